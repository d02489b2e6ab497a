/- What those partial functions come to: plain lemmas on data; each bears its conditions in its statement. -/
import Derived.Test.YtppbkkcekpbaiaaGreatDef
set_option linter.unusedVariables false
set_option linter.unusedSimpArgs false
set_option linter.ambiguousOpen false
set_option linter.unusedSectionVars false
set_option linter.unnecessarySimpa false
set_option maxRecDepth 100000
set_option maxHeartbeats 4000000
noncomputable section
open Nat renaming add_zero→Dgz,le_refl→Adz,zero_add→Ahz,add_sub_cancel→Ecz,zero_le→Aiz,le_trans→Blz,pow_le_pow_right→Edz,one_le_two_pow→Eez,or_lt_two_pow→Efz
open List renaming mem_cons→Egz,pairwise_cons→Ehz,take_append_drop→Coz,pairwise_append→Eiz,nil_append→Bwz,take_add_one→Ejz,length_append→Bgz,append_assoc→Bhz,length_nil→Ekz,append_nil→Bxz,getElem?_set→Chz,length_drop→Cdz,getElem?_eq_getElem→Auz,getElem?_drop→Axz,replicate→Cbz,findIdx_cons→Elz,any_cons→Emz,drop_eq_nil_of_le→Enz,drop_eq_getElem_cons→Dbz,any_eq_true→Eoz,not_mem_nil→Cfz,mem_of_getElem?→Ckz,getElem?_eq_none→Bfz,mem_append→Clz,mem_singleton→Byz,any_eq_false→Epz,getElem?_of_mem→Eqz,getD_eq_getElem?_getD→Ddz,getElem?_map→Dnz,getElem?_append_right→Bez,length_take→Ccz,getElem?_take→Azz,map_append→Dvz,ext_getElem?→Cnz,mem_of_find?_eq_some→Erz,eq_nil_of_length_eq_zero→Ayz,zipIdx_cons→Esz,range'→Dxz,range'_succ→Etz,length_filter_le→Euz,any_map→Evz,map_cons→Bcz,not_any_eq_all_not→Ewz,map_nil→Dpz,all_eq_true→Exz,findIdx?_cons→Eyz,findIdx?_eq_none_iff→Ezz,getElem?_cons_zero→Faz,getElem?_cons_succ→Bbz,getD_cons_zero→Fbz,getD_cons_succ→Fcz,findIdx?_eq_some_iff_getElem→Fdz,getElem?_mapIdx→Fez,sum_cons→Ffz
open Bool renaming not_true→Fgz,false_eq_true→Fhz,and_false→Fiz,and_true→Fjz,true_and→Fkz,not_eq_true'→Amz,not_false→Flz,not_not→Fmz,and_eq_true→Akz,or_self→Fnz,or_eq_false_iff→Dtz
open Int renaming natCast_nonneg→Eaz,toNat→Foz
open Option renaming map_some→Dlz,getD_some→Dmz
namespace Go.Proofs.YtppbkkcekpbaiaaGreat
open Go Go.E
def z2t (xk1:Rl_)(k2:Nat)(xk2:Int):Nat→Int→((List Int)×Int)→Option ((List Int)×Int):=fun k3 xk3 (s6,s7)=>
(
(q8G xk1 (k2:Int) (k3:Int)).bind fun y5=>
if y5=true then (
(q8c (⟨s7,s6⟩:Rl_) xk2 xk3).bind fun y6=>
some (y6.Rows,y6.N)
) else (
some (s6,s7)
)
).bind fun (s8,s9)=>
some (s8,s9)
def z5f (xk1:Rl_)(y3:(List Int)):Nat→Int→((List Int)×Int)→Option ((List Int)×Int):=fun k2 xk2 (s4,s5)=>
(eachL (z2t xk1 k2 xk2) 0 y3 (s4,s5)).bind fun (s6,s7)=>
some (s6,s7)
end Go.Proofs.YtppbkkcekpbaiaaGreat
namespace Go.E
section
variable {α σ ρ:Type}
theorem z8j {c:ρ}:∀ {xs:List α} {i:Nat} {p:Nat→α→Prop} {f:Nat→α→Unit→Option (Unit ⊕ ρ)},(∀ k x,xs[k]?=some x→(p (i+k) x→f (i+k) x ()=some (.inr c))∧(¬ p (i+k) x→f (i+k) x ()=some (.inl ()))) →
  ((∃ k x,xs[k]?=some x∧p (i+k) x)→findL f i xs ()=some (.inr c))∧((∀ k x,xs[k]?=some x→¬ p (i+k) x)→findL f i xs ()=some (.inl ()))
 | [],i,p,f,_=>⟨fun ⟨k,x,h,_⟩=>by simp at h,fun _=>rfl⟩
 | x::xs,i,p,f,h=>by
  have h0:=h 0 x rfl
  simp only[Dgz] at h0
  have ih:=z8j (c:=c) (xs:=xs) (i:=i+1) (p:=p) (f:=f) fun k y hy=>by
   have:=h (k+1) y hy
   rwa[show i+(k+1)=i+1+k by omega] at this
  by_cases hp:p i x
  ·refine⟨fun _=>by simp[findL,h0.1 hp],fun hn=>absurd hp (hn 0 x rfl)⟩
  ·simp only[findL,h0.2 hp,bsS]
   refine⟨?_,?_⟩
   ·rintro⟨k,y,hy,hpy⟩
    cases k with
    | zero=>simp at hy;subst hy;exact absurd hpy hp
    | succ k=>exact ih.1 ⟨k,y,hy,by rwa[show i+1+k=i+(k+1) by omega]⟩
   ·intro hn
    exact ih.2 fun k y hy hpy=>hn (k+1) y hy (by rwa[show i+(k+1)=i+1+k by omega])
theorem j0i {c:ρ}:∀ {n i:Nat} {p:Nat→Prop} {f:Nat→Unit→Option (Unit ⊕ ρ)},(∀ k,k<n→(p (i+k)→f (i+k) ()=some (.inr c))∧(¬ p (i+k)→f (i+k) ()=some (.inl ()))) →
  ((∃ k,k<n∧p (i+k))→findN f i n ()=some (.inr c))∧((∀ k,k<n→¬ p (i+k))→findN f i n ()=some (.inl ()))
 | 0,i,p,f,_=>⟨fun ⟨k,h,_⟩=>by omega,fun _=>rfl⟩
 | n+1,i,p,f,h=>by
  have h0:=h 0 (by omega)
  simp only[Dgz] at h0
  have ih:=j0i (c:=c) (n:=n) (i:=i+1) (p:=p) (f:=f) fun k hk=>by
   have:=h (k+1) (by omega)
   rwa[show i+(k+1)=i+1+k by omega] at this
  by_cases hp:p i
  ·refine⟨fun _=>by simp[findN,h0.1 hp],fun hn=>absurd hp (hn 0 (by omega))⟩
  ·simp only[findN,h0.2 hp,bsS]
   refine⟨?_,?_⟩
   ·rintro⟨k,hk,hpk⟩
    cases k with
    | zero=>exact absurd hpk hp
    | succ k=>exact ih.1 ⟨k,by omega,by rwa[show i+1+k=i+(k+1) by omega]⟩
   ·intro hn
    exact ih.2 fun k hk hpk=>hn (k+1) (by omega) (by rwa[show i+(k+1)=i+1+k by omega])
theorem k0Y [DecidableEq α]{y:α}:∀ {xs:List α} {i:Nat} {f:Nat→α→Unit→Option (Unit ⊕ Int)},(∀ k x,(x=y→f k x ()=some (.inr (k:Int)))∧(x≠y→f k x ()=some (.inl ()))) →
  findL f i xs ()=some (if y∈xs then .inr ((i+xs.idxOf y:Nat):Int) else .inl ())
 | [],i,f,_=>by simp[findL]
 | x::xs,i,f,h=>by
  by_cases hx:x=y
  ·subst hx;simp[findL,(h i x).1 rfl]
  ·have hx' : (x == y)=false:=by simpa using hx
   simp only[findL,(h i x).2 hx,bsS,k0Y (xs:=xs) (i:=i+1) h,Egz,List.idxOf_cons,hx',cond_false]
   by_cases hy:y∈xs
   ·simp[hy];omega
   ·have:¬ y=x:=fun e=>hx e.symm
    simp[hy,this]
theorem j3F [DecidableEq α]{y:α}{xs:List α}{f:Nat→α→Unit→Option (Unit ⊕ Int)}(h:∀ k x,(x=y→f k x ()=some (.inr (k:Int)))∧(x≠y→f k x ()=some (.inl ()))) :
  (findL f 0 xs ()).bind (onr (fun r1=>some r1) fun _=>some (-1))=some (ixF xs y):=by
 rw[k0Y h]
 unfold ixF
 by_cases hy:y∈xs<;>simp[hy]
theorem j2n {P:Nat→σ→Prop}:∀ {n i:Nat} {s:σ} {f:Nat→σ→Option σ},P i s→(∀ k s,i≤k→k<i+n→P k s→∃ s',f k s=some s'∧P (k+1) s')→∃ s',eachN f i n s=some s'∧P (i+n) s'
 | 0,i,s,f,h,_=>⟨s,rfl,h⟩
 | n+1,i,s,f,h,hs=>by
  obtain⟨s1,h1,h2⟩:=hs i s (Adz _) (by omega) h
  obtain⟨s2,h3,h4⟩:=j2n (P:=P) (n:=n) (i:=i+1) (f:=f) h2 fun k s hk hk2 hp=>hs k s (by omega) (by omega) hp
  exact⟨s2,by simp[eachN,h1,h3],by rw[show i+(n+1)=i+1+n by omega];exact h4⟩
end
end Go.E
noncomputable section
namespace Go.Proofs.YtppbkkcekpbaiaaGreat
open Go Go.E
open Go.E.Sz (szd)
instance:Sz At_ where
 szd x:=x.Name.size
theorem j6C (x:At_):Sz.szd x=x.Name.size:=rfl
instance:Sz Symbol where
 szd x:=x.Name.size+szL x.as_
theorem j5j (x:Symbol):Sz.szd x=x.Name.size+szL x.as_:=rfl
mutual
def z2u:Expr→Nat
 | ⟨a0,a1,a2,a3,a4,a5,a6⟩=>a4.size+a5.size+z5y a6
def z5y:List Expr→Nat
 | []=>0
 | x::xs=>1+z2u x+z5y xs
end
instance:Sz Expr:=⟨z2u⟩
theorem j9Q (a:List Expr):z5y a=szL a:=by
 induction a with
 | nil=>rfl
 | cons x xs ih=>simp only[z5y,szL,ih];rfl
theorem q7t (x:Expr):Sz.szd x=x.Symbol.size+x.Name.size+szL x.Args:=by
 cases x;show z2u _=_;simp only[z2u,j9Q]
instance:Sz Eqn where
 szd x:=x.At.Name.size+x.Expr.Symbol.size+x.Expr.Name.size+szL x.Expr.Args
theorem j1G (x:Eqn):Sz.szd x=x.At.Name.size+x.Expr.Symbol.size+x.Expr.Name.size+szL x.Expr.Args:=rfl
instance:Sz Cn where
 szd x:=x.Symbol.size+x.Name.size+x.Target.Symbol.size+x.Target.Name.size+szL x.Target.Args+x.Value.Symbol.size+x.Value.Name.size+szL x.Value.Args
theorem z7p (x:Cn):Sz.szd x=x.Symbol.size+x.Name.size+x.Target.Symbol.size+x.Target.Name.size+szL x.Target.Args+x.Value.Symbol.size+x.Value.Name.size+szL x.Value.Args:=rfl
instance:Sz Rule where
 szd x:=x.Name.size+x.Left.size+szL x.rt_+szL x.es_+szL x.cs_
theorem j0j (x:Rule):Sz.szd x=x.Name.size+x.Left.size+szL x.rt_+szL x.es_+szL x.cs_:=rfl
instance:Sz Gm_ where
 szd x:=szL x.ss_+szL x.rs_
theorem z7a (x:Gm_):Sz.szd x=szL x.ss_+szL x.rs_:=rfl
instance:Sz Ph_ where
 szd x:=szL x.id_+szL x.sd_
theorem k3H (x:Ph_):Sz.szd x=szL x.id_+szL x.sd_:=rfl
end Go.Proofs.YtppbkkcekpbaiaaGreat
namespace Go.E
section
variable {α:Type}{lt:α→α→Bool}
theorem j5k (irr:∀ a,lt a a=false)(tr:∀ a b c,lt a b=true→lt b c=true→lt a c=true) :
  ∀ {xs ys:List α},xs.Pairwise (fun a b=>lt a b=true)→ys.Pairwise (fun a b=>lt a b=true)→(∀ a,a∈xs↔a∈ys)→xs=ys
 | [],[],_,_,_=>rfl
 | [],y::ys,_,_,h=>absurd ((h y).2 (by simp)) (by simp)
 | x::xs,[],_,_,h=>absurd ((h x).1 (by simp)) (by simp)
 | x::xs,y::ys,hx,hy,h=>by
  rw[Ehz] at hx hy
  have asym:∀ a b,lt a b=true→lt b a=true→False:=fun a b h1 h2=>by have:=tr a b a h1 h2;rw[irr] at this;cases this
  have hxy:x=y:=by
   have h1:=(h x).1 (by simp)
   have h2:=(h y).2 (by simp)
   rcases List.mem_cons.1 h1 with e|h1
   ·exact e
   rcases List.mem_cons.1 h2 with e|h2
   ·exact e.symm
   exact (asym x y (hx.1 y h2) (hy.1 x h1)).elim
  subst hxy
  congr 1
  refine j5k irr tr hx.2 hy.2 fun a=>?_
  constructor
  ·intro ha
   rcases List.mem_cons.1 ((h a).1 (by simp[ha])) with e|h1
   ·subst e;have:=hx.1 _ ha;rw[irr] at this;cases this
   ·exact h1
  ·intro ha
   rcases List.mem_cons.1 ((h a).2 (by simp[ha])) with e|h1
   ·subst e;have:=hy.1 _ ha;rw[irr] at this;cases this
   ·exact h1
theorem k2q (tr:∀ a b c,lt a b=true→lt b c=true→lt a c=true)(tot:∀ a b,lt a b=false→lt b a=false→a=b){l:List α}{o:α}{k:Nat}(hl:l.Pairwise (fun a b=>lt a b=true))
  (hb:∀ a∈l.take k,lt a o=true) (ha:∀ y,l[k]?=some y→lt y o=false∧y≠o):(l.take k++o::l.drop k).Pairwise (fun a b=>lt a b=true):=by
 have hs:(l.take k++l.drop k).Pairwise (fun a b=>lt a b=true):=by rw[Coz];exact hl
 rw[Eiz] at hs
 have ho:∀ z∈l.drop k,lt o z=true:=by
  cases hd:l.drop k with
  | nil=>intro z hz;cases hz
  | cons y r=>
   have hy:l[k]?=some y:=by
    have:(l.drop k)[0]?=some y:=by rw[hd];rfl
    simpa using this
   obtain⟨h1,h2⟩:=ha y hy
   have h3:lt o y=true:=by
    cases h:lt o y with
    | true=>rfl
    | false=>exact absurd (tot _ _ h1 h) h2
   intro z hz
   rcases List.mem_cons.1 hz with e|hz
   ·rw[e];exact h3
   ·have:=hs.2.1;rw[hd,Ehz] at this
    exact tr _ _ _ h3 (this.1 z hz)
 rw[Eiz,Ehz]
 refine⟨hs.1,⟨ho,hs.2.1⟩,fun a h1 b h2=>?_⟩
 rcases List.mem_cons.1 h2 with e|h2
 ·rw[e];exact hb a h1
 ·exact hs.2.2 a h1 b h2
end
section
variable {α:Type}[DecidableEq α]{lt:α→α→Bool}
def q5K:List α→List α
 | []=>[]
 | [x]=>[x]
 | x::y::l=>if x=y then q5K (y::l) else x::q5K (y::l)
theorem z8k {a:α}:∀ {l:List α},a∈q5K l↔a∈l
 | []=>Iff.rfl
 | [x]=>Iff.rfl
 | x::y::l=>by
  unfold q5K
  have ih:=z8k (a:=a) (l:=y::l)
  split
  ·rename_i e;subst e;rw[ih];simp
  ·rw[Egz,ih];simp
theorem z8l (tr:∀ a b c,lt a b=true→lt b c=true→lt a c=true)(tot:∀ a b,lt a b=false→lt b a=false→a=b) :
  ∀ {l:List α},l.Pairwise (fun a b=>lt b a=false)→(q5K l).Pairwise (fun a b=>lt a b=true)
 | [],_=>List.Pairwise.nil
 | [x],_=>by simp[q5K]
 | x::y::l,h=>by
  unfold q5K
  rw[Ehz] at h
  have ih:=z8l tr tot h.2
  split
  ·exact ih
  ·rename_i hne
   rw[Ehz]
   refine⟨fun z hz=>?_,ih⟩
   have h1:lt x y=true:=by
    cases e:lt x y with
    | true=>rfl
    | false=>exact absurd (tot _ _ e (h.1 y (by simp))) hne
   rcases List.mem_cons.1 (z8k.1 hz) with e|hz
   ·rw[e];exact h1
   ·have h2:=(List.pairwise_cons.1 h.2).1 z hz
    cases e:lt y z with
    | true=>exact tr _ _ _ h1 e
    | false=>rw[← tot _ _ e h2];exact h1
theorem j0k {a:α}:∀ {l:List α},q5K (l++[a])=if l.getLast?=some a then q5K l else q5K l++[a]
 | []=>by simp[q5K]
 | [x]=>by
  simp only[q5K,List.cons_append,Bwz,List.getLast?_singleton,Option.some.injEq]
  by_cases e:x=a
  ·subst e;simp
  ·simp[e]
 | x::y::l=>by
  have ih:=j0k (a:=a) (l:=y::l)
  simp only[List.cons_append] at ih ⊢
  have e:(x::y::l).getLast?=(y::l).getLast?:=by simp[List.getLast?_cons_cons]
  rw[e]
  show (if x=y then q5K (y::(l++[a])) else x::q5K (y::(l++[a])))=_
  rw[ih]
  show _=if (y::l).getLast?=some a then (if x=y then q5K (y::l) else x::q5K (y::l)) else (if x=y then q5K (y::l) else x::q5K (y::l))++[a]
  split<;>split<;>simp
theorem j0l {l:List α}{i:Nat}{a b:α}(ha:l[i]?=some a)(hb:l[i+1]?=some b):q5K (l.take (i+2))=if a=b then q5K (l.take (i+1)) else q5K (l.take (i+1))++[b]:=by
 have h1:l.take (i+2)=l.take (i+1)++[b]:=by rw[show i+2=(i+1)+1 from rfl,Ejz,hb];rfl
 have h2:(l.take (i+1)).getLast?=some a:=by rw[Ejz,ha];simp
 rw[h1,j0k,h2]
 by_cases e:a=b
 ·simp[e]
 ·simp[e]
end
end Go.E
namespace Go.Proofs.YtppbkkcekpbaiaaGreat
open Go Go.E
mutual
def z7b:Expr→List Oc
 | ⟨a0,a1,a2,a3,a4,a5,a6⟩=>(if a0=3 then [⟨a2,a5⟩] else [])++z2v a6
def z2v:List Expr→List Oc
 | []=>[]
 | x::xs=>z7b x++z2v xs
end
mutual
def fuE:Expr→Nat
 | ⟨_,_,_,_,_,_,a6⟩=>fuEs a6+1
def fuEs:List Expr→Nat
 | []=>0
 | x::xs=>max (fuE x) (fuEs xs)
end
theorem j1H (e:Expr):fuE e=fuEs e.Args+1:=by cases e;rfl
theorem j6D:∀ {l:List Expr} {x:Expr},x∈l→fuE x≤fuEs l
 | y::l,x,h=>by
  simp only[fuEs]
  rcases List.mem_cons.1 h with e|h
  ·subst e;omega
  ·have:=j6D h;omega
theorem z7c (e:Expr):z7b e=(if e.Kind=3 then [⟨e.Pos,e.Name⟩] else [])++z2v e.Args:=by cases e;rfl
mutual
theorem j8r:∀ e:Expr,(z7b e).length≤1+z2u e
 | ⟨a0,a1,a2,a3,a4,a5,a6⟩=>by
  have:=j5l a6
  simp only[z7b,z2u,Bgz]
  split<;>simp<;>omega
theorem j5l:∀ l:List Expr,(z2v l).length≤z5y l
 | []=>by simp[z2v]
 | x::xs=>by
  have h1:=j8r x
  have h2:=j5l xs
  simp only[z2v,z5y,Bgz];omega
end
theorem z7d {α:Type}[Sz α]{x:α}:∀ {l:List α},x∈l→Sz.szd x<szL l
 | [],h=>by simp at h
 | y::l,h=>by
  rcases List.mem_cons.1 h with rfl|h
  ·simp only[szL];omega
  ·have:=z7d h;simp only[szL];omega
theorem k7w {e x:Expr}(h:x∈e.Args):Sz.szd x<Sz.szd e:=by
 have h1:=q7t e
 have h2:=z7d h
 omega
theorem k3I {e:Expr}(h:Sz.szd e≤1048576):(z7b e).length≤1048577:=by
 have h1:=j8r e
 have h2:z2u e=Sz.szd e:=rfl
 omega
theorem j9R:∀ (m:Nat) (e:Expr) (o:List Oc),fuE e≤m→o.length+(z7b e).length≤4398046511104→q5h m e o=some (true,o++z7b e):=by
 intro m
 induction m with
 | zero=>intro e o h;rw[j1H] at h;omega
 | succ m ih=>
  have hl:∀ (l:List Expr) (i:Nat) (o:List Oc),fuEs l≤m→o.length+(z2v l).length≤4398046511104→findL (q4I (q5h m)) i l o=some (.inl (o++z2v l)):=by
   intro l
   induction l with
   | nil=>intro i o _ _;simp[findL,z2v]
   | cons x l ihl=>
    intro i o hf hb
    simp only[fuEs] at hf
    simp only[z2v,Bgz] at hb
    have hx:=ih x o (by omega) (by omega)
    simp only[findL,q4I,q6g,hx,bsS,Fgz,Fhz,if_false]
    rw[ihl _ _ (by omega) (by rw[Bgz];omega),z2v,Bhz]
  intro e o hf hb
  rw[j1H] at hf
  show q5D (q5h m) e o=_
  have hb':=hb
  rw[z7c,Bgz] at hb'
  have h1:q8J e o=some (true,o++if e.Kind=3 then [⟨e.Pos,e.Name⟩] else []):=by
   unfold q8J
   by_cases hk:e.Kind=3
   ·rw[ifP hk] at hb' ⊢
    rw[ifP hk,q3M]
    simp only[lnC,Ekz] at hb'
    constructor<;>omega
   ·rw[ifN hk,ifN hk,Bxz]
  unfold q5D
  rw[h1,bsS]
  dsimp only
  rw[ifP rfl]
  unfold q3Y q4e
  rw[hl _ _ _ (by omega) (by rw[Bgz];omega),z7c]
  simp[onr]
theorem k5V {e:Expr}(h:(z7b e).length≤4398046511104):q7x e []=some (true,z7b e):=
 z0N (fuE e) fun m hm=>by simpa using j9R m e [] hm (by simpa using h)
theorem j9S {α:Type}{s:List α}{k:Nat}{x:α}(h:k<s.length):(s.set k x).take (k+1)=s.take k++[x]:=by
 rw[Ejz,List.take_set,List.set_eq_of_length_le (by simp;omega)]
 simp[Chz,h]
theorem k2r {a:List Oc}{b:Nat}(ha:a.length≤4398046511104)(hb:1≤b)(hba:b<a.length):∀ (m j k:Nat) (s:List Oc),b+j+m=a.length→1≤j→1≤k→k≤b+j-1→s.length=a.length→s.take k=q5K (a.take (b+j))→s.drop (b+j-1)=a.drop (b+j-1) →
  ∃ s' k',q4G (q4q (b:Int)) (s,(k:Int),(j:Int))=some (s',((k' : Nat):Int))∧k'≤s'.length∧s'.take k'=q5K a:=by
 intro m
 induction m with
 | zero=>
  intro j k s hm hj hk hkj hs ht hd
  refine⟨s,k,q3N ?_,by omega,?_⟩
  ·unfold q4q
   dsimp only
   rw[ifN (by simp only[tnC,Cdz];omega)]
  ·rw[ht,show b+j=a.length by omega,List.take_length]
 | succ m ih=>
  intro j k s hm hj hk hkj hs ht hd
  obtain⟨x,hx⟩:∃ x,a[b+j]?=some x:=⟨_,Auz (by omega)⟩
  obtain⟨y,hy⟩:∃ y,a[b+j-1]?=some y:=⟨_,Auz (by omega)⟩
  obtain⟨z,hz⟩:∃ z,s[k]?=some z:=⟨_,Auz (by omega)⟩
  have hsx:s[b+j]?=some x:=by
   have:=congrArg (fun l=>l[1]?) hd
   simp only[Axz] at this
   rw[show b+j-1+1=b+j by omega] at this
   rw[this,hx]
  have hsy:s[b+(j-1)]?=some y:=by
   have:=congrArg (fun l=>l[0]?) hd
   simp only[Axz,Dgz] at this
   rw[show b+(j-1)=b+j-1 by omega,this,hy]
  have hc:=j0l (i:=b+j-1) (b:=x) hy (by rw[show b+j-1+1=b+j by omega];exact hx)
  rw[show b+j-1+2=b+(j+1) by omega,show b+j-1+1=b+j by omega] at hc
  have hd2:s.drop (b+(j+1)-1)=a.drop (b+(j+1)-1):=by
   have:=congrArg (fun l=>l.drop 1) hd
   simp only[List.drop_drop] at this
   rw[show b+(j+1)-1=b+j-1+1 by omega];exact this
  have e1:((j:Int)-1).toNat=j-1:=by omega
  by_cases hxy:x=y
  ·have e:q4q (b:Int) (s,(k:Int),(j:Int))=some (.inl (s,(k:Int),((j+1:Nat):Int))):=by
    unfold q4q
    dsimp only
    rw[ifP (by simp only[tnC,Cdz];omega),q3M (by omega)]
    simp only[tnC]
    rw[hsx,bsS,q3M (by constructor<;>omega),q3M (by omega),e1,hsy,bsS,ifP hxy,bsS]
    dsimp only
    rw[q3M (by constructor<;>omega)];rfl
   rw[q4b e]
   exact ih (j+1) k s (by omega) (by omega) hk (by omega) hs (by rw[hc,ifP hxy.symm,ht]) hd2
  ·have e:q4q (b:Int) (s,(k:Int),(j:Int))=some (.inl (s.set k x,((k+1:Nat):Int),((j+1:Nat):Int))):=by
    unfold q4q
    dsimp only
    rw[ifP (by simp only[tnC,Cdz];omega),q3M (by omega)]
    simp only[tnC]
    rw[hsx,bsS,q3M (by constructor<;>omega),q3M (by omega),e1,hsy,bsS,ifN hxy,q3M (by omega),q3M (by omega),hz,bsS,q3M (by constructor<;>omega),bsS]
    dsimp only
    rw[q3M (by constructor<;>omega)];rfl
   rw[q4b e]
   refine ih (j+1) (k+1) _ (by omega) (by omega) (by omega) (by omega) (by rw[List.length_set];exact hs) ?_ ?_
   ·rw[j9S (by omega),ht,hc,ifN (fun h=>hxy h.symm)]
   ·rw[List.drop_set,ifP (by omega)];exact hd2
theorem j9T {a:List Oc}(ha:a.length≤4398046511104):∀ (m k:Nat),k+m=a.length→1≤k→q5K (a.take k)=a.take k →
  (q4G (q4r a) (k:Int)).bind (onr (fun r1=>some r1) fun _=>some a)=some (q5K a):=by
 intro m
 induction m with
 | zero=>
  intro k hm hk hc
  have e:q4r a (k:Int)=some (.inr (.inl ())):=by
   unfold q4r
   dsimp only
   rw[ifN (by omega)]
  rw[q3N e,bsS]
  show some a=_
  rw[show k=a.length by omega,List.take_length] at hc
  rw[hc]
 | succ m ih=>
  intro k hm hk hc
  obtain⟨x,hx⟩:∃ x,a[k]?=some x:=⟨_,Auz (by omega)⟩
  obtain⟨y,hy⟩:∃ y,a[k-1]?=some y:=⟨_,Auz (by omega)⟩
  have hct:=j0l (i:=k-1) (b:=x) hy (by rw[show k-1+1=k by omega];exact hx)
  rw[show k-1+2=k+1 by omega,show k-1+1=k by omega] at hct
  have htk:a.take (k+1)=a.take k++[x]:=by rw[Ejz,hx];rfl
  have e1:((k:Int)-1).toNat=k-1:=by omega
  by_cases hxy:x=y
  ·obtain⟨s',k',h1,h2,h3⟩:=k2r (b:=k) ha hk (by omega) m 1 k a (by omega) (by omega) hk (by omega) rfl (by rw[hct,ifP hxy.symm,hc]) rfl
   have hl:(s'.take k'++Cbz (s'.length-k') (⟨(0:Int),(⟨#[]⟩:BA_)⟩:Oc)).take k'=q5K a:=by
    rw[List.take_append_of_le_length (by simp;omega),List.take_take,Nat.min_self,h3]
   have e:q4r a (k:Int)=some (.inr (.inr (q5K a))):=by
    unfold q4r
    dsimp only
    rw[ifP (by omega),q3M (by omega)]
    simp only[tnC]
    rw[hx,bsS,q3M (by constructor<;>omega),q3M (by omega),e1,hy,bsS,ifP hxy,q3M (by omega),q3M (by omega)]
    have h1' : q4G (q4q (k:Int)) (a,(k:Int),1)=some (s',((k' : Nat):Int)):=h1
    rw[h1',bsS]
    dsimp only
    simp only[tnC]
    rw[q3M (by omega),q3M (by omega),q3M (by omega),q3M (by simp;omega),hl]
   rw[q3N e,bsS];rfl
  ·have e:q4r a (k:Int)=some (.inl ((k+1:Nat):Int)):=by
    unfold q4r
    dsimp only
    rw[ifP (by omega),q3M (by omega)]
    simp only[tnC]
    rw[hx,bsS,q3M (by constructor<;>omega),q3M (by omega),e1,hy,bsS,ifN hxy,q3M (by constructor<;>omega)];rfl
   rw[q4b e]
   exact ih (k+1) (by omega) (by omega) (by rw[hct,ifN (fun h=>hxy h.symm),hc,htk])
theorem k2s {a:List Oc}(ha:a.length≤4398046511104):q5Y a=some (q5K a):=by
 unfold q5Y
 by_cases h:(a.length:Int)<2
 ·rw[ifP h]
  match a,h with
  | [],_=>rfl
  | [x],_=>rfl
  | x::y::l,h=>simp only[lnC] at h;omega
 ·rw[ifN h]
  refine j9T ha (a.length-1) 1 (by omega) (Adz _) ?_
  match a,h with
  | x::l,_=>rfl
def attrs (e:Expr):List Oc:=q5K (j7R (z7b e))
theorem k3J {o:Oc}{e:Expr}:o∈attrs e↔o∈z7b e:=by
 unfold attrs j7R
 rw[z8k,List.mem_mergeSort]
theorem j2o {e:Expr}(h:Sz.szd e≤1048576):q7y e=some (attrs e):=by
 have hl:=k3I h
 have hs:(j7R (z7b e)).length=(z7b e).length:=by unfold j7R;exact List.length_mergeSort _
 unfold q7y
 rw[k5V (by omega),bsS]
 dsimp only
 unfold q6D
 rw[q3M (by omega),bsS,k2s (by omega)];rfl
theorem z6v (e:Expr):1≤fuE e:=by rw[j1H];omega
theorem z5z {e x:Expr}(hx:x∈e.Args):fuE x+1≤fuE e:=by
 have:=j6D hx
 have:=j1H e
 omega
theorem z1l {P:Expr→Prop}(h:∀ e,(∀ x∈e.Args,P x)→P e)(e:Expr):P e:=by
 have:∀ n e,fuE e≤n→P e:=by
  intro n
  induction n with
  | zero=>intro e he;have:=z6v e;omega
  | succ n ih=>intro e he;exact h e fun x hx=>ih x (by have:=z5z hx;omega)
 exact this _ e (Adz _)
theorem q4X {α ρ:Type}{c:ρ}{q:α→Bool}:∀ {xs:List α} {i:Nat} {f:Nat→α→Unit→Option (Unit ⊕ ρ)},(∀ k x,x∈xs→f k x ()=some (if q x=true then .inl () else .inr c))→findL f i xs ()=some (if xs.all q=true then .inl () else .inr c)
 | [],i,f,h=>rfl
 | x::xs,i,f,h=>by
  rw[findL,h i x (by simp)]
  by_cases hx:q x=true
  ·rw[ifP hx,bsS]
   show findL f (i+1) xs ()=_
   rw[q4X fun k y hy=>h k y (by simp[hy])]
   simp[hx]
  ·rw[ifN hx];simp[hx]
theorem j3G {α:Type}{q:α→Bool}:∀ {xs:List α} {i:Nat} {f:Nat→α→Unit→Option (Unit ⊕ Int)},(∀ k x,x∈xs→f k x ()=some (if q x=true then .inr (k:Int) else .inl ()))→findL f i xs ()=some (if xs.any q=true then .inr ((i+xs.findIdx q:Nat):Int) else .inl ())
 | [],i,f,h=>rfl
 | x::xs,i,f,h=>by
  rw[findL,h i x (by simp)]
  by_cases hx:q x=true
  ·rw[ifP hx];simp[hx,Elz]
  ·rw[ifN hx,bsS]
   show findL f (i+1) xs ()=_
   rw[j3G fun k y hy=>h k y (by simp[hy])]
   have hx' : q x=false:=by simpa using hx
   simp only[Emz,hx',Bool.false_or,Elz,cond_false]
   rw[show i+1+xs.findIdx q=i+(xs.findIdx q+1) by omega]
mutual
def allE (p:Expr→Bool):Expr→Bool
 | ⟨a0,a1,a2,a3,a4,a5,a6⟩=>p ⟨a0,a1,a2,a3,a4,a5,a6⟩&&k5W p a6
def k5W (p:Expr→Bool):List Expr→Bool
 | []=>true
 | x::xs=>allE p x&&k5W p xs
end
mutual
def cntE:Expr→Nat
 | ⟨_,_,_,_,_,_,a6⟩=>z7e a6+1
def z7e:List Expr→Nat
 | []=>0
 | x::xs=>cntE x+z7e xs
end
mutual
def depE:Expr→Nat
 | ⟨_,_,_,_,_,_,a6⟩=>j4J a6+1
def j4J:List Expr→Nat
 | []=>0
 | x::xs=>max (depE x) (j4J xs)
end
theorem k0Z (p:Expr→Bool):∀ l,k5W p l=l.all (allE p)
 | []=>rfl
 | x::xs=>by rw[k5W,k0Z p xs];rfl
theorem j0V (p:Expr→Bool)(e:Expr):allE p e=(p e&&e.Args.all (allE p)):=by
 cases e;rw[allE,k0Z]
theorem j0W (e:Expr):cntE e=z7e e.Args+1:=by cases e;rfl
theorem k3K (e:Expr):depE e=j4J e.Args+1:=by cases e;rfl
mutual
theorem j6E:∀ e:Expr,cntE e≤1+z2u e
 | ⟨a0,a1,a2,a3,a4,a5,a6⟩=>by
  have:=j8s a6
  simp only[cntE,z2u];omega
theorem j8s:∀ l:List Expr,z7e l≤z5y l
 | []=>by simp[z7e]
 | x::xs=>by
  have h1:=j6E x
  have h2:=j8s xs
  simp only[z7e,z5y];omega
end
theorem k7x {e:Expr}(h:Sz.szd e≤1048576):cntE e≤1048577:=by
 have h1:=j6E e
 have h2:z2u e=Sz.szd e:=rfl
 omega
mutual
theorem k3L:∀ e:Expr,depE e≤cntE e
 | ⟨_,_,_,_,_,_,a6⟩=>by
  have:=k1a a6
  simp only[depE,cntE];omega
theorem k1a:∀ l:List Expr,j4J l≤z7e l
 | []=>Adz _
 | x::xs=>by
  have h1:=k3L x
  have h2:=k1a xs
  simp only[j4J,z7e];omega
end
theorem j8t:∀ {l:List Expr} {x:Expr},x∈l→cntE x≤z7e l
 | y::l,x,h=>by
  simp only[z7e]
  rcases List.mem_cons.1 h with e|h
  ·subst e;omega
  ·have:=j8t h;omega
theorem k3M {e x:Expr}(hx:x∈e.Args):cntE x+1≤cntE e:=by
 have:=j8t hx
 have:=j0W e
 omega
theorem k2t (e:Expr):∀ m,fuE e≤m→cntE e≤1099511627776→z1G m e=some (cntE e:Int):=by
 induction e using z1l with
 | h e ih=>
  intro m hm hc
  obtain⟨m,rfl⟩:∃ q,m=q+1:=⟨m-1,by have:=z6v e;omega⟩
  show z3x (z1G m) e=_
  unfold z3x
  have key:∀ (l:List Expr) (i s:Nat),(∀ x∈l,x∈e.Args)→s+z7e l≤1099511627776→eachL (z4g (z1G m)) i l (s:Int)=some ((s+z7e l:Nat):Int):=by
   intro l
   induction l with
   | nil=>intro i s _ _;rfl
   | cons x l ihl=>
    intro i s hx hs
    have hxm:=hx x (by simp)
    simp only[z7e] at hs
    have h1:=ih x hxm m (by have:=z5z hxm;omega) (by omega)
    rw[eachL]
    unfold z4g
    rw[h1,bsS,q3M (by constructor<;>omega),bsS]
    have:=ihl (i+1) (s+cntE x) (fun y hy=>hx y (by simp[hy])) (by omega)
    rw[Int.natCast_add] at this
    unfold z4g at this
    rw[this,z7e]
    congr 1;omega
  rw[j0W] at hc
  have:=key e.Args 0 1 (fun _ h=>h) (by omega)
  rw[show ((1:Nat):Int)=1 from rfl] at this
  rw[this,bsS,j0W,Nat.add_comm]
theorem k3N {e:Expr}(h:cntE e≤1099511627776):z7L e=some (cntE e:Int):=z0N (fuE e) fun m hm=>k2t e m hm h
theorem k9I (a b:Nat):(if (b:Int) > (a:Int) then (b:Int) else (a:Int))=((max a b:Nat):Int):=by
 split<;>omega
theorem j3H {f:Expr→Option Int}{g:Nat→Expr→Int→Option Int}(hg:∀ k x s,g k x s=(f x).bind fun y=>some (if y > s then y else s)):∀ (l:List Expr) (i s:Nat),(∀ x∈l,f x=some (depE x:Int))→eachL g i l (s:Int)=some ((max s (j4J l):Nat):Int)
 | [],i,s,_=>by rw[eachL,j4J,Nat.max_zero]
 | x::l,i,s,h=>by
  rw[eachL,hg,h x (by simp),bsS,bsS,k9I,j3H hg l (i+1) _ fun y hy=>h y (by simp[hy]),j4J,Nat.max_assoc]
theorem k3O (a b:Int):z3h a b=some (if b > a then b else a):=by
 unfold z3h
 by_cases h:b<a
 ·rw[ifP h,ifN (by omega)]
 ·rw[ifN h]
  split
  ·rfl
  ·congr 1;omega
theorem j5m (e:Expr):∀ m,fuE e≤m→cntE e≤1099511627776→q7W m e=some (depE e:Int)∧q7V m e=some (depE e:Int):=by
 induction e using z1l with
 | h e ih=>
  intro m hm hc
  obtain⟨m,rfl⟩:∃ q,m=q+1:=⟨m-1,by have:=z6v e;omega⟩
  show z0Y (q7W m) e=_∧z0W (q7V m) e=_
  unfold z0Y z0W
  have hx:∀ x∈e.Args,q7W m x=some (depE x:Int)∧q7V m x=some (depE x:Int):=fun x hx=>ih x hx m (by have:=z5z hx;omega) (by have:=k3M hx;omega)
  have k1:=j3H (f:=q7W m) (g:=z7M (q7W m)) (fun k x s=>rfl) e.Args 0 0 fun x h=>(hx x h).1
  have k2:=j3H (f:=q7V m) (g:=z4G (q7V m)) (fun k x s=>by
   unfold z4G
   congr 1;funext y
   rw[k3O,bsS]) e.Args 0 0 fun x h=>(hx x h).2
  rw[show ((0:Nat):Int)=0 from rfl] at k1 k2
  have hd:=k3L e
  rw[k3K] at hd
  rw[k1,k2]
  have hg:I64 (((max 0 (j4J e.Args):Nat):Int)+1):=by constructor<;>omega
  have he:((max 0 (j4J e.Args):Nat):Int)+1=(depE e:Int):=by rw[k3K];omega
  refine⟨?_,?_⟩
  ·rw[bsS,q3M hg,he]
  ·rw[bsS,q3M hg,he]
theorem k3P {e:Expr}(h:cntE e≤1099511627776):z5G e=some (depE e:Int):=z0N (fuE e) fun m hm=>(j5m e m hm h).1
theorem k3Q {e:Expr}(h:cntE e≤1099511627776):z5F e=some (depE e:Int):=z0N (fuE e) fun m hm=>(j5m e m hm h).2
def j2c (a:Int)(n:Nat):Int:=if (n:Int)≤a then a-n else -1
theorem k3R (e:Expr):∀ m,fuE e≤m→∀ a:Int,0≤a→a≤1048576→cntE e≤1099511627776→z4F m e a=some (j2c a (cntE e)):=by
 induction e using z1l with
 | h e ih=>
  intro m hm a h0 h1 hc
  obtain⟨m,rfl⟩:∃ q,m=q+1:=⟨m-1,by have:=z6v e;omega⟩
  show z7B (z4F m) e a=_
  unfold z7B
  rw[q3M (by constructor<;>omega)]
  have hlen:e.Args.length≤cntE e:=by
   rw[j0W]
   have:∀ l:List Expr,l.length≤z7e l:=by
    intro l
    induction l with
    | nil=>simp
    | cons x l ih=>
     have:=j0W x
     simp only[z7e,lnC];omega
   have:=this e.Args;omega
  have key:∀ (n k:Nat) (s:Int),k+n=e.Args.length→-1≤s→s≤1048576→q4G (z4p (z4F m) e) (s,(k:Int))=some (if 0≤s then j2c s (z7e (e.Args.drop k)) else s):=by
   intro n
   induction n with
   | zero=>
    intro k s hk _ _
    have hdrop:e.Args.drop k=[]:=Enz (by omega)
    refine q3N ?_
    unfold z4p
    dsimp only
    rw[ifN (by omega),hdrop]
    congr 2
    split
    ·unfold j2c;simp[z7e];omega
    ·rfl
   | succ n ihn=>
    intro k s hk hs1 hs2
    have hkl:k<e.Args.length:=by omega
    by_cases hs:0≤s
    ·have hxm:e.Args[k]∈e.Args:=List.getElem_mem hkl
     have hr:=ih _ hxm m (by have:=z5z hxm;omega) s hs hs2 (by have:=k3M hxm;omega)
     have hstep:z4p (z4F m) e (s,(k:Int))=some (.inl (j2c s (cntE e.Args[k]),((k+1:Nat):Int))):=by
      unfold z4p
      dsimp only
      rw[ifP (by omega),ifP hs,q3M (by omega),tnC,Auz hkl,bsS,hr,bsS,q3M (by constructor<;>omega)]
      rfl
     have hb1:-1≤j2c s (cntE e.Args[k]):=by unfold j2c;split<;>omega
     have hb2:j2c s (cntE e.Args[k])≤1048576:=by unfold j2c;split<;>omega
     rw[q4b hstep,ihn (k+1) _ (by omega) hb1 hb2,ifP hs]
     have hd:e.Args.drop k=e.Args[k]::e.Args.drop (k+1):=Dbz hkl
     rw[hd,z7e]
     congr 1
     unfold j2c
     split<;>split<;>(try split)<;>omega
    ·refine q3N ?_
     unfold z4p
     dsimp only
     rw[ifP (by omega),ifN hs,ifN hs]
  have:=key e.Args.length 0 (a-1) (by omega) (by omega) (by omega)
  rw[show ((0:Nat):Int)=0 from rfl] at this
  rw[this,bsS,List.drop_zero,j0W]
  congr 1
  unfold j2c
  split<;>(try split)<;>(try split)<;>omega
theorem k5X {e:Expr}{a:Int}(h0:0≤a)(h1:a≤1048576)(h:cntE e≤1099511627776):j2U e a=some (j2c a (cntE e)):=z0N (fuE e) fun m hm=>k3R e m hm a h0 h1 h
theorem k2u (x lo hi:Int):q4l x lo hi=some (decide (lo≤x∧x≤hi)):=by
 unfold q4l;by_cases h:lo≤x<;>simp[h]
theorem j6F (x lo hi:Int):q6f x lo hi=some (decide (lo≤x∧x≤hi)):=by
 unfold q6f;by_cases h:lo≤x<;>simp[h]
def lowB (c:UInt8):Bool:=decide (97≤(c.toNat:Int)∧(c.toNat:Int)≤122)
def digB (c:UInt8):Bool:=decide (48≤(c.toNat:Int)∧(c.toNat:Int)≤57)
theorem j0X (c:UInt8):z4r c=some (lowB c):=by
 unfold z4r lowB;by_cases h:97≤(c.toNat:Int)<;>simp[h]
theorem k2v (c:UInt8):z5Y c=some (digB c):=by
 unfold z5Y digB;by_cases h:48≤(c.toNat:Int)<;>simp[h]
def allN (q:Nat→Bool):Nat→Nat→Bool
 | _,0=>true
 | i,n+1=>q i&&allN q (i+1) n
theorem j5n {q r:Nat→Bool}:∀ {n i:Nat},(∀ k,i≤k→q k=r k)→allN q i n=allN r i n
 | 0,_,_=>rfl
 | n+1,i,h=>by rw[allN,allN,h i (Adz _),j5n fun k hk=>h k (by omega)]
theorem j0Y {ρ:Type}{c:ρ}{q:Nat→Bool}:∀ {n i:Nat} {f:Nat→Unit→Option (Unit ⊕ ρ)},(∀ k,k<n→f (i+k) ()=some (if q (i+k)=true then .inl () else .inr c))→findN f i n ()=some (if allN q i n=true then .inl () else .inr c)
 | 0,i,f,h=>rfl
 | n+1,i,f,h=>by
  have h0:=h 0 (by omega)
  rw[Dgz] at h0
  rw[findN,h0]
  by_cases hx:q i=true
  ·rw[ifP hx,bsS]
   show findN f (i+1) n ()=_
   rw[j0Y fun k hk=>by have:=h (k+1) (by omega);rwa[show i+(k+1)=i+1+k by omega] at this]
   simp[allN,hx]
  ·rw[ifN hx];simp[allN,hx]
def chr (s:BA_)(k:Nat):UInt8:=s.data.getD k 0
theorem j6G {s:BA_}{k:Nat}(h:k<s.size):s.data[k]?=some (chr s k):=by
 have h' : k<s.data.size:=h
 unfold chr
 rw[Array.getD_eq_getD_getElem?,Array.getElem?_eq_getElem h'];rfl
def j0m:List BA_:=[⟨#[105,102]⟩,⟨#[116,104,101,110]⟩,⟨#[101,108,115,101]⟩,⟨#[116,114,117,101]⟩,⟨#[102,97,108,115,101]⟩,⟨#[108,105,116]⟩,⟨#[110,111,110,101]⟩,⟨#[115,101,108,102]⟩,⟨#[111,102]⟩,⟨#[109,97,120]⟩,⟨#[109,105,110]⟩,⟨#[119,105,116,104]⟩,⟨#[104,97,115]⟩]
def memB (s:BA_)(l:List BA_):Bool:=l.any fun x=>decide (x=s)
theorem k5Y {s:BA_}{l:List BA_}:memB s l=true↔s∈l:=by
 unfold memB;rw[Eoz]
 exact⟨fun ⟨x,h1,h2⟩=>by simp at h2;exact h2▸h1,fun h=>⟨s,h,by simp⟩⟩
theorem k5Z {s:BA_}{l:List BA_}(h:s∉l):memB s l=false:=by
 cases hb:memB s l with
 | false=>rfl
 | true=>exact absurd (k5Y.1 hb) h
def resB (s:BA_):Bool:=memB s j0m
theorem k6a (l:List BA_)(s:BA_):z3i l s=some (memB s l):=by
 unfold z3i
 have:∀ (l:List BA_) (i:Nat),findL (z9G s) i l ()=some (if memB s l=true then .inr true else .inl ()):=by
  intro l
  induction l with
  | nil=>intro i;rfl
  | cons x l ih=>
   intro i
   rw[findL]
   unfold z9G at ih ⊢
   have hc:memB s (x::l)=(decide (x=s)||memB s l):=rfl
   by_cases h:x=s
   ·rw[ifP h,hc];simp[h]
   ·rw[ifN h,bsS]
    show findL _ (i+1) l ()=_
    rw[ih,hc];simp[h]
 rw[this,bsS]
 cases memB s l<;>rfl
theorem k8o (s:BA_):z1U s=some (resB s):=by
 unfold z1U z4f
 rw[bsS,k6a];rfl
theorem k8p (s:BA_):z1W s=some (resB s):=by
 by_cases h:s∈j0m
 ·unfold j0m at h
  simp only[Egz,Cfz,or_false] at h
  rcases h with h|h|h|h|h|h|h|h|h|h|h|h|h<;>subst h<;>rfl
 ·unfold resB
  rw[k5Z h]
  unfold j0m at h
  simp only[Egz,Cfz,or_false,not_or] at h
  obtain⟨h1,h2,h3,h4,h5,h6,h7,h8,h9,h10,h11,h12,h13⟩:=h
  unfold z1W
  rw[ifN h1,ifN h2,ifN h3,ifN h4,ifN h5,ifN h6,ifN h7,ifN h8,ifN h9,ifN h10,ifN h11,ifN h12]
  simp[h13]
def q9E (s:BA_):Bool:=decide (0<s.size∧s.size≤8)&&(lowB (chr s 0)&&allN (fun k=>lowB (chr s k)||digB (chr s k)) 1 (s.size-1) && !resB s)
theorem z4m (s:BA_):q4Y s=some (q9E s):=by
 unfold q4Y
 rw[j0Y (c:=false) (q:=fun k=>lowB (chr s k)||digB (chr s k)) fun k hk=>by
  rw[Ahz]
  unfold z7K
  rw[j6G hk,bsS,j0X,bsS]
  cases lowB (chr s k) with
  | true=>rfl
  | false=>
   rw[ifN (by simp),k2v,bsS]
   cases digB (chr s k)<;>rfl]
 rw[bsS]
 by_cases h0:0<s.size
 ·obtain⟨n,hn⟩:∃ n,s.size=n+1:=⟨s.size-1,by omega⟩
  unfold q9E
  rw[hn,allN,Ecz]
  cases ha:allN (fun k=>lowB (chr s k)||digB (chr s k)) (0+1) n with
  | false=>
   rw[Fiz,ifN (by simp)]
   rw[Ahz] at ha
   simp[onr,ha]
  | true=>
   rw[Ahz] at ha
   try rw[ha]
   simp only[Fjz]
   have hc:=j6G h0
   cases hl:lowB (chr s 0) with
   | false=>
    cases hd:digB (chr s 0) with
    | false=>simp[onr]
    | true=>
     rw[ifP (by simp)]
     show (q4l _ 1 8).bind _=_
     rw[k2u,bsS]
     split
     ·rw[hc,bsS,j0X,hl];simp
     ·simp
   | true=>
    rw[ifP (by simp)]
    show (q4l _ 1 8).bind _=_
    rw[k2u,bsS]
    by_cases h8:n+1≤8
    ·rw[ifP (by simp;omega),hc,bsS,j0X,hl]
     simp[k8p,h8]
    ·rw[ifN (by simp;omega)];simp[h8]
 ·have hs:s.size=0:=by omega
  unfold q9E
  rw[hs,allN,ifP rfl,z4B,k2u,bsS]
  simp
theorem z2w (s:BA_):q5p s=some (q9E s):=by
 unfold q5p z8z
 rw[j0Y (c:=false) (q:=fun k=>lowB (chr s k)||(decide (k≠0)&&digB (chr s k))) fun k hk=>by
  rw[Ahz]
  unfold j2V
  rw[j6G hk,bsS]
  have e1:(if 97≤((chr s k).toNat:Int) then some (decide (((chr s k).toNat:Int)≤122)) else some false)=some (lowB (chr s k)):=by
   unfold lowB;by_cases h:97≤((chr s k).toNat:Int)<;>simp[h]
  have e2:(if 48≤((chr s k).toNat:Int) then some (decide (((chr s k).toNat:Int)≤57)) else some false)=some (digB (chr s k)):=by
   unfold digB;by_cases h:48≤((chr s k).toNat:Int)<;>simp[h]
  rw[e1,e2,bsS,bsS]
  cases lowB (chr s k) with
  | true=>rfl
  | false=>
   by_cases hk0:k=0
   ·subst hk0;simp
   ·have:¬ ((k:Int)=0):=by omega
    rw[ifN (by simp),ifN this]
    cases digB (chr s k)<;>simp[hk0]]
 rw[bsS]
 by_cases h0:0<s.size
 ·obtain⟨n,hn⟩:∃ n,s.size=n+1:=⟨s.size-1,by omega⟩
  unfold q9E
  rw[hn,allN,Ecz,Ahz,j5n (n:=n) (i:=1) (q:=fun k=>lowB (chr s k)||(decide (k≠0)&&digB (chr s k))) (r:=fun k=>lowB (chr s k)||digB (chr s k)) fun k hk=>by simp[show k≠0 by omega]]
  have e0:(lowB (chr s 0)||(decide ((0:Nat)≠0)&&digB (chr s 0)))=lowB (chr s 0):=by simp
  rw[e0]
  cases hA:(lowB (chr s 0)&&allN (fun k=>lowB (chr s k)||digB (chr s k)) 1 n) with
  | false=>simp[onr]
  | true=>
   rw[ifP rfl]
   simp only[onr,bsS]
   by_cases h8:n+1≤8
   ·simp[k8o,h8];omega
   ·simp[h8];omega
 ·have hs:s.size=0:=by omega
  unfold q9E
  rw[hs]
  simp[onr,allN]
def satI (v:Int):Int:=if (-1000000:Int) > (if (1000000:Int)<v then (1000000:Int) else v) then (-1000000:Int) else (if (1000000:Int)<v then (1000000:Int) else v)
def truI (b:Bool):Int:=if b=true then 1 else 0
def k3S (v k:Int):Int:=if k=1 then satI v else if k=2 then z9A v 4095 else if k=3 then truI (!decide (v=0)) else if k=4 then (if 0≤v∧v≤999 then v else 0) else 0
theorem k8q (v:Int):z6O v=some (satI v):=rfl
theorem k8r (a b:Int):z9F a b=some (if b<a then b else a):=by
 unfold z9F
 by_cases h:a<b
 ·rw[ifP h,ifN (by omega)]
 ·rw[ifN h]
  split
  ·rfl
  ·congr 1;omega
theorem k8s (v:Int):z4H v=some (satI v):=by
 unfold z4H
 rw[k8r,bsS,k3O,bsS]
 congr 1
 unfold satI
 split<;>split<;>(try split)<;>(try split)<;>omega
theorem k8t (b:Bool):j3b b=some (truI b):=by unfold j3b truI;cases b<;>rfl
theorem k6b (b:Bool):z5U b=some (truI b):=by unfold z5U truI;cases b<;>rfl
theorem k6c (v k:Int):z7N v k=some (k3S v k):=by
 unfold z7N k3S
 rw[k8q,k8t,k2u]
 by_cases h1:k=1
 ·rw[ifP h1,ifP h1];rfl
 by_cases h2:k=2
 ·rw[ifN h1,ifN h1,ifP h2,ifP h2]
 by_cases h3:k=3
 ·rw[ifN h1,ifN h1,ifN h2,ifN h2,ifP h3,ifP h3];rfl
 by_cases h4:k=4
 ·rw[ifN h1,ifN h1,ifN h2,ifN h2,ifN h3,ifN h3,ifP h4,ifP h4,bsS]
  by_cases h:0≤v∧v≤999<;>simp[h]
 ·rw[ifN h1,ifN h1,ifN h2,ifN h2,ifN h3,ifN h3,ifN h4,ifN h4]
theorem k6d (v k:Int):z7D v k=some (k3S v k):=by
 unfold z7D k3S
 rw[k8s,k6b,j6F]
 by_cases h1:k=1
 ·rw[ifP h1,ifP h1];rfl
 by_cases h2:k=2
 ·rw[ifN h1,ifN h1,ifP h2,ifP h2]
 by_cases h3:k=3
 ·rw[ifN h1,ifN h1,ifN h2,ifN h2,ifP h3,ifP h3];rfl
 by_cases h4:k=4
 ·rw[ifN h1,ifN h1,ifN h2,ifN h2,ifN h3,ifN h3,ifP h4,ifP h4,bsS]
  by_cases h:0≤v∧v≤999<;>simp[h]
 ·rw[ifN h1,ifN h1,ifN h2,ifN h2,ifN h3,ifN h3,ifN h4,ifN h4]
def j6H (v k:Int):Bool:=decide (1≤k∧k≤4)&&decide (k3S v k=v)
theorem k6e (v k:Int):z4J v k=some (j6H v k):=by
 unfold z4J z5Z j6H
 rw[k2u,bsS,bsS,k6c,bsS]
 by_cases h:1≤k∧k≤4<;>simp[h]
theorem k6f (v k:Int):z4I v k=some (j6H v k):=by
 unfold z4I j6H
 rw[j6F,bsS,k6d,bsS]
 by_cases h:1≤k∧k≤4<;>simp[h]
def opT (n:Int):Int×Int×Int:=
 if 1≤n∧n≤5 then (1,1,1) else if 6≤n∧n≤8 then (2,2,2) else if n=9∨n=10 then (1,1,3) else if n=11 then (2,1,3) else if n=12 then (2,1,2) else (0,0,0)
theorem k9J {n a b c d e:Int}:(if n=a then some (decide (n=a)) else if n=b then some (decide (n=b)) else if n=c then some (decide (n=c)) else if n=d then some (decide (n=d)) else some (decide (n=e)))=some (decide (n=a∨n=b∨n=c∨n=d∨n=e)):=by
 by_cases h1:n=a
 ·simp[h1]
 by_cases h2:n=b
 ·simp[h1,h2]
 by_cases h3:n=c
 ·rw[ifN h1,ifN h2,ifP h3];simp[h3]
 by_cases h4:n=d
 ·rw[ifN h1,ifN h2,ifN h3,ifP h4];simp[h4]
 ·simp[h1,h2,h3,h4]
theorem k9K {n a b c:Int}:(if n=a then some (decide (n=a)) else if n=b then some (decide (n=b)) else some (decide (n=c)))=some (decide (n=a∨n=b∨n=c)):=by
 by_cases h1:n=a
 ·simp[h1]
 by_cases h2:n=b
 ·simp[h1,h2]
 ·simp[h1,h2]
theorem k8u (n:Int):z0o n=some (opT n):=by
 unfold z0o opT
 rw[k9J,k9K]
 simp only[bsS]
 by_cases h1:1≤n∧n≤5
 ·rw[ifP (by simp;omega),ifP h1]
 rw[ifN (by simp;omega),ifN h1]
 by_cases h2:6≤n∧n≤8
 ·rw[ifP (by simp;omega),ifP h2]
 rw[ifN (by simp;omega),ifN h2]
 by_cases h3:n=9
 ·simp[h3]
 by_cases h3' : n=10
 ·simp[h3']
 by_cases h4:n=11
 ·simp[h4]
 by_cases h5:n=12
 ·simp[h5]
 simp[h3,h3',h4,h5]
theorem k8v (n:Int):q5y n=some (opT n):=by
 unfold q5y opT
 rw[j6F,j6F]
 simp only[bsS]
 by_cases h1:1≤n∧n≤5
 ·rw[ifP (by simpa using h1),ifP h1]
 rw[ifN (by simpa using h1),ifN h1]
 by_cases h2:6≤n∧n≤8
 ·rw[ifP (by simpa using h2),ifP h2]
 rw[ifN (by simpa using h2),ifN h2]
 by_cases h3:n=9
 ·rw[ifP h3,ifP (.inl h3)]
 rw[ifN h3]
 by_cases h3' : n=10
 ·rw[ifP h3',ifP (.inr h3')]
 have h33:¬(n=9∨n=10):=by omega
 rw[ifN h3',ifN h33]
 by_cases h4:n=11
 ·rw[ifP h4,ifP h4]
 rw[ifN h4,ifN h4]
 by_cases h5:n=12
 ·rw[ifP h5,ifP h5]
 rw[ifN h5,ifN h5]
theorem k8w (a b:Expr):q7v a b=some (decide (a.Kind=b.Kind)&&(decide (a.N=b.N)&&(decide (a.Pos=b.Pos)&&(decide (a.t__=b.t__)&&(decide (a.Symbol=b.Symbol)&&decide (a.Name=b.Name)))))):=by
 unfold q7v
 by_cases h1:a.Kind=b.Kind
 ·rw[ifP h1,bsS]
  by_cases h2:a.N=b.N
  ·by_cases h3:a.Pos=b.Pos
   ·by_cases h4:a.t__=b.t__
    ·by_cases h5:a.Symbol=b.Symbol
     ·simp[h1,h2,h3,h4,h5]
     ·simp[h1,h2,h3,h4,h5]
    ·simp[h1,h2,h3,h4]
   ·simp[h1,h2,h3]
  ·simp[h1,h2]
 ·simp[h1]
def k3T (k:Int):Int:=if k=4 then 2 else if k=5 then 3 else if k=8 then 1 else 0
def k3U (e:Expr):Bool:=decide ((e.Args.length:Int)=k3T e.Kind)&&((decide (e.Kind=3∨e.Kind=6)||decide (e.Pos=0))&&((decide (e.Kind=3∨e.Kind=8)||decide (e.Name=⟨#[]⟩))&&((decide (e.Kind=1∨e.Kind=4)||decide (e.N=0))&&((decide (e.Kind=1)||decide (e.t__=0))&&(decide (e.Kind=8)||decide (e.Symbol=⟨#[]⟩))))))
theorem k8x (e:Expr):z7C e=some (k3U e):=by
 unfold z7C
 have h0:(if e.Kind=4 then some 2 else if e.Kind=5 then some 3 else if e.Kind=8 then some 1 else some (0:Int))=some (k3T e.Kind):=by
  unfold k3T
  split
  ·rfl
  ·split
   ·rfl
   ·split<;>rfl
 have or2:∀ a b:Prop,[Decidable a]→[Decidable b]→(if a then some true else some (decide b))=some (decide (a∨b)):=fun a b _ _=>by
  by_cases h:a<;>simp[h]
 have or1:∀ (a:Prop) (b:Bool),[Decidable a]→(if a then some true else some b)=some (decide a||b):=fun a b _=>by
  by_cases h:a<;>simp[h]
 have orB:∀ a b:Bool,(if a=true then some true else some b)=some (a||b):=fun a b=>by cases a<;>rfl
 have andB:∀ a b:Bool,(if a=true then some b else some false)=some (a&&b):=fun a b=>by cases a<;>rfl
 rw[h0,bsS]
 unfold k3U
 by_cases hl:(e.Args.length:Int)=k3T e.Kind
 ·rw[ifP hl]
  simp only[or2,or1,orB,andB,bsS]
  simp[hl,Bool.and_assoc]
 ·rw[ifN hl];simp[hl]
def k8y (e:Expr):Bool:=
 if e.Kind=1 then (decide (1≤e.t__∧e.t__≤3)&&j6H e.N e.t__)&&decide (0≤e.N)
 else if e.Kind=3 then decide (0≤e.Pos∧e.Pos≤3)&&q9E e.Name
 else if e.Kind=6 then decide (0≤e.Pos∧e.Pos≤3)
 else if e.Kind=4 then decide (1≤e.N∧e.N≤12)
 else if e.Kind=8 then q9E e.Symbol&&q9E e.Name
 else true
def z8m (e:Expr):Bool:=(decide (1≤e.Kind∧e.Kind≤8)&&k3U e)&&k8y e
theorem k6g (e:Expr):z7E e=some (z8m e):=by
 unfold z7E z8m
 rw[j6F,bsS,k8x,bsS]
 by_cases hk:1≤e.Kind∧e.Kind≤8
 ·rw[ifP (by simpa using hk),bsS]
  cases k3U e with
  | false=>simp
  | true=>
   rw[ifN (by simp)]
   unfold k8y
   by_cases k1:e.Kind=1
   ·rw[ifP k1,ifP k1,j6F,bsS,k6f,bsS]
    by_cases h:1≤e.t__∧e.t__≤3
    ·cases j6H e.N e.t__<;>simp[h,hk]
    ·simp[h,hk]
   rw[ifN k1,ifN k1]
   by_cases k3:e.Kind=3
   ·rw[ifP k3,ifP k3,j6F,bsS,z2w]
    by_cases h:0≤e.Pos∧e.Pos≤3
    ·simp[h,hk]
    ·simp[h,hk]
   rw[ifN k3,ifN k3]
   by_cases k6:e.Kind=6
   ·rw[ifP k6,ifP k6,j6F];simp[hk]
   rw[ifN k6,ifN k6]
   by_cases k4:e.Kind=4
   ·rw[ifP k4,ifP k4,j6F];simp[hk]
   rw[ifN k4,ifN k4]
   by_cases k8:e.Kind=8
   ·rw[ifP k8,ifP k8,z2w,bsS,z2w]
    cases q9E e.Symbol<;>simp[hk]
   rw[ifN k8,ifN k8];simp[hk]
 ·rw[ifN (by simpa using hk)];simp[hk]
theorem k6h (e:Expr):z1Y e=some (z8m e):=by
 unfold z1Y z8m k3U k8y k3T
 simp only[k8w,k2u,k6e,z4m,bsS]
 have hp3:e.Pos=0→(0≤e.Pos∧e.Pos≤3):=fun h=>by omega
 by_cases k1:e.Kind=1
 ·simp[k1]
  have ht:j6H e.N e.t__=true→1≤e.t__∧e.t__≤4:=fun h=>by
   unfold j6H at h;simp at h;exact h.1
  cases hb:j6H e.N e.t__ with
  | false=>by_cases h4:e.t__=4<;>simp[h4]
  | true=>
   obtain⟨t1,t2⟩:=ht hb
   by_cases h4:e.t__=4
   ·simp[h4]
   ·by_cases hn:e.N<0
    ·have:¬ 0≤e.N:=by omega
     simp[h4,hn,this]
    ·have h0:0≤e.N:=by omega
     have h3:e.t__≤3:=by omega
     by_cases a:e.Args=[]
     ·by_cases p:e.Pos=0
      ·simp[h4,hn,h0,h3,t1,a,p,Bool.and_comm]
      ·simp[h4,hn,h0,h3,t1,a,p]
     ·simp[h4,hn,h0,h3,t1,a]
 by_cases k3:e.Kind=3
 ·simp[k1,k3]
  cases q9E e.Name with
  | false=>simp
  | true=>
   by_cases a:e.Args=[]
   ·by_cases p:0≤e.Pos∧e.Pos≤3
    ·simp[a,p]
    ·have:(decide (0≤e.Pos)&&decide (e.Pos≤3))=false:=by simp;omega
     simp[a,this]
   ·simp[a]
 by_cases k4:e.Kind=4
 ·simp[k1,k3,k4]
  by_cases n:1≤e.N∧e.N≤12
  ·by_cases a:(e.Args.length:Int)=2
   ·by_cases p:e.Pos=0
    ·simp[n,a,p];cases decide (e.t__=0)<;>cases decide (e.Symbol=⟨#[]⟩)<;>cases decide (e.Name=⟨#[]⟩)<;>rfl
    ·simp[n,a,p]
   ·simp[n,a]
  ·have:(decide (1≤e.N)&&decide (e.N≤12))=false:=by simp;omega
   rw[ifN n,this];simp
 have close3:∀ c:Bool,((if c=true then some (decide (0≤e.Pos)&&decide (e.Pos≤3)) else some false).bind fun s9=>
   if s9=true then some (decide (e.N=0)&&(decide (e.Pos=0)&&(decide (e.t__=0)&&(decide (e.Symbol=⟨#[]⟩)&&decide (e.Name=⟨#[]⟩))))) else some false) =
  some (c&&(decide (e.Pos=0)&&(decide (e.Name=⟨#[]⟩)&&(decide (e.N=0)&&(decide (e.t__=0)&&decide (e.Symbol=⟨#[]⟩)))))):=fun c=>by
  cases c with
  | false=>simp
  | true=>
   by_cases p:e.Pos=0
   ·simp[p];cases decide (e.N=0)<;>cases decide (e.t__=0)<;>cases decide (e.Symbol=⟨#[]⟩)<;>cases decide (e.Name=⟨#[]⟩)<;>rfl
   ·simp[p]
 by_cases k5:e.Kind=5
 ·simp[k1,k3,k4,k5]
  simpa using close3 (decide ((e.Args.length:Int)=3))
 by_cases k6:e.Kind=6
 ·simp[k1,k3,k4,k5,k6]
  by_cases a:e.Args=[]
  ·by_cases p:0≤e.Pos∧e.Pos≤3
   ·simp[a,p];cases decide (e.N=0)<;>cases decide (e.t__=0)<;>cases decide (e.Symbol=⟨#[]⟩)<;>cases decide (e.Name=⟨#[]⟩)<;>rfl
   ·have:(decide (0≤e.Pos)&&decide (e.Pos≤3))=false:=by simp;omega
    simp[a,this]
  ·simp[a]
 by_cases k8:e.Kind=8
 ·simp[k1,k3,k4,k5,k6,k8]
  cases q9E e.Symbol with
  | false=>simp
  | true=>
   cases q9E e.Name with
   | false=>simp
   | true=>
    by_cases a:(e.Args.length:Int)=1
    ·by_cases p:e.Pos=0
     ·simp[a,p]
     ·simp[a,p]
    ·simp[a]
 by_cases k2:e.Kind=2
 ·simp[k1,k3,k4,k5,k6,k8,k2]
  simpa using close3 (decide (e.Args=[]))
 by_cases k7:e.Kind=7
 ·simp[k1,k3,k4,k5,k6,k8,k2,k7]
  simpa using close3 (decide (e.Args=[]))
 ·simp[k1,k3,k4,k5,k6,k8,k2,k7]
  intro h1 h2;omega
theorem k6i (e:Expr):∀ m,fuE e≤m→z9I m e=some (allE z8m e):=by
 induction e using z1l with
 | h e ih=>
  intro m hm
  obtain⟨m,rfl⟩:∃ q,m=q+1:=⟨m-1,by have:=z6v e;omega⟩
  show z9H (z9I m) e=_
  unfold z9H
  rw[q4X (c:=false) (q:=allE z8m) fun k x hx=>by
   unfold j7X
   rw[ih x hx m (by have:=z5z hx;omega),bsS]
   cases allE z8m x<;>rfl]
  rw[j0V,bsS]
  cases e.Args.all (allE z8m) with
  | true=>rw[ifP rfl,z4B,k6g,Fjz];rfl
  | false=>rw[ifN (by simp),j0C,Fiz]
theorem k8z (e:Expr):j6d e=some (allE z8m e):=z0N (fuE e) fun m hm=>k6i e m hm
theorem j3I {α:Type}(q:α→Bool)(l:List α):(!l.any fun x=>!q x)=l.all q:=by
 induction l with
 | nil=>rfl
 | cons x l ih=>simp[← ih]
theorem k6j (e:Expr):∀ m,fuE e≤m→q6A m e=some (allE z8m e):=by
 induction e using z1l with
 | h e ih=>
  intro m hm
  obtain⟨m,rfl⟩:∃ q,m=q+1:=⟨m-1,by have:=z6v e;omega⟩
  show q6z (q6A m) e=_
  unfold q6z q4i q4p
  rw[k6h,bsS,j0V]
  cases z8m e with
  | false=>rfl
  | true=>
   rw[ifP rfl,j3G (q:=fun x=>!allE z8m x) fun k x hx=>by
    unfold q6i q6R
    rw[ih x hx m (by have:=z5z hx;omega),bsS,bsS]
    cases allE z8m x<;>rfl]
   rw[Fkz,← j3I]
   cases e.Args.any fun x=>!allE z8m x with
   | true=>
    have:(0:Int)≤((0+e.Args.findIdx fun x=>!allE z8m x:Nat):Int):=Eaz _
    rw[ifP rfl,bsS,j0C,bsS,bsS,decide_eq_true this]
   | false=>rfl
theorem k8A (e:Expr):q9b e=some (allE z8m e):=z0N (fuE e) fun m hm=>k6j e m hm
def j3J (e:Expr):Bool:=decide (cntE e≤24)&&(decide (depE e≤6)&&allE z8m e)
theorem k3V {e:Expr}(h:cntE e≤1099511627776):z0Z e=some (j3J e):=by
 unfold z0Z j3J
 rw[k3N h,bsS,k3P h,k8A]
 by_cases h1:cntE e≤24
 ·rw[ifP (by omega),bsS,bsS]
  by_cases h2:depE e≤6
  ·rw[ifP (by simp;omega),bsS];simp[h1,h2]
  ·rw[ifN (by simp;omega)];simp[h1,h2]
 ·rw[ifN (by omega)];simp[h1]
theorem j0n {e:Expr}(h:cntE e≤1099511627776):q8P e=some (j3J e):=by
 unfold q8P j3J
 rw[k5X (by omega) (by omega) h,bsS,k3Q h,k8z]
 unfold j2c
 by_cases h1:cntE e≤24
 ·have h24:((cntE e:Nat):Int)≤24:=by omega
  rw[ifP h24,ifP (by omega:(0:Int)≤24-((cntE e:Nat):Int)),bsS,bsS]
  by_cases h2:depE e≤6
  ·rw[ifP (by simp;omega),bsS];simp[h1,h2]
  ·rw[ifN (by simp;omega)];simp[h1,h2]
 ·have h24:¬ ((cntE e:Nat):Int)≤24:=by omega
  rw[ifN h24,ifN (by omega:¬ (0:Int)≤-1)];simp[h1]
theorem j2p {x m:Int}(h0:0≤m)(h1:m<9223372036854775808):0≤z9A x m∧z9A x m≤m:=by
 unfold z9A
 have h2:(BitVec.ofInt 64 m).toNat=m.toNat:=by
  rw[BitVec.toNat_ofInt]
  have:m % ((2 ^ 64:Nat):Int)=m:=Int.emod_eq_of_lt h0 (by omega)
  rw[this]
 have h3:(BitVec.ofInt 64 x &&& BitVec.ofInt 64 m).toNat≤m.toNat:=by
  rw[BitVec.toNat_and,h2];exact Nat.and_le_right
 rw[IntWalk.i64_in _ (by omega)]
 omega
def j6I (o:L1_):Prop:=0≤o.i∧o.b.length≤1048576
theorem k6k {a:List UInt8}(h:a.length≤1048576):∃ o,z8y a=some o∧j6I o∧o.b=a:=by
 have key:∀ (m j:Nat) (s:Int),j+m=a.length→∃ q,q4G (z5S a) (s,(j:Int))=some q:=by
  intro m
  induction m with
  | zero=>
   intro j s hj
   exact⟨s,q3N (by unfold z5S;dsimp only;rw[ifN (by omega)])⟩
  | succ m ih=>
   intro j s hj
   by_cases hlt:(j:Int)<4000
   ·obtain⟨x,hx⟩:∃ x,a[j]?=some x:=⟨_,Auz (by omega)⟩
    obtain⟨q,hq⟩:=ih (j+1) (z9A (IntKind.i64.wrap ((IntKind.i64.wrap ((IntKind.i64.wrap (s*131))+(x.toNat:Int)))+7)) 1073741823) (by omega)
    refine⟨q,(q4b ?_).trans hq⟩
    have hw:IntKind.i64.wrap ((j:Int)+1)=((j+1:Nat):Int):=by rw[IntWalk.i64_in _ (by omega)];rfl
    unfold z5S
    dsimp only
    rw[ifP (by omega),ifP hlt,q3M (by omega),tnC,hx,bsS,hw]
   ·exact⟨s,q3N (by unfold z5S;dsimp only;rw[ifP (by omega),ifN hlt])⟩
 obtain⟨q,hq⟩:=key a.length 0 (IntKind.i64.wrap (26583+(a.length:Int))) (by omega)
 have hq' : q4G (z5S a) ((IntKind.i64.wrap (26583+(a.length:Int))),0)=some q:=hq
 refine⟨⟨a,0,q⟩,?_,⟨Int.le_refl _,h⟩,rfl⟩
 unfold z8y
 rw[hq',bsS]
theorem z8n {o:L1_}(h:j6I o):∃ y z,z1T o=some (y,z)∧0≤y∧y≤255∧j6I z∧z.b=o.b:=by
 obtain⟨h0,h1⟩:=h
 unfold z1T
 by_cases hi:o.i<(o.b.length:Int)
 ·obtain⟨x,hx⟩:∃ x,o.b[o.i.toNat]?=some x:=⟨_,Auz (by omega)⟩
  rw[ifP hi,q3M h0,hx,bsS]
  refine⟨_,_,rfl,(j2p (by omega) (by omega)).1,(j2p (by omega) (by omega)).2,⟨?_,h1⟩,rfl⟩
  show 0≤IntKind.i64.wrap (o.i+1)
  rw[IntWalk.i64_in _ (by omega)];omega
 ·rw[ifN hi]
  exact⟨_,_,rfl,(j2p (by omega) (by omega)).1,(j2p (by omega) (by omega)).2,⟨h0,h1⟩,rfl⟩
theorem k3W {y n:Int}(hy:0≤y)(hn:0<n):0≤y.tmod n∧y.tmod n<n:=by
 rw[Int.tmod_eq_emod_of_nonneg hy]
 exact⟨Int.emod_nonneg _ (by omega),Int.emod_lt_of_pos _ hn⟩
theorem j5o {o:L1_}(h:j6I o)(n:Int):∃ y z,q3O n o=some (y,z)∧0≤y∧(0<n→y<n)∧(n≤0→y=0)∧j6I z∧z.b=o.b:=by
 unfold q3O
 by_cases hn:n≤0
 ·rw[ifP hn];exact⟨0,o,rfl,Int.le_refl _,fun h=>absurd h (by omega),fun _=>rfl,h,rfl⟩
 ·rw[ifN hn]
  by_cases h2:n≤256
  ·obtain⟨y,z,h3,h4,h5,h6,h7⟩:=z8n h
   rw[ifP h2,h3,bsS]
   dsimp only
   rw[q3M (by omega)]
   have:=k3W h4 (show 0<n by omega)
   exact⟨_,_,rfl,this.1,fun _=>this.2,fun h=>absurd h hn,⟨h6.1,h.2⟩,rfl⟩
  ·obtain⟨y1,z1,a1,a2,a3,a4,a5⟩:=z8n h
   obtain⟨y2,z2,b1,b2,b3,b4,b5⟩:=z8n (o:=⟨o.b,z1.i,z1.h⟩) ⟨a4.1,h.2⟩
   obtain⟨y3,z3,c1,c2,c3,c4,c5⟩:=z8n (o:=⟨o.b,z2.i,z2.h⟩) ⟨b4.1,h.2⟩
   obtain⟨y4,z4,d1,d2,d3,d4,d5⟩:=z8n (o:=⟨o.b,z3.i,z3.h⟩) ⟨c4.1,h.2⟩
   rw[ifN h2,a1,bsS]
   dsimp only
   rw[b1,bsS]
   dsimp only
   rw[c1,bsS]
   dsimp only
   rw[d1,bsS]
   dsimp only
   rw[q3M (by constructor<;>omega),q3M (by constructor<;>omega),q3M (by constructor<;>omega),q3M (by constructor<;>omega),q3M (by constructor<;>omega),q3M (by constructor<;>omega),q3M (by omega)]
   have:=k3W (y:=y1*16777216+y2*65536+y3*256+y4) (by omega) (show 0<n by omega)
   exact⟨_,_,rfl,this.1,fun _=>this.2,fun h=>absurd h hn,⟨d4.1,h.2⟩,rfl⟩
theorem j8u {o:L1_}(h:j6I o){l:List Int}(hl:l≠[]):∃ y z,q5N l o=some (y,z)∧y∈l∧j6I z∧z.b=o.b:=by
 have hpos:=List.length_pos_iff.2 hl
 obtain⟨y,z,h1,h2,h3,_,h5,h6⟩:=j5o h (l.length:Int)
 have:=h3 (by omega)
 obtain⟨x,hx⟩:∃ x,l[y.toNat]?=some x:=⟨_,Auz (by omega)⟩
 unfold q5N
 rw[h1,bsS]
 dsimp only
 rw[q3M h2,hx,bsS]
 exact⟨_,_,rfl,Ckz hx,⟨h5.1,h.2⟩,rfl⟩
theorem k3X {ρ:Type}{g:Nat→Option ρ}(hm:∀ n r,g n=some r→g (n+1)=some r){n:Nat}{r:ρ}(h:g n=some r):recO g=some r:=by
 have up:∀ (k n:Nat) (r:ρ),g n=some r→g (n+k)=some r:=by
  intro k
  induction k with
  | zero=>intro n r h;exact h
  | succ k ih=>intro n r h;exact hm _ _ (ih n r h)
 refine z0N n fun m hm=>?_
 have h1:=up (m-n) n r h
 rwa[show n+(m-n)=m by omega] at h1
theorem j0Z {α σ:Type}{f g:Nat→α→σ→Option σ}(h:∀ k x s q,f k x s=some q→g k x s=some q):∀ (xs:List α) (i:Nat) (s q:σ),eachL f i xs s=some q→eachL g i xs s=some q
 | [],i,s,q,hq=>hq
 | x::xs,i,s,q,hq=>by
  simp only[eachL] at hq ⊢
  obtain⟨t,h1,h2⟩:=bd hq
  rw[h _ _ _ _ h1]
  exact j0Z h xs _ _ _ h2
theorem j8v (a b:Oc):z4Q a b=some (z4D a b):=by
 unfold z4Q z4D
 by_cases h1:a.Pos<b.Pos
 ·simp[h1]
 ·by_cases h2:a.Pos=b.Pos
  ·simp[h2]
  ·simp[h1,h2]
abbrev z8o (l:List Oc):Prop:=l.Pairwise fun a b=>z4D a b=true
theorem k6l {l:List Oc}{o:Oc}(hl:l.length≤4398046511104):∀ (m j:Nat),j+m=l.length→(∀ a∈l.take j,z4D a o=true) →
  ∃ k:Nat,q4G (z4R l o) (j:Int)=some ((k:Nat):Int)∧k≤l.length∧(∀ a∈l.take k,z4D a o=true)∧∀ y,l[k]?=some y→z4D y o=false:=by
 intro m
 induction m with
 | zero=>
  intro j hj ha
  refine⟨j,q3N ?_,by omega,ha,fun y hy=>?_⟩
  ·unfold z4R;rw[ifN (by omega)]
  ·rw[Bfz (by omega)] at hy;cases hy
 | succ m ih=>
  intro j hj ha
  obtain⟨x,hx⟩:∃ x,l[j]?=some x:=⟨_,Auz (by omega)⟩
  cases hb:z4D x o with
  | false=>
   refine⟨j,q3N ?_,by omega,ha,fun y hy=>?_⟩
   ·unfold z4R
    rw[ifP (by omega),q3M (by omega)]
    simp only[tnC]
    rw[hx,bsS,j8v,bsS,ifN (by rw[hb];simp)]
   ·rw[hx] at hy;cases hy;exact hb
  | true=>
   have e:z4R l o (j:Int)=some (.inl ((j+1:Nat):Int)):=by
    unfold z4R
    rw[ifP (by omega),q3M (by omega)]
    simp only[tnC]
    rw[hx,bsS,j8v,bsS,ifP hb,q3M (by constructor<;>omega)];rfl
   rw[q4b e]
   refine ih (j+1) (by omega) fun a h=>?_
   rw[Ejz,hx] at h
   rcases List.mem_append.1 h with h|h
   ·exact ha a h
   ·simp at h;rw[h];exact hb
theorem k3Y {l:List Oc}{o:Oc}(hl:l.length<4398046511104)(hs:z8o l):∃ q,z9U l o=some q∧z8o q∧(∀ a,a∈q↔a=o∨a∈l)∧q.length≤l.length+1:=by
 obtain⟨k,h1,h2,h3,h4⟩:=k6l (l:=l) (o:=o) (by omega) l.length 0 (by omega) (by simp)
 have h1' : q4G (z4R l o) 0=some ((k:Nat):Int):=h1
 have hput:∀ (hne:∀ y,l[k]?=some y→y≠o),z8o (l.take k++[o]++l.drop k)∧(∀ a,a∈l.take k++[o]++l.drop k↔a=o∨a∈l)∧(l.take k++[o]++l.drop k).length≤l.length+1:=fun hne=>by
  refine⟨?_,fun a=>?_,by simp;omega⟩
  ·have:=k2q (lt:=z4D) lessO_swo.trans z9a (k:=k) hs h3 fun y hy=>⟨h4 y hy,hne y hy⟩
   simpa using this
  ·have:a∈l↔a∈l.take k∨a∈l.drop k:=by rw[← Clz,Coz]
   rw[this]
   simp only[Clz,Byz]
   constructor
   ·rintro ((h|h)|h)<;>simp[h]
   ·rintro (h|h|h)<;>simp[h]
 unfold z9U
 rw[h1',bsS]
 by_cases hk:k<l.length
 ·obtain⟨x,hx⟩:∃ x,l[k]?=some x:=⟨_,Auz hk⟩
  rw[ifP (by omega),q3M (by omega)]
  simp only[tnC]
  rw[hx,bsS]
  by_cases hxo:x=o
  ·rw[ifP hxo]
   refine⟨l,rfl,hs,fun a=>?_,by omega⟩
   have:=Ckz hx
   constructor
   ·exact .inr
   ·rintro (h|h)
    ·rw[h,← hxo];exact this
    ·exact h
  ·rw[ifN hxo,q3M (by omega),q3M (by omega),q3M (by simp;omega),q3M (by simp;omega),q3M (by omega),q3M (by omega),q3M (by simp;omega)]
   exact⟨_,rfl,hput fun y hy=>by rw[hx] at hy;cases hy;exact hxo⟩
 ·rw[ifN (by omega)]
  simp only[tnC]
  rw[q3M (by omega),q3M (by omega),q3M (by simp;omega),q3M (by simp;omega),q3M (by omega),q3M (by omega),q3M (by simp;omega)]
  exact⟨_,rfl,hput fun y hy=>by rw[Bfz (by omega)] at hy;cases hy⟩
theorem k8B:∀ (n:Nat) (e:Expr) (l q:List Oc),q8L n e l=some q→q8L (n+1) e l=some q:=by
 intro n
 induction n with
 | zero=>intro e l q h;cases h
 | succ n ih=>
  intro e l q h
  have h' : z3G (q8L n) e l=some q:=h
  show z3G (q8L (n+1)) e l=some q
  have m1:∀ (xs:List Expr) (i:Nat) (s q:List Oc),eachL (z4w (q8L n)) i xs s=some q→eachL (z4w (q8L (n+1))) i xs s=some q:=j0Z fun k x s q hq=>by
   unfold z4w at hq ⊢
   obtain⟨y,h3,h4⟩:=bd hq
   rw[ih _ _ _ h3];exact h4
  unfold z3G at h' ⊢
  by_cases hk:e.Kind=3
  ·rw[ifP hk] at h' ⊢
   obtain⟨y,h1,h2⟩:=bd h'
   obtain⟨s,h3,h4⟩:=bd h2
   rw[h1,bsS,m1 _ _ _ _ h3];exact h4
  ·rw[ifN hk] at h' ⊢
   obtain⟨s,h3,h4⟩:=bd h'
   have m2:eachL (j0J (q8L (n+1))) 0 e.Args l=some s:=m1 _ _ _ _ h3
   rw[m2];exact h4
theorem k2w:∀ (m:Nat) (e:Expr) (l:List Oc),fuE e≤m→z8o l→l.length+(z7b e).length≤1099511627776 →
  ∃ q,q8L m e l=some q∧z8o q∧(∀ a,a∈q↔a∈l∨a∈z7b e)∧q.length≤l.length+(z7b e).length:=by
 intro m
 induction m with
 | zero=>intro e l h;rw[j1H] at h;omega
 | succ m ih=>
  intro e l h hs hb
  rw[j1H] at h
  rw[z7c,Bgz] at hb
  have hl:∀ (xs:List Expr) (i:Nat) (s:List Oc),fuEs xs≤m→z8o s→s.length+(z2v xs).length≤1099511627776 →
    ∃ q,eachL (z4w (q8L m)) i xs s=some q∧z8o q∧(∀ a,a∈q↔a∈s∨a∈z2v xs)∧q.length≤s.length+(z2v xs).length:=by
   intro xs
   induction xs with
   | nil=>intro i s _ hs _;exact⟨s,rfl,hs,by simp[z2v],by omega⟩
   | cons x xs ihl=>
    intro i s hf hs hb
    simp only[fuEs] at hf
    simp only[z2v,Bgz] at hb
    obtain⟨q,h1,h2,h3,h4⟩:=ih x s (by omega) hs (by omega)
    obtain⟨q2,k1,k2,k3,k4⟩:=ihl (i+1) q (by omega) h2 (by omega)
    refine⟨q2,?_,k2,fun a=>?_,by simp only[z2v,Bgz];omega⟩
    ·simp only[eachL,z4w,h1,bsS];exact k1
    ·rw[k3,h3,z2v,Clz,or_assoc]
  show ∃ q,z3G (q8L m) e l=some q∧_
  unfold z3G
  by_cases hk:e.Kind=3
  ·rw[ifP hk] at hb ⊢
   simp only[lnC,Ekz] at hb
   obtain⟨y,h1,h2,h3,h4⟩:=k3Y (l:=l) (o:=⟨e.Pos,e.Name⟩) (by omega) hs
   obtain⟨q,k1,k2,k3,k4⟩:=hl e.Args 0 y (by omega) h2 (by omega)
   refine⟨q,?_,k2,fun a=>?_,?_⟩
   ·rw[h1,bsS,k1];rfl
   ·rw[k3,h3,z7c,ifP hk,Clz,Byz]
    constructor
    ·rintro ((h|h)|h)<;>simp[h]
    ·rintro (h|h|h)<;>simp[h]
   ·rw[z7c,ifP hk];simp;omega
  ·rw[ifN hk] at hb ⊢
   simp only[Ekz] at hb
   obtain⟨q,k1,k2,k3,k4⟩:=hl e.Args 0 l (by omega) hs (by omega)
   have k1' : eachL (j0J (q8L m)) 0 e.Args l=some q:=k1
   refine⟨q,?_,k2,fun a=>?_,?_⟩
   ·rw[k1'];rfl
   ·rw[k3,z7c,ifN hk];simp
   ·rw[z7c,ifN hk];simpa using k4
theorem j8w (e:Expr):z8o (attrs e):=by
 refine z8l lessO_swo.trans z9a ?_
 have h:=List.pairwise_mergeSort (le:=fun x y=>!z4D y x) (fun a b c h1 h2=>by
  simp only[Amz] at h1 h2 ⊢
  exact lessO_swo.ntrans _ _ _ h2 h1) (fun a b=>by
  cases h:z4D a b with
  | false=>simp[h]
  | true=>
   cases h2:z4D b a with
   | false=>simp
   | true=>have:=lessO_swo.trans _ _ _ h h2;rw[lessO_swo.irrefl] at this;cases this) (z7b e)
 unfold j7R
 exact h.imp fun {a b} h=>by simpa using h
theorem j6J {e:Expr}(h:Sz.szd e≤1048576):q6P e=some (attrs e):=by
 have hl:=k3I h
 obtain⟨q,h1,h2,h3,h4⟩:=k2w _ e [] (Adz _) List.Pairwise.nil (by simp;omega)
 have hq:q=attrs e:=j5k (lt:=z4D) lessO_swo.irrefl lessO_swo.trans h2 (j8w e) fun a=>by rw[h3,k3J];simp
 subst hq
 have hr:j3d e []=some (attrs e):=k3X (fun n q=>k8B n e [] q) h1
 unfold q6P
 rw[hr];rfl
def Ok {ρ:Type}(Q:ρ→Prop)(o:Option ρ):Prop:=∃ r,o=some r∧Q r
section
variable {ρ τ σ α:Type}{Q:ρ→Prop}{R:τ→Prop}
theorem Ok.ret {r:ρ}(h:Q r):Ok Q (some r):=⟨r,rfl,h⟩
theorem Ok.bind {o:Option ρ}{f:ρ→Option τ}(h:Ok Q o)(hf:∀ r,Q r→Ok R (f r)):Ok R (o.bind f):=by
 obtain⟨r,rfl,hr⟩:=h;exact hf r hr
theorem Ok.grd {c:Prop}[Decidable c]{k:Option τ}(hc:c)(h:Ok R k):Ok R (Go.E.grd c k):=by rw[q3M hc];exact h
theorem Ok.ite {c:Prop}[Decidable c]{a b:Option τ}(h1:c→Ok R a)(h2:¬ c→Ok R b):Ok R (if c then a else b):=by
 by_cases hc:c
 ·rw[ifP hc];exact h1 hc
 ·rw[ifN hc];exact h2 hc
theorem Ok.mono {Q' : ρ→Prop}{o:Option ρ}(h:Ok Q o)(hq:∀ r,Q r→Q' r):Ok Q' o:=by
 obtain⟨r,rfl,hr⟩:=h;exact⟨r,rfl,hq r hr⟩
theorem j6K {P:Nat→σ→Prop}{f:Nat→σ→Option σ}:∀ {n i:Nat} {s:σ},P i s→(∀ k s,i≤k→k<i+n→P k s→Ok (P (k+1)) (f k s))→Ok (P (i+n)) (eachN f i n s)
 | 0,i,s,h,_=>⟨s,rfl,h⟩
 | n+1,i,s,h,hf=>by
  rw[eachN]
  refine (hf i s (Adz _) (by omega) h).bind fun r hr=>?_
  have:=j6K (n:=n) hr fun k s h1 h2=>hf k s (by omega) (by omega)
  rwa[show i+1+n=i+(n+1) by omega] at this
theorem j6L {P:Nat→σ→Prop}{f:Nat→α→σ→Option σ}:∀ {xs:List α} {i:Nat} {s:σ},P i s→(∀ k x s,x∈xs→i≤k→k<i+xs.length→P k s→Ok (P (k+1)) (f k x s))→Ok (P (i+xs.length)) (eachL f i xs s)
 | [],i,s,h,_=>⟨s,rfl,h⟩
 | x::xs,i,s,h,hf=>by
  rw[eachL]
  refine (hf i x s (by simp) (Adz _) (by simp) h).bind fun r hr=>?_
  have:=j6L (xs:=xs) hr fun k y s hy h1 h2=>hf k y s (by simp[hy]) (by omega) (by simp;omega)
  rwa[show i+1+xs.length=i+(x::xs).length by simp;omega] at this
theorem k3Z {g:Nat→Option ρ}{N:Nat}(h:∀ n,N≤n→g (n+1)=g n)(h2:Ok Q (g N)):Ok Q (recO g):=by
 obtain⟨r,h3,h4⟩:=h2
 have:∀ k,g (N+k)=some r:=by
  intro k
  induction k with
  | zero=>exact h3
  | succ k ih=>rw[← Nat.add_assoc,h _ (by omega),ih]
 exact⟨r,z0N N fun n hn=>by have:=this (n-N);rwa[show N+(n-N)=n by omega] at this,h4⟩
end
def CB (b:List UInt8)(z:L1_):Prop:=0≤z.i∧z.b=b
theorem CB.mk' {b:List UInt8}{o z:L1_}(h:CB b o)(hz:CB b z):CB b ⟨o.b,z.i,z.h⟩:=⟨hz.1,h.2⟩
def Dr {α:Type}(b:List UInt8)(P:α→Prop)(o:Option (α×L1_)):Prop:=Ok (fun r=>P r.1∧CB b r.2) o
theorem Dr.of {α:Type}{b:List UInt8}{P:α→Prop}{o:Option (α×L1_)}(hb:b.length≤1048576)(h:∃ y z,o=some (y,z)∧P y∧j6I z∧z.b=b):Dr b P o:=by
 obtain⟨y,z,e,h1,h2,h3⟩:=h
 exact⟨(y,z),e,h1,h2.1,h3⟩
theorem CB.ok {b:List UInt8}{z:L1_}(hb:b.length≤1048576)(h:CB b z):j6I z:=⟨h.1,by rw[h.2];exact hb⟩
section
variable {b:List UInt8}{o:L1_}(hb:b.length≤1048576)
include hb
theorem k9L:Ok (fun z=>CB b z) (z8y b):=by
 obtain⟨o,h1,h2,h3⟩:=k6k hb
 exact⟨o,h1,h2.1,h3⟩
theorem q5d (n:Int)(h:CB b o):Dr b (fun y=>0≤y∧(0<n→y<n)∧(n≤0→y=0)) (q3O n o):=by
 obtain⟨y,z,h1,h2,h3,h4,h5,h6⟩:=j5o (h.ok hb) n
 exact⟨(y,z),h1,⟨h2,h3,h4⟩,h5.1,h6.trans h.2⟩
theorem z0T (n:Int)(h:CB b o):Dr b (fun _=>True) (q5x n o):=by
 unfold q5x
 refine (q5d hb n h).bind ?_
 rintro⟨y,z⟩ ⟨_,hz⟩
 exact .ret ⟨trivial,h.mk' hz⟩
theorem z5g {l:List BA_}(hl:l≠[])(h:CB b o):Dr b (fun y=>y∈l) (q8i l o):=by
 have hpos:=List.length_pos_iff.2 hl
 unfold q8i
 refine (q5d hb _ h).bind ?_
 rintro⟨y,z⟩ ⟨⟨h1,h2,_⟩,hz⟩
 dsimp only at h1 h2 hz ⊢
 have:=h2 (by omega)
 obtain⟨x,hx⟩:∃ x,l[y.toNat]?=some x:=⟨_,Auz (by omega)⟩
 rw[hx]
 exact .grd h1 (.ret ⟨Ckz hx,h.mk' hz⟩)
theorem z1N {l:List Int}(hl:l≠[])(h:CB b o):Dr b (fun y=>y∈l) (q5N l o):=by
 obtain⟨y,z,h1,h2,h3,h4⟩:=j8u (h.ok hb) hl
 exact⟨(y,z),h1,h2,h3.1,h4.trans h.2⟩
theorem j9U (h:CB b o):Dr b (fun y=>y.size=1) (z1V o):=by
 unfold z1V
 refine (z5g hb (by simp) h).bind ?_
 rintro⟨y,z⟩ ⟨h1,hz⟩
 refine .ret ⟨?_,h.mk' hz⟩
 simp only[Egz,Cfz,or_false] at h1
 rcases h1 with h1|h1|h1|h1|h1|h1|h1|h1<;>rw[h1]<;>rfl
theorem j5p (k n p t:Int)(s m:BA_):Sz.szd (⟨k,n,p,t,s,m,[]⟩:Expr)=s.size+m.size:=by rw[q7t];rfl
theorem k4a (k n p t:Int)(s m:BA_)(x y:Expr):Sz.szd (⟨k,n,p,t,s,m,[x,y]⟩:Expr)=s.size+m.size+(1+Sz.szd x+(1+Sz.szd y+0)):=by rw[q7t];rfl
theorem k7y (k n p t:Int)(s m:BA_)(x:Expr):Sz.szd (⟨k,n,p,t,s,m,[x]⟩:Expr)=s.size+m.size+(1+Sz.szd x+0):=by rw[q7t];rfl
theorem k1b (k n p t:Int)(s m:BA_)(x y z:Expr):Sz.szd (⟨k,n,p,t,s,m,[x,y,z]⟩:Expr)=s.size+m.size+(1+Sz.szd x+(1+Sz.szd y+(1+Sz.szd z+0))):=by rw[q7t];rfl
theorem z4n:(⟨#[]⟩:BA_).size=0:=rfl
theorem j1a (k:Int){l:List Oc}(hl:∀ q∈l,q.Name.size≤8)(h:CB b o):Dr b (fun e=>Sz.szd e≤8) (q8I k l o):=by
 have bare:∀ {o:L1_},CB b o→∀ {R:Option (Expr×L1_)},R=(if k=4 then
   (q5x 3 o).bind fun (y10,z7)=>if y10=true then some ((⟨7,0,0,0,(⟨#[]⟩:BA_),(⟨#[]⟩:BA_),[]⟩:Expr),(⟨o.b,z7.i,z7.h⟩:L1_)) else some ((⟨6,0,0,0,(⟨#[]⟩:BA_),(⟨#[]⟩:BA_),[]⟩:Expr),(⟨o.b,z7.i,z7.h⟩:L1_))
  else if k=3 then (q3O 2 o).bind fun (y11,z8)=>(q8D y11 k).bind fun y12=>some (y12,(⟨o.b,z8.i,z8.h⟩:L1_))
  else if k=2 then (q3O 12 o).bind fun (y13,z9)=>grd (0≤y13) <| grd (0≤y13∧y13<63) <| (q8D ((2 ^ y13.toNat:Nat):Int) k).bind fun y14=>some (y14,(⟨o.b,z9.i,z9.h⟩:L1_))
  else (q3O 9 o).bind fun (y15,z10)=>(q8D y15 1).bind fun y16=>some (y16,(⟨o.b,z10.i,z10.h⟩:L1_)))→Dr b (fun e=>Sz.szd e≤8) R:=by
  rintro o h R rfl
  refine .ite (fun _=>?_) fun _=>.ite (fun _=>?_) fun _=>.ite (fun _=>?_) fun _=>?_
  ·refine (z0T hb 3 h).bind ?_
   rintro⟨y,z⟩ ⟨_,hz⟩
   refine .ite (fun _=>.ret ⟨?_,h.mk' hz⟩) fun _=>.ret ⟨?_,h.mk' hz⟩
   ·exact Aiz _
   ·exact Aiz _
  ·refine (q5d hb 2 h).bind ?_
   rintro⟨y,z⟩ ⟨_,hz⟩
   refine .ret ⟨?_,h.mk' hz⟩
   exact Aiz _
  ·refine (q5d hb 12 h).bind ?_
   rintro⟨y,z⟩ ⟨⟨h1,h2,_⟩,hz⟩
   have:=h2 (by omega)
   dsimp only at h1 this
   refine .grd h1 (.grd (by omega) (.ret ⟨?_,h.mk' hz⟩))
   exact Aiz _
  ·refine (q5d hb 9 h).bind ?_
   rintro⟨y,z⟩ ⟨_,hz⟩
   refine .ret ⟨?_,h.mk' hz⟩
   exact Aiz _
 unfold q8I
 refine .ite (fun hl0=>?_) fun _=>bare h rfl
 refine (z0T hb 4 h).bind ?_
 rintro⟨y,z⟩ ⟨_,hz⟩
 have h':=h.mk' hz
 refine .ite (fun _=>?_) fun _=>?_
 ·exact bare h' rfl
 ·refine (q5d hb _ h').bind ?_
  rintro⟨y,z⟩ ⟨⟨h1,h2,_⟩,hz⟩
  have:=h2 (by omega)
  dsimp only at h1 this
  obtain⟨x,hx⟩:∃ x,l[y.toNat]?=some x:=⟨_,Auz (by omega)⟩
  dsimp only
  rw[hx]
  refine .grd h1 (.ret ⟨?_,h.mk' hz⟩)
  dsimp only
  rw[j5p hb,z4n hb]
  have:=hl x (Ckz hx)
  omega
def fb (d:Nat):Nat:=20*4 ^ d
theorem j5q (d:Nat):20≤fb d:=by
 have:1≤4 ^ d:=Nat.one_le_pow _ _ (by omega)
 unfold fb;omega
theorem k4b (d:Nat):fb (d+1)=4*fb d:=by unfold fb;rw[Nat.pow_succ];omega
theorem z9q (h:CB b o){R:Option (Expr×L1_)}(hR:R=(
 (q5x 5 o).bind fun (y1,z1)=>
 if y1=true then (
 some ((⟨2,0,0,0,(⟨#[]⟩:BA_),(⟨#[]⟩:BA_),[]⟩:Expr),(⟨o.b,z1.i,z1.h⟩:L1_))
 ) else (
 (q5x 6 (⟨o.b,z1.i,z1.h⟩:L1_)).bind fun (y2,z2)=>
 if y2=true then (
 (q3O 4 (⟨o.b,z2.i,z2.h⟩:L1_)).bind fun (y3,z3)=>
 some ((⟨6,0,y3,0,(⟨#[]⟩:BA_),(⟨#[]⟩:BA_),[]⟩:Expr),(⟨o.b,z3.i,z3.h⟩:L1_))
 ) else (
 (q3O 4 (⟨o.b,z2.i,z2.h⟩:L1_)).bind fun (y4,z4)=>
 grd (I64 (1+y4)) <|
 (q3O 4 (⟨o.b,z4.i,z4.h⟩:L1_)).bind fun (y5,z5)=>
 (z1V (⟨o.b,z5.i,z5.h⟩:L1_)).bind fun (y6,z6)=>
 (q8I (1+y4) [(⟨y5,y6⟩:Oc)] (⟨o.b,z6.i,z6.h⟩:L1_)).bind fun (y7,z7)=>
 some (y7,(⟨o.b,z7.i,z7.h⟩:L1_))
 )
 ))):Dr b (fun e=>Sz.szd e≤20) R:=by
 subst hR
 refine (z0T hb 5 h).bind ?_
 rintro⟨y1,z1⟩ ⟨_,h1⟩
 refine .ite (fun _=>.ret ⟨?_,h.mk' h1⟩) fun _=>?_
 ·exact Aiz _
 refine (z0T hb 6 (h.mk' h1)).bind ?_
 rintro⟨y2,z2⟩ ⟨_,h2⟩
 refine .ite (fun _=>?_) fun _=>?_
 ·refine (q5d hb 4 (h.mk' h2)).bind ?_
  rintro⟨y3,z3⟩ ⟨_,h3⟩
  refine .ret ⟨?_,h.mk' h3⟩
  exact Aiz _
 ·refine (q5d hb 4 (h.mk' h2)).bind ?_
  rintro⟨y4,z4⟩ ⟨⟨a1,a2,_⟩,h4⟩
  have:=a2 (by omega)
  dsimp only at a1 this
  refine .grd (by constructor<;>omega) ?_
  refine (q5d hb 4 (h.mk' h4)).bind ?_
  rintro⟨y5,z5⟩ ⟨_,h5⟩
  refine (j9U hb (h.mk' h5)).bind ?_
  rintro⟨y6,z6⟩ ⟨hn,h6⟩
  refine (j1a hb _ (by simpa using (show y6.size≤8 by dsimp only at hn;omega)) (h.mk' h6)).bind ?_
  rintro⟨y7,z7⟩ ⟨hs,h7⟩
  exact .ret ⟨by have hs' : Sz.szd y7≤8:=hs;show Sz.szd y7≤20;omega,h.mk' h7⟩
theorem k8C:∀ (d:Nat) (m:Nat),d<m→∀ (a:Int) (o:L1_),a≤d+1→q7J (m+1) a o=q7J m a o:=by
 intro d
 induction d with
 | zero=>
  intro m hm a o ha
  obtain⟨m,rfl⟩:∃ q,m=q+1:=⟨m-1,by omega⟩
  show q9a (q7J (m+1)) a o=q9a (q7J m) a o
  unfold q9a
  rw[ifP (by omega),ifP (by omega)]
 | succ d ih=>
  intro m hm a o ha
  obtain⟨m,rfl⟩:∃ q,m=q+1:=⟨m-1,by omega⟩
  have e:q7J (m+1) (a-1)=q7J m (a-1):=funext fun o=>ih m (by omega) (a-1) o (by omega)
  show q9a (q7J (m+1)) a o=q9a (q7J m) a o
  unfold q9a
  rw[e]
theorem k6m:∀ (d:Nat) (m:Nat),d<m→∀ (a:Int) (o:L1_),a≤d+1→-1000000≤a→d≤100000→CB b o→Dr b (fun e=>Sz.szd e≤fb d) (q7J m a o):=by
 intro d
 induction d with
 | zero=>
  intro m hm a o ha _ _ h
  obtain⟨m,rfl⟩:∃ q,m=q+1:=⟨m-1,by omega⟩
  show Dr b _ (q9a (q7J m) a o)
  unfold q9a
  rw[ifP (by omega)]
  exact (z9q hb h rfl).mono fun r hr=>⟨Blz hr.1 (j5q hb 0),hr.2⟩
 | succ d ih=>
  intro m hm a o ha h0 hd h
  obtain⟨m,rfl⟩:∃ q,m=q+1:=⟨m-1,by omega⟩
  have hf:=j5q hb d
  have hs:=k4b hb d
  show Dr b _ (q9a (q7J m) a o)
  unfold q9a
  by_cases ha2:a<2
  ·rw[ifP ha2];exact (z9q hb h rfl).mono fun r hr=>⟨Blz hr.1 (j5q hb _),hr.2⟩
  rw[ifN ha2]
  have ih' : ∀ {o:L1_},CB b o→Dr b (fun e=>Sz.szd e≤fb d) (q7J m (a-1) o):=fun h=>ih m (by omega) (a-1) _ (by omega) (by omega) (by omega) h
  have hg:I64 (a-1):=by constructor<;>omega
  refine (z0T hb 4 h).bind ?_
  rintro⟨y8,z8⟩ ⟨_,h8⟩
  refine .ite (fun _=>(z9q hb (h.mk' h8) rfl).mono fun r hr=>⟨Blz hr.1 (j5q hb _),hr.2⟩) fun _=>?_
  refine (q5d hb 5 (h.mk' h8)).bind ?_
  rintro⟨y16,z16⟩ ⟨_,h16⟩
  refine .ite (fun _=>?_) fun _=>.ite (fun _=>?_) fun _=>?_
  ·refine .grd hg ((ih' (h.mk' h16)).bind ?_)
   rintro⟨e1,z1⟩ ⟨s1,h1⟩
   refine .grd hg ((ih' (h.mk' h1)).bind ?_)
   rintro⟨e2,z2⟩ ⟨s2,h2⟩
   refine .grd hg ((ih' (h.mk' h2)).bind ?_)
   rintro⟨e3,z3⟩ ⟨s3,h3⟩
   refine .ret ⟨?_,h.mk' h3⟩
   dsimp only at s1 s2 s3 ⊢
   rw[k1b hb,z4n hb];omega
  ·refine (z5g hb (by simp) (h.mk' h16)).bind ?_
   rintro⟨y20,z20⟩ ⟨h20,c20⟩
   refine (j9U hb (h.mk' c20)).bind ?_
   rintro⟨y21,z21⟩ ⟨h21,c21⟩
   refine .grd hg ((ih' (h.mk' c21)).bind ?_)
   rintro⟨e1,z1⟩ ⟨s1,h1⟩
   refine .ret ⟨?_,h.mk' h1⟩
   have:y20.size=1:=by
    simp only[Egz,Cfz,or_false] at h20
    rcases h20 with h20|h20<;>rw[h20]<;>rfl
   dsimp only at s1 h21 ⊢
   rw[k7y hb];omega
  ·refine (q5d hb 12 (h.mk' h16)).bind ?_
   rintro⟨y23,z23⟩ ⟨⟨a1,a2,_⟩,h23⟩
   have:=a2 (by omega)
   dsimp only at a1 this
   refine .grd (by constructor<;>omega) (.grd hg ((ih' (h.mk' h23)).bind ?_))
   rintro⟨e1,z1⟩ ⟨s1,h1⟩
   refine .grd hg ((ih' (h.mk' h1)).bind ?_)
   rintro⟨e2,z2⟩ ⟨s2,h2⟩
   refine .ret ⟨?_,h.mk' h2⟩
   dsimp only at s1 s2 ⊢
   rw[k4a hb,z4n hb];omega
theorem k4c (d:Nat){a:Int}(ha:a≤d+1)(h0:-1000000≤a)(hd:d≤100000)(h:CB b o):Dr b (fun e=>Sz.szd e≤fb d) (z9J a o):=
 k3Z (g:=fun n=>q7J n a o) (N:=d+1) (fun n hn=>k8C hb d n (by omega) a o ha) (k6m hb d (d+1) (by omega) a o ha h0 hd h)
theorem k4d {e:Expr}{n:Nat}(h:Sz.szd e≤n):cntE e≤n+1:=by
 have h1:=j6E e
 have h2:z2u e=Sz.szd e:=rfl
 omega
theorem k4e (h:CB b o):Dr b (fun e=>Sz.szd e≤20480) (z5W o):=by
 unfold z5W
 refine (q5d hb 5 h).bind ?_
 rintro⟨y1,z1⟩ ⟨⟨a1,a2,_⟩,h1⟩
 have:=a2 (by omega)
 dsimp only at a1 this
 refine .grd (by constructor<;>omega) ?_
 refine (k4c hb 5 (a:=1+y1) (by omega) (by omega) (by omega) (h.mk' h1)).bind ?_
 rintro⟨e,z2⟩ ⟨s2,h2⟩
 have s2' : Sz.szd e≤20480:=s2
 dsimp only
 rw[j0n (by have:=k4d hb s2';omega)]
 refine Ok.bind (Q:=fun _=>True) (.ret trivial) fun y3 _=>.ite (fun _=>.ret ⟨s2',h.mk' h2⟩) fun _=>.ret ⟨?_,h.mk' h2⟩
 exact Aiz _
theorem k8D (h:CB b o):Dr b (fun e=>Sz.szd e≤30000) (z7H o):=by
 unfold z7H
 refine (k4e hb h).bind ?_
 rintro⟨e,z1⟩ ⟨s1,h1⟩
 have s1' : Sz.szd e≤20480:=s1
 have s2:=q7t e
 refine (q5d hb 14 (h.mk' h1)).bind ?_
 rintro⟨y2,z2⟩ ⟨_,h2⟩
 dsimp only
 refine .ite (fun _=>?_) fun _=>.ite (fun _=>?_) fun _=>.ite (fun _=>?_) fun _=>.ite (fun _=>?_) fun _=>.ite (fun _=>?_) fun _=>.ite (fun _=>?_) fun _=>?_
 ·refine (q5d hb 11 (h.mk' h2)).bind ?_
  rintro⟨y3,z3⟩ ⟨_,h3⟩
  refine .ret ⟨?_,h.mk' h3⟩
  dsimp only;rw[q7t];dsimp only;omega
 ·have hl:=q6X e.Args
  refine .grd (by constructor<;>omega) (.ret ⟨?_,h.mk' h2⟩)
  dsimp only;rw[q7t];dsimp only;rw[j0B]
  have:szL [(⟨7,0,0,0,(⟨#[]⟩:BA_),(⟨#[]⟩:BA_),[]⟩:Expr)]=1:=rfl
  omega
 ·refine (z1N hb (by simp) (h.mk' h2)).bind ?_
  rintro⟨y3,z3⟩ ⟨_,h3⟩
  refine .ret ⟨?_,h.mk' h3⟩
  dsimp only;rw[q7t];dsimp only;omega
 ·refine (z1N hb (by simp) (h.mk' h2)).bind ?_
  rintro⟨y3,z3⟩ ⟨_,h3⟩
  refine .ret ⟨?_,h.mk' h3⟩
  dsimp only;rw[q7t];dsimp only;omega
 ·refine (z5g hb (by simp) (h.mk' h2)).bind ?_
  rintro⟨y3,z3⟩ ⟨h30,h3⟩
  have:y3.size≤2:=by
   simp only[Egz,Cfz,or_false] at h30
   rcases h30 with h30|h30|h30<;>rw[h30]<;>decide
  refine .ret ⟨?_,h.mk' h3⟩
  dsimp only;rw[q7t];dsimp only;omega
 ·have hL:Ok (fun q=>Sz.szd (⟨q.2.1,q.2.2.1,q.2.2.2.1,q.2.2.2.2.1,q.2.2.2.2.2.1,q.2.2.2.2.2.2,q.1⟩:Expr)≤20480+5*2) (eachN j0I 0 5 (e.Args,e.Kind,e.N,e.Pos,e.t__,e.Symbol,e.Name)):=by
   refine (j6K (P:=fun k q=>Sz.szd (⟨q.2.1,q.2.2.1,q.2.2.2.1,q.2.2.2.2.1,q.2.2.2.2.2.1,q.2.2.2.2.2.2,q.1⟩:Expr)≤20480+k*2) (by dsimp only;rw[q7t];dsimp only;omega) fun k q _ _ hq=>?_).mono fun q hq=>by simpa using hq
   obtain⟨q1,q2,q3,q4,q5,q6,q7⟩:=q
   dsimp only at hq
   refine .ret ?_
   dsimp only
   rw[k4a hb,j5p hb,z4n hb];omega
  refine hL.bind ?_
  rintro⟨q1,q2,q3,q4,q5,q6,q7⟩ hq
  refine .ret ⟨?_,h.mk' h2⟩
  dsimp only at hq ⊢;omega
 ·exact .ret ⟨by dsimp only;omega,h.mk' h2⟩
end
def Valid (r:Rl_):Prop:=0≤r.N∧r.N≤16∧(r.Rows.length:Int)=r.N∧∀ x∈r.Rows,0≤x∧x≤((2 ^ r.N.toNat:Nat):Int)-1
instance (r:Rl_):Decidable (Valid r):=by unfold Valid;infer_instance
def z7y (r:Rl_)(i:Int):Int:=r.Rows.getD i.toNat 0
def bit (x:Int)(k:Int):Prop:=x.toNat >>> k.toNat &&& 1=1
instance (x k:Int):Decidable (bit x k):=by unfold bit;infer_instance
def inN (r:Rl_)(i:Int):Prop:=0≤i∧i≤r.N-1
instance (r:Rl_) (i:Int):Decidable (inN r i):=by unfold inN;infer_instance
def hasP (r:Rl_)(i k:Int):Prop:=Valid r∧inN r i∧inN r k∧bit (z7y r i) k
instance (r:Rl_) (i k:Int):Decidable (hasP r i k):=by unfold hasP;infer_instance
def j3K (r:Rl_)(i:Int)(x:Int):Rl_:=⟨r.N,r.Rows.set i.toNat x⟩
def orI (x y:Int):Int:=((x.toNat ||| y.toNat:Nat):Int)
def addP (r:Rl_)(i k:Int):Rl_:=if Valid r∧inN r i∧inN r k then j3K r i (orI (z7y r i) ((2 ^ k.toNat:Nat):Int)) else r
theorem Valid.row {r:Rl_}(h:Valid r){i:Int}(hi:inN r i){x:Int}(hx:r.Rows[i.toNat]?=some x):z7y r i=x∧0≤x∧x≤65535:=by
 have hm:=h.2.2.2 x (Ckz hx)
 have hp:2 ^ r.N.toNat≤2 ^ 16:=Edz (by decide) (by have:=h.2.1;omega)
 refine⟨by unfold z7y;simp[hx],hm.1,by omega⟩
theorem x0k {n:Int}(h:n≤16):2 ^ n.toNat≤65536:=by
 have:2 ^ n.toNat≤2 ^ 16:=Edz (by decide) (by omega)
 simpa using this
theorem j6M (n:Int):1≤2 ^ n.toNat:=Eez
theorem k4f {r:Rl_}(h0:0≤r.N)(h1:r.N≤16)(h2:(r.Rows.length:Int)=r.N):decide (Valid r)=!(r.Rows.any fun x=>!decide (0≤x∧x≤((2 ^ r.N.toNat:Nat):Int)-1)):=by
 by_cases hv:Valid r
 ·rw[decide_eq_true hv,eq_comm,Amz,Epz]
  intro x hx
  simp only[Amz,decide_eq_false_iff_not,Decidable.not_not]
  exact hv.2.2.2 x hx
 ·rw[decide_eq_false hv,eq_comm,Bool.not_eq_false',Eoz]
  refine Classical.byContradiction fun hn=>hv ⟨h0,h1,h2,fun x hx=>Classical.byContradiction fun hb=>hn ⟨x,hx,?_⟩⟩
  rw[decide_eq_false hb];rfl
theorem k7z {x k:Int}(h:(((((x.toNat >>> k.toNat:Nat):Int)).toNat &&& (1:Int).toNat:Nat):Int)=1):x.toNat >>> k.toNat &&& 1=1:=by
 have:(1:Int).toNat=1:=rfl
 rw[tnC,this] at h
 exact_mod_cast h
theorem k7A {x k:Int}(h:x.toNat >>> k.toNat &&& 1=1):(((((x.toNat >>> k.toNat:Nat):Int)).toNat &&& (1:Int).toNat:Nat):Int)=1:=by
 have:(1:Int).toNat=1:=rfl
 rw[tnC,this]
 exact_mod_cast h
theorem z1m (x lo hi:Int):q6f x lo hi=some (decide (lo≤x∧x≤hi)):=by
 unfold q6f;split<;>simp_all<;>omega
theorem z6w (x lo hi:Int):q4l x lo hi=some (decide (lo≤x∧x≤hi)):=by
 unfold q4l;split<;>simp_all<;>omega
theorem q7d (r:Rl_):q4S r=some (decide (Valid r)):=by
 unfold q4S
 simp only[z1m,bsS,decide_eq_true_eq]
 by_cases h1:0≤r.N∧r.N≤16
 ·rw[ifP h1]
  by_cases h2:(r.Rows.length:Int)=r.N
  ·rw[ifP h2]
   have key:=j0i (c:=false) (n:=r.N.toNat) (i:=0) (p:=fun k=>∃ x,r.Rows[k]?=some x∧¬ (0≤x∧x≤((2 ^ r.N.toNat:Nat):Int)-1)) (f:=z1u r) fun k hk=>by
    have hk' : k<r.Rows.length:=by omega
    obtain⟨x,hx⟩:∃ x,r.Rows[k]?=some x:=⟨_,Auz hk'⟩
    simp only[Ahz]
    unfold z1u
    rw[hx,bsS,q3M h1.1,q3M (by omega),z1m,bsS]
    simp only[decide_eq_true_eq]
    refine⟨fun ⟨y,hy,hn⟩=>?_,fun hn=>?_⟩
    ·cases hy;rw[ifN hn]
    ·by_cases hb:0≤x∧x≤((2 ^ r.N.toNat:Nat):Int)-1
     ·rw[ifP hb]
     ·exact absurd ⟨x,rfl,hb⟩ hn
   simp only[Ahz] at key
   by_cases hv:Valid r
   ·rw[key.2 fun k hk ⟨x,hx,hn⟩=>hn (hv.2.2.2 x (Ckz hx))]
    simp[hv]
   ·rw[key.1 (Classical.byContradiction fun hn=>hv ⟨h1.1,h1.2,h2,fun x hx=>?_⟩)]
    ·simp[hv]
    ·obtain⟨k,hk⟩:=Eqz hx
     have hk':=x0b hk
     exact Classical.byContradiction fun hb=>hn ⟨k,by omega,x,hk,hb⟩
  ·rw[ifN h2,decide_eq_false fun hv=>h2 hv.2.2.1]
 ·rw[ifN h1,decide_eq_false fun hv=>h1 ⟨hv.1,hv.2.1⟩]
theorem z1C (r:Rl_):q5m r=some (decide (Valid r)):=by
 unfold q5m
 simp only[z6w,bsS,decide_eq_true_eq]
 by_cases h1:0≤r.N∧r.N≤16
 ·rw[ifP h1]
  simp only[bsS,Fhz,if_true,if_false,decide_eq_true_eq]
  by_cases h2:(r.Rows.length:Int)=r.N
  ·rw[ifP h2]
   have h3:∀ x,q7O x r=some (!decide (0≤x∧x≤((2 ^ r.N.toNat:Nat):Int)-1)):=fun x=>by
    unfold q7O
    rw[q3M h1.1,q3M (by omega),z6w];rfl
   have h4:∀ (xs:List Int) (i:Nat),∃ z,findL (q5F r) i xs ()=some z∧((xs.any fun x=>!decide (0≤x∧x≤((2 ^ r.N.toNat:Nat):Int)-1))=true→∃ k:Nat,z=.inr (k:Int))∧((xs.any fun x=>!decide (0≤x∧x≤((2 ^ r.N.toNat:Nat):Int)-1))=false→z=.inl ()):=by
    intro xs
    induction xs with
    | nil=>intro i;exact⟨_,rfl,by simp,by simp⟩
    | cons x xs ih=>
     intro i
     simp only[findL,q5F,h3,bsS,Emz]
     by_cases hb:0≤x∧x≤((2 ^ r.N.toNat:Nat):Int)-1
     ·simp only[hb,and_self,decide_true,Fgz,Fhz,if_false,bsS,Bool.false_or]
      exact ih (i+1)
     ·simp only[hb,decide_false,Flz,if_true,bsS,Bool.true_or]
      exact⟨_,rfl,fun _=>⟨i,rfl⟩,by simp⟩
   unfold q4E q4U
   obtain⟨z,hz,hz1,hz2⟩:=h4 r.Rows 0
   rw[hz,k4f h1.1 h1.2 h2]
   cases ha:(r.Rows.any fun x=>!decide (0≤x∧x≤((2 ^ r.N.toNat:Nat):Int)-1)) with
   | true=>obtain⟨k,rfl⟩:=hz1 ha;simp
   | false=>rw[hz2 ha];simp
  ·rw[ifN h2,decide_eq_false fun hv=>h2 hv.2.2.1];simp only[bsS,Fhz,if_true,if_false,decide_eq_true_eq]
 ·rw[ifN h1,decide_eq_false fun hv=>h1 ⟨hv.1,hv.2.1⟩];simp only[bsS,Fhz,if_true,if_false,decide_eq_true_eq]
theorem q9F (r:Rl_)(i k:Int):q8G r i k=some (decide (hasP r i k)):=by
 unfold q8G
 simp only[q7d,z1m,bsS,decide_eq_true_eq]
 by_cases hv:Valid r
 ·have hv1:=hv.1;have hv2:=hv.2.1;have hv3:=hv.2.2.1
  rw[ifP hv,q3M (by constructor<;>omega)];simp only[bsS,Fhz,if_true,if_false,decide_eq_true_eq]
  by_cases hi:0≤i∧i≤r.N-1
  ·rw[ifP hi,q3M (by constructor<;>omega)];simp only[bsS,Fhz,if_true,if_false,decide_eq_true_eq]
   by_cases hk:0≤k∧k≤r.N-1
   ·obtain⟨x,hx⟩:∃ x,r.Rows[i.toNat]?=some x:=⟨_,Auz (by omega)⟩
    have hrow:=hv.row (i:=i) hi hx
    rw[ifP hk,q3M hi.1,hx,bsS,q3M hk.1,q3M ⟨hrow.2.1,hk.1,by omega⟩,q3M ⟨Eaz _,by decide⟩]
    simp only[bsS,Fhz,if_true,if_false,decide_eq_true_eq]
    congr 1
    refine decide_eq_decide.2 ⟨fun hb=>⟨hv,hi,hk,?_⟩,fun hb=>?_⟩
    ·unfold bit;rw[hrow.1];exact k7z hb
    ·have:=hb.2.2.2;unfold bit at this;rw[hrow.1] at this;exact k7A this
   ·rw[ifN hk];simp only[bsS,Fhz,if_true,if_false,decide_eq_true_eq];rw[ decide_eq_false fun h=>hk h.2.2.1]
  ·rw[ifN hi];simp only[bsS,Fhz,if_true,if_false,decide_eq_true_eq];rw[ decide_eq_false fun h=>hi h.2.1]
 ·rw[ifN hv];simp only[bsS,Fhz,if_true,if_false,decide_eq_true_eq];rw[ decide_eq_false fun h=>hv h.1]
theorem z7f (r:Rl_)(i k:Int):z0x r i k=some (decide (hasP r i k)):=by
 rw[← q9F]
 unfold z0x q8G
 simp only[q7d,z1C,z1m,z6w]
theorem j3L:q8o=q9U:=by
 funext r;unfold q8o q9U z0e
 by_cases h:((([]:List Int).length:Int)+(r.Rows.length:Int))*8≤140737488355328∧(([]:List Int).length:Int)+(r.Rows.length:Int)≤9223372036854775807
 ·rw[q3M h,q3M h];rfl
 ·unfold grd;rw[ifN h,ifN h];rfl
theorem k6n:z0x=q8G:=by
 funext r i k;rw[z7f,q9F]
theorem j6N:z4t=q8c:=by
 funext r i k;unfold z4t q8c;simp only[j3L,q7d,z1C,z1m,z6w]
theorem z8G:q7A=q5H:=by
 funext n;unfold q7A q5H;simp only[z1m,z6w]
theorem z6x {r:Rl_}(h:r.Rows.length≤1048576):q9U r=some r:=by
 unfold q9U;rw[q3M (by simp only[Ekz];constructor<;>omega)]
theorem k6o {r:Rl_}(h:r.Rows.length≤1048576)(i k:Int):∃ x,q8c r i k=some x∧x.Rows.length=r.Rows.length:=by
 unfold q8c
 simp only[z6x h,q7d,z1m,bsS,decide_eq_true_eq]
 by_cases hv:Valid r
 ·have hv1:=hv.1;have hv2:=hv.2.1;have hv3:=hv.2.2.1
  rw[ifP hv,q3M (by constructor<;>omega)];simp only[bsS,Fhz,if_true,if_false,decide_eq_true_eq]
  by_cases hi:0≤i∧i≤r.N-1
  ·rw[ifP hi,q3M (by constructor<;>omega)];simp only[bsS,Fhz,if_true,if_false,decide_eq_true_eq]
   by_cases hk:0≤k∧k≤r.N-1
   ·obtain⟨x,hx⟩:∃ x,r.Rows[i.toNat]?=some x:=⟨_,Auz (by omega)⟩
    have hrow:=hv.row (i:=i) hi hx
    rw[ifP hk,q3M hi.1,hx,bsS,q3M hk.1,q3M ⟨hk.1,by omega⟩,q3M ⟨hrow.2.1,Eaz _⟩]
    exact⟨_,rfl,by simp⟩
   ·rw[ifN hk];exact⟨_,rfl,rfl⟩
  ·rw[ifN hi];simp only[bsS,Fhz,if_true,if_false,decide_eq_true_eq];exact⟨_,rfl,rfl⟩
 ·rw[ifN hv];simp only[bsS,Fhz,if_true,if_false,decide_eq_true_eq];exact⟨_,rfl,rfl⟩
theorem k1c {r:Rl_}(h:r.Rows.length≤1048576)(i k:Int):q8c r i k=some (addP r i k):=by
 unfold q8c
 simp only[z6x h,q7d,z1m,bsS,decide_eq_true_eq]
 by_cases hv:Valid r
 ·have hv1:=hv.1;have hv2:=hv.2.1;have hv3:=hv.2.2.1
  rw[ifP hv,q3M (by constructor<;>omega)];simp only[bsS,Fhz,if_true,if_false,decide_eq_true_eq]
  by_cases hi:0≤i∧i≤r.N-1
  ·rw[ifP hi,q3M (by constructor<;>omega)];simp only[bsS,Fhz,if_true,if_false,decide_eq_true_eq]
   by_cases hk:0≤k∧k≤r.N-1
   ·obtain⟨x,hx⟩:∃ x,r.Rows[i.toNat]?=some x:=⟨_,Auz (by omega)⟩
    have hrow:=hv.row (i:=i) hi hx
    rw[ifP hk,q3M hi.1,hx,bsS,q3M hk.1,q3M ⟨hk.1,by omega⟩,q3M ⟨hrow.2.1,Eaz _⟩]
    have e:addP r i k=j3K r i (orI (z7y r i) ((2 ^ k.toNat:Nat):Int)):=ifP ⟨hv,hi,hk⟩
    rw[e,hrow.1];rfl
   ·rw[ifN hk]
    have e:addP r i k=r:=ifN fun h=>hk h.2.2
    rw[e]
  ·rw[ifN hi];simp only[bsS,Fhz,if_true,if_false,decide_eq_true_eq]
   have e:addP r i k=r:=ifN fun h=>hi h.2.1
   rw[e]
 ·rw[ifN hv];simp only[bsS,Fhz,if_true,if_false,decide_eq_true_eq]
  have e:addP r i k=r:=ifN fun h=>hv h.1
  rw[e]
theorem j2q {n:Int}(h0:0≤n)(h1:n≤16):q5H n=some ⟨n,Cbz n.toNat 0⟩:=by
 unfold q5H
 rw[z1m,bsS,ifP (by simp;omega),q3M (by omega)]
theorem z8H (r:Rl_)(i k:Int):(addP r i k).Rows.length=r.Rows.length∧(addP r i k).N=r.N:=by
 unfold addP
 split
 ·exact⟨by simp[j3K],rfl⟩
 ·exact⟨rfl,rfl⟩
theorem j2r (x k:Int):bit x k↔x.toNat.testBit k.toNat=true:=by
 unfold bit
 rw[Nat.testBit_eq_decide_div_mod_eq,Nat.shiftRight_eq_div_pow]
 simp[Nat.and_one_is_mod]
def j6O (k:Nat)(s:List Int):List Int:=s.map fun x=>if x.toNat.testBit k=true then orI x (s.getD k 0) else x
def j1I (s:List Int):Nat→List Int
 | 0=>s
 | m+1=>j6O m (j1I s m)
def z5h (n:Nat)(s:List Int):Prop:=s.length=n∧∀ x∈s,0≤x∧x.toNat<2 ^ n
theorem j5r (x y:Int):0≤orI x y:=by unfold orI;omega
theorem j0o (x y:Int):(orI x y).toNat=x.toNat ||| y.toNat:=by unfold orI;omega
theorem k4g {n:Nat}{s:List Int}(h:z5h n s)(k:Nat):0≤s.getD k 0∧(s.getD k 0).toNat<2 ^ n:=by
 rw[Ddz]
 cases hk:s[k]? with
 | none=>simp;exact Nat.two_pow_pos n
 | some x=>exact h.2 x (Ckz hk)
theorem k6p {n k:Nat}{s:List Int}(h:z5h n s):z5h n (j6O k s):=by
 refine⟨by unfold j6O;rw[lnM];exact h.1,fun x hx=>?_⟩
 unfold j6O at hx
 obtain⟨y,hy,rfl⟩:=List.mem_map.1 hx
 have h1:=h.2 y hy
 split
 ·exact⟨j5r _ _,by rw[j0o];exact Efz h1.2 (k4g h k).2⟩
 ·exact h1
theorem z3P {n:Nat}{s:List Int}(h:z5h n s):∀ m,z5h n (j1I s m)
 | 0=>h
 | m+1=>k6p (z3P h m)
def Rl (s:List Int)(i j:Nat):Prop:=(s.getD i 0).toNat.testBit j=true
theorem k8E {n k:Nat}{s:List Int}(h:z5h n s){i:Nat}(hi:i<n)(j:Nat):Rl (j6O k s) i j↔Rl s i j∨(Rl s i k∧Rl s k j):=by
 unfold Rl
 have hs:∃ x,s[i]?=some x:=⟨_,Auz (by rw[h.1];exact hi)⟩
 obtain⟨x,hx⟩:=hs
 have e1:s.getD i 0=x:=by rw[Ddz,hx];rfl
 have e2:(j6O k s).getD i 0=if x.toNat.testBit k=true then orI x (s.getD k 0) else x:=by
  unfold j6O
  rw[Ddz,Dnz,hx];rfl
 rw[e1,e2]
 by_cases hb:x.toNat.testBit k=true
 ·rw[ifP hb,j0o,Nat.testBit_or,Bool.or_eq_true];simp[hb]
 ·rw[ifN hb];simp[hb]
theorem x0l {n:Nat}{s:List Int}(h:z5h n s){i j:Nat}(hR:Rl s i j):j<n:=by
 unfold Rl at hR
 have h1:=(k4g h i).2
 apply Decidable.byContradiction
 intro hj
 have:(s.getD i 0).toNat.testBit j=false:=Nat.testBit_lt_two_pow (Nat.lt_of_lt_of_le h1 (Edz (by omega) (by omega)))
 rw[this] at hR;cases hR
theorem k7B {n:Nat}{s:List Int}(h:z5h n s){i j:Nat}(hR:Rl s i j):i<n:=by
 unfold Rl at hR
 apply Decidable.byContradiction
 intro hi
 have:s.getD i 0=0:=by rw[Ddz,Bfz (by rw[h.1];omega)];rfl
 rw[this] at hR;simp at hR
theorem k4h {n:Nat}{s:List Int}(h:z5h n s):∀ (m i j:Nat),Rl s i j→Rl (j1I s m) i j
 | 0,_,_,hR=>hR
 | m+1,i,j,hR=>by
  have hR':=k4h h m i j hR
  exact (k8E (z3P h m) (k7B (z3P h m) hR') j).2 (.inl hR')
theorem k1d {n k:Nat}{s:List Int}(h:z5h n s)(hk:k<n)(hn:n≤16):eachN (q9f k) 0 n s=some (j6O k s):=by
 have hkk:∃ y,s[k]?=some y:=⟨_,Auz (by rw[h.1];exact hk)⟩
 obtain⟨y,hy⟩:=hkk
 have ey:s.getD k 0=y:=by rw[Ddz,hy];rfl
 let f:Int→Int:=fun x=>if x.toNat.testBit k=true then orI x y else x
 have hf:f y=y:=by
  show (if y.toNat.testBit k=true then orI y y else y)=y
  have:=(h.2 y (Ckz hy)).1
  split
  ·unfold orI;rw[Nat.or_self];omega
  ·rfl
 obtain⟨s',h1,h2⟩:=j2n (P:=fun m t=>t=(s.take m).map f++s.drop m) (f:=q9f k) (n:=n) (i:=0) (s:=s) (by simp) (fun m t _ hm ht=>by
  subst ht
  have hms:m<s.length:=by rw[h.1];omega
  obtain⟨x,hx⟩:∃ x,s[m]?=some x:=⟨_,Auz hms⟩
  have hx0:=h.2 x (Ckz hx)
  have hy0:=h.2 y (Ckz hy)
  have g1:((s.take m).map f++s.drop m)[m]?=some x:=by
   rw[Bez (by simp;omega)]
   simp only[lnM,Ccz]
   rw[show m-min m s.length=0 by omega,Axz,Dgz,hx]
  have g2:((s.take m).map f++s.drop m)[k]?=some y:=by
   by_cases hkm:k<m
   ·rw[List.getElem?_append_left (by simp;omega),Dnz,Azz,ifP hkm,hy]
    show some (f y)=_
    rw[hf]
   ·rw[Bez (by simp;omega)]
    simp only[lnM,Ccz]
    rw[Axz,show m+(k-min m s.length)=k by omega,hy]
  have hset:(((s.take m).map f++s.drop m).set m (f x))=(s.take (m+1)).map f++s.drop (m+1):=by
   rw[List.set_append_right _ _ (by simp;omega)]
   simp only[lnM,Ccz]
   rw[show m-min m s.length=0 by omega,Ejz,hx,Dvz,Bhz]
   congr 1
   rw[Dbz hms];rfl
  have hno:f x=x→((s.take m).map f++s.drop m)=(s.take (m+1)).map f++s.drop (m+1):=fun e=>by
   rw[← hset,e]
   apply Cnz
   intro q
   rw[Chz]
   by_cases hq:m=q
   ·subst hq
    rw[ifP rfl,g1]
    split
    ·rfl
    ·rename_i hl;exact absurd (by simp;omega) hl
   ·rw[ifN hq]
  refine⟨_,?_,rfl⟩
  unfold q9f
  rw[g1,bsS,q3M (by refine⟨hx0.1,by omega,by omega⟩),q3M ⟨Eaz _,by decide⟩]
  by_cases hb:bit x (k:Int)
  ·have hb':=(j2r x k).1 hb
   rw[tnC] at hb'
   rw[ifP (k7A hb),g2,bsS,q3M ⟨hx0.1,hy0.1⟩,bsS,← hset]
   show some (List.set _ m (orI x y))=some (List.set _ m (f x))
   have:f x=orI x y:=ifP hb'
   rw[this]
  ·have hb' : ¬ x.toNat.testBit k=true:=fun h=>hb ((j2r x k).2 (by rw[tnC];exact h))
   rw[ifN (fun h=>hb (k7z h)),bsS,← hno (ifN hb')])
 rw[h1]
 subst h2
 unfold j6O
 rw[Ahz,List.take_of_length_le (by rw[h.1];exact Adz _),Enz (by rw[h.1];exact Adz _),Bxz,ey]
theorem z8I {r:Rl_}(h:Valid r):z5h r.N.toNat r.Rows∧r.N.toNat≤16:=by
 obtain⟨h0,h1,h2,h3⟩:=h
 have:=j6M r.N
 exact⟨⟨by omega,fun x hx=>⟨(h3 x hx).1,by have:=(h3 x hx).2;omega⟩⟩,by omega⟩
def q6K (r:Rl_):Rl_:=if Valid r then ⟨r.N,j1I r.Rows r.N.toNat⟩ else r
theorem k8F:z6d=q9f:=rfl
theorem j3M {r:Rl_}(h:r.Rows.length≤1048576):q8H r=some (q6K r):=by
 unfold q8H q6K
 rw[z6x h,bsS,q7d,bsS]
 by_cases hv:Valid r
 ·rw[ifP (by simpa using hv),ifP hv]
  obtain⟨hok,hn⟩:=z8I hv
  obtain⟨t,h1,h2⟩:=j2n (P:=fun m t=>t=j1I r.Rows m) (f:=z2L r) (n:=r.N.toNat) (i:=0) (s:=r.Rows) rfl (fun k s _ hk hs=>by
   subst hs
   refine⟨_,?_,rfl⟩
   unfold z2L
   rw[k1d (z3P hok k) (by omega) hn];rfl)
  rw[h1,bsS,h2,Ahz]
 ·rw[ifN (by simpa using hv),ifN hv]
theorem j3N {r:Rl_}(h:r.Rows.length≤1048576):q8E r=some (q6K r):=by
 unfold q8E q6K
 rw[j3L,z6x h,bsS,z1C,bsS]
 by_cases hv:Valid r
 ·rw[ifP (by simpa using hv),ifP hv]
  obtain⟨hok,hn⟩:=z8I hv
  obtain⟨t,h1,h2⟩:=j2n (P:=fun m t=>t=j1I r.Rows m) (f:=z2G) (n:=r.Rows.length) (i:=0) (s:=r.Rows) rfl (fun k s _ hk hs=>by
   subst hs
   refine⟨_,?_,rfl⟩
   unfold z2G
   have hl:=(z3P hok k).1
   rw[hl,k8F,k1d (z3P hok k) (by rw[hok.1] at hk;omega) hn];rfl)
  rw[h1,bsS,h2,Ahz,hok.1]
 ·rw[ifN (by simpa using hv),ifN hv]
theorem j5s (r:Rl_):(q6K r).Rows.length=r.Rows.length∧(q6K r).N=r.N:=by
 unfold q6K
 by_cases hv:Valid r
 ·rw[ifP hv]
  obtain⟨hok,_⟩:=z8I hv
  exact⟨by show (j1I r.Rows r.N.toNat).length=_;rw[(z3P hok _).1,hok.1],rfl⟩
 ·rw[ifN hv];exact⟨rfl,rfl⟩
theorem j8x {r:Rl_}(h:Valid r):Valid (q6K r):=by
 obtain⟨hok,hn⟩:=z8I h
 obtain⟨k1,k2⟩:=z3P hok r.N.toNat
 obtain⟨h0,h1,h2,h3⟩:=h
 unfold q6K
 rw[ifP ⟨h0,h1,h2,h3⟩]
 refine⟨h0,h1,by show ((j1I r.Rows r.N.toNat).length:Int)=r.N;omega,fun x hx=>?_⟩
 have:=k2 x hx
 have:=j6M r.N
 exact⟨(k2 x hx).1,by show x≤((2 ^ r.N.toNat:Nat):Int)-1;omega⟩
theorem k8G {r:Rl_}(h:Valid r)(i j:Nat):hasP r (i:Int) (j:Int)↔Rl r.Rows i j:=by
 obtain⟨hok,hn⟩:=z8I h
 unfold hasP
 have h0:=h.1
 constructor
 ·rintro⟨_,_,_,hb⟩
  have:=(j2r _ _).1 hb
  simpa[Rl,z7y] using this
 ·intro hR
  have hi:=k7B hok hR
  have hj:=x0l hok hR
  refine⟨h,⟨by omega,by omega⟩,⟨by omega,by omega⟩,(j2r _ _).2 ?_⟩
  simpa[Rl,z7y] using hR
theorem j3O {r:Rl_}(h:r.Rows.length≤1048576):z2H r=some (decide (∃ k:Nat,k<r.Rows.length∧hasP (q6K r) (k:Int) (k:Int))):=by
 unfold z2H
 rw[j3N h,bsS]
 have hl:=(j5s r).1
 have hf:∀ (k:Nat) (x:Int),(hasP (q6K r) (k:Int) (k:Int)→z4O (q6K r) k x ()=some (.inr true))∧(¬ hasP (q6K r) (k:Int) (k:Int)→z4O (q6K r) k x ()=some (.inl ())):=fun k x=>by
  unfold z4O
  rw[z7f,bsS]
  exact⟨fun hp=>ifP (by simpa using hp),fun hp=>ifN (by simpa using hp)⟩
 have hany:=z8j (c:=true) (xs:=(q6K r).Rows) (i:=0) (p:=fun k _=>hasP (q6K r) (k:Int) (k:Int)) (f:=z4O (q6K r)) fun k x _=>by
  rw[Ahz];exact hf k x
 by_cases hp:∃ k:Nat,k<r.Rows.length∧hasP (q6K r) (k:Int) (k:Int)
 ·rw[decide_eq_true hp]
  obtain⟨k,hk,hpk⟩:=hp
  rw[hany.1 ⟨k,_,Auz (by omega),by rw[Ahz];exact hpk⟩];rfl
 ·rw[decide_eq_false hp]
  rw[hany.2 fun k x hx hpk=>hp ⟨k,by rw[← hl];exact (List.getElem?_eq_some_iff.1 hx).1,by rw[Ahz] at hpk;exact hpk⟩];rfl
theorem z3c {α ρ:Type}{p:α→Bool}{r:α→ρ}:∀ {xs:List α} {i:Nat} {f:Nat→α→Unit→Option (Unit ⊕ ρ)},(∀ k x,x∈xs→(p x=true→f k x ()=some (.inr (r x)))∧(p x=false→f k x ()=some (.inl ()))) →
  findL f i xs ()=some (match xs.find? p with|some x=>.inr (r x)|none=>.inl ())
 | [],_,_,_=>rfl
 | x::xs,i,f,h=>by
  have h0:=h i x (by simp)
  cases hp:p x with
  | true=>simp[findL,h0.1 hp,List.find?,hp]
  | false=>
   have ih:=z3c (p:=p) (r:=r) (xs:=xs) (i:=i+1) (f:=f) fun k y hy=>h k y (by simp[hy])
   simp[findL,h0.2 hp,List.find?,hp,ih]
theorem z5A {α β:Type}{p:α→Bool}{g:Nat→α→β}{B:Nat}{f:Nat→α→List β→Option (List β)}(hf:∀ k x s,s.length<B→f k x s=some (if p x=true then s++[g k x] else s)):∀ (xs:List α) (i:Nat) (s:List β),s.length+xs.length≤B →
  ∃ ys,eachL f i xs s=some (s++ys)∧ys.length≤xs.length
 | [],i,s,_=>⟨[],by simp[eachL],by simp⟩
 | x::xs,i,s,h=>by
  simp only[lnC] at h
  by_cases hp:p x=true
  ·obtain⟨ys,h1,h2⟩:=z5A hf xs (i+1) (s++[g i x]) (by simp;omega)
   exact⟨g i x::ys,by simp[eachL,hf i x s (by omega),hp,h1],by simp;omega⟩
  ·obtain⟨ys,h1,h2⟩:=z5A hf xs (i+1) s (by omega)
   exact⟨ys,by simp[eachL,hf i x s (by omega),hp,h1],by simp;omega⟩
theorem z4a (x lo hi:Int):q6f x lo hi=some (decide (lo≤x∧x≤hi)):=by
 unfold q6f;split<;>simp_all<;>omega
theorem z8W (x lo hi:Int):q4l x lo hi=some (decide (lo≤x∧x≤hi)):=by
 unfold q4l;split<;>simp_all<;>omega
theorem j1b (r:Rule)(k:Int):q7w r k=q4K r k:=by
 unfold q7w q4K;rw[z4a,z8W]
def j1c (a:At_):Bool:=decide (a.Mode=1∨a.Mode=2)
theorem j5t:z4M=q6v:=rfl
theorem j4K:z4N=q8v:=rfl
theorem k4i {g:Gm_}(h:∀ y∈g.ss_,y.as_.length≤1048576)(s:BA_):∃ y b,q5P g s=some (y,b)∧q6r g s=some (y,b)∧y.as_.length≤1048576:=by
 have h1:=z3c (p:=fun y:Symbol=>decide (y.Name=s)) (r:=fun y=>(y,true)) (xs:=g.ss_) (i:=0) (f:=z0V s) fun k y hy=>by
  have hg:z0k y=some y:=by
   unfold z0k;have:=h y hy;rw[q3M (by simp only[Ekz];constructor<;>omega)]
  unfold z0V;rw[hg];constructor<;>intro hp<;>simp_all
 have h2:=z3c (p:=fun y:Symbol=>decide (y.Name=s)) (r:=fun y=>(y,true)) (xs:=g.ss_) (i:=0) (f:=z1b s) fun k y hy=>by
  unfold z1b;constructor<;>intro hp<;>simp_all
 unfold q5P q6r
 rw[h1,h2]
 cases hf:g.ss_.find? (fun y:Symbol=>decide (y.Name=s)) with
 | none=>exact⟨_,_,rfl,rfl,by simp⟩
 | some y=>exact⟨_,_,rfl,rfl,h y (Erz hf)⟩
theorem k2x {g:Gm_}(h:∀ y∈g.ss_,y.as_.length≤1048576)(s:BA_):∃ l,q5U g s=some l∧q5R g s=some l∧l.length≤1048576:=by
 obtain⟨y,b,h1,h2,h3⟩:=k4i h s
 obtain⟨l,h4,h5⟩:=z5A (p:=j1c) (g:=fun _ x=>x) (B:=1048577) (f:=q6v) (fun k x s hs=>by
  have hg:((s.length:Int)+1)*40≤140737488355328∧(s.length:Int)+1≤9223372036854775807:=by constructor<;>omega
  unfold q6v j1c
  rw[q3M hg]
  by_cases m1:x.Mode=1
  ·rw[ifP m1,ifP (by simp[m1])];rfl
  ·rw[ifN m1]
   by_cases m2:x.Mode=2
   ·rw[ifP m2,ifP (by simp[m2])];rfl
   ·rw[ifN m2,ifN (by simp[m1,m2])];rfl) y.as_ 0 [] (by simp;omega)
 simp only[Bwz] at h4
 refine⟨l,?_,?_,by omega⟩
 ·unfold q5U;rw[h1];dsimp only[bsS];rw[h4];rfl
 ·unfold q5R;rw[h2];dsimp only[bsS];rw[j5t,h4];rfl
theorem k2y (r:Rule)(k:Nat)(hk:k≤r.rt_.length)(hl:r.rt_.length≤1048576):∃ x,q4K r (k:Int)=some x:=by
 unfold q4K
 by_cases h0:(k:Int)=0
 ·exact⟨_,ifP h0⟩
 ·rw[ifN h0,z4a,bsS,ifP (by simp;omega),q3M (by constructor<;>omega),q3M (by omega)]
  obtain⟨x,hx⟩:∃ x,r.rt_[((k:Int)-1).toNat]?=some x:=⟨_,Auz (by omega)⟩
  exact⟨x,by rw[hx];rfl⟩
theorem k4j (k:Nat)(B:Nat)(hB:B≤4398046511104):∀ (l:List At_) (i:Nat) (s:List Oc),s.length+l.length≤B→∃ ys,eachL (q6C k) i l s=some (s++ys)∧ys.length≤l.length:=fun l i s h=>
 z5A (p:=fun _=>true) (g:=fun _ x=>(⟨(k:Int),x.Name⟩:Oc)) (B:=B) (f:=q6C k) (fun j x s hs=>by
  have hg:((s.length:Int)+1)*24≤140737488355328∧(s.length:Int)+1≤9223372036854775807:=by constructor<;>omega
  unfold q6C
  rw[q3M hg,ifP rfl]) l i s h
theorem k1e (k:Nat):z6k (k:Int)=q6C k:=rfl
theorem k1f {g:Gm_}{r:Rule}(h:∀ y∈g.ss_,y.as_.length≤1048576)(hr:r.rt_.length≤1048576):∃ l,q6Q g r=some l∧q6O g r=some l∧l.length≤1099512676352:=by
 have key:∀ m k (s:List Oc),k+m=r.rt_.length+1→s.length≤k*1048576→∃ l,eachN (q8a g r) k m s=some l∧q4G (q5L g r) (s,(k:Int))=some l∧l.length≤(k+m)*1048576:=by
  intro m
  induction m with
  | zero=>
   intro k s hk hs
   refine⟨s,rfl,q3N ?_,by simpa using hs⟩
   unfold q5L;dsimp only;rw[ifN (by omega)]
  | succ m ih=>
   intro k s hk hs
   obtain⟨x,hx⟩:=k2y r k (by omega) hr
   obtain⟨p,hp1,hp2,hp3⟩:=k2x h x
   obtain⟨ys,hy1,hy2⟩:=k4j k 4398046511104 (by omega) p 0 s (by omega)
   obtain⟨l,h1,h2,h3⟩:=ih (k+1) (s++ys) (by omega) (by simp;omega)
   refine⟨l,?_,?_,by rw[show k+(m+1)=k+1+m by omega];exact h3⟩
   ·have e:q8a g r k s=some (s++ys):=by
     unfold q8a;rw[j1b,hx,bsS,hp2,bsS,hy1];rfl
    simp only[eachN,e,bsS];exact h1
   ·have e:q5L g r (s,(k:Int))=some (.inl (s++ys,((k+1:Nat):Int))):=by
     unfold q5L;dsimp only
     rw[ifP (by omega),hx,bsS,hp1,bsS,k1e,hy1,bsS,q3M (by constructor<;>omega)];rfl
    rw[q4b e];exact h2
 obtain⟨l,h1,h2,h3⟩:=key (r.rt_.length+1) 0 [] (by omega) (by simp)
 refine⟨l,?_,?_,by omega⟩
 ·unfold q6Q
  have e:q4G (q5L g r) (([]:List Oc),0)=some l:=h2
  rw[e];rfl
 ·unfold q6O
  rw[q3M (by constructor<;>omega),h1];rfl
theorem j6P {α:Type}[Sz α]{x:α}:∀ {l:List α},x∈l→Sz.szd x≤szL l
 | [],h=>by simp at h
 | y::l,h=>by
  rcases List.mem_cons.1 h with rfl|h
  ·simp only[szL];omega
  ·have:=j6P h;simp only[szL];omega
theorem q7T {g:Gm_}(h:Sz.szd g≤1048576):∀ y∈g.ss_,y.as_.length≤1048576:=fun y hy=>by
 have h1:=j6P hy
 have h2:=j5j y
 have h3:=z7a g
 have h4:=q6X y.as_
 omega
theorem q5e {r:Rule}(h:Sz.szd r≤1048576):r.rt_.length≤1048576:=by
 have h1:=j0j r
 have h2:=q6X r.rt_
 omega
theorem j3P (k:Nat):∀ (l:List At_) (i:Nat) (s:List Oc),s.length+l.length≤4398046511104→eachL (q6C k) i l s=some (s++l.map fun x=>(⟨(k:Int),x.Name⟩:Oc))
 | [],i,s,_=>by simp[eachL]
 | x::l,i,s,h=>by
  simp only[lnC] at h
  have hg:((s.length:Int)+1)*24≤140737488355328∧(s.length:Int)+1≤9223372036854775807:=by constructor<;>omega
  have e:q6C k i x s=some (s++[(⟨(k:Int),x.Name⟩:Oc)]):=by unfold q6C;rw[q3M hg]
  simp only[eachL,e,bsS]
  rw[j3P k l (i+1) _ (by simp;omega)];simp
theorem k8H:∀ (n:Nat) (e q:Expr),q8t n e=some q→q8t (n+1) e=some q:=by
 intro n
 induction n with
 | zero=>intro e q h;cases h
 | succ n ih=>
  intro e q h
  have h' : z2l (q8t n) e=some q:=h
  show z2l (q8t (n+1)) e=some q
  unfold z2l at h' ⊢
  obtain⟨s,h1,h2⟩:=bd h'
  rw[j0Z (g:=z4v (q8t (n+1))) (fun k x s q hq=>by
   unfold z4v at hq ⊢
   obtain⟨y,h3,h4⟩:=bd hq
   rw[ih _ _ h3,bsS];exact h4) _ _ _ _ h1]
  exact h2
theorem k2z:∀ (m:Nat) (e:Expr),fuE e≤m→Sz.szd e≤1048576→q8t m e=some e:=by
 intro m
 induction m with
 | zero=>intro e h;rw[j1H] at h;omega
 | succ m ih=>
  intro e h hs
  rw[j1H] at h
  have hl:∀ (l:List Expr) (i:Nat) (s:List Expr),(∀ x∈l,fuE x≤m∧Sz.szd x≤1048576)→s.length+l.length≤4398046511→eachL (z4v (q8t m)) i l s=some (s++l):=by
   intro l
   induction l with
   | nil=>intro i s _ _;simp[eachL]
   | cons x l ihl=>
    intro i s hx hb
    simp only[lnC] at hb
    have h1:=ih x (hx x (by simp)).1 (hx x (by simp)).2
    have e1:z4v (q8t m) i x s=some (s++[x]):=by
     unfold z4v;rw[h1,bsS,q3M (by constructor<;>omega)]
    simp only[eachL,e1,bsS]
    rw[ihl _ _ (fun y hy=>hx y (by simp[hy])) (by simp;omega)];simp
  show z2l (q8t m) e=some e
  unfold z2l
  have h2:=q7t e
  have h3:=q6X e.Args
  rw[hl e.Args 0 [] (fun x hx=>⟨by have:=j6D hx;omega,by have:=k7w hx;omega⟩) (by simp;omega),Bwz,bsS]
  cases e;rfl
theorem k8I {e:Expr}(h:Sz.szd e≤1048576):z9T e=some e:=k3X (fun n q=>k8H n e q) (k2z _ e (Adz _) h)
theorem k2A:z9e=z9T:=by
 have h:∀ n,z2F n=q8t n:=by
  intro n
  induction n with
  | zero=>rfl
  | succ n ih=>funext e;show z6R (z2F n) e=z2l (q8t n) e;rw[ih];rfl
 funext e
 show recO (fun n=>z2F n e)=recO fun n=>q8t n e
 congr 1;funext n;rw[h]
def j9V:Expr:=⟨0,0,0,0,⟨#[]⟩,⟨#[]⟩,[]⟩
def eqAt (r:Rule)(o:Oc):Expr×Bool:=match r.es_.find? fun q=>decide (q.At=o) with
 | some q=>(q.Expr,true)
 | none=>(j9V,false)
theorem z9r {r:Rule}{q:Eqn}(h:q∈r.es_):Sz.szd q.Expr≤Sz.szd r:=by
 have h1:=j0j r
 have h2:=j1G q
 have h3:=z7d h
 have h4:=q7t q.Expr
 omega
theorem j6Q {r:Rule}(h:Sz.szd r≤1048576)(o:Oc):Sz.szd (eqAt r o).1≤1048576:=by
 unfold eqAt
 cases hf:r.es_.find? (fun q=>decide (q.At=o)) with
 | none=>show Sz.szd j9V≤_;have:Sz.szd j9V=0:=rfl;omega
 | some q=>have:=z9r (Erz hf);show Sz.szd q.Expr≤_;omega
theorem j2s {r:Rule}(h:Sz.szd r≤1048576)(o:Oc):q6a r o=some (eqAt r o):=by
 have key:∀ (l:List Eqn) (i:Nat),(∀ q∈l,Sz.szd q.Expr≤1048576)→findL (q8F o) i l ()=some (match l.find? fun q=>decide (q.At=o) with
   | some q=>.inr (q.Expr,true)
   | none=>.inl ()):=by
  intro l
  induction l with
  | nil=>intro i _;rfl
  | cons q l ih=>
   intro i hq
   by_cases hp:q.At=o
   ·simp[findL,q8F,hp,k8I (hq q (by simp))]
   ·simp[findL,q8F,hp]
    exact ih _ fun y hy=>hq y (by simp[hy])
 unfold q6a eqAt
 rw[key _ _ fun q hq=>by have:=z9r hq;omega]
 cases r.es_.find? (fun q=>decide (q.At=o))<;>rfl
theorem j9W {r:Rule}(h:Sz.szd r≤1048576)(o:Oc):q6a r o=some (eqAt r o)∧q8n r o=some (eqAt r o):=by
 have e:q8n=q6a:=by
  have e1:z3S=q8F:=by funext a k x u;unfold z3S q8F;rw[k2A]
  funext r o;unfold q8n q6a;rw[e1]
 rw[e]
 exact⟨j2s h o,j2s h o⟩
theorem k2B:q8M=q5S:=by
 funext l o
 unfold q8M q5S q4a
 have e:z1t o=q3U o:=by
  funext k x u
  unfold z1t q3U
  by_cases h:x=o
  ·rw[ifP h,ifP h.symm]
  ·rw[ifN h,ifN fun e=>h e.symm]
 rw[e]
 cases ((findL (q3U o) 0 l ()).bind <| onr (fun r1=>some r1) fun _=>some (-1))<;>rfl
theorem k2C (l:List Oc)(o:Oc):∃ k,q5S l o=some k:=by
 have h:q4a l o=some (ixF l o):=by
  unfold q4a
  refine j3F fun k x=>⟨fun e=>?_,fun e=>?_⟩
  ·unfold q3U;rw[ifP e.symm]
  ·unfold q3U;rw[ifN (fun h=>e h.symm)]
 exact⟨_,by unfold q5S;rw[h];rfl⟩
theorem x0m {r x:Rl_}{i k:Int}(h:q8c r i k=some x):x.N=r.N:=by
 unfold q8c at h
 obtain⟨y,h1,h⟩:=bd h
 have hy:y=r:=by unfold q9U at h1;obtain⟨_,h1⟩:=z6H h1;exact (Option.some.inj h1).symm
 subst hy
 obtain⟨y2,_,h⟩:=bd h
 obtain⟨s1,_,h⟩:=bd h
 obtain⟨s2,_,h⟩:=bd h
 by_cases hs:s2=true
 ·rw[ifP hs] at h
  obtain⟨_,h⟩:=z6H h
  obtain⟨_,_,h⟩:=bd h
  obtain⟨_,h⟩:=z6H h
  obtain⟨_,h⟩:=z6H h
  obtain⟨_,h⟩:=z6H h
  cases h;rfl
 ·rw[ifN hs] at h
  cases h;rfl
theorem k6q (l:List Oc)(k:Nat):∀ (us:List Oc) (i:Nat) (rows:List Int) (n:Int),rows.length≤1048576 →
  ∃ rows',eachL (q6Z l k) i us (rows,n)=some (rows',n)∧eachL (q9e l (k:Int)) i us (rows,n)=some (rows',n)∧rows'.length=rows.length:=by
 intro us
 induction us with
 | nil=>intro i rows n _;exact⟨rows,rfl,rfl,rfl⟩
 | cons u us ih=>
  intro i rows n h
  obtain⟨j,hj⟩:=k2C l u
  obtain⟨x,hx,hxl⟩:=k6o (r:=⟨n,rows⟩) h j (k:Int)
  have hN:=x0m hx
  obtain⟨rows',h1,h2,h3⟩:=ih (i+1) x.Rows n (by rw[hxl];exact h)
  have e1:q6Z l k i u (rows,n)=some (x.Rows,n):=by
   unfold q6Z
   dsimp only
   rw[hj,bsS,j6N,hx,bsS,hN]
  have e2:q9e l (k:Int) i u (rows,n)=some (x.Rows,n):=by
   unfold q9e
   dsimp only
   rw[k2B,hj,bsS,hx,bsS,hN]
  exact⟨rows',by simp only[eachL,e1,bsS];exact h1,by simp only[eachL,e2,bsS];exact h2,h3.trans hxl⟩
theorem k2D:attrs j9V=[]:=by
 have:z7b j9V=[]:=by simp[j9V,z7b,z2v]
 unfold attrs j7R
 rw[this];simp[q5K]
theorem k4k {r:Rule}(hr:Sz.szd r≤1048576)(l:List Oc)(hl:l.length≤16):∀ (m k:Nat) (rows:List Int) (n:Int),k+m=l.length→0<n→rows.length≤1048576 →
  ∃ rows',eachL (q7a r l) k (l.drop k) (rows,n)=some (rows',n)∧q4G (q5M r l) ((k:Int),rows,n)=some (rows',n)∧rows'.length=rows.length:=by
 intro m
 induction m with
 | zero=>
  intro k rows n hk hn h
  refine⟨rows,by rw[Enz (by omega)];rfl,q3N ?_,rfl⟩
  unfold q5M
  dsimp only
  rw[ifN (by omega)]
 | succ m ih=>
  intro k rows n hk hn h
  obtain⟨x,hx⟩:∃ x,l[k]?=some x:=⟨_,Auz (by omega)⟩
  have hd:l.drop k=x::l.drop (k+1):=by
   rw[Dbz (by omega)]
   have:l[k]=x:=by rw[Auz (by omega)] at hx;exact Option.some.inj hx
   rw[this]
  obtain⟨E,B,hq⟩:∃ E B,eqAt r x=(E,B):=⟨_,_,rfl⟩
  obtain⟨rows1,h1,h2,h3⟩:=k6q l k (attrs E) 0 rows n h
  obtain⟨rows',k1,k2,k3⟩:=ih (k+1) rows1 n (by omega) hn (by omega)
  have hsz:=j6Q hr x
  have hf:=j9W hr x
  rw[hq] at hsz hf
  have e1:q7a r l k x (rows,n)=some (rows1,n):=by
   unfold q7a
   dsimp only
   rw[hf.2,bsS]
   dsimp only
   rw[j2o hsz,bsS,h1];rfl
  have hin:(grd (0≤(k:Int)) <| (l[(k:Int).toNat]?).bind fun x1=>(q6a r x1).bind fun (y3,y4)=>if y4=true then ((q6P y3).bind fun y5=>(eachL (q9e l (k:Int)) 0 y5 (rows,n)).bind fun (s8,s9)=>some (s8,s9)) else some (rows,n))=some (rows1,n):=by
   rw[q3M (by omega),tnC,hx,bsS,hf.1,bsS]
   dsimp only
   cases hb:B with
   | true=>rw[ifP rfl,j6J hsz,bsS,h2,bsS]
   | false=>
    have hz:E=j9V:=by
     unfold eqAt at hq
     cases hf:r.es_.find? (fun q=>decide (q.At=x)) with
     | none=>rw[hf] at hq;cases hq;rfl
     | some q=>rw[hf] at hq;cases hq;cases hb
    rw[hz,k2D] at h1
    simp only[eachL,Option.some.injEq,Prod.mk.injEq] at h1
    rw[ifN (by simp),h1.1]
  have e2:q5M r l ((k:Int),rows,n)=some (.inl (((k+1:Nat):Int),rows1,n)):=by
   unfold q5M
   dsimp only
   rw[ifP (by omega),ifP hn,hin,bsS]
   dsimp only
   rw[q3M (by constructor<;>omega)];rfl
  exact⟨rows',by rw[hd];simp only[eachL,e1,bsS];exact k1,by rw[q4b e2];exact k2,k3.trans h3⟩
theorem k2E {g:Gm_}{r:Rule}(h:Sz.szd g≤1048576)(hr:Sz.szd r≤1048576):∃ x,q7D g r=some x∧q7B g r=some x∧x.Rows.length≤16:=by
 obtain⟨l,h1,h2,_⟩:=k1f (q7T h) (q5e hr)
 have hem:∀ n:Nat,q5H (n:Int)=if n≤16 then some ⟨(n:Int),Cbz n 0⟩ else some ⟨0,[]⟩:=fun n=>by
  unfold q5H
  rw[z1m,bsS]
  by_cases hn:n≤16
  ·rw[ifP (by simp;omega),q3M (by omega),ifP hn];rfl
  ·rw[ifN (by simp;omega),ifN hn]
 unfold q7D q7B
 rw[h1,h2,bsS,bsS,z8G,hem]
 by_cases hl:l.length≤16
 ·rw[ifP hl,bsS,bsS,ifN (by omega)]
  dsimp only
  by_cases h0:l.length=0
  ·have:l=[]:=Ayz h0
   subst this
   have e:q4G (q5M r ([]:List Oc)) (0,Cbz ([]:List Oc).length 0,((([]:List Oc).length:Nat):Int))=some (Cbz ([]:List Oc).length 0,((([]:List Oc).length:Nat):Int)):=q3N (by unfold q5M;dsimp only;rw[ifN (by simp)])
   rw[e]
   exact⟨_,rfl,rfl,by simp⟩
  ·obtain⟨rows',k1,k2,k3⟩:=k4k hr l hl l.length 0 (Cbz l.length 0) (l.length:Int) (by omega) (by omega) (by simp;omega)
   have k2' : q4G (q5M r l) (0,Cbz l.length 0,(l.length:Int))=some (rows',(l.length:Int)):=k2
   rw[List.drop_zero] at k1
   rw[k1,k2']
   exact⟨_,rfl,rfl,by show rows'.length≤16;simp at k3;omega⟩
 ·rw[ifN hl,bsS,bsS,ifP (by omega)]
  have e:q4G (q5M r l) (0,([]:List Int),(0:Int))=some ([],0):=q3N (by unfold q5M;dsimp only;rw[ifP (by omega),ifN (by omega)])
  rw[e]
  exact⟨_,rfl,rfl,by simp⟩
theorem z6y {α β:Type}{p:α→Bool}{g:α→β}{B:Nat}{f:Nat→α→List β→Option (List β)}(hf:∀ k x s,s.length<B→f k x s=some (if p x=true then s++[g x] else s)):∀ (xs:List α) (i:Nat) (s:List β),s.length+xs.length≤B →
  eachL f i xs s=some (s++(xs.filter p).map g)
 | [],i,s,_=>by simp[eachL]
 | x::xs,i,s,h=>by
  simp only[lnC] at h
  by_cases hp:p x=true
  ·have ih:=z6y hf xs (i+1) (s++[g x]) (by simp;omega)
   simp[eachL,hf i x s (by omega),hp,ih]
  ·have ih:=z6y hf xs (i+1) s (by omega)
   simp[eachL,hf i x s (by omega),hp,ih]
theorem j3Q {α β:Type}{p:α→Bool}{g:Nat→β}{B:Nat}{f:Nat→α→List β→Option (List β)}(hf:∀ k x s,s.length<B→f k x s=some (if p x=true then s++[g k] else s)):∀ (xs:List α) (i:Nat) (s:List β),s.length+xs.length≤B →
  eachL f i xs s=some (s++((xs.zipIdx i).filter fun q=>p q.1).map fun q=>g q.2)
 | [],i,s,_=>by simp[eachL]
 | x::xs,i,s,h=>by
  simp only[lnC] at h
  by_cases hp:p x=true
  ·have ih:=j3Q hf xs (i+1) (s++[g i]) (by simp;omega)
   simp[eachL,hf i x s (by omega),hp,ih,Esz]
  ·have ih:=j3Q hf xs (i+1) s (by omega)
   simp[eachL,hf i x s (by omega),hp,ih,Esz]
theorem j1d {β:Type}{h:Nat→List β}{C n:Nat}{f:Nat→List β→Option (List β)}(hf:∀ k s,k<n→s.length≤k*C→f k s=some (s++h k))(hh:∀ k,k<n→(h k).length≤C) :
  ∀ (m k:Nat) (s:List β),k+m=n→s.length≤k*C→eachN f k m s=some (s++(Dxz k m).flatMap h)
 | 0,k,s,_,_=>by simp[eachN]
 | m+1,k,s,hk,hs=>by
  have hl:=hh k (by omega)
  have e:(k+1)*C=k*C+C:=Nat.succ_mul k C
  have ih:=j1d hf hh m (k+1) (s++h k) (by omega) (by rw[Bgz];omega)
  simp[eachN,hf k s (by omega) hs,ih,Etz]
theorem j3R {β:Type}{h:Nat→List β}{C n:Nat}{f:(List β×Int)→Option ((List β×Int) ⊕ List β)}(hf:∀ (k:Nat) s,k<n→s.length≤k*C→f (s,(k:Int))=some (.inl (s++h k,((k+1:Nat):Int))))(he:∀ s,f (s,(n:Int))=some (.inr s))(hh:∀ k,k<n→(h k).length≤C) :
  ∀ (m k:Nat) (s:List β),k+m=n→s.length≤k*C→q4G f (s,(k:Int))=some (s++(Dxz k m).flatMap h)
 | 0,k,s,hk,_=>by
  obtain rfl:k=n:=by omega
  rw[q3N (he s)];simp
 | m+1,k,s,hk,hs=>by
  have hl:=hh k (by omega)
  have e:(k+1)*C=k*C+C:=Nat.succ_mul k C
  have ih:=j3R hf he hh m (k+1) (s++h k) (by omega) (by rw[Bgz];omega)
  rw[q4b (hf k s (by omega) hs),ih];simp[Etz]
abbrev GOk (g:Gm_):Prop:=∀ y∈g.ss_,y.as_.length≤1048576
def zS:Symbol:=⟨⟨#[]⟩,[]⟩
def zA:At_:=⟨⟨#[]⟩,0,0,false⟩
def q7i (g:Gm_)(s:BA_):Symbol×Bool:=match g.ss_.find? fun y=>decide (y.Name=s) with
 | some y=>(y,true)
 | none=>(zS,false)
def z3Q (y:Symbol)(s:BA_):At_×Bool:=match y.as_.find? fun a=>decide (a.Name=s) with
 | some a=>(a,true)
 | none=>(zA,false)
theorem z3R {g:Gm_}(h:GOk g)(s:BA_):q5P g s=some (q7i g s):=by
 have h1:=z3c (p:=fun y:Symbol=>decide (y.Name=s)) (r:=fun y=>(y,true)) (xs:=g.ss_) (i:=0) (f:=z0V s) fun k y hy=>by
  have hg:z0k y=some y:=by
   unfold z0k;have:=h y hy;rw[q3M (by simp only[Ekz];constructor<;>omega)]
  unfold z0V;rw[hg];constructor<;>intro hp<;>simp_all
 unfold q5P q7i
 rw[h1]
 cases hf:g.ss_.find? (fun y:Symbol=>decide (y.Name=s)) with
 | none=>rfl
 | some y=>rfl
theorem z5i (g:Gm_)(s:BA_):q6r g s=some (q7i g s):=by
 have h2:=z3c (p:=fun y:Symbol=>decide (y.Name=s)) (r:=fun y=>(y,true)) (xs:=g.ss_) (i:=0) (f:=z1b s) fun k y hy=>by
  unfold z1b;constructor<;>intro hp<;>simp_all
 unfold q6r q7i
 rw[h2]
 cases hf:g.ss_.find? (fun y:Symbol=>decide (y.Name=s)) with
 | none=>rfl
 | some y=>rfl
theorem z5j {g:Gm_}(h:GOk g)(s:BA_):(q7i g s).1.as_.length≤1048576:=by
 unfold q7i
 cases hf:g.ss_.find? (fun y:Symbol=>decide (y.Name=s)) with
 | none=>simp[zS]
 | some y=>exact h y (Erz hf)
theorem j0p (y:Symbol)(s:BA_):q7z y s=some (z3Q y s):=by
 have h2:=z3c (p:=fun y:At_=>decide (y.Name=s)) (r:=fun y=>(y,true)) (xs:=y.as_) (i:=0) (f:=z2D s) fun k y hy=>by
  unfold z2D;constructor<;>intro hp<;>simp_all
 unfold q7z z3Q
 rw[h2]
 cases hf:y.as_.find? (fun y:At_=>decide (y.Name=s)) with
 | none=>rfl
 | some y=>rfl
theorem j3S (y:Symbol)(s:BA_):q6q y s=some (z3Q y s):=j0p y s
def q6k (r:Rule)(k:Int):BA_:=if k=0 then r.Left else if 1≤k∧k≤(r.rt_.length:Int) then r.rt_.getD (k-1).toNat ⟨#[]⟩ else ⟨#[]⟩
abbrev ROk (r:Rule):Prop:=r.rt_.length≤1048576
theorem z3Z {r:Rule}(hl:ROk r)(k:Int):q4K r k=some (q6k r k):=by
 unfold q4K q6k
 by_cases h0:k=0
 ·rw[ifP h0,ifP h0]
 ·rw[ifN h0,ifN h0,z4a,bsS]
  by_cases h1:1≤k∧k≤(r.rt_.length:Int)
  ·rw[ifP (by simpa using h1),ifP h1,q3M (by constructor<;>omega),q3M (by omega)]
   have:(k-1).toNat<r.rt_.length:=by omega
   rw[Auz this,Ddz,Auz this];rfl
  ·rw[ifN (by simpa using h1),ifN h1]
theorem z9s {r:Rule}(hl:ROk r)(k:Int):q7w r k=some (q6k r k):=by rw[j1b,z3Z hl]
def z2x (g:Gm_)(r:Rule)(o:Oc):At_×Bool:=if 0≤o.Pos∧o.Pos≤(r.rt_.length:Int) then z3Q (q7i g (q6k r o.Pos)).1 o.Name else (zA,false)
theorem j1e (g:Gm_){r:Rule}(hl:ROk r)(o:Oc):q8Q g r o=some (z2x g r o):=by
 unfold q8Q z2x
 rw[z8W,bsS]
 by_cases h0:0≤o.Pos∧o.Pos≤(r.rt_.length:Int)
 ·rw[ifP (by simpa using h0),ifP h0,z9s hl,bsS,z5i,bsS]
  dsimp only
  rw[j0p];rfl
 ·rw[ifN (by simpa using h0),ifN h0];rfl
def mayB (g:Gm_)(r:Rule)(o:Oc):Bool:=(z2x g r o).2&&decide ((z2x g r o).1.Mode=if o.Pos=0 then 1 else 2)
theorem k8J (g:Gm_){r:Rule}(hl:ROk r)(o:Oc):z7T g r o=some (mayB g r o):=by
 unfold z7T mayB
 rw[j1e g hl,bsS]
 dsimp only
 by_cases h0:o.Pos=0
 ·rw[ifP h0,ifP h0]
  by_cases h1:(z2x g r o).2=true
  ·rw[ifP h1,h1];rfl
  ·rw[ifN h1,Bool.eq_false_iff.2 h1];rfl
 ·rw[ifN h0,ifN h0]
  by_cases h1:(z2x g r o).2=true
  ·rw[ifP h1,h1];rfl
  ·rw[ifN h1,Bool.eq_false_iff.2 h1];rfl
theorem k8K {g:Gm_}(h:GOk g){r:Rule}(hl:ROk r)(o:Oc):z8a g r o=some (mayB g r o):=by
 unfold z8a mayB z2x
 rw[z4a,bsS]
 by_cases hp:0≤o.Pos∧o.Pos≤(r.rt_.length:Int)
 ·rw[ifP (by simpa using hp),ifP hp,z3Z hl,bsS,z3R h,bsS]
  dsimp only
  rw[j3S,bsS]
  skip
  by_cases h0:o.Pos=0
  ·rw[ifP h0,ifP h0]
   by_cases h1:(z3Q (q7i g (q6k r o.Pos)).1 o.Name).2=true
   ·rw[ifP h1,h1];rfl
   ·rw[ifN h1,Bool.eq_false_iff.2 h1];rfl
  ·rw[ifN h0,ifN h0]
   by_cases h1:(z3Q (q7i g (q6k r o.Pos)).1 o.Name).2=true
   ·rw[ifP h1,h1];rfl
   ·rw[ifN h1,Bool.eq_false_iff.2 h1];rfl
 ·rw[ifN (by simpa using hp),ifN hp];rfl
def reqK (g:Gm_)(r:Rule)(k:Nat):List Oc:=((q7i g (q6k r (k:Int))).1.as_.filter fun a=>decide (a.Mode=if (k:Int)=0 then 2 else 1)).map fun a=>(⟨(k:Int),a.Name⟩:Oc)
def reqL (g:Gm_)(r:Rule):List Oc:=(Dxz 0 (r.rt_.length+1)).flatMap (reqK g r)
theorem j6R {g:Gm_}(h:GOk g)(r:Rule)(k:Nat):(reqK g r k).length≤1048576:=by
 unfold reqK;rw[lnM]
 exact Blz (Euz _ _) (z5j h _)
theorem j6S {g:Gm_}(h:GOk g){r:Rule}(hl:ROk r):z0n g r=some (reqL g r):=by
 have hl' : r.rt_.length≤1048576:=hl
 have key:=j1d (h:=reqK g r) (C:=1048576) (n:=r.rt_.length+1) (f:=z7S g r) (fun k s hk hs=>by
  have hin:∀ m:Int,eachL (z7R k m) 0 (q7i g (q6k r (k:Int))).1.as_ s=some (s++((q7i g (q6k r (k:Int))).1.as_.filter fun a=>decide (a.Mode=m)).map fun a=>(⟨(k:Int),a.Name⟩:Oc)):=fun m=>
   z6y (B:=4398046511104) (fun j x s hs=>by
    unfold z7R
    by_cases hm:x.Mode=m
    ·rw[ifP hm,ifP (by simpa using hm),q3M (by constructor<;>omega)];rfl
    ·rw[ifN hm,ifN (by simpa using hm)];rfl) _ 0 s (by have:=z5j h (q6k r (k:Int));omega)
  unfold z7S reqK
  by_cases h0:(k:Int)=0
  ·rw[ifP h0,ifP h0,bsS,z9s hl,bsS,z5i,bsS]
   dsimp only
   rw[hin];rfl
  ·rw[ifN h0,ifN h0,bsS,z9s hl,bsS,z5i,bsS]
   dsimp only
   rw[hin];rfl) (fun k _=>j6R h r k) (r.rt_.length+1) 0 [] (by omega) (by simp)
 unfold z0n
 rw[q3M (by constructor<;>omega),key];rfl
theorem j1f {g:Gm_}(h:GOk g){r:Rule}(hl:ROk r):q3T g r=some (reqL g r):=by
 have hl' : r.rt_.length≤1048576:=hl
 have key:=j3R (h:=reqK g r) (C:=1048576) (n:=r.rt_.length+1) (f:=q6F g r) (fun k s hk hs=>by
  have hin2:eachL (q9u (k:Int)) 0 (q7i g (q6k r (k:Int))).1.as_ s=some (s++((q7i g (q6k r (k:Int))).1.as_.filter fun a=>decide (a.Mode=2)).map fun a=>(⟨(k:Int),a.Name⟩:Oc)):=
   z6y (B:=4398046511104) (fun j x s hs=>by
    unfold q9u
    by_cases hm:x.Mode=2
    ·rw[ifP hm,ifP (by simpa using hm),q3M (by constructor<;>omega)];rfl
    ·rw[ifN hm,ifN (by simpa using hm)];rfl) _ 0 s (by have:=z5j h (q6k r (k:Int));omega)
  have hin1:eachL (q9v (k:Int)) 0 (q7i g (q6k r (k:Int))).1.as_ s=some (s++((q7i g (q6k r (k:Int))).1.as_.filter fun a=>decide (a.Mode=1)).map fun a=>(⟨(k:Int),a.Name⟩:Oc)):=
   z6y (B:=4398046511104) (fun j x s hs=>by
    unfold q9v
    by_cases hm:x.Mode=1
    ·rw[ifP hm,ifP (by simpa using hm),q3M (by constructor<;>omega)];rfl
    ·rw[ifN hm,ifN (by simpa using hm)];rfl) _ 0 s (by have:=z5j h (q6k r (k:Int));omega)
  unfold q6F reqK
  dsimp only
  rw[ifP (by omega),z3Z hl,bsS,z3R h,bsS]
  skip
  by_cases h0:(k:Int)=0
  ·rw[ifP h0,ifP h0,hin2,bsS,bsS,q3M (by constructor<;>omega)];rfl
  ·rw[ifN h0,ifN h0,hin1,bsS,bsS,q3M (by constructor<;>omega)];rfl) (fun s=>by
  unfold q6F;dsimp only;rw[ifN (by omega)]) (fun k _=>j6R h r k) (r.rt_.length+1) 0 [] (by omega) (by simp)
 unfold q3T
 have e:q4G (q6F g r) (([]:List Oc),0)=some ([]++(Dxz 0 (r.rt_.length+1)).flatMap (reqK g r)):=key
 rw[e];rfl
theorem q5r {α:Type}{q:α→Bool}{xs:List α}{f:Nat→α→Unit→Option (Unit ⊕ Int)}(h:∀ k x,x∈xs→f k x ()=some (if q x=true then .inr (k:Int) else .inl ())) :
  ((findL f 0 xs ()).bind <| onr (fun r1=>some r1) fun _=>some (-1)).bind (fun y1=>some (decide (0≤y1)))=some (xs.any q):=by
 rw[j3G h]
 cases hq:xs.any q with
 | true=>
  have:(0:Int)≤((0+xs.findIdx q:Nat):Int):=Eaz _
  rw[ifP rfl,bsS,j0C,bsS,decide_eq_true this]
 | false=>rfl
def q5o {α:Type}(bad:List α→α→Bool):List α→List α→Option Nat
 | _,[]=>none
 | pre,x::xs=>if bad pre x=true then some pre.length else q5o bad (pre++[x]) xs
theorem z6z {α β ρ:Type}{bad:List α→α→Bool}{nm:α→β}{c:Nat→ρ}{all:List α}{f:Nat→α→Unit→Option (Unit ⊕ ρ)}{h:Nat→α→List β→Option (List β ⊕ ρ)}
  (hf:∀ pre x post,all=pre++x::post→f pre.length x ()=some (if bad pre x=true then .inr (c pre.length) else .inl ()))
  (hh:∀ pre x post,all=pre++x::post→h pre.length x (pre.map nm)=some (if bad pre x=true then .inr (c pre.length) else .inl ((pre++[x]).map nm))) :
  ∀ (ys pre:List α),all=pre++ys→findL f pre.length ys ()=some (match q5o bad pre ys with|none=>.inl ()|some k=>.inr (c k)) ∧
   findL h pre.length ys (pre.map nm)=some (match q5o bad pre ys with|none=>.inl (all.map nm)|some k=>.inr (c k))
 | [],pre,e=>by
  rw[Bxz] at e
  subst e;exact⟨rfl,rfl⟩
 | x::ys,pre,e=>by
  have h1:=hf pre x ys e
  have h2:=hh pre x ys e
  by_cases hb:bad pre x=true
  ·rw[ifP hb] at h1 h2
   simp only[findL,h1,h2,q5o,hb,if_true,bsS]
   exact⟨trivial,trivial⟩
  ·rw[ifN hb] at h1 h2
   have ih:=z6z hf hh ys (pre++[x]) (by rw[e];simp)
   simp only[Bgz,lnC,Ekz,Ahz] at ih
   simp only[findL,h1,h2,q5o,hb,bsS]
   exact ih
theorem k1g {α:Type}{a:α→Bool}{b:List α→α→Bool}:∀ (xs pre:List α),(q5o (fun p x=>a x||b p x) pre xs).isNone=(xs.all (fun x=>!a x)&&(q5o b pre xs).isNone)
 | [],pre=>rfl
 | x::xs,pre=>by
  have ih:=k1g (a:=a) (b:=b) xs (pre++[x])
  simp only[q5o,List.all_cons]
  by_cases ha:a x=true
  ·simp[ha]
  ·by_cases hb:b pre x=true
   ·simp[ha,hb]
   ·simpa[ha,hb] using ih
def dupB {α:Type}(nm:α→BA_)(pre:List α)(x:α):Bool:=pre.any fun o=>decide (nm o=nm x)
def j9X {α:Type}(nm:α→BA_)(xs:List α):Bool:=(q5o (dupB nm) [] xs).isNone
theorem j8y {α:Type}{nm:α→BA_}:∀ (xs pre:List α),(q5o (dupB id) (pre.map nm) (xs.map nm))=q5o (dupB nm) pre xs
 | [],pre=>rfl
 | x::xs,pre=>by
  have ih:=j8y (nm:=nm) xs (pre++[x])
  have e:dupB id (pre.map nm) (nm x)=dupB nm pre x:=by simp[dupB,Evz,Function.comp_def]
  rw[Bcz,q5o,q5o,e,lnM]
  rw[Dvz] at ih
  rw[show [nm x]=[x].map nm from rfl,ih]
theorem z8p {α ρ:Type}{bad:List α→α→Bool}{c:Nat→ρ}{all:List α}{f:Nat→α→Unit→Option (Unit ⊕ ρ)}
  (hf:∀ pre x post,all=pre++x::post→f pre.length x ()=some (if bad pre x=true then .inr (c pre.length) else .inl ())) :
  ∀ (ys pre:List α),all=pre++ys→findL f pre.length ys ()=some (match q5o bad pre ys with|none=>.inl ()|some k=>.inr (c k)):=fun ys pre e=>
 (z6z (nm:=fun _=>()) (h:=fun k x s=>(f k x ()).map fun|.inl _=>.inl (s++[()])|.inr r=>.inr r) hf (fun pre x post e=>by
  rw[hf pre x post e]
  by_cases hb:bad pre x=true
  ·rw[ifP hb,ifP hb];rfl
  ·rw[ifN hb,ifN hb];simp) ys pre e).1
theorem k4l (l:List BA_)(s:BA_):z3i l s=some (l.any fun o=>decide (o=s)):=by
 unfold z3i
 rw[q4X (c:=true) (q:=fun o=>!decide (o=s)) fun k x hx=>by
  unfold z9G
  by_cases h:x=s
  ·rw[ifP h,ifN (by simp[h])]
  ·rw[ifN h,ifP (by simp[h])]]
 have e:(l.all fun o=>!decide (o=s))=!(l.any fun o=>decide (o=s)):=by rw[Ewz]
 rw[e]
 cases l.any fun o=>decide (o=s)<;>rfl
theorem k2F (l:List BA_):z1c l=some (j9X id l):=by
 unfold z1c j9X
 rw[show findL (z2j l) 0 l ()=_ from z8p (bad:=dupB id) (c:=fun _=>false) (all:=l) (f:=z2j l) (fun pre x post e=>by
  unfold z2j
  rw[q3M (by rw[e];simp),show l.take pre.length=pre by rw[e];simp,k4l,bsS,← apply_ite some];rfl) l [] rfl]
 cases q5o (dupB id) [] l<;>rfl
def z5o (a:At_):Bool:=q9E a.Name&&(decide (1≤a.t__∧a.t__≤4)&&(decide (1≤a.Mode∧a.Mode≤3)&&if a.Mode=3 then decide (a.t__=2) && !a.Circular else !a.Circular||decide (a.t__=2)))
theorem k4m (a:At_):q8k a=some (z5o a):=by
 unfold q8k z5o z5Z
 rw[z4m,bsS]
 cases q9E a.Name with
 | false=>rfl
 | true=>
  rw[ifP rfl,z8W,bsS,bsS,bsS]
  by_cases h1:1≤a.t__∧a.t__≤4
  ·rw[decide_eq_true h1,Fgz,ifN (by simp),z8W,bsS,bsS]
   by_cases h2:1≤a.Mode∧a.Mode≤3
   ·rw[decide_eq_true h2,Fgz,ifN (by simp)]
    by_cases h3:a.Mode=3
    ·rw[ifP h3,ifP h3]
     by_cases h4:a.t__=2
     ·rw[ifP h4,decide_eq_true h4];simp
     ·rw[ifN h4,decide_eq_false h4];rfl
    ·rw[ifN h3,ifN h3]
     cases hc:a.Circular with
     | true=>rw[ifP rfl];simp
     | false=>rw[ifN (by simp)];simp
   ·rw[decide_eq_false h2];rfl
  ·rw[decide_eq_false h1];rfl
theorem k4n (a:At_):q8s a=some (z5o a):=by
 unfold q8s z5o
 rw[z2w,bsS]
 cases q9E a.Name with
 | false=>rfl
 | true=>
  rw[ifP rfl,z4a,bsS,bsS]
  by_cases h1:1≤a.t__∧a.t__≤4
  ·rw[decide_eq_true h1,Fgz,ifN (by simp),z4a,bsS,bsS]
   by_cases h2:1≤a.Mode∧a.Mode≤3
   ·rw[decide_eq_true h2,Fgz,ifN (by simp)]
    by_cases h3:a.Mode=3
    ·rw[ifP h3,ifP h3]
     by_cases h4:a.t__=2
     ·rw[ifP h4,decide_eq_true h4]
      cases hc:a.Circular with
      | true=>rfl
      | false=>rfl
     ·rw[ifN h4,decide_eq_false h4];rfl
    ·rw[ifN h3,ifN h3]
     cases hc:a.Circular with
     | true=>simp
     | false=>simp
   ·rw[decide_eq_false h2];rfl
  ·rw[decide_eq_false h1];rfl
def symB (s:Symbol):Bool:=s.as_.all z5o&&(q9E s.Name&&(decide (s.as_.length≤4)&&j9X (fun a:At_=>a.Name) s.as_))
theorem k6r (s:Symbol):q9J s=some (symB s):=by
 unfold q9J symB
 rw[show findL (z0w s) 0 s.as_ ()=_ from z8p (bad:=fun p x=>!z5o x||dupB (fun a:At_=>a.Name) p x) (c:=fun _=>false) (all:=s.as_) (f:=z0w s) (fun pre x post e=>by
  unfold z0w
  rw[k4m,bsS]
  cases z5o x with
  | false=>rfl
  | true=>
   rw[ifP rfl,q3M (by rw[e];simp),show s.as_.take pre.length=pre by rw[e];simp]
   unfold q4o q4z
   rw[q5r (q:=fun o:At_=>decide (o.Name=x.Name)) fun k y hy=>by
    unfold q6t z0d
    rw[bsS]
    by_cases h:y.Name=x.Name
    ·rw[decide_eq_true h];rfl
    ·rw[decide_eq_false h];rfl]
   rw[bsS,← apply_ite some];rfl) s.as_ [] rfl]
 have hor:=k1g (a:=fun x:At_=>!z5o x) (b:=dupB (fun a:At_=>a.Name)) s.as_ []
 simp only[Fmz] at hor
 have e2:(s.as_.all fun x=>z5o x)=s.as_.all z5o:=rfl
 unfold j9X
 rw[e2] at hor
 cases hb:q5o (fun p x=>!z5o x||dupB (fun a:At_=>a.Name) p x) [] s.as_ with
 | some k=>
  rw[hb] at hor
  show some false=_
  have:(s.as_.all z5o&&(q5o (dupB fun a:At_=>a.Name) [] s.as_).isNone)=false:=hor.symm
  congr 1
  cases h1:s.as_.all z5o with
  | false=>rfl
  | true=>rw[h1] at this;simp at this;simp[this]
 | none=>
  rw[hb] at hor
  have:(s.as_.all z5o&&(q5o (dupB fun a:At_=>a.Name) [] s.as_).isNone)=true:=hor.symm
  rw[Akz] at this
  show ((q4Y s.Name).bind _)=_
  rw[z4m,bsS,this.1,this.2]
  cases q9E s.Name with
  | false=>rfl
  | true=>
   rw[ifP rfl,bsS]
   congr 1
   simp;omega
theorem k6s {s:Symbol}(h:s.as_.length≤1048576):q9M s=some (symB s):=by
 unfold q9M symB
 have hloop:∀ (ys:List At_) (i:Nat) (t:List BA_),t.length+ys.length≤1048576→findL z0A i ys t=some (if ys.all z5o=true then .inl (t++ys.map fun a=>a.Name) else .inr false):=by
  intro ys
  induction ys with
  | nil=>intro i t _;simp[findL]
  | cons y ys ih=>
   intro i t ht
   simp only[lnC] at ht
   simp only[findL]
   have e:z0A i y t=some (if z5o y=true then .inl (t++[y.Name]) else .inr false):=by
    unfold z0A
    rw[k4n,bsS]
    cases z5o y with
    | false=>rfl
    | true=>rw[ifP rfl,ifP rfl,q3M (by constructor<;>omega)]
   rw[e,bsS]
   by_cases hy:z5o y=true
   ·rw[ifP hy,show (y::ys).all z5o=ys.all z5o by simp[hy]]
    dsimp only
    rw[ih _ _ (by simp;omega)]
    simp
   ·rw[ifN hy,show (y::ys).all z5o=false by simp[hy]];rfl
 rw[hloop _ _ _ (by simpa using h)]
 cases hA:s.as_.all z5o with
 | false=>rfl
 | true=>
  rw[ifP rfl,bsS,z4B,Bwz,z2w,bsS]
  cases q9E s.Name with
  | false=>rfl
  | true=>
   rw[ifP rfl,bsS,lnM]
   by_cases hl:s.as_.length≤4
   ·rw[decide_eq_true (by omega:(s.as_.length:Int)≤4),ifP rfl,k2F,bsS,bsS,decide_eq_true hl]
    have:=j8y (nm:=fun a:At_=>a.Name) s.as_ []
    unfold j9X
    rw[Dpz] at this
    rw[this];rfl
   ·rw[decide_eq_false (by omega:¬ (s.as_.length:Int)≤4),ifN (by simp),decide_eq_false hl];rfl
theorem j0q {r:Rule}{q:Cn}(h:q∈r.cs_):Sz.szd q.Target≤Sz.szd r∧Sz.szd q.Value≤Sz.szd r:=by
 have h1:=j0j r
 have h2:=z7p q
 have h3:=z7d h
 have h4:=q7t q.Target
 have h5:=q7t q.Value
 omega
theorem z1D {g:Gm_}{r:Rule}(h:r∈g.rs_):Sz.szd r≤Sz.szd g:=by
 have h1:=z7a g
 have h3:=z7d h
 omega
theorem k7C {r:Rule}(h:Sz.szd r≤1048576):r.es_.length≤1048576∧r.cs_.length≤1048576:=by
 have h1:=j0j r
 have h2:=q6X r.es_
 have h3:=q6X r.cs_
 omega
def z0U (n:Int)(e:Expr):Bool:=allE (fun x=>decide (x.Pos≤n)) e
theorem j9Y (n:Int)(e:Expr):∀ m,fuE e≤m→q8j m e n=some (z0U n e):=by
 induction e using z1l with
 | h e ih=>
  intro m hm
  obtain⟨m,rfl⟩:∃ q,m=q+1:=⟨m-1,by have:=z6v e;omega⟩
  show z0m (q8j m) e n=_
  unfold z0m
  rw[q4X (c:=false) (q:=z0U n) fun k x hx=>by
   unfold z0l
   rw[ih x hx m (by have:=z5z hx;omega),bsS]
   cases z0U n x<;>rfl]
  have e1:z0U n e=(decide (e.Pos≤n)&&e.Args.all (z0U n)):=by unfold z0U;rw[j0V]
  rw[e1,bsS]
  cases e.Args.all (z0U n) with
  | true=>rw[ifP rfl,z4B,Fjz]
  | false=>rw[ifN (by simp),j0C,Fiz]
theorem k2G (n:Int)(e:Expr):z6N e n=some (z0U n e):=z0N (fuE e) fun m hm=>j9Y n e m hm
theorem j9Z (n:Int)(e:Expr):∀ m,fuE e≤m→q7L m e n=some (z0U n e):=by
 induction e using z1l with
 | h e ih=>
  intro m hm
  obtain⟨m,rfl⟩:∃ q,m=q+1:=⟨m-1,by have:=z6v e;omega⟩
  show q7K (q7L m) e n=_
  unfold q7K q4w q4C z9K
  have e1:z0U n e=(decide (e.Pos≤n)&&e.Args.all (z0U n)):=by unfold z0U;rw[j0V]
  rw[bsS,e1]
  cases decide (e.Pos≤n) with
  | false=>rfl
  | true=>
   rw[ifP rfl,q5r (q:=fun x=>!z0U n x) fun k x hx=>by
    unfold q6B q8y
    rw[ih x hx m (by have:=z5z hx;omega),bsS,bsS]
    cases z0U n x<;>rfl]
   rw[Fkz,← j3I];rfl
theorem k2H (n:Int)(e:Expr):z0O e n=some (z0U n e):=z0N (fuE e) fun m hm=>j9Z n e m hm
def z5P (e:Expr)(n:Int):Bool:=j3J e&&z0U n e
theorem j6T {e:Expr}(h:Sz.szd e≤1048576)(n:Int):z9c e n=some (z5P e n):=by
 unfold z9c z5P
 have:=k7x h
 rw[k3V (by omega),bsS]
 cases j3J e with
 | false=>rfl
 | true=>rw[ifP rfl,k2H];rfl
theorem j6U {e:Expr}(h:Sz.szd e≤1048576)(n:Int):z0X e n=some (z5P e n):=by
 unfold z0X z5P
 have:=k7x h
 rw[j0n (by omega),bsS]
 cases j3J e with
 | false=>rfl
 | true=>rw[ifP rfl,k2G];rfl
def eqnB (n:Int)(q:Eqn):Bool:=z5P q.Expr n&&(q9E q.At.Name&&decide (0≤q.At.Pos∧q.At.Pos≤n))
def conB (n:Int)(q:Cn):Bool:=(z5P q.Target n&&z5P q.Value n)&&(q9E q.Symbol&&q9E q.Name)
def ruleB (r:Rule):Bool:=(q9E r.Name&&q9E r.Left)&&((decide (r.rt_.length≤3)&&decide (r.cs_.length≤2))&&(r.rt_.all q9E&&(r.es_.all (eqnB (r.rt_.length:Int))&&r.cs_.all (conB (r.rt_.length:Int)))))
theorem j8z {α β γ:Type}{p:α→Bool}{q:β→Bool}{t:γ→Bool}(xs:List α)(ys:List β)(zs:List γ) :
  ((some (if xs.all p=true then (.inl ():Unit ⊕ Bool) else .inr false)).bind <| onr (fun r1=>some r1) fun _=>
   (some (if ys.all q=true then (.inl ():Unit ⊕ Bool) else .inr false)).bind <| onr (fun r1=>some r1) fun _=>
   (some (if zs.all t=true then (.inl ():Unit ⊕ Bool) else .inr false)).bind <| onr (fun r1=>some r1) fun _=>some true)=some (xs.all p&&(ys.all q&&zs.all t)):=by
 cases xs.all p<;>cases ys.all q<;>cases zs.all t<;>rfl
theorem k4o {r:Rule}(h:Sz.szd r≤1048576):z1a r=some (ruleB r):=by
 unfold z1a ruleB
 rw[z4m,bsS]
 cases q9E r.Name with
 | false=>rfl
 | true=>
  rw[ifP rfl,z4m,bsS,bsS]
  cases q9E r.Left with
  | false=>rfl
  | true=>
   rw[Fgz,ifN (by simp),bsS]
   by_cases h3:r.rt_.length≤3
   ·rw[decide_eq_true h3,decide_eq_false (by omega),ifN (by simp),bsS]
    by_cases h2:r.cs_.length≤2
    ·rw[decide_eq_true h2,decide_eq_false (by omega),ifN (by simp)]
     rw[q4X (c:=false) (q:=q9E) fun k x hx=>by
      unfold z7O;rw[z4m,bsS];cases q9E x<;>rfl]
     rw[q4X (c:=false) (q:=eqnB (r.rt_.length:Int)) fun k x hx=>by
      unfold z7P eqnB
      rw[j6T (Blz (z9r hx) h),bsS]
      cases z5P x.Expr (r.rt_.length:Int) with
      | false=>rfl
      | true=>
       rw[ifP rfl,z4m,bsS,bsS]
       cases q9E x.At.Name with
       | false=>rfl
       | true=>
        rw[Fgz,ifN (by simp),z8W,bsS,bsS]
        cases decide (0≤x.At.Pos∧x.At.Pos≤(r.rt_.length:Int))<;>rfl]
     rw[q4X (c:=false) (q:=conB (r.rt_.length:Int)) fun k x hx=>by
      have hs:=j0q hx
      unfold z7Q conB
      rw[j6T (Blz hs.1 h),bsS]
      cases z5P x.Target (r.rt_.length:Int) with
      | false=>rfl
      | true=>
       rw[ifP rfl,j6T (Blz hs.2 h),bsS,bsS]
       cases z5P x.Value (r.rt_.length:Int) with
       | false=>rfl
       | true=>
        rw[Fgz,ifN (by simp),z4m,bsS,bsS]
        cases q9E x.Symbol with
        | false=>rfl
        | true=>
         rw[Fgz,ifN (by simp),z4m,bsS,bsS]
         cases q9E x.Name<;>rfl]
     exact j8z _ _ _
    ·rw[decide_eq_false h2,decide_eq_true (by omega)];rfl
   ·rw[decide_eq_false h3,decide_eq_true (by omega)];rfl
theorem k4p {r:Rule}(h:Sz.szd r≤1048576):z1d r=some (ruleB r):=by
 unfold z1d ruleB
 rw[z2w,bsS]
 cases q9E r.Name with
 | false=>rfl
 | true=>
  rw[ifP rfl,z2w,bsS,bsS]
  cases q9E r.Left with
  | false=>rfl
  | true=>
   rw[Fgz,ifN (by simp),bsS]
   by_cases h3:r.rt_.length≤3
   ·rw[decide_eq_true h3,decide_eq_false (by omega),ifN (by simp),bsS]
    by_cases h2:r.cs_.length≤2
    ·rw[decide_eq_true h2,decide_eq_false (by omega),ifN (by simp)]
     rw[q4X (c:=false) (q:=q9E) fun k x hx=>by
      unfold z7W;rw[z2w,bsS];cases q9E x<;>rfl]
     rw[q4X (c:=false) (q:=eqnB (r.rt_.length:Int)) fun k x hx=>by
      unfold z7X eqnB
      rw[z2w,bsS]
      cases q9E x.At.Name with
      | false=>rw[Bool.false_and,Fiz];rfl
      | true=>
       rw[ifP rfl,z4a,bsS,bsS]
       cases decide (0≤x.At.Pos∧x.At.Pos≤(r.rt_.length:Int)) with
       | false=>rw[Fiz,Fiz];rfl
       | true=>
        rw[Fgz,ifN (by simp),j6U (Blz (z9r hx) h),bsS,bsS]
        cases z5P x.Expr (r.rt_.length:Int)<;>rfl]
     rw[q4X (c:=false) (q:=conB (r.rt_.length:Int)) fun k x hx=>by
      have hs:=j0q hx
      unfold z7Y conB
      rw[z2w,bsS]
      cases q9E x.Symbol with
      | false=>rw[Bool.false_and,Fiz];rfl
      | true=>
       rw[ifP rfl,z2w,bsS,bsS]
       cases q9E x.Name with
       | false=>rw[Fiz,Fiz];rfl
       | true=>
        rw[Fgz,ifN (by simp),j6U (Blz hs.1 h),bsS,bsS]
        cases z5P x.Target (r.rt_.length:Int) with
        | false=>rfl
        | true=>
         rw[Fgz,ifN (by simp),j6U (Blz hs.2 h),bsS,bsS]
         cases z5P x.Value (r.rt_.length:Int)<;>rfl]
     exact j8z _ _ _
    ·rw[decide_eq_false h2,decide_eq_true (by omega)];rfl
   ·rw[decide_eq_false h3,decide_eq_true (by omega)];rfl
def z6A (p:List Symbol)(x:Symbol):Bool:=!symB x||dupB (fun y:Symbol=>y.Name) p x
def z3d (p:List Rule)(x:Rule):Bool:=!ruleB x||dupB (fun y:Rule=>y.Name) p x
def z8X (g:Gm_):Int:=match q5o z6A [] g.ss_ with
 | some k=>(k:Int)
 | none=>match q5o z3d [] g.rs_ with
  | some k=>(k:Int)
  | none=>-1
theorem k4q {g:Gm_}(h:Sz.szd g≤1048576):z2a g=some (z8X g):=by
 unfold z2a z8X
 rw[show findL (z3j g) 0 g.ss_ ()=_ from z8p (bad:=z6A) (c:=fun k=>(k:Int)) (all:=g.ss_) (f:=z3j g) (fun pre x post e=>by
  unfold z3j z6A
  rw[k6r,bsS]
  cases symB x with
  | false=>rfl
  | true=>
   rw[ifP rfl,q3M (by rw[e];simp),show g.ss_.take pre.length=pre by rw[e];simp]
   unfold q4P q5j
   rw[q5r (q:=fun o:Symbol=>decide (o.Name=x.Name)) fun k y hy=>by
    unfold q7e z1X
    rw[bsS]
    by_cases h:y.Name=x.Name
    ·rw[decide_eq_true h];rfl
    ·rw[decide_eq_false h];rfl]
   rw[bsS,← apply_ite some];rfl) g.ss_ [] rfl]
 rw[show findL (z3k g) 0 g.rs_ ()=_ from z8p (bad:=z3d) (c:=fun k=>(k:Int)) (all:=g.rs_) (f:=z3k g) (fun pre x post e=>by
  unfold z3k z3d
  rw[k4o (Blz (z1D (by rw[e];simp)) h),bsS]
  cases ruleB x with
  | false=>rfl
  | true=>
   rw[ifP rfl,q3M (by rw[e];simp),show g.rs_.take pre.length=pre by rw[e];simp]
   unfold q4Z q5s
   rw[q5r (q:=fun o:Rule=>decide (o.Name=x.Name)) fun k y hy=>by
    unfold q7p z1Z
    rw[bsS]
    by_cases h:y.Name=x.Name
    ·rw[decide_eq_true h];rfl
    ·rw[decide_eq_false h];rfl]
   rw[bsS,← apply_ite some];rfl) g.rs_ [] rfl]
 cases q5o z6A [] g.ss_ with
 | some k=>rfl
 | none=>cases q5o z3d [] g.rs_<;>rfl
theorem k0a {g:Gm_}(h:Sz.szd g≤1048576):g.ss_.length≤1048576∧g.rs_.length≤1048576:=by
 have h1:=z7a g
 have h2:=q6X g.ss_
 have h3:=q6X g.rs_
 omega
theorem k4r {g:Gm_}(h:Sz.szd g≤1048576):z7Z g=some (z8X g):=by
 have hl:=k0a h
 unfold z7Z z8X
 have h1:=(z6z (bad:=z6A) (nm:=fun y:Symbol=>y.Name) (c:=fun k=>(k:Int)) (all:=g.ss_) (f:=fun k x _=>some (if z6A (g.ss_.take k) x=true then .inr (k:Int) else .inl ())) (h:=z8B) (fun pre x post e=>by
   rw[show g.ss_.take pre.length=pre by rw[e];simp]) (fun pre x post e=>by
  unfold z8B z6A
  rw[k6s (q7T h x (by rw[e];simp)),bsS]
  cases symB x with
  | false=>rfl
  | true=>
   have hp:pre.length≤1048576:=by
     have:g.ss_.length=pre.length+(post.length+1):=by rw[e];simp
     omega
   rw[ifP rfl,k4l,bsS,Evz,q3M (by rw[lnM];constructor<;>omega),Dvz,← apply_ite some];rfl) g.ss_ [] rfl).2
 have h2:=(z6z (bad:=z3d) (nm:=fun y:Rule=>y.Name) (c:=fun k=>(k:Int)) (all:=g.rs_) (f:=fun k x _=>some (if z3d (g.rs_.take k) x=true then .inr (k:Int) else .inl ())) (h:=z8C) (fun pre x post e=>by
   rw[show g.rs_.take pre.length=pre by rw[e];simp]) (fun pre x post e=>by
  unfold z8C z3d
  rw[k4p (Blz (z1D (by rw[e];simp)) h),bsS]
  cases ruleB x with
  | false=>rfl
  | true=>
   have hp:pre.length≤1048576:=by
     have:g.rs_.length=pre.length+(post.length+1):=by rw[e];simp
     omega
   rw[ifP rfl,k4l,bsS,Evz,q3M (by rw[lnM];constructor<;>omega),Dvz,← apply_ite some];rfl) g.rs_ [] rfl).2
 rw[show findL z8B 0 g.ss_ []=_ from h1,show findL z8C 0 g.rs_ []=_ from h2]
 cases q5o z6A [] g.ss_ with
 | some k=>rfl
 | none=>cases q5o z3d [] g.rs_<;>rfl
theorem j3T {ρ:Type}{c:ρ}{q:Nat→Bool}{n:Nat}{f:Nat→Unit→Option (Unit ⊕ ρ)}(h:∀ k,k<n→f k ()=some (if q k=true then .inl () else .inr c)):∀ (m k:Nat),k+m=n→findN f k m ()=some (if (Dxz k m).all q=true then .inl () else .inr c)
 | 0,k,_=>rfl
 | m+1,k,hk=>by
  have ih:=j3T h m (k+1) (by omega)
  rw[findN,h k (by omega),bsS]
  by_cases hq:q k=true
  ·rw[ifP hq,show (Dxz k (m+1)).all q=(Dxz (k+1) m).all q by simp[Etz,hq]]
   exact ih
  ·rw[ifN hq,show (Dxz k (m+1)).all q=false by simp[Etz,hq]];rfl
theorem k1h {ρ:Type}{c:ρ}{q:Nat→Bool}{n:Nat}{f:Int→Option (Int ⊕ (Unit ⊕ ρ))}(h:∀ k:Nat,k<n→f (k:Int)=some (if q k=true then .inl ((k+1:Nat):Int) else .inr (.inr c)))(he:f (n:Int)=some (.inr (.inl ()))):∀ (m k:Nat),k+m=n→q4G f (k:Int)=some (if (Dxz k m).all q=true then .inl () else .inr c)
 | 0,k,hk=>by
  obtain rfl:k=n:=by omega
  exact q3N he
 | m+1,k,hk=>by
  have ih:=k1h h he m (k+1) (by omega)
  have h1:=h k (by omega)
  by_cases hq:q k=true
  ·rw[ifP hq] at h1
   rw[q4b h1,show (Dxz k (m+1)).all q=(Dxz (k+1) m).all q by simp[Etz,hq]]
   exact ih
  ·rw[ifN hq] at h1
   rw[q3N h1,show (Dxz k (m+1)).all q=false by simp[Etz,hq]];rfl
def j3U (g:Gm_)(r:Rule):Bool:=(Dxz 0 (r.rt_.length+1)).all fun k=>(q7i g (q6k r (k:Int))).2
theorem k0b (g:Gm_){r:Rule}(hl:ROk r):z6a g r=some (!j3U g r):=by
 have hl' : r.rt_.length≤1048576:=hl
 unfold z6a
 rw[q3M (by constructor<;>omega),j3T (c:=true) (n:=r.rt_.length+1) (q:=fun k=>(q7i g (q6k r (k:Int))).2) (fun k hk=>by
  unfold j3c
  rw[z9s hl,bsS,z5i,bsS]
  dsimp only
  rw[← apply_ite some]) (r.rt_.length+1) 0 (by omega)]
 unfold j3U
 cases (Dxz 0 (r.rt_.length+1)).all fun k=>(q7i g (q6k r (k:Int))).2<;>rfl
theorem k0c {g:Gm_}(h:GOk g){r:Rule}(hl:ROk r):z2k g r=some (j3U g r):=by
 have hl' : r.rt_.length≤1048576:=hl
 unfold z2k
 have e:=k1h (c:=false) (q:=fun k=>(q7i g (q6k r (k:Int))).2) (n:=r.rt_.length+1) (f:=z1e g r) (fun k hk=>by
  unfold z1e
  rw[ifP (by omega),z3Z hl,bsS,z3R h,bsS]
  dsimp only
  rw[q3M (by constructor<;>omega),← apply_ite some];rfl) (by
  unfold z1e;rw[ifN (by omega)]) (r.rt_.length+1) 0 (by omega)
 rw[show q4G (z1e g r) 0=_ from e]
 unfold j3U
 cases (Dxz 0 (r.rt_.length+1)).all fun k=>(q7i g (q6k r (k:Int))).2<;>rfl
theorem k8L (K:List Oc)(o:Oc):q3R K o=some (decide (o∈K)):=by
 unfold q3R q4a
 rw[q5r (q:=fun x=>decide (o=x)) fun k x hx=>by
  unfold q3U
  by_cases h:o=x
  ·rw[ifP h,ifP (by simpa using h)]
  ·rw[ifN h,ifN (by simpa using h)]]
 congr 1
 by_cases h:o∈K
 ·rw[decide_eq_true h,Eoz];exact⟨o,h,by simp⟩
 ·rw[decide_eq_false h,Epz];intro x hx he;simp at he;exact h (he▸hx)
theorem k4s (K:List Oc)(o:Oc):q7C K o=some (decide (o∈K)):=by
 unfold q7C
 rw[q4X (c:=true) (q:=fun x=>!decide (x=o)) fun k x hx=>by
  unfold z5r
  by_cases h:x=o
  ·rw[ifP h,ifN (by simp[h])]
  ·rw[ifN h,ifP (by simp[h])]]
 by_cases h:o∈K
 ·rw[decide_eq_true h,ifN];· rfl
  rw[Exz];intro hh;have:=hh o h;simp at this
 ·rw[decide_eq_false h,ifP];· rfl
  rw[Exz];intro x hx;simp;exact fun e=>h (e▸hx)
def j8A (r:Rule)(o:Oc):Bool:=r.es_.any fun q=>decide (q.At=o)
theorem k6t (r:Rule)(o:Oc):(eqAt r o).2=j8A r o:=by
 unfold eqAt j8A
 cases hf:r.es_.find? (fun q=>decide (q.At=o)) with
 | none=>rw[List.find?_eq_none] at hf;symm;rw[Epz];exact hf
 | some q=>symm;rw[Eoz];exact⟨q,Erz hf,List.find?_some (p:=fun q:Eqn=>decide (q.At=o)) hf⟩
def k4t (g:Gm_)(r:Rule):Bool:=(reqL g r).any fun o=>!j8A r o
theorem k6u {g:Gm_}(h:GOk g){r:Rule}(hl:ROk r):z6b g r=some (k4t g r):=by
 unfold z6b k4t
 rw[j6S h hl,bsS]
 unfold q4M q5b
 rw[q5r (q:=fun o=>!j8A r o) fun k o ho=>by
  unfold q6U z5p q4L q5a
  rw[q5r (q:=fun q:Eqn=>decide (q.At=o)) fun k y hy=>by
   unfold q6T z3l
   rw[bsS]
   by_cases h:y.At=o
   ·rw[decide_eq_true h];rfl
   ·rw[decide_eq_false h];rfl]
  rw[bsS,bsS,← apply_ite some];rfl]
 rfl
theorem k6v {g:Gm_}(h:GOk g){r:Rule}(hr:Sz.szd r≤1048576):z2m g r=some (k4t g r):=by
 unfold z2m k4t
 rw[j1f h (q5e hr),bsS,q4X (c:=true) (q:=j8A r) fun k o ho=>by
  unfold z8T
  rw[j2s hr o,bsS]
  dsimp only
  rw[k6t,← apply_ite some]]
 have e:((reqL g r).all (j8A r))=!((reqL g r).any fun o=>!j8A r o):=by rw[j3I]
 rw[e]
 cases (reqL g r).any fun o=>!j8A r o<;>rfl
def j8B (g:Gm_)(r:Rule):Bool:=(q5o (fun p (x:Eqn)=>!decide (x.At∈reqL g r)||p.any fun o=>decide (o.At=x.At)) [] r.es_).isSome
theorem k4u {g:Gm_}(h:GOk g){r:Rule}(hl:ROk r):z9M g r=some (j8B g r):=by
 unfold z9M j8B
 rw[j6S h hl,bsS]
 rw[show findL (z9L r (reqL g r)) 0 r.es_ ()=_ from z8p (bad:=fun p (x:Eqn)=>!decide (x.At∈reqL g r)||p.any fun o=>decide (o.At=x.At)) (c:=fun _=>true) (all:=r.es_) (f:=z9L r (reqL g r)) (fun pre x post e=>by
  unfold z9L
  rw[k8L,bsS]
  cases decide (x.At∈reqL g r) with
  | false=>rfl
  | true=>
   rw[ifP rfl,q3M (by rw[e];simp),show r.es_.take pre.length=pre by rw[e];simp]
   unfold q5k q5z
   rw[q5r (q:=fun o:Eqn=>decide (o.At=x.At)) fun k y hy=>by
    unfold q7M z8A
    rw[bsS]
    by_cases h:y.At=x.At
    ·rw[decide_eq_true h];rfl
    ·rw[decide_eq_false h];rfl]
   rw[bsS,← apply_ite some];rfl) r.es_ [] rfl]
 cases q5o (fun p (x:Eqn)=>!decide (x.At∈reqL g r)||p.any fun o=>decide (o.At=x.At)) [] r.es_<;>rfl
theorem k4v {g:Gm_}(h:GOk g){r:Rule}(hr:Sz.szd r≤1048576):z4P g r=some (j8B g r):=by
 have hl:=(k7C hr).1
 unfold z4P j8B
 rw[j1f h (q5e hr),bsS]
 have h1:=(z6z (bad:=fun p (x:Eqn)=>!decide (x.At∈reqL g r)||p.any fun o=>decide (o.At=x.At)) (nm:=fun y:Eqn=>y.At) (c:=fun _=>true) (all:=r.es_)
  (f:=fun k x _=>some (if (!decide (x.At∈reqL g r)||(r.es_.take k).any fun o=>decide (o.At=x.At))=true then .inr true else .inl ())) (h:=z5s (reqL g r)) (fun pre x post e=>by
   rw[show r.es_.take pre.length=pre by rw[e];simp]) (fun pre x post e=>by
  unfold z5s
  rw[k4s,bsS]
  cases decide (x.At∈reqL g r) with
  | false=>rfl
  | true=>
   have hp:pre.length≤1048576:=by
     have:r.es_.length=pre.length+(post.length+1):=by rw[e];simp
     omega
   have e2:decide (x.At∈pre.map fun y:Eqn=>y.At)=pre.any fun o=>decide (o.At=x.At):=by
    by_cases hm:x.At∈pre.map fun y:Eqn=>y.At
    ·rw[decide_eq_true hm];symm;rw[Eoz]
     obtain⟨y,hy,he⟩:=List.mem_map.1 hm
     exact⟨y,hy,by simpa using he⟩
    ·rw[decide_eq_false hm];symm;rw[Epz]
     intro y hy he
     exact hm (List.mem_map.2 ⟨y,hy,by simpa using he⟩)
   rw[ifP rfl,k4s,bsS,e2,q3M (by rw[lnM];constructor<;>omega),Dvz,← apply_ite some];rfl) r.es_ [] rfl).2
 rw[show findL (z5s (reqL g r)) 0 r.es_ []=_ from h1]
 cases q5o (fun p (x:Eqn)=>!decide (x.At∈reqL g r)||p.any fun o=>decide (o.At=x.At)) [] r.es_<;>rfl
def useB (g:Gm_)(r:Rule)(e:Expr):Bool:=(attrs e).all (mayB g r)
theorem j6V {g:Gm_}(h:GOk g){r:Rule}(hl:ROk r){e:Expr}(he:Sz.szd e≤1048576):z2K g r e=some (useB g r e):=by
 unfold z2K useB
 rw[j6J he,bsS,q4X (c:=false) (q:=mayB g r) fun k x hx=>by
  unfold j3e
  rw[k8K h hl,bsS,← apply_ite some]]
 cases (attrs e).all (mayB g r)<;>rfl
theorem k6w (g:Gm_){r:Rule}(hl:ROk r){e:Expr}(he:Sz.szd e≤1048576):z3y e g r=some (!useB g r e):=by
 unfold z3y useB
 rw[j2o he,bsS]
 unfold q4B q4R
 rw[q5r (q:=fun o=>!mayB g r o) fun k o ho=>by
  unfold q6H z3m
  rw[k8J g hl,bsS,bsS,← apply_ite some]]
 rw[bsS,← j3I,Fmz]
def z5B (r:Rule):List Expr:=r.es_.map (fun q=>q.Expr)++r.cs_.flatMap fun q=>[q.Target,q.Value]
theorem k1i {r:Rule}(hr:Sz.szd r≤1048576):q9S r=some (z5B r):=by
 have hl:=k7C hr
 have h1:∀ (xs:List Eqn) (i:Nat) (s:List Expr),s.length+xs.length≤1048576→eachL z2c i xs s=some (s++xs.map fun q=>q.Expr):=by
  intro xs
  induction xs with
  | nil=>intro i s _;simp[eachL]
  | cons x xs ih=>
   intro i s hs
   simp only[lnC] at hs
   have e:z2c i x s=some (s++[x.Expr]):=by unfold z2c;rw[q3M (by constructor<;>omega)]
   rw[eachL,e,bsS,ih _ _ (by simp;omega)];simp
 have h2:∀ (xs:List Cn) (i:Nat) (s:List Expr),s.length+2*xs.length≤4194304→eachL z2d i xs s=some (s++xs.flatMap fun q=>[q.Target,q.Value]):=by
  intro xs
  induction xs with
  | nil=>intro i s _;simp[eachL]
  | cons x xs ih=>
   intro i s hs
   simp only[lnC] at hs
   have e:z2d i x s=some (s++[x.Target,x.Value]):=by
    unfold z2d;rw[q3M (by simp only[lnC,Ekz];constructor<;>omega)]
   rw[eachL,e,bsS,ih _ _ (by simp;omega)];simp
 unfold q9S z5B
 rw[h1 _ _ _ (by simpa using hl.1),bsS,h2 _ _ _ (by simp;omega)];simp
theorem k6x {r:Rule}{e:Expr}(h:e∈z5B r):Sz.szd e≤Sz.szd r:=by
 unfold z5B at h
 rcases List.mem_append.1 h with h|h
 ·obtain⟨q,hq,rfl⟩:=List.mem_map.1 h;exact z9r hq
 ·obtain⟨q,hq,he⟩:=List.mem_flatMap.1 h
  have:=j0q hq
  simp at he
  rcases he with rfl|rfl
  ·exact this.1
  ·exact this.2
def misB (g:Gm_)(r:Rule):Bool:=!(z5B r).all (useB g r)
theorem k8M (g:Gm_){r:Rule}(hr:Sz.szd r≤1048576):z6c g r=some (misB g r):=by
 unfold z6c misB
 rw[k1i hr,bsS]
 unfold q5t q5I
 rw[q5r (q:=fun e=>!useB g r e) fun k e he=>by
  unfold q8l
  rw[k6w g (q5e hr) (Blz (k6x he) hr),bsS,← apply_ite some]]
 rw[bsS,← j3I,Fmz]
theorem k8N {g:Gm_}(h:GOk g){r:Rule}(hr:Sz.szd r≤1048576):z3H g r=some (misB g r):=by
 unfold z3H misB
 rw[q4X (c:=true) (q:=fun q:Eqn=>useB g r q.Expr) fun k x hx=>by
  unfold z9V
  rw[j6V h (q5e hr) (Blz (z9r hx) hr),bsS,← apply_ite some]]
 rw[q4X (c:=true) (q:=fun q:Cn=>useB g r q.Target&&useB g r q.Value) fun k x hx=>by
  have hs:=j0q hx
  unfold z9W
  rw[j6V h (q5e hr) (Blz hs.1 hr),bsS]
  cases useB g r x.Target with
  | false=>rfl
  | true=>rw[ifP rfl,j6V h (q5e hr) (Blz hs.2 hr),bsS,← apply_ite some];rfl]
 have e:(z5B r).all (useB g r)=((r.es_.all fun q=>useB g r q.Expr)&&r.cs_.all fun q=>useB g r q.Target&&useB g r q.Value):=by
  unfold z5B
  rw[List.all_append,List.all_map,List.all_flatMap]
  congr 1
  congr 1;funext q;simp
 rw[e]
 cases r.es_.all fun q=>useB g r q.Expr with
 | false=>rfl
 | true=>cases r.cs_.all fun q=>useB g r q.Target&&useB g r q.Value<;>rfl
def z5k (g:Gm_)(r:Rule)(k:Int):Bool:=if k=3 then !j3U g r else if k=4 then k4t g r else if k=5 then j8B g r else misB g r
theorem k4w {g:Gm_}(h:GOk g){r:Rule}(hr:Sz.szd r≤1048576)(k:Int):z3I g r k=some (z5k g r k):=by
 unfold z3I z5k
 by_cases h3:k=3
 ·rw[ifP h3,ifP h3,k0c h (q5e hr)];rfl
 ·rw[ifN h3,ifN h3]
  by_cases h4:k=4
  ·rw[ifP h4,ifP h4,k6v h hr];rfl
  ·rw[ifN h4,ifN h4]
   by_cases h5:k=5
   ·rw[ifP h5,ifP h5,k4v h hr];rfl
   ·rw[ifN h5,ifN h5,k8N h hr];rfl
theorem j8C {g:Gm_}(h:GOk g){r:Rule}(hr:Sz.szd r≤1048576)(k:Int)(i:Nat):z3n g k i r ()=some (if z5k g r k=true then .inr (k,(i:Int)) else .inl ()):=by
 unfold z3n z5k
 by_cases h3:k=3
 ·rw[ifP h3,ifP h3,k0b g (q5e hr),bsS,← apply_ite some]
 ·rw[ifN h3,ifN h3]
  by_cases h4:k=4
  ·rw[ifP h4,ifP h4,k6u h (q5e hr),bsS,← apply_ite some]
  ·rw[ifN h4,ifN h4]
   by_cases h5:k=5
   ·rw[ifP h5,ifP h5,k4u h (q5e hr),bsS,← apply_ite some]
   ·rw[ifN h5,ifN h5,k8M g hr,bsS,← apply_ite some]
theorem k4x {g:Gm_}(h:GOk g){r:Rule}(hr:Sz.szd r≤1048576)(k:Int)(i:Nat):z3s g k i r ()=some (if z5k g r k=true then .inr (k,(i:Int)) else .inl ()):=by
 unfold z3s
 rw[k4w h hr,bsS,← apply_ite some]
theorem j3V {α σ ρ:Type}{f g:Nat→α→σ→Option (σ ⊕ ρ)}:∀ {xs:List α} {i:Nat} {s:σ},(∀ k x s,x∈xs→f k x s=g k x s)→findL f i xs s=findL g i xs s
 | [],_,_,_=>rfl
 | x::xs,i,s,h=>by
  rw[findL,findL,h i x s (by simp)]
  congr 1;funext z
  cases z with
  | inl s'=>exact j3V fun k y s hy=>h k y s (by simp[hy])
  | inr r=>rfl
theorem k0d {g:Gm_}(h:Sz.szd g≤1048576)(k:Int):z3t g k=q7f g k:=by
 unfold z3t q7f
 have e:findL (z3s g k) 0 g.rs_ ()=findL (z3n g k) 0 g.rs_ ():=j3V fun i x _ hx=>by
  have hr:=Blz (z1D hx) h
  rw[k4x (q7T h) hr,j8C (q7T h) hr]
 rw[e]
def q9s (g:Gm_)(k:Int):Option (Int×Int):=match g.rs_.findIdx? fun r=>z5k g r k with
 | some i=>some (k,(i:Int))
 | none=>none
theorem z8q {α ρ:Type}{q:α→Bool}{c:Nat→ρ}:∀ {xs:List α} {i:Nat} {f:Nat→α→Unit→Option (Unit ⊕ ρ)},(∀ k x,x∈xs→f k x ()=some (if q x=true then .inr (c k) else .inl ())) →
  findL f i xs ()=some (match xs.findIdx? q with|some j=>.inr (c (i+j))|none=>.inl ())
 | [],_,_,_=>rfl
 | x::xs,i,f,h=>by
  rw[findL,h i x (by simp),bsS,Eyz]
  by_cases hq:q x=true
  ·rw[ifP hq,ifP hq];rfl
  ·rw[ifN hq,ifN hq]
   have ih:=z8q (q:=q) (c:=c) (xs:=xs) (i:=i+1) (f:=f) fun k y hy=>h k y (by simp[hy])
   dsimp only
   rw[ih]
   cases xs.findIdx? q with
   | none=>rfl
   | some j=>simp only[Dlz];rw[show i+1+j=i+(j+1) by omega]
def z7q (g:Gm_):Int×Int:=
 if !decide (1≤g.ss_.length∧g.ss_.length≤4) || !decide (1≤g.rs_.length∧g.rs_.length≤8) then (1,0)
 else if 0≤z8X g then (1,z8X g)
 else if (g.ss_.getD 0 zS).as_.any fun a=>decide (a.Mode=1) then (2,0)
 else (q9s g 3 <|> (q9s g 4 <|> (q9s g 5 <|> q9s g 6))).getD (0,0)
theorem j3W {g:Gm_}(h:Sz.szd g≤1048576):(q4G (q7f g) 3).bind (onr (fun r2=>some r2) fun ()=>some (0,0))=some ((q9s g 3 <|> (q9s g 4 <|> (q9s g 5 <|> q9s g 6))).getD (0,0)):=by
 have hstep:∀ k:Int,3≤k→k≤6→q7f g k=match q9s g k with|some z=>some (.inr (.inr z))|none=>some (.inl (k+1)):=by
  intro k h3 h6
  unfold q7f q9s
  rw[ifP h6,z8q (q:=fun r=>z5k g r k) (c:=fun i=>(k,(i:Int))) fun i x hx=>j8C (q7T h) (Blz (z1D hx) h) k i]
  cases g.rs_.findIdx? fun r=>z5k g r k with
  | some i=>simp
  | none=>rw[bsS];dsimp only[onr];rw[q3M (by constructor<;>omega)]
 have hend:q7f g 7=some (.inr (.inl ())):=by unfold q7f;rw[ifN (by omega)]
 have h3:=hstep 3 (by omega) (by omega)
 have h4:=hstep 4 (by omega) (by omega)
 have h5:=hstep 5 (by omega) (by omega)
 have h6:=hstep 6 (by omega) (by omega)
 cases s3:q9s g 3 with
 | some z=>rw[s3] at h3;rw[q3N h3];rfl
 | none=>
  rw[s3] at h3
  rw[q4b h3,show (3:Int)+1=4 by rfl]
  cases s4:q9s g 4 with
  | some z=>rw[s4] at h4;rw[q3N h4];rfl
  | none=>
   rw[s4] at h4
   rw[q4b h4,show (4:Int)+1=5 by rfl]
   cases s5:q9s g 5 with
   | some z=>rw[s5] at h5;rw[q3N h5];rfl
   | none=>
    rw[s5] at h5
    rw[q4b h5,show (5:Int)+1=6 by rfl]
    cases s6:q9s g 6 with
    | some z=>rw[s6] at h6;rw[q3N h6];rfl
    | none=>
     rw[s6] at h6
     rw[q4b h6,show (6:Int)+1=7 by rfl,q3N hend];rfl
theorem k4y {g:Gm_}(h:Sz.szd g≤1048576):z2e g=some (z7q g):=by
 unfold z2e z7q
 rw[z8W,bsS]
 by_cases h1:1≤g.ss_.length∧g.ss_.length≤4
 ·rw[decide_eq_true (by omega),ifP rfl,z8W,bsS,decide_eq_true h1]
  by_cases h2:1≤g.rs_.length∧g.rs_.length≤8
  ·rw[decide_eq_true (by omega),ifP rfl,k4q h,bsS,decide_eq_true h2]
   simp only[Fgz,Fnz,Fhz,if_false]
   by_cases h3:0≤z8X g
   ·rw[ifP h3,ifP h3]
   ·rw[ifN h3,ifN h3,Ddz,Auz (by omega:0<g.ss_.length),bsS,Dmz]
    unfold q4A q4Q
    rw[q5r (q:=fun a:At_=>decide (a.Mode=1)) fun k y hy=>by
     unfold q6G z2b
     rw[bsS,← apply_ite some]]
    rw[bsS]
    by_cases h4:(g.ss_[0].as_.any fun a=>decide (a.Mode=1))=true
    ·rw[ifP h4,ifP h4]
    ·rw[ifN h4,ifN h4]
     exact j3W h
  ·rw[decide_eq_false (by omega),decide_eq_false h2];rfl
 ·rw[decide_eq_false (by omega),decide_eq_false h1];rfl
theorem k4z {g:Gm_}(h:Sz.szd g≤1048576):z2n g=some (z7q g):=by
 unfold z2n z7q
 rw[z4a,bsS]
 by_cases h1:1≤g.ss_.length∧g.ss_.length≤4
 ·rw[decide_eq_true (by omega),ifP rfl,z4a,bsS,decide_eq_true h1]
  by_cases h2:1≤g.rs_.length∧g.rs_.length≤8
  ·rw[decide_eq_true (by omega),ifP rfl,k4r h,bsS,decide_eq_true h2]
   simp only[Fgz,Fnz,Fhz,if_false]
   by_cases h3:0≤z8X g
   ·rw[ifP h3,ifP h3]
   ·rw[ifN h3,ifN h3,Ddz,Auz (by omega:0<g.ss_.length),bsS,Dmz]
    rw[q4X (c:=((2:Int),(0:Int))) (q:=fun a:At_=>!decide (a.Mode=1)) fun k y hy=>by
     unfold z8U
     by_cases hm:y.Mode=1
     ·rw[ifP hm,ifN (by simp[hm])]
     ·rw[ifN hm,ifP (by simp[hm])]]
    have e:(g.ss_[0].as_.all fun a=>!decide (a.Mode=1))=!(g.ss_[0].as_.any fun a=>decide (a.Mode=1)):=by rw[Ewz]
    rw[e]
    cases (g.ss_[0].as_.any fun a=>decide (a.Mode=1)) with
    | true=>rfl
    | false=>
     rw[Flz,ifP rfl,bsS,z4B,ifN (by simp),show z3t g=q7f g from funext fun k=>k0d h k]
     exact j3W h
  ·rw[decide_eq_false (by omega),decide_eq_false h2];rfl
 ·rw[decide_eq_false (by omega),decide_eq_false h1];rfl
theorem z4y {α:Type}{bad:List α→α→Bool}:∀ (xs pre:List α),q5o bad pre xs=none→∀ k x,xs[k]?=some x→bad (pre++xs.take k) x=false
 | [],pre,h,k,x,hx=>by simp at hx
 | y::xs,pre,h,k,x,hx=>by
  rw[q5o] at h
  by_cases hb:bad pre y=true
  ·rw[ifP hb] at h;cases h
  ·rw[ifN hb] at h
   cases k with
   | zero=>simp at hx;subst hx;simpa using hb
   | succ k=>
    have:=z4y xs (pre++[y]) h k x (by simpa using hx)
    simpa using this
structure Shape (g:Gm_):Prop where
 syms:1≤g.ss_.length∧g.ss_.length≤4
 rules:1≤g.rs_.length∧g.rs_.length≤8
 sym:q5o z6A [] g.ss_=none
 rule:q5o z3d [] g.rs_=none
 brk:∀ k:Int,3≤k→k≤6→∀ r∈g.rs_,z5k g r k=false
 j7z:∀ y a,g.ss_[0]?=some y→a∈y.as_→a.Mode≠1
theorem k1j {g:Gm_}(h:(z7q g).1=0):Shape g:=by
 unfold z7q at h
 by_cases h1:1≤g.ss_.length∧g.ss_.length≤4
 ·by_cases h2:1≤g.rs_.length∧g.rs_.length≤8
  ·rw[decide_eq_true h1,decide_eq_true h2] at h
   simp only[Fgz,Fnz,Fhz,if_false] at h
   by_cases h3:0≤z8X g
   ·rw[ifP h3] at h;simp at h
   ·rw[ifN h3] at h
    by_cases h4:((g.ss_.getD 0 zS).as_.any fun a=>decide (a.Mode=1))=true
    ·rw[ifP h4] at h;simp at h
    ·rw[ifN h4] at h
     have hf:q5o z6A [] g.ss_=none∧q5o z3d [] g.rs_=none:=by
      unfold z8X at h3
      cases e1:q5o z6A [] g.ss_ with
      | some k=>rw[e1] at h3;exact absurd (Eaz k) h3
      | none=>
       cases e2:q5o z3d [] g.rs_ with
       | some k=>rw[e1,e2] at h3;exact absurd (Eaz k) h3
       | none=>exact⟨rfl,rfl⟩
     have hk:∀ k:Int,q9s g k=none→∀ r∈g.rs_,z5k g r k=false:=by
      intro k hk r hr
      unfold q9s at hk
      cases e:g.rs_.findIdx? fun r=>z5k g r k with
      | some i=>rw[e] at hk;cases hk
      | none=>
       rw[Ezz] at e
       exact e r hr
     have hc:∀ k:Int,3≤k→∀ z,q9s g k=some z→z.1≠0:=by
      intro k h3 z hz
      unfold q9s at hz
      cases e:g.rs_.findIdx? fun r=>z5k g r k with
      | none=>rw[e] at hz;cases hz
      | some i=>rw[e] at hz;cases hz;show k≠0;omega
     have n3:q9s g 3=none:=by
      cases e:q9s g 3 with
      | none=>rfl
      | some z=>rw[e] at h;exact absurd h (hc 3 (by omega) z e)
     rw[n3] at h
     have n4:q9s g 4=none:=by
      cases e:q9s g 4 with
      | none=>rfl
      | some z=>rw[e] at h;exact absurd h (hc 4 (by omega) z e)
     rw[n4] at h
     have n5:q9s g 5=none:=by
      cases e:q9s g 5 with
      | none=>rfl
      | some z=>rw[e] at h;exact absurd h (hc 5 (by omega) z e)
     rw[n5] at h
     have n6:q9s g 6=none:=by
      cases e:q9s g 6 with
      | none=>rfl
      | some z=>rw[e] at h;exact absurd h (hc 6 (by omega) z e)
     refine⟨h1,h2,hf.1,hf.2,fun k k3 k6=>?_,fun y a hy ha hm=>h4 ?_⟩
     ·have:k=3∨k=4∨k=5∨k=6:=by omega
      rcases this with rfl|rfl|rfl|rfl
      ·exact hk _ n3
      ·exact hk _ n4
      ·exact hk _ n5
      ·exact hk _ n6
     ·rw[Ddz,hy,Eoz]
      exact⟨a,ha,by simpa using hm⟩
  ·rw[decide_eq_false h2] at h;simp at h
 ·rw[decide_eq_false h1] at h;simp at h
theorem Shape.ruleB {g:Gm_}(h:Shape g){r:Rule}(hr:r∈g.rs_):ruleB r=true:=by
 obtain⟨k,hk⟩:=Eqz hr
 have:=z4y _ _ h.rule k r hk
 unfold z3d at this
 rw[Dtz] at this
 simpa using this.1
theorem Shape.symB {g:Gm_}(h:Shape g){y:Symbol}(hy:y∈g.ss_):symB y=true:=by
 obtain⟨k,hk⟩:=Eqz hy
 have:=z4y _ _ h.sym k y hk
 unfold z6A at this
 rw[Dtz] at this
 simpa using this.1
theorem Shape.pos {g:Gm_}(h:Shape g){r:Rule}(hr:r∈g.rs_){q:Eqn}(hq:q∈r.es_):0≤q.At.Pos∧q.At.Pos≤(r.rt_.length:Int):=by
 have:=h.ruleB hr
 unfold Go.Proofs.YtppbkkcekpbaiaaGreat.ruleB at this
 simp only[Akz,Exz] at this
 have:=this.2.2.2.1 q hq
 unfold eqnB at this
 simp only[Akz,decide_eq_true_eq] at this
 exact this.2.2
def typK (g:Gm_)(r:Rule)(k n p t:Int)(sy nm:BA_)(ts:List Int):Int:=
 if k=1 then t else if k=2 then (if r.ll_=true then 1 else 0) else if k=3 then (z2x g r ⟨p,nm⟩).1.t__
 else if k=4 then (if ts.length=2∧ts.getD 0 0=(opT n).1∧ts.getD 1 0=(opT n).2.1 then (opT n).2.2 else 0)
 else if k=5 then (if ts.length=3∧ts.getD 0 0=3∧ts.getD 1 0=ts.getD 2 0 then ts.getD 1 0 else 0)
 else if k=6 then (if 0≤p∧p≤(r.rt_.length:Int) then 4 else 0) else if k=7 then 4
 else if k=8 then (if ts.length=1∧ts.getD 0 0=4 then (z3Q (q7i g sy).1 nm).1.t__ else 0) else 0
mutual
def typE (g:Gm_)(r:Rule):Expr→Int
 | ⟨k,n,p,t,sy,nm,a⟩=>typK g r k n p t sy nm (k6y g r a)
def k6y (g:Gm_)(r:Rule):List Expr→List Int
 | []=>[]
 | x::xs=>typE g r x::k6y g r xs
end
theorem k1k (g:Gm_)(r:Rule):∀ l,k6y g r l=l.map (typE g r)
 | []=>rfl
 | x::xs=>by rw[k6y,k1k g r xs];rfl
theorem k4A (g:Gm_)(r:Rule)(e:Expr):typE g r e=typK g r e.Kind e.N e.Pos e.t__ e.Symbol e.Name (e.Args.map (typE g r)):=by
 cases e;rw[typE,k1k]
theorem j8D {y:Symbol}{s:BA_}(h:(z3Q y s).2≠true):(z3Q y s).1=zA:=by
 unfold z3Q at h ⊢
 cases hf:y.as_.find? (fun a=>decide (a.Name=s)) with
 | none=>rfl
 | some a=>rw[hf] at h;exact absurd rfl h
theorem k0e {g:Gm_}(h:GOk g)(s nm:BA_):q8u g s nm=some (z3Q (q7i g s).1 nm).1.t__:=by
 unfold q8u
 rw[z3R h,bsS]
 try dsimp only
 rw[j3S,bsS]
 try dsimp only
 by_cases hb:(z3Q (q7i g s).1 nm).2=true
 ·rw[ifP hb]
 ·rw[ifN hb,j8D hb];rfl
theorem k6z (g:Gm_){r:Rule}(hl:ROk r)(e:Expr):∀ m,fuE e≤m→Sz.szd e≤1048576→q9w m g r e=some (typE g r e):=by
 induction e using z1l with
 | h e ih=>
  intro m hm hs
  obtain⟨m,rfl⟩:∃ q,m=q+1:=⟨m-1,by have:=z6v e;omega⟩
  show z2f (q9w m) g r e=_
  have hlen:e.Args.length≤1048576:=by have:=q7t e;have:=q6X e.Args;omega
  have hloop:∀ (xs:List Expr) (i:Nat) (s:List Int),(∀ x∈xs,x∈e.Args)→s.length+xs.length≤1048576→eachL (z3o (q9w m) g r) i xs s=some (s++xs.map (typE g r)):=by
   intro xs
   induction xs with
   | nil=>intro i s _ _;simp[eachL]
   | cons x xs ihx=>
    intro i s hx hn
    simp only[lnC] at hn
    have e1:z3o (q9w m) g r i x s=some (s++[typE g r x]):=by
     unfold z3o
     have hxe:=hx x (by simp)
     rw[ih x hxe m (by have:=z5z hxe;omega) (by have:=k7w hxe;omega),bsS,q3M (by constructor<;>omega)]
    rw[eachL,e1,bsS,ihx _ _ (fun y hy=>hx y (by simp[hy])) (by simp;omega)];simp
  unfold z2f
  rw[hloop e.Args 0 [] (fun _ h=>h) (by simpa using hlen),bsS,Bwz,k4A]
  generalize e.Args.map (typE g r)=ts
  unfold typK
  by_cases k1:e.Kind=1
  ·rw[ifP k1,ifP k1]
  rw[ifN k1,ifN k1]
  by_cases k2:e.Kind=2
  ·rw[ifP k2,ifP k2,bsS]
   by_cases hL:r.ll_=true
   ·rw[ifP hL,ifP hL]
   ·rw[ifN hL,ifN hL]
    simp[k2]
  rw[ifN k2,ifN k2,bsS,ifN (by simp)]
  by_cases k3:e.Kind=3
  ·rw[ifP k3,ifP k3,j1e g hl];rfl
  rw[ifN k3,ifN k3]
  by_cases k4:e.Kind=4
  ·rw[ifP k4,ifP k4,bsS]
   by_cases hn:ts.length=2
   ·obtain⟨a,b,rfl⟩:∃ a b,ts=[a,b]:=by
     match ts,hn with
     | [a,b],_=>exact⟨a,b,rfl⟩
    rw[ifP (by simp),k8u,bsS]
    simp only[Faz,Bbz,bsS,Fbz,Fcz]
    by_cases ha:a=(opT e.N).1
    ·rw[ifP ha,bsS]
     by_cases hb:b=(opT e.N).2.1
     ·rw[ifP (by simp[hb]),ifP ⟨hn,ha,hb⟩]
     ·rw[ifN (by simp[hb]),ifN fun h=>hb h.2.2]
    ·rw[ifN ha,bsS,ifN (by simp),ifN fun h=>ha h.2.1]
   ·have hz:(if ts.length=2∧ts.getD 0 0=(opT e.N).1∧ts.getD 1 0=(opT e.N).2.1 then (opT e.N).2.2 else 0)=0:=ifN fun h=>hn h.1
    rw[hz,ifN (by simp;omega)]
    simp[k4]
  rw[ifN k4,ifN k4,bsS,ifN (by simp)]
  by_cases k5:e.Kind=5
  ·rw[ifP k5,ifP k5,bsS]
   by_cases hn:ts.length=3
   ·obtain⟨a,b,c,rfl⟩:∃ a b c,ts=[a,b,c]:=by
     match ts,hn with
     | [a,b,c],_=>exact⟨a,b,c,rfl⟩
    rw[ifP (by simp)]
    simp only[Faz,Bbz,bsS,Fbz,Fcz]
    by_cases ha:a=3
    ·rw[ifP ha]
     by_cases hb:b=c
     ·rw[ifP hb,ifP ⟨hn,ha,hb⟩]
     ·rw[ifN hb,ifN fun h=>hb h.2.2]
    ·rw[ifN ha,ifN fun h=>ha h.2.1]
   ·have hz:(if ts.length=3∧ts.getD 0 0=3∧ts.getD 1 0=ts.getD 2 0 then ts.getD 1 0 else 0)=0:=ifN fun h=>hn h.1
    rw[hz,ifN (by simp;omega)]
    simp[k5]
  rw[ifN k5,ifN k5,bsS,ifN (by simp)]
  by_cases k6:e.Kind=6
  ·rw[ifP k6,ifP k6,z8W,bsS,bsS]
   by_cases hp:0≤e.Pos∧e.Pos≤(r.rt_.length:Int)
   ·rw[decide_eq_true hp,ifP hp];rfl
   ·rw[decide_eq_false hp,ifN hp]
    simp[k6]
  rw[ifN k6,ifN k6,bsS,ifN (by simp),bsS]
  by_cases k7:e.Kind=7
  ·rw[ifP (by simp[k7]),ifP k7]
  rw[ifN (by simp[k7]),ifN k7]
  by_cases k8:e.Kind=8
  ·rw[ifP k8,ifP k8,bsS]
   by_cases hn:ts.length=1
   ·obtain⟨a,rfl⟩:∃ a,ts=[a]:=by
     match ts,hn with
     | [a],_=>exact⟨a,rfl⟩
    rw[ifP (by simp)]
    simp only[Faz,bsS,Fbz]
    by_cases ha:a=4
    ·rw[ifP (by simp[ha]),ifP ⟨hn,ha⟩,z5i,bsS]
     try dsimp only
     rw[j0p];rfl
    ·rw[ifN (by simp[ha]),ifN fun h=>ha h.2]
   ·rw[ifN (by simp;omega),ifN fun h=>hn h.1];rfl
  rw[ifN k8,ifN k8];rfl
theorem k0f (g:Gm_){r:Rule}(hl:ROk r){e:Expr}(hs:Sz.szd e≤1048576):z2g g r e=some (typE g r e):=z0N (fuE e) fun m hm=>k6z g hl e m hm hs
theorem k6A {g:Gm_}(h:GOk g){r:Rule}(hl:ROk r)(e:Expr):∀ m,fuE e≤m→z0B m g r e=some (typE g r e):=by
 induction e using z1l with
 | h e ih=>
  intro m hm
  obtain⟨m,rfl⟩:∃ q,m=q+1:=⟨m-1,by have:=z6v e;omega⟩
  show z2o (z0B m) g r e=_
  have hx:∀ x∈e.Args,z0B m g r x=some (typE g r x):=fun x hxe=>ih x hxe m (by have:=z5z hxe;omega)
  unfold z2o
  rw[k4A]
  unfold typK
  by_cases k1:e.Kind=1
  ·rw[ifP k1,ifP k1]
  rw[ifN k1,ifN k1]
  by_cases k2:e.Kind=2
  ·rw[ifP k2,ifP k2,← apply_ite some]
  rw[ifN k2,ifN k2]
  by_cases k3:e.Kind=3
  ·rw[ifP k3,ifP k3,z4a,bsS]
   unfold z2x
   by_cases hp:0≤e.Pos∧e.Pos≤(r.rt_.length:Int)
   ·rw[ifP (by simpa using hp),ifP hp,z3Z hl,bsS,k0e h];rfl
   ·rw[ifN (by simpa using hp),ifN hp];rfl
  rw[ifN k3,ifN k3]
  by_cases k4:e.Kind=4
  ·rw[ifP k4,ifP k4]
   unfold j2l
   rw[k8v,bsS]
   try dsimp only
   by_cases hn:e.Args.length=2
   ·obtain⟨a,b,hab⟩:∃ a b,e.Args=[a,b]:=by
     match e.Args,hn with
     | [a,b],_=>exact⟨a,b,rfl⟩
    rw[hab] at hx
    rw[hab,ifP (by simp)]
    simp only[Faz,Bbz,bsS,Bcz,Dpz,Fbz,Fcz]
    rw[hx a (by simp),bsS]
    by_cases ha:typE g r a=(opT e.N).1
    ·rw[ifP ha,hx b (by simp),bsS]
     by_cases hb:typE g r b=(opT e.N).2.1
     ·rw[ifP hb,ifP ⟨by simp,ha,hb⟩];rfl
     ·rw[ifN hb,ifN fun h=>hb h.2.2];rfl
    ·rw[ifN ha,ifN fun h=>ha h.2.1];rfl
   ·rw[ifN (by omega),ifN fun h=>hn (by simpa using h.1)];rfl
  rw[ifN k4,ifN k4]
  by_cases k5:e.Kind=5
  ·rw[ifP k5,ifP k5]
   unfold j2m
   by_cases hn:e.Args.length=3
   ·obtain⟨a,b,c,hab⟩:∃ a b c,e.Args=[a,b,c]:=by
     match e.Args,hn with
     | [a,b,c],_=>exact⟨a,b,c,rfl⟩
    rw[hab] at hx
    rw[hab,ifP (by simp)]
    simp only[Faz,Bbz,bsS,Bcz,Dpz,Fbz,Fcz]
    rw[hx a (by simp),bsS]
    by_cases ha:typE g r a=3
    ·rw[ifP ha,hx b (by simp),bsS,hx c (by simp),bsS]
     by_cases hb:typE g r b=typE g r c
     ·rw[ifP hb,ifP ⟨by simp,ha,hb⟩];rfl
     ·rw[ifN hb,ifN fun h=>hb h.2.2];rfl
    ·rw[ifN ha,ifN fun h=>ha h.2.1];rfl
   ·rw[ifN (by omega),ifN fun h=>hn (by simpa using h.1)];rfl
  rw[ifN k5,ifN k5]
  by_cases k6:e.Kind=6
  ·rw[ifP k6,ifP k6,z4a,bsS]
   by_cases hp:0≤e.Pos∧e.Pos≤(r.rt_.length:Int)
   ·rw[ifP (by simpa using hp),ifP hp]
   ·rw[ifN (by simpa using hp),ifN hp]
  rw[ifN k6,ifN k6]
  by_cases k7:e.Kind=7
  ·rw[ifP k7,ifP k7]
  rw[ifN k7,ifN k7]
  by_cases k8:e.Kind=8
  ·rw[ifP k8,ifP k8]
   by_cases hn:e.Args.length=1
   ·obtain⟨a,hab⟩:∃ a,e.Args=[a]:=by
     match e.Args,hn with
     | [a],_=>exact⟨a,rfl⟩
    rw[hab] at hx
    rw[hab,ifP (by simp)]
    simp only[Faz,bsS,Bcz,Dpz,Fbz]
    rw[hx a (by simp),bsS]
    by_cases ha:typE g r a=4
    ·rw[ifP ha,ifP ⟨by simp,ha⟩,k0e h];rfl
    ·rw[ifN ha,ifN fun h=>ha h.2]
   ·rw[ifN (by omega),ifN fun h=>hn (by simpa using h.1)]
  rw[ifN k8,ifN k8]
theorem k0g {g:Gm_}(h:GOk g){r:Rule}(hl:ROk r)(e:Expr):z2p g r e=some (typE g r e):=z0N (fuE e) fun m hm=>k6A h hl e m hm
def conT (g:Gm_)(r:Rule)(q:Cn):Bool:=(decide (typE g r q.Target=4)&&decide (typE g r q.Value=2))&&decide ((z3Q (q7i g q.Symbol).1 q.Name).1.Mode=3)
def typR (g:Gm_)(r:Rule):Bool:=(r.es_.all fun q=>decide (typE g r q.Expr=(z2x g r q.At).1.t__))&&r.cs_.all (conT g r)
theorem k6B (g:Gm_){r:Rule}(hr:Sz.szd r≤1048576):z4K g r=some (!typR g r):=by
 have hl:=q5e hr
 unfold z4K typR
 rw[q4X (c:=true) (q:=fun q:Eqn=>decide (typE g r q.Expr=(z2x g r q.At).1.t__)) fun k x hx=>by
  unfold j1t
  rw[j1e g hl,bsS]
  try dsimp only
  rw[k0f g hl (Blz (z9r hx) hr),bsS]
  by_cases hp:typE g r x.Expr=(z2x g r x.At).1.t__
  ·rw[ifP hp,ifP (by simpa using hp)]
  ·rw[ifN hp,ifN (by simpa using hp)]]
 rw[q4X (c:=true) (q:=conT g r) fun k x hx=>by
  have hs:=j0q hx
  unfold j1u conT
  rw[z5i,bsS]
  try dsimp only
  rw[j0p,bsS]
  try dsimp only
  rw[k0f g hl (Blz hs.1 hr),bsS]
  by_cases h1:typE g r x.Target=4
  ·rw[ifP h1,k0f g hl (Blz hs.2 hr),bsS,bsS,decide_eq_true h1]
   cases decide (typE g r x.Value=2) with
   | false=>rfl
   | true=>
    rw[Fgz,ifN (by simp),bsS]
    cases decide ((z3Q (q7i g x.Symbol).1 x.Name).1.Mode=3)<;>rfl
  ·rw[ifN h1,decide_eq_false h1];rfl]
 cases r.es_.all fun q=>decide (typE g r q.Expr=(z2x g r q.At).1.t__) with
 | false=>rfl
 | true=>cases r.cs_.all (conT g r)<;>rfl
theorem k6C {g:Gm_}(h:GOk g){r:Rule}(hr:Sz.szd r≤1048576)(hp:∀ q∈r.es_,0≤q.At.Pos∧q.At.Pos≤(r.rt_.length:Int)):z6h g r=some (typR g r):=by
 have hl:=q5e hr
 unfold z6h typR
 rw[q4X (c:=false) (q:=fun q:Eqn=>decide (typE g r q.Expr=(z2x g r q.At).1.t__)) fun k x hx=>by
  unfold j3f
  rw[k0g h hl,bsS,z3Z hl,bsS,k0e h,bsS]
  have e:(z3Q (q7i g (q6k r x.At.Pos)).1 x.At.Name).1.t__=(z2x g r x.At).1.t__:=by unfold z2x;rw[ifP (hp x hx)]
  rw[e]
  by_cases hp:typE g r x.Expr=(z2x g r x.At).1.t__
  ·rw[ifP hp,ifP (by simpa using hp)]
  ·rw[ifN hp,ifN (by simpa using hp)]]
 rw[q4X (c:=false) (q:=conT g r) fun k x hx=>by
  unfold j3g conT
  rw[z3R h,bsS]
  try dsimp only
  rw[j3S,bsS]
  try dsimp only
  have e:(if (z3Q (q7i g x.Symbol).1 x.Name).2=true then some (!decide ((z3Q (q7i g x.Symbol).1 x.Name).1.Mode=3)) else some true)=some (!decide ((z3Q (q7i g x.Symbol).1 x.Name).1.Mode=3)):=by
   by_cases hb:(z3Q (q7i g x.Symbol).1 x.Name).2=true
   ·rw[ifP hb]
   ·rw[ifN hb,j8D hb];rfl
  rw[e,bsS]
  cases decide ((z3Q (q7i g x.Symbol).1 x.Name).1.Mode=3) with
  | false=>rw[Fiz];rfl
  | true=>
   rw[Fgz,ifN (by simp),k0g h hl,bsS,bsS]
   cases decide (typE g r x.Target=4) with
   | false=>rfl
   | true=>
    rw[Fgz,ifN (by simp),k0g h hl,bsS,bsS]
    cases decide (typE g r x.Value=2)<;>rfl]
 cases r.es_.all fun q=>decide (typE g r q.Expr=(z2x g r q.At).1.t__) with
 | false=>rfl
 | true=>cases r.cs_.all (conT g r)<;>rfl
def atS (g:Gm_)(n:BA_):Option Nat:=g.ss_.findIdx? fun y=>decide (y.Name=n)
def atI (g:Gm_)(n:BA_):Int:=match atS g n with
 | some j=>(j:Int)
 | none=>-1
theorem j0r {α ρ:Type}{q:α→Bool}{c:Nat→ρ}:∀ {xs:List α} {i:Nat} {f:Nat→α→Unit→Option (Unit ⊕ ρ)},(∀ j x,xs[j]?=some x→f (i+j) x ()=some (if q x=true then .inr (c (i+j)) else .inl ())) →
  findL f i xs ()=some (match xs.findIdx? q with|some j=>.inr (c (i+j))|none=>.inl ())
 | [],_,_,_=>rfl
 | x::xs,i,f,h=>by
  rw[findL,show f i x ()=_ from h 0 x rfl,bsS,Eyz]
  by_cases hq:q x=true
  ·rw[ifP hq,ifP hq]
  ·rw[ifN hq,ifN hq]
   have ih:=j0r (q:=q) (c:=c) (xs:=xs) (i:=i+1) (f:=f) fun j y hy=>by
    have:=h (j+1) y (by simpa using hy)
    rw[show i+1+j=i+(j+1) by omega];exact this
   dsimp only
   rw[ih]
   cases xs.findIdx? q with
   | none=>rfl
   | some j=>simp only[Dlz];rw[show i+1+j=i+(j+1) by omega]
theorem k4B (g:Gm_)(n:BA_):z0C g n=some (atI g n):=by
 unfold z0C atI atS
 rw[j0r (q:=fun y:Symbol=>decide (y.Name=n)) (c:=fun k=>(k:Int)) fun j x hx=>by
  unfold z6i
  by_cases hn:x.Name=n
  ·rw[ifP hn,ifP (by simpa using hn)]
  ·rw[ifN hn,ifN (by simpa using hn)]]
 cases g.ss_.findIdx? fun y=>decide (y.Name=n) with
 | none=>rfl
 | some j=>dsimp only;rw[Ahz];rfl
theorem k9M {g:Gm_}{n:BA_}{j:Nat}(h:atS g n=some j):j<g.ss_.length:=by
 unfold atS at h
 rw[Fdz] at h
 exact h.1
def okAt (g:Gm_)(hs:List Int)(n:BA_):Bool:=match atS g n with
 | some j=>decide (0<hs.getD j 0)
 | none=>false
def j5u (g:Gm_)(hs:List Int)(n:BA_):Bool:=g.rs_.any fun r=>decide (r.Left=n)&&r.rt_.all (okAt g hs)
theorem j3X {α:Type}{q:α→Bool}{f:Nat→α→Bool→Option Bool}:∀ (xs:List α) (i:Nat) (b:Bool),(∀ k x s,x∈xs→f k x s=some (s&&q x))→eachL f i xs b=some (b&&xs.all q)
 | [],_,b,_=>by simp[eachL]
 | x::xs,i,b,h=>by
  rw[eachL,h i x b (by simp),bsS,j3X xs (i+1) _ fun k y s hy=>h k y s (by simp[hy]),List.all_cons,Bool.and_assoc]
theorem getD_some {hs:List Int}{j:Nat}(h:j<hs.length):hs[j]?=some (hs.getD j 0):=by
 rw[Ddz,Auz h];rfl
theorem k9N {g:Gm_}{hs:List Int}(hl:hs.length=g.ss_.length)(n:BA_):z3z n g hs=some (match atS g n with|some j=>hs.getD j 0|none=>0):=by
 unfold z3z atS
 rw[j0r (q:=fun y:Symbol=>decide (y.Name=n)) (c:=fun k=>hs.getD k 0) fun j x hx=>by
  unfold z9N
  have hj:j<g.ss_.length:=(List.getElem?_eq_some_iff.1 hx).1
  by_cases hn:x.Name=n
  ·rw[ifP hn,ifP (by simpa using hn),Ahz,getD_some (by omega)];rfl
  ·rw[ifN hn,ifN (by simpa using hn)]]
 cases g.ss_.findIdx? fun y=>decide (y.Name=n) with
 | none=>rfl
 | some j=>dsimp only;rw[Ahz];rfl
theorem k2I {g:Gm_}{hs:List Int}(hl:hs.length=g.ss_.length)(xs:List BA_)(b:Bool):eachL (z9d g hs) 0 xs b=some (b&&xs.all (okAt g hs)):=
 j3X xs 0 b fun k x s _=>by
  unfold z9d okAt
  cases s with
  | false=>rfl
  | true=>
   rw[ifP rfl,k9N hl,bsS,bsS,Fkz]
   cases atS g x<;>rfl
theorem k2J {g:Gm_}{hs:List Int}(hl:hs.length=g.ss_.length)(xs:List BA_)(b:Bool):eachL (z5I g hs) 0 xs b=some (b&&xs.all (okAt g hs)):=
 j3X xs 0 b fun k x s _=>by
  unfold z5I okAt
  rw[k4B,bsS]
  unfold atI
  cases s with
  | false=>rfl
  | true=>
   cases hj:atS g x with
   | none=>rfl
   | some j=>
    have:=k9M hj
    dsimp only
    rw[ifP rfl,bsS,decide_eq_true (Eaz j),ifP rfl]
    unfold z3h
    by_cases h0:(0:Int)<(j:Int)
    ·rw[ifP h0,bsS,q3M (Eaz j),tnC,getD_some (by omega)];rfl
    ·obtain rfl:j=0:=by omega
     rw[ifN h0,bsS,q3M (by omega),show (0:Int).toNat=0 from rfl,getD_some (by omega)];rfl
theorem k4C {g:Gm_}{hs:List Int}(hl:hs.length=g.ss_.length)(n:BA_):z2q g n hs=some (j5u g hs n):=by
 unfold z2q j5u
 rw[q4X (c:=true) (q:=fun r:Rule=>!(decide (r.Left=n)&&r.rt_.all (okAt g hs))) fun k x hx=>by
  unfold z8V
  rw[k2J hl,bsS]
  cases (decide (x.Left=n)&&x.rt_.all (okAt g hs))<;>rfl]
 have e:(g.rs_.all fun r=>!(decide (r.Left=n)&&r.rt_.all (okAt g hs)))=!(g.rs_.any fun r=>decide (r.Left=n)&&r.rt_.all (okAt g hs)):=by rw[Ewz]
 rw[e]
 cases g.rs_.any fun r=>decide (r.Left=n)&&r.rt_.all (okAt g hs)<;>rfl
def HsOk (g:Gm_)(hs:List Int):Prop:=hs.length=g.ss_.length∧∀ j,0≤hs.getD j 0
theorem HsOk.set {g:Gm_}{hs:List Int}(h:HsOk g hs){k:Nat}{v:Int}(hv:0≤v):HsOk g (hs.set k v):=by
 refine⟨by simpa using h.1,fun j=>?_⟩
 rw[Ddz,Chz]
 split
 ·split
  ·exact hv
  ·simp
 ·rw[← Ddz];exact h.2 j
theorem k4D {g:Gm_}{hs:List Int}(hl:hs.length=g.ss_.length){v:Int}(k:Nat)(x:Symbol)(hk:k<g.ss_.length):∀ (rs:List Rule) (i:Nat) (s:List Int),s.length=g.ss_.length →
  eachL (z6P g v hs k x) i rs s=some (if (rs.any fun r=>decide (r.Left=x.Name)&&r.rt_.all (okAt g hs))=true then s.set k v else s)
 | [],i,s,_=>by simp[eachL]
 | r::rs,i,s,hs'=>by
  have e:z6P g v hs k x i r s=some (if (decide (r.Left=x.Name)&&r.rt_.all (okAt g hs))=true then s.set k v else s):=by
   unfold z6P
   rw[k2I hl,bsS]
   cases (decide (r.Left=x.Name)&&r.rt_.all (okAt g hs)) with
   | false=>rfl
   | true=>rw[ifP rfl,ifP rfl,Auz (by omega)];rfl
  rw[eachL,e,bsS]
  by_cases hb:(decide (r.Left=x.Name)&&r.rt_.all (okAt g hs))=true
  ·rw[ifP hb,k4D hl k x hk rs (i+1) (s.set k v) (by simpa using hs')]
   have:(r::rs).any (fun r=>decide (r.Left=x.Name)&&r.rt_.all (okAt g hs))=true:=by rw[Emz,hb];rfl
   rw[ifP this,List.set_set,ite_self]
  ·rw[ifN hb,k4D hl k x hk rs (i+1) s hs']
   have:(r::rs).any (fun r=>decide (r.Left=x.Name)&&r.rt_.all (okAt g hs))=rs.any (fun r=>decide (r.Left=x.Name)&&r.rt_.all (okAt g hs)):=by rw[Emz,Bool.eq_false_iff.2 hb];rfl
   rw[this]
theorem x0n {g:Gm_}{hs:List Int}(h:HsOk g hs){v:Int}{k:Nat}{x:Symbol}(hk:k<g.ss_.length){s:List Int}(hs' : s.length=g.ss_.length) :
  z6Q g v hs k x s=some (if (decide (hs.getD k 0=0)&&j5u g hs x.Name)=true then s.set k v else s):=by
 have h0:=h.2 k
 unfold z6Q
 rw[getD_some (by rw[h.1];exact hk),bsS]
 by_cases hz:hs.getD k 0=0
 ·rw[ifN (by omega),decide_eq_true hz,k4D h.1 k x hk _ _ _ hs'];rfl
 ·rw[ifP (by omega),decide_eq_false hz];rfl
theorem x0o {g:Gm_}{hs:List Int}(h:HsOk g hs){v:Int}{k:Nat}{x:Symbol}(hk:k<g.ss_.length){s:List Int}(hs' : s.length=g.ss_.length) :
  z3u g hs v k x s=some (if (decide (hs.getD k 0=0)&&j5u g hs x.Name)=true then s.set k v else s):=by
 unfold z3u
 rw[getD_some (by rw[h.1];exact hk),bsS]
 by_cases hz:hs.getD k 0=0
 ·rw[ifP hz,decide_eq_true hz,k4C h.1,bsS,Fkz]
  cases j5u g hs x.Name with
  | false=>rfl
  | true=>rw[ifP rfl,ifP rfl,Auz (by omega)];rfl
 ·rw[ifN hz,decide_eq_false hz];rfl
theorem j5v {g:Gm_}{hs:List Int}(h:HsOk g hs){v:Int}(hv:0≤v):∀ (xs:List Symbol) (i:Nat) (s:List Int),i+xs.length=g.ss_.length→HsOk g s →
  ∃ t,eachL (z6Q g v hs) i xs s=some t∧eachL (z3u g hs v) i xs s=some t∧HsOk g t
 | [],i,s,_,hs'=>⟨s,rfl,rfl,hs'⟩
 | x::xs,i,s,hi,hs'=>by
  simp only[lnC] at hi
  have e1:=x0n (x:=x) h (v:=v) (k:=i) (by omega) hs'.1
  have e2:=x0o (x:=x) h (v:=v) (k:=i) (by omega) hs'.1
  have hn:HsOk g (if (decide (hs.getD i 0=0)&&j5u g hs x.Name)=true then s.set i v else s):=by
   split
   ·exact hs'.set hv
   ·exact hs'
  obtain⟨t,h1,h2,h3⟩:=j5v h hv xs (i+1) _ (by omega) hn
  exact⟨t,by rw[eachL,e1,bsS,h1],by rw[eachL,e2,bsS,h2],h3⟩
theorem j1J {g:Gm_}(hn:g.ss_.length≤1048576):∃ l,z4s g=some l∧z2r g=some l∧HsOk g l:=by
 have key:∀ (m k:Nat) (hs:List Int),k+m=g.ss_.length+1→1≤k→HsOk g hs→∃ t,q4G (z2E g) ((k:Int),hs)=some t∧q4G (q9T g) (hs,(k:Int))=some t∧HsOk g t:=by
  intro m
  induction m with
  | zero=>
   intro k hs hk _ h
   refine⟨hs,q3N ?_,q3N ?_,h⟩
   ·unfold z2E;dsimp only;rw[ifN (by omega)]
   ·unfold q9T;dsimp only;rw[ifN (by omega)]
  | succ m ih=>
   intro k hs hk h1 h
   have hl:=h.1
   obtain⟨t,e1,e2,e3⟩:=j5v h (v:=(k:Int)) (by omega) g.ss_ 0 hs (by omega) h
   obtain⟨q,f1,f2,f3⟩:=ih (k+1) t (by omega) (by omega) e3
   refine⟨q,?_,?_,f3⟩
   ·have e:z2E g ((k:Int),hs)=some (.inl (((k+1:Nat):Int),t)):=by
     unfold z2E;dsimp only
     rw[ifP (by omega),q3M (by refine⟨?_,?_,?_⟩<;>omega),q3M (by simp),e1,bsS,q3M (by constructor<;>omega)];rfl
    rw[q4b e];exact f1
   ·have e:q9T g (hs,(k:Int))=some (.inl (t,((k+1:Nat):Int))):=by
     unfold q9T;dsimp only
     rw[ifP (by omega),q3M (by simp only[Ekz];constructor<;>omega),e2,bsS,q3M (by constructor<;>omega)];rfl
    rw[q4b e];exact f2
 have h0:HsOk g (Cbz g.ss_.length (0:Int)):=⟨by simp,fun j=>by rw[Ddz,List.getElem?_replicate];split<;>simp⟩
 obtain⟨t,f1,f2,f3⟩:=key g.ss_.length 1 (Cbz g.ss_.length 0) (by omega) (by omega) h0
 refine⟨t,?_,?_,f3⟩
 ·unfold z4s
  rw[q3M (by refine⟨?_,?_,?_⟩<;>omega),show q4G (z2E g) (1,Cbz g.ss_.length 0)=some t from f1];rfl
 ·unfold z2r
  rw[q3M (by refine⟨?_,?_,?_⟩<;>omega),show q4G (q9T g) (Cbz g.ss_.length 0,1)=some t from f2];rfl
theorem Shape.names {g:Gm_}(h:Shape g){k j:Nat}{x y:Symbol}(hk:g.ss_[k]?=some x)(hj:g.ss_[j]?=some y)(hn:x.Name=y.Name):k=j:=by
 have key:∀ {k j:Nat} {x y:Symbol},g.ss_[k]?=some x→g.ss_[j]?=some y→x.Name=y.Name→¬ k<j:=by
  intro k j x y hk hj hn hlt
  have:=z4y _ _ h.sym j y hj
  unfold z6A at this
  rw[Dtz] at this
  have h2:=this.2
  unfold dupB at h2
  rw[Bwz,Epz] at h2
  exact h2 x (Ckz (i:=k) (by rw[Azz,ifP hlt];exact hk)) (by simpa using hn)
 have h1:=key hk hj hn
 have h2:=key hj hk hn.symm
 omega
theorem Shape.at_ {g:Gm_}(h:Shape g){k:Nat}{x:Symbol}(hk:g.ss_[k]?=some x):atS g x.Name=some k:=by
 unfold atS
 cases he:g.ss_.findIdx? fun y=>decide (y.Name=x.Name) with
 | none=>
  rw[Ezz] at he
  have:=he x (Ckz hk)
  simp at this
 | some j=>
  rw[Fdz] at he
  obtain⟨hj,h1,_⟩:=he
  rw[h.names (Auz hj) hk (by simpa using h1)]
noncomputable def hgtL (g:Gm_):List Int:=(z4s g).getD []
noncomputable def k0h (g:Gm_):Int×Int:=
 if (z7q g).1=0 then
  match g.rs_.findIdx? fun r=>!typR g r with
  | some k=>(7,(k:Int))
  | none=>match (hgtL g).findIdx? fun x=>decide (x=0) with
   | some k=>(8,(k:Int))
   | none=>(0,0)
 else z7q g
theorem k6D {g:Gm_}(h:Sz.szd g≤1048576):z0p g=some (k0h g):=by
 unfold z0p k0h
 rw[k4y h,bsS]
 dsimp only
 by_cases h0:(z7q g).1=0
 ·rw[ifP h0,ifP h0]
  rw[z8q (q:=fun r=>!typR g r) (c:=fun k=>((7:Int),(k:Int))) fun k r hr=>by
   unfold z7i
   rw[k6B g (Blz (z1D hr) h),bsS,← apply_ite some]]
  cases g.rs_.findIdx? fun r=>!typR g r with
  | some k=>dsimp only;rw[Ahz];rfl
  | none=>
   obtain⟨l,e1,e2,e3⟩:=j1J (g:=g) (k0a h).1
   rw[bsS,z4B,e1,bsS]
   unfold hgtL
   rw[e1,Dmz]
   rw[z8q (q:=fun x:Int=>decide (x=0)) (c:=fun k=>((8:Int),(k:Int))) fun k x hx=>by
    unfold z7j
    by_cases hz:x=0
    ·rw[ifP hz,ifP (by simpa using hz)]
    ·rw[ifN hz,ifN (by simpa using hz)]]
   dsimp only
   cases l.findIdx? fun x=>decide (x=0) with
   | some k=>dsimp only;rw[Ahz];rfl
   | none=>rfl
 ·rw[ifN h0,ifN h0]
theorem k6E {g:Gm_}(h:Sz.szd g≤1048576):z0r g=some (k0h g):=by
 unfold z0r k0h
 rw[k4z h,bsS]
 dsimp only
 by_cases h0:(z7q g).1=0
 ·have hS:=k1j h0
  rw[ifP h0,ifP h0]
  rw[z8q (q:=fun r=>!typR g r) (c:=fun k=>((7:Int),(k:Int))) fun k r hr=>by
   unfold z7l
   rw[k6C (q7T h) (Blz (z1D hr) h) fun q hq=>hS.pos hr hq,bsS]
   cases typR g r<;>rfl]
  cases g.rs_.findIdx? fun r=>!typR g r with
  | some k=>dsimp only;rw[Ahz];rfl
  | none=>
   obtain⟨l,e1,e2,e3⟩:=j1J (g:=g) (k0a h).1
   rw[bsS,z4B]
   unfold hgtL
   rw[e1,Dmz]
   have hprod:∀ k x,g.ss_[k]?=some x→z0q g x.Name=some (!decide (l.getD k 0=0)):=by
    intro k x hk
    have hk' : k<g.ss_.length:=(List.getElem?_eq_some_iff.1 hk).1
    have ha:atI g x.Name=(k:Int):=by unfold atI;rw[hS.at_ hk]
    unfold z0q z5t
    rw[k4B,ha,bsS,ifN (by omega),e2,bsS,q3M (by omega),tnC,getD_some (by rw[e3.1];exact hk'),bsS,bsS]
    have:=e3.2 k
    congr 1
    by_cases hz:l.getD k 0=0
    ·rw[decide_eq_true hz,decide_eq_false (by omega)];rfl
    ·rw[decide_eq_false hz,decide_eq_true (by omega)];rfl
   have hrun:∀ (xs:List Symbol) (ys:List Int) (i:Nat),(∀ j x,xs[j]?=some x→g.ss_[i+j]?=some x)→ys.length=xs.length→(∀ j y,ys[j]?=some y→l.getD (i+j) 0=y) →
     findL (z1j g) i xs ()=some (match ys.findIdx? fun x=>decide (x=0) with|some j=>.inr (8,((i+j:Nat):Int))|none=>.inl ()):=by
    intro xs
    induction xs with
    | nil=>
     intro ys i _ hl _
     obtain rfl:=Ayz hl
     rfl
    | cons x xs ih=>
     intro ys i hx hl hy
     cases ys with
     | nil=>simp at hl
     | cons y ys=>
      have h1:=hprod i x (by simpa using hx 0 x rfl)
      have h2:l.getD i 0=y:=by simpa using hy 0 y rfl
      have ih:=ih ys (i+1) (fun j z hz=>by rw[show i+1+j=i+(j+1) by omega];exact hx (j+1) z (by simpa using hz)) (by simpa using hl) fun j z hz=>by
       rw[show i+1+j=i+(j+1) by omega];exact hy (j+1) z (by simpa using hz)
      rw[h2] at h1
      have e:z1j g i x ()=some (if y=0 then .inr (8,(i:Int)) else .inl ()):=by
       unfold z1j
       rw[h1,bsS]
       by_cases hz:y=0
       ·rw[decide_eq_true hz,ifP hz];rfl
       ·rw[decide_eq_false hz,ifN hz];rfl
      rw[findL,e,bsS,Eyz]
      by_cases hz:y=0
      ·rw[ifP hz,ifP (by simpa using hz)];rfl
      ·rw[ifN hz,ifN (by simpa using hz)]
       dsimp only
       rw[ih]
       cases ys.findIdx? fun x=>decide (x=0) with
       | none=>rfl
       | some j=>simp only[Dlz];rw[show i+1+j=i+(j+1) by omega]
   rw[hrun g.ss_ l 0 (fun j x hx=>by rw[Ahz];exact hx) e3.1 fun j y hy=>by rw[Ahz,Ddz,hy];rfl]
   dsimp only
   cases l.findIdx? fun x=>decide (x=0) with
   | some k=>dsimp only;rw[Ahz];rfl
   | none=>rfl
 ·rw[ifN h0,ifN h0]
noncomputable def z8R (g:Gm_):Bool:=decide ((k0h g).1=0)
theorem k6F {g:Gm_}(h:Sz.szd g≤1048576):z4L g=some (z8R g):=by
 unfold z4L;rw[k6D h];rfl
theorem k6G {g:Gm_}(h:Sz.szd g≤1048576):z6j g=some (z8R g):=by
 unfold z6j;rw[k6E h];rfl
theorem z6B {g:Gm_}(h:z8R g=true):Shape g:=by
 refine k1j ?_
 unfold z8R at h
 rw[decide_eq_true_eq] at h
 unfold k0h at h
 by_cases h0:(z7q g).1=0
 ·exact h0
 ·rw[ifN h0] at h;exact h
def farB (e:Expr):Bool:=!allE (fun x=>!decide (x.Kind=8)) e
theorem k6H (e:Expr):∀ m,fuE e≤m→z3E m e=some (farB e):=by
 induction e using z1l with
 | h e ih=>
  intro m hm
  obtain⟨m,rfl⟩:∃ q,m=q+1:=⟨m-1,by have:=z6v e;omega⟩
  show z3D (z3E m) e=_
  unfold z3D
  rw[q4X (c:=true) (q:=fun x=>!farB x) fun k x hx=>by
   unfold z9R
   rw[ih x hx m (by have:=z5z hx;omega),bsS]
   cases farB x<;>rfl]
  have e1:farB e=!(!decide (e.Kind=8)&&e.Args.all fun x=>!farB x):=by
   unfold farB
   rw[j0V]
   congr 2
   congr 1;funext x;rw[Fmz]
  rw[e1,bsS]
  cases e.Args.all fun x=>!farB x with
  | true=>rw[ifP rfl,z4B,Fjz,Fmz]
  | false=>rw[ifN (by simp),j0C,Fiz];rfl
theorem k8O (e:Expr):z7V e=some (farB e):=z0N (fuE e) fun m hm=>k6H e m hm
theorem k6I (e:Expr):∀ m,fuE e≤m→q6p m e=some (!farB e):=by
 induction e using z1l with
 | h e ih=>
  intro m hm
  obtain⟨m,rfl⟩:∃ q,m=q+1:=⟨m-1,by have:=z6v e;omega⟩
  show q6o (q6p m) e=_
  unfold q6o q4g q4m z3p
  have e1:(!farB e)=(!decide (e.Kind=8)&&e.Args.all fun x=>!farB x):=by
   unfold farB
   rw[j0V,Fmz]
   congr 1
   congr 1;funext x;rw[Fmz]
  rw[bsS,e1]
  cases decide (e.Kind=8) with
  | true=>rfl
  | false=>
   rw[Flz,ifP rfl,q5r (q:=fun x=>farB x) fun k x hx=>by
    unfold q6e q6I
    rw[ih x hx m (by have:=z5z hx;omega),bsS,bsS]
    cases farB x<;>rfl]
   rw[Fkz,bsS,Ewz]
theorem k8P (e:Expr):z3A e=some (farB e):=by
 unfold z3A
 rw[show q8R e=some (!farB e) from z0N (fuE e) fun m hm=>k6I e m hm,bsS,Fmz]
def farR (r:Rule):Bool:=r.es_.any fun q=>farB q.Expr
theorem k6J (r:Rule):z3F r=some (farR r):=by
 unfold z3F farR
 rw[q4X (c:=true) (q:=fun q:Eqn=>!farB q.Expr) fun k x hx=>by
  unfold z9S
  rw[k8O,bsS]
  cases farB x.Expr<;>rfl]
 have e:(r.es_.all fun q=>!farB q.Expr)=!(r.es_.any fun q=>farB q.Expr):=by rw[Ewz]
 rw[e]
 cases r.es_.any fun q=>farB q.Expr<;>rfl
theorem k6K {g:Gm_}(h:Sz.szd g≤1048576):z3B g=some (g.rs_.any fun r=>(z5B r).any farB):=by
 unfold z3B q5l q5A
 rw[q5r (q:=fun r=>(z5B r).any farB) fun k r hr=>by
  unfold q7N z3q
  rw[k1i (Blz (z1D hr) h),bsS]
  unfold q5u q5J
  rw[q5r (q:=farB) fun k e he=>by
   unfold q8m
   rw[k8P,bsS,← apply_ite some]]
  rw[bsS,bsS,← apply_ite some]]
 rfl
def colG (g:Gm_):Bool:=g.ss_.any fun y=>y.as_.any fun a=>decide (a.Mode=3)
theorem k4E (g:Gm_):q5Q g=some (colG g):=by
 unfold q5Q q3X q4d colG
 rw[q5r (q:=fun y:Symbol=>y.as_.any fun a=>decide (a.Mode=3)) fun k y hy=>by
  unfold q5E q6l q4D q4T
  rw[q5r (q:=fun a:At_=>decide (a.Mode=3)) fun k a ha=>by
   unfold q6N z3r
   rw[bsS,← apply_ite some]]
  rw[bsS,bsS,← apply_ite some]]
 rfl
theorem k2K {g:Gm_}(h:z8R g=true):∀ r∈g.rs_,typR g r=true:=by
 intro r hr
 unfold z8R at h
 rw[decide_eq_true_eq] at h
 unfold k0h at h
 by_cases h0:(z7q g).1=0
 ·rw[ifP h0] at h
  cases e:g.rs_.findIdx? fun r=>!typR g r with
  | some k=>rw[e] at h;simp at h
  | none=>
   rw[Ezz] at e
   have:=e r hr
   simpa using this
 ·rw[ifN h0] at h;exact absurd h h0
theorem k6L {g:Gm_}(h:z8R g=true)(hc:colG g=false){r:Rule}(hr:r∈g.rs_):r.cs_=[]:=by
 have ht:=k2K h r hr
 unfold typR at ht
 rw[Akz,Exz,Exz] at ht
 cases hq:r.cs_ with
 | nil=>rfl
 | cons q qs=>
  have h1:=ht.2 q (by rw[hq];simp)
  unfold conT at h1
  simp only[Akz,decide_eq_true_eq] at h1
  have h3:=h1.2
  unfold z3Q at h3
  cases ha:(q7i g q.Symbol).1.as_.find? fun a=>decide (a.Name=q.Name) with
  | none=>rw[ha] at h3;exact absurd h3 (by simp[zA])
  | some a=>
   rw[ha] at h3
   have hm:=Erz ha
   unfold q7i at hm
   cases hs:g.ss_.find? fun y=>decide (y.Name=q.Symbol) with
   | none=>rw[hs] at hm;simp[zS] at hm
   | some y=>
    rw[hs] at hm
    unfold colG at hc
    rw[Epz] at hc
    exact absurd (List.any_eq_true.2 ⟨a,hm,by simpa using h3⟩) (hc y (Erz hs))
theorem j8E {n:Nat}{h:Nat→Int→Int}{f:Nat→List Int→Option (List Int)}(hf:∀ k s,k<n→s.length=n→f k s=some (s.set k (h k (s.getD k 0)))) :
  ∀ (m k:Nat) (s:List Int),k+m=n→s.length=n→eachN f k m s=some (s.mapIdx fun j x=>if k≤j then h j x else x)
 | 0,k,s,hk,hs=>by
  show some s=_
  congr 1
  symm
  apply Cnz
  intro j
  rw[Fez]
  cases hj:s[j]? with
  | none=>rfl
  | some x=>
   have:=(List.getElem?_eq_some_iff.1 hj).1
   rw[Dlz,ifN (by omega)]
 | m+1,k,s,hk,hs=>by
  rw[eachN,hf k s (by omega) hs,bsS,j8E hf m (k+1) _ (by omega) (by simpa using hs)]
  congr 1
  apply Cnz
  intro j
  rw[Fez,Fez,Chz]
  by_cases hj:k=j
  ·subst hj
   have hk' : k<s.length:=by omega
   rw[ifP rfl,ifP hk',Auz hk',Ddz,Auz hk',Dlz,Dlz,ifN (by omega),ifP (Adz _)]
   rfl
  ·rw[ifN hj]
   cases hx:s[j]? with
   | none=>rfl
   | some x=>
    rw[Dlz,Dlz]
    by_cases h1:k+1≤j
    ·rw[ifP h1,ifP (by omega)]
    ·rw[ifN h1,ifN (by omega)]
def uniR (a b:Rl_):Rl_:=if Valid a∧Valid b∧a.N=b.N then ⟨a.N,a.Rows.mapIdx fun j x=>orI x (b.Rows.getD j 0)⟩ else a
theorem k2L {b:Rl_}(h:Valid b)(k:Nat):0≤b.Rows.getD k 0:=by
 rw[Ddz]
 cases hx:b.Rows[k]? with
 | none=>simp
 | some x=>exact (h.2.2.2 x (Ckz hx)).1
theorem k1l {a b:Rl_}(ha:Valid a)(hb:Valid b)(hN:a.N=b.N){f:Nat→List Int→Option (List Int)}(hf:f=q8d b):eachN f 0 a.Rows.length a.Rows=some (a.Rows.mapIdx fun j x=>orI x (b.Rows.getD j 0)):=by
 subst hf
 have hl:a.Rows.length=b.Rows.length:=by have:=ha.2.2.1;have:=hb.2.2.1;omega
 -- all rows stay at least 0
 have key:∀ (m k:Nat) (s:List Int),k+m=a.Rows.length→s.length=a.Rows.length→(∀ x∈s,0≤x)→eachN (q8d b) k m s=eachN (fun k s=>some (s.set k (orI (s.getD k 0) (b.Rows.getD k 0)))) k m s:=by
  intro m
  induction m with
  | zero=>intro k s _ _ _;rfl
  | succ m ih=>
   intro k s hk hs h0
   have e:q8d b k s=some (s.set k (orI (s.getD k 0) (b.Rows.getD k 0))):=by
    have hx:0≤s.getD k 0:=by
     rw[Ddz,Auz (by omega:k<s.length)]
     exact h0 _ (List.getElem_mem _)
    unfold q8d
    rw[getD_some (by omega),bsS,getD_some (by omega),bsS]
    exact q3M ⟨hx,k2L hb k⟩
   rw[eachN,eachN,e,bsS,bsS]
   refine ih (k+1) _ (by omega) (by simpa using hs) fun x hx=>?_
   rcases List.mem_or_eq_of_mem_set hx with h|rfl
   ·exact h0 x h
   ·unfold orI;omega
 rw[key _ 0 a.Rows (by omega) rfl (fun x hx=>(ha.2.2.2 x hx).1),j8E (h:=fun k x=>orI x (b.Rows.getD k 0)) (n:=a.Rows.length) (fun k s _ _=>rfl) _ 0 a.Rows (by omega) rfl]
 simp
theorem k8Q {a:Rl_}(h:a.Rows.length≤1048576)(b:Rl_):q9N a b=some (uniR a b):=by
 unfold q9N uniR
 rw[z6x h,bsS,q7d,bsS]
 by_cases ha:Valid a
 ·rw[decide_eq_true ha,ifP rfl,q7d,bsS,bsS]
  by_cases hb:Valid b
  ·rw[decide_eq_true hb,Fgz,ifN (by simp),bsS]
   by_cases hN:a.N=b.N
   ·rw[decide_eq_true hN,Fgz,ifN (by simp),ifP ⟨ha,hb,hN⟩,show a.N.toNat=a.Rows.length by have:=ha.2.2.1;omega,k1l ha hb hN rfl];rfl
   ·rw[decide_eq_false hN,Flz,ifP rfl,ifN fun hh=>hN hh.2.2]
  ·have hz:(if Valid a∧Valid b∧a.N=b.N then (⟨a.N,a.Rows.mapIdx fun j x=>orI x (b.Rows.getD j 0)⟩:Rl_) else a)=a:=ifN fun hh=>hb hh.2.1
   rw[hz,decide_eq_false hb];rfl
 ·have hz:(if Valid a∧Valid b∧a.N=b.N then (⟨a.N,a.Rows.mapIdx fun j x=>orI x (b.Rows.getD j 0)⟩:Rl_) else a)=a:=ifN fun hh=>ha hh.1
  rw[hz,decide_eq_false ha];rfl
theorem k4F (b:Rl_):z6e b=q8d b:=rfl
theorem k8R {a:Rl_}(h:a.Rows.length≤1048576)(b:Rl_):q9L a b=some (uniR a b):=by
 unfold q9L uniR
 rw[j3L,z6x h,bsS,z1C,bsS]
 by_cases ha:Valid a
 ·rw[decide_eq_true ha,ifP rfl,z1C,bsS,bsS]
  by_cases hb:Valid b
  ·rw[decide_eq_true hb,ifP rfl,bsS]
   by_cases hN:a.N=b.N
   ·rw[ifP (by simpa using hN),ifP ⟨ha,hb,hN⟩,k4F,k1l ha hb hN rfl];rfl
   ·rw[ifN (by simpa using hN),ifN fun hh=>hN hh.2.2]
  ·have hz:(if Valid a∧Valid b∧a.N=b.N then (⟨a.N,a.Rows.mapIdx fun j x=>orI x (b.Rows.getD j 0)⟩:Rl_) else a)=a:=ifN fun hh=>hb hh.2.1
   rw[hz,decide_eq_false hb];rfl
 ·have hz:(if Valid a∧Valid b∧a.N=b.N then (⟨a.N,a.Rows.mapIdx fun j x=>orI x (b.Rows.getD j 0)⟩:Rl_) else a)=a:=ifN fun hh=>ha hh.1
  rw[hz,decide_eq_false ha];rfl
theorem k7D {n:Nat}{x y:Int}(hx:0≤x∧x≤((2 ^ n:Nat):Int)-1)(hy:0≤y∧y≤((2 ^ n:Nat):Int)-1):0≤orI x y∧orI x y≤((2 ^ n:Nat):Int)-1:=by
 have:=Efz (n:=n) (x:=x.toNat) (y:=y.toNat) (by omega) (by omega)
 unfold orI;omega
theorem k4G {a b:Rl_}(ha:Valid a):Valid (uniR a b)∧(uniR a b).N=a.N:=by
 unfold uniR
 by_cases h:Valid a∧Valid b∧a.N=b.N
 ·rw[ifP h]
  refine⟨⟨ha.1,ha.2.1,by simpa using ha.2.2.1,fun x hx=>?_⟩,rfl⟩
  obtain⟨j,hj⟩:=Eqz hx
  rw[Fez] at hj
  cases hy:a.Rows[j]? with
  | none=>rw[hy] at hj;cases hj
  | some y=>
   rw[hy] at hj
   cases hj
   have hyv:=ha.2.2.2 y (Ckz hy)
   refine k7D hyv ?_
   rw[Ddz]
   cases hz:b.Rows[j]? with
   | none=>
    have:=Eez (n:=a.N.toNat)
    show (0:Int)≤0∧(0:Int)≤((2 ^ a.N.toNat:Nat):Int)-1
    constructor<;>omega
   | some z=>have:=h.2.1.2.2.2 z (Ckz hz);rw[← h.2.2] at this;exact this
 ·rw[ifN h];exact⟨ha,rfl⟩
def sumR (a:Rl_):Nat:=(a.Rows.map Foz).sum
theorem j5w:∀ (l:List Int) (f:Nat→Int→Int),(∀ j x,x∈l→x.toNat≤(f j x).toNat)→(l.map Foz).sum≤((l.mapIdx f).map Foz).sum∧((∀ x∈l,0≤x)→(∀ j x,0≤f j x)→(l.map Foz).sum=((l.mapIdx f).map Foz).sum→l.mapIdx f=l)
 | [],f,_=>⟨by simp,fun _ _ _=>by simp⟩
 | x::l,f,h=>by
  have ih:=j5w l (fun j=>f (j+1)) fun j y hy=>h (j+1) y (by simp[hy])
  have h0:=h 0 x (by simp)
  rw[List.mapIdx_cons]
  simp only[Bcz,Ffz]
  refine⟨by have:=ih.1;omega,fun h1 h2 he=>?_⟩
  have a1:=ih.1
  have e1:(l.map Foz).sum=((l.mapIdx fun j=>f (j+1)).map Foz).sum:=by omega
  have e2:x.toNat=(f 0 x).toNat:=by omega
  have p1:=h1 x (by simp)
  have p2:=h2 0 x
  rw[ih.2 (fun y hy=>h1 y (by simp[hy])) (fun j y=>h2 (j+1) y) e1,show f 0 x=x by omega]
theorem k8S {a b:Rl_}(ha:Valid a):sumR a≤sumR (uniR a b)∧(sumR a=sumR (uniR a b)→uniR a b=a):=by
 unfold uniR
 by_cases h:Valid a∧Valid b∧a.N=b.N
 ·rw[ifP h]
  have key:=j5w a.Rows (fun j x=>orI x (b.Rows.getD j 0)) fun j x _=>by
   unfold orI;have:=@Nat.left_le_or x.toNat (b.Rows.getD j 0).toNat;omega
  refine⟨key.1,fun he=>?_⟩
  have:=key.2 (fun x hx=>(ha.2.2.2 x hx).1) (fun j x=>by unfold orI;omega) he
  show (⟨a.N,_⟩:Rl_)=a
  rw[this]
 ·rw[ifN h];exact⟨Adz _,fun _=>rfl⟩
theorem k4H {a:Rl_}(ha:Valid a):sumR a≤16*65535:=by
 have key:∀ l:List Int,(∀ x∈l,x.toNat≤65535)→(l.map Foz).sum≤l.length*65535:=by
  intro l
  induction l with
  | nil=>intro _;simp
  | cons x l ih=>
   intro h
   have h1:=h x (by simp)
   have h2:=ih fun y hy=>h y (by simp[hy])
   simp only[Bcz,Ffz,lnC]
   omega
 have h1:=key a.Rows fun x hx=>by
  have:=ha.2.2.2 x hx
  have:=x0k ha.2.1
  omega
 have hl:a.Rows.length≤16:=by have:=ha.2.2.1;have:=ha.2.1;omega
 exact Blz h1 (Nat.mul_le_mul_right 65535 hl)
theorem k4I {b:List Int}{f:Nat→Int→Unit→Option (Unit ⊕ Bool)}(hf:∀ k x,f k x ()=(b[k]?).bind fun x2=>if x=x2 then some (.inl ()) else some (.inr false)) :
  ∀ (xs ys:List Int) (i:Nat),xs.length=ys.length→(∀ j,b[i+j]?=ys[j]?)→findL f i xs ()=some (if xs=ys then .inl () else .inr false)
 | [],ys,i,hl,_=>by obtain rfl:=Ayz hl.symm;rfl
 | x::xs,[],i,hl,_=>by simp at hl
 | x::xs,y::ys,i,hl,hb=>by
  have h0:b[i]?=some y:=by simpa using hb 0
  rw[findL,hf,h0,bsS]
  by_cases hx:x=y
  ·rw[ifP hx,bsS]
   dsimp only
   rw[k4I hf xs ys (i+1) (by simpa using hl) fun j=>by have:=hb (j+1);rw[show i+1+j=i+(j+1) by omega];simpa using this]
   subst hx
   by_cases he:xs=ys
   ·rw[ifP he,ifP (by rw[he])]
   ·rw[ifN he,ifN (by intro hh;injection hh with _ h2;exact he h2)]
  ·rw[ifN hx,bsS]
   dsimp only
   rw[ifN (by intro hh;injection hh with h2 _;exact hx h2)]
theorem k4J (a b:Rl_):q9O a b=some (decide (a=b)):=by
 obtain⟨n,xs⟩:=a
 obtain⟨m,ys⟩:=b
 unfold q9O z9X
 dsimp only
 by_cases hn:n=m
 ·rw[ifP hn]
  by_cases hl:xs.length=ys.length
  ·rw[ifP (by omega),k4I (b:=ys) (fun k x=>rfl) xs ys 0 hl fun j=>by rw[Ahz]]
   by_cases he:xs=ys
   ·rw[ifP he,decide_eq_true (by rw[hn,he])];rfl
   ·rw[ifN he,decide_eq_false (by intro hh;injection hh with _ h2;exact he h2)];rfl
  ·rw[ifN (by omega),decide_eq_false (by intro hh;injection hh with _ h2;exact hl (by rw[h2]))];rfl
 ·rw[ifN hn,decide_eq_false (by intro hh;injection hh with h1 _;exact hn h1)]
theorem k8T (a b:Rl_):z1i a b=some (decide (a=b)):=by
 rw[← k4J];rfl
noncomputable def k4K (r:Rl_):Bool:=decide (∃ k:Nat,k<r.Rows.length∧hasP (q6K r) (k:Int) (k:Int))
theorem k1m {r:Rl_}(h:r.Rows.length≤1048576):z2H r=some (k4K r):=j3O h
theorem k1n {r:Rl_}(h:r.Rows.length≤1048576):z1I r=some (k4K r):=by
 unfold z1I k4K
 rw[q7d,bsS]
 by_cases hv:Valid r
 ·rw[decide_eq_true hv,ifP rfl,j3M h,bsS]
  have hN:r.N.toNat=r.Rows.length:=by have:=hv.2.2.1;omega
  rw[hN,j3T (c:=true) (n:=r.Rows.length) (q:=fun k=>!decide (hasP (q6K r) (k:Int) (k:Int))) (fun k hk=>by
   unfold z2N
   rw[q9F,bsS]
   by_cases hp:hasP (q6K r) (k:Int) (k:Int)
   ·rw[decide_eq_true hp];rfl
   ·rw[decide_eq_false hp];rfl) r.Rows.length 0 (by omega)]
  by_cases he:∃ k:Nat,k<r.Rows.length∧hasP (q6K r) (k:Int) (k:Int)
  ·rw[decide_eq_true he,ifN];· rfl
   obtain⟨k,hk,hp⟩:=he
   rw[Exz]
   intro hh
   have:=hh k (by simp;omega)
   simp[hp] at this
  ·rw[decide_eq_false he,ifP];· rfl
   rw[Exz]
   intro k hk
   simp at hk
   have:¬ hasP (q6K r) (k:Int) (k:Int):=fun hp=>he ⟨k,hk,hp⟩
   simp[this]
 ·rw[decide_eq_false hv,ifN (by simp),decide_eq_false]
  rintro⟨k,hk,hp⟩
  have:q6K r=r:=by unfold q6K;rw[ifN hv]
  rw[this] at hp
  exact hv hp.1
def q5C (g:Gm_)(s:BA_):List At_:=(q7i g s).1.as_.filter j1c
theorem j1g {g:Gm_}(h:GOk g)(s:BA_):(q5C g s).length≤1048576:=Blz (Euz _ _) (z5j h s)
theorem j8F {l:List At_}(h:l.length≤1048576):eachL q6v 0 l []=some (l.filter j1c):=by
 have:=z6y (p:=j1c) (g:=fun x:At_=>x) (B:=1048577) (f:=q6v) (fun k x s hs=>by
  have hg:((s.length:Int)+1)*40≤140737488355328∧(s.length:Int)+1≤9223372036854775807:=by constructor<;>omega
  unfold q6v j1c
  rw[q3M hg]
  by_cases m1:x.Mode=1
  ·rw[ifP m1,ifP (by simp[m1])];rfl
  ·rw[ifN m1]
   by_cases m2:x.Mode=2
   ·rw[ifP m2,ifP (by simp[m2])];rfl
   ·rw[ifN m2,ifN (by simp[m1,m2])];rfl) l 0 [] (by simp;omega)
 rw[this];simp
theorem j3Y {g:Gm_}(h:GOk g)(s:BA_):q5U g s=some (q5C g s):=by
 unfold q5U q5C
 rw[z3R h,bsS]
 try dsimp only
 rw[j8F (z5j h s)];rfl
theorem z6C {g:Gm_}(h:GOk g)(s:BA_):q5R g s=some (q5C g s):=by
 unfold q5R q5C
 rw[z5i,bsS]
 try dsimp only
 rw[j5t,j8F (z5j h s)];rfl
def occK (g:Gm_)(r:Rule)(k:Nat):List Oc:=(q5C g (q6k r (k:Int))).map fun x=>(⟨(k:Int),x.Name⟩:Oc)
def occL (g:Gm_)(r:Rule):List Oc:=(Dxz 0 (r.rt_.length+1)).flatMap (occK g r)
theorem k1o {g:Gm_}(h:GOk g)(r:Rule)(k:Nat):(occK g r k).length≤1048576:=by unfold occK;rw[lnM];exact j1g h _
theorem k0i {g:Gm_}(h:GOk g){r:Rule}(hl:ROk r):q6O g r=some (occL g r):=by
 have hl' : r.rt_.length≤1048576:=hl
 have key:=j1d (h:=occK g r) (C:=1048576) (n:=r.rt_.length+1) (f:=q8a g r) (fun k s hk hs=>by
  unfold q8a
  rw[z9s hl,bsS,z6C h,bsS,j3P k _ 0 s (by have:=j1g h (q6k r (k:Int));omega)];rfl)
  (fun k _=>k1o h r k) (r.rt_.length+1) 0 [] (by omega) (by simp)
 unfold q6O
 rw[q3M (by constructor<;>omega),key];rfl
theorem k8U {g:Gm_}(h:GOk g){r:Rule}(hl:ROk r):q6Q g r=some (occL g r):=by
 have hl' : r.rt_.length≤1048576:=hl
 have key:=j3R (h:=occK g r) (C:=1048576) (n:=r.rt_.length+1) (f:=q5L g r) (fun k s hk hs=>by
  unfold q5L
  dsimp only
  rw[ifP (by omega),z3Z hl,bsS,j3Y h,bsS,k1e,j3P k _ 0 s (by have:=j1g h (q6k r (k:Int));omega),bsS,q3M (by constructor<;>omega)];rfl) (fun s=>by
  unfold q5L;dsimp only;rw[ifN (by omega)]) (fun k _=>k1o h r k) (r.rt_.length+1) 0 [] (by omega) (by simp)
 unfold q6Q
 have e:q4G (q5L g r) (([]:List Oc),0)=some ([]++(Dxz 0 (r.rt_.length+1)).flatMap (occK g r)):=key
 rw[e];rfl
theorem k1p {g:Gm_}(h:GOk g){r:Rule}(hl:ROk r):(occL g r).length≤1099512676352:=by
 obtain⟨l,_,h2,h3⟩:=k1f h hl
 rw[k0i h hl] at h2
 cases h2;exact h3
def posL (g:Gm_)(r:Rule)(k:Int):List Int:=(((occL g r).zipIdx 0).filter fun q=>decide (q.1.Pos=k)).map fun q=>(q.2:Int)
theorem k1q (k:Int){l:List Oc}(h:l.length≤1099512676352):eachL (q8v k) 0 l []=some (((l.zipIdx 0).filter fun q=>decide (q.1.Pos=k)).map fun q=>(q.2:Int)):=by
 have:=j3Q (p:=fun x:Oc=>decide (x.Pos=k)) (g:=fun i:Nat=>(i:Int)) (B:=4398046511104) (f:=q8v k) (fun i x s hs=>by
  have hg:((s.length:Int)+1)*8≤140737488355328∧(s.length:Int)+1≤9223372036854775807:=by constructor<;>omega
  unfold q8v
  rw[q3M hg]
  by_cases m1:x.Pos=k
  ·rw[ifP m1,ifP (by simp[m1])];rfl
  ·rw[ifN m1,ifN (by simp[m1])];rfl) l 0 [] (by simp;omega)
 rw[this];simp
theorem k4L {g:Gm_}(h:GOk g){r:Rule}(hl:ROk r)(k:Int):q7s g r k=some (posL g r k):=by
 unfold q7s posL
 rw[k8U h hl,bsS,k1q k (k1p h hl)];rfl
theorem k4M {g:Gm_}(h:GOk g){r:Rule}(hl:ROk r)(k:Int):q7q g r k=some (posL g r k):=by
 unfold q7q posL
 rw[k0i h hl,bsS,j4K,k1q k (k1p h hl)];rfl
theorem j8G {α:Type}(p:α→Bool):∀ (l:List α) (i:Nat),((l.zipIdx i).filter fun q=>p q.1).length=l.countP p
 | [],i=>rfl
 | x::l,i=>by
  rw[Esz,List.filter_cons,List.countP_cons]
  have ih:=j8G p l (i+1)
  by_cases hp:p x=true
  ·rw[ifP hp,ifP hp,lnC,ih]
  ·rw[ifN hp,ifN hp,ih];rfl
theorem k8V (g:Gm_){r:Rule}{k:Nat}(hk:k≤r.rt_.length):(posL g r (k:Int)).length=(q5C g (q6k r (k:Int))).length:=by
 unfold posL
 rw[lnM,j8G (fun x:Oc=>decide (x.Pos=(k:Int)))]
 unfold occL
 rw[List.countP_flatMap]
 have hK:∀ j:Nat,(occK g r j).countP (fun x=>decide (x.Pos=(k:Int)))=if j=k then (q5C g (q6k r (k:Int))).length else 0:=by
  intro j
  unfold occK
  rw[List.countP_map]
  by_cases hj:j=k
  ·subst hj
   rw[ifP rfl,List.countP_eq_length.2 (by simp)]
  ·rw[ifN hj,List.countP_eq_zero.2]
   intro a _
   simp;omega
 have hsum:∀ m i,((Dxz i m).map (List.countP (fun x:Oc=>decide (x.Pos=(k:Int))) ∘ occK g r)).sum=if i≤k∧k<i+m then (q5C g (q6k r (k:Int))).length else 0:=by
  intro m
  induction m with
  | zero=>intro i;rw[ifN (by omega)];rfl
  | succ m ih=>
   intro i
   rw[Etz,Bcz,Ffz,ih (i+1),Function.comp,hK i]
   by_cases h1:i=k
   ·rw[ifP h1,ifN (by omega),ifP (by omega)];rfl
   ·rw[ifN h1,Ahz]
    by_cases h2:i+1≤k∧k<i+1+m
    ·rw[ifP h2,ifP (by omega)]
    ·rw[ifN h2,ifN (by omega)]
 rw[hsum,ifP (by omega)]
noncomputable def z0f (own:Rl_) (a:Nat) (x:Int):Nat→List Int→Rl_→Rl_
 | _,[],o=>o
 | i,y::ys,o=>z0f own a x (i+1) ys (if hasP own (a:Int) (i:Int) then addP o x y else o)
noncomputable def z1E (own:Rl_) (at' : List Int):Nat→List Int→Rl_→Rl_
 | _,[],o=>o
 | a,x::xs,o=>z1E own at' (a+1) xs (z0f own a x 0 at' o)
theorem z8J (own:Rl_)(a:Nat)(x:Int):∀ (ys:List Int) (i:Nat) (o:Rl_),(z0f own a x i ys o).Rows.length=o.Rows.length∧(z0f own a x i ys o).N=o.N
 | [],i,o=>⟨rfl,rfl⟩
 | y::ys,i,o=>by
  rw[z0f]
  have ih:=z8J own a x ys (i+1) (if hasP own (a:Int) (i:Int) then addP o x y else o)
  by_cases h:hasP own (a:Int) (i:Int)
  ·rw[ifP h] at ih ⊢
   have:=z8H o x y
   exact⟨ih.1.trans this.1,ih.2.trans this.2⟩
  ·rw[ifN h] at ih ⊢;exact ih
theorem z9t (own:Rl_)(at' : List Int):∀ (xs:List Int) (a:Nat) (o:Rl_),(z1E own at' a xs o).Rows.length=o.Rows.length∧(z1E own at' a xs o).N=o.N
 | [],a,o=>⟨rfl,rfl⟩
 | x::xs,a,o=>by
  rw[z1E]
  have ih:=z9t own at' xs (a+1) (z0f own a x 0 at' o)
  have:=z8J own a x at' 0 o
  exact⟨ih.1.trans this.1,ih.2.trans this.2⟩
theorem k4N (own:Rl_)(a:Nat)(x:Int):∀ (ys:List Int) (i:Nat) (o:Rl_),o.Rows.length≤1048576 →
  eachL (z2t own a x) i ys (o.Rows,o.N)=some ((z0f own a x i ys o).Rows,(z0f own a x i ys o).N)∧eachL (z9O own a x) i ys (o.N,o.Rows)=some ((z0f own a x i ys o).N,(z0f own a x i ys o).Rows)
 | [],i,o,_=>⟨rfl,rfl⟩
 | y::ys,i,o,h=>by
  have e1:z2t own a x i y (o.Rows,o.N)=some ((if hasP own (a:Int) (i:Int) then addP o x y else o).Rows,(if hasP own (a:Int) (i:Int) then addP o x y else o).N):=by
   unfold z2t
   dsimp only
   rw[q9F,bsS]
   by_cases hp:hasP own (a:Int) (i:Int)
   ·rw[decide_eq_true hp,ifP rfl,ifP hp,k1c h];rfl
   ·rw[decide_eq_false hp,ifN (by simp),ifN hp];rfl
  have e2:z9O own a x i y (o.N,o.Rows)=some ((if hasP own (a:Int) (i:Int) then addP o x y else o).N,(if hasP own (a:Int) (i:Int) then addP o x y else o).Rows):=by
   unfold z9O
   dsimp only
   rw[z7f,bsS]
   by_cases hp:hasP own (a:Int) (i:Int)
   ·rw[decide_eq_true hp,ifP rfl,ifP hp,j6N,k1c h];rfl
   ·rw[decide_eq_false hp,ifN (by simp),ifN hp];rfl
  have hl:(if hasP own (a:Int) (i:Int) then addP o x y else o).Rows.length≤1048576:=by
   split
   ·rw[(z8H o x y).1];exact h
   ·exact h
  have ih:=k4N own a x ys (i+1) _ hl
  rw[eachL,eachL,e1,e2,bsS,bsS,z0f]
  exact ih
theorem k1r (own:Rl_)(at' : List Int):∀ (xs:List Int) (a:Nat) (o:Rl_),o.Rows.length≤1048576 →
  eachL (z5f own at') a xs (o.Rows,o.N)=some ((z1E own at' a xs o).Rows,(z1E own at' a xs o).N)∧eachL (z9P own at') a xs (o.N,o.Rows)=some ((z1E own at' a xs o).N,(z1E own at' a xs o).Rows)
 | [],a,o,_=>⟨rfl,rfl⟩
 | x::xs,a,o,h=>by
  have h1:=k4N own a x at' 0 o h
  have hl:(z0f own a x 0 at' o).Rows.length≤1048576:=by rw[(z8J own a x at' 0 o).1];exact h
  have ih:=k1r own at' xs (a+1) _ hl
  have e1:z5f own at' a x (o.Rows,o.N)=some ((z0f own a x 0 at' o).Rows,(z0f own a x 0 at' o).N):=by
   unfold z5f;dsimp only;rw[h1.1];rfl
  have e2:z9P own at' a x (o.N,o.Rows)=some ((z0f own a x 0 at' o).N,(z0f own a x 0 at' o).Rows):=by
   unfold z9P;dsimp only;rw[h1.2];rfl
  rw[eachL,eachL,e1,e2,bsS,bsS,z1E]
  exact ih
noncomputable def z7r (g:Gm_) (r:Rule) (o:Rl_) (pos:Int) (own:Rl_):Rl_:=z1E own (posL g r pos) 0 (posL g r pos) o
theorem k4O {g:Gm_}(h:GOk g){r:Rule}(hl:ROk r){o:Rl_}(ho:o.Rows.length≤1048576)(pos:Int)(own:Rl_):z9Q g r o pos own=some (z7r g r o pos own):=by
 unfold z9Q z7r
 rw[k4M h hl,bsS,(k1r own (posL g r pos) (posL g r pos) 0 o ho).2];rfl
theorem k0j {r:Rule}{k:Nat}{x:BA_}(h:r.rt_[k]?=some x):q6k r ((k+1:Nat):Int)=x:=by
 have hk:=(List.getElem?_eq_some_iff.1 h).1
 unfold q6k
 rw[ifN (by omega),ifP (by omega),show (((k+1:Nat):Int)-1).toNat=k by omega,Ddz,h];rfl
theorem j5x (g:Gm_)(r:Rule)(o:Rl_)(pos:Int)(own:Rl_):(z7r g r o pos own).Rows.length=o.Rows.length:=(z9t own _ _ 0 o).1
noncomputable def locR (g:Gm_) (r:Rule):Rl_:=(q7D g r).getD ⟨0,[]⟩
theorem k7E {g:Gm_}{r:Rule}(h:Sz.szd g≤1048576)(hr:Sz.szd r≤1048576):q7D g r=some (locR g r)∧q7B g r=some (locR g r)∧(locR g r).Rows.length≤16:=by
 obtain⟨x,h1,h2,h3⟩:=k2E h hr
 unfold locR
 rw[h1,h2];exact⟨rfl,rfl,h3⟩
end Go.Proofs.YtppbkkcekpbaiaaGreat
