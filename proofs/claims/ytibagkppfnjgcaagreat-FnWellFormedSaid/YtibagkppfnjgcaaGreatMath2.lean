/- What those partial functions come to: plain lemmas on data; each bears its conditions in its statement. -/
import Derived.Test.YtibagkppfnjgcaaGreatEng7
set_option linter.unusedVariables false
set_option linter.unusedSimpArgs false
set_option linter.ambiguousOpen false
set_option linter.unusedSectionVars false
set_option linter.unnecessarySimpa false
namespace Go.Proofs.YtibagkppfnjgcaaGreat
open Go Go.E
mutual
def z2F:Expr→List Occurrence
 | ⟨a0,a1,a2,a3,a4,a5,a6⟩=>(if a0=3 then [⟨a2,a5⟩] else [])++q8E a6
def q8E:List Expr→List Occurrence
 | []=>[]
 | x :: xs=>z2F x++q8E xs
end
mutual
def fuE:Expr→Nat
 | ⟨_,_,_,_,_,_,a6⟩=>fuEs a6+1
def fuEs:List Expr→Nat
 | []=>0
 | x :: xs=>max (fuE x) (fuEs xs)
end
theorem z4n (e:Expr):fuE e=fuEs e.Args+1:=by cases e; rfl
theorem z9S:∀ {l:List Expr} {x:Expr},x∈l→fuE x≤fuEs l
 | y :: l,x,h=>by
  simp only [fuEs]
  rcases List.mem_cons.1 h with e | h
  ·subst e; omega
  ·have:=z9S h; omega
theorem z1B (e:Expr):z2F e=(if e.Kind=3 then [⟨e.Pos,e.Name⟩] else [])++q8E e.Args:=by cases e; rfl
mutual
theorem j1l:∀ e:Expr,(z2F e).length≤1+q9x e
 | ⟨a0,a1,a2,a3,a4,a5,a6⟩=>by
  have:=z8Z a6
  simp only [z2F,q9x,List.length_append]
  split<;>simp<;>omega
theorem z8Z:∀ l:List Expr,(q8E l).length≤z1A l
 | []=>by simp [q8E]
 | x :: xs=>by
  have h1:=j1l x
  have h2:=z8Z xs
  simp only [q8E,z1A,List.length_append]; omega
end
theorem z5i {α:Type}[Sz α]{x:α}:∀ {l:List α},x∈l→Sz.szd x < szL l
 | [],h=>by simp at h
 | y :: l,h=>by
  rcases List.mem_cons.1 h with rfl | h
  ·simp only [szL]; omega
  ·have:=z5i h; simp only [szL]; omega
theorem j5I {e x:Expr}(h:x∈e.Args):Sz.szd x < Sz.szd e:=by
 have h1:=q5K e
 have h2:=z5i h
 omega
theorem j5J {e:Expr}(h:Sz.szd e≤1048576):(z2F e).length≤1048577:=by
 have h1:=j1l e
 have h2:q9x e=Sz.szd e:=rfl
 omega
theorem z5E {o:Occurrence}:∀ {l:List Expr},o∈q8E l↔∃ x∈l,o∈z2F x
 | []=>by simp [q8E]
 | x :: xs=>by simp [q8E,z5E (l:=xs)]
theorem j2F:∀ (m:Nat) (e:Expr) (o:List Occurrence),fuE e≤m→o.length+(z2F e).length≤4398046511104→q4n m e o=some (true,o++z2F e):=by
 intro m
 induction m with
 | zero=>intro e o h; rw [z4n] at h; omega
 | succ m ih=>
  have hl:∀ (l:List Expr) (i:Nat) (o:List Occurrence),fuEs l≤m→o.length+(q8E l).length≤4398046511104→findL (q3V (q4n m)) i l o=some (.inl (o++q8E l)):=by
   intro l
   induction l with
   | nil=>intro i o _ _; simp [findL,q8E]
   | cons x l ihl=>
    intro i o hf hb
    simp only [fuEs] at hf
    simp only [q8E,List.length_append] at hb
    have hx:=ih x o (by omega) (by omega)
    simp only [findL,q3V,q4W,hx,Option.bind_some,Bool.not_true,Bool.false_eq_true,if_false]
    rw [ihl _ _ (by omega) (by rw [List.length_append]; omega),q8E,List.append_assoc]
  intro e o hf hb
  rw [z4n] at hf
  show q4D (q4n m) e o=_
  have hb':=hb
  rw [z1B,List.length_append] at hb'
  have h1:q6I e o=some (true,o++if e.Kind=3 then [⟨e.Pos,e.Name⟩] else []):=by
   unfold q6I
   by_cases hk:e.Kind=3
   ·rw [if_pos hk] at hb' ⊢
    rw [if_pos hk,q3o]
    simp only [List.length_cons,List.length_nil] at hb'
    constructor<;>omega
   ·rw [if_neg hk,if_neg hk,List.append_nil]
  unfold q4D
  rw [h1,Option.bind_some]
  dsimp only
  rw [if_pos rfl]
  unfold q3y q3E
  rw [hl _ _ _ (by omega) (by rw [List.length_append]; omega),z1B]
  simp [onr]
theorem j7i {e:Expr}(h:(z2F e).length≤4398046511104):q5O e []=some (true,z2F e):=
 q7j (fuE e) fun m hm=>by simpa using j2F m e [] hm (by simpa using h)
theorem j2G {α:Type}{s:List α}{k:Nat}{x:α}(h:k < s.length):(s.set k x).take (k+1)=s.take k++[x]:=by
 rw [List.take_add_one,List.take_set,List.set_eq_of_length_le (by simp; omega)]
 simp [List.getElem?_set,h]
theorem j4G {a:List Occurrence}{b:Nat}(ha:a.length≤4398046511104)(hb:1≤b)(hba:b < a.length):∀ (m j k:Nat) (s:List Occurrence),b+j+m=a.length→1≤j→1≤k→k≤b+j - 1→s.length=a.length→s.take k=q4N (a.take (b+j))→s.drop (b+j - 1)=a.drop (b+j - 1) →
  ∃ s' k',q5m (q3L (b:Int)) (s,(k:Int),(j:Int))=some (s',((k' : Nat):Int))∧k'≤s'.length∧s'.take k'=q4N a:=by
 intro m
 induction m with
 | zero=>
  intro j k s hm hj hk hkj hs ht hd
  refine⟨s,k,q4u ?_,by omega,?_⟩
  ·unfold q3L
   dsimp only
   rw [if_neg (by simp only [Int.toNat_natCast,List.length_drop]; omega)]
  ·rw [ht,show b+j=a.length by omega,List.take_length]
 | succ m ih=>
  intro j k s hm hj hk hkj hs ht hd
  obtain⟨x,hx⟩:∃ x,a[b+j]? = some x:=⟨_,List.getElem?_eq_getElem (by omega)⟩
  obtain⟨y,hy⟩:∃ y,a[b+j - 1]? = some y:=⟨_,List.getElem?_eq_getElem (by omega)⟩
  obtain⟨z,hz⟩:∃ z,s[k]? = some z:=⟨_,List.getElem?_eq_getElem (by omega)⟩
  have hsx:s[b+j]? = some x:=by
   have:=congrArg (fun l=>l[1]?) hd
   simp only [List.getElem?_drop] at this
   rw [show b+j - 1+1=b+j by omega] at this
   rw [this,hx]
  have hsy:s[b+(j - 1)]? = some y:=by
   have:=congrArg (fun l=>l[0]?) hd
   simp only [List.getElem?_drop,Nat.add_zero] at this
   rw [show b+(j - 1)=b+j - 1 by omega,this,hy]
  have hc:=z5h (i:=b+j - 1) (b:=x) hy (by rw [show b+j - 1+1=b+j by omega]; exact hx)
  rw [show b+j - 1+2=b+(j+1) by omega,show b+j - 1+1=b+j by omega] at hc
  have hd2:s.drop (b+(j+1) - 1)=a.drop (b+(j+1) - 1):=by
   have:=congrArg (fun l=>l.drop 1) hd
   simp only [List.drop_drop] at this
   rw [show b+(j+1) - 1=b+j - 1+1 by omega]; exact this
  have e1:((j:Int) - 1).toNat=j - 1:=by omega
  by_cases hxy:x=y
  ·have e:q3L (b:Int) (s,(k:Int),(j:Int))=some (.inl (s,(k:Int),((j+1:Nat):Int))):=by
    unfold q3L
    dsimp only
    rw [if_pos (by simp only [Int.toNat_natCast,List.length_drop]; omega),q3o (by omega)]
    simp only [Int.toNat_natCast]
    rw [hsx,Option.bind_some,q3o (by constructor<;>omega),q3o (by omega),e1,hsy,Option.bind_some,if_pos hxy,Option.bind_some]
    dsimp only
    rw [q3o (by constructor<;>omega)]; rfl
   rw [q4U e]
   exact ih (j+1) k s (by omega) (by omega) hk (by omega) hs (by rw [hc,if_pos hxy.symm,ht]) hd2
  ·have e:q3L (b:Int) (s,(k:Int),(j:Int))=some (.inl (s.set k x,((k+1:Nat):Int),((j+1:Nat):Int))):=by
    unfold q3L
    dsimp only
    rw [if_pos (by simp only [Int.toNat_natCast,List.length_drop]; omega),q3o (by omega)]
    simp only [Int.toNat_natCast]
    rw [hsx,Option.bind_some,q3o (by constructor<;>omega),q3o (by omega),e1,hsy,Option.bind_some,if_neg hxy,q3o (by omega),q3o (by omega),hz,Option.bind_some,q3o (by constructor<;>omega),Option.bind_some]
    dsimp only
    rw [q3o (by constructor<;>omega)]; rfl
   rw [q4U e]
   refine ih (j+1) (k+1) _ (by omega) (by omega) (by omega) (by omega) (by rw [List.length_set]; exact hs) ?_ ?_
   ·rw [j2G (by omega),ht,hc,if_neg (fun h=>hxy h.symm)]
   ·rw [List.drop_set,if_pos (by omega)]; exact hd2
theorem j2H {a:List Occurrence}(ha:a.length≤4398046511104):∀ (m k:Nat),k+m=a.length→1≤k→q4N (a.take k)=a.take k →
  (q5m (q3M a) (k:Int)).bind (onr (fun r1=>some r1) fun _=>some a)=some (q4N a):=by
 intro m
 induction m with
 | zero=>
  intro k hm hk hc
  have e:q3M a (k:Int)=some (.inr (.inl ())):=by
   unfold q3M
   dsimp only
   rw [if_neg (by omega)]
  rw [q4u e,Option.bind_some]
  show some a=_
  rw [show k=a.length by omega,List.take_length] at hc
  rw [hc]
 | succ m ih=>
  intro k hm hk hc
  obtain⟨x,hx⟩:∃ x,a[k]? = some x:=⟨_,List.getElem?_eq_getElem (by omega)⟩
  obtain⟨y,hy⟩:∃ y,a[k - 1]? = some y:=⟨_,List.getElem?_eq_getElem (by omega)⟩
  have hct:=z5h (i:=k - 1) (b:=x) hy (by rw [show k - 1+1=k by omega]; exact hx)
  rw [show k - 1+2=k+1 by omega,show k - 1+1=k by omega] at hct
  have htk:a.take (k+1)=a.take k++[x]:=by rw [List.take_add_one,hx]; rfl
  have e1:((k:Int) - 1).toNat=k - 1:=by omega
  by_cases hxy:x=y
  ·obtain⟨s',k',h1,h2,h3⟩:=j4G (b:=k) ha hk (by omega) m 1 k a (by omega) (by omega) hk (by omega) rfl (by rw [hct,if_pos hxy.symm,hc]) rfl
   have hl:(s'.take k'++List.replicate (s'.length - k') (⟨(0:Int),(⟨#[]⟩:ByteArray)⟩:Occurrence)).take k'=q4N a:=by
    rw [List.take_append_of_le_length (by simp; omega),List.take_take,Nat.min_self,h3]
   have e:q3M a (k:Int)=some (.inr (.inr (q4N a))):=by
    unfold q3M
    dsimp only
    rw [if_pos (by omega),q3o (by omega)]
    simp only [Int.toNat_natCast]
    rw [hx,Option.bind_some,q3o (by constructor<;>omega),q3o (by omega),e1,hy,Option.bind_some,if_pos hxy,q3o (by omega),q3o (by omega)]
    have h1' : q5m (q3L (k:Int)) (a,(k:Int),1)=some (s',((k' : Nat):Int)):=h1
    rw [h1',Option.bind_some]
    dsimp only
    simp only [Int.toNat_natCast]
    rw [q3o (by omega),q3o (by omega),q3o (by omega),q3o (by simp; omega),hl]
   rw [q4u e,Option.bind_some]; rfl
  ·have e:q3M a (k:Int)=some (.inl ((k+1:Nat):Int)):=by
    unfold q3M
    dsimp only
    rw [if_pos (by omega),q3o (by omega)]
    simp only [Int.toNat_natCast]
    rw [hx,Option.bind_some,q3o (by constructor<;>omega),q3o (by omega),e1,hy,Option.bind_some,if_neg hxy,q3o (by constructor<;>omega)]; rfl
   rw [q4U e]
   exact ih (k+1) (by omega) (by omega) (by rw [hct,if_neg (fun h=>hxy h.symm),hc,htk])
theorem j4H {a:List Occurrence}(ha:a.length≤4398046511104):q4S a=some (q4N a):=by
 unfold q4S
 by_cases h:(a.length:Int) < 2
 ·rw [if_pos h]
  match a,h with
  | [],_=>rfl
  | [x],_=>rfl
  | x :: y :: l,h=>simp only [List.length_cons] at h; omega
 ·rw [if_neg h]
  refine j2H ha (a.length - 1) 1 (by omega) (Nat.le_refl _) ?_
  match a,h with
  | x :: l,_=>rfl
def z5j (e:Expr):List Occurrence:=q4N (j2e (z2F e))
theorem z7R {o:Occurrence}{e:Expr}:o∈z5j e↔o∈z2F e:=by
 unfold z5j j2e
 rw [z3E,List.mem_mergeSort]
theorem j3H {e:Expr}(h:Sz.szd e≤1048576):q6D e=some (z5j e):=by
 have hl:=j5J h
 have hs:(j2e (z2F e)).length=(z2F e).length:=by unfold j2e; exact List.length_mergeSort _
 unfold q6D
 rw [j7i (by omega),Option.bind_some]
 dsimp only
 unfold q5l
 rw [q3o (by omega),Option.bind_some,j4H (by omega)]; rfl
end Go.Proofs.YtibagkppfnjgcaaGreat
namespace Go.Proofs.YtibagkppfnjgcaaGreat
open Go Go.E
theorem z1C (e:Expr):1≤fuE e:=by rw [z4n]; omega
theorem z1m {e x:Expr}(hx:x∈e.Args):fuE x+1≤fuE e:=by
 have:=z9S hx
 have:=z4n e
 omega
theorem q8m {P:Expr→Prop}(h:∀ e,(∀ x∈e.Args,P x)→P e)(e:Expr):P e:=by
 have:∀ n e,fuE e≤n→P e:=by
  intro n
  induction n with
  | zero=>intro e he; have:=z1C e; omega
  | succ n ih=>intro e he; exact h e fun x hx=>ih x (by have:=z1m hx; omega)
 exact this _ e (Nat.le_refl _)
theorem q3O {α ρ:Type}{c:ρ}{q:α→Bool}:∀ {xs:List α} {i:Nat} {f:Nat→α→Unit→Option (Unit ⊕ ρ)},(∀ k x,x∈xs→f k x ()=some (if q x=true then .inl () else .inr c))→findL f i xs ()=some (if xs.all q=true then .inl () else .inr c)
 | [],i,f,h=>rfl
 | x :: xs,i,f,h=>by
  rw [findL,h i x (by simp)]
  by_cases hx:q x=true
  ·rw [if_pos hx,Option.bind_some]
   show findL f (i+1) xs ()=_
   rw [q3O fun k y hy=>h k y (by simp [hy])]
   simp [hx]
  ·rw [if_neg hx]; simp [hx]
theorem z7S {α:Type}{q:α→Bool}:∀ {xs:List α} {i:Nat} {f:Nat→α→Unit→Option (Unit ⊕ Int)},(∀ k x,x∈xs→f k x ()=some (if q x=true then .inr (k:Int) else .inl ()))→findL f i xs ()=some (if xs.any q=true then .inr ((i+xs.findIdx q:Nat):Int) else .inl ())
 | [],i,f,h=>rfl
 | x :: xs,i,f,h=>by
  rw [findL,h i x (by simp)]
  by_cases hx:q x=true
  ·rw [if_pos hx]; simp [hx,List.findIdx_cons]
  ·rw [if_neg hx,Option.bind_some]
   show findL f (i+1) xs ()=_
   rw [z7S fun k y hy=>h k y (by simp [hy])]
   have hx' : q x=false:=by simpa using hx
   simp only [List.any_cons,hx',Bool.false_or,List.findIdx_cons,cond_false]
   rw [show i+1+xs.findIdx q=i+(xs.findIdx q+1) by omega]
mutual
def allE (p:Expr→Bool):Expr→Bool
 | ⟨a0,a1,a2,a3,a4,a5,a6⟩=>p ⟨a0,a1,a2,a3,a4,a5,a6⟩&&j7j p a6
def j7j (p:Expr→Bool):List Expr→Bool
 | []=>true
 | x :: xs=>allE p x&&j7j p xs
end
mutual
def cntE:Expr→Nat
 | ⟨_,_,_,_,_,_,a6⟩=>z2G a6+1
def z2G:List Expr→Nat
 | []=>0
 | x :: xs=>cntE x+z2G xs
end
mutual
def depE:Expr→Nat
 | ⟨_,_,_,_,_,_,a6⟩=>z8y a6+1
def z8y:List Expr→Nat
 | []=>0
 | x :: xs=>max (depE x) (z8y xs)
end
theorem j3I (p:Expr→Bool):∀ l,j7j p l=l.all (allE p)
 | []=>rfl
 | x :: xs=>by rw [j7j,j3I p xs]; rfl
theorem z5F (p:Expr→Bool)(e:Expr):allE p e=(p e&&e.Args.all (allE p)):=by
 cases e; rw [allE,j3I]
theorem z5G (e:Expr):cntE e=z2G e.Args+1:=by cases e; rfl
theorem j5K (e:Expr):depE e=z8y e.Args+1:=by cases e; rfl
mutual
theorem z9T:∀ e:Expr,cntE e≤1+q9x e
 | ⟨a0,a1,a2,a3,a4,a5,a6⟩=>by
  have:=j1m a6
  simp only [cntE,q9x]; omega
theorem j1m:∀ l:List Expr,z2G l≤z1A l
 | []=>by simp [z2G]
 | x :: xs=>by
  have h1:=z9T x
  have h2:=j1m xs
  simp only [z2G,z1A]; omega
end
theorem j8E {e:Expr}(h:Sz.szd e≤1048576):cntE e≤1048577:=by
 have h1:=z9T e
 have h2:q9x e=Sz.szd e:=rfl
 omega
mutual
theorem j5L:∀ e:Expr,depE e≤cntE e
 | ⟨_,_,_,_,_,_,a6⟩=>by
  have:=j3J a6
  simp only [depE,cntE]; omega
theorem j3J:∀ l:List Expr,z8y l≤z2G l
 | []=>Nat.le_refl _
 | x :: xs=>by
  have h1:=j5L x
  have h2:=j3J xs
  simp only [z8y,z2G]; omega
end
theorem j1n:∀ {l:List Expr} {x:Expr},x∈l→cntE x≤z2G l
 | y :: l,x,h=>by
  simp only [z2G]
  rcases List.mem_cons.1 h with e | h
  ·subst e; omega
  ·have:=j1n h; omega
theorem j5M {e x:Expr}(hx:x∈e.Args):cntE x+1≤cntE e:=by
 have:=j1n hx
 have:=z5G e
 omega
theorem j4I (e:Expr):∀ m,fuE e≤m→cntE e≤1099511627776→q8P m e=some (cntE e:Int):=by
 induction e using q8m with
 | h e ih=>
  intro m hm hc
  obtain⟨m,rfl⟩:∃ q,m=q+1:=⟨m - 1,by have:=z1C e; omega⟩
  show z0g (q8P m) e=_
  unfold z0g
  have key:∀ (l:List Expr) (i s:Nat),(∀ x∈l,x∈e.Args)→s+z2G l≤1099511627776→eachL (z0C (q8P m)) i l (s:Int)=some ((s+z2G l:Nat):Int):=by
   intro l
   induction l with
   | nil=>intro i s _ _; rfl
   | cons x l ihl=>
    intro i s hx hs
    have hxm:=hx x (by simp)
    simp only [z2G] at hs
    have h1:=ih x hxm m (by have:=z1m hxm; omega) (by omega)
    rw [eachL]
    unfold z0C
    rw [h1,Option.bind_some,q3o (by constructor<;>omega),Option.bind_some]
    have:=ihl (i+1) (s+cntE x) (fun y hy=>hx y (by simp [hy])) (by omega)
    rw [Int.natCast_add] at this
    unfold z0C at this
    rw [this,z2G]
    congr 1; omega
  rw [z5G] at hc
  have:=key e.Args 0 1 (fun _ h=>h) (by omega)
  rw [show ((1:Nat):Int)=1 from rfl] at this
  rw [this,Option.bind_some,z5G,Nat.add_comm]
theorem j5N {e:Expr}(h:cntE e≤1099511627776):z3n e=some (cntE e:Int):=q7j (fuE e) fun m hm=>j4I e m hm h
theorem j9Y (a b:Nat):(if (b:Int) > (a:Int) then (b:Int) else (a:Int))=((max a b:Nat):Int):=by
 split<;>omega
theorem z7T {f:Expr→Option Int}{g:Nat→Expr→Int→Option Int}(hg:∀ k x s,g k x s=(f x).bind fun y=>some (if y > s then y else s)):∀ (l:List Expr) (i s:Nat),(∀ x∈l,f x=some (depE x:Int))→eachL g i l (s:Int)=some ((max s (z8y l):Nat):Int)
 | [],i,s,_=>by rw [eachL,z8y,Nat.max_zero]
 | x :: l,i,s,h=>by
  rw [eachL,hg,h x (by simp),Option.bind_some,Option.bind_some,j9Y,z7T hg l (i+1) _ fun y hy=>h y (by simp [hy]),z8y,Nat.max_assoc]
theorem j5O (a b:Int):z1v a b=some (if b > a then b else a):=by
 unfold z1v
 by_cases h:b < a
 ·rw [if_pos h,if_neg (by omega)]
 ·rw [if_neg h]
  split
  ·rfl
  ·congr 1; omega
theorem z9a (e:Expr):∀ m,fuE e≤m→cntE e≤1099511627776→q6h m e=some (depE e:Int)∧q6g m e=some (depE e:Int):=by
 induction e using q8m with
 | h e ih=>
  intro m hm hc
  obtain⟨m,rfl⟩:∃ q,m=q+1:=⟨m - 1,by have:=z1C e; omega⟩
  show q8w (q6h m) e=_∧q8u (q6g m) e=_
  unfold q8w q8u
  have hx:∀ x∈e.Args,q6h m x=some (depE x:Int)∧q6g m x=some (depE x:Int):=fun x hx=>ih x hx m (by have:=z1m hx; omega) (by have:=j5M hx; omega)
  have k1:=z7T (f:=q6h m) (g:=z3o (q6h m)) (fun k x s=>rfl) e.Args 0 0 fun x h=>(hx x h).1
  have k2:=z7T (f:=q6g m) (g:=z0W (q6g m)) (fun k x s=>by
   unfold z0W
   congr 1; funext y
   rw [j5O,Option.bind_some]) e.Args 0 0 fun x h=>(hx x h).2
  rw [show ((0:Nat):Int)=0 from rfl] at k1 k2
  have hd:=j5L e
  rw [j5K] at hd
  rw [k1,k2]
  have hg:I64 (((max 0 (z8y e.Args):Nat):Int)+1):=by constructor<;>omega
  have he:((max 0 (z8y e.Args):Nat):Int)+1=(depE e:Int):=by rw [j5K]; omega
  refine⟨?_,?_⟩
  ·rw [Option.bind_some,q3o hg,he]
  ·rw [Option.bind_some,q3o hg,he]
theorem j5P {e:Expr}(h:cntE e≤1099511627776):z1K e=some (depE e:Int):=q7j (fuE e) fun m hm=>(z9a e m hm h).1
theorem j5Q {e:Expr}(h:cntE e≤1099511627776):z1J e=some (depE e:Int):=q7j (fuE e) fun m hm=>(z9a e m hm h).2
def z6s (a:Int)(n:Nat):Int:=if (n:Int)≤a then a - n else -1
theorem j5R (e:Expr):∀ m,fuE e≤m→∀ a:Int,0≤a→a≤1048576→cntE e≤1099511627776→z0V m e a=some (z6s a (cntE e)):=by
 induction e using q8m with
 | h e ih=>
  intro m hm a h0 h1 hc
  obtain⟨m,rfl⟩:∃ q,m=q+1:=⟨m - 1,by have:=z1C e; omega⟩
  show z3d (z0V m) e a=_
  unfold z3d
  rw [q3o (by constructor<;>omega)]
  have hlen:e.Args.length≤cntE e:=by
   rw [z5G]
   have:∀ l:List Expr,l.length≤z2G l:=by
    intro l
    induction l with
    | nil=>simp
    | cons x l ih=>
     have:=z5G x
     simp only [z2G,List.length_cons]; omega
   have:=this e.Args; omega
  have key:∀ (n k:Nat) (s:Int),k+n=e.Args.length→-1≤s→s≤1048576→q5m (z0J (z0V m) e) (s,(k:Int))=some (if 0≤s then z6s s (z2G (e.Args.drop k)) else s):=by
   intro n
   induction n with
   | zero=>
    intro k s hk _ _
    have hdrop:e.Args.drop k=[]:=List.drop_eq_nil_of_le (by omega)
    refine q4u ?_
    unfold z0J
    dsimp only
    rw [if_neg (by omega),hdrop]
    congr 2
    split
    ·unfold z6s; simp [z2G]; omega
    ·rfl
   | succ n ihn=>
    intro k s hk hs1 hs2
    have hkl:k < e.Args.length:=by omega
    by_cases hs:0≤s
    ·have hxm:e.Args[k]∈e.Args:=List.getElem_mem hkl
     have hr:=ih _ hxm m (by have:=z1m hxm; omega) s hs hs2 (by have:=j5M hxm; omega)
     have hstep:z0J (z0V m) e (s,(k:Int))=some (.inl (z6s s (cntE e.Args[k]),((k+1:Nat):Int))):=by
      unfold z0J
      dsimp only
      rw [if_pos (by omega),if_pos hs,q3o (by omega),Int.toNat_natCast,List.getElem?_eq_getElem hkl,Option.bind_some,hr,Option.bind_some,q3o (by constructor<;>omega)]
      rfl
     have hb1:-1≤z6s s (cntE e.Args[k]):=by unfold z6s; split<;>omega
     have hb2:z6s s (cntE e.Args[k])≤1048576:=by unfold z6s; split<;>omega
     rw [q4U hstep,ihn (k+1) _ (by omega) hb1 hb2,if_pos hs]
     have hd:e.Args.drop k=e.Args[k] :: e.Args.drop (k+1):=List.drop_eq_getElem_cons hkl
     rw [hd,z2G]
     congr 1
     unfold z6s
     split<;>split<;>(try split)<;>omega
    ·refine q4u ?_
     unfold z0J
     dsimp only
     rw [if_pos (by omega),if_neg hs,if_neg hs]
  have:=key e.Args.length 0 (a - 1) (by omega) (by omega) (by omega)
  rw [show ((0:Nat):Int)=0 from rfl] at this
  rw [this,Option.bind_some,List.drop_zero,z5G]
  congr 1
  unfold z6s
  split<;>(try split)<;>(try split)<;>omega
theorem j7k {e:Expr}{a:Int}(h0:0≤a)(h1:a≤1048576)(h:cntE e≤1099511627776):z7a e a=some (z6s a (cntE e)):=q7j (fuE e) fun m hm=>j5R e m hm a h0 h1 h
end Go.Proofs.YtibagkppfnjgcaaGreat
namespace Go.Proofs.YtibagkppfnjgcaaGreat
open Go Go.E
theorem j4J (x lo hi:Int):q4o x lo hi=some (decide (lo≤x∧x≤hi)):=by
 unfold q4o; by_cases h:lo≤x<;>simp [h]
theorem z9U (x lo hi:Int):q5H x lo hi=some (decide (lo≤x∧x≤hi)):=by
 unfold q5H; by_cases h:lo≤x<;>simp [h]
def lowB (c:UInt8):Bool:=decide (97≤(c.toNat:Int)∧(c.toNat:Int)≤122)
def digB (c:UInt8):Bool:=decide (48≤(c.toNat:Int)∧(c.toNat:Int)≤57)
theorem z5H (c:UInt8):z0L c=some (lowB c):=by
 unfold z0L lowB; by_cases h:97≤(c.toNat:Int)<;>simp [h]
theorem j4K (c:UInt8):z2d c=some (digB c):=by
 unfold z2d digB; by_cases h:48≤(c.toNat:Int)<;>simp [h]
def allN (q:Nat→Bool):Nat→Nat→Bool
 | _,0=>true
 | i,n+1=>q i&&allN q (i+1) n
theorem z9b {q r:Nat→Bool}:∀ {n i:Nat},(∀ k,i≤k→q k=r k)→allN q i n=allN r i n
 | 0,_,_=>rfl
 | n+1,i,h=>by rw [allN,allN,h i (Nat.le_refl _),z9b fun k hk=>h k (by omega)]
theorem z5I {ρ:Type}{c:ρ}{q:Nat→Bool}:∀ {n i:Nat} {f:Nat→Unit→Option (Unit ⊕ ρ)},(∀ k,k < n→f (i+k) ()=some (if q (i+k)=true then .inl () else .inr c))→findN f i n ()=some (if allN q i n=true then .inl () else .inr c)
 | 0,i,f,h=>rfl
 | n+1,i,f,h=>by
  have h0:=h 0 (by omega)
  rw [Nat.add_zero] at h0
  rw [findN,h0]
  by_cases hx:q i=true
  ·rw [if_pos hx,Option.bind_some]
   show findN f (i+1) n ()=_
   rw [z5I fun k hk=>by have:=h (k+1) (by omega); rwa [show i+(k+1)=i+1+k by omega] at this]
   simp [allN,hx]
  ·rw [if_neg hx]; simp [allN,hx]
def chr (s:ByteArray)(k:Nat):UInt8:=s.data.getD k 0
theorem z9V {s:ByteArray}{k:Nat}(h:k < s.size):s.data[k]? = some (chr s k):=by
 have h' : k < s.data.size:=h
 unfold chr
 rw [Array.getD_eq_getD_getElem?,Array.getElem?_eq_getElem h']; rfl
def z5k:List ByteArray:=[⟨#[105,102]⟩,⟨#[116,104,101,110]⟩,⟨#[101,108,115,101]⟩,⟨#[116,114,117,101]⟩,⟨#[102,97,108,115,101]⟩,⟨#[108,105,116]⟩,⟨#[110,111,110,101]⟩,⟨#[115,101,108,102]⟩,⟨#[111,102]⟩,⟨#[109,97,120]⟩,⟨#[109,105,110]⟩,⟨#[119,105,116,104]⟩,⟨#[104,97,115]⟩]
def memB (s:ByteArray)(l:List ByteArray):Bool:=l.any fun x=>decide (x=s)
theorem j7l {s:ByteArray}{l:List ByteArray}:memB s l=true↔s∈l:=by
 unfold memB; rw [List.any_eq_true]
 exact⟨fun ⟨x,h1,h2⟩=>by simp at h2; exact h2▸h1,fun h=>⟨s,h,by simp⟩⟩
theorem j7m {s:ByteArray}{l:List ByteArray}(h:s ∉ l):memB s l=false:=by
 cases hb:memB s l with
 | false=>rfl
 | true=>exact absurd (j7l.1 hb) h
def resB (s:ByteArray):Bool:=memB s z5k
theorem j7n (l:List ByteArray)(s:ByteArray):q9P l s=some (memB s l):=by
 unfold q9P
 have:∀ (l:List ByteArray) (i:Nat),findL (z4R s) i l ()=some (if memB s l=true then .inr true else .inl ()):=by
  intro l
  induction l with
  | nil=>intro i; rfl
  | cons x l ih=>
   intro i
   rw [findL]
   unfold z4R at ih ⊢
   have hc:memB s (x :: l)=(decide (x=s)||memB s l):=rfl
   by_cases h:x=s
   ·rw [if_pos h,hc]; simp [h]
   ·rw [if_neg h,Option.bind_some]
    show findL _ (i+1) l ()=_
    rw [ih,hc]; simp [h]
 rw [this,Option.bind_some]
 cases memB s l<;>rfl
theorem j9d (s:ByteArray):q8X s=some (resB s):=by
 unfold q8X z0B
 rw [Option.bind_some,j7n]; rfl
theorem j9e (s:ByteArray):q8Z s=some (resB s):=by
 by_cases h:s∈z5k
 ·unfold z5k at h
  simp only [List.mem_cons,List.not_mem_nil,or_false] at h
  rcases h with h | h | h | h | h | h | h | h | h | h | h | h | h<;>subst h<;>rfl
 ·unfold resB
  rw [j7m h]
  unfold z5k at h
  simp only [List.mem_cons,List.not_mem_nil,or_false,not_or] at h
  obtain⟨h1,h2,h3,h4,h5,h6,h7,h8,h9,h10,h11,h12,h13⟩:=h
  unfold q8Z
  rw [if_neg h1,if_neg h2,if_neg h3,if_neg h4,if_neg h5,if_neg h6,if_neg h7,if_neg h8,if_neg h9,if_neg h10,if_neg h11,if_neg h12]
  simp [h13]
def q7v (s:ByteArray):Bool:=decide (0 < s.size∧s.size≤8)&&(lowB (chr s 0)&&allN (fun k=>lowB (chr s k)||digB (chr s k)) 1 (s.size - 1) && !resB s)
theorem z0G (s:ByteArray):q4e s=some (q7v s):=by
 unfold q4e
 rw [z5I (c:=false) (q:=fun k=>lowB (chr s k)||digB (chr s k)) fun k hk=>by
  rw [Nat.zero_add]
  unfold z3m
  rw [z9V hk,Option.bind_some,z5H,Option.bind_some]
  cases lowB (chr s k) with
  | true=>rfl
  | false=>
   rw [if_neg (by simp),j4K,Option.bind_some]
   cases digB (chr s k)<;>rfl]
 rw [Option.bind_some]
 by_cases h0:0 < s.size
 ·obtain⟨n,hn⟩:∃ n,s.size=n+1:=⟨s.size - 1,by omega⟩
  unfold q7v
  rw [hn,allN,Nat.add_sub_cancel]
  cases ha:allN (fun k=>lowB (chr s k)||digB (chr s k)) (0+1) n with
  | false=>
   rw [Bool.and_false,if_neg (by simp)]
   rw [Nat.zero_add] at ha
   simp [onr,ha]
  | true=>
   rw [Nat.zero_add] at ha
   try rw [ha]
   simp only [Bool.and_true]
   have hc:=z9V h0
   cases hl:lowB (chr s 0) with
   | false=>
    cases hd:digB (chr s 0) with
    | false=>simp [onr]
    | true=>
     rw [if_pos (by simp)]
     show (q4o _ 1 8).bind _=_
     rw [j4J,Option.bind_some]
     split
     ·rw [hc,Option.bind_some,z5H,hl]; simp
     ·simp
   | true=>
    rw [if_pos (by simp)]
    show (q4o _ 1 8).bind _=_
    rw [j4J,Option.bind_some]
    by_cases h8:n+1≤8
    ·rw [if_pos (by simp; omega),hc,Option.bind_some,z5H,hl]
     simp [j9e,h8]
    ·rw [if_neg (by simp; omega)]; simp [h8]
 ·have hs:s.size=0:=by omega
  unfold q7v
  rw [hs,allN,if_pos rfl,q9E,j4J,Option.bind_some]
  simp
theorem q9y (s:ByteArray):q4t s=some (q7v s):=by
 unfold q4t z3V
 rw [z5I (c:=false) (q:=fun k=>lowB (chr s k)||(decide (k≠0)&&digB (chr s k))) fun k hk=>by
  rw [Nat.zero_add]
  unfold z7d
  rw [z9V hk,Option.bind_some]
  have e1:(if 97≤((chr s k).toNat:Int) then some (decide (((chr s k).toNat:Int)≤122)) else some false)=some (lowB (chr s k)):=by
   unfold lowB; by_cases h:97≤((chr s k).toNat:Int)<;>simp [h]
  have e2:(if 48≤((chr s k).toNat:Int) then some (decide (((chr s k).toNat:Int)≤57)) else some false)=some (digB (chr s k)):=by
   unfold digB; by_cases h:48≤((chr s k).toNat:Int)<;>simp [h]
  rw [e1,e2,Option.bind_some,Option.bind_some]
  cases lowB (chr s k) with
  | true=>rfl
  | false=>
   by_cases hk0:k=0
   ·subst hk0; simp
   ·have:¬ ((k:Int)=0):=by omega
    rw [if_neg (by simp),if_neg this]
    cases digB (chr s k)<;>simp [hk0]]
 rw [Option.bind_some]
 by_cases h0:0 < s.size
 ·obtain⟨n,hn⟩:∃ n,s.size=n+1:=⟨s.size - 1,by omega⟩
  unfold q7v
  rw [hn,allN,Nat.add_sub_cancel,Nat.zero_add,z9b (n:=n) (i:=1) (q:=fun k=>lowB (chr s k)||(decide (k≠0)&&digB (chr s k))) (r:=fun k=>lowB (chr s k)||digB (chr s k)) fun k hk=>by simp [show k≠0 by omega]]
  have e0:(lowB (chr s 0)||(decide ((0:Nat)≠0)&&digB (chr s 0)))=lowB (chr s 0):=by simp
  rw [e0]
  cases hA:(lowB (chr s 0)&&allN (fun k=>lowB (chr s k)||digB (chr s k)) 1 n) with
  | false=>simp [onr]
  | true=>
   rw [if_pos rfl]
   simp only [onr,Option.bind_some]
   by_cases h8:n+1≤8
   ·simp [j9d,h8]; omega
   ·simp [h8]; omega
 ·have hs:s.size=0:=by omega
  unfold q7v
  rw [hs]
  simp [onr,allN]
end Go.Proofs.YtibagkppfnjgcaaGreat
namespace Go.Proofs.YtibagkppfnjgcaaGreat
open Go Go.E
def satI (v:Int):Int:=if (-1000000:Int) > (if (1000000:Int) < v then (1000000:Int) else v) then (-1000000:Int) else (if (1000000:Int) < v then (1000000:Int) else v)
def truI (b:Bool):Int:=if b=true then 1 else 0
def j5S (v k:Int):Int:=if k=1 then satI v else if k=2 then z4L v 4095 else if k=3 then truI (!decide (v=0)) else if k=4 then (if 0≤v∧v≤999 then v else 0) else 0
theorem j9f (v:Int):z2y v=some (satI v):=rfl
theorem j9g (a b:Int):z4Q a b=some (if b < a then b else a):=by
 unfold z4Q
 by_cases h:a < b
 ·rw [if_pos h,if_neg (by omega)]
 ·rw [if_neg h]
  split
  ·rfl
  ·congr 1; omega
theorem j9h (v:Int):z0X v=some (satI v):=by
 unfold z0X
 rw [j9g,Option.bind_some,j5O,Option.bind_some]
 congr 1
 unfold satI
 split<;>split<;>(try split)<;>(try split)<;>omega
theorem j9i (b:Bool):z7p b=some (truI b):=by unfold z7p truI; cases b<;>rfl
theorem j7o (b:Bool):z1X b=some (truI b):=by unfold z1X truI; cases b<;>rfl
theorem j7p (v k:Int):z3p v k=some (j5S v k):=by
 unfold z3p j5S
 rw [j9f,j9i,j4J]
 by_cases h1:k=1
 ·rw [if_pos h1,if_pos h1]; rfl
 by_cases h2:k=2
 ·rw [if_neg h1,if_neg h1,if_pos h2,if_pos h2]
 by_cases h3:k=3
 ·rw [if_neg h1,if_neg h1,if_neg h2,if_neg h2,if_pos h3,if_pos h3]; rfl
 by_cases h4:k=4
 ·rw [if_neg h1,if_neg h1,if_neg h2,if_neg h2,if_neg h3,if_neg h3,if_pos h4,if_pos h4,Option.bind_some]
  by_cases h:0≤v∧v≤999<;>simp [h]
 ·rw [if_neg h1,if_neg h1,if_neg h2,if_neg h2,if_neg h3,if_neg h3,if_neg h4,if_neg h4]
theorem j7q (v k:Int):z3f v k=some (j5S v k):=by
 unfold z3f j5S
 rw [j9h,j7o,z9U]
 by_cases h1:k=1
 ·rw [if_pos h1,if_pos h1]; rfl
 by_cases h2:k=2
 ·rw [if_neg h1,if_neg h1,if_pos h2,if_pos h2]
 by_cases h3:k=3
 ·rw [if_neg h1,if_neg h1,if_neg h2,if_neg h2,if_pos h3,if_pos h3]; rfl
 by_cases h4:k=4
 ·rw [if_neg h1,if_neg h1,if_neg h2,if_neg h2,if_neg h3,if_neg h3,if_pos h4,if_pos h4,Option.bind_some]
  by_cases h:0≤v∧v≤999<;>simp [h]
 ·rw [if_neg h1,if_neg h1,if_neg h2,if_neg h2,if_neg h3,if_neg h3,if_neg h4,if_neg h4]
def z9W (v k:Int):Bool:=decide (1≤k∧k≤4)&&decide (j5S v k=v)
theorem j7r (v k:Int):z1a v k=some (z9W v k):=by
 unfold z1a z2e z9W
 rw [j4J,Option.bind_some,Option.bind_some,j7p,Option.bind_some]
 by_cases h:1≤k∧k≤4<;>simp [h]
theorem j7s (v k:Int):z0Y v k=some (z9W v k):=by
 unfold z0Y z9W
 rw [z9U,Option.bind_some,j7q,Option.bind_some]
 by_cases h:1≤k∧k≤4<;>simp [h]
def opT (n:Int):Int × Int × Int:=
 if 1≤n∧n≤5 then (1,1,1) else if 6≤n∧n≤8 then (2,2,2) else if n=9∨n=10 then (1,1,3) else if n=11 then (2,1,3) else if n=12 then (2,1,2) else (0,0,0)
theorem j9Z {n a b c d e:Int}:(if n=a then some (decide (n=a)) else if n=b then some (decide (n=b)) else if n=c then some (decide (n=c)) else if n=d then some (decide (n=d)) else some (decide (n=e)))=some (decide (n=a∨n=b∨n=c∨n=d∨n=e)):=by
 by_cases h1:n=a
 ·simp [h1]
 by_cases h2:n=b
 ·simp [h1,h2]
 by_cases h3:n=c
 ·rw [if_neg h1,if_neg h2,if_pos h3]; simp [h3]
 by_cases h4:n=d
 ·rw [if_neg h1,if_neg h2,if_neg h3,if_pos h4]; simp [h4]
 ·simp [h1,h2,h3,h4]
theorem k0a {n a b c:Int}:(if n=a then some (decide (n=a)) else if n=b then some (decide (n=b)) else some (decide (n=c)))=some (decide (n=a∨n=b∨n=c)):=by
 by_cases h1:n=a
 ·simp [h1]
 by_cases h2:n=b
 ·simp [h1,h2]
 ·simp [h1,h2]
theorem j9j (n:Int):q7Y n=some (opT n):=by
 unfold q7Y opT
 rw [j9Z,k0a]
 simp only [Option.bind_some]
 by_cases h1:1≤n∧n≤5
 ·rw [if_pos (by simp; omega),if_pos h1]
 rw [if_neg (by simp; omega),if_neg h1]
 by_cases h2:6≤n∧n≤8
 ·rw [if_pos (by simp; omega),if_pos h2]
 rw [if_neg (by simp; omega),if_neg h2]
 by_cases h3:n=9
 ·simp [h3]
 by_cases h3' : n=10
 ·simp [h3']
 by_cases h4:n=11
 ·simp [h4]
 by_cases h5:n=12
 ·simp [h5]
 simp [h3,h3',h4,h5]
theorem j9k (n:Int):q4z n=some (opT n):=by
 unfold q4z opT
 rw [z9U,z9U]
 simp only [Option.bind_some]
 by_cases h1:1≤n∧n≤5
 ·rw [if_pos (by simpa using h1),if_pos h1]
 rw [if_neg (by simpa using h1),if_neg h1]
 by_cases h2:6≤n∧n≤8
 ·rw [if_pos (by simpa using h2),if_pos h2]
 rw [if_neg (by simpa using h2),if_neg h2]
 by_cases h3:n=9
 ·rw [if_pos h3,if_pos (.inl h3)]
 rw [if_neg h3]
 by_cases h3' : n=10
 ·rw [if_pos h3',if_pos (.inr h3')]
 have h33:¬(n=9∨n=10):=by omega
 rw [if_neg h3',if_neg h33]
 by_cases h4:n=11
 ·rw [if_pos h4,if_pos h4]
 rw [if_neg h4,if_neg h4]
 by_cases h5:n=12
 ·rw [if_pos h5,if_pos h5]
 rw [if_neg h5,if_neg h5]
end Go.Proofs.YtibagkppfnjgcaaGreat
namespace Go.Proofs.YtibagkppfnjgcaaGreat
open Go Go.E
theorem j9l (a b:Expr):q5M a b=some (decide (a.Kind=b.Kind)&&(decide (a.N=b.N)&&(decide (a.Pos=b.Pos)&&(decide (a.Type_=b.Type_)&&(decide (a.Symbol=b.Symbol)&&decide (a.Name=b.Name)))))):=by
 unfold q5M
 by_cases h1:a.Kind=b.Kind
 ·rw [if_pos h1,Option.bind_some]
  by_cases h2:a.N=b.N
  ·by_cases h3:a.Pos=b.Pos
   ·by_cases h4:a.Type_=b.Type_
    ·by_cases h5:a.Symbol=b.Symbol
     ·simp [h1,h2,h3,h4,h5]
     ·simp [h1,h2,h3,h4,h5]
    ·simp [h1,h2,h3,h4]
   ·simp [h1,h2,h3]
  ·simp [h1,h2]
 ·simp [h1]
def j5T (k:Int):Int:=if k=4 then 2 else if k=5 then 3 else if k=8 then 1 else 0
def j5U (e:Expr):Bool:=decide ((e.Args.length:Int)=j5T e.Kind)&&((decide (e.Kind=3∨e.Kind=6)||decide (e.Pos=0))&&((decide (e.Kind=3∨e.Kind=8)||decide (e.Name=⟨#[]⟩))&&((decide (e.Kind=1∨e.Kind=4)||decide (e.N=0))&&((decide (e.Kind=1)||decide (e.Type_=0))&&(decide (e.Kind=8)||decide (e.Symbol=⟨#[]⟩))))))
theorem j9m (e:Expr):z3e e=some (j5U e):=by
 unfold z3e
 have h0:(if e.Kind=4 then some 2 else if e.Kind=5 then some 3 else if e.Kind=8 then some 1 else some (0:Int))=some (j5T e.Kind):=by
  unfold j5T
  split
  ·rfl
  ·split
   ·rfl
   ·split<;>rfl
 have or2:∀ a b:Prop,[Decidable a]→[Decidable b]→(if a then some true else some (decide b))=some (decide (a∨b)):=fun a b _ _=>by
  by_cases h:a<;>simp [h]
 have or1:∀ (a:Prop) (b:Bool),[Decidable a]→(if a then some true else some b)=some (decide a||b):=fun a b _=>by
  by_cases h:a<;>simp [h]
 have orB:∀ a b:Bool,(if a=true then some true else some b)=some (a||b):=fun a b=>by cases a<;>rfl
 have andB:∀ a b:Bool,(if a=true then some b else some false)=some (a&&b):=fun a b=>by cases a<;>rfl
 rw [h0,Option.bind_some]
 unfold j5U
 by_cases hl:(e.Args.length:Int)=j5T e.Kind
 ·rw [if_pos hl]
  simp only [or2,or1,orB,andB,Option.bind_some]
  simp [hl,Bool.and_assoc]
 ·rw [if_neg hl]; simp [hl]
def j9n (e:Expr):Bool:=
 if e.Kind=1 then (decide (1≤e.Type_∧e.Type_≤3)&&z9W e.N e.Type_)&&decide (0≤e.N)
 else if e.Kind=3 then decide (0≤e.Pos∧e.Pos≤3)&&q7v e.Name
 else if e.Kind=6 then decide (0≤e.Pos∧e.Pos≤3)
 else if e.Kind=4 then decide (1≤e.N∧e.N≤12)
 else if e.Kind=8 then q7v e.Symbol&&q7v e.Name
 else true
def z3G (e:Expr):Bool:=(decide (1≤e.Kind∧e.Kind≤8)&&j5U e)&&j9n e
theorem j7t (e:Expr):z3g e=some (z3G e):=by
 unfold z3g z3G
 rw [z9U,Option.bind_some,j9m,Option.bind_some]
 by_cases hk:1≤e.Kind∧e.Kind≤8
 ·rw [if_pos (by simpa using hk),Option.bind_some]
  cases j5U e with
  | false=>simp
  | true=>
   rw [if_neg (by simp)]
   unfold j9n
   by_cases k1:e.Kind=1
   ·rw [if_pos k1,if_pos k1,z9U,Option.bind_some,j7s,Option.bind_some]
    by_cases h:1≤e.Type_∧e.Type_≤3
    ·cases z9W e.N e.Type_<;>simp [h,hk]
    ·simp [h,hk]
   rw [if_neg k1,if_neg k1]
   by_cases k3:e.Kind=3
   ·rw [if_pos k3,if_pos k3,z9U,Option.bind_some,q9y]
    by_cases h:0≤e.Pos∧e.Pos≤3
    ·simp [h,hk]
    ·simp [h,hk]
   rw [if_neg k3,if_neg k3]
   by_cases k6:e.Kind=6
   ·rw [if_pos k6,if_pos k6,z9U]; simp [hk]
   rw [if_neg k6,if_neg k6]
   by_cases k4:e.Kind=4
   ·rw [if_pos k4,if_pos k4,z9U]; simp [hk]
   rw [if_neg k4,if_neg k4]
   by_cases k8:e.Kind=8
   ·rw [if_pos k8,if_pos k8,q9y,Option.bind_some,q9y]
    cases q7v e.Symbol<;>simp [hk]
   rw [if_neg k8,if_neg k8]; simp [hk]
 ·rw [if_neg (by simpa using hk)]; simp [hk]
theorem j7u (e:Expr):q9b e=some (z3G e):=by
 unfold q9b z3G j5U j9n j5T
 simp only [j9l,j4J,j7r,z0G,Option.bind_some]
 have hp3:e.Pos=0→(0≤e.Pos∧e.Pos≤3):=fun h=>by omega
 by_cases k1:e.Kind=1
 ·simp [k1]
  have ht:z9W e.N e.Type_=true→1≤e.Type_∧e.Type_≤4:=fun h=>by
   unfold z9W at h; simp at h; exact h.1
  cases hb:z9W e.N e.Type_ with
  | false=>by_cases h4:e.Type_=4<;>simp [h4]
  | true=>
   obtain⟨t1,t2⟩:=ht hb
   by_cases h4:e.Type_=4
   ·simp [h4]
   ·by_cases hn:e.N < 0
    ·have:¬ 0≤e.N:=by omega
     simp [h4,hn,this]
    ·have h0:0≤e.N:=by omega
     have h3:e.Type_≤3:=by omega
     by_cases a:e.Args=[]
     ·by_cases p:e.Pos=0
      ·simp [h4,hn,h0,h3,t1,a,p,Bool.and_comm]
      ·simp [h4,hn,h0,h3,t1,a,p]
     ·simp [h4,hn,h0,h3,t1,a]
 by_cases k3:e.Kind=3
 ·simp [k1,k3]
  cases q7v e.Name with
  | false=>simp
  | true=>
   by_cases a:e.Args=[]
   ·by_cases p:0≤e.Pos∧e.Pos≤3
    ·simp [a,p]
    ·have:(decide (0≤e.Pos)&&decide (e.Pos≤3))=false:=by simp; omega
     simp [a,this]
   ·simp [a]
 by_cases k4:e.Kind=4
 ·simp [k1,k3,k4]
  by_cases n:1≤e.N∧e.N≤12
  ·by_cases a:(e.Args.length:Int)=2
   ·by_cases p:e.Pos=0
    ·simp [n,a,p]; cases decide (e.Type_=0)<;>cases decide (e.Symbol=⟨#[]⟩)<;>cases decide (e.Name=⟨#[]⟩)<;>rfl
    ·simp [n,a,p]
   ·simp [n,a]
  ·have:(decide (1≤e.N)&&decide (e.N≤12))=false:=by simp; omega
   rw [if_neg n,this]; simp
 have close3:∀ c:Bool,((if c=true then some (decide (0≤e.Pos)&&decide (e.Pos≤3)) else some false).bind fun s9=>
   if s9=true then some (decide (e.N=0)&&(decide (e.Pos=0)&&(decide (e.Type_=0)&&(decide (e.Symbol=⟨#[]⟩)&&decide (e.Name=⟨#[]⟩))))) else some false) =
  some (c&&(decide (e.Pos=0)&&(decide (e.Name=⟨#[]⟩)&&(decide (e.N=0)&&(decide (e.Type_=0)&&decide (e.Symbol=⟨#[]⟩)))))):=fun c=>by
  cases c with
  | false=>simp
  | true=>
   by_cases p:e.Pos=0
   ·simp [p]; cases decide (e.N=0)<;>cases decide (e.Type_=0)<;>cases decide (e.Symbol=⟨#[]⟩)<;>cases decide (e.Name=⟨#[]⟩)<;>rfl
   ·simp [p]
 by_cases k5:e.Kind=5
 ·simp [k1,k3,k4,k5]
  simpa using close3 (decide ((e.Args.length:Int)=3))
 by_cases k6:e.Kind=6
 ·simp [k1,k3,k4,k5,k6]
  by_cases a:e.Args=[]
  ·by_cases p:0≤e.Pos∧e.Pos≤3
   ·simp [a,p]; cases decide (e.N=0)<;>cases decide (e.Type_=0)<;>cases decide (e.Symbol=⟨#[]⟩)<;>cases decide (e.Name=⟨#[]⟩)<;>rfl
   ·have:(decide (0≤e.Pos)&&decide (e.Pos≤3))=false:=by simp; omega
    simp [a,this]
  ·simp [a]
 by_cases k8:e.Kind=8
 ·simp [k1,k3,k4,k5,k6,k8]
  cases q7v e.Symbol with
  | false=>simp
  | true=>
   cases q7v e.Name with
   | false=>simp
   | true=>
    by_cases a:(e.Args.length:Int)=1
    ·by_cases p:e.Pos=0
     ·simp [a,p]
     ·simp [a,p]
    ·simp [a]
 by_cases k2:e.Kind=2
 ·simp [k1,k3,k4,k5,k6,k8,k2]
  simpa using close3 (decide (e.Args=[]))
 by_cases k7:e.Kind=7
 ·simp [k1,k3,k4,k5,k6,k8,k2,k7]
  simpa using close3 (decide (e.Args=[]))
 ·simp [k1,k3,k4,k5,k6,k8,k2,k7]
  intro h1 h2; omega
end Go.Proofs.YtibagkppfnjgcaaGreat
namespace Go.Proofs.YtibagkppfnjgcaaGreat
open Go Go.E
theorem j7v (e:Expr):∀ m,fuE e≤m→z4U m e=some (allE z3G e):=by
 induction e using q8m with
 | h e ih=>
  intro m hm
  obtain⟨m,rfl⟩:∃ q,m=q+1:=⟨m - 1,by have:=z1C e; omega⟩
  show z4T (z4U m) e=_
  unfold z4T
  rw [q3O (c:=false) (q:=allE z3G) fun k x hx=>by
   unfold j0Z
   rw [ih x hx m (by have:=z1m hx; omega),Option.bind_some]
   cases allE z3G x<;>rfl]
  rw [z5F,Option.bind_some]
  cases e.Args.all (allE z3G) with
  | true=>rw [if_pos rfl,q9E,j7t,Bool.and_true]; rfl
  | false=>rw [if_neg (by simp),z6K,Bool.and_false]
theorem j9o (e:Expr):z9B e=some (allE z3G e):=q7j (fuE e) fun m hm=>j7v e m hm
theorem z7U {α:Type}(q:α→Bool)(l:List α):(!l.any fun x=>!q x)=l.all q:=by
 induction l with
 | nil=>rfl
 | cons x l ih=>simp [← ih]
theorem j7w (e:Expr):∀ m,fuE e≤m→q5i m e=some (allE z3G e):=by
 induction e using q8m with
 | h e ih=>
  intro m hm
  obtain⟨m,rfl⟩:∃ q,m=q+1:=⟨m - 1,by have:=z1C e; omega⟩
  show q5h (q5i m) e=_
  unfold q5h q3G q3K
  rw [j7u,Option.bind_some,z5F]
  cases z3G e with
  | false=>rfl
  | true=>
   rw [if_pos rfl,z7S (q:=fun x=>!allE z3G x) fun k x hx=>by
    unfold q4Y q5u
    rw [ih x hx m (by have:=z1m hx; omega),Option.bind_some,Option.bind_some]
    cases allE z3G x<;>rfl]
   rw [Bool.true_and,← z7U]
   cases e.Args.any fun x=>!allE z3G x with
   | true=>
    have:(0:Int)≤((0+e.Args.findIdx fun x=>!allE z3G x:Nat):Int):=Int.natCast_nonneg _
    rw [if_pos rfl,Option.bind_some,z6K,Option.bind_some,Option.bind_some,decide_eq_true this]
   | false=>rfl
theorem j9p (e:Expr):q6Y e=some (allE z3G e):=q7j (fuE e) fun m hm=>j7w e m hm
def z7V (e:Expr):Bool:=decide (cntE e≤24)&&(decide (depE e≤6)&&allE z3G e)
theorem j5V {e:Expr}(h:cntE e≤1099511627776):q8x e=some (z7V e):=by
 unfold q8x z7V
 rw [j5N h,Option.bind_some,j5P h,j9p]
 by_cases h1:cntE e≤24
 ·rw [if_pos (by omega),Option.bind_some,Option.bind_some]
  by_cases h2:depE e≤6
  ·rw [if_pos (by simp; omega),Option.bind_some]; simp [h1,h2]
  ·rw [if_neg (by simp; omega)]; simp [h1,h2]
 ·rw [if_neg (by omega)]; simp [h1]
theorem z5l {e:Expr}(h:cntE e≤1099511627776):q6M e=some (z7V e):=by
 unfold q6M z7V
 rw [j7k (by omega) (by omega) h,Option.bind_some,j5Q h,j9o]
 unfold z6s
 by_cases h1:cntE e≤24
 ·have h24:((cntE e:Nat):Int)≤24:=by omega
  rw [if_pos h24,if_pos (by omega:(0:Int)≤24 - ((cntE e:Nat):Int)),Option.bind_some,Option.bind_some]
  by_cases h2:depE e≤6
  ·rw [if_pos (by simp; omega),Option.bind_some]; simp [h1,h2]
  ·rw [if_neg (by simp; omega)]; simp [h1,h2]
 ·have h24:¬ ((cntE e:Nat):Int)≤24:=by omega
  rw [if_neg h24,if_neg (by omega:¬ (0:Int)≤-1)]; simp [h1]
end Go.Proofs.YtibagkppfnjgcaaGreat
namespace Go.Proofs.YtibagkppfnjgcaaGreat
open Go Go.E
theorem z6C {x m:Int}(h0:0≤m)(h1:m < 9223372036854775808):0≤z4L x m∧z4L x m≤m:=by
 unfold z4L
 have h2:(BitVec.ofInt 64 m).toNat=m.toNat:=by
  rw [BitVec.toNat_ofInt]
  have:m % ((2 ^ 64:Nat):Int)=m:=Int.emod_eq_of_lt h0 (by omega)
  rw [this]
 have h3:(BitVec.ofInt 64 x &&& BitVec.ofInt 64 m).toNat≤m.toNat:=by
  rw [BitVec.toNat_and,h2]; exact Nat.and_le_right
 rw [IntWalk.i64_in _ (by omega)]
 omega
def z9X (o:l1Cur):Prop:=0≤o.i∧o.b.length≤1048576
theorem j7x {a:List UInt8}(h:a.length≤1048576):∃ o,z3U a=some o∧z9X o∧o.b=a:=by
 have key:∀ (m j:Nat) (s:Int),j+m=a.length→∃ q,q5m (z1U a) (s,(j:Int))=some q:=by
  intro m
  induction m with
  | zero=>
   intro j s hj
   exact⟨s,q4u (by unfold z1U; dsimp only; rw [if_neg (by omega)])⟩
  | succ m ih=>
   intro j s hj
   by_cases hlt:(j:Int) < 4000
   ·obtain⟨x,hx⟩:∃ x,a[j]? = some x:=⟨_,List.getElem?_eq_getElem (by omega)⟩
    obtain⟨q,hq⟩:=ih (j+1) (z4L (IntKind.i64.wrap ((IntKind.i64.wrap ((IntKind.i64.wrap (s*131))+(x.toNat:Int)))+7)) 1073741823) (by omega)
    refine⟨q,(q4U ?_).trans hq⟩
    have hw:IntKind.i64.wrap ((j:Int)+1)=((j+1:Nat):Int):=by rw [IntWalk.i64_in _ (by omega)]; rfl
    unfold z1U
    dsimp only
    rw [if_pos (by omega),if_pos hlt,q3o (by omega),Int.toNat_natCast,hx,Option.bind_some,hw]
   ·exact⟨s,q4u (by unfold z1U; dsimp only; rw [if_pos (by omega),if_neg hlt])⟩
 obtain⟨q,hq⟩:=key a.length 0 (IntKind.i64.wrap (26583+(a.length:Int))) (by omega)
 have hq' : q5m (z1U a) ((IntKind.i64.wrap (26583+(a.length:Int))),0)=some q:=hq
 refine⟨⟨a,0,q⟩,?_,⟨Int.le_refl _,h⟩,rfl⟩
 unfold z3U
 rw [hq',Option.bind_some]
theorem z3H {o:l1Cur}(h:z9X o):∃ y z,q8V o=some (y,z)∧0≤y∧y≤255∧z9X z∧z.b=o.b:=by
 obtain⟨h0,h1⟩:=h
 unfold q8V
 by_cases hi:o.i < (o.b.length:Int)
 ·obtain⟨x,hx⟩:∃ x,o.b[o.i.toNat]? = some x:=⟨_,List.getElem?_eq_getElem (by omega)⟩
  rw [if_pos hi,q3o h0,hx,Option.bind_some]
  refine⟨_,_,rfl,(z6C (by omega) (by omega)).1,(z6C (by omega) (by omega)).2,⟨?_,h1⟩,rfl⟩
  show 0≤IntKind.i64.wrap (o.i+1)
  rw [IntWalk.i64_in _ (by omega)]; omega
 ·rw [if_neg hi]
  exact⟨_,_,rfl,(z6C (by omega) (by omega)).1,(z6C (by omega) (by omega)).2,⟨h0,h1⟩,rfl⟩
theorem j5W {y n:Int}(hy:0≤y)(hn:0 < n):0≤y.tmod n∧y.tmod n < n:=by
 rw [Int.tmod_eq_emod_of_nonneg hy]
 exact⟨Int.emod_nonneg _ (by omega),Int.emod_lt_of_pos _ hn⟩
theorem z9c {o:l1Cur}(h:z9X o)(n:Int):∃ y z,q3q n o=some (y,z)∧0≤y∧(0 < n→y < n)∧(n≤0→y=0)∧z9X z∧z.b=o.b:=by
 unfold q3q
 by_cases hn:n≤0
 ·rw [if_pos hn]; exact⟨0,o,rfl,Int.le_refl _,fun h=>absurd h (by omega),fun _=>rfl,h,rfl⟩
 ·rw [if_neg hn]
  by_cases h2:n≤256
  ·obtain⟨y,z,h3,h4,h5,h6,h7⟩:=z3H h
   rw [if_pos h2,h3,Option.bind_some]
   dsimp only
   rw [q3o (by omega)]
   have:=j5W h4 (show 0 < n by omega)
   exact⟨_,_,rfl,this.1,fun _=>this.2,fun h=>absurd h hn,⟨h6.1,h.2⟩,rfl⟩
  ·obtain⟨y1,z1,a1,a2,a3,a4,a5⟩:=z3H h
   obtain⟨y2,z2,b1,b2,b3,b4,b5⟩:=z3H (o:=⟨o.b,z1.i,z1.h⟩) ⟨a4.1,h.2⟩
   obtain⟨y3,z3,c1,c2,c3,c4,c5⟩:=z3H (o:=⟨o.b,z2.i,z2.h⟩) ⟨b4.1,h.2⟩
   obtain⟨y4,z4,d1,d2,d3,d4,d5⟩:=z3H (o:=⟨o.b,z3.i,z3.h⟩) ⟨c4.1,h.2⟩
   rw [if_neg h2,a1,Option.bind_some]
   dsimp only
   rw [b1,Option.bind_some]
   dsimp only
   rw [c1,Option.bind_some]
   dsimp only
   rw [d1,Option.bind_some]
   dsimp only
   rw [q3o (by constructor<;>omega),q3o (by constructor<;>omega),q3o (by constructor<;>omega),q3o (by constructor<;>omega),q3o (by constructor<;>omega),q3o (by constructor<;>omega),q3o (by omega)]
   have:=j5W (y:=y1*16777216+y2*65536+y3*256+y4) (by omega) (show 0 < n by omega)
   exact⟨_,_,rfl,this.1,fun _=>this.2,fun h=>absurd h hn,⟨d4.1,h.2⟩,rfl⟩
theorem j1o {o:l1Cur}(h:z9X o){l:List Int}(hl:l≠[]):∃ y z,q4I l o=some (y,z)∧y∈l∧z9X z∧z.b=o.b:=by
 have hpos:=List.length_pos_iff.2 hl
 obtain⟨y,z,h1,h2,h3,_,h5,h6⟩:=z9c h (l.length:Int)
 have:=h3 (by omega)
 obtain⟨x,hx⟩:∃ x,l[y.toNat]? = some x:=⟨_,List.getElem?_eq_getElem (by omega)⟩
 unfold q4I
 rw [h1,Option.bind_some]
 dsimp only
 rw [q3o h2,hx,Option.bind_some]
 exact⟨_,_,rfl,List.mem_of_getElem? hx,⟨h5.1,h.2⟩,rfl⟩
end Go.Proofs.YtibagkppfnjgcaaGreat
namespace Go.Proofs.YtibagkppfnjgcaaGreat
open Go Go.E
theorem j5X {ρ:Type}{g:Nat→Option ρ}(hm:∀ n r,g n=some r→g (n+1)=some r){n:Nat}{r:ρ}(h:g n=some r):recO g=some r:=by
 have up:∀ (k n:Nat) (r:ρ),g n=some r→g (n+k)=some r:=by
  intro k
  induction k with
  | zero=>intro n r h; exact h
  | succ k ih=>intro n r h; exact hm _ _ (ih n r h)
 refine q7j n fun m hm=>?_
 have h1:=up (m - n) n r h
 rwa [show n+(m - n)=m by omega] at h1
theorem z5J {α σ:Type}{f g:Nat→α→σ→Option σ}(h:∀ k x s q,f k x s=some q→g k x s=some q):∀ (xs:List α) (i:Nat) (s q:σ),eachL f i xs s=some q→eachL g i xs s=some q
 | [],i,s,q,hq=>hq
 | x :: xs,i,s,q,hq=>by
  simp only [eachL] at hq ⊢
  obtain⟨t,h1,h2⟩:=bd hq
  rw [h _ _ _ _ h1]
  exact z5J h xs _ _ _ h2
theorem j1p (a b:Occurrence):z1i a b=some (z0T a b):=by
 unfold z1i z0T
 by_cases h1:a.Pos < b.Pos
 ·simp [h1]
 ·by_cases h2:a.Pos=b.Pos
  ·simp [h2]
  ·simp [h1,h2]
abbrev z3I (l:List Occurrence):Prop:=l.Pairwise fun a b=>z0T a b=true
theorem j7y {l:List Occurrence}{o:Occurrence}(hl:l.length≤4398046511104):∀ (m j:Nat),j+m=l.length→(∀ a∈l.take j,z0T a o=true) →
  ∃ k:Nat,q5m (z1j l o) (j:Int)=some ((k:Nat):Int)∧k≤l.length∧(∀ a∈l.take k,z0T a o=true)∧∀ y,l[k]? = some y→z0T y o=false:=by
 intro m
 induction m with
 | zero=>
  intro j hj ha
  refine⟨j,q4u ?_,by omega,ha,fun y hy=>?_⟩
  ·unfold z1j; rw [if_neg (by omega)]
  ·rw [List.getElem?_eq_none (by omega)] at hy; cases hy
 | succ m ih=>
  intro j hj ha
  obtain⟨x,hx⟩:∃ x,l[j]? = some x:=⟨_,List.getElem?_eq_getElem (by omega)⟩
  cases hb:z0T x o with
  | false=>
   refine⟨j,q4u ?_,by omega,ha,fun y hy=>?_⟩
   ·unfold z1j
    rw [if_pos (by omega),q3o (by omega)]
    simp only [Int.toNat_natCast]
    rw [hx,Option.bind_some,j1p,Option.bind_some,if_neg (by rw [hb]; simp)]
   ·rw [hx] at hy; cases hy; exact hb
  | true=>
   have e:z1j l o (j:Int)=some (.inl ((j+1:Nat):Int)):=by
    unfold z1j
    rw [if_pos (by omega),q3o (by omega)]
    simp only [Int.toNat_natCast]
    rw [hx,Option.bind_some,j1p,Option.bind_some,if_pos hb,q3o (by constructor<;>omega)]; rfl
   rw [q4U e]
   refine ih (j+1) (by omega) fun a h=>?_
   rw [List.take_add_one,hx] at h
   rcases List.mem_append.1 h with h | h
   ·exact ha a h
   ·simp at h; rw [h]; exact hb
theorem j5Y {l:List Occurrence}{o:Occurrence}(hl:l.length < 4398046511104)(hs:z3I l):∃ q,z5c l o=some q∧z3I q∧(∀ a,a∈q↔a=o∨a∈l)∧q.length≤l.length+1:=by
 obtain⟨k,h1,h2,h3,h4⟩:=j7y (l:=l) (o:=o) (by omega) l.length 0 (by omega) (by simp)
 have h1' : q5m (z1j l o) 0=some ((k:Nat):Int):=h1
 have hput:∀ (hne:∀ y,l[k]? = some y→y≠o),z3I (l.take k++[o]++l.drop k)∧(∀ a,a∈l.take k++[o]++l.drop k↔a=o∨a∈l)∧(l.take k++[o]++l.drop k).length≤l.length+1:=fun hne=>by
  refine⟨?_,fun a=>?_,by simp; omega⟩
  ·have:=j4F (lt:=z0T) lessO_swo.trans z4q (k:=k) hs h3 fun y hy=>⟨h4 y hy,hne y hy⟩
   simpa using this
  ·have:a∈l↔a∈l.take k∨a∈l.drop k:=by rw [← List.mem_append,List.take_append_drop]
   rw [this]
   simp only [List.mem_append,List.mem_singleton]
   constructor
   ·rintro ((h | h) | h)<;>simp [h]
   ·rintro (h | h | h)<;>simp [h]
 unfold z5c
 rw [h1',Option.bind_some]
 by_cases hk:k < l.length
 ·obtain⟨x,hx⟩:∃ x,l[k]? = some x:=⟨_,List.getElem?_eq_getElem hk⟩
  rw [if_pos (by omega),q3o (by omega)]
  simp only [Int.toNat_natCast]
  rw [hx,Option.bind_some]
  by_cases hxo:x=o
  ·rw [if_pos hxo]
   refine⟨l,rfl,hs,fun a=>?_,by omega⟩
   have:=List.mem_of_getElem? hx
   constructor
   ·exact .inr
   ·rintro (h | h)
    ·rw [h,← hxo]; exact this
    ·exact h
  ·rw [if_neg hxo,q3o (by omega),q3o (by omega),q3o (by simp; omega),q3o (by simp; omega),q3o (by omega),q3o (by omega),q3o (by simp; omega)]
   exact⟨_,rfl,hput fun y hy=>by rw [hx] at hy; cases hy; exact hxo⟩
 ·rw [if_neg (by omega)]
  simp only [Int.toNat_natCast]
  rw [q3o (by omega),q3o (by omega),q3o (by simp; omega),q3o (by simp; omega),q3o (by omega),q3o (by omega),q3o (by simp; omega)]
  exact⟨_,rfl,hput fun y hy=>by rw [List.getElem?_eq_none (by omega)] at hy; cases hy⟩
theorem j9q:∀ (n:Nat) (e:Expr) (l q:List Occurrence),q6K n e l=some q→q6K (n+1) e l=some q:=by
 intro n
 induction n with
 | zero=>intro e l q h; cases h
 | succ n ih=>
  intro e l q h
  have h' : z0r (q6K n) e l=some q:=h
  show z0r (q6K (n+1)) e l=some q
  have m1:∀ (xs:List Expr) (i:Nat) (s q:List Occurrence),eachL (z0O (q6K n)) i xs s=some q→eachL (z0O (q6K (n+1))) i xs s=some q:=z5J fun k x s q hq=>by
   unfold z0O at hq ⊢
   obtain⟨y,h3,h4⟩:=bd hq
   rw [ih _ _ _ h3]; exact h4
  unfold z0r at h' ⊢
  by_cases hk:e.Kind=3
  ·rw [if_pos hk] at h' ⊢
   obtain⟨y,h1,h2⟩:=bd h'
   obtain⟨s,h3,h4⟩:=bd h2
   rw [h1,Option.bind_some,m1 _ _ _ _ h3]; exact h4
  ·rw [if_neg hk] at h' ⊢
   obtain⟨s,h3,h4⟩:=bd h'
   have m2:eachL (z5B (q6K (n+1))) 0 e.Args l=some s:=m1 _ _ _ _ h3
   rw [m2]; exact h4
theorem j4L:∀ (m:Nat) (e:Expr) (l:List Occurrence),fuE e≤m→z3I l→l.length+(z2F e).length≤1099511627776 →
  ∃ q,q6K m e l=some q∧z3I q∧(∀ a,a∈q↔a∈l∨a∈z2F e)∧q.length≤l.length+(z2F e).length:=by
 intro m
 induction m with
 | zero=>intro e l h; rw [z4n] at h; omega
 | succ m ih=>
  intro e l h hs hb
  rw [z4n] at h
  rw [z1B,List.length_append] at hb
  have hl:∀ (xs:List Expr) (i:Nat) (s:List Occurrence),fuEs xs≤m→z3I s→s.length+(q8E xs).length≤1099511627776 →
    ∃ q,eachL (z0O (q6K m)) i xs s=some q∧z3I q∧(∀ a,a∈q↔a∈s∨a∈q8E xs)∧q.length≤s.length+(q8E xs).length:=by
   intro xs
   induction xs with
   | nil=>intro i s _ hs _; exact⟨s,rfl,hs,by simp [q8E],by omega⟩
   | cons x xs ihl=>
    intro i s hf hs hb
    simp only [fuEs] at hf
    simp only [q8E,List.length_append] at hb
    obtain⟨q,h1,h2,h3,h4⟩:=ih x s (by omega) hs (by omega)
    obtain⟨q2,k1,k2,k3,k4⟩:=ihl (i+1) q (by omega) h2 (by omega)
    refine⟨q2,?_,k2,fun a=>?_,by simp only [q8E,List.length_append]; omega⟩
    ·simp only [eachL,z0O,h1,Option.bind_some]; exact k1
    ·rw [k3,h3,q8E,List.mem_append,or_assoc]
  show ∃ q,z0r (q6K m) e l=some q∧_
  unfold z0r
  by_cases hk:e.Kind=3
  ·rw [if_pos hk] at hb ⊢
   simp only [List.length_cons,List.length_nil] at hb
   obtain⟨y,h1,h2,h3,h4⟩:=j5Y (l:=l) (o:=⟨e.Pos,e.Name⟩) (by omega) hs
   obtain⟨q,k1,k2,k3,k4⟩:=hl e.Args 0 y (by omega) h2 (by omega)
   refine⟨q,?_,k2,fun a=>?_,?_⟩
   ·rw [h1,Option.bind_some,k1]; rfl
   ·rw [k3,h3,z1B,if_pos hk,List.mem_append,List.mem_singleton]
    constructor
    ·rintro ((h | h) | h)<;>simp [h]
    ·rintro (h | h | h)<;>simp [h]
   ·rw [z1B,if_pos hk]; simp; omega
  ·rw [if_neg hk] at hb ⊢
   simp only [List.length_nil] at hb
   obtain⟨q,k1,k2,k3,k4⟩:=hl e.Args 0 l (by omega) hs (by omega)
   have k1' : eachL (z5B (q6K m)) 0 e.Args l=some q:=k1
   refine⟨q,?_,k2,fun a=>?_,?_⟩
   ·rw [k1']; rfl
   ·rw [k3,z1B,if_neg hk]; simp
   ·rw [z1B,if_neg hk]; simpa using k4
theorem j1q (e:Expr):z3I (z5j e):=by
 refine z3F lessO_swo.trans z4q ?_
 have h:=List.pairwise_mergeSort (le:=fun x y=>!z0T y x) (fun a b c h1 h2=>by
  simp only [Bool.not_eq_true'] at h1 h2 ⊢
  exact lessO_swo.ntrans _ _ _ h2 h1) (fun a b=>by
  cases h:z0T a b with
  | false=>simp [h]
  | true=>
   cases h2:z0T b a with
   | false=>simp
   | true=>have:=lessO_swo.trans _ _ _ h h2; rw [lessO_swo.irrefl] at this; cases this) (z2F e)
 unfold j2e
 exact h.imp fun {a b} h=>by simpa using h
theorem j7z {e:Expr}(h:Sz.szd e≤1048576):q7F e=some (z5j e):=by
 have hl:=j5J h
 obtain⟨q,h1,h2,h3,h4⟩:=j4L _ e [] (Nat.le_refl _) List.Pairwise.nil (by simp; omega)
 have hq:q=z5j e:=z8Y (lt:=z0T) lessO_swo.irrefl lessO_swo.trans h2 (j1q e) fun a=>by rw [h3,z7R]; simp
 subst hq
 have hr:z7K e []=some (z5j e):=j5X (fun n q=>j9q n e [] q) h1
 unfold q7F
 rw [hr]; rfl
end Go.Proofs.YtibagkppfnjgcaaGreat
namespace Go.Proofs.YtibagkppfnjgcaaGreat
open Go Go.E
def Ok {ρ:Type}(Q:ρ→Prop)(o:Option ρ):Prop:=∃ r,o=some r∧Q r
section
variable {ρ τ σ α:Type}{Q:ρ→Prop}{R:τ→Prop}
theorem Ok.ret {r:ρ}(h:Q r):Ok Q (some r):=⟨r,rfl,h⟩
theorem Ok.bind {o:Option ρ}{f:ρ→Option τ}(h:Ok Q o)(hf:∀ r,Q r→Ok R (f r)):Ok R (o.bind f):=by
 obtain⟨r,rfl,hr⟩:=h; exact hf r hr
theorem Ok.grd {c:Prop}[Decidable c]{k:Option τ}(hc:c)(h:Ok R k):Ok R (Go.E.grd c k):=by rw [q3o hc]; exact h
theorem Ok.ite {c:Prop}[Decidable c]{a b:Option τ}(h1:c→Ok R a)(h2:¬ c→Ok R b):Ok R (if c then a else b):=by
 by_cases hc:c
 ·rw [if_pos hc]; exact h1 hc
 ·rw [if_neg hc]; exact h2 hc
theorem Ok.mono {Q' : ρ→Prop}{o:Option ρ}(h:Ok Q o)(hq:∀ r,Q r→Q' r):Ok Q' o:=by
 obtain⟨r,rfl,hr⟩:=h; exact⟨r,rfl,hq r hr⟩
theorem z9Y {P:Nat→σ→Prop}{f:Nat→σ→Option σ}:∀ {n i:Nat} {s:σ},P i s→(∀ k s,i≤k→k < i+n→P k s→Ok (P (k+1)) (f k s))→Ok (P (i+n)) (eachN f i n s)
 | 0,i,s,h,_=>⟨s,rfl,h⟩
 | n+1,i,s,h,hf=>by
  rw [eachN]
  refine (hf i s (Nat.le_refl _) (by omega) h).bind fun r hr=>?_
  have:=z9Y (n:=n) hr fun k s h1 h2=>hf k s (by omega) (by omega)
  rwa [show i+1+n=i+(n+1) by omega] at this
theorem z9Z {P:Nat→σ→Prop}{f:Nat→α→σ→Option σ}:∀ {xs:List α} {i:Nat} {s:σ},P i s→(∀ k x s,x∈xs→i≤k→k < i+xs.length→P k s→Ok (P (k+1)) (f k x s))→Ok (P (i+xs.length)) (eachL f i xs s)
 | [],i,s,h,_=>⟨s,rfl,h⟩
 | x :: xs,i,s,h,hf=>by
  rw [eachL]
  refine (hf i x s (by simp) (Nat.le_refl _) (by simp) h).bind fun r hr=>?_
  have:=z9Z (xs:=xs) hr fun k y s hy h1 h2=>hf k y s (by simp [hy]) (by omega) (by simp; omega)
  rwa [show i+1+xs.length=i+(x :: xs).length by simp; omega] at this
theorem j2I {g:Nat→Option ρ}{N:Nat}(h:∀ n,N≤n→g (n+1)=g n)(h2:Ok Q (g N)):Ok Q (recO g):=by
 obtain⟨r,h3,h4⟩:=h2
 have:∀ k,g (N+k)=some r:=by
  intro k
  induction k with
  | zero=>exact h3
  | succ k ih=>rw [← Nat.add_assoc,h _ (by omega),ih]
 exact⟨r,q7j N fun n hn=>by have:=this (n - N); rwa [show N+(n - N)=n by omega] at this,h4⟩
end
def CB (b:List UInt8)(z:l1Cur):Prop:=0≤z.i∧z.b=b
theorem CB.mk' {b:List UInt8}{o z:l1Cur}(h:CB b o)(hz:CB b z):CB b ⟨o.b,z.i,z.h⟩:=⟨hz.1,h.2⟩
def Dr {α:Type}(b:List UInt8)(P:α→Prop)(o:Option (α × l1Cur)):Prop:=Ok (fun r=>P r.1∧CB b r.2) o
theorem Dr.of {α:Type}{b:List UInt8}{P:α→Prop}{o:Option (α × l1Cur)}(hb:b.length≤1048576)(h:∃ y z,o=some (y,z)∧P y∧z9X z∧z.b=b):Dr b P o:=by
 obtain⟨y,z,e,h1,h2,h3⟩:=h
 exact⟨(y,z),e,h1,h2.1,h3⟩
theorem CB.ok {b:List UInt8}{z:l1Cur}(hb:b.length≤1048576)(h:CB b z):z9X z:=⟨h.1,by rw [h.2]; exact hb⟩
section
variable {b:List UInt8}{o:l1Cur}(hb:b.length≤1048576)
include hb
theorem k0b:Ok (fun z=>CB b z) (z3U b):=by
 obtain⟨o,h1,h2,h3⟩:=j7x hb
 exact⟨o,h1,h2.1,h3⟩
theorem q4d (n:Int)(h:CB b o):Dr b (fun y=>0≤y∧(0 < n→y < n)∧(n≤0→y=0)) (q3q n o):=by
 obtain⟨y,z,h1,h2,h3,h4,h5,h6⟩:=z9c (h.ok hb) n
 exact⟨(y,z),h1,⟨h2,h3,h4⟩,h5.1,h6.trans h.2⟩
theorem q7w (n:Int)(h:CB b o):Dr b (fun _=>True) (q4g n o):=by
 unfold q4g
 refine (q4d hb n h).bind ?_
 rintro⟨y,z⟩ ⟨_,hz⟩
 exact .ret ⟨trivial,h.mk' hz⟩
theorem z1n {l:List ByteArray}(hl:l≠[])(h:CB b o):Dr b (fun y=>y∈l) (q6n l o):=by
 have hpos:=List.length_pos_iff.2 hl
 unfold q6n
 refine (q4d hb _ h).bind ?_
 rintro⟨y,z⟩ ⟨⟨h1,h2,_⟩,hz⟩
 dsimp only at h1 h2 hz ⊢
 have:=h2 (by omega)
 obtain⟨x,hx⟩:∃ x,l[y.toNat]? = some x:=⟨_,List.getElem?_eq_getElem (by omega)⟩
 rw [hx]
 exact .grd h1 (.ret ⟨List.mem_of_getElem? hx,h.mk' hz⟩)
theorem q8n {l:List Int}(hl:l≠[])(h:CB b o):Dr b (fun y=>y∈l) (q4I l o):=by
 obtain⟨y,z,h1,h2,h3,h4⟩:=j1o (h.ok hb) hl
 exact⟨(y,z),h1,h2,h3.1,h4.trans h.2⟩
theorem j2J (h:CB b o):Dr b (fun y=>y.size=1) (q8Y o):=by
 unfold q8Y
 refine (z1n hb (by simp) h).bind ?_
 rintro⟨y,z⟩ ⟨h1,hz⟩
 refine .ret ⟨?_,h.mk' hz⟩
 simp only [List.mem_cons,List.not_mem_nil,or_false] at h1
 rcases h1 with h1 | h1 | h1 | h1 | h1 | h1 | h1 | h1<;>rw [h1]<;>rfl
theorem z7W (k n p t:Int)(s m:ByteArray):Sz.szd (⟨k,n,p,t,s,m,[]⟩:Expr)=s.size+m.size:=by rw [q5K]; rfl
theorem j1r (k n p t:Int)(s m:ByteArray)(x y:Expr):Sz.szd (⟨k,n,p,t,s,m,[x,y]⟩:Expr)=s.size+m.size+(1+Sz.szd x+(1+Sz.szd y+0)):=by rw [q5K]; rfl
theorem j8F (k n p t:Int)(s m:ByteArray)(x:Expr):Sz.szd (⟨k,n,p,t,s,m,[x]⟩:Expr)=s.size+m.size+(1+Sz.szd x+0):=by rw [q5K]; rfl
theorem j3K (k n p t:Int)(s m:ByteArray)(x y z:Expr):Sz.szd (⟨k,n,p,t,s,m,[x,y,z]⟩:Expr)=s.size+m.size+(1+Sz.szd x+(1+Sz.szd y+(1+Sz.szd z+0))):=by rw [q5K]; rfl
theorem q9z:(⟨#[]⟩:ByteArray).size=0:=rfl
theorem z3J (k:Int){l:List Occurrence}(hl:∀ q∈l,q.Name.size≤8)(h:CB b o):Dr b (fun e=>Sz.szd e≤8) (q5S k l o):=by
 have bare:∀ {o:l1Cur},CB b o→∀ {R:Option (Expr × l1Cur)},R=(if k=4 then
   (q4g 3 o).bind fun (y10,z7)=>if y10=true then some ((⟨7,0,0,0,(⟨#[]⟩:ByteArray),(⟨#[]⟩:ByteArray),[]⟩:Expr),(⟨o.b,z7.i,z7.h⟩:l1Cur)) else some ((⟨6,0,0,0,(⟨#[]⟩:ByteArray),(⟨#[]⟩:ByteArray),[]⟩:Expr),(⟨o.b,z7.i,z7.h⟩:l1Cur))
  else if k=3 then (q3q 2 o).bind fun (y11,z8)=>(q5z y11 k).bind fun y12=>some (y12,(⟨o.b,z8.i,z8.h⟩:l1Cur))
  else if k=2 then (q3q 12 o).bind fun (y13,z9)=>grd (0≤y13) <| grd (0≤y13∧y13 < 63) <| (q5z ((2 ^ y13.toNat:Nat):Int) k).bind fun y14=>some (y14,(⟨o.b,z9.i,z9.h⟩:l1Cur))
  else (q3q 9 o).bind fun (y15,z10)=>(q5z y15 1).bind fun y16=>some (y16,(⟨o.b,z10.i,z10.h⟩:l1Cur)))→Dr b (fun e=>Sz.szd e≤8) R:=by
  rintro o h R rfl
  refine .ite (fun _=>?_) fun _=>.ite (fun _=>?_) fun _=>.ite (fun _=>?_) fun _=>?_
  ·refine (q7w hb 3 h).bind ?_
   rintro⟨y,z⟩ ⟨_,hz⟩
   refine .ite (fun _=>.ret ⟨?_,h.mk' hz⟩) fun _=>.ret ⟨?_,h.mk' hz⟩
   ·exact Nat.zero_le _
   ·exact Nat.zero_le _
  ·refine (q4d hb 2 h).bind ?_
   rintro⟨y,z⟩ ⟨_,hz⟩
   refine .ret ⟨?_,h.mk' hz⟩
   exact Nat.zero_le _
  ·refine (q4d hb 12 h).bind ?_
   rintro⟨y,z⟩ ⟨⟨h1,h2,_⟩,hz⟩
   have:=h2 (by omega)
   dsimp only at h1 this
   refine .grd h1 (.grd (by omega) (.ret ⟨?_,h.mk' hz⟩))
   exact Nat.zero_le _
  ·refine (q4d hb 9 h).bind ?_
   rintro⟨y,z⟩ ⟨_,hz⟩
   refine .ret ⟨?_,h.mk' hz⟩
   exact Nat.zero_le _
 unfold q5S
 refine .ite (fun hl0=>?_) fun _=>bare h rfl
 refine (q7w hb 4 h).bind ?_
 rintro⟨y,z⟩ ⟨_,hz⟩
 have h':=h.mk' hz
 refine .ite (fun _=>?_) fun _=>?_
 ·exact bare h' rfl
 ·refine (q4d hb _ h').bind ?_
  rintro⟨y,z⟩ ⟨⟨h1,h2,_⟩,hz⟩
  have:=h2 (by omega)
  dsimp only at h1 this
  obtain⟨x,hx⟩:∃ x,l[y.toNat]? = some x:=⟨_,List.getElem?_eq_getElem (by omega)⟩
  dsimp only
  rw [hx]
  refine .grd h1 (.ret ⟨?_,h.mk' hz⟩)
  dsimp only
  rw [z7W hb,q9z hb]
  have:=hl x (List.mem_of_getElem? hx)
  omega
def fb (d:Nat):Nat:=20*4 ^ d
theorem z5X (d:Nat):20≤fb d:=by
 have:1≤4 ^ d:=Nat.one_le_pow _ _ (by omega)
 unfold fb; omega
theorem j2K (d:Nat):fb (d+1)=4*fb d:=by unfold fb; rw [Nat.pow_succ]; omega
theorem z4E (h:CB b o){R:Option (Expr × l1Cur)}(hR:R=(
 (q4g 5 o).bind fun (y1,z1)=>
 if y1=true then (
 some ((⟨2,0,0,0,(⟨#[]⟩:ByteArray),(⟨#[]⟩:ByteArray),[]⟩:Expr),(⟨o.b,z1.i,z1.h⟩:l1Cur))
 ) else (
 (q4g 6 (⟨o.b,z1.i,z1.h⟩:l1Cur)).bind fun (y2,z2)=>
 if y2=true then (
 (q3q 4 (⟨o.b,z2.i,z2.h⟩:l1Cur)).bind fun (y3,z3)=>
 some ((⟨6,0,y3,0,(⟨#[]⟩:ByteArray),(⟨#[]⟩:ByteArray),[]⟩:Expr),(⟨o.b,z3.i,z3.h⟩:l1Cur))
 ) else (
 (q3q 4 (⟨o.b,z2.i,z2.h⟩:l1Cur)).bind fun (y4,z4)=>
 grd (I64 (1+y4)) <|
 (q3q 4 (⟨o.b,z4.i,z4.h⟩:l1Cur)).bind fun (y5,z5)=>
 (q8Y (⟨o.b,z5.i,z5.h⟩:l1Cur)).bind fun (y6,z6)=>
 (q5S (1+y4) [(⟨y5,y6⟩:Occurrence)] (⟨o.b,z6.i,z6.h⟩:l1Cur)).bind fun (y7,z7)=>
 some (y7,(⟨o.b,z7.i,z7.h⟩:l1Cur))
 )
 ))):Dr b (fun e=>Sz.szd e≤20) R:=by
 subst hR
 refine (q7w hb 5 h).bind ?_
 rintro⟨y1,z1⟩ ⟨_,h1⟩
 refine .ite (fun _=>.ret ⟨?_,h.mk' h1⟩) fun _=>?_
 ·exact Nat.zero_le _
 refine (q7w hb 6 (h.mk' h1)).bind ?_
 rintro⟨y2,z2⟩ ⟨_,h2⟩
 refine .ite (fun _=>?_) fun _=>?_
 ·refine (q4d hb 4 (h.mk' h2)).bind ?_
  rintro⟨y3,z3⟩ ⟨_,h3⟩
  refine .ret ⟨?_,h.mk' h3⟩
  exact Nat.zero_le _
 ·refine (q4d hb 4 (h.mk' h2)).bind ?_
  rintro⟨y4,z4⟩ ⟨⟨a1,a2,_⟩,h4⟩
  have:=a2 (by omega)
  dsimp only at a1 this
  refine .grd (by constructor<;>omega) ?_
  refine (q4d hb 4 (h.mk' h4)).bind ?_
  rintro⟨y5,z5⟩ ⟨_,h5⟩
  refine (j2J hb (h.mk' h5)).bind ?_
  rintro⟨y6,z6⟩ ⟨hn,h6⟩
  refine (z3J hb _ (by simpa using (show y6.size≤8 by dsimp only at hn; omega)) (h.mk' h6)).bind ?_
  rintro⟨y7,z7⟩ ⟨hs,h7⟩
  exact .ret ⟨by have hs' : Sz.szd y7≤8:=hs; show Sz.szd y7≤20; omega,h.mk' h7⟩
theorem j9r:∀ (d:Nat) (m:Nat),d < m→∀ (a:Int) (o:l1Cur),a≤d+1→q5T (m+1) a o=q5T m a o:=by
 intro d
 induction d with
 | zero=>
  intro m hm a o ha
  obtain⟨m,rfl⟩:∃ q,m=q+1:=⟨m - 1,by omega⟩
  show q6W (q5T (m+1)) a o=q6W (q5T m) a o
  unfold q6W
  rw [if_pos (by omega),if_pos (by omega)]
 | succ d ih=>
  intro m hm a o ha
  obtain⟨m,rfl⟩:∃ q,m=q+1:=⟨m - 1,by omega⟩
  have e:q5T (m+1) (a - 1)=q5T m (a - 1):=funext fun o=>ih m (by omega) (a - 1) o (by omega)
  show q6W (q5T (m+1)) a o=q6W (q5T m) a o
  unfold q6W
  rw [e]
theorem j7A:∀ (d:Nat) (m:Nat),d < m→∀ (a:Int) (o:l1Cur),a≤d+1→-1000000≤a→d≤100000→CB b o→Dr b (fun e=>Sz.szd e≤fb d) (q5T m a o):=by
 intro d
 induction d with
 | zero=>
  intro m hm a o ha _ _ h
  obtain⟨m,rfl⟩:∃ q,m=q+1:=⟨m - 1,by omega⟩
  show Dr b _ (q6W (q5T m) a o)
  unfold q6W
  rw [if_pos (by omega)]
  exact (z4E hb h rfl).mono fun r hr=>⟨Nat.le_trans hr.1 (z5X hb 0),hr.2⟩
 | succ d ih=>
  intro m hm a o ha h0 hd h
  obtain⟨m,rfl⟩:∃ q,m=q+1:=⟨m - 1,by omega⟩
  have hf:=z5X hb d
  have hs:=j2K hb d
  show Dr b _ (q6W (q5T m) a o)
  unfold q6W
  by_cases ha2:a < 2
  ·rw [if_pos ha2]; exact (z4E hb h rfl).mono fun r hr=>⟨Nat.le_trans hr.1 (z5X hb _),hr.2⟩
  rw [if_neg ha2]
  have ih' : ∀ {o:l1Cur},CB b o→Dr b (fun e=>Sz.szd e≤fb d) (q5T m (a - 1) o):=fun h=>ih m (by omega) (a - 1) _ (by omega) (by omega) (by omega) h
  have hg:I64 (a - 1):=by constructor<;>omega
  refine (q7w hb 4 h).bind ?_
  rintro⟨y8,z8⟩ ⟨_,h8⟩
  refine .ite (fun _=>(z4E hb (h.mk' h8) rfl).mono fun r hr=>⟨Nat.le_trans hr.1 (z5X hb _),hr.2⟩) fun _=>?_
  refine (q4d hb 5 (h.mk' h8)).bind ?_
  rintro⟨y16,z16⟩ ⟨_,h16⟩
  refine .ite (fun _=>?_) fun _=>.ite (fun _=>?_) fun _=>?_
  ·refine .grd hg ((ih' (h.mk' h16)).bind ?_)
   rintro⟨e1,z1⟩ ⟨s1,h1⟩
   refine .grd hg ((ih' (h.mk' h1)).bind ?_)
   rintro⟨e2,z2⟩ ⟨s2,h2⟩
   refine .grd hg ((ih' (h.mk' h2)).bind ?_)
   rintro⟨e3,z3⟩ ⟨s3,h3⟩
   refine .ret ⟨?_,h.mk' h3⟩
   dsimp only at s1 s2 s3 ⊢
   rw [j3K hb,q9z hb]; omega
  ·refine (z1n hb (by simp) (h.mk' h16)).bind ?_
   rintro⟨y20,z20⟩ ⟨h20,c20⟩
   refine (j2J hb (h.mk' c20)).bind ?_
   rintro⟨y21,z21⟩ ⟨h21,c21⟩
   refine .grd hg ((ih' (h.mk' c21)).bind ?_)
   rintro⟨e1,z1⟩ ⟨s1,h1⟩
   refine .ret ⟨?_,h.mk' h1⟩
   have:y20.size=1:=by
    simp only [List.mem_cons,List.not_mem_nil,or_false] at h20
    rcases h20 with h20 | h20<;>rw [h20]<;>rfl
   dsimp only at s1 h21 ⊢
   rw [j8F hb]; omega
  ·refine (q4d hb 12 (h.mk' h16)).bind ?_
   rintro⟨y23,z23⟩ ⟨⟨a1,a2,_⟩,h23⟩
   have:=a2 (by omega)
   dsimp only at a1 this
   refine .grd (by constructor<;>omega) (.grd hg ((ih' (h.mk' h23)).bind ?_))
   rintro⟨e1,z1⟩ ⟨s1,h1⟩
   refine .grd hg ((ih' (h.mk' h1)).bind ?_)
   rintro⟨e2,z2⟩ ⟨s2,h2⟩
   refine .ret ⟨?_,h.mk' h2⟩
   dsimp only at s1 s2 ⊢
   rw [j1r hb,q9z hb]; omega
theorem j5Z (d:Nat){a:Int}(ha:a≤d+1)(h0:-1000000≤a)(hd:d≤100000)(h:CB b o):Dr b (fun e=>Sz.szd e≤fb d) (z4V a o):=
 j2I (g:=fun n=>q5T n a o) (N:=d+1) (fun n hn=>j9r hb d n (by omega) a o ha) (j7A hb d (d+1) (by omega) a o ha h0 hd h)
theorem j6a {e:Expr}{n:Nat}(h:Sz.szd e≤n):cntE e≤n+1:=by
 have h1:=z9T e
 have h2:q9x e=Sz.szd e:=rfl
 omega
theorem j6b (h:CB b o):Dr b (fun e=>Sz.szd e≤20480) (z1Z o):=by
 unfold z1Z
 refine (q4d hb 5 h).bind ?_
 rintro⟨y1,z1⟩ ⟨⟨a1,a2,_⟩,h1⟩
 have:=a2 (by omega)
 dsimp only at a1 this
 refine .grd (by constructor<;>omega) ?_
 refine (j5Z hb 5 (a:=1+y1) (by omega) (by omega) (by omega) (h.mk' h1)).bind ?_
 rintro⟨e,z2⟩ ⟨s2,h2⟩
 have s2' : Sz.szd e≤20480:=s2
 dsimp only
 rw [z5l (by have:=j6a hb s2'; omega)]
 refine Ok.bind (Q:=fun _=>True) (.ret trivial) fun y3 _=>.ite (fun _=>.ret ⟨s2',h.mk' h2⟩) fun _=>.ret ⟨?_,h.mk' h2⟩
 exact Nat.zero_le _
theorem j9s (h:CB b o):Dr b (fun e=>Sz.szd e≤30000) (z3j o):=by
 unfold z3j
 refine (j6b hb h).bind ?_
 rintro⟨e,z1⟩ ⟨s1,h1⟩
 have s1' : Sz.szd e≤20480:=s1
 have s2:=q5K e
 refine (q4d hb 14 (h.mk' h1)).bind ?_
 rintro⟨y2,z2⟩ ⟨_,h2⟩
 dsimp only
 refine .ite (fun _=>?_) fun _=>.ite (fun _=>?_) fun _=>.ite (fun _=>?_) fun _=>.ite (fun _=>?_) fun _=>.ite (fun _=>?_) fun _=>.ite (fun _=>?_) fun _=>?_
 ·refine (q4d hb 11 (h.mk' h2)).bind ?_
  rintro⟨y3,z3⟩ ⟨_,h3⟩
  refine .ret ⟨?_,h.mk' h3⟩
  dsimp only; rw [q5K]; dsimp only; omega
 ·have hl:=q6C e.Args
  refine .grd (by constructor<;>omega) (.ret ⟨?_,h.mk' h2⟩)
  dsimp only; rw [q5K]; dsimp only; rw [z5r]
  have:szL [(⟨7,0,0,0,(⟨#[]⟩:ByteArray),(⟨#[]⟩:ByteArray),[]⟩:Expr)]=1:=rfl
  omega
 ·refine (q8n hb (by simp) (h.mk' h2)).bind ?_
  rintro⟨y3,z3⟩ ⟨_,h3⟩
  refine .ret ⟨?_,h.mk' h3⟩
  dsimp only; rw [q5K]; dsimp only; omega
 ·refine (q8n hb (by simp) (h.mk' h2)).bind ?_
  rintro⟨y3,z3⟩ ⟨_,h3⟩
  refine .ret ⟨?_,h.mk' h3⟩
  dsimp only; rw [q5K]; dsimp only; omega
 ·refine (z1n hb (by simp) (h.mk' h2)).bind ?_
  rintro⟨y3,z3⟩ ⟨h30,h3⟩
  have:y3.size≤2:=by
   simp only [List.mem_cons,List.not_mem_nil,or_false] at h30
   rcases h30 with h30 | h30 | h30<;>rw [h30]<;>decide
  refine .ret ⟨?_,h.mk' h3⟩
  dsimp only; rw [q5K]; dsimp only; omega
 ·have hL:Ok (fun q=>Sz.szd (⟨q.2.1,q.2.2.1,q.2.2.2.1,q.2.2.2.2.1,q.2.2.2.2.2.1,q.2.2.2.2.2.2,q.1⟩:Expr)≤20480+5*2) (eachN z5w 0 5 (e.Args,e.Kind,e.N,e.Pos,e.Type_,e.Symbol,e.Name)):=by
   refine (z9Y (P:=fun k q=>Sz.szd (⟨q.2.1,q.2.2.1,q.2.2.2.1,q.2.2.2.2.1,q.2.2.2.2.2.1,q.2.2.2.2.2.2,q.1⟩:Expr)≤20480+k*2) (by dsimp only; rw [q5K]; dsimp only; omega) fun k q _ _ hq=>?_).mono fun q hq=>by simpa using hq
   obtain⟨q1,q2,q3,q4,q5,q6,q7⟩:=q
   dsimp only at hq
   refine .ret ?_
   dsimp only
   rw [j1r hb,z7W hb,q9z hb]; omega
  refine hL.bind ?_
  rintro⟨q1,q2,q3,q4,q5,q6,q7⟩ hq
  refine .ret ⟨?_,h.mk' h2⟩
  dsimp only at hq ⊢; omega
 ·exact .ret ⟨by dsimp only; omega,h.mk' h2⟩
end
end Go.Proofs.YtibagkppfnjgcaaGreat
namespace Go.Proofs.YtibagkppfnjgcaaGreat
open Go Go.E
def bit (x:Int)(k:Int):Prop:=x.toNat >>> k.toNat &&& 1=1
instance (x k:Int):Decidable (bit x k):=by unfold bit; infer_instance
theorem j3L (x lo hi:Int):q5H x lo hi=some (decide (lo≤x∧x≤hi)):=by
 unfold q5H; split<;>simp_all<;>omega
theorem j4M (x lo hi:Int):q4o x lo hi=some (decide (lo≤x∧x≤hi)):=by
 unfold q4o; split<;>simp_all<;>omega
end Go.Proofs.YtibagkppfnjgcaaGreat
namespace Go.Proofs.YtibagkppfnjgcaaGreat
open Go Go.E
theorem q8R {α ρ:Type}{p:α→Bool}{r:α→ρ}:∀ {xs:List α} {i:Nat} {f:Nat→α→Unit→Option (Unit ⊕ ρ)},(∀ k x,x∈xs→(p x=true→f k x ()=some (.inr (r x)))∧(p x=false→f k x ()=some (.inl ()))) →
  findL f i xs ()=some (match xs.find? p with | some x=>.inr (r x) | none=>.inl ())
 | [],_,_,_=>rfl
 | x :: xs,i,f,h=>by
  have h0:=h i x (by simp)
  cases hp:p x with
  | true=>simp [findL,h0.1 hp,List.find?,hp]
  | false=>
   have ih:=q8R (p:=p) (r:=r) (xs:=xs) (i:=i+1) (f:=f) fun k y hy=>h k y (by simp [hy])
   simp [findL,h0.2 hp,List.find?,hp,ih]
theorem z1D {α β:Type}{p:α→Bool}{g:Nat→α→β}{B:Nat}{f:Nat→α→List β→Option (List β)}(hf:∀ k x s,s.length < B→f k x s=some (if p x=true then s++[g k x] else s)):∀ (xs:List α) (i:Nat) (s:List β),s.length+xs.length≤B →
  ∃ ys,eachL f i xs s=some (s++ys)∧ys.length≤xs.length
 | [],i,s,_=>⟨[],by simp [eachL],by simp⟩
 | x :: xs,i,s,h=>by
  simp only [List.length_cons] at h
  by_cases hp:p x=true
  ·obtain⟨ys,h1,h2⟩:=z1D hf xs (i+1) (s++[g i x]) (by simp; omega)
   exact⟨g i x :: ys,by simp [eachL,hf i x s (by omega),hp,h1],by simp; omega⟩
  ·obtain⟨ys,h1,h2⟩:=z1D hf xs (i+1) s (by omega)
   exact⟨ys,by simp [eachL,hf i x s (by omega),hp,h1],by simp; omega⟩
theorem z3K (x lo hi:Int):q5H x lo hi=some (decide (lo≤x∧x≤hi)):=by
 unfold q5H; split<;>simp_all<;>omega
theorem z5Y (x lo hi:Int):q4o x lo hi=some (decide (lo≤x∧x≤hi)):=by
 unfold q4o; split<;>simp_all<;>omega
theorem z4d (r:Rule)(k:Int):q7s r k=q4P r k:=by
 unfold q7s q4P; rw [z3K,z5Y]
def j6c (a:Attribute):Bool:=decide (a.Mode=1∨a.Mode=2)
theorem j4N:z1g=q7o:=rfl
theorem j1s {g:Grammar}(h:∀ y∈g.Symbols,y.Attributes.length≤1048576)(s:ByteArray):∃ y b,q4C g s=some (y,b)∧q5d g s=some (y,b)∧y.Attributes.length≤1048576:=by
 have h1:=q8R (p:=fun y:Symbol=>decide (y.Name=s)) (r:=fun y=>(y,true)) (xs:=g.Symbols) (i:=0) (f:=q8t s) fun k y hy=>by
  have hg:q7V y=some y:=by
   unfold q7V; have:=h y hy; rw [q3o (by simp only [List.length_nil]; constructor<;>omega)]
  unfold q8t; rw [hg]; constructor<;>intro hp<;>simp_all
 have h2:=q8R (p:=fun y:Symbol=>decide (y.Name=s)) (r:=fun y=>(y,true)) (xs:=g.Symbols) (i:=0) (f:=q8z s) fun k y hy=>by
  unfold q8z; constructor<;>intro hp<;>simp_all
 unfold q4C q5d
 rw [h1,h2]
 cases hf:g.Symbols.find? (fun y:Symbol=>decide (y.Name=s)) with
 | none=>exact⟨_,_,rfl,rfl,by simp⟩
 | some y=>exact⟨_,_,rfl,rfl,h y (List.mem_of_find?_eq_some hf)⟩
theorem z9d {g:Grammar}(h:∀ y∈g.Symbols,y.Attributes.length≤1048576)(s:ByteArray):∃ l,q6G g s=some l∧q6J g s=some l∧l.length≤1048576:=by
 obtain⟨y,b,h1,h2,h3⟩:=j1s h s
 obtain⟨l,h4,h5⟩:=z1D (p:=j6c) (g:=fun _ x=>x) (B:=1048577) (f:=q7o) (fun k x s hs=>by
  have hg:((s.length:Int)+1)*40≤140737488355328∧(s.length:Int)+1≤9223372036854775807:=by constructor<;>omega
  unfold q7o j6c
  rw [q3o hg]
  by_cases m1:x.Mode=1
  ·rw [if_pos m1,if_pos (by simp [m1])]; rfl
  ·rw [if_neg m1]
   by_cases m2:x.Mode=2
   ·rw [if_pos m2,if_pos (by simp [m2])]; rfl
   ·rw [if_neg m2,if_neg (by simp [m1,m2])]; rfl) y.Attributes 0 [] (by simp; omega)
 simp only [List.nil_append] at h4
 refine⟨l,?_,?_,by omega⟩
 ·unfold q6G; rw [h1]; dsimp only [Option.bind_some]; rw [h4]; rfl
 ·unfold q6J; rw [h2]; dsimp only [Option.bind_some]; rw [j4N,h4]; rfl
theorem z5K (r:Rule)(k:Nat)(hk:k≤r.Right.length)(hl:r.Right.length≤1048576):∃ x,q4P r (k:Int)=some x:=by
 unfold q4P
 by_cases h0:(k:Int)=0
 ·exact⟨_,if_pos h0⟩
 ·rw [if_neg h0,z3K,Option.bind_some,if_pos (by simp; omega),q3o (by constructor<;>omega),q3o (by omega)]
  obtain⟨x,hx⟩:∃ x,r.Right[((k:Int) - 1).toNat]? = some x:=⟨_,List.getElem?_eq_getElem (by omega)⟩
  exact⟨x,by rw [hx]; rfl⟩
theorem j6d (k:Nat)(B:Nat)(hB:B≤4398046511104):∀ (l:List Attribute) (i:Nat) (s:List Occurrence),s.length+l.length≤B→∃ ys,eachL (q5k k) i l s=some (s++ys)∧ys.length≤l.length:=fun l i s h=>
 z1D (p:=fun _=>true) (g:=fun _ x=>(⟨(k:Int),x.Name⟩:Occurrence)) (B:=B) (f:=q5k k) (fun j x s hs=>by
  have hg:((s.length:Int)+1)*24≤140737488355328∧(s.length:Int)+1≤9223372036854775807:=by constructor<;>omega
  unfold q5k
  rw [q3o hg,if_pos rfl]) l i s h
theorem j7B (k:Nat):z2b (k:Int)=q5k k:=rfl
theorem j7C {g:Grammar}{r:Rule}(h:∀ y∈g.Symbols,y.Attributes.length≤1048576)(hr:r.Right.length≤1048576):∃ l,q7A g r=some l∧q5Q g r=some l∧l.length≤1099512676352:=by
 have key:∀ m k (s:List Occurrence),k+m=r.Right.length+1→s.length≤k*1048576→∃ l,eachN (q4X g r) k m s=some l∧q5m (q6j g r) (s,(k:Int))=some l∧l.length≤(k+m)*1048576:=by
  intro m
  induction m with
  | zero=>
   intro k s hk hs
   refine⟨s,rfl,q4u ?_,by simpa using hs⟩
   unfold q6j; dsimp only; rw [if_neg (by omega)]
  | succ m ih=>
   intro k s hk hs
   obtain⟨x,hx⟩:=z5K r k (by omega) hr
   obtain⟨p,hp1,hp2,hp3⟩:=z9d h x
   obtain⟨ys,hy1,hy2⟩:=j6d k 4398046511104 (by omega) p 0 s (by omega)
   obtain⟨l,h1,h2,h3⟩:=ih (k+1) (s++ys) (by omega) (by simp; omega)
   refine⟨l,?_,?_,by rw [show k+(m+1)=k+1+m by omega]; exact h3⟩
   ·have e:q4X g r k s=some (s++ys):=by
     unfold q4X; rw [z4d,hx,Option.bind_some,hp2,Option.bind_some,hy1]; rfl
    simp only [eachN,e,Option.bind_some]; exact h1
   ·have e:q6j g r (s,(k:Int))=some (.inl (s++ys,((k+1:Nat):Int))):=by
     unfold q6j; dsimp only
     rw [if_pos (by omega),hx,Option.bind_some,hp1,Option.bind_some,j7B,hy1,Option.bind_some,q3o (by constructor<;>omega)]; rfl
    rw [q4U e]; exact h2
 obtain⟨l,h1,h2,h3⟩:=key (r.Right.length+1) 0 [] (by omega) (by simp)
 refine⟨l,?_,?_,by omega⟩
 ·unfold q7A
  have e:q5m (q6j g r) (([]:List Occurrence),0)=some l:=h2
  rw [e]; rfl
 ·unfold q5Q
  rw [q3o (by constructor<;>omega),h1]; rfl
theorem j0a {α:Type}[Sz α]{x:α}:∀ {l:List α},x∈l→Sz.szd x≤szL l
 | [],h=>by simp at h
 | y :: l,h=>by
  rcases List.mem_cons.1 h with rfl | h
  ·simp only [szL]; omega
  ·have:=j0a h; simp only [szL]; omega
theorem z3L {g:Grammar}(h:Sz.szd g≤1048576):∀ y∈g.Symbols,y.Attributes.length≤1048576:=fun y hy=>by
 have h1:=j0a hy
 have h2:=z8X y
 have h3:=z2E g
 have h4:=q6C y.Attributes
 omega
theorem q7x {r:Rule}(h:Sz.szd r≤1048576):r.Right.length≤1048576:=by
 have h1:=z5f r
 have h2:=q6C r.Right
 omega
end Go.Proofs.YtibagkppfnjgcaaGreat
namespace Go.Proofs.YtibagkppfnjgcaaGreat
open Go Go.E
theorem j1t (k:Nat):∀ (l:List Attribute) (i:Nat) (s:List Occurrence),s.length+l.length≤4398046511104→eachL (q5k k) i l s=some (s++l.map fun x=>(⟨(k:Int),x.Name⟩:Occurrence))
 | [],i,s,_=>by simp [eachL]
 | x :: l,i,s,h=>by
  simp only [List.length_cons] at h
  have hg:((s.length:Int)+1)*24≤140737488355328∧(s.length:Int)+1≤9223372036854775807:=by constructor<;>omega
  have e:q5k k i x s=some (s++[(⟨(k:Int),x.Name⟩:Occurrence)]):=by unfold q5k; rw [q3o hg]
  simp only [eachL,e,Option.bind_some]
  rw [j1t k l (i+1) _ (by simp; omega)]; simp
end Go.Proofs.YtibagkppfnjgcaaGreat
namespace Go.Proofs.YtibagkppfnjgcaaGreat
open Go Go.E
theorem j9t:∀ (n:Nat) (e q:Expr),q7E n e=some q→q7E (n+1) e=some q:=by
 intro n
 induction n with
 | zero=>intro e q h; cases h
 | succ n ih=>
  intro e q h
  have h' : z0q (q7E n) e=some q:=h
  show z0q (q7E (n+1)) e=some q
  unfold z0q at h' ⊢
  obtain⟨s,h1,h2⟩:=bd h'
  rw [z5J (g:=z0N (q7E (n+1))) (fun k x s q hq=>by
   unfold z0N at hq ⊢
   obtain⟨y,h3,h4⟩:=bd hq
   rw [ih _ _ h3,Option.bind_some]; exact h4) _ _ _ _ h1]
  exact h2
theorem j4O:∀ (m:Nat) (e:Expr),fuE e≤m→Sz.szd e≤1048576→q7E m e=some e:=by
 intro m
 induction m with
 | zero=>intro e h; rw [z4n] at h; omega
 | succ m ih=>
  intro e h hs
  rw [z4n] at h
  have hl:∀ (l:List Expr) (i:Nat) (s:List Expr),(∀ x∈l,fuE x≤m∧Sz.szd x≤1048576)→s.length+l.length≤4398046511→eachL (z0N (q7E m)) i l s=some (s++l):=by
   intro l
   induction l with
   | nil=>intro i s _ _; simp [eachL]
   | cons x l ihl=>
    intro i s hx hb
    simp only [List.length_cons] at hb
    have h1:=ih x (hx x (by simp)).1 (hx x (by simp)).2
    have e1:z0N (q7E m) i x s=some (s++[x]):=by
     unfold z0N; rw [h1,Option.bind_some,q3o (by constructor<;>omega)]
    simp only [eachL,e1,Option.bind_some]
    rw [ihl _ _ (fun y hy=>hx y (by simp [hy])) (by simp; omega)]; simp
  show z0q (q7E m) e=some e
  unfold z0q
  have h2:=q5K e
  have h3:=q6C e.Args
  rw [hl e.Args 0 [] (fun x hx=>⟨by have:=z9S hx; omega,by have:=j5I hx; omega⟩) (by simp; omega),List.nil_append,Option.bind_some]
  cases e; rfl
theorem j9u {e:Expr}(h:Sz.szd e≤1048576):z7J e=some e:=j5X (fun n q=>j9t n e q) (j4O _ e (Nat.le_refl _) h)
def k0t:Expr:=⟨0,0,0,0,⟨#[]⟩,⟨#[]⟩,[]⟩
def eqAt (r:Rule)(o:Occurrence):Expr × Bool:=match r.Equations.find? fun q=>decide (q.At=o) with
 | some q=>(q.Expr,true)
 | none=>(k0t,false)
theorem z2H {r:Rule}{q:Equation}(h:q∈r.Equations):Sz.szd q.Expr≤Sz.szd r:=by
 have h1:=z5f r
 have h2:=z5W q
 have h3:=z5i h
 have h4:=q5K q.Expr
 omega
theorem j7D {r:Rule}(h:Sz.szd r≤1048576)(o:Occurrence):q8b r o=some (eqAt r o):=by
 have key:∀ (l:List Equation) (i:Nat),(∀ q∈l,Sz.szd q.Expr≤1048576)→findL (q8H o) i l ()=some (match l.find? fun q=>decide (q.At=o) with
   | some q=>.inr (q.Expr,true)
   | none=>.inl ()):=by
  intro l
  induction l with
  | nil=>intro i _; rfl
  | cons q l ih=>
   intro i hq
   by_cases hp:q.At=o
   ·simp [findL,q8H,hp,j9u (hq q (by simp))]
   ·simp [findL,q8H,hp]
    exact ih _ fun y hy=>hq y (by simp [hy])
 unfold q8b eqAt
 rw [key _ _ fun q hq=>by have:=z2H hq; omega]
 cases r.Equations.find? (fun q=>decide (q.At=o))<;>rfl
end Go.Proofs.YtibagkppfnjgcaaGreat
namespace Go.Proofs.YtibagkppfnjgcaaGreat
open Go Go.E
theorem z3M {α β:Type}{p:α→Bool}{g:α→β}{B:Nat}{f:Nat→α→List β→Option (List β)}(hf:∀ k x s,s.length < B→f k x s=some (if p x=true then s++[g x] else s)):∀ (xs:List α) (i:Nat) (s:List β),s.length+xs.length≤B →
  eachL f i xs s=some (s++(xs.filter p).map g)
 | [],i,s,_=>by simp [eachL]
 | x :: xs,i,s,h=>by
  simp only [List.length_cons] at h
  by_cases hp:p x=true
  ·have ih:=z3M hf xs (i+1) (s++[g x]) (by simp; omega)
   simp [eachL,hf i x s (by omega),hp,ih]
  ·have ih:=z3M hf xs (i+1) s (by omega)
   simp [eachL,hf i x s (by omega),hp,ih]
theorem z9e {β:Type}{h:Nat→List β}{C n:Nat}{f:Nat→List β→Option (List β)}(hf:∀ k s,k < n→s.length≤k*C→f k s=some (s++h k))(hh:∀ k,k < n→(h k).length≤C) :
  ∀ (m k:Nat) (s:List β),k+m=n→s.length≤k*C→eachN f k m s=some (s++(List.range' k m).flatMap h)
 | 0,k,s,_,_=>by simp [eachN]
 | m+1,k,s,hk,hs=>by
  have hl:=hh k (by omega)
  have e:(k+1)*C=k*C+C:=Nat.succ_mul k C
  have ih:=z9e hf hh m (k+1) (s++h k) (by omega) (by rw [List.length_append]; omega)
  simp [eachN,hf k s (by omega) hs,ih,List.range'_succ]
theorem j1u {β:Type}{h:Nat→List β}{C n:Nat}{f:(List β × Int)→Option ((List β × Int) ⊕ List β)}(hf:∀ (k:Nat) s,k < n→s.length≤k*C→f (s,(k:Int))=some (.inl (s++h k,((k+1:Nat):Int))))(he:∀ s,f (s,(n:Int))=some (.inr s))(hh:∀ k,k < n→(h k).length≤C) :
  ∀ (m k:Nat) (s:List β),k+m=n→s.length≤k*C→q5m f (s,(k:Int))=some (s++(List.range' k m).flatMap h)
 | 0,k,s,hk,_=>by
  obtain rfl:k=n:=by omega
  rw [q4u (he s)]; simp
 | m+1,k,s,hk,hs=>by
  have hl:=hh k (by omega)
  have e:(k+1)*C=k*C+C:=Nat.succ_mul k C
  have ih:=j1u hf he hh m (k+1) (s++h k) (by omega) (by rw [List.length_append]; omega)
  rw [q4U (hf k s (by omega) hs),ih]; simp [List.range'_succ]
abbrev GOk (g:Grammar):Prop:=∀ y∈g.Symbols,y.Attributes.length≤1048576
def zS:Symbol:=⟨⟨#[]⟩,[]⟩
def zA:Attribute:=⟨⟨#[]⟩,0,0,false⟩
def q7c (g:Grammar)(s:ByteArray):Symbol × Bool:=match g.Symbols.find? fun y=>decide (y.Name=s) with
 | some y=>(y,true)
 | none=>(zS,false)
def z0u (y:Symbol)(s:ByteArray):Attribute × Bool:=match y.Attributes.find? fun a=>decide (a.Name=s) with
 | some a=>(a,true)
 | none=>(zA,false)
theorem z1o {g:Grammar}(h:GOk g)(s:ByteArray):q4C g s=some (q7c g s):=by
 have h1:=q8R (p:=fun y:Symbol=>decide (y.Name=s)) (r:=fun y=>(y,true)) (xs:=g.Symbols) (i:=0) (f:=q8t s) fun k y hy=>by
  have hg:q7V y=some y:=by
   unfold q7V; have:=h y hy; rw [q3o (by simp only [List.length_nil]; constructor<;>omega)]
  unfold q8t; rw [hg]; constructor<;>intro hp<;>simp_all
 unfold q4C q7c
 rw [h1]
 cases hf:g.Symbols.find? (fun y:Symbol=>decide (y.Name=s)) with
 | none=>rfl
 | some y=>rfl
theorem z2m (g:Grammar)(s:ByteArray):q5d g s=some (q7c g s):=by
 have h2:=q8R (p:=fun y:Symbol=>decide (y.Name=s)) (r:=fun y=>(y,true)) (xs:=g.Symbols) (i:=0) (f:=q8z s) fun k y hy=>by
  unfold q8z; constructor<;>intro hp<;>simp_all
 unfold q5d q7c
 rw [h2]
 cases hf:g.Symbols.find? (fun y:Symbol=>decide (y.Name=s)) with
 | none=>rfl
 | some y=>rfl
theorem z5m {g:Grammar}(h:GOk g)(s:ByteArray):(q7c g s).1.Attributes.length≤1048576:=by
 unfold q7c
 cases hf:g.Symbols.find? (fun y:Symbol=>decide (y.Name=s)) with
 | none=>simp [zS]
 | some y=>exact h y (List.mem_of_find?_eq_some hf)
theorem z5n (y:Symbol)(s:ByteArray):q5e y s=some (z0u y s):=by
 have h2:=q8R (p:=fun y:Attribute=>decide (y.Name=s)) (r:=fun y=>(y,true)) (xs:=y.Attributes) (i:=0) (f:=q9I s) fun k y hy=>by
  unfold q9I; constructor<;>intro hp<;>simp_all
 unfold q5e z0u
 rw [h2]
 cases hf:y.Attributes.find? (fun y:Attribute=>decide (y.Name=s)) with
 | none=>rfl
 | some y=>rfl
theorem z7X (y:Symbol)(s:ByteArray):q4m y s=some (z0u y s):=z5n y s
def q9A (r:Rule)(k:Int):ByteArray:=if k=0 then r.Left else if 1≤k∧k≤(r.Right.length:Int) then r.Right.getD (k - 1).toNat ⟨#[]⟩ else ⟨#[]⟩
abbrev ROk (r:Rule):Prop:=r.Right.length≤1048576
theorem z3N {r:Rule}(hl:ROk r)(k:Int):q4P r k=some (q9A r k):=by
 unfold q4P q9A
 by_cases h0:k=0
 ·rw [if_pos h0,if_pos h0]
 ·rw [if_neg h0,if_neg h0,z3K,Option.bind_some]
  by_cases h1:1≤k∧k≤(r.Right.length:Int)
  ·rw [if_pos (by simpa using h1),if_pos h1,q3o (by constructor<;>omega),q3o (by omega)]
   have:(k - 1).toNat < r.Right.length:=by omega
   rw [List.getElem?_eq_getElem this,List.getD_eq_getElem?_getD,List.getElem?_eq_getElem this]; rfl
  ·rw [if_neg (by simpa using h1),if_neg h1]
theorem j0b {r:Rule}(hl:ROk r)(k:Int):q7s r k=some (q9A r k):=by rw [z4d,z3N hl]
def q9B (g:Grammar)(r:Rule)(o:Occurrence):Attribute × Bool:=if 0≤o.Pos∧o.Pos≤(r.Right.length:Int) then z0u (q7c g (q9A r o.Pos)).1 o.Name else (zA,false)
theorem z5L (g:Grammar){r:Rule}(hl:ROk r)(o:Occurrence):q5D g r o=some (q9B g r o):=by
 unfold q5D q9B
 rw [z5Y,Option.bind_some]
 by_cases h0:0≤o.Pos∧o.Pos≤(r.Right.length:Int)
 ·rw [if_pos (by simpa using h0),if_pos h0,j0b hl,Option.bind_some,z2m,Option.bind_some]
  dsimp only
  rw [z5n]; rfl
 ·rw [if_neg (by simpa using h0),if_neg h0]; rfl
def mayB (g:Grammar)(r:Rule)(o:Occurrence):Bool:=(q9B g r o).2&&decide ((q9B g r o).1.Mode=if o.Pos=0 then 1 else 2)
theorem j9v (g:Grammar){r:Rule}(hl:ROk r)(o:Occurrence):z3x g r o=some (mayB g r o):=by
 unfold z3x mayB
 rw [z5L g hl,Option.bind_some]
 dsimp only
 by_cases h0:o.Pos=0
 ·rw [if_pos h0,if_pos h0]
  by_cases h1:(q9B g r o).2=true
  ·rw [if_pos h1,h1]; rfl
  ·rw [if_neg h1,Bool.eq_false_iff.2 h1]; rfl
 ·rw [if_neg h0,if_neg h0]
  by_cases h1:(q9B g r o).2=true
  ·rw [if_pos h1,h1]; rfl
  ·rw [if_neg h1,Bool.eq_false_iff.2 h1]; rfl
theorem j9w {g:Grammar}(h:GOk g){r:Rule}(hl:ROk r)(o:Occurrence):z3D g r o=some (mayB g r o):=by
 unfold z3D mayB q9B
 rw [z3K,Option.bind_some]
 by_cases hp:0≤o.Pos∧o.Pos≤(r.Right.length:Int)
 ·rw [if_pos (by simpa using hp),if_pos hp,z3N hl,Option.bind_some,z1o h,Option.bind_some]
  dsimp only
  rw [z7X,Option.bind_some]
  skip
  by_cases h0:o.Pos=0
  ·rw [if_pos h0,if_pos h0]
   by_cases h1:(z0u (q7c g (q9A r o.Pos)).1 o.Name).2=true
   ·rw [if_pos h1,h1]; rfl
   ·rw [if_neg h1,Bool.eq_false_iff.2 h1]; rfl
  ·rw [if_neg h0,if_neg h0]
   by_cases h1:(z0u (q7c g (q9A r o.Pos)).1 o.Name).2=true
   ·rw [if_pos h1,h1]; rfl
   ·rw [if_neg h1,Bool.eq_false_iff.2 h1]; rfl
 ·rw [if_neg (by simpa using hp),if_neg hp]; rfl
def reqK (g:Grammar)(r:Rule)(k:Nat):List Occurrence:=((q7c g (q9A r (k:Int))).1.Attributes.filter fun a=>decide (a.Mode=if (k:Int)=0 then 2 else 1)).map fun a=>(⟨(k:Int),a.Name⟩:Occurrence)
def reqL (g:Grammar)(r:Rule):List Occurrence:=(List.range' 0 (r.Right.length+1)).flatMap (reqK g r)
theorem j3M {g:Grammar}(h:GOk g)(r:Rule)(k:Nat):(reqK g r k).length≤1048576:=by
 unfold reqK; rw [List.length_map]
 exact Nat.le_trans (List.length_filter_le _ _) (z5m h _)
theorem j6e {g:Grammar}(h:GOk g){r:Rule}(hl:ROk r):q9F g r=some (reqL g r):=by
 have hl' : r.Right.length≤1048576:=hl
 have key:=z9e (h:=reqK g r) (C:=1048576) (n:=r.Right.length+1) (f:=z3v g r) (fun k s hk hs=>by
  have hin:∀ m:Int,eachL (z3u k m) 0 (q7c g (q9A r (k:Int))).1.Attributes s=some (s++((q7c g (q9A r (k:Int))).1.Attributes.filter fun a=>decide (a.Mode=m)).map fun a=>(⟨(k:Int),a.Name⟩:Occurrence)):=fun m=>
   z3M (B:=4398046511104) (fun j x s hs=>by
    unfold z3u
    by_cases hm:x.Mode=m
    ·rw [if_pos hm,if_pos (by simpa using hm),q3o (by constructor<;>omega)]; rfl
    ·rw [if_neg hm,if_neg (by simpa using hm)]; rfl) _ 0 s (by have:=z5m h (q9A r (k:Int)); omega)
  unfold z3v reqK
  by_cases h0:(k:Int)=0
  ·rw [if_pos h0,if_pos h0,Option.bind_some,j0b hl,Option.bind_some,z2m,Option.bind_some]
   dsimp only
   rw [hin]; rfl
  ·rw [if_neg h0,if_neg h0,Option.bind_some,j0b hl,Option.bind_some,z2m,Option.bind_some]
   dsimp only
   rw [hin]; rfl) (fun k _=>j3M h r k) (r.Right.length+1) 0 [] (by omega) (by simp)
 unfold q9F
 rw [q3o (by constructor<;>omega),key]; rfl
theorem j2L {g:Grammar}(h:GOk g){r:Rule}(hl:ROk r):q4K g r=some (reqL g r):=by
 have hl' : r.Right.length≤1048576:=hl
 have key:=j1u (h:=reqK g r) (C:=1048576) (n:=r.Right.length+1) (f:=q5p g r) (fun k s hk hs=>by
  have hin2:eachL (q7k (k:Int)) 0 (q7c g (q9A r (k:Int))).1.Attributes s=some (s++((q7c g (q9A r (k:Int))).1.Attributes.filter fun a=>decide (a.Mode=2)).map fun a=>(⟨(k:Int),a.Name⟩:Occurrence)):=
   z3M (B:=4398046511104) (fun j x s hs=>by
    unfold q7k
    by_cases hm:x.Mode=2
    ·rw [if_pos hm,if_pos (by simpa using hm),q3o (by constructor<;>omega)]; rfl
    ·rw [if_neg hm,if_neg (by simpa using hm)]; rfl) _ 0 s (by have:=z5m h (q9A r (k:Int)); omega)
  have hin1:eachL (q7l (k:Int)) 0 (q7c g (q9A r (k:Int))).1.Attributes s=some (s++((q7c g (q9A r (k:Int))).1.Attributes.filter fun a=>decide (a.Mode=1)).map fun a=>(⟨(k:Int),a.Name⟩:Occurrence)):=
   z3M (B:=4398046511104) (fun j x s hs=>by
    unfold q7l
    by_cases hm:x.Mode=1
    ·rw [if_pos hm,if_pos (by simpa using hm),q3o (by constructor<;>omega)]; rfl
    ·rw [if_neg hm,if_neg (by simpa using hm)]; rfl) _ 0 s (by have:=z5m h (q9A r (k:Int)); omega)
  unfold q5p reqK
  dsimp only
  rw [if_pos (by omega),z3N hl,Option.bind_some,z1o h,Option.bind_some]
  skip
  by_cases h0:(k:Int)=0
  ·rw [if_pos h0,if_pos h0,hin2,Option.bind_some,Option.bind_some,q3o (by constructor<;>omega)]; rfl
  ·rw [if_neg h0,if_neg h0,hin1,Option.bind_some,Option.bind_some,q3o (by constructor<;>omega)]; rfl) (fun s=>by
  unfold q5p; dsimp only; rw [if_neg (by omega)]) (fun k _=>j3M h r k) (r.Right.length+1) 0 [] (by omega) (by simp)
 unfold q4K
 have e:q5m (q5p g r) (([]:List Occurrence),0)=some ([]++(List.range' 0 (r.Right.length+1)).flatMap (reqK g r)):=key
 rw [e]; rfl
end Go.Proofs.YtibagkppfnjgcaaGreat
namespace Go.Proofs.YtibagkppfnjgcaaGreat
open Go Go.E
theorem q4J {α:Type}{q:α→Bool}{xs:List α}{f:Nat→α→Unit→Option (Unit ⊕ Int)}(h:∀ k x,x∈xs→f k x ()=some (if q x=true then .inr (k:Int) else .inl ())) :
  ((findL f 0 xs ()).bind <| onr (fun r1=>some r1) fun _=>some (-1)).bind (fun y1=>some (decide (0≤y1)))=some (xs.any q):=by
 rw [z7S h]
 cases hq:xs.any q with
 | true=>
  have:(0:Int)≤((0+xs.findIdx q:Nat):Int):=Int.natCast_nonneg _
  rw [if_pos rfl,Option.bind_some,z6K,Option.bind_some,decide_eq_true this]
 | false=>rfl
def q4s {α:Type}(bad:List α→α→Bool):List α→List α→Option Nat
 | _,[]=>none
 | pre,x :: xs=>if bad pre x=true then some pre.length else q4s bad (pre++[x]) xs
theorem z2n {α β ρ:Type}{bad:List α→α→Bool}{nm:α→β}{c:Nat→ρ}{all:List α}{f:Nat→α→Unit→Option (Unit ⊕ ρ)}{h:Nat→α→List β→Option (List β ⊕ ρ)}
  (hf:∀ pre x post,all=pre++x :: post→f pre.length x ()=some (if bad pre x=true then .inr (c pre.length) else .inl ()))
  (hh:∀ pre x post,all=pre++x :: post→h pre.length x (pre.map nm)=some (if bad pre x=true then .inr (c pre.length) else .inl ((pre++[x]).map nm))) :
  ∀ (ys pre:List α),all=pre++ys→findL f pre.length ys ()=some (match q4s bad pre ys with | none=>.inl () | some k=>.inr (c k)) ∧
   findL h pre.length ys (pre.map nm)=some (match q4s bad pre ys with | none=>.inl (all.map nm) | some k=>.inr (c k))
 | [],pre,e=>by
  rw [List.append_nil] at e
  subst e; exact⟨rfl,rfl⟩
 | x :: ys,pre,e=>by
  have h1:=hf pre x ys e
  have h2:=hh pre x ys e
  by_cases hb:bad pre x=true
  ·rw [if_pos hb] at h1 h2
   simp only [findL,h1,h2,q4s,hb,if_true,Option.bind_some]
   exact⟨trivial,trivial⟩
  ·rw [if_neg hb] at h1 h2
   have ih:=z2n hf hh ys (pre++[x]) (by rw [e]; simp)
   simp only [List.length_append,List.length_cons,List.length_nil,Nat.zero_add] at ih
   simp only [findL,h1,h2,q4s,hb,Option.bind_some]
   exact ih
theorem j3N {α:Type}{a:α→Bool}{b:List α→α→Bool}:∀ (xs pre:List α),(q4s (fun p x=>a x||b p x) pre xs).isNone=(xs.all (fun x=>!a x)&&(q4s b pre xs).isNone)
 | [],pre=>rfl
 | x :: xs,pre=>by
  have ih:=j3N (a:=a) (b:=b) xs (pre++[x])
  simp only [q4s,List.all_cons]
  by_cases ha:a x=true
  ·simp [ha]
  ·by_cases hb:b pre x=true
   ·simp [ha,hb]
   ·simpa [ha,hb] using ih
def dupB {α:Type}(nm:α→ByteArray)(pre:List α)(x:α):Bool:=pre.any fun o=>decide (nm o=nm x)
def j2M {α:Type}(nm:α→ByteArray)(xs:List α):Bool:=(q4s (dupB nm) [] xs).isNone
theorem j1v {α:Type}{nm:α→ByteArray}:∀ (xs pre:List α),(q4s (dupB id) (pre.map nm) (xs.map nm))=q4s (dupB nm) pre xs
 | [],pre=>rfl
 | x :: xs,pre=>by
  have ih:=j1v (nm:=nm) xs (pre++[x])
  have e:dupB id (pre.map nm) (nm x)=dupB nm pre x:=by simp [dupB,List.any_map,Function.comp_def]
  rw [List.map_cons,q4s,q4s,e,List.length_map]
  rw [List.map_append] at ih
  rw [show [nm x]=[x].map nm from rfl,ih]
theorem z3O {α ρ:Type}{bad:List α→α→Bool}{c:Nat→ρ}{all:List α}{f:Nat→α→Unit→Option (Unit ⊕ ρ)}
  (hf:∀ pre x post,all=pre++x :: post→f pre.length x ()=some (if bad pre x=true then .inr (c pre.length) else .inl ())) :
  ∀ (ys pre:List α),all=pre++ys→findL f pre.length ys ()=some (match q4s bad pre ys with | none=>.inl () | some k=>.inr (c k)):=fun ys pre e=>
 (z2n (nm:=fun _=>()) (h:=fun k x s=>(f k x ()).map fun | .inl _=>.inl (s++[()]) | .inr r=>.inr r) hf (fun pre x post e=>by
  rw [hf pre x post e]
  by_cases hb:bad pre x=true
  ·rw [if_pos hb,if_pos hb]; rfl
  ·rw [if_neg hb,if_neg hb]; simp) ys pre e).1
theorem j6f (l:List ByteArray)(s:ByteArray):q9P l s=some (l.any fun o=>decide (o=s)):=by
 unfold q9P
 rw [q3O (c:=true) (q:=fun o=>!decide (o=s)) fun k x hx=>by
  unfold z4R
  by_cases h:x=s
  ·rw [if_pos h,if_neg (by simp [h])]
  ·rw [if_neg h,if_pos (by simp [h])]]
 have e:(l.all fun o=>!decide (o=s))=!(l.any fun o=>decide (o=s)):=by rw [List.not_any_eq_all_not]
 rw [e]
 cases l.any fun o=>decide (o=s)<;>rfl
theorem j4P (l:List ByteArray):q8B l=some (j2M id l):=by
 unfold q8B j2M
 rw [show findL (q9o l) 0 l ()=_ from z3O (bad:=dupB id) (c:=fun _=>false) (all:=l) (f:=q9o l) (fun pre x post e=>by
  unfold q9o
  rw [q3o (by rw [e]; simp),show l.take pre.length=pre by rw [e]; simp,j6f,Option.bind_some,← apply_ite some]; rfl) l [] rfl]
 cases q4s (dupB id) [] l<;>rfl
def z1t (a:Attribute):Bool:=q7v a.Name&&(decide (1≤a.Type_∧a.Type_≤4)&&(decide (1≤a.Mode∧a.Mode≤3)&&if a.Mode=3 then decide (a.Type_=2) && !a.Circular else !a.Circular||decide (a.Type_=2)))
theorem j6g (a:Attribute):q6s a=some (z1t a):=by
 unfold q6s z1t z2e
 rw [z0G,Option.bind_some]
 cases q7v a.Name with
 | false=>rfl
 | true=>
  rw [if_pos rfl,z5Y,Option.bind_some,Option.bind_some,Option.bind_some]
  by_cases h1:1≤a.Type_∧a.Type_≤4
  ·rw [decide_eq_true h1,Bool.not_true,if_neg (by simp),z5Y,Option.bind_some,Option.bind_some]
   by_cases h2:1≤a.Mode∧a.Mode≤3
   ·rw [decide_eq_true h2,Bool.not_true,if_neg (by simp)]
    by_cases h3:a.Mode=3
    ·rw [if_pos h3,if_pos h3]
     by_cases h4:a.Type_=2
     ·rw [if_pos h4,decide_eq_true h4]; simp
     ·rw [if_neg h4,decide_eq_false h4]; rfl
    ·rw [if_neg h3,if_neg h3]
     cases hc:a.Circular with
     | true=>rw [if_pos rfl]; simp
     | false=>rw [if_neg (by simp)]; simp
   ·rw [decide_eq_false h2]; rfl
  ·rw [decide_eq_false h1]; rfl
theorem j6h (a:Attribute):q6v a=some (z1t a):=by
 unfold q6v z1t
 rw [q9y,Option.bind_some]
 cases q7v a.Name with
 | false=>rfl
 | true=>
  rw [if_pos rfl,z3K,Option.bind_some,Option.bind_some]
  by_cases h1:1≤a.Type_∧a.Type_≤4
  ·rw [decide_eq_true h1,Bool.not_true,if_neg (by simp),z3K,Option.bind_some,Option.bind_some]
   by_cases h2:1≤a.Mode∧a.Mode≤3
   ·rw [decide_eq_true h2,Bool.not_true,if_neg (by simp)]
    by_cases h3:a.Mode=3
    ·rw [if_pos h3,if_pos h3]
     by_cases h4:a.Type_=2
     ·rw [if_pos h4,decide_eq_true h4]
      cases hc:a.Circular with
      | true=>rfl
      | false=>rfl
     ·rw [if_neg h4,decide_eq_false h4]; rfl
    ·rw [if_neg h3,if_neg h3]
     cases hc:a.Circular with
     | true=>simp
     | false=>simp
   ·rw [decide_eq_false h2]; rfl
  ·rw [decide_eq_false h1]; rfl
def symB (s:Symbol):Bool:=s.Attributes.all z1t&&(q7v s.Name&&(decide (s.Attributes.length≤4)&&j2M (fun a:Attribute=>a.Name) s.Attributes))
theorem j7E (s:Symbol):q7B s=some (symB s):=by
 unfold q7B symB
 rw [show findL (q8e s) 0 s.Attributes ()=_ from z3O (bad:=fun p x=>!z1t x||dupB (fun a:Attribute=>a.Name) p x) (c:=fun _=>false) (all:=s.Attributes) (f:=q8e s) (fun pre x post e=>by
  unfold q8e
  rw [j6g,Option.bind_some]
  cases z1t x with
  | false=>rfl
  | true=>
   rw [if_pos rfl,q3o (by rw [e]; simp),show s.Attributes.take pre.length=pre by rw [e]; simp]
   unfold q3J q3P
   rw [q4J (q:=fun o:Attribute=>decide (o.Name=x.Name)) fun k y hy=>by
    unfold q5f q7O
    rw [Option.bind_some]
    by_cases h:y.Name=x.Name
    ·rw [decide_eq_true h]; rfl
    ·rw [decide_eq_false h]; rfl]
   rw [Option.bind_some,← apply_ite some]; rfl) s.Attributes [] rfl]
 have hor:=j3N (a:=fun x:Attribute=>!z1t x) (b:=dupB (fun a:Attribute=>a.Name)) s.Attributes []
 simp only [Bool.not_not] at hor
 have e2:(s.Attributes.all fun x=>z1t x)=s.Attributes.all z1t:=rfl
 unfold j2M
 rw [e2] at hor
 cases hb:q4s (fun p x=>!z1t x||dupB (fun a:Attribute=>a.Name) p x) [] s.Attributes with
 | some k=>
  rw [hb] at hor
  show some false=_
  have:(s.Attributes.all z1t&&(q4s (dupB fun a:Attribute=>a.Name) [] s.Attributes).isNone)=false:=hor.symm
  congr 1
  cases h1:s.Attributes.all z1t with
  | false=>rfl
  | true=>rw [h1] at this; simp at this; simp [this]
 | none=>
  rw [hb] at hor
  have:(s.Attributes.all z1t&&(q4s (dupB fun a:Attribute=>a.Name) [] s.Attributes).isNone)=true:=hor.symm
  rw [Bool.and_eq_true] at this
  show ((q4e s.Name).bind _)=_
  rw [z0G,Option.bind_some,this.1,this.2]
  cases q7v s.Name with
  | false=>rfl
  | true=>
   rw [if_pos rfl,Option.bind_some]
   congr 1
   simp; omega
theorem j7F {s:Symbol}(h:s.Attributes.length≤1048576):q7D s=some (symB s):=by
 unfold q7D symB
 have hloop:∀ (ys:List Attribute) (i:Nat) (t:List ByteArray),t.length+ys.length≤1048576→findL q8k i ys t=some (if ys.all z1t=true then .inl (t++ys.map fun a=>a.Name) else .inr false):=by
  intro ys
  induction ys with
  | nil=>intro i t _; simp [findL]
  | cons y ys ih=>
   intro i t ht
   simp only [List.length_cons] at ht
   simp only [findL]
   have e:q8k i y t=some (if z1t y=true then .inl (t++[y.Name]) else .inr false):=by
    unfold q8k
    rw [j6h,Option.bind_some]
    cases z1t y with
    | false=>rfl
    | true=>rw [if_pos rfl,if_pos rfl,q3o (by constructor<;>omega)]
   rw [e,Option.bind_some]
   by_cases hy:z1t y=true
   ·rw [if_pos hy,show (y :: ys).all z1t=ys.all z1t by simp [hy]]
    dsimp only
    rw [ih _ _ (by simp; omega)]
    simp
   ·rw [if_neg hy,show (y :: ys).all z1t=false by simp [hy]]; rfl
 rw [hloop _ _ _ (by simpa using h)]
 cases hA:s.Attributes.all z1t with
 | false=>rfl
 | true=>
  rw [if_pos rfl,Option.bind_some,q9E,List.nil_append,q9y,Option.bind_some]
  cases q7v s.Name with
  | false=>rfl
  | true=>
   rw [if_pos rfl,Option.bind_some,List.length_map]
   by_cases hl:s.Attributes.length≤4
   ·rw [decide_eq_true (by omega:(s.Attributes.length:Int)≤4),if_pos rfl,j4P,Option.bind_some,Option.bind_some,decide_eq_true hl]
    have:=j1v (nm:=fun a:Attribute=>a.Name) s.Attributes []
    unfold j2M
    rw [List.map_nil] at this
    rw [this]; rfl
   ·rw [decide_eq_false (by omega:¬ (s.Attributes.length:Int)≤4),if_neg (by simp),decide_eq_false hl]; rfl
end Go.Proofs.YtibagkppfnjgcaaGreat
namespace Go.Proofs.YtibagkppfnjgcaaGreat
open Go Go.E
theorem z5o {r:Rule}{q:Contribution}(h:q∈r.Contributions):Sz.szd q.Target≤Sz.szd r∧Sz.szd q.Value≤Sz.szd r:=by
 have h1:=z5f r
 have h2:=z2V q
 have h3:=z5i h
 have h4:=q5K q.Target
 have h5:=q5K q.Value
 omega
theorem z1P {g:Grammar}{r:Rule}(h:r∈g.Rules):Sz.szd r≤Sz.szd g:=by
 have h1:=z2E g
 have h3:=z5i h
 omega
theorem j8G {r:Rule}(h:Sz.szd r≤1048576):r.Equations.length≤1048576∧r.Contributions.length≤1048576:=by
 have h1:=z5f r
 have h2:=q6C r.Equations
 have h3:=q6C r.Contributions
 omega
def q8s (n:Int)(e:Expr):Bool:=allE (fun x=>decide (x.Pos≤n)) e
theorem j2N (n:Int)(e:Expr):∀ m,fuE e≤m→q6o m e n=some (q8s n e):=by
 induction e using q8m with
 | h e ih=>
  intro m hm
  obtain⟨m,rfl⟩:∃ q,m=q+1:=⟨m - 1,by have:=z1C e; omega⟩
  show q7X (q6o m) e n=_
  unfold q7X
  rw [q3O (c:=false) (q:=q8s n) fun k x hx=>by
   unfold q7W
   rw [ih x hx m (by have:=z1m hx; omega),Option.bind_some]
   cases q8s n x<;>rfl]
  have e1:q8s n e=(decide (e.Pos≤n)&&e.Args.all (q8s n)):=by unfold q8s; rw [z5F]
  rw [e1,Option.bind_some]
  cases e.Args.all (q8s n) with
  | true=>rw [if_pos rfl,q9E,Bool.and_true]
  | false=>rw [if_neg (by simp),z6K,Bool.and_false]
theorem j4Q (n:Int)(e:Expr):z2x e n=some (q8s n e):=q7j (fuE e) fun m hm=>j2N n e m hm
theorem j2O (n:Int)(e:Expr):∀ m,fuE e≤m→q5V m e n=some (q8s n e):=by
 induction e using q8m with
 | h e ih=>
  intro m hm
  obtain⟨m,rfl⟩:∃ q,m=q+1:=⟨m - 1,by have:=z1C e; omega⟩
  show q5U (q5V m) e n=_
  unfold q5U q3N q3S z4W
  have e1:q8s n e=(decide (e.Pos≤n)&&e.Args.all (q8s n)):=by unfold q8s; rw [z5F]
  rw [Option.bind_some,e1]
  cases decide (e.Pos≤n) with
  | false=>rfl
  | true=>
   rw [if_pos rfl,q4J (q:=fun x=>!q8s n x) fun k x hx=>by
    unfold q5j q6y
    rw [ih x hx m (by have:=z1m hx; omega),Option.bind_some,Option.bind_some]
    cases q8s n x<;>rfl]
   rw [Bool.true_and,← z7U]; rfl
theorem j4R (n:Int)(e:Expr):q8p e n=some (q8s n e):=q7j (fuE e) fun m hm=>j2O n e m hm
def z1S (e:Expr)(n:Int):Bool:=z7V e&&q8s n e
theorem j0c {e:Expr}(h:Sz.szd e≤1048576)(n:Int):z4w e n=some (z1S e n):=by
 unfold z4w z1S
 have:=j8E h
 rw [j5V (by omega),Option.bind_some]
 cases z7V e with
 | false=>rfl
 | true=>rw [if_pos rfl,j4R]; rfl
theorem j0d {e:Expr}(h:Sz.szd e≤1048576)(n:Int):q8v e n=some (z1S e n):=by
 unfold q8v z1S
 have:=j8E h
 rw [z5l (by omega),Option.bind_some]
 cases z7V e with
 | false=>rfl
 | true=>rw [if_pos rfl,j4Q]; rfl
def eqnB (n:Int)(q:Equation):Bool:=z1S q.Expr n&&(q7v q.At.Name&&decide (0≤q.At.Pos∧q.At.Pos≤n))
def conB (n:Int)(q:Contribution):Bool:=(z1S q.Target n&&z1S q.Value n)&&(q7v q.Symbol&&q7v q.Name)
def ruleB (r:Rule):Bool:=(q7v r.Name&&q7v r.Left)&&((decide (r.Right.length≤3)&&decide (r.Contributions.length≤2))&&(r.Right.all q7v&&(r.Equations.all (eqnB (r.Right.length:Int))&&r.Contributions.all (conB (r.Right.length:Int)))))
theorem j1w {α β γ:Type}{p:α→Bool}{q:β→Bool}{t:γ→Bool}(xs:List α)(ys:List β)(zs:List γ) :
  ((some (if xs.all p=true then (.inl ():Unit ⊕ Bool) else .inr false)).bind <| onr (fun r1=>some r1) fun _=>
   (some (if ys.all q=true then (.inl ():Unit ⊕ Bool) else .inr false)).bind <| onr (fun r1=>some r1) fun _=>
   (some (if zs.all t=true then (.inl ():Unit ⊕ Bool) else .inr false)).bind <| onr (fun r1=>some r1) fun _=>some true)=some (xs.all p&&(ys.all q&&zs.all t)):=by
 cases xs.all p<;>cases ys.all q<;>cases zs.all t<;>rfl
theorem j6i {r:Rule}(h:Sz.szd r≤1048576):q8y r=some (ruleB r):=by
 unfold q8y ruleB
 rw [z0G,Option.bind_some]
 cases q7v r.Name with
 | false=>rfl
 | true=>
  rw [if_pos rfl,z0G,Option.bind_some,Option.bind_some]
  cases q7v r.Left with
  | false=>rfl
  | true=>
   rw [Bool.not_true,if_neg (by simp),Option.bind_some]
   by_cases h3:r.Right.length≤3
   ·rw [decide_eq_true h3,decide_eq_false (by omega),if_neg (by simp),Option.bind_some]
    by_cases h2:r.Contributions.length≤2
    ·rw [decide_eq_true h2,decide_eq_false (by omega),if_neg (by simp)]
     rw [q3O (c:=false) (q:=q7v) fun k x hx=>by
      unfold z3r; rw [z0G,Option.bind_some]; cases q7v x<;>rfl]
     rw [q3O (c:=false) (q:=eqnB (r.Right.length:Int)) fun k x hx=>by
      unfold z3s eqnB
      rw [j0c (Nat.le_trans (z2H hx) h),Option.bind_some]
      cases z1S x.Expr (r.Right.length:Int) with
      | false=>rfl
      | true=>
       rw [if_pos rfl,z0G,Option.bind_some,Option.bind_some]
       cases q7v x.At.Name with
       | false=>rfl
       | true=>
        rw [Bool.not_true,if_neg (by simp),z5Y,Option.bind_some,Option.bind_some]
        cases decide (0≤x.At.Pos∧x.At.Pos≤(r.Right.length:Int))<;>rfl]
     rw [q3O (c:=false) (q:=conB (r.Right.length:Int)) fun k x hx=>by
      have hs:=z5o hx
      unfold z3t conB
      rw [j0c (Nat.le_trans hs.1 h),Option.bind_some]
      cases z1S x.Target (r.Right.length:Int) with
      | false=>rfl
      | true=>
       rw [if_pos rfl,j0c (Nat.le_trans hs.2 h),Option.bind_some,Option.bind_some]
       cases z1S x.Value (r.Right.length:Int) with
       | false=>rfl
       | true=>
        rw [Bool.not_true,if_neg (by simp),z0G,Option.bind_some,Option.bind_some]
        cases q7v x.Symbol with
        | false=>rfl
        | true=>
         rw [Bool.not_true,if_neg (by simp),z0G,Option.bind_some,Option.bind_some]
         cases q7v x.Name<;>rfl]
     exact j1w _ _ _
    ·rw [decide_eq_false h2,decide_eq_true (by omega)]; rfl
   ·rw [decide_eq_false h3,decide_eq_true (by omega)]; rfl
theorem j6j {r:Rule}(h:Sz.szd r≤1048576):q8C r=some (ruleB r):=by
 unfold q8C ruleB
 rw [q9y,Option.bind_some]
 cases q7v r.Name with
 | false=>rfl
 | true=>
  rw [if_pos rfl,q9y,Option.bind_some,Option.bind_some]
  cases q7v r.Left with
  | false=>rfl
  | true=>
   rw [Bool.not_true,if_neg (by simp),Option.bind_some]
   by_cases h3:r.Right.length≤3
   ·rw [decide_eq_true h3,decide_eq_false (by omega),if_neg (by simp),Option.bind_some]
    by_cases h2:r.Contributions.length≤2
    ·rw [decide_eq_true h2,decide_eq_false (by omega),if_neg (by simp)]
     rw [q3O (c:=false) (q:=q7v) fun k x hx=>by
      unfold z3z; rw [q9y,Option.bind_some]; cases q7v x<;>rfl]
     rw [q3O (c:=false) (q:=eqnB (r.Right.length:Int)) fun k x hx=>by
      unfold z3A eqnB
      rw [q9y,Option.bind_some]
      cases q7v x.At.Name with
      | false=>rw [Bool.false_and,Bool.and_false]; rfl
      | true=>
       rw [if_pos rfl,z3K,Option.bind_some,Option.bind_some]
       cases decide (0≤x.At.Pos∧x.At.Pos≤(r.Right.length:Int)) with
       | false=>rw [Bool.and_false,Bool.and_false]; rfl
       | true=>
        rw [Bool.not_true,if_neg (by simp),j0d (Nat.le_trans (z2H hx) h),Option.bind_some,Option.bind_some]
        cases z1S x.Expr (r.Right.length:Int)<;>rfl]
     rw [q3O (c:=false) (q:=conB (r.Right.length:Int)) fun k x hx=>by
      have hs:=z5o hx
      unfold z3B conB
      rw [q9y,Option.bind_some]
      cases q7v x.Symbol with
      | false=>rw [Bool.false_and,Bool.and_false]; rfl
      | true=>
       rw [if_pos rfl,q9y,Option.bind_some,Option.bind_some]
       cases q7v x.Name with
       | false=>rw [Bool.and_false,Bool.and_false]; rfl
       | true=>
        rw [Bool.not_true,if_neg (by simp),j0d (Nat.le_trans hs.1 h),Option.bind_some,Option.bind_some]
        cases z1S x.Target (r.Right.length:Int) with
        | false=>rfl
        | true=>
         rw [Bool.not_true,if_neg (by simp),j0d (Nat.le_trans hs.2 h),Option.bind_some,Option.bind_some]
         cases z1S x.Value (r.Right.length:Int)<;>rfl]
     exact j1w _ _ _
    ·rw [decide_eq_false h2,decide_eq_true (by omega)]; rfl
   ·rw [decide_eq_false h3,decide_eq_true (by omega)]; rfl
def z2o (p:List Symbol)(x:Symbol):Bool:=!symB x||dupB (fun y:Symbol=>y.Name) p x
def z0y (p:List Rule)(x:Rule):Bool:=!ruleB x||dupB (fun y:Rule=>y.Name) p x
def z4o (g:Grammar):Int:=match q4s z2o [] g.Symbols with
 | some k=>(k:Int)
 | none=>match q4s z0y [] g.Rules with
  | some k=>(k:Int)
  | none=>-1
theorem j6k {g:Grammar}(h:Sz.szd g≤1048576):q9d g=some (z4o g):=by
 unfold q9d z4o
 rw [show findL (q9Q g) 0 g.Symbols ()=_ from z3O (bad:=z2o) (c:=fun k=>(k:Int)) (all:=g.Symbols) (f:=q9Q g) (fun pre x post e=>by
  unfold q9Q z2o
  rw [j7E,Option.bind_some]
  cases symB x with
  | false=>rfl
  | true=>
   rw [if_pos rfl,q3o (by rw [e]; simp),show g.Symbols.take pre.length=pre by rw [e]; simp]
   unfold q3Y q4p
   rw [q4J (q:=fun o:Symbol=>decide (o.Name=x.Name)) fun k y hy=>by
    unfold q5B q9a
    rw [Option.bind_some]
    by_cases h:y.Name=x.Name
    ·rw [decide_eq_true h]; rfl
    ·rw [decide_eq_false h]; rfl]
   rw [Option.bind_some,← apply_ite some]; rfl) g.Symbols [] rfl]
 rw [show findL (q9R g) 0 g.Rules ()=_ from z3O (bad:=z0y) (c:=fun k=>(k:Int)) (all:=g.Rules) (f:=q9R g) (fun pre x post e=>by
  unfold q9R z0y
  rw [j6i (Nat.le_trans (z1P (by rw [e]; simp)) h),Option.bind_some]
  cases ruleB x with
  | false=>rfl
  | true=>
   rw [if_pos rfl,q3o (by rw [e]; simp),show g.Rules.take pre.length=pre by rw [e]; simp]
   unfold q4i q4v
   rw [q4J (q:=fun o:Rule=>decide (o.Name=x.Name)) fun k y hy=>by
    unfold q5J q9c
    rw [Option.bind_some]
    by_cases h:y.Name=x.Name
    ·rw [decide_eq_true h]; rfl
    ·rw [decide_eq_false h]; rfl]
   rw [Option.bind_some,← apply_ite some]; rfl) g.Rules [] rfl]
 cases q4s z2o [] g.Symbols with
 | some k=>rfl
 | none=>cases q4s z0y [] g.Rules<;>rfl
theorem j0e {g:Grammar}(h:Sz.szd g≤1048576):g.Symbols.length≤1048576∧g.Rules.length≤1048576:=by
 have h1:=z2E g
 have h2:=q6C g.Symbols
 have h3:=q6C g.Rules
 omega
theorem j6l {g:Grammar}(h:Sz.szd g≤1048576):z3C g=some (z4o g):=by
 have hl:=j0e h
 unfold z3C z4o
 have h1:=(z2n (bad:=z2o) (nm:=fun y:Symbol=>y.Name) (c:=fun k=>(k:Int)) (all:=g.Symbols) (f:=fun k x _=>some (if z2o (g.Symbols.take k) x=true then .inr (k:Int) else .inl ())) (h:=z4a) (fun pre x post e=>by
   rw [show g.Symbols.take pre.length=pre by rw [e]; simp]) (fun pre x post e=>by
  unfold z4a z2o
  rw [j7F (z3L h x (by rw [e]; simp)),Option.bind_some]
  cases symB x with
  | false=>rfl
  | true=>
   have hp:pre.length≤1048576:=by
     have:g.Symbols.length=pre.length+(post.length+1):=by rw [e]; simp
     omega
   rw [if_pos rfl,j6f,Option.bind_some,List.any_map,q3o (by rw [List.length_map]; constructor<;>omega),List.map_append,← apply_ite some]; rfl) g.Symbols [] rfl).2
 have h2:=(z2n (bad:=z0y) (nm:=fun y:Rule=>y.Name) (c:=fun k=>(k:Int)) (all:=g.Rules) (f:=fun k x _=>some (if z0y (g.Rules.take k) x=true then .inr (k:Int) else .inl ())) (h:=z4b) (fun pre x post e=>by
   rw [show g.Rules.take pre.length=pre by rw [e]; simp]) (fun pre x post e=>by
  unfold z4b z0y
  rw [j6j (Nat.le_trans (z1P (by rw [e]; simp)) h),Option.bind_some]
  cases ruleB x with
  | false=>rfl
  | true=>
   have hp:pre.length≤1048576:=by
     have:g.Rules.length=pre.length+(post.length+1):=by rw [e]; simp
     omega
   rw [if_pos rfl,j6f,Option.bind_some,List.any_map,q3o (by rw [List.length_map]; constructor<;>omega),List.map_append,← apply_ite some]; rfl) g.Rules [] rfl).2
 rw [show findL z4a 0 g.Symbols []=_ from h1,show findL z4b 0 g.Rules []=_ from h2]
 cases q4s z2o [] g.Symbols with
 | some k=>rfl
 | none=>cases q4s z0y [] g.Rules<;>rfl
end Go.Proofs.YtibagkppfnjgcaaGreat
namespace Go.Proofs.YtibagkppfnjgcaaGreat
open Go Go.E
theorem j1x {ρ:Type}{c:ρ}{q:Nat→Bool}{n:Nat}{f:Nat→Unit→Option (Unit ⊕ ρ)}(h:∀ k,k < n→f k ()=some (if q k=true then .inl () else .inr c)):∀ (m k:Nat),k+m=n→findN f k m ()=some (if (List.range' k m).all q=true then .inl () else .inr c)
 | 0,k,_=>rfl
 | m+1,k,hk=>by
  have ih:=j1x h m (k+1) (by omega)
  rw [findN,h k (by omega),Option.bind_some]
  by_cases hq:q k=true
  ·rw [if_pos hq,show (List.range' k (m+1)).all q=(List.range' (k+1) m).all q by simp [List.range'_succ,hq]]
   exact ih
  ·rw [if_neg hq,show (List.range' k (m+1)).all q=false by simp [List.range'_succ,hq]]; rfl
theorem j0f {ρ:Type}{c:ρ}{q:Nat→Bool}{n:Nat}{f:Int→Option (Int ⊕ (Unit ⊕ ρ))}(h:∀ k:Nat,k < n→f (k:Int)=some (if q k=true then .inl ((k+1:Nat):Int) else .inr (.inr c)))(he:f (n:Int)=some (.inr (.inl ()))):∀ (m k:Nat),k+m=n→q5m f (k:Int)=some (if (List.range' k m).all q=true then .inl () else .inr c)
 | 0,k,hk=>by
  obtain rfl:k=n:=by omega
  exact q4u he
 | m+1,k,hk=>by
  have ih:=j0f h he m (k+1) (by omega)
  have h1:=h k (by omega)
  by_cases hq:q k=true
  ·rw [if_pos hq] at h1
   rw [q4U h1,show (List.range' k (m+1)).all q=(List.range' (k+1) m).all q by simp [List.range'_succ,hq]]
   exact ih
  ·rw [if_neg hq] at h1
   rw [q4u h1,show (List.range' k (m+1)).all q=false by simp [List.range'_succ,hq]]; rfl
def z9f (g:Grammar)(r:Rule):Bool:=(List.range' 0 (r.Right.length+1)).all fun k=>(q7c g (q9A r (k:Int))).2
theorem j2P (g:Grammar){r:Rule}(hl:ROk r):z2f g r=some (!z9f g r):=by
 have hl' : r.Right.length≤1048576:=hl
 unfold z2f
 rw [q3o (by constructor<;>omega),j1x (c:=true) (n:=r.Right.length+1) (q:=fun k=>(q7c g (q9A r (k:Int))).2) (fun k hk=>by
  unfold z7s
  rw [j0b hl,Option.bind_some,z2m,Option.bind_some]
  dsimp only
  rw [← apply_ite some]) (r.Right.length+1) 0 (by omega)]
 unfold z9f
 cases (List.range' 0 (r.Right.length+1)).all fun k=>(q7c g (q9A r (k:Int))).2<;>rfl
theorem j2Q {g:Grammar}(h:GOk g){r:Rule}(hl:ROk r):q9p g r=some (z9f g r):=by
 have hl' : r.Right.length≤1048576:=hl
 unfold q9p
 have e:=j0f (c:=false) (q:=fun k=>(q7c g (q9A r (k:Int))).2) (n:=r.Right.length+1) (f:=q8D g r) (fun k hk=>by
  unfold q8D
  rw [if_pos (by omega),z3N hl,Option.bind_some,z1o h,Option.bind_some]
  dsimp only
  rw [q3o (by constructor<;>omega),← apply_ite some]; rfl) (by
  unfold q8D; rw [if_neg (by omega)]) (r.Right.length+1) 0 (by omega)
 rw [show q5m (q8D g r) 0=_ from e]
 unfold z9f
 cases (List.range' 0 (r.Right.length+1)).all fun k=>(q7c g (q9A r (k:Int))).2<;>rfl
theorem j6m (K:List Occurrence)(o:Occurrence):q3D K o=some (decide (o∈K)):=by
 unfold q3D q4H
 rw [q4J (q:=fun x=>decide (o=x)) fun k x hx=>by
  unfold q5v
  by_cases h:o=x
  ·rw [if_pos h,if_pos (by simpa using h)]
  ·rw [if_neg h,if_neg (by simpa using h)]]
 congr 1
 by_cases h:o∈K
 ·rw [decide_eq_true h,List.any_eq_true]; exact⟨o,h,by simp⟩
 ·rw [decide_eq_false h,List.any_eq_false]; intro x hx he; simp at he; exact h (he▸hx)
theorem j0g (K:List Occurrence)(o:Occurrence):q6p K o=some (decide (o∈K)):=by
 unfold q6p
 rw [q3O (c:=true) (q:=fun x=>!decide (x=o)) fun k x hx=>by
  unfold z0e
  by_cases h:x=o
  ·rw [if_pos h,if_neg (by simp [h])]
  ·rw [if_neg h,if_pos (by simp [h])]]
 by_cases h:o∈K
 ·rw [decide_eq_true h,if_neg]; · rfl
  rw [List.all_eq_true]; intro hh; have:=hh o h; simp at this
 ·rw [decide_eq_false h,if_pos]; · rfl
  rw [List.all_eq_true]; intro x hx; simp; exact fun e=>h (e▸hx)
def j1y (r:Rule)(o:Occurrence):Bool:=r.Equations.any fun q=>decide (q.At=o)
theorem j7G (r:Rule)(o:Occurrence):(eqAt r o).2=j1y r o:=by
 unfold eqAt j1y
 cases hf:r.Equations.find? (fun q=>decide (q.At=o)) with
 | none=>rw [List.find?_eq_none] at hf; symm; rw [List.any_eq_false]; exact hf
 | some q=>symm; rw [List.any_eq_true]; exact⟨q,List.mem_of_find?_eq_some hf,List.find?_some (p:=fun q:Equation=>decide (q.At=o)) hf⟩
def j6n (g:Grammar)(r:Rule):Bool:=(reqL g r).any fun o=>!j1y r o
theorem j7H {g:Grammar}(h:GOk g){r:Rule}(hl:ROk r):z2g g r=some (j6n g r):=by
 unfold z2g j6n
 rw [j6e h hl,Option.bind_some]
 unfold q3X q4k
 rw [q4J (q:=fun o=>!j1y r o) fun k o ho=>by
  unfold q5x z1x q3W q4j
  rw [q4J (q:=fun q:Equation=>decide (q.At=o)) fun k y hy=>by
   unfold q5w q9S
   rw [Option.bind_some]
   by_cases h:y.At=o
   ·rw [decide_eq_true h]; rfl
   ·rw [decide_eq_false h]; rfl]
  rw [Option.bind_some,Option.bind_some,← apply_ite some]; rfl]
 rfl
theorem j7I {g:Grammar}(h:GOk g){r:Rule}(hr:Sz.szd r≤1048576):q9q g r=some (j6n g r):=by
 unfold q9q j6n
 rw [j2L h (q7x hr),Option.bind_some,q3O (c:=true) (q:=j1y r) fun k o ho=>by
  unfold z4k
  rw [j7D hr o,Option.bind_some]
  dsimp only
  rw [j7G,← apply_ite some]]
 have e:((reqL g r).all (j1y r))=!((reqL g r).any fun o=>!j1y r o):=by rw [z7U]
 rw [e]
 cases (reqL g r).any fun o=>!j1y r o<;>rfl
def j1z (g:Grammar)(r:Rule):Bool:=(q4s (fun p (x:Equation)=>!decide (x.At∈reqL g r)||p.any fun o=>decide (o.At=x.At)) [] r.Equations).isSome
theorem j6o {g:Grammar}(h:GOk g){r:Rule}(hl:ROk r):z4Y g r=some (j1z g r):=by
 unfold z4Y j1z
 rw [j6e h hl,Option.bind_some]
 rw [show findL (z4X r (reqL g r)) 0 r.Equations ()=_ from z3O (bad:=fun p (x:Equation)=>!decide (x.At∈reqL g r)||p.any fun o=>decide (o.At=x.At)) (c:=fun _=>true) (all:=r.Equations) (f:=z4X r (reqL g r)) (fun pre x post e=>by
  unfold z4X
  rw [j6m,Option.bind_some]
  cases decide (x.At∈reqL g r) with
  | false=>rfl
  | true=>
   rw [if_pos rfl,q3o (by rw [e]; simp),show r.Equations.take pre.length=pre by rw [e]; simp]
   unfold q4q q4A
   rw [q4J (q:=fun o:Equation=>decide (o.At=x.At)) fun k y hy=>by
    unfold q5W z3Y
    rw [Option.bind_some]
    by_cases h:y.At=x.At
    ·rw [decide_eq_true h]; rfl
    ·rw [decide_eq_false h]; rfl]
   rw [Option.bind_some,← apply_ite some]; rfl) r.Equations [] rfl]
 cases q4s (fun p (x:Equation)=>!decide (x.At∈reqL g r)||p.any fun o=>decide (o.At=x.At)) [] r.Equations<;>rfl
theorem j6p {g:Grammar}(h:GOk g){r:Rule}(hr:Sz.szd r≤1048576):z1h g r=some (j1z g r):=by
 have hl:=(j8G hr).1
 unfold z1h j1z
 rw [j2L h (q7x hr),Option.bind_some]
 have h1:=(z2n (bad:=fun p (x:Equation)=>!decide (x.At∈reqL g r)||p.any fun o=>decide (o.At=x.At)) (nm:=fun y:Equation=>y.At) (c:=fun _=>true) (all:=r.Equations)
  (f:=fun k x _=>some (if (!decide (x.At∈reqL g r)||(r.Equations.take k).any fun o=>decide (o.At=x.At))=true then .inr true else .inl ())) (h:=z1y (reqL g r)) (fun pre x post e=>by
   rw [show r.Equations.take pre.length=pre by rw [e]; simp]) (fun pre x post e=>by
  unfold z1y
  rw [j0g,Option.bind_some]
  cases decide (x.At∈reqL g r) with
  | false=>rfl
  | true=>
   have hp:pre.length≤1048576:=by
     have:r.Equations.length=pre.length+(post.length+1):=by rw [e]; simp
     omega
   have e2:decide (x.At∈pre.map fun y:Equation=>y.At)=pre.any fun o=>decide (o.At=x.At):=by
    by_cases hm:x.At∈pre.map fun y:Equation=>y.At
    ·rw [decide_eq_true hm]; symm; rw [List.any_eq_true]
     obtain⟨y,hy,he⟩:=List.mem_map.1 hm
     exact⟨y,hy,by simpa using he⟩
    ·rw [decide_eq_false hm]; symm; rw [List.any_eq_false]
     intro y hy he
     exact hm (List.mem_map.2 ⟨y,hy,by simpa using he⟩)
   rw [if_pos rfl,j0g,Option.bind_some,e2,q3o (by rw [List.length_map]; constructor<;>omega),List.map_append,← apply_ite some]; rfl) r.Equations [] rfl).2
 rw [show findL (z1y (reqL g r)) 0 r.Equations []=_ from h1]
 cases q4s (fun p (x:Equation)=>!decide (x.At∈reqL g r)||p.any fun o=>decide (o.At=x.At)) [] r.Equations<;>rfl
def useB (g:Grammar)(r:Rule)(e:Expr):Bool:=(z5j e).all (mayB g r)
theorem j0h {g:Grammar}(h:GOk g){r:Rule}(hl:ROk r){e:Expr}(he:Sz.szd e≤1048576):q9N g r e=some (useB g r e):=by
 unfold q9N useB
 rw [j7z he,Option.bind_some,q3O (c:=false) (q:=mayB g r) fun k x hx=>by
  unfold z7L
  rw [j9w h hl,Option.bind_some,← apply_ite some]]
 cases (z5j e).all (mayB g r)<;>rfl
theorem j7J (g:Grammar){r:Rule}(hl:ROk r){e:Expr}(he:Sz.szd e≤1048576):z0i e g r=some (!useB g r e):=by
 unfold z0i useB
 rw [j3H he,Option.bind_some]
 unfold q3R q4a
 rw [q4J (q:=fun o=>!mayB g r o) fun k o ho=>by
  unfold q5r q9T
  rw [j9v g hl,Option.bind_some,Option.bind_some,← apply_ite some]]
 rw [Option.bind_some,← z7U,Bool.not_not]
def z1E (r:Rule):List Expr:=r.Equations.map (fun q=>q.Expr)++r.Contributions.flatMap fun q=>[q.Target,q.Value]
theorem j3O {r:Rule}(hr:Sz.szd r≤1048576):q7I r=some (z1E r):=by
 have hl:=j8G hr
 have h1:∀ (xs:List Equation) (i:Nat) (s:List Expr),s.length+xs.length≤1048576→eachL q9f i xs s=some (s++xs.map fun q=>q.Expr):=by
  intro xs
  induction xs with
  | nil=>intro i s _; simp [eachL]
  | cons x xs ih=>
   intro i s hs
   simp only [List.length_cons] at hs
   have e:q9f i x s=some (s++[x.Expr]):=by unfold q9f; rw [q3o (by constructor<;>omega)]
   rw [eachL,e,Option.bind_some,ih _ _ (by simp; omega)]; simp
 have h2:∀ (xs:List Contribution) (i:Nat) (s:List Expr),s.length+2*xs.length≤4194304→eachL q9g i xs s=some (s++xs.flatMap fun q=>[q.Target,q.Value]):=by
  intro xs
  induction xs with
  | nil=>intro i s _; simp [eachL]
  | cons x xs ih=>
   intro i s hs
   simp only [List.length_cons] at hs
   have e:q9g i x s=some (s++[x.Target,x.Value]):=by
    unfold q9g; rw [q3o (by simp only [List.length_cons,List.length_nil]; constructor<;>omega)]
   rw [eachL,e,Option.bind_some,ih _ _ (by simp; omega)]; simp
 unfold q7I z1E
 rw [h1 _ _ _ (by simpa using hl.1),Option.bind_some,h2 _ _ _ (by simp; omega)]; simp
theorem j7K {r:Rule}{e:Expr}(h:e∈z1E r):Sz.szd e≤Sz.szd r:=by
 unfold z1E at h
 rcases List.mem_append.1 h with h | h
 ·obtain⟨q,hq,rfl⟩:=List.mem_map.1 h; exact z2H hq
 ·obtain⟨q,hq,he⟩:=List.mem_flatMap.1 h
  have:=z5o hq
  simp at he
  rcases he with rfl | rfl
  ·exact this.1
  ·exact this.2
def misB (g:Grammar)(r:Rule):Bool:=!(z1E r).all (useB g r)
theorem j9x (g:Grammar){r:Rule}(hr:Sz.szd r≤1048576):z2i g r=some (misB g r):=by
 unfold z2i misB
 rw [j3O hr,Option.bind_some]
 unfold q4w q4F
 rw [q4J (q:=fun e=>!useB g r e) fun k e he=>by
  unfold q6t
  rw [j7J g (q7x hr) (Nat.le_trans (j7K he) hr),Option.bind_some,← apply_ite some]]
 rw [Option.bind_some,← z7U,Bool.not_not]
theorem j9y {g:Grammar}(h:GOk g){r:Rule}(hr:Sz.szd r≤1048576):z0s g r=some (misB g r):=by
 unfold z0s misB
 rw [q3O (c:=true) (q:=fun q:Equation=>useB g r q.Expr) fun k x hx=>by
  unfold z5d
  rw [j0h h (q7x hr) (Nat.le_trans (z2H hx) hr),Option.bind_some,← apply_ite some]]
 rw [q3O (c:=true) (q:=fun q:Contribution=>useB g r q.Target&&useB g r q.Value) fun k x hx=>by
  have hs:=z5o hx
  unfold z5e
  rw [j0h h (q7x hr) (Nat.le_trans hs.1 hr),Option.bind_some]
  cases useB g r x.Target with
  | false=>rfl
  | true=>rw [if_pos rfl,j0h h (q7x hr) (Nat.le_trans hs.2 hr),Option.bind_some,← apply_ite some]; rfl]
 have e:(z1E r).all (useB g r)=((r.Equations.all fun q=>useB g r q.Expr)&&r.Contributions.all fun q=>useB g r q.Target&&useB g r q.Value):=by
  unfold z1E
  rw [List.all_append,List.all_map,List.all_flatMap]
  congr 1
  congr 1; funext q; simp
 rw [e]
 cases r.Equations.all fun q=>useB g r q.Expr with
 | false=>rfl
 | true=>cases r.Contributions.all fun q=>useB g r q.Target&&useB g r q.Value<;>rfl
end Go.Proofs.YtibagkppfnjgcaaGreat
namespace Go.Proofs.YtibagkppfnjgcaaGreat
open Go Go.E
def z1F (g:Grammar)(r:Rule)(k:Int):Bool:=if k=3 then !z9f g r else if k=4 then j6n g r else if k=5 then j1z g r else misB g r
theorem j6q {g:Grammar}(h:GOk g){r:Rule}(hr:Sz.szd r≤1048576)(k:Int):z0t g r k=some (z1F g r k):=by
 unfold z0t z1F
 by_cases h3:k=3
 ·rw [if_pos h3,if_pos h3,j2Q h (q7x hr)]; rfl
 ·rw [if_neg h3,if_neg h3]
  by_cases h4:k=4
  ·rw [if_pos h4,if_pos h4,j7I h hr]; rfl
  ·rw [if_neg h4,if_neg h4]
   by_cases h5:k=5
   ·rw [if_pos h5,if_pos h5,j6p h hr]; rfl
   ·rw [if_neg h5,if_neg h5,j9y h hr]; rfl
theorem j1A {g:Grammar}(h:GOk g){r:Rule}(hr:Sz.szd r≤1048576)(k:Int)(i:Nat):q9U g k i r ()=some (if z1F g r k=true then .inr (k,(i:Int)) else .inl ()):=by
 unfold q9U z1F
 by_cases h3:k=3
 ·rw [if_pos h3,if_pos h3,j2P g (q7x hr),Option.bind_some,← apply_ite some]
 ·rw [if_neg h3,if_neg h3]
  by_cases h4:k=4
  ·rw [if_pos h4,if_pos h4,j7H h (q7x hr),Option.bind_some,← apply_ite some]
  ·rw [if_neg h4,if_neg h4]
   by_cases h5:k=5
   ·rw [if_pos h5,if_pos h5,j6o h (q7x hr),Option.bind_some,← apply_ite some]
   ·rw [if_neg h5,if_neg h5,j9x g hr,Option.bind_some,← apply_ite some]
theorem j6r {g:Grammar}(h:GOk g){r:Rule}(hr:Sz.szd r≤1048576)(k:Int)(i:Nat):q9Z g k i r ()=some (if z1F g r k=true then .inr (k,(i:Int)) else .inl ()):=by
 unfold q9Z
 rw [j6q h hr,Option.bind_some,← apply_ite some]
theorem z7Y {α σ ρ:Type}{f g:Nat→α→σ→Option (σ ⊕ ρ)}:∀ {xs:List α} {i:Nat} {s:σ},(∀ k x s,x∈xs→f k x s=g k x s)→findL f i xs s=findL g i xs s
 | [],_,_,_=>rfl
 | x :: xs,i,s,h=>by
  rw [findL,findL,h i x s (by simp)]
  congr 1; funext z
  cases z with
  | inl s'=>exact z7Y fun k y s hy=>h k y s (by simp [hy])
  | inr r=>rfl
theorem j2R {g:Grammar}(h:Sz.szd g≤1048576)(k:Int):z0a g k=q5E g k:=by
 unfold z0a q5E
 have e:findL (q9Z g k) 0 g.Rules ()=findL (q9U g k) 0 g.Rules ():=z7Y fun i x _ hx=>by
  have hr:=Nat.le_trans (z1P hx) h
  rw [j6r (z3L h) hr,j1A (z3L h) hr]
 rw [e]
def q7h (g:Grammar)(k:Int):Option (Int × Int):=match g.Rules.findIdx? fun r=>z1F g r k with
 | some i=>some (k,(i:Int))
 | none=>none
theorem z2p {α ρ:Type}{q:α→Bool}{c:Nat→ρ}:∀ {xs:List α} {i:Nat} {f:Nat→α→Unit→Option (Unit ⊕ ρ)},(∀ k x,x∈xs→f k x ()=some (if q x=true then .inr (c k) else .inl ())) →
  findL f i xs ()=some (match xs.findIdx? q with | some j=>.inr (c (i+j)) | none=>.inl ())
 | [],_,_,_=>rfl
 | x :: xs,i,f,h=>by
  rw [findL,h i x (by simp),Option.bind_some,List.findIdx?_cons]
  by_cases hq:q x=true
  ·rw [if_pos hq,if_pos hq]; rfl
  ·rw [if_neg hq,if_neg hq]
   have ih:=z2p (q:=q) (c:=c) (xs:=xs) (i:=i+1) (f:=f) fun k y hy=>h k y (by simp [hy])
   dsimp only
   rw [ih]
   cases xs.findIdx? q with
   | none=>rfl
   | some j=>simp only [Option.map_some]; rw [show i+1+j=i+(j+1) by omega]
def z3P (g:Grammar):Int × Int:=
 if !decide (1≤g.Symbols.length∧g.Symbols.length≤4) || !decide (1≤g.Rules.length∧g.Rules.length≤8) then (1,0)
 else if 0≤z4o g then (1,z4o g)
 else if (g.Symbols.getD 0 zS).Attributes.any fun a=>decide (a.Mode=1) then (2,0)
 else (q7h g 3 <|> (q7h g 4 <|> (q7h g 5 <|> q7h g 6))).getD (0,0)
theorem z7Z {g:Grammar}(h:Sz.szd g≤1048576):(q5m (q5E g) 3).bind (onr (fun r2=>some r2) fun ()=>some (0,0))=some ((q7h g 3 <|> (q7h g 4 <|> (q7h g 5 <|> q7h g 6))).getD (0,0)):=by
 have hstep:∀ k:Int,3≤k→k≤6→q5E g k=match q7h g k with | some z=>some (.inr (.inr z)) | none=>some (.inl (k+1)):=by
  intro k h3 h6
  unfold q5E q7h
  rw [if_pos h6,z2p (q:=fun r=>z1F g r k) (c:=fun i=>(k,(i:Int))) fun i x hx=>j1A (z3L h) (Nat.le_trans (z1P hx) h) k i]
  cases g.Rules.findIdx? fun r=>z1F g r k with
  | some i=>simp
  | none=>rw [Option.bind_some]; dsimp only [onr]; rw [q3o (by constructor<;>omega)]
 have hend:q5E g 7=some (.inr (.inl ())):=by unfold q5E; rw [if_neg (by omega)]
 have h3:=hstep 3 (by omega) (by omega)
 have h4:=hstep 4 (by omega) (by omega)
 have h5:=hstep 5 (by omega) (by omega)
 have h6:=hstep 6 (by omega) (by omega)
 cases s3:q7h g 3 with
 | some z=>rw [s3] at h3; rw [q4u h3]; rfl
 | none=>
  rw [s3] at h3
  rw [q4U h3,show (3:Int)+1=4 by rfl]
  cases s4:q7h g 4 with
  | some z=>rw [s4] at h4; rw [q4u h4]; rfl
  | none=>
   rw [s4] at h4
   rw [q4U h4,show (4:Int)+1=5 by rfl]
   cases s5:q7h g 5 with
   | some z=>rw [s5] at h5; rw [q4u h5]; rfl
   | none=>
    rw [s5] at h5
    rw [q4U h5,show (5:Int)+1=6 by rfl]
    cases s6:q7h g 6 with
    | some z=>rw [s6] at h6; rw [q4u h6]; rfl
    | none=>
     rw [s6] at h6
     rw [q4U h6,show (6:Int)+1=7 by rfl,q4u hend]; rfl
theorem j6s {g:Grammar}(h:Sz.szd g≤1048576):q9i g=some (z3P g):=by
 unfold q9i z3P
 rw [z5Y,Option.bind_some]
 by_cases h1:1≤g.Symbols.length∧g.Symbols.length≤4
 ·rw [decide_eq_true (by omega),if_pos rfl,z5Y,Option.bind_some,decide_eq_true h1]
  by_cases h2:1≤g.Rules.length∧g.Rules.length≤8
  ·rw [decide_eq_true (by omega),if_pos rfl,j6k h,Option.bind_some,decide_eq_true h2]
   simp only [Bool.not_true,Bool.or_self,Bool.false_eq_true,if_false]
   by_cases h3:0≤z4o g
   ·rw [if_pos h3,if_pos h3]
   ·rw [if_neg h3,if_neg h3,List.getD_eq_getElem?_getD,List.getElem?_eq_getElem (by omega:0 < g.Symbols.length),Option.bind_some,Option.getD_some]
    unfold q3Q q3Z
    rw [q4J (q:=fun a:Attribute=>decide (a.Mode=1)) fun k y hy=>by
     unfold q5q q9e
     rw [Option.bind_some,← apply_ite some]]
    rw [Option.bind_some]
    by_cases h4:(g.Symbols[0].Attributes.any fun a=>decide (a.Mode=1))=true
    ·rw [if_pos h4,if_pos h4]
    ·rw [if_neg h4,if_neg h4]
     exact z7Z h
  ·rw [decide_eq_false (by omega),decide_eq_false h2]; rfl
 ·rw [decide_eq_false (by omega),decide_eq_false h1]; rfl
theorem j6t {g:Grammar}(h:Sz.szd g≤1048576):q9r g=some (z3P g):=by
 unfold q9r z3P
 rw [z3K,Option.bind_some]
 by_cases h1:1≤g.Symbols.length∧g.Symbols.length≤4
 ·rw [decide_eq_true (by omega),if_pos rfl,z3K,Option.bind_some,decide_eq_true h1]
  by_cases h2:1≤g.Rules.length∧g.Rules.length≤8
  ·rw [decide_eq_true (by omega),if_pos rfl,j6l h,Option.bind_some,decide_eq_true h2]
   simp only [Bool.not_true,Bool.or_self,Bool.false_eq_true,if_false]
   by_cases h3:0≤z4o g
   ·rw [if_pos h3,if_pos h3]
   ·rw [if_neg h3,if_neg h3,List.getD_eq_getElem?_getD,List.getElem?_eq_getElem (by omega:0 < g.Symbols.length),Option.bind_some,Option.getD_some]
    rw [q3O (c:=((2:Int),(0:Int))) (q:=fun a:Attribute=>!decide (a.Mode=1)) fun k y hy=>by
     unfold z4l
     by_cases hm:y.Mode=1
     ·rw [if_pos hm,if_neg (by simp [hm])]
     ·rw [if_neg hm,if_pos (by simp [hm])]]
    have e:(g.Symbols[0].Attributes.all fun a=>!decide (a.Mode=1))=!(g.Symbols[0].Attributes.any fun a=>decide (a.Mode=1)):=by rw [List.not_any_eq_all_not]
    rw [e]
    cases (g.Symbols[0].Attributes.any fun a=>decide (a.Mode=1)) with
    | true=>rfl
    | false=>
     rw [Bool.not_false,if_pos rfl,Option.bind_some,q9E,if_neg (by simp),show z0a g=q5E g from funext fun k=>j2R h k]
     exact z7Z h
  ·rw [decide_eq_false (by omega),decide_eq_false h2]; rfl
 ·rw [decide_eq_false (by omega),decide_eq_false h1]; rfl
theorem z2q {α:Type}{bad:List α→α→Bool}:∀ (xs pre:List α),q4s bad pre xs=none→∀ k x,xs[k]? = some x→bad (pre++xs.take k) x=false
 | [],pre,h,k,x,hx=>by simp at hx
 | y :: xs,pre,h,k,x,hx=>by
  rw [q4s] at h
  by_cases hb:bad pre y=true
  ·rw [if_pos hb] at h; cases h
  ·rw [if_neg hb] at h
   cases k with
   | zero=>simp at hx; subst hx; simpa using hb
   | succ k=>
    have:=z2q xs (pre++[y]) h k x (by simpa using hx)
    simpa using this
structure Shape (g:Grammar):Prop where
 syms:1≤g.Symbols.length∧g.Symbols.length≤4
 rules:1≤g.Rules.length∧g.Rules.length≤8
 sym:q4s z2o [] g.Symbols=none
 rule:q4s z0y [] g.Rules=none
 brk:∀ k:Int,3≤k→k≤6→∀ r∈g.Rules,z1F g r k=false
 j0D:∀ y a,g.Symbols[0]? = some y→a∈y.Attributes→a.Mode≠1
theorem j7L {g:Grammar}(h:(z3P g).1=0):Shape g:=by
 unfold z3P at h
 by_cases h1:1≤g.Symbols.length∧g.Symbols.length≤4
 ·by_cases h2:1≤g.Rules.length∧g.Rules.length≤8
  ·rw [decide_eq_true h1,decide_eq_true h2] at h
   simp only [Bool.not_true,Bool.or_self,Bool.false_eq_true,if_false] at h
   by_cases h3:0≤z4o g
   ·rw [if_pos h3] at h; simp at h
   ·rw [if_neg h3] at h
    by_cases h4:((g.Symbols.getD 0 zS).Attributes.any fun a=>decide (a.Mode=1))=true
    ·rw [if_pos h4] at h; simp at h
    ·rw [if_neg h4] at h
     have hf:q4s z2o [] g.Symbols=none∧q4s z0y [] g.Rules=none:=by
      unfold z4o at h3
      cases e1:q4s z2o [] g.Symbols with
      | some k=>rw [e1] at h3; exact absurd (Int.natCast_nonneg k) h3
      | none=>
       cases e2:q4s z0y [] g.Rules with
       | some k=>rw [e1,e2] at h3; exact absurd (Int.natCast_nonneg k) h3
       | none=>exact⟨rfl,rfl⟩
     have hk:∀ k:Int,q7h g k=none→∀ r∈g.Rules,z1F g r k=false:=by
      intro k hk r hr
      unfold q7h at hk
      cases e:g.Rules.findIdx? fun r=>z1F g r k with
      | some i=>rw [e] at hk; cases hk
      | none=>
       rw [List.findIdx?_eq_none_iff] at e
       exact e r hr
     have hc:∀ k:Int,3≤k→∀ z,q7h g k=some z→z.1≠0:=by
      intro k h3 z hz
      unfold q7h at hz
      cases e:g.Rules.findIdx? fun r=>z1F g r k with
      | none=>rw [e] at hz; cases hz
      | some i=>rw [e] at hz; cases hz; show k≠0; omega
     have n3:q7h g 3=none:=by
      cases e:q7h g 3 with
      | none=>rfl
      | some z=>rw [e] at h; exact absurd h (hc 3 (by omega) z e)
     rw [n3] at h
     have n4:q7h g 4=none:=by
      cases e:q7h g 4 with
      | none=>rfl
      | some z=>rw [e] at h; exact absurd h (hc 4 (by omega) z e)
     rw [n4] at h
     have n5:q7h g 5=none:=by
      cases e:q7h g 5 with
      | none=>rfl
      | some z=>rw [e] at h; exact absurd h (hc 5 (by omega) z e)
     rw [n5] at h
     have n6:q7h g 6=none:=by
      cases e:q7h g 6 with
      | none=>rfl
      | some z=>rw [e] at h; exact absurd h (hc 6 (by omega) z e)
     refine⟨h1,h2,hf.1,hf.2,fun k k3 k6=>?_,fun y a hy ha hm=>h4 ?_⟩
     ·have:k=3∨k=4∨k=5∨k=6:=by omega
      rcases this with rfl | rfl | rfl | rfl
      ·exact hk _ n3
      ·exact hk _ n4
      ·exact hk _ n5
      ·exact hk _ n6
     ·rw [List.getD_eq_getElem?_getD,hy,List.any_eq_true]
      exact⟨a,ha,by simpa using hm⟩
  ·rw [decide_eq_false h2] at h; simp at h
 ·rw [decide_eq_false h1] at h; simp at h
theorem Shape.ruleB {g:Grammar}(h:Shape g){r:Rule}(hr:r∈g.Rules):ruleB r=true:=by
 obtain⟨k,hk⟩:=List.getElem?_of_mem hr
 have:=z2q _ _ h.rule k r hk
 unfold z0y at this
 rw [Bool.or_eq_false_iff] at this
 simpa using this.1
theorem Shape.symB {g:Grammar}(h:Shape g){y:Symbol}(hy:y∈g.Symbols):symB y=true:=by
 obtain⟨k,hk⟩:=List.getElem?_of_mem hy
 have:=z2q _ _ h.sym k y hk
 unfold z2o at this
 rw [Bool.or_eq_false_iff] at this
 simpa using this.1
theorem Shape.pos {g:Grammar}(h:Shape g){r:Rule}(hr:r∈g.Rules){q:Equation}(hq:q∈r.Equations):0≤q.At.Pos∧q.At.Pos≤(r.Right.length:Int):=by
 have:=h.ruleB hr
 unfold Go.Proofs.YtibagkppfnjgcaaGreat.ruleB at this
 simp only [Bool.and_eq_true,List.all_eq_true] at this
 have:=this.2.2.2.1 q hq
 unfold eqnB at this
 simp only [Bool.and_eq_true,decide_eq_true_eq] at this
 exact this.2.2
end Go.Proofs.YtibagkppfnjgcaaGreat
namespace Go.Proofs.YtibagkppfnjgcaaGreat
open Go Go.E
def typK (g:Grammar)(r:Rule)(k n p t:Int)(sy nm:ByteArray)(ts:List Int):Int:=
 if k=1 then t else if k=2 then (if r.Literal=true then 1 else 0) else if k=3 then (q9B g r ⟨p,nm⟩).1.Type_
 else if k=4 then (if ts.length=2∧ts.getD 0 0=(opT n).1∧ts.getD 1 0=(opT n).2.1 then (opT n).2.2 else 0)
 else if k=5 then (if ts.length=3∧ts.getD 0 0=3∧ts.getD 1 0=ts.getD 2 0 then ts.getD 1 0 else 0)
 else if k=6 then (if 0≤p∧p≤(r.Right.length:Int) then 4 else 0) else if k=7 then 4
 else if k=8 then (if ts.length=1∧ts.getD 0 0=4 then (z0u (q7c g sy).1 nm).1.Type_ else 0) else 0
mutual
def typE (g:Grammar)(r:Rule):Expr→Int
 | ⟨k,n,p,t,sy,nm,a⟩=>typK g r k n p t sy nm (j7M g r a)
def j7M (g:Grammar)(r:Rule):List Expr→List Int
 | []=>[]
 | x :: xs=>typE g r x :: j7M g r xs
end
theorem j3P (g:Grammar)(r:Rule):∀ l,j7M g r l=l.map (typE g r)
 | []=>rfl
 | x :: xs=>by rw [j7M,j3P g r xs]; rfl
theorem j6u (g:Grammar)(r:Rule)(e:Expr):typE g r e=typK g r e.Kind e.N e.Pos e.Type_ e.Symbol e.Name (e.Args.map (typE g r)):=by
 cases e; rw [typE,j3P]
theorem j1B {y:Symbol}{s:ByteArray}(h:(z0u y s).2≠true):(z0u y s).1=zA:=by
 unfold z0u at h ⊢
 cases hf:y.Attributes.find? (fun a=>decide (a.Name=s)) with
 | none=>rfl
 | some a=>rw [hf] at h; exact absurd rfl h
theorem j2S {g:Grammar}(h:GOk g)(s nm:ByteArray):q6w g s nm=some (z0u (q7c g s).1 nm).1.Type_:=by
 unfold q6w
 rw [z1o h,Option.bind_some]
 try dsimp only
 rw [z7X,Option.bind_some]
 try dsimp only
 by_cases hb:(z0u (q7c g s).1 nm).2=true
 ·rw [if_pos hb]
 ·rw [if_neg hb,j1B hb]; rfl
theorem j7N (g:Grammar){r:Rule}(hl:ROk r)(e:Expr):∀ m,fuE e≤m→Sz.szd e≤1048576→q7u m g r e=some (typE g r e):=by
 induction e using q8m with
 | h e ih=>
  intro m hm hs
  obtain⟨m,rfl⟩:∃ q,m=q+1:=⟨m - 1,by have:=z1C e; omega⟩
  show q9j (q7u m) g r e=_
  have hlen:e.Args.length≤1048576:=by have:=q5K e; have:=q6C e.Args; omega
  have hloop:∀ (xs:List Expr) (i:Nat) (s:List Int),(∀ x∈xs,x∈e.Args)→s.length+xs.length≤1048576→eachL (q9V (q7u m) g r) i xs s=some (s++xs.map (typE g r)):=by
   intro xs
   induction xs with
   | nil=>intro i s _ _; simp [eachL]
   | cons x xs ihx=>
    intro i s hx hn
    simp only [List.length_cons] at hn
    have e1:q9V (q7u m) g r i x s=some (s++[typE g r x]):=by
     unfold q9V
     have hxe:=hx x (by simp)
     rw [ih x hxe m (by have:=z1m hxe; omega) (by have:=j5I hxe; omega),Option.bind_some,q3o (by constructor<;>omega)]
    rw [eachL,e1,Option.bind_some,ihx _ _ (fun y hy=>hx y (by simp [hy])) (by simp; omega)]; simp
  unfold q9j
  rw [hloop e.Args 0 [] (fun _ h=>h) (by simpa using hlen),Option.bind_some,List.nil_append,j6u]
  generalize e.Args.map (typE g r)=ts
  unfold typK
  by_cases k1:e.Kind=1
  ·rw [if_pos k1,if_pos k1]
  rw [if_neg k1,if_neg k1]
  by_cases k2:e.Kind=2
  ·rw [if_pos k2,if_pos k2,Option.bind_some]
   by_cases hL:r.Literal=true
   ·rw [if_pos hL,if_pos hL]
   ·rw [if_neg hL,if_neg hL]
    simp [k2]
  rw [if_neg k2,if_neg k2,Option.bind_some,if_neg (by simp)]
  by_cases k3:e.Kind=3
  ·rw [if_pos k3,if_pos k3,z5L g hl]; rfl
  rw [if_neg k3,if_neg k3]
  by_cases k4:e.Kind=4
  ·rw [if_pos k4,if_pos k4,Option.bind_some]
   by_cases hn:ts.length=2
   ·obtain⟨a,b,rfl⟩:∃ a b,ts=[a,b]:=by
     match ts,hn with
     | [a,b],_=>exact⟨a,b,rfl⟩
    rw [if_pos (by simp),j9j,Option.bind_some]
    simp only [List.getElem?_cons_zero,List.getElem?_cons_succ,Option.bind_some,List.getD_cons_zero,List.getD_cons_succ]
    by_cases ha:a=(opT e.N).1
    ·rw [if_pos ha,Option.bind_some]
     by_cases hb:b=(opT e.N).2.1
     ·rw [if_pos (by simp [hb]),if_pos ⟨hn,ha,hb⟩]
     ·rw [if_neg (by simp [hb]),if_neg fun h=>hb h.2.2]
    ·rw [if_neg ha,Option.bind_some,if_neg (by simp),if_neg fun h=>ha h.2.1]
   ·have hz:(if ts.length=2∧ts.getD 0 0=(opT e.N).1∧ts.getD 1 0=(opT e.N).2.1 then (opT e.N).2.2 else 0)=0:=if_neg fun h=>hn h.1
    rw [hz,if_neg (by simp; omega)]
    simp [k4]
  rw [if_neg k4,if_neg k4,Option.bind_some,if_neg (by simp)]
  by_cases k5:e.Kind=5
  ·rw [if_pos k5,if_pos k5,Option.bind_some]
   by_cases hn:ts.length=3
   ·obtain⟨a,b,c,rfl⟩:∃ a b c,ts=[a,b,c]:=by
     match ts,hn with
     | [a,b,c],_=>exact⟨a,b,c,rfl⟩
    rw [if_pos (by simp)]
    simp only [List.getElem?_cons_zero,List.getElem?_cons_succ,Option.bind_some,List.getD_cons_zero,List.getD_cons_succ]
    by_cases ha:a=3
    ·rw [if_pos ha]
     by_cases hb:b=c
     ·rw [if_pos hb,if_pos ⟨hn,ha,hb⟩]
     ·rw [if_neg hb,if_neg fun h=>hb h.2.2]
    ·rw [if_neg ha,if_neg fun h=>ha h.2.1]
   ·have hz:(if ts.length=3∧ts.getD 0 0=3∧ts.getD 1 0=ts.getD 2 0 then ts.getD 1 0 else 0)=0:=if_neg fun h=>hn h.1
    rw [hz,if_neg (by simp; omega)]
    simp [k5]
  rw [if_neg k5,if_neg k5,Option.bind_some,if_neg (by simp)]
  by_cases k6:e.Kind=6
  ·rw [if_pos k6,if_pos k6,z5Y,Option.bind_some,Option.bind_some]
   by_cases hp:0≤e.Pos∧e.Pos≤(r.Right.length:Int)
   ·rw [decide_eq_true hp,if_pos hp]; rfl
   ·rw [decide_eq_false hp,if_neg hp]
    simp [k6]
  rw [if_neg k6,if_neg k6,Option.bind_some,if_neg (by simp),Option.bind_some]
  by_cases k7:e.Kind=7
  ·rw [if_pos (by simp [k7]),if_pos k7]
  rw [if_neg (by simp [k7]),if_neg k7]
  by_cases k8:e.Kind=8
  ·rw [if_pos k8,if_pos k8,Option.bind_some]
   by_cases hn:ts.length=1
   ·obtain⟨a,rfl⟩:∃ a,ts=[a]:=by
     match ts,hn with
     | [a],_=>exact⟨a,rfl⟩
    rw [if_pos (by simp)]
    simp only [List.getElem?_cons_zero,Option.bind_some,List.getD_cons_zero]
    by_cases ha:a=4
    ·rw [if_pos (by simp [ha]),if_pos ⟨hn,ha⟩,z2m,Option.bind_some]
     try dsimp only
     rw [z5n]; rfl
    ·rw [if_neg (by simp [ha]),if_neg fun h=>ha h.2]
   ·rw [if_neg (by simp; omega),if_neg fun h=>hn h.1]; rfl
  rw [if_neg k8,if_neg k8]; rfl
theorem j2T (g:Grammar){r:Rule}(hl:ROk r){e:Expr}(hs:Sz.szd e≤1048576):q9k g r e=some (typE g r e):=q7j (fuE e) fun m hm=>j7N g hl e m hm hs
theorem j7O {g:Grammar}(h:GOk g){r:Rule}(hl:ROk r)(e:Expr):∀ m,fuE e≤m→q8l m g r e=some (typE g r e):=by
 induction e using q8m with
 | h e ih=>
  intro m hm
  obtain⟨m,rfl⟩:∃ q,m=q+1:=⟨m - 1,by have:=z1C e; omega⟩
  show q9s (q8l m) g r e=_
  have hx:∀ x∈e.Args,q8l m g r x=some (typE g r x):=fun x hxe=>ih x hxe m (by have:=z1m hxe; omega)
  unfold q9s
  rw [j6u]
  unfold typK
  by_cases k1:e.Kind=1
  ·rw [if_pos k1,if_pos k1]
  rw [if_neg k1,if_neg k1]
  by_cases k2:e.Kind=2
  ·rw [if_pos k2,if_pos k2,← apply_ite some]
  rw [if_neg k2,if_neg k2]
  by_cases k3:e.Kind=3
  ·rw [if_pos k3,if_pos k3,z3K,Option.bind_some]
   unfold q9B
   by_cases hp:0≤e.Pos∧e.Pos≤(r.Right.length:Int)
   ·rw [if_pos (by simpa using hp),if_pos hp,z3N hl,Option.bind_some,j2S h]; rfl
   ·rw [if_neg (by simpa using hp),if_neg hp]; rfl
  rw [if_neg k3,if_neg k3]
  by_cases k4:e.Kind=4
  ·rw [if_pos k4,if_pos k4]
   unfold z6A
   rw [j9k,Option.bind_some]
   try dsimp only
   by_cases hn:e.Args.length=2
   ·obtain⟨a,b,hab⟩:∃ a b,e.Args=[a,b]:=by
     match e.Args,hn with
     | [a,b],_=>exact⟨a,b,rfl⟩
    rw [hab] at hx
    rw [hab,if_pos (by simp)]
    simp only [List.getElem?_cons_zero,List.getElem?_cons_succ,Option.bind_some,List.map_cons,List.map_nil,List.getD_cons_zero,List.getD_cons_succ]
    rw [hx a (by simp),Option.bind_some]
    by_cases ha:typE g r a=(opT e.N).1
    ·rw [if_pos ha,hx b (by simp),Option.bind_some]
     by_cases hb:typE g r b=(opT e.N).2.1
     ·rw [if_pos hb,if_pos ⟨by simp,ha,hb⟩]; rfl
     ·rw [if_neg hb,if_neg fun h=>hb h.2.2]; rfl
    ·rw [if_neg ha,if_neg fun h=>ha h.2.1]; rfl
   ·rw [if_neg (by omega),if_neg fun h=>hn (by simpa using h.1)]; rfl
  rw [if_neg k4,if_neg k4]
  by_cases k5:e.Kind=5
  ·rw [if_pos k5,if_pos k5]
   unfold z6B
   by_cases hn:e.Args.length=3
   ·obtain⟨a,b,c,hab⟩:∃ a b c,e.Args=[a,b,c]:=by
     match e.Args,hn with
     | [a,b,c],_=>exact⟨a,b,c,rfl⟩
    rw [hab] at hx
    rw [hab,if_pos (by simp)]
    simp only [List.getElem?_cons_zero,List.getElem?_cons_succ,Option.bind_some,List.map_cons,List.map_nil,List.getD_cons_zero,List.getD_cons_succ]
    rw [hx a (by simp),Option.bind_some]
    by_cases ha:typE g r a=3
    ·rw [if_pos ha,hx b (by simp),Option.bind_some,hx c (by simp),Option.bind_some]
     by_cases hb:typE g r b=typE g r c
     ·rw [if_pos hb,if_pos ⟨by simp,ha,hb⟩]; rfl
     ·rw [if_neg hb,if_neg fun h=>hb h.2.2]; rfl
    ·rw [if_neg ha,if_neg fun h=>ha h.2.1]; rfl
   ·rw [if_neg (by omega),if_neg fun h=>hn (by simpa using h.1)]; rfl
  rw [if_neg k5,if_neg k5]
  by_cases k6:e.Kind=6
  ·rw [if_pos k6,if_pos k6,z3K,Option.bind_some]
   by_cases hp:0≤e.Pos∧e.Pos≤(r.Right.length:Int)
   ·rw [if_pos (by simpa using hp),if_pos hp]
   ·rw [if_neg (by simpa using hp),if_neg hp]
  rw [if_neg k6,if_neg k6]
  by_cases k7:e.Kind=7
  ·rw [if_pos k7,if_pos k7]
  rw [if_neg k7,if_neg k7]
  by_cases k8:e.Kind=8
  ·rw [if_pos k8,if_pos k8]
   by_cases hn:e.Args.length=1
   ·obtain⟨a,hab⟩:∃ a,e.Args=[a]:=by
     match e.Args,hn with
     | [a],_=>exact⟨a,rfl⟩
    rw [hab] at hx
    rw [hab,if_pos (by simp)]
    simp only [List.getElem?_cons_zero,Option.bind_some,List.map_cons,List.map_nil,List.getD_cons_zero]
    rw [hx a (by simp),Option.bind_some]
    by_cases ha:typE g r a=4
    ·rw [if_pos ha,if_pos ⟨by simp,ha⟩,j2S h]; rfl
    ·rw [if_neg ha,if_neg fun h=>ha h.2]
   ·rw [if_neg (by omega),if_neg fun h=>hn (by simpa using h.1)]
  rw [if_neg k8,if_neg k8]
theorem j2U {g:Grammar}(h:GOk g){r:Rule}(hl:ROk r)(e:Expr):q9t g r e=some (typE g r e):=q7j (fuE e) fun m hm=>j7O h hl e m hm
def conT (g:Grammar)(r:Rule)(q:Contribution):Bool:=(decide (typE g r q.Target=4)&&decide (typE g r q.Value=2))&&decide ((z0u (q7c g q.Symbol).1 q.Name).1.Mode=3)
def typR (g:Grammar)(r:Rule):Bool:=(r.Equations.all fun q=>decide (typE g r q.Expr=(q9B g r q.At).1.Type_))&&r.Contributions.all (conT g r)
theorem j7P (g:Grammar){r:Rule}(hr:Sz.szd r≤1048576):z1c g r=some (!typR g r):=by
 have hl:=q7x hr
 unfold z1c typR
 rw [q3O (c:=true) (q:=fun q:Equation=>decide (typE g r q.Expr=(q9B g r q.At).1.Type_)) fun k x hx=>by
  unfold z5U
  rw [z5L g hl,Option.bind_some]
  try dsimp only
  rw [j2T g hl (Nat.le_trans (z2H hx) hr),Option.bind_some]
  by_cases hp:typE g r x.Expr=(q9B g r x.At).1.Type_
  ·rw [if_pos hp,if_pos (by simpa using hp)]
  ·rw [if_neg hp,if_neg (by simpa using hp)]]
 rw [q3O (c:=true) (q:=conT g r) fun k x hx=>by
  have hs:=z5o hx
  unfold z5V conT
  rw [z2m,Option.bind_some]
  try dsimp only
  rw [z5n,Option.bind_some]
  try dsimp only
  rw [j2T g hl (Nat.le_trans hs.1 hr),Option.bind_some]
  by_cases h1:typE g r x.Target=4
  ·rw [if_pos h1,j2T g hl (Nat.le_trans hs.2 hr),Option.bind_some,Option.bind_some,decide_eq_true h1]
   cases decide (typE g r x.Value=2) with
   | false=>rfl
   | true=>
    rw [Bool.not_true,if_neg (by simp),Option.bind_some]
    cases decide ((z0u (q7c g x.Symbol).1 x.Name).1.Mode=3)<;>rfl
  ·rw [if_neg h1,decide_eq_false h1]; rfl]
 cases r.Equations.all fun q=>decide (typE g r q.Expr=(q9B g r q.At).1.Type_) with
 | false=>rfl
 | true=>cases r.Contributions.all (conT g r)<;>rfl
theorem j7Q {g:Grammar}(h:GOk g){r:Rule}(hr:Sz.szd r≤1048576)(hp:∀ q∈r.Equations,0≤q.At.Pos∧q.At.Pos≤(r.Right.length:Int)):z2k g r=some (typR g r):=by
 have hl:=q7x hr
 unfold z2k typR
 rw [q3O (c:=false) (q:=fun q:Equation=>decide (typE g r q.Expr=(q9B g r q.At).1.Type_)) fun k x hx=>by
  unfold z7O
  rw [j2U h hl,Option.bind_some,z3N hl,Option.bind_some,j2S h,Option.bind_some]
  have e:(z0u (q7c g (q9A r x.At.Pos)).1 x.At.Name).1.Type_=(q9B g r x.At).1.Type_:=by unfold q9B; rw [if_pos (hp x hx)]
  rw [e]
  by_cases hp:typE g r x.Expr=(q9B g r x.At).1.Type_
  ·rw [if_pos hp,if_pos (by simpa using hp)]
  ·rw [if_neg hp,if_neg (by simpa using hp)]]
 rw [q3O (c:=false) (q:=conT g r) fun k x hx=>by
  unfold z7P conT
  rw [z1o h,Option.bind_some]
  try dsimp only
  rw [z7X,Option.bind_some]
  try dsimp only
  have e:(if (z0u (q7c g x.Symbol).1 x.Name).2=true then some (!decide ((z0u (q7c g x.Symbol).1 x.Name).1.Mode=3)) else some true)=some (!decide ((z0u (q7c g x.Symbol).1 x.Name).1.Mode=3)):=by
   by_cases hb:(z0u (q7c g x.Symbol).1 x.Name).2=true
   ·rw [if_pos hb]
   ·rw [if_neg hb,j1B hb]; rfl
  rw [e,Option.bind_some]
  cases decide ((z0u (q7c g x.Symbol).1 x.Name).1.Mode=3) with
  | false=>rw [Bool.and_false]; rfl
  | true=>
   rw [Bool.not_true,if_neg (by simp),j2U h hl,Option.bind_some,Option.bind_some]
   cases decide (typE g r x.Target=4) with
   | false=>rfl
   | true=>
    rw [Bool.not_true,if_neg (by simp),j2U h hl,Option.bind_some,Option.bind_some]
    cases decide (typE g r x.Value=2)<;>rfl]
 cases r.Equations.all fun q=>decide (typE g r q.Expr=(q9B g r q.At).1.Type_) with
 | false=>rfl
 | true=>cases r.Contributions.all (conT g r)<;>rfl
end Go.Proofs.YtibagkppfnjgcaaGreat
namespace Go.Proofs.YtibagkppfnjgcaaGreat
open Go Go.E
def atS (g:Grammar)(n:ByteArray):Option Nat:=g.Symbols.findIdx? fun y=>decide (y.Name=n)
def atI (g:Grammar)(n:ByteArray):Int:=match atS g n with
 | some j=>(j:Int)
 | none=>-1
theorem z8a {α ρ:Type}{q:α→Bool}{c:Nat→ρ}:∀ {xs:List α} {i:Nat} {f:Nat→α→Unit→Option (Unit ⊕ ρ)},(∀ j x,xs[j]? = some x→f (i+j) x ()=some (if q x=true then .inr (c (i+j)) else .inl ())) →
  findL f i xs ()=some (match xs.findIdx? q with | some j=>.inr (c (i+j)) | none=>.inl ())
 | [],_,_,_=>rfl
 | x :: xs,i,f,h=>by
  rw [findL,show f i x ()=_ from h 0 x rfl,Option.bind_some,List.findIdx?_cons]
  by_cases hq:q x=true
  ·rw [if_pos hq,if_pos hq]
  ·rw [if_neg hq,if_neg hq]
   have ih:=z8a (q:=q) (c:=c) (xs:=xs) (i:=i+1) (f:=f) fun j y hy=>by
    have:=h (j+1) y (by simpa using hy)
    rw [show i+1+j=i+(j+1) by omega]; exact this
   dsimp only
   rw [ih]
   cases xs.findIdx? q with
   | none=>rfl
   | some j=>simp only [Option.map_some]; rw [show i+1+j=i+(j+1) by omega]
theorem k0c (g:Grammar)(n:ByteArray):z4c g n=some (atI g n):=by
 unfold z4c atI atS
 rw [z8a (q:=fun y:Symbol=>decide (y.Name=n)) (c:=fun k=>(k:Int)) fun j x hx=>by
  unfold j1j
  by_cases hn:x.Name=n
  ·rw [if_pos hn,if_pos (by simpa using hn)]
  ·rw [if_neg hn,if_neg (by simpa using hn)]]
 cases g.Symbols.findIdx? fun y=>decide (y.Name=n) with
 | none=>rfl
 | some j=>dsimp only; rw [Nat.zero_add]; rfl
theorem k0d {g:Grammar}{n:ByteArray}{j:Nat}(h:atS g n=some j):j < g.Symbols.length:=by
 unfold atS at h
 rw [List.findIdx?_eq_some_iff_getElem] at h
 exact h.1
def okAt (g:Grammar)(hs:List Int)(n:ByteArray):Bool:=match atS g n with
 | some j=>decide (0 < hs.getD j 0)
 | none=>false
def z9g (g:Grammar)(hs:List Int)(n:ByteArray):Bool:=g.Rules.any fun r=>decide (r.Left=n)&&r.Right.all (okAt g hs)
theorem z8b {α:Type}{q:α→Bool}{f:Nat→α→Bool→Option Bool}:∀ (xs:List α) (i:Nat) (b:Bool),(∀ k x s,x∈xs→f k x s=some (s&&q x))→eachL f i xs b=some (b&&xs.all q)
 | [],_,b,_=>by simp [eachL]
 | x :: xs,i,b,h=>by
  rw [eachL,h i x b (by simp),Option.bind_some,z8b xs (i+1) _ fun k y s hy=>h k y s (by simp [hy]),List.all_cons,Bool.and_assoc]
theorem getD_some {hs:List Int}{j:Nat}(h:j < hs.length):hs[j]? = some (hs.getD j 0):=by
 rw [List.getD_eq_getElem?_getD,List.getElem?_eq_getElem h]; rfl
theorem k0e {g:Grammar}{hs:List Int}(hl:hs.length=g.Symbols.length)(n:ByteArray):z0j n g hs=some (match atS g n with | some j=>hs.getD j 0 | none=>0):=by
 unfold z0j atS
 rw [z8a (q:=fun y:Symbol=>decide (y.Name=n)) (c:=fun k=>hs.getD k 0) fun j x hx=>by
  unfold z4Z
  have hj:j < g.Symbols.length:=(List.getElem?_eq_some_iff.1 hx).1
  by_cases hn:x.Name=n
  ·rw [if_pos hn,if_pos (by simpa using hn),Nat.zero_add,getD_some (by omega)]; rfl
  ·rw [if_neg hn,if_neg (by simpa using hn)]]
 cases g.Symbols.findIdx? fun y=>decide (y.Name=n) with
 | none=>rfl
 | some j=>dsimp only; rw [Nat.zero_add]; rfl
theorem j4S {g:Grammar}{hs:List Int}(hl:hs.length=g.Symbols.length)(xs:List ByteArray)(b:Bool):eachL (z4y g hs) 0 xs b=some (b&&xs.all (okAt g hs)):=
 z8b xs 0 b fun k x s _=>by
  unfold z4y okAt
  cases s with
  | false=>rfl
  | true=>
   rw [if_pos rfl,k0e hl,Option.bind_some,Option.bind_some,Bool.true_and]
   cases atS g x<;>rfl
theorem j4T {g:Grammar}{hs:List Int}(hl:hs.length=g.Symbols.length)(xs:List ByteArray)(b:Bool):eachL (z1O g hs) 0 xs b=some (b&&xs.all (okAt g hs)):=
 z8b xs 0 b fun k x s _=>by
  unfold z1O okAt
  rw [k0c,Option.bind_some]
  unfold atI
  cases s with
  | false=>rfl
  | true=>
   cases hj:atS g x with
   | none=>rfl
   | some j=>
    have:=k0d hj
    dsimp only
    rw [if_pos rfl,Option.bind_some,decide_eq_true (Int.natCast_nonneg j),if_pos rfl]
    unfold z1v
    by_cases h0:(0:Int) < (j:Int)
    ·rw [if_pos h0,Option.bind_some,q3o (Int.natCast_nonneg j),Int.toNat_natCast,getD_some (by omega)]; rfl
    ·obtain rfl:j=0:=by omega
     rw [if_neg h0,Option.bind_some,q3o (by omega),show (0:Int).toNat=0 from rfl,getD_some (by omega)]; rfl
theorem j6v {g:Grammar}{hs:List Int}(hl:hs.length=g.Symbols.length)(n:ByteArray):q9u g n hs=some (z9g g hs n):=by
 unfold q9u z9g
 rw [q3O (c:=true) (q:=fun r:Rule=>!(decide (r.Left=n)&&r.Right.all (okAt g hs))) fun k x hx=>by
  unfold z4m
  rw [j4T hl,Option.bind_some]
  cases (decide (x.Left=n)&&x.Right.all (okAt g hs))<;>rfl]
 have e:(g.Rules.all fun r=>!(decide (r.Left=n)&&r.Right.all (okAt g hs)))=!(g.Rules.any fun r=>decide (r.Left=n)&&r.Right.all (okAt g hs)):=by rw [List.not_any_eq_all_not]
 rw [e]
 cases g.Rules.any fun r=>decide (r.Left=n)&&r.Right.all (okAt g hs)<;>rfl
def HsOk (g:Grammar)(hs:List Int):Prop:=hs.length=g.Symbols.length∧∀ j,0≤hs.getD j 0
theorem HsOk.set {g:Grammar}{hs:List Int}(h:HsOk g hs){k:Nat}{v:Int}(hv:0≤v):HsOk g (hs.set k v):=by
 refine⟨by simpa using h.1,fun j=>?_⟩
 rw [List.getD_eq_getElem?_getD,List.getElem?_set]
 split
 ·split
  ·exact hv
  ·simp
 ·rw [← List.getD_eq_getElem?_getD]; exact h.2 j
theorem j6w {g:Grammar}{hs:List Int}(hl:hs.length=g.Symbols.length){v:Int}(k:Nat)(x:Symbol)(hk:k < g.Symbols.length):∀ (rs:List Rule) (i:Nat) (s:List Int),s.length=g.Symbols.length →
  eachL (z2A g v hs k x) i rs s=some (if (rs.any fun r=>decide (r.Left=x.Name)&&r.Right.all (okAt g hs))=true then s.set k v else s)
 | [],i,s,_=>by simp [eachL]
 | r :: rs,i,s,hs'=>by
  have e:z2A g v hs k x i r s=some (if (decide (r.Left=x.Name)&&r.Right.all (okAt g hs))=true then s.set k v else s):=by
   unfold z2A
   rw [j4S hl,Option.bind_some]
   cases (decide (r.Left=x.Name)&&r.Right.all (okAt g hs)) with
   | false=>rfl
   | true=>rw [if_pos rfl,if_pos rfl,List.getElem?_eq_getElem (by omega)]; rfl
  rw [eachL,e,Option.bind_some]
  by_cases hb:(decide (r.Left=x.Name)&&r.Right.all (okAt g hs))=true
  ·rw [if_pos hb,j6w hl k x hk rs (i+1) (s.set k v) (by simpa using hs')]
   have:(r :: rs).any (fun r=>decide (r.Left=x.Name)&&r.Right.all (okAt g hs))=true:=by rw [List.any_cons,hb]; rfl
   rw [if_pos this,List.set_set,ite_self]
  ·rw [if_neg hb,j6w hl k x hk rs (i+1) s hs']
   have:(r :: rs).any (fun r=>decide (r.Left=x.Name)&&r.Right.all (okAt g hs))=rs.any (fun r=>decide (r.Left=x.Name)&&r.Right.all (okAt g hs)):=by rw [List.any_cons,Bool.eq_false_iff.2 hb]; rfl
   rw [this]
theorem k0u {g:Grammar}{hs:List Int}(h:HsOk g hs){v:Int}{k:Nat}{x:Symbol}(hk:k < g.Symbols.length){s:List Int}(hs' : s.length=g.Symbols.length) :
  z2B g v hs k x s=some (if (decide (hs.getD k 0=0)&&z9g g hs x.Name)=true then s.set k v else s):=by
 have h0:=h.2 k
 unfold z2B
 rw [getD_some (by rw [h.1]; exact hk),Option.bind_some]
 by_cases hz:hs.getD k 0=0
 ·rw [if_neg (by omega),decide_eq_true hz,j6w h.1 k x hk _ _ _ hs']; rfl
 ·rw [if_pos (by omega),decide_eq_false hz]; rfl
theorem k0v {g:Grammar}{hs:List Int}(h:HsOk g hs){v:Int}{k:Nat}{x:Symbol}(hk:k < g.Symbols.length){s:List Int}(hs' : s.length=g.Symbols.length) :
  z0b g hs v k x s=some (if (decide (hs.getD k 0=0)&&z9g g hs x.Name)=true then s.set k v else s):=by
 unfold z0b
 rw [getD_some (by rw [h.1]; exact hk),Option.bind_some]
 by_cases hz:hs.getD k 0=0
 ·rw [if_pos hz,decide_eq_true hz,j6v h.1,Option.bind_some,Bool.true_and]
  cases z9g g hs x.Name with
  | false=>rfl
  | true=>rw [if_pos rfl,if_pos rfl,List.getElem?_eq_getElem (by omega)]; rfl
 ·rw [if_neg hz,decide_eq_false hz]; rfl
theorem z9h {g:Grammar}{hs:List Int}(h:HsOk g hs){v:Int}(hv:0≤v):∀ (xs:List Symbol) (i:Nat) (s:List Int),i+xs.length=g.Symbols.length→HsOk g s →
  ∃ t,eachL (z2B g v hs) i xs s=some t∧eachL (z0b g hs v) i xs s=some t∧HsOk g t
 | [],i,s,_,hs'=>⟨s,rfl,rfl,hs'⟩
 | x :: xs,i,s,hi,hs'=>by
  simp only [List.length_cons] at hi
  have e1:=k0u (x:=x) h (v:=v) (k:=i) (by omega) hs'.1
  have e2:=k0v (x:=x) h (v:=v) (k:=i) (by omega) hs'.1
  have hn:HsOk g (if (decide (hs.getD i 0=0)&&z9g g hs x.Name)=true then s.set i v else s):=by
   split
   ·exact hs'.set hv
   ·exact hs'
  obtain⟨t,h1,h2,h3⟩:=z9h h hv xs (i+1) _ (by omega) hn
  exact⟨t,by rw [eachL,e1,Option.bind_some,h1],by rw [eachL,e2,Option.bind_some,h2],h3⟩
theorem z5Z {g:Grammar}(hn:g.Symbols.length≤1048576):∃ l,z0M g=some l∧q9v g=some l∧HsOk g l:=by
 have key:∀ (m k:Nat) (hs:List Int),k+m=g.Symbols.length+1→1≤k→HsOk g hs→∃ t,q5m (q9K g) ((k:Int),hs)=some t∧q5m (q7J g) (hs,(k:Int))=some t∧HsOk g t:=by
  intro m
  induction m with
  | zero=>
   intro k hs hk _ h
   refine⟨hs,q4u ?_,q4u ?_,h⟩
   ·unfold q9K; dsimp only; rw [if_neg (by omega)]
   ·unfold q7J; dsimp only; rw [if_neg (by omega)]
  | succ m ih=>
   intro k hs hk h1 h
   have hl:=h.1
   obtain⟨t,e1,e2,e3⟩:=z9h h (v:=(k:Int)) (by omega) g.Symbols 0 hs (by omega) h
   obtain⟨q,f1,f2,f3⟩:=ih (k+1) t (by omega) (by omega) e3
   refine⟨q,?_,?_,f3⟩
   ·have e:q9K g ((k:Int),hs)=some (.inl (((k+1:Nat):Int),t)):=by
     unfold q9K; dsimp only
     rw [if_pos (by omega),q3o (by refine⟨?_,?_,?_⟩<;>omega),q3o (by simp),e1,Option.bind_some,q3o (by constructor<;>omega)]; rfl
    rw [q4U e]; exact f1
   ·have e:q7J g (hs,(k:Int))=some (.inl (t,((k+1:Nat):Int))):=by
     unfold q7J; dsimp only
     rw [if_pos (by omega),q3o (by simp only [List.length_nil]; constructor<;>omega),e2,Option.bind_some,q3o (by constructor<;>omega)]; rfl
    rw [q4U e]; exact f2
 have h0:HsOk g (List.replicate g.Symbols.length (0:Int)):=⟨by simp,fun j=>by rw [List.getD_eq_getElem?_getD,List.getElem?_replicate]; split<;>simp⟩
 obtain⟨t,f1,f2,f3⟩:=key g.Symbols.length 1 (List.replicate g.Symbols.length 0) (by omega) (by omega) h0
 refine⟨t,?_,?_,f3⟩
 ·unfold z0M
  rw [q3o (by refine⟨?_,?_,?_⟩<;>omega),show q5m (q9K g) (1,List.replicate g.Symbols.length 0)=some t from f1]; rfl
 ·unfold q9v
  rw [q3o (by refine⟨?_,?_,?_⟩<;>omega),show q5m (q7J g) (List.replicate g.Symbols.length 0,1)=some t from f2]; rfl
theorem Shape.names {g:Grammar}(h:Shape g){k j:Nat}{x y:Symbol}(hk:g.Symbols[k]? = some x)(hj:g.Symbols[j]? = some y)(hn:x.Name=y.Name):k=j:=by
 have key:∀ {k j:Nat} {x y:Symbol},g.Symbols[k]? = some x→g.Symbols[j]? = some y→x.Name=y.Name→¬ k < j:=by
  intro k j x y hk hj hn hlt
  have:=z2q _ _ h.sym j y hj
  unfold z2o at this
  rw [Bool.or_eq_false_iff] at this
  have h2:=this.2
  unfold dupB at h2
  rw [List.nil_append,List.any_eq_false] at h2
  exact h2 x (List.mem_of_getElem? (i:=k) (by rw [List.getElem?_take,if_pos hlt]; exact hk)) (by simpa using hn)
 have h1:=key hk hj hn
 have h2:=key hj hk hn.symm
 omega
theorem Shape.at_ {g:Grammar}(h:Shape g){k:Nat}{x:Symbol}(hk:g.Symbols[k]? = some x):atS g x.Name=some k:=by
 unfold atS
 cases he:g.Symbols.findIdx? fun y=>decide (y.Name=x.Name) with
 | none=>
  rw [List.findIdx?_eq_none_iff] at he
  have:=he x (List.mem_of_getElem? hk)
  simp at this
 | some j=>
  rw [List.findIdx?_eq_some_iff_getElem] at he
  obtain⟨hj,h1,_⟩:=he
  rw [h.names (List.getElem?_eq_getElem hj) hk (by simpa using h1)]
noncomputable def hgtL (g:Grammar):List Int:=(z0M g).getD []
noncomputable def j4U (g:Grammar):Int × Int:=
 if (z3P g).1=0 then
  match g.Rules.findIdx? fun r=>!typR g r with
  | some k=>(7,(k:Int))
  | none=>match (hgtL g).findIdx? fun x=>decide (x=0) with
   | some k=>(8,(k:Int))
   | none=>(0,0)
 else z3P g
theorem j7R {g:Grammar}(h:Sz.szd g≤1048576):q7Z g=some (j4U g):=by
 unfold q7Z j4U
 rw [j6s h,Option.bind_some]
 dsimp only
 by_cases h0:(z3P g).1=0
 ·rw [if_pos h0,if_pos h0]
  rw [z2p (q:=fun r=>!typR g r) (c:=fun k=>((7:Int),(k:Int))) fun k r hr=>by
   unfold z2L
   rw [j7P g (Nat.le_trans (z1P hr) h),Option.bind_some,← apply_ite some]]
  cases g.Rules.findIdx? fun r=>!typR g r with
  | some k=>dsimp only; rw [Nat.zero_add]; rfl
  | none=>
   obtain⟨l,e1,e2,e3⟩:=z5Z (g:=g) (j0e h).1
   rw [Option.bind_some,q9E,e1,Option.bind_some]
   unfold hgtL
   rw [e1,Option.getD_some]
   rw [z2p (q:=fun x:Int=>decide (x=0)) (c:=fun k=>((8:Int),(k:Int))) fun k x hx=>by
    unfold z2M
    by_cases hz:x=0
    ·rw [if_pos hz,if_pos (by simpa using hz)]
    ·rw [if_neg hz,if_neg (by simpa using hz)]]
   dsimp only
   cases l.findIdx? fun x=>decide (x=0) with
   | some k=>dsimp only; rw [Nat.zero_add]; rfl
   | none=>rfl
 ·rw [if_neg h0,if_neg h0]
theorem j3Q {g:Grammar}(h:Sz.szd g≤1048576):q7b g=some (j4U g):=by
 unfold q7b j4U
 rw [j6t h,Option.bind_some]
 dsimp only
 by_cases h0:(z3P g).1=0
 ·have hS:=j7L h0
  rw [if_pos h0,if_pos h0]
  rw [z2p (q:=fun r=>!typR g r) (c:=fun k=>((7:Int),(k:Int))) fun k r hr=>by
   unfold z2P
   rw [j7Q (z3L h) (Nat.le_trans (z1P hr) h) fun q hq=>hS.pos hr hq,Option.bind_some]
   cases typR g r<;>rfl]
  cases g.Rules.findIdx? fun r=>!typR g r with
  | some k=>dsimp only; rw [Nat.zero_add]; rfl
  | none=>
   obtain⟨l,e1,e2,e3⟩:=z5Z (g:=g) (j0e h).1
   rw [Option.bind_some,q9E]
   unfold hgtL
   rw [e1,Option.getD_some]
   have hprod:∀ k x,g.Symbols[k]? = some x→q8c g x.Name=some (!decide (l.getD k 0=0)):=by
    intro k x hk
    have hk' : k < g.Symbols.length:=(List.getElem?_eq_some_iff.1 hk).1
    have ha:atI g x.Name=(k:Int):=by unfold atI; rw [hS.at_ hk]
    unfold q8c z1z
    rw [k0c,ha,Option.bind_some,if_neg (by omega),e2,Option.bind_some,q3o (by omega),Int.toNat_natCast,getD_some (by rw [e3.1]; exact hk'),Option.bind_some,Option.bind_some]
    have:=e3.2 k
    congr 1
    by_cases hz:l.getD k 0=0
    ·rw [decide_eq_true hz,decide_eq_false (by omega)]; rfl
    ·rw [decide_eq_false hz,decide_eq_true (by omega)]; rfl
   have hrun:∀ (xs:List Symbol) (ys:List Int) (i:Nat),(∀ j x,xs[j]? = some x→g.Symbols[i+j]? = some x)→ys.length=xs.length→(∀ j y,ys[j]? = some y→l.getD (i+j) 0=y) →
     findL (q8I g) i xs ()=some (match ys.findIdx? fun x=>decide (x=0) with | some j=>.inr (8,((i+j:Nat):Int)) | none=>.inl ()):=by
    intro xs
    induction xs with
    | nil=>
     intro ys i _ hl _
     obtain rfl:=List.eq_nil_of_length_eq_zero hl
     rfl
    | cons x xs ih=>
     intro ys i hx hl hy
     cases ys with
     | nil=>simp at hl
     | cons y ys=>
      have h1:=hprod i x (by simpa using hx 0 x rfl)
      have h2:l.getD i 0=y:=by simpa using hy 0 y rfl
      have ih:=ih ys (i+1) (fun j z hz=>by rw [show i+1+j=i+(j+1) by omega]; exact hx (j+1) z (by simpa using hz)) (by simpa using hl) fun j z hz=>by
       rw [show i+1+j=i+(j+1) by omega]; exact hy (j+1) z (by simpa using hz)
      rw [h2] at h1
      have e:q8I g i x ()=some (if y=0 then .inr (8,(i:Int)) else .inl ()):=by
       unfold q8I
       rw [h1,Option.bind_some]
       by_cases hz:y=0
       ·rw [decide_eq_true hz,if_pos hz]; rfl
       ·rw [decide_eq_false hz,if_neg hz]; rfl
      rw [findL,e,Option.bind_some,List.findIdx?_cons]
      by_cases hz:y=0
      ·rw [if_pos hz,if_pos (by simpa using hz)]; rfl
      ·rw [if_neg hz,if_neg (by simpa using hz)]
       dsimp only
       rw [ih]
       cases ys.findIdx? fun x=>decide (x=0) with
       | none=>rfl
       | some j=>simp only [Option.map_some]; rw [show i+1+j=i+(j+1) by omega]
   rw [hrun g.Symbols l 0 (fun j x hx=>by rw [Nat.zero_add]; exact hx) e3.1 fun j y hy=>by rw [Nat.zero_add,List.getD_eq_getElem?_getD,hy]; rfl]
   dsimp only
   cases l.findIdx? fun x=>decide (x=0) with
   | some k=>dsimp only; rw [Nat.zero_add]; rfl
   | none=>rfl
 ·rw [if_neg h0,if_neg h0]
noncomputable def z8c (g:Grammar):Bool:=decide ((j4U g).1=0)
theorem j7S {g:Grammar}(h:Sz.szd g≤1048576):z1d g=some (z8c g):=by
 unfold z1d; rw [j7R h]; rfl
theorem j7T {g:Grammar}(h:Sz.szd g≤1048576):z2l g=some (z8c g):=by
 unfold z2l; rw [j3Q h]; rfl
end Go.Proofs.YtibagkppfnjgcaaGreat
namespace Go.Proofs.YtibagkppfnjgcaaGreat
open Go Go.E
theorem j9z {g:Grammar}{r:Rule}(h:∀ y∈g.Symbols,y.Attributes.length≤1048576)(hr:r.Right.length≤1048576){o:List Occurrence}(ho:q5Q g r=some o) :
  ∀ x∈o,∃ k:Nat,x.Pos=(k:Int)∧k≤r.Right.length:=by
 have key:∀ m k (s:List Occurrence),k+m=r.Right.length+1→s.length≤k*1048576→(∀ x∈s,∃ k:Nat,x.Pos=(k:Int)∧k≤r.Right.length)→∀ q,eachN (q4X g r) k m s=some q→∀ x∈q,∃ k:Nat,x.Pos=(k:Int)∧k≤r.Right.length:=by
  intro m
  induction m with
  | zero=>intro k s _ _ hs q hq; cases hq; exact hs
  | succ m ih=>
   intro k s hk hs hp q hq
   obtain⟨x,hx⟩:=z5K r k (by omega) hr
   obtain⟨p,hp1,hp2,hp3⟩:=z9d h x
   have hy:=j1t k p 0 s (by omega)
   have e:q4X g r k s=some (s++p.map fun x=>(⟨(k:Int),x.Name⟩:Occurrence)):=by
    unfold q4X; rw [z4d,hx,Option.bind_some,hp2,Option.bind_some,hy]; rfl
   simp only [eachN,e,Option.bind_some] at hq
   refine ih (k+1) _ (by omega) (by simp; omega) (fun x hx=>?_) q hq
   rcases List.mem_append.1 hx with hx | hx
   ·exact hp x hx
   ·obtain⟨a,_,rfl⟩:=List.mem_map.1 hx
    exact⟨k,rfl,by omega⟩
 unfold q5Q at ho
 rw [q3o (by constructor<;>omega)] at ho
 have e1:eachN (q4X g r) 0 (r.Right.length+1) []=some o:=by
  cases hq:eachN (q4X g r) 0 (r.Right.length+1) [] with
  | none=>rw [hq] at ho; cases ho
  | some q=>rw [hq] at ho; exact ho
 exact key _ _ _ (by omega) (by simp) (by simp) o e1
theorem j6x (y:Symbol)(s:ByteArray):∃ a b,q4m y s=some (a,b)∧q5e y s=some (a,b):=by
 have h1:=q8R (p:=fun y:Attribute=>decide (y.Name=s)) (r:=fun y=>(y,true)) (xs:=y.Attributes) (i:=0) (f:=q6T s) fun k y hy=>by
  unfold q6T; constructor<;>intro hp<;>simp_all
 have e:q5e=q4m:=rfl
 rw [e]
 unfold q4m
 rw [h1]
 cases hf:y.Attributes.find? (fun y:Attribute=>decide (y.Name=s)) with
 | none=>exact⟨_,_,rfl,rfl⟩
 | some y=>exact⟨_,_,rfl,rfl⟩
noncomputable def circ (g:Grammar) (r:Rule) (o:Occurrence):Bool:=match q3C o g r with
 | some b=>!b
 | none=>false
theorem j6y {g:Grammar}{r:Rule}(h:∀ y∈g.Symbols,y.Attributes.length≤1048576)(hr:r.Right.length≤1048576){o:Occurrence}{k:Nat}(hk:o.Pos=(k:Int))(hkr:k≤r.Right.length) :
  q3C o g r=some (!circ g r o)∧∀ (i:Nat) (s:List Occurrence),s.length < 4398046511104→q6d g r i o s=some (if circ g r o=true then s++[o] else s):=by
 obtain⟨x,hx⟩:=z5K r k hkr hr
 obtain⟨y,b,hy1,hy2,_⟩:=j1s h x
 obtain⟨a,b2,ha1,ha2⟩:=j6x y o.Name
 have e1:q3C o g r=some (!a.Circular):=by
  unfold q3C q5D
  rw [j4M,Option.bind_some,if_pos (by rw [hk]; simp; omega),hk,z4d,hx,Option.bind_some,hy2]
  dsimp only [Option.bind_some]
  rw [ha2]; rfl
 have e2:circ g r o=a.Circular:=by unfold circ; rw [e1]; simp
 refine⟨by rw [e1,e2],fun i s hs=>?_⟩
 unfold q6d
 rw [e2,hk,hx,Option.bind_some,hy1]
 dsimp only [Option.bind_some]
 rw [ha1]
 dsimp only [Option.bind_some]
 cases hc:a.Circular with
 | true=>rw [if_pos rfl,if_pos rfl,q3o (by constructor<;>omega)]; rfl
 | false=>rw [if_neg (by simp),if_neg (by simp)]; rfl
theorem z2I {α:Type}{p:α→Bool}{B:Nat}{f:Nat→α→List α→Option (List α)}:∀ (xs:List α) (i:Nat) (s:List α),(∀ k x s,x∈xs→s.length < B→f k x s=some (if p x=true then s++[x] else s))→s.length+xs.length≤B→eachL f i xs s=some (s++xs.filter p)
 | [],i,s,_,_=>by simp [eachL]
 | x :: xs,i,s,hf,h=>by
  simp only [List.length_cons] at h
  have e:=hf i x s (by simp) (by omega)
  simp only [eachL,e,Option.bind_some]
  by_cases hp:p x=true
  ·rw [if_pos hp,z2I xs (i+1) _ (fun k y s hy=>hf k y s (by simp [hy])) (by simp; omega)]; simp [hp]
  ·rw [if_neg hp,z2I xs (i+1) _ (fun k y s hy=>hf k y s (by simp [hy])) (by omega)]; simp [hp]
theorem j2V {p:Occurrence→Bool}{f:(List Occurrence × Int × Int)→Option ((List Occurrence × Int × Int) ⊕ (List Occurrence × Int))}{xs:List Occurrence}(hn:xs.length≤4398046511104)
  (hdone:∀ s i j,¬ j < (s.length:Int)→f (s,i,j)=some (.inr (s,i)))
  (hskip:∀ s (i j:Nat) x,j < s.length→s[j]? = some x→x∈xs→s.length=xs.length→p x=false→f (s,(i:Int),(j:Int))=some (.inl (s,(i:Int),((j+1:Nat):Int))))
  (hkeep:∀ s (i j:Nat) x,j < s.length→i < j→s[j]? = some x→x∈xs→s.length=xs.length→p x=true→f (s,(i:Int),(j:Int))=some (.inl (s.set i x,((i+1:Nat):Int),((j+1:Nat):Int)))) :
  ∀ (m i j:Nat) (s:List Occurrence),j+m=xs.length→i < j→s.length=xs.length→s.take i=(xs.take j).filter p→s.drop j=xs.drop j →
   ∃ s' i' : _,q5m f (s,(i:Int),(j:Int))=some (s',((i' : Nat):Int))∧i'≤s'.length∧s'.length=xs.length∧s'.take i'=xs.filter p:=by
 intro m
 induction m with
 | zero=>
  intro i j s hm hij hs ht hd
  have hj:j=xs.length:=by omega
  refine⟨s,i,q4u (hdone s _ _ (by omega)),by omega,hs,?_⟩
  rw [ht,hj,List.take_length]
 | succ m ih=>
  intro i j s hm hij hs ht hd
  have hjs:j < s.length:=by omega
  obtain⟨x,hx⟩:∃ x,s[j]? = some x:=⟨_,List.getElem?_eq_getElem hjs⟩
  have hxx:xs[j]? = some x:=by
   have:=congrArg (fun l=>l[0]?) hd
   simpa [hx] using this.symm
  have hmem:=List.mem_of_getElem? hxx
  have htk:xs.take (j+1)=xs.take j++[x]:=by
   rw [List.take_add_one,hxx]; rfl
  have hdr:xs.drop (j+1)=(xs.drop j).drop 1:=by rw [List.drop_drop]
  cases hp:p x with
  | false=>
   have e:=hskip s i j x hjs hx hmem hs hp
   rw [q4U e]
   exact ih i (j+1) s (by omega) (by omega) hs (by rw [htk,List.filter_append,ht]; simp [hp]) (by rw [hdr,← hd,List.drop_drop])
  | true=>
   have e:=hkeep s i j x hjs hij hx hmem hs hp
   rw [q4U e]
   refine ih (i+1) (j+1) _ (by omega) (by omega) (by rw [List.length_set]; exact hs) ?_ ?_
   ·rw [htk,List.filter_append,← ht,List.take_add_one,List.take_set]
    simp [hp,List.getElem?_set,show i < s.length by omega]
    rw [List.set_eq_of_length_le (by simp; omega)]
   ·rw [List.drop_set,if_pos (by omega),hdr,← hd,List.drop_drop]
theorem j2W {g:Grammar}{r:Rule}{xs:List Occurrence}(hn:xs.length≤4398046511104)(hx:∀ o∈xs,q3C o g r=some (!circ g r o)) :
  q3v xs g r=some (xs.filter (circ g r)):=by
 have hix:∀ (ys:List Occurrence) (i:Nat),(∀ o∈ys,q3C o g r=some (!circ g r o))→((∀ o∈ys,circ g r o=true)∧findL (q3p g r) i ys ()=some (.inl ())) ∨
   ∃ k:Nat,k < ys.length∧(∀ o∈ys.take k,circ g r o=true)∧(∃ o,ys[k]? = some o∧circ g r o=false)∧findL (q3p g r) i ys ()=some (.inr ((i+k:Nat):Int)):=by
  intro ys
  induction ys with
  | nil=>intro i _; exact .inl ⟨by simp,rfl⟩
  | cons y ys ih=>
   intro i hy
   have e:=hy y (by simp)
   cases hc:circ g r y with
   | false=>
    refine .inr ⟨0,by simp,by simp,⟨y,rfl,hc⟩,?_⟩
    simp [findL,q3p,e,hc]
   | true=>
    have e2:findL (q3p g r) i (y :: ys) ()=findL (q3p g r) (i+1) ys ():=by
     simp [findL,q3p,e,hc]
    rcases ih (i+1) (fun o ho=>hy o (by simp [ho])) with ⟨h1,h2⟩ | ⟨k,h1,h2,h3,h4⟩
    ·exact .inl ⟨by intro o ho; exact (List.mem_cons.1 ho).elim (fun e=>e▸hc) (h1 o),by rw [e2,h2]⟩
    ·refine .inr ⟨k+1,by simpa using h1,?_,by simpa using h3,by rw [e2,h4]; congr 3; omega⟩
     intro o ho
     rw [List.take_succ_cons] at ho
     exact (List.mem_cons.1 ho).elim (fun e=>e▸hc) (h2 o)
 unfold q3v
 rcases hix xs 0 hx with ⟨h1,h2⟩ | ⟨k,h1,h2,⟨o,h3,h3'⟩,h4⟩
 ·have e:q3r xs g r=some (-1):=by
   unfold q3r; rw [h2]; rfl
  rw [e,Option.bind_some,if_pos rfl,List.filter_eq_self.2 h1]
 ·have e:q3r xs g r=some (k:Int):=by
   unfold q3r; rw [h4,Nat.zero_add]; rfl
  rw [e,Option.bind_some,if_neg (by omega),q3o (by constructor<;>omega)]
  obtain⟨s,i,q1,q2,q3,q4⟩:=j2V (p:=circ g r) (f:=q3t g r) (xs:=xs) hn
   (by intro s i j hj; unfold q3t; dsimp only; rw [if_neg hj])
   (by
    intro s i j x hj hx' hm hs hp
    unfold q3t; dsimp only
    rw [if_pos (by omega),q3o (by omega),Int.toNat_natCast,hx',Option.bind_some,hx x hm,hp,Option.bind_some,if_pos (by rfl),Option.bind_some]
    dsimp only
    rw [q3o (by constructor<;>omega)]; rfl)
   (by
    intro s i j x hj hij hx' hm hs hp
    unfold q3t; dsimp only
    obtain⟨x2,hx2⟩:∃ x,s[i]? = some x:=⟨_,List.getElem?_eq_getElem (by omega)⟩
    rw [if_pos (by omega),q3o (by omega),Int.toNat_natCast,hx',Option.bind_some,hx x hm,hp,Option.bind_some,if_neg (by simp),
     q3o (by omega),Int.toNat_natCast,hx2,Option.bind_some,q3o (by constructor<;>omega),Option.bind_some]
    dsimp only
    rw [q3o (by constructor<;>omega)]; rfl)
   (xs.length - (k+1)) k (k+1) xs (by omega) (by omega) rfl (by
    rw [List.take_add_one,h3,List.filter_append,List.filter_eq_self.2 h2]; simp [h3']) rfl
  have e:q5m (q3t g r) (xs,(k:Int),(k:Int)+1)=some (s,(i:Int)):=q1
  rw [e,Option.bind_some]
  dsimp only
  rw [Int.toNat_natCast,q3o (by omega),q3o q2,q3o (by omega),q3o (by simp; omega)]
  congr 1
  rw [List.take_append_of_le_length (by simp; omega),List.take_take,Nat.min_self,q4]
theorem j0i {g:Grammar}{r:Rule}(h:∀ y∈g.Symbols,y.Attributes.length≤1048576)(hr:r.Right.length≤1048576):∃ x,q4b g r=some x∧q4L g r=some x∧x.length≤1099512676352:=by
 obtain⟨o,ho1,ho2,ho3⟩:=j7C h hr
 have hp:=j9z h hr ho2
 have hc:∀ x∈o,q3C x g r=some (!circ g r x)∧∀ (i:Nat) (s:List Occurrence),s.length < 4398046511104→q6d g r i x s=some (if circ g r x=true then s++[x] else s):=fun x hx=>by
  obtain⟨k,h1,h2⟩:=hp x hx
  exact j6y h hr h1 h2
 refine⟨o.filter (circ g r),?_,?_,by have:=List.length_filter_le (circ g r) o; omega⟩
 ·unfold q4b
  rw [ho1,Option.bind_some,z2I (p:=circ g r) (B:=4398046511104) o 0 [] (fun k x s hx hs=>(hc x hx).2 k s hs) (by simp; omega)]; rfl
 ·unfold q4L
  rw [ho2,Option.bind_some,j2W (by omega) fun x hx=>(hc x hx).1]; rfl
end Go.Proofs.YtibagkppfnjgcaaGreat
namespace Go.Proofs.YtibagkppfnjgcaaGreat
open Go Go.E
def z0H (e:Expr)(list:List Occurrence):Bool:=(z2F e).any fun o=>list.contains o
theorem j2X (list:List Occurrence)(o:Occurrence):q3D list o=some (list.contains o):=by
 have h:q4H list o=some (ixF list o):=by
  unfold q4H
  refine j5H fun k x=>⟨fun e=>?_,fun e=>?_⟩
  ·unfold q5v; rw [if_pos e.symm]
  ·unfold q5v; rw [if_neg (fun h=>e h.symm)]
 unfold q3D
 rw [h,Option.bind_some]
 congr 1
 unfold ixF
 by_cases hm:o∈list
 ·rw [if_pos hm]; simp [hm]
 ·rw [if_neg hm]; simp [hm]
theorem j0j {e:Expr}{list:List Occurrence}(h:Sz.szd e≤1048576):q8Q e list=some (z0H e list):=by
 unfold q8Q
 rw [j3H h,Option.bind_some]
 have hw:∀ o,z0m o list=some (list.contains o):=fun o=>by unfold z0m; rw [j2X]; rfl
 have hcf:q3H (z5j e) list=some (z0H e list):=by
  have key:∀ (l:List Occurrence) (i:Nat),(l.any fun o=>list.contains o)=true→∃ k:Nat,findL (q3x list) i l ()=some (.inr (k:Int)):=by
   intro l
   induction l with
   | nil=>intro i h; simp at h
   | cons x l ih=>
    intro i h
    by_cases hx:list.contains x=true
    ·exact⟨i,by simp only [findL,q3x,hw,Option.bind_some,hx,if_true]⟩
    ·obtain⟨k,hk⟩:=ih (i+1) (by simp only [List.any_cons,Bool.or_eq_true] at h; exact h.resolve_left hx)
     exact⟨k,by simp only [findL,q3x,hw,Option.bind_some,hx,if_false]; exact hk⟩
  have key2:∀ (l:List Occurrence) (i:Nat),(l.any fun o=>list.contains o)=false→findL (q3x list) i l ()=some (.inl ()):=by
   intro l
   induction l with
   | nil=>intro i _; rfl
   | cons x l ih=>
    intro i h
    simp only [List.any_cons,Bool.or_eq_false_iff] at h
    simp only [findL,q3x,hw,Option.bind_some,h.1,Bool.false_eq_true,if_false]
    exact ih _ h.2
  have hab:(z5j e).any (fun o=>list.contains o)=z0H e list:=by
   unfold z0H
   rw [Bool.eq_iff_iff,List.any_eq_true,List.any_eq_true]
   exact⟨fun ⟨o,h1,h2⟩=>⟨o,z7R.1 h1,h2⟩,fun ⟨o,h1,h2⟩=>⟨o,z7R.2 h1,h2⟩⟩
  unfold q3H q4l
  cases hu:z0H e list with
  | true=>
   obtain⟨k,hk⟩:=key (z5j e) 0 (by rw [hab,hu])
   rw [hk]
   show some (decide ((0:Int)≤(k:Int)))=_
   simp
  | false=>
   rw [key2 (z5j e) 0 (by rw [hab,hu])]; rfl
 rw [hcf]; rfl
theorem j3R (list:List Occurrence)(o:Occurrence):q6p list o=some (list.contains o):=by
 unfold q6p
 have key:∀ (l:List Occurrence) (i:Nat),findL (z0e o) i l ()=some (if l.contains o=true then .inr true else .inl ()):=by
  intro l
  induction l with
  | nil=>intro i; rfl
  | cons x l ih=>
   intro i
   by_cases hx:x=o
   ·subst hx; simp [findL,z0e]
   ·have hx' : ¬ o=x:=fun e=>hx e.symm
    simp [findL,z0e,hx,ih,hx']
 rw [key]
 cases list.contains o<;>rfl
theorem j7U (e:Expr)(list:List Occurrence):z0H e list=((decide (e.Kind=3)&&list.contains ⟨e.Pos,e.Name⟩)||e.Args.any fun x=>z0H x list):=by
 unfold z0H
 rw [z1B,List.any_append]
 congr 1
 ·by_cases hk:e.Kind=3<;>simp [hk]
 ·rw [Bool.eq_iff_iff,List.any_eq_true,List.any_eq_true]
  constructor
  ·rintro⟨o,h1,h2⟩
   obtain⟨x,h3,h4⟩:=z5E.1 h1
   exact⟨x,h3,List.any_eq_true.2 ⟨o,h4,h2⟩⟩
  ·rintro⟨x,h1,h2⟩
   obtain⟨o,h3,h4⟩:=List.any_eq_true.1 h2
   exact⟨o,z5E.2 ⟨x,h1,h3⟩,h4⟩
theorem j2Y:∀ (m:Nat) (e:Expr) (list:List Occurrence) (q:Bool),q6E m e list=some q→q=z0H e list:=by
 intro m
 induction m with
 | zero=>intro e list q h; cases h
 | succ m ih=>
  intro e list q h
  have hl:∀ (f:Nat→Expr→Unit→Option (Unit ⊕ Bool)) (hf:∀ k x,f k x ()=(q6E m x list).bind fun y2=>if y2=true then some (.inr true) else some (.inl ())) (l:List Expr) (i:Nat) (q:Unit ⊕ Bool),findL f i l ()=some q→q=if (l.any fun x=>z0H x list)=true then .inr true else .inl ():=by
   intro f hf l
   induction l with
   | nil=>intro i q h; simp [findL] at h; simp [← h]
   | cons x l ihl=>
    intro i q h
    cases hx:q6E m x list with
    | none=>simp [findL,hf,hx] at h
    | some r=>
     have hr:=ih x list r hx
     cases r with
     | true=>simp [findL,hf,hx] at h; simp [← h,← hr]
     | false=>
      simp only [findL,hf,hx,Option.bind_some,Bool.false_eq_true,if_false] at h
      rw [ihl _ _ h]; simp [← hr]
  have hB:q9M (q6E m) e list=some q:=h
  unfold q9M at hB
  rw [j7U]
  by_cases hk:e.Kind=3
  ·rw [if_pos hk,j3R,Option.bind_some] at hB
   by_cases hc:list.contains (⟨e.Pos,e.Name⟩:Occurrence)=true
   ·rw [if_pos hc] at hB; cases hB; simp only [hk,hc,decide_true,Bool.and_self,Bool.true_or]
   ·rw [if_neg hc] at hB
    obtain⟨r,h1,h2⟩:=bd hB
    have:=hl _ (fun k x=>rfl) _ _ _ h1
    subst this
    have hc' : list.contains (⟨e.Pos,e.Name⟩:Occurrence)=false:=by simpa using hc
    rw [hc',Bool.and_false,Bool.false_or]
    split at h2<;>rename_i ha
    ·cases h2; exact ha.symm
    ·cases h2; simpa using ha
  ·rw [if_neg hk] at hB
   obtain⟨r,h1,h2⟩:=bd hB
   have:=hl _ (fun k x=>rfl) _ _ _ h1
   subst this
   rw [decide_eq_false hk,Bool.false_and,Bool.false_or]
   split at h2<;>rename_i ha
   ·cases h2; exact ha.symm
   ·cases h2; simpa using ha
theorem j2Z:∀ (m:Nat) (e:Expr) (list:List Occurrence),fuE e≤m→∃ q,q6E m e list=some q:=by
 intro m
 induction m with
 | zero=>intro e list h; rw [z4n] at h; omega
 | succ m ih=>
  intro e list h
  rw [z4n] at h
  have hl:∀ (f:Nat→Expr→Unit→Option (Unit ⊕ Bool)) (hf:∀ k x,f k x ()=(q6E m x list).bind fun y2=>if y2=true then some (.inr true) else some (.inl ())) (l:List Expr) (i:Nat),fuEs l≤m→∃ q,findL f i l ()=some q:=by
   intro f hf l
   induction l with
   | nil=>intro i _; exact⟨_,rfl⟩
   | cons x l ihl=>
    intro i hm
    simp only [fuEs] at hm
    obtain⟨r,hr⟩:=ih x list (by omega)
    cases r with
    | true=>exact⟨.inr true,by simp [findL,hf,hr]⟩
    | false=>obtain⟨q,hq⟩:=ihl (i+1) (by omega); exact⟨q,by simp [findL,hf,hr,hq]⟩
  show ∃ q,q9M (q6E m) e list=some q
  unfold q9M
  by_cases hk:e.Kind=3
  ·rw [if_pos hk,j3R,Option.bind_some]
   by_cases hc:list.contains (⟨e.Pos,e.Name⟩:Occurrence)=true
   ·exact⟨true,by rw [if_pos hc]⟩
   ·rw [if_neg hc]
    obtain⟨q,hq⟩:=hl (z7C (q6E m) list) (fun k x=>rfl) e.Args 0 (by omega)
    rw [hq]
    cases q with
    | inl u=>exact⟨false,rfl⟩
    | inr b=>exact⟨b,rfl⟩
  ·rw [if_neg hk]
   obtain⟨q,hq⟩:=hl (z7D (q6E m) list) (fun k x=>rfl) e.Args 0 (by omega)
   rw [hq]
   cases q with
   | inl u=>exact⟨false,rfl⟩
   | inr b=>exact⟨b,rfl⟩
theorem j0k (e:Expr)(list:List Occurrence):z2j e list=some (z0H e list):=by
 refine q7j (fuE e) fun m hm=>?_
 obtain⟨q,hq⟩:=j2Z m e list hm
 have:=j2Y _ _ _ _ hq
 subst this
 exact hq
end Go.Proofs.YtibagkppfnjgcaaGreat
namespace Go.Proofs.YtibagkppfnjgcaaGreat
open Go Go.E
mutual
def q7T (l:List Occurrence):Expr→Bool
 | ⟨k,n,p,t,s,m,a⟩=>
  if z0H ⟨k,n,p,t,s,m,a⟩ l=false∨k=3 then true
  else if k=5∧(a.length:Int)=3 then !z0H (a.getD 0 ⟨0,0,0,0,⟨#[]⟩,⟨#[]⟩,[]⟩) l&&((z6a l a).getD 1 false&&(z6a l a).getD 2 false)
  else if k=4∧(a.length:Int)=2 then
   if n=6∨n=7 then (z6a l a).getD 0 false&&(z6a l a).getD 1 false
   else if n=8∨n=12 then (z6a l a).getD 0 false && !z0H (a.getD 1 ⟨0,0,0,0,⟨#[]⟩,⟨#[]⟩,[]⟩) l
   else false
  else false
def z6a (l:List Occurrence):List Expr→List Bool
 | []=>[]
 | x :: xs=>q7T l x :: z6a l xs
end
theorem j1C (l:List Occurrence):∀ a,z6a l a=a.map (q7T l)
 | []=>rfl
 | x :: xs=>by rw [z6a,j1C l xs]; rfl
def zE:Expr:=⟨0,0,0,0,⟨#[]⟩,⟨#[]⟩,[]⟩
theorem j7V (l:List Occurrence)(e:Expr):q7T l e =
  if z0H e l=false∨e.Kind=3 then true
  else if e.Kind=5∧(e.Args.length:Int)=3 then !z0H (e.Args.getD 0 zE) l&&((e.Args.map (q7T l)).getD 1 false&&(e.Args.map (q7T l)).getD 2 false)
  else if e.Kind=4∧(e.Args.length:Int)=2 then
   if e.N=6∨e.N=7 then (e.Args.map (q7T l)).getD 0 false&&(e.Args.map (q7T l)).getD 1 false
   else if e.N=8∨e.N=12 then (e.Args.map (q7T l)).getD 0 false && !z0H (e.Args.getD 1 zE) l
   else false
  else false:=by
 cases e
 rw [q7T,j1C]; rfl
theorem z8d {e:Expr}{k:Nat}(h:k < e.Args.length):∃ x,e.Args[k]? = some x∧x∈e.Args∧(∀ f:Expr→Bool,(e.Args.map f).getD k false=f x)∧e.Args.getD k zE=x∧∀ f:Expr→Int,(e.Args.map f).getD k 0=f x:=by
 refine⟨e.Args[k],List.getElem?_eq_getElem h,List.getElem_mem h,fun f=>?_,?_,fun f=>?_⟩
 ·rw [List.getD_eq_getElem?_getD,List.getElem?_map,List.getElem?_eq_getElem h]; rfl
 ·rw [List.getD_eq_getElem?_getD,List.getElem?_eq_getElem h]; rfl
 ·rw [List.getD_eq_getElem?_getD,List.getElem?_map,List.getElem?_eq_getElem h]; rfl
theorem j3S (l:List Occurrence)(e:Expr):∀ m,fuE e≤m→Sz.szd e≤1048576→q8j m e l=some (q7T l e)∧q8i m e l=some (q7T l e):=by
 induction e using q8m with
 | h e ih=>
  intro m hm hs
  obtain⟨m,rfl⟩:∃ q,m=q+1:=⟨m - 1,by have:=z1C e; omega⟩
  show q9n (q8j m) e l=_∧q9m (q8i m) e l=_
  have hx:∀ x∈e.Args,Sz.szd x≤1048576∧q8j m x l=some (q7T l x)∧q8i m x l=some (q7T l x):=fun x h=>by
   have h1:=j5I h
   exact⟨by omega,ih x h m (by have:=z1m h; omega) (by omega)⟩
  have E0:=j7V l e
  unfold q9n q9m
  rw [j0k,j0j hs,Option.bind_some,Option.bind_some]
  cases hu:z0H e l with
  | false=>
   rw [if_pos (.inl hu)] at E0
   rw [E0]; exact⟨rfl,rfl⟩
  | true=>
  rw [if_pos rfl,Option.bind_some,Option.bind_some]
  by_cases h3:e.Kind=3
  ·rw [if_pos (.inr h3)] at E0
   rw [E0]; simp [h3]
  rw [if_neg (by simp [hu,h3])] at E0
  by_cases h5:e.Kind=5
  ·have h4:¬ e.Kind=4:=by omega
   by_cases hl:(e.Args.length:Int)=3
   ·obtain⟨x,x1,x2,x3,x4,_⟩:=z8d (e:=e) (k:=0) (by omega)
    obtain⟨y,y1,y2,y3,y4,_⟩:=z8d (e:=e) (k:=1) (by omega)
    obtain⟨z,z1,z2,z3,z4,_⟩:=z8d (e:=e) (k:=2) (by omega)
    rw [if_pos (show e.Kind=5∧(e.Args.length:Int)=3 from⟨h5,hl⟩),x4,y3,z3] at E0
    rw [E0]
    have a1:=j0j (list:=l) (hx x x2).1
    have a2:=j0k x l
    have b1:=(hx y y2).2
    have c1:=(hx z z2).2
    refine⟨?_,?_⟩
    ·simp only [h5,hl,x1,y1,z1,a2,b1.1,c1.1,Option.bind_some]
     cases z0H x l<;>cases q7T l y<;>cases q7T l z<;>simp
    ·simp only [h5,hl,x1,y1,z1,a1,b1.2,c1.2,Option.bind_some]
     cases z0H x l<;>cases q7T l y<;>cases q7T l z<;>simp
   ·rw [if_neg (fun q=>hl q.2),if_neg (fun q=>h4 q.1)] at E0
    rw [E0]; simp [h5,hl]
  ·rw [if_neg (fun q=>h5 q.1)] at E0
   by_cases h4:e.Kind=4
   ·by_cases hl:(e.Args.length:Int)=2
    ·obtain⟨x,x1,x2,x3,x4,_⟩:=z8d (e:=e) (k:=0) (by omega)
     obtain⟨y,y1,y2,y3,y4,_⟩:=z8d (e:=e) (k:=1) (by omega)
     rw [if_pos (show e.Kind=4∧(e.Args.length:Int)=2 from⟨h4,hl⟩),x3,y3,y4] at E0
     rw [E0]
     have a1:=j0j (list:=l) (hx y y2).1
     have a2:=j0k y l
     have b1:=(hx x x2).2
     have c1:=(hx y y2).2
     refine⟨?_,?_⟩
     ·simp only [h4,hl,x1,y1,a2,b1.1,c1.1,Option.bind_some]
      by_cases n6:e.N=6
      ·cases q7T l x<;>cases q7T l y<;>simp [n6]
      by_cases n7:e.N=7
      ·cases q7T l x<;>cases q7T l y<;>simp [n7]
      by_cases n8:e.N=8
      ·cases q7T l x<;>cases z0H y l<;>simp [n8]
      by_cases n12:e.N=12
      ·cases q7T l x<;>cases z0H y l<;>simp [n12]
      ·simp [n6,n7,n8,n12]
     ·simp only [h4,hl,x1,y1,a1,b1.2,c1.2,Option.bind_some]
      by_cases n6:e.N=6
      ·cases q7T l x<;>cases q7T l y<;>simp [n6]
      by_cases n7:e.N=7
      ·cases q7T l x<;>cases q7T l y<;>simp [n7]
      by_cases n8:e.N=8
      ·cases q7T l x<;>cases z0H y l<;>simp [n8]
      by_cases n12:e.N=12
      ·cases q7T l x<;>cases z0H y l<;>simp [n12]
      ·simp [n6,n7,n8,n12]
    ·rw [if_neg (fun q=>hl q.2)] at E0
     rw [E0]; simp [h4,hl]
   ·rw [if_neg (fun q=>h4 q.1)] at E0
    rw [E0]; simp [h3,h4,h5]
theorem j7W {l:List Occurrence}{e:Expr}(h:Sz.szd e≤1048576):z2D e l=some (q7T l e):=q7j (fuE e) fun m hm=>(j3S l e m hm h).1
theorem j3T {l:List Occurrence}{e:Expr}(h:Sz.szd e≤1048576):z0F e l=some (q7T l e):=q7j (fuE e) fun m hm=>(j3S l e m hm h).2
end Go.Proofs.YtibagkppfnjgcaaGreat
namespace Go.Proofs.YtibagkppfnjgcaaGreat
open Go Go.E
def farB (e:Expr):Bool:=!allE (fun x=>!decide (x.Kind=8)) e
theorem j7X (e:Expr):∀ m,fuE e≤m→z0o m e=some (farB e):=by
 induction e using q8m with
 | h e ih=>
  intro m hm
  obtain⟨m,rfl⟩:∃ q,m=q+1:=⟨m - 1,by have:=z1C e; omega⟩
  show z0n (z0o m) e=_
  unfold z0n
  rw [q3O (c:=true) (q:=fun x=>!farB x) fun k x hx=>by
   unfold z5a
   rw [ih x hx m (by have:=z1m hx; omega),Option.bind_some]
   cases farB x<;>rfl]
  have e1:farB e=!(!decide (e.Kind=8)&&e.Args.all fun x=>!farB x):=by
   unfold farB
   rw [z5F]
   congr 2
   congr 1; funext x; rw [Bool.not_not]
  rw [e1,Option.bind_some]
  cases e.Args.all fun x=>!farB x with
  | true=>rw [if_pos rfl,q9E,Bool.and_true,Bool.not_not]
  | false=>rw [if_neg (by simp),z6K,Bool.and_false]; rfl
theorem j9A (e:Expr):z3y e=some (farB e):=q7j (fuE e) fun m hm=>j7X e m hm
theorem j7Y (e:Expr):∀ m,fuE e≤m→q5c m e=some (!farB e):=by
 induction e using q8m with
 | h e ih=>
  intro m hm
  obtain⟨m,rfl⟩:∃ q,m=q+1:=⟨m - 1,by have:=z1C e; omega⟩
  show q5b (q5c m) e=_
  unfold q5b q3F q3I q9W
  have e1:(!farB e)=(!decide (e.Kind=8)&&e.Args.all fun x=>!farB x):=by
   unfold farB
   rw [z5F,Bool.not_not]
   congr 1
   congr 1; funext x; rw [Bool.not_not]
  rw [Option.bind_some,e1]
  cases decide (e.Kind=8) with
  | true=>rfl
  | false=>
   rw [Bool.not_false,if_pos rfl,q4J (q:=fun x=>farB x) fun k x hx=>by
    unfold q4T q5s
    rw [ih x hx m (by have:=z1m hx; omega),Option.bind_some,Option.bind_some]
    cases farB x<;>rfl]
   rw [Bool.true_and,Option.bind_some,List.not_any_eq_all_not]
theorem j9B (e:Expr):z0k e=some (farB e):=by
 unfold z0k
 rw [show q6N e=some (!farB e) from q7j (fuE e) fun m hm=>j7Y e m hm,Option.bind_some,Bool.not_not]
def farR (r:Rule):Bool:=r.Equations.any fun q=>farB q.Expr
theorem j7Z (r:Rule):z0p r=some (farR r):=by
 unfold z0p farR
 rw [q3O (c:=true) (q:=fun q:Equation=>!farB q.Expr) fun k x hx=>by
  unfold z5b
  rw [j9A,Option.bind_some]
  cases farB x.Expr<;>rfl]
 have e:(r.Equations.all fun q=>!farB q.Expr)=!(r.Equations.any fun q=>farB q.Expr):=by rw [List.not_any_eq_all_not]
 rw [e]
 cases r.Equations.any fun q=>farB q.Expr<;>rfl
theorem j8a {g:Grammar}(h:Sz.szd g≤1048576):z0l g=some (g.Rules.any fun r=>(z1E r).any farB):=by
 unfold z0l q4r q4B
 rw [q4J (q:=fun r=>(z1E r).any farB) fun k r hr=>by
  unfold q5Y q9X
  rw [j3O (Nat.le_trans (z1P hr) h),Option.bind_some]
  unfold q4x q4G
  rw [q4J (q:=farB) fun k e he=>by
   unfold q6u
   rw [j9B,Option.bind_some,← apply_ite some]]
  rw [Option.bind_some,Option.bind_some,← apply_ite some]]
 rfl
def colG (g:Grammar):Bool:=g.Symbols.any fun y=>y.Attributes.any fun a=>decide (a.Mode=3)
theorem j6z (g:Grammar):q4M g=some (colG g):=by
 unfold q4M q3w q3z colG
 rw [q4J (q:=fun y:Symbol=>y.Attributes.any fun a=>decide (a.Mode=3)) fun k y hy=>by
  unfold q4E q4Z q3T q4c
  rw [q4J (q:=fun a:Attribute=>decide (a.Mode=3)) fun k a ha=>by
   unfold q5t q9Y
   rw [Option.bind_some,← apply_ite some]]
  rw [Option.bind_some,Option.bind_some,← apply_ite some]]
 rfl
theorem j4V {g:Grammar}(h:z8c g=true):∀ r∈g.Rules,typR g r=true:=by
 intro r hr
 unfold z8c at h
 rw [decide_eq_true_eq] at h
 unfold j4U at h
 by_cases h0:(z3P g).1=0
 ·rw [if_pos h0] at h
  cases e:g.Rules.findIdx? fun r=>!typR g r with
  | some k=>rw [e] at h; simp at h
  | none=>
   rw [List.findIdx?_eq_none_iff] at e
   have:=e r hr
   simpa using this
 ·rw [if_neg h0] at h; exact absurd h h0
theorem j8b {g:Grammar}(h:z8c g=true)(hc:colG g=false){r:Rule}(hr:r∈g.Rules):r.Contributions=[]:=by
 have ht:=j4V h r hr
 unfold typR at ht
 rw [Bool.and_eq_true,List.all_eq_true,List.all_eq_true] at ht
 cases hq:r.Contributions with
 | nil=>rfl
 | cons q qs=>
  have h1:=ht.2 q (by rw [hq]; simp)
  unfold conT at h1
  simp only [Bool.and_eq_true,decide_eq_true_eq] at h1
  have h3:=h1.2
  unfold z0u at h3
  cases ha:(q7c g q.Symbol).1.Attributes.find? fun a=>decide (a.Name=q.Name) with
  | none=>rw [ha] at h3; exact absurd h3 (by simp [zA])
  | some a=>
   rw [ha] at h3
   have hm:=List.mem_of_find?_eq_some ha
   unfold q7c at hm
   cases hs:g.Symbols.find? fun y=>decide (y.Name=q.Symbol) with
   | none=>rw [hs] at hm; simp [zS] at hm
   | some y=>
    rw [hs] at hm
    unfold colG at hc
    rw [List.any_eq_false] at hc
    exact absurd (List.any_eq_true.2 ⟨a,hm,by simpa using h3⟩) (hc y (List.mem_of_find?_eq_some hs))
noncomputable def z4h (g:Grammar) (r:Rule):List Occurrence:=(q4b g r).getD []
theorem j0l {g:Grammar}(h:GOk g){r:Rule}(hl:ROk r):q4b g r=some (z4h g r)∧q4L g r=some (z4h g r):=by
 obtain⟨x,h1,h2,_⟩:=j0i h hl
 unfold z4h
 rw [h1,h2]; exact⟨rfl,rfl⟩
noncomputable def z8z (g:Grammar) (r:Rule):Bool:=r.Equations.all fun q=>!decide (q.At∈z4h g r)||q7T (z4h g r) q.Expr
noncomputable def j4W (g:Grammar):Bool:=z8c g&&(!colG g&&g.Rules.all fun r=>z8z g r && !farR r)
theorem j8c {g:Grammar}(h:Sz.szd g≤1048576):q8d g=some (j4W g):=by
 unfold q8d j4W
 rw [q3O (c:=false) (q:=fun y:Symbol=>!y.Attributes.any fun a=>decide (a.Mode=3)) fun k y hy=>by
  unfold z2S
  rw [q3O (c:=false) (q:=fun a:Attribute=>!decide (a.Mode=3)) fun k a ha=>by
   unfold z2R
   by_cases hm:a.Mode=3
   ·rw [if_pos hm,if_neg (by simp [hm])]
   ·rw [if_neg hm,if_pos (by simp [hm])]]
  have e:(y.Attributes.all fun a=>!decide (a.Mode=3))=!(y.Attributes.any fun a=>decide (a.Mode=3)):=by rw [List.not_any_eq_all_not]
  rw [e]
  cases y.Attributes.any fun a=>decide (a.Mode=3)<;>rfl]
 have e:(g.Symbols.all fun y=>!y.Attributes.any fun a=>decide (a.Mode=3))=!colG g:=by unfold colG; rw [List.not_any_eq_all_not]
 rw [e]
 cases colG g with
 | true=>cases z8c g<;>rfl
 | false=>
  rw [Bool.not_false,if_pos rfl,Option.bind_some,q9E]
  rw [q3O (c:=false) (q:=fun r=>z8z g r && !farR r) fun k r hr=>by
   have hs:=Nat.le_trans (z1P hr) h
   unfold z2T z3Z z8z
   rw [(j0l (z3L h) (q7x hs)).1,Option.bind_some]
   rw [q3O (c:=false) (q:=fun q:Equation=>!decide (q.At∈z4h g r)||q7T (z4h g r) q.Expr) fun k q hq=>by
    unfold z7G
    rw [j0g,Option.bind_some]
    cases decide (q.At∈z4h g r) with
    | false=>rfl
    | true=>rw [if_pos rfl,j7W (Nat.le_trans (z2H hq) hs),Option.bind_some,← apply_ite some]; rfl]
   cases r.Equations.all fun q=>!decide (q.At∈z4h g r)||q7T (z4h g r) q.Expr with
   | false=>rfl
   | true=>
    rw [if_pos rfl,Option.bind_some,q9E,j7Z,Option.bind_some,Option.bind_some]
    cases farR r<;>rfl]
  cases g.Rules.all fun r=>z8z g r && !farR r with
  | false=>cases z8c g<;>rfl
  | true=>rw [if_pos rfl,Option.bind_some,q9E,j7T h]; cases z8c g<;>rfl
theorem j8d {g:Grammar}(h:Sz.szd g≤1048576):q8a g=some (j4W g):=by
 unfold q8a j4W
 rw [j7S h,Option.bind_some]
 cases hg:z8c g with
 | false=>rfl
 | true=>
  rw [if_pos rfl,j8a h,Option.bind_some,Option.bind_some]
  cases hc:colG g with
  | true=>
   cases g.Rules.any fun r=>(z1E r).any farB with
   | true=>rfl
   | false=>rw [if_neg (by simp),j6z,hc]; rfl
  | false=>
   have e1:(g.Rules.any fun r=>(z1E r).any farB)=g.Rules.any farR:=by
    have:∀ r∈g.Rules,(z1E r).any farB=farR r:=fun r hr=>by
     unfold z1E farR
     rw [j8b hg hc hr,List.flatMap_nil,List.append_nil,List.any_map]; rfl
    rw [Bool.eq_iff_iff,List.any_eq_true,List.any_eq_true]
    exact⟨fun ⟨r,hr,hx⟩=>⟨r,hr,(this r hr)▸hx⟩,fun ⟨r,hr,hx⟩=>⟨r,hr,(this r hr).symm▸hx⟩⟩
   rw [e1]
   have e2:(g.Rules.all fun r=>z8z g r && !farR r)=(!g.Rules.any farR&&g.Rules.all (z8z g)):=by
    rw [List.not_any_eq_all_not,Bool.eq_iff_iff,Bool.and_eq_true,List.all_eq_true,List.all_eq_true,List.all_eq_true]
    constructor
    ·intro hh
     exact⟨fun r hr=>((Bool.and_eq_true _ _).mp (hh r hr)).2,fun r hr=>((Bool.and_eq_true _ _).mp (hh r hr)).1⟩
    ·rintro⟨h1,h2⟩ r hr
     rw [Bool.and_eq_true]; exact⟨h2 r hr,h1 r hr⟩
   rw [e2]
   cases g.Rules.any farR with
   | true=>rfl
   | false=>
    rw [if_neg (by simp),j6z,hc,Option.bind_some,Option.bind_some,if_neg (by simp)]
    rw [q3O (c:=false) (q:=z8z g) fun k r hr=>by
     have hs:=Nat.le_trans (z1P hr) h
     unfold z2O z8z
     rw [(j0l (z3L h) (q7x hs)).2,Option.bind_some]
     rw [q3O (c:=false) (q:=fun q:Equation=>!decide (q.At∈z4h g r)||q7T (z4h g r) q.Expr) fun k q hq=>by
      unfold z2N
      rw [j6m,Option.bind_some]
      cases decide (q.At∈z4h g r) with
      | false=>rfl
      | true=>rw [if_pos rfl,j3T (Nat.le_trans (z2H hq) hs),Option.bind_some,← apply_ite some]; rfl]
     cases r.Equations.all fun q=>!decide (q.At∈z4h g r)||q7T (z4h g r) q.Expr<;>rfl]
    cases g.Rules.all (z8z g)<;>rfl
end Go.Proofs.YtibagkppfnjgcaaGreat
namespace Go.Proofs.YtibagkppfnjgcaaGreat
open Go Go.E
section
variable {α β ρ σ:Type}{Q:β→Prop}{b:List UInt8}
theorem Ok.bif {c:Prop}[Decidable c]{A B:Option α}{k:α→Option β}(h1:c→Ok Q (A.bind k))(h2:¬ c→Ok Q (B.bind k)):Ok Q ((if c then A else B).bind k):=by
 by_cases hc:c
 ·rw [if_pos hc]; exact h1 hc
 ·rw [if_neg hc]; exact h2 hc
theorem Ok.bso {x:α}{k:α→Option β}(h:Ok Q (k x)):Ok Q ((some x).bind k):=h
theorem Ok.bbi {γ:Type}{A:Option α}{B:α→Option γ}{k:γ→Option β}(h:Ok Q (A.bind fun x=>(B x).bind k)):Ok Q ((A.bind B).bind k):=by
 rw [Option.bind_assoc]; exact h
theorem Ok.bgr {c:Prop}[Decidable c]{A:Option α}{k:α→Option β}(hc:c)(h:Ok Q (A.bind k)):Ok Q ((Go.E.grd c A).bind k):=by rw [q3o hc]; exact h
theorem Ok.get {l:List α}{j:Nat}{k:α→Option β}(hj:j < l.length)(h:∀ x,x∈l→Ok Q (k x)):Ok Q ((l[j]?).bind k):=by
 obtain⟨x,hx⟩:∃ x,l[j]? = some x:=⟨_,List.getElem?_eq_getElem hj⟩
 rw [hx]; exact h x (List.mem_of_getElem? hx)
theorem Ok.eq {A:Option α}{x:α}{k:α→Option β}(hA:A=some x)(h:Ok Q (k x)):Ok Q (A.bind k):=by rw [hA]; exact h
theorem drK {P:α→Prop}{o:Option (α × l1Cur)}(ho:Dr b P o){k:α × l1Cur→Option β}(hk:∀ y i' h',P y→0≤i'→Ok Q (k (y,⟨b,i',h'⟩))):Ok Q (o.bind k):=by
 obtain⟨⟨y,z⟩,rfl,hy,hz,he⟩:=ho
 obtain⟨zb,zi,zh⟩:=z
 dsimp only at he hz hy
 subst he
 exact hk y zi zh hy hz
theorem cb {i h:Int}(hi:0≤i):CB b ⟨b,i,h⟩:=⟨hi,rfl⟩
theorem Dr.re {P:α→Prop}{y:α}{i h:Int}(hy:P y)(hi:0≤i):Dr b P (some (y,(⟨b,i,h⟩:l1Cur))):=⟨_,rfl,hy,hi,rfl⟩
theorem z2J {P:σ→Prop}{Q:ρ→Prop}{f:σ→Option (σ ⊕ ρ)}(μ:σ→Nat)(hf:∀ s,P s→Ok (fun z=>match z with | .inl s'=>P s'∧μ s' < μ s | .inr r=>Q r) (f s)):∀ s,P s→Ok Q (q5m f s):=by
 have key:∀ n s,μ s < n→P s→Ok Q (q5m f s):=by
  intro n
  induction n with
  | zero=>intro s h; omega
  | succ n ih=>
   intro s h hp
   obtain⟨z,hz,hq⟩:=hf s hp
   cases z with
   | inl s'=>rw [q4U hz]; exact ih s' (by have:=hq.2; omega) hq.1
   | inr r=>exact⟨r,q4u hz,hq⟩
 exact fun s hs=>key _ s (Nat.lt_succ_self _) hs
end
theorem j3a {α β:Type}{Q:β→Prop}(P:Nat→List α→Prop){f:Nat→Int × Int × List α→Option (Int × Int × List α)}{k:Int × Int × List α→Option β}{n:Nat}{i h:Int}{l:List α}(hi:0≤i)(h0:P 0 l)
  (hf:∀ j l i h,j < n→0≤i→P j l→Ok (fun s:Int × Int × List α=>0≤s.1∧P (j+1) s.2.2) (f j (i,h,l))) (hk:∀ l i h,0≤i→P n l→Ok Q (k (i,h,l))):Ok Q ((eachN f 0 n (i,h,l)).bind k):=by
 obtain⟨s,e,h1⟩:=z9Y (P:=fun k (s:Int × Int × List α)=>0≤s.1∧P k s.2.2) (f:=f) (n:=n) (i:=0) (s:=(i,h,l)) ⟨hi,h0⟩ fun j s _ hj hs=>hf j _ _ _ (by omega) hs.1 hs.2
 rw [e]
 rw [Nat.zero_add] at h1
 exact hk _ _ _ h1.1 h1.2
theorem j9C {γ α β:Type}{Q:β→Prop}(P:Nat→List α→Prop){f:Nat→γ→Int × Int × List α→Option (Int × Int × List α)}{k:Int × Int × List α→Option β}{xs:List γ}{i h:Int}{l:List α}(hi:0≤i)(h0:P 0 l)
  (hf:∀ j x l i h,x∈xs→j < xs.length→0≤i→P j l→Ok (fun s:Int × Int × List α=>0≤s.1∧P (j+1) s.2.2) (f j x (i,h,l))) (hk:∀ l i h,0≤i→P xs.length l→Ok Q (k (i,h,l))):Ok Q ((eachL f 0 xs (i,h,l)).bind k):=by
 obtain⟨s,e,h1⟩:=z9Z (P:=fun k (s:Int × Int × List α)=>0≤s.1∧P k s.2.2) (f:=f) (xs:=xs) (i:=0) (s:=(i,h,l)) ⟨hi,h0⟩ fun j x s hx _ hj hs=>hf j x _ _ _ hx (by omega) hs.1 hs.2
 rw [e]
 rw [Nat.zero_add] at h1
 exact hk _ _ _ h1.1 h1.2
def SB (s:Symbol):Prop:=s.Name.size≤8∧1≤s.Attributes.length∧s.Attributes.length≤5∧∀ a∈s.Attributes,a.Name.size≤8
def RB (r:Rule):Prop:=r.Name.size≤8∧r.Left.size≤8∧r.Right.length≤5∧(∀ x∈r.Right,x.size≤8)
def SBs (l:List Symbol):Prop:=1≤l.length∧l.length≤3∧∀ s∈l,SB s
theorem j1D {α:Type}[Sz α]{m:Nat}:∀ {l:List α},(∀ x∈l,Sz.szd x≤m)→szL l≤l.length*(m+1)
 | [],_=>by simp [szL]
 | x :: l,h=>by
  have h1:=j1D (m:=m) (l:=l) fun y hy=>h y (by simp [hy])
  have h2:=h x (by simp)
  simp only [szL,List.length_cons,Nat.add_mul]; omega
theorem RB.rok {r:Rule}(h:RB r):ROk r:=by have:=h.2.2.1; show r.Right.length≤1048576; omega
section
variable {b:List UInt8}(hb:b.length≤1048576)
include hb
theorem k0f {x:ByteArray}(h:x∈[(⟨#[97]⟩:ByteArray),(⟨#[98]⟩:ByteArray),(⟨#[99]⟩:ByteArray),(⟨#[100]⟩:ByteArray)]):x.size≤8:=by
 simp only [List.mem_cons,List.not_mem_nil,or_false] at h
 rcases h with h | h | h | h<;>rw [h]<;>decide
theorem j8H {nm:ByteArray}(hn:nm.size≤8)(a2 a3:Bool){i h:Int}(hi:0≤i):Dr b SB (z1W nm a2 a3 ⟨b,i,h⟩):=by
 unfold z1W
 refine drK (q4d hb 4 ⟨hi,rfl⟩) fun y i1 h1 hy hi1=>?_
 have h4:=hy.2.1 (by omega)
 refine .grd (by constructor<;>omega) ?_
 refine j3a (fun k l=>l.length=k∧∀ a∈l,a.Name.size≤8) hi1 ⟨rfl,by simp⟩ (fun k s1 s2 s3 hk hs1 hs=>?_) fun s1 i2 h2 p1 hs=>?_
 ·obtain⟨hs2,hs3⟩:=hs
  unfold z8N
  dsimp only
  refine .bbi (.get (by simp; omega) fun x1 hx1=>?_)
  have hx1:=k0f hb hx1
  have fin:∀ (t m:Int) (i' h' : Int),0≤i'→Ok (fun s:Int × Int × List Attribute=>0≤s.1∧(s.2.2.length=k+1∧∀ a∈s.2.2,a.Name.size≤8)) (some (i',h',s1++[(⟨x1,t,m,false⟩:Attribute)])):=fun t m i' h' hi'=>by
   refine .ret ⟨hi',by simp [hs2],fun a ha=>?_⟩
   simp only [List.mem_append,List.mem_cons,List.not_mem_nil,or_false] at ha
   rcases ha with ha | ha
   ·exact hs3 a ha
   ·rw [ha]; exact hx1
  refine .bbi (drK (q8n hb (by simp) ⟨hs1,rfl⟩) fun t i2 h2 _ hi2=>?_)
  refine .bbi (drK (q8n hb (by simp) ⟨hi2,rfl⟩) fun m i3 h3 _ hi3=>?_)
  cases a2<;>cases a3<;>dsimp only
  all_goals
   repeat' first
    | ((with_reducible refine .bso ?_); try dsimp only)
    | (with_reducible exact fin _ _ _ _ (by assumption))
    | ((with_reducible refine .bbi ?_); try dsimp only)
    | (with_reducible refine .bif (fun _=>?_) fun _=>?_)
    | (with_reducible refine .ite (fun _=>?_) fun _=>?_)
    | ((with_reducible refine drK (q7w hb _ (cb (by assumption))) fun _ _ _ _ _=>?_); try dsimp only)
    | ((with_reducible refine drK (q8n hb (by simp) (cb (by assumption))) fun _ _ _ _ _=>?_); try dsimp only)
    | ((with_reducible refine drK (q4d hb _ (cb (by assumption))) fun _ _ _ _ _=>?_); try dsimp only)
    | (refine .bgr (by constructor<;>omega) ?_)
    | (refine .grd (by constructor<;>omega) ?_)
 ·obtain⟨p2,p3⟩:=hs
  dsimp only
  exact Dr.re ⟨hn,by dsimp only; omega,by dsimp only; omega,p3⟩ p1
end
end Go.Proofs.YtibagkppfnjgcaaGreat
namespace Go.Proofs.YtibagkppfnjgcaaGreat
open Go Go.E
theorem j0m {g:Grammar}(h:SBs g.Symbols)(nm:ByteArray):(q7c g nm).1.Attributes.length≤5∧∀ a∈(q7c g nm).1.Attributes,a.Name.size≤8:=by
 unfold q7c
 split
 ·rename_i y hy
  have:=h.2.2 y (List.mem_of_find?_eq_some hy)
  exact⟨this.2.2.1,this.2.2.2⟩
 ·exact⟨by simp [zS],by simp [zS]⟩
theorem j8e {y:Symbol}(h:∀ a∈y.Attributes,a.Name.size≤8)(nm:ByteArray):q4m y nm=some (z0u y nm):=by
 unfold q4m z0u
 rw [q8R (p:=fun a=>decide (a.Name=nm)) (r:=fun a=>(a,true)) fun k x _=>⟨fun hp=>by unfold q6T; rw [if_pos (by simpa using hp)],fun hp=>by unfold q6T; rw [if_neg (by simpa using hp)]⟩]
 cases y.Attributes.find? fun a=>decide (a.Name=nm)<;>rfl
theorem SBs.g {g:Grammar}(h:SBs g.Symbols):GOk g:=fun y hy=>by have:=(h.2.2 y hy).2.2.1; omega
theorem j6A {g:Grammar}(hs:SBs g.Symbols){r:Rule}(hr:r.Right.length≤5)(k:Int):Ok (fun q=>∀ o∈q,o.Name.size≤8) (q8W g r k):=by
 unfold q8W
 refine Ok.bind (Q:=fun q=>∀ o∈q,o.Name.size≤8) (z2J (P:=fun s:List Occurrence × Int=>0≤s.2∧s.2≤r.Right.length+1∧(s.1.length:Int)≤5*s.2∧∀ o∈s.1,o.Name.size≤8) (fun s=>(r.Right.length+1 - s.2).toNat) ?_ _ ⟨by simp,by simp; omega,by simp,by simp⟩) fun q hq=>.ret hq
 rintro⟨q,p⟩ ⟨h1,h2,h3,h4⟩
 dsimp only at h1 h2 h3 h4
 unfold j0U
 dsimp only
 refine .ite (fun hp=>?_) fun _=>.ret h4
 refine .eq (z3N (show r.Right.length≤1048576 by omega) p) ?_
 refine .eq (z1o hs.g _) ?_
 have hff:=j0m hs (q9A r p)
 generalize q7c g (q9A r p)=fs at hff
 obtain⟨y,yb⟩:=fs
 obtain⟨f1,f2⟩:=hff
 dsimp only at f1 f2 ⊢
 refine Ok.bind (Q:=fun q'=>q'.length≤q.length+5∧∀ o∈q',o.Name.size≤8) ((z9Z (P:=fun k q'=>q'.length≤q.length+k∧∀ o∈q',o.Name.size≤8) (i:=0) ⟨by omega,h4⟩ ?_).mono fun q' hq=>⟨by omega,hq.2⟩) fun q' hq=>.grd (by constructor<;>omega) (.ret ⟨⟨by dsimp only; omega,by dsimp only; omega,by dsimp only; omega,hq.2⟩,by dsimp only; omega⟩)
 intro j a l ha _ hj hl
 have hl1:=hl.1
 have hl2:=hl.2
 have ha:=f2 a ha
 unfold j0T
 dsimp only
 have e1:Ok (fun q' : List Occurrence=>q'.length≤q.length+(j+1)∧∀ o∈q',o.Name.size≤8) (some l):=.ret ⟨by omega,hl2⟩
 have e2:Ok (fun q' : List Occurrence=>q'.length≤q.length+(j+1)∧∀ o∈q',o.Name.size≤8) (some (l++[(⟨p,a.Name⟩:Occurrence)])):=.ret ⟨by simp; omega,fun o ho=>by
  simp only [List.mem_append,List.mem_cons,List.not_mem_nil,or_false] at ho
  rcases ho with ho | ho
  ·exact hl2 o ho
  ·rw [ho]; exact ha⟩
 have hb:([]:List UInt8).length≤1048576:=by simp
 repeat' first
  | ((with_reducible refine .bso ?_); try dsimp only)
  | (with_reducible exact e1)
  | (with_reducible exact e2)
  | ((with_reducible refine .bbi ?_); try dsimp only)
  | (with_reducible refine .bif (fun _=>?_) fun _=>?_)
  | (with_reducible refine .ite (fun _=>?_) fun _=>?_)
  | ((with_reducible refine drK (q7w hb _ (cb (by assumption))) fun _ _ _ _ _=>?_); try dsimp only)
  | ((with_reducible refine drK (q8n hb (by simp) (cb (by assumption))) fun _ _ _ _ _=>?_); try dsimp only)
  | ((with_reducible refine drK (q4d hb _ (cb (by assumption))) fun _ _ _ _ _=>?_); try dsimp only)
  | (refine .bgr (by constructor<;>omega) ?_)
  | (refine .grd (by constructor<;>omega) ?_)
theorem k0w (a:Int):Ok (fun _=>True) (q4z a):=by
 unfold q4z
 rw [j3L,Option.bind_some,j3L,Option.bind_some]
 repeat' first
  | exact .ret trivial
  | refine .ite (fun _=>?_) fun _=>?_
theorem k0g (a:Int)(x y:Expr):q8L a x y=some (⟨4,a,0,0,(⟨#[]⟩:ByteArray),(⟨#[]⟩:ByteArray),[x,y]⟩:Expr):=rfl
theorem j9D (g:Grammar)(r:Rule)(rem:Bool):∀ (m n1 n2:Nat),m < n1→m < n2→∀ (k d:Int) (o:l1Cur),d≤m+1→q5A n1 g r k d rem o=q5A n2 g r k d rem o:=by
 intro m
 induction m with
 | zero=>
  intro n1 n2 h1 h2 k d o hd
  obtain⟨n1,rfl⟩:∃ q,n1=q+1:=⟨n1 - 1,by omega⟩
  obtain⟨n2,rfl⟩:∃ q,n2=q+1:=⟨n2 - 1,by omega⟩
  show q6i (q5A n1) g r k d rem o=q6i (q5A n2) g r k d rem o
  unfold q6i
  simp only [if_pos (show d < 2 by omega),Option.bind_some,if_true]
 | succ m ih=>
  intro n1 n2 h1 h2 k d o hd
  obtain⟨n1,rfl⟩:∃ q,n1=q+1:=⟨n1 - 1,by omega⟩
  obtain⟨n2,rfl⟩:∃ q,n2=q+1:=⟨n2 - 1,by omega⟩
  show q6i (q5A n1) g r k d rem o=q6i (q5A n2) g r k d rem o
  have h:∀ k o,q5A n1 g r k (d - 1) rem o=q5A n2 g r k (d - 1) rem o:=fun k o=>ih n1 n2 (by omega) (by omega) k (d - 1) o (by omega)
  unfold q6i
  simp only [h]
section
variable {b:List UInt8}(hb:b.length≤1048576)
include hb
theorem j8f {g:Grammar}(hs:SBs g.Symbols){r:Rule}(hr:r.Right.length≤5)(rem:Bool):∀ (m n:Nat),m < n→∀ (k d i h:Int),d≤m+1→-1000+m≤d→d≤1000→0≤i→Dr b (fun e=>Sz.szd e≤fb m) (q5A n g r k d rem ⟨b,i,h⟩):=by
 intro m
 induction m with
 | zero=>
  intro n hn k d i h hd hd0 hd1 hi
  obtain⟨n,rfl⟩:∃ q,n=q+1:=⟨n - 1,by omega⟩
  show Dr b _ (q6i (q5A n) g r k d rem ⟨b,i,h⟩)
  unfold q6i
  rw [if_pos (show d < 2 by omega)]
  dsimp only
  rw [Option.bind_some]
  dsimp only
  rw [if_pos rfl]
  unfold Dr
  have hf:=z5X hb 0
  repeat' first
   | ((with_reducible refine .bso ?_); try dsimp only)
   | ((with_reducible refine .bind (j6A hs hr _) fun _ _=>?_))
   | ((with_reducible refine drK (z3J hb _ (by assumption) (cb (by assumption))) fun _ _ _ _ _=>?_); try dsimp only)
   | ((with_reducible refine .bbi ?_); try dsimp only)
   | (with_reducible refine .bif (fun _=>?_) fun _=>?_)
   | (with_reducible refine .ite (fun _=>?_) fun _=>?_)
   | ((with_reducible refine drK (q7w hb _ (cb (by assumption))) fun _ _ _ _ _=>?_); try dsimp only)
   | ((with_reducible refine drK (q8n hb (by simp) (cb (by assumption))) fun _ _ _ _ _=>?_); try dsimp only)
   | ((with_reducible refine drK (q4d hb _ (cb (by assumption))) fun _ _ _ _ _=>?_); try dsimp only)
   | (refine .bgr (by constructor<;>omega) ?_)
   | (refine .grd (by constructor<;>omega) ?_)
  all_goals refine⟨_,rfl,?_,by assumption,rfl⟩
  all_goals dsimp only
  all_goals first
   | (rw [z7W hb,q9z hb]; omega)
   | omega
 | succ m ih=>
  intro n hn k d i h hd hd0 hd1 hi
  obtain⟨n,rfl⟩:∃ q,n=q+1:=⟨n - 1,by omega⟩
  have hr1:∀ k i h,0≤i→Dr b (fun e=>Sz.szd e≤fb m) (q5A n g r k (d - 1) rem ⟨b,i,h⟩):=fun k i h hi=>ih n (by omega) k (d - 1) i h (by omega) (by omega) (by omega) hi
  show Dr b _ (q6i (q5A n) g r k d rem ⟨b,i,h⟩)
  unfold q6i Dr
  dsimp only
  have hl:=hs.1
  have hf:=z5X hb m
  have hg:=j2K hb m
  have hid:I64 (d - 1):=by constructor<;>omega
  repeat' first
   | ((with_reducible refine .bso ?_); try dsimp only)
   | ((with_reducible refine .bind (j6A hs hr _) fun _ _=>?_))
   | ((with_reducible refine drK (z3J hb _ (by assumption) (cb (by assumption))) fun _ _ _ _ _=>?_); try dsimp only)
   | ((with_reducible refine drK (hr1 _ _ _ (by assumption)) fun _ _ _ _ _=>?_); try dsimp only)
   | ((with_reducible refine .bind (k0w _) fun _ _=>?_); try dsimp only)
   | ((with_reducible refine .eq (k0g _ _ _) ?_); try dsimp only)
   | ((with_reducible refine .grd hid ?_))
   | ((with_reducible refine .grd (by omega) ?_))
   | ((with_reducible refine .get (l:=g.Symbols) (by omega) fun x hx=>?_); obtain⟨_,_,_,hat⟩:=hs.2.2 x hx)
   | ((with_reducible refine .get (by omega) fun x hx=>?_); have hxn:=hat x hx)
   | ((with_reducible refine .bbi ?_); try dsimp only)
   | (with_reducible refine .bif (fun _=>?_) fun _=>?_)
   | (with_reducible refine .ite (fun _=>?_) fun _=>?_)
   | ((with_reducible refine drK (q7w hb _ (cb (by assumption))) fun _ _ _ _ _=>?_); try dsimp only)
   | ((with_reducible refine drK (q8n hb (by simp) (cb (by assumption))) fun _ _ _ _ _=>?_); try dsimp only)
   | ((with_reducible refine drK (q4d hb _ (cb (by assumption))) fun _ _ _ _ _=>?_); try dsimp only)
   | (refine .bgr (by constructor<;>omega) ?_)
   | (refine .grd (by constructor<;>omega) ?_)
  all_goals refine⟨_,rfl,?_,by assumption,rfl⟩
  all_goals dsimp only at *
  all_goals first
   | (rw [z7W hb,q9z hb]; omega)
   | (rw [j8F hb]; omega)
   | (rw [j1r hb,q9z hb]; omega)
   | (rw [j3K hb,q9z hb]; omega)
   | omega
theorem j9E {g:Grammar}(hs:SBs g.Symbols){r:Rule}(hr:r.Right.length≤5)(rem:Bool)(k d i h:Int)(h0:0≤d)(h3:d≤3)(hi:0≤i):Dr b (fun e=>Sz.szd e≤320) (z5v g r k d rem ⟨b,i,h⟩):=
 j2I (N:=3) (fun n hn=>j9D g r rem 2 (n+1) n (by omega) (by omega) k d _ (by omega)) (j8f hb hs hr rem 2 3 (by omega) k d i h (by omega) (by omega) (by omega) hi)
end
end Go.Proofs.YtibagkppfnjgcaaGreat
namespace Go.Proofs.YtibagkppfnjgcaaGreat
open Go Go.E
theorem j3U {α β:Type}{f:α→List β}{C:Nat}(h:∀ x,(f x).length≤C):∀ l:List α,(l.flatMap f).length≤l.length*C
 | []=>by simp
 | x :: l=>by
  have h1:=j3U h l
  have h2:=h x
  simp only [List.flatMap_cons,List.length_append,List.length_cons,Nat.add_mul]; omega
theorem j6B {g:Grammar}(hs:SBs g.Symbols)(r:Rule)(k:Nat):(reqK g r k).length≤5∧∀ o∈reqK g r k,o.Name.size≤8:=by
 obtain⟨f1,f2⟩:=j0m hs (q9A r (k:Int))
 unfold reqK
 refine⟨by rw [List.length_map]; exact Nat.le_trans (List.length_filter_le _ _) f1,fun o ho=>?_⟩
 obtain⟨a,ha,rfl⟩:=List.mem_map.1 ho
 exact f2 a (List.mem_filter.1 ha).1
theorem j9F {g:Grammar}(hs:SBs g.Symbols){r:Rule}(hr:r.Right.length≤5):(reqL g r).length≤30∧∀ o∈reqL g r,o.Name.size≤8:=by
 unfold reqL
 refine⟨?_,fun o ho=>?_⟩
 ·have:=j3U (C:=5) (fun k=>(j6B hs r k).1) (List.range' 0 (r.Right.length+1))
  rw [List.length_range'] at this
  omega
 ·obtain⟨k,_,hk⟩:=List.mem_flatMap.1 ho
  exact (j6B hs r k).2 o hk
theorem z5p {α:Type}[Sz α](l:List α)(x:α):szL (l++[x])=szL l+(1+Sz.szd x):=by rw [z5r]; rfl
theorem z8e (o:Occurrence)(e:Expr):Sz.szd (⟨o,e⟩:Equation)=o.Name.size+Sz.szd e:=by rw [z5W,q5K]; dsimp only; omega
theorem j8I (s m:ByteArray)(e f:Expr):Sz.szd (⟨s,m,e,f⟩:Contribution)=s.size+m.size+Sz.szd e+Sz.szd f:=by rw [z2V,q5K,q5K]; dsimp only; omega
section
variable {b:List UInt8}(hb:b.length≤1048576)
include hb
theorem j9G {g:Grammar}(hs:SBs g.Symbols){r:Rule}(hr:RB r)(he:r.Equations=[])(rem:Bool){i h:Int}(hi:0≤i):Dr b (fun q=>RB q∧(szL q.Equations≤12000∧q.Equations.length≤30)∧q.Contributions=r.Contributions) (z1Y g r rem ⟨b,i,h⟩):=by
 have h5:=hr.2.2.1
 obtain⟨q1,q2⟩:=j9F hs h5
 unfold z1Y
 refine .eq (j2L hs.g hr.rok) ?_
 refine j9C (fun j (l:List Equation)=>l.length=j∧szL l≤j*400) hi (by rw [he]; exact⟨rfl,by simp [szL]⟩) (fun j x l i h hx hj hi hl=>?_) fun l i h hi hl=>?_
 ·obtain⟨hl1,hl2⟩:=hl
  have hx:=q2 x hx
  have fin:∀ (e:Expr) (i' h' : Int),Sz.szd e≤320→0≤i'→Ok (fun s:Int × Int × List Equation=>0≤s.1∧(s.2.2.length=j+1∧szL s.2.2≤(j+1)*400)) (some (i',h',l++[(⟨x,e⟩:Equation)])):=fun e i' h' h1 hi'=>.ret ⟨hi',by simp [hl1],by dsimp only; rw [z5p,z8e]; omega⟩
  unfold z7e
  dsimp only
  refine .bbi (.eq (z3N (show r.Right.length≤1048576 by omega) _) ?_)
  refine .bbi (.eq (z1o hs.g _) ?_)
  have hff:=j0m hs (q9A r x.Pos)
  generalize q7c g (q9A r x.Pos)=fs at hff
  obtain⟨y,yb⟩:=fs
  obtain⟨f1,f2⟩:=hff
  dsimp only at f1 f2 ⊢
  refine .bbi (.eq (j8e f2 _) ?_)
  generalize z0u y x.Name=fa
  obtain⟨a,ab⟩:=fa
  dsimp only
  refine .bbi (drK (q4d hb 3 (cb hi)) fun d i1 h1 hd hi1=>?_)
  have hd3:=hd.2.1 (by omega)
  refine .bgr (by constructor<;>omega) ?_
  refine .bbi (drK (j9E hb hs (r:=⟨r.Name,r.Left,r.Right,r.Literal,l,r.Contributions⟩) h5 rem _ _ _ _ (by omega) (by omega) hi1) fun e i2 h2 he2 hi2=>?_)
  dsimp only at he2 ⊢
  refine .bbi (.eq (z5l (by have:=j6a hb he2; omega)) ?_)
  refine .bif (fun _=>?_) fun _=>?_
  ·refine .bgr (by constructor<;>omega) ?_
   exact fin _ _ _ he2 hi2
  ·refine .bbi (drK (z3J hb _ (by simp) (cb hi2)) fun e3 i3 h3 he3 hi3=>?_)
   refine .bgr (by constructor<;>omega) ?_
   exact fin _ _ _ (by show Sz.szd e3≤320; have:Sz.szd e3≤8:=he3; omega) hi3
 ·exact⟨_,rfl,⟨hr,⟨by have:=hl.2; dsimp only; omega,by have:=hl.1; dsimp only; omega⟩,rfl⟩,hi,rfl⟩
theorem k0h {g:Grammar}(hs:SBs g.Symbols){r:Rule}(hr:RB r)(hc:r.Contributions=[]){i h:Int}(hi:0≤i):Dr b (fun q=>RB q∧q.Equations=r.Equations∧szL q.Contributions≤200) (z3h g r ⟨b,i,h⟩):=by
 have h5:=hr.2.2.1
 unfold z3h
 refine j9C (fun _ (l:List Contribution)=>l.length≤2∧szL l≤l.length*40) hi (by rw [hc]; simp [szL]) (fun j x l i h hx hj hi hl=>?_) fun l i h hi hl=>?_
 ·obtain⟨s1,_,_,s2⟩:=hs.2.2 x hx
  unfold z8Q
  dsimp only
  refine j9C (fun _ (l:List Contribution)=>l.length≤2∧szL l≤l.length*40) hi hl (fun j2 a l i h ha hj hi hl=>?_) fun l i h hi hl=>.ret ⟨hi,hl⟩
  have ha:=s2 a ha
  unfold z8P
  dsimp only
  refine .bbi ?_
  refine .bif (fun _=>.bso ?_) fun _=>.bso ?_
  ·refine .bbi ?_
   refine .bif (fun h2=>?_) fun _=>.bso ?_
   ·have hl2:l.length < 2:=by have:=of_decide_eq_true h2; omega
    refine .bbi (drK (q7w hb _ (cb hi)) fun y i1 h1 _ hi1=>?_)
    refine .bso ?_
    dsimp only
    refine .bif (fun _=>?_) fun _=>.bso ?_
    ·refine .bbi (.bind (j6A hs (r:=⟨r.Name,r.Left,r.Right,r.Literal,r.Equations,l⟩) h5 _) fun q hq=>?_)
     refine .bbi (drK (z3J hb _ hq (cb hi1)) fun e i2 h2 he hi2=>?_)
     refine .bbi (.bind (j6A hs (r:=⟨r.Name,r.Left,r.Right,r.Literal,r.Equations,l⟩) h5 _) fun q3 hq3=>?_)
     refine .bbi (drK (z3J hb _ hq3 (cb hi2)) fun e3 i3 h3 he3 hi3=>?_)
     refine .bgr (by constructor<;>omega) ?_
     refine .bso (.ret ⟨hi3,by dsimp only; simp; omega,?_⟩)
     dsimp only at he he3 ⊢
     rw [z5p,j8I,List.length_append,List.length_singleton]
     have:=hl.2
     omega
    ·exact .ret ⟨hi1,hl⟩
   ·dsimp only
    refine .bif (fun h=>by cases h) fun _=>.bso (.ret ⟨hi,hl⟩)
  ·refine .bbi ?_
   refine .bif (fun h=>by cases h) fun _=>.bso ?_
   dsimp only
   refine .bif (fun h=>by cases h) fun _=>.bso (.ret ⟨hi,hl⟩)
 ·refine⟨_,rfl,⟨hr,rfl,?_⟩,hi,rfl⟩
  have:=hl.1
  have:=hl.2
  dsimp only
  have h80:l.length*40≤80:=by omega
  omega
end
theorem k0i {k:Nat}(hk:k < 2):Ok (fun x=>x.size≤1) (q8O (k:Int)):=by
 have:k=0∨k=1:=by omega
 rcases this with rfl | rfl
 ·exact⟨⟨#[48]⟩,by unfold q8O; rfl,by decide⟩
 ·refine⟨⟨#[49]⟩,?_,by decide⟩
  unfold q8O
  rw [if_neg (by decide)]
  have h1:z0A (((1:Nat):Int),(⟨#[]⟩:ByteArray))=some (.inl (0,⟨#[49]⟩)):=by
   unfold z0A
   dsimp only
   rw [if_neg (by decide),if_neg (by decide),q3o (by constructor<;>decide),q3o (by decide),q3o (by constructor<;>decide)]
   rfl
  have h2:z0A (0,(⟨#[49]⟩:ByteArray))=some (.inr ⟨#[49]⟩):=rfl
  rw [q4U h1,q4u h2]
  rfl
end Go.Proofs.YtibagkppfnjgcaaGreat
namespace Go.Proofs.YtibagkppfnjgcaaGreat
open Go Go.E
def R0 (r:Rule):Prop:=RB r∧r.Equations=[]∧r.Contributions=[]
def R1 (r:Rule):Prop:=RB r∧(szL r.Equations≤12000∧r.Equations.length≤30)∧szL r.Contributions≤200
theorem R0.r1 {r:Rule}(h:R0 r):R1 r:=⟨h.1,⟨by rw [h.2.1]; simp [szL],by rw [h.2.1]; simp⟩,by rw [h.2.2]; simp [szL]⟩
def GB (g:Grammar):Prop:=SBs g.Symbols∧1≤g.Rules.length∧g.Rules.length≤8∧∀ r∈g.Rules,R1 r
theorem stu {x:ByteArray}{n:Nat}(h:x∈[(⟨#[115]⟩:ByteArray),(⟨#[116]⟩:ByteArray),(⟨#[117]⟩:ByteArray)].take n):x.size=1:=by
 have h:=List.mem_of_mem_take h
 simp only [List.mem_cons,List.not_mem_nil,or_false] at h
 rcases h with h | h | h<;>rw [h]<;>rfl
theorem bsz (x y:ByteArray):(x++y).size=x.size+y.size:=ByteArray.size_append
section
variable {b:List UInt8}(hb:b.length≤1048576)
include hb
theorem j1E (pl:Bool){i h:Int}(hi:0≤i):Dr b GB (z0K pl ⟨b,i,h⟩):=by
 unfold z0K
 refine drK (q4d hb 3 (cb hi)) fun y i1 h1 hy hi1=>?_
 have h3:=hy.2.1 (by omega)
 have h0:=hy.1
 dsimp only
 refine .grd (by constructor<;>omega) (.grd (by omega) (.grd (by simp; omega) ?_))
 have hlen:([(⟨#[115]⟩:ByteArray),(⟨#[116]⟩:ByteArray),(⟨#[117]⟩:ByteArray)].take ((1+y).toNat)).length=(1+y).toNat:=by rw [List.length_take]; simp; omega
 refine j3a (fun k (l:List Symbol)=>l.length=k∧∀ s∈l,SB s) hi1 ⟨rfl,by simp⟩ (fun j l i h hj hi hl=>?_) fun syms i2 h2 hi2 hsyms=>?_
 ·unfold z7f
  dsimp only
  refine .get (by rw [hlen]; exact hj) fun x hx=>?_
  have hx:=stu hx
  refine drK (j8H hb (by omega) _ _ hi) fun s i1 h1 hs hi1=>?_
  refine .grd (by have:=hl.1; constructor<;>omega) (.ret ⟨hi1,by simp [hl.1],fun a ha=>?_⟩)
  simp only [List.mem_append,List.mem_cons,List.not_mem_nil,or_false] at ha
  rcases ha with ha | ha
  ·exact hl.2 a ha
  ·rw [ha]; exact hs
 have hS:SBs syms:=⟨by rw [hsyms.1]; omega,by rw [hsyms.1]; omega,hsyms.2⟩
 dsimp only
 refine j3a (fun k (l:List Rule)=>k≤l.length∧l.length≤3*k∧∀ r∈l,R0 r) hi2 ⟨by simp,by simp,by simp⟩ (fun j l i h hj hi hl=>?_) fun rules i3 h3 hi3 hr=>?_
 ·unfold z7i
  dsimp only
  refine .get (by rw [hlen]; exact hj) fun x hx=>?_
  have hx:=stu hx
  refine .grd (by rw [hx]; decide) ?_
  refine drK (q7w hb _ (cb hi)) fun y3 i1 h1 _ hi1=>?_
  have hl1:=hl.1
  have hl2:=hl.2.1
  refine .grd (by constructor<;>omega) ?_
  refine drK (q4d hb 2 (cb hi1)) fun y4 i4 h4 hy4 hi4=>?_
  have h42:=hy4.2.1 (by omega)
  have h40:=hy4.1
  refine .grd (by constructor<;>omega) ?_
  dsimp only
  refine j3a (fun k (q:List Rule)=>q.length=l.length+1+k∧∀ r∈q,R0 r) hi4 ⟨by simp,fun a ha=>?_⟩ (fun j2 q i h hj2 hi hq=>?_) fun q i6 h6 hi6 hq=>?_
  ·simp only [List.mem_append,List.mem_cons,List.not_mem_nil,or_false] at ha
   rcases ha with ha | ha
   ·exact hl.2.2 a ha
   ·rw [ha]
    exact⟨⟨by dsimp only; rw [bsz,hx]; decide,by dsimp only; omega,by simp,by simp⟩,rfl,rfl⟩
  ·unfold z7h
   dsimp only
   refine .grd (by rw [hx]; decide) ?_
   refine .bind (k0i (by omega)) fun nm hnm=>?_
   refine .grd (by rw [bsz,hx]; have:(⟨#[112]⟩:ByteArray).size=1:=rfl; omega) ?_
   refine drK (q7w hb _ (cb hi)) fun y6 i1 h1 _ hi1=>?_
   refine drK (q4d hb 3 (cb hi1)) fun y7 i7 h7 hy7 hi7=>?_
   have h72:=hy7.2.1 (by omega)
   have h70:=hy7.1
   refine .grd (by constructor<;>omega) ?_
   dsimp only
   refine j3a (fun k (q:List ByteArray)=>q.length=k∧∀ x∈q,x.size≤8) hi7 ⟨rfl,by simp⟩ (fun j4 q4 i h hj4 hi hq4=>?_) fun q4 i8 h8 hi8 hq4=>?_
   ·unfold z7g
    dsimp only
    refine drK (z1n hb (by intro h; have:=congrArg List.length h; rw [hlen] at this; simp at this; omega) (cb hi)) fun z i1 h1 hz hi1=>?_
    have hz:=stu hz
    refine .grd (by have:=hq4.1; constructor<;>omega) (.ret ⟨hi1,by simp [hq4.1],fun a ha=>?_⟩)
    simp only [List.mem_append,List.mem_cons,List.not_mem_nil,or_false] at ha
    rcases ha with ha | ha
    ·exact hq4.2 a ha
    ·rw [ha]; omega
   ·have hq41:=hq4.1
    have hq1:=hq.1
    refine .grd (by constructor<;>omega) (.ret ⟨hi8,by simp; omega,fun a ha=>?_⟩)
    simp only [List.mem_append,List.mem_cons,List.not_mem_nil,or_false] at ha
    rcases ha with ha | ha
    ·exact hq.2 a ha
    ·rw [ha]
     exact⟨⟨by dsimp only; rw [bsz,bsz,hx]; have:(⟨#[112]⟩:ByteArray).size=1:=rfl; omega,by dsimp only; omega,by dsimp only; omega,hq4.2⟩,rfl,rfl⟩
  ·exact .ret ⟨hi6,by dsimp only; have:=hq.1; omega,by dsimp only; have:=hq.1; omega,hq.2⟩
 dsimp only
 have hr1:=hr.1
 have hr2:=hr.2.1
 have key:∀ rs:List Rule,1≤rs.length→rs.length≤8→(∀ r∈rs,R0 r)→Ok (fun r=>GB r.1∧CB b r.2) ((q5m (z4r pl ⟨b,i,h⟩ syms) (0,i3,h3,rs)).bind fun (s14,s15,s16)=>some ((⟨syms,s16⟩:Grammar),(⟨b,s14,s15⟩:l1Cur))):=by
  intro rs g1 g2 g3
  refine Ok.bind (Q:=fun s:Int × Int × List Rule=>0≤s.1∧s.2.2.length=rs.length∧∀ r∈s.2.2,R1 r) (z2J (P:=fun s:Int × Int × Int × List Rule=>0≤s.1∧s.1≤rs.length∧0≤s.2.1∧s.2.2.2.length=rs.length∧∀ (k:Nat) x,s.2.2.2[k]? = some x→R1 x∧(s.1≤(k:Int)→R0 x)) (fun s=>(rs.length - s.1).toNat) ?_ _ ⟨Int.le_refl _,by dsimp only; omega,hi3,rfl,fun k x hx=>⟨(g3 x (List.mem_of_getElem? hx)).r1,fun _=>g3 x (List.mem_of_getElem? hx)⟩⟩) ?_
  ·rintro⟨p,i5,h5,q⟩ ⟨a1,a2,a3,a4,a5⟩
   dsimp only at a1 a2 a3 a4 a5
   unfold z4r
   dsimp only
   refine .ite (fun hp=>?_) fun _=>.ret ⟨a3,a4,fun r hr=>?_⟩
   ·obtain⟨x,hx⟩:∃ x,q[p.toNat]? = some x:=⟨_,List.getElem?_eq_getElem (by omega)⟩
    have hx0:=(a5 _ _ hx).2 (by omega)
    rw [hx]
    have fin:∀ (y:Rule) (i' h' : Int),R1 y→0≤i'→(0≤p+1∧p+1≤rs.length∧0≤i'∧(List.set q p.toNat y).length=rs.length∧∀ (k:Nat) x,(List.set q p.toNat y)[k]? = some x→R1 x∧(p+1≤(k:Int)→R0 x))∧(rs.length - (p+1)).toNat < (rs.length - p).toNat:=fun y i' h' hy hi'=>by
     refine⟨⟨by omega,by omega,hi',by rw [List.length_set]; exact a4,fun k x hk=>?_⟩,by omega⟩
     rw [List.getElem?_set] at hk
     by_cases e:p.toNat=k
     ·rw [if_pos e] at hk
      split at hk
      ·cases hk; exact⟨hy,fun h=>by omega⟩
      ·cases hk
     ·rw [if_neg e] at hk
      exact⟨(a5 _ _ hk).1,fun h=>(a5 _ _ hk).2 (by omega)⟩
    refine .bgr a1 (.bbi (.bso ?_))
    refine .bbi (drK (j9G hb (g:=⟨syms,q⟩) hS hx0.1 hx0.2.1 _ a3) fun y i6 h6 hy hi6=>?_)
    obtain⟨b1,b2,b3⟩:=hy
    rw [hx0.2.2] at b3
    dsimp only
    refine .bif (fun _=>.bso ?_) fun _=>?_
    ·exact .grd (by constructor<;>omega) (.ret (fin _ _ h6 ⟨b1,b2,by rw [b3]; simp [szL]⟩ hi6))
    ·refine .bbi (drK (k0h hb (g:=⟨syms,q⟩) hS b1 b3 hi6) fun y2 i7 h7 hy2 hi7=>?_)
     refine .bso ?_
     exact .grd (by constructor<;>omega) (.ret (fin _ _ h7 ⟨hy2.1,by rw [hy2.2.1]; exact b2,hy2.2.2⟩ hi7))
   ·obtain⟨k,hk⟩:=List.getElem?_of_mem hr
    exact (a5 _ _ hk).1
  ·rintro⟨s1,s2,s3⟩ ⟨c1,c2,c3⟩
   exact⟨_,rfl,⟨hS,by dsimp only at c2 ⊢; omega,by dsimp only at c2 ⊢; omega,c3⟩,c1,rfl⟩
 refine .bif (fun h8=>.bgr (by omega) (.bso ?_)) fun h8=>.bso ?_
 ·exact key _ (by rw [List.length_take]; omega) (by rw [List.length_take]; omega) fun r hr'=>hr.2.2 r (List.mem_of_mem_take hr')
 ·exact key _ (by omega) (by omega) hr.2.2
end
end Go.Proofs.YtibagkppfnjgcaaGreat
