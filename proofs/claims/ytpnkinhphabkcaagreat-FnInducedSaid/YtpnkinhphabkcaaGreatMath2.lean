/- What those partial functions come to: plain lemmas on data; each bears its conditions in its statement. -/
import Derived.Test.YtpnkinhphabkcaaGreatEng7
set_option linter.unusedVariables false
set_option linter.unusedSimpArgs false
set_option linter.ambiguousOpen false
set_option linter.unusedSectionVars false
set_option linter.unnecessarySimpa false
namespace Go.Proofs.YtpnkinhphabkcaaGreat
open Go Go.E
mutual
def z5P:Expr→List Occurrence
 | ⟨a0,a1,a2,a3,a4,a5,a6⟩=>(if a0=3 then [⟨a2,a5⟩] else [])++z1B a6
def z1B:List Expr→List Occurrence
 | []=>[]
 | x :: xs=>z5P x++z1B xs
end
mutual
def fuE:Expr→Nat
 | ⟨_,_,_,_,_,_,a6⟩=>fuEs a6+1
def fuEs:List Expr→Nat
 | []=>0
 | x :: xs=>max (fuE x) (fuEs xs)
end
theorem z9W (e:Expr):fuE e=fuEs e.Args+1:=by cases e; rfl
theorem j4u:∀ {l:List Expr} {x:Expr},x∈l→fuE x≤fuEs l
 | y :: l,x,h=>by
  simp only [fuEs]
  rcases List.mem_cons.1 h with e | h
  ·subst e; omega
  ·have:=j4u h; omega
theorem z5Q (e:Expr):z5P e=(if e.Kind=3 then [⟨e.Pos,e.Name⟩] else [])++z1B e.Args:=by cases e; rfl
mutual
theorem j6b:∀ e:Expr,(z5P e).length≤1+z1z e
 | ⟨a0,a1,a2,a3,a4,a5,a6⟩=>by
  have:=j3r a6
  simp only [z5P,z1z,List.length_append]
  split<;>simp<;>omega
theorem j3r:∀ l:List Expr,(z1B l).length≤z4n l
 | []=>by simp [z1B]
 | x :: xs=>by
  have h1:=j6b x
  have h2:=j3r xs
  simp only [z1B,z4n,List.length_append]; omega
end
theorem z8M {α:Type}[Sz α]{x:α}:∀ {l:List α},x∈l→Sz.szd x < szL l
 | [],h=>by simp at h
 | y :: l,h=>by
  rcases List.mem_cons.1 h with rfl | h
  ·simp only [szL]; omega
  ·have:=z8M h; simp only [szL]; omega
theorem k4A {e x:Expr}(h:x∈e.Args):Sz.szd x < Sz.szd e:=by
 have h1:=q7a e
 have h2:=z8M h
 omega
theorem k1f {e:Expr}(h:Sz.szd e≤1048576):(z5P e).length≤1048577:=by
 have h1:=j6b e
 have h2:z1z e=Sz.szd e:=rfl
 omega
theorem j7z:∀ (m:Nat) (e:Expr) (o:List Occurrence),fuE e≤m→o.length+(z5P e).length≤4398046511104→q4M m e o=some (true,o++z5P e):=by
 intro m
 induction m with
 | zero=>intro e o h; rw [z9W] at h; omega
 | succ m ih=>
  have hl:∀ (l:List Expr) (i:Nat) (o:List Occurrence),fuEs l≤m→o.length+(z1B l).length≤4398046511104→findL (q4q (q4M m)) i l o=some (.inl (o++z1B l)):=by
   intro l
   induction l with
   | nil=>intro i o _ _; simp [findL,z1B]
   | cons x l ihl=>
    intro i o hf hb
    simp only [fuEs] at hf
    simp only [z1B,List.length_append] at hb
    have hx:=ih x o (by omega) (by omega)
    simp only [findL,q4q,q5K,hx,Option.bind_some,Bool.not_true,Bool.false_eq_true,if_false]
    rw [ihl _ _ (by omega) (by rw [List.length_append]; omega),z1B,List.append_assoc]
  intro e o hf hb
  rw [z9W] at hf
  show q5h (q4M m) e o=_
  have hb':=hb
  rw [z5Q,List.length_append] at hb'
  have h1:q8d e o=some (true,o++if e.Kind=3 then [⟨e.Pos,e.Name⟩] else []):=by
   unfold q8d
   by_cases hk:e.Kind=3
   ·rw [if_pos hk] at hb' ⊢
    rw [if_pos hk,q3G]
    simp only [List.length_cons,List.length_nil] at hb'
    constructor<;>omega
   ·rw [if_neg hk,if_neg hk,List.append_nil]
  unfold q5h
  rw [h1,Option.bind_some]
  dsimp only
  rw [if_pos rfl]
  unfold q3N q3Q
  rw [hl _ _ _ (by omega) (by rw [List.length_append]; omega),z5Q]
  simp [onr]
theorem k3g {e:Expr}(h:(z5P e).length≤4398046511104):q7e e []=some (true,z5P e):=
 q9Y (fuE e) fun m hm=>by simpa using j7z m e [] hm (by simpa using h)
theorem j7A {α:Type}{s:List α}{k:Nat}{x:α}(h:k < s.length):(s.set k x).take (k+1)=s.take k++[x]:=by
 rw [List.take_add_one,List.take_set,List.set_eq_of_length_le (by simp; omega)]
 simp [List.getElem?_set,h]
theorem j9T {a:List Occurrence}{b:Nat}(ha:a.length≤4398046511104)(hb:1≤b)(hba:b < a.length):∀ (m j k:Nat) (s:List Occurrence),b+j+m=a.length→1≤j→1≤k→k≤b+j - 1→s.length=a.length→s.take k=q5n (a.take (b+j))→s.drop (b+j - 1)=a.drop (b+j - 1) →
  ∃ s' k',q4L (q4b (b:Int)) (s,(k:Int),(j:Int))=some (s',((k' : Nat):Int))∧k'≤s'.length∧s'.take k'=q5n a:=by
 intro m
 induction m with
 | zero=>
  intro j k s hm hj hk hkj hs ht hd
  refine⟨s,k,q3I ?_,by omega,?_⟩
  ·unfold q4b
   dsimp only
   rw [if_neg (by simp only [Int.toNat_natCast,List.length_drop]; omega)]
  ·rw [ht,show b+j=a.length by omega,List.take_length]
 | succ m ih=>
  intro j k s hm hj hk hkj hs ht hd
  obtain⟨x,hx⟩:∃ x,a[b+j]? = some x:=⟨_,List.getElem?_eq_getElem (by omega)⟩
  obtain⟨y,hy⟩:∃ y,a[b+j - 1]? = some y:=⟨_,List.getElem?_eq_getElem (by omega)⟩
  obtain⟨z,hz⟩:∃ z,s[k]? = some z:=⟨_,List.getElem?_eq_getElem (by omega)⟩
  have hsx:s[b+j]? = some x:=by
   have:=congrArg (fun l=>l[1]?) hd
   simp only [List.getElem?_drop] at this
   rw [show b+j - 1+1=b+j by omega] at this
   rw [this,hx]
  have hsy:s[b+(j - 1)]? = some y:=by
   have:=congrArg (fun l=>l[0]?) hd
   simp only [List.getElem?_drop,Nat.add_zero] at this
   rw [show b+(j - 1)=b+j - 1 by omega,this,hy]
  have hc:=z8L (i:=b+j - 1) (b:=x) hy (by rw [show b+j - 1+1=b+j by omega]; exact hx)
  rw [show b+j - 1+2=b+(j+1) by omega,show b+j - 1+1=b+j by omega] at hc
  have hd2:s.drop (b+(j+1) - 1)=a.drop (b+(j+1) - 1):=by
   have:=congrArg (fun l=>l.drop 1) hd
   simp only [List.drop_drop] at this
   rw [show b+(j+1) - 1=b+j - 1+1 by omega]; exact this
  have e1:((j:Int) - 1).toNat=j - 1:=by omega
  by_cases hxy:x=y
  ·have e:q4b (b:Int) (s,(k:Int),(j:Int))=some (.inl (s,(k:Int),((j+1:Nat):Int))):=by
    unfold q4b
    dsimp only
    rw [if_pos (by simp only [Int.toNat_natCast,List.length_drop]; omega),q3G (by omega)]
    simp only [Int.toNat_natCast]
    rw [hsx,Option.bind_some,q3G (by constructor<;>omega),q3G (by omega),e1,hsy,Option.bind_some,if_pos hxy,Option.bind_some]
    dsimp only
    rw [q3G (by constructor<;>omega)]; rfl
   rw [q3W e]
   exact ih (j+1) k s (by omega) (by omega) hk (by omega) hs (by rw [hc,if_pos hxy.symm,ht]) hd2
  ·have e:q4b (b:Int) (s,(k:Int),(j:Int))=some (.inl (s.set k x,((k+1:Nat):Int),((j+1:Nat):Int))):=by
    unfold q4b
    dsimp only
    rw [if_pos (by simp only [Int.toNat_natCast,List.length_drop]; omega),q3G (by omega)]
    simp only [Int.toNat_natCast]
    rw [hsx,Option.bind_some,q3G (by constructor<;>omega),q3G (by omega),e1,hsy,Option.bind_some,if_neg hxy,q3G (by omega),q3G (by omega),hz,Option.bind_some,q3G (by constructor<;>omega),Option.bind_some]
    dsimp only
    rw [q3G (by constructor<;>omega)]; rfl
   rw [q3W e]
   refine ih (j+1) (k+1) _ (by omega) (by omega) (by omega) (by omega) (by rw [List.length_set]; exact hs) ?_ ?_
   ·rw [j7A (by omega),ht,hc,if_neg (fun h=>hxy h.symm)]
   ·rw [List.drop_set,if_pos (by omega)]; exact hd2
theorem j7B {a:List Occurrence}(ha:a.length≤4398046511104):∀ (m k:Nat),k+m=a.length→1≤k→q5n (a.take k)=a.take k →
  (q4L (q4c a) (k:Int)).bind (onr (fun r1=>some r1) fun _=>some a)=some (q5n a):=by
 intro m
 induction m with
 | zero=>
  intro k hm hk hc
  have e:q4c a (k:Int)=some (.inr (.inl ())):=by
   unfold q4c
   dsimp only
   rw [if_neg (by omega)]
  rw [q3I e,Option.bind_some]
  show some a=_
  rw [show k=a.length by omega,List.take_length] at hc
  rw [hc]
 | succ m ih=>
  intro k hm hk hc
  obtain⟨x,hx⟩:∃ x,a[k]? = some x:=⟨_,List.getElem?_eq_getElem (by omega)⟩
  obtain⟨y,hy⟩:∃ y,a[k - 1]? = some y:=⟨_,List.getElem?_eq_getElem (by omega)⟩
  have hct:=z8L (i:=k - 1) (b:=x) hy (by rw [show k - 1+1=k by omega]; exact hx)
  rw [show k - 1+2=k+1 by omega,show k - 1+1=k by omega] at hct
  have htk:a.take (k+1)=a.take k++[x]:=by rw [List.take_add_one,hx]; rfl
  have e1:((k:Int) - 1).toNat=k - 1:=by omega
  by_cases hxy:x=y
  ·obtain⟨s',k',h1,h2,h3⟩:=j9T (b:=k) ha hk (by omega) m 1 k a (by omega) (by omega) hk (by omega) rfl (by rw [hct,if_pos hxy.symm,hc]) rfl
   have hl:(s'.take k'++List.replicate (s'.length - k') (⟨(0:Int),(⟨#[]⟩:ByteArray)⟩:Occurrence)).take k'=q5n a:=by
    rw [List.take_append_of_le_length (by simp; omega),List.take_take,Nat.min_self,h3]
   have e:q4c a (k:Int)=some (.inr (.inr (q5n a))):=by
    unfold q4c
    dsimp only
    rw [if_pos (by omega),q3G (by omega)]
    simp only [Int.toNat_natCast]
    rw [hx,Option.bind_some,q3G (by constructor<;>omega),q3G (by omega),e1,hy,Option.bind_some,if_pos hxy,q3G (by omega),q3G (by omega)]
    have h1' : q4L (q4b (k:Int)) (a,(k:Int),1)=some (s',((k' : Nat):Int)):=h1
    rw [h1',Option.bind_some]
    dsimp only
    simp only [Int.toNat_natCast]
    rw [q3G (by omega),q3G (by omega),q3G (by omega),q3G (by simp; omega),hl]
   rw [q3I e,Option.bind_some]; rfl
  ·have e:q4c a (k:Int)=some (.inl ((k+1:Nat):Int)):=by
    unfold q4c
    dsimp only
    rw [if_pos (by omega),q3G (by omega)]
    simp only [Int.toNat_natCast]
    rw [hx,Option.bind_some,q3G (by constructor<;>omega),q3G (by omega),e1,hy,Option.bind_some,if_neg hxy,q3G (by constructor<;>omega)]; rfl
   rw [q3W e]
   exact ih (k+1) (by omega) (by omega) (by rw [hct,if_neg (fun h=>hxy h.symm),hc,htk])
theorem j9U {a:List Occurrence}(ha:a.length≤4398046511104):q5F a=some (q5n a):=by
 unfold q5F
 by_cases h:(a.length:Int) < 2
 ·rw [if_pos h]
  match a,h with
  | [],_=>rfl
  | [x],_=>rfl
  | x :: y :: l,h=>simp only [List.length_cons] at h; omega
 ·rw [if_neg h]
  refine j7B ha (a.length - 1) 1 (by omega) (Nat.le_refl _) ?_
  match a,h with
  | x :: l,_=>rfl
def attrs (e:Expr):List Occurrence:=q5n (j5D (z5P e))
theorem k1g {o:Occurrence}{e:Expr}:o∈attrs e↔o∈z5P e:=by
 unfold attrs j5D
 rw [z6W,List.mem_mergeSort]
theorem j4v {e:Expr}(h:Sz.szd e≤1048576):q7Z e=some (attrs e):=by
 have hl:=k1f h
 have hs:(j5D (z5P e)).length=(z5P e).length:=by unfold j5D; exact List.length_mergeSort _
 unfold q7Z
 rw [k3g (by omega),Option.bind_some]
 dsimp only
 unfold q6m
 rw [q3G (by omega),Option.bind_some,j9U (by omega)]; rfl
end Go.Proofs.YtpnkinhphabkcaaGreat
namespace Go.Proofs.YtpnkinhphabkcaaGreat
open Go Go.E
theorem z5f (e:Expr):1≤fuE e:=by rw [z9W]; omega
theorem z4o {e x:Expr}(hx:x∈e.Args):fuE x+1≤fuE e:=by
 have:=j4u hx
 have:=z9W e
 omega
theorem z0x {P:Expr→Prop}(h:∀ e,(∀ x∈e.Args,P x)→P e)(e:Expr):P e:=by
 have:∀ n e,fuE e≤n→P e:=by
  intro n
  induction n with
  | zero=>intro e he; have:=z5f e; omega
  | succ n ih=>intro e he; exact h e fun x hx=>ih x (by have:=z4o hx; omega)
 exact this _ e (Nat.le_refl _)
theorem q4D {α ρ:Type}{c:ρ}{q:α→Bool}:∀ {xs:List α} {i:Nat} {f:Nat→α→Unit→Option (Unit ⊕ ρ)},(∀ k x,x∈xs→f k x ()=some (if q x=true then .inl () else .inr c))→findL f i xs ()=some (if xs.all q=true then .inl () else .inr c)
 | [],i,f,h=>rfl
 | x :: xs,i,f,h=>by
  rw [findL,h i x (by simp)]
  by_cases hx:q x=true
  ·rw [if_pos hx,Option.bind_some]
   show findL f (i+1) xs ()=_
   rw [q4D fun k y hy=>h k y (by simp [hy])]
   simp [hx]
  ·rw [if_neg hx]; simp [hx]
theorem j1U {α:Type}{q:α→Bool}:∀ {xs:List α} {i:Nat} {f:Nat→α→Unit→Option (Unit ⊕ Int)},(∀ k x,x∈xs→f k x ()=some (if q x=true then .inr (k:Int) else .inl ()))→findL f i xs ()=some (if xs.any q=true then .inr ((i+xs.findIdx q:Nat):Int) else .inl ())
 | [],i,f,h=>rfl
 | x :: xs,i,f,h=>by
  rw [findL,h i x (by simp)]
  by_cases hx:q x=true
  ·rw [if_pos hx]; simp [hx,List.findIdx_cons]
  ·rw [if_neg hx,Option.bind_some]
   show findL f (i+1) xs ()=_
   rw [j1U fun k y hy=>h k y (by simp [hy])]
   have hx' : q x=false:=by simpa using hx
   simp only [List.any_cons,hx',Bool.false_or,List.findIdx_cons,cond_false]
   rw [show i+1+xs.findIdx q=i+(xs.findIdx q+1) by omega]
mutual
def allE (p:Expr→Bool):Expr→Bool
 | ⟨a0,a1,a2,a3,a4,a5,a6⟩=>p ⟨a0,a1,a2,a3,a4,a5,a6⟩&&k3h p a6
def k3h (p:Expr→Bool):List Expr→Bool
 | []=>true
 | x :: xs=>allE p x&&k3h p xs
end
mutual
def cntE:Expr→Nat
 | ⟨_,_,_,_,_,_,a6⟩=>z5R a6+1
def z5R:List Expr→Nat
 | []=>0
 | x :: xs=>cntE x+z5R xs
end
mutual
def depE:Expr→Nat
 | ⟨_,_,_,_,_,_,a6⟩=>j2O a6+1
def j2O:List Expr→Nat
 | []=>0
 | x :: xs=>max (depE x) (j2O xs)
end
theorem j8E (p:Expr→Bool):∀ l,k3h p l=l.all (allE p)
 | []=>rfl
 | x :: xs=>by rw [k3h,j8E p xs]; rfl
theorem z9s (p:Expr→Bool)(e:Expr):allE p e=(p e&&e.Args.all (allE p)):=by
 cases e; rw [allE,j8E]
theorem z9t (e:Expr):cntE e=z5R e.Args+1:=by cases e; rfl
theorem k1h (e:Expr):depE e=j2O e.Args+1:=by cases e; rfl
mutual
theorem j4w:∀ e:Expr,cntE e≤1+z1z e
 | ⟨a0,a1,a2,a3,a4,a5,a6⟩=>by
  have:=j6c a6
  simp only [cntE,z1z]; omega
theorem j6c:∀ l:List Expr,z5R l≤z4n l
 | []=>by simp [z5R]
 | x :: xs=>by
  have h1:=j4w x
  have h2:=j6c xs
  simp only [z5R,z4n]; omega
end
theorem k4B {e:Expr}(h:Sz.szd e≤1048576):cntE e≤1048577:=by
 have h1:=j4w e
 have h2:z1z e=Sz.szd e:=rfl
 omega
mutual
theorem k1i:∀ e:Expr,depE e≤cntE e
 | ⟨_,_,_,_,_,_,a6⟩=>by
  have:=j8F a6
  simp only [depE,cntE]; omega
theorem j8F:∀ l:List Expr,j2O l≤z5R l
 | []=>Nat.le_refl _
 | x :: xs=>by
  have h1:=k1i x
  have h2:=j8F xs
  simp only [j2O,z5R]; omega
end
theorem j6d:∀ {l:List Expr} {x:Expr},x∈l→cntE x≤z5R l
 | y :: l,x,h=>by
  simp only [z5R]
  rcases List.mem_cons.1 h with e | h
  ·subst e; omega
  ·have:=j6d h; omega
theorem k1j {e x:Expr}(hx:x∈e.Args):cntE x+1≤cntE e:=by
 have:=j6d hx
 have:=z9t e
 omega
theorem j9V (e:Expr):∀ m,fuE e≤m→cntE e≤1099511627776→z0M m e=some (cntE e:Int):=by
 induction e using z0x with
 | h e ih=>
  intro m hm hc
  obtain⟨m,rfl⟩:∃ q,m=q+1:=⟨m - 1,by have:=z5f e; omega⟩
  show z2y (z0M m) e=_
  unfold z2y
  have key:∀ (l:List Expr) (i s:Nat),(∀ x∈l,x∈e.Args)→s+z5R l≤1099511627776→eachL (z3b (z0M m)) i l (s:Int)=some ((s+z5R l:Nat):Int):=by
   intro l
   induction l with
   | nil=>intro i s _ _; rfl
   | cons x l ihl=>
    intro i s hx hs
    have hxm:=hx x (by simp)
    simp only [z5R] at hs
    have h1:=ih x hxm m (by have:=z4o hxm; omega) (by omega)
    rw [eachL]
    unfold z3b
    rw [h1,Option.bind_some,q3G (by constructor<;>omega),Option.bind_some]
    have:=ihl (i+1) (s+cntE x) (fun y hy=>hx y (by simp [hy])) (by omega)
    rw [Int.natCast_add] at this
    unfold z3b at this
    rw [this,z5R]
    congr 1; omega
  rw [z9t] at hc
  have:=key e.Args 0 1 (fun _ h=>h) (by omega)
  rw [show ((1:Nat):Int)=1 from rfl] at this
  rw [this,Option.bind_some,z9t,Nat.add_comm]
theorem k1k {e:Expr}(h:cntE e≤1099511627776):z6y e=some (cntE e:Int):=q9Y (fuE e) fun m hm=>j9V e m hm h
theorem k6y (a b:Nat):(if (b:Int) > (a:Int) then (b:Int) else (a:Int))=((max a b:Nat):Int):=by
 split<;>omega
theorem j1V {f:Expr→Option Int}{g:Nat→Expr→Int→Option Int}(hg:∀ k x s,g k x s=(f x).bind fun y=>some (if y > s then y else s)):∀ (l:List Expr) (i s:Nat),(∀ x∈l,f x=some (depE x:Int))→eachL g i l (s:Int)=some ((max s (j2O l):Nat):Int)
 | [],i,s,_=>by rw [eachL,j2O,Nat.max_zero]
 | x :: l,i,s,h=>by
  rw [eachL,hg,h x (by simp),Option.bind_some,Option.bind_some,k6y,j1V hg l (i+1) _ fun y hy=>h y (by simp [hy]),j2O,Nat.max_assoc]
theorem k1l (a b:Int):z0r a b=some (if b > a then b else a):=by
 unfold z0r
 by_cases h:b < a
 ·rw [if_pos h,if_neg (by omega)]
 ·rw [if_neg h]
  split
  ·rfl
  ·congr 1; omega
theorem j3s (e:Expr):∀ m,fuE e≤m→cntE e≤1099511627776→q7y m e=some (depE e:Int)∧q7x m e=some (depE e:Int):=by
 induction e using z0x with
 | h e ih=>
  intro m hm hc
  obtain⟨m,rfl⟩:∃ q,m=q+1:=⟨m - 1,by have:=z5f e; omega⟩
  show z0k (q7y m) e=_∧z0i (q7x m) e=_
  unfold z0k z0i
  have hx:∀ x∈e.Args,q7y m x=some (depE x:Int)∧q7x m x=some (depE x:Int):=fun x hx=>ih x hx m (by have:=z4o hx; omega) (by have:=k1j hx; omega)
  have k1:=j1V (f:=q7y m) (g:=z6z (q7y m)) (fun k x s=>rfl) e.Args 0 0 fun x h=>(hx x h).1
  have k2:=j1V (f:=q7x m) (g:=z3A (q7x m)) (fun k x s=>by
   unfold z3A
   congr 1; funext y
   rw [k1l,Option.bind_some]) e.Args 0 0 fun x h=>(hx x h).2
  rw [show ((0:Nat):Int)=0 from rfl] at k1 k2
  have hd:=k1i e
  rw [k1h] at hd
  rw [k1,k2]
  have hg:I64 (((max 0 (j2O e.Args):Nat):Int)+1):=by constructor<;>omega
  have he:((max 0 (j2O e.Args):Nat):Int)+1=(depE e:Int):=by rw [k1h]; omega
  refine⟨?_,?_⟩
  ·rw [Option.bind_some,q3G hg,he]
  ·rw [Option.bind_some,q3G hg,he]
theorem k1m {e:Expr}(h:cntE e≤1099511627776):z4v e=some (depE e:Int):=q9Y (fuE e) fun m hm=>(j3s e m hm h).1
theorem k1n {e:Expr}(h:cntE e≤1099511627776):z4u e=some (depE e:Int):=q9Y (fuE e) fun m hm=>(j3s e m hm h).2
def j0q (a:Int)(n:Nat):Int:=if (n:Int)≤a then a - n else -1
theorem k1o (e:Expr):∀ m,fuE e≤m→∀ a:Int,0≤a→a≤1048576→cntE e≤1099511627776→z3z m e a=some (j0q a (cntE e)):=by
 induction e using z0x with
 | h e ih=>
  intro m hm a h0 h1 hc
  obtain⟨m,rfl⟩:∃ q,m=q+1:=⟨m - 1,by have:=z5f e; omega⟩
  show z6n (z3z m) e a=_
  unfold z6n
  rw [q3G (by constructor<;>omega)]
  have hlen:e.Args.length≤cntE e:=by
   rw [z9t]
   have:∀ l:List Expr,l.length≤z5R l:=by
    intro l
    induction l with
    | nil=>simp
    | cons x l ih=>
     have:=z9t x
     simp only [z5R,List.length_cons]; omega
   have:=this e.Args; omega
  have key:∀ (n k:Nat) (s:Int),k+n=e.Args.length→-1≤s→s≤1048576→q4L (z3l (z3z m) e) (s,(k:Int))=some (if 0≤s then j0q s (z5R (e.Args.drop k)) else s):=by
   intro n
   induction n with
   | zero=>
    intro k s hk _ _
    have hdrop:e.Args.drop k=[]:=List.drop_eq_nil_of_le (by omega)
    refine q3I ?_
    unfold z3l
    dsimp only
    rw [if_neg (by omega),hdrop]
    congr 2
    split
    ·unfold j0q; simp [z5R]; omega
    ·rfl
   | succ n ihn=>
    intro k s hk hs1 hs2
    have hkl:k < e.Args.length:=by omega
    by_cases hs:0≤s
    ·have hxm:e.Args[k]∈e.Args:=List.getElem_mem hkl
     have hr:=ih _ hxm m (by have:=z4o hxm; omega) s hs hs2 (by have:=k1j hxm; omega)
     have hstep:z3l (z3z m) e (s,(k:Int))=some (.inl (j0q s (cntE e.Args[k]),((k+1:Nat):Int))):=by
      unfold z3l
      dsimp only
      rw [if_pos (by omega),if_pos hs,q3G (by omega),Int.toNat_natCast,List.getElem?_eq_getElem hkl,Option.bind_some,hr,Option.bind_some,q3G (by constructor<;>omega)]
      rfl
     have hb1:-1≤j0q s (cntE e.Args[k]):=by unfold j0q; split<;>omega
     have hb2:j0q s (cntE e.Args[k])≤1048576:=by unfold j0q; split<;>omega
     rw [q3W hstep,ihn (k+1) _ (by omega) hb1 hb2,if_pos hs]
     have hd:e.Args.drop k=e.Args[k] :: e.Args.drop (k+1):=List.drop_eq_getElem_cons hkl
     rw [hd,z5R]
     congr 1
     unfold j0q
     split<;>split<;>(try split)<;>omega
    ·refine q3I ?_
     unfold z3l
     dsimp only
     rw [if_pos (by omega),if_neg hs,if_neg hs]
  have:=key e.Args.length 0 (a - 1) (by omega) (by omega) (by omega)
  rw [show ((0:Nat):Int)=0 from rfl] at this
  rw [this,Option.bind_some,List.drop_zero,z9t]
  congr 1
  unfold j0q
  split<;>(try split)<;>(try split)<;>omega
theorem k3i {e:Expr}{a:Int}(h0:0≤a)(h1:a≤1048576)(h:cntE e≤1099511627776):j1i e a=some (j0q a (cntE e)):=q9Y (fuE e) fun m hm=>k1o e m hm a h0 h1 h
end Go.Proofs.YtpnkinhphabkcaaGreat
namespace Go.Proofs.YtpnkinhphabkcaaGreat
open Go Go.E
theorem j9W (x lo hi:Int):q4d x lo hi=some (decide (lo≤x∧x≤hi)):=by
 unfold q4d; by_cases h:lo≤x<;>simp [h]
theorem j4x (x lo hi:Int):q5O x lo hi=some (decide (lo≤x∧x≤hi)):=by
 unfold q5O; by_cases h:lo≤x<;>simp [h]
def lowB (c:UInt8):Bool:=decide (97≤(c.toNat:Int)∧(c.toNat:Int)≤122)
def digB (c:UInt8):Bool:=decide (48≤(c.toNat:Int)∧(c.toNat:Int)≤57)
theorem z9u (c:UInt8):z3n c=some (lowB c):=by
 unfold z3n lowB; by_cases h:97≤(c.toNat:Int)<;>simp [h]
theorem j9X (c:UInt8):z4P c=some (digB c):=by
 unfold z4P digB; by_cases h:48≤(c.toNat:Int)<;>simp [h]
def allN (q:Nat→Bool):Nat→Nat→Bool
 | _,0=>true
 | i,n+1=>q i&&allN q (i+1) n
theorem j3t {q r:Nat→Bool}:∀ {n i:Nat},(∀ k,i≤k→q k=r k)→allN q i n=allN r i n
 | 0,_,_=>rfl
 | n+1,i,h=>by rw [allN,allN,h i (Nat.le_refl _),j3t fun k hk=>h k (by omega)]
theorem z9v {ρ:Type}{c:ρ}{q:Nat→Bool}:∀ {n i:Nat} {f:Nat→Unit→Option (Unit ⊕ ρ)},(∀ k,k < n→f (i+k) ()=some (if q (i+k)=true then .inl () else .inr c))→findN f i n ()=some (if allN q i n=true then .inl () else .inr c)
 | 0,i,f,h=>rfl
 | n+1,i,f,h=>by
  have h0:=h 0 (by omega)
  rw [Nat.add_zero] at h0
  rw [findN,h0]
  by_cases hx:q i=true
  ·rw [if_pos hx,Option.bind_some]
   show findN f (i+1) n ()=_
   rw [z9v fun k hk=>by have:=h (k+1) (by omega); rwa [show i+(k+1)=i+1+k by omega] at this]
   simp [allN,hx]
  ·rw [if_neg hx]; simp [allN,hx]
def chr (s:ByteArray)(k:Nat):UInt8:=s.data.getD k 0
theorem j4y {s:ByteArray}{k:Nat}(h:k < s.size):s.data[k]? = some (chr s k):=by
 have h' : k < s.data.size:=h
 unfold chr
 rw [Array.getD_eq_getD_getElem?,Array.getElem?_eq_getElem h']; rfl
def z8N:List ByteArray:=[⟨#[105,102]⟩,⟨#[116,104,101,110]⟩,⟨#[101,108,115,101]⟩,⟨#[116,114,117,101]⟩,⟨#[102,97,108,115,101]⟩,⟨#[108,105,116]⟩,⟨#[110,111,110,101]⟩,⟨#[115,101,108,102]⟩,⟨#[111,102]⟩,⟨#[109,97,120]⟩,⟨#[109,105,110]⟩,⟨#[119,105,116,104]⟩,⟨#[104,97,115]⟩]
def memB (s:ByteArray)(l:List ByteArray):Bool:=l.any fun x=>decide (x=s)
theorem k3j {s:ByteArray}{l:List ByteArray}:memB s l=true↔s∈l:=by
 unfold memB; rw [List.any_eq_true]
 exact⟨fun ⟨x,h1,h2⟩=>by simp at h2; exact h2▸h1,fun h=>⟨s,h,by simp⟩⟩
theorem k3k {s:ByteArray}{l:List ByteArray}(h:s ∉ l):memB s l=false:=by
 cases hb:memB s l with
 | false=>rfl
 | true=>exact absurd (k3j.1 hb) h
def resB (s:ByteArray):Bool:=memB s z8N
theorem k3l (l:List ByteArray)(s:ByteArray):z2j l s=some (memB s l):=by
 unfold z2j
 have:∀ (l:List ByteArray) (i:Nat),findL (z8q s) i l ()=some (if memB s l=true then .inr true else .inl ()):=by
  intro l
  induction l with
  | nil=>intro i; rfl
  | cons x l ih=>
   intro i
   rw [findL]
   unfold z8q at ih ⊢
   have hc:memB s (x :: l)=(decide (x=s)||memB s l):=rfl
   by_cases h:x=s
   ·rw [if_pos h,hc]; simp [h]
   ·rw [if_neg h,Option.bind_some]
    show findL _ (i+1) l ()=_
    rw [ih,hc]; simp [h]
 rw [this,Option.bind_some]
 cases memB s l<;>rfl
theorem k5o (s:ByteArray):z0X s=some (resB s):=by
 unfold z0X z3a
 rw [Option.bind_some,k3l]; rfl
theorem k5p (s:ByteArray):z0Z s=some (resB s):=by
 by_cases h:s∈z8N
 ·unfold z8N at h
  simp only [List.mem_cons,List.not_mem_nil,or_false] at h
  rcases h with h | h | h | h | h | h | h | h | h | h | h | h | h<;>subst h<;>rfl
 ·unfold resB
  rw [k3k h]
  unfold z8N at h
  simp only [List.mem_cons,List.not_mem_nil,or_false,not_or] at h
  obtain⟨h1,h2,h3,h4,h5,h6,h7,h8,h9,h10,h11,h12,h13⟩:=h
  unfold z0Z
  rw [if_neg h1,if_neg h2,if_neg h3,if_neg h4,if_neg h5,if_neg h6,if_neg h7,if_neg h8,if_neg h9,if_neg h10,if_neg h11,if_neg h12]
  simp [h13]
def q8U (s:ByteArray):Bool:=decide (0 < s.size∧s.size≤8)&&(lowB (chr s 0)&&allN (fun k=>lowB (chr s k)||digB (chr s k)) 1 (s.size - 1) && !resB s)
theorem z3h (s:ByteArray):q4E s=some (q8U s):=by
 unfold q4E
 rw [z9v (c:=false) (q:=fun k=>lowB (chr s k)||digB (chr s k)) fun k hk=>by
  rw [Nat.zero_add]
  unfold z6x
  rw [j4y hk,Option.bind_some,z9u,Option.bind_some]
  cases lowB (chr s k) with
  | true=>rfl
  | false=>
   rw [if_neg (by simp),j9X,Option.bind_some]
   cases digB (chr s k)<;>rfl]
 rw [Option.bind_some]
 by_cases h0:0 < s.size
 ·obtain⟨n,hn⟩:∃ n,s.size=n+1:=⟨s.size - 1,by omega⟩
  unfold q8U
  rw [hn,allN,Nat.add_sub_cancel]
  cases ha:allN (fun k=>lowB (chr s k)||digB (chr s k)) (0+1) n with
  | false=>
   rw [Bool.and_false,if_neg (by simp)]
   rw [Nat.zero_add] at ha
   simp [onr,ha]
  | true=>
   rw [Nat.zero_add] at ha
   try rw [ha]
   simp only [Bool.and_true]
   have hc:=j4y h0
   cases hl:lowB (chr s 0) with
   | false=>
    cases hd:digB (chr s 0) with
    | false=>simp [onr]
    | true=>
     rw [if_pos (by simp)]
     show (q4d _ 1 8).bind _=_
     rw [j9W,Option.bind_some]
     split
     ·rw [hc,Option.bind_some,z9u,hl]; simp
     ·simp
   | true=>
    rw [if_pos (by simp)]
    show (q4d _ 1 8).bind _=_
    rw [j9W,Option.bind_some]
    by_cases h8:n+1≤8
    ·rw [if_pos (by simp; omega),hc,Option.bind_some,z9u,hl]
     simp [k5p,h8]
    ·rw [if_neg (by simp; omega)]; simp [h8]
 ·have hs:s.size=0:=by omega
  unfold q8U
  rw [hs,allN,if_pos rfl,z1H,j9W,Option.bind_some]
  simp
theorem z1C (s:ByteArray):q4T s=some (q8U s):=by
 unfold q4T z7m
 rw [z9v (c:=false) (q:=fun k=>lowB (chr s k)||(decide (k≠0)&&digB (chr s k))) fun k hk=>by
  rw [Nat.zero_add]
  unfold j1k
  rw [j4y hk,Option.bind_some]
  have e1:(if 97≤((chr s k).toNat:Int) then some (decide (((chr s k).toNat:Int)≤122)) else some false)=some (lowB (chr s k)):=by
   unfold lowB; by_cases h:97≤((chr s k).toNat:Int)<;>simp [h]
  have e2:(if 48≤((chr s k).toNat:Int) then some (decide (((chr s k).toNat:Int)≤57)) else some false)=some (digB (chr s k)):=by
   unfold digB; by_cases h:48≤((chr s k).toNat:Int)<;>simp [h]
  rw [e1,e2,Option.bind_some,Option.bind_some]
  cases lowB (chr s k) with
  | true=>rfl
  | false=>
   by_cases hk0:k=0
   ·subst hk0; simp
   ·have:¬ ((k:Int)=0):=by omega
    rw [if_neg (by simp),if_neg this]
    cases digB (chr s k)<;>simp [hk0]]
 rw [Option.bind_some]
 by_cases h0:0 < s.size
 ·obtain⟨n,hn⟩:∃ n,s.size=n+1:=⟨s.size - 1,by omega⟩
  unfold q8U
  rw [hn,allN,Nat.add_sub_cancel,Nat.zero_add,j3t (n:=n) (i:=1) (q:=fun k=>lowB (chr s k)||(decide (k≠0)&&digB (chr s k))) (r:=fun k=>lowB (chr s k)||digB (chr s k)) fun k hk=>by simp [show k≠0 by omega]]
  have e0:(lowB (chr s 0)||(decide ((0:Nat)≠0)&&digB (chr s 0)))=lowB (chr s 0):=by simp
  rw [e0]
  cases hA:(lowB (chr s 0)&&allN (fun k=>lowB (chr s k)||digB (chr s k)) 1 n) with
  | false=>simp [onr]
  | true=>
   rw [if_pos rfl]
   simp only [onr,Option.bind_some]
   by_cases h8:n+1≤8
   ·simp [k5o,h8]; omega
   ·simp [h8]; omega
 ·have hs:s.size=0:=by omega
  unfold q8U
  rw [hs]
  simp [onr,allN]
end Go.Proofs.YtpnkinhphabkcaaGreat
namespace Go.Proofs.YtpnkinhphabkcaaGreat
open Go Go.E
def satI (v:Int):Int:=if (-1000000:Int) > (if (1000000:Int) < v then (1000000:Int) else v) then (-1000000:Int) else (if (1000000:Int) < v then (1000000:Int) else v)
def truI (b:Bool):Int:=if b=true then 1 else 0
def k1p (v k:Int):Int:=if k=1 then satI v else if k=2 then z8j v 4095 else if k=3 then truI (!decide (v=0)) else if k=4 then (if 0≤v∧v≤999 then v else 0) else 0
theorem k5q (v:Int):z5A v=some (satI v):=rfl
theorem k5r (a b:Int):z8p a b=some (if b < a then b else a):=by
 unfold z8p
 by_cases h:a < b
 ·rw [if_pos h,if_neg (by omega)]
 ·rw [if_neg h]
  split
  ·rfl
  ·congr 1; omega
theorem k5s (v:Int):z3B v=some (satI v):=by
 unfold z3B
 rw [k5r,Option.bind_some,k1l,Option.bind_some]
 congr 1
 unfold satI
 split<;>split<;>(try split)<;>(try split)<;>omega
theorem k5t (b:Bool):j1t b=some (truI b):=by unfold j1t truI; cases b<;>rfl
theorem k3m (b:Bool):z4K b=some (truI b):=by unfold z4K truI; cases b<;>rfl
theorem k3n (v k:Int):z6A v k=some (k1p v k):=by
 unfold z6A k1p
 rw [k5q,k5t,j9W]
 by_cases h1:k=1
 ·rw [if_pos h1,if_pos h1]; rfl
 by_cases h2:k=2
 ·rw [if_neg h1,if_neg h1,if_pos h2,if_pos h2]
 by_cases h3:k=3
 ·rw [if_neg h1,if_neg h1,if_neg h2,if_neg h2,if_pos h3,if_pos h3]; rfl
 by_cases h4:k=4
 ·rw [if_neg h1,if_neg h1,if_neg h2,if_neg h2,if_neg h3,if_neg h3,if_pos h4,if_pos h4,Option.bind_some]
  by_cases h:0≤v∧v≤999<;>simp [h]
 ·rw [if_neg h1,if_neg h1,if_neg h2,if_neg h2,if_neg h3,if_neg h3,if_neg h4,if_neg h4]
theorem k3o (v k:Int):z6q v k=some (k1p v k):=by
 unfold z6q k1p
 rw [k5s,k3m,j4x]
 by_cases h1:k=1
 ·rw [if_pos h1,if_pos h1]; rfl
 by_cases h2:k=2
 ·rw [if_neg h1,if_neg h1,if_pos h2,if_pos h2]
 by_cases h3:k=3
 ·rw [if_neg h1,if_neg h1,if_neg h2,if_neg h2,if_pos h3,if_pos h3]; rfl
 by_cases h4:k=4
 ·rw [if_neg h1,if_neg h1,if_neg h2,if_neg h2,if_neg h3,if_neg h3,if_pos h4,if_pos h4,Option.bind_some]
  by_cases h:0≤v∧v≤999<;>simp [h]
 ·rw [if_neg h1,if_neg h1,if_neg h2,if_neg h2,if_neg h3,if_neg h3,if_neg h4,if_neg h4]
def j4z (v k:Int):Bool:=decide (1≤k∧k≤4)&&decide (k1p v k=v)
theorem k3p (v k:Int):z3E v k=some (j4z v k):=by
 unfold z3E z4Q j4z
 rw [j9W,Option.bind_some,Option.bind_some,k3n,Option.bind_some]
 by_cases h:1≤k∧k≤4<;>simp [h]
theorem k3q (v k:Int):z3C v k=some (j4z v k):=by
 unfold z3C j4z
 rw [j4x,Option.bind_some,k3o,Option.bind_some]
 by_cases h:1≤k∧k≤4<;>simp [h]
def opT (n:Int):Int × Int × Int:=
 if 1≤n∧n≤5 then (1,1,1) else if 6≤n∧n≤8 then (2,2,2) else if n=9∨n=10 then (1,1,3) else if n=11 then (2,1,3) else if n=12 then (2,1,2) else (0,0,0)
theorem k6z {n a b c d e:Int}:(if n=a then some (decide (n=a)) else if n=b then some (decide (n=b)) else if n=c then some (decide (n=c)) else if n=d then some (decide (n=d)) else some (decide (n=e)))=some (decide (n=a∨n=b∨n=c∨n=d∨n=e)):=by
 by_cases h1:n=a
 ·simp [h1]
 by_cases h2:n=b
 ·simp [h1,h2]
 by_cases h3:n=c
 ·rw [if_neg h1,if_neg h2,if_pos h3]; simp [h3]
 by_cases h4:n=d
 ·rw [if_neg h1,if_neg h2,if_neg h3,if_pos h4]; simp [h4]
 ·simp [h1,h2,h3,h4]
theorem k6A {n a b c:Int}:(if n=a then some (decide (n=a)) else if n=b then some (decide (n=b)) else some (decide (n=c)))=some (decide (n=a∨n=b∨n=c)):=by
 by_cases h1:n=a
 ·simp [h1]
 by_cases h2:n=b
 ·simp [h1,h2]
 ·simp [h1,h2]
theorem k5u (n:Int):q9A n=some (opT n):=by
 unfold q9A opT
 rw [k6z,k6A]
 simp only [Option.bind_some]
 by_cases h1:1≤n∧n≤5
 ·rw [if_pos (by simp; omega),if_pos h1]
 rw [if_neg (by simp; omega),if_neg h1]
 by_cases h2:6≤n∧n≤8
 ·rw [if_pos (by simp; omega),if_pos h2]
 rw [if_neg (by simp; omega),if_neg h2]
 by_cases h3:n=9
 ·simp [h3]
 by_cases h3' : n=10
 ·simp [h3']
 by_cases h4:n=11
 ·simp [h4]
 by_cases h5:n=12
 ·simp [h5]
 simp [h3,h3',h4,h5]
theorem k5v (n:Int):q5b n=some (opT n):=by
 unfold q5b opT
 rw [j4x,j4x]
 simp only [Option.bind_some]
 by_cases h1:1≤n∧n≤5
 ·rw [if_pos (by simpa using h1),if_pos h1]
 rw [if_neg (by simpa using h1),if_neg h1]
 by_cases h2:6≤n∧n≤8
 ·rw [if_pos (by simpa using h2),if_pos h2]
 rw [if_neg (by simpa using h2),if_neg h2]
 by_cases h3:n=9
 ·rw [if_pos h3,if_pos (.inl h3)]
 rw [if_neg h3]
 by_cases h3' : n=10
 ·rw [if_pos h3',if_pos (.inr h3')]
 have h33:¬(n=9∨n=10):=by omega
 rw [if_neg h3',if_neg h33]
 by_cases h4:n=11
 ·rw [if_pos h4,if_pos h4]
 rw [if_neg h4,if_neg h4]
 by_cases h5:n=12
 ·rw [if_pos h5,if_pos h5]
 rw [if_neg h5,if_neg h5]
end Go.Proofs.YtpnkinhphabkcaaGreat
namespace Go.Proofs.YtpnkinhphabkcaaGreat
open Go Go.E
theorem k5w (a b:Expr):q7d a b=some (decide (a.Kind=b.Kind)&&(decide (a.N=b.N)&&(decide (a.Pos=b.Pos)&&(decide (a.Type_=b.Type_)&&(decide (a.Symbol=b.Symbol)&&decide (a.Name=b.Name)))))):=by
 unfold q7d
 by_cases h1:a.Kind=b.Kind
 ·rw [if_pos h1,Option.bind_some]
  by_cases h2:a.N=b.N
  ·by_cases h3:a.Pos=b.Pos
   ·by_cases h4:a.Type_=b.Type_
    ·by_cases h5:a.Symbol=b.Symbol
     ·simp [h1,h2,h3,h4,h5]
     ·simp [h1,h2,h3,h4,h5]
    ·simp [h1,h2,h3,h4]
   ·simp [h1,h2,h3]
  ·simp [h1,h2]
 ·simp [h1]
def k1q (k:Int):Int:=if k=4 then 2 else if k=5 then 3 else if k=8 then 1 else 0
def k1r (e:Expr):Bool:=decide ((e.Args.length:Int)=k1q e.Kind)&&((decide (e.Kind=3∨e.Kind=6)||decide (e.Pos=0))&&((decide (e.Kind=3∨e.Kind=8)||decide (e.Name=⟨#[]⟩))&&((decide (e.Kind=1∨e.Kind=4)||decide (e.N=0))&&((decide (e.Kind=1)||decide (e.Type_=0))&&(decide (e.Kind=8)||decide (e.Symbol=⟨#[]⟩))))))
theorem k5x (e:Expr):z6p e=some (k1r e):=by
 unfold z6p
 have h0:(if e.Kind=4 then some 2 else if e.Kind=5 then some 3 else if e.Kind=8 then some 1 else some (0:Int))=some (k1q e.Kind):=by
  unfold k1q
  split
  ·rfl
  ·split
   ·rfl
   ·split<;>rfl
 have or2:∀ a b:Prop,[Decidable a]→[Decidable b]→(if a then some true else some (decide b))=some (decide (a∨b)):=fun a b _ _=>by
  by_cases h:a<;>simp [h]
 have or1:∀ (a:Prop) (b:Bool),[Decidable a]→(if a then some true else some b)=some (decide a||b):=fun a b _=>by
  by_cases h:a<;>simp [h]
 have orB:∀ a b:Bool,(if a=true then some true else some b)=some (a||b):=fun a b=>by cases a<;>rfl
 have andB:∀ a b:Bool,(if a=true then some b else some false)=some (a&&b):=fun a b=>by cases a<;>rfl
 rw [h0,Option.bind_some]
 unfold k1r
 by_cases hl:(e.Args.length:Int)=k1q e.Kind
 ·rw [if_pos hl]
  simp only [or2,or1,orB,andB,Option.bind_some]
  simp [hl,Bool.and_assoc]
 ·rw [if_neg hl]; simp [hl]
def k5y (e:Expr):Bool:=
 if e.Kind=1 then (decide (1≤e.Type_∧e.Type_≤3)&&j4z e.N e.Type_)&&decide (0≤e.N)
 else if e.Kind=3 then decide (0≤e.Pos∧e.Pos≤3)&&q8U e.Name
 else if e.Kind=6 then decide (0≤e.Pos∧e.Pos≤3)
 else if e.Kind=4 then decide (1≤e.N∧e.N≤12)
 else if e.Kind=8 then q8U e.Symbol&&q8U e.Name
 else true
def z6Y (e:Expr):Bool:=(decide (1≤e.Kind∧e.Kind≤8)&&k1r e)&&k5y e
theorem k3r (e:Expr):z6r e=some (z6Y e):=by
 unfold z6r z6Y
 rw [j4x,Option.bind_some,k5x,Option.bind_some]
 by_cases hk:1≤e.Kind∧e.Kind≤8
 ·rw [if_pos (by simpa using hk),Option.bind_some]
  cases k1r e with
  | false=>simp
  | true=>
   rw [if_neg (by simp)]
   unfold k5y
   by_cases k1:e.Kind=1
   ·rw [if_pos k1,if_pos k1,j4x,Option.bind_some,k3q,Option.bind_some]
    by_cases h:1≤e.Type_∧e.Type_≤3
    ·cases j4z e.N e.Type_<;>simp [h,hk]
    ·simp [h,hk]
   rw [if_neg k1,if_neg k1]
   by_cases k3:e.Kind=3
   ·rw [if_pos k3,if_pos k3,j4x,Option.bind_some,z1C]
    by_cases h:0≤e.Pos∧e.Pos≤3
    ·simp [h,hk]
    ·simp [h,hk]
   rw [if_neg k3,if_neg k3]
   by_cases k6:e.Kind=6
   ·rw [if_pos k6,if_pos k6,j4x]; simp [hk]
   rw [if_neg k6,if_neg k6]
   by_cases k4:e.Kind=4
   ·rw [if_pos k4,if_pos k4,j4x]; simp [hk]
   rw [if_neg k4,if_neg k4]
   by_cases k8:e.Kind=8
   ·rw [if_pos k8,if_pos k8,z1C,Option.bind_some,z1C]
    cases q8U e.Symbol<;>simp [hk]
   rw [if_neg k8,if_neg k8]; simp [hk]
 ·rw [if_neg (by simpa using hk)]; simp [hk]
theorem k3s (e:Expr):z1b e=some (z6Y e):=by
 unfold z1b z6Y k1r k5y k1q
 simp only [k5w,j9W,k3p,z3h,Option.bind_some]
 have hp3:e.Pos=0→(0≤e.Pos∧e.Pos≤3):=fun h=>by omega
 by_cases k1:e.Kind=1
 ·simp [k1]
  have ht:j4z e.N e.Type_=true→1≤e.Type_∧e.Type_≤4:=fun h=>by
   unfold j4z at h; simp at h; exact h.1
  cases hb:j4z e.N e.Type_ with
  | false=>by_cases h4:e.Type_=4<;>simp [h4]
  | true=>
   obtain⟨t1,t2⟩:=ht hb
   by_cases h4:e.Type_=4
   ·simp [h4]
   ·by_cases hn:e.N < 0
    ·have:¬ 0≤e.N:=by omega
     simp [h4,hn,this]
    ·have h0:0≤e.N:=by omega
     have h3:e.Type_≤3:=by omega
     by_cases a:e.Args=[]
     ·by_cases p:e.Pos=0
      ·simp [h4,hn,h0,h3,t1,a,p,Bool.and_comm]
      ·simp [h4,hn,h0,h3,t1,a,p]
     ·simp [h4,hn,h0,h3,t1,a]
 by_cases k3:e.Kind=3
 ·simp [k1,k3]
  cases q8U e.Name with
  | false=>simp
  | true=>
   by_cases a:e.Args=[]
   ·by_cases p:0≤e.Pos∧e.Pos≤3
    ·simp [a,p]
    ·have:(decide (0≤e.Pos)&&decide (e.Pos≤3))=false:=by simp; omega
     simp [a,this]
   ·simp [a]
 by_cases k4:e.Kind=4
 ·simp [k1,k3,k4]
  by_cases n:1≤e.N∧e.N≤12
  ·by_cases a:(e.Args.length:Int)=2
   ·by_cases p:e.Pos=0
    ·simp [n,a,p]; cases decide (e.Type_=0)<;>cases decide (e.Symbol=⟨#[]⟩)<;>cases decide (e.Name=⟨#[]⟩)<;>rfl
    ·simp [n,a,p]
   ·simp [n,a]
  ·have:(decide (1≤e.N)&&decide (e.N≤12))=false:=by simp; omega
   rw [if_neg n,this]; simp
 have close3:∀ c:Bool,((if c=true then some (decide (0≤e.Pos)&&decide (e.Pos≤3)) else some false).bind fun s9=>
   if s9=true then some (decide (e.N=0)&&(decide (e.Pos=0)&&(decide (e.Type_=0)&&(decide (e.Symbol=⟨#[]⟩)&&decide (e.Name=⟨#[]⟩))))) else some false) =
  some (c&&(decide (e.Pos=0)&&(decide (e.Name=⟨#[]⟩)&&(decide (e.N=0)&&(decide (e.Type_=0)&&decide (e.Symbol=⟨#[]⟩)))))):=fun c=>by
  cases c with
  | false=>simp
  | true=>
   by_cases p:e.Pos=0
   ·simp [p]; cases decide (e.N=0)<;>cases decide (e.Type_=0)<;>cases decide (e.Symbol=⟨#[]⟩)<;>cases decide (e.Name=⟨#[]⟩)<;>rfl
   ·simp [p]
 by_cases k5:e.Kind=5
 ·simp [k1,k3,k4,k5]
  simpa using close3 (decide ((e.Args.length:Int)=3))
 by_cases k6:e.Kind=6
 ·simp [k1,k3,k4,k5,k6]
  by_cases a:e.Args=[]
  ·by_cases p:0≤e.Pos∧e.Pos≤3
   ·simp [a,p]; cases decide (e.N=0)<;>cases decide (e.Type_=0)<;>cases decide (e.Symbol=⟨#[]⟩)<;>cases decide (e.Name=⟨#[]⟩)<;>rfl
   ·have:(decide (0≤e.Pos)&&decide (e.Pos≤3))=false:=by simp; omega
    simp [a,this]
  ·simp [a]
 by_cases k8:e.Kind=8
 ·simp [k1,k3,k4,k5,k6,k8]
  cases q8U e.Symbol with
  | false=>simp
  | true=>
   cases q8U e.Name with
   | false=>simp
   | true=>
    by_cases a:(e.Args.length:Int)=1
    ·by_cases p:e.Pos=0
     ·simp [a,p]
     ·simp [a,p]
    ·simp [a]
 by_cases k2:e.Kind=2
 ·simp [k1,k3,k4,k5,k6,k8,k2]
  simpa using close3 (decide (e.Args=[]))
 by_cases k7:e.Kind=7
 ·simp [k1,k3,k4,k5,k6,k8,k2,k7]
  simpa using close3 (decide (e.Args=[]))
 ·simp [k1,k3,k4,k5,k6,k8,k2,k7]
  intro h1 h2; omega
end Go.Proofs.YtpnkinhphabkcaaGreat
namespace Go.Proofs.YtpnkinhphabkcaaGreat
open Go Go.E
theorem k3t (e:Expr):∀ m,fuE e≤m→z8t m e=some (allE z6Y e):=by
 induction e using z0x with
 | h e ih=>
  intro m hm
  obtain⟨m,rfl⟩:∃ q,m=q+1:=⟨m - 1,by have:=z5f e; omega⟩
  show z8s (z8t m) e=_
  unfold z8s
  rw [q4D (c:=false) (q:=allE z6Y) fun k x hx=>by
   unfold j5N
   rw [ih x hx m (by have:=z4o hx; omega),Option.bind_some]
   cases allE z6Y x<;>rfl]
  rw [z9s,Option.bind_some]
  cases e.Args.all (allE z6Y) with
  | true=>rw [if_pos rfl,z1H,k3r,Bool.and_true]; rfl
  | false=>rw [if_neg (by simp),j0Q,Bool.and_false]
theorem k5z (e:Expr):j4a e=some (allE z6Y e):=q9Y (fuE e) fun m hm=>k3t e m hm
theorem j1W {α:Type}(q:α→Bool)(l:List α):(!l.any fun x=>!q x)=l.all q:=by
 induction l with
 | nil=>rfl
 | cons x l ih=>simp [← ih]
theorem k3u (e:Expr):∀ m,fuE e≤m→q6j m e=some (allE z6Y e):=by
 induction e using z0x with
 | h e ih=>
  intro m hm
  obtain⟨m,rfl⟩:∃ q,m=q+1:=⟨m - 1,by have:=z5f e; omega⟩
  show q6i (q6j m) e=_
  unfold q6i q3U q4a
  rw [k3s,Option.bind_some,z9s]
  cases z6Y e with
  | false=>rfl
  | true=>
   rw [if_pos rfl,j1U (q:=fun x=>!allE z6Y x) fun k x hx=>by
    unfold q5L q6C
    rw [ih x hx m (by have:=z4o hx; omega),Option.bind_some,Option.bind_some]
    cases allE z6Y x<;>rfl]
   rw [Bool.true_and,← j1W]
   cases e.Args.any fun x=>!allE z6Y x with
   | true=>
    have:(0:Int)≤((0+e.Args.findIdx fun x=>!allE z6Y x:Nat):Int):=Int.natCast_nonneg _
    rw [if_pos rfl,Option.bind_some,j0Q,Option.bind_some,Option.bind_some,decide_eq_true this]
   | false=>rfl
theorem k5A (e:Expr):q8u e=some (allE z6Y e):=q9Y (fuE e) fun m hm=>k3u e m hm
def j1X (e:Expr):Bool:=decide (cntE e≤24)&&(decide (depE e≤6)&&allE z6Y e)
theorem k1s {e:Expr}(h:cntE e≤1099511627776):z0l e=some (j1X e):=by
 unfold z0l j1X
 rw [k1k h,Option.bind_some,k1m h,k5A]
 by_cases h1:cntE e≤24
 ·rw [if_pos (by omega),Option.bind_some,Option.bind_some]
  by_cases h2:depE e≤6
  ·rw [if_pos (by simp; omega),Option.bind_some]; simp [h1,h2]
  ·rw [if_neg (by simp; omega)]; simp [h1,h2]
 ·rw [if_neg (by omega)]; simp [h1]
theorem z8O {e:Expr}(h:cntE e≤1099511627776):q8i e=some (j1X e):=by
 unfold q8i j1X
 rw [k3i (by omega) (by omega) h,Option.bind_some,k1n h,k5z]
 unfold j0q
 by_cases h1:cntE e≤24
 ·have h24:((cntE e:Nat):Int)≤24:=by omega
  rw [if_pos h24,if_pos (by omega:(0:Int)≤24 - ((cntE e:Nat):Int)),Option.bind_some,Option.bind_some]
  by_cases h2:depE e≤6
  ·rw [if_pos (by simp; omega),Option.bind_some]; simp [h1,h2]
  ·rw [if_neg (by simp; omega)]; simp [h1,h2]
 ·have h24:¬ ((cntE e:Nat):Int)≤24:=by omega
  rw [if_neg h24,if_neg (by omega:¬ (0:Int)≤-1)]; simp [h1]
end Go.Proofs.YtpnkinhphabkcaaGreat
namespace Go.Proofs.YtpnkinhphabkcaaGreat
open Go Go.E
theorem j0D {x m:Int}(h0:0≤m)(h1:m < 9223372036854775808):0≤z8j x m∧z8j x m≤m:=by
 unfold z8j
 have h2:(BitVec.ofInt 64 m).toNat=m.toNat:=by
  rw [BitVec.toNat_ofInt]
  have:m % ((2 ^ 64:Nat):Int)=m:=Int.emod_eq_of_lt h0 (by omega)
  rw [this]
 have h3:(BitVec.ofInt 64 x &&& BitVec.ofInt 64 m).toNat≤m.toNat:=by
  rw [BitVec.toNat_and,h2]; exact Nat.and_le_right
 rw [IntWalk.i64_in _ (by omega)]
 omega
def j4A (o:l1Cur):Prop:=0≤o.i∧o.b.length≤1048576
theorem k3v {a:List UInt8}(h:a.length≤1048576):∃ o,z7l a=some o∧j4A o∧o.b=a:=by
 have key:∀ (m j:Nat) (s:Int),j+m=a.length→∃ q,q4L (z4G a) (s,(j:Int))=some q:=by
  intro m
  induction m with
  | zero=>
   intro j s hj
   exact⟨s,q3I (by unfold z4G; dsimp only; rw [if_neg (by omega)])⟩
  | succ m ih=>
   intro j s hj
   by_cases hlt:(j:Int) < 4000
   ·obtain⟨x,hx⟩:∃ x,a[j]? = some x:=⟨_,List.getElem?_eq_getElem (by omega)⟩
    obtain⟨q,hq⟩:=ih (j+1) (z8j (IntKind.i64.wrap ((IntKind.i64.wrap ((IntKind.i64.wrap (s*131))+(x.toNat:Int)))+7)) 1073741823) (by omega)
    refine⟨q,(q3W ?_).trans hq⟩
    have hw:IntKind.i64.wrap ((j:Int)+1)=((j+1:Nat):Int):=by rw [IntWalk.i64_in _ (by omega)]; rfl
    unfold z4G
    dsimp only
    rw [if_pos (by omega),if_pos hlt,q3G (by omega),Int.toNat_natCast,hx,Option.bind_some,hw]
   ·exact⟨s,q3I (by unfold z4G; dsimp only; rw [if_pos (by omega),if_neg hlt])⟩
 obtain⟨q,hq⟩:=key a.length 0 (IntKind.i64.wrap (26583+(a.length:Int))) (by omega)
 have hq' : q4L (z4G a) ((IntKind.i64.wrap (26583+(a.length:Int))),0)=some q:=hq
 refine⟨⟨a,0,q⟩,?_,⟨Int.le_refl _,h⟩,rfl⟩
 unfold z7l
 rw [hq',Option.bind_some]
theorem z6Z {o:l1Cur}(h:j4A o):∃ y z,z0W o=some (y,z)∧0≤y∧y≤255∧j4A z∧z.b=o.b:=by
 obtain⟨h0,h1⟩:=h
 unfold z0W
 by_cases hi:o.i < (o.b.length:Int)
 ·obtain⟨x,hx⟩:∃ x,o.b[o.i.toNat]? = some x:=⟨_,List.getElem?_eq_getElem (by omega)⟩
  rw [if_pos hi,q3G h0,hx,Option.bind_some]
  refine⟨_,_,rfl,(j0D (by omega) (by omega)).1,(j0D (by omega) (by omega)).2,⟨?_,h1⟩,rfl⟩
  show 0≤IntKind.i64.wrap (o.i+1)
  rw [IntWalk.i64_in _ (by omega)]; omega
 ·rw [if_neg hi]
  exact⟨_,_,rfl,(j0D (by omega) (by omega)).1,(j0D (by omega) (by omega)).2,⟨h0,h1⟩,rfl⟩
theorem k1t {y n:Int}(hy:0≤y)(hn:0 < n):0≤y.tmod n∧y.tmod n < n:=by
 rw [Int.tmod_eq_emod_of_nonneg hy]
 exact⟨Int.emod_nonneg _ (by omega),Int.emod_lt_of_pos _ hn⟩
theorem j3u {o:l1Cur}(h:j4A o)(n:Int):∃ y z,q3H n o=some (y,z)∧0≤y∧(0 < n→y < n)∧(n≤0→y=0)∧j4A z∧z.b=o.b:=by
 unfold q3H
 by_cases hn:n≤0
 ·rw [if_pos hn]; exact⟨0,o,rfl,Int.le_refl _,fun h=>absurd h (by omega),fun _=>rfl,h,rfl⟩
 ·rw [if_neg hn]
  by_cases h2:n≤256
  ·obtain⟨y,z,h3,h4,h5,h6,h7⟩:=z6Z h
   rw [if_pos h2,h3,Option.bind_some]
   dsimp only
   rw [q3G (by omega)]
   have:=k1t h4 (show 0 < n by omega)
   exact⟨_,_,rfl,this.1,fun _=>this.2,fun h=>absurd h hn,⟨h6.1,h.2⟩,rfl⟩
  ·obtain⟨y1,z1,a1,a2,a3,a4,a5⟩:=z6Z h
   obtain⟨y2,z2,b1,b2,b3,b4,b5⟩:=z6Z (o:=⟨o.b,z1.i,z1.h⟩) ⟨a4.1,h.2⟩
   obtain⟨y3,z3,c1,c2,c3,c4,c5⟩:=z6Z (o:=⟨o.b,z2.i,z2.h⟩) ⟨b4.1,h.2⟩
   obtain⟨y4,z4,d1,d2,d3,d4,d5⟩:=z6Z (o:=⟨o.b,z3.i,z3.h⟩) ⟨c4.1,h.2⟩
   rw [if_neg h2,a1,Option.bind_some]
   dsimp only
   rw [b1,Option.bind_some]
   dsimp only
   rw [c1,Option.bind_some]
   dsimp only
   rw [d1,Option.bind_some]
   dsimp only
   rw [q3G (by constructor<;>omega),q3G (by constructor<;>omega),q3G (by constructor<;>omega),q3G (by constructor<;>omega),q3G (by constructor<;>omega),q3G (by constructor<;>omega),q3G (by omega)]
   have:=k1t (y:=y1*16777216+y2*65536+y3*256+y4) (by omega) (show 0 < n by omega)
   exact⟨_,_,rfl,this.1,fun _=>this.2,fun h=>absurd h hn,⟨d4.1,h.2⟩,rfl⟩
theorem j6e {o:l1Cur}(h:j4A o){l:List Int}(hl:l≠[]):∃ y z,q5q l o=some (y,z)∧y∈l∧j4A z∧z.b=o.b:=by
 have hpos:=List.length_pos_iff.2 hl
 obtain⟨y,z,h1,h2,h3,_,h5,h6⟩:=j3u h (l.length:Int)
 have:=h3 (by omega)
 obtain⟨x,hx⟩:∃ x,l[y.toNat]? = some x:=⟨_,List.getElem?_eq_getElem (by omega)⟩
 unfold q5q
 rw [h1,Option.bind_some]
 dsimp only
 rw [q3G h2,hx,Option.bind_some]
 exact⟨_,_,rfl,List.mem_of_getElem? hx,⟨h5.1,h.2⟩,rfl⟩
end Go.Proofs.YtpnkinhphabkcaaGreat
namespace Go.Proofs.YtpnkinhphabkcaaGreat
open Go Go.E
theorem k1u {ρ:Type}{g:Nat→Option ρ}(hm:∀ n r,g n=some r→g (n+1)=some r){n:Nat}{r:ρ}(h:g n=some r):recO g=some r:=by
 have up:∀ (k n:Nat) (r:ρ),g n=some r→g (n+k)=some r:=by
  intro k
  induction k with
  | zero=>intro n r h; exact h
  | succ k ih=>intro n r h; exact hm _ _ (ih n r h)
 refine q9Y n fun m hm=>?_
 have h1:=up (m - n) n r h
 rwa [show n+(m - n)=m by omega] at h1
theorem z9w {α σ:Type}{f g:Nat→α→σ→Option σ}(h:∀ k x s q,f k x s=some q→g k x s=some q):∀ (xs:List α) (i:Nat) (s q:σ),eachL f i xs s=some q→eachL g i xs s=some q
 | [],i,s,q,hq=>hq
 | x :: xs,i,s,q,hq=>by
  simp only [eachL] at hq ⊢
  obtain⟨t,h1,h2⟩:=bd hq
  rw [h _ _ _ _ h1]
  exact z9w h xs _ _ _ h2
theorem j6f (a b:Occurrence):z3Q a b=some (z3x a b):=by
 unfold z3Q z3x
 by_cases h1:a.Pos < b.Pos
 ·simp [h1]
 ·by_cases h2:a.Pos=b.Pos
  ·simp [h2]
  ·simp [h1,h2]
abbrev z7a (l:List Occurrence):Prop:=l.Pairwise fun a b=>z3x a b=true
theorem k3w {l:List Occurrence}{o:Occurrence}(hl:l.length≤4398046511104):∀ (m j:Nat),j+m=l.length→(∀ a∈l.take j,z3x a o=true) →
  ∃ k:Nat,q4L (z3R l o) (j:Int)=some ((k:Nat):Int)∧k≤l.length∧(∀ a∈l.take k,z3x a o=true)∧∀ y,l[k]? = some y→z3x y o=false:=by
 intro m
 induction m with
 | zero=>
  intro j hj ha
  refine⟨j,q3I ?_,by omega,ha,fun y hy=>?_⟩
  ·unfold z3R; rw [if_neg (by omega)]
  ·rw [List.getElem?_eq_none (by omega)] at hy; cases hy
 | succ m ih=>
  intro j hj ha
  obtain⟨x,hx⟩:∃ x,l[j]? = some x:=⟨_,List.getElem?_eq_getElem (by omega)⟩
  cases hb:z3x x o with
  | false=>
   refine⟨j,q3I ?_,by omega,ha,fun y hy=>?_⟩
   ·unfold z3R
    rw [if_pos (by omega),q3G (by omega)]
    simp only [Int.toNat_natCast]
    rw [hx,Option.bind_some,j6f,Option.bind_some,if_neg (by rw [hb]; simp)]
   ·rw [hx] at hy; cases hy; exact hb
  | true=>
   have e:z3R l o (j:Int)=some (.inl ((j+1:Nat):Int)):=by
    unfold z3R
    rw [if_pos (by omega),q3G (by omega)]
    simp only [Int.toNat_natCast]
    rw [hx,Option.bind_some,j6f,Option.bind_some,if_pos hb,q3G (by constructor<;>omega)]; rfl
   rw [q3W e]
   refine ih (j+1) (by omega) fun a h=>?_
   rw [List.take_add_one,hx] at h
   rcases List.mem_append.1 h with h | h
   ·exact ha a h
   ·simp at h; rw [h]; exact hb
theorem k1v {l:List Occurrence}{o:Occurrence}(hl:l.length < 4398046511104)(hs:z7a l):∃ q,z8F l o=some q∧z7a q∧(∀ a,a∈q↔a=o∨a∈l)∧q.length≤l.length+1:=by
 obtain⟨k,h1,h2,h3,h4⟩:=k3w (l:=l) (o:=o) (by omega) l.length 0 (by omega) (by simp)
 have h1' : q4L (z3R l o) 0=some ((k:Nat):Int):=h1
 have hput:∀ (hne:∀ y,l[k]? = some y→y≠o),z7a (l.take k++[o]++l.drop k)∧(∀ a,a∈l.take k++[o]++l.drop k↔a=o∨a∈l)∧(l.take k++[o]++l.drop k).length≤l.length+1:=fun hne=>by
  refine⟨?_,fun a=>?_,by simp; omega⟩
  ·have:=j9S (lt:=z3x) lessO_swo.trans z7J (k:=k) hs h3 fun y hy=>⟨h4 y hy,hne y hy⟩
   simpa using this
  ·have:a∈l↔a∈l.take k∨a∈l.drop k:=by rw [← List.mem_append,List.take_append_drop]
   rw [this]
   simp only [List.mem_append,List.mem_singleton]
   constructor
   ·rintro ((h | h) | h)<;>simp [h]
   ·rintro (h | h | h)<;>simp [h]
 unfold z8F
 rw [h1',Option.bind_some]
 by_cases hk:k < l.length
 ·obtain⟨x,hx⟩:∃ x,l[k]? = some x:=⟨_,List.getElem?_eq_getElem hk⟩
  rw [if_pos (by omega),q3G (by omega)]
  simp only [Int.toNat_natCast]
  rw [hx,Option.bind_some]
  by_cases hxo:x=o
  ·rw [if_pos hxo]
   refine⟨l,rfl,hs,fun a=>?_,by omega⟩
   have:=List.mem_of_getElem? hx
   constructor
   ·exact .inr
   ·rintro (h | h)
    ·rw [h,← hxo]; exact this
    ·exact h
  ·rw [if_neg hxo,q3G (by omega),q3G (by omega),q3G (by simp; omega),q3G (by simp; omega),q3G (by omega),q3G (by omega),q3G (by simp; omega)]
   exact⟨_,rfl,hput fun y hy=>by rw [hx] at hy; cases hy; exact hxo⟩
 ·rw [if_neg (by omega)]
  simp only [Int.toNat_natCast]
  rw [q3G (by omega),q3G (by omega),q3G (by simp; omega),q3G (by simp; omega),q3G (by omega),q3G (by omega),q3G (by simp; omega)]
  exact⟨_,rfl,hput fun y hy=>by rw [List.getElem?_eq_none (by omega)] at hy; cases hy⟩
theorem k5B:∀ (n:Nat) (e:Expr) (l q:List Occurrence),q8f n e l=some q→q8f (n+1) e l=some q:=by
 intro n
 induction n with
 | zero=>intro e l q h; cases h
 | succ n ih=>
  intro e l q h
  have h' : z2I (q8f n) e l=some q:=h
  show z2I (q8f (n+1)) e l=some q
  have m1:∀ (xs:List Expr) (i:Nat) (s q:List Occurrence),eachL (z3q (q8f n)) i xs s=some q→eachL (z3q (q8f (n+1))) i xs s=some q:=z9w fun k x s q hq=>by
   unfold z3q at hq ⊢
   obtain⟨y,h3,h4⟩:=bd hq
   rw [ih _ _ _ h3]; exact h4
  unfold z2I at h' ⊢
  by_cases hk:e.Kind=3
  ·rw [if_pos hk] at h' ⊢
   obtain⟨y,h1,h2⟩:=bd h'
   obtain⟨s,h3,h4⟩:=bd h2
   rw [h1,Option.bind_some,m1 _ _ _ _ h3]; exact h4
  ·rw [if_neg hk] at h' ⊢
   obtain⟨s,h3,h4⟩:=bd h'
   have m2:eachL (z9q (q8f (n+1))) 0 e.Args l=some s:=m1 _ _ _ _ h3
   rw [m2]; exact h4
theorem j9Y:∀ (m:Nat) (e:Expr) (l:List Occurrence),fuE e≤m→z7a l→l.length+(z5P e).length≤1099511627776 →
  ∃ q,q8f m e l=some q∧z7a q∧(∀ a,a∈q↔a∈l∨a∈z5P e)∧q.length≤l.length+(z5P e).length:=by
 intro m
 induction m with
 | zero=>intro e l h; rw [z9W] at h; omega
 | succ m ih=>
  intro e l h hs hb
  rw [z9W] at h
  rw [z5Q,List.length_append] at hb
  have hl:∀ (xs:List Expr) (i:Nat) (s:List Occurrence),fuEs xs≤m→z7a s→s.length+(z1B xs).length≤1099511627776 →
    ∃ q,eachL (z3q (q8f m)) i xs s=some q∧z7a q∧(∀ a,a∈q↔a∈s∨a∈z1B xs)∧q.length≤s.length+(z1B xs).length:=by
   intro xs
   induction xs with
   | nil=>intro i s _ hs _; exact⟨s,rfl,hs,by simp [z1B],by omega⟩
   | cons x xs ihl=>
    intro i s hf hs hb
    simp only [fuEs] at hf
    simp only [z1B,List.length_append] at hb
    obtain⟨q,h1,h2,h3,h4⟩:=ih x s (by omega) hs (by omega)
    obtain⟨q2,k1,k2,k3,k4⟩:=ihl (i+1) q (by omega) h2 (by omega)
    refine⟨q2,?_,k2,fun a=>?_,by simp only [z1B,List.length_append]; omega⟩
    ·simp only [eachL,z3q,h1,Option.bind_some]; exact k1
    ·rw [k3,h3,z1B,List.mem_append,or_assoc]
  show ∃ q,z2I (q8f m) e l=some q∧_
  unfold z2I
  by_cases hk:e.Kind=3
  ·rw [if_pos hk] at hb ⊢
   simp only [List.length_cons,List.length_nil] at hb
   obtain⟨y,h1,h2,h3,h4⟩:=k1v (l:=l) (o:=⟨e.Pos,e.Name⟩) (by omega) hs
   obtain⟨q,k1,k2,k3,k4⟩:=hl e.Args 0 y (by omega) h2 (by omega)
   refine⟨q,?_,k2,fun a=>?_,?_⟩
   ·rw [h1,Option.bind_some,k1]; rfl
   ·rw [k3,h3,z5Q,if_pos hk,List.mem_append,List.mem_singleton]
    constructor
    ·rintro ((h | h) | h)<;>simp [h]
    ·rintro (h | h | h)<;>simp [h]
   ·rw [z5Q,if_pos hk]; simp; omega
  ·rw [if_neg hk] at hb ⊢
   simp only [List.length_nil] at hb
   obtain⟨q,k1,k2,k3,k4⟩:=hl e.Args 0 l (by omega) hs (by omega)
   have k1' : eachL (z9q (q8f m)) 0 e.Args l=some q:=k1
   refine⟨q,?_,k2,fun a=>?_,?_⟩
   ·rw [k1']; rfl
   ·rw [k3,z5Q,if_neg hk]; simp
   ·rw [z5Q,if_neg hk]; simpa using k4
theorem j6g (e:Expr):z7a (attrs e):=by
 refine z6X lessO_swo.trans z7J ?_
 have h:=List.pairwise_mergeSort (le:=fun x y=>!z3x y x) (fun a b c h1 h2=>by
  simp only [Bool.not_eq_true'] at h1 h2 ⊢
  exact lessO_swo.ntrans _ _ _ h2 h1) (fun a b=>by
  cases h:z3x a b with
  | false=>simp [h]
  | true=>
   cases h2:z3x b a with
   | false=>simp
   | true=>have:=lessO_swo.trans _ _ _ h h2; rw [lessO_swo.irrefl] at this; cases this) (z5P e)
 unfold j5D
 exact h.imp fun {a b} h=>by simpa using h
theorem j8G {e:Expr}(h:Sz.szd e≤1048576):q7i e=some (attrs e):=by
 have hl:=k1f h
 obtain⟨q,h1,h2,h3,h4⟩:=j9Y _ e [] (Nat.le_refl _) List.Pairwise.nil (by simp; omega)
 have hq:q=attrs e:=j3q (lt:=z3x) lessO_swo.irrefl lessO_swo.trans h2 (j6g e) fun a=>by rw [h3,k1g]; simp
 subst hq
 have hr:j1I e []=some (attrs e):=k1u (fun n q=>k5B n e [] q) h1
 unfold q7i
 rw [hr]; rfl
end Go.Proofs.YtpnkinhphabkcaaGreat
namespace Go.Proofs.YtpnkinhphabkcaaGreat
open Go Go.E
def Ok {ρ:Type}(Q:ρ→Prop)(o:Option ρ):Prop:=∃ r,o=some r∧Q r
section
variable {ρ τ σ α:Type}{Q:ρ→Prop}{R:τ→Prop}
theorem Ok.ret {r:ρ}(h:Q r):Ok Q (some r):=⟨r,rfl,h⟩
theorem Ok.bind {o:Option ρ}{f:ρ→Option τ}(h:Ok Q o)(hf:∀ r,Q r→Ok R (f r)):Ok R (o.bind f):=by
 obtain⟨r,rfl,hr⟩:=h; exact hf r hr
theorem Ok.grd {c:Prop}[Decidable c]{k:Option τ}(hc:c)(h:Ok R k):Ok R (Go.E.grd c k):=by rw [q3G hc]; exact h
theorem Ok.ite {c:Prop}[Decidable c]{a b:Option τ}(h1:c→Ok R a)(h2:¬ c→Ok R b):Ok R (if c then a else b):=by
 by_cases hc:c
 ·rw [if_pos hc]; exact h1 hc
 ·rw [if_neg hc]; exact h2 hc
theorem Ok.mono {Q' : ρ→Prop}{o:Option ρ}(h:Ok Q o)(hq:∀ r,Q r→Q' r):Ok Q' o:=by
 obtain⟨r,rfl,hr⟩:=h; exact⟨r,rfl,hq r hr⟩
theorem j4B {P:Nat→σ→Prop}{f:Nat→σ→Option σ}:∀ {n i:Nat} {s:σ},P i s→(∀ k s,i≤k→k < i+n→P k s→Ok (P (k+1)) (f k s))→Ok (P (i+n)) (eachN f i n s)
 | 0,i,s,h,_=>⟨s,rfl,h⟩
 | n+1,i,s,h,hf=>by
  rw [eachN]
  refine (hf i s (Nat.le_refl _) (by omega) h).bind fun r hr=>?_
  have:=j4B (n:=n) hr fun k s h1 h2=>hf k s (by omega) (by omega)
  rwa [show i+1+n=i+(n+1) by omega] at this
theorem z8P {P:Nat→σ→Prop}{f:Nat→α→σ→Option σ}:∀ {xs:List α} {i:Nat} {s:σ},P i s→(∀ k x s,x∈xs→i≤k→k < i+xs.length→P k s→Ok (P (k+1)) (f k x s))→Ok (P (i+xs.length)) (eachL f i xs s)
 | [],i,s,h,_=>⟨s,rfl,h⟩
 | x :: xs,i,s,h,hf=>by
  rw [eachL]
  refine (hf i x s (by simp) (Nat.le_refl _) (by simp) h).bind fun r hr=>?_
  have:=z8P (xs:=xs) hr fun k y s hy h1 h2=>hf k y s (by simp [hy]) (by omega) (by simp; omega)
  rwa [show i+1+xs.length=i+(x :: xs).length by simp; omega] at this
theorem k1w {g:Nat→Option ρ}{N:Nat}(h:∀ n,N≤n→g (n+1)=g n)(h2:Ok Q (g N)):Ok Q (recO g):=by
 obtain⟨r,h3,h4⟩:=h2
 have:∀ k,g (N+k)=some r:=by
  intro k
  induction k with
  | zero=>exact h3
  | succ k ih=>rw [← Nat.add_assoc,h _ (by omega),ih]
 exact⟨r,q9Y N fun n hn=>by have:=this (n - N); rwa [show N+(n - N)=n by omega] at this,h4⟩
end
def CB (b:List UInt8)(z:l1Cur):Prop:=0≤z.i∧z.b=b
theorem CB.mk' {b:List UInt8}{o z:l1Cur}(h:CB b o)(hz:CB b z):CB b ⟨o.b,z.i,z.h⟩:=⟨hz.1,h.2⟩
def Dr {α:Type}(b:List UInt8)(P:α→Prop)(o:Option (α × l1Cur)):Prop:=Ok (fun r=>P r.1∧CB b r.2) o
theorem Dr.of {α:Type}{b:List UInt8}{P:α→Prop}{o:Option (α × l1Cur)}(hb:b.length≤1048576)(h:∃ y z,o=some (y,z)∧P y∧j4A z∧z.b=b):Dr b P o:=by
 obtain⟨y,z,e,h1,h2,h3⟩:=h
 exact⟨(y,z),e,h1,h2.1,h3⟩
theorem CB.ok {b:List UInt8}{z:l1Cur}(hb:b.length≤1048576)(h:CB b z):j4A z:=⟨h.1,by rw [h.2]; exact hb⟩
section
variable {b:List UInt8}{o:l1Cur}(hb:b.length≤1048576)
include hb
theorem k6B:Ok (fun z=>CB b z) (z7l b):=by
 obtain⟨o,h1,h2,h3⟩:=k3v hb
 exact⟨o,h1,h2.1,h3⟩
theorem q4K (n:Int)(h:CB b o):Dr b (fun y=>0≤y∧(0 < n→y < n)∧(n≤0→y=0)) (q3H n o):=by
 obtain⟨y,z,h1,h2,h3,h4,h5,h6⟩:=j3u (h.ok hb) n
 exact⟨(y,z),h1,⟨h2,h3,h4⟩,h5.1,h6.trans h.2⟩
theorem z0f (n:Int)(h:CB b o):Dr b (fun _=>True) (q5a n o):=by
 unfold q5a
 refine (q4K hb n h).bind ?_
 rintro⟨y,z⟩ ⟨_,hz⟩
 exact .ret ⟨trivial,h.mk' hz⟩
theorem z3V {l:List ByteArray}(hl:l≠[])(h:CB b o):Dr b (fun y=>y∈l) (q7F l o):=by
 have hpos:=List.length_pos_iff.2 hl
 unfold q7F
 refine (q4K hb _ h).bind ?_
 rintro⟨y,z⟩ ⟨⟨h1,h2,_⟩,hz⟩
 dsimp only at h1 h2 hz ⊢
 have:=h2 (by omega)
 obtain⟨x,hx⟩:∃ x,l[y.toNat]? = some x:=⟨_,List.getElem?_eq_getElem (by omega)⟩
 rw [hx]
 exact .grd h1 (.ret ⟨List.mem_of_getElem? hx,h.mk' hz⟩)
theorem z0Q {l:List Int}(hl:l≠[])(h:CB b o):Dr b (fun y=>y∈l) (q5q l o):=by
 obtain⟨y,z,h1,h2,h3,h4⟩:=j6e (h.ok hb) hl
 exact⟨(y,z),h1,h2,h3.1,h4.trans h.2⟩
theorem j7C (h:CB b o):Dr b (fun y=>y.size=1) (z0Y o):=by
 unfold z0Y
 refine (z3V hb (by simp) h).bind ?_
 rintro⟨y,z⟩ ⟨h1,hz⟩
 refine .ret ⟨?_,h.mk' hz⟩
 simp only [List.mem_cons,List.not_mem_nil,or_false] at h1
 rcases h1 with h1 | h1 | h1 | h1 | h1 | h1 | h1 | h1<;>rw [h1]<;>rfl
theorem j3v (k n p t:Int)(s m:ByteArray):Sz.szd (⟨k,n,p,t,s,m,[]⟩:Expr)=s.size+m.size:=by rw [q7a]; rfl
theorem k1x (k n p t:Int)(s m:ByteArray)(x y:Expr):Sz.szd (⟨k,n,p,t,s,m,[x,y]⟩:Expr)=s.size+m.size+(1+Sz.szd x+(1+Sz.szd y+0)):=by rw [q7a]; rfl
theorem k4C (k n p t:Int)(s m:ByteArray)(x:Expr):Sz.szd (⟨k,n,p,t,s,m,[x]⟩:Expr)=s.size+m.size+(1+Sz.szd x+0):=by rw [q7a]; rfl
theorem j8H (k n p t:Int)(s m:ByteArray)(x y z:Expr):Sz.szd (⟨k,n,p,t,s,m,[x,y,z]⟩:Expr)=s.size+m.size+(1+Sz.szd x+(1+Sz.szd y+(1+Sz.szd z+0))):=by rw [q7a]; rfl
theorem z3i:(⟨#[]⟩:ByteArray).size=0:=rfl
theorem z9x (k:Int){l:List Occurrence}(hl:∀ q∈l,q.Name.size≤8)(h:CB b o):Dr b (fun e=>Sz.szd e≤8) (q8b k l o):=by
 have bare:∀ {o:l1Cur},CB b o→∀ {R:Option (Expr × l1Cur)},R=(if k=4 then
   (q5a 3 o).bind fun (y10,z7)=>if y10=true then some ((⟨7,0,0,0,(⟨#[]⟩:ByteArray),(⟨#[]⟩:ByteArray),[]⟩:Expr),(⟨o.b,z7.i,z7.h⟩:l1Cur)) else some ((⟨6,0,0,0,(⟨#[]⟩:ByteArray),(⟨#[]⟩:ByteArray),[]⟩:Expr),(⟨o.b,z7.i,z7.h⟩:l1Cur))
  else if k=3 then (q3H 2 o).bind fun (y11,z8)=>(q7Y y11 k).bind fun y12=>some (y12,(⟨o.b,z8.i,z8.h⟩:l1Cur))
  else if k=2 then (q3H 12 o).bind fun (y13,z9)=>grd (0≤y13) <| grd (0≤y13∧y13 < 63) <| (q7Y ((2 ^ y13.toNat:Nat):Int) k).bind fun y14=>some (y14,(⟨o.b,z9.i,z9.h⟩:l1Cur))
  else (q3H 9 o).bind fun (y15,z10)=>(q7Y y15 1).bind fun y16=>some (y16,(⟨o.b,z10.i,z10.h⟩:l1Cur)))→Dr b (fun e=>Sz.szd e≤8) R:=by
  rintro o h R rfl
  refine .ite (fun _=>?_) fun _=>.ite (fun _=>?_) fun _=>.ite (fun _=>?_) fun _=>?_
  ·refine (z0f hb 3 h).bind ?_
   rintro⟨y,z⟩ ⟨_,hz⟩
   refine .ite (fun _=>.ret ⟨?_,h.mk' hz⟩) fun _=>.ret ⟨?_,h.mk' hz⟩
   ·exact Nat.zero_le _
   ·exact Nat.zero_le _
  ·refine (q4K hb 2 h).bind ?_
   rintro⟨y,z⟩ ⟨_,hz⟩
   refine .ret ⟨?_,h.mk' hz⟩
   exact Nat.zero_le _
  ·refine (q4K hb 12 h).bind ?_
   rintro⟨y,z⟩ ⟨⟨h1,h2,_⟩,hz⟩
   have:=h2 (by omega)
   dsimp only at h1 this
   refine .grd h1 (.grd (by omega) (.ret ⟨?_,h.mk' hz⟩))
   exact Nat.zero_le _
  ·refine (q4K hb 9 h).bind ?_
   rintro⟨y,z⟩ ⟨_,hz⟩
   refine .ret ⟨?_,h.mk' hz⟩
   exact Nat.zero_le _
 unfold q8b
 refine .ite (fun hl0=>?_) fun _=>bare h rfl
 refine (z0f hb 4 h).bind ?_
 rintro⟨y,z⟩ ⟨_,hz⟩
 have h':=h.mk' hz
 refine .ite (fun _=>?_) fun _=>?_
 ·exact bare h' rfl
 ·refine (q4K hb _ h').bind ?_
  rintro⟨y,z⟩ ⟨⟨h1,h2,_⟩,hz⟩
  have:=h2 (by omega)
  dsimp only at h1 this
  obtain⟨x,hx⟩:∃ x,l[y.toNat]? = some x:=⟨_,List.getElem?_eq_getElem (by omega)⟩
  dsimp only
  rw [hx]
  refine .grd h1 (.ret ⟨?_,h.mk' hz⟩)
  dsimp only
  rw [j3v hb,z3i hb]
  have:=hl x (List.mem_of_getElem? hx)
  omega
def fb (d:Nat):Nat:=20*4 ^ d
theorem j3w (d:Nat):20≤fb d:=by
 have:1≤4 ^ d:=Nat.one_le_pow _ _ (by omega)
 unfold fb; omega
theorem k1y (d:Nat):fb (d+1)=4*fb d:=by unfold fb; rw [Nat.pow_succ]; omega
theorem z8a (h:CB b o){R:Option (Expr × l1Cur)}(hR:R=(
 (q5a 5 o).bind fun (y1,z1)=>
 if y1=true then (
 some ((⟨2,0,0,0,(⟨#[]⟩:ByteArray),(⟨#[]⟩:ByteArray),[]⟩:Expr),(⟨o.b,z1.i,z1.h⟩:l1Cur))
 ) else (
 (q5a 6 (⟨o.b,z1.i,z1.h⟩:l1Cur)).bind fun (y2,z2)=>
 if y2=true then (
 (q3H 4 (⟨o.b,z2.i,z2.h⟩:l1Cur)).bind fun (y3,z3)=>
 some ((⟨6,0,y3,0,(⟨#[]⟩:ByteArray),(⟨#[]⟩:ByteArray),[]⟩:Expr),(⟨o.b,z3.i,z3.h⟩:l1Cur))
 ) else (
 (q3H 4 (⟨o.b,z2.i,z2.h⟩:l1Cur)).bind fun (y4,z4)=>
 grd (I64 (1+y4)) <|
 (q3H 4 (⟨o.b,z4.i,z4.h⟩:l1Cur)).bind fun (y5,z5)=>
 (z0Y (⟨o.b,z5.i,z5.h⟩:l1Cur)).bind fun (y6,z6)=>
 (q8b (1+y4) [(⟨y5,y6⟩:Occurrence)] (⟨o.b,z6.i,z6.h⟩:l1Cur)).bind fun (y7,z7)=>
 some (y7,(⟨o.b,z7.i,z7.h⟩:l1Cur))
 )
 ))):Dr b (fun e=>Sz.szd e≤20) R:=by
 subst hR
 refine (z0f hb 5 h).bind ?_
 rintro⟨y1,z1⟩ ⟨_,h1⟩
 refine .ite (fun _=>.ret ⟨?_,h.mk' h1⟩) fun _=>?_
 ·exact Nat.zero_le _
 refine (z0f hb 6 (h.mk' h1)).bind ?_
 rintro⟨y2,z2⟩ ⟨_,h2⟩
 refine .ite (fun _=>?_) fun _=>?_
 ·refine (q4K hb 4 (h.mk' h2)).bind ?_
  rintro⟨y3,z3⟩ ⟨_,h3⟩
  refine .ret ⟨?_,h.mk' h3⟩
  exact Nat.zero_le _
 ·refine (q4K hb 4 (h.mk' h2)).bind ?_
  rintro⟨y4,z4⟩ ⟨⟨a1,a2,_⟩,h4⟩
  have:=a2 (by omega)
  dsimp only at a1 this
  refine .grd (by constructor<;>omega) ?_
  refine (q4K hb 4 (h.mk' h4)).bind ?_
  rintro⟨y5,z5⟩ ⟨_,h5⟩
  refine (j7C hb (h.mk' h5)).bind ?_
  rintro⟨y6,z6⟩ ⟨hn,h6⟩
  refine (z9x hb _ (by simpa using (show y6.size≤8 by dsimp only at hn; omega)) (h.mk' h6)).bind ?_
  rintro⟨y7,z7⟩ ⟨hs,h7⟩
  exact .ret ⟨by have hs' : Sz.szd y7≤8:=hs; show Sz.szd y7≤20; omega,h.mk' h7⟩
theorem k5C:∀ (d:Nat) (m:Nat),d < m→∀ (a:Int) (o:l1Cur),a≤d+1→q7l (m+1) a o=q7l m a o:=by
 intro d
 induction d with
 | zero=>
  intro m hm a o ha
  obtain⟨m,rfl⟩:∃ q,m=q+1:=⟨m - 1,by omega⟩
  show q8t (q7l (m+1)) a o=q8t (q7l m) a o
  unfold q8t
  rw [if_pos (by omega),if_pos (by omega)]
 | succ d ih=>
  intro m hm a o ha
  obtain⟨m,rfl⟩:∃ q,m=q+1:=⟨m - 1,by omega⟩
  have e:q7l (m+1) (a - 1)=q7l m (a - 1):=funext fun o=>ih m (by omega) (a - 1) o (by omega)
  show q8t (q7l (m+1)) a o=q8t (q7l m) a o
  unfold q8t
  rw [e]
theorem k3x:∀ (d:Nat) (m:Nat),d < m→∀ (a:Int) (o:l1Cur),a≤d+1→-1000000≤a→d≤100000→CB b o→Dr b (fun e=>Sz.szd e≤fb d) (q7l m a o):=by
 intro d
 induction d with
 | zero=>
  intro m hm a o ha _ _ h
  obtain⟨m,rfl⟩:∃ q,m=q+1:=⟨m - 1,by omega⟩
  show Dr b _ (q8t (q7l m) a o)
  unfold q8t
  rw [if_pos (by omega)]
  exact (z8a hb h rfl).mono fun r hr=>⟨Nat.le_trans hr.1 (j3w hb 0),hr.2⟩
 | succ d ih=>
  intro m hm a o ha h0 hd h
  obtain⟨m,rfl⟩:∃ q,m=q+1:=⟨m - 1,by omega⟩
  have hf:=j3w hb d
  have hs:=k1y hb d
  show Dr b _ (q8t (q7l m) a o)
  unfold q8t
  by_cases ha2:a < 2
  ·rw [if_pos ha2]; exact (z8a hb h rfl).mono fun r hr=>⟨Nat.le_trans hr.1 (j3w hb _),hr.2⟩
  rw [if_neg ha2]
  have ih' : ∀ {o:l1Cur},CB b o→Dr b (fun e=>Sz.szd e≤fb d) (q7l m (a - 1) o):=fun h=>ih m (by omega) (a - 1) _ (by omega) (by omega) (by omega) h
  have hg:I64 (a - 1):=by constructor<;>omega
  refine (z0f hb 4 h).bind ?_
  rintro⟨y8,z8⟩ ⟨_,h8⟩
  refine .ite (fun _=>(z8a hb (h.mk' h8) rfl).mono fun r hr=>⟨Nat.le_trans hr.1 (j3w hb _),hr.2⟩) fun _=>?_
  refine (q4K hb 5 (h.mk' h8)).bind ?_
  rintro⟨y16,z16⟩ ⟨_,h16⟩
  refine .ite (fun _=>?_) fun _=>.ite (fun _=>?_) fun _=>?_
  ·refine .grd hg ((ih' (h.mk' h16)).bind ?_)
   rintro⟨e1,z1⟩ ⟨s1,h1⟩
   refine .grd hg ((ih' (h.mk' h1)).bind ?_)
   rintro⟨e2,z2⟩ ⟨s2,h2⟩
   refine .grd hg ((ih' (h.mk' h2)).bind ?_)
   rintro⟨e3,z3⟩ ⟨s3,h3⟩
   refine .ret ⟨?_,h.mk' h3⟩
   dsimp only at s1 s2 s3 ⊢
   rw [j8H hb,z3i hb]; omega
  ·refine (z3V hb (by simp) (h.mk' h16)).bind ?_
   rintro⟨y20,z20⟩ ⟨h20,c20⟩
   refine (j7C hb (h.mk' c20)).bind ?_
   rintro⟨y21,z21⟩ ⟨h21,c21⟩
   refine .grd hg ((ih' (h.mk' c21)).bind ?_)
   rintro⟨e1,z1⟩ ⟨s1,h1⟩
   refine .ret ⟨?_,h.mk' h1⟩
   have:y20.size=1:=by
    simp only [List.mem_cons,List.not_mem_nil,or_false] at h20
    rcases h20 with h20 | h20<;>rw [h20]<;>rfl
   dsimp only at s1 h21 ⊢
   rw [k4C hb]; omega
  ·refine (q4K hb 12 (h.mk' h16)).bind ?_
   rintro⟨y23,z23⟩ ⟨⟨a1,a2,_⟩,h23⟩
   have:=a2 (by omega)
   dsimp only at a1 this
   refine .grd (by constructor<;>omega) (.grd hg ((ih' (h.mk' h23)).bind ?_))
   rintro⟨e1,z1⟩ ⟨s1,h1⟩
   refine .grd hg ((ih' (h.mk' h1)).bind ?_)
   rintro⟨e2,z2⟩ ⟨s2,h2⟩
   refine .ret ⟨?_,h.mk' h2⟩
   dsimp only at s1 s2 ⊢
   rw [k1x hb,z3i hb]; omega
theorem k1z (d:Nat){a:Int}(ha:a≤d+1)(h0:-1000000≤a)(hd:d≤100000)(h:CB b o):Dr b (fun e=>Sz.szd e≤fb d) (z8u a o):=
 k1w (g:=fun n=>q7l n a o) (N:=d+1) (fun n hn=>k5C hb d n (by omega) a o ha) (k3x hb d (d+1) (by omega) a o ha h0 hd h)
theorem k1A {e:Expr}{n:Nat}(h:Sz.szd e≤n):cntE e≤n+1:=by
 have h1:=j4w e
 have h2:z1z e=Sz.szd e:=rfl
 omega
theorem k1B (h:CB b o):Dr b (fun e=>Sz.szd e≤20480) (z4M o):=by
 unfold z4M
 refine (q4K hb 5 h).bind ?_
 rintro⟨y1,z1⟩ ⟨⟨a1,a2,_⟩,h1⟩
 have:=a2 (by omega)
 dsimp only at a1 this
 refine .grd (by constructor<;>omega) ?_
 refine (k1z hb 5 (a:=1+y1) (by omega) (by omega) (by omega) (h.mk' h1)).bind ?_
 rintro⟨e,z2⟩ ⟨s2,h2⟩
 have s2' : Sz.szd e≤20480:=s2
 dsimp only
 rw [z8O (by have:=k1A hb s2'; omega)]
 refine Ok.bind (Q:=fun _=>True) (.ret trivial) fun y3 _=>.ite (fun _=>.ret ⟨s2',h.mk' h2⟩) fun _=>.ret ⟨?_,h.mk' h2⟩
 exact Nat.zero_le _
theorem k5D (h:CB b o):Dr b (fun e=>Sz.szd e≤30000) (z6u o):=by
 unfold z6u
 refine (k1B hb h).bind ?_
 rintro⟨e,z1⟩ ⟨s1,h1⟩
 have s1' : Sz.szd e≤20480:=s1
 have s2:=q7a e
 refine (q4K hb 14 (h.mk' h1)).bind ?_
 rintro⟨y2,z2⟩ ⟨_,h2⟩
 dsimp only
 refine .ite (fun _=>?_) fun _=>.ite (fun _=>?_) fun _=>.ite (fun _=>?_) fun _=>.ite (fun _=>?_) fun _=>.ite (fun _=>?_) fun _=>.ite (fun _=>?_) fun _=>?_
 ·refine (q4K hb 11 (h.mk' h2)).bind ?_
  rintro⟨y3,z3⟩ ⟨_,h3⟩
  refine .ret ⟨?_,h.mk' h3⟩
  dsimp only; rw [q7a]; dsimp only; omega
 ·have hl:=q7W e.Args
  refine .grd (by constructor<;>omega) (.ret ⟨?_,h.mk' h2⟩)
  dsimp only; rw [q7a]; dsimp only; rw [z9d]
  have:szL [(⟨7,0,0,0,(⟨#[]⟩:ByteArray),(⟨#[]⟩:ByteArray),[]⟩:Expr)]=1:=rfl
  omega
 ·refine (z0Q hb (by simp) (h.mk' h2)).bind ?_
  rintro⟨y3,z3⟩ ⟨_,h3⟩
  refine .ret ⟨?_,h.mk' h3⟩
  dsimp only; rw [q7a]; dsimp only; omega
 ·refine (z0Q hb (by simp) (h.mk' h2)).bind ?_
  rintro⟨y3,z3⟩ ⟨_,h3⟩
  refine .ret ⟨?_,h.mk' h3⟩
  dsimp only; rw [q7a]; dsimp only; omega
 ·refine (z3V hb (by simp) (h.mk' h2)).bind ?_
  rintro⟨y3,z3⟩ ⟨h30,h3⟩
  have:y3.size≤2:=by
   simp only [List.mem_cons,List.not_mem_nil,or_false] at h30
   rcases h30 with h30 | h30 | h30<;>rw [h30]<;>decide
  refine .ret ⟨?_,h.mk' h3⟩
  dsimp only; rw [q7a]; dsimp only; omega
 ·have hL:Ok (fun q=>Sz.szd (⟨q.2.1,q.2.2.1,q.2.2.2.1,q.2.2.2.2.1,q.2.2.2.2.2.1,q.2.2.2.2.2.2,q.1⟩:Expr)≤20480+5*2) (eachN z9i 0 5 (e.Args,e.Kind,e.N,e.Pos,e.Type_,e.Symbol,e.Name)):=by
   refine (j4B (P:=fun k q=>Sz.szd (⟨q.2.1,q.2.2.1,q.2.2.2.1,q.2.2.2.2.1,q.2.2.2.2.2.1,q.2.2.2.2.2.2,q.1⟩:Expr)≤20480+k*2) (by dsimp only; rw [q7a]; dsimp only; omega) fun k q _ _ hq=>?_).mono fun q hq=>by simpa using hq
   obtain⟨q1,q2,q3,q4,q5,q6,q7⟩:=q
   dsimp only at hq
   refine .ret ?_
   dsimp only
   rw [k1x hb,j3v hb,z3i hb]; omega
  refine hL.bind ?_
  rintro⟨q1,q2,q3,q4,q5,q6,q7⟩ hq
  refine .ret ⟨?_,h.mk' h2⟩
  dsimp only at hq ⊢; omega
 ·exact .ret ⟨by dsimp only; omega,h.mk' h2⟩
end
end Go.Proofs.YtpnkinhphabkcaaGreat
namespace Go.Proofs.YtpnkinhphabkcaaGreat
open Go Go.E
def Valid (r:Relation):Prop:=0≤r.N∧r.N≤16∧(r.Rows.length:Int)=r.N∧∀ x∈r.Rows,0≤x∧x≤((2 ^ r.N.toNat:Nat):Int) - 1
instance (r:Relation):Decidable (Valid r):=by unfold Valid; infer_instance
def z6k (r:Relation)(i:Int):Int:=r.Rows.getD i.toNat 0
def bit (x:Int)(k:Int):Prop:=x.toNat >>> k.toNat &&& 1=1
instance (x k:Int):Decidable (bit x k):=by unfold bit; infer_instance
def inN (r:Relation)(i:Int):Prop:=0≤i∧i≤r.N - 1
instance (r:Relation) (i:Int):Decidable (inN r i):=by unfold inN; infer_instance
def hasP (r:Relation)(i k:Int):Prop:=Valid r∧inN r i∧inN r k∧bit (z6k r i) k
instance (r:Relation) (i k:Int):Decidable (hasP r i k):=by unfold hasP; infer_instance
def j1Y (r:Relation)(i:Int)(x:Int):Relation:=⟨r.N,r.Rows.set i.toNat x⟩
def orI (x y:Int):Int:=((x.toNat ||| y.toNat:Nat):Int)
def addP (r:Relation)(i k:Int):Relation:=if Valid r∧inN r i∧inN r k then j1Y r i (orI (z6k r i) ((2 ^ k.toNat:Nat):Int)) else r
theorem Valid.row {r:Relation}(h:Valid r){i:Int}(hi:inN r i){x:Int}(hx:r.Rows[i.toNat]? = some x):z6k r i=x∧0≤x∧x≤65535:=by
 have hm:=h.2.2.2 x (List.mem_of_getElem? hx)
 have hp:2 ^ r.N.toNat≤2 ^ 16:=Nat.pow_le_pow_right (by decide) (by have:=h.2.1; omega)
 refine⟨by unfold z6k; simp [hx],hm.1,by omega⟩
theorem k6Z {n:Int}(h:n≤16):2 ^ n.toNat≤65536:=by
 have:2 ^ n.toNat≤2 ^ 16:=Nat.pow_le_pow_right (by decide) (by omega)
 simpa using this
theorem j4C (n:Int):1≤2 ^ n.toNat:=Nat.one_le_two_pow
theorem k1C {r:Relation}(h0:0≤r.N)(h1:r.N≤16)(h2:(r.Rows.length:Int)=r.N):decide (Valid r)=!(r.Rows.any fun x=>!decide (0≤x∧x≤((2 ^ r.N.toNat:Nat):Int) - 1)):=by
 by_cases hv:Valid r
 ·rw [decide_eq_true hv,eq_comm,Bool.not_eq_true',List.any_eq_false]
  intro x hx
  simp only [Bool.not_eq_true',decide_eq_false_iff_not,Decidable.not_not]
  exact hv.2.2.2 x hx
 ·rw [decide_eq_false hv,eq_comm,Bool.not_eq_false',List.any_eq_true]
  refine Classical.byContradiction fun hn=>hv ⟨h0,h1,h2,fun x hx=>Classical.byContradiction fun hb=>hn ⟨x,hx,?_⟩⟩
  rw [decide_eq_false hb]; rfl
theorem k4D {x k:Int}(h:(((((x.toNat >>> k.toNat:Nat):Int)).toNat &&& (1:Int).toNat:Nat):Int)=1):x.toNat >>> k.toNat &&& 1=1:=by
 have:(1:Int).toNat=1:=rfl
 rw [Int.toNat_natCast,this] at h
 exact_mod_cast h
theorem k4E {x k:Int}(h:x.toNat >>> k.toNat &&& 1=1):(((((x.toNat >>> k.toNat:Nat):Int)).toNat &&& (1:Int).toNat:Nat):Int)=1:=by
 have:(1:Int).toNat=1:=rfl
 rw [Int.toNat_natCast,this]
 exact_mod_cast h
theorem q9U (x lo hi:Int):q5O x lo hi=some (decide (lo≤x∧x≤hi)):=by
 unfold q5O; split<;>simp_all<;>omega
theorem z5g (x lo hi:Int):q4d x lo hi=some (decide (lo≤x∧x≤hi)):=by
 unfold q4d; split<;>simp_all<;>omega
theorem q6v (r:Relation):q4k r=some (decide (Valid r)):=by
 unfold q4k
 simp only [q9U,Option.bind_some,decide_eq_true_eq]
 by_cases h1:0≤r.N∧r.N≤16
 ·rw [if_pos h1]
  by_cases h2:(r.Rows.length:Int)=r.N
  ·rw [if_pos h2]
   have key:=z8I (c:=false) (n:=r.N.toNat) (i:=0) (p:=fun k=>∃ x,r.Rows[k]? = some x∧¬ (0≤x∧x≤((2 ^ r.N.toNat:Nat):Int) - 1)) (f:=z0H r) fun k hk=>by
    have hk' : k < r.Rows.length:=by omega
    obtain⟨x,hx⟩:∃ x,r.Rows[k]? = some x:=⟨_,List.getElem?_eq_getElem hk'⟩
    simp only [Nat.zero_add]
    unfold z0H
    rw [hx,Option.bind_some,q3G h1.1,q3G (by omega),q9U,Option.bind_some]
    simp only [decide_eq_true_eq]
    refine⟨fun ⟨y,hy,hn⟩=>?_,fun hn=>?_⟩
    ·cases hy; rw [if_neg hn]
    ·by_cases hb:0≤x∧x≤((2 ^ r.N.toNat:Nat):Int) - 1
     ·rw [if_pos hb]
     ·exact absurd ⟨x,rfl,hb⟩ hn
   simp only [Nat.zero_add] at key
   by_cases hv:Valid r
   ·rw [key.2 fun k hk ⟨x,hx,hn⟩=>hn (hv.2.2.2 x (List.mem_of_getElem? hx))]
    simp [hv]
   ·rw [key.1 (Classical.byContradiction fun hn=>hv ⟨h1.1,h1.2,h2,fun x hx=>?_⟩)]
    ·simp [hv]
    ·obtain⟨k,hk⟩:=List.getElem?_of_mem hx
     have hk':=k6P hk
     exact Classical.byContradiction fun hb=>hn ⟨k,by omega,x,hk,hb⟩
  ·rw [if_neg h2,decide_eq_false fun hv=>h2 hv.2.2.1]
 ·rw [if_neg h1,decide_eq_false fun hv=>h1 ⟨hv.1,hv.2.1⟩]
theorem z0K (r:Relation):q4Q r=some (decide (Valid r)):=by
 unfold q4Q
 simp only [z5g,Option.bind_some,decide_eq_true_eq]
 by_cases h1:0≤r.N∧r.N≤16
 ·rw [if_pos h1]
  simp only [Option.bind_some,Bool.false_eq_true,if_true,if_false,decide_eq_true_eq]
  by_cases h2:(r.Rows.length:Int)=r.N
  ·rw [if_pos h2]
   have h3:∀ x,q7s x r=some (!decide (0≤x∧x≤((2 ^ r.N.toNat:Nat):Int) - 1)):=fun x=>by
    unfold q7s
    rw [q3G h1.1,q3G (by omega),z5g]; rfl
   have h4:∀ (xs:List Int) (i:Nat),∃ z,findL (q5k r) i xs ()=some z∧((xs.any fun x=>!decide (0≤x∧x≤((2 ^ r.N.toNat:Nat):Int) - 1))=true→∃ k:Nat,z = .inr (k:Int))∧((xs.any fun x=>!decide (0≤x∧x≤((2 ^ r.N.toNat:Nat):Int) - 1))=false→z = .inl ()):=by
    intro xs
    induction xs with
    | nil=>intro i; exact⟨_,rfl,by simp,by simp⟩
    | cons x xs ih=>
     intro i
     simp only [findL,q5k,h3,Option.bind_some,List.any_cons]
     by_cases hb:0≤x∧x≤((2 ^ r.N.toNat:Nat):Int) - 1
     ·simp only [hb,and_self,decide_true,Bool.not_true,Bool.false_eq_true,if_false,Option.bind_some,Bool.false_or]
      exact ih (i+1)
     ·simp only [hb,decide_false,Bool.not_false,if_true,Option.bind_some,Bool.true_or]
      exact⟨_,rfl,fun _=>⟨i,rfl⟩,by simp⟩
   unfold q4p q4A
   obtain⟨z,hz,hz1,hz2⟩:=h4 r.Rows 0
   rw [hz,k1C h1.1 h1.2 h2]
   cases ha:(r.Rows.any fun x=>!decide (0≤x∧x≤((2 ^ r.N.toNat:Nat):Int) - 1)) with
   | true=>obtain⟨k,rfl⟩:=hz1 ha; simp
   | false=>rw [hz2 ha]; simp
  ·rw [if_neg h2,decide_eq_false fun hv=>h2 hv.2.2.1]; simp only [Option.bind_some,Bool.false_eq_true,if_true,if_false,decide_eq_true_eq]
 ·rw [if_neg h1,decide_eq_false fun hv=>h1 ⟨hv.1,hv.2.1⟩]; simp only [Option.bind_some,Bool.false_eq_true,if_true,if_false,decide_eq_true_eq]
theorem q7Q (r:Relation)(i k:Int):q7B r i k=some (decide (hasP r i k)):=by
 unfold q7B
 simp only [q6v,q9U,Option.bind_some,decide_eq_true_eq]
 by_cases hv:Valid r
 ·have hv1:=hv.1; have hv2:=hv.2.1; have hv3:=hv.2.2.1
  rw [if_pos hv,q3G (by constructor<;>omega)]; simp only [Option.bind_some,Bool.false_eq_true,if_true,if_false,decide_eq_true_eq]
  by_cases hi:0≤i∧i≤r.N - 1
  ·rw [if_pos hi,q3G (by constructor<;>omega)]; simp only [Option.bind_some,Bool.false_eq_true,if_true,if_false,decide_eq_true_eq]
   by_cases hk:0≤k∧k≤r.N - 1
   ·obtain⟨x,hx⟩:∃ x,r.Rows[i.toNat]? = some x:=⟨_,List.getElem?_eq_getElem (by omega)⟩
    have hrow:=hv.row (i:=i) hi hx
    rw [if_pos hk,q3G hi.1,hx,Option.bind_some,q3G hk.1,q3G ⟨hrow.2.1,hk.1,by omega⟩,q3G ⟨Int.natCast_nonneg _,by decide⟩]
    simp only [Option.bind_some,Bool.false_eq_true,if_true,if_false,decide_eq_true_eq]
    congr 1
    refine decide_eq_decide.2 ⟨fun hb=>⟨hv,hi,hk,?_⟩,fun hb=>?_⟩
    ·unfold bit; rw [hrow.1]; exact k4D hb
    ·have:=hb.2.2.2; unfold bit at this; rw [hrow.1] at this; exact k4E this
   ·rw [if_neg hk]; simp only [Option.bind_some,Bool.false_eq_true,if_true,if_false,decide_eq_true_eq]; rw [ decide_eq_false fun h=>hk h.2.2.1]
  ·rw [if_neg hi]; simp only [Option.bind_some,Bool.false_eq_true,if_true,if_false,decide_eq_true_eq]; rw [ decide_eq_false fun h=>hi h.2.1]
 ·rw [if_neg hv]; simp only [Option.bind_some,Bool.false_eq_true,if_true,if_false,decide_eq_true_eq]; rw [ decide_eq_false fun h=>hv h.1]
theorem z5S (r:Relation)(i k:Int):q9g r i k=some (decide (hasP r i k)):=by
 rw [← q7Q]
 unfold q9g q7B
 simp only [q6v,z0K,q9U,z5g]
theorem j1Z:q7K=q9i:=by
 funext r; unfold q7K q9i q9r
 by_cases h:((([]:List Int).length:Int)+(r.Rows.length:Int))*8≤140737488355328∧(([]:List Int).length:Int)+(r.Rows.length:Int)≤9223372036854775807
 ·rw [q3G h,q3G h]; rfl
 ·unfold grd; rw [if_neg h,if_neg h]; rfl
theorem j8I:q9g=q7B:=by
 funext r i k; rw [z5S,q7Q]
theorem j0E:z1S=q6Y:=by
 funext r i k; unfold z1S q6Y; simp only [j1Z,q6v,z0K,q9U,z5g]
theorem z5h:q6z=q4l:=by
 funext n; unfold q6z q4l; simp only [q9U,z5g]
theorem z5i {r:Relation}(h:r.Rows.length≤1048576):q9i r=some r:=by
 unfold q9i; rw [q3G (by simp only [List.length_nil]; constructor<;>omega)]
theorem j8J {r:Relation}(h:r.Rows.length≤1048576)(i k:Int):∃ x,q6Y r i k=some x∧x.Rows.length=r.Rows.length:=by
 unfold q6Y
 simp only [z5i h,q6v,q9U,Option.bind_some,decide_eq_true_eq]
 by_cases hv:Valid r
 ·have hv1:=hv.1; have hv2:=hv.2.1; have hv3:=hv.2.2.1
  rw [if_pos hv,q3G (by constructor<;>omega)]; simp only [Option.bind_some,Bool.false_eq_true,if_true,if_false,decide_eq_true_eq]
  by_cases hi:0≤i∧i≤r.N - 1
  ·rw [if_pos hi,q3G (by constructor<;>omega)]; simp only [Option.bind_some,Bool.false_eq_true,if_true,if_false,decide_eq_true_eq]
   by_cases hk:0≤k∧k≤r.N - 1
   ·obtain⟨x,hx⟩:∃ x,r.Rows[i.toNat]? = some x:=⟨_,List.getElem?_eq_getElem (by omega)⟩
    have hrow:=hv.row (i:=i) hi hx
    rw [if_pos hk,q3G hi.1,hx,Option.bind_some,q3G hk.1,q3G ⟨hk.1,by omega⟩,q3G ⟨hrow.2.1,Int.natCast_nonneg _⟩]
    exact⟨_,rfl,by simp⟩
   ·rw [if_neg hk]; exact⟨_,rfl,rfl⟩
  ·rw [if_neg hi]; simp only [Option.bind_some,Bool.false_eq_true,if_true,if_false,decide_eq_true_eq]; exact⟨_,rfl,rfl⟩
 ·rw [if_neg hv]; simp only [Option.bind_some,Bool.false_eq_true,if_true,if_false,decide_eq_true_eq]; exact⟨_,rfl,rfl⟩
theorem j9Z (n:Nat):∃ x,q4l (n:Int)=some x∧x.Rows.length≤16:=by
 unfold q4l; simp only [q9U,Option.bind_some,decide_eq_true_eq]
 by_cases h:0≤(n:Int)∧(n:Int)≤16
 ·rw [if_pos h,q3G (by refine⟨by omega,by omega,by omega⟩)]; exact⟨_,rfl,by simp; omega⟩
 ·rw [if_neg h]; exact⟨_,rfl,by simp⟩
end Go.Proofs.YtpnkinhphabkcaaGreat
namespace Go.Proofs.YtpnkinhphabkcaaGreat
open Go Go.E
theorem j6h {r:Relation}(h:r.Rows.length≤1048576)(i k:Int):q6Y r i k=some (addP r i k):=by
 unfold q6Y
 simp only [z5i h,q6v,q9U,Option.bind_some,decide_eq_true_eq]
 by_cases hv:Valid r
 ·have hv1:=hv.1; have hv2:=hv.2.1; have hv3:=hv.2.2.1
  rw [if_pos hv,q3G (by constructor<;>omega)]; simp only [Option.bind_some,Bool.false_eq_true,if_true,if_false,decide_eq_true_eq]
  by_cases hi:0≤i∧i≤r.N - 1
  ·rw [if_pos hi,q3G (by constructor<;>omega)]; simp only [Option.bind_some,Bool.false_eq_true,if_true,if_false,decide_eq_true_eq]
   by_cases hk:0≤k∧k≤r.N - 1
   ·obtain⟨x,hx⟩:∃ x,r.Rows[i.toNat]? = some x:=⟨_,List.getElem?_eq_getElem (by omega)⟩
    have hrow:=hv.row (i:=i) hi hx
    rw [if_pos hk,q3G hi.1,hx,Option.bind_some,q3G hk.1,q3G ⟨hk.1,by omega⟩,q3G ⟨hrow.2.1,Int.natCast_nonneg _⟩]
    have e:addP r i k=j1Y r i (orI (z6k r i) ((2 ^ k.toNat:Nat):Int)):=if_pos ⟨hv,hi,hk⟩
    rw [e,hrow.1]; rfl
   ·rw [if_neg hk]
    have e:addP r i k=r:=if_neg fun h=>hk h.2.2
    rw [e]
  ·rw [if_neg hi]; simp only [Option.bind_some,Bool.false_eq_true,if_true,if_false,decide_eq_true_eq]
   have e:addP r i k=r:=if_neg fun h=>hi h.2.1
   rw [e]
 ·rw [if_neg hv]; simp only [Option.bind_some,Bool.false_eq_true,if_true,if_false,decide_eq_true_eq]
  have e:addP r i k=r:=if_neg fun h=>hv h.1
  rw [e]
theorem z7t {n:Int}(h0:0≤n)(h1:n≤16):q4l n=some ⟨n,List.replicate n.toNat 0⟩:=by
 unfold q4l
 rw [q9U,Option.bind_some,if_pos (by simp; omega),q3G (by omega)]
theorem z3j (r:Relation)(i k:Int):(addP r i k).Rows.length=r.Rows.length∧(addP r i k).N=r.N:=by
 unfold addP
 split
 ·exact⟨by simp [j1Y],rfl⟩
 ·exact⟨rfl,rfl⟩
theorem j0F (x k:Int):bit x k↔x.toNat.testBit k.toNat=true:=by
 unfold bit
 rw [Nat.testBit_eq_decide_div_mod_eq,Nat.shiftRight_eq_div_pow]
 simp [Nat.and_one_is_mod]
def j4D (k:Nat)(s:List Int):List Int:=s.map fun x=>if x.toNat.testBit k=true then orI x (s.getD k 0) else x
def z6c (s:List Int):Nat→List Int
 | 0=>s
 | m+1=>j4D m (z6c s m)
def z2L (n:Nat)(s:List Int):Prop:=s.length=n∧∀ x∈s,0≤x∧x.toNat < 2 ^ n
theorem j3x (x y:Int):0≤orI x y:=by unfold orI; omega
theorem z8Q (x y:Int):(orI x y).toNat=x.toNat ||| y.toNat:=by unfold orI; omega
theorem k1D {n:Nat}{s:List Int}(h:z2L n s)(k:Nat):0≤s.getD k 0∧(s.getD k 0).toNat < 2 ^ n:=by
 rw [List.getD_eq_getElem?_getD]
 cases hk:s[k]? with
 | none=>simp; exact Nat.two_pow_pos n
 | some x=>exact h.2 x (List.mem_of_getElem? hk)
theorem j8K {n k:Nat}{s:List Int}(h:z2L n s):z2L n (j4D k s):=by
 refine⟨by unfold j4D; rw [List.length_map]; exact h.1,fun x hx=>?_⟩
 unfold j4D at hx
 obtain⟨y,hy,rfl⟩:=List.mem_map.1 hx
 have h1:=h.2 y hy
 split
 ·exact⟨j3x _ _,by rw [z8Q]; exact Nat.or_lt_two_pow h1.2 (k1D h k).2⟩
 ·exact h1
theorem q9F {n:Nat}{s:List Int}(h:z2L n s):∀ m,z2L n (z6c s m)
 | 0=>h
 | m+1=>j8K (q9F h m)
def Rl (s:List Int)(i j:Nat):Prop:=(s.getD i 0).toNat.testBit j=true
theorem j7D {n k:Nat}{s:List Int}(h:z2L n s){i:Nat}(hi:i < n)(j:Nat):Rl (j4D k s) i j↔Rl s i j∨(Rl s i k∧Rl s k j):=by
 unfold Rl
 have hs:∃ x,s[i]? = some x:=⟨_,List.getElem?_eq_getElem (by rw [h.1]; exact hi)⟩
 obtain⟨x,hx⟩:=hs
 have e1:s.getD i 0=x:=by rw [List.getD_eq_getElem?_getD,hx]; rfl
 have e2:(j4D k s).getD i 0=if x.toNat.testBit k=true then orI x (s.getD k 0) else x:=by
  unfold j4D
  rw [List.getD_eq_getElem?_getD,List.getElem?_map,hx]; rfl
 rw [e1,e2]
 by_cases hb:x.toNat.testBit k=true
 ·rw [if_pos hb,z8Q,Nat.testBit_or,Bool.or_eq_true]; simp [hb]
 ·rw [if_neg hb]; simp [hb]
theorem k7a {n:Nat}{s:List Int}(h:z2L n s){i j:Nat}(hR:Rl s i j):j < n:=by
 unfold Rl at hR
 have h1:=(k1D h i).2
 apply Decidable.byContradiction
 intro hj
 have:(s.getD i 0).toNat.testBit j=false:=Nat.testBit_lt_two_pow (Nat.lt_of_lt_of_le h1 (Nat.pow_le_pow_right (by omega) (by omega)))
 rw [this] at hR; cases hR
theorem k1E {n:Nat}{s:List Int}(h:z2L n s){i j:Nat}(hR:Rl s i j):i < n:=by
 unfold Rl at hR
 apply Decidable.byContradiction
 intro hi
 have:s.getD i 0=0:=by rw [List.getD_eq_getElem?_getD,List.getElem?_eq_none (by rw [h.1]; omega)]; rfl
 rw [this] at hR; simp at hR
theorem k1F {n:Nat}{s:List Int}(h:z2L n s):∀ (m i j:Nat),Rl s i j→Rl (z6c s m) i j
 | 0,_,_,hR=>hR
 | m+1,i,j,hR=>by
  have hR':=k1F h m i j hR
  exact (j7D (q9F h m) (k1E (q9F h m) hR') j).2 (.inl hR')
theorem j8L {n k:Nat}{s:List Int}(h:z2L n s)(hk:k < n)(hn:n≤16):eachN (q8C k) 0 n s=some (j4D k s):=by
 have hkk:∃ y,s[k]? = some y:=⟨_,List.getElem?_eq_getElem (by rw [h.1]; exact hk)⟩
 obtain⟨y,hy⟩:=hkk
 have ey:s.getD k 0=y:=by rw [List.getD_eq_getElem?_getD,hy]; rfl
 let f:Int→Int:=fun x=>if x.toNat.testBit k=true then orI x y else x
 have hf:f y=y:=by
  show (if y.toNat.testBit k=true then orI y y else y)=y
  have:=(h.2 y (List.mem_of_getElem? hy)).1
  split
  ·unfold orI; rw [Nat.or_self]; omega
  ·rfl
 obtain⟨s',h1,h2⟩:=j0C (P:=fun m t=>t=(s.take m).map f++s.drop m) (f:=q8C k) (n:=n) (i:=0) (s:=s) (by simp) (fun m t _ hm ht=>by
  subst ht
  have hms:m < s.length:=by rw [h.1]; omega
  obtain⟨x,hx⟩:∃ x,s[m]? = some x:=⟨_,List.getElem?_eq_getElem hms⟩
  have hx0:=h.2 x (List.mem_of_getElem? hx)
  have hy0:=h.2 y (List.mem_of_getElem? hy)
  have g1:((s.take m).map f++s.drop m)[m]? = some x:=by
   rw [List.getElem?_append_right (by simp; omega)]
   simp only [List.length_map,List.length_take]
   rw [show m - min m s.length=0 by omega,List.getElem?_drop,Nat.add_zero,hx]
  have g2:((s.take m).map f++s.drop m)[k]? = some y:=by
   by_cases hkm:k < m
   ·rw [List.getElem?_append_left (by simp; omega),List.getElem?_map,List.getElem?_take,if_pos hkm,hy]
    show some (f y)=_
    rw [hf]
   ·rw [List.getElem?_append_right (by simp; omega)]
    simp only [List.length_map,List.length_take]
    rw [List.getElem?_drop,show m+(k - min m s.length)=k by omega,hy]
  have hset:(((s.take m).map f++s.drop m).set m (f x))=(s.take (m+1)).map f++s.drop (m+1):=by
   rw [List.set_append_right _ _ (by simp; omega)]
   simp only [List.length_map,List.length_take]
   rw [show m - min m s.length=0 by omega,List.take_add_one,hx,List.map_append,List.append_assoc]
   congr 1
   rw [List.drop_eq_getElem_cons hms]; rfl
  have hno:f x=x→((s.take m).map f++s.drop m)=(s.take (m+1)).map f++s.drop (m+1):=fun e=>by
   rw [← hset,e]
   apply List.ext_getElem?
   intro q
   rw [List.getElem?_set]
   by_cases hq:m=q
   ·subst hq
    rw [if_pos rfl,g1]
    split
    ·rfl
    ·rename_i hl; exact absurd (by simp; omega) hl
   ·rw [if_neg hq]
  refine⟨_,?_,rfl⟩
  unfold q8C
  rw [g1,Option.bind_some,q3G (by refine⟨hx0.1,by omega,by omega⟩),q3G ⟨Int.natCast_nonneg _,by decide⟩]
  by_cases hb:bit x (k:Int)
  ·have hb':=(j0F x k).1 hb
   rw [Int.toNat_natCast] at hb'
   rw [if_pos (k4E hb),g2,Option.bind_some,q3G ⟨hx0.1,hy0.1⟩,Option.bind_some,← hset]
   show some (List.set _ m (orI x y))=some (List.set _ m (f x))
   have:f x=orI x y:=if_pos hb'
   rw [this]
  ·have hb' : ¬ x.toNat.testBit k=true:=fun h=>hb ((j0F x k).2 (by rw [Int.toNat_natCast]; exact h))
   rw [if_neg (fun h=>hb (k4D h)),Option.bind_some,← hno (if_neg hb')])
 rw [h1]
 subst h2
 unfold j4D
 rw [Nat.zero_add,List.take_of_length_le (by rw [h.1]; exact Nat.le_refl _),List.drop_eq_nil_of_le (by rw [h.1]; exact Nat.le_refl _),List.append_nil,ey]
theorem z4p {r:Relation}(h:Valid r):z2L r.N.toNat r.Rows∧r.N.toNat≤16:=by
 obtain⟨h0,h1,h2,h3⟩:=h
 have:=j4C r.N
 exact⟨⟨by omega,fun x hx=>⟨(h3 x hx).1,by have:=(h3 x hx).2; omega⟩⟩,by omega⟩
def q5M (r:Relation):Relation:=if Valid r then ⟨r.N,z6c r.Rows r.N.toNat⟩ else r
theorem k5E:z4W=q8C:=rfl
theorem z8R {r:Relation}(h:r.Rows.length≤1048576):q7j r=some (q5M r):=by
 unfold q7j q5M
 rw [z5i h,Option.bind_some,q6v,Option.bind_some]
 by_cases hv:Valid r
 ·rw [if_pos (by simpa using hv),if_pos hv]
  obtain⟨hok,hn⟩:=z4p hv
  obtain⟨t,h1,h2⟩:=j0C (P:=fun m t=>t=z6c r.Rows m) (f:=z1Z r) (n:=r.N.toNat) (i:=0) (s:=r.Rows) rfl (fun k s _ hk hs=>by
   subst hs
   refine⟨_,?_,rfl⟩
   unfold z1Z
   rw [j8L (q9F hok k) (by omega) hn]; rfl)
  rw [h1,Option.bind_some,h2,Nat.zero_add]
 ·rw [if_neg (by simpa using hv),if_neg hv]
theorem z8S {r:Relation}(h:r.Rows.length≤1048576):q7h r=some (q5M r):=by
 unfold q7h q5M
 rw [j1Z,z5i h,Option.bind_some,z0K,Option.bind_some]
 by_cases hv:Valid r
 ·rw [if_pos (by simpa using hv),if_pos hv]
  obtain⟨hok,hn⟩:=z4p hv
  obtain⟨t,h1,h2⟩:=j0C (P:=fun m t=>t=z6c r.Rows m) (f:=z1T) (n:=r.Rows.length) (i:=0) (s:=r.Rows) rfl (fun k s _ hk hs=>by
   subst hs
   refine⟨_,?_,rfl⟩
   unfold z1T
   have hl:=(q9F hok k).1
   rw [hl,k5E,j8L (q9F hok k) (by rw [hok.1] at hk; omega) hn]; rfl)
  rw [h1,Option.bind_some,h2,Nat.zero_add,hok.1]
 ·rw [if_neg (by simpa using hv),if_neg hv]
theorem z5j (r:Relation):(q5M r).Rows.length=r.Rows.length∧(q5M r).N=r.N:=by
 unfold q5M
 by_cases hv:Valid r
 ·rw [if_pos hv]
  obtain⟨hok,_⟩:=z4p hv
  exact⟨by show (z6c r.Rows r.N.toNat).length=_; rw [(q9F hok _).1,hok.1],rfl⟩
 ·rw [if_neg hv]; exact⟨rfl,rfl⟩
theorem z7b {r:Relation}(h:Valid r):Valid (q5M r):=by
 obtain⟨hok,hn⟩:=z4p h
 obtain⟨k1,k2⟩:=q9F hok r.N.toNat
 obtain⟨h0,h1,h2,h3⟩:=h
 unfold q5M
 rw [if_pos ⟨h0,h1,h2,h3⟩]
 refine⟨h0,h1,by show ((z6c r.Rows r.N.toNat).length:Int)=r.N; omega,fun x hx=>?_⟩
 have:=k2 x hx
 have:=j4C r.N
 exact⟨(k2 x hx).1,by show x≤((2 ^ r.N.toNat:Nat):Int) - 1; omega⟩
theorem z3W {r:Relation}(h:Valid r)(i j:Nat):hasP r (i:Int) (j:Int)↔Rl r.Rows i j:=by
 obtain⟨hok,hn⟩:=z4p h
 unfold hasP
 have h0:=h.1
 constructor
 ·rintro⟨_,_,_,hb⟩
  have:=(j0F _ _).1 hb
  simpa [Rl,z6k] using this
 ·intro hR
  have hi:=k1E hok hR
  have hj:=k7a hok hR
  refine⟨h,⟨by omega,by omega⟩,⟨by omega,by omega⟩,(j0F _ _).2 ?_⟩
  simpa [Rl,z6k] using hR
theorem k1G (l:List Int):∀ (f:Nat→Int→Unit→Option (Unit ⊕ Bool)),(∀ k x,f k x ()=(l[k]?).bind fun x2=>if x=x2 then some (.inl ()) else some (.inr false))→findL f 0 l ()=some (.inl ()):=by
 intro f hf
 have key:∀ (m k:Nat),k+m=l.length→findL f k (l.drop k) ()=some (.inl ()):=by
  intro m
  induction m with
  | zero=>intro k hk; rw [List.drop_eq_nil_of_le (by omega)]; rfl
  | succ m ih=>
   intro k hk
   rw [List.drop_eq_getElem_cons (by omega)]
   simp only [findL,hf,List.getElem?_eq_getElem (show k < l.length by omega),Option.bind_some,if_true]
   exact ih (k+1) (by omega)
 have:=key l.length 0 (by omega)
 rwa [List.drop_zero] at this
theorem j2a (r:Relation):q5I r r=some true:=by
 unfold q5I z6R
 rw [if_pos rfl,if_pos rfl,k1G r.Rows _ (fun k x=>rfl)]; rfl
theorem j2b {r:Relation}(h:r.Rows.length≤1048576):z1U r=some (decide (∃ k:Nat,k < r.Rows.length∧hasP (q5M r) (k:Int) (k:Int))):=by
 unfold z1U
 rw [z8S h,Option.bind_some]
 have hl:=(z5j r).1
 have hf:∀ (k:Nat) (x:Int),(hasP (q5M r) (k:Int) (k:Int)→z3O (q5M r) k x ()=some (.inr true))∧(¬ hasP (q5M r) (k:Int) (k:Int)→z3O (q5M r) k x ()=some (.inl ())):=fun k x=>by
  unfold z3O
  rw [z5S,Option.bind_some]
  exact⟨fun hp=>if_pos (by simpa using hp),fun hp=>if_neg (by simpa using hp)⟩
 have hany:=j1R (c:=true) (xs:=(q5M r).Rows) (i:=0) (p:=fun k _=>hasP (q5M r) (k:Int) (k:Int)) (f:=z3O (q5M r)) fun k x _=>by
  rw [Nat.zero_add]; exact hf k x
 by_cases hp:∃ k:Nat,k < r.Rows.length∧hasP (q5M r) (k:Int) (k:Int)
 ·rw [decide_eq_true hp]
  obtain⟨k,hk,hpk⟩:=hp
  rw [hany.1 ⟨k,_,List.getElem?_eq_getElem (by omega),by rw [Nat.zero_add]; exact hpk⟩]; rfl
 ·rw [decide_eq_false hp]
  rw [hany.2 fun k x hx hpk=>hp ⟨k,by rw [← hl]; exact (List.getElem?_eq_some_iff.1 hx).1,by rw [Nat.zero_add] at hpk; exact hpk⟩]; rfl
end Go.Proofs.YtpnkinhphabkcaaGreat
namespace Go.Proofs.YtpnkinhphabkcaaGreat
open Go Go.E
theorem z2f {α ρ:Type}{p:α→Bool}{r:α→ρ}:∀ {xs:List α} {i:Nat} {f:Nat→α→Unit→Option (Unit ⊕ ρ)},(∀ k x,x∈xs→(p x=true→f k x ()=some (.inr (r x)))∧(p x=false→f k x ()=some (.inl ()))) →
  findL f i xs ()=some (match xs.find? p with | some x=>.inr (r x) | none=>.inl ())
 | [],_,_,_=>rfl
 | x :: xs,i,f,h=>by
  have h0:=h i x (by simp)
  cases hp:p x with
  | true=>simp [findL,h0.1 hp,List.find?,hp]
  | false=>
   have ih:=z2f (p:=p) (r:=r) (xs:=xs) (i:=i+1) (f:=f) fun k y hy=>h k y (by simp [hy])
   simp [findL,h0.2 hp,List.find?,hp,ih]
theorem z0R {α β:Type}{p:α→Bool}{g:Nat→α→β}{B:Nat}{f:Nat→α→List β→Option (List β)}(hf:∀ k x s,s.length < B→f k x s=some (if p x=true then s++[g k x] else s)):∀ (xs:List α) (i:Nat) (s:List β),s.length+xs.length≤B →
  ∃ ys,eachL f i xs s=some (s++ys)∧ys.length≤xs.length
 | [],i,s,_=>⟨[],by simp [eachL],by simp⟩
 | x :: xs,i,s,h=>by
  simp only [List.length_cons] at h
  by_cases hp:p x=true
  ·obtain⟨ys,h1,h2⟩:=z0R hf xs (i+1) (s++[g i x]) (by simp; omega)
   exact⟨g i x :: ys,by simp [eachL,hf i x s (by omega),hp,h1],by simp; omega⟩
  ·obtain⟨ys,h1,h2⟩:=z0R hf xs (i+1) s (by omega)
   exact⟨ys,by simp [eachL,hf i x s (by omega),hp,h1],by simp; omega⟩
theorem z7c (x lo hi:Int):q5O x lo hi=some (decide (lo≤x∧x≤hi)):=by
 unfold q5O; split<;>simp_all<;>omega
theorem z9X (x lo hi:Int):q4d x lo hi=some (decide (lo≤x∧x≤hi)):=by
 unfold q4d; split<;>simp_all<;>omega
theorem z9y (r:Rule)(k:Int):q6L r k=q5s r k:=by
 unfold q6L q5s; rw [z7c,z9X]
def z9z (a:Attribute):Bool:=decide (a.Mode=1∨a.Mode=2)
theorem j3y:z3M=q6e:=rfl
theorem z7F:q5f=q6f:=rfl
theorem k1H {g:Grammar}(h:∀ y∈g.Symbols,y.Attributes.length≤1048576)(s:ByteArray):∃ y b,q5u g s=some (y,b)∧q5Y g s=some (y,b)∧y.Attributes.length≤1048576:=by
 have h1:=z2f (p:=fun y:Symbol=>decide (y.Name=s)) (r:=fun y=>(y,true)) (xs:=g.Symbols) (i:=0) (f:=z0h s) fun k y hy=>by
  have hg:q9x y=some y:=by
   unfold q9x; have:=h y hy; rw [q3G (by simp only [List.length_nil]; constructor<;>omega)]
  unfold z0h; rw [hg]; constructor<;>intro hp<;>simp_all
 have h2:=z2f (p:=fun y:Symbol=>decide (y.Name=s)) (r:=fun y=>(y,true)) (xs:=g.Symbols) (i:=0) (f:=z0n s) fun k y hy=>by
  unfold z0n; constructor<;>intro hp<;>simp_all
 unfold q5u q5Y
 rw [h1,h2]
 cases hf:g.Symbols.find? (fun y:Symbol=>decide (y.Name=s)) with
 | none=>exact⟨_,_,rfl,rfl,by simp⟩
 | some y=>exact⟨_,_,rfl,rfl,h y (List.mem_of_find?_eq_some hf)⟩
theorem z5k {g:Grammar}(h:∀ y∈g.Symbols,y.Attributes.length≤1048576)(s:ByteArray):∃ l,q5e g s=some l∧q4j g s=some l∧l.length≤1048576:=by
 obtain⟨y,b,h1,h2,h3⟩:=k1H h s
 obtain⟨l,h4,h5⟩:=z0R (p:=z9z) (g:=fun _ x=>x) (B:=1048577) (f:=q6e) (fun k x s hs=>by
  have hg:((s.length:Int)+1)*40≤140737488355328∧(s.length:Int)+1≤9223372036854775807:=by constructor<;>omega
  unfold q6e z9z
  rw [q3G hg]
  by_cases m1:x.Mode=1
  ·rw [if_pos m1,if_pos (by simp [m1])]; rfl
  ·rw [if_neg m1]
   by_cases m2:x.Mode=2
   ·rw [if_pos m2,if_pos (by simp [m2])]; rfl
   ·rw [if_neg m2,if_neg (by simp [m1,m2])]; rfl) y.Attributes 0 [] (by simp; omega)
 simp only [List.nil_append] at h4
 refine⟨l,?_,?_,by omega⟩
 ·unfold q5e; rw [h1]; dsimp only [Option.bind_some]; rw [h4]; rfl
 ·unfold q4j; rw [h2]; dsimp only [Option.bind_some]; rw [j3y,h4]; rfl
theorem j3z (r:Rule)(k:Nat)(hk:k≤r.Right.length)(hl:r.Right.length≤1048576):∃ x,q5s r (k:Int)=some x:=by
 unfold q5s
 by_cases h0:(k:Int)=0
 ·exact⟨_,if_pos h0⟩
 ·rw [if_neg h0,z7c,Option.bind_some,if_pos (by simp; omega),q3G (by constructor<;>omega),q3G (by omega)]
  obtain⟨x,hx⟩:∃ x,r.Right[((k:Int) - 1).toNat]? = some x:=⟨_,List.getElem?_eq_getElem (by omega)⟩
  exact⟨x,by rw [hx]; rfl⟩
theorem k1I (k:Nat)(B:Nat)(hB:B≤4398046511104):∀ (l:List Attribute) (i:Nat) (s:List Occurrence),s.length+l.length≤B→∃ ys,eachL (q6l k) i l s=some (s++ys)∧ys.length≤l.length:=fun l i s h=>
 z0R (p:=fun _=>true) (g:=fun _ x=>(⟨(k:Int),x.Name⟩:Occurrence)) (B:=B) (f:=q6l k) (fun j x s hs=>by
  have hg:((s.length:Int)+1)*24≤140737488355328∧(s.length:Int)+1≤9223372036854775807:=by constructor<;>omega
  unfold q6l
  rw [q3G hg,if_pos rfl]) l i s h
theorem j8M (k:Nat):z5c (k:Int)=q6l k:=rfl
theorem j0G {g:Grammar}{r:Rule}(h:∀ y∈g.Symbols,y.Attributes.length≤1048576)(hr:r.Right.length≤1048576):∃ l,q6a g r=some l∧q5j g r=some l∧l.length≤1099512676352:=by
 have key:∀ m k (s:List Occurrence),k+m=r.Right.length+1→s.length≤k*1048576→∃ l,eachN (q4v g r) k m s=some l∧q4L (q5o g r) (s,(k:Int))=some l∧l.length≤(k+m)*1048576:=by
  intro m
  induction m with
  | zero=>
   intro k s hk hs
   refine⟨s,rfl,q3I ?_,by simpa using hs⟩
   unfold q5o; dsimp only; rw [if_neg (by omega)]
  | succ m ih=>
   intro k s hk hs
   obtain⟨x,hx⟩:=j3z r k (by omega) hr
   obtain⟨p,hp1,hp2,hp3⟩:=z5k h x
   obtain⟨ys,hy1,hy2⟩:=k1I k 4398046511104 (by omega) p 0 s (by omega)
   obtain⟨l,h1,h2,h3⟩:=ih (k+1) (s++ys) (by omega) (by simp; omega)
   refine⟨l,?_,?_,by rw [show k+(m+1)=k+1+m by omega]; exact h3⟩
   ·have e:q4v g r k s=some (s++ys):=by
     unfold q4v; rw [z9y,hx,Option.bind_some,hp2,Option.bind_some,hy1]; rfl
    simp only [eachN,e,Option.bind_some]; exact h1
   ·have e:q5o g r (s,(k:Int))=some (.inl (s++ys,((k+1:Nat):Int))):=by
     unfold q5o; dsimp only
     rw [if_pos (by omega),hx,Option.bind_some,hp1,Option.bind_some,j8M,hy1,Option.bind_some,q3G (by constructor<;>omega)]; rfl
    rw [q3W e]; exact h2
 obtain⟨l,h1,h2,h3⟩:=key (r.Right.length+1) 0 [] (by omega) (by simp)
 refine⟨l,?_,?_,by omega⟩
 ·unfold q6a
  have e:q4L (q5o g r) (([]:List Occurrence),0)=some l:=h2
  rw [e]; rfl
 ·unfold q5j
  rw [q3G (by constructor<;>omega),h1]; rfl
theorem k3y {g:Grammar}{r:Rule}(k:Int)(h:∀ y∈g.Symbols,y.Attributes.length≤1048576)(hr:r.Right.length≤1048576):∃ l,q5y g r k=some l∧q4R g r k=some l∧l.length≤1099512676352:=by
 obtain⟨o,h1,h2,h3⟩:=j0G h hr
 obtain⟨l,h4,h5⟩:=z0R (p:=fun x:Occurrence=>decide (x.Pos=k)) (g:=fun i _=>((i:Nat):Int)) (B:=4398046511104) (f:=q6f k) (fun i x s hs=>by
  have hg:((s.length:Int)+1)*8≤140737488355328∧(s.length:Int)+1≤9223372036854775807:=by constructor<;>omega
  unfold q6f
  rw [q3G hg]
  by_cases m1:x.Pos=k
  ·rw [if_pos m1,if_pos (by simp [m1])]; rfl
  ·rw [if_neg m1,if_neg (by simp [m1])]; rfl) o 0 [] (by simp; omega)
 simp only [List.nil_append] at h4
 refine⟨l,?_,?_,by omega⟩
 ·unfold q5y; rw [h1]; dsimp only [Option.bind_some]; rw [h4]; rfl
 ·unfold q4R; rw [h2]; dsimp only [Option.bind_some]; rw [z7F,h4]; rfl
theorem j4E {α:Type}[Sz α]{x:α}:∀ {l:List α},x∈l→Sz.szd x≤szL l
 | [],h=>by simp at h
 | y :: l,h=>by
  rcases List.mem_cons.1 h with rfl | h
  ·simp only [szL]; omega
  ·have:=j4E h; simp only [szL]; omega
theorem q9p {g:Grammar}(h:Sz.szd g≤1048576):∀ y∈g.Symbols,y.Attributes.length≤1048576:=fun y hy=>by
 have h1:=j4E hy
 have h2:=j3p y
 have h3:=z5M g
 have h4:=q7W y.Attributes
 omega
theorem q6n {r:Rule}(h:Sz.szd r≤1048576):r.Right.length≤1048576:=by
 have h1:=z8J r
 have h2:=q7W r.Right
 omega
end Go.Proofs.YtpnkinhphabkcaaGreat
namespace Go.Proofs.YtpnkinhphabkcaaGreat
open Go Go.E
theorem z9Y {α σ:Type}{f:Nat→α→σ→Option σ}:∀ (xs ys:List α) (i:Nat) (s:σ),eachL f i (xs++ys) s=(eachL f i xs s).bind fun t=>eachL f (i+xs.length) ys t
 | [],ys,i,s=>rfl
 | x :: xs,ys,i,s=>by
  simp only [List.cons_append,eachL]
  cases f i x s with
  | none=>rfl
  | some t=>simp only [Option.bind_some]; rw [z9Y xs ys (i+1) t,List.length_cons,show i+1+xs.length=i+(xs.length+1) by omega]
theorem z7d (k:Nat):∀ (l:List Attribute) (i:Nat) (s:List Occurrence),s.length+l.length≤4398046511104→eachL (q6l k) i l s=some (s++l.map fun x=>(⟨(k:Int),x.Name⟩:Occurrence))
 | [],i,s,_=>by simp [eachL]
 | x :: l,i,s,h=>by
  simp only [List.length_cons] at h
  have hg:((s.length:Int)+1)*24≤140737488355328∧(s.length:Int)+1≤9223372036854775807:=by constructor<;>omega
  have e:q6l k i x s=some (s++[(⟨(k:Int),x.Name⟩:Occurrence)]):=by unfold q6l; rw [q3G hg]
  simp only [eachL,e,Option.bind_some]
  rw [z7d k l (i+1) _ (by simp; omega)]; simp
theorem k5F {g:Grammar}{r:Rule}(h:∀ y∈g.Symbols,y.Attributes.length≤1048576)(hr:r.Right.length≤1048576){l:List Attribute}{o:List Occurrence}(hl:q4j g r.Left=some l)(ho:q5j g r=some o) :
  ∃ ys,o=(l.map fun x=>(⟨0,x.Name⟩:Occurrence))++ys:=by
 have key:∀ m k (s:List Occurrence),k+m=r.Right.length+1→s.length≤k*1048576→∀ q,eachN (q4v g r) k m s=some q→∃ ys,q=s++ys:=by
  intro m
  induction m with
  | zero=>intro k s _ _ q hq; cases hq; exact⟨[],by simp⟩
  | succ m ih=>
   intro k s hk hs q hq
   obtain⟨x,hx⟩:=j3z r k (by omega) hr
   obtain⟨p,hp1,hp2,hp3⟩:=z5k h x
   have hy:=z7d k p 0 s (by omega)
   have e:q4v g r k s=some (s++p.map fun x=>(⟨(k:Int),x.Name⟩:Occurrence)):=by
    unfold q4v; rw [z9y,hx,Option.bind_some,hp2,Option.bind_some,hy]; rfl
   simp only [eachN,e,Option.bind_some] at hq
   obtain⟨ys,hys⟩:=ih (k+1) _ (by omega) (by simp; omega) q hq
   exact⟨_,by rw [hys,List.append_assoc]⟩
 unfold q5j at ho
 rw [q3G (by constructor<;>omega)] at ho
 have e1:eachN (q4v g r) 0 (r.Right.length+1) []=some o:=by
  cases hq:eachN (q4v g r) 0 (r.Right.length+1) [] with
  | none=>rw [hq] at ho; cases ho
  | some q=>rw [hq] at ho; exact ho
 have hl3:l.length≤1048576:=by
  obtain⟨p,_,h2,h3⟩:=z5k h r.Left
  rw [hl] at h2; cases h2; exact h3
 have hx:q6L r ((0:Nat):Int)=some r.Left:=by unfold q6L; exact if_pos rfl
 have e:q4v g r 0 []=some ([]++l.map fun x=>(⟨((0:Nat):Int),x.Name⟩:Occurrence)):=by
  unfold q4v; rw [hx,Option.bind_some,hl,Option.bind_some,z7d 0 l 0 [] (by simp; omega)]; rfl
 simp only [eachN,e,Option.bind_some] at e1
 obtain⟨ys,hys⟩:=key r.Right.length 1 _ (by omega) (by simp; omega) o e1
 exact⟨ys,by simpa using hys⟩
theorem k1J:∀ (xs:List Occurrence) (i:Nat) (s:List Int),s.length+xs.length≤4398046511104→(∀ x∈xs,x.Pos=0)→eachL (q5f 0) i xs s=some (s++(List.range' i xs.length).map fun (j:Nat)=>(j:Int))
 | [],i,s,_,_=>by simp [eachL]
 | x :: xs,i,s,h,h0=>by
  simp only [List.length_cons] at h
  have hg:((s.length:Int)+1)*8≤140737488355328∧(s.length:Int)+1≤9223372036854775807:=by constructor<;>omega
  have e:q5f 0 i x s=some (s++[(i:Int)]):=by
   unfold q5f; rw [if_pos (h0 x (by simp)),q3G hg]; rfl
  simp only [eachL,e,Option.bind_some]
  rw [k1J xs (i+1) _ (by simp; omega) fun y hy=>h0 y (by simp [hy])]
  simp [List.range'_succ]
theorem k5G {g:Grammar}{r:Rule}(h:∀ y∈g.Symbols,y.Attributes.length≤1048576)(hr:r.Right.length≤1048576){l:List Attribute}{y:List Int}(hl:q4j g r.Left=some l)(hy:q4R g r 0=some y):∀ k:Nat,k < l.length→y[k]? = some (k:Int):=by
 obtain⟨o,_,ho,ho3⟩:=j0G h hr
 obtain⟨ys,hys⟩:=k5F h hr hl ho
 have hl3:l.length≤1048576:=by
  obtain⟨p,_,h2,h3⟩:=z5k h r.Left
  rw [hl] at h2; cases h2; exact h3
 unfold q4R at hy
 rw [ho,Option.bind_some] at hy
 have hy' : eachL (q5f 0) 0 o []=some y:=by
  cases hq:eachL (q5f 0) 0 o [] with
  | none=>rw [hq] at hy; cases hy
  | some q=>rw [hq] at hy; exact hy
 have hlen:=congrArg List.length hys
 simp only [List.length_append,List.length_map] at hlen
 rw [hys,z9Y,k1J _ 0 [] (by simp; omega) (by intro x hx; obtain⟨a,_,rfl⟩:=List.mem_map.1 hx; rfl),Option.bind_some] at hy'
 obtain⟨zs,h4,h5⟩:=z0R (p:=fun x:Occurrence=>decide (x.Pos=0)) (g:=fun i _=>((i:Nat):Int)) (B:=4398046511104) (f:=q5f 0) (fun i x s hs=>by
  have hg:((s.length:Int)+1)*8≤140737488355328∧(s.length:Int)+1≤9223372036854775807:=by constructor<;>omega
  unfold q5f
  rw [q3G hg]
  by_cases m1:x.Pos=0
  ·rw [if_pos m1,if_pos (by simp [m1])]; rfl
  ·rw [if_neg m1,if_neg (by simp [m1])]; rfl) ys (0+(l.map fun x=>(⟨0,x.Name⟩:Occurrence)).length) ([]++(List.range' 0 (l.map fun x=>(⟨0,x.Name⟩:Occurrence)).length).map fun (j:Nat)=>(j:Int)) (by simp; omega)
 rw [h4] at hy'
 cases hy'
 intro k hk
 rw [List.getElem?_append_left (by simpa using hk)]
 simp [hk]
theorem z9A {α σ:Type}{P:σ→Prop}{f g:Nat→α→σ→Option σ}:∀ (xs:List α) (i:Nat) (s:σ),P s→(∀ k x s,k < i+xs.length→x∈xs→P s→∃ s',f k x s=some s'∧g k x s=some s'∧P s')→∃ s',eachL f i xs s=some s'∧eachL g i xs s=some s'∧P s'
 | [],i,s,hs,_=>⟨s,rfl,rfl,hs⟩
 | x :: xs,i,s,hs,h=>by
  obtain⟨t,h1,h2,h3⟩:=h i x s (by simp) (by simp) hs
  obtain⟨u,h4,h5,h6⟩:=z9A xs (i+1) t h3 fun k y s hk hy=>h k y s (by simp; omega) (by simp [hy])
  exact⟨u,by simp only [eachL,h1,Option.bind_some,h4],by simp only [eachL,h2,Option.bind_some,h5],h6⟩
theorem j6i {g:Grammar}{r:Rule}{c:Relation}(h:∀ y∈g.Symbols,y.Attributes.length≤1048576)(hr:r.Right.length≤1048576):∃ x,q8h g r c=some x∧z6U g r c=some x∧x.Rows.length≤16:=by
 obtain⟨l,l1,l2,l3⟩:=z5k h r.Left
 obtain⟨y,_,y2,_⟩:=k3y 0 h hr
 have hy:=k5G h hr l2 y2
 obtain⟨e,e1,e2⟩:=j9Z l.length
 have step:∀ k1 x1,k1 < l.length→∀ k2 x2 s,k2 < l.length→s.1.length≤16→∃ s',q9T c k1 x1 k2 x2 s=some s'∧z3g c y k1 x1 k2 x2 s=some s'∧s'.1.length≤16:=by
  intro k1 x1 hk1 k2 x2 ⟨s3,s4⟩ hk2 hs
  dsimp only at hs
  obtain⟨z,z1,z2⟩:=j8J (r:=⟨s4,s3⟩) (by show s3.length≤_; omega) (k1:Int) (k2:Int)
  unfold q9T z3g
  rw [j8I,j0E,hy k1 hk1,hy k2 hk2]
  simp only [Option.bind_some,q7Q,z1,decide_eq_true_eq]
  by_cases m1:x1.Mode=1
  ·by_cases m2:x2.Mode=2
   ·by_cases m3:hasP c (k1:Int) (k2:Int)
    ·simp only [m1,m2,m3,if_true,decide_true,Option.bind_some]; exact⟨_,rfl,rfl,by rw [z2]; exact hs⟩
    ·simp only [m1,m2,m3,if_true,if_false,decide_true,decide_false,Option.bind_some]; exact⟨_,rfl,rfl,hs⟩
   ·simp [m1,m2,hs]
  ·simp [m1,hs]
 obtain⟨⟨s1,s2⟩,h1,h2,h3⟩:=z9A (P:=fun s:List Int × Int=>s.1.length≤16) (f:=z1x c l) (g:=z5N c l y) l 0 (e.Rows,e.N) e2 fun k x s hk _ hs=>by
  obtain⟨s',t1,t2,t3⟩:=z9A (P:=fun s:List Int × Int=>s.1.length≤16) (f:=q9T c k x) (g:=z3g c y k x) l 0 s hs fun k2 x2 s hk2 _ hs=>step k x (by omega) k2 x2 s (by omega) hs
  obtain⟨s3,s4⟩:=s
  exact⟨s',by unfold z1x; dsimp only; rw [t1]; rfl,by unfold z5N; dsimp only; rw [t2]; rfl,t3⟩
 refine⟨⟨s2,s1⟩,?_,?_,h3⟩
 ·unfold q8h; rw [l1,Option.bind_some,e1,Option.bind_some,h1]; rfl
 ·unfold z6U; rw [l2,Option.bind_some,y2,Option.bind_some,z5h,e1,Option.bind_some,h2]; rfl
end Go.Proofs.YtpnkinhphabkcaaGreat
namespace Go.Proofs.YtpnkinhphabkcaaGreat
open Go Go.E
theorem k5H:∀ (n:Nat) (e q:Expr),q7M n e=some q→q7M (n+1) e=some q:=by
 intro n
 induction n with
 | zero=>intro e q h; cases h
 | succ n ih=>
  intro e q h
  have h' : z1n (q7M n) e=some q:=h
  show z1n (q7M (n+1)) e=some q
  unfold z1n at h' ⊢
  obtain⟨s,h1,h2⟩:=bd h'
  rw [z9w (g:=z3p (q7M (n+1))) (fun k x s q hq=>by
   unfold z3p at hq ⊢
   obtain⟨y,h3,h4⟩:=bd hq
   rw [ih _ _ h3,Option.bind_some]; exact h4) _ _ _ _ h1]
  exact h2
theorem k0a:∀ (m:Nat) (e:Expr),fuE e≤m→Sz.szd e≤1048576→q7M m e=some e:=by
 intro m
 induction m with
 | zero=>intro e h; rw [z9W] at h; omega
 | succ m ih=>
  intro e h hs
  rw [z9W] at h
  have hl:∀ (l:List Expr) (i:Nat) (s:List Expr),(∀ x∈l,fuE x≤m∧Sz.szd x≤1048576)→s.length+l.length≤4398046511→eachL (z3p (q7M m)) i l s=some (s++l):=by
   intro l
   induction l with
   | nil=>intro i s _ _; simp [eachL]
   | cons x l ihl=>
    intro i s hx hb
    simp only [List.length_cons] at hb
    have h1:=ih x (hx x (by simp)).1 (hx x (by simp)).2
    have e1:z3p (q7M m) i x s=some (s++[x]):=by
     unfold z3p; rw [h1,Option.bind_some,q3G (by constructor<;>omega)]
    simp only [eachL,e1,Option.bind_some]
    rw [ihl _ _ (fun y hy=>hx y (by simp [hy])) (by simp; omega)]; simp
  show z1n (q7M m) e=some e
  unfold z1n
  have h2:=q7a e
  have h3:=q7W e.Args
  rw [hl e.Args 0 [] (fun x hx=>⟨by have:=j4u hx; omega,by have:=k4A hx; omega⟩) (by simp; omega),List.nil_append,Option.bind_some]
  cases e; rfl
theorem k5I {e:Expr}(h:Sz.szd e≤1048576):z8E e=some e:=k1u (fun n q=>k5H n e q) (k0a _ e (Nat.le_refl _) h)
theorem k0b:z7P=z8E:=by
 have h:∀ n,z1R n=q7M n:=by
  intro n
  induction n with
  | zero=>rfl
  | succ n ih=>funext e; show z5E (z1R n) e=z1n (q7M n) e; rw [ih]; rfl
 funext e
 show recO (fun n=>z1R n e)=recO fun n=>q7M n e
 congr 1; funext n; rw [h]
def j7E:Expr:=⟨0,0,0,0,⟨#[]⟩,⟨#[]⟩,[]⟩
def eqAt (r:Rule)(o:Occurrence):Expr × Bool:=match r.Equations.find? fun q=>decide (q.At=o) with
 | some q=>(q.Expr,true)
 | none=>(j7E,false)
theorem z8b {r:Rule}{q:Equation}(h:q∈r.Equations):Sz.szd q.Expr≤Sz.szd r:=by
 have h1:=z8J r
 have h2:=z9V q
 have h3:=z8M h
 have h4:=q7a q.Expr
 omega
theorem k1K {r:Rule}(h:Sz.szd r≤1048576)(o:Occurrence):Sz.szd (eqAt r o).1≤1048576:=by
 unfold eqAt
 cases hf:r.Equations.find? (fun q=>decide (q.At=o)) with
 | none=>show Sz.szd j7E≤_; have:Sz.szd j7E=0:=rfl; omega
 | some q=>have:=z8b (List.mem_of_find?_eq_some hf); show Sz.szd q.Expr≤_; omega
theorem j4F {r:Rule}(h:Sz.szd r≤1048576)(o:Occurrence):q5V r o=some (eqAt r o):=by
 have key:∀ (l:List Equation) (i:Nat),(∀ q∈l,Sz.szd q.Expr≤1048576)→findL (q8a o) i l ()=some (match l.find? fun q=>decide (q.At=o) with
   | some q=>.inr (q.Expr,true)
   | none=>.inl ()):=by
  intro l
  induction l with
  | nil=>intro i _; rfl
  | cons q l ih=>
   intro i hq
   by_cases hp:q.At=o
   ·simp [findL,q8a,hp,k5I (hq q (by simp))]
   ·simp [findL,q8a,hp]
    exact ih _ fun y hy=>hq y (by simp [hy])
 unfold q5V eqAt
 rw [key _ _ fun q hq=>by have:=z8b hq; omega]
 cases r.Equations.find? (fun q=>decide (q.At=o))<;>rfl
theorem k1L {r:Rule}(h:Sz.szd r≤1048576)(o:Occurrence):q5V r o=some (eqAt r o)∧q8y r o=some (eqAt r o):=by
 have e:q8y=q5V:=by
  have e1:z2S=q8a:=by funext a k x u; unfold z2S q8a; rw [k0b]
  funext r o; unfold q8y q5V; rw [e1]
 rw [e]
 exact⟨j4F h o,j4F h o⟩
theorem k0c:q8g=q5x:=by
 funext l o
 unfold q8g q5x q3T
 have e:z0G o=q3X o:=by
  funext k x u
  unfold z0G q3X
  by_cases h:x=o
  ·rw [if_pos h,if_pos h.symm]
  ·rw [if_neg h,if_neg fun e=>h e.symm]
 rw [e]
 cases ((findL (q3X o) 0 l ()).bind <| onr (fun r1=>some r1) fun _=>some (-1))<;>rfl
theorem k0d (l:List Occurrence)(o:Occurrence):∃ k,q5x l o=some k:=by
 have h:q3T l o=some (ixF l o):=by
  unfold q3T
  refine j1S fun k x=>⟨fun e=>?_,fun e=>?_⟩
  ·unfold q3X; rw [if_pos e.symm]
  ·unfold q3X; rw [if_neg (fun h=>e h.symm)]
 exact⟨_,by unfold q5x; rw [h]; rfl⟩
theorem k7b {r x:Relation}{i k:Int}(h:q6Y r i k=some x):x.N=r.N:=by
 unfold q6Y at h
 obtain⟨y,h1,h⟩:=bd h
 have hy:y=r:=by unfold q9i at h1; obtain⟨_,h1⟩:=z5v h1; exact (Option.some.inj h1).symm
 subst hy
 obtain⟨y2,_,h⟩:=bd h
 obtain⟨s1,_,h⟩:=bd h
 obtain⟨s2,_,h⟩:=bd h
 by_cases hs:s2=true
 ·rw [if_pos hs] at h
  obtain⟨_,h⟩:=z5v h
  obtain⟨_,_,h⟩:=bd h
  obtain⟨_,h⟩:=z5v h
  obtain⟨_,h⟩:=z5v h
  obtain⟨_,h⟩:=z5v h
  cases h; rfl
 ·rw [if_neg hs] at h
  cases h; rfl
theorem k3z (l:List Occurrence)(k:Nat):∀ (us:List Occurrence) (i:Nat) (rows:List Int) (n:Int),rows.length≤1048576 →
  ∃ rows',eachL (q6M l k) i us (rows,n)=some (rows',n)∧eachL (q8B l (k:Int)) i us (rows,n)=some (rows',n)∧rows'.length=rows.length:=by
 intro us
 induction us with
 | nil=>intro i rows n _; exact⟨rows,rfl,rfl,rfl⟩
 | cons u us ih=>
  intro i rows n h
  obtain⟨j,hj⟩:=k0d l u
  obtain⟨x,hx,hxl⟩:=j8J (r:=⟨n,rows⟩) h j (k:Int)
  have hN:=k7b hx
  obtain⟨rows',h1,h2,h3⟩:=ih (i+1) x.Rows n (by rw [hxl]; exact h)
  have e1:q6M l k i u (rows,n)=some (x.Rows,n):=by
   unfold q6M
   dsimp only
   rw [hj,Option.bind_some,j0E,hx,Option.bind_some,hN]
  have e2:q8B l (k:Int) i u (rows,n)=some (x.Rows,n):=by
   unfold q8B
   dsimp only
   rw [k0c,hj,Option.bind_some,hx,Option.bind_some,hN]
  exact⟨rows',by simp only [eachL,e1,Option.bind_some]; exact h1,by simp only [eachL,e2,Option.bind_some]; exact h2,h3.trans hxl⟩
theorem k0e:attrs j7E=[]:=by
 have:z5P j7E=[]:=by simp [j7E,z5P,z1B]
 unfold attrs j5D
 rw [this]; simp [q5n]
theorem k1M {r:Rule}(hr:Sz.szd r≤1048576)(l:List Occurrence)(hl:l.length≤16):∀ (m k:Nat) (rows:List Int) (n:Int),k+m=l.length→0 < n→rows.length≤1048576 →
  ∃ rows',eachL (q6N r l) k (l.drop k) (rows,n)=some (rows',n)∧q4L (q5p r l) ((k:Int),rows,n)=some (rows',n)∧rows'.length=rows.length:=by
 intro m
 induction m with
 | zero=>
  intro k rows n hk hn h
  refine⟨rows,by rw [List.drop_eq_nil_of_le (by omega)]; rfl,q3I ?_,rfl⟩
  unfold q5p
  dsimp only
  rw [if_neg (by omega)]
 | succ m ih=>
  intro k rows n hk hn h
  obtain⟨x,hx⟩:∃ x,l[k]? = some x:=⟨_,List.getElem?_eq_getElem (by omega)⟩
  have hd:l.drop k=x :: l.drop (k+1):=by
   rw [List.drop_eq_getElem_cons (by omega)]
   have:l[k]=x:=by rw [List.getElem?_eq_getElem (by omega)] at hx; exact Option.some.inj hx
   rw [this]
  obtain⟨E,B,hq⟩:∃ E B,eqAt r x=(E,B):=⟨_,_,rfl⟩
  obtain⟨rows1,h1,h2,h3⟩:=k3z l k (attrs E) 0 rows n h
  obtain⟨rows',k1,k2,k3⟩:=ih (k+1) rows1 n (by omega) hn (by omega)
  have hsz:=k1K hr x
  have hf:=k1L hr x
  rw [hq] at hsz hf
  have e1:q6N r l k x (rows,n)=some (rows1,n):=by
   unfold q6N
   dsimp only
   rw [hf.2,Option.bind_some]
   dsimp only
   rw [j4v hsz,Option.bind_some,h1]; rfl
  have hin:(grd (0≤(k:Int)) <| (l[(k:Int).toNat]?).bind fun x1=>(q5V r x1).bind fun (y3,y4)=>if y4=true then ((q7i y3).bind fun y5=>(eachL (q8B l (k:Int)) 0 y5 (rows,n)).bind fun (s8,s9)=>some (s8,s9)) else some (rows,n))=some (rows1,n):=by
   rw [q3G (by omega),Int.toNat_natCast,hx,Option.bind_some,hf.1,Option.bind_some]
   dsimp only
   cases hb:B with
   | true=>rw [if_pos rfl,j8G hsz,Option.bind_some,h2,Option.bind_some]
   | false=>
    have hz:E=j7E:=by
     unfold eqAt at hq
     cases hf:r.Equations.find? (fun q=>decide (q.At=x)) with
     | none=>rw [hf] at hq; cases hq; rfl
     | some q=>rw [hf] at hq; cases hq; cases hb
    rw [hz,k0e] at h1
    simp only [eachL,Option.some.injEq,Prod.mk.injEq] at h1
    rw [if_neg (by simp),h1.1]
  have e2:q5p r l ((k:Int),rows,n)=some (.inl (((k+1:Nat):Int),rows1,n)):=by
   unfold q5p
   dsimp only
   rw [if_pos (by omega),if_pos hn,hin,Option.bind_some]
   dsimp only
   rw [q3G (by constructor<;>omega)]; rfl
  exact⟨rows',by rw [hd]; simp only [eachL,e1,Option.bind_some]; exact k1,by rw [q3W e2]; exact k2,k3.trans h3⟩
theorem k0f {g:Grammar}{r:Rule}(h:Sz.szd g≤1048576)(hr:Sz.szd r≤1048576):∃ x,q6B g r=some x∧q6A g r=some x∧x.Rows.length≤16:=by
 obtain⟨l,h1,h2,_⟩:=j0G (q9p h) (q6n hr)
 have hem:∀ n:Nat,q4l (n:Int)=if n≤16 then some ⟨(n:Int),List.replicate n 0⟩ else some ⟨0,[]⟩:=fun n=>by
  unfold q4l
  rw [q9U,Option.bind_some]
  by_cases hn:n≤16
  ·rw [if_pos (by simp; omega),q3G (by omega),if_pos hn]; rfl
  ·rw [if_neg (by simp; omega),if_neg hn]
 unfold q6B q6A
 rw [h1,h2,Option.bind_some,Option.bind_some,z5h,hem]
 by_cases hl:l.length≤16
 ·rw [if_pos hl,Option.bind_some,Option.bind_some,if_neg (by omega)]
  dsimp only
  by_cases h0:l.length=0
  ·have:l=[]:=List.eq_nil_of_length_eq_zero h0
   subst this
   have e:q4L (q5p r ([]:List Occurrence)) (0,List.replicate ([]:List Occurrence).length 0,((([]:List Occurrence).length:Nat):Int))=some (List.replicate ([]:List Occurrence).length 0,((([]:List Occurrence).length:Nat):Int)):=q3I (by unfold q5p; dsimp only; rw [if_neg (by simp)])
   rw [e]
   exact⟨_,rfl,rfl,by simp⟩
  ·obtain⟨rows',k1,k2,k3⟩:=k1M hr l hl l.length 0 (List.replicate l.length 0) (l.length:Int) (by omega) (by omega) (by simp; omega)
   have k2' : q4L (q5p r l) (0,List.replicate l.length 0,(l.length:Int))=some (rows',(l.length:Int)):=k2
   rw [List.drop_zero] at k1
   rw [k1,k2']
   exact⟨_,rfl,rfl,by show rows'.length≤16; simp at k3; omega⟩
 ·rw [if_neg hl,Option.bind_some,Option.bind_some,if_pos (by omega)]
  have e:q4L (q5p r l) (0,([]:List Int),(0:Int))=some ([],0):=q3I (by unfold q5p; dsimp only; rw [if_pos (by omega),if_neg (by omega)])
  rw [e]
  exact⟨_,rfl,rfl,by simp⟩
end Go.Proofs.YtpnkinhphabkcaaGreat
namespace Go.Proofs.YtpnkinhphabkcaaGreat
open Go Go.E
theorem z5l {α β:Type}{p:α→Bool}{g:α→β}{B:Nat}{f:Nat→α→List β→Option (List β)}(hf:∀ k x s,s.length < B→f k x s=some (if p x=true then s++[g x] else s)):∀ (xs:List α) (i:Nat) (s:List β),s.length+xs.length≤B →
  eachL f i xs s=some (s++(xs.filter p).map g)
 | [],i,s,_=>by simp [eachL]
 | x :: xs,i,s,h=>by
  simp only [List.length_cons] at h
  by_cases hp:p x=true
  ·have ih:=z5l hf xs (i+1) (s++[g x]) (by simp; omega)
   simp [eachL,hf i x s (by omega),hp,ih]
  ·have ih:=z5l hf xs (i+1) s (by omega)
   simp [eachL,hf i x s (by omega),hp,ih]
theorem j2c {α β:Type}{p:α→Bool}{g:Nat→β}{B:Nat}{f:Nat→α→List β→Option (List β)}(hf:∀ k x s,s.length < B→f k x s=some (if p x=true then s++[g k] else s)):∀ (xs:List α) (i:Nat) (s:List β),s.length+xs.length≤B →
  eachL f i xs s=some (s++((xs.zipIdx i).filter fun q=>p q.1).map fun q=>g q.2)
 | [],i,s,_=>by simp [eachL]
 | x :: xs,i,s,h=>by
  simp only [List.length_cons] at h
  by_cases hp:p x=true
  ·have ih:=j2c hf xs (i+1) (s++[g i]) (by simp; omega)
   simp [eachL,hf i x s (by omega),hp,ih,List.zipIdx_cons]
  ·have ih:=j2c hf xs (i+1) s (by omega)
   simp [eachL,hf i x s (by omega),hp,ih,List.zipIdx_cons]
theorem z9B {β:Type}{h:Nat→List β}{C n:Nat}{f:Nat→List β→Option (List β)}(hf:∀ k s,k < n→s.length≤k*C→f k s=some (s++h k))(hh:∀ k,k < n→(h k).length≤C) :
  ∀ (m k:Nat) (s:List β),k+m=n→s.length≤k*C→eachN f k m s=some (s++(List.range' k m).flatMap h)
 | 0,k,s,_,_=>by simp [eachN]
 | m+1,k,s,hk,hs=>by
  have hl:=hh k (by omega)
  have e:(k+1)*C=k*C+C:=Nat.succ_mul k C
  have ih:=z9B hf hh m (k+1) (s++h k) (by omega) (by rw [List.length_append]; omega)
  simp [eachN,hf k s (by omega) hs,ih,List.range'_succ]
theorem j2d {β:Type}{h:Nat→List β}{C n:Nat}{f:(List β × Int)→Option ((List β × Int) ⊕ List β)}(hf:∀ (k:Nat) s,k < n→s.length≤k*C→f (s,(k:Int))=some (.inl (s++h k,((k+1:Nat):Int))))(he:∀ s,f (s,(n:Int))=some (.inr s))(hh:∀ k,k < n→(h k).length≤C) :
  ∀ (m k:Nat) (s:List β),k+m=n→s.length≤k*C→q4L f (s,(k:Int))=some (s++(List.range' k m).flatMap h)
 | 0,k,s,hk,_=>by
  obtain rfl:k=n:=by omega
  rw [q3I (he s)]; simp
 | m+1,k,s,hk,hs=>by
  have hl:=hh k (by omega)
  have e:(k+1)*C=k*C+C:=Nat.succ_mul k C
  have ih:=j2d hf he hh m (k+1) (s++h k) (by omega) (by rw [List.length_append]; omega)
  rw [q3W (hf k s (by omega) hs),ih]; simp [List.range'_succ]
abbrev GOk (g:Grammar):Prop:=∀ y∈g.Symbols,y.Attributes.length≤1048576
def zS:Symbol:=⟨⟨#[]⟩,[]⟩
def zA:Attribute:=⟨⟨#[]⟩,0,0,false⟩
def q6V (g:Grammar)(s:ByteArray):Symbol × Bool:=match g.Symbols.find? fun y=>decide (y.Name=s) with
 | some y=>(y,true)
 | none=>(zS,false)
def z2M (y:Symbol)(s:ByteArray):Attribute × Bool:=match y.Attributes.find? fun a=>decide (a.Name=s) with
 | some a=>(a,true)
 | none=>(zA,false)
theorem z2N {g:Grammar}(h:GOk g)(s:ByteArray):q5u g s=some (q6V g s):=by
 have h1:=z2f (p:=fun y:Symbol=>decide (y.Name=s)) (r:=fun y=>(y,true)) (xs:=g.Symbols) (i:=0) (f:=z0h s) fun k y hy=>by
  have hg:q9x y=some y:=by
   unfold q9x; have:=h y hy; rw [q3G (by simp only [List.length_nil]; constructor<;>omega)]
  unfold z0h; rw [hg]; constructor<;>intro hp<;>simp_all
 unfold q5u q6V
 rw [h1]
 cases hf:g.Symbols.find? (fun y:Symbol=>decide (y.Name=s)) with
 | none=>rfl
 | some y=>rfl
theorem z3X (g:Grammar)(s:ByteArray):q5Y g s=some (q6V g s):=by
 have h2:=z2f (p:=fun y:Symbol=>decide (y.Name=s)) (r:=fun y=>(y,true)) (xs:=g.Symbols) (i:=0) (f:=z0n s) fun k y hy=>by
  unfold z0n; constructor<;>intro hp<;>simp_all
 unfold q5Y q6V
 rw [h2]
 cases hf:g.Symbols.find? (fun y:Symbol=>decide (y.Name=s)) with
 | none=>rfl
 | some y=>rfl
theorem z3Y {g:Grammar}(h:GOk g)(s:ByteArray):(q6V g s).1.Attributes.length≤1048576:=by
 unfold q6V
 cases hf:g.Symbols.find? (fun y:Symbol=>decide (y.Name=s)) with
 | none=>simp [zS]
 | some y=>exact h y (List.mem_of_find?_eq_some hf)
theorem z8T (y:Symbol)(s:ByteArray):q7f y s=some (z2M y s):=by
 have h2:=z2f (p:=fun y:Attribute=>decide (y.Name=s)) (r:=fun y=>(y,true)) (xs:=y.Attributes) (i:=0) (f:=z1M s) fun k y hy=>by
  unfold z1M; constructor<;>intro hp<;>simp_all
 unfold q7f z2M
 rw [h2]
 cases hf:y.Attributes.find? (fun y:Attribute=>decide (y.Name=s)) with
 | none=>rfl
 | some y=>rfl
theorem j2e (y:Symbol)(s:ByteArray):q5X y s=some (z2M y s):=z8T y s
def q5Q (r:Rule)(k:Int):ByteArray:=if k=0 then r.Left else if 1≤k∧k≤(r.Right.length:Int) then r.Right.getD (k - 1).toNat ⟨#[]⟩ else ⟨#[]⟩
abbrev ROk (r:Rule):Prop:=r.Right.length≤1048576
theorem z3Z {r:Rule}(hl:ROk r)(k:Int):q5s r k=some (q5Q r k):=by
 unfold q5s q5Q
 by_cases h0:k=0
 ·rw [if_pos h0,if_pos h0]
 ·rw [if_neg h0,if_neg h0,z7c,Option.bind_some]
  by_cases h1:1≤k∧k≤(r.Right.length:Int)
  ·rw [if_pos (by simpa using h1),if_pos h1,q3G (by constructor<;>omega),q3G (by omega)]
   have:(k - 1).toNat < r.Right.length:=by omega
   rw [List.getElem?_eq_getElem this,List.getD_eq_getElem?_getD,List.getElem?_eq_getElem this]; rfl
  ·rw [if_neg (by simpa using h1),if_neg h1]
theorem z8c {r:Rule}(hl:ROk r)(k:Int):q6L r k=some (q5Q r k):=by rw [z9y,z3Z hl]
def z1D (g:Grammar)(r:Rule)(o:Occurrence):Attribute × Bool:=if 0≤o.Pos∧o.Pos≤(r.Right.length:Int) then z2M (q6V g (q5Q r o.Pos)).1 o.Name else (zA,false)
theorem z9C (g:Grammar){r:Rule}(hl:ROk r)(o:Occurrence):q8j g r o=some (z1D g r o):=by
 unfold q8j z1D
 rw [z9X,Option.bind_some]
 by_cases h0:0≤o.Pos∧o.Pos≤(r.Right.length:Int)
 ·rw [if_pos (by simpa using h0),if_pos h0,z8c hl,Option.bind_some,z3X,Option.bind_some]
  dsimp only
  rw [z8T]; rfl
 ·rw [if_neg (by simpa using h0),if_neg h0]; rfl
def mayB (g:Grammar)(r:Rule)(o:Occurrence):Bool:=(z1D g r o).2&&decide ((z1D g r o).1.Mode=if o.Pos=0 then 1 else 2)
theorem k5J (g:Grammar){r:Rule}(hl:ROk r)(o:Occurrence):z6I g r o=some (mayB g r o):=by
 unfold z6I mayB
 rw [z9C g hl,Option.bind_some]
 dsimp only
 by_cases h0:o.Pos=0
 ·rw [if_pos h0,if_pos h0]
  by_cases h1:(z1D g r o).2=true
  ·rw [if_pos h1,h1]; rfl
  ·rw [if_neg h1,Bool.eq_false_iff.2 h1]; rfl
 ·rw [if_neg h0,if_neg h0]
  by_cases h1:(z1D g r o).2=true
  ·rw [if_pos h1,h1]; rfl
  ·rw [if_neg h1,Bool.eq_false_iff.2 h1]; rfl
theorem k5K {g:Grammar}(h:GOk g){r:Rule}(hl:ROk r)(o:Occurrence):z6Q g r o=some (mayB g r o):=by
 unfold z6Q mayB z1D
 rw [z7c,Option.bind_some]
 by_cases hp:0≤o.Pos∧o.Pos≤(r.Right.length:Int)
 ·rw [if_pos (by simpa using hp),if_pos hp,z3Z hl,Option.bind_some,z2N h,Option.bind_some]
  dsimp only
  rw [j2e,Option.bind_some]
  skip
  by_cases h0:o.Pos=0
  ·rw [if_pos h0,if_pos h0]
   by_cases h1:(z2M (q6V g (q5Q r o.Pos)).1 o.Name).2=true
   ·rw [if_pos h1,h1]; rfl
   ·rw [if_neg h1,Bool.eq_false_iff.2 h1]; rfl
  ·rw [if_neg h0,if_neg h0]
   by_cases h1:(z2M (q6V g (q5Q r o.Pos)).1 o.Name).2=true
   ·rw [if_pos h1,h1]; rfl
   ·rw [if_neg h1,Bool.eq_false_iff.2 h1]; rfl
 ·rw [if_neg (by simpa using hp),if_neg hp]; rfl
def reqK (g:Grammar)(r:Rule)(k:Nat):List Occurrence:=((q6V g (q5Q r (k:Int))).1.Attributes.filter fun a=>decide (a.Mode=if (k:Int)=0 then 2 else 1)).map fun a=>(⟨(k:Int),a.Name⟩:Occurrence)
def reqL (g:Grammar)(r:Rule):List Occurrence:=(List.range' 0 (r.Right.length+1)).flatMap (reqK g r)
theorem j8N {g:Grammar}(h:GOk g)(r:Rule)(k:Nat):(reqK g r k).length≤1048576:=by
 unfold reqK; rw [List.length_map]
 exact Nat.le_trans (List.length_filter_le _ _) (z3Y h _)
theorem k1N {g:Grammar}(h:GOk g){r:Rule}(hl:ROk r):z1J g r=some (reqL g r):=by
 have hl' : r.Right.length≤1048576:=hl
 have key:=z9B (h:=reqK g r) (C:=1048576) (n:=r.Right.length+1) (f:=z6G g r) (fun k s hk hs=>by
  have hin:∀ m:Int,eachL (z6F k m) 0 (q6V g (q5Q r (k:Int))).1.Attributes s=some (s++((q6V g (q5Q r (k:Int))).1.Attributes.filter fun a=>decide (a.Mode=m)).map fun a=>(⟨(k:Int),a.Name⟩:Occurrence)):=fun m=>
   z5l (B:=4398046511104) (fun j x s hs=>by
    unfold z6F
    by_cases hm:x.Mode=m
    ·rw [if_pos hm,if_pos (by simpa using hm),q3G (by constructor<;>omega)]; rfl
    ·rw [if_neg hm,if_neg (by simpa using hm)]; rfl) _ 0 s (by have:=z3Y h (q5Q r (k:Int)); omega)
  unfold z6G reqK
  by_cases h0:(k:Int)=0
  ·rw [if_pos h0,if_pos h0,Option.bind_some,z8c hl,Option.bind_some,z3X,Option.bind_some]
   dsimp only
   rw [hin]; rfl
  ·rw [if_neg h0,if_neg h0,Option.bind_some,z8c hl,Option.bind_some,z3X,Option.bind_some]
   dsimp only
   rw [hin]; rfl) (fun k _=>j8N h r k) (r.Right.length+1) 0 [] (by omega) (by simp)
 unfold z1J
 rw [q3G (by constructor<;>omega),key]; rfl
theorem j7F {g:Grammar}(h:GOk g){r:Rule}(hl:ROk r):q5t g r=some (reqL g r):=by
 have hl' : r.Right.length≤1048576:=hl
 have key:=j2d (h:=reqK g r) (C:=1048576) (n:=r.Right.length+1) (f:=q6q g r) (fun k s hk hs=>by
  have hin2:eachL (q8L (k:Int)) 0 (q6V g (q5Q r (k:Int))).1.Attributes s=some (s++((q6V g (q5Q r (k:Int))).1.Attributes.filter fun a=>decide (a.Mode=2)).map fun a=>(⟨(k:Int),a.Name⟩:Occurrence)):=
   z5l (B:=4398046511104) (fun j x s hs=>by
    unfold q8L
    by_cases hm:x.Mode=2
    ·rw [if_pos hm,if_pos (by simpa using hm),q3G (by constructor<;>omega)]; rfl
    ·rw [if_neg hm,if_neg (by simpa using hm)]; rfl) _ 0 s (by have:=z3Y h (q5Q r (k:Int)); omega)
  have hin1:eachL (q8M (k:Int)) 0 (q6V g (q5Q r (k:Int))).1.Attributes s=some (s++((q6V g (q5Q r (k:Int))).1.Attributes.filter fun a=>decide (a.Mode=1)).map fun a=>(⟨(k:Int),a.Name⟩:Occurrence)):=
   z5l (B:=4398046511104) (fun j x s hs=>by
    unfold q8M
    by_cases hm:x.Mode=1
    ·rw [if_pos hm,if_pos (by simpa using hm),q3G (by constructor<;>omega)]; rfl
    ·rw [if_neg hm,if_neg (by simpa using hm)]; rfl) _ 0 s (by have:=z3Y h (q5Q r (k:Int)); omega)
  unfold q6q reqK
  dsimp only
  rw [if_pos (by omega),z3Z hl,Option.bind_some,z2N h,Option.bind_some]
  skip
  by_cases h0:(k:Int)=0
  ·rw [if_pos h0,if_pos h0,hin2,Option.bind_some,Option.bind_some,q3G (by constructor<;>omega)]; rfl
  ·rw [if_neg h0,if_neg h0,hin1,Option.bind_some,Option.bind_some,q3G (by constructor<;>omega)]; rfl) (fun s=>by
  unfold q6q; dsimp only; rw [if_neg (by omega)]) (fun k _=>j8N h r k) (r.Right.length+1) 0 [] (by omega) (by simp)
 unfold q5t
 have e:q4L (q6q g r) (([]:List Occurrence),0)=some ([]++(List.range' 0 (r.Right.length+1)).flatMap (reqK g r)):=key
 rw [e]; rfl
end Go.Proofs.YtpnkinhphabkcaaGreat
namespace Go.Proofs.YtpnkinhphabkcaaGreat
open Go Go.E
theorem q4V {α:Type}{q:α→Bool}{xs:List α}{f:Nat→α→Unit→Option (Unit ⊕ Int)}(h:∀ k x,x∈xs→f k x ()=some (if q x=true then .inr (k:Int) else .inl ())) :
  ((findL f 0 xs ()).bind <| onr (fun r1=>some r1) fun _=>some (-1)).bind (fun y1=>some (decide (0≤y1)))=some (xs.any q):=by
 rw [j1U h]
 cases hq:xs.any q with
 | true=>
  have:(0:Int)≤((0+xs.findIdx q:Nat):Int):=Int.natCast_nonneg _
  rw [if_pos rfl,Option.bind_some,j0Q,Option.bind_some,decide_eq_true this]
 | false=>rfl
def q4S {α:Type}(bad:List α→α→Bool):List α→List α→Option Nat
 | _,[]=>none
 | pre,x :: xs=>if bad pre x=true then some pre.length else q4S bad (pre++[x]) xs
theorem z5m {α β ρ:Type}{bad:List α→α→Bool}{nm:α→β}{c:Nat→ρ}{all:List α}{f:Nat→α→Unit→Option (Unit ⊕ ρ)}{h:Nat→α→List β→Option (List β ⊕ ρ)}
  (hf:∀ pre x post,all=pre++x :: post→f pre.length x ()=some (if bad pre x=true then .inr (c pre.length) else .inl ()))
  (hh:∀ pre x post,all=pre++x :: post→h pre.length x (pre.map nm)=some (if bad pre x=true then .inr (c pre.length) else .inl ((pre++[x]).map nm))) :
  ∀ (ys pre:List α),all=pre++ys→findL f pre.length ys ()=some (match q4S bad pre ys with | none=>.inl () | some k=>.inr (c k)) ∧
   findL h pre.length ys (pre.map nm)=some (match q4S bad pre ys with | none=>.inl (all.map nm) | some k=>.inr (c k))
 | [],pre,e=>by
  rw [List.append_nil] at e
  subst e; exact⟨rfl,rfl⟩
 | x :: ys,pre,e=>by
  have h1:=hf pre x ys e
  have h2:=hh pre x ys e
  by_cases hb:bad pre x=true
  ·rw [if_pos hb] at h1 h2
   simp only [findL,h1,h2,q4S,hb,if_true,Option.bind_some]
   exact⟨trivial,trivial⟩
  ·rw [if_neg hb] at h1 h2
   have ih:=z5m hf hh ys (pre++[x]) (by rw [e]; simp)
   simp only [List.length_append,List.length_cons,List.length_nil,Nat.zero_add] at ih
   simp only [findL,h1,h2,q4S,hb,Option.bind_some]
   exact ih
theorem j8O {α:Type}{a:α→Bool}{b:List α→α→Bool}:∀ (xs pre:List α),(q4S (fun p x=>a x||b p x) pre xs).isNone=(xs.all (fun x=>!a x)&&(q4S b pre xs).isNone)
 | [],pre=>rfl
 | x :: xs,pre=>by
  have ih:=j8O (a:=a) (b:=b) xs (pre++[x])
  simp only [q4S,List.all_cons]
  by_cases ha:a x=true
  ·simp [ha]
  ·by_cases hb:b pre x=true
   ·simp [ha,hb]
   ·simpa [ha,hb] using ih
def dupB {α:Type}(nm:α→ByteArray)(pre:List α)(x:α):Bool:=pre.any fun o=>decide (nm o=nm x)
def j7G {α:Type}(nm:α→ByteArray)(xs:List α):Bool:=(q4S (dupB nm) [] xs).isNone
theorem j6j {α:Type}{nm:α→ByteArray}:∀ (xs pre:List α),(q4S (dupB id) (pre.map nm) (xs.map nm))=q4S (dupB nm) pre xs
 | [],pre=>rfl
 | x :: xs,pre=>by
  have ih:=j6j (nm:=nm) xs (pre++[x])
  have e:dupB id (pre.map nm) (nm x)=dupB nm pre x:=by simp [dupB,List.any_map,Function.comp_def]
  rw [List.map_cons,q4S,q4S,e,List.length_map]
  rw [List.map_append] at ih
  rw [show [nm x]=[x].map nm from rfl,ih]
theorem z7e {α ρ:Type}{bad:List α→α→Bool}{c:Nat→ρ}{all:List α}{f:Nat→α→Unit→Option (Unit ⊕ ρ)}
  (hf:∀ pre x post,all=pre++x :: post→f pre.length x ()=some (if bad pre x=true then .inr (c pre.length) else .inl ())) :
  ∀ (ys pre:List α),all=pre++ys→findL f pre.length ys ()=some (match q4S bad pre ys with | none=>.inl () | some k=>.inr (c k)):=fun ys pre e=>
 (z5m (nm:=fun _=>()) (h:=fun k x s=>(f k x ()).map fun | .inl _=>.inl (s++[()]) | .inr r=>.inr r) hf (fun pre x post e=>by
  rw [hf pre x post e]
  by_cases hb:bad pre x=true
  ·rw [if_pos hb,if_pos hb]; rfl
  ·rw [if_neg hb,if_neg hb]; simp) ys pre e).1
theorem k1O (l:List ByteArray)(s:ByteArray):z2j l s=some (l.any fun o=>decide (o=s)):=by
 unfold z2j
 rw [q4D (c:=true) (q:=fun o=>!decide (o=s)) fun k x hx=>by
  unfold z8q
  by_cases h:x=s
  ·rw [if_pos h,if_neg (by simp [h])]
  ·rw [if_neg h,if_pos (by simp [h])]]
 have e:(l.all fun o=>!decide (o=s))=!(l.any fun o=>decide (o=s)):=by rw [List.not_any_eq_all_not]
 rw [e]
 cases l.any fun o=>decide (o=s)<;>rfl
theorem k0g (l:List ByteArray):z0o l=some (j7G id l):=by
 unfold z0o j7G
 rw [show findL (z1l l) 0 l ()=_ from z7e (bad:=dupB id) (c:=fun _=>false) (all:=l) (f:=z1l l) (fun pre x post e=>by
  unfold z1l
  rw [q3G (by rw [e]; simp),show l.take pre.length=pre by rw [e]; simp,k1O,Option.bind_some,← apply_ite some]; rfl) l [] rfl]
 cases q4S (dupB id) [] l<;>rfl
def z4e (a:Attribute):Bool:=q8U a.Name&&(decide (1≤a.Type_∧a.Type_≤4)&&(decide (1≤a.Mode∧a.Mode≤3)&&if a.Mode=3 then decide (a.Type_=2) && !a.Circular else !a.Circular||decide (a.Type_=2)))
theorem k1P (a:Attribute):q7H a=some (z4e a):=by
 unfold q7H z4e z4Q
 rw [z3h,Option.bind_some]
 cases q8U a.Name with
 | false=>rfl
 | true=>
  rw [if_pos rfl,z9X,Option.bind_some,Option.bind_some,Option.bind_some]
  by_cases h1:1≤a.Type_∧a.Type_≤4
  ·rw [decide_eq_true h1,Bool.not_true,if_neg (by simp),z9X,Option.bind_some,Option.bind_some]
   by_cases h2:1≤a.Mode∧a.Mode≤3
   ·rw [decide_eq_true h2,Bool.not_true,if_neg (by simp)]
    by_cases h3:a.Mode=3
    ·rw [if_pos h3,if_pos h3]
     by_cases h4:a.Type_=2
     ·rw [if_pos h4,decide_eq_true h4]; simp
     ·rw [if_neg h4,decide_eq_false h4]; rfl
    ·rw [if_neg h3,if_neg h3]
     cases hc:a.Circular with
     | true=>rw [if_pos rfl]; simp
     | false=>rw [if_neg (by simp)]; simp
   ·rw [decide_eq_false h2]; rfl
  ·rw [decide_eq_false h1]; rfl
theorem k1Q (a:Attribute):q7L a=some (z4e a):=by
 unfold q7L z4e
 rw [z1C,Option.bind_some]
 cases q8U a.Name with
 | false=>rfl
 | true=>
  rw [if_pos rfl,z7c,Option.bind_some,Option.bind_some]
  by_cases h1:1≤a.Type_∧a.Type_≤4
  ·rw [decide_eq_true h1,Bool.not_true,if_neg (by simp),z7c,Option.bind_some,Option.bind_some]
   by_cases h2:1≤a.Mode∧a.Mode≤3
   ·rw [decide_eq_true h2,Bool.not_true,if_neg (by simp)]
    by_cases h3:a.Mode=3
    ·rw [if_pos h3,if_pos h3]
     by_cases h4:a.Type_=2
     ·rw [if_pos h4,decide_eq_true h4]
      cases hc:a.Circular with
      | true=>rfl
      | false=>rfl
     ·rw [if_neg h4,decide_eq_false h4]; rfl
    ·rw [if_neg h3,if_neg h3]
     cases hc:a.Circular with
     | true=>simp
     | false=>simp
   ·rw [decide_eq_false h2]; rfl
  ·rw [decide_eq_false h1]; rfl
def symB (s:Symbol):Bool:=s.Attributes.all z4e&&(q8U s.Name&&(decide (s.Attributes.length≤4)&&j7G (fun a:Attribute=>a.Name) s.Attributes))
theorem k3A (s:Symbol):q8X s=some (symB s):=by
 unfold q8X symB
 rw [show findL (q9K s) 0 s.Attributes ()=_ from z7e (bad:=fun p x=>!z4e x||dupB (fun a:Attribute=>a.Name) p x) (c:=fun _=>false) (all:=s.Attributes) (f:=q9K s) (fun pre x post e=>by
  unfold q9K
  rw [k1P,Option.bind_some]
  cases z4e x with
  | false=>rfl
  | true=>
   rw [if_pos rfl,q3G (by rw [e]; simp),show s.Attributes.take pre.length=pre by rw [e]; simp]
   unfold q3Z q4g
   rw [q4V (q:=fun o:Attribute=>decide (o.Name=x.Name)) fun k y hy=>by
    unfold q6b q9q
    rw [Option.bind_some]
    by_cases h:y.Name=x.Name
    ·rw [decide_eq_true h]; rfl
    ·rw [decide_eq_false h]; rfl]
   rw [Option.bind_some,← apply_ite some]; rfl) s.Attributes [] rfl]
 have hor:=j8O (a:=fun x:Attribute=>!z4e x) (b:=dupB (fun a:Attribute=>a.Name)) s.Attributes []
 simp only [Bool.not_not] at hor
 have e2:(s.Attributes.all fun x=>z4e x)=s.Attributes.all z4e:=rfl
 unfold j7G
 rw [e2] at hor
 cases hb:q4S (fun p x=>!z4e x||dupB (fun a:Attribute=>a.Name) p x) [] s.Attributes with
 | some k=>
  rw [hb] at hor
  show some false=_
  have:(s.Attributes.all z4e&&(q4S (dupB fun a:Attribute=>a.Name) [] s.Attributes).isNone)=false:=hor.symm
  congr 1
  cases h1:s.Attributes.all z4e with
  | false=>rfl
  | true=>rw [h1] at this; simp at this; simp [this]
 | none=>
  rw [hb] at hor
  have:(s.Attributes.all z4e&&(q4S (dupB fun a:Attribute=>a.Name) [] s.Attributes).isNone)=true:=hor.symm
  rw [Bool.and_eq_true] at this
  show ((q4E s.Name).bind _)=_
  rw [z3h,Option.bind_some,this.1,this.2]
  cases q8U s.Name with
  | false=>rfl
  | true=>
   rw [if_pos rfl,Option.bind_some]
   congr 1
   simp; omega
theorem k3B {s:Symbol}(h:s.Attributes.length≤1048576):q9b s=some (symB s):=by
 unfold q9b symB
 have hloop:∀ (ys:List Attribute) (i:Nat) (t:List ByteArray),t.length+ys.length≤1048576→findL q9O i ys t=some (if ys.all z4e=true then .inl (t++ys.map fun a=>a.Name) else .inr false):=by
  intro ys
  induction ys with
  | nil=>intro i t _; simp [findL]
  | cons y ys ih=>
   intro i t ht
   simp only [List.length_cons] at ht
   simp only [findL]
   have e:q9O i y t=some (if z4e y=true then .inl (t++[y.Name]) else .inr false):=by
    unfold q9O
    rw [k1Q,Option.bind_some]
    cases z4e y with
    | false=>rfl
    | true=>rw [if_pos rfl,if_pos rfl,q3G (by constructor<;>omega)]
   rw [e,Option.bind_some]
   by_cases hy:z4e y=true
   ·rw [if_pos hy,show (y :: ys).all z4e=ys.all z4e by simp [hy]]
    dsimp only
    rw [ih _ _ (by simp; omega)]
    simp
   ·rw [if_neg hy,show (y :: ys).all z4e=false by simp [hy]]; rfl
 rw [hloop _ _ _ (by simpa using h)]
 cases hA:s.Attributes.all z4e with
 | false=>rfl
 | true=>
  rw [if_pos rfl,Option.bind_some,z1H,List.nil_append,z1C,Option.bind_some]
  cases q8U s.Name with
  | false=>rfl
  | true=>
   rw [if_pos rfl,Option.bind_some,List.length_map]
   by_cases hl:s.Attributes.length≤4
   ·rw [decide_eq_true (by omega:(s.Attributes.length:Int)≤4),if_pos rfl,k0g,Option.bind_some,Option.bind_some,decide_eq_true hl]
    have:=j6j (nm:=fun a:Attribute=>a.Name) s.Attributes []
    unfold j7G
    rw [List.map_nil] at this
    rw [this]; rfl
   ·rw [decide_eq_false (by omega:¬ (s.Attributes.length:Int)≤4),if_neg (by simp),decide_eq_false hl]; rfl
end Go.Proofs.YtpnkinhphabkcaaGreat
namespace Go.Proofs.YtpnkinhphabkcaaGreat
open Go Go.E
theorem z8U {r:Rule}{q:Contribution}(h:q∈r.Contributions):Sz.szd q.Target≤Sz.szd r∧Sz.szd q.Value≤Sz.szd r:=by
 have h1:=z8J r
 have h2:=z6b q
 have h3:=z8M h
 have h4:=q7a q.Target
 have h5:=q7a q.Value
 omega
theorem z2g {g:Grammar}{r:Rule}(h:r∈g.Rules):Sz.szd r≤Sz.szd g:=by
 have h1:=z5M g
 have h3:=z8M h
 omega
theorem k4F {r:Rule}(h:Sz.szd r≤1048576):r.Equations.length≤1048576∧r.Contributions.length≤1048576:=by
 have h1:=z8J r
 have h2:=q7W r.Equations
 have h3:=q7W r.Contributions
 omega
def z0g (n:Int)(e:Expr):Bool:=allE (fun x=>decide (x.Pos≤n)) e
theorem j7H (n:Int)(e:Expr):∀ m,fuE e≤m→q7G m e n=some (z0g n e):=by
 induction e using z0x with
 | h e ih=>
  intro m hm
  obtain⟨m,rfl⟩:∃ q,m=q+1:=⟨m - 1,by have:=z5f e; omega⟩
  show q9z (q7G m) e n=_
  unfold q9z
  rw [q4D (c:=false) (q:=z0g n) fun k x hx=>by
   unfold q9y
   rw [ih x hx m (by have:=z4o hx; omega),Option.bind_some]
   cases z0g n x<;>rfl]
  have e1:z0g n e=(decide (e.Pos≤n)&&e.Args.all (z0g n)):=by unfold z0g; rw [z9s]
  rw [e1,Option.bind_some]
  cases e.Args.all (z0g n) with
  | true=>rw [if_pos rfl,z1H,Bool.and_true]
  | false=>rw [if_neg (by simp),j0Q,Bool.and_false]
theorem k0h (n:Int)(e:Expr):z5z e n=some (z0g n e):=q9Y (fuE e) fun m hm=>j7H n e m hm
theorem j7I (n:Int)(e:Expr):∀ m,fuE e≤m→q7n m e n=some (z0g n e):=by
 induction e using z0x with
 | h e ih=>
  intro m hm
  obtain⟨m,rfl⟩:∃ q,m=q+1:=⟨m - 1,by have:=z5f e; omega⟩
  show q7m (q7n m) e n=_
  unfold q7m q4e q4n z8v
  have e1:z0g n e=(decide (e.Pos≤n)&&e.Args.all (z0g n)):=by unfold z0g; rw [z9s]
  rw [Option.bind_some,e1]
  cases decide (e.Pos≤n) with
  | false=>rfl
  | true=>
   rw [if_pos rfl,q4V (q:=fun x=>!z0g n x) fun k x hx=>by
    unfold q6k q7R
    rw [ih x hx m (by have:=z4o hx; omega),Option.bind_some,Option.bind_some]
    cases z0g n x<;>rfl]
   rw [Bool.true_and,← j1W]; rfl
theorem k0i (n:Int)(e:Expr):z0a e n=some (z0g n e):=q9Y (fuE e) fun m hm=>j7I n e m hm
def z4E (e:Expr)(n:Int):Bool:=j1X e&&z0g n e
theorem j4G {e:Expr}(h:Sz.szd e≤1048576)(n:Int):z7M e n=some (z4E e n):=by
 unfold z7M z4E
 have:=k4B h
 rw [k1s (by omega),Option.bind_some]
 cases j1X e with
 | false=>rfl
 | true=>rw [if_pos rfl,k0i]; rfl
theorem j4H {e:Expr}(h:Sz.szd e≤1048576)(n:Int):z0j e n=some (z4E e n):=by
 unfold z0j z4E
 have:=k4B h
 rw [z8O (by omega),Option.bind_some]
 cases j1X e with
 | false=>rfl
 | true=>rw [if_pos rfl,k0h]; rfl
def eqnB (n:Int)(q:Equation):Bool:=z4E q.Expr n&&(q8U q.At.Name&&decide (0≤q.At.Pos∧q.At.Pos≤n))
def conB (n:Int)(q:Contribution):Bool:=(z4E q.Target n&&z4E q.Value n)&&(q8U q.Symbol&&q8U q.Name)
def ruleB (r:Rule):Bool:=(q8U r.Name&&q8U r.Left)&&((decide (r.Right.length≤3)&&decide (r.Contributions.length≤2))&&(r.Right.all q8U&&(r.Equations.all (eqnB (r.Right.length:Int))&&r.Contributions.all (conB (r.Right.length:Int)))))
theorem j6k {α β γ:Type}{p:α→Bool}{q:β→Bool}{t:γ→Bool}(xs:List α)(ys:List β)(zs:List γ) :
  ((some (if xs.all p=true then (.inl ():Unit ⊕ Bool) else .inr false)).bind <| onr (fun r1=>some r1) fun _=>
   (some (if ys.all q=true then (.inl ():Unit ⊕ Bool) else .inr false)).bind <| onr (fun r1=>some r1) fun _=>
   (some (if zs.all t=true then (.inl ():Unit ⊕ Bool) else .inr false)).bind <| onr (fun r1=>some r1) fun _=>some true)=some (xs.all p&&(ys.all q&&zs.all t)):=by
 cases xs.all p<;>cases ys.all q<;>cases zs.all t<;>rfl
theorem k1R {r:Rule}(h:Sz.szd r≤1048576):z0m r=some (ruleB r):=by
 unfold z0m ruleB
 rw [z3h,Option.bind_some]
 cases q8U r.Name with
 | false=>rfl
 | true=>
  rw [if_pos rfl,z3h,Option.bind_some,Option.bind_some]
  cases q8U r.Left with
  | false=>rfl
  | true=>
   rw [Bool.not_true,if_neg (by simp),Option.bind_some]
   by_cases h3:r.Right.length≤3
   ·rw [decide_eq_true h3,decide_eq_false (by omega),if_neg (by simp),Option.bind_some]
    by_cases h2:r.Contributions.length≤2
    ·rw [decide_eq_true h2,decide_eq_false (by omega),if_neg (by simp)]
     rw [q4D (c:=false) (q:=q8U) fun k x hx=>by
      unfold z6C; rw [z3h,Option.bind_some]; cases q8U x<;>rfl]
     rw [q4D (c:=false) (q:=eqnB (r.Right.length:Int)) fun k x hx=>by
      unfold z6D eqnB
      rw [j4G (Nat.le_trans (z8b hx) h),Option.bind_some]
      cases z4E x.Expr (r.Right.length:Int) with
      | false=>rfl
      | true=>
       rw [if_pos rfl,z3h,Option.bind_some,Option.bind_some]
       cases q8U x.At.Name with
       | false=>rfl
       | true=>
        rw [Bool.not_true,if_neg (by simp),z9X,Option.bind_some,Option.bind_some]
        cases decide (0≤x.At.Pos∧x.At.Pos≤(r.Right.length:Int))<;>rfl]
     rw [q4D (c:=false) (q:=conB (r.Right.length:Int)) fun k x hx=>by
      have hs:=z8U hx
      unfold z6E conB
      rw [j4G (Nat.le_trans hs.1 h),Option.bind_some]
      cases z4E x.Target (r.Right.length:Int) with
      | false=>rfl
      | true=>
       rw [if_pos rfl,j4G (Nat.le_trans hs.2 h),Option.bind_some,Option.bind_some]
       cases z4E x.Value (r.Right.length:Int) with
       | false=>rfl
       | true=>
        rw [Bool.not_true,if_neg (by simp),z3h,Option.bind_some,Option.bind_some]
        cases q8U x.Symbol with
        | false=>rfl
        | true=>
         rw [Bool.not_true,if_neg (by simp),z3h,Option.bind_some,Option.bind_some]
         cases q8U x.Name<;>rfl]
     exact j6k _ _ _
    ·rw [decide_eq_false h2,decide_eq_true (by omega)]; rfl
   ·rw [decide_eq_false h3,decide_eq_true (by omega)]; rfl
theorem k1S {r:Rule}(h:Sz.szd r≤1048576):z0p r=some (ruleB r):=by
 unfold z0p ruleB
 rw [z1C,Option.bind_some]
 cases q8U r.Name with
 | false=>rfl
 | true=>
  rw [if_pos rfl,z1C,Option.bind_some,Option.bind_some]
  cases q8U r.Left with
  | false=>rfl
  | true=>
   rw [Bool.not_true,if_neg (by simp),Option.bind_some]
   by_cases h3:r.Right.length≤3
   ·rw [decide_eq_true h3,decide_eq_false (by omega),if_neg (by simp),Option.bind_some]
    by_cases h2:r.Contributions.length≤2
    ·rw [decide_eq_true h2,decide_eq_false (by omega),if_neg (by simp)]
     rw [q4D (c:=false) (q:=q8U) fun k x hx=>by
      unfold z6M; rw [z1C,Option.bind_some]; cases q8U x<;>rfl]
     rw [q4D (c:=false) (q:=eqnB (r.Right.length:Int)) fun k x hx=>by
      unfold z6N eqnB
      rw [z1C,Option.bind_some]
      cases q8U x.At.Name with
      | false=>rw [Bool.false_and,Bool.and_false]; rfl
      | true=>
       rw [if_pos rfl,z7c,Option.bind_some,Option.bind_some]
       cases decide (0≤x.At.Pos∧x.At.Pos≤(r.Right.length:Int)) with
       | false=>rw [Bool.and_false,Bool.and_false]; rfl
       | true=>
        rw [Bool.not_true,if_neg (by simp),j4H (Nat.le_trans (z8b hx) h),Option.bind_some,Option.bind_some]
        cases z4E x.Expr (r.Right.length:Int)<;>rfl]
     rw [q4D (c:=false) (q:=conB (r.Right.length:Int)) fun k x hx=>by
      have hs:=z8U hx
      unfold z6O conB
      rw [z1C,Option.bind_some]
      cases q8U x.Symbol with
      | false=>rw [Bool.false_and,Bool.and_false]; rfl
      | true=>
       rw [if_pos rfl,z1C,Option.bind_some,Option.bind_some]
       cases q8U x.Name with
       | false=>rw [Bool.and_false,Bool.and_false]; rfl
       | true=>
        rw [Bool.not_true,if_neg (by simp),j4H (Nat.le_trans hs.1 h),Option.bind_some,Option.bind_some]
        cases z4E x.Target (r.Right.length:Int) with
        | false=>rfl
        | true=>
         rw [Bool.not_true,if_neg (by simp),j4H (Nat.le_trans hs.2 h),Option.bind_some,Option.bind_some]
         cases z4E x.Value (r.Right.length:Int)<;>rfl]
     exact j6k _ _ _
    ·rw [decide_eq_false h2,decide_eq_true (by omega)]; rfl
   ·rw [decide_eq_false h3,decide_eq_true (by omega)]; rfl
def z5n (p:List Symbol)(x:Symbol):Bool:=!symB x||dupB (fun y:Symbol=>y.Name) p x
def z2V (p:List Rule)(x:Rule):Bool:=!ruleB x||dupB (fun y:Rule=>y.Name) p x
def z7G (g:Grammar):Int:=match q4S z5n [] g.Symbols with
 | some k=>(k:Int)
 | none=>match q4S z2V [] g.Rules with
  | some k=>(k:Int)
  | none=>-1
theorem k1T {g:Grammar}(h:Sz.szd g≤1048576):z1d g=some (z7G g):=by
 unfold z1d z7G
 rw [show findL (z2k g) 0 g.Symbols ()=_ from z7e (bad:=z5n) (c:=fun k=>(k:Int)) (all:=g.Symbols) (f:=z2k g) (fun pre x post e=>by
  unfold z2k z5n
  rw [k3A,Option.bind_some]
  cases symB x with
  | false=>rfl
  | true=>
   rw [if_pos rfl,q3G (by rw [e]; simp),show g.Symbols.take pre.length=pre by rw [e]; simp]
   unfold q4w q4N
   rw [q4V (q:=fun o:Symbol=>decide (o.Name=x.Name)) fun k y hy=>by
    unfold q6Q z1a
    rw [Option.bind_some]
    by_cases h:y.Name=x.Name
    ·rw [decide_eq_true h]; rfl
    ·rw [decide_eq_false h]; rfl]
   rw [Option.bind_some,← apply_ite some]; rfl) g.Symbols [] rfl]
 rw [show findL (z2l g) 0 g.Rules ()=_ from z7e (bad:=z2V) (c:=fun k=>(k:Int)) (all:=g.Rules) (f:=z2l g) (fun pre x post e=>by
  unfold z2l z2V
  rw [k1R (Nat.le_trans (z2g (by rw [e]; simp)) h),Option.bind_some]
  cases ruleB x with
  | false=>rfl
  | true=>
   rw [if_pos rfl,q3G (by rw [e]; simp),show g.Rules.take pre.length=pre by rw [e]; simp]
   unfold q4F q4W
   rw [q4V (q:=fun o:Rule=>decide (o.Name=x.Name)) fun k y hy=>by
    unfold q6X z1c
    rw [Option.bind_some]
    by_cases h:y.Name=x.Name
    ·rw [decide_eq_true h]; rfl
    ·rw [decide_eq_false h]; rfl]
   rw [Option.bind_some,← apply_ite some]; rfl) g.Rules [] rfl]
 cases q4S z5n [] g.Symbols with
 | some k=>rfl
 | none=>cases q4S z2V [] g.Rules<;>rfl
theorem j7J {g:Grammar}(h:Sz.szd g≤1048576):g.Symbols.length≤1048576∧g.Rules.length≤1048576:=by
 have h1:=z5M g
 have h2:=q7W g.Symbols
 have h3:=q7W g.Rules
 omega
theorem k1U {g:Grammar}(h:Sz.szd g≤1048576):z6P g=some (z7G g):=by
 have hl:=j7J h
 unfold z6P z7G
 have h1:=(z5m (bad:=z5n) (nm:=fun y:Symbol=>y.Name) (c:=fun k=>(k:Int)) (all:=g.Symbols) (f:=fun k x _=>some (if z5n (g.Symbols.take k) x=true then .inr (k:Int) else .inl ())) (h:=z7r) (fun pre x post e=>by
   rw [show g.Symbols.take pre.length=pre by rw [e]; simp]) (fun pre x post e=>by
  unfold z7r z5n
  rw [k3B (q9p h x (by rw [e]; simp)),Option.bind_some]
  cases symB x with
  | false=>rfl
  | true=>
   have hp:pre.length≤1048576:=by
     have:g.Symbols.length=pre.length+(post.length+1):=by rw [e]; simp
     omega
   rw [if_pos rfl,k1O,Option.bind_some,List.any_map,q3G (by rw [List.length_map]; constructor<;>omega),List.map_append,← apply_ite some]; rfl) g.Symbols [] rfl).2
 have h2:=(z5m (bad:=z2V) (nm:=fun y:Rule=>y.Name) (c:=fun k=>(k:Int)) (all:=g.Rules) (f:=fun k x _=>some (if z2V (g.Rules.take k) x=true then .inr (k:Int) else .inl ())) (h:=z7s) (fun pre x post e=>by
   rw [show g.Rules.take pre.length=pre by rw [e]; simp]) (fun pre x post e=>by
  unfold z7s z2V
  rw [k1S (Nat.le_trans (z2g (by rw [e]; simp)) h),Option.bind_some]
  cases ruleB x with
  | false=>rfl
  | true=>
   have hp:pre.length≤1048576:=by
     have:g.Rules.length=pre.length+(post.length+1):=by rw [e]; simp
     omega
   rw [if_pos rfl,k1O,Option.bind_some,List.any_map,q3G (by rw [List.length_map]; constructor<;>omega),List.map_append,← apply_ite some]; rfl) g.Rules [] rfl).2
 rw [show findL z7r 0 g.Symbols []=_ from h1,show findL z7s 0 g.Rules []=_ from h2]
 cases q4S z5n [] g.Symbols with
 | some k=>rfl
 | none=>cases q4S z2V [] g.Rules<;>rfl
end Go.Proofs.YtpnkinhphabkcaaGreat
namespace Go.Proofs.YtpnkinhphabkcaaGreat
open Go Go.E
theorem j2f {ρ:Type}{c:ρ}{q:Nat→Bool}{n:Nat}{f:Nat→Unit→Option (Unit ⊕ ρ)}(h:∀ k,k < n→f k ()=some (if q k=true then .inl () else .inr c)):∀ (m k:Nat),k+m=n→findN f k m ()=some (if (List.range' k m).all q=true then .inl () else .inr c)
 | 0,k,_=>rfl
 | m+1,k,hk=>by
  have ih:=j2f h m (k+1) (by omega)
  rw [findN,h k (by omega),Option.bind_some]
  by_cases hq:q k=true
  ·rw [if_pos hq,show (List.range' k (m+1)).all q=(List.range' (k+1) m).all q by simp [List.range'_succ,hq]]
   exact ih
  ·rw [if_neg hq,show (List.range' k (m+1)).all q=false by simp [List.range'_succ,hq]]; rfl
theorem j8P {ρ:Type}{c:ρ}{q:Nat→Bool}{n:Nat}{f:Int→Option (Int ⊕ (Unit ⊕ ρ))}(h:∀ k:Nat,k < n→f (k:Int)=some (if q k=true then .inl ((k+1:Nat):Int) else .inr (.inr c)))(he:f (n:Int)=some (.inr (.inl ()))):∀ (m k:Nat),k+m=n→q4L f (k:Int)=some (if (List.range' k m).all q=true then .inl () else .inr c)
 | 0,k,hk=>by
  obtain rfl:k=n:=by omega
  exact q3I he
 | m+1,k,hk=>by
  have ih:=j8P h he m (k+1) (by omega)
  have h1:=h k (by omega)
  by_cases hq:q k=true
  ·rw [if_pos hq] at h1
   rw [q3W h1,show (List.range' k (m+1)).all q=(List.range' (k+1) m).all q by simp [List.range'_succ,hq]]
   exact ih
  ·rw [if_neg hq] at h1
   rw [q3I h1,show (List.range' k (m+1)).all q=false by simp [List.range'_succ,hq]]; rfl
def j2g (g:Grammar)(r:Rule):Bool:=(List.range' 0 (r.Right.length+1)).all fun k=>(q6V g (q5Q r (k:Int))).2
theorem j7K (g:Grammar){r:Rule}(hl:ROk r):z4R g r=some (!j2g g r):=by
 have hl' : r.Right.length≤1048576:=hl
 unfold z4R
 rw [q3G (by constructor<;>omega),j2f (c:=true) (n:=r.Right.length+1) (q:=fun k=>(q6V g (q5Q r (k:Int))).2) (fun k hk=>by
  unfold j1w
  rw [z8c hl,Option.bind_some,z3X,Option.bind_some]
  dsimp only
  rw [← apply_ite some]) (r.Right.length+1) 0 (by omega)]
 unfold j2g
 cases (List.range' 0 (r.Right.length+1)).all fun k=>(q6V g (q5Q r (k:Int))).2<;>rfl
theorem j7L {g:Grammar}(h:GOk g){r:Rule}(hl:ROk r):z1m g r=some (j2g g r):=by
 have hl' : r.Right.length≤1048576:=hl
 unfold z1m
 have e:=j8P (c:=false) (q:=fun k=>(q6V g (q5Q r (k:Int))).2) (n:=r.Right.length+1) (f:=z0q g r) (fun k hk=>by
  unfold z0q
  rw [if_pos (by omega),z3Z hl,Option.bind_some,z2N h,Option.bind_some]
  dsimp only
  rw [q3G (by constructor<;>omega),← apply_ite some]; rfl) (by
  unfold z0q; rw [if_neg (by omega)]) (r.Right.length+1) 0 (by omega)
 rw [show q4L (z0q g r) 0=_ from e]
 unfold j2g
 cases (List.range' 0 (r.Right.length+1)).all fun k=>(q6V g (q5Q r (k:Int))).2<;>rfl
theorem k5L (K:List Occurrence)(o:Occurrence):q5v K o=some (decide (o∈K)):=by
 unfold q5v q3T
 rw [q4V (q:=fun x=>decide (o=x)) fun k x hx=>by
  unfold q3X
  by_cases h:o=x
  ·rw [if_pos h,if_pos (by simpa using h)]
  ·rw [if_neg h,if_neg (by simpa using h)]]
 congr 1
 by_cases h:o∈K
 ·rw [decide_eq_true h,List.any_eq_true]; exact⟨o,h,by simp⟩
 ·rw [decide_eq_false h,List.any_eq_false]; intro x hx he; simp at he; exact h (he▸hx)
theorem k1V (K:List Occurrence)(o:Occurrence):z1V K o=some (decide (o∈K)):=by
 unfold z1V
 rw [q4D (c:=true) (q:=fun x=>!decide (x=o)) fun k x hx=>by
  unfold z9Q
  by_cases h:x=o
  ·rw [if_pos h,if_neg (by simp [h])]
  ·rw [if_neg h,if_pos (by simp [h])]]
 by_cases h:o∈K
 ·rw [decide_eq_true h,if_neg]; · rfl
  rw [List.all_eq_true]; intro hh; have:=hh o h; simp at this
 ·rw [decide_eq_false h,if_pos]; · rfl
  rw [List.all_eq_true]; intro x hx; simp; exact fun e=>h (e▸hx)
def j6l (r:Rule)(o:Occurrence):Bool:=r.Equations.any fun q=>decide (q.At=o)
theorem k3C (r:Rule)(o:Occurrence):(eqAt r o).2=j6l r o:=by
 unfold eqAt j6l
 cases hf:r.Equations.find? (fun q=>decide (q.At=o)) with
 | none=>rw [List.find?_eq_none] at hf; symm; rw [List.any_eq_false]; exact hf
 | some q=>symm; rw [List.any_eq_true]; exact⟨q,List.mem_of_find?_eq_some hf,List.find?_some (p:=fun q:Equation=>decide (q.At=o)) hf⟩
def k1W (g:Grammar)(r:Rule):Bool:=(reqL g r).any fun o=>!j6l r o
theorem k3D {g:Grammar}(h:GOk g){r:Rule}(hl:ROk r):z4S g r=some (k1W g r):=by
 unfold z4S k1W
 rw [k1N h hl,Option.bind_some]
 unfold q4s q4H
 rw [q4V (q:=fun o=>!j6l r o) fun k o ho=>by
  unfold q6F z4h q4r q4G
  rw [q4V (q:=fun q:Equation=>decide (q.At=o)) fun k y hy=>by
   unfold q6E z2m
   rw [Option.bind_some]
   by_cases h:y.At=o
   ·rw [decide_eq_true h]; rfl
   ·rw [decide_eq_false h]; rfl]
  rw [Option.bind_some,Option.bind_some,← apply_ite some]; rfl]
 rfl
theorem k3E {g:Grammar}(h:GOk g){r:Rule}(hr:Sz.szd r≤1048576):z1o g r=some (k1W g r):=by
 unfold z1o k1W
 rw [j7F h (q6n hr),Option.bind_some,q4D (c:=true) (q:=j6l r) fun k o ho=>by
  unfold z7B
  rw [j4F hr o,Option.bind_some]
  dsimp only
  rw [k3C,← apply_ite some]]
 have e:((reqL g r).all (j6l r))=!((reqL g r).any fun o=>!j6l r o):=by rw [j1W]
 rw [e]
 cases (reqL g r).any fun o=>!j6l r o<;>rfl
def j6m (g:Grammar)(r:Rule):Bool:=(q4S (fun p (x:Equation)=>!decide (x.At∈reqL g r)||p.any fun o=>decide (o.At=x.At)) [] r.Equations).isSome
theorem k1X {g:Grammar}(h:GOk g){r:Rule}(hl:ROk r):z8x g r=some (j6m g r):=by
 unfold z8x j6m
 rw [k1N h hl,Option.bind_some]
 rw [show findL (z8w r (reqL g r)) 0 r.Equations ()=_ from z7e (bad:=fun p (x:Equation)=>!decide (x.At∈reqL g r)||p.any fun o=>decide (o.At=x.At)) (c:=fun _=>true) (all:=r.Equations) (f:=z8w r (reqL g r)) (fun pre x post e=>by
  unfold z8w
  rw [k5L,Option.bind_some]
  cases decide (x.At∈reqL g r) with
  | false=>rfl
  | true=>
   rw [if_pos rfl,q3G (by rw [e]; simp),show r.Equations.take pre.length=pre by rw [e]; simp]
   unfold q4O q5c
   rw [q4V (q:=fun o:Equation=>decide (o.At=x.At)) fun k y hy=>by
    unfold q7o z7p
    rw [Option.bind_some]
    by_cases h:y.At=x.At
    ·rw [decide_eq_true h]; rfl
    ·rw [decide_eq_false h]; rfl]
   rw [Option.bind_some,← apply_ite some]; rfl) r.Equations [] rfl]
 cases q4S (fun p (x:Equation)=>!decide (x.At∈reqL g r)||p.any fun o=>decide (o.At=x.At)) [] r.Equations<;>rfl
theorem k1Y {g:Grammar}(h:GOk g){r:Rule}(hr:Sz.szd r≤1048576):z3P g r=some (j6m g r):=by
 have hl:=(k4F hr).1
 unfold z3P j6m
 rw [j7F h (q6n hr),Option.bind_some]
 have h1:=(z5m (bad:=fun p (x:Equation)=>!decide (x.At∈reqL g r)||p.any fun o=>decide (o.At=x.At)) (nm:=fun y:Equation=>y.At) (c:=fun _=>true) (all:=r.Equations)
  (f:=fun k x _=>some (if (!decide (x.At∈reqL g r)||(r.Equations.take k).any fun o=>decide (o.At=x.At))=true then .inr true else .inl ())) (h:=z4j (reqL g r)) (fun pre x post e=>by
   rw [show r.Equations.take pre.length=pre by rw [e]; simp]) (fun pre x post e=>by
  unfold z4j
  rw [k1V,Option.bind_some]
  cases decide (x.At∈reqL g r) with
  | false=>rfl
  | true=>
   have hp:pre.length≤1048576:=by
     have:r.Equations.length=pre.length+(post.length+1):=by rw [e]; simp
     omega
   have e2:decide (x.At∈pre.map fun y:Equation=>y.At)=pre.any fun o=>decide (o.At=x.At):=by
    by_cases hm:x.At∈pre.map fun y:Equation=>y.At
    ·rw [decide_eq_true hm]; symm; rw [List.any_eq_true]
     obtain⟨y,hy,he⟩:=List.mem_map.1 hm
     exact⟨y,hy,by simpa using he⟩
    ·rw [decide_eq_false hm]; symm; rw [List.any_eq_false]
     intro y hy he
     exact hm (List.mem_map.2 ⟨y,hy,by simpa using he⟩)
   rw [if_pos rfl,k1V,Option.bind_some,e2,q3G (by rw [List.length_map]; constructor<;>omega),List.map_append,← apply_ite some]; rfl) r.Equations [] rfl).2
 rw [show findL (z4j (reqL g r)) 0 r.Equations []=_ from h1]
 cases q4S (fun p (x:Equation)=>!decide (x.At∈reqL g r)||p.any fun o=>decide (o.At=x.At)) [] r.Equations<;>rfl
def useB (g:Grammar)(r:Rule)(e:Expr):Bool:=(attrs e).all (mayB g r)
theorem j4I {g:Grammar}(h:GOk g){r:Rule}(hl:ROk r){e:Expr}(he:Sz.szd e≤1048576):z1W g r e=some (useB g r e):=by
 unfold z1W useB
 rw [j8G he,Option.bind_some,q4D (c:=false) (q:=mayB g r) fun k x hx=>by
  unfold j1J
  rw [k5K h hl,Option.bind_some,← apply_ite some]]
 cases (attrs e).all (mayB g r)<;>rfl
theorem k3F (g:Grammar){r:Rule}(hl:ROk r){e:Expr}(he:Sz.szd e≤1048576):z2A e g r=some (!useB g r e):=by
 unfold z2A useB
 rw [j4v he,Option.bind_some]
 unfold q4i q4y
 rw [q4V (q:=fun o=>!mayB g r o) fun k o ho=>by
  unfold q6t z2n
  rw [k5J g hl,Option.bind_some,Option.bind_some,← apply_ite some]]
 rw [Option.bind_some,← j1W,Bool.not_not]
def z4q (r:Rule):List Expr:=r.Equations.map (fun q=>q.Expr)++r.Contributions.flatMap fun q=>[q.Target,q.Value]
theorem j8Q {r:Rule}(hr:Sz.szd r≤1048576):q9e r=some (z4q r):=by
 have hl:=k4F hr
 have h1:∀ (xs:List Equation) (i:Nat) (s:List Expr),s.length+xs.length≤1048576→eachL z1f i xs s=some (s++xs.map fun q=>q.Expr):=by
  intro xs
  induction xs with
  | nil=>intro i s _; simp [eachL]
  | cons x xs ih=>
   intro i s hs
   simp only [List.length_cons] at hs
   have e:z1f i x s=some (s++[x.Expr]):=by unfold z1f; rw [q3G (by constructor<;>omega)]
   rw [eachL,e,Option.bind_some,ih _ _ (by simp; omega)]; simp
 have h2:∀ (xs:List Contribution) (i:Nat) (s:List Expr),s.length+2*xs.length≤4194304→eachL z1g i xs s=some (s++xs.flatMap fun q=>[q.Target,q.Value]):=by
  intro xs
  induction xs with
  | nil=>intro i s _; simp [eachL]
  | cons x xs ih=>
   intro i s hs
   simp only [List.length_cons] at hs
   have e:z1g i x s=some (s++[x.Target,x.Value]):=by
    unfold z1g; rw [q3G (by simp only [List.length_cons,List.length_nil]; constructor<;>omega)]
   rw [eachL,e,Option.bind_some,ih _ _ (by simp; omega)]; simp
 unfold q9e z4q
 rw [h1 _ _ _ (by simpa using hl.1),Option.bind_some,h2 _ _ _ (by simp; omega)]; simp
theorem k3G {r:Rule}{e:Expr}(h:e∈z4q r):Sz.szd e≤Sz.szd r:=by
 unfold z4q at h
 rcases List.mem_append.1 h with h | h
 ·obtain⟨q,hq,rfl⟩:=List.mem_map.1 h; exact z8b hq
 ·obtain⟨q,hq,he⟩:=List.mem_flatMap.1 h
  have:=z8U hq
  simp at he
  rcases he with rfl | rfl
  ·exact this.1
  ·exact this.2
def misB (g:Grammar)(r:Rule):Bool:=!(z4q r).all (useB g r)
theorem k5M (g:Grammar){r:Rule}(hr:Sz.szd r≤1048576):z4U g r=some (misB g r):=by
 unfold z4U misB
 rw [j8Q hr,Option.bind_some]
 unfold q4X q5l
 rw [q4V (q:=fun e=>!useB g r e) fun k e he=>by
  unfold q7I
  rw [k3F g (q6n hr) (Nat.le_trans (k3G he) hr),Option.bind_some,← apply_ite some]]
 rw [Option.bind_some,← j1W,Bool.not_not]
theorem k5N {g:Grammar}(h:GOk g){r:Rule}(hr:Sz.szd r≤1048576):z2J g r=some (misB g r):=by
 unfold z2J misB
 rw [q4D (c:=true) (q:=fun q:Equation=>useB g r q.Expr) fun k x hx=>by
  unfold z8G
  rw [j4I h (q6n hr) (Nat.le_trans (z8b hx) hr),Option.bind_some,← apply_ite some]]
 rw [q4D (c:=true) (q:=fun q:Contribution=>useB g r q.Target&&useB g r q.Value) fun k x hx=>by
  have hs:=z8U hx
  unfold z8H
  rw [j4I h (q6n hr) (Nat.le_trans hs.1 hr),Option.bind_some]
  cases useB g r x.Target with
  | false=>rfl
  | true=>rw [if_pos rfl,j4I h (q6n hr) (Nat.le_trans hs.2 hr),Option.bind_some,← apply_ite some]; rfl]
 have e:(z4q r).all (useB g r)=((r.Equations.all fun q=>useB g r q.Expr)&&r.Contributions.all fun q=>useB g r q.Target&&useB g r q.Value):=by
  unfold z4q
  rw [List.all_append,List.all_map,List.all_flatMap]
  congr 1
  congr 1; funext q; simp
 rw [e]
 cases r.Equations.all fun q=>useB g r q.Expr with
 | false=>rfl
 | true=>cases r.Contributions.all fun q=>useB g r q.Target&&useB g r q.Value<;>rfl
end Go.Proofs.YtpnkinhphabkcaaGreat
namespace Go.Proofs.YtpnkinhphabkcaaGreat
open Go Go.E
def z4a (g:Grammar)(r:Rule)(k:Int):Bool:=if k=3 then !j2g g r else if k=4 then k1W g r else if k=5 then j6m g r else misB g r
theorem k1Z {g:Grammar}(h:GOk g){r:Rule}(hr:Sz.szd r≤1048576)(k:Int):z2K g r k=some (z4a g r k):=by
 unfold z2K z4a
 by_cases h3:k=3
 ·rw [if_pos h3,if_pos h3,j7L h (q6n hr)]; rfl
 ·rw [if_neg h3,if_neg h3]
  by_cases h4:k=4
  ·rw [if_pos h4,if_pos h4,k3E h hr]; rfl
  ·rw [if_neg h4,if_neg h4]
   by_cases h5:k=5
   ·rw [if_pos h5,if_pos h5,k1Y h hr]; rfl
   ·rw [if_neg h5,if_neg h5,k5N h hr]; rfl
theorem j6n {g:Grammar}(h:GOk g){r:Rule}(hr:Sz.szd r≤1048576)(k:Int)(i:Nat):z2o g k i r ()=some (if z4a g r k=true then .inr (k,(i:Int)) else .inl ()):=by
 unfold z2o z4a
 by_cases h3:k=3
 ·rw [if_pos h3,if_pos h3,j7K g (q6n hr),Option.bind_some,← apply_ite some]
 ·rw [if_neg h3,if_neg h3]
  by_cases h4:k=4
  ·rw [if_pos h4,if_pos h4,k3D h (q6n hr),Option.bind_some,← apply_ite some]
  ·rw [if_neg h4,if_neg h4]
   by_cases h5:k=5
   ·rw [if_pos h5,if_pos h5,k1X h (q6n hr),Option.bind_some,← apply_ite some]
   ·rw [if_neg h5,if_neg h5,k5M g hr,Option.bind_some,← apply_ite some]
theorem k2a {g:Grammar}(h:GOk g){r:Rule}(hr:Sz.szd r≤1048576)(k:Int)(i:Nat):z2t g k i r ()=some (if z4a g r k=true then .inr (k,(i:Int)) else .inl ()):=by
 unfold z2t
 rw [k1Z h hr,Option.bind_some,← apply_ite some]
theorem j2h {α σ ρ:Type}{f g:Nat→α→σ→Option (σ ⊕ ρ)}:∀ {xs:List α} {i:Nat} {s:σ},(∀ k x s,x∈xs→f k x s=g k x s)→findL f i xs s=findL g i xs s
 | [],_,_,_=>rfl
 | x :: xs,i,s,h=>by
  rw [findL,findL,h i x s (by simp)]
  congr 1; funext z
  cases z with
  | inl s'=>exact j2h fun k y s hy=>h k y s (by simp [hy])
  | inr r=>rfl
theorem j7M {g:Grammar}(h:Sz.szd g≤1048576)(k:Int):z2u g k=q6R g k:=by
 unfold z2u q6R
 have e:findL (z2t g k) 0 g.Rules ()=findL (z2o g k) 0 g.Rules ():=j2h fun i x _ hx=>by
  have hr:=Nat.le_trans (z2g hx) h
  rw [k2a (q9p h) hr,j6n (q9p h) hr]
 rw [e]
def q8J (g:Grammar)(k:Int):Option (Int × Int):=match g.Rules.findIdx? fun r=>z4a g r k with
 | some i=>some (k,(i:Int))
 | none=>none
theorem z7f {α ρ:Type}{q:α→Bool}{c:Nat→ρ}:∀ {xs:List α} {i:Nat} {f:Nat→α→Unit→Option (Unit ⊕ ρ)},(∀ k x,x∈xs→f k x ()=some (if q x=true then .inr (c k) else .inl ())) →
  findL f i xs ()=some (match xs.findIdx? q with | some j=>.inr (c (i+j)) | none=>.inl ())
 | [],_,_,_=>rfl
 | x :: xs,i,f,h=>by
  rw [findL,h i x (by simp),Option.bind_some,List.findIdx?_cons]
  by_cases hq:q x=true
  ·rw [if_pos hq,if_pos hq]; rfl
  ·rw [if_neg hq,if_neg hq]
   have ih:=z7f (q:=q) (c:=c) (xs:=xs) (i:=i+1) (f:=f) fun k y hy=>h k y (by simp [hy])
   dsimp only
   rw [ih]
   cases xs.findIdx? q with
   | none=>rfl
   | some j=>simp only [Option.map_some]; rw [show i+1+j=i+(j+1) by omega]
def z6d (g:Grammar):Int × Int:=
 if !decide (1≤g.Symbols.length∧g.Symbols.length≤4) || !decide (1≤g.Rules.length∧g.Rules.length≤8) then (1,0)
 else if 0≤z7G g then (1,z7G g)
 else if (g.Symbols.getD 0 zS).Attributes.any fun a=>decide (a.Mode=1) then (2,0)
 else (q8J g 3 <|> (q8J g 4 <|> (q8J g 5 <|> q8J g 6))).getD (0,0)
theorem j2i {g:Grammar}(h:Sz.szd g≤1048576):(q4L (q6R g) 3).bind (onr (fun r2=>some r2) fun ()=>some (0,0))=some ((q8J g 3 <|> (q8J g 4 <|> (q8J g 5 <|> q8J g 6))).getD (0,0)):=by
 have hstep:∀ k:Int,3≤k→k≤6→q6R g k=match q8J g k with | some z=>some (.inr (.inr z)) | none=>some (.inl (k+1)):=by
  intro k h3 h6
  unfold q6R q8J
  rw [if_pos h6,z7f (q:=fun r=>z4a g r k) (c:=fun i=>(k,(i:Int))) fun i x hx=>j6n (q9p h) (Nat.le_trans (z2g hx) h) k i]
  cases g.Rules.findIdx? fun r=>z4a g r k with
  | some i=>simp
  | none=>rw [Option.bind_some]; dsimp only [onr]; rw [q3G (by constructor<;>omega)]
 have hend:q6R g 7=some (.inr (.inl ())):=by unfold q6R; rw [if_neg (by omega)]
 have h3:=hstep 3 (by omega) (by omega)
 have h4:=hstep 4 (by omega) (by omega)
 have h5:=hstep 5 (by omega) (by omega)
 have h6:=hstep 6 (by omega) (by omega)
 cases s3:q8J g 3 with
 | some z=>rw [s3] at h3; rw [q3I h3]; rfl
 | none=>
  rw [s3] at h3
  rw [q3W h3,show (3:Int)+1=4 by rfl]
  cases s4:q8J g 4 with
  | some z=>rw [s4] at h4; rw [q3I h4]; rfl
  | none=>
   rw [s4] at h4
   rw [q3W h4,show (4:Int)+1=5 by rfl]
   cases s5:q8J g 5 with
   | some z=>rw [s5] at h5; rw [q3I h5]; rfl
   | none=>
    rw [s5] at h5
    rw [q3W h5,show (5:Int)+1=6 by rfl]
    cases s6:q8J g 6 with
    | some z=>rw [s6] at h6; rw [q3I h6]; rfl
    | none=>
     rw [s6] at h6
     rw [q3W h6,show (6:Int)+1=7 by rfl,q3I hend]; rfl
theorem k2b {g:Grammar}(h:Sz.szd g≤1048576):z1h g=some (z6d g):=by
 unfold z1h z6d
 rw [z9X,Option.bind_some]
 by_cases h1:1≤g.Symbols.length∧g.Symbols.length≤4
 ·rw [decide_eq_true (by omega),if_pos rfl,z9X,Option.bind_some,decide_eq_true h1]
  by_cases h2:1≤g.Rules.length∧g.Rules.length≤8
  ·rw [decide_eq_true (by omega),if_pos rfl,k1T h,Option.bind_some,decide_eq_true h2]
   simp only [Bool.not_true,Bool.or_self,Bool.false_eq_true,if_false]
   by_cases h3:0≤z7G g
   ·rw [if_pos h3,if_pos h3]
   ·rw [if_neg h3,if_neg h3,List.getD_eq_getElem?_getD,List.getElem?_eq_getElem (by omega:0 < g.Symbols.length),Option.bind_some,Option.getD_some]
    unfold q4h q4x
    rw [q4V (q:=fun a:Attribute=>decide (a.Mode=1)) fun k y hy=>by
     unfold q6s z1e
     rw [Option.bind_some,← apply_ite some]]
    rw [Option.bind_some]
    by_cases h4:(g.Symbols[0].Attributes.any fun a=>decide (a.Mode=1))=true
    ·rw [if_pos h4,if_pos h4]
    ·rw [if_neg h4,if_neg h4]
     exact j2i h
  ·rw [decide_eq_false (by omega),decide_eq_false h2]; rfl
 ·rw [decide_eq_false (by omega),decide_eq_false h1]; rfl
theorem k2c {g:Grammar}(h:Sz.szd g≤1048576):z1p g=some (z6d g):=by
 unfold z1p z6d
 rw [z7c,Option.bind_some]
 by_cases h1:1≤g.Symbols.length∧g.Symbols.length≤4
 ·rw [decide_eq_true (by omega),if_pos rfl,z7c,Option.bind_some,decide_eq_true h1]
  by_cases h2:1≤g.Rules.length∧g.Rules.length≤8
  ·rw [decide_eq_true (by omega),if_pos rfl,k1U h,Option.bind_some,decide_eq_true h2]
   simp only [Bool.not_true,Bool.or_self,Bool.false_eq_true,if_false]
   by_cases h3:0≤z7G g
   ·rw [if_pos h3,if_pos h3]
   ·rw [if_neg h3,if_neg h3,List.getD_eq_getElem?_getD,List.getElem?_eq_getElem (by omega:0 < g.Symbols.length),Option.bind_some,Option.getD_some]
    rw [q4D (c:=((2:Int),(0:Int))) (q:=fun a:Attribute=>!decide (a.Mode=1)) fun k y hy=>by
     unfold z7C
     by_cases hm:y.Mode=1
     ·rw [if_pos hm,if_neg (by simp [hm])]
     ·rw [if_neg hm,if_pos (by simp [hm])]]
    have e:(g.Symbols[0].Attributes.all fun a=>!decide (a.Mode=1))=!(g.Symbols[0].Attributes.any fun a=>decide (a.Mode=1)):=by rw [List.not_any_eq_all_not]
    rw [e]
    cases (g.Symbols[0].Attributes.any fun a=>decide (a.Mode=1)) with
    | true=>rfl
    | false=>
     rw [Bool.not_false,if_pos rfl,Option.bind_some,z1H,if_neg (by simp),show z2u g=q6R g from funext fun k=>j7M h k]
     exact j2i h
  ·rw [decide_eq_false (by omega),decide_eq_false h2]; rfl
 ·rw [decide_eq_false (by omega),decide_eq_false h1]; rfl
theorem z5o {α:Type}{bad:List α→α→Bool}:∀ (xs pre:List α),q4S bad pre xs=none→∀ k x,xs[k]? = some x→bad (pre++xs.take k) x=false
 | [],pre,h,k,x,hx=>by simp at hx
 | y :: xs,pre,h,k,x,hx=>by
  rw [q4S] at h
  by_cases hb:bad pre y=true
  ·rw [if_pos hb] at h; cases h
  ·rw [if_neg hb] at h
   cases k with
   | zero=>simp at hx; subst hx; simpa using hb
   | succ k=>
    have:=z5o xs (pre++[y]) h k x (by simpa using hx)
    simpa using this
structure Shape (g:Grammar):Prop where
 syms:1≤g.Symbols.length∧g.Symbols.length≤4
 rules:1≤g.Rules.length∧g.Rules.length≤8
 sym:q4S z5n [] g.Symbols=none
 rule:q4S z2V [] g.Rules=none
 brk:∀ k:Int,3≤k→k≤6→∀ r∈g.Rules,z4a g r k=false
 j5m:∀ y a,g.Symbols[0]? = some y→a∈y.Attributes→a.Mode≠1
theorem j8R {g:Grammar}(h:(z6d g).1=0):Shape g:=by
 unfold z6d at h
 by_cases h1:1≤g.Symbols.length∧g.Symbols.length≤4
 ·by_cases h2:1≤g.Rules.length∧g.Rules.length≤8
  ·rw [decide_eq_true h1,decide_eq_true h2] at h
   simp only [Bool.not_true,Bool.or_self,Bool.false_eq_true,if_false] at h
   by_cases h3:0≤z7G g
   ·rw [if_pos h3] at h; simp at h
   ·rw [if_neg h3] at h
    by_cases h4:((g.Symbols.getD 0 zS).Attributes.any fun a=>decide (a.Mode=1))=true
    ·rw [if_pos h4] at h; simp at h
    ·rw [if_neg h4] at h
     have hf:q4S z5n [] g.Symbols=none∧q4S z2V [] g.Rules=none:=by
      unfold z7G at h3
      cases e1:q4S z5n [] g.Symbols with
      | some k=>rw [e1] at h3; exact absurd (Int.natCast_nonneg k) h3
      | none=>
       cases e2:q4S z2V [] g.Rules with
       | some k=>rw [e1,e2] at h3; exact absurd (Int.natCast_nonneg k) h3
       | none=>exact⟨rfl,rfl⟩
     have hk:∀ k:Int,q8J g k=none→∀ r∈g.Rules,z4a g r k=false:=by
      intro k hk r hr
      unfold q8J at hk
      cases e:g.Rules.findIdx? fun r=>z4a g r k with
      | some i=>rw [e] at hk; cases hk
      | none=>
       rw [List.findIdx?_eq_none_iff] at e
       exact e r hr
     have hc:∀ k:Int,3≤k→∀ z,q8J g k=some z→z.1≠0:=by
      intro k h3 z hz
      unfold q8J at hz
      cases e:g.Rules.findIdx? fun r=>z4a g r k with
      | none=>rw [e] at hz; cases hz
      | some i=>rw [e] at hz; cases hz; show k≠0; omega
     have n3:q8J g 3=none:=by
      cases e:q8J g 3 with
      | none=>rfl
      | some z=>rw [e] at h; exact absurd h (hc 3 (by omega) z e)
     rw [n3] at h
     have n4:q8J g 4=none:=by
      cases e:q8J g 4 with
      | none=>rfl
      | some z=>rw [e] at h; exact absurd h (hc 4 (by omega) z e)
     rw [n4] at h
     have n5:q8J g 5=none:=by
      cases e:q8J g 5 with
      | none=>rfl
      | some z=>rw [e] at h; exact absurd h (hc 5 (by omega) z e)
     rw [n5] at h
     have n6:q8J g 6=none:=by
      cases e:q8J g 6 with
      | none=>rfl
      | some z=>rw [e] at h; exact absurd h (hc 6 (by omega) z e)
     refine⟨h1,h2,hf.1,hf.2,fun k k3 k6=>?_,fun y a hy ha hm=>h4 ?_⟩
     ·have:k=3∨k=4∨k=5∨k=6:=by omega
      rcases this with rfl | rfl | rfl | rfl
      ·exact hk _ n3
      ·exact hk _ n4
      ·exact hk _ n5
      ·exact hk _ n6
     ·rw [List.getD_eq_getElem?_getD,hy,List.any_eq_true]
      exact⟨a,ha,by simpa using hm⟩
  ·rw [decide_eq_false h2] at h; simp at h
 ·rw [decide_eq_false h1] at h; simp at h
theorem Shape.ruleB {g:Grammar}(h:Shape g){r:Rule}(hr:r∈g.Rules):ruleB r=true:=by
 obtain⟨k,hk⟩:=List.getElem?_of_mem hr
 have:=z5o _ _ h.rule k r hk
 unfold z2V at this
 rw [Bool.or_eq_false_iff] at this
 simpa using this.1
theorem Shape.symB {g:Grammar}(h:Shape g){y:Symbol}(hy:y∈g.Symbols):symB y=true:=by
 obtain⟨k,hk⟩:=List.getElem?_of_mem hy
 have:=z5o _ _ h.sym k y hk
 unfold z5n at this
 rw [Bool.or_eq_false_iff] at this
 simpa using this.1
theorem Shape.pos {g:Grammar}(h:Shape g){r:Rule}(hr:r∈g.Rules){q:Equation}(hq:q∈r.Equations):0≤q.At.Pos∧q.At.Pos≤(r.Right.length:Int):=by
 have:=h.ruleB hr
 unfold Go.Proofs.YtpnkinhphabkcaaGreat.ruleB at this
 simp only [Bool.and_eq_true,List.all_eq_true] at this
 have:=this.2.2.2.1 q hq
 unfold eqnB at this
 simp only [Bool.and_eq_true,decide_eq_true_eq] at this
 exact this.2.2
end Go.Proofs.YtpnkinhphabkcaaGreat
namespace Go.Proofs.YtpnkinhphabkcaaGreat
open Go Go.E
def typK (g:Grammar)(r:Rule)(k n p t:Int)(sy nm:ByteArray)(ts:List Int):Int:=
 if k=1 then t else if k=2 then (if r.Literal=true then 1 else 0) else if k=3 then (z1D g r ⟨p,nm⟩).1.Type_
 else if k=4 then (if ts.length=2∧ts.getD 0 0=(opT n).1∧ts.getD 1 0=(opT n).2.1 then (opT n).2.2 else 0)
 else if k=5 then (if ts.length=3∧ts.getD 0 0=3∧ts.getD 1 0=ts.getD 2 0 then ts.getD 1 0 else 0)
 else if k=6 then (if 0≤p∧p≤(r.Right.length:Int) then 4 else 0) else if k=7 then 4
 else if k=8 then (if ts.length=1∧ts.getD 0 0=4 then (z2M (q6V g sy).1 nm).1.Type_ else 0) else 0
mutual
def typE (g:Grammar)(r:Rule):Expr→Int
 | ⟨k,n,p,t,sy,nm,a⟩=>typK g r k n p t sy nm (k3H g r a)
def k3H (g:Grammar)(r:Rule):List Expr→List Int
 | []=>[]
 | x :: xs=>typE g r x :: k3H g r xs
end
theorem j8S (g:Grammar)(r:Rule):∀ l,k3H g r l=l.map (typE g r)
 | []=>rfl
 | x :: xs=>by rw [k3H,j8S g r xs]; rfl
theorem k2d (g:Grammar)(r:Rule)(e:Expr):typE g r e=typK g r e.Kind e.N e.Pos e.Type_ e.Symbol e.Name (e.Args.map (typE g r)):=by
 cases e; rw [typE,j8S]
theorem j6o {y:Symbol}{s:ByteArray}(h:(z2M y s).2≠true):(z2M y s).1=zA:=by
 unfold z2M at h ⊢
 cases hf:y.Attributes.find? (fun a=>decide (a.Name=s)) with
 | none=>rfl
 | some a=>rw [hf] at h; exact absurd rfl h
theorem j7N {g:Grammar}(h:GOk g)(s nm:ByteArray):q7N g s nm=some (z2M (q6V g s).1 nm).1.Type_:=by
 unfold q7N
 rw [z2N h,Option.bind_some]
 try dsimp only
 rw [j2e,Option.bind_some]
 try dsimp only
 by_cases hb:(z2M (q6V g s).1 nm).2=true
 ·rw [if_pos hb]
 ·rw [if_neg hb,j6o hb]; rfl
theorem k3I (g:Grammar){r:Rule}(hl:ROk r)(e:Expr):∀ m,fuE e≤m→Sz.szd e≤1048576→q8R m g r e=some (typE g r e):=by
 induction e using z0x with
 | h e ih=>
  intro m hm hs
  obtain⟨m,rfl⟩:∃ q,m=q+1:=⟨m - 1,by have:=z5f e; omega⟩
  show z1i (q8R m) g r e=_
  have hlen:e.Args.length≤1048576:=by have:=q7a e; have:=q7W e.Args; omega
  have hloop:∀ (xs:List Expr) (i:Nat) (s:List Int),(∀ x∈xs,x∈e.Args)→s.length+xs.length≤1048576→eachL (z2p (q8R m) g r) i xs s=some (s++xs.map (typE g r)):=by
   intro xs
   induction xs with
   | nil=>intro i s _ _; simp [eachL]
   | cons x xs ihx=>
    intro i s hx hn
    simp only [List.length_cons] at hn
    have e1:z2p (q8R m) g r i x s=some (s++[typE g r x]):=by
     unfold z2p
     have hxe:=hx x (by simp)
     rw [ih x hxe m (by have:=z4o hxe; omega) (by have:=k4A hxe; omega),Option.bind_some,q3G (by constructor<;>omega)]
    rw [eachL,e1,Option.bind_some,ihx _ _ (fun y hy=>hx y (by simp [hy])) (by simp; omega)]; simp
  unfold z1i
  rw [hloop e.Args 0 [] (fun _ h=>h) (by simpa using hlen),Option.bind_some,List.nil_append,k2d]
  generalize e.Args.map (typE g r)=ts
  unfold typK
  by_cases k1:e.Kind=1
  ·rw [if_pos k1,if_pos k1]
  rw [if_neg k1,if_neg k1]
  by_cases k2:e.Kind=2
  ·rw [if_pos k2,if_pos k2,Option.bind_some]
   by_cases hL:r.Literal=true
   ·rw [if_pos hL,if_pos hL]
   ·rw [if_neg hL,if_neg hL]
    simp [k2]
  rw [if_neg k2,if_neg k2,Option.bind_some,if_neg (by simp)]
  by_cases k3:e.Kind=3
  ·rw [if_pos k3,if_pos k3,z9C g hl]; rfl
  rw [if_neg k3,if_neg k3]
  by_cases k4:e.Kind=4
  ·rw [if_pos k4,if_pos k4,Option.bind_some]
   by_cases hn:ts.length=2
   ·obtain⟨a,b,rfl⟩:∃ a b,ts=[a,b]:=by
     match ts,hn with
     | [a,b],_=>exact⟨a,b,rfl⟩
    rw [if_pos (by simp),k5u,Option.bind_some]
    simp only [List.getElem?_cons_zero,List.getElem?_cons_succ,Option.bind_some,List.getD_cons_zero,List.getD_cons_succ]
    by_cases ha:a=(opT e.N).1
    ·rw [if_pos ha,Option.bind_some]
     by_cases hb:b=(opT e.N).2.1
     ·rw [if_pos (by simp [hb]),if_pos ⟨hn,ha,hb⟩]
     ·rw [if_neg (by simp [hb]),if_neg fun h=>hb h.2.2]
    ·rw [if_neg ha,Option.bind_some,if_neg (by simp),if_neg fun h=>ha h.2.1]
   ·have hz:(if ts.length=2∧ts.getD 0 0=(opT e.N).1∧ts.getD 1 0=(opT e.N).2.1 then (opT e.N).2.2 else 0)=0:=if_neg fun h=>hn h.1
    rw [hz,if_neg (by simp; omega)]
    simp [k4]
  rw [if_neg k4,if_neg k4,Option.bind_some,if_neg (by simp)]
  by_cases k5:e.Kind=5
  ·rw [if_pos k5,if_pos k5,Option.bind_some]
   by_cases hn:ts.length=3
   ·obtain⟨a,b,c,rfl⟩:∃ a b c,ts=[a,b,c]:=by
     match ts,hn with
     | [a,b,c],_=>exact⟨a,b,c,rfl⟩
    rw [if_pos (by simp)]
    simp only [List.getElem?_cons_zero,List.getElem?_cons_succ,Option.bind_some,List.getD_cons_zero,List.getD_cons_succ]
    by_cases ha:a=3
    ·rw [if_pos ha]
     by_cases hb:b=c
     ·rw [if_pos hb,if_pos ⟨hn,ha,hb⟩]
     ·rw [if_neg hb,if_neg fun h=>hb h.2.2]
    ·rw [if_neg ha,if_neg fun h=>ha h.2.1]
   ·have hz:(if ts.length=3∧ts.getD 0 0=3∧ts.getD 1 0=ts.getD 2 0 then ts.getD 1 0 else 0)=0:=if_neg fun h=>hn h.1
    rw [hz,if_neg (by simp; omega)]
    simp [k5]
  rw [if_neg k5,if_neg k5,Option.bind_some,if_neg (by simp)]
  by_cases k6:e.Kind=6
  ·rw [if_pos k6,if_pos k6,z9X,Option.bind_some,Option.bind_some]
   by_cases hp:0≤e.Pos∧e.Pos≤(r.Right.length:Int)
   ·rw [decide_eq_true hp,if_pos hp]; rfl
   ·rw [decide_eq_false hp,if_neg hp]
    simp [k6]
  rw [if_neg k6,if_neg k6,Option.bind_some,if_neg (by simp),Option.bind_some]
  by_cases k7:e.Kind=7
  ·rw [if_pos (by simp [k7]),if_pos k7]
  rw [if_neg (by simp [k7]),if_neg k7]
  by_cases k8:e.Kind=8
  ·rw [if_pos k8,if_pos k8,Option.bind_some]
   by_cases hn:ts.length=1
   ·obtain⟨a,rfl⟩:∃ a,ts=[a]:=by
     match ts,hn with
     | [a],_=>exact⟨a,rfl⟩
    rw [if_pos (by simp)]
    simp only [List.getElem?_cons_zero,Option.bind_some,List.getD_cons_zero]
    by_cases ha:a=4
    ·rw [if_pos (by simp [ha]),if_pos ⟨hn,ha⟩,z3X,Option.bind_some]
     try dsimp only
     rw [z8T]; rfl
    ·rw [if_neg (by simp [ha]),if_neg fun h=>ha h.2]
   ·rw [if_neg (by simp; omega),if_neg fun h=>hn h.1]; rfl
  rw [if_neg k8,if_neg k8]; rfl
theorem j7O (g:Grammar){r:Rule}(hl:ROk r){e:Expr}(hs:Sz.szd e≤1048576):z1j g r e=some (typE g r e):=q9Y (fuE e) fun m hm=>k3I g hl e m hm hs
theorem k3J {g:Grammar}(h:GOk g){r:Rule}(hl:ROk r)(e:Expr):∀ m,fuE e≤m→q9P m g r e=some (typE g r e):=by
 induction e using z0x with
 | h e ih=>
  intro m hm
  obtain⟨m,rfl⟩:∃ q,m=q+1:=⟨m - 1,by have:=z5f e; omega⟩
  show z1q (q9P m) g r e=_
  have hx:∀ x∈e.Args,q9P m g r x=some (typE g r x):=fun x hxe=>ih x hxe m (by have:=z4o hxe; omega)
  unfold z1q
  rw [k2d]
  unfold typK
  by_cases k1:e.Kind=1
  ·rw [if_pos k1,if_pos k1]
  rw [if_neg k1,if_neg k1]
  by_cases k2:e.Kind=2
  ·rw [if_pos k2,if_pos k2,← apply_ite some]
  rw [if_neg k2,if_neg k2]
  by_cases k3:e.Kind=3
  ·rw [if_pos k3,if_pos k3,z7c,Option.bind_some]
   unfold z1D
   by_cases hp:0≤e.Pos∧e.Pos≤(r.Right.length:Int)
   ·rw [if_pos (by simpa using hp),if_pos hp,z3Z hl,Option.bind_some,j7N h]; rfl
   ·rw [if_neg (by simpa using hp),if_neg hp]; rfl
  rw [if_neg k3,if_neg k3]
  by_cases k4:e.Kind=4
  ·rw [if_pos k4,if_pos k4]
   unfold j0A
   rw [k5v,Option.bind_some]
   try dsimp only
   by_cases hn:e.Args.length=2
   ·obtain⟨a,b,hab⟩:∃ a b,e.Args=[a,b]:=by
     match e.Args,hn with
     | [a,b],_=>exact⟨a,b,rfl⟩
    rw [hab] at hx
    rw [hab,if_pos (by simp)]
    simp only [List.getElem?_cons_zero,List.getElem?_cons_succ,Option.bind_some,List.map_cons,List.map_nil,List.getD_cons_zero,List.getD_cons_succ]
    rw [hx a (by simp),Option.bind_some]
    by_cases ha:typE g r a=(opT e.N).1
    ·rw [if_pos ha,hx b (by simp),Option.bind_some]
     by_cases hb:typE g r b=(opT e.N).2.1
     ·rw [if_pos hb,if_pos ⟨by simp,ha,hb⟩]; rfl
     ·rw [if_neg hb,if_neg fun h=>hb h.2.2]; rfl
    ·rw [if_neg ha,if_neg fun h=>ha h.2.1]; rfl
   ·rw [if_neg (by omega),if_neg fun h=>hn (by simpa using h.1)]; rfl
  rw [if_neg k4,if_neg k4]
  by_cases k5:e.Kind=5
  ·rw [if_pos k5,if_pos k5]
   unfold j0B
   by_cases hn:e.Args.length=3
   ·obtain⟨a,b,c,hab⟩:∃ a b c,e.Args=[a,b,c]:=by
     match e.Args,hn with
     | [a,b,c],_=>exact⟨a,b,c,rfl⟩
    rw [hab] at hx
    rw [hab,if_pos (by simp)]
    simp only [List.getElem?_cons_zero,List.getElem?_cons_succ,Option.bind_some,List.map_cons,List.map_nil,List.getD_cons_zero,List.getD_cons_succ]
    rw [hx a (by simp),Option.bind_some]
    by_cases ha:typE g r a=3
    ·rw [if_pos ha,hx b (by simp),Option.bind_some,hx c (by simp),Option.bind_some]
     by_cases hb:typE g r b=typE g r c
     ·rw [if_pos hb,if_pos ⟨by simp,ha,hb⟩]; rfl
     ·rw [if_neg hb,if_neg fun h=>hb h.2.2]; rfl
    ·rw [if_neg ha,if_neg fun h=>ha h.2.1]; rfl
   ·rw [if_neg (by omega),if_neg fun h=>hn (by simpa using h.1)]; rfl
  rw [if_neg k5,if_neg k5]
  by_cases k6:e.Kind=6
  ·rw [if_pos k6,if_pos k6,z7c,Option.bind_some]
   by_cases hp:0≤e.Pos∧e.Pos≤(r.Right.length:Int)
   ·rw [if_pos (by simpa using hp),if_pos hp]
   ·rw [if_neg (by simpa using hp),if_neg hp]
  rw [if_neg k6,if_neg k6]
  by_cases k7:e.Kind=7
  ·rw [if_pos k7,if_pos k7]
  rw [if_neg k7,if_neg k7]
  by_cases k8:e.Kind=8
  ·rw [if_pos k8,if_pos k8]
   by_cases hn:e.Args.length=1
   ·obtain⟨a,hab⟩:∃ a,e.Args=[a]:=by
     match e.Args,hn with
     | [a],_=>exact⟨a,rfl⟩
    rw [hab] at hx
    rw [hab,if_pos (by simp)]
    simp only [List.getElem?_cons_zero,Option.bind_some,List.map_cons,List.map_nil,List.getD_cons_zero]
    rw [hx a (by simp),Option.bind_some]
    by_cases ha:typE g r a=4
    ·rw [if_pos ha,if_pos ⟨by simp,ha⟩,j7N h]; rfl
    ·rw [if_neg ha,if_neg fun h=>ha h.2]
   ·rw [if_neg (by omega),if_neg fun h=>hn (by simpa using h.1)]
  rw [if_neg k8,if_neg k8]
theorem j7P {g:Grammar}(h:GOk g){r:Rule}(hl:ROk r)(e:Expr):z1r g r e=some (typE g r e):=q9Y (fuE e) fun m hm=>k3J h hl e m hm
def conT (g:Grammar)(r:Rule)(q:Contribution):Bool:=(decide (typE g r q.Target=4)&&decide (typE g r q.Value=2))&&decide ((z2M (q6V g q.Symbol).1 q.Name).1.Mode=3)
def typR (g:Grammar)(r:Rule):Bool:=(r.Equations.all fun q=>decide (typE g r q.Expr=(z1D g r q.At).1.Type_))&&r.Contributions.all (conT g r)
theorem k3K (g:Grammar){r:Rule}(hr:Sz.szd r≤1048576):z3H g r=some (!typR g r):=by
 have hl:=q6n hr
 unfold z3H typR
 rw [q4D (c:=true) (q:=fun q:Equation=>decide (typE g r q.Expr=(z1D g r q.At).1.Type_)) fun k x hx=>by
  unfold z9O
  rw [z9C g hl,Option.bind_some]
  try dsimp only
  rw [j7O g hl (Nat.le_trans (z8b hx) hr),Option.bind_some]
  by_cases hp:typE g r x.Expr=(z1D g r x.At).1.Type_
  ·rw [if_pos hp,if_pos (by simpa using hp)]
  ·rw [if_neg hp,if_neg (by simpa using hp)]]
 rw [q4D (c:=true) (q:=conT g r) fun k x hx=>by
  have hs:=z8U hx
  unfold z9P conT
  rw [z3X,Option.bind_some]
  try dsimp only
  rw [z8T,Option.bind_some]
  try dsimp only
  rw [j7O g hl (Nat.le_trans hs.1 hr),Option.bind_some]
  by_cases h1:typE g r x.Target=4
  ·rw [if_pos h1,j7O g hl (Nat.le_trans hs.2 hr),Option.bind_some,Option.bind_some,decide_eq_true h1]
   cases decide (typE g r x.Value=2) with
   | false=>rfl
   | true=>
    rw [Bool.not_true,if_neg (by simp),Option.bind_some]
    cases decide ((z2M (q6V g x.Symbol).1 x.Name).1.Mode=3)<;>rfl
  ·rw [if_neg h1,decide_eq_false h1]; rfl]
 cases r.Equations.all fun q=>decide (typE g r q.Expr=(z1D g r q.At).1.Type_) with
 | false=>rfl
 | true=>cases r.Contributions.all (conT g r)<;>rfl
theorem k3L {g:Grammar}(h:GOk g){r:Rule}(hr:Sz.szd r≤1048576)(hp:∀ q∈r.Equations,0≤q.At.Pos∧q.At.Pos≤(r.Right.length:Int)):z5a g r=some (typR g r):=by
 have hl:=q6n hr
 unfold z5a typR
 rw [q4D (c:=false) (q:=fun q:Equation=>decide (typE g r q.Expr=(z1D g r q.At).1.Type_)) fun k x hx=>by
  unfold j1M
  rw [j7P h hl,Option.bind_some,z3Z hl,Option.bind_some,j7N h,Option.bind_some]
  have e:(z2M (q6V g (q5Q r x.At.Pos)).1 x.At.Name).1.Type_=(z1D g r x.At).1.Type_:=by unfold z1D; rw [if_pos (hp x hx)]
  rw [e]
  by_cases hp:typE g r x.Expr=(z1D g r x.At).1.Type_
  ·rw [if_pos hp,if_pos (by simpa using hp)]
  ·rw [if_neg hp,if_neg (by simpa using hp)]]
 rw [q4D (c:=false) (q:=conT g r) fun k x hx=>by
  unfold j1N conT
  rw [z2N h,Option.bind_some]
  try dsimp only
  rw [j2e,Option.bind_some]
  try dsimp only
  have e:(if (z2M (q6V g x.Symbol).1 x.Name).2=true then some (!decide ((z2M (q6V g x.Symbol).1 x.Name).1.Mode=3)) else some true)=some (!decide ((z2M (q6V g x.Symbol).1 x.Name).1.Mode=3)):=by
   by_cases hb:(z2M (q6V g x.Symbol).1 x.Name).2=true
   ·rw [if_pos hb]
   ·rw [if_neg hb,j6o hb]; rfl
  rw [e,Option.bind_some]
  cases decide ((z2M (q6V g x.Symbol).1 x.Name).1.Mode=3) with
  | false=>rw [Bool.and_false]; rfl
  | true=>
   rw [Bool.not_true,if_neg (by simp),j7P h hl,Option.bind_some,Option.bind_some]
   cases decide (typE g r x.Target=4) with
   | false=>rfl
   | true=>
    rw [Bool.not_true,if_neg (by simp),j7P h hl,Option.bind_some,Option.bind_some]
    cases decide (typE g r x.Value=2)<;>rfl]
 cases r.Equations.all fun q=>decide (typE g r q.Expr=(z1D g r q.At).1.Type_) with
 | false=>rfl
 | true=>cases r.Contributions.all (conT g r)<;>rfl
end Go.Proofs.YtpnkinhphabkcaaGreat
namespace Go.Proofs.YtpnkinhphabkcaaGreat
open Go Go.E
def atS (g:Grammar)(n:ByteArray):Option Nat:=g.Symbols.findIdx? fun y=>decide (y.Name=n)
def atI (g:Grammar)(n:ByteArray):Int:=match atS g n with
 | some j=>(j:Int)
 | none=>-1
theorem z8V {α ρ:Type}{q:α→Bool}{c:Nat→ρ}:∀ {xs:List α} {i:Nat} {f:Nat→α→Unit→Option (Unit ⊕ ρ)},(∀ j x,xs[j]? = some x→f (i+j) x ()=some (if q x=true then .inr (c (i+j)) else .inl ())) →
  findL f i xs ()=some (match xs.findIdx? q with | some j=>.inr (c (i+j)) | none=>.inl ())
 | [],_,_,_=>rfl
 | x :: xs,i,f,h=>by
  rw [findL,show f i x ()=_ from h 0 x rfl,Option.bind_some,List.findIdx?_cons]
  by_cases hq:q x=true
  ·rw [if_pos hq,if_pos hq]
  ·rw [if_neg hq,if_neg hq]
   have ih:=z8V (q:=q) (c:=c) (xs:=xs) (i:=i+1) (f:=f) fun j y hy=>by
    have:=h (j+1) y (by simpa using hy)
    rw [show i+1+j=i+(j+1) by omega]; exact this
   dsimp only
   rw [ih]
   cases xs.findIdx? q with
   | none=>rfl
   | some j=>simp only [Option.map_some]; rw [show i+1+j=i+(j+1) by omega]
theorem k0j (g:Grammar)(n:ByteArray):z2v g n=some (atI g n):=by
 unfold z2v atI atS
 rw [z8V (q:=fun y:Symbol=>decide (y.Name=n)) (c:=fun k=>(k:Int)) fun j x hx=>by
  unfold j5Y
  by_cases hn:x.Name=n
  ·rw [if_pos hn,if_pos (by simpa using hn)]
  ·rw [if_neg hn,if_neg (by simpa using hn)]]
 cases g.Symbols.findIdx? fun y=>decide (y.Name=n) with
 | none=>rfl
 | some j=>dsimp only; rw [Nat.zero_add]; rfl
theorem k6C {g:Grammar}{n:ByteArray}{j:Nat}(h:atS g n=some j):j < g.Symbols.length:=by
 unfold atS at h
 rw [List.findIdx?_eq_some_iff_getElem] at h
 exact h.1
def okAt (g:Grammar)(hs:List Int)(n:ByteArray):Bool:=match atS g n with
 | some j=>decide (0 < hs.getD j 0)
 | none=>false
def j3A (g:Grammar)(hs:List Int)(n:ByteArray):Bool:=g.Rules.any fun r=>decide (r.Left=n)&&r.Right.all (okAt g hs)
theorem j2j {α:Type}{q:α→Bool}{f:Nat→α→Bool→Option Bool}:∀ (xs:List α) (i:Nat) (b:Bool),(∀ k x s,x∈xs→f k x s=some (s&&q x))→eachL f i xs b=some (b&&xs.all q)
 | [],_,b,_=>by simp [eachL]
 | x :: xs,i,b,h=>by
  rw [eachL,h i x b (by simp),Option.bind_some,j2j xs (i+1) _ fun k y s hy=>h k y s (by simp [hy]),List.all_cons,Bool.and_assoc]
theorem getD_some {hs:List Int}{j:Nat}(h:j < hs.length):hs[j]? = some (hs.getD j 0):=by
 rw [List.getD_eq_getElem?_getD,List.getElem?_eq_getElem h]; rfl
theorem k6D {g:Grammar}{hs:List Int}(hl:hs.length=g.Symbols.length)(n:ByteArray):z2B n g hs=some (match atS g n with | some j=>hs.getD j 0 | none=>0):=by
 unfold z2B atS
 rw [z8V (q:=fun y:Symbol=>decide (y.Name=n)) (c:=fun k=>hs.getD k 0) fun j x hx=>by
  unfold z8y
  have hj:j < g.Symbols.length:=(List.getElem?_eq_some_iff.1 hx).1
  by_cases hn:x.Name=n
  ·rw [if_pos hn,if_pos (by simpa using hn),Nat.zero_add,getD_some (by omega)]; rfl
  ·rw [if_neg hn,if_neg (by simpa using hn)]]
 cases g.Symbols.findIdx? fun y=>decide (y.Name=n) with
 | none=>rfl
 | some j=>dsimp only; rw [Nat.zero_add]; rfl
theorem k0k {g:Grammar}{hs:List Int}(hl:hs.length=g.Symbols.length)(xs:List ByteArray)(b:Bool):eachL (z7O g hs) 0 xs b=some (b&&xs.all (okAt g hs)):=
 j2j xs 0 b fun k x s _=>by
  unfold z7O okAt
  cases s with
  | false=>rfl
  | true=>
   rw [if_pos rfl,k6D hl,Option.bind_some,Option.bind_some,Bool.true_and]
   cases atS g x<;>rfl
theorem k0l {g:Grammar}{hs:List Int}(hl:hs.length=g.Symbols.length)(xs:List ByteArray)(b:Bool):eachL (z4z g hs) 0 xs b=some (b&&xs.all (okAt g hs)):=
 j2j xs 0 b fun k x s _=>by
  unfold z4z okAt
  rw [k0j,Option.bind_some]
  unfold atI
  cases s with
  | false=>rfl
  | true=>
   cases hj:atS g x with
   | none=>rfl
   | some j=>
    have:=k6C hj
    dsimp only
    rw [if_pos rfl,Option.bind_some,decide_eq_true (Int.natCast_nonneg j),if_pos rfl]
    unfold z0r
    by_cases h0:(0:Int) < (j:Int)
    ·rw [if_pos h0,Option.bind_some,q3G (Int.natCast_nonneg j),Int.toNat_natCast,getD_some (by omega)]; rfl
    ·obtain rfl:j=0:=by omega
     rw [if_neg h0,Option.bind_some,q3G (by omega),show (0:Int).toNat=0 from rfl,getD_some (by omega)]; rfl
theorem k2e {g:Grammar}{hs:List Int}(hl:hs.length=g.Symbols.length)(n:ByteArray):z1s g n hs=some (j3A g hs n):=by
 unfold z1s j3A
 rw [q4D (c:=true) (q:=fun r:Rule=>!(decide (r.Left=n)&&r.Right.all (okAt g hs))) fun k x hx=>by
  unfold z7D
  rw [k0l hl,Option.bind_some]
  cases (decide (x.Left=n)&&x.Right.all (okAt g hs))<;>rfl]
 have e:(g.Rules.all fun r=>!(decide (r.Left=n)&&r.Right.all (okAt g hs)))=!(g.Rules.any fun r=>decide (r.Left=n)&&r.Right.all (okAt g hs)):=by rw [List.not_any_eq_all_not]
 rw [e]
 cases g.Rules.any fun r=>decide (r.Left=n)&&r.Right.all (okAt g hs)<;>rfl
def HsOk (g:Grammar)(hs:List Int):Prop:=hs.length=g.Symbols.length∧∀ j,0≤hs.getD j 0
theorem HsOk.set {g:Grammar}{hs:List Int}(h:HsOk g hs){k:Nat}{v:Int}(hv:0≤v):HsOk g (hs.set k v):=by
 refine⟨by simpa using h.1,fun j=>?_⟩
 rw [List.getD_eq_getElem?_getD,List.getElem?_set]
 split
 ·split
  ·exact hv
  ·simp
 ·rw [← List.getD_eq_getElem?_getD]; exact h.2 j
theorem k2f {g:Grammar}{hs:List Int}(hl:hs.length=g.Symbols.length){v:Int}(k:Nat)(x:Symbol)(hk:k < g.Symbols.length):∀ (rs:List Rule) (i:Nat) (s:List Int),s.length=g.Symbols.length →
  eachL (z5C g v hs k x) i rs s=some (if (rs.any fun r=>decide (r.Left=x.Name)&&r.Right.all (okAt g hs))=true then s.set k v else s)
 | [],i,s,_=>by simp [eachL]
 | r :: rs,i,s,hs'=>by
  have e:z5C g v hs k x i r s=some (if (decide (r.Left=x.Name)&&r.Right.all (okAt g hs))=true then s.set k v else s):=by
   unfold z5C
   rw [k0k hl,Option.bind_some]
   cases (decide (r.Left=x.Name)&&r.Right.all (okAt g hs)) with
   | false=>rfl
   | true=>rw [if_pos rfl,if_pos rfl,List.getElem?_eq_getElem (by omega)]; rfl
  rw [eachL,e,Option.bind_some]
  by_cases hb:(decide (r.Left=x.Name)&&r.Right.all (okAt g hs))=true
  ·rw [if_pos hb,k2f hl k x hk rs (i+1) (s.set k v) (by simpa using hs')]
   have:(r :: rs).any (fun r=>decide (r.Left=x.Name)&&r.Right.all (okAt g hs))=true:=by rw [List.any_cons,hb]; rfl
   rw [if_pos this,List.set_set,ite_self]
  ·rw [if_neg hb,k2f hl k x hk rs (i+1) s hs']
   have:(r :: rs).any (fun r=>decide (r.Left=x.Name)&&r.Right.all (okAt g hs))=rs.any (fun r=>decide (r.Left=x.Name)&&r.Right.all (okAt g hs)):=by rw [List.any_cons,Bool.eq_false_iff.2 hb]; rfl
   rw [this]
theorem k7c {g:Grammar}{hs:List Int}(h:HsOk g hs){v:Int}{k:Nat}{x:Symbol}(hk:k < g.Symbols.length){s:List Int}(hs' : s.length=g.Symbols.length) :
  z5D g v hs k x s=some (if (decide (hs.getD k 0=0)&&j3A g hs x.Name)=true then s.set k v else s):=by
 have h0:=h.2 k
 unfold z5D
 rw [getD_some (by rw [h.1]; exact hk),Option.bind_some]
 by_cases hz:hs.getD k 0=0
 ·rw [if_neg (by omega),decide_eq_true hz,k2f h.1 k x hk _ _ _ hs']; rfl
 ·rw [if_pos (by omega),decide_eq_false hz]; rfl
theorem k7d {g:Grammar}{hs:List Int}(h:HsOk g hs){v:Int}{k:Nat}{x:Symbol}(hk:k < g.Symbols.length){s:List Int}(hs' : s.length=g.Symbols.length) :
  z2w g hs v k x s=some (if (decide (hs.getD k 0=0)&&j3A g hs x.Name)=true then s.set k v else s):=by
 unfold z2w
 rw [getD_some (by rw [h.1]; exact hk),Option.bind_some]
 by_cases hz:hs.getD k 0=0
 ·rw [if_pos hz,decide_eq_true hz,k2e h.1,Option.bind_some,Bool.true_and]
  cases j3A g hs x.Name with
  | false=>rfl
  | true=>rw [if_pos rfl,if_pos rfl,List.getElem?_eq_getElem (by omega)]; rfl
 ·rw [if_neg hz,decide_eq_false hz]; rfl
theorem j3B {g:Grammar}{hs:List Int}(h:HsOk g hs){v:Int}(hv:0≤v):∀ (xs:List Symbol) (i:Nat) (s:List Int),i+xs.length=g.Symbols.length→HsOk g s →
  ∃ t,eachL (z5D g v hs) i xs s=some t∧eachL (z2w g hs v) i xs s=some t∧HsOk g t
 | [],i,s,_,hs'=>⟨s,rfl,rfl,hs'⟩
 | x :: xs,i,s,hi,hs'=>by
  simp only [List.length_cons] at hi
  have e1:=k7c (x:=x) h (v:=v) (k:=i) (by omega) hs'.1
  have e2:=k7d (x:=x) h (v:=v) (k:=i) (by omega) hs'.1
  have hn:HsOk g (if (decide (hs.getD i 0=0)&&j3A g hs x.Name)=true then s.set i v else s):=by
   split
   ·exact hs'.set hv
   ·exact hs'
  obtain⟨t,h1,h2,h3⟩:=j3B h hv xs (i+1) _ (by omega) hn
  exact⟨t,by rw [eachL,e1,Option.bind_some,h1],by rw [eachL,e2,Option.bind_some,h2],h3⟩
theorem z9Z {g:Grammar}(hn:g.Symbols.length≤1048576):∃ l,z3o g=some l∧z1t g=some l∧HsOk g l:=by
 have key:∀ (m k:Nat) (hs:List Int),k+m=g.Symbols.length+1→1≤k→HsOk g hs→∃ t,q4L (z1O g) ((k:Int),hs)=some t∧q4L (q9h g) (hs,(k:Int))=some t∧HsOk g t:=by
  intro m
  induction m with
  | zero=>
   intro k hs hk _ h
   refine⟨hs,q3I ?_,q3I ?_,h⟩
   ·unfold z1O; dsimp only; rw [if_neg (by omega)]
   ·unfold q9h; dsimp only; rw [if_neg (by omega)]
  | succ m ih=>
   intro k hs hk h1 h
   have hl:=h.1
   obtain⟨t,e1,e2,e3⟩:=j3B h (v:=(k:Int)) (by omega) g.Symbols 0 hs (by omega) h
   obtain⟨q,f1,f2,f3⟩:=ih (k+1) t (by omega) (by omega) e3
   refine⟨q,?_,?_,f3⟩
   ·have e:z1O g ((k:Int),hs)=some (.inl (((k+1:Nat):Int),t)):=by
     unfold z1O; dsimp only
     rw [if_pos (by omega),q3G (by refine⟨?_,?_,?_⟩<;>omega),q3G (by simp),e1,Option.bind_some,q3G (by constructor<;>omega)]; rfl
    rw [q3W e]; exact f1
   ·have e:q9h g (hs,(k:Int))=some (.inl (t,((k+1:Nat):Int))):=by
     unfold q9h; dsimp only
     rw [if_pos (by omega),q3G (by simp only [List.length_nil]; constructor<;>omega),e2,Option.bind_some,q3G (by constructor<;>omega)]; rfl
    rw [q3W e]; exact f2
 have h0:HsOk g (List.replicate g.Symbols.length (0:Int)):=⟨by simp,fun j=>by rw [List.getD_eq_getElem?_getD,List.getElem?_replicate]; split<;>simp⟩
 obtain⟨t,f1,f2,f3⟩:=key g.Symbols.length 1 (List.replicate g.Symbols.length 0) (by omega) (by omega) h0
 refine⟨t,?_,?_,f3⟩
 ·unfold z3o
  rw [q3G (by refine⟨?_,?_,?_⟩<;>omega),show q4L (z1O g) (1,List.replicate g.Symbols.length 0)=some t from f1]; rfl
 ·unfold z1t
  rw [q3G (by refine⟨?_,?_,?_⟩<;>omega),show q4L (q9h g) (List.replicate g.Symbols.length 0,1)=some t from f2]; rfl
theorem Shape.names {g:Grammar}(h:Shape g){k j:Nat}{x y:Symbol}(hk:g.Symbols[k]? = some x)(hj:g.Symbols[j]? = some y)(hn:x.Name=y.Name):k=j:=by
 have key:∀ {k j:Nat} {x y:Symbol},g.Symbols[k]? = some x→g.Symbols[j]? = some y→x.Name=y.Name→¬ k < j:=by
  intro k j x y hk hj hn hlt
  have:=z5o _ _ h.sym j y hj
  unfold z5n at this
  rw [Bool.or_eq_false_iff] at this
  have h2:=this.2
  unfold dupB at h2
  rw [List.nil_append,List.any_eq_false] at h2
  exact h2 x (List.mem_of_getElem? (i:=k) (by rw [List.getElem?_take,if_pos hlt]; exact hk)) (by simpa using hn)
 have h1:=key hk hj hn
 have h2:=key hj hk hn.symm
 omega
theorem Shape.at_ {g:Grammar}(h:Shape g){k:Nat}{x:Symbol}(hk:g.Symbols[k]? = some x):atS g x.Name=some k:=by
 unfold atS
 cases he:g.Symbols.findIdx? fun y=>decide (y.Name=x.Name) with
 | none=>
  rw [List.findIdx?_eq_none_iff] at he
  have:=he x (List.mem_of_getElem? hk)
  simp at this
 | some j=>
  rw [List.findIdx?_eq_some_iff_getElem] at he
  obtain⟨hj,h1,_⟩:=he
  rw [h.names (List.getElem?_eq_getElem hj) hk (by simpa using h1)]
noncomputable def hgtL (g:Grammar):List Int:=(z3o g).getD []
noncomputable def j7Q (g:Grammar):Int × Int:=
 if (z6d g).1=0 then
  match g.Rules.findIdx? fun r=>!typR g r with
  | some k=>(7,(k:Int))
  | none=>match (hgtL g).findIdx? fun x=>decide (x=0) with
   | some k=>(8,(k:Int))
   | none=>(0,0)
 else z6d g
theorem k3M {g:Grammar}(h:Sz.szd g≤1048576):q9B g=some (j7Q g):=by
 unfold q9B j7Q
 rw [k2b h,Option.bind_some]
 dsimp only
 by_cases h0:(z6d g).1=0
 ·rw [if_pos h0,if_pos h0]
  rw [z7f (q:=fun r=>!typR g r) (c:=fun k=>((7:Int),(k:Int))) fun k r hr=>by
   unfold z5X
   rw [k3K g (Nat.le_trans (z2g hr) h),Option.bind_some,← apply_ite some]]
  cases g.Rules.findIdx? fun r=>!typR g r with
  | some k=>dsimp only; rw [Nat.zero_add]; rfl
  | none=>
   obtain⟨l,e1,e2,e3⟩:=z9Z (g:=g) (j7J h).1
   rw [Option.bind_some,z1H,e1,Option.bind_some]
   unfold hgtL
   rw [e1,Option.getD_some]
   rw [z7f (q:=fun x:Int=>decide (x=0)) (c:=fun k=>((8:Int),(k:Int))) fun k x hx=>by
    unfold z5Y
    by_cases hz:x=0
    ·rw [if_pos hz,if_pos (by simpa using hz)]
    ·rw [if_neg hz,if_neg (by simpa using hz)]]
   dsimp only
   cases l.findIdx? fun x=>decide (x=0) with
   | some k=>dsimp only; rw [Nat.zero_add]; rfl
   | none=>rfl
 ·rw [if_neg h0,if_neg h0]
theorem k3N {g:Grammar}(h:Sz.szd g≤1048576):q9D g=some (j7Q g):=by
 unfold q9D j7Q
 rw [k2c h,Option.bind_some]
 dsimp only
 by_cases h0:(z6d g).1=0
 ·have hS:=j8R h0
  rw [if_pos h0,if_pos h0]
  rw [z7f (q:=fun r=>!typR g r) (c:=fun k=>((7:Int),(k:Int))) fun k r hr=>by
   unfold z6a
   rw [k3L (q9p h) (Nat.le_trans (z2g hr) h) fun q hq=>hS.pos hr hq,Option.bind_some]
   cases typR g r<;>rfl]
  cases g.Rules.findIdx? fun r=>!typR g r with
  | some k=>dsimp only; rw [Nat.zero_add]; rfl
  | none=>
   obtain⟨l,e1,e2,e3⟩:=z9Z (g:=g) (j7J h).1
   rw [Option.bind_some,z1H]
   unfold hgtL
   rw [e1,Option.getD_some]
   have hprod:∀ k x,g.Symbols[k]? = some x→q9C g x.Name=some (!decide (l.getD k 0=0)):=by
    intro k x hk
    have hk' : k < g.Symbols.length:=(List.getElem?_eq_some_iff.1 hk).1
    have ha:atI g x.Name=(k:Int):=by unfold atI; rw [hS.at_ hk]
    unfold q9C z4k
    rw [k0j,ha,Option.bind_some,if_neg (by omega),e2,Option.bind_some,q3G (by omega),Int.toNat_natCast,getD_some (by rw [e3.1]; exact hk'),Option.bind_some,Option.bind_some]
    have:=e3.2 k
    congr 1
    by_cases hz:l.getD k 0=0
    ·rw [decide_eq_true hz,decide_eq_false (by omega)]; rfl
    ·rw [decide_eq_false hz,decide_eq_true (by omega)]; rfl
   have hrun:∀ (xs:List Symbol) (ys:List Int) (i:Nat),(∀ j x,xs[j]? = some x→g.Symbols[i+j]? = some x)→ys.length=xs.length→(∀ j y,ys[j]? = some y→l.getD (i+j) 0=y) →
     findL (z0v g) i xs ()=some (match ys.findIdx? fun x=>decide (x=0) with | some j=>.inr (8,((i+j:Nat):Int)) | none=>.inl ()):=by
    intro xs
    induction xs with
    | nil=>
     intro ys i _ hl _
     obtain rfl:=List.eq_nil_of_length_eq_zero hl
     rfl
    | cons x xs ih=>
     intro ys i hx hl hy
     cases ys with
     | nil=>simp at hl
     | cons y ys=>
      have h1:=hprod i x (by simpa using hx 0 x rfl)
      have h2:l.getD i 0=y:=by simpa using hy 0 y rfl
      have ih:=ih ys (i+1) (fun j z hz=>by rw [show i+1+j=i+(j+1) by omega]; exact hx (j+1) z (by simpa using hz)) (by simpa using hl) fun j z hz=>by
       rw [show i+1+j=i+(j+1) by omega]; exact hy (j+1) z (by simpa using hz)
      rw [h2] at h1
      have e:z0v g i x ()=some (if y=0 then .inr (8,(i:Int)) else .inl ()):=by
       unfold z0v
       rw [h1,Option.bind_some]
       by_cases hz:y=0
       ·rw [decide_eq_true hz,if_pos hz]; rfl
       ·rw [decide_eq_false hz,if_neg hz]; rfl
      rw [findL,e,Option.bind_some,List.findIdx?_cons]
      by_cases hz:y=0
      ·rw [if_pos hz,if_pos (by simpa using hz)]; rfl
      ·rw [if_neg hz,if_neg (by simpa using hz)]
       dsimp only
       rw [ih]
       cases ys.findIdx? fun x=>decide (x=0) with
       | none=>rfl
       | some j=>simp only [Option.map_some]; rw [show i+1+j=i+(j+1) by omega]
   rw [hrun g.Symbols l 0 (fun j x hx=>by rw [Nat.zero_add]; exact hx) e3.1 fun j y hy=>by rw [Nat.zero_add,List.getD_eq_getElem?_getD,hy]; rfl]
   dsimp only
   cases l.findIdx? fun x=>decide (x=0) with
   | some k=>dsimp only; rw [Nat.zero_add]; rfl
   | none=>rfl
 ·rw [if_neg h0,if_neg h0]
noncomputable def z5p (g:Grammar):Bool:=decide ((j7Q g).1=0)
theorem k3O {g:Grammar}(h:Sz.szd g≤1048576):z3I g=some (z5p g):=by
 unfold z3I; rw [k3M h]; rfl
theorem j4J {g:Grammar}(h:Sz.szd g≤1048576):z1X g=some (z5p g):=by
 unfold z1X; rw [k3N h]; rfl
theorem z5q {g:Grammar}(h:z5p g=true):Shape g:=by
 refine j8R ?_
 unfold z5p at h
 rw [decide_eq_true_eq] at h
 unfold j7Q at h
 by_cases h0:(z6d g).1=0
 ·exact h0
 ·rw [if_neg h0] at h; exact h
end Go.Proofs.YtpnkinhphabkcaaGreat
namespace Go.Proofs.YtpnkinhphabkcaaGreat
open Go Go.E
def farB (e:Expr):Bool:=!allE (fun x=>!decide (x.Kind=8)) e
theorem k3P (e:Expr):∀ m,fuE e≤m→z2G m e=some (farB e):=by
 induction e using z0x with
 | h e ih=>
  intro m hm
  obtain⟨m,rfl⟩:∃ q,m=q+1:=⟨m - 1,by have:=z5f e; omega⟩
  show z2F (z2G m) e=_
  unfold z2F
  rw [q4D (c:=true) (q:=fun x=>!farB x) fun k x hx=>by
   unfold z8C
   rw [ih x hx m (by have:=z4o hx; omega),Option.bind_some]
   cases farB x<;>rfl]
  have e1:farB e=!(!decide (e.Kind=8)&&e.Args.all fun x=>!farB x):=by
   unfold farB
   rw [z9s]
   congr 2
   congr 1; funext x; rw [Bool.not_not]
  rw [e1,Option.bind_some]
  cases e.Args.all fun x=>!farB x with
  | true=>rw [if_pos rfl,z1H,Bool.and_true,Bool.not_not]
  | false=>rw [if_neg (by simp),j0Q,Bool.and_false]; rfl
theorem k5O (e:Expr):z6L e=some (farB e):=q9Y (fuE e) fun m hm=>k3P e m hm
theorem k3Q (e:Expr):∀ m,fuE e≤m→q5U m e=some (!farB e):=by
 induction e using z0x with
 | h e ih=>
  intro m hm
  obtain⟨m,rfl⟩:∃ q,m=q+1:=⟨m - 1,by have:=z5f e; omega⟩
  show q5T (q5U m) e=_
  unfold q5T q3S q3Y z2q
  have e1:(!farB e)=(!decide (e.Kind=8)&&e.Args.all fun x=>!farB x):=by
   unfold farB
   rw [z9s,Bool.not_not]
   congr 1
   congr 1; funext x; rw [Bool.not_not]
  rw [Option.bind_some,e1]
  cases decide (e.Kind=8) with
  | true=>rfl
  | false=>
   rw [Bool.not_false,if_pos rfl,q4V (q:=fun x=>farB x) fun k x hx=>by
    unfold q5J q6u
    rw [ih x hx m (by have:=z4o hx; omega),Option.bind_some,Option.bind_some]
    cases farB x<;>rfl]
   rw [Bool.true_and,Option.bind_some,List.not_any_eq_all_not]
theorem k5P (e:Expr):z2C e=some (farB e):=by
 unfold z2C
 rw [show q8k e=some (!farB e) from q9Y (fuE e) fun m hm=>k3Q e m hm,Option.bind_some,Bool.not_not]
def farR (r:Rule):Bool:=r.Equations.any fun q=>farB q.Expr
theorem k3R (r:Rule):z2H r=some (farR r):=by
 unfold z2H farR
 rw [q4D (c:=true) (q:=fun q:Equation=>!farB q.Expr) fun k x hx=>by
  unfold z8D
  rw [k5O,Option.bind_some]
  cases farB x.Expr<;>rfl]
 have e:(r.Equations.all fun q=>!farB q.Expr)=!(r.Equations.any fun q=>farB q.Expr):=by rw [List.not_any_eq_all_not]
 rw [e]
 cases r.Equations.any fun q=>farB q.Expr<;>rfl
theorem k3S {g:Grammar}(h:Sz.szd g≤1048576):z2D g=some (g.Rules.any fun r=>(z4q r).any farB):=by
 unfold z2D q4P q5d
 rw [q4V (q:=fun r=>(z4q r).any farB) fun k r hr=>by
  unfold q7q z2r
  rw [j8Q (Nat.le_trans (z2g hr) h),Option.bind_some]
  unfold q4Y q5m
  rw [q4V (q:=farB) fun k e he=>by
   unfold q7J
   rw [k5P,Option.bind_some,← apply_ite some]]
  rw [Option.bind_some,Option.bind_some,← apply_ite some]]
 rfl
def colG (g:Grammar):Bool:=g.Symbols.any fun y=>y.Attributes.any fun a=>decide (a.Mode=3)
theorem k2g (g:Grammar):q5w g=some (colG g):=by
 unfold q5w q3M q3P colG
 rw [q4V (q:=fun y:Symbol=>y.Attributes.any fun a=>decide (a.Mode=3)) fun k y hy=>by
  unfold q5i q5R q4o q4z
  rw [q4V (q:=fun a:Attribute=>decide (a.Mode=3)) fun k a ha=>by
   unfold q6y z2s
   rw [Option.bind_some,← apply_ite some]]
  rw [Option.bind_some,Option.bind_some,← apply_ite some]]
 rfl
theorem k0m {g:Grammar}(h:z5p g=true):∀ r∈g.Rules,typR g r=true:=by
 intro r hr
 unfold z5p at h
 rw [decide_eq_true_eq] at h
 unfold j7Q at h
 by_cases h0:(z6d g).1=0
 ·rw [if_pos h0] at h
  cases e:g.Rules.findIdx? fun r=>!typR g r with
  | some k=>rw [e] at h; simp at h
  | none=>
   rw [List.findIdx?_eq_none_iff] at e
   have:=e r hr
   simpa using this
 ·rw [if_neg h0] at h; exact absurd h h0
theorem k3T {g:Grammar}(h:z5p g=true)(hc:colG g=false){r:Rule}(hr:r∈g.Rules):r.Contributions=[]:=by
 have ht:=k0m h r hr
 unfold typR at ht
 rw [Bool.and_eq_true,List.all_eq_true,List.all_eq_true] at ht
 cases hq:r.Contributions with
 | nil=>rfl
 | cons q qs=>
  have h1:=ht.2 q (by rw [hq]; simp)
  unfold conT at h1
  simp only [Bool.and_eq_true,decide_eq_true_eq] at h1
  have h3:=h1.2
  unfold z2M at h3
  cases ha:(q6V g q.Symbol).1.Attributes.find? fun a=>decide (a.Name=q.Name) with
  | none=>rw [ha] at h3; exact absurd h3 (by simp [zA])
  | some a=>
   rw [ha] at h3
   have hm:=List.mem_of_find?_eq_some ha
   unfold q6V at hm
   cases hs:g.Symbols.find? fun y=>decide (y.Name=q.Symbol) with
   | none=>rw [hs] at hm; simp [zS] at hm
   | some y=>
    rw [hs] at hm
    unfold colG at hc
    rw [List.any_eq_false] at hc
    exact absurd (List.any_eq_true.2 ⟨a,hm,by simpa using h3⟩) (hc y (List.mem_of_find?_eq_some hs))
end Go.Proofs.YtpnkinhphabkcaaGreat
namespace Go.Proofs.YtpnkinhphabkcaaGreat
open Go Go.E
theorem j6p {n:Nat}{h:Nat→Int→Int}{f:Nat→List Int→Option (List Int)}(hf:∀ k s,k < n→s.length=n→f k s=some (s.set k (h k (s.getD k 0)))) :
  ∀ (m k:Nat) (s:List Int),k+m=n→s.length=n→eachN f k m s=some (s.mapIdx fun j x=>if k≤j then h j x else x)
 | 0,k,s,hk,hs=>by
  show some s=_
  congr 1
  symm
  apply List.ext_getElem?
  intro j
  rw [List.getElem?_mapIdx]
  cases hj:s[j]? with
  | none=>rfl
  | some x=>
   have:=(List.getElem?_eq_some_iff.1 hj).1
   rw [Option.map_some,if_neg (by omega)]
 | m+1,k,s,hk,hs=>by
  rw [eachN,hf k s (by omega) hs,Option.bind_some,j6p hf m (k+1) _ (by omega) (by simpa using hs)]
  congr 1
  apply List.ext_getElem?
  intro j
  rw [List.getElem?_mapIdx,List.getElem?_mapIdx,List.getElem?_set]
  by_cases hj:k=j
  ·subst hj
   have hk' : k < s.length:=by omega
   rw [if_pos rfl,if_pos hk',List.getElem?_eq_getElem hk',List.getD_eq_getElem?_getD,List.getElem?_eq_getElem hk',Option.map_some,Option.map_some,if_neg (by omega),if_pos (Nat.le_refl _)]
   rfl
  ·rw [if_neg hj]
   cases hx:s[j]? with
   | none=>rfl
   | some x=>
    rw [Option.map_some,Option.map_some]
    by_cases h1:k+1≤j
    ·rw [if_pos h1,if_pos (by omega)]
    ·rw [if_neg h1,if_neg (by omega)]
def uniR (a b:Relation):Relation:=if Valid a∧Valid b∧a.N=b.N then ⟨a.N,a.Rows.mapIdx fun j x=>orI x (b.Rows.getD j 0)⟩ else a
theorem k0n {b:Relation}(h:Valid b)(k:Nat):0≤b.Rows.getD k 0:=by
 rw [List.getD_eq_getElem?_getD]
 cases hx:b.Rows[k]? with
 | none=>simp
 | some x=>exact (h.2.2.2 x (List.mem_of_getElem? hx)).1
theorem j8T {a b:Relation}(ha:Valid a)(hb:Valid b)(hN:a.N=b.N){f:Nat→List Int→Option (List Int)}(hf:f=q7C b):eachN f 0 a.Rows.length a.Rows=some (a.Rows.mapIdx fun j x=>orI x (b.Rows.getD j 0)):=by
 subst hf
 have hl:a.Rows.length=b.Rows.length:=by have:=ha.2.2.1; have:=hb.2.2.1; omega
 -- all rows stay at least 0
 have key:∀ (m k:Nat) (s:List Int),k+m=a.Rows.length→s.length=a.Rows.length→(∀ x∈s,0≤x)→eachN (q7C b) k m s=eachN (fun k s=>some (s.set k (orI (s.getD k 0) (b.Rows.getD k 0)))) k m s:=by
  intro m
  induction m with
  | zero=>intro k s _ _ _; rfl
  | succ m ih=>
   intro k s hk hs h0
   have e:q7C b k s=some (s.set k (orI (s.getD k 0) (b.Rows.getD k 0))):=by
    have hx:0≤s.getD k 0:=by
     rw [List.getD_eq_getElem?_getD,List.getElem?_eq_getElem (by omega:k < s.length)]
     exact h0 _ (List.getElem_mem _)
    unfold q7C
    rw [getD_some (by omega),Option.bind_some,getD_some (by omega),Option.bind_some]
    exact q3G ⟨hx,k0n hb k⟩
   rw [eachN,eachN,e,Option.bind_some,Option.bind_some]
   refine ih (k+1) _ (by omega) (by simpa using hs) fun x hx=>?_
   rcases List.mem_or_eq_of_mem_set hx with h | rfl
   ·exact h0 x h
   ·unfold orI; omega
 rw [key _ 0 a.Rows (by omega) rfl (fun x hx=>(ha.2.2.2 x hx).1),j6p (h:=fun k x=>orI x (b.Rows.getD k 0)) (n:=a.Rows.length) (fun k s _ _=>rfl) _ 0 a.Rows (by omega) rfl]
 simp
theorem j7R {a:Relation}(h:a.Rows.length≤1048576)(b:Relation):q7k a b=some (uniR a b):=by
 unfold q7k uniR
 rw [z5i h,Option.bind_some,q6v,Option.bind_some]
 by_cases ha:Valid a
 ·rw [decide_eq_true ha,if_pos rfl,q6v,Option.bind_some,Option.bind_some]
  by_cases hb:Valid b
  ·rw [decide_eq_true hb,Bool.not_true,if_neg (by simp),Option.bind_some]
   by_cases hN:a.N=b.N
   ·rw [decide_eq_true hN,Bool.not_true,if_neg (by simp),if_pos ⟨ha,hb,hN⟩,show a.N.toNat=a.Rows.length by have:=ha.2.2.1; omega,j8T ha hb hN rfl]; rfl
   ·rw [decide_eq_false hN,Bool.not_false,if_pos rfl,if_neg fun hh=>hN hh.2.2]
  ·have hz:(if Valid a∧Valid b∧a.N=b.N then (⟨a.N,a.Rows.mapIdx fun j x=>orI x (b.Rows.getD j 0)⟩:Relation) else a)=a:=if_neg fun hh=>hb hh.2.1
   rw [hz,decide_eq_false hb]; rfl
 ·have hz:(if Valid a∧Valid b∧a.N=b.N then (⟨a.N,a.Rows.mapIdx fun j x=>orI x (b.Rows.getD j 0)⟩:Relation) else a)=a:=if_neg fun hh=>ha hh.1
  rw [hz,decide_eq_false ha]; rfl
theorem k2h (b:Relation):z4Y b=q7C b:=rfl
theorem k5Q {a:Relation}(h:a.Rows.length≤1048576)(b:Relation):q9a a b=some (uniR a b):=by
 unfold q9a uniR
 rw [j1Z,z5i h,Option.bind_some,z0K,Option.bind_some]
 by_cases ha:Valid a
 ·rw [decide_eq_true ha,if_pos rfl,z0K,Option.bind_some,Option.bind_some]
  by_cases hb:Valid b
  ·rw [decide_eq_true hb,if_pos rfl,Option.bind_some]
   by_cases hN:a.N=b.N
   ·rw [if_pos (by simpa using hN),if_pos ⟨ha,hb,hN⟩,k2h,j8T ha hb hN rfl]; rfl
   ·rw [if_neg (by simpa using hN),if_neg fun hh=>hN hh.2.2]
  ·have hz:(if Valid a∧Valid b∧a.N=b.N then (⟨a.N,a.Rows.mapIdx fun j x=>orI x (b.Rows.getD j 0)⟩:Relation) else a)=a:=if_neg fun hh=>hb hh.2.1
   rw [hz,decide_eq_false hb]; rfl
 ·have hz:(if Valid a∧Valid b∧a.N=b.N then (⟨a.N,a.Rows.mapIdx fun j x=>orI x (b.Rows.getD j 0)⟩:Relation) else a)=a:=if_neg fun hh=>ha hh.1
  rw [hz,decide_eq_false ha]; rfl
theorem k4G {n:Nat}{x y:Int}(hx:0≤x∧x≤((2 ^ n:Nat):Int) - 1)(hy:0≤y∧y≤((2 ^ n:Nat):Int) - 1):0≤orI x y∧orI x y≤((2 ^ n:Nat):Int) - 1:=by
 have:=Nat.or_lt_two_pow (n:=n) (x:=x.toNat) (y:=y.toNat) (by omega) (by omega)
 unfold orI; omega
theorem j6q {a b:Relation}(ha:Valid a):Valid (uniR a b)∧(uniR a b).N=a.N:=by
 unfold uniR
 by_cases h:Valid a∧Valid b∧a.N=b.N
 ·rw [if_pos h]
  refine⟨⟨ha.1,ha.2.1,by simpa using ha.2.2.1,fun x hx=>?_⟩,rfl⟩
  obtain⟨j,hj⟩:=List.getElem?_of_mem hx
  rw [List.getElem?_mapIdx] at hj
  cases hy:a.Rows[j]? with
  | none=>rw [hy] at hj; cases hj
  | some y=>
   rw [hy] at hj
   cases hj
   have hyv:=ha.2.2.2 y (List.mem_of_getElem? hy)
   refine k4G hyv ?_
   rw [List.getD_eq_getElem?_getD]
   cases hz:b.Rows[j]? with
   | none=>
    have:=Nat.one_le_two_pow (n:=a.N.toNat)
    show (0:Int)≤0∧(0:Int)≤((2 ^ a.N.toNat:Nat):Int) - 1
    constructor<;>omega
   | some z=>have:=h.2.1.2.2.2 z (List.mem_of_getElem? hz); rw [← h.2.2] at this; exact this
 ·rw [if_neg h]; exact⟨ha,rfl⟩
def sumR (a:Relation):Nat:=(a.Rows.map Int.toNat).sum
theorem j3C:∀ (l:List Int) (f:Nat→Int→Int),(∀ j x,x∈l→x.toNat≤(f j x).toNat)→(l.map Int.toNat).sum≤((l.mapIdx f).map Int.toNat).sum∧((∀ x∈l,0≤x)→(∀ j x,0≤f j x)→(l.map Int.toNat).sum=((l.mapIdx f).map Int.toNat).sum→l.mapIdx f=l)
 | [],f,_=>⟨by simp,fun _ _ _=>by simp⟩
 | x :: l,f,h=>by
  have ih:=j3C l (fun j=>f (j+1)) fun j y hy=>h (j+1) y (by simp [hy])
  have h0:=h 0 x (by simp)
  rw [List.mapIdx_cons]
  simp only [List.map_cons,List.sum_cons]
  refine⟨by have:=ih.1; omega,fun h1 h2 he=>?_⟩
  have a1:=ih.1
  have e1:(l.map Int.toNat).sum=((l.mapIdx fun j=>f (j+1)).map Int.toNat).sum:=by omega
  have e2:x.toNat=(f 0 x).toNat:=by omega
  have p1:=h1 x (by simp)
  have p2:=h2 0 x
  rw [ih.2 (fun y hy=>h1 y (by simp [hy])) (fun j y=>h2 (j+1) y) e1,show f 0 x=x by omega]
theorem k5R {a b:Relation}(ha:Valid a):sumR a≤sumR (uniR a b)∧(sumR a=sumR (uniR a b)→uniR a b=a):=by
 unfold uniR
 by_cases h:Valid a∧Valid b∧a.N=b.N
 ·rw [if_pos h]
  have key:=j3C a.Rows (fun j x=>orI x (b.Rows.getD j 0)) fun j x _=>by
   unfold orI; have:=@Nat.left_le_or x.toNat (b.Rows.getD j 0).toNat; omega
  refine⟨key.1,fun he=>?_⟩
  have:=key.2 (fun x hx=>(ha.2.2.2 x hx).1) (fun j x=>by unfold orI; omega) he
  show (⟨a.N,_⟩:Relation)=a
  rw [this]
 ·rw [if_neg h]; exact⟨Nat.le_refl _,fun _=>rfl⟩
theorem k2i {a:Relation}(ha:Valid a):sumR a≤16*65535:=by
 have key:∀ l:List Int,(∀ x∈l,x.toNat≤65535)→(l.map Int.toNat).sum≤l.length*65535:=by
  intro l
  induction l with
  | nil=>intro _; simp
  | cons x l ih=>
   intro h
   have h1:=h x (by simp)
   have h2:=ih fun y hy=>h y (by simp [hy])
   simp only [List.map_cons,List.sum_cons,List.length_cons]
   omega
 have h1:=key a.Rows fun x hx=>by
  have:=ha.2.2.2 x hx
  have:=k6Z ha.2.1
  omega
 have hl:a.Rows.length≤16:=by have:=ha.2.2.1; have:=ha.2.1; omega
 exact Nat.le_trans h1 (Nat.mul_le_mul_right 65535 hl)
theorem k2j {b:List Int}{f:Nat→Int→Unit→Option (Unit ⊕ Bool)}(hf:∀ k x,f k x ()=(b[k]?).bind fun x2=>if x=x2 then some (.inl ()) else some (.inr false)) :
  ∀ (xs ys:List Int) (i:Nat),xs.length=ys.length→(∀ j,b[i+j]? = ys[j]?)→findL f i xs ()=some (if xs=ys then .inl () else .inr false)
 | [],ys,i,hl,_=>by obtain rfl:=List.eq_nil_of_length_eq_zero hl.symm; rfl
 | x :: xs,[],i,hl,_=>by simp at hl
 | x :: xs,y :: ys,i,hl,hb=>by
  have h0:b[i]? = some y:=by simpa using hb 0
  rw [findL,hf,h0,Option.bind_some]
  by_cases hx:x=y
  ·rw [if_pos hx,Option.bind_some]
   dsimp only
   rw [k2j hf xs ys (i+1) (by simpa using hl) fun j=>by have:=hb (j+1); rw [show i+1+j=i+(j+1) by omega]; simpa using this]
   subst hx
   by_cases he:xs=ys
   ·rw [if_pos he,if_pos (by rw [he])]
   ·rw [if_neg he,if_neg (by intro hh; injection hh with _ h2; exact he h2)]
  ·rw [if_neg hx,Option.bind_some]
   dsimp only
   rw [if_neg (by intro hh; injection hh with h2 _; exact hx h2)]
theorem j7S (a b:Relation):q5I a b=some (decide (a=b)):=by
 obtain⟨n,xs⟩:=a
 obtain⟨m,ys⟩:=b
 unfold q5I z6R
 dsimp only
 by_cases hn:n=m
 ·rw [if_pos hn]
  by_cases hl:xs.length=ys.length
  ·rw [if_pos (by omega),k2j (b:=ys) (fun k x=>rfl) xs ys 0 hl fun j=>by rw [Nat.zero_add]]
   by_cases he:xs=ys
   ·rw [if_pos he,decide_eq_true (by rw [hn,he])]; rfl
   ·rw [if_neg he,decide_eq_false (by intro hh; injection hh with _ h2; exact he h2)]; rfl
  ·rw [if_neg (by omega),decide_eq_false (by intro hh; injection hh with _ h2; exact hl (by rw [h2]))]; rfl
 ·rw [if_neg hn,decide_eq_false (by intro hh; injection hh with h1 _; exact hn h1)]
theorem k5S (a b:Relation):z0u a b=some (decide (a=b)):=by
 rw [← j7S]; rfl
noncomputable def j4K (r:Relation):Bool:=decide (∃ k:Nat,k < r.Rows.length∧hasP (q5M r) (k:Int) (k:Int))
theorem j8U {r:Relation}(h:r.Rows.length≤1048576):z1U r=some (j4K r):=j2b h
theorem j4L {r:Relation}(h:r.Rows.length≤1048576):q9Q r=some (j4K r):=by
 unfold q9Q j4K
 rw [q6v,Option.bind_some]
 by_cases hv:Valid r
 ·rw [decide_eq_true hv,if_pos rfl,z8R h,Option.bind_some]
  have hN:r.N.toNat=r.Rows.length:=by have:=hv.2.2.1; omega
  rw [hN,j2f (c:=true) (n:=r.Rows.length) (q:=fun k=>!decide (hasP (q5M r) (k:Int) (k:Int))) (fun k hk=>by
   unfold z2c
   rw [q7Q,Option.bind_some]
   by_cases hp:hasP (q5M r) (k:Int) (k:Int)
   ·rw [decide_eq_true hp]; rfl
   ·rw [decide_eq_false hp]; rfl) r.Rows.length 0 (by omega)]
  by_cases he:∃ k:Nat,k < r.Rows.length∧hasP (q5M r) (k:Int) (k:Int)
  ·rw [decide_eq_true he,if_neg]; · rfl
   obtain⟨k,hk,hp⟩:=he
   rw [List.all_eq_true]
   intro hh
   have:=hh k (by simp; omega)
   simp [hp] at this
  ·rw [decide_eq_false he,if_pos]; · rfl
   rw [List.all_eq_true]
   intro k hk
   simp at hk
   have:¬ hasP (q5M r) (k:Int) (k:Int):=fun hp=>he ⟨k,hk,hp⟩
   simp [this]
 ·rw [decide_eq_false hv,if_neg (by simp),decide_eq_false]
  rintro⟨k,hk,hp⟩
  have:q5M r=r:=by unfold q5M; rw [if_neg hv]
  rw [this] at hp
  exact hv hp.1
end Go.Proofs.YtpnkinhphabkcaaGreat
namespace Go.Proofs.YtpnkinhphabkcaaGreat
open Go Go.E
def q5C (g:Grammar)(s:ByteArray):List Attribute:=(q6V g s).1.Attributes.filter z9z
theorem z9D {g:Grammar}(h:GOk g)(s:ByteArray):(q5C g s).length≤1048576:=Nat.le_trans (List.length_filter_le _ _) (z3Y h s)
theorem j6r {l:List Attribute}(h:l.length≤1048576):eachL q6e 0 l []=some (l.filter z9z):=by
 have:=z5l (p:=z9z) (g:=fun x:Attribute=>x) (B:=1048577) (f:=q6e) (fun k x s hs=>by
  have hg:((s.length:Int)+1)*40≤140737488355328∧(s.length:Int)+1≤9223372036854775807:=by constructor<;>omega
  unfold q6e z9z
  rw [q3G hg]
  by_cases m1:x.Mode=1
  ·rw [if_pos m1,if_pos (by simp [m1])]; rfl
  ·rw [if_neg m1]
   by_cases m2:x.Mode=2
   ·rw [if_pos m2,if_pos (by simp [m2])]; rfl
   ·rw [if_neg m2,if_neg (by simp [m1,m2])]; rfl) l 0 [] (by simp; omega)
 rw [this]; simp
theorem z8W {g:Grammar}(h:GOk g)(s:ByteArray):q5e g s=some (q5C g s):=by
 unfold q5e q5C
 rw [z2N h,Option.bind_some]
 try dsimp only
 rw [j6r (z3Y h s)]; rfl
theorem z8X {g:Grammar}(h:GOk g)(s:ByteArray):q4j g s=some (q5C g s):=by
 unfold q4j q5C
 rw [z3X,Option.bind_some]
 try dsimp only
 rw [j3y,j6r (z3Y h s)]; rfl
def occK (g:Grammar)(r:Rule)(k:Nat):List Occurrence:=(q5C g (q5Q r (k:Int))).map fun x=>(⟨(k:Int),x.Name⟩:Occurrence)
def occL (g:Grammar)(r:Rule):List Occurrence:=(List.range' 0 (r.Right.length+1)).flatMap (occK g r)
theorem j8V {g:Grammar}(h:GOk g)(r:Rule)(k:Nat):(occK g r k).length≤1048576:=by unfold occK; rw [List.length_map]; exact z9D h _
theorem j4M {g:Grammar}(h:GOk g){r:Rule}(hl:ROk r):q5j g r=some (occL g r):=by
 have hl' : r.Right.length≤1048576:=hl
 have key:=z9B (h:=occK g r) (C:=1048576) (n:=r.Right.length+1) (f:=q4v g r) (fun k s hk hs=>by
  unfold q4v
  rw [z8c hl,Option.bind_some,z8X h,Option.bind_some,z7d k _ 0 s (by have:=z9D h (q5Q r (k:Int)); omega)]; rfl)
  (fun k _=>j8V h r k) (r.Right.length+1) 0 [] (by omega) (by simp)
 unfold q5j
 rw [q3G (by constructor<;>omega),key]; rfl
theorem k2k {g:Grammar}(h:GOk g){r:Rule}(hl:ROk r):q6a g r=some (occL g r):=by
 have hl' : r.Right.length≤1048576:=hl
 have key:=j2d (h:=occK g r) (C:=1048576) (n:=r.Right.length+1) (f:=q5o g r) (fun k s hk hs=>by
  unfold q5o
  dsimp only
  rw [if_pos (by omega),z3Z hl,Option.bind_some,z8W h,Option.bind_some,j8M,z7d k _ 0 s (by have:=z9D h (q5Q r (k:Int)); omega),Option.bind_some,q3G (by constructor<;>omega)]; rfl) (fun s=>by
  unfold q5o; dsimp only; rw [if_neg (by omega)]) (fun k _=>j8V h r k) (r.Right.length+1) 0 [] (by omega) (by simp)
 unfold q6a
 have e:q4L (q5o g r) (([]:List Occurrence),0)=some ([]++(List.range' 0 (r.Right.length+1)).flatMap (occK g r)):=key
 rw [e]; rfl
theorem j8W {g:Grammar}(h:GOk g){r:Rule}(hl:ROk r):(occL g r).length≤1099512676352:=by
 obtain⟨l,_,h2,h3⟩:=j0G h hl
 rw [j4M h hl] at h2
 cases h2; exact h3
def posL (g:Grammar)(r:Rule)(k:Int):List Int:=(((occL g r).zipIdx 0).filter fun q=>decide (q.1.Pos=k)).map fun q=>(q.2:Int)
theorem j8X (k:Int){l:List Occurrence}(h:l.length≤1099512676352):eachL (q6f k) 0 l []=some (((l.zipIdx 0).filter fun q=>decide (q.1.Pos=k)).map fun q=>(q.2:Int)):=by
 have:=j2c (p:=fun x:Occurrence=>decide (x.Pos=k)) (g:=fun i:Nat=>(i:Int)) (B:=4398046511104) (f:=q6f k) (fun i x s hs=>by
  have hg:((s.length:Int)+1)*8≤140737488355328∧(s.length:Int)+1≤9223372036854775807:=by constructor<;>omega
  unfold q6f
  rw [q3G hg]
  by_cases m1:x.Pos=k
  ·rw [if_pos m1,if_pos (by simp [m1])]; rfl
  ·rw [if_neg m1,if_neg (by simp [m1])]; rfl) l 0 [] (by simp; omega)
 rw [this]; simp
theorem j7T {g:Grammar}(h:GOk g){r:Rule}(hl:ROk r)(k:Int):q5y g r k=some (posL g r k):=by
 unfold q5y posL
 rw [k2k h hl,Option.bind_some,j8X k (j8W h hl)]; rfl
theorem k2l {g:Grammar}(h:GOk g){r:Rule}(hl:ROk r)(k:Int):q4R g r k=some (posL g r k):=by
 unfold q4R posL
 rw [j4M h hl,Option.bind_some,z7F,j8X k (j8W h hl)]; rfl
theorem j6s {α:Type}(p:α→Bool):∀ (l:List α) (i:Nat),((l.zipIdx i).filter fun q=>p q.1).length=l.countP p
 | [],i=>rfl
 | x :: l,i=>by
  rw [List.zipIdx_cons,List.filter_cons,List.countP_cons]
  have ih:=j6s p l (i+1)
  by_cases hp:p x=true
  ·rw [if_pos hp,if_pos hp,List.length_cons,ih]
  ·rw [if_neg hp,if_neg hp,ih]; rfl
theorem j7U (g:Grammar){r:Rule}{k:Nat}(hk:k≤r.Right.length):(posL g r (k:Int)).length=(q5C g (q5Q r (k:Int))).length:=by
 unfold posL
 rw [List.length_map,j6s (fun x:Occurrence=>decide (x.Pos=(k:Int)))]
 unfold occL
 rw [List.countP_flatMap]
 have hK:∀ j:Nat,(occK g r j).countP (fun x=>decide (x.Pos=(k:Int)))=if j=k then (q5C g (q5Q r (k:Int))).length else 0:=by
  intro j
  unfold occK
  rw [List.countP_map]
  by_cases hj:j=k
  ·subst hj
   rw [if_pos rfl,List.countP_eq_length.2 (by simp)]
  ·rw [if_neg hj,List.countP_eq_zero.2]
   intro a _
   simp; omega
 have hsum:∀ m i,((List.range' i m).map (List.countP (fun x:Occurrence=>decide (x.Pos=(k:Int))) ∘ occK g r)).sum=if i≤k∧k < i+m then (q5C g (q5Q r (k:Int))).length else 0:=by
  intro m
  induction m with
  | zero=>intro i; rw [if_neg (by omega)]; rfl
  | succ m ih=>
   intro i
   rw [List.range'_succ,List.map_cons,List.sum_cons,ih (i+1),Function.comp,hK i]
   by_cases h1:i=k
   ·rw [if_pos h1,if_neg (by omega),if_pos (by omega)]; rfl
   ·rw [if_neg h1,Nat.zero_add]
    by_cases h2:i+1≤k∧k < i+1+m
    ·rw [if_pos h2,if_pos (by omega)]
    ·rw [if_neg h2,if_neg (by omega)]
 rw [hsum,if_pos (by omega)]
noncomputable def q8l (own:Relation) (a:Nat) (x:Int):Nat→List Int→Relation→Relation
 | _,[],o=>o
 | i,y :: ys,o=>q8l own a x (i+1) ys (if hasP own (a:Int) (i:Int) then addP o x y else o)
noncomputable def q8V (own:Relation) (at' : List Int):Nat→List Int→Relation→Relation
 | _,[],o=>o
 | a,x :: xs,o=>q8V own at' (a+1) xs (q8l own a x 0 at' o)
theorem z7u (own:Relation)(a:Nat)(x:Int):∀ (ys:List Int) (i:Nat) (o:Relation),(q8l own a x i ys o).Rows.length=o.Rows.length∧(q8l own a x i ys o).N=o.N
 | [],i,o=>⟨rfl,rfl⟩
 | y :: ys,i,o=>by
  rw [q8l]
  have ih:=z7u own a x ys (i+1) (if hasP own (a:Int) (i:Int) then addP o x y else o)
  by_cases h:hasP own (a:Int) (i:Int)
  ·rw [if_pos h] at ih ⊢
   have:=z3j o x y
   exact⟨ih.1.trans this.1,ih.2.trans this.2⟩
  ·rw [if_neg h] at ih ⊢; exact ih
theorem z8d (own:Relation)(at' : List Int):∀ (xs:List Int) (a:Nat) (o:Relation),(q8V own at' a xs o).Rows.length=o.Rows.length∧(q8V own at' a xs o).N=o.N
 | [],a,o=>⟨rfl,rfl⟩
 | x :: xs,a,o=>by
  rw [q8V]
  have ih:=z8d own at' xs (a+1) (q8l own a x 0 at' o)
  have:=z7u own a x at' 0 o
  exact⟨ih.1.trans this.1,ih.2.trans this.2⟩
theorem k2m (own:Relation)(a:Nat)(x:Int):∀ (ys:List Int) (i:Nat) (o:Relation),o.Rows.length≤1048576 →
  eachL (z1u own a x) i ys (o.Rows,o.N)=some ((q8l own a x i ys o).Rows,(q8l own a x i ys o).N)∧eachL (z8A own a x) i ys (o.N,o.Rows)=some ((q8l own a x i ys o).N,(q8l own a x i ys o).Rows)
 | [],i,o,_=>⟨rfl,rfl⟩
 | y :: ys,i,o,h=>by
  have e1:z1u own a x i y (o.Rows,o.N)=some ((if hasP own (a:Int) (i:Int) then addP o x y else o).Rows,(if hasP own (a:Int) (i:Int) then addP o x y else o).N):=by
   unfold z1u
   dsimp only
   rw [q7Q,Option.bind_some]
   by_cases hp:hasP own (a:Int) (i:Int)
   ·rw [decide_eq_true hp,if_pos rfl,if_pos hp,j6h h]; rfl
   ·rw [decide_eq_false hp,if_neg (by simp),if_neg hp]; rfl
  have e2:z8A own a x i y (o.N,o.Rows)=some ((if hasP own (a:Int) (i:Int) then addP o x y else o).N,(if hasP own (a:Int) (i:Int) then addP o x y else o).Rows):=by
   unfold z8A
   dsimp only
   rw [z5S,Option.bind_some]
   by_cases hp:hasP own (a:Int) (i:Int)
   ·rw [decide_eq_true hp,if_pos rfl,if_pos hp,j0E,j6h h]; rfl
   ·rw [decide_eq_false hp,if_neg (by simp),if_neg hp]; rfl
  have hl:(if hasP own (a:Int) (i:Int) then addP o x y else o).Rows.length≤1048576:=by
   split
   ·rw [(z3j o x y).1]; exact h
   ·exact h
  have ih:=k2m own a x ys (i+1) _ hl
  rw [eachL,eachL,e1,e2,Option.bind_some,Option.bind_some,q8l]
  exact ih
theorem j4N (own:Relation)(at' : List Int):∀ (xs:List Int) (a:Nat) (o:Relation),o.Rows.length≤1048576 →
  eachL (z1v own at') a xs (o.Rows,o.N)=some ((q8V own at' a xs o).Rows,(q8V own at' a xs o).N)∧eachL (z8B own at') a xs (o.N,o.Rows)=some ((q8V own at' a xs o).N,(q8V own at' a xs o).Rows)
 | [],a,o,_=>⟨rfl,rfl⟩
 | x :: xs,a,o,h=>by
  have h1:=k2m own a x at' 0 o h
  have hl:(q8l own a x 0 at' o).Rows.length≤1048576:=by rw [(z7u own a x at' 0 o).1]; exact h
  have ih:=j4N own at' xs (a+1) _ hl
  have e1:z1v own at' a x (o.Rows,o.N)=some ((q8l own a x 0 at' o).Rows,(q8l own a x 0 at' o).N):=by
   unfold z1v; dsimp only; rw [h1.1]; rfl
  have e2:z8B own at' a x (o.N,o.Rows)=some ((q8l own a x 0 at' o).N,(q8l own a x 0 at' o).Rows):=by
   unfold z8B; dsimp only; rw [h1.2]; rfl
  rw [eachL,eachL,e1,e2,Option.bind_some,Option.bind_some,q8V]
  exact ih
noncomputable def z0S (g:Grammar) (r:Rule) (o:Relation) (pos:Int) (own:Relation):Relation:=q8V own (posL g r pos) 0 (posL g r pos) o
theorem j6t {g:Grammar}(h:GOk g){r:Rule}(hl:ROk r){o:Relation}(ho:o.Rows.length≤1048576)(pos:Int)(own:Relation):z7q g r o pos own=some (z0S g r o pos own):=by
 unfold z7q z0S
 rw [k2l h hl,Option.bind_some,(j4N own (posL g r pos) (posL g r pos) 0 o ho).2]; rfl
theorem z5T {r:Rule}{k:Nat}{x:ByteArray}(h:r.Right[k]? = some x):q5Q r ((k+1:Nat):Int)=x:=by
 have hk:=(List.getElem?_eq_some_iff.1 h).1
 unfold q5Q
 rw [if_neg (by omega),if_pos (by omega),show (((k+1:Nat):Int) - 1).toNat=k by omega,List.getD_eq_getElem?_getD,h]; rfl
noncomputable def z5U (g:Grammar) (r:Rule):Nat→List Relation→Relation→Relation
 | _,[],o=>o
 | k,own :: l,o=>z5U g r (k+1) l (z0S g r o ((k+1:Nat):Int) own)
theorem z9E (g:Grammar)(r:Rule)(o:Relation)(pos:Int)(own:Relation):(z0S g r o pos own).Rows.length=o.Rows.length:=(z8d own _ _ 0 o).1
def FitL (g:Grammar)(r:Rule)(list:List Relation):Prop:=list.length=r.Right.length∧∀ k own,list[k]? = some own→Valid own∧own.N=((q5C g (q5Q r ((k+1:Nat):Int))).length:Int)
theorem j6u {g:Grammar}(h:GOk g){r:Rule}(hl:ROk r){list:List Relation}(hf:FitL g r list):∀ (m k:Nat) (o:Relation),k+m=list.length→o.Rows.length≤1048576 →
  findL (z1w g r) k (list.drop k) (o.Rows,o.N)=some (.inl ((z5U g r k (list.drop k) o).Rows,(z5U g r k (list.drop k) o).N)) ∧
  findL (z1A g r) k (list.drop k) (o.N,o.Rows)=some (.inl ((z5U g r k (list.drop k) o).N,(z5U g r k (list.drop k) o).Rows))∧(z5U g r k (list.drop k) o).Rows.length=o.Rows.length
 | 0,k,o,hk,_=>by rw [List.drop_eq_nil_of_le (by omega)]; exact⟨rfl,rfl,rfl⟩
 | m+1,k,o,hk,ho=>by
  have hk' : k < list.length:=by omega
  rw [List.drop_eq_getElem_cons hk']
  have hv:=hf.2 k list[k] (List.getElem?_eq_getElem hk')
  have hR:k < r.Right.length:=by rw [← hf.1]; exact hk'
  have hsym:=z5T (r:=r) (k:=k) (List.getElem?_eq_getElem hR)
  have hpl:=j7U g (r:=r) (k:=k+1) (by omega)
  have e1:z1w g r k list[k] (o.Rows,o.N)=some (.inl ((z0S g r o ((k+1:Nat):Int) list[k]).Rows,(z0S g r o ((k+1:Nat):Int) list[k]).N)):=by
   unfold z1w
   dsimp only
   rw [j7T h hl,Option.bind_some,q6v,Option.bind_some,decide_eq_true hv.1,if_pos rfl,if_pos (by rw [hpl]; exact hv.2),(j4N list[k] _ _ 0 o ho).1]; rfl
  have e2:z1A g r k list[k] (o.N,o.Rows)=some (.inl ((z0S g r o ((k+1:Nat):Int) list[k]).N,(z0S g r o ((k+1:Nat):Int) list[k]).Rows)):=by
   unfold z1A
   dsimp only
   rw [List.getElem?_eq_getElem hR,Option.bind_some,z8X h,Option.bind_some,if_pos (by rw [← hsym]; exact hv.2),j6t h hl ho]; rfl
  have hlen:=z9E g r o ((k+1:Nat):Int) list[k]
  have ih:=j6u h hl hf m (k+1) (z0S g r o ((k+1:Nat):Int) list[k]) (by omega) (by rw [hlen]; exact ho)
  rw [findL,findL,e1,e2,Option.bind_some,Option.bind_some,z5U]
  exact⟨ih.1,ih.2.1,ih.2.2.trans hlen⟩
noncomputable def locR (g:Grammar) (r:Rule):Relation:=(q6B g r).getD ⟨0,[]⟩
theorem k2n {g:Grammar}{r:Rule}(h:Sz.szd g≤1048576)(hr:Sz.szd r≤1048576):q6B g r=some (locR g r)∧q6A g r=some (locR g r)∧(locR g r).Rows.length≤16:=by
 obtain⟨x,h1,h2,h3⟩:=k0f h hr
 unfold locR
 rw [h1,h2]; exact⟨rfl,rfl,h3⟩
noncomputable def z7z (g:Grammar) (r:Rule) (list:List Relation):Relation:=if 16 < (occL g r).length then ⟨0,[]⟩ else q5M (z5U g r 0 list (locR g r))
theorem k2o {g:Grammar}{r:Rule}(h:Sz.szd g≤1048576)(hr:Sz.szd r≤1048576){list:List Relation}(hf:FitL g r list):q9j g r list=some (z7z g r list)∧z7E g r list=some (z7z g r list)∧(z7z g r list).Rows.length≤16:=by
 have hg:=q9p h
 have hl:=q6n hr
 obtain⟨l1,l2,l3⟩:=k2n h hr
 have hn:(list.length:Int)=(r.Right.length:Int):=by rw [hf.1]
 unfold q9j z7E
 rw [k2k hg hl,j4M hg hl]
 simp only [Option.bind_some]
 rw [if_pos hn,if_pos hn]
 simp only [Option.bind_some]
 by_cases h16:16 < (occL g r).length
 ·have hi:(16:Int) < ((occL g r).length:Int):=by omega
  have hc:z7z g r list=⟨0,[]⟩:=if_pos h16
  rw [hc,decide_eq_true hi,if_pos rfl,if_pos hi]
  exact⟨rfl,rfl,by simp⟩
 ·have hi:¬ (16:Int) < ((occL g r).length:Int):=by omega
  have hc:z7z g r list=q5M (z5U g r 0 list (locR g r)):=if_neg h16
  rw [hc,decide_eq_false hi,if_neg (by simp),if_neg hi,l1,l2,Option.bind_some,Option.bind_some]
  have key:=j6u hg hl hf list.length 0 (locR g r) (by omega) (by omega)
  rw [List.drop_zero] at key
  have hlen:(z5U g r 0 list (locR g r)).Rows.length≤16:=by rw [key.2.2]; exact l3
  rw [key.1,key.2.1,Option.bind_some,Option.bind_some,z1H,z1H]
  dsimp only
  rw [z8R (r:=⟨(z5U g r 0 list (locR g r)).N,(z5U g r 0 list (locR g r)).Rows⟩) (by show (z5U g r 0 list (locR g r)).Rows.length≤_; omega),z8S (r:=⟨(z5U g r 0 list (locR g r)).N,(z5U g r 0 list (locR g r)).Rows⟩) (by show (z5U g r 0 list (locR g r)).Rows.length≤_; omega)]
  exact⟨rfl,rfl,by rw [(z5j _).1]; exact hlen⟩
end Go.Proofs.YtpnkinhphabkcaaGreat
