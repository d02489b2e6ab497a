/- What those partial functions come to: plain lemmas on data; each bears its conditions in its statement. -/
import Derived.Test.YtiojgbiimbefiacGreatEng7
set_option linter.unusedVariables false
set_option linter.unusedSimpArgs false
set_option linter.ambiguousOpen false
set_option linter.unusedSectionVars false
set_option linter.unnecessarySimpa false
namespace Go.Proofs.YtiojgbiimbefiacGreat
open Go Go.E
mutual
def q7U:Expr→List Occurrence
 | ⟨a0,a1,a2,a3,a4,a5,a6⟩=>(if a0=3 then [⟨a2,a5⟩] else [])++q5w a6
def q5w:List Expr→List Occurrence
 | []=>[]
 | x :: xs=>q7U x++q5w xs
end
mutual
def fuE:Expr→Nat
 | ⟨_,_,_,_,_,_,a6⟩=>fuEs a6+1
def fuEs:List Expr→Nat
 | []=>0
 | x :: xs=>max (fuE x) (fuEs xs)
end
theorem z0O (e:Expr):fuE e=fuEs e.Args+1:=by cases e; rfl
theorem z3Y:∀ {l:List Expr} {x:Expr},x∈l→fuE x≤fuEs l
 | y :: l,x,h=>by
  simp only [fuEs]
  rcases List.mem_cons.1 h with e | h
  ·subst e; omega
  ·have:=z3Y h; omega
theorem q7V (e:Expr):q7U e=(if e.Kind=3 then [⟨e.Pos,e.Name⟩] else [])++q5w e.Args:=by cases e; rfl
mutual
theorem z5t:∀ e:Expr,(q7U e).length≤1+q5t e
 | ⟨a0,a1,a2,a3,a4,a5,a6⟩=>by
  have:=z3i a6
  simp only [q7U,q5t,List.length_append]
  split<;>simp<;>omega
theorem z3i:∀ l:List Expr,(q5w l).length≤q7a l
 | []=>by simp [q5w]
 | x :: xs=>by
  have h1:=z5t x
  have h2:=z3i xs
  simp only [q5w,q7a,List.length_append]; omega
end
theorem q9Y {α:Type}[Sz α]{x:α}:∀ {l:List α},x∈l→Sz.szd x < szL l
 | [],h=>by simp at h
 | y :: l,h=>by
  rcases List.mem_cons.1 h with rfl | h
  ·simp only [szL]; omega
  ·have:=q9Y h; simp only [szL]; omega
theorem j4o {e x:Expr}(h:x∈e.Args):Sz.szd x < Sz.szd e:=by
 have h1:=q3k e
 have h2:=q9Y h
 omega
theorem z9T {e:Expr}(h:Sz.szd e≤1048576):(q7U e).length≤1048577:=by
 have h1:=z5t e
 have h2:q5t e=Sz.szd e:=rfl
 omega
theorem z6H:∀ (m:Nat) (e:Expr) (o:List Occurrence),fuE e≤m→o.length+(q7U e).length≤4398046511104→q1H m e o=some (true,o++q7U e):=by
 intro m
 induction m with
 | zero=>intro e o h; rw [z0O] at h; omega
 | succ m ih=>
  have hl:∀ (l:List Expr) (i:Nat) (o:List Occurrence),fuEs l≤m→o.length+(q5w l).length≤4398046511104→findL (q1B (q1H m)) i l o=some (.inl (o++q5w l)):=by
   intro l
   induction l with
   | nil=>intro i o _ _; simp [findL,q5w]
   | cons x l ihl=>
    intro i o hf hb
    simp only [fuEs] at hf
    simp only [q5w,List.length_append] at hb
    have hx:=ih x o (by omega) (by omega)
    simp only [findL,q1B,q2d,hx,Option.bind_some,Bool.not_true,Bool.false_eq_true,if_false]
    rw [ihl _ _ (by omega) (by rw [List.length_append]; omega),q5w,List.append_assoc]
  intro e o hf hb
  rw [z0O] at hf
  show q1N (q1H m) e o=_
  have hb':=hb
  rw [q7V,List.length_append] at hb'
  have h1:q3H e o=some (true,o++if e.Kind=3 then [⟨e.Pos,e.Name⟩] else []):=by
   unfold q3H
   by_cases hk:e.Kind=3
   ·rw [if_pos hk] at hb' ⊢
    rw [if_pos hk,q1n]
    simp only [List.length_cons,List.length_nil] at hb'
    constructor<;>omega
   ·rw [if_neg hk,if_neg hk,List.append_nil]
  unfold q1N
  rw [h1,Option.bind_some]
  dsimp only
  rw [if_pos rfl]
  unfold q1s q1t
  rw [hl _ _ _ (by omega) (by rw [List.length_append]; omega),q7V]
  simp [onr]
theorem j1v {e:Expr}(h:(q7U e).length≤4398046511104):q3b e []=some (true,q7U e):=
 q7K (fuE e) fun m hm=>by simpa using z6H m e [] hm (by simpa using h)
theorem z6I {α:Type}{s:List α}{k:Nat}{x:α}(h:k < s.length):(s.set k x).take (k+1)=s.take k++[x]:=by
 rw [List.take_add_one,List.take_set,List.set_eq_of_length_le (by simp; omega)]
 simp [List.getElem?_set,h]
theorem z8J {a:List Occurrence}{b:Nat}(ha:a.length≤4398046511104)(hb:1≤b)(hba:b < a.length):∀ (m j k:Nat) (s:List Occurrence),b+j+m=a.length→1≤j→1≤k→k≤b+j - 1→s.length=a.length→s.take k=q1P (a.take (b+j))→s.drop (b+j - 1)=a.drop (b+j - 1) →
  ∃ s' k',q2t (q1y (b:Int)) (s,(k:Int),(j:Int))=some (s',((k' : Nat):Int))∧k'≤s'.length∧s'.take k'=q1P a:=by
 intro m
 induction m with
 | zero=>
  intro j k s hm hj hk hkj hs ht hd
  refine⟨s,k,q1D ?_,by omega,?_⟩
  ·unfold q1y
   dsimp only
   rw [if_neg (by simp only [Int.toNat_natCast,List.length_drop]; omega)]
  ·rw [ht,show b+j=a.length by omega,List.take_length]
 | succ m ih=>
  intro j k s hm hj hk hkj hs ht hd
  obtain⟨x,hx⟩:∃ x,a[b+j]? = some x:=⟨_,List.getElem?_eq_getElem (by omega)⟩
  obtain⟨y,hy⟩:∃ y,a[b+j - 1]? = some y:=⟨_,List.getElem?_eq_getElem (by omega)⟩
  obtain⟨z,hz⟩:∃ z,s[k]? = some z:=⟨_,List.getElem?_eq_getElem (by omega)⟩
  have hsx:s[b+j]? = some x:=by
   have:=congrArg (fun l=>l[1]?) hd
   simp only [List.getElem?_drop] at this
   rw [show b+j - 1+1=b+j by omega] at this
   rw [this,hx]
  have hsy:s[b+(j - 1)]? = some y:=by
   have:=congrArg (fun l=>l[0]?) hd
   simp only [List.getElem?_drop,Nat.add_zero] at this
   rw [show b+(j - 1)=b+j - 1 by omega,this,hy]
  have hc:=q9X (i:=b+j - 1) (b:=x) hy (by rw [show b+j - 1+1=b+j by omega]; exact hx)
  rw [show b+j - 1+2=b+(j+1) by omega,show b+j - 1+1=b+j by omega] at hc
  have hd2:s.drop (b+(j+1) - 1)=a.drop (b+(j+1) - 1):=by
   have:=congrArg (fun l=>l.drop 1) hd
   simp only [List.drop_drop] at this
   rw [show b+(j+1) - 1=b+j - 1+1 by omega]; exact this
  have e1:((j:Int) - 1).toNat=j - 1:=by omega
  by_cases hxy:x=y
  ·have e:q1y (b:Int) (s,(k:Int),(j:Int))=some (.inl (s,(k:Int),((j+1:Nat):Int))):=by
    unfold q1y
    dsimp only
    rw [if_pos (by simp only [Int.toNat_natCast,List.length_drop]; omega),q1n (by omega)]
    simp only [Int.toNat_natCast]
    rw [hsx,Option.bind_some,q1n (by constructor<;>omega),q1n (by omega),e1,hsy,Option.bind_some,if_pos hxy,Option.bind_some]
    dsimp only
    rw [q1n (by constructor<;>omega)]; rfl
   rw [q2c e]
   exact ih (j+1) k s (by omega) (by omega) hk (by omega) hs (by rw [hc,if_pos hxy.symm,ht]) hd2
  ·have e:q1y (b:Int) (s,(k:Int),(j:Int))=some (.inl (s.set k x,((k+1:Nat):Int),((j+1:Nat):Int))):=by
    unfold q1y
    dsimp only
    rw [if_pos (by simp only [Int.toNat_natCast,List.length_drop]; omega),q1n (by omega)]
    simp only [Int.toNat_natCast]
    rw [hsx,Option.bind_some,q1n (by constructor<;>omega),q1n (by omega),e1,hsy,Option.bind_some,if_neg hxy,q1n (by omega),q1n (by omega),hz,Option.bind_some,q1n (by constructor<;>omega),Option.bind_some]
    dsimp only
    rw [q1n (by constructor<;>omega)]; rfl
   rw [q2c e]
   refine ih (j+1) (k+1) _ (by omega) (by omega) (by omega) (by omega) (by rw [List.length_set]; exact hs) ?_ ?_
   ·rw [z6I (by omega),ht,hc,if_neg (fun h=>hxy h.symm)]
   ·rw [List.drop_set,if_pos (by omega)]; exact hd2
theorem z6J {a:List Occurrence}(ha:a.length≤4398046511104):∀ (m k:Nat),k+m=a.length→1≤k→q1P (a.take k)=a.take k →
  (q2t (q1z a) (k:Int)).bind (onr (fun r1=>some r1) fun _=>some a)=some (q1P a):=by
 intro m
 induction m with
 | zero=>
  intro k hm hk hc
  have e:q1z a (k:Int)=some (.inr (.inl ())):=by
   unfold q1z
   dsimp only
   rw [if_neg (by omega)]
  rw [q1D e,Option.bind_some]
  show some a=_
  rw [show k=a.length by omega,List.take_length] at hc
  rw [hc]
 | succ m ih=>
  intro k hm hk hc
  obtain⟨x,hx⟩:∃ x,a[k]? = some x:=⟨_,List.getElem?_eq_getElem (by omega)⟩
  obtain⟨y,hy⟩:∃ y,a[k - 1]? = some y:=⟨_,List.getElem?_eq_getElem (by omega)⟩
  have hct:=q9X (i:=k - 1) (b:=x) hy (by rw [show k - 1+1=k by omega]; exact hx)
  rw [show k - 1+2=k+1 by omega,show k - 1+1=k by omega] at hct
  have htk:a.take (k+1)=a.take k++[x]:=by rw [List.take_add_one,hx]; rfl
  have e1:((k:Int) - 1).toNat=k - 1:=by omega
  by_cases hxy:x=y
  ·obtain⟨s',k',h1,h2,h3⟩:=z8J (b:=k) ha hk (by omega) m 1 k a (by omega) (by omega) hk (by omega) rfl (by rw [hct,if_pos hxy.symm,hc]) rfl
   have hl:(s'.take k'++List.replicate (s'.length - k') (⟨(0:Int),(⟨#[]⟩:ByteArray)⟩:Occurrence)).take k'=q1P a:=by
    rw [List.take_append_of_le_length (by simp; omega),List.take_take,Nat.min_self,h3]
   have e:q1z a (k:Int)=some (.inr (.inr (q1P a))):=by
    unfold q1z
    dsimp only
    rw [if_pos (by omega),q1n (by omega)]
    simp only [Int.toNat_natCast]
    rw [hx,Option.bind_some,q1n (by constructor<;>omega),q1n (by omega),e1,hy,Option.bind_some,if_pos hxy,q1n (by omega),q1n (by omega)]
    have h1' : q2t (q1y (k:Int)) (a,(k:Int),1)=some (s',((k' : Nat):Int)):=h1
    rw [h1',Option.bind_some]
    dsimp only
    simp only [Int.toNat_natCast]
    rw [q1n (by omega),q1n (by omega),q1n (by omega),q1n (by simp; omega),hl]
   rw [q1D e,Option.bind_some]; rfl
  ·have e:q1z a (k:Int)=some (.inl ((k+1:Nat):Int)):=by
    unfold q1z
    dsimp only
    rw [if_pos (by omega),q1n (by omega)]
    simp only [Int.toNat_natCast]
    rw [hx,Option.bind_some,q1n (by constructor<;>omega),q1n (by omega),e1,hy,Option.bind_some,if_neg hxy,q1n (by constructor<;>omega)]; rfl
   rw [q2c e]
   exact ih (k+1) (by omega) (by omega) (by rw [hct,if_neg (fun h=>hxy h.symm),hc,htk])
theorem z8K {a:List Occurrence}(ha:a.length≤4398046511104):q1Z a=some (q1P a):=by
 unfold q1Z
 by_cases h:(a.length:Int) < 2
 ·rw [if_pos h]
  match a,h with
  | [],_=>rfl
  | [x],_=>rfl
  | x :: y :: l,h=>simp only [List.length_cons] at h; omega
 ·rw [if_neg h]
  refine z6J ha (a.length - 1) 1 (by omega) (Nat.le_refl _) ?_
  match a,h with
  | x :: l,_=>rfl
def q7D (e:Expr):List Occurrence:=q1P (z5b (q7U e))
theorem z9U {o:Occurrence}{e:Expr}:o∈q7D e↔o∈q7U e:=by
 unfold q7D z5b
 rw [q8C,List.mem_mergeSort]
theorem z3Z {e:Expr}(h:Sz.szd e≤1048576):q3D e=some (q7D e):=by
 have hl:=z9T h
 have hs:(z5b (q7U e)).length=(q7U e).length:=by unfold z5b; exact List.length_mergeSort _
 unfold q3D
 rw [j1v (by omega),Option.bind_some]
 dsimp only
 unfold q2s
 rw [q1n (by omega),Option.bind_some,z8K (by omega)]; rfl
end Go.Proofs.YtiojgbiimbefiacGreat
namespace Go.Proofs.YtiojgbiimbefiacGreat
open Go Go.E
theorem z2c (e:Expr):1≤fuE e:=by rw [z0O]; omega
theorem z0P {e x:Expr}(hx:x∈e.Args):fuE x+1≤fuE e:=by
 have:=z3Y hx
 have:=z0O e
 omega
theorem q8T {P:Expr→Prop}(h:∀ e,(∀ x∈e.Args,P x)→P e)(e:Expr):P e:=by
 have:∀ n e,fuE e≤n→P e:=by
  intro n
  induction n with
  | zero=>intro e he; have:=z2c e; omega
  | succ n ih=>intro e he; exact h e fun x hx=>ih x (by have:=z0P hx; omega)
 exact this _ e (Nat.le_refl _)
theorem q2D {α ρ:Type}{c:ρ}{q:α→Bool}:∀ {xs:List α} {i:Nat} {f:Nat→α→Unit→Option (Unit ⊕ ρ)},(∀ k x,x∈xs→f k x ()=some (if q x=true then .inl () else .inr c))→findL f i xs ()=some (if xs.all q=true then .inl () else .inr c)
 | [],i,f,h=>rfl
 | x :: xs,i,f,h=>by
  rw [findL,h i x (by simp)]
  by_cases hx:q x=true
  ·rw [if_pos hx,Option.bind_some]
   show findL f (i+1) xs ()=_
   rw [q2D fun k y hy=>h k y (by simp [hy])]
   simp [hx]
  ·rw [if_neg hx]; simp [hx]
theorem z5u {α:Type}{q:α→Bool}:∀ {xs:List α} {i:Nat} {f:Nat→α→Unit→Option (Unit ⊕ Int)},(∀ k x,x∈xs→f k x ()=some (if q x=true then .inr (k:Int) else .inl ()))→findL f i xs ()=some (if xs.any q=true then .inr ((i+xs.findIdx q:Nat):Int) else .inl ())
 | [],i,f,h=>rfl
 | x :: xs,i,f,h=>by
  rw [findL,h i x (by simp)]
  by_cases hx:q x=true
  ·rw [if_pos hx]; simp [hx,List.findIdx_cons]
  ·rw [if_neg hx,Option.bind_some]
   show findL f (i+1) xs ()=_
   rw [z5u fun k y hy=>h k y (by simp [hy])]
   have hx' : q x=false:=by simpa using hx
   simp only [List.any_cons,hx',Bool.false_or,List.findIdx_cons,cond_false]
   rw [show i+1+xs.findIdx q=i+(xs.findIdx q+1) by omega]
mutual
def allE (p:Expr→Bool):Expr→Bool
 | ⟨a0,a1,a2,a3,a4,a5,a6⟩=>p ⟨a0,a1,a2,a3,a4,a5,a6⟩&&j1w p a6
def j1w (p:Expr→Bool):List Expr→Bool
 | []=>true
 | x :: xs=>allE p x&&j1w p xs
end
mutual
def cntE:Expr→Nat
 | ⟨_,_,_,_,_,_,a6⟩=>q9u a6+1
def q9u:List Expr→Nat
 | []=>0
 | x :: xs=>cntE x+q9u xs
end
mutual
def depE:Expr→Nat
 | ⟨_,_,_,_,_,_,a6⟩=>z2D a6+1
def z2D:List Expr→Nat
 | []=>0
 | x :: xs=>max (depE x) (z2D xs)
end
theorem z7J (p:Expr→Bool):∀ l,j1w p l=l.all (allE p)
 | []=>rfl
 | x :: xs=>by rw [j1w,z7J p xs]; rfl
theorem z9V (p:Expr→Bool)(e:Expr):allE p e=(p e&&e.Args.all (allE p)):=by
 cases e; rw [allE,z7J]
theorem z4a (e:Expr):cntE e=q9u e.Args+1:=by cases e; rfl
theorem z9W (e:Expr):depE e=z2D e.Args+1:=by cases e; rfl
mutual
theorem z4b:∀ e:Expr,cntE e≤1+q5t e
 | ⟨a0,a1,a2,a3,a4,a5,a6⟩=>by
  have:=z5v a6
  simp only [cntE,q5t]; omega
theorem z5v:∀ l:List Expr,q9u l≤q7a l
 | []=>by simp [q9u]
 | x :: xs=>by
  have h1:=z4b x
  have h2:=z5v xs
  simp only [q9u,q7a]; omega
end
theorem j4p {e:Expr}(h:Sz.szd e≤1048576):cntE e≤1048577:=by
 have h1:=z4b e
 have h2:q5t e=Sz.szd e:=rfl
 omega
mutual
theorem z9X:∀ e:Expr,depE e≤cntE e
 | ⟨_,_,_,_,_,_,a6⟩=>by
  have:=z7K a6
  simp only [depE,cntE]; omega
theorem z7K:∀ l:List Expr,z2D l≤q9u l
 | []=>Nat.le_refl _
 | x :: xs=>by
  have h1:=z9X x
  have h2:=z7K xs
  simp only [z2D,q9u]; omega
end
theorem z5w:∀ {l:List Expr} {x:Expr},x∈l→cntE x≤q9u l
 | y :: l,x,h=>by
  simp only [q9u]
  rcases List.mem_cons.1 h with e | h
  ·subst e; omega
  ·have:=z5w h; omega
theorem z9Y {e x:Expr}(hx:x∈e.Args):cntE x+1≤cntE e:=by
 have:=z5w hx
 have:=z4a e
 omega
theorem j4q (a b:Nat):(if (b:Int) > (a:Int) then (b:Int) else (a:Int))=((max a b:Nat):Int):=by
 split<;>omega
theorem z2d {f:Expr→Option Int}{g:Nat→Expr→Int→Option Int}(hg:∀ k x s,g k x s=(f x).bind fun y=>some (if y > s then y else s)):∀ (l:List Expr) (i s:Nat),(∀ x∈l,f x=some (depE x:Int))→eachL g i l (s:Int)=some ((max s (z2D l):Nat):Int)
 | [],i,s,_=>by rw [eachL,z2D,Nat.max_zero]
 | x :: l,i,s,h=>by
  rw [eachL,hg,h x (by simp),Option.bind_some,Option.bind_some,j4q,z2d hg l (i+1) _ fun y hy=>h y (by simp [hy]),z2D,Nat.max_assoc]
theorem z9Z (a b:Int):q6X a b=some (if b > a then b else a):=by
 unfold q6X
 by_cases h:b < a
 ·rw [if_pos h,if_neg (by omega)]
 ·rw [if_neg h]
  split
  ·rfl
  ·congr 1; omega
theorem z8L (e:Expr):∀ m,fuE e≤m→cntE e≤1099511627776→q4q m e=some (depE e:Int)∧q3n m e=some (depE e:Int):=by
 induction e using q8T with
 | h e ih=>
  intro m hm hc
  obtain⟨m,rfl⟩:∃ q,m=q+1:=⟨m - 1,by have:=z2c e; omega⟩
  show q7i (q4q m) e=_∧q4K (q3n m) e=_
  unfold q7i q4K
  have hx:∀ x∈e.Args,q4q m x=some (depE x:Int)∧q3n m x=some (depE x:Int):=fun x hx=>ih x hx m (by have:=z0P hx; omega) (by have:=z9Y hx; omega)
  have k1:=z2d (f:=q4q m) (g:=q8x (q4q m)) (fun k x s=>rfl) e.Args 0 0 fun x h=>(hx x h).1
  have k2:=z2d (f:=q3n m) (g:=q6B (q3n m)) (fun k x s=>by
   unfold q6B
   congr 1; funext y
   rw [z9Z,Option.bind_some]) e.Args 0 0 fun x h=>(hx x h).2
  rw [show ((0:Nat):Int)=0 from rfl] at k1 k2
  have hd:=z9X e
  rw [z9W] at hd
  rw [k1,k2]
  have hg:I64 (((max 0 (z2D e.Args):Nat):Int)+1):=by constructor<;>omega
  have he:((max 0 (z2D e.Args):Nat):Int)+1=(depE e:Int):=by rw [z9W]; omega
  refine⟨?_,?_⟩
  ·rw [Option.bind_some,q1n hg,he]
  ·rw [Option.bind_some,q1n hg,he]
theorem j0a {e:Expr}(h:cntE e≤1099511627776):q7f e=some (depE e:Int):=q7K (fuE e) fun m hm=>(z8L e m hm h).2
def z1a (a:Int)(n:Nat):Int:=if (n:Int)≤a then a - n else -1
theorem j0b (e:Expr):∀ m,fuE e≤m→∀ a:Int,0≤a→a≤1048576→cntE e≤1099511627776→q6A m e a=some (z1a a (cntE e)):=by
 induction e using q8T with
 | h e ih=>
  intro m hm a h0 h1 hc
  obtain⟨m,rfl⟩:∃ q,m=q+1:=⟨m - 1,by have:=z2c e; omega⟩
  show q8i (q6A m) e a=_
  unfold q8i
  rw [q1n (by constructor<;>omega)]
  have hlen:e.Args.length≤cntE e:=by
   rw [z4a]
   have:∀ l:List Expr,l.length≤q9u l:=by
    intro l
    induction l with
    | nil=>simp
    | cons x l ih=>
     have:=z4a x
     simp only [q9u,List.length_cons]; omega
   have:=this e.Args; omega
  have key:∀ (n k:Nat) (s:Int),k+n=e.Args.length→-1≤s→s≤1048576→q2t (q6s (q6A m) e) (s,(k:Int))=some (if 0≤s then z1a s (q9u (e.Args.drop k)) else s):=by
   intro n
   induction n with
   | zero=>
    intro k s hk _ _
    have hdrop:e.Args.drop k=[]:=List.drop_eq_nil_of_le (by omega)
    refine q1D ?_
    unfold q6s
    dsimp only
    rw [if_neg (by omega),hdrop]
    congr 2
    split
    ·unfold z1a; simp [q9u]; omega
    ·rfl
   | succ n ihn=>
    intro k s hk hs1 hs2
    have hkl:k < e.Args.length:=by omega
    by_cases hs:0≤s
    ·have hxm:e.Args[k]∈e.Args:=List.getElem_mem hkl
     have hr:=ih _ hxm m (by have:=z0P hxm; omega) s hs hs2 (by have:=z9Y hxm; omega)
     have hstep:q6s (q6A m) e (s,(k:Int))=some (.inl (z1a s (cntE e.Args[k]),((k+1:Nat):Int))):=by
      unfold q6s
      dsimp only
      rw [if_pos (by omega),if_pos hs,q1n (by omega),Int.toNat_natCast,List.getElem?_eq_getElem hkl,Option.bind_some,hr,Option.bind_some,q1n (by constructor<;>omega)]
      rfl
     have hb1:-1≤z1a s (cntE e.Args[k]):=by unfold z1a; split<;>omega
     have hb2:z1a s (cntE e.Args[k])≤1048576:=by unfold z1a; split<;>omega
     rw [q2c hstep,ihn (k+1) _ (by omega) hb1 hb2,if_pos hs]
     have hd:e.Args.drop k=e.Args[k] :: e.Args.drop (k+1):=List.drop_eq_getElem_cons hkl
     rw [hd,q9u]
     congr 1
     unfold z1a
     split<;>split<;>(try split)<;>omega
    ·refine q1D ?_
     unfold q6s
     dsimp only
     rw [if_pos (by omega),if_neg hs,if_neg hs]
  have:=key e.Args.length 0 (a - 1) (by omega) (by omega) (by omega)
  rw [show ((0:Nat):Int)=0 from rfl] at this
  rw [this,Option.bind_some,List.drop_zero,z4a]
  congr 1
  unfold z1a
  split<;>(try split)<;>(try split)<;>omega
theorem j1x {e:Expr}{a:Int}(h0:0≤a)(h1:a≤1048576)(h:cntE e≤1099511627776):z1I e a=some (z1a a (cntE e)):=q7K (fuE e) fun m hm=>j0b e m hm a h0 h1 h
end Go.Proofs.YtiojgbiimbefiacGreat
namespace Go.Proofs.YtiojgbiimbefiacGreat
open Go Go.E
theorem z4c (x lo hi:Int):q2g x lo hi=some (decide (lo≤x∧x≤hi)):=by
 unfold q2g; by_cases h:lo≤x<;>simp [h]
def lowB (c:UInt8):Bool:=decide (97≤(c.toNat:Int)∧(c.toNat:Int)≤122)
def digB (c:UInt8):Bool:=decide (48≤(c.toNat:Int)∧(c.toNat:Int)≤57)
def allN (q:Nat→Bool):Nat→Nat→Bool
 | _,0=>true
 | i,n+1=>q i&&allN q (i+1) n
theorem z3j {q r:Nat→Bool}:∀ {n i:Nat},(∀ k,i≤k→q k=r k)→allN q i n=allN r i n
 | 0,_,_=>rfl
 | n+1,i,h=>by rw [allN,allN,h i (Nat.le_refl _),z3j fun k hk=>h k (by omega)]
theorem z3k {ρ:Type}{c:ρ}{q:Nat→Bool}:∀ {n i:Nat} {f:Nat→Unit→Option (Unit ⊕ ρ)},(∀ k,k < n→f (i+k) ()=some (if q (i+k)=true then .inl () else .inr c))→findN f i n ()=some (if allN q i n=true then .inl () else .inr c)
 | 0,i,f,h=>rfl
 | n+1,i,f,h=>by
  have h0:=h 0 (by omega)
  rw [Nat.add_zero] at h0
  rw [findN,h0]
  by_cases hx:q i=true
  ·rw [if_pos hx,Option.bind_some]
   show findN f (i+1) n ()=_
   rw [z3k fun k hk=>by have:=h (k+1) (by omega); rwa [show i+(k+1)=i+1+k by omega] at this]
   simp [allN,hx]
  ·rw [if_neg hx]; simp [allN,hx]
def chr (s:ByteArray)(k:Nat):UInt8:=s.data.getD k 0
theorem j1y {s:ByteArray}{k:Nat}(h:k < s.size):s.data[k]? = some (chr s k):=by
 have h' : k < s.data.size:=h
 unfold chr
 rw [Array.getD_eq_getD_getElem?,Array.getElem?_eq_getElem h']; rfl
def j0c:List ByteArray:=[⟨#[105,102]⟩,⟨#[116,104,101,110]⟩,⟨#[101,108,115,101]⟩,⟨#[116,114,117,101]⟩,⟨#[102,97,108,115,101]⟩,⟨#[108,105,116]⟩,⟨#[110,111,110,101]⟩,⟨#[115,101,108,102]⟩,⟨#[111,102]⟩,⟨#[109,97,120]⟩,⟨#[109,105,110]⟩,⟨#[119,105,116,104]⟩,⟨#[104,97,115]⟩]
def memB (s:ByteArray)(l:List ByteArray):Bool:=l.any fun x=>decide (x=s)
def resB (s:ByteArray):Bool:=memB s j0c
theorem j1z (l:List ByteArray)(s:ByteArray):q5Q l s=some (memB s l):=by
 unfold q5Q
 have:∀ (l:List ByteArray) (i:Nat),findL (q9J s) i l ()=some (if memB s l=true then .inr true else .inl ()):=by
  intro l
  induction l with
  | nil=>intro i; rfl
  | cons x l ih=>
   intro i
   rw [findL]
   unfold q9J at ih ⊢
   have hc:memB s (x :: l)=(decide (x=s)||memB s l):=rfl
   by_cases h:x=s
   ·rw [if_pos h,hc]; simp [h]
   ·rw [if_neg h,Option.bind_some]
    show findL _ (i+1) l ()=_
    rw [ih,hc]; simp [h]
 rw [this,Option.bind_some]
 cases memB s l<;>rfl
theorem j3m (s:ByteArray):q5i s=some (resB s):=by
 unfold q5i q6m
 rw [Option.bind_some,j1z]; rfl
def q6o (s:ByteArray):Bool:=decide (0 < s.size∧s.size≤8)&&(lowB (chr s 0)&&allN (fun k=>lowB (chr s k)||digB (chr s k)) 1 (s.size - 1) && !resB s)
theorem q5x (s:ByteArray):q1I s=some (q6o s):=by
 unfold q1I q8N
 rw [z3k (c:=false) (q:=fun k=>lowB (chr s k)||(decide (k≠0)&&digB (chr s k))) fun k hk=>by
  rw [Nat.zero_add]
  unfold z1L
  rw [j1y hk,Option.bind_some]
  have e1:(if 97≤((chr s k).toNat:Int) then some (decide (((chr s k).toNat:Int)≤122)) else some false)=some (lowB (chr s k)):=by
   unfold lowB; by_cases h:97≤((chr s k).toNat:Int)<;>simp [h]
  have e2:(if 48≤((chr s k).toNat:Int) then some (decide (((chr s k).toNat:Int)≤57)) else some false)=some (digB (chr s k)):=by
   unfold digB; by_cases h:48≤((chr s k).toNat:Int)<;>simp [h]
  rw [e1,e2,Option.bind_some,Option.bind_some]
  cases lowB (chr s k) with
  | true=>rfl
  | false=>
   by_cases hk0:k=0
   ·subst hk0; simp
   ·have:¬ ((k:Int)=0):=by omega
    rw [if_neg (by simp),if_neg this]
    cases digB (chr s k)<;>simp [hk0]]
 rw [Option.bind_some]
 by_cases h0:0 < s.size
 ·obtain⟨n,hn⟩:∃ n,s.size=n+1:=⟨s.size - 1,by omega⟩
  unfold q6o
  rw [hn,allN,Nat.add_sub_cancel,Nat.zero_add,z3j (n:=n) (i:=1) (q:=fun k=>lowB (chr s k)||(decide (k≠0)&&digB (chr s k))) (r:=fun k=>lowB (chr s k)||digB (chr s k)) fun k hk=>by simp [show k≠0 by omega]]
  have e0:(lowB (chr s 0)||(decide ((0:Nat)≠0)&&digB (chr s 0)))=lowB (chr s 0):=by simp
  rw [e0]
  cases hA:(lowB (chr s 0)&&allN (fun k=>lowB (chr s k)||digB (chr s k)) 1 n) with
  | false=>simp [onr]
  | true=>
   rw [if_pos rfl]
   simp only [onr,Option.bind_some]
   by_cases h8:n+1≤8
   ·simp [j3m,h8]; omega
   ·simp [h8]; omega
 ·have hs:s.size=0:=by omega
  unfold q6o
  rw [hs]
  simp [onr,allN]
end Go.Proofs.YtiojgbiimbefiacGreat
namespace Go.Proofs.YtiojgbiimbefiacGreat
open Go Go.E
def satI (v:Int):Int:=if (-1000000:Int) > (if (1000000:Int) < v then (1000000:Int) else v) then (-1000000:Int) else (if (1000000:Int) < v then (1000000:Int) else v)
def truI (b:Bool):Int:=if b=true then 1 else 0
def j3n (v k:Int):Int:=if k=1 then satI v else if k=2 then z0g v 4095 else if k=3 then truI (!decide (v=0)) else if k=4 then (if 0≤v∧v≤999 then v else 0) else 0
theorem j3o (a b:Int):q9I a b=some (if b < a then b else a):=by
 unfold q9I
 by_cases h:a < b
 ·rw [if_pos h,if_neg (by omega)]
 ·rw [if_neg h]
  split
  ·rfl
  ·congr 1; omega
theorem j3p (v:Int):q6C v=some (satI v):=by
 unfold q6C
 rw [j3o,Option.bind_some,z9Z,Option.bind_some]
 congr 1
 unfold satI
 split<;>split<;>(try split)<;>(try split)<;>omega
theorem j1A (b:Bool):q7r b=some (truI b):=by unfold q7r truI; cases b<;>rfl
theorem j1B (v k:Int):q8k v k=some (j3n v k):=by
 unfold q8k j3n
 rw [j3p,j1A,z4c]
 by_cases h1:k=1
 ·rw [if_pos h1,if_pos h1]; rfl
 by_cases h2:k=2
 ·rw [if_neg h1,if_neg h1,if_pos h2,if_pos h2]
 by_cases h3:k=3
 ·rw [if_neg h1,if_neg h1,if_neg h2,if_neg h2,if_pos h3,if_pos h3]; rfl
 by_cases h4:k=4
 ·rw [if_neg h1,if_neg h1,if_neg h2,if_neg h2,if_neg h3,if_neg h3,if_pos h4,if_pos h4,Option.bind_some]
  by_cases h:0≤v∧v≤999<;>simp [h]
 ·rw [if_neg h1,if_neg h1,if_neg h2,if_neg h2,if_neg h3,if_neg h3,if_neg h4,if_neg h4]
def j1C (v k:Int):Bool:=decide (1≤k∧k≤4)&&decide (j3n v k=v)
theorem j1D (v k:Int):q6D v k=some (j1C v k):=by
 unfold q6D j1C
 rw [z4c,Option.bind_some,j1B,Option.bind_some]
 by_cases h:1≤k∧k≤4<;>simp [h]
def opT (n:Int):Int × Int × Int:=
 if 1≤n∧n≤5 then (1,1,1) else if 6≤n∧n≤8 then (2,2,2) else if n=9∨n=10 then (1,1,3) else if n=11 then (2,1,3) else if n=12 then (2,1,2) else (0,0,0)
theorem j3q (n:Int):q1M n=some (opT n):=by
 unfold q1M opT
 rw [z4c,z4c]
 simp only [Option.bind_some]
 by_cases h1:1≤n∧n≤5
 ·rw [if_pos (by simpa using h1),if_pos h1]
 rw [if_neg (by simpa using h1),if_neg h1]
 by_cases h2:6≤n∧n≤8
 ·rw [if_pos (by simpa using h2),if_pos h2]
 rw [if_neg (by simpa using h2),if_neg h2]
 by_cases h3:n=9
 ·rw [if_pos h3,if_pos (.inl h3)]
 rw [if_neg h3]
 by_cases h3' : n=10
 ·rw [if_pos h3',if_pos (.inr h3')]
 have h33:¬(n=9∨n=10):=by omega
 rw [if_neg h3',if_neg h33]
 by_cases h4:n=11
 ·rw [if_pos h4,if_pos h4]
 rw [if_neg h4,if_neg h4]
 by_cases h5:n=12
 ·rw [if_pos h5,if_pos h5]
 rw [if_neg h5,if_neg h5]
end Go.Proofs.YtiojgbiimbefiacGreat
namespace Go.Proofs.YtiojgbiimbefiacGreat
open Go Go.E
def j1E (k:Int):Int:=if k=4 then 2 else if k=5 then 3 else if k=8 then 1 else 0
def j1F (e:Expr):Bool:=decide ((e.Args.length:Int)=j1E e.Kind)&&((decide (e.Kind=3∨e.Kind=6)||decide (e.Pos=0))&&((decide (e.Kind=3∨e.Kind=8)||decide (e.Name=⟨#[]⟩))&&((decide (e.Kind=1∨e.Kind=4)||decide (e.N=0))&&((decide (e.Kind=1)||decide (e.Type_=0))&&(decide (e.Kind=8)||decide (e.Symbol=⟨#[]⟩))))))
theorem j3r (e:Expr):q8j e=some (j1F e):=by
 unfold q8j
 have h0:(if e.Kind=4 then some 2 else if e.Kind=5 then some 3 else if e.Kind=8 then some 1 else some (0:Int))=some (j1E e.Kind):=by
  unfold j1E
  split
  ·rfl
  ·split
   ·rfl
   ·split<;>rfl
 have or2:∀ a b:Prop,[Decidable a]→[Decidable b]→(if a then some true else some (decide b))=some (decide (a∨b)):=fun a b _ _=>by
  by_cases h:a<;>simp [h]
 have or1:∀ (a:Prop) (b:Bool),[Decidable a]→(if a then some true else some b)=some (decide a||b):=fun a b _=>by
  by_cases h:a<;>simp [h]
 have orB:∀ a b:Bool,(if a=true then some true else some b)=some (a||b):=fun a b=>by cases a<;>rfl
 have andB:∀ a b:Bool,(if a=true then some b else some false)=some (a&&b):=fun a b=>by cases a<;>rfl
 rw [h0,Option.bind_some]
 unfold j1F
 by_cases hl:(e.Args.length:Int)=j1E e.Kind
 ·rw [if_pos hl]
  simp only [or2,or1,orB,andB,Option.bind_some]
  simp [hl,Bool.and_assoc]
 ·rw [if_neg hl]; simp [hl]
def j4r (e:Expr):Bool:=
 if e.Kind=1 then (decide (1≤e.Type_∧e.Type_≤3)&&j1C e.N e.Type_)&&decide (0≤e.N)
 else if e.Kind=3 then decide (0≤e.Pos∧e.Pos≤3)&&q6o e.Name
 else if e.Kind=6 then decide (0≤e.Pos∧e.Pos≤3)
 else if e.Kind=4 then decide (1≤e.N∧e.N≤12)
 else if e.Kind=8 then q6o e.Symbol&&q6o e.Name
 else true
def z5x (e:Expr):Bool:=(decide (1≤e.Kind∧e.Kind≤8)&&j1F e)&&j4r e
theorem j1G (e:Expr):q8l e=some (z5x e):=by
 unfold q8l z5x
 rw [z4c,Option.bind_some,j3r,Option.bind_some]
 by_cases hk:1≤e.Kind∧e.Kind≤8
 ·rw [if_pos (by simpa using hk),Option.bind_some]
  cases j1F e with
  | false=>simp
  | true=>
   rw [if_neg (by simp)]
   unfold j4r
   by_cases k1:e.Kind=1
   ·rw [if_pos k1,if_pos k1,z4c,Option.bind_some,j1D,Option.bind_some]
    by_cases h:1≤e.Type_∧e.Type_≤3
    ·cases j1C e.N e.Type_<;>simp [h,hk]
    ·simp [h,hk]
   rw [if_neg k1,if_neg k1]
   by_cases k3:e.Kind=3
   ·rw [if_pos k3,if_pos k3,z4c,Option.bind_some,q5x]
    by_cases h:0≤e.Pos∧e.Pos≤3
    ·simp [h,hk]
    ·simp [h,hk]
   rw [if_neg k3,if_neg k3]
   by_cases k6:e.Kind=6
   ·rw [if_pos k6,if_pos k6,z4c]; simp [hk]
   rw [if_neg k6,if_neg k6]
   by_cases k4:e.Kind=4
   ·rw [if_pos k4,if_pos k4,z4c]; simp [hk]
   rw [if_neg k4,if_neg k4]
   by_cases k8:e.Kind=8
   ·rw [if_pos k8,if_pos k8,q5x,Option.bind_some,q5x]
    cases q6o e.Symbol<;>simp [hk]
   rw [if_neg k8,if_neg k8]; simp [hk]
 ·rw [if_neg (by simpa using hk)]; simp [hk]
end Go.Proofs.YtiojgbiimbefiacGreat
namespace Go.Proofs.YtiojgbiimbefiacGreat
open Go Go.E
theorem j1H (e:Expr):∀ m,fuE e≤m→q9M m e=some (allE z5x e):=by
 induction e using q8T with
 | h e ih=>
  intro m hm
  obtain⟨m,rfl⟩:∃ q,m=q+1:=⟨m - 1,by have:=z2c e; omega⟩
  show q9L (q9M m) e=_
  unfold q9L
  rw [q2D (c:=false) (q:=allE z5x) fun k x hx=>by
   unfold z5i
   rw [ih x hx m (by have:=z0P hx; omega),Option.bind_some]
   cases allE z5x x<;>rfl]
  rw [z9V,Option.bind_some]
  cases e.Args.all (allE z5x) with
  | true=>rw [if_pos rfl,q8c,j1G,Bool.and_true]; rfl
  | false=>rw [if_neg (by simp),z5T,Bool.and_false]
theorem j3s (e:Expr):z3O e=some (allE z5x e):=q7K (fuE e) fun m hm=>j1H e m hm
theorem z6K {α:Type}(q:α→Bool)(l:List α):(!l.any fun x=>!q x)=l.all q:=by
 induction l with
 | nil=>rfl
 | cons x l ih=>simp [← ih]
def z7L (e:Expr):Bool:=decide (cntE e≤24)&&(decide (depE e≤6)&&allE z5x e)
theorem q9Z {e:Expr}(h:cntE e≤1099511627776):q3L e=some (z7L e):=by
 unfold q3L z7L
 rw [j1x (by omega) (by omega) h,Option.bind_some,j0a h,j3s]
 unfold z1a
 by_cases h1:cntE e≤24
 ·have h24:((cntE e:Nat):Int)≤24:=by omega
  rw [if_pos h24,if_pos (by omega:(0:Int)≤24 - ((cntE e:Nat):Int)),Option.bind_some,Option.bind_some]
  by_cases h2:depE e≤6
  ·rw [if_pos (by simp; omega),Option.bind_some]; simp [h1,h2]
  ·rw [if_neg (by simp; omega)]; simp [h1,h2]
 ·have h24:¬ ((cntE e:Nat):Int)≤24:=by omega
  rw [if_neg h24,if_neg (by omega:¬ (0:Int)≤-1)]; simp [h1]
end Go.Proofs.YtiojgbiimbefiacGreat
namespace Go.Proofs.YtiojgbiimbefiacGreat
open Go Go.E
theorem z1i {x m:Int}(h0:0≤m)(h1:m < 9223372036854775808):0≤z0g x m∧z0g x m≤m:=by
 unfold z0g
 have h2:(BitVec.ofInt 64 m).toNat=m.toNat:=by
  rw [BitVec.toNat_ofInt]
  have:m % ((2 ^ 64:Nat):Int)=m:=Int.emod_eq_of_lt h0 (by omega)
  rw [this]
 have h3:(BitVec.ofInt 64 x &&& BitVec.ofInt 64 m).toNat≤m.toNat:=by
  rw [BitVec.toNat_and,h2]; exact Nat.and_le_right
 rw [IntWalk.i64_in _ (by omega)]
 omega
def z4d (o:l1Cur):Prop:=0≤o.i∧o.b.length≤1048576
theorem j1I {a:List UInt8}(h:a.length≤1048576):∃ o,q8M a=some o∧z4d o∧o.b=a:=by
 have key:∀ (m j:Nat) (s:Int),j+m=a.length→∃ q,q2t (q7n a) (s,(j:Int))=some q:=by
  intro m
  induction m with
  | zero=>
   intro j s hj
   exact⟨s,q1D (by unfold q7n; dsimp only; rw [if_neg (by omega)])⟩
  | succ m ih=>
   intro j s hj
   by_cases hlt:(j:Int) < 4000
   ·obtain⟨x,hx⟩:∃ x,a[j]? = some x:=⟨_,List.getElem?_eq_getElem (by omega)⟩
    obtain⟨q,hq⟩:=ih (j+1) (z0g (IntKind.i64.wrap ((IntKind.i64.wrap ((IntKind.i64.wrap (s*131))+(x.toNat:Int)))+7)) 1073741823) (by omega)
    refine⟨q,(q2c ?_).trans hq⟩
    have hw:IntKind.i64.wrap ((j:Int)+1)=((j+1:Nat):Int):=by rw [IntWalk.i64_in _ (by omega)]; rfl
    unfold q7n
    dsimp only
    rw [if_pos (by omega),if_pos hlt,q1n (by omega),Int.toNat_natCast,hx,Option.bind_some,hw]
   ·exact⟨s,q1D (by unfold q7n; dsimp only; rw [if_pos (by omega),if_neg hlt])⟩
 obtain⟨q,hq⟩:=key a.length 0 (IntKind.i64.wrap (26583+(a.length:Int))) (by omega)
 have hq' : q2t (q7n a) ((IntKind.i64.wrap (26583+(a.length:Int))),0)=some q:=hq
 refine⟨⟨a,0,q⟩,?_,⟨Int.le_refl _,h⟩,rfl⟩
 unfold q8M
 rw [hq',Option.bind_some]
theorem q8E {o:l1Cur}(h:z4d o):∃ y z,q5h o=some (y,z)∧0≤y∧y≤255∧z4d z∧z.b=o.b:=by
 obtain⟨h0,h1⟩:=h
 unfold q5h
 by_cases hi:o.i < (o.b.length:Int)
 ·obtain⟨x,hx⟩:∃ x,o.b[o.i.toNat]? = some x:=⟨_,List.getElem?_eq_getElem (by omega)⟩
  rw [if_pos hi,q1n h0,hx,Option.bind_some]
  refine⟨_,_,rfl,(z1i (by omega) (by omega)).1,(z1i (by omega) (by omega)).2,⟨?_,h1⟩,rfl⟩
  show 0≤IntKind.i64.wrap (o.i+1)
  rw [IntWalk.i64_in _ (by omega)]; omega
 ·rw [if_neg hi]
  exact⟨_,_,rfl,(z1i (by omega) (by omega)).1,(z1i (by omega) (by omega)).2,⟨h0,h1⟩,rfl⟩
theorem j0d {y n:Int}(hy:0≤y)(hn:0 < n):0≤y.tmod n∧y.tmod n < n:=by
 rw [Int.tmod_eq_emod_of_nonneg hy]
 exact⟨Int.emod_nonneg _ (by omega),Int.emod_lt_of_pos _ hn⟩
theorem z3l {o:l1Cur}(h:z4d o)(n:Int):∃ y z,q1p n o=some (y,z)∧0≤y∧(0 < n→y < n)∧(n≤0→y=0)∧z4d z∧z.b=o.b:=by
 unfold q1p
 by_cases hn:n≤0
 ·rw [if_pos hn]; exact⟨0,o,rfl,Int.le_refl _,fun h=>absurd h (by omega),fun _=>rfl,h,rfl⟩
 ·rw [if_neg hn]
  by_cases h2:n≤256
  ·obtain⟨y,z,h3,h4,h5,h6,h7⟩:=q8E h
   rw [if_pos h2,h3,Option.bind_some]
   dsimp only
   rw [q1n (by omega)]
   have:=j0d h4 (show 0 < n by omega)
   exact⟨_,_,rfl,this.1,fun _=>this.2,fun h=>absurd h hn,⟨h6.1,h.2⟩,rfl⟩
  ·obtain⟨y1,z1,a1,a2,a3,a4,a5⟩:=q8E h
   obtain⟨y2,z2,b1,b2,b3,b4,b5⟩:=q8E (o:=⟨o.b,z1.i,z1.h⟩) ⟨a4.1,h.2⟩
   obtain⟨y3,z3,c1,c2,c3,c4,c5⟩:=q8E (o:=⟨o.b,z2.i,z2.h⟩) ⟨b4.1,h.2⟩
   obtain⟨y4,z4,d1,d2,d3,d4,d5⟩:=q8E (o:=⟨o.b,z3.i,z3.h⟩) ⟨c4.1,h.2⟩
   rw [if_neg h2,a1,Option.bind_some]
   dsimp only
   rw [b1,Option.bind_some]
   dsimp only
   rw [c1,Option.bind_some]
   dsimp only
   rw [d1,Option.bind_some]
   dsimp only
   rw [q1n (by constructor<;>omega),q1n (by constructor<;>omega),q1n (by constructor<;>omega),q1n (by constructor<;>omega),q1n (by constructor<;>omega),q1n (by constructor<;>omega),q1n (by omega)]
   have:=j0d (y:=y1*16777216+y2*65536+y3*256+y4) (by omega) (show 0 < n by omega)
   exact⟨_,_,rfl,this.1,fun _=>this.2,fun h=>absurd h hn,⟨d4.1,h.2⟩,rfl⟩
theorem z5y {o:l1Cur}(h:z4d o){l:List Int}(hl:l≠[]):∃ y z,q1S l o=some (y,z)∧y∈l∧z4d z∧z.b=o.b:=by
 have hpos:=List.length_pos_iff.2 hl
 obtain⟨y,z,h1,h2,h3,_,h5,h6⟩:=z3l h (l.length:Int)
 have:=h3 (by omega)
 obtain⟨x,hx⟩:∃ x,l[y.toNat]? = some x:=⟨_,List.getElem?_eq_getElem (by omega)⟩
 unfold q1S
 rw [h1,Option.bind_some]
 dsimp only
 rw [q1n h2,hx,Option.bind_some]
 exact⟨_,_,rfl,List.mem_of_getElem? hx,⟨h5.1,h.2⟩,rfl⟩
end Go.Proofs.YtiojgbiimbefiacGreat
namespace Go.Proofs.YtiojgbiimbefiacGreat
open Go Go.E
theorem j0e {ρ:Type}{g:Nat→Option ρ}(hm:∀ n r,g n=some r→g (n+1)=some r){n:Nat}{r:ρ}(h:g n=some r):recO g=some r:=by
 have up:∀ (k n:Nat) (r:ρ),g n=some r→g (n+k)=some r:=by
  intro k
  induction k with
  | zero=>intro n r h; exact h
  | succ k ih=>intro n r h; exact hm _ _ (ih n r h)
 refine q7K n fun m hm=>?_
 have h1:=up (m - n) n r h
 rwa [show n+(m - n)=m by omega] at h1
theorem z0z {α σ:Type}{f g:Nat→α→σ→Option σ}(h:∀ k x s q,f k x s=some q→g k x s=some q):∀ (xs:List α) (i:Nat) (s q:σ),eachL f i xs s=some q→eachL g i xs s=some q
 | [],i,s,q,hq=>hq
 | x :: xs,i,s,q,hq=>by
  simp only [eachL] at hq ⊢
  obtain⟨t,h1,h2⟩:=bd hq
  rw [h _ _ _ _ h1]
  exact z0z h xs _ _ _ h2
theorem z5z (a b:Occurrence):q6I a b=some (q6y a b):=by
 unfold q6I q6y
 by_cases h1:a.Pos < b.Pos
 ·simp [h1]
 ·by_cases h2:a.Pos=b.Pos
  ·simp [h2]
  ·simp [h1,h2]
abbrev q8F (l:List Occurrence):Prop:=l.Pairwise fun a b=>q6y a b=true
theorem j1J {l:List Occurrence}{o:Occurrence}(hl:l.length≤4398046511104):∀ (m j:Nat),j+m=l.length→(∀ a∈l.take j,q6y a o=true) →
  ∃ k:Nat,q2t (q6J l o) (j:Int)=some ((k:Nat):Int)∧k≤l.length∧(∀ a∈l.take k,q6y a o=true)∧∀ y,l[k]? = some y→q6y y o=false:=by
 intro m
 induction m with
 | zero=>
  intro j hj ha
  refine⟨j,q1D ?_,by omega,ha,fun y hy=>?_⟩
  ·unfold q6J; rw [if_neg (by omega)]
  ·rw [List.getElem?_eq_none (by omega)] at hy; cases hy
 | succ m ih=>
  intro j hj ha
  obtain⟨x,hx⟩:∃ x,l[j]? = some x:=⟨_,List.getElem?_eq_getElem (by omega)⟩
  cases hb:q6y x o with
  | false=>
   refine⟨j,q1D ?_,by omega,ha,fun y hy=>?_⟩
   ·unfold q6J
    rw [if_pos (by omega),q1n (by omega)]
    simp only [Int.toNat_natCast]
    rw [hx,Option.bind_some,z5z,Option.bind_some,if_neg (by rw [hb]; simp)]
   ·rw [hx] at hy; cases hy; exact hb
  | true=>
   have e:q6J l o (j:Int)=some (.inl ((j+1:Nat):Int)):=by
    unfold q6J
    rw [if_pos (by omega),q1n (by omega)]
    simp only [Int.toNat_natCast]
    rw [hx,Option.bind_some,z5z,Option.bind_some,if_pos hb,q1n (by constructor<;>omega)]; rfl
   rw [q2c e]
   refine ih (j+1) (by omega) fun a h=>?_
   rw [List.take_add_one,hx] at h
   rcases List.mem_append.1 h with h | h
   ·exact ha a h
   ·simp at h; rw [h]; exact hb
theorem j0f {l:List Occurrence}{o:Occurrence}(hl:l.length < 4398046511104)(hs:q8F l):∃ q,q9P l o=some q∧q8F q∧(∀ a,a∈q↔a=o∨a∈l)∧q.length≤l.length+1:=by
 obtain⟨k,h1,h2,h3,h4⟩:=j1J (l:=l) (o:=o) (by omega) l.length 0 (by omega) (by simp)
 have h1' : q2t (q6J l o) 0=some ((k:Nat):Int):=h1
 have hput:∀ (hne:∀ y,l[k]? = some y→y≠o),q8F (l.take k++[o]++l.drop k)∧(∀ a,a∈l.take k++[o]++l.drop k↔a=o∨a∈l)∧(l.take k++[o]++l.drop k).length≤l.length+1:=fun hne=>by
  refine⟨?_,fun a=>?_,by simp; omega⟩
  ·have:=z8I (lt:=q6y) lessO_swo.trans q9h (k:=k) hs h3 fun y hy=>⟨h4 y hy,hne y hy⟩
   simpa using this
  ·have:a∈l↔a∈l.take k∨a∈l.drop k:=by rw [← List.mem_append,List.take_append_drop]
   rw [this]
   simp only [List.mem_append,List.mem_singleton]
   constructor
   ·rintro ((h | h) | h)<;>simp [h]
   ·rintro (h | h | h)<;>simp [h]
 unfold q9P
 rw [h1',Option.bind_some]
 by_cases hk:k < l.length
 ·obtain⟨x,hx⟩:∃ x,l[k]? = some x:=⟨_,List.getElem?_eq_getElem hk⟩
  rw [if_pos (by omega),q1n (by omega)]
  simp only [Int.toNat_natCast]
  rw [hx,Option.bind_some]
  by_cases hxo:x=o
  ·rw [if_pos hxo]
   refine⟨l,rfl,hs,fun a=>?_,by omega⟩
   have:=List.mem_of_getElem? hx
   constructor
   ·exact .inr
   ·rintro (h | h)
    ·rw [h,← hxo]; exact this
    ·exact h
  ·rw [if_neg hxo,q1n (by omega),q1n (by omega),q1n (by simp; omega),q1n (by simp; omega),q1n (by omega),q1n (by omega),q1n (by simp; omega)]
   exact⟨_,rfl,hput fun y hy=>by rw [hx] at hy; cases hy; exact hxo⟩
 ·rw [if_neg (by omega)]
  simp only [Int.toNat_natCast]
  rw [q1n (by omega),q1n (by omega),q1n (by simp; omega),q1n (by simp; omega),q1n (by omega),q1n (by omega),q1n (by simp; omega)]
  exact⟨_,rfl,hput fun y hy=>by rw [List.getElem?_eq_none (by omega)] at hy; cases hy⟩
theorem j3t:∀ (n:Nat) (e:Expr) (l q:List Occurrence),q3I n e l=some q→q3I (n+1) e l=some q:=by
 intro n
 induction n with
 | zero=>intro e l q h; cases h
 | succ n ih=>
  intro e l q h
  have h' : q5Y (q3I n) e l=some q:=h
  show q5Y (q3I (n+1)) e l=some q
  have m1:∀ (xs:List Expr) (i:Nat) (s q:List Occurrence),eachL (q6u (q3I n)) i xs s=some q→eachL (q6u (q3I (n+1))) i xs s=some q:=z0z fun k x s q hq=>by
   unfold q6u at hq ⊢
   obtain⟨y,h3,h4⟩:=bd hq
   rw [ih _ _ _ h3]; exact h4
  unfold q5Y at h' ⊢
  by_cases hk:e.Kind=3
  ·rw [if_pos hk] at h' ⊢
   obtain⟨y,h1,h2⟩:=bd h'
   obtain⟨s,h3,h4⟩:=bd h2
   rw [h1,Option.bind_some,m1 _ _ _ _ h3]; exact h4
  ·rw [if_neg hk] at h' ⊢
   obtain⟨s,h3,h4⟩:=bd h'
   have m2:eachL (z0p (q3I (n+1))) 0 e.Args l=some s:=m1 _ _ _ _ h3
   rw [m2]; exact h4
theorem z8M:∀ (m:Nat) (e:Expr) (l:List Occurrence),fuE e≤m→q8F l→l.length+(q7U e).length≤1099511627776 →
  ∃ q,q3I m e l=some q∧q8F q∧(∀ a,a∈q↔a∈l∨a∈q7U e)∧q.length≤l.length+(q7U e).length:=by
 intro m
 induction m with
 | zero=>intro e l h; rw [z0O] at h; omega
 | succ m ih=>
  intro e l h hs hb
  rw [z0O] at h
  rw [q7V,List.length_append] at hb
  have hl:∀ (xs:List Expr) (i:Nat) (s:List Occurrence),fuEs xs≤m→q8F s→s.length+(q5w xs).length≤1099511627776 →
    ∃ q,eachL (q6u (q3I m)) i xs s=some q∧q8F q∧(∀ a,a∈q↔a∈s∨a∈q5w xs)∧q.length≤s.length+(q5w xs).length:=by
   intro xs
   induction xs with
   | nil=>intro i s _ hs _; exact⟨s,rfl,hs,by simp [q5w],by omega⟩
   | cons x xs ihl=>
    intro i s hf hs hb
    simp only [fuEs] at hf
    simp only [q5w,List.length_append] at hb
    obtain⟨q,h1,h2,h3,h4⟩:=ih x s (by omega) hs (by omega)
    obtain⟨q2,k1,k2,k3,k4⟩:=ihl (i+1) q (by omega) h2 (by omega)
    refine⟨q2,?_,k2,fun a=>?_,by simp only [q5w,List.length_append]; omega⟩
    ·simp only [eachL,q6u,h1,Option.bind_some]; exact k1
    ·rw [k3,h3,q5w,List.mem_append,or_assoc]
  show ∃ q,q5Y (q3I m) e l=some q∧_
  unfold q5Y
  by_cases hk:e.Kind=3
  ·rw [if_pos hk] at hb ⊢
   simp only [List.length_cons,List.length_nil] at hb
   obtain⟨y,h1,h2,h3,h4⟩:=j0f (l:=l) (o:=⟨e.Pos,e.Name⟩) (by omega) hs
   obtain⟨q,k1,k2,k3,k4⟩:=hl e.Args 0 y (by omega) h2 (by omega)
   refine⟨q,?_,k2,fun a=>?_,?_⟩
   ·rw [h1,Option.bind_some,k1]; rfl
   ·rw [k3,h3,q7V,if_pos hk,List.mem_append,List.mem_singleton]
    constructor
    ·rintro ((h | h) | h)<;>simp [h]
    ·rintro (h | h | h)<;>simp [h]
   ·rw [q7V,if_pos hk]; simp; omega
  ·rw [if_neg hk] at hb ⊢
   simp only [List.length_nil] at hb
   obtain⟨q,k1,k2,k3,k4⟩:=hl e.Args 0 l (by omega) hs (by omega)
   have k1' : eachL (z0p (q3I m)) 0 e.Args l=some q:=k1
   refine⟨q,?_,k2,fun a=>?_,?_⟩
   ·rw [k1']; rfl
   ·rw [k3,q7V,if_neg hk]; simp
   ·rw [q7V,if_neg hk]; simpa using k4
theorem z5A (e:Expr):q8F (q7D e):=by
 refine q8D lessO_swo.trans q9h ?_
 have h:=List.pairwise_mergeSort (le:=fun x y=>!q6y y x) (fun a b c h1 h2=>by
  simp only [Bool.not_eq_true'] at h1 h2 ⊢
  exact lessO_swo.ntrans _ _ _ h2 h1) (fun a b=>by
  cases h:q6y a b with
  | false=>simp [h]
  | true=>
   cases h2:q6y b a with
   | false=>simp
   | true=>have:=lessO_swo.trans _ _ _ h h2; rw [lessO_swo.irrefl] at this; cases this) (q7U e)
 unfold z5b
 exact h.imp fun {a b} h=>by simpa using h
theorem z4e {e:Expr}(h:Sz.szd e≤1048576):q2G e=some (q7D e):=by
 have hl:=z9T h
 obtain⟨q,h1,h2,h3,h4⟩:=z8M _ e [] (Nat.le_refl _) List.Pairwise.nil (by simp; omega)
 have hq:q=q7D e:=z3h (lt:=q6y) lessO_swo.irrefl lessO_swo.trans h2 (z5A e) fun a=>by rw [h3,z9U]; simp
 subst hq
 have hr:z1R e []=some (q7D e):=j0e (fun n q=>j3t n e [] q) h1
 unfold q2G
 rw [hr]; rfl
end Go.Proofs.YtiojgbiimbefiacGreat
namespace Go.Proofs.YtiojgbiimbefiacGreat
open Go Go.E
def Ok {ρ:Type}(Q:ρ→Prop)(o:Option ρ):Prop:=∃ r,o=some r∧Q r
section
variable {ρ τ σ α:Type}{Q:ρ→Prop}{R:τ→Prop}
theorem Ok.ret {r:ρ}(h:Q r):Ok Q (some r):=⟨r,rfl,h⟩
theorem Ok.bind {o:Option ρ}{f:ρ→Option τ}(h:Ok Q o)(hf:∀ r,Q r→Ok R (f r)):Ok R (o.bind f):=by
 obtain⟨r,rfl,hr⟩:=h; exact hf r hr
theorem Ok.grd {c:Prop}[Decidable c]{k:Option τ}(hc:c)(h:Ok R k):Ok R (Go.E.grd c k):=by rw [q1n hc]; exact h
theorem Ok.ite {c:Prop}[Decidable c]{a b:Option τ}(h1:c→Ok R a)(h2:¬ c→Ok R b):Ok R (if c then a else b):=by
 by_cases hc:c
 ·rw [if_pos hc]; exact h1 hc
 ·rw [if_neg hc]; exact h2 hc
theorem Ok.mono {Q' : ρ→Prop}{o:Option ρ}(h:Ok Q o)(hq:∀ r,Q r→Q' r):Ok Q' o:=by
 obtain⟨r,rfl,hr⟩:=h; exact⟨r,rfl,hq r hr⟩
theorem z4f {P:Nat→σ→Prop}{f:Nat→σ→Option σ}:∀ {n i:Nat} {s:σ},P i s→(∀ k s,i≤k→k < i+n→P k s→Ok (P (k+1)) (f k s))→Ok (P (i+n)) (eachN f i n s)
 | 0,i,s,h,_=>⟨s,rfl,h⟩
 | n+1,i,s,h,hf=>by
  rw [eachN]
  refine (hf i s (Nat.le_refl _) (by omega) h).bind fun r hr=>?_
  have:=z4f (n:=n) hr fun k s h1 h2=>hf k s (by omega) (by omega)
  rwa [show i+1+n=i+(n+1) by omega] at this
theorem z4g {P:Nat→σ→Prop}{f:Nat→α→σ→Option σ}:∀ {xs:List α} {i:Nat} {s:σ},P i s→(∀ k x s,x∈xs→i≤k→k < i+xs.length→P k s→Ok (P (k+1)) (f k x s))→Ok (P (i+xs.length)) (eachL f i xs s)
 | [],i,s,h,_=>⟨s,rfl,h⟩
 | x :: xs,i,s,h,hf=>by
  rw [eachL]
  refine (hf i x s (by simp) (Nat.le_refl _) (by simp) h).bind fun r hr=>?_
  have:=z4g (xs:=xs) hr fun k y s hy h1 h2=>hf k y s (by simp [hy]) (by omega) (by simp; omega)
  rwa [show i+1+xs.length=i+(x :: xs).length by simp; omega] at this
theorem j0g {g:Nat→Option ρ}{N:Nat}(h:∀ n,N≤n→g (n+1)=g n)(h2:Ok Q (g N)):Ok Q (recO g):=by
 obtain⟨r,h3,h4⟩:=h2
 have:∀ k,g (N+k)=some r:=by
  intro k
  induction k with
  | zero=>exact h3
  | succ k ih=>rw [← Nat.add_assoc,h _ (by omega),ih]
 exact⟨r,q7K N fun n hn=>by have:=this (n - N); rwa [show N+(n - N)=n by omega] at this,h4⟩
end
def CB (b:List UInt8)(z:l1Cur):Prop:=0≤z.i∧z.b=b
theorem CB.mk' {b:List UInt8}{o z:l1Cur}(h:CB b o)(hz:CB b z):CB b ⟨o.b,z.i,z.h⟩:=⟨hz.1,h.2⟩
def Dr {α:Type}(b:List UInt8)(P:α→Prop)(o:Option (α × l1Cur)):Prop:=Ok (fun r=>P r.1∧CB b r.2) o
theorem Dr.of {α:Type}{b:List UInt8}{P:α→Prop}{o:Option (α × l1Cur)}(hb:b.length≤1048576)(h:∃ y z,o=some (y,z)∧P y∧z4d z∧z.b=b):Dr b P o:=by
 obtain⟨y,z,e,h1,h2,h3⟩:=h
 exact⟨(y,z),e,h1,h2.1,h3⟩
theorem CB.ok {b:List UInt8}{z:l1Cur}(hb:b.length≤1048576)(h:CB b z):z4d z:=⟨h.1,by rw [h.2]; exact hb⟩
section
variable {b:List UInt8}{o:l1Cur}(hb:b.length≤1048576)
include hb
theorem j4s:Ok (fun z=>CB b z) (q8M b):=by
 obtain⟨o,h1,h2,h3⟩:=j1I hb
 exact⟨o,h1,h2.1,h3⟩
theorem q1F (n:Int)(h:CB b o):Dr b (fun y=>0≤y∧(0 < n→y < n)∧(n≤0→y=0)) (q1p n o):=by
 obtain⟨y,z,h1,h2,h3,h4,h5,h6⟩:=z3l (h.ok hb) n
 exact⟨(y,z),h1,⟨h2,h3,h4⟩,h5.1,h6.trans h.2⟩
theorem q4H (n:Int)(h:CB b o):Dr b (fun _=>True) (q1L n o):=by
 unfold q1L
 refine (q1F hb n h).bind ?_
 rintro⟨y,z⟩ ⟨_,hz⟩
 exact .ret ⟨trivial,h.mk' hz⟩
theorem q6O {l:List ByteArray}(hl:l≠[])(h:CB b o):Dr b (fun y=>y∈l) (q3t l o):=by
 have hpos:=List.length_pos_iff.2 hl
 unfold q3t
 refine (q1F hb _ h).bind ?_
 rintro⟨y,z⟩ ⟨⟨h1,h2,_⟩,hz⟩
 dsimp only at h1 h2 hz ⊢
 have:=h2 (by omega)
 obtain⟨x,hx⟩:∃ x,l[y.toNat]? = some x:=⟨_,List.getElem?_eq_getElem (by omega)⟩
 rw [hx]
 exact .grd h1 (.ret ⟨List.mem_of_getElem? hx,h.mk' hz⟩)
theorem q4Y {l:List Int}(hl:l≠[])(h:CB b o):Dr b (fun y=>y∈l) (q1S l o):=by
 obtain⟨y,z,h1,h2,h3,h4⟩:=z5y (h.ok hb) hl
 exact⟨(y,z),h1,h2,h3.1,h4.trans h.2⟩
theorem z6L (h:CB b o):Dr b (fun y=>y.size=1) (q5j o):=by
 unfold q5j
 refine (q6O hb (by simp) h).bind ?_
 rintro⟨y,z⟩ ⟨h1,hz⟩
 refine .ret ⟨?_,h.mk' hz⟩
 simp only [List.mem_cons,List.not_mem_nil,or_false] at h1
 rcases h1 with h1 | h1 | h1 | h1 | h1 | h1 | h1 | h1<;>rw [h1]<;>rfl
theorem z3m (k n p t:Int)(s m:ByteArray):Sz.szd (⟨k,n,p,t,s,m,[]⟩:Expr)=s.size+m.size:=by rw [q3k]; rfl
theorem j0h (k n p t:Int)(s m:ByteArray)(x y:Expr):Sz.szd (⟨k,n,p,t,s,m,[x,y]⟩:Expr)=s.size+m.size+(1+Sz.szd x+(1+Sz.szd y+0)):=by rw [q3k]; rfl
theorem j2E (k n p t:Int)(s m:ByteArray)(x:Expr):Sz.szd (⟨k,n,p,t,s,m,[x]⟩:Expr)=s.size+m.size+(1+Sz.szd x+0):=by rw [q3k]; rfl
theorem z7M (k n p t:Int)(s m:ByteArray)(x y z:Expr):Sz.szd (⟨k,n,p,t,s,m,[x,y,z]⟩:Expr)=s.size+m.size+(1+Sz.szd x+(1+Sz.szd y+(1+Sz.szd z+0))):=by rw [q3k]; rfl
theorem q6p:(⟨#[]⟩:ByteArray).size=0:=rfl
theorem z0A (k:Int){l:List Occurrence}(hl:∀ q∈l,q.Name.size≤8)(h:CB b o):Dr b (fun e=>Sz.szd e≤8) (q3G k l o):=by
 have bare:∀ {o:l1Cur},CB b o→∀ {R:Option (Expr × l1Cur)},R=(if k=4 then
   (q1L 3 o).bind fun (y10,z7)=>if y10=true then some ((⟨7,0,0,0,(⟨#[]⟩:ByteArray),(⟨#[]⟩:ByteArray),[]⟩:Expr),(⟨o.b,z7.i,z7.h⟩:l1Cur)) else some ((⟨6,0,0,0,(⟨#[]⟩:ByteArray),(⟨#[]⟩:ByteArray),[]⟩:Expr),(⟨o.b,z7.i,z7.h⟩:l1Cur))
  else if k=3 then (q1p 2 o).bind fun (y11,z8)=>(q3C y11 k).bind fun y12=>some (y12,(⟨o.b,z8.i,z8.h⟩:l1Cur))
  else if k=2 then (q1p 12 o).bind fun (y13,z9)=>grd (0≤y13) <| grd (0≤y13∧y13 < 63) <| (q3C ((2 ^ y13.toNat:Nat):Int) k).bind fun y14=>some (y14,(⟨o.b,z9.i,z9.h⟩:l1Cur))
  else (q1p 9 o).bind fun (y15,z10)=>(q3C y15 1).bind fun y16=>some (y16,(⟨o.b,z10.i,z10.h⟩:l1Cur)))→Dr b (fun e=>Sz.szd e≤8) R:=by
  rintro o h R rfl
  refine .ite (fun _=>?_) fun _=>.ite (fun _=>?_) fun _=>.ite (fun _=>?_) fun _=>?_
  ·refine (q4H hb 3 h).bind ?_
   rintro⟨y,z⟩ ⟨_,hz⟩
   refine .ite (fun _=>.ret ⟨?_,h.mk' hz⟩) fun _=>.ret ⟨?_,h.mk' hz⟩
   ·exact Nat.zero_le _
   ·exact Nat.zero_le _
  ·refine (q1F hb 2 h).bind ?_
   rintro⟨y,z⟩ ⟨_,hz⟩
   refine .ret ⟨?_,h.mk' hz⟩
   exact Nat.zero_le _
  ·refine (q1F hb 12 h).bind ?_
   rintro⟨y,z⟩ ⟨⟨h1,h2,_⟩,hz⟩
   have:=h2 (by omega)
   dsimp only at h1 this
   refine .grd h1 (.grd (by omega) (.ret ⟨?_,h.mk' hz⟩))
   exact Nat.zero_le _
  ·refine (q1F hb 9 h).bind ?_
   rintro⟨y,z⟩ ⟨_,hz⟩
   refine .ret ⟨?_,h.mk' hz⟩
   exact Nat.zero_le _
 unfold q3G
 refine .ite (fun hl0=>?_) fun _=>bare h rfl
 refine (q4H hb 4 h).bind ?_
 rintro⟨y,z⟩ ⟨_,hz⟩
 have h':=h.mk' hz
 refine .ite (fun _=>?_) fun _=>?_
 ·exact bare h' rfl
 ·refine (q1F hb _ h').bind ?_
  rintro⟨y,z⟩ ⟨⟨h1,h2,_⟩,hz⟩
  have:=h2 (by omega)
  dsimp only at h1 this
  obtain⟨x,hx⟩:∃ x,l[y.toNat]? = some x:=⟨_,List.getElem?_eq_getElem (by omega)⟩
  dsimp only
  rw [hx]
  refine .grd h1 (.ret ⟨?_,h.mk' hz⟩)
  dsimp only
  rw [z3m hb,q6p hb]
  have:=hl x (List.mem_of_getElem? hx)
  omega
def fb (d:Nat):Nat:=20*4 ^ d
theorem z3n (d:Nat):20≤fb d:=by
 have:1≤4 ^ d:=Nat.one_le_pow _ _ (by omega)
 unfold fb; omega
theorem j0i (d:Nat):fb (d+1)=4*fb d:=by unfold fb; rw [Nat.pow_succ]; omega
theorem q9v (h:CB b o){R:Option (Expr × l1Cur)}(hR:R=(
 (q1L 5 o).bind fun (y1,z1)=>
 if y1=true then (
 some ((⟨2,0,0,0,(⟨#[]⟩:ByteArray),(⟨#[]⟩:ByteArray),[]⟩:Expr),(⟨o.b,z1.i,z1.h⟩:l1Cur))
 ) else (
 (q1L 6 (⟨o.b,z1.i,z1.h⟩:l1Cur)).bind fun (y2,z2)=>
 if y2=true then (
 (q1p 4 (⟨o.b,z2.i,z2.h⟩:l1Cur)).bind fun (y3,z3)=>
 some ((⟨6,0,y3,0,(⟨#[]⟩:ByteArray),(⟨#[]⟩:ByteArray),[]⟩:Expr),(⟨o.b,z3.i,z3.h⟩:l1Cur))
 ) else (
 (q1p 4 (⟨o.b,z2.i,z2.h⟩:l1Cur)).bind fun (y4,z4)=>
 grd (I64 (1+y4)) <|
 (q1p 4 (⟨o.b,z4.i,z4.h⟩:l1Cur)).bind fun (y5,z5)=>
 (q5j (⟨o.b,z5.i,z5.h⟩:l1Cur)).bind fun (y6,z6)=>
 (q3G (1+y4) [(⟨y5,y6⟩:Occurrence)] (⟨o.b,z6.i,z6.h⟩:l1Cur)).bind fun (y7,z7)=>
 some (y7,(⟨o.b,z7.i,z7.h⟩:l1Cur))
 )
 ))):Dr b (fun e=>Sz.szd e≤20) R:=by
 subst hR
 refine (q4H hb 5 h).bind ?_
 rintro⟨y1,z1⟩ ⟨_,h1⟩
 refine .ite (fun _=>.ret ⟨?_,h.mk' h1⟩) fun _=>?_
 ·exact Nat.zero_le _
 refine (q4H hb 6 (h.mk' h1)).bind ?_
 rintro⟨y2,z2⟩ ⟨_,h2⟩
 refine .ite (fun _=>?_) fun _=>?_
 ·refine (q1F hb 4 (h.mk' h2)).bind ?_
  rintro⟨y3,z3⟩ ⟨_,h3⟩
  refine .ret ⟨?_,h.mk' h3⟩
  exact Nat.zero_le _
 ·refine (q1F hb 4 (h.mk' h2)).bind ?_
  rintro⟨y4,z4⟩ ⟨⟨a1,a2,_⟩,h4⟩
  have:=a2 (by omega)
  dsimp only at a1 this
  refine .grd (by constructor<;>omega) ?_
  refine (q1F hb 4 (h.mk' h4)).bind ?_
  rintro⟨y5,z5⟩ ⟨_,h5⟩
  refine (z6L hb (h.mk' h5)).bind ?_
  rintro⟨y6,z6⟩ ⟨hn,h6⟩
  refine (z0A hb _ (by simpa using (show y6.size≤8 by dsimp only at hn; omega)) (h.mk' h6)).bind ?_
  rintro⟨y7,z7⟩ ⟨hs,h7⟩
  exact .ret ⟨by have hs' : Sz.szd y7≤8:=hs; show Sz.szd y7≤20; omega,h.mk' h7⟩
theorem j3u:∀ (d:Nat) (m:Nat),d < m→∀ (a:Int) (o:l1Cur),a≤d+1→q3e (m+1) a o=q3e m a o:=by
 intro d
 induction d with
 | zero=>
  intro m hm a o ha
  obtain⟨m,rfl⟩:∃ q,m=q+1:=⟨m - 1,by omega⟩
  show q3R (q3e (m+1)) a o=q3R (q3e m) a o
  unfold q3R
  rw [if_pos (by omega),if_pos (by omega)]
 | succ d ih=>
  intro m hm a o ha
  obtain⟨m,rfl⟩:∃ q,m=q+1:=⟨m - 1,by omega⟩
  have e:q3e (m+1) (a - 1)=q3e m (a - 1):=funext fun o=>ih m (by omega) (a - 1) o (by omega)
  show q3R (q3e (m+1)) a o=q3R (q3e m) a o
  unfold q3R
  rw [e]
theorem j1K:∀ (d:Nat) (m:Nat),d < m→∀ (a:Int) (o:l1Cur),a≤d+1→-1000000≤a→d≤100000→CB b o→Dr b (fun e=>Sz.szd e≤fb d) (q3e m a o):=by
 intro d
 induction d with
 | zero=>
  intro m hm a o ha _ _ h
  obtain⟨m,rfl⟩:∃ q,m=q+1:=⟨m - 1,by omega⟩
  show Dr b _ (q3R (q3e m) a o)
  unfold q3R
  rw [if_pos (by omega)]
  exact (q9v hb h rfl).mono fun r hr=>⟨Nat.le_trans hr.1 (z3n hb 0),hr.2⟩
 | succ d ih=>
  intro m hm a o ha h0 hd h
  obtain⟨m,rfl⟩:∃ q,m=q+1:=⟨m - 1,by omega⟩
  have hf:=z3n hb d
  have hs:=j0i hb d
  show Dr b _ (q3R (q3e m) a o)
  unfold q3R
  by_cases ha2:a < 2
  ·rw [if_pos ha2]; exact (q9v hb h rfl).mono fun r hr=>⟨Nat.le_trans hr.1 (z3n hb _),hr.2⟩
  rw [if_neg ha2]
  have ih' : ∀ {o:l1Cur},CB b o→Dr b (fun e=>Sz.szd e≤fb d) (q3e m (a - 1) o):=fun h=>ih m (by omega) (a - 1) _ (by omega) (by omega) (by omega) h
  have hg:I64 (a - 1):=by constructor<;>omega
  refine (q4H hb 4 h).bind ?_
  rintro⟨y8,z8⟩ ⟨_,h8⟩
  refine .ite (fun _=>(q9v hb (h.mk' h8) rfl).mono fun r hr=>⟨Nat.le_trans hr.1 (z3n hb _),hr.2⟩) fun _=>?_
  refine (q1F hb 5 (h.mk' h8)).bind ?_
  rintro⟨y16,z16⟩ ⟨_,h16⟩
  refine .ite (fun _=>?_) fun _=>.ite (fun _=>?_) fun _=>?_
  ·refine .grd hg ((ih' (h.mk' h16)).bind ?_)
   rintro⟨e1,z1⟩ ⟨s1,h1⟩
   refine .grd hg ((ih' (h.mk' h1)).bind ?_)
   rintro⟨e2,z2⟩ ⟨s2,h2⟩
   refine .grd hg ((ih' (h.mk' h2)).bind ?_)
   rintro⟨e3,z3⟩ ⟨s3,h3⟩
   refine .ret ⟨?_,h.mk' h3⟩
   dsimp only at s1 s2 s3 ⊢
   rw [z7M hb,q6p hb]; omega
  ·refine (q6O hb (by simp) (h.mk' h16)).bind ?_
   rintro⟨y20,z20⟩ ⟨h20,c20⟩
   refine (z6L hb (h.mk' c20)).bind ?_
   rintro⟨y21,z21⟩ ⟨h21,c21⟩
   refine .grd hg ((ih' (h.mk' c21)).bind ?_)
   rintro⟨e1,z1⟩ ⟨s1,h1⟩
   refine .ret ⟨?_,h.mk' h1⟩
   have:y20.size=1:=by
    simp only [List.mem_cons,List.not_mem_nil,or_false] at h20
    rcases h20 with h20 | h20<;>rw [h20]<;>rfl
   dsimp only at s1 h21 ⊢
   rw [j2E hb]; omega
  ·refine (q1F hb 12 (h.mk' h16)).bind ?_
   rintro⟨y23,z23⟩ ⟨⟨a1,a2,_⟩,h23⟩
   have:=a2 (by omega)
   dsimp only at a1 this
   refine .grd (by constructor<;>omega) (.grd hg ((ih' (h.mk' h23)).bind ?_))
   rintro⟨e1,z1⟩ ⟨s1,h1⟩
   refine .grd hg ((ih' (h.mk' h1)).bind ?_)
   rintro⟨e2,z2⟩ ⟨s2,h2⟩
   refine .ret ⟨?_,h.mk' h2⟩
   dsimp only at s1 s2 ⊢
   rw [j0h hb,q6p hb]; omega
theorem j0j (d:Nat){a:Int}(ha:a≤d+1)(h0:-1000000≤a)(hd:d≤100000)(h:CB b o):Dr b (fun e=>Sz.szd e≤fb d) (q9N a o):=
 j0g (g:=fun n=>q3e n a o) (N:=d+1) (fun n hn=>j3u hb d n (by omega) a o ha) (j1K hb d (d+1) (by omega) a o ha h0 hd h)
theorem j0k {e:Expr}{n:Nat}(h:Sz.szd e≤n):cntE e≤n+1:=by
 have h1:=z4b e
 have h2:q5t e=Sz.szd e:=rfl
 omega
theorem j0l (h:CB b o):Dr b (fun e=>Sz.szd e≤20480) (q7u o):=by
 unfold q7u
 refine (q1F hb 5 h).bind ?_
 rintro⟨y1,z1⟩ ⟨⟨a1,a2,_⟩,h1⟩
 have:=a2 (by omega)
 dsimp only at a1 this
 refine .grd (by constructor<;>omega) ?_
 refine (j0j hb 5 (a:=1+y1) (by omega) (by omega) (by omega) (h.mk' h1)).bind ?_
 rintro⟨e,z2⟩ ⟨s2,h2⟩
 have s2' : Sz.szd e≤20480:=s2
 dsimp only
 rw [q9Z (by have:=j0k hb s2'; omega)]
 refine Ok.bind (Q:=fun _=>True) (.ret trivial) fun y3 _=>.ite (fun _=>.ret ⟨s2',h.mk' h2⟩) fun _=>.ret ⟨?_,h.mk' h2⟩
 exact Nat.zero_le _
theorem j3v (h:CB b o):Dr b (fun e=>Sz.szd e≤30000) (q8o o):=by
 unfold q8o
 refine (j0l hb h).bind ?_
 rintro⟨e,z1⟩ ⟨s1,h1⟩
 have s1' : Sz.szd e≤20480:=s1
 have s2:=q3k e
 refine (q1F hb 14 (h.mk' h1)).bind ?_
 rintro⟨y2,z2⟩ ⟨_,h2⟩
 dsimp only
 refine .ite (fun _=>?_) fun _=>.ite (fun _=>?_) fun _=>.ite (fun _=>?_) fun _=>.ite (fun _=>?_) fun _=>.ite (fun _=>?_) fun _=>.ite (fun _=>?_) fun _=>?_
 ·refine (q1F hb 11 (h.mk' h2)).bind ?_
  rintro⟨y3,z3⟩ ⟨_,h3⟩
  refine .ret ⟨?_,h.mk' h3⟩
  dsimp only; rw [q3k]; dsimp only; omega
 ·have hl:=q3O e.Args
  refine .grd (by constructor<;>omega) (.ret ⟨?_,h.mk' h2⟩)
  dsimp only; rw [q3k]; dsimp only; rw [z0c]
  have:szL [(⟨7,0,0,0,(⟨#[]⟩:ByteArray),(⟨#[]⟩:ByteArray),[]⟩:Expr)]=1:=rfl
  omega
 ·refine (q4Y hb (by simp) (h.mk' h2)).bind ?_
  rintro⟨y3,z3⟩ ⟨_,h3⟩
  refine .ret ⟨?_,h.mk' h3⟩
  dsimp only; rw [q3k]; dsimp only; omega
 ·refine (q4Y hb (by simp) (h.mk' h2)).bind ?_
  rintro⟨y3,z3⟩ ⟨_,h3⟩
  refine .ret ⟨?_,h.mk' h3⟩
  dsimp only; rw [q3k]; dsimp only; omega
 ·refine (q6O hb (by simp) (h.mk' h2)).bind ?_
  rintro⟨y3,z3⟩ ⟨h30,h3⟩
  have:y3.size≤2:=by
   simp only [List.mem_cons,List.not_mem_nil,or_false] at h30
   rcases h30 with h30 | h30 | h30<;>rw [h30]<;>decide
  refine .ret ⟨?_,h.mk' h3⟩
  dsimp only; rw [q3k]; dsimp only; omega
 ·have hL:Ok (fun q=>Sz.szd (⟨q.2.1,q.2.2.1,q.2.2.2.1,q.2.2.2.2.1,q.2.2.2.2.2.1,q.2.2.2.2.2.2,q.1⟩:Expr)≤20480+5*2) (eachN z0k 0 5 (e.Args,e.Kind,e.N,e.Pos,e.Type_,e.Symbol,e.Name)):=by
   refine (z4f (P:=fun k q=>Sz.szd (⟨q.2.1,q.2.2.1,q.2.2.2.1,q.2.2.2.2.1,q.2.2.2.2.2.1,q.2.2.2.2.2.2,q.1⟩:Expr)≤20480+k*2) (by dsimp only; rw [q3k]; dsimp only; omega) fun k q _ _ hq=>?_).mono fun q hq=>by simpa using hq
   obtain⟨q1,q2,q3,q4,q5,q6,q7⟩:=q
   dsimp only at hq
   refine .ret ?_
   dsimp only
   rw [j0h hb,z3m hb,q6p hb]; omega
  refine hL.bind ?_
  rintro⟨q1,q2,q3,q4,q5,q6,q7⟩ hq
  refine .ret ⟨?_,h.mk' h2⟩
  dsimp only at hq ⊢; omega
 ·exact .ret ⟨by dsimp only; omega,h.mk' h2⟩
end
end Go.Proofs.YtiojgbiimbefiacGreat
namespace Go.Proofs.YtiojgbiimbefiacGreat
open Go Go.E
def Valid (r:Relation):Prop:=0≤r.N∧r.N≤16∧(r.Rows.length:Int)=r.N∧∀ x∈r.Rows,0≤x∧x≤((2 ^ r.N.toNat:Nat):Int) - 1
instance (r:Relation):Decidable (Valid r):=by unfold Valid; infer_instance
def q8e (r:Relation)(i:Int):Int:=r.Rows.getD i.toNat 0
def bit (x:Int)(k:Int):Prop:=x.toNat >>> k.toNat &&& 1=1
instance (x k:Int):Decidable (bit x k):=by unfold bit; infer_instance
def inN (r:Relation)(i:Int):Prop:=0≤i∧i≤r.N - 1
instance (r:Relation) (i:Int):Decidable (inN r i):=by unfold inN; infer_instance
def hasP (r:Relation)(i k:Int):Prop:=Valid r∧inN r i∧inN r k∧bit (q8e r i) k
instance (r:Relation) (i k:Int):Decidable (hasP r i k):=by unfold hasP; infer_instance
def z2e (r:Relation)(i:Int)(x:Int):Relation:=⟨r.N,r.Rows.set i.toNat x⟩
def orI (x y:Int):Int:=((x.toNat ||| y.toNat:Nat):Int)
def addP (r:Relation)(i k:Int):Relation:=if Valid r∧inN r i∧inN r k then z2e r i (orI (q8e r i) ((2 ^ k.toNat:Nat):Int)) else r
theorem Valid.row {r:Relation}(h:Valid r){i:Int}(hi:inN r i){x:Int}(hx:r.Rows[i.toNat]? = some x):q8e r i=x∧0≤x∧x≤65535:=by
 have hm:=h.2.2.2 x (List.mem_of_getElem? hx)
 have hp:2 ^ r.N.toNat≤2 ^ 16:=Nat.pow_le_pow_right (by decide) (by have:=h.2.1; omega)
 refine⟨by unfold q8e; simp [hx],hm.1,by omega⟩
theorem j1L (n:Int):1≤2 ^ n.toNat:=Nat.one_le_two_pow
theorem j0m {r:Relation}(h0:0≤r.N)(h1:r.N≤16)(h2:(r.Rows.length:Int)=r.N):decide (Valid r)=!(r.Rows.any fun x=>!decide (0≤x∧x≤((2 ^ r.N.toNat:Nat):Int) - 1)):=by
 by_cases hv:Valid r
 ·rw [decide_eq_true hv,eq_comm,Bool.not_eq_true',List.any_eq_false]
  intro x hx
  simp only [Bool.not_eq_true',decide_eq_false_iff_not,Decidable.not_not]
  exact hv.2.2.2 x hx
 ·rw [decide_eq_false hv,eq_comm,Bool.not_eq_false',List.any_eq_true]
  refine Classical.byContradiction fun hn=>hv ⟨h0,h1,h2,fun x hx=>Classical.byContradiction fun hb=>hn ⟨x,hx,?_⟩⟩
  rw [decide_eq_false hb]; rfl
theorem j4t {x k:Int}(h:(((((x.toNat >>> k.toNat:Nat):Int)).toNat &&& (1:Int).toNat:Nat):Int)=1):x.toNat >>> k.toNat &&& 1=1:=by
 have:(1:Int).toNat=1:=rfl
 rw [Int.toNat_natCast,this] at h
 exact_mod_cast h
theorem j4u {x k:Int}(h:x.toNat >>> k.toNat &&& 1=1):(((((x.toNat >>> k.toNat:Nat):Int)).toNat &&& (1:Int).toNat:Nat):Int)=1:=by
 have:(1:Int).toNat=1:=rfl
 rw [Int.toNat_natCast,this]
 exact_mod_cast h
theorem q4S (x lo hi:Int):q2g x lo hi=some (decide (lo≤x∧x≤hi)):=by
 unfold q2g; split<;>simp_all<;>omega
theorem q7E (x lo hi:Int):q3v x lo hi=some (decide (lo≤x∧x≤hi)):=by
 unfold q3v; split<;>simp_all<;>omega
theorem q6P (r:Relation):q2Z r=some (decide (Valid r)):=by
 unfold q2Z
 simp only [q4S,Option.bind_some,decide_eq_true_eq]
 by_cases h1:0≤r.N∧r.N≤16
 ·rw [if_pos h1]
  by_cases h2:(r.Rows.length:Int)=r.N
  ·rw [if_pos h2]
   have key:=z5r (c:=false) (n:=r.N.toNat) (i:=0) (p:=fun k=>∃ x,r.Rows[k]? = some x∧¬ (0≤x∧x≤((2 ^ r.N.toNat:Nat):Int) - 1)) (f:=q4U r) fun k hk=>by
    have hk' : k < r.Rows.length:=by omega
    obtain⟨x,hx⟩:∃ x,r.Rows[k]? = some x:=⟨_,List.getElem?_eq_getElem hk'⟩
    simp only [Nat.zero_add]
    unfold q4U
    rw [hx,Option.bind_some,q1n h1.1,q1n (by omega),q4S,Option.bind_some]
    simp only [decide_eq_true_eq]
    refine⟨fun ⟨y,hy,hn⟩=>?_,fun hn=>?_⟩
    ·cases hy; rw [if_neg hn]
    ·by_cases hb:0≤x∧x≤((2 ^ r.N.toNat:Nat):Int) - 1
     ·rw [if_pos hb]
     ·exact absurd ⟨x,rfl,hb⟩ hn
   simp only [Nat.zero_add] at key
   by_cases hv:Valid r
   ·rw [key.2 fun k hk ⟨x,hx,hn⟩=>hn (hv.2.2.2 x (List.mem_of_getElem? hx))]
    simp [hv]
   ·rw [key.1 (Classical.byContradiction fun hn=>hv ⟨h1.1,h1.2,h2,fun x hx=>?_⟩)]
    ·simp [hv]
    ·obtain⟨k,hk⟩:=List.getElem?_of_mem hx
     have hk':=j4J hk
     exact Classical.byContradiction fun hb=>hn ⟨k,by omega,x,hk,hb⟩
  ·rw [if_neg h2,decide_eq_false fun hv=>h2 hv.2.2.1]
 ·rw [if_neg h1,decide_eq_false fun hv=>h1 ⟨hv.1,hv.2.1⟩]
theorem z2f (r:Relation):q2Y r=some (decide (Valid r)):=by
 unfold q2Y
 simp only [q7E,Option.bind_some,decide_eq_true_eq]
 by_cases h1:0≤r.N∧r.N≤16
 ·rw [if_pos h1]
  simp only [Option.bind_some,Bool.false_eq_true,if_true,if_false,decide_eq_true_eq]
  by_cases h2:(r.Rows.length:Int)=r.N
  ·rw [if_pos h2]
   have h3:∀ x,q3h x r=some (!decide (0≤x∧x≤((2 ^ r.N.toNat:Nat):Int) - 1)):=fun x=>by
    unfold q3h
    rw [q1n h1.1,q1n (by omega),q7E]; rfl
   have h4:∀ (xs:List Int) (i:Nat),∃ z,findL (q1O r) i xs ()=some z∧((xs.any fun x=>!decide (0≤x∧x≤((2 ^ r.N.toNat:Nat):Int) - 1))=true→∃ k:Nat,z = .inr (k:Int))∧((xs.any fun x=>!decide (0≤x∧x≤((2 ^ r.N.toNat:Nat):Int) - 1))=false→z = .inl ()):=by
    intro xs
    induction xs with
    | nil=>intro i; exact⟨_,rfl,by simp,by simp⟩
    | cons x xs ih=>
     intro i
     simp only [findL,q1O,h3,Option.bind_some,List.any_cons]
     by_cases hb:0≤x∧x≤((2 ^ r.N.toNat:Nat):Int) - 1
     ·simp only [hb,and_self,decide_true,Bool.not_true,Bool.false_eq_true,if_false,Option.bind_some,Bool.false_or]
      exact ih (i+1)
     ·simp only [hb,decide_false,Bool.not_false,if_true,Option.bind_some,Bool.true_or]
      exact⟨_,rfl,fun _=>⟨i,rfl⟩,by simp⟩
   unfold q1A q1E
   obtain⟨z,hz,hz1,hz2⟩:=h4 r.Rows 0
   rw [hz,j0m h1.1 h1.2 h2]
   cases ha:(r.Rows.any fun x=>!decide (0≤x∧x≤((2 ^ r.N.toNat:Nat):Int) - 1)) with
   | true=>obtain⟨k,rfl⟩:=hz1 ha; simp
   | false=>rw [hz2 ha]; simp
  ·rw [if_neg h2,decide_eq_false fun hv=>h2 hv.2.2.1]; simp only [Option.bind_some,Bool.false_eq_true,if_true,if_false,decide_eq_true_eq]
 ·rw [if_neg h1,decide_eq_false fun hv=>h1 ⟨hv.1,hv.2.1⟩]; simp only [Option.bind_some,Bool.false_eq_true,if_true,if_false,decide_eq_true_eq]
theorem z6M (r:Relation)(i k:Int):z0x r i k=some (decide (hasP r i k)):=by
 unfold z0x
 simp only [q6P,q4S,Option.bind_some,decide_eq_true_eq]
 by_cases hv:Valid r
 ·have hv1:=hv.1; have hv2:=hv.2.1; have hv3:=hv.2.2.1
  rw [if_pos hv,q1n (by constructor<;>omega)]; simp only [Option.bind_some,Bool.false_eq_true,if_true,if_false,decide_eq_true_eq]
  by_cases hi:0≤i∧i≤r.N - 1
  ·rw [if_pos hi,q1n (by constructor<;>omega)]; simp only [Option.bind_some,Bool.false_eq_true,if_true,if_false,decide_eq_true_eq]
   by_cases hk:0≤k∧k≤r.N - 1
   ·obtain⟨x,hx⟩:∃ x,r.Rows[i.toNat]? = some x:=⟨_,List.getElem?_eq_getElem (by omega)⟩
    have hrow:=hv.row (i:=i) hi hx
    rw [if_pos hk,q1n hi.1,hx,Option.bind_some,q1n hk.1,q1n ⟨hrow.2.1,hk.1,by omega⟩,q1n ⟨Int.natCast_nonneg _,by decide⟩]
    simp only [Option.bind_some,Bool.false_eq_true,if_true,if_false,decide_eq_true_eq]
    congr 1
    refine decide_eq_decide.2 ⟨fun hb=>⟨hv,hi,hk,?_⟩,fun hb=>?_⟩
    ·unfold bit; rw [hrow.1]; exact j4t hb
    ·have:=hb.2.2.2; unfold bit at this; rw [hrow.1] at this; exact j4u this
   ·rw [if_neg hk]; simp only [Option.bind_some,Bool.false_eq_true,if_true,if_false,decide_eq_true_eq]; rw [ decide_eq_false fun h=>hk h.2.2.1]
  ·rw [if_neg hi]; simp only [Option.bind_some,Bool.false_eq_true,if_true,if_false,decide_eq_true_eq]; rw [ decide_eq_false fun h=>hi h.2.1]
 ·rw [if_neg hv]; simp only [Option.bind_some,Bool.false_eq_true,if_true,if_false,decide_eq_true_eq]; rw [ decide_eq_false fun h=>hv h.1]
theorem z6N (r:Relation)(i k:Int):q7C r i k=some (decide (hasP r i k)):=by
 rw [← z6M]
 unfold q7C z0x
 simp only [q6P,z2f,q4S,q7E]
theorem j0n:q4A=q4X:=by
 funext r; unfold q4A q4X q4r
 by_cases h:((([]:List Int).length:Int)+(r.Rows.length:Int))*8≤140737488355328∧(([]:List Int).length:Int)+(r.Rows.length:Int)≤9223372036854775807
 ·rw [q1n h,q1n h]; rfl
 ·unfold grd; rw [if_neg h,if_neg h]; rfl
theorem z7N:q7y=q3U:=by
 funext r i k; unfold q7y q3U; simp only [j0n,q6P,z2f,q4S,q7E]
theorem z3o:q4k=q2l:=by
 funext n; unfold q4k q2l; simp only [q4S,q7E]
theorem z5B {r:Relation}(h:r.Rows.length≤1048576):q4X r=some r:=by
 unfold q4X; rw [q1n (by simp only [List.length_nil]; constructor<;>omega)]
theorem j1M {r:Relation}(h:r.Rows.length≤1048576)(i k:Int):∃ x,q3U r i k=some x∧x.Rows.length=r.Rows.length:=by
 unfold q3U
 simp only [z5B h,q6P,q4S,Option.bind_some,decide_eq_true_eq]
 by_cases hv:Valid r
 ·have hv1:=hv.1; have hv2:=hv.2.1; have hv3:=hv.2.2.1
  rw [if_pos hv,q1n (by constructor<;>omega)]; simp only [Option.bind_some,Bool.false_eq_true,if_true,if_false,decide_eq_true_eq]
  by_cases hi:0≤i∧i≤r.N - 1
  ·rw [if_pos hi,q1n (by constructor<;>omega)]; simp only [Option.bind_some,Bool.false_eq_true,if_true,if_false,decide_eq_true_eq]
   by_cases hk:0≤k∧k≤r.N - 1
   ·obtain⟨x,hx⟩:∃ x,r.Rows[i.toNat]? = some x:=⟨_,List.getElem?_eq_getElem (by omega)⟩
    have hrow:=hv.row (i:=i) hi hx
    rw [if_pos hk,q1n hi.1,hx,Option.bind_some,q1n hk.1,q1n ⟨hk.1,by omega⟩,q1n ⟨hrow.2.1,Int.natCast_nonneg _⟩]
    exact⟨_,rfl,by simp⟩
   ·rw [if_neg hk]; exact⟨_,rfl,rfl⟩
  ·rw [if_neg hi]; simp only [Option.bind_some,Bool.false_eq_true,if_true,if_false,decide_eq_true_eq]; exact⟨_,rfl,rfl⟩
 ·rw [if_neg hv]; simp only [Option.bind_some,Bool.false_eq_true,if_true,if_false,decide_eq_true_eq]; exact⟨_,rfl,rfl⟩
end Go.Proofs.YtiojgbiimbefiacGreat
namespace Go.Proofs.YtiojgbiimbefiacGreat
open Go Go.E
theorem j4v {r:Relation}(h:r.Rows.length≤1048576)(i k:Int):q3U r i k=some (addP r i k):=by
 unfold q3U
 simp only [z5B h,q6P,q4S,Option.bind_some,decide_eq_true_eq]
 by_cases hv:Valid r
 ·have hv1:=hv.1; have hv2:=hv.2.1; have hv3:=hv.2.2.1
  rw [if_pos hv,q1n (by constructor<;>omega)]; simp only [Option.bind_some,Bool.false_eq_true,if_true,if_false,decide_eq_true_eq]
  by_cases hi:0≤i∧i≤r.N - 1
  ·rw [if_pos hi,q1n (by constructor<;>omega)]; simp only [Option.bind_some,Bool.false_eq_true,if_true,if_false,decide_eq_true_eq]
   by_cases hk:0≤k∧k≤r.N - 1
   ·obtain⟨x,hx⟩:∃ x,r.Rows[i.toNat]? = some x:=⟨_,List.getElem?_eq_getElem (by omega)⟩
    have hrow:=hv.row (i:=i) hi hx
    rw [if_pos hk,q1n hi.1,hx,Option.bind_some,q1n hk.1,q1n ⟨hk.1,by omega⟩,q1n ⟨hrow.2.1,Int.natCast_nonneg _⟩]
    have e:addP r i k=z2e r i (orI (q8e r i) ((2 ^ k.toNat:Nat):Int)):=if_pos ⟨hv,hi,hk⟩
    rw [e,hrow.1]; rfl
   ·rw [if_neg hk]
    have e:addP r i k=r:=if_neg fun h=>hk h.2.2
    rw [e]
  ·rw [if_neg hi]; simp only [Option.bind_some,Bool.false_eq_true,if_true,if_false,decide_eq_true_eq]
   have e:addP r i k=r:=if_neg fun h=>hi h.2.1
   rw [e]
 ·rw [if_neg hv]; simp only [Option.bind_some,Bool.false_eq_true,if_true,if_false,decide_eq_true_eq]
  have e:addP r i k=r:=if_neg fun h=>hv h.1
  rw [e]
theorem j1N {n:Int}(h0:0≤n)(h1:n≤16):q2l n=some ⟨n,List.replicate n.toNat 0⟩:=by
 unfold q2l
 rw [q4S,Option.bind_some,if_pos (by simp; omega),q1n (by omega)]
theorem z4h (r:Relation)(i k:Int):(addP r i k).Rows.length=r.Rows.length∧(addP r i k).N=r.N:=by
 unfold addP
 split
 ·exact⟨by simp [z2e],rfl⟩
 ·exact⟨rfl,rfl⟩
theorem z7O (x k:Int):bit x k↔x.toNat.testBit k.toNat=true:=by
 unfold bit
 rw [Nat.testBit_eq_decide_div_mod_eq,Nat.shiftRight_eq_div_pow]
 simp [Nat.and_one_is_mod]
def z7P (n:Nat)(s:List Int):Prop:=s.length=n∧∀ x∈s,0≤x∧x.toNat < 2 ^ n
theorem j0o (x y:Int):(orI x y).toNat=x.toNat ||| y.toNat:=by unfold orI; omega
theorem j3w {n:Nat}{s:List Int}(h:z7P n s)(k:Nat):0≤s.getD k 0∧(s.getD k 0).toNat < 2 ^ n:=by
 rw [List.getD_eq_getElem?_getD]
 cases hk:s[k]? with
 | none=>simp; exact Nat.two_pow_pos n
 | some x=>exact h.2 x (List.mem_of_getElem? hk)
def Rl (s:List Int)(i j:Nat):Prop:=(s.getD i 0).toNat.testBit j=true
theorem j4O {n:Nat}{s:List Int}(h:z7P n s){i j:Nat}(hR:Rl s i j):j < n:=by
 unfold Rl at hR
 have h1:=(j3w h i).2
 apply Decidable.byContradiction
 intro hj
 have:(s.getD i 0).toNat.testBit j=false:=Nat.testBit_lt_two_pow (Nat.lt_of_lt_of_le h1 (Nat.pow_le_pow_right (by omega) (by omega)))
 rw [this] at hR; cases hR
theorem j4w {n:Nat}{s:List Int}(h:z7P n s){i j:Nat}(hR:Rl s i j):i < n:=by
 unfold Rl at hR
 apply Decidable.byContradiction
 intro hi
 have:s.getD i 0=0:=by rw [List.getD_eq_getElem?_getD,List.getElem?_eq_none (by rw [h.1]; omega)]; rfl
 rw [this] at hR; simp at hR
theorem j1O {r:Relation}(h:Valid r):z7P r.N.toNat r.Rows∧r.N.toNat≤16:=by
 obtain⟨h0,h1,h2,h3⟩:=h
 have:=j1L r.N
 exact⟨⟨by omega,fun x hx=>⟨(h3 x hx).1,by have:=(h3 x hx).2; omega⟩⟩,by omega⟩
theorem j3x {r:Relation}(h:Valid r)(i j:Nat):hasP r (i:Int) (j:Int)↔Rl r.Rows i j:=by
 obtain⟨hok,hn⟩:=j1O h
 unfold hasP
 have h0:=h.1
 constructor
 ·rintro⟨_,_,_,hb⟩
  have:=(z7O _ _).1 hb
  simpa [Rl,q8e] using this
 ·intro hR
  have hi:=j4w hok hR
  have hj:=j4O hok hR
  refine⟨h,⟨by omega,by omega⟩,⟨by omega,by omega⟩,(z7O _ _).2 ?_⟩
  simpa [Rl,q8e] using hR
theorem j0p (l:List Int):∀ (f:Nat→Int→Unit→Option (Unit ⊕ Bool)),(∀ k x,f k x ()=(l[k]?).bind fun x2=>if x=x2 then some (.inl ()) else some (.inr false))→findL f 0 l ()=some (.inl ()):=by
 intro f hf
 have key:∀ (m k:Nat),k+m=l.length→findL f k (l.drop k) ()=some (.inl ()):=by
  intro m
  induction m with
  | zero=>intro k hk; rw [List.drop_eq_nil_of_le (by omega)]; rfl
  | succ m ih=>
   intro k hk
   rw [List.drop_eq_getElem_cons (by omega)]
   simp only [findL,hf,List.getElem?_eq_getElem (show k < l.length by omega),Option.bind_some,if_true]
   exact ih (k+1) (by omega)
 have:=key l.length 0 (by omega)
 rwa [List.drop_zero] at this
theorem z6O (r:Relation):q4m r r=some true:=by
 unfold q4m q9Q
 rw [if_pos rfl,if_pos rfl,j0p r.Rows _ (fun k x=>rfl)]; rfl
end Go.Proofs.YtiojgbiimbefiacGreat
namespace Go.Proofs.YtiojgbiimbefiacGreat
open Go Go.E
theorem q5M {α ρ:Type}{p:α→Bool}{r:α→ρ}:∀ {xs:List α} {i:Nat} {f:Nat→α→Unit→Option (Unit ⊕ ρ)},(∀ k x,x∈xs→(p x=true→f k x ()=some (.inr (r x)))∧(p x=false→f k x ()=some (.inl ()))) →
  findL f i xs ()=some (match xs.find? p with | some x=>.inr (r x) | none=>.inl ())
 | [],_,_,_=>rfl
 | x :: xs,i,f,h=>by
  have h0:=h i x (by simp)
  cases hp:p x with
  | true=>simp [findL,h0.1 hp,List.find?,hp]
  | false=>
   have ih:=q5M (p:=p) (r:=r) (xs:=xs) (i:=i+1) (f:=f) fun k y hy=>h k y (by simp [hy])
   simp [findL,h0.2 hp,List.find?,hp,ih]
theorem q7b {α β:Type}{p:α→Bool}{g:Nat→α→β}{B:Nat}{f:Nat→α→List β→Option (List β)}(hf:∀ k x s,s.length < B→f k x s=some (if p x=true then s++[g k x] else s)):∀ (xs:List α) (i:Nat) (s:List β),s.length+xs.length≤B →
  ∃ ys,eachL f i xs s=some (s++ys)∧ys.length≤xs.length
 | [],i,s,_=>⟨[],by simp [eachL],by simp⟩
 | x :: xs,i,s,h=>by
  simp only [List.length_cons] at h
  by_cases hp:p x=true
  ·obtain⟨ys,h1,h2⟩:=q7b hf xs (i+1) (s++[g i x]) (by simp; omega)
   exact⟨g i x :: ys,by simp [eachL,hf i x s (by omega),hp,h1],by simp; omega⟩
  ·obtain⟨ys,h1,h2⟩:=q7b hf xs (i+1) s (by omega)
   exact⟨ys,by simp [eachL,hf i x s (by omega),hp,h1],by simp; omega⟩
theorem q8G (x lo hi:Int):q2g x lo hi=some (decide (lo≤x∧x≤hi)):=by
 unfold q2g; split<;>simp_all<;>omega
theorem j2F (x lo hi:Int):q3v x lo hi=some (decide (lo≤x∧x≤hi)):=by
 unfold q3v; split<;>simp_all<;>omega
theorem z3p (r:Rule)(k:Int):q4g r k=q1X r k:=by
 unfold q4g q1X; rw [q8G,j2F]
def z0B (a:Attribute):Bool:=decide (a.Mode=1∨a.Mode=2)
theorem z3q:q6F=q2m:=rfl
theorem z2E:q6N=q4j:=rfl
theorem j0q {g:Grammar}(h:∀ y∈g.Symbols,y.Attributes.length≤1048576)(s:ByteArray):∃ y b,q1U g s=some (y,b)∧q2U g s=some (y,b)∧y.Attributes.length≤1048576:=by
 have h1:=q5M (p:=fun y:Symbol=>decide (y.Name=s)) (r:=fun y=>(y,true)) (xs:=g.Symbols) (i:=0) (f:=q4J s) fun k y hy=>by
  have hg:q4x y=some y:=by
   unfold q4x; have:=h y hy; rw [q1n (by simp only [List.length_nil]; constructor<;>omega)]
  unfold q4J; rw [hg]; constructor<;>intro hp<;>simp_all
 have h2:=q5M (p:=fun y:Symbol=>decide (y.Name=s)) (r:=fun y=>(y,true)) (xs:=g.Symbols) (i:=0) (f:=q4M s) fun k y hy=>by
  unfold q4M; constructor<;>intro hp<;>simp_all
 unfold q1U q2U
 rw [h1,h2]
 cases hf:g.Symbols.find? (fun y:Symbol=>decide (y.Name=s)) with
 | none=>exact⟨_,_,rfl,rfl,by simp⟩
 | some y=>exact⟨_,_,rfl,rfl,h y (List.mem_of_find?_eq_some hf)⟩
theorem z8N {g:Grammar}(h:∀ y∈g.Symbols,y.Attributes.length≤1048576)(s:ByteArray):∃ l,q2y g s=some l∧q2h g s=some l∧l.length≤1048576:=by
 obtain⟨y,b,h1,h2,h3⟩:=j0q h s
 obtain⟨l,h4,h5⟩:=q7b (p:=z0B) (g:=fun _ x=>x) (B:=1048577) (f:=q2m) (fun k x s hs=>by
  have hg:((s.length:Int)+1)*40≤140737488355328∧(s.length:Int)+1≤9223372036854775807:=by constructor<;>omega
  unfold q2m z0B
  rw [q1n hg]
  by_cases m1:x.Mode=1
  ·rw [if_pos m1,if_pos (by simp [m1])]; rfl
  ·rw [if_neg m1]
   by_cases m2:x.Mode=2
   ·rw [if_pos m2,if_pos (by simp [m2])]; rfl
   ·rw [if_neg m2,if_neg (by simp [m1,m2])]; rfl) y.Attributes 0 [] (by simp; omega)
 simp only [List.nil_append] at h4
 refine⟨l,?_,?_,by omega⟩
 ·unfold q2y; rw [h1]; dsimp only [Option.bind_some]; rw [h4]; rfl
 ·unfold q2h; rw [h2]; dsimp only [Option.bind_some]; rw [z3q,h4]; rfl
theorem z8O (r:Rule)(k:Nat)(hk:k≤r.Right.length)(hl:r.Right.length≤1048576):∃ x,q1X r (k:Int)=some x:=by
 unfold q1X
 by_cases h0:(k:Int)=0
 ·exact⟨_,if_pos h0⟩
 ·rw [if_neg h0,q8G,Option.bind_some,if_pos (by simp; omega),q1n (by constructor<;>omega),q1n (by omega)]
  obtain⟨x,hx⟩:∃ x,r.Right[((k:Int) - 1).toNat]? = some x:=⟨_,List.getElem?_eq_getElem (by omega)⟩
  exact⟨x,by rw [hx]; rfl⟩
theorem j0r (k:Nat)(B:Nat)(hB:B≤4398046511104):∀ (l:List Attribute) (i:Nat) (s:List Occurrence),s.length+l.length≤B→∃ ys,eachL (q2q k) i l s=some (s++ys)∧ys.length≤l.length:=fun l i s h=>
 q7b (p:=fun _=>true) (g:=fun _ x=>(⟨(k:Int),x.Name⟩:Occurrence)) (B:=B) (f:=q2q k) (fun j x s hs=>by
  have hg:((s.length:Int)+1)*24≤140737488355328∧(s.length:Int)+1≤9223372036854775807:=by constructor<;>omega
  unfold q2q
  rw [q1n hg,if_pos rfl]) l i s h
theorem z7Q (k:Nat):q7z (k:Int)=q2q k:=rfl
theorem z7R {g:Grammar}{r:Rule}(h:∀ y∈g.Symbols,y.Attributes.length≤1048576)(hr:r.Right.length≤1048576):∃ l,q2F g r=some l∧q2k g r=some l∧l.length≤1099512676352:=by
 have key:∀ m k (s:List Occurrence),k+m=r.Right.length+1→s.length≤k*1048576→∃ l,eachN (q3r g r) k m s=some l∧q2t (q1Q g r) (s,(k:Int))=some l∧l.length≤(k+m)*1048576:=by
  intro m
  induction m with
  | zero=>
   intro k s hk hs
   refine⟨s,rfl,q1D ?_,by simpa using hs⟩
   unfold q1Q; dsimp only; rw [if_neg (by omega)]
  | succ m ih=>
   intro k s hk hs
   obtain⟨x,hx⟩:=z8O r k (by omega) hr
   obtain⟨p,hp1,hp2,hp3⟩:=z8N h x
   obtain⟨ys,hy1,hy2⟩:=j0r k 4398046511104 (by omega) p 0 s (by omega)
   obtain⟨l,h1,h2,h3⟩:=ih (k+1) (s++ys) (by omega) (by simp; omega)
   refine⟨l,?_,?_,by rw [show k+(m+1)=k+1+m by omega]; exact h3⟩
   ·have e:q3r g r k s=some (s++ys):=by
     unfold q3r; rw [z3p,hx,Option.bind_some,hp2,Option.bind_some,hy1]; rfl
    simp only [eachN,e,Option.bind_some]; exact h1
   ·have e:q1Q g r (s,(k:Int))=some (.inl (s++ys,((k+1:Nat):Int))):=by
     unfold q1Q; dsimp only
     rw [if_pos (by omega),hx,Option.bind_some,hp1,Option.bind_some,z7Q,hy1,Option.bind_some,q1n (by constructor<;>omega)]; rfl
    rw [q2c e]; exact h2
 obtain⟨l,h1,h2,h3⟩:=key (r.Right.length+1) 0 [] (by omega) (by simp)
 refine⟨l,?_,?_,by omega⟩
 ·unfold q2F
  have e:q2t (q1Q g r) (([]:List Occurrence),0)=some l:=h2
  rw [e]; rfl
 ·unfold q2k
  rw [q1n (by constructor<;>omega),h1]; rfl
theorem z4i {α:Type}[Sz α]{x:α}:∀ {l:List α},x∈l→Sz.szd x≤szL l
 | [],h=>by simp at h
 | y :: l,h=>by
  rcases List.mem_cons.1 h with rfl | h
  ·simp only [szL]; omega
  ·have:=z4i h; simp only [szL]; omega
theorem q6Q {g:Grammar}(h:Sz.szd g≤1048576):∀ y∈g.Symbols,y.Attributes.length≤1048576:=fun y hy=>by
 have h1:=z4i hy
 have h2:=z3f y
 have h3:=q7Q g
 have h4:=q3O y.Attributes
 omega
theorem q3N {r:Rule}(h:Sz.szd r≤1048576):r.Right.length≤1048576:=by
 have h1:=q9T r
 have h2:=q3O r.Right
 omega
end Go.Proofs.YtiojgbiimbefiacGreat
namespace Go.Proofs.YtiojgbiimbefiacGreat
open Go Go.E
theorem z2g (k:Nat):∀ (l:List Attribute) (i:Nat) (s:List Occurrence),s.length+l.length≤4398046511104→eachL (q2q k) i l s=some (s++l.map fun x=>(⟨(k:Int),x.Name⟩:Occurrence))
 | [],i,s,_=>by simp [eachL]
 | x :: l,i,s,h=>by
  simp only [List.length_cons] at h
  have hg:((s.length:Int)+1)*24≤140737488355328∧(s.length:Int)+1≤9223372036854775807:=by constructor<;>omega
  have e:q2q k i x s=some (s++[(⟨(k:Int),x.Name⟩:Occurrence)]):=by unfold q2q; rw [q1n hg]
  simp only [eachL,e,Option.bind_some]
  rw [z2g k l (i+1) _ (by simp; omega)]; simp
end Go.Proofs.YtiojgbiimbefiacGreat
namespace Go.Proofs.YtiojgbiimbefiacGreat
open Go Go.E
theorem j3y:∀ (n:Nat) (e q:Expr),q3w n e=some q→q3w (n+1) e=some q:=by
 intro n
 induction n with
 | zero=>intro e q h; cases h
 | succ n ih=>
  intro e q h
  have h' : q5k (q3w n) e=some q:=h
  show q5k (q3w (n+1)) e=some q
  unfold q5k at h' ⊢
  obtain⟨s,h1,h2⟩:=bd h'
  rw [z0z (g:=q6t (q3w (n+1))) (fun k x s q hq=>by
   unfold q6t at hq ⊢
   obtain⟨y,h3,h4⟩:=bd hq
   rw [ih _ _ h3,Option.bind_some]; exact h4) _ _ _ _ h1]
  exact h2
theorem z8P:∀ (m:Nat) (e:Expr),fuE e≤m→Sz.szd e≤1048576→q3w m e=some e:=by
 intro m
 induction m with
 | zero=>intro e h; rw [z0O] at h; omega
 | succ m ih=>
  intro e h hs
  rw [z0O] at h
  have hl:∀ (l:List Expr) (i:Nat) (s:List Expr),(∀ x∈l,fuE x≤m∧Sz.szd x≤1048576)→s.length+l.length≤4398046511→eachL (q6t (q3w m)) i l s=some (s++l):=by
   intro l
   induction l with
   | nil=>intro i s _ _; simp [eachL]
   | cons x l ihl=>
    intro i s hx hb
    simp only [List.length_cons] at hb
    have h1:=ih x (hx x (by simp)).1 (hx x (by simp)).2
    have e1:q6t (q3w m) i x s=some (s++[x]):=by
     unfold q6t; rw [h1,Option.bind_some,q1n (by constructor<;>omega)]
    simp only [eachL,e1,Option.bind_some]
    rw [ihl _ _ (fun y hy=>hx y (by simp [hy])) (by simp; omega)]; simp
  show q5k (q3w m) e=some e
  unfold q5k
  have h2:=q3k e
  have h3:=q3O e.Args
  rw [hl e.Args 0 [] (fun x hx=>⟨by have:=z3Y hx; omega,by have:=j4o hx; omega⟩) (by simp; omega),List.nil_append,Option.bind_some]
  cases e; rfl
theorem j3z {e:Expr}(h:Sz.szd e≤1048576):q9O e=some e:=j0e (fun n q=>j3y n e q) (z8P _ e (Nat.le_refl _) h)
theorem z8Q:q9j=q9O:=by
 have h:∀ n,q5E n=q3w n:=by
  intro n
  induction n with
  | zero=>rfl
  | succ n ih=>funext e; show q7P (q5E n) e=q5k (q3w n) e; rw [ih]; rfl
 funext e
 show recO (fun n=>q5E n e)=recO fun n=>q3w n e
 congr 1; funext n; rw [h]
def z6P:Expr:=⟨0,0,0,0,⟨#[]⟩,⟨#[]⟩,[]⟩
def eqAt (r:Rule)(o:Occurrence):Expr × Bool:=match r.Equations.find? fun q=>decide (q.At=o) with
 | some q=>(q.Expr,true)
 | none=>(z6P,false)
theorem z2h {r:Rule}{q:Equation}(h:q∈r.Equations):Sz.szd q.Expr≤Sz.szd r:=by
 have h1:=q9T r
 have h2:=z0M q
 have h3:=q9Y h
 have h4:=q3k q.Expr
 omega
theorem z6Q {r:Rule}(h:Sz.szd r≤1048576)(o:Occurrence):Sz.szd (eqAt r o).1≤1048576:=by
 unfold eqAt
 cases hf:r.Equations.find? (fun q=>decide (q.At=o)) with
 | none=>show Sz.szd z6P≤_; have:Sz.szd z6P=0:=rfl; omega
 | some q=>have:=z2h (List.mem_of_find?_eq_some hf); show Sz.szd q.Expr≤_; omega
theorem z4j {r:Rule}(h:Sz.szd r≤1048576)(o:Occurrence):q2a r o=some (eqAt r o):=by
 have key:∀ (l:List Equation) (i:Nat),(∀ q∈l,Sz.szd q.Expr≤1048576)→findL (q3E o) i l ()=some (match l.find? fun q=>decide (q.At=o) with
   | some q=>.inr (q.Expr,true)
   | none=>.inl ()):=by
  intro l
  induction l with
  | nil=>intro i _; rfl
  | cons q l ih=>
   intro i hq
   by_cases hp:q.At=o
   ·simp [findL,q3E,hp,j3z (hq q (by simp))]
   ·simp [findL,q3E,hp]
    exact ih _ fun y hy=>hq y (by simp [hy])
 unfold q2a eqAt
 rw [key _ _ fun q hq=>by have:=z2h hq; omega]
 cases r.Equations.find? (fun q=>decide (q.At=o))<;>rfl
theorem z6R {r:Rule}(h:Sz.szd r≤1048576)(o:Occurrence):q2a r o=some (eqAt r o)∧q3S r o=some (eqAt r o):=by
 have e:q3S=q2a:=by
  have e1:q6c=q3E:=by funext a k x u; unfold q6c q3E; rw [z8Q]
  funext r o; unfold q3S q2a; rw [e1]
 rw [e]
 exact⟨z4j h o,z4j h o⟩
theorem z8R:q2z=q1V:=by
 funext l o
 unfold q2z q1V q1v
 have e:q4h o=q1x o:=by
  funext k x u
  unfold q4h q1x
  by_cases h:x=o
  ·rw [if_pos h,if_pos h.symm]
  ·rw [if_neg h,if_neg fun e=>h e.symm]
 rw [e]
 cases ((findL (q1x o) 0 l ()).bind <| onr (fun r1=>some r1) fun _=>some (-1))<;>rfl
theorem z8S (l:List Occurrence)(o:Occurrence):∃ k,q1V l o=some k:=by
 have h:q1v l o=some (ixF l o):=by
  unfold q1v
  refine z5s fun k x=>⟨fun e=>?_,fun e=>?_⟩
  ·unfold q1x; rw [if_pos e.symm]
  ·unfold q1x; rw [if_neg (fun h=>e h.symm)]
 exact⟨_,by unfold q1V; rw [h]; rfl⟩
theorem j4P {r x:Relation}{i k:Int}(h:q3U r i k=some x):x.N=r.N:=by
 unfold q3U at h
 obtain⟨y,h1,h⟩:=bd h
 have hy:y=r:=by unfold q4X at h1; obtain⟨_,h1⟩:=q7J h1; exact (Option.some.inj h1).symm
 subst hy
 obtain⟨y2,_,h⟩:=bd h
 obtain⟨s1,_,h⟩:=bd h
 obtain⟨s2,_,h⟩:=bd h
 by_cases hs:s2=true
 ·rw [if_pos hs] at h
  obtain⟨_,h⟩:=q7J h
  obtain⟨_,_,h⟩:=bd h
  obtain⟨_,h⟩:=q7J h
  obtain⟨_,h⟩:=q7J h
  obtain⟨_,h⟩:=q7J h
  cases h; rfl
 ·rw [if_neg hs] at h
  cases h; rfl
theorem j1P (l:List Occurrence)(k:Nat):∀ (us:List Occurrence) (i:Nat) (rows:List Int) (n:Int),rows.length≤1048576 →
  ∃ rows',eachL (q2N l k) i us (rows,n)=some (rows',n)∧eachL (q3V l (k:Int)) i us (rows,n)=some (rows',n)∧rows'.length=rows.length:=by
 intro us
 induction us with
 | nil=>intro i rows n _; exact⟨rows,rfl,rfl,rfl⟩
 | cons u us ih=>
  intro i rows n h
  obtain⟨j,hj⟩:=z8S l u
  obtain⟨x,hx,hxl⟩:=j1M (r:=⟨n,rows⟩) h j (k:Int)
  have hN:=j4P hx
  obtain⟨rows',h1,h2,h3⟩:=ih (i+1) x.Rows n (by rw [hxl]; exact h)
  have e1:q2N l k i u (rows,n)=some (x.Rows,n):=by
   unfold q2N
   dsimp only
   rw [hj,Option.bind_some,z7N,hx,Option.bind_some,hN]
  have e2:q3V l (k:Int) i u (rows,n)=some (x.Rows,n):=by
   unfold q3V
   dsimp only
   rw [z8R,hj,Option.bind_some,hx,Option.bind_some,hN]
  exact⟨rows',by simp only [eachL,e1,Option.bind_some]; exact h1,by simp only [eachL,e2,Option.bind_some]; exact h2,h3.trans hxl⟩
theorem z8T:q7D z6P=[]:=by
 have:q7U z6P=[]:=by simp [z6P,q7U,q5w]
 unfold q7D z5b
 rw [this]; simp [q1P]
theorem j0s {r:Rule}(hr:Sz.szd r≤1048576)(l:List Occurrence)(hl:l.length≤16):∀ (m k:Nat) (rows:List Int) (n:Int),k+m=l.length→0 < n→rows.length≤1048576 →
  ∃ rows',eachL (q2O r l) k (l.drop k) (rows,n)=some (rows',n)∧q2t (q1R r l) ((k:Int),rows,n)=some (rows',n)∧rows'.length=rows.length:=by
 intro m
 induction m with
 | zero=>
  intro k rows n hk hn h
  refine⟨rows,by rw [List.drop_eq_nil_of_le (by omega)]; rfl,q1D ?_,rfl⟩
  unfold q1R
  dsimp only
  rw [if_neg (by omega)]
 | succ m ih=>
  intro k rows n hk hn h
  obtain⟨x,hx⟩:∃ x,l[k]? = some x:=⟨_,List.getElem?_eq_getElem (by omega)⟩
  have hd:l.drop k=x :: l.drop (k+1):=by
   rw [List.drop_eq_getElem_cons (by omega)]
   have:l[k]=x:=by rw [List.getElem?_eq_getElem (by omega)] at hx; exact Option.some.inj hx
   rw [this]
  obtain⟨E,B,hq⟩:∃ E B,eqAt r x=(E,B):=⟨_,_,rfl⟩
  obtain⟨rows1,h1,h2,h3⟩:=j1P l k (q7D E) 0 rows n h
  obtain⟨rows',k1,k2,k3⟩:=ih (k+1) rows1 n (by omega) hn (by omega)
  have hsz:=z6Q hr x
  have hf:=z6R hr x
  rw [hq] at hsz hf
  have e1:q2O r l k x (rows,n)=some (rows1,n):=by
   unfold q2O
   dsimp only
   rw [hf.2,Option.bind_some]
   dsimp only
   rw [z3Z hsz,Option.bind_some,h1]; rfl
  have hin:(grd (0≤(k:Int)) <| (l[(k:Int).toNat]?).bind fun x1=>(q2a r x1).bind fun (y3,y4)=>if y4=true then ((q2G y3).bind fun y5=>(eachL (q3V l (k:Int)) 0 y5 (rows,n)).bind fun (s8,s9)=>some (s8,s9)) else some (rows,n))=some (rows1,n):=by
   rw [q1n (by omega),Int.toNat_natCast,hx,Option.bind_some,hf.1,Option.bind_some]
   dsimp only
   cases hb:B with
   | true=>rw [if_pos rfl,z4e hsz,Option.bind_some,h2,Option.bind_some]
   | false=>
    have hz:E=z6P:=by
     unfold eqAt at hq
     cases hf:r.Equations.find? (fun q=>decide (q.At=x)) with
     | none=>rw [hf] at hq; cases hq; rfl
     | some q=>rw [hf] at hq; cases hq; cases hb
    rw [hz,z8T] at h1
    simp only [eachL,Option.some.injEq,Prod.mk.injEq] at h1
    rw [if_neg (by simp),h1.1]
  have e2:q1R r l ((k:Int),rows,n)=some (.inl (((k+1:Nat):Int),rows1,n)):=by
   unfold q1R
   dsimp only
   rw [if_pos (by omega),if_pos hn,hin,Option.bind_some]
   dsimp only
   rw [q1n (by constructor<;>omega)]; rfl
  exact⟨rows',by rw [hd]; simp only [eachL,e1,Option.bind_some]; exact k1,by rw [q2c e2]; exact k2,k3.trans h3⟩
theorem z8U {g:Grammar}{r:Rule}(h:Sz.szd g≤1048576)(hr:Sz.szd r≤1048576):∃ x,q3c g r=some x∧q2E g r=some x∧x.Rows.length≤16:=by
 obtain⟨l,h1,h2,_⟩:=z7R (q6Q h) (q3N hr)
 have hem:∀ n:Nat,q2l (n:Int)=if n≤16 then some ⟨(n:Int),List.replicate n 0⟩ else some ⟨0,[]⟩:=fun n=>by
  unfold q2l
  rw [q4S,Option.bind_some]
  by_cases hn:n≤16
  ·rw [if_pos (by simp; omega),q1n (by omega),if_pos hn]; rfl
  ·rw [if_neg (by simp; omega),if_neg hn]
 unfold q3c q2E
 rw [h1,h2,Option.bind_some,Option.bind_some,z3o,hem]
 by_cases hl:l.length≤16
 ·rw [if_pos hl,Option.bind_some,Option.bind_some,if_neg (by omega)]
  dsimp only
  by_cases h0:l.length=0
  ·have:l=[]:=List.eq_nil_of_length_eq_zero h0
   subst this
   have e:q2t (q1R r ([]:List Occurrence)) (0,List.replicate ([]:List Occurrence).length 0,((([]:List Occurrence).length:Nat):Int))=some (List.replicate ([]:List Occurrence).length 0,((([]:List Occurrence).length:Nat):Int)):=q1D (by unfold q1R; dsimp only; rw [if_neg (by simp)])
   rw [e]
   exact⟨_,rfl,rfl,by simp⟩
  ·obtain⟨rows',k1,k2,k3⟩:=j0s hr l hl l.length 0 (List.replicate l.length 0) (l.length:Int) (by omega) (by omega) (by simp; omega)
   have k2' : q2t (q1R r l) (0,List.replicate l.length 0,(l.length:Int))=some (rows',(l.length:Int)):=k2
   rw [List.drop_zero] at k1
   rw [k1,k2']
   exact⟨_,rfl,rfl,by show rows'.length≤16; simp at k3; omega⟩
 ·rw [if_neg hl,Option.bind_some,Option.bind_some,if_pos (by omega)]
  have e:q2t (q1R r l) (0,([]:List Int),(0:Int))=some ([],0):=q1D (by unfold q1R; dsimp only; rw [if_pos (by omega),if_neg (by omega)])
  rw [e]
  exact⟨_,rfl,rfl,by simp⟩
end Go.Proofs.YtiojgbiimbefiacGreat
namespace Go.Proofs.YtiojgbiimbefiacGreat
open Go Go.E
theorem q7F {α β:Type}{p:α→Bool}{g:α→β}{B:Nat}{f:Nat→α→List β→Option (List β)}(hf:∀ k x s,s.length < B→f k x s=some (if p x=true then s++[g x] else s)):∀ (xs:List α) (i:Nat) (s:List β),s.length+xs.length≤B →
  eachL f i xs s=some (s++(xs.filter p).map g)
 | [],i,s,_=>by simp [eachL]
 | x :: xs,i,s,h=>by
  simp only [List.length_cons] at h
  by_cases hp:p x=true
  ·have ih:=q7F hf xs (i+1) (s++[g x]) (by simp; omega)
   simp [eachL,hf i x s (by omega),hp,ih]
  ·have ih:=q7F hf xs (i+1) s (by omega)
   simp [eachL,hf i x s (by omega),hp,ih]
theorem z2i {α β:Type}{p:α→Bool}{g:Nat→β}{B:Nat}{f:Nat→α→List β→Option (List β)}(hf:∀ k x s,s.length < B→f k x s=some (if p x=true then s++[g k] else s)):∀ (xs:List α) (i:Nat) (s:List β),s.length+xs.length≤B →
  eachL f i xs s=some (s++((xs.zipIdx i).filter fun q=>p q.1).map fun q=>g q.2)
 | [],i,s,_=>by simp [eachL]
 | x :: xs,i,s,h=>by
  simp only [List.length_cons] at h
  by_cases hp:p x=true
  ·have ih:=z2i hf xs (i+1) (s++[g i]) (by simp; omega)
   simp [eachL,hf i x s (by omega),hp,ih,List.zipIdx_cons]
  ·have ih:=z2i hf xs (i+1) s (by omega)
   simp [eachL,hf i x s (by omega),hp,ih,List.zipIdx_cons]
theorem z0C {β:Type}{h:Nat→List β}{C n:Nat}{f:Nat→List β→Option (List β)}(hf:∀ k s,k < n→s.length≤k*C→f k s=some (s++h k))(hh:∀ k,k < n→(h k).length≤C) :
  ∀ (m k:Nat) (s:List β),k+m=n→s.length≤k*C→eachN f k m s=some (s++(List.range' k m).flatMap h)
 | 0,k,s,_,_=>by simp [eachN]
 | m+1,k,s,hk,hs=>by
  have hl:=hh k (by omega)
  have e:(k+1)*C=k*C+C:=Nat.succ_mul k C
  have ih:=z0C hf hh m (k+1) (s++h k) (by omega) (by rw [List.length_append]; omega)
  simp [eachN,hf k s (by omega) hs,ih,List.range'_succ]
theorem z2j {β:Type}{h:Nat→List β}{C n:Nat}{f:(List β × Int)→Option ((List β × Int) ⊕ List β)}(hf:∀ (k:Nat) s,k < n→s.length≤k*C→f (s,(k:Int))=some (.inl (s++h k,((k+1:Nat):Int))))(he:∀ s,f (s,(n:Int))=some (.inr s))(hh:∀ k,k < n→(h k).length≤C) :
  ∀ (m k:Nat) (s:List β),k+m=n→s.length≤k*C→q2t f (s,(k:Int))=some (s++(List.range' k m).flatMap h)
 | 0,k,s,hk,_=>by
  obtain rfl:k=n:=by omega
  rw [q1D (he s)]; simp
 | m+1,k,s,hk,hs=>by
  have hl:=hh k (by omega)
  have e:(k+1)*C=k*C+C:=Nat.succ_mul k C
  have ih:=z2j hf he hh m (k+1) (s++h k) (by omega) (by rw [List.length_append]; omega)
  rw [q2c (hf k s (by omega) hs),ih]; simp [List.range'_succ]
abbrev GOk (g:Grammar):Prop:=∀ y∈g.Symbols,y.Attributes.length≤1048576
def zS:Symbol:=⟨⟨#[]⟩,[]⟩
def zA:Attribute:=⟨⟨#[]⟩,0,0,false⟩
def q3X (g:Grammar)(s:ByteArray):Symbol × Bool:=match g.Symbols.find? fun y=>decide (y.Name=s) with
 | some y=>(y,true)
 | none=>(zS,false)
def q6q (y:Symbol)(s:ByteArray):Attribute × Bool:=match y.Attributes.find? fun a=>decide (a.Name=s) with
 | some a=>(a,true)
 | none=>(zA,false)
theorem q6b {g:Grammar}(h:GOk g)(s:ByteArray):q1U g s=some (q3X g s):=by
 have h1:=q5M (p:=fun y:Symbol=>decide (y.Name=s)) (r:=fun y=>(y,true)) (xs:=g.Symbols) (i:=0) (f:=q4J s) fun k y hy=>by
  have hg:q4x y=some y:=by
   unfold q4x; have:=h y hy; rw [q1n (by simp only [List.length_nil]; constructor<;>omega)]
  unfold q4J; rw [hg]; constructor<;>intro hp<;>simp_all
 unfold q1U q3X
 rw [h1]
 cases hf:g.Symbols.find? (fun y:Symbol=>decide (y.Name=s)) with
 | none=>rfl
 | some y=>rfl
theorem q8H (g:Grammar)(s:ByteArray):q2U g s=some (q3X g s):=by
 have h2:=q5M (p:=fun y:Symbol=>decide (y.Name=s)) (r:=fun y=>(y,true)) (xs:=g.Symbols) (i:=0) (f:=q4M s) fun k y hy=>by
  unfold q4M; constructor<;>intro hp<;>simp_all
 unfold q2U q3X
 rw [h2]
 cases hf:g.Symbols.find? (fun y:Symbol=>decide (y.Name=s)) with
 | none=>rfl
 | some y=>rfl
theorem q6R {g:Grammar}(h:GOk g)(s:ByteArray):(q3X g s).1.Attributes.length≤1048576:=by
 unfold q3X
 cases hf:g.Symbols.find? (fun y:Symbol=>decide (y.Name=s)) with
 | none=>simp [zS]
 | some y=>exact h y (List.mem_of_find?_eq_some hf)
theorem z5C (y:Symbol)(s:ByteArray):q6g y s=some (q6q y s):=by
 have h2:=q5M (p:=fun y:Attribute=>decide (y.Name=s)) (r:=fun y=>(y,true)) (xs:=y.Attributes) (i:=0) (f:=q5K s) fun k y hy=>by
  unfold q5K; constructor<;>intro hp<;>simp_all
 unfold q6g q6q
 rw [h2]
 cases hf:y.Attributes.find? (fun y:Attribute=>decide (y.Name=s)) with
 | none=>rfl
 | some y=>rfl
theorem z2k (y:Symbol)(s:ByteArray):q2j y s=some (q6q y s):=z5C y s
def q3Y (r:Rule)(k:Int):ByteArray:=if k=0 then r.Left else if 1≤k∧k≤(r.Right.length:Int) then r.Right.getD (k - 1).toNat ⟨#[]⟩ else ⟨#[]⟩
abbrev ROk (r:Rule):Prop:=r.Right.length≤1048576
theorem q7l {r:Rule}(hl:ROk r)(k:Int):q1X r k=some (q3Y r k):=by
 unfold q1X q3Y
 by_cases h0:k=0
 ·rw [if_pos h0,if_pos h0]
 ·rw [if_neg h0,if_neg h0,q8G,Option.bind_some]
  by_cases h1:1≤k∧k≤(r.Right.length:Int)
  ·rw [if_pos (by simpa using h1),if_pos h1,q1n (by constructor<;>omega),q1n (by omega)]
   have:(k - 1).toNat < r.Right.length:=by omega
   rw [List.getElem?_eq_getElem this,List.getD_eq_getElem?_getD,List.getElem?_eq_getElem this]; rfl
  ·rw [if_neg (by simpa using h1),if_neg h1]
theorem z2l {r:Rule}(hl:ROk r)(k:Int):q4g r k=some (q3Y r k):=by rw [z3p,q7l hl]
def q6i (g:Grammar)(r:Rule)(o:Occurrence):Attribute × Bool:=if 0≤o.Pos∧o.Pos≤(r.Right.length:Int) then q6q (q3X g (q3Y r o.Pos)).1 o.Name else (zA,false)
theorem z8V (g:Grammar){r:Rule}(hl:ROk r)(o:Occurrence):q7k g r o=some (q6i g r o):=by
 unfold q7k q6i
 rw [j2F,Option.bind_some]
 by_cases h0:0≤o.Pos∧o.Pos≤(r.Right.length:Int)
 ·rw [if_pos (by simpa using h0),if_pos h0,z2l hl,Option.bind_some,q8H,Option.bind_some]
  dsimp only
  rw [z5C]; rfl
 ·rw [if_neg (by simpa using h0),if_neg h0]; rfl
def mayB (g:Grammar)(r:Rule)(o:Occurrence):Bool:=(q6i g r o).2&&decide ((q6i g r o).1.Mode=if o.Pos=0 then 1 else 2)
theorem j3A (g:Grammar){r:Rule}(hl:ROk r)(o:Occurrence):z2b g r o=some (mayB g r o):=by
 unfold z2b mayB
 rw [z8V g hl,Option.bind_some]
 dsimp only
 by_cases h0:o.Pos=0
 ·rw [if_pos h0,if_pos h0]
  by_cases h1:(q6i g r o).2=true
  ·rw [if_pos h1,h1]; rfl
  ·rw [if_neg h1,Bool.eq_false_iff.2 h1]; rfl
 ·rw [if_neg h0,if_neg h0]
  by_cases h1:(q6i g r o).2=true
  ·rw [if_pos h1,h1]; rfl
  ·rw [if_neg h1,Bool.eq_false_iff.2 h1]; rfl
theorem j3B {g:Grammar}(h:GOk g){r:Rule}(hl:ROk r)(o:Occurrence):q8w g r o=some (mayB g r o):=by
 unfold q8w mayB q6i
 rw [q8G,Option.bind_some]
 by_cases hp:0≤o.Pos∧o.Pos≤(r.Right.length:Int)
 ·rw [if_pos (by simpa using hp),if_pos hp,q7l hl,Option.bind_some,q6b h,Option.bind_some]
  dsimp only
  rw [z2k,Option.bind_some]
  skip
  by_cases h0:o.Pos=0
  ·rw [if_pos h0,if_pos h0]
   by_cases h1:(q6q (q3X g (q3Y r o.Pos)).1 o.Name).2=true
   ·rw [if_pos h1,h1]; rfl
   ·rw [if_neg h1,Bool.eq_false_iff.2 h1]; rfl
  ·rw [if_neg h0,if_neg h0]
   by_cases h1:(q6q (q3X g (q3Y r o.Pos)).1 o.Name).2=true
   ·rw [if_pos h1,h1]; rfl
   ·rw [if_neg h1,Bool.eq_false_iff.2 h1]; rfl
 ·rw [if_neg (by simpa using hp),if_neg hp]; rfl
def reqK (g:Grammar)(r:Rule)(k:Nat):List Occurrence:=((q3X g (q3Y r (k:Int))).1.Attributes.filter fun a=>decide (a.Mode=if (k:Int)=0 then 2 else 1)).map fun a=>(⟨(k:Int),a.Name⟩:Occurrence)
def reqL (g:Grammar)(r:Rule):List Occurrence:=(List.range' 0 (r.Right.length+1)).flatMap (reqK g r)
theorem z7S {g:Grammar}(h:GOk g)(r:Rule)(k:Nat):(reqK g r k).length≤1048576:=by
 unfold reqK; rw [List.length_map]
 exact Nat.le_trans (List.length_filter_le _ _) (q6R h _)
theorem j0t {g:Grammar}(h:GOk g){r:Rule}(hl:ROk r):q7R g r=some (reqL g r):=by
 have hl' : r.Right.length≤1048576:=hl
 have key:=z0C (h:=reqK g r) (C:=1048576) (n:=r.Right.length+1) (f:=q8z g r) (fun k s hk hs=>by
  have hin:∀ m:Int,eachL (q8y k m) 0 (q3X g (q3Y r (k:Int))).1.Attributes s=some (s++((q3X g (q3Y r (k:Int))).1.Attributes.filter fun a=>decide (a.Mode=m)).map fun a=>(⟨(k:Int),a.Name⟩:Occurrence)):=fun m=>
   q7F (B:=4398046511104) (fun j x s hs=>by
    unfold q8y
    by_cases hm:x.Mode=m
    ·rw [if_pos hm,if_pos (by simpa using hm),q1n (by constructor<;>omega)]; rfl
    ·rw [if_neg hm,if_neg (by simpa using hm)]; rfl) _ 0 s (by have:=q6R h (q3Y r (k:Int)); omega)
  unfold q8z reqK
  by_cases h0:(k:Int)=0
  ·rw [if_pos h0,if_pos h0,Option.bind_some,z2l hl,Option.bind_some,q8H,Option.bind_some]
   dsimp only
   rw [hin]; rfl
  ·rw [if_neg h0,if_neg h0,Option.bind_some,z2l hl,Option.bind_some,q8H,Option.bind_some]
   dsimp only
   rw [hin]; rfl) (fun k _=>z7S h r k) (r.Right.length+1) 0 [] (by omega) (by simp)
 unfold q7R
 rw [q1n (by constructor<;>omega),key]; rfl
theorem z6S {g:Grammar}(h:GOk g){r:Rule}(hl:ROk r):q1T g r=some (reqL g r):=by
 have hl' : r.Right.length≤1048576:=hl
 have key:=z2j (h:=reqK g r) (C:=1048576) (n:=r.Right.length+1) (f:=q2x g r) (fun k s hk hs=>by
  have hin2:eachL (q4d (k:Int)) 0 (q3X g (q3Y r (k:Int))).1.Attributes s=some (s++((q3X g (q3Y r (k:Int))).1.Attributes.filter fun a=>decide (a.Mode=2)).map fun a=>(⟨(k:Int),a.Name⟩:Occurrence)):=
   q7F (B:=4398046511104) (fun j x s hs=>by
    unfold q4d
    by_cases hm:x.Mode=2
    ·rw [if_pos hm,if_pos (by simpa using hm),q1n (by constructor<;>omega)]; rfl
    ·rw [if_neg hm,if_neg (by simpa using hm)]; rfl) _ 0 s (by have:=q6R h (q3Y r (k:Int)); omega)
  have hin1:eachL (q4e (k:Int)) 0 (q3X g (q3Y r (k:Int))).1.Attributes s=some (s++((q3X g (q3Y r (k:Int))).1.Attributes.filter fun a=>decide (a.Mode=1)).map fun a=>(⟨(k:Int),a.Name⟩:Occurrence)):=
   q7F (B:=4398046511104) (fun j x s hs=>by
    unfold q4e
    by_cases hm:x.Mode=1
    ·rw [if_pos hm,if_pos (by simpa using hm),q1n (by constructor<;>omega)]; rfl
    ·rw [if_neg hm,if_neg (by simpa using hm)]; rfl) _ 0 s (by have:=q6R h (q3Y r (k:Int)); omega)
  unfold q2x reqK
  dsimp only
  rw [if_pos (by omega),q7l hl,Option.bind_some,q6b h,Option.bind_some]
  skip
  by_cases h0:(k:Int)=0
  ·rw [if_pos h0,if_pos h0,hin2,Option.bind_some,Option.bind_some,q1n (by constructor<;>omega)]; rfl
  ·rw [if_neg h0,if_neg h0,hin1,Option.bind_some,Option.bind_some,q1n (by constructor<;>omega)]; rfl) (fun s=>by
  unfold q2x; dsimp only; rw [if_neg (by omega)]) (fun k _=>z7S h r k) (r.Right.length+1) 0 [] (by omega) (by simp)
 unfold q1T
 have e:q2t (q2x g r) (([]:List Occurrence),0)=some ([]++(List.range' 0 (r.Right.length+1)).flatMap (reqK g r)):=key
 rw [e]; rfl
end Go.Proofs.YtiojgbiimbefiacGreat
namespace Go.Proofs.YtiojgbiimbefiacGreat
open Go Go.E
theorem q4Z {α:Type}{q:α→Bool}{xs:List α}{f:Nat→α→Unit→Option (Unit ⊕ Int)}(h:∀ k x,x∈xs→f k x ()=some (if q x=true then .inr (k:Int) else .inl ())) :
  ((findL f 0 xs ()).bind <| onr (fun r1=>some r1) fun _=>some (-1)).bind (fun y1=>some (decide (0≤y1)))=some (xs.any q):=by
 rw [z5u h]
 cases hq:xs.any q with
 | true=>
  have:(0:Int)≤((0+xs.findIdx q:Nat):Int):=Int.natCast_nonneg _
  rw [if_pos rfl,Option.bind_some,z5T,Option.bind_some,decide_eq_true this]
 | false=>rfl
def q2e {α:Type}(bad:List α→α→Bool):List α→List α→Option Nat
 | _,[]=>none
 | pre,x :: xs=>if bad pre x=true then some pre.length else q2e bad (pre++[x]) xs
theorem q7G {α β ρ:Type}{bad:List α→α→Bool}{nm:α→β}{c:Nat→ρ}{all:List α}{f:Nat→α→Unit→Option (Unit ⊕ ρ)}{h:Nat→α→List β→Option (List β ⊕ ρ)}
  (hf:∀ pre x post,all=pre++x :: post→f pre.length x ()=some (if bad pre x=true then .inr (c pre.length) else .inl ()))
  (hh:∀ pre x post,all=pre++x :: post→h pre.length x (pre.map nm)=some (if bad pre x=true then .inr (c pre.length) else .inl ((pre++[x]).map nm))) :
  ∀ (ys pre:List α),all=pre++ys→findL f pre.length ys ()=some (match q2e bad pre ys with | none=>.inl () | some k=>.inr (c k)) ∧
   findL h pre.length ys (pre.map nm)=some (match q2e bad pre ys with | none=>.inl (all.map nm) | some k=>.inr (c k))
 | [],pre,e=>by
  rw [List.append_nil] at e
  subst e; exact⟨rfl,rfl⟩
 | x :: ys,pre,e=>by
  have h1:=hf pre x ys e
  have h2:=hh pre x ys e
  by_cases hb:bad pre x=true
  ·rw [if_pos hb] at h1 h2
   simp only [findL,h1,h2,q2e,hb,if_true,Option.bind_some]
   exact⟨trivial,trivial⟩
  ·rw [if_neg hb] at h1 h2
   have ih:=q7G hf hh ys (pre++[x]) (by rw [e]; simp)
   simp only [List.length_append,List.length_cons,List.length_nil,Nat.zero_add] at ih
   simp only [findL,h1,h2,q2e,hb,Option.bind_some]
   exact ih
def dupB {α:Type}(nm:α→ByteArray)(pre:List α)(x:α):Bool:=pre.any fun o=>decide (nm o=nm x)
def z8W {α:Type}(nm:α→ByteArray)(xs:List α):Bool:=(q2e (dupB nm) [] xs).isNone
theorem z5D {α:Type}{nm:α→ByteArray}:∀ (xs pre:List α),(q2e (dupB id) (pre.map nm) (xs.map nm))=q2e (dupB nm) pre xs
 | [],pre=>rfl
 | x :: xs,pre=>by
  have ih:=z5D (nm:=nm) xs (pre++[x])
  have e:dupB id (pre.map nm) (nm x)=dupB nm pre x:=by simp [dupB,List.any_map,Function.comp_def]
  rw [List.map_cons,q2e,q2e,e,List.length_map]
  rw [List.map_append] at ih
  rw [show [nm x]=[x].map nm from rfl,ih]
theorem z5E {α ρ:Type}{bad:List α→α→Bool}{c:Nat→ρ}{all:List α}{f:Nat→α→Unit→Option (Unit ⊕ ρ)}
  (hf:∀ pre x post,all=pre++x :: post→f pre.length x ()=some (if bad pre x=true then .inr (c pre.length) else .inl ())) :
  ∀ (ys pre:List α),all=pre++ys→findL f pre.length ys ()=some (match q2e bad pre ys with | none=>.inl () | some k=>.inr (c k)):=fun ys pre e=>
 (q7G (nm:=fun _=>()) (h:=fun k x s=>(f k x ()).map fun | .inl _=>.inl (s++[()]) | .inr r=>.inr r) hf (fun pre x post e=>by
  rw [hf pre x post e]
  by_cases hb:bad pre x=true
  ·rw [if_pos hb,if_pos hb]; rfl
  ·rw [if_neg hb,if_neg hb]; simp) ys pre e).1
theorem j0u (l:List ByteArray)(s:ByteArray):q5Q l s=some (l.any fun o=>decide (o=s)):=by
 unfold q5Q
 rw [q2D (c:=true) (q:=fun o=>!decide (o=s)) fun k x hx=>by
  unfold q9J
  by_cases h:x=s
  ·rw [if_pos h,if_neg (by simp [h])]
  ·rw [if_neg h,if_pos (by simp [h])]]
 have e:(l.all fun o=>!decide (o=s))=!(l.any fun o=>decide (o=s)):=by rw [List.not_any_eq_all_not]
 rw [e]
 cases l.any fun o=>decide (o=s)<;>rfl
theorem z8X (l:List ByteArray):q4N l=some (z8W id l):=by
 unfold q4N z8W
 rw [show findL (q5l l) 0 l ()=_ from z5E (bad:=dupB id) (c:=fun _=>false) (all:=l) (f:=q5l l) (fun pre x post e=>by
  unfold q5l
  rw [q1n (by rw [e]; simp),show l.take pre.length=pre by rw [e]; simp,j0u,Option.bind_some,← apply_ite some]; rfl) l [] rfl]
 cases q2e (dupB id) [] l<;>rfl
def z2m (a:Attribute):Bool:=q6o a.Name&&(decide (1≤a.Type_∧a.Type_≤4)&&(decide (1≤a.Mode∧a.Mode≤3)&&if a.Mode=3 then decide (a.Type_=2) && !a.Circular else !a.Circular||decide (a.Type_=2)))
theorem j0v (a:Attribute):q3x a=some (z2m a):=by
 unfold q3x z2m
 rw [q5x,Option.bind_some]
 cases q6o a.Name with
 | false=>rfl
 | true=>
  rw [if_pos rfl,q8G,Option.bind_some,Option.bind_some]
  by_cases h1:1≤a.Type_∧a.Type_≤4
  ·rw [decide_eq_true h1,Bool.not_true,if_neg (by simp),q8G,Option.bind_some,Option.bind_some]
   by_cases h2:1≤a.Mode∧a.Mode≤3
   ·rw [decide_eq_true h2,Bool.not_true,if_neg (by simp)]
    by_cases h3:a.Mode=3
    ·rw [if_pos h3,if_pos h3]
     by_cases h4:a.Type_=2
     ·rw [if_pos h4,decide_eq_true h4]
      cases hc:a.Circular with
      | true=>rfl
      | false=>rfl
     ·rw [if_neg h4,decide_eq_false h4]; rfl
    ·rw [if_neg h3,if_neg h3]
     cases hc:a.Circular with
     | true=>simp
     | false=>simp
   ·rw [decide_eq_false h2]; rfl
  ·rw [decide_eq_false h1]; rfl
def symB (s:Symbol):Bool:=s.Attributes.all z2m&&(q6o s.Name&&(decide (s.Attributes.length≤4)&&z8W (fun a:Attribute=>a.Name) s.Attributes))
theorem j1Q {s:Symbol}(h:s.Attributes.length≤1048576):q4n s=some (symB s):=by
 unfold q4n symB
 have hloop:∀ (ys:List Attribute) (i:Nat) (t:List ByteArray),t.length+ys.length≤1048576→findL q4F i ys t=some (if ys.all z2m=true then .inl (t++ys.map fun a=>a.Name) else .inr false):=by
  intro ys
  induction ys with
  | nil=>intro i t _; simp [findL]
  | cons y ys ih=>
   intro i t ht
   simp only [List.length_cons] at ht
   simp only [findL]
   have e:q4F i y t=some (if z2m y=true then .inl (t++[y.Name]) else .inr false):=by
    unfold q4F
    rw [j0v,Option.bind_some]
    cases z2m y with
    | false=>rfl
    | true=>rw [if_pos rfl,if_pos rfl,q1n (by constructor<;>omega)]
   rw [e,Option.bind_some]
   by_cases hy:z2m y=true
   ·rw [if_pos hy,show (y :: ys).all z2m=ys.all z2m by simp [hy]]
    dsimp only
    rw [ih _ _ (by simp; omega)]
    simp
   ·rw [if_neg hy,show (y :: ys).all z2m=false by simp [hy]]; rfl
 rw [hloop _ _ _ (by simpa using h)]
 cases hA:s.Attributes.all z2m with
 | false=>rfl
 | true=>
  rw [if_pos rfl,Option.bind_some,q8c,List.nil_append,q5x,Option.bind_some]
  cases q6o s.Name with
  | false=>rfl
  | true=>
   rw [if_pos rfl,Option.bind_some,List.length_map]
   by_cases hl:s.Attributes.length≤4
   ·rw [decide_eq_true (by omega:(s.Attributes.length:Int)≤4),if_pos rfl,z8X,Option.bind_some,Option.bind_some,decide_eq_true hl]
    have:=z5D (nm:=fun a:Attribute=>a.Name) s.Attributes []
    unfold z8W
    rw [List.map_nil] at this
    rw [this]; rfl
   ·rw [decide_eq_false (by omega:¬ (s.Attributes.length:Int)≤4),if_neg (by simp),decide_eq_false hl]; rfl
end Go.Proofs.YtiojgbiimbefiacGreat
namespace Go.Proofs.YtiojgbiimbefiacGreat
open Go Go.E
theorem z4k {r:Rule}{q:Contribution}(h:q∈r.Contributions):Sz.szd q.Target≤Sz.szd r∧Sz.szd q.Value≤Sz.szd r:=by
 have h1:=q9T r
 have h2:=q7Z q
 have h3:=q9Y h
 have h4:=q3k q.Target
 have h5:=q3k q.Value
 omega
theorem z4l {g:Grammar}{r:Rule}(h:r∈g.Rules):Sz.szd r≤Sz.szd g:=by
 have h1:=q7Q g
 have h3:=q9Y h
 omega
theorem j2G {r:Rule}(h:Sz.szd r≤1048576):r.Equations.length≤1048576∧r.Contributions.length≤1048576:=by
 have h1:=q9T r
 have h2:=q3O r.Equations
 have h3:=q3O r.Contributions
 omega
def q7W (n:Int)(e:Expr):Bool:=allE (fun x=>decide (x.Pos≤n)) e
theorem z6T (n:Int)(e:Expr):∀ m,fuE e≤m→q3u m e n=some (q7W n e):=by
 induction e using q8T with
 | h e ih=>
  intro m hm
  obtain⟨m,rfl⟩:∃ q,m=q+1:=⟨m - 1,by have:=z2c e; omega⟩
  show q4z (q3u m) e n=_
  unfold q4z
  rw [q2D (c:=false) (q:=q7W n) fun k x hx=>by
   unfold q4y
   rw [ih x hx m (by have:=z0P hx; omega),Option.bind_some]
   cases q7W n x<;>rfl]
  have e1:q7W n e=(decide (e.Pos≤n)&&e.Args.all (q7W n)):=by unfold q7W; rw [z9V]
  rw [e1,Option.bind_some]
  cases e.Args.all (q7W n) with
  | true=>rw [if_pos rfl,q8c,Bool.and_true]
  | false=>rw [if_neg (by simp),z5T,Bool.and_false]
theorem z8Y (n:Int)(e:Expr):q7O e n=some (q7W n e):=q7K (fuE e) fun m hm=>z6T n e m hm
def q9d (e:Expr)(n:Int):Bool:=z7L e&&q7W n e
theorem z4m {e:Expr}(h:Sz.szd e≤1048576)(n:Int):q4L e n=some (q9d e n):=by
 unfold q4L q9d
 have:=j4p h
 rw [q9Z (by omega),Option.bind_some]
 cases z7L e with
 | false=>rfl
 | true=>rw [if_pos rfl,z8Y]; rfl
def eqnB (n:Int)(q:Equation):Bool:=q9d q.Expr n&&(q6o q.At.Name&&decide (0≤q.At.Pos∧q.At.Pos≤n))
def conB (n:Int)(q:Contribution):Bool:=(q9d q.Target n&&q9d q.Value n)&&(q6o q.Symbol&&q6o q.Name)
def ruleB (r:Rule):Bool:=(q6o r.Name&&q6o r.Left)&&((decide (r.Right.length≤3)&&decide (r.Contributions.length≤2))&&(r.Right.all q6o&&(r.Equations.all (eqnB (r.Right.length:Int))&&r.Contributions.all (conB (r.Right.length:Int)))))
theorem j0w {α β γ:Type}{p:α→Bool}{q:β→Bool}{t:γ→Bool}(xs:List α)(ys:List β)(zs:List γ) :
  ((some (if xs.all p=true then (.inl ():Unit ⊕ Bool) else .inr false)).bind <| onr (fun r1=>some r1) fun _=>
   (some (if ys.all q=true then (.inl ():Unit ⊕ Bool) else .inr false)).bind <| onr (fun r1=>some r1) fun _=>
   (some (if zs.all t=true then (.inl ():Unit ⊕ Bool) else .inr false)).bind <| onr (fun r1=>some r1) fun _=>some true)=some (xs.all p&&(ys.all q&&zs.all t)):=by
 cases xs.all p<;>cases ys.all q<;>cases zs.all t<;>rfl
theorem j0x {r:Rule}(h:Sz.szd r≤1048576):q4O r=some (ruleB r):=by
 unfold q4O ruleB
 rw [q5x,Option.bind_some]
 cases q6o r.Name with
 | false=>rfl
 | true=>
  rw [if_pos rfl,q5x,Option.bind_some,Option.bind_some]
  cases q6o r.Left with
  | false=>rfl
  | true=>
   rw [Bool.not_true,if_neg (by simp),Option.bind_some]
   by_cases h3:r.Right.length≤3
   ·rw [decide_eq_true h3,decide_eq_false (by omega),if_neg (by simp),Option.bind_some]
    by_cases h2:r.Contributions.length≤2
    ·rw [decide_eq_true h2,decide_eq_false (by omega),if_neg (by simp)]
     rw [q2D (c:=false) (q:=q6o) fun k x hx=>by
      unfold q8s; rw [q5x,Option.bind_some]; cases q6o x<;>rfl]
     rw [q2D (c:=false) (q:=eqnB (r.Right.length:Int)) fun k x hx=>by
      unfold q8t eqnB
      rw [q5x,Option.bind_some]
      cases q6o x.At.Name with
      | false=>rw [Bool.false_and,Bool.and_false]; rfl
      | true=>
       rw [if_pos rfl,q8G,Option.bind_some,Option.bind_some]
       cases decide (0≤x.At.Pos∧x.At.Pos≤(r.Right.length:Int)) with
       | false=>rw [Bool.and_false,Bool.and_false]; rfl
       | true=>
        rw [Bool.not_true,if_neg (by simp),z4m (Nat.le_trans (z2h hx) h),Option.bind_some,Option.bind_some]
        cases q9d x.Expr (r.Right.length:Int)<;>rfl]
     rw [q2D (c:=false) (q:=conB (r.Right.length:Int)) fun k x hx=>by
      have hs:=z4k hx
      unfold q8u conB
      rw [q5x,Option.bind_some]
      cases q6o x.Symbol with
      | false=>rw [Bool.false_and,Bool.and_false]; rfl
      | true=>
       rw [if_pos rfl,q5x,Option.bind_some,Option.bind_some]
       cases q6o x.Name with
       | false=>rw [Bool.and_false,Bool.and_false]; rfl
       | true=>
        rw [Bool.not_true,if_neg (by simp),z4m (Nat.le_trans hs.1 h),Option.bind_some,Option.bind_some]
        cases q9d x.Target (r.Right.length:Int) with
        | false=>rfl
        | true=>
         rw [Bool.not_true,if_neg (by simp),z4m (Nat.le_trans hs.2 h),Option.bind_some,Option.bind_some]
         cases q9d x.Value (r.Right.length:Int)<;>rfl]
     exact j0w _ _ _
    ·rw [decide_eq_false h2,decide_eq_true (by omega)]; rfl
   ·rw [decide_eq_false h3,decide_eq_true (by omega)]; rfl
def q9c (p:List Symbol)(x:Symbol):Bool:=!symB x||dupB (fun y:Symbol=>y.Name) p x
def q7X (p:List Rule)(x:Rule):Bool:=!ruleB x||dupB (fun y:Rule=>y.Name) p x
def z2n (g:Grammar):Int:=match q2e q9c [] g.Symbols with
 | some k=>(k:Int)
 | none=>match q2e q7X [] g.Rules with
  | some k=>(k:Int)
  | none=>-1
theorem j0y {g:Grammar}(h:Sz.szd g≤1048576):g.Symbols.length≤1048576∧g.Rules.length≤1048576:=by
 have h1:=q7Q g
 have h2:=q3O g.Symbols
 have h3:=q3O g.Rules
 omega
theorem j0z {g:Grammar}(h:Sz.szd g≤1048576):q8v g=some (z2n g):=by
 have hl:=j0y h
 unfold q8v z2n
 have h1:=(q7G (bad:=q9c) (nm:=fun y:Symbol=>y.Name) (c:=fun k=>(k:Int)) (all:=g.Symbols) (f:=fun k x _=>some (if q9c (g.Symbols.take k) x=true then .inr (k:Int) else .inl ())) (h:=q8Q) (fun pre x post e=>by
   rw [show g.Symbols.take pre.length=pre by rw [e]; simp]) (fun pre x post e=>by
  unfold q8Q q9c
  rw [j1Q (q6Q h x (by rw [e]; simp)),Option.bind_some]
  cases symB x with
  | false=>rfl
  | true=>
   have hp:pre.length≤1048576:=by
     have:g.Symbols.length=pre.length+(post.length+1):=by rw [e]; simp
     omega
   rw [if_pos rfl,j0u,Option.bind_some,List.any_map,q1n (by rw [List.length_map]; constructor<;>omega),List.map_append,← apply_ite some]; rfl) g.Symbols [] rfl).2
 have h2:=(q7G (bad:=q7X) (nm:=fun y:Rule=>y.Name) (c:=fun k=>(k:Int)) (all:=g.Rules) (f:=fun k x _=>some (if q7X (g.Rules.take k) x=true then .inr (k:Int) else .inl ())) (h:=q8R) (fun pre x post e=>by
   rw [show g.Rules.take pre.length=pre by rw [e]; simp]) (fun pre x post e=>by
  unfold q8R q7X
  rw [j0x (Nat.le_trans (z4l (by rw [e]; simp)) h),Option.bind_some]
  cases ruleB x with
  | false=>rfl
  | true=>
   have hp:pre.length≤1048576:=by
     have:g.Rules.length=pre.length+(post.length+1):=by rw [e]; simp
     omega
   rw [if_pos rfl,j0u,Option.bind_some,List.any_map,q1n (by rw [List.length_map]; constructor<;>omega),List.map_append,← apply_ite some]; rfl) g.Rules [] rfl).2
 rw [show findL q8Q 0 g.Symbols []=_ from h1,show findL q8R 0 g.Rules []=_ from h2]
 cases q2e q9c [] g.Symbols with
 | some k=>rfl
 | none=>cases q2e q7X [] g.Rules<;>rfl
end Go.Proofs.YtiojgbiimbefiacGreat
namespace Go.Proofs.YtiojgbiimbefiacGreat
open Go Go.E
theorem z5F {ρ:Type}{c:ρ}{q:Nat→Bool}{n:Nat}{f:Nat→Unit→Option (Unit ⊕ ρ)}(h:∀ k,k < n→f k ()=some (if q k=true then .inl () else .inr c)):∀ (m k:Nat),k+m=n→findN f k m ()=some (if (List.range' k m).all q=true then .inl () else .inr c)
 | 0,k,_=>rfl
 | m+1,k,hk=>by
  have ih:=z5F h m (k+1) (by omega)
  rw [findN,h k (by omega),Option.bind_some]
  by_cases hq:q k=true
  ·rw [if_pos hq,show (List.range' k (m+1)).all q=(List.range' (k+1) m).all q by simp [List.range'_succ,hq]]
   exact ih
  ·rw [if_neg hq,show (List.range' k (m+1)).all q=false by simp [List.range'_succ,hq]]; rfl
theorem z4n {ρ:Type}{c:ρ}{q:Nat→Bool}{n:Nat}{f:Int→Option (Int ⊕ (Unit ⊕ ρ))}(h:∀ k:Nat,k < n→f (k:Int)=some (if q k=true then .inl ((k+1:Nat):Int) else .inr (.inr c)))(he:f (n:Int)=some (.inr (.inl ()))):∀ (m k:Nat),k+m=n→q2t f (k:Int)=some (if (List.range' k m).all q=true then .inl () else .inr c)
 | 0,k,hk=>by
  obtain rfl:k=n:=by omega
  exact q1D he
 | m+1,k,hk=>by
  have ih:=z4n h he m (k+1) (by omega)
  have h1:=h k (by omega)
  by_cases hq:q k=true
  ·rw [if_pos hq] at h1
   rw [q2c h1,show (List.range' k (m+1)).all q=(List.range' (k+1) m).all q by simp [List.range'_succ,hq]]
   exact ih
  ·rw [if_neg hq] at h1
   rw [q1D h1,show (List.range' k (m+1)).all q=false by simp [List.range'_succ,hq]]; rfl
def z3r (g:Grammar)(r:Rule):Bool:=(List.range' 0 (r.Right.length+1)).all fun k=>(q3X g (q3Y r (k:Int))).2
theorem z6U (g:Grammar){r:Rule}(hl:ROk r):z0u g r=some (!z3r g r):=by
 have hl' : r.Right.length≤1048576:=hl
 unfold z0u
 rw [q1n (by constructor<;>omega),z5F (c:=true) (n:=r.Right.length+1) (q:=fun k=>(q3X g (q3Y r (k:Int))).2) (fun k hk=>by
  unfold z2a
  rw [z2l hl,Option.bind_some,q8H,Option.bind_some]
  dsimp only
  rw [← apply_ite some]) (r.Right.length+1) 0 (by omega)]
 unfold z3r
 cases (List.range' 0 (r.Right.length+1)).all fun k=>(q3X g (q3Y r (k:Int))).2<;>rfl
theorem z6V {g:Grammar}(h:GOk g){r:Rule}(hl:ROk r):q5m g r=some (z3r g r):=by
 have hl' : r.Right.length≤1048576:=hl
 unfold q5m
 have e:=z4n (c:=false) (q:=fun k=>(q3X g (q3Y r (k:Int))).2) (n:=r.Right.length+1) (f:=q4P g r) (fun k hk=>by
  unfold q4P
  rw [if_pos (by omega),q7l hl,Option.bind_some,q6b h,Option.bind_some]
  dsimp only
  rw [q1n (by constructor<;>omega),← apply_ite some]; rfl) (by
  unfold q4P; rw [if_neg (by omega)]) (r.Right.length+1) 0 (by omega)
 rw [show q2t (q4P g r) 0=_ from e]
 unfold z3r
 cases (List.range' 0 (r.Right.length+1)).all fun k=>(q3X g (q3Y r (k:Int))).2<;>rfl
theorem j3C (K:List Occurrence)(o:Occurrence):q3l K o=some (decide (o∈K)):=by
 unfold q3l q1v
 rw [q4Z (q:=fun x=>decide (o=x)) fun k x hx=>by
  unfold q1x
  by_cases h:o=x
  ·rw [if_pos h,if_pos (by simpa using h)]
  ·rw [if_neg h,if_neg (by simpa using h)]]
 congr 1
 by_cases h:o∈K
 ·rw [decide_eq_true h,List.any_eq_true]; exact⟨o,h,by simp⟩
 ·rw [decide_eq_false h,List.any_eq_false]; intro x hx he; simp at he; exact h (he▸hx)
theorem j0A (K:List Occurrence)(o:Occurrence):q5I K o=some (decide (o∈K)):=by
 unfold q5I
 rw [q2D (c:=true) (q:=fun x=>!decide (x=o)) fun k x hx=>by
  unfold z0K
  by_cases h:x=o
  ·rw [if_pos h,if_neg (by simp [h])]
  ·rw [if_neg h,if_pos (by simp [h])]]
 by_cases h:o∈K
 ·rw [decide_eq_true h,if_neg]; · rfl
  rw [List.all_eq_true]; intro hh; have:=hh o h; simp at this
 ·rw [decide_eq_false h,if_pos]; · rfl
  rw [List.all_eq_true]; intro x hx; simp; exact fun e=>h (e▸hx)
def z5G (r:Rule)(o:Occurrence):Bool:=r.Equations.any fun q=>decide (q.At=o)
theorem j1R (r:Rule)(o:Occurrence):(eqAt r o).2=z5G r o:=by
 unfold eqAt z5G
 cases hf:r.Equations.find? (fun q=>decide (q.At=o)) with
 | none=>rw [List.find?_eq_none] at hf; symm; rw [List.any_eq_false]; exact hf
 | some q=>symm; rw [List.any_eq_true]; exact⟨q,List.mem_of_find?_eq_some hf,List.find?_some (p:=fun q:Equation=>decide (q.At=o)) hf⟩
def j0B (g:Grammar)(r:Rule):Bool:=(reqL g r).any fun o=>!z5G r o
theorem j1S {g:Grammar}(h:GOk g){r:Rule}(hl:ROk r):z0v g r=some (j0B g r):=by
 unfold z0v j0B
 rw [j0t h hl,Option.bind_some]
 unfold q2B q2R
 rw [q4Z (q:=fun o=>!z5G r o) fun k o ho=>by
  unfold q2K z0N q2A q2Q
  rw [q4Z (q:=fun q:Equation=>decide (q.At=o)) fun k y hy=>by
   unfold q2J q9a
   rw [Option.bind_some]
   by_cases h:y.At=o
   ·rw [decide_eq_true h]; rfl
   ·rw [decide_eq_false h]; rfl]
  rw [Option.bind_some,Option.bind_some,← apply_ite some]; rfl]
 rfl
theorem j1T {g:Grammar}(h:GOk g){r:Rule}(hr:Sz.szd r≤1048576):q5n g r=some (j0B g r):=by
 unfold q5n j0B
 rw [z6S h (q3N hr),Option.bind_some,q2D (c:=true) (q:=z5G r) fun k o ho=>by
  unfold q8X
  rw [z4j hr o,Option.bind_some]
  dsimp only
  rw [j1R,← apply_ite some]]
 have e:((reqL g r).all (z5G r))=!((reqL g r).any fun o=>!z5G r o):=by rw [z6K]
 rw [e]
 cases (reqL g r).any fun o=>!z5G r o<;>rfl
def z5H (g:Grammar)(r:Rule):Bool:=(q2e (fun p (x:Equation)=>!decide (x.At∈reqL g r)||p.any fun o=>decide (o.At=x.At)) [] r.Equations).isSome
theorem j0C {g:Grammar}(h:GOk g){r:Rule}(hl:ROk r):z3X g r=some (z5H g r):=by
 unfold z3X z5H
 rw [j0t h hl,Option.bind_some]
 rw [show findL (q9U r (reqL g r)) 0 r.Equations ()=_ from z5E (bad:=fun p (x:Equation)=>!decide (x.At∈reqL g r)||p.any fun o=>decide (o.At=x.At)) (c:=fun _=>true) (all:=r.Equations) (f:=q9U r (reqL g r)) (fun pre x post e=>by
  unfold q9U
  rw [j3C,Option.bind_some]
  cases decide (x.At∈reqL g r) with
  | false=>rfl
  | true=>
   rw [if_pos rfl,q1n (by rw [e]; simp),show r.Equations.take pre.length=pre by rw [e]; simp]
   unfold q2W q3o
   rw [q4Z (q:=fun o:Equation=>decide (o.At=x.At)) fun k y hy=>by
    unfold q3i z3g
    rw [Option.bind_some]
    by_cases h:y.At=x.At
    ·rw [decide_eq_true h]; rfl
    ·rw [decide_eq_false h]; rfl]
   rw [Option.bind_some,← apply_ite some]; rfl) r.Equations [] rfl]
 cases q2e (fun p (x:Equation)=>!decide (x.At∈reqL g r)||p.any fun o=>decide (o.At=x.At)) [] r.Equations<;>rfl
theorem j0D {g:Grammar}(h:GOk g){r:Rule}(hr:Sz.szd r≤1048576):q6M g r=some (z5H g r):=by
 have hl:=(j2G hr).1
 unfold q6M z5H
 rw [z6S h (q3N hr),Option.bind_some]
 have h1:=(q7G (bad:=fun p (x:Equation)=>!decide (x.At∈reqL g r)||p.any fun o=>decide (o.At=x.At)) (nm:=fun y:Equation=>y.At) (c:=fun _=>true) (all:=r.Equations)
  (f:=fun k x _=>some (if (!decide (x.At∈reqL g r)||(r.Equations.take k).any fun o=>decide (o.At=x.At))=true then .inr true else .inl ())) (h:=q6Y (reqL g r)) (fun pre x post e=>by
   rw [show r.Equations.take pre.length=pre by rw [e]; simp]) (fun pre x post e=>by
  unfold q6Y
  rw [j0A,Option.bind_some]
  cases decide (x.At∈reqL g r) with
  | false=>rfl
  | true=>
   have hp:pre.length≤1048576:=by
     have:r.Equations.length=pre.length+(post.length+1):=by rw [e]; simp
     omega
   have e2:decide (x.At∈pre.map fun y:Equation=>y.At)=pre.any fun o=>decide (o.At=x.At):=by
    by_cases hm:x.At∈pre.map fun y:Equation=>y.At
    ·rw [decide_eq_true hm]; symm; rw [List.any_eq_true]
     obtain⟨y,hy,he⟩:=List.mem_map.1 hm
     exact⟨y,hy,by simpa using he⟩
    ·rw [decide_eq_false hm]; symm; rw [List.any_eq_false]
     intro y hy he
     exact hm (List.mem_map.2 ⟨y,hy,by simpa using he⟩)
   rw [if_pos rfl,j0A,Option.bind_some,e2,q1n (by rw [List.length_map]; constructor<;>omega),List.map_append,← apply_ite some]; rfl) r.Equations [] rfl).2
 rw [show findL (q6Y (reqL g r)) 0 r.Equations []=_ from h1]
 cases q2e (fun p (x:Equation)=>!decide (x.At∈reqL g r)||p.any fun o=>decide (o.At=x.At)) [] r.Equations<;>rfl
def useB (g:Grammar)(r:Rule)(e:Expr):Bool:=(q7D e).all (mayB g r)
theorem z4o {g:Grammar}(h:GOk g){r:Rule}(hl:ROk r){e:Expr}(he:Sz.szd e≤1048576):q5J g r e=some (useB g r e):=by
 unfold q5J useB
 rw [z4e he,Option.bind_some,q2D (c:=false) (q:=mayB g r) fun k x hx=>by
  unfold z1U
  rw [j3B h hl,Option.bind_some,← apply_ite some]]
 cases (q7D e).all (mayB g r)<;>rfl
theorem j1U (g:Grammar){r:Rule}(hl:ROk r){e:Expr}(he:Sz.szd e≤1048576):q8A e g r=some (!useB g r e):=by
 unfold q8A useB
 rw [z3Z he,Option.bind_some]
 unfold q2r q2H
 rw [q4Z (q:=fun o=>!mayB g r o) fun k o ho=>by
  unfold q2C q9b
  rw [j3A g hl,Option.bind_some,Option.bind_some,← apply_ite some]]
 rw [Option.bind_some,← z6K,Bool.not_not]
def z0Q (r:Rule):List Expr:=r.Equations.map (fun q=>q.Expr)++r.Contributions.flatMap fun q=>[q.Target,q.Value]
theorem j1V {r:Rule}(hr:Sz.szd r≤1048576):q7j r=some (z0Q r):=by
 have hl:=j2G hr
 have h1:∀ (xs:List Equation) (i:Nat) (s:List Expr),s.length+xs.length≤1048576→eachL q5u i xs s=some (s++xs.map fun q=>q.Expr):=by
  intro xs
  induction xs with
  | nil=>intro i s _; simp [eachL]
  | cons x xs ih=>
   intro i s hs
   simp only [List.length_cons] at hs
   have e:q5u i x s=some (s++[x.Expr]):=by unfold q5u; rw [q1n (by constructor<;>omega)]
   rw [eachL,e,Option.bind_some,ih _ _ (by simp; omega)]; simp
 have h2:∀ (xs:List Contribution) (i:Nat) (s:List Expr),s.length+2*xs.length≤4194304→eachL q5v i xs s=some (s++xs.flatMap fun q=>[q.Target,q.Value]):=by
  intro xs
  induction xs with
  | nil=>intro i s _; simp [eachL]
  | cons x xs ih=>
   intro i s hs
   simp only [List.length_cons] at hs
   have e:q5v i x s=some (s++[x.Target,x.Value]):=by
    unfold q5v; rw [q1n (by simp only [List.length_cons,List.length_nil]; constructor<;>omega)]
   rw [eachL,e,Option.bind_some,ih _ _ (by simp; omega)]; simp
 unfold q7j z0Q
 rw [h1 _ _ _ (by simpa using hl.1),Option.bind_some,h2 _ _ _ (by simp; omega)]; simp
theorem j1W {r:Rule}{e:Expr}(h:e∈z0Q r):Sz.szd e≤Sz.szd r:=by
 unfold z0Q at h
 rcases List.mem_append.1 h with h | h
 ·obtain⟨q,hq,rfl⟩:=List.mem_map.1 h; exact z2h hq
 ·obtain⟨q,hq,he⟩:=List.mem_flatMap.1 h
  have:=z4k hq
  simp at he
  rcases he with rfl | rfl
  ·exact this.1
  ·exact this.2
def misB (g:Grammar)(r:Rule):Bool:=!(z0Q r).all (useB g r)
theorem j3D (g:Grammar){r:Rule}(hr:Sz.szd r≤1048576):z0w g r=some (misB g r):=by
 unfold z0w misB
 rw [j1V hr,Option.bind_some]
 unfold q3j q3B
 rw [q4Z (q:=fun e=>!useB g r e) fun k e he=>by
  unfold q3z
  rw [j1U g (q3N hr) (Nat.le_trans (j1W he) hr),Option.bind_some,← apply_ite some]]
 rw [Option.bind_some,← z6K,Bool.not_not]
theorem j3E {g:Grammar}(h:GOk g){r:Rule}(hr:Sz.szd r≤1048576):q5Z g r=some (misB g r):=by
 unfold q5Z misB
 rw [q2D (c:=true) (q:=fun q:Equation=>useB g r q.Expr) fun k x hx=>by
  unfold q9R
  rw [z4o h (q3N hr) (Nat.le_trans (z2h hx) hr),Option.bind_some,← apply_ite some]]
 rw [q2D (c:=true) (q:=fun q:Contribution=>useB g r q.Target&&useB g r q.Value) fun k x hx=>by
  have hs:=z4k hx
  unfold q9S
  rw [z4o h (q3N hr) (Nat.le_trans hs.1 hr),Option.bind_some]
  cases useB g r x.Target with
  | false=>rfl
  | true=>rw [if_pos rfl,z4o h (q3N hr) (Nat.le_trans hs.2 hr),Option.bind_some,← apply_ite some]; rfl]
 have e:(z0Q r).all (useB g r)=((r.Equations.all fun q=>useB g r q.Expr)&&r.Contributions.all fun q=>useB g r q.Target&&useB g r q.Value):=by
  unfold z0Q
  rw [List.all_append,List.all_map,List.all_flatMap]
  congr 1
  congr 1; funext q; simp
 rw [e]
 cases r.Equations.all fun q=>useB g r q.Expr with
 | false=>rfl
 | true=>cases r.Contributions.all fun q=>useB g r q.Target&&useB g r q.Value<;>rfl
end Go.Proofs.YtiojgbiimbefiacGreat
namespace Go.Proofs.YtiojgbiimbefiacGreat
open Go Go.E
def q7c (g:Grammar)(r:Rule)(k:Int):Bool:=if k=3 then !z3r g r else if k=4 then j0B g r else if k=5 then z5H g r else misB g r
theorem j0E {g:Grammar}(h:GOk g){r:Rule}(hr:Sz.szd r≤1048576)(k:Int):q6a g r k=some (q7c g r k):=by
 unfold q6a q7c
 by_cases h3:k=3
 ·rw [if_pos h3,if_pos h3,z6V h (q3N hr)]; rfl
 ·rw [if_neg h3,if_neg h3]
  by_cases h4:k=4
  ·rw [if_pos h4,if_pos h4,j1T h hr]; rfl
  ·rw [if_neg h4,if_neg h4]
   by_cases h5:k=5
   ·rw [if_pos h5,if_pos h5,j0D h hr]; rfl
   ·rw [if_neg h5,if_neg h5,j3E h hr]; rfl
theorem z5I {g:Grammar}(h:GOk g){r:Rule}(hr:Sz.szd r≤1048576)(k:Int)(i:Nat):q5U g k i r ()=some (if q7c g r k=true then .inr (k,(i:Int)) else .inl ()):=by
 unfold q5U q7c
 by_cases h3:k=3
 ·rw [if_pos h3,if_pos h3,z6U g (q3N hr),Option.bind_some,← apply_ite some]
 ·rw [if_neg h3,if_neg h3]
  by_cases h4:k=4
  ·rw [if_pos h4,if_pos h4,j1S h (q3N hr),Option.bind_some,← apply_ite some]
  ·rw [if_neg h4,if_neg h4]
   by_cases h5:k=5
   ·rw [if_pos h5,if_pos h5,j0C h (q3N hr),Option.bind_some,← apply_ite some]
   ·rw [if_neg h5,if_neg h5,j3D g hr,Option.bind_some,← apply_ite some]
theorem j0F {g:Grammar}(h:GOk g){r:Rule}(hr:Sz.szd r≤1048576)(k:Int)(i:Nat):q5R g k i r ()=some (if q7c g r k=true then .inr (k,(i:Int)) else .inl ()):=by
 unfold q5R
 rw [j0E h hr,Option.bind_some,← apply_ite some]
theorem z2o {α σ ρ:Type}{f g:Nat→α→σ→Option (σ ⊕ ρ)}:∀ {xs:List α} {i:Nat} {s:σ},(∀ k x s,x∈xs→f k x s=g k x s)→findL f i xs s=findL g i xs s
 | [],_,_,_=>rfl
 | x :: xs,i,s,h=>by
  rw [findL,findL,h i x s (by simp)]
  congr 1; funext z
  cases z with
  | inl s'=>exact z2o fun k y s hy=>h k y s (by simp [hy])
  | inr r=>rfl
theorem z6W {g:Grammar}(h:Sz.szd g≤1048576)(k:Int):q5S g k=q3p g k:=by
 unfold q5S q3p
 have e:findL (q5R g k) 0 g.Rules ()=findL (q5U g k) 0 g.Rules ():=z2o fun i x _ hx=>by
  have hr:=Nat.le_trans (z4l hx) h
  rw [j0F (q6Q h) hr,z5I (q6Q h) hr]
 rw [e]
def q3Z (g:Grammar)(k:Int):Option (Int × Int):=match g.Rules.findIdx? fun r=>q7c g r k with
 | some i=>some (k,(i:Int))
 | none=>none
theorem z0a {α ρ:Type}{q:α→Bool}{c:Nat→ρ}:∀ {xs:List α} {i:Nat} {f:Nat→α→Unit→Option (Unit ⊕ ρ)},(∀ k x,x∈xs→f k x ()=some (if q x=true then .inr (c k) else .inl ())) →
  findL f i xs ()=some (match xs.findIdx? q with | some j=>.inr (c (i+j)) | none=>.inl ())
 | [],_,_,_=>rfl
 | x :: xs,i,f,h=>by
  rw [findL,h i x (by simp),Option.bind_some,List.findIdx?_cons]
  by_cases hq:q x=true
  ·rw [if_pos hq,if_pos hq]; rfl
  ·rw [if_neg hq,if_neg hq]
   have ih:=z0a (q:=q) (c:=c) (xs:=xs) (i:=i+1) (f:=f) fun k y hy=>h k y (by simp [hy])
   dsimp only
   rw [ih]
   cases xs.findIdx? q with
   | none=>rfl
   | some j=>simp only [Option.map_some]; rw [show i+1+j=i+(j+1) by omega]
def z0R (g:Grammar):Int × Int:=
 if !decide (1≤g.Symbols.length∧g.Symbols.length≤4) || !decide (1≤g.Rules.length∧g.Rules.length≤8) then (1,0)
 else if 0≤z2n g then (1,z2n g)
 else if (g.Symbols.getD 0 zS).Attributes.any fun a=>decide (a.Mode=1) then (2,0)
 else (q3Z g 3 <|> (q3Z g 4 <|> (q3Z g 5 <|> q3Z g 6))).getD (0,0)
theorem z6X {g:Grammar}(h:Sz.szd g≤1048576):(q2t (q3p g) 3).bind (onr (fun r2=>some r2) fun ()=>some (0,0))=some ((q3Z g 3 <|> (q3Z g 4 <|> (q3Z g 5 <|> q3Z g 6))).getD (0,0)):=by
 have hstep:∀ k:Int,3≤k→k≤6→q3p g k=match q3Z g k with | some z=>some (.inr (.inr z)) | none=>some (.inl (k+1)):=by
  intro k h3 h6
  unfold q3p q3Z
  rw [if_pos h6,z0a (q:=fun r=>q7c g r k) (c:=fun i=>(k,(i:Int))) fun i x hx=>z5I (q6Q h) (Nat.le_trans (z4l hx) h) k i]
  cases g.Rules.findIdx? fun r=>q7c g r k with
  | some i=>simp
  | none=>rw [Option.bind_some]; dsimp only [onr]; rw [q1n (by constructor<;>omega)]
 have hend:q3p g 7=some (.inr (.inl ())):=by unfold q3p; rw [if_neg (by omega)]
 have h3:=hstep 3 (by omega) (by omega)
 have h4:=hstep 4 (by omega) (by omega)
 have h5:=hstep 5 (by omega) (by omega)
 have h6:=hstep 6 (by omega) (by omega)
 cases s3:q3Z g 3 with
 | some z=>rw [s3] at h3; rw [q1D h3]; rfl
 | none=>
  rw [s3] at h3
  rw [q2c h3,show (3:Int)+1=4 by rfl]
  cases s4:q3Z g 4 with
  | some z=>rw [s4] at h4; rw [q1D h4]; rfl
  | none=>
   rw [s4] at h4
   rw [q2c h4,show (4:Int)+1=5 by rfl]
   cases s5:q3Z g 5 with
   | some z=>rw [s5] at h5; rw [q1D h5]; rfl
   | none=>
    rw [s5] at h5
    rw [q2c h5,show (5:Int)+1=6 by rfl]
    cases s6:q3Z g 6 with
    | some z=>rw [s6] at h6; rw [q1D h6]; rfl
    | none=>
     rw [s6] at h6
     rw [q2c h6,show (6:Int)+1=7 by rfl,q1D hend]; rfl
theorem j0G {g:Grammar}(h:Sz.szd g≤1048576):q5o g=some (z0R g):=by
 unfold q5o z0R
 rw [q8G,Option.bind_some]
 by_cases h1:1≤g.Symbols.length∧g.Symbols.length≤4
 ·rw [decide_eq_true (by omega),if_pos rfl,q8G,Option.bind_some,decide_eq_true h1]
  by_cases h2:1≤g.Rules.length∧g.Rules.length≤8
  ·rw [decide_eq_true (by omega),if_pos rfl,j0z h,Option.bind_some,decide_eq_true h2]
   simp only [Bool.not_true,Bool.or_self,Bool.false_eq_true,if_false]
   by_cases h3:0≤z2n g
   ·rw [if_pos h3,if_pos h3]
   ·rw [if_neg h3,if_neg h3,List.getD_eq_getElem?_getD,List.getElem?_eq_getElem (by omega:0 < g.Symbols.length),Option.bind_some,Option.getD_some]
    rw [q2D (c:=((2:Int),(0:Int))) (q:=fun a:Attribute=>!decide (a.Mode=1)) fun k y hy=>by
     unfold q8Y
     by_cases hm:y.Mode=1
     ·rw [if_pos hm,if_neg (by simp [hm])]
     ·rw [if_neg hm,if_pos (by simp [hm])]]
    have e:(g.Symbols[0].Attributes.all fun a=>!decide (a.Mode=1))=!(g.Symbols[0].Attributes.any fun a=>decide (a.Mode=1)):=by rw [List.not_any_eq_all_not]
    rw [e]
    cases (g.Symbols[0].Attributes.any fun a=>decide (a.Mode=1)) with
    | true=>rfl
    | false=>
     rw [Bool.not_false,if_pos rfl,Option.bind_some,q8c,if_neg (by simp),show q5S g=q3p g from funext fun k=>z6W h k]
     exact z6X h
  ·rw [decide_eq_false (by omega),decide_eq_false h2]; rfl
 ·rw [decide_eq_false (by omega),decide_eq_false h1]; rfl
theorem q7H {α:Type}{bad:List α→α→Bool}:∀ (xs pre:List α),q2e bad pre xs=none→∀ k x,xs[k]? = some x→bad (pre++xs.take k) x=false
 | [],pre,h,k,x,hx=>by simp at hx
 | y :: xs,pre,h,k,x,hx=>by
  rw [q2e] at h
  by_cases hb:bad pre y=true
  ·rw [if_pos hb] at h; cases h
  ·rw [if_neg hb] at h
   cases k with
   | zero=>simp at hx; subst hx; simpa using hb
   | succ k=>
    have:=q7H xs (pre++[y]) h k x (by simpa using hx)
    simpa using this
structure Shape (g:Grammar):Prop where
 syms:1≤g.Symbols.length∧g.Symbols.length≤4
 rules:1≤g.Rules.length∧g.Rules.length≤8
 sym:q2e q9c [] g.Symbols=none
 rule:q2e q7X [] g.Rules=none
 brk:∀ k:Int,3≤k→k≤6→∀ r∈g.Rules,q7c g r k=false
 z4K:∀ y a,g.Symbols[0]? = some y→a∈y.Attributes→a.Mode≠1
theorem z7T {g:Grammar}(h:(z0R g).1=0):Shape g:=by
 unfold z0R at h
 by_cases h1:1≤g.Symbols.length∧g.Symbols.length≤4
 ·by_cases h2:1≤g.Rules.length∧g.Rules.length≤8
  ·rw [decide_eq_true h1,decide_eq_true h2] at h
   simp only [Bool.not_true,Bool.or_self,Bool.false_eq_true,if_false] at h
   by_cases h3:0≤z2n g
   ·rw [if_pos h3] at h; simp at h
   ·rw [if_neg h3] at h
    by_cases h4:((g.Symbols.getD 0 zS).Attributes.any fun a=>decide (a.Mode=1))=true
    ·rw [if_pos h4] at h; simp at h
    ·rw [if_neg h4] at h
     have hf:q2e q9c [] g.Symbols=none∧q2e q7X [] g.Rules=none:=by
      unfold z2n at h3
      cases e1:q2e q9c [] g.Symbols with
      | some k=>rw [e1] at h3; exact absurd (Int.natCast_nonneg k) h3
      | none=>
       cases e2:q2e q7X [] g.Rules with
       | some k=>rw [e1,e2] at h3; exact absurd (Int.natCast_nonneg k) h3
       | none=>exact⟨rfl,rfl⟩
     have hk:∀ k:Int,q3Z g k=none→∀ r∈g.Rules,q7c g r k=false:=by
      intro k hk r hr
      unfold q3Z at hk
      cases e:g.Rules.findIdx? fun r=>q7c g r k with
      | some i=>rw [e] at hk; cases hk
      | none=>
       rw [List.findIdx?_eq_none_iff] at e
       exact e r hr
     have hc:∀ k:Int,3≤k→∀ z,q3Z g k=some z→z.1≠0:=by
      intro k h3 z hz
      unfold q3Z at hz
      cases e:g.Rules.findIdx? fun r=>q7c g r k with
      | none=>rw [e] at hz; cases hz
      | some i=>rw [e] at hz; cases hz; show k≠0; omega
     have n3:q3Z g 3=none:=by
      cases e:q3Z g 3 with
      | none=>rfl
      | some z=>rw [e] at h; exact absurd h (hc 3 (by omega) z e)
     rw [n3] at h
     have n4:q3Z g 4=none:=by
      cases e:q3Z g 4 with
      | none=>rfl
      | some z=>rw [e] at h; exact absurd h (hc 4 (by omega) z e)
     rw [n4] at h
     have n5:q3Z g 5=none:=by
      cases e:q3Z g 5 with
      | none=>rfl
      | some z=>rw [e] at h; exact absurd h (hc 5 (by omega) z e)
     rw [n5] at h
     have n6:q3Z g 6=none:=by
      cases e:q3Z g 6 with
      | none=>rfl
      | some z=>rw [e] at h; exact absurd h (hc 6 (by omega) z e)
     refine⟨h1,h2,hf.1,hf.2,fun k k3 k6=>?_,fun y a hy ha hm=>h4 ?_⟩
     ·have:k=3∨k=4∨k=5∨k=6:=by omega
      rcases this with rfl | rfl | rfl | rfl
      ·exact hk _ n3
      ·exact hk _ n4
      ·exact hk _ n5
      ·exact hk _ n6
     ·rw [List.getD_eq_getElem?_getD,hy,List.any_eq_true]
      exact⟨a,ha,by simpa using hm⟩
  ·rw [decide_eq_false h2] at h; simp at h
 ·rw [decide_eq_false h1] at h; simp at h
theorem Shape.ruleB {g:Grammar}(h:Shape g){r:Rule}(hr:r∈g.Rules):ruleB r=true:=by
 obtain⟨k,hk⟩:=List.getElem?_of_mem hr
 have:=q7H _ _ h.rule k r hk
 unfold q7X at this
 rw [Bool.or_eq_false_iff] at this
 simpa using this.1
theorem Shape.symB {g:Grammar}(h:Shape g){y:Symbol}(hy:y∈g.Symbols):symB y=true:=by
 obtain⟨k,hk⟩:=List.getElem?_of_mem hy
 have:=q7H _ _ h.sym k y hk
 unfold q9c at this
 rw [Bool.or_eq_false_iff] at this
 simpa using this.1
theorem Shape.pos {g:Grammar}(h:Shape g){r:Rule}(hr:r∈g.Rules){q:Equation}(hq:q∈r.Equations):0≤q.At.Pos∧q.At.Pos≤(r.Right.length:Int):=by
 have:=h.ruleB hr
 unfold Go.Proofs.YtiojgbiimbefiacGreat.ruleB at this
 simp only [Bool.and_eq_true,List.all_eq_true] at this
 have:=this.2.2.2.1 q hq
 unfold eqnB at this
 simp only [Bool.and_eq_true,decide_eq_true_eq] at this
 exact this.2.2
end Go.Proofs.YtiojgbiimbefiacGreat
namespace Go.Proofs.YtiojgbiimbefiacGreat
open Go Go.E
def typK (g:Grammar)(r:Rule)(k n p t:Int)(sy nm:ByteArray)(ts:List Int):Int:=
 if k=1 then t else if k=2 then (if r.Literal=true then 1 else 0) else if k=3 then (q6i g r ⟨p,nm⟩).1.Type_
 else if k=4 then (if ts.length=2∧ts.getD 0 0=(opT n).1∧ts.getD 1 0=(opT n).2.1 then (opT n).2.2 else 0)
 else if k=5 then (if ts.length=3∧ts.getD 0 0=3∧ts.getD 1 0=ts.getD 2 0 then ts.getD 1 0 else 0)
 else if k=6 then (if 0≤p∧p≤(r.Right.length:Int) then 4 else 0) else if k=7 then 4
 else if k=8 then (if ts.length=1∧ts.getD 0 0=4 then (q6q (q3X g sy).1 nm).1.Type_ else 0) else 0
mutual
def typE (g:Grammar)(r:Rule):Expr→Int
 | ⟨k,n,p,t,sy,nm,a⟩=>typK g r k n p t sy nm (j1X g r a)
def j1X (g:Grammar)(r:Rule):List Expr→List Int
 | []=>[]
 | x :: xs=>typE g r x :: j1X g r xs
end
theorem z7U (g:Grammar)(r:Rule):∀ l,j1X g r l=l.map (typE g r)
 | []=>rfl
 | x :: xs=>by rw [j1X,z7U g r xs]; rfl
theorem j3F (g:Grammar)(r:Rule)(e:Expr):typE g r e=typK g r e.Kind e.N e.Pos e.Type_ e.Symbol e.Name (e.Args.map (typE g r)):=by
 cases e; rw [typE,z7U]
theorem z5J {y:Symbol}{s:ByteArray}(h:(q6q y s).2≠true):(q6q y s).1=zA:=by
 unfold q6q at h ⊢
 cases hf:y.Attributes.find? (fun a=>decide (a.Name=s)) with
 | none=>rfl
 | some a=>rw [hf] at h; exact absurd rfl h
theorem z6Y {g:Grammar}(h:GOk g)(s nm:ByteArray):q3y g s nm=some (q6q (q3X g s).1 nm).1.Type_:=by
 unfold q3y
 rw [q6b h,Option.bind_some]
 try dsimp only
 rw [z2k,Option.bind_some]
 try dsimp only
 by_cases hb:(q6q (q3X g s).1 nm).2=true
 ·rw [if_pos hb]
 ·rw [if_neg hb,z5J hb]; rfl
theorem j1Y {g:Grammar}(h:GOk g){r:Rule}(hl:ROk r)(e:Expr):∀ m,fuE e≤m→q4G m g r e=some (typE g r e):=by
 induction e using q8T with
 | h e ih=>
  intro m hm
  obtain⟨m,rfl⟩:∃ q,m=q+1:=⟨m - 1,by have:=z2c e; omega⟩
  show q5p (q4G m) g r e=_
  have hx:∀ x∈e.Args,q4G m g r x=some (typE g r x):=fun x hxe=>ih x hxe m (by have:=z0P hxe; omega)
  unfold q5p
  rw [j3F]
  unfold typK
  by_cases k1:e.Kind=1
  ·rw [if_pos k1,if_pos k1]
  rw [if_neg k1,if_neg k1]
  by_cases k2:e.Kind=2
  ·rw [if_pos k2,if_pos k2,← apply_ite some]
  rw [if_neg k2,if_neg k2]
  by_cases k3:e.Kind=3
  ·rw [if_pos k3,if_pos k3,q8G,Option.bind_some]
   unfold q6i
   by_cases hp:0≤e.Pos∧e.Pos≤(r.Right.length:Int)
   ·rw [if_pos (by simpa using hp),if_pos hp,q7l hl,Option.bind_some,z6Y h]; rfl
   ·rw [if_neg (by simpa using hp),if_neg hp]; rfl
  rw [if_neg k3,if_neg k3]
  by_cases k4:e.Kind=4
  ·rw [if_pos k4,if_pos k4]
   unfold z1g
   rw [j3q,Option.bind_some]
   try dsimp only
   by_cases hn:e.Args.length=2
   ·obtain⟨a,b,hab⟩:∃ a b,e.Args=[a,b]:=by
     match e.Args,hn with
     | [a,b],_=>exact⟨a,b,rfl⟩
    rw [hab] at hx
    rw [hab,if_pos (by simp)]
    simp only [List.getElem?_cons_zero,List.getElem?_cons_succ,Option.bind_some,List.map_cons,List.map_nil,List.getD_cons_zero,List.getD_cons_succ]
    rw [hx a (by simp),Option.bind_some]
    by_cases ha:typE g r a=(opT e.N).1
    ·rw [if_pos ha,hx b (by simp),Option.bind_some]
     by_cases hb:typE g r b=(opT e.N).2.1
     ·rw [if_pos hb,if_pos ⟨by simp,ha,hb⟩]; rfl
     ·rw [if_neg hb,if_neg fun h=>hb h.2.2]; rfl
    ·rw [if_neg ha,if_neg fun h=>ha h.2.1]; rfl
   ·rw [if_neg (by omega),if_neg fun h=>hn (by simpa using h.1)]; rfl
  rw [if_neg k4,if_neg k4]
  by_cases k5:e.Kind=5
  ·rw [if_pos k5,if_pos k5]
   unfold z1h
   by_cases hn:e.Args.length=3
   ·obtain⟨a,b,c,hab⟩:∃ a b c,e.Args=[a,b,c]:=by
     match e.Args,hn with
     | [a,b,c],_=>exact⟨a,b,c,rfl⟩
    rw [hab] at hx
    rw [hab,if_pos (by simp)]
    simp only [List.getElem?_cons_zero,List.getElem?_cons_succ,Option.bind_some,List.map_cons,List.map_nil,List.getD_cons_zero,List.getD_cons_succ]
    rw [hx a (by simp),Option.bind_some]
    by_cases ha:typE g r a=3
    ·rw [if_pos ha,hx b (by simp),Option.bind_some,hx c (by simp),Option.bind_some]
     by_cases hb:typE g r b=typE g r c
     ·rw [if_pos hb,if_pos ⟨by simp,ha,hb⟩]; rfl
     ·rw [if_neg hb,if_neg fun h=>hb h.2.2]; rfl
    ·rw [if_neg ha,if_neg fun h=>ha h.2.1]; rfl
   ·rw [if_neg (by omega),if_neg fun h=>hn (by simpa using h.1)]; rfl
  rw [if_neg k5,if_neg k5]
  by_cases k6:e.Kind=6
  ·rw [if_pos k6,if_pos k6,q8G,Option.bind_some]
   by_cases hp:0≤e.Pos∧e.Pos≤(r.Right.length:Int)
   ·rw [if_pos (by simpa using hp),if_pos hp]
   ·rw [if_neg (by simpa using hp),if_neg hp]
  rw [if_neg k6,if_neg k6]
  by_cases k7:e.Kind=7
  ·rw [if_pos k7,if_pos k7]
  rw [if_neg k7,if_neg k7]
  by_cases k8:e.Kind=8
  ·rw [if_pos k8,if_pos k8]
   by_cases hn:e.Args.length=1
   ·obtain⟨a,hab⟩:∃ a,e.Args=[a]:=by
     match e.Args,hn with
     | [a],_=>exact⟨a,rfl⟩
    rw [hab] at hx
    rw [hab,if_pos (by simp)]
    simp only [List.getElem?_cons_zero,Option.bind_some,List.map_cons,List.map_nil,List.getD_cons_zero]
    rw [hx a (by simp),Option.bind_some]
    by_cases ha:typE g r a=4
    ·rw [if_pos ha,if_pos ⟨by simp,ha⟩,z6Y h]; rfl
    ·rw [if_neg ha,if_neg fun h=>ha h.2]
   ·rw [if_neg (by omega),if_neg fun h=>hn (by simpa using h.1)]
  rw [if_neg k8,if_neg k8]
theorem z6Z {g:Grammar}(h:GOk g){r:Rule}(hl:ROk r)(e:Expr):q5q g r e=some (typE g r e):=q7K (fuE e) fun m hm=>j1Y h hl e m hm
def conT (g:Grammar)(r:Rule)(q:Contribution):Bool:=(decide (typE g r q.Target=4)&&decide (typE g r q.Value=2))&&decide ((q6q (q3X g q.Symbol).1 q.Name).1.Mode=3)
def typR (g:Grammar)(r:Rule):Bool:=(r.Equations.all fun q=>decide (typE g r q.Expr=(q6i g r q.At).1.Type_))&&r.Contributions.all (conT g r)
theorem j1Z {g:Grammar}(h:GOk g){r:Rule}(hr:Sz.szd r≤1048576)(hp:∀ q∈r.Equations,0≤q.At.Pos∧q.At.Pos≤(r.Right.length:Int)):q7B g r=some (typR g r):=by
 have hl:=q3N hr
 unfold q7B typR
 rw [q2D (c:=false) (q:=fun q:Equation=>decide (typE g r q.Expr=(q6i g r q.At).1.Type_)) fun k x hx=>by
  unfold z1X
  rw [z6Z h hl,Option.bind_some,q7l hl,Option.bind_some,z6Y h,Option.bind_some]
  have e:(q6q (q3X g (q3Y r x.At.Pos)).1 x.At.Name).1.Type_=(q6i g r x.At).1.Type_:=by unfold q6i; rw [if_pos (hp x hx)]
  rw [e]
  by_cases hp:typE g r x.Expr=(q6i g r x.At).1.Type_
  ·rw [if_pos hp,if_pos (by simpa using hp)]
  ·rw [if_neg hp,if_neg (by simpa using hp)]]
 rw [q2D (c:=false) (q:=conT g r) fun k x hx=>by
  unfold z1Y conT
  rw [q6b h,Option.bind_some]
  try dsimp only
  rw [z2k,Option.bind_some]
  try dsimp only
  have e:(if (q6q (q3X g x.Symbol).1 x.Name).2=true then some (!decide ((q6q (q3X g x.Symbol).1 x.Name).1.Mode=3)) else some true)=some (!decide ((q6q (q3X g x.Symbol).1 x.Name).1.Mode=3)):=by
   by_cases hb:(q6q (q3X g x.Symbol).1 x.Name).2=true
   ·rw [if_pos hb]
   ·rw [if_neg hb,z5J hb]; rfl
  rw [e,Option.bind_some]
  cases decide ((q6q (q3X g x.Symbol).1 x.Name).1.Mode=3) with
  | false=>rw [Bool.and_false]; rfl
  | true=>
   rw [Bool.not_true,if_neg (by simp),z6Z h hl,Option.bind_some,Option.bind_some]
   cases decide (typE g r x.Target=4) with
   | false=>rfl
   | true=>
    rw [Bool.not_true,if_neg (by simp),z6Z h hl,Option.bind_some,Option.bind_some]
    cases decide (typE g r x.Value=2)<;>rfl]
 cases r.Equations.all fun q=>decide (typE g r q.Expr=(q6i g r q.At).1.Type_) with
 | false=>rfl
 | true=>cases r.Contributions.all (conT g r)<;>rfl
end Go.Proofs.YtiojgbiimbefiacGreat
namespace Go.Proofs.YtiojgbiimbefiacGreat
open Go Go.E
def atS (g:Grammar)(n:ByteArray):Option Nat:=g.Symbols.findIdx? fun y=>decide (y.Name=n)
def atI (g:Grammar)(n:ByteArray):Int:=match atS g n with
 | some j=>(j:Int)
 | none=>-1
theorem z2p {α ρ:Type}{q:α→Bool}{c:Nat→ρ}:∀ {xs:List α} {i:Nat} {f:Nat→α→Unit→Option (Unit ⊕ ρ)},(∀ j x,xs[j]? = some x→f (i+j) x ()=some (if q x=true then .inr (c (i+j)) else .inl ())) →
  findL f i xs ()=some (match xs.findIdx? q with | some j=>.inr (c (i+j)) | none=>.inl ())
 | [],_,_,_=>rfl
 | x :: xs,i,f,h=>by
  rw [findL,show f i x ()=_ from h 0 x rfl,Option.bind_some,List.findIdx?_cons]
  by_cases hq:q x=true
  ·rw [if_pos hq,if_pos hq]
  ·rw [if_neg hq,if_neg hq]
   have ih:=z2p (q:=q) (c:=c) (xs:=xs) (i:=i+1) (f:=f) fun j y hy=>by
    have:=h (j+1) y (by simpa using hy)
    rw [show i+1+j=i+(j+1) by omega]; exact this
   dsimp only
   rw [ih]
   cases xs.findIdx? q with
   | none=>rfl
   | some j=>simp only [Option.map_some]; rw [show i+1+j=i+(j+1) by omega]
theorem j4x (g:Grammar)(n:ByteArray):q8S g n=some (atI g n):=by
 unfold q8S atI atS
 rw [z2p (q:=fun y:Symbol=>decide (y.Name=n)) (c:=fun k=>(k:Int)) fun j x hx=>by
  unfold z5p
  by_cases hn:x.Name=n
  ·rw [if_pos hn,if_pos (by simpa using hn)]
  ·rw [if_neg hn,if_neg (by simpa using hn)]]
 cases g.Symbols.findIdx? fun y=>decide (y.Name=n) with
 | none=>rfl
 | some j=>dsimp only; rw [Nat.zero_add]; rfl
theorem j4y {g:Grammar}{n:ByteArray}{j:Nat}(h:atS g n=some j):j < g.Symbols.length:=by
 unfold atS at h
 rw [List.findIdx?_eq_some_iff_getElem] at h
 exact h.1
def okAt (g:Grammar)(hs:List Int)(n:ByteArray):Bool:=match atS g n with
 | some j=>decide (0 < hs.getD j 0)
 | none=>false
def z3s (g:Grammar)(hs:List Int)(n:ByteArray):Bool:=g.Rules.any fun r=>decide (r.Left=n)&&r.Right.all (okAt g hs)
theorem z2q {α:Type}{q:α→Bool}{f:Nat→α→Bool→Option Bool}:∀ (xs:List α) (i:Nat) (b:Bool),(∀ k x s,x∈xs→f k x s=some (s&&q x))→eachL f i xs b=some (b&&xs.all q)
 | [],_,b,_=>by simp [eachL]
 | x :: xs,i,b,h=>by
  rw [eachL,h i x b (by simp),Option.bind_some,z2q xs (i+1) _ fun k y s hy=>h k y s (by simp [hy]),List.all_cons,Bool.and_assoc]
theorem getD_some {hs:List Int}{j:Nat}(h:j < hs.length):hs[j]? = some (hs.getD j 0):=by
 rw [List.getD_eq_getElem?_getD,List.getElem?_eq_getElem h]; rfl
theorem j4z {g:Grammar}{hs:List Int}(hl:hs.length=g.Symbols.length)(n:ByteArray):q8B n g hs=some (match atS g n with | some j=>hs.getD j 0 | none=>0):=by
 unfold q8B atS
 rw [z2p (q:=fun y:Symbol=>decide (y.Name=n)) (c:=fun k=>hs.getD k 0) fun j x hx=>by
  unfold q9V
  have hj:j < g.Symbols.length:=(List.getElem?_eq_some_iff.1 hx).1
  by_cases hn:x.Name=n
  ·rw [if_pos hn,if_pos (by simpa using hn),Nat.zero_add,getD_some (by omega)]; rfl
  ·rw [if_neg hn,if_neg (by simpa using hn)]]
 cases g.Symbols.findIdx? fun y=>decide (y.Name=n) with
 | none=>rfl
 | some j=>dsimp only; rw [Nat.zero_add]; rfl
theorem z8Z {g:Grammar}{hs:List Int}(hl:hs.length=g.Symbols.length)(xs:List ByteArray)(b:Bool):eachL (q9t g hs) 0 xs b=some (b&&xs.all (okAt g hs)):=
 z2q xs 0 b fun k x s _=>by
  unfold q9t okAt
  cases s with
  | false=>rfl
  | true=>
   rw [if_pos rfl,j4z hl,Option.bind_some,Option.bind_some,Bool.true_and]
   cases atS g x<;>rfl
theorem z9a {g:Grammar}{hs:List Int}(hl:hs.length=g.Symbols.length)(xs:List ByteArray)(b:Bool):eachL (q7h g hs) 0 xs b=some (b&&xs.all (okAt g hs)):=
 z2q xs 0 b fun k x s _=>by
  unfold q7h okAt
  rw [j4x,Option.bind_some]
  unfold atI
  cases s with
  | false=>rfl
  | true=>
   cases hj:atS g x with
   | none=>rfl
   | some j=>
    have:=j4y hj
    dsimp only
    rw [if_pos rfl,Option.bind_some,decide_eq_true (Int.natCast_nonneg j),if_pos rfl]
    unfold q6X
    by_cases h0:(0:Int) < (j:Int)
    ·rw [if_pos h0,Option.bind_some,q1n (Int.natCast_nonneg j),Int.toNat_natCast,getD_some (by omega)]; rfl
    ·obtain rfl:j=0:=by omega
     rw [if_neg h0,Option.bind_some,q1n (by omega),show (0:Int).toNat=0 from rfl,getD_some (by omega)]; rfl
theorem j0H {g:Grammar}{hs:List Int}(hl:hs.length=g.Symbols.length)(n:ByteArray):q5r g n hs=some (z3s g hs n):=by
 unfold q5r z3s
 rw [q2D (c:=true) (q:=fun r:Rule=>!(decide (r.Left=n)&&r.Right.all (okAt g hs))) fun k x hx=>by
  unfold q8Z
  rw [z9a hl,Option.bind_some]
  cases (decide (x.Left=n)&&x.Right.all (okAt g hs))<;>rfl]
 have e:(g.Rules.all fun r=>!(decide (r.Left=n)&&r.Right.all (okAt g hs)))=!(g.Rules.any fun r=>decide (r.Left=n)&&r.Right.all (okAt g hs)):=by rw [List.not_any_eq_all_not]
 rw [e]
 cases g.Rules.any fun r=>decide (r.Left=n)&&r.Right.all (okAt g hs)<;>rfl
def HsOk (g:Grammar)(hs:List Int):Prop:=hs.length=g.Symbols.length∧∀ j,0≤hs.getD j 0
theorem HsOk.set {g:Grammar}{hs:List Int}(h:HsOk g hs){k:Nat}{v:Int}(hv:0≤v):HsOk g (hs.set k v):=by
 refine⟨by simpa using h.1,fun j=>?_⟩
 rw [List.getD_eq_getElem?_getD,List.getElem?_set]
 split
 ·split
  ·exact hv
  ·simp
 ·rw [← List.getD_eq_getElem?_getD]; exact h.2 j
theorem j0I {g:Grammar}{hs:List Int}(hl:hs.length=g.Symbols.length){v:Int}(k:Nat)(x:Symbol)(hk:k < g.Symbols.length):∀ (rs:List Rule) (i:Nat) (s:List Int),s.length=g.Symbols.length →
  eachL (q7S g v hs k x) i rs s=some (if (rs.any fun r=>decide (r.Left=x.Name)&&r.Right.all (okAt g hs))=true then s.set k v else s)
 | [],i,s,_=>by simp [eachL]
 | r :: rs,i,s,hs'=>by
  have e:q7S g v hs k x i r s=some (if (decide (r.Left=x.Name)&&r.Right.all (okAt g hs))=true then s.set k v else s):=by
   unfold q7S
   rw [z8Z hl,Option.bind_some]
   cases (decide (r.Left=x.Name)&&r.Right.all (okAt g hs)) with
   | false=>rfl
   | true=>rw [if_pos rfl,if_pos rfl,List.getElem?_eq_getElem (by omega)]; rfl
  rw [eachL,e,Option.bind_some]
  by_cases hb:(decide (r.Left=x.Name)&&r.Right.all (okAt g hs))=true
  ·rw [if_pos hb,j0I hl k x hk rs (i+1) (s.set k v) (by simpa using hs')]
   have:(r :: rs).any (fun r=>decide (r.Left=x.Name)&&r.Right.all (okAt g hs))=true:=by rw [List.any_cons,hb]; rfl
   rw [if_pos this,List.set_set,ite_self]
  ·rw [if_neg hb,j0I hl k x hk rs (i+1) s hs']
   have:(r :: rs).any (fun r=>decide (r.Left=x.Name)&&r.Right.all (okAt g hs))=rs.any (fun r=>decide (r.Left=x.Name)&&r.Right.all (okAt g hs)):=by rw [List.any_cons,Bool.eq_false_iff.2 hb]; rfl
   rw [this]
theorem j4Q {g:Grammar}{hs:List Int}(h:HsOk g hs){v:Int}{k:Nat}{x:Symbol}(hk:k < g.Symbols.length){s:List Int}(hs' : s.length=g.Symbols.length) :
  q7T g v hs k x s=some (if (decide (hs.getD k 0=0)&&z3s g hs x.Name)=true then s.set k v else s):=by
 have h0:=h.2 k
 unfold q7T
 rw [getD_some (by rw [h.1]; exact hk),Option.bind_some]
 by_cases hz:hs.getD k 0=0
 ·rw [if_neg (by omega),decide_eq_true hz,j0I h.1 k x hk _ _ _ hs']; rfl
 ·rw [if_pos (by omega),decide_eq_false hz]; rfl
theorem j4R {g:Grammar}{hs:List Int}(h:HsOk g hs){v:Int}{k:Nat}{x:Symbol}(hk:k < g.Symbols.length){s:List Int}(hs' : s.length=g.Symbols.length) :
  q5T g hs v k x s=some (if (decide (hs.getD k 0=0)&&z3s g hs x.Name)=true then s.set k v else s):=by
 unfold q5T
 rw [getD_some (by rw [h.1]; exact hk),Option.bind_some]
 by_cases hz:hs.getD k 0=0
 ·rw [if_pos hz,decide_eq_true hz,j0H h.1,Option.bind_some,Bool.true_and]
  cases z3s g hs x.Name with
  | false=>rfl
  | true=>rw [if_pos rfl,if_pos rfl,List.getElem?_eq_getElem (by omega)]; rfl
 ·rw [if_neg hz,decide_eq_false hz]; rfl
theorem z3t {g:Grammar}{hs:List Int}(h:HsOk g hs){v:Int}(hv:0≤v):∀ (xs:List Symbol) (i:Nat) (s:List Int),i+xs.length=g.Symbols.length→HsOk g s →
  ∃ t,eachL (q7T g v hs) i xs s=some t∧eachL (q5T g hs v) i xs s=some t∧HsOk g t
 | [],i,s,_,hs'=>⟨s,rfl,rfl,hs'⟩
 | x :: xs,i,s,hi,hs'=>by
  simp only [List.length_cons] at hi
  have e1:=j4Q (x:=x) h (v:=v) (k:=i) (by omega) hs'.1
  have e2:=j4R (x:=x) h (v:=v) (k:=i) (by omega) hs'.1
  have hn:HsOk g (if (decide (hs.getD i 0=0)&&z3s g hs x.Name)=true then s.set i v else s):=by
   split
   ·exact hs'.set hv
   ·exact hs'
  obtain⟨t,h1,h2,h3⟩:=z3t h hv xs (i+1) _ (by omega) hn
  exact⟨t,by rw [eachL,e1,Option.bind_some,h1],by rw [eachL,e2,Option.bind_some,h2],h3⟩
theorem z5K {g:Grammar}(hn:g.Symbols.length≤1048576):∃ l,z0y g=some l∧q5s g=some l∧HsOk g l:=by
 have key:∀ (m k:Nat) (hs:List Int),k+m=g.Symbols.length+1→1≤k→HsOk g hs→∃ t,q2t (q5L g) ((k:Int),hs)=some t∧q2t (q4p g) (hs,(k:Int))=some t∧HsOk g t:=by
  intro m
  induction m with
  | zero=>
   intro k hs hk _ h
   refine⟨hs,q1D ?_,q1D ?_,h⟩
   ·unfold q5L; dsimp only; rw [if_neg (by omega)]
   ·unfold q4p; dsimp only; rw [if_neg (by omega)]
  | succ m ih=>
   intro k hs hk h1 h
   have hl:=h.1
   obtain⟨t,e1,e2,e3⟩:=z3t h (v:=(k:Int)) (by omega) g.Symbols 0 hs (by omega) h
   obtain⟨q,f1,f2,f3⟩:=ih (k+1) t (by omega) (by omega) e3
   refine⟨q,?_,?_,f3⟩
   ·have e:q5L g ((k:Int),hs)=some (.inl (((k+1:Nat):Int),t)):=by
     unfold q5L; dsimp only
     rw [if_pos (by omega),q1n (by refine⟨?_,?_,?_⟩<;>omega),q1n (by simp),e1,Option.bind_some,q1n (by constructor<;>omega)]; rfl
    rw [q2c e]; exact f1
   ·have e:q4p g (hs,(k:Int))=some (.inl (t,((k+1:Nat):Int))):=by
     unfold q4p; dsimp only
     rw [if_pos (by omega),q1n (by simp only [List.length_nil]; constructor<;>omega),e2,Option.bind_some,q1n (by constructor<;>omega)]; rfl
    rw [q2c e]; exact f2
 have h0:HsOk g (List.replicate g.Symbols.length (0:Int)):=⟨by simp,fun j=>by rw [List.getD_eq_getElem?_getD,List.getElem?_replicate]; split<;>simp⟩
 obtain⟨t,f1,f2,f3⟩:=key g.Symbols.length 1 (List.replicate g.Symbols.length 0) (by omega) (by omega) h0
 refine⟨t,?_,?_,f3⟩
 ·unfold z0y
  rw [q1n (by refine⟨?_,?_,?_⟩<;>omega),show q2t (q5L g) (1,List.replicate g.Symbols.length 0)=some t from f1]; rfl
 ·unfold q5s
  rw [q1n (by refine⟨?_,?_,?_⟩<;>omega),show q2t (q4p g) (List.replicate g.Symbols.length 0,1)=some t from f2]; rfl
theorem Shape.names {g:Grammar}(h:Shape g){k j:Nat}{x y:Symbol}(hk:g.Symbols[k]? = some x)(hj:g.Symbols[j]? = some y)(hn:x.Name=y.Name):k=j:=by
 have key:∀ {k j:Nat} {x y:Symbol},g.Symbols[k]? = some x→g.Symbols[j]? = some y→x.Name=y.Name→¬ k < j:=by
  intro k j x y hk hj hn hlt
  have:=q7H _ _ h.sym j y hj
  unfold q9c at this
  rw [Bool.or_eq_false_iff] at this
  have h2:=this.2
  unfold dupB at h2
  rw [List.nil_append,List.any_eq_false] at h2
  exact h2 x (List.mem_of_getElem? (i:=k) (by rw [List.getElem?_take,if_pos hlt]; exact hk)) (by simpa using hn)
 have h1:=key hk hj hn
 have h2:=key hj hk hn.symm
 omega
theorem Shape.at_ {g:Grammar}(h:Shape g){k:Nat}{x:Symbol}(hk:g.Symbols[k]? = some x):atS g x.Name=some k:=by
 unfold atS
 cases he:g.Symbols.findIdx? fun y=>decide (y.Name=x.Name) with
 | none=>
  rw [List.findIdx?_eq_none_iff] at he
  have:=he x (List.mem_of_getElem? hk)
  simp at this
 | some j=>
  rw [List.findIdx?_eq_some_iff_getElem] at he
  obtain⟨hj,h1,_⟩:=he
  rw [h.names (List.getElem?_eq_getElem hj) hk (by simpa using h1)]
noncomputable def hgtL (g:Grammar):List Int:=(z0y g).getD []
noncomputable def j2a (g:Grammar):Int × Int:=
 if (z0R g).1=0 then
  match g.Rules.findIdx? fun r=>!typR g r with
  | some k=>(7,(k:Int))
  | none=>match (hgtL g).findIdx? fun x=>decide (x=0) with
   | some k=>(8,(k:Int))
   | none=>(0,0)
 else z0R g
theorem j2b {g:Grammar}(h:Sz.szd g≤1048576):q4C g=some (j2a g):=by
 unfold q4C j2a
 rw [j0G h,Option.bind_some]
 dsimp only
 by_cases h0:(z0R g).1=0
 ·have hS:=z7T h0
  rw [if_pos h0,if_pos h0]
  rw [z0a (q:=fun r=>!typR g r) (c:=fun k=>((7:Int),(k:Int))) fun k r hr=>by
   unfold q7Y
   rw [j1Z (q6Q h) (Nat.le_trans (z4l hr) h) fun q hq=>hS.pos hr hq,Option.bind_some]
   cases typR g r<;>rfl]
  cases g.Rules.findIdx? fun r=>!typR g r with
  | some k=>dsimp only; rw [Nat.zero_add]; rfl
  | none=>
   obtain⟨l,e1,e2,e3⟩:=z5K (g:=g) (j0y h).1
   rw [Option.bind_some,q8c]
   unfold hgtL
   rw [e1,Option.getD_some]
   have hprod:∀ k x,g.Symbols[k]? = some x→q4B g x.Name=some (!decide (l.getD k 0=0)):=by
    intro k x hk
    have hk' : k < g.Symbols.length:=(List.getElem?_eq_some_iff.1 hk).1
    have ha:atI g x.Name=(k:Int):=by unfold atI; rw [hS.at_ hk]
    unfold q4B q6Z
    rw [j4x,ha,Option.bind_some,if_neg (by omega),e2,Option.bind_some,q1n (by omega),Int.toNat_natCast,getD_some (by rw [e3.1]; exact hk'),Option.bind_some,Option.bind_some]
    have:=e3.2 k
    congr 1
    by_cases hz:l.getD k 0=0
    ·rw [decide_eq_true hz,decide_eq_false (by omega)]; rfl
    ·rw [decide_eq_false hz,decide_eq_true (by omega)]; rfl
   have hrun:∀ (xs:List Symbol) (ys:List Int) (i:Nat),(∀ j x,xs[j]? = some x→g.Symbols[i+j]? = some x)→ys.length=xs.length→(∀ j y,ys[j]? = some y→l.getD (i+j) 0=y) →
     findL (q4R g) i xs ()=some (match ys.findIdx? fun x=>decide (x=0) with | some j=>.inr (8,((i+j:Nat):Int)) | none=>.inl ()):=by
    intro xs
    induction xs with
    | nil=>
     intro ys i _ hl _
     obtain rfl:=List.eq_nil_of_length_eq_zero hl
     rfl
    | cons x xs ih=>
     intro ys i hx hl hy
     cases ys with
     | nil=>simp at hl
     | cons y ys=>
      have h1:=hprod i x (by simpa using hx 0 x rfl)
      have h2:l.getD i 0=y:=by simpa using hy 0 y rfl
      have ih:=ih ys (i+1) (fun j z hz=>by rw [show i+1+j=i+(j+1) by omega]; exact hx (j+1) z (by simpa using hz)) (by simpa using hl) fun j z hz=>by
       rw [show i+1+j=i+(j+1) by omega]; exact hy (j+1) z (by simpa using hz)
      rw [h2] at h1
      have e:q4R g i x ()=some (if y=0 then .inr (8,(i:Int)) else .inl ()):=by
       unfold q4R
       rw [h1,Option.bind_some]
       by_cases hz:y=0
       ·rw [decide_eq_true hz,if_pos hz]; rfl
       ·rw [decide_eq_false hz,if_neg hz]; rfl
      rw [findL,e,Option.bind_some,List.findIdx?_cons]
      by_cases hz:y=0
      ·rw [if_pos hz,if_pos (by simpa using hz)]; rfl
      ·rw [if_neg hz,if_neg (by simpa using hz)]
       dsimp only
       rw [ih]
       cases ys.findIdx? fun x=>decide (x=0) with
       | none=>rfl
       | some j=>simp only [Option.map_some]; rw [show i+1+j=i+(j+1) by omega]
   rw [hrun g.Symbols l 0 (fun j x hx=>by rw [Nat.zero_add]; exact hx) e3.1 fun j y hy=>by rw [Nat.zero_add,List.getD_eq_getElem?_getD,hy]; rfl]
   dsimp only
   cases l.findIdx? fun x=>decide (x=0) with
   | some k=>dsimp only; rw [Nat.zero_add]; rfl
   | none=>rfl
 ·rw [if_neg h0,if_neg h0]
noncomputable def j2c (g:Grammar):Bool:=decide ((j2a g).1=0)
theorem z9b {g:Grammar}(h:j2c g=true):Shape g:=by
 refine z7T ?_
 unfold j2c at h
 rw [decide_eq_true_eq] at h
 unfold j2a at h
 by_cases h0:(z0R g).1=0
 ·exact h0
 ·rw [if_neg h0] at h; exact h
end Go.Proofs.YtiojgbiimbefiacGreat
namespace Go.Proofs.YtiojgbiimbefiacGreat
open Go Go.E
theorem j4A {n:Nat}{x y:Int}(hx:0≤x∧x≤((2 ^ n:Nat):Int) - 1)(hy:0≤y∧y≤((2 ^ n:Nat):Int) - 1):0≤orI x y∧orI x y≤((2 ^ n:Nat):Int) - 1:=by
 have:=Nat.or_lt_two_pow (n:=n) (x:=x.toNat) (y:=y.toNat) (by omega) (by omega)
 unfold orI; omega
end Go.Proofs.YtiojgbiimbefiacGreat
namespace Go.Proofs.YtiojgbiimbefiacGreat
open Go Go.E
def q6S (g:Grammar)(s:ByteArray):List Attribute:=(q3X g s).1.Attributes.filter z0B
theorem q8U {g:Grammar}(h:GOk g)(s:ByteArray):(q6S g s).length≤1048576:=Nat.le_trans (List.length_filter_le _ _) (q6R h s)
theorem z5L {l:List Attribute}(h:l.length≤1048576):eachL q2m 0 l []=some (l.filter z0B):=by
 have:=q7F (p:=z0B) (g:=fun x:Attribute=>x) (B:=1048577) (f:=q2m) (fun k x s hs=>by
  have hg:((s.length:Int)+1)*40≤140737488355328∧(s.length:Int)+1≤9223372036854775807:=by constructor<;>omega
  unfold q2m z0B
  rw [q1n hg]
  by_cases m1:x.Mode=1
  ·rw [if_pos m1,if_pos (by simp [m1])]; rfl
  ·rw [if_neg m1]
   by_cases m2:x.Mode=2
   ·rw [if_pos m2,if_pos (by simp [m2])]; rfl
   ·rw [if_neg m2,if_neg (by simp [m1,m2])]; rfl) l 0 [] (by simp; omega)
 rw [this]; simp
theorem j0J {g:Grammar}(h:GOk g)(s:ByteArray):q2y g s=some (q6S g s):=by
 unfold q2y q6S
 rw [q6b h,Option.bind_some]
 try dsimp only
 rw [z5L (q6R h s)]; rfl
theorem z5M {g:Grammar}(h:GOk g)(s:ByteArray):q2h g s=some (q6S g s):=by
 unfold q2h q6S
 rw [q8H,Option.bind_some]
 try dsimp only
 rw [z3q,z5L (q6R h s)]; rfl
def occK (g:Grammar)(r:Rule)(k:Nat):List Occurrence:=(q6S g (q3Y r (k:Int))).map fun x=>(⟨(k:Int),x.Name⟩:Occurrence)
def occL (g:Grammar)(r:Rule):List Occurrence:=(List.range' 0 (r.Right.length+1)).flatMap (occK g r)
theorem z7V {g:Grammar}(h:GOk g)(r:Rule)(k:Nat):(occK g r k).length≤1048576:=by unfold occK; rw [List.length_map]; exact q8U h _
theorem z2r {g:Grammar}(h:GOk g){r:Rule}(hl:ROk r):q2k g r=some (occL g r):=by
 have hl' : r.Right.length≤1048576:=hl
 have key:=z0C (h:=occK g r) (C:=1048576) (n:=r.Right.length+1) (f:=q3r g r) (fun k s hk hs=>by
  unfold q3r
  rw [z2l hl,Option.bind_some,z5M h,Option.bind_some,z2g k _ 0 s (by have:=q8U h (q3Y r (k:Int)); omega)]; rfl)
  (fun k _=>z7V h r k) (r.Right.length+1) 0 [] (by omega) (by simp)
 unfold q2k
 rw [q1n (by constructor<;>omega),key]; rfl
theorem j3G {g:Grammar}(h:GOk g){r:Rule}(hl:ROk r):q2F g r=some (occL g r):=by
 have hl' : r.Right.length≤1048576:=hl
 have key:=z2j (h:=occK g r) (C:=1048576) (n:=r.Right.length+1) (f:=q1Q g r) (fun k s hk hs=>by
  unfold q1Q
  dsimp only
  rw [if_pos (by omega),q7l hl,Option.bind_some,j0J h,Option.bind_some,z7Q,z2g k _ 0 s (by have:=q8U h (q3Y r (k:Int)); omega),Option.bind_some,q1n (by constructor<;>omega)]; rfl) (fun s=>by
  unfold q1Q; dsimp only; rw [if_neg (by omega)]) (fun k _=>z7V h r k) (r.Right.length+1) 0 [] (by omega) (by simp)
 unfold q2F
 have e:q2t (q1Q g r) (([]:List Occurrence),0)=some ([]++(List.range' 0 (r.Right.length+1)).flatMap (occK g r)):=key
 rw [e]; rfl
theorem j2d {g:Grammar}(h:GOk g){r:Rule}(hl:ROk r):(occL g r).length≤1099512676352:=by
 obtain⟨l,_,h2,h3⟩:=z7R h hl
 rw [z2r h hl] at h2
 cases h2; exact h3
def posL (g:Grammar)(r:Rule)(k:Int):List Int:=(((occL g r).zipIdx 0).filter fun q=>decide (q.1.Pos=k)).map fun q=>(q.2:Int)
theorem j2e (k:Int){l:List Occurrence}(h:l.length≤1099512676352):eachL (q4j k) 0 l []=some (((l.zipIdx 0).filter fun q=>decide (q.1.Pos=k)).map fun q=>(q.2:Int)):=by
 have:=z2i (p:=fun x:Occurrence=>decide (x.Pos=k)) (g:=fun i:Nat=>(i:Int)) (B:=4398046511104) (f:=q4j k) (fun i x s hs=>by
  have hg:((s.length:Int)+1)*8≤140737488355328∧(s.length:Int)+1≤9223372036854775807:=by constructor<;>omega
  unfold q4j
  rw [q1n hg]
  by_cases m1:x.Pos=k
  ·rw [if_pos m1,if_pos (by simp [m1])]; rfl
  ·rw [if_neg m1,if_neg (by simp [m1])]; rfl) l 0 [] (by simp; omega)
 rw [this]; simp
theorem j3H {g:Grammar}(h:GOk g){r:Rule}(hl:ROk r)(k:Int):q3K g r k=some (posL g r k):=by
 unfold q3K posL
 rw [z2r h hl,Option.bind_some,z2E,j2e k (j2d h hl)]; rfl
theorem z5N {α:Type}(p:α→Bool):∀ (l:List α) (i:Nat),((l.zipIdx i).filter fun q=>p q.1).length=l.countP p
 | [],i=>rfl
 | x :: l,i=>by
  rw [List.zipIdx_cons,List.filter_cons,List.countP_cons]
  have ih:=z5N p l (i+1)
  by_cases hp:p x=true
  ·rw [if_pos hp,if_pos hp,List.length_cons,ih]
  ·rw [if_neg hp,if_neg hp,ih]; rfl
theorem j3I (g:Grammar){r:Rule}{k:Nat}(hk:k≤r.Right.length):(posL g r (k:Int)).length=(q6S g (q3Y r (k:Int))).length:=by
 unfold posL
 rw [List.length_map,z5N (fun x:Occurrence=>decide (x.Pos=(k:Int)))]
 unfold occL
 rw [List.countP_flatMap]
 have hK:∀ j:Nat,(occK g r j).countP (fun x=>decide (x.Pos=(k:Int)))=if j=k then (q6S g (q3Y r (k:Int))).length else 0:=by
  intro j
  unfold occK
  rw [List.countP_map]
  by_cases hj:j=k
  ·subst hj
   rw [if_pos rfl,List.countP_eq_length.2 (by simp)]
  ·rw [if_neg hj,List.countP_eq_zero.2]
   intro a _
   simp; omega
 have hsum:∀ m i,((List.range' i m).map (List.countP (fun x:Occurrence=>decide (x.Pos=(k:Int))) ∘ occK g r)).sum=if i≤k∧k < i+m then (q6S g (q3Y r (k:Int))).length else 0:=by
  intro m
  induction m with
  | zero=>intro i; rw [if_neg (by omega)]; rfl
  | succ m ih=>
   intro i
   rw [List.range'_succ,List.map_cons,List.sum_cons,ih (i+1),Function.comp,hK i]
   by_cases h1:i=k
   ·rw [if_pos h1,if_neg (by omega),if_pos (by omega)]; rfl
   ·rw [if_neg h1,Nat.zero_add]
    by_cases h2:i+1≤k∧k < i+1+m
    ·rw [if_pos h2,if_pos (by omega)]
    ·rw [if_neg h2,if_neg (by omega)]
 rw [hsum,if_pos (by omega)]
noncomputable def locR (g:Grammar) (r:Rule):Relation:=(q3c g r).getD ⟨0,[]⟩
theorem j0K {g:Grammar}{r:Rule}(h:Sz.szd g≤1048576)(hr:Sz.szd r≤1048576):q3c g r=some (locR g r)∧q2E g r=some (locR g r)∧(locR g r).Rows.length≤16:=by
 obtain⟨x,h1,h2,h3⟩:=z8U h hr
 unfold locR
 rw [h1,h2]; exact⟨rfl,rfl,h3⟩
end Go.Proofs.YtiojgbiimbefiacGreat
namespace Go.Proofs.YtiojgbiimbefiacGreat
open Go Go.E
section
variable {α β ρ σ:Type}{Q:β→Prop}{b:List UInt8}
theorem Ok.bif {c:Prop}[Decidable c]{A B:Option α}{k:α→Option β}(h1:c→Ok Q (A.bind k))(h2:¬ c→Ok Q (B.bind k)):Ok Q ((if c then A else B).bind k):=by
 by_cases hc:c
 ·rw [if_pos hc]; exact h1 hc
 ·rw [if_neg hc]; exact h2 hc
theorem Ok.bso {x:α}{k:α→Option β}(h:Ok Q (k x)):Ok Q ((some x).bind k):=h
theorem Ok.bbi {γ:Type}{A:Option α}{B:α→Option γ}{k:γ→Option β}(h:Ok Q (A.bind fun x=>(B x).bind k)):Ok Q ((A.bind B).bind k):=by
 rw [Option.bind_assoc]; exact h
theorem Ok.bgr {c:Prop}[Decidable c]{A:Option α}{k:α→Option β}(hc:c)(h:Ok Q (A.bind k)):Ok Q ((Go.E.grd c A).bind k):=by rw [q1n hc]; exact h
theorem Ok.get {l:List α}{j:Nat}{k:α→Option β}(hj:j < l.length)(h:∀ x,x∈l→Ok Q (k x)):Ok Q ((l[j]?).bind k):=by
 obtain⟨x,hx⟩:∃ x,l[j]? = some x:=⟨_,List.getElem?_eq_getElem hj⟩
 rw [hx]; exact h x (List.mem_of_getElem? hx)
theorem Ok.eq {A:Option α}{x:α}{k:α→Option β}(hA:A=some x)(h:Ok Q (k x)):Ok Q (A.bind k):=by rw [hA]; exact h
theorem drK {P:α→Prop}{o:Option (α × l1Cur)}(ho:Dr b P o){k:α × l1Cur→Option β}(hk:∀ y i' h',P y→0≤i'→Ok Q (k (y,⟨b,i',h'⟩))):Ok Q (o.bind k):=by
 obtain⟨⟨y,z⟩,rfl,hy,hz,he⟩:=ho
 obtain⟨zb,zi,zh⟩:=z
 dsimp only at he hz hy
 subst he
 exact hk y zi zh hy hz
theorem cb {i h:Int}(hi:0≤i):CB b ⟨b,i,h⟩:=⟨hi,rfl⟩
theorem Dr.re {P:α→Prop}{y:α}{i h:Int}(hy:P y)(hi:0≤i):Dr b P (some (y,(⟨b,i,h⟩:l1Cur))):=⟨_,rfl,hy,hi,rfl⟩
theorem z4p {P:σ→Prop}{Q:ρ→Prop}{f:σ→Option (σ ⊕ ρ)}(μ:σ→Nat)(hf:∀ s,P s→Ok (fun z=>match z with | .inl s'=>P s'∧μ s' < μ s | .inr r=>Q r) (f s)):∀ s,P s→Ok Q (q2t f s):=by
 have key:∀ n s,μ s < n→P s→Ok Q (q2t f s):=by
  intro n
  induction n with
  | zero=>intro s h; omega
  | succ n ih=>
   intro s h hp
   obtain⟨z,hz,hq⟩:=hf s hp
   cases z with
   | inl s'=>rw [q2c hz]; exact ih s' (by have:=hq.2; omega) hq.1
   | inr r=>exact⟨r,q1D hz,hq⟩
 exact fun s hs=>key _ s (Nat.lt_succ_self _) hs
end
theorem z7a {α β:Type}{Q:β→Prop}(P:Nat→List α→Prop){f:Nat→Int × Int × List α→Option (Int × Int × List α)}{k:Int × Int × List α→Option β}{n:Nat}{i h:Int}{l:List α}(hi:0≤i)(h0:P 0 l)
  (hf:∀ j l i h,j < n→0≤i→P j l→Ok (fun s:Int × Int × List α=>0≤s.1∧P (j+1) s.2.2) (f j (i,h,l))) (hk:∀ l i h,0≤i→P n l→Ok Q (k (i,h,l))):Ok Q ((eachN f 0 n (i,h,l)).bind k):=by
 obtain⟨s,e,h1⟩:=z4f (P:=fun k (s:Int × Int × List α)=>0≤s.1∧P k s.2.2) (f:=f) (n:=n) (i:=0) (s:=(i,h,l)) ⟨hi,h0⟩ fun j s _ hj hs=>hf j _ _ _ (by omega) hs.1 hs.2
 rw [e]
 rw [Nat.zero_add] at h1
 exact hk _ _ _ h1.1 h1.2
theorem j3J {γ α β:Type}{Q:β→Prop}(P:Nat→List α→Prop){f:Nat→γ→Int × Int × List α→Option (Int × Int × List α)}{k:Int × Int × List α→Option β}{xs:List γ}{i h:Int}{l:List α}(hi:0≤i)(h0:P 0 l)
  (hf:∀ j x l i h,x∈xs→j < xs.length→0≤i→P j l→Ok (fun s:Int × Int × List α=>0≤s.1∧P (j+1) s.2.2) (f j x (i,h,l))) (hk:∀ l i h,0≤i→P xs.length l→Ok Q (k (i,h,l))):Ok Q ((eachL f 0 xs (i,h,l)).bind k):=by
 obtain⟨s,e,h1⟩:=z4g (P:=fun k (s:Int × Int × List α)=>0≤s.1∧P k s.2.2) (f:=f) (xs:=xs) (i:=0) (s:=(i,h,l)) ⟨hi,h0⟩ fun j x s hx _ hj hs=>hf j x _ _ _ hx (by omega) hs.1 hs.2
 rw [e]
 rw [Nat.zero_add] at h1
 exact hk _ _ _ h1.1 h1.2
def SB (s:Symbol):Prop:=s.Name.size≤8∧1≤s.Attributes.length∧s.Attributes.length≤5∧∀ a∈s.Attributes,a.Name.size≤8
def RB (r:Rule):Prop:=r.Name.size≤8∧r.Left.size≤8∧r.Right.length≤5∧(∀ x∈r.Right,x.size≤8)
def SBs (l:List Symbol):Prop:=1≤l.length∧l.length≤3∧∀ s∈l,SB s
theorem z5O {α:Type}[Sz α]{m:Nat}:∀ {l:List α},(∀ x∈l,Sz.szd x≤m)→szL l≤l.length*(m+1)
 | [],_=>by simp [szL]
 | x :: l,h=>by
  have h1:=z5O (m:=m) (l:=l) fun y hy=>h y (by simp [hy])
  have h2:=h x (by simp)
  simp only [szL,List.length_cons,Nat.add_mul]; omega
theorem RB.rok {r:Rule}(h:RB r):ROk r:=by have:=h.2.2.1; show r.Right.length≤1048576; omega
section
variable {b:List UInt8}(hb:b.length≤1048576)
include hb
theorem j4B {x:ByteArray}(h:x∈[(⟨#[97]⟩:ByteArray),(⟨#[98]⟩:ByteArray),(⟨#[99]⟩:ByteArray),(⟨#[100]⟩:ByteArray)]):x.size≤8:=by
 simp only [List.mem_cons,List.not_mem_nil,or_false] at h
 rcases h with h | h | h | h<;>rw [h]<;>decide
theorem j2H {nm:ByteArray}(hn:nm.size≤8)(a2 a3:Bool){i h:Int}(hi:0≤i):Dr b SB (q7p nm a2 a3 ⟨b,i,h⟩):=by
 unfold q7p
 refine drK (q1F hb 4 ⟨hi,rfl⟩) fun y i1 h1 hy hi1=>?_
 have h4:=hy.2.1 (by omega)
 refine .grd (by constructor<;>omega) ?_
 refine z7a (fun k l=>l.length=k∧∀ a∈l,a.Name.size≤8) hi1 ⟨rfl,by simp⟩ (fun k s1 s2 s3 hk hs1 hs=>?_) fun s1 i2 h2 p1 hs=>?_
 ·obtain⟨hs2,hs3⟩:=hs
  unfold z2V
  dsimp only
  refine .bbi (.get (by simp; omega) fun x1 hx1=>?_)
  have hx1:=j4B hb hx1
  have fin:∀ (t m:Int) (i' h' : Int),0≤i'→Ok (fun s:Int × Int × List Attribute=>0≤s.1∧(s.2.2.length=k+1∧∀ a∈s.2.2,a.Name.size≤8)) (some (i',h',s1++[(⟨x1,t,m,false⟩:Attribute)])):=fun t m i' h' hi'=>by
   refine .ret ⟨hi',by simp [hs2],fun a ha=>?_⟩
   simp only [List.mem_append,List.mem_cons,List.not_mem_nil,or_false] at ha
   rcases ha with ha | ha
   ·exact hs3 a ha
   ·rw [ha]; exact hx1
  refine .bbi (drK (q4Y hb (by simp) ⟨hs1,rfl⟩) fun t i2 h2 _ hi2=>?_)
  refine .bbi (drK (q4Y hb (by simp) ⟨hi2,rfl⟩) fun m i3 h3 _ hi3=>?_)
  cases a2<;>cases a3<;>dsimp only
  all_goals
   repeat' first
    | ((with_reducible refine .bso ?_); try dsimp only)
    | (with_reducible exact fin _ _ _ _ (by assumption))
    | ((with_reducible refine .bbi ?_); try dsimp only)
    | (with_reducible refine .bif (fun _=>?_) fun _=>?_)
    | (with_reducible refine .ite (fun _=>?_) fun _=>?_)
    | ((with_reducible refine drK (q4H hb _ (cb (by assumption))) fun _ _ _ _ _=>?_); try dsimp only)
    | ((with_reducible refine drK (q4Y hb (by simp) (cb (by assumption))) fun _ _ _ _ _=>?_); try dsimp only)
    | ((with_reducible refine drK (q1F hb _ (cb (by assumption))) fun _ _ _ _ _=>?_); try dsimp only)
    | (refine .bgr (by constructor<;>omega) ?_)
    | (refine .grd (by constructor<;>omega) ?_)
 ·obtain⟨p2,p3⟩:=hs
  dsimp only
  exact Dr.re ⟨hn,by dsimp only; omega,by dsimp only; omega,p3⟩ p1
end
end Go.Proofs.YtiojgbiimbefiacGreat
namespace Go.Proofs.YtiojgbiimbefiacGreat
open Go Go.E
theorem z4q {g:Grammar}(h:SBs g.Symbols)(nm:ByteArray):(q3X g nm).1.Attributes.length≤5∧∀ a∈(q3X g nm).1.Attributes,a.Name.size≤8:=by
 unfold q3X
 split
 ·rename_i y hy
  have:=h.2.2 y (List.mem_of_find?_eq_some hy)
  exact⟨this.2.2.1,this.2.2.2⟩
 ·exact⟨by simp [zS],by simp [zS]⟩
theorem j2f {y:Symbol}(h:∀ a∈y.Attributes,a.Name.size≤8)(nm:ByteArray):q2j y nm=some (q6q y nm):=by
 unfold q2j q6q
 rw [q5M (p:=fun a=>decide (a.Name=nm)) (r:=fun a=>(a,true)) fun k x _=>⟨fun hp=>by unfold q5C; rw [if_pos (by simpa using hp)],fun hp=>by unfold q5C; rw [if_neg (by simpa using hp)]⟩]
 cases y.Attributes.find? fun a=>decide (a.Name=nm)<;>rfl
theorem SBs.g {g:Grammar}(h:SBs g.Symbols):GOk g:=fun y hy=>by have:=(h.2.2 y hy).2.2.1; omega
theorem j2g {g:Grammar}(hs:SBs g.Symbols){r:Rule}(hr:r.Right.length≤5)(k:Int):Ok (fun q=>∀ o∈q,o.Name.size≤8) (q5P g r k):=by
 unfold q5P
 refine Ok.bind (Q:=fun q=>∀ o∈q,o.Name.size≤8) (z4p (P:=fun s:List Occurrence × Int=>0≤s.2∧s.2≤r.Right.length+1∧(s.1.length:Int)≤5*s.2∧∀ o∈s.1,o.Name.size≤8) (fun s=>(r.Right.length+1 - s.2).toNat) ?_ _ ⟨by simp,by simp; omega,by simp,by simp⟩) fun q hq=>.ret hq
 rintro⟨q,p⟩ ⟨h1,h2,h3,h4⟩
 dsimp only at h1 h2 h3 h4
 unfold z5d
 dsimp only
 refine .ite (fun hp=>?_) fun _=>.ret h4
 refine .eq (q7l (show r.Right.length≤1048576 by omega) p) ?_
 refine .eq (q6b hs.g _) ?_
 have hff:=z4q hs (q3Y r p)
 generalize q3X g (q3Y r p)=fs at hff
 obtain⟨y,yb⟩:=fs
 obtain⟨f1,f2⟩:=hff
 dsimp only at f1 f2 ⊢
 refine Ok.bind (Q:=fun q'=>q'.length≤q.length+5∧∀ o∈q',o.Name.size≤8) ((z4g (P:=fun k q'=>q'.length≤q.length+k∧∀ o∈q',o.Name.size≤8) (i:=0) ⟨by omega,h4⟩ ?_).mono fun q' hq=>⟨by omega,hq.2⟩) fun q' hq=>.grd (by constructor<;>omega) (.ret ⟨⟨by dsimp only; omega,by dsimp only; omega,by dsimp only; omega,hq.2⟩,by dsimp only; omega⟩)
 intro j a l ha _ hj hl
 have hl1:=hl.1
 have hl2:=hl.2
 have ha:=f2 a ha
 unfold z5c
 dsimp only
 have e1:Ok (fun q' : List Occurrence=>q'.length≤q.length+(j+1)∧∀ o∈q',o.Name.size≤8) (some l):=.ret ⟨by omega,hl2⟩
 have e2:Ok (fun q' : List Occurrence=>q'.length≤q.length+(j+1)∧∀ o∈q',o.Name.size≤8) (some (l++[(⟨p,a.Name⟩:Occurrence)])):=.ret ⟨by simp; omega,fun o ho=>by
  simp only [List.mem_append,List.mem_cons,List.not_mem_nil,or_false] at ho
  rcases ho with ho | ho
  ·exact hl2 o ho
  ·rw [ho]; exact ha⟩
 have hb:([]:List UInt8).length≤1048576:=by simp
 repeat' first
  | ((with_reducible refine .bso ?_); try dsimp only)
  | (with_reducible exact e1)
  | (with_reducible exact e2)
  | ((with_reducible refine .bbi ?_); try dsimp only)
  | (with_reducible refine .bif (fun _=>?_) fun _=>?_)
  | (with_reducible refine .ite (fun _=>?_) fun _=>?_)
  | ((with_reducible refine drK (q4H hb _ (cb (by assumption))) fun _ _ _ _ _=>?_); try dsimp only)
  | ((with_reducible refine drK (q4Y hb (by simp) (cb (by assumption))) fun _ _ _ _ _=>?_); try dsimp only)
  | ((with_reducible refine drK (q1F hb _ (cb (by assumption))) fun _ _ _ _ _=>?_); try dsimp only)
  | (refine .bgr (by constructor<;>omega) ?_)
  | (refine .grd (by constructor<;>omega) ?_)
theorem j4S (a:Int):Ok (fun _=>True) (q1M a):=by
 unfold q1M
 rw [q4S,Option.bind_some,q4S,Option.bind_some]
 repeat' first
  | exact .ret trivial
  | refine .ite (fun _=>?_) fun _=>?_
theorem j4T (a:Int)(x y:Expr):q6z a x y=some (⟨4,a,0,0,(⟨#[]⟩:ByteArray),(⟨#[]⟩:ByteArray),[x,y]⟩:Expr):=rfl
theorem j3K (g:Grammar)(r:Rule)(rem:Bool):∀ (m n1 n2:Nat),m < n1→m < n2→∀ (k d:Int) (o:l1Cur),d≤m+1→q2M n1 g r k d rem o=q2M n2 g r k d rem o:=by
 intro m
 induction m with
 | zero=>
  intro n1 n2 h1 h2 k d o hd
  obtain⟨n1,rfl⟩:∃ q,n1=q+1:=⟨n1 - 1,by omega⟩
  obtain⟨n2,rfl⟩:∃ q,n2=q+1:=⟨n2 - 1,by omega⟩
  show q3q (q2M n1) g r k d rem o=q3q (q2M n2) g r k d rem o
  unfold q3q
  simp only [if_pos (show d < 2 by omega),Option.bind_some,if_true]
 | succ m ih=>
  intro n1 n2 h1 h2 k d o hd
  obtain⟨n1,rfl⟩:∃ q,n1=q+1:=⟨n1 - 1,by omega⟩
  obtain⟨n2,rfl⟩:∃ q,n2=q+1:=⟨n2 - 1,by omega⟩
  show q3q (q2M n1) g r k d rem o=q3q (q2M n2) g r k d rem o
  have h:∀ k o,q2M n1 g r k (d - 1) rem o=q2M n2 g r k (d - 1) rem o:=fun k o=>ih n1 n2 (by omega) (by omega) k (d - 1) o (by omega)
  unfold q3q
  simp only [h]
section
variable {b:List UInt8}(hb:b.length≤1048576)
include hb
theorem j2h {g:Grammar}(hs:SBs g.Symbols){r:Rule}(hr:r.Right.length≤5)(rem:Bool):∀ (m n:Nat),m < n→∀ (k d i h:Int),d≤m+1→-1000+m≤d→d≤1000→0≤i→Dr b (fun e=>Sz.szd e≤fb m) (q2M n g r k d rem ⟨b,i,h⟩):=by
 intro m
 induction m with
 | zero=>
  intro n hn k d i h hd hd0 hd1 hi
  obtain⟨n,rfl⟩:∃ q,n=q+1:=⟨n - 1,by omega⟩
  show Dr b _ (q3q (q2M n) g r k d rem ⟨b,i,h⟩)
  unfold q3q
  rw [if_pos (show d < 2 by omega)]
  dsimp only
  rw [Option.bind_some]
  dsimp only
  rw [if_pos rfl]
  unfold Dr
  have hf:=z3n hb 0
  repeat' first
   | ((with_reducible refine .bso ?_); try dsimp only)
   | ((with_reducible refine .bind (j2g hs hr _) fun _ _=>?_))
   | ((with_reducible refine drK (z0A hb _ (by assumption) (cb (by assumption))) fun _ _ _ _ _=>?_); try dsimp only)
   | ((with_reducible refine .bbi ?_); try dsimp only)
   | (with_reducible refine .bif (fun _=>?_) fun _=>?_)
   | (with_reducible refine .ite (fun _=>?_) fun _=>?_)
   | ((with_reducible refine drK (q4H hb _ (cb (by assumption))) fun _ _ _ _ _=>?_); try dsimp only)
   | ((with_reducible refine drK (q4Y hb (by simp) (cb (by assumption))) fun _ _ _ _ _=>?_); try dsimp only)
   | ((with_reducible refine drK (q1F hb _ (cb (by assumption))) fun _ _ _ _ _=>?_); try dsimp only)
   | (refine .bgr (by constructor<;>omega) ?_)
   | (refine .grd (by constructor<;>omega) ?_)
  all_goals refine⟨_,rfl,?_,by assumption,rfl⟩
  all_goals dsimp only
  all_goals first
   | (rw [z3m hb,q6p hb]; omega)
   | omega
 | succ m ih=>
  intro n hn k d i h hd hd0 hd1 hi
  obtain⟨n,rfl⟩:∃ q,n=q+1:=⟨n - 1,by omega⟩
  have hr1:∀ k i h,0≤i→Dr b (fun e=>Sz.szd e≤fb m) (q2M n g r k (d - 1) rem ⟨b,i,h⟩):=fun k i h hi=>ih n (by omega) k (d - 1) i h (by omega) (by omega) (by omega) hi
  show Dr b _ (q3q (q2M n) g r k d rem ⟨b,i,h⟩)
  unfold q3q Dr
  dsimp only
  have hl:=hs.1
  have hf:=z3n hb m
  have hg:=j0i hb m
  have hid:I64 (d - 1):=by constructor<;>omega
  repeat' first
   | ((with_reducible refine .bso ?_); try dsimp only)
   | ((with_reducible refine .bind (j2g hs hr _) fun _ _=>?_))
   | ((with_reducible refine drK (z0A hb _ (by assumption) (cb (by assumption))) fun _ _ _ _ _=>?_); try dsimp only)
   | ((with_reducible refine drK (hr1 _ _ _ (by assumption)) fun _ _ _ _ _=>?_); try dsimp only)
   | ((with_reducible refine .bind (j4S _) fun _ _=>?_); try dsimp only)
   | ((with_reducible refine .eq (j4T _ _ _) ?_); try dsimp only)
   | ((with_reducible refine .grd hid ?_))
   | ((with_reducible refine .grd (by omega) ?_))
   | ((with_reducible refine .get (l:=g.Symbols) (by omega) fun x hx=>?_); obtain⟨_,_,_,hat⟩:=hs.2.2 x hx)
   | ((with_reducible refine .get (by omega) fun x hx=>?_); have hxn:=hat x hx)
   | ((with_reducible refine .bbi ?_); try dsimp only)
   | (with_reducible refine .bif (fun _=>?_) fun _=>?_)
   | (with_reducible refine .ite (fun _=>?_) fun _=>?_)
   | ((with_reducible refine drK (q4H hb _ (cb (by assumption))) fun _ _ _ _ _=>?_); try dsimp only)
   | ((with_reducible refine drK (q4Y hb (by simp) (cb (by assumption))) fun _ _ _ _ _=>?_); try dsimp only)
   | ((with_reducible refine drK (q1F hb _ (cb (by assumption))) fun _ _ _ _ _=>?_); try dsimp only)
   | (refine .bgr (by constructor<;>omega) ?_)
   | (refine .grd (by constructor<;>omega) ?_)
  all_goals refine⟨_,rfl,?_,by assumption,rfl⟩
  all_goals dsimp only at *
  all_goals first
   | (rw [z3m hb,q6p hb]; omega)
   | (rw [j2E hb]; omega)
   | (rw [j0h hb,q6p hb]; omega)
   | (rw [z7M hb,q6p hb]; omega)
   | omega
theorem j3L {g:Grammar}(hs:SBs g.Symbols){r:Rule}(hr:r.Right.length≤5)(rem:Bool)(k d i h:Int)(h0:0≤d)(h3:d≤3)(hi:0≤i):Dr b (fun e=>Sz.szd e≤320) (z0j g r k d rem ⟨b,i,h⟩):=
 j0g (N:=3) (fun n hn=>j3K g r rem 2 (n+1) n (by omega) (by omega) k d _ (by omega)) (j2h hb hs hr rem 2 3 (by omega) k d i h (by omega) (by omega) (by omega) hi)
end
end Go.Proofs.YtiojgbiimbefiacGreat
namespace Go.Proofs.YtiojgbiimbefiacGreat
open Go Go.E
theorem z7W {α β:Type}{f:α→List β}{C:Nat}(h:∀ x,(f x).length≤C):∀ l:List α,(l.flatMap f).length≤l.length*C
 | []=>by simp
 | x :: l=>by
  have h1:=z7W h l
  have h2:=h x
  simp only [List.flatMap_cons,List.length_append,List.length_cons,Nat.add_mul]; omega
theorem j0L {g:Grammar}(hs:SBs g.Symbols)(r:Rule)(k:Nat):(reqK g r k).length≤5∧∀ o∈reqK g r k,o.Name.size≤8:=by
 obtain⟨f1,f2⟩:=z4q hs (q3Y r (k:Int))
 unfold reqK
 refine⟨by rw [List.length_map]; exact Nat.le_trans (List.length_filter_le _ _) f1,fun o ho=>?_⟩
 obtain⟨a,ha,rfl⟩:=List.mem_map.1 ho
 exact f2 a (List.mem_filter.1 ha).1
theorem j3M {g:Grammar}(hs:SBs g.Symbols){r:Rule}(hr:r.Right.length≤5):(reqL g r).length≤30∧∀ o∈reqL g r,o.Name.size≤8:=by
 unfold reqL
 refine⟨?_,fun o ho=>?_⟩
 ·have:=z7W (C:=5) (fun k=>(j0L hs r k).1) (List.range' 0 (r.Right.length+1))
  rw [List.length_range'] at this
  omega
 ·obtain⟨k,_,hk⟩:=List.mem_flatMap.1 ho
  exact (j0L hs r k).2 o hk
theorem z0b {α:Type}[Sz α](l:List α)(x:α):szL (l++[x])=szL l+(1+Sz.szd x):=by rw [z0c]; rfl
theorem z5P (o:Occurrence)(e:Expr):Sz.szd (⟨o,e⟩:Equation)=o.Name.size+Sz.szd e:=by rw [z0M,q3k]; dsimp only; omega
theorem j2I (s m:ByteArray)(e f:Expr):Sz.szd (⟨s,m,e,f⟩:Contribution)=s.size+m.size+Sz.szd e+Sz.szd f:=by rw [q7Z,q3k,q3k]; dsimp only; omega
section
variable {b:List UInt8}(hb:b.length≤1048576)
include hb
theorem j3N {g:Grammar}(hs:SBs g.Symbols){r:Rule}(hr:RB r)(he:r.Equations=[])(rem:Bool){i h:Int}(hi:0≤i):Dr b (fun q=>RB q∧szL q.Equations≤12000∧q.Contributions=r.Contributions) (q7s g r rem ⟨b,i,h⟩):=by
 have h5:=hr.2.2.1
 obtain⟨q1,q2⟩:=j3M hs h5
 unfold q7s
 refine .eq (z6S hs.g hr.rok) ?_
 refine j3J (fun j (l:List Equation)=>l.length=j∧szL l≤j*400) hi (by rw [he]; exact⟨rfl,by simp [szL]⟩) (fun j x l i h hx hj hi hl=>?_) fun l i h hi hl=>?_
 ·obtain⟨hl1,hl2⟩:=hl
  have hx:=q2 x hx
  have fin:∀ (e:Expr) (i' h' : Int),Sz.szd e≤320→0≤i'→Ok (fun s:Int × Int × List Equation=>0≤s.1∧(s.2.2.length=j+1∧szL s.2.2≤(j+1)*400)) (some (i',h',l++[(⟨x,e⟩:Equation)])):=fun e i' h' h1 hi'=>.ret ⟨hi',by simp [hl1],by dsimp only; rw [z0b,z5P]; omega⟩
  unfold z1M
  dsimp only
  refine .bbi (.eq (q7l (show r.Right.length≤1048576 by omega) _) ?_)
  refine .bbi (.eq (q6b hs.g _) ?_)
  have hff:=z4q hs (q3Y r x.Pos)
  generalize q3X g (q3Y r x.Pos)=fs at hff
  obtain⟨y,yb⟩:=fs
  obtain⟨f1,f2⟩:=hff
  dsimp only at f1 f2 ⊢
  refine .bbi (.eq (j2f f2 _) ?_)
  generalize q6q y x.Name=fa
  obtain⟨a,ab⟩:=fa
  dsimp only
  refine .bbi (drK (q1F hb 3 (cb hi)) fun d i1 h1 hd hi1=>?_)
  have hd3:=hd.2.1 (by omega)
  refine .bgr (by constructor<;>omega) ?_
  refine .bbi (drK (j3L hb hs (r:=⟨r.Name,r.Left,r.Right,r.Literal,l,r.Contributions⟩) h5 rem _ _ _ _ (by omega) (by omega) hi1) fun e i2 h2 he2 hi2=>?_)
  dsimp only at he2 ⊢
  refine .bbi (.eq (q9Z (by have:=j0k hb he2; omega)) ?_)
  refine .bif (fun _=>?_) fun _=>?_
  ·refine .bgr (by constructor<;>omega) ?_
   exact fin _ _ _ he2 hi2
  ·refine .bbi (drK (z0A hb _ (by simp) (cb hi2)) fun e3 i3 h3 he3 hi3=>?_)
   refine .bgr (by constructor<;>omega) ?_
   exact fin _ _ _ (by show Sz.szd e3≤320; have:Sz.szd e3≤8:=he3; omega) hi3
 ·exact⟨_,rfl,⟨hr,by have:=hl.2; dsimp only; omega,rfl⟩,hi,rfl⟩
theorem j4C {g:Grammar}(hs:SBs g.Symbols){r:Rule}(hr:RB r)(hc:r.Contributions=[]){i h:Int}(hi:0≤i):Dr b (fun q=>RB q∧q.Equations=r.Equations∧szL q.Contributions≤200) (q8m g r ⟨b,i,h⟩):=by
 have h5:=hr.2.2.1
 unfold q8m
 refine j3J (fun _ (l:List Contribution)=>l.length≤2∧szL l≤l.length*40) hi (by rw [hc]; simp [szL]) (fun j x l i h hx hj hi hl=>?_) fun l i h hi hl=>?_
 ·obtain⟨s1,_,_,s2⟩:=hs.2.2 x hx
  unfold z2Y
  dsimp only
  refine j3J (fun _ (l:List Contribution)=>l.length≤2∧szL l≤l.length*40) hi hl (fun j2 a l i h ha hj hi hl=>?_) fun l i h hi hl=>.ret ⟨hi,hl⟩
  have ha:=s2 a ha
  unfold z2X
  dsimp only
  refine .bbi ?_
  refine .bif (fun _=>.bso ?_) fun _=>.bso ?_
  ·refine .bbi ?_
   refine .bif (fun h2=>?_) fun _=>.bso ?_
   ·have hl2:l.length < 2:=by have:=of_decide_eq_true h2; omega
    refine .bbi (drK (q4H hb _ (cb hi)) fun y i1 h1 _ hi1=>?_)
    refine .bso ?_
    dsimp only
    refine .bif (fun _=>?_) fun _=>.bso ?_
    ·refine .bbi (.bind (j2g hs (r:=⟨r.Name,r.Left,r.Right,r.Literal,r.Equations,l⟩) h5 _) fun q hq=>?_)
     refine .bbi (drK (z0A hb _ hq (cb hi1)) fun e i2 h2 he hi2=>?_)
     refine .bbi (.bind (j2g hs (r:=⟨r.Name,r.Left,r.Right,r.Literal,r.Equations,l⟩) h5 _) fun q3 hq3=>?_)
     refine .bbi (drK (z0A hb _ hq3 (cb hi2)) fun e3 i3 h3 he3 hi3=>?_)
     refine .bgr (by constructor<;>omega) ?_
     refine .bso (.ret ⟨hi3,by dsimp only; simp; omega,?_⟩)
     dsimp only at he he3 ⊢
     rw [z0b,j2I,List.length_append,List.length_singleton]
     have:=hl.2
     omega
    ·exact .ret ⟨hi1,hl⟩
   ·dsimp only
    refine .bif (fun h=>by cases h) fun _=>.bso (.ret ⟨hi,hl⟩)
  ·refine .bbi ?_
   refine .bif (fun h=>by cases h) fun _=>.bso ?_
   dsimp only
   refine .bif (fun h=>by cases h) fun _=>.bso (.ret ⟨hi,hl⟩)
 ·refine⟨_,rfl,⟨hr,rfl,?_⟩,hi,rfl⟩
  have:=hl.1
  have:=hl.2
  dsimp only
  have h80:l.length*40≤80:=by omega
  omega
end
theorem j4D {k:Nat}(hk:k < 2):Ok (fun x=>x.size≤1) (q4V (k:Int)):=by
 have:k=0∨k=1:=by omega
 rcases this with rfl | rfl
 ·exact⟨⟨#[48]⟩,by unfold q4V; rfl,by decide⟩
 ·refine⟨⟨#[49]⟩,?_,by decide⟩
  unfold q4V
  rw [if_neg (by decide)]
  have h1:q6l (((1:Nat):Int),(⟨#[]⟩:ByteArray))=some (.inl (0,⟨#[49]⟩)):=by
   unfold q6l
   dsimp only
   rw [if_neg (by decide),if_neg (by decide),q1n (by constructor<;>decide),q1n (by decide),q1n (by constructor<;>decide)]
   rfl
  have h2:q6l (0,(⟨#[49]⟩:ByteArray))=some (.inr ⟨#[49]⟩):=rfl
  rw [q2c h1,q1D h2]
  rfl
end Go.Proofs.YtiojgbiimbefiacGreat
namespace Go.Proofs.YtiojgbiimbefiacGreat
open Go Go.E
def R0 (r:Rule):Prop:=RB r∧r.Equations=[]∧r.Contributions=[]
def R1 (r:Rule):Prop:=RB r∧szL r.Equations≤12000∧szL r.Contributions≤200
theorem R0.r1 {r:Rule}(h:R0 r):R1 r:=⟨h.1,by rw [h.2.1]; simp [szL],by rw [h.2.2]; simp [szL]⟩
def GB (g:Grammar):Prop:=SBs g.Symbols∧1≤g.Rules.length∧g.Rules.length≤8∧∀ r∈g.Rules,R1 r
theorem stu {x:ByteArray}{n:Nat}(h:x∈[(⟨#[115]⟩:ByteArray),(⟨#[116]⟩:ByteArray),(⟨#[117]⟩:ByteArray)].take n):x.size=1:=by
 have h:=List.mem_of_mem_take h
 simp only [List.mem_cons,List.not_mem_nil,or_false] at h
 rcases h with h | h | h<;>rw [h]<;>rfl
theorem bsz (x y:ByteArray):(x++y).size=x.size+y.size:=ByteArray.size_append
section
variable {b:List UInt8}(hb:b.length≤1048576)
include hb
theorem j0M (pl:Bool){i h:Int}(hi:0≤i):Dr b GB (q7t pl ⟨b,i,h⟩):=by
 unfold q7t
 refine drK (q1F hb 3 (cb hi)) fun y i1 h1 hy hi1=>?_
 have h3:=hy.2.1 (by omega)
 have h0:=hy.1
 dsimp only
 refine .grd (by constructor<;>omega) (.grd (by omega) (.grd (by simp; omega) ?_))
 have hlen:([(⟨#[115]⟩:ByteArray),(⟨#[116]⟩:ByteArray),(⟨#[117]⟩:ByteArray)].take ((1+y).toNat)).length=(1+y).toNat:=by rw [List.length_take]; simp; omega
 refine z7a (fun k (l:List Symbol)=>l.length=k∧∀ s∈l,SB s) hi1 ⟨rfl,by simp⟩ (fun j l i h hj hi hl=>?_) fun syms i2 h2 hi2 hsyms=>?_
 ·unfold z1N
  dsimp only
  refine .get (by rw [hlen]; exact hj) fun x hx=>?_
  have hx:=stu hx
  refine drK (j2H hb (by omega) _ _ hi) fun s i1 h1 hs hi1=>?_
  refine .grd (by have:=hl.1; constructor<;>omega) (.ret ⟨hi1,by simp [hl.1],fun a ha=>?_⟩)
  simp only [List.mem_append,List.mem_cons,List.not_mem_nil,or_false] at ha
  rcases ha with ha | ha
  ·exact hl.2 a ha
  ·rw [ha]; exact hs
 have hS:SBs syms:=⟨by rw [hsyms.1]; omega,by rw [hsyms.1]; omega,hsyms.2⟩
 dsimp only
 refine z7a (fun k (l:List Rule)=>k≤l.length∧l.length≤3*k∧∀ r∈l,R0 r) hi2 ⟨by simp,by simp,by simp⟩ (fun j l i h hj hi hl=>?_) fun rules i3 h3 hi3 hr=>?_
 ·unfold z1Q
  dsimp only
  refine .get (by rw [hlen]; exact hj) fun x hx=>?_
  have hx:=stu hx
  refine .grd (by rw [hx]; decide) ?_
  refine drK (q4H hb _ (cb hi)) fun y3 i1 h1 _ hi1=>?_
  have hl1:=hl.1
  have hl2:=hl.2.1
  refine .grd (by constructor<;>omega) ?_
  refine drK (q1F hb 2 (cb hi1)) fun y4 i4 h4 hy4 hi4=>?_
  have h42:=hy4.2.1 (by omega)
  have h40:=hy4.1
  refine .grd (by constructor<;>omega) ?_
  dsimp only
  refine z7a (fun k (q:List Rule)=>q.length=l.length+1+k∧∀ r∈q,R0 r) hi4 ⟨by simp,fun a ha=>?_⟩ (fun j2 q i h hj2 hi hq=>?_) fun q i6 h6 hi6 hq=>?_
  ·simp only [List.mem_append,List.mem_cons,List.not_mem_nil,or_false] at ha
   rcases ha with ha | ha
   ·exact hl.2.2 a ha
   ·rw [ha]
    exact⟨⟨by dsimp only; rw [bsz,hx]; decide,by dsimp only; omega,by simp,by simp⟩,rfl,rfl⟩
  ·unfold z1P
   dsimp only
   refine .grd (by rw [hx]; decide) ?_
   refine .bind (j4D (by omega)) fun nm hnm=>?_
   refine .grd (by rw [bsz,hx]; have:(⟨#[112]⟩:ByteArray).size=1:=rfl; omega) ?_
   refine drK (q4H hb _ (cb hi)) fun y6 i1 h1 _ hi1=>?_
   refine drK (q1F hb 3 (cb hi1)) fun y7 i7 h7 hy7 hi7=>?_
   have h72:=hy7.2.1 (by omega)
   have h70:=hy7.1
   refine .grd (by constructor<;>omega) ?_
   dsimp only
   refine z7a (fun k (q:List ByteArray)=>q.length=k∧∀ x∈q,x.size≤8) hi7 ⟨rfl,by simp⟩ (fun j4 q4 i h hj4 hi hq4=>?_) fun q4 i8 h8 hi8 hq4=>?_
   ·unfold z1O
    dsimp only
    refine drK (q6O hb (by intro h; have:=congrArg List.length h; rw [hlen] at this; simp at this; omega) (cb hi)) fun z i1 h1 hz hi1=>?_
    have hz:=stu hz
    refine .grd (by have:=hq4.1; constructor<;>omega) (.ret ⟨hi1,by simp [hq4.1],fun a ha=>?_⟩)
    simp only [List.mem_append,List.mem_cons,List.not_mem_nil,or_false] at ha
    rcases ha with ha | ha
    ·exact hq4.2 a ha
    ·rw [ha]; omega
   ·have hq41:=hq4.1
    have hq1:=hq.1
    refine .grd (by constructor<;>omega) (.ret ⟨hi8,by simp; omega,fun a ha=>?_⟩)
    simp only [List.mem_append,List.mem_cons,List.not_mem_nil,or_false] at ha
    rcases ha with ha | ha
    ·exact hq.2 a ha
    ·rw [ha]
     exact⟨⟨by dsimp only; rw [bsz,bsz,hx]; have:(⟨#[112]⟩:ByteArray).size=1:=rfl; omega,by dsimp only; omega,by dsimp only; omega,hq4.2⟩,rfl,rfl⟩
  ·exact .ret ⟨hi6,by dsimp only; have:=hq.1; omega,by dsimp only; have:=hq.1; omega,hq.2⟩
 dsimp only
 have hr1:=hr.1
 have hr2:=hr.2.1
 have key:∀ rs:List Rule,1≤rs.length→rs.length≤8→(∀ r∈rs,R0 r)→Ok (fun r=>GB r.1∧CB b r.2) ((q2t (q9i pl ⟨b,i,h⟩ syms) (0,i3,h3,rs)).bind fun (s14,s15,s16)=>some ((⟨syms,s16⟩:Grammar),(⟨b,s14,s15⟩:l1Cur))):=by
  intro rs g1 g2 g3
  refine Ok.bind (Q:=fun s:Int × Int × List Rule=>0≤s.1∧s.2.2.length=rs.length∧∀ r∈s.2.2,R1 r) (z4p (P:=fun s:Int × Int × Int × List Rule=>0≤s.1∧s.1≤rs.length∧0≤s.2.1∧s.2.2.2.length=rs.length∧∀ (k:Nat) x,s.2.2.2[k]? = some x→R1 x∧(s.1≤(k:Int)→R0 x)) (fun s=>(rs.length - s.1).toNat) ?_ _ ⟨Int.le_refl _,by dsimp only; omega,hi3,rfl,fun k x hx=>⟨(g3 x (List.mem_of_getElem? hx)).r1,fun _=>g3 x (List.mem_of_getElem? hx)⟩⟩) ?_
  ·rintro⟨p,i5,h5,q⟩ ⟨a1,a2,a3,a4,a5⟩
   dsimp only at a1 a2 a3 a4 a5
   unfold q9i
   dsimp only
   refine .ite (fun hp=>?_) fun _=>.ret ⟨a3,a4,fun r hr=>?_⟩
   ·obtain⟨x,hx⟩:∃ x,q[p.toNat]? = some x:=⟨_,List.getElem?_eq_getElem (by omega)⟩
    have hx0:=(a5 _ _ hx).2 (by omega)
    rw [hx]
    have fin:∀ (y:Rule) (i' h' : Int),R1 y→0≤i'→(0≤p+1∧p+1≤rs.length∧0≤i'∧(List.set q p.toNat y).length=rs.length∧∀ (k:Nat) x,(List.set q p.toNat y)[k]? = some x→R1 x∧(p+1≤(k:Int)→R0 x))∧(rs.length - (p+1)).toNat < (rs.length - p).toNat:=fun y i' h' hy hi'=>by
     refine⟨⟨by omega,by omega,hi',by rw [List.length_set]; exact a4,fun k x hk=>?_⟩,by omega⟩
     rw [List.getElem?_set] at hk
     by_cases e:p.toNat=k
     ·rw [if_pos e] at hk
      split at hk
      ·cases hk; exact⟨hy,fun h=>by omega⟩
      ·cases hk
     ·rw [if_neg e] at hk
      exact⟨(a5 _ _ hk).1,fun h=>(a5 _ _ hk).2 (by omega)⟩
    refine .bgr a1 (.bbi (.bso ?_))
    refine .bbi (drK (j3N hb (g:=⟨syms,q⟩) hS hx0.1 hx0.2.1 _ a3) fun y i6 h6 hy hi6=>?_)
    obtain⟨b1,b2,b3⟩:=hy
    rw [hx0.2.2] at b3
    dsimp only
    refine .bif (fun _=>.bso ?_) fun _=>?_
    ·exact .grd (by constructor<;>omega) (.ret (fin _ _ h6 ⟨b1,b2,by rw [b3]; simp [szL]⟩ hi6))
    ·refine .bbi (drK (j4C hb (g:=⟨syms,q⟩) hS b1 b3 hi6) fun y2 i7 h7 hy2 hi7=>?_)
     refine .bso ?_
     exact .grd (by constructor<;>omega) (.ret (fin _ _ h7 ⟨hy2.1,by rw [hy2.2.1]; exact b2,hy2.2.2⟩ hi7))
   ·obtain⟨k,hk⟩:=List.getElem?_of_mem hr
    exact (a5 _ _ hk).1
  ·rintro⟨s1,s2,s3⟩ ⟨c1,c2,c3⟩
   exact⟨_,rfl,⟨hS,by dsimp only at c2 ⊢; omega,by dsimp only at c2 ⊢; omega,c3⟩,c1,rfl⟩
 refine .bif (fun h8=>.bgr (by omega) (.bso ?_)) fun h8=>.bso ?_
 ·exact key _ (by rw [List.length_take]; omega) (by rw [List.length_take]; omega) fun r hr'=>hr.2.2 r (List.mem_of_mem_take hr')
 ·exact key _ (by omega) (by omega) hr.2.2
end
end Go.Proofs.YtiojgbiimbefiacGreat
namespace Go.Proofs.YtiojgbiimbefiacGreat
open Go Go.E
theorem j0N {α:Type}[Sz α](x:α):∀ (l:List α) (j:Nat),szL (l.set j x)≤szL l+Sz.szd x
 | [],_=>by simp [szL]
 | y :: l,0=>by simp only [List.set,szL]; omega
 | y :: l,j+1=>by have:=j0N x l j; simp only [List.set,szL]; omega
theorem j0O {α:Type}[Sz α](l:List α):szL (l.drop 1)≤szL l:=by
 cases l with
 | nil=>simp
 | cons x l=>simp only [List.drop,szL]; omega
theorem z3u (a:Int):∀ (l:List Expr) (i:Nat),(∀ x∈l,∃ v,∀ m,fuE x≤m→q3u m x a=some v)→∃ r,∀ m,(∀ x∈l,fuE x≤m)→findL (q4y (q3u m) a) i l ()=some r
 | [],i,_=>⟨.inl (),fun m _=>rfl⟩
 | x :: l,i,h=>by
  obtain⟨v,hv⟩:=h x (by simp)
  obtain⟨r,hr⟩:=z3u a l (i+1) fun y hy=>h y (by simp [hy])
  cases v with
  | true=>
   refine⟨r,fun m hm=>?_⟩
   have h1:=hr m fun y hy=>hm y (by simp [hy])
   have h2:q4y (q3u m) a i x ()=some (.inl ()):=by unfold q4y; rw [hv m (hm x (by simp))]; rfl
   rw [findL,h2]; exact h1
  | false=>
   refine⟨.inr false,fun m hm=>?_⟩
   have h2:q4y (q3u m) a i x ()=some (.inr false):=by unfold q4y; rw [hv m (hm x (by simp))]; rfl
   rw [findL,h2]; rfl
theorem j0P (e:Expr)(a:Int):∃ v,q7O e a=some v:=by
 have key:∀ e:Expr,∃ v,∀ m,fuE e≤m→q3u m e a=some v:=by
  intro e
  induction e using q8T with
  | h e ih=>
   obtain⟨r,hr⟩:=z3u a e.Args 0 ih
   have:∃ v,∀ m,fuE e≤m+1→q4z (q3u m) e a=some v:=by
    cases r with
    | inl u=>exact⟨_,fun m hm=>by unfold q4z; rw [hr m fun x hx=>by have:=z0P hx; omega]; rfl⟩
    | inr q=>exact⟨_,fun m hm=>by unfold q4z; rw [hr m fun x hx=>by have:=z0P hx; omega]; rfl⟩
   obtain⟨v,hv⟩:=this
   refine⟨v,fun m hm=>?_⟩
   obtain⟨m,rfl⟩:∃ q,m=q+1:=⟨m - 1,by have:=z2c e; omega⟩
   exact hv m hm
 obtain⟨v,hv⟩:=key e
 exact⟨v,q7K (fuE e) hv⟩
def R2 (r:Rule):Prop:=RB r∧szL r.Equations≤60000∧szL r.Contributions≤200
def GC2 (g:Grammar):Prop:=SBs g.Symbols∧1≤g.Rules.length∧g.Rules.length≤8∧∀ r∈g.Rules,R2 r
theorem SB.set {s:Symbol}(h:SB s){x:Attribute}(hx:x.Name.size≤8):SB ⟨s.Name,List.set s.Attributes 0 x⟩:=by
 refine⟨h.1,by dsimp only; rw [List.length_set]; exact h.2.1,by dsimp only; rw [List.length_set]; exact h.2.2.1,fun a ha=>?_⟩
 rcases List.mem_or_eq_of_mem_set ha with ha | ha
 ·exact h.2.2.2 a ha
 ·rw [ha]; exact hx
theorem GC2.set {ss:List Symbol}{rs:List Rule}(h:GC2 ⟨ss,rs⟩)(k:Nat){x:Rule}(hx:R2 x):GC2 ⟨ss,rs.set k x⟩:=by
 refine⟨h.1,by dsimp only; rw [List.length_set]; exact h.2.1,by dsimp only; rw [List.length_set]; exact h.2.2.1,fun a ha=>?_⟩
 rcases List.mem_or_eq_of_mem_set ha with ha | ha
 ·exact h.2.2.2 a ha
 ·rw [ha]; exact hx
section
variable {b:List UInt8}(hb:b.length≤1048576)
include hb
theorem j2i {e:Expr}{n:Nat}(h:Sz.szd e≤n)(hn:n≤1048576)(a:Int):Ok (fun _=>True) (q4L e a):=by
 unfold q4L
 refine .eq (q9Z (by have:=j0k hb h; omega)) ?_
 obtain⟨v,hv⟩:=j0P e a
 exact .ite (fun _=>.eq hv (.ret trivial)) fun _=>.ret trivial
theorem j2j {i h:Int}(hi:0≤i):Dr b (fun r=>RB r∧r.Right.length≤3∧szL r.Equations≤1200∧szL r.Contributions≤200) (q8n ⟨b,i,h⟩):=by
 unfold q8n
 refine drK (q6O hb (by simp) (cb hi)) fun y1 i1 h1 hy1 hi1=>?_
 refine drK (q6O hb (by simp) (cb hi1)) fun y2 i2 h2 hy2 hi2=>?_
 refine drK (q4H hb _ (cb hi2)) fun y3 i3 h3 _ hi3=>?_
 refine drK (q1F hb 4 (cb hi3)) fun y4 i4 h4 hy4 hi4=>?_
 have h44:=hy4.2.1 (by omega)
 have h40:=hy4.1
 have n1:y1.size≤8:=by
  simp only [List.mem_cons,List.not_mem_nil,or_false] at hy1
  rcases hy1 with h | h | h<;>subst h<;>(try dsimp only)<;>decide
 have n2:y2.size≤8:=by
  simp only [List.mem_cons,List.not_mem_nil,or_false] at hy2
  rcases hy2 with h | h<;>subst h<;>(try dsimp only)<;>decide
 dsimp only
 refine z7a (fun k (q:List ByteArray)=>q.length=k∧∀ x∈q,x.size≤8) hi4 ⟨rfl,by simp⟩ (fun j4 q4 i h hj4 hi hq4=>?_) fun q4 i8 h8 hi8 hq4=>?_
 ·unfold z3a
  dsimp only
  refine drK (q6O hb (by simp) (cb hi)) fun z i1 h1 hz hi1=>?_
  refine .grd (by have:=hq4.1; constructor<;>omega) (.ret ⟨hi1,by simp [hq4.1],fun a ha=>?_⟩)
  simp only [List.mem_append,List.mem_cons,List.not_mem_nil,or_false] at ha hz
  rcases ha with ha | ha
  ·exact hq4.2 a ha
  ·rw [ha]; rcases hz with h | h | h<;>subst h<;>(try dsimp only)<;>decide
 ·refine drK (q1F hb 4 (cb hi8)) fun y6 i6 h6 hy6 hi6=>?_
  have h64:=hy6.2.1 (by omega)
  dsimp only
  refine z7a (fun k (q:List Equation)=>q.length≤k∧szL q≤k*400) hi6 ⟨by simp,by simp [szL]⟩ (fun j q i h hj hi hq=>?_) fun q i9 h9 hi9 hq=>?_
  ·have hq1:=hq.1
   have hq2:=hq.2
   unfold z3b
   dsimp only
   refine .bbi (drK (q1F hb 3 (cb hi)) fun y7 i7 h7 hy7 hi7=>?_)
   have h73:=hy7.2.1 (by omega)
   have h70:=hy7.1
   refine .bgr (by constructor<;>omega) (.bbi (drK (j0j hb 2 (by omega) (by omega) (by omega) (cb hi7)) fun e i8 h8 he hi8=>?_))
   have he:Sz.szd e≤320:=he
   refine .bbi (.bind (j2i hb he (by omega) y4) fun v _=>?_)
   refine .bif (fun _=>?_) fun _=>.bso (.ret ⟨hi8,Nat.le_trans hq1 (Nat.le_succ _),Nat.le_trans hq2 (Nat.mul_le_mul_right 400 (Nat.le_succ j))⟩)
   refine .bgr (by constructor<;>omega) (.bbi (drK (q1F hb _ (cb hi8)) fun y10 i9 h9 _ hi9=>?_))
   refine .bbi (drK (z6L hb (cb hi9)) fun nm i10 h10 hnm hi10=>?_)
   refine .bgr (by constructor<;>omega) (.bso (.ret ⟨hi10,by dsimp only; simp; omega,?_⟩))
   dsimp only
   rw [z0b,z5P]
   have hnm:nm.size=1:=hnm
   dsimp only
   omega
  ·have hq2:=hq.2
   have hR:RB ⟨y1,y2,q4,y3,q,[]⟩:=⟨n1,n2,by have:=hq4.1; dsimp only; omega,hq4.2⟩
   refine drK (q4H hb _ (cb hi9)) fun y12 i12 h12 _ hi12=>?_
   refine .ite (fun _=>?_) fun _=>⟨_,rfl,⟨hR,by have:=hq4.1; dsimp only; omega,by dsimp only; omega,by simp [szL]⟩,hi12,rfl⟩
   refine drK (q1F hb _ (cb hi12)) fun y13 i13 h13 _ hi13=>?_
   refine .eq rfl ?_
   refine .grd (by simp only [List.length_nil]; constructor<;>omega) ⟨_,rfl,⟨hR,by have:=hq4.1; dsimp only; omega,by dsimp only; omega,?_⟩,hi13,rfl⟩
   dsimp only
   rw [List.nil_append]
   show 1+Sz.szd (⟨(⟨#[115]⟩:ByteArray),(⟨#[99]⟩:ByteArray),_,_⟩:Contribution)+0≤200
   rw [j2I,z3m hb,z3m hb,q6p hb]
   decide
theorem z7X {i h:Int}(hi:0≤i):Dr b R2 (q7v ⟨b,i,h⟩):=by
 unfold q7v
 refine drK (j2j hb hi) fun r i1 h1 hr hi1=>?_
 obtain⟨r1,r2,r3,r4⟩:=hr
 refine drK (q1F hb 12 (cb hi1)) fun y2 i2 h2 _ hi2=>?_
 dsimp only
 refine .ite (fun _=>?_) fun _=>.ite (fun _=>?_) fun _=>.ite (fun _=>?_) fun _=>.ite (fun _=>?_) fun _=>.ite (fun _=>?_) fun _=>?_
 ·refine drK (q6O hb (by simp) (cb hi2)) fun z i3 h3 hz hi3=>⟨_,rfl,⟨⟨?_,r1.2.1,r1.2.2.1,r1.2.2.2⟩,by dsimp only; omega,r4⟩,hi3,rfl⟩
  simp only [List.mem_cons,List.not_mem_nil,or_false] at hz
  rcases hz with h | h | h<;>subst h<;>(try dsimp only)<;>decide
 ·refine .grd (by simp only [List.length_cons,List.length_nil]; constructor<;>omega) ⟨_,rfl,⟨⟨r1.1,r1.2.1,by simp; omega,fun x hx=>?_⟩,by dsimp only; omega,r4⟩,hi2,rfl⟩
  simp only [List.mem_append,List.mem_cons,List.not_mem_nil,or_false] at hx
  rcases hx with h | h | h
  ·exact r1.2.2.2 x h
  ·rw [h]; decide
  ·rw [h]; decide
 ·refine drK (q1F hb 5 (cb hi2)) fun y4 i4 h4 hy4 hi4=>?_
  have h40:=hy4.1
  have h44:=hy4.2.1 (by omega)
  refine .grd (by constructor<;>omega) ?_
  refine drK (j3v hb (cb hi4)) fun e i5 h5 he hi5=>?_
  have he:Sz.szd e≤30000:=he
  have hl:=q3O r.Equations
  refine .grd (by constructor<;>omega) ⟨_,rfl,⟨r1,?_,r4⟩,hi5,rfl⟩
  dsimp only
  rw [z0b,z5P]
  have:(⟨#[97]⟩:ByteArray).size=1:=rfl
  dsimp only
  omega
 ·exact⟨_,rfl,⟨⟨r1.1,by dsimp only; decide,r1.2.2.1,r1.2.2.2⟩,by dsimp only; omega,r4⟩,hi2,rfl⟩
 ·refine .grd (by constructor<;>omega) ?_
  refine drK (q1F hb _ (cb hi2)) fun y6 i6 h6 hy6 hi6=>?_
  have h60:=hy6.1
  have h61:=hy6.2.1 (by omega)
  refine .grd h60 (.grd (by omega) ⟨_,rfl,⟨⟨r1.1,r1.2.1,by dsimp only; rw [List.length_take]; omega,fun x hx=>r1.2.2.2 x (List.mem_of_mem_take hx)⟩,by dsimp only; omega,r4⟩,hi6,rfl⟩)
 ·exact⟨_,rfl,⟨r1,by dsimp only; omega,r4⟩,hi2,rfl⟩
theorem j2k {i h:Int}(hi:0≤i):Dr b SB (q8p ⟨b,i,h⟩):=by
 unfold q8p
 refine drK (q6O hb (by simp) (cb hi)) fun nm i1 h1 hnm hi1=>?_
 have hnm:nm.size≤8:=by
  simp only [List.mem_cons,List.not_mem_nil,or_false] at hnm
  rcases hnm with h | h | h | h<;>subst h<;>(try dsimp only)<;>decide
 refine drK (j2H hb hnm _ _ hi1) fun s i2 h2 hs hi2=>?_
 refine drK (q1F hb 10 (cb hi2)) fun y3 i3 h3 _ hi3=>?_
 have hl:=hs.2.1
 dsimp only
 refine .ite (fun _=>?_) fun _=>.ite (fun _=>?_) fun _=>.ite (fun _=>?_) fun _=>.ite (fun _=>?_) fun _=>.ite (fun _=>?_) fun _=>?_
 ·exact .get (by omega) fun x hx=>⟨_,rfl,hs.set (by exact hs.2.2.2 x hx),hi3,rfl⟩
 ·exact drK (q1F hb 5 (cb hi3)) fun y4 i4 h4 _ hi4=>.get (by omega) fun x hx=>⟨_,rfl,hs.set (by exact hs.2.2.2 x hx),hi4,rfl⟩
 ·exact drK (q1F hb 6 (cb hi3)) fun y4 i4 h4 _ hi4=>.get (by omega) fun x hx=>⟨_,rfl,hs.set (by exact hs.2.2.2 x hx),hi4,rfl⟩
 ·refine drK (q6O hb (by simp) (cb hi3)) fun z i4 h4 hz hi4=>.get (by omega) fun x hx=>⟨_,rfl,hs.set ?_,hi4,rfl⟩
  simp only [List.mem_cons,List.not_mem_nil,or_false] at hz
  rcases hz with h | h | h<;>subst h<;>(try dsimp only)<;>decide
 ·refine Ok.bind (Q:=fun l:List Attribute=>1≤l.length∧l.length≤5∧∀ a∈l,a.Name.size≤8) (z4p (P:=fun l:List Attribute=>1≤l.length∧l.length≤5∧∀ a∈l,a.Name.size≤8) (fun l=>5 - l.length) (fun l hl=>?_) _ ⟨hs.2.1,hs.2.2.1,hs.2.2.2⟩) fun l hl=>⟨_,rfl,⟨hs.1,hl.1,hl.2.1,hl.2.2⟩,hi3,rfl⟩
  unfold z3e
  refine .ite (fun h5=>?_) fun _=>.ret hl
  refine .get (by simp; omega) fun x hx=>.grd (by constructor<;>omega) (.ret ⟨⟨by simp,by simp; omega,fun a ha=>?_⟩,by simp; omega⟩)
  simp only [List.mem_append,List.mem_cons,List.not_mem_nil,or_false] at ha hx
  rcases ha with ha | ha
  ·exact hl.2.2 a ha
  ·rw [ha]; dsimp only; rcases hx with h | h | h | h | h<;>subst h<;>(try dsimp only)<;>decide
 ·exact⟨_,rfl,hs,hi3,rfl⟩
theorem j0Q {i h:Int}(hi:0≤i):Dr b GC2 (q7w ⟨b,i,h⟩):=by
 unfold q7w
 refine drK (q4H hb _ (cb hi)) fun y1 i1 h1 _ hi1=>?_
 refine drK (j0M hb y1 hi1) fun g i2 h2 hg hi2=>?_
 obtain⟨ss,rs⟩:=g
 obtain⟨g1,g2,g3,g4⟩:=hg
 dsimp only at g1 g2 g3 g4
 have hG:GC2 ⟨ss,rs⟩:=⟨g1,g2,g3,fun r hr=>by obtain⟨a,c,d⟩:=g4 r hr; exact⟨a,by omega,d⟩⟩
 refine drK (q1F hb _ (cb hi2)) fun y3 i3 h3 hy3 hi3=>?_
 have h30:=hy3.1
 have h31:=hy3.2.1 (by dsimp only; omega)
 dsimp only at h31
 refine drK (q1F hb 14 (cb hi3)) fun y4 i4 h4 _ hi4=>?_
 have hk:y3.toNat < rs.length:=by omega
 dsimp only
 have same:Ok (fun r:Grammar × l1Cur=>GC2 r.1∧CB b r.2) (some ((⟨ss,rs⟩:Grammar),(⟨b,i4,h4⟩:l1Cur))):=⟨_,rfl,hG,hi4,rfl⟩
 refine .ite (fun _=>?_) fun _=>.ite (fun _=>?_) fun _=>.ite (fun _=>?_) fun _=>.ite (fun _=>?_) fun _=>.ite (fun _=>?_) fun _=>.ite (fun _=>?_) fun _=>.ite (fun _=>?_) fun _=>same
 ·exact drK (z7X hb hi4) fun r i5 h5 hr hi5=>.grd h30 (.get hk fun x hx=>⟨_,rfl,hG.set _ hr,hi5,rfl⟩)
 ·refine drK (j2k hb hi4) fun s i5 h5 hs hi5=>.get (by have:=g1.1; omega) fun x hx=>⟨_,rfl,⟨⟨by dsimp only; rw [List.length_set]; exact g1.1,by dsimp only; rw [List.length_set]; exact g1.2.1,fun a ha=>?_⟩,g2,g3,hG.2.2.2⟩,hi5,rfl⟩
  rcases List.mem_or_eq_of_mem_set ha with ha | ha
  ·exact g1.2.2 a ha
  ·rw [ha]; exact hs
 ·refine .get (by omega) fun x hx=>.grd h30 (.get hk fun r hr=>⟨_,rfl,hG.set _ ?_,hi4,rfl⟩)
  have a:=hG.2.2.2 r hr
  exact⟨⟨(g4 x hx).1.1,a.1.2.1,a.1.2.2.1,a.1.2.2.2⟩,a.2.1,a.2.2⟩
 ·refine .grd h30 (.get hk fun r hr=>.ite (fun h0=>.grd (by omega) ⟨_,rfl,hG.set _ ?_,hi4,rfl⟩) fun _=>same)
  have a:=hG.2.2.2 r hr
  exact⟨a.1,by have:=j0O r.Equations; have:=a.2.1; dsimp only; omega,a.2.2⟩
 ·refine .grd h30 (.get hk fun r hr=>.ite (fun h0=>?_) fun _=>same)
  have a:=g4 r hr
  have hl:=q3O r.Equations
  have a2:=a.2.1
  refine .get (by omega) fun x hx=>.grd (by constructor<;>omega) ⟨_,rfl,hG.set _ ⟨a.1,?_,a.2.2⟩,hi4,rfl⟩
  have:=z4i hx
  dsimp only
  rw [z0b]
  omega
 ·refine drK (q6O hb (by simp) (cb hi4)) fun z i5 h5 hz hi5=>.grd h30 (.get hk fun r hr=>⟨_,rfl,hG.set _ ?_,hi5,rfl⟩)
  have a:=hG.2.2.2 r hr
  refine⟨⟨a.1.1,?_,a.1.2.2.1,a.1.2.2.2⟩,a.2.1,a.2.2⟩
  simp only [List.mem_cons,List.not_mem_nil,or_false] at hz
  rcases hz with h | h<;>subst h<;>(try dsimp only)<;>decide
 ·refine .grd h30 (.get hk fun r hr=>.ite (fun h0=>?_) fun _=>same)
  refine drK (j0l hb (cb hi4)) fun e i5 h5 he hi5=>?_
  have he:Sz.szd e≤20480:=he
  have a:=g4 r hr
  have a2:=a.2.1
  refine .get (by omega) fun x hx=>⟨_,rfl,hG.set _ ⟨a.1,?_,a.2.2⟩,hi5,rfl⟩
  have h1:=z4i hx
  have h2:=j0N (⟨x.At,e⟩:Equation) r.Equations 0
  have h3:Sz.szd x=x.At.Name.size+Sz.szd x.Expr:=z5P x.At x.Expr
  rw [z5P] at h2
  dsimp only
  omega
theorem j3O:Ok (fun q=>GC2 q.1∧R2 q.2) (q7x b):=by
 unfold q7x
 obtain⟨z,hz,hz1,hz2⟩:=j4s hb
 obtain⟨zb,zi,zh⟩:=z
 dsimp only at hz1 hz2
 subst hz2
 refine .eq hz ?_
 refine drK (j0Q hb hz1) fun g i1 h1 hg hi1=>?_
 refine drK (q4H hb _ (cb hi1)) fun y3 i2 h2 _ hi2=>?_
 dsimp only
 refine .ite (fun _=>?_) fun _=>?_
 ·exact drK (z7X hb hi2) fun r i3 h3 hr hi3=>.ret ⟨hg,hr⟩
 ·refine drK (q1F hb _ (cb hi2)) fun y5 i3 h3 hy5 hi3=>?_
  have h50:=hy5.1
  have h51:=hy5.2.1 (by have:=hg.2.1; omega)
  exact .grd h50 (.get (by omega) fun x hx=>.ret ⟨hg,hg.2.2.2 x hx⟩)
end
theorem szR {r:Rule}(h:R2 r):Sz.szd r≤60300:=by
 have h1:=z5O (m:=8) h.1.2.2.2
 have:=h.1.2.2.1
 have:=h.1.1
 have:=h.1.2.1
 have:=h.2.1
 have:=h.2.2
 have h9:r.Right.length*(8+1)≤45:=by omega
 rw [q9T]; omega
theorem szS {s:Symbol}(h:SB s):Sz.szd s≤60:=by
 have h1:=z5O (m:=8) (l:=s.Attributes) fun a ha=>by rw [z3W]; exact h.2.2.2 a ha
 have:=h.2.2.1
 have:=h.1
 have h9:s.Attributes.length*(8+1)≤45:=by omega
 rw [z3f]; omega
theorem szG {g:Grammar}(h:GC2 g):Sz.szd g≤1048576:=by
 have h1:=z5O (m:=60) (l:=g.Symbols) fun s hs=>szS (h.1.2.2 s hs)
 have h2:=z5O (m:=60300) (l:=g.Rules) fun r hr=>szR (h.2.2.2 r hr)
 have h3:g.Symbols.length*(60+1)≤183:=by have:=h.1.2.1; omega
 have h4:g.Rules.length*(60300+1)≤482408:=by have:=h.2.2.1; omega
 rw [q7Q]; omega
end Go.Proofs.YtiojgbiimbefiacGreat
namespace Go.Proofs.YtiojgbiimbefiacGreat
open Go Go.E
theorem z3v {r:Relation}(h:Valid r)(i k:Int):Valid (addP r i k):=by
 unfold addP
 by_cases hc:Valid r∧inN r i∧inN r k
 ·rw [if_pos hc]
  obtain⟨_,hi,hk⟩:=hc
  unfold z2e
  refine⟨h.1,h.2.1,by dsimp only; rw [List.length_set]; exact h.2.2.1,fun x hx=>?_⟩
  rcases List.mem_or_eq_of_mem_set hx with hx | hx
  ·exact h.2.2.2 x hx
  ·rw [hx]
   have h1:=h.1
   have hk1:=hk.1
   have hk2:=hk.2
   refine j4A ?_ ?_
   ·unfold q8e
    rw [List.getD_eq_getElem?_getD]
    cases hq:r.Rows[i.toNat]? with
    | none=>show (0:Int)≤0∧(0:Int)≤((2 ^ r.N.toNat:Nat):Int) - 1; have:=Nat.two_pow_pos r.N.toNat; omega
    | some y=>exact h.2.2.2 y (List.mem_of_getElem? hq)
   ·have h2:2 ^ k.toNat < 2 ^ r.N.toNat:=Nat.pow_lt_pow_right (by decide) (by omega)
    constructor
    ·exact Int.natCast_nonneg _
    ·dsimp only; omega
 ·rw [if_neg hc]; exact h
theorem j0R {r:Relation}(h:Valid r)(i k:Int)(a c:Nat):Rl (addP r i k).Rows a c↔Rl r.Rows a c∨(inN r i∧inN r k∧(a:Int)=i∧(c:Int)=k):=by
 unfold addP
 by_cases hc:Valid r∧inN r i∧inN r k
 ·rw [if_pos hc]
  obtain⟨_,hi,hk⟩:=hc
  have hi1:=hi.1
  have hi2:=hi.2
  have hk1:=hk.1
  have hl:=h.2.2.1
  unfold z2e Rl
  dsimp only
  rw [List.getD_eq_getElem?_getD,List.getElem?_set]
  by_cases e:i.toNat=a
  ·rw [if_pos e,if_pos (by omega),Option.getD_some,j0o,Nat.testBit_or,Int.toNat_natCast,Nat.testBit_two_pow]
   unfold q8e
   rw [e]
   simp only [Bool.or_eq_true,decide_eq_true_eq]
   constructor
   ·rintro (h1 | h1)
    ·exact .inl h1
    ·exact .inr ⟨hi,hk,by omega,by omega⟩
   ·rintro (h1 | ⟨_,_,_,h1⟩)
    ·exact .inl h1
    ·exact .inr (by omega)
  ·rw [if_neg e,← List.getD_eq_getElem?_getD]
   constructor
   ·exact fun h1=>.inl h1
   ·rintro (h1 | ⟨_,_,h1,_⟩)
    ·exact h1
    ·omega
 ·rw [if_neg hc]
  constructor
  ·exact fun h1=>.inl h1
  ·rintro (h1 | ⟨h1,h2,_⟩)
   ·exact h1
   ·exact absurd ⟨h,h1,h2⟩ hc
def Sub (a b:Relation):Prop:=Valid a∧Valid b∧a.N=b.N∧∀ i j:Nat,Rl a.Rows i j→Rl b.Rows i j
theorem Sub.refl {a:Relation}(h:Valid a):Sub a a:=⟨h,h,rfl,fun _ _ h=>h⟩
theorem Sub.trans {a b c:Relation}(h:Sub a b)(k:Sub b c):Sub a c:=⟨h.1,k.2.1,h.2.2.1.trans k.2.2.1,fun i j x=>k.2.2.2 i j (h.2.2.2 i j x)⟩
theorem Sub.add {a b:Relation}(h:Sub a b)(i k:Int):Sub a (addP b i k):=
 h.trans ⟨h.2.1,z3v h.2.1 i k,(z4h _ _ _).2.symm,fun x y hx=>(j0R h.2.1 i k x y).2 (.inl hx)⟩
theorem z7b {n:Int}(h0:0≤n)(h1:n≤16):Valid ⟨n,List.replicate n.toNat 0⟩:=by
 refine⟨h0,h1,by simp; omega,fun x hx=>?_⟩
 have:=(List.mem_replicate.1 hx).2
 have h2:=Nat.two_pow_pos n.toNat
 dsimp only
 omega
end Go.Proofs.YtiojgbiimbefiacGreat
namespace Go.Proofs.YtiojgbiimbefiacGreat
open Go Go.E
theorem z3w {α:Type}{nm:α→ByteArray}{xs:List α}(h:z8W nm xs=true):xs.Pairwise fun a b=>nm a≠nm b:=by
 unfold z8W at h
 rw [Option.isNone_iff_eq_none] at h
 rw [List.pairwise_iff_getElem]
 intro i j hi hj hij he
 have h1:=q7H xs [] h j xs[j] (List.getElem?_eq_getElem hj)
 unfold dupB at h1
 rw [List.nil_append,List.any_eq_false] at h1
 exact h1 xs[i] (List.mem_take_iff_getElem.2 ⟨i,by omega,rfl⟩) (by simpa using he)
theorem j0S {y:Symbol}(h:symB y=true){a:Attribute}(ha:a∈y.Attributes):q6q y a.Name=(a,true):=by
 unfold symB at h
 simp only [Bool.and_eq_true] at h
 have hd:=z3w h.2.2.2
 unfold q6q
 cases hf:y.Attributes.find? (fun b=>decide (b.Name=a.Name)) with
 | none=>rw [List.find?_eq_none] at hf; exact absurd (by simp) (hf a ha)
 | some b=>
  have hb:=List.mem_of_find?_eq_some hf
  have he:b.Name=a.Name:=by simpa using List.find?_some hf
  have:b=a:=by
   rcases List.getElem_of_mem hb with ⟨i,hi,rfl⟩
   rcases List.getElem_of_mem ha with ⟨j,hj,rfl⟩
   rw [List.pairwise_iff_getElem] at hd
   rcases Nat.lt_trichotomy i j with h | h | h
   ·exact absurd he (hd i j hi hj h)
   ·subst h; rfl
   ·exact absurd he.symm (hd j i hj hi h)
  rw [this]
theorem Shape.find {g:Grammar}(h:Shape g){r:Rule}(hr:r∈g.Rules){k:Nat}(hk:k < r.Right.length+1):Go.Proofs.YtiojgbiimbefiacGreat.symB (q3X g (q3Y r (k:Int))).1=true:=by
 have hb:=h.brk 3 (by omega) (by omega) r hr
 unfold q7c at hb
 rw [if_pos rfl] at hb
 simp only [Bool.not_eq_false'] at hb
 unfold z3r at hb
 rw [List.all_eq_true] at hb
 have h1:=hb k (by rw [List.mem_range'_1]; omega)
 unfold q3X at h1 ⊢
 cases hf:g.Symbols.find? (fun y=>decide (y.Name=q3Y r (k:Int))) with
 | none=>rw [hf] at h1; cases h1
 | some y=>exact h.symB (List.mem_of_find?_eq_some hf)
theorem Shape.may {g:Grammar}(h:Shape g){r:Rule}(hr:r∈g.Rules){q:Equation}(hq:q∈r.Equations){u:Occurrence}(hu:u∈q7D q.Expr):mayB g r u=true∧u ∉ reqL g r:=by
 have hb:=h.brk 6 (by omega) (by omega) r hr
 unfold q7c at hb
 rw [if_neg (by omega),if_neg (by omega),if_neg (by omega)] at hb
 unfold misB at hb
 simp only [Bool.not_eq_false'] at hb
 rw [List.all_eq_true] at hb
 have h1:=hb q.Expr (by unfold z0Q; rw [List.mem_append]; exact .inl (List.mem_map.2 ⟨q,hq,rfl⟩))
 unfold useB at h1
 rw [List.all_eq_true] at h1
 have hm:=h1 u hu
 refine⟨hm,fun hi=>?_⟩
 unfold reqL at hi
 obtain⟨k,hk,hi⟩:=List.mem_flatMap.1 hi
 rw [List.mem_range'_1] at hk
 unfold reqK at hi
 obtain⟨a,ha,rfl⟩:=List.mem_map.1 hi
 rw [List.mem_filter] at ha
 have hs:=h.find hr (k:=k) (by omega)
 unfold mayB q6i at hm
 rw [if_pos (by dsimp only; omega)] at hm
 dsimp only at hm
 rw [j0S hs ha.1] at hm
 have h2:=ha.2
 simp only [decide_eq_true_eq,Bool.and_eq_true] at h2 hm
 rw [h2] at hm
 by_cases h0:(k:Int)=0
 ·rw [if_pos h0,if_pos h0] at hm; omega
 ·rw [if_neg h0,if_neg h0] at hm; omega
theorem j3P (l:List Occurrence)(o:Occurrence):q4o l o=some (decide (o∈l)):=by
 unfold q4o q2z
 rw [z0a (q:=fun x=>decide (x=o)) (c:=fun k=>(k:Int)) fun k x hx=>by
  unfold q4h
  by_cases h:x=o
  ·rw [if_pos h,if_pos (by simpa using h)]
  ·rw [if_neg h,if_neg (by simpa using h)]]
 cases hf:l.findIdx? (fun x=>decide (x=o)) with
 | none=>
  rw [List.findIdx?_eq_none_iff] at hf
  rw [decide_eq_false (fun h=>by simpa using hf o h)]
  rfl
 | some j=>
  have hm:o∈l:=by
   rw [List.findIdx?_eq_some_iff_getElem] at hf
   obtain⟨hj,he,_⟩:=hf
   have:l[j]=o:=by simpa using he
   exact this▸List.getElem_mem hj
  rw [decide_eq_true hm]
  show some (decide (0≤((0+j:Nat):Int)))=some true
  rw [decide_eq_true (Int.natCast_nonneg _)]
end Go.Proofs.YtiojgbiimbefiacGreat
namespace Go.Proofs.YtiojgbiimbefiacGreat
open Go Go.E
theorem j4E (l:List Occurrence)(o:Occurrence):q1V l o=some (ixF l o):=by
 have h:q1v l o=some (ixF l o):=by
  unfold q1v
  refine z5s fun k x=>⟨fun e=>?_,fun e=>?_⟩
  ·unfold q1x; rw [if_pos e.symm]
  ·unfold q1x; rw [if_neg (fun h=>e h.symm)]
 unfold q1V
 rw [h]; rfl
theorem j2J {l:List Occurrence}{u:Occurrence}{a:Nat}(h:(a:Int)=ixF l u):l[a]? = some u:=by
 unfold ixF at h
 by_cases hm:u∈l
 ·rw [if_pos hm] at h
  obtain rfl:a=l.idxOf u:=by omega
  have hl:=List.idxOf_lt_length_of_mem hm
  rw [List.getElem?_eq_getElem hl,List.getElem_idxOf]
 ·rw [if_neg hm] at h; omega
theorem j4F {l:List Occurrence}{u:Occurrence}{a:Nat}(h:(a:Int)=ixF l u):a < l.length:=(List.getElem?_eq_some_iff.1 (j2J h)).1
theorem j4G {l:List Occurrence}(hn:l.Nodup){u:Occurrence}{a:Nat}(h:l[a]? = some u):(a:Int)=ixF l u:=by
 have hm:=List.mem_of_getElem? h
 unfold ixF
 rw [if_pos hm]
 have hl:=List.idxOf_lt_length_of_mem hm
 have he:l[l.idxOf u]=u:=List.getElem_idxOf hl
 obtain⟨ha,e⟩:=List.getElem?_eq_some_iff.1 h
 rw [List.Nodup,List.pairwise_iff_getElem] at hn
 rcases Nat.lt_trichotomy a (l.idxOf u) with q | q | q
 ·exact absurd (e.trans he.symm) (hn _ _ ha hl q)
 ·omega
 ·exact absurd (he.trans e.symm) (hn _ _ hl ha q)
theorem j2K (l:List Occurrence)(k:Nat)(hk:k < l.length):∀ (us:List Occurrence) (i:Nat) (o:Relation),Valid o→o.N=(l.length:Int) →
  ∃ o',eachL (q2N l k) i us (o.Rows,o.N)=some (o'.Rows,o'.N)∧Valid o'∧o'.N=o.N∧∀ a c:Nat,Rl o'.Rows a c↔Rl o.Rows a c∨(c=k∧∃ u∈us,(a:Int)=ixF l u)
 | [],i,o,hv,hN=>⟨o,rfl,hv,rfl,fun a c=>by simp⟩
 | u :: us,i,o,hv,hN=>by
  have hlen:o.Rows.length≤1048576:=by have:=hv.2.1; have:=hv.2.2.1; omega
  have e:q2N l k i u (o.Rows,o.N)=some ((addP o (ixF l u) (k:Int)).Rows,(addP o (ixF l u) (k:Int)).N):=by
   unfold q2N
   dsimp only
   rw [j4E,Option.bind_some,z7N,j4v hlen,Option.bind_some]
  obtain⟨o',h1,h2,h3,h4⟩:=j2K l k hk us (i+1) (addP o (ixF l u) (k:Int)) (z3v hv _ _) ((z4h _ _ _).2.trans hN)
  refine⟨o',by rw [eachL,e,Option.bind_some]; exact h1,h2,h3.trans (z4h _ _ _).2,fun a c=>?_⟩
  rw [h4,j0R hv]
  have hin:(a:Int)=ixF l u→inN o (ixF l u):=fun h=>⟨by omega,by have:=j4F h; omega⟩
  constructor
  ·rintro ((h | ⟨_,_,h1,h2⟩) | ⟨h1,u',hu,h2⟩)
   ·exact .inl h
   ·exact .inr ⟨by omega,u,by simp,h1⟩
   ·exact .inr ⟨h1,u',by simp [hu],h2⟩
  ·rintro (h | ⟨h1,u',hu,h2⟩)
   ·exact .inl (.inl h)
   ·rcases List.mem_cons.1 hu with rfl | hu
    ·exact .inl (.inr ⟨hin h2,⟨by omega,by omega⟩,h2,by omega⟩)
    ·exact .inr ⟨h1,u',hu,h2⟩
theorem j0T {r:Rule}(hr:Sz.szd r≤1048576)(l:List Occurrence):∀ (m k:Nat) (o:Relation),k+m=l.length→Valid o→o.N=(l.length:Int) →
  ∃ o',eachL (q2O r l) k (l.drop k) (o.Rows,o.N)=some (o'.Rows,o'.N)∧Valid o'∧o'.N=o.N∧∀ a c:Nat,Rl o'.Rows a c↔Rl o.Rows a c∨(k≤c∧∃ x,l[c]? = some x∧∃ u∈q7D (eqAt r x).1,(a:Int)=ixF l u)
 | 0,k,o,hk,hv,hN=>by
  refine⟨o,by rw [List.drop_eq_nil_of_le (by omega)]; rfl,hv,rfl,fun a c=>⟨.inl,?_⟩⟩
  rintro (h | ⟨h1,x,h2,_⟩)
  ·exact h
  ·have:=(List.getElem?_eq_some_iff.1 h2).1; omega
 | m+1,k,o,hk,hv,hN=>by
  have hk' : k < l.length:=by omega
  have hsz:=z6Q hr l[k]
  have hf:=z6R hr l[k]
  obtain⟨o1,h1,h2,h3,h4⟩:=j2K l k hk' (q7D (eqAt r l[k]).1) 0 o hv hN
  obtain⟨o',k1,k2,k3,k4⟩:=j0T hr l m (k+1) o1 (by omega) h2 (h3.trans hN)
  have e1:q2O r l k l[k] (o.Rows,o.N)=some (o1.Rows,o1.N):=by
   unfold q2O
   dsimp only
   generalize eqAt r l[k]=z at hsz hf h1
   obtain⟨E,B⟩:=z
   rw [hf.2,Option.bind_some]
   dsimp only
   rw [z3Z hsz,Option.bind_some,h1]; rfl
  refine⟨o',by rw [List.drop_eq_getElem_cons hk',eachL,e1,Option.bind_some]; exact k1,k2,k3.trans h3,fun a c=>?_⟩
  rw [k4,h4]
  constructor
  ·rintro ((h | ⟨rfl,u,hu,h⟩) | ⟨hc,h⟩)
   ·exact .inl h
   ·exact .inr ⟨Nat.le_refl _,l[c],List.getElem?_eq_getElem hk',u,hu,h⟩
   ·exact .inr ⟨by omega,h⟩
  ·rintro (h | ⟨hc,x,hx,u,hu,h⟩)
   ·exact .inl (.inl h)
   ·by_cases hck:c=k
    ·subst hck
     rw [List.getElem?_eq_getElem hk'] at hx
     cases hx
     exact .inl (.inr ⟨rfl,u,hu,h⟩)
    ·exact .inr ⟨by omega,x,hx,u,hu,h⟩
theorem j0U (n i j:Nat):¬ Rl (List.replicate n 0) i j:=by
 unfold Rl
 rw [List.getD_eq_getElem?_getD,List.getElem?_replicate]
 split<;>simp
theorem j0V {g:Grammar}{r:Rule}(hg:Sz.szd g≤1048576)(hr:Sz.szd r≤1048576)(hl:(occL g r).length≤16):Valid (locR g r)∧(locR g r).N=((occL g r).length:Int) ∧
  ∀ a c:Nat,Rl (locR g r).Rows a c↔∃ x,(occL g r)[c]? = some x∧∃ u∈q7D (eqAt r x).1,(a:Int)=ixF (occL g r) u:=by
 have h:=(j0K hg hr).2.1
 unfold q2E at h
 rw [z2r (q6Q hg) (q3N hr),Option.bind_some,z3o,j1N (by omega) (by omega),Option.bind_some,if_neg (by omega)] at h
 obtain⟨o',h1,h2,h3,h4⟩:=j0T hr (occL g r) (occL g r).length 0 ⟨((occL g r).length:Int),List.replicate (((occL g r).length:Int)).toNat 0⟩ (by omega) (z7b (by omega) (by omega)) rfl
 rw [List.drop_zero] at h1
 rw [h1,Option.bind_some] at h
 have e:locR g r=o':=(Option.some.inj h).symm
 rw [e]
 refine⟨h2,h3,fun a c=>?_⟩
 rw [h4]
 constructor
 ·rintro (h | ⟨_,h⟩)
  ·exact absurd h (j0U _ _ _)
  ·exact h
 ·exact fun h=>.inr ⟨Nat.zero_le _,h⟩
theorem j2l {g:Grammar}{r:Rule}(hg:Sz.szd g≤1048576)(hr:Sz.szd r≤1048576)(hl:¬ (occL g r).length≤16):(locR g r).N=0:=by
 have h:=(j0K hg hr).2.1
 unfold q2E at h
 rw [z2r (q6Q hg) (q3N hr),Option.bind_some] at h
 obtain⟨y,_,h⟩:=bd h
 rw [if_pos (by omega)] at h
 rw [← Option.some.inj h]
theorem Shape.plain {g:Grammar}(h:Shape g)(s:ByteArray):(q6S g s).Pairwise fun a b=>a.Name≠b.Name:=by
 unfold q6S
 refine List.Pairwise.filter _ ?_
 unfold q3X
 cases hf:g.Symbols.find? (fun y=>decide (y.Name=s)) with
 | none=>exact List.Pairwise.nil
 | some y=>
  have:=h.symB (List.mem_of_find?_eq_some hf)
  unfold Go.Proofs.YtiojgbiimbefiacGreat.symB at this
  simp only [Bool.and_eq_true] at this
  exact z3w this.2.2.2
theorem Shape.occ_nodup {g:Grammar}(h:Shape g)(r:Rule):(occL g r).Nodup:=by
 unfold occL
 rw [List.Nodup,List.pairwise_flatMap]
 refine⟨fun k hk=>?_,?_⟩
 ·unfold occK
  rw [List.pairwise_map]
  refine (h.plain _).imp fun {a b} hab he=>hab ?_
  injection he
 ·have hp:(List.range' 0 (r.Right.length+1)).Pairwise (·≠·):=List.nodup_range'
  refine hp.imp fun {a b} hab x hx y hy he=>hab ?_
  unfold occK at hx hy
  obtain⟨_,_,rfl⟩:=List.mem_map.1 hx
  obtain⟨_,_,rfl⟩:=List.mem_map.1 hy
  injection he with e
  omega
theorem z4r {α ρ:Type}{f:Nat→α→Unit→Option (Unit ⊕ ρ)}:∀ (xs:List α) (i:Nat),(∀ k x,xs[k]? = some x→f (i+k) x ()=some (.inl ()))→findL f i xs ()=some (.inl ())
 | [],_,_=>rfl
 | x :: xs,i,h=>by
  have h0:=h 0 x rfl
  rw [Nat.add_zero] at h0
  rw [findL,h0]
  exact z4r xs (i+1) fun k y hk=>by rw [show i+1+k=i+(k+1) by omega]; exact h (k+1) y hk
theorem j2m (l:List Occurrence):q3J l l=some true:=by
 unfold q3J
 rw [if_pos rfl,z4r l 0 fun k x hk=>by
  unfold q6L
  rw [Nat.zero_add,hk,Option.bind_some,if_pos rfl],Option.bind_some]
 rfl
theorem j3Q (g:Grammar)(r:Rule):((List.range' 0 (r.Right.length+1)).map fun j:Nat=>(q6S g (q3Y r (j:Int))).length).sum=(occL g r).length:=by
 unfold occL
 rw [List.length_flatMap]
 congr 1
 apply List.map_congr_left
 intro j _
 unfold occK
 rw [List.length_map]
theorem z7Y {g:Grammar}(hg:GOk g){r:Rule}(hr:r.Right.length≤5):∀ (m k s:Nat),k+m=r.Right.length+1→s≤k*1048576 →
  q2t (q2P g r) ((s:Int),(k:Int))=some (.inl (((s+((List.range' k m).map fun j:Nat=>(q6S g (q3Y r (j:Int))).length).sum:Nat)):Int))
 | 0,k,s,hk,hs=>q1D (by
  unfold q2P
  dsimp only
  rw [if_neg (by omega)]; rfl)
 | m+1,k,s,hk,hs=>by
  have hl:ROk r:=by show r.Right.length≤1048576; omega
  have hp:=j3I g (r:=r) (k:=k) (by omega)
  have hq:=q8U hg (q3Y r (k:Int))
  have ih:=z7Y hg hr m (k+1) (s+(q6S g (q3Y r (k:Int))).length) (by omega) (by omega)
  have h1:q2P g r ((s:Int),(k:Int))=some (.inl (((s+(q6S g (q3Y r (k:Int))).length:Nat):Int),((k+1:Nat):Int))):=by
   unfold q2P
   dsimp only
   rw [if_pos (by omega),j3H hg hl,Option.bind_some,hp,q1n (by constructor<;>omega),q7l hl,Option.bind_some,z5M hg,Option.bind_some,if_pos rfl,q1n (by constructor<;>omega)]
   rfl
  rw [q2c h1,ih,List.range'_succ,List.map_cons,List.sum_cons,Nat.add_assoc]
theorem z9c {b:List UInt8}(hb:b.length≤1048576):Ok (fun q=>GC2 q.1∧R2 q.2) (q3f b):=by
 unfold q3f
 refine .bind (j3O hb) ?_
 rintro⟨g,r⟩ h
 exact .ret h
theorem j3R {g:Grammar}{r:Rule}(hg:Sz.szd g≤1048576)(hr:Sz.szd r≤1048576)(h:Shape g)(hl:(occL g r).length≤16){k:Nat}{x:Occurrence}(hx:(occL g r)[k]? = some x){j:Nat}{y:Occurrence}(hy:(occL g r)[j]? = some y) :
  q4i (locR g r) (k:Int) (q7D (eqAt r x).1) j y ()=some (.inl ()):=by
 obtain⟨v1,v2,v3⟩:=j0V hg hr hl
 unfold q4i
 rw [z6N,Option.bind_some,j3P,Option.bind_some,if_pos]
 have e:hasP (locR g r) (j:Int) (k:Int)↔y∈q7D (eqAt r x).1:=by
  rw [j3x v1,v3]
  constructor
  ·rintro⟨x',hx',u,hu,he⟩
   rw [hx] at hx'
   cases hx'
   have:=j2J he
   rw [hy] at this
   cases this
   exact hu
  ·exact fun hm=>⟨x,hx,y,hm,j4G (h.occ_nodup r) hy⟩
 by_cases hm:y∈q7D (eqAt r x).1
 ·rw [decide_eq_true hm,decide_eq_true (e.2 hm)]
 ·rw [decide_eq_false hm,decide_eq_false fun q=>hm (e.1 q)]
theorem z4s (a:List UInt8):q4s a=some true:=by
 unfold q4s z7H
 rw [Option.bind_some]
 by_cases hb:1048576 < (a.length:Int)
 ·rw [if_pos (by simpa using hb)]
 rw [if_neg (by simpa using hb)]
 have hb:a.length≤1048576:=by omega
 obtain⟨⟨g,r⟩,e,hg,hr⟩:=z9c hb
 rw [e,Option.bind_some]
 dsimp only at hg hr ⊢
 have hG:=szG hg
 have hR:Sz.szd r≤1048576:=Nat.le_trans (szR hr) (by decide)
 have h5:=hr.1.2.2.1
 obtain⟨l1,l2,l3⟩:=j0K hG hR
 have o1:=z2r (q6Q hG) (q3N hR)
 have o2:=j3G (q6Q hG) (q3N hR)
 rw [l2,Option.bind_some,o1,Option.bind_some,l1,Option.bind_some,z6O,Option.bind_some,if_pos rfl,o2,Option.bind_some,j2m,Option.bind_some,if_pos rfl]
 have hgd:z1Z g=some (j2c g):=by
  unfold z1Z
  rw [j2b hG,Option.bind_some]; rfl
 rw [hgd,Option.bind_some]
 by_cases h:j2c g=true
 ·rw [if_pos h]
  have hs:=z9b h
  have p:=z7Y (q6Q hG) h5 (r.Right.length+1) 0 0 (by omega) (by omega)
  rw [j3Q,Nat.zero_add] at p
  rw [show q2t (q2P g r) (0,0)=_ from p,Option.bind_some,q8c]
  have p2:q2t (q2n r (locR g r) (occL g r)) 0=some (.inl ()):=by
   by_cases hN:0 < (locR g r).N
   ·have hl:(occL g r).length≤16:=by
     rcases Nat.lt_or_ge 16 (occL g r).length with q | q
     ·rw [j2l hG hR (by omega)] at hN; omega
     ·exact q
    have e:=z4n (c:=false) (q:=fun _=>true) (n:=(occL g r).length) (f:=q2n r (locR g r) (occL g r)) (fun k hk=>by
     have hx:=List.getElem?_eq_getElem hk
     have hsz:=z6Q hR (occL g r)[k]
     have hf:=(z6R hR (occL g r)[k]).1
     have hgo:=z4r (f:=q4i (locR g r) (k:Int) (q7D (eqAt r (occL g r)[k]).1)) (occL g r) 0 fun j y hy=>by rw [Nat.zero_add]; exact j3R hG hR hs hl hx hy
     unfold q2n
     rw [if_pos (by omega),if_pos hN,q1n (by omega),show ((k:Int)).toNat=k from rfl,hx,Option.bind_some]
     generalize eqAt r (occL g r)[k]=z at hsz hf hgo
     obtain⟨E,B⟩:=z
     rw [hf,Option.bind_some]
     dsimp only
     dsimp only at hsz hgo
     rw [z4e hsz,Option.bind_some,hgo,Option.bind_some,q8c,q1n (by constructor<;>omega),if_pos rfl]; rfl) (by
     unfold q2n; rw [if_neg (by omega)]) (occL g r).length 0 (by omega)
    rw [show q2t (q2n r (locR g r) (occL g r)) 0=_ from e,if_pos (by simp)]
   ·exact q1D (by
     unfold q2n
     rw [if_neg hN,ite_self])
  rw [p2,Option.bind_some,q8c,decide_eq_true rfl]
 ·rw [if_neg h]
end Go.Proofs.YtiojgbiimbefiacGreat
