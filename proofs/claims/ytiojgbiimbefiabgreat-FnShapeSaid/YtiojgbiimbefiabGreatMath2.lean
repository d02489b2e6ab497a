/- What those partial functions come to: plain lemmas on data; each bears its conditions in its statement. -/
import Derived.Test.YtiojgbiimbefiabGreatEng6
set_option linter.unusedVariables false
set_option linter.unusedSimpArgs false
set_option linter.ambiguousOpen false
set_option linter.unusedSectionVars false
set_option linter.unnecessarySimpa false
namespace Go.Proofs.YtiojgbiimbefiabGreat
open Go Go.E
mutual
def q8N:Expr→List Occurrence
 | ⟨a0,a1,a2,a3,a4,a5,a6⟩=>(if a0=3 then [⟨a2,a5⟩] else [])++q5L a6
def q5L:List Expr→List Occurrence
 | []=>[]
 | x :: xs=>q8N x++q5L xs
end
mutual
def fuE:Expr→Nat
 | ⟨_,_,_,_,_,_,a6⟩=>fuEs a6+1
def fuEs:List Expr→Nat
 | []=>0
 | x :: xs=>max (fuE x) (fuEs xs)
end
theorem z0O (e:Expr):fuE e=fuEs e.Args+1:=by cases e; rfl
theorem z3Y:∀ {l:List Expr} {x:Expr},x∈l→fuE x≤fuEs l
 | y :: l,x,h=>by
  simp only [fuEs]
  rcases List.mem_cons.1 h with e | h
  ·subst e; omega
  ·have:=z3Y h; omega
theorem q8a (e:Expr):q8N e=(if e.Kind=3 then [⟨e.Pos,e.Name⟩] else [])++q5L e.Args:=by cases e; rfl
mutual
theorem z5j:∀ e:Expr,(q8N e).length≤1+q5F e
 | ⟨a0,a1,a2,a3,a4,a5,a6⟩=>by
  have:=z3m a6
  simp only [q8N,q5F,List.length_append]
  split<;>simp<;>omega
theorem z3m:∀ l:List Expr,(q5L l).length≤q7j l
 | []=>by simp [q5L]
 | x :: xs=>by
  have h1:=z5j x
  have h2:=z3m xs
  simp only [q5L,q7j,List.length_append]; omega
end
theorem z0a {α:Type}[Sz α]{x:α}:∀ {l:List α},x∈l→Sz.szd x < szL l
 | [],h=>by simp at h
 | y :: l,h=>by
  rcases List.mem_cons.1 h with rfl | h
  ·simp only [szL]; omega
  ·have:=z0a h; simp only [szL]; omega
theorem j3d {e x:Expr}(h:x∈e.Args):Sz.szd x < Sz.szd e:=by
 have h1:=q3f e
 have h2:=z0a h
 omega
theorem z9m {e:Expr}(h:Sz.szd e≤1048576):(q8N e).length≤1048577:=by
 have h1:=z5j e
 have h2:q5F e=Sz.szd e:=rfl
 omega
theorem z6r:∀ (m:Nat) (e:Expr) (o:List Occurrence),fuE e≤m→o.length+(q8N e).length≤4398046511104→q1N m e o=some (true,o++q8N e):=by
 intro m
 induction m with
 | zero=>intro e o h; rw [z0O] at h; omega
 | succ m ih=>
  have hl:∀ (l:List Expr) (i:Nat) (o:List Occurrence),fuEs l≤m→o.length+(q5L l).length≤4398046511104→findL (q1A (q1N m)) i l o=some (.inl (o++q5L l)):=by
   intro l
   induction l with
   | nil=>intro i o _ _; simp [findL,q5L]
   | cons x l ihl=>
    intro i o hf hb
    simp only [fuEs] at hf
    simp only [q5L,List.length_append] at hb
    have hx:=ih x o (by omega) (by omega)
    simp only [findL,q1A,q2l,hx,Option.bind_some,Bool.not_true,Bool.false_eq_true,if_false]
    rw [ihl _ _ (by omega) (by rw [List.length_append]; omega),q5L,List.append_assoc]
  intro e o hf hb
  rw [z0O] at hf
  show q2a (q1N m) e o=_
  have hb':=hb
  rw [q8a,List.length_append] at hb'
  have h1:q3B e o=some (true,o++if e.Kind=3 then [⟨e.Pos,e.Name⟩] else []):=by
   unfold q3B
   by_cases hk:e.Kind=3
   ·rw [if_pos hk] at hb' ⊢
    rw [if_pos hk,q1j]
    simp only [List.length_cons,List.length_nil] at hb'
    constructor<;>omega
   ·rw [if_neg hk,if_neg hk,List.append_nil]
  unfold q2a
  rw [h1,Option.bind_some]
  dsimp only
  rw [if_pos rfl]
  unfold q1m q1n
  rw [hl _ _ _ (by omega) (by rw [List.length_append]; omega),q8a]
  simp [onr]
theorem j0F {e:Expr}(h:(q8N e).length≤4398046511104):q2V e []=some (true,q8N e):=
 q6p (fuE e) fun m hm=>by simpa using z6r m e [] hm (by simpa using h)
theorem z6s {α:Type}{s:List α}{k:Nat}{x:α}(h:k < s.length):(s.set k x).take (k+1)=s.take k++[x]:=by
 rw [List.take_add_one,List.take_set,List.set_eq_of_length_le (by simp; omega)]
 simp [List.getElem?_set,h]
theorem z8g {a:List Occurrence}{b:Nat}(ha:a.length≤4398046511104)(hb:1≤b)(hba:b < a.length):∀ (m j k:Nat) (s:List Occurrence),b+j+m=a.length→1≤j→1≤k→k≤b+j - 1→s.length=a.length→s.take k=q2f (a.take (b+j))→s.drop (b+j - 1)=a.drop (b+j - 1) →
  ∃ s' k',q3D (q1t (b:Int)) (s,(k:Int),(j:Int))=some (s',((k' : Nat):Int))∧k'≤s'.length∧s'.take k'=q2f a:=by
 intro m
 induction m with
 | zero=>
  intro j k s hm hj hk hkj hs ht hd
  refine⟨s,k,q2g ?_,by omega,?_⟩
  ·unfold q1t
   dsimp only
   rw [if_neg (by simp only [Int.toNat_natCast,List.length_drop]; omega)]
  ·rw [ht,show b+j=a.length by omega,List.take_length]
 | succ m ih=>
  intro j k s hm hj hk hkj hs ht hd
  obtain⟨x,hx⟩:∃ x,a[b+j]? = some x:=⟨_,List.getElem?_eq_getElem (by omega)⟩
  obtain⟨y,hy⟩:∃ y,a[b+j - 1]? = some y:=⟨_,List.getElem?_eq_getElem (by omega)⟩
  obtain⟨z,hz⟩:∃ z,s[k]? = some z:=⟨_,List.getElem?_eq_getElem (by omega)⟩
  have hsx:s[b+j]? = some x:=by
   have:=congrArg (fun l=>l[1]?) hd
   simp only [List.getElem?_drop] at this
   rw [show b+j - 1+1=b+j by omega] at this
   rw [this,hx]
  have hsy:s[b+(j - 1)]? = some y:=by
   have:=congrArg (fun l=>l[0]?) hd
   simp only [List.getElem?_drop,Nat.add_zero] at this
   rw [show b+(j - 1)=b+j - 1 by omega,this,hy]
  have hc:=q9Z (i:=b+j - 1) (b:=x) hy (by rw [show b+j - 1+1=b+j by omega]; exact hx)
  rw [show b+j - 1+2=b+(j+1) by omega,show b+j - 1+1=b+j by omega] at hc
  have hd2:s.drop (b+(j+1) - 1)=a.drop (b+(j+1) - 1):=by
   have:=congrArg (fun l=>l.drop 1) hd
   simp only [List.drop_drop] at this
   rw [show b+(j+1) - 1=b+j - 1+1 by omega]; exact this
  have e1:((j:Int) - 1).toNat=j - 1:=by omega
  by_cases hxy:x=y
  ·have e:q1t (b:Int) (s,(k:Int),(j:Int))=some (.inl (s,(k:Int),((j+1:Nat):Int))):=by
    unfold q1t
    dsimp only
    rw [if_pos (by simp only [Int.toNat_natCast,List.length_drop]; omega),q1j (by omega)]
    simp only [Int.toNat_natCast]
    rw [hsx,Option.bind_some,q1j (by constructor<;>omega),q1j (by omega),e1,hsy,Option.bind_some,if_pos hxy,Option.bind_some]
    dsimp only
    rw [q1j (by constructor<;>omega)]; rfl
   rw [q2R e]
   exact ih (j+1) k s (by omega) (by omega) hk (by omega) hs (by rw [hc,if_pos hxy.symm,ht]) hd2
  ·have e:q1t (b:Int) (s,(k:Int),(j:Int))=some (.inl (s.set k x,((k+1:Nat):Int),((j+1:Nat):Int))):=by
    unfold q1t
    dsimp only
    rw [if_pos (by simp only [Int.toNat_natCast,List.length_drop]; omega),q1j (by omega)]
    simp only [Int.toNat_natCast]
    rw [hsx,Option.bind_some,q1j (by constructor<;>omega),q1j (by omega),e1,hsy,Option.bind_some,if_neg hxy,q1j (by omega),q1j (by omega),hz,Option.bind_some,q1j (by constructor<;>omega),Option.bind_some]
    dsimp only
    rw [q1j (by constructor<;>omega)]; rfl
   rw [q2R e]
   refine ih (j+1) (k+1) _ (by omega) (by omega) (by omega) (by omega) (by rw [List.length_set]; exact hs) ?_ ?_
   ·rw [z6s (by omega),ht,hc,if_neg (fun h=>hxy h.symm)]
   ·rw [List.drop_set,if_pos (by omega)]; exact hd2
theorem z6t {a:List Occurrence}(ha:a.length≤4398046511104):∀ (m k:Nat),k+m=a.length→1≤k→q2f (a.take k)=a.take k →
  (q3D (q1u a) (k:Int)).bind (onr (fun r1=>some r1) fun _=>some a)=some (q2f a):=by
 intro m
 induction m with
 | zero=>
  intro k hm hk hc
  have e:q1u a (k:Int)=some (.inr (.inl ())):=by
   unfold q1u
   dsimp only
   rw [if_neg (by omega)]
  rw [q2g e,Option.bind_some]
  show some a=_
  rw [show k=a.length by omega,List.take_length] at hc
  rw [hc]
 | succ m ih=>
  intro k hm hk hc
  obtain⟨x,hx⟩:∃ x,a[k]? = some x:=⟨_,List.getElem?_eq_getElem (by omega)⟩
  obtain⟨y,hy⟩:∃ y,a[k - 1]? = some y:=⟨_,List.getElem?_eq_getElem (by omega)⟩
  have hct:=q9Z (i:=k - 1) (b:=x) hy (by rw [show k - 1+1=k by omega]; exact hx)
  rw [show k - 1+2=k+1 by omega,show k - 1+1=k by omega] at hct
  have htk:a.take (k+1)=a.take k++[x]:=by rw [List.take_add_one,hx]; rfl
  have e1:((k:Int) - 1).toNat=k - 1:=by omega
  by_cases hxy:x=y
  ·obtain⟨s',k',h1,h2,h3⟩:=z8g (b:=k) ha hk (by omega) m 1 k a (by omega) (by omega) hk (by omega) rfl (by rw [hct,if_pos hxy.symm,hc]) rfl
   have hl:(s'.take k'++List.replicate (s'.length - k') (⟨(0:Int),(⟨#[]⟩:ByteArray)⟩:Occurrence)).take k'=q2f a:=by
    rw [List.take_append_of_le_length (by simp; omega),List.take_take,Nat.min_self,h3]
   have e:q1u a (k:Int)=some (.inr (.inr (q2f a))):=by
    unfold q1u
    dsimp only
    rw [if_pos (by omega),q1j (by omega)]
    simp only [Int.toNat_natCast]
    rw [hx,Option.bind_some,q1j (by constructor<;>omega),q1j (by omega),e1,hy,Option.bind_some,if_pos hxy,q1j (by omega),q1j (by omega)]
    have h1' : q3D (q1t (k:Int)) (a,(k:Int),1)=some (s',((k' : Nat):Int)):=h1
    rw [h1',Option.bind_some]
    dsimp only
    simp only [Int.toNat_natCast]
    rw [q1j (by omega),q1j (by omega),q1j (by omega),q1j (by simp; omega),hl]
   rw [q2g e,Option.bind_some]; rfl
  ·have e:q1u a (k:Int)=some (.inl ((k+1:Nat):Int)):=by
    unfold q1u
    dsimp only
    rw [if_pos (by omega),q1j (by omega)]
    simp only [Int.toNat_natCast]
    rw [hx,Option.bind_some,q1j (by constructor<;>omega),q1j (by omega),e1,hy,Option.bind_some,if_neg hxy,q1j (by constructor<;>omega)]; rfl
   rw [q2R e]
   exact ih (k+1) (by omega) (by omega) (by rw [hct,if_neg (fun h=>hxy h.symm),hc,htk])
theorem z8h {a:List Occurrence}(ha:a.length≤4398046511104):q2j a=some (q2f a):=by
 unfold q2j
 by_cases h:(a.length:Int) < 2
 ·rw [if_pos h]
  match a,h with
  | [],_=>rfl
  | [x],_=>rfl
  | x :: y :: l,h=>simp only [List.length_cons] at h; omega
 ·rw [if_neg h]
  refine z6t ha (a.length - 1) 1 (by omega) (Nat.le_refl _) ?_
  match a,h with
  | x :: l,_=>rfl
def z2F (e:Expr):List Occurrence:=q2f (z5V (q8N e))
theorem z9n {o:Occurrence}{e:Expr}:o∈z2F e↔o∈q8N e:=by
 unfold z2F z5V
 rw [q8L,List.mem_mergeSort]
theorem j0G {e:Expr}(h:Sz.szd e≤1048576):q4l e=some (z2F e):=by
 have hl:=z9m h
 have hs:(z5V (q8N e)).length=(q8N e).length:=by unfold z5V; exact List.length_mergeSort _
 unfold q4l
 rw [j0F (by omega),Option.bind_some]
 dsimp only
 unfold q2x
 rw [q1j (by omega),Option.bind_some,z8h (by omega)]; rfl
end Go.Proofs.YtiojgbiimbefiabGreat
namespace Go.Proofs.YtiojgbiimbefiabGreat
open Go Go.E
theorem z0b (e:Expr):1≤fuE e:=by rw [z0O]; omega
theorem q9l {e x:Expr}(hx:x∈e.Args):fuE x+1≤fuE e:=by
 have:=z3Y hx
 have:=z0O e
 omega
theorem q7k {P:Expr→Prop}(h:∀ e,(∀ x∈e.Args,P x)→P e)(e:Expr):P e:=by
 have:∀ n e,fuE e≤n→P e:=by
  intro n
  induction n with
  | zero=>intro e he; have:=z0b e; omega
  | succ n ih=>intro e he; exact h e fun x hx=>ih x (by have:=q9l hx; omega)
 exact this _ e (Nat.le_refl _)
theorem q2q {α ρ:Type}{c:ρ}{q:α→Bool}:∀ {xs:List α} {i:Nat} {f:Nat→α→Unit→Option (Unit ⊕ ρ)},(∀ k x,x∈xs→f k x ()=some (if q x=true then .inl () else .inr c))→findL f i xs ()=some (if xs.all q=true then .inl () else .inr c)
 | [],i,f,h=>rfl
 | x :: xs,i,f,h=>by
  rw [findL,h i x (by simp)]
  by_cases hx:q x=true
  ·rw [if_pos hx,Option.bind_some]
   show findL f (i+1) xs ()=_
   rw [q2q fun k y hy=>h k y (by simp [hy])]
   simp [hx]
  ·rw [if_neg hx]; simp [hx]
theorem z2f {α:Type}{q:α→Bool}:∀ {xs:List α} {i:Nat} {f:Nat→α→Unit→Option (Unit ⊕ Int)},(∀ k x,x∈xs→f k x ()=some (if q x=true then .inr (k:Int) else .inl ()))→findL f i xs ()=some (if xs.any q=true then .inr ((i+xs.findIdx q:Nat):Int) else .inl ())
 | [],i,f,h=>rfl
 | x :: xs,i,f,h=>by
  rw [findL,h i x (by simp)]
  by_cases hx:q x=true
  ·rw [if_pos hx]; simp [hx,List.findIdx_cons]
  ·rw [if_neg hx,Option.bind_some]
   show findL f (i+1) xs ()=_
   rw [z2f fun k y hy=>h k y (by simp [hy])]
   have hx' : q x=false:=by simpa using hx
   simp only [List.any_cons,hx',Bool.false_or,List.findIdx_cons,cond_false]
   rw [show i+1+xs.findIdx q=i+(xs.findIdx q+1) by omega]
mutual
def allE (p:Expr→Bool):Expr→Bool
 | ⟨a0,a1,a2,a3,a4,a5,a6⟩=>p ⟨a0,a1,a2,a3,a4,a5,a6⟩&&j0H p a6
def j0H (p:Expr→Bool):List Expr→Bool
 | []=>true
 | x :: xs=>allE p x&&j0H p xs
end
mutual
def cntE:Expr→Nat
 | ⟨_,_,_,_,_,_,a6⟩=>q8b a6+1
def q8b:List Expr→Nat
 | []=>0
 | x :: xs=>cntE x+q8b xs
end
mutual
def depE:Expr→Nat
 | ⟨_,_,_,_,_,_,a6⟩=>z2G a6+1
def z2G:List Expr→Nat
 | []=>0
 | x :: xs=>max (depE x) (z2G xs)
end
theorem z7o (p:Expr→Bool):∀ l,j0H p l=l.all (allE p)
 | []=>rfl
 | x :: xs=>by rw [j0H,z7o p xs]; rfl
theorem z3Z (p:Expr→Bool)(e:Expr):allE p e=(p e&&e.Args.all (allE p)):=by
 cases e; rw [allE,z7o]
theorem z0w (e:Expr):cntE e=q8b e.Args+1:=by cases e; rfl
theorem z9o (e:Expr):depE e=z2G e.Args+1:=by cases e; rfl
mutual
theorem z4a:∀ e:Expr,cntE e≤1+q5F e
 | ⟨a0,a1,a2,a3,a4,a5,a6⟩=>by
  have:=z5k a6
  simp only [cntE,q5F]; omega
theorem z5k:∀ l:List Expr,q8b l≤q7j l
 | []=>by simp [q8b]
 | x :: xs=>by
  have h1:=z4a x
  have h2:=z5k xs
  simp only [q8b,q7j]; omega
end
theorem j1G {e:Expr}(h:Sz.szd e≤1048576):cntE e≤1048577:=by
 have h1:=z4a e
 have h2:q5F e=Sz.szd e:=rfl
 omega
mutual
theorem z9p:∀ e:Expr,depE e≤cntE e
 | ⟨_,_,_,_,_,_,a6⟩=>by
  have:=z7p a6
  simp only [depE,cntE]; omega
theorem z7p:∀ l:List Expr,z2G l≤q8b l
 | []=>Nat.le_refl _
 | x :: xs=>by
  have h1:=z9p x
  have h2:=z7p xs
  simp only [z2G,q8b]; omega
end
theorem z5l:∀ {l:List Expr} {x:Expr},x∈l→cntE x≤q8b l
 | y :: l,x,h=>by
  simp only [q8b]
  rcases List.mem_cons.1 h with e | h
  ·subst e; omega
  ·have:=z5l h; omega
theorem z9q {e x:Expr}(hx:x∈e.Args):cntE x+1≤cntE e:=by
 have:=z5l hx
 have:=z0w e
 omega
theorem z8i (e:Expr):∀ m,fuE e≤m→cntE e≤1099511627776→q5h m e=some (cntE e:Int):=by
 induction e using q7k with
 | h e ih=>
  intro m hm hc
  obtain⟨m,rfl⟩:∃ q,m=q+1:=⟨m - 1,by have:=z0b e; omega⟩
  show q6i (q5h m) e=_
  unfold q6i
  have key:∀ (l:List Expr) (i s:Nat),(∀ x∈l,x∈e.Args)→s+q8b l≤1099511627776→eachL (q6z (q5h m)) i l (s:Int)=some ((s+q8b l:Nat):Int):=by
   intro l
   induction l with
   | nil=>intro i s _ _; rfl
   | cons x l ihl=>
    intro i s hx hs
    have hxm:=hx x (by simp)
    simp only [q8b] at hs
    have h1:=ih x hxm m (by have:=q9l hxm; omega) (by omega)
    rw [eachL]
    unfold q6z
    rw [h1,Option.bind_some,q1j (by constructor<;>omega),Option.bind_some]
    have:=ihl (i+1) (s+cntE x) (fun y hy=>hx y (by simp [hy])) (by omega)
    rw [Int.natCast_add] at this
    unfold q6z at this
    rw [this,q8b]
    congr 1; omega
  rw [z0w] at hc
  have:=key e.Args 0 1 (fun _ h=>h) (by omega)
  rw [show ((1:Nat):Int)=1 from rfl] at this
  rw [this,Option.bind_some,z0w,Nat.add_comm]
theorem z9r {e:Expr}(h:cntE e≤1099511627776):q8v e=some (cntE e:Int):=q6p (fuE e) fun m hm=>z8i e m hm h
theorem j3e (a b:Nat):(if (b:Int) > (a:Int) then (b:Int) else (a:Int))=((max a b:Nat):Int):=by
 split<;>omega
theorem z2g {f:Expr→Option Int}{g:Nat→Expr→Int→Option Int}(hg:∀ k x s,g k x s=(f x).bind fun y=>some (if y > s then y else s)):∀ (l:List Expr) (i s:Nat),(∀ x∈l,f x=some (depE x:Int))→eachL g i l (s:Int)=some ((max s (z2G l):Nat):Int)
 | [],i,s,_=>by rw [eachL,z2G,Nat.max_zero]
 | x :: l,i,s,h=>by
  rw [eachL,hg,h x (by simp),Option.bind_some,Option.bind_some,j3e,z2g hg l (i+1) _ fun y hy=>h y (by simp [hy]),z2G,Nat.max_assoc]
theorem z9s (a b:Int):q8Z a b=some (if b > a then b else a):=by
 unfold q8Z
 by_cases h:b < a
 ·rw [if_pos h,if_neg (by omega)]
 ·rw [if_neg h]
  split
  ·rfl
  ·congr 1; omega
theorem z3n (e:Expr):∀ m,fuE e≤m→cntE e≤1099511627776→q3h m e=some (depE e:Int)∧q3g m e=some (depE e:Int):=by
 induction e using q7k with
 | h e ih=>
  intro m hm hc
  obtain⟨m,rfl⟩:∃ q,m=q+1:=⟨m - 1,by have:=z0b e; omega⟩
  show q4P (q3h m) e=_∧q4N (q3g m) e=_
  unfold q4P q4N
  have hx:∀ x∈e.Args,q3h m x=some (depE x:Int)∧q3g m x=some (depE x:Int):=fun x hx=>ih x hx m (by have:=q9l hx; omega) (by have:=z9q hx; omega)
  have k1:=z2g (f:=q3h m) (g:=q8w (q3h m)) (fun k x s=>rfl) e.Args 0 0 fun x h=>(hx x h).1
  have k2:=z2g (f:=q3g m) (g:=q6Q (q3g m)) (fun k x s=>by
   unfold q6Q
   congr 1; funext y
   rw [z9s,Option.bind_some]) e.Args 0 0 fun x h=>(hx x h).2
  rw [show ((0:Nat):Int)=0 from rfl] at k1 k2
  have hd:=z9p e
  rw [z9o] at hd
  rw [k1,k2]
  have hg:I64 (((max 0 (z2G e.Args):Nat):Int)+1):=by constructor<;>omega
  have he:((max 0 (z2G e.Args):Nat):Int)+1=(depE e:Int):=by rw [z9o]; omega
  refine⟨?_,?_⟩
  ·rw [Option.bind_some,q1j hg,he]
  ·rw [Option.bind_some,q1j hg,he]
theorem z9t {e:Expr}(h:cntE e≤1099511627776):q7q e=some (depE e:Int):=q6p (fuE e) fun m hm=>(z3n e m hm h).1
theorem z9u {e:Expr}(h:cntE e≤1099511627776):q7p e=some (depE e:Int):=q6p (fuE e) fun m hm=>(z3n e m hm h).2
def z1b (a:Int)(n:Nat):Int:=if (n:Int)≤a then a - n else -1
theorem z9v (e:Expr):∀ m,fuE e≤m→∀ a:Int,0≤a→a≤1048576→cntE e≤1099511627776→q6P m e a=some (z1b a (cntE e)):=by
 induction e using q7k with
 | h e ih=>
  intro m hm a h0 h1 hc
  obtain⟨m,rfl⟩:∃ q,m=q+1:=⟨m - 1,by have:=z0b e; omega⟩
  show q8l (q6P m) e a=_
  unfold q8l
  rw [q1j (by constructor<;>omega)]
  have hlen:e.Args.length≤cntE e:=by
   rw [z0w]
   have:∀ l:List Expr,l.length≤q8b l:=by
    intro l
    induction l with
    | nil=>simp
    | cons x l ih=>
     have:=z0w x
     simp only [q8b,List.length_cons]; omega
   have:=this e.Args; omega
  have key:∀ (n k:Nat) (s:Int),k+n=e.Args.length→-1≤s→s≤1048576→q3D (q6E (q6P m) e) (s,(k:Int))=some (if 0≤s then z1b s (q8b (e.Args.drop k)) else s):=by
   intro n
   induction n with
   | zero=>
    intro k s hk _ _
    have hdrop:e.Args.drop k=[]:=List.drop_eq_nil_of_le (by omega)
    refine q2g ?_
    unfold q6E
    dsimp only
    rw [if_neg (by omega),hdrop]
    congr 2
    split
    ·unfold z1b; simp [q8b]; omega
    ·rfl
   | succ n ihn=>
    intro k s hk hs1 hs2
    have hkl:k < e.Args.length:=by omega
    by_cases hs:0≤s
    ·have hxm:e.Args[k]∈e.Args:=List.getElem_mem hkl
     have hr:=ih _ hxm m (by have:=q9l hxm; omega) s hs hs2 (by have:=z9q hxm; omega)
     have hstep:q6E (q6P m) e (s,(k:Int))=some (.inl (z1b s (cntE e.Args[k]),((k+1:Nat):Int))):=by
      unfold q6E
      dsimp only
      rw [if_pos (by omega),if_pos hs,q1j (by omega),Int.toNat_natCast,List.getElem?_eq_getElem hkl,Option.bind_some,hr,Option.bind_some,q1j (by constructor<;>omega)]
      rfl
     have hb1:-1≤z1b s (cntE e.Args[k]):=by unfold z1b; split<;>omega
     have hb2:z1b s (cntE e.Args[k])≤1048576:=by unfold z1b; split<;>omega
     rw [q2R hstep,ihn (k+1) _ (by omega) hb1 hb2,if_pos hs]
     have hd:e.Args.drop k=e.Args[k] :: e.Args.drop (k+1):=List.drop_eq_getElem_cons hkl
     rw [hd,q8b]
     congr 1
     unfold z1b
     split<;>split<;>(try split)<;>omega
    ·refine q2g ?_
     unfold q6E
     dsimp only
     rw [if_pos (by omega),if_neg hs,if_neg hs]
  have:=key e.Args.length 0 (a - 1) (by omega) (by omega) (by omega)
  rw [show ((0:Nat):Int)=0 from rfl] at this
  rw [this,Option.bind_some,List.drop_zero,z0w]
  congr 1
  unfold z1b
  split<;>(try split)<;>(try split)<;>omega
theorem j0I {e:Expr}{a:Int}(h0:0≤a)(h1:a≤1048576)(h:cntE e≤1099511627776):z1H e a=some (z1b a (cntE e)):=q6p (fuE e) fun m hm=>z9v e m hm a h0 h1 h
end Go.Proofs.YtiojgbiimbefiabGreat
namespace Go.Proofs.YtiojgbiimbefiabGreat
open Go Go.E
theorem z8j (x lo hi:Int):q1Z x lo hi=some (decide (lo≤x∧x≤hi)):=by
 unfold q1Z; by_cases h:lo≤x<;>simp [h]
theorem z6u (x lo hi:Int):q3d x lo hi=some (decide (lo≤x∧x≤hi)):=by
 unfold q3d; by_cases h:lo≤x<;>simp [h]
def lowB (c:UInt8):Bool:=decide (97≤(c.toNat:Int)∧(c.toNat:Int)≤122)
def digB (c:UInt8):Bool:=decide (48≤(c.toNat:Int)∧(c.toNat:Int)≤57)
theorem z0x (c:UInt8):q6F c=some (lowB c):=by
 unfold q6F lowB; by_cases h:97≤(c.toNat:Int)<;>simp [h]
theorem z8k (c:UInt8):q7G c=some (digB c):=by
 unfold q7G digB; by_cases h:48≤(c.toNat:Int)<;>simp [h]
def allN (q:Nat→Bool):Nat→Nat→Bool
 | _,0=>true
 | i,n+1=>q i&&allN q (i+1) n
theorem z3o {q r:Nat→Bool}:∀ {n i:Nat},(∀ k,i≤k→q k=r k)→allN q i n=allN r i n
 | 0,_,_=>rfl
 | n+1,i,h=>by rw [allN,allN,h i (Nat.le_refl _),z3o fun k hk=>h k (by omega)]
theorem z0y {ρ:Type}{c:ρ}{q:Nat→Bool}:∀ {n i:Nat} {f:Nat→Unit→Option (Unit ⊕ ρ)},(∀ k,k < n→f (i+k) ()=some (if q (i+k)=true then .inl () else .inr c))→findN f i n ()=some (if allN q i n=true then .inl () else .inr c)
 | 0,i,f,h=>rfl
 | n+1,i,f,h=>by
  have h0:=h 0 (by omega)
  rw [Nat.add_zero] at h0
  rw [findN,h0]
  by_cases hx:q i=true
  ·rw [if_pos hx,Option.bind_some]
   show findN f (i+1) n ()=_
   rw [z0y fun k hk=>by have:=h (k+1) (by omega); rwa [show i+(k+1)=i+1+k by omega] at this]
   simp [allN,hx]
  ·rw [if_neg hx]; simp [allN,hx]
def chr (s:ByteArray)(k:Nat):UInt8:=s.data.getD k 0
theorem z4b {s:ByteArray}{k:Nat}(h:k < s.size):s.data[k]? = some (chr s k):=by
 have h' : k < s.data.size:=h
 unfold chr
 rw [Array.getD_eq_getD_getElem?,Array.getElem?_eq_getElem h']; rfl
def z0c:List ByteArray:=[⟨#[105,102]⟩,⟨#[116,104,101,110]⟩,⟨#[101,108,115,101]⟩,⟨#[116,114,117,101]⟩,⟨#[102,97,108,115,101]⟩,⟨#[108,105,116]⟩,⟨#[110,111,110,101]⟩,⟨#[115,101,108,102]⟩,⟨#[111,102]⟩,⟨#[109,97,120]⟩,⟨#[109,105,110]⟩,⟨#[119,105,116,104]⟩,⟨#[104,97,115]⟩]
def memB (s:ByteArray)(l:List ByteArray):Bool:=l.any fun x=>decide (x=s)
theorem j0J {s:ByteArray}{l:List ByteArray}:memB s l=true↔s∈l:=by
 unfold memB; rw [List.any_eq_true]
 exact⟨fun ⟨x,h1,h2⟩=>by simp at h2; exact h2▸h1,fun h=>⟨s,h,by simp⟩⟩
theorem j0K {s:ByteArray}{l:List ByteArray}(h:s ∉ l):memB s l=false:=by
 cases hb:memB s l with
 | false=>rfl
 | true=>exact absurd (j0J.1 hb) h
def resB (s:ByteArray):Bool:=memB s z0c
theorem j0L (l:List ByteArray)(s:ByteArray):q5X l s=some (memB s l):=by
 unfold q5X
 have:∀ (l:List ByteArray) (i:Nat),findL (q9L s) i l ()=some (if memB s l=true then .inr true else .inl ()):=by
  intro l
  induction l with
  | nil=>intro i; rfl
  | cons x l ih=>
   intro i
   rw [findL]
   unfold q9L at ih ⊢
   have hc:memB s (x :: l)=(decide (x=s)||memB s l):=rfl
   by_cases h:x=s
   ·rw [if_pos h,hc]; simp [h]
   ·rw [if_neg h,Option.bind_some]
    show findL _ (i+1) l ()=_
    rw [ih,hc]; simp [h]
 rw [this,Option.bind_some]
 cases memB s l<;>rfl
theorem j2j (s:ByteArray):q5q s=some (resB s):=by
 unfold q5q q6y
 rw [Option.bind_some,j0L]; rfl
theorem j2k (s:ByteArray):q5s s=some (resB s):=by
 by_cases h:s∈z0c
 ·unfold z0c at h
  simp only [List.mem_cons,List.not_mem_nil,or_false] at h
  rcases h with h | h | h | h | h | h | h | h | h | h | h | h | h<;>subst h<;>rfl
 ·unfold resB
  rw [j0K h]
  unfold z0c at h
  simp only [List.mem_cons,List.not_mem_nil,or_false,not_or] at h
  obtain⟨h1,h2,h3,h4,h5,h6,h7,h8,h9,h10,h11,h12,h13⟩:=h
  unfold q5s
  rw [if_neg h1,if_neg h2,if_neg h3,if_neg h4,if_neg h5,if_neg h6,if_neg h7,if_neg h8,if_neg h9,if_neg h10,if_neg h11,if_neg h12]
  simp [h13]
def q4h (s:ByteArray):Bool:=decide (0 < s.size∧s.size≤8)&&(lowB (chr s 0)&&allN (fun k=>lowB (chr s k)||digB (chr s k)) 1 (s.size - 1) && !resB s)
theorem q6B (s:ByteArray):q1H s=some (q4h s):=by
 unfold q1H
 rw [z0y (c:=false) (q:=fun k=>lowB (chr s k)||digB (chr s k)) fun k hk=>by
  rw [Nat.zero_add]
  unfold q8u
  rw [z4b hk,Option.bind_some,z0x,Option.bind_some]
  cases lowB (chr s k) with
  | true=>rfl
  | false=>
   rw [if_neg (by simp),z8k,Option.bind_some]
   cases digB (chr s k)<;>rfl]
 rw [Option.bind_some]
 by_cases h0:0 < s.size
 ·obtain⟨n,hn⟩:∃ n,s.size=n+1:=⟨s.size - 1,by omega⟩
  unfold q4h
  rw [hn,allN,Nat.add_sub_cancel]
  cases ha:allN (fun k=>lowB (chr s k)||digB (chr s k)) (0+1) n with
  | false=>
   rw [Bool.and_false,if_neg (by simp)]
   rw [Nat.zero_add] at ha
   simp [onr,ha]
  | true=>
   rw [Nat.zero_add] at ha
   try rw [ha]
   simp only [Bool.and_true]
   have hc:=z4b h0
   cases hl:lowB (chr s 0) with
   | false=>
    cases hd:digB (chr s 0) with
    | false=>simp [onr]
    | true=>
     rw [if_pos (by simp)]
     show (q1Z _ 1 8).bind _=_
     rw [z8j,Option.bind_some]
     split
     ·rw [hc,Option.bind_some,z0x,hl]; simp
     ·simp
   | true=>
    rw [if_pos (by simp)]
    show (q1Z _ 1 8).bind _=_
    rw [z8j,Option.bind_some]
    by_cases h8:n+1≤8
    ·rw [if_pos (by simp; omega),hc,Option.bind_some,z0x,hl]
     simp [j2k,h8]
    ·rw [if_neg (by simp; omega)]; simp [h8]
 ·have hs:s.size=0:=by omega
  unfold q4h
  rw [hs,allN,if_pos rfl,z0k,z8j,Option.bind_some]
  simp
theorem q5G (s:ByteArray):q1R s=some (q4h s):=by
 unfold q1R q9a
 rw [z0y (c:=false) (q:=fun k=>lowB (chr s k)||(decide (k≠0)&&digB (chr s k))) fun k hk=>by
  rw [Nat.zero_add]
  unfold z1J
  rw [z4b hk,Option.bind_some]
  have e1:(if 97≤((chr s k).toNat:Int) then some (decide (((chr s k).toNat:Int)≤122)) else some false)=some (lowB (chr s k)):=by
   unfold lowB; by_cases h:97≤((chr s k).toNat:Int)<;>simp [h]
  have e2:(if 48≤((chr s k).toNat:Int) then some (decide (((chr s k).toNat:Int)≤57)) else some false)=some (digB (chr s k)):=by
   unfold digB; by_cases h:48≤((chr s k).toNat:Int)<;>simp [h]
  rw [e1,e2,Option.bind_some,Option.bind_some]
  cases lowB (chr s k) with
  | true=>rfl
  | false=>
   by_cases hk0:k=0
   ·subst hk0; simp
   ·have:¬ ((k:Int)=0):=by omega
    rw [if_neg (by simp),if_neg this]
    cases digB (chr s k)<;>simp [hk0]]
 rw [Option.bind_some]
 by_cases h0:0 < s.size
 ·obtain⟨n,hn⟩:∃ n,s.size=n+1:=⟨s.size - 1,by omega⟩
  unfold q4h
  rw [hn,allN,Nat.add_sub_cancel,Nat.zero_add,z3o (n:=n) (i:=1) (q:=fun k=>lowB (chr s k)||(decide (k≠0)&&digB (chr s k))) (r:=fun k=>lowB (chr s k)||digB (chr s k)) fun k hk=>by simp [show k≠0 by omega]]
  have e0:(lowB (chr s 0)||(decide ((0:Nat)≠0)&&digB (chr s 0)))=lowB (chr s 0):=by simp
  rw [e0]
  cases hA:(lowB (chr s 0)&&allN (fun k=>lowB (chr s k)||digB (chr s k)) 1 n) with
  | false=>simp [onr]
  | true=>
   rw [if_pos rfl]
   simp only [onr,Option.bind_some]
   by_cases h8:n+1≤8
   ·simp [j2j,h8]; omega
   ·simp [h8]; omega
 ·have hs:s.size=0:=by omega
  unfold q4h
  rw [hs]
  simp [onr,allN]
end Go.Proofs.YtiojgbiimbefiabGreat
namespace Go.Proofs.YtiojgbiimbefiabGreat
open Go Go.E
def satI (v:Int):Int:=if (-1000000:Int) > (if (1000000:Int) < v then (1000000:Int) else v) then (-1000000:Int) else (if (1000000:Int) < v then (1000000:Int) else v)
def truI (b:Bool):Int:=if b=true then 1 else 0
def z9w (v k:Int):Int:=if k=1 then satI v else if k=2 then q9F v 4095 else if k=3 then truI (!decide (v=0)) else if k=4 then (if 0≤v∧v≤999 then v else 0) else 0
theorem j2l (v:Int):q7W v=some (satI v):=rfl
theorem j2m (a b:Int):q9K a b=some (if b < a then b else a):=by
 unfold q9K
 by_cases h:a < b
 ·rw [if_pos h,if_neg (by omega)]
 ·rw [if_neg h]
  split
  ·rfl
  ·congr 1; omega
theorem j2n (v:Int):q6R v=some (satI v):=by
 unfold q6R
 rw [j2m,Option.bind_some,z9s,Option.bind_some]
 congr 1
 unfold satI
 split<;>split<;>(try split)<;>(try split)<;>omega
theorem j2o (b:Bool):z1R b=some (truI b):=by unfold z1R truI; cases b<;>rfl
theorem j0M (b:Bool):q7B b=some (truI b):=by unfold q7B truI; cases b<;>rfl
theorem j0N (v k:Int):q8x v k=some (z9w v k):=by
 unfold q8x z9w
 rw [j2l,j2o,z8j]
 by_cases h1:k=1
 ·rw [if_pos h1,if_pos h1]; rfl
 by_cases h2:k=2
 ·rw [if_neg h1,if_neg h1,if_pos h2,if_pos h2]
 by_cases h3:k=3
 ·rw [if_neg h1,if_neg h1,if_neg h2,if_neg h2,if_pos h3,if_pos h3]; rfl
 by_cases h4:k=4
 ·rw [if_neg h1,if_neg h1,if_neg h2,if_neg h2,if_neg h3,if_neg h3,if_pos h4,if_pos h4,Option.bind_some]
  by_cases h:0≤v∧v≤999<;>simp [h]
 ·rw [if_neg h1,if_neg h1,if_neg h2,if_neg h2,if_neg h3,if_neg h3,if_neg h4,if_neg h4]
theorem j0O (v k:Int):q8n v k=some (z9w v k):=by
 unfold q8n z9w
 rw [j2n,j0M,z6u]
 by_cases h1:k=1
 ·rw [if_pos h1,if_pos h1]; rfl
 by_cases h2:k=2
 ·rw [if_neg h1,if_neg h1,if_pos h2,if_pos h2]
 by_cases h3:k=3
 ·rw [if_neg h1,if_neg h1,if_neg h2,if_neg h2,if_pos h3,if_pos h3]; rfl
 by_cases h4:k=4
 ·rw [if_neg h1,if_neg h1,if_neg h2,if_neg h2,if_neg h3,if_neg h3,if_pos h4,if_pos h4,Option.bind_some]
  by_cases h:0≤v∧v≤999<;>simp [h]
 ·rw [if_neg h1,if_neg h1,if_neg h2,if_neg h2,if_neg h3,if_neg h3,if_neg h4,if_neg h4]
def z4c (v k:Int):Bool:=decide (1≤k∧k≤4)&&decide (z9w v k=v)
theorem j0P (v k:Int):q6U v k=some (z4c v k):=by
 unfold q6U q7H z4c
 rw [z8j,Option.bind_some,Option.bind_some,j0N,Option.bind_some]
 by_cases h:1≤k∧k≤4<;>simp [h]
theorem j0Q (v k:Int):q6S v k=some (z4c v k):=by
 unfold q6S z4c
 rw [z6u,Option.bind_some,j0O,Option.bind_some]
 by_cases h:1≤k∧k≤4<;>simp [h]
end Go.Proofs.YtiojgbiimbefiabGreat
namespace Go.Proofs.YtiojgbiimbefiabGreat
open Go Go.E
theorem j2p (a b:Expr):q2U a b=some (decide (a.Kind=b.Kind)&&(decide (a.N=b.N)&&(decide (a.Pos=b.Pos)&&(decide (a.Type_=b.Type_)&&(decide (a.Symbol=b.Symbol)&&decide (a.Name=b.Name)))))):=by
 unfold q2U
 by_cases h1:a.Kind=b.Kind
 ·rw [if_pos h1,Option.bind_some]
  by_cases h2:a.N=b.N
  ·by_cases h3:a.Pos=b.Pos
   ·by_cases h4:a.Type_=b.Type_
    ·by_cases h5:a.Symbol=b.Symbol
     ·simp [h1,h2,h3,h4,h5]
     ·simp [h1,h2,h3,h4,h5]
    ·simp [h1,h2,h3,h4]
   ·simp [h1,h2,h3]
  ·simp [h1,h2]
 ·simp [h1]
def z9x (k:Int):Int:=if k=4 then 2 else if k=5 then 3 else if k=8 then 1 else 0
def z9y (e:Expr):Bool:=decide ((e.Args.length:Int)=z9x e.Kind)&&((decide (e.Kind=3∨e.Kind=6)||decide (e.Pos=0))&&((decide (e.Kind=3∨e.Kind=8)||decide (e.Name=⟨#[]⟩))&&((decide (e.Kind=1∨e.Kind=4)||decide (e.N=0))&&((decide (e.Kind=1)||decide (e.Type_=0))&&(decide (e.Kind=8)||decide (e.Symbol=⟨#[]⟩))))))
theorem j2q (e:Expr):q8m e=some (z9y e):=by
 unfold q8m
 have h0:(if e.Kind=4 then some 2 else if e.Kind=5 then some 3 else if e.Kind=8 then some 1 else some (0:Int))=some (z9x e.Kind):=by
  unfold z9x
  split
  ·rfl
  ·split
   ·rfl
   ·split<;>rfl
 have or2:∀ a b:Prop,[Decidable a]→[Decidable b]→(if a then some true else some (decide b))=some (decide (a∨b)):=fun a b _ _=>by
  by_cases h:a<;>simp [h]
 have or1:∀ (a:Prop) (b:Bool),[Decidable a]→(if a then some true else some b)=some (decide a||b):=fun a b _=>by
  by_cases h:a<;>simp [h]
 have orB:∀ a b:Bool,(if a=true then some true else some b)=some (a||b):=fun a b=>by cases a<;>rfl
 have andB:∀ a b:Bool,(if a=true then some b else some false)=some (a&&b):=fun a b=>by cases a<;>rfl
 rw [h0,Option.bind_some]
 unfold z9y
 by_cases hl:(e.Args.length:Int)=z9x e.Kind
 ·rw [if_pos hl]
  simp only [or2,or1,orB,andB,Option.bind_some]
  simp [hl,Bool.and_assoc]
 ·rw [if_neg hl]; simp [hl]
def j2r (e:Expr):Bool:=
 if e.Kind=1 then (decide (1≤e.Type_∧e.Type_≤3)&&z4c e.N e.Type_)&&decide (0≤e.N)
 else if e.Kind=3 then decide (0≤e.Pos∧e.Pos≤3)&&q4h e.Name
 else if e.Kind=6 then decide (0≤e.Pos∧e.Pos≤3)
 else if e.Kind=4 then decide (1≤e.N∧e.N≤12)
 else if e.Kind=8 then q4h e.Symbol&&q4h e.Name
 else true
def q8O (e:Expr):Bool:=(decide (1≤e.Kind∧e.Kind≤8)&&z9y e)&&j2r e
theorem j0R (e:Expr):q8o e=some (q8O e):=by
 unfold q8o q8O
 rw [z6u,Option.bind_some,j2q,Option.bind_some]
 by_cases hk:1≤e.Kind∧e.Kind≤8
 ·rw [if_pos (by simpa using hk),Option.bind_some]
  cases z9y e with
  | false=>simp
  | true=>
   rw [if_neg (by simp)]
   unfold j2r
   by_cases k1:e.Kind=1
   ·rw [if_pos k1,if_pos k1,z6u,Option.bind_some,j0Q,Option.bind_some]
    by_cases h:1≤e.Type_∧e.Type_≤3
    ·cases z4c e.N e.Type_<;>simp [h,hk]
    ·simp [h,hk]
   rw [if_neg k1,if_neg k1]
   by_cases k3:e.Kind=3
   ·rw [if_pos k3,if_pos k3,z6u,Option.bind_some,q5G]
    by_cases h:0≤e.Pos∧e.Pos≤3
    ·simp [h,hk]
    ·simp [h,hk]
   rw [if_neg k3,if_neg k3]
   by_cases k6:e.Kind=6
   ·rw [if_pos k6,if_pos k6,z6u]; simp [hk]
   rw [if_neg k6,if_neg k6]
   by_cases k4:e.Kind=4
   ·rw [if_pos k4,if_pos k4,z6u]; simp [hk]
   rw [if_neg k4,if_neg k4]
   by_cases k8:e.Kind=8
   ·rw [if_pos k8,if_pos k8,q5G,Option.bind_some,q5G]
    cases q4h e.Symbol<;>simp [hk]
   rw [if_neg k8,if_neg k8]; simp [hk]
 ·rw [if_neg (by simpa using hk)]; simp [hk]
theorem j0S (e:Expr):q5u e=some (q8O e):=by
 unfold q5u q8O z9y j2r z9x
 simp only [j2p,z8j,j0P,q6B,Option.bind_some]
 have hp3:e.Pos=0→(0≤e.Pos∧e.Pos≤3):=fun h=>by omega
 by_cases k1:e.Kind=1
 ·simp [k1]
  have ht:z4c e.N e.Type_=true→1≤e.Type_∧e.Type_≤4:=fun h=>by
   unfold z4c at h; simp at h; exact h.1
  cases hb:z4c e.N e.Type_ with
  | false=>by_cases h4:e.Type_=4<;>simp [h4]
  | true=>
   obtain⟨t1,t2⟩:=ht hb
   by_cases h4:e.Type_=4
   ·simp [h4]
   ·by_cases hn:e.N < 0
    ·have:¬ 0≤e.N:=by omega
     simp [h4,hn,this]
    ·have h0:0≤e.N:=by omega
     have h3:e.Type_≤3:=by omega
     by_cases a:e.Args=[]
     ·by_cases p:e.Pos=0
      ·simp [h4,hn,h0,h3,t1,a,p,Bool.and_comm]
      ·simp [h4,hn,h0,h3,t1,a,p]
     ·simp [h4,hn,h0,h3,t1,a]
 by_cases k3:e.Kind=3
 ·simp [k1,k3]
  cases q4h e.Name with
  | false=>simp
  | true=>
   by_cases a:e.Args=[]
   ·by_cases p:0≤e.Pos∧e.Pos≤3
    ·simp [a,p]
    ·have:(decide (0≤e.Pos)&&decide (e.Pos≤3))=false:=by simp; omega
     simp [a,this]
   ·simp [a]
 by_cases k4:e.Kind=4
 ·simp [k1,k3,k4]
  by_cases n:1≤e.N∧e.N≤12
  ·by_cases a:(e.Args.length:Int)=2
   ·by_cases p:e.Pos=0
    ·simp [n,a,p]; cases decide (e.Type_=0)<;>cases decide (e.Symbol=⟨#[]⟩)<;>cases decide (e.Name=⟨#[]⟩)<;>rfl
    ·simp [n,a,p]
   ·simp [n,a]
  ·have:(decide (1≤e.N)&&decide (e.N≤12))=false:=by simp; omega
   rw [if_neg n,this]; simp
 have close3:∀ c:Bool,((if c=true then some (decide (0≤e.Pos)&&decide (e.Pos≤3)) else some false).bind fun s9=>
   if s9=true then some (decide (e.N=0)&&(decide (e.Pos=0)&&(decide (e.Type_=0)&&(decide (e.Symbol=⟨#[]⟩)&&decide (e.Name=⟨#[]⟩))))) else some false) =
  some (c&&(decide (e.Pos=0)&&(decide (e.Name=⟨#[]⟩)&&(decide (e.N=0)&&(decide (e.Type_=0)&&decide (e.Symbol=⟨#[]⟩)))))):=fun c=>by
  cases c with
  | false=>simp
  | true=>
   by_cases p:e.Pos=0
   ·simp [p]; cases decide (e.N=0)<;>cases decide (e.Type_=0)<;>cases decide (e.Symbol=⟨#[]⟩)<;>cases decide (e.Name=⟨#[]⟩)<;>rfl
   ·simp [p]
 by_cases k5:e.Kind=5
 ·simp [k1,k3,k4,k5]
  simpa using close3 (decide ((e.Args.length:Int)=3))
 by_cases k6:e.Kind=6
 ·simp [k1,k3,k4,k5,k6]
  by_cases a:e.Args=[]
  ·by_cases p:0≤e.Pos∧e.Pos≤3
   ·simp [a,p]; cases decide (e.N=0)<;>cases decide (e.Type_=0)<;>cases decide (e.Symbol=⟨#[]⟩)<;>cases decide (e.Name=⟨#[]⟩)<;>rfl
   ·have:(decide (0≤e.Pos)&&decide (e.Pos≤3))=false:=by simp; omega
    simp [a,this]
  ·simp [a]
 by_cases k8:e.Kind=8
 ·simp [k1,k3,k4,k5,k6,k8]
  cases q4h e.Symbol with
  | false=>simp
  | true=>
   cases q4h e.Name with
   | false=>simp
   | true=>
    by_cases a:(e.Args.length:Int)=1
    ·by_cases p:e.Pos=0
     ·simp [a,p]
     ·simp [a,p]
    ·simp [a]
 by_cases k2:e.Kind=2
 ·simp [k1,k3,k4,k5,k6,k8,k2]
  simpa using close3 (decide (e.Args=[]))
 by_cases k7:e.Kind=7
 ·simp [k1,k3,k4,k5,k6,k8,k2,k7]
  simpa using close3 (decide (e.Args=[]))
 ·simp [k1,k3,k4,k5,k6,k8,k2,k7]
  intro h1 h2; omega
end Go.Proofs.YtiojgbiimbefiabGreat
namespace Go.Proofs.YtiojgbiimbefiabGreat
open Go Go.E
theorem j0T (e:Expr):∀ m,fuE e≤m→q9O m e=some (allE q8O e):=by
 induction e using q7k with
 | h e ih=>
  intro m hm
  obtain⟨m,rfl⟩:∃ q,m=q+1:=⟨m - 1,by have:=z0b e; omega⟩
  show q9N (q9O m) e=_
  unfold q9N
  rw [q2q (c:=false) (q:=allE q8O) fun k x hx=>by
   unfold z5d
   rw [ih x hx m (by have:=q9l hx; omega),Option.bind_some]
   cases allE q8O x<;>rfl]
  rw [z3Z,Option.bind_some]
  cases e.Args.all (allE q8O) with
  | true=>rw [if_pos rfl,z0k,j0R,Bool.and_true]; rfl
  | false=>rw [if_neg (by simp),z3z,Bool.and_false]
theorem j2s (e:Expr):z3O e=some (allE q8O e):=q6p (fuE e) fun m hm=>j0T e m hm
theorem z2h {α:Type}(q:α→Bool)(l:List α):(!l.any fun x=>!q x)=l.all q:=by
 induction l with
 | nil=>rfl
 | cons x l ih=>simp [← ih]
theorem j0U (e:Expr):∀ m,fuE e≤m→q2v m e=some (allE q8O e):=by
 induction e using q7k with
 | h e ih=>
  intro m hm
  obtain⟨m,rfl⟩:∃ q,m=q+1:=⟨m - 1,by have:=z0b e; omega⟩
  show q2u (q2v m) e=_
  unfold q2u q1p q1s
  rw [j0S,Option.bind_some,z3Z]
  cases q8O e with
  | false=>rfl
  | true=>
   rw [if_pos rfl,z2f (q:=fun x=>!allE q8O x) fun k x hx=>by
    unfold q2n q2E
    rw [ih x hx m (by have:=q9l hx; omega),Option.bind_some,Option.bind_some]
    cases allE q8O x<;>rfl]
   rw [Bool.true_and,← z2h]
   cases e.Args.any fun x=>!allE q8O x with
   | true=>
    have:(0:Int)≤((0+e.Args.findIdx fun x=>!allE q8O x:Nat):Int):=Int.natCast_nonneg _
    rw [if_pos rfl,Option.bind_some,z3z,Option.bind_some,Option.bind_some,decide_eq_true this]
   | false=>rfl
theorem j2t (e:Expr):q3R e=some (allE q8O e):=q6p (fuE e) fun m hm=>j0U e m hm
def z2i (e:Expr):Bool:=decide (cntE e≤24)&&(decide (depE e≤6)&&allE q8O e)
theorem z9z {e:Expr}(h:cntE e≤1099511627776):q4Q e=some (z2i e):=by
 unfold q4Q z2i
 rw [z9r h,Option.bind_some,z9t h,j2t]
 by_cases h1:cntE e≤24
 ·rw [if_pos (by omega),Option.bind_some,Option.bind_some]
  by_cases h2:depE e≤6
  ·rw [if_pos (by simp; omega),Option.bind_some]; simp [h1,h2]
  ·rw [if_neg (by simp; omega)]; simp [h1,h2]
 ·rw [if_neg (by omega)]; simp [h1]
theorem z0d {e:Expr}(h:cntE e≤1099511627776):q3F e=some (z2i e):=by
 unfold q3F z2i
 rw [j0I (by omega) (by omega) h,Option.bind_some,z9u h,j2s]
 unfold z1b
 by_cases h1:cntE e≤24
 ·have h24:((cntE e:Nat):Int)≤24:=by omega
  rw [if_pos h24,if_pos (by omega:(0:Int)≤24 - ((cntE e:Nat):Int)),Option.bind_some,Option.bind_some]
  by_cases h2:depE e≤6
  ·rw [if_pos (by simp; omega),Option.bind_some]; simp [h1,h2]
  ·rw [if_neg (by simp; omega)]; simp [h1,h2]
 ·have h24:¬ ((cntE e:Nat):Int)≤24:=by omega
  rw [if_neg h24,if_neg (by omega:¬ (0:Int)≤-1)]; simp [h1]
end Go.Proofs.YtiojgbiimbefiabGreat
namespace Go.Proofs.YtiojgbiimbefiabGreat
open Go Go.E
theorem z1i {x m:Int}(h0:0≤m)(h1:m < 9223372036854775808):0≤q9F x m∧q9F x m≤m:=by
 unfold q9F
 have h2:(BitVec.ofInt 64 m).toNat=m.toNat:=by
  rw [BitVec.toNat_ofInt]
  have:m % ((2 ^ 64:Nat):Int)=m:=Int.emod_eq_of_lt h0 (by omega)
  rw [this]
 have h3:(BitVec.ofInt 64 x &&& BitVec.ofInt 64 m).toNat≤m.toNat:=by
  rw [BitVec.toNat_and,h2]; exact Nat.and_le_right
 rw [IntWalk.i64_in _ (by omega)]
 omega
def z4d (o:l1Cur):Prop:=0≤o.i∧o.b.length≤1048576
theorem j0V {a:List UInt8}(h:a.length≤1048576):∃ o,q8Y a=some o∧z4d o∧o.b=a:=by
 have key:∀ (m j:Nat) (s:Int),j+m=a.length→∃ q,q3D (q7w a) (s,(j:Int))=some q:=by
  intro m
  induction m with
  | zero=>
   intro j s hj
   exact⟨s,q2g (by unfold q7w; dsimp only; rw [if_neg (by omega)])⟩
  | succ m ih=>
   intro j s hj
   by_cases hlt:(j:Int) < 4000
   ·obtain⟨x,hx⟩:∃ x,a[j]? = some x:=⟨_,List.getElem?_eq_getElem (by omega)⟩
    obtain⟨q,hq⟩:=ih (j+1) (q9F (IntKind.i64.wrap ((IntKind.i64.wrap ((IntKind.i64.wrap (s*131))+(x.toNat:Int)))+7)) 1073741823) (by omega)
    refine⟨q,(q2R ?_).trans hq⟩
    have hw:IntKind.i64.wrap ((j:Int)+1)=((j+1:Nat):Int):=by rw [IntWalk.i64_in _ (by omega)]; rfl
    unfold q7w
    dsimp only
    rw [if_pos (by omega),if_pos hlt,q1j (by omega),Int.toNat_natCast,hx,Option.bind_some,hw]
   ·exact⟨s,q2g (by unfold q7w; dsimp only; rw [if_pos (by omega),if_neg hlt])⟩
 obtain⟨q,hq⟩:=key a.length 0 (IntKind.i64.wrap (26583+(a.length:Int))) (by omega)
 have hq' : q3D (q7w a) ((IntKind.i64.wrap (26583+(a.length:Int))),0)=some q:=hq
 refine⟨⟨a,0,q⟩,?_,⟨Int.le_refl _,h⟩,rfl⟩
 unfold q8Y
 rw [hq',Option.bind_some]
theorem q8P {o:l1Cur}(h:z4d o):∃ y z,q5p o=some (y,z)∧0≤y∧y≤255∧z4d z∧z.b=o.b:=by
 obtain⟨h0,h1⟩:=h
 unfold q5p
 by_cases hi:o.i < (o.b.length:Int)
 ·obtain⟨x,hx⟩:∃ x,o.b[o.i.toNat]? = some x:=⟨_,List.getElem?_eq_getElem (by omega)⟩
  rw [if_pos hi,q1j h0,hx,Option.bind_some]
  refine⟨_,_,rfl,(z1i (by omega) (by omega)).1,(z1i (by omega) (by omega)).2,⟨?_,h1⟩,rfl⟩
  show 0≤IntKind.i64.wrap (o.i+1)
  rw [IntWalk.i64_in _ (by omega)]; omega
 ·rw [if_neg hi]
  exact⟨_,_,rfl,(z1i (by omega) (by omega)).1,(z1i (by omega) (by omega)).2,⟨h0,h1⟩,rfl⟩
theorem z9A {y n:Int}(hy:0≤y)(hn:0 < n):0≤y.tmod n∧y.tmod n < n:=by
 rw [Int.tmod_eq_emod_of_nonneg hy]
 exact⟨Int.emod_nonneg _ (by omega),Int.emod_lt_of_pos _ hn⟩
theorem z3p {o:l1Cur}(h:z4d o)(n:Int):∃ y z,q1k n o=some (y,z)∧0≤y∧(0 < n→y < n)∧(n≤0→y=0)∧z4d z∧z.b=o.b:=by
 unfold q1k
 by_cases hn:n≤0
 ·rw [if_pos hn]; exact⟨0,o,rfl,Int.le_refl _,fun h=>absurd h (by omega),fun _=>rfl,h,rfl⟩
 ·rw [if_neg hn]
  by_cases h2:n≤256
  ·obtain⟨y,z,h3,h4,h5,h6,h7⟩:=q8P h
   rw [if_pos h2,h3,Option.bind_some]
   dsimp only
   rw [q1j (by omega)]
   have:=z9A h4 (show 0 < n by omega)
   exact⟨_,_,rfl,this.1,fun _=>this.2,fun h=>absurd h hn,⟨h6.1,h.2⟩,rfl⟩
  ·obtain⟨y1,z1,a1,a2,a3,a4,a5⟩:=q8P h
   obtain⟨y2,z2,b1,b2,b3,b4,b5⟩:=q8P (o:=⟨o.b,z1.i,z1.h⟩) ⟨a4.1,h.2⟩
   obtain⟨y3,z3,c1,c2,c3,c4,c5⟩:=q8P (o:=⟨o.b,z2.i,z2.h⟩) ⟨b4.1,h.2⟩
   obtain⟨y4,z4,d1,d2,d3,d4,d5⟩:=q8P (o:=⟨o.b,z3.i,z3.h⟩) ⟨c4.1,h.2⟩
   rw [if_neg h2,a1,Option.bind_some]
   dsimp only
   rw [b1,Option.bind_some]
   dsimp only
   rw [c1,Option.bind_some]
   dsimp only
   rw [d1,Option.bind_some]
   dsimp only
   rw [q1j (by constructor<;>omega),q1j (by constructor<;>omega),q1j (by constructor<;>omega),q1j (by constructor<;>omega),q1j (by constructor<;>omega),q1j (by constructor<;>omega),q1j (by omega)]
   have:=z9A (y:=y1*16777216+y2*65536+y3*256+y4) (by omega) (show 0 < n by omega)
   exact⟨_,_,rfl,this.1,fun _=>this.2,fun h=>absurd h hn,⟨d4.1,h.2⟩,rfl⟩
theorem z5m {o:l1Cur}(h:z4d o){l:List Int}(hl:l≠[]):∃ y z,q2c l o=some (y,z)∧y∈l∧z4d z∧z.b=o.b:=by
 have hpos:=List.length_pos_iff.2 hl
 obtain⟨y,z,h1,h2,h3,_,h5,h6⟩:=z3p h (l.length:Int)
 have:=h3 (by omega)
 obtain⟨x,hx⟩:∃ x,l[y.toNat]? = some x:=⟨_,List.getElem?_eq_getElem (by omega)⟩
 unfold q2c
 rw [h1,Option.bind_some]
 dsimp only
 rw [q1j h2,hx,Option.bind_some]
 exact⟨_,_,rfl,List.mem_of_getElem? hx,⟨h5.1,h.2⟩,rfl⟩
end Go.Proofs.YtiojgbiimbefiabGreat
namespace Go.Proofs.YtiojgbiimbefiabGreat
open Go Go.E
theorem z9B {ρ:Type}{g:Nat→Option ρ}(hm:∀ n r,g n=some r→g (n+1)=some r){n:Nat}{r:ρ}(h:g n=some r):recO g=some r:=by
 have up:∀ (k n:Nat) (r:ρ),g n=some r→g (n+k)=some r:=by
  intro k
  induction k with
  | zero=>intro n r h; exact h
  | succ k ih=>intro n r h; exact hm _ _ (ih n r h)
 refine q6p n fun m hm=>?_
 have h1:=up (m - n) n r h
 rwa [show n+(m - n)=m by omega] at h1
theorem z0z {α σ:Type}{f g:Nat→α→σ→Option σ}(h:∀ k x s q,f k x s=some q→g k x s=some q):∀ (xs:List α) (i:Nat) (s q:σ),eachL f i xs s=some q→eachL g i xs s=some q
 | [],i,s,q,hq=>hq
 | x :: xs,i,s,q,hq=>by
  simp only [eachL] at hq ⊢
  obtain⟨t,h1,h2⟩:=bd hq
  rw [h _ _ _ _ h1]
  exact z0z h xs _ _ _ h2
theorem z5n (a b:Occurrence):q6X a b=some (q6N a b):=by
 unfold q6X q6N
 by_cases h1:a.Pos < b.Pos
 ·simp [h1]
 ·by_cases h2:a.Pos=b.Pos
  ·simp [h2]
  ·simp [h1,h2]
abbrev q8Q (l:List Occurrence):Prop:=l.Pairwise fun a b=>q6N a b=true
theorem j0W {l:List Occurrence}{o:Occurrence}(hl:l.length≤4398046511104):∀ (m j:Nat),j+m=l.length→(∀ a∈l.take j,q6N a o=true) →
  ∃ k:Nat,q3D (q6Y l o) (j:Int)=some ((k:Nat):Int)∧k≤l.length∧(∀ a∈l.take k,q6N a o=true)∧∀ y,l[k]? = some y→q6N y o=false:=by
 intro m
 induction m with
 | zero=>
  intro j hj ha
  refine⟨j,q2g ?_,by omega,ha,fun y hy=>?_⟩
  ·unfold q6Y; rw [if_neg (by omega)]
  ·rw [List.getElem?_eq_none (by omega)] at hy; cases hy
 | succ m ih=>
  intro j hj ha
  obtain⟨x,hx⟩:∃ x,l[j]? = some x:=⟨_,List.getElem?_eq_getElem (by omega)⟩
  cases hb:q6N x o with
  | false=>
   refine⟨j,q2g ?_,by omega,ha,fun y hy=>?_⟩
   ·unfold q6Y
    rw [if_pos (by omega),q1j (by omega)]
    simp only [Int.toNat_natCast]
    rw [hx,Option.bind_some,z5n,Option.bind_some,if_neg (by rw [hb]; simp)]
   ·rw [hx] at hy; cases hy; exact hb
  | true=>
   have e:q6Y l o (j:Int)=some (.inl ((j+1:Nat):Int)):=by
    unfold q6Y
    rw [if_pos (by omega),q1j (by omega)]
    simp only [Int.toNat_natCast]
    rw [hx,Option.bind_some,z5n,Option.bind_some,if_pos hb,q1j (by constructor<;>omega)]; rfl
   rw [q2R e]
   refine ih (j+1) (by omega) fun a h=>?_
   rw [List.take_add_one,hx] at h
   rcases List.mem_append.1 h with h | h
   ·exact ha a h
   ·simp at h; rw [h]; exact hb
theorem z9C {l:List Occurrence}{o:Occurrence}(hl:l.length < 4398046511104)(hs:q8Q l):∃ q,q9U l o=some q∧q8Q q∧(∀ a,a∈q↔a=o∨a∈l)∧q.length≤l.length+1:=by
 obtain⟨k,h1,h2,h3,h4⟩:=j0W (l:=l) (o:=o) (by omega) l.length 0 (by omega) (by simp)
 have h1' : q3D (q6Y l o) 0=some ((k:Nat):Int):=h1
 have hput:∀ (hne:∀ y,l[k]? = some y→y≠o),q8Q (l.take k++[o]++l.drop k)∧(∀ a,a∈l.take k++[o]++l.drop k↔a=o∨a∈l)∧(l.take k++[o]++l.drop k).length≤l.length+1:=fun hne=>by
  refine⟨?_,fun a=>?_,by simp; omega⟩
  ·have:=z8f (lt:=q6N) lessO_swo.trans q9q (k:=k) hs h3 fun y hy=>⟨h4 y hy,hne y hy⟩
   simpa using this
  ·have:a∈l↔a∈l.take k∨a∈l.drop k:=by rw [← List.mem_append,List.take_append_drop]
   rw [this]
   simp only [List.mem_append,List.mem_singleton]
   constructor
   ·rintro ((h | h) | h)<;>simp [h]
   ·rintro (h | h | h)<;>simp [h]
 unfold q9U
 rw [h1',Option.bind_some]
 by_cases hk:k < l.length
 ·obtain⟨x,hx⟩:∃ x,l[k]? = some x:=⟨_,List.getElem?_eq_getElem hk⟩
  rw [if_pos (by omega),q1j (by omega)]
  simp only [Int.toNat_natCast]
  rw [hx,Option.bind_some]
  by_cases hxo:x=o
  ·rw [if_pos hxo]
   refine⟨l,rfl,hs,fun a=>?_,by omega⟩
   have:=List.mem_of_getElem? hx
   constructor
   ·exact .inr
   ·rintro (h | h)
    ·rw [h,← hxo]; exact this
    ·exact h
  ·rw [if_neg hxo,q1j (by omega),q1j (by omega),q1j (by simp; omega),q1j (by simp; omega),q1j (by omega),q1j (by omega),q1j (by simp; omega)]
   exact⟨_,rfl,hput fun y hy=>by rw [hx] at hy; cases hy; exact hxo⟩
 ·rw [if_neg (by omega)]
  simp only [Int.toNat_natCast]
  rw [q1j (by omega),q1j (by omega),q1j (by simp; omega),q1j (by simp; omega),q1j (by omega),q1j (by omega),q1j (by simp; omega)]
  exact⟨_,rfl,hput fun y hy=>by rw [List.getElem?_eq_none (by omega)] at hy; cases hy⟩
theorem j2u:∀ (n:Nat) (e:Expr) (l q:List Occurrence),q3C n e l=some q→q3C (n+1) e l=some q:=by
 intro n
 induction n with
 | zero=>intro e l q h; cases h
 | succ n ih=>
  intro e l q h
  have h' : q6m (q3C n) e l=some q:=h
  show q6m (q3C (n+1)) e l=some q
  have m1:∀ (xs:List Expr) (i:Nat) (s q:List Occurrence),eachL (q6H (q3C n)) i xs s=some q→eachL (q6H (q3C (n+1))) i xs s=some q:=z0z fun k x s q hq=>by
   unfold q6H at hq ⊢
   obtain⟨y,h3,h4⟩:=bd hq
   rw [ih _ _ _ h3]; exact h4
  unfold q6m at h' ⊢
  by_cases hk:e.Kind=3
  ·rw [if_pos hk] at h' ⊢
   obtain⟨y,h1,h2⟩:=bd h'
   obtain⟨s,h3,h4⟩:=bd h2
   rw [h1,Option.bind_some,m1 _ _ _ _ h3]; exact h4
  ·rw [if_neg hk] at h' ⊢
   obtain⟨s,h3,h4⟩:=bd h'
   have m2:eachL (z0u (q3C (n+1))) 0 e.Args l=some s:=m1 _ _ _ _ h3
   rw [m2]; exact h4
theorem z8l:∀ (m:Nat) (e:Expr) (l:List Occurrence),fuE e≤m→q8Q l→l.length+(q8N e).length≤1099511627776 →
  ∃ q,q3C m e l=some q∧q8Q q∧(∀ a,a∈q↔a∈l∨a∈q8N e)∧q.length≤l.length+(q8N e).length:=by
 intro m
 induction m with
 | zero=>intro e l h; rw [z0O] at h; omega
 | succ m ih=>
  intro e l h hs hb
  rw [z0O] at h
  rw [q8a,List.length_append] at hb
  have hl:∀ (xs:List Expr) (i:Nat) (s:List Occurrence),fuEs xs≤m→q8Q s→s.length+(q5L xs).length≤1099511627776 →
    ∃ q,eachL (q6H (q3C m)) i xs s=some q∧q8Q q∧(∀ a,a∈q↔a∈s∨a∈q5L xs)∧q.length≤s.length+(q5L xs).length:=by
   intro xs
   induction xs with
   | nil=>intro i s _ hs _; exact⟨s,rfl,hs,by simp [q5L],by omega⟩
   | cons x xs ihl=>
    intro i s hf hs hb
    simp only [fuEs] at hf
    simp only [q5L,List.length_append] at hb
    obtain⟨q,h1,h2,h3,h4⟩:=ih x s (by omega) hs (by omega)
    obtain⟨q2,k1,k2,k3,k4⟩:=ihl (i+1) q (by omega) h2 (by omega)
    refine⟨q2,?_,k2,fun a=>?_,by simp only [q5L,List.length_append]; omega⟩
    ·simp only [eachL,q6H,h1,Option.bind_some]; exact k1
    ·rw [k3,h3,q5L,List.mem_append,or_assoc]
  show ∃ q,q6m (q3C m) e l=some q∧_
  unfold q6m
  by_cases hk:e.Kind=3
  ·rw [if_pos hk] at hb ⊢
   simp only [List.length_cons,List.length_nil] at hb
   obtain⟨y,h1,h2,h3,h4⟩:=z9C (l:=l) (o:=⟨e.Pos,e.Name⟩) (by omega) hs
   obtain⟨q,k1,k2,k3,k4⟩:=hl e.Args 0 y (by omega) h2 (by omega)
   refine⟨q,?_,k2,fun a=>?_,?_⟩
   ·rw [h1,Option.bind_some,k1]; rfl
   ·rw [k3,h3,q8a,if_pos hk,List.mem_append,List.mem_singleton]
    constructor
    ·rintro ((h | h) | h)<;>simp [h]
    ·rintro (h | h | h)<;>simp [h]
   ·rw [q8a,if_pos hk]; simp; omega
  ·rw [if_neg hk] at hb ⊢
   simp only [List.length_nil] at hb
   obtain⟨q,k1,k2,k3,k4⟩:=hl e.Args 0 l (by omega) hs (by omega)
   have k1' : eachL (z0u (q3C m)) 0 e.Args l=some q:=k1
   refine⟨q,?_,k2,fun a=>?_,?_⟩
   ·rw [k1']; rfl
   ·rw [k3,q8a,if_neg hk]; simp
   ·rw [q8a,if_neg hk]; simpa using k4
theorem z5o (e:Expr):q8Q (z2F e):=by
 refine q8M lessO_swo.trans q9q ?_
 have h:=List.pairwise_mergeSort (le:=fun x y=>!q6N y x) (fun a b c h1 h2=>by
  simp only [Bool.not_eq_true'] at h1 h2 ⊢
  exact lessO_swo.ntrans _ _ _ h2 h1) (fun a b=>by
  cases h:q6N a b with
  | false=>simp [h]
  | true=>
   cases h2:q6N b a with
   | false=>simp
   | true=>have:=lessO_swo.trans _ _ _ h h2; rw [lessO_swo.irrefl] at this; cases this) (q8N e)
 unfold z5V
 exact h.imp fun {a b} h=>by simpa using h
theorem z7q {e:Expr}(h:Sz.szd e≤1048576):q3y e=some (z2F e):=by
 have hl:=z9m h
 obtain⟨q,h1,h2,h3,h4⟩:=z8l _ e [] (Nat.le_refl _) List.Pairwise.nil (by simp; omega)
 have hq:q=z2F e:=z3l (lt:=q6N) lessO_swo.irrefl lessO_swo.trans h2 (z5o e) fun a=>by rw [h3,z9n]; simp
 subst hq
 have hr:z2c e []=some (z2F e):=z9B (fun n q=>j2u n e [] q) h1
 unfold q3y
 rw [hr]; rfl
end Go.Proofs.YtiojgbiimbefiabGreat
namespace Go.Proofs.YtiojgbiimbefiabGreat
open Go Go.E
def Ok {ρ:Type}(Q:ρ→Prop)(o:Option ρ):Prop:=∃ r,o=some r∧Q r
section
variable {ρ τ σ α:Type}{Q:ρ→Prop}{R:τ→Prop}
theorem Ok.ret {r:ρ}(h:Q r):Ok Q (some r):=⟨r,rfl,h⟩
theorem Ok.bind {o:Option ρ}{f:ρ→Option τ}(h:Ok Q o)(hf:∀ r,Q r→Ok R (f r)):Ok R (o.bind f):=by
 obtain⟨r,rfl,hr⟩:=h; exact hf r hr
theorem Ok.grd {c:Prop}[Decidable c]{k:Option τ}(hc:c)(h:Ok R k):Ok R (Go.E.grd c k):=by rw [q1j hc]; exact h
theorem Ok.ite {c:Prop}[Decidable c]{a b:Option τ}(h1:c→Ok R a)(h2:¬ c→Ok R b):Ok R (if c then a else b):=by
 by_cases hc:c
 ·rw [if_pos hc]; exact h1 hc
 ·rw [if_neg hc]; exact h2 hc
theorem Ok.mono {Q' : ρ→Prop}{o:Option ρ}(h:Ok Q o)(hq:∀ r,Q r→Q' r):Ok Q' o:=by
 obtain⟨r,rfl,hr⟩:=h; exact⟨r,rfl,hq r hr⟩
theorem z4e {P:Nat→σ→Prop}{f:Nat→σ→Option σ}:∀ {n i:Nat} {s:σ},P i s→(∀ k s,i≤k→k < i+n→P k s→Ok (P (k+1)) (f k s))→Ok (P (i+n)) (eachN f i n s)
 | 0,i,s,h,_=>⟨s,rfl,h⟩
 | n+1,i,s,h,hf=>by
  rw [eachN]
  refine (hf i s (Nat.le_refl _) (by omega) h).bind fun r hr=>?_
  have:=z4e (n:=n) hr fun k s h1 h2=>hf k s (by omega) (by omega)
  rwa [show i+1+n=i+(n+1) by omega] at this
theorem z4f {P:Nat→σ→Prop}{f:Nat→α→σ→Option σ}:∀ {xs:List α} {i:Nat} {s:σ},P i s→(∀ k x s,x∈xs→i≤k→k < i+xs.length→P k s→Ok (P (k+1)) (f k x s))→Ok (P (i+xs.length)) (eachL f i xs s)
 | [],i,s,h,_=>⟨s,rfl,h⟩
 | x :: xs,i,s,h,hf=>by
  rw [eachL]
  refine (hf i x s (by simp) (Nat.le_refl _) (by simp) h).bind fun r hr=>?_
  have:=z4f (xs:=xs) hr fun k y s hy h1 h2=>hf k y s (by simp [hy]) (by omega) (by simp; omega)
  rwa [show i+1+xs.length=i+(x :: xs).length by simp; omega] at this
theorem z9D {g:Nat→Option ρ}{N:Nat}(h:∀ n,N≤n→g (n+1)=g n)(h2:Ok Q (g N)):Ok Q (recO g):=by
 obtain⟨r,h3,h4⟩:=h2
 have:∀ k,g (N+k)=some r:=by
  intro k
  induction k with
  | zero=>exact h3
  | succ k ih=>rw [← Nat.add_assoc,h _ (by omega),ih]
 exact⟨r,q6p N fun n hn=>by have:=this (n - N); rwa [show N+(n - N)=n by omega] at this,h4⟩
end
def CB (b:List UInt8)(z:l1Cur):Prop:=0≤z.i∧z.b=b
theorem CB.mk' {b:List UInt8}{o z:l1Cur}(h:CB b o)(hz:CB b z):CB b ⟨o.b,z.i,z.h⟩:=⟨hz.1,h.2⟩
def Dr {α:Type}(b:List UInt8)(P:α→Prop)(o:Option (α × l1Cur)):Prop:=Ok (fun r=>P r.1∧CB b r.2) o
theorem Dr.of {α:Type}{b:List UInt8}{P:α→Prop}{o:Option (α × l1Cur)}(hb:b.length≤1048576)(h:∃ y z,o=some (y,z)∧P y∧z4d z∧z.b=b):Dr b P o:=by
 obtain⟨y,z,e,h1,h2,h3⟩:=h
 exact⟨(y,z),e,h1,h2.1,h3⟩
theorem CB.ok {b:List UInt8}{z:l1Cur}(hb:b.length≤1048576)(h:CB b z):z4d z:=⟨h.1,by rw [h.2]; exact hb⟩
section
variable {b:List UInt8}{o:l1Cur}(hb:b.length≤1048576)
include hb
theorem j3f:Ok (fun z=>CB b z) (q8Y b):=by
 obtain⟨o,h1,h2,h3⟩:=j0V hb
 exact⟨o,h1,h2.1,h3⟩
theorem q1L (n:Int)(h:CB b o):Dr b (fun y=>0≤y∧(0 < n→y < n)∧(n≤0→y=0)) (q1k n o):=by
 obtain⟨y,z,h1,h2,h3,h4,h5,h6⟩:=z3p (h.ok hb) n
 exact⟨(y,z),h1,⟨h2,h3,h4⟩,h5.1,h6.trans h.2⟩
theorem q5f (n:Int)(h:CB b o):Dr b (fun _=>True) (q1Y n o):=by
 unfold q1Y
 refine (q1L hb n h).bind ?_
 rintro⟨y,z⟩ ⟨_,hz⟩
 exact .ret ⟨trivial,h.mk' hz⟩
theorem q7a {l:List ByteArray}(hl:l≠[])(h:CB b o):Dr b (fun y=>y∈l) (q3l l o):=by
 have hpos:=List.length_pos_iff.2 hl
 unfold q3l
 refine (q1L hb _ h).bind ?_
 rintro⟨y,z⟩ ⟨⟨h1,h2,_⟩,hz⟩
 dsimp only at h1 h2 hz ⊢
 have:=h2 (by omega)
 obtain⟨x,hx⟩:∃ x,l[y.toNat]? = some x:=⟨_,List.getElem?_eq_getElem (by omega)⟩
 rw [hx]
 exact .grd h1 (.ret ⟨List.mem_of_getElem? hx,h.mk' hz⟩)
theorem q5i {l:List Int}(hl:l≠[])(h:CB b o):Dr b (fun y=>y∈l) (q2c l o):=by
 obtain⟨y,z,h1,h2,h3,h4⟩:=z5m (h.ok hb) hl
 exact⟨(y,z),h1,h2,h3.1,h4.trans h.2⟩
theorem z6v (h:CB b o):Dr b (fun y=>y.size=1) (q5r o):=by
 unfold q5r
 refine (q7a hb (by simp) h).bind ?_
 rintro⟨y,z⟩ ⟨h1,hz⟩
 refine .ret ⟨?_,h.mk' hz⟩
 simp only [List.mem_cons,List.not_mem_nil,or_false] at h1
 rcases h1 with h1 | h1 | h1 | h1 | h1 | h1 | h1 | h1<;>rw [h1]<;>rfl
theorem z3q (k n p t:Int)(s m:ByteArray):Sz.szd (⟨k,n,p,t,s,m,[]⟩:Expr)=s.size+m.size:=by rw [q3f]; rfl
theorem z9E (k n p t:Int)(s m:ByteArray)(x y:Expr):Sz.szd (⟨k,n,p,t,s,m,[x,y]⟩:Expr)=s.size+m.size+(1+Sz.szd x+(1+Sz.szd y+0)):=by rw [q3f]; rfl
theorem j1H (k n p t:Int)(s m:ByteArray)(x:Expr):Sz.szd (⟨k,n,p,t,s,m,[x]⟩:Expr)=s.size+m.size+(1+Sz.szd x+0):=by rw [q3f]; rfl
theorem z7r (k n p t:Int)(s m:ByteArray)(x y z:Expr):Sz.szd (⟨k,n,p,t,s,m,[x,y,z]⟩:Expr)=s.size+m.size+(1+Sz.szd x+(1+Sz.szd y+(1+Sz.szd z+0))):=by rw [q3f]; rfl
theorem q6C:(⟨#[]⟩:ByteArray).size=0:=rfl
theorem z0A (k:Int){l:List Occurrence}(hl:∀ q∈l,q.Name.size≤8)(h:CB b o):Dr b (fun e=>Sz.szd e≤8) (q3z k l o):=by
 have bare:∀ {o:l1Cur},CB b o→∀ {R:Option (Expr × l1Cur)},R=(if k=4 then
   (q1Y 3 o).bind fun (y10,z7)=>if y10=true then some ((⟨7,0,0,0,(⟨#[]⟩:ByteArray),(⟨#[]⟩:ByteArray),[]⟩:Expr),(⟨o.b,z7.i,z7.h⟩:l1Cur)) else some ((⟨6,0,0,0,(⟨#[]⟩:ByteArray),(⟨#[]⟩:ByteArray),[]⟩:Expr),(⟨o.b,z7.i,z7.h⟩:l1Cur))
  else if k=3 then (q1k 2 o).bind fun (y11,z8)=>(q3w y11 k).bind fun y12=>some (y12,(⟨o.b,z8.i,z8.h⟩:l1Cur))
  else if k=2 then (q1k 12 o).bind fun (y13,z9)=>grd (0≤y13) <| grd (0≤y13∧y13 < 63) <| (q3w ((2 ^ y13.toNat:Nat):Int) k).bind fun y14=>some (y14,(⟨o.b,z9.i,z9.h⟩:l1Cur))
  else (q1k 9 o).bind fun (y15,z10)=>(q3w y15 1).bind fun y16=>some (y16,(⟨o.b,z10.i,z10.h⟩:l1Cur)))→Dr b (fun e=>Sz.szd e≤8) R:=by
  rintro o h R rfl
  refine .ite (fun _=>?_) fun _=>.ite (fun _=>?_) fun _=>.ite (fun _=>?_) fun _=>?_
  ·refine (q5f hb 3 h).bind ?_
   rintro⟨y,z⟩ ⟨_,hz⟩
   refine .ite (fun _=>.ret ⟨?_,h.mk' hz⟩) fun _=>.ret ⟨?_,h.mk' hz⟩
   ·exact Nat.zero_le _
   ·exact Nat.zero_le _
  ·refine (q1L hb 2 h).bind ?_
   rintro⟨y,z⟩ ⟨_,hz⟩
   refine .ret ⟨?_,h.mk' hz⟩
   exact Nat.zero_le _
  ·refine (q1L hb 12 h).bind ?_
   rintro⟨y,z⟩ ⟨⟨h1,h2,_⟩,hz⟩
   have:=h2 (by omega)
   dsimp only at h1 this
   refine .grd h1 (.grd (by omega) (.ret ⟨?_,h.mk' hz⟩))
   exact Nat.zero_le _
  ·refine (q1L hb 9 h).bind ?_
   rintro⟨y,z⟩ ⟨_,hz⟩
   refine .ret ⟨?_,h.mk' hz⟩
   exact Nat.zero_le _
 unfold q3z
 refine .ite (fun hl0=>?_) fun _=>bare h rfl
 refine (q5f hb 4 h).bind ?_
 rintro⟨y,z⟩ ⟨_,hz⟩
 have h':=h.mk' hz
 refine .ite (fun _=>?_) fun _=>?_
 ·exact bare h' rfl
 ·refine (q1L hb _ h').bind ?_
  rintro⟨y,z⟩ ⟨⟨h1,h2,_⟩,hz⟩
  have:=h2 (by omega)
  dsimp only at h1 this
  obtain⟨x,hx⟩:∃ x,l[y.toNat]? = some x:=⟨_,List.getElem?_eq_getElem (by omega)⟩
  dsimp only
  rw [hx]
  refine .grd h1 (.ret ⟨?_,h.mk' hz⟩)
  dsimp only
  rw [z3q hb,q6C hb]
  have:=hl x (List.mem_of_getElem? hx)
  omega
def fb (d:Nat):Nat:=20*4 ^ d
theorem z3r (d:Nat):20≤fb d:=by
 have:1≤4 ^ d:=Nat.one_le_pow _ _ (by omega)
 unfold fb; omega
theorem z9F (d:Nat):fb (d+1)=4*fb d:=by unfold fb; rw [Nat.pow_succ]; omega
theorem q9y (h:CB b o){R:Option (Expr × l1Cur)}(hR:R=(
 (q1Y 5 o).bind fun (y1,z1)=>
 if y1=true then (
 some ((⟨2,0,0,0,(⟨#[]⟩:ByteArray),(⟨#[]⟩:ByteArray),[]⟩:Expr),(⟨o.b,z1.i,z1.h⟩:l1Cur))
 ) else (
 (q1Y 6 (⟨o.b,z1.i,z1.h⟩:l1Cur)).bind fun (y2,z2)=>
 if y2=true then (
 (q1k 4 (⟨o.b,z2.i,z2.h⟩:l1Cur)).bind fun (y3,z3)=>
 some ((⟨6,0,y3,0,(⟨#[]⟩:ByteArray),(⟨#[]⟩:ByteArray),[]⟩:Expr),(⟨o.b,z3.i,z3.h⟩:l1Cur))
 ) else (
 (q1k 4 (⟨o.b,z2.i,z2.h⟩:l1Cur)).bind fun (y4,z4)=>
 grd (I64 (1+y4)) <|
 (q1k 4 (⟨o.b,z4.i,z4.h⟩:l1Cur)).bind fun (y5,z5)=>
 (q5r (⟨o.b,z5.i,z5.h⟩:l1Cur)).bind fun (y6,z6)=>
 (q3z (1+y4) [(⟨y5,y6⟩:Occurrence)] (⟨o.b,z6.i,z6.h⟩:l1Cur)).bind fun (y7,z7)=>
 some (y7,(⟨o.b,z7.i,z7.h⟩:l1Cur))
 )
 ))):Dr b (fun e=>Sz.szd e≤20) R:=by
 subst hR
 refine (q5f hb 5 h).bind ?_
 rintro⟨y1,z1⟩ ⟨_,h1⟩
 refine .ite (fun _=>.ret ⟨?_,h.mk' h1⟩) fun _=>?_
 ·exact Nat.zero_le _
 refine (q5f hb 6 (h.mk' h1)).bind ?_
 rintro⟨y2,z2⟩ ⟨_,h2⟩
 refine .ite (fun _=>?_) fun _=>?_
 ·refine (q1L hb 4 (h.mk' h2)).bind ?_
  rintro⟨y3,z3⟩ ⟨_,h3⟩
  refine .ret ⟨?_,h.mk' h3⟩
  exact Nat.zero_le _
 ·refine (q1L hb 4 (h.mk' h2)).bind ?_
  rintro⟨y4,z4⟩ ⟨⟨a1,a2,_⟩,h4⟩
  have:=a2 (by omega)
  dsimp only at a1 this
  refine .grd (by constructor<;>omega) ?_
  refine (q1L hb 4 (h.mk' h4)).bind ?_
  rintro⟨y5,z5⟩ ⟨_,h5⟩
  refine (z6v hb (h.mk' h5)).bind ?_
  rintro⟨y6,z6⟩ ⟨hn,h6⟩
  refine (z0A hb _ (by simpa using (show y6.size≤8 by dsimp only at hn; omega)) (h.mk' h6)).bind ?_
  rintro⟨y7,z7⟩ ⟨hs,h7⟩
  exact .ret ⟨by have hs' : Sz.szd y7≤8:=hs; show Sz.szd y7≤20; omega,h.mk' h7⟩
theorem j2v:∀ (d:Nat) (m:Nat),d < m→∀ (a:Int) (o:l1Cur),a≤d+1→q2X (m+1) a o=q2X m a o:=by
 intro d
 induction d with
 | zero=>
  intro m hm a o ha
  obtain⟨m,rfl⟩:∃ q,m=q+1:=⟨m - 1,by omega⟩
  show q3P (q2X (m+1)) a o=q3P (q2X m) a o
  unfold q3P
  rw [if_pos (by omega),if_pos (by omega)]
 | succ d ih=>
  intro m hm a o ha
  obtain⟨m,rfl⟩:∃ q,m=q+1:=⟨m - 1,by omega⟩
  have e:q2X (m+1) (a - 1)=q2X m (a - 1):=funext fun o=>ih m (by omega) (a - 1) o (by omega)
  show q3P (q2X (m+1)) a o=q3P (q2X m) a o
  unfold q3P
  rw [e]
theorem j0X:∀ (d:Nat) (m:Nat),d < m→∀ (a:Int) (o:l1Cur),a≤d+1→-1000000≤a→d≤100000→CB b o→Dr b (fun e=>Sz.szd e≤fb d) (q2X m a o):=by
 intro d
 induction d with
 | zero=>
  intro m hm a o ha _ _ h
  obtain⟨m,rfl⟩:∃ q,m=q+1:=⟨m - 1,by omega⟩
  show Dr b _ (q3P (q2X m) a o)
  unfold q3P
  rw [if_pos (by omega)]
  exact (q9y hb h rfl).mono fun r hr=>⟨Nat.le_trans hr.1 (z3r hb 0),hr.2⟩
 | succ d ih=>
  intro m hm a o ha h0 hd h
  obtain⟨m,rfl⟩:∃ q,m=q+1:=⟨m - 1,by omega⟩
  have hf:=z3r hb d
  have hs:=z9F hb d
  show Dr b _ (q3P (q2X m) a o)
  unfold q3P
  by_cases ha2:a < 2
  ·rw [if_pos ha2]; exact (q9y hb h rfl).mono fun r hr=>⟨Nat.le_trans hr.1 (z3r hb _),hr.2⟩
  rw [if_neg ha2]
  have ih' : ∀ {o:l1Cur},CB b o→Dr b (fun e=>Sz.szd e≤fb d) (q2X m (a - 1) o):=fun h=>ih m (by omega) (a - 1) _ (by omega) (by omega) (by omega) h
  have hg:I64 (a - 1):=by constructor<;>omega
  refine (q5f hb 4 h).bind ?_
  rintro⟨y8,z8⟩ ⟨_,h8⟩
  refine .ite (fun _=>(q9y hb (h.mk' h8) rfl).mono fun r hr=>⟨Nat.le_trans hr.1 (z3r hb _),hr.2⟩) fun _=>?_
  refine (q1L hb 5 (h.mk' h8)).bind ?_
  rintro⟨y16,z16⟩ ⟨_,h16⟩
  refine .ite (fun _=>?_) fun _=>.ite (fun _=>?_) fun _=>?_
  ·refine .grd hg ((ih' (h.mk' h16)).bind ?_)
   rintro⟨e1,z1⟩ ⟨s1,h1⟩
   refine .grd hg ((ih' (h.mk' h1)).bind ?_)
   rintro⟨e2,z2⟩ ⟨s2,h2⟩
   refine .grd hg ((ih' (h.mk' h2)).bind ?_)
   rintro⟨e3,z3⟩ ⟨s3,h3⟩
   refine .ret ⟨?_,h.mk' h3⟩
   dsimp only at s1 s2 s3 ⊢
   rw [z7r hb,q6C hb]; omega
  ·refine (q7a hb (by simp) (h.mk' h16)).bind ?_
   rintro⟨y20,z20⟩ ⟨h20,c20⟩
   refine (z6v hb (h.mk' c20)).bind ?_
   rintro⟨y21,z21⟩ ⟨h21,c21⟩
   refine .grd hg ((ih' (h.mk' c21)).bind ?_)
   rintro⟨e1,z1⟩ ⟨s1,h1⟩
   refine .ret ⟨?_,h.mk' h1⟩
   have:y20.size=1:=by
    simp only [List.mem_cons,List.not_mem_nil,or_false] at h20
    rcases h20 with h20 | h20<;>rw [h20]<;>rfl
   dsimp only at s1 h21 ⊢
   rw [j1H hb]; omega
  ·refine (q1L hb 12 (h.mk' h16)).bind ?_
   rintro⟨y23,z23⟩ ⟨⟨a1,a2,_⟩,h23⟩
   have:=a2 (by omega)
   dsimp only at a1 this
   refine .grd (by constructor<;>omega) (.grd hg ((ih' (h.mk' h23)).bind ?_))
   rintro⟨e1,z1⟩ ⟨s1,h1⟩
   refine .grd hg ((ih' (h.mk' h1)).bind ?_)
   rintro⟨e2,z2⟩ ⟨s2,h2⟩
   refine .ret ⟨?_,h.mk' h2⟩
   dsimp only at s1 s2 ⊢
   rw [z9E hb,q6C hb]; omega
theorem z9G (d:Nat){a:Int}(ha:a≤d+1)(h0:-1000000≤a)(hd:d≤100000)(h:CB b o):Dr b (fun e=>Sz.szd e≤fb d) (q9P a o):=
 z9D (g:=fun n=>q2X n a o) (N:=d+1) (fun n hn=>j2v hb d n (by omega) a o ha) (j0X hb d (d+1) (by omega) a o ha h0 hd h)
theorem z9H {e:Expr}{n:Nat}(h:Sz.szd e≤n):cntE e≤n+1:=by
 have h1:=z4a e
 have h2:q5F e=Sz.szd e:=rfl
 omega
theorem z9I (h:CB b o):Dr b (fun e=>Sz.szd e≤20480) (q7E o):=by
 unfold q7E
 refine (q1L hb 5 h).bind ?_
 rintro⟨y1,z1⟩ ⟨⟨a1,a2,_⟩,h1⟩
 have:=a2 (by omega)
 dsimp only at a1 this
 refine .grd (by constructor<;>omega) ?_
 refine (z9G hb 5 (a:=1+y1) (by omega) (by omega) (by omega) (h.mk' h1)).bind ?_
 rintro⟨e,z2⟩ ⟨s2,h2⟩
 have s2' : Sz.szd e≤20480:=s2
 dsimp only
 rw [z0d (by have:=z9H hb s2'; omega)]
 refine Ok.bind (Q:=fun _=>True) (.ret trivial) fun y3 _=>.ite (fun _=>.ret ⟨s2',h.mk' h2⟩) fun _=>.ret ⟨?_,h.mk' h2⟩
 exact Nat.zero_le _
theorem j2w (h:CB b o):Dr b (fun e=>Sz.szd e≤30000) (q8r o):=by
 unfold q8r
 refine (z9I hb h).bind ?_
 rintro⟨e,z1⟩ ⟨s1,h1⟩
 have s1' : Sz.szd e≤20480:=s1
 have s2:=q3f e
 refine (q1L hb 14 (h.mk' h1)).bind ?_
 rintro⟨y2,z2⟩ ⟨_,h2⟩
 dsimp only
 refine .ite (fun _=>?_) fun _=>.ite (fun _=>?_) fun _=>.ite (fun _=>?_) fun _=>.ite (fun _=>?_) fun _=>.ite (fun _=>?_) fun _=>.ite (fun _=>?_) fun _=>?_
 ·refine (q1L hb 11 (h.mk' h2)).bind ?_
  rintro⟨y3,z3⟩ ⟨_,h3⟩
  refine .ret ⟨?_,h.mk' h3⟩
  dsimp only; rw [q3f]; dsimp only; omega
 ·have hl:=q3L e.Args
  refine .grd (by constructor<;>omega) (.ret ⟨?_,h.mk' h2⟩)
  dsimp only; rw [q3f]; dsimp only; rw [z0h]
  have:szL [(⟨7,0,0,0,(⟨#[]⟩:ByteArray),(⟨#[]⟩:ByteArray),[]⟩:Expr)]=1:=rfl
  omega
 ·refine (q5i hb (by simp) (h.mk' h2)).bind ?_
  rintro⟨y3,z3⟩ ⟨_,h3⟩
  refine .ret ⟨?_,h.mk' h3⟩
  dsimp only; rw [q3f]; dsimp only; omega
 ·refine (q5i hb (by simp) (h.mk' h2)).bind ?_
  rintro⟨y3,z3⟩ ⟨_,h3⟩
  refine .ret ⟨?_,h.mk' h3⟩
  dsimp only; rw [q3f]; dsimp only; omega
 ·refine (q7a hb (by simp) (h.mk' h2)).bind ?_
  rintro⟨y3,z3⟩ ⟨h30,h3⟩
  have:y3.size≤2:=by
   simp only [List.mem_cons,List.not_mem_nil,or_false] at h30
   rcases h30 with h30 | h30 | h30<;>rw [h30]<;>decide
  refine .ret ⟨?_,h.mk' h3⟩
  dsimp only; rw [q3f]; dsimp only; omega
 ·have hL:Ok (fun q=>Sz.szd (⟨q.2.1,q.2.2.1,q.2.2.2.1,q.2.2.2.2.1,q.2.2.2.2.2.1,q.2.2.2.2.2.2,q.1⟩:Expr)≤20480+5*2) (eachN z0p 0 5 (e.Args,e.Kind,e.N,e.Pos,e.Type_,e.Symbol,e.Name)):=by
   refine (z4e (P:=fun k q=>Sz.szd (⟨q.2.1,q.2.2.1,q.2.2.2.1,q.2.2.2.2.1,q.2.2.2.2.2.1,q.2.2.2.2.2.2,q.1⟩:Expr)≤20480+k*2) (by dsimp only; rw [q3f]; dsimp only; omega) fun k q _ _ hq=>?_).mono fun q hq=>by simpa using hq
   obtain⟨q1,q2,q3,q4,q5,q6,q7⟩:=q
   dsimp only at hq
   refine .ret ?_
   dsimp only
   rw [z9E hb,z3q hb,q6C hb]; omega
  refine hL.bind ?_
  rintro⟨q1,q2,q3,q4,q5,q6,q7⟩ hq
  refine .ret ⟨?_,h.mk' h2⟩
  dsimp only at hq ⊢; omega
 ·exact .ret ⟨by dsimp only; omega,h.mk' h2⟩
end
end Go.Proofs.YtiojgbiimbefiabGreat
namespace Go.Proofs.YtiojgbiimbefiabGreat
open Go Go.E
def bit (x:Int)(k:Int):Prop:=x.toNat >>> k.toNat &&& 1=1
instance (x k:Int):Decidable (bit x k):=by unfold bit; infer_instance
theorem z7s (x lo hi:Int):q3d x lo hi=some (decide (lo≤x∧x≤hi)):=by
 unfold q3d; split<;>simp_all<;>omega
end Go.Proofs.YtiojgbiimbefiabGreat
namespace Go.Proofs.YtiojgbiimbefiabGreat
open Go Go.E
theorem q7N {α ρ:Type}{p:α→Bool}{r:α→ρ}:∀ {xs:List α} {i:Nat} {f:Nat→α→Unit→Option (Unit ⊕ ρ)},(∀ k x,x∈xs→(p x=true→f k x ()=some (.inr (r x)))∧(p x=false→f k x ()=some (.inl ()))) →
  findL f i xs ()=some (match xs.find? p with | some x=>.inr (r x) | none=>.inl ())
 | [],_,_,_=>rfl
 | x :: xs,i,f,h=>by
  have h0:=h i x (by simp)
  cases hp:p x with
  | true=>simp [findL,h0.1 hp,List.find?,hp]
  | false=>
   have ih:=q7N (p:=p) (r:=r) (xs:=xs) (i:=i+1) (f:=f) fun k y hy=>h k y (by simp [hy])
   simp [findL,h0.2 hp,List.find?,hp,ih]
theorem z0P (x lo hi:Int):q3d x lo hi=some (decide (lo≤x∧x≤hi)):=by
 unfold q3d; split<;>simp_all<;>omega
theorem z2j (x lo hi:Int):q1Z x lo hi=some (decide (lo≤x∧x≤hi)):=by
 unfold q1Z; split<;>simp_all<;>omega
theorem z8m (r:Rule)(k:Int):q4B r k=q3m r k:=by
 unfold q4B q3m; rw [z0P,z2j]
theorem z4g {α:Type}[Sz α]{x:α}:∀ {l:List α},x∈l→Sz.szd x≤szL l
 | [],h=>by simp at h
 | y :: l,h=>by
  rcases List.mem_cons.1 h with rfl | h
  ·simp only [szL]; omega
  ·have:=z4g h; simp only [szL]; omega
theorem z2k {g:Grammar}(h:Sz.szd g≤1048576):∀ y∈g.Symbols,y.Attributes.length≤1048576:=fun y hy=>by
 have h1:=z4g hy
 have h2:=z3k y
 have h3:=q7Z g
 have h4:=q3L y.Attributes
 omega
theorem q4Z {r:Rule}(h:Sz.szd r≤1048576):r.Right.length≤1048576:=by
 have h1:=q9X r
 have h2:=q3L r.Right
 omega
end Go.Proofs.YtiojgbiimbefiabGreat
namespace Go.Proofs.YtiojgbiimbefiabGreat
open Go Go.E
theorem j2x:∀ (n:Nat) (e q:Expr),q4o n e=some q→q4o (n+1) e=some q:=by
 intro n
 induction n with
 | zero=>intro e q h; cases h
 | succ n ih=>
  intro e q h
  have h' : q6l (q4o n) e=some q:=h
  show q6l (q4o (n+1)) e=some q
  unfold q6l at h' ⊢
  obtain⟨s,h1,h2⟩:=bd h'
  rw [z0z (g:=q6G (q4o (n+1))) (fun k x s q hq=>by
   unfold q6G at hq ⊢
   obtain⟨y,h3,h4⟩:=bd hq
   rw [ih _ _ h3,Option.bind_some]; exact h4) _ _ _ _ h1]
  exact h2
theorem z8n:∀ (m:Nat) (e:Expr),fuE e≤m→Sz.szd e≤1048576→q4o m e=some e:=by
 intro m
 induction m with
 | zero=>intro e h; rw [z0O] at h; omega
 | succ m ih=>
  intro e h hs
  rw [z0O] at h
  have hl:∀ (l:List Expr) (i:Nat) (s:List Expr),(∀ x∈l,fuE x≤m∧Sz.szd x≤1048576)→s.length+l.length≤4398046511→eachL (q6G (q4o m)) i l s=some (s++l):=by
   intro l
   induction l with
   | nil=>intro i s _ _; simp [eachL]
   | cons x l ihl=>
    intro i s hx hb
    simp only [List.length_cons] at hb
    have h1:=ih x (hx x (by simp)).1 (hx x (by simp)).2
    have e1:q6G (q4o m) i x s=some (s++[x]):=by
     unfold q6G; rw [h1,Option.bind_some,q1j (by constructor<;>omega)]
    simp only [eachL,e1,Option.bind_some]
    rw [ihl _ _ (fun y hy=>hx y (by simp [hy])) (by simp; omega)]; simp
  show q6l (q4o m) e=some e
  unfold q6l
  have h2:=q3f e
  have h3:=q3L e.Args
  rw [hl e.Args 0 [] (fun x hx=>⟨by have:=z3Y hx; omega,by have:=j3d hx; omega⟩) (by simp; omega),List.nil_append,Option.bind_some]
  cases e; rfl
theorem j2y {e:Expr}(h:Sz.szd e≤1048576):z2b e=some e:=z9B (fun n q=>j2x n e q) (z8n _ e (Nat.le_refl _) h)
def j3q:Expr:=⟨0,0,0,0,⟨#[]⟩,⟨#[]⟩,[]⟩
def eqAt (r:Rule)(o:Occurrence):Expr × Bool:=match r.Equations.find? fun q=>decide (q.At=o) with
 | some q=>(q.Expr,true)
 | none=>(j3q,false)
theorem z0B {r:Rule}{q:Equation}(h:q∈r.Equations):Sz.szd q.Expr≤Sz.szd r:=by
 have h1:=q9X r
 have h2:=z0N q
 have h3:=z0a h
 have h4:=q3f q.Expr
 omega
theorem z7t {r:Rule}(h:Sz.szd r≤1048576)(o:Occurrence):q3T r o=some (eqAt r o):=by
 have key:∀ (l:List Equation) (i:Nat),(∀ q∈l,Sz.szd q.Expr≤1048576)→findL (q4Y o) i l ()=some (match l.find? fun q=>decide (q.At=o) with
   | some q=>.inr (q.Expr,true)
   | none=>.inl ()):=by
  intro l
  induction l with
  | nil=>intro i _; rfl
  | cons q l ih=>
   intro i hq
   by_cases hp:q.At=o
   ·simp [findL,q4Y,hp,j2y (hq q (by simp))]
   ·simp [findL,q4Y,hp]
    exact ih _ fun y hy=>hq y (by simp [hy])
 unfold q3T eqAt
 rw [key _ _ fun q hq=>by have:=z0B hq; omega]
 cases r.Equations.find? (fun q=>decide (q.At=o))<;>rfl
end Go.Proofs.YtiojgbiimbefiabGreat
namespace Go.Proofs.YtiojgbiimbefiabGreat
open Go Go.E
theorem q8R {α β:Type}{p:α→Bool}{g:α→β}{B:Nat}{f:Nat→α→List β→Option (List β)}(hf:∀ k x s,s.length < B→f k x s=some (if p x=true then s++[g x] else s)):∀ (xs:List α) (i:Nat) (s:List β),s.length+xs.length≤B →
  eachL f i xs s=some (s++(xs.filter p).map g)
 | [],i,s,_=>by simp [eachL]
 | x :: xs,i,s,h=>by
  simp only [List.length_cons] at h
  by_cases hp:p x=true
  ·have ih:=q8R hf xs (i+1) (s++[g x]) (by simp; omega)
   simp [eachL,hf i x s (by omega),hp,ih]
  ·have ih:=q8R hf xs (i+1) s (by omega)
   simp [eachL,hf i x s (by omega),hp,ih]
theorem z3s {β:Type}{h:Nat→List β}{C n:Nat}{f:Nat→List β→Option (List β)}(hf:∀ k s,k < n→s.length≤k*C→f k s=some (s++h k))(hh:∀ k,k < n→(h k).length≤C) :
  ∀ (m k:Nat) (s:List β),k+m=n→s.length≤k*C→eachN f k m s=some (s++(List.range' k m).flatMap h)
 | 0,k,s,_,_=>by simp [eachN]
 | m+1,k,s,hk,hs=>by
  have hl:=hh k (by omega)
  have e:(k+1)*C=k*C+C:=Nat.succ_mul k C
  have ih:=z3s hf hh m (k+1) (s++h k) (by omega) (by rw [List.length_append]; omega)
  simp [eachN,hf k s (by omega) hs,ih,List.range'_succ]
theorem z5p {β:Type}{h:Nat→List β}{C n:Nat}{f:(List β × Int)→Option ((List β × Int) ⊕ List β)}(hf:∀ (k:Nat) s,k < n→s.length≤k*C→f (s,(k:Int))=some (.inl (s++h k,((k+1:Nat):Int))))(he:∀ s,f (s,(n:Int))=some (.inr s))(hh:∀ k,k < n→(h k).length≤C) :
  ∀ (m k:Nat) (s:List β),k+m=n→s.length≤k*C→q3D f (s,(k:Int))=some (s++(List.range' k m).flatMap h)
 | 0,k,s,hk,_=>by
  obtain rfl:k=n:=by omega
  rw [q2g (he s)]; simp
 | m+1,k,s,hk,hs=>by
  have hl:=hh k (by omega)
  have e:(k+1)*C=k*C+C:=Nat.succ_mul k C
  have ih:=z5p hf he hh m (k+1) (s++h k) (by omega) (by rw [List.length_append]; omega)
  rw [q2R (hf k s (by omega) hs),ih]; simp [List.range'_succ]
abbrev GOk (g:Grammar):Prop:=∀ y∈g.Symbols,y.Attributes.length≤1048576
def zS:Symbol:=⟨⟨#[]⟩,[]⟩
def zA:Attribute:=⟨⟨#[]⟩,0,0,false⟩
def q5H (g:Grammar)(s:ByteArray):Symbol × Bool:=match g.Symbols.find? fun y=>decide (y.Name=s) with
 | some y=>(y,true)
 | none=>(zS,false)
def z2l (y:Symbol)(s:ByteArray):Attribute × Bool:=match y.Attributes.find? fun a=>decide (a.Name=s) with
 | some a=>(a,true)
 | none=>(zA,false)
theorem q8S {g:Grammar}(h:GOk g)(s:ByteArray):q3e g s=some (q5H g s):=by
 have h1:=q7N (p:=fun y:Symbol=>decide (y.Name=s)) (r:=fun y=>(y,true)) (xs:=g.Symbols) (i:=0) (f:=q7o s) fun k y hy=>by
  have hg:q6h y=some y:=by
   unfold q6h; have:=h y hy; rw [q1j (by simp only [List.length_nil]; constructor<;>omega)]
  unfold q7o; rw [hg]; constructor<;>intro hp<;>simp_all
 unfold q3e q5H
 rw [h1]
 cases hf:g.Symbols.find? (fun y:Symbol=>decide (y.Name=s)) with
 | none=>rfl
 | some y=>rfl
theorem z0e (g:Grammar)(s:ByteArray):q4f g s=some (q5H g s):=by
 have h2:=q7N (p:=fun y:Symbol=>decide (y.Name=s)) (r:=fun y=>(y,true)) (xs:=g.Symbols) (i:=0) (f:=q7s s) fun k y hy=>by
  unfold q7s; constructor<;>intro hp<;>simp_all
 unfold q4f q5H
 rw [h2]
 cases hf:g.Symbols.find? (fun y:Symbol=>decide (y.Name=s)) with
 | none=>rfl
 | some y=>rfl
theorem z0f {g:Grammar}(h:GOk g)(s:ByteArray):(q5H g s).1.Attributes.length≤1048576:=by
 unfold q5H
 cases hf:g.Symbols.find? (fun y:Symbol=>decide (y.Name=s)) with
 | none=>simp [zS]
 | some y=>exact h y (List.mem_of_find?_eq_some hf)
theorem z5q (y:Symbol)(s:ByteArray):q4m y s=some (z2l y s):=by
 have h2:=q7N (p:=fun y:Attribute=>decide (y.Name=s)) (r:=fun y=>(y,true)) (xs:=y.Attributes) (i:=0) (f:=q5R s) fun k y hy=>by
  unfold q5R; constructor<;>intro hp<;>simp_all
 unfold q4m z2l
 rw [h2]
 cases hf:y.Attributes.find? (fun y:Attribute=>decide (y.Name=s)) with
 | none=>rfl
 | some y=>rfl
theorem z9J (y:Symbol)(s:ByteArray):q2T y s=some (z2l y s):=z5q y s
def q5I (r:Rule)(k:Int):ByteArray:=if k=0 then r.Left else if 1≤k∧k≤(r.Right.length:Int) then r.Right.getD (k - 1).toNat ⟨#[]⟩ else ⟨#[]⟩
abbrev ROk (r:Rule):Prop:=r.Right.length≤1048576
theorem z0C {r:Rule}(hl:ROk r)(k:Int):q3m r k=some (q5I r k):=by
 unfold q3m q5I
 by_cases h0:k=0
 ·rw [if_pos h0,if_pos h0]
 ·rw [if_neg h0,if_neg h0,z0P,Option.bind_some]
  by_cases h1:1≤k∧k≤(r.Right.length:Int)
  ·rw [if_pos (by simpa using h1),if_pos h1,q1j (by constructor<;>omega),q1j (by omega)]
   have:(k - 1).toNat < r.Right.length:=by omega
   rw [List.getElem?_eq_getElem this,List.getD_eq_getElem?_getD,List.getElem?_eq_getElem this]; rfl
  ·rw [if_neg (by simpa using h1),if_neg h1]
theorem z4h {r:Rule}(hl:ROk r)(k:Int):q4B r k=some (q5I r k):=by rw [z8m,z0C hl]
def z0Q (g:Grammar)(r:Rule)(o:Occurrence):Attribute × Bool:=if 0≤o.Pos∧o.Pos≤(r.Right.length:Int) then z2l (q5H g (q5I r o.Pos)).1 o.Name else (zA,false)
theorem z8o (g:Grammar){r:Rule}(hl:ROk r)(o:Occurrence):q4T g r o=some (z0Q g r o):=by
 unfold q4T z0Q
 rw [z2j,Option.bind_some]
 by_cases h0:0≤o.Pos∧o.Pos≤(r.Right.length:Int)
 ·rw [if_pos (by simpa using h0),if_pos h0,z4h hl,Option.bind_some,z0e,Option.bind_some]
  dsimp only
  rw [z5q]; rfl
 ·rw [if_neg (by simpa using h0),if_neg h0]; rfl
def mayB (g:Grammar)(r:Rule)(o:Occurrence):Bool:=(z0Q g r o).2&&decide ((z0Q g r o).1.Mode=if o.Pos=0 then 1 else 2)
theorem z9K (g:Grammar){r:Rule}(hl:ROk r)(o:Occurrence):q7K g r o=some (mayB g r o):=by
 unfold q7K mayB
 rw [z8o g hl,Option.bind_some]
 dsimp only
 by_cases h0:o.Pos=0
 ·rw [if_pos h0,if_pos h0]
  by_cases h1:(z0Q g r o).2=true
  ·rw [if_pos h1,h1]; rfl
  ·rw [if_neg h1,Bool.eq_false_iff.2 h1]; rfl
 ·rw [if_neg h0,if_neg h0]
  by_cases h1:(z0Q g r o).2=true
  ·rw [if_pos h1,h1]; rfl
  ·rw [if_neg h1,Bool.eq_false_iff.2 h1]; rfl
theorem j2z {g:Grammar}(h:GOk g){r:Rule}(hl:ROk r)(o:Occurrence):q8K g r o=some (mayB g r o):=by
 unfold q8K mayB z0Q
 rw [z0P,Option.bind_some]
 by_cases hp:0≤o.Pos∧o.Pos≤(r.Right.length:Int)
 ·rw [if_pos (by simpa using hp),if_pos hp,z0C hl,Option.bind_some,q8S h,Option.bind_some]
  dsimp only
  rw [z9J,Option.bind_some]
  skip
  by_cases h0:o.Pos=0
  ·rw [if_pos h0,if_pos h0]
   by_cases h1:(z2l (q5H g (q5I r o.Pos)).1 o.Name).2=true
   ·rw [if_pos h1,h1]; rfl
   ·rw [if_neg h1,Bool.eq_false_iff.2 h1]; rfl
  ·rw [if_neg h0,if_neg h0]
   by_cases h1:(z2l (q5H g (q5I r o.Pos)).1 o.Name).2=true
   ·rw [if_pos h1,h1]; rfl
   ·rw [if_neg h1,Bool.eq_false_iff.2 h1]; rfl
 ·rw [if_neg (by simpa using hp),if_neg hp]; rfl
def reqK (g:Grammar)(r:Rule)(k:Nat):List Occurrence:=((q5H g (q5I r (k:Int))).1.Attributes.filter fun a=>decide (a.Mode=if (k:Int)=0 then 2 else 1)).map fun a=>(⟨(k:Int),a.Name⟩:Occurrence)
def reqL (g:Grammar)(r:Rule):List Occurrence:=(List.range' 0 (r.Right.length+1)).flatMap (reqK g r)
theorem z7u {g:Grammar}(h:GOk g)(r:Rule)(k:Nat):(reqK g r k).length≤1048576:=by
 unfold reqK; rw [List.length_map]
 exact Nat.le_trans (List.length_filter_le _ _) (z0f h _)
theorem z6w {g:Grammar}(h:GOk g){r:Rule}(hl:ROk r):q5c g r=some (reqL g r):=by
 have hl' : r.Right.length≤1048576:=hl
 have key:=z3s (h:=reqK g r) (C:=1048576) (n:=r.Right.length+1) (f:=q8E g r) (fun k s hk hs=>by
  have hin:∀ m:Int,eachL (q8D k m) 0 (q5H g (q5I r (k:Int))).1.Attributes s=some (s++((q5H g (q5I r (k:Int))).1.Attributes.filter fun a=>decide (a.Mode=m)).map fun a=>(⟨(k:Int),a.Name⟩:Occurrence)):=fun m=>
   q8R (B:=4398046511104) (fun j x s hs=>by
    unfold q8D
    by_cases hm:x.Mode=m
    ·rw [if_pos hm,if_pos (by simpa using hm),q1j (by constructor<;>omega)]; rfl
    ·rw [if_neg hm,if_neg (by simpa using hm)]; rfl) _ 0 s (by have:=z0f h (q5I r (k:Int)); omega)
  unfold q8E reqK
  by_cases h0:(k:Int)=0
  ·rw [if_pos h0,if_pos h0,Option.bind_some,z4h hl,Option.bind_some,z0e,Option.bind_some]
   dsimp only
   rw [hin]; rfl
  ·rw [if_neg h0,if_neg h0,Option.bind_some,z4h hl,Option.bind_some,z0e,Option.bind_some]
   dsimp only
   rw [hin]; rfl) (fun k _=>z7u h r k) (r.Right.length+1) 0 [] (by omega) (by simp)
 unfold q5c
 rw [q1j (by constructor<;>omega),key]; rfl
theorem z6x {g:Grammar}(h:GOk g){r:Rule}(hl:ROk r):q2d g r=some (reqL g r):=by
 have hl' : r.Right.length≤1048576:=hl
 have key:=z5p (h:=reqK g r) (C:=1048576) (n:=r.Right.length+1) (f:=q2A g r) (fun k s hk hs=>by
  have hin2:eachL (q4a (k:Int)) 0 (q5H g (q5I r (k:Int))).1.Attributes s=some (s++((q5H g (q5I r (k:Int))).1.Attributes.filter fun a=>decide (a.Mode=2)).map fun a=>(⟨(k:Int),a.Name⟩:Occurrence)):=
   q8R (B:=4398046511104) (fun j x s hs=>by
    unfold q4a
    by_cases hm:x.Mode=2
    ·rw [if_pos hm,if_pos (by simpa using hm),q1j (by constructor<;>omega)]; rfl
    ·rw [if_neg hm,if_neg (by simpa using hm)]; rfl) _ 0 s (by have:=z0f h (q5I r (k:Int)); omega)
  have hin1:eachL (q4b (k:Int)) 0 (q5H g (q5I r (k:Int))).1.Attributes s=some (s++((q5H g (q5I r (k:Int))).1.Attributes.filter fun a=>decide (a.Mode=1)).map fun a=>(⟨(k:Int),a.Name⟩:Occurrence)):=
   q8R (B:=4398046511104) (fun j x s hs=>by
    unfold q4b
    by_cases hm:x.Mode=1
    ·rw [if_pos hm,if_pos (by simpa using hm),q1j (by constructor<;>omega)]; rfl
    ·rw [if_neg hm,if_neg (by simpa using hm)]; rfl) _ 0 s (by have:=z0f h (q5I r (k:Int)); omega)
  unfold q2A reqK
  dsimp only
  rw [if_pos (by omega),z0C hl,Option.bind_some,q8S h,Option.bind_some]
  skip
  by_cases h0:(k:Int)=0
  ·rw [if_pos h0,if_pos h0,hin2,Option.bind_some,Option.bind_some,q1j (by constructor<;>omega)]; rfl
  ·rw [if_neg h0,if_neg h0,hin1,Option.bind_some,Option.bind_some,q1j (by constructor<;>omega)]; rfl) (fun s=>by
  unfold q2A; dsimp only; rw [if_neg (by omega)]) (fun k _=>z7u h r k) (r.Right.length+1) 0 [] (by omega) (by simp)
 unfold q2d
 have e:q3D (q2A g r) (([]:List Occurrence),0)=some ([]++(List.range' 0 (r.Right.length+1)).flatMap (reqK g r)):=key
 rw [e]; rfl
end Go.Proofs.YtiojgbiimbefiabGreat
namespace Go.Proofs.YtiojgbiimbefiabGreat
open Go Go.E
theorem q2P {α:Type}{q:α→Bool}{xs:List α}{f:Nat→α→Unit→Option (Unit ⊕ Int)}(h:∀ k x,x∈xs→f k x ()=some (if q x=true then .inr (k:Int) else .inl ())) :
  ((findL f 0 xs ()).bind <| onr (fun r1=>some r1) fun _=>some (-1)).bind (fun y1=>some (decide (0≤y1)))=some (xs.any q):=by
 rw [z2f h]
 cases hq:xs.any q with
 | true=>
  have:(0:Int)≤((0+xs.findIdx q:Nat):Int):=Int.natCast_nonneg _
  rw [if_pos rfl,Option.bind_some,z3z,Option.bind_some,decide_eq_true this]
 | false=>rfl
def q1Q {α:Type}(bad:List α→α→Bool):List α→List α→Option Nat
 | _,[]=>none
 | pre,x :: xs=>if bad pre x=true then some pre.length else q1Q bad (pre++[x]) xs
theorem q7O {α β ρ:Type}{bad:List α→α→Bool}{nm:α→β}{c:Nat→ρ}{all:List α}{f:Nat→α→Unit→Option (Unit ⊕ ρ)}{h:Nat→α→List β→Option (List β ⊕ ρ)}
  (hf:∀ pre x post,all=pre++x :: post→f pre.length x ()=some (if bad pre x=true then .inr (c pre.length) else .inl ()))
  (hh:∀ pre x post,all=pre++x :: post→h pre.length x (pre.map nm)=some (if bad pre x=true then .inr (c pre.length) else .inl ((pre++[x]).map nm))) :
  ∀ (ys pre:List α),all=pre++ys→findL f pre.length ys ()=some (match q1Q bad pre ys with | none=>.inl () | some k=>.inr (c k)) ∧
   findL h pre.length ys (pre.map nm)=some (match q1Q bad pre ys with | none=>.inl (all.map nm) | some k=>.inr (c k))
 | [],pre,e=>by
  rw [List.append_nil] at e
  subst e; exact⟨rfl,rfl⟩
 | x :: ys,pre,e=>by
  have h1:=hf pre x ys e
  have h2:=hh pre x ys e
  by_cases hb:bad pre x=true
  ·rw [if_pos hb] at h1 h2
   simp only [findL,h1,h2,q1Q,hb,if_true,Option.bind_some]
   exact⟨trivial,trivial⟩
  ·rw [if_neg hb] at h1 h2
   have ih:=q7O hf hh ys (pre++[x]) (by rw [e]; simp)
   simp only [List.length_append,List.length_cons,List.length_nil,Nat.zero_add] at ih
   simp only [findL,h1,h2,q1Q,hb,Option.bind_some]
   exact ih
theorem z7v {α:Type}{a:α→Bool}{b:List α→α→Bool}:∀ (xs pre:List α),(q1Q (fun p x=>a x||b p x) pre xs).isNone=(xs.all (fun x=>!a x)&&(q1Q b pre xs).isNone)
 | [],pre=>rfl
 | x :: xs,pre=>by
  have ih:=z7v (a:=a) (b:=b) xs (pre++[x])
  simp only [q1Q,List.all_cons]
  by_cases ha:a x=true
  ·simp [ha]
  ·by_cases hb:b pre x=true
   ·simp [ha,hb]
   ·simpa [ha,hb] using ih
def dupB {α:Type}(nm:α→ByteArray)(pre:List α)(x:α):Bool:=pre.any fun o=>decide (nm o=nm x)
def z6y {α:Type}(nm:α→ByteArray)(xs:List α):Bool:=(q1Q (dupB nm) [] xs).isNone
theorem z5r {α:Type}{nm:α→ByteArray}:∀ (xs pre:List α),(q1Q (dupB id) (pre.map nm) (xs.map nm))=q1Q (dupB nm) pre xs
 | [],pre=>rfl
 | x :: xs,pre=>by
  have ih:=z5r (nm:=nm) xs (pre++[x])
  have e:dupB id (pre.map nm) (nm x)=dupB nm pre x:=by simp [dupB,List.any_map,Function.comp_def]
  rw [List.map_cons,q1Q,q1Q,e,List.length_map]
  rw [List.map_append] at ih
  rw [show [nm x]=[x].map nm from rfl,ih]
theorem q8T {α ρ:Type}{bad:List α→α→Bool}{c:Nat→ρ}{all:List α}{f:Nat→α→Unit→Option (Unit ⊕ ρ)}
  (hf:∀ pre x post,all=pre++x :: post→f pre.length x ()=some (if bad pre x=true then .inr (c pre.length) else .inl ())) :
  ∀ (ys pre:List α),all=pre++ys→findL f pre.length ys ()=some (match q1Q bad pre ys with | none=>.inl () | some k=>.inr (c k)):=fun ys pre e=>
 (q7O (nm:=fun _=>()) (h:=fun k x s=>(f k x ()).map fun | .inl _=>.inl (s++[()]) | .inr r=>.inr r) hf (fun pre x post e=>by
  rw [hf pre x post e]
  by_cases hb:bad pre x=true
  ·rw [if_pos hb,if_pos hb]; rfl
  ·rw [if_neg hb,if_neg hb]; simp) ys pre e).1
theorem z9L (l:List ByteArray)(s:ByteArray):q5X l s=some (l.any fun o=>decide (o=s)):=by
 unfold q5X
 rw [q2q (c:=true) (q:=fun o=>!decide (o=s)) fun k x hx=>by
  unfold q9L
  by_cases h:x=s
  ·rw [if_pos h,if_neg (by simp [h])]
  ·rw [if_neg h,if_pos (by simp [h])]]
 have e:(l.all fun o=>!decide (o=s))=!(l.any fun o=>decide (o=s)):=by rw [List.not_any_eq_all_not]
 rw [e]
 cases l.any fun o=>decide (o=s)<;>rfl
theorem z8p (l:List ByteArray):q4U l=some (z6y id l):=by
 unfold q4U z6y
 rw [show findL (q5B l) 0 l ()=_ from q8T (bad:=dupB id) (c:=fun _=>false) (all:=l) (f:=q5B l) (fun pre x post e=>by
  unfold q5B
  rw [q1j (by rw [e]; simp),show l.take pre.length=pre by rw [e]; simp,z9L,Option.bind_some,← apply_ite some]; rfl) l [] rfl]
 cases q1Q (dupB id) [] l<;>rfl
def q7f (a:Attribute):Bool:=q4h a.Name&&(decide (1≤a.Type_∧a.Type_≤4)&&(decide (1≤a.Mode∧a.Mode≤3)&&if a.Mode=3 then decide (a.Type_=2) && !a.Circular else !a.Circular||decide (a.Type_=2)))
theorem z9M (a:Attribute):q3o a=some (q7f a):=by
 unfold q3o q7f q7H
 rw [q6B,Option.bind_some]
 cases q4h a.Name with
 | false=>rfl
 | true=>
  rw [if_pos rfl,z2j,Option.bind_some,Option.bind_some,Option.bind_some]
  by_cases h1:1≤a.Type_∧a.Type_≤4
  ·rw [decide_eq_true h1,Bool.not_true,if_neg (by simp),z2j,Option.bind_some,Option.bind_some]
   by_cases h2:1≤a.Mode∧a.Mode≤3
   ·rw [decide_eq_true h2,Bool.not_true,if_neg (by simp)]
    by_cases h3:a.Mode=3
    ·rw [if_pos h3,if_pos h3]
     by_cases h4:a.Type_=2
     ·rw [if_pos h4,decide_eq_true h4]; simp
     ·rw [if_neg h4,decide_eq_false h4]; rfl
    ·rw [if_neg h3,if_neg h3]
     cases hc:a.Circular with
     | true=>rw [if_pos rfl]; simp
     | false=>rw [if_neg (by simp)]; simp
   ·rw [decide_eq_false h2]; rfl
  ·rw [decide_eq_false h1]; rfl
theorem z9N (a:Attribute):q3q a=some (q7f a):=by
 unfold q3q q7f
 rw [q5G,Option.bind_some]
 cases q4h a.Name with
 | false=>rfl
 | true=>
  rw [if_pos rfl,z0P,Option.bind_some,Option.bind_some]
  by_cases h1:1≤a.Type_∧a.Type_≤4
  ·rw [decide_eq_true h1,Bool.not_true,if_neg (by simp),z0P,Option.bind_some,Option.bind_some]
   by_cases h2:1≤a.Mode∧a.Mode≤3
   ·rw [decide_eq_true h2,Bool.not_true,if_neg (by simp)]
    by_cases h3:a.Mode=3
    ·rw [if_pos h3,if_pos h3]
     by_cases h4:a.Type_=2
     ·rw [if_pos h4,decide_eq_true h4]
      cases hc:a.Circular with
      | true=>rfl
      | false=>rfl
     ·rw [if_neg h4,decide_eq_false h4]; rfl
    ·rw [if_neg h3,if_neg h3]
     cases hc:a.Circular with
     | true=>simp
     | false=>simp
   ·rw [decide_eq_false h2]; rfl
  ·rw [decide_eq_false h1]; rfl
def symB (s:Symbol):Bool:=s.Attributes.all q7f&&(q4h s.Name&&(decide (s.Attributes.length≤4)&&z6y (fun a:Attribute=>a.Name) s.Attributes))
theorem j0Y (s:Symbol):q4k s=some (symB s):=by
 unfold q4k symB
 rw [show findL (q4D s) 0 s.Attributes ()=_ from q8T (bad:=fun p x=>!q7f x||dupB (fun a:Attribute=>a.Name) p x) (c:=fun _=>false) (all:=s.Attributes) (f:=q4D s) (fun pre x post e=>by
  unfold q4D
  rw [z9M,Option.bind_some]
  cases q7f x with
  | false=>rfl
  | true=>
   rw [if_pos rfl,q1j (by rw [e]; simp),show s.Attributes.take pre.length=pre by rw [e]; simp]
   unfold q1r q1w
   rw [q2P (q:=fun o:Attribute=>decide (o.Name=x.Name)) fun k y hy=>by
    unfold q2s q4t
    rw [Option.bind_some]
    by_cases h:y.Name=x.Name
    ·rw [decide_eq_true h]; rfl
    ·rw [decide_eq_false h]; rfl]
   rw [Option.bind_some,← apply_ite some]; rfl) s.Attributes [] rfl]
 have hor:=z7v (a:=fun x:Attribute=>!q7f x) (b:=dupB (fun a:Attribute=>a.Name)) s.Attributes []
 simp only [Bool.not_not] at hor
 have e2:(s.Attributes.all fun x=>q7f x)=s.Attributes.all q7f:=rfl
 unfold z6y
 rw [e2] at hor
 cases hb:q1Q (fun p x=>!q7f x||dupB (fun a:Attribute=>a.Name) p x) [] s.Attributes with
 | some k=>
  rw [hb] at hor
  show some false=_
  have:(s.Attributes.all q7f&&(q1Q (dupB fun a:Attribute=>a.Name) [] s.Attributes).isNone)=false:=hor.symm
  congr 1
  cases h1:s.Attributes.all q7f with
  | false=>rfl
  | true=>rw [h1] at this; simp at this; simp [this]
 | none=>
  rw [hb] at hor
  have:(s.Attributes.all q7f&&(q1Q (dupB fun a:Attribute=>a.Name) [] s.Attributes).isNone)=true:=hor.symm
  rw [Bool.and_eq_true] at this
  show ((q1H s.Name).bind _)=_
  rw [q6B,Option.bind_some,this.1,this.2]
  cases q4h s.Name with
  | false=>rfl
  | true=>
   rw [if_pos rfl,Option.bind_some]
   congr 1
   simp; omega
theorem j0Z {s:Symbol}(h:s.Attributes.length≤1048576):q4n s=some (symB s):=by
 unfold q4n symB
 have hloop:∀ (ys:List Attribute) (i:Nat) (t:List ByteArray),t.length+ys.length≤1048576→findL q4G i ys t=some (if ys.all q7f=true then .inl (t++ys.map fun a=>a.Name) else .inr false):=by
  intro ys
  induction ys with
  | nil=>intro i t _; simp [findL]
  | cons y ys ih=>
   intro i t ht
   simp only [List.length_cons] at ht
   simp only [findL]
   have e:q4G i y t=some (if q7f y=true then .inl (t++[y.Name]) else .inr false):=by
    unfold q4G
    rw [z9N,Option.bind_some]
    cases q7f y with
    | false=>rfl
    | true=>rw [if_pos rfl,if_pos rfl,q1j (by constructor<;>omega)]
   rw [e,Option.bind_some]
   by_cases hy:q7f y=true
   ·rw [if_pos hy,show (y :: ys).all q7f=ys.all q7f by simp [hy]]
    dsimp only
    rw [ih _ _ (by simp; omega)]
    simp
   ·rw [if_neg hy,show (y :: ys).all q7f=false by simp [hy]]; rfl
 rw [hloop _ _ _ (by simpa using h)]
 cases hA:s.Attributes.all q7f with
 | false=>rfl
 | true=>
  rw [if_pos rfl,Option.bind_some,z0k,List.nil_append,q5G,Option.bind_some]
  cases q4h s.Name with
  | false=>rfl
  | true=>
   rw [if_pos rfl,Option.bind_some,List.length_map]
   by_cases hl:s.Attributes.length≤4
   ·rw [decide_eq_true (by omega:(s.Attributes.length:Int)≤4),if_pos rfl,z8p,Option.bind_some,Option.bind_some,decide_eq_true hl]
    have:=z5r (nm:=fun a:Attribute=>a.Name) s.Attributes []
    unfold z6y
    rw [List.map_nil] at this
    rw [this]; rfl
   ·rw [decide_eq_false (by omega:¬ (s.Attributes.length:Int)≤4),if_neg (by simp),decide_eq_false hl]; rfl
end Go.Proofs.YtiojgbiimbefiabGreat
namespace Go.Proofs.YtiojgbiimbefiabGreat
open Go Go.E
theorem z1j {r:Rule}{q:Contribution}(h:q∈r.Contributions):Sz.szd q.Target≤Sz.szd r∧Sz.szd q.Value≤Sz.szd r:=by
 have h1:=q9X r
 have h2:=q8d q
 have h3:=z0a h
 have h4:=q3f q.Target
 have h5:=q3f q.Value
 omega
theorem z0D {g:Grammar}{r:Rule}(h:r∈g.Rules):Sz.szd r≤Sz.szd g:=by
 have h1:=q7Z g
 have h3:=z0a h
 omega
theorem j1I {r:Rule}(h:Sz.szd r≤1048576):r.Equations.length≤1048576∧r.Contributions.length≤1048576:=by
 have h1:=q9X r
 have h2:=q3L r.Equations
 have h3:=q3L r.Contributions
 omega
def q4K (n:Int)(e:Expr):Bool:=allE (fun x=>decide (x.Pos≤n)) e
theorem z6z (n:Int)(e:Expr):∀ m,fuE e≤m→q3n m e n=some (q4K n e):=by
 induction e using q7k with
 | h e ih=>
  intro m hm
  obtain⟨m,rfl⟩:∃ q,m=q+1:=⟨m - 1,by have:=z0b e; omega⟩
  show q4A (q3n m) e n=_
  unfold q4A
  rw [q2q (c:=false) (q:=q4K n) fun k x hx=>by
   unfold q4z
   rw [ih x hx m (by have:=q9l hx; omega),Option.bind_some]
   cases q4K n x<;>rfl]
  have e1:q4K n e=(decide (e.Pos≤n)&&e.Args.all (q4K n)):=by unfold q4K; rw [z3Z]
  rw [e1,Option.bind_some]
  cases e.Args.all (q4K n) with
  | true=>rw [if_pos rfl,z0k,Bool.and_true]
  | false=>rw [if_neg (by simp),z3z,Bool.and_false]
theorem z8q (n:Int)(e:Expr):q7V e n=some (q4K n e):=q6p (fuE e) fun m hm=>z6z n e m hm
theorem z6A (n:Int)(e:Expr):∀ m,fuE e≤m→q2Z m e n=some (q4K n e):=by
 induction e using q7k with
 | h e ih=>
  intro m hm
  obtain⟨m,rfl⟩:∃ q,m=q+1:=⟨m - 1,by have:=z0b e; omega⟩
  show q2Y (q2Z m) e n=_
  unfold q2Y q1v q1z q9R
  have e1:q4K n e=(decide (e.Pos≤n)&&e.Args.all (q4K n)):=by unfold q4K; rw [z3Z]
  rw [Option.bind_some,e1]
  cases decide (e.Pos≤n) with
  | false=>rfl
  | true=>
   rw [if_pos rfl,q2P (q:=fun x=>!q4K n x) fun k x hx=>by
    unfold q2w q3r
    rw [ih x hx m (by have:=q9l hx; omega),Option.bind_some,Option.bind_some]
    cases q4K n x<;>rfl]
   rw [Bool.true_and,← z2h]; rfl
theorem z8r (n:Int)(e:Expr):q4I e n=some (q4K n e):=q6p (fuE e) fun m hm=>z6A n e m hm
def q7u (e:Expr)(n:Int):Bool:=z2i e&&q4K n e
theorem z4i {e:Expr}(h:Sz.szd e≤1048576)(n:Int):q9t e n=some (q7u e n):=by
 unfold q9t q7u
 have:=j1G h
 rw [z9z (by omega),Option.bind_some]
 cases z2i e with
 | false=>rfl
 | true=>rw [if_pos rfl,z8r]; rfl
theorem z4j {e:Expr}(h:Sz.szd e≤1048576)(n:Int):q4O e n=some (q7u e n):=by
 unfold q4O q7u
 have:=j1G h
 rw [z0d (by omega),Option.bind_some]
 cases z2i e with
 | false=>rfl
 | true=>rw [if_pos rfl,z8q]; rfl
def eqnB (n:Int)(q:Equation):Bool:=q7u q.Expr n&&(q4h q.At.Name&&decide (0≤q.At.Pos∧q.At.Pos≤n))
def conB (n:Int)(q:Contribution):Bool:=(q7u q.Target n&&q7u q.Value n)&&(q4h q.Symbol&&q4h q.Name)
def ruleB (r:Rule):Bool:=(q4h r.Name&&q4h r.Left)&&((decide (r.Right.length≤3)&&decide (r.Contributions.length≤2))&&(r.Right.all q4h&&(r.Equations.all (eqnB (r.Right.length:Int))&&r.Contributions.all (conB (r.Right.length:Int)))))
theorem z5s {α β γ:Type}{p:α→Bool}{q:β→Bool}{t:γ→Bool}(xs:List α)(ys:List β)(zs:List γ) :
  ((some (if xs.all p=true then (.inl ():Unit ⊕ Bool) else .inr false)).bind <| onr (fun r1=>some r1) fun _=>
   (some (if ys.all q=true then (.inl ():Unit ⊕ Bool) else .inr false)).bind <| onr (fun r1=>some r1) fun _=>
   (some (if zs.all t=true then (.inl ():Unit ⊕ Bool) else .inr false)).bind <| onr (fun r1=>some r1) fun _=>some true)=some (xs.all p&&(ys.all q&&zs.all t)):=by
 cases xs.all p<;>cases ys.all q<;>cases zs.all t<;>rfl
theorem z9O {r:Rule}(h:Sz.szd r≤1048576):q4R r=some (ruleB r):=by
 unfold q4R ruleB
 rw [q6B,Option.bind_some]
 cases q4h r.Name with
 | false=>rfl
 | true=>
  rw [if_pos rfl,q6B,Option.bind_some,Option.bind_some]
  cases q4h r.Left with
  | false=>rfl
  | true=>
   rw [Bool.not_true,if_neg (by simp),Option.bind_some]
   by_cases h3:r.Right.length≤3
   ·rw [decide_eq_true h3,decide_eq_false (by omega),if_neg (by simp),Option.bind_some]
    by_cases h2:r.Contributions.length≤2
    ·rw [decide_eq_true h2,decide_eq_false (by omega),if_neg (by simp)]
     rw [q2q (c:=false) (q:=q4h) fun k x hx=>by
      unfold q8z; rw [q6B,Option.bind_some]; cases q4h x<;>rfl]
     rw [q2q (c:=false) (q:=eqnB (r.Right.length:Int)) fun k x hx=>by
      unfold q8A eqnB
      rw [z4i (Nat.le_trans (z0B hx) h),Option.bind_some]
      cases q7u x.Expr (r.Right.length:Int) with
      | false=>rfl
      | true=>
       rw [if_pos rfl,q6B,Option.bind_some,Option.bind_some]
       cases q4h x.At.Name with
       | false=>rfl
       | true=>
        rw [Bool.not_true,if_neg (by simp),z2j,Option.bind_some,Option.bind_some]
        cases decide (0≤x.At.Pos∧x.At.Pos≤(r.Right.length:Int))<;>rfl]
     rw [q2q (c:=false) (q:=conB (r.Right.length:Int)) fun k x hx=>by
      have hs:=z1j hx
      unfold q8B conB
      rw [z4i (Nat.le_trans hs.1 h),Option.bind_some]
      cases q7u x.Target (r.Right.length:Int) with
      | false=>rfl
      | true=>
       rw [if_pos rfl,z4i (Nat.le_trans hs.2 h),Option.bind_some,Option.bind_some]
       cases q7u x.Value (r.Right.length:Int) with
       | false=>rfl
       | true=>
        rw [Bool.not_true,if_neg (by simp),q6B,Option.bind_some,Option.bind_some]
        cases q4h x.Symbol with
        | false=>rfl
        | true=>
         rw [Bool.not_true,if_neg (by simp),q6B,Option.bind_some,Option.bind_some]
         cases q4h x.Name<;>rfl]
     exact z5s _ _ _
    ·rw [decide_eq_false h2,decide_eq_true (by omega)]; rfl
   ·rw [decide_eq_false h3,decide_eq_true (by omega)]; rfl
theorem z9P {r:Rule}(h:Sz.szd r≤1048576):q4V r=some (ruleB r):=by
 unfold q4V ruleB
 rw [q5G,Option.bind_some]
 cases q4h r.Name with
 | false=>rfl
 | true=>
  rw [if_pos rfl,q5G,Option.bind_some,Option.bind_some]
  cases q4h r.Left with
  | false=>rfl
  | true=>
   rw [Bool.not_true,if_neg (by simp),Option.bind_some]
   by_cases h3:r.Right.length≤3
   ·rw [decide_eq_true h3,decide_eq_false (by omega),if_neg (by simp),Option.bind_some]
    by_cases h2:r.Contributions.length≤2
    ·rw [decide_eq_true h2,decide_eq_false (by omega),if_neg (by simp)]
     rw [q2q (c:=false) (q:=q4h) fun k x hx=>by
      unfold q8G; rw [q5G,Option.bind_some]; cases q4h x<;>rfl]
     rw [q2q (c:=false) (q:=eqnB (r.Right.length:Int)) fun k x hx=>by
      unfold q8H eqnB
      rw [q5G,Option.bind_some]
      cases q4h x.At.Name with
      | false=>rw [Bool.false_and,Bool.and_false]; rfl
      | true=>
       rw [if_pos rfl,z0P,Option.bind_some,Option.bind_some]
       cases decide (0≤x.At.Pos∧x.At.Pos≤(r.Right.length:Int)) with
       | false=>rw [Bool.and_false,Bool.and_false]; rfl
       | true=>
        rw [Bool.not_true,if_neg (by simp),z4j (Nat.le_trans (z0B hx) h),Option.bind_some,Option.bind_some]
        cases q7u x.Expr (r.Right.length:Int)<;>rfl]
     rw [q2q (c:=false) (q:=conB (r.Right.length:Int)) fun k x hx=>by
      have hs:=z1j hx
      unfold q8I conB
      rw [q5G,Option.bind_some]
      cases q4h x.Symbol with
      | false=>rw [Bool.false_and,Bool.and_false]; rfl
      | true=>
       rw [if_pos rfl,q5G,Option.bind_some,Option.bind_some]
       cases q4h x.Name with
       | false=>rw [Bool.and_false,Bool.and_false]; rfl
       | true=>
        rw [Bool.not_true,if_neg (by simp),z4j (Nat.le_trans hs.1 h),Option.bind_some,Option.bind_some]
        cases q7u x.Target (r.Right.length:Int) with
        | false=>rfl
        | true=>
         rw [Bool.not_true,if_neg (by simp),z4j (Nat.le_trans hs.2 h),Option.bind_some,Option.bind_some]
         cases q7u x.Value (r.Right.length:Int)<;>rfl]
     exact z5s _ _ _
    ·rw [decide_eq_false h2,decide_eq_true (by omega)]; rfl
   ·rw [decide_eq_false h3,decide_eq_true (by omega)]; rfl
def q7P (p:List Symbol)(x:Symbol):Bool:=!symB x||dupB (fun y:Symbol=>y.Name) p x
def q6s (p:List Rule)(x:Rule):Bool:=!ruleB x||dupB (fun y:Rule=>y.Name) p x
def q9m (g:Grammar):Int:=match q1Q q7P [] g.Symbols with
 | some k=>(k:Int)
 | none=>match q1Q q6s [] g.Rules with
  | some k=>(k:Int)
  | none=>-1
theorem z9Q {g:Grammar}(h:Sz.szd g≤1048576):q5w g=some (q9m g):=by
 unfold q5w q9m
 rw [show findL (q5Y g) 0 g.Symbols ()=_ from q8T (bad:=q7P) (c:=fun k=>(k:Int)) (all:=g.Symbols) (f:=q5Y g) (fun pre x post e=>by
  unfold q5Y q7P
  rw [j0Y,Option.bind_some]
  cases symB x with
  | false=>rfl
  | true=>
   rw [if_pos rfl,q1j (by rw [e]; simp),show g.Symbols.take pre.length=pre by rw [e]; simp]
   unfold q1E q1O
   rw [q2P (q:=fun o:Symbol=>decide (o.Name=x.Name)) fun k y hy=>by
    unfold q2J q5t
    rw [Option.bind_some]
    by_cases h:y.Name=x.Name
    ·rw [decide_eq_true h]; rfl
    ·rw [decide_eq_false h]; rfl]
   rw [Option.bind_some,← apply_ite some]; rfl) g.Symbols [] rfl]
 rw [show findL (q5Z g) 0 g.Rules ()=_ from q8T (bad:=q6s) (c:=fun k=>(k:Int)) (all:=g.Rules) (f:=q5Z g) (fun pre x post e=>by
  unfold q5Z q6s
  rw [z9O (Nat.le_trans (z0D (by rw [e]; simp)) h),Option.bind_some]
  cases ruleB x with
  | false=>rfl
  | true=>
   rw [if_pos rfl,q1j (by rw [e]; simp),show g.Rules.take pre.length=pre by rw [e]; simp]
   unfold q1I q1S
   rw [q2P (q:=fun o:Rule=>decide (o.Name=x.Name)) fun k y hy=>by
    unfold q2S q5v
    rw [Option.bind_some]
    by_cases h:y.Name=x.Name
    ·rw [decide_eq_true h]; rfl
    ·rw [decide_eq_false h]; rfl]
   rw [Option.bind_some,← apply_ite some]; rfl) g.Rules [] rfl]
 cases q1Q q7P [] g.Symbols with
 | some k=>rfl
 | none=>cases q1Q q6s [] g.Rules<;>rfl
theorem z9R {g:Grammar}(h:Sz.szd g≤1048576):g.Symbols.length≤1048576∧g.Rules.length≤1048576:=by
 have h1:=q7Z g
 have h2:=q3L g.Symbols
 have h3:=q3L g.Rules
 omega
theorem z9S {g:Grammar}(h:Sz.szd g≤1048576):q8J g=some (q9m g):=by
 have hl:=z9R h
 unfold q8J q9m
 have h1:=(q7O (bad:=q7P) (nm:=fun y:Symbol=>y.Name) (c:=fun k=>(k:Int)) (all:=g.Symbols) (f:=fun k x _=>some (if q7P (g.Symbols.take k) x=true then .inr (k:Int) else .inl ())) (h:=q9e) (fun pre x post e=>by
   rw [show g.Symbols.take pre.length=pre by rw [e]; simp]) (fun pre x post e=>by
  unfold q9e q7P
  rw [j0Z (z2k h x (by rw [e]; simp)),Option.bind_some]
  cases symB x with
  | false=>rfl
  | true=>
   have hp:pre.length≤1048576:=by
     have:g.Symbols.length=pre.length+(post.length+1):=by rw [e]; simp
     omega
   rw [if_pos rfl,z9L,Option.bind_some,List.any_map,q1j (by rw [List.length_map]; constructor<;>omega),List.map_append,← apply_ite some]; rfl) g.Symbols [] rfl).2
 have h2:=(q7O (bad:=q6s) (nm:=fun y:Rule=>y.Name) (c:=fun k=>(k:Int)) (all:=g.Rules) (f:=fun k x _=>some (if q6s (g.Rules.take k) x=true then .inr (k:Int) else .inl ())) (h:=q9f) (fun pre x post e=>by
   rw [show g.Rules.take pre.length=pre by rw [e]; simp]) (fun pre x post e=>by
  unfold q9f q6s
  rw [z9P (Nat.le_trans (z0D (by rw [e]; simp)) h),Option.bind_some]
  cases ruleB x with
  | false=>rfl
  | true=>
   have hp:pre.length≤1048576:=by
     have:g.Rules.length=pre.length+(post.length+1):=by rw [e]; simp
     omega
   rw [if_pos rfl,z9L,Option.bind_some,List.any_map,q1j (by rw [List.length_map]; constructor<;>omega),List.map_append,← apply_ite some]; rfl) g.Rules [] rfl).2
 rw [show findL q9e 0 g.Symbols []=_ from h1,show findL q9f 0 g.Rules []=_ from h2]
 cases q1Q q7P [] g.Symbols with
 | some k=>rfl
 | none=>cases q1Q q6s [] g.Rules<;>rfl
end Go.Proofs.YtiojgbiimbefiabGreat
namespace Go.Proofs.YtiojgbiimbefiabGreat
open Go Go.E
theorem z5t {ρ:Type}{c:ρ}{q:Nat→Bool}{n:Nat}{f:Nat→Unit→Option (Unit ⊕ ρ)}(h:∀ k,k < n→f k ()=some (if q k=true then .inl () else .inr c)):∀ (m k:Nat),k+m=n→findN f k m ()=some (if (List.range' k m).all q=true then .inl () else .inr c)
 | 0,k,_=>rfl
 | m+1,k,hk=>by
  have ih:=z5t h m (k+1) (by omega)
  rw [findN,h k (by omega),Option.bind_some]
  by_cases hq:q k=true
  ·rw [if_pos hq,show (List.range' k (m+1)).all q=(List.range' (k+1) m).all q by simp [List.range'_succ,hq]]
   exact ih
  ·rw [if_neg hq,show (List.range' k (m+1)).all q=false by simp [List.range'_succ,hq]]; rfl
theorem z4k {ρ:Type}{c:ρ}{q:Nat→Bool}{n:Nat}{f:Int→Option (Int ⊕ (Unit ⊕ ρ))}(h:∀ k:Nat,k < n→f (k:Int)=some (if q k=true then .inl ((k+1:Nat):Int) else .inr (.inr c)))(he:f (n:Int)=some (.inr (.inl ()))):∀ (m k:Nat),k+m=n→q3D f (k:Int)=some (if (List.range' k m).all q=true then .inl () else .inr c)
 | 0,k,hk=>by
  obtain rfl:k=n:=by omega
  exact q2g he
 | m+1,k,hk=>by
  have ih:=z4k h he m (k+1) (by omega)
  have h1:=h k (by omega)
  by_cases hq:q k=true
  ·rw [if_pos hq] at h1
   rw [q2R h1,show (List.range' k (m+1)).all q=(List.range' (k+1) m).all q by simp [List.range'_succ,hq]]
   exact ih
  ·rw [if_neg hq] at h1
   rw [q2g h1,show (List.range' k (m+1)).all q=false by simp [List.range'_succ,hq]]; rfl
def z3t (g:Grammar)(r:Rule):Bool:=(List.range' 0 (r.Right.length+1)).all fun k=>(q5H g (q5I r (k:Int))).2
theorem z6B (g:Grammar){r:Rule}(hl:ROk r):q7I g r=some (!z3t g r):=by
 have hl' : r.Right.length≤1048576:=hl
 unfold q7I
 rw [q1j (by constructor<;>omega),z5t (c:=true) (n:=r.Right.length+1) (q:=fun k=>(q5H g (q5I r (k:Int))).2) (fun k hk=>by
  unfold z1U
  rw [z4h hl,Option.bind_some,z0e,Option.bind_some]
  dsimp only
  rw [← apply_ite some]) (r.Right.length+1) 0 (by omega)]
 unfold z3t
 cases (List.range' 0 (r.Right.length+1)).all fun k=>(q5H g (q5I r (k:Int))).2<;>rfl
theorem z6C {g:Grammar}(h:GOk g){r:Rule}(hl:ROk r):q5C g r=some (z3t g r):=by
 have hl' : r.Right.length≤1048576:=hl
 unfold q5C
 have e:=z4k (c:=false) (q:=fun k=>(q5H g (q5I r (k:Int))).2) (n:=r.Right.length+1) (f:=q4W g r) (fun k hk=>by
  unfold q4W
  rw [if_pos (by omega),z0C hl,Option.bind_some,q8S h,Option.bind_some]
  dsimp only
  rw [q1j (by constructor<;>omega),← apply_ite some]; rfl) (by
  unfold q4W; rw [if_neg (by omega)]) (r.Right.length+1) 0 (by omega)
 rw [show q3D (q4W g r) 0=_ from e]
 unfold z3t
 cases (List.range' 0 (r.Right.length+1)).all fun k=>(q5H g (q5I r (k:Int))).2<;>rfl
theorem j2A (K:List Occurrence)(o:Occurrence):q2e K o=some (decide (o∈K)):=by
 unfold q2e q2L
 rw [q2P (q:=fun x=>decide (o=x)) fun k x hx=>by
  unfold q4H
  by_cases h:o=x
  ·rw [if_pos h,if_pos (by simpa using h)]
  ·rw [if_neg h,if_neg (by simpa using h)]]
 congr 1
 by_cases h:o∈K
 ·rw [decide_eq_true h,List.any_eq_true]; exact⟨o,h,by simp⟩
 ·rw [decide_eq_false h,List.any_eq_false]; intro x hx he; simp at he; exact h (he▸hx)
theorem z9T (K:List Occurrence)(o:Occurrence):q5S K o=some (decide (o∈K)):=by
 unfold q5S
 rw [q2q (c:=true) (q:=fun x=>!decide (x=o)) fun k x hx=>by
  unfold z0L
  by_cases h:x=o
  ·rw [if_pos h,if_neg (by simp [h])]
  ·rw [if_neg h,if_pos (by simp [h])]]
 by_cases h:o∈K
 ·rw [decide_eq_true h,if_neg]; · rfl
  rw [List.all_eq_true]; intro hh; have:=hh o h; simp at this
 ·rw [decide_eq_false h,if_pos]; · rfl
  rw [List.all_eq_true]; intro x hx; simp; exact fun e=>h (e▸hx)
def z1c (r:Rule)(o:Occurrence):Bool:=r.Equations.any fun q=>decide (q.At=o)
theorem z7w (r:Rule)(o:Occurrence):(eqAt r o).2=z1c r o:=by
 unfold eqAt z1c
 cases hf:r.Equations.find? (fun q=>decide (q.At=o)) with
 | none=>rw [List.find?_eq_none] at hf; symm; rw [List.any_eq_false]; exact hf
 | some q=>symm; rw [List.any_eq_true]; exact⟨q,List.mem_of_find?_eq_some hf,List.find?_some (p:=fun q:Equation=>decide (q.At=o)) hf⟩
def z8s (g:Grammar)(r:Rule):Bool:=(reqL g r).any fun o=>!z1c r o
theorem j1a {g:Grammar}(h:GOk g){r:Rule}(hl:ROk r):q7J g r=some (z8s g r):=by
 unfold q7J z8s
 rw [z6w h hl,Option.bind_some]
 unfold q1D q1K
 rw [q2P (q:=fun o=>!z1c r o) fun k o ho=>by
  unfold q2G q7h q1C q1J
  rw [q2P (q:=fun q:Equation=>decide (q.At=o)) fun k y hy=>by
   unfold q2F q6a
   rw [Option.bind_some]
   by_cases h:y.At=o
   ·rw [decide_eq_true h]; rfl
   ·rw [decide_eq_false h]; rfl]
  rw [Option.bind_some,Option.bind_some,← apply_ite some]; rfl]
 rfl
theorem j1b {g:Grammar}(h:GOk g){r:Rule}(hr:Sz.szd r≤1048576):q5D g r=some (z8s g r):=by
 unfold q5D z8s
 rw [z6x h (q4Z hr),Option.bind_some,q2q (c:=true) (q:=z1c r) fun k o ho=>by
  unfold q9j
  rw [z7t hr o,Option.bind_some]
  dsimp only
  rw [z7w,← apply_ite some]]
 have e:((reqL g r).all (z1c r))=!((reqL g r).any fun o=>!z1c r o):=by rw [z2h]
 rw [e]
 cases (reqL g r).any fun o=>!z1c r o<;>rfl
def z3u (g:Grammar)(r:Rule):Bool:=(q1Q (fun p (x:Equation)=>!decide (x.At∈reqL g r)||p.any fun o=>decide (o.At=x.At)) [] r.Equations).isSome
theorem z9U {g:Grammar}(h:GOk g){r:Rule}(hl:ROk r):q9T g r=some (z3u g r):=by
 unfold q9T z3u
 rw [z6w h hl,Option.bind_some]
 rw [show findL (q9S r (reqL g r)) 0 r.Equations ()=_ from q8T (bad:=fun p (x:Equation)=>!decide (x.At∈reqL g r)||p.any fun o=>decide (o.At=x.At)) (c:=fun _=>true) (all:=r.Equations) (f:=q9S r (reqL g r)) (fun pre x post e=>by
  unfold q9S
  rw [j2A,Option.bind_some]
  cases decide (x.At∈reqL g r) with
  | false=>rfl
  | true=>
   rw [if_pos rfl,q1j (by rw [e]; simp),show r.Equations.take pre.length=pre by rw [e]; simp]
   unfold q1P q1W
   rw [q2P (q:=fun o:Equation=>decide (o.At=x.At)) fun k y hy=>by
    unfold q3a q9d
    rw [Option.bind_some]
    by_cases h:y.At=x.At
    ·rw [decide_eq_true h]; rfl
    ·rw [decide_eq_false h]; rfl]
   rw [Option.bind_some,← apply_ite some]; rfl) r.Equations [] rfl]
 cases q1Q (fun p (x:Equation)=>!decide (x.At∈reqL g r)||p.any fun o=>decide (o.At=x.At)) [] r.Equations<;>rfl
theorem z9V {g:Grammar}(h:GOk g){r:Rule}(hr:Sz.szd r≤1048576):q6W g r=some (z3u g r):=by
 have hl:=(j1I hr).1
 unfold q6W z3u
 rw [z6x h (q4Z hr),Option.bind_some]
 have h1:=(q7O (bad:=fun p (x:Equation)=>!decide (x.At∈reqL g r)||p.any fun o=>decide (o.At=x.At)) (nm:=fun y:Equation=>y.At) (c:=fun _=>true) (all:=r.Equations)
  (f:=fun k x _=>some (if (!decide (x.At∈reqL g r)||(r.Equations.take k).any fun o=>decide (o.At=x.At))=true then .inr true else .inl ())) (h:=q7i (reqL g r)) (fun pre x post e=>by
   rw [show r.Equations.take pre.length=pre by rw [e]; simp]) (fun pre x post e=>by
  unfold q7i
  rw [z9T,Option.bind_some]
  cases decide (x.At∈reqL g r) with
  | false=>rfl
  | true=>
   have hp:pre.length≤1048576:=by
     have:r.Equations.length=pre.length+(post.length+1):=by rw [e]; simp
     omega
   have e2:decide (x.At∈pre.map fun y:Equation=>y.At)=pre.any fun o=>decide (o.At=x.At):=by
    by_cases hm:x.At∈pre.map fun y:Equation=>y.At
    ·rw [decide_eq_true hm]; symm; rw [List.any_eq_true]
     obtain⟨y,hy,he⟩:=List.mem_map.1 hm
     exact⟨y,hy,by simpa using he⟩
    ·rw [decide_eq_false hm]; symm; rw [List.any_eq_false]
     intro y hy he
     exact hm (List.mem_map.2 ⟨y,hy,by simpa using he⟩)
   rw [if_pos rfl,z9T,Option.bind_some,e2,q1j (by rw [List.length_map]; constructor<;>omega),List.map_append,← apply_ite some]; rfl) r.Equations [] rfl).2
 rw [show findL (q7i (reqL g r)) 0 r.Equations []=_ from h1]
 cases q1Q (fun p (x:Equation)=>!decide (x.At∈reqL g r)||p.any fun o=>decide (o.At=x.At)) [] r.Equations<;>rfl
def useB (g:Grammar)(r:Rule)(e:Expr):Bool:=(z2F e).all (mayB g r)
theorem z4l {g:Grammar}(h:GOk g){r:Rule}(hl:ROk r){e:Expr}(he:Sz.szd e≤1048576):q5T g r e=some (useB g r e):=by
 unfold q5T useB
 rw [z7q he,Option.bind_some,q2q (c:=false) (q:=mayB g r) fun k x hx=>by
  unfold z2d
  rw [j2z h hl,Option.bind_some,← apply_ite some]]
 cases (z2F e).all (mayB g r)<;>rfl
theorem j1c (g:Grammar){r:Rule}(hl:ROk r){e:Expr}(he:Sz.szd e≤1048576):q6k e g r=some (!useB g r e):=by
 unfold q6k useB
 rw [j0G he,Option.bind_some]
 unfold q1y q1G
 rw [q2P (q:=fun o=>!mayB g r o) fun k o ho=>by
  unfold q2C q6b
  rw [z9K g hl,Option.bind_some,Option.bind_some,← apply_ite some]]
 rw [Option.bind_some,← z2h,Bool.not_not]
def z0R (r:Rule):List Expr:=r.Equations.map (fun q=>q.Expr)++r.Contributions.flatMap fun q=>[q.Target,q.Value]
theorem j1d {r:Rule}(hr:Sz.szd r≤1048576):q4S r=some (z0R r):=by
 have hl:=j1I hr
 have h1:∀ (xs:List Equation) (i:Nat) (s:List Expr),s.length+xs.length≤1048576→eachL q5y i xs s=some (s++xs.map fun q=>q.Expr):=by
  intro xs
  induction xs with
  | nil=>intro i s _; simp [eachL]
  | cons x xs ih=>
   intro i s hs
   simp only [List.length_cons] at hs
   have e:q5y i x s=some (s++[x.Expr]):=by unfold q5y; rw [q1j (by constructor<;>omega)]
   rw [eachL,e,Option.bind_some,ih _ _ (by simp; omega)]; simp
 have h2:∀ (xs:List Contribution) (i:Nat) (s:List Expr),s.length+2*xs.length≤4194304→eachL q5z i xs s=some (s++xs.flatMap fun q=>[q.Target,q.Value]):=by
  intro xs
  induction xs with
  | nil=>intro i s _; simp [eachL]
  | cons x xs ih=>
   intro i s hs
   simp only [List.length_cons] at hs
   have e:q5z i x s=some (s++[x.Target,x.Value]):=by
    unfold q5z; rw [q1j (by simp only [List.length_cons,List.length_nil]; constructor<;>omega)]
   rw [eachL,e,Option.bind_some,ih _ _ (by simp; omega)]; simp
 unfold q4S z0R
 rw [h1 _ _ _ (by simpa using hl.1),Option.bind_some,h2 _ _ _ (by simp; omega)]; simp
theorem j1e {r:Rule}{e:Expr}(h:e∈z0R r):Sz.szd e≤Sz.szd r:=by
 unfold z0R at h
 rcases List.mem_append.1 h with h | h
 ·obtain⟨q,hq,rfl⟩:=List.mem_map.1 h; exact z0B hq
 ·obtain⟨q,hq,he⟩:=List.mem_flatMap.1 h
  have:=z1j hq
  simp at he
  rcases he with rfl | rfl
  ·exact this.1
  ·exact this.2
def misB (g:Grammar)(r:Rule):Bool:=!(z0R r).all (useB g r)
theorem j2B (g:Grammar){r:Rule}(hr:Sz.szd r≤1048576):q7L g r=some (misB g r):=by
 unfold q7L misB
 rw [j1d hr,Option.bind_some]
 unfold q1T q2b
 rw [q2P (q:=fun e=>!useB g r e) fun k e he=>by
  unfold q3p
  rw [j1c g (q4Z hr) (Nat.le_trans (j1e he) hr),Option.bind_some,← apply_ite some]]
 rw [Option.bind_some,← z2h,Bool.not_not]
theorem j2C {g:Grammar}(h:GOk g){r:Rule}(hr:Sz.szd r≤1048576):q6n g r=some (misB g r):=by
 unfold q6n misB
 rw [q2q (c:=true) (q:=fun q:Equation=>useB g r q.Expr) fun k x hx=>by
  unfold q9V
  rw [z4l h (q4Z hr) (Nat.le_trans (z0B hx) hr),Option.bind_some,← apply_ite some]]
 rw [q2q (c:=true) (q:=fun q:Contribution=>useB g r q.Target&&useB g r q.Value) fun k x hx=>by
  have hs:=z1j hx
  unfold q9W
  rw [z4l h (q4Z hr) (Nat.le_trans hs.1 hr),Option.bind_some]
  cases useB g r x.Target with
  | false=>rfl
  | true=>rw [if_pos rfl,z4l h (q4Z hr) (Nat.le_trans hs.2 hr),Option.bind_some,← apply_ite some]; rfl]
 have e:(z0R r).all (useB g r)=((r.Equations.all fun q=>useB g r q.Expr)&&r.Contributions.all fun q=>useB g r q.Target&&useB g r q.Value):=by
  unfold z0R
  rw [List.all_append,List.all_map,List.all_flatMap]
  congr 1
  congr 1; funext q; simp
 rw [e]
 cases r.Equations.all fun q=>useB g r q.Expr with
 | false=>rfl
 | true=>cases r.Contributions.all fun q=>useB g r q.Target&&useB g r q.Value<;>rfl
end Go.Proofs.YtiojgbiimbefiabGreat
namespace Go.Proofs.YtiojgbiimbefiabGreat
open Go Go.E
def q6u (g:Grammar)(r:Rule)(k:Int):Bool:=if k=3 then !z3t g r else if k=4 then z8s g r else if k=5 then z3u g r else misB g r
theorem z9W {g:Grammar}(h:GOk g){r:Rule}(hr:Sz.szd r≤1048576)(k:Int):q6o g r k=some (q6u g r k):=by
 unfold q6o q6u
 by_cases h3:k=3
 ·rw [if_pos h3,if_pos h3,z6C h (q4Z hr)]; rfl
 ·rw [if_neg h3,if_neg h3]
  by_cases h4:k=4
  ·rw [if_pos h4,if_pos h4,j1b h hr]; rfl
  ·rw [if_neg h4,if_neg h4]
   by_cases h5:k=5
   ·rw [if_pos h5,if_pos h5,z9V h hr]; rfl
   ·rw [if_neg h5,if_neg h5,j2C h hr]; rfl
theorem z5u {g:Grammar}(h:GOk g){r:Rule}(hr:Sz.szd r≤1048576)(k:Int)(i:Nat):q6c g k i r ()=some (if q6u g r k=true then .inr (k,(i:Int)) else .inl ()):=by
 unfold q6c q6u
 by_cases h3:k=3
 ·rw [if_pos h3,if_pos h3,z6B g (q4Z hr),Option.bind_some,← apply_ite some]
 ·rw [if_neg h3,if_neg h3]
  by_cases h4:k=4
  ·rw [if_pos h4,if_pos h4,j1a h (q4Z hr),Option.bind_some,← apply_ite some]
  ·rw [if_neg h4,if_neg h4]
   by_cases h5:k=5
   ·rw [if_pos h5,if_pos h5,z9U h (q4Z hr),Option.bind_some,← apply_ite some]
   ·rw [if_neg h5,if_neg h5,j2B g hr,Option.bind_some,← apply_ite some]
theorem z9X {g:Grammar}(h:GOk g){r:Rule}(hr:Sz.szd r≤1048576)(k:Int)(i:Nat):q6d g k i r ()=some (if q6u g r k=true then .inr (k,(i:Int)) else .inl ()):=by
 unfold q6d
 rw [z9W h hr,Option.bind_some,← apply_ite some]
theorem z2m {α σ ρ:Type}{f g:Nat→α→σ→Option (σ ⊕ ρ)}:∀ {xs:List α} {i:Nat} {s:σ},(∀ k x s,x∈xs→f k x s=g k x s)→findL f i xs s=findL g i xs s
 | [],_,_,_=>rfl
 | x :: xs,i,s,h=>by
  rw [findL,findL,h i x s (by simp)]
  congr 1; funext z
  cases z with
  | inl s'=>exact z2m fun k y s hy=>h k y s (by simp [hy])
  | inr r=>rfl
theorem z6D {g:Grammar}(h:Sz.szd g≤1048576)(k:Int):q6e g k=q2M g k:=by
 unfold q6e q2M
 have e:findL (q6d g k) 0 g.Rules ()=findL (q6c g k) 0 g.Rules ():=z2m fun i x _ hx=>by
  have hr:=Nat.le_trans (z0D hx) h
  rw [z9X (z2k h) hr,z5u (z2k h) hr]
 rw [e]
def q3X (g:Grammar)(k:Int):Option (Int × Int):=match g.Rules.findIdx? fun r=>q6u g r k with
 | some i=>some (k,(i:Int))
 | none=>none
theorem z2n {α ρ:Type}{q:α→Bool}{c:Nat→ρ}:∀ {xs:List α} {i:Nat} {f:Nat→α→Unit→Option (Unit ⊕ ρ)},(∀ k x,x∈xs→f k x ()=some (if q x=true then .inr (c k) else .inl ())) →
  findL f i xs ()=some (match xs.findIdx? q with | some j=>.inr (c (i+j)) | none=>.inl ())
 | [],_,_,_=>rfl
 | x :: xs,i,f,h=>by
  rw [findL,h i x (by simp),Option.bind_some,List.findIdx?_cons]
  by_cases hq:q x=true
  ·rw [if_pos hq,if_pos hq]; rfl
  ·rw [if_neg hq,if_neg hq]
   have ih:=z2n (q:=q) (c:=c) (xs:=xs) (i:=i+1) (f:=f) fun k y hy=>h k y (by simp [hy])
   dsimp only
   rw [ih]
   cases xs.findIdx? q with
   | none=>rfl
   | some j=>simp only [Option.map_some]; rw [show i+1+j=i+(j+1) by omega]
def z2o (g:Grammar):Int × Int:=
 if !decide (1≤g.Symbols.length∧g.Symbols.length≤4) || !decide (1≤g.Rules.length∧g.Rules.length≤8) then (1,0)
 else if 0≤q9m g then (1,q9m g)
 else if (g.Symbols.getD 0 zS).Attributes.any fun a=>decide (a.Mode=1) then (2,0)
 else (q3X g 3 <|> (q3X g 4 <|> (q3X g 5 <|> q3X g 6))).getD (0,0)
theorem z2p {g:Grammar}(h:Sz.szd g≤1048576):(q3D (q2M g) 3).bind (onr (fun r2=>some r2) fun ()=>some (0,0))=some ((q3X g 3 <|> (q3X g 4 <|> (q3X g 5 <|> q3X g 6))).getD (0,0)):=by
 have hstep:∀ k:Int,3≤k→k≤6→q2M g k=match q3X g k with | some z=>some (.inr (.inr z)) | none=>some (.inl (k+1)):=by
  intro k h3 h6
  unfold q2M q3X
  rw [if_pos h6,z2n (q:=fun r=>q6u g r k) (c:=fun i=>(k,(i:Int))) fun i x hx=>z5u (z2k h) (Nat.le_trans (z0D hx) h) k i]
  cases g.Rules.findIdx? fun r=>q6u g r k with
  | some i=>simp
  | none=>rw [Option.bind_some]; dsimp only [onr]; rw [q1j (by constructor<;>omega)]
 have hend:q2M g 7=some (.inr (.inl ())):=by unfold q2M; rw [if_neg (by omega)]
 have h3:=hstep 3 (by omega) (by omega)
 have h4:=hstep 4 (by omega) (by omega)
 have h5:=hstep 5 (by omega) (by omega)
 have h6:=hstep 6 (by omega) (by omega)
 cases s3:q3X g 3 with
 | some z=>rw [s3] at h3; rw [q2g h3]; rfl
 | none=>
  rw [s3] at h3
  rw [q2R h3,show (3:Int)+1=4 by rfl]
  cases s4:q3X g 4 with
  | some z=>rw [s4] at h4; rw [q2g h4]; rfl
  | none=>
   rw [s4] at h4
   rw [q2R h4,show (4:Int)+1=5 by rfl]
   cases s5:q3X g 5 with
   | some z=>rw [s5] at h5; rw [q2g h5]; rfl
   | none=>
    rw [s5] at h5
    rw [q2R h5,show (5:Int)+1=6 by rfl]
    cases s6:q3X g 6 with
    | some z=>rw [s6] at h6; rw [q2g h6]; rfl
    | none=>
     rw [s6] at h6
     rw [q2R h6,show (6:Int)+1=7 by rfl,q2g hend]; rfl
theorem z9Y {g:Grammar}(h:Sz.szd g≤1048576):q5A g=some (z2o g):=by
 unfold q5A z2o
 rw [z2j,Option.bind_some]
 by_cases h1:1≤g.Symbols.length∧g.Symbols.length≤4
 ·rw [decide_eq_true (by omega),if_pos rfl,z2j,Option.bind_some,decide_eq_true h1]
  by_cases h2:1≤g.Rules.length∧g.Rules.length≤8
  ·rw [decide_eq_true (by omega),if_pos rfl,z9Q h,Option.bind_some,decide_eq_true h2]
   simp only [Bool.not_true,Bool.or_self,Bool.false_eq_true,if_false]
   by_cases h3:0≤q9m g
   ·rw [if_pos h3,if_pos h3]
   ·rw [if_neg h3,if_neg h3,List.getD_eq_getElem?_getD,List.getElem?_eq_getElem (by omega:0 < g.Symbols.length),Option.bind_some,Option.getD_some]
    unfold q1x q1F
    rw [q2P (q:=fun a:Attribute=>decide (a.Mode=1)) fun k y hy=>by
     unfold q2B q5x
     rw [Option.bind_some,← apply_ite some]]
    rw [Option.bind_some]
    by_cases h4:(g.Symbols[0].Attributes.any fun a=>decide (a.Mode=1))=true
    ·rw [if_pos h4,if_pos h4]
    ·rw [if_neg h4,if_neg h4]
     exact z2p h
  ·rw [decide_eq_false (by omega),decide_eq_false h2]; rfl
 ·rw [decide_eq_false (by omega),decide_eq_false h1]; rfl
theorem z9Z {g:Grammar}(h:Sz.szd g≤1048576):q5E g=some (z2o g):=by
 unfold q5E z2o
 rw [z0P,Option.bind_some]
 by_cases h1:1≤g.Symbols.length∧g.Symbols.length≤4
 ·rw [decide_eq_true (by omega),if_pos rfl,z0P,Option.bind_some,decide_eq_true h1]
  by_cases h2:1≤g.Rules.length∧g.Rules.length≤8
  ·rw [decide_eq_true (by omega),if_pos rfl,z9S h,Option.bind_some,decide_eq_true h2]
   simp only [Bool.not_true,Bool.or_self,Bool.false_eq_true,if_false]
   by_cases h3:0≤q9m g
   ·rw [if_pos h3,if_pos h3]
   ·rw [if_neg h3,if_neg h3,List.getD_eq_getElem?_getD,List.getElem?_eq_getElem (by omega:0 < g.Symbols.length),Option.bind_some,Option.getD_some]
    rw [q2q (c:=((2:Int),(0:Int))) (q:=fun a:Attribute=>!decide (a.Mode=1)) fun k y hy=>by
     unfold q9k
     by_cases hm:y.Mode=1
     ·rw [if_pos hm,if_neg (by simp [hm])]
     ·rw [if_neg hm,if_pos (by simp [hm])]]
    have e:(g.Symbols[0].Attributes.all fun a=>!decide (a.Mode=1))=!(g.Symbols[0].Attributes.any fun a=>decide (a.Mode=1)):=by rw [List.not_any_eq_all_not]
    rw [e]
    cases (g.Symbols[0].Attributes.any fun a=>decide (a.Mode=1)) with
    | true=>rfl
    | false=>
     rw [Bool.not_false,if_pos rfl,Option.bind_some,z0k,if_neg (by simp),show q6e g=q2M g from funext fun k=>z6D h k]
     exact z2p h
  ·rw [decide_eq_false (by omega),decide_eq_false h2]; rfl
 ·rw [decide_eq_false (by omega),decide_eq_false h1]; rfl
theorem q6I {α:Type}{bad:List α→α→Bool}:∀ (xs pre:List α),q1Q bad pre xs=none→∀ k x,xs[k]? = some x→bad (pre++xs.take k) x=false
 | [],pre,h,k,x,hx=>by simp at hx
 | y :: xs,pre,h,k,x,hx=>by
  rw [q1Q] at h
  by_cases hb:bad pre y=true
  ·rw [if_pos hb] at h; cases h
  ·rw [if_neg hb] at h
   cases k with
   | zero=>simp at hx; subst hx; simpa using hb
   | succ k=>
    have:=q6I xs (pre++[y]) h k x (by simpa using hx)
    simpa using this
structure Shape (g:Grammar):Prop where
 syms:1≤g.Symbols.length∧g.Symbols.length≤4
 rules:1≤g.Rules.length∧g.Rules.length≤8
 sym:q1Q q7P [] g.Symbols=none
 rule:q1Q q6s [] g.Rules=none
 brk:∀ k:Int,3≤k→k≤6→∀ r∈g.Rules,q6u g r k=false
 z4F:∀ y a,g.Symbols[0]? = some y→a∈y.Attributes→a.Mode≠1
theorem j1f {g:Grammar}(h:(z2o g).1=0):Shape g:=by
 unfold z2o at h
 by_cases h1:1≤g.Symbols.length∧g.Symbols.length≤4
 ·by_cases h2:1≤g.Rules.length∧g.Rules.length≤8
  ·rw [decide_eq_true h1,decide_eq_true h2] at h
   simp only [Bool.not_true,Bool.or_self,Bool.false_eq_true,if_false] at h
   by_cases h3:0≤q9m g
   ·rw [if_pos h3] at h; simp at h
   ·rw [if_neg h3] at h
    by_cases h4:((g.Symbols.getD 0 zS).Attributes.any fun a=>decide (a.Mode=1))=true
    ·rw [if_pos h4] at h; simp at h
    ·rw [if_neg h4] at h
     have hf:q1Q q7P [] g.Symbols=none∧q1Q q6s [] g.Rules=none:=by
      unfold q9m at h3
      cases e1:q1Q q7P [] g.Symbols with
      | some k=>rw [e1] at h3; exact absurd (Int.natCast_nonneg k) h3
      | none=>
       cases e2:q1Q q6s [] g.Rules with
       | some k=>rw [e1,e2] at h3; exact absurd (Int.natCast_nonneg k) h3
       | none=>exact⟨rfl,rfl⟩
     have hk:∀ k:Int,q3X g k=none→∀ r∈g.Rules,q6u g r k=false:=by
      intro k hk r hr
      unfold q3X at hk
      cases e:g.Rules.findIdx? fun r=>q6u g r k with
      | some i=>rw [e] at hk; cases hk
      | none=>
       rw [List.findIdx?_eq_none_iff] at e
       exact e r hr
     have hc:∀ k:Int,3≤k→∀ z,q3X g k=some z→z.1≠0:=by
      intro k h3 z hz
      unfold q3X at hz
      cases e:g.Rules.findIdx? fun r=>q6u g r k with
      | none=>rw [e] at hz; cases hz
      | some i=>rw [e] at hz; cases hz; show k≠0; omega
     have n3:q3X g 3=none:=by
      cases e:q3X g 3 with
      | none=>rfl
      | some z=>rw [e] at h; exact absurd h (hc 3 (by omega) z e)
     rw [n3] at h
     have n4:q3X g 4=none:=by
      cases e:q3X g 4 with
      | none=>rfl
      | some z=>rw [e] at h; exact absurd h (hc 4 (by omega) z e)
     rw [n4] at h
     have n5:q3X g 5=none:=by
      cases e:q3X g 5 with
      | none=>rfl
      | some z=>rw [e] at h; exact absurd h (hc 5 (by omega) z e)
     rw [n5] at h
     have n6:q3X g 6=none:=by
      cases e:q3X g 6 with
      | none=>rfl
      | some z=>rw [e] at h; exact absurd h (hc 6 (by omega) z e)
     refine⟨h1,h2,hf.1,hf.2,fun k k3 k6=>?_,fun y a hy ha hm=>h4 ?_⟩
     ·have:k=3∨k=4∨k=5∨k=6:=by omega
      rcases this with rfl | rfl | rfl | rfl
      ·exact hk _ n3
      ·exact hk _ n4
      ·exact hk _ n5
      ·exact hk _ n6
     ·rw [List.getD_eq_getElem?_getD,hy,List.any_eq_true]
      exact⟨a,ha,by simpa using hm⟩
  ·rw [decide_eq_false h2] at h; simp at h
 ·rw [decide_eq_false h1] at h; simp at h
theorem Shape.ruleB {g:Grammar}(h:Shape g){r:Rule}(hr:r∈g.Rules):ruleB r=true:=by
 obtain⟨k,hk⟩:=List.getElem?_of_mem hr
 have:=q6I _ _ h.rule k r hk
 unfold q6s at this
 rw [Bool.or_eq_false_iff] at this
 simpa using this.1
theorem Shape.symB {g:Grammar}(h:Shape g){y:Symbol}(hy:y∈g.Symbols):symB y=true:=by
 obtain⟨k,hk⟩:=List.getElem?_of_mem hy
 have:=q6I _ _ h.sym k y hk
 unfold q7P at this
 rw [Bool.or_eq_false_iff] at this
 simpa using this.1
theorem Shape.pos {g:Grammar}(h:Shape g){r:Rule}(hr:r∈g.Rules){q:Equation}(hq:q∈r.Equations):0≤q.At.Pos∧q.At.Pos≤(r.Right.length:Int):=by
 have:=h.ruleB hr
 unfold Go.Proofs.YtiojgbiimbefiabGreat.ruleB at this
 simp only [Bool.and_eq_true,List.all_eq_true] at this
 have:=this.2.2.2.1 q hq
 unfold eqnB at this
 simp only [Bool.and_eq_true,decide_eq_true_eq] at this
 exact this.2.2
end Go.Proofs.YtiojgbiimbefiabGreat
namespace Go.Proofs.YtiojgbiimbefiabGreat
open Go Go.E
def atS (g:Grammar)(n:ByteArray):Option Nat:=g.Symbols.findIdx? fun y=>decide (y.Name=n)
theorem getD_some {hs:List Int}{j:Nat}(h:j < hs.length):hs[j]? = some (hs.getD j 0):=by
 rw [List.getD_eq_getElem?_getD,List.getElem?_eq_getElem h]; rfl
def HsOk (g:Grammar)(hs:List Int):Prop:=hs.length=g.Symbols.length∧∀ j,0≤hs.getD j 0
theorem HsOk.set {g:Grammar}{hs:List Int}(h:HsOk g hs){k:Nat}{v:Int}(hv:0≤v):HsOk g (hs.set k v):=by
 refine⟨by simpa using h.1,fun j=>?_⟩
 rw [List.getD_eq_getElem?_getD,List.getElem?_set]
 split
 ·split
  ·exact hv
  ·simp
 ·rw [← List.getD_eq_getElem?_getD]; exact h.2 j
theorem Shape.names {g:Grammar}(h:Shape g){k j:Nat}{x y:Symbol}(hk:g.Symbols[k]? = some x)(hj:g.Symbols[j]? = some y)(hn:x.Name=y.Name):k=j:=by
 have key:∀ {k j:Nat} {x y:Symbol},g.Symbols[k]? = some x→g.Symbols[j]? = some y→x.Name=y.Name→¬ k < j:=by
  intro k j x y hk hj hn hlt
  have:=q6I _ _ h.sym j y hj
  unfold q7P at this
  rw [Bool.or_eq_false_iff] at this
  have h2:=this.2
  unfold dupB at h2
  rw [List.nil_append,List.any_eq_false] at h2
  exact h2 x (List.mem_of_getElem? (i:=k) (by rw [List.getElem?_take,if_pos hlt]; exact hk)) (by simpa using hn)
 have h1:=key hk hj hn
 have h2:=key hj hk hn.symm
 omega
theorem Shape.at_ {g:Grammar}(h:Shape g){k:Nat}{x:Symbol}(hk:g.Symbols[k]? = some x):atS g x.Name=some k:=by
 unfold atS
 cases he:g.Symbols.findIdx? fun y=>decide (y.Name=x.Name) with
 | none=>
  rw [List.findIdx?_eq_none_iff] at he
  have:=he x (List.mem_of_getElem? hk)
  simp at this
 | some j=>
  rw [List.findIdx?_eq_some_iff_getElem] at he
  obtain⟨hj,h1,_⟩:=he
  rw [h.names (List.getElem?_eq_getElem hj) hk (by simpa using h1)]
end Go.Proofs.YtiojgbiimbefiabGreat
namespace Go.Proofs.YtiojgbiimbefiabGreat
open Go Go.E
section
variable {α β ρ σ:Type}{Q:β→Prop}{b:List UInt8}
theorem Ok.bif {c:Prop}[Decidable c]{A B:Option α}{k:α→Option β}(h1:c→Ok Q (A.bind k))(h2:¬ c→Ok Q (B.bind k)):Ok Q ((if c then A else B).bind k):=by
 by_cases hc:c
 ·rw [if_pos hc]; exact h1 hc
 ·rw [if_neg hc]; exact h2 hc
theorem Ok.bso {x:α}{k:α→Option β}(h:Ok Q (k x)):Ok Q ((some x).bind k):=h
theorem Ok.bbi {γ:Type}{A:Option α}{B:α→Option γ}{k:γ→Option β}(h:Ok Q (A.bind fun x=>(B x).bind k)):Ok Q ((A.bind B).bind k):=by
 rw [Option.bind_assoc]; exact h
theorem Ok.bgr {c:Prop}[Decidable c]{A:Option α}{k:α→Option β}(hc:c)(h:Ok Q (A.bind k)):Ok Q ((Go.E.grd c A).bind k):=by rw [q1j hc]; exact h
theorem Ok.get {l:List α}{j:Nat}{k:α→Option β}(hj:j < l.length)(h:∀ x,x∈l→Ok Q (k x)):Ok Q ((l[j]?).bind k):=by
 obtain⟨x,hx⟩:∃ x,l[j]? = some x:=⟨_,List.getElem?_eq_getElem hj⟩
 rw [hx]; exact h x (List.mem_of_getElem? hx)
theorem Ok.eq {A:Option α}{x:α}{k:α→Option β}(hA:A=some x)(h:Ok Q (k x)):Ok Q (A.bind k):=by rw [hA]; exact h
theorem drK {P:α→Prop}{o:Option (α × l1Cur)}(ho:Dr b P o){k:α × l1Cur→Option β}(hk:∀ y i' h',P y→0≤i'→Ok Q (k (y,⟨b,i',h'⟩))):Ok Q (o.bind k):=by
 obtain⟨⟨y,z⟩,rfl,hy,hz,he⟩:=ho
 obtain⟨zb,zi,zh⟩:=z
 dsimp only at he hz hy
 subst he
 exact hk y zi zh hy hz
theorem cb {i h:Int}(hi:0≤i):CB b ⟨b,i,h⟩:=⟨hi,rfl⟩
theorem Dr.re {P:α→Prop}{y:α}{i h:Int}(hy:P y)(hi:0≤i):Dr b P (some (y,(⟨b,i,h⟩:l1Cur))):=⟨_,rfl,hy,hi,rfl⟩
theorem z4m {P:σ→Prop}{Q:ρ→Prop}{f:σ→Option (σ ⊕ ρ)}(μ:σ→Nat)(hf:∀ s,P s→Ok (fun z=>match z with | .inl s'=>P s'∧μ s' < μ s | .inr r=>Q r) (f s)):∀ s,P s→Ok Q (q3D f s):=by
 have key:∀ n s,μ s < n→P s→Ok Q (q3D f s):=by
  intro n
  induction n with
  | zero=>intro s h; omega
  | succ n ih=>
   intro s h hp
   obtain⟨z,hz,hq⟩:=hf s hp
   cases z with
   | inl s'=>rw [q2R hz]; exact ih s' (by have:=hq.2; omega) hq.1
   | inr r=>exact⟨r,q2g hz,hq⟩
 exact fun s hs=>key _ s (Nat.lt_succ_self _) hs
end
theorem z6E {α β:Type}{Q:β→Prop}(P:Nat→List α→Prop){f:Nat→Int × Int × List α→Option (Int × Int × List α)}{k:Int × Int × List α→Option β}{n:Nat}{i h:Int}{l:List α}(hi:0≤i)(h0:P 0 l)
  (hf:∀ j l i h,j < n→0≤i→P j l→Ok (fun s:Int × Int × List α=>0≤s.1∧P (j+1) s.2.2) (f j (i,h,l))) (hk:∀ l i h,0≤i→P n l→Ok Q (k (i,h,l))):Ok Q ((eachN f 0 n (i,h,l)).bind k):=by
 obtain⟨s,e,h1⟩:=z4e (P:=fun k (s:Int × Int × List α)=>0≤s.1∧P k s.2.2) (f:=f) (n:=n) (i:=0) (s:=(i,h,l)) ⟨hi,h0⟩ fun j s _ hj hs=>hf j _ _ _ (by omega) hs.1 hs.2
 rw [e]
 rw [Nat.zero_add] at h1
 exact hk _ _ _ h1.1 h1.2
theorem j2D {γ α β:Type}{Q:β→Prop}(P:Nat→List α→Prop){f:Nat→γ→Int × Int × List α→Option (Int × Int × List α)}{k:Int × Int × List α→Option β}{xs:List γ}{i h:Int}{l:List α}(hi:0≤i)(h0:P 0 l)
  (hf:∀ j x l i h,x∈xs→j < xs.length→0≤i→P j l→Ok (fun s:Int × Int × List α=>0≤s.1∧P (j+1) s.2.2) (f j x (i,h,l))) (hk:∀ l i h,0≤i→P xs.length l→Ok Q (k (i,h,l))):Ok Q ((eachL f 0 xs (i,h,l)).bind k):=by
 obtain⟨s,e,h1⟩:=z4f (P:=fun k (s:Int × Int × List α)=>0≤s.1∧P k s.2.2) (f:=f) (xs:=xs) (i:=0) (s:=(i,h,l)) ⟨hi,h0⟩ fun j x s hx _ hj hs=>hf j x _ _ _ hx (by omega) hs.1 hs.2
 rw [e]
 rw [Nat.zero_add] at h1
 exact hk _ _ _ h1.1 h1.2
def SB (s:Symbol):Prop:=s.Name.size≤8∧1≤s.Attributes.length∧s.Attributes.length≤5∧∀ a∈s.Attributes,a.Name.size≤8
def RB (r:Rule):Prop:=r.Name.size≤8∧r.Left.size≤8∧r.Right.length≤5∧(∀ x∈r.Right,x.size≤8)
def SBs (l:List Symbol):Prop:=1≤l.length∧l.length≤3∧∀ s∈l,SB s
theorem z5v {α:Type}[Sz α]{m:Nat}:∀ {l:List α},(∀ x∈l,Sz.szd x≤m)→szL l≤l.length*(m+1)
 | [],_=>by simp [szL]
 | x :: l,h=>by
  have h1:=z5v (m:=m) (l:=l) fun y hy=>h y (by simp [hy])
  have h2:=h x (by simp)
  simp only [szL,List.length_cons,Nat.add_mul]; omega
theorem RB.rok {r:Rule}(h:RB r):ROk r:=by have:=h.2.2.1; show r.Right.length≤1048576; omega
section
variable {b:List UInt8}(hb:b.length≤1048576)
include hb
theorem j3g {x:ByteArray}(h:x∈[(⟨#[97]⟩:ByteArray),(⟨#[98]⟩:ByteArray),(⟨#[99]⟩:ByteArray),(⟨#[100]⟩:ByteArray)]):x.size≤8:=by
 simp only [List.mem_cons,List.not_mem_nil,or_false] at h
 rcases h with h | h | h | h<;>rw [h]<;>decide
theorem j1J {nm:ByteArray}(hn:nm.size≤8)(a2 a3:Bool){i h:Int}(hi:0≤i):Dr b SB (q7y nm a2 a3 ⟨b,i,h⟩):=by
 unfold q7y
 refine drK (q1L hb 4 ⟨hi,rfl⟩) fun y i1 h1 hy hi1=>?_
 have h4:=hy.2.1 (by omega)
 refine .grd (by constructor<;>omega) ?_
 refine z6E (fun k l=>l.length=k∧∀ a∈l,a.Name.size≤8) hi1 ⟨rfl,by simp⟩ (fun k s1 s2 s3 hk hs1 hs=>?_) fun s1 i2 h2 p1 hs=>?_
 ·obtain⟨hs2,hs3⟩:=hs
  unfold z2Z
  dsimp only
  refine .bbi (.get (by simp; omega) fun x1 hx1=>?_)
  have hx1:=j3g hb hx1
  have fin:∀ (t m:Int) (i' h' : Int),0≤i'→Ok (fun s:Int × Int × List Attribute=>0≤s.1∧(s.2.2.length=k+1∧∀ a∈s.2.2,a.Name.size≤8)) (some (i',h',s1++[(⟨x1,t,m,false⟩:Attribute)])):=fun t m i' h' hi'=>by
   refine .ret ⟨hi',by simp [hs2],fun a ha=>?_⟩
   simp only [List.mem_append,List.mem_cons,List.not_mem_nil,or_false] at ha
   rcases ha with ha | ha
   ·exact hs3 a ha
   ·rw [ha]; exact hx1
  refine .bbi (drK (q5i hb (by simp) ⟨hs1,rfl⟩) fun t i2 h2 _ hi2=>?_)
  refine .bbi (drK (q5i hb (by simp) ⟨hi2,rfl⟩) fun m i3 h3 _ hi3=>?_)
  cases a2<;>cases a3<;>dsimp only
  all_goals
   repeat' first
    | ((with_reducible refine .bso ?_); try dsimp only)
    | (with_reducible exact fin _ _ _ _ (by assumption))
    | ((with_reducible refine .bbi ?_); try dsimp only)
    | (with_reducible refine .bif (fun _=>?_) fun _=>?_)
    | (with_reducible refine .ite (fun _=>?_) fun _=>?_)
    | ((with_reducible refine drK (q5f hb _ (cb (by assumption))) fun _ _ _ _ _=>?_); try dsimp only)
    | ((with_reducible refine drK (q5i hb (by simp) (cb (by assumption))) fun _ _ _ _ _=>?_); try dsimp only)
    | ((with_reducible refine drK (q1L hb _ (cb (by assumption))) fun _ _ _ _ _=>?_); try dsimp only)
    | (refine .bgr (by constructor<;>omega) ?_)
    | (refine .grd (by constructor<;>omega) ?_)
 ·obtain⟨p2,p3⟩:=hs
  dsimp only
  exact Dr.re ⟨hn,by dsimp only; omega,by dsimp only; omega,p3⟩ p1
end
end Go.Proofs.YtiojgbiimbefiabGreat
namespace Go.Proofs.YtiojgbiimbefiabGreat
open Go Go.E
theorem z4n {g:Grammar}(h:SBs g.Symbols)(nm:ByteArray):(q5H g nm).1.Attributes.length≤5∧∀ a∈(q5H g nm).1.Attributes,a.Name.size≤8:=by
 unfold q5H
 split
 ·rename_i y hy
  have:=h.2.2 y (List.mem_of_find?_eq_some hy)
  exact⟨this.2.2.1,this.2.2.2⟩
 ·exact⟨by simp [zS],by simp [zS]⟩
theorem j1g {y:Symbol}(h:∀ a∈y.Attributes,a.Name.size≤8)(nm:ByteArray):q2T y nm=some (z2l y nm):=by
 unfold q2T z2l
 rw [q7N (p:=fun a=>decide (a.Name=nm)) (r:=fun a=>(a,true)) fun k x _=>⟨fun hp=>by unfold q5O; rw [if_pos (by simpa using hp)],fun hp=>by unfold q5O; rw [if_neg (by simpa using hp)]⟩]
 cases y.Attributes.find? fun a=>decide (a.Name=nm)<;>rfl
theorem SBs.g {g:Grammar}(h:SBs g.Symbols):GOk g:=fun y hy=>by have:=(h.2.2 y hy).2.2.1; omega
theorem j1h {g:Grammar}(hs:SBs g.Symbols){r:Rule}(hr:r.Right.length≤5)(k:Int):Ok (fun q=>∀ o∈q,o.Name.size≤8) (q5W g r k):=by
 unfold q5W
 refine Ok.bind (Q:=fun q=>∀ o∈q,o.Name.size≤8) (z4m (P:=fun s:List Occurrence × Int=>0≤s.2∧s.2≤r.Right.length+1∧(s.1.length:Int)≤5*s.2∧∀ o∈s.1,o.Name.size≤8) (fun s=>(r.Right.length+1 - s.2).toNat) ?_ _ ⟨by simp,by simp; omega,by simp,by simp⟩) fun q hq=>.ret hq
 rintro⟨q,p⟩ ⟨h1,h2,h3,h4⟩
 dsimp only at h1 h2 h3 h4
 unfold z4X
 dsimp only
 refine .ite (fun hp=>?_) fun _=>.ret h4
 refine .eq (z0C (show r.Right.length≤1048576 by omega) p) ?_
 refine .eq (q8S hs.g _) ?_
 have hff:=z4n hs (q5I r p)
 generalize q5H g (q5I r p)=fs at hff
 obtain⟨y,yb⟩:=fs
 obtain⟨f1,f2⟩:=hff
 dsimp only at f1 f2 ⊢
 refine Ok.bind (Q:=fun q'=>q'.length≤q.length+5∧∀ o∈q',o.Name.size≤8) ((z4f (P:=fun k q'=>q'.length≤q.length+k∧∀ o∈q',o.Name.size≤8) (i:=0) ⟨by omega,h4⟩ ?_).mono fun q' hq=>⟨by omega,hq.2⟩) fun q' hq=>.grd (by constructor<;>omega) (.ret ⟨⟨by dsimp only; omega,by dsimp only; omega,by dsimp only; omega,hq.2⟩,by dsimp only; omega⟩)
 intro j a l ha _ hj hl
 have hl1:=hl.1
 have hl2:=hl.2
 have ha:=f2 a ha
 unfold z4W
 dsimp only
 have e1:Ok (fun q' : List Occurrence=>q'.length≤q.length+(j+1)∧∀ o∈q',o.Name.size≤8) (some l):=.ret ⟨by omega,hl2⟩
 have e2:Ok (fun q' : List Occurrence=>q'.length≤q.length+(j+1)∧∀ o∈q',o.Name.size≤8) (some (l++[(⟨p,a.Name⟩:Occurrence)])):=.ret ⟨by simp; omega,fun o ho=>by
  simp only [List.mem_append,List.mem_cons,List.not_mem_nil,or_false] at ho
  rcases ho with ho | ho
  ·exact hl2 o ho
  ·rw [ho]; exact ha⟩
 have hb:([]:List UInt8).length≤1048576:=by simp
 repeat' first
  | ((with_reducible refine .bso ?_); try dsimp only)
  | (with_reducible exact e1)
  | (with_reducible exact e2)
  | ((with_reducible refine .bbi ?_); try dsimp only)
  | (with_reducible refine .bif (fun _=>?_) fun _=>?_)
  | (with_reducible refine .ite (fun _=>?_) fun _=>?_)
  | ((with_reducible refine drK (q5f hb _ (cb (by assumption))) fun _ _ _ _ _=>?_); try dsimp only)
  | ((with_reducible refine drK (q5i hb (by simp) (cb (by assumption))) fun _ _ _ _ _=>?_); try dsimp only)
  | ((with_reducible refine drK (q1L hb _ (cb (by assumption))) fun _ _ _ _ _=>?_); try dsimp only)
  | (refine .bgr (by constructor<;>omega) ?_)
  | (refine .grd (by constructor<;>omega) ?_)
theorem j3r (a:Int):Ok (fun _=>True) (q2r a):=by
 unfold q2r
 rw [z7s,Option.bind_some,z7s,Option.bind_some]
 repeat' first
  | exact .ret trivial
  | refine .ite (fun _=>?_) fun _=>?_
theorem j3s (a:Int)(x y:Expr):q6O a x y=some (⟨4,a,0,0,(⟨#[]⟩:ByteArray),(⟨#[]⟩:ByteArray),[x,y]⟩:Expr):=rfl
theorem j2E (g:Grammar)(r:Rule)(rem:Bool):∀ (m n1 n2:Nat),m < n1→m < n2→∀ (k d:Int) (o:l1Cur),d≤m+1→q2I n1 g r k d rem o=q2I n2 g r k d rem o:=by
 intro m
 induction m with
 | zero=>
  intro n1 n2 h1 h2 k d o hd
  obtain⟨n1,rfl⟩:∃ q,n1=q+1:=⟨n1 - 1,by omega⟩
  obtain⟨n2,rfl⟩:∃ q,n2=q+1:=⟨n2 - 1,by omega⟩
  show q3i (q2I n1) g r k d rem o=q3i (q2I n2) g r k d rem o
  unfold q3i
  simp only [if_pos (show d < 2 by omega),Option.bind_some,if_true]
 | succ m ih=>
  intro n1 n2 h1 h2 k d o hd
  obtain⟨n1,rfl⟩:∃ q,n1=q+1:=⟨n1 - 1,by omega⟩
  obtain⟨n2,rfl⟩:∃ q,n2=q+1:=⟨n2 - 1,by omega⟩
  show q3i (q2I n1) g r k d rem o=q3i (q2I n2) g r k d rem o
  have h:∀ k o,q2I n1 g r k (d - 1) rem o=q2I n2 g r k (d - 1) rem o:=fun k o=>ih n1 n2 (by omega) (by omega) k (d - 1) o (by omega)
  unfold q3i
  simp only [h]
section
variable {b:List UInt8}(hb:b.length≤1048576)
include hb
theorem j1i {g:Grammar}(hs:SBs g.Symbols){r:Rule}(hr:r.Right.length≤5)(rem:Bool):∀ (m n:Nat),m < n→∀ (k d i h:Int),d≤m+1→-1000+m≤d→d≤1000→0≤i→Dr b (fun e=>Sz.szd e≤fb m) (q2I n g r k d rem ⟨b,i,h⟩):=by
 intro m
 induction m with
 | zero=>
  intro n hn k d i h hd hd0 hd1 hi
  obtain⟨n,rfl⟩:∃ q,n=q+1:=⟨n - 1,by omega⟩
  show Dr b _ (q3i (q2I n) g r k d rem ⟨b,i,h⟩)
  unfold q3i
  rw [if_pos (show d < 2 by omega)]
  dsimp only
  rw [Option.bind_some]
  dsimp only
  rw [if_pos rfl]
  unfold Dr
  have hf:=z3r hb 0
  repeat' first
   | ((with_reducible refine .bso ?_); try dsimp only)
   | ((with_reducible refine .bind (j1h hs hr _) fun _ _=>?_))
   | ((with_reducible refine drK (z0A hb _ (by assumption) (cb (by assumption))) fun _ _ _ _ _=>?_); try dsimp only)
   | ((with_reducible refine .bbi ?_); try dsimp only)
   | (with_reducible refine .bif (fun _=>?_) fun _=>?_)
   | (with_reducible refine .ite (fun _=>?_) fun _=>?_)
   | ((with_reducible refine drK (q5f hb _ (cb (by assumption))) fun _ _ _ _ _=>?_); try dsimp only)
   | ((with_reducible refine drK (q5i hb (by simp) (cb (by assumption))) fun _ _ _ _ _=>?_); try dsimp only)
   | ((with_reducible refine drK (q1L hb _ (cb (by assumption))) fun _ _ _ _ _=>?_); try dsimp only)
   | (refine .bgr (by constructor<;>omega) ?_)
   | (refine .grd (by constructor<;>omega) ?_)
  all_goals refine⟨_,rfl,?_,by assumption,rfl⟩
  all_goals dsimp only
  all_goals first
   | (rw [z3q hb,q6C hb]; omega)
   | omega
 | succ m ih=>
  intro n hn k d i h hd hd0 hd1 hi
  obtain⟨n,rfl⟩:∃ q,n=q+1:=⟨n - 1,by omega⟩
  have hr1:∀ k i h,0≤i→Dr b (fun e=>Sz.szd e≤fb m) (q2I n g r k (d - 1) rem ⟨b,i,h⟩):=fun k i h hi=>ih n (by omega) k (d - 1) i h (by omega) (by omega) (by omega) hi
  show Dr b _ (q3i (q2I n) g r k d rem ⟨b,i,h⟩)
  unfold q3i Dr
  dsimp only
  have hl:=hs.1
  have hf:=z3r hb m
  have hg:=z9F hb m
  have hid:I64 (d - 1):=by constructor<;>omega
  repeat' first
   | ((with_reducible refine .bso ?_); try dsimp only)
   | ((with_reducible refine .bind (j1h hs hr _) fun _ _=>?_))
   | ((with_reducible refine drK (z0A hb _ (by assumption) (cb (by assumption))) fun _ _ _ _ _=>?_); try dsimp only)
   | ((with_reducible refine drK (hr1 _ _ _ (by assumption)) fun _ _ _ _ _=>?_); try dsimp only)
   | ((with_reducible refine .bind (j3r _) fun _ _=>?_); try dsimp only)
   | ((with_reducible refine .eq (j3s _ _ _) ?_); try dsimp only)
   | ((with_reducible refine .grd hid ?_))
   | ((with_reducible refine .grd (by omega) ?_))
   | ((with_reducible refine .get (l:=g.Symbols) (by omega) fun x hx=>?_); obtain⟨_,_,_,hat⟩:=hs.2.2 x hx)
   | ((with_reducible refine .get (by omega) fun x hx=>?_); have hxn:=hat x hx)
   | ((with_reducible refine .bbi ?_); try dsimp only)
   | (with_reducible refine .bif (fun _=>?_) fun _=>?_)
   | (with_reducible refine .ite (fun _=>?_) fun _=>?_)
   | ((with_reducible refine drK (q5f hb _ (cb (by assumption))) fun _ _ _ _ _=>?_); try dsimp only)
   | ((with_reducible refine drK (q5i hb (by simp) (cb (by assumption))) fun _ _ _ _ _=>?_); try dsimp only)
   | ((with_reducible refine drK (q1L hb _ (cb (by assumption))) fun _ _ _ _ _=>?_); try dsimp only)
   | (refine .bgr (by constructor<;>omega) ?_)
   | (refine .grd (by constructor<;>omega) ?_)
  all_goals refine⟨_,rfl,?_,by assumption,rfl⟩
  all_goals dsimp only at *
  all_goals first
   | (rw [z3q hb,q6C hb]; omega)
   | (rw [j1H hb]; omega)
   | (rw [z9E hb,q6C hb]; omega)
   | (rw [z7r hb,q6C hb]; omega)
   | omega
theorem j2F {g:Grammar}(hs:SBs g.Symbols){r:Rule}(hr:r.Right.length≤5)(rem:Bool)(k d i h:Int)(h0:0≤d)(h3:d≤3)(hi:0≤i):Dr b (fun e=>Sz.szd e≤320) (z0o g r k d rem ⟨b,i,h⟩):=
 z9D (N:=3) (fun n hn=>j2E g r rem 2 (n+1) n (by omega) (by omega) k d _ (by omega)) (j1i hb hs hr rem 2 3 (by omega) k d i h (by omega) (by omega) (by omega) hi)
end
end Go.Proofs.YtiojgbiimbefiabGreat
namespace Go.Proofs.YtiojgbiimbefiabGreat
open Go Go.E
theorem z7x {α β:Type}{f:α→List β}{C:Nat}(h:∀ x,(f x).length≤C):∀ l:List α,(l.flatMap f).length≤l.length*C
 | []=>by simp
 | x :: l=>by
  have h1:=z7x h l
  have h2:=h x
  simp only [List.flatMap_cons,List.length_append,List.length_cons,Nat.add_mul]; omega
theorem j0a {g:Grammar}(hs:SBs g.Symbols)(r:Rule)(k:Nat):(reqK g r k).length≤5∧∀ o∈reqK g r k,o.Name.size≤8:=by
 obtain⟨f1,f2⟩:=z4n hs (q5I r (k:Int))
 unfold reqK
 refine⟨by rw [List.length_map]; exact Nat.le_trans (List.length_filter_le _ _) f1,fun o ho=>?_⟩
 obtain⟨a,ha,rfl⟩:=List.mem_map.1 ho
 exact f2 a (List.mem_filter.1 ha).1
theorem j2G {g:Grammar}(hs:SBs g.Symbols){r:Rule}(hr:r.Right.length≤5):(reqL g r).length≤30∧∀ o∈reqL g r,o.Name.size≤8:=by
 unfold reqL
 refine⟨?_,fun o ho=>?_⟩
 ·have:=z7x (C:=5) (fun k=>(j0a hs r k).1) (List.range' 0 (r.Right.length+1))
  rw [List.length_range'] at this
  omega
 ·obtain⟨k,_,hk⟩:=List.mem_flatMap.1 ho
  exact (j0a hs r k).2 o hk
theorem z0g {α:Type}[Sz α](l:List α)(x:α):szL (l++[x])=szL l+(1+Sz.szd x):=by rw [z0h]; rfl
theorem z5w (o:Occurrence)(e:Expr):Sz.szd (⟨o,e⟩:Equation)=o.Name.size+Sz.szd e:=by rw [z0N,q3f]; dsimp only; omega
theorem j1K (s m:ByteArray)(e f:Expr):Sz.szd (⟨s,m,e,f⟩:Contribution)=s.size+m.size+Sz.szd e+Sz.szd f:=by rw [q8d,q3f,q3f]; dsimp only; omega
section
variable {b:List UInt8}(hb:b.length≤1048576)
include hb
theorem j2H {g:Grammar}(hs:SBs g.Symbols){r:Rule}(hr:RB r)(he:r.Equations=[])(rem:Bool){i h:Int}(hi:0≤i):Dr b (fun q=>RB q∧szL q.Equations≤12000∧q.Contributions=r.Contributions) (q7C g r rem ⟨b,i,h⟩):=by
 have h5:=hr.2.2.1
 obtain⟨q1,q2⟩:=j2G hs h5
 unfold q7C
 refine .eq (z6x hs.g hr.rok) ?_
 refine j2D (fun j (l:List Equation)=>l.length=j∧szL l≤j*400) hi (by rw [he]; exact⟨rfl,by simp [szL]⟩) (fun j x l i h hx hj hi hl=>?_) fun l i h hi hl=>?_
 ·obtain⟨hl1,hl2⟩:=hl
  have hx:=q2 x hx
  have fin:∀ (e:Expr) (i' h' : Int),Sz.szd e≤320→0≤i'→Ok (fun s:Int × Int × List Equation=>0≤s.1∧(s.2.2.length=j+1∧szL s.2.2≤(j+1)*400)) (some (i',h',l++[(⟨x,e⟩:Equation)])):=fun e i' h' h1 hi'=>.ret ⟨hi',by simp [hl1],by dsimp only; rw [z0g,z5w]; omega⟩
  unfold z1K
  dsimp only
  refine .bbi (.eq (z0C (show r.Right.length≤1048576 by omega) _) ?_)
  refine .bbi (.eq (q8S hs.g _) ?_)
  have hff:=z4n hs (q5I r x.Pos)
  generalize q5H g (q5I r x.Pos)=fs at hff
  obtain⟨y,yb⟩:=fs
  obtain⟨f1,f2⟩:=hff
  dsimp only at f1 f2 ⊢
  refine .bbi (.eq (j1g f2 _) ?_)
  generalize z2l y x.Name=fa
  obtain⟨a,ab⟩:=fa
  dsimp only
  refine .bbi (drK (q1L hb 3 (cb hi)) fun d i1 h1 hd hi1=>?_)
  have hd3:=hd.2.1 (by omega)
  refine .bgr (by constructor<;>omega) ?_
  refine .bbi (drK (j2F hb hs (r:=⟨r.Name,r.Left,r.Right,r.Literal,l,r.Contributions⟩) h5 rem _ _ _ _ (by omega) (by omega) hi1) fun e i2 h2 he2 hi2=>?_)
  dsimp only at he2 ⊢
  refine .bbi (.eq (z0d (by have:=z9H hb he2; omega)) ?_)
  refine .bif (fun _=>?_) fun _=>?_
  ·refine .bgr (by constructor<;>omega) ?_
   exact fin _ _ _ he2 hi2
  ·refine .bbi (drK (z0A hb _ (by simp) (cb hi2)) fun e3 i3 h3 he3 hi3=>?_)
   refine .bgr (by constructor<;>omega) ?_
   exact fin _ _ _ (by show Sz.szd e3≤320; have:Sz.szd e3≤8:=he3; omega) hi3
 ·exact⟨_,rfl,⟨hr,by have:=hl.2; dsimp only; omega,rfl⟩,hi,rfl⟩
theorem j3h {g:Grammar}(hs:SBs g.Symbols){r:Rule}(hr:RB r)(hc:r.Contributions=[]){i h:Int}(hi:0≤i):Dr b (fun q=>RB q∧q.Equations=r.Equations∧szL q.Contributions≤200) (q8p g r ⟨b,i,h⟩):=by
 have h5:=hr.2.2.1
 unfold q8p
 refine j2D (fun _ (l:List Contribution)=>l.length≤2∧szL l≤l.length*40) hi (by rw [hc]; simp [szL]) (fun j x l i h hx hj hi hl=>?_) fun l i h hi hl=>?_
 ·obtain⟨s1,_,_,s2⟩:=hs.2.2 x hx
  unfold z3c
  dsimp only
  refine j2D (fun _ (l:List Contribution)=>l.length≤2∧szL l≤l.length*40) hi hl (fun j2 a l i h ha hj hi hl=>?_) fun l i h hi hl=>.ret ⟨hi,hl⟩
  have ha:=s2 a ha
  unfold z3b
  dsimp only
  refine .bbi ?_
  refine .bif (fun _=>.bso ?_) fun _=>.bso ?_
  ·refine .bbi ?_
   refine .bif (fun h2=>?_) fun _=>.bso ?_
   ·have hl2:l.length < 2:=by have:=of_decide_eq_true h2; omega
    refine .bbi (drK (q5f hb _ (cb hi)) fun y i1 h1 _ hi1=>?_)
    refine .bso ?_
    dsimp only
    refine .bif (fun _=>?_) fun _=>.bso ?_
    ·refine .bbi (.bind (j1h hs (r:=⟨r.Name,r.Left,r.Right,r.Literal,r.Equations,l⟩) h5 _) fun q hq=>?_)
     refine .bbi (drK (z0A hb _ hq (cb hi1)) fun e i2 h2 he hi2=>?_)
     refine .bbi (.bind (j1h hs (r:=⟨r.Name,r.Left,r.Right,r.Literal,r.Equations,l⟩) h5 _) fun q3 hq3=>?_)
     refine .bbi (drK (z0A hb _ hq3 (cb hi2)) fun e3 i3 h3 he3 hi3=>?_)
     refine .bgr (by constructor<;>omega) ?_
     refine .bso (.ret ⟨hi3,by dsimp only; simp; omega,?_⟩)
     dsimp only at he he3 ⊢
     rw [z0g,j1K,List.length_append,List.length_singleton]
     have:=hl.2
     omega
    ·exact .ret ⟨hi1,hl⟩
   ·dsimp only
    refine .bif (fun h=>by cases h) fun _=>.bso (.ret ⟨hi,hl⟩)
  ·refine .bbi ?_
   refine .bif (fun h=>by cases h) fun _=>.bso ?_
   dsimp only
   refine .bif (fun h=>by cases h) fun _=>.bso (.ret ⟨hi,hl⟩)
 ·refine⟨_,rfl,⟨hr,rfl,?_⟩,hi,rfl⟩
  have:=hl.1
  have:=hl.2
  dsimp only
  have h80:l.length*40≤80:=by omega
  omega
end
theorem j3i {k:Nat}(hk:k < 2):Ok (fun x=>x.size≤1) (q5g (k:Int)):=by
 have:k=0∨k=1:=by omega
 rcases this with rfl | rfl
 ·exact⟨⟨#[48]⟩,by unfold q5g; rfl,by decide⟩
 ·refine⟨⟨#[49]⟩,?_,by decide⟩
  unfold q5g
  rw [if_neg (by decide)]
  have h1:q6x (((1:Nat):Int),(⟨#[]⟩:ByteArray))=some (.inl (0,⟨#[49]⟩)):=by
   unfold q6x
   dsimp only
   rw [if_neg (by decide),if_neg (by decide),q1j (by constructor<;>decide),q1j (by decide),q1j (by constructor<;>decide)]
   rfl
  have h2:q6x (0,(⟨#[49]⟩:ByteArray))=some (.inr ⟨#[49]⟩):=rfl
  rw [q2R h1,q2g h2]
  rfl
end Go.Proofs.YtiojgbiimbefiabGreat
namespace Go.Proofs.YtiojgbiimbefiabGreat
open Go Go.E
def R0 (r:Rule):Prop:=RB r∧r.Equations=[]∧r.Contributions=[]
def R1 (r:Rule):Prop:=RB r∧szL r.Equations≤12000∧szL r.Contributions≤200
theorem R0.r1 {r:Rule}(h:R0 r):R1 r:=⟨h.1,by rw [h.2.1]; simp [szL],by rw [h.2.2]; simp [szL]⟩
def GB (g:Grammar):Prop:=SBs g.Symbols∧1≤g.Rules.length∧g.Rules.length≤8∧∀ r∈g.Rules,R1 r
theorem stu {x:ByteArray}{n:Nat}(h:x∈[(⟨#[115]⟩:ByteArray),(⟨#[116]⟩:ByteArray),(⟨#[117]⟩:ByteArray)].take n):x.size=1:=by
 have h:=List.mem_of_mem_take h
 simp only [List.mem_cons,List.not_mem_nil,or_false] at h
 rcases h with h | h | h<;>rw [h]<;>rfl
theorem bsz (x y:ByteArray):(x++y).size=x.size+y.size:=ByteArray.size_append
section
variable {b:List UInt8}(hb:b.length≤1048576)
include hb
theorem j0b (pl:Bool){i h:Int}(hi:0≤i):Dr b GB (q7D pl ⟨b,i,h⟩):=by
 unfold q7D
 refine drK (q1L hb 3 (cb hi)) fun y i1 h1 hy hi1=>?_
 have h3:=hy.2.1 (by omega)
 have h0:=hy.1
 dsimp only
 refine .grd (by constructor<;>omega) (.grd (by omega) (.grd (by simp; omega) ?_))
 have hlen:([(⟨#[115]⟩:ByteArray),(⟨#[116]⟩:ByteArray),(⟨#[117]⟩:ByteArray)].take ((1+y).toNat)).length=(1+y).toNat:=by rw [List.length_take]; simp; omega
 refine z6E (fun k (l:List Symbol)=>l.length=k∧∀ s∈l,SB s) hi1 ⟨rfl,by simp⟩ (fun j l i h hj hi hl=>?_) fun syms i2 h2 hi2 hsyms=>?_
 ·unfold z1L
  dsimp only
  refine .get (by rw [hlen]; exact hj) fun x hx=>?_
  have hx:=stu hx
  refine drK (j1J hb (by omega) _ _ hi) fun s i1 h1 hs hi1=>?_
  refine .grd (by have:=hl.1; constructor<;>omega) (.ret ⟨hi1,by simp [hl.1],fun a ha=>?_⟩)
  simp only [List.mem_append,List.mem_cons,List.not_mem_nil,or_false] at ha
  rcases ha with ha | ha
  ·exact hl.2 a ha
  ·rw [ha]; exact hs
 have hS:SBs syms:=⟨by rw [hsyms.1]; omega,by rw [hsyms.1]; omega,hsyms.2⟩
 dsimp only
 refine z6E (fun k (l:List Rule)=>k≤l.length∧l.length≤3*k∧∀ r∈l,R0 r) hi2 ⟨by simp,by simp,by simp⟩ (fun j l i h hj hi hl=>?_) fun rules i3 h3 hi3 hr=>?_
 ·unfold z1O
  dsimp only
  refine .get (by rw [hlen]; exact hj) fun x hx=>?_
  have hx:=stu hx
  refine .grd (by rw [hx]; decide) ?_
  refine drK (q5f hb _ (cb hi)) fun y3 i1 h1 _ hi1=>?_
  have hl1:=hl.1
  have hl2:=hl.2.1
  refine .grd (by constructor<;>omega) ?_
  refine drK (q1L hb 2 (cb hi1)) fun y4 i4 h4 hy4 hi4=>?_
  have h42:=hy4.2.1 (by omega)
  have h40:=hy4.1
  refine .grd (by constructor<;>omega) ?_
  dsimp only
  refine z6E (fun k (q:List Rule)=>q.length=l.length+1+k∧∀ r∈q,R0 r) hi4 ⟨by simp,fun a ha=>?_⟩ (fun j2 q i h hj2 hi hq=>?_) fun q i6 h6 hi6 hq=>?_
  ·simp only [List.mem_append,List.mem_cons,List.not_mem_nil,or_false] at ha
   rcases ha with ha | ha
   ·exact hl.2.2 a ha
   ·rw [ha]
    exact⟨⟨by dsimp only; rw [bsz,hx]; decide,by dsimp only; omega,by simp,by simp⟩,rfl,rfl⟩
  ·unfold z1N
   dsimp only
   refine .grd (by rw [hx]; decide) ?_
   refine .bind (j3i (by omega)) fun nm hnm=>?_
   refine .grd (by rw [bsz,hx]; have:(⟨#[112]⟩:ByteArray).size=1:=rfl; omega) ?_
   refine drK (q5f hb _ (cb hi)) fun y6 i1 h1 _ hi1=>?_
   refine drK (q1L hb 3 (cb hi1)) fun y7 i7 h7 hy7 hi7=>?_
   have h72:=hy7.2.1 (by omega)
   have h70:=hy7.1
   refine .grd (by constructor<;>omega) ?_
   dsimp only
   refine z6E (fun k (q:List ByteArray)=>q.length=k∧∀ x∈q,x.size≤8) hi7 ⟨rfl,by simp⟩ (fun j4 q4 i h hj4 hi hq4=>?_) fun q4 i8 h8 hi8 hq4=>?_
   ·unfold z1M
    dsimp only
    refine drK (q7a hb (by intro h; have:=congrArg List.length h; rw [hlen] at this; simp at this; omega) (cb hi)) fun z i1 h1 hz hi1=>?_
    have hz:=stu hz
    refine .grd (by have:=hq4.1; constructor<;>omega) (.ret ⟨hi1,by simp [hq4.1],fun a ha=>?_⟩)
    simp only [List.mem_append,List.mem_cons,List.not_mem_nil,or_false] at ha
    rcases ha with ha | ha
    ·exact hq4.2 a ha
    ·rw [ha]; omega
   ·have hq41:=hq4.1
    have hq1:=hq.1
    refine .grd (by constructor<;>omega) (.ret ⟨hi8,by simp; omega,fun a ha=>?_⟩)
    simp only [List.mem_append,List.mem_cons,List.not_mem_nil,or_false] at ha
    rcases ha with ha | ha
    ·exact hq.2 a ha
    ·rw [ha]
     exact⟨⟨by dsimp only; rw [bsz,bsz,hx]; have:(⟨#[112]⟩:ByteArray).size=1:=rfl; omega,by dsimp only; omega,by dsimp only; omega,hq4.2⟩,rfl,rfl⟩
  ·exact .ret ⟨hi6,by dsimp only; have:=hq.1; omega,by dsimp only; have:=hq.1; omega,hq.2⟩
 dsimp only
 have hr1:=hr.1
 have hr2:=hr.2.1
 have key:∀ rs:List Rule,1≤rs.length→rs.length≤8→(∀ r∈rs,R0 r)→Ok (fun r=>GB r.1∧CB b r.2) ((q3D (q9r pl ⟨b,i,h⟩ syms) (0,i3,h3,rs)).bind fun (s14,s15,s16)=>some ((⟨syms,s16⟩:Grammar),(⟨b,s14,s15⟩:l1Cur))):=by
  intro rs g1 g2 g3
  refine Ok.bind (Q:=fun s:Int × Int × List Rule=>0≤s.1∧s.2.2.length=rs.length∧∀ r∈s.2.2,R1 r) (z4m (P:=fun s:Int × Int × Int × List Rule=>0≤s.1∧s.1≤rs.length∧0≤s.2.1∧s.2.2.2.length=rs.length∧∀ (k:Nat) x,s.2.2.2[k]? = some x→R1 x∧(s.1≤(k:Int)→R0 x)) (fun s=>(rs.length - s.1).toNat) ?_ _ ⟨Int.le_refl _,by dsimp only; omega,hi3,rfl,fun k x hx=>⟨(g3 x (List.mem_of_getElem? hx)).r1,fun _=>g3 x (List.mem_of_getElem? hx)⟩⟩) ?_
  ·rintro⟨p,i5,h5,q⟩ ⟨a1,a2,a3,a4,a5⟩
   dsimp only at a1 a2 a3 a4 a5
   unfold q9r
   dsimp only
   refine .ite (fun hp=>?_) fun _=>.ret ⟨a3,a4,fun r hr=>?_⟩
   ·obtain⟨x,hx⟩:∃ x,q[p.toNat]? = some x:=⟨_,List.getElem?_eq_getElem (by omega)⟩
    have hx0:=(a5 _ _ hx).2 (by omega)
    rw [hx]
    have fin:∀ (y:Rule) (i' h' : Int),R1 y→0≤i'→(0≤p+1∧p+1≤rs.length∧0≤i'∧(List.set q p.toNat y).length=rs.length∧∀ (k:Nat) x,(List.set q p.toNat y)[k]? = some x→R1 x∧(p+1≤(k:Int)→R0 x))∧(rs.length - (p+1)).toNat < (rs.length - p).toNat:=fun y i' h' hy hi'=>by
     refine⟨⟨by omega,by omega,hi',by rw [List.length_set]; exact a4,fun k x hk=>?_⟩,by omega⟩
     rw [List.getElem?_set] at hk
     by_cases e:p.toNat=k
     ·rw [if_pos e] at hk
      split at hk
      ·cases hk; exact⟨hy,fun h=>by omega⟩
      ·cases hk
     ·rw [if_neg e] at hk
      exact⟨(a5 _ _ hk).1,fun h=>(a5 _ _ hk).2 (by omega)⟩
    refine .bgr a1 (.bbi (.bso ?_))
    refine .bbi (drK (j2H hb (g:=⟨syms,q⟩) hS hx0.1 hx0.2.1 _ a3) fun y i6 h6 hy hi6=>?_)
    obtain⟨b1,b2,b3⟩:=hy
    rw [hx0.2.2] at b3
    dsimp only
    refine .bif (fun _=>.bso ?_) fun _=>?_
    ·exact .grd (by constructor<;>omega) (.ret (fin _ _ h6 ⟨b1,b2,by rw [b3]; simp [szL]⟩ hi6))
    ·refine .bbi (drK (j3h hb (g:=⟨syms,q⟩) hS b1 b3 hi6) fun y2 i7 h7 hy2 hi7=>?_)
     refine .bso ?_
     exact .grd (by constructor<;>omega) (.ret (fin _ _ h7 ⟨hy2.1,by rw [hy2.2.1]; exact b2,hy2.2.2⟩ hi7))
   ·obtain⟨k,hk⟩:=List.getElem?_of_mem hr
    exact (a5 _ _ hk).1
  ·rintro⟨s1,s2,s3⟩ ⟨c1,c2,c3⟩
   exact⟨_,rfl,⟨hS,by dsimp only at c2 ⊢; omega,by dsimp only at c2 ⊢; omega,c3⟩,c1,rfl⟩
 refine .bif (fun h8=>.bgr (by omega) (.bso ?_)) fun h8=>.bso ?_
 ·exact key _ (by rw [List.length_take]; omega) (by rw [List.length_take]; omega) fun r hr'=>hr.2.2 r (List.mem_of_mem_take hr')
 ·exact key _ (by omega) (by omega) hr.2.2
end
end Go.Proofs.YtiojgbiimbefiabGreat
namespace Go.Proofs.YtiojgbiimbefiabGreat
open Go Go.E
theorem j0c {α:Type}[Sz α](x:α):∀ (l:List α) (j:Nat),szL (l.set j x)≤szL l+Sz.szd x
 | [],_=>by simp [szL]
 | y :: l,0=>by simp only [List.set,szL]; omega
 | y :: l,j+1=>by have:=j0c x l j; simp only [List.set,szL]; omega
theorem j0d {α:Type}[Sz α](l:List α):szL (l.drop 1)≤szL l:=by
 cases l with
 | nil=>simp
 | cons x l=>simp only [List.drop,szL]; omega
theorem z3v (a:Int):∀ (l:List Expr) (i:Nat),(∀ x∈l,∃ v,∀ m,fuE x≤m→q3n m x a=some v)→∃ r,∀ m,(∀ x∈l,fuE x≤m)→findL (q4z (q3n m) a) i l ()=some r
 | [],i,_=>⟨.inl (),fun m _=>rfl⟩
 | x :: l,i,h=>by
  obtain⟨v,hv⟩:=h x (by simp)
  obtain⟨r,hr⟩:=z3v a l (i+1) fun y hy=>h y (by simp [hy])
  cases v with
  | true=>
   refine⟨r,fun m hm=>?_⟩
   have h1:=hr m fun y hy=>hm y (by simp [hy])
   have h2:q4z (q3n m) a i x ()=some (.inl ()):=by unfold q4z; rw [hv m (hm x (by simp))]; rfl
   rw [findL,h2]; exact h1
  | false=>
   refine⟨.inr false,fun m hm=>?_⟩
   have h2:q4z (q3n m) a i x ()=some (.inr false):=by unfold q4z; rw [hv m (hm x (by simp))]; rfl
   rw [findL,h2]; rfl
theorem j0e (e:Expr)(a:Int):∃ v,q7V e a=some v:=by
 have key:∀ e:Expr,∃ v,∀ m,fuE e≤m→q3n m e a=some v:=by
  intro e
  induction e using q7k with
  | h e ih=>
   obtain⟨r,hr⟩:=z3v a e.Args 0 ih
   have:∃ v,∀ m,fuE e≤m+1→q4A (q3n m) e a=some v:=by
    cases r with
    | inl u=>exact⟨_,fun m hm=>by unfold q4A; rw [hr m fun x hx=>by have:=q9l hx; omega]; rfl⟩
    | inr q=>exact⟨_,fun m hm=>by unfold q4A; rw [hr m fun x hx=>by have:=q9l hx; omega]; rfl⟩
   obtain⟨v,hv⟩:=this
   refine⟨v,fun m hm=>?_⟩
   obtain⟨m,rfl⟩:∃ q,m=q+1:=⟨m - 1,by have:=z0b e; omega⟩
   exact hv m hm
 obtain⟨v,hv⟩:=key e
 exact⟨v,q6p (fuE e) hv⟩
def R2 (r:Rule):Prop:=RB r∧szL r.Equations≤60000∧szL r.Contributions≤200
def GC2 (g:Grammar):Prop:=SBs g.Symbols∧1≤g.Rules.length∧g.Rules.length≤8∧∀ r∈g.Rules,R2 r
theorem SB.set {s:Symbol}(h:SB s){x:Attribute}(hx:x.Name.size≤8):SB ⟨s.Name,List.set s.Attributes 0 x⟩:=by
 refine⟨h.1,by dsimp only; rw [List.length_set]; exact h.2.1,by dsimp only; rw [List.length_set]; exact h.2.2.1,fun a ha=>?_⟩
 rcases List.mem_or_eq_of_mem_set ha with ha | ha
 ·exact h.2.2.2 a ha
 ·rw [ha]; exact hx
theorem GC2.set {ss:List Symbol}{rs:List Rule}(h:GC2 ⟨ss,rs⟩)(k:Nat){x:Rule}(hx:R2 x):GC2 ⟨ss,rs.set k x⟩:=by
 refine⟨h.1,by dsimp only; rw [List.length_set]; exact h.2.1,by dsimp only; rw [List.length_set]; exact h.2.2.1,fun a ha=>?_⟩
 rcases List.mem_or_eq_of_mem_set ha with ha | ha
 ·exact h.2.2.2 a ha
 ·rw [ha]; exact hx
section
variable {b:List UInt8}(hb:b.length≤1048576)
include hb
theorem j1j {e:Expr}{n:Nat}(h:Sz.szd e≤n)(hn:n≤1048576)(a:Int):Ok (fun _=>True) (q4O e a):=by
 unfold q4O
 refine .eq (z0d (by have:=z9H hb h; omega)) ?_
 obtain⟨v,hv⟩:=j0e e a
 exact .ite (fun _=>.eq hv (.ret trivial)) fun _=>.ret trivial
theorem j1k {i h:Int}(hi:0≤i):Dr b (fun r=>RB r∧r.Right.length≤3∧szL r.Equations≤1200∧szL r.Contributions≤200) (q8q ⟨b,i,h⟩):=by
 unfold q8q
 refine drK (q7a hb (by simp) (cb hi)) fun y1 i1 h1 hy1 hi1=>?_
 refine drK (q7a hb (by simp) (cb hi1)) fun y2 i2 h2 hy2 hi2=>?_
 refine drK (q5f hb _ (cb hi2)) fun y3 i3 h3 _ hi3=>?_
 refine drK (q1L hb 4 (cb hi3)) fun y4 i4 h4 hy4 hi4=>?_
 have h44:=hy4.2.1 (by omega)
 have h40:=hy4.1
 have n1:y1.size≤8:=by
  simp only [List.mem_cons,List.not_mem_nil,or_false] at hy1
  rcases hy1 with h | h | h<;>subst h<;>(try dsimp only)<;>decide
 have n2:y2.size≤8:=by
  simp only [List.mem_cons,List.not_mem_nil,or_false] at hy2
  rcases hy2 with h | h<;>subst h<;>(try dsimp only)<;>decide
 dsimp only
 refine z6E (fun k (q:List ByteArray)=>q.length=k∧∀ x∈q,x.size≤8) hi4 ⟨rfl,by simp⟩ (fun j4 q4 i h hj4 hi hq4=>?_) fun q4 i8 h8 hi8 hq4=>?_
 ·unfold z3e
  dsimp only
  refine drK (q7a hb (by simp) (cb hi)) fun z i1 h1 hz hi1=>?_
  refine .grd (by have:=hq4.1; constructor<;>omega) (.ret ⟨hi1,by simp [hq4.1],fun a ha=>?_⟩)
  simp only [List.mem_append,List.mem_cons,List.not_mem_nil,or_false] at ha hz
  rcases ha with ha | ha
  ·exact hq4.2 a ha
  ·rw [ha]; rcases hz with h | h | h<;>subst h<;>(try dsimp only)<;>decide
 ·refine drK (q1L hb 4 (cb hi8)) fun y6 i6 h6 hy6 hi6=>?_
  have h64:=hy6.2.1 (by omega)
  dsimp only
  refine z6E (fun k (q:List Equation)=>q.length≤k∧szL q≤k*400) hi6 ⟨by simp,by simp [szL]⟩ (fun j q i h hj hi hq=>?_) fun q i9 h9 hi9 hq=>?_
  ·have hq1:=hq.1
   have hq2:=hq.2
   unfold z3f
   dsimp only
   refine .bbi (drK (q1L hb 3 (cb hi)) fun y7 i7 h7 hy7 hi7=>?_)
   have h73:=hy7.2.1 (by omega)
   have h70:=hy7.1
   refine .bgr (by constructor<;>omega) (.bbi (drK (z9G hb 2 (by omega) (by omega) (by omega) (cb hi7)) fun e i8 h8 he hi8=>?_))
   have he:Sz.szd e≤320:=he
   refine .bbi (.bind (j1j hb he (by omega) y4) fun v _=>?_)
   refine .bif (fun _=>?_) fun _=>.bso (.ret ⟨hi8,Nat.le_trans hq1 (Nat.le_succ _),Nat.le_trans hq2 (Nat.mul_le_mul_right 400 (Nat.le_succ j))⟩)
   refine .bgr (by constructor<;>omega) (.bbi (drK (q1L hb _ (cb hi8)) fun y10 i9 h9 _ hi9=>?_))
   refine .bbi (drK (z6v hb (cb hi9)) fun nm i10 h10 hnm hi10=>?_)
   refine .bgr (by constructor<;>omega) (.bso (.ret ⟨hi10,by dsimp only; simp; omega,?_⟩))
   dsimp only
   rw [z0g,z5w]
   have hnm:nm.size=1:=hnm
   dsimp only
   omega
  ·have hq2:=hq.2
   have hR:RB ⟨y1,y2,q4,y3,q,[]⟩:=⟨n1,n2,by have:=hq4.1; dsimp only; omega,hq4.2⟩
   refine drK (q5f hb _ (cb hi9)) fun y12 i12 h12 _ hi12=>?_
   refine .ite (fun _=>?_) fun _=>⟨_,rfl,⟨hR,by have:=hq4.1; dsimp only; omega,by dsimp only; omega,by simp [szL]⟩,hi12,rfl⟩
   refine drK (q1L hb _ (cb hi12)) fun y13 i13 h13 _ hi13=>?_
   refine .eq rfl ?_
   refine .grd (by simp only [List.length_nil]; constructor<;>omega) ⟨_,rfl,⟨hR,by have:=hq4.1; dsimp only; omega,by dsimp only; omega,?_⟩,hi13,rfl⟩
   dsimp only
   rw [List.nil_append]
   show 1+Sz.szd (⟨(⟨#[115]⟩:ByteArray),(⟨#[99]⟩:ByteArray),_,_⟩:Contribution)+0≤200
   rw [j1K,z3q hb,z3q hb,q6C hb]
   decide
theorem j1l {i h:Int}(hi:0≤i):Dr b R2 (q8s ⟨b,i,h⟩):=by
 unfold q8s
 refine drK (j1k hb hi) fun r i1 h1 hr hi1=>?_
 obtain⟨r1,r2,r3,r4⟩:=hr
 refine drK (q1L hb 12 (cb hi1)) fun y2 i2 h2 _ hi2=>?_
 dsimp only
 refine .ite (fun _=>?_) fun _=>.ite (fun _=>?_) fun _=>.ite (fun _=>?_) fun _=>.ite (fun _=>?_) fun _=>.ite (fun _=>?_) fun _=>?_
 ·refine drK (q7a hb (by simp) (cb hi2)) fun z i3 h3 hz hi3=>⟨_,rfl,⟨⟨?_,r1.2.1,r1.2.2.1,r1.2.2.2⟩,by dsimp only; omega,r4⟩,hi3,rfl⟩
  simp only [List.mem_cons,List.not_mem_nil,or_false] at hz
  rcases hz with h | h | h<;>subst h<;>(try dsimp only)<;>decide
 ·refine .grd (by simp only [List.length_cons,List.length_nil]; constructor<;>omega) ⟨_,rfl,⟨⟨r1.1,r1.2.1,by simp; omega,fun x hx=>?_⟩,by dsimp only; omega,r4⟩,hi2,rfl⟩
  simp only [List.mem_append,List.mem_cons,List.not_mem_nil,or_false] at hx
  rcases hx with h | h | h
  ·exact r1.2.2.2 x h
  ·rw [h]; decide
  ·rw [h]; decide
 ·refine drK (q1L hb 5 (cb hi2)) fun y4 i4 h4 hy4 hi4=>?_
  have h40:=hy4.1
  have h44:=hy4.2.1 (by omega)
  refine .grd (by constructor<;>omega) ?_
  refine drK (j2w hb (cb hi4)) fun e i5 h5 he hi5=>?_
  have he:Sz.szd e≤30000:=he
  have hl:=q3L r.Equations
  refine .grd (by constructor<;>omega) ⟨_,rfl,⟨r1,?_,r4⟩,hi5,rfl⟩
  dsimp only
  rw [z0g,z5w]
  have:(⟨#[97]⟩:ByteArray).size=1:=rfl
  dsimp only
  omega
 ·exact⟨_,rfl,⟨⟨r1.1,by dsimp only; decide,r1.2.2.1,r1.2.2.2⟩,by dsimp only; omega,r4⟩,hi2,rfl⟩
 ·refine .grd (by constructor<;>omega) ?_
  refine drK (q1L hb _ (cb hi2)) fun y6 i6 h6 hy6 hi6=>?_
  have h60:=hy6.1
  have h61:=hy6.2.1 (by omega)
  refine .grd h60 (.grd (by omega) ⟨_,rfl,⟨⟨r1.1,r1.2.1,by dsimp only; rw [List.length_take]; omega,fun x hx=>r1.2.2.2 x (List.mem_of_mem_take hx)⟩,by dsimp only; omega,r4⟩,hi6,rfl⟩)
 ·exact⟨_,rfl,⟨r1,by dsimp only; omega,r4⟩,hi2,rfl⟩
theorem j1m {i h:Int}(hi:0≤i):Dr b SB (q8t ⟨b,i,h⟩):=by
 unfold q8t
 refine drK (q7a hb (by simp) (cb hi)) fun nm i1 h1 hnm hi1=>?_
 have hnm:nm.size≤8:=by
  simp only [List.mem_cons,List.not_mem_nil,or_false] at hnm
  rcases hnm with h | h | h | h<;>subst h<;>(try dsimp only)<;>decide
 refine drK (j1J hb hnm _ _ hi1) fun s i2 h2 hs hi2=>?_
 refine drK (q1L hb 10 (cb hi2)) fun y3 i3 h3 _ hi3=>?_
 have hl:=hs.2.1
 dsimp only
 refine .ite (fun _=>?_) fun _=>.ite (fun _=>?_) fun _=>.ite (fun _=>?_) fun _=>.ite (fun _=>?_) fun _=>.ite (fun _=>?_) fun _=>?_
 ·exact .get (by omega) fun x hx=>⟨_,rfl,hs.set (by exact hs.2.2.2 x hx),hi3,rfl⟩
 ·exact drK (q1L hb 5 (cb hi3)) fun y4 i4 h4 _ hi4=>.get (by omega) fun x hx=>⟨_,rfl,hs.set (by exact hs.2.2.2 x hx),hi4,rfl⟩
 ·exact drK (q1L hb 6 (cb hi3)) fun y4 i4 h4 _ hi4=>.get (by omega) fun x hx=>⟨_,rfl,hs.set (by exact hs.2.2.2 x hx),hi4,rfl⟩
 ·refine drK (q7a hb (by simp) (cb hi3)) fun z i4 h4 hz hi4=>.get (by omega) fun x hx=>⟨_,rfl,hs.set ?_,hi4,rfl⟩
  simp only [List.mem_cons,List.not_mem_nil,or_false] at hz
  rcases hz with h | h | h<;>subst h<;>(try dsimp only)<;>decide
 ·refine Ok.bind (Q:=fun l:List Attribute=>1≤l.length∧l.length≤5∧∀ a∈l,a.Name.size≤8) (z4m (P:=fun l:List Attribute=>1≤l.length∧l.length≤5∧∀ a∈l,a.Name.size≤8) (fun l=>5 - l.length) (fun l hl=>?_) _ ⟨hs.2.1,hs.2.2.1,hs.2.2.2⟩) fun l hl=>⟨_,rfl,⟨hs.1,hl.1,hl.2.1,hl.2.2⟩,hi3,rfl⟩
  unfold z3h
  refine .ite (fun h5=>?_) fun _=>.ret hl
  refine .get (by simp; omega) fun x hx=>.grd (by constructor<;>omega) (.ret ⟨⟨by simp,by simp; omega,fun a ha=>?_⟩,by simp; omega⟩)
  simp only [List.mem_append,List.mem_cons,List.not_mem_nil,or_false] at ha hx
  rcases ha with ha | ha
  ·exact hl.2.2 a ha
  ·rw [ha]; dsimp only; rcases hx with h | h | h | h | h<;>subst h<;>(try dsimp only)<;>decide
 ·exact⟨_,rfl,hs,hi3,rfl⟩
theorem j0f {i h:Int}(hi:0≤i):Dr b GC2 (q7F ⟨b,i,h⟩):=by
 unfold q7F
 refine drK (q5f hb _ (cb hi)) fun y1 i1 h1 _ hi1=>?_
 refine drK (j0b hb y1 hi1) fun g i2 h2 hg hi2=>?_
 obtain⟨ss,rs⟩:=g
 obtain⟨g1,g2,g3,g4⟩:=hg
 dsimp only at g1 g2 g3 g4
 have hG:GC2 ⟨ss,rs⟩:=⟨g1,g2,g3,fun r hr=>by obtain⟨a,c,d⟩:=g4 r hr; exact⟨a,by omega,d⟩⟩
 refine drK (q1L hb _ (cb hi2)) fun y3 i3 h3 hy3 hi3=>?_
 have h30:=hy3.1
 have h31:=hy3.2.1 (by dsimp only; omega)
 dsimp only at h31
 refine drK (q1L hb 14 (cb hi3)) fun y4 i4 h4 _ hi4=>?_
 have hk:y3.toNat < rs.length:=by omega
 dsimp only
 have same:Ok (fun r:Grammar × l1Cur=>GC2 r.1∧CB b r.2) (some ((⟨ss,rs⟩:Grammar),(⟨b,i4,h4⟩:l1Cur))):=⟨_,rfl,hG,hi4,rfl⟩
 refine .ite (fun _=>?_) fun _=>.ite (fun _=>?_) fun _=>.ite (fun _=>?_) fun _=>.ite (fun _=>?_) fun _=>.ite (fun _=>?_) fun _=>.ite (fun _=>?_) fun _=>.ite (fun _=>?_) fun _=>same
 ·exact drK (j1l hb hi4) fun r i5 h5 hr hi5=>.grd h30 (.get hk fun x hx=>⟨_,rfl,hG.set _ hr,hi5,rfl⟩)
 ·refine drK (j1m hb hi4) fun s i5 h5 hs hi5=>.get (by have:=g1.1; omega) fun x hx=>⟨_,rfl,⟨⟨by dsimp only; rw [List.length_set]; exact g1.1,by dsimp only; rw [List.length_set]; exact g1.2.1,fun a ha=>?_⟩,g2,g3,hG.2.2.2⟩,hi5,rfl⟩
  rcases List.mem_or_eq_of_mem_set ha with ha | ha
  ·exact g1.2.2 a ha
  ·rw [ha]; exact hs
 ·refine .get (by omega) fun x hx=>.grd h30 (.get hk fun r hr=>⟨_,rfl,hG.set _ ?_,hi4,rfl⟩)
  have a:=hG.2.2.2 r hr
  exact⟨⟨(g4 x hx).1.1,a.1.2.1,a.1.2.2.1,a.1.2.2.2⟩,a.2.1,a.2.2⟩
 ·refine .grd h30 (.get hk fun r hr=>.ite (fun h0=>.grd (by omega) ⟨_,rfl,hG.set _ ?_,hi4,rfl⟩) fun _=>same)
  have a:=hG.2.2.2 r hr
  exact⟨a.1,by have:=j0d r.Equations; have:=a.2.1; dsimp only; omega,a.2.2⟩
 ·refine .grd h30 (.get hk fun r hr=>.ite (fun h0=>?_) fun _=>same)
  have a:=g4 r hr
  have hl:=q3L r.Equations
  have a2:=a.2.1
  refine .get (by omega) fun x hx=>.grd (by constructor<;>omega) ⟨_,rfl,hG.set _ ⟨a.1,?_,a.2.2⟩,hi4,rfl⟩
  have:=z4g hx
  dsimp only
  rw [z0g]
  omega
 ·refine drK (q7a hb (by simp) (cb hi4)) fun z i5 h5 hz hi5=>.grd h30 (.get hk fun r hr=>⟨_,rfl,hG.set _ ?_,hi5,rfl⟩)
  have a:=hG.2.2.2 r hr
  refine⟨⟨a.1.1,?_,a.1.2.2.1,a.1.2.2.2⟩,a.2.1,a.2.2⟩
  simp only [List.mem_cons,List.not_mem_nil,or_false] at hz
  rcases hz with h | h<;>subst h<;>(try dsimp only)<;>decide
 ·refine .grd h30 (.get hk fun r hr=>.ite (fun h0=>?_) fun _=>same)
  refine drK (z9I hb (cb hi4)) fun e i5 h5 he hi5=>?_
  have he:Sz.szd e≤20480:=he
  have a:=g4 r hr
  have a2:=a.2.1
  refine .get (by omega) fun x hx=>⟨_,rfl,hG.set _ ⟨a.1,?_,a.2.2⟩,hi5,rfl⟩
  have h1:=z4g hx
  have h2:=j0c (⟨x.At,e⟩:Equation) r.Equations 0
  have h3:Sz.szd x=x.At.Name.size+Sz.szd x.Expr:=z5w x.At x.Expr
  rw [z5w] at h2
  dsimp only
  omega
end
theorem szR {r:Rule}(h:R2 r):Sz.szd r≤60300:=by
 have h1:=z5v (m:=8) h.1.2.2.2
 have:=h.1.2.2.1
 have:=h.1.1
 have:=h.1.2.1
 have:=h.2.1
 have:=h.2.2
 have h9:r.Right.length*(8+1)≤45:=by omega
 rw [q9X]; omega
theorem szS {s:Symbol}(h:SB s):Sz.szd s≤60:=by
 have h1:=z5v (m:=8) (l:=s.Attributes) fun a ha=>by rw [z3X]; exact h.2.2.2 a ha
 have:=h.2.2.1
 have:=h.1
 have h9:s.Attributes.length*(8+1)≤45:=by omega
 rw [z3k]; omega
theorem szG {g:Grammar}(h:GC2 g):Sz.szd g≤1048576:=by
 have h1:=z5v (m:=60) (l:=g.Symbols) fun s hs=>szS (h.1.2.2 s hs)
 have h2:=z5v (m:=60300) (l:=g.Rules) fun r hr=>szR (h.2.2.2 r hr)
 have h3:g.Symbols.length*(60+1)≤183:=by have:=h.1.2.1; omega
 have h4:g.Rules.length*(60300+1)≤482408:=by have:=h.2.2.1; omega
 rw [q7Z]; omega
end Go.Proofs.YtiojgbiimbefiabGreat
namespace Go.Proofs.YtiojgbiimbefiabGreat
open Go Go.E
theorem z3w {α:Type}{nm:α→ByteArray}{xs:List α}(h:z6y nm xs=true):xs.Pairwise fun a b=>nm a≠nm b:=by
 unfold z6y at h
 rw [Option.isNone_iff_eq_none] at h
 rw [List.pairwise_iff_getElem]
 intro i j hi hj hij he
 have h1:=q6I xs [] h j xs[j] (List.getElem?_eq_getElem hj)
 unfold dupB at h1
 rw [List.nil_append,List.any_eq_false] at h1
 exact h1 xs[i] (List.mem_take_iff_getElem.2 ⟨i,by omega,rfl⟩) (by simpa using he)
theorem j0g {y:Symbol}(h:symB y=true){a:Attribute}(ha:a∈y.Attributes):z2l y a.Name=(a,true):=by
 unfold symB at h
 simp only [Bool.and_eq_true] at h
 have hd:=z3w h.2.2.2
 unfold z2l
 cases hf:y.Attributes.find? (fun b=>decide (b.Name=a.Name)) with
 | none=>rw [List.find?_eq_none] at hf; exact absurd (by simp) (hf a ha)
 | some b=>
  have hb:=List.mem_of_find?_eq_some hf
  have he:b.Name=a.Name:=by simpa using List.find?_some hf
  have:b=a:=by
   rcases List.getElem_of_mem hb with ⟨i,hi,rfl⟩
   rcases List.getElem_of_mem ha with ⟨j,hj,rfl⟩
   rw [List.pairwise_iff_getElem] at hd
   rcases Nat.lt_trichotomy i j with h | h | h
   ·exact absurd he (hd i j hi hj h)
   ·subst h; rfl
   ·exact absurd he.symm (hd j i hj hi h)
  rw [this]
theorem z8t {g:Grammar}{r:Rule}{k:Nat}(h:symB (q5H g (q5I r (k:Int))).1=true):(reqK g r k).Nodup:=by
 unfold symB at h
 simp only [Bool.and_eq_true] at h
 have hd:=z3w h.2.2.2
 unfold reqK
 rw [List.Nodup,List.pairwise_map]
 refine (hd.filter _).imp fun {a b} hab he=>hab ?_
 injection he
theorem Shape.find {g:Grammar}(h:Shape g){r:Rule}(hr:r∈g.Rules){k:Nat}(hk:k < r.Right.length+1):Go.Proofs.YtiojgbiimbefiabGreat.symB (q5H g (q5I r (k:Int))).1=true:=by
 have hb:=h.brk 3 (by omega) (by omega) r hr
 unfold q6u at hb
 rw [if_pos rfl] at hb
 simp only [Bool.not_eq_false'] at hb
 unfold z3t at hb
 rw [List.all_eq_true] at hb
 have h1:=hb k (by rw [List.mem_range'_1]; omega)
 unfold q5H at h1 ⊢
 cases hf:g.Symbols.find? (fun y=>decide (y.Name=q5I r (k:Int))) with
 | none=>rw [hf] at h1; cases h1
 | some y=>exact h.symB (List.mem_of_find?_eq_some hf)
theorem Shape.req_nodup {g:Grammar}(h:Shape g){r:Rule}(hr:r∈g.Rules):(reqL g r).Nodup:=by
 unfold reqL
 rw [List.Nodup,List.pairwise_flatMap]
 refine⟨fun k hk=>z8t (h.find hr (by rw [List.mem_range'_1] at hk; omega)),?_⟩
 have hp:(List.range' 0 (r.Right.length+1)).Pairwise (·≠·):=List.nodup_range'
 refine hp.imp fun {a b} hab x hx y hy he=>hab ?_
 unfold reqK at hx hy
 obtain⟨_,_,rfl⟩:=List.mem_map.1 hx
 obtain⟨_,_,rfl⟩:=List.mem_map.1 hy
 injection he with e
 omega
theorem Shape.eqs {g:Grammar}(h:Shape g){r:Rule}(hr:r∈g.Rules):(reqL g r).length=r.Equations.length∧∀ o∈reqL g r,z1c r o=true:=by
 have hm:∀ o∈reqL g r,z1c r o=true:=by
  have hb:=h.brk 4 (by omega) (by omega) r hr
  unfold q6u at hb
  rw [if_neg (by omega),if_pos rfl] at hb
  unfold z8s at hb
  rw [List.any_eq_false] at hb
  intro o ho
  simpa using hb o ho
 refine⟨?_,hm⟩
 have hb:=h.brk 5 (by omega) (by omega) r hr
 unfold q6u at hb
 rw [if_neg (by omega),if_neg (by omega),if_pos rfl] at hb
 unfold z3u at hb
 rw [Option.isSome_eq_false_iff,Option.isNone_iff_eq_none] at hb
 have h1:=fun k x hx=>q6I r.Equations [] hb k x hx
 have hp:r.Equations.Pairwise fun a b=>a.At≠b.At:=by
  rw [List.pairwise_iff_getElem]
  intro i j hi hj hij he
  have h2:=h1 j r.Equations[j] (List.getElem?_eq_getElem hj)
  rw [Bool.or_eq_false_iff,List.nil_append,List.any_eq_false] at h2
  exact h2.2 r.Equations[i] (List.mem_take_iff_getElem.2 ⟨i,by omega,rfl⟩) (by simpa using he)
 have hn:(r.Equations.map fun q=>q.At).Nodup:=by rw [List.Nodup,List.pairwise_map]; exact hp
 have:=((List.perm_ext_iff_of_nodup (h.req_nodup hr) hn).2 fun o=>⟨fun ho=>?_,fun ho=>?_⟩).length_eq
 ·rw [this,List.length_map]
 ·have:=hm o ho
  unfold z1c at this
  rw [List.any_eq_true] at this
  obtain⟨q,hq,he⟩:=this
  exact List.mem_map.2 ⟨q,hq,by simpa using he⟩
 ·obtain⟨q,hq,rfl⟩:=List.mem_map.1 ho
  obtain⟨k,hk⟩:=List.getElem?_of_mem hq
  have h2:=h1 k q hk
  rw [Bool.or_eq_false_iff] at h2
  simpa using h2.1
theorem Shape.may {g:Grammar}(h:Shape g){r:Rule}(hr:r∈g.Rules){q:Equation}(hq:q∈r.Equations){u:Occurrence}(hu:u∈z2F q.Expr):mayB g r u=true∧u ∉ reqL g r:=by
 have hb:=h.brk 6 (by omega) (by omega) r hr
 unfold q6u at hb
 rw [if_neg (by omega),if_neg (by omega),if_neg (by omega)] at hb
 unfold misB at hb
 simp only [Bool.not_eq_false'] at hb
 rw [List.all_eq_true] at hb
 have h1:=hb q.Expr (by unfold z0R; rw [List.mem_append]; exact .inl (List.mem_map.2 ⟨q,hq,rfl⟩))
 unfold useB at h1
 rw [List.all_eq_true] at h1
 have hm:=h1 u hu
 refine⟨hm,fun hi=>?_⟩
 unfold reqL at hi
 obtain⟨k,hk,hi⟩:=List.mem_flatMap.1 hi
 rw [List.mem_range'_1] at hk
 unfold reqK at hi
 obtain⟨a,ha,rfl⟩:=List.mem_map.1 hi
 rw [List.mem_filter] at ha
 have hs:=h.find hr (k:=k) (by omega)
 unfold mayB z0Q at hm
 rw [if_pos (by dsimp only; omega)] at hm
 dsimp only at hm
 rw [j0g hs ha.1] at hm
 have h2:=ha.2
 simp only [decide_eq_true_eq,Bool.and_eq_true] at h2 hm
 rw [h2] at hm
 by_cases h0:(k:Int)=0
 ·rw [if_pos h0,if_pos h0] at hm; omega
 ·rw [if_neg h0,if_neg h0] at hm; omega
theorem j2I (l:List Occurrence)(o:Occurrence):q4p l o=some (decide (o∈l)):=by
 unfold q4p q4u
 rw [z2n (q:=fun x=>decide (x=o)) (c:=fun k=>(k:Int)) fun k x hx=>by
  unfold q6Z
  by_cases h:x=o
  ·rw [if_pos h,if_pos (by simpa using h)]
  ·rw [if_neg h,if_neg (by simpa using h)]]
 cases hf:l.findIdx? (fun x=>decide (x=o)) with
 | none=>
  rw [List.findIdx?_eq_none_iff] at hf
  rw [decide_eq_false (fun h=>by simpa using hf o h)]
  rfl
 | some j=>
  have hm:o∈l:=by
   rw [List.findIdx?_eq_some_iff_getElem] at hf
   obtain⟨hj,he,_⟩:=hf
   have:l[j]=o:=by simpa using he
   exact this▸List.getElem_mem hj
  rw [decide_eq_true hm]
  show some (decide (0≤((0+j:Nat):Int)))=some true
  rw [decide_eq_true (Int.natCast_nonneg _)]
theorem z8u {b:List UInt8}(hb:b.length≤1048576):Ok GC2 (q3Q b):=by
 unfold q3Q
 obtain⟨z,hz,hz1,hz2⟩:=j3f hb
 obtain⟨zb,zi,zh⟩:=z
 dsimp only at hz1 hz2
 subst hz2
 refine .eq hz ?_
 exact drK (j0f hb hz1) fun g i1 h1 hg hi1=>.ret hg
theorem j1n {r:Rule}{o:Occurrence}(h:z1c r o=true):∃ q∈r.Equations,q.At=o∧eqAt r o=(q.Expr,true):=by
 have h1:=z7w r o
 rw [h] at h1
 unfold eqAt at h1 ⊢
 cases hf:r.Equations.find? (fun q=>decide (q.At=o)) with
 | none=>rw [hf] at h1; cases h1
 | some q=>exact⟨q,List.mem_of_find?_eq_some hf,by simpa using List.find?_some hf,rfl⟩
theorem j1o {g:Grammar}(hg:Sz.szd g≤1048576)(h:Shape g){r:Rule}(hr:r∈g.Rules){o:Occurrence}(ho:o∈reqL g r)(k:Nat):q9x g r (reqL g r) k o ()=some (.inl ()):=by
 have hR:=Nat.le_trans (z0D hr) hg
 obtain⟨q,hq,he,e⟩:=j1n ((h.eqs hr).2 o ho)
 unfold q9x
 rw [z7t hR o,e,Option.bind_some]
 dsimp only
 rw [z7q (Nat.le_trans (z0B hq) hR),Option.bind_some,if_pos rfl,q2q (c:=false) (q:=fun _=>true) fun k u hu=>by
  obtain⟨m1,m2⟩:=h.may hr hq hu
  unfold z2e
  rw [z9K g (q4Z hR),Option.bind_some,if_pos m1,j2I,Option.bind_some,decide_eq_false m2,if_neg (by decide),if_pos rfl],if_pos (by simp),Option.bind_some]
 rfl
theorem z8v (a:List UInt8):q9g a=some true:=by
 unfold q9g z7n
 rw [Option.bind_some]
 by_cases hb:1048576 < (a.length:Int)
 ·rw [if_pos (by simpa using hb)]
 rw [if_neg (by simpa using hb)]
 have hb:a.length≤1048576:=by omega
 obtain⟨g,e,hg⟩:=z8u hb
 have hG:=szG hg
 rw [e,Option.bind_some]
 have hi:=z9Y hG
 have hs':=z9Z hG
 generalize hs:z2o g=z at hi hs'
 obtain⟨how,at_⟩:=z
 rw [hi,Option.bind_some]
 dsimp only
 rw [hs',Option.bind_some]
 dsimp only
 rw [if_pos rfl,decide_eq_true rfl,Bool.not_true,Option.bind_some,if_neg (by decide)]
 by_cases h0:how=0
 ·subst h0
  have h:Shape g:=j1f (by rw [hs])
  have hn:=(z9R hG).2
  have e:=z4k (c:=false) (q:=fun _=>true) (n:=g.Rules.length) (f:=q5e g 0) (fun k hk=>by
   have hr:g.Rules[k]∈g.Rules:=List.getElem_mem hk
   have hR:=Nat.le_trans (z0D hr) hG
   unfold q5e
   rw [if_pos (by omega),if_pos rfl,q1j (by omega),show ((k:Int)).toNat=k from rfl,List.getElem?_eq_getElem hk,Option.bind_some]
   unfold q3s
   rw [z6w (z2k hG) (q4Z hR),Option.bind_some,Option.bind_some,if_pos (by rw [(h.eqs hr).1]),q2q (c:=false) (q:=fun _=>true) fun i o ho=>by
    rw [j1o hG h hr ho,if_pos rfl],if_pos (by simp),Option.bind_some,z0k,q1j (by constructor<;>omega),if_pos rfl]; rfl) (by
   unfold q5e; rw [if_neg (by omega)]) g.Rules.length 0 (by omega)
  rw [show q3D (q5e g 0) 0=_ from e,if_pos (by simp),Option.bind_some]
  rfl
 ·have e:q3D (q5e g how) 0=some (.inl ()):=q2g (by
   unfold q5e
   rw [if_neg h0,ite_self])
  rw [e,Option.bind_some]
  rfl
end Go.Proofs.YtiojgbiimbefiabGreat
