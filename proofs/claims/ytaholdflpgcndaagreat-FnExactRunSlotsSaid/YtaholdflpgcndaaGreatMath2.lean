/- What those partial functions come to: plain lemmas on data; each bears its conditions in its statement. -/
import Derived.Test.YtaholdflpgcndaaGreatEng7
set_option linter.unusedVariables false
set_option linter.unusedSimpArgs false
set_option linter.ambiguousOpen false
set_option linter.unusedSectionVars false
set_option linter.unnecessarySimpa false
namespace Go.Proofs.YtaholdflpgcndaaGreat
open Go Go.E
mutual
def z0k:Expr→List Occurrence
 | ⟨a0,a1,a2,a3,a4,a5,a6⟩=>(if a0=3 then [⟨a2,a5⟩] else [])++q6V a6
def q6V:List Expr→List Occurrence
 | []=>[]
 | x :: xs=>z0k x++q6V xs
end
mutual
def fuE:Expr→Nat
 | ⟨_,_,_,_,_,_,a6⟩=>fuEs a6+1
def fuEs:List Expr→Nat
 | []=>0
 | x :: xs=>max (fuE x) (fuEs xs)
end
theorem q7M (e:Expr):fuE e=fuEs e.Args+1:=by cases e; rfl
theorem q9f:∀ {l:List Expr} {x:Expr},x∈l→fuE x≤fuEs l
 | y :: l,x,h=>by
  simp only [fuEs]
  rcases List.mem_cons.1 h with e | h
  ·subst e; omega
  ·have:=q9f h; omega
theorem z0a (e:Expr):z0k e=(if e.Kind=3 then [⟨e.Pos,e.Name⟩] else [])++q6V e.Args:=by cases e; rfl
mutual
theorem z8w:∀ e:Expr,(z0k e).length≤1+q7r e
 | ⟨a0,a1,a2,a3,a4,a5,a6⟩=>by
  have:=z6o a6
  simp only [z0k,q7r,List.length_append]
  split<;>simp<;>omega
theorem z6o:∀ l:List Expr,(q6V l).length≤q9e l
 | []=>by simp [q6V]
 | x :: xs=>by
  have h1:=z8w x
  have h2:=z6o xs
  simp only [q6V,q9e,List.length_append]; omega
end
theorem q5l {α:Type}[Sz α]{x:α}:∀ {l:List α},x∈l→Sz.szd x < szL l
 | [],h=>by simp at h
 | y :: l,h=>by
  rcases List.mem_cons.1 h with rfl | h
  ·simp only [szL]; omega
  ·have:=q5l h; simp only [szL]; omega
theorem j5n {e x:Expr}(h:x∈e.Args):Sz.szd x < Sz.szd e:=by
 have h1:=q4V e
 have h2:=q5l h
 omega
theorem z9V {e:Expr}(h:Sz.szd e≤1048576):(z0k e).length≤1048577:=by
 have h1:=z8w e
 have h2:q7r e=Sz.szd e:=rfl
 omega
theorem z9W:∀ (m:Nat) (e:Expr) (o:List Occurrence),fuE e≤m→o.length+(z0k e).length≤4398046511104→q3B m e o=some (true,o++z0k e):=by
 intro m
 induction m with
 | zero=>intro e o h; rw [q7M] at h; omega
 | succ m ih=>
  have hl:∀ (l:List Expr) (i:Nat) (o:List Occurrence),fuEs l≤m→o.length+(q6V l).length≤4398046511104→findL (q3x (q3B m)) i l o=some (.inl (o++q6V l)):=by
   intro l
   induction l with
   | nil=>intro i o _ _; simp [findL,q6V]
   | cons x l ihl=>
    intro i o hf hb
    simp only [fuEs] at hf
    simp only [q6V,List.length_append] at hb
    have hx:=ih x o (by omega) (by omega)
    simp only [findL,q3x,q3N,hx,Option.bind_some,Bool.not_true,Bool.false_eq_true,if_false]
    rw [ihl _ _ (by omega) (by rw [List.length_append]; omega),q6V,List.append_assoc]
  intro e o hf hb
  rw [q7M] at hf
  show q3J (q3B m) e o=_
  have hb':=hb
  rw [z0a,List.length_append] at hb'
  have h1:q4E e o=some (true,o++if e.Kind=3 then [⟨e.Pos,e.Name⟩] else []):=by
   unfold q4E
   by_cases hk:e.Kind=3
   ·rw [if_pos hk] at hb' ⊢
    rw [if_pos hk,q3m]
    simp only [List.length_cons,List.length_nil] at hb'
    constructor<;>omega
   ·rw [if_neg hk,if_neg hk,List.append_nil]
  unfold q3J
  rw [h1,Option.bind_some]
  dsimp only
  rw [if_pos rfl]
  unfold q3p q3q
  rw [hl _ _ _ (by omega) (by rw [List.length_append]; omega),z0a]
  simp [onr]
theorem j3Q {e:Expr}(h:(z0k e).length≤4398046511104):q4g e []=some (true,z0k e):=
 q6u (fuE e) fun m hm=>by simpa using z9W m e [] hm (by simpa using h)
theorem z9X {α:Type}{s:List α}{k:Nat}{x:α}(h:k < s.length):(s.set k x).take (k+1)=s.take k++[x]:=by
 rw [List.take_add_one,List.take_set,List.set_eq_of_length_le (by simp; omega)]
 simp [List.getElem?_set,h]
theorem j1I {a:List Occurrence}{b:Nat}(ha:a.length≤4398046511104)(hb:1≤b)(hba:b < a.length):∀ (m j k:Nat) (s:List Occurrence),b+j+m=a.length→1≤j→1≤k→k≤b+j - 1→s.length=a.length→s.take k=q3I (a.take (b+j))→s.drop (b+j - 1)=a.drop (b+j - 1) →
  ∃ s' k',q4B (q3t (b:Int)) (s,(k:Int),(j:Int))=some (s',((k' : Nat):Int))∧k'≤s'.length∧s'.take k'=q3I a:=by
 intro m
 induction m with
 | zero=>
  intro j k s hm hj hk hkj hs ht hd
  refine⟨s,k,q3Z ?_,by omega,?_⟩
  ·unfold q3t
   dsimp only
   rw [if_neg (by simp only [Int.toNat_natCast,List.length_drop]; omega)]
  ·rw [ht,show b+j=a.length by omega,List.take_length]
 | succ m ih=>
  intro j k s hm hj hk hkj hs ht hd
  obtain⟨x,hx⟩:∃ x,a[b+j]? = some x:=⟨_,List.getElem?_eq_getElem (by omega)⟩
  obtain⟨y,hy⟩:∃ y,a[b+j - 1]? = some y:=⟨_,List.getElem?_eq_getElem (by omega)⟩
  obtain⟨z,hz⟩:∃ z,s[k]? = some z:=⟨_,List.getElem?_eq_getElem (by omega)⟩
  have hsx:s[b+j]? = some x:=by
   have:=congrArg (fun l=>l[1]?) hd
   simp only [List.getElem?_drop] at this
   rw [show b+j - 1+1=b+j by omega] at this
   rw [this,hx]
  have hsy:s[b+(j - 1)]? = some y:=by
   have:=congrArg (fun l=>l[0]?) hd
   simp only [List.getElem?_drop,Nat.add_zero] at this
   rw [show b+(j - 1)=b+j - 1 by omega,this,hy]
  have hc:=z2u (i:=b+j - 1) (b:=x) hy (by rw [show b+j - 1+1=b+j by omega]; exact hx)
  rw [show b+j - 1+2=b+(j+1) by omega,show b+j - 1+1=b+j by omega] at hc
  have hd2:s.drop (b+(j+1) - 1)=a.drop (b+(j+1) - 1):=by
   have:=congrArg (fun l=>l.drop 1) hd
   simp only [List.drop_drop] at this
   rw [show b+(j+1) - 1=b+j - 1+1 by omega]; exact this
  have e1:((j:Int) - 1).toNat=j - 1:=by omega
  by_cases hxy:x=y
  ·have e:q3t (b:Int) (s,(k:Int),(j:Int))=some (.inl (s,(k:Int),((j+1:Nat):Int))):=by
    unfold q3t
    dsimp only
    rw [if_pos (by simp only [Int.toNat_natCast,List.length_drop]; omega),q3m (by omega)]
    simp only [Int.toNat_natCast]
    rw [hsx,Option.bind_some,q3m (by constructor<;>omega),q3m (by omega),e1,hsy,Option.bind_some,if_pos hxy,Option.bind_some]
    dsimp only
    rw [q3m (by constructor<;>omega)]; rfl
   rw [q5b e]
   exact ih (j+1) k s (by omega) (by omega) hk (by omega) hs (by rw [hc,if_pos hxy.symm,ht]) hd2
  ·have e:q3t (b:Int) (s,(k:Int),(j:Int))=some (.inl (s.set k x,((k+1:Nat):Int),((j+1:Nat):Int))):=by
    unfold q3t
    dsimp only
    rw [if_pos (by simp only [Int.toNat_natCast,List.length_drop]; omega),q3m (by omega)]
    simp only [Int.toNat_natCast]
    rw [hsx,Option.bind_some,q3m (by constructor<;>omega),q3m (by omega),e1,hsy,Option.bind_some,if_neg hxy,q3m (by omega),q3m (by omega),hz,Option.bind_some,q3m (by constructor<;>omega),Option.bind_some]
    dsimp only
    rw [q3m (by constructor<;>omega)]; rfl
   rw [q5b e]
   refine ih (j+1) (k+1) _ (by omega) (by omega) (by omega) (by omega) (by rw [List.length_set]; exact hs) ?_ ?_
   ·rw [z9X (by omega),ht,hc,if_neg (fun h=>hxy h.symm)]
   ·rw [List.drop_set,if_pos (by omega)]; exact hd2
theorem z9Y {a:List Occurrence}(ha:a.length≤4398046511104):∀ (m k:Nat),k+m=a.length→1≤k→q3I (a.take k)=a.take k →
  (q4B (q3u a) (k:Int)).bind (onr (fun r1=>some r1) fun _=>some a)=some (q3I a):=by
 intro m
 induction m with
 | zero=>
  intro k hm hk hc
  have e:q3u a (k:Int)=some (.inr (.inl ())):=by
   unfold q3u
   dsimp only
   rw [if_neg (by omega)]
  rw [q3Z e,Option.bind_some]
  show some a=_
  rw [show k=a.length by omega,List.take_length] at hc
  rw [hc]
 | succ m ih=>
  intro k hm hk hc
  obtain⟨x,hx⟩:∃ x,a[k]? = some x:=⟨_,List.getElem?_eq_getElem (by omega)⟩
  obtain⟨y,hy⟩:∃ y,a[k - 1]? = some y:=⟨_,List.getElem?_eq_getElem (by omega)⟩
  have hct:=z2u (i:=k - 1) (b:=x) hy (by rw [show k - 1+1=k by omega]; exact hx)
  rw [show k - 1+2=k+1 by omega,show k - 1+1=k by omega] at hct
  have htk:a.take (k+1)=a.take k++[x]:=by rw [List.take_add_one,hx]; rfl
  have e1:((k:Int) - 1).toNat=k - 1:=by omega
  by_cases hxy:x=y
  ·obtain⟨s',k',h1,h2,h3⟩:=j1I (b:=k) ha hk (by omega) m 1 k a (by omega) (by omega) hk (by omega) rfl (by rw [hct,if_pos hxy.symm,hc]) rfl
   have hl:(s'.take k'++List.replicate (s'.length - k') (⟨(0:Int),(⟨#[]⟩:ByteArray)⟩:Occurrence)).take k'=q3I a:=by
    rw [List.take_append_of_le_length (by simp; omega),List.take_take,Nat.min_self,h3]
   have e:q3u a (k:Int)=some (.inr (.inr (q3I a))):=by
    unfold q3u
    dsimp only
    rw [if_pos (by omega),q3m (by omega)]
    simp only [Int.toNat_natCast]
    rw [hx,Option.bind_some,q3m (by constructor<;>omega),q3m (by omega),e1,hy,Option.bind_some,if_pos hxy,q3m (by omega),q3m (by omega)]
    have h1' : q4B (q3t (k:Int)) (a,(k:Int),1)=some (s',((k' : Nat):Int)):=h1
    rw [h1',Option.bind_some]
    dsimp only
    simp only [Int.toNat_natCast]
    rw [q3m (by omega),q3m (by omega),q3m (by omega),q3m (by simp; omega),hl]
   rw [q3Z e,Option.bind_some]; rfl
  ·have e:q3u a (k:Int)=some (.inl ((k+1:Nat):Int)):=by
    unfold q3u
    dsimp only
    rw [if_pos (by omega),q3m (by omega)]
    simp only [Int.toNat_natCast]
    rw [hx,Option.bind_some,q3m (by constructor<;>omega),q3m (by omega),e1,hy,Option.bind_some,if_neg hxy,q3m (by constructor<;>omega)]; rfl
   rw [q5b e]
   exact ih (k+1) (by omega) (by omega) (by rw [hct,if_neg (fun h=>hxy h.symm),hc,htk])
theorem j1J {a:List Occurrence}(ha:a.length≤4398046511104):q3M a=some (q3I a):=by
 unfold q3M
 by_cases h:(a.length:Int) < 2
 ·rw [if_pos h]
  match a,h with
  | [],_=>rfl
  | [x],_=>rfl
  | x :: y :: l,h=>simp only [List.length_cons] at h; omega
 ·rw [if_neg h]
  refine z9Y ha (a.length - 1) 1 (by omega) (Nat.le_refl _) ?_
  match a,h with
  | x :: l,_=>rfl
def z5T (e:Expr):List Occurrence:=q3I (z8f (z0k e))
theorem j2y {o:Occurrence}{e:Expr}:o∈z5T e↔o∈z0k e:=by
 unfold z5T z8f
 rw [z0T,List.mem_mergeSort]
theorem j2z {e:Expr}:(z5T e).length≤(z0k e).length:=by
 unfold z5T
 refine Nat.le_trans z3u ?_
 unfold z8f
 rw [List.length_mergeSort]; exact Nat.le_refl _
theorem j3R {e:Expr}(h:Sz.szd e≤1048576):q4Z e=some (z5T e):=by
 have hl:=z9V h
 have hs:(z8f (z0k e)).length=(z0k e).length:=by unfold z8f; exact List.length_mergeSort _
 unfold q4Z
 rw [j3Q (by omega),Option.bind_some]
 dsimp only
 unfold q3V
 rw [q3m (by omega),Option.bind_some,j1J (by omega)]; rfl
end Go.Proofs.YtaholdflpgcndaaGreat
namespace Go.Proofs.YtaholdflpgcndaaGreat
open Go Go.E
theorem j2A {ρ:Type}{g:Nat→Option ρ}(hm:∀ n r,g n=some r→g (n+1)=some r){n:Nat}{r:ρ}(h:g n=some r):recO g=some r:=by
 have up:∀ (k n:Nat) (r:ρ),g n=some r→g (n+k)=some r:=by
  intro k
  induction k with
  | zero=>intro n r h; exact h
  | succ k ih=>intro n r h; exact hm _ _ (ih n r h)
 refine q6u n fun m hm=>?_
 have h1:=up (m - n) n r h
 rwa [show n+(m - n)=m by omega] at h1
theorem z3e {α σ:Type}{f g:Nat→α→σ→Option σ}(h:∀ k x s q,f k x s=some q→g k x s=some q):∀ (xs:List α) (i:Nat) (s q:σ),eachL f i xs s=some q→eachL g i xs s=some q
 | [],i,s,q,hq=>hq
 | x :: xs,i,s,q,hq=>by
  simp only [eachL] at hq ⊢
  obtain⟨t,h1,h2⟩:=bd hq
  rw [h _ _ _ _ h1]
  exact z3e h xs _ _ _ h2
theorem z8x (a b:Occurrence):q8o a b=some (q8k a b):=by
 unfold q8o q8k
 by_cases h1:a.Pos < b.Pos
 ·simp [h1]
 ·by_cases h2:a.Pos=b.Pos
  ·simp [h2]
  ·simp [h1,h2]
abbrev z0V (l:List Occurrence):Prop:=l.Pairwise fun a b=>q8k a b=true
theorem j3S {l:List Occurrence}{o:Occurrence}(hl:l.length≤4398046511104):∀ (m j:Nat),j+m=l.length→(∀ a∈l.take j,q8k a o=true) →
  ∃ k:Nat,q4B (q8p l o) (j:Int)=some ((k:Nat):Int)∧k≤l.length∧(∀ a∈l.take k,q8k a o=true)∧∀ y,l[k]? = some y→q8k y o=false:=by
 intro m
 induction m with
 | zero=>
  intro j hj ha
  refine⟨j,q3Z ?_,by omega,ha,fun y hy=>?_⟩
  ·unfold q8p; rw [if_neg (by omega)]
  ·rw [List.getElem?_eq_none (by omega)] at hy; cases hy
 | succ m ih=>
  intro j hj ha
  obtain⟨x,hx⟩:∃ x,l[j]? = some x:=⟨_,List.getElem?_eq_getElem (by omega)⟩
  cases hb:q8k x o with
  | false=>
   refine⟨j,q3Z ?_,by omega,ha,fun y hy=>?_⟩
   ·unfold q8p
    rw [if_pos (by omega),q3m (by omega)]
    simp only [Int.toNat_natCast]
    rw [hx,Option.bind_some,z8x,Option.bind_some,if_neg (by rw [hb]; simp)]
   ·rw [hx] at hy; cases hy; exact hb
  | true=>
   have e:q8p l o (j:Int)=some (.inl ((j+1:Nat):Int)):=by
    unfold q8p
    rw [if_pos (by omega),q3m (by omega)]
    simp only [Int.toNat_natCast]
    rw [hx,Option.bind_some,z8x,Option.bind_some,if_pos hb,q3m (by constructor<;>omega)]; rfl
   rw [q5b e]
   refine ih (j+1) (by omega) fun a h=>?_
   rw [List.take_add_one,hx] at h
   rcases List.mem_append.1 h with h | h
   ·exact ha a h
   ·simp at h; rw [h]; exact hb
theorem j2B {l:List Occurrence}{o:Occurrence}(hl:l.length < 4398046511104)(hs:z0V l):∃ q,z2c l o=some q∧z0V q∧(∀ a,a∈q↔a=o∨a∈l)∧q.length≤l.length+1:=by
 obtain⟨k,h1,h2,h3,h4⟩:=j3S (l:=l) (o:=o) (by omega) l.length 0 (by omega) (by simp)
 have h1' : q4B (q8p l o) 0=some ((k:Nat):Int):=h1
 have hput:∀ (hne:∀ y,l[k]? = some y→y≠o),z0V (l.take k++[o]++l.drop k)∧(∀ a,a∈l.take k++[o]++l.drop k↔a=o∨a∈l)∧(l.take k++[o]++l.drop k).length≤l.length+1:=fun hne=>by
  refine⟨?_,fun a=>?_,by simp; omega⟩
  ·have:=j1H (lt:=q8k) lessO_swo.trans z1w (k:=k) hs h3 fun y hy=>⟨h4 y hy,hne y hy⟩
   simpa using this
  ·have:a∈l↔a∈l.take k∨a∈l.drop k:=by rw [← List.mem_append,List.take_append_drop]
   rw [this]
   simp only [List.mem_append,List.mem_singleton]
   constructor
   ·rintro ((h | h) | h)<;>simp [h]
   ·rintro (h | h | h)<;>simp [h]
 unfold z2c
 rw [h1',Option.bind_some]
 by_cases hk:k < l.length
 ·obtain⟨x,hx⟩:∃ x,l[k]? = some x:=⟨_,List.getElem?_eq_getElem hk⟩
  rw [if_pos (by omega),q3m (by omega)]
  simp only [Int.toNat_natCast]
  rw [hx,Option.bind_some]
  by_cases hxo:x=o
  ·rw [if_pos hxo]
   refine⟨l,rfl,hs,fun a=>?_,by omega⟩
   have:=List.mem_of_getElem? hx
   constructor
   ·exact .inr
   ·rintro (h | h)
    ·rw [h,← hxo]; exact this
    ·exact h
  ·rw [if_neg hxo,q3m (by omega),q3m (by omega),q3m (by simp; omega),q3m (by simp; omega),q3m (by omega),q3m (by omega),q3m (by simp; omega)]
   exact⟨_,rfl,hput fun y hy=>by rw [hx] at hy; cases hy; exact hxo⟩
 ·rw [if_neg (by omega)]
  simp only [Int.toNat_natCast]
  rw [q3m (by omega),q3m (by omega),q3m (by simp; omega),q3m (by simp; omega),q3m (by omega),q3m (by omega),q3m (by simp; omega)]
  exact⟨_,rfl,hput fun y hy=>by rw [List.getElem?_eq_none (by omega)] at hy; cases hy⟩
theorem j5P:∀ (n:Nat) (e:Expr) (l q:List Occurrence),q4C n e l=some q→q4C (n+1) e l=some q:=by
 intro n
 induction n with
 | zero=>intro e l q h; cases h
 | succ n ih=>
  intro e l q h
  have h' : q7w (q4C n) e l=some q:=h
  show q7w (q4C (n+1)) e l=some q
  have m1:∀ (xs:List Expr) (i:Nat) (s q:List Occurrence),eachL (q7Y (q4C n)) i xs s=some q→eachL (q7Y (q4C (n+1))) i xs s=some q:=z3e fun k x s q hq=>by
   unfold q7Y at hq ⊢
   obtain⟨y,h3,h4⟩:=bd hq
   rw [ih _ _ _ h3]; exact h4
  unfold q7w at h' ⊢
  by_cases hk:e.Kind=3
  ·rw [if_pos hk] at h' ⊢
   obtain⟨y,h1,h2⟩:=bd h'
   obtain⟨s,h3,h4⟩:=bd h2
   rw [h1,Option.bind_some,m1 _ _ _ _ h3]; exact h4
  ·rw [if_neg hk] at h' ⊢
   obtain⟨s,h3,h4⟩:=bd h'
   have m2:eachL (z2O (q4C (n+1))) 0 e.Args l=some s:=m1 _ _ _ _ h3
   rw [m2]; exact h4
theorem j1K:∀ (m:Nat) (e:Expr) (l:List Occurrence),fuE e≤m→z0V l→l.length+(z0k e).length≤1099511627776 →
  ∃ q,q4C m e l=some q∧z0V q∧(∀ a,a∈q↔a∈l∨a∈z0k e)∧q.length≤l.length+(z0k e).length:=by
 intro m
 induction m with
 | zero=>intro e l h; rw [q7M] at h; omega
 | succ m ih=>
  intro e l h hs hb
  rw [q7M] at h
  rw [z0a,List.length_append] at hb
  have hl:∀ (xs:List Expr) (i:Nat) (s:List Occurrence),fuEs xs≤m→z0V s→s.length+(q6V xs).length≤1099511627776 →
    ∃ q,eachL (q7Y (q4C m)) i xs s=some q∧z0V q∧(∀ a,a∈q↔a∈s∨a∈q6V xs)∧q.length≤s.length+(q6V xs).length:=by
   intro xs
   induction xs with
   | nil=>intro i s _ hs _; exact⟨s,rfl,hs,by simp [q6V],by omega⟩
   | cons x xs ihl=>
    intro i s hf hs hb
    simp only [fuEs] at hf
    simp only [q6V,List.length_append] at hb
    obtain⟨q,h1,h2,h3,h4⟩:=ih x s (by omega) hs (by omega)
    obtain⟨q2,k1,k2,k3,k4⟩:=ihl (i+1) q (by omega) h2 (by omega)
    refine⟨q2,?_,k2,fun a=>?_,by simp only [q6V,List.length_append]; omega⟩
    ·simp only [eachL,q7Y,h1,Option.bind_some]; exact k1
    ·rw [k3,h3,q6V,List.mem_append,or_assoc]
  show ∃ q,q7w (q4C m) e l=some q∧_
  unfold q7w
  by_cases hk:e.Kind=3
  ·rw [if_pos hk] at hb ⊢
   simp only [List.length_cons,List.length_nil] at hb
   obtain⟨y,h1,h2,h3,h4⟩:=j2B (l:=l) (o:=⟨e.Pos,e.Name⟩) (by omega) hs
   obtain⟨q,k1,k2,k3,k4⟩:=hl e.Args 0 y (by omega) h2 (by omega)
   refine⟨q,?_,k2,fun a=>?_,?_⟩
   ·rw [h1,Option.bind_some,k1]; rfl
   ·rw [k3,h3,z0a,if_pos hk,List.mem_append,List.mem_singleton]
    constructor
    ·rintro ((h | h) | h)<;>simp [h]
    ·rintro (h | h | h)<;>simp [h]
   ·rw [z0a,if_pos hk]; simp; omega
  ·rw [if_neg hk] at hb ⊢
   simp only [List.length_nil] at hb
   obtain⟨q,k1,k2,k3,k4⟩:=hl e.Args 0 l (by omega) hs (by omega)
   have k1' : eachL (z2O (q4C m)) 0 e.Args l=some q:=k1
   refine⟨q,?_,k2,fun a=>?_,?_⟩
   ·rw [k1']; rfl
   ·rw [k3,z0a,if_neg hk]; simp
   ·rw [z0a,if_neg hk]; simpa using k4
theorem z8y (e:Expr):z0V (z5T e):=by
 refine z0U lessO_swo.trans z1w ?_
 have h:=List.pairwise_mergeSort (le:=fun x y=>!q8k y x) (fun a b c h1 h2=>by
  simp only [Bool.not_eq_true'] at h1 h2 ⊢
  exact lessO_swo.ntrans _ _ _ h2 h1) (fun a b=>by
  cases h:q8k a b with
  | false=>simp [h]
  | true=>
   cases h2:q8k b a with
   | false=>simp
   | true=>have:=lessO_swo.trans _ _ _ h h2; rw [lessO_swo.irrefl] at this; cases this) (z0k e)
 unfold z8f
 exact h.imp fun {a b} h=>by simpa using h
theorem j3T {e:Expr}(h:Sz.szd e≤1048576):q4X e=some (z5T e):=by
 have hl:=z9V h
 obtain⟨q,h1,h2,h3,h4⟩:=j1K _ e [] (Nat.le_refl _) List.Pairwise.nil (by simp; omega)
 have hq:q=z5T e:=z6n (lt:=q8k) lessO_swo.irrefl lessO_swo.trans h2 (z8y e) fun a=>by rw [h3,j2y]; simp
 subst hq
 have hr:z4L e []=some (z5T e):=j2A (fun n q=>j5P n e [] q) h1
 unfold q4X
 rw [hr]; rfl
end Go.Proofs.YtaholdflpgcndaaGreat
namespace Go.Proofs.YtaholdflpgcndaaGreat
open Go Go.E
theorem j5Q:∀ (n:Nat) (e q:Expr),q4w n e=some q→q4w (n+1) e=some q:=by
 intro n
 induction n with
 | zero=>intro e q h; cases h
 | succ n ih=>
  intro e q h
  have h' : q6D (q4w n) e=some q:=h
  show q6D (q4w (n+1)) e=some q
  unfold q6D at h' ⊢
  obtain⟨s,h1,h2⟩:=bd h'
  rw [z3e (g:=q7X (q4w (n+1))) (fun k x s q hq=>by
   unfold q7X at hq ⊢
   obtain⟨y,h3,h4⟩:=bd hq
   rw [ih _ _ h3,Option.bind_some]; exact h4) _ _ _ _ h1]
  exact h2
theorem j1L:∀ (m:Nat) (e:Expr),fuE e≤m→Sz.szd e≤1048576→q4w m e=some e:=by
 intro m
 induction m with
 | zero=>intro e h; rw [q7M] at h; omega
 | succ m ih=>
  intro e h hs
  rw [q7M] at h
  have hl:∀ (l:List Expr) (i:Nat) (s:List Expr),(∀ x∈l,fuE x≤m∧Sz.szd x≤1048576)→s.length+l.length≤4398046511→eachL (q7X (q4w m)) i l s=some (s++l):=by
   intro l
   induction l with
   | nil=>intro i s _ _; simp [eachL]
   | cons x l ihl=>
    intro i s hx hb
    simp only [List.length_cons] at hb
    have h1:=ih x (hx x (by simp)).1 (hx x (by simp)).2
    have e1:q7X (q4w m) i x s=some (s++[x]):=by
     unfold q7X; rw [h1,Option.bind_some,q3m (by constructor<;>omega)]
    simp only [eachL,e1,Option.bind_some]
    rw [ihl _ _ (fun y hy=>hx y (by simp [hy])) (by simp; omega)]; simp
  show q6D (q4w m) e=some e
  unfold q6D
  have h2:=q4V e
  have h3:=q3A e.Args
  rw [hl e.Args 0 [] (fun x hx=>⟨by have:=q9f hx; omega,by have:=j5n hx; omega⟩) (by simp; omega),List.nil_append,Option.bind_some]
  cases e; rfl
theorem z7l {e:Expr}(h:Sz.szd e≤1048576):q8n e=some e:=j2A (fun n q=>j5Q n e q) (j1L _ e (Nat.le_refl _) h)
theorem j1M:z1z=q8n:=by
 have h:∀ n,q7b n=q4w n:=by
  intro n
  induction n with
  | zero=>rfl
  | succ n ih=>funext e; show q9V (q7b n) e=q6D (q4w n) e; rw [ih]; rfl
 funext e
 show recO (fun n=>q7b n e)=recO fun n=>q4w n e
 congr 1; funext n; rw [h]
def j5R:Expr:=⟨0,0,0,0,⟨#[]⟩,⟨#[]⟩,[]⟩
def eqAt (r:Rule)(o:Occurrence):Expr × Bool:=match r.Equations.find? fun q=>decide (q.At=o) with
 | some q=>(q.Expr,true)
 | none=>(j5R,false)
theorem j2C {r:Rule}{q:Equation}(h:q∈r.Equations):Sz.szd q.Expr≤Sz.szd r:=by
 have h1:=z2q r
 have h2:=q7J q
 have h3:=q5l h
 have h4:=q4V q.Expr
 omega
theorem j5S {r:Rule}(h:Sz.szd r≤1048576)(o:Occurrence):Sz.szd (eqAt r o).1≤1048576:=by
 unfold eqAt
 cases hf:r.Equations.find? (fun q=>decide (q.At=o)) with
 | none=>show Sz.szd j5R≤_; have:Sz.szd j5R=0:=rfl; omega
 | some q=>have:=j2C (List.mem_of_find?_eq_some hf); show Sz.szd q.Expr≤_; omega
theorem j0L {r:Rule}(h:Sz.szd r≤1048576)(o:Occurrence):q4d r o=some (eqAt r o):=by
 have key:∀ (l:List Equation) (i:Nat),(∀ q∈l,Sz.szd q.Expr≤1048576)→findL (q4A o) i l ()=some (match l.find? fun q=>decide (q.At=o) with
   | some q=>.inr (q.Expr,true)
   | none=>.inl ()):=by
  intro l
  induction l with
  | nil=>intro i _; rfl
  | cons q l ih=>
   intro i hq
   by_cases hp:q.At=o
   ·simp [findL,q4A,hp,z7l (hq q (by simp))]
   ·simp [findL,q4A,hp]
    exact ih _ fun y hy=>hq y (by simp [hy])
 unfold q4d eqAt
 rw [key _ _ fun q hq=>by have:=j2C hq; omega]
 cases r.Equations.find? (fun q=>decide (q.At=o))<;>rfl
theorem j2D {r:Rule}(h:Sz.szd r≤1048576)(o:Occurrence):q4d r o=some (eqAt r o)∧q4M r o=some (eqAt r o):=by
 have e:q4M=q4d:=by
  have e1:q7K=q4A:=by funext a k x u; unfold q7K q4A; rw [j1M]
  funext r o; unfold q4M q4d; rw [e1]
 rw [e]
 exact⟨j0L h o,j0L h o⟩
end Go.Proofs.YtaholdflpgcndaaGreat
namespace Go.Proofs.YtaholdflpgcndaaGreat
open Go Go.E
abbrev GOk (g:Grammar):Prop:=∀ y∈g.Symbols,y.Attributes.length≤1048576
def zS:Symbol:=⟨⟨#[]⟩,[]⟩
def zA:Attribute:=⟨⟨#[]⟩,0,0,false⟩
def j3U (g:Grammar)(s:ByteArray):Symbol × Bool:=match g.Symbols.find? fun y=>decide (y.Name=s) with
 | some y=>(y,true)
 | none=>(zS,false)
def j5T (y:Symbol)(s:ByteArray):Attribute × Bool:=match y.Attributes.find? fun a=>decide (a.Name=s) with
 | some a=>(a,true)
 | none=>(zA,false)
theorem j2E {g:Grammar}(h:GOk g)(s:ByteArray):q6E g s=some (j3U g s):=by
 have h1:=q8f (p:=fun y:Symbol=>decide (y.Name=s)) (r:=fun y=>(y,true)) (xs:=g.Symbols) (i:=0) (f:=q9l s) fun k y hy=>by
  have hg:q7v y=some y:=by
   unfold q7v; have:=h y hy; rw [q3m (by simp only [List.length_nil]; constructor<;>omega)]
  unfold q9l; rw [hg]; constructor<;>intro hp<;>simp_all
 unfold q6E j3U
 rw [h1]
 cases hf:g.Symbols.find? (fun y:Symbol=>decide (y.Name=s)) with
 | none=>rfl
 | some y=>rfl
theorem j2F (g:Grammar)(s:ByteArray):q6J g s=some (j3U g s):=by
 have h2:=q8f (p:=fun y:Symbol=>decide (y.Name=s)) (r:=fun y=>(y,true)) (xs:=g.Symbols) (i:=0) (f:=q9o s) fun k y hy=>by
  unfold q9o; constructor<;>intro hp<;>simp_all
 unfold q6J j3U
 rw [h2]
 cases hf:g.Symbols.find? (fun y:Symbol=>decide (y.Name=s)) with
 | none=>rfl
 | some y=>rfl
theorem z8z (y:Symbol)(s:ByteArray):q4Y y s=some (j5T y s):=by
 have h2:=q8f (p:=fun y:Attribute=>decide (y.Name=s)) (r:=fun y=>(y,true)) (xs:=y.Attributes) (i:=0) (f:=q7a s) fun k y hy=>by
  unfold q7a; constructor<;>intro hp<;>simp_all
 unfold q4Y j5T
 rw [h2]
 cases hf:y.Attributes.find? (fun y:Attribute=>decide (y.Name=s)) with
 | none=>rfl
 | some y=>rfl
theorem j2G (y:Symbol)(s:ByteArray):q6e y s=some (j5T y s):=z8z y s
end Go.Proofs.YtaholdflpgcndaaGreat
namespace Go.Proofs.YtaholdflpgcndaaGreat
open Go Go.E
theorem z5q (e:Expr):1≤fuE e:=by rw [q7M]; omega
theorem z5r {e x:Expr}(hx:x∈e.Args):fuE x+1≤fuE e:=by
 have:=q9f hx
 have:=q7M e
 omega
theorem z1p {P:Expr→Prop}(h:∀ e,(∀ x∈e.Args,P x)→P e)(e:Expr):P e:=by
 have:∀ n e,fuE e≤n→P e:=by
  intro n
  induction n with
  | zero=>intro e he; have:=z5q e; omega
  | succ n ih=>intro e he; exact h e fun x hx=>ih x (by have:=z5r hx; omega)
 exact this _ e (Nat.le_refl _)
theorem z6p {α ρ:Type}{c:ρ}{q:α→Bool}:∀ {xs:List α} {i:Nat} {f:Nat→α→Unit→Option (Unit ⊕ ρ)},(∀ k x,x∈xs→f k x ()=some (if q x=true then .inl () else .inr c))→findL f i xs ()=some (if xs.all q=true then .inl () else .inr c)
 | [],i,f,h=>rfl
 | x :: xs,i,f,h=>by
  rw [findL,h i x (by simp)]
  by_cases hx:q x=true
  ·rw [if_pos hx,Option.bind_some]
   show findL f (i+1) xs ()=_
   rw [z6p fun k y hy=>h k y (by simp [hy])]
   simp [hx]
  ·rw [if_neg hx]; simp [hx]
theorem z8A {α:Type}{q:α→Bool}:∀ {xs:List α} {i:Nat} {f:Nat→α→Unit→Option (Unit ⊕ Int)},(∀ k x,x∈xs→f k x ()=some (if q x=true then .inr (k:Int) else .inl ()))→findL f i xs ()=some (if xs.any q=true then .inr ((i+xs.findIdx q:Nat):Int) else .inl ())
 | [],i,f,h=>rfl
 | x :: xs,i,f,h=>by
  rw [findL,h i x (by simp)]
  by_cases hx:q x=true
  ·rw [if_pos hx]; simp [hx,List.findIdx_cons]
  ·rw [if_neg hx,Option.bind_some]
   show findL f (i+1) xs ()=_
   rw [z8A fun k y hy=>h k y (by simp [hy])]
   have hx' : q x=false:=by simpa using hx
   simp only [List.any_cons,hx',Bool.false_or,List.findIdx_cons,cond_false]
   rw [show i+1+xs.findIdx q=i+(xs.findIdx q+1) by omega]
mutual
def allE (p:Expr→Bool):Expr→Bool
 | ⟨a0,a1,a2,a3,a4,a5,a6⟩=>p ⟨a0,a1,a2,a3,a4,a5,a6⟩&&j3V p a6
def j3V (p:Expr→Bool):List Expr→Bool
 | []=>true
 | x :: xs=>allE p x&&j3V p xs
end
mutual
def cntE:Expr→Nat
 | ⟨_,_,_,_,_,_,a6⟩=>z0b a6+1
def z0b:List Expr→Nat
 | []=>0
 | x :: xs=>cntE x+z0b xs
end
mutual
def depE:Expr→Nat
 | ⟨_,_,_,_,_,_,a6⟩=>z5U a6+1
def z5U:List Expr→Nat
 | []=>0
 | x :: xs=>max (depE x) (z5U xs)
end
theorem j0M (p:Expr→Bool):∀ l,j3V p l=l.all (allE p)
 | []=>rfl
 | x :: xs=>by rw [j3V,j0M p xs]; rfl
theorem z9Z (p:Expr→Bool)(e:Expr):allE p e=(p e&&e.Args.all (allE p)):=by
 cases e; rw [allE,j0M]
theorem z3f (e:Expr):cntE e=z0b e.Args+1:=by cases e; rfl
theorem j2H (e:Expr):depE e=z5U e.Args+1:=by cases e; rfl
mutual
theorem j0N:∀ e:Expr,cntE e≤1+q7r e
 | ⟨a0,a1,a2,a3,a4,a5,a6⟩=>by
  have:=z8B a6
  simp only [cntE,q7r]; omega
theorem z8B:∀ l:List Expr,z0b l≤q9e l
 | []=>by simp [z0b]
 | x :: xs=>by
  have h1:=j0N x
  have h2:=z8B xs
  simp only [z0b,q9e]; omega
end
mutual
theorem j2I:∀ e:Expr,depE e≤cntE e
 | ⟨_,_,_,_,_,_,a6⟩=>by
  have:=j0O a6
  simp only [depE,cntE]; omega
theorem j0O:∀ l:List Expr,z5U l≤z0b l
 | []=>Nat.le_refl _
 | x :: xs=>by
  have h1:=j2I x
  have h2:=j0O xs
  simp only [z5U,z0b]; omega
end
theorem z8C:∀ {l:List Expr} {x:Expr},x∈l→cntE x≤z0b l
 | y :: l,x,h=>by
  simp only [z0b]
  rcases List.mem_cons.1 h with e | h
  ·subst e; omega
  ·have:=z8C h; omega
theorem j2J {e x:Expr}(hx:x∈e.Args):cntE x+1≤cntE e:=by
 have:=z8C hx
 have:=z3f e
 omega
theorem j1N (e:Expr):∀ m,fuE e≤m→cntE e≤1099511627776→q6q m e=some (cntE e:Int):=by
 induction e using z1p with
 | h e ih=>
  intro m hm hc
  obtain⟨m,rfl⟩:∃ q,m=q+1:=⟨m - 1,by have:=z5q e; omega⟩
  show q7A (q6q m) e=_
  unfold q7A
  have key:∀ (l:List Expr) (i s:Nat),(∀ x∈l,x∈e.Args)→s+z0b l≤1099511627776→eachL (q7R (q6q m)) i l (s:Int)=some ((s+z0b l:Nat):Int):=by
   intro l
   induction l with
   | nil=>intro i s _ _; rfl
   | cons x l ihl=>
    intro i s hx hs
    have hxm:=hx x (by simp)
    simp only [z0b] at hs
    have h1:=ih x hxm m (by have:=z5r hxm; omega) (by omega)
    rw [eachL]
    unfold q7R
    rw [h1,Option.bind_some,q3m (by constructor<;>omega),Option.bind_some]
    have:=ihl (i+1) (s+cntE x) (fun y hy=>hx y (by simp [hy])) (by omega)
    rw [Int.natCast_add] at this
    unfold q7R at this
    rw [this,z0b]
    congr 1; omega
  rw [z3f] at hc
  have:=key e.Args 0 1 (fun _ h=>h) (by omega)
  rw [show ((1:Nat):Int)=1 from rfl] at this
  rw [this,Option.bind_some,z3f,Nat.add_comm]
theorem j2K {e:Expr}(h:cntE e≤1099511627776):z0F e=some (cntE e:Int):=q6u (fuE e) fun m hm=>j1N e m hm h
theorem j6T (a b:Nat):(if (b:Int) > (a:Int) then (b:Int) else (a:Int))=((max a b:Nat):Int):=by
 split<;>omega
theorem z5s {f:Expr→Option Int}{g:Nat→Expr→Int→Option Int}(hg:∀ k x s,g k x s=(f x).bind fun y=>some (if y > s then y else s)):∀ (l:List Expr) (i s:Nat),(∀ x∈l,f x=some (depE x:Int))→eachL g i l (s:Int)=some ((max s (z5U l):Nat):Int)
 | [],i,s,_=>by rw [eachL,z5U,Nat.max_zero]
 | x :: l,i,s,h=>by
  rw [eachL,hg,h x (by simp),Option.bind_some,Option.bind_some,j6T,z5s hg l (i+1) _ fun y hy=>h y (by simp [hy]),z5U,Nat.max_assoc]
theorem z7m (a b:Int):q8S a b=some (if b > a then b else a):=by
 unfold q8S
 by_cases h:b < a
 ·rw [if_pos h,if_neg (by omega)]
 ·rw [if_neg h]
  split
  ·rfl
  ·congr 1; omega
theorem z6q (e:Expr):∀ m,fuE e≤m→cntE e≤1099511627776→q4q m e=some (depE e:Int)∧q4p m e=some (depE e:Int):=by
 induction e using z1p with
 | h e ih=>
  intro m hm hc
  obtain⟨m,rfl⟩:∃ q,m=q+1:=⟨m - 1,by have:=z5q e; omega⟩
  show q5Y (q4q m) e=_∧q5V (q4p m) e=_
  unfold q5Y q5V
  have hx:∀ x∈e.Args,q4q m x=some (depE x:Int)∧q4p m x=some (depE x:Int):=fun x hx=>ih x hx m (by have:=z5r hx; omega) (by have:=j2J hx; omega)
  have k1:=z5s (f:=q4q m) (g:=z0G (q4q m)) (fun k x s=>rfl) e.Args 0 0 fun x h=>(hx x h).1
  have k2:=z5s (f:=q4p m) (g:=q8r (q4p m)) (fun k x s=>by
   unfold q8r
   congr 1; funext y
   rw [z7m,Option.bind_some]) e.Args 0 0 fun x h=>(hx x h).2
  rw [show ((0:Nat):Int)=0 from rfl] at k1 k2
  have hd:=j2I e
  rw [j2H] at hd
  rw [k1,k2]
  have hg:I64 (((max 0 (z5U e.Args):Nat):Int)+1):=by constructor<;>omega
  have he:((max 0 (z5U e.Args):Nat):Int)+1=(depE e:Int):=by rw [j2H]; omega
  refine⟨?_,?_⟩
  ·rw [Option.bind_some,q3m hg,he]
  ·rw [Option.bind_some,q3m hg,he]
theorem j2L {e:Expr}(h:cntE e≤1099511627776):q9p e=some (depE e:Int):=q6u (fuE e) fun m hm=>(z6q e m hm h).1
theorem j2M {e:Expr}(h:cntE e≤1099511627776):q9m e=some (depE e:Int):=q6u (fuE e) fun m hm=>(z6q e m hm h).2
def z3Y (a:Int)(n:Nat):Int:=if (n:Int)≤a then a - n else -1
theorem j2N (e:Expr):∀ m,fuE e≤m→∀ a:Int,0≤a→a≤1048576→cntE e≤1099511627776→q8q m e a=some (z3Y a (cntE e)):=by
 induction e using z1p with
 | h e ih=>
  intro m hm a h0 h1 hc
  obtain⟨m,rfl⟩:∃ q,m=q+1:=⟨m - 1,by have:=z5q e; omega⟩
  show z0z (q8q m) e a=_
  unfold z0z
  rw [q3m (by constructor<;>omega)]
  have hlen:e.Args.length≤cntE e:=by
   rw [z3f]
   have:∀ l:List Expr,l.length≤z0b l:=by
    intro l
    induction l with
    | nil=>simp
    | cons x l ih=>
     have:=z3f x
     simp only [z0b,List.length_cons]; omega
   have:=this e.Args; omega
  have key:∀ (n k:Nat) (s:Int),k+n=e.Args.length→-1≤s→s≤1048576→q4B (q8b (q8q m) e) (s,(k:Int))=some (if 0≤s then z3Y s (z0b (e.Args.drop k)) else s):=by
   intro n
   induction n with
   | zero=>
    intro k s hk _ _
    have hdrop:e.Args.drop k=[]:=List.drop_eq_nil_of_le (by omega)
    refine q3Z ?_
    unfold q8b
    dsimp only
    rw [if_neg (by omega),hdrop]
    congr 2
    split
    ·unfold z3Y; simp [z0b]; omega
    ·rfl
   | succ n ihn=>
    intro k s hk hs1 hs2
    have hkl:k < e.Args.length:=by omega
    by_cases hs:0≤s
    ·have hxm:e.Args[k]∈e.Args:=List.getElem_mem hkl
     have hr:=ih _ hxm m (by have:=z5r hxm; omega) s hs hs2 (by have:=j2J hxm; omega)
     have hstep:q8b (q8q m) e (s,(k:Int))=some (.inl (z3Y s (cntE e.Args[k]),((k+1:Nat):Int))):=by
      unfold q8b
      dsimp only
      rw [if_pos (by omega),if_pos hs,q3m (by omega),Int.toNat_natCast,List.getElem?_eq_getElem hkl,Option.bind_some,hr,Option.bind_some,q3m (by constructor<;>omega)]
      rfl
     have hb1:-1≤z3Y s (cntE e.Args[k]):=by unfold z3Y; split<;>omega
     have hb2:z3Y s (cntE e.Args[k])≤1048576:=by unfold z3Y; split<;>omega
     rw [q5b hstep,ihn (k+1) _ (by omega) hb1 hb2,if_pos hs]
     have hd:e.Args.drop k=e.Args[k] :: e.Args.drop (k+1):=List.drop_eq_getElem_cons hkl
     rw [hd,z0b]
     congr 1
     unfold z3Y
     split<;>split<;>(try split)<;>omega
    ·refine q3Z ?_
     unfold q8b
     dsimp only
     rw [if_pos (by omega),if_neg hs,if_neg hs]
  have:=key e.Args.length 0 (a - 1) (by omega) (by omega) (by omega)
  rw [show ((0:Nat):Int)=0 from rfl] at this
  rw [this,Option.bind_some,List.drop_zero,z3f]
  congr 1
  unfold z3Y
  split<;>(try split)<;>(try split)<;>omega
theorem j3W {e:Expr}{a:Int}(h0:0≤a)(h1:a≤1048576)(h:cntE e≤1099511627776):z4M e a=some (z3Y a (cntE e)):=q6u (fuE e) fun m hm=>j2N e m hm a h0 h1 h
end Go.Proofs.YtaholdflpgcndaaGreat
namespace Go.Proofs.YtaholdflpgcndaaGreat
open Go Go.E
theorem z8D (x lo hi:Int):q3K x lo hi=some (decide (lo≤x∧x≤hi)):=by
 unfold q3K; by_cases h:lo≤x<;>simp [h]
theorem z3Z (x lo hi:Int):q4a x lo hi=some (decide (lo≤x∧x≤hi)):=by
 unfold q4a; by_cases h:lo≤x<;>simp [h]
def lowB (c:UInt8):Bool:=decide (97≤(c.toNat:Int)∧(c.toNat:Int)≤122)
def digB (c:UInt8):Bool:=decide (48≤(c.toNat:Int)∧(c.toNat:Int)≤57)
theorem z3g (c:UInt8):q8e c=some (lowB c):=by
 unfold q8e lowB; by_cases h:97≤(c.toNat:Int)<;>simp [h]
theorem j1O (c:UInt8):q9E c=some (digB c):=by
 unfold q9E digB; by_cases h:48≤(c.toNat:Int)<;>simp [h]
def allN (q:Nat→Bool):Nat→Nat→Bool
 | _,0=>true
 | i,n+1=>q i&&allN q (i+1) n
theorem z6r {q r:Nat→Bool}:∀ {n i:Nat},(∀ k,i≤k→q k=r k)→allN q i n=allN r i n
 | 0,_,_=>rfl
 | n+1,i,h=>by rw [allN,allN,h i (Nat.le_refl _),z6r fun k hk=>h k (by omega)]
theorem z3h {ρ:Type}{c:ρ}{q:Nat→Bool}:∀ {n i:Nat} {f:Nat→Unit→Option (Unit ⊕ ρ)},(∀ k,k < n→f (i+k) ()=some (if q (i+k)=true then .inl () else .inr c))→findN f i n ()=some (if allN q i n=true then .inl () else .inr c)
 | 0,i,f,h=>rfl
 | n+1,i,f,h=>by
  have h0:=h 0 (by omega)
  rw [Nat.add_zero] at h0
  rw [findN,h0]
  by_cases hx:q i=true
  ·rw [if_pos hx,Option.bind_some]
   show findN f (i+1) n ()=_
   rw [z3h fun k hk=>by have:=h (k+1) (by omega); rwa [show i+(k+1)=i+1+k by omega] at this]
   simp [allN,hx]
  ·rw [if_neg hx]; simp [allN,hx]
def chr (s:ByteArray)(k:Nat):UInt8:=s.data.getD k 0
theorem z7n {s:ByteArray}{k:Nat}(h:k < s.size):s.data[k]? = some (chr s k):=by
 have h' : k < s.data.size:=h
 unfold chr
 rw [Array.getD_eq_getD_getElem?,Array.getElem?_eq_getElem h']; rfl
def z2v:List ByteArray:=[⟨#[105,102]⟩,⟨#[116,104,101,110]⟩,⟨#[101,108,115,101]⟩,⟨#[116,114,117,101]⟩,⟨#[102,97,108,115,101]⟩,⟨#[108,105,116]⟩,⟨#[110,111,110,101]⟩,⟨#[115,101,108,102]⟩,⟨#[111,102]⟩,⟨#[109,97,120]⟩,⟨#[109,105,110]⟩,⟨#[119,105,116,104]⟩,⟨#[104,97,115]⟩]
def memB (s:ByteArray)(l:List ByteArray):Bool:=l.any fun x=>decide (x=s)
theorem j3X {s:ByteArray}{l:List ByteArray}:memB s l=true↔s∈l:=by
 unfold memB; rw [List.any_eq_true]
 exact⟨fun ⟨x,h1,h2⟩=>by simp at h2; exact h2▸h1,fun h=>⟨s,h,by simp⟩⟩
theorem j3Y {s:ByteArray}{l:List ByteArray}(h:s ∉ l):memB s l=false:=by
 cases hb:memB s l with
 | false=>rfl
 | true=>exact absurd (j3X.1 hb) h
def resB (s:ByteArray):Bool:=memB s z2v
theorem j3Z (l:List ByteArray)(s:ByteArray):z2d l s=some (memB s l):=by
 unfold z2d
 have:∀ (l:List ByteArray) (i:Nat),findL (z4O s) i l ()=some (if memB s l=true then .inr true else .inl ()):=by
  intro l
  induction l with
  | nil=>intro i; rfl
  | cons x l ih=>
   intro i
   rw [findL]
   unfold z4O at ih ⊢
   have hc:memB s (x :: l)=(decide (x=s)||memB s l):=rfl
   by_cases h:x=s
   ·rw [if_pos h,hc]; simp [h]
   ·rw [if_neg h,Option.bind_some]
    show findL _ (i+1) l ()=_
    rw [ih,hc]; simp [h]
 rw [this,Option.bind_some]
 cases memB s l<;>rfl
theorem j5U (s:ByteArray):q6G s=some (resB s):=by
 unfold q6G q7Q
 rw [Option.bind_some,j3Z]; rfl
theorem j5V (s:ByteArray):q6L s=some (resB s):=by
 by_cases h:s∈z2v
 ·unfold z2v at h
  simp only [List.mem_cons,List.not_mem_nil,or_false] at h
  rcases h with h | h | h | h | h | h | h | h | h | h | h | h | h<;>subst h<;>rfl
 ·unfold resB
  rw [j3Y h]
  unfold z2v at h
  simp only [List.mem_cons,List.not_mem_nil,or_false,not_or] at h
  obtain⟨h1,h2,h3,h4,h5,h6,h7,h8,h9,h10,h11,h12,h13⟩:=h
  unfold q6L
  rw [if_neg h1,if_neg h2,if_neg h3,if_neg h4,if_neg h5,if_neg h6,if_neg h7,if_neg h8,if_neg h9,if_neg h10,if_neg h11,if_neg h12]
  simp [h13]
def z3i (s:ByteArray):Bool:=decide (0 < s.size∧s.size≤8)&&(lowB (chr s 0)&&allN (fun k=>lowB (chr s k)||digB (chr s k)) 1 (s.size - 1) && !resB s)
theorem j4a (s:ByteArray):q4I s=some (z3i s):=by
 unfold q4I
 rw [z3h (c:=false) (q:=fun k=>lowB (chr s k)||digB (chr s k)) fun k hk=>by
  rw [Nat.zero_add]
  unfold z0H
  rw [z7n hk,Option.bind_some,z3g,Option.bind_some]
  cases lowB (chr s k) with
  | true=>rfl
  | false=>
   rw [if_neg (by simp),j1O,Option.bind_some]
   cases digB (chr s k)<;>rfl]
 rw [Option.bind_some]
 by_cases h0:0 < s.size
 ·obtain⟨n,hn⟩:∃ n,s.size=n+1:=⟨s.size - 1,by omega⟩
  unfold z3i
  rw [hn,allN,Nat.add_sub_cancel]
  cases ha:allN (fun k=>lowB (chr s k)||digB (chr s k)) (0+1) n with
  | false=>
   rw [Bool.and_false,if_neg (by simp)]
   rw [Nat.zero_add] at ha
   simp [onr,ha]
  | true=>
   rw [Nat.zero_add] at ha
   try rw [ha]
   simp only [Bool.and_true]
   have hc:=z7n h0
   cases hl:lowB (chr s 0) with
   | false=>
    cases hd:digB (chr s 0) with
    | false=>simp [onr]
    | true=>
     rw [if_pos (by simp)]
     show (q3K _ 1 8).bind _=_
     rw [z8D,Option.bind_some]
     split
     ·rw [hc,Option.bind_some,z3g,hl]; simp
     ·simp
   | true=>
    rw [if_pos (by simp)]
    show (q3K _ 1 8).bind _=_
    rw [z8D,Option.bind_some]
    by_cases h8:n+1≤8
    ·rw [if_pos (by simp; omega),hc,Option.bind_some,z3g,hl]
     simp [j5V,h8]
    ·rw [if_neg (by simp; omega)]; simp [h8]
 ·have hs:s.size=0:=by omega
  unfold z3i
  rw [hs,allN,if_pos rfl,z4n,z8D,Option.bind_some]
  simp
theorem z7o (s:ByteArray):q4H s=some (z3i s):=by
 unfold q4H z1j
 rw [z3h (c:=false) (q:=fun k=>lowB (chr s k)||(decide (k≠0)&&digB (chr s k))) fun k hk=>by
  rw [Nat.zero_add]
  unfold z4N
  rw [z7n hk,Option.bind_some]
  have e1:(if 97≤((chr s k).toNat:Int) then some (decide (((chr s k).toNat:Int)≤122)) else some false)=some (lowB (chr s k)):=by
   unfold lowB; by_cases h:97≤((chr s k).toNat:Int)<;>simp [h]
  have e2:(if 48≤((chr s k).toNat:Int) then some (decide (((chr s k).toNat:Int)≤57)) else some false)=some (digB (chr s k)):=by
   unfold digB; by_cases h:48≤((chr s k).toNat:Int)<;>simp [h]
  rw [e1,e2,Option.bind_some,Option.bind_some]
  cases lowB (chr s k) with
  | true=>rfl
  | false=>
   by_cases hk0:k=0
   ·subst hk0; simp
   ·have:¬ ((k:Int)=0):=by omega
    rw [if_neg (by simp),if_neg this]
    cases digB (chr s k)<;>simp [hk0]]
 rw [Option.bind_some]
 by_cases h0:0 < s.size
 ·obtain⟨n,hn⟩:∃ n,s.size=n+1:=⟨s.size - 1,by omega⟩
  unfold z3i
  rw [hn,allN,Nat.add_sub_cancel,Nat.zero_add,z6r (n:=n) (i:=1) (q:=fun k=>lowB (chr s k)||(decide (k≠0)&&digB (chr s k))) (r:=fun k=>lowB (chr s k)||digB (chr s k)) fun k hk=>by simp [show k≠0 by omega]]
  have e0:(lowB (chr s 0)||(decide ((0:Nat)≠0)&&digB (chr s 0)))=lowB (chr s 0):=by simp
  rw [e0]
  cases hA:(lowB (chr s 0)&&allN (fun k=>lowB (chr s k)||digB (chr s k)) 1 n) with
  | false=>simp [onr]
  | true=>
   rw [if_pos rfl]
   simp only [onr,Option.bind_some]
   by_cases h8:n+1≤8
   ·simp [j5U,h8]; omega
   ·simp [h8]; omega
 ·have hs:s.size=0:=by omega
  unfold z3i
  rw [hs]
  simp [onr,allN]
end Go.Proofs.YtaholdflpgcndaaGreat
namespace Go.Proofs.YtaholdflpgcndaaGreat
open Go Go.E
def satI (v:Int):Int:=if (-1000000:Int) > (if (1000000:Int) < v then (1000000:Int) else v) then (-1000000:Int) else (if (1000000:Int) < v then (1000000:Int) else v)
theorem j5W (v:Int):-1000000≤satI v∧satI v≤1000000:=by
 unfold satI
 split<;>split<;>constructor<;>omega
def truI (b:Bool):Int:=if b=true then 1 else 0
def z2w (v k:Int):Int:=if k=1 then satI v else if k=2 then z4p v 4095 else if k=3 then truI (!decide (v=0)) else if k=4 then (if 0≤v∧v≤999 then v else 0) else 0
theorem z7p (v:Int):q6m v=some (satI v):=rfl
theorem j2O (a b:Int):z1i a b=some (if b < a then b else a):=by
 unfold z1i
 by_cases h:a < b
 ·rw [if_pos h,if_neg (by omega)]
 ·rw [if_neg h]
  split
  ·rfl
  ·congr 1; omega
theorem z7q (v:Int):q5r v=some (satI v):=by
 unfold q5r
 rw [j2O,Option.bind_some,z7m,Option.bind_some]
 congr 1
 unfold satI
 split<;>split<;>(try split)<;>(try split)<;>omega
theorem z5t (b:Bool):q9W b=some (truI b):=by unfold q9W truI; cases b<;>rfl
theorem z2x (b:Bool):q5H b=some (truI b):=by unfold q5H truI; cases b<;>rfl
theorem z7r (v k:Int):q8y v k=some (z2w v k):=by
 unfold q8y z2w
 rw [z7p,z5t,z8D]
 by_cases h1:k=1
 ·rw [if_pos h1,if_pos h1]; rfl
 by_cases h2:k=2
 ·rw [if_neg h1,if_neg h1,if_pos h2,if_pos h2]
 by_cases h3:k=3
 ·rw [if_neg h1,if_neg h1,if_neg h2,if_neg h2,if_pos h3,if_pos h3]; rfl
 by_cases h4:k=4
 ·rw [if_neg h1,if_neg h1,if_neg h2,if_neg h2,if_neg h3,if_neg h3,if_pos h4,if_pos h4,Option.bind_some]
  by_cases h:0≤v∧v≤999<;>simp [h]
 ·rw [if_neg h1,if_neg h1,if_neg h2,if_neg h2,if_neg h3,if_neg h3,if_neg h4,if_neg h4]
theorem z7s (v k:Int):q8s v k=some (z2w v k):=by
 unfold q8s z2w
 rw [z7q,z2x,z3Z]
 by_cases h1:k=1
 ·rw [if_pos h1,if_pos h1]; rfl
 by_cases h2:k=2
 ·rw [if_neg h1,if_neg h1,if_pos h2,if_pos h2]
 by_cases h3:k=3
 ·rw [if_neg h1,if_neg h1,if_neg h2,if_neg h2,if_pos h3,if_pos h3]; rfl
 by_cases h4:k=4
 ·rw [if_neg h1,if_neg h1,if_neg h2,if_neg h2,if_neg h3,if_neg h3,if_pos h4,if_pos h4,Option.bind_some]
  by_cases h:0≤v∧v≤999<;>simp [h]
 ·rw [if_neg h1,if_neg h1,if_neg h2,if_neg h2,if_neg h3,if_neg h3,if_neg h4,if_neg h4]
def z7t (v k:Int):Bool:=decide (1≤k∧k≤4)&&decide (z2w v k=v)
theorem j4b (v k:Int):q8z v k=some (z7t v k):=by
 unfold q8z z2g z7t
 rw [z8D,Option.bind_some,Option.bind_some,z7r,Option.bind_some]
 by_cases h:1≤k∧k≤4<;>simp [h]
theorem j4c (v k:Int):q8t v k=some (z7t v k):=by
 unfold q8t z7t
 rw [z3Z,Option.bind_some,z7s,Option.bind_some]
 by_cases h:1≤k∧k≤4<;>simp [h]
def opT (n:Int):Int × Int × Int:=
 if 1≤n∧n≤5 then (1,1,1) else if 6≤n∧n≤8 then (2,2,2) else if n=9∨n=10 then (1,1,3) else if n=11 then (2,1,3) else if n=12 then (2,1,2) else (0,0,0)
theorem j6U {n a b c d e:Int}:(if n=a then some (decide (n=a)) else if n=b then some (decide (n=b)) else if n=c then some (decide (n=c)) else if n=d then some (decide (n=d)) else some (decide (n=e)))=some (decide (n=a∨n=b∨n=c∨n=d∨n=e)):=by
 by_cases h1:n=a
 ·simp [h1]
 by_cases h2:n=b
 ·simp [h1,h2]
 by_cases h3:n=c
 ·rw [if_neg h1,if_neg h2,if_pos h3]; simp [h3]
 by_cases h4:n=d
 ·rw [if_neg h1,if_neg h2,if_neg h3,if_pos h4]; simp [h4]
 ·simp [h1,h2,h3,h4]
theorem j6V {n a b c:Int}:(if n=a then some (decide (n=a)) else if n=b then some (decide (n=b)) else some (decide (n=c)))=some (decide (n=a∨n=b∨n=c)):=by
 by_cases h1:n=a
 ·simp [h1]
 by_cases h2:n=b
 ·simp [h1,h2]
 ·simp [h1,h2]
theorem j5X (n:Int):q5w n=some (opT n):=by
 unfold q5w opT
 rw [j6U,j6V]
 simp only [Option.bind_some]
 by_cases h1:1≤n∧n≤5
 ·rw [if_pos (by simp; omega),if_pos h1]
 rw [if_neg (by simp; omega),if_neg h1]
 by_cases h2:6≤n∧n≤8
 ·rw [if_pos (by simp; omega),if_pos h2]
 rw [if_neg (by simp; omega),if_neg h2]
 by_cases h3:n=9
 ·simp [h3]
 by_cases h3' : n=10
 ·simp [h3']
 by_cases h4:n=11
 ·simp [h4]
 by_cases h5:n=12
 ·simp [h5]
 simp [h3,h3',h4,h5]
theorem j5Y (n:Int):q5s n=some (opT n):=by
 unfold q5s opT
 rw [z3Z,z3Z]
 simp only [Option.bind_some]
 by_cases h1:1≤n∧n≤5
 ·rw [if_pos (by simpa using h1),if_pos h1]
 rw [if_neg (by simpa using h1),if_neg h1]
 by_cases h2:6≤n∧n≤8
 ·rw [if_pos (by simpa using h2),if_pos h2]
 rw [if_neg (by simpa using h2),if_neg h2]
 by_cases h3:n=9
 ·rw [if_pos h3,if_pos (.inl h3)]
 rw [if_neg h3]
 by_cases h3' : n=10
 ·rw [if_pos h3',if_pos (.inr h3')]
 have h33:¬(n=9∨n=10):=by omega
 rw [if_neg h3',if_neg h33]
 by_cases h4:n=11
 ·rw [if_pos h4,if_pos h4]
 rw [if_neg h4,if_neg h4]
 by_cases h5:n=12
 ·rw [if_pos h5,if_pos h5]
 rw [if_neg h5,if_neg h5]
end Go.Proofs.YtaholdflpgcndaaGreat
namespace Go.Proofs.YtaholdflpgcndaaGreat
open Go Go.E
theorem j5Z (a b:Expr):q4h a b=some (decide (a.Kind=b.Kind)&&(decide (a.N=b.N)&&(decide (a.Pos=b.Pos)&&(decide (a.Type_=b.Type_)&&(decide (a.Symbol=b.Symbol)&&decide (a.Name=b.Name)))))):=by
 unfold q4h
 by_cases h1:a.Kind=b.Kind
 ·rw [if_pos h1,Option.bind_some]
  by_cases h2:a.N=b.N
  ·by_cases h3:a.Pos=b.Pos
   ·by_cases h4:a.Type_=b.Type_
    ·by_cases h5:a.Symbol=b.Symbol
     ·simp [h1,h2,h3,h4,h5]
     ·simp [h1,h2,h3,h4,h5]
    ·simp [h1,h2,h3,h4]
   ·simp [h1,h2,h3]
  ·simp [h1,h2]
 ·simp [h1]
def z7u (k:Int):Int:=if k=4 then 2 else if k=5 then 3 else if k=8 then 1 else 0
def j0a (e:Expr):Bool:=decide ((e.Args.length:Int)=z7u e.Kind)&&((decide (e.Kind=3∨e.Kind=6)||decide (e.Pos=0))&&((decide (e.Kind=3∨e.Kind=8)||decide (e.Name=⟨#[]⟩))&&((decide (e.Kind=1∨e.Kind=4)||decide (e.N=0))&&((decide (e.Kind=1)||decide (e.Type_=0))&&(decide (e.Kind=8)||decide (e.Symbol=⟨#[]⟩))))))
theorem j6a (e:Expr):z0A e=some (j0a e):=by
 unfold z0A
 have h0:(if e.Kind=4 then some 2 else if e.Kind=5 then some 3 else if e.Kind=8 then some 1 else some (0:Int))=some (z7u e.Kind):=by
  unfold z7u
  split
  ·rfl
  ·split
   ·rfl
   ·split<;>rfl
 have or2:∀ a b:Prop,[Decidable a]→[Decidable b]→(if a then some true else some (decide b))=some (decide (a∨b)):=fun a b _ _=>by
  by_cases h:a<;>simp [h]
 have or1:∀ (a:Prop) (b:Bool),[Decidable a]→(if a then some true else some b)=some (decide a||b):=fun a b _=>by
  by_cases h:a<;>simp [h]
 have orB:∀ a b:Bool,(if a=true then some true else some b)=some (a||b):=fun a b=>by cases a<;>rfl
 have andB:∀ a b:Bool,(if a=true then some b else some false)=some (a&&b):=fun a b=>by cases a<;>rfl
 rw [h0,Option.bind_some]
 unfold j0a
 by_cases hl:(e.Args.length:Int)=z7u e.Kind
 ·rw [if_pos hl]
  simp only [or2,or1,orB,andB,Option.bind_some]
  simp [hl,Bool.and_assoc]
 ·rw [if_neg hl]; simp [hl]
def j4d (e:Expr):Bool:=
 if e.Kind=1 then (decide (1≤e.Type_∧e.Type_≤3)&&z7t e.N e.Type_)&&decide (0≤e.N)
 else if e.Kind=3 then decide (0≤e.Pos∧e.Pos≤3)&&z3i e.Name
 else if e.Kind=6 then decide (0≤e.Pos∧e.Pos≤3)
 else if e.Kind=4 then decide (1≤e.N∧e.N≤12)
 else if e.Kind=8 then z3i e.Symbol&&z3i e.Name
 else true
def q8H (e:Expr):Bool:=(decide (1≤e.Kind∧e.Kind≤8)&&j0a e)&&j4d e
theorem j4e (e:Expr):z0B e=some (q8H e):=by
 unfold z0B q8H
 rw [z3Z,Option.bind_some,j6a,Option.bind_some]
 by_cases hk:1≤e.Kind∧e.Kind≤8
 ·rw [if_pos (by simpa using hk),Option.bind_some]
  cases j0a e with
  | false=>simp
  | true=>
   rw [if_neg (by simp)]
   unfold j4d
   by_cases k1:e.Kind=1
   ·rw [if_pos k1,if_pos k1,z3Z,Option.bind_some,j4c,Option.bind_some]
    by_cases h:1≤e.Type_∧e.Type_≤3
    ·cases z7t e.N e.Type_<;>simp [h,hk]
    ·simp [h,hk]
   rw [if_neg k1,if_neg k1]
   by_cases k3:e.Kind=3
   ·rw [if_pos k3,if_pos k3,z3Z,Option.bind_some,z7o]
    by_cases h:0≤e.Pos∧e.Pos≤3
    ·simp [h,hk]
    ·simp [h,hk]
   rw [if_neg k3,if_neg k3]
   by_cases k6:e.Kind=6
   ·rw [if_pos k6,if_pos k6,z3Z]; simp [hk]
   rw [if_neg k6,if_neg k6]
   by_cases k4:e.Kind=4
   ·rw [if_pos k4,if_pos k4,z3Z]; simp [hk]
   rw [if_neg k4,if_neg k4]
   by_cases k8:e.Kind=8
   ·rw [if_pos k8,if_pos k8,z7o,Option.bind_some,z7o]
    cases z3i e.Symbol<;>simp [hk]
   rw [if_neg k8,if_neg k8]; simp [hk]
 ·rw [if_neg (by simpa using hk)]; simp [hk]
theorem j4f (e:Expr):q6M e=some (q8H e):=by
 unfold q6M q8H j0a j4d z7u
 simp only [j5Z,z8D,j4b,j4a,Option.bind_some]
 have hp3:e.Pos=0→(0≤e.Pos∧e.Pos≤3):=fun h=>by omega
 by_cases k1:e.Kind=1
 ·simp [k1]
  have ht:z7t e.N e.Type_=true→1≤e.Type_∧e.Type_≤4:=fun h=>by
   unfold z7t at h; simp at h; exact h.1
  cases hb:z7t e.N e.Type_ with
  | false=>by_cases h4:e.Type_=4<;>simp [h4]
  | true=>
   obtain⟨t1,t2⟩:=ht hb
   by_cases h4:e.Type_=4
   ·simp [h4]
   ·by_cases hn:e.N < 0
    ·have:¬ 0≤e.N:=by omega
     simp [h4,hn,this]
    ·have h0:0≤e.N:=by omega
     have h3:e.Type_≤3:=by omega
     by_cases a:e.Args=[]
     ·by_cases p:e.Pos=0
      ·simp [h4,hn,h0,h3,t1,a,p,Bool.and_comm]
      ·simp [h4,hn,h0,h3,t1,a,p]
     ·simp [h4,hn,h0,h3,t1,a]
 by_cases k3:e.Kind=3
 ·simp [k1,k3]
  cases z3i e.Name with
  | false=>simp
  | true=>
   by_cases a:e.Args=[]
   ·by_cases p:0≤e.Pos∧e.Pos≤3
    ·simp [a,p]
    ·have:(decide (0≤e.Pos)&&decide (e.Pos≤3))=false:=by simp; omega
     simp [a,this]
   ·simp [a]
 by_cases k4:e.Kind=4
 ·simp [k1,k3,k4]
  by_cases n:1≤e.N∧e.N≤12
  ·by_cases a:(e.Args.length:Int)=2
   ·by_cases p:e.Pos=0
    ·simp [n,a,p]; cases decide (e.Type_=0)<;>cases decide (e.Symbol=⟨#[]⟩)<;>cases decide (e.Name=⟨#[]⟩)<;>rfl
    ·simp [n,a,p]
   ·simp [n,a]
  ·have:(decide (1≤e.N)&&decide (e.N≤12))=false:=by simp; omega
   rw [if_neg n,this]; simp
 have close3:∀ c:Bool,((if c=true then some (decide (0≤e.Pos)&&decide (e.Pos≤3)) else some false).bind fun s9=>
   if s9=true then some (decide (e.N=0)&&(decide (e.Pos=0)&&(decide (e.Type_=0)&&(decide (e.Symbol=⟨#[]⟩)&&decide (e.Name=⟨#[]⟩))))) else some false) =
  some (c&&(decide (e.Pos=0)&&(decide (e.Name=⟨#[]⟩)&&(decide (e.N=0)&&(decide (e.Type_=0)&&decide (e.Symbol=⟨#[]⟩)))))):=fun c=>by
  cases c with
  | false=>simp
  | true=>
   by_cases p:e.Pos=0
   ·simp [p]; cases decide (e.N=0)<;>cases decide (e.Type_=0)<;>cases decide (e.Symbol=⟨#[]⟩)<;>cases decide (e.Name=⟨#[]⟩)<;>rfl
   ·simp [p]
 by_cases k5:e.Kind=5
 ·simp [k1,k3,k4,k5]
  simpa using close3 (decide ((e.Args.length:Int)=3))
 by_cases k6:e.Kind=6
 ·simp [k1,k3,k4,k5,k6]
  by_cases a:e.Args=[]
  ·by_cases p:0≤e.Pos∧e.Pos≤3
   ·simp [a,p]; cases decide (e.N=0)<;>cases decide (e.Type_=0)<;>cases decide (e.Symbol=⟨#[]⟩)<;>cases decide (e.Name=⟨#[]⟩)<;>rfl
   ·have:(decide (0≤e.Pos)&&decide (e.Pos≤3))=false:=by simp; omega
    simp [a,this]
  ·simp [a]
 by_cases k8:e.Kind=8
 ·simp [k1,k3,k4,k5,k6,k8]
  cases z3i e.Symbol with
  | false=>simp
  | true=>
   cases z3i e.Name with
   | false=>simp
   | true=>
    by_cases a:(e.Args.length:Int)=1
    ·by_cases p:e.Pos=0
     ·simp [a,p]
     ·simp [a,p]
    ·simp [a]
 by_cases k2:e.Kind=2
 ·simp [k1,k3,k4,k5,k6,k8,k2]
  simpa using close3 (decide (e.Args=[]))
 by_cases k7:e.Kind=7
 ·simp [k1,k3,k4,k5,k6,k8,k2,k7]
  simpa using close3 (decide (e.Args=[]))
 ·simp [k1,k3,k4,k5,k6,k8,k2,k7]
  intro h1 h2; omega
end Go.Proofs.YtaholdflpgcndaaGreat
namespace Go.Proofs.YtaholdflpgcndaaGreat
open Go Go.E
theorem j4g (e:Expr):∀ m,fuE e≤m→z2f m e=some (allE q8H e):=by
 induction e using z1p with
 | h e ih=>
  intro m hm
  obtain⟨m,rfl⟩:∃ q,m=q+1:=⟨m - 1,by have:=z5q e; omega⟩
  show z2e (z2f m) e=_
  unfold z2e
  rw [z6p (c:=false) (q:=allE q8H) fun k x hx=>by
   unfold z8g
   rw [ih x hx m (by have:=z5r hx; omega),Option.bind_some]
   cases allE q8H x<;>rfl]
  rw [z9Z,Option.bind_some]
  cases e.Args.all (allE q8H) with
  | true=>rw [if_pos rfl,z4n,j4e,Bool.and_true]; rfl
  | false=>rw [if_neg (by simp),z4o,Bool.and_false]
theorem j6b (e:Expr):z6P e=some (allE q8H e):=q6u (fuE e) fun m hm=>j4g e m hm
theorem j6c {α:Type}(q:α→Bool)(l:List α):(!l.any fun x=>!q x)=l.all q:=by
 induction l with
 | nil=>rfl
 | cons x l ih=>simp [← ih]
theorem j4h (e:Expr):∀ m,fuE e≤m→q3U m e=some (allE q8H e):=by
 induction e using z1p with
 | h e ih=>
  intro m hm
  obtain⟨m,rfl⟩:∃ q,m=q+1:=⟨m - 1,by have:=z5q e; omega⟩
  show q3T (q3U m) e=_
  unfold q3T q3r q3v
  rw [j4f,Option.bind_some,z9Z]
  cases q8H e with
  | false=>rfl
  | true=>
   rw [if_pos rfl,z8A (q:=fun x=>!allE q8H x) fun k x hx=>by
    unfold q3O q3X
    rw [ih x hx m (by have:=z5r hx; omega),Option.bind_some,Option.bind_some]
    cases allE q8H x<;>rfl]
   rw [Bool.true_and,← j6c]
   cases e.Args.any fun x=>!allE q8H x with
   | true=>
    have:(0:Int)≤((0+e.Args.findIdx fun x=>!allE q8H x:Nat):Int):=Int.natCast_nonneg _
    rw [if_pos rfl,Option.bind_some,z4o,Option.bind_some,Option.bind_some,decide_eq_true this]
   | false=>rfl
theorem j6d (e:Expr):q4O e=some (allE q8H e):=q6u (fuE e) fun m hm=>j4h e m hm
def z2y (e:Expr):Bool:=decide (cntE e≤24)&&(decide (depE e≤6)&&allE q8H e)
theorem j2P {e:Expr}(h:cntE e≤1099511627776):q5Z e=some (z2y e):=by
 unfold q5Z z2y
 rw [j2K h,Option.bind_some,j2L h,j6d]
 by_cases h1:cntE e≤24
 ·rw [if_pos (by omega),Option.bind_some,Option.bind_some]
  by_cases h2:depE e≤6
  ·rw [if_pos (by simp; omega),Option.bind_some]; simp [h1,h2]
  ·rw [if_neg (by simp; omega)]; simp [h1,h2]
 ·rw [if_neg (by omega)]; simp [h1]
theorem j2Q {e:Expr}(h:cntE e≤1099511627776):q5W e=some (z2y e):=by
 unfold q5W z2y
 rw [j3W (by omega) (by omega) h,Option.bind_some,j2M h,j6b]
 unfold z3Y
 by_cases h1:cntE e≤24
 ·have h24:((cntE e:Nat):Int)≤24:=by omega
  rw [if_pos h24,if_pos (by omega:(0:Int)≤24 - ((cntE e:Nat):Int)),Option.bind_some,Option.bind_some]
  by_cases h2:depE e≤6
  ·rw [if_pos (by simp; omega),Option.bind_some]; simp [h1,h2]
  ·rw [if_neg (by simp; omega)]; simp [h1,h2]
 ·have h24:¬ ((cntE e:Nat):Int)≤24:=by omega
  rw [if_neg h24,if_neg (by omega:¬ (0:Int)≤-1)]; simp [h1]
theorem j1P {e:Expr}(h:q8H e=true):(e.Args.length:Int)=z7u e.Kind:=by
 unfold q8H j0a at h
 simp only [Bool.and_eq_true,decide_eq_true_eq] at h
 exact h.1.2.1
theorem j4i {e:Expr}(h:q8H e=true):0≤e.Pos∧e.Pos≤3:=by
 unfold q8H j0a j4d at h
 simp only [Bool.and_eq_true,decide_eq_true_eq,Bool.or_eq_true] at h
 obtain⟨⟨_,_,h1,_⟩,h2⟩:=h
 rcases h1 with (h1 | h1) | h1
 ·rw [if_neg (by omega),if_pos h1] at h2
  simp at h2; exact h2.1
 ·rw [if_neg (by omega),if_neg (by omega),if_pos h1] at h2
  simpa using h2
 ·omega
end Go.Proofs.YtaholdflpgcndaaGreat
namespace Go.Proofs.YtaholdflpgcndaaGreat
open Go Go.E
theorem j4j {x m:Int}(h0:0≤m)(h1:m < 9223372036854775808):0≤z4p x m∧z4p x m≤m:=by
 unfold z4p
 have h2:(BitVec.ofInt 64 m).toNat=m.toNat:=by
  rw [BitVec.toNat_ofInt]
  have:m % ((2 ^ 64:Nat):Int)=m:=Int.emod_eq_of_lt h0 (by omega)
  rw [this]
 have h3:(BitVec.ofInt 64 x &&& BitVec.ofInt 64 m).toNat≤m.toNat:=by
  rw [BitVec.toNat_and,h2]; exact Nat.and_le_right
 rw [IntWalk.i64_in _ (by omega)]
 omega
end Go.Proofs.YtaholdflpgcndaaGreat
namespace Go.Proofs.YtaholdflpgcndaaGreat
open Go Go.E
def opI (n x y:Int):Int:=
 if n=1 then satI (x+y) else if n=2 then satI (x - y) else if n=3 then satI (x*y) else if n=4 then (if y > x then y else x) else if n=5 then (if y < x then y else x)
 else if n=6 then ((x.toNat ||| y.toNat:Nat):Int) else if n=7 then ((x.toNat &&& y.toNat:Nat):Int) else if n=8 then z1a x y
 else if n=9 then truI (decide (x < y)) else if n=10 then truI (decide (x=y))
 else if n=11 then (if 0≤y∧y≤11 then truI (decide ((((x.toNat >>> y.toNat:Nat):Int).toNat &&& (1:Int).toNat:Nat)=(1:Int))) else truI false)
 else if n=12 then (if 0≤y∧y≤11 then ((x.toNat ||| ((2 ^ y.toNat:Nat):Int).toNat:Nat):Int) else x) else 0
def z8E (n a b:Int):Int:=opI n (z2w a (opT n).1) (z2w b (opT n).2.1)
theorem j4k (x:Int):0≤z4p x 4095∧z4p x 4095≤4095:=j4j (by omega) (by omega)
theorem j0P (v k:Int):(k=1→-1000000≤z2w v k∧z2w v k≤1000000)∧(k=2→0≤z2w v k∧z2w v k≤4095):=by
 unfold z2w
 refine⟨fun h=>?_,fun h=>?_⟩
 ·rw [if_pos h]; exact j5W v
 ·rw [if_neg (by omega),if_pos h]; exact j4k v
theorem j6W {x y:Int}(h1:-1000000≤x∧x≤1000000)(h2:-1000000≤y∧y≤1000000):I64 (x*y):=by
 have a:x*y≤1000000*1000000:=by
  rcases Int.le_total 0 y with h | h
  ·exact Int.le_trans (Int.mul_le_mul_of_nonneg_right h1.2 h) (Int.mul_le_mul_of_nonneg_left h2.2 (by omega))
  ·have:=Int.mul_le_mul_of_nonpos_right h1.1 h
   omega
 have b:-(1000000*1000000)≤x*y:=by
  rcases Int.le_total 0 y with h | h
  ·have:=Int.mul_le_mul_of_nonneg_right h1.1 h
   omega
  ·have:=Int.mul_le_mul_of_nonpos_right h1.2 h
   omega
 constructor<;>omega
theorem z8F (n a b:Int):q9B n a b=some (z8E n a b)∧q9F n a b=some (z8E n a b):=by
 unfold q9B q9F z8E
 rw [j5Y,j5X,Option.bind_some,Option.bind_some]
 generalize hT:opT n=q
 obtain⟨t1,t2,t3⟩:=q
 have h12:(1≤n∧n≤5→t1=1∧t2=1)∧(6≤n∧n≤8→t1=2∧t2=2)∧(n=11∨n=12→t1=2∧t2=1):=by
  unfold opT at hT
  refine⟨fun h=>?_,fun h=>?_,fun h=>?_⟩
  ·rw [if_pos h] at hT; cases hT; exact⟨rfl,rfl⟩
  ·rw [if_neg (by omega),if_pos h] at hT; cases hT; exact⟨rfl,rfl⟩
  ·rw [if_neg (by omega),if_neg (by omega),if_neg (by omega)] at hT
   rcases h with h | h
   ·rw [if_pos h] at hT; cases hT; exact⟨rfl,rfl⟩
   ·rw [if_neg (by omega),if_pos h] at hT; cases hT; exact⟨rfl,rfl⟩
 dsimp only
 rw [z7s,z7s,z7r,z7r]
 rw [Option.bind_some,Option.bind_some,Option.bind_some,Option.bind_some]
 obtain⟨x1,x2⟩:=j0P a t1
 obtain⟨y1,y2⟩:=j0P b t2
 generalize z2w a t1=x at x1 x2 ⊢
 generalize z2w b t2=y at y1 y2 ⊢
 unfold opI
 by_cases c1:n=1
 ·have:=h12.1 (by omega); have:=x1 this.1; have:=y1 (by omega)
  simp only [if_pos c1]
  have hg:I64 (x+y):=by constructor<;>omega
  rw [q3m hg,q3m hg,z7q,z7p]; exact⟨rfl,rfl⟩
 simp only [if_neg c1]
 by_cases c2:n=2
 ·have:=h12.1 (by omega); have:=x1 this.1; have:=y1 (by omega)
  simp only [if_pos c2]
  have hg:I64 (x - y):=by constructor<;>omega
  rw [q3m hg,q3m hg,z7q,z7p]; exact⟨rfl,rfl⟩
 simp only [if_neg c2]
 by_cases c3:n=3
 ·have:=h12.1 (by omega); have hx:=x1 this.1; have hy:=y1 (by omega)
  simp only [if_pos c3]
  have hg:I64 (x*y):=j6W hx hy
  rw [q3m hg,q3m hg,z7q,z7p]; exact⟨rfl,rfl⟩
 simp only [if_neg c3]
 by_cases c4:n=4
 ·simp only [if_pos c4]; rw [z7m]; exact⟨rfl,trivial⟩
 simp only [if_neg c4]
 by_cases c5:n=5
 ·simp only [if_pos c5]; rw [j2O]; exact⟨rfl,trivial⟩
 simp only [if_neg c5]
 by_cases c6:n=6
 ·have:=h12.2.1 (by omega); have hx:=x2 this.1; have hy:=y2 (by omega)
  simp only [if_pos c6]
  have hg:0≤x∧0≤y:=by omega
  rw [q3m hg]; exact⟨rfl,rfl⟩
 simp only [if_neg c6]
 by_cases c7:n=7
 ·have:=h12.2.1 (by omega); have hx:=x2 this.1; have hy:=y2 (by omega)
  simp only [if_pos c7]
  have hg:0≤x∧0≤y:=by omega
  rw [q3m hg]; exact⟨rfl,rfl⟩
 simp only [if_neg c7]
 by_cases c8:n=8
 ·simp only [if_pos c8]; exact⟨trivial,trivial⟩
 simp only [if_neg c8]
 by_cases c9:n=9
 ·simp only [if_pos c9]; rw [z2x,z5t]; exact⟨rfl,rfl⟩
 simp only [if_neg c9]
 by_cases c10:n=10
 ·simp only [if_pos c10]; rw [z2x,z5t]; exact⟨rfl,rfl⟩
 simp only [if_neg c10]
 by_cases c11:n=11
 ·have:=h12.2.2 (by omega); have hx:=x2 this.1; have hy:=y1 (by omega)
  simp only [if_pos c11]
  refine⟨?_,?_⟩
  ·rw [z3Z,Option.bind_some]
   by_cases hr:0≤y∧y≤11
   ·rw [if_pos (by simpa using hr),if_pos hr,z7m,Option.bind_some,if_neg (by omega),q3m hr.1,q3m (by omega),q3m ⟨Int.natCast_nonneg _,by omega⟩,z2x]; rfl
   ·rw [if_neg (by simpa using hr),if_neg hr,z2x]; rfl
  ·rw [z8D,Option.bind_some]
   by_cases hr:0≤y∧y≤11
   ·rw [if_pos (by simpa using hr),if_pos hr,q3m hr.1,q3m (by omega),q3m ⟨Int.natCast_nonneg _,by omega⟩,z5t]; rfl
   ·rw [if_neg (by simpa using hr),if_neg hr,z5t]; rfl
 simp only [if_neg c11]
 by_cases c12:n=12
 ·have:=h12.2.2 (by omega); have hx:=x2 this.1; have hy:=y1 (by omega)
  simp only [if_pos c12]
  refine⟨?_,?_⟩
  ·rw [z3Z,Option.bind_some]
   by_cases hr:0≤y∧y≤11
   ·rw [if_pos (by simpa using hr),if_pos hr,q3m hr.1,q3m (by omega),q3m ⟨by omega,Int.natCast_nonneg _⟩]
   ·rw [if_neg (by simpa using hr),if_neg hr]
  ·rw [z8D,Option.bind_some]
   by_cases hr:0≤y∧y≤11
   ·rw [if_pos (by simpa using hr),if_pos hr,q3m hr.1,q3m (by omega),q3m ⟨by omega,Int.natCast_nonneg _⟩]
   ·rw [if_neg (by simpa using hr),if_neg hr]
 simp only [if_neg c12]
 exact⟨trivial,trivial⟩
end Go.Proofs.YtaholdflpgcndaaGreat
namespace Go.Proofs.YtaholdflpgcndaaGreat
open Go Go.E
def j1Q (s:List Slot)(o:Occurrence):Int:=match s.find? fun x=>decide (x.At=o) with
 | some x=>x.Value
 | none=>0
theorem z7v {f:Nat→Slot→Unit→Option (Unit ⊕ Int)}{o:Occurrence}(hf:∀ k x,f k x ()=if x.At=o then some (.inr x.Value) else some (.inl ())):∀ (s:List Slot) (i:Nat),((findL f i s ()).bind <| onr (fun r1=>some r1) fun _=>some 0)=some (j1Q s o)
 | [],i=>rfl
 | x :: s,i=>by
  rw [findL,hf]
  unfold j1Q
  by_cases h:x.At=o
  ·rw [if_pos h,List.find?_cons_of_pos (by simpa using h)]; rfl
  ·rw [if_neg h,List.find?_cons_of_neg (by simpa using h),Option.bind_some]
   exact z7v hf s (i+1)
theorem j4l (s:List Slot)(o:Occurrence):q8T s o=some (j1Q s o):=z7v (fun k x=>rfl) s 0
theorem j4m (s:List Slot)(o:Occurrence):q8U s o=some (j1Q s o):=z7v (fun k x=>rfl) s 0
mutual
def z0W (s:List Slot)(lit:Int)(ids:List Int):Expr→Int
 | ⟨k,n,p,_,_,nm,a⟩=>
  if k=1 then n else if k=2 then lit else if k=3 then j1Q s ⟨p,nm⟩
  else if k=4 then z8E n ((z3v s lit ids a).getD 0 0) ((z3v s lit ids a).getD 1 0)
  else if k=5 then (if (z3v s lit ids a).getD 0 0=0 then (z3v s lit ids a).getD 2 0 else (z3v s lit ids a).getD 1 0)
  else if k=6 then (if p < (ids.length:Int) then ids.getD p.toNat 0 else 0) else 0
def z3v (s:List Slot)(lit:Int)(ids:List Int):List Expr→List Int
 | []=>[]
 | x :: xs=>z0W s lit ids x :: z3v s lit ids xs
end
theorem z8G (s:List Slot)(lit:Int)(ids:List Int):∀ l,z3v s lit ids l=l.map (z0W s lit ids)
 | []=>rfl
 | x :: xs=>by rw [z3v,z8G s lit ids xs]; rfl
theorem j4n (s:List Slot)(lit:Int)(ids:List Int)(e:Expr):z0W s lit ids e =
  if e.Kind=1 then e.N else if e.Kind=2 then lit else if e.Kind=3 then j1Q s ⟨e.Pos,e.Name⟩
  else if e.Kind=4 then z8E e.N ((e.Args.map (z0W s lit ids)).getD 0 0) ((e.Args.map (z0W s lit ids)).getD 1 0)
  else if e.Kind=5 then (if (e.Args.map (z0W s lit ids)).getD 0 0=0 then (e.Args.map (z0W s lit ids)).getD 2 0 else (e.Args.map (z0W s lit ids)).getD 1 0)
  else if e.Kind=6 then (if e.Pos < (ids.length:Int) then ids.getD e.Pos.toNat 0 else 0) else 0:=by
 cases e
 rw [z0W,z8G]
theorem z1q {e:Expr}{k:Nat}(h:k < e.Args.length):∃ x,e.Args[k]? = some x∧x∈e.Args∧∀ f:Expr→Int,(e.Args.map f).getD k 0=f x:=by
 refine⟨e.Args[k],List.getElem?_eq_getElem h,List.getElem_mem h,fun f=>?_⟩
 rw [List.getD_eq_getElem?_getD,List.getElem?_map,List.getElem?_eq_getElem h]; rfl
theorem j0Q (s:List Slot)(lit:Int)(ids:List Int)(e:Expr):∀ m,fuE e≤m→allE q8H e=true→q8c m e s lit ids=some (z0W s lit ids e)∧q3s m s lit ids e=some (z0W s lit ids e):=by
 induction e using z1p with
 | h e ih=>
  intro m hm hv
  obtain⟨m,rfl⟩:∃ q,m=q+1:=⟨m - 1,by have:=z5q e; omega⟩
  show q9C (q8c m) e s lit ids=_∧q3z (q3s m) s lit ids e=_
  rw [z9Z,Bool.and_eq_true,List.all_eq_true] at hv
  obtain⟨hn,ha⟩:=hv
  have har:=j1P hn
  have hpos:=j4i hn
  have hx:∀ x∈e.Args,q8c m x s lit ids=some (z0W s lit ids x)∧q3s m s lit ids x=some (z0W s lit ids x):=fun x h=>ih x h m (by have:=z5r h; omega) (ha x h)
  rw [j4n]
  unfold q9C q3z
  by_cases k1:e.Kind=1
  ·simp only [if_pos k1]; exact⟨trivial,trivial⟩
  simp only [if_neg k1]
  by_cases k2:e.Kind=2
  ·simp only [if_pos k2]; exact⟨trivial,trivial⟩
  simp only [if_neg k2]
  by_cases k3:e.Kind=3
  ·simp only [if_pos k3]
   unfold q7o
   rw [j4l,j4m]; exact⟨rfl,rfl⟩
  simp only [if_neg k3]
  by_cases k4:e.Kind=4
  ·simp only [if_pos k4]
   have hl:e.Args.length=2:=by rw [k4] at har; unfold z7u at har; simp at har; omega
   obtain⟨x,x1,x2,x3⟩:=z1q (e:=e) (k:=0) (by omega)
   obtain⟨y,y1,y2,y3⟩:=z1q (e:=e) (k:=1) (by omega)
   rw [x3,y3,x1,y1]
   simp only [Option.bind_some,(hx x x2).1,(hx x x2).2,(hx y y2).1,(hx y y2).2,(z8F _ _ _).1,(z8F _ _ _).2]
   exact⟨trivial,trivial⟩
  simp only [if_neg k4]
  by_cases k5:e.Kind=5
  ·simp only [if_pos k5]
   have hl:e.Args.length=3:=by rw [k5] at har; unfold z7u at har; simp at har; omega
   obtain⟨x,x1,x2,x3⟩:=z1q (e:=e) (k:=0) (by omega)
   obtain⟨y,y1,y2,y3⟩:=z1q (e:=e) (k:=1) (by omega)
   obtain⟨z,z1,z2,z3⟩:=z1q (e:=e) (k:=2) (by omega)
   rw [x3,y3,z3,x1,y1,z1]
   simp only [Option.bind_some,(hx x x2).1,(hx x x2).2,(hx y y2).1,(hx y y2).2,(hx z z2).1,(hx z z2).2]
   by_cases h0:z0W s lit ids x=0
   ·simp only [if_pos h0]; exact⟨trivial,trivial⟩
   ·simp only [if_neg h0]; exact⟨trivial,trivial⟩
  simp only [if_neg k5]
  by_cases k6:e.Kind=6
  ·simp only [if_pos k6]
   rw [z3Z,Option.bind_some]
   by_cases hp:e.Pos < (ids.length:Int)
   ·have hi:ids[e.Pos.toNat]? = some (ids.getD e.Pos.toNat 0):=by
     rw [List.getD_eq_getElem?_getD,List.getElem?_eq_getElem (by omega)]; rfl
    rw [if_pos (by simp; omega),if_pos hp,if_pos hp,q3m hpos.1,hi]; exact⟨rfl,rfl⟩
   ·rw [if_neg (by simp; omega),if_neg hp,if_neg hp]; exact⟨rfl,rfl⟩
  simp only [if_neg k6]
  by_cases k8:e.Kind=8
  ·simp only [if_pos k8]
   have hl:e.Args.length=1:=by rw [k8] at har; unfold z7u at har; simp at har; omega
   obtain⟨x,x1,x2,x3⟩:=z1q (e:=e) (k:=0) (by omega)
   rw [x1]
   simp only [Option.bind_some,(hx x x2).2]
   exact⟨trivial,rfl⟩
  simp only [if_neg k8]; exact⟨trivial,trivial⟩
theorem z8H {e:Expr}(h:z2y e=true):allE q8H e=true:=by
 unfold z2y at h; simp only [Bool.and_eq_true] at h; exact h.2.2
def j2R (e:Expr)(s:List Slot)(lit:Int)(ids:List Int):Int:=if z2y e=true then z0W s lit ids e else 0
theorem j4o {e:Expr}(h:cntE e≤1099511627776)(s:List Slot)(lit:Int)(ids:List Int):q7y e s lit ids=some (j2R e s lit ids):=by
 unfold q7y j2R
 rw [j2Q h,Option.bind_some]
 by_cases hv:z2y e=true
 ·rw [if_pos hv,if_pos hv]
  have:z2P e s lit ids=some (z0W s lit ids e):=q6u (fuE e) fun m hm=>(j0Q s lit ids e m hm (z8H hv)).1
  rw [this]; rfl
 ·rw [if_neg hv,if_neg hv]
theorem j4p {e:Expr}(h:cntE e≤1099511627776)(s:List Slot)(lit:Int)(ids:List Int):∃ z,q7B e s lit ids=some (j2R e s lit ids,z):=by
 unfold q7B j2R
 rw [j2P h,Option.bind_some]
 by_cases hv:z2y e=true
 ·rw [if_pos hv,if_pos hv]
  have:q3Q s lit ids e=some (z0W s lit ids e):=q6u (fuE e) fun m hm=>(j0Q s lit ids e m hm (z8H hv)).2
  rw [this]; exact⟨_,rfl⟩
 ·rw [if_neg hv,if_neg hv]; exact⟨_,rfl⟩
end Go.Proofs.YtaholdflpgcndaaGreat
namespace Go.Proofs.YtaholdflpgcndaaGreat
open Go Go.E
def uSzF {α:Type}(g:α→Int→Option Int)(n:Nat)(x:α):Prop:=∀ s:Int,0≤s→s≤1048576→g x s=some (if (n:Int)≤s then s - n else -1)
theorem z8I {α:Type}[Sz α]{f:Nat→α→Int→Option (Int ⊕ Int)}:∀ (xs:List α) (i:Nat) (s:Int),(∀ k x s,x∈xs→0≤s→s≤1048576→f k x s=some (if (Sz.szd x:Int)≤s then .inl (s - Sz.szd x) else .inr (-1)))→0≤s→s≤1048576 →
  findL f i xs s=some (if ((szL xs - xs.length:Nat):Int)≤s then .inl (s - (szL xs - xs.length:Nat)) else .inr (-1))
 | [],i,s,_,h0,_=>by simp [findL,szL,h0]
 | x :: xs,i,s,hf,h0,h1=>by
  have hl:=q3A xs
  have e:szL (x :: xs) - (x :: xs).length=Sz.szd x+(szL xs - xs.length):=by simp only [szL,List.length_cons]; omega
  rw [e]
  show (f i x s).bind _=_
  rw [hf i x s (by simp) h0 h1]
  by_cases hx:(Sz.szd x:Int)≤s
  ·rw [if_pos hx]
   show findL f (i+1) xs (s - Sz.szd x)=_
   rw [z8I xs (i+1) _ (fun k y t hy=>hf k y t (by simp [hy])) (by omega) (by omega)]
   by_cases h2:((Sz.szd x+(szL xs - xs.length):Nat):Int)≤s
   ·rw [if_pos h2,if_pos (by omega)]; congr 2; omega
   ·rw [if_neg h2,if_neg (by omega)]
  ·rw [if_neg hx,if_neg (by omega)]; rfl
theorem z1v {α:Type}[Sz α]{xs:List α}{f:Nat→α→Int→Option (Int ⊕ Int)}(hf:∀ k x s,x∈xs→0≤s→s≤1048576→f k x s=some (if (Sz.szd x:Int)≤s then .inl (s - Sz.szd x) else .inr (-1)))(s:Int)(h0:0≤s)(h1:s≤1048576)(hl:xs.length≤9223372036854775807) :
  (grd (I64 (s - (xs.length:Int))) <| if (s - (xs.length:Int)) < 0 then some (-1) else (findL f 0 xs (s - (xs.length:Int))).bind <| onr (fun r1=>some r1) fun s1=>some s1)=some (if (szL xs:Int)≤s then s - (szL xs:Nat) else -1):=by
 have hl':=q3A xs
 rw [q3m (by constructor<;>omega)]
 by_cases h2:s - (xs.length:Int) < 0
 ·rw [if_pos h2,if_neg (by omega)]
 ·rw [if_neg h2,z8I xs 0 _ hf (by omega) (by omega),Option.bind_some]
  by_cases h3:(szL xs:Int)≤s
  ·rw [if_pos h3,if_pos (by omega),z4n]; congr 1; omega
  ·rw [if_neg h3,if_neg (by omega),z4o]
theorem z2z {α:Type}[Sz α]{g:α→Int→Option Int}{xs:List α}(hg:∀ x∈xs,uSzF g (Sz.szd x) x)(k:Nat)(x:α)(s:Int)(hx:x∈xs)(h0:0≤s)(h1:s≤1048576) :
  ((g x s).bind fun y1=>if y1 < 0 then some (.inr (-1)) else some (.inl y1):Option (Int ⊕ Int))=some (if (Sz.szd x:Int)≤s then .inl (s - Sz.szd x) else .inr (-1)):=by
 rw [hg x hx s h0 h1,Option.bind_some]
 by_cases h2:(Sz.szd x:Int)≤s
 ·rw [if_pos h2,if_neg (by omega),if_pos h2]
 ·rw [if_neg h2,if_pos (by omega),if_neg h2]
theorem q6R (n m:Nat){k:Int→Option Int}{s:Int}(h0:0≤s)(h1:s≤1048576)(hn:n≤9223372036854775807)(hk:∀ t,0≤t→t≤1048576→k t=some (if (m:Int)≤t then t - m else -1)) :
  (grd (I64 (s - (n:Int))) <| if (s - (n:Int)) < 0 then some (-1) else k (s - (n:Int)))=some (if ((n+m:Nat):Int)≤s then s - (n+m:Nat) else -1):=by
 rw [q3m (by constructor<;>omega)]
 by_cases h2:s - (n:Int) < 0
 ·rw [if_pos h2,if_neg (by omega)]
 ·rw [if_neg h2,hk _ (by omega) (by omega)]
  by_cases h3:((n+m:Nat):Int)≤s
  ·rw [if_pos h3,if_pos (by omega)]; congr 1; omega
  ·rw [if_neg h3,if_neg (by omega)]
theorem q4W (n m:Nat){o:Option Int}{k:Int→Option Int}{s:Int}(h0:0≤s)(h1:s≤1048576)(ho:o=some (if (n:Int)≤s then s - n else -1))(hk:∀ t,0≤t→t≤1048576→k t=some (if (m:Int)≤t then t - m else -1)) :
  (o.bind fun y1=>if y1 < 0 then some (-1) else k y1)=some (if ((n+m:Nat):Int)≤s then s - (n+m:Nat) else -1):=by
 rw [ho,Option.bind_some]
 by_cases h2:(n:Int)≤s
 ·rw [if_pos h2,if_neg (by omega),hk _ (by omega) (by omega)]
  by_cases h3:((n+m:Nat):Int)≤s
  ·rw [if_pos h3,if_pos (by omega)]; congr 1; omega
  ·rw [if_neg h3,if_neg (by omega)]
 ·rw [if_neg h2,if_pos (by omega),if_neg (by omega)]
theorem q6i {t:Int}(h0:0≤t)(_:t≤1048576):some t=some (if ((0:Nat):Int)≤t then t - (0:Nat) else -1):=by rw [if_pos (by omega)]; congr 1; omega
section
open Go.A
theorem j4q {xs:List ByteArray}(h:boD (.sl 1 (xs.map A.D.s))):uSzF q8O (szL xs) xs:=fun s h0 h1=>
 z1v (f:=q9S) (fun k x s hx h0 h1=>by
  unfold q9S
  have hb:x.size≤9223372036854775807:=z3B.1 (boCs_cons.1 (q9h h hx)).1
  rw [q3m (by constructor<;>omega)]
  show (_:Option (Int ⊕ Int))=some (if (x.size:Int)≤s then Sum.inl (s - x.size) else Sum.inr (-1))
  by_cases h2:(x.size:Int)≤s
  ·rw [if_neg (by omega),if_pos h2]
  ·rw [if_pos (by omega),if_neg h2]) s h0 h1 (q8j h)
theorem j4r {x:Attribute}(h:boCs (Attribute.l x)):uSzF q7i (Sz.szd x) x:=fun s h0 h1=>by
 simp only [Attribute.l,boCs_cons,z3B] at h
 exact q6R x.Name.size 0 h0 h1 h.1 (k:=some) (fun t=>q6i)
theorem j2S {k:Nat}{xs:List Attribute}(h:boD (.sl k (xs.map Attribute.D))):uSzF q6w (szL xs) xs:=fun s h0 h1=>
 z1v (f:=z0f) (z2z fun x hx=>j4r (q9h h hx)) s h0 h1 (q8j h)
theorem j6e {x:Symbol}(h:boCs (Symbol.l x)):uSzF q9R (Sz.szd x) x:=fun s h0 h1=>by
 simp only [Symbol.l,boCs_cons,z3B] at h
 exact q6R x.Name.size _ h0 h1 h.1 fun t h0 h1=>q4W (szL x.Attributes) 0 h0 h1 (j2S h.2.1 t h0 h1) fun t=>q6i
theorem j4s {k:Nat}{xs:List Symbol}(h:boD (.sl k (xs.map Symbol.D))):uSzF q8N (szL xs) xs:=fun s h0 h1=>
 z1v (f:=z1W) (z2z fun x hx=>j6e (q9h h hx)) s h0 h1 (q8j h)
theorem j6f {x:Occurrence}(h:x.Name.size≤9223372036854775807):uSzF q6x (Sz.szd x) x:=fun s h0 h1=>
 q6R x.Name.size 0 h0 h1 h (k:=some) (fun t=>q6i)
theorem j2T:∀ (m:Nat) (e:Expr),fuE e≤m→boCs (Expr.l e)→uSzF (q9v m) (Sz.szd e) e:=by
 intro m
 induction m with
 | zero=>intro e h; rw [q7M] at h; omega
 | succ m ih=>
  intro e h hr s h0 h1
  rw [q7M] at h
  simp only [Expr.l,boCs_cons,z3B] at hr
  obtain⟨_,_,_,_,h2,h3,h4,_⟩:=hr
  rw [q4V,Nat.add_assoc]
  show z0r (q9v m) e s=_
  unfold z0r
  exact q6R e.Symbol.size _ h0 h1 h2 fun t h0 h1=>q6R e.Name.size _ h0 h1 h3 fun t h0 h1=>
   q4W (szL e.Args) 0 h0 h1 (z1v (f:=z4G (q9v m)) (z2z fun x hx=>ih x (by have:=q9f hx; omega) (by rw [← Expr.D_cells]; exact q9h h4 hx)) t h0 h1 (q8j h4)) fun t=>q6i
theorem j0b {e:Expr}(h:boCs (Expr.l e)):uSzF z0s (Sz.szd e) e:=fun s h0 h1=>
 q6u (fuE e) fun n hn=>j2T n e hn h s h0 h1
theorem j6g {x:Equation}(h:boCs (Equation.l x)):uSzF q7P (Sz.szd x) x:=fun s h0 h1=>by
 have e:Sz.szd x=Sz.szd x.At+(Sz.szd x.Expr+0):=by rw [q7J,q4V,z5S]; omega
 simp only [Equation.l,boCs_cons] at h
 rw [e]
 exact q4W _ _ h0 h1 (j6f (z3B.1 h.2.1) s h0 h1) fun t h0 h1=>q4W _ 0 h0 h1 (j0b (by simp only [Expr.l,boCs_cons]; exact h.2.2) t h0 h1) fun t=>q6i
theorem j4t {k:Nat}{xs:List Equation}(h:boD (.sl k (xs.map Equation.D))):uSzF q7j (szL xs) xs:=fun s h0 h1=>
 z1v (f:=z0t) (z2z fun x hx=>j6g (q9h h hx)) s h0 h1 (q8j h)
theorem j6h {x:Contribution}(h:boCs (Contribution.l x)):uSzF q5E (Sz.szd x) x:=fun s h0 h1=>by
 have e:Sz.szd x=x.Symbol.size+(x.Name.size+(Sz.szd x.Target+(Sz.szd x.Value+0))):=by rw [q6h,q4V,q4V]; omega
 simp only [Contribution.l,boCs_cons] at h
 obtain⟨h1',h2,a1,a2,a3,a4,a5,a6,a7,hb⟩:=h
 rw [e]
 exact q6R _ _ h0 h1 (z3B.1 h1') fun t h0 h1=>q6R _ _ h0 h1 (z3B.1 h2) fun t h0 h1=>q4W _ _ h0 h1 (j0b (by simp only [Expr.l,boCs_cons]; exact⟨a1,a2,a3,a4,a5,a6,a7,by rw [boCs]; trivial⟩) t h0 h1) fun t h0 h1=>
  q4W _ 0 h0 h1 (j0b (by simp only [Expr.l,boCs_cons]; exact hb) t h0 h1) fun t=>q6i
theorem j4u {k:Nat}{xs:List Contribution}(h:boD (.sl k (xs.map Contribution.D))):uSzF q5f (szL xs) xs:=fun s h0 h1=>
 z1v (f:=q8l) (z2z fun x hx=>j6h (q9h h hx)) s h0 h1 (q8j h)
theorem j4v {x:Rule}(h:boCs (Rule.l x)):uSzF z1X (Sz.szd x) x:=fun s h0 h1=>by
 have e:Sz.szd x=x.Name.size+(x.Left.size+(szL x.Right+(szL x.Equations+(szL x.Contributions+0)))):=by rw [z2q]; omega
 simp only [Rule.l,boCs_cons] at h
 obtain⟨h2,h3,h4,_,h5,h6,_⟩:=h
 rw [e]
 exact q6R _ _ h0 h1 (z3B.1 h2) fun t h0 h1=>q6R _ _ h0 h1 (z3B.1 h3) fun t h0 h1=>q4W _ _ h0 h1 (j4q h4 t h0 h1) fun t h0 h1=>q4W _ _ h0 h1 (j4t h5 t h0 h1) fun t h0 h1=>
  q4W _ 0 h0 h1 (j4u h6 t h0 h1) fun t=>q6i
theorem j2U {k:Nat}{xs:List Rule}(h:boD (.sl k (xs.map Rule.D))):uSzF z1d (szL xs) xs:=fun s h0 h1=>
 z1v (f:=z4H) (z2z fun x hx=>j4v (q9h h hx)) s h0 h1 (q8j h)
theorem j4w {x:Grammar}(h:boCs (Grammar.l x)):uSzF q8P (Sz.szd x) x:=fun s h0 h1=>by
 have e:Sz.szd x=szL x.Symbols+(szL x.Rules+0):=by rw [q8G]; omega
 simp only [Grammar.l,boCs_cons] at h
 rw [e]
 exact q4W _ _ h0 h1 (j4s h.1 s h0 h1) fun t h0 h1=>q4W _ 0 h0 h1 (j2U h.2.1 t h0 h1) fun t=>q6i
end
theorem j4x {α:Type}{z y:α}(pre:List α)(n:Nat):List.set (pre++List.replicate (n+1) z) pre.length y=(pre++[y])++List.replicate n z:=by
 rw [List.set_append_right _ _ (Nat.le_refl _),Nat.sub_self,List.replicate_succ,List.set_cons_zero]; simp
theorem j2V {α:Type}{z:α}{f:Nat→α→List α→Option (List α)}:∀ (xs pre:List α),(∀ k x s,x∈xs→k < s.length→f k x s=some (List.set s k x))→eachL f pre.length xs (pre++List.replicate xs.length z)=some (pre++xs)
 | [],pre,_=>by simp [eachL]
 | x :: xs,pre,hf=>by
  show (f pre.length x _).bind _=_
  rw [hf _ _ _ (by simp) (by simp),List.length_cons,j4x,Option.bind_some]
  have:=j2V (z:=z) xs (pre++[x]) fun k y s hy=>hf k y s (by simp [hy])
  rw [List.length_append] at this
  rw [show pre.length+1=pre.length+[x].length from rfl,this]; simp
theorem q8I {α:Type}{z:α}{g:α→Option α}{b:Int}{xs:List α}{f:Nat→α→List α→Option (List α)}(hb:(xs.length:Int)*b≤281474976710656)(hl:xs.length≤1048576)(hf:∀ k x s,x∈xs→k < s.length→f k x s=some (List.set s k x)) :
  (grd (0≤(xs.length:Int)∧(xs.length:Int)*b≤281474976710656∧(xs.length:Int)≤9223372036854775807) <| (eachL f 0 xs (List.replicate xs.length z)).bind fun s1=>some s1)=some xs:=by
 rw [q3m ⟨by omega,hb,by omega⟩]
 have:=j2V (z:=z) xs [] hf
 rw [List.length_nil,List.nil_append,List.nil_append] at this
 rw [this]; rfl
theorem z2A {α:Type}{g:α→Option α}{xs:List α}(hg:∀ x∈xs,g x=some x)(k:Nat)(x:α)(s:List α)(hx:x∈xs)(hk:k < s.length):((g x).bind fun y1=>(s[k]?).bind fun x2=>some (List.set s k y1))=some (List.set s k x):=by
 rw [hg x hx,Option.bind_some,List.getElem?_eq_getElem hk]; rfl
theorem j4y {xs:List ByteArray}(h:szL xs≤1048576):q8R xs=some xs:=by
 have hl:=q3A xs
 exact q8I (g:=some) (by omega) (by omega) fun k x s _ hk=>by unfold z2a; rw [List.getElem?_eq_getElem hk]; rfl
theorem j2W {xs:List Attribute}(h:szL xs≤1048576):q6A xs=some xs:=by
 have hl:=q3A xs
 exact q8I (g:=some) (by omega) (by omega) (z2A (g:=q7l) fun x _=>rfl)
theorem j6i {x:Symbol}(h:Sz.szd x≤1048576):q6W x=some x:=by
 unfold q6W; rw [j2W (by rw [z3d] at h; omega)]; rfl
theorem j4z {xs:List Symbol}(h:szL xs≤1048576):q8Q xs=some xs:=by
 have hl:=q3A xs
 exact q8I (g:=some) (by omega) (by omega) (z2A (g:=q6W) fun x hx=>j6i (by have:=q5l hx; omega))
theorem j2X:∀ (m:Nat) (e:Expr),fuE e≤m→Sz.szd e≤1048576→q8m m e=some e:=by
 intro m
 induction m with
 | zero=>intro e h; rw [q7M] at h; omega
 | succ m ih=>
  intro e h hs
  rw [q7M] at h
  show z0w (q8m m) e=_
  unfold z0w
  have hz:=q4V e
  have hl:=q3A e.Args
  have:z1f (q8m m) e.Args=some e.Args:=q8I (g:=some) (by omega) (by omega) (z2A (g:=q8m m) fun x hx=>ih x (by have:=q9f hx; omega) (by have:=j5n hx; omega))
  rw [this,Option.bind_some]; cases e; rfl
theorem j0c {e:Expr}(h:Sz.szd e≤1048576):z0x e=some e:=q6u (fuE e) fun n hn=>j2X n e hn h
theorem j6j {x:Equation}(h:Sz.szd x≤1048576):q5F x=some x:=by
 unfold q5F
 rw [show q6B x.At=some x.At from rfl,j0c (by rw [q7J] at h; rw [q4V]; omega)]; rfl
theorem j4A {xs:List Equation}(h:szL xs≤1048576):q7m xs=some xs:=by
 have hl:=q3A xs
 exact q8I (g:=some) (by omega) (by omega) (z2A (g:=q5F) fun x hx=>j6j (by have:=q5l hx; omega))
theorem j6k {x:Contribution}(h:Sz.szd x≤1048576):q4r x=some x:=by
 unfold q4r
 rw [q6h] at h
 rw [j0c (by rw [q4V]; omega),Option.bind_some,j0c (by rw [q4V]; omega)]; rfl
theorem j4B {xs:List Contribution}(h:szL xs≤1048576):q5g xs=some xs:=by
 have hl:=q3A xs
 exact q8I (g:=some) (by omega) (by omega) (z2A (g:=q4r) fun x hx=>j6k (by have:=q5l hx; omega))
theorem j4C {x:Rule}(h:Sz.szd x≤1048576):q9w x=some x:=by
 unfold q9w
 rw [z2q] at h
 rw [j4y (by omega),Option.bind_some,j4A (by omega),Option.bind_some,j4B (by omega)]; rfl
theorem j2Y {xs:List Rule}(h:szL xs≤1048576):z1g xs=some xs:=by
 have hl:=q3A xs
 exact q8I (g:=some) (by omega) (by omega) (z2A (g:=q9w) fun x hx=>j4C (by have:=q5l hx; omega))
theorem j4D {x:Grammar}(h:Sz.szd x≤1048576):q4Q x=some x:=by
 unfold q4Q
 rw [q8G] at h
 rw [j4z (by omega),Option.bind_some,j2Y (by omega)]; rfl
theorem j5o {α:Type}{f:Nat→α→Unit→Option (Unit ⊕ Bool)}:∀ (xs:List α) (i:Nat),(∀ k x,xs[k]? = some x→f (i+k) x ()=some (.inl ()))→findL f i xs ()=some (.inl ())
 | [],i,_=>rfl
 | x :: xs,i,hf=>by
  show (f i x ()).bind _=_
  have h0:=hf 0 x rfl
  rw [Nat.add_zero] at h0
  rw [h0]
  exact j5o xs (i+1) fun k y hy=>by have:=hf (k+1) y hy; rwa [show i+1+k=i+(k+1) by omega]
theorem q8J {α:Type}{xs:List α}{f:Nat→α→Unit→Option (Unit ⊕ Bool)}(hf:∀ k x,xs[k]? = some x→f k x ()=some (.inl ())) :
  (if (xs.length:Int)=(xs.length:Int) then (findL f 0 xs ()).bind <| onr (fun r1=>some r1) fun _=>some true else some false)=some true:=by
 rw [if_pos rfl,j5o xs 0 fun k x h=>by rw [Nat.zero_add]; exact hf k x h]; rfl
theorem z2B {α:Type}{g:α→α→Option Bool}{xs:List α}(hg:∀ x∈xs,g x x=some true)(k:Nat)(x:α)(h:xs[k]? = some x):((xs[k]?).bind fun x2=>(g x x2).bind fun y1=>if y1=true then some (.inl ()) else some (.inr false):Option (Unit ⊕ Bool))=some (.inl ()):=by
 rw [h,Option.bind_some,hg x (List.mem_of_getElem? h)]; rfl
theorem j4E (x:Attribute):q5d x x=some true:=by simp [q5d]
theorem j2Z (xs:List Attribute):q6N xs xs=some true:=q8J (f:=z0h xs) (z2B (g:=q5d) fun x _=>j4E x)
theorem j6l (x:Symbol):q7d x x=some true:=by simp [q7d,j2Z]
theorem j4F (xs:List Symbol):q8W xs xs=some true:=q8J (f:=z2h xs) (z2B (g:=q7d) fun x _=>j6l x)
theorem j4G (xs:List ByteArray):q8X xs xs=some true:=q8J (f:=q9X xs) fun k x h=>by unfold q9X; rw [h,Option.bind_some,if_pos rfl]
theorem j4H (x:Occurrence):q5y x x=some true:=by simp [q5y]
theorem j3a:∀ (m:Nat) (e:Expr),fuE e≤m→q7D m e e=some true:=by
 intro m
 induction m with
 | zero=>intro e h; rw [q7M] at h; omega
 | succ m ih=>
  intro e h
  rw [q7M] at h
  show z0K (q7D m) e e=_
  have:z1k (q7D m) e.Args e.Args=some true:=q8J (f:=z4P (q7D m) e.Args) (z2B (g:=q7D m) fun x hx=>ih x (by have:=q9f hx; omega))
  simp [z0K,this]
theorem j0R (e:Expr):z0L e e=some true:=q6u (fuE e) fun n hn=>j3a n e hn
theorem j6m (x:Equation):q5J x x=some true:=by simp [q5J,j4H,j0R]
theorem j4I (xs:List Equation):q7p xs xs=some true:=q8J (f:=z0M xs) (z2B (g:=q5J) fun x _=>j6m x)
theorem j6n (x:Contribution):q4s x x=some true:=by simp [q4s,j0R]
theorem j4J (xs:List Contribution):q5h xs xs=some true:=q8J (f:=q8A xs) (z2B (g:=q4s) fun x _=>j6n x)
theorem j4K (x:Rule):q9G x x=some true:=by simp [q9G,j4G,j4I,j4J]
theorem j3b (xs:List Rule):z1l xs xs=some true:=q8J (f:=z4Q xs) (z2B (g:=q9G) fun x _=>j4K x)
theorem j4L (x:Grammar):q7E x x=some true:=by simp [q7E,j4F,j3b]
end Go.Proofs.YtaholdflpgcndaaGreat
set_option maxRecDepth 100000
set_option maxHeartbeats 4000000
namespace Go.Proofs.YtaholdflpgcndaaGreat
open Go Go.E
theorem j4M:∀ (n:Nat),n≤1000000000000→∀ s:ByteArray,s.size+n≤2000000000000→∃ r,q4B q8Y ((n:Int),s)=some r∧r.size≤s.size+n:=by
 intro n
 induction n using Nat.strongRecOn with
 | _ n ih=>
  intro hn s hs
  by_cases h0:n=0
  ·subst h0
   exact⟨s,q3Z (by unfold q8Y; exact if_neg (by decide)),by omega⟩
  ·have hd:((n:Int).tdiv 10)=((n / 10:Nat):Int):=rfl
   have hm:((n:Int).tmod 10)=((n % 10:Nat):Int):=rfl
   obtain⟨r,h1,h2⟩:=ih (n / 10) (by omega) (by omega) ((⟨#[(UInt8.ofNat ((48+((n:Int).tmod 10)) % 256).toNat)]⟩:ByteArray)++s) (by
    rw [ByteArray.size_append]; show 1+s.size+n / 10≤_; omega)
   refine⟨r,?_,?_⟩
   ·rw [← h1,← hd]
    refine q5b ?_
    unfold q8Y
    dsimp only
    rw [if_pos (by omega),q3m (by rw [hm]; constructor<;>omega),q3m (by show 1+s.size≤_; omega),q3m (by rw [hd]; constructor<;>omega)]
   ·rw [ByteArray.size_append] at h2
    have h2:r.size≤1+s.size+n / 10:=h2
    omega
theorem z0c {k:Int}(h0:0≤k)(h1:k≤1000000000000):∃ t,q3y k=some t:=by
 unfold q3y
 by_cases h2:k≤0
 ·rw [if_pos h2]; exact⟨_,rfl⟩
 ·rw [if_neg h2]
  obtain⟨r,h3,h4⟩:=j4M k.toNat (by omega) ⟨#[]⟩ (by show 0+k.toNat≤_; omega)
  rw [Int.toNat_of_nonneg h0] at h3
  rw [h3,Option.bind_some]
  have h4:r.size≤0+k.toNat:=h4
  rw [q3m (by show 1+r.size≤_; omega)]
  exact⟨_,rfl⟩
def RL {α:Type}(R:Int→α→Int→Prop):Int→List α→Int→Prop
 | k,[],k'=>k=k'
 | k,y :: ys,k'=>∃ m,R k y m∧RL R m ys k'
def sumC {α:Type}(c:α→Nat):List α→Nat
 | []=>0
 | x :: xs=>c x+sumC c xs
theorem z7w {α:Type}[Sz α]:∀ xs:List α,sumC (fun x=>16*(1+Sz.szd x)) xs=16*szL xs
 | []=>rfl
 | x :: xs=>by simp only [sumC,szL,z7w xs]; omega
theorem j0S {α ι:Type}{Q:ι→Prop}{R:Int→α→Int→Prop}{c:α→Nat}{P:α→Prop}{L:ι→Int × Int × List α→Option ((Int × Int × List α) ⊕ (Int × List α))}
  (hin:∀ (k:Int) (i:Nat) (a:List α) (x:α),P x→a[i]? = some x→0≤k→k+(c x:Nat)≤10000000000→i≤1000000000→∃ k' x',(∀ n,Q n→L n (k,(i:Int),a)=some (.inl (k',((i+1:Nat):Int),a.set i x')))∧k≤k'∧k'≤k+(c x:Nat)∧R k x' k')
  (hout:∀ (n:ι) (k i:Int) (a:List α),¬ i < (a.length:Int)→L n (k,i,a)=some (.inr (k,a))) :
  ∀ (xs pre:List α) (k:Int),(∀ x∈xs,P x)→0≤k→k+(sumC c xs:Nat)≤10000000000→pre.length+xs.length≤1000000000→∃ k' ys,(∀ n,Q n→q4B (L n) (k,(pre.length:Int),pre++xs)=some (k',pre++ys))∧k≤k'∧k'≤k+(sumC c xs:Nat)∧RL R k ys k'∧ys.length=xs.length
 | [],pre,k,_,h0,h1,_=>⟨k,[],fun n _=>by rw [List.append_nil]; exact q3Z (hout _ _ _ _ (by omega)),Int.le_refl _,by omega,rfl,rfl⟩
 | x :: xs,pre,k,hP,h0,h1,h2=>by
  have e:sumC c (x :: xs)=c x+sumC c xs:=rfl
  rw [e] at h1
  obtain⟨k',x',h3,h4,h5,h6⟩:=hin k pre.length (pre++x :: xs) x (hP x (by simp)) (by simp) h0 (by omega) (by omega)
  obtain⟨k2,ys,h7,h8,h10,h11,h12⟩:=j0S hin hout xs (pre++[x']) k' (fun y hy=>hP y (by simp [hy])) (by omega) (by omega) (by simp only [List.length_append,List.length_cons,List.length_nil] at *; omega)
  refine⟨k2,x' :: ys,fun n hn=>?_,by omega,by rw [e]; omega,⟨k',h6,h11⟩,by rw [List.length_cons,List.length_cons,h12]⟩
  rw [q5b (h3 n hn)]
  rw [List.set_append_right _ _ (Nat.le_refl _),Nat.sub_self,List.set_cons_zero]
  have h7:=h7 n hn
  rw [List.length_append,List.length_singleton,List.append_assoc,List.append_assoc] at h7
  exact h7
theorem j3c {α ι:Type}{Q:ι→Prop}{R:Int→α→Int→Prop}{c:α→Nat}{P:α→Prop}{L:ι→Int × Int × List α→Option ((Int × Int × List α) ⊕ (Int × List α))}
  (hin:∀ (k:Int) (i:Nat) (a:List α) (x:α),P x→a[i]? = some x→0≤k→k+(c x:Nat)≤10000000000→i≤1000000000→∃ k' x',(∀ n,Q n→L n (k,(i:Int),a)=some (.inl (k',((i+1:Nat):Int),a.set i x')))∧k≤k'∧k'≤k+(c x:Nat)∧R k x' k')
  (hout:∀ (n:ι) (k i:Int) (a:List α),¬ i < (a.length:Int)→L n (k,i,a)=some (.inr (k,a))) (xs:List α) {k:Int} (hP:∀ x∈xs,P x) (h0:0≤k) (h1:k+(sumC c xs:Nat)≤10000000000) (h2:xs.length≤1000000000) :
  ∃ k' ys,(∀ n,Q n→((q4B (L n) (k,0,xs)).bind fun (s1,s2)=>some (s1,s2))=some (k',ys))∧k≤k'∧k'≤k+(sumC c xs:Nat)∧RL R k ys k'∧ys.length=xs.length:=by
 obtain⟨k',ys,h3,h4⟩:=j0S hin hout xs [] k hP h0 h1 (by simp only [List.length_nil]; omega)
 refine⟨k',ys,fun n hn=>?_,h4⟩
 have h3:=h3 n hn
 simp only [List.length_nil,List.nil_append] at h3
 rw [show ((0:Nat):Int)=0 from rfl] at h3
 rw [h3]; rfl
theorem j3d {α:Type}{R:Int→α→Int→Prop}{c:α→Nat}{P:α→Prop}{L:Int × Int × List α→Option ((Int × Int × List α) ⊕ (Int × List α))}
  (hin:∀ (k:Int) (i:Nat) (a:List α) (x:α),P x→a[i]? = some x→0≤k→k+(c x:Nat)≤10000000000→i≤1000000000→∃ k' x',L (k,(i:Int),a)=some (.inl (k',((i+1:Nat):Int),a.set i x'))∧k≤k'∧k'≤k+(c x:Nat)∧R k x' k')
  (hout:∀ (k i:Int) (a:List α),¬ i < (a.length:Int)→L (k,i,a)=some (.inr (k,a))) (xs:List α) {k:Int} (hP:∀ x∈xs,P x) (h0:0≤k) (h1:k+(sumC c xs:Nat)≤10000000000) (h2:xs.length≤1000000000) :
  ∃ k' ys,((q4B L (k,0,xs)).bind fun (s1,s2)=>some (s1,s2))=some (k',ys)∧k≤k'∧k'≤k+(sumC c xs:Nat)∧RL R k ys k'∧ys.length=xs.length:=by
 obtain⟨k',ys,e1,e2⟩:=j3c (ι:=Unit) (Q:=fun _=>True) (L:=fun _=>L) (fun k i a x h1 h2 h3 h4 h5=>by
  obtain⟨k',x',e1,e2⟩:=hin k i a x h1 h2 h3 h4 h5
  exact⟨k',x',fun _ _=>e1,e2⟩) (fun _=>hout) xs hP h0 h1 h2
 exact⟨k',ys,e1 () trivial,e2⟩
theorem z3w {α:Type}[Sz α]{L:Int × Int × List α→Option ((Int × Int × List α) ⊕ (Int × List α))}
  (hin:∀ (k:Int) (i:Nat) (a:List α) (x:α),a[i]? = some x→0≤k→k+16*(1+Sz.szd x:Nat)≤10000000000→i≤1000000000→1+Sz.szd x≤1048576→∃ k' x',L (k,(i:Int),a)=some (.inl (k',((i+1:Nat):Int),a.set i x'))∧k≤k'∧k'≤k+16*(1+Sz.szd x:Nat))
  (hout:∀ (k i:Int) (a:List α),¬ i < (a.length:Int)→L (k,i,a)=some (.inr (k,a))) (xs:List α) {k:Int} (h0:0≤k) (h1:k+16*(szL xs:Nat)≤10000000000) (h2:szL xs≤1048576) :
  ∃ k' ys,((q4B L (k,0,xs)).bind fun (s1,s2)=>some (s1,s2))=some (k',ys)∧k≤k'∧k'≤k+16*(szL xs:Nat):=by
 have hs:=z7w xs
 have hl:=q3A xs
 have hP:∀ x∈xs,1+Sz.szd x≤1048576:=by
  clear h1 hs hl
  induction xs with
  | nil=>intro x hx; cases hx
  | cons y ys ih=>
   simp only [szL] at h2
   intro x hx
   rcases List.mem_cons.1 hx with rfl | hx
   ·omega
   ·exact ih (by omega) x hx
 obtain⟨k',ys,h3,h4,h5,_⟩:=j3d (R:=fun _ _ _=>True) (c:=fun x=>16*(1+Sz.szd x)) (P:=fun x=>1+Sz.szd x≤1048576) (L:=L) (fun k i a x hp hx h0 h1 hi=>by
  obtain⟨k',x',e1,e2,e3⟩:=hin k i a x hx h0 (by omega) hi hp
  exact⟨k',x',e1,e2,by omega,trivial⟩) hout xs hP h0 (by omega) (by omega)
 exact⟨k',ys,h3,h4,by omega⟩
def RS (k:Int)(t:ByteArray)(k' : Int):Prop:=q3y k=some t∧k'=k+1
theorem j6X (k:Int)(i:Nat)(a:List ByteArray)(x:ByteArray)(hx:a[i]? = some x)(h0:0≤k)(h1:k+1≤10000000000)(hi:i≤1000000000):∃ x',q4P (k,(i:Int),a)=some (.inl (k+1,((i+1:Nat):Int),a.set i x'))∧RS k x' (k+1):=by
 obtain⟨t,ht⟩:=z0c h0 (by omega)
 have hl:=(List.getElem?_eq_some_iff.1 hx).1
 refine⟨t,?_,ht,rfl⟩
 unfold q4P
 dsimp only
 rw [if_pos (by omega),ht,Option.bind_some,q3m (by omega),Int.toNat_natCast,hx,Option.bind_some,q3m (by constructor<;>omega),q3m (by constructor<;>omega)]
 rfl
theorem j6o (k i:Int)(a:List ByteArray)(h:¬ i < (a.length:Int)):q4P (k,i,a)=some (.inr (k,a)):=by unfold q4P; dsimp only; exact if_neg h
theorem z7x {α:Type}:∀ xs:List α,sumC (fun _=>1) xs=xs.length
 | []=>rfl
 | x :: xs=>by simp only [sumC,z7x xs,List.length_cons]; omega
theorem j6Y (xs:List ByteArray){k:Int}(h0:0≤k)(h1:k+xs.length≤10000000000)(h2:xs.length≤1000000000):∃ k' ys,q6b xs k=some (k',ys)∧k≤k'∧k'≤k+xs.length∧RL RS k ys k'∧ys.length=xs.length:=by
 have hs:=z7x xs
 obtain⟨k',ys,e1,e2,e3,e4⟩:=j3d (R:=RS) (c:=fun _=>1) (P:=fun _=>True) (L:=q4P) (fun k i a x _ hx h0 h1 hi=>by
  obtain⟨x',e1,e2⟩:=j6X k i a x hx h0 (by omega) hi
  exact⟨k+1,x',e1,by omega,by omega,e2⟩) j6o xs (fun _ _=>trivial) h0 (by rw [hs]; exact h1) h2
 rw [hs] at e3
 exact⟨k',ys,e1,e2,e3,e4⟩
theorem j6Z (xs:List ByteArray){k:Int}(h0:0≤k)(h1:k+16*(szL xs:Nat)≤10000000000)(h2:szL xs≤1048576):∃ k' ys,q6b xs k=some (k',ys)∧k≤k'∧k'≤k+16*(szL xs:Nat):=by
 have hl:=q3A xs
 obtain⟨k',ys,e1,e2,e3,_⟩:=j6Y xs h0 (by omega) (by omega)
 exact⟨k',ys,e1,e2,by omega⟩
theorem j6p (xs:List Attribute){k:Int}(h0:0≤k)(h1:k+16*(szL xs:Nat)≤10000000000)(h2:szL xs≤1048576):∃ k' ys,q5K xs k=some (k',ys)∧k≤k'∧k'≤k+16*(szL xs:Nat):=
 z3w (L:=q5i) (fun k i a x hx h0 h1 hi _=>by
  obtain⟨t,ht⟩:=z0c h0 (by omega)
  have hl:=(List.getElem?_eq_some_iff.1 hx).1
  have hI:∀ m:Int,k≤m→m≤k+16→I64 m:=fun m _ _=>by constructor<;>omega
  have hI2:I64 ((i:Int)+1):=by constructor<;>omega
  have hi0:(0:Int)≤(i:Int):=by omega
  refine⟨k+1+1+1+1,⟨t,k+1,k+1+1,decide (((k+1+1+1).tmod 3)=0)⟩,?_,by omega,by omega⟩
  unfold q5i
  dsimp only
  rw [if_pos (by omega),ht,Option.bind_some,q3m hi0,Int.toNat_natCast,hx,Option.bind_some,q3m (hI _ (by omega) (by omega)),q3m hi0,List.getElem?_set_self hl,Option.bind_some,q3m (hI _ (by omega) (by omega)),q3m hi0,List.getElem?_set_self (by rw [List.length_set]; exact hl),Option.bind_some,q3m (hI _ (by omega) (by omega)),q3m hi0,List.getElem?_set_self (by rw [List.length_set,List.length_set]; exact hl),Option.bind_some,q3m (hI _ (by omega) (by omega)),q3m hI2,List.set_set,List.set_set,List.set_set]
  rfl) (fun k i a h=>by unfold q5i; dsimp only; exact if_neg h) xs h0 h1 h2
theorem j7a (xs:List Symbol){k:Int}(h0:0≤k)(h1:k+16*(szL xs:Nat)≤10000000000)(h2:szL xs≤1048576):∃ k' ys,q7q xs k=some (k',ys)∧k≤k'∧k'≤k+16*(szL xs:Nat):=
 z3w (L:=q6P) (fun k i a x hx h0 h1 hi h3=>by
  obtain⟨t,ht⟩:=z0c h0 (by omega)
  have hl:=(List.getElem?_eq_some_iff.1 hx).1
  have hI:∀ m:Int,k≤m→m≤k+16→I64 m:=fun m _ _=>by constructor<;>omega
  have hI2:I64 ((i:Int)+1):=by constructor<;>omega
  have hi0:(0:Int)≤(i:Int):=by omega
  rw [z3d] at h1 h3 ⊢
  obtain⟨k',z,e1,e2,e3⟩:=j6p x.Attributes (k:=k+1) (by omega) (by omega) (by omega)
  refine⟨k',⟨t,z⟩,?_,by omega,by omega⟩
  unfold q6P
  dsimp only
  rw [if_pos (by omega),ht,Option.bind_some,q3m hi0,Int.toNat_natCast,hx,Option.bind_some,q3m (hI _ (by omega) (by omega)),e1,Option.bind_some]
  dsimp only
  rw [q3m hI2]
  rfl) (fun k i a h=>by unfold q6P; dsimp only; exact if_neg h) xs h0 h1 h2
theorem j4N:∀ (N:Nat) (xs:List Expr),fuEs xs≤N→∀ {k:Int},0≤k→k+16*(szL xs:Nat)≤10000000000→szL xs≤1048576→∃ k' ys,(∀ n,N≤n→q7G (n+1) xs k=some (k',ys))∧k≤k'∧k'≤k+16*(szL xs:Nat):=by
 intro N
 induction N with
 | zero=>
  intro xs hn k h0 h1 h2
  cases xs with
  | nil=>exact⟨k,[],fun n _=>by show q7F _ _ _=_; unfold q7F; rw [q3Z (r:=(k,[])) (by unfold q6Q; dsimp only; exact if_neg (by simp))]; rfl,by omega,by omega⟩
  | cons x xs=>have:=q9f (x:=x) (l:=x :: xs) (by simp); rw [q7M] at this; omega
 | succ N ih=>
  intro xs hn k h0 h1 h2
  have hq:∀ x∈xs,1+Sz.szd x≤1048576:=by
   clear h1 hn
   induction xs with
   | nil=>intro x hx; cases hx
   | cons y ys ih=>
    simp only [szL] at h2
    intro x hx
    rcases List.mem_cons.1 hx with rfl | hx
    ·omega
    ·exact ih (by omega) x hx
  have hf:∀ x∈xs,fuEs x.Args≤N:=fun x hx=>by have:=q9f hx; rw [q7M] at this; omega
  obtain⟨k',ys,e1,e2,e3,_⟩:=j3c (ι:=Nat) (Q:=fun n=>N+1≤n) (R:=fun _ _ _=>True) (c:=fun x:Expr=>16*(1+Sz.szd x)) (P:=fun x=>fuEs x.Args≤N∧1+Sz.szd x≤1048576) (L:=fun n=>q6Q (q7G n)) (fun k i a x hp hx h0 h1 hi=>by
    have hl:=(List.getElem?_eq_some_iff.1 hx).1
    have hI:∀ m:Int,k≤m→m≤k+16→I64 m:=fun m _ _=>by constructor<;>omega
    have hI2:I64 ((i:Int)+1):=by constructor<;>omega
    have hi0:(0:Int)≤(i:Int):=by omega
    obtain⟨hp,hq⟩:=hp
    rw [q4V] at h1 hq ⊢
    obtain⟨t1,ht1⟩:=z0c (k:=k+1+1+1+1) (by omega) (by omega)
    obtain⟨t2,ht2⟩:=z0c (k:=k+1+1+1+1+1) (by omega) (by omega)
    obtain⟨k1,z,e1,e2,e3⟩:=ih x.Args hp (k:=k+1+1+1+1+1+1) (by omega) (by omega) (by omega)
    refine⟨k1,⟨k,k+1,k+1+1,k+1+1+1,t1,t2,z⟩,fun n hn=>?_,by omega,by omega,trivial⟩
    obtain⟨j,rfl⟩:∃ j,n=j+1:=⟨n - 1,by omega⟩
    have e1:=e1 j (by omega)
    unfold q6Q
    dsimp only
    rw [if_pos (by omega),q3m hi0,Int.toNat_natCast,hx,Option.bind_some,q3m (hI _ (by omega) (by omega)),q3m (hI _ (by omega) (by omega)),q3m (hI _ (by omega) (by omega)),q3m (hI _ (by omega) (by omega)),ht1,Option.bind_some,q3m (hI _ (by omega) (by omega)),ht2,Option.bind_some,q3m (hI _ (by omega) (by omega)),e1,Option.bind_some]
    dsimp only
    rw [q3m hI2]
    rfl) (fun n k i a h=>by unfold q6Q; dsimp only; exact if_neg h) xs (k:=k) (fun x hx=>⟨hf x hx,hq x hx⟩) h0 (by rw [z7w]; omega) (by have:=q3A xs; omega)
  rw [z7w] at e3
  exact⟨k',ys,fun n hn=>e1 n hn,e2,by omega⟩
theorem j0d (xs:List Expr){k:Int}(h0:0≤k)(h1:k+16*(szL xs:Nat)≤10000000000)(h2:szL xs≤1048576):∃ k' ys,q7H xs k=some (k',ys)∧k≤k'∧k'≤k+16*(szL xs:Nat):=by
 obtain⟨k',ys,e1,e2,e3⟩:=j4N (fuEs xs) xs (Nat.le_refl _) h0 h1 h2
 refine⟨k',ys,q6u (fuEs xs+1) fun n hn=>?_,e2,e3⟩
 obtain⟨j,rfl⟩:∃ j,n=j+1:=⟨n - 1,by omega⟩
 exact e1 j (by omega)
theorem j7b (xs:List Equation){k:Int}(h0:0≤k)(h1:k+16*(szL xs:Nat)≤10000000000)(h2:szL xs≤1048576):∃ k' ys,q6f xs k=some (k',ys)∧k≤k'∧k'≤k+16*(szL xs:Nat):=
 z3w (L:=q5L) (fun k i a x hx h0 h1 hi h3=>by
  have hl:=(List.getElem?_eq_some_iff.1 hx).1
  have hI:∀ m:Int,k≤m→m≤k+16→I64 m:=fun m _ _=>by constructor<;>omega
  have hI2:I64 ((i:Int)+1):=by constructor<;>omega
  have hi0:(0:Int)≤(i:Int):=by omega
  rw [q7J] at h1 h3 ⊢
  obtain⟨t1,ht1⟩:=z0c (k:=k+1) (by omega) (by omega)
  obtain⟨t2,ht2⟩:=z0c (k:=k+1+1+1+1+1+1) (by omega) (by omega)
  obtain⟨t3,ht3⟩:=z0c (k:=k+1+1+1+1+1+1+1) (by omega) (by omega)
  obtain⟨k',z,e1,e2,e3⟩:=j0d x.Expr.Args (k:=k+1+1+1+1+1+1+1+1) (by omega) (by omega) (by omega)
  refine⟨k',⟨⟨k,t1⟩,⟨k+1+1,k+1+1+1,k+1+1+1+1,k+1+1+1+1+1,t2,t3,z⟩⟩,?_,by omega,by omega⟩
  unfold q5L
  dsimp only
  rw [if_pos (by omega),q3m hi0,Int.toNat_natCast,hx,Option.bind_some,q3m (hI _ (by omega) (by omega)),ht1,Option.bind_some,q3m (hI _ (by omega) (by omega)),q3m (hI _ (by omega) (by omega)),q3m (hI _ (by omega) (by omega)),q3m (hI _ (by omega) (by omega)),q3m (hI _ (by omega) (by omega)),ht2,Option.bind_some,q3m (hI _ (by omega) (by omega)),ht3,Option.bind_some,q3m (hI _ (by omega) (by omega)),e1,Option.bind_some]
  dsimp only
  rw [q3m hI2]
  rfl) (fun k i a h=>by unfold q5L; dsimp only; exact if_neg h) xs h0 h1 h2
theorem j7c (xs:List Contribution){k:Int}(h0:0≤k)(h1:k+16*(szL xs:Nat)≤10000000000)(h2:szL xs≤1048576):∃ k' ys,q4J xs k=some (k',ys)∧k≤k'∧k'≤k+16*(szL xs:Nat):=
 z3w (L:=q4F) (fun k i a x hx h0 h1 hi h3=>by
  have hl:=(List.getElem?_eq_some_iff.1 hx).1
  have hI:∀ m:Int,k≤m→m≤k+16→I64 m:=fun m _ _=>by constructor<;>omega
  have hI2:I64 ((i:Int)+1):=by constructor<;>omega
  have hi0:(0:Int)≤(i:Int):=by omega
  rw [q6h] at h1 h3 ⊢
  obtain⟨t0,ht0⟩:=z0c (k:=k) (by omega) (by omega)
  obtain⟨t1,ht1⟩:=z0c (k:=k+1) (by omega) (by omega)
  obtain⟨t2,ht2⟩:=z0c (k:=k+1+1+1+1+1+1) (by omega) (by omega)
  obtain⟨t3,ht3⟩:=z0c (k:=k+1+1+1+1+1+1+1) (by omega) (by omega)
  obtain⟨k',z,e1,e2,e3⟩:=j0d x.Target.Args (k:=k+1+1+1+1+1+1+1+1) (by omega) (by omega) (by omega)
  obtain⟨t4,ht4⟩:=z0c (k:=k'+1+1+1+1) (by omega) (by omega)
  obtain⟨t5,ht5⟩:=z0c (k:=k'+1+1+1+1+1) (by omega) (by omega)
  obtain⟨k2,z2,f1,f2,f3⟩:=j0d x.Value.Args (k:=k'+1+1+1+1+1+1) (by omega) (by omega) (by omega)
  have hI' : ∀ m:Int,k'≤m→m≤k'+16→I64 m:=fun m _ _=>by constructor<;>omega
  refine⟨k2,⟨t0,t1,⟨k+1+1,k+1+1+1,k+1+1+1+1,k+1+1+1+1+1,t2,t3,z⟩,⟨k',k'+1,k'+1+1,k'+1+1+1,t4,t5,z2⟩⟩,?_,by omega,by omega⟩
  unfold q4F
  dsimp only
  rw [if_pos (by omega),ht0,Option.bind_some,q3m hi0,Int.toNat_natCast,hx,Option.bind_some,q3m (hI _ (by omega) (by omega)),ht1,Option.bind_some,q3m (hI _ (by omega) (by omega)),q3m (hI _ (by omega) (by omega)),q3m (hI _ (by omega) (by omega)),q3m (hI _ (by omega) (by omega)),q3m (hI _ (by omega) (by omega)),ht2,Option.bind_some,q3m (hI _ (by omega) (by omega)),ht3,Option.bind_some,q3m (hI _ (by omega) (by omega)),e1,Option.bind_some]
  dsimp only
  rw [q3m (hI' _ (by omega) (by omega)),q3m (hI' _ (by omega) (by omega)),q3m (hI' _ (by omega) (by omega)),q3m (hI' _ (by omega) (by omega)),ht4,Option.bind_some,q3m (hI' _ (by omega) (by omega)),ht5,Option.bind_some,q3m (hI' _ (by omega) (by omega)),f1,Option.bind_some]
  dsimp only
  rw [q3m hI2]
  rfl) (fun k i a h=>by unfold q4F; dsimp only; exact if_neg h) xs h0 h1 h2
theorem j6q (xs:List Rule){k:Int}(h0:0≤k)(h1:k+16*(szL xs:Nat)≤10000000000)(h2:szL xs≤1048576):∃ k' ys,q8Z xs k=some (k',ys)∧k≤k'∧k'≤k+16*(szL xs:Nat):=
 z3w (L:=q7S) (fun k i a x hx h0 h1 hi h3=>by
  have hl:=(List.getElem?_eq_some_iff.1 hx).1
  have hI2:I64 ((i:Int)+1):=by constructor<;>omega
  have hi0:(0:Int)≤(i:Int):=by omega
  rw [z2q] at h1 h3 ⊢
  obtain⟨t0,ht0⟩:=z0c (k:=k) (by omega) (by omega)
  obtain⟨t1,ht1⟩:=z0c (k:=k+1) (by omega) (by omega)
  obtain⟨k1,z1,e1,e2,e3⟩:=j6Z x.Right (k:=k+1+1) (by omega) (by omega) (by omega)
  obtain⟨k2,z2,f1,f2,f3⟩:=j7b x.Equations (k:=k1+1) (by omega) (by omega) (by omega)
  obtain⟨k3,z3,g1,g2,g3⟩:=j7c x.Contributions (k:=k2) (by omega) (by omega) (by omega)
  refine⟨k3,⟨t0,t1,z1,decide ((k1.tmod 3)=0),z2,z3⟩,?_,by omega,by omega⟩
  unfold q7S
  dsimp only
  rw [if_pos (by omega),ht0,Option.bind_some,q3m hi0,Int.toNat_natCast,hx,Option.bind_some,q3m (by constructor<;>omega),ht1,Option.bind_some,q3m (by constructor<;>omega),e1,Option.bind_some]
  dsimp only
  rw [q3m (by constructor<;>omega),f1,Option.bind_some]
  dsimp only
  rw [g1,Option.bind_some]
  dsimp only
  rw [q3m hI2]
  rfl) (fun k i a h=>by unfold q7S; dsimp only; exact if_neg h) xs h0 h1 h2
end Go.Proofs.YtaholdflpgcndaaGreat
set_option maxRecDepth 100000
set_option maxHeartbeats 4000000
namespace Go.Proofs.YtaholdflpgcndaaGreat
open Go Go.E
theorem j7d {α:Type}{R:Int→α→Int→Prop}(hR:∀ k x m,R k x m→k≤m):∀ (xs:List α) (k k' : Int),RL R k xs k'→k≤k'
 | [],k,k',h=>by rw [show k=k' from h]; exact Int.le_refl _
 | x :: xs,k,k',⟨m,h1,h2⟩=>Int.le_trans (hR _ _ _ h1) (j7d hR xs m k' h2)
theorem j3e {α:Type}{R:Int→α→Int→Prop}{L:Nat→α→Int→Option (Int ⊕ Int)}(hR:∀ k x m,R k x m→k≤m)(hL:∀ (i:Nat) (x:α) (k m:Int),R k x m→0≤k→m≤10000000000→L i x k=some (.inl m)):∀ (xs:List α) (k k' : Int) (i:Nat),RL R k xs k'→0≤k→k'≤10000000000→findL L i xs k=some (.inl k')
 | [],k,k',i,h,_,_=>by rw [show k=k' from h]; rfl
 | x :: xs,k,k',i,⟨m,h1,h2⟩,h3,h4=>by
  have h5:=j7d hR xs m k' h2
  have h6:=hR _ _ _ h1
  show (L i x k).bind _=_
  rw [hL i x k m h1 h3 (by omega),Option.bind_some]
  exact j3e hR hL xs m k' (i+1) h2 (by omega) h4
def RI (k:Int)(n:Int)(m:Int):Prop:=n=k∧m=k+1
theorem j7q (k:Int)(x:Int)(m:Int)(h:RI k x m):k≤m:=by have:=h.2; omega
theorem j3f (xs:List Int){k:Int}(h0:0≤k)(h1:k+xs.length≤10000000000)(h2:xs.length≤1000000000):∃ k' ys,q6n xs k=some (k',ys)∧k≤k'∧k'≤k+xs.length∧RL RI k ys k'∧ys.length=xs.length:=by
 have hs:=z7x xs
 obtain⟨k',ys,e1,e2,e3,e4⟩:=j3d (R:=RI) (c:=fun _=>1) (P:=fun _=>True) (L:=q9a) (fun k i a x _ hx h0 h1 hi=>by
  have hl:=(List.getElem?_eq_some_iff.1 hx).1
  refine⟨k+1,k,?_,by omega,by omega,rfl,rfl⟩
  unfold q9a
  dsimp only
  rw [if_pos (by omega),q3m (by omega),Int.toNat_natCast,hx,Option.bind_some,q3m (by constructor<;>omega),q3m (by constructor<;>omega)]
  rfl) (fun k i a h=>by unfold q9a; dsimp only; exact if_neg h) xs (fun _ _=>trivial) h0 (by rw [hs]; exact h1) h2
 rw [hs] at e3
 exact⟨k',ys,e1,e2,e3,e4⟩
theorem j6r {xs:List Int}{k k' : Int}(h:RL RI k xs k')(h0:0≤k)(h1:k'≤10000000000):q7e xs k=some k':=by
 unfold q7e
 rw [j3e j7q (fun i x k m h h0 h1=>by
  unfold z3p
  obtain⟨h2,h3⟩:=h
  rw [if_pos h2,q3m (by constructor<;>omega),h3]) xs k k' 0 h h0 h1]; rfl
theorem j0T (xs:List Int):q7C xs xs=some true:=q8J (f:=z2R xs) fun k x h=>by unfold z2R; rw [h,Option.bind_some,if_pos rfl]
end Go.Proofs.YtaholdflpgcndaaGreat
set_option maxRecDepth 100000
set_option maxHeartbeats 4000000
namespace Go.Proofs.YtaholdflpgcndaaGreat
open Go Go.E
theorem z8J {α:Type}{l:List α}{i:Nat}{x:α}(h:l[i]? = some x):i < l.length:=(List.getElem?_eq_some_iff.1 h).1
def j6s (l:List TraceStep)(i q:Nat):Bool:=match l[i]?,l[q]? with
 | some a,some p=>decide (a.At∈p.Inputs)
 | _,_=>false
def q5B (l:List TraceStep)(i:Nat):Nat→Nat
 | 0=>i
 | q+1=>if i < q∧j6s l i q=true then q else q5B l i q
theorem z3j (l:List TraceStep)(i:Nat):∀ q,q≤i+1→q5B l i q=i
 | 0,_=>rfl
 | q+1,h=>by rw [q5B,if_neg (by omega),z3j l i q (by omega)]
theorem z6s {l:List TraceStep}{i q:Nat}{a p:TraceStep}(ha:l[i]? = some a)(hp:l[q]? = some p)(hi:i < q)(h:a.At∈p.Inputs):q5B l i (q+1)=q:=by
 rw [q5B,if_pos ⟨hi,by simp [j6s,ha,hp,h]⟩]
theorem z8K {l:List TraceStep}{i q:Nat}{a p:TraceStep}(ha:l[i]? = some a)(hp:l[q]? = some p)(h:¬ a.At∈p.Inputs):q5B l i (q+1)=q5B l i q:=by
 rw [q5B,if_neg (by simp [j6s,ha,hp,h])]
theorem z6t {α:Type}[DecidableEq α](l:List α)(y:α):decide (0≤ixF l y)=decide (y∈l):=by
 unfold ixF
 split
 ·next h=>simp [h]
 ·next h=>simp [h]
theorem z3x (l:List TraceStep)(i:Nat):∀ q,q5B l i q=i∨(i < q5B l i q∧q5B l i q < q)
 | 0=>.inl rfl
 | q+1=>by
  rw [q5B]
  split
  ·exact .inr (by omega)
  ·rcases z3x l i q with h | h
   ·exact .inl h
   ·exact .inr (by omega)
theorem j3g (l:List Instance)(x:Instance):q9y l x=some (decide (x∈l)):=by
 unfold q9y q6d
 rw [z5p (y:=x) fun k z=>⟨fun h=>by simp [q6X,h],fun h=>by simp [q6X,h]⟩,Option.bind_some,z6t]
theorem j3h (l:List Instance)(x:Instance):q3H l x=some (decide (x∈l)):=by
 unfold q3H q4n
 rw [z5p (y:=x) fun k z=>⟨fun h=>by simp [q4L,h],fun h=>by simp [q4L,Ne.symm h]⟩,Option.bind_some,z6t]
theorem j0e (l:List TraceStep)(i:Nat)(hi:i < l.length)(hl:(l.length:Int)≤9223372036854775806):q9z l (i:Int)=some ((q5B l i l.length:Nat):Int):=by
 unfold q9z
 obtain⟨a,ha⟩:∃ a,l[i]? = some a:=⟨_,List.getElem?_eq_getElem hi⟩
 rw [z2s,Option.bind_some,if_pos (by simp; omega),q3m (by constructor<;>omega)]
 have key:∀ m k:Nat,k+m=l.length→i < k→q4B (q9T l (i:Int)) (((q5B l i k:Nat):Int),(k:Int))=some ((q5B l i l.length:Nat):Int):=by
  intro m
  induction m with
  | zero=>
   intro k hk _
   have e:k=l.length:=by omega
   rw [e]
   exact q3Z (by unfold q9T; dsimp only; rw [if_neg (by omega)])
  | succ m ih=>
   intro k hk hik
   obtain⟨p,hp⟩:∃ p,l[k]? = some p:=⟨_,List.getElem?_eq_getElem (by omega)⟩
   rw [q5b (s':=(((q5B l i (k+1):Nat):Int),((k+1:Nat):Int))) ?_]
   ·exact ih (k+1) (by omega) (by omega)
   ·unfold q9T
    dsimp only
    rw [if_pos (by omega),q3m (Int.natCast_nonneg _),Int.toNat_natCast,hp,Option.bind_some,q3m (Int.natCast_nonneg _),Int.toNat_natCast,ha,Option.bind_some,j3g,Option.bind_some]
    by_cases hm:a.At∈p.Inputs
    ·rw [if_pos (by simp [hm]),z6s ha hp hik hm,Option.bind_some,q3m (by constructor<;>omega)]; rfl
    ·rw [if_neg (by simp [hm]),z8K ha hp hm,Option.bind_some,q3m (by constructor<;>omega)]; rfl
 have h:=key (l.length - (i+1)) (i+1) (by omega) (by omega)
 rw [z3j l i _ (Nat.le_refl _)] at h
 have e:((i:Int),(i:Int)+1)=((i:Int),((i+1:Nat):Int)):=rfl
 rw [e,h]; rfl
theorem j0f (l:List TraceStep)(i:Nat)(hi:i < l.length)(hl:(l.length:Int)≤9223372036854775806):q9D l (i:Int)=some ((q5B l i l.length:Nat):Int):=by
 unfold q9D
 obtain⟨a,ha⟩:∃ a,l[i]? = some a:=⟨_,List.getElem?_eq_getElem hi⟩
 have key:∀ q,q≤l.length→i < q→q4B (q8v l (i:Int)) ((q:Int) - 1)=some (if q5B l i q=i then .inl () else .inr ((q5B l i q:Nat):Int)):=by
  intro q
  induction q with
  | zero=>intro _ h; omega
  | succ q ih=>
   intro hq hiq
   have e0:((q+1:Nat):Int) - 1=(q:Int):=by omega
   rw [e0]
   by_cases hiq2:i < q
   ·obtain⟨p,hp⟩:∃ p,l[q]? = some p:=⟨_,List.getElem?_eq_getElem (by omega)⟩
    have e1:q8v l (i:Int) (q:Int)=some (if a.At∈p.Inputs then .inr (.inr (q:Int)) else .inl ((q:Int) - 1)):=by
     unfold q8v
     rw [if_pos (by omega),q3m (Int.natCast_nonneg _),Int.toNat_natCast,hp,Option.bind_some,q3m (Int.natCast_nonneg _),Int.toNat_natCast,ha,Option.bind_some,j3h,Option.bind_some]
     by_cases hm:a.At∈p.Inputs
     ·simp [hm]
     ·simp only [hm,decide_false,Bool.false_eq_true,if_false]
      rw [q3m (by constructor<;>omega)]
    by_cases hm:a.At∈p.Inputs
    ·rw [q3Z (by rw [e1,if_pos hm]),z6s ha hp hiq2 hm,if_neg (by omega)]
    ·rw [q5b (by rw [e1,if_neg hm]),z8K ha hp hm]
     exact ih (by omega) hiq2
   ·have:q=i:=by omega
    subst this
    rw [q3Z (r:=.inl ()) (by unfold q8v; rw [if_neg (by omega)]),z3j l q _ (Nat.le_refl _),if_pos rfl]
 rw [key l.length (Nat.le_refl _) hi,Option.bind_some]
 by_cases h:q5B l i l.length=i
 ·rw [if_pos h,h]; rfl
 ·rw [if_neg h]; rfl
def j0g (t:List TraceStep)(keep:List Instance)(c:List Int)(i k:Nat):Prop:=i < k∧k < c.length∧c[i]? = c[k]?∧(k < q5B t i t.length∨∃ a,t[i]? = some a∧a.At∈keep)
theorem j3i (t:List TraceStep)(keep:List Instance)(c:List Int)(hl:(t.length:Int)≤9223372036854775806) :
  ∃ b,q6C t keep c=some b∧(b=true↔c.length=t.length∧(∀ x∈c,0≤x)∧∀ i k,¬ j0g t keep c i k):=by
 unfold q6C
 by_cases h0:(c.length:Int)=(t.length:Int)
 ·have h0' : c.length=t.length:=by omega
  rw [if_pos h0]
  have key:=z5o (c:=false) (xs:=c) (i:=0) (p:=fun k x=>x < 0∨∃ i,j0g t keep c i k) (f:=q9k t keep c) fun k x hx=>by
   simp only [Nat.zero_add]
   have hk:=z8J hx
   unfold q9k
   by_cases hx0:x < 0
   ·exact⟨fun _=>by rw [if_pos hx0],fun h=>absurd (.inl hx0) h⟩
   ·rw [if_neg hx0]
    have k2:=z8v (c:=false) (n:=k) (i:=0) (p:=fun i=>j0g t keep c i k) (f:=q9j t keep c k x) fun i hi=>by
     simp only [Nat.zero_add]
     obtain⟨y,hy⟩:∃ y,c[i]? = some y:=⟨_,List.getElem?_eq_getElem (by omega)⟩
     obtain⟨a,ha⟩:∃ a,t[i]? = some a:=⟨_,List.getElem?_eq_getElem (by omega)⟩
     unfold q9j
     rw [hy,Option.bind_some]
     by_cases hyx:y=x
     ·subst hyx
      rw [if_pos rfl,j0e t i (by omega) hl,Option.bind_some]
      by_cases hlu:k < q5B t i t.length
      ·rw [if_pos (by omega)]
       exact⟨fun _=>rfl,fun h=>absurd ⟨hi,hk,by rw [hy,hx],.inl hlu⟩ h⟩
      ·rw [if_neg (by omega),ha,Option.bind_some,j3g,Option.bind_some]
       by_cases hm:a.At∈keep
       ·rw [if_pos (by simp [hm])]
        exact⟨fun _=>rfl,fun h=>absurd ⟨hi,hk,by rw [hy,hx],.inr ⟨a,ha,hm⟩⟩ h⟩
       ·rw [if_neg (by simp [hm])]
        refine⟨fun h=>?_,fun _=>rfl⟩
        rcases h.2.2.2 with h | ⟨a',ha',hm'⟩
        ·exact absurd h hlu
        ·rw [ha] at ha'; cases ha'; exact absurd hm' hm
     ·rw [if_neg hyx]
      refine⟨fun h=>?_,fun _=>rfl⟩
      have:=h.2.2.1
      rw [hy,hx] at this
      exact absurd (Option.some.inj this) hyx
    simp only [Nat.zero_add] at k2
    refine⟨fun h=>?_,fun h=>?_⟩
    ·obtain⟨i,hc⟩:=h.resolve_left hx0
     rw [k2.1 ⟨i,hc.1,hc⟩]; rfl
    ·rw [k2.2 fun i hi hc=>h (.inr ⟨i,hc⟩)]; rfl
  simp only [Nat.zero_add] at key
  by_cases hb:∃ k x,c[k]? = some x∧(x < 0∨∃ i,j0g t keep c i k)
  ·refine⟨false,by rw [key.1 hb]; rfl,?_⟩
   simp only [Bool.false_eq_true,false_iff]
   rintro⟨_,h1,h2⟩
   obtain⟨k,x,hx,h | ⟨i,h⟩⟩:=hb
   ·have:=h1 x (List.mem_of_getElem? hx); omega
   ·exact h2 i k h
  ·refine⟨true,by rw [key.2 fun k x hx hn=>hb ⟨k,x,hx,hn⟩]; rfl,?_⟩
   simp only [true_iff]
   refine⟨h0',fun x hx=>?_,fun i k h=>?_⟩
   ·obtain⟨k,hk⟩:=List.getElem?_of_mem hx
    exact Classical.byContradiction fun hn=>hb ⟨k,x,hk,.inl (by omega)⟩
   ·exact hb ⟨k,_,List.getElem?_eq_getElem h.2.1,.inr ⟨i,h⟩⟩
 ·rw [if_neg h0]
  exact⟨false,rfl,by simp; intro h; omega⟩
theorem j4O {c:List Int}{j:Nat}{x:Int}(h:0≤ixF (c.drop j) x):∃ m:Nat,ixF (c.drop j) x=(m:Int)∧c[j+m]? = some x∧∀ q,q < m→c[j+q]?≠some x:=by
 unfold ixF at h ⊢
 by_cases hm:x∈c.drop j
 ·rw [if_pos hm]
  refine⟨_,rfl,?_,fun q hq he=>?_⟩
  ·rw [← List.getElem?_drop]
   rw [List.getElem?_eq_getElem (List.idxOf_lt_length_of_mem hm)]
   simp
  ·rw [← List.getElem?_drop] at he
   obtain⟨hq2,he⟩:=List.getElem?_eq_some_iff.1 he
   have:=List.not_of_lt_findIdx (p:=(· == x)) (xs:=c.drop j) (i:=q) (by simpa [List.idxOf] using hq)
   simp [he] at this
 ·rw [if_neg hm] at h; omega
theorem j3j (t:List TraceStep)(keep:List Instance)(c:List Int)(hl:(t.length:Int)≤9223372036854775806) :
  ∃ b,q6I t keep c=some b∧(b=true↔c.length=t.length∧(∀ x∈c,0≤x)∧∀ i k,¬ j0g t keep c i k):=by
 unfold q6I
 by_cases h0:(c.length:Int)=(t.length:Int)
 ·have h0' : c.length=t.length:=by omega
  rw [if_pos h0]
  have hneg:∀ (xs:List Int) (i:Nat),∃ z,findL q3P i xs ()=some z∧((∃ x∈xs,x < 0)→∃ k:Nat,z = .inr (k:Int))∧((∀ x∈xs,0≤x)→z = .inl ()):=by
   intro xs
   induction xs with
   | nil=>intro i; exact⟨_,rfl,by simp,by simp⟩
   | cons x xs ih=>
    intro i
    simp only [findL,q3P,q6H,Option.bind_some,decide_eq_true_eq]
    by_cases hx:x < 0
    ·rw [if_pos hx]
     exact⟨_,rfl,fun _=>⟨i,rfl⟩,fun h=>by have:=h x (by simp); omega⟩
    ·rw [if_neg hx]
     obtain⟨z,h1,h2,h3⟩:=ih (i+1)
     refine⟨z,h1,fun ⟨y,hy,hn⟩=>h2 ?_,fun h=>h3 fun y hy=>h y (by simp [hy])⟩
     rcases List.mem_cons.1 hy with rfl | hy
     ·exact absurd hn hx
     ·exact⟨y,hy,hn⟩
  unfold q3C q3F
  obtain⟨z,hz,hz1,hz2⟩:=hneg c 0
  rw [hz]
  by_cases hn:∃ x∈c,x < 0
  ·obtain⟨k,rfl⟩:=hz1 hn
   refine⟨false,by simp,?_⟩
   simp only [Bool.false_eq_true,false_iff]
   rintro⟨_,h1,_⟩
   obtain⟨x,hx,hx0⟩:=hn
   have:=h1 x hx; omega
  ·have hpos:∀ x∈c,0≤x:=fun x hx=>Classical.byContradiction fun h=>hn ⟨x,hx,by omega⟩
   rw [hz2 hpos]
   simp only [Option.bind_some,show decide ((0:Int)≤-1)=false from rfl,Bool.false_eq_true,if_false]
   have key:=z5o (c:=false) (xs:=t) (i:=0) (p:=fun i _=>∃ k,j0g t keep c i k) (f:=q9n t keep c) fun i a ha=>by
    simp only [Nat.zero_add]
    have hi:=z8J ha
    obtain⟨x,hx⟩:∃ x,c[i]? = some x:=⟨_,List.getElem?_eq_getElem (by omega)⟩
    unfold q9n
    rw [q3m (by omega),hx,Option.bind_some]
    have hix:q4D (c.drop (i+1)) x=some (ixF (c.drop (i+1)) x):=by
     unfold q4D
     exact z5p (y:=x) fun k z=>⟨fun h=>by simp [q6l,h],fun h=>by simp [q6l,Ne.symm h]⟩
    rw [hix,Option.bind_some]
    by_cases hy:0≤ixF (c.drop (i+1)) x
    ·obtain⟨m,hm,hm1,hm2⟩:=j4O hy
     rw [if_pos hy,j0f t i (by omega) hl,Option.bind_some,hm]
     have hlt:=z8J hm1
     have hr:=z3x t i t.length
     rw [q3m (by constructor<;>omega)]
     by_cases hlu:i+1+m < q5B t i t.length
     ·rw [if_pos (by omega)]
      exact⟨fun _=>rfl,fun h=>absurd ⟨i+1+m,by omega,hlt,by rw [hx,hm1],.inl hlu⟩ h⟩
     ·rw [if_neg (by omega),j3h,Option.bind_some,Option.bind_some]
      dsimp only
      rw [Option.bind_some]
      by_cases hk:a.At∈keep
      ·rw [if_pos (by simp [hk])]
       exact⟨fun _=>rfl,fun h=>absurd ⟨i+1+m,by omega,hlt,by rw [hx,hm1],.inr ⟨a,ha,hk⟩⟩ h⟩
      ·rw [if_neg (by simp [hk])]
       refine⟨fun ⟨k,hc⟩=>?_,fun _=>rfl⟩
       have hge:i+1+m≤k:=Classical.byContradiction fun hlt2=>by
        have:=hm2 (k - (i+1)) (by have:=hc.1; omega)
        rw [show i+1+(k - (i+1))=k by have:=hc.1; omega,← hc.2.2.1,hx] at this
        exact this rfl
       rcases hc.2.2.2 with h | ⟨a',ha',h⟩
       ·omega
       ·rw [ha] at ha'; cases ha'; exact absurd h hk
    ·rw [if_neg hy]
     refine⟨fun ⟨k,hc⟩=>?_,fun _=>rfl⟩
     refine absurd ?_ hy
     have hmem:x∈c.drop (i+1):=by
      have:(c.drop (i+1))[k - (i+1)]? = some x:=by
       rw [List.getElem?_drop,show i+1+(k - (i+1))=k by have:=hc.1; omega,← hc.2.2.1,hx]
      exact List.mem_of_getElem? this
     unfold ixF
     rw [if_pos hmem]
     exact Int.natCast_nonneg _
   simp only [Nat.zero_add] at key
   by_cases hb:∃ i a,t[i]? = some a∧∃ k,j0g t keep c i k
   ·refine⟨false,by rw [key.1 hb]; rfl,?_⟩
    simp only [Bool.false_eq_true,false_iff]
    rintro⟨_,_,h2⟩
    obtain⟨i,a,_,k,h⟩:=hb
    exact h2 i k h
   ·refine⟨true,by rw [key.2 fun i a ha hn=>hb ⟨i,a,ha,hn⟩]; rfl,?_⟩
    simp only [true_iff]
    refine⟨h0',hpos,fun i k h=>hb ⟨i,_,List.getElem?_eq_getElem (by have:=h.1; have:=h.2.1; omega),k,h⟩⟩
 ·rw [if_neg h0]
  exact⟨false,rfl,by simp; intro h; omega⟩
theorem j0U {g:Grammar}{r:Rule}(hr:r∈g.Rules):Sz.szd r≤Sz.szd g:=by
 have h1:=q8G g
 have h2:=q5l hr
 omega
def zRu:Rule:=⟨⟨#[]⟩,⟨#[]⟩,[],false,[],[]⟩
def ruF (g:Grammar)(n:ByteArray):Rule × Bool:=match g.Rules.find? fun y=>decide (y.Name=n) with
 | some y=>(y,true)
 | none=>(zRu,false)
theorem z5u {α:Type}{B:Nat}{f:Nat→α→List α→Option (List α)}:∀ (xs:List α) (i:Nat) (s:List α),(∀ k x s,x∈xs→s.length < B→f k x s=some (s++[x]))→s.length+xs.length≤B→eachL f i xs s=some (s++xs)
 | [],i,s,_,_=>by simp [eachL]
 | x :: xs,i,s,hf,h=>by
  simp only [List.length_cons] at h
  rw [eachL,hf i x s (by simp) (by omega),Option.bind_some,z5u xs (i+1) _ (fun k y s hy=>hf k y s (by simp [hy])) (by simp; omega)]
  simp
theorem j7r {r:Rule}(h:Sz.szd r≤1048576):q9A r=some r:=by
 have h0:=z2q r
 have h1:=q3A r.Equations
 have h2:=q3A r.Contributions
 have h3:=q3A r.Right
 unfold q9A
 rw [q3m (by simp only [List.length_nil]; constructor<;>omega),z5u (B:=1048576) r.Equations 0 [] (fun k x s hx hs=>by
  have q1:=q5l hx
  have q2:=q7J x
  have q3:=q4V x.Expr
  unfold z6k
  rw [z7l (by omega),Option.bind_some,q3m (by constructor<;>omega)]) (by simp; omega),Option.bind_some,z5u (B:=1048576) r.Contributions 0 [] (fun k x s hx hs=>by
  have q1:=q5l hx
  have q2:=q6h x
  have q3:=q4V x.Target
  have q4:=q4V x.Value
  unfold z6l
  rw [z7l (by omega),Option.bind_some,z7l (by omega),Option.bind_some,q3m (by constructor<;>omega)]) (by simp; omega),Option.bind_some]
 simp
theorem iRuF (g:Grammar)(s:ByteArray):q6Z g s=some (ruF g s):=by
 have h2:=q8f (p:=fun y:Rule=>decide (y.Name=s)) (r:=fun y=>(y,true)) (xs:=g.Rules) (i:=0) (f:=z0E s) fun k y hy=>by
  unfold z0E; constructor<;>intro hp<;>simp_all
 unfold q6Z ruF
 rw [h2]
 cases hf:g.Rules.find? (fun y:Rule=>decide (y.Name=s)) with
 | none=>rfl
 | some y=>rfl
theorem sRuF {g:Grammar}(h:Sz.szd g≤1048576)(s:ByteArray):q6Y g s=some (ruF g s):=by
 have h2:=q8f (p:=fun y:Rule=>decide (y.Name=s)) (r:=fun y=>(y,true)) (xs:=g.Rules) (i:=0) (f:=z0y s) fun k y hy=>by
  have hg:q9A y=some y:=j7r (Nat.le_trans (j0U hy) h)
  unfold z0y; rw [hg]; constructor<;>intro hp<;>simp_all
 unfold q6Y ruF
 rw [h2]
 cases hf:g.Rules.find? (fun y:Rule=>decide (y.Name=s)) with
 | none=>rfl
 | some y=>rfl
theorem j7e {g:Grammar}(h:Sz.szd g≤1048576)(s:ByteArray):Sz.szd (ruF g s).1≤1048576:=by
 unfold ruF
 cases hf:g.Rules.find? (fun y:Rule=>decide (y.Name=s)) with
 | none=>show Sz.szd zRu≤_; exact Nat.le_trans (Nat.le_of_eq rfl) (Nat.zero_le _)
 | some y=>exact Nat.le_trans (j0U (List.mem_of_find?_eq_some hf)) h
def ndF (t:Tree)(id:Int):Int:=match t.Nodes.findIdx? fun y=>decide (y.Id=id) with
 | some k=>(k:Int)
 | none=>-1
theorem z5v {α:Type}{q:α→Bool}:∀ (xs:List α) (i:Nat) {f:Nat→α→Unit→Option (Unit ⊕ Int)},(∀ k x,f k x ()=some (if q x=true then .inr (k:Int) else .inl ()))→findL f i xs ()=some (match xs.findIdx? q with | some k=>.inr ((i+k:Nat):Int) | none=>.inl ())
 | [],i,f,_=>rfl
 | x :: xs,i,f,hf=>by
  rw [findL,hf i x,Option.bind_some,List.findIdx?_cons]
  cases hq:q x with
  | true=>simp
  | false=>
   rw [if_neg (by simp)]
   show findL f (i+1) xs ()=_
   rw [z5v xs (i+1) hf]
   cases xs.findIdx? q with
   | none=>simp
   | some k=>
    have e:i+1+k=i+(k+1):=by omega
    simp [e]
theorem sNd (t:Tree)(id:Int):q5p t id=some (ndF t id):=by
 unfold q5p ndF
 rw [z5v (q:=fun y:Node=>decide (y.Id=id)) t.Nodes 0 fun k x=>by unfold z2b; by_cases h:x.Id=id<;>simp [h]]
 cases t.Nodes.findIdx? fun y=>decide (y.Id=id) with
 | none=>rfl
 | some k=>rw [Option.bind_some,z4o,Nat.zero_add]
theorem iNd (t:Tree)(id:Int):q6p t id=some (ndF t id):=by
 unfold q6p q3G ndF
 rw [z5v (q:=fun y:Node=>decide (y.Id=id)) t.Nodes 0 fun k x=>by unfold q4k q7n; rw [Option.bind_some]; by_cases h:x.Id=id<;>simp [h]]
 cases t.Nodes.findIdx? fun y=>decide (y.Id=id) with
 | none=>rfl
 | some k=>rw [Option.bind_some,z4o,Nat.zero_add]; rfl
theorem j7f (t:Tree)(id:Int):ndF t id < (t.Nodes.length:Int)∧(¬ ndF t id < 0→0≤ndF t id):=by
 unfold ndF
 cases h:t.Nodes.findIdx? fun y=>decide (y.Id=id) with
 | none=>exact⟨by show (-1:Int) < _; omega,fun h=>absurd (by show (-1:Int) < 0; omega) h⟩
 | some k=>
  have:=(List.findIdx?_eq_some_iff_getElem.1 h).1
  exact⟨by show (k:Int) < _; omega,fun _=>by show (0:Int)≤(k:Int); omega⟩
theorem isN (t:Tree)(i:Int):q5u t i=some (decide (0≤i∧i≤(t.Nodes.length:Int) - 1)):=by unfold q5u; rw [j5m]; rfl
def syN (g:Grammar)(t:Tree)(i:Int):ByteArray:=if 0≤i∧i≤(t.Nodes.length:Int) - 1 then (match t.Nodes[i.toNat]? with | some x=>(ruF g x.Rule).1.Left | none=>⟨#[]⟩) else ⟨#[]⟩
theorem sSyN {g:Grammar}(h:Sz.szd g≤1048576)(t:Tree)(i:Int):q5q g t i=some (syN g t i):=by
 unfold q5q syN
 rw [z2s,Option.bind_some]
 by_cases hi:0≤i∧i≤(t.Nodes.length:Int) - 1
 ·obtain⟨x,hx⟩:∃ x,t.Nodes[i.toNat]? = some x:=⟨_,List.getElem?_eq_getElem (by omega)⟩
  rw [if_pos (by simpa using hi),if_pos hi,q3m hi.1,hx,Option.bind_some,sRuF h]; rfl
 ·rw [if_neg (by simpa using hi),if_neg hi]
theorem iSyN (g:Grammar)(t:Tree)(i:Int):q5v g t i=some (syN g t i):=by
 unfold q5v syN
 rw [isN,Option.bind_some]
 by_cases hi:0≤i∧i≤(t.Nodes.length:Int) - 1
 ·obtain⟨x,hx⟩:∃ x,t.Nodes[i.toNat]? = some x:=⟨_,List.getElem?_eq_getElem (by omega)⟩
  rw [if_pos (by simpa using hi),if_pos hi,q3m hi.1,hx,Option.bind_some,iRuF]; rfl
 ·rw [if_neg (by simpa using hi),if_neg hi]
theorem j3k {g:Grammar}(h:Sz.szd g≤1048576)(t:Tree)(x:Instance):∃ a b,q5U g t x=some (a,b)∧q5X g t x=some (a,b)∧(b=true→0≤ndF t x.Node):=by
 unfold q5U q5X
 simp only [sNd,iNd,Option.bind_some]
 by_cases hn:ndF t x.Node < 0
 ·exact⟨_,_,if_pos hn,if_pos hn,fun h=>nomatch h⟩
 ·simp only [if_neg hn,sSyN h,iSyN,j2E (j5O h),j2F,j2G,z8z,Option.bind_some]
  exact⟨_,_,rfl,rfl,fun _=>(j7f t x.Node).2 hn⟩
theorem z7y {g:Grammar}(h:Sz.szd g≤1048576)(t:Tree)(x:Instance):∃ d b,q4K g t x=some (d,b)∧q4N g t x=some (d,b)∧(b=true→0≤d.Owner∧d.Owner < (t.Nodes.length:Int)∧Sz.szd d.Expr≤1048576):=by
 obtain⟨a,b,e1,e2,hb⟩:=j3k h t x
 unfold q4K q4N
 rw [e1,e2,Option.bind_some,Option.bind_some]
 dsimp only
 rw [sNd,Option.bind_some]
 cases b with
 | false=>exact⟨_,_,if_neg (by simp),if_neg (by simp),fun h=>nomatch h⟩
 | true=>
  rw [if_pos rfl,if_pos rfl]
  have h0:=hb rfl
  have hlt:=(j7f t x.Node).1
  by_cases hm:a.Mode=3
  ·exact⟨_,_,if_pos hm,if_pos hm,fun h=>nomatch h⟩
  ·rw [if_neg hm,if_neg hm,iNd,Option.bind_some]
   obtain⟨y,hy⟩:∃ y,t.Nodes[(ndF t x.Node).toNat]? = some y:=⟨_,List.getElem?_eq_getElem (by omega)⟩
   have hq:∃ s1 s2,(if a.Mode=1 then grd (0≤ndF t x.Node) <| (t.Nodes[(ndF t x.Node).toNat]?).bind fun x1=>some (x1.Parent,x1.Place) else some (ndF t x.Node,0))=some (s1,s2):=by
    by_cases h1:a.Mode=1
    ·rw [if_pos h1,q3m h0,hy]; exact⟨_,_,rfl⟩
    ·rw [if_neg h1]; exact⟨_,_,rfl⟩
   obtain⟨s1,s2,hs⟩:=hq
   rw [hs,Option.bind_some,Option.bind_some]
   dsimp only
   rw [z2s,isN,Option.bind_some,Option.bind_some]
   by_cases hi:0≤s1∧s1≤(t.Nodes.length:Int) - 1
   ·obtain⟨z,hz⟩:∃ z,t.Nodes[s1.toNat]? = some z:=⟨_,List.getElem?_eq_getElem (by omega)⟩
    rw [if_pos (by simpa using hi),if_pos (by simpa using hi),q3m hi.1,q3m hi.1,hz,Option.bind_some,Option.bind_some,sRuF h,iRuF,Option.bind_some,Option.bind_some]
    try dsimp only
    have hr:=j7e h z.Rule
    rw [(j2D hr _).1,(j2D hr _).2]
    simp only [Option.bind_some]
    by_cases hc:(eqAt (ruF g z.Rule).1 ⟨s2,x.Name⟩).2=true
    ·exact⟨_,_,if_pos hc,if_pos hc,fun _=>⟨hi.1,by show s1 < _; omega,j5S hr _⟩⟩
    ·exact⟨_,_,if_neg hc,if_neg hc,fun h=>nomatch h⟩
   ·rw [if_neg (by simpa using hi),if_neg (by simpa using hi)]
    exact⟨_,_,rfl,rfl,fun h=>nomatch h⟩
theorem j3l {g:Grammar}{t:Tree}(ht:Sz.szd t≤1048576){i:Int}(o:Occurrence):∃ y b,q6F g t i o=some (y,b)∧q6K g t i o=some (y,b):=by
 unfold q6F q6K
 rw [z2s,isN,Option.bind_some,Option.bind_some]
 by_cases hi:0≤i∧i≤(t.Nodes.length:Int) - 1
 ·have hd:=decide_eq_true hi
  obtain⟨x,hx⟩:∃ x,t.Nodes[i.toNat]? = some x:=⟨_,List.getElem?_eq_getElem (by omega)⟩
  have hxl:x.Children.length≤1048576:=by
   have h1:=q5l (List.mem_of_getElem? hx)
   have h2:=z4f x
   have h3:=q3A x.Children
   have h4:=z4g t
   omega
  rw [hd,if_pos rfl,if_pos rfl,q3m hi.1,hx,Option.bind_some,z2s,Option.bind_some]
  by_cases h0:o.Pos=0
  ·rw [if_pos h0,if_pos (by simp [h0]),if_neg (by omega),Option.bind_some,if_pos rfl,Option.bind_some,if_pos rfl,q3m hi.1]
   exact⟨_,_,rfl,rfl⟩
  ·rw [if_neg h0,q3m hi.1]
   simp only [Option.bind_some,j5m]
   by_cases hp:1≤o.Pos∧o.Pos≤(x.Children.length:Int)
   ·obtain⟨y,hy⟩:∃ y,x.Children[(o.Pos - 1).toNat]? = some y:=⟨_,List.getElem?_eq_getElem (by omega)⟩
    have hg:I64 (o.Pos - 1):=by constructor<;>omega
    rw [if_pos (by simp; omega),if_pos (by omega),if_pos (by simpa using hp),q3m hg,q3m hg,q3m (by omega),q3m (by omega),hy]
    simp only [Option.bind_some,z2s,isN]
    by_cases hj:0≤y∧y≤(t.Nodes.length:Int) - 1
    ·obtain⟨z,hz⟩:∃ z,t.Nodes[y.toNat]? = some z:=⟨_,List.getElem?_eq_getElem (by omega)⟩
     rw [if_pos (by simpa using hj),q3m hj.1,hz]
     exact⟨_,_,rfl,rfl⟩
    ·rw [if_neg (by simpa using hj)]
     exact⟨_,_,rfl,rfl⟩
   ·rw [if_neg (by simpa using (fun h1 h2=>hp ⟨by omega,h2⟩:0≤o.Pos→¬ o.Pos≤(x.Children.length:Int)) |> fun h=>by simpa using h),if_neg (by simpa using hp)]
    exact⟨_,_,rfl,rfl⟩
 ·rw [if_neg (by simpa using hi),if_neg (by simpa using hi)]
  exact⟨_,_,rfl,rfl⟩
theorem z7z (t:Tree):∀ (xs:List Int) (i j:Nat) (s:List Int),s.length+xs.length≤4194304→∃ r,eachL (z1y t) i xs s=some r∧eachL (q8x t) j xs s=some r
 | [],i,j,s,_=>⟨s,rfl,rfl⟩
 | x :: xs,i,j,s,h=>by
  simp only [List.length_cons] at h
  rw [eachL,eachL]
  unfold z1y q8x
  rw [z2s,isN]
  simp only [Option.bind_some]
  by_cases hj:0≤x∧x≤(t.Nodes.length:Int) - 1
  ·obtain⟨z,hz⟩:∃ z,t.Nodes[x.toNat]? = some z:=⟨_,List.getElem?_eq_getElem (by omega)⟩
   rw [if_pos (by simpa using hj),q3m hj.1,hz,Option.bind_some,q3m (by constructor<;>omega)]
   exact z7z t xs (i+1) (j+1) (s++[z.Id]) (by simp; omega)
  ·rw [if_neg (by simpa using hj)]
   exact z7z t xs (i+1) (j+1) s (by omega)
theorem j4P {t:Tree}(ht:Sz.szd t≤1048576)(i:Int):∃ l,q8a t i=some l∧q8d t i=some l:=by
 by_cases hi:0≤i∧i≤(t.Nodes.length:Int) - 1
 ·obtain⟨x,hx⟩:∃ x,t.Nodes[i.toNat]? = some x:=⟨_,List.getElem?_eq_getElem (by omega)⟩
  have hxl:x.Children.length≤1048576:=by
   have h1:=q5l (List.mem_of_getElem? hx)
   have h2:=z4f x
   have h3:=q3A x.Children
   have h4:=z4g t
   omega
  obtain⟨r,h1,h2⟩:=z7z t x.Children 0 1 [x.Id] (by simp; omega)
  refine⟨r,?_,?_⟩
  ·unfold q8a
   rw [z2s,Option.bind_some,if_pos (by simpa using hi),q3m hi.1,hx,Option.bind_some,q3m (by simp only [List.length_nil]; constructor<;>omega),List.nil_append,h1]
   rfl
  ·unfold q8d
   have e:q8x t 0 i []=some [x.Id]:=by
    unfold q8x
    rw [isN,Option.bind_some,if_pos (by simpa using hi),q3m hi.1,hx,Option.bind_some,q3m (by simp only [List.length_nil]; constructor<;>omega)]
    rfl
   rw [isN,Option.bind_some,if_pos (by simpa using hi),q3m hi.1,hx,Option.bind_some,q3m (by simp only [List.length_cons,List.length_nil]; constructor<;>omega),List.singleton_append,eachL,e,Option.bind_some,h2]
   rfl
 ·refine⟨[],?_,?_⟩
  ·unfold q8a
   rw [z2s,Option.bind_some,if_neg (by simpa using hi)]
  ·unfold q8d
   rw [isN,Option.bind_some,if_neg (by simpa using hi)]
def z0d (l:List TraceStep)(x:Instance):Nat→Int
 | 0=>-1
 | k+1=>if (l[k]?).map (·.At)=some x then (k:Int) else z0d l x k
theorem j0V (l:List TraceStep)(x:Instance):∀ k,z0d l x k < (k:Int)∧-1≤z0d l x k
 | 0=>by simp [z0d]
 | k+1=>by
  have:=j0V l x k
  rw [z0d]
  split<;>constructor<;>omega
theorem j3m {l:List TraceStep}{x:Instance}{q:Nat}{p:TraceStep}(hp:l[q]? = some p)(h:p.At=x):z0d l x (q+1)=(q:Int):=by
 rw [z0d,hp,if_pos (by simp [h])]
theorem j4Q {l:List TraceStep}{x:Instance}{q:Nat}{p:TraceStep}(hp:l[q]? = some p)(h:¬ p.At=x):z0d l x (q+1)=z0d l x q:=by
 rw [z0d,hp,if_neg (by simp [h])]
theorem sWr (l:List TraceStep)(x:Instance){n:Nat}(hn:n≤l.length):q7x l (n:Int) x=some (z0d l x n):=by
 unfold q7x
 rw [Int.toNat_natCast]
 obtain⟨s',h1,h2⟩:=j0K (P:=fun k (s:Int)=>s=z0d l x k) (n:=n) (i:=0) (s:=(-1:Int)) (f:=q9U l x) rfl fun k s hk hk2 hs=>by
  obtain⟨p,hp⟩:∃ p,l[k]? = some p:=⟨_,List.getElem?_eq_getElem (by omega)⟩
  unfold q9U
  rw [hp,Option.bind_some,z0d,hp]
  by_cases hx:p.At=x
  ·rw [if_pos hx,if_pos (by simp [hx])]; exact⟨_,rfl,rfl⟩
  ·rw [if_neg hx,if_neg (by simp [hx])]; exact⟨_,rfl,hs⟩
 rw [h1,Option.bind_some,h2,Nat.zero_add]
theorem iWr (l:List TraceStep)(x:Instance)(hl:l.length≤1048576){n:Nat}(hn:n≤l.length):q8w (l.take n) x=some (z0d l x n):=by
 unfold q8w
 have hlen:(l.take n).length=n:=by rw [List.length_take]; omega
 have key:∀ q,q≤n→q4B (q7z (l.take n) x) ((q:Int) - 1)=some (if z0d l x q = -1 then (.inl ():Unit ⊕ Int) else .inr (z0d l x q)):=by
  intro q
  induction q with
  | zero=>intro _; exact q3Z (r:=(.inl ():Unit ⊕ Int)) (by unfold q7z; rw [if_neg (by omega)])
  | succ q ih=>
   intro hq
   have e0:((q+1:Nat):Int) - 1=(q:Int):=by omega
   rw [e0]
   obtain⟨p,hp⟩:∃ p,l[q]? = some p:=⟨_,List.getElem?_eq_getElem (by omega)⟩
   have hp' : (l.take n)[q]? = some p:=by rw [List.getElem?_take,if_pos (by omega)]; exact hp
   by_cases hx:p.At=x
   ·rw [q3Z (r:=(.inr (q:Int):Unit ⊕ Int)) (by unfold q7z; rw [if_pos (by omega),q3m (by omega),Int.toNat_natCast,hp',Option.bind_some,if_pos hx]),j3m hp hx,if_neg (by omega)]
   ·rw [q5b (s':=(q:Int) - 1) (by unfold q7z; rw [if_pos (by omega),q3m (by omega),Int.toNat_natCast,hp',Option.bind_some,if_neg hx,q3m (by constructor<;>omega)]),j4Q hp hx]
    exact ih (by omega)
 rw [hlen,key n (Nat.le_refl _),Option.bind_some]
 by_cases h:z0d l x n = -1
 ·rw [if_pos h,h]; rfl
 ·rw [if_neg h]; rfl
theorem z8L {l:List TraceStep}{c mem:List Int}(hl:l.length≤1048576)(hc:c.length=l.length){n:Nat}(hn:n≤l.length)(hok:∀ (j:Nat) (v:Int),j < n→c[j]? = some v→0≤v∧v < (mem.length:Int))(x:Instance):∃ v,q7Z l c mem (n:Int) x=some v∧q5I x (n:Int) l mem c=some v:=by
 unfold q7Z q5I
 rw [sWr l x hn,Option.bind_some,q3m (c:=0≤(n:Int)) (by omega),Int.toNat_natCast,q3m hn,iWr l x hl hn,Option.bind_some]
 have hw:=j0V l x n
 by_cases h0:z0d l x n < 0
 ·exact⟨0,if_pos h0,if_pos h0⟩
 ·obtain⟨v,hv⟩:∃ v,c[(z0d l x n).toNat]? = some v:=⟨_,List.getElem?_eq_getElem (by omega)⟩
  obtain⟨v1,v2⟩:=hok _ v (by omega) hv
  obtain⟨z,hz⟩:∃ z,mem[v.toNat]? = some z:=⟨_,List.getElem?_eq_getElem (by omega)⟩
  rw [if_neg h0,q3m (by omega),hv,Option.bind_some,q3m v1,hz]
  exact⟨z,rfl,rfl⟩
theorem z6u {g:Grammar}{t:Tree}{l:List TraceStep}{c mem:List Int}(ht:Sz.szd t≤1048576)(hl:l.length≤1048576)(hc:c.length=l.length){n:Nat}(hn:n≤l.length)(hok:∀ (j:Nat) (v:Int),j < n→c[j]? = some v→0≤v∧v < (mem.length:Int))(d:Definition):∀ (us:List Occurrence) (i j:Nat) (s:List Slot),s.length+us.length≤4194304→∃ r,eachL (z0C g t l c mem n d) i us s=some r∧eachL (z0I g t l c mem n d) j us s=some r
 | [],i,j,s,_=>⟨s,rfl,rfl⟩
 | o :: us,i,j,s,h=>by
  simp only [List.length_cons] at h
  obtain⟨y,b,e1,e2⟩:=j3l (g:=g) ht (i:=d.Owner) o
  obtain⟨v,e3,e4⟩:=z8L hl hc hn hok y
  rw [eachL,eachL]
  unfold z0C z0I
  rw [e1,e2,Option.bind_some,Option.bind_some]
  dsimp only
  rw [e3,e4,Option.bind_some,q3m (by constructor<;>omega)]
  exact z6u ht hl hc hn hok d us (i+1) (j+1) _ (by simp; omega)
def okS (g:Grammar)(t:Tree)(l:List TraceStep)(c:List Int)(k:Nat):Prop:=∃ a d v,l[k]? = some a∧q4K g t a.At=some (d,true)∧c[k]? = some v∧0≤v∧v < (l.length:Int)
theorem j4R {g:Grammar}{t:Tree}{l:List TraceStep}{c mem:List Int}(h0:Sz.szd g≤1048576)(ht:Sz.szd t≤1048576)(hl:l.length≤1048576)(hc:c.length=l.length)(hm:mem.length=l.length){n:Nat}{a:TraceStep}(ha:l[n]? = some a)(hprev:∀ k,k < n→okS g t l c k)(hok:okS g t l c n):∃ m',q5t g t l c n a mem=some (.inl m')∧q8V g t l c n a mem=some m'∧m'.length=l.length:=by
 obtain⟨a',d,v,q1,q2,q3,q4,q5⟩:=hok
 rw [ha] at q1
 cases q1
 obtain⟨d',b,e1,e2,hb⟩:=z7y h0 t a.At
 rw [q2] at e1
 cases e1
 obtain⟨b1,b2,b3⟩:=hb rfl
 obtain⟨x,hx⟩:∃ x,t.Nodes[d.Owner.toNat]? = some x:=⟨_,List.getElem?_eq_getElem (by omega)⟩
 have hlen:=Nat.le_trans j2z (z9V b3)
 obtain⟨r,r1,r2⟩:=z6u (g:=g) (t:=t) (l:=l) (c:=c) (mem:=mem) ht hl hc (n:=n) (by have:=z8J ha; omega) (fun j w hj hw=>by
  obtain⟨_,_,w',_,_,q6,q7,q8⟩:=hprev j hj
  rw [hw] at q6
  cases q6
  exact⟨q7,by omega⟩) d (z5T d.Expr) 0 0 [] (by simp; omega)
 obtain⟨ids,i1,i2⟩:=j4P ht d.Owner
 have hcn:cntE d.Expr≤1099511627776:=by
  have h1:=j0N d.Expr
  have h2:q7r d.Expr=Sz.szd d.Expr:=rfl
  omega
 obtain⟨z,hz⟩:=j4p hcn r x.Literal ids
 obtain⟨w,hw⟩:∃ w,mem[v.toNat]? = some w:=⟨_,List.getElem?_eq_getElem (by omega)⟩
 refine⟨mem.set v.toNat (j2R d.Expr r x.Literal ids),?_,?_,by simp [hm]⟩
 ·unfold q5t
  rw [q2,Option.bind_some]
  dsimp only
  rw [if_pos rfl,q3,Option.bind_some,if_neg (by omega),j3T b3,Option.bind_some,r1,Option.bind_some,q3m b1,hx,Option.bind_some,i1,Option.bind_some,j4o hcn,Option.bind_some,q3m q4,hw]
  rfl
 ·unfold q8V
  rw [e2,Option.bind_some]
  dsimp only
  rw [j3R b3,Option.bind_some,r2,Option.bind_some,q3,Option.bind_some,q3m b1,hx,Option.bind_some,i2,Option.bind_some,hz,Option.bind_some]
  dsimp only
  rw [q3m q4,hw]
  rfl
theorem j3n {g:Grammar}{t:Tree}{l:List TraceStep}{c mem:List Int}(h0:Sz.szd g≤1048576)(hc:c.length=l.length)(hp:∀ x∈c,0≤x)(hm:mem.length=l.length){n:Nat}{a:TraceStep}(ha:l[n]? = some a)(hok:¬ okS g t l c n):q5t g t l c n a mem=some (.inr ([],false))∧∃ v,c[n]? = some v∧q5x g t l n v ()=some (.inr ([],false)):=by
 have hn:=z8J ha
 obtain⟨v,hv⟩:∃ v,c[n]? = some v:=⟨_,List.getElem?_eq_getElem (by omega)⟩
 have hv0:=hp v (List.mem_of_getElem? hv)
 obtain⟨d,b,e1,e2,hb⟩:=z7y h0 t a.At
 unfold q5t q5x
 rw [e1,Option.bind_some]
 dsimp only
 refine⟨?_,v,hv,?_⟩
 ·cases b with
  | false=>exact if_neg (by simp)
  | true=>
   rw [if_pos rfl,hv,Option.bind_some,if_pos]
   exact Classical.byContradiction fun h=>hok ⟨a,d,v,ha,e1,hv,hv0,by omega⟩
 ·rw [ha,Option.bind_some,e2,Option.bind_some]
  dsimp only
  cases b with
  | false=>exact if_neg (by simp)
  | true=>
   rw [if_pos rfl,if_pos]
   exact Classical.byContradiction fun h=>hok ⟨a,d,v,ha,e1,hv,hv0,by omega⟩
theorem j6t {g:Grammar}{t:Tree}{l:List TraceStep}{c:List Int}(h0:Sz.szd g≤1048576){n:Nat}(hok:okS g t l c n){v:Int}(hv:c[n]? = some v):q5x g t l n v ()=some (.inl ()):=by
 obtain⟨a,d,v',q1,q2,q3,q4,q5⟩:=hok
 rw [hv] at q3
 cases q3
 obtain⟨d',b,e1,e2,hb⟩:=z7y h0 t a.At
 rw [q2] at e1
 cases e1
 unfold q5x
 rw [q1,Option.bind_some,e2,Option.bind_some]
 dsimp only
 rw [if_pos rfl,if_neg (by omega)]
theorem j0W {g:Grammar}{t:Tree}{l:List TraceStep}{c:List Int}(h0:Sz.szd g≤1048576)(ht:Sz.szd t≤1048576)(hl:l.length≤1048576)(hc:c.length=l.length)(hp:∀ x∈c,0≤x):∀ (xs:List TraceStep) (n:Nat) (mem:List Int),l.drop n=xs→mem.length=l.length→(∀ k,k < n→okS g t l c k) →
  (∃ m',findL (q5t g t l c) n xs mem=some (.inl m')∧eachL (q8V g t l c) n xs mem=some m'∧m'.length=l.length∧∀ k,k < l.length→okS g t l c k)∨(findL (q5t g t l c) n xs mem=some (.inr ([],false))∧∃ k,k < l.length∧¬ okS g t l c k)
 | [],n,mem,hd,hm,hprev=>by
  have:l.length - n=0:=by rw [← List.length_drop,hd]; rfl
  exact .inl ⟨mem,rfl,rfl,hm,fun k hk=>hprev k (by omega)⟩
 | a :: xs,n,mem,hd,hm,hprev=>by
  have hlt:n < l.length:=by
   have:l.length - n=xs.length+1:=by rw [← List.length_drop,hd]; rfl
   omega
  have hdc:=List.drop_eq_getElem_cons hlt
  rw [hd] at hdc
  injection hdc with d1 d2
  have ha:l[n]? = some a:=by rw [d1]; exact List.getElem?_eq_getElem hlt
  by_cases hok:okS g t l c n
  ·obtain⟨m',e1,e2,e3⟩:=j4R h0 ht hl hc hm ha hprev hok
   rw [findL,eachL,e1,e2,Option.bind_some,Option.bind_some]
   exact j0W h0 ht hl hc hp xs (n+1) m' d2.symm e3 fun k hk=>by
    by_cases h:k=n
    ·rw [h]; exact hok
    ·exact hprev k (by omega)
  ·rw [findL,(j3n h0 hc hp hm ha hok).1,Option.bind_some]
   exact .inr ⟨rfl,n,hlt,hok⟩
theorem z5w {g:Grammar}{t:Tree}{l:List TraceStep}{c:List Int}(h0:Sz.szd g≤1048576)(hc:c.length=l.length)(hp:∀ x∈c,0≤x):∀ (xs:List Int) (n:Nat),c.drop n=xs →
  ((∀ k,n≤k→k < l.length→okS g t l c k)→findL (q5x g t l) n xs ()=some (.inl ()))∧((∃ k,n≤k∧k < l.length∧¬ okS g t l c k)→findL (q5x g t l) n xs ()=some (.inr ([],false)))
 | [],n,hd=>by
  have:c.length - n=0:=by rw [← List.length_drop,hd]; rfl
  exact⟨fun _=>rfl,fun ⟨k,h1,h2,_⟩=>absurd h2 (by omega)⟩
 | v :: xs,n,hd=>by
  have hlt:n < c.length:=by
   have:c.length - n=xs.length+1:=by rw [← List.length_drop,hd]; rfl
   omega
  have hdc:=List.drop_eq_getElem_cons hlt
  rw [hd] at hdc
  injection hdc with d1 d2
  have hv:c[n]? = some v:=by rw [d1]; exact List.getElem?_eq_getElem hlt
  obtain⟨i1,i2⟩:=z5w h0 hc hp xs (n+1) d2.symm
  obtain⟨a,ha⟩:∃ a,l[n]? = some a:=⟨_,List.getElem?_eq_getElem (by omega)⟩
  by_cases hok:okS g t l c n
  ·rw [findL,j6t h0 hok hv,Option.bind_some]
   refine⟨fun h=>i1 fun k hk hk2=>h k (by omega) hk2,fun ⟨k,h1,h2,h3⟩=>i2 ⟨k,?_,h2,h3⟩⟩
   by_cases e:k=n
   ·rw [e] at h3; exact absurd hok h3
   ·omega
  ·obtain⟨v',hv',e⟩:=(j3n (mem:=List.replicate l.length 0) h0 hc hp (by simp) ha hok).2
   rw [hv] at hv'
   cases hv'
   rw [findL,e,Option.bind_some]
   exact⟨fun h=>absurd (h n (Nat.le_refl _) (by omega)) hok,fun _=>rfl⟩
theorem z8M {l:List TraceStep}{c mem:List Int}(hl:l.length≤1048576)(hc:c.length=l.length)(hok:∀ (j:Nat) (v:Int),j < l.length→c[j]? = some v→0≤v∧v < (mem.length:Int)):∀ (ks:List Instance) (i j:Nat) (s:List Int),s.length+ks.length≤1048576→∃ r,eachL (z0D l c mem) i ks s=some r∧eachL (z0J l c mem) j ks s=some r∧r.length=s.length+ks.length
 | [],i,j,s,_=>⟨s,rfl,rfl,by simp⟩
 | x :: ks,i,j,s,h=>by
  simp only [List.length_cons] at h
  obtain⟨v,e3,e4⟩:=z8L hl hc (Nat.le_refl _) hok x
  rw [eachL,eachL]
  unfold z0D z0J
  rw [e3,e4,Option.bind_some,q3m (by constructor<;>omega)]
  obtain⟨r,h1,h2,h3⟩:=z8M hl hc hok ks (i+1) (j+1) (s++[v]) (by simp; omega)
  exact⟨r,h1,h2,by rw [h3]; simp; omega⟩
theorem j3o {g:Grammar}{t:Tree}{l:List TraceStep}{c:List Int}{ks:List Instance}(h0:Sz.szd g≤1048576)(ht:Sz.szd t≤1048576)(hl:l.length≤1048576)(hk:ks.length≤1048576):∃ r b,q8u g t l c ks=some (r,b)∧q7c g t l c ks=some (r,b)∧r.length≤1048576:=by
 obtain⟨b,e1,hb⟩:=j3i l ks c (by omega)
 obtain⟨b',e2,hb'⟩:=j3j l ks c (by omega)
 have ebb:b'=b:=Bool.eq_iff_iff.2 (hb'.trans hb.symm)
 rw [ebb] at e2
 unfold q8u q7c
 rw [e1,e2,Option.bind_some,Option.bind_some]
 cases b with
 | false=>exact⟨_,_,if_neg (by simp),if_neg (by simp),by simp⟩
 | true=>
  obtain⟨hc,hp,_⟩:=hb.1 rfl
  have hg:0≤(l.length:Int)∧(l.length:Int)*8≤281474976710656∧(l.length:Int)≤9223372036854775807:=by omega
  rw [if_pos rfl,if_pos rfl,q3m hg,q3m hg]
  rcases j0W h0 ht hl hc hp l 0 (List.replicate l.length 0) rfl (by simp) (fun k hk=>absurd hk (by omega)) with ⟨m',q1,q2,q3,q4⟩ | ⟨q1,k,q2,q3⟩
  ·rw [q1,(z5w h0 hc hp c 0 rfl).1 fun k _ hk=>q4 k hk,Option.bind_some,Option.bind_some,z4n,z4n,q2,Option.bind_some]
   obtain⟨r,r1,r2,r3⟩:=z8M (mem:=m') hl hc (fun j v hj hv=>by
    obtain⟨_,_,v',_,_,q6,q7,q8⟩:=q4 j hj
    rw [hv] at q6
    cases q6
    exact⟨q7,by omega⟩) ks 0 0 [] (by simp; omega)
   rw [r1,r2]
   exact⟨_,_,rfl,rfl,by rw [r3]; simp; omega⟩
  ·rw [q1,(z5w h0 hc hp c 0 rfl).2 ⟨k,Nat.zero_le _,q2,q3⟩,Option.bind_some,Option.bind_some]
   exact⟨_,_,rfl,rfl,by simp⟩
end Go.Proofs.YtaholdflpgcndaaGreat
set_option maxRecDepth 100000
set_option maxHeartbeats 4000000
namespace Go.Proofs.YtaholdflpgcndaaGreat
open Go Go.E
theorem szI:∀ xs:List Int,szL xs=xs.length
 | []=>rfl
 | x :: xs=>by rw [szL,szI xs,List.length_cons]; show 1+0+xs.length=_; omega
section
open Go.A
theorem j4S {xs:List Int}(h:boD (.sl 1 (xs.map (A.D.i .i64)))):uSzF z0u (szL xs) xs:=fun s h0 h1=>by
 have hl:=q8j h
 rw [szI]
 unfold z0u
 rw [q3m (by constructor<;>omega)]
 by_cases h2:(xs.length:Int)≤s
 ·rw [if_neg (by omega),if_pos h2]
 ·rw [if_pos (by omega),if_neg h2]
theorem j4T {x:Node}(h:boCs (Node.l x)):uSzF z1Y (Sz.szd x) x:=fun s h0 h1=>by
 simp only [Node.l,boCs_cons,z3B] at h
 exact q6R x.Rule.size (szL x.Children+0) h0 h1 h.2.2.2.2.1 fun t h0 h1=>q4W (szL x.Children) 0 h0 h1 (j4S h.2.2.2.2.2.1 t h0 h1) fun t=>q6i
theorem j3p {k:Nat}{xs:List Node}(h:boD (.sl k (xs.map Node.D))):uSzF z1e (szL xs) xs:=fun s h0 h1=>
 z1v (f:=z4I) (z2z fun x hx=>j4T (q9h h hx)) s h0 h1 (q8j h)
theorem j4U {x:Tree}(h:boCs (Tree.l x)):uSzF z1Z (Sz.szd x) x:=fun s h0 h1=>by
 simp only [Tree.l,boCs_cons] at h
 exact q4W (szL x.Nodes) 0 h0 h1 (j3p h.1 s h0 h1) fun t=>q6i
theorem j0X {x:Instance}(h:x.Name.size≤9223372036854775807):uSzF q6y (Sz.szd x) x:=fun s h0 h1=>
 q6R x.Name.size 0 h0 h1 h (k:=some) (fun t=>q6i)
theorem z8N {k:Nat}{xs:List Instance}(h:boD (.sl k (xs.map Instance.D))):uSzF q5T (szL xs) xs:=fun s h0 h1=>
 z1v (f:=z0v) (z2z fun x hx=>j0X (by
  have:=q9h h hx
  exact z3B.1 (boCs_cons.1 (boCs_cons.1 this).2).1)) s h0 h1 (q8j h)
theorem j7g {x:TraceStep}(h:boCs (TraceStep.l x)):uSzF q7k (Sz.szd x) x:=fun s h0 h1=>by
 simp only [TraceStep.l,boCs_cons,z3B] at h
 exact q4W x.At.Name.size (szL x.Inputs+0) h0 h1 (j0X h.2.1 s h0 h1) fun t h0 h1=>q4W (szL x.Inputs) 0 h0 h1 (z8N h.2.2.1 t h0 h1) fun t=>q6i
theorem j6u {k:Nat}{xs:List TraceStep}(h:boD (.sl k (xs.map TraceStep.D))):uSzF q6z (szL xs) xs:=fun s h0 h1=>
 z1v (f:=z0g) (z2z fun x hx=>j7g (q9h h hx)) s h0 h1 (q8j h)
end
theorem j0Y {xs:List Int}(h:xs.length≤1048576):q7t xs=some xs:=
 q8I (g:=some) (by omega) h fun k x s _ hk=>by unfold z6j; rw [List.getElem?_eq_getElem hk]; rfl
theorem j4V {x:Node}(h:Sz.szd x≤1048576):q9x x=some x:=by
 have h2:=q3A x.Children
 unfold q9x; rw [j0Y (by rw [z4f] at h; omega)]; rfl
theorem j3q {xs:List Node}(h:szL xs≤1048576):z1h xs=some xs:=by
 have hl:=q3A xs
 exact q8I (g:=some) (by omega) (by omega) (z2A (g:=q9x) fun x hx=>j4V (by have:=q5l hx; omega))
theorem j4W {x:Tree}(h:Sz.szd x≤1048576):q7u x=some x:=by
 unfold q7u; rw [j3q (by rw [z4g] at h; omega)]; rfl
theorem z8O {xs:List Instance}(h:szL xs≤1048576):q4o xs=some xs:=by
 have hl:=q3A xs
 exact q8I (g:=some) (by omega) (by omega) (z2A (g:=q5G) fun x _=>rfl)
theorem j7h {x:TraceStep}(h:Sz.szd x≤1048576):q5c x=some x:=by
 unfold q5c; rw [show q5G x.At=some x.At from rfl,Option.bind_some,z8O (by rw [z2r] at h; omega)]; rfl
theorem j6v {xs:List TraceStep}(h:szL xs≤1048576):q4v xs=some xs:=by
 have hl:=q3A xs
 exact q8I (g:=some) (by omega) (by omega) (z2A (g:=q5c) fun x hx=>j7h (by have:=q5l hx; omega))
theorem j4X (x:Node):q9H x x=some true:=by simp [q9H,j0T]
theorem j3r (xs:List Node):z1m xs xs=some true:=q8J (f:=z4R xs) (z2B (g:=q9H) fun x _=>j4X x)
theorem j4Y (x:Tree):z0N x x=some true:=by simp [z0N,j3r]
theorem j0Z (x:Instance):q4U x x=some true:=by simp [q4U]
theorem z8P (xs:List Instance):q6a xs xs=some true:=q8J (f:=z0O xs) (z2B (g:=q4U) fun x _=>j0Z x)
theorem j7i (x:TraceStep):q5e x x=some true:=by simp [q5e,j0Z,z8P]
theorem j6w (xs:List TraceStep):q6O xs xs=some true:=q8J (f:=z0i xs) (z2B (g:=q5e) fun x _=>j7i x)
theorem j5p (xs:List Int){k:Int}(h0:0≤k)(h1:k+16*(szL xs:Nat)≤10000000000)(h2:szL xs≤1048576):∃ k' ys,q6n xs k=some (k',ys)∧k≤k'∧k'≤k+16*(szL xs:Nat):=by
 have hl:=q3A xs
 obtain⟨k',ys,e1,e2,e3,_⟩:=j3f xs (k:=k) h0 (by omega) (by omega)
 exact⟨k',ys,e1,e2,by omega⟩
theorem j6x (xs:List Node){k:Int}(h0:0≤k)(h1:k+16*(szL xs:Nat)≤10000000000)(h2:szL xs≤1048576):∃ k' ys,q9b xs k=some (k',ys)∧k≤k'∧k'≤k+16*(szL xs:Nat):=
 z3w (L:=q7T) (fun k i a x hx h0 h1 hi h3=>by
  obtain⟨t,ht⟩:=z0c (k:=k+1+1+1+1) (by omega) (by omega)
  have hl:=(List.getElem?_eq_some_iff.1 hx).1
  have hI:∀ m:Int,k≤m→m≤k+16→I64 m:=fun m _ _=>by constructor<;>omega
  have hI2:I64 ((i:Int)+1):=by constructor<;>omega
  have hi0:(0:Int)≤(i:Int):=by omega
  rw [z4f] at h1 h3 ⊢
  obtain⟨k',z,e1,e2,e3⟩:=j5p x.Children (k:=k+1+1+1+1+1) (by omega) (by omega) (by omega)
  refine⟨k',⟨k,k+1,k+1+1,k+1+1+1,t,z⟩,?_,by omega,by omega⟩
  unfold q7T
  dsimp only
  rw [if_pos (by omega),q3m hi0,Int.toNat_natCast,hx,Option.bind_some,q3m (hI _ (by omega) (by omega)),q3m (hI _ (by omega) (by omega)),q3m (hI _ (by omega) (by omega)),q3m (hI _ (by omega) (by omega)),ht,Option.bind_some,q3m (hI _ (by omega) (by omega)),e1,Option.bind_some]
  dsimp only
  rw [q3m hI2]
  rfl) (fun k i a h=>by unfold q7T; dsimp only; exact if_neg h) xs h0 h1 h2
theorem j6y {t:Tree}(h:Sz.szd t≤1048576){k:Int}(h0:0≤k)(h1:k+16*(Sz.szd t:Nat)≤10000000000):∃ k' z,q8B t k=some (k',z)∧k≤k'∧k'≤k+16*(Sz.szd t:Nat):=by
 rw [z4g] at h h1 ⊢
 obtain⟨k',z,e1,e2,e3⟩:=j6x t.Nodes (k:=k) h0 h1 h
 refine⟨k',z,?_,e2,e3⟩
 unfold q8B
 rw [e1]; rfl
theorem j3s (xs:List Instance){k:Int}(h0:0≤k)(h1:k+16*(szL xs:Nat)≤10000000000)(h2:szL xs≤1048576):∃ k' ys,q5a xs k=some (k',ys)∧k≤k'∧k'≤k+16*(szL xs:Nat):=
 z3w (L:=q5M) (fun k i a x hx h0 h1 hi h3=>by
  obtain⟨t,ht⟩:=z0c (k:=k+1) (by omega) (by omega)
  have hl:=(List.getElem?_eq_some_iff.1 hx).1
  have hI:∀ m:Int,k≤m→m≤k+16→I64 m:=fun m _ _=>by constructor<;>omega
  have hI2:I64 ((i:Int)+1):=by constructor<;>omega
  have hi0:(0:Int)≤(i:Int):=by omega
  refine⟨k+1+1,⟨k,t⟩,?_,by omega,by omega⟩
  unfold q5M
  dsimp only
  rw [if_pos (by omega),q3m hi0,Int.toNat_natCast,hx,Option.bind_some,q3m (hI _ (by omega) (by omega)),ht,Option.bind_some,q3m hi0,List.getElem?_set_self hl,Option.bind_some,q3m (hI _ (by omega) (by omega)),q3m hI2,List.set_set]
  rfl) (fun k i a h=>by unfold q5M; dsimp only; exact if_neg h) xs h0 h1 h2
theorem j4Z (xs:List TraceStep){k:Int}(h0:0≤k)(h1:k+16*(szL xs:Nat)≤10000000000)(h2:szL xs≤1048576):∃ k' ys,q5N xs k=some (k',ys)∧k≤k'∧k'≤k+16*(szL xs:Nat):=
 z3w (L:=q5j) (fun k i a x hx h0 h1 hi h3=>by
  obtain⟨t,ht⟩:=z0c (k:=k+1) (by omega) (by omega)
  have hl:=(List.getElem?_eq_some_iff.1 hx).1
  have hI:∀ m:Int,k≤m→m≤k+16→I64 m:=fun m _ _=>by constructor<;>omega
  have hI2:I64 ((i:Int)+1):=by constructor<;>omega
  have hi0:(0:Int)≤(i:Int):=by omega
  rw [z2r] at h1 h3 ⊢
  obtain⟨k',z,e1,e2,e3⟩:=j3s x.Inputs (k:=k+1+1) (by omega) (by omega) (by omega)
  refine⟨k',⟨⟨k,t⟩,z⟩,?_,by omega,by omega⟩
  unfold q5j
  dsimp only
  rw [if_pos (by omega),q3m hi0,Int.toNat_natCast,hx,Option.bind_some,q3m (hI _ (by omega) (by omega)),ht,Option.bind_some,q3m (hI _ (by omega) (by omega)),e1,Option.bind_some]
  dsimp only
  rw [q3m hI2]
  rfl) (fun k i a h=>by unfold q5j; dsimp only; exact if_neg h) xs h0 h1 h2
theorem j5a {g:Grammar}(h:Sz.szd g≤1048576):∃ k' z1 z2,q6c g 1=some (k',z1,z2)∧0≤k'∧k'≤1+16*(Sz.szd g:Nat):=by
 rw [q8G] at h ⊢
 obtain⟨k1,z1,e1,e2,e3⟩:=j7a g.Symbols (k:=1) (by omega) (by omega) (by omega)
 obtain⟨k2,z2,f1,f2,f3⟩:=j6q g.Rules (k:=k1) (by omega) (by omega) (by omega)
 refine⟨k2,z1,z2,?_,by omega,by omega⟩
 unfold q6c
 rw [e1,Option.bind_some]
 dsimp only
 rw [f1]; rfl
theorem z7A {n:Nat}{s:Int}{o:Option Int}{k:Int→Option Bool}{P:Prop}(ho:o=some (if (n:Int)≤s then s - n else -1))(hs:0≤s)(h:(n:Int)≤s→k (s - n)=some true):(o.bind fun y=>if y < 0 then some true else k y)=some true:=by
 rw [ho,Option.bind_some]
 by_cases h2:(n:Int)≤s
 ·rw [if_pos h2,if_neg (by omega)]; exact h h2
 ·rw [if_neg h2,if_pos (by omega)]
theorem z8Q {a0:Grammar}{a1:Tree}{a2:List TraceStep}{a3:List Int}{a4:List Instance}(h0:A.boCs (Grammar.l a0))(h1:A.boCs (Tree.l a1))(h2:A.boCs [A.D.sl 3 (a2.map TraceStep.D)])(h3:A.boCs [A.D.sl 1 (a3.map (A.D.i .i64))])(h4:A.boCs [A.D.sl 2 (a4.map Instance.D)]):q5k a0 a1 a2 a3 a4=some true:=by
 unfold q5k
 by_cases hb:1048576 < (a3.length:Int)
 ·exact if_pos hb
 rw [if_neg hb]
 refine z7A (P:=True) (j4w h0 1048576 (by omega) (by omega)) (by omega) fun q0=>?_
 refine z7A (P:=True) (j4U h1 _ (by omega) (by omega)) (by omega) fun q1=>?_
 refine z7A (P:=True) (j6u (A.boCs_cons.1 h2).1 _ (by omega) (by omega)) (by omega) fun q2=>?_
 refine z7A (P:=True) (z8N (A.boCs_cons.1 h4).1 _ (by omega) (by omega)) (by omega) fun q3=>?_
 have g0:Sz.szd a0≤1048576:=by omega
 have g1:Sz.szd a1≤1048576:=by omega
 have g2:szL a2≤1048576:=by omega
 have g4:szL a4≤1048576:=by omega
 have l2:=q3A a2
 have l4:=q3A a4
 have l3:=szI a3
 obtain⟨r,b,e1,e2,hr⟩:=j3o (g:=a0) (t:=a1) (l:=a2) (c:=a3) (ks:=a4) g0 g1 (by omega) (by omega)
 obtain⟨k1,z1,z2,m1,m2,m3⟩:=j5a g0
 obtain⟨k2,z3,n1,n2,n3⟩:=j6y g1 (k:=k1) (by omega) (by omega)
 obtain⟨k3,z4,p1,p2,p3⟩:=j4Z a2 (k:=k2) (by omega) (by omega) g2
 obtain⟨k4,z5,r1,r2,r3⟩:=j5p a3 (k:=k3) (by omega) (by omega) (by omega)
 obtain⟨k5,z6,t1,t2,t3⟩:=j3s a4 (k:=k4) (by omega) (by omega) g4
 obtain⟨k6,z7,f1,f2,f3,f4,_⟩:=j3f r (k:=1) (by omega) (by omega) (by omega)
 have f6:=j6r f4 (by omega) (by omega)
 simp only [j4D g0,j4W g1,j6v g2,j0Y (xs:=a3) (by omega),z8O g4,e1,e2,j0T,j4L,j4Y,j6w,z8P,m1,n1,p1,r1,t1,f1,f6,Option.bind_some,reduceIte,if_neg (show ¬ k5 < 0 by omega),if_neg (show ¬ k6 < 0 by omega),decide_true,Bool.not_true,Bool.false_eq_true]
end Go.Proofs.YtaholdflpgcndaaGreat
