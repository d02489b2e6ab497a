/- What those partial functions come to: plain lemmas on data; each bears its conditions in its statement. -/
import Derived.Test.YtcegfmageiicaaaGreatEng7
set_option linter.unusedVariables false
set_option linter.unusedSimpArgs false
set_option linter.ambiguousOpen false
set_option linter.unusedSectionVars false
set_option linter.unnecessarySimpa false
namespace Go.Proofs.YtcegfmageiicaaaGreat
open Go Go.E
mutual
def z7z:Expr→List Occurrence
 | ⟨a0,a1,a2,a3,a4,a5,a6⟩=>(if a0=3 then [⟨a2,a5⟩] else [])++z2g a6
def z2g:List Expr→List Occurrence
 | []=>[]
 | x :: xs=>z7z x++z2g xs
end
mutual
def fuE:Expr→Nat
 | ⟨_,_,_,_,_,_,a6⟩=>fuEs a6+1
def fuEs:List Expr→Nat
 | []=>0
 | x :: xs=>max (fuE x) (fuEs xs)
end
theorem z3Q (e:Expr):fuE e=fuEs e.Args+1:=by cases e; rfl
theorem z5M:∀ {l:List Expr} {x:Expr},x∈l→fuE x≤fuEs l
 | y :: l,x,h=>by
  simp only [fuEs]
  rcases List.mem_cons.1 h with e | h
  ·subst e; omega
  ·have:=z5M h; omega
theorem z7A (e:Expr):z7z e=(if e.Kind=3 then [⟨e.Pos,e.Name⟩] else [])++z2g e.Args:=by cases e; rfl
mutual
theorem j8Y:∀ e:Expr,(z7z e).length≤1+z3n e
 | ⟨a0,a1,a2,a3,a4,a5,a6⟩=>by
  have:=j6g a6
  simp only [z7z,z3n,List.length_append]
  split<;>simp<;>omega
theorem j6g:∀ l:List Expr,(z2g l).length≤z5K l
 | []=>by simp [z2g]
 | x :: xs=>by
  have h1:=j8Y x
  have h2:=j6g xs
  simp only [z2g,z5K,List.length_append]; omega
end
theorem z4g {α:Type}[Sz α]{x:α}:∀ {l:List α},x∈l→Sz.szd x < szL l
 | [],h=>by simp at h
 | y :: l,h=>by
  rcases List.mem_cons.1 h with rfl | h
  ·simp only [szL]; omega
  ·have:=z4g h; simp only [szL]; omega
theorem k4m {e x:Expr}(h:x∈e.Args):Sz.szd x < Sz.szd e:=by
 have h1:=q8U e
 have h2:=z4g h
 omega
theorem k4n {e:Expr}(h:Sz.szd e≤1048576):(z7z e).length≤1048577:=by
 have h1:=j8Y e
 have h2:z3n e=Sz.szd e:=rfl
 omega
theorem k0v:∀ (m:Nat) (e:Expr) (o:List Occurrence),fuE e≤m→o.length+(z7z e).length≤4398046511104→q4J m e o=some (true,o++z7z e):=by
 intro m
 induction m with
 | zero=>intro e o h; rw [z3Q] at h; omega
 | succ m ih=>
  have hl:∀ (l:List Expr) (i:Nat) (o:List Occurrence),fuEs l≤m→o.length+(z2g l).length≤4398046511104→findL (q4n (q4J m)) i l o=some (.inl (o++z2g l)):=by
   intro l
   induction l with
   | nil=>intro i o _ _; simp [findL,z2g]
   | cons x l ihl=>
    intro i o hf hb
    simp only [fuEs] at hf
    simp only [z2g,List.length_append] at hb
    have hx:=ih x o (by omega) (by omega)
    simp only [findL,q4n,q5z,hx,Option.bind_some,Bool.not_true,Bool.false_eq_true,if_false]
    rw [ihl _ _ (by omega) (by rw [List.length_append]; omega),z2g,List.append_assoc]
  intro e o hf hb
  rw [z3Q] at hf
  show q5e (q4J m) e o=_
  have hb':=hb
  rw [z7A,List.length_append] at hb'
  have h1:q8d e o=some (true,o++if e.Kind=3 then [⟨e.Pos,e.Name⟩] else []):=by
   unfold q8d
   by_cases hk:e.Kind=3
   ·rw [if_pos hk] at hb' ⊢
    rw [if_pos hk,q3B]
    simp only [List.length_cons,List.length_nil] at hb'
    constructor<;>omega
   ·rw [if_neg hk,if_neg hk,List.append_nil]
  unfold q5e
  rw [h1,Option.bind_some]
  dsimp only
  rw [if_pos rfl]
  unfold q3I q3M
  rw [hl _ _ _ (by omega) (by rw [List.length_append]; omega),z7A]
  simp [onr]
theorem k6u {e:Expr}(h:(z7z e).length≤4398046511104):q6Y e []=some (true,z7z e):=
 q9p (fuE e) fun m hm=>by simpa using k0v m e [] hm (by simpa using h)
theorem k0w {α:Type}{s:List α}{k:Nat}{x:α}(h:k < s.length):(s.set k x).take (k+1)=s.take k++[x]:=by
 rw [List.take_add_one,List.take_set,List.set_eq_of_length_le (by simp; omega)]
 simp [List.getElem?_set,h]
theorem k2S {a:List Occurrence}{b:Nat}(ha:a.length≤4398046511104)(hb:1≤b)(hba:b < a.length):∀ (m j k:Nat) (s:List Occurrence),b+j+m=a.length→1≤j→1≤k→k≤b+j - 1→s.length=a.length→s.take k=q5k (a.take (b+j))→s.drop (b+j - 1)=a.drop (b+j - 1) →
  ∃ s' k',q4i (q3W (b:Int)) (s,(k:Int),(j:Int))=some (s',((k' : Nat):Int))∧k'≤s'.length∧s'.take k'=q5k a:=by
 intro m
 induction m with
 | zero=>
  intro j k s hm hj hk hkj hs ht hd
  refine⟨s,k,q3E ?_,by omega,?_⟩
  ·unfold q3W
   dsimp only
   rw [if_neg (by simp only [Int.toNat_natCast,List.length_drop]; omega)]
  ·rw [ht,show b+j=a.length by omega,List.take_length]
 | succ m ih=>
  intro j k s hm hj hk hkj hs ht hd
  obtain⟨x,hx⟩:∃ x,a[b+j]? = some x:=⟨_,List.getElem?_eq_getElem (by omega)⟩
  obtain⟨y,hy⟩:∃ y,a[b+j - 1]? = some y:=⟨_,List.getElem?_eq_getElem (by omega)⟩
  obtain⟨z,hz⟩:∃ z,s[k]? = some z:=⟨_,List.getElem?_eq_getElem (by omega)⟩
  have hsx:s[b+j]? = some x:=by
   have:=congrArg (fun l=>l[1]?) hd
   simp only [List.getElem?_drop] at this
   rw [show b+j - 1+1=b+j by omega] at this
   rw [this,hx]
  have hsy:s[b+(j - 1)]? = some y:=by
   have:=congrArg (fun l=>l[0]?) hd
   simp only [List.getElem?_drop,Nat.add_zero] at this
   rw [show b+(j - 1)=b+j - 1 by omega,this,hy]
  have hc:=j1d (i:=b+j - 1) (b:=x) hy (by rw [show b+j - 1+1=b+j by omega]; exact hx)
  rw [show b+j - 1+2=b+(j+1) by omega,show b+j - 1+1=b+j by omega] at hc
  have hd2:s.drop (b+(j+1) - 1)=a.drop (b+(j+1) - 1):=by
   have:=congrArg (fun l=>l.drop 1) hd
   simp only [List.drop_drop] at this
   rw [show b+(j+1) - 1=b+j - 1+1 by omega]; exact this
  have e1:((j:Int) - 1).toNat=j - 1:=by omega
  by_cases hxy:x=y
  ·have e:q3W (b:Int) (s,(k:Int),(j:Int))=some (.inl (s,(k:Int),((j+1:Nat):Int))):=by
    unfold q3W
    dsimp only
    rw [if_pos (by simp only [Int.toNat_natCast,List.length_drop]; omega),q3B (by omega)]
    simp only [Int.toNat_natCast]
    rw [hsx,Option.bind_some,q3B (by constructor<;>omega),q3B (by omega),e1,hsy,Option.bind_some,if_pos hxy,Option.bind_some]
    dsimp only
    rw [q3B (by constructor<;>omega)]; rfl
   rw [q3L e]
   exact ih (j+1) k s (by omega) (by omega) hk (by omega) hs (by rw [hc,if_pos hxy.symm,ht]) hd2
  ·have e:q3W (b:Int) (s,(k:Int),(j:Int))=some (.inl (s.set k x,((k+1:Nat):Int),((j+1:Nat):Int))):=by
    unfold q3W
    dsimp only
    rw [if_pos (by simp only [Int.toNat_natCast,List.length_drop]; omega),q3B (by omega)]
    simp only [Int.toNat_natCast]
    rw [hsx,Option.bind_some,q3B (by constructor<;>omega),q3B (by omega),e1,hsy,Option.bind_some,if_neg hxy,q3B (by omega),q3B (by omega),hz,Option.bind_some,q3B (by constructor<;>omega),Option.bind_some]
    dsimp only
    rw [q3B (by constructor<;>omega)]; rfl
   rw [q3L e]
   refine ih (j+1) (k+1) _ (by omega) (by omega) (by omega) (by omega) (by rw [List.length_set]; exact hs) ?_ ?_
   ·rw [k0w (by omega),ht,hc,if_neg (fun h=>hxy h.symm)]
   ·rw [List.drop_set,if_pos (by omega)]; exact hd2
theorem k0x {a:List Occurrence}(ha:a.length≤4398046511104):∀ (m k:Nat),k+m=a.length→1≤k→q5k (a.take k)=a.take k →
  (q4i (q3X a) (k:Int)).bind (onr (fun r1=>some r1) fun _=>some a)=some (q5k a):=by
 intro m
 induction m with
 | zero=>
  intro k hm hk hc
  have e:q3X a (k:Int)=some (.inr (.inl ())):=by
   unfold q3X
   dsimp only
   rw [if_neg (by omega)]
  rw [q3E e,Option.bind_some]
  show some a=_
  rw [show k=a.length by omega,List.take_length] at hc
  rw [hc]
 | succ m ih=>
  intro k hm hk hc
  obtain⟨x,hx⟩:∃ x,a[k]? = some x:=⟨_,List.getElem?_eq_getElem (by omega)⟩
  obtain⟨y,hy⟩:∃ y,a[k - 1]? = some y:=⟨_,List.getElem?_eq_getElem (by omega)⟩
  have hct:=j1d (i:=k - 1) (b:=x) hy (by rw [show k - 1+1=k by omega]; exact hx)
  rw [show k - 1+2=k+1 by omega,show k - 1+1=k by omega] at hct
  have htk:a.take (k+1)=a.take k++[x]:=by rw [List.take_add_one,hx]; rfl
  have e1:((k:Int) - 1).toNat=k - 1:=by omega
  by_cases hxy:x=y
  ·obtain⟨s',k',h1,h2,h3⟩:=k2S (b:=k) ha hk (by omega) m 1 k a (by omega) (by omega) hk (by omega) rfl (by rw [hct,if_pos hxy.symm,hc]) rfl
   have hl:(s'.take k'++List.replicate (s'.length - k') (⟨(0:Int),(⟨#[]⟩:ByteArray)⟩:Occurrence)).take k'=q5k a:=by
    rw [List.take_append_of_le_length (by simp; omega),List.take_take,Nat.min_self,h3]
   have e:q3X a (k:Int)=some (.inr (.inr (q5k a))):=by
    unfold q3X
    dsimp only
    rw [if_pos (by omega),q3B (by omega)]
    simp only [Int.toNat_natCast]
    rw [hx,Option.bind_some,q3B (by constructor<;>omega),q3B (by omega),e1,hy,Option.bind_some,if_pos hxy,q3B (by omega),q3B (by omega)]
    have h1' : q4i (q3W (k:Int)) (a,(k:Int),1)=some (s',((k' : Nat):Int)):=h1
    rw [h1',Option.bind_some]
    dsimp only
    simp only [Int.toNat_natCast]
    rw [q3B (by omega),q3B (by omega),q3B (by omega),q3B (by simp; omega),hl]
   rw [q3E e,Option.bind_some]; rfl
  ·have e:q3X a (k:Int)=some (.inl ((k+1:Nat):Int)):=by
    unfold q3X
    dsimp only
    rw [if_pos (by omega),q3B (by omega)]
    simp only [Int.toNat_natCast]
    rw [hx,Option.bind_some,q3B (by constructor<;>omega),q3B (by omega),e1,hy,Option.bind_some,if_neg hxy,q3B (by constructor<;>omega)]; rfl
   rw [q3L e]
   exact ih (k+1) (by omega) (by omega) (by rw [hct,if_neg (fun h=>hxy h.symm),hc,htk])
theorem k2T {a:List Occurrence}(ha:a.length≤4398046511104):q5w a=some (q5k a):=by
 unfold q5w
 by_cases h:(a.length:Int) < 2
 ·rw [if_pos h]
  match a,h with
  | [],_=>rfl
  | [x],_=>rfl
  | x :: y :: l,h=>simp only [List.length_cons] at h; omega
 ·rw [if_neg h]
  refine k0x ha (a.length - 1) 1 (by omega) (Nat.le_refl _) ?_
  match a,h with
  | x :: l,_=>rfl
def attrs (e:Expr):List Occurrence:=q5k (j8y (z7z e))
theorem k4o {o:Occurrence}{e:Expr}:o∈attrs e↔o∈z7z e:=by
 unfold attrs j8y
 rw [z8V,List.mem_mergeSort]
theorem j7s {e:Expr}(h:Sz.szd e≤1048576):q7X e=some (attrs e):=by
 have hl:=k4n h
 have hs:(j8y (z7z e)).length=(z7z e).length:=by unfold j8y; exact List.length_mergeSort _
 unfold q7X
 rw [k6u (by omega),Option.bind_some]
 dsimp only
 unfold q6b
 rw [q3B (by omega),Option.bind_some,k2T (by omega)]; rfl
end Go.Proofs.YtcegfmageiicaaaGreat
namespace Go.Proofs.YtcegfmageiicaaaGreat
open Go Go.E
theorem k4p {ρ:Type}{g:Nat→Option ρ}(hm:∀ n r,g n=some r→g (n+1)=some r){n:Nat}{r:ρ}(h:g n=some r):recO g=some r:=by
 have up:∀ (k n:Nat) (r:ρ),g n=some r→g (n+k)=some r:=by
  intro k
  induction k with
  | zero=>intro n r h; exact h
  | succ k ih=>intro n r h; exact hm _ _ (ih n r h)
 refine q9p n fun m hm=>?_
 have h1:=up (m - n) n r h
 rwa [show n+(m - n)=m by omega] at h1
theorem j1P {α σ:Type}{f g:Nat→α→σ→Option σ}(h:∀ k x s q,f k x s=some q→g k x s=some q):∀ (xs:List α) (i:Nat) (s q:σ),eachL f i xs s=some q→eachL g i xs s=some q
 | [],i,s,q,hq=>hq
 | x :: xs,i,s,q,hq=>by
  simp only [eachL] at hq ⊢
  obtain⟨t,h1,h2⟩:=bd hq
  rw [h _ _ _ _ h1]
  exact j1P h xs _ _ _ h2
theorem j8Z (a b:Occurrence):z4L a b=some (z4A a b):=by
 unfold z4L z4A
 by_cases h1:a.Pos < b.Pos
 ·simp [h1]
 ·by_cases h2:a.Pos=b.Pos
  ·simp [h2]
  ·simp [h1,h2]
abbrev z8X (l:List Occurrence):Prop:=l.Pairwise fun a b=>z4A a b=true
theorem k6v {l:List Occurrence}{o:Occurrence}(hl:l.length≤4398046511104):∀ (m j:Nat),j+m=l.length→(∀ a∈l.take j,z4A a o=true) →
  ∃ k:Nat,q4i (z4M l o) (j:Int)=some ((k:Nat):Int)∧k≤l.length∧(∀ a∈l.take k,z4A a o=true)∧∀ y,l[k]? = some y→z4A y o=false:=by
 intro m
 induction m with
 | zero=>
  intro j hj ha
  refine⟨j,q3E ?_,by omega,ha,fun y hy=>?_⟩
  ·unfold z4M; rw [if_neg (by omega)]
  ·rw [List.getElem?_eq_none (by omega)] at hy; cases hy
 | succ m ih=>
  intro j hj ha
  obtain⟨x,hx⟩:∃ x,l[j]? = some x:=⟨_,List.getElem?_eq_getElem (by omega)⟩
  cases hb:z4A x o with
  | false=>
   refine⟨j,q3E ?_,by omega,ha,fun y hy=>?_⟩
   ·unfold z4M
    rw [if_pos (by omega),q3B (by omega)]
    simp only [Int.toNat_natCast]
    rw [hx,Option.bind_some,j8Z,Option.bind_some,if_neg (by rw [hb]; simp)]
   ·rw [hx] at hy; cases hy; exact hb
  | true=>
   have e:z4M l o (j:Int)=some (.inl ((j+1:Nat):Int)):=by
    unfold z4M
    rw [if_pos (by omega),q3B (by omega)]
    simp only [Int.toNat_natCast]
    rw [hx,Option.bind_some,j8Z,Option.bind_some,if_pos hb,q3B (by constructor<;>omega)]; rfl
   rw [q3L e]
   refine ih (j+1) (by omega) fun a h=>?_
   rw [List.take_add_one,hx] at h
   rcases List.mem_append.1 h with h | h
   ·exact ha a h
   ·simp at h; rw [h]; exact hb
theorem k4q {l:List Occurrence}{o:Occurrence}(hl:l.length < 4398046511104)(hs:z8X l):∃ q,j0K l o=some q∧z8X q∧(∀ a,a∈q↔a=o∨a∈l)∧q.length≤l.length+1:=by
 obtain⟨k,h1,h2,h3,h4⟩:=k6v (l:=l) (o:=o) (by omega) l.length 0 (by omega) (by simp)
 have h1' : q4i (z4M l o) 0=some ((k:Nat):Int):=h1
 have hput:∀ (hne:∀ y,l[k]? = some y→y≠o),z8X (l.take k++[o]++l.drop k)∧(∀ a,a∈l.take k++[o]++l.drop k↔a=o∨a∈l)∧(l.take k++[o]++l.drop k).length≤l.length+1:=fun hne=>by
  refine⟨?_,fun a=>?_,by simp; omega⟩
  ·have:=k2R (lt:=z4A) lessO_swo.trans z9M (k:=k) hs h3 fun y hy=>⟨h4 y hy,hne y hy⟩
   simpa using this
  ·have:a∈l↔a∈l.take k∨a∈l.drop k:=by rw [← List.mem_append,List.take_append_drop]
   rw [this]
   simp only [List.mem_append,List.mem_singleton]
   constructor
   ·rintro ((h | h) | h)<;>simp [h]
   ·rintro (h | h | h)<;>simp [h]
 unfold j0K
 rw [h1',Option.bind_some]
 by_cases hk:k < l.length
 ·obtain⟨x,hx⟩:∃ x,l[k]? = some x:=⟨_,List.getElem?_eq_getElem hk⟩
  rw [if_pos (by omega),q3B (by omega)]
  simp only [Int.toNat_natCast]
  rw [hx,Option.bind_some]
  by_cases hxo:x=o
  ·rw [if_pos hxo]
   refine⟨l,rfl,hs,fun a=>?_,by omega⟩
   have:=List.mem_of_getElem? hx
   constructor
   ·exact .inr
   ·rintro (h | h)
    ·rw [h,← hxo]; exact this
    ·exact h
  ·rw [if_neg hxo,q3B (by omega),q3B (by omega),q3B (by simp; omega),q3B (by simp; omega),q3B (by omega),q3B (by omega),q3B (by simp; omega)]
   exact⟨_,rfl,hput fun y hy=>by rw [hx] at hy; cases hy; exact hxo⟩
 ·rw [if_neg (by omega)]
  simp only [Int.toNat_natCast]
  rw [q3B (by omega),q3B (by omega),q3B (by simp; omega),q3B (by simp; omega),q3B (by omega),q3B (by omega),q3B (by simp; omega)]
  exact⟨_,rfl,hput fun y hy=>by rw [List.getElem?_eq_none (by omega)] at hy; cases hy⟩
theorem k8F:∀ (n:Nat) (e:Expr) (l q:List Occurrence),q8a n e l=some q→q8a (n+1) e l=some q:=by
 intro n
 induction n with
 | zero=>intro e l q h; cases h
 | succ n ih=>
  intro e l q h
  have h' : z3o (q8a n) e l=some q:=h
  show z3o (q8a (n+1)) e l=some q
  have m1:∀ (xs:List Expr) (i:Nat) (s q:List Occurrence),eachL (z4n (q8a n)) i xs s=some q→eachL (z4n (q8a (n+1))) i xs s=some q:=j1P fun k x s q hq=>by
   unfold z4n at hq ⊢
   obtain⟨y,h3,h4⟩:=bd hq
   rw [ih _ _ _ h3]; exact h4
  unfold z3o at h' ⊢
  by_cases hk:e.Kind=3
  ·rw [if_pos hk] at h' ⊢
   obtain⟨y,h1,h2⟩:=bd h'
   obtain⟨s,h3,h4⟩:=bd h2
   rw [h1,Option.bind_some,m1 _ _ _ _ h3]; exact h4
  ·rw [if_neg hk] at h' ⊢
   obtain⟨s,h3,h4⟩:=bd h'
   have m2:eachL (j1D (q8a (n+1))) 0 e.Args l=some s:=m1 _ _ _ _ h3
   rw [m2]; exact h4
theorem k2U:∀ (m:Nat) (e:Expr) (l:List Occurrence),fuE e≤m→z8X l→l.length+(z7z e).length≤1099511627776 →
  ∃ q,q8a m e l=some q∧z8X q∧(∀ a,a∈q↔a∈l∨a∈z7z e)∧q.length≤l.length+(z7z e).length:=by
 intro m
 induction m with
 | zero=>intro e l h; rw [z3Q] at h; omega
 | succ m ih=>
  intro e l h hs hb
  rw [z3Q] at h
  rw [z7A,List.length_append] at hb
  have hl:∀ (xs:List Expr) (i:Nat) (s:List Occurrence),fuEs xs≤m→z8X s→s.length+(z2g xs).length≤1099511627776 →
    ∃ q,eachL (z4n (q8a m)) i xs s=some q∧z8X q∧(∀ a,a∈q↔a∈s∨a∈z2g xs)∧q.length≤s.length+(z2g xs).length:=by
   intro xs
   induction xs with
   | nil=>intro i s _ hs _; exact⟨s,rfl,hs,by simp [z2g],by omega⟩
   | cons x xs ihl=>
    intro i s hf hs hb
    simp only [fuEs] at hf
    simp only [z2g,List.length_append] at hb
    obtain⟨q,h1,h2,h3,h4⟩:=ih x s (by omega) hs (by omega)
    obtain⟨q2,k1,k2,k3,k4⟩:=ihl (i+1) q (by omega) h2 (by omega)
    refine⟨q2,?_,k2,fun a=>?_,by simp only [z2g,List.length_append]; omega⟩
    ·simp only [eachL,z4n,h1,Option.bind_some]; exact k1
    ·rw [k3,h3,z2g,List.mem_append,or_assoc]
  show ∃ q,z3o (q8a m) e l=some q∧_
  unfold z3o
  by_cases hk:e.Kind=3
  ·rw [if_pos hk] at hb ⊢
   simp only [List.length_cons,List.length_nil] at hb
   obtain⟨y,h1,h2,h3,h4⟩:=k4q (l:=l) (o:=⟨e.Pos,e.Name⟩) (by omega) hs
   obtain⟨q,k1,k2,k3,k4⟩:=hl e.Args 0 y (by omega) h2 (by omega)
   refine⟨q,?_,k2,fun a=>?_,?_⟩
   ·rw [h1,Option.bind_some,k1]; rfl
   ·rw [k3,h3,z7A,if_pos hk,List.mem_append,List.mem_singleton]
    constructor
    ·rintro ((h | h) | h)<;>simp [h]
    ·rintro (h | h | h)<;>simp [h]
   ·rw [z7A,if_pos hk]; simp; omega
  ·rw [if_neg hk] at hb ⊢
   simp only [List.length_nil] at hb
   obtain⟨q,k1,k2,k3,k4⟩:=hl e.Args 0 l (by omega) hs (by omega)
   have k1' : eachL (j1D (q8a m)) 0 e.Args l=some q:=k1
   refine⟨q,?_,k2,fun a=>?_,?_⟩
   ·rw [k1']; rfl
   ·rw [k3,z7A,if_neg hk]; simp
   ·rw [z7A,if_neg hk]; simpa using k4
theorem j9a (e:Expr):z8X (attrs e):=by
 refine z8W lessO_swo.trans z9M ?_
 have h:=List.pairwise_mergeSort (le:=fun x y=>!z4A y x) (fun a b c h1 h2=>by
  simp only [Bool.not_eq_true'] at h1 h2 ⊢
  exact lessO_swo.ntrans _ _ _ h2 h1) (fun a b=>by
  cases h:z4A a b with
  | false=>simp [h]
  | true=>
   cases h2:z4A b a with
   | false=>simp
   | true=>have:=lessO_swo.trans _ _ _ h h2; rw [lessO_swo.irrefl] at this; cases this) (z7z e)
 unfold j8y
 exact h.imp fun {a b} h=>by simpa using h
theorem k1B {e:Expr}(h:Sz.szd e≤1048576):q6V e=some (attrs e):=by
 have hl:=k4n h
 obtain⟨q,h1,h2,h3,h4⟩:=k2U _ e [] (Nat.le_refl _) List.Pairwise.nil (by simp; omega)
 have hq:q=attrs e:=j6f (lt:=z4A) lessO_swo.irrefl lessO_swo.trans h2 (j9a e) fun a=>by rw [h3,k4o]; simp
 subst hq
 have hr:j4i e []=some (attrs e):=k4p (fun n q=>k8F n e [] q) h1
 unfold q6V
 rw [hr]; rfl
end Go.Proofs.YtcegfmageiicaaaGreat
namespace Go.Proofs.YtcegfmageiicaaaGreat
open Go Go.E
theorem k8G:∀ (n:Nat) (e q:Expr),q7E n e=some q→q7E (n+1) e=some q:=by
 intro n
 induction n with
 | zero=>intro e q h; cases h
 | succ n ih=>
  intro e q h
  have h' : z1x (q7E n) e=some q:=h
  show z1x (q7E (n+1)) e=some q
  unfold z1x at h' ⊢
  obtain⟨s,h1,h2⟩:=bd h'
  rw [j1P (g:=z4m (q7E (n+1))) (fun k x s q hq=>by
   unfold z4m at hq ⊢
   obtain⟨y,h3,h4⟩:=bd hq
   rw [ih _ _ h3,Option.bind_some]; exact h4) _ _ _ _ h1]
  exact h2
theorem k2V:∀ (m:Nat) (e:Expr),fuE e≤m→Sz.szd e≤1048576→q7E m e=some e:=by
 intro m
 induction m with
 | zero=>intro e h; rw [z3Q] at h; omega
 | succ m ih=>
  intro e h hs
  rw [z3Q] at h
  have hl:∀ (l:List Expr) (i:Nat) (s:List Expr),(∀ x∈l,fuE x≤m∧Sz.szd x≤1048576)→s.length+l.length≤4398046511→eachL (z4m (q7E m)) i l s=some (s++l):=by
   intro l
   induction l with
   | nil=>intro i s _ _; simp [eachL]
   | cons x l ihl=>
    intro i s hx hb
    simp only [List.length_cons] at hb
    have h1:=ih x (hx x (by simp)).1 (hx x (by simp)).2
    have e1:z4m (q7E m) i x s=some (s++[x]):=by
     unfold z4m; rw [h1,Option.bind_some,q3B (by constructor<;>omega)]
    simp only [eachL,e1,Option.bind_some]
    rw [ihl _ _ (fun y hy=>hx y (by simp [hy])) (by simp; omega)]; simp
  show z1x (q7E m) e=some e
  unfold z1x
  have h2:=q8U e
  have h3:=q5b e.Args
  rw [hl e.Args 0 [] (fun x hx=>⟨by have:=z5M hx; omega,by have:=k4m hx; omega⟩) (by simp; omega),List.nil_append,Option.bind_some]
  cases e; rfl
theorem k8H {e:Expr}(h:Sz.szd e≤1048576):j0J e=some e:=k4p (fun n q=>k8G n e q) (k2V _ e (Nat.le_refl _) h)
theorem k2W:z9Z=j0J:=by
 have h:∀ n,z2H n=q7E n:=by
  intro n
  induction n with
  | zero=>rfl
  | succ n ih=>funext e; show z7n (z2H n) e=z1x (q7E n) e; rw [ih]; rfl
 funext e
 show recO (fun n=>z2H n e)=recO fun n=>q7E n e
 congr 1; funext n; rw [h]
def k0y:Expr:=⟨0,0,0,0,⟨#[]⟩,⟨#[]⟩,[]⟩
def eqAt (r:Rule)(o:Occurrence):Expr × Bool:=match r.Equations.find? fun q=>decide (q.At=o) with
 | some q=>(q.Expr,true)
 | none=>(k0y,false)
theorem j0j {r:Rule}{q:Equation}(h:q∈r.Equations):Sz.szd q.Expr≤Sz.szd r:=by
 have h1:=z7x r
 have h2:=z5L q
 have h3:=z4g h
 have h4:=q8U q.Expr
 omega
theorem k4r {r:Rule}(h:Sz.szd r≤1048576)(o:Occurrence):Sz.szd (eqAt r o).1≤1048576:=by
 unfold eqAt
 cases hf:r.Equations.find? (fun q=>decide (q.At=o)) with
 | none=>show Sz.szd k0y≤_; have:Sz.szd k0y=0:=rfl; omega
 | some q=>have:=j0j (List.mem_of_find?_eq_some hf); show Sz.szd q.Expr≤_; omega
theorem j7t {r:Rule}(h:Sz.szd r≤1048576)(o:Occurrence):q5H r o=some (eqAt r o):=by
 have key:∀ (l:List Equation) (i:Nat),(∀ q∈l,Sz.szd q.Expr≤1048576)→findL (q7T o) i l ()=some (match l.find? fun q=>decide (q.At=o) with
   | some q=>.inr (q.Expr,true)
   | none=>.inl ()):=by
  intro l
  induction l with
  | nil=>intro i _; rfl
  | cons q l ih=>
   intro i hq
   by_cases hp:q.At=o
   ·simp [findL,q7T,hp,k8H (hq q (by simp))]
   ·simp [findL,q7T,hp]
    exact ih _ fun y hy=>hq y (by simp [hy])
 unfold q5H eqAt
 rw [key _ _ fun q hq=>by have:=j0j hq; omega]
 cases r.Equations.find? (fun q=>decide (q.At=o))<;>rfl
theorem k4s {r:Rule}(h:Sz.szd r≤1048576)(o:Occurrence):q5H r o=some (eqAt r o)∧q8w r o=some (eqAt r o):=by
 have e:q8w=q5H:=by
  have e1:z3L=q7T:=by funext a k x u; unfold z3L q7T; rw [k2W]
  funext r o; unfold q8w q5H; rw [e1]
 rw [e]
 exact⟨j7t h o,j7t h o⟩
theorem k2X:q8b=q5q:=by
 funext l o
 unfold q8b q5q q3P
 have e:z0Q o=q3S o:=by
  funext k x u
  unfold z0Q q3S
  by_cases h:x=o
  ·rw [if_pos h,if_pos h.symm]
  ·rw [if_neg h,if_neg fun e=>h e.symm]
 rw [e]
 cases ((findL (q3S o) 0 l ()).bind <| onr (fun r1=>some r1) fun _=>some (-1))<;>rfl
theorem k2Y (l:List Occurrence)(o:Occurrence):∃ k,q5q l o=some k:=by
 have h:q3P l o=some (ixF l o):=by
  unfold q3P
  refine j4N fun k x=>⟨fun e=>?_,fun e=>?_⟩
  ·unfold q3S; rw [if_pos e.symm]
  ·unfold q3S; rw [if_neg (fun h=>e h.symm)]
 exact⟨_,by unfold q5q; rw [h]; rfl⟩
theorem x0B {r x:Relation}{i k:Int}(h:q6P r i k=some x):x.N=r.N:=by
 unfold q6P at h
 obtain⟨y,h1,h⟩:=bd h
 have hy:y=r:=by unfold q9h at h1; obtain⟨_,h1⟩:=z7b h1; exact (Option.some.inj h1).symm
 subst hy
 obtain⟨y2,_,h⟩:=bd h
 obtain⟨s1,_,h⟩:=bd h
 obtain⟨s2,_,h⟩:=bd h
 by_cases hs:s2=true
 ·rw [if_pos hs] at h
  obtain⟨_,h⟩:=z7b h
  obtain⟨_,_,h⟩:=bd h
  obtain⟨_,h⟩:=z7b h
  obtain⟨_,h⟩:=z7b h
  obtain⟨_,h⟩:=z7b h
  cases h; rfl
 ·rw [if_neg hs] at h
  cases h; rfl
theorem k6w (l:List Occurrence)(k:Nat):∀ (us:List Occurrence) (i:Nat) (rows:List Int) (n:Int),rows.length≤1048576 →
  ∃ rows',eachL (q6B l k) i us (rows,n)=some (rows',n)∧eachL (q8s l (k:Int)) i us (rows,n)=some (rows',n)∧rows'.length=rows.length:=by
 intro us
 induction us with
 | nil=>intro i rows n _; exact⟨rows,rfl,rfl,rfl⟩
 | cons u us ih=>
  intro i rows n h
  obtain⟨j,hj⟩:=k2Y l u
  obtain⟨x,hx,hxl⟩:=k1A (r:=⟨n,rows⟩) h j (k:Int)
  have hN:=x0B hx
  obtain⟨rows',h1,h2,h3⟩:=ih (i+1) x.Rows n (by rw [hxl]; exact h)
  have e1:q6B l k i u (rows,n)=some (x.Rows,n):=by
   unfold q6B
   dsimp only
   rw [hj,Option.bind_some,j3n,hx,Option.bind_some,hN]
  have e2:q8s l (k:Int) i u (rows,n)=some (x.Rows,n):=by
   unfold q8s
   dsimp only
   rw [k2X,hj,Option.bind_some,hx,Option.bind_some,hN]
  exact⟨rows',by simp only [eachL,e1,Option.bind_some]; exact h1,by simp only [eachL,e2,Option.bind_some]; exact h2,h3.trans hxl⟩
theorem k2Z:attrs k0y=[]:=by
 have:z7z k0y=[]:=by simp [k0y,z7z,z2g]
 unfold attrs j8y
 rw [this]; simp [q5k]
theorem k4t {r:Rule}(hr:Sz.szd r≤1048576)(l:List Occurrence)(hl:l.length≤16):∀ (m k:Nat) (rows:List Int) (n:Int),k+m=l.length→0 < n→rows.length≤1048576 →
  ∃ rows',eachL (q6C r l) k (l.drop k) (rows,n)=some (rows',n)∧q4i (q5m r l) ((k:Int),rows,n)=some (rows',n)∧rows'.length=rows.length:=by
 intro m
 induction m with
 | zero=>
  intro k rows n hk hn h
  refine⟨rows,by rw [List.drop_eq_nil_of_le (by omega)]; rfl,q3E ?_,rfl⟩
  unfold q5m
  dsimp only
  rw [if_neg (by omega)]
 | succ m ih=>
  intro k rows n hk hn h
  obtain⟨x,hx⟩:∃ x,l[k]? = some x:=⟨_,List.getElem?_eq_getElem (by omega)⟩
  have hd:l.drop k=x :: l.drop (k+1):=by
   rw [List.drop_eq_getElem_cons (by omega)]
   have:l[k]=x:=by rw [List.getElem?_eq_getElem (by omega)] at hx; exact Option.some.inj hx
   rw [this]
  obtain⟨E,B,hq⟩:∃ E B,eqAt r x=(E,B):=⟨_,_,rfl⟩
  obtain⟨rows1,h1,h2,h3⟩:=k6w l k (attrs E) 0 rows n h
  obtain⟨rows',k1,k2,k3⟩:=ih (k+1) rows1 n (by omega) hn (by omega)
  have hsz:=k4r hr x
  have hf:=k4s hr x
  rw [hq] at hsz hf
  have e1:q6C r l k x (rows,n)=some (rows1,n):=by
   unfold q6C
   dsimp only
   rw [hf.2,Option.bind_some]
   dsimp only
   rw [j7s hsz,Option.bind_some,h1]; rfl
  have hin:(grd (0≤(k:Int)) <| (l[(k:Int).toNat]?).bind fun x1=>(q5H r x1).bind fun (y3,y4)=>if y4=true then ((q6V y3).bind fun y5=>(eachL (q8s l (k:Int)) 0 y5 (rows,n)).bind fun (s8,s9)=>some (s8,s9)) else some (rows,n))=some (rows1,n):=by
   rw [q3B (by omega),Int.toNat_natCast,hx,Option.bind_some,hf.1,Option.bind_some]
   dsimp only
   cases hb:B with
   | true=>rw [if_pos rfl,k1B hsz,Option.bind_some,h2,Option.bind_some]
   | false=>
    have hz:E=k0y:=by
     unfold eqAt at hq
     cases hf:r.Equations.find? (fun q=>decide (q.At=x)) with
     | none=>rw [hf] at hq; cases hq; rfl
     | some q=>rw [hf] at hq; cases hq; cases hb
    rw [hz,k2Z] at h1
    simp only [eachL,Option.some.injEq,Prod.mk.injEq] at h1
    rw [if_neg (by simp),h1.1]
  have e2:q5m r l ((k:Int),rows,n)=some (.inl (((k+1:Nat):Int),rows1,n)):=by
   unfold q5m
   dsimp only
   rw [if_pos (by omega),if_pos hn,hin,Option.bind_some]
   dsimp only
   rw [q3B (by constructor<;>omega)]; rfl
  exact⟨rows',by rw [hd]; simp only [eachL,e1,Option.bind_some]; exact k1,by rw [q3L e2]; exact k2,k3.trans h3⟩
theorem k3a {g:Grammar}{r:Rule}(h:Sz.szd g≤1048576)(hr:Sz.szd r≤1048576):∃ x,q6m g r=some x∧q6o g r=some x∧x.Rows.length≤16:=by
 obtain⟨l,h1,h2,_⟩:=j3m (q9v h) (q6c hr)
 have hem:∀ n:Nat,q4h (n:Int)=if n≤16 then some ⟨(n:Int),List.replicate n 0⟩ else some ⟨0,[]⟩:=fun n=>by
  unfold q4h
  rw [z2f,Option.bind_some]
  by_cases hn:n≤16
  ·rw [if_pos (by simp; omega),q3B (by omega),if_pos hn]; rfl
  ·rw [if_neg (by simp; omega),if_neg hn]
 unfold q6m q6o
 rw [h1,h2,Option.bind_some,Option.bind_some,z6L,hem]
 by_cases hl:l.length≤16
 ·rw [if_pos hl,Option.bind_some,Option.bind_some,if_neg (by omega)]
  dsimp only
  by_cases h0:l.length=0
  ·have:l=[]:=List.eq_nil_of_length_eq_zero h0
   subst this
   have e:q4i (q5m r ([]:List Occurrence)) (0,List.replicate ([]:List Occurrence).length 0,((([]:List Occurrence).length:Nat):Int))=some (List.replicate ([]:List Occurrence).length 0,((([]:List Occurrence).length:Nat):Int)):=q3E (by unfold q5m; dsimp only; rw [if_neg (by simp)])
   rw [e]
   exact⟨_,rfl,rfl,by simp⟩
  ·obtain⟨rows',k1,k2,k3⟩:=k4t hr l hl l.length 0 (List.replicate l.length 0) (l.length:Int) (by omega) (by omega) (by simp; omega)
   have k2' : q4i (q5m r l) (0,List.replicate l.length 0,(l.length:Int))=some (rows',(l.length:Int)):=k2
   rw [List.drop_zero] at k1
   rw [k1,k2']
   exact⟨_,rfl,rfl,by show rows'.length≤16; simp at k3; omega⟩
 ·rw [if_neg hl,Option.bind_some,Option.bind_some,if_pos (by omega)]
  have e:q4i (q5m r l) (0,([]:List Int),(0:Int))=some ([],0):=q3E (by unfold q5m; dsimp only; rw [if_pos (by omega),if_neg (by omega)])
  rw [e]
  exact⟨_,rfl,rfl,by simp⟩
end Go.Proofs.YtcegfmageiicaaaGreat
namespace Go.Proofs.YtcegfmageiicaaaGreat
open Go Go.E
theorem k1C {r:Relation}(h:r.Rows.length≤1048576)(i k:Int):q6P r i k=some (addP r i k):=by
 unfold q6P
 simp only [z6M h,q6j,z2f,Option.bind_some,decide_eq_true_eq]
 by_cases hv:Valid r
 ·have hv1:=hv.1; have hv2:=hv.2.1; have hv3:=hv.2.2.1
  rw [if_pos hv,q3B (by constructor<;>omega)]; simp only [Option.bind_some,Bool.false_eq_true,if_true,if_false,decide_eq_true_eq]
  by_cases hi:0≤i∧i≤r.N - 1
  ·rw [if_pos hi,q3B (by constructor<;>omega)]; simp only [Option.bind_some,Bool.false_eq_true,if_true,if_false,decide_eq_true_eq]
   by_cases hk:0≤k∧k≤r.N - 1
   ·obtain⟨x,hx⟩:∃ x,r.Rows[i.toNat]? = some x:=⟨_,List.getElem?_eq_getElem (by omega)⟩
    have hrow:=hv.row (i:=i) hi hx
    rw [if_pos hk,q3B hi.1,hx,Option.bind_some,q3B hk.1,q3B ⟨hk.1,by omega⟩,q3B ⟨hrow.2.1,Int.natCast_nonneg _⟩]
    have e:addP r i k=j4O r i (orI (z8e r i) ((2 ^ k.toNat:Nat):Int)):=if_pos ⟨hv,hi,hk⟩
    rw [e,hrow.1]; rfl
   ·rw [if_neg hk]
    have e:addP r i k=r:=if_neg fun h=>hk h.2.2
    rw [e]
  ·rw [if_neg hi]; simp only [Option.bind_some,Bool.false_eq_true,if_true,if_false,decide_eq_true_eq]
   have e:addP r i k=r:=if_neg fun h=>hi h.2.1
   rw [e]
 ·rw [if_neg hv]; simp only [Option.bind_some,Bool.false_eq_true,if_true,if_false,decide_eq_true_eq]
  have e:addP r i k=r:=if_neg fun h=>hv h.1
  rw [e]
theorem j1e {n:Int}(h0:0≤n)(h1:n≤16):q4h n=some ⟨n,List.replicate n.toNat 0⟩:=by
 unfold q4h
 rw [z2f,Option.bind_some,if_pos (by simp; omega),q3B (by omega)]
theorem z9r (r:Relation)(i k:Int):(addP r i k).Rows.length=r.Rows.length∧(addP r i k).N=r.N:=by
 unfold addP
 split
 ·exact⟨by simp [j4O],rfl⟩
 ·exact⟨rfl,rfl⟩
theorem j3o (x k:Int):bit x k↔x.toNat.testBit k.toNat=true:=by
 unfold bit
 rw [Nat.testBit_eq_decide_div_mod_eq,Nat.shiftRight_eq_div_pow]
 simp [Nat.and_one_is_mod]
def j7u (k:Nat)(s:List Int):List Int:=s.map fun x=>if x.toNat.testBit k=true then orI x (s.getD k 0) else x
def j2x (s:List Int):Nat→List Int
 | 0=>s
 | m+1=>j7u m (j2x s m)
def z5e (n:Nat)(s:List Int):Prop:=s.length=n∧∀ x∈s,0≤x∧x.toNat < 2 ^ n
theorem j6h (x y:Int):0≤orI x y:=by unfold orI; omega
theorem j1f (x y:Int):(orI x y).toNat=x.toNat ||| y.toNat:=by unfold orI; omega
theorem k4u {n:Nat}{s:List Int}(h:z5e n s)(k:Nat):0≤s.getD k 0∧(s.getD k 0).toNat < 2 ^ n:=by
 rw [List.getD_eq_getElem?_getD]
 cases hk:s[k]? with
 | none=>simp; exact Nat.two_pow_pos n
 | some x=>exact h.2 x (List.mem_of_getElem? hk)
theorem k6x {n k:Nat}{s:List Int}(h:z5e n s):z5e n (j7u k s):=by
 refine⟨by unfold j7u; rw [List.length_map]; exact h.1,fun x hx=>?_⟩
 unfold j7u at hx
 obtain⟨y,hy,rfl⟩:=List.mem_map.1 hx
 have h1:=h.2 y hy
 split
 ·exact⟨j6h _ _,by rw [j1f]; exact Nat.or_lt_two_pow h1.2 (k4u h k).2⟩
 ·exact h1
theorem z3F {n:Nat}{s:List Int}(h:z5e n s):∀ m,z5e n (j2x s m)
 | 0=>h
 | m+1=>k6x (z3F h m)
def Rl (s:List Int)(i j:Nat):Prop:=(s.getD i 0).toNat.testBit j=true
theorem k8I {n k:Nat}{s:List Int}(h:z5e n s){i:Nat}(hi:i < n)(j:Nat):Rl (j7u k s) i j↔Rl s i j∨(Rl s i k∧Rl s k j):=by
 unfold Rl
 have hs:∃ x,s[i]? = some x:=⟨_,List.getElem?_eq_getElem (by rw [h.1]; exact hi)⟩
 obtain⟨x,hx⟩:=hs
 have e1:s.getD i 0=x:=by rw [List.getD_eq_getElem?_getD,hx]; rfl
 have e2:(j7u k s).getD i 0=if x.toNat.testBit k=true then orI x (s.getD k 0) else x:=by
  unfold j7u
  rw [List.getD_eq_getElem?_getD,List.getElem?_map,hx]; rfl
 rw [e1,e2]
 by_cases hb:x.toNat.testBit k=true
 ·rw [if_pos hb,j1f,Nat.testBit_or,Bool.or_eq_true]; simp [hb]
 ·rw [if_neg hb]; simp [hb]
theorem x0C {n:Nat}{s:List Int}(h:z5e n s){i j:Nat}(hR:Rl s i j):j < n:=by
 unfold Rl at hR
 have h1:=(k4u h i).2
 apply Decidable.byContradiction
 intro hj
 have:(s.getD i 0).toNat.testBit j=false:=Nat.testBit_lt_two_pow (Nat.lt_of_lt_of_le h1 (Nat.pow_le_pow_right (by omega) (by omega)))
 rw [this] at hR; cases hR
theorem k7W {n:Nat}{s:List Int}(h:z5e n s){i j:Nat}(hR:Rl s i j):i < n:=by
 unfold Rl at hR
 apply Decidable.byContradiction
 intro hi
 have:s.getD i 0=0:=by rw [List.getD_eq_getElem?_getD,List.getElem?_eq_none (by rw [h.1]; omega)]; rfl
 rw [this] at hR; simp at hR
theorem k4v {n:Nat}{s:List Int}(h:z5e n s):∀ (m i j:Nat),Rl s i j→Rl (j2x s m) i j
 | 0,_,_,hR=>hR
 | m+1,i,j,hR=>by
  have hR':=k4v h m i j hR
  exact (k8I (z3F h m) (k7W (z3F h m) hR') j).2 (.inl hR')
theorem k1D {n k:Nat}{s:List Int}(h:z5e n s)(hk:k < n)(hn:n≤16):eachN (q8t k) 0 n s=some (j7u k s):=by
 have hkk:∃ y,s[k]? = some y:=⟨_,List.getElem?_eq_getElem (by rw [h.1]; exact hk)⟩
 obtain⟨y,hy⟩:=hkk
 have ey:s.getD k 0=y:=by rw [List.getD_eq_getElem?_getD,hy]; rfl
 let f:Int→Int:=fun x=>if x.toNat.testBit k=true then orI x y else x
 have hf:f y=y:=by
  show (if y.toNat.testBit k=true then orI y y else y)=y
  have:=(h.2 y (List.mem_of_getElem? hy)).1
  split
  ·unfold orI; rw [Nat.or_self]; omega
  ·rfl
 obtain⟨s',h1,h2⟩:=j3l (P:=fun m t=>t=(s.take m).map f++s.drop m) (f:=q8t k) (n:=n) (i:=0) (s:=s) (by simp) (fun m t _ hm ht=>by
  subst ht
  have hms:m < s.length:=by rw [h.1]; omega
  obtain⟨x,hx⟩:∃ x,s[m]? = some x:=⟨_,List.getElem?_eq_getElem hms⟩
  have hx0:=h.2 x (List.mem_of_getElem? hx)
  have hy0:=h.2 y (List.mem_of_getElem? hy)
  have g1:((s.take m).map f++s.drop m)[m]? = some x:=by
   rw [List.getElem?_append_right (by simp; omega)]
   simp only [List.length_map,List.length_take]
   rw [show m - min m s.length=0 by omega,List.getElem?_drop,Nat.add_zero,hx]
  have g2:((s.take m).map f++s.drop m)[k]? = some y:=by
   by_cases hkm:k < m
   ·rw [List.getElem?_append_left (by simp; omega),List.getElem?_map,List.getElem?_take,if_pos hkm,hy]
    show some (f y)=_
    rw [hf]
   ·rw [List.getElem?_append_right (by simp; omega)]
    simp only [List.length_map,List.length_take]
    rw [List.getElem?_drop,show m+(k - min m s.length)=k by omega,hy]
  have hset:(((s.take m).map f++s.drop m).set m (f x))=(s.take (m+1)).map f++s.drop (m+1):=by
   rw [List.set_append_right _ _ (by simp; omega)]
   simp only [List.length_map,List.length_take]
   rw [show m - min m s.length=0 by omega,List.take_add_one,hx,List.map_append,List.append_assoc]
   congr 1
   rw [List.drop_eq_getElem_cons hms]; rfl
  have hno:f x=x→((s.take m).map f++s.drop m)=(s.take (m+1)).map f++s.drop (m+1):=fun e=>by
   rw [← hset,e]
   apply List.ext_getElem?
   intro q
   rw [List.getElem?_set]
   by_cases hq:m=q
   ·subst hq
    rw [if_pos rfl,g1]
    split
    ·rfl
    ·rename_i hl; exact absurd (by simp; omega) hl
   ·rw [if_neg hq]
  refine⟨_,?_,rfl⟩
  unfold q8t
  rw [g1,Option.bind_some,q3B (by refine⟨hx0.1,by omega,by omega⟩),q3B ⟨Int.natCast_nonneg _,by decide⟩]
  by_cases hb:bit x (k:Int)
  ·have hb':=(j3o x k).1 hb
   rw [Int.toNat_natCast] at hb'
   rw [if_pos (k7V hb),g2,Option.bind_some,q3B ⟨hx0.1,hy0.1⟩,Option.bind_some,← hset]
   show some (List.set _ m (orI x y))=some (List.set _ m (f x))
   have:f x=orI x y:=if_pos hb'
   rw [this]
  ·have hb' : ¬ x.toNat.testBit k=true:=fun h=>hb ((j3o x k).2 (by rw [Int.toNat_natCast]; exact h))
   rw [if_neg (fun h=>hb (k7U h)),Option.bind_some,← hno (if_neg hb')])
 rw [h1]
 subst h2
 unfold j7u
 rw [Nat.zero_add,List.take_of_length_le (by rw [h.1]; exact Nat.le_refl _),List.drop_eq_nil_of_le (by rw [h.1]; exact Nat.le_refl _),List.append_nil,ey]
theorem z9s {r:Relation}(h:Valid r):z5e r.N.toNat r.Rows∧r.N.toNat≤16:=by
 obtain⟨h0,h1,h2,h3⟩:=h
 have:=j7r r.N
 exact⟨⟨by omega,fun x hx=>⟨(h3 x hx).1,by have:=(h3 x hx).2; omega⟩⟩,by omega⟩
def q6a (r:Relation):Relation:=if Valid r then ⟨r.N,j2x r.Rows r.N.toNat⟩ else r
theorem k8J:z6y=q8t:=rfl
theorem j1g {r:Relation}(h:r.Rows.length≤1048576):q6W r=some (q6a r):=by
 unfold q6W q6a
 rw [z6M h,Option.bind_some,q6j,Option.bind_some]
 by_cases hv:Valid r
 ·rw [if_pos (by simpa using hv),if_pos hv]
  obtain⟨hok,hn⟩:=z9s hv
  obtain⟨t,h1,h2⟩:=j3l (P:=fun m t=>t=j2x r.Rows m) (f:=z2w r) (n:=r.N.toNat) (i:=0) (s:=r.Rows) rfl (fun k s _ hk hs=>by
   subst hs
   refine⟨_,?_,rfl⟩
   unfold z2w
   rw [k1D (z3F hok k) (by omega) hn]; rfl)
  rw [h1,Option.bind_some,h2,Nat.zero_add]
 ·rw [if_neg (by simpa using hv),if_neg hv]
theorem j1h {r:Relation}(h:r.Rows.length≤1048576):q7a r=some (q6a r):=by
 unfold q7a q6a
 rw [j4P,z6M h,Option.bind_some,z1a,Option.bind_some]
 by_cases hv:Valid r
 ·rw [if_pos (by simpa using hv),if_pos hv]
  obtain⟨hok,hn⟩:=z9s hv
  obtain⟨t,h1,h2⟩:=j3l (P:=fun m t=>t=j2x r.Rows m) (f:=z2J) (n:=r.Rows.length) (i:=0) (s:=r.Rows) rfl (fun k s _ hk hs=>by
   subst hs
   refine⟨_,?_,rfl⟩
   unfold z2J
   have hl:=(z3F hok k).1
   rw [hl,k8J,k1D (z3F hok k) (by rw [hok.1] at hk; omega) hn]; rfl)
  rw [h1,Option.bind_some,h2,Nat.zero_add,hok.1]
 ·rw [if_neg (by simpa using hv),if_neg hv]
theorem j1Q (r:Relation):(q6a r).Rows.length=r.Rows.length∧(q6a r).N=r.N:=by
 unfold q6a
 by_cases hv:Valid r
 ·rw [if_pos hv]
  obtain⟨hok,_⟩:=z9s hv
  exact⟨by show (j2x r.Rows r.N.toNat).length=_; rw [(z3F hok _).1,hok.1],rfl⟩
 ·rw [if_neg hv]; exact⟨rfl,rfl⟩
theorem j9b {r:Relation}(h:Valid r):Valid (q6a r):=by
 obtain⟨hok,hn⟩:=z9s h
 obtain⟨k1,k2⟩:=z3F hok r.N.toNat
 obtain⟨h0,h1,h2,h3⟩:=h
 unfold q6a
 rw [if_pos ⟨h0,h1,h2,h3⟩]
 refine⟨h0,h1,by show ((j2x r.Rows r.N.toNat).length:Int)=r.N; omega,fun x hx=>?_⟩
 have:=k2 x hx
 have:=j7r r.N
 exact⟨(k2 x hx).1,by show x≤((2 ^ r.N.toNat:Nat):Int) - 1; omega⟩
theorem k8K {r:Relation}(h:Valid r)(i j:Nat):hasP r (i:Int) (j:Int)↔Rl r.Rows i j:=by
 obtain⟨hok,hn⟩:=z9s h
 unfold hasP
 have h0:=h.1
 constructor
 ·rintro⟨_,_,_,hb⟩
  have:=(j3o _ _).1 hb
  simpa [Rl,z8e] using this
 ·intro hR
  have hi:=k7W hok hR
  have hj:=x0C hok hR
  refine⟨h,⟨by omega,by omega⟩,⟨by omega,by omega⟩,(j3o _ _).2 ?_⟩
  simpa [Rl,z8e] using hR
theorem j4Q {r:Relation}(h:r.Rows.length≤1048576):z0e r=some (decide (∃ k:Nat,k < r.Rows.length∧hasP (q6a r) (k:Int) (k:Int))):=by
 unfold z0e
 rw [j1h h,Option.bind_some]
 have hl:=(j1Q r).1
 have hf:∀ (k:Nat) (x:Int),(hasP (q6a r) (k:Int) (k:Int)→z4T (q6a r) k x ()=some (.inr true))∧(¬ hasP (q6a r) (k:Int) (k:Int)→z4T (q6a r) k x ()=some (.inl ())):=fun k x=>by
  unfold z4T
  rw [z7y,Option.bind_some]
  exact⟨fun hp=>if_pos (by simpa using hp),fun hp=>if_neg (by simpa using hp)⟩
 have hany:=j4M (c:=true) (xs:=(q6a r).Rows) (i:=0) (p:=fun k _=>hasP (q6a r) (k:Int) (k:Int)) (f:=z4T (q6a r)) fun k x _=>by
  rw [Nat.zero_add]; exact hf k x
 by_cases hp:∃ k:Nat,k < r.Rows.length∧hasP (q6a r) (k:Int) (k:Int)
 ·rw [decide_eq_true hp]
  obtain⟨k,hk,hpk⟩:=hp
  rw [hany.1 ⟨k,_,List.getElem?_eq_getElem (by omega),by rw [Nat.zero_add]; exact hpk⟩]; rfl
 ·rw [decide_eq_false hp]
  rw [hany.2 fun k x hx hpk=>hp ⟨k,by rw [← hl]; exact (List.getElem?_eq_some_iff.1 hx).1,by rw [Nat.zero_add] at hpk; exact hpk⟩]; rfl
end Go.Proofs.YtcegfmageiicaaaGreat
namespace Go.Proofs.YtcegfmageiicaaaGreat
open Go Go.E
theorem z6N {α β:Type}{p:α→Bool}{g:α→β}{B:Nat}{f:Nat→α→List β→Option (List β)}(hf:∀ k x s,s.length < B→f k x s=some (if p x=true then s++[g x] else s)):∀ (xs:List α) (i:Nat) (s:List β),s.length+xs.length≤B →
  eachL f i xs s=some (s++(xs.filter p).map g)
 | [],i,s,_=>by simp [eachL]
 | x :: xs,i,s,h=>by
  simp only [List.length_cons] at h
  by_cases hp:p x=true
  ·have ih:=z6N hf xs (i+1) (s++[g x]) (by simp; omega)
   simp [eachL,hf i x s (by omega),hp,ih]
  ·have ih:=z6N hf xs (i+1) s (by omega)
   simp [eachL,hf i x s (by omega),hp,ih]
theorem j4R {α β:Type}{p:α→Bool}{g:Nat→β}{B:Nat}{f:Nat→α→List β→Option (List β)}(hf:∀ k x s,s.length < B→f k x s=some (if p x=true then s++[g k] else s)):∀ (xs:List α) (i:Nat) (s:List β),s.length+xs.length≤B →
  eachL f i xs s=some (s++((xs.zipIdx i).filter fun q=>p q.1).map fun q=>g q.2)
 | [],i,s,_=>by simp [eachL]
 | x :: xs,i,s,h=>by
  simp only [List.length_cons] at h
  by_cases hp:p x=true
  ·have ih:=j4R hf xs (i+1) (s++[g i]) (by simp; omega)
   simp [eachL,hf i x s (by omega),hp,ih,List.zipIdx_cons]
  ·have ih:=j4R hf xs (i+1) s (by omega)
   simp [eachL,hf i x s (by omega),hp,ih,List.zipIdx_cons]
theorem j1R {β:Type}{h:Nat→List β}{C n:Nat}{f:Nat→List β→Option (List β)}(hf:∀ k s,k < n→s.length≤k*C→f k s=some (s++h k))(hh:∀ k,k < n→(h k).length≤C) :
  ∀ (m k:Nat) (s:List β),k+m=n→s.length≤k*C→eachN f k m s=some (s++(List.range' k m).flatMap h)
 | 0,k,s,_,_=>by simp [eachN]
 | m+1,k,s,hk,hs=>by
  have hl:=hh k (by omega)
  have e:(k+1)*C=k*C+C:=Nat.succ_mul k C
  have ih:=j1R hf hh m (k+1) (s++h k) (by omega) (by rw [List.length_append]; omega)
  simp [eachN,hf k s (by omega) hs,ih,List.range'_succ]
theorem j4S {β:Type}{h:Nat→List β}{C n:Nat}{f:(List β × Int)→Option ((List β × Int) ⊕ List β)}(hf:∀ (k:Nat) s,k < n→s.length≤k*C→f (s,(k:Int))=some (.inl (s++h k,((k+1:Nat):Int))))(he:∀ s,f (s,(n:Int))=some (.inr s))(hh:∀ k,k < n→(h k).length≤C) :
  ∀ (m k:Nat) (s:List β),k+m=n→s.length≤k*C→q4i f (s,(k:Int))=some (s++(List.range' k m).flatMap h)
 | 0,k,s,hk,_=>by
  obtain rfl:k=n:=by omega
  rw [q3E (he s)]; simp
 | m+1,k,s,hk,hs=>by
  have hl:=hh k (by omega)
  have e:(k+1)*C=k*C+C:=Nat.succ_mul k C
  have ih:=j4S hf he hh m (k+1) (s++h k) (by omega) (by rw [List.length_append]; omega)
  rw [q3L (hf k s (by omega) hs),ih]; simp [List.range'_succ]
abbrev GOk (g:Grammar):Prop:=∀ y∈g.Symbols,y.Attributes.length≤1048576
def zS:Symbol:=⟨⟨#[]⟩,[]⟩
def zA:Attribute:=⟨⟨#[]⟩,0,0,false⟩
def q8k (g:Grammar)(s:ByteArray):Symbol × Bool:=match g.Symbols.find? fun y=>decide (y.Name=s) with
 | some y=>(y,true)
 | none=>(zS,false)
def z5Y (y:Symbol)(s:ByteArray):Attribute × Bool:=match y.Attributes.find? fun a=>decide (a.Name=s) with
 | some a=>(a,true)
 | none=>(zA,false)
theorem z6O {g:Grammar}(h:GOk g)(s:ByteArray):q5M g s=some (q8k g s):=by
 have h1:=z4t (p:=fun y:Symbol=>decide (y.Name=s)) (r:=fun y=>(y,true)) (xs:=g.Symbols) (i:=0) (f:=z0C s) fun k y hy=>by
  have hg:q9N y=some y:=by
   unfold q9N; have:=h y hy; rw [q3B (by simp only [List.length_nil]; constructor<;>omega)]
  unfold z0C; rw [hg]; constructor<;>intro hp<;>simp_all
 unfold q5M q8k
 rw [h1]
 cases hf:g.Symbols.find? (fun y:Symbol=>decide (y.Name=s)) with
 | none=>rfl
 | some y=>rfl
theorem z5f (g:Grammar)(s:ByteArray):q5O g s=some (q8k g s):=by
 have h2:=z4t (p:=fun y:Symbol=>decide (y.Name=s)) (r:=fun y=>(y,true)) (xs:=g.Symbols) (i:=0) (f:=z0H s) fun k y hy=>by
  unfold z0H; constructor<;>intro hp<;>simp_all
 unfold q5O q8k
 rw [h2]
 cases hf:g.Symbols.find? (fun y:Symbol=>decide (y.Name=s)) with
 | none=>rfl
 | some y=>rfl
theorem z5g {g:Grammar}(h:GOk g)(s:ByteArray):(q8k g s).1.Attributes.length≤1048576:=by
 unfold q8k
 cases hf:g.Symbols.find? (fun y:Symbol=>decide (y.Name=s)) with
 | none=>simp [zS]
 | some y=>exact h y (List.mem_of_find?_eq_some hf)
theorem j1i (y:Symbol)(s:ByteArray):q6Z y s=some (z5Y y s):=by
 have h2:=z4t (p:=fun y:Attribute=>decide (y.Name=s)) (r:=fun y=>(y,true)) (xs:=y.Attributes) (i:=0) (f:=z2C s) fun k y hy=>by
  unfold z2C; constructor<;>intro hp<;>simp_all
 unfold q6Z z5Y
 rw [h2]
 cases hf:y.Attributes.find? (fun y:Attribute=>decide (y.Name=s)) with
 | none=>rfl
 | some y=>rfl
theorem j4T (y:Symbol)(s:ByteArray):q7U y s=some (z5Y y s):=j1i y s
def q6G (r:Rule)(k:Int):ByteArray:=if k=0 then r.Left else if 1≤k∧k≤(r.Right.length:Int) then r.Right.getD (k - 1).toNat ⟨#[]⟩ else ⟨#[]⟩
abbrev ROk (r:Rule):Prop:=r.Right.length≤1048576
theorem z7B {r:Rule}(hl:ROk r)(k:Int):q5C r k=some (q6G r k):=by
 unfold q5C q6G
 by_cases h0:k=0
 ·rw [if_pos h0,if_pos h0]
 ·rw [if_neg h0,if_neg h0,z8T,Option.bind_some]
  by_cases h1:1≤k∧k≤(r.Right.length:Int)
  ·rw [if_pos (by simpa using h1),if_pos h1,q3B (by constructor<;>omega),q3B (by omega)]
   have:(k - 1).toNat < r.Right.length:=by omega
   rw [List.getElem?_eq_getElem this,List.getD_eq_getElem?_getD,List.getElem?_eq_getElem this]; rfl
  ·rw [if_neg (by simpa using h1),if_neg h1]
theorem j0k {r:Rule}(hl:ROk r)(k:Int):q6A r k=some (q6G r k):=by rw [j1M,z7B hl]
def z2n (g:Grammar)(r:Rule)(o:Occurrence):Attribute × Bool:=if 0≤o.Pos∧o.Pos≤(r.Right.length:Int) then z5Y (q8k g (q6G r o.Pos)).1 o.Name else (zA,false)
theorem j1S (g:Grammar){r:Rule}(hl:ROk r)(o:Occurrence):q8h g r o=some (z2n g r o):=by
 unfold q8h z2n
 rw [j2v,Option.bind_some]
 by_cases h0:0≤o.Pos∧o.Pos≤(r.Right.length:Int)
 ·rw [if_pos (by simpa using h0),if_pos h0,j0k hl,Option.bind_some,z5f,Option.bind_some]
  dsimp only
  rw [j1i]; rfl
 ·rw [if_neg (by simpa using h0),if_neg h0]; rfl
def mayB (g:Grammar)(r:Rule)(o:Occurrence):Bool:=(z2n g r o).2&&decide ((z2n g r o).1.Mode=if o.Pos=0 then 1 else 2)
theorem k8L (g:Grammar){r:Rule}(hl:ROk r)(o:Occurrence):z8I g r o=some (mayB g r o):=by
 unfold z8I mayB
 rw [j1S g hl,Option.bind_some]
 dsimp only
 by_cases h0:o.Pos=0
 ·rw [if_pos h0,if_pos h0]
  by_cases h1:(z2n g r o).2=true
  ·rw [if_pos h1,h1]; rfl
  ·rw [if_neg h1,Bool.eq_false_iff.2 h1]; rfl
 ·rw [if_neg h0,if_neg h0]
  by_cases h1:(z2n g r o).2=true
  ·rw [if_pos h1,h1]; rfl
  ·rw [if_neg h1,Bool.eq_false_iff.2 h1]; rfl
theorem k8M {g:Grammar}(h:GOk g){r:Rule}(hl:ROk r)(o:Occurrence):z8v g r o=some (mayB g r o):=by
 unfold z8v mayB z2n
 rw [z8T,Option.bind_some]
 by_cases hp:0≤o.Pos∧o.Pos≤(r.Right.length:Int)
 ·rw [if_pos (by simpa using hp),if_pos hp,z7B hl,Option.bind_some,z6O h,Option.bind_some]
  dsimp only
  rw [j4T,Option.bind_some]
  skip
  by_cases h0:o.Pos=0
  ·rw [if_pos h0,if_pos h0]
   by_cases h1:(z5Y (q8k g (q6G r o.Pos)).1 o.Name).2=true
   ·rw [if_pos h1,h1]; rfl
   ·rw [if_neg h1,Bool.eq_false_iff.2 h1]; rfl
  ·rw [if_neg h0,if_neg h0]
   by_cases h1:(z5Y (q8k g (q6G r o.Pos)).1 o.Name).2=true
   ·rw [if_pos h1,h1]; rfl
   ·rw [if_neg h1,Bool.eq_false_iff.2 h1]; rfl
 ·rw [if_neg (by simpa using hp),if_neg hp]; rfl
def reqK (g:Grammar)(r:Rule)(k:Nat):List Occurrence:=((q8k g (q6G r (k:Int))).1.Attributes.filter fun a=>decide (a.Mode=if (k:Int)=0 then 2 else 1)).map fun a=>(⟨(k:Int),a.Name⟩:Occurrence)
def reqL (g:Grammar)(r:Rule):List Occurrence:=(List.range' 0 (r.Right.length+1)).flatMap (reqK g r)
theorem k1E {g:Grammar}(h:GOk g)(r:Rule)(k:Nat):(reqK g r k).length≤1048576:=by
 unfold reqK; rw [List.length_map]
 exact Nat.le_trans (List.length_filter_le _ _) (z5g h _)
theorem k4w {g:Grammar}(h:GOk g){r:Rule}(hl:ROk r):z2z g r=some (reqL g r):=by
 have hl' : r.Right.length≤1048576:=hl
 have key:=j1R (h:=reqK g r) (C:=1048576) (n:=r.Right.length+1) (f:=z8G g r) (fun k s hk hs=>by
  have hin:∀ m:Int,eachL (z8F k m) 0 (q8k g (q6G r (k:Int))).1.Attributes s=some (s++((q8k g (q6G r (k:Int))).1.Attributes.filter fun a=>decide (a.Mode=m)).map fun a=>(⟨(k:Int),a.Name⟩:Occurrence)):=fun m=>
   z6N (B:=4398046511104) (fun j x s hs=>by
    unfold z8F
    by_cases hm:x.Mode=m
    ·rw [if_pos hm,if_pos (by simpa using hm),q3B (by constructor<;>omega)]; rfl
    ·rw [if_neg hm,if_neg (by simpa using hm)]; rfl) _ 0 s (by have:=z5g h (q6G r (k:Int)); omega)
  unfold z8G reqK
  by_cases h0:(k:Int)=0
  ·rw [if_pos h0,if_pos h0,Option.bind_some,j0k hl,Option.bind_some,z5f,Option.bind_some]
   dsimp only
   rw [hin]; rfl
  ·rw [if_neg h0,if_neg h0,Option.bind_some,j0k hl,Option.bind_some,z5f,Option.bind_some]
   dsimp only
   rw [hin]; rfl) (fun k _=>k1E h r k) (r.Right.length+1) 0 [] (by omega) (by simp)
 unfold z2z
 rw [q3B (by constructor<;>omega),key]; rfl
theorem k4x {g:Grammar}(h:GOk g){r:Rule}(hl:ROk r):q5F g r=some (reqL g r):=by
 have hl' : r.Right.length≤1048576:=hl
 have key:=j4S (h:=reqK g r) (C:=1048576) (n:=r.Right.length+1) (f:=q6f g r) (fun k s hk hs=>by
  have hin2:eachL (q8N (k:Int)) 0 (q8k g (q6G r (k:Int))).1.Attributes s=some (s++((q8k g (q6G r (k:Int))).1.Attributes.filter fun a=>decide (a.Mode=2)).map fun a=>(⟨(k:Int),a.Name⟩:Occurrence)):=
   z6N (B:=4398046511104) (fun j x s hs=>by
    unfold q8N
    by_cases hm:x.Mode=2
    ·rw [if_pos hm,if_pos (by simpa using hm),q3B (by constructor<;>omega)]; rfl
    ·rw [if_neg hm,if_neg (by simpa using hm)]; rfl) _ 0 s (by have:=z5g h (q6G r (k:Int)); omega)
  have hin1:eachL (q8O (k:Int)) 0 (q8k g (q6G r (k:Int))).1.Attributes s=some (s++((q8k g (q6G r (k:Int))).1.Attributes.filter fun a=>decide (a.Mode=1)).map fun a=>(⟨(k:Int),a.Name⟩:Occurrence)):=
   z6N (B:=4398046511104) (fun j x s hs=>by
    unfold q8O
    by_cases hm:x.Mode=1
    ·rw [if_pos hm,if_pos (by simpa using hm),q3B (by constructor<;>omega)]; rfl
    ·rw [if_neg hm,if_neg (by simpa using hm)]; rfl) _ 0 s (by have:=z5g h (q6G r (k:Int)); omega)
  unfold q6f reqK
  dsimp only
  rw [if_pos (by omega),z7B hl,Option.bind_some,z6O h,Option.bind_some]
  skip
  by_cases h0:(k:Int)=0
  ·rw [if_pos h0,if_pos h0,hin2,Option.bind_some,Option.bind_some,q3B (by constructor<;>omega)]; rfl
  ·rw [if_neg h0,if_neg h0,hin1,Option.bind_some,Option.bind_some,q3B (by constructor<;>omega)]; rfl) (fun s=>by
  unfold q6f; dsimp only; rw [if_neg (by omega)]) (fun k _=>k1E h r k) (r.Right.length+1) 0 [] (by omega) (by simp)
 unfold q5F
 have e:q4i (q6f g r) (([]:List Occurrence),0)=some ([]++(List.range' 0 (r.Right.length+1)).flatMap (reqK g r)):=key
 rw [e]; rfl
end Go.Proofs.YtcegfmageiicaaaGreat
namespace Go.Proofs.YtcegfmageiicaaaGreat
open Go Go.E
theorem z7T (e:Expr):1≤fuE e:=by rw [z3Q]; omega
theorem z7U {e x:Expr}(hx:x∈e.Args):fuE x+1≤fuE e:=by
 have:=z5M hx
 have:=z3Q e
 omega
theorem z2h {P:Expr→Prop}(h:∀ e,(∀ x∈e.Args,P x)→P e)(e:Expr):P e:=by
 have:∀ n e,fuE e≤n→P e:=by
  intro n
  induction n with
  | zero=>intro e he; have:=z7T e; omega
  | succ n ih=>intro e he; exact h e fun x hx=>ih x (by have:=z7U hx; omega)
 exact this _ e (Nat.le_refl _)
theorem q4B {α ρ:Type}{c:ρ}{q:α→Bool}:∀ {xs:List α} {i:Nat} {f:Nat→α→Unit→Option (Unit ⊕ ρ)},(∀ k x,x∈xs→f k x ()=some (if q x=true then .inl () else .inr c))→findL f i xs ()=some (if xs.all q=true then .inl () else .inr c)
 | [],i,f,h=>rfl
 | x :: xs,i,f,h=>by
  rw [findL,h i x (by simp)]
  by_cases hx:q x=true
  ·rw [if_pos hx,Option.bind_some]
   show findL f (i+1) xs ()=_
   rw [q4B fun k y hy=>h k y (by simp [hy])]
   simp [hx]
  ·rw [if_neg hx]; simp [hx]
theorem j4U {α:Type}{q:α→Bool}:∀ {xs:List α} {i:Nat} {f:Nat→α→Unit→Option (Unit ⊕ Int)},(∀ k x,x∈xs→f k x ()=some (if q x=true then .inr (k:Int) else .inl ()))→findL f i xs ()=some (if xs.any q=true then .inr ((i+xs.findIdx q:Nat):Int) else .inl ())
 | [],i,f,h=>rfl
 | x :: xs,i,f,h=>by
  rw [findL,h i x (by simp)]
  by_cases hx:q x=true
  ·rw [if_pos hx]; simp [hx,List.findIdx_cons]
  ·rw [if_neg hx,Option.bind_some]
   show findL f (i+1) xs ()=_
   rw [j4U fun k y hy=>h k y (by simp [hy])]
   have hx' : q x=false:=by simpa using hx
   simp only [List.any_cons,hx',Bool.false_or,List.findIdx_cons,cond_false]
   rw [show i+1+xs.findIdx q=i+(xs.findIdx q+1) by omega]
mutual
def allE (p:Expr→Bool):Expr→Bool
 | ⟨a0,a1,a2,a3,a4,a5,a6⟩=>p ⟨a0,a1,a2,a3,a4,a5,a6⟩&&k6y p a6
def k6y (p:Expr→Bool):List Expr→Bool
 | []=>true
 | x :: xs=>allE p x&&k6y p xs
end
mutual
def cntE:Expr→Nat
 | ⟨_,_,_,_,_,_,a6⟩=>z7C a6+1
def z7C:List Expr→Nat
 | []=>0
 | x :: xs=>cntE x+z7C xs
end
mutual
def depE:Expr→Nat
 | ⟨_,_,_,_,_,_,a6⟩=>j5M a6+1
def j5M:List Expr→Nat
 | []=>0
 | x :: xs=>max (depE x) (j5M xs)
end
theorem k1F (p:Expr→Bool):∀ l,k6y p l=l.all (allE p)
 | []=>rfl
 | x :: xs=>by rw [k6y,k1F p xs]; rfl
theorem j1T (p:Expr→Bool)(e:Expr):allE p e=(p e&&e.Args.all (allE p)):=by
 cases e; rw [allE,k1F]
theorem j1U (e:Expr):cntE e=z7C e.Args+1:=by cases e; rfl
theorem k4y (e:Expr):depE e=j5M e.Args+1:=by cases e; rfl
mutual
theorem k1G:∀ e:Expr,cntE e≤1+z3n e
 | ⟨a0,a1,a2,a3,a4,a5,a6⟩=>by
  have:=j9c a6
  simp only [cntE,z3n]; omega
theorem j9c:∀ l:List Expr,z7C l≤z5K l
 | []=>by simp [z7C]
 | x :: xs=>by
  have h1:=k1G x
  have h2:=j9c xs
  simp only [z7C,z5K]; omega
end
theorem k7X {e:Expr}(h:Sz.szd e≤1048576):cntE e≤1048577:=by
 have h1:=k1G e
 have h2:z3n e=Sz.szd e:=rfl
 omega
mutual
theorem k4z:∀ e:Expr,depE e≤cntE e
 | ⟨_,_,_,_,_,_,a6⟩=>by
  have:=k1H a6
  simp only [depE,cntE]; omega
theorem k1H:∀ l:List Expr,j5M l≤z7C l
 | []=>Nat.le_refl _
 | x :: xs=>by
  have h1:=k4z x
  have h2:=k1H xs
  simp only [j5M,z7C]; omega
end
theorem j9d:∀ {l:List Expr} {x:Expr},x∈l→cntE x≤z7C l
 | y :: l,x,h=>by
  simp only [z7C]
  rcases List.mem_cons.1 h with e | h
  ·subst e; omega
  ·have:=j9d h; omega
theorem k4A {e x:Expr}(hx:x∈e.Args):cntE x+1≤cntE e:=by
 have:=j9d hx
 have:=j1U e
 omega
theorem k3b (e:Expr):∀ m,fuE e≤m→cntE e≤1099511627776→z1d m e=some (cntE e:Int):=by
 induction e using z2h with
 | h e ih=>
  intro m hm hc
  obtain⟨m,rfl⟩:∃ q,m=q+1:=⟨m - 1,by have:=z7T e; omega⟩
  show z3r (z1d m) e=_
  unfold z3r
  have key:∀ (l:List Expr) (i s:Nat),(∀ x∈l,x∈e.Args)→s+z7C l≤1099511627776→eachL (z3X (z1d m)) i l (s:Int)=some ((s+z7C l:Nat):Int):=by
   intro l
   induction l with
   | nil=>intro i s _ _; rfl
   | cons x l ihl=>
    intro i s hx hs
    have hxm:=hx x (by simp)
    simp only [z7C] at hs
    have h1:=ih x hxm m (by have:=z7U hxm; omega) (by omega)
    rw [eachL]
    unfold z3X
    rw [h1,Option.bind_some,q3B (by constructor<;>omega),Option.bind_some]
    have:=ihl (i+1) (s+cntE x) (fun y hy=>hx y (by simp [hy])) (by omega)
    rw [Int.natCast_add] at this
    unfold z3X at this
    rw [this,z7C]
    congr 1; omega
  rw [j1U] at hc
  have:=key e.Args 0 1 (fun _ h=>h) (by omega)
  rw [show ((1:Nat):Int)=1 from rfl] at this
  rw [this,Option.bind_some,j1U,Nat.add_comm]
theorem k4B {e:Expr}(h:cntE e≤1099511627776):z8y e=some (cntE e:Int):=q9p (fuE e) fun m hm=>k3b e m hm h
theorem k9X (a b:Nat):(if (b:Int) > (a:Int) then (b:Int) else (a:Int))=((max a b:Nat):Int):=by
 split<;>omega
theorem j4V {f:Expr→Option Int}{g:Nat→Expr→Int→Option Int}(hg:∀ k x s,g k x s=(f x).bind fun y=>some (if y > s then y else s)):∀ (l:List Expr) (i s:Nat),(∀ x∈l,f x=some (depE x:Int))→eachL g i l (s:Int)=some ((max s (j5M l):Nat):Int)
 | [],i,s,_=>by rw [eachL,j5M,Nat.max_zero]
 | x :: l,i,s,h=>by
  rw [eachL,hg,h x (by simp),Option.bind_some,Option.bind_some,k9X,j4V hg l (i+1) _ fun y hy=>h y (by simp [hy]),j5M,Nat.max_assoc]
theorem k4C (a b:Int):z0J a b=some (if b > a then b else a):=by
 unfold z0J
 by_cases h:b < a
 ·rw [if_pos h,if_neg (by omega)]
 ·rw [if_neg h]
  split
  ·rfl
  ·congr 1; omega
theorem j6i (e:Expr):∀ m,fuE e≤m→cntE e≤1099511627776→q7p m e=some (depE e:Int)∧q7o m e=some (depE e:Int):=by
 induction e using z2h with
 | h e ih=>
  intro m hm hc
  obtain⟨m,rfl⟩:∃ q,m=q+1:=⟨m - 1,by have:=z7T e; omega⟩
  show z0E (q7p m) e=_∧z0z (q7o m) e=_
  unfold z0E z0z
  have hx:∀ x∈e.Args,q7p m x=some (depE x:Int)∧q7o m x=some (depE x:Int):=fun x hx=>ih x hx m (by have:=z7U hx; omega) (by have:=k4A hx; omega)
  have k1:=j4V (f:=q7p m) (g:=z8z (q7p m)) (fun k x s=>rfl) e.Args 0 0 fun x h=>(hx x h).1
  have k2:=j4V (f:=q7o m) (g:=z4E (q7o m)) (fun k x s=>by
   unfold z4E
   congr 1; funext y
   rw [k4C,Option.bind_some]) e.Args 0 0 fun x h=>(hx x h).2
  rw [show ((0:Nat):Int)=0 from rfl] at k1 k2
  have hd:=k4z e
  rw [k4y] at hd
  rw [k1,k2]
  have hg:I64 (((max 0 (j5M e.Args):Nat):Int)+1):=by constructor<;>omega
  have he:((max 0 (j5M e.Args):Nat):Int)+1=(depE e:Int):=by rw [k4y]; omega
  refine⟨?_,?_⟩
  ·rw [Option.bind_some,q3B hg,he]
  ·rw [Option.bind_some,q3B hg,he]
theorem k4D {e:Expr}(h:cntE e≤1099511627776):z5T e=some (depE e:Int):=q9p (fuE e) fun m hm=>(j6i e m hm h).1
theorem k4E {e:Expr}(h:cntE e≤1099511627776):z5Q e=some (depE e:Int):=q9p (fuE e) fun m hm=>(j6i e m hm h).2
def j2Z (a:Int)(n:Nat):Int:=if (n:Int)≤a then a - n else -1
theorem k4F (e:Expr):∀ m,fuE e≤m→∀ a:Int,0≤a→a≤1048576→cntE e≤1099511627776→z4D m e a=some (j2Z a (cntE e)):=by
 induction e using z2h with
 | h e ih=>
  intro m hm a h0 h1 hc
  obtain⟨m,rfl⟩:∃ q,m=q+1:=⟨m - 1,by have:=z7T e; omega⟩
  show z8m (z4D m) e a=_
  unfold z8m
  rw [q3B (by constructor<;>omega)]
  have hlen:e.Args.length≤cntE e:=by
   rw [j1U]
   have:∀ l:List Expr,l.length≤z7C l:=by
    intro l
    induction l with
    | nil=>simp
    | cons x l ih=>
     have:=j1U x
     simp only [z7C,List.length_cons]; omega
   have:=this e.Args; omega
  have key:∀ (n k:Nat) (s:Int),k+n=e.Args.length→-1≤s→s≤1048576→q4i (z4l (z4D m) e) (s,(k:Int))=some (if 0≤s then j2Z s (z7C (e.Args.drop k)) else s):=by
   intro n
   induction n with
   | zero=>
    intro k s hk _ _
    have hdrop:e.Args.drop k=[]:=List.drop_eq_nil_of_le (by omega)
    refine q3E ?_
    unfold z4l
    dsimp only
    rw [if_neg (by omega),hdrop]
    congr 2
    split
    ·unfold j2Z; simp [z7C]; omega
    ·rfl
   | succ n ihn=>
    intro k s hk hs1 hs2
    have hkl:k < e.Args.length:=by omega
    by_cases hs:0≤s
    ·have hxm:e.Args[k]∈e.Args:=List.getElem_mem hkl
     have hr:=ih _ hxm m (by have:=z7U hxm; omega) s hs hs2 (by have:=k4A hxm; omega)
     have hstep:z4l (z4D m) e (s,(k:Int))=some (.inl (j2Z s (cntE e.Args[k]),((k+1:Nat):Int))):=by
      unfold z4l
      dsimp only
      rw [if_pos (by omega),if_pos hs,q3B (by omega),Int.toNat_natCast,List.getElem?_eq_getElem hkl,Option.bind_some,hr,Option.bind_some,q3B (by constructor<;>omega)]
      rfl
     have hb1:-1≤j2Z s (cntE e.Args[k]):=by unfold j2Z; split<;>omega
     have hb2:j2Z s (cntE e.Args[k])≤1048576:=by unfold j2Z; split<;>omega
     rw [q3L hstep,ihn (k+1) _ (by omega) hb1 hb2,if_pos hs]
     have hd:e.Args.drop k=e.Args[k] :: e.Args.drop (k+1):=List.drop_eq_getElem_cons hkl
     rw [hd,z7C]
     congr 1
     unfold j2Z
     split<;>split<;>(try split)<;>omega
    ·refine q3E ?_
     unfold z4l
     dsimp only
     rw [if_pos (by omega),if_neg hs,if_neg hs]
  have:=key e.Args.length 0 (a - 1) (by omega) (by omega) (by omega)
  rw [show ((0:Nat):Int)=0 from rfl] at this
  rw [this,Option.bind_some,List.drop_zero,j1U]
  congr 1
  unfold j2Z
  split<;>(try split)<;>(try split)<;>omega
theorem k6z {e:Expr}{a:Int}(h0:0≤a)(h1:a≤1048576)(h:cntE e≤1099511627776):j4e e a=some (j2Z a (cntE e)):=q9p (fuE e) fun m hm=>k4F e m hm a h0 h1 h
end Go.Proofs.YtcegfmageiicaaaGreat
namespace Go.Proofs.YtcegfmageiicaaaGreat
open Go Go.E
theorem k3c (x lo hi:Int):q3Z x lo hi=some (decide (lo≤x∧x≤hi)):=by
 unfold q3Z; by_cases h:lo≤x<;>simp [h]
theorem j7v (x lo hi:Int):q5B x lo hi=some (decide (lo≤x∧x≤hi)):=by
 unfold q5B; by_cases h:lo≤x<;>simp [h]
def lowB (c:UInt8):Bool:=decide (97≤(c.toNat:Int)∧(c.toNat:Int)≤122)
def digB (c:UInt8):Bool:=decide (48≤(c.toNat:Int)∧(c.toNat:Int)≤57)
theorem j1V (c:UInt8):z4q c=some (lowB c):=by
 unfold z4q lowB; by_cases h:97≤(c.toNat:Int)<;>simp [h]
theorem k3d (c:UInt8):z6r c=some (digB c):=by
 unfold z6r digB; by_cases h:48≤(c.toNat:Int)<;>simp [h]
def allN (q:Nat→Bool):Nat→Nat→Bool
 | _,0=>true
 | i,n+1=>q i&&allN q (i+1) n
theorem j6j {q r:Nat→Bool}:∀ {n i:Nat},(∀ k,i≤k→q k=r k)→allN q i n=allN r i n
 | 0,_,_=>rfl
 | n+1,i,h=>by rw [allN,allN,h i (Nat.le_refl _),j6j fun k hk=>h k (by omega)]
theorem j1W {ρ:Type}{c:ρ}{q:Nat→Bool}:∀ {n i:Nat} {f:Nat→Unit→Option (Unit ⊕ ρ)},(∀ k,k < n→f (i+k) ()=some (if q (i+k)=true then .inl () else .inr c))→findN f i n ()=some (if allN q i n=true then .inl () else .inr c)
 | 0,i,f,h=>rfl
 | n+1,i,f,h=>by
  have h0:=h 0 (by omega)
  rw [Nat.add_zero] at h0
  rw [findN,h0]
  by_cases hx:q i=true
  ·rw [if_pos hx,Option.bind_some]
   show findN f (i+1) n ()=_
   rw [j1W fun k hk=>by have:=h (k+1) (by omega); rwa [show i+(k+1)=i+1+k by omega] at this]
   simp [allN,hx]
  ·rw [if_neg hx]; simp [allN,hx]
def chr (s:ByteArray)(k:Nat):UInt8:=s.data.getD k 0
theorem j7w {s:ByteArray}{k:Nat}(h:k < s.size):s.data[k]? = some (chr s k):=by
 have h' : k < s.data.size:=h
 unfold chr
 rw [Array.getD_eq_getD_getElem?,Array.getElem?_eq_getElem h']; rfl
def j1j:List ByteArray:=[⟨#[105,102]⟩,⟨#[116,104,101,110]⟩,⟨#[101,108,115,101]⟩,⟨#[116,114,117,101]⟩,⟨#[102,97,108,115,101]⟩,⟨#[108,105,116]⟩,⟨#[110,111,110,101]⟩,⟨#[115,101,108,102]⟩,⟨#[111,102]⟩,⟨#[109,97,120]⟩,⟨#[109,105,110]⟩,⟨#[119,105,116,104]⟩,⟨#[104,97,115]⟩]
def memB (s:ByteArray)(l:List ByteArray):Bool:=l.any fun x=>decide (x=s)
theorem k6A {s:ByteArray}{l:List ByteArray}:memB s l=true↔s∈l:=by
 unfold memB; rw [List.any_eq_true]
 exact⟨fun ⟨x,h1,h2⟩=>by simp at h2; exact h2▸h1,fun h=>⟨s,h,by simp⟩⟩
theorem k6B {s:ByteArray}{l:List ByteArray}(h:s ∉ l):memB s l=false:=by
 cases hb:memB s l with
 | false=>rfl
 | true=>exact absurd (k6A.1 hb) h
def resB (s:ByteArray):Bool:=memB s j1j
theorem k6C (l:List ByteArray)(s:ByteArray):z2V l s=some (memB s l):=by
 unfold z2V
 have:∀ (l:List ByteArray) (i:Nat),findL (j0E s) i l ()=some (if memB s l=true then .inr true else .inl ()):=by
  intro l
  induction l with
  | nil=>intro i; rfl
  | cons x l ih=>
   intro i
   rw [findL]
   unfold j0E at ih ⊢
   have hc:memB s (x :: l)=(decide (x=s)||memB s l):=rfl
   by_cases h:x=s
   ·rw [if_pos h,hc]; simp [h]
   ·rw [if_neg h,Option.bind_some]
    show findL _ (i+1) l ()=_
    rw [ih,hc]; simp [h]
 rw [this,Option.bind_some]
 cases memB s l<;>rfl
theorem k8N (s:ByteArray):z1t s=some (resB s):=by
 unfold z1t z3V
 rw [Option.bind_some,k6C]; rfl
theorem k8O (s:ByteArray):z1I s=some (resB s):=by
 by_cases h:s∈j1j
 ·unfold j1j at h
  simp only [List.mem_cons,List.not_mem_nil,or_false] at h
  rcases h with h | h | h | h | h | h | h | h | h | h | h | h | h<;>subst h<;>rfl
 ·unfold resB
  rw [k6B h]
  unfold j1j at h
  simp only [List.mem_cons,List.not_mem_nil,or_false,not_or] at h
  obtain⟨h1,h2,h3,h4,h5,h6,h7,h8,h9,h10,h11,h12,h13⟩:=h
  unfold z1I
  rw [if_neg h1,if_neg h2,if_neg h3,if_neg h4,if_neg h5,if_neg h6,if_neg h7,if_neg h8,if_neg h9,if_neg h10,if_neg h11,if_neg h12]
  simp [h13]
def q8V (s:ByteArray):Bool:=decide (0 < s.size∧s.size≤8)&&(lowB (chr s 0)&&allN (fun k=>lowB (chr s k)||digB (chr s k)) 1 (s.size - 1) && !resB s)
theorem z4h (s:ByteArray):q4C s=some (q8V s):=by
 unfold q4C
 rw [j1W (c:=false) (q:=fun k=>lowB (chr s k)||digB (chr s k)) fun k hk=>by
  rw [Nat.zero_add]
  unfold z8x
  rw [j7w hk,Option.bind_some,j1V,Option.bind_some]
  cases lowB (chr s k) with
  | true=>rfl
  | false=>
   rw [if_neg (by simp),k3d,Option.bind_some]
   cases digB (chr s k)<;>rfl]
 rw [Option.bind_some]
 by_cases h0:0 < s.size
 ·obtain⟨n,hn⟩:∃ n,s.size=n+1:=⟨s.size - 1,by omega⟩
  unfold q8V
  rw [hn,allN,Nat.add_sub_cancel]
  cases ha:allN (fun k=>lowB (chr s k)||digB (chr s k)) (0+1) n with
  | false=>
   rw [Bool.and_false,if_neg (by simp)]
   rw [Nat.zero_add] at ha
   simp [onr,ha]
  | true=>
   rw [Nat.zero_add] at ha
   try rw [ha]
   simp only [Bool.and_true]
   have hc:=j7w h0
   cases hl:lowB (chr s 0) with
   | false=>
    cases hd:digB (chr s 0) with
    | false=>simp [onr]
    | true=>
     rw [if_pos (by simp)]
     show (q3Z _ 1 8).bind _=_
     rw [k3c,Option.bind_some]
     split
     ·rw [hc,Option.bind_some,j1V,hl]; simp
     ·simp
   | true=>
    rw [if_pos (by simp)]
    show (q3Z _ 1 8).bind _=_
    rw [k3c,Option.bind_some]
    by_cases h8:n+1≤8
    ·rw [if_pos (by simp; omega),hc,Option.bind_some,j1V,hl]
     simp [k8O,h8]
    ·rw [if_neg (by simp; omega)]; simp [h8]
 ·have hs:s.size=0:=by omega
  unfold q8V
  rw [hs,allN,if_pos rfl,z2p,k3c,Option.bind_some]
  simp
theorem z2i (s:ByteArray):q4R s=some (q8V s):=by
 unfold q4R z9k
 rw [j1W (c:=false) (q:=fun k=>lowB (chr s k)||(decide (k≠0)&&digB (chr s k))) fun k hk=>by
  rw [Nat.zero_add]
  unfold j4c
  rw [j7w hk,Option.bind_some]
  have e1:(if 97≤((chr s k).toNat:Int) then some (decide (((chr s k).toNat:Int)≤122)) else some false)=some (lowB (chr s k)):=by
   unfold lowB; by_cases h:97≤((chr s k).toNat:Int)<;>simp [h]
  have e2:(if 48≤((chr s k).toNat:Int) then some (decide (((chr s k).toNat:Int)≤57)) else some false)=some (digB (chr s k)):=by
   unfold digB; by_cases h:48≤((chr s k).toNat:Int)<;>simp [h]
  rw [e1,e2,Option.bind_some,Option.bind_some]
  cases lowB (chr s k) with
  | true=>rfl
  | false=>
   by_cases hk0:k=0
   ·subst hk0; simp
   ·have:¬ ((k:Int)=0):=by omega
    rw [if_neg (by simp),if_neg this]
    cases digB (chr s k)<;>simp [hk0]]
 rw [Option.bind_some]
 by_cases h0:0 < s.size
 ·obtain⟨n,hn⟩:∃ n,s.size=n+1:=⟨s.size - 1,by omega⟩
  unfold q8V
  rw [hn,allN,Nat.add_sub_cancel,Nat.zero_add,j6j (n:=n) (i:=1) (q:=fun k=>lowB (chr s k)||(decide (k≠0)&&digB (chr s k))) (r:=fun k=>lowB (chr s k)||digB (chr s k)) fun k hk=>by simp [show k≠0 by omega]]
  have e0:(lowB (chr s 0)||(decide ((0:Nat)≠0)&&digB (chr s 0)))=lowB (chr s 0):=by simp
  rw [e0]
  cases hA:(lowB (chr s 0)&&allN (fun k=>lowB (chr s k)||digB (chr s k)) 1 n) with
  | false=>simp [onr]
  | true=>
   rw [if_pos rfl]
   simp only [onr,Option.bind_some]
   by_cases h8:n+1≤8
   ·simp [k8N,h8]; omega
   ·simp [h8]; omega
 ·have hs:s.size=0:=by omega
  unfold q8V
  rw [hs]
  simp [onr,allN]
end Go.Proofs.YtcegfmageiicaaaGreat
namespace Go.Proofs.YtcegfmageiicaaaGreat
open Go Go.E
def satI (v:Int):Int:=if (-1000000:Int) > (if (1000000:Int) < v then (1000000:Int) else v) then (-1000000:Int) else (if (1000000:Int) < v then (1000000:Int) else v)
def truI (b:Bool):Int:=if b=true then 1 else 0
def k4G (v k:Int):Int:=if k=1 then satI v else if k=2 then k2l v 4095 else if k=3 then truI (!decide (v=0)) else if k=4 then (if 0≤v∧v≤999 then v else 0) else 0
theorem k8P (v:Int):z7j v=some (satI v):=rfl
theorem k8Q (a b:Int):j0G a b=some (if b < a then b else a):=by
 unfold j0G
 by_cases h:a < b
 ·rw [if_pos h,if_neg (by omega)]
 ·rw [if_neg h]
  split
  ·rfl
  ·congr 1; omega
theorem k8R (v:Int):z4F v=some (satI v):=by
 unfold z4F
 rw [k8Q,Option.bind_some,k4C,Option.bind_some]
 congr 1
 unfold satI
 split<;>split<;>(try split)<;>(try split)<;>omega
theorem k8S (b:Bool):j4t b=some (truI b):=by unfold j4t truI; cases b<;>rfl
theorem k6D (b:Bool):z6j b=some (truI b):=by unfold z6j truI; cases b<;>rfl
theorem k6E (v k:Int):z8A v k=some (k4G v k):=by
 unfold z8A k4G
 rw [k8P,k8S,k3c]
 by_cases h1:k=1
 ·rw [if_pos h1,if_pos h1]; rfl
 by_cases h2:k=2
 ·rw [if_neg h1,if_neg h1,if_pos h2,if_pos h2]
 by_cases h3:k=3
 ·rw [if_neg h1,if_neg h1,if_neg h2,if_neg h2,if_pos h3,if_pos h3]; rfl
 by_cases h4:k=4
 ·rw [if_neg h1,if_neg h1,if_neg h2,if_neg h2,if_neg h3,if_neg h3,if_pos h4,if_pos h4,Option.bind_some]
  by_cases h:0≤v∧v≤999<;>simp [h]
 ·rw [if_neg h1,if_neg h1,if_neg h2,if_neg h2,if_neg h3,if_neg h3,if_neg h4,if_neg h4]
theorem k6F (v k:Int):z8p v k=some (k4G v k):=by
 unfold z8p k4G
 rw [k8R,k6D,j7v]
 by_cases h1:k=1
 ·rw [if_pos h1,if_pos h1]; rfl
 by_cases h2:k=2
 ·rw [if_neg h1,if_neg h1,if_pos h2,if_pos h2]
 by_cases h3:k=3
 ·rw [if_neg h1,if_neg h1,if_neg h2,if_neg h2,if_pos h3,if_pos h3]; rfl
 by_cases h4:k=4
 ·rw [if_neg h1,if_neg h1,if_neg h2,if_neg h2,if_neg h3,if_neg h3,if_pos h4,if_pos h4,Option.bind_some]
  by_cases h:0≤v∧v≤999<;>simp [h]
 ·rw [if_neg h1,if_neg h1,if_neg h2,if_neg h2,if_neg h3,if_neg h3,if_neg h4,if_neg h4]
def j7x (v k:Int):Bool:=decide (1≤k∧k≤4)&&decide (k4G v k=v)
theorem k6G (v k:Int):z4N v k=some (j7x v k):=by
 unfold z4N z6s j7x
 rw [k3c,Option.bind_some,Option.bind_some,k6E,Option.bind_some]
 by_cases h:1≤k∧k≤4<;>simp [h]
theorem k6H (v k:Int):z4G v k=some (j7x v k):=by
 unfold z4G j7x
 rw [j7v,Option.bind_some,k6F,Option.bind_some]
 by_cases h:1≤k∧k≤4<;>simp [h]
def opT (n:Int):Int × Int × Int:=
 if 1≤n∧n≤5 then (1,1,1) else if 6≤n∧n≤8 then (2,2,2) else if n=9∨n=10 then (1,1,3) else if n=11 then (2,1,3) else if n=12 then (2,1,2) else (0,0,0)
theorem k9Y {n a b c d e:Int}:(if n=a then some (decide (n=a)) else if n=b then some (decide (n=b)) else if n=c then some (decide (n=c)) else if n=d then some (decide (n=d)) else some (decide (n=e)))=some (decide (n=a∨n=b∨n=c∨n=d∨n=e)):=by
 by_cases h1:n=a
 ·simp [h1]
 by_cases h2:n=b
 ·simp [h1,h2]
 by_cases h3:n=c
 ·rw [if_neg h1,if_neg h2,if_pos h3]; simp [h3]
 by_cases h4:n=d
 ·rw [if_neg h1,if_neg h2,if_neg h3,if_pos h4]; simp [h4]
 ·simp [h1,h2,h3,h4]
theorem k9Z {n a b c:Int}:(if n=a then some (decide (n=a)) else if n=b then some (decide (n=b)) else some (decide (n=c)))=some (decide (n=a∨n=b∨n=c)):=by
 by_cases h1:n=a
 ·simp [h1]
 by_cases h2:n=b
 ·simp [h1,h2]
 ·simp [h1,h2]
theorem k8T (n:Int):q9S n=some (opT n):=by
 unfold q9S opT
 rw [k9Y,k9Z]
 simp only [Option.bind_some]
 by_cases h1:1≤n∧n≤5
 ·rw [if_pos (by simp; omega),if_pos h1]
 rw [if_neg (by simp; omega),if_neg h1]
 by_cases h2:6≤n∧n≤8
 ·rw [if_pos (by simp; omega),if_pos h2]
 rw [if_neg (by simp; omega),if_neg h2]
 by_cases h3:n=9
 ·simp [h3]
 by_cases h3' : n=10
 ·simp [h3']
 by_cases h4:n=11
 ·simp [h4]
 by_cases h5:n=12
 ·simp [h5]
 simp [h3,h3',h4,h5]
theorem k8U (n:Int):q9O n=some (opT n):=by
 unfold q9O opT
 rw [j7v,j7v]
 simp only [Option.bind_some]
 by_cases h1:1≤n∧n≤5
 ·rw [if_pos (by simpa using h1),if_pos h1]
 rw [if_neg (by simpa using h1),if_neg h1]
 by_cases h2:6≤n∧n≤8
 ·rw [if_pos (by simpa using h2),if_pos h2]
 rw [if_neg (by simpa using h2),if_neg h2]
 by_cases h3:n=9
 ·rw [if_pos h3,if_pos (.inl h3)]
 rw [if_neg h3]
 by_cases h3' : n=10
 ·rw [if_pos h3',if_pos (.inr h3')]
 have h33:¬(n=9∨n=10):=by omega
 rw [if_neg h3',if_neg h33]
 by_cases h4:n=11
 ·rw [if_pos h4,if_pos h4]
 rw [if_neg h4,if_neg h4]
 by_cases h5:n=12
 ·rw [if_pos h5,if_pos h5]
 rw [if_neg h5,if_neg h5]
end Go.Proofs.YtcegfmageiicaaaGreat
namespace Go.Proofs.YtcegfmageiicaaaGreat
open Go Go.E
theorem k8V (a b:Expr):q6X a b=some (decide (a.Kind=b.Kind)&&(decide (a.N=b.N)&&(decide (a.Pos=b.Pos)&&(decide (a.Type_=b.Type_)&&(decide (a.Symbol=b.Symbol)&&decide (a.Name=b.Name)))))):=by
 unfold q6X
 by_cases h1:a.Kind=b.Kind
 ·rw [if_pos h1,Option.bind_some]
  by_cases h2:a.N=b.N
  ·by_cases h3:a.Pos=b.Pos
   ·by_cases h4:a.Type_=b.Type_
    ·by_cases h5:a.Symbol=b.Symbol
     ·simp [h1,h2,h3,h4,h5]
     ·simp [h1,h2,h3,h4,h5]
    ·simp [h1,h2,h3,h4]
   ·simp [h1,h2,h3]
  ·simp [h1,h2]
 ·simp [h1]
def k4H (k:Int):Int:=if k=4 then 2 else if k=5 then 3 else if k=8 then 1 else 0
def k4I (e:Expr):Bool:=decide ((e.Args.length:Int)=k4H e.Kind)&&((decide (e.Kind=3∨e.Kind=6)||decide (e.Pos=0))&&((decide (e.Kind=3∨e.Kind=8)||decide (e.Name=⟨#[]⟩))&&((decide (e.Kind=1∨e.Kind=4)||decide (e.N=0))&&((decide (e.Kind=1)||decide (e.Type_=0))&&(decide (e.Kind=8)||decide (e.Symbol=⟨#[]⟩))))))
theorem k8W (e:Expr):z8o e=some (k4I e):=by
 unfold z8o
 have h0:(if e.Kind=4 then some 2 else if e.Kind=5 then some 3 else if e.Kind=8 then some 1 else some (0:Int))=some (k4H e.Kind):=by
  unfold k4H
  split
  ·rfl
  ·split
   ·rfl
   ·split<;>rfl
 have or2:∀ a b:Prop,[Decidable a]→[Decidable b]→(if a then some true else some (decide b))=some (decide (a∨b)):=fun a b _ _=>by
  by_cases h:a<;>simp [h]
 have or1:∀ (a:Prop) (b:Bool),[Decidable a]→(if a then some true else some b)=some (decide a||b):=fun a b _=>by
  by_cases h:a<;>simp [h]
 have orB:∀ a b:Bool,(if a=true then some true else some b)=some (a||b):=fun a b=>by cases a<;>rfl
 have andB:∀ a b:Bool,(if a=true then some b else some false)=some (a&&b):=fun a b=>by cases a<;>rfl
 rw [h0,Option.bind_some]
 unfold k4I
 by_cases hl:(e.Args.length:Int)=k4H e.Kind
 ·rw [if_pos hl]
  simp only [or2,or1,orB,andB,Option.bind_some]
  simp [hl,Bool.and_assoc]
 ·rw [if_neg hl]; simp [hl]
def k8X (e:Expr):Bool:=
 if e.Kind=1 then (decide (1≤e.Type_∧e.Type_≤3)&&j7x e.N e.Type_)&&decide (0≤e.N)
 else if e.Kind=3 then decide (0≤e.Pos∧e.Pos≤3)&&q8V e.Name
 else if e.Kind=6 then decide (0≤e.Pos∧e.Pos≤3)
 else if e.Kind=4 then decide (1≤e.N∧e.N≤12)
 else if e.Kind=8 then q8V e.Symbol&&q8V e.Name
 else true
def z8Y (e:Expr):Bool:=(decide (1≤e.Kind∧e.Kind≤8)&&k4I e)&&k8X e
theorem k6I (e:Expr):z8q e=some (z8Y e):=by
 unfold z8q z8Y
 rw [j7v,Option.bind_some,k8W,Option.bind_some]
 by_cases hk:1≤e.Kind∧e.Kind≤8
 ·rw [if_pos (by simpa using hk),Option.bind_some]
  cases k4I e with
  | false=>simp
  | true=>
   rw [if_neg (by simp)]
   unfold k8X
   by_cases k1:e.Kind=1
   ·rw [if_pos k1,if_pos k1,j7v,Option.bind_some,k6H,Option.bind_some]
    by_cases h:1≤e.Type_∧e.Type_≤3
    ·cases j7x e.N e.Type_<;>simp [h,hk]
    ·simp [h,hk]
   rw [if_neg k1,if_neg k1]
   by_cases k3:e.Kind=3
   ·rw [if_pos k3,if_pos k3,j7v,Option.bind_some,z2i]
    by_cases h:0≤e.Pos∧e.Pos≤3
    ·simp [h,hk]
    ·simp [h,hk]
   rw [if_neg k3,if_neg k3]
   by_cases k6:e.Kind=6
   ·rw [if_pos k6,if_pos k6,j7v]; simp [hk]
   rw [if_neg k6,if_neg k6]
   by_cases k4:e.Kind=4
   ·rw [if_pos k4,if_pos k4,j7v]; simp [hk]
   rw [if_neg k4,if_neg k4]
   by_cases k8:e.Kind=8
   ·rw [if_pos k8,if_pos k8,z2i,Option.bind_some,z2i]
    cases q8V e.Symbol<;>simp [hk]
   rw [if_neg k8,if_neg k8]; simp [hk]
 ·rw [if_neg (by simpa using hk)]; simp [hk]
theorem k6J (e:Expr):z1K e=some (z8Y e):=by
 unfold z1K z8Y k4I k8X k4H
 simp only [k8V,k3c,k6G,z4h,Option.bind_some]
 have hp3:e.Pos=0→(0≤e.Pos∧e.Pos≤3):=fun h=>by omega
 by_cases k1:e.Kind=1
 ·simp [k1]
  have ht:j7x e.N e.Type_=true→1≤e.Type_∧e.Type_≤4:=fun h=>by
   unfold j7x at h; simp at h; exact h.1
  cases hb:j7x e.N e.Type_ with
  | false=>by_cases h4:e.Type_=4<;>simp [h4]
  | true=>
   obtain⟨t1,t2⟩:=ht hb
   by_cases h4:e.Type_=4
   ·simp [h4]
   ·by_cases hn:e.N < 0
    ·have:¬ 0≤e.N:=by omega
     simp [h4,hn,this]
    ·have h0:0≤e.N:=by omega
     have h3:e.Type_≤3:=by omega
     by_cases a:e.Args=[]
     ·by_cases p:e.Pos=0
      ·simp [h4,hn,h0,h3,t1,a,p,Bool.and_comm]
      ·simp [h4,hn,h0,h3,t1,a,p]
     ·simp [h4,hn,h0,h3,t1,a]
 by_cases k3:e.Kind=3
 ·simp [k1,k3]
  cases q8V e.Name with
  | false=>simp
  | true=>
   by_cases a:e.Args=[]
   ·by_cases p:0≤e.Pos∧e.Pos≤3
    ·simp [a,p]
    ·have:(decide (0≤e.Pos)&&decide (e.Pos≤3))=false:=by simp; omega
     simp [a,this]
   ·simp [a]
 by_cases k4:e.Kind=4
 ·simp [k1,k3,k4]
  by_cases n:1≤e.N∧e.N≤12
  ·by_cases a:(e.Args.length:Int)=2
   ·by_cases p:e.Pos=0
    ·simp [n,a,p]; cases decide (e.Type_=0)<;>cases decide (e.Symbol=⟨#[]⟩)<;>cases decide (e.Name=⟨#[]⟩)<;>rfl
    ·simp [n,a,p]
   ·simp [n,a]
  ·have:(decide (1≤e.N)&&decide (e.N≤12))=false:=by simp; omega
   rw [if_neg n,this]; simp
 have close3:∀ c:Bool,((if c=true then some (decide (0≤e.Pos)&&decide (e.Pos≤3)) else some false).bind fun s9=>
   if s9=true then some (decide (e.N=0)&&(decide (e.Pos=0)&&(decide (e.Type_=0)&&(decide (e.Symbol=⟨#[]⟩)&&decide (e.Name=⟨#[]⟩))))) else some false) =
  some (c&&(decide (e.Pos=0)&&(decide (e.Name=⟨#[]⟩)&&(decide (e.N=0)&&(decide (e.Type_=0)&&decide (e.Symbol=⟨#[]⟩)))))):=fun c=>by
  cases c with
  | false=>simp
  | true=>
   by_cases p:e.Pos=0
   ·simp [p]; cases decide (e.N=0)<;>cases decide (e.Type_=0)<;>cases decide (e.Symbol=⟨#[]⟩)<;>cases decide (e.Name=⟨#[]⟩)<;>rfl
   ·simp [p]
 by_cases k5:e.Kind=5
 ·simp [k1,k3,k4,k5]
  simpa using close3 (decide ((e.Args.length:Int)=3))
 by_cases k6:e.Kind=6
 ·simp [k1,k3,k4,k5,k6]
  by_cases a:e.Args=[]
  ·by_cases p:0≤e.Pos∧e.Pos≤3
   ·simp [a,p]; cases decide (e.N=0)<;>cases decide (e.Type_=0)<;>cases decide (e.Symbol=⟨#[]⟩)<;>cases decide (e.Name=⟨#[]⟩)<;>rfl
   ·have:(decide (0≤e.Pos)&&decide (e.Pos≤3))=false:=by simp; omega
    simp [a,this]
  ·simp [a]
 by_cases k8:e.Kind=8
 ·simp [k1,k3,k4,k5,k6,k8]
  cases q8V e.Symbol with
  | false=>simp
  | true=>
   cases q8V e.Name with
   | false=>simp
   | true=>
    by_cases a:(e.Args.length:Int)=1
    ·by_cases p:e.Pos=0
     ·simp [a,p]
     ·simp [a,p]
    ·simp [a]
 by_cases k2:e.Kind=2
 ·simp [k1,k3,k4,k5,k6,k8,k2]
  simpa using close3 (decide (e.Args=[]))
 by_cases k7:e.Kind=7
 ·simp [k1,k3,k4,k5,k6,k8,k2,k7]
  simpa using close3 (decide (e.Args=[]))
 ·simp [k1,k3,k4,k5,k6,k8,k2,k7]
  intro h1 h2; omega
end Go.Proofs.YtcegfmageiicaaaGreat
namespace Go.Proofs.YtcegfmageiicaaaGreat
open Go Go.E
theorem k6K (e:Expr):∀ m,fuE e≤m→j0I m e=some (allE z8Y e):=by
 induction e using z2h with
 | h e ih=>
  intro m hm
  obtain⟨m,rfl⟩:∃ q,m=q+1:=⟨m - 1,by have:=z7T e; omega⟩
  show j0H (j0I m) e=_
  unfold j0H
  rw [q4B (c:=false) (q:=allE z8Y) fun k x hx=>by
   unfold j8D
   rw [ih x hx m (by have:=z7U hx; omega),Option.bind_some]
   cases allE z8Y x<;>rfl]
  rw [j1T,Option.bind_some]
  cases e.Args.all (allE z8Y) with
  | true=>rw [if_pos rfl,z2p,k6I,Bool.and_true]; rfl
  | false=>rw [if_neg (by simp),j1t,Bool.and_false]
theorem k8Y (e:Expr):j6V e=some (allE z8Y e):=q9p (fuE e) fun m hm=>k6K e m hm
theorem j4W {α:Type}(q:α→Bool)(l:List α):(!l.any fun x=>!q x)=l.all q:=by
 induction l with
 | nil=>rfl
 | cons x l ih=>simp [← ih]
theorem k6L (e:Expr):∀ m,fuE e≤m→q5X m e=some (allE z8Y e):=by
 induction e using z2h with
 | h e ih=>
  intro m hm
  obtain⟨m,rfl⟩:∃ q,m=q+1:=⟨m - 1,by have:=z7T e; omega⟩
  show q5W (q5X m) e=_
  unfold q5W q3Q q3V
  rw [k6J,Option.bind_some,j1T]
  cases z8Y e with
  | false=>rfl
  | true=>
   rw [if_pos rfl,j4U (q:=fun x=>!allE z8Y x) fun k x hx=>by
    unfold q5A q6r
    rw [ih x hx m (by have:=z7U hx; omega),Option.bind_some,Option.bind_some]
    cases allE z8Y x<;>rfl]
   rw [Bool.true_and,← j4W]
   cases e.Args.any fun x=>!allE z8Y x with
   | true=>
    have:(0:Int)≤((0+e.Args.findIdx fun x=>!allE z8Y x:Nat):Int):=Int.natCast_nonneg _
    rw [if_pos rfl,Option.bind_some,j1t,Option.bind_some,Option.bind_some,decide_eq_true this]
   | false=>rfl
theorem k8Z (e:Expr):q8u e=some (allE z8Y e):=q9p (fuE e) fun m hm=>k6L e m hm
def j4X (e:Expr):Bool:=decide (cntE e≤24)&&(decide (depE e≤6)&&allE z8Y e)
theorem k4J {e:Expr}(h:cntE e≤1099511627776):z0F e=some (j4X e):=by
 unfold z0F j4X
 rw [k4B h,Option.bind_some,k4D h,k8Z]
 by_cases h1:cntE e≤24
 ·rw [if_pos (by omega),Option.bind_some,Option.bind_some]
  by_cases h2:depE e≤6
  ·rw [if_pos (by simp; omega),Option.bind_some]; simp [h1,h2]
  ·rw [if_neg (by simp; omega)]; simp [h1,h2]
 ·rw [if_neg (by omega)]; simp [h1]
theorem k4K {e:Expr}(h:cntE e≤1099511627776):z0A e=some (j4X e):=by
 unfold z0A j4X
 rw [k6z (by omega) (by omega) h,Option.bind_some,k4E h,k8Y]
 unfold j2Z
 by_cases h1:cntE e≤24
 ·have h24:((cntE e:Nat):Int)≤24:=by omega
  rw [if_pos h24,if_pos (by omega:(0:Int)≤24 - ((cntE e:Nat):Int)),Option.bind_some,Option.bind_some]
  by_cases h2:depE e≤6
  ·rw [if_pos (by simp; omega),Option.bind_some]; simp [h1,h2]
  ·rw [if_neg (by simp; omega)]; simp [h1,h2]
 ·have h24:¬ ((cntE e:Nat):Int)≤24:=by omega
  rw [if_neg h24,if_neg (by omega:¬ (0:Int)≤-1)]; simp [h1]
end Go.Proofs.YtcegfmageiicaaaGreat
namespace Go.Proofs.YtcegfmageiicaaaGreat
open Go Go.E
theorem q4S {α:Type}{q:α→Bool}{xs:List α}{f:Nat→α→Unit→Option (Unit ⊕ Int)}(h:∀ k x,x∈xs→f k x ()=some (if q x=true then .inr (k:Int) else .inl ())) :
  ((findL f 0 xs ()).bind <| onr (fun r1=>some r1) fun _=>some (-1)).bind (fun y1=>some (decide (0≤y1)))=some (xs.any q):=by
 rw [j4U h]
 cases hq:xs.any q with
 | true=>
  have:(0:Int)≤((0+xs.findIdx q:Nat):Int):=Int.natCast_nonneg _
  rw [if_pos rfl,Option.bind_some,j1t,Option.bind_some,decide_eq_true this]
 | false=>rfl
def q4Q {α:Type}(bad:List α→α→Bool):List α→List α→Option Nat
 | _,[]=>none
 | pre,x :: xs=>if bad pre x=true then some pre.length else q4Q bad (pre++[x]) xs
theorem z6P {α β ρ:Type}{bad:List α→α→Bool}{nm:α→β}{c:Nat→ρ}{all:List α}{f:Nat→α→Unit→Option (Unit ⊕ ρ)}{h:Nat→α→List β→Option (List β ⊕ ρ)}
  (hf:∀ pre x post,all=pre++x :: post→f pre.length x ()=some (if bad pre x=true then .inr (c pre.length) else .inl ()))
  (hh:∀ pre x post,all=pre++x :: post→h pre.length x (pre.map nm)=some (if bad pre x=true then .inr (c pre.length) else .inl ((pre++[x]).map nm))) :
  ∀ (ys pre:List α),all=pre++ys→findL f pre.length ys ()=some (match q4Q bad pre ys with | none=>.inl () | some k=>.inr (c k)) ∧
   findL h pre.length ys (pre.map nm)=some (match q4Q bad pre ys with | none=>.inl (all.map nm) | some k=>.inr (c k))
 | [],pre,e=>by
  rw [List.append_nil] at e
  subst e; exact⟨rfl,rfl⟩
 | x :: ys,pre,e=>by
  have h1:=hf pre x ys e
  have h2:=hh pre x ys e
  by_cases hb:bad pre x=true
  ·rw [if_pos hb] at h1 h2
   simp only [findL,h1,h2,q4Q,hb,if_true,Option.bind_some]
   exact⟨trivial,trivial⟩
  ·rw [if_neg hb] at h1 h2
   have ih:=z6P hf hh ys (pre++[x]) (by rw [e]; simp)
   simp only [List.length_append,List.length_cons,List.length_nil,Nat.zero_add] at ih
   simp only [findL,h1,h2,q4Q,hb,Option.bind_some]
   exact ih
theorem k1I {α:Type}{a:α→Bool}{b:List α→α→Bool}:∀ (xs pre:List α),(q4Q (fun p x=>a x||b p x) pre xs).isNone=(xs.all (fun x=>!a x)&&(q4Q b pre xs).isNone)
 | [],pre=>rfl
 | x :: xs,pre=>by
  have ih:=k1I (a:=a) (b:=b) xs (pre++[x])
  simp only [q4Q,List.all_cons]
  by_cases ha:a x=true
  ·simp [ha]
  ·by_cases hb:b pre x=true
   ·simp [ha,hb]
   ·simpa [ha,hb] using ih
def dupB {α:Type}(nm:α→ByteArray)(pre:List α)(x:α):Bool:=pre.any fun o=>decide (nm o=nm x)
def k4L {α:Type}(nm:α→ByteArray)(xs:List α):Bool:=(q4Q (dupB nm) [] xs).isNone
theorem j9e {α:Type}{nm:α→ByteArray}:∀ (xs pre:List α),(q4Q (dupB id) (pre.map nm) (xs.map nm))=q4Q (dupB nm) pre xs
 | [],pre=>rfl
 | x :: xs,pre=>by
  have ih:=j9e (nm:=nm) xs (pre++[x])
  have e:dupB id (pre.map nm) (nm x)=dupB nm pre x:=by simp [dupB,List.any_map,Function.comp_def]
  rw [List.map_cons,q4Q,q4Q,e,List.length_map]
  rw [List.map_append] at ih
  rw [show [nm x]=[x].map nm from rfl,ih]
theorem z8Z {α ρ:Type}{bad:List α→α→Bool}{c:Nat→ρ}{all:List α}{f:Nat→α→Unit→Option (Unit ⊕ ρ)}
  (hf:∀ pre x post,all=pre++x :: post→f pre.length x ()=some (if bad pre x=true then .inr (c pre.length) else .inl ())) :
  ∀ (ys pre:List α),all=pre++ys→findL f pre.length ys ()=some (match q4Q bad pre ys with | none=>.inl () | some k=>.inr (c k)):=fun ys pre e=>
 (z6P (nm:=fun _=>()) (h:=fun k x s=>(f k x ()).map fun | .inl _=>.inl (s++[()]) | .inr r=>.inr r) hf (fun pre x post e=>by
  rw [hf pre x post e]
  by_cases hb:bad pre x=true
  ·rw [if_pos hb,if_pos hb]; rfl
  ·rw [if_neg hb,if_neg hb]; simp) ys pre e).1
theorem k4M (l:List ByteArray)(s:ByteArray):z2V l s=some (l.any fun o=>decide (o=s)):=by
 unfold z2V
 rw [q4B (c:=true) (q:=fun o=>!decide (o=s)) fun k x hx=>by
  unfold j0E
  by_cases h:x=s
  ·rw [if_pos h,if_neg (by simp [h])]
  ·rw [if_neg h,if_pos (by simp [h])]]
 have e:(l.all fun o=>!decide (o=s))=!(l.any fun o=>decide (o=s)):=by rw [List.not_any_eq_all_not]
 rw [e]
 cases l.any fun o=>decide (o=s)<;>rfl
theorem k3e (l:List ByteArray):z0y l=some (k4L id l):=by
 unfold z0y k4L
 rw [show findL (z1u l) 0 l ()=_ from z8Z (bad:=dupB id) (c:=fun _=>false) (all:=l) (f:=z1u l) (fun pre x post e=>by
  unfold z1u
  rw [q3B (by rw [e]; simp),show l.take pre.length=pre by rw [e]; simp,k4M,Option.bind_some,← apply_ite some]; rfl) l [] rfl]
 cases q4Q (dupB id) [] l<;>rfl
def z5p (a:Attribute):Bool:=q8V a.Name&&(decide (1≤a.Type_∧a.Type_≤4)&&(decide (1≤a.Mode∧a.Mode≤3)&&if a.Mode=3 then decide (a.Type_=2) && !a.Circular else !a.Circular||decide (a.Type_=2)))
theorem k4N (a:Attribute):q7H a=some (z5p a):=by
 unfold q7H z5p z6s
 rw [z4h,Option.bind_some]
 cases q8V a.Name with
 | false=>rfl
 | true=>
  rw [if_pos rfl,j2v,Option.bind_some,Option.bind_some,Option.bind_some]
  by_cases h1:1≤a.Type_∧a.Type_≤4
  ·rw [decide_eq_true h1,Bool.not_true,if_neg (by simp),j2v,Option.bind_some,Option.bind_some]
   by_cases h2:1≤a.Mode∧a.Mode≤3
   ·rw [decide_eq_true h2,Bool.not_true,if_neg (by simp)]
    by_cases h3:a.Mode=3
    ·rw [if_pos h3,if_pos h3]
     by_cases h4:a.Type_=2
     ·rw [if_pos h4,decide_eq_true h4]; simp
     ·rw [if_neg h4,decide_eq_false h4]; rfl
    ·rw [if_neg h3,if_neg h3]
     cases hc:a.Circular with
     | true=>rw [if_pos rfl]; simp
     | false=>rw [if_neg (by simp)]; simp
   ·rw [decide_eq_false h2]; rfl
  ·rw [decide_eq_false h1]; rfl
theorem k4O (a:Attribute):q7D a=some (z5p a):=by
 unfold q7D z5p
 rw [z2i,Option.bind_some]
 cases q8V a.Name with
 | false=>rfl
 | true=>
  rw [if_pos rfl,z8T,Option.bind_some,Option.bind_some]
  by_cases h1:1≤a.Type_∧a.Type_≤4
  ·rw [decide_eq_true h1,Bool.not_true,if_neg (by simp),z8T,Option.bind_some,Option.bind_some]
   by_cases h2:1≤a.Mode∧a.Mode≤3
   ·rw [decide_eq_true h2,Bool.not_true,if_neg (by simp)]
    by_cases h3:a.Mode=3
    ·rw [if_pos h3,if_pos h3]
     by_cases h4:a.Type_=2
     ·rw [if_pos h4,decide_eq_true h4]
      cases hc:a.Circular with
      | true=>rfl
      | false=>rfl
     ·rw [if_neg h4,decide_eq_false h4]; rfl
    ·rw [if_neg h3,if_neg h3]
     cases hc:a.Circular with
     | true=>simp
     | false=>simp
   ·rw [decide_eq_false h2]; rfl
  ·rw [decide_eq_false h1]; rfl
def symB (s:Symbol):Bool:=s.Attributes.all z5p&&(q8V s.Name&&(decide (s.Attributes.length≤4)&&k4L (fun a:Attribute=>a.Name) s.Attributes))
theorem k6M (s:Symbol):q8Z s=some (symB s):=by
 unfold q8Z symB
 rw [show findL (z0a s) 0 s.Attributes ()=_ from z8Z (bad:=fun p x=>!z5p x||dupB (fun a:Attribute=>a.Name) p x) (c:=fun _=>false) (all:=s.Attributes) (f:=z0a s) (fun pre x post e=>by
  unfold z0a
  rw [k4N,Option.bind_some]
  cases z5p x with
  | false=>rfl
  | true=>
   rw [if_pos rfl,q3B (by rw [e]; simp),show s.Attributes.take pre.length=pre by rw [e]; simp]
   unfold q3U q4d
   rw [q4S (q:=fun o:Attribute=>decide (o.Name=x.Name)) fun k y hy=>by
    unfold q5Q q9A
    rw [Option.bind_some]
    by_cases h:y.Name=x.Name
    ·rw [decide_eq_true h]; rfl
    ·rw [decide_eq_false h]; rfl]
   rw [Option.bind_some,← apply_ite some]; rfl) s.Attributes [] rfl]
 have hor:=k1I (a:=fun x:Attribute=>!z5p x) (b:=dupB (fun a:Attribute=>a.Name)) s.Attributes []
 simp only [Bool.not_not] at hor
 have e2:(s.Attributes.all fun x=>z5p x)=s.Attributes.all z5p:=rfl
 unfold k4L
 rw [e2] at hor
 cases hb:q4Q (fun p x=>!z5p x||dupB (fun a:Attribute=>a.Name) p x) [] s.Attributes with
 | some k=>
  rw [hb] at hor
  show some false=_
  have:(s.Attributes.all z5p&&(q4Q (dupB fun a:Attribute=>a.Name) [] s.Attributes).isNone)=false:=hor.symm
  congr 1
  cases h1:s.Attributes.all z5p with
  | false=>rfl
  | true=>rw [h1] at this; simp at this; simp [this]
 | none=>
  rw [hb] at hor
  have:(s.Attributes.all z5p&&(q4Q (dupB fun a:Attribute=>a.Name) [] s.Attributes).isNone)=true:=hor.symm
  rw [Bool.and_eq_true] at this
  show ((q4C s.Name).bind _)=_
  rw [z4h,Option.bind_some,this.1,this.2]
  cases q8V s.Name with
  | false=>rfl
  | true=>
   rw [if_pos rfl,Option.bind_some]
   congr 1
   simp; omega
theorem k6N {s:Symbol}(h:s.Attributes.length≤1048576):q8X s=some (symB s):=by
 unfold q8X symB
 have hloop:∀ (ys:List Attribute) (i:Nat) (t:List ByteArray),t.length+ys.length≤1048576→findL q9Y i ys t=some (if ys.all z5p=true then .inl (t++ys.map fun a=>a.Name) else .inr false):=by
  intro ys
  induction ys with
  | nil=>intro i t _; simp [findL]
  | cons y ys ih=>
   intro i t ht
   simp only [List.length_cons] at ht
   simp only [findL]
   have e:q9Y i y t=some (if z5p y=true then .inl (t++[y.Name]) else .inr false):=by
    unfold q9Y
    rw [k4O,Option.bind_some]
    cases z5p y with
    | false=>rfl
    | true=>rw [if_pos rfl,if_pos rfl,q3B (by constructor<;>omega)]
   rw [e,Option.bind_some]
   by_cases hy:z5p y=true
   ·rw [if_pos hy,show (y :: ys).all z5p=ys.all z5p by simp [hy]]
    dsimp only
    rw [ih _ _ (by simp; omega)]
    simp
   ·rw [if_neg hy,show (y :: ys).all z5p=false by simp [hy]]; rfl
 rw [hloop _ _ _ (by simpa using h)]
 cases hA:s.Attributes.all z5p with
 | false=>rfl
 | true=>
  rw [if_pos rfl,Option.bind_some,z2p,List.nil_append,z2i,Option.bind_some]
  cases q8V s.Name with
  | false=>rfl
  | true=>
   rw [if_pos rfl,Option.bind_some,List.length_map]
   by_cases hl:s.Attributes.length≤4
   ·rw [decide_eq_true (by omega:(s.Attributes.length:Int)≤4),if_pos rfl,k3e,Option.bind_some,Option.bind_some,decide_eq_true hl]
    have:=j9e (nm:=fun a:Attribute=>a.Name) s.Attributes []
    unfold k4L
    rw [List.map_nil] at this
    rw [this]; rfl
   ·rw [decide_eq_false (by omega:¬ (s.Attributes.length:Int)≤4),if_neg (by simp),decide_eq_false hl]; rfl
end Go.Proofs.YtcegfmageiicaaaGreat
namespace Go.Proofs.YtcegfmageiicaaaGreat
open Go Go.E
theorem j1k {r:Rule}{q:Contribution}(h:q∈r.Contributions):Sz.szd q.Target≤Sz.szd r∧Sz.szd q.Value≤Sz.szd r:=by
 have h1:=z7x r
 have h2:=z0N q
 have h3:=z4g h
 have h4:=q8U q.Target
 have h5:=q8U q.Value
 omega
theorem z1b {g:Grammar}{r:Rule}(h:r∈g.Rules):Sz.szd r≤Sz.szd g:=by
 have h1:=z0Z g
 have h3:=z4g h
 omega
theorem k7Y {r:Rule}(h:Sz.szd r≤1048576):r.Equations.length≤1048576∧r.Contributions.length≤1048576:=by
 have h1:=z7x r
 have h2:=q5b r.Equations
 have h3:=q5b r.Contributions
 omega
def z0x (n:Int)(e:Expr):Bool:=allE (fun x=>decide (x.Pos≤n)) e
theorem k0z (n:Int)(e:Expr):∀ m,fuE e≤m→z4I m e n=some (z0x n e):=by
 induction e using z2h with
 | h e ih=>
  intro m hm
  obtain⟨m,rfl⟩:∃ q,m=q+1:=⟨m - 1,by have:=z7T e; omega⟩
  show z4H (z4I m) e n=_
  unfold z4H
  rw [q4B (c:=false) (q:=z0x n) fun k x hx=>by
   unfold j2j
   rw [ih x hx m (by have:=z7U hx; omega),Option.bind_some]
   cases z0x n x<;>rfl]
  have e1:z0x n e=(decide (e.Pos≤n)&&e.Args.all (z0x n)):=by unfold z0x; rw [j1T]
  rw [e1,Option.bind_some]
  cases e.Args.all (z0x n) with
  | true=>rw [if_pos rfl,z2p,Bool.and_true]
  | false=>rw [if_neg (by simp),j1t,Bool.and_false]
theorem k3f (n:Int)(e:Expr):z9Q e n=some (z0x n e):=q9p (fuE e) fun m hm=>k0z n e m hm
theorem k0A (n:Int)(e:Expr):∀ m,fuE e≤m→q7e m e n=some (z0x n e):=by
 induction e using z2h with
 | h e ih=>
  intro m hm
  obtain⟨m,rfl⟩:∃ q,m=q+1:=⟨m - 1,by have:=z7T e; omega⟩
  show q7d (q7e m) e n=_
  unfold q7d q4a q4j j0O
  have e1:z0x n e=(decide (e.Pos≤n)&&e.Args.all (z0x n)):=by unfold z0x; rw [j1T]
  rw [Option.bind_some,e1]
  cases decide (e.Pos≤n) with
  | false=>rfl
  | true=>
   rw [if_pos rfl,q4S (q:=fun x=>!z0x n x) fun k x hx=>by
    unfold q5Y q7N
    rw [ih x hx m (by have:=z7U hx; omega),Option.bind_some,Option.bind_some]
    cases z0x n x<;>rfl]
   rw [Bool.true_and,← j4W]; rfl
theorem k3g (n:Int)(e:Expr):z0r e n=some (z0x n e):=q9p (fuE e) fun m hm=>k0A n e m hm
def z6e (e:Expr)(n:Int):Bool:=j4X e&&z0x n e
theorem j7y {e:Expr}(h:Sz.szd e≤1048576)(n:Int):z9W e n=some (z6e e n):=by
 unfold z9W z6e
 have:=k7X h
 rw [k4J (by omega),Option.bind_some]
 cases j4X e with
 | false=>rfl
 | true=>rw [if_pos rfl,k3g]; rfl
theorem j7z {e:Expr}(h:Sz.szd e≤1048576)(n:Int):z4J e n=some (z6e e n):=by
 unfold z4J z6e
 have:=k7X h
 rw [k4K (by omega),Option.bind_some]
 cases j4X e with
 | false=>rfl
 | true=>rw [if_pos rfl,k3f]; rfl
def eqnB (n:Int)(q:Equation):Bool:=z6e q.Expr n&&(q8V q.At.Name&&decide (0≤q.At.Pos∧q.At.Pos≤n))
def conB (n:Int)(q:Contribution):Bool:=(z6e q.Target n&&z6e q.Value n)&&(q8V q.Symbol&&q8V q.Name)
def ruleB (r:Rule):Bool:=(q8V r.Name&&q8V r.Left)&&((decide (r.Right.length≤3)&&decide (r.Contributions.length≤2))&&(r.Right.all q8V&&(r.Equations.all (eqnB (r.Right.length:Int))&&r.Contributions.all (conB (r.Right.length:Int)))))
theorem j9f {α β γ:Type}{p:α→Bool}{q:β→Bool}{t:γ→Bool}(xs:List α)(ys:List β)(zs:List γ) :
  ((some (if xs.all p=true then (.inl ():Unit ⊕ Bool) else .inr false)).bind <| onr (fun r1=>some r1) fun _=>
   (some (if ys.all q=true then (.inl ():Unit ⊕ Bool) else .inr false)).bind <| onr (fun r1=>some r1) fun _=>
   (some (if zs.all t=true then (.inl ():Unit ⊕ Bool) else .inr false)).bind <| onr (fun r1=>some r1) fun _=>some true)=some (xs.all p&&(ys.all q&&zs.all t)):=by
 cases xs.all p<;>cases ys.all q<;>cases zs.all t<;>rfl
theorem k4P {r:Rule}(h:Sz.szd r≤1048576):z0G r=some (ruleB r):=by
 unfold z0G ruleB
 rw [z4h,Option.bind_some]
 cases q8V r.Name with
 | false=>rfl
 | true=>
  rw [if_pos rfl,z4h,Option.bind_some,Option.bind_some]
  cases q8V r.Left with
  | false=>rfl
  | true=>
   rw [Bool.not_true,if_neg (by simp),Option.bind_some]
   by_cases h3:r.Right.length≤3
   ·rw [decide_eq_true h3,decide_eq_false (by omega),if_neg (by simp),Option.bind_some]
    by_cases h2:r.Contributions.length≤2
    ·rw [decide_eq_true h2,decide_eq_false (by omega),if_neg (by simp)]
     rw [q4B (c:=false) (q:=q8V) fun k x hx=>by
      unfold z8C; rw [z4h,Option.bind_some]; cases q8V x<;>rfl]
     rw [q4B (c:=false) (q:=eqnB (r.Right.length:Int)) fun k x hx=>by
      unfold z8D eqnB
      rw [j7y (Nat.le_trans (j0j hx) h),Option.bind_some]
      cases z6e x.Expr (r.Right.length:Int) with
      | false=>rfl
      | true=>
       rw [if_pos rfl,z4h,Option.bind_some,Option.bind_some]
       cases q8V x.At.Name with
       | false=>rfl
       | true=>
        rw [Bool.not_true,if_neg (by simp),j2v,Option.bind_some,Option.bind_some]
        cases decide (0≤x.At.Pos∧x.At.Pos≤(r.Right.length:Int))<;>rfl]
     rw [q4B (c:=false) (q:=conB (r.Right.length:Int)) fun k x hx=>by
      have hs:=j1k hx
      unfold z8E conB
      rw [j7y (Nat.le_trans hs.1 h),Option.bind_some]
      cases z6e x.Target (r.Right.length:Int) with
      | false=>rfl
      | true=>
       rw [if_pos rfl,j7y (Nat.le_trans hs.2 h),Option.bind_some,Option.bind_some]
       cases z6e x.Value (r.Right.length:Int) with
       | false=>rfl
       | true=>
        rw [Bool.not_true,if_neg (by simp),z4h,Option.bind_some,Option.bind_some]
        cases q8V x.Symbol with
        | false=>rfl
        | true=>
         rw [Bool.not_true,if_neg (by simp),z4h,Option.bind_some,Option.bind_some]
         cases q8V x.Name<;>rfl]
     exact j9f _ _ _
    ·rw [decide_eq_false h2,decide_eq_true (by omega)]; rfl
   ·rw [decide_eq_false h3,decide_eq_true (by omega)]; rfl
theorem k4Q {r:Rule}(h:Sz.szd r≤1048576):z0B r=some (ruleB r):=by
 unfold z0B ruleB
 rw [z2i,Option.bind_some]
 cases q8V r.Name with
 | false=>rfl
 | true=>
  rw [if_pos rfl,z2i,Option.bind_some,Option.bind_some]
  cases q8V r.Left with
  | false=>rfl
  | true=>
   rw [Bool.not_true,if_neg (by simp),Option.bind_some]
   by_cases h3:r.Right.length≤3
   ·rw [decide_eq_true h3,decide_eq_false (by omega),if_neg (by simp),Option.bind_some]
    by_cases h2:r.Contributions.length≤2
    ·rw [decide_eq_true h2,decide_eq_false (by omega),if_neg (by simp)]
     rw [q4B (c:=false) (q:=q8V) fun k x hx=>by
      unfold z8r; rw [z2i,Option.bind_some]; cases q8V x<;>rfl]
     rw [q4B (c:=false) (q:=eqnB (r.Right.length:Int)) fun k x hx=>by
      unfold z8s eqnB
      rw [z2i,Option.bind_some]
      cases q8V x.At.Name with
      | false=>rw [Bool.false_and,Bool.and_false]; rfl
      | true=>
       rw [if_pos rfl,z8T,Option.bind_some,Option.bind_some]
       cases decide (0≤x.At.Pos∧x.At.Pos≤(r.Right.length:Int)) with
       | false=>rw [Bool.and_false,Bool.and_false]; rfl
       | true=>
        rw [Bool.not_true,if_neg (by simp),j7z (Nat.le_trans (j0j hx) h),Option.bind_some,Option.bind_some]
        cases z6e x.Expr (r.Right.length:Int)<;>rfl]
     rw [q4B (c:=false) (q:=conB (r.Right.length:Int)) fun k x hx=>by
      have hs:=j1k hx
      unfold z8t conB
      rw [z2i,Option.bind_some]
      cases q8V x.Symbol with
      | false=>rw [Bool.false_and,Bool.and_false]; rfl
      | true=>
       rw [if_pos rfl,z2i,Option.bind_some,Option.bind_some]
       cases q8V x.Name with
       | false=>rw [Bool.and_false,Bool.and_false]; rfl
       | true=>
        rw [Bool.not_true,if_neg (by simp),j7z (Nat.le_trans hs.1 h),Option.bind_some,Option.bind_some]
        cases z6e x.Target (r.Right.length:Int) with
        | false=>rfl
        | true=>
         rw [Bool.not_true,if_neg (by simp),j7z (Nat.le_trans hs.2 h),Option.bind_some,Option.bind_some]
         cases z6e x.Value (r.Right.length:Int)<;>rfl]
     exact j9f _ _ _
    ·rw [decide_eq_false h2,decide_eq_true (by omega)]; rfl
   ·rw [decide_eq_false h3,decide_eq_true (by omega)]; rfl
def z6Q (p:List Symbol)(x:Symbol):Bool:=!symB x||dupB (fun y:Symbol=>y.Name) p x
def z3O (p:List Rule)(x:Rule):Bool:=!ruleB x||dupB (fun y:Rule=>y.Name) p x
def z9G (g:Grammar):Int:=match q4Q z6Q [] g.Symbols with
 | some k=>(k:Int)
 | none=>match q4Q z3O [] g.Rules with
  | some k=>(k:Int)
  | none=>-1
theorem k4R {g:Grammar}(h:Sz.szd g≤1048576):z1M g=some (z9G g):=by
 unfold z1M z9G
 rw [show findL (z3a g) 0 g.Symbols ()=_ from z8Z (bad:=z6Q) (c:=fun k=>(k:Int)) (all:=g.Symbols) (f:=z3a g) (fun pre x post e=>by
  unfold z3a z6Q
  rw [k6M,Option.bind_some]
  cases symB x with
  | false=>rfl
  | true=>
   rw [if_pos rfl,q3B (by rw [e]; simp),show g.Symbols.take pre.length=pre by rw [e]; simp]
   unfold q4t q4L
   rw [q4S (q:=fun o:Symbol=>decide (o.Name=x.Name)) fun k y hy=>by
    unfold q6H z1J
    rw [Option.bind_some]
    by_cases h:y.Name=x.Name
    ·rw [decide_eq_true h]; rfl
    ·rw [decide_eq_false h]; rfl]
   rw [Option.bind_some,← apply_ite some]; rfl) g.Symbols [] rfl]
 rw [show findL (z3b g) 0 g.Rules ()=_ from z8Z (bad:=z3O) (c:=fun k=>(k:Int)) (all:=g.Rules) (f:=z3b g) (fun pre x post e=>by
  unfold z3b z3O
  rw [k4P (Nat.le_trans (z1b (by rw [e]; simp)) h),Option.bind_some]
  cases ruleB x with
  | false=>rfl
  | true=>
   rw [if_pos rfl,q3B (by rw [e]; simp),show g.Rules.take pre.length=pre by rw [e]; simp]
   unfold q4D q4U
   rw [q4S (q:=fun o:Rule=>decide (o.Name=x.Name)) fun k y hy=>by
    unfold q6R z1L
    rw [Option.bind_some]
    by_cases h:y.Name=x.Name
    ·rw [decide_eq_true h]; rfl
    ·rw [decide_eq_false h]; rfl]
   rw [Option.bind_some,← apply_ite some]; rfl) g.Rules [] rfl]
 cases q4Q z6Q [] g.Symbols with
 | some k=>rfl
 | none=>cases q4Q z3O [] g.Rules<;>rfl
theorem k0B {g:Grammar}(h:Sz.szd g≤1048576):g.Symbols.length≤1048576∧g.Rules.length≤1048576:=by
 have h1:=z0Z g
 have h2:=q5b g.Symbols
 have h3:=q5b g.Rules
 omega
theorem k4S {g:Grammar}(h:Sz.szd g≤1048576):z8u g=some (z9G g):=by
 have hl:=k0B h
 unfold z8u z9G
 have h1:=(z6P (bad:=z6Q) (nm:=fun y:Symbol=>y.Name) (c:=fun k=>(k:Int)) (all:=g.Symbols) (f:=fun k x _=>some (if z6Q (g.Symbols.take k) x=true then .inr (k:Int) else .inl ())) (h:=z9l) (fun pre x post e=>by
   rw [show g.Symbols.take pre.length=pre by rw [e]; simp]) (fun pre x post e=>by
  unfold z9l z6Q
  rw [k6N (q9v h x (by rw [e]; simp)),Option.bind_some]
  cases symB x with
  | false=>rfl
  | true=>
   have hp:pre.length≤1048576:=by
     have:g.Symbols.length=pre.length+(post.length+1):=by rw [e]; simp
     omega
   rw [if_pos rfl,k4M,Option.bind_some,List.any_map,q3B (by rw [List.length_map]; constructor<;>omega),List.map_append,← apply_ite some]; rfl) g.Symbols [] rfl).2
 have h2:=(z6P (bad:=z3O) (nm:=fun y:Rule=>y.Name) (c:=fun k=>(k:Int)) (all:=g.Rules) (f:=fun k x _=>some (if z3O (g.Rules.take k) x=true then .inr (k:Int) else .inl ())) (h:=z9m) (fun pre x post e=>by
   rw [show g.Rules.take pre.length=pre by rw [e]; simp]) (fun pre x post e=>by
  unfold z9m z3O
  rw [k4Q (Nat.le_trans (z1b (by rw [e]; simp)) h),Option.bind_some]
  cases ruleB x with
  | false=>rfl
  | true=>
   have hp:pre.length≤1048576:=by
     have:g.Rules.length=pre.length+(post.length+1):=by rw [e]; simp
     omega
   rw [if_pos rfl,k4M,Option.bind_some,List.any_map,q3B (by rw [List.length_map]; constructor<;>omega),List.map_append,← apply_ite some]; rfl) g.Rules [] rfl).2
 rw [show findL z9l 0 g.Symbols []=_ from h1,show findL z9m 0 g.Rules []=_ from h2]
 cases q4Q z6Q [] g.Symbols with
 | some k=>rfl
 | none=>cases q4Q z3O [] g.Rules<;>rfl
end Go.Proofs.YtcegfmageiicaaaGreat
namespace Go.Proofs.YtcegfmageiicaaaGreat
open Go Go.E
theorem j4Y {ρ:Type}{c:ρ}{q:Nat→Bool}{n:Nat}{f:Nat→Unit→Option (Unit ⊕ ρ)}(h:∀ k,k < n→f k ()=some (if q k=true then .inl () else .inr c)):∀ (m k:Nat),k+m=n→findN f k m ()=some (if (List.range' k m).all q=true then .inl () else .inr c)
 | 0,k,_=>rfl
 | m+1,k,hk=>by
  have ih:=j4Y h m (k+1) (by omega)
  rw [findN,h k (by omega),Option.bind_some]
  by_cases hq:q k=true
  ·rw [if_pos hq,show (List.range' k (m+1)).all q=(List.range' (k+1) m).all q by simp [List.range'_succ,hq]]
   exact ih
  ·rw [if_neg hq,show (List.range' k (m+1)).all q=false by simp [List.range'_succ,hq]]; rfl
theorem k1J {ρ:Type}{c:ρ}{q:Nat→Bool}{n:Nat}{f:Int→Option (Int ⊕ (Unit ⊕ ρ))}(h:∀ k:Nat,k < n→f (k:Int)=some (if q k=true then .inl ((k+1:Nat):Int) else .inr (.inr c)))(he:f (n:Int)=some (.inr (.inl ()))):∀ (m k:Nat),k+m=n→q4i f (k:Int)=some (if (List.range' k m).all q=true then .inl () else .inr c)
 | 0,k,hk=>by
  obtain rfl:k=n:=by omega
  exact q3E he
 | m+1,k,hk=>by
  have ih:=k1J h he m (k+1) (by omega)
  have h1:=h k (by omega)
  by_cases hq:q k=true
  ·rw [if_pos hq] at h1
   rw [q3L h1,show (List.range' k (m+1)).all q=(List.range' (k+1) m).all q by simp [List.range'_succ,hq]]
   exact ih
  ·rw [if_neg hq] at h1
   rw [q3E h1,show (List.range' k (m+1)).all q=false by simp [List.range'_succ,hq]]; rfl
def j6k (g:Grammar)(r:Rule):Bool:=(List.range' 0 (r.Right.length+1)).all fun k=>(q8k g (q6G r (k:Int))).2
theorem k0C (g:Grammar){r:Rule}(hl:ROk r):z6t g r=some (!j6k g r):=by
 have hl' : r.Right.length≤1048576:=hl
 unfold z6t
 rw [q3B (by constructor<;>omega),j4Y (c:=true) (n:=r.Right.length+1) (q:=fun k=>(q8k g (q6G r (k:Int))).2) (fun k hk=>by
  unfold j4w
  rw [j0k hl,Option.bind_some,z5f,Option.bind_some]
  dsimp only
  rw [← apply_ite some]) (r.Right.length+1) 0 (by omega)]
 unfold j6k
 cases (List.range' 0 (r.Right.length+1)).all fun k=>(q8k g (q6G r (k:Int))).2<;>rfl
theorem k0D {g:Grammar}(h:GOk g){r:Rule}(hl:ROk r):z1v g r=some (j6k g r):=by
 have hl' : r.Right.length≤1048576:=hl
 unfold z1v
 have e:=k1J (c:=false) (q:=fun k=>(q8k g (q6G r (k:Int))).2) (n:=r.Right.length+1) (f:=z0D g r) (fun k hk=>by
  unfold z0D
  rw [if_pos (by omega),z7B hl,Option.bind_some,z6O h,Option.bind_some]
  dsimp only
  rw [q3B (by constructor<;>omega),← apply_ite some]; rfl) (by
  unfold z0D; rw [if_neg (by omega)]) (r.Right.length+1) 0 (by omega)
 rw [show q4i (z0D g r) 0=_ from e]
 unfold j6k
 cases (List.range' 0 (r.Right.length+1)).all fun k=>(q8k g (q6G r (k:Int))).2<;>rfl
theorem k9a (K:List Occurrence)(o:Occurrence):q5p K o=some (decide (o∈K)):=by
 unfold q5p q3P
 rw [q4S (q:=fun x=>decide (o=x)) fun k x hx=>by
  unfold q3S
  by_cases h:o=x
  ·rw [if_pos h,if_pos (by simpa using h)]
  ·rw [if_neg h,if_neg (by simpa using h)]]
 congr 1
 by_cases h:o∈K
 ·rw [decide_eq_true h,List.any_eq_true]; exact⟨o,h,by simp⟩
 ·rw [decide_eq_false h,List.any_eq_false]; intro x hx he; simp at he; exact h (he▸hx)
theorem k4T (K:List Occurrence)(o:Occurrence):z2r K o=some (decide (o∈K)):=by
 unfold z2r
 rw [q4B (c:=true) (q:=fun x=>!decide (x=o)) fun k x hx=>by
  unfold j2k
  by_cases h:x=o
  ·rw [if_pos h,if_neg (by simp [h])]
  ·rw [if_neg h,if_pos (by simp [h])]]
 by_cases h:o∈K
 ·rw [decide_eq_true h,if_neg]; · rfl
  rw [List.all_eq_true]; intro hh; have:=hh o h; simp at this
 ·rw [decide_eq_false h,if_pos]; · rfl
  rw [List.all_eq_true]; intro x hx; simp; exact fun e=>h (e▸hx)
def j9g (r:Rule)(o:Occurrence):Bool:=r.Equations.any fun q=>decide (q.At=o)
theorem k6O (r:Rule)(o:Occurrence):(eqAt r o).2=j9g r o:=by
 unfold eqAt j9g
 cases hf:r.Equations.find? (fun q=>decide (q.At=o)) with
 | none=>rw [List.find?_eq_none] at hf; symm; rw [List.any_eq_false]; exact hf
 | some q=>symm; rw [List.any_eq_true]; exact⟨q,List.mem_of_find?_eq_some hf,List.find?_some (p:=fun q:Equation=>decide (q.At=o)) hf⟩
def k4U (g:Grammar)(r:Rule):Bool:=(reqL g r).any fun o=>!j9g r o
theorem k6P {g:Grammar}(h:GOk g){r:Rule}(hl:ROk r):z6u g r=some (k4U g r):=by
 unfold z6u k4U
 rw [k4w h hl,Option.bind_some]
 unfold q4p q4F
 rw [q4S (q:=fun o=>!j9g r o) fun k o ho=>by
  unfold q6u z5D q4o q4E
  rw [q4S (q:=fun q:Equation=>decide (q.At=o)) fun k y hy=>by
   unfold q6t z3c
   rw [Option.bind_some]
   by_cases h:y.At=o
   ·rw [decide_eq_true h]; rfl
   ·rw [decide_eq_false h]; rfl]
  rw [Option.bind_some,Option.bind_some,← apply_ite some]; rfl]
 rfl
theorem k6Q {g:Grammar}(h:GOk g){r:Rule}(hr:Sz.szd r≤1048576):z1y g r=some (k4U g r):=by
 unfold z1y k4U
 rw [k4x h (q6c hr),Option.bind_some,q4B (c:=true) (q:=j9g r) fun k o ho=>by
  unfold z9B
  rw [j7t hr o,Option.bind_some]
  dsimp only
  rw [k6O,← apply_ite some]]
 have e:((reqL g r).all (j9g r))=!((reqL g r).any fun o=>!j9g r o):=by rw [j4W]
 rw [e]
 cases (reqL g r).any fun o=>!j9g r o<;>rfl
def j9h (g:Grammar)(r:Rule):Bool:=(q4Q (fun p (x:Equation)=>!decide (x.At∈reqL g r)||p.any fun o=>decide (o.At=x.At)) [] r.Equations).isSome
theorem k4V {g:Grammar}(h:GOk g){r:Rule}(hl:ROk r):j0Q g r=some (j9h g r):=by
 unfold j0Q j9h
 rw [k4w h hl,Option.bind_some]
 rw [show findL (j0P r (reqL g r)) 0 r.Equations ()=_ from z8Z (bad:=fun p (x:Equation)=>!decide (x.At∈reqL g r)||p.any fun o=>decide (o.At=x.At)) (c:=fun _=>true) (all:=r.Equations) (f:=j0P r (reqL g r)) (fun pre x post e=>by
  unfold j0P
  rw [k9a,Option.bind_some]
  cases decide (x.At∈reqL g r) with
  | false=>rfl
  | true=>
   rw [if_pos rfl,q3B (by rw [e]; simp),show r.Equations.take pre.length=pre by rw [e]; simp]
   unfold q4M q4Y
   rw [q4S (q:=fun o:Equation=>decide (o.At=x.At)) fun k y hy=>by
    unfold q7f z9n
    rw [Option.bind_some]
    by_cases h:y.At=x.At
    ·rw [decide_eq_true h]; rfl
    ·rw [decide_eq_false h]; rfl]
   rw [Option.bind_some,← apply_ite some]; rfl) r.Equations [] rfl]
 cases q4Q (fun p (x:Equation)=>!decide (x.At∈reqL g r)||p.any fun o=>decide (o.At=x.At)) [] r.Equations<;>rfl
theorem k4W {g:Grammar}(h:GOk g){r:Rule}(hr:Sz.szd r≤1048576):z4K g r=some (j9h g r):=by
 have hl:=(k7Y hr).1
 unfold z4K j9h
 rw [k4x h (q6c hr),Option.bind_some]
 have h1:=(z6P (bad:=fun p (x:Equation)=>!decide (x.At∈reqL g r)||p.any fun o=>decide (o.At=x.At)) (nm:=fun y:Equation=>y.At) (c:=fun _=>true) (all:=r.Equations)
  (f:=fun k x _=>some (if (!decide (x.At∈reqL g r)||(r.Equations.take k).any fun o=>decide (o.At=x.At))=true then .inr true else .inl ())) (h:=z5A (reqL g r)) (fun pre x post e=>by
   rw [show r.Equations.take pre.length=pre by rw [e]; simp]) (fun pre x post e=>by
  unfold z5A
  rw [k4T,Option.bind_some]
  cases decide (x.At∈reqL g r) with
  | false=>rfl
  | true=>
   have hp:pre.length≤1048576:=by
     have:r.Equations.length=pre.length+(post.length+1):=by rw [e]; simp
     omega
   have e2:decide (x.At∈pre.map fun y:Equation=>y.At)=pre.any fun o=>decide (o.At=x.At):=by
    by_cases hm:x.At∈pre.map fun y:Equation=>y.At
    ·rw [decide_eq_true hm]; symm; rw [List.any_eq_true]
     obtain⟨y,hy,he⟩:=List.mem_map.1 hm
     exact⟨y,hy,by simpa using he⟩
    ·rw [decide_eq_false hm]; symm; rw [List.any_eq_false]
     intro y hy he
     exact hm (List.mem_map.2 ⟨y,hy,by simpa using he⟩)
   rw [if_pos rfl,k4T,Option.bind_some,e2,q3B (by rw [List.length_map]; constructor<;>omega),List.map_append,← apply_ite some]; rfl) r.Equations [] rfl).2
 rw [show findL (z5A (reqL g r)) 0 r.Equations []=_ from h1]
 cases q4Q (fun p (x:Equation)=>!decide (x.At∈reqL g r)||p.any fun o=>decide (o.At=x.At)) [] r.Equations<;>rfl
def useB (g:Grammar)(r:Rule)(e:Expr):Bool:=(attrs e).all (mayB g r)
theorem j7A {g:Grammar}(h:GOk g){r:Rule}(hl:ROk r){e:Expr}(he:Sz.szd e≤1048576):z2t g r e=some (useB g r e):=by
 unfold z2t useB
 rw [k1B he,Option.bind_some,q4B (c:=false) (q:=mayB g r) fun k x hx=>by
  unfold j4j
  rw [k8M h hl,Option.bind_some,← apply_ite some]]
 cases (attrs e).all (mayB g r)<;>rfl
theorem k6R (g:Grammar){r:Rule}(hl:ROk r){e:Expr}(he:Sz.szd e≤1048576):z3t e g r=some (!useB g r e):=by
 unfold z3t useB
 rw [j7s he,Option.bind_some]
 unfold q4f q4v
 rw [q4S (q:=fun o=>!mayB g r o) fun k o ho=>by
  unfold q6h z3d
  rw [k8L g hl,Option.bind_some,Option.bind_some,← apply_ite some]]
 rw [Option.bind_some,← j4W,Bool.not_not]
def z6R (r:Rule):List Expr:=r.Equations.map (fun q=>q.Expr)++r.Contributions.flatMap fun q=>[q.Target,q.Value]
theorem k1K {r:Rule}(hr:Sz.szd r≤1048576):q9l r=some (z6R r):=by
 have hl:=k7Y hr
 have h1:∀ (xs:List Equation) (i:Nat) (s:List Expr),s.length+xs.length≤1048576→eachL z1O i xs s=some (s++xs.map fun q=>q.Expr):=by
  intro xs
  induction xs with
  | nil=>intro i s _; simp [eachL]
  | cons x xs ih=>
   intro i s hs
   simp only [List.length_cons] at hs
   have e:z1O i x s=some (s++[x.Expr]):=by unfold z1O; rw [q3B (by constructor<;>omega)]
   rw [eachL,e,Option.bind_some,ih _ _ (by simp; omega)]; simp
 have h2:∀ (xs:List Contribution) (i:Nat) (s:List Expr),s.length+2*xs.length≤4194304→eachL z1P i xs s=some (s++xs.flatMap fun q=>[q.Target,q.Value]):=by
  intro xs
  induction xs with
  | nil=>intro i s _; simp [eachL]
  | cons x xs ih=>
   intro i s hs
   simp only [List.length_cons] at hs
   have e:z1P i x s=some (s++[x.Target,x.Value]):=by
    unfold z1P; rw [q3B (by simp only [List.length_cons,List.length_nil]; constructor<;>omega)]
   rw [eachL,e,Option.bind_some,ih _ _ (by simp; omega)]; simp
 unfold q9l z6R
 rw [h1 _ _ _ (by simpa using hl.1),Option.bind_some,h2 _ _ _ (by simp; omega)]; simp
theorem k6S {r:Rule}{e:Expr}(h:e∈z6R r):Sz.szd e≤Sz.szd r:=by
 unfold z6R at h
 rcases List.mem_append.1 h with h | h
 ·obtain⟨q,hq,rfl⟩:=List.mem_map.1 h; exact j0j hq
 ·obtain⟨q,hq,he⟩:=List.mem_flatMap.1 h
  have:=j1k hq
  simp at he
  rcases he with rfl | rfl
  ·exact this.1
  ·exact this.2
def misB (g:Grammar)(r:Rule):Bool:=!(z6R r).all (useB g r)
theorem k9b (g:Grammar){r:Rule}(hr:Sz.szd r≤1048576):z6w g r=some (misB g r):=by
 unfold z6w misB
 rw [k1K hr,Option.bind_some]
 unfold q4V q5i
 rw [q4S (q:=fun e=>!useB g r e) fun k e he=>by
  unfold q7I
  rw [k6R g (q6c hr) (Nat.le_trans (k6S he) hr),Option.bind_some,← apply_ite some]]
 rw [Option.bind_some,← j4W,Bool.not_not]
theorem k9c {g:Grammar}(h:GOk g){r:Rule}(hr:Sz.szd r≤1048576):z3p g r=some (misB g r):=by
 unfold z3p misB
 rw [q4B (c:=true) (q:=fun q:Equation=>useB g r q.Expr) fun k x hx=>by
  unfold j0L
  rw [j7A h (q6c hr) (Nat.le_trans (j0j hx) hr),Option.bind_some,← apply_ite some]]
 rw [q4B (c:=true) (q:=fun q:Contribution=>useB g r q.Target&&useB g r q.Value) fun k x hx=>by
  have hs:=j1k hx
  unfold j0M
  rw [j7A h (q6c hr) (Nat.le_trans hs.1 hr),Option.bind_some]
  cases useB g r x.Target with
  | false=>rfl
  | true=>rw [if_pos rfl,j7A h (q6c hr) (Nat.le_trans hs.2 hr),Option.bind_some,← apply_ite some]; rfl]
 have e:(z6R r).all (useB g r)=((r.Equations.all fun q=>useB g r q.Expr)&&r.Contributions.all fun q=>useB g r q.Target&&useB g r q.Value):=by
  unfold z6R
  rw [List.all_append,List.all_map,List.all_flatMap]
  congr 1
  congr 1; funext q; simp
 rw [e]
 cases r.Equations.all fun q=>useB g r q.Expr with
 | false=>rfl
 | true=>cases r.Contributions.all fun q=>useB g r q.Target&&useB g r q.Value<;>rfl
end Go.Proofs.YtcegfmageiicaaaGreat
namespace Go.Proofs.YtcegfmageiicaaaGreat
open Go Go.E
def z6S (g:Grammar)(r:Rule)(k:Int):Bool:=if k=3 then !j6k g r else if k=4 then k4U g r else if k=5 then j9h g r else misB g r
theorem k4X {g:Grammar}(h:GOk g){r:Rule}(hr:Sz.szd r≤1048576)(k:Int):z3q g r k=some (z6S g r k):=by
 unfold z3q z6S
 by_cases h3:k=3
 ·rw [if_pos h3,if_pos h3,k0D h (q6c hr)]; rfl
 ·rw [if_neg h3,if_neg h3]
  by_cases h4:k=4
  ·rw [if_pos h4,if_pos h4,k6Q h hr]; rfl
  ·rw [if_neg h4,if_neg h4]
   by_cases h5:k=5
   ·rw [if_pos h5,if_pos h5,k4W h hr]; rfl
   ·rw [if_neg h5,if_neg h5,k9c h hr]; rfl
theorem j9i {g:Grammar}(h:GOk g){r:Rule}(hr:Sz.szd r≤1048576)(k:Int)(i:Nat):z3e g k i r ()=some (if z6S g r k=true then .inr (k,(i:Int)) else .inl ()):=by
 unfold z3e z6S
 by_cases h3:k=3
 ·rw [if_pos h3,if_pos h3,k0C g (q6c hr),Option.bind_some,← apply_ite some]
 ·rw [if_neg h3,if_neg h3]
  by_cases h4:k=4
  ·rw [if_pos h4,if_pos h4,k6P h (q6c hr),Option.bind_some,← apply_ite some]
  ·rw [if_neg h4,if_neg h4]
   by_cases h5:k=5
   ·rw [if_pos h5,if_pos h5,k4V h (q6c hr),Option.bind_some,← apply_ite some]
   ·rw [if_neg h5,if_neg h5,k9b g hr,Option.bind_some,← apply_ite some]
theorem k4Y {g:Grammar}(h:GOk g){r:Rule}(hr:Sz.szd r≤1048576)(k:Int)(i:Nat):z2W g k i r ()=some (if z6S g r k=true then .inr (k,(i:Int)) else .inl ()):=by
 unfold z2W
 rw [k4X h hr,Option.bind_some,← apply_ite some]
theorem j4Z {α σ ρ:Type}{f g:Nat→α→σ→Option (σ ⊕ ρ)}:∀ {xs:List α} {i:Nat} {s:σ},(∀ k x s,x∈xs→f k x s=g k x s)→findL f i xs s=findL g i xs s
 | [],_,_,_=>rfl
 | x :: xs,i,s,h=>by
  rw [findL,findL,h i x s (by simp)]
  congr 1; funext z
  cases z with
  | inl s'=>exact j4Z fun k y s hy=>h k y s (by simp [hy])
  | inr r=>rfl
theorem k0E {g:Grammar}(h:Sz.szd g≤1048576)(k:Int):z2X g k=q6J g k:=by
 unfold z2X q6J
 have e:findL (z2W g k) 0 g.Rules ()=findL (z3e g k) 0 g.Rules ():=j4Z fun i x _ hx=>by
  have hr:=Nat.le_trans (z1b hx) h
  rw [k4Y (q9v h) hr,j9i (q9v h) hr]
 rw [e]
def q8L (g:Grammar)(k:Int):Option (Int × Int):=match g.Rules.findIdx? fun r=>z6S g r k with
 | some i=>some (k,(i:Int))
 | none=>none
theorem z9a {α ρ:Type}{q:α→Bool}{c:Nat→ρ}:∀ {xs:List α} {i:Nat} {f:Nat→α→Unit→Option (Unit ⊕ ρ)},(∀ k x,x∈xs→f k x ()=some (if q x=true then .inr (c k) else .inl ())) →
  findL f i xs ()=some (match xs.findIdx? q with | some j=>.inr (c (i+j)) | none=>.inl ())
 | [],_,_,_=>rfl
 | x :: xs,i,f,h=>by
  rw [findL,h i x (by simp),Option.bind_some,List.findIdx?_cons]
  by_cases hq:q x=true
  ·rw [if_pos hq,if_pos hq]; rfl
  ·rw [if_neg hq,if_neg hq]
   have ih:=z9a (q:=q) (c:=c) (xs:=xs) (i:=i+1) (f:=f) fun k y hy=>h k y (by simp [hy])
   dsimp only
   rw [ih]
   cases xs.findIdx? q with
   | none=>rfl
   | some j=>simp only [Option.map_some]; rw [show i+1+j=i+(j+1) by omega]
def z7V (g:Grammar):Int × Int:=
 if !decide (1≤g.Symbols.length∧g.Symbols.length≤4) || !decide (1≤g.Rules.length∧g.Rules.length≤8) then (1,0)
 else if 0≤z9G g then (1,z9G g)
 else if (g.Symbols.getD 0 zS).Attributes.any fun a=>decide (a.Mode=1) then (2,0)
 else (q8L g 3 <|> (q8L g 4 <|> (q8L g 5 <|> q8L g 6))).getD (0,0)
theorem j5a {g:Grammar}(h:Sz.szd g≤1048576):(q4i (q6J g) 3).bind (onr (fun r2=>some r2) fun ()=>some (0,0))=some ((q8L g 3 <|> (q8L g 4 <|> (q8L g 5 <|> q8L g 6))).getD (0,0)):=by
 have hstep:∀ k:Int,3≤k→k≤6→q6J g k=match q8L g k with | some z=>some (.inr (.inr z)) | none=>some (.inl (k+1)):=by
  intro k h3 h6
  unfold q6J q8L
  rw [if_pos h6,z9a (q:=fun r=>z6S g r k) (c:=fun i=>(k,(i:Int))) fun i x hx=>j9i (q9v h) (Nat.le_trans (z1b hx) h) k i]
  cases g.Rules.findIdx? fun r=>z6S g r k with
  | some i=>simp
  | none=>rw [Option.bind_some]; dsimp only [onr]; rw [q3B (by constructor<;>omega)]
 have hend:q6J g 7=some (.inr (.inl ())):=by unfold q6J; rw [if_neg (by omega)]
 have h3:=hstep 3 (by omega) (by omega)
 have h4:=hstep 4 (by omega) (by omega)
 have h5:=hstep 5 (by omega) (by omega)
 have h6:=hstep 6 (by omega) (by omega)
 cases s3:q8L g 3 with
 | some z=>rw [s3] at h3; rw [q3E h3]; rfl
 | none=>
  rw [s3] at h3
  rw [q3L h3,show (3:Int)+1=4 by rfl]
  cases s4:q8L g 4 with
  | some z=>rw [s4] at h4; rw [q3E h4]; rfl
  | none=>
   rw [s4] at h4
   rw [q3L h4,show (4:Int)+1=5 by rfl]
   cases s5:q8L g 5 with
   | some z=>rw [s5] at h5; rw [q3E h5]; rfl
   | none=>
    rw [s5] at h5
    rw [q3L h5,show (5:Int)+1=6 by rfl]
    cases s6:q8L g 6 with
    | some z=>rw [s6] at h6; rw [q3E h6]; rfl
    | none=>
     rw [s6] at h6
     rw [q3L h6,show (6:Int)+1=7 by rfl,q3E hend]; rfl
theorem k4Z {g:Grammar}(h:Sz.szd g≤1048576):z1Q g=some (z7V g):=by
 unfold z1Q z7V
 rw [j2v,Option.bind_some]
 by_cases h1:1≤g.Symbols.length∧g.Symbols.length≤4
 ·rw [decide_eq_true (by omega),if_pos rfl,j2v,Option.bind_some,decide_eq_true h1]
  by_cases h2:1≤g.Rules.length∧g.Rules.length≤8
  ·rw [decide_eq_true (by omega),if_pos rfl,k4R h,Option.bind_some,decide_eq_true h2]
   simp only [Bool.not_true,Bool.or_self,Bool.false_eq_true,if_false]
   by_cases h3:0≤z9G g
   ·rw [if_pos h3,if_pos h3]
   ·rw [if_neg h3,if_neg h3,List.getD_eq_getElem?_getD,List.getElem?_eq_getElem (by omega:0 < g.Symbols.length),Option.bind_some,Option.getD_some]
    unfold q4e q4u
    rw [q4S (q:=fun a:Attribute=>decide (a.Mode=1)) fun k y hy=>by
     unfold q6g z1N
     rw [Option.bind_some,← apply_ite some]]
    rw [Option.bind_some]
    by_cases h4:(g.Symbols[0].Attributes.any fun a=>decide (a.Mode=1))=true
    ·rw [if_pos h4,if_pos h4]
    ·rw [if_neg h4,if_neg h4]
     exact j5a h
  ·rw [decide_eq_false (by omega),decide_eq_false h2]; rfl
 ·rw [decide_eq_false (by omega),decide_eq_false h1]; rfl
theorem k5a {g:Grammar}(h:Sz.szd g≤1048576):z1z g=some (z7V g):=by
 unfold z1z z7V
 rw [z8T,Option.bind_some]
 by_cases h1:1≤g.Symbols.length∧g.Symbols.length≤4
 ·rw [decide_eq_true (by omega),if_pos rfl,z8T,Option.bind_some,decide_eq_true h1]
  by_cases h2:1≤g.Rules.length∧g.Rules.length≤8
  ·rw [decide_eq_true (by omega),if_pos rfl,k4S h,Option.bind_some,decide_eq_true h2]
   simp only [Bool.not_true,Bool.or_self,Bool.false_eq_true,if_false]
   by_cases h3:0≤z9G g
   ·rw [if_pos h3,if_pos h3]
   ·rw [if_neg h3,if_neg h3,List.getD_eq_getElem?_getD,List.getElem?_eq_getElem (by omega:0 < g.Symbols.length),Option.bind_some,Option.getD_some]
    rw [q4B (c:=((2:Int),(0:Int))) (q:=fun a:Attribute=>!decide (a.Mode=1)) fun k y hy=>by
     unfold z9C
     by_cases hm:y.Mode=1
     ·rw [if_pos hm,if_neg (by simp [hm])]
     ·rw [if_neg hm,if_pos (by simp [hm])]]
    have e:(g.Symbols[0].Attributes.all fun a=>!decide (a.Mode=1))=!(g.Symbols[0].Attributes.any fun a=>decide (a.Mode=1)):=by rw [List.not_any_eq_all_not]
    rw [e]
    cases (g.Symbols[0].Attributes.any fun a=>decide (a.Mode=1)) with
    | true=>rfl
    | false=>
     rw [Bool.not_false,if_pos rfl,Option.bind_some,z2p,if_neg (by simp),show z2X g=q6J g from funext fun k=>k0E h k]
     exact j5a h
  ·rw [decide_eq_false (by omega),decide_eq_false h2]; rfl
 ·rw [decide_eq_false (by omega),decide_eq_false h1]; rfl
theorem z9t {α:Type}{bad:List α→α→Bool}:∀ (xs pre:List α),q4Q bad pre xs=none→∀ k x,xs[k]? = some x→bad (pre++xs.take k) x=false
 | [],pre,h,k,x,hx=>by simp at hx
 | y :: xs,pre,h,k,x,hx=>by
  rw [q4Q] at h
  by_cases hb:bad pre y=true
  ·rw [if_pos hb] at h; cases h
  ·rw [if_neg hb] at h
   cases k with
   | zero=>simp at hx; subst hx; simpa using hb
   | succ k=>
    have:=z9t xs (pre++[y]) h k x (by simpa using hx)
    simpa using this
structure Shape (g:Grammar):Prop where
 syms:1≤g.Symbols.length∧g.Symbols.length≤4
 rules:1≤g.Rules.length∧g.Rules.length≤8
 sym:q4Q z6Q [] g.Symbols=none
 rule:q4Q z3O [] g.Rules=none
 brk:∀ k:Int,3≤k→k≤6→∀ r∈g.Rules,z6S g r k=false
 j8g:∀ y a,g.Symbols[0]? = some y→a∈y.Attributes→a.Mode≠1
theorem k1L {g:Grammar}(h:(z7V g).1=0):Shape g:=by
 unfold z7V at h
 by_cases h1:1≤g.Symbols.length∧g.Symbols.length≤4
 ·by_cases h2:1≤g.Rules.length∧g.Rules.length≤8
  ·rw [decide_eq_true h1,decide_eq_true h2] at h
   simp only [Bool.not_true,Bool.or_self,Bool.false_eq_true,if_false] at h
   by_cases h3:0≤z9G g
   ·rw [if_pos h3] at h; simp at h
   ·rw [if_neg h3] at h
    by_cases h4:((g.Symbols.getD 0 zS).Attributes.any fun a=>decide (a.Mode=1))=true
    ·rw [if_pos h4] at h; simp at h
    ·rw [if_neg h4] at h
     have hf:q4Q z6Q [] g.Symbols=none∧q4Q z3O [] g.Rules=none:=by
      unfold z9G at h3
      cases e1:q4Q z6Q [] g.Symbols with
      | some k=>rw [e1] at h3; exact absurd (Int.natCast_nonneg k) h3
      | none=>
       cases e2:q4Q z3O [] g.Rules with
       | some k=>rw [e1,e2] at h3; exact absurd (Int.natCast_nonneg k) h3
       | none=>exact⟨rfl,rfl⟩
     have hk:∀ k:Int,q8L g k=none→∀ r∈g.Rules,z6S g r k=false:=by
      intro k hk r hr
      unfold q8L at hk
      cases e:g.Rules.findIdx? fun r=>z6S g r k with
      | some i=>rw [e] at hk; cases hk
      | none=>
       rw [List.findIdx?_eq_none_iff] at e
       exact e r hr
     have hc:∀ k:Int,3≤k→∀ z,q8L g k=some z→z.1≠0:=by
      intro k h3 z hz
      unfold q8L at hz
      cases e:g.Rules.findIdx? fun r=>z6S g r k with
      | none=>rw [e] at hz; cases hz
      | some i=>rw [e] at hz; cases hz; show k≠0; omega
     have n3:q8L g 3=none:=by
      cases e:q8L g 3 with
      | none=>rfl
      | some z=>rw [e] at h; exact absurd h (hc 3 (by omega) z e)
     rw [n3] at h
     have n4:q8L g 4=none:=by
      cases e:q8L g 4 with
      | none=>rfl
      | some z=>rw [e] at h; exact absurd h (hc 4 (by omega) z e)
     rw [n4] at h
     have n5:q8L g 5=none:=by
      cases e:q8L g 5 with
      | none=>rfl
      | some z=>rw [e] at h; exact absurd h (hc 5 (by omega) z e)
     rw [n5] at h
     have n6:q8L g 6=none:=by
      cases e:q8L g 6 with
      | none=>rfl
      | some z=>rw [e] at h; exact absurd h (hc 6 (by omega) z e)
     refine⟨h1,h2,hf.1,hf.2,fun k k3 k6=>?_,fun y a hy ha hm=>h4 ?_⟩
     ·have:k=3∨k=4∨k=5∨k=6:=by omega
      rcases this with rfl | rfl | rfl | rfl
      ·exact hk _ n3
      ·exact hk _ n4
      ·exact hk _ n5
      ·exact hk _ n6
     ·rw [List.getD_eq_getElem?_getD,hy,List.any_eq_true]
      exact⟨a,ha,by simpa using hm⟩
  ·rw [decide_eq_false h2] at h; simp at h
 ·rw [decide_eq_false h1] at h; simp at h
theorem Shape.ruleB {g:Grammar}(h:Shape g){r:Rule}(hr:r∈g.Rules):ruleB r=true:=by
 obtain⟨k,hk⟩:=List.getElem?_of_mem hr
 have:=z9t _ _ h.rule k r hk
 unfold z3O at this
 rw [Bool.or_eq_false_iff] at this
 simpa using this.1
theorem Shape.symB {g:Grammar}(h:Shape g){y:Symbol}(hy:y∈g.Symbols):symB y=true:=by
 obtain⟨k,hk⟩:=List.getElem?_of_mem hy
 have:=z9t _ _ h.sym k y hk
 unfold z6Q at this
 rw [Bool.or_eq_false_iff] at this
 simpa using this.1
theorem Shape.pos {g:Grammar}(h:Shape g){r:Rule}(hr:r∈g.Rules){q:Equation}(hq:q∈r.Equations):0≤q.At.Pos∧q.At.Pos≤(r.Right.length:Int):=by
 have:=h.ruleB hr
 unfold Go.Proofs.YtcegfmageiicaaaGreat.ruleB at this
 simp only [Bool.and_eq_true,List.all_eq_true] at this
 have:=this.2.2.2.1 q hq
 unfold eqnB at this
 simp only [Bool.and_eq_true,decide_eq_true_eq] at this
 exact this.2.2
end Go.Proofs.YtcegfmageiicaaaGreat
namespace Go.Proofs.YtcegfmageiicaaaGreat
open Go Go.E
def typK (g:Grammar)(r:Rule)(k n p t:Int)(sy nm:ByteArray)(ts:List Int):Int:=
 if k=1 then t else if k=2 then (if r.Literal=true then 1 else 0) else if k=3 then (z2n g r ⟨p,nm⟩).1.Type_
 else if k=4 then (if ts.length=2∧ts.getD 0 0=(opT n).1∧ts.getD 1 0=(opT n).2.1 then (opT n).2.2 else 0)
 else if k=5 then (if ts.length=3∧ts.getD 0 0=3∧ts.getD 1 0=ts.getD 2 0 then ts.getD 1 0 else 0)
 else if k=6 then (if 0≤p∧p≤(r.Right.length:Int) then 4 else 0) else if k=7 then 4
 else if k=8 then (if ts.length=1∧ts.getD 0 0=4 then (z5Y (q8k g sy).1 nm).1.Type_ else 0) else 0
mutual
def typE (g:Grammar)(r:Rule):Expr→Int
 | ⟨k,n,p,t,sy,nm,a⟩=>typK g r k n p t sy nm (k6T g r a)
def k6T (g:Grammar)(r:Rule):List Expr→List Int
 | []=>[]
 | x :: xs=>typE g r x :: k6T g r xs
end
theorem k1M (g:Grammar)(r:Rule):∀ l,k6T g r l=l.map (typE g r)
 | []=>rfl
 | x :: xs=>by rw [k6T,k1M g r xs]; rfl
theorem k5b (g:Grammar)(r:Rule)(e:Expr):typE g r e=typK g r e.Kind e.N e.Pos e.Type_ e.Symbol e.Name (e.Args.map (typE g r)):=by
 cases e; rw [typE,k1M]
theorem j9j {y:Symbol}{s:ByteArray}(h:(z5Y y s).2≠true):(z5Y y s).1=zA:=by
 unfold z5Y at h ⊢
 cases hf:y.Attributes.find? (fun a=>decide (a.Name=s)) with
 | none=>rfl
 | some a=>rw [hf] at h; exact absurd rfl h
theorem k0F {g:Grammar}(h:GOk g)(s nm:ByteArray):q7F g s nm=some (z5Y (q8k g s).1 nm).1.Type_:=by
 unfold q7F
 rw [z6O h,Option.bind_some]
 try dsimp only
 rw [j4T,Option.bind_some]
 try dsimp only
 by_cases hb:(z5Y (q8k g s).1 nm).2=true
 ·rw [if_pos hb]
 ·rw [if_neg hb,j9j hb]; rfl
theorem k6U (g:Grammar){r:Rule}(hl:ROk r)(e:Expr):∀ m,fuE e≤m→Sz.szd e≤1048576→q8S m g r e=some (typE g r e):=by
 induction e using z2h with
 | h e ih=>
  intro m hm hs
  obtain⟨m,rfl⟩:∃ q,m=q+1:=⟨m - 1,by have:=z7T e; omega⟩
  show z1R (q8S m) g r e=_
  have hlen:e.Args.length≤1048576:=by have:=q8U e; have:=q5b e.Args; omega
  have hloop:∀ (xs:List Expr) (i:Nat) (s:List Int),(∀ x∈xs,x∈e.Args)→s.length+xs.length≤1048576→eachL (z3f (q8S m) g r) i xs s=some (s++xs.map (typE g r)):=by
   intro xs
   induction xs with
   | nil=>intro i s _ _; simp [eachL]
   | cons x xs ihx=>
    intro i s hx hn
    simp only [List.length_cons] at hn
    have e1:z3f (q8S m) g r i x s=some (s++[typE g r x]):=by
     unfold z3f
     have hxe:=hx x (by simp)
     rw [ih x hxe m (by have:=z7U hxe; omega) (by have:=k4m hxe; omega),Option.bind_some,q3B (by constructor<;>omega)]
    rw [eachL,e1,Option.bind_some,ihx _ _ (fun y hy=>hx y (by simp [hy])) (by simp; omega)]; simp
  unfold z1R
  rw [hloop e.Args 0 [] (fun _ h=>h) (by simpa using hlen),Option.bind_some,List.nil_append,k5b]
  generalize e.Args.map (typE g r)=ts
  unfold typK
  by_cases k1:e.Kind=1
  ·rw [if_pos k1,if_pos k1]
  rw [if_neg k1,if_neg k1]
  by_cases k2:e.Kind=2
  ·rw [if_pos k2,if_pos k2,Option.bind_some]
   by_cases hL:r.Literal=true
   ·rw [if_pos hL,if_pos hL]
   ·rw [if_neg hL,if_neg hL]
    simp [k2]
  rw [if_neg k2,if_neg k2,Option.bind_some,if_neg (by simp)]
  by_cases k3:e.Kind=3
  ·rw [if_pos k3,if_pos k3,j1S g hl]; rfl
  rw [if_neg k3,if_neg k3]
  by_cases k4:e.Kind=4
  ·rw [if_pos k4,if_pos k4,Option.bind_some]
   by_cases hn:ts.length=2
   ·obtain⟨a,b,rfl⟩:∃ a b,ts=[a,b]:=by
     match ts,hn with
     | [a,b],_=>exact⟨a,b,rfl⟩
    rw [if_pos (by simp),k8T,Option.bind_some]
    simp only [List.getElem?_cons_zero,List.getElem?_cons_succ,Option.bind_some,List.getD_cons_zero,List.getD_cons_succ]
    by_cases ha:a=(opT e.N).1
    ·rw [if_pos ha,Option.bind_some]
     by_cases hb:b=(opT e.N).2.1
     ·rw [if_pos (by simp [hb]),if_pos ⟨hn,ha,hb⟩]
     ·rw [if_neg (by simp [hb]),if_neg fun h=>hb h.2.2]
    ·rw [if_neg ha,Option.bind_some,if_neg (by simp),if_neg fun h=>ha h.2.1]
   ·have hz:(if ts.length=2∧ts.getD 0 0=(opT e.N).1∧ts.getD 1 0=(opT e.N).2.1 then (opT e.N).2.2 else 0)=0:=if_neg fun h=>hn h.1
    rw [hz,if_neg (by simp; omega)]
    simp [k4]
  rw [if_neg k4,if_neg k4,Option.bind_some,if_neg (by simp)]
  by_cases k5:e.Kind=5
  ·rw [if_pos k5,if_pos k5,Option.bind_some]
   by_cases hn:ts.length=3
   ·obtain⟨a,b,c,rfl⟩:∃ a b c,ts=[a,b,c]:=by
     match ts,hn with
     | [a,b,c],_=>exact⟨a,b,c,rfl⟩
    rw [if_pos (by simp)]
    simp only [List.getElem?_cons_zero,List.getElem?_cons_succ,Option.bind_some,List.getD_cons_zero,List.getD_cons_succ]
    by_cases ha:a=3
    ·rw [if_pos ha]
     by_cases hb:b=c
     ·rw [if_pos hb,if_pos ⟨hn,ha,hb⟩]
     ·rw [if_neg hb,if_neg fun h=>hb h.2.2]
    ·rw [if_neg ha,if_neg fun h=>ha h.2.1]
   ·have hz:(if ts.length=3∧ts.getD 0 0=3∧ts.getD 1 0=ts.getD 2 0 then ts.getD 1 0 else 0)=0:=if_neg fun h=>hn h.1
    rw [hz,if_neg (by simp; omega)]
    simp [k5]
  rw [if_neg k5,if_neg k5,Option.bind_some,if_neg (by simp)]
  by_cases k6:e.Kind=6
  ·rw [if_pos k6,if_pos k6,j2v,Option.bind_some,Option.bind_some]
   by_cases hp:0≤e.Pos∧e.Pos≤(r.Right.length:Int)
   ·rw [decide_eq_true hp,if_pos hp]; rfl
   ·rw [decide_eq_false hp,if_neg hp]
    simp [k6]
  rw [if_neg k6,if_neg k6,Option.bind_some,if_neg (by simp),Option.bind_some]
  by_cases k7:e.Kind=7
  ·rw [if_pos (by simp [k7]),if_pos k7]
  rw [if_neg (by simp [k7]),if_neg k7]
  by_cases k8:e.Kind=8
  ·rw [if_pos k8,if_pos k8,Option.bind_some]
   by_cases hn:ts.length=1
   ·obtain⟨a,rfl⟩:∃ a,ts=[a]:=by
     match ts,hn with
     | [a],_=>exact⟨a,rfl⟩
    rw [if_pos (by simp)]
    simp only [List.getElem?_cons_zero,Option.bind_some,List.getD_cons_zero]
    by_cases ha:a=4
    ·rw [if_pos (by simp [ha]),if_pos ⟨hn,ha⟩,z5f,Option.bind_some]
     try dsimp only
     rw [j1i]; rfl
    ·rw [if_neg (by simp [ha]),if_neg fun h=>ha h.2]
   ·rw [if_neg (by simp; omega),if_neg fun h=>hn h.1]; rfl
  rw [if_neg k8,if_neg k8]; rfl
theorem k0G (g:Grammar){r:Rule}(hl:ROk r){e:Expr}(hs:Sz.szd e≤1048576):z1S g r e=some (typE g r e):=q9p (fuE e) fun m hm=>k6U g hl e m hm hs
theorem k6V {g:Grammar}(h:GOk g){r:Rule}(hl:ROk r)(e:Expr):∀ m,fuE e≤m→q9Z m g r e=some (typE g r e):=by
 induction e using z2h with
 | h e ih=>
  intro m hm
  obtain⟨m,rfl⟩:∃ q,m=q+1:=⟨m - 1,by have:=z7T e; omega⟩
  show z1A (q9Z m) g r e=_
  have hx:∀ x∈e.Args,q9Z m g r x=some (typE g r x):=fun x hxe=>ih x hxe m (by have:=z7U hxe; omega)
  unfold z1A
  rw [k5b]
  unfold typK
  by_cases k1:e.Kind=1
  ·rw [if_pos k1,if_pos k1]
  rw [if_neg k1,if_neg k1]
  by_cases k2:e.Kind=2
  ·rw [if_pos k2,if_pos k2,← apply_ite some]
  rw [if_neg k2,if_neg k2]
  by_cases k3:e.Kind=3
  ·rw [if_pos k3,if_pos k3,z8T,Option.bind_some]
   unfold z2n
   by_cases hp:0≤e.Pos∧e.Pos≤(r.Right.length:Int)
   ·rw [if_pos (by simpa using hp),if_pos hp,z7B hl,Option.bind_some,k0F h]; rfl
   ·rw [if_neg (by simpa using hp),if_neg hp]; rfl
  rw [if_neg k3,if_neg k3]
  by_cases k4:e.Kind=4
  ·rw [if_pos k4,if_pos k4]
   unfold j3j
   rw [k8U,Option.bind_some]
   try dsimp only
   by_cases hn:e.Args.length=2
   ·obtain⟨a,b,hab⟩:∃ a b,e.Args=[a,b]:=by
     match e.Args,hn with
     | [a,b],_=>exact⟨a,b,rfl⟩
    rw [hab] at hx
    rw [hab,if_pos (by simp)]
    simp only [List.getElem?_cons_zero,List.getElem?_cons_succ,Option.bind_some,List.map_cons,List.map_nil,List.getD_cons_zero,List.getD_cons_succ]
    rw [hx a (by simp),Option.bind_some]
    by_cases ha:typE g r a=(opT e.N).1
    ·rw [if_pos ha,hx b (by simp),Option.bind_some]
     by_cases hb:typE g r b=(opT e.N).2.1
     ·rw [if_pos hb,if_pos ⟨by simp,ha,hb⟩]; rfl
     ·rw [if_neg hb,if_neg fun h=>hb h.2.2]; rfl
    ·rw [if_neg ha,if_neg fun h=>ha h.2.1]; rfl
   ·rw [if_neg (by omega),if_neg fun h=>hn (by simpa using h.1)]; rfl
  rw [if_neg k4,if_neg k4]
  by_cases k5:e.Kind=5
  ·rw [if_pos k5,if_pos k5]
   unfold j3k
   by_cases hn:e.Args.length=3
   ·obtain⟨a,b,c,hab⟩:∃ a b c,e.Args=[a,b,c]:=by
     match e.Args,hn with
     | [a,b,c],_=>exact⟨a,b,c,rfl⟩
    rw [hab] at hx
    rw [hab,if_pos (by simp)]
    simp only [List.getElem?_cons_zero,List.getElem?_cons_succ,Option.bind_some,List.map_cons,List.map_nil,List.getD_cons_zero,List.getD_cons_succ]
    rw [hx a (by simp),Option.bind_some]
    by_cases ha:typE g r a=3
    ·rw [if_pos ha,hx b (by simp),Option.bind_some,hx c (by simp),Option.bind_some]
     by_cases hb:typE g r b=typE g r c
     ·rw [if_pos hb,if_pos ⟨by simp,ha,hb⟩]; rfl
     ·rw [if_neg hb,if_neg fun h=>hb h.2.2]; rfl
    ·rw [if_neg ha,if_neg fun h=>ha h.2.1]; rfl
   ·rw [if_neg (by omega),if_neg fun h=>hn (by simpa using h.1)]; rfl
  rw [if_neg k5,if_neg k5]
  by_cases k6:e.Kind=6
  ·rw [if_pos k6,if_pos k6,z8T,Option.bind_some]
   by_cases hp:0≤e.Pos∧e.Pos≤(r.Right.length:Int)
   ·rw [if_pos (by simpa using hp),if_pos hp]
   ·rw [if_neg (by simpa using hp),if_neg hp]
  rw [if_neg k6,if_neg k6]
  by_cases k7:e.Kind=7
  ·rw [if_pos k7,if_pos k7]
  rw [if_neg k7,if_neg k7]
  by_cases k8:e.Kind=8
  ·rw [if_pos k8,if_pos k8]
   by_cases hn:e.Args.length=1
   ·obtain⟨a,hab⟩:∃ a,e.Args=[a]:=by
     match e.Args,hn with
     | [a],_=>exact⟨a,rfl⟩
    rw [hab] at hx
    rw [hab,if_pos (by simp)]
    simp only [List.getElem?_cons_zero,Option.bind_some,List.map_cons,List.map_nil,List.getD_cons_zero]
    rw [hx a (by simp),Option.bind_some]
    by_cases ha:typE g r a=4
    ·rw [if_pos ha,if_pos ⟨by simp,ha⟩,k0F h]; rfl
    ·rw [if_neg ha,if_neg fun h=>ha h.2]
   ·rw [if_neg (by omega),if_neg fun h=>hn (by simpa using h.1)]
  rw [if_neg k8,if_neg k8]
theorem k0H {g:Grammar}(h:GOk g){r:Rule}(hl:ROk r)(e:Expr):z1B g r e=some (typE g r e):=q9p (fuE e) fun m hm=>k6V h hl e m hm
def conT (g:Grammar)(r:Rule)(q:Contribution):Bool:=(decide (typE g r q.Target=4)&&decide (typE g r q.Value=2))&&decide ((z5Y (q8k g q.Symbol).1 q.Name).1.Mode=3)
def typR (g:Grammar)(r:Rule):Bool:=(r.Equations.all fun q=>decide (typE g r q.Expr=(z2n g r q.At).1.Type_))&&r.Contributions.all (conT g r)
theorem k6W (g:Grammar){r:Rule}(hr:Sz.szd r≤1048576):z4Q g r=some (!typR g r):=by
 have hl:=q6c hr
 unfold z4Q typR
 rw [q4B (c:=true) (q:=fun q:Equation=>decide (typE g r q.Expr=(z2n g r q.At).1.Type_)) fun k x hx=>by
  unfold j2n
  rw [j1S g hl,Option.bind_some]
  try dsimp only
  rw [k0G g hl (Nat.le_trans (j0j hx) hr),Option.bind_some]
  by_cases hp:typE g r x.Expr=(z2n g r x.At).1.Type_
  ·rw [if_pos hp,if_pos (by simpa using hp)]
  ·rw [if_neg hp,if_neg (by simpa using hp)]]
 rw [q4B (c:=true) (q:=conT g r) fun k x hx=>by
  have hs:=j1k hx
  unfold j2o conT
  rw [z5f,Option.bind_some]
  try dsimp only
  rw [j1i,Option.bind_some]
  try dsimp only
  rw [k0G g hl (Nat.le_trans hs.1 hr),Option.bind_some]
  by_cases h1:typE g r x.Target=4
  ·rw [if_pos h1,k0G g hl (Nat.le_trans hs.2 hr),Option.bind_some,Option.bind_some,decide_eq_true h1]
   cases decide (typE g r x.Value=2) with
   | false=>rfl
   | true=>
    rw [Bool.not_true,if_neg (by simp),Option.bind_some]
    cases decide ((z5Y (q8k g x.Symbol).1 x.Name).1.Mode=3)<;>rfl
  ·rw [if_neg h1,decide_eq_false h1]; rfl]
 cases r.Equations.all fun q=>decide (typE g r q.Expr=(z2n g r q.At).1.Type_) with
 | false=>rfl
 | true=>cases r.Contributions.all (conT g r)<;>rfl
theorem k6X {g:Grammar}(h:GOk g){r:Rule}(hr:Sz.szd r≤1048576)(hp:∀ q∈r.Equations,0≤q.At.Pos∧q.At.Pos≤(r.Right.length:Int)):z6l g r=some (typR g r):=by
 have hl:=q6c hr
 unfold z6l typR
 rw [q4B (c:=false) (q:=fun q:Equation=>decide (typE g r q.Expr=(z2n g r q.At).1.Type_)) fun k x hx=>by
  unfold j4m
  rw [k0H h hl,Option.bind_some,z7B hl,Option.bind_some,k0F h,Option.bind_some]
  have e:(z5Y (q8k g (q6G r x.At.Pos)).1 x.At.Name).1.Type_=(z2n g r x.At).1.Type_:=by unfold z2n; rw [if_pos (hp x hx)]
  rw [e]
  by_cases hp:typE g r x.Expr=(z2n g r x.At).1.Type_
  ·rw [if_pos hp,if_pos (by simpa using hp)]
  ·rw [if_neg hp,if_neg (by simpa using hp)]]
 rw [q4B (c:=false) (q:=conT g r) fun k x hx=>by
  unfold j4n conT
  rw [z6O h,Option.bind_some]
  try dsimp only
  rw [j4T,Option.bind_some]
  try dsimp only
  have e:(if (z5Y (q8k g x.Symbol).1 x.Name).2=true then some (!decide ((z5Y (q8k g x.Symbol).1 x.Name).1.Mode=3)) else some true)=some (!decide ((z5Y (q8k g x.Symbol).1 x.Name).1.Mode=3)):=by
   by_cases hb:(z5Y (q8k g x.Symbol).1 x.Name).2=true
   ·rw [if_pos hb]
   ·rw [if_neg hb,j9j hb]; rfl
  rw [e,Option.bind_some]
  cases decide ((z5Y (q8k g x.Symbol).1 x.Name).1.Mode=3) with
  | false=>rw [Bool.and_false]; rfl
  | true=>
   rw [Bool.not_true,if_neg (by simp),k0H h hl,Option.bind_some,Option.bind_some]
   cases decide (typE g r x.Target=4) with
   | false=>rfl
   | true=>
    rw [Bool.not_true,if_neg (by simp),k0H h hl,Option.bind_some,Option.bind_some]
    cases decide (typE g r x.Value=2)<;>rfl]
 cases r.Equations.all fun q=>decide (typE g r q.Expr=(z2n g r q.At).1.Type_) with
 | false=>rfl
 | true=>cases r.Contributions.all (conT g r)<;>rfl
end Go.Proofs.YtcegfmageiicaaaGreat
namespace Go.Proofs.YtcegfmageiicaaaGreat
open Go Go.E
def atS (g:Grammar)(n:ByteArray):Option Nat:=g.Symbols.findIdx? fun y=>decide (y.Name=n)
def atI (g:Grammar)(n:ByteArray):Int:=match atS g n with
 | some j=>(j:Int)
 | none=>-1
theorem j1l {α ρ:Type}{q:α→Bool}{c:Nat→ρ}:∀ {xs:List α} {i:Nat} {f:Nat→α→Unit→Option (Unit ⊕ ρ)},(∀ j x,xs[j]? = some x→f (i+j) x ()=some (if q x=true then .inr (c (i+j)) else .inl ())) →
  findL f i xs ()=some (match xs.findIdx? q with | some j=>.inr (c (i+j)) | none=>.inl ())
 | [],_,_,_=>rfl
 | x :: xs,i,f,h=>by
  rw [findL,show f i x ()=_ from h 0 x rfl,Option.bind_some,List.findIdx?_cons]
  by_cases hq:q x=true
  ·rw [if_pos hq,if_pos hq]
  ·rw [if_neg hq,if_neg hq]
   have ih:=j1l (q:=q) (c:=c) (xs:=xs) (i:=i+1) (f:=f) fun j y hy=>by
    have:=h (j+1) y (by simpa using hy)
    rw [show i+1+j=i+(j+1) by omega]; exact this
   dsimp only
   rw [ih]
   cases xs.findIdx? q with
   | none=>rfl
   | some j=>simp only [Option.map_some]; rw [show i+1+j=i+(j+1) by omega]
theorem k3h (g:Grammar)(n:ByteArray):z2Y g n=some (atI g n):=by
 unfold z2Y atI atS
 rw [j1l (q:=fun y:Symbol=>decide (y.Name=n)) (c:=fun k=>(k:Int)) fun j x hx=>by
  unfold j8H
  by_cases hn:x.Name=n
  ·rw [if_pos hn,if_pos (by simpa using hn)]
  ·rw [if_neg hn,if_neg (by simpa using hn)]]
 cases g.Symbols.findIdx? fun y=>decide (y.Name=n) with
 | none=>rfl
 | some j=>dsimp only; rw [Nat.zero_add]; rfl
theorem x0a {g:Grammar}{n:ByteArray}{j:Nat}(h:atS g n=some j):j < g.Symbols.length:=by
 unfold atS at h
 rw [List.findIdx?_eq_some_iff_getElem] at h
 exact h.1
def okAt (g:Grammar)(hs:List Int)(n:ByteArray):Bool:=match atS g n with
 | some j=>decide (0 < hs.getD j 0)
 | none=>false
def j6l (g:Grammar)(hs:List Int)(n:ByteArray):Bool:=g.Rules.any fun r=>decide (r.Left=n)&&r.Right.all (okAt g hs)
theorem j5b {α:Type}{q:α→Bool}{f:Nat→α→Bool→Option Bool}:∀ (xs:List α) (i:Nat) (b:Bool),(∀ k x s,x∈xs→f k x s=some (s&&q x))→eachL f i xs b=some (b&&xs.all q)
 | [],_,b,_=>by simp [eachL]
 | x :: xs,i,b,h=>by
  rw [eachL,h i x b (by simp),Option.bind_some,j5b xs (i+1) _ fun k y s hy=>h k y s (by simp [hy]),List.all_cons,Bool.and_assoc]
theorem getD_some {hs:List Int}{j:Nat}(h:j < hs.length):hs[j]? = some (hs.getD j 0):=by
 rw [List.getD_eq_getElem?_getD,List.getElem?_eq_getElem h]; rfl
theorem x0b {g:Grammar}{hs:List Int}(hl:hs.length=g.Symbols.length)(n:ByteArray):z3u n g hs=some (match atS g n with | some j=>hs.getD j 0 | none=>0):=by
 unfold z3u atS
 rw [j1l (q:=fun y:Symbol=>decide (y.Name=n)) (c:=fun k=>hs.getD k 0) fun j x hx=>by
  unfold j0R
  have hj:j < g.Symbols.length:=(List.getElem?_eq_some_iff.1 hx).1
  by_cases hn:x.Name=n
  ·rw [if_pos hn,if_pos (by simpa using hn),Nat.zero_add,getD_some (by omega)]; rfl
  ·rw [if_neg hn,if_neg (by simpa using hn)]]
 cases g.Symbols.findIdx? fun y=>decide (y.Name=n) with
 | none=>rfl
 | some j=>dsimp only; rw [Nat.zero_add]; rfl
theorem k3i {g:Grammar}{hs:List Int}(hl:hs.length=g.Symbols.length)(xs:List ByteArray)(b:Bool):eachL (z9Y g hs) 0 xs b=some (b&&xs.all (okAt g hs)):=
 j5b xs 0 b fun k x s _=>by
  unfold z9Y okAt
  cases s with
  | false=>rfl
  | true=>
   rw [if_pos rfl,x0b hl,Option.bind_some,Option.bind_some,Bool.true_and]
   cases atS g x<;>rfl
theorem k3j {g:Grammar}{hs:List Int}(hl:hs.length=g.Symbols.length)(xs:List ByteArray)(b:Bool):eachL (z5S g hs) 0 xs b=some (b&&xs.all (okAt g hs)):=
 j5b xs 0 b fun k x s _=>by
  unfold z5S okAt
  rw [k3h,Option.bind_some]
  unfold atI
  cases s with
  | false=>rfl
  | true=>
   cases hj:atS g x with
   | none=>rfl
   | some j=>
    have:=x0a hj
    dsimp only
    rw [if_pos rfl,Option.bind_some,decide_eq_true (Int.natCast_nonneg j),if_pos rfl]
    unfold z0J
    by_cases h0:(0:Int) < (j:Int)
    ·rw [if_pos h0,Option.bind_some,q3B (Int.natCast_nonneg j),Int.toNat_natCast,getD_some (by omega)]; rfl
    ·obtain rfl:j=0:=by omega
     rw [if_neg h0,Option.bind_some,q3B (by omega),show (0:Int).toNat=0 from rfl,getD_some (by omega)]; rfl
theorem k5c {g:Grammar}{hs:List Int}(hl:hs.length=g.Symbols.length)(n:ByteArray):z1C g n hs=some (j6l g hs n):=by
 unfold z1C j6l
 rw [q4B (c:=true) (q:=fun r:Rule=>!(decide (r.Left=n)&&r.Right.all (okAt g hs))) fun k x hx=>by
  unfold z9D
  rw [k3j hl,Option.bind_some]
  cases (decide (x.Left=n)&&x.Right.all (okAt g hs))<;>rfl]
 have e:(g.Rules.all fun r=>!(decide (r.Left=n)&&r.Right.all (okAt g hs)))=!(g.Rules.any fun r=>decide (r.Left=n)&&r.Right.all (okAt g hs)):=by rw [List.not_any_eq_all_not]
 rw [e]
 cases g.Rules.any fun r=>decide (r.Left=n)&&r.Right.all (okAt g hs)<;>rfl
def HsOk (g:Grammar)(hs:List Int):Prop:=hs.length=g.Symbols.length∧∀ j,0≤hs.getD j 0
theorem HsOk.set {g:Grammar}{hs:List Int}(h:HsOk g hs){k:Nat}{v:Int}(hv:0≤v):HsOk g (hs.set k v):=by
 refine⟨by simpa using h.1,fun j=>?_⟩
 rw [List.getD_eq_getElem?_getD,List.getElem?_set]
 split
 ·split
  ·exact hv
  ·simp
 ·rw [← List.getD_eq_getElem?_getD]; exact h.2 j
theorem k5d {g:Grammar}{hs:List Int}(hl:hs.length=g.Symbols.length){v:Int}(k:Nat)(x:Symbol)(hk:k < g.Symbols.length):∀ (rs:List Rule) (i:Nat) (s:List Int),s.length=g.Symbols.length →
  eachL (z7l g v hs k x) i rs s=some (if (rs.any fun r=>decide (r.Left=x.Name)&&r.Right.all (okAt g hs))=true then s.set k v else s)
 | [],i,s,_=>by simp [eachL]
 | r :: rs,i,s,hs'=>by
  have e:z7l g v hs k x i r s=some (if (decide (r.Left=x.Name)&&r.Right.all (okAt g hs))=true then s.set k v else s):=by
   unfold z7l
   rw [k3i hl,Option.bind_some]
   cases (decide (r.Left=x.Name)&&r.Right.all (okAt g hs)) with
   | false=>rfl
   | true=>rw [if_pos rfl,if_pos rfl,List.getElem?_eq_getElem (by omega)]; rfl
  rw [eachL,e,Option.bind_some]
  by_cases hb:(decide (r.Left=x.Name)&&r.Right.all (okAt g hs))=true
  ·rw [if_pos hb,k5d hl k x hk rs (i+1) (s.set k v) (by simpa using hs')]
   have:(r :: rs).any (fun r=>decide (r.Left=x.Name)&&r.Right.all (okAt g hs))=true:=by rw [List.any_cons,hb]; rfl
   rw [if_pos this,List.set_set,ite_self]
  ·rw [if_neg hb,k5d hl k x hk rs (i+1) s hs']
   have:(r :: rs).any (fun r=>decide (r.Left=x.Name)&&r.Right.all (okAt g hs))=rs.any (fun r=>decide (r.Left=x.Name)&&r.Right.all (okAt g hs)):=by rw [List.any_cons,Bool.eq_false_iff.2 hb]; rfl
   rw [this]
theorem x0D {g:Grammar}{hs:List Int}(h:HsOk g hs){v:Int}{k:Nat}{x:Symbol}(hk:k < g.Symbols.length){s:List Int}(hs' : s.length=g.Symbols.length) :
  z7m g v hs k x s=some (if (decide (hs.getD k 0=0)&&j6l g hs x.Name)=true then s.set k v else s):=by
 have h0:=h.2 k
 unfold z7m
 rw [getD_some (by rw [h.1]; exact hk),Option.bind_some]
 by_cases hz:hs.getD k 0=0
 ·rw [if_neg (by omega),decide_eq_true hz,k5d h.1 k x hk _ _ _ hs']; rfl
 ·rw [if_pos (by omega),decide_eq_false hz]; rfl
theorem x0E {g:Grammar}{hs:List Int}(h:HsOk g hs){v:Int}{k:Nat}{x:Symbol}(hk:k < g.Symbols.length){s:List Int}(hs' : s.length=g.Symbols.length) :
  z2Z g hs v k x s=some (if (decide (hs.getD k 0=0)&&j6l g hs x.Name)=true then s.set k v else s):=by
 unfold z2Z
 rw [getD_some (by rw [h.1]; exact hk),Option.bind_some]
 by_cases hz:hs.getD k 0=0
 ·rw [if_pos hz,decide_eq_true hz,k5c h.1,Option.bind_some,Bool.true_and]
  cases j6l g hs x.Name with
  | false=>rfl
  | true=>rw [if_pos rfl,if_pos rfl,List.getElem?_eq_getElem (by omega)]; rfl
 ·rw [if_neg hz,decide_eq_false hz]; rfl
theorem j6m {g:Grammar}{hs:List Int}(h:HsOk g hs){v:Int}(hv:0≤v):∀ (xs:List Symbol) (i:Nat) (s:List Int),i+xs.length=g.Symbols.length→HsOk g s →
  ∃ t,eachL (z7m g v hs) i xs s=some t∧eachL (z2Z g hs v) i xs s=some t∧HsOk g t
 | [],i,s,_,hs'=>⟨s,rfl,rfl,hs'⟩
 | x :: xs,i,s,hi,hs'=>by
  simp only [List.length_cons] at hi
  have e1:=x0D (x:=x) h (v:=v) (k:=i) (by omega) hs'.1
  have e2:=x0E (x:=x) h (v:=v) (k:=i) (by omega) hs'.1
  have hn:HsOk g (if (decide (hs.getD i 0=0)&&j6l g hs x.Name)=true then s.set i v else s):=by
   split
   ·exact hs'.set hv
   ·exact hs'
  obtain⟨t,h1,h2,h3⟩:=j6m h hv xs (i+1) _ (by omega) hn
  exact⟨t,by rw [eachL,e1,Option.bind_some,h1],by rw [eachL,e2,Option.bind_some,h2],h3⟩
theorem j2y {g:Grammar}(hn:g.Symbols.length≤1048576):∃ l,z4r g=some l∧z1D g=some l∧HsOk g l:=by
 have key:∀ (m k:Nat) (hs:List Int),k+m=g.Symbols.length+1→1≤k→HsOk g hs→∃ t,q4i (z2E g) ((k:Int),hs)=some t∧q4i (q9g g) (hs,(k:Int))=some t∧HsOk g t:=by
  intro m
  induction m with
  | zero=>
   intro k hs hk _ h
   refine⟨hs,q3E ?_,q3E ?_,h⟩
   ·unfold z2E; dsimp only; rw [if_neg (by omega)]
   ·unfold q9g; dsimp only; rw [if_neg (by omega)]
  | succ m ih=>
   intro k hs hk h1 h
   have hl:=h.1
   obtain⟨t,e1,e2,e3⟩:=j6m h (v:=(k:Int)) (by omega) g.Symbols 0 hs (by omega) h
   obtain⟨q,f1,f2,f3⟩:=ih (k+1) t (by omega) (by omega) e3
   refine⟨q,?_,?_,f3⟩
   ·have e:z2E g ((k:Int),hs)=some (.inl (((k+1:Nat):Int),t)):=by
     unfold z2E; dsimp only
     rw [if_pos (by omega),q3B (by refine⟨?_,?_,?_⟩<;>omega),q3B (by simp),e1,Option.bind_some,q3B (by constructor<;>omega)]; rfl
    rw [q3L e]; exact f1
   ·have e:q9g g (hs,(k:Int))=some (.inl (t,((k+1:Nat):Int))):=by
     unfold q9g; dsimp only
     rw [if_pos (by omega),q3B (by simp only [List.length_nil]; constructor<;>omega),e2,Option.bind_some,q3B (by constructor<;>omega)]; rfl
    rw [q3L e]; exact f2
 have h0:HsOk g (List.replicate g.Symbols.length (0:Int)):=⟨by simp,fun j=>by rw [List.getD_eq_getElem?_getD,List.getElem?_replicate]; split<;>simp⟩
 obtain⟨t,f1,f2,f3⟩:=key g.Symbols.length 1 (List.replicate g.Symbols.length 0) (by omega) (by omega) h0
 refine⟨t,?_,?_,f3⟩
 ·unfold z4r
  rw [q3B (by refine⟨?_,?_,?_⟩<;>omega),show q4i (z2E g) (1,List.replicate g.Symbols.length 0)=some t from f1]; rfl
 ·unfold z1D
  rw [q3B (by refine⟨?_,?_,?_⟩<;>omega),show q4i (q9g g) (List.replicate g.Symbols.length 0,1)=some t from f2]; rfl
theorem Shape.names {g:Grammar}(h:Shape g){k j:Nat}{x y:Symbol}(hk:g.Symbols[k]? = some x)(hj:g.Symbols[j]? = some y)(hn:x.Name=y.Name):k=j:=by
 have key:∀ {k j:Nat} {x y:Symbol},g.Symbols[k]? = some x→g.Symbols[j]? = some y→x.Name=y.Name→¬ k < j:=by
  intro k j x y hk hj hn hlt
  have:=z9t _ _ h.sym j y hj
  unfold z6Q at this
  rw [Bool.or_eq_false_iff] at this
  have h2:=this.2
  unfold dupB at h2
  rw [List.nil_append,List.any_eq_false] at h2
  exact h2 x (List.mem_of_getElem? (i:=k) (by rw [List.getElem?_take,if_pos hlt]; exact hk)) (by simpa using hn)
 have h1:=key hk hj hn
 have h2:=key hj hk hn.symm
 omega
theorem Shape.at_ {g:Grammar}(h:Shape g){k:Nat}{x:Symbol}(hk:g.Symbols[k]? = some x):atS g x.Name=some k:=by
 unfold atS
 cases he:g.Symbols.findIdx? fun y=>decide (y.Name=x.Name) with
 | none=>
  rw [List.findIdx?_eq_none_iff] at he
  have:=he x (List.mem_of_getElem? hk)
  simp at this
 | some j=>
  rw [List.findIdx?_eq_some_iff_getElem] at he
  obtain⟨hj,h1,_⟩:=he
  rw [h.names (List.getElem?_eq_getElem hj) hk (by simpa using h1)]
noncomputable def hgtL (g:Grammar):List Int:=(z4r g).getD []
noncomputable def k0I (g:Grammar):Int × Int:=
 if (z7V g).1=0 then
  match g.Rules.findIdx? fun r=>!typR g r with
  | some k=>(7,(k:Int))
  | none=>match (hgtL g).findIdx? fun x=>decide (x=0) with
   | some k=>(8,(k:Int))
   | none=>(0,0)
 else z7V g
theorem k6Y {g:Grammar}(h:Sz.szd g≤1048576):q9T g=some (k0I g):=by
 unfold q9T k0I
 rw [k4Z h,Option.bind_some]
 dsimp only
 by_cases h0:(z7V g).1=0
 ·rw [if_pos h0,if_pos h0]
  rw [z9a (q:=fun r=>!typR g r) (c:=fun k=>((7:Int),(k:Int))) fun k r hr=>by
   unfold z7N
   rw [k6W g (Nat.le_trans (z1b hr) h),Option.bind_some,← apply_ite some]]
  cases g.Rules.findIdx? fun r=>!typR g r with
  | some k=>dsimp only; rw [Nat.zero_add]; rfl
  | none=>
   obtain⟨l,e1,e2,e3⟩:=j2y (g:=g) (k0B h).1
   rw [Option.bind_some,z2p,e1,Option.bind_some]
   unfold hgtL
   rw [e1,Option.getD_some]
   rw [z9a (q:=fun x:Int=>decide (x=0)) (c:=fun k=>((8:Int),(k:Int))) fun k x hx=>by
    unfold z7O
    by_cases hz:x=0
    ·rw [if_pos hz,if_pos (by simpa using hz)]
    ·rw [if_neg hz,if_neg (by simpa using hz)]]
   dsimp only
   cases l.findIdx? fun x=>decide (x=0) with
   | some k=>dsimp only; rw [Nat.zero_add]; rfl
   | none=>rfl
 ·rw [if_neg h0,if_neg h0]
theorem k6Z {g:Grammar}(h:Sz.szd g≤1048576):q9Q g=some (k0I g):=by
 unfold q9Q k0I
 rw [k5a h,Option.bind_some]
 dsimp only
 by_cases h0:(z7V g).1=0
 ·have hS:=k1L h0
  rw [if_pos h0,if_pos h0]
  rw [z9a (q:=fun r=>!typR g r) (c:=fun k=>((7:Int),(k:Int))) fun k r hr=>by
   unfold z7M
   rw [k6X (q9v h) (Nat.le_trans (z1b hr) h) fun q hq=>hS.pos hr hq,Option.bind_some]
   cases typR g r<;>rfl]
  cases g.Rules.findIdx? fun r=>!typR g r with
  | some k=>dsimp only; rw [Nat.zero_add]; rfl
  | none=>
   obtain⟨l,e1,e2,e3⟩:=j2y (g:=g) (k0B h).1
   rw [Option.bind_some,z2p]
   unfold hgtL
   rw [e1,Option.getD_some]
   have hprod:∀ k x,g.Symbols[k]? = some x→q9P g x.Name=some (!decide (l.getD k 0=0)):=by
    intro k x hk
    have hk' : k < g.Symbols.length:=(List.getElem?_eq_some_iff.1 hk).1
    have ha:atI g x.Name=(k:Int):=by unfold atI; rw [hS.at_ hk]
    unfold q9P z5B
    rw [k3h,ha,Option.bind_some,if_neg (by omega),e2,Option.bind_some,q3B (by omega),Int.toNat_natCast,getD_some (by rw [e3.1]; exact hk'),Option.bind_some,Option.bind_some]
    have:=e3.2 k
    congr 1
    by_cases hz:l.getD k 0=0
    ·rw [decide_eq_true hz,decide_eq_false (by omega)]; rfl
    ·rw [decide_eq_false hz,decide_eq_true (by omega)]; rfl
   have hrun:∀ (xs:List Symbol) (ys:List Int) (i:Nat),(∀ j x,xs[j]? = some x→g.Symbols[i+j]? = some x)→ys.length=xs.length→(∀ j y,ys[j]? = some y→l.getD (i+j) 0=y) →
     findL (z0K g) i xs ()=some (match ys.findIdx? fun x=>decide (x=0) with | some j=>.inr (8,((i+j:Nat):Int)) | none=>.inl ()):=by
    intro xs
    induction xs with
    | nil=>
     intro ys i _ hl _
     obtain rfl:=List.eq_nil_of_length_eq_zero hl
     rfl
    | cons x xs ih=>
     intro ys i hx hl hy
     cases ys with
     | nil=>simp at hl
     | cons y ys=>
      have h1:=hprod i x (by simpa using hx 0 x rfl)
      have h2:l.getD i 0=y:=by simpa using hy 0 y rfl
      have ih:=ih ys (i+1) (fun j z hz=>by rw [show i+1+j=i+(j+1) by omega]; exact hx (j+1) z (by simpa using hz)) (by simpa using hl) fun j z hz=>by
       rw [show i+1+j=i+(j+1) by omega]; exact hy (j+1) z (by simpa using hz)
      rw [h2] at h1
      have e:z0K g i x ()=some (if y=0 then .inr (8,(i:Int)) else .inl ()):=by
       unfold z0K
       rw [h1,Option.bind_some]
       by_cases hz:y=0
       ·rw [decide_eq_true hz,if_pos hz]; rfl
       ·rw [decide_eq_false hz,if_neg hz]; rfl
      rw [findL,e,Option.bind_some,List.findIdx?_cons]
      by_cases hz:y=0
      ·rw [if_pos hz,if_pos (by simpa using hz)]; rfl
      ·rw [if_neg hz,if_neg (by simpa using hz)]
       dsimp only
       rw [ih]
       cases ys.findIdx? fun x=>decide (x=0) with
       | none=>rfl
       | some j=>simp only [Option.map_some]; rw [show i+1+j=i+(j+1) by omega]
   rw [hrun g.Symbols l 0 (fun j x hx=>by rw [Nat.zero_add]; exact hx) e3.1 fun j y hy=>by rw [Nat.zero_add,List.getD_eq_getElem?_getD,hy]; rfl]
   dsimp only
   cases l.findIdx? fun x=>decide (x=0) with
   | some k=>dsimp only; rw [Nat.zero_add]; rfl
   | none=>rfl
 ·rw [if_neg h0,if_neg h0]
noncomputable def z5q (g:Grammar):Bool:=decide ((k0I g).1=0)
theorem k1N {g:Grammar}(h:Sz.szd g≤1048576):z2F g=some (z5q g):=by
 unfold z2F; rw [k6Y h]; rfl
theorem k1O {g:Grammar}(h:Sz.szd g≤1048576):z4o g=some (z5q g):=by
 unfold z4o; rw [k6Z h]; rfl
theorem z4u {g:Grammar}(h:z5q g=true):Shape g:=by
 refine k1L ?_
 unfold z5q at h
 rw [decide_eq_true_eq] at h
 unfold k0I at h
 by_cases h0:(z7V g).1=0
 ·exact h0
 ·rw [if_neg h0] at h; exact h
end Go.Proofs.YtcegfmageiicaaaGreat
namespace Go.Proofs.YtcegfmageiicaaaGreat
open Go Go.E
def farB (e:Expr):Bool:=!allE (fun x=>!decide (x.Kind=8)) e
theorem k7a (e:Expr):∀ m,fuE e≤m→z3A m e=some (farB e):=by
 induction e using z2h with
 | h e ih=>
  intro m hm
  obtain⟨m,rfl⟩:∃ q,m=q+1:=⟨m - 1,by have:=z7T e; omega⟩
  show z3z (z3A m) e=_
  unfold z3z
  rw [q4B (c:=true) (q:=fun x=>!farB x) fun k x hx=>by
   unfold j0Y
   rw [ih x hx m (by have:=z7U hx; omega),Option.bind_some]
   cases farB x<;>rfl]
  have e1:farB e=!(!decide (e.Kind=8)&&e.Args.all fun x=>!farB x):=by
   unfold farB
   rw [j1T]
   congr 2
   congr 1; funext x; rw [Bool.not_not]
  rw [e1,Option.bind_some]
  cases e.Args.all fun x=>!farB x with
  | true=>rw [if_pos rfl,z2p,Bool.and_true,Bool.not_not]
  | false=>rw [if_neg (by simp),j1t,Bool.and_false]; rfl
theorem k9d (e:Expr):z8P e=some (farB e):=q9p (fuE e) fun m hm=>k7a e m hm
theorem k7b (e:Expr):∀ m,fuE e≤m→q5J m e=some (!farB e):=by
 induction e using z2h with
 | h e ih=>
  intro m hm
  obtain⟨m,rfl⟩:∃ q,m=q+1:=⟨m - 1,by have:=z7T e; omega⟩
  show q5I (q5J m) e=_
  unfold q5I q3O q3T z3i
  have e1:(!farB e)=(!decide (e.Kind=8)&&e.Args.all fun x=>!farB x):=by
   unfold farB
   rw [j1T,Bool.not_not]
   congr 1
   congr 1; funext x; rw [Bool.not_not]
  rw [Option.bind_some,e1]
  cases decide (e.Kind=8) with
  | true=>rfl
  | false=>
   rw [Bool.not_false,if_pos rfl,q4S (q:=fun x=>farB x) fun k x hx=>by
    unfold q5y q6i
    rw [ih x hx m (by have:=z7U hx; omega),Option.bind_some,Option.bind_some]
    cases farB x<;>rfl]
   rw [Bool.true_and,Option.bind_some,List.not_any_eq_all_not]
theorem k9e (e:Expr):z3C e=some (farB e):=by
 unfold z3C
 rw [show q8i e=some (!farB e) from q9p (fuE e) fun m hm=>k7b e m hm,Option.bind_some,Bool.not_not]
def farR (r:Rule):Bool:=r.Equations.any fun q=>farB q.Expr
theorem k7c (r:Rule):z3B r=some (farR r):=by
 unfold z3B farR
 rw [q4B (c:=true) (q:=fun q:Equation=>!farB q.Expr) fun k x hx=>by
  unfold j0Z
  rw [k9d,Option.bind_some]
  cases farB x.Expr<;>rfl]
 have e:(r.Equations.all fun q=>!farB q.Expr)=!(r.Equations.any fun q=>farB q.Expr):=by rw [List.not_any_eq_all_not]
 rw [e]
 cases r.Equations.any fun q=>farB q.Expr<;>rfl
theorem k7d {g:Grammar}(h:Sz.szd g≤1048576):z3D g=some (g.Rules.any fun r=>(z6R r).any farB):=by
 unfold z3D q4P q4Z
 rw [q4S (q:=fun r=>(z6R r).any farB) fun k r hr=>by
  unfold q7i z3j
  rw [k1K (Nat.le_trans (z1b hr) h),Option.bind_some]
  unfold q4X q5j
  rw [q4S (q:=farB) fun k e he=>by
   unfold q7L
   rw [k9e,Option.bind_some,← apply_ite some]]
  rw [Option.bind_some,Option.bind_some,← apply_ite some]]
 rfl
def colG (g:Grammar):Bool:=g.Symbols.any fun y=>y.Attributes.any fun a=>decide (a.Mode=3)
theorem k5e (g:Grammar):q5s g=some (colG g):=by
 unfold q5s q3H q3K colG
 rw [q4S (q:=fun y:Symbol=>y.Attributes.any fun a=>decide (a.Mode=3)) fun k y hy=>by
  unfold q5h q5E q4l q4y
  rw [q4S (q:=fun a:Attribute=>decide (a.Mode=3)) fun k a ha=>by
   unfold q6q z3k
   rw [Option.bind_some,← apply_ite some]]
  rw [Option.bind_some,Option.bind_some,← apply_ite some]]
 rfl
theorem k3k {g:Grammar}(h:z5q g=true):∀ r∈g.Rules,typR g r=true:=by
 intro r hr
 unfold z5q at h
 rw [decide_eq_true_eq] at h
 unfold k0I at h
 by_cases h0:(z7V g).1=0
 ·rw [if_pos h0] at h
  cases e:g.Rules.findIdx? fun r=>!typR g r with
  | some k=>rw [e] at h; simp at h
  | none=>
   rw [List.findIdx?_eq_none_iff] at e
   have:=e r hr
   simpa using this
 ·rw [if_neg h0] at h; exact absurd h h0
theorem k7e {g:Grammar}(h:z5q g=true)(hc:colG g=false){r:Rule}(hr:r∈g.Rules):r.Contributions=[]:=by
 have ht:=k3k h r hr
 unfold typR at ht
 rw [Bool.and_eq_true,List.all_eq_true,List.all_eq_true] at ht
 cases hq:r.Contributions with
 | nil=>rfl
 | cons q qs=>
  have h1:=ht.2 q (by rw [hq]; simp)
  unfold conT at h1
  simp only [Bool.and_eq_true,decide_eq_true_eq] at h1
  have h3:=h1.2
  unfold z5Y at h3
  cases ha:(q8k g q.Symbol).1.Attributes.find? fun a=>decide (a.Name=q.Name) with
  | none=>rw [ha] at h3; exact absurd h3 (by simp [zA])
  | some a=>
   rw [ha] at h3
   have hm:=List.mem_of_find?_eq_some ha
   unfold q8k at hm
   cases hs:g.Symbols.find? fun y=>decide (y.Name=q.Symbol) with
   | none=>rw [hs] at hm; simp [zS] at hm
   | some y=>
    rw [hs] at hm
    unfold colG at hc
    rw [List.any_eq_false] at hc
    exact absurd (List.any_eq_true.2 ⟨a,hm,by simpa using h3⟩) (hc y (List.mem_of_find?_eq_some hs))
end Go.Proofs.YtcegfmageiicaaaGreat
namespace Go.Proofs.YtcegfmageiicaaaGreat
open Go Go.E
theorem j9k {n:Nat}{h:Nat→Int→Int}{f:Nat→List Int→Option (List Int)}(hf:∀ k s,k < n→s.length=n→f k s=some (s.set k (h k (s.getD k 0)))) :
  ∀ (m k:Nat) (s:List Int),k+m=n→s.length=n→eachN f k m s=some (s.mapIdx fun j x=>if k≤j then h j x else x)
 | 0,k,s,hk,hs=>by
  show some s=_
  congr 1
  symm
  apply List.ext_getElem?
  intro j
  rw [List.getElem?_mapIdx]
  cases hj:s[j]? with
  | none=>rfl
  | some x=>
   have:=(List.getElem?_eq_some_iff.1 hj).1
   rw [Option.map_some,if_neg (by omega)]
 | m+1,k,s,hk,hs=>by
  rw [eachN,hf k s (by omega) hs,Option.bind_some,j9k hf m (k+1) _ (by omega) (by simpa using hs)]
  congr 1
  apply List.ext_getElem?
  intro j
  rw [List.getElem?_mapIdx,List.getElem?_mapIdx,List.getElem?_set]
  by_cases hj:k=j
  ·subst hj
   have hk' : k < s.length:=by omega
   rw [if_pos rfl,if_pos hk',List.getElem?_eq_getElem hk',List.getD_eq_getElem?_getD,List.getElem?_eq_getElem hk',Option.map_some,Option.map_some,if_neg (by omega),if_pos (Nat.le_refl _)]
   rfl
  ·rw [if_neg hj]
   cases hx:s[j]? with
   | none=>rfl
   | some x=>
    rw [Option.map_some,Option.map_some]
    by_cases h1:k+1≤j
    ·rw [if_pos h1,if_pos (by omega)]
    ·rw [if_neg h1,if_neg (by omega)]
def uniR (a b:Relation):Relation:=if Valid a∧Valid b∧a.N=b.N then ⟨a.N,a.Rows.mapIdx fun j x=>orI x (b.Rows.getD j 0)⟩ else a
theorem k3l {b:Relation}(h:Valid b)(k:Nat):0≤b.Rows.getD k 0:=by
 rw [List.getD_eq_getElem?_getD]
 cases hx:b.Rows[k]? with
 | none=>simp
 | some x=>exact (h.2.2.2 x (List.mem_of_getElem? hx)).1
theorem k1P {a b:Relation}(ha:Valid a)(hb:Valid b)(hN:a.N=b.N){f:Nat→List Int→Option (List Int)}(hf:f=q7w b):eachN f 0 a.Rows.length a.Rows=some (a.Rows.mapIdx fun j x=>orI x (b.Rows.getD j 0)):=by
 subst hf
 have hl:a.Rows.length=b.Rows.length:=by have:=ha.2.2.1; have:=hb.2.2.1; omega
 -- all rows stay at least 0
 have key:∀ (m k:Nat) (s:List Int),k+m=a.Rows.length→s.length=a.Rows.length→(∀ x∈s,0≤x)→eachN (q7w b) k m s=eachN (fun k s=>some (s.set k (orI (s.getD k 0) (b.Rows.getD k 0)))) k m s:=by
  intro m
  induction m with
  | zero=>intro k s _ _ _; rfl
  | succ m ih=>
   intro k s hk hs h0
   have e:q7w b k s=some (s.set k (orI (s.getD k 0) (b.Rows.getD k 0))):=by
    have hx:0≤s.getD k 0:=by
     rw [List.getD_eq_getElem?_getD,List.getElem?_eq_getElem (by omega:k < s.length)]
     exact h0 _ (List.getElem_mem _)
    unfold q7w
    rw [getD_some (by omega),Option.bind_some,getD_some (by omega),Option.bind_some]
    exact q3B ⟨hx,k3l hb k⟩
   rw [eachN,eachN,e,Option.bind_some,Option.bind_some]
   refine ih (k+1) _ (by omega) (by simpa using hs) fun x hx=>?_
   rcases List.mem_or_eq_of_mem_set hx with h | rfl
   ·exact h0 x h
   ·unfold orI; omega
 rw [key _ 0 a.Rows (by omega) rfl (fun x hx=>(ha.2.2.2 x hx).1),j9k (h:=fun k x=>orI x (b.Rows.getD k 0)) (n:=a.Rows.length) (fun k s _ _=>rfl) _ 0 a.Rows (by omega) rfl]
 simp
theorem k5f {a:Relation}(h:a.Rows.length≤1048576)(b:Relation):q7V a b=some (uniR a b):=by
 unfold q7V uniR
 rw [z6M h,Option.bind_some,q6j,Option.bind_some]
 by_cases ha:Valid a
 ·rw [decide_eq_true ha,if_pos rfl,q6j,Option.bind_some,Option.bind_some]
  by_cases hb:Valid b
  ·rw [decide_eq_true hb,Bool.not_true,if_neg (by simp),Option.bind_some]
   by_cases hN:a.N=b.N
   ·rw [decide_eq_true hN,Bool.not_true,if_neg (by simp),if_pos ⟨ha,hb,hN⟩,show a.N.toNat=a.Rows.length by have:=ha.2.2.1; omega,k1P ha hb hN rfl]; rfl
   ·rw [decide_eq_false hN,Bool.not_false,if_pos rfl,if_neg fun hh=>hN hh.2.2]
  ·have hz:(if Valid a∧Valid b∧a.N=b.N then (⟨a.N,a.Rows.mapIdx fun j x=>orI x (b.Rows.getD j 0)⟩:Relation) else a)=a:=if_neg fun hh=>hb hh.2.1
   rw [hz,decide_eq_false hb]; rfl
 ·have hz:(if Valid a∧Valid b∧a.N=b.N then (⟨a.N,a.Rows.mapIdx fun j x=>orI x (b.Rows.getD j 0)⟩:Relation) else a)=a:=if_neg fun hh=>ha hh.1
  rw [hz,decide_eq_false ha]; rfl
theorem k5g (b:Relation):z6z b=q7w b:=rfl
theorem k5h {a:Relation}(h:a.Rows.length≤1048576)(b:Relation):q7Y a b=some (uniR a b):=by
 unfold q7Y uniR
 rw [j4P,z6M h,Option.bind_some,z1a,Option.bind_some]
 by_cases ha:Valid a
 ·rw [decide_eq_true ha,if_pos rfl,z1a,Option.bind_some,Option.bind_some]
  by_cases hb:Valid b
  ·rw [decide_eq_true hb,if_pos rfl,Option.bind_some]
   by_cases hN:a.N=b.N
   ·rw [if_pos (by simpa using hN),if_pos ⟨ha,hb,hN⟩,k5g,k1P ha hb hN rfl]; rfl
   ·rw [if_neg (by simpa using hN),if_neg fun hh=>hN hh.2.2]
  ·have hz:(if Valid a∧Valid b∧a.N=b.N then (⟨a.N,a.Rows.mapIdx fun j x=>orI x (b.Rows.getD j 0)⟩:Relation) else a)=a:=if_neg fun hh=>hb hh.2.1
   rw [hz,decide_eq_false hb]; rfl
 ·have hz:(if Valid a∧Valid b∧a.N=b.N then (⟨a.N,a.Rows.mapIdx fun j x=>orI x (b.Rows.getD j 0)⟩:Relation) else a)=a:=if_neg fun hh=>ha hh.1
  rw [hz,decide_eq_false ha]; rfl
theorem k7Z {n:Nat}{x y:Int}(hx:0≤x∧x≤((2 ^ n:Nat):Int) - 1)(hy:0≤y∧y≤((2 ^ n:Nat):Int) - 1):0≤orI x y∧orI x y≤((2 ^ n:Nat):Int) - 1:=by
 have:=Nat.or_lt_two_pow (n:=n) (x:=x.toNat) (y:=y.toNat) (by omega) (by omega)
 unfold orI; omega
theorem j9l {a b:Relation}(ha:Valid a):Valid (uniR a b)∧(uniR a b).N=a.N:=by
 unfold uniR
 by_cases h:Valid a∧Valid b∧a.N=b.N
 ·rw [if_pos h]
  refine⟨⟨ha.1,ha.2.1,by simpa using ha.2.2.1,fun x hx=>?_⟩,rfl⟩
  obtain⟨j,hj⟩:=List.getElem?_of_mem hx
  rw [List.getElem?_mapIdx] at hj
  cases hy:a.Rows[j]? with
  | none=>rw [hy] at hj; cases hj
  | some y=>
   rw [hy] at hj
   cases hj
   have hyv:=ha.2.2.2 y (List.mem_of_getElem? hy)
   refine k7Z hyv ?_
   rw [List.getD_eq_getElem?_getD]
   cases hz:b.Rows[j]? with
   | none=>
    have:=Nat.one_le_two_pow (n:=a.N.toNat)
    show (0:Int)≤0∧(0:Int)≤((2 ^ a.N.toNat:Nat):Int) - 1
    constructor<;>omega
   | some z=>have:=h.2.1.2.2.2 z (List.mem_of_getElem? hz); rw [← h.2.2] at this; exact this
 ·rw [if_neg h]; exact⟨ha,rfl⟩
def sumR (a:Relation):Nat:=(a.Rows.map Int.toNat).sum
theorem j6n:∀ (l:List Int) (f:Nat→Int→Int),(∀ j x,x∈l→x.toNat≤(f j x).toNat)→(l.map Int.toNat).sum≤((l.mapIdx f).map Int.toNat).sum∧((∀ x∈l,0≤x)→(∀ j x,0≤f j x)→(l.map Int.toNat).sum=((l.mapIdx f).map Int.toNat).sum→l.mapIdx f=l)
 | [],f,_=>⟨by simp,fun _ _ _=>by simp⟩
 | x :: l,f,h=>by
  have ih:=j6n l (fun j=>f (j+1)) fun j y hy=>h (j+1) y (by simp [hy])
  have h0:=h 0 x (by simp)
  rw [List.mapIdx_cons]
  simp only [List.map_cons,List.sum_cons]
  refine⟨by have:=ih.1; omega,fun h1 h2 he=>?_⟩
  have a1:=ih.1
  have e1:(l.map Int.toNat).sum=((l.mapIdx fun j=>f (j+1)).map Int.toNat).sum:=by omega
  have e2:x.toNat=(f 0 x).toNat:=by omega
  have p1:=h1 x (by simp)
  have p2:=h2 0 x
  rw [ih.2 (fun y hy=>h1 y (by simp [hy])) (fun j y=>h2 (j+1) y) e1,show f 0 x=x by omega]
theorem k5i {a b:Relation}(ha:Valid a):sumR a≤sumR (uniR a b)∧(sumR a=sumR (uniR a b)→uniR a b=a):=by
 unfold uniR
 by_cases h:Valid a∧Valid b∧a.N=b.N
 ·rw [if_pos h]
  have key:=j6n a.Rows (fun j x=>orI x (b.Rows.getD j 0)) fun j x _=>by
   unfold orI; have:=@Nat.left_le_or x.toNat (b.Rows.getD j 0).toNat; omega
  refine⟨key.1,fun he=>?_⟩
  have:=key.2 (fun x hx=>(ha.2.2.2 x hx).1) (fun j x=>by unfold orI; omega) he
  show (⟨a.N,_⟩:Relation)=a
  rw [this]
 ·rw [if_neg h]; exact⟨Nat.le_refl _,fun _=>rfl⟩
theorem k5j {a:Relation}(ha:Valid a):sumR a≤16*65535:=by
 have key:∀ l:List Int,(∀ x∈l,x.toNat≤65535)→(l.map Int.toNat).sum≤l.length*65535:=by
  intro l
  induction l with
  | nil=>intro _; simp
  | cons x l ih=>
   intro h
   have h1:=h x (by simp)
   have h2:=ih fun y hy=>h y (by simp [hy])
   simp only [List.map_cons,List.sum_cons,List.length_cons]
   omega
 have h1:=key a.Rows fun x hx=>by
  have:=ha.2.2.2 x hx
  have:=x0A ha.2.1
  omega
 have hl:a.Rows.length≤16:=by have:=ha.2.2.1; have:=ha.2.1; omega
 exact Nat.le_trans h1 (Nat.mul_le_mul_right 65535 hl)
theorem k5k {b:List Int}{f:Nat→Int→Unit→Option (Unit ⊕ Bool)}(hf:∀ k x,f k x ()=(b[k]?).bind fun x2=>if x=x2 then some (.inl ()) else some (.inr false)) :
  ∀ (xs ys:List Int) (i:Nat),xs.length=ys.length→(∀ j,b[i+j]? = ys[j]?)→findL f i xs ()=some (if xs=ys then .inl () else .inr false)
 | [],ys,i,hl,_=>by obtain rfl:=List.eq_nil_of_length_eq_zero hl.symm; rfl
 | x :: xs,[],i,hl,_=>by simp at hl
 | x :: xs,y :: ys,i,hl,hb=>by
  have h0:b[i]? = some y:=by simpa using hb 0
  rw [findL,hf,h0,Option.bind_some]
  by_cases hx:x=y
  ·rw [if_pos hx,Option.bind_some]
   dsimp only
   rw [k5k hf xs ys (i+1) (by simpa using hl) fun j=>by have:=hb (j+1); rw [show i+1+j=i+(j+1) by omega]; simpa using this]
   subst hx
   by_cases he:xs=ys
   ·rw [if_pos he,if_pos (by rw [he])]
   ·rw [if_neg he,if_neg (by intro hh; injection hh with _ h2; exact he h2)]
  ·rw [if_neg hx,Option.bind_some]
   dsimp only
   rw [if_neg (by intro hh; injection hh with h2 _; exact hx h2)]
theorem j7B (a b:Relation):q7W a b=some (decide (a=b)):=by
 obtain⟨n,xs⟩:=a
 obtain⟨m,ys⟩:=b
 unfold q7W j0N
 dsimp only
 by_cases hn:n=m
 ·rw [if_pos hn]
  by_cases hl:xs.length=ys.length
  ·rw [if_pos (by omega),k5k (b:=ys) (fun k x=>rfl) xs ys 0 hl fun j=>by rw [Nat.zero_add]]
   by_cases he:xs=ys
   ·rw [if_pos he,decide_eq_true (by rw [hn,he])]; rfl
   ·rw [if_neg he,decide_eq_false (by intro hh; injection hh with _ h2; exact he h2)]; rfl
  ·rw [if_neg (by omega),decide_eq_false (by intro hh; injection hh with _ h2; exact hl (by rw [h2]))]; rfl
 ·rw [if_neg hn,decide_eq_false (by intro hh; injection hh with h1 _; exact hn h1)]
theorem k5l (a b:Relation):q9b a b=some (decide (a=b)):=by
 rw [← j7B]; rfl
noncomputable def k3m (r:Relation):Bool:=decide (∃ k:Nat,k < r.Rows.length∧hasP (q6a r) (k:Int) (k:Int))
theorem j7C {r:Relation}(h:r.Rows.length≤1048576):z0e r=some (k3m r):=j4Q h
theorem j7D {r:Relation}(h:r.Rows.length≤1048576):q9j r=some (k3m r):=by
 unfold q9j k3m
 rw [q6j,Option.bind_some]
 by_cases hv:Valid r
 ·rw [decide_eq_true hv,if_pos rfl,j1g h,Option.bind_some]
  have hN:r.N.toNat=r.Rows.length:=by have:=hv.2.2.1; omega
  rw [hN,j4Y (c:=true) (n:=r.Rows.length) (q:=fun k=>!decide (hasP (q6a r) (k:Int) (k:Int))) (fun k hk=>by
   unfold z2y
   rw [q8j,Option.bind_some]
   by_cases hp:hasP (q6a r) (k:Int) (k:Int)
   ·rw [decide_eq_true hp]; rfl
   ·rw [decide_eq_false hp]; rfl) r.Rows.length 0 (by omega)]
  by_cases he:∃ k:Nat,k < r.Rows.length∧hasP (q6a r) (k:Int) (k:Int)
  ·rw [decide_eq_true he,if_neg]; · rfl
   obtain⟨k,hk,hp⟩:=he
   rw [List.all_eq_true]
   intro hh
   have:=hh k (by simp; omega)
   simp [hp] at this
  ·rw [decide_eq_false he,if_pos]; · rfl
   rw [List.all_eq_true]
   intro k hk
   simp at hk
   have:¬ hasP (q6a r) (k:Int) (k:Int):=fun hp=>he ⟨k,hk,hp⟩
   simp [this]
 ·rw [decide_eq_false hv,if_neg (by simp),decide_eq_false]
  rintro⟨k,hk,hp⟩
  have:q6a r=r:=by unfold q6a; rw [if_neg hv]
  rw [this] at hp
  exact hv hp.1
end Go.Proofs.YtcegfmageiicaaaGreat
namespace Go.Proofs.YtcegfmageiicaaaGreat
open Go Go.E
def q6T (g:Grammar)(s:ByteArray):List Attribute:=(q8k g s).1.Attributes.filter j1N
theorem j1X {g:Grammar}(h:GOk g)(s:ByteArray):(q6T g s).length≤1048576:=Nat.le_trans (List.length_filter_le _ _) (z5g h s)
theorem j9m {l:List Attribute}(h:l.length≤1048576):eachL q5R 0 l []=some (l.filter j1N):=by
 have:=z6N (p:=j1N) (g:=fun x:Attribute=>x) (B:=1048577) (f:=q5R) (fun k x s hs=>by
  have hg:((s.length:Int)+1)*40≤140737488355328∧(s.length:Int)+1≤9223372036854775807:=by constructor<;>omega
  unfold q5R j1N
  rw [q3B hg]
  by_cases m1:x.Mode=1
  ·rw [if_pos m1,if_pos (by simp [m1])]; rfl
  ·rw [if_neg m1]
   by_cases m2:x.Mode=2
   ·rw [if_pos m2,if_pos (by simp [m2])]; rfl
   ·rw [if_neg m2,if_neg (by simp [m1,m2])]; rfl) l 0 [] (by simp; omega)
 rw [this]; simp
theorem j1m {g:Grammar}(h:GOk g)(s:ByteArray):q4K g s=some (q6T g s):=by
 unfold q4K q6T
 rw [z6O h,Option.bind_some]
 try dsimp only
 rw [j9m (z5g h s)]; rfl
theorem j1n {g:Grammar}(h:GOk g)(s:ByteArray):q4g g s=some (q6T g s):=by
 unfold q4g q6T
 rw [z5f,Option.bind_some]
 try dsimp only
 rw [j6d,j9m (z5g h s)]; rfl
def occK (g:Grammar)(r:Rule)(k:Nat):List Occurrence:=(q6T g (q6G r (k:Int))).map fun x=>(⟨(k:Int),x.Name⟩:Occurrence)
def occL (g:Grammar)(r:Rule):List Occurrence:=(List.range' 0 (r.Right.length+1)).flatMap (occK g r)
theorem k1Q {g:Grammar}(h:GOk g)(r:Rule)(k:Nat):(occK g r k).length≤1048576:=by unfold occK; rw [List.length_map]; exact j1X h _
theorem j7E {g:Grammar}(h:GOk g){r:Rule}(hl:ROk r):q5f g r=some (occL g r):=by
 have hl' : r.Right.length≤1048576:=hl
 have key:=j1R (h:=occK g r) (C:=1048576) (n:=r.Right.length+1) (f:=q4s g r) (fun k s hk hs=>by
  unfold q4s
  rw [j0k hl,Option.bind_some,j1n h,Option.bind_some,z8U k _ 0 s (by have:=j1X h (q6G r (k:Int)); omega)]; rfl)
  (fun k _=>k1Q h r k) (r.Right.length+1) 0 [] (by omega) (by simp)
 unfold q5f
 rw [q3B (by constructor<;>omega),key]; rfl
theorem k5m {g:Grammar}(h:GOk g){r:Rule}(hl:ROk r):q5N g r=some (occL g r):=by
 have hl' : r.Right.length≤1048576:=hl
 have key:=j4S (h:=occK g r) (C:=1048576) (n:=r.Right.length+1) (f:=q5l g r) (fun k s hk hs=>by
  unfold q5l
  dsimp only
  rw [if_pos (by omega),z7B hl,Option.bind_some,j1m h,Option.bind_some,k1y,z8U k _ 0 s (by have:=j1X h (q6G r (k:Int)); omega),Option.bind_some,q3B (by constructor<;>omega)]; rfl) (fun s=>by
  unfold q5l; dsimp only; rw [if_neg (by omega)]) (fun k _=>k1Q h r k) (r.Right.length+1) 0 [] (by omega) (by simp)
 unfold q5N
 have e:q4i (q5l g r) (([]:List Occurrence),0)=some ([]++(List.range' 0 (r.Right.length+1)).flatMap (occK g r)):=key
 rw [e]; rfl
theorem k1R {g:Grammar}(h:GOk g){r:Rule}(hl:ROk r):(occL g r).length≤1099512676352:=by
 obtain⟨l,_,h2,h3⟩:=j3m h hl
 rw [j7E h hl] at h2
 cases h2; exact h3
def posL (g:Grammar)(r:Rule)(k:Int):List Int:=(((occL g r).zipIdx 0).filter fun q=>decide (q.1.Pos=k)).map fun q=>(q.2:Int)
theorem k1S (k:Int){l:List Occurrence}(h:l.length≤1099512676352):eachL (q5S k) 0 l []=some (((l.zipIdx 0).filter fun q=>decide (q.1.Pos=k)).map fun q=>(q.2:Int)):=by
 have:=j4R (p:=fun x:Occurrence=>decide (x.Pos=k)) (g:=fun i:Nat=>(i:Int)) (B:=4398046511104) (f:=q5S k) (fun i x s hs=>by
  have hg:((s.length:Int)+1)*8≤140737488355328∧(s.length:Int)+1≤9223372036854775807:=by constructor<;>omega
  unfold q5S
  rw [q3B hg]
  by_cases m1:x.Pos=k
  ·rw [if_pos m1,if_pos (by simp [m1])]; rfl
  ·rw [if_neg m1,if_neg (by simp [m1])]; rfl) l 0 [] (by simp; omega)
 rw [this]; simp
theorem k0J {g:Grammar}(h:GOk g){r:Rule}(hl:ROk r)(k:Int):q5o g r k=some (posL g r k):=by
 unfold q5o posL
 rw [k5m h hl,Option.bind_some,k1S k (k1R h hl)]; rfl
theorem k5n {g:Grammar}(h:GOk g){r:Rule}(hl:ROk r)(k:Int):q4O g r k=some (posL g r k):=by
 unfold q4O posL
 rw [j7E h hl,Option.bind_some,z9F,k1S k (k1R h hl)]; rfl
theorem j9n {α:Type}(p:α→Bool):∀ (l:List α) (i:Nat),((l.zipIdx i).filter fun q=>p q.1).length=l.countP p
 | [],i=>rfl
 | x :: l,i=>by
  rw [List.zipIdx_cons,List.filter_cons,List.countP_cons]
  have ih:=j9n p l (i+1)
  by_cases hp:p x=true
  ·rw [if_pos hp,if_pos hp,List.length_cons,ih]
  ·rw [if_neg hp,if_neg hp,ih]; rfl
theorem k5o (g:Grammar){r:Rule}{k:Nat}(hk:k≤r.Right.length):(posL g r (k:Int)).length=(q6T g (q6G r (k:Int))).length:=by
 unfold posL
 rw [List.length_map,j9n (fun x:Occurrence=>decide (x.Pos=(k:Int)))]
 unfold occL
 rw [List.countP_flatMap]
 have hK:∀ j:Nat,(occK g r j).countP (fun x=>decide (x.Pos=(k:Int)))=if j=k then (q6T g (q6G r (k:Int))).length else 0:=by
  intro j
  unfold occK
  rw [List.countP_map]
  by_cases hj:j=k
  ·subst hj
   rw [if_pos rfl,List.countP_eq_length.2 (by simp)]
  ·rw [if_neg hj,List.countP_eq_zero.2]
   intro a _
   simp; omega
 have hsum:∀ m i,((List.range' i m).map (List.countP (fun x:Occurrence=>decide (x.Pos=(k:Int))) ∘ occK g r)).sum=if i≤k∧k < i+m then (q6T g (q6G r (k:Int))).length else 0:=by
  intro m
  induction m with
  | zero=>intro i; rw [if_neg (by omega)]; rfl
  | succ m ih=>
   intro i
   rw [List.range'_succ,List.map_cons,List.sum_cons,ih (i+1),Function.comp,hK i]
   by_cases h1:i=k
   ·rw [if_pos h1,if_neg (by omega),if_pos (by omega)]; rfl
   ·rw [if_neg h1,Nat.zero_add]
    by_cases h2:i+1≤k∧k < i+1+m
    ·rw [if_pos h2,if_pos (by omega)]
    ·rw [if_neg h2,if_neg (by omega)]
 rw [hsum,if_pos (by omega)]
noncomputable def q9F (own:Relation) (a:Nat) (x:Int):Nat→List Int→Relation→Relation
 | _,[],o=>o
 | i,y :: ys,o=>q9F own a x (i+1) ys (if hasP own (a:Int) (i:Int) then addP o x y else o)
noncomputable def z1c (own:Relation) (at' : List Int):Nat→List Int→Relation→Relation
 | _,[],o=>o
 | a,x :: xs,o=>z1c own at' (a+1) xs (q9F own a x 0 at' o)
theorem z9u (own:Relation)(a:Nat)(x:Int):∀ (ys:List Int) (i:Nat) (o:Relation),(q9F own a x i ys o).Rows.length=o.Rows.length∧(q9F own a x i ys o).N=o.N
 | [],i,o=>⟨rfl,rfl⟩
 | y :: ys,i,o=>by
  rw [q9F]
  have ih:=z9u own a x ys (i+1) (if hasP own (a:Int) (i:Int) then addP o x y else o)
  by_cases h:hasP own (a:Int) (i:Int)
  ·rw [if_pos h] at ih ⊢
   have:=z9r o x y
   exact⟨ih.1.trans this.1,ih.2.trans this.2⟩
  ·rw [if_neg h] at ih ⊢; exact ih
theorem j0l (own:Relation)(at' : List Int):∀ (xs:List Int) (a:Nat) (o:Relation),(z1c own at' a xs o).Rows.length=o.Rows.length∧(z1c own at' a xs o).N=o.N
 | [],a,o=>⟨rfl,rfl⟩
 | x :: xs,a,o=>by
  rw [z1c]
  have ih:=j0l own at' xs (a+1) (q9F own a x 0 at' o)
  have:=z9u own a x at' 0 o
  exact⟨ih.1.trans this.1,ih.2.trans this.2⟩
theorem k5p (own:Relation)(a:Nat)(x:Int):∀ (ys:List Int) (i:Nat) (o:Relation),o.Rows.length≤1048576 →
  eachL (z1E own a x) i ys (o.Rows,o.N)=some ((q9F own a x i ys o).Rows,(q9F own a x i ys o).N)∧eachL (j0S own a x) i ys (o.N,o.Rows)=some ((q9F own a x i ys o).N,(q9F own a x i ys o).Rows)
 | [],i,o,_=>⟨rfl,rfl⟩
 | y :: ys,i,o,h=>by
  have e1:z1E own a x i y (o.Rows,o.N)=some ((if hasP own (a:Int) (i:Int) then addP o x y else o).Rows,(if hasP own (a:Int) (i:Int) then addP o x y else o).N):=by
   unfold z1E
   dsimp only
   rw [q8j,Option.bind_some]
   by_cases hp:hasP own (a:Int) (i:Int)
   ·rw [decide_eq_true hp,if_pos rfl,if_pos hp,k1C h]; rfl
   ·rw [decide_eq_false hp,if_neg (by simp),if_neg hp]; rfl
  have e2:j0S own a x i y (o.N,o.Rows)=some ((if hasP own (a:Int) (i:Int) then addP o x y else o).N,(if hasP own (a:Int) (i:Int) then addP o x y else o).Rows):=by
   unfold j0S
   dsimp only
   rw [z7y,Option.bind_some]
   by_cases hp:hasP own (a:Int) (i:Int)
   ·rw [decide_eq_true hp,if_pos rfl,if_pos hp,j3n,k1C h]; rfl
   ·rw [decide_eq_false hp,if_neg (by simp),if_neg hp]; rfl
  have hl:(if hasP own (a:Int) (i:Int) then addP o x y else o).Rows.length≤1048576:=by
   split
   ·rw [(z9r o x y).1]; exact h
   ·exact h
  have ih:=k5p own a x ys (i+1) _ hl
  rw [eachL,eachL,e1,e2,Option.bind_some,Option.bind_some,q9F]
  exact ih
theorem j7F (own:Relation)(at' : List Int):∀ (xs:List Int) (a:Nat) (o:Relation),o.Rows.length≤1048576 →
  eachL (z1F own at') a xs (o.Rows,o.N)=some ((z1c own at' a xs o).Rows,(z1c own at' a xs o).N)∧eachL (j0T own at') a xs (o.N,o.Rows)=some ((z1c own at' a xs o).N,(z1c own at' a xs o).Rows)
 | [],a,o,_=>⟨rfl,rfl⟩
 | x :: xs,a,o,h=>by
  have h1:=k5p own a x at' 0 o h
  have hl:(q9F own a x 0 at' o).Rows.length≤1048576:=by rw [(z9u own a x at' 0 o).1]; exact h
  have ih:=j7F own at' xs (a+1) _ hl
  have e1:z1F own at' a x (o.Rows,o.N)=some ((q9F own a x 0 at' o).Rows,(q9F own a x 0 at' o).N):=by
   unfold z1F; dsimp only; rw [h1.1]; rfl
  have e2:j0T own at' a x (o.N,o.Rows)=some ((q9F own a x 0 at' o).N,(q9F own a x 0 at' o).Rows):=by
   unfold j0T; dsimp only; rw [h1.2]; rfl
  rw [eachL,eachL,e1,e2,Option.bind_some,Option.bind_some,z1c]
  exact ih
noncomputable def z2o (g:Grammar) (r:Rule) (o:Relation) (pos:Int) (own:Relation):Relation:=z1c own (posL g r pos) 0 (posL g r pos) o
theorem j9o {g:Grammar}(h:GOk g){r:Rule}(hl:ROk r){o:Relation}(ho:o.Rows.length≤1048576)(pos:Int)(own:Relation):z9o g r o pos own=some (z2o g r o pos own):=by
 unfold z9o z2o
 rw [k5n h hl,Option.bind_some,(j7F own (posL g r pos) (posL g r pos) 0 o ho).2]; rfl
theorem j0m {r:Rule}{k:Nat}{x:ByteArray}(h:r.Right[k]? = some x):q6G r ((k+1:Nat):Int)=x:=by
 have hk:=(List.getElem?_eq_some_iff.1 h).1
 unfold q6G
 rw [if_neg (by omega),if_pos (by omega),show (((k+1:Nat):Int) - 1).toNat=k by omega,List.getD_eq_getElem?_getD,h]; rfl
noncomputable def z9z (g:Grammar) (r:Rule):Nat→List Relation→Relation→Relation
 | _,[],o=>o
 | k,own :: l,o=>z9z g r (k+1) l (z2o g r o ((k+1:Nat):Int) own)
theorem j1Y (g:Grammar)(r:Rule)(o:Relation)(pos:Int)(own:Relation):(z2o g r o pos own).Rows.length=o.Rows.length:=(j0l own _ _ 0 o).1
def FitL (g:Grammar)(r:Rule)(list:List Relation):Prop:=list.length=r.Right.length∧∀ k own,list[k]? = some own→Valid own∧own.N=((q6T g (q6G r ((k+1:Nat):Int))).length:Int)
theorem j9p {g:Grammar}(h:GOk g){r:Rule}(hl:ROk r){list:List Relation}(hf:FitL g r list):∀ (m k:Nat) (o:Relation),k+m=list.length→o.Rows.length≤1048576 →
  findL (z1G g r) k (list.drop k) (o.Rows,o.N)=some (.inl ((z9z g r k (list.drop k) o).Rows,(z9z g r k (list.drop k) o).N)) ∧
  findL (z1U g r) k (list.drop k) (o.Rows,o.N)=some (.inl ((z9z g r k (list.drop k) o).Rows,(z9z g r k (list.drop k) o).N))∧(z9z g r k (list.drop k) o).Rows.length=o.Rows.length
 | 0,k,o,hk,_=>by rw [List.drop_eq_nil_of_le (by omega)]; exact⟨rfl,rfl,rfl⟩
 | m+1,k,o,hk,ho=>by
  have hk' : k < list.length:=by omega
  rw [List.drop_eq_getElem_cons hk']
  have hv:=hf.2 k list[k] (List.getElem?_eq_getElem hk')
  have hR:k < r.Right.length:=by rw [← hf.1]; exact hk'
  have hsym:=j0m (r:=r) (k:=k) (List.getElem?_eq_getElem hR)
  have hpl:=k5o g (r:=r) (k:=k+1) (by omega)
  have e1:z1G g r k list[k] (o.Rows,o.N)=some (.inl ((z2o g r o ((k+1:Nat):Int) list[k]).Rows,(z2o g r o ((k+1:Nat):Int) list[k]).N)):=by
   unfold z1G
   dsimp only
   rw [k0J h hl,Option.bind_some,q6j,Option.bind_some,decide_eq_true hv.1,if_pos rfl,if_pos (by rw [hpl]; exact hv.2),(j7F list[k] _ _ 0 o ho).1]; rfl
  have e2:z1U g r k list[k] (o.Rows,o.N)=some (.inl ((z2o g r o ((k+1:Nat):Int) list[k]).Rows,(z2o g r o ((k+1:Nat):Int) list[k]).N)):=by
   unfold z1U
   dsimp only
   rw [List.getElem?_eq_getElem hR,Option.bind_some,j1n h,Option.bind_some,if_pos (by rw [← hsym]; exact hv.2),j9o h hl ho]; rfl
  have hlen:=j1Y g r o ((k+1:Nat):Int) list[k]
  have ih:=j9p h hl hf m (k+1) (z2o g r o ((k+1:Nat):Int) list[k]) (by omega) (by rw [hlen]; exact ho)
  rw [findL,findL,e1,e2,Option.bind_some,Option.bind_some,z9z]
  exact⟨ih.1,ih.2.1,ih.2.2.trans hlen⟩
noncomputable def locR (g:Grammar) (r:Rule):Relation:=(q6m g r).getD ⟨0,[]⟩
theorem k5q {g:Grammar}{r:Rule}(h:Sz.szd g≤1048576)(hr:Sz.szd r≤1048576):q6m g r=some (locR g r)∧q6o g r=some (locR g r)∧(locR g r).Rows.length≤16:=by
 obtain⟨x,h1,h2,h3⟩:=k3a h hr
 unfold locR
 rw [h1,h2]; exact⟨rfl,rfl,h3⟩
noncomputable def j1Z (g:Grammar) (r:Rule) (list:List Relation):Relation:=if 16 < (occL g r).length then ⟨0,[]⟩ else q6a (z9z g r 0 list (locR g r))
theorem j7G {g:Grammar}{r:Rule}(h:Sz.szd g≤1048576)(hr:Sz.szd r≤1048576){list:List Relation}(hf:FitL g r list):q9i g r list=some (j1Z g r list)∧z0I g r list=some (j1Z g r list)∧(j1Z g r list).Rows.length≤16:=by
 have hg:=q9v h
 have hl:=q6c hr
 obtain⟨l1,l2,l3⟩:=k5q h hr
 have hn:(list.length:Int)=(r.Right.length:Int):=by rw [hf.1]
 unfold q9i z0I
 rw [k5m hg hl,j7E hg hl]
 simp only [Option.bind_some]
 rw [if_pos hn,if_pos hn]
 simp only [Option.bind_some]
 by_cases h16:16 < (occL g r).length
 ·have hi:(16:Int) < ((occL g r).length:Int):=by omega
  have hc:j1Z g r list=⟨0,[]⟩:=if_pos h16
  rw [hc,decide_eq_true hi,if_pos rfl,if_pos hi]
  exact⟨rfl,rfl,by simp⟩
 ·have hi:¬ (16:Int) < ((occL g r).length:Int):=by omega
  have hc:j1Z g r list=q6a (z9z g r 0 list (locR g r)):=if_neg h16
  rw [hc,decide_eq_false hi,if_neg (by simp),if_neg hi,l1,l2,Option.bind_some,Option.bind_some]
  have key:=j9p hg hl hf list.length 0 (locR g r) (by omega) (by omega)
  rw [List.drop_zero] at key
  have hlen:(z9z g r 0 list (locR g r)).Rows.length≤16:=by rw [key.2.2]; exact l3
  rw [key.1,key.2.1,Option.bind_some,Option.bind_some,z2p,z2p]
  dsimp only
  rw [j1g (r:=⟨(z9z g r 0 list (locR g r)).N,(z9z g r 0 list (locR g r)).Rows⟩) (by show (z9z g r 0 list (locR g r)).Rows.length≤_; omega),j1h (r:=⟨(z9z g r 0 list (locR g r)).N,(z9z g r 0 list (locR g r)).Rows⟩) (by show (z9z g r 0 list (locR g r)).Rows.length≤_; omega)]
  exact⟨rfl,rfl,by rw [(j1Q _).1]; exact hlen⟩
end Go.Proofs.YtcegfmageiicaaaGreat
namespace Go.Proofs.YtcegfmageiicaaaGreat
open Go Go.E
theorem j3p {α β:Type}{p:α→Bool}{g:α→β}{B:Nat}{f:Nat→α→List β→Option (List β)}:∀ (xs:List α) (i:Nat) (s:List β),(∀ k x s,x∈xs→s.length < B→f k x s=some (if p x=true then s++[g x] else s))→s.length+xs.length≤B →
  eachL f i xs s=some (s++(xs.filter p).map g)
 | [],i,s,_,_=>by simp [eachL]
 | x :: xs,i,s,hf,h=>by
  simp only [List.length_cons] at h
  by_cases hp:p x=true
  ·have ih:=j3p xs (i+1) (s++[g x]) (fun k y s hy=>hf k y s (by simp [hy])) (by simp; omega)
   simp [eachL,hf i x s (by simp) (by omega),hp,ih]
  ·have ih:=j3p xs (i+1) s (fun k y s hy=>hf k y s (by simp [hy])) (by omega)
   simp [eachL,hf i x s (by simp) (by omega),hp,ih]
theorem j1o {α β:Type}{g:α→β}{B:Nat}{f:Nat→α→List β→Option (List β)}(xs:List α)(i:Nat)(s:List β)(hf:∀ k x s,x∈xs→s.length < B→f k x s=some (s++[g x]))(h:s.length+xs.length≤B) :
  eachL f i xs s=some (s++xs.map g):=by
 have:=j3p (p:=fun _=>true) (g:=g) (B:=B) (f:=f) xs i s (fun k x s hx hs=>by rw [hf k x s hx hs,if_pos rfl]) h
 rw [this]; congr 2; congr 1; simp
theorem k7f {g:Grammar}{n:ByteArray}(h:(q8k g n).2=true):∃ j y,atS g n=some j∧g.Symbols[j]? = some y∧q8k g n=(y,true)∧y.Name=n:=by
 unfold q8k at h ⊢
 cases hf:g.Symbols.find? fun y=>decide (y.Name=n) with
 | none=>rw [hf] at h; cases h
 | some y=>
  have hn:y.Name=n:=by simpa using List.find?_some (p:=fun y:Symbol=>decide (y.Name=n)) hf
  unfold atS
  cases he:g.Symbols.findIdx? fun y=>decide (y.Name=n) with
  | none=>
   rw [List.findIdx?_eq_none_iff] at he
   have:=he y (List.mem_of_find?_eq_some hf)
   simp [hn] at this
  | some j=>
   refine⟨j,y,rfl,?_,rfl,hn⟩
   rw [List.findIdx?_eq_some_iff_getElem] at he
   obtain⟨hj,h1,h2⟩:=he
   rw [List.find?_eq_some_iff_getElem] at hf
   obtain⟨_,i,hi,hy,h3⟩:=hf
   have:i=j:=by
    rcases Nat.lt_trichotomy i j with hlt | heq | hgt
    ·have:=h2 i hlt; rw [hy] at this; simp [hn] at this
    ·exact heq
    ·have:=h3 j hgt; simp at this; simp at h1; exact absurd h1 this
   subst this
   rw [List.getElem?_eq_getElem hi,hy]
theorem Shape.known {g:Grammar}(h:Shape g){r:Rule}(hr:r∈g.Rules){k:Nat}(hk:k≤r.Right.length):(q8k g (q6G r (k:Int))).2=true:=by
 have h3:=h.brk 3 (by omega) (by omega) r hr
 unfold z6S at h3
 rw [if_pos rfl,Bool.not_eq_false'] at h3
 unfold j6k at h3
 rw [List.all_eq_true] at h3
 exact h3 k (by rw [List.mem_range'_1]; omega)
theorem Shape.right {g:Grammar}(h:Shape g){r:Rule}(hr:r∈g.Rules){n:ByteArray}(hn:n∈r.Right):(q8k g n).2=true:=by
 obtain⟨k,hk⟩:=List.getElem?_of_mem hn
 have hlt:=(List.getElem?_eq_some_iff.1 hk).1
 have:=h.known hr (k:=k+1) (by omega)
 rwa [j0m hk] at this
theorem Shape.left {g:Grammar}(h:Shape g){r:Rule}(hr:r∈g.Rules):(q8k g r.Left).2=true:=by
 have:=h.known hr (k:=0) (by omega)
 unfold q6G at this
 rwa [if_pos (by rfl)] at this
theorem Shape.attrs {g:Grammar}(h:Shape g){y:Symbol}(hy:y∈g.Symbols):y.Attributes.length≤4:=by
 have:=h.symB hy
 unfold Go.Proofs.YtcegfmageiicaaaGreat.symB at this
 simp only [Bool.and_eq_true,decide_eq_true_eq] at this
 exact this.2.2.1
theorem Shape.plain {g:Grammar}(h:Shape g)(n:ByteArray):(q6T g n).length≤4:=by
 refine Nat.le_trans (List.length_filter_le _ _) ?_
 unfold q8k
 cases hf:g.Symbols.find? fun y=>decide (y.Name=n) with
 | none=>simp [zS]
 | some y=>exact h.attrs (List.mem_of_find?_eq_some hf)
theorem j3q (g:Grammar)(n:ByteArray):q7q g n=some (atI g n):=by
 unfold q7q q4G atI atS
 rw [j1l (q:=fun y:Symbol=>decide (y.Name=n)) (c:=fun k=>(k:Int)) fun j x hx=>by
  unfold q6v z0L
  rw [Option.bind_some,← apply_ite some]]
 cases g.Symbols.findIdx? fun y=>decide (y.Name=n) with
 | none=>rfl
 | some j=>dsimp only; rw [Nat.zero_add]; rfl
def Inv (g:Grammar)(all:List Relation):Prop:=all.length=g.Symbols.length∧∀ (k:Nat) (y:Symbol) (a:Relation),g.Symbols[k]? = some y→all[k]? = some a→Valid a∧a.N=((q6T g y.Name).length:Int)
def zR:Relation:=⟨0,[]⟩
def q6M (g:Grammar)(all:List Relation)(n:ByteArray):Relation:=all.getD ((atS g n).getD 0) zR
theorem Inv.at_ {g:Grammar}{all:List Relation}(h:Inv g all){n:ByteArray}(hn:(q8k g n).2=true):∃ j,atS g n=some j∧j < g.Symbols.length∧all[j]? = some (q6M g all n)∧Valid (q6M g all n)∧(q6M g all n).N=((q6T g n).length:Int):=by
 obtain⟨j,y,h1,h2,h3,h4⟩:=k7f hn
 have hj:=(List.getElem?_eq_some_iff.1 h2).1
 have e:all[j]? = some (q6M g all n):=by
  unfold q6M
  rw [h1,Option.getD_some,List.getD_eq_getElem?_getD,List.getElem?_eq_getElem (by rw [h.1]; exact hj)]; rfl
 have:=h.2 j y _ h2 e
 rw [h4] at this
 exact⟨j,h1,hj,e,this⟩
def j1p (g:Grammar)(r:Rule)(all:List Relation):List Relation:=r.Right.map (q6M g all)
theorem j3r {g:Grammar}(hS:Shape g){r:Rule}(hr:r∈g.Rules){all:List Relation}(h:Inv g all):FitL g r (j1p g r all):=by
 refine⟨by unfold j1p; simp,fun k own hk=>?_⟩
 unfold j1p at hk
 rw [List.getElem?_map] at hk
 cases hx:r.Right[k]? with
 | none=>rw [hx] at hk; cases hk
 | some x=>
  rw [hx] at hk; cases hk
  obtain⟨j,_,_,_,h4,h5⟩:=h.at_ (hS.right hr (List.mem_of_getElem? hx))
  rw [j0m hx]
  exact⟨h4,h5⟩
theorem j6o {g:Grammar}(hS:Shape g){r:Rule}(hr:r∈g.Rules):r.Right.length≤3:=by
 have:=hS.ruleB hr
 unfold Go.Proofs.YtcegfmageiicaaaGreat.ruleB at this
 simp only [Bool.and_eq_true,decide_eq_true_eq] at this
 exact this.2.1.1
theorem k1T {g:Grammar}(hS:Shape g){r:Rule}(hr:r∈g.Rules){all:List Relation}(h:Inv g all):z4p g r all=some (j1p g r all):=by
 have h3:=j6o hS hr
 unfold z4p j1p
 rw [j1o (g:=q6M g all) (B:=1048576) r.Right 0 [] (fun k x s hx hs=>by
  obtain⟨j,h1,h2,h4,_⟩:=h.at_ (hS.right hr hx)
  unfold j4p z0J
  rw [k3h,Option.bind_some]
  have ha:atI g x=(j:Int):=by unfold atI; rw [h1]
  rw [ha]
  by_cases hj:(j:Int) < 0
  ·omega
  ·rw [if_neg hj,Option.bind_some,q3B (by omega),Int.toNat_natCast,h4,Option.bind_some,q3B (by constructor<;>omega)]) (by simp; omega)]
 simp
theorem k1U {g:Grammar}(h0:Sz.szd g≤1048576)(hS:Shape g){r:Rule}(hr:r∈g.Rules){all:List Relation}(h:Inv g all):q8y g r all=some (j1Z g r (j1p g r all)):=by
 have h3:=j6o hS hr
 unfold q8y
 rw [j1o (g:=q6M g all) (B:=1048576) r.Right 0 [] (fun k x s hx hs=>by
  obtain⟨j,h1,h2,h4,_⟩:=h.at_ (hS.right hr hx)
  unfold z7P
  rw [j3q,Option.bind_some]
  have ha:atI g x=(j:Int):=by unfold atI; rw [h1]
  rw [ha,q3B (by omega),Int.toNat_natCast,h4,Option.bind_some,q3B (by constructor<;>omega)]) (by simp; omega),Option.bind_some,List.nil_append,show r.Right.map (q6M g all)=j1p g r all from rfl,(j7G h0 (Nat.le_trans (z1b hr) h0) (j3r hS hr h)).2.1]; rfl
noncomputable def sumS (g:Grammar) (r:Rule) (c:Relation):Relation:=(q9R g r c).getD ⟨0,[]⟩
theorem k9f {g:Grammar}(h:GOk g){r:Rule}(hl:ROk r)(c:Relation):q9R g r c=some (sumS g r c)∧z1f g r c=some (sumS g r c):=by
 obtain⟨x,h1,h2,_⟩:=j8X (c:=c) h hl
 unfold sumS
 rw [h1,h2]; exact⟨rfl,rfl⟩
def sumA (all:List Relation):Nat:=(all.map sumR).sum
theorem j7H:∀ (all:List Relation) (k:Nat) (x a:Relation),all[k]? = some a→sumA (all.set k x)+sumR a=sumA all+sumR x
 | [],k,x,a,h=>by simp at h
 | b :: all,0,x,a,h=>by simp at h; subst h; unfold sumA; simp; omega
 | b :: all,k+1,x,a,h=>by
  have ih:=j7H all k x a (by simpa using h)
  unfold sumA at ih ⊢
  simp only [List.set_cons_succ,List.map_cons,List.sum_cons]; omega
theorem Inv.bound {g:Grammar}{all:List Relation}(h:Inv g all):sumA all≤all.length*(16*65535):=by
 have key:∀ l:List Relation,(∀ a∈l,Valid a)→sumA l≤l.length*(16*65535):=by
  intro l
  induction l with
  | nil=>intro _; simp [sumA]
  | cons a l ih=>
   intro hv
   have h1:=k5j (hv a (by simp))
   have h2:=ih fun b hb=>hv b (by simp [hb])
   unfold sumA at h2 ⊢
   simp only [List.map_cons,List.sum_cons,List.length_cons]
   omega
 refine key all fun a ha=>?_
 obtain⟨k,hk⟩:=List.getElem?_of_mem ha
 have hlt:=(List.getElem?_eq_some_iff.1 hk).1
 exact (h.2 k _ a (List.getElem?_eq_getElem (by rw [← h.1]; exact hlt)) hk).1
theorem Valid.len {a:Relation}(h:Valid a):a.Rows.length≤16:=by have:=h.2.2.1; have:=h.2.1; omega
theorem j7I {g:Grammar}(h0:Sz.szd g≤1048576)(hS:Shape g){r:Rule}(hr:r∈g.Rules){all:List Relation}(h:Inv g all)(c:Bool)(i:Nat) :
  ∃ c' all',q9C g i r (c,all)=some (c',all')∧q9z g i r (c,all)=some (c',all')∧Inv g all'∧sumA all≤sumA all'∧(c'=true→c=true∨sumA all < sumA all'):=by
 obtain⟨j,h1,h2,h4,h5,h6⟩:=h.at_ (hS.left hr)
 have hs:=Nat.le_trans (z1b hr) h0
 have hA:atI g r.Left=(j:Int):=by unfold atI; rw [h1]
 generalize hold:q6M g all r.Left=old at h4 h5 h6
 have hsum:=k9f (q9v h0) (q6c hs) (j1Z g r (j1p g r all))
 have hcs:=(j7G h0 hs (j3r hS hr h)).1
 generalize hnew:uniR old (sumS g r (j1Z g r (j1p g r all)))=new
 have hlen:=h5.len
 have hv:=j9l (a:=old) (b:=sumS g r (j1Z g r (j1p g r all))) h5
 have hm:=k5i (a:=old) (b:=sumS g r (j1Z g r (j1p g r all))) h5
 rw [hnew] at hv hm
 have hset:=j7H all j new old h4
 have hInv:Inv g (all.set j new):=by
  refine⟨by simpa using h.1,fun k y a hk ha=>?_⟩
  rw [List.getElem?_set] at ha
  by_cases hjk:j=k
  ·subst hjk
   rw [if_pos rfl,if_pos (by rw [h.1]; exact h2)] at ha
   cases ha
   have:=(h.2 j y old hk h4).2
   exact⟨hv.1,hv.2.trans this⟩
  ·rw [if_neg hjk] at ha; exact h.2 k y a hk ha
 refine⟨c || !decide (new=old),all.set j new,?_,?_,hInv,by omega,fun hc=>?_⟩
 ·unfold q9C
  dsimp only
  rw [j3q,Option.bind_some,hA,q3B (by omega),Int.toNat_natCast,h4,Option.bind_some,k1U h0 hS hr h,Option.bind_some,hsum.2,Option.bind_some,k5h (by omega),Option.bind_some,hnew]
  cases c with
  | true=>rfl
  | false=>rw [if_neg (by simp),k5l]; rfl
 ·unfold q9z
  dsimp only
  rw [k3h,Option.bind_some,hA,q3B (by omega),Int.toNat_natCast,h4,Option.bind_some,k1T hS hr h,Option.bind_some,hcs,Option.bind_some,hsum.1,Option.bind_some,k5f (by omega),Option.bind_some,hnew]
  cases c with
  | true=>first | rfl | (rw [Option.bind_some,if_pos rfl,q3B (by omega),Option.bind_some]; rfl)
  | false=>first | (rw [if_neg (by simp),j7B]; rfl) | (rw [Option.bind_some,if_neg (by simp),q3B (by omega),Option.bind_some,j7B]; rfl)
 ·rw [Bool.or_eq_true] at hc
  rcases hc with hc | hc
  ·exact .inl hc
  ·right
   have:new≠old:=by simpa using hc
   have h7:sumR old≠sumR new:=fun he=>this (hm.2 he)
   have:=hm.1
   omega
theorem j5c {g:Grammar}(h0:Sz.szd g≤1048576)(hS:Shape g):∀ (rs:List Rule) (i:Nat) (c:Bool) (all:List Relation),(∀ r∈rs,r∈g.Rules)→Inv g all →
  ∃ c' all',eachL (q9C g) i rs (c,all)=some (c',all')∧eachL (q9z g) i rs (c,all)=some (c',all')∧Inv g all'∧sumA all≤sumA all'∧(c'=true→c=true∨sumA all < sumA all')
 | [],i,c,all,_,h=>⟨c,all,rfl,rfl,h,Nat.le_refl _,fun hc=>.inl hc⟩
 | r :: rs,i,c,all,hr,h=>by
  obtain⟨c1,a1,e1,e2,e3,e4,e5⟩:=j7I h0 hS (hr r (by simp)) h c i
  obtain⟨c2,a2,f1,f2,f3,f4,f5⟩:=j5c h0 hS rs (i+1) c1 a1 (fun x hx=>hr x (by simp [hx])) e3
  refine⟨c2,a2,by rw [eachL,e1,Option.bind_some,f1],by rw [eachL,e2,Option.bind_some,f2],f3,by omega,fun hc=>?_⟩
  rcases f5 hc with h1 | h1
  ·rcases e5 h1 with h2 | h2
   ·exact .inl h2
   ·right; omega
  ·right; omega
theorem k7g {g:Grammar}(h0:Sz.szd g≤1048576)(hS:Shape g):∀ (d:Nat) (all:List Relation),Inv g all→g.Symbols.length*(16*65535) - sumA all≤d→∃ q,q4i (q4w g) (all,true)=some q∧q4i (q6Q g) all=some (q,true)∧Inv g q:=by
 intro d
 induction d with
 | zero=>
  intro all h hd
  obtain⟨c,a,e1,e2,e3,e4,e5⟩:=j5c h0 hS g.Rules 0 false all (fun _ h=>h) h
  have hb:=e3.bound
  rw [e3.1] at hb
  have hc:c=false:=by
   cases c with
   | false=>rfl
   | true=>
     rcases e5 rfl with h | h; · cases h
     omega
  subst hc
  refine⟨a,?_,?_,e3⟩
  ·have s1:q4w g (all,true)=some (.inl (a,false)):=by unfold q4w; dsimp only; rw [if_pos rfl,e1]; rfl
   have s2:q4w g (a,false)=some (.inr a):=by unfold q4w; dsimp only; rw [if_neg (by simp)]
   rw [q3L s1,q3E s2]
  ·exact q3E (by unfold q6Q; rw [e2,Option.bind_some]; rfl)
 | succ d ih=>
  intro all h hd
  obtain⟨c,a,e1,e2,e3,e4,e5⟩:=j5c h0 hS g.Rules 0 false all (fun _ h=>h) h
  cases c with
  | false=>
   refine⟨a,?_,?_,e3⟩
   ·have s1:q4w g (all,true)=some (.inl (a,false)):=by unfold q4w; dsimp only; rw [if_pos rfl,e1]; rfl
    have s2:q4w g (a,false)=some (.inr a):=by unfold q4w; dsimp only; rw [if_neg (by simp)]
    rw [q3L s1,q3E s2]
   ·exact q3E (by unfold q6Q; rw [e2,Option.bind_some]; rfl)
  | true=>
   have hlt:sumA all < sumA a:=by
     rcases e5 rfl with h | h; · cases h
     exact h
   have hb:=e3.bound
   rw [e3.1] at hb
   obtain⟨q,q1,q2,q3⟩:=ih a e3 (by omega)
   refine⟨q,?_,?_,q3⟩
   ·have s1:q4w g (all,true)=some (.inl (a,true)):=by unfold q4w; dsimp only; rw [if_pos rfl,e1]; rfl
    rw [q3L s1]; exact q1
   ·have s1:q6Q g all=some (.inl a):=by unfold q6Q; rw [e2,Option.bind_some]; rfl
    rw [q3L s1]; exact q2
def z9b (g:Grammar):List Relation:=g.Symbols.map fun y=>⟨((q6T g y.Name).length:Int),List.replicate (q6T g y.Name).length 0⟩
theorem j9q {g:Grammar}(hS:Shape g):Inv g (z9b g):=by
 refine⟨by unfold z9b; simp,fun k y a hk ha=>?_⟩
 unfold z9b at ha
 rw [List.getElem?_map,hk] at ha
 cases ha
 have h4:=hS.plain y.Name
 refine⟨⟨by show (0:Int)≤((q6T g y.Name).length:Int); omega,by show ((q6T g y.Name).length:Int)≤16; omega,by simp,fun x hx=>?_⟩,rfl⟩
 rw [List.mem_replicate] at hx
 have:=Nat.one_le_two_pow (n:=((q6T g y.Name).length:Int).toNat)
 show 0≤x∧x≤((2 ^ ((q6T g y.Name).length:Int).toNat:Nat):Int) - 1
 omega
theorem j0n {g:Grammar}(h0:Sz.szd g≤1048576)(hS:Shape g):q7y g=some (z9b g):=by
 have hl:=hS.syms
 unfold q7y z9b
 rw [j1o (g:=fun y:Symbol=>(⟨((q6T g y.Name).length:Int),List.replicate (q6T g y.Name).length 0⟩:Relation)) (B:=1048576) g.Symbols 0 [] (fun k y s hy hs=>by
  unfold z5E
  have:=hS.plain y.Name
  rw [j1n (q9v h0),Option.bind_some,z6L,j1e (by omega) (by omega),Option.bind_some,q3B (by constructor<;>omega),Int.toNat_natCast]) (by simp; omega)]
 simp
theorem k0K {g:Grammar}(h0:Sz.szd g≤1048576)(hS:Shape g):eachL (z1H g) 0 g.Symbols []=some (z9b g):=by
 have hl:=hS.syms
 unfold z9b
 rw [j1o (g:=fun y:Symbol=>(⟨((q6T g y.Name).length:Int),List.replicate (q6T g y.Name).length 0⟩:Relation)) (B:=1048576) g.Symbols 0 [] (fun k y s hy hs=>by
  unfold z1H
  have:=hS.plain y.Name
  rw [j1m (q9v h0),Option.bind_some,j1e (by omega) (by omega),Option.bind_some,q3B (by constructor<;>omega),Int.toNat_natCast]) (by simp; omega)]
 simp
theorem j6p {g:Grammar}(h0:Sz.szd g≤1048576):∃ q b,q6D g=some (q,b)∧q6y g=some (q,b)∧b=z5q g∧(z5q g=true→Inv g q)∧(z5q g=false→q=[]):=by
 unfold q6D q6y
 rw [k1N h0,k1O h0]
 cases hg:z5q g with
 | false=>exact⟨[],false,rfl,rfl,rfl,fun h=>(by cases h),fun _=>rfl⟩
 | true=>
  have hS:=z4u hg
  obtain⟨q,q1,q2,q3⟩:=k7g h0 hS _ (z9b g) (j9q hS) (Nat.le_refl _)
  refine⟨q,true,?_,?_,rfl,fun _=>q3,fun h=>(by cases h)⟩
  ·rw [Option.bind_some,if_pos rfl,j0n h0 hS,Option.bind_some,q1]; rfl
  ·rw [Option.bind_some,if_pos rfl,k0K h0 hS,Option.bind_some,q2]; rfl
noncomputable def uniL (g:Grammar):List Relation:=((q6y g).getD ([],false)).1
noncomputable def j7J (g:Grammar) (r:Rule):Bool:=k3m (j1Z g r (j1p g r (uniL g)))
noncomputable def j5d (g:Grammar):List ByteArray:=if z5q g=true then (g.Rules.filter (j7J g)).map fun r=>r.Name else []
theorem k0L {α β:Type}{p:α→Bool}{g:α→β}{xs:List α}{f:(List β × Int)→Option ((List β × Int) ⊕ List β)}(hf:∀ (k:Nat) x s,xs[k]? = some x→s.length≤k→f (s,(k:Int))=some (.inl (if p x=true then s++[g x] else s,((k+1:Nat):Int))))(he:∀ s,f (s,(xs.length:Int))=some (.inr s)) :
  ∀ (m k:Nat) (s:List β),k+m=xs.length→s.length≤k→q4i f (s,(k:Int))=some (s++((xs.drop k).filter p).map g)
 | 0,k,s,hk,_=>by
  obtain rfl:k=xs.length:=by omega
  rw [q3E (he s)]; simp
 | m+1,k,s,hk,hs=>by
  have hk' : k < xs.length:=by omega
  have h1:=hf k xs[k] s (List.getElem?_eq_getElem hk') hs
  rw [q3L h1,List.drop_eq_getElem_cons hk']
  by_cases hp:p xs[k]=true
  ·rw [if_pos hp,k0L hf he m (k+1) _ (by omega) (by simp; omega),List.filter_cons,if_pos hp]; simp
  ·rw [if_neg hp,k0L hf he m (k+1) _ (by omega) (by omega),List.filter_cons,if_neg hp]
theorem k3n {g:Grammar}(h0:Sz.szd g≤1048576):q8Y g=some (j5d g)∧q7Z g=some (j5d g):=by
 obtain⟨q,b,h1,h2,h3,h4,h5⟩:=j6p h0
 have hq:uniL g=q:=by unfold uniL; rw [h2]; rfl
 unfold q8Y q7Z j5d
 rw [h1,h2,Option.bind_some,Option.bind_some]
 try dsimp only
 subst h3
 cases hg:z5q g with
 | false=>
  rw [h5 hg]
  refine⟨?_,rfl⟩
  have:q6z g [] false ([],0)=some (.inr []):=by
   unfold q6z
   dsimp only
   split
   ·rfl
   ·rfl
  rw [q3E this]; rfl
 | true=>
  have hS:=z4u hg
  have hI:=h4 hg
  have hR:=hS.rules
  rw [if_pos rfl,if_pos rfl]
  have hloop:∀ r∈g.Rules,q9j (j1Z g r (j1p g r q))=some (j7J g r)∧z0e (j1Z g r (j1p g r q))=some (j7J g r):=fun r hr=>by
   have hl:=(j7G h0 (Nat.le_trans (z1b hr) h0) (j3r hS hr hI)).2.2
   unfold j7J
   rw [hq]
   exact⟨j7D (by omega),j7C (by omega)⟩
  constructor
  ·have key:=k0L (p:=j7J g) (g:=fun r:Rule=>r.Name) (xs:=g.Rules) (f:=q6z g q true) (fun k r s hr hs=>by
    have hk:=(List.getElem?_eq_some_iff.1 hr).1
    have hm:=List.mem_of_getElem? hr
    unfold q6z
    dsimp only
    rw [if_pos (by omega),if_pos rfl,q3B (by omega),Int.toNat_natCast,hr,Option.bind_some,k1T hS hm hI,Option.bind_some,(j7G h0 (Nat.le_trans (z1b hm) h0) (j3r hS hm hI)).1,Option.bind_some,(hloop r hm).1,Option.bind_some]
    cases j7J g r with
    | true=>rw [if_pos rfl,q3B (by constructor<;>omega),Option.bind_some,q3B (by constructor<;>omega)]; rfl
    | false=>rw [if_neg (by simp),Option.bind_some,q3B (by constructor<;>omega)]; rfl) (fun s=>by
    unfold q6z; dsimp only; rw [if_neg (by omega)]) g.Rules.length 0 [] (by omega) (by simp)
   rw [show q4i (q6z g q true) ([],0)=_ from key]
   simp
  ·rw [j3p (p:=j7J g) (g:=fun r:Rule=>r.Name) (B:=1048576) g.Rules 0 [] (fun k r s hr hs=>by
    unfold z6C
    rw [k1U h0 hS hr hI,Option.bind_some,(hloop r hr).2,Option.bind_some]
    cases j7J g r with
    | true=>rw [if_pos rfl,if_pos rfl,q3B (by constructor<;>omega)]; rfl
    | false=>rfl) (by simp; omega)]
   simp
end Go.Proofs.YtcegfmageiicaaaGreat
namespace Go.Proofs.YtcegfmageiicaaaGreat
open Go Go.E
def x0c:Attribute:=⟨⟨#[]⟩,0,0,false⟩
def j5e (r:Relation)(d:List Bool)(n k:Nat):Bool:=(List.range n).all fun i=>!decide (hasP r (i:Int) (k:Int))||d.getD i false
def okK (a:List Attribute)(r:Relation)(d:List Bool)(m:Int)(k:Nat):Bool:=decide ((a.getD k x0c).Mode=m) && !d.getD k false&&j5e r d a.length k
def j3a (a:List Attribute)(r:Relation)(d:List Bool)(m:Int):Option Nat:=(List.range a.length).find? (okK a r d m)
def q7n (a:List Attribute)(r:Relation)(m:Int):Nat→List Bool→List Nat × List Bool
 | 0,d=>([],d)
 | f+1,d=>match j3a a r d m with
  | none=>([],d)
  | some k=>(k :: (q7n a r m f (d.set k true)).1,(q7n a r m f (d.set k true)).2)
def nm (a:List Attribute)(k:Nat):ByteArray:=(a.getD k x0c).Name
theorem z6T {k:Nat}:∀ {d:List Bool},d[k]? = some false→(d.set k true).count false+1=d.count false
 | [],h=>by simp at h
 | x :: d,h=>by
  cases k with
  | zero=>simp at h; subst h; simp
  | succ k=>
   have ih:=z6T (k:=k) (d:=d) (by simpa using h)
   simp only [List.set_cons_succ,List.count_cons]
   omega
theorem z0o {α:Type}{l:List α}{k:Nat}{x z:α}(h:l[k]? = some x):l.getD k z=x:=by rw [List.getD_eq_getElem?_getD,h]; rfl
theorem k9g {a:List Attribute}{r:Relation}{d:List Bool}(hd:d.length=a.length)(k:Nat):z0n (k:Int) a r d=some (j5e r d a.length k):=by
 unfold z0n
 have hany:=j4M (c:=false) (xs:=a) (i:=0) (p:=fun i _=>hasP r (i:Int) (k:Int)∧d.getD i false=false) (f:=z5X (k:Int) r d) fun i x hx=>by
  rw [Nat.zero_add]
  have hi:=(List.getElem?_eq_some_iff.1 hx).1
  obtain⟨b,hb⟩:∃ b,d[i]? = some b:=⟨_,List.getElem?_eq_getElem (by omega)⟩
  rw [z0o hb]
  unfold z5X
  rw [z7y,Option.bind_some]
  by_cases hp:hasP r (i:Int) (k:Int)
  ·rw [if_pos (by simpa using hp),hb,Option.bind_some]
   cases b<;>simp [hp]
  ·rw [if_neg (by simpa using hp)]; simp [hp]
 cases hr:j5e r d a.length k with
 | true=>
  rw [hany.2 fun i x hx hp=>?_]
  ·rfl
  ·rw [Nat.zero_add] at hp
   have hi:=(List.getElem?_eq_some_iff.1 hx).1
   have:=List.all_eq_true.1 hr i (List.mem_range.2 hi)
   rw [decide_eq_true hp.1,hp.2] at this
   cases this
 | false=>
  have:∃ i,i < a.length∧hasP r (i:Int) (k:Int)∧d.getD i false=false:=by
   apply Classical.byContradiction
   intro hn
   have:j5e r d a.length k=true:=List.all_eq_true.2 fun i hi=>by
    have hi':=List.mem_range.1 hi
    by_cases hp:hasP r (i:Int) (k:Int)
    ·cases hb:d.getD i false with
     | true=>simp
     | false=>exact absurd ⟨i,hi',hp,hb⟩ hn
    ·simp [hp]
   rw [this] at hr; cases hr
  obtain⟨i,hi,hp⟩:=this
  rw [hany.1 ⟨i,_,List.getElem?_eq_getElem hi,by rw [Nat.zero_add]; exact hp⟩]; rfl
theorem k9h {a:List Attribute}{r:Relation}{d:List Bool}(hd:d.length=a.length)(hN:r.N=a.length)(k:Nat):z2O r d (k:Int)=some (j5e r d a.length k):=by
 unfold z2O
 rw [hN,Int.toNat_natCast]
 have hany:=j1b (c:=false) (n:=a.length) (i:=0) (p:=fun i=>hasP r (i:Int) (k:Int)∧d.getD i false=false) (f:=z8Q r d (k:Int)) fun i hi=>by
  rw [Nat.zero_add]
  obtain⟨b,hb⟩:∃ b,d[i]? = some b:=⟨_,List.getElem?_eq_getElem (by omega)⟩
  rw [z0o hb]
  unfold z8Q
  rw [q8j,Option.bind_some]
  by_cases hp:hasP r (i:Int) (k:Int)
  ·rw [if_pos (by simpa using hp),hb,Option.bind_some]
   cases b<;>simp [hp]
  ·rw [if_neg (by simpa using hp)]; simp [hp]
 cases hr:j5e r d a.length k with
 | true=>
  rw [hany.2 fun i hi hp=>?_]
  ·rfl
  ·rw [Nat.zero_add] at hp
   have:=List.all_eq_true.1 hr i (List.mem_range.2 hi)
   rw [decide_eq_true hp.1,hp.2] at this
   cases this
 | false=>
  have:∃ i,i < a.length∧hasP r (i:Int) (k:Int)∧d.getD i false=false:=by
   apply Classical.byContradiction
   intro hn
   have:j5e r d a.length k=true:=List.all_eq_true.2 fun i hi=>by
    have hi':=List.mem_range.1 hi
    by_cases hp:hasP r (i:Int) (k:Int)
    ·cases hb:d.getD i false with
     | true=>simp
     | false=>exact absurd ⟨i,hi',hp,hb⟩ hn
    ·simp [hp]
   rw [this] at hr; cases hr
  obtain⟨i,hi,hp⟩:=this
  rw [hany.1 ⟨i,hi,by rw [Nat.zero_add]; exact hp⟩]; rfl
theorem j3b {p:Nat→Bool}{n k:Nat}(hk:k < n)(hp:p k=true)(hn:∀ i,i < k→p i=false):(List.range n).find? p=some k:=by
 have e:List.range n=List.range k++(k :: (List.range' (k+1) (n - k - 1))):=by
  rw [List.range_eq_range',List.range_eq_range',show k :: List.range' (k+1) (n - k - 1)=List.range' k (n - k) from by
   rw [show n - k=(n - k - 1)+1 by omega,List.range'_succ]; rfl]
  have:=List.range'_append (s:=0) (m:=k) (n:=n - k) (step:=1)
  simp only [Nat.one_mul,Nat.zero_add] at this
  rw [this]; congr 1; omega
 rw [e,List.find?_append]
 have:(List.range k).find? p=none:=List.find?_eq_none.2 fun i hi=>by
  rw [hn i (List.mem_range.1 hi)]; simp
 rw [this]
 simp [hp]
theorem j5f {p:Nat→Bool}{n:Nat}(hn:∀ i,i < n→p i=false):(List.range n).find? p=none:=
 List.find?_eq_none.2 fun i hi=>by rw [hn i (List.mem_range.1 hi)]; simp
theorem z9c {a:List Attribute}{r:Relation}{d:List Bool}{m:Int}{k:Nat}(h:j3a a r d m=some k):k < a.length∧okK a r d m k=true∧d.getD k false=false:=by
 have h1:=List.mem_of_find?_eq_some h
 have h2:=List.find?_some h
 refine⟨List.mem_range.1 h1,h2,?_⟩
 unfold okK at h2
 simp only [Bool.and_eq_true,Bool.not_eq_true'] at h2
 exact h2.1.2
theorem z6U {d:List Bool}{k:Nat}(hk:k < d.length)(h:d.getD k false=false):d[k]? = some false:=by
 obtain⟨b,hb⟩:∃ b,d[k]? = some b:=⟨_,List.getElem?_eq_getElem hk⟩
 rw [z0o hb] at h; rw [hb,h]
theorem j9r {a:List Attribute}{r:Relation}{m:Int}{d:List Bool}(hd:d.length=a.length)(hn:a.length≤16)(acc:List ByteArray)(hacc:acc.length≤1000):∀ (j k:Nat),k+j=a.length→(∀ i,i < k→okK a r d m i=false) →
  q4i (q3F m a r) (acc,(k:Int),d)=match j3a a r d m with
   | none=>some (acc,d)
   | some q=>q4i (q3F m a r) (acc++[nm a q],0,d.set q true):=by
 intro j
 induction j with
 | zero=>
  intro k hk hno
  have hc:j3a a r d m=none:=j5f fun i hi=>hno i (by omega)
  rw [hc]
  exact q3E (by unfold q3F; dsimp only; rw [if_neg (by omega)])
 | succ j ih=>
  intro k hk hno
  obtain⟨x,hx⟩:∃ x,a[k]? = some x:=⟨_,List.getElem?_eq_getElem (by omega)⟩
  obtain⟨b,hb⟩:∃ b,d[k]? = some b:=⟨_,List.getElem?_eq_getElem (by omega)⟩
  have hin:((if x.Mode=m then grd (0≤(k:Int)) <| (d[(k:Int).toNat]?).bind fun x2=>some (!x2) else some false).bind fun s9=>(if s9=true then (z0n (k:Int) a r d).bind fun y1=>some y1 else some false))=some (okK a r d m k):=by
   unfold okK
   rw [z0o hx,z0o hb,k9g hd]
   by_cases hm:x.Mode=m
   ·rw [if_pos hm,q3B (by omega),Int.toNat_natCast,hb]
    cases b<;>simp [hm]
   ·rw [if_neg hm]; simp [hm]
  cases hok:okK a r d m k with
  | true=>
   have hc:j3a a r d m=some k:=j3b (by omega) hok hno
   rw [hc]
   have e:q3F m a r (acc,(k:Int),d)=some (.inl (acc++[nm a k],0,d.set k true)):=by
    unfold q3F
    dsimp only
    rw [if_pos (by omega),q3B (by omega),Int.toNat_natCast,hx,Option.bind_some]
    rw [Int.toNat_natCast] at hin
    have hin2:=hin
    rw [hok] at hin2
    obtain⟨s9,h1,h2⟩:=bd hin2
    rw [h1,Option.bind_some,h2,Option.bind_some,if_pos rfl,q3B (by constructor<;>omega),q3B (by omega),hb,Option.bind_some,Option.bind_some]
    dsimp only
    rw [q3B (by constructor<;>omega)]
    unfold nm
    rw [z0o hx]; rfl
   rw [q3L e]
  | false=>
   have e:q3F m a r (acc,(k:Int),d)=some (.inl (acc,((k+1:Nat):Int),d)):=by
    unfold q3F
    dsimp only
    rw [if_pos (by omega),q3B (by omega),Int.toNat_natCast,hx,Option.bind_some]
    rw [Int.toNat_natCast] at hin
    have hin2:=hin
    rw [hok] at hin2
    obtain⟨s9,h1,h2⟩:=bd hin2
    rw [h1,Option.bind_some,h2,Option.bind_some,if_neg (by simp),Option.bind_some]
    dsimp only
    rw [q3B (by constructor<;>omega)]; rfl
   rw [q3L e]
   exact ih (k+1) (by omega) fun i hi=>by
    by_cases h:i=k
    ·rw [h]; exact hok
    ·exact hno i (by omega)
theorem k1V {a:List Attribute}{r:Relation}{m:Int}(hn:a.length≤16):∀ (f:Nat) (d:List Bool) (acc:List ByteArray),d.length=a.length→d.count false≤f→acc.length+f≤1000 →
  q4i (q3F m a r) (acc,0,d)=some (acc++(q7n a r m f d).1.map (nm a),(q7n a r m f d).2):=by
 intro f
 induction f with
 | zero=>
  intro d acc hd hc hb
  have hs:=j9r (m:=m) (r:=r) hd hn acc (by omega) a.length 0 (by omega) (fun i hi=>absurd hi (Nat.not_lt_zero _))
  have hcand:j3a a r d m=none:=by
   cases h:j3a a r d m with
   | none=>rfl
   | some k=>
    obtain⟨h1,_,h3⟩:=z9c h
    have:=z6T (z6U (by omega) h3)
    omega
  rw [hcand] at hs
  have hs' : q4i (q3F m a r) (acc,0,d)=some (acc,d):=hs
  rw [hs']; simp [q7n]
 | succ f ih=>
  intro d acc hd hc hb
  have hs:=j9r (m:=m) (r:=r) hd hn acc (by omega) a.length 0 (by omega) (fun i hi=>absurd hi (Nat.not_lt_zero _))
  cases h:j3a a r d m with
  | none=>
   rw [h] at hs
   have hs' : q4i (q3F m a r) (acc,0,d)=some (acc,d):=hs
   rw [hs']; simp [q7n,h]
  | some k=>
   rw [h] at hs
   have hs' : q4i (q3F m a r) (acc,0,d)=q4i (q3F m a r) (acc++[nm a k],0,d.set k true):=hs
   obtain⟨h1,_,h3⟩:=z9c h
   have hcs:=z6T (z6U (by omega) h3)
   rw [hs',ih _ _ (by simp [hd]) (by omega) (by simp; omega)]
   simp [q7n,h]
theorem j5g {a:List Attribute}{r:Relation}{m:Int}{d:List Bool}(hd:d.length=a.length)(hN:r.N=a.length)(hn:a.length≤16):∀ (j:Nat) (at_:Int),j≤a.length →
  q4i (z0Y a r m d) (at_,(j:Int) - 1)=some (match (List.range j).find? (okK a r d m) with
   | none=>at_
   | some k=>(k:Int)):=by
 intro j
 induction j with
 | zero=>
  intro at_ _
  exact q3E (by unfold z0Y; dsimp only; rw [if_neg (by omega)]; rfl)
 | succ j ih=>
  intro at_ hj
  have ej:((j+1:Nat):Int) - 1=(j:Int):=by omega
  rw [ej]
  obtain⟨x,hx⟩:∃ x,a[j]? = some x:=⟨_,List.getElem?_eq_getElem (by omega)⟩
  obtain⟨b,hb⟩:∃ b,d[j]? = some b:=⟨_,List.getElem?_eq_getElem (by omega)⟩
  have hin:((if x.Mode=m then grd (0≤(j:Int)) <| (d[(j:Int).toNat]?).bind fun x2=>some (!x2) else some false).bind fun s7=>(if s7=true then (z2O r d (j:Int)).bind fun y1=>some y1 else some false))=some (okK a r d m j):=by
   unfold okK
   rw [z0o hx,z0o hb,k9h hd hN]
   by_cases hm:x.Mode=m
   ·rw [if_pos hm,q3B (by omega),Int.toNat_natCast,hb]
    cases b<;>simp [hm]
   ·rw [if_neg hm]; simp [hm]
  have e:z0Y a r m d (at_,(j:Int))=some (.inl ((if okK a r d m j=true then (j:Int) else at_),(j:Int) - 1)):=by
   unfold z0Y
   dsimp only
   rw [if_pos (by omega),q3B (by omega),Int.toNat_natCast,hx,Option.bind_some]
   rw [Int.toNat_natCast] at hin
   obtain⟨s9,h1,h2⟩:=bd hin
   rw [h1,Option.bind_some,h2,Option.bind_some]
   cases okK a r d m j with
   | true=>rw [if_pos rfl,if_pos rfl,Option.bind_some,q3B (by constructor<;>omega)]
   | false=>rw [if_neg (by simp),if_neg (by simp),Option.bind_some,q3B (by constructor<;>omega)]
  rw [q3L e,ih _ (by omega),List.range_succ,List.find?_append]
  cases hf:(List.range j).find? (okK a r d m) with
  | some k=>rfl
  | none=>
   cases hok:okK a r d m j<;>simp [hok]
theorem k1W {a:List Attribute}{r:Relation}{m:Int}(hN:r.N=a.length)(hn:a.length≤16):∀ (f:Nat) (d:List Bool) (acc:List ByteArray),d.length=a.length→d.count false≤f→acc.length+f≤1000 →
  q4i (z2P a r m) (acc,d)=some (acc++(q7n a r m f d).1.map (nm a),(q7n a r m f d).2):=by
 intro f
 induction f with
 | zero=>
  intro d acc hd hc hb
  have hcand:j3a a r d m=none:=by
   cases h:j3a a r d m with
   | none=>rfl
   | some k=>
    obtain⟨h1,_,h3⟩:=z9c h
    have:=z6T (z6U (by omega) h3)
    omega
  have hs:=j5g (m:=m) hd hN hn a.length (-1) (Nat.le_refl _)
  have hcand' : (List.range a.length).find? (okK a r d m)=none:=hcand
  rw [hcand'] at hs
  have hs' : q4i (z0Y a r m d) (-1,(a.length:Int) - 1)=some (-1):=hs
  rw [q3E (r:=(acc,d)) (by unfold z2P; dsimp only; rw [hs',Option.bind_some,if_pos (by omega)])]
  simp [q7n]
 | succ f ih=>
  intro d acc hd hc hb
  have hs:=j5g (m:=m) hd hN hn a.length (-1) (Nat.le_refl _)
  cases h:j3a a r d m with
  | none=>
   have hcand' : (List.range a.length).find? (okK a r d m)=none:=h
   rw [hcand'] at hs
   have hs' : q4i (z0Y a r m d) (-1,(a.length:Int) - 1)=some (-1):=hs
   rw [q3E (r:=(acc,d)) (by unfold z2P; dsimp only; rw [hs',Option.bind_some,if_pos (by omega)])]
   simp [q7n,h]
  | some k=>
   obtain⟨h1,_,h3⟩:=z9c h
   have hcand' : (List.range a.length).find? (okK a r d m)=some k:=h
   rw [hcand'] at hs
   obtain⟨x,hx⟩:∃ x,a[k]? = some x:=⟨_,List.getElem?_eq_getElem h1⟩
   have hdk:=z6U (by omega) h3
   have hcs:=z6T hdk
   have e:z2P a r m (acc,d)=some (.inl (acc++[nm a k],d.set k true)):=by
    unfold z2P
    dsimp only
    rw [hs,Option.bind_some]
    dsimp only
    rw [if_neg (by omega),q3B (by omega),Int.toNat_natCast,hdk,Option.bind_some,q3B (by omega),hx,Option.bind_some,q3B (by constructor<;>omega)]
    unfold nm
    rw [z0o hx]
   rw [q3L e,ih _ _ (by simp [hd]) (by omega) (by simp; omega)]
   simp [q7n,h]
theorem k1X {a:List Attribute}{r:Relation}{m:Int}:∀ (f:Nat) (d:List Bool),d.length=a.length→(q7n a r m f d).2.length=a.length∧(q7n a r m f d).2.count false+(q7n a r m f d).1.length=d.count false:=by
 intro f
 induction f with
 | zero=>intro d hd; simp [q7n,hd]
 | succ f ih=>
  intro d hd
  cases h:j3a a r d m with
  | none=>simp [q7n,h,hd]
  | some k=>
   obtain⟨h1,_,h3⟩:=z9c h
   have hcs:=z6T (z6U (by omega) h3)
   have:=ih (d.set k true) (by simp [hd])
   simp only [q7n,h,List.length_cons]
   refine⟨this.1,by omega⟩
def runP (a:List Attribute)(r:Relation):Nat→List (List Nat × List Nat)→List Bool→Option (List (List Nat × List Nat))
 | 0,out,_=>some out
 | f+1,out,d=>
  if out=[]∨0 < d.count false then
   if 0 < a.length∧(q7n a r 1 a.length d).1=[]∧(q7n a r 2 a.length (q7n a r 1 a.length d).2).1=[] then none
   else runP a r f (out++[((q7n a r 1 a.length d).1,(q7n a r 2 a.length (q7n a r 1 a.length d).2).1)]) (q7n a r 2 a.length (q7n a r 1 a.length d).2).2
  else some out
def toPh (a:List Attribute)(q:List Nat × List Nat):Phase:=⟨q.1.map (nm a),q.2.map (nm a)⟩
theorem j1q {d:List Bool}:d.count false≤d.length:=List.count_le_length
theorem z5Z (d:List Bool):q5G d false=some (decide (0 < d.count false)):=by
 have h:q7M d false=some (ixF d false):=by
  unfold q7M
  refine j4N fun k x=>⟨fun e=>?_,fun e=>?_⟩
  ·unfold z0w; rw [if_pos e.symm]
  ·unfold z0w; rw [if_neg (fun h=>e h.symm)]
 unfold q5G
 rw [h,Option.bind_some]
 congr 1
 unfold ixF
 by_cases hm:false∈d
 ·rw [if_pos hm]
  have:=List.count_pos_iff.2 hm
  simp [this]
 ·rw [if_neg hm]
  have:¬ 0 < d.count false:=fun h=>hm (List.count_pos_iff.1 h)
  simp [this]
theorem k7h {a:List Attribute}{r:Relation}(hN:r.N=a.length)(hn:a.length≤16):∀ (f:Nat) (out:List (List Nat × List Nat)) (d:List Bool),d.length=a.length→(out=[]→d.count false=a.length)→d.count false+(if out=[] then 1 else 0)≤f→out.length+f≤1000 →
  (∃ d',q4i (z1i a r) (out.map (toPh a),d)=some (match runP a r f out d with | none=>.inr ([],false) | some l=>.inl (l.map (toPh a),d'))) ∧
  ∃ d',q4i (z1h a r) (out.map (toPh a),d,((d.count false:Nat):Int))=some (match runP a r f out d with | none=>.inr ([],false) | some l=>.inl (l.map (toPh a),d')):=by
 intro f
 induction f with
 | zero=>
  intro out d hd hnil hc hb
  have ho:out≠[]:=fun e=>by rw [if_pos e] at hc; omega
  rw [if_neg ho] at hc
  have h0:d.count false=0:=by omega
  have hol:¬ ((out.map (toPh a)).length:Int)=0:=by
   have:=List.length_pos_iff.2 ho
   simp; exact fun e=>ho e
  refine⟨⟨d,q3E ?_⟩,⟨d,q3E ?_⟩⟩
  ·unfold z1i; dsimp only
   rw [if_neg hol,z5Z,Option.bind_some,Option.bind_some,if_neg (by simp [h0])]; rfl
  ·unfold z1h; dsimp only
   rw [h0,if_neg (by omega),Option.bind_some,if_neg (by simpa using hol)]; rfl
 | succ f ih=>
  intro out d hd hnil hc hb
  by_cases hgo:out=[]∨0 < d.count false
  ·have hi1:q4r 1 a r d=some ((q7n a r 1 a.length d).1.map (nm a),(q7n a r 1 a.length d).2):=by
    unfold q4r
    rw [k1V hn a.length d [] hd (by have:=j1q (d:=d); omega) (by simp; omega)]; rfl
   have hl1:=k1X (a:=a) (r:=r) (m:=1) a.length d hd
   have hi2:q4r 2 a r (q7n a r 1 a.length d).2=some ((q7n a r 2 a.length (q7n a r 1 a.length d).2).1.map (nm a),(q7n a r 2 a.length (q7n a r 1 a.length d).2).2):=by
    unfold q4r
    rw [k1V hn a.length _ [] hl1.1 (by have:=j1q (d:=(q7n a r 1 a.length d).2); omega) (by simp; omega)]; rfl
   have hl2:=k1X (a:=a) (r:=r) (m:=2) a.length _ hl1.1
   have hs1:z1g a r d 1=some ((q7n a r 1 a.length d).1.map (nm a),(q7n a r 1 a.length d).2):=by
    unfold z1g
    rw [k1W hN hn a.length d [] hd (by have:=j1q (d:=d); omega) (by simp; omega)]; rfl
   have hs2:z1g a r (q7n a r 1 a.length d).2 2=some ((q7n a r 2 a.length (q7n a r 1 a.length d).2).1.map (nm a),(q7n a r 2 a.length (q7n a r 1 a.length d).2).2):=by
    unfold z1g
    rw [k1W hN hn a.length _ [] hl1.1 (by have:=j1q (d:=(q7n a r 1 a.length d).2); omega) (by simp; omega)]; rfl
   have hdl:=j1q (d:=d)
   generalize hq1:(q7n a r 1 a.length d).1=q1 at *
   generalize hd1:(q7n a r 1 a.length d).2=d1 at *
   generalize hq2:(q7n a r 2 a.length d1).1=q2 at *
   generalize hd2:(q7n a r 2 a.length d1).2=d2 at *
   have hrun:runP a r (f+1) out d=if 0 < a.length∧q1=[]∧q2=[] then none else runP a r f (out++[(q1,q2)]) d2:=by
    simp only [runP,hq1,hd1,hq2,hd2]
    rw [if_pos hgo]
   have hci:(if ((out.map (toPh a)).length:Int)=0 then some true else (q5G d false).bind fun y3=>some y3)=some true:=by
    rcases hgo with h | h
    ·rw [h,if_pos (by simp)]
    ·by_cases h2:((out.map (toPh a)).length:Int)=0
     ·rw [if_pos h2]
     ·rw [if_neg h2,z5Z,Option.bind_some,decide_eq_true h]
   have hcs:(if 0 < ((d.count false:Nat):Int) then some true else some (decide (((out.map (toPh a)).length:Int)=0)))=some true:=by
    by_cases h:0 < d.count false
    ·rw [if_pos (by omega)]
    ·rw [if_neg (by omega)]
     have:out=[]:=hgo.resolve_right h
     rw [this]; simp
   have hlen:((q1.map (nm a)).length+(q2.map (nm a)).length:Nat)=q1.length+q2.length:=by simp
   by_cases hstop:0 < a.length∧q1=[]∧q2=[]
   ·rw [hrun,if_pos hstop]
    obtain⟨hp,e1,e2⟩:=hstop
    have hcd:0 < d.count false∨out=[]:=hgo.symm
    refine⟨⟨d,q3E ?_⟩,⟨d,q3E ?_⟩⟩
    ·unfold z1i; dsimp only
     rw [hci,Option.bind_some,if_pos rfl,hi1,Option.bind_some]
     dsimp only
     rw [hi2,Option.bind_some]
     dsimp only
     rw [hlen,if_pos (by omega),q3B (by constructor<;>omega),Option.bind_some,if_pos (by simp [e1,e2])]
    ·unfold z1h; dsimp only
     rw [hcs,Option.bind_some,if_pos rfl,hs1,Option.bind_some]
     dsimp only
     rw [hs2,Option.bind_some]
     dsimp only
     rw [hlen,q3B (by constructor<;>omega)]
     have hcp:0 < d.count false:=by
      rcases hgo with h | h
      ·rw [hnil h]; exact hp
      ·exact h
     have hz:((q1.length+q2.length:Nat):Int)=0:=by simp [e1,e2]
     rw [if_pos hz,Option.bind_some,if_pos (decide_eq_true (by omega))]
   ·rw [hrun,if_neg hstop]
    have hne:0 < a.length→¬ ((q1.length+q2.length:Nat):Int)=0:=fun hp h=>hstop ⟨hp,List.length_eq_zero_iff.1 (by omega),List.length_eq_zero_iff.1 (by omega)⟩
    have hex:a.length=0→q1.length+q2.length=0∧d.count false=0:=fun h=>by omega
    have hol:(out++[(q1,q2)]).map (toPh a)=out.map (toPh a)++[toPh a (q1,q2)]:=by simp
    have hle:(if out=[] then 1 else 0)≤1:=by split<;>omega
    have hcount:d2.count false+(if out++[(q1,q2)]=[] then 1 else 0)≤f:=by
     rw [if_neg (by simp)]
     by_cases ha:0 < a.length
     ·have:=hne ha
      omega
     ·have:out=[]∨¬ out=[]:=Classical.em _
      rcases this with h | h
      ·have:=hnil h; rw [if_pos h] at hc; omega
      ·have:=hgo.resolve_left h; omega
    have hih:=ih (out++[(q1,q2)]) d2 hl2.1 (fun h=>absurd h (by simp)) hcount (by rw [List.length_append]; simp; omega)
    obtain⟨⟨di,hi⟩,⟨ds,hs⟩⟩:=hih
    refine⟨⟨di,?_⟩,⟨ds,?_⟩⟩
    ·rw [← hi,hol]
     refine q3L ?_
     unfold z1i; dsimp only
     rw [hci,Option.bind_some,if_pos rfl,hi1,Option.bind_some]
     dsimp only
     rw [hi2,Option.bind_some]
     dsimp only
     rw [hlen]
     have hc8:(if 0 < (a.length:Int) then grd (I64 ((q1.length+q2.length:Nat):Int)) <| some (decide (((q1.length+q2.length:Nat):Int)=0)) else some false)=some false:=by
      by_cases ha:0 < a.length
      ·rw [if_pos (by omega),q3B (by constructor<;>omega),decide_eq_false (hne ha)]
      ·rw [if_neg (by omega)]
     rw [hc8,Option.bind_some,if_neg (by simp),List.length_map,q3B (by constructor<;>omega)]
     rfl
    ·have hcz:((d2.count false:Nat):Int)=((d.count false:Nat):Int) - ((q1.length+q2.length:Nat):Int):=by omega
     rw [← hs,hol,hcz]
     refine q3L ?_
     unfold z1h; dsimp only
     rw [hcs,Option.bind_some,if_pos rfl,hs1,Option.bind_some]
     dsimp only
     rw [hs2,Option.bind_some]
     dsimp only
     rw [hlen,q3B (by constructor<;>omega)]
     have hc9:(if ((q1.length+q2.length:Nat):Int)=0 then some (decide (0 < ((d.count false:Nat):Int))) else some false)=some false:=by
      by_cases ha:0 < a.length
      ·rw [if_neg (hne ha)]
      ·rw [if_pos (by omega),decide_eq_false (by omega)]
     rw [hc9,Option.bind_some,if_neg (by simp),q3B (by constructor<;>omega),List.length_map,q3B (by constructor<;>omega)]
     rfl
  ·have ho:out≠[]:=fun e=>hgo (.inl e)
   have h0:¬ 0 < d.count false:=fun h=>hgo (.inr h)
   have hol:¬ ((out.map (toPh a)).length:Int)=0:=by
    simp; exact ho
   have hrun:runP a r (f+1) out d=some out:=by simp only [runP]; rw [if_neg hgo]
   rw [hrun]
   refine⟨⟨d,q3E ?_⟩,⟨d,q3E ?_⟩⟩
   ·unfold z1i; dsimp only
    rw [if_neg hol,z5Z,Option.bind_some,Option.bind_some,if_neg (by simpa using h0)]
   ·unfold z1h; dsimp only
    rw [if_neg (by omega),Option.bind_some,if_neg (fun h=>hol (of_decide_eq_true h))]
end Go.Proofs.YtcegfmageiicaaaGreat
namespace Go.Proofs.YtcegfmageiicaaaGreat
open Go Go.E
theorem k0M {r:Relation}(h:Valid r):q9j r=some (decide (∃ k:Nat,k < r.Rows.length∧hasP (q6a r) (k:Int) (k:Int))):=by
 have hl:r.Rows.length≤1048576:=by have:=h.2.1; have:=h.2.2.1; omega
 have hN:r.N.toNat=r.Rows.length:=by have:=h.1; have:=h.2.2.1; omega
 unfold q9j
 rw [q6j,Option.bind_some,if_pos (by simpa using h),j1g hl,Option.bind_some,hN]
 have hf:∀ (k:Nat),(hasP (q6a r) (k:Int) (k:Int)→z2y (q6a r) k ()=some (.inr true))∧(¬ hasP (q6a r) (k:Int) (k:Int)→z2y (q6a r) k ()=some (.inl ())):=fun k=>by
  unfold z2y
  rw [q8j,Option.bind_some]
  exact⟨fun hp=>if_pos (by simpa using hp),fun hp=>if_neg (by simpa using hp)⟩
 have hany:=j1b (c:=true) (n:=r.Rows.length) (i:=0) (p:=fun k=>hasP (q6a r) (k:Int) (k:Int)) (f:=z2y (q6a r)) fun k _=>by
  rw [Nat.zero_add]; exact hf k
 by_cases hp:∃ k:Nat,k < r.Rows.length∧hasP (q6a r) (k:Int) (k:Int)
 ·rw [decide_eq_true hp]
  obtain⟨k,hk,hpk⟩:=hp
  rw [hany.1 ⟨k,hk,by rw [Nat.zero_add]; exact hpk⟩]; rfl
 ·rw [decide_eq_false hp]
  rw [hany.2 fun k hx hpk=>hp ⟨k,hx,by rw [Nat.zero_add] at hpk; exact hpk⟩]; rfl
def phR (a:List Attribute)(r:Relation):Option (List (List Nat × List Nat)):=
 if Valid r∧r.N=a.length∧¬ (∃ k:Nat,k < r.Rows.length∧hasP (q6a r) (k:Int) (k:Int)) then runP a r (a.length+1) [] (List.replicate a.length false) else none
def phO (a:List Attribute)(r:Relation):List Phase × Bool:=match phR a r with
 | none=>([],false)
 | some l=>(l.map (toPh a),true)
theorem k5r (n:Nat):(List.replicate n false).count false=n:=by simp
theorem j7K {a:List Attribute}{r:Relation}(h:phR a r=none):phO a r=([],false):=by unfold phO; rw [h]
theorem k0N {a:List Attribute}{r:Relation}(hn:a.length≤16)(hr:r.Rows.length≤1048576):z5c a r=some (phO a r)∧z5b a r=some (phO a r):=by
 have hb:=fun h=>k7h (a:=a) (r:=r) h hn (a.length+1) [] (List.replicate a.length false) (by simp) (fun _=>by simp) (by simp) (by simp; omega)
 unfold z5c z5b
 rw [z1a,q6j,Option.bind_some,Option.bind_some]
 by_cases hv:Valid r
 ·rw [decide_eq_true hv,if_pos rfl]
  rw [Option.bind_some,Option.bind_some]
  by_cases hN:r.N=a.length
  ·have e:(!decide (r.N=(a.length:Int)))=false:=by simp [hN]
   rw [e,if_neg (by simp),if_neg (by simp),j4Q hr,k0M hv]
   by_cases hlp:∃ k:Nat,k < r.Rows.length∧hasP (q6a r) (k:Int) (k:Int)
   ·rw [j7K (if_neg (fun h=>h.2.2 hlp)),decide_eq_true hlp,Option.bind_some,Option.bind_some,Option.bind_some,if_pos rfl,if_pos rfl]
    exact⟨rfl,rfl⟩
   ·have ep:phR a r=runP a r (a.length+1) [] (List.replicate a.length false):=if_pos ⟨hv,hN,hlp⟩
    unfold phO
    rw [ep,decide_eq_false hlp,Option.bind_some,Option.bind_some,Option.bind_some,if_neg (by simp),if_neg (by simp),q3B (by constructor<;>omega),q3B (by constructor<;>omega)]
    obtain⟨⟨d1,h1⟩,⟨d2,h2⟩⟩:=hb hN
    rw [k5r] at h2
    simp only [List.map_nil] at h1 h2
    rw [h1,h2]
    cases runP a r (a.length+1) [] (List.replicate a.length false) with
    | none=>exact⟨rfl,rfl⟩
    | some l=>exact⟨rfl,rfl⟩
  ·have e:(!decide (r.N=(a.length:Int)))=true:=by simp [hN]
   rw [j7K (if_neg (fun h=>hN h.2.1)),e,if_pos rfl,if_pos rfl,Option.bind_some,if_pos rfl]
   exact⟨rfl,rfl⟩
 ·rw [j7K (if_neg (fun h=>hv h.1)),decide_eq_false hv]
  exact⟨rfl,rfl⟩
end Go.Proofs.YtcegfmageiicaaaGreat
