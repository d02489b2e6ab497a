/- What those partial functions come to: plain lemmas on data; each bears its conditions in its statement. -/
import Derived.Test.YtmblndlpkpaobaaGreatLift
import Derived.Test.YtmblndlpkpaobaaGreatEngC
import Derived.Test.YtmblndlpkpaobaaGreatEngD
set_option linter.unusedVariables false
set_option linter.unusedSimpArgs false
set_option linter.ambiguousOpen false
set_option linter.unusedSectionVars false
set_option linter.unnecessarySimpa false
set_option linter.unusedVariables false
set_option linter.unusedSimpArgs false
namespace Go.Proofs.YtmblndlpkpaobaaGreat
open Go Go.E
mutual
def usesE:Expr→List Occurrence
 | ⟨a0,a1,a2,a3,a4,a5,a6⟩=>(if a0=3 then [⟨a2,a5⟩] else [])++usesEs a6
def usesEs:List Expr→List Occurrence
 | []=>[]
 | x :: xs=>usesE x++usesEs xs
end
mutual
def fuE:Expr→Nat
 | ⟨_,_,_,_,_,_,a6⟩=>fuEs a6+1
def fuEs:List Expr→Nat
 | []=>0
 | x :: xs=>max (fuE x) (fuEs xs)
end
theorem fuE_eq (e:Expr):fuE e=fuEs e.Args+1:=by cases e; rfl
theorem z4l:∀ {l:List Expr}{x:Expr},x∈l→fuE x≤fuEs l
 | y :: l,x,h=>by
  simp only [fuEs]
  rcases List.mem_cons.1 h with e | h
  ·subst e; omega
  ·have:=z4l h; omega
theorem q7t (e:Expr):usesE e=(if e.Kind=3 then [⟨e.Pos,e.Name⟩] else [])++usesEs e.Args:=by cases e; rfl
mutual
theorem z5c:∀ e:Expr,(usesE e).length≤1+q4T e
 | ⟨a0,a1,a2,a3,a4,a5,a6⟩=>by
  have:=z3C a6
  simp only [usesE,q4T,List.length_append]
  split<;>simp<;>omega
theorem z3C:∀ l:List Expr,(usesEs l).length≤q5O l
 | []=>by simp [usesEs]
 | x :: xs=>by
  have h1:=z5c x
  have h2:=z3C xs
  simp only [usesEs,q5O,List.length_append]; omega
end
theorem z0v {α:Type} [Sz α]{x:α}:∀ {l:List α},x∈l→Sz.szd x < szL l
 | [],h=>by simp at h
 | y :: l,h=>by
  rcases List.mem_cons.1 h with rfl | h
  ·simp only [szL]; omega
  ·have:=z0v h; simp only [szL]; omega
theorem arg_sz {e x:Expr}(h:x∈e.Args):Sz.szd x < Sz.szd e:=by
 have h1:=q2L e
 have h2:=z0v h
 omega
theorem z7W {e:Expr}(h:Sz.szd e≤1048576):(usesE e).length≤1048577:=by
 have h1:=z5c e
 have h2:q4T e=Sz.szd e:=rfl
 omega
theorem z1c {o:Occurrence}:∀ {l:List Expr},o∈usesEs l↔∃ x∈l,o∈usesE x
 | []=>by simp [usesEs]
 | x :: xs=>by simp [usesEs,z1c (l:=xs)]
theorem z5W:∀ (m:Nat)(e:Expr)(o:List Occurrence),fuE e≤m→o.length+(usesE e).length≤4398046511104→q0G m e o=some (true,o++usesE e):=by
 intro m
 induction m with
 | zero=>intro e o h; rw [fuE_eq] at h; omega
 | succ m ih=>
  have hl:∀ (l:List Expr) (i:Nat) (o:List Occurrence),fuEs l≤m→o.length+(usesEs l).length≤4398046511104→findL (q0w (q0G m)) i l o=some (.inl (o++usesEs l)):=by
   intro l
   induction l with
   | nil=>intro i o _ _; simp [findL,usesEs]
   | cons x l ihl=>
    intro i o hf hb
    simp only [fuEs] at hf
    simp only [usesEs,List.length_append] at hb
    have hx:=ih x o (by omega) (by omega)
    simp only [findL,q0w,q2n,hx,Option.bind_some,Bool.not_true,Bool.false_eq_true,if_false]
    rw [ihl _ _ (by omega) (by rw [List.length_append]; omega),usesEs,List.append_assoc]
  intro e o hf hb
  rw [fuE_eq] at hf
  show q1K (q0G m) e o=_
  have hb':=hb
  rw [q7t,List.length_append] at hb'
  have h1:q4g e o=some (true,o++if e.Kind=3 then [⟨e.Pos,e.Name⟩] else []):=by
   unfold q4g
   by_cases hk:e.Kind=3
   ·rw [if_pos hk] at hb' ⊢
    rw [if_pos hk,q0d]
    simp only [List.length_cons,List.length_nil] at hb'
    constructor<;>omega
   ·rw [if_neg hk,if_neg hk,List.append_nil]
  unfold q1K
  rw [h1,Option.bind_some]
  dsimp only
  rw [if_pos rfl]
  unfold q0t q0A
  rw [hl _ _ _ (by omega) (by rw [List.length_append]; omega),q7t]
  simp [onr]
theorem z8S {e:Expr}(h:(usesE e).length≤4398046511104):q2B e []=some (true,usesE e):=
 q4q (fuE e) fun m hm=>by simpa using z5W m e [] hm (by simpa using h)
theorem z5X {α:Type}{s:List α}{k:Nat}{x:α}(h:k < s.length):(s.set k x).take (k+1)=s.take k++[x]:=by
 rw [List.take_add_one,List.take_set,List.set_eq_of_length_le (by simp; omega)]
 simp [List.getElem?_set,h]
theorem z7m {a:List Occurrence}{b:Nat}(ha:a.length≤4398046511104)(hb:1≤b)(hba:b < a.length):∀ (m j k:Nat)(s:List Occurrence),b+j+m=a.length→1≤j→1≤k→k≤b+j - 1→s.length=a.length→s.take k=q1h (a.take (b+j))→s.drop (b+j - 1)=a.drop (b+j - 1) →
  ∃ s' k',iterO (q0p (b:Int)) (s,(k:Int),(j:Int))=some (s',((k' : Nat):Int))∧k'≤s'.length∧s'.take k'=q1h a:=by
 intro m
 induction m with
 | zero=>
  intro j k s hm hj hk hkj hs ht hd
  refine⟨s,k,q1t ?_,by omega,?_⟩
  ·unfold q0p
   dsimp only
   rw [if_neg (by simp only [Int.toNat_natCast,List.length_drop]; omega)]
  ·rw [ht,show b+j=a.length by omega,List.take_length]
 | succ m ih=>
  intro j k s hm hj hk hkj hs ht hd
  obtain⟨x,hx⟩:∃ x,a[b+j]? = some x:=⟨_,List.getElem?_eq_getElem (by omega)⟩
  obtain⟨y,hy⟩:∃ y,a[b+j - 1]? = some y:=⟨_,List.getElem?_eq_getElem (by omega)⟩
  obtain⟨z,hz⟩:∃ z,s[k]? = some z:=⟨_,List.getElem?_eq_getElem (by omega)⟩
  have hsx:s[b+j]? = some x:=by
   have:=congrArg (fun l=>l[1]?) hd
   simp only [List.getElem?_drop] at this
   rw [show b+j - 1+1=b+j by omega] at this
   rw [this,hx]
  have hsy:s[b+(j - 1)]? = some y:=by
   have:=congrArg (fun l=>l[0]?) hd
   simp only [List.getElem?_drop,Nat.add_zero] at this
   rw [show b+(j - 1)=b+j - 1 by omega,this,hy]
  have hc:=z0b (i:=b+j - 1) (b:=x) hy (by rw [show b+j - 1+1=b+j by omega]; exact hx)
  rw [show b+j - 1+2=b+(j+1) by omega,show b+j - 1+1=b+j by omega] at hc
  have hd2:s.drop (b+(j+1) - 1)=a.drop (b+(j+1) - 1):=by
   have:=congrArg (fun l=>l.drop 1) hd
   simp only [List.drop_drop] at this
   rw [show b+(j+1) - 1=b+j - 1+1 by omega]; exact this
  have e1:((j:Int) - 1).toNat=j - 1:=by omega
  by_cases hxy:x=y
  ·have e:q0p (b:Int) (s,(k:Int),(j:Int))=some (.inl (s,(k:Int),((j+1:Nat):Int))):=by
    unfold q0p
    dsimp only
    rw [if_pos (by simp only [Int.toNat_natCast,List.length_drop]; omega),q0d (by omega)]
    simp only [Int.toNat_natCast]
    rw [hsx,Option.bind_some,q0d (by constructor<;>omega),q0d (by omega),e1,hsy,Option.bind_some,if_pos hxy,Option.bind_some]
    dsimp only
    rw [q0d (by constructor<;>omega)]; rfl
   rw [q2b e]
   exact ih (j+1) k s (by omega) (by omega) hk (by omega) hs (by rw [hc,if_pos hxy.symm,ht]) hd2
  ·have e:q0p (b:Int) (s,(k:Int),(j:Int))=some (.inl (s.set k x,((k+1:Nat):Int),((j+1:Nat):Int))):=by
    unfold q0p
    dsimp only
    rw [if_pos (by simp only [Int.toNat_natCast,List.length_drop]; omega),q0d (by omega)]
    simp only [Int.toNat_natCast]
    rw [hsx,Option.bind_some,q0d (by constructor<;>omega),q0d (by omega),e1,hsy,Option.bind_some,if_neg hxy,q0d (by omega),q0d (by omega),hz,Option.bind_some,q0d (by constructor<;>omega),Option.bind_some]
    dsimp only
    rw [q0d (by constructor<;>omega)]; rfl
   rw [q2b e]
   refine ih (j+1) (k+1) _ (by omega) (by omega) (by omega) (by omega) (by rw [List.length_set]; exact hs) ?_ ?_
   ·rw [z5X (by omega),ht,hc,if_neg (fun h=>hxy h.symm)]
   ·rw [List.drop_set,if_pos (by omega)]; exact hd2
theorem z5Y {a:List Occurrence}(ha:a.length≤4398046511104):∀ (m k:Nat),k+m=a.length→1≤k→q1h (a.take k)=a.take k →
  (iterO (q0q a) (k:Int)).bind (onr (fun r1=>some r1) fun _=>some a)=some (q1h a):=by
 intro m
 induction m with
 | zero=>
  intro k hm hk hc
  have e:q0q a (k:Int)=some (.inr (.inl ())):=by
   unfold q0q
   dsimp only
   rw [if_neg (by omega)]
  rw [q1t e,Option.bind_some]
  show some a=_
  rw [show k=a.length by omega,List.take_length] at hc
  rw [hc]
 | succ m ih=>
  intro k hm hk hc
  obtain⟨x,hx⟩:∃ x,a[k]? = some x:=⟨_,List.getElem?_eq_getElem (by omega)⟩
  obtain⟨y,hy⟩:∃ y,a[k - 1]? = some y:=⟨_,List.getElem?_eq_getElem (by omega)⟩
  have hct:=z0b (i:=k - 1) (b:=x) hy (by rw [show k - 1+1=k by omega]; exact hx)
  rw [show k - 1+2=k+1 by omega,show k - 1+1=k by omega] at hct
  have htk:a.take (k+1)=a.take k++[x]:=by rw [List.take_add_one,hx]; rfl
  have e1:((k:Int) - 1).toNat=k - 1:=by omega
  by_cases hxy:x=y
  ·obtain⟨s',k',h1,h2,h3⟩:=z7m (b:=k) ha hk (by omega) m 1 k a (by omega) (by omega) hk (by omega) rfl (by rw [hct,if_pos hxy.symm,hc]) rfl
   have hl:(s'.take k'++List.replicate (s'.length - k') (⟨(0:Int),(⟨#[]⟩:ByteArray)⟩:Occurrence)).take k'=q1h a:=by
    rw [List.take_append_of_le_length (by simp; omega),List.take_take,Nat.min_self,h3]
   have e:q0q a (k:Int)=some (.inr (.inr (q1h a))):=by
    unfold q0q
    dsimp only
    rw [if_pos (by omega),q0d (by omega)]
    simp only [Int.toNat_natCast]
    rw [hx,Option.bind_some,q0d (by constructor<;>omega),q0d (by omega),e1,hy,Option.bind_some,if_pos hxy,q0d (by omega),q0d (by omega)]
    have h1' : iterO (q0p (k:Int)) (a,(k:Int),1)=some (s',((k' : Nat):Int)):=h1
    rw [h1',Option.bind_some]
    dsimp only
    simp only [Int.toNat_natCast]
    rw [q0d (by omega),q0d (by omega),q0d (by omega),q0d (by simp; omega),hl]
   rw [q1t e,Option.bind_some]; rfl
  ·have e:q0q a (k:Int)=some (.inl ((k+1:Nat):Int)):=by
    unfold q0q
    dsimp only
    rw [if_pos (by omega),q0d (by omega)]
    simp only [Int.toNat_natCast]
    rw [hx,Option.bind_some,q0d (by constructor<;>omega),q0d (by omega),e1,hy,Option.bind_some,if_neg hxy,q0d (by constructor<;>omega)]; rfl
   rw [q2b e]
   exact ih (k+1) (by omega) (by omega) (by rw [hct,if_neg (fun h=>hxy h.symm),hc,htk])
theorem z7n {a:List Occurrence}(ha:a.length≤4398046511104):q1Z a=some (q1h a):=by
 unfold q1Z
 by_cases h:(a.length:Int) < 2
 ·rw [if_pos h]
  match a,h with
  | [],_=>rfl
  | [x],_=>rfl
  | x :: y :: l,h=>simp only [List.length_cons] at h; omega
 ·rw [if_neg h]
  refine z5Y ha (a.length - 1) 1 (by omega) (Nat.le_refl _) ?_
  match a,h with
  | x :: l,_=>rfl
def attrs (e:Expr):List Occurrence:=q1h (sortO (usesE e))
theorem z2L {o:Occurrence}{e:Expr}:o∈attrs e↔o∈usesE e:=by
 unfold attrs sortO
 rw [q8E,List.mem_mergeSort]
theorem z6F {e:Expr}(h:Sz.szd e≤1048576):q3W e=some (attrs e):=by
 have hl:=z7W h
 have hs:(sortO (usesE e)).length=(usesE e).length:=by unfold sortO; exact List.length_mergeSort _
 unfold q3W
 rw [z8S (by omega),Option.bind_some]
 dsimp only
 unfold q2N
 rw [q0d (by omega),Option.bind_some,z7n (by omega)]; rfl
end Go.Proofs.YtmblndlpkpaobaaGreat
