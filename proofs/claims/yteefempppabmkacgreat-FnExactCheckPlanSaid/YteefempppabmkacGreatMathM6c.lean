/- What those partial functions come to: plain lemmas on data; each bears its conditions in its statement. -/
import Derived.Test.YteefempppabmkacGreatLift
import Derived.Test.YteefempppabmkacGreatEngC
import Derived.Test.YteefempppabmkacGreatEngD
set_option linter.unusedVariables false
set_option linter.unusedSimpArgs false
set_option linter.ambiguousOpen false
set_option linter.unusedSectionVars false
set_option linter.unnecessarySimpa false
set_option linter.unusedVariables false
set_option linter.unusedSimpArgs false
namespace Go.Proofs.YteefempppabmkacGreat
open Go Go.E
mutual
def z3y:Expr→List Occurrence
 | ⟨a0,a1,a2,a3,a4,a5,a6⟩=>(if a0=3 then [⟨a2,a5⟩] else [])++q9i a6
def q9i:List Expr→List Occurrence
 | []=>[]
 | x :: xs=>z3y x++q9i xs
end
mutual
def fuE:Expr→Nat
 | ⟨_,_,_,_,_,_,a6⟩=>fuEs a6+1
def fuEs:List Expr→Nat
 | []=>0
 | x :: xs=>max (fuE x) (fuEs xs)
end
theorem z1N (e:Expr):fuE e=fuEs e.Args+1:=by cases e; rfl
theorem z4N:∀ {l:List Expr} {x:Expr},x∈l→fuE x≤fuEs l
 | y :: l,x,h=>by
  simp only [fuEs]
  rcases List.mem_cons.1 h with e | h
  ·subst e; omega
  ·have:=z4N h; omega
theorem z3e (e:Expr):z3y e=(if e.Kind=3 then [⟨e.Pos,e.Name⟩] else [])++q9i e.Args:=by cases e; rfl
mutual
theorem j2y:∀ e:Expr,(z3y e).length≤1+q9A e
 | ⟨a0,a1,a2,a3,a4,a5,a6⟩=>by
  have:=j0y a6
  simp only [z3y,q9A,List.length_append]
  split<;>simp<;>omega
theorem j0y:∀ l:List Expr,(q9i l).length≤z1z l
 | []=>by simp [q9i]
 | x :: xs=>by
  have h1:=j2y x
  have h2:=j0y xs
  simp only [q9i,z1z,List.length_append]; omega
end
theorem q6u {α:Type}[Sz α]{x:α}:∀ {l:List α},x∈l→Sz.szd x < szL l
 | [],h=>by simp at h
 | y :: l,h=>by
  rcases List.mem_cons.1 h with rfl | h
  ·simp only [szL]; omega
  ·have:=q6u h; simp only [szL]; omega
theorem j6w {e x:Expr}(h:x∈e.Args):Sz.szd x < Sz.szd e:=by
 have h1:=q7v e
 have h2:=q6u h
 omega
theorem j6x {e:Expr}(h:Sz.szd e≤1048576):(z3y e).length≤1048577:=by
 have h1:=j2y e
 have h2:q9A e=Sz.szd e:=rfl
 omega
theorem j3P:∀ (m:Nat) (e:Expr) (o:List Occurrence),fuE e≤m→o.length+(z3y e).length≤4398046511104→q2X m e o=some (true,o++z3y e):=by
 intro m
 induction m with
 | zero=>intro e o h; rw [z1N] at h; omega
 | succ m ih=>
  have hl:∀ (l:List Expr) (i:Nat) (o:List Occurrence),fuEs l≤m→o.length+(q9i l).length≤4398046511104→q2u (q2H (q2X m)) i l o=some (.inl (o++q9i l)):=by
   intro l
   induction l with
   | nil=>intro i o _ _; simp [q2u,q9i]
   | cons x l ihl=>
    intro i o hf hb
    simp only [fuEs] at hf
    simp only [q9i,List.length_append] at hb
    have hx:=ih x o (by omega) (by omega)
    simp only [q2u,q2H,q4P,hx,Option.bind_some,Bool.not_true,Bool.false_eq_true,if_false]
    rw [ihl _ _ (by omega) (by rw [List.length_append]; omega),q9i,List.append_assoc]
  intro e o hf hb
  rw [z1N] at hf
  show q4l (q2X m) e o=_
  have hb':=hb
  rw [z3e,List.length_append] at hb'
  have h1:q7x e o=some (true,o++if e.Kind=3 then [⟨e.Pos,e.Name⟩] else []):=by
   unfold q7x
   by_cases hk:e.Kind=3
   ·rw [if_pos hk] at hb' ⊢
    rw [if_pos hk,q2q]
    simp only [List.length_cons,List.length_nil] at hb'
    constructor<;>omega
   ·rw [if_neg hk,if_neg hk,List.append_nil]
  unfold q4l
  rw [h1,Option.bind_some]
  dsimp only
  rw [if_pos rfl]
  unfold q2E q2K
  rw [hl _ _ _ (by omega) (by rw [List.length_append]; omega),z3e]
  simp [onr]
theorem j8m {e:Expr}(h:(z3y e).length≤4398046511104):q5r e []=some (true,z3y e):=
 q7E (fuE e) fun m hm=>by simpa using j3P m e [] hm (by simpa using h)
theorem j3Q {α:Type}{s:List α}{k:Nat}{x:α}(h:k < s.length):(s.set k x).take (k+1)=s.take k++[x]:=by
 rw [List.take_add_one,List.take_set,List.set_eq_of_length_le (by simp; omega)]
 simp [List.getElem?_set,h]
theorem j5s {a:List Occurrence}{b:Nat}(ha:a.length≤4398046511104)(hb:1≤b)(hba:b < a.length):∀ (m j k:Nat) (s:List Occurrence),b+j+m=a.length→1≤j→1≤k→k≤b+j - 1→s.length=a.length→s.take k=q3H (a.take (b+j))→s.drop (b+j - 1)=a.drop (b+j - 1) →
  ∃ s' k',q7k (q2A (b:Int)) (s,(k:Int),(j:Int))=some (s',((k' : Nat):Int))∧k'≤s'.length∧s'.take k'=q3H a:=by
 intro m
 induction m with
 | zero=>
  intro j k s hm hj hk hkj hs ht hd
  refine⟨s,k,q3X ?_,by omega,?_⟩
  ·unfold q2A
   dsimp only
   rw [if_neg (by simp only [Int.toNat_natCast,List.length_drop]; omega)]
  ·rw [ht,show b+j=a.length by omega,List.take_length]
 | succ m ih=>
  intro j k s hm hj hk hkj hs ht hd
  obtain⟨x,hx⟩:∃ x,a[b+j]? = some x:=⟨_,List.getElem?_eq_getElem (by omega)⟩
  obtain⟨y,hy⟩:∃ y,a[b+j - 1]? = some y:=⟨_,List.getElem?_eq_getElem (by omega)⟩
  obtain⟨z,hz⟩:∃ z,s[k]? = some z:=⟨_,List.getElem?_eq_getElem (by omega)⟩
  have hsx:s[b+j]? = some x:=by
   have:=congrArg (fun l=>l[1]?) hd
   simp only [List.getElem?_drop] at this
   rw [show b+j - 1+1=b+j by omega] at this
   rw [this,hx]
  have hsy:s[b+(j - 1)]? = some y:=by
   have:=congrArg (fun l=>l[0]?) hd
   simp only [List.getElem?_drop,Nat.add_zero] at this
   rw [show b+(j - 1)=b+j - 1 by omega,this,hy]
  have hc:=z5N (i:=b+j - 1) (b:=x) hy (by rw [show b+j - 1+1=b+j by omega]; exact hx)
  rw [show b+j - 1+2=b+(j+1) by omega,show b+j - 1+1=b+j by omega] at hc
  have hd2:s.drop (b+(j+1) - 1)=a.drop (b+(j+1) - 1):=by
   have:=congrArg (fun l=>l.drop 1) hd
   simp only [List.drop_drop] at this
   rw [show b+(j+1) - 1=b+j - 1+1 by omega]; exact this
  have e1:((j:Int) - 1).toNat=j - 1:=by omega
  by_cases hxy:x=y
  ·have e:q2A (b:Int) (s,(k:Int),(j:Int))=some (.inl (s,(k:Int),((j+1:Nat):Int))):=by
    unfold q2A
    dsimp only
    rw [if_pos (by simp only [Int.toNat_natCast,List.length_drop]; omega),q2q (by omega)]
    simp only [Int.toNat_natCast]
    rw [hsx,Option.bind_some,q2q (by constructor<;>omega),q2q (by omega),e1,hsy,Option.bind_some,if_pos hxy,Option.bind_some]
    dsimp only
    rw [q2q (by constructor<;>omega)]; rfl
   rw [q5h e]
   exact ih (j+1) k s (by omega) (by omega) hk (by omega) hs (by rw [hc,if_pos hxy.symm,ht]) hd2
  ·have e:q2A (b:Int) (s,(k:Int),(j:Int))=some (.inl (s.set k x,((k+1:Nat):Int),((j+1:Nat):Int))):=by
    unfold q2A
    dsimp only
    rw [if_pos (by simp only [Int.toNat_natCast,List.length_drop]; omega),q2q (by omega)]
    simp only [Int.toNat_natCast]
    rw [hsx,Option.bind_some,q2q (by constructor<;>omega),q2q (by omega),e1,hsy,Option.bind_some,if_neg hxy,q2q (by omega),q2q (by omega),hz,Option.bind_some,q2q (by constructor<;>omega),Option.bind_some]
    dsimp only
    rw [q2q (by constructor<;>omega)]; rfl
   rw [q5h e]
   refine ih (j+1) (k+1) _ (by omega) (by omega) (by omega) (by omega) (by rw [List.length_set]; exact hs) ?_ ?_
   ·rw [j3Q (by omega),ht,hc,if_neg (fun h=>hxy h.symm)]
   ·rw [List.drop_set,if_pos (by omega)]; exact hd2
theorem j3R {a:List Occurrence}(ha:a.length≤4398046511104):∀ (m k:Nat),k+m=a.length→1≤k→q3H (a.take k)=a.take k →
  (q7k (q2B a) (k:Int)).bind (onr (fun r1=>some r1) fun _=>some a)=some (q3H a):=by
 intro m
 induction m with
 | zero=>
  intro k hm hk hc
  have e:q2B a (k:Int)=some (.inr (.inl ())):=by
   unfold q2B
   dsimp only
   rw [if_neg (by omega)]
  rw [q3X e,Option.bind_some]
  show some a=_
  rw [show k=a.length by omega,List.take_length] at hc
  rw [hc]
 | succ m ih=>
  intro k hm hk hc
  obtain⟨x,hx⟩:∃ x,a[k]? = some x:=⟨_,List.getElem?_eq_getElem (by omega)⟩
  obtain⟨y,hy⟩:∃ y,a[k - 1]? = some y:=⟨_,List.getElem?_eq_getElem (by omega)⟩
  have hct:=z5N (i:=k - 1) (b:=x) hy (by rw [show k - 1+1=k by omega]; exact hx)
  rw [show k - 1+2=k+1 by omega,show k - 1+1=k by omega] at hct
  have htk:a.take (k+1)=a.take k++[x]:=by rw [List.take_add_one,hx]; rfl
  have e1:((k:Int) - 1).toNat=k - 1:=by omega
  by_cases hxy:x=y
  ·obtain⟨s',k',h1,h2,h3⟩:=j5s (b:=k) ha hk (by omega) m 1 k a (by omega) (by omega) hk (by omega) rfl (by rw [hct,if_pos hxy.symm,hc]) rfl
   have hl:(s'.take k'++List.replicate (s'.length - k') (⟨(0:Int),(⟨#[]⟩:ByteArray)⟩:Occurrence)).take k'=q3H a:=by
    rw [List.take_append_of_le_length (by simp; omega),List.take_take,Nat.min_self,h3]
   have e:q2B a (k:Int)=some (.inr (.inr (q3H a))):=by
    unfold q2B
    dsimp only
    rw [if_pos (by omega),q2q (by omega)]
    simp only [Int.toNat_natCast]
    rw [hx,Option.bind_some,q2q (by constructor<;>omega),q2q (by omega),e1,hy,Option.bind_some,if_pos hxy,q2q (by omega),q2q (by omega)]
    have h1' : q7k (q2A (k:Int)) (a,(k:Int),1)=some (s',((k' : Nat):Int)):=h1
    rw [h1',Option.bind_some]
    dsimp only
    simp only [Int.toNat_natCast]
    rw [q2q (by omega),q2q (by omega),q2q (by omega),q2q (by simp; omega),hl]
   rw [q3X e,Option.bind_some]; rfl
  ·have e:q2B a (k:Int)=some (.inl ((k+1:Nat):Int)):=by
    unfold q2B
    dsimp only
    rw [if_pos (by omega),q2q (by omega)]
    simp only [Int.toNat_natCast]
    rw [hx,Option.bind_some,q2q (by constructor<;>omega),q2q (by omega),e1,hy,Option.bind_some,if_neg hxy,q2q (by constructor<;>omega)]; rfl
   rw [q5h e]
   exact ih (k+1) (by omega) (by omega) (by rw [hct,if_neg (fun h=>hxy h.symm),hc,htk])
theorem j5t {a:List Occurrence}(ha:a.length≤4398046511104):q4A a=some (q3H a):=by
 unfold q4A
 by_cases h:(a.length:Int) < 2
 ·rw [if_pos h]
  match a,h with
  | [],_=>rfl
  | [x],_=>rfl
  | x :: y :: l,h=>simp only [List.length_cons] at h; omega
 ·rw [if_neg h]
  refine j3R ha (a.length - 1) 1 (by omega) (Nat.le_refl _) ?_
  match a,h with
  | x :: l,_=>rfl
def z8i (e:Expr):List Occurrence:=q3H (z9O (z3y e))
theorem j6y {o:Occurrence}{e:Expr}:o∈z8i e↔o∈z3y e:=by
 unfold z8i z9O
 rw [z3C,List.mem_mergeSort]
theorem j4A {e:Expr}(h:Sz.szd e≤1048576):q7d e=some (z8i e):=by
 have hl:=j6x h
 have hs:(z9O (z3y e)).length=(z3y e).length:=by unfold z9O; exact List.length_mergeSort _
 unfold q7d
 rw [j8m (by omega),Option.bind_some]
 dsimp only
 unfold q5C
 rw [q2q (by omega),Option.bind_some,j5t (by omega)]; rfl
end Go.Proofs.YteefempppabmkacGreat
