/- What those partial functions come to: plain lemmas on data; each bears its conditions in its statement. -/
import Derived.Test.YtiojgbiimbefiaaGreatEng7
set_option linter.unusedVariables false
set_option linter.unusedSimpArgs false
set_option linter.ambiguousOpen false
set_option linter.unusedSectionVars false
set_option linter.unnecessarySimpa false
namespace Go.Proofs.YtiojgbiimbefiaaGreat
open Go Go.E
mutual
def q6W:Expr→List Occurrence
 | ⟨a0,a1,a2,a3,a4,a5,a6⟩=>(if a0=3 then [⟨a2,a5⟩] else [])++q4O a6
def q4O:List Expr→List Occurrence
 | []=>[]
 | x :: xs=>q6W x++q4O xs
end
mutual
def fuE:Expr→Nat
 | ⟨_,_,_,_,_,_,a6⟩=>fuEs a6+1
def fuEs:List Expr→Nat
 | []=>0
 | x :: xs=>max (fuE x) (fuEs xs)
end
theorem q9B (e:Expr):fuE e=fuEs e.Args+1:=by cases e; rfl
theorem z2A:∀ {l:List Expr} {x:Expr},x∈l→fuE x≤fuEs l
 | y :: l,x,h=>by
  simp only [fuEs]
  rcases List.mem_cons.1 h with e | h
  ·subst e; omega
  ·have:=z2A h; omega
theorem q6X (e:Expr):q6W e=(if e.Kind=3 then [⟨e.Pos,e.Name⟩] else [])++q4O e.Args:=by cases e; rfl
mutual
theorem z3K:∀ e:Expr,(q6W e).length≤1+q5n e
 | ⟨a0,a1,a2,a3,a4,a5,a6⟩=>by
  have:=z1M a6
  simp only [q6W,q5n,List.length_append]
  split<;>simp<;>omega
theorem z1M:∀ l:List Expr,(q4O l).length≤q6k l
 | []=>by simp [q4O]
 | x :: xs=>by
  have h1:=z3K x
  have h2:=z1M xs
  simp only [q4O,q6k,List.length_append]; omega
end
theorem z2B {α:Type}[Sz α]{x:α}:∀ {l:List α},x∈l→Sz.szd x < szL l
 | [],h=>by simp at h
 | y :: l,h=>by
  rcases List.mem_cons.1 h with rfl | h
  ·simp only [szL]; omega
  ·have:=z2B h; simp only [szL]; omega
theorem j1V {e x:Expr}(h:x∈e.Args):Sz.szd x < Sz.szd e:=by
 have h1:=q3i e
 have h2:=z2B h
 omega
theorem z7M {e:Expr}(h:Sz.szd e≤1048576):(q6W e).length≤1048577:=by
 have h1:=z3K e
 have h2:q5n e=Sz.szd e:=rfl
 omega
theorem z4R:∀ (m:Nat) (e:Expr) (o:List Occurrence),fuE e≤m→o.length+(q6W e).length≤4398046511104→q1F m e o=some (true,o++q6W e):=by
 intro m
 induction m with
 | zero=>intro e o h; rw [q9B] at h; omega
 | succ m ih=>
  have hl:∀ (l:List Expr) (i:Nat) (o:List Occurrence),fuEs l≤m→o.length+(q4O l).length≤4398046511104→findL (q1z (q1F m)) i l o=some (.inl (o++q4O l)):=by
   intro l
   induction l with
   | nil=>intro i o _ _; simp [findL,q4O]
   | cons x l ihl=>
    intro i o hf hb
    simp only [fuEs] at hf
    simp only [q4O,List.length_append] at hb
    have hx:=ih x o (by omega) (by omega)
    simp only [findL,q1z,q2a,hx,Option.bind_some,Bool.not_true,Bool.false_eq_true,if_false]
    rw [ihl _ _ (by omega) (by rw [List.length_append]; omega),q4O,List.append_assoc]
  intro e o hf hb
  rw [q9B] at hf
  show q1R (q1F m) e o=_
  have hb':=hb
  rw [q6X,List.length_append] at hb'
  have h1:q3f e o=some (true,o++if e.Kind=3 then [⟨e.Pos,e.Name⟩] else []):=by
   unfold q3f
   by_cases hk:e.Kind=3
   ·rw [if_pos hk] at hb' ⊢
    rw [if_pos hk,q1m]
    simp only [List.length_cons,List.length_nil] at hb'
    constructor<;>omega
   ·rw [if_neg hk,if_neg hk,List.append_nil]
  unfold q1R
  rw [h1,Option.bind_some]
  dsimp only
  rw [if_pos rfl]
  unfold q1q q1r
  rw [hl _ _ _ (by omega) (by rw [List.length_append]; omega),q6X]
  simp [onr]
theorem z9i {e:Expr}(h:(q6W e).length≤4398046511104):q2H e []=some (true,q6W e):=
 q7Q (fuE e) fun m hm=>by simpa using z4R m e [] hm (by simpa using h)
theorem z4S {α:Type}{s:List α}{k:Nat}{x:α}(h:k < s.length):(s.set k x).take (k+1)=s.take k++[x]:=by
 rw [List.take_add_one,List.take_set,List.set_eq_of_length_le (by simp; omega)]
 simp [List.getElem?_set,h]
theorem z6I {a:List Occurrence}{b:Nat}(ha:a.length≤4398046511104)(hb:1≤b)(hba:b < a.length):∀ (m j k:Nat) (s:List Occurrence),b+j+m=a.length→1≤j→1≤k→k≤b+j - 1→s.length=a.length→s.take k=q1T (a.take (b+j))→s.drop (b+j - 1)=a.drop (b+j - 1) →
  ∃ s' k',q3j (q1v (b:Int)) (s,(k:Int),(j:Int))=some (s',((k' : Nat):Int))∧k'≤s'.length∧s'.take k'=q1T a:=by
 intro m
 induction m with
 | zero=>
  intro j k s hm hj hk hkj hs ht hd
  refine⟨s,k,q2s ?_,by omega,?_⟩
  ·unfold q1v
   dsimp only
   rw [if_neg (by simp only [Int.toNat_natCast,List.length_drop]; omega)]
  ·rw [ht,show b+j=a.length by omega,List.take_length]
 | succ m ih=>
  intro j k s hm hj hk hkj hs ht hd
  obtain⟨x,hx⟩:∃ x,a[b+j]? = some x:=⟨_,List.getElem?_eq_getElem (by omega)⟩
  obtain⟨y,hy⟩:∃ y,a[b+j - 1]? = some y:=⟨_,List.getElem?_eq_getElem (by omega)⟩
  obtain⟨z,hz⟩:∃ z,s[k]? = some z:=⟨_,List.getElem?_eq_getElem (by omega)⟩
  have hsx:s[b+j]? = some x:=by
   have:=congrArg (fun l=>l[1]?) hd
   simp only [List.getElem?_drop] at this
   rw [show b+j - 1+1=b+j by omega] at this
   rw [this,hx]
  have hsy:s[b+(j - 1)]? = some y:=by
   have:=congrArg (fun l=>l[0]?) hd
   simp only [List.getElem?_drop,Nat.add_zero] at this
   rw [show b+(j - 1)=b+j - 1 by omega,this,hy]
  have hc:=q8L (i:=b+j - 1) (b:=x) hy (by rw [show b+j - 1+1=b+j by omega]; exact hx)
  rw [show b+j - 1+2=b+(j+1) by omega,show b+j - 1+1=b+j by omega] at hc
  have hd2:s.drop (b+(j+1) - 1)=a.drop (b+(j+1) - 1):=by
   have:=congrArg (fun l=>l.drop 1) hd
   simp only [List.drop_drop] at this
   rw [show b+(j+1) - 1=b+j - 1+1 by omega]; exact this
  have e1:((j:Int) - 1).toNat=j - 1:=by omega
  by_cases hxy:x=y
  ·have e:q1v (b:Int) (s,(k:Int),(j:Int))=some (.inl (s,(k:Int),((j+1:Nat):Int))):=by
    unfold q1v
    dsimp only
    rw [if_pos (by simp only [Int.toNat_natCast,List.length_drop]; omega),q1m (by omega)]
    simp only [Int.toNat_natCast]
    rw [hsx,Option.bind_some,q1m (by constructor<;>omega),q1m (by omega),e1,hsy,Option.bind_some,if_pos hxy,Option.bind_some]
    dsimp only
    rw [q1m (by constructor<;>omega)]; rfl
   rw [q3p e]
   exact ih (j+1) k s (by omega) (by omega) hk (by omega) hs (by rw [hc,if_pos hxy.symm,ht]) hd2
  ·have e:q1v (b:Int) (s,(k:Int),(j:Int))=some (.inl (s.set k x,((k+1:Nat):Int),((j+1:Nat):Int))):=by
    unfold q1v
    dsimp only
    rw [if_pos (by simp only [Int.toNat_natCast,List.length_drop]; omega),q1m (by omega)]
    simp only [Int.toNat_natCast]
    rw [hsx,Option.bind_some,q1m (by constructor<;>omega),q1m (by omega),e1,hsy,Option.bind_some,if_neg hxy,q1m (by omega),q1m (by omega),hz,Option.bind_some,q1m (by constructor<;>omega),Option.bind_some]
    dsimp only
    rw [q1m (by constructor<;>omega)]; rfl
   rw [q3p e]
   refine ih (j+1) (k+1) _ (by omega) (by omega) (by omega) (by omega) (by rw [List.length_set]; exact hs) ?_ ?_
   ·rw [z4S (by omega),ht,hc,if_neg (fun h=>hxy h.symm)]
   ·rw [List.drop_set,if_pos (by omega)]; exact hd2
theorem z4T {a:List Occurrence}(ha:a.length≤4398046511104):∀ (m k:Nat),k+m=a.length→1≤k→q1T (a.take k)=a.take k →
  (q3j (q1w a) (k:Int)).bind (onr (fun r1=>some r1) fun _=>some a)=some (q1T a):=by
 intro m
 induction m with
 | zero=>
  intro k hm hk hc
  have e:q1w a (k:Int)=some (.inr (.inl ())):=by
   unfold q1w
   dsimp only
   rw [if_neg (by omega)]
  rw [q2s e,Option.bind_some]
  show some a=_
  rw [show k=a.length by omega,List.take_length] at hc
  rw [hc]
 | succ m ih=>
  intro k hm hk hc
  obtain⟨x,hx⟩:∃ x,a[k]? = some x:=⟨_,List.getElem?_eq_getElem (by omega)⟩
  obtain⟨y,hy⟩:∃ y,a[k - 1]? = some y:=⟨_,List.getElem?_eq_getElem (by omega)⟩
  have hct:=q8L (i:=k - 1) (b:=x) hy (by rw [show k - 1+1=k by omega]; exact hx)
  rw [show k - 1+2=k+1 by omega,show k - 1+1=k by omega] at hct
  have htk:a.take (k+1)=a.take k++[x]:=by rw [List.take_add_one,hx]; rfl
  have e1:((k:Int) - 1).toNat=k - 1:=by omega
  by_cases hxy:x=y
  ·obtain⟨s',k',h1,h2,h3⟩:=z6I (b:=k) ha hk (by omega) m 1 k a (by omega) (by omega) hk (by omega) rfl (by rw [hct,if_pos hxy.symm,hc]) rfl
   have hl:(s'.take k'++List.replicate (s'.length - k') (⟨(0:Int),(⟨#[]⟩:ByteArray)⟩:Occurrence)).take k'=q1T a:=by
    rw [List.take_append_of_le_length (by simp; omega),List.take_take,Nat.min_self,h3]
   have e:q1w a (k:Int)=some (.inr (.inr (q1T a))):=by
    unfold q1w
    dsimp only
    rw [if_pos (by omega),q1m (by omega)]
    simp only [Int.toNat_natCast]
    rw [hx,Option.bind_some,q1m (by constructor<;>omega),q1m (by omega),e1,hy,Option.bind_some,if_pos hxy,q1m (by omega),q1m (by omega)]
    have h1' : q3j (q1v (k:Int)) (a,(k:Int),1)=some (s',((k' : Nat):Int)):=h1
    rw [h1',Option.bind_some]
    dsimp only
    simp only [Int.toNat_natCast]
    rw [q1m (by omega),q1m (by omega),q1m (by omega),q1m (by simp; omega),hl]
   rw [q2s e,Option.bind_some]; rfl
  ·have e:q1w a (k:Int)=some (.inl ((k+1:Nat):Int)):=by
    unfold q1w
    dsimp only
    rw [if_pos (by omega),q1m (by omega)]
    simp only [Int.toNat_natCast]
    rw [hx,Option.bind_some,q1m (by constructor<;>omega),q1m (by omega),e1,hy,Option.bind_some,if_neg hxy,q1m (by constructor<;>omega)]; rfl
   rw [q3p e]
   exact ih (k+1) (by omega) (by omega) (by rw [hct,if_neg (fun h=>hxy h.symm),hc,htk])
theorem z6J {a:List Occurrence}(ha:a.length≤4398046511104):q1Y a=some (q1T a):=by
 unfold q1Y
 by_cases h:(a.length:Int) < 2
 ·rw [if_pos h]
  match a,h with
  | [],_=>rfl
  | [x],_=>rfl
  | x :: y :: l,h=>simp only [List.length_cons] at h; omega
 ·rw [if_neg h]
  refine z4T ha (a.length - 1) 1 (by omega) (Nat.le_refl _) ?_
  match a,h with
  | x :: l,_=>rfl
def z0J (e:Expr):List Occurrence:=q1T (z3u (q6W e))
theorem z7N {o:Occurrence}{e:Expr}:o∈z0J e↔o∈q6W e:=by
 unfold z0J z3u
 rw [q7u,List.mem_mergeSort]
theorem z9j {e:Expr}(h:Sz.szd e≤1048576):q3M e=some (z0J e):=by
 have hl:=z7M h
 have hs:(z3u (q6W e)).length=(q6W e).length:=by unfold z3u; exact List.length_mergeSort _
 unfold q3M
 rw [z9i (by omega),Option.bind_some]
 dsimp only
 unfold q2l
 rw [q1m (by omega),Option.bind_some,z6J (by omega)]; rfl
end Go.Proofs.YtiojgbiimbefiaaGreat
namespace Go.Proofs.YtiojgbiimbefiaaGreat
open Go Go.E
theorem z3L (e:Expr):1≤fuE e:=by rw [q9B]; omega
theorem z1N {e x:Expr}(hx:x∈e.Args):fuE x+1≤fuE e:=by
 have:=z2A hx
 have:=q9B e
 omega
theorem q9Q {P:Expr→Prop}(h:∀ e,(∀ x∈e.Args,P x)→P e)(e:Expr):P e:=by
 have:∀ n e,fuE e≤n→P e:=by
  intro n
  induction n with
  | zero=>intro e he; have:=z3L e; omega
  | succ n ih=>intro e he; exact h e fun x hx=>ih x (by have:=z1N hx; omega)
 exact this _ e (Nat.le_refl _)
theorem z1O {α ρ:Type}{c:ρ}{q:α→Bool}:∀ {xs:List α} {i:Nat} {f:Nat→α→Unit→Option (Unit ⊕ ρ)},(∀ k x,x∈xs→f k x ()=some (if q x=true then .inl () else .inr c))→findL f i xs ()=some (if xs.all q=true then .inl () else .inr c)
 | [],i,f,h=>rfl
 | x :: xs,i,f,h=>by
  rw [findL,h i x (by simp)]
  by_cases hx:q x=true
  ·rw [if_pos hx,Option.bind_some]
   show findL f (i+1) xs ()=_
   rw [z1O fun k y hy=>h k y (by simp [hy])]
   simp [hx]
  ·rw [if_neg hx]; simp [hx]
mutual
def allE (p:Expr→Bool):Expr→Bool
 | ⟨a0,a1,a2,a3,a4,a5,a6⟩=>p ⟨a0,a1,a2,a3,a4,a5,a6⟩&&z9k p a6
def z9k (p:Expr→Bool):List Expr→Bool
 | []=>true
 | x :: xs=>allE p x&&z9k p xs
end
mutual
def cntE:Expr→Nat
 | ⟨_,_,_,_,_,_,a6⟩=>q8h a6+1
def q8h:List Expr→Nat
 | []=>0
 | x :: xs=>cntE x+q8h xs
end
mutual
def depE:Expr→Nat
 | ⟨_,_,_,_,_,_,a6⟩=>z1i a6+1
def z1i:List Expr→Nat
 | []=>0
 | x :: xs=>max (depE x) (z1i xs)
end
theorem z5J (p:Expr→Bool):∀ l,z9k p l=l.all (allE p)
 | []=>rfl
 | x :: xs=>by rw [z9k,z5J p xs]; rfl
theorem j0U (p:Expr→Bool)(e:Expr):allE p e=(p e&&e.Args.all (allE p)):=by
 cases e; rw [allE,z5J]
theorem z2C (e:Expr):cntE e=q8h e.Args+1:=by cases e; rfl
theorem z7O (e:Expr):depE e=z1i e.Args+1:=by cases e; rfl
mutual
theorem z5K:∀ e:Expr,cntE e≤1+q5n e
 | ⟨a0,a1,a2,a3,a4,a5,a6⟩=>by
  have:=z3M a6
  simp only [cntE,q5n]; omega
theorem z3M:∀ l:List Expr,q8h l≤q6k l
 | []=>by simp [q8h]
 | x :: xs=>by
  have h1:=z5K x
  have h2:=z3M xs
  simp only [q8h,q6k]; omega
end
mutual
theorem z7P:∀ e:Expr,depE e≤cntE e
 | ⟨_,_,_,_,_,_,a6⟩=>by
  have:=z5L a6
  simp only [depE,cntE]; omega
theorem z5L:∀ l:List Expr,z1i l≤q8h l
 | []=>Nat.le_refl _
 | x :: xs=>by
  have h1:=z7P x
  have h2:=z5L xs
  simp only [z1i,q8h]; omega
end
theorem z3N:∀ {l:List Expr} {x:Expr},x∈l→cntE x≤q8h l
 | y :: l,x,h=>by
  simp only [q8h]
  rcases List.mem_cons.1 h with e | h
  ·subst e; omega
  ·have:=z3N h; omega
theorem z7Q {e x:Expr}(hx:x∈e.Args):cntE x+1≤cntE e:=by
 have:=z3N hx
 have:=z2C e
 omega
theorem j1W (a b:Nat):(if (b:Int) > (a:Int) then (b:Int) else (a:Int))=((max a b:Nat):Int):=by
 split<;>omega
theorem z3O {f:Expr→Option Int}{g:Nat→Expr→Int→Option Int}(hg:∀ k x s,g k x s=(f x).bind fun y=>some (if y > s then y else s)):∀ (l:List Expr) (i s:Nat),(∀ x∈l,f x=some (depE x:Int))→eachL g i l (s:Int)=some ((max s (z1i l):Nat):Int)
 | [],i,s,_=>by rw [eachL,z1i,Nat.max_zero]
 | x :: l,i,s,h=>by
  rw [eachL,hg,h x (by simp),Option.bind_some,Option.bind_some,j1W,z3O hg l (i+1) _ fun y hy=>h y (by simp [hy]),z1i,Nat.max_assoc]
theorem z7R (a b:Int):q7I a b=some (if b > a then b else a):=by
 unfold q7I
 by_cases h:b < a
 ·rw [if_pos h,if_neg (by omega)]
 ·rw [if_neg h]
  split
  ·rfl
  ·congr 1; omega
def q9K (a:Int)(n:Nat):Int:=if (n:Int)≤a then a - n else -1
theorem z7S (e:Expr):∀ m,fuE e≤m→∀ a:Int,0≤a→a≤1048576→cntE e≤1099511627776→q5P m e a=some (q9K a (cntE e)):=by
 induction e using q9Q with
 | h e ih=>
  intro m hm a h0 h1 hc
  obtain⟨m,rfl⟩:∃ q,m=q+1:=⟨m - 1,by have:=z3L e; omega⟩
  show q7k (q5P m) e a=_
  unfold q7k
  rw [q1m (by constructor<;>omega)]
  have hlen:e.Args.length≤cntE e:=by
   rw [z2C]
   have:∀ l:List Expr,l.length≤q8h l:=by
    intro l
    induction l with
    | nil=>simp
    | cons x l ih=>
     have:=z2C x
     simp only [q8h,List.length_cons]; omega
   have:=this e.Args; omega
  have key:∀ (n k:Nat) (s:Int),k+n=e.Args.length→-1≤s→s≤1048576→q3j (q5F (q5P m) e) (s,(k:Int))=some (if 0≤s then q9K s (q8h (e.Args.drop k)) else s):=by
   intro n
   induction n with
   | zero=>
    intro k s hk _ _
    have hdrop:e.Args.drop k=[]:=List.drop_eq_nil_of_le (by omega)
    refine q2s ?_
    unfold q5F
    dsimp only
    rw [if_neg (by omega),hdrop]
    congr 2
    split
    ·unfold q9K; simp [q8h]; omega
    ·rfl
   | succ n ihn=>
    intro k s hk hs1 hs2
    have hkl:k < e.Args.length:=by omega
    by_cases hs:0≤s
    ·have hxm:e.Args[k]∈e.Args:=List.getElem_mem hkl
     have hr:=ih _ hxm m (by have:=z1N hxm; omega) s hs hs2 (by have:=z7Q hxm; omega)
     have hstep:q5F (q5P m) e (s,(k:Int))=some (.inl (q9K s (cntE e.Args[k]),((k+1:Nat):Int))):=by
      unfold q5F
      dsimp only
      rw [if_pos (by omega),if_pos hs,q1m (by omega),Int.toNat_natCast,List.getElem?_eq_getElem hkl,Option.bind_some,hr,Option.bind_some,q1m (by constructor<;>omega)]
      rfl
     have hb1:-1≤q9K s (cntE e.Args[k]):=by unfold q9K; split<;>omega
     have hb2:q9K s (cntE e.Args[k])≤1048576:=by unfold q9K; split<;>omega
     rw [q3p hstep,ihn (k+1) _ (by omega) hb1 hb2,if_pos hs]
     have hd:e.Args.drop k=e.Args[k] :: e.Args.drop (k+1):=List.drop_eq_getElem_cons hkl
     rw [hd,q8h]
     congr 1
     unfold q9K
     split<;>split<;>(try split)<;>omega
    ·refine q2s ?_
     unfold q5F
     dsimp only
     rw [if_pos (by omega),if_neg hs,if_neg hs]
  have:=key e.Args.length 0 (a - 1) (by omega) (by omega) (by omega)
  rw [show ((0:Nat):Int)=0 from rfl] at this
  rw [this,Option.bind_some,List.drop_zero,z2C]
  congr 1
  unfold q9K
  split<;>(try split)<;>(try split)<;>omega
theorem z9l {e:Expr}{a:Int}(h0:0≤a)(h1:a≤1048576)(h:cntE e≤1099511627776):z0v e a=some (q9K a (cntE e)):=q7Q (fuE e) fun m hm=>z7S e m hm a h0 h1 h
end Go.Proofs.YtiojgbiimbefiaaGreat
namespace Go.Proofs.YtiojgbiimbefiaaGreat
open Go Go.E
theorem z4U (x lo hi:Int):q2F x lo hi=some (decide (lo≤x∧x≤hi)):=by
 unfold q2F; by_cases h:lo≤x<;>simp [h]
def lowB (c:UInt8):Bool:=decide (97≤(c.toNat:Int)∧(c.toNat:Int)≤122)
def digB (c:UInt8):Bool:=decide (48≤(c.toNat:Int)∧(c.toNat:Int)≤57)
def allN (q:Nat→Bool):Nat→Nat→Bool
 | _,0=>true
 | i,n+1=>q i&&allN q (i+1) n
theorem z1P {q r:Nat→Bool}:∀ {n i:Nat},(∀ k,i≤k→q k=r k)→allN q i n=allN r i n
 | 0,_,_=>rfl
 | n+1,i,h=>by rw [allN,allN,h i (Nat.le_refl _),z1P fun k hk=>h k (by omega)]
theorem z1Q {ρ:Type}{c:ρ}{q:Nat→Bool}:∀ {n i:Nat} {f:Nat→Unit→Option (Unit ⊕ ρ)},(∀ k,k < n→f (i+k) ()=some (if q (i+k)=true then .inl () else .inr c))→findN f i n ()=some (if allN q i n=true then .inl () else .inr c)
 | 0,i,f,h=>rfl
 | n+1,i,f,h=>by
  have h0:=h 0 (by omega)
  rw [Nat.add_zero] at h0
  rw [findN,h0]
  by_cases hx:q i=true
  ·rw [if_pos hx,Option.bind_some]
   show findN f (i+1) n ()=_
   rw [z1Q fun k hk=>by have:=h (k+1) (by omega); rwa [show i+(k+1)=i+1+k by omega] at this]
   simp [allN,hx]
  ·rw [if_neg hx]; simp [allN,hx]
def chr (s:ByteArray)(k:Nat):UInt8:=s.data.getD k 0
theorem z9m {s:ByteArray}{k:Nat}(h:k < s.size):s.data[k]? = some (chr s k):=by
 have h' : k < s.data.size:=h
 unfold chr
 rw [Array.getD_eq_getD_getElem?,Array.getElem?_eq_getElem h']; rfl
def z7T:List ByteArray:=[⟨#[105,102]⟩,⟨#[116,104,101,110]⟩,⟨#[101,108,115,101]⟩,⟨#[116,114,117,101]⟩,⟨#[102,97,108,115,101]⟩,⟨#[108,105,116]⟩,⟨#[110,111,110,101]⟩,⟨#[115,101,108,102]⟩,⟨#[111,102]⟩,⟨#[109,97,120]⟩,⟨#[109,105,110]⟩,⟨#[119,105,116,104]⟩,⟨#[104,97,115]⟩]
def memB (s:ByteArray)(l:List ByteArray):Bool:=l.any fun x=>decide (x=s)
def resB (s:ByteArray):Bool:=memB s z7T
theorem z9n (l:List ByteArray)(s:ByteArray):q8y l s=some (memB s l):=by
 unfold q8y
 have:∀ (l:List ByteArray) (i:Nat),findL (z0y s) i l ()=some (if memB s l=true then .inr true else .inl ()):=by
  intro l
  induction l with
  | nil=>intro i; rfl
  | cons x l ih=>
   intro i
   rw [findL]
   unfold z0y at ih ⊢
   have hc:memB s (x :: l)=(decide (x=s)||memB s l):=rfl
   by_cases h:x=s
   ·rw [if_pos h,hc]; simp [h]
   ·rw [if_neg h,Option.bind_some]
    show findL _ (i+1) l ()=_
    rw [ih,hc]; simp [h]
 rw [this,Option.bind_some]
 cases memB s l<;>rfl
theorem j0V (s:ByteArray):q4G s=some (resB s):=by
 unfold q4G q5z
 rw [Option.bind_some,z9n]; rfl
def q8i (s:ByteArray):Bool:=decide (0 < s.size∧s.size≤8)&&(lowB (chr s 0)&&allN (fun k=>lowB (chr s k)||digB (chr s k)) 1 (s.size - 1) && !resB s)
theorem z2D (s:ByteArray):q3l s=some (q8i s):=by
 unfold q3l q7J
 rw [z1Q (c:=false) (q:=fun k=>lowB (chr s k)||(decide (k≠0)&&digB (chr s k))) fun k hk=>by
  rw [Nat.zero_add]
  unfold z0x
  rw [z9m hk,Option.bind_some]
  have e1:(if 97≤((chr s k).toNat:Int) then some (decide (((chr s k).toNat:Int)≤122)) else some false)=some (lowB (chr s k)):=by
   unfold lowB; by_cases h:97≤((chr s k).toNat:Int)<;>simp [h]
  have e2:(if 48≤((chr s k).toNat:Int) then some (decide (((chr s k).toNat:Int)≤57)) else some false)=some (digB (chr s k)):=by
   unfold digB; by_cases h:48≤((chr s k).toNat:Int)<;>simp [h]
  rw [e1,e2,Option.bind_some,Option.bind_some]
  cases lowB (chr s k) with
  | true=>rfl
  | false=>
   by_cases hk0:k=0
   ·subst hk0; simp
   ·have:¬ ((k:Int)=0):=by omega
    rw [if_neg (by simp),if_neg this]
    cases digB (chr s k)<;>simp [hk0]]
 rw [Option.bind_some]
 by_cases h0:0 < s.size
 ·obtain⟨n,hn⟩:∃ n,s.size=n+1:=⟨s.size - 1,by omega⟩
  unfold q8i
  rw [hn,allN,Nat.add_sub_cancel,Nat.zero_add,z1P (n:=n) (i:=1) (q:=fun k=>lowB (chr s k)||(decide (k≠0)&&digB (chr s k))) (r:=fun k=>lowB (chr s k)||digB (chr s k)) fun k hk=>by simp [show k≠0 by omega]]
  have e0:(lowB (chr s 0)||(decide ((0:Nat)≠0)&&digB (chr s 0)))=lowB (chr s 0):=by simp
  rw [e0]
  cases hA:(lowB (chr s 0)&&allN (fun k=>lowB (chr s k)||digB (chr s k)) 1 n) with
  | false=>simp [onr]
  | true=>
   rw [if_pos rfl]
   simp only [onr,Option.bind_some]
   by_cases h8:n+1≤8
   ·simp [j0V,h8]; omega
   ·simp [h8]; omega
 ·have hs:s.size=0:=by omega
  unfold q8i
  rw [hs]
  simp [onr,allN]
end Go.Proofs.YtiojgbiimbefiaaGreat
namespace Go.Proofs.YtiojgbiimbefiaaGreat
open Go Go.E
def satI (v:Int):Int:=if (-1000000:Int) > (if (1000000:Int) < v then (1000000:Int) else v) then (-1000000:Int) else (if (1000000:Int) < v then (1000000:Int) else v)
def truI (b:Bool):Int:=if b=true then 1 else 0
def j0W (v k:Int):Int:=if k=1 then satI v else if k=2 then q8V v 4095 else if k=3 then truI (!decide (v=0)) else if k=4 then (if 0≤v∧v≤999 then v else 0) else 0
theorem j0X (a b:Int):q8x a b=some (if b < a then b else a):=by
 unfold q8x
 by_cases h:a < b
 ·rw [if_pos h,if_neg (by omega)]
 ·rw [if_neg h]
  split
  ·rfl
  ·congr 1; omega
theorem j0Y (v:Int):q5R v=some (satI v):=by
 unfold q5R
 rw [j0X,Option.bind_some,z7R,Option.bind_some]
 congr 1
 unfold satI
 split<;>split<;>(try split)<;>(try split)<;>omega
theorem z9o (b:Bool):q6v b=some (truI b):=by unfold q6v truI; cases b<;>rfl
theorem z9p (v k:Int):q7m v k=some (j0W v k):=by
 unfold q7m j0W
 rw [j0Y,z9o,z4U]
 by_cases h1:k=1
 ·rw [if_pos h1,if_pos h1]; rfl
 by_cases h2:k=2
 ·rw [if_neg h1,if_neg h1,if_pos h2,if_pos h2]
 by_cases h3:k=3
 ·rw [if_neg h1,if_neg h1,if_neg h2,if_neg h2,if_pos h3,if_pos h3]; rfl
 by_cases h4:k=4
 ·rw [if_neg h1,if_neg h1,if_neg h2,if_neg h2,if_neg h3,if_neg h3,if_pos h4,if_pos h4,Option.bind_some]
  by_cases h:0≤v∧v≤999<;>simp [h]
 ·rw [if_neg h1,if_neg h1,if_neg h2,if_neg h2,if_neg h3,if_neg h3,if_neg h4,if_neg h4]
def z9q (v k:Int):Bool:=decide (1≤k∧k≤4)&&decide (j0W v k=v)
theorem z9r (v k:Int):q5S v k=some (z9q v k):=by
 unfold q5S z9q
 rw [z4U,Option.bind_some,z9p,Option.bind_some]
 by_cases h:1≤k∧k≤4<;>simp [h]
end Go.Proofs.YtiojgbiimbefiaaGreat
namespace Go.Proofs.YtiojgbiimbefiaaGreat
open Go Go.E
def z9s (k:Int):Int:=if k=4 then 2 else if k=5 then 3 else if k=8 then 1 else 0
def z9t (e:Expr):Bool:=decide ((e.Args.length:Int)=z9s e.Kind)&&((decide (e.Kind=3∨e.Kind=6)||decide (e.Pos=0))&&((decide (e.Kind=3∨e.Kind=8)||decide (e.Name=⟨#[]⟩))&&((decide (e.Kind=1∨e.Kind=4)||decide (e.N=0))&&((decide (e.Kind=1)||decide (e.Type_=0))&&(decide (e.Kind=8)||decide (e.Symbol=⟨#[]⟩))))))
theorem j0Z (e:Expr):q7l e=some (z9t e):=by
 unfold q7l
 have h0:(if e.Kind=4 then some 2 else if e.Kind=5 then some 3 else if e.Kind=8 then some 1 else some (0:Int))=some (z9s e.Kind):=by
  unfold z9s
  split
  ·rfl
  ·split
   ·rfl
   ·split<;>rfl
 have or2:∀ a b:Prop,[Decidable a]→[Decidable b]→(if a then some true else some (decide b))=some (decide (a∨b)):=fun a b _ _=>by
  by_cases h:a<;>simp [h]
 have or1:∀ (a:Prop) (b:Bool),[Decidable a]→(if a then some true else some b)=some (decide a||b):=fun a b _=>by
  by_cases h:a<;>simp [h]
 have orB:∀ a b:Bool,(if a=true then some true else some b)=some (a||b):=fun a b=>by cases a<;>rfl
 have andB:∀ a b:Bool,(if a=true then some b else some false)=some (a&&b):=fun a b=>by cases a<;>rfl
 rw [h0,Option.bind_some]
 unfold z9t
 by_cases hl:(e.Args.length:Int)=z9s e.Kind
 ·rw [if_pos hl]
  simp only [or2,or1,orB,andB,Option.bind_some]
  simp [hl,Bool.and_assoc]
 ·rw [if_neg hl]; simp [hl]
def j1X (e:Expr):Bool:=
 if e.Kind=1 then (decide (1≤e.Type_∧e.Type_≤3)&&z9q e.N e.Type_)&&decide (0≤e.N)
 else if e.Kind=3 then decide (0≤e.Pos∧e.Pos≤3)&&q8i e.Name
 else if e.Kind=6 then decide (0≤e.Pos∧e.Pos≤3)
 else if e.Kind=4 then decide (1≤e.N∧e.N≤12)
 else if e.Kind=8 then q8i e.Symbol&&q8i e.Name
 else true
def z3P (e:Expr):Bool:=(decide (1≤e.Kind∧e.Kind≤8)&&z9t e)&&j1X e
theorem z9u (e:Expr):q7n e=some (z3P e):=by
 unfold q7n z3P
 rw [z4U,Option.bind_some,j0Z,Option.bind_some]
 by_cases hk:1≤e.Kind∧e.Kind≤8
 ·rw [if_pos (by simpa using hk),Option.bind_some]
  cases z9t e with
  | false=>simp
  | true=>
   rw [if_neg (by simp)]
   unfold j1X
   by_cases k1:e.Kind=1
   ·rw [if_pos k1,if_pos k1,z4U,Option.bind_some,z9r,Option.bind_some]
    by_cases h:1≤e.Type_∧e.Type_≤3
    ·cases z9q e.N e.Type_<;>simp [h,hk]
    ·simp [h,hk]
   rw [if_neg k1,if_neg k1]
   by_cases k3:e.Kind=3
   ·rw [if_pos k3,if_pos k3,z4U,Option.bind_some,z2D]
    by_cases h:0≤e.Pos∧e.Pos≤3
    ·simp [h,hk]
    ·simp [h,hk]
   rw [if_neg k3,if_neg k3]
   by_cases k6:e.Kind=6
   ·rw [if_pos k6,if_pos k6,z4U]; simp [hk]
   rw [if_neg k6,if_neg k6]
   by_cases k4:e.Kind=4
   ·rw [if_pos k4,if_pos k4,z4U]; simp [hk]
   rw [if_neg k4,if_neg k4]
   by_cases k8:e.Kind=8
   ·rw [if_pos k8,if_pos k8,z2D,Option.bind_some,z2D]
    cases q8i e.Symbol<;>simp [hk]
   rw [if_neg k8,if_neg k8]; simp [hk]
 ·rw [if_neg (by simpa using hk)]; simp [hk]
end Go.Proofs.YtiojgbiimbefiaaGreat
namespace Go.Proofs.YtiojgbiimbefiaaGreat
open Go Go.E
theorem z9v (e:Expr):∀ m,fuE e≤m→q8A m e=some (allE z3P e):=by
 induction e using q9Q with
 | h e ih=>
  intro m hm
  obtain⟨m,rfl⟩:∃ q,m=q+1:=⟨m - 1,by have:=z3L e; omega⟩
  show q8z (q8A m) e=_
  unfold q8z
  rw [z1O (c:=false) (q:=allE z3P) fun k x hx=>by
   unfold z3D
   rw [ih x hx m (by have:=z1N hx; omega),Option.bind_some]
   cases allE z3P x<;>rfl]
  rw [j0U,Option.bind_some]
  cases e.Args.all (allE z3P) with
  | true=>rw [if_pos rfl,z4h,z9u,Bool.and_true]; rfl
  | false=>rw [if_neg (by simp),j0v,Bool.and_false]
theorem j1a (e:Expr):z2s e=some (allE z3P e):=q7Q (fuE e) fun m hm=>z9v e m hm
def z7U (e:Expr):Bool:=decide (cntE e≤24)&&(decide (depE e≤6)&&allE z3P e)
end Go.Proofs.YtiojgbiimbefiaaGreat
namespace Go.Proofs.YtiojgbiimbefiaaGreat
open Go Go.E
theorem q9R {x m:Int}(h0:0≤m)(h1:m < 9223372036854775808):0≤q8V x m∧q8V x m≤m:=by
 unfold q8V
 have h2:(BitVec.ofInt 64 m).toNat=m.toNat:=by
  rw [BitVec.toNat_ofInt]
  have:m % ((2 ^ 64:Nat):Int)=m:=Int.emod_eq_of_lt h0 (by omega)
  rw [this]
 have h3:(BitVec.ofInt 64 x &&& BitVec.ofInt 64 m).toNat≤m.toNat:=by
  rw [BitVec.toNat_and,h2]; exact Nat.and_le_right
 rw [IntWalk.i64_in _ (by omega)]
 omega
def z0K (o:l1Cur):Prop:=0≤o.i∧o.b.length≤1048576
theorem z9w {a:List UInt8}(h:a.length≤1048576):∃ o,q6S a=some o∧z0K o∧o.b=a:=by
 have key:∀ (m j:Nat) (s:Int),j+m=a.length→∃ q,q3j (q6r a) (s,(j:Int))=some q:=by
  intro m
  induction m with
  | zero=>
   intro j s hj
   exact⟨s,q2s (by unfold q6r; dsimp only; rw [if_neg (by omega)])⟩
  | succ m ih=>
   intro j s hj
   by_cases hlt:(j:Int) < 4000
   ·obtain⟨x,hx⟩:∃ x,a[j]? = some x:=⟨_,List.getElem?_eq_getElem (by omega)⟩
    obtain⟨q,hq⟩:=ih (j+1) (q8V (IntKind.i64.wrap ((IntKind.i64.wrap ((IntKind.i64.wrap (s*131))+(x.toNat:Int)))+7)) 1073741823) (by omega)
    refine⟨q,(q3p ?_).trans hq⟩
    have hw:IntKind.i64.wrap ((j:Int)+1)=((j+1:Nat):Int):=by rw [IntWalk.i64_in _ (by omega)]; rfl
    unfold q6r
    dsimp only
    rw [if_pos (by omega),if_pos hlt,q1m (by omega),Int.toNat_natCast,hx,Option.bind_some,hw]
   ·exact⟨s,q2s (by unfold q6r; dsimp only; rw [if_pos (by omega),if_neg hlt])⟩
 obtain⟨q,hq⟩:=key a.length 0 (IntKind.i64.wrap (26583+(a.length:Int))) (by omega)
 have hq' : q3j (q6r a) ((IntKind.i64.wrap (26583+(a.length:Int))),0)=some q:=hq
 refine⟨⟨a,0,q⟩,?_,⟨Int.le_refl _,h⟩,rfl⟩
 unfold q6S
 rw [hq',Option.bind_some]
theorem q7w {o:l1Cur}(h:z0K o):∃ y z,q4F o=some (y,z)∧0≤y∧y≤255∧z0K z∧z.b=o.b:=by
 obtain⟨h0,h1⟩:=h
 unfold q4F
 by_cases hi:o.i < (o.b.length:Int)
 ·obtain⟨x,hx⟩:∃ x,o.b[o.i.toNat]? = some x:=⟨_,List.getElem?_eq_getElem (by omega)⟩
  rw [if_pos hi,q1m h0,hx,Option.bind_some]
  refine⟨_,_,rfl,(q9R (by omega) (by omega)).1,(q9R (by omega) (by omega)).2,⟨?_,h1⟩,rfl⟩
  show 0≤IntKind.i64.wrap (o.i+1)
  rw [IntWalk.i64_in _ (by omega)]; omega
 ·rw [if_neg hi]
  exact⟨_,_,rfl,(q9R (by omega) (by omega)).1,(q9R (by omega) (by omega)).2,⟨h0,h1⟩,rfl⟩
theorem z7V {y n:Int}(hy:0≤y)(hn:0 < n):0≤y.tmod n∧y.tmod n < n:=by
 rw [Int.tmod_eq_emod_of_nonneg hy]
 exact⟨Int.emod_nonneg _ (by omega),Int.emod_lt_of_pos _ hn⟩
theorem q5I {o:l1Cur}(h:z0K o)(n:Int):∃ y z,q1o n o=some (y,z)∧0≤y∧(0 < n→y < n)∧(n≤0→y=0)∧z0K z∧z.b=o.b:=by
 unfold q1o
 by_cases hn:n≤0
 ·rw [if_pos hn]; exact⟨0,o,rfl,Int.le_refl _,fun h=>absurd h (by omega),fun _=>rfl,h,rfl⟩
 ·rw [if_neg hn]
  by_cases h2:n≤256
  ·obtain⟨y,z,h3,h4,h5,h6,h7⟩:=q7w h
   rw [if_pos h2,h3,Option.bind_some]
   dsimp only
   rw [q1m (by omega)]
   have:=z7V h4 (show 0 < n by omega)
   exact⟨_,_,rfl,this.1,fun _=>this.2,fun h=>absurd h hn,⟨h6.1,h.2⟩,rfl⟩
  ·obtain⟨y1,z1,a1,a2,a3,a4,a5⟩:=q7w h
   obtain⟨y2,z2,b1,b2,b3,b4,b5⟩:=q7w (o:=⟨o.b,z1.i,z1.h⟩) ⟨a4.1,h.2⟩
   obtain⟨y3,z3,c1,c2,c3,c4,c5⟩:=q7w (o:=⟨o.b,z2.i,z2.h⟩) ⟨b4.1,h.2⟩
   obtain⟨y4,z4,d1,d2,d3,d4,d5⟩:=q7w (o:=⟨o.b,z3.i,z3.h⟩) ⟨c4.1,h.2⟩
   rw [if_neg h2,a1,Option.bind_some]
   dsimp only
   rw [b1,Option.bind_some]
   dsimp only
   rw [c1,Option.bind_some]
   dsimp only
   rw [d1,Option.bind_some]
   dsimp only
   rw [q1m (by constructor<;>omega),q1m (by constructor<;>omega),q1m (by constructor<;>omega),q1m (by constructor<;>omega),q1m (by constructor<;>omega),q1m (by constructor<;>omega),q1m (by omega)]
   have:=z7V (y:=y1*16777216+y2*65536+y3*256+y4) (by omega) (show 0 < n by omega)
   exact⟨_,_,rfl,this.1,fun _=>this.2,fun h=>absurd h hn,⟨d4.1,h.2⟩,rfl⟩
theorem q7x {o:l1Cur}(h:z0K o){l:List Int}(hl:l≠[]):∃ y z,q1J l o=some (y,z)∧y∈l∧z0K z∧z.b=o.b:=by
 have hpos:=List.length_pos_iff.2 hl
 obtain⟨y,z,h1,h2,h3,_,h5,h6⟩:=q5I h (l.length:Int)
 have:=h3 (by omega)
 obtain⟨x,hx⟩:∃ x,l[y.toNat]? = some x:=⟨_,List.getElem?_eq_getElem (by omega)⟩
 unfold q1J
 rw [h1,Option.bind_some]
 dsimp only
 rw [q1m h2,hx,Option.bind_some]
 exact⟨_,_,rfl,List.mem_of_getElem? hx,⟨h5.1,h.2⟩,rfl⟩
end Go.Proofs.YtiojgbiimbefiaaGreat
namespace Go.Proofs.YtiojgbiimbefiaaGreat
open Go Go.E
theorem z7W {ρ:Type}{g:Nat→Option ρ}(hm:∀ n r,g n=some r→g (n+1)=some r){n:Nat}{r:ρ}(h:g n=some r):recO g=some r:=by
 have up:∀ (k n:Nat) (r:ρ),g n=some r→g (n+k)=some r:=by
  intro k
  induction k with
  | zero=>intro n r h; exact h
  | succ k ih=>intro n r h; exact hm _ _ (ih n r h)
 refine q7Q n fun m hm=>?_
 have h1:=up (m - n) n r h
 rwa [show n+(m - n)=m by omega] at h1
theorem q9j {α σ:Type}{f g:Nat→α→σ→Option σ}(h:∀ k x s q,f k x s=some q→g k x s=some q):∀ (xs:List α) (i:Nat) (s q:σ),eachL f i xs s=some q→eachL g i xs s=some q
 | [],i,s,q,hq=>hq
 | x :: xs,i,s,q,hq=>by
  simp only [eachL] at hq ⊢
  obtain⟨t,h1,h2⟩:=bd hq
  rw [h _ _ _ _ h1]
  exact q9j h xs _ _ _ h2
theorem z3Q (a b:Occurrence):q6a a b=some (q5N a b):=by
 unfold q6a q5N
 by_cases h1:a.Pos < b.Pos
 ·simp [h1]
 ·by_cases h2:a.Pos=b.Pos
  ·simp [h2]
  ·simp [h1,h2]
abbrev q7y (l:List Occurrence):Prop:=l.Pairwise fun a b=>q5N a b=true
theorem z9x {l:List Occurrence}{o:Occurrence}(hl:l.length≤4398046511104):∀ (m j:Nat),j+m=l.length→(∀ a∈l.take j,q5N a o=true) →
  ∃ k:Nat,q3j (q6b l o) (j:Int)=some ((k:Nat):Int)∧k≤l.length∧(∀ a∈l.take k,q5N a o=true)∧∀ y,l[k]? = some y→q5N y o=false:=by
 intro m
 induction m with
 | zero=>
  intro j hj ha
  refine⟨j,q2s ?_,by omega,ha,fun y hy=>?_⟩
  ·unfold q6b; rw [if_neg (by omega)]
  ·rw [List.getElem?_eq_none (by omega)] at hy; cases hy
 | succ m ih=>
  intro j hj ha
  obtain⟨x,hx⟩:∃ x,l[j]? = some x:=⟨_,List.getElem?_eq_getElem (by omega)⟩
  cases hb:q5N x o with
  | false=>
   refine⟨j,q2s ?_,by omega,ha,fun y hy=>?_⟩
   ·unfold q6b
    rw [if_pos (by omega),q1m (by omega)]
    simp only [Int.toNat_natCast]
    rw [hx,Option.bind_some,z3Q,Option.bind_some,if_neg (by rw [hb]; simp)]
   ·rw [hx] at hy; cases hy; exact hb
  | true=>
   have e:q6b l o (j:Int)=some (.inl ((j+1:Nat):Int)):=by
    unfold q6b
    rw [if_pos (by omega),q1m (by omega)]
    simp only [Int.toNat_natCast]
    rw [hx,Option.bind_some,z3Q,Option.bind_some,if_pos hb,q1m (by constructor<;>omega)]; rfl
   rw [q3p e]
   refine ih (j+1) (by omega) fun a h=>?_
   rw [List.take_add_one,hx] at h
   rcases List.mem_append.1 h with h | h
   ·exact ha a h
   ·simp at h; rw [h]; exact hb
theorem z7X {l:List Occurrence}{o:Occurrence}(hl:l.length < 4398046511104)(hs:q7y l):∃ q,q8G l o=some q∧q7y q∧(∀ a,a∈q↔a=o∨a∈l)∧q.length≤l.length+1:=by
 obtain⟨k,h1,h2,h3,h4⟩:=z9x (l:=l) (o:=o) (by omega) l.length 0 (by omega) (by simp)
 have h1' : q3j (q6b l o) 0=some ((k:Nat):Int):=h1
 have hput:∀ (hne:∀ y,l[k]? = some y→y≠o),q7y (l.take k++[o]++l.drop k)∧(∀ a,a∈l.take k++[o]++l.drop k↔a=o∨a∈l)∧(l.take k++[o]++l.drop k).length≤l.length+1:=fun hne=>by
  refine⟨?_,fun a=>?_,by simp; omega⟩
  ·have:=z6H (lt:=q5N) lessO_swo.trans q7U (k:=k) hs h3 fun y hy=>⟨h4 y hy,hne y hy⟩
   simpa using this
  ·have:a∈l↔a∈l.take k∨a∈l.drop k:=by rw [← List.mem_append,List.take_append_drop]
   rw [this]
   simp only [List.mem_append,List.mem_singleton]
   constructor
   ·rintro ((h | h) | h)<;>simp [h]
   ·rintro (h | h | h)<;>simp [h]
 unfold q8G
 rw [h1',Option.bind_some]
 by_cases hk:k < l.length
 ·obtain⟨x,hx⟩:∃ x,l[k]? = some x:=⟨_,List.getElem?_eq_getElem hk⟩
  rw [if_pos (by omega),q1m (by omega)]
  simp only [Int.toNat_natCast]
  rw [hx,Option.bind_some]
  by_cases hxo:x=o
  ·rw [if_pos hxo]
   refine⟨l,rfl,hs,fun a=>?_,by omega⟩
   have:=List.mem_of_getElem? hx
   constructor
   ·exact .inr
   ·rintro (h | h)
    ·rw [h,← hxo]; exact this
    ·exact h
  ·rw [if_neg hxo,q1m (by omega),q1m (by omega),q1m (by simp; omega),q1m (by simp; omega),q1m (by omega),q1m (by omega),q1m (by simp; omega)]
   exact⟨_,rfl,hput fun y hy=>by rw [hx] at hy; cases hy; exact hxo⟩
 ·rw [if_neg (by omega)]
  simp only [Int.toNat_natCast]
  rw [q1m (by omega),q1m (by omega),q1m (by simp; omega),q1m (by simp; omega),q1m (by omega),q1m (by omega),q1m (by simp; omega)]
  exact⟨_,rfl,hput fun y hy=>by rw [List.getElem?_eq_none (by omega)] at hy; cases hy⟩
theorem j1b:∀ (n:Nat) (e:Expr) (l q:List Occurrence),q3g n e l=some q→q3g (n+1) e l=some q:=by
 intro n
 induction n with
 | zero=>intro e l q h; cases h
 | succ n ih=>
  intro e l q h
  have h' : q5r (q3g n) e l=some q:=h
  show q5r (q3g (n+1)) e l=some q
  have m1:∀ (xs:List Expr) (i:Nat) (s q:List Occurrence),eachL (q5H (q3g n)) i xs s=some q→eachL (q5H (q3g (n+1))) i xs s=some q:=q9j fun k x s q hq=>by
   unfold q5H at hq ⊢
   obtain⟨y,h3,h4⟩:=bd hq
   rw [ih _ _ _ h3]; exact h4
  unfold q5r at h' ⊢
  by_cases hk:e.Kind=3
  ·rw [if_pos hk] at h' ⊢
   obtain⟨y,h1,h2⟩:=bd h'
   obtain⟨s,h3,h4⟩:=bd h2
   rw [h1,Option.bind_some,m1 _ _ _ _ h3]; exact h4
  ·rw [if_neg hk] at h' ⊢
   obtain⟨s,h3,h4⟩:=bd h'
   have m2:eachL (q9e (q3g (n+1))) 0 e.Args l=some s:=m1 _ _ _ _ h3
   rw [m2]; exact h4
theorem z6K:∀ (m:Nat) (e:Expr) (l:List Occurrence),fuE e≤m→q7y l→l.length+(q6W e).length≤1099511627776 →
  ∃ q,q3g m e l=some q∧q7y q∧(∀ a,a∈q↔a∈l∨a∈q6W e)∧q.length≤l.length+(q6W e).length:=by
 intro m
 induction m with
 | zero=>intro e l h; rw [q9B] at h; omega
 | succ m ih=>
  intro e l h hs hb
  rw [q9B] at h
  rw [q6X,List.length_append] at hb
  have hl:∀ (xs:List Expr) (i:Nat) (s:List Occurrence),fuEs xs≤m→q7y s→s.length+(q4O xs).length≤1099511627776 →
    ∃ q,eachL (q5H (q3g m)) i xs s=some q∧q7y q∧(∀ a,a∈q↔a∈s∨a∈q4O xs)∧q.length≤s.length+(q4O xs).length:=by
   intro xs
   induction xs with
   | nil=>intro i s _ hs _; exact⟨s,rfl,hs,by simp [q4O],by omega⟩
   | cons x xs ihl=>
    intro i s hf hs hb
    simp only [fuEs] at hf
    simp only [q4O,List.length_append] at hb
    obtain⟨q,h1,h2,h3,h4⟩:=ih x s (by omega) hs (by omega)
    obtain⟨q2,k1,k2,k3,k4⟩:=ihl (i+1) q (by omega) h2 (by omega)
    refine⟨q2,?_,k2,fun a=>?_,by simp only [q4O,List.length_append]; omega⟩
    ·simp only [eachL,q5H,h1,Option.bind_some]; exact k1
    ·rw [k3,h3,q4O,List.mem_append,or_assoc]
  show ∃ q,q5r (q3g m) e l=some q∧_
  unfold q5r
  by_cases hk:e.Kind=3
  ·rw [if_pos hk] at hb ⊢
   simp only [List.length_cons,List.length_nil] at hb
   obtain⟨y,h1,h2,h3,h4⟩:=z7X (l:=l) (o:=⟨e.Pos,e.Name⟩) (by omega) hs
   obtain⟨q,k1,k2,k3,k4⟩:=hl e.Args 0 y (by omega) h2 (by omega)
   refine⟨q,?_,k2,fun a=>?_,?_⟩
   ·rw [h1,Option.bind_some,k1]; rfl
   ·rw [k3,h3,q6X,if_pos hk,List.mem_append,List.mem_singleton]
    constructor
    ·rintro ((h | h) | h)<;>simp [h]
    ·rintro (h | h | h)<;>simp [h]
   ·rw [q6X,if_pos hk]; simp; omega
  ·rw [if_neg hk] at hb ⊢
   simp only [List.length_nil] at hb
   obtain⟨q,k1,k2,k3,k4⟩:=hl e.Args 0 l (by omega) hs (by omega)
   have k1' : eachL (q9e (q3g m)) 0 e.Args l=some q:=k1
   refine⟨q,?_,k2,fun a=>?_,?_⟩
   ·rw [k1']; rfl
   ·rw [k3,q6X,if_neg hk]; simp
   ·rw [q6X,if_neg hk]; simpa using k4
theorem z3R (e:Expr):q7y (z0J e):=by
 refine q7v lessO_swo.trans q7U ?_
 have h:=List.pairwise_mergeSort (le:=fun x y=>!q5N y x) (fun a b c h1 h2=>by
  simp only [Bool.not_eq_true'] at h1 h2 ⊢
  exact lessO_swo.ntrans _ _ _ h2 h1) (fun a b=>by
  cases h:q5N a b with
  | false=>simp [h]
  | true=>
   cases h2:q5N b a with
   | false=>simp
   | true=>have:=lessO_swo.trans _ _ _ h h2; rw [lessO_swo.irrefl] at this; cases this) (q6W e)
 unfold z3u
 exact h.imp fun {a b} h=>by simpa using h
theorem z9y {e:Expr}(h:Sz.szd e≤1048576):q3a e=some (z0J e):=by
 have hl:=z7M h
 obtain⟨q,h1,h2,h3,h4⟩:=z6K _ e [] (Nat.le_refl _) List.Pairwise.nil (by simp; omega)
 have hq:q=z0J e:=z1L (lt:=q5N) lessO_swo.irrefl lessO_swo.trans h2 (z3R e) fun a=>by rw [h3,z7N]; simp
 subst hq
 have hr:z0F e []=some (z0J e):=z7W (fun n q=>j1b n e [] q) h1
 unfold q3a
 rw [hr]; rfl
end Go.Proofs.YtiojgbiimbefiaaGreat
namespace Go.Proofs.YtiojgbiimbefiaaGreat
open Go Go.E
def Ok {ρ:Type}(Q:ρ→Prop)(o:Option ρ):Prop:=∃ r,o=some r∧Q r
section
variable {ρ τ σ α:Type}{Q:ρ→Prop}{R:τ→Prop}
theorem Ok.ret {r:ρ}(h:Q r):Ok Q (some r):=⟨r,rfl,h⟩
theorem Ok.bind {o:Option ρ}{f:ρ→Option τ}(h:Ok Q o)(hf:∀ r,Q r→Ok R (f r)):Ok R (o.bind f):=by
 obtain⟨r,rfl,hr⟩:=h; exact hf r hr
theorem Ok.grd {c:Prop}[Decidable c]{k:Option τ}(hc:c)(h:Ok R k):Ok R (Go.E.grd c k):=by rw [q1m hc]; exact h
theorem Ok.ite {c:Prop}[Decidable c]{a b:Option τ}(h1:c→Ok R a)(h2:¬ c→Ok R b):Ok R (if c then a else b):=by
 by_cases hc:c
 ·rw [if_pos hc]; exact h1 hc
 ·rw [if_neg hc]; exact h2 hc
theorem Ok.mono {Q' : ρ→Prop}{o:Option ρ}(h:Ok Q o)(hq:∀ r,Q r→Q' r):Ok Q' o:=by
 obtain⟨r,rfl,hr⟩:=h; exact⟨r,rfl,hq r hr⟩
theorem z2E {P:Nat→σ→Prop}{f:Nat→σ→Option σ}:∀ {n i:Nat} {s:σ},P i s→(∀ k s,i≤k→k < i+n→P k s→Ok (P (k+1)) (f k s))→Ok (P (i+n)) (eachN f i n s)
 | 0,i,s,h,_=>⟨s,rfl,h⟩
 | n+1,i,s,h,hf=>by
  rw [eachN]
  refine (hf i s (Nat.le_refl _) (by omega) h).bind fun r hr=>?_
  have:=z2E (n:=n) hr fun k s h1 h2=>hf k s (by omega) (by omega)
  rwa [show i+1+n=i+(n+1) by omega] at this
theorem q9S {P:Nat→σ→Prop}{f:Nat→α→σ→Option σ}:∀ {xs:List α} {i:Nat} {s:σ},P i s→(∀ k x s,x∈xs→i≤k→k < i+xs.length→P k s→Ok (P (k+1)) (f k x s))→Ok (P (i+xs.length)) (eachL f i xs s)
 | [],i,s,h,_=>⟨s,rfl,h⟩
 | x :: xs,i,s,h,hf=>by
  rw [eachL]
  refine (hf i x s (by simp) (Nat.le_refl _) (by simp) h).bind fun r hr=>?_
  have:=q9S (xs:=xs) hr fun k y s hy h1 h2=>hf k y s (by simp [hy]) (by omega) (by simp; omega)
  rwa [show i+1+xs.length=i+(x :: xs).length by simp; omega] at this
theorem z7Y {g:Nat→Option ρ}{N:Nat}(h:∀ n,N≤n→g (n+1)=g n)(h2:Ok Q (g N)):Ok Q (recO g):=by
 obtain⟨r,h3,h4⟩:=h2
 have:∀ k,g (N+k)=some r:=by
  intro k
  induction k with
  | zero=>exact h3
  | succ k ih=>rw [← Nat.add_assoc,h _ (by omega),ih]
 exact⟨r,q7Q N fun n hn=>by have:=this (n - N); rwa [show N+(n - N)=n by omega] at this,h4⟩
end
def CB (b:List UInt8)(z:l1Cur):Prop:=0≤z.i∧z.b=b
theorem CB.mk' {b:List UInt8}{o z:l1Cur}(h:CB b o)(hz:CB b z):CB b ⟨o.b,z.i,z.h⟩:=⟨hz.1,h.2⟩
def Dr {α:Type}(b:List UInt8)(P:α→Prop)(o:Option (α × l1Cur)):Prop:=Ok (fun r=>P r.1∧CB b r.2) o
theorem Dr.of {α:Type}{b:List UInt8}{P:α→Prop}{o:Option (α × l1Cur)}(hb:b.length≤1048576)(h:∃ y z,o=some (y,z)∧P y∧z0K z∧z.b=b):Dr b P o:=by
 obtain⟨y,z,e,h1,h2,h3⟩:=h
 exact⟨(y,z),e,h1,h2.1,h3⟩
theorem CB.ok {b:List UInt8}{z:l1Cur}(hb:b.length≤1048576)(h:CB b z):z0K z:=⟨h.1,by rw [h.2]; exact hb⟩
section
variable {b:List UInt8}{o:l1Cur}(hb:b.length≤1048576)
include hb
theorem j0h:Ok (fun z=>CB b z) (q6S b):=by
 obtain⟨o,h1,h2,h3⟩:=z9w hb
 exact⟨o,h1,h2.1,h3⟩
theorem q1C (n:Int)(h:CB b o):Dr b (fun y=>0≤y∧(0 < n→y < n)∧(n≤0→y=0)) (q1o n o):=by
 obtain⟨y,z,h1,h2,h3,h4,h5,h6⟩:=q5I (h.ok hb) n
 exact⟨(y,z),h1,⟨h2,h3,h4⟩,h5.1,h6.trans h.2⟩
theorem q3S (n:Int)(h:CB b o):Dr b (fun _=>True) (q1G n o):=by
 unfold q1G
 refine (q1C hb n h).bind ?_
 rintro⟨y,z⟩ ⟨_,hz⟩
 exact .ret ⟨trivial,h.mk' hz⟩
theorem q6d {l:List ByteArray}(hl:l≠[])(h:CB b o):Dr b (fun y=>y∈l) (q2R l o):=by
 have hpos:=List.length_pos_iff.2 hl
 unfold q2R
 refine (q1C hb _ h).bind ?_
 rintro⟨y,z⟩ ⟨⟨h1,h2,_⟩,hz⟩
 dsimp only at h1 h2 hz ⊢
 have:=h2 (by omega)
 obtain⟨x,hx⟩:∃ x,l[y.toNat]? = some x:=⟨_,List.getElem?_eq_getElem (by omega)⟩
 rw [hx]
 exact .grd h1 (.ret ⟨List.mem_of_getElem? hx,h.mk' hz⟩)
theorem q4d {l:List Int}(hl:l≠[])(h:CB b o):Dr b (fun y=>y∈l) (q1J l o):=by
 obtain⟨y,z,h1,h2,h3,h4⟩:=q7x (h.ok hb) hl
 exact⟨(y,z),h1,h2,h3.1,h4.trans h.2⟩
theorem z4V (h:CB b o):Dr b (fun y=>y.size=1) (q4H o):=by
 unfold q4H
 refine (q6d hb (by simp) h).bind ?_
 rintro⟨y,z⟩ ⟨h1,hz⟩
 refine .ret ⟨?_,h.mk' hz⟩
 simp only [List.mem_cons,List.not_mem_nil,or_false] at h1
 rcases h1 with h1 | h1 | h1 | h1 | h1 | h1 | h1 | h1<;>rw [h1]<;>rfl
theorem z1R (k n p t:Int)(s m:ByteArray):Sz.szd (⟨k,n,p,t,s,m,[]⟩:Expr)=s.size+m.size:=by rw [q3i]; rfl
theorem z7Z (k n p t:Int)(s m:ByteArray)(x y:Expr):Sz.szd (⟨k,n,p,t,s,m,[x,y]⟩:Expr)=s.size+m.size+(1+Sz.szd x+(1+Sz.szd y+0)):=by rw [q3i]; rfl
theorem j0i (k n p t:Int)(s m:ByteArray)(x:Expr):Sz.szd (⟨k,n,p,t,s,m,[x]⟩:Expr)=s.size+m.size+(1+Sz.szd x+0):=by rw [q3i]; rfl
theorem z5M (k n p t:Int)(s m:ByteArray)(x y z:Expr):Sz.szd (⟨k,n,p,t,s,m,[x,y,z]⟩:Expr)=s.size+m.size+(1+Sz.szd x+(1+Sz.szd y+(1+Sz.szd z+0))):=by rw [q3i]; rfl
theorem q5D:(⟨#[]⟩:ByteArray).size=0:=rfl
theorem q9k (k:Int){l:List Occurrence}(hl:∀ q∈l,q.Name.size≤8)(h:CB b o):Dr b (fun e=>Sz.szd e≤8) (q3c k l o):=by
 have bare:∀ {o:l1Cur},CB b o→∀ {R:Option (Expr × l1Cur)},R=(if k=4 then
   (q1G 3 o).bind fun (y10,z7)=>if y10=true then some ((⟨7,0,0,0,(⟨#[]⟩:ByteArray),(⟨#[]⟩:ByteArray),[]⟩:Expr),(⟨o.b,z7.i,z7.h⟩:l1Cur)) else some ((⟨6,0,0,0,(⟨#[]⟩:ByteArray),(⟨#[]⟩:ByteArray),[]⟩:Expr),(⟨o.b,z7.i,z7.h⟩:l1Cur))
  else if k=3 then (q1o 2 o).bind fun (y11,z8)=>(q2V y11 k).bind fun y12=>some (y12,(⟨o.b,z8.i,z8.h⟩:l1Cur))
  else if k=2 then (q1o 12 o).bind fun (y13,z9)=>grd (0≤y13) <| grd (0≤y13∧y13 < 63) <| (q2V ((2 ^ y13.toNat:Nat):Int) k).bind fun y14=>some (y14,(⟨o.b,z9.i,z9.h⟩:l1Cur))
  else (q1o 9 o).bind fun (y15,z10)=>(q2V y15 1).bind fun y16=>some (y16,(⟨o.b,z10.i,z10.h⟩:l1Cur)))→Dr b (fun e=>Sz.szd e≤8) R:=by
  rintro o h R rfl
  refine .ite (fun _=>?_) fun _=>.ite (fun _=>?_) fun _=>.ite (fun _=>?_) fun _=>?_
  ·refine (q3S hb 3 h).bind ?_
   rintro⟨y,z⟩ ⟨_,hz⟩
   refine .ite (fun _=>.ret ⟨?_,h.mk' hz⟩) fun _=>.ret ⟨?_,h.mk' hz⟩
   ·exact Nat.zero_le _
   ·exact Nat.zero_le _
  ·refine (q1C hb 2 h).bind ?_
   rintro⟨y,z⟩ ⟨_,hz⟩
   refine .ret ⟨?_,h.mk' hz⟩
   exact Nat.zero_le _
  ·refine (q1C hb 12 h).bind ?_
   rintro⟨y,z⟩ ⟨⟨h1,h2,_⟩,hz⟩
   have:=h2 (by omega)
   dsimp only at h1 this
   refine .grd h1 (.grd (by omega) (.ret ⟨?_,h.mk' hz⟩))
   exact Nat.zero_le _
  ·refine (q1C hb 9 h).bind ?_
   rintro⟨y,z⟩ ⟨_,hz⟩
   refine .ret ⟨?_,h.mk' hz⟩
   exact Nat.zero_le _
 unfold q3c
 refine .ite (fun hl0=>?_) fun _=>bare h rfl
 refine (q3S hb 4 h).bind ?_
 rintro⟨y,z⟩ ⟨_,hz⟩
 have h':=h.mk' hz
 refine .ite (fun _=>?_) fun _=>?_
 ·exact bare h' rfl
 ·refine (q1C hb _ h').bind ?_
  rintro⟨y,z⟩ ⟨⟨h1,h2,_⟩,hz⟩
  have:=h2 (by omega)
  dsimp only at h1 this
  obtain⟨x,hx⟩:∃ x,l[y.toNat]? = some x:=⟨_,List.getElem?_eq_getElem (by omega)⟩
  dsimp only
  rw [hx]
  refine .grd h1 (.ret ⟨?_,h.mk' hz⟩)
  dsimp only
  rw [z1R hb,q5D hb]
  have:=hl x (List.mem_of_getElem? hx)
  omega
def fb (d:Nat):Nat:=20*4 ^ d
theorem z1S (d:Nat):20≤fb d:=by
 have:1≤4 ^ d:=Nat.one_le_pow _ _ (by omega)
 unfold fb; omega
theorem z8a (d:Nat):fb (d+1)=4*fb d:=by unfold fb; rw [Nat.pow_succ]; omega
theorem q8j (h:CB b o){R:Option (Expr × l1Cur)}(hR:R=(
 (q1G 5 o).bind fun (y1,z1)=>
 if y1=true then (
 some ((⟨2,0,0,0,(⟨#[]⟩:ByteArray),(⟨#[]⟩:ByteArray),[]⟩:Expr),(⟨o.b,z1.i,z1.h⟩:l1Cur))
 ) else (
 (q1G 6 (⟨o.b,z1.i,z1.h⟩:l1Cur)).bind fun (y2,z2)=>
 if y2=true then (
 (q1o 4 (⟨o.b,z2.i,z2.h⟩:l1Cur)).bind fun (y3,z3)=>
 some ((⟨6,0,y3,0,(⟨#[]⟩:ByteArray),(⟨#[]⟩:ByteArray),[]⟩:Expr),(⟨o.b,z3.i,z3.h⟩:l1Cur))
 ) else (
 (q1o 4 (⟨o.b,z2.i,z2.h⟩:l1Cur)).bind fun (y4,z4)=>
 grd (I64 (1+y4)) <|
 (q1o 4 (⟨o.b,z4.i,z4.h⟩:l1Cur)).bind fun (y5,z5)=>
 (q4H (⟨o.b,z5.i,z5.h⟩:l1Cur)).bind fun (y6,z6)=>
 (q3c (1+y4) [(⟨y5,y6⟩:Occurrence)] (⟨o.b,z6.i,z6.h⟩:l1Cur)).bind fun (y7,z7)=>
 some (y7,(⟨o.b,z7.i,z7.h⟩:l1Cur))
 )
 ))):Dr b (fun e=>Sz.szd e≤20) R:=by
 subst hR
 refine (q3S hb 5 h).bind ?_
 rintro⟨y1,z1⟩ ⟨_,h1⟩
 refine .ite (fun _=>.ret ⟨?_,h.mk' h1⟩) fun _=>?_
 ·exact Nat.zero_le _
 refine (q3S hb 6 (h.mk' h1)).bind ?_
 rintro⟨y2,z2⟩ ⟨_,h2⟩
 refine .ite (fun _=>?_) fun _=>?_
 ·refine (q1C hb 4 (h.mk' h2)).bind ?_
  rintro⟨y3,z3⟩ ⟨_,h3⟩
  refine .ret ⟨?_,h.mk' h3⟩
  exact Nat.zero_le _
 ·refine (q1C hb 4 (h.mk' h2)).bind ?_
  rintro⟨y4,z4⟩ ⟨⟨a1,a2,_⟩,h4⟩
  have:=a2 (by omega)
  dsimp only at a1 this
  refine .grd (by constructor<;>omega) ?_
  refine (q1C hb 4 (h.mk' h4)).bind ?_
  rintro⟨y5,z5⟩ ⟨_,h5⟩
  refine (z4V hb (h.mk' h5)).bind ?_
  rintro⟨y6,z6⟩ ⟨hn,h6⟩
  refine (q9k hb _ (by simpa using (show y6.size≤8 by dsimp only at hn; omega)) (h.mk' h6)).bind ?_
  rintro⟨y7,z7⟩ ⟨hs,h7⟩
  exact .ret ⟨by have hs' : Sz.szd y7≤8:=hs; show Sz.szd y7≤20; omega,h.mk' h7⟩
theorem j1c:∀ (d:Nat) (m:Nat),d < m→∀ (a:Int) (o:l1Cur),a≤d+1→q2K (m+1) a o=q2K m a o:=by
 intro d
 induction d with
 | zero=>
  intro m hm a o ha
  obtain⟨m,rfl⟩:∃ q,m=q+1:=⟨m - 1,by omega⟩
  show q3s (q2K (m+1)) a o=q3s (q2K m) a o
  unfold q3s
  rw [if_pos (by omega),if_pos (by omega)]
 | succ d ih=>
  intro m hm a o ha
  obtain⟨m,rfl⟩:∃ q,m=q+1:=⟨m - 1,by omega⟩
  have e:q2K (m+1) (a - 1)=q2K m (a - 1):=funext fun o=>ih m (by omega) (a - 1) o (by omega)
  show q3s (q2K (m+1)) a o=q3s (q2K m) a o
  unfold q3s
  rw [e]
theorem z9z:∀ (d:Nat) (m:Nat),d < m→∀ (a:Int) (o:l1Cur),a≤d+1→-1000000≤a→d≤100000→CB b o→Dr b (fun e=>Sz.szd e≤fb d) (q2K m a o):=by
 intro d
 induction d with
 | zero=>
  intro m hm a o ha _ _ h
  obtain⟨m,rfl⟩:∃ q,m=q+1:=⟨m - 1,by omega⟩
  show Dr b _ (q3s (q2K m) a o)
  unfold q3s
  rw [if_pos (by omega)]
  exact (q8j hb h rfl).mono fun r hr=>⟨Nat.le_trans hr.1 (z1S hb 0),hr.2⟩
 | succ d ih=>
  intro m hm a o ha h0 hd h
  obtain⟨m,rfl⟩:∃ q,m=q+1:=⟨m - 1,by omega⟩
  have hf:=z1S hb d
  have hs:=z8a hb d
  show Dr b _ (q3s (q2K m) a o)
  unfold q3s
  by_cases ha2:a < 2
  ·rw [if_pos ha2]; exact (q8j hb h rfl).mono fun r hr=>⟨Nat.le_trans hr.1 (z1S hb _),hr.2⟩
  rw [if_neg ha2]
  have ih' : ∀ {o:l1Cur},CB b o→Dr b (fun e=>Sz.szd e≤fb d) (q2K m (a - 1) o):=fun h=>ih m (by omega) (a - 1) _ (by omega) (by omega) (by omega) h
  have hg:I64 (a - 1):=by constructor<;>omega
  refine (q3S hb 4 h).bind ?_
  rintro⟨y8,z8⟩ ⟨_,h8⟩
  refine .ite (fun _=>(q8j hb (h.mk' h8) rfl).mono fun r hr=>⟨Nat.le_trans hr.1 (z1S hb _),hr.2⟩) fun _=>?_
  refine (q1C hb 5 (h.mk' h8)).bind ?_
  rintro⟨y16,z16⟩ ⟨_,h16⟩
  refine .ite (fun _=>?_) fun _=>.ite (fun _=>?_) fun _=>?_
  ·refine .grd hg ((ih' (h.mk' h16)).bind ?_)
   rintro⟨e1,z1⟩ ⟨s1,h1⟩
   refine .grd hg ((ih' (h.mk' h1)).bind ?_)
   rintro⟨e2,z2⟩ ⟨s2,h2⟩
   refine .grd hg ((ih' (h.mk' h2)).bind ?_)
   rintro⟨e3,z3⟩ ⟨s3,h3⟩
   refine .ret ⟨?_,h.mk' h3⟩
   dsimp only at s1 s2 s3 ⊢
   rw [z5M hb,q5D hb]; omega
  ·refine (q6d hb (by simp) (h.mk' h16)).bind ?_
   rintro⟨y20,z20⟩ ⟨h20,c20⟩
   refine (z4V hb (h.mk' c20)).bind ?_
   rintro⟨y21,z21⟩ ⟨h21,c21⟩
   refine .grd hg ((ih' (h.mk' c21)).bind ?_)
   rintro⟨e1,z1⟩ ⟨s1,h1⟩
   refine .ret ⟨?_,h.mk' h1⟩
   have:y20.size=1:=by
    simp only [List.mem_cons,List.not_mem_nil,or_false] at h20
    rcases h20 with h20 | h20<;>rw [h20]<;>rfl
   dsimp only at s1 h21 ⊢
   rw [j0i hb]; omega
  ·refine (q1C hb 12 (h.mk' h16)).bind ?_
   rintro⟨y23,z23⟩ ⟨⟨a1,a2,_⟩,h23⟩
   have:=a2 (by omega)
   dsimp only at a1 this
   refine .grd (by constructor<;>omega) (.grd hg ((ih' (h.mk' h23)).bind ?_))
   rintro⟨e1,z1⟩ ⟨s1,h1⟩
   refine .grd hg ((ih' (h.mk' h1)).bind ?_)
   rintro⟨e2,z2⟩ ⟨s2,h2⟩
   refine .ret ⟨?_,h.mk' h2⟩
   dsimp only at s1 s2 ⊢
   rw [z7Z hb,q5D hb]; omega
theorem z8b (d:Nat){a:Int}(ha:a≤d+1)(h0:-1000000≤a)(hd:d≤100000)(h:CB b o):Dr b (fun e=>Sz.szd e≤fb d) (q8B a o):=
 z7Y (g:=fun n=>q2K n a o) (N:=d+1) (fun n hn=>j1c hb d n (by omega) a o ha) (z9z hb d (d+1) (by omega) a o ha h0 hd h)
theorem z8c {e:Expr}{n:Nat}(h:Sz.szd e≤n):cntE e≤n+1:=by
 have h1:=z5K e
 have h2:q5n e=Sz.szd e:=rfl
 omega
end
end Go.Proofs.YtiojgbiimbefiaaGreat
namespace Go.Proofs.YtiojgbiimbefiaaGreat
open Go Go.E
def Valid (r:Relation):Prop:=0≤r.N∧r.N≤16∧(r.Rows.length:Int)=r.N∧∀ x∈r.Rows,0≤x∧x≤((2 ^ r.N.toNat:Nat):Int) - 1
instance (r:Relation):Decidable (Valid r):=by unfold Valid; infer_instance
def q7f (r:Relation)(i:Int):Int:=r.Rows.getD i.toNat 0
def bit (x:Int)(k:Int):Prop:=x.toNat >>> k.toNat &&& 1=1
instance (x k:Int):Decidable (bit x k):=by unfold bit; infer_instance
def inN (r:Relation)(i:Int):Prop:=0≤i∧i≤r.N - 1
instance (r:Relation) (i:Int):Decidable (inN r i):=by unfold inN; infer_instance
def hasP (r:Relation)(i k:Int):Prop:=Valid r∧inN r i∧inN r k∧bit (q7f r i) k
instance (r:Relation) (i k:Int):Decidable (hasP r i k):=by unfold hasP; infer_instance
def z0L (r:Relation)(i:Int)(x:Int):Relation:=⟨r.N,r.Rows.set i.toNat x⟩
def orI (x y:Int):Int:=((x.toNat ||| y.toNat:Nat):Int)
def addP (r:Relation)(i k:Int):Relation:=if Valid r∧inN r i∧inN r k then z0L r i (orI (q7f r i) ((2 ^ k.toNat:Nat):Int)) else r
theorem Valid.row {r:Relation}(h:Valid r){i:Int}(hi:inN r i){x:Int}(hx:r.Rows[i.toNat]? = some x):q7f r i=x∧0≤x∧x≤65535:=by
 have hm:=h.2.2.2 x (List.mem_of_getElem? hx)
 have hp:2 ^ r.N.toNat≤2 ^ 16:=Nat.pow_le_pow_right (by decide) (by have:=h.2.1; omega)
 refine⟨by unfold q7f; simp [hx],hm.1,by omega⟩
theorem z5N (n:Int):1≤2 ^ n.toNat:=Nat.one_le_two_pow
theorem z8d {r:Relation}(h0:0≤r.N)(h1:r.N≤16)(h2:(r.Rows.length:Int)=r.N):decide (Valid r)=!(r.Rows.any fun x=>!decide (0≤x∧x≤((2 ^ r.N.toNat:Nat):Int) - 1)):=by
 by_cases hv:Valid r
 ·rw [decide_eq_true hv,eq_comm,Bool.not_eq_true',List.any_eq_false]
  intro x hx
  simp only [Bool.not_eq_true',decide_eq_false_iff_not,Decidable.not_not]
  exact hv.2.2.2 x hx
 ·rw [decide_eq_false hv,eq_comm,Bool.not_eq_false',List.any_eq_true]
  refine Classical.byContradiction fun hn=>hv ⟨h0,h1,h2,fun x hx=>Classical.byContradiction fun hb=>hn ⟨x,hx,?_⟩⟩
  rw [decide_eq_false hb]; rfl
theorem j0j {x k:Int}(h:(((((x.toNat >>> k.toNat:Nat):Int)).toNat &&& (1:Int).toNat:Nat):Int)=1):x.toNat >>> k.toNat &&& 1=1:=by
 have:(1:Int).toNat=1:=rfl
 rw [Int.toNat_natCast,this] at h
 exact_mod_cast h
theorem j0k {x k:Int}(h:x.toNat >>> k.toNat &&& 1=1):(((((x.toNat >>> k.toNat:Nat):Int)).toNat &&& (1:Int).toNat:Nat):Int)=1:=by
 have:(1:Int).toNat=1:=rfl
 rw [Int.toNat_natCast,this]
 exact_mod_cast h
theorem q4e (x lo hi:Int):q2F x lo hi=some (decide (lo≤x∧x≤hi)):=by
 unfold q2F; split<;>simp_all<;>omega
theorem q6H (x lo hi:Int):q3e x lo hi=some (decide (lo≤x∧x≤hi)):=by
 unfold q3e; split<;>simp_all<;>omega
theorem q3K (r:Relation):q1L r=some (decide (Valid r)):=by
 unfold q1L
 simp only [q4e,Option.bind_some,decide_eq_true_eq]
 by_cases h1:0≤r.N∧r.N≤16
 ·rw [if_pos h1]
  by_cases h2:(r.Rows.length:Int)=r.N
  ·rw [if_pos h2]
   have key:=z3J (c:=false) (n:=r.N.toNat) (i:=0) (p:=fun k=>∃ x,r.Rows[k]? = some x∧¬ (0≤x∧x≤((2 ^ r.N.toNat:Nat):Int) - 1)) (f:=q4n r) fun k hk=>by
    have hk' : k < r.Rows.length:=by omega
    obtain⟨x,hx⟩:∃ x,r.Rows[k]? = some x:=⟨_,List.getElem?_eq_getElem hk'⟩
    simp only [Nat.zero_add]
    unfold q4n
    rw [hx,Option.bind_some,q1m h1.1,q1m (by omega),q4e,Option.bind_some]
    simp only [decide_eq_true_eq]
    refine⟨fun ⟨y,hy,hn⟩=>?_,fun hn=>?_⟩
    ·cases hy; rw [if_neg hn]
    ·by_cases hb:0≤x∧x≤((2 ^ r.N.toNat:Nat):Int) - 1
     ·rw [if_pos hb]
     ·exact absurd ⟨x,rfl,hb⟩ hn
   simp only [Nat.zero_add] at key
   by_cases hv:Valid r
   ·rw [key.2 fun k hk ⟨x,hx,hn⟩=>hn (hv.2.2.2 x (List.mem_of_getElem? hx))]
    simp [hv]
   ·rw [key.1 (Classical.byContradiction fun hn=>hv ⟨h1.1,h1.2,h2,fun x hx=>?_⟩)]
    ·simp [hv]
    ·obtain⟨k,hk⟩:=List.getElem?_of_mem hx
     have hk':=j2k hk
     exact Classical.byContradiction fun hb=>hn ⟨k,by omega,x,hk,hb⟩
  ·rw [if_neg h2,decide_eq_false fun hv=>h2 hv.2.2.1]
 ·rw [if_neg h1,decide_eq_false fun hv=>h1 ⟨hv.1,hv.2.1⟩]
theorem q8k (r:Relation):q2p r=some (decide (Valid r)):=by
 unfold q2p
 simp only [q6H,Option.bind_some,decide_eq_true_eq]
 by_cases h1:0≤r.N∧r.N≤16
 ·rw [if_pos h1]
  simp only [Option.bind_some,Bool.false_eq_true,if_true,if_false,decide_eq_true_eq]
  by_cases h2:(r.Rows.length:Int)=r.N
  ·rw [if_pos h2]
   have h3:∀ x,q2M x r=some (!decide (0≤x∧x≤((2 ^ r.N.toNat:Nat):Int) - 1)):=fun x=>by
    unfold q2M
    rw [q1m h1.1,q1m (by omega),q6H]; rfl
   have h4:∀ (xs:List Int) (i:Nat),∃ z,findL (q1S r) i xs ()=some z∧((xs.any fun x=>!decide (0≤x∧x≤((2 ^ r.N.toNat:Nat):Int) - 1))=true→∃ k:Nat,z = .inr (k:Int))∧((xs.any fun x=>!decide (0≤x∧x≤((2 ^ r.N.toNat:Nat):Int) - 1))=false→z = .inl ()):=by
    intro xs
    induction xs with
    | nil=>intro i; exact⟨_,rfl,by simp,by simp⟩
    | cons x xs ih=>
     intro i
     simp only [findL,q1S,h3,Option.bind_some,List.any_cons]
     by_cases hb:0≤x∧x≤((2 ^ r.N.toNat:Nat):Int) - 1
     ·simp only [hb,and_self,decide_true,Bool.not_true,Bool.false_eq_true,if_false,Option.bind_some,Bool.false_or]
      exact ih (i+1)
     ·simp only [hb,decide_false,Bool.not_false,if_true,Option.bind_some,Bool.true_or]
      exact⟨_,rfl,fun _=>⟨i,rfl⟩,by simp⟩
   unfold q1y q1D
   obtain⟨z,hz,hz1,hz2⟩:=h4 r.Rows 0
   rw [hz,z8d h1.1 h1.2 h2]
   cases ha:(r.Rows.any fun x=>!decide (0≤x∧x≤((2 ^ r.N.toNat:Nat):Int) - 1)) with
   | true=>obtain⟨k,rfl⟩:=hz1 ha; simp
   | false=>rw [hz2 ha]; simp
  ·rw [if_neg h2,decide_eq_false fun hv=>h2 hv.2.2.1]; simp only [Option.bind_some,Bool.false_eq_true,if_true,if_false,decide_eq_true_eq]
 ·rw [if_neg h1,decide_eq_false fun hv=>h1 ⟨hv.1,hv.2.1⟩]; simp only [Option.bind_some,Bool.false_eq_true,if_true,if_false,decide_eq_true_eq]
theorem q5i (r:Relation)(i k:Int):q4u r i k=some (decide (hasP r i k)):=by
 unfold q4u
 simp only [q3K,q4e,Option.bind_some,decide_eq_true_eq]
 by_cases hv:Valid r
 ·have hv1:=hv.1; have hv2:=hv.2.1; have hv3:=hv.2.2.1
  rw [if_pos hv,q1m (by constructor<;>omega)]; simp only [Option.bind_some,Bool.false_eq_true,if_true,if_false,decide_eq_true_eq]
  by_cases hi:0≤i∧i≤r.N - 1
  ·rw [if_pos hi,q1m (by constructor<;>omega)]; simp only [Option.bind_some,Bool.false_eq_true,if_true,if_false,decide_eq_true_eq]
   by_cases hk:0≤k∧k≤r.N - 1
   ·obtain⟨x,hx⟩:∃ x,r.Rows[i.toNat]? = some x:=⟨_,List.getElem?_eq_getElem (by omega)⟩
    have hrow:=hv.row (i:=i) hi hx
    rw [if_pos hk,q1m hi.1,hx,Option.bind_some,q1m hk.1,q1m ⟨hrow.2.1,hk.1,by omega⟩,q1m ⟨Int.natCast_nonneg _,by decide⟩]
    simp only [Option.bind_some,Bool.false_eq_true,if_true,if_false,decide_eq_true_eq]
    congr 1
    refine decide_eq_decide.2 ⟨fun hb=>⟨hv,hi,hk,?_⟩,fun hb=>?_⟩
    ·unfold bit; rw [hrow.1]; exact j0j hb
    ·have:=hb.2.2.2; unfold bit at this; rw [hrow.1] at this; exact j0k this
   ·rw [if_neg hk]; simp only [Option.bind_some,Bool.false_eq_true,if_true,if_false,decide_eq_true_eq]; rw [ decide_eq_false fun h=>hk h.2.2.1]
  ·rw [if_neg hi]; simp only [Option.bind_some,Bool.false_eq_true,if_true,if_false,decide_eq_true_eq]; rw [ decide_eq_false fun h=>hi h.2.1]
 ·rw [if_neg hv]; simp only [Option.bind_some,Bool.false_eq_true,if_true,if_false,decide_eq_true_eq]; rw [ decide_eq_false fun h=>hv h.1]
theorem z0M (r:Relation)(i k:Int):q5d r i k=some (decide (hasP r i k)):=by
 rw [← q5i]
 unfold q5d q4u
 simp only [q3K,q8k,q4e,q6H]
theorem z3S:q3v=q3R:=by
 funext r; unfold q3v q3R q3T
 by_cases h:((([]:List Int).length:Int)+(r.Rows.length:Int))*8≤140737488355328∧(([]:List Int).length:Int)+(r.Rows.length:Int)≤9223372036854775807
 ·rw [q1m h,q1m h]; rfl
 ·unfold grd; rw [if_neg h,if_neg h]; rfl
theorem z9A:q5d=q4u:=by
 funext r i k; rw [z0M,q5i]
theorem z2F:q5c=q2z:=by
 funext r i k; unfold q5c q2z; simp only [z3S,q3K,q8k,q4e,q6H]
theorem z1T:q2X=q1x:=by
 funext n; unfold q2X q1x; simp only [q4e,q6H]
theorem q7z {r:Relation}(h:r.Rows.length≤1048576):q3R r=some r:=by
 unfold q3R; rw [q1m (by simp only [List.length_nil]; constructor<;>omega)]
theorem z5O {r:Relation}(h:r.Rows.length≤1048576)(i k:Int):∃ x,q2z r i k=some x∧x.Rows.length=r.Rows.length:=by
 unfold q2z
 simp only [q7z h,q3K,q4e,Option.bind_some,decide_eq_true_eq]
 by_cases hv:Valid r
 ·have hv1:=hv.1; have hv2:=hv.2.1; have hv3:=hv.2.2.1
  rw [if_pos hv,q1m (by constructor<;>omega)]; simp only [Option.bind_some,Bool.false_eq_true,if_true,if_false,decide_eq_true_eq]
  by_cases hi:0≤i∧i≤r.N - 1
  ·rw [if_pos hi,q1m (by constructor<;>omega)]; simp only [Option.bind_some,Bool.false_eq_true,if_true,if_false,decide_eq_true_eq]
   by_cases hk:0≤k∧k≤r.N - 1
   ·obtain⟨x,hx⟩:∃ x,r.Rows[i.toNat]? = some x:=⟨_,List.getElem?_eq_getElem (by omega)⟩
    have hrow:=hv.row (i:=i) hi hx
    rw [if_pos hk,q1m hi.1,hx,Option.bind_some,q1m hk.1,q1m ⟨hk.1,by omega⟩,q1m ⟨hrow.2.1,Int.natCast_nonneg _⟩]
    exact⟨_,rfl,by simp⟩
   ·rw [if_neg hk]; exact⟨_,rfl,rfl⟩
  ·rw [if_neg hi]; simp only [Option.bind_some,Bool.false_eq_true,if_true,if_false,decide_eq_true_eq]; exact⟨_,rfl,rfl⟩
 ·rw [if_neg hv]; simp only [Option.bind_some,Bool.false_eq_true,if_true,if_false,decide_eq_true_eq]; exact⟨_,rfl,rfl⟩
theorem z6L (n:Nat):∃ x,q1x (n:Int)=some x∧x.Rows.length≤16:=by
 unfold q1x; simp only [q4e,Option.bind_some,decide_eq_true_eq]
 by_cases h:0≤(n:Int)∧(n:Int)≤16
 ·rw [if_pos h,q1m (by refine⟨by omega,by omega,by omega⟩)]; exact⟨_,rfl,by simp; omega⟩
 ·rw [if_neg h]; exact⟨_,rfl,by simp⟩
end Go.Proofs.YtiojgbiimbefiaaGreat
namespace Go.Proofs.YtiojgbiimbefiaaGreat
open Go Go.E
theorem z1U {r:Relation}(h:r.Rows.length≤1048576)(i k:Int):q2z r i k=some (addP r i k):=by
 unfold q2z
 simp only [q7z h,q3K,q4e,Option.bind_some,decide_eq_true_eq]
 by_cases hv:Valid r
 ·have hv1:=hv.1; have hv2:=hv.2.1; have hv3:=hv.2.2.1
  rw [if_pos hv,q1m (by constructor<;>omega)]; simp only [Option.bind_some,Bool.false_eq_true,if_true,if_false,decide_eq_true_eq]
  by_cases hi:0≤i∧i≤r.N - 1
  ·rw [if_pos hi,q1m (by constructor<;>omega)]; simp only [Option.bind_some,Bool.false_eq_true,if_true,if_false,decide_eq_true_eq]
   by_cases hk:0≤k∧k≤r.N - 1
   ·obtain⟨x,hx⟩:∃ x,r.Rows[i.toNat]? = some x:=⟨_,List.getElem?_eq_getElem (by omega)⟩
    have hrow:=hv.row (i:=i) hi hx
    rw [if_pos hk,q1m hi.1,hx,Option.bind_some,q1m hk.1,q1m ⟨hk.1,by omega⟩,q1m ⟨hrow.2.1,Int.natCast_nonneg _⟩]
    have e:addP r i k=z0L r i (orI (q7f r i) ((2 ^ k.toNat:Nat):Int)):=if_pos ⟨hv,hi,hk⟩
    rw [e,hrow.1]; rfl
   ·rw [if_neg hk]
    have e:addP r i k=r:=if_neg fun h=>hk h.2.2
    rw [e]
  ·rw [if_neg hi]; simp only [Option.bind_some,Bool.false_eq_true,if_true,if_false,decide_eq_true_eq]
   have e:addP r i k=r:=if_neg fun h=>hi h.2.1
   rw [e]
 ·rw [if_neg hv]; simp only [Option.bind_some,Bool.false_eq_true,if_true,if_false,decide_eq_true_eq]
  have e:addP r i k=r:=if_neg fun h=>hv h.1
  rw [e]
theorem q8M {n:Int}(h0:0≤n)(h1:n≤16):q1x n=some ⟨n,List.replicate n.toNat 0⟩:=by
 unfold q1x
 rw [q4e,Option.bind_some,if_pos (by simp; omega),q1m (by omega)]
theorem q6Y (r:Relation)(i k:Int):(addP r i k).Rows.length=r.Rows.length∧(addP r i k).N=r.N:=by
 unfold addP
 split
 ·exact⟨by simp [z0L],rfl⟩
 ·exact⟨rfl,rfl⟩
theorem q8N (x k:Int):bit x k↔x.toNat.testBit k.toNat=true:=by
 unfold bit
 rw [Nat.testBit_eq_decide_div_mod_eq,Nat.shiftRight_eq_div_pow]
 simp [Nat.and_one_is_mod]
def z2G (k:Nat)(s:List Int):List Int:=s.map fun x=>if x.toNat.testBit k=true then orI x (s.getD k 0) else x
def q7d (s:List Int):Nat→List Int
 | 0=>s
 | m+1=>z2G m (q7d s m)
def q6I (n:Nat)(s:List Int):Prop:=s.length=n∧∀ x∈s,0≤x∧x.toNat < 2 ^ n
theorem z6M (x y:Int):0≤orI x y:=by unfold orI; omega
theorem z0N (x y:Int):(orI x y).toNat=x.toNat ||| y.toNat:=by unfold orI; omega
theorem z8e {n:Nat}{s:List Int}(h:q6I n s)(k:Nat):0≤s.getD k 0∧(s.getD k 0).toNat < 2 ^ n:=by
 rw [List.getD_eq_getElem?_getD]
 cases hk:s[k]? with
 | none=>simp; exact Nat.two_pow_pos n
 | some x=>exact h.2 x (List.mem_of_getElem? hk)
theorem z5P {n k:Nat}{s:List Int}(h:q6I n s):q6I n (z2G k s):=by
 refine⟨by unfold z2G; rw [List.length_map]; exact h.1,fun x hx=>?_⟩
 unfold z2G at hx
 obtain⟨y,hy,rfl⟩:=List.mem_map.1 hx
 have h1:=h.2 y hy
 split
 ·exact⟨z6M _ _,by rw [z0N]; exact Nat.or_lt_two_pow h1.2 (z8e h k).2⟩
 ·exact h1
theorem q3Z {n:Nat}{s:List Int}(h:q6I n s):∀ m,q6I n (q7d s m)
 | 0=>h
 | m+1=>z5P (q3Z h m)
def Rl (s:List Int)(i j:Nat):Prop:=(s.getD i 0).toNat.testBit j=true
theorem z4W {n k:Nat}{s:List Int}(h:q6I n s){i:Nat}(hi:i < n)(j:Nat):Rl (z2G k s) i j↔Rl s i j∨(Rl s i k∧Rl s k j):=by
 unfold Rl
 have hs:∃ x,s[i]? = some x:=⟨_,List.getElem?_eq_getElem (by rw [h.1]; exact hi)⟩
 obtain⟨x,hx⟩:=hs
 have e1:s.getD i 0=x:=by rw [List.getD_eq_getElem?_getD,hx]; rfl
 have e2:(z2G k s).getD i 0=if x.toNat.testBit k=true then orI x (s.getD k 0) else x:=by
  unfold z2G
  rw [List.getD_eq_getElem?_getD,List.getElem?_map,hx]; rfl
 rw [e1,e2]
 by_cases hb:x.toNat.testBit k=true
 ·rw [if_pos hb,z0N,Nat.testBit_or,Bool.or_eq_true]; simp [hb]
 ·rw [if_neg hb]; simp [hb]
theorem j2n {n:Nat}{s:List Int}(h:q6I n s){i j:Nat}(hR:Rl s i j):j < n:=by
 unfold Rl at hR
 have h1:=(z8e h i).2
 apply Decidable.byContradiction
 intro hj
 have:(s.getD i 0).toNat.testBit j=false:=Nat.testBit_lt_two_pow (Nat.lt_of_lt_of_le h1 (Nat.pow_le_pow_right (by omega) (by omega)))
 rw [this] at hR; cases hR
theorem z8f {n:Nat}{s:List Int}(h:q6I n s){i j:Nat}(hR:Rl s i j):i < n:=by
 unfold Rl at hR
 apply Decidable.byContradiction
 intro hi
 have:s.getD i 0=0:=by rw [List.getD_eq_getElem?_getD,List.getElem?_eq_none (by rw [h.1]; omega)]; rfl
 rw [this] at hR; simp at hR
theorem z8g {n:Nat}{s:List Int}(h:q6I n s):∀ (m i j:Nat),Rl s i j→Rl (q7d s m) i j
 | 0,_,_,hR=>hR
 | m+1,i,j,hR=>by
  have hR':=z8g h m i j hR
  exact (z4W (q3Z h m) (z8f (q3Z h m) hR') j).2 (.inl hR')
theorem z5Q {n k:Nat}{s:List Int}(h:q6I n s)(hk:k < n)(hn:n≤16):eachN (q3y k) 0 n s=some (z2G k s):=by
 have hkk:∃ y,s[k]? = some y:=⟨_,List.getElem?_eq_getElem (by rw [h.1]; exact hk)⟩
 obtain⟨y,hy⟩:=hkk
 have ey:s.getD k 0=y:=by rw [List.getD_eq_getElem?_getD,hy]; rfl
 let f:Int→Int:=fun x=>if x.toNat.testBit k=true then orI x y else x
 have hf:f y=y:=by
  show (if y.toNat.testBit k=true then orI y y else y)=y
  have:=(h.2 y (List.mem_of_getElem? hy)).1
  split
  ·unfold orI; rw [Nat.or_self]; omega
  ·rfl
 obtain⟨s',h1,h2⟩:=q8J (P:=fun m t=>t=(s.take m).map f++s.drop m) (f:=q3y k) (n:=n) (i:=0) (s:=s) (by simp) (fun m t _ hm ht=>by
  subst ht
  have hms:m < s.length:=by rw [h.1]; omega
  obtain⟨x,hx⟩:∃ x,s[m]? = some x:=⟨_,List.getElem?_eq_getElem hms⟩
  have hx0:=h.2 x (List.mem_of_getElem? hx)
  have hy0:=h.2 y (List.mem_of_getElem? hy)
  have g1:((s.take m).map f++s.drop m)[m]? = some x:=by
   rw [List.getElem?_append_right (by simp; omega)]
   simp only [List.length_map,List.length_take]
   rw [show m - min m s.length=0 by omega,List.getElem?_drop,Nat.add_zero,hx]
  have g2:((s.take m).map f++s.drop m)[k]? = some y:=by
   by_cases hkm:k < m
   ·rw [List.getElem?_append_left (by simp; omega),List.getElem?_map,List.getElem?_take,if_pos hkm,hy]
    show some (f y)=_
    rw [hf]
   ·rw [List.getElem?_append_right (by simp; omega)]
    simp only [List.length_map,List.length_take]
    rw [List.getElem?_drop,show m+(k - min m s.length)=k by omega,hy]
  have hset:(((s.take m).map f++s.drop m).set m (f x))=(s.take (m+1)).map f++s.drop (m+1):=by
   rw [List.set_append_right _ _ (by simp; omega)]
   simp only [List.length_map,List.length_take]
   rw [show m - min m s.length=0 by omega,List.take_add_one,hx,List.map_append,List.append_assoc]
   congr 1
   rw [List.drop_eq_getElem_cons hms]; rfl
  have hno:f x=x→((s.take m).map f++s.drop m)=(s.take (m+1)).map f++s.drop (m+1):=fun e=>by
   rw [← hset,e]
   apply List.ext_getElem?
   intro q
   rw [List.getElem?_set]
   by_cases hq:m=q
   ·subst hq
    rw [if_pos rfl,g1]
    split
    ·rfl
    ·rename_i hl; exact absurd (by simp; omega) hl
   ·rw [if_neg hq]
  refine⟨_,?_,rfl⟩
  unfold q3y
  rw [g1,Option.bind_some,q1m (by refine⟨hx0.1,by omega,by omega⟩),q1m ⟨Int.natCast_nonneg _,by decide⟩]
  by_cases hb:bit x (k:Int)
  ·have hb':=(q8N x k).1 hb
   rw [Int.toNat_natCast] at hb'
   rw [if_pos (j0k hb),g2,Option.bind_some,q1m ⟨hx0.1,hy0.1⟩,Option.bind_some,← hset]
   show some (List.set _ m (orI x y))=some (List.set _ m (f x))
   have:f x=orI x y:=if_pos hb'
   rw [this]
  ·have hb' : ¬ x.toNat.testBit k=true:=fun h=>hb ((q8N x k).2 (by rw [Int.toNat_natCast]; exact h))
   rw [if_neg (fun h=>hb (j0j h)),Option.bind_some,← hno (if_neg hb')])
 rw [h1]
 subst h2
 unfold z2G
 rw [Nat.zero_add,List.take_of_length_le (by rw [h.1]; exact Nat.le_refl _),List.drop_eq_nil_of_le (by rw [h.1]; exact Nat.le_refl _),List.append_nil,ey]
theorem q6l {r:Relation}(h:Valid r):q6I r.N.toNat r.Rows∧r.N.toNat≤16:=by
 obtain⟨h0,h1,h2,h3⟩:=h
 have:=z5N r.N
 exact⟨⟨by omega,fun x hx=>⟨(h3 x hx).1,by have:=(h3 x hx).2; omega⟩⟩,by omega⟩
def q4v (r:Relation):Relation:=if Valid r then ⟨r.N,q7d r.Rows r.N.toNat⟩ else r
theorem j1d:q6E=q3y:=rfl
theorem z8h {r:Relation}(h:r.Rows.length≤1048576):q3P r=some (q4v r):=by
 unfold q3P q4v
 rw [q7z h,Option.bind_some,q3K,Option.bind_some]
 by_cases hv:Valid r
 ·rw [if_pos (by simpa using hv),if_pos hv]
  obtain⟨hok,hn⟩:=q6l hv
  obtain⟨t,h1,h2⟩:=q8J (P:=fun m t=>t=q7d r.Rows m) (f:=q5g r) (n:=r.N.toNat) (i:=0) (s:=r.Rows) rfl (fun k s _ hk hs=>by
   subst hs
   refine⟨_,?_,rfl⟩
   unfold q5g
   rw [z5Q (q3Z hok k) (by omega) hn]; rfl)
  rw [h1,Option.bind_some,h2,Nat.zero_add]
 ·rw [if_neg (by simpa using hv),if_neg hv]
theorem z8i {r:Relation}(h:r.Rows.length≤1048576):q3O r=some (q4v r):=by
 unfold q3O q4v
 rw [z3S,q7z h,Option.bind_some,q8k,Option.bind_some]
 by_cases hv:Valid r
 ·rw [if_pos (by simpa using hv),if_pos hv]
  obtain⟨hok,hn⟩:=q6l hv
  obtain⟨t,h1,h2⟩:=q8J (P:=fun m t=>t=q7d r.Rows m) (f:=q5e) (n:=r.Rows.length) (i:=0) (s:=r.Rows) rfl (fun k s _ hk hs=>by
   subst hs
   refine⟨_,?_,rfl⟩
   unfold q5e
   have hl:=(q3Z hok k).1
   rw [hl,j1d,z5Q (q3Z hok k) (by rw [hok.1] at hk; omega) hn]; rfl)
  rw [h1,Option.bind_some,h2,Nat.zero_add,hok.1]
 ·rw [if_neg (by simpa using hv),if_neg hv]
theorem q7L (r:Relation):(q4v r).Rows.length=r.Rows.length∧(q4v r).N=r.N:=by
 unfold q4v
 by_cases hv:Valid r
 ·rw [if_pos hv]
  obtain⟨hok,_⟩:=q6l hv
  exact⟨by show (q7d r.Rows r.N.toNat).length=_; rw [(q3Z hok _).1,hok.1],rfl⟩
 ·rw [if_neg hv]; exact⟨rfl,rfl⟩
theorem q7A {r:Relation}(h:Valid r):Valid (q4v r):=by
 obtain⟨hok,hn⟩:=q6l h
 obtain⟨k1,k2⟩:=q3Z hok r.N.toNat
 obtain⟨h0,h1,h2,h3⟩:=h
 unfold q4v
 rw [if_pos ⟨h0,h1,h2,h3⟩]
 refine⟨h0,h1,by show ((q7d r.Rows r.N.toNat).length:Int)=r.N; omega,fun x hx=>?_⟩
 have:=k2 x hx
 have:=z5N r.N
 exact⟨(k2 x hx).1,by show x≤((2 ^ r.N.toNat:Nat):Int) - 1; omega⟩
theorem z8j {r:Relation}(h:Valid r)(i j:Nat):hasP r (i:Int) (j:Int)↔Rl r.Rows i j:=by
 obtain⟨hok,hn⟩:=q6l h
 unfold hasP
 have h0:=h.1
 constructor
 ·rintro⟨_,_,_,hb⟩
  have:=(q8N _ _).1 hb
  simpa [Rl,q7f] using this
 ·intro hR
  have hi:=z8f hok hR
  have hj:=j2n hok hR
  refine⟨h,⟨by omega,by omega⟩,⟨by omega,by omega⟩,(q8N _ _).2 ?_⟩
  simpa [Rl,q7f] using hR
theorem z8k (l:List Int):∀ (f:Nat→Int→Unit→Option (Unit ⊕ Bool)),(∀ k x,f k x ()=(l[k]?).bind fun x2=>if x=x2 then some (.inl ()) else some (.inr false))→findL f 0 l ()=some (.inl ()):=by
 intro f hf
 have key:∀ (m k:Nat),k+m=l.length→findL f k (l.drop k) ()=some (.inl ()):=by
  intro m
  induction m with
  | zero=>intro k hk; rw [List.drop_eq_nil_of_le (by omega)]; rfl
  | succ m ih=>
   intro k hk
   rw [List.drop_eq_getElem_cons (by omega)]
   simp only [findL,hf,List.getElem?_eq_getElem (show k < l.length by omega),Option.bind_some,if_true]
   exact ih (k+1) (by omega)
 have:=key l.length 0 (by omega)
 rwa [List.drop_zero] at this
theorem q6Z (r:Relation):q2I r r=some true:=by
 unfold q2I q8H
 rw [if_pos rfl,if_pos rfl,z8k r.Rows _ (fun k x=>rfl)]; rfl
end Go.Proofs.YtiojgbiimbefiaaGreat
namespace Go.Proofs.YtiojgbiimbefiaaGreat
open Go Go.E
theorem z3T {o:l1Cur}(h:z0K o):∃ r z,q6C o=some (r,z)∧r.Rows.length≤17∧-1≤r.N∧r.N≤17∧z0K z∧z.b=o.b:=by
 obtain⟨n,z1,h1,h2,h3,h3'⟩:=q7x h (l:=[0,1,2,3,4,5,8,16]) (by simp)
 have hn:0≤n∧n≤16:=by simp at h2; omega
 obtain⟨y3,z2,a1,a2,a3,_,a4,_⟩:=q5I (o:=⟨o.b,z1.i,z1.h⟩) ⟨h3.1,h.2⟩ (2*n+1)
 have hloop:=q8J (P:=fun _ (s:Int × Int × List Int × Int)=>s.2.2.1.length=n.toNat∧0≤s.1∧s.2.2.2=n) (f:=q7Y o n) (n:=y3.toNat) (i:=0) (s:=(z2.i,z2.h,List.replicate n.toNat 0,n)) ⟨by simp,a4.1,rfl⟩ (fun k s _ _ hs=>by
  obtain⟨s2,s3,s1,s4⟩:=s
  obtain⟨p1,p2,p3⟩:=hs
  dsimp only at p1 p2 p3
  subst p3
  obtain⟨y4,z4,b1,b2,b3,_,b4,_⟩:=q5I (o:=⟨o.b,s2,s3⟩) ⟨p2,h.2⟩ s4
  obtain⟨y5,z5,c1,c2,c3,_,c4,_⟩:=q5I (o:=⟨o.b,z4.i,z4.h⟩) ⟨b4.1,h.2⟩ s4
  have hl:=q6Y ⟨s4,s1⟩ y4 y5
  refine⟨(z5.i,z5.h,(addP ⟨s4,s1⟩ y4 y5).Rows,(addP ⟨s4,s1⟩ y4 y5).N),?_,hl.1.trans p1,c4.1,hl.2⟩
  unfold q7Y
  dsimp only
  rw [b1,Option.bind_some]
  dsimp only
  rw [c1,Option.bind_some]
  dsimp only
  rw [z1U (by show s1.length≤_; omega),Option.bind_some])
 obtain⟨⟨s2,s3,s1,s4⟩,e1,p1,p2,p3⟩:=hloop
 dsimp only at p1 p2 p3
 subst p3
 obtain⟨y7,z6,d1,d2,d3,_,d4,_⟩:=q5I (o:=⟨o.b,s2,s3⟩) ⟨p2,h.2⟩ 16
 unfold q6C
 rw [h1,Option.bind_some]
 dsimp only
 rw [q8M hn.1 hn.2,Option.bind_some,q1m (by constructor<;>omega),q1m (by constructor<;>omega),a1,Option.bind_some]
 dsimp only
 rw [e1,Option.bind_some]
 dsimp only
 rw [d1,Option.bind_some]
 dsimp only
 by_cases g0:y7=0
 ·rw [if_pos g0,q1m (by constructor<;>omega)]
  exact⟨_,_,rfl,by show s1.length≤17; omega,by show -1≤s4+1; omega,by show s4+1≤17; omega,⟨d4.1,h.2⟩,rfl⟩
 ·rw [if_neg g0]
  by_cases g1:y7=1
  ·rw [if_pos g1,q1m (by constructor<;>omega)]
   exact⟨_,_,rfl,by show (s1++[0]).length≤17; simp; omega,by show -1≤s4; omega,by show s4≤17; omega,⟨d4.1,h.2⟩,rfl⟩
  ·rw [if_neg g1]
   by_cases g2:y7=2
   ·rw [if_pos g2]
    by_cases g3:0 < s4
    ·obtain⟨y8,z7,f1,f2,f3,_⟩:=q7x (o:=⟨o.b,z6.i,z6.h⟩) ⟨d4.1,h.2⟩ (l:=[-1,65536,1099511627776]) (by simp)
     obtain⟨x,hx⟩:∃ x,s1[0]? = some x:=⟨_,List.getElem?_eq_getElem (by omega)⟩
     rw [if_pos g3,f1,Option.bind_some]
     dsimp only
     rw [hx,Option.bind_some]
     exact⟨_,_,rfl,by show (List.set s1 0 y8).length≤17; simp; omega,by show -1≤s4; omega,by show s4≤17; omega,⟨f3.1,h.2⟩,rfl⟩
    ·rw [if_neg g3]
     exact⟨_,_,rfl,by show s1.length≤17; omega,by show -1≤s4; omega,by show s4≤17; omega,⟨d4.1,h.2⟩,rfl⟩
   ·rw [if_neg g2]
    exact⟨_,_,rfl,by show s1.length≤17; omega,by show -1≤s4; omega,by show s4≤17; omega,⟨d4.1,h.2⟩,rfl⟩
theorem z6N (e:Expr):∀ m,fuE e≤m→cntE e≤1099511627776→q2N m e=some (depE e:Int):=by
 induction e using q9Q with
 | h e ih=>
  intro m hm hc
  obtain⟨m,rfl⟩:∃ q,m=q+1:=⟨m - 1,by have:=z3L e; omega⟩
  show q4i (q2N m) e=_
  unfold q4i
  have hx:∀ x∈e.Args,q2N m x=some (depE x:Int):=fun x hx=>ih x hx m (by have:=z1N hx; omega) (by have:=z7Q hx; omega)
  have k2:=z3O (f:=q2N m) (g:=q5Q (q2N m)) (fun k x s=>by
   unfold q5Q
   congr 1; funext y
   rw [z7R,Option.bind_some]) e.Args 0 0 fun x h=>hx x h
  rw [show ((0:Nat):Int)=0 from rfl] at k2
  have hd:=z7P e
  rw [z7O] at hd
  rw [k2]
  have hg:I64 (((max 0 (z1i e.Args):Nat):Int)+1):=by constructor<;>omega
  have he:((max 0 (z1i e.Args):Nat):Int)+1=(depE e:Int):=by rw [z7O]; omega
  rw [Option.bind_some,q1m hg,he]
theorem z8l {e:Expr}(h:cntE e≤1099511627776):q6o e=some (depE e:Int):=q7Q (fuE e) fun m hm=>z6N e m hm h
theorem z0O {e:Expr}(h:cntE e≤1099511627776):q3m e=some (z7U e):=by
 unfold q3m z7U
 rw [z9l (by omega) (by omega) h,Option.bind_some,z8l h,j1a]
 unfold q9K
 by_cases h1:cntE e≤24
 ·have h24:((cntE e:Nat):Int)≤24:=by omega
  rw [if_pos h24,if_pos (by omega:(0:Int)≤24 - ((cntE e:Nat):Int)),Option.bind_some,Option.bind_some]
  by_cases h2:depE e≤6
  ·rw [if_pos (by simp; omega),Option.bind_some]; simp [h1,h2]
  ·rw [if_neg (by simp; omega)]; simp [h1,h2]
 ·have h24:¬ ((cntE e:Nat):Int)≤24:=by omega
  rw [if_neg h24,if_neg (by omega:¬ (0:Int)≤-1)]; simp [h1]
section
variable {b:List UInt8}{o:l1Cur}(hb:b.length≤1048576)
include hb
theorem z8m (h:CB b o):Dr b (fun e=>Sz.szd e≤20480) (q6y o):=by
 unfold q6y
 refine (q1C hb 5 h).bind ?_
 rintro⟨y1,z1⟩ ⟨⟨a1,a2,_⟩,h1⟩
 have:=a2 (by omega)
 dsimp only at a1 this
 refine .grd (by constructor<;>omega) ?_
 refine (z8b hb 5 (a:=1+y1) (by omega) (by omega) (by omega) (h.mk' h1)).bind ?_
 rintro⟨e,z2⟩ ⟨s2,h2⟩
 have s2' : Sz.szd e≤20480:=s2
 dsimp only
 rw [z0O (by have:=z8c hb s2'; omega)]
 refine Ok.bind (Q:=fun _=>True) (.ret trivial) fun y3 _=>.ite (fun _=>.ret ⟨s2',h.mk' h2⟩) fun _=>.ret ⟨?_,h.mk' h2⟩
 exact Nat.zero_le _
theorem j1e (h:CB b o):Dr b (fun e=>Sz.szd e≤30000) (q7r o):=by
 unfold q7r
 refine (z8m hb h).bind ?_
 rintro⟨e,z1⟩ ⟨s1,h1⟩
 have s1' : Sz.szd e≤20480:=s1
 have s2:=q3i e
 refine (q1C hb 14 (h.mk' h1)).bind ?_
 rintro⟨y2,z2⟩ ⟨_,h2⟩
 dsimp only
 refine .ite (fun _=>?_) fun _=>.ite (fun _=>?_) fun _=>.ite (fun _=>?_) fun _=>.ite (fun _=>?_) fun _=>.ite (fun _=>?_) fun _=>.ite (fun _=>?_) fun _=>?_
 ·refine (q1C hb 11 (h.mk' h2)).bind ?_
  rintro⟨y3,z3⟩ ⟨_,h3⟩
  refine .ret ⟨?_,h.mk' h3⟩
  dsimp only; rw [q3i]; dsimp only; omega
 ·have hl:=q4U e.Args
  refine .grd (by constructor<;>omega) (.ret ⟨?_,h.mk' h2⟩)
  dsimp only; rw [q3i]; dsimp only; rw [q8R]
  have:szL [(⟨7,0,0,0,(⟨#[]⟩:ByteArray),(⟨#[]⟩:ByteArray),[]⟩:Expr)]=1:=rfl
  omega
 ·refine (q4d hb (by simp) (h.mk' h2)).bind ?_
  rintro⟨y3,z3⟩ ⟨_,h3⟩
  refine .ret ⟨?_,h.mk' h3⟩
  dsimp only; rw [q3i]; dsimp only; omega
 ·refine (q4d hb (by simp) (h.mk' h2)).bind ?_
  rintro⟨y3,z3⟩ ⟨_,h3⟩
  refine .ret ⟨?_,h.mk' h3⟩
  dsimp only; rw [q3i]; dsimp only; omega
 ·refine (q6d hb (by simp) (h.mk' h2)).bind ?_
  rintro⟨y3,z3⟩ ⟨h30,h3⟩
  have:y3.size≤2:=by
   simp only [List.mem_cons,List.not_mem_nil,or_false] at h30
   rcases h30 with h30 | h30 | h30<;>rw [h30]<;>decide
  refine .ret ⟨?_,h.mk' h3⟩
  dsimp only; rw [q3i]; dsimp only; omega
 ·have hL:Ok (fun q=>Sz.szd (⟨q.2.1,q.2.2.1,q.2.2.2.1,q.2.2.2.2.1,q.2.2.2.2.2.1,q.2.2.2.2.2.2,q.1⟩:Expr)≤20480+5*2) (eachN q9a 0 5 (e.Args,e.Kind,e.N,e.Pos,e.Type_,e.Symbol,e.Name)):=by
   refine (z2E (P:=fun k q=>Sz.szd (⟨q.2.1,q.2.2.1,q.2.2.2.1,q.2.2.2.2.1,q.2.2.2.2.2.1,q.2.2.2.2.2.2,q.1⟩:Expr)≤20480+k*2) (by dsimp only; rw [q3i]; dsimp only; omega) fun k q _ _ hq=>?_).mono fun q hq=>by simpa using hq
   obtain⟨q1,q2,q3,q4,q5,q6,q7⟩:=q
   dsimp only at hq
   refine .ret ?_
   dsimp only
   rw [z7Z hb,z1R hb,q5D hb]; omega
  refine hL.bind ?_
  rintro⟨q1,q2,q3,q4,q5,q6,q7⟩ hq
  refine .ret ⟨?_,h.mk' h2⟩
  dsimp only at hq ⊢; omega
 ·exact .ret ⟨by dsimp only; omega,h.mk' h2⟩
end
end Go.Proofs.YtiojgbiimbefiaaGreat
namespace Go.Proofs.YtiojgbiimbefiaaGreat
open Go Go.E
theorem q5J {α ρ:Type}{p:α→Bool}{r:α→ρ}:∀ {xs:List α} {i:Nat} {f:Nat→α→Unit→Option (Unit ⊕ ρ)},(∀ k x,x∈xs→(p x=true→f k x ()=some (.inr (r x)))∧(p x=false→f k x ()=some (.inl ()))) →
  findL f i xs ()=some (match xs.find? p with | some x=>.inr (r x) | none=>.inl ())
 | [],_,_,_=>rfl
 | x :: xs,i,f,h=>by
  have h0:=h i x (by simp)
  cases hp:p x with
  | true=>simp [findL,h0.1 hp,List.find?,hp]
  | false=>
   have ih:=q5J (p:=p) (r:=r) (xs:=xs) (i:=i+1) (f:=f) fun k y hy=>h k y (by simp [hy])
   simp [findL,h0.2 hp,List.find?,hp,ih]
theorem q4w {α β:Type}{p:α→Bool}{g:Nat→α→β}{B:Nat}{f:Nat→α→List β→Option (List β)}(hf:∀ k x s,s.length < B→f k x s=some (if p x=true then s++[g k x] else s)):∀ (xs:List α) (i:Nat) (s:List β),s.length+xs.length≤B →
  ∃ ys,eachL f i xs s=some (s++ys)∧ys.length≤xs.length
 | [],i,s,_=>⟨[],by simp [eachL],by simp⟩
 | x :: xs,i,s,h=>by
  simp only [List.length_cons] at h
  by_cases hp:p x=true
  ·obtain⟨ys,h1,h2⟩:=q4w hf xs (i+1) (s++[g i x]) (by simp; omega)
   exact⟨g i x :: ys,by simp [eachL,hf i x s (by omega),hp,h1],by simp; omega⟩
  ·obtain⟨ys,h1,h2⟩:=q4w hf xs (i+1) s (by omega)
   exact⟨ys,by simp [eachL,hf i x s (by omega),hp,h1],by simp; omega⟩
theorem z8n (x lo hi:Int):q2F x lo hi=some (decide (lo≤x∧x≤hi)):=by
 unfold q2F; split<;>simp_all<;>omega
theorem j1Y (x lo hi:Int):q3e x lo hi=some (decide (lo≤x∧x≤hi)):=by
 unfold q3e; split<;>simp_all<;>omega
theorem q9l (r:Rule)(k:Int):q3Y r k=q2G r k:=by
 unfold q3Y q2G; rw [z8n,j1Y]
def q9m (a:Attribute):Bool:=decide (a.Mode=1∨a.Mode=2)
theorem z1V:q5X=q2g:=rfl
theorem q7P:q1P=q2h:=rfl
theorem z8o {g:Grammar}(h:∀ y∈g.Symbols,y.Attributes.length≤1048576)(s:ByteArray):∃ y b,q2B g s=some (y,b)∧q3H g s=some (y,b)∧y.Attributes.length≤1048576:=by
 have h1:=q5J (p:=fun y:Symbol=>decide (y.Name=s)) (r:=fun y=>(y,true)) (xs:=g.Symbols) (i:=0) (f:=q4h s) fun k y hy=>by
  have hg:q3X y=some y:=by
   unfold q3X; have:=h y hy; rw [q1m (by simp only [List.length_nil]; constructor<;>omega)]
  unfold q4h; rw [hg]; constructor<;>intro hp<;>simp_all
 have h2:=q5J (p:=fun y:Symbol=>decide (y.Name=s)) (r:=fun y=>(y,true)) (xs:=g.Symbols) (i:=0) (f:=q4j s) fun k y hy=>by
  unfold q4j; constructor<;>intro hp<;>simp_all
 unfold q2B q3H
 rw [h1,h2]
 cases hf:g.Symbols.find? (fun y:Symbol=>decide (y.Name=s)) with
 | none=>exact⟨_,_,rfl,rfl,by simp⟩
 | some y=>exact⟨_,_,rfl,rfl,h y (List.mem_of_find?_eq_some hf)⟩
theorem q6J {g:Grammar}(h:∀ y∈g.Symbols,y.Attributes.length≤1048576)(s:ByteArray):∃ l,q1X g s=some l∧q1H g s=some l∧l.length≤1048576:=by
 obtain⟨y,b,h1,h2,h3⟩:=z8o h s
 obtain⟨l,h4,h5⟩:=q4w (p:=q9m) (g:=fun _ x=>x) (B:=1048577) (f:=q2g) (fun k x s hs=>by
  have hg:((s.length:Int)+1)*40≤140737488355328∧(s.length:Int)+1≤9223372036854775807:=by constructor<;>omega
  unfold q2g q9m
  rw [q1m hg]
  by_cases m1:x.Mode=1
  ·rw [if_pos m1,if_pos (by simp [m1])]; rfl
  ·rw [if_neg m1]
   by_cases m2:x.Mode=2
   ·rw [if_pos m2,if_pos (by simp [m2])]; rfl
   ·rw [if_neg m2,if_neg (by simp [m1,m2])]; rfl) y.Attributes 0 [] (by simp; omega)
 simp only [List.nil_append] at h4
 refine⟨l,?_,?_,by omega⟩
 ·unfold q1X; rw [h1]; dsimp only [Option.bind_some]; rw [h4]; rfl
 ·unfold q1H; rw [h2]; dsimp only [Option.bind_some]; rw [z1V,h4]; rfl
theorem z1W (r:Rule)(k:Nat)(hk:k≤r.Right.length)(hl:r.Right.length≤1048576):∃ x,q2G r (k:Int)=some x:=by
 unfold q2G
 by_cases h0:(k:Int)=0
 ·exact⟨_,if_pos h0⟩
 ·rw [if_neg h0,z8n,Option.bind_some,if_pos (by simp; omega),q1m (by constructor<;>omega),q1m (by omega)]
  obtain⟨x,hx⟩:∃ x,r.Right[((k:Int) - 1).toNat]? = some x:=⟨_,List.getElem?_eq_getElem (by omega)⟩
  exact⟨x,by rw [hx]; rfl⟩
theorem z8p (k:Nat)(B:Nat)(hB:B≤4398046511104):∀ (l:List Attribute) (i:Nat) (s:List Occurrence),s.length+l.length≤B→∃ ys,eachL (q2k k) i l s=some (s++ys)∧ys.length≤l.length:=fun l i s h=>
 q4w (p:=fun _=>true) (g:=fun _ x=>(⟨(k:Int),x.Name⟩:Occurrence)) (B:=B) (f:=q2k k) (fun j x s hs=>by
  have hg:((s.length:Int)+1)*24≤140737488355328∧(s.length:Int)+1≤9223372036854775807:=by constructor<;>omega
  unfold q2k
  rw [q1m hg,if_pos rfl]) l i s h
theorem z5R (k:Nat):q6F (k:Int)=q2k k:=rfl
theorem q9T {g:Grammar}{r:Rule}(h:∀ y∈g.Symbols,y.Attributes.length≤1048576)(hr:r.Right.length≤1048576):∃ l,q2f g r=some l∧q1Q g r=some l∧l.length≤1099512676352:=by
 have key:∀ m k (s:List Occurrence),k+m=r.Right.length+1→s.length≤k*1048576→∃ l,eachN (q1B g r) k m s=some l∧q3j (q1V g r) (s,(k:Int))=some l∧l.length≤(k+m)*1048576:=by
  intro m
  induction m with
  | zero=>
   intro k s hk hs
   refine⟨s,rfl,q2s ?_,by simpa using hs⟩
   unfold q1V; dsimp only; rw [if_neg (by omega)]
  | succ m ih=>
   intro k s hk hs
   obtain⟨x,hx⟩:=z1W r k (by omega) hr
   obtain⟨p,hp1,hp2,hp3⟩:=q6J h x
   obtain⟨ys,hy1,hy2⟩:=z8p k 4398046511104 (by omega) p 0 s (by omega)
   obtain⟨l,h1,h2,h3⟩:=ih (k+1) (s++ys) (by omega) (by simp; omega)
   refine⟨l,?_,?_,by rw [show k+(m+1)=k+1+m by omega]; exact h3⟩
   ·have e:q1B g r k s=some (s++ys):=by
     unfold q1B; rw [q9l,hx,Option.bind_some,hp2,Option.bind_some,hy1]; rfl
    simp only [eachN,e,Option.bind_some]; exact h1
   ·have e:q1V g r (s,(k:Int))=some (.inl (s++ys,((k+1:Nat):Int))):=by
     unfold q1V; dsimp only
     rw [if_pos (by omega),hx,Option.bind_some,hp1,Option.bind_some,z5R,hy1,Option.bind_some,q1m (by constructor<;>omega)]; rfl
    rw [q3p e]; exact h2
 obtain⟨l,h1,h2,h3⟩:=key (r.Right.length+1) 0 [] (by omega) (by simp)
 refine⟨l,?_,?_,by omega⟩
 ·unfold q2f
  have e:q3j (q1V g r) (([]:List Occurrence),0)=some l:=h2
  rw [e]; rfl
 ·unfold q1Q
  rw [q1m (by constructor<;>omega),h1]; rfl
theorem z9B {g:Grammar}{r:Rule}(k:Int)(h:∀ y∈g.Symbols,y.Attributes.length≤1048576)(hr:r.Right.length≤1048576):∃ l,q2r g r k=some l∧q1M g r k=some l∧l.length≤1099512676352:=by
 obtain⟨o,h1,h2,h3⟩:=q9T h hr
 obtain⟨l,h4,h5⟩:=q4w (p:=fun x:Occurrence=>decide (x.Pos=k)) (g:=fun i _=>((i:Nat):Int)) (B:=4398046511104) (f:=q2h k) (fun i x s hs=>by
  have hg:((s.length:Int)+1)*8≤140737488355328∧(s.length:Int)+1≤9223372036854775807:=by constructor<;>omega
  unfold q2h
  rw [q1m hg]
  by_cases m1:x.Pos=k
  ·rw [if_pos m1,if_pos (by simp [m1])]; rfl
  ·rw [if_neg m1,if_neg (by simp [m1])]; rfl) o 0 [] (by simp; omega)
 simp only [List.nil_append] at h4
 refine⟨l,?_,?_,by omega⟩
 ·unfold q2r; rw [h1]; dsimp only [Option.bind_some]; rw [h4]; rfl
 ·unfold q1M; rw [h2]; dsimp only [Option.bind_some]; rw [q7P,h4]; rfl
theorem z2H {α:Type}[Sz α]{x:α}:∀ {l:List α},x∈l→Sz.szd x≤szL l
 | [],h=>by simp at h
 | y :: l,h=>by
  rcases List.mem_cons.1 h with rfl | h
  ·simp only [szL]; omega
  ·have:=z2H h; simp only [szL]; omega
theorem z0P {g:Grammar}(h:Sz.szd g≤1048576):∀ y∈g.Symbols,y.Attributes.length≤1048576:=fun y hy=>by
 have h1:=z2H hy
 have h2:=z1K y
 have h3:=z0I g
 have h4:=q4U y.Attributes
 omega
theorem q9U {r:Rule}(h:Sz.szd r≤1048576):r.Right.length≤1048576:=by
 have h1:=z2z r
 have h2:=q4U r.Right
 omega
end Go.Proofs.YtiojgbiimbefiaaGreat
namespace Go.Proofs.YtiojgbiimbefiaaGreat
open Go Go.E
theorem q9C {α σ:Type}{f:Nat→α→σ→Option σ}:∀ (xs ys:List α) (i:Nat) (s:σ),eachL f i (xs++ys) s=(eachL f i xs s).bind fun t=>eachL f (i+xs.length) ys t
 | [],ys,i,s=>rfl
 | x :: xs,ys,i,s=>by
  simp only [List.cons_append,eachL]
  cases f i x s with
  | none=>rfl
  | some t=>simp only [Option.bind_some]; rw [q9C xs ys (i+1) t,List.length_cons,show i+1+xs.length=i+(xs.length+1) by omega]
theorem q7B (k:Nat):∀ (l:List Attribute) (i:Nat) (s:List Occurrence),s.length+l.length≤4398046511104→eachL (q2k k) i l s=some (s++l.map fun x=>(⟨(k:Int),x.Name⟩:Occurrence))
 | [],i,s,_=>by simp [eachL]
 | x :: l,i,s,h=>by
  simp only [List.length_cons] at h
  have hg:((s.length:Int)+1)*24≤140737488355328∧(s.length:Int)+1≤9223372036854775807:=by constructor<;>omega
  have e:q2k k i x s=some (s++[(⟨(k:Int),x.Name⟩:Occurrence)]):=by unfold q2k; rw [q1m hg]
  simp only [eachL,e,Option.bind_some]
  rw [q7B k l (i+1) _ (by simp; omega)]; simp
theorem j1f {g:Grammar}{r:Rule}(h:∀ y∈g.Symbols,y.Attributes.length≤1048576)(hr:r.Right.length≤1048576){l:List Attribute}{o:List Occurrence}(hl:q1H g r.Left=some l)(ho:q1Q g r=some o) :
  ∃ ys,o=(l.map fun x=>(⟨0,x.Name⟩:Occurrence))++ys:=by
 have key:∀ m k (s:List Occurrence),k+m=r.Right.length+1→s.length≤k*1048576→∀ q,eachN (q1B g r) k m s=some q→∃ ys,q=s++ys:=by
  intro m
  induction m with
  | zero=>intro k s _ _ q hq; cases hq; exact⟨[],by simp⟩
  | succ m ih=>
   intro k s hk hs q hq
   obtain⟨x,hx⟩:=z1W r k (by omega) hr
   obtain⟨p,hp1,hp2,hp3⟩:=q6J h x
   have hy:=q7B k p 0 s (by omega)
   have e:q1B g r k s=some (s++p.map fun x=>(⟨(k:Int),x.Name⟩:Occurrence)):=by
    unfold q1B; rw [q9l,hx,Option.bind_some,hp2,Option.bind_some,hy]; rfl
   simp only [eachN,e,Option.bind_some] at hq
   obtain⟨ys,hys⟩:=ih (k+1) _ (by omega) (by simp; omega) q hq
   exact⟨_,by rw [hys,List.append_assoc]⟩
 unfold q1Q at ho
 rw [q1m (by constructor<;>omega)] at ho
 have e1:eachN (q1B g r) 0 (r.Right.length+1) []=some o:=by
  cases hq:eachN (q1B g r) 0 (r.Right.length+1) [] with
  | none=>rw [hq] at ho; cases ho
  | some q=>rw [hq] at ho; exact ho
 have hl3:l.length≤1048576:=by
  obtain⟨p,_,h2,h3⟩:=q6J h r.Left
  rw [hl] at h2; cases h2; exact h3
 have hx:q3Y r ((0:Nat):Int)=some r.Left:=by unfold q3Y; exact if_pos rfl
 have e:q1B g r 0 []=some ([]++l.map fun x=>(⟨((0:Nat):Int),x.Name⟩:Occurrence)):=by
  unfold q1B; rw [hx,Option.bind_some,hl,Option.bind_some,q7B 0 l 0 [] (by simp; omega)]; rfl
 simp only [eachN,e,Option.bind_some] at e1
 obtain⟨ys,hys⟩:=key r.Right.length 1 _ (by omega) (by simp; omega) o e1
 exact⟨ys,by simpa using hys⟩
theorem z8q:∀ (xs:List Occurrence) (i:Nat) (s:List Int),s.length+xs.length≤4398046511104→(∀ x∈xs,x.Pos=0)→eachL (q1P 0) i xs s=some (s++(List.range' i xs.length).map fun (j:Nat)=>(j:Int))
 | [],i,s,_,_=>by simp [eachL]
 | x :: xs,i,s,h,h0=>by
  simp only [List.length_cons] at h
  have hg:((s.length:Int)+1)*8≤140737488355328∧(s.length:Int)+1≤9223372036854775807:=by constructor<;>omega
  have e:q1P 0 i x s=some (s++[(i:Int)]):=by
   unfold q1P; rw [if_pos (h0 x (by simp)),q1m hg]; rfl
  simp only [eachL,e,Option.bind_some]
  rw [z8q xs (i+1) _ (by simp; omega) fun y hy=>h0 y (by simp [hy])]
  simp [List.range'_succ]
theorem j1g {g:Grammar}{r:Rule}(h:∀ y∈g.Symbols,y.Attributes.length≤1048576)(hr:r.Right.length≤1048576){l:List Attribute}{y:List Int}(hl:q1H g r.Left=some l)(hy:q1M g r 0=some y):∀ k:Nat,k < l.length→y[k]? = some (k:Int):=by
 obtain⟨o,_,ho,ho3⟩:=q9T h hr
 obtain⟨ys,hys⟩:=j1f h hr hl ho
 have hl3:l.length≤1048576:=by
  obtain⟨p,_,h2,h3⟩:=q6J h r.Left
  rw [hl] at h2; cases h2; exact h3
 unfold q1M at hy
 rw [ho,Option.bind_some] at hy
 have hy' : eachL (q1P 0) 0 o []=some y:=by
  cases hq:eachL (q1P 0) 0 o [] with
  | none=>rw [hq] at hy; cases hy
  | some q=>rw [hq] at hy; exact hy
 have hlen:=congrArg List.length hys
 simp only [List.length_append,List.length_map] at hlen
 rw [hys,q9C,z8q _ 0 [] (by simp; omega) (by intro x hx; obtain⟨a,_,rfl⟩:=List.mem_map.1 hx; rfl),Option.bind_some] at hy'
 obtain⟨zs,h4,h5⟩:=q4w (p:=fun x:Occurrence=>decide (x.Pos=0)) (g:=fun i _=>((i:Nat):Int)) (B:=4398046511104) (f:=q1P 0) (fun i x s hs=>by
  have hg:((s.length:Int)+1)*8≤140737488355328∧(s.length:Int)+1≤9223372036854775807:=by constructor<;>omega
  unfold q1P
  rw [q1m hg]
  by_cases m1:x.Pos=0
  ·rw [if_pos m1,if_pos (by simp [m1])]; rfl
  ·rw [if_neg m1,if_neg (by simp [m1])]; rfl) ys (0+(l.map fun x=>(⟨0,x.Name⟩:Occurrence)).length) ([]++(List.range' 0 (l.map fun x=>(⟨0,x.Name⟩:Occurrence)).length).map fun (j:Nat)=>(j:Int)) (by simp; omega)
 rw [h4] at hy'
 cases hy'
 intro k hk
 rw [List.getElem?_append_left (by simpa using hk)]
 simp [hk]
theorem q9n {α σ:Type}{P:σ→Prop}{f g:Nat→α→σ→Option σ}:∀ (xs:List α) (i:Nat) (s:σ),P s→(∀ k x s,k < i+xs.length→x∈xs→P s→∃ s',f k x s=some s'∧g k x s=some s'∧P s')→∃ s',eachL f i xs s=some s'∧eachL g i xs s=some s'∧P s'
 | [],i,s,hs,_=>⟨s,rfl,rfl,hs⟩
 | x :: xs,i,s,hs,h=>by
  obtain⟨t,h1,h2,h3⟩:=h i x s (by simp) (by simp) hs
  obtain⟨u,h4,h5,h6⟩:=q9n xs (i+1) t h3 fun k y s hk hy=>h k y s (by simp; omega) (by simp [hy])
  exact⟨u,by simp only [eachL,h1,Option.bind_some,h4],by simp only [eachL,h2,Option.bind_some,h5],h6⟩
theorem z3U {g:Grammar}{r:Rule}{c:Relation}(h:∀ y∈g.Symbols,y.Attributes.length≤1048576)(hr:r.Right.length≤1048576):∃ x,q2O g r c=some x∧q5s g r c=some x∧x.Rows.length≤16:=by
 obtain⟨l,l1,l2,l3⟩:=q6J h r.Left
 obtain⟨y,_,y2,_⟩:=z9B 0 h hr
 have hy:=j1g h hr l2 y2
 obtain⟨e,e1,e2⟩:=z6L l.length
 have step:∀ k1 x1,k1 < l.length→∀ k2 x2 s,k2 < l.length→s.1.length≤16→∃ s',q3I c k1 x1 k2 x2 s=some s'∧q5B c y k1 x1 k2 x2 s=some s'∧s'.1.length≤16:=by
  intro k1 x1 hk1 k2 x2 ⟨s3,s4⟩ hk2 hs
  dsimp only at hs
  obtain⟨z,z1,z2⟩:=z5O (r:=⟨s4,s3⟩) (by show s3.length≤_; omega) (k1:Int) (k2:Int)
  unfold q3I q5B
  rw [z9A,z2F,hy k1 hk1,hy k2 hk2]
  simp only [Option.bind_some,q5i,z1,decide_eq_true_eq]
  by_cases m1:x1.Mode=1
  ·by_cases m2:x2.Mode=2
   ·by_cases m3:hasP c (k1:Int) (k2:Int)
    ·simp only [m1,m2,m3,if_true,decide_true,Option.bind_some]; exact⟨_,rfl,rfl,by rw [z2]; exact hs⟩
    ·simp only [m1,m2,m3,if_true,if_false,decide_true,decide_false,Option.bind_some]; exact⟨_,rfl,rfl,hs⟩
   ·simp [m1,m2,hs]
  ·simp [m1,hs]
 obtain⟨⟨s1,s2⟩,h1,h2,h3⟩:=q9n (P:=fun s:List Int × Int=>s.1.length≤16) (f:=q3J c l) (g:=q6V c l y) l 0 (e.Rows,e.N) e2 fun k x s hk _ hs=>by
  obtain⟨s',t1,t2,t3⟩:=q9n (P:=fun s:List Int × Int=>s.1.length≤16) (f:=q3I c k x) (g:=q5B c y k x) l 0 s hs fun k2 x2 s hk2 _ hs=>step k x (by omega) k2 x2 s (by omega) hs
  obtain⟨s3,s4⟩:=s
  exact⟨s',by unfold q3J; dsimp only; rw [t1]; rfl,by unfold q6V; dsimp only; rw [t2]; rfl,t3⟩
 refine⟨⟨s2,s1⟩,?_,?_,h3⟩
 ·unfold q2O; rw [l1,Option.bind_some,e1,Option.bind_some,h1]; rfl
 ·unfold q5s; rw [l2,Option.bind_some,y2,Option.bind_some,z1T,e1,Option.bind_some,h2]; rfl
end Go.Proofs.YtiojgbiimbefiaaGreat
namespace Go.Proofs.YtiojgbiimbefiaaGreat
open Go Go.E
theorem j1h:∀ (n:Nat) (e q:Expr),q2S n e=some q→q2S (n+1) e=some q:=by
 intro n
 induction n with
 | zero=>intro e q h; cases h
 | succ n ih=>
  intro e q h
  have h' : q4K (q2S n) e=some q:=h
  show q4K (q2S (n+1)) e=some q
  unfold q4K at h' ⊢
  obtain⟨s,h1,h2⟩:=bd h'
  rw [q9j (g:=q5G (q2S (n+1))) (fun k x s q hq=>by
   unfold q5G at hq ⊢
   obtain⟨y,h3,h4⟩:=bd hq
   rw [ih _ _ h3,Option.bind_some]; exact h4) _ _ _ _ h1]
  exact h2
theorem z6O:∀ (m:Nat) (e:Expr),fuE e≤m→Sz.szd e≤1048576→q2S m e=some e:=by
 intro m
 induction m with
 | zero=>intro e h; rw [q9B] at h; omega
 | succ m ih=>
  intro e h hs
  rw [q9B] at h
  have hl:∀ (l:List Expr) (i:Nat) (s:List Expr),(∀ x∈l,fuE x≤m∧Sz.szd x≤1048576)→s.length+l.length≤4398046511→eachL (q5G (q2S m)) i l s=some (s++l):=by
   intro l
   induction l with
   | nil=>intro i s _ _; simp [eachL]
   | cons x l ihl=>
    intro i s hx hb
    simp only [List.length_cons] at hb
    have h1:=ih x (hx x (by simp)).1 (hx x (by simp)).2
    have e1:q5G (q2S m) i x s=some (s++[x]):=by
     unfold q5G; rw [h1,Option.bind_some,q1m (by constructor<;>omega)]
    simp only [eachL,e1,Option.bind_some]
    rw [ihl _ _ (fun y hy=>hx y (by simp [hy])) (by simp; omega)]; simp
  show q4K (q2S m) e=some e
  unfold q4K
  have h2:=q3i e
  have h3:=q4U e.Args
  rw [hl e.Args 0 [] (fun x hx=>⟨by have:=z2A hx; omega,by have:=j1V hx; omega⟩) (by simp; omega),List.nil_append,Option.bind_some]
  cases e; rfl
theorem j1i {e:Expr}(h:Sz.szd e≤1048576):q8F e=some e:=z7W (fun n q=>j1h n e q) (z6O _ e (Nat.le_refl _) h)
theorem z6P:q8a=q8F:=by
 have h:∀ n,q4Z n=q2S n:=by
  intro n
  induction n with
  | zero=>rfl
  | succ n ih=>funext e; show q6U (q4Z n) e=q4K (q2S n) e; rw [ih]; rfl
 funext e
 show recO (fun n=>q4Z n e)=recO fun n=>q2S n e
 congr 1; funext n; rw [h]
def z4X:Expr:=⟨0,0,0,0,⟨#[]⟩,⟨#[]⟩,[]⟩
def eqAt (r:Rule)(o:Occurrence):Expr × Bool:=match r.Equations.find? fun q=>decide (q.At=o) with
 | some q=>(q.Expr,true)
 | none=>(z4X,false)
theorem z8r {r:Rule}{q:Equation}(h:q∈r.Equations):Sz.szd q.Expr≤Sz.szd r:=by
 have h1:=z2z r
 have h2:=q9A q
 have h3:=z2B h
 have h4:=q3i q.Expr
 omega
theorem j1j {r:Rule}(h:Sz.szd r≤1048576)(o:Occurrence):Sz.szd (eqAt r o).1≤1048576:=by
 unfold eqAt
 cases hf:r.Equations.find? (fun q=>decide (q.At=o)) with
 | none=>show Sz.szd z4X≤_; have:Sz.szd z4X=0:=rfl; omega
 | some q=>have:=z8r (List.mem_of_find?_eq_some hf); show Sz.szd q.Expr≤_; omega
theorem z5S {r:Rule}(h:Sz.szd r≤1048576)(o:Occurrence):q2q r o=some (eqAt r o):=by
 have key:∀ (l:List Equation) (i:Nat),(∀ q∈l,Sz.szd q.Expr≤1048576)→findL (q2Z o) i l ()=some (match l.find? fun q=>decide (q.At=o) with
   | some q=>.inr (q.Expr,true)
   | none=>.inl ()):=by
  intro l
  induction l with
  | nil=>intro i _; rfl
  | cons q l ih=>
   intro i hq
   by_cases hp:q.At=o
   ·simp [findL,q2Z,hp,j1i (hq q (by simp))]
   ·simp [findL,q2Z,hp]
    exact ih _ fun y hy=>hq y (by simp [hy])
 unfold q2q eqAt
 rw [key _ _ fun q hq=>by have:=z8r hq; omega]
 cases r.Equations.find? (fun q=>decide (q.At=o))<;>rfl
theorem j1k {r:Rule}(h:Sz.szd r≤1048576)(o:Occurrence):q2q r o=some (eqAt r o)∧q3u r o=some (eqAt r o):=by
 have e:q3u=q2q:=by
  have e1:q5t=q2Z:=by funext a k x u; unfold q5t q2Z; rw [z6P]
  funext r o; unfold q3u q2q; rw [e1]
 rw [e]
 exact⟨z5S h o,z5S h o⟩
theorem z6Q:q3h=q2o:=by
 funext l o
 unfold q3h q2o q1U
 have e:q4q o=q1O o:=by
  funext k x u
  unfold q4q q1O
  by_cases h:x=o
  ·rw [if_pos h,if_pos h.symm]
  ·rw [if_neg h,if_neg fun e=>h e.symm]
 rw [e]
 cases ((findL (q1O o) 0 l ()).bind <| onr (fun r1=>some r1) fun _=>some (-1))<;>rfl
theorem z6R (l:List Occurrence)(o:Occurrence):∃ k,q2o l o=some k:=by
 have h:q1U l o=some (ixF l o):=by
  unfold q1U
  refine z7L fun k x=>⟨fun e=>?_,fun e=>?_⟩
  ·unfold q1O; rw [if_pos e.symm]
  ·unfold q1O; rw [if_neg (fun h=>e h.symm)]
 exact⟨_,by unfold q2o; rw [h]; rfl⟩
theorem j2o {r x:Relation}{i k:Int}(h:q2z r i k=some x):x.N=r.N:=by
 unfold q2z at h
 obtain⟨y,h1,h⟩:=bd h
 have hy:y=r:=by unfold q3R at h1; obtain⟨_,h1⟩:=q6O h1; exact (Option.some.inj h1).symm
 subst hy
 obtain⟨y2,_,h⟩:=bd h
 obtain⟨s1,_,h⟩:=bd h
 obtain⟨s2,_,h⟩:=bd h
 by_cases hs:s2=true
 ·rw [if_pos hs] at h
  obtain⟨_,h⟩:=q6O h
  obtain⟨_,_,h⟩:=bd h
  obtain⟨_,h⟩:=q6O h
  obtain⟨_,h⟩:=q6O h
  obtain⟨_,h⟩:=q6O h
  cases h; rfl
 ·rw [if_neg hs] at h
  cases h; rfl
theorem z9C (l:List Occurrence)(k:Nat):∀ (us:List Occurrence) (i:Nat) (rows:List Int) (n:Int),rows.length≤1048576 →
  ∃ rows',eachL (q4b l k) i us (rows,n)=some (rows',n)∧eachL (q3x l (k:Int)) i us (rows,n)=some (rows',n)∧rows'.length=rows.length:=by
 intro us
 induction us with
 | nil=>intro i rows n _; exact⟨rows,rfl,rfl,rfl⟩
 | cons u us ih=>
  intro i rows n h
  obtain⟨j,hj⟩:=z6R l u
  obtain⟨x,hx,hxl⟩:=z5O (r:=⟨n,rows⟩) h j (k:Int)
  have hN:=j2o hx
  obtain⟨rows',h1,h2,h3⟩:=ih (i+1) x.Rows n (by rw [hxl]; exact h)
  have e1:q4b l k i u (rows,n)=some (x.Rows,n):=by
   unfold q4b
   dsimp only
   rw [hj,Option.bind_some,z2F,hx,Option.bind_some,hN]
  have e2:q3x l (k:Int) i u (rows,n)=some (x.Rows,n):=by
   unfold q3x
   dsimp only
   rw [z6Q,hj,Option.bind_some,hx,Option.bind_some,hN]
  exact⟨rows',by simp only [eachL,e1,Option.bind_some]; exact h1,by simp only [eachL,e2,Option.bind_some]; exact h2,h3.trans hxl⟩
theorem z6S:z0J z4X=[]:=by
 have:q6W z4X=[]:=by simp [z4X,q6W,q4O]
 unfold z0J z3u
 rw [this]; simp [q1T]
theorem z8s {r:Rule}(hr:Sz.szd r≤1048576)(l:List Occurrence)(hl:l.length≤16):∀ (m k:Nat) (rows:List Int) (n:Int),k+m=l.length→0 < n→rows.length≤1048576 →
  ∃ rows',eachL (q4c r l) k (l.drop k) (rows,n)=some (rows',n)∧q3j (q1W r l) ((k:Int),rows,n)=some (rows',n)∧rows'.length=rows.length:=by
 intro m
 induction m with
 | zero=>
  intro k rows n hk hn h
  refine⟨rows,by rw [List.drop_eq_nil_of_le (by omega)]; rfl,q2s ?_,rfl⟩
  unfold q1W
  dsimp only
  rw [if_neg (by omega)]
 | succ m ih=>
  intro k rows n hk hn h
  obtain⟨x,hx⟩:∃ x,l[k]? = some x:=⟨_,List.getElem?_eq_getElem (by omega)⟩
  have hd:l.drop k=x :: l.drop (k+1):=by
   rw [List.drop_eq_getElem_cons (by omega)]
   have:l[k]=x:=by rw [List.getElem?_eq_getElem (by omega)] at hx; exact Option.some.inj hx
   rw [this]
  obtain⟨E,B,hq⟩:∃ E B,eqAt r x=(E,B):=⟨_,_,rfl⟩
  obtain⟨rows1,h1,h2,h3⟩:=z9C l k (z0J E) 0 rows n h
  obtain⟨rows',k1,k2,k3⟩:=ih (k+1) rows1 n (by omega) hn (by omega)
  have hsz:=j1j hr x
  have hf:=j1k hr x
  rw [hq] at hsz hf
  have e1:q4c r l k x (rows,n)=some (rows1,n):=by
   unfold q4c
   dsimp only
   rw [hf.2,Option.bind_some]
   dsimp only
   rw [z9j hsz,Option.bind_some,h1]; rfl
  have hin:(grd (0≤(k:Int)) <| (l[(k:Int).toNat]?).bind fun x1=>(q2q r x1).bind fun (y3,y4)=>if y4=true then ((q3a y3).bind fun y5=>(eachL (q3x l (k:Int)) 0 y5 (rows,n)).bind fun (s8,s9)=>some (s8,s9)) else some (rows,n))=some (rows1,n):=by
   rw [q1m (by omega),Int.toNat_natCast,hx,Option.bind_some,hf.1,Option.bind_some]
   dsimp only
   cases hb:B with
   | true=>rw [if_pos rfl,z9y hsz,Option.bind_some,h2,Option.bind_some]
   | false=>
    have hz:E=z4X:=by
     unfold eqAt at hq
     cases hf:r.Equations.find? (fun q=>decide (q.At=x)) with
     | none=>rw [hf] at hq; cases hq; rfl
     | some q=>rw [hf] at hq; cases hq; cases hb
    rw [hz,z6S] at h1
    simp only [eachL,Option.some.injEq,Prod.mk.injEq] at h1
    rw [if_neg (by simp),h1.1]
  have e2:q1W r l ((k:Int),rows,n)=some (.inl (((k+1:Nat):Int),rows1,n)):=by
   unfold q1W
   dsimp only
   rw [if_pos (by omega),if_pos hn,hin,Option.bind_some]
   dsimp only
   rw [q1m (by constructor<;>omega)]; rfl
  exact⟨rows',by rw [hd]; simp only [eachL,e1,Option.bind_some]; exact k1,by rw [q3p e2]; exact k2,k3.trans h3⟩
theorem z6T {g:Grammar}{r:Rule}(h:Sz.szd g≤1048576)(hr:Sz.szd r≤1048576):∃ x,q2t g r=some x∧q2Y g r=some x∧x.Rows.length≤16:=by
 obtain⟨l,h1,h2,_⟩:=q9T (z0P h) (q9U hr)
 have hem:∀ n:Nat,q1x (n:Int)=if n≤16 then some ⟨(n:Int),List.replicate n 0⟩ else some ⟨0,[]⟩:=fun n=>by
  unfold q1x
  rw [q4e,Option.bind_some]
  by_cases hn:n≤16
  ·rw [if_pos (by simp; omega),q1m (by omega),if_pos hn]; rfl
  ·rw [if_neg (by simp; omega),if_neg hn]
 unfold q2t q2Y
 rw [h1,h2,Option.bind_some,Option.bind_some,z1T,hem]
 by_cases hl:l.length≤16
 ·rw [if_pos hl,Option.bind_some,Option.bind_some,if_neg (by omega)]
  dsimp only
  by_cases h0:l.length=0
  ·have:l=[]:=List.eq_nil_of_length_eq_zero h0
   subst this
   have e:q3j (q1W r ([]:List Occurrence)) (0,List.replicate ([]:List Occurrence).length 0,((([]:List Occurrence).length:Nat):Int))=some (List.replicate ([]:List Occurrence).length 0,((([]:List Occurrence).length:Nat):Int)):=q2s (by unfold q1W; dsimp only; rw [if_neg (by simp)])
   rw [e]
   exact⟨_,rfl,rfl,by simp⟩
  ·obtain⟨rows',k1,k2,k3⟩:=z8s hr l hl l.length 0 (List.replicate l.length 0) (l.length:Int) (by omega) (by omega) (by simp; omega)
   have k2' : q3j (q1W r l) (0,List.replicate l.length 0,(l.length:Int))=some (rows',(l.length:Int)):=k2
   rw [List.drop_zero] at k1
   rw [k1,k2']
   exact⟨_,rfl,rfl,by show rows'.length≤16; simp at k3; omega⟩
 ·rw [if_neg hl,Option.bind_some,Option.bind_some,if_pos (by omega)]
  have e:q3j (q1W r l) (0,([]:List Int),(0:Int))=some ([],0):=q2s (by unfold q1W; dsimp only; rw [if_pos (by omega),if_neg (by omega)])
  rw [e]
  exact⟨_,rfl,rfl,by simp⟩
end Go.Proofs.YtiojgbiimbefiaaGreat
namespace Go.Proofs.YtiojgbiimbefiaaGreat
open Go Go.E
theorem q7C {α β:Type}{p:α→Bool}{g:α→β}{B:Nat}{f:Nat→α→List β→Option (List β)}(hf:∀ k x s,s.length < B→f k x s=some (if p x=true then s++[g x] else s)):∀ (xs:List α) (i:Nat) (s:List β),s.length+xs.length≤B →
  eachL f i xs s=some (s++(xs.filter p).map g)
 | [],i,s,_=>by simp [eachL]
 | x :: xs,i,s,h=>by
  simp only [List.length_cons] at h
  by_cases hp:p x=true
  ·have ih:=q7C hf xs (i+1) (s++[g x]) (by simp; omega)
   simp [eachL,hf i x s (by omega),hp,ih]
  ·have ih:=q7C hf xs (i+1) s (by omega)
   simp [eachL,hf i x s (by omega),hp,ih]
theorem z0Q {α β:Type}{p:α→Bool}{g:Nat→β}{B:Nat}{f:Nat→α→List β→Option (List β)}(hf:∀ k x s,s.length < B→f k x s=some (if p x=true then s++[g k] else s)):∀ (xs:List α) (i:Nat) (s:List β),s.length+xs.length≤B →
  eachL f i xs s=some (s++((xs.zipIdx i).filter fun q=>p q.1).map fun q=>g q.2)
 | [],i,s,_=>by simp [eachL]
 | x :: xs,i,s,h=>by
  simp only [List.length_cons] at h
  by_cases hp:p x=true
  ·have ih:=z0Q hf xs (i+1) (s++[g i]) (by simp; omega)
   simp [eachL,hf i x s (by omega),hp,ih,List.zipIdx_cons]
  ·have ih:=z0Q hf xs (i+1) s (by omega)
   simp [eachL,hf i x s (by omega),hp,ih,List.zipIdx_cons]
theorem z1X {β:Type}{h:Nat→List β}{C n:Nat}{f:Nat→List β→Option (List β)}(hf:∀ k s,k < n→s.length≤k*C→f k s=some (s++h k))(hh:∀ k,k < n→(h k).length≤C) :
  ∀ (m k:Nat) (s:List β),k+m=n→s.length≤k*C→eachN f k m s=some (s++(List.range' k m).flatMap h)
 | 0,k,s,_,_=>by simp [eachN]
 | m+1,k,s,hk,hs=>by
  have hl:=hh k (by omega)
  have e:(k+1)*C=k*C+C:=Nat.succ_mul k C
  have ih:=z1X hf hh m (k+1) (s++h k) (by omega) (by rw [List.length_append]; omega)
  simp [eachN,hf k s (by omega) hs,ih,List.range'_succ]
theorem z0R {β:Type}{h:Nat→List β}{C n:Nat}{f:(List β × Int)→Option ((List β × Int) ⊕ List β)}(hf:∀ (k:Nat) s,k < n→s.length≤k*C→f (s,(k:Int))=some (.inl (s++h k,((k+1:Nat):Int))))(he:∀ s,f (s,(n:Int))=some (.inr s))(hh:∀ k,k < n→(h k).length≤C) :
  ∀ (m k:Nat) (s:List β),k+m=n→s.length≤k*C→q3j f (s,(k:Int))=some (s++(List.range' k m).flatMap h)
 | 0,k,s,hk,_=>by
  obtain rfl:k=n:=by omega
  rw [q2s (he s)]; simp
 | m+1,k,s,hk,hs=>by
  have hl:=hh k (by omega)
  have e:(k+1)*C=k*C+C:=Nat.succ_mul k C
  have ih:=z0R hf he hh m (k+1) (s++h k) (by omega) (by rw [List.length_append]; omega)
  rw [q3p (hf k s (by omega) hs),ih]; simp [List.range'_succ]
abbrev GOk (g:Grammar):Prop:=∀ y∈g.Symbols,y.Attributes.length≤1048576
def zS:Symbol:=⟨⟨#[]⟩,[]⟩
def zA:Attribute:=⟨⟨#[]⟩,0,0,false⟩
def q7a (g:Grammar)(s:ByteArray):Symbol × Bool:=match g.Symbols.find? fun y=>decide (y.Name=s) with
 | some y=>(y,true)
 | none=>(zS,false)
def z9D (y:Symbol)(s:ByteArray):Attribute × Bool:=match y.Attributes.find? fun a=>decide (a.Name=s) with
 | some a=>(a,true)
 | none=>(zA,false)
theorem q8O {g:Grammar}(h:GOk g)(s:ByteArray):q2B g s=some (q7a g s):=by
 have h1:=q5J (p:=fun y:Symbol=>decide (y.Name=s)) (r:=fun y=>(y,true)) (xs:=g.Symbols) (i:=0) (f:=q4h s) fun k y hy=>by
  have hg:q3X y=some y:=by
   unfold q3X; have:=h y hy; rw [q1m (by simp only [List.length_nil]; constructor<;>omega)]
  unfold q4h; rw [hg]; constructor<;>intro hp<;>simp_all
 unfold q2B q7a
 rw [h1]
 cases hf:g.Symbols.find? (fun y:Symbol=>decide (y.Name=s)) with
 | none=>rfl
 | some y=>rfl
theorem z8t (g:Grammar)(s:ByteArray):q3H g s=some (q7a g s):=by
 have h2:=q5J (p:=fun y:Symbol=>decide (y.Name=s)) (r:=fun y=>(y,true)) (xs:=g.Symbols) (i:=0) (f:=q4j s) fun k y hy=>by
  unfold q4j; constructor<;>intro hp<;>simp_all
 unfold q3H q7a
 rw [h2]
 cases hf:g.Symbols.find? (fun y:Symbol=>decide (y.Name=s)) with
 | none=>rfl
 | some y=>rfl
theorem q6K {g:Grammar}(h:GOk g)(s:ByteArray):(q7a g s).1.Attributes.length≤1048576:=by
 unfold q7a
 cases hf:g.Symbols.find? (fun y:Symbol=>decide (y.Name=s)) with
 | none=>simp [zS]
 | some y=>exact h y (List.mem_of_find?_eq_some hf)
def q4R (r:Rule)(k:Int):ByteArray:=if k=0 then r.Left else if 1≤k∧k≤(r.Right.length:Int) then r.Right.getD (k - 1).toNat ⟨#[]⟩ else ⟨#[]⟩
abbrev ROk (r:Rule):Prop:=r.Right.length≤1048576
theorem z0S {r:Rule}(hl:ROk r)(k:Int):q2G r k=some (q4R r k):=by
 unfold q2G q4R
 by_cases h0:k=0
 ·rw [if_pos h0,if_pos h0]
 ·rw [if_neg h0,if_neg h0,z8n,Option.bind_some]
  by_cases h1:1≤k∧k≤(r.Right.length:Int)
  ·rw [if_pos (by simpa using h1),if_pos h1,q1m (by constructor<;>omega),q1m (by omega)]
   have:(k - 1).toNat < r.Right.length:=by omega
   rw [List.getElem?_eq_getElem this,List.getD_eq_getElem?_getD,List.getElem?_eq_getElem this]; rfl
  ·rw [if_neg (by simpa using h1),if_neg h1]
theorem j1l {r:Rule}(hl:ROk r)(k:Int):q3Y r k=some (q4R r k):=by rw [q9l,z0S hl]
def j0l (g:Grammar)(r:Rule)(o:Occurrence):Attribute × Bool:=if 0≤o.Pos∧o.Pos≤(r.Right.length:Int) then z9D (q7a g (q4R r o.Pos)).1 o.Name else (zA,false)
def mayB (g:Grammar)(r:Rule)(o:Occurrence):Bool:=(j0l g r o).2&&decide ((j0l g r o).1.Mode=if o.Pos=0 then 1 else 2)
def reqK (g:Grammar)(r:Rule)(k:Nat):List Occurrence:=((q7a g (q4R r (k:Int))).1.Attributes.filter fun a=>decide (a.Mode=if (k:Int)=0 then 2 else 1)).map fun a=>(⟨(k:Int),a.Name⟩:Occurrence)
def reqL (g:Grammar)(r:Rule):List Occurrence:=(List.range' 0 (r.Right.length+1)).flatMap (reqK g r)
theorem z9E {g:Grammar}(h:GOk g)(r:Rule)(k:Nat):(reqK g r k).length≤1048576:=by
 unfold reqK; rw [List.length_map]
 exact Nat.le_trans (List.length_filter_le _ _) (q6K h _)
theorem j1m {g:Grammar}(h:GOk g){r:Rule}(hl:ROk r):q2v g r=some (reqL g r):=by
 have hl' : r.Right.length≤1048576:=hl
 have key:=z0R (h:=reqK g r) (C:=1048576) (n:=r.Right.length+1) (f:=q2n g r) (fun k s hk hs=>by
  have hin2:eachL (q3E (k:Int)) 0 (q7a g (q4R r (k:Int))).1.Attributes s=some (s++((q7a g (q4R r (k:Int))).1.Attributes.filter fun a=>decide (a.Mode=2)).map fun a=>(⟨(k:Int),a.Name⟩:Occurrence)):=
   q7C (B:=4398046511104) (fun j x s hs=>by
    unfold q3E
    by_cases hm:x.Mode=2
    ·rw [if_pos hm,if_pos (by simpa using hm),q1m (by constructor<;>omega)]; rfl
    ·rw [if_neg hm,if_neg (by simpa using hm)]; rfl) _ 0 s (by have:=q6K h (q4R r (k:Int)); omega)
  have hin1:eachL (q3F (k:Int)) 0 (q7a g (q4R r (k:Int))).1.Attributes s=some (s++((q7a g (q4R r (k:Int))).1.Attributes.filter fun a=>decide (a.Mode=1)).map fun a=>(⟨(k:Int),a.Name⟩:Occurrence)):=
   q7C (B:=4398046511104) (fun j x s hs=>by
    unfold q3F
    by_cases hm:x.Mode=1
    ·rw [if_pos hm,if_pos (by simpa using hm),q1m (by constructor<;>omega)]; rfl
    ·rw [if_neg hm,if_neg (by simpa using hm)]; rfl) _ 0 s (by have:=q6K h (q4R r (k:Int)); omega)
  unfold q2n reqK
  dsimp only
  rw [if_pos (by omega),z0S hl,Option.bind_some,q8O h,Option.bind_some]
  skip
  by_cases h0:(k:Int)=0
  ·rw [if_pos h0,if_pos h0,hin2,Option.bind_some,Option.bind_some,q1m (by constructor<;>omega)]; rfl
  ·rw [if_neg h0,if_neg h0,hin1,Option.bind_some,Option.bind_some,q1m (by constructor<;>omega)]; rfl) (fun s=>by
  unfold q2n; dsimp only; rw [if_neg (by omega)]) (fun k _=>z9E h r k) (r.Right.length+1) 0 [] (by omega) (by simp)
 unfold q2v
 have e:q3j (q2n g r) (([]:List Occurrence),0)=some ([]++(List.range' 0 (r.Right.length+1)).flatMap (reqK g r)):=key
 rw [e]; rfl
end Go.Proofs.YtiojgbiimbefiaaGreat
namespace Go.Proofs.YtiojgbiimbefiaaGreat
open Go Go.E
def q7b {α:Type}(bad:List α→α→Bool):List α→List α→Option Nat
 | _,[]=>none
 | pre,x :: xs=>if bad pre x=true then some pre.length else q7b bad (pre++[x]) xs
def dupB {α:Type}(nm:α→ByteArray)(pre:List α)(x:α):Bool:=pre.any fun o=>decide (nm o=nm x)
def j2p {α:Type}(nm:α→ByteArray)(xs:List α):Bool:=(q7b (dupB nm) [] xs).isNone
def j2q (a:Attribute):Bool:=q8i a.Name&&(decide (1≤a.Type_∧a.Type_≤4)&&(decide (1≤a.Mode∧a.Mode≤3)&&if a.Mode=3 then decide (a.Type_=2) && !a.Circular else !a.Circular||decide (a.Type_=2)))
def symB (s:Symbol):Bool:=s.Attributes.all j2q&&(q8i s.Name&&(decide (s.Attributes.length≤4)&&j2p (fun a:Attribute=>a.Name) s.Attributes))
end Go.Proofs.YtiojgbiimbefiaaGreat
namespace Go.Proofs.YtiojgbiimbefiaaGreat
open Go Go.E
def j1n (n:Int)(e:Expr):Bool:=allE (fun x=>decide (x.Pos≤n)) e
def z0Z (e:Expr)(n:Int):Bool:=z7U e&&j1n n e
def eqnB (n:Int)(q:Equation):Bool:=z0Z q.Expr n&&(q8i q.At.Name&&decide (0≤q.At.Pos∧q.At.Pos≤n))
def conB (n:Int)(q:Contribution):Bool:=(z0Z q.Target n&&z0Z q.Value n)&&(q8i q.Symbol&&q8i q.Name)
def ruleB (r:Rule):Bool:=(q8i r.Name&&q8i r.Left)&&((decide (r.Right.length≤3)&&decide (r.Contributions.length≤2))&&(r.Right.all q8i&&(r.Equations.all (eqnB (r.Right.length:Int))&&r.Contributions.all (conB (r.Right.length:Int)))))
def j0m (p:List Symbol)(x:Symbol):Bool:=!symB x||dupB (fun y:Symbol=>y.Name) p x
def z8u (p:List Rule)(x:Rule):Bool:=!ruleB x||dupB (fun y:Rule=>y.Name) p x
end Go.Proofs.YtiojgbiimbefiaaGreat
namespace Go.Proofs.YtiojgbiimbefiaaGreat
open Go Go.E
def j1Z (g:Grammar)(r:Rule):Bool:=(List.range' 0 (r.Right.length+1)).all fun k=>(q7a g (q4R r (k:Int))).2
def j2r (r:Rule)(o:Occurrence):Bool:=r.Equations.any fun q=>decide (q.At=o)
def j2s (g:Grammar)(r:Rule):Bool:=(reqL g r).any fun o=>!j2r r o
def j2a (g:Grammar)(r:Rule):Bool:=(q7b (fun p (x:Equation)=>!decide (x.At∈reqL g r)||p.any fun o=>decide (o.At=x.At)) [] r.Equations).isSome
def useB (g:Grammar)(r:Rule)(e:Expr):Bool:=(z0J e).all (mayB g r)
def j2b (r:Rule):List Expr:=r.Equations.map (fun q=>q.Expr)++r.Contributions.flatMap fun q=>[q.Target,q.Value]
def misB (g:Grammar)(r:Rule):Bool:=!(j2b r).all (useB g r)
end Go.Proofs.YtiojgbiimbefiaaGreat
namespace Go.Proofs.YtiojgbiimbefiaaGreat
open Go Go.E
def j2c (g:Grammar)(r:Rule)(k:Int):Bool:=if k=3 then !j1Z g r else if k=4 then j2s g r else if k=5 then j2a g r else misB g r
theorem q9o {α:Type}{bad:List α→α→Bool}:∀ (xs pre:List α),q7b bad pre xs=none→∀ k x,xs[k]? = some x→bad (pre++xs.take k) x=false
 | [],pre,h,k,x,hx=>by simp at hx
 | y :: xs,pre,h,k,x,hx=>by
  rw [q7b] at h
  by_cases hb:bad pre y=true
  ·rw [if_pos hb] at h; cases h
  ·rw [if_neg hb] at h
   cases k with
   | zero=>simp at hx; subst hx; simpa using hb
   | succ k=>
    have:=q9o xs (pre++[y]) h k x (by simpa using hx)
    simpa using this
structure Shape (g:Grammar):Prop where
 syms:1≤g.Symbols.length∧g.Symbols.length≤4
 rules:1≤g.Rules.length∧g.Rules.length≤8
 sym:q7b j0m [] g.Symbols=none
 rule:q7b z8u [] g.Rules=none
 brk:∀ k:Int,3≤k→k≤6→∀ r∈g.Rules,j2c g r k=false
 z3d:∀ y a,g.Symbols[0]? = some y→a∈y.Attributes→a.Mode≠1
theorem Shape.ruleB {g:Grammar}(h:Shape g){r:Rule}(hr:r∈g.Rules):ruleB r=true:=by
 obtain⟨k,hk⟩:=List.getElem?_of_mem hr
 have:=q9o _ _ h.rule k r hk
 unfold z8u at this
 rw [Bool.or_eq_false_iff] at this
 simpa using this.1
theorem Shape.symB {g:Grammar}(h:Shape g){y:Symbol}(hy:y∈g.Symbols):symB y=true:=by
 obtain⟨k,hk⟩:=List.getElem?_of_mem hy
 have:=q9o _ _ h.sym k y hk
 unfold j0m at this
 rw [Bool.or_eq_false_iff] at this
 simpa using this.1
theorem Shape.pos {g:Grammar}(h:Shape g){r:Rule}(hr:r∈g.Rules){q:Equation}(hq:q∈r.Equations):0≤q.At.Pos∧q.At.Pos≤(r.Right.length:Int):=by
 have:=h.ruleB hr
 unfold Go.Proofs.YtiojgbiimbefiaaGreat.ruleB at this
 simp only [Bool.and_eq_true,List.all_eq_true] at this
 have:=this.2.2.2.1 q hq
 unfold eqnB at this
 simp only [Bool.and_eq_true,decide_eq_true_eq] at this
 exact this.2.2
end Go.Proofs.YtiojgbiimbefiaaGreat
namespace Go.Proofs.YtiojgbiimbefiaaGreat
open Go Go.E
theorem getD_some {hs:List Int}{j:Nat}(h:j < hs.length):hs[j]? = some (hs.getD j 0):=by
 rw [List.getD_eq_getElem?_getD,List.getElem?_eq_getElem h]; rfl
def HsOk (g:Grammar)(hs:List Int):Prop:=hs.length=g.Symbols.length∧∀ j,0≤hs.getD j 0
theorem HsOk.set {g:Grammar}{hs:List Int}(h:HsOk g hs){k:Nat}{v:Int}(hv:0≤v):HsOk g (hs.set k v):=by
 refine⟨by simpa using h.1,fun j=>?_⟩
 rw [List.getD_eq_getElem?_getD,List.getElem?_set]
 split
 ·split
  ·exact hv
  ·simp
 ·rw [← List.getD_eq_getElem?_getD]; exact h.2 j
end Go.Proofs.YtiojgbiimbefiaaGreat
namespace Go.Proofs.YtiojgbiimbefiaaGreat
open Go Go.E
theorem z3V {n:Nat}{h:Nat→Int→Int}{f:Nat→List Int→Option (List Int)}(hf:∀ k s,k < n→s.length=n→f k s=some (s.set k (h k (s.getD k 0)))) :
  ∀ (m k:Nat) (s:List Int),k+m=n→s.length=n→eachN f k m s=some (s.mapIdx fun j x=>if k≤j then h j x else x)
 | 0,k,s,hk,hs=>by
  show some s=_
  congr 1
  symm
  apply List.ext_getElem?
  intro j
  rw [List.getElem?_mapIdx]
  cases hj:s[j]? with
  | none=>rfl
  | some x=>
   have:=(List.getElem?_eq_some_iff.1 hj).1
   rw [Option.map_some,if_neg (by omega)]
 | m+1,k,s,hk,hs=>by
  rw [eachN,hf k s (by omega) hs,Option.bind_some,z3V hf m (k+1) _ (by omega) (by simpa using hs)]
  congr 1
  apply List.ext_getElem?
  intro j
  rw [List.getElem?_mapIdx,List.getElem?_mapIdx,List.getElem?_set]
  by_cases hj:k=j
  ·subst hj
   have hk' : k < s.length:=by omega
   rw [if_pos rfl,if_pos hk',List.getElem?_eq_getElem hk',List.getD_eq_getElem?_getD,List.getElem?_eq_getElem hk',Option.map_some,Option.map_some,if_neg (by omega),if_pos (Nat.le_refl _)]
   rfl
  ·rw [if_neg hj]
   cases hx:s[j]? with
   | none=>rfl
   | some x=>
    rw [Option.map_some,Option.map_some]
    by_cases h1:k+1≤j
    ·rw [if_pos h1,if_pos (by omega)]
    ·rw [if_neg h1,if_neg (by omega)]
def uniR (a b:Relation):Relation:=if Valid a∧Valid b∧a.N=b.N then ⟨a.N,a.Rows.mapIdx fun j x=>orI x (b.Rows.getD j 0)⟩ else a
theorem z6U {b:Relation}(h:Valid b)(k:Nat):0≤b.Rows.getD k 0:=by
 rw [List.getD_eq_getElem?_getD]
 cases hx:b.Rows[k]? with
 | none=>simp
 | some x=>exact (h.2.2.2 x (List.mem_of_getElem? hx)).1
theorem z9F {a b:Relation}(ha:Valid a)(hb:Valid b)(hN:a.N=b.N){f:Nat→List Int→Option (List Int)}(hf:f=q3z b):eachN f 0 a.Rows.length a.Rows=some (a.Rows.mapIdx fun j x=>orI x (b.Rows.getD j 0)):=by
 subst hf
 have hl:a.Rows.length=b.Rows.length:=by have:=ha.2.2.1; have:=hb.2.2.1; omega
 -- all rows stay at least 0
 have key:∀ (m k:Nat) (s:List Int),k+m=a.Rows.length→s.length=a.Rows.length→(∀ x∈s,0≤x)→eachN (q3z b) k m s=eachN (fun k s=>some (s.set k (orI (s.getD k 0) (b.Rows.getD k 0)))) k m s:=by
  intro m
  induction m with
  | zero=>intro k s _ _ _; rfl
  | succ m ih=>
   intro k s hk hs h0
   have e:q3z b k s=some (s.set k (orI (s.getD k 0) (b.Rows.getD k 0))):=by
    have hx:0≤s.getD k 0:=by
     rw [List.getD_eq_getElem?_getD,List.getElem?_eq_getElem (by omega:k < s.length)]
     exact h0 _ (List.getElem_mem _)
    unfold q3z
    rw [getD_some (by omega),Option.bind_some,getD_some (by omega),Option.bind_some]
    exact q1m ⟨hx,z6U hb k⟩
   rw [eachN,eachN,e,Option.bind_some,Option.bind_some]
   refine ih (k+1) _ (by omega) (by simpa using hs) fun x hx=>?_
   rcases List.mem_or_eq_of_mem_set hx with h | rfl
   ·exact h0 x h
   ·unfold orI; omega
 rw [key _ 0 a.Rows (by omega) rfl (fun x hx=>(ha.2.2.2 x hx).1),z3V (h:=fun k x=>orI x (b.Rows.getD k 0)) (n:=a.Rows.length) (fun k s _ _=>rfl) _ 0 a.Rows (by omega) rfl]
 simp
theorem j1o {a:Relation}(h:a.Rows.length≤1048576)(b:Relation):q3Q a b=some (uniR a b):=by
 unfold q3Q uniR
 rw [q7z h,Option.bind_some,q3K,Option.bind_some]
 by_cases ha:Valid a
 ·rw [decide_eq_true ha,if_pos rfl,q3K,Option.bind_some,Option.bind_some]
  by_cases hb:Valid b
  ·rw [decide_eq_true hb,Bool.not_true,if_neg (by simp),Option.bind_some]
   by_cases hN:a.N=b.N
   ·rw [decide_eq_true hN,Bool.not_true,if_neg (by simp),if_pos ⟨ha,hb,hN⟩,show a.N.toNat=a.Rows.length by have:=ha.2.2.1; omega,z9F ha hb hN rfl]; rfl
   ·rw [decide_eq_false hN,Bool.not_false,if_pos rfl,if_neg fun hh=>hN hh.2.2]
  ·have hz:(if Valid a∧Valid b∧a.N=b.N then (⟨a.N,a.Rows.mapIdx fun j x=>orI x (b.Rows.getD j 0)⟩:Relation) else a)=a:=if_neg fun hh=>hb hh.2.1
   rw [hz,decide_eq_false hb]; rfl
 ·have hz:(if Valid a∧Valid b∧a.N=b.N then (⟨a.N,a.Rows.mapIdx fun j x=>orI x (b.Rows.getD j 0)⟩:Relation) else a)=a:=if_neg fun hh=>ha hh.1
  rw [hz,decide_eq_false ha]; rfl
theorem j2d {n:Nat}{x y:Int}(hx:0≤x∧x≤((2 ^ n:Nat):Int) - 1)(hy:0≤y∧y≤((2 ^ n:Nat):Int) - 1):0≤orI x y∧orI x y≤((2 ^ n:Nat):Int) - 1:=by
 have:=Nat.or_lt_two_pow (n:=n) (x:=x.toNat) (y:=y.toNat) (by omega) (by omega)
 unfold orI; omega
end Go.Proofs.YtiojgbiimbefiaaGreat
namespace Go.Proofs.YtiojgbiimbefiaaGreat
open Go Go.E
def q2U (g:Grammar)(s:ByteArray):List Attribute:=(q7a g s).1.Attributes.filter q9m
theorem q9p {g:Grammar}(h:GOk g)(s:ByteArray):(q2U g s).length≤1048576:=Nat.le_trans (List.length_filter_le _ _) (q6K h s)
theorem z3W {l:List Attribute}(h:l.length≤1048576):eachL q2g 0 l []=some (l.filter q9m):=by
 have:=q7C (p:=q9m) (g:=fun x:Attribute=>x) (B:=1048577) (f:=q2g) (fun k x s hs=>by
  have hg:((s.length:Int)+1)*40≤140737488355328∧(s.length:Int)+1≤9223372036854775807:=by constructor<;>omega
  unfold q2g q9m
  rw [q1m hg]
  by_cases m1:x.Mode=1
  ·rw [if_pos m1,if_pos (by simp [m1])]; rfl
  ·rw [if_neg m1]
   by_cases m2:x.Mode=2
   ·rw [if_pos m2,if_pos (by simp [m2])]; rfl
   ·rw [if_neg m2,if_neg (by simp [m1,m2])]; rfl) l 0 [] (by simp; omega)
 rw [this]; simp
theorem q8P {g:Grammar}(h:GOk g)(s:ByteArray):q1X g s=some (q2U g s):=by
 unfold q1X q2U
 rw [q8O h,Option.bind_some]
 try dsimp only
 rw [z3W (q6K h s)]; rfl
theorem z3X {g:Grammar}(h:GOk g)(s:ByteArray):q1H g s=some (q2U g s):=by
 unfold q1H q2U
 rw [z8t,Option.bind_some]
 try dsimp only
 rw [z1V,z3W (q6K h s)]; rfl
def occK (g:Grammar)(r:Rule)(k:Nat):List Occurrence:=(q2U g (q4R r (k:Int))).map fun x=>(⟨(k:Int),x.Name⟩:Occurrence)
def occL (g:Grammar)(r:Rule):List Occurrence:=(List.range' 0 (r.Right.length+1)).flatMap (occK g r)
theorem z5T {g:Grammar}(h:GOk g)(r:Rule)(k:Nat):(occK g r k).length≤1048576:=by unfold occK; rw [List.length_map]; exact q9p h _
theorem z4Y {g:Grammar}(h:GOk g){r:Rule}(hl:ROk r):q1Q g r=some (occL g r):=by
 have hl' : r.Right.length≤1048576:=hl
 have key:=z1X (h:=occK g r) (C:=1048576) (n:=r.Right.length+1) (f:=q1B g r) (fun k s hk hs=>by
  unfold q1B
  rw [j1l hl,Option.bind_some,z3X h,Option.bind_some,q7B k _ 0 s (by have:=q9p h (q4R r (k:Int)); omega)]; rfl)
  (fun k _=>z5T h r k) (r.Right.length+1) 0 [] (by omega) (by simp)
 unfold q1Q
 rw [q1m (by constructor<;>omega),key]; rfl
theorem z4Z {g:Grammar}(h:GOk g){r:Rule}(hl:ROk r):q2f g r=some (occL g r):=by
 have hl' : r.Right.length≤1048576:=hl
 have key:=z0R (h:=occK g r) (C:=1048576) (n:=r.Right.length+1) (f:=q1V g r) (fun k s hk hs=>by
  unfold q1V
  dsimp only
  rw [if_pos (by omega),z0S hl,Option.bind_some,q8P h,Option.bind_some,z5R,q7B k _ 0 s (by have:=q9p h (q4R r (k:Int)); omega),Option.bind_some,q1m (by constructor<;>omega)]; rfl) (fun s=>by
  unfold q1V; dsimp only; rw [if_neg (by omega)]) (fun k _=>z5T h r k) (r.Right.length+1) 0 [] (by omega) (by simp)
 unfold q2f
 have e:q3j (q1V g r) (([]:List Occurrence),0)=some ([]++(List.range' 0 (r.Right.length+1)).flatMap (occK g r)):=key
 rw [e]; rfl
theorem z5U {g:Grammar}(h:GOk g){r:Rule}(hl:ROk r):(occL g r).length≤1099512676352:=by
 obtain⟨l,_,h2,h3⟩:=q9T h hl
 rw [z4Y h hl] at h2
 cases h2; exact h3
def posL (g:Grammar)(r:Rule)(k:Int):List Int:=(((occL g r).zipIdx 0).filter fun q=>decide (q.1.Pos=k)).map fun q=>(q.2:Int)
theorem z5V (k:Int){l:List Occurrence}(h:l.length≤1099512676352):eachL (q2h k) 0 l []=some (((l.zipIdx 0).filter fun q=>decide (q.1.Pos=k)).map fun q=>(q.2:Int)):=by
 have:=z0Q (p:=fun x:Occurrence=>decide (x.Pos=k)) (g:=fun i:Nat=>(i:Int)) (B:=4398046511104) (f:=q2h k) (fun i x s hs=>by
  have hg:((s.length:Int)+1)*8≤140737488355328∧(s.length:Int)+1≤9223372036854775807:=by constructor<;>omega
  unfold q2h
  rw [q1m hg]
  by_cases m1:x.Pos=k
  ·rw [if_pos m1,if_pos (by simp [m1])]; rfl
  ·rw [if_neg m1,if_neg (by simp [m1])]; rfl) l 0 [] (by simp; omega)
 rw [this]; simp
theorem j1p {g:Grammar}(h:GOk g){r:Rule}(hl:ROk r)(k:Int):q2r g r k=some (posL g r k):=by
 unfold q2r posL
 rw [z4Z h hl,Option.bind_some,z5V k (z5U h hl)]; rfl
theorem j1q {g:Grammar}(h:GOk g){r:Rule}(hl:ROk r)(k:Int):q1M g r k=some (posL g r k):=by
 unfold q1M posL
 rw [z4Y h hl,Option.bind_some,q7P,z5V k (z5U h hl)]; rfl
theorem z3Y {α:Type}(p:α→Bool):∀ (l:List α) (i:Nat),((l.zipIdx i).filter fun q=>p q.1).length=l.countP p
 | [],i=>rfl
 | x :: l,i=>by
  rw [List.zipIdx_cons,List.filter_cons,List.countP_cons]
  have ih:=z3Y p l (i+1)
  by_cases hp:p x=true
  ·rw [if_pos hp,if_pos hp,List.length_cons,ih]
  ·rw [if_neg hp,if_neg hp,ih]; rfl
theorem j1r (g:Grammar){r:Rule}{k:Nat}(hk:k≤r.Right.length):(posL g r (k:Int)).length=(q2U g (q4R r (k:Int))).length:=by
 unfold posL
 rw [List.length_map,z3Y (fun x:Occurrence=>decide (x.Pos=(k:Int)))]
 unfold occL
 rw [List.countP_flatMap]
 have hK:∀ j:Nat,(occK g r j).countP (fun x=>decide (x.Pos=(k:Int)))=if j=k then (q2U g (q4R r (k:Int))).length else 0:=by
  intro j
  unfold occK
  rw [List.countP_map]
  by_cases hj:j=k
  ·subst hj
   rw [if_pos rfl,List.countP_eq_length.2 (by simp)]
  ·rw [if_neg hj,List.countP_eq_zero.2]
   intro a _
   simp; omega
 have hsum:∀ m i,((List.range' i m).map (List.countP (fun x:Occurrence=>decide (x.Pos=(k:Int))) ∘ occK g r)).sum=if i≤k∧k < i+m then (q2U g (q4R r (k:Int))).length else 0:=by
  intro m
  induction m with
  | zero=>intro i; rw [if_neg (by omega)]; rfl
  | succ m ih=>
   intro i
   rw [List.range'_succ,List.map_cons,List.sum_cons,ih (i+1),Function.comp,hK i]
   by_cases h1:i=k
   ·rw [if_pos h1,if_neg (by omega),if_pos (by omega)]; rfl
   ·rw [if_neg h1,Nat.zero_add]
    by_cases h2:i+1≤k∧k < i+1+m
    ·rw [if_pos h2,if_pos (by omega)]
    ·rw [if_neg h2,if_neg (by omega)]
 rw [hsum,if_pos (by omega)]
noncomputable def q4x (own:Relation) (a:Nat) (x:Int):Nat→List Int→Relation→Relation
 | _,[],o=>o
 | i,y :: ys,o=>q4x own a x (i+1) ys (if hasP own (a:Int) (i:Int) then addP o x y else o)
noncomputable def q4P (own:Relation) (at' : List Int):Nat→List Int→Relation→Relation
 | _,[],o=>o
 | a,x :: xs,o=>q4P own at' (a+1) xs (q4x own a x 0 at' o)
theorem q9q (own:Relation)(a:Nat)(x:Int):∀ (ys:List Int) (i:Nat) (o:Relation),(q4x own a x i ys o).Rows.length=o.Rows.length∧(q4x own a x i ys o).N=o.N
 | [],i,o=>⟨rfl,rfl⟩
 | y :: ys,i,o=>by
  rw [q4x]
  have ih:=q9q own a x ys (i+1) (if hasP own (a:Int) (i:Int) then addP o x y else o)
  by_cases h:hasP own (a:Int) (i:Int)
  ·rw [if_pos h] at ih ⊢
   have:=q6Y o x y
   exact⟨ih.1.trans this.1,ih.2.trans this.2⟩
  ·rw [if_neg h] at ih ⊢; exact ih
theorem z0T (own:Relation)(at' : List Int):∀ (xs:List Int) (a:Nat) (o:Relation),(q4P own at' a xs o).Rows.length=o.Rows.length∧(q4P own at' a xs o).N=o.N
 | [],a,o=>⟨rfl,rfl⟩
 | x :: xs,a,o=>by
  rw [q4P]
  have ih:=z0T own at' xs (a+1) (q4x own a x 0 at' o)
  have:=q9q own a x at' 0 o
  exact⟨ih.1.trans this.1,ih.2.trans this.2⟩
theorem z8v (own:Relation)(a:Nat)(x:Int):∀ (ys:List Int) (i:Nat) (o:Relation),o.Rows.length≤1048576 →
  eachL (q4L own a x) i ys (o.Rows,o.N)=some ((q4x own a x i ys o).Rows,(q4x own a x i ys o).N)∧eachL (q8C own a x) i ys (o.N,o.Rows)=some ((q4x own a x i ys o).N,(q4x own a x i ys o).Rows)
 | [],i,o,_=>⟨rfl,rfl⟩
 | y :: ys,i,o,h=>by
  have e1:q4L own a x i y (o.Rows,o.N)=some ((if hasP own (a:Int) (i:Int) then addP o x y else o).Rows,(if hasP own (a:Int) (i:Int) then addP o x y else o).N):=by
   unfold q4L
   dsimp only
   rw [q5i,Option.bind_some]
   by_cases hp:hasP own (a:Int) (i:Int)
   ·rw [decide_eq_true hp,if_pos rfl,if_pos hp,z1U h]; rfl
   ·rw [decide_eq_false hp,if_neg (by simp),if_neg hp]; rfl
  have e2:q8C own a x i y (o.N,o.Rows)=some ((if hasP own (a:Int) (i:Int) then addP o x y else o).N,(if hasP own (a:Int) (i:Int) then addP o x y else o).Rows):=by
   unfold q8C
   dsimp only
   rw [z0M,Option.bind_some]
   by_cases hp:hasP own (a:Int) (i:Int)
   ·rw [decide_eq_true hp,if_pos rfl,if_pos hp,z2F,z1U h]; rfl
   ·rw [decide_eq_false hp,if_neg (by simp),if_neg hp]; rfl
  have hl:(if hasP own (a:Int) (i:Int) then addP o x y else o).Rows.length≤1048576:=by
   split
   ·rw [(q6Y o x y).1]; exact h
   ·exact h
  have ih:=z8v own a x ys (i+1) _ hl
  rw [eachL,eachL,e1,e2,Option.bind_some,Option.bind_some,q4x]
  exact ih
theorem z2I (own:Relation)(at' : List Int):∀ (xs:List Int) (a:Nat) (o:Relation),o.Rows.length≤1048576 →
  eachL (q4M own at') a xs (o.Rows,o.N)=some ((q4P own at' a xs o).Rows,(q4P own at' a xs o).N)∧eachL (q8D own at') a xs (o.N,o.Rows)=some ((q4P own at' a xs o).N,(q4P own at' a xs o).Rows)
 | [],a,o,_=>⟨rfl,rfl⟩
 | x :: xs,a,o,h=>by
  have h1:=z8v own a x at' 0 o h
  have hl:(q4x own a x 0 at' o).Rows.length≤1048576:=by rw [(q9q own a x at' 0 o).1]; exact h
  have ih:=z2I own at' xs (a+1) _ hl
  have e1:q4M own at' a x (o.Rows,o.N)=some ((q4x own a x 0 at' o).Rows,(q4x own a x 0 at' o).N):=by
   unfold q4M; dsimp only; rw [h1.1]; rfl
  have e2:q8D own at' a x (o.N,o.Rows)=some ((q4x own a x 0 at' o).N,(q4x own a x 0 at' o).Rows):=by
   unfold q8D; dsimp only; rw [h1.2]; rfl
  rw [eachL,eachL,e1,e2,Option.bind_some,Option.bind_some,q4P]
  exact ih
noncomputable def q7D (g:Grammar) (r:Rule) (o:Relation) (pos:Int) (own:Relation):Relation:=q4P own (posL g r pos) 0 (posL g r pos) o
theorem z8w {g:Grammar}(h:GOk g){r:Rule}(hl:ROk r){o:Relation}(ho:o.Rows.length≤1048576)(pos:Int)(own:Relation):q8E g r o pos own=some (q7D g r o pos own):=by
 unfold q8E q7D
 rw [j1q h hl,Option.bind_some,(z2I own (posL g r pos) (posL g r pos) 0 o ho).2]; rfl
theorem z0U {r:Rule}{k:Nat}{x:ByteArray}(h:r.Right[k]? = some x):q4R r ((k+1:Nat):Int)=x:=by
 have hk:=(List.getElem?_eq_some_iff.1 h).1
 unfold q4R
 rw [if_neg (by omega),if_pos (by omega),show (((k+1:Nat):Int) - 1).toNat=k by omega,List.getD_eq_getElem?_getD,h]; rfl
noncomputable def q6h (g:Grammar) (r:Rule):Nat→List Relation→Relation→Relation
 | _,[],o=>o
 | k,own :: l,o=>q6h g r (k+1) l (q7D g r o ((k+1:Nat):Int) own)
theorem z6V (g:Grammar)(r:Rule)(o:Relation)(pos:Int)(own:Relation):(q7D g r o pos own).Rows.length=o.Rows.length:=(z0T own _ _ 0 o).1
def FitL (g:Grammar)(r:Rule)(list:List Relation):Prop:=list.length=r.Right.length∧∀ k own,list[k]? = some own→Valid own∧own.N=((q2U g (q4R r ((k+1:Nat):Int))).length:Int)
theorem z3Z {g:Grammar}(h:GOk g){r:Rule}(hl:ROk r){list:List Relation}(hf:FitL g r list):∀ (m k:Nat) (o:Relation),k+m=list.length→o.Rows.length≤1048576 →
  findL (q4N g r) k (list.drop k) (o.Rows,o.N)=some (.inl ((q6h g r k (list.drop k) o).Rows,(q6h g r k (list.drop k) o).N)) ∧
  findL (q4J g r) k (list.drop k) (o.N,o.Rows)=some (.inl ((q6h g r k (list.drop k) o).N,(q6h g r k (list.drop k) o).Rows))∧(q6h g r k (list.drop k) o).Rows.length=o.Rows.length
 | 0,k,o,hk,_=>by rw [List.drop_eq_nil_of_le (by omega)]; exact⟨rfl,rfl,rfl⟩
 | m+1,k,o,hk,ho=>by
  have hk' : k < list.length:=by omega
  rw [List.drop_eq_getElem_cons hk']
  have hv:=hf.2 k list[k] (List.getElem?_eq_getElem hk')
  have hR:k < r.Right.length:=by rw [← hf.1]; exact hk'
  have hsym:=z0U (r:=r) (k:=k) (List.getElem?_eq_getElem hR)
  have hpl:=j1r g (r:=r) (k:=k+1) (by omega)
  have e1:q4N g r k list[k] (o.Rows,o.N)=some (.inl ((q7D g r o ((k+1:Nat):Int) list[k]).Rows,(q7D g r o ((k+1:Nat):Int) list[k]).N)):=by
   unfold q4N
   dsimp only
   rw [j1p h hl,Option.bind_some,q3K,Option.bind_some,decide_eq_true hv.1,if_pos rfl,if_pos (by rw [hpl]; exact hv.2),(z2I list[k] _ _ 0 o ho).1]; rfl
  have e2:q4J g r k list[k] (o.N,o.Rows)=some (.inl ((q7D g r o ((k+1:Nat):Int) list[k]).N,(q7D g r o ((k+1:Nat):Int) list[k]).Rows)):=by
   unfold q4J
   dsimp only
   rw [List.getElem?_eq_getElem hR,Option.bind_some,z3X h,Option.bind_some,if_pos (by rw [← hsym]; exact hv.2),z8w h hl ho]; rfl
  have hlen:=z6V g r o ((k+1:Nat):Int) list[k]
  have ih:=z3Z h hl hf m (k+1) (q7D g r o ((k+1:Nat):Int) list[k]) (by omega) (by rw [hlen]; exact ho)
  rw [findL,findL,e1,e2,Option.bind_some,Option.bind_some,q6h]
  exact⟨ih.1,ih.2.1,ih.2.2.trans hlen⟩
noncomputable def locR (g:Grammar) (r:Rule):Relation:=(q2t g r).getD ⟨0,[]⟩
theorem j0n {g:Grammar}{r:Rule}(h:Sz.szd g≤1048576)(hr:Sz.szd r≤1048576):q2t g r=some (locR g r)∧q2Y g r=some (locR g r)∧(locR g r).Rows.length≤16:=by
 obtain⟨x,h1,h2,h3⟩:=z6T h hr
 unfold locR
 rw [h1,h2]; exact⟨rfl,rfl,h3⟩
noncomputable def q6L (g:Grammar) (r:Rule) (list:List Relation):Relation:=if 16 < (occL g r).length then ⟨0,[]⟩ else q4v (q6h g r 0 list (locR g r))
theorem z8x {g:Grammar}{r:Rule}(h:Sz.szd g≤1048576)(hr:Sz.szd r≤1048576){list:List Relation}(hf:FitL g r list):q3n g r list=some (q6L g r list)∧q2C g r list=some (q6L g r list)∧(q6L g r list).Rows.length≤16:=by
 have hg:=z0P h
 have hl:=q9U hr
 obtain⟨l1,l2,l3⟩:=j0n h hr
 have hn:(list.length:Int)=(r.Right.length:Int):=by rw [hf.1]
 unfold q3n q2C
 rw [z4Z hg hl,z4Y hg hl]
 simp only [Option.bind_some]
 rw [if_pos hn,if_pos hn]
 simp only [Option.bind_some]
 by_cases h16:16 < (occL g r).length
 ·have hi:(16:Int) < ((occL g r).length:Int):=by omega
  have hc:q6L g r list=⟨0,[]⟩:=if_pos h16
  rw [hc,decide_eq_true hi,if_pos rfl,if_pos hi]
  exact⟨rfl,rfl,by simp⟩
 ·have hi:¬ (16:Int) < ((occL g r).length:Int):=by omega
  have hc:q6L g r list=q4v (q6h g r 0 list (locR g r)):=if_neg h16
  rw [hc,decide_eq_false hi,if_neg (by simp),if_neg hi,l1,l2,Option.bind_some,Option.bind_some]
  have key:=z3Z hg hl hf list.length 0 (locR g r) (by omega) (by omega)
  rw [List.drop_zero] at key
  have hlen:(q6h g r 0 list (locR g r)).Rows.length≤16:=by rw [key.2.2]; exact l3
  rw [key.1,key.2.1,Option.bind_some,Option.bind_some,z4h,z4h]
  dsimp only
  rw [z8h (r:=⟨(q6h g r 0 list (locR g r)).N,(q6h g r 0 list (locR g r)).Rows⟩) (by show (q6h g r 0 list (locR g r)).Rows.length≤_; omega),z8i (r:=⟨(q6h g r 0 list (locR g r)).N,(q6h g r 0 list (locR g r)).Rows⟩) (by show (q6h g r 0 list (locR g r)).Rows.length≤_; omega)]
  exact⟨rfl,rfl,by rw [(q7L _).1]; exact hlen⟩
end Go.Proofs.YtiojgbiimbefiaaGreat
namespace Go.Proofs.YtiojgbiimbefiaaGreat
open Go Go.E
section
variable {α β ρ σ:Type}{Q:β→Prop}{b:List UInt8}
theorem Ok.bif {c:Prop}[Decidable c]{A B:Option α}{k:α→Option β}(h1:c→Ok Q (A.bind k))(h2:¬ c→Ok Q (B.bind k)):Ok Q ((if c then A else B).bind k):=by
 by_cases hc:c
 ·rw [if_pos hc]; exact h1 hc
 ·rw [if_neg hc]; exact h2 hc
theorem Ok.bso {x:α}{k:α→Option β}(h:Ok Q (k x)):Ok Q ((some x).bind k):=h
theorem Ok.bbi {γ:Type}{A:Option α}{B:α→Option γ}{k:γ→Option β}(h:Ok Q (A.bind fun x=>(B x).bind k)):Ok Q ((A.bind B).bind k):=by
 rw [Option.bind_assoc]; exact h
theorem Ok.bgr {c:Prop}[Decidable c]{A:Option α}{k:α→Option β}(hc:c)(h:Ok Q (A.bind k)):Ok Q ((Go.E.grd c A).bind k):=by rw [q1m hc]; exact h
theorem Ok.get {l:List α}{j:Nat}{k:α→Option β}(hj:j < l.length)(h:∀ x,x∈l→Ok Q (k x)):Ok Q ((l[j]?).bind k):=by
 obtain⟨x,hx⟩:∃ x,l[j]? = some x:=⟨_,List.getElem?_eq_getElem hj⟩
 rw [hx]; exact h x (List.mem_of_getElem? hx)
theorem Ok.eq {A:Option α}{x:α}{k:α→Option β}(hA:A=some x)(h:Ok Q (k x)):Ok Q (A.bind k):=by rw [hA]; exact h
theorem drK {P:α→Prop}{o:Option (α × l1Cur)}(ho:Dr b P o){k:α × l1Cur→Option β}(hk:∀ y i' h',P y→0≤i'→Ok Q (k (y,⟨b,i',h'⟩))):Ok Q (o.bind k):=by
 obtain⟨⟨y,z⟩,rfl,hy,hz,he⟩:=ho
 obtain⟨zb,zi,zh⟩:=z
 dsimp only at he hz hy
 subst he
 exact hk y zi zh hy hz
theorem cb {i h:Int}(hi:0≤i):CB b ⟨b,i,h⟩:=⟨hi,rfl⟩
theorem Dr.re {P:α→Prop}{y:α}{i h:Int}(hy:P y)(hi:0≤i):Dr b P (some (y,(⟨b,i,h⟩:l1Cur))):=⟨_,rfl,hy,hi,rfl⟩
theorem z2J {P:σ→Prop}{Q:ρ→Prop}{f:σ→Option (σ ⊕ ρ)}(μ:σ→Nat)(hf:∀ s,P s→Ok (fun z=>match z with | .inl s'=>P s'∧μ s' < μ s | .inr r=>Q r) (f s)):∀ s,P s→Ok Q (q3j f s):=by
 have key:∀ n s,μ s < n→P s→Ok Q (q3j f s):=by
  intro n
  induction n with
  | zero=>intro s h; omega
  | succ n ih=>
   intro s h hp
   obtain⟨z,hz,hq⟩:=hf s hp
   cases z with
   | inl s'=>rw [q3p hz]; exact ih s' (by have:=hq.2; omega) hq.1
   | inr r=>exact⟨r,q2s hz,hq⟩
 exact fun s hs=>key _ s (Nat.lt_succ_self _) hs
end
theorem z5a {α β:Type}{Q:β→Prop}(P:Nat→List α→Prop){f:Nat→Int × Int × List α→Option (Int × Int × List α)}{k:Int × Int × List α→Option β}{n:Nat}{i h:Int}{l:List α}(hi:0≤i)(h0:P 0 l)
  (hf:∀ j l i h,j < n→0≤i→P j l→Ok (fun s:Int × Int × List α=>0≤s.1∧P (j+1) s.2.2) (f j (i,h,l))) (hk:∀ l i h,0≤i→P n l→Ok Q (k (i,h,l))):Ok Q ((eachN f 0 n (i,h,l)).bind k):=by
 obtain⟨s,e,h1⟩:=z2E (P:=fun k (s:Int × Int × List α)=>0≤s.1∧P k s.2.2) (f:=f) (n:=n) (i:=0) (s:=(i,h,l)) ⟨hi,h0⟩ fun j s _ hj hs=>hf j _ _ _ (by omega) hs.1 hs.2
 rw [e]
 rw [Nat.zero_add] at h1
 exact hk _ _ _ h1.1 h1.2
theorem j1s {γ α β:Type}{Q:β→Prop}(P:Nat→List α→Prop){f:Nat→γ→Int × Int × List α→Option (Int × Int × List α)}{k:Int × Int × List α→Option β}{xs:List γ}{i h:Int}{l:List α}(hi:0≤i)(h0:P 0 l)
  (hf:∀ j x l i h,x∈xs→j < xs.length→0≤i→P j l→Ok (fun s:Int × Int × List α=>0≤s.1∧P (j+1) s.2.2) (f j x (i,h,l))) (hk:∀ l i h,0≤i→P xs.length l→Ok Q (k (i,h,l))):Ok Q ((eachL f 0 xs (i,h,l)).bind k):=by
 obtain⟨s,e,h1⟩:=q9S (P:=fun k (s:Int × Int × List α)=>0≤s.1∧P k s.2.2) (f:=f) (xs:=xs) (i:=0) (s:=(i,h,l)) ⟨hi,h0⟩ fun j x s hx _ hj hs=>hf j x _ _ _ hx (by omega) hs.1 hs.2
 rw [e]
 rw [Nat.zero_add] at h1
 exact hk _ _ _ h1.1 h1.2
def SB (s:Symbol):Prop:=s.Name.size≤8∧1≤s.Attributes.length∧s.Attributes.length≤5∧∀ a∈s.Attributes,a.Name.size≤8
def RB (r:Rule):Prop:=r.Name.size≤8∧r.Left.size≤8∧r.Right.length≤5∧(∀ x∈r.Right,x.size≤8)
def SBs (l:List Symbol):Prop:=1≤l.length∧l.length≤3∧∀ s∈l,SB s
theorem z4a {α:Type}[Sz α]{m:Nat}:∀ {l:List α},(∀ x∈l,Sz.szd x≤m)→szL l≤l.length*(m+1)
 | [],_=>by simp [szL]
 | x :: l,h=>by
  have h1:=z4a (m:=m) (l:=l) fun y hy=>h y (by simp [hy])
  have h2:=h x (by simp)
  simp only [szL,List.length_cons,Nat.add_mul]; omega
theorem RB.rok {r:Rule}(h:RB r):ROk r:=by have:=h.2.2.1; show r.Right.length≤1048576; omega
section
variable {b:List UInt8}(hb:b.length≤1048576)
include hb
theorem j2e {x:ByteArray}(h:x∈[(⟨#[97]⟩:ByteArray),(⟨#[98]⟩:ByteArray),(⟨#[99]⟩:ByteArray),(⟨#[100]⟩:ByteArray)]):x.size≤8:=by
 simp only [List.mem_cons,List.not_mem_nil,or_false] at h
 rcases h with h | h | h | h<;>rw [h]<;>decide
theorem j0o {nm:ByteArray}(hn:nm.size≤8)(a2 a3:Bool){i h:Int}(hi:0≤i):Dr b SB (q6t nm a2 a3 ⟨b,i,h⟩):=by
 unfold q6t
 refine drK (q1C hb 4 ⟨hi,rfl⟩) fun y i1 h1 hy hi1=>?_
 have h4:=hy.2.1 (by omega)
 refine .grd (by constructor<;>omega) ?_
 refine z5a (fun k l=>l.length=k∧∀ a∈l,a.Name.size≤8) hi1 ⟨rfl,by simp⟩ (fun k s1 s2 s3 hk hs1 hs=>?_) fun s1 i2 h2 p1 hs=>?_
 ·obtain⟨hs2,hs3⟩:=hs
  unfold z1A
  dsimp only
  refine .bbi (.get (by simp; omega) fun x1 hx1=>?_)
  have hx1:=j2e hb hx1
  have fin:∀ (t m:Int) (i' h' : Int),0≤i'→Ok (fun s:Int × Int × List Attribute=>0≤s.1∧(s.2.2.length=k+1∧∀ a∈s.2.2,a.Name.size≤8)) (some (i',h',s1++[(⟨x1,t,m,false⟩:Attribute)])):=fun t m i' h' hi'=>by
   refine .ret ⟨hi',by simp [hs2],fun a ha=>?_⟩
   simp only [List.mem_append,List.mem_cons,List.not_mem_nil,or_false] at ha
   rcases ha with ha | ha
   ·exact hs3 a ha
   ·rw [ha]; exact hx1
  refine .bbi (drK (q4d hb (by simp) ⟨hs1,rfl⟩) fun t i2 h2 _ hi2=>?_)
  refine .bbi (drK (q4d hb (by simp) ⟨hi2,rfl⟩) fun m i3 h3 _ hi3=>?_)
  cases a2<;>cases a3<;>dsimp only
  all_goals
   repeat' first
    | ((with_reducible refine .bso ?_); try dsimp only)
    | (with_reducible exact fin _ _ _ _ (by assumption))
    | ((with_reducible refine .bbi ?_); try dsimp only)
    | (with_reducible refine .bif (fun _=>?_) fun _=>?_)
    | (with_reducible refine .ite (fun _=>?_) fun _=>?_)
    | ((with_reducible refine drK (q3S hb _ (cb (by assumption))) fun _ _ _ _ _=>?_); try dsimp only)
    | ((with_reducible refine drK (q4d hb (by simp) (cb (by assumption))) fun _ _ _ _ _=>?_); try dsimp only)
    | ((with_reducible refine drK (q1C hb _ (cb (by assumption))) fun _ _ _ _ _=>?_); try dsimp only)
    | (refine .bgr (by constructor<;>omega) ?_)
    | (refine .grd (by constructor<;>omega) ?_)
 ·obtain⟨p2,p3⟩:=hs
  dsimp only
  exact Dr.re ⟨hn,by dsimp only; omega,by dsimp only; omega,p3⟩ p1
end
end Go.Proofs.YtiojgbiimbefiaaGreat
namespace Go.Proofs.YtiojgbiimbefiaaGreat
open Go Go.E
theorem q9V {g:Grammar}(h:SBs g.Symbols)(nm:ByteArray):(q7a g nm).1.Attributes.length≤5∧∀ a∈(q7a g nm).1.Attributes,a.Name.size≤8:=by
 unfold q7a
 split
 ·rename_i y hy
  have:=h.2.2 y (List.mem_of_find?_eq_some hy)
  exact⟨this.2.2.1,this.2.2.2⟩
 ·exact⟨by simp [zS],by simp [zS]⟩
theorem z9G {y:Symbol}(h:∀ a∈y.Attributes,a.Name.size≤8)(nm:ByteArray):q3L y nm=some (z9D y nm):=by
 unfold q3L z9D
 rw [q5J (p:=fun a=>decide (a.Name=nm)) (r:=fun a=>(a,true)) fun k x _=>⟨fun hp=>by unfold q4W; rw [if_pos (by simpa using hp)],fun hp=>by unfold q4W; rw [if_neg (by simpa using hp)]⟩]
 cases y.Attributes.find? fun a=>decide (a.Name=nm)<;>rfl
theorem SBs.g {g:Grammar}(h:SBs g.Symbols):GOk g:=fun y hy=>by have:=(h.2.2 y hy).2.2.1; omega
theorem z9H {g:Grammar}(hs:SBs g.Symbols){r:Rule}(hr:r.Right.length≤5)(k:Int):Ok (fun q=>∀ o∈q,o.Name.size≤8) (q5m g r k):=by
 unfold q5m
 refine Ok.bind (Q:=fun q=>∀ o∈q,o.Name.size≤8) (z2J (P:=fun s:List Occurrence × Int=>0≤s.2∧s.2≤r.Right.length+1∧(s.1.length:Int)≤5*s.2∧∀ o∈s.1,o.Name.size≤8) (fun s=>(r.Right.length+1 - s.2).toNat) ?_ _ ⟨by simp,by simp; omega,by simp,by simp⟩) fun q hq=>.ret hq
 rintro⟨q,p⟩ ⟨h1,h2,h3,h4⟩
 dsimp only at h1 h2 h3 h4
 unfold z3x
 dsimp only
 refine .ite (fun hp=>?_) fun _=>.ret h4
 refine .eq (z0S (show r.Right.length≤1048576 by omega) p) ?_
 refine .eq (q8O hs.g _) ?_
 have hff:=q9V hs (q4R r p)
 generalize q7a g (q4R r p)=fs at hff
 obtain⟨y,yb⟩:=fs
 obtain⟨f1,f2⟩:=hff
 dsimp only at f1 f2 ⊢
 refine Ok.bind (Q:=fun q'=>q'.length≤q.length+5∧∀ o∈q',o.Name.size≤8) ((q9S (P:=fun k q'=>q'.length≤q.length+k∧∀ o∈q',o.Name.size≤8) (i:=0) ⟨by omega,h4⟩ ?_).mono fun q' hq=>⟨by omega,hq.2⟩) fun q' hq=>.grd (by constructor<;>omega) (.ret ⟨⟨by dsimp only; omega,by dsimp only; omega,by dsimp only; omega,hq.2⟩,by dsimp only; omega⟩)
 intro j a l ha _ hj hl
 have hl1:=hl.1
 have hl2:=hl.2
 have ha:=f2 a ha
 unfold z3w
 dsimp only
 have e1:Ok (fun q' : List Occurrence=>q'.length≤q.length+(j+1)∧∀ o∈q',o.Name.size≤8) (some l):=.ret ⟨by omega,hl2⟩
 have e2:Ok (fun q' : List Occurrence=>q'.length≤q.length+(j+1)∧∀ o∈q',o.Name.size≤8) (some (l++[(⟨p,a.Name⟩:Occurrence)])):=.ret ⟨by simp; omega,fun o ho=>by
  simp only [List.mem_append,List.mem_cons,List.not_mem_nil,or_false] at ho
  rcases ho with ho | ho
  ·exact hl2 o ho
  ·rw [ho]; exact ha⟩
 have hb:([]:List UInt8).length≤1048576:=by simp
 repeat' first
  | ((with_reducible refine .bso ?_); try dsimp only)
  | (with_reducible exact e1)
  | (with_reducible exact e2)
  | ((with_reducible refine .bbi ?_); try dsimp only)
  | (with_reducible refine .bif (fun _=>?_) fun _=>?_)
  | (with_reducible refine .ite (fun _=>?_) fun _=>?_)
  | ((with_reducible refine drK (q3S hb _ (cb (by assumption))) fun _ _ _ _ _=>?_); try dsimp only)
  | ((with_reducible refine drK (q4d hb (by simp) (cb (by assumption))) fun _ _ _ _ _=>?_); try dsimp only)
  | ((with_reducible refine drK (q1C hb _ (cb (by assumption))) fun _ _ _ _ _=>?_); try dsimp only)
  | (refine .bgr (by constructor<;>omega) ?_)
  | (refine .grd (by constructor<;>omega) ?_)
theorem j2t (a:Int):Ok (fun _=>True) (q2e a):=by
 unfold q2e
 rw [q4e,Option.bind_some,q4e,Option.bind_some]
 repeat' first
  | exact .ret trivial
  | refine .ite (fun _=>?_) fun _=>?_
theorem j2u (a:Int)(x y:Expr):q5O a x y=some (⟨4,a,0,0,(⟨#[]⟩:ByteArray),(⟨#[]⟩:ByteArray),[x,y]⟩:Expr):=rfl
theorem j1t (g:Grammar)(r:Rule)(rem:Bool):∀ (m n1 n2:Nat),m < n1→m < n2→∀ (k d:Int) (o:l1Cur),d≤m+1→q2x n1 g r k d rem o=q2x n2 g r k d rem o:=by
 intro m
 induction m with
 | zero=>
  intro n1 n2 h1 h2 k d o hd
  obtain⟨n1,rfl⟩:∃ q,n1=q+1:=⟨n1 - 1,by omega⟩
  obtain⟨n2,rfl⟩:∃ q,n2=q+1:=⟨n2 - 1,by omega⟩
  show q2P (q2x n1) g r k d rem o=q2P (q2x n2) g r k d rem o
  unfold q2P
  simp only [if_pos (show d < 2 by omega),Option.bind_some,if_true]
 | succ m ih=>
  intro n1 n2 h1 h2 k d o hd
  obtain⟨n1,rfl⟩:∃ q,n1=q+1:=⟨n1 - 1,by omega⟩
  obtain⟨n2,rfl⟩:∃ q,n2=q+1:=⟨n2 - 1,by omega⟩
  show q2P (q2x n1) g r k d rem o=q2P (q2x n2) g r k d rem o
  have h:∀ k o,q2x n1 g r k (d - 1) rem o=q2x n2 g r k (d - 1) rem o:=fun k o=>ih n1 n2 (by omega) (by omega) k (d - 1) o (by omega)
  unfold q2P
  simp only [h]
section
variable {b:List UInt8}(hb:b.length≤1048576)
include hb
theorem z9I {g:Grammar}(hs:SBs g.Symbols){r:Rule}(hr:r.Right.length≤5)(rem:Bool):∀ (m n:Nat),m < n→∀ (k d i h:Int),d≤m+1→-1000+m≤d→d≤1000→0≤i→Dr b (fun e=>Sz.szd e≤fb m) (q2x n g r k d rem ⟨b,i,h⟩):=by
 intro m
 induction m with
 | zero=>
  intro n hn k d i h hd hd0 hd1 hi
  obtain⟨n,rfl⟩:∃ q,n=q+1:=⟨n - 1,by omega⟩
  show Dr b _ (q2P (q2x n) g r k d rem ⟨b,i,h⟩)
  unfold q2P
  rw [if_pos (show d < 2 by omega)]
  dsimp only
  rw [Option.bind_some]
  dsimp only
  rw [if_pos rfl]
  unfold Dr
  have hf:=z1S hb 0
  repeat' first
   | ((with_reducible refine .bso ?_); try dsimp only)
   | ((with_reducible refine .bind (z9H hs hr _) fun _ _=>?_))
   | ((with_reducible refine drK (q9k hb _ (by assumption) (cb (by assumption))) fun _ _ _ _ _=>?_); try dsimp only)
   | ((with_reducible refine .bbi ?_); try dsimp only)
   | (with_reducible refine .bif (fun _=>?_) fun _=>?_)
   | (with_reducible refine .ite (fun _=>?_) fun _=>?_)
   | ((with_reducible refine drK (q3S hb _ (cb (by assumption))) fun _ _ _ _ _=>?_); try dsimp only)
   | ((with_reducible refine drK (q4d hb (by simp) (cb (by assumption))) fun _ _ _ _ _=>?_); try dsimp only)
   | ((with_reducible refine drK (q1C hb _ (cb (by assumption))) fun _ _ _ _ _=>?_); try dsimp only)
   | (refine .bgr (by constructor<;>omega) ?_)
   | (refine .grd (by constructor<;>omega) ?_)
  all_goals refine⟨_,rfl,?_,by assumption,rfl⟩
  all_goals dsimp only
  all_goals first
   | (rw [z1R hb,q5D hb]; omega)
   | omega
 | succ m ih=>
  intro n hn k d i h hd hd0 hd1 hi
  obtain⟨n,rfl⟩:∃ q,n=q+1:=⟨n - 1,by omega⟩
  have hr1:∀ k i h,0≤i→Dr b (fun e=>Sz.szd e≤fb m) (q2x n g r k (d - 1) rem ⟨b,i,h⟩):=fun k i h hi=>ih n (by omega) k (d - 1) i h (by omega) (by omega) (by omega) hi
  show Dr b _ (q2P (q2x n) g r k d rem ⟨b,i,h⟩)
  unfold q2P Dr
  dsimp only
  have hl:=hs.1
  have hf:=z1S hb m
  have hg:=z8a hb m
  have hid:I64 (d - 1):=by constructor<;>omega
  repeat' first
   | ((with_reducible refine .bso ?_); try dsimp only)
   | ((with_reducible refine .bind (z9H hs hr _) fun _ _=>?_))
   | ((with_reducible refine drK (q9k hb _ (by assumption) (cb (by assumption))) fun _ _ _ _ _=>?_); try dsimp only)
   | ((with_reducible refine drK (hr1 _ _ _ (by assumption)) fun _ _ _ _ _=>?_); try dsimp only)
   | ((with_reducible refine .bind (j2t _) fun _ _=>?_); try dsimp only)
   | ((with_reducible refine .eq (j2u _ _ _) ?_); try dsimp only)
   | ((with_reducible refine .grd hid ?_))
   | ((with_reducible refine .grd (by omega) ?_))
   | ((with_reducible refine .get (l:=g.Symbols) (by omega) fun x hx=>?_); obtain⟨_,_,_,hat⟩:=hs.2.2 x hx)
   | ((with_reducible refine .get (by omega) fun x hx=>?_); have hxn:=hat x hx)
   | ((with_reducible refine .bbi ?_); try dsimp only)
   | (with_reducible refine .bif (fun _=>?_) fun _=>?_)
   | (with_reducible refine .ite (fun _=>?_) fun _=>?_)
   | ((with_reducible refine drK (q3S hb _ (cb (by assumption))) fun _ _ _ _ _=>?_); try dsimp only)
   | ((with_reducible refine drK (q4d hb (by simp) (cb (by assumption))) fun _ _ _ _ _=>?_); try dsimp only)
   | ((with_reducible refine drK (q1C hb _ (cb (by assumption))) fun _ _ _ _ _=>?_); try dsimp only)
   | (refine .bgr (by constructor<;>omega) ?_)
   | (refine .grd (by constructor<;>omega) ?_)
  all_goals refine⟨_,rfl,?_,by assumption,rfl⟩
  all_goals dsimp only at *
  all_goals first
   | (rw [z1R hb,q5D hb]; omega)
   | (rw [j0i hb]; omega)
   | (rw [z7Z hb,q5D hb]; omega)
   | (rw [z5M hb,q5D hb]; omega)
   | omega
theorem j1u {g:Grammar}(hs:SBs g.Symbols){r:Rule}(hr:r.Right.length≤5)(rem:Bool)(k d i h:Int)(h0:0≤d)(h3:d≤3)(hi:0≤i):Dr b (fun e=>Sz.szd e≤320) (q8Z g r k d rem ⟨b,i,h⟩):=
 z7Y (N:=3) (fun n hn=>j1t g r rem 2 (n+1) n (by omega) (by omega) k d _ (by omega)) (z9I hb hs hr rem 2 3 (by omega) k d i h (by omega) (by omega) (by omega) hi)
end
end Go.Proofs.YtiojgbiimbefiaaGreat
namespace Go.Proofs.YtiojgbiimbefiaaGreat
open Go Go.E
theorem z5W {α β:Type}{f:α→List β}{C:Nat}(h:∀ x,(f x).length≤C):∀ l:List α,(l.flatMap f).length≤l.length*C
 | []=>by simp
 | x :: l=>by
  have h1:=z5W h l
  have h2:=h x
  simp only [List.flatMap_cons,List.length_append,List.length_cons,Nat.add_mul]; omega
theorem z8y {g:Grammar}(hs:SBs g.Symbols)(r:Rule)(k:Nat):(reqK g r k).length≤5∧∀ o∈reqK g r k,o.Name.size≤8:=by
 obtain⟨f1,f2⟩:=q9V hs (q4R r (k:Int))
 unfold reqK
 refine⟨by rw [List.length_map]; exact Nat.le_trans (List.length_filter_le _ _) f1,fun o ho=>?_⟩
 obtain⟨a,ha,rfl⟩:=List.mem_map.1 ho
 exact f2 a (List.mem_filter.1 ha).1
theorem j1v {g:Grammar}(hs:SBs g.Symbols){r:Rule}(hr:r.Right.length≤5):(reqL g r).length≤30∧∀ o∈reqL g r,o.Name.size≤8:=by
 unfold reqL
 refine⟨?_,fun o ho=>?_⟩
 ·have:=z5W (C:=5) (fun k=>(z8y hs r k).1) (List.range' 0 (r.Right.length+1))
  rw [List.length_range'] at this
  omega
 ·obtain⟨k,_,hk⟩:=List.mem_flatMap.1 ho
  exact (z8y hs r k).2 o hk
theorem q8Q {α:Type}[Sz α](l:List α)(x:α):szL (l++[x])=szL l+(1+Sz.szd x):=by rw [q8R]; rfl
theorem z4b (o:Occurrence)(e:Expr):Sz.szd (⟨o,e⟩:Equation)=o.Name.size+Sz.szd e:=by rw [q9A,q3i]; dsimp only; omega
theorem j0p (s m:ByteArray)(e f:Expr):Sz.szd (⟨s,m,e,f⟩:Contribution)=s.size+m.size+Sz.szd e+Sz.szd f:=by rw [q9J,q3i,q3i]; dsimp only; omega
section
variable {b:List UInt8}(hb:b.length≤1048576)
include hb
theorem j1w {g:Grammar}(hs:SBs g.Symbols){r:Rule}(hr:RB r)(he:r.Equations=[])(rem:Bool){i h:Int}(hi:0≤i):Dr b (fun q=>RB q∧szL q.Equations≤12000∧q.Contributions=r.Contributions) (q6w g r rem ⟨b,i,h⟩):=by
 have h5:=hr.2.2.1
 obtain⟨q1,q2⟩:=j1v hs h5
 unfold q6w
 refine .eq (j1m hs.g hr.rok) ?_
 refine j1s (fun j (l:List Equation)=>l.length=j∧szL l≤j*400) hi (by rw [he]; exact⟨rfl,by simp [szL]⟩) (fun j x l i h hx hj hi hl=>?_) fun l i h hi hl=>?_
 ·obtain⟨hl1,hl2⟩:=hl
  have hx:=q2 x hx
  have fin:∀ (e:Expr) (i' h' : Int),Sz.szd e≤320→0≤i'→Ok (fun s:Int × Int × List Equation=>0≤s.1∧(s.2.2.length=j+1∧szL s.2.2≤(j+1)*400)) (some (i',h',l++[(⟨x,e⟩:Equation)])):=fun e i' h' h1 hi'=>.ret ⟨hi',by simp [hl1],by dsimp only; rw [q8Q,z4b]; omega⟩
  unfold z0z
  dsimp only
  refine .bbi (.eq (z0S (show r.Right.length≤1048576 by omega) _) ?_)
  refine .bbi (.eq (q8O hs.g _) ?_)
  have hff:=q9V hs (q4R r x.Pos)
  generalize q7a g (q4R r x.Pos)=fs at hff
  obtain⟨y,yb⟩:=fs
  obtain⟨f1,f2⟩:=hff
  dsimp only at f1 f2 ⊢
  refine .bbi (.eq (z9G f2 _) ?_)
  generalize z9D y x.Name=fa
  obtain⟨a,ab⟩:=fa
  dsimp only
  refine .bbi (drK (q1C hb 3 (cb hi)) fun d i1 h1 hd hi1=>?_)
  have hd3:=hd.2.1 (by omega)
  refine .bgr (by constructor<;>omega) ?_
  refine .bbi (drK (j1u hb hs (r:=⟨r.Name,r.Left,r.Right,r.Literal,l,r.Contributions⟩) h5 rem _ _ _ _ (by omega) (by omega) hi1) fun e i2 h2 he2 hi2=>?_)
  dsimp only at he2 ⊢
  refine .bbi (.eq (z0O (by have:=z8c hb he2; omega)) ?_)
  refine .bif (fun _=>?_) fun _=>?_
  ·refine .bgr (by constructor<;>omega) ?_
   exact fin _ _ _ he2 hi2
  ·refine .bbi (drK (q9k hb _ (by simp) (cb hi2)) fun e3 i3 h3 he3 hi3=>?_)
   refine .bgr (by constructor<;>omega) ?_
   exact fin _ _ _ (by show Sz.szd e3≤320; have:Sz.szd e3≤8:=he3; omega) hi3
 ·exact⟨_,rfl,⟨hr,by have:=hl.2; dsimp only; omega,rfl⟩,hi,rfl⟩
theorem j2f {g:Grammar}(hs:SBs g.Symbols){r:Rule}(hr:RB r)(hc:r.Contributions=[]){i h:Int}(hi:0≤i):Dr b (fun q=>RB q∧q.Equations=r.Equations∧szL q.Contributions≤200) (q7o g r ⟨b,i,h⟩):=by
 have h5:=hr.2.2.1
 unfold q7o
 refine j1s (fun _ (l:List Contribution)=>l.length≤2∧szL l≤l.length*40) hi (by rw [hc]; simp [szL]) (fun j x l i h hx hj hi hl=>?_) fun l i h hi hl=>?_
 ·obtain⟨s1,_,_,s2⟩:=hs.2.2 x hx
  unfold z1D
  dsimp only
  refine j1s (fun _ (l:List Contribution)=>l.length≤2∧szL l≤l.length*40) hi hl (fun j2 a l i h ha hj hi hl=>?_) fun l i h hi hl=>.ret ⟨hi,hl⟩
  have ha:=s2 a ha
  unfold z1C
  dsimp only
  refine .bbi ?_
  refine .bif (fun _=>.bso ?_) fun _=>.bso ?_
  ·refine .bbi ?_
   refine .bif (fun h2=>?_) fun _=>.bso ?_
   ·have hl2:l.length < 2:=by have:=of_decide_eq_true h2; omega
    refine .bbi (drK (q3S hb _ (cb hi)) fun y i1 h1 _ hi1=>?_)
    refine .bso ?_
    dsimp only
    refine .bif (fun _=>?_) fun _=>.bso ?_
    ·refine .bbi (.bind (z9H hs (r:=⟨r.Name,r.Left,r.Right,r.Literal,r.Equations,l⟩) h5 _) fun q hq=>?_)
     refine .bbi (drK (q9k hb _ hq (cb hi1)) fun e i2 h2 he hi2=>?_)
     refine .bbi (.bind (z9H hs (r:=⟨r.Name,r.Left,r.Right,r.Literal,r.Equations,l⟩) h5 _) fun q3 hq3=>?_)
     refine .bbi (drK (q9k hb _ hq3 (cb hi2)) fun e3 i3 h3 he3 hi3=>?_)
     refine .bgr (by constructor<;>omega) ?_
     refine .bso (.ret ⟨hi3,by dsimp only; simp; omega,?_⟩)
     dsimp only at he he3 ⊢
     rw [q8Q,j0p,List.length_append,List.length_singleton]
     have:=hl.2
     omega
    ·exact .ret ⟨hi1,hl⟩
   ·dsimp only
    refine .bif (fun h=>by cases h) fun _=>.bso (.ret ⟨hi,hl⟩)
  ·refine .bbi ?_
   refine .bif (fun h=>by cases h) fun _=>.bso ?_
   dsimp only
   refine .bif (fun h=>by cases h) fun _=>.bso (.ret ⟨hi,hl⟩)
 ·refine⟨_,rfl,⟨hr,rfl,?_⟩,hi,rfl⟩
  have:=hl.1
  have:=hl.2
  dsimp only
  have h80:l.length*40≤80:=by omega
  omega
end
theorem j2g {k:Nat}(hk:k < 2):Ok (fun x=>x.size≤1) (q4r (k:Int)):=by
 have:k=0∨k=1:=by omega
 rcases this with rfl | rfl
 ·exact⟨⟨#[48]⟩,by unfold q4r; rfl,by decide⟩
 ·refine⟨⟨#[49]⟩,?_,by decide⟩
  unfold q4r
  rw [if_neg (by decide)]
  have h1:q5y (((1:Nat):Int),(⟨#[]⟩:ByteArray))=some (.inl (0,⟨#[49]⟩)):=by
   unfold q5y
   dsimp only
   rw [if_neg (by decide),if_neg (by decide),q1m (by constructor<;>decide),q1m (by decide),q1m (by constructor<;>decide)]
   rfl
  have h2:q5y (0,(⟨#[49]⟩:ByteArray))=some (.inr ⟨#[49]⟩):=rfl
  rw [q3p h1,q2s h2]
  rfl
end Go.Proofs.YtiojgbiimbefiaaGreat
namespace Go.Proofs.YtiojgbiimbefiaaGreat
open Go Go.E
def R0 (r:Rule):Prop:=RB r∧r.Equations=[]∧r.Contributions=[]
def R1 (r:Rule):Prop:=RB r∧szL r.Equations≤12000∧szL r.Contributions≤200
theorem R0.r1 {r:Rule}(h:R0 r):R1 r:=⟨h.1,by rw [h.2.1]; simp [szL],by rw [h.2.2]; simp [szL]⟩
def GB (g:Grammar):Prop:=SBs g.Symbols∧1≤g.Rules.length∧g.Rules.length≤8∧∀ r∈g.Rules,R1 r
theorem stu {x:ByteArray}{n:Nat}(h:x∈[(⟨#[115]⟩:ByteArray),(⟨#[116]⟩:ByteArray),(⟨#[117]⟩:ByteArray)].take n):x.size=1:=by
 have h:=List.mem_of_mem_take h
 simp only [List.mem_cons,List.not_mem_nil,or_false] at h
 rcases h with h | h | h<;>rw [h]<;>rfl
theorem bsz (x y:ByteArray):(x++y).size=x.size+y.size:=ByteArray.size_append
section
variable {b:List UInt8}(hb:b.length≤1048576)
include hb
theorem z8z (pl:Bool){i h:Int}(hi:0≤i):Dr b GB (q6x pl ⟨b,i,h⟩):=by
 unfold q6x
 refine drK (q1C hb 3 (cb hi)) fun y i1 h1 hy hi1=>?_
 have h3:=hy.2.1 (by omega)
 have h0:=hy.1
 dsimp only
 refine .grd (by constructor<;>omega) (.grd (by omega) (.grd (by simp; omega) ?_))
 have hlen:([(⟨#[115]⟩:ByteArray),(⟨#[116]⟩:ByteArray),(⟨#[117]⟩:ByteArray)].take ((1+y).toNat)).length=(1+y).toNat:=by rw [List.length_take]; simp; omega
 refine z5a (fun k (l:List Symbol)=>l.length=k∧∀ s∈l,SB s) hi1 ⟨rfl,by simp⟩ (fun j l i h hj hi hl=>?_) fun syms i2 h2 hi2 hsyms=>?_
 ·unfold z0A
  dsimp only
  refine .get (by rw [hlen]; exact hj) fun x hx=>?_
  have hx:=stu hx
  refine drK (j0o hb (by omega) _ _ hi) fun s i1 h1 hs hi1=>?_
  refine .grd (by have:=hl.1; constructor<;>omega) (.ret ⟨hi1,by simp [hl.1],fun a ha=>?_⟩)
  simp only [List.mem_append,List.mem_cons,List.not_mem_nil,or_false] at ha
  rcases ha with ha | ha
  ·exact hl.2 a ha
  ·rw [ha]; exact hs
 have hS:SBs syms:=⟨by rw [hsyms.1]; omega,by rw [hsyms.1]; omega,hsyms.2⟩
 dsimp only
 refine z5a (fun k (l:List Rule)=>k≤l.length∧l.length≤3*k∧∀ r∈l,R0 r) hi2 ⟨by simp,by simp,by simp⟩ (fun j l i h hj hi hl=>?_) fun rules i3 h3 hi3 hr=>?_
 ·unfold z0D
  dsimp only
  refine .get (by rw [hlen]; exact hj) fun x hx=>?_
  have hx:=stu hx
  refine .grd (by rw [hx]; decide) ?_
  refine drK (q3S hb _ (cb hi)) fun y3 i1 h1 _ hi1=>?_
  have hl1:=hl.1
  have hl2:=hl.2.1
  refine .grd (by constructor<;>omega) ?_
  refine drK (q1C hb 2 (cb hi1)) fun y4 i4 h4 hy4 hi4=>?_
  have h42:=hy4.2.1 (by omega)
  have h40:=hy4.1
  refine .grd (by constructor<;>omega) ?_
  dsimp only
  refine z5a (fun k (q:List Rule)=>q.length=l.length+1+k∧∀ r∈q,R0 r) hi4 ⟨by simp,fun a ha=>?_⟩ (fun j2 q i h hj2 hi hq=>?_) fun q i6 h6 hi6 hq=>?_
  ·simp only [List.mem_append,List.mem_cons,List.not_mem_nil,or_false] at ha
   rcases ha with ha | ha
   ·exact hl.2.2 a ha
   ·rw [ha]
    exact⟨⟨by dsimp only; rw [bsz,hx]; decide,by dsimp only; omega,by simp,by simp⟩,rfl,rfl⟩
  ·unfold z0C
   dsimp only
   refine .grd (by rw [hx]; decide) ?_
   refine .bind (j2g (by omega)) fun nm hnm=>?_
   refine .grd (by rw [bsz,hx]; have:(⟨#[112]⟩:ByteArray).size=1:=rfl; omega) ?_
   refine drK (q3S hb _ (cb hi)) fun y6 i1 h1 _ hi1=>?_
   refine drK (q1C hb 3 (cb hi1)) fun y7 i7 h7 hy7 hi7=>?_
   have h72:=hy7.2.1 (by omega)
   have h70:=hy7.1
   refine .grd (by constructor<;>omega) ?_
   dsimp only
   refine z5a (fun k (q:List ByteArray)=>q.length=k∧∀ x∈q,x.size≤8) hi7 ⟨rfl,by simp⟩ (fun j4 q4 i h hj4 hi hq4=>?_) fun q4 i8 h8 hi8 hq4=>?_
   ·unfold z0B
    dsimp only
    refine drK (q6d hb (by intro h; have:=congrArg List.length h; rw [hlen] at this; simp at this; omega) (cb hi)) fun z i1 h1 hz hi1=>?_
    have hz:=stu hz
    refine .grd (by have:=hq4.1; constructor<;>omega) (.ret ⟨hi1,by simp [hq4.1],fun a ha=>?_⟩)
    simp only [List.mem_append,List.mem_cons,List.not_mem_nil,or_false] at ha
    rcases ha with ha | ha
    ·exact hq4.2 a ha
    ·rw [ha]; omega
   ·have hq41:=hq4.1
    have hq1:=hq.1
    refine .grd (by constructor<;>omega) (.ret ⟨hi8,by simp; omega,fun a ha=>?_⟩)
    simp only [List.mem_append,List.mem_cons,List.not_mem_nil,or_false] at ha
    rcases ha with ha | ha
    ·exact hq.2 a ha
    ·rw [ha]
     exact⟨⟨by dsimp only; rw [bsz,bsz,hx]; have:(⟨#[112]⟩:ByteArray).size=1:=rfl; omega,by dsimp only; omega,by dsimp only; omega,hq4.2⟩,rfl,rfl⟩
  ·exact .ret ⟨hi6,by dsimp only; have:=hq.1; omega,by dsimp only; have:=hq.1; omega,hq.2⟩
 dsimp only
 have hr1:=hr.1
 have hr2:=hr.2.1
 have key:∀ rs:List Rule,1≤rs.length→rs.length≤8→(∀ r∈rs,R0 r)→Ok (fun r=>GB r.1∧CB b r.2) ((q3j (q7V pl ⟨b,i,h⟩ syms) (0,i3,h3,rs)).bind fun (s14,s15,s16)=>some ((⟨syms,s16⟩:Grammar),(⟨b,s14,s15⟩:l1Cur))):=by
  intro rs g1 g2 g3
  refine Ok.bind (Q:=fun s:Int × Int × List Rule=>0≤s.1∧s.2.2.length=rs.length∧∀ r∈s.2.2,R1 r) (z2J (P:=fun s:Int × Int × Int × List Rule=>0≤s.1∧s.1≤rs.length∧0≤s.2.1∧s.2.2.2.length=rs.length∧∀ (k:Nat) x,s.2.2.2[k]? = some x→R1 x∧(s.1≤(k:Int)→R0 x)) (fun s=>(rs.length - s.1).toNat) ?_ _ ⟨Int.le_refl _,by dsimp only; omega,hi3,rfl,fun k x hx=>⟨(g3 x (List.mem_of_getElem? hx)).r1,fun _=>g3 x (List.mem_of_getElem? hx)⟩⟩) ?_
  ·rintro⟨p,i5,h5,q⟩ ⟨a1,a2,a3,a4,a5⟩
   dsimp only at a1 a2 a3 a4 a5
   unfold q7V
   dsimp only
   refine .ite (fun hp=>?_) fun _=>.ret ⟨a3,a4,fun r hr=>?_⟩
   ·obtain⟨x,hx⟩:∃ x,q[p.toNat]? = some x:=⟨_,List.getElem?_eq_getElem (by omega)⟩
    have hx0:=(a5 _ _ hx).2 (by omega)
    rw [hx]
    have fin:∀ (y:Rule) (i' h' : Int),R1 y→0≤i'→(0≤p+1∧p+1≤rs.length∧0≤i'∧(List.set q p.toNat y).length=rs.length∧∀ (k:Nat) x,(List.set q p.toNat y)[k]? = some x→R1 x∧(p+1≤(k:Int)→R0 x))∧(rs.length - (p+1)).toNat < (rs.length - p).toNat:=fun y i' h' hy hi'=>by
     refine⟨⟨by omega,by omega,hi',by rw [List.length_set]; exact a4,fun k x hk=>?_⟩,by omega⟩
     rw [List.getElem?_set] at hk
     by_cases e:p.toNat=k
     ·rw [if_pos e] at hk
      split at hk
      ·cases hk; exact⟨hy,fun h=>by omega⟩
      ·cases hk
     ·rw [if_neg e] at hk
      exact⟨(a5 _ _ hk).1,fun h=>(a5 _ _ hk).2 (by omega)⟩
    refine .bgr a1 (.bbi (.bso ?_))
    refine .bbi (drK (j1w hb (g:=⟨syms,q⟩) hS hx0.1 hx0.2.1 _ a3) fun y i6 h6 hy hi6=>?_)
    obtain⟨b1,b2,b3⟩:=hy
    rw [hx0.2.2] at b3
    dsimp only
    refine .bif (fun _=>.bso ?_) fun _=>?_
    ·exact .grd (by constructor<;>omega) (.ret (fin _ _ h6 ⟨b1,b2,by rw [b3]; simp [szL]⟩ hi6))
    ·refine .bbi (drK (j2f hb (g:=⟨syms,q⟩) hS b1 b3 hi6) fun y2 i7 h7 hy2 hi7=>?_)
     refine .bso ?_
     exact .grd (by constructor<;>omega) (.ret (fin _ _ h7 ⟨hy2.1,by rw [hy2.2.1]; exact b2,hy2.2.2⟩ hi7))
   ·obtain⟨k,hk⟩:=List.getElem?_of_mem hr
    exact (a5 _ _ hk).1
  ·rintro⟨s1,s2,s3⟩ ⟨c1,c2,c3⟩
   exact⟨_,rfl,⟨hS,by dsimp only at c2 ⊢; omega,by dsimp only at c2 ⊢; omega,c3⟩,c1,rfl⟩
 refine .bif (fun h8=>.bgr (by omega) (.bso ?_)) fun h8=>.bso ?_
 ·exact key _ (by rw [List.length_take]; omega) (by rw [List.length_take]; omega) fun r hr'=>hr.2.2 r (List.mem_of_mem_take hr')
 ·exact key _ (by omega) (by omega) hr.2.2
end
end Go.Proofs.YtiojgbiimbefiaaGreat
namespace Go.Proofs.YtiojgbiimbefiaaGreat
open Go Go.E
theorem z8A {α:Type}[Sz α](x:α):∀ (l:List α) (j:Nat),szL (l.set j x)≤szL l+Sz.szd x
 | [],_=>by simp [szL]
 | y :: l,0=>by simp only [List.set,szL]; omega
 | y :: l,j+1=>by have:=z8A x l j; simp only [List.set,szL]; omega
theorem z8B {α:Type}[Sz α](l:List α):szL (l.drop 1)≤szL l:=by
 cases l with
 | nil=>simp
 | cons x l=>simp only [List.drop,szL]; omega
theorem z1Y (a:Int):∀ (l:List Expr) (i:Nat),(∀ x∈l,∃ v,∀ m,fuE x≤m→q3G m x a=some v)→∃ r,∀ m,(∀ x∈l,fuE x≤m)→findL (q4s (q3G m) a) i l ()=some r
 | [],i,_=>⟨.inl (),fun m _=>rfl⟩
 | x :: l,i,h=>by
  obtain⟨v,hv⟩:=h x (by simp)
  obtain⟨r,hr⟩:=z1Y a l (i+1) fun y hy=>h y (by simp [hy])
  cases v with
  | true=>
   refine⟨r,fun m hm=>?_⟩
   have h1:=hr m fun y hy=>hm y (by simp [hy])
   have h2:q4s (q3G m) a i x ()=some (.inl ()):=by unfold q4s; rw [hv m (hm x (by simp))]; rfl
   rw [findL,h2]; exact h1
  | false=>
   refine⟨.inr false,fun m hm=>?_⟩
   have h2:q4s (q3G m) a i x ()=some (.inr false):=by unfold q4s; rw [hv m (hm x (by simp))]; rfl
   rw [findL,h2]; rfl
theorem z8C (e:Expr)(a:Int):∃ v,q7W e a=some v:=by
 have key:∀ e:Expr,∃ v,∀ m,fuE e≤m→q3G m e a=some v:=by
  intro e
  induction e using q9Q with
  | h e ih=>
   obtain⟨r,hr⟩:=z1Y a e.Args 0 ih
   have:∃ v,∀ m,fuE e≤m+1→q4X (q3G m) e a=some v:=by
    cases r with
    | inl u=>exact⟨_,fun m hm=>by unfold q4X; rw [hr m fun x hx=>by have:=z1N hx; omega]; rfl⟩
    | inr q=>exact⟨_,fun m hm=>by unfold q4X; rw [hr m fun x hx=>by have:=z1N hx; omega]; rfl⟩
   obtain⟨v,hv⟩:=this
   refine⟨v,fun m hm=>?_⟩
   obtain⟨m,rfl⟩:∃ q,m=q+1:=⟨m - 1,by have:=z3L e; omega⟩
   exact hv m hm
 obtain⟨v,hv⟩:=key e
 exact⟨v,q7Q (fuE e) hv⟩
def R2 (r:Rule):Prop:=RB r∧szL r.Equations≤60000∧szL r.Contributions≤200
def GC2 (g:Grammar):Prop:=SBs g.Symbols∧1≤g.Rules.length∧g.Rules.length≤8∧∀ r∈g.Rules,R2 r
theorem SB.set {s:Symbol}(h:SB s){x:Attribute}(hx:x.Name.size≤8):SB ⟨s.Name,List.set s.Attributes 0 x⟩:=by
 refine⟨h.1,by dsimp only; rw [List.length_set]; exact h.2.1,by dsimp only; rw [List.length_set]; exact h.2.2.1,fun a ha=>?_⟩
 rcases List.mem_or_eq_of_mem_set ha with ha | ha
 ·exact h.2.2.2 a ha
 ·rw [ha]; exact hx
theorem GC2.set {ss:List Symbol}{rs:List Rule}(h:GC2 ⟨ss,rs⟩)(k:Nat){x:Rule}(hx:R2 x):GC2 ⟨ss,rs.set k x⟩:=by
 refine⟨h.1,by dsimp only; rw [List.length_set]; exact h.2.1,by dsimp only; rw [List.length_set]; exact h.2.2.1,fun a ha=>?_⟩
 rcases List.mem_or_eq_of_mem_set ha with ha | ha
 ·exact h.2.2.2 a ha
 ·rw [ha]; exact hx
section
variable {b:List UInt8}(hb:b.length≤1048576)
include hb
theorem z9J {e:Expr}{n:Nat}(h:Sz.szd e≤n)(hn:n≤1048576)(a:Int):Ok (fun _=>True) (q7p e a):=by
 unfold q7p
 refine .eq (z0O (by have:=z8c hb h; omega)) ?_
 obtain⟨v,hv⟩:=z8C e a
 exact .ite (fun _=>.eq hv (.ret trivial)) fun _=>.ret trivial
theorem z9K {i h:Int}(hi:0≤i):Dr b (fun r=>RB r∧r.Right.length≤3∧szL r.Equations≤1200∧szL r.Contributions≤200) (q7q ⟨b,i,h⟩):=by
 unfold q7q
 refine drK (q6d hb (by simp) (cb hi)) fun y1 i1 h1 hy1 hi1=>?_
 refine drK (q6d hb (by simp) (cb hi1)) fun y2 i2 h2 hy2 hi2=>?_
 refine drK (q3S hb _ (cb hi2)) fun y3 i3 h3 _ hi3=>?_
 refine drK (q1C hb 4 (cb hi3)) fun y4 i4 h4 hy4 hi4=>?_
 have h44:=hy4.2.1 (by omega)
 have h40:=hy4.1
 have n1:y1.size≤8:=by
  simp only [List.mem_cons,List.not_mem_nil,or_false] at hy1
  rcases hy1 with h | h | h<;>subst h<;>(try dsimp only)<;>decide
 have n2:y2.size≤8:=by
  simp only [List.mem_cons,List.not_mem_nil,or_false] at hy2
  rcases hy2 with h | h<;>subst h<;>(try dsimp only)<;>decide
 dsimp only
 refine z5a (fun k (q:List ByteArray)=>q.length=k∧∀ x∈q,x.size≤8) hi4 ⟨rfl,by simp⟩ (fun j4 q4 i h hj4 hi hq4=>?_) fun q4 i8 h8 hi8 hq4=>?_
 ·unfold z1F
  dsimp only
  refine drK (q6d hb (by simp) (cb hi)) fun z i1 h1 hz hi1=>?_
  refine .grd (by have:=hq4.1; constructor<;>omega) (.ret ⟨hi1,by simp [hq4.1],fun a ha=>?_⟩)
  simp only [List.mem_append,List.mem_cons,List.not_mem_nil,or_false] at ha hz
  rcases ha with ha | ha
  ·exact hq4.2 a ha
  ·rw [ha]; rcases hz with h | h | h<;>subst h<;>(try dsimp only)<;>decide
 ·refine drK (q1C hb 4 (cb hi8)) fun y6 i6 h6 hy6 hi6=>?_
  have h64:=hy6.2.1 (by omega)
  dsimp only
  refine z5a (fun k (q:List Equation)=>q.length≤k∧szL q≤k*400) hi6 ⟨by simp,by simp [szL]⟩ (fun j q i h hj hi hq=>?_) fun q i9 h9 hi9 hq=>?_
  ·have hq1:=hq.1
   have hq2:=hq.2
   unfold z1G
   dsimp only
   refine .bbi (drK (q1C hb 3 (cb hi)) fun y7 i7 h7 hy7 hi7=>?_)
   have h73:=hy7.2.1 (by omega)
   have h70:=hy7.1
   refine .bgr (by constructor<;>omega) (.bbi (drK (z8b hb 2 (by omega) (by omega) (by omega) (cb hi7)) fun e i8 h8 he hi8=>?_))
   have he:Sz.szd e≤320:=he
   refine .bbi (.bind (z9J hb he (by omega) y4) fun v _=>?_)
   refine .bif (fun _=>?_) fun _=>.bso (.ret ⟨hi8,Nat.le_trans hq1 (Nat.le_succ _),Nat.le_trans hq2 (Nat.mul_le_mul_right 400 (Nat.le_succ j))⟩)
   refine .bgr (by constructor<;>omega) (.bbi (drK (q1C hb _ (cb hi8)) fun y10 i9 h9 _ hi9=>?_))
   refine .bbi (drK (z4V hb (cb hi9)) fun nm i10 h10 hnm hi10=>?_)
   refine .bgr (by constructor<;>omega) (.bso (.ret ⟨hi10,by dsimp only; simp; omega,?_⟩))
   dsimp only
   rw [q8Q,z4b]
   have hnm:nm.size=1:=hnm
   dsimp only
   omega
  ·have hq2:=hq.2
   have hR:RB ⟨y1,y2,q4,y3,q,[]⟩:=⟨n1,n2,by have:=hq4.1; dsimp only; omega,hq4.2⟩
   refine drK (q3S hb _ (cb hi9)) fun y12 i12 h12 _ hi12=>?_
   refine .ite (fun _=>?_) fun _=>⟨_,rfl,⟨hR,by have:=hq4.1; dsimp only; omega,by dsimp only; omega,by simp [szL]⟩,hi12,rfl⟩
   refine drK (q1C hb _ (cb hi12)) fun y13 i13 h13 _ hi13=>?_
   refine .eq rfl ?_
   refine .grd (by simp only [List.length_nil]; constructor<;>omega) ⟨_,rfl,⟨hR,by have:=hq4.1; dsimp only; omega,by dsimp only; omega,?_⟩,hi13,rfl⟩
   dsimp only
   rw [List.nil_append]
   show 1+Sz.szd (⟨(⟨#[115]⟩:ByteArray),(⟨#[99]⟩:ByteArray),_,_⟩:Contribution)+0≤200
   rw [j0p,z1R hb,z1R hb,q5D hb]
   decide
theorem z5X {i h:Int}(hi:0≤i):Dr b R2 (q6z ⟨b,i,h⟩):=by
 unfold q6z
 refine drK (z9K hb hi) fun r i1 h1 hr hi1=>?_
 obtain⟨r1,r2,r3,r4⟩:=hr
 refine drK (q1C hb 12 (cb hi1)) fun y2 i2 h2 _ hi2=>?_
 dsimp only
 refine .ite (fun _=>?_) fun _=>.ite (fun _=>?_) fun _=>.ite (fun _=>?_) fun _=>.ite (fun _=>?_) fun _=>.ite (fun _=>?_) fun _=>?_
 ·refine drK (q6d hb (by simp) (cb hi2)) fun z i3 h3 hz hi3=>⟨_,rfl,⟨⟨?_,r1.2.1,r1.2.2.1,r1.2.2.2⟩,by dsimp only; omega,r4⟩,hi3,rfl⟩
  simp only [List.mem_cons,List.not_mem_nil,or_false] at hz
  rcases hz with h | h | h<;>subst h<;>(try dsimp only)<;>decide
 ·refine .grd (by simp only [List.length_cons,List.length_nil]; constructor<;>omega) ⟨_,rfl,⟨⟨r1.1,r1.2.1,by simp; omega,fun x hx=>?_⟩,by dsimp only; omega,r4⟩,hi2,rfl⟩
  simp only [List.mem_append,List.mem_cons,List.not_mem_nil,or_false] at hx
  rcases hx with h | h | h
  ·exact r1.2.2.2 x h
  ·rw [h]; decide
  ·rw [h]; decide
 ·refine drK (q1C hb 5 (cb hi2)) fun y4 i4 h4 hy4 hi4=>?_
  have h40:=hy4.1
  have h44:=hy4.2.1 (by omega)
  refine .grd (by constructor<;>omega) ?_
  refine drK (j1e hb (cb hi4)) fun e i5 h5 he hi5=>?_
  have he:Sz.szd e≤30000:=he
  have hl:=q4U r.Equations
  refine .grd (by constructor<;>omega) ⟨_,rfl,⟨r1,?_,r4⟩,hi5,rfl⟩
  dsimp only
  rw [q8Q,z4b]
  have:(⟨#[97]⟩:ByteArray).size=1:=rfl
  dsimp only
  omega
 ·exact⟨_,rfl,⟨⟨r1.1,by dsimp only; decide,r1.2.2.1,r1.2.2.2⟩,by dsimp only; omega,r4⟩,hi2,rfl⟩
 ·refine .grd (by constructor<;>omega) ?_
  refine drK (q1C hb _ (cb hi2)) fun y6 i6 h6 hy6 hi6=>?_
  have h60:=hy6.1
  have h61:=hy6.2.1 (by omega)
  refine .grd h60 (.grd (by omega) ⟨_,rfl,⟨⟨r1.1,r1.2.1,by dsimp only; rw [List.length_take]; omega,fun x hx=>r1.2.2.2 x (List.mem_of_mem_take hx)⟩,by dsimp only; omega,r4⟩,hi6,rfl⟩)
 ·exact⟨_,rfl,⟨r1,by dsimp only; omega,r4⟩,hi2,rfl⟩
theorem z9L {i h:Int}(hi:0≤i):Dr b SB (q7s ⟨b,i,h⟩):=by
 unfold q7s
 refine drK (q6d hb (by simp) (cb hi)) fun nm i1 h1 hnm hi1=>?_
 have hnm:nm.size≤8:=by
  simp only [List.mem_cons,List.not_mem_nil,or_false] at hnm
  rcases hnm with h | h | h | h<;>subst h<;>(try dsimp only)<;>decide
 refine drK (j0o hb hnm _ _ hi1) fun s i2 h2 hs hi2=>?_
 refine drK (q1C hb 10 (cb hi2)) fun y3 i3 h3 _ hi3=>?_
 have hl:=hs.2.1
 dsimp only
 refine .ite (fun _=>?_) fun _=>.ite (fun _=>?_) fun _=>.ite (fun _=>?_) fun _=>.ite (fun _=>?_) fun _=>.ite (fun _=>?_) fun _=>?_
 ·exact .get (by omega) fun x hx=>⟨_,rfl,hs.set (by exact hs.2.2.2 x hx),hi3,rfl⟩
 ·exact drK (q1C hb 5 (cb hi3)) fun y4 i4 h4 _ hi4=>.get (by omega) fun x hx=>⟨_,rfl,hs.set (by exact hs.2.2.2 x hx),hi4,rfl⟩
 ·exact drK (q1C hb 6 (cb hi3)) fun y4 i4 h4 _ hi4=>.get (by omega) fun x hx=>⟨_,rfl,hs.set (by exact hs.2.2.2 x hx),hi4,rfl⟩
 ·refine drK (q6d hb (by simp) (cb hi3)) fun z i4 h4 hz hi4=>.get (by omega) fun x hx=>⟨_,rfl,hs.set ?_,hi4,rfl⟩
  simp only [List.mem_cons,List.not_mem_nil,or_false] at hz
  rcases hz with h | h | h<;>subst h<;>(try dsimp only)<;>decide
 ·refine Ok.bind (Q:=fun l:List Attribute=>1≤l.length∧l.length≤5∧∀ a∈l,a.Name.size≤8) (z2J (P:=fun l:List Attribute=>1≤l.length∧l.length≤5∧∀ a∈l,a.Name.size≤8) (fun l=>5 - l.length) (fun l hl=>?_) _ ⟨hs.2.1,hs.2.2.1,hs.2.2.2⟩) fun l hl=>⟨_,rfl,⟨hs.1,hl.1,hl.2.1,hl.2.2⟩,hi3,rfl⟩
  unfold z1J
  refine .ite (fun h5=>?_) fun _=>.ret hl
  refine .get (by simp; omega) fun x hx=>.grd (by constructor<;>omega) (.ret ⟨⟨by simp,by simp; omega,fun a ha=>?_⟩,by simp; omega⟩)
  simp only [List.mem_append,List.mem_cons,List.not_mem_nil,or_false] at ha hx
  rcases ha with ha | ha
  ·exact hl.2.2 a ha
  ·rw [ha]; dsimp only; rcases hx with h | h | h | h | h<;>subst h<;>(try dsimp only)<;>decide
 ·exact⟨_,rfl,hs,hi3,rfl⟩
theorem z8D {i h:Int}(hi:0≤i):Dr b GC2 (q6A ⟨b,i,h⟩):=by
 unfold q6A
 refine drK (q3S hb _ (cb hi)) fun y1 i1 h1 _ hi1=>?_
 refine drK (z8z hb y1 hi1) fun g i2 h2 hg hi2=>?_
 obtain⟨ss,rs⟩:=g
 obtain⟨g1,g2,g3,g4⟩:=hg
 dsimp only at g1 g2 g3 g4
 have hG:GC2 ⟨ss,rs⟩:=⟨g1,g2,g3,fun r hr=>by obtain⟨a,c,d⟩:=g4 r hr; exact⟨a,by omega,d⟩⟩
 refine drK (q1C hb _ (cb hi2)) fun y3 i3 h3 hy3 hi3=>?_
 have h30:=hy3.1
 have h31:=hy3.2.1 (by dsimp only; omega)
 dsimp only at h31
 refine drK (q1C hb 14 (cb hi3)) fun y4 i4 h4 _ hi4=>?_
 have hk:y3.toNat < rs.length:=by omega
 dsimp only
 have same:Ok (fun r:Grammar × l1Cur=>GC2 r.1∧CB b r.2) (some ((⟨ss,rs⟩:Grammar),(⟨b,i4,h4⟩:l1Cur))):=⟨_,rfl,hG,hi4,rfl⟩
 refine .ite (fun _=>?_) fun _=>.ite (fun _=>?_) fun _=>.ite (fun _=>?_) fun _=>.ite (fun _=>?_) fun _=>.ite (fun _=>?_) fun _=>.ite (fun _=>?_) fun _=>.ite (fun _=>?_) fun _=>same
 ·exact drK (z5X hb hi4) fun r i5 h5 hr hi5=>.grd h30 (.get hk fun x hx=>⟨_,rfl,hG.set _ hr,hi5,rfl⟩)
 ·refine drK (z9L hb hi4) fun s i5 h5 hs hi5=>.get (by have:=g1.1; omega) fun x hx=>⟨_,rfl,⟨⟨by dsimp only; rw [List.length_set]; exact g1.1,by dsimp only; rw [List.length_set]; exact g1.2.1,fun a ha=>?_⟩,g2,g3,hG.2.2.2⟩,hi5,rfl⟩
  rcases List.mem_or_eq_of_mem_set ha with ha | ha
  ·exact g1.2.2 a ha
  ·rw [ha]; exact hs
 ·refine .get (by omega) fun x hx=>.grd h30 (.get hk fun r hr=>⟨_,rfl,hG.set _ ?_,hi4,rfl⟩)
  have a:=hG.2.2.2 r hr
  exact⟨⟨(g4 x hx).1.1,a.1.2.1,a.1.2.2.1,a.1.2.2.2⟩,a.2.1,a.2.2⟩
 ·refine .grd h30 (.get hk fun r hr=>.ite (fun h0=>.grd (by omega) ⟨_,rfl,hG.set _ ?_,hi4,rfl⟩) fun _=>same)
  have a:=hG.2.2.2 r hr
  exact⟨a.1,by have:=z8B r.Equations; have:=a.2.1; dsimp only; omega,a.2.2⟩
 ·refine .grd h30 (.get hk fun r hr=>.ite (fun h0=>?_) fun _=>same)
  have a:=g4 r hr
  have hl:=q4U r.Equations
  have a2:=a.2.1
  refine .get (by omega) fun x hx=>.grd (by constructor<;>omega) ⟨_,rfl,hG.set _ ⟨a.1,?_,a.2.2⟩,hi4,rfl⟩
  have:=z2H hx
  dsimp only
  rw [q8Q]
  omega
 ·refine drK (q6d hb (by simp) (cb hi4)) fun z i5 h5 hz hi5=>.grd h30 (.get hk fun r hr=>⟨_,rfl,hG.set _ ?_,hi5,rfl⟩)
  have a:=hG.2.2.2 r hr
  refine⟨⟨a.1.1,?_,a.1.2.2.1,a.1.2.2.2⟩,a.2.1,a.2.2⟩
  simp only [List.mem_cons,List.not_mem_nil,or_false] at hz
  rcases hz with h | h<;>subst h<;>(try dsimp only)<;>decide
 ·refine .grd h30 (.get hk fun r hr=>.ite (fun h0=>?_) fun _=>same)
  refine drK (z8m hb (cb hi4)) fun e i5 h5 he hi5=>?_
  have he:Sz.szd e≤20480:=he
  have a:=g4 r hr
  have a2:=a.2.1
  refine .get (by omega) fun x hx=>⟨_,rfl,hG.set _ ⟨a.1,?_,a.2.2⟩,hi5,rfl⟩
  have h1:=z2H hx
  have h2:=z8A (⟨x.At,e⟩:Equation) r.Equations 0
  have h3:Sz.szd x=x.At.Name.size+Sz.szd x.Expr:=z4b x.At x.Expr
  rw [z4b] at h2
  dsimp only
  omega
theorem j1x:Ok (fun q=>GC2 q.1∧R2 q.2) (q6B b):=by
 unfold q6B
 obtain⟨z,hz,hz1,hz2⟩:=j0h hb
 obtain⟨zb,zi,zh⟩:=z
 dsimp only at hz1 hz2
 subst hz2
 refine .eq hz ?_
 refine drK (z8D hb hz1) fun g i1 h1 hg hi1=>?_
 refine drK (q3S hb _ (cb hi1)) fun y3 i2 h2 _ hi2=>?_
 dsimp only
 refine .ite (fun _=>?_) fun _=>?_
 ·exact drK (z5X hb hi2) fun r i3 h3 hr hi3=>.ret ⟨hg,hr⟩
 ·refine drK (q1C hb _ (cb hi2)) fun y5 i3 h3 hy5 hi3=>?_
  have h50:=hy5.1
  have h51:=hy5.2.1 (by have:=hg.2.1; omega)
  exact .grd h50 (.get (by omega) fun x hx=>.ret ⟨hg,hg.2.2.2 x hx⟩)
end
theorem szR {r:Rule}(h:R2 r):Sz.szd r≤60300:=by
 have h1:=z4a (m:=8) h.1.2.2.2
 have:=h.1.2.2.1
 have:=h.1.1
 have:=h.1.2.1
 have:=h.2.1
 have:=h.2.2
 have h9:r.Right.length*(8+1)≤45:=by omega
 rw [z2z]; omega
theorem szS {s:Symbol}(h:SB s):Sz.szd s≤60:=by
 have h1:=z4a (m:=8) (l:=s.Attributes) fun a ha=>by rw [z2y]; exact h.2.2.2 a ha
 have:=h.2.2.1
 have:=h.1
 have h9:s.Attributes.length*(8+1)≤45:=by omega
 rw [z1K]; omega
theorem szG {g:Grammar}(h:GC2 g):Sz.szd g≤1048576:=by
 have h1:=z4a (m:=60) (l:=g.Symbols) fun s hs=>szS (h.1.2.2 s hs)
 have h2:=z4a (m:=60300) (l:=g.Rules) fun r hr=>szR (h.2.2.2 r hr)
 have h3:g.Symbols.length*(60+1)≤183:=by have:=h.1.2.1; omega
 have h4:g.Rules.length*(60300+1)≤482408:=by have:=h.2.2.1; omega
 rw [z0I]; omega
end Go.Proofs.YtiojgbiimbefiaaGreat
namespace Go.Proofs.YtiojgbiimbefiaaGreat
open Go Go.E
theorem q6M {r:Relation}(h:Valid r)(i k:Int):Valid (addP r i k):=by
 unfold addP
 by_cases hc:Valid r∧inN r i∧inN r k
 ·rw [if_pos hc]
  obtain⟨_,hi,hk⟩:=hc
  unfold z0L
  refine⟨h.1,h.2.1,by dsimp only; rw [List.length_set]; exact h.2.2.1,fun x hx=>?_⟩
  rcases List.mem_or_eq_of_mem_set hx with hx | hx
  ·exact h.2.2.2 x hx
  ·rw [hx]
   have h1:=h.1
   have hk1:=hk.1
   have hk2:=hk.2
   refine j2d ?_ ?_
   ·unfold q7f
    rw [List.getD_eq_getElem?_getD]
    cases hq:r.Rows[i.toNat]? with
    | none=>show (0:Int)≤0∧(0:Int)≤((2 ^ r.N.toNat:Nat):Int) - 1; have:=Nat.two_pow_pos r.N.toNat; omega
    | some y=>exact h.2.2.2 y (List.mem_of_getElem? hq)
   ·have h2:2 ^ k.toNat < 2 ^ r.N.toNat:=Nat.pow_lt_pow_right (by decide) (by omega)
    constructor
    ·exact Int.natCast_nonneg _
    ·dsimp only; omega
 ·rw [if_neg hc]; exact h
theorem z9M {r:Relation}(h:¬ Valid r)(i k:Int):addP r i k=r:=if_neg fun hc=>h hc.1
theorem z5b {r:Relation}(h:Valid r)(i k:Int)(a c:Nat):Rl (addP r i k).Rows a c↔Rl r.Rows a c∨(inN r i∧inN r k∧(a:Int)=i∧(c:Int)=k):=by
 unfold addP
 by_cases hc:Valid r∧inN r i∧inN r k
 ·rw [if_pos hc]
  obtain⟨_,hi,hk⟩:=hc
  have hi1:=hi.1
  have hi2:=hi.2
  have hk1:=hk.1
  have hl:=h.2.2.1
  unfold z0L Rl
  dsimp only
  rw [List.getD_eq_getElem?_getD,List.getElem?_set]
  by_cases e:i.toNat=a
  ·rw [if_pos e,if_pos (by omega),Option.getD_some,z0N,Nat.testBit_or,Int.toNat_natCast,Nat.testBit_two_pow]
   unfold q7f
   rw [e]
   simp only [Bool.or_eq_true,decide_eq_true_eq]
   constructor
   ·rintro (h1 | h1)
    ·exact .inl h1
    ·exact .inr ⟨hi,hk,by omega,by omega⟩
   ·rintro (h1 | ⟨_,_,_,h1⟩)
    ·exact .inl h1
    ·exact .inr (by omega)
  ·rw [if_neg e,← List.getD_eq_getElem?_getD]
   constructor
   ·exact fun h1=>.inl h1
   ·rintro (h1 | ⟨_,_,h1,_⟩)
    ·exact h1
    ·omega
 ·rw [if_neg hc]
  constructor
  ·exact fun h1=>.inl h1
  ·rintro (h1 | ⟨h1,h2,_⟩)
   ·exact h1
   ·exact absurd ⟨h,h1,h2⟩ hc
def Sub (a b:Relation):Prop:=Valid a∧Valid b∧a.N=b.N∧∀ i j:Nat,Rl a.Rows i j→Rl b.Rows i j
theorem Sub.refl {a:Relation}(h:Valid a):Sub a a:=⟨h,h,rfl,fun _ _ h=>h⟩
theorem Sub.trans {a b c:Relation}(h:Sub a b)(k:Sub b c):Sub a c:=⟨h.1,k.2.1,h.2.2.1.trans k.2.2.1,fun i j x=>k.2.2.2 i j (h.2.2.2 i j x)⟩
theorem j0q {a b:Relation}(h:a.N=b.N)(i:Int):inN a i→inN b i:=fun ⟨h1,h2⟩=>⟨h1,by omega⟩
theorem Sub.add2 {a b:Relation}(h:Sub a b)(i k:Int):Sub (addP a i k) (addP b i k):=by
 refine⟨q6M h.1 i k,q6M h.2.1 i k,by rw [(q6Y _ _ _).2,(q6Y _ _ _).2]; exact h.2.2.1,fun x y hx=>?_⟩
 rw [z5b h.2.1]
 rcases (z5b h.1 i k x y).1 hx with hx | ⟨h1,h2,h3⟩
 ·exact .inl (h.2.2.2 x y hx)
 ·exact .inr ⟨j0q h.2.2.1 _ h1,j0q h.2.2.1 _ h2,h3⟩
theorem Sub.add {a b:Relation}(h:Sub a b)(i k:Int):Sub a (addP b i k):=
 h.trans ⟨h.2.1,q6M h.2.1 i k,(q6Y _ _ _).2.symm,fun x y hx=>(z5b h.2.1 i k x y).2 (.inl hx)⟩
theorem z9N {x y:Int}(hx:0≤x)(h:∀ j,y.toNat.testBit j=true→x.toNat.testBit j=true):orI x y=x:=by
 have:x.toNat ||| y.toNat=x.toNat:=by
  apply Nat.eq_of_testBit_eq
  intro j
  rw [Nat.testBit_or]
  cases hy:y.toNat.testBit j with
  | false=>rw [Bool.or_false]
  | true=>rw [h j hy]; rfl
 unfold orI; rw [this]; omega
theorem Sub.uni {a b:Relation}(h:Sub a b):uniR b a=b:=by
 unfold uniR
 rw [if_pos ⟨h.2.1,h.1,h.2.2.1.symm⟩]
 obtain⟨n,rows⟩:=b
 have:(rows.mapIdx fun j x=>orI x (a.Rows.getD j 0))=rows:=by
  apply List.ext_getElem?
  intro j
  rw [List.getElem?_mapIdx]
  cases hj:rows[j]? with
  | none=>rfl
  | some x=>
   rw [Option.map_some]
   congr 1
   refine z9N (h.2.1.2.2.2 x (List.mem_of_getElem? hj)).1 fun c hc=>?_
   have:=h.2.2.2 j c hc
   unfold Rl at this
   dsimp only at this
   rwa [List.getD_eq_getElem?_getD,hj,Option.getD_some] at this
 rw [this]
theorem z8E {a b:Relation}(h:¬ Valid b):uniR b a=b:=if_neg fun hc=>h hc.1
theorem z8F {a b:Relation}(hb:b.Rows.length≤1048576)(h:uniR b a=b):q6c a b=some true:=by
 unfold q6c
 rw [j1o hb,Option.bind_some,h,q6Z]; rfl
theorem z0V {n:Nat}{s t:List Int}(hs:q6I n s)(ht:q6I n t)(h:∀ i j,Rl s i j→Rl t i j):∀ m i j,Rl (q7d s m) i j→Rl (q7d t m) i j
 | 0,i,j,hx=>h i j hx
 | m+1,i,j,hx=>by
  have hi:=z8f (z5P (q3Z hs m)) hx
  have ih:=z0V hs ht h m
  rw [q7d,z4W (q3Z ht m) hi]
  rw [q7d,z4W (q3Z hs m) hi] at hx
  rcases hx with hx | ⟨h1,h2⟩
  ·exact .inl (ih i j hx)
  ·exact .inr ⟨ih i m h1,ih m j h2⟩
theorem Sub.close2 {a b:Relation}(h:Sub a b):Sub (q4v a) (q4v b):=by
 refine⟨q7A h.1,q7A h.2.1,by rw [(q7L _).2,(q7L _).2]; exact h.2.2.1,fun i j hx=>?_⟩
 have h1:=(q6l h.1).1
 have h2:=(q6l h.2.1).1
 unfold q4v at hx ⊢
 rw [if_pos h.1] at hx
 rw [if_pos h.2.1]
 dsimp only at hx ⊢
 rw [← h.2.2.1] at h2 ⊢
 exact z0V h1 h2 h.2.2.2 _ i j hx
theorem Sub.close {a:Relation}(h:Valid a):Sub a (q4v a):=by
 refine⟨h,q7A h,(q7L _).2.symm,fun i j hx=>?_⟩
 unfold q4v
 rw [if_pos h]
 exact z8g (q6l h).1 _ i j hx
theorem z8G {a:Relation}(h:¬ Valid a):q4v a=a:=if_neg h
theorem q9r (own:Relation)(a:Nat)(x:Int):∀ (ys:List Int) (i:Nat) (o:Relation),Valid o→Sub o (q4x own a x i ys o)
 | [],i,o,h=>Sub.refl h
 | y :: ys,i,o,h=>by
  rw [q4x]
  by_cases hp:hasP own (a:Int) (i:Int)
  ·rw [if_pos hp]; exact ((Sub.refl h).add x y).trans (q9r own a x ys (i+1) _ (q6M h x y))
  ·rw [if_neg hp]; exact q9r own a x ys (i+1) _ h
theorem z0W (own:Relation)(at' : List Int):∀ (xs:List Int) (a:Nat) (o:Relation),Valid o→Sub o (q4P own at' a xs o)
 | [],a,o,h=>Sub.refl h
 | x :: xs,a,o,h=>by
  rw [q4P]
  have h1:=q9r own a x at' 0 o h
  exact h1.trans (z0W own at' xs (a+1) _ h1.2.1)
theorem z4c (g:Grammar)(r:Rule):∀ (l:List Relation) (k:Nat) (o:Relation),Valid o→Sub o (q6h g r k l o)
 | [],k,o,h=>Sub.refl h
 | own :: l,k,o,h=>by
  rw [q6h]
  have h1:Sub o (q7D g r o ((k+1:Nat):Int) own):=z0W own _ _ 0 o h
  exact h1.trans (z4c g r l (k+1) _ h1.2.1)
theorem z0X {own:Relation}(a:Nat)(x:Int):∀ (ys:List Int) (i:Nat) (o:Relation),(¬ Valid o∨∀ i:Nat,¬ hasP own (a:Int) (i:Int))→q4x own a x i ys o=o
 | [],i,o,h=>rfl
 | y :: ys,i,o,h=>by
  rw [q4x]
  by_cases hp:hasP own (a:Int) (i:Int)
  ·rcases h with h | h
   ·rw [if_pos hp,z9M h]; exact z0X a x ys (i+1) o (.inl h)
   ·exact absurd hp (h i)
  ·rw [if_neg hp]; exact z0X a x ys (i+1) o h
theorem z1Z {own:Relation}(at' : List Int):∀ (xs:List Int) (a:Nat) (o:Relation),(¬ Valid o∨∀ a i:Nat,¬ hasP own (a:Int) (i:Int))→q4P own at' a xs o=o
 | [],a,o,h=>rfl
 | x :: xs,a,o,h=>by
  rw [q4P,z0X a x at' 0 o (h.imp id fun h i=>h a i)]
  exact z1Z at' xs (a+1) o h
theorem z2K (g:Grammar)(r:Rule):∀ (l:List Relation) (k:Nat) (o:Relation),(¬ Valid o∨∀ own∈l,∀ a i:Nat,¬ hasP own (a:Int) (i:Int))→q6h g r k l o=o
 | [],k,o,h=>rfl
 | own :: l,k,o,h=>by
  rw [q6h]
  have h1:q7D g r o ((k+1:Nat):Int) own=o:=z1Z _ _ 0 o (h.imp id fun h=>h own (by simp))
  rw [h1]
  exact z2K g r l (k+1) o (h.imp id fun h w hw=>h w (by simp [hw]))
theorem q8l {n:Int}(h0:0≤n)(h1:n≤16):Valid ⟨n,List.replicate n.toNat 0⟩:=by
 refine⟨h0,h1,by simp; omega,fun x hx=>?_⟩
 have:=(List.mem_replicate.1 hx).2
 have h2:=Nat.two_pow_pos n.toNat
 dsimp only
 omega
theorem z8H (n:Int)(a i:Nat):¬ hasP ⟨n,List.replicate n.toNat 0⟩ (a:Int) (i:Int):=by
 rintro⟨_,_,_,h⟩
 have h:=(q8N _ _).1 h
 unfold q7f at h
 dsimp only at h
 rw [List.getD_eq_getElem?_getD,List.getElem?_replicate] at h
 split at h<;>simp at h
theorem z0Y {α σ τ:Type}{R:σ→τ→Prop}{f:Nat→α→σ→Option σ}{g:Nat→α→τ→Option τ}(h:∀ k x s t,R s t→∃ s' t',f k x s=some s'∧g k x t=some t'∧R s' t'):∀ (xs:List α) (i:Nat) (s:σ) (t:τ),R s t→∃ s' t',eachL f i xs s=some s'∧eachL g i xs t=some t'∧R s' t'
 | [],i,s,t,hr=>⟨s,t,rfl,rfl,hr⟩
 | x :: xs,i,s,t,hr=>by
  obtain⟨s1,t1,e1,e2,hr1⟩:=h i x s t hr
  obtain⟨s2,t2,e3,e4,hr2⟩:=z0Y h xs (i+1) s1 t1 hr1
  exact⟨s2,t2,by rw [eachL,e1]; exact e3,by rw [eachL,e2]; exact e4,hr2⟩
theorem z9O {g:Grammar}(hg:GOk g){r:Rule}(hn:(q2U g r.Left).length≤16){c d:Relation}(h:c=d∨Sub c d):∃ x y,q2O g r c=some x∧q2O g r d=some y∧Sub x y:=by
 have hp:∀ i k:Nat,hasP c (i:Int) (k:Int)→hasP d (i:Int) (k:Int):=fun i k hx=>by
  rcases h with rfl | h
  ·exact hx
  ·exact (z8j h.2.1 i k).2 (h.2.2.2 i k ((z8j h.1 i k).1 hx))
 have hv:=q8l (n:=((q2U g r.Left).length:Int)) (by omega) (by omega)
 have key:=z0Y (R:=fun (s t:List Int × Int)=>Sub ⟨s.2,s.1⟩ ⟨t.2,t.1⟩) (f:=q3J c (q2U g r.Left)) (g:=q3J d (q2U g r.Left)) (fun k x s t hst=>by
  obtain⟨s1,s2⟩:=s
  obtain⟨t1,t2⟩:=t
  obtain⟨s',t',e1,e2,e3⟩:=z0Y (R:=fun (s t:List Int × Int)=>Sub ⟨s.2,s.1⟩ ⟨t.2,t.1⟩) (f:=q3I c k x) (g:=q3I d k x) (fun k2 x2 s t hst=>by
   obtain⟨s1,s2⟩:=s
   obtain⟨t1,t2⟩:=t
   dsimp only at hst
   have l1:s1.length≤1048576:=by have:=hst.1.2.2.1; have:=hst.1.2.1; dsimp only at *; omega
   have l2:t1.length≤1048576:=by have:=hst.2.1.2.2.1; have:=hst.2.1.2.1; dsimp only at *; omega
   unfold q3I
   dsimp only
   rw [q5i,q5i,z1U (r:=⟨s2,s1⟩) l1,z1U (r:=⟨t2,t1⟩) l2]
   simp only [Option.bind_some]
   by_cases m1:x.Mode=1
   ·by_cases m2:x2.Mode=2
    ·by_cases p1:hasP c (k:Int) (k2:Int)
     ·have p2:=hp k k2 p1
      simp only [m1,m2,p1,p2,if_true,decide_true,Option.bind_some]
      exact⟨_,_,rfl,rfl,hst.add2 _ _⟩
     ·by_cases p2:hasP d (k:Int) (k2:Int)
      ·simp only [m1,m2,p1,p2,if_true,if_false,decide_true,decide_false,Option.bind_some,Bool.false_eq_true]
       exact⟨_,_,rfl,rfl,hst.add _ _⟩
      ·simp only [m1,m2,p1,p2,if_true,if_false,decide_true,decide_false,Option.bind_some,Bool.false_eq_true]
       exact⟨_,_,rfl,rfl,hst⟩
    ·simp only [m1,m2,if_true,if_false,decide_false,Option.bind_some,Bool.false_eq_true]
     exact⟨_,_,rfl,rfl,hst⟩
   ·simp only [m1,if_false,Option.bind_some,Bool.false_eq_true]
    exact⟨_,_,rfl,rfl,hst⟩) (q2U g r.Left) 0 (s1,s2) (t1,t2) hst
  exact⟨s',t',by unfold q3J; dsimp only; rw [e1]; rfl,by unfold q3J; dsimp only; rw [e2]; rfl,e3⟩) (q2U g r.Left) 0 (List.replicate ((q2U g r.Left).length:Int).toNat 0,((q2U g r.Left).length:Int)) (List.replicate ((q2U g r.Left).length:Int).toNat 0,((q2U g r.Left).length:Int)) (Sub.refl hv)
 obtain⟨⟨s1,s2⟩,⟨t1,t2⟩,e1,e2,e3⟩:=key
 refine⟨⟨s2,s1⟩,⟨t2,t1⟩,?_,?_,e3⟩
 ·unfold q2O
  rw [q8P hg,Option.bind_some,q8M (by omega) (by omega),Option.bind_some]
  dsimp only
  rw [e1]; rfl
 ·unfold q2O
  rw [q8P hg,Option.bind_some,q8M (by omega) (by omega),Option.bind_some]
  dsimp only
  rw [e2]; rfl
end Go.Proofs.YtiojgbiimbefiaaGreat
namespace Go.Proofs.YtiojgbiimbefiaaGreat
open Go Go.E
theorem j0r {g:Grammar}(hs:SBs g.Symbols)(s:ByteArray):(q2U g s).length≤5:=by
 unfold q2U
 exact Nat.le_trans (List.length_filter_le _ _) (q9V hs s).1
theorem j2h {γ τ β:Type}{Q:β→Prop}(P:τ→Prop){f:Nat→γ→Int × Int × τ→Option (Int × Int × τ)}{k:Int × Int × τ→Option β}{xs:List γ}{i h:Int}{l:τ}(hi:0≤i)(h0:P l)
  (hf:∀ j x l i h,0≤i→P l→Ok (fun s:Int × Int × τ=>0≤s.1∧P s.2.2) (f j x (i,h,l))) (hk:∀ l i h,0≤i→P l→Ok Q (k (i,h,l))):Ok Q ((eachL f 0 xs (i,h,l)).bind k):=by
 obtain⟨s,e,h1⟩:=q9S (P:=fun _ (s:Int × Int × τ)=>0≤s.1∧P s.2.2) (f:=f) (xs:=xs) (i:=0) (s:=(i,h,l)) ⟨hi,h0⟩ fun j x s _ _ _ hs=>hf j x _ _ _ hs.1 hs.2
 rw [e]
 exact hk _ _ _ h1.1 h1.2
theorem z5Y {α σ:Type}{P:Nat→σ→Prop}{f:Nat→α→σ→Option σ}{xs0:List α}(hf:∀ k x s,xs0[k]? = some x→P k s→Ok (P (k+1)) (f k x s)):∀ (xs:List α) (i:Nat) (s:σ),xs=xs0.drop i→i≤xs0.length→P i s→Ok (P xs0.length) (eachL f i xs s)
 | [],i,s,hx,hi,hp=>by
  have:xs0.length - i=0:=by rw [← List.length_drop,← hx]; rfl
  rw [show xs0.length=i by omega]; exact⟨s,rfl,hp⟩
 | x :: xs,i,s,hx,hi,hp=>by
  have h1:i < xs0.length:=by
   have:xs0.length - i=xs.length+1:=by rw [← List.length_drop,← hx]; rfl
   omega
  rw [List.drop_eq_getElem_cons h1] at hx
  injection hx with e1 e2
  rw [eachL]
  exact (hf i x s (by rw [e1]; exact List.getElem?_eq_getElem h1) hp).bind fun r hr=>z5Y hf xs (i+1) r e2 (by omega) hr
theorem z2a {α β:Type}{g:α→β}{f:Nat→α→List β→Option (List β)}:∀ (xs:List α) (i:Nat) (s:List β),(∀ k x (s' : List β),x∈xs→s'.length≤s.length+xs.length→f k x s'=some (s'++[g x]))→eachL f i xs s=some (s++xs.map g)
 | [],i,s,_=>by simp [eachL]
 | x :: xs,i,s,h=>by
  rw [eachL,h i x s (by simp) (by simp),Option.bind_some,z2a xs (i+1) (s++[g x]) fun k y s' hy hs=>h k y s' (by simp [hy]) (by simp at hs ⊢; omega)]
  simp
section
variable {b:List UInt8}(hb:b.length≤1048576)
include hb
theorem j1y {g:Grammar}(hs:SBs g.Symbols)(s:ByteArray){i h:Int}(hi:0≤i):Dr b (fun x=>Valid x∧x.N=((q2U g s).length:Int)) (q4I g s ⟨b,i,h⟩):=by
 have h5:=j0r hs s
 unfold q4I
 refine .eq (q8P hs.g s) (.eq (q8M (by omega) (by omega)) ?_)
 refine j2h (fun (q:List Int × Int)=>Valid ⟨q.2,q.1⟩∧q.2=((q2U g s).length:Int)) hi ⟨q8l (n:=((q2U g s).length:Int)) (by omega) (by omega),rfl⟩ (fun j x q i h hi hq=>?_) fun q i h hi hq=>⟨_,rfl,hq,hi,rfl⟩
 obtain⟨rows,n⟩:=q
 unfold q7O
 dsimp only
 refine j2h (fun (q:List Int × Int)=>Valid ⟨q.2,q.1⟩∧q.2=((q2U g s).length:Int)) hi hq (fun j2 x2 q i h hi hq=>?_) fun q i h hi hq=>⟨_,rfl,hi,hq⟩
 obtain⟨rows,n⟩:=q
 obtain⟨hv,hn⟩:=hq
 dsimp only at hv hn
 have hadd:=z1U (r:=⟨n,rows⟩) (by have:=hv.2.2.1; have:=hv.2.1; dsimp only at *; omega) (j:Int) (j2:Int)
 have fin:∀ i' h' : Int,0≤i'→Ok (fun s' : Int × Int × List Int × Int=>0≤s'.1∧(Valid ⟨s'.2.2.2,s'.2.2.1⟩∧s'.2.2.2=((q2U g s).length:Int))) (some (i',h',rows,n)):=fun i' h' hi'=>⟨_,rfl,hi',hv,hn⟩
 have finA:∀ i' h' : Int,0≤i'→Ok (fun s' : Int × Int × List Int × Int=>0≤s'.1∧(Valid ⟨s'.2.2.2,s'.2.2.1⟩∧s'.2.2.2=((q2U g s).length:Int))) (some (i',h',(addP ⟨n,rows⟩ (j:Int) (j2:Int)).Rows,(addP ⟨n,rows⟩ (j:Int) (j2:Int)).N)):=fun i' h' hi'=>⟨_,rfl,hi',q6M hv _ _,(q6Y _ _ _).2.trans hn⟩
 unfold q7N
 dsimp only
 repeat' first
  | ((with_reducible refine .bso ?_); try dsimp only)
  | ((with_reducible refine .bbi (.eq hadd ?_)))
  | (with_reducible exact fin _ _ (by assumption))
  | (with_reducible exact finA _ _ (by assumption))
  | ((with_reducible refine .bbi ?_); try dsimp only)
  | (with_reducible refine .bif (fun _=>?_) fun _=>?_)
  | (with_reducible refine .ite (fun _=>?_) fun _=>?_)
  | ((with_reducible refine drK (q3S hb _ (cb (by assumption))) fun _ _ _ _ _=>?_); try dsimp only)
  | ((with_reducible refine drK (q4d hb (by simp) (cb (by assumption))) fun _ _ _ _ _=>?_); try dsimp only)
  | ((with_reducible refine drK (q1C hb _ (cb (by assumption))) fun _ _ _ _ _=>?_); try dsimp only)
  | (refine .bgr (by constructor<;>omega) ?_)
  | (refine .grd (by constructor<;>omega) ?_)
theorem z4d:Ok (fun q=>GC2 q.1∧R2 q.2.1∧(FitL q.1 q.2.1 q.2.2∨q.2.2.length=q.2.1.Right.length+1)) (q3d b):=by
 unfold q3d
 refine .bind (j1x hb) ?_
 rintro⟨g,r⟩ ⟨hg,hr⟩
 dsimp only at hg hr
 obtain⟨z,hz,hz1,hz2⟩:=j0h hb
 obtain⟨zb,zi,zh⟩:=z
 dsimp only at hz1 hz2
 subst hz2
 dsimp only
 refine .eq hz ?_
 have hR5:=hr.1.2.2.1
 refine Ok.bind (Q:=fun s:List Relation × Int × Int=>(s.1.length=r.Right.length∧∀ k own,s.1[k]? = some own→Valid own∧own.N=((q2U g (q4R r ((k+1:Nat):Int))).length:Int))∧0≤s.2.1) (z5Y (P:=fun j (s:List Relation × Int × Int)=>(s.1.length=j∧∀ k own,s.1[k]? = some own→Valid own∧own.N=((q2U g (q4R r ((k+1:Nat):Int))).length:Int))∧0≤s.2.1) (xs0:=r.Right) (fun j x s hx hs=>?_) r.Right 0 _ rfl (Nat.zero_le _) ⟨⟨rfl,by simp⟩,hz1⟩) ?_
 ·obtain⟨l,i,h⟩:=s
  obtain⟨⟨p1,p2⟩,p3⟩:=hs
  dsimp only at p1 p2 p3
  have hj:j < r.Right.length:=(List.getElem?_eq_some_iff.1 hx).1
  unfold q5W
  dsimp only
  refine drK (j1y hb hg.1 x p3) fun y i1 h1 hy hi1=>.grd (by constructor<;>omega) (.ret ⟨⟨by simp [p1],fun k own hk=>?_⟩,hi1⟩)
  dsimp only at hk
  rw [List.getElem?_append] at hk
  split at hk
  ·exact p2 k own hk
  ·rename_i hlt
   have:k=l.length:=by
    rcases Nat.lt_or_ge (k - l.length) 1 with h | h
    ·omega
    ·rw [List.getElem?_eq_none (by simpa using h)] at hk; cases hk
   subst this
   rw [Nat.sub_self] at hk
   cases hk
   rw [p1,z0U hx]
   exact hy
 ·rintro⟨l,i,h⟩ ⟨hl,hi⟩
  dsimp only at hl hi ⊢
  refine drK (q3S hb _ (cb hi)) fun y i1 h1 _ hi1=>?_
  dsimp only
  refine .ite (fun _=>?_) fun _=>.ret ⟨hg,hr,.inl hl⟩
  refine drK (Dr.of hb (by
   obtain⟨q,z,e1,_,_,_,e2,e3⟩:=z3T (o:=⟨zb,i1,h1⟩) ⟨hi1,hb⟩
   exact⟨q,z,e1,trivial,e2,e3⟩) (P:=fun _=>True)) fun q i2 h2 _ hi2=>.grd (by have:=hl.1; constructor<;>omega) (.ret ⟨hg,hr,.inr (by have:=hl.1; simp; omega)⟩)
end
theorem z9P {g:Grammar}{r:Rule}(h:Sz.szd g≤1048576)(hr:Sz.szd r≤1048576){list:List Relation}(hl:list.length=r.Right.length+1):q3n g r list=some ⟨0,[]⟩∧q2C g r list=some ⟨0,[]⟩:=by
 have hg:=z0P h
 have hl':=q9U hr
 unfold q3n q2C
 have hn:¬ (list.length:Int)=(r.Right.length:Int):=by omega
 rw [z4Z hg hl',Option.bind_some,if_neg hn,if_neg hn]
 exact⟨rfl,rfl⟩
theorem z2L (a:List UInt8):q5C a=some true:=by
 unfold q5C z5H
 rw [Option.bind_some]
 by_cases hb:1048576 < (a.length:Int)
 ·rw [if_pos (by simpa using hb)]
 rw [if_neg (by simpa using hb)]
 have hb:a.length≤1048576:=by omega
 obtain⟨⟨g,r,list⟩,e,hg,hr,hl⟩:=z4d hb
 rw [e,Option.bind_some]
 dsimp only at hg hr hl ⊢
 have hG:=szG hg
 have hR:Sz.szd r≤1048576:=Nat.le_trans (szR hr) (by decide)
 rcases hl with hf | hl
 ·obtain⟨c1,c2,c3⟩:=z8x hG hR hf
  rw [c1,c2,Option.bind_some,Option.bind_some,q6Z,Option.bind_some,if_pos rfl]
  by_cases hN:(q6L g r list).N=0
  ·rw [if_pos hN]
  rw [if_neg hN]
  have hV:∀ w∈list,Valid w:=fun w hw=>by obtain⟨k,hk⟩:=List.getElem?_of_mem hw; exact (hf.2 k w hk).1
  have h5:=hr.1.2.2.1
  have hm:=z2a (g:=fun w:Relation=>(⟨w.N,List.replicate w.N.toNat 0⟩:Relation)) (f:=q6p) list 0 [] fun k w s' hw hs=>by
   have hv:=hV w hw
   have:=hf.1
   rw [List.length_nil] at hs
   unfold q6p
   rw [q8M hv.1 hv.2.1,Option.bind_some,q1m (by constructor<;>omega)]
  rw [hm,Option.bind_some,List.nil_append]
  generalize hemp:(list.map fun w:Relation=>(⟨w.N,List.replicate w.N.toNat 0⟩:Relation))=emp
  have hfe:FitL g r emp:=by
   rw [← hemp]
   refine⟨by rw [List.length_map]; exact hf.1,fun k own hk=>?_⟩
   rw [List.getElem?_map] at hk
   cases hq:list[k]? with
   | none=>rw [hq] at hk; cases hk
   | some w=>
    rw [hq] at hk
    cases hk
    have:=hf.2 k w hq
    exact⟨q8l this.1.1 this.1.2.1,this.2⟩
  have hne:∀ own∈emp,∀ a i:Nat,¬ hasP own (a:Int) (i:Int):=fun own ho a i=>by
   rw [← hemp] at ho
   obtain⟨w,_,rfl⟩:=List.mem_map.1 ho
   exact z8H w.N a i
  obtain⟨d1,d2,d3⟩:=z8x hG hR hfe
  obtain⟨l1,l2,l3⟩:=j0n hG hR
  have h16:¬ 16 < (occL g r).length:=fun h=>hN (by unfold q6L; rw [if_pos h])
  have x1:q6L g r list=q4v (q6h g r 0 list (locR g r)):=if_neg h16
  have x0:q6L g r emp=q4v (locR g r):=by
   have:q6L g r emp=q4v (q6h g r 0 emp (locR g r)):=if_neg h16
   rw [this,z2K g r emp 0 _ (.inr hne)]
  have hrel:uniR (q6L g r list) (locR g r)=q6L g r list∧uniR (q6L g r list) (q6L g r emp)=q6L g r list∧(q6L g r emp=q6L g r list∨Sub (q6L g r emp) (q6L g r list)):=by
   rw [x1,x0]
   by_cases hv:Valid (locR g r)
   ·have h1:=z4c g r list 0 _ hv
    have h2:=h1.close2
    exact⟨(h1.trans (Sub.close h1.2.1)).uni,h2.uni,.inr h2⟩
   ·rw [z2K g r list 0 _ (.inl hv),z8G hv]
    exact⟨z8E hv,z8E hv,.inl rfl⟩
  obtain⟨s0,s1,e0,e1,hs⟩:=z9O (z0P hG) (r:=r) (by have:=j0r hg.1 r.Left; omega) hrel.2.2
  obtain⟨y,y1,y2,_⟩:=z3U (c:=q6L g r list) (z0P hG) (q9U hR)
  have hy:y=s1:=by rw [e1] at y1; exact (Option.some.inj y1).symm
  subst hy
  have hs1:y.Rows.length≤1048576:=by have:=hs.2.1.2.2.1; have:=hs.2.1.2.1; omega
  rw [y2,Option.bind_some,l1,Option.bind_some,z8F (by omega) hrel.1,Option.bind_some,if_pos rfl,d2,Option.bind_some,z8F (by omega) hrel.2.1,Option.bind_some,if_pos rfl,y1,Option.bind_some,q6Z,Option.bind_some,if_pos rfl,Option.bind_some,e0,Option.bind_some,z8F hs1 hs.uni,Option.bind_some]
 ·obtain⟨c1,c2⟩:=z9P hG hR hl
  rw [c1,c2,Option.bind_some,Option.bind_some,q6Z,Option.bind_some,if_pos rfl,if_pos rfl]
end Go.Proofs.YtiojgbiimbefiaaGreat
