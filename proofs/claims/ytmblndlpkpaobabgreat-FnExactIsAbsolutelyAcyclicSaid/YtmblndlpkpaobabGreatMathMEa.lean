/- What those partial functions come to: plain lemmas on data; each bears its conditions in its statement. -/
import Derived.Test.YtmblndlpkpaobabGreatMathM6a
set_option linter.unusedVariables false
set_option linter.unusedSimpArgs false
set_option linter.ambiguousOpen false
set_option linter.unusedSectionVars false
set_option linter.unnecessarySimpa false
set_option linter.unusedVariables false
set_option linter.unusedSimpArgs false
namespace Go.Proofs.YtmblndlpkpaobabGreat
open Go Go.E
theorem z4S (e:Expr):1≤fuE e:=by rw [z1S]; omega
theorem z4T {e x:Expr}(hx:x∈e.Args):fuE x+1≤fuE e:=by
 have:=z4I hx
 have:=z1S e
 omega
theorem z0L {P:Expr→Prop}(h:∀ e,(∀ x∈e.Args,P x)→P e)(e:Expr):P e:=by
 have:∀ n e,fuE e≤n→P e:=by
  intro n
  induction n with
  | zero=>intro e he; have:=z4S e; omega
  | succ n ih=>intro e he; exact h e fun x hx=>ih x (by have:=z4T hx; omega)
 exact this _ e (Nat.le_refl _)
theorem q3L {α ρ:Type}{c:ρ}{q:α→Bool}:∀ {xs:List α}{i:Nat}{f:Nat→α→Unit→Option (Unit ⊕ ρ)},(∀ k x,x∈xs→f k x ()=some (if q x=true then .inl () else .inr c))→q2I f i xs ()=some (if xs.all q=true then .inl () else .inr c)
 | [],i,f,h=>rfl
 | x :: xs,i,f,h=>by
  rw [q2I,h i x (by simp)]
  by_cases hx:q x=true
  ·rw [if_pos hx,Option.bind_some]
   show q2I f (i+1) xs ()=_
   rw [q3L fun k y hy=>h k y (by simp [hy])]
   simp [hx]
  ·rw [if_neg hx]; simp [hx]
theorem z9e {α:Type}{q:α→Bool}:∀ {xs:List α}{i:Nat}{f:Nat→α→Unit→Option (Unit ⊕ Int)},(∀ k x,x∈xs→f k x ()=some (if q x=true then .inr (k:Int) else .inl ()))→q2I f i xs ()=some (if xs.any q=true then .inr ((i+xs.findIdx q:Nat):Int) else .inl ())
 | [],i,f,h=>rfl
 | x :: xs,i,f,h=>by
  rw [q2I,h i x (by simp)]
  by_cases hx:q x=true
  ·rw [if_pos hx]; simp [hx,List.findIdx_cons]
  ·rw [if_neg hx,Option.bind_some]
   show q2I f (i+1) xs ()=_
   rw [z9e fun k y hy=>h k y (by simp [hy])]
   have hx' : q x=false:=by simpa using hx
   simp only [List.any_cons,hx',Bool.false_or,List.findIdx_cons,cond_false]
   rw [show i+1+xs.findIdx q=i+(xs.findIdx q+1) by omega]
mutual
def allE (p:Expr→Bool):Expr→Bool
 | ⟨a0,a1,a2,a3,a4,a5,a6⟩=>p ⟨a0,a1,a2,a3,a4,a5,a6⟩&&j7S p a6
def j7S (p:Expr→Bool):List Expr→Bool
 | []=>true
 | x :: xs=>allE p x&&j7S p xs
end
mutual
def cntE:Expr→Nat
 | ⟨_,_,_,_,_,_,a6⟩=>z3m a6+1
def z3m:List Expr→Nat
 | []=>0
 | x :: xs=>cntE x+z3m xs
end
mutual
def depE:Expr→Nat
 | ⟨_,_,_,_,_,_,a6⟩=>z9Q a6+1
def z9Q:List Expr→Nat
 | []=>0
 | x :: xs=>max (depE x) (z9Q xs)
end
theorem j3W (p:Expr→Bool):∀ l,j7S p l=l.all (allE p)
 | []=>rfl
 | x :: xs=>by rw [j7S,j3W p xs]; rfl
theorem j1e (p:Expr→Bool)(e:Expr):allE p e=(p e&&e.Args.all (allE p)):=by
 cases e; rw [allE,j3W]
theorem z7b (e:Expr):cntE e=z3m e.Args+1:=by cases e; rfl
theorem j6j (e:Expr):depE e=z9Q e.Args+1:=by cases e; rfl
mutual
theorem j3X:∀ e:Expr,cntE e≤1+z1I e
 | ⟨a0,a1,a2,a3,a4,a5,a6⟩=>by
  have:=j2c a6
  simp only [cntE,z1I]; omega
theorem j2c:∀ l:List Expr,z3m l≤z4w l
 | []=>by simp [z3m]
 | x :: xs=>by
  have h1:=j3X x
  have h2:=j2c xs
  simp only [z3m,z4w]; omega
end
theorem j9h {e:Expr}(h:Sz.szd e≤1048576):cntE e≤1048577:=by
 have h1:=j3X e
 have h2:z1I e=Sz.szd e:=rfl
 omega
mutual
theorem j6k:∀ e:Expr,depE e≤cntE e
 | ⟨_,_,_,_,_,_,a6⟩=>by
  have:=j3Y a6
  simp only [depE,cntE]; omega
theorem j3Y:∀ l:List Expr,z9Q l≤z3m l
 | []=>Nat.le_refl _
 | x :: xs=>by
  have h1:=j6k x
  have h2:=j3Y xs
  simp only [z9Q,z3m]; omega
end
theorem j2d:∀ {l:List Expr}{x:Expr},x∈l→cntE x≤z3m l
 | y :: l,x,h=>by
  simp only [z3m]
  rcases List.mem_cons.1 h with e | h
  ·subst e; omega
  ·have:=j2d h; omega
theorem j6l {e x:Expr}(hx:x∈e.Args):cntE x+1≤cntE e:=by
 have:=j2d hx
 have:=z7b e
 omega
theorem j5h (e:Expr):∀ m,fuE e≤m→cntE e≤1099511627776→q8A m e=some (cntE e:Int):=by
 induction e using z0L with
 | h e ih=>
  intro m hm hc
  obtain⟨m,rfl⟩:∃ q,m=q+1:=⟨m - 1,by have:=z4S e; omega⟩
  show z1N (q8A m) e=_
  unfold z1N
  have key:∀ (l:List Expr) (i s:Nat),(∀ x∈l,x∈e.Args)→s+z3m l≤1099511627776→q2G (z0D (q8A m)) i l (s:Int)=some ((s+z3m l:Nat):Int):=by
   intro l
   induction l with
   | nil=>intro i s _ _; rfl
   | cons x l ihl=>
    intro i s hx hs
    have hxm:=hx x (by simp)
    simp only [z3m] at hs
    have h1:=ih x hxm m (by have:=z4T hxm; omega) (by omega)
    rw [q2G]
    unfold z0D
    rw [h1,Option.bind_some,q2B (by constructor<;>omega),Option.bind_some]
    have:=ihl (i+1) (s+cntE x) (fun y hy=>hx y (by simp [hy])) (by omega)
    rw [Int.natCast_add] at this
    unfold z0D at this
    rw [this,z3m]
    congr 1; omega
  rw [z7b] at hc
  have:=key e.Args 0 1 (fun _ h=>h) (by omega)
  rw [show ((1:Nat):Int)=1 from rfl] at this
  rw [this,Option.bind_some,z7b,Nat.add_comm]
theorem j6m {e:Expr}(h:cntE e≤1099511627776):z3O e=some (cntE e:Int):=q8q (fuE e) fun m hm=>j5h e m hm h
theorem k1t (a b:Nat):(if (b:Int) > (a:Int) then (b:Int) else (a:Int))=((max a b:Nat):Int):=by
 split<;>omega
theorem z9f {f:Expr→Option Int}{g:Nat→Expr→Int→Option Int}(hg:∀ k x s,g k x s=(f x).bind fun y=>some (if y > s then y else s)):∀ (l:List Expr)(i s:Nat),(∀ x∈l,f x=some (depE x:Int))→q2G g i l (s:Int)=some ((max s (z9Q l):Nat):Int)
 | [],i,s,_=>by rw [q2G,z9Q,Nat.max_zero]
 | x :: l,i,s,h=>by
  rw [q2G,hg,h x (by simp),Option.bind_some,Option.bind_some,k1t,z9f hg l (i+1) _ fun y hy=>h y (by simp [hy]),z9Q,Nat.max_assoc]
theorem j6n (a b:Int):z0u a b=some (if b > a then b else a):=by
 unfold z0u
 by_cases h:b < a
 ·rw [if_pos h,if_neg (by omega)]
 ·rw [if_neg h]
  split
  ·rfl
  ·congr 1; omega
theorem j0g (e:Expr):∀ m,fuE e≤m→cntE e≤1099511627776→q5D m e=some (depE e:Int)∧q5C m e=some (depE e:Int):=by
 induction e using z0L with
 | h e ih=>
  intro m hm hc
  obtain⟨m,rfl⟩:∃ q,m=q+1:=⟨m - 1,by have:=z4S e; omega⟩
  show q9L (q5D m) e=_∧q9E (q5C m) e=_
  unfold q9L q9E
  have hx:∀ x∈e.Args,q5D m x=some (depE x:Int)∧q5C m x=some (depE x:Int):=fun x hx=>ih x hx m (by have:=z4T hx; omega) (by have:=j6l hx; omega)
  have k1:=z9f (f:=q5D m) (g:=z1e (q5D m)) (fun k x s=>rfl) e.Args 0 0 fun x h=>(hx x h).1
  have k2:=z9f (f:=q5C m) (g:=z0Y (q5C m)) (fun k x s=>by
   unfold z0Y
   congr 1; funext y
   rw [j6n,Option.bind_some]) e.Args 0 0 fun x h=>(hx x h).2
  rw [show ((0:Nat):Int)=0 from rfl] at k1 k2
  have hd:=j6k e
  rw [j6j] at hd
  rw [k1,k2]
  have hg:I64 (((max 0 (z9Q e.Args):Nat):Int)+1):=by constructor<;>omega
  have he:((max 0 (z9Q e.Args):Nat):Int)+1=(depE e:Int):=by rw [j6j]; omega
  refine⟨?_,?_⟩
  ·rw [Option.bind_some,q2B hg,he]
  ·rw [Option.bind_some,q2B hg,he]
theorem j6o {e:Expr}(h:cntE e≤1099511627776):z1Z e=some (depE e:Int):=q8q (fuE e) fun m hm=>(j0g e m hm h).1
theorem j6p {e:Expr}(h:cntE e≤1099511627776):z1W e=some (depE e:Int):=q8q (fuE e) fun m hm=>(j0g e m hm h).2
def z7T (a:Int)(n:Nat):Int:=if (n:Int)≤a then a - n else -1
theorem j6q (e:Expr):∀ m,fuE e≤m→∀ a:Int,0≤a→a≤1048576→cntE e≤1099511627776→z0X m e a=some (z7T a (cntE e)):=by
 induction e using z0L with
 | h e ih=>
  intro m hm a h0 h1 hc
  obtain⟨m,rfl⟩:∃ q,m=q+1:=⟨m - 1,by have:=z4S e; omega⟩
  show z5R (z0X m) e a=_
  unfold z5R
  rw [q2B (by constructor<;>omega)]
  have hlen:e.Args.length≤cntE e:=by
   rw [z7b]
   have:∀ l:List Expr,l.length≤z3m l:=by
    intro l
    induction l with
    | nil=>simp
    | cons x l ih=>
     have:=z7b x
     simp only [z3m,List.length_cons]; omega
   have:=this e.Args; omega
  have key:∀ (n k:Nat) (s:Int),k+n=e.Args.length→-1≤s→s≤1048576→q5u (z0O (z0X m) e) (s,(k:Int))=some (if 0≤s then z7T s (z3m (e.Args.drop k)) else s):=by
   intro n
   induction n with
   | zero=>
    intro k s hk _ _
    have hdrop:e.Args.drop k=[]:=List.drop_eq_nil_of_le (by omega)
    refine q2X ?_
    unfold z0O
    dsimp only
    rw [if_neg (by omega),hdrop]
    congr 2
    split
    ·unfold z7T; simp [z3m]; omega
    ·rfl
   | succ n ihn=>
    intro k s hk hs1 hs2
    have hkl:k < e.Args.length:=by omega
    by_cases hs:0≤s
    ·have hxm:e.Args[k]∈e.Args:=List.getElem_mem hkl
     have hr:=ih _ hxm m (by have:=z4T hxm; omega) s hs hs2 (by have:=j6l hxm; omega)
     have hstep:z0O (z0X m) e (s,(k:Int))=some (.inl (z7T s (cntE e.Args[k]),((k+1:Nat):Int))):=by
      unfold z0O
      dsimp only
      rw [if_pos (by omega),if_pos hs,q2B (by omega),Int.toNat_natCast,List.getElem?_eq_getElem hkl,Option.bind_some,hr,Option.bind_some,q2B (by constructor<;>omega)]
      rfl
     have hb1:-1≤z7T s (cntE e.Args[k]):=by unfold z7T; split<;>omega
     have hb2:z7T s (cntE e.Args[k])≤1048576:=by unfold z7T; split<;>omega
     rw [q3V hstep,ihn (k+1) _ (by omega) hb1 hb2,if_pos hs]
     have hd:e.Args.drop k=e.Args[k] :: e.Args.drop (k+1):=List.drop_eq_getElem_cons hkl
     rw [hd,z3m]
     congr 1
     unfold z7T
     split<;>split<;>(try split)<;>omega
    ·refine q2X ?_
     unfold z0O
     dsimp only
     rw [if_pos (by omega),if_neg hs,if_neg hs]
  have:=key e.Args.length 0 (a - 1) (by omega) (by omega) (by omega)
  rw [show ((0:Nat):Int)=0 from rfl] at this
  rw [this,Option.bind_some,List.drop_zero,z7b]
  congr 1
  unfold z7T
  split<;>(try split)<;>(try split)<;>omega
theorem j7T {e:Expr}{a:Int}(h0:0≤a)(h1:a≤1048576)(h:cntE e≤1099511627776):z8r e a=some (z7T a (cntE e)):=q8q (fuE e) fun m hm=>j6q e m hm a h0 h1 h
end Go.Proofs.YtmblndlpkpaobabGreat
