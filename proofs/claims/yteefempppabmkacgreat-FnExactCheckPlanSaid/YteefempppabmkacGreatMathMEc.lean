/- What those partial functions come to: plain lemmas on data; each bears its conditions in its statement. -/
import Derived.Test.YteefempppabmkacGreatMathM6c
set_option linter.unusedVariables false
set_option linter.unusedSimpArgs false
set_option linter.ambiguousOpen false
set_option linter.unusedSectionVars false
set_option linter.unnecessarySimpa false
set_option linter.unusedVariables false
set_option linter.unusedSimpArgs false
namespace Go.Proofs.YteefempppabmkacGreat
open Go Go.E
theorem z3r (e:Expr):1≤fuE e:=by rw [z1N]; omega
theorem z3s {e x:Expr}(hx:x∈e.Args):fuE x+1≤fuE e:=by
 have:=z4N hx
 have:=z1N e
 omega
theorem q8Y {P:Expr→Prop}(h:∀ e,(∀ x∈e.Args,P x)→P e)(e:Expr):P e:=by
 have:∀ n e,fuE e≤n→P e:=by
  intro n
  induction n with
  | zero=>intro e he; have:=z3r e; omega
  | succ n ih=>intro e he; exact h e fun x hx=>ih x (by have:=z3s hx; omega)
 exact this _ e (Nat.le_refl _)
theorem q2P {α ρ:Type}{c:ρ}{q:α→Bool}:∀ {xs:List α} {i:Nat} {f:Nat→α→Unit→Option (Unit ⊕ ρ)},(∀ k x,x∈xs→f k x ()=some (if q x=true then .inl () else .inr c))→q2u f i xs ()=some (if xs.all q=true then .inl () else .inr c)
 | [],i,f,h=>rfl
 | x :: xs,i,f,h=>by
  rw [q2u,h i x (by simp)]
  by_cases hx:q x=true
  ·rw [if_pos hx,Option.bind_some]
   show q2u f (i+1) xs ()=_
   rw [q2P fun k y hy=>h k y (by simp [hy])]
   simp [hx]
  ·rw [if_neg hx]; simp [hx]
theorem z9y {α:Type}{q:α→Bool}:∀ {xs:List α} {i:Nat} {f:Nat→α→Unit→Option (Unit ⊕ Int)},(∀ k x,x∈xs→f k x ()=some (if q x=true then .inr (k:Int) else .inl ()))→q2u f i xs ()=some (if xs.any q=true then .inr ((i+xs.findIdx q:Nat):Int) else .inl ())
 | [],i,f,h=>rfl
 | x :: xs,i,f,h=>by
  rw [q2u,h i x (by simp)]
  by_cases hx:q x=true
  ·rw [if_pos hx]; simp [hx,List.findIdx_cons]
  ·rw [if_neg hx,Option.bind_some]
   show q2u f (i+1) xs ()=_
   rw [z9y fun k y hy=>h k y (by simp [hy])]
   have hx' : q x=false:=by simpa using hx
   simp only [List.any_cons,hx',Bool.false_or,List.findIdx_cons,cond_false]
   rw [show i+1+xs.findIdx q=i+(xs.findIdx q+1) by omega]
mutual
def allE (p:Expr→Bool):Expr→Bool
 | ⟨a0,a1,a2,a3,a4,a5,a6⟩=>p ⟨a0,a1,a2,a3,a4,a5,a6⟩&&j8o p a6
def j8o (p:Expr→Bool):List Expr→Bool
 | []=>true
 | x :: xs=>allE p x&&j8o p xs
end
mutual
def cntE:Expr→Nat
 | ⟨_,_,_,_,_,_,a6⟩=>z3f a6+1
def z3f:List Expr→Nat
 | []=>0
 | x :: xs=>cntE x+z3f xs
end
mutual
def depE:Expr→Nat
 | ⟨_,_,_,_,_,_,a6⟩=>j0m a6+1
def j0m:List Expr→Nat
 | []=>0
 | x :: xs=>max (depE x) (j0m xs)
end
theorem j4C (p:Expr→Bool):∀ l,j8o p l=l.all (allE p)
 | []=>rfl
 | x :: xs=>by rw [j8o,j4C p xs]; rfl
theorem z7l (p:Expr→Bool)(e:Expr):allE p e=(p e&&e.Args.all (allE p)):=by
 cases e; rw [allE,j4C]
theorem z7m (e:Expr):cntE e=z3f e.Args+1:=by cases e; rfl
theorem j6C (e:Expr):depE e=j0m e.Args+1:=by cases e; rfl
mutual
theorem j4D:∀ e:Expr,cntE e≤1+q9A e
 | ⟨a0,a1,a2,a3,a4,a5,a6⟩=>by
  have:=j2B a6
  simp only [cntE,q9A]; omega
theorem j2B:∀ l:List Expr,z3f l≤z1z l
 | []=>by simp [z3f]
 | x :: xs=>by
  have h1:=j4D x
  have h2:=j2B xs
  simp only [z3f,z1z]; omega
end
theorem j9G {e:Expr}(h:Sz.szd e≤1048576):cntE e≤1048577:=by
 have h1:=j4D e
 have h2:q9A e=Sz.szd e:=rfl
 omega
mutual
theorem j6D:∀ e:Expr,depE e≤cntE e
 | ⟨_,_,_,_,_,_,a6⟩=>by
  have:=j4E a6
  simp only [depE,cntE]; omega
theorem j4E:∀ l:List Expr,j0m l≤z3f l
 | []=>Nat.le_refl _
 | x :: xs=>by
  have h1:=j6D x
  have h2:=j4E xs
  simp only [j0m,z3f]; omega
end
theorem j2C:∀ {l:List Expr} {x:Expr},x∈l→cntE x≤z3f l
 | y :: l,x,h=>by
  simp only [z3f]
  rcases List.mem_cons.1 h with e | h
  ·subst e; omega
  ·have:=j2C h; omega
theorem j6E {e x:Expr}(hx:x∈e.Args):cntE x+1≤cntE e:=by
 have:=j2C hx
 have:=z7m e
 omega
theorem j5x (e:Expr):∀ m,fuE e≤m→cntE e≤1099511627776→q8z m e=some (cntE e:Int):=by
 induction e using q8Y with
 | h e ih=>
  intro m hm hc
  obtain⟨m,rfl⟩:∃ q,m=q+1:=⟨m - 1,by have:=z3r e; omega⟩
  show z1I (q8z m) e=_
  unfold z1I
  have key:∀ (l:List Expr) (i s:Nat),(∀ x∈l,x∈e.Args)→s+z3f l≤1099511627776→q2J (z0B (q8z m)) i l (s:Int)=some ((s+z3f l:Nat):Int):=by
   intro l
   induction l with
   | nil=>intro i s _ _; rfl
   | cons x l ihl=>
    intro i s hx hs
    have hxm:=hx x (by simp)
    simp only [z3f] at hs
    have h1:=ih x hxm m (by have:=z3s hxm; omega) (by omega)
    rw [q2J]
    unfold z0B
    rw [h1,Option.bind_some,q2q (by constructor<;>omega),Option.bind_some]
    have:=ihl (i+1) (s+cntE x) (fun y hy=>hx y (by simp [hy])) (by omega)
    rw [Int.natCast_add] at this
    unfold z0B at this
    rw [this,z3f]
    congr 1; omega
  rw [z7m] at hc
  have:=key e.Args 0 1 (fun _ h=>h) (by omega)
  rw [show ((1:Nat):Int)=1 from rfl] at this
  rw [this,Option.bind_some,z7m,Nat.add_comm]
theorem j6F {e:Expr}(h:cntE e≤1099511627776):z3W e=some (cntE e:Int):=q7E (fuE e) fun m hm=>j5x e m hm h
theorem k1F (a b:Nat):(if (b:Int) > (a:Int) then (b:Int) else (a:Int))=((max a b:Nat):Int):=by
 split<;>omega
theorem z9z {f:Expr→Option Int}{g:Nat→Expr→Int→Option Int}(hg:∀ k x s,g k x s=(f x).bind fun y=>some (if y > s then y else s)):∀ (l:List Expr) (i s:Nat),(∀ x∈l,f x=some (depE x:Int))→q2J g i l (s:Int)=some ((max s (j0m l):Nat):Int)
 | [],i,s,_=>by rw [q2J,j0m,Nat.max_zero]
 | x :: l,i,s,h=>by
  rw [q2J,hg,h x (by simp),Option.bind_some,Option.bind_some,k1F,z9z hg l (i+1) _ fun y hy=>h y (by simp [hy]),j0m,Nat.max_assoc]
theorem j6G (a b:Int):z2L a b=some (if b > a then b else a):=by
 unfold z2L
 by_cases h:b < a
 ·rw [if_pos h,if_neg (by omega)]
 ·rw [if_neg h]
  split
  ·rfl
  ·congr 1; omega
theorem j0z (e:Expr):∀ m,fuE e≤m→cntE e≤1099511627776→q5H m e=some (depE e:Int)∧q5F m e=some (depE e:Int):=by
 induction e using q8Y with
 | h e ih=>
  intro m hm hc
  obtain⟨m,rfl⟩:∃ q,m=q+1:=⟨m - 1,by have:=z3r e; omega⟩
  show q9K (q5H m) e=_∧q9C (q5F m) e=_
  unfold q9K q9C
  have hx:∀ x∈e.Args,q5H m x=some (depE x:Int)∧q5F m x=some (depE x:Int):=fun x hx=>ih x hx m (by have:=z3s hx; omega) (by have:=j6E hx; omega)
  have k1:=z9z (f:=q5H m) (g:=z1e (q5H m)) (fun k x s=>rfl) e.Args 0 0 fun x h=>(hx x h).1
  have k2:=z9z (f:=q5F m) (g:=z0Z (q5F m)) (fun k x s=>by
   unfold z0Z
   congr 1; funext y
   rw [j6G,Option.bind_some]) e.Args 0 0 fun x h=>(hx x h).2
  rw [show ((0:Nat):Int)=0 from rfl] at k1 k2
  have hd:=j6D e
  rw [j6C] at hd
  rw [k1,k2]
  have hg:I64 (((max 0 (j0m e.Args):Nat):Int)+1):=by constructor<;>omega
  have he:((max 0 (j0m e.Args):Nat):Int)+1=(depE e:Int):=by rw [j6C]; omega
  refine⟨?_,?_⟩
  ·rw [Option.bind_some,q2q hg,he]
  ·rw [Option.bind_some,q2q hg,he]
theorem j6H {e:Expr}(h:cntE e≤1099511627776):z1Z e=some (depE e:Int):=q7E (fuE e) fun m hm=>(j0z e m hm h).1
theorem j6I {e:Expr}(h:cntE e≤1099511627776):z1W e=some (depE e:Int):=q7E (fuE e) fun m hm=>(j0z e m hm h).2
def z8j (a:Int)(n:Nat):Int:=if (n:Int)≤a then a - n else -1
theorem j6J (e:Expr):∀ m,fuE e≤m→∀ a:Int,0≤a→a≤1048576→cntE e≤1099511627776→z0Y m e a=some (z8j a (cntE e)):=by
 induction e using q8Y with
 | h e ih=>
  intro m hm a h0 h1 hc
  obtain⟨m,rfl⟩:∃ q,m=q+1:=⟨m - 1,by have:=z3r e; omega⟩
  show z6b (z0Y m) e a=_
  unfold z6b
  rw [q2q (by constructor<;>omega)]
  have hlen:e.Args.length≤cntE e:=by
   rw [z7m]
   have:∀ l:List Expr,l.length≤z3f l:=by
    intro l
    induction l with
    | nil=>simp
    | cons x l ih=>
     have:=z7m x
     simp only [z3f,List.length_cons]; omega
   have:=this e.Args; omega
  have key:∀ (n k:Nat) (s:Int),k+n=e.Args.length→-1≤s→s≤1048576→q7k (z0L (z0Y m) e) (s,(k:Int))=some (if 0≤s then z8j s (z3f (e.Args.drop k)) else s):=by
   intro n
   induction n with
   | zero=>
    intro k s hk _ _
    have hdrop:e.Args.drop k=[]:=List.drop_eq_nil_of_le (by omega)
    refine q3X ?_
    unfold z0L
    dsimp only
    rw [if_neg (by omega),hdrop]
    congr 2
    split
    ·unfold z8j; simp [z3f]; omega
    ·rfl
   | succ n ihn=>
    intro k s hk hs1 hs2
    have hkl:k < e.Args.length:=by omega
    by_cases hs:0≤s
    ·have hxm:e.Args[k]∈e.Args:=List.getElem_mem hkl
     have hr:=ih _ hxm m (by have:=z3s hxm; omega) s hs hs2 (by have:=j6E hxm; omega)
     have hstep:z0L (z0Y m) e (s,(k:Int))=some (.inl (z8j s (cntE e.Args[k]),((k+1:Nat):Int))):=by
      unfold z0L
      dsimp only
      rw [if_pos (by omega),if_pos hs,q2q (by omega),Int.toNat_natCast,List.getElem?_eq_getElem hkl,Option.bind_some,hr,Option.bind_some,q2q (by constructor<;>omega)]
      rfl
     have hb1:-1≤z8j s (cntE e.Args[k]):=by unfold z8j; split<;>omega
     have hb2:z8j s (cntE e.Args[k])≤1048576:=by unfold z8j; split<;>omega
     rw [q5h hstep,ihn (k+1) _ (by omega) hb1 hb2,if_pos hs]
     have hd:e.Args.drop k=e.Args[k] :: e.Args.drop (k+1):=List.drop_eq_getElem_cons hkl
     rw [hd,z3f]
     congr 1
     unfold z8j
     split<;>split<;>(try split)<;>omega
    ·refine q3X ?_
     unfold z0L
     dsimp only
     rw [if_pos (by omega),if_neg hs,if_neg hs]
  have:=key e.Args.length 0 (a - 1) (by omega) (by omega) (by omega)
  rw [show ((0:Nat):Int)=0 from rfl] at this
  rw [this,Option.bind_some,List.drop_zero,z7m]
  congr 1
  unfold z8j
  split<;>(try split)<;>(try split)<;>omega
theorem j8p {e:Expr}{a:Int}(h0:0≤a)(h1:a≤1048576)(h:cntE e≤1099511627776):z8T e a=some (z8j a (cntE e)):=q7E (fuE e) fun m hm=>j6J e m hm a h0 h1 h
end Go.Proofs.YteefempppabmkacGreat
