/- What those partial functions come to: plain lemmas on data; each bears its conditions in its statement. -/
import Derived.Test.YtmblndlpkpaobabGreatMathM6a
set_option linter.unusedVariables false
set_option linter.unusedSimpArgs false
set_option linter.ambiguousOpen false
set_option linter.unusedSectionVars false
set_option linter.unnecessarySimpa false
set_option linter.unusedVariables false
set_option linter.unusedSimpArgs false
namespace Go.Proofs.YtmblndlpkpaobabGreat
open Go Go.E
theorem z4T (e:Expr):1≤fuE e:=by rw [z1T]; omega
theorem z4U {e x:Expr}(hx:x∈e.Args):fuE x+1≤fuE e:=by
 have:=z4J hx
 have:=z1T e
 omega
theorem z0N {P:Expr→Prop}(h:∀ e,(∀ x∈e.Args,P x)→P e)(e:Expr):P e:=by
 have:∀ n e,fuE e≤n→P e:=by
  intro n
  induction n with
  | zero=>intro e he; have:=z4T e; omega
  | succ n ih=>intro e he; exact h e fun x hx=>ih x (by have:=z4U hx; omega)
 exact this _ e (Nat.le_refl _)
theorem q3L {α ρ:Type}{c:ρ}{q:α→Bool}:∀ {xs:List α} {i:Nat} {f:Nat→α→Unit→Option (Unit ⊕ ρ)},(∀ k x,x∈xs→f k x ()=some (if q x=true then .inl () else .inr c))→q2I f i xs ()=some (if xs.all q=true then .inl () else .inr c)
 | [],i,f,h=>rfl
 | x :: xs,i,f,h=>by
  rw [q2I,h i x (by simp)]
  by_cases hx:q x=true
  ·rw [if_pos hx,Option.bind_some]
   show q2I f (i+1) xs ()=_
   rw [q3L fun k y hy=>h k y (by simp [hy])]
   simp [hx]
  ·rw [if_neg hx]; simp [hx]
theorem z9g {α:Type}{q:α→Bool}:∀ {xs:List α} {i:Nat} {f:Nat→α→Unit→Option (Unit ⊕ Int)},(∀ k x,x∈xs→f k x ()=some (if q x=true then .inr (k:Int) else .inl ()))→q2I f i xs ()=some (if xs.any q=true then .inr ((i+xs.findIdx q:Nat):Int) else .inl ())
 | [],i,f,h=>rfl
 | x :: xs,i,f,h=>by
  rw [q2I,h i x (by simp)]
  by_cases hx:q x=true
  ·rw [if_pos hx]; simp [hx,List.findIdx_cons]
  ·rw [if_neg hx,Option.bind_some]
   show q2I f (i+1) xs ()=_
   rw [z9g fun k y hy=>h k y (by simp [hy])]
   have hx' : q x=false:=by simpa using hx
   simp only [List.any_cons,hx',Bool.false_or,List.findIdx_cons,cond_false]
   rw [show i+1+xs.findIdx q=i+(xs.findIdx q+1) by omega]
mutual
def allE (p:Expr→Bool):Expr→Bool
 | ⟨a0,a1,a2,a3,a4,a5,a6⟩=>p ⟨a0,a1,a2,a3,a4,a5,a6⟩&&j7W p a6
def j7W (p:Expr→Bool):List Expr→Bool
 | []=>true
 | x :: xs=>allE p x&&j7W p xs
end
mutual
def cntE:Expr→Nat
 | ⟨_,_,_,_,_,_,a6⟩=>z3n a6+1
def z3n:List Expr→Nat
 | []=>0
 | x :: xs=>cntE x+z3n xs
end
mutual
def depE:Expr→Nat
 | ⟨_,_,_,_,_,_,a6⟩=>z9S a6+1
def z9S:List Expr→Nat
 | []=>0
 | x :: xs=>max (depE x) (z9S xs)
end
theorem j4b (p:Expr→Bool):∀ l,j7W p l=l.all (allE p)
 | []=>rfl
 | x :: xs=>by rw [j7W,j4b p xs]; rfl
theorem j1i (p:Expr→Bool)(e:Expr):allE p e=(p e&&e.Args.all (allE p)):=by
 cases e; rw [allE,j4b]
theorem z7d (e:Expr):cntE e=z3n e.Args+1:=by cases e; rfl
theorem j6n (e:Expr):depE e=z9S e.Args+1:=by cases e; rfl
mutual
theorem j4c:∀ e:Expr,cntE e≤1+q9E e
 | ⟨a0,a1,a2,a3,a4,a5,a6⟩=>by
  have:=j2h a6
  simp only [cntE,q9E]; omega
theorem j2h:∀ l:List Expr,z3n l≤z1K l
 | []=>by simp [z3n]
 | x :: xs=>by
  have h1:=j4c x
  have h2:=j2h xs
  simp only [z3n,z1K]; omega
end
theorem j9m {e:Expr}(h:Sz.szd e≤1048576):cntE e≤1048577:=by
 have h1:=j4c e
 have h2:q9E e=Sz.szd e:=rfl
 omega
mutual
theorem j6o:∀ e:Expr,depE e≤cntE e
 | ⟨_,_,_,_,_,_,a6⟩=>by
  have:=j4d a6
  simp only [depE,cntE]; omega
theorem j4d:∀ l:List Expr,z9S l≤z3n l
 | []=>Nat.le_refl _
 | x :: xs=>by
  have h1:=j6o x
  have h2:=j4d xs
  simp only [z9S,z3n]; omega
end
theorem j2i:∀ {l:List Expr} {x:Expr},x∈l→cntE x≤z3n l
 | y :: l,x,h=>by
  simp only [z3n]
  rcases List.mem_cons.1 h with e | h
  ·subst e; omega
  ·have:=j2i h; omega
theorem j6p {e x:Expr}(hx:x∈e.Args):cntE x+1≤cntE e:=by
 have:=j2i hx
 have:=z7d e
 omega
theorem j5m (e:Expr):∀ m,fuE e≤m→cntE e≤1099511627776→q8A m e=some (cntE e:Int):=by
 induction e using z0N with
 | h e ih=>
  intro m hm hc
  obtain⟨m,rfl⟩:∃ q,m=q+1:=⟨m - 1,by have:=z4T e; omega⟩
  show z1O (q8A m) e=_
  unfold z1O
  have key:∀ (l:List Expr) (i s:Nat),(∀ x∈l,x∈e.Args)→s+z3n l≤1099511627776→q2G (z0F (q8A m)) i l (s:Int)=some ((s+z3n l:Nat):Int):=by
   intro l
   induction l with
   | nil=>intro i s _ _; rfl
   | cons x l ihl=>
    intro i s hx hs
    have hxm:=hx x (by simp)
    simp only [z3n] at hs
    have h1:=ih x hxm m (by have:=z4U hxm; omega) (by omega)
    rw [q2G]
    unfold z0F
    rw [h1,Option.bind_some,q2B (by constructor<;>omega),Option.bind_some]
    have:=ihl (i+1) (s+cntE x) (fun y hy=>hx y (by simp [hy])) (by omega)
    rw [Int.natCast_add] at this
    unfold z0F at this
    rw [this,z3n]
    congr 1; omega
  rw [z7d] at hc
  have:=key e.Args 0 1 (fun _ h=>h) (by omega)
  rw [show ((1:Nat):Int)=1 from rfl] at this
  rw [this,Option.bind_some,z7d,Nat.add_comm]
theorem j6q {e:Expr}(h:cntE e≤1099511627776):z3Q e=some (cntE e:Int):=q8p (fuE e) fun m hm=>j5m e m hm h
theorem k1y (a b:Nat):(if (b:Int) > (a:Int) then (b:Int) else (a:Int))=((max a b:Nat):Int):=by
 split<;>omega
theorem z9h {f:Expr→Option Int}{g:Nat→Expr→Int→Option Int}(hg:∀ k x s,g k x s=(f x).bind fun y=>some (if y > s then y else s)):∀ (l:List Expr) (i s:Nat),(∀ x∈l,f x=some (depE x:Int))→q2G g i l (s:Int)=some ((max s (z9S l):Nat):Int)
 | [],i,s,_=>by rw [q2G,z9S,Nat.max_zero]
 | x :: l,i,s,h=>by
  rw [q2G,hg,h x (by simp),Option.bind_some,Option.bind_some,k1y,z9h hg l (i+1) _ fun y hy=>h y (by simp [hy]),z9S,Nat.max_assoc]
theorem j6r (a b:Int):z0w a b=some (if b > a then b else a):=by
 unfold z0w
 by_cases h:b < a
 ·rw [if_pos h,if_neg (by omega)]
 ·rw [if_neg h]
  split
  ·rfl
  ·congr 1; omega
theorem j0j (e:Expr):∀ m,fuE e≤m→cntE e≤1099511627776→q5D m e=some (depE e:Int)∧q5C m e=some (depE e:Int):=by
 induction e using z0N with
 | h e ih=>
  intro m hm hc
  obtain⟨m,rfl⟩:∃ q,m=q+1:=⟨m - 1,by have:=z4T e; omega⟩
  show q9N (q5D m) e=_∧q9G (q5C m) e=_
  unfold q9N q9G
  have hx:∀ x∈e.Args,q5D m x=some (depE x:Int)∧q5C m x=some (depE x:Int):=fun x hx=>ih x hx m (by have:=z4U hx; omega) (by have:=j6p hx; omega)
  have k1:=z9h (f:=q5D m) (g:=z1g (q5D m)) (fun k x s=>rfl) e.Args 0 0 fun x h=>(hx x h).1
  have k2:=z9h (f:=q5C m) (g:=z1a (q5C m)) (fun k x s=>by
   unfold z1a
   congr 1; funext y
   rw [j6r,Option.bind_some]) e.Args 0 0 fun x h=>(hx x h).2
  rw [show ((0:Nat):Int)=0 from rfl] at k1 k2
  have hd:=j6o e
  rw [j6n] at hd
  rw [k1,k2]
  have hg:I64 (((max 0 (z9S e.Args):Nat):Int)+1):=by constructor<;>omega
  have he:((max 0 (z9S e.Args):Nat):Int)+1=(depE e:Int):=by rw [j6n]; omega
  refine⟨?_,?_⟩
  ·rw [Option.bind_some,q2B hg,he]
  ·rw [Option.bind_some,q2B hg,he]
theorem j6s {e:Expr}(h:cntE e≤1099511627776):z2a e=some (depE e:Int):=q8p (fuE e) fun m hm=>(j0j e m hm h).1
theorem j6t {e:Expr}(h:cntE e≤1099511627776):z1X e=some (depE e:Int):=q8p (fuE e) fun m hm=>(j0j e m hm h).2
def z7V (a:Int)(n:Nat):Int:=if (n:Int)≤a then a - n else -1
theorem j6u (e:Expr):∀ m,fuE e≤m→∀ a:Int,0≤a→a≤1048576→cntE e≤1099511627776→z0Z m e a=some (z7V a (cntE e)):=by
 induction e using z0N with
 | h e ih=>
  intro m hm a h0 h1 hc
  obtain⟨m,rfl⟩:∃ q,m=q+1:=⟨m - 1,by have:=z4T e; omega⟩
  show z5S (z0Z m) e a=_
  unfold z5S
  rw [q2B (by constructor<;>omega)]
  have hlen:e.Args.length≤cntE e:=by
   rw [z7d]
   have:∀ l:List Expr,l.length≤z3n l:=by
    intro l
    induction l with
    | nil=>simp
    | cons x l ih=>
     have:=z7d x
     simp only [z3n,List.length_cons]; omega
   have:=this e.Args; omega
  have key:∀ (n k:Nat) (s:Int),k+n=e.Args.length→-1≤s→s≤1048576→q5u (z0Q (z0Z m) e) (s,(k:Int))=some (if 0≤s then z7V s (z3n (e.Args.drop k)) else s):=by
   intro n
   induction n with
   | zero=>
    intro k s hk _ _
    have hdrop:e.Args.drop k=[]:=List.drop_eq_nil_of_le (by omega)
    refine q2X ?_
    unfold z0Q
    dsimp only
    rw [if_neg (by omega),hdrop]
    congr 2
    split
    ·unfold z7V; simp [z3n]; omega
    ·rfl
   | succ n ihn=>
    intro k s hk hs1 hs2
    have hkl:k < e.Args.length:=by omega
    by_cases hs:0≤s
    ·have hxm:e.Args[k]∈e.Args:=List.getElem_mem hkl
     have hr:=ih _ hxm m (by have:=z4U hxm; omega) s hs hs2 (by have:=j6p hxm; omega)
     have hstep:z0Q (z0Z m) e (s,(k:Int))=some (.inl (z7V s (cntE e.Args[k]),((k+1:Nat):Int))):=by
      unfold z0Q
      dsimp only
      rw [if_pos (by omega),if_pos hs,q2B (by omega),Int.toNat_natCast,List.getElem?_eq_getElem hkl,Option.bind_some,hr,Option.bind_some,q2B (by constructor<;>omega)]
      rfl
     have hb1:-1≤z7V s (cntE e.Args[k]):=by unfold z7V; split<;>omega
     have hb2:z7V s (cntE e.Args[k])≤1048576:=by unfold z7V; split<;>omega
     rw [q3V hstep,ihn (k+1) _ (by omega) hb1 hb2,if_pos hs]
     have hd:e.Args.drop k=e.Args[k] :: e.Args.drop (k+1):=List.drop_eq_getElem_cons hkl
     rw [hd,z3n]
     congr 1
     unfold z7V
     split<;>split<;>(try split)<;>omega
    ·refine q2X ?_
     unfold z0Q
     dsimp only
     rw [if_pos (by omega),if_neg hs,if_neg hs]
  have:=key e.Args.length 0 (a - 1) (by omega) (by omega) (by omega)
  rw [show ((0:Nat):Int)=0 from rfl] at this
  rw [this,Option.bind_some,List.drop_zero,z7d]
  congr 1
  unfold z7V
  split<;>(try split)<;>(try split)<;>omega
theorem j7X {e:Expr}{a:Int}(h0:0≤a)(h1:a≤1048576)(h:cntE e≤1099511627776):z8t e a=some (z7V a (cntE e)):=q8p (fuE e) fun m hm=>j6u e m hm a h0 h1 h
end Go.Proofs.YtmblndlpkpaobabGreat
