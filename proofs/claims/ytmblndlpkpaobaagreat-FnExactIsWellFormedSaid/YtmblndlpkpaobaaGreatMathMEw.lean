/- What those partial functions come to: plain lemmas on data; each bears its conditions in its statement. -/
import Derived.Test.YtmblndlpkpaobaaGreatMathM6w
set_option linter.unusedVariables false
set_option linter.unusedSimpArgs false
set_option linter.ambiguousOpen false
set_option linter.unusedSectionVars false
set_option linter.unnecessarySimpa false
set_option linter.unusedVariables false
set_option linter.unusedSimpArgs false
namespace Go.Proofs.YtmblndlpkpaobaaGreat
open Go Go.E
theorem fu_pos (e:Expr):1≤fuE e:=by rw [fuE_eq]; omega
theorem fu_arg {e x:Expr}(hx:x∈e.Args):fuE x+1≤fuE e:=by
 have:=z4l hx
 have:=fuE_eq e
 omega
theorem q5d {P:Expr→Prop}(h:∀ e,(∀ x∈e.Args,P x)→P e)(e:Expr):P e:=by
 have:∀ n e,fuE e≤n→P e:=by
  intro n
  induction n with
  | zero=>intro e he; have:=fu_pos e; omega
  | succ n ih=>intro e he; exact h e fun x hx=>ih x (by have:=fu_arg hx; omega)
 exact this _ e (Nat.le_refl _)
theorem q0v {α ρ:Type}{c:ρ}{q:α→Bool}:∀ {xs:List α}{i:Nat}{f:Nat→α→Unit→Option (Unit ⊕ ρ)},(∀ k x,x∈xs→f k x ()=some (if q x=true then .inl () else .inr c))→findL f i xs ()=some (if xs.all q=true then .inl () else .inr c)
 | [],i,f,h=>rfl
 | x :: xs,i,f,h=>by
  rw [findL,h i x (by simp)]
  by_cases hx:q x=true
  ·rw [if_pos hx,Option.bind_some]
   show findL f (i+1) xs ()=_
   rw [q0v fun k y hy=>h k y (by simp [hy])]
   simp [hx]
  ·rw [if_neg hx]; simp [hx]
theorem z2M {α:Type}{q:α→Bool}:∀ {xs:List α}{i:Nat}{f:Nat→α→Unit→Option (Unit ⊕ Int)},(∀ k x,x∈xs→f k x ()=some (if q x=true then .inr (k:Int) else .inl ()))→findL f i xs ()=some (if xs.any q=true then .inr ((i+xs.findIdx q:Nat):Int) else .inl ())
 | [],i,f,h=>rfl
 | x :: xs,i,f,h=>by
  rw [findL,h i x (by simp)]
  by_cases hx:q x=true
  ·rw [if_pos hx]; simp [hx,List.findIdx_cons]
  ·rw [if_neg hx,Option.bind_some]
   show findL f (i+1) xs ()=_
   rw [z2M fun k y hy=>h k y (by simp [hy])]
   have hx' : q x=false:=by simpa using hx
   simp only [List.any_cons,hx',Bool.false_or,List.findIdx_cons,cond_false]
   rw [show i+1+xs.findIdx q=i+(xs.findIdx q+1) by omega]
mutual
def allE (p:Expr→Bool):Expr→Bool
 | ⟨a0,a1,a2,a3,a4,a5,a6⟩=>p ⟨a0,a1,a2,a3,a4,a5,a6⟩&&allEs p a6
def allEs (p:Expr→Bool):List Expr→Bool
 | []=>true
 | x :: xs=>allE p x&&allEs p xs
end
mutual
def cntE:Expr→Nat
 | ⟨_,_,_,_,_,_,a6⟩=>cntEs a6+1
def cntEs:List Expr→Nat
 | []=>0
 | x :: xs=>cntE x+cntEs xs
end
mutual
def depE:Expr→Nat
 | ⟨_,_,_,_,_,_,a6⟩=>depEs a6+1
def depEs:List Expr→Nat
 | []=>0
 | x :: xs=>max (depE x) (depEs xs)
end
theorem z6G (p:Expr→Bool):∀ l,allEs p l=l.all (allE p)
 | []=>rfl
 | x :: xs=>by rw [allEs,z6G p xs]; rfl
theorem z1e (p:Expr→Bool)(e:Expr):allE p e=(p e&&e.Args.all (allE p)):=by
 cases e; rw [allE,z6G]
theorem z1f (e:Expr):cntE e=cntEs e.Args+1:=by cases e; rfl
theorem z7Z (e:Expr):depE e=depEs e.Args+1:=by cases e; rfl
mutual
theorem z6H:∀ e:Expr,cntE e≤1+q4T e
 | ⟨a0,a1,a2,a3,a4,a5,a6⟩=>by
  have:=z5f a6
  simp only [cntE,q4T]; omega
theorem z5f:∀ l:List Expr,cntEs l≤q5O l
 | []=>by simp [cntEs]
 | x :: xs=>by
  have h1:=z6H x
  have h2:=z5f xs
  simp only [cntEs,q5O]; omega
end
theorem cnt_sz {e:Expr}(h:Sz.szd e≤1048576):cntE e≤1048577:=by
 have h1:=z6H e
 have h2:q4T e=Sz.szd e:=rfl
 omega
mutual
theorem z8a:∀ e:Expr,depE e≤cntE e
 | ⟨_,_,_,_,_,_,a6⟩=>by
  have:=z6I a6
  simp only [depE,cntE]; omega
theorem z6I:∀ l:List Expr,depEs l≤cntEs l
 | []=>Nat.le_refl _
 | x :: xs=>by
  have h1:=z8a x
  have h2:=z6I xs
  simp only [depEs,cntEs]; omega
end
theorem z5g:∀ {l:List Expr}{x:Expr},x∈l→cntE x≤cntEs l
 | y :: l,x,h=>by
  simp only [cntEs]
  rcases List.mem_cons.1 h with e | h
  ·subst e; omega
  ·have:=z5g h; omega
theorem z8b {e x:Expr}(hx:x∈e.Args):cntE x+1≤cntE e:=by
 have:=z5g hx
 have:=z1f e
 omega
theorem z7q (e:Expr):∀ m,fuE e≤m→cntE e≤1099511627776→q5j m e=some (cntE e:Int):=by
 induction e using q5d with
 | h e ih=>
  intro m hm hc
  obtain⟨m,rfl⟩:∃ q,m=q+1:=⟨m - 1,by have:=fu_pos e; omega⟩
  show q7m (q5j m) e=_
  unfold q7m
  have key:∀ (l:List Expr) (i s:Nat),(∀ x∈l,x∈e.Args)→s+cntEs l≤1099511627776→eachL (q6w (q5j m)) i l (s:Int)=some ((s+cntEs l:Nat):Int):=by
   intro l
   induction l with
   | nil=>intro i s _ _; rfl
   | cons x l ihl=>
    intro i s hx hs
    have hxm:=hx x (by simp)
    simp only [cntEs] at hs
    have h1:=ih x hxm m (by have:=fu_arg hxm; omega) (by omega)
    rw [eachL]
    unfold q6w
    rw [h1,Option.bind_some,q0d (by constructor<;>omega),Option.bind_some]
    have:=ihl (i+1) (s+cntE x) (fun y hy=>hx y (by simp [hy])) (by omega)
    rw [Int.natCast_add] at this
    unfold q6w at this
    rw [this,cntEs]
    congr 1; omega
  rw [z1f] at hc
  have:=key e.Args 0 1 (fun _ h=>h) (by omega)
  rw [show ((1:Nat):Int)=1 from rfl] at this
  rw [this,Option.bind_some,z1f,Nat.add_comm]
theorem z8c {e:Expr}(h:cntE e≤1099511627776):q8O e=some (cntE e:Int):=q4q (fuE e) fun m hm=>z7q e m hm h
theorem max_if (a b:Nat):(if (b:Int) > (a:Int) then (b:Int) else (a:Int))=((max a b:Nat):Int):=by
 split<;>omega
theorem z2N {f:Expr→Option Int}{g:Nat→Expr→Int→Option Int}(hg:∀ k x s,g k x s=(f x).bind fun y=>some (if y > s then y else s)):∀ (l:List Expr)(i s:Nat),(∀ x∈l,f x=some (depE x:Int))→eachL g i l (s:Int)=some ((max s (depEs l):Nat):Int)
 | [],i,s,_=>by rw [eachL,depEs,Nat.max_zero]
 | x :: l,i,s,h=>by
  rw [eachL,hg,h x (by simp),Option.bind_some,Option.bind_some,max_if,z2N hg l (i+1) _ fun y hy=>h y (by simp [hy]),depEs,Nat.max_assoc]
theorem z8d (a b:Int):q8a a b=some (if b > a then b else a):=by
 unfold q8a
 by_cases h:b < a
 ·rw [if_pos h,if_neg (by omega)]
 ·rw [if_neg h]
  split
  ·rfl
  ·congr 1; omega
theorem z3D (e:Expr):∀ m,fuE e≤m→cntE e≤1099511627776→q2S m e=some (depE e:Int)∧q2R m e=some (depE e:Int):=by
 induction e using q5d with
 | h e ih=>
  intro m hm hc
  obtain⟨m,rfl⟩:∃ q,m=q+1:=⟨m - 1,by have:=fu_pos e; omega⟩
  show q5Y (q2S m) e=_∧q5R (q2R m) e=_
  unfold q5Y q5R
  have hx:∀ x∈e.Args,q2S m x=some (depE x:Int)∧q2R m x=some (depE x:Int):=fun x hx=>ih x hx m (by have:=fu_arg hx; omega) (by have:=z8b hx; omega)
  have k1:=z2N (f:=q2S m) (g:=q6S (q2S m)) (fun k x s=>rfl) e.Args 0 0 fun x h=>(hx x h).1
  have k2:=z2N (f:=q2R m) (g:=q6M (q2R m)) (fun k x s=>by
   unfold q6M
   congr 1; funext y
   rw [z8d,Option.bind_some]) e.Args 0 0 fun x h=>(hx x h).2
  rw [show ((0:Nat):Int)=0 from rfl] at k1 k2
  have hd:=z8a e
  rw [z7Z] at hd
  rw [k1,k2]
  have hg:I64 (((max 0 (depEs e.Args):Nat):Int)+1):=by constructor<;>omega
  have he:((max 0 (depEs e.Args):Nat):Int)+1=(depE e:Int):=by rw [z7Z]; omega
  refine⟨?_,?_⟩
  ·rw [Option.bind_some,q0d hg,he]
  ·rw [Option.bind_some,q0d hg,he]
theorem z8e {e:Expr}(h:cntE e≤1099511627776):q7y e=some (depE e:Int):=q4q (fuE e) fun m hm=>(z3D e m hm h).1
theorem z8f {e:Expr}(h:cntE e≤1099511627776):q7w e=some (depE e:Int):=q4q (fuE e) fun m hm=>(z3D e m hm h).2
def leftI (a:Int)(n:Nat):Int:=if (n:Int)≤a then a - n else -1
theorem z8g (e:Expr):∀ m,fuE e≤m→∀ a:Int,0≤a→a≤1048576→cntE e≤1099511627776→q6L m e a=some (leftI a (cntE e)):=by
 induction e using q5d with
 | h e ih=>
  intro m hm a h0 h1 hc
  obtain⟨m,rfl⟩:∃ q,m=q+1:=⟨m - 1,by have:=fu_pos e; omega⟩
  show z0h (q6L m) e a=_
  unfold z0h
  rw [q0d (by constructor<;>omega)]
  have hlen:e.Args.length≤cntE e:=by
   rw [z1f]
   have:∀ l:List Expr,l.length≤cntEs l:=by
    intro l
    induction l with
    | nil=>simp
    | cons x l ih=>
     have:=z1f x
     simp only [cntEs,List.length_cons]; omega
   have:=this e.Args; omega
  have key:∀ (n k:Nat) (s:Int),k+n=e.Args.length→-1≤s→s≤1048576→iterO (q6H (q6L m) e) (s,(k:Int))=some (if 0≤s then leftI s (cntEs (e.Args.drop k)) else s):=by
   intro n
   induction n with
   | zero=>
    intro k s hk _ _
    have hdrop:e.Args.drop k=[]:=List.drop_eq_nil_of_le (by omega)
    refine q1t ?_
    unfold q6H
    dsimp only
    rw [if_neg (by omega),hdrop]
    congr 2
    split
    ·unfold leftI; simp [cntEs]; omega
    ·rfl
   | succ n ihn=>
    intro k s hk hs1 hs2
    have hkl:k < e.Args.length:=by omega
    by_cases hs:0≤s
    ·have hxm:e.Args[k]∈e.Args:=List.getElem_mem hkl
     have hr:=ih _ hxm m (by have:=fu_arg hxm; omega) s hs hs2 (by have:=z8b hxm; omega)
     have hstep:q6H (q6L m) e (s,(k:Int))=some (.inl (leftI s (cntE e.Args[k]),((k+1:Nat):Int))):=by
      unfold q6H
      dsimp only
      rw [if_pos (by omega),if_pos hs,q0d (by omega),Int.toNat_natCast,List.getElem?_eq_getElem hkl,Option.bind_some,hr,Option.bind_some,q0d (by constructor<;>omega)]
      rfl
     have hb1:-1≤leftI s (cntE e.Args[k]):=by unfold leftI; split<;>omega
     have hb2:leftI s (cntE e.Args[k])≤1048576:=by unfold leftI; split<;>omega
     rw [q2b hstep,ihn (k+1) _ (by omega) hb1 hb2,if_pos hs]
     have hd:e.Args.drop k=e.Args[k] :: e.Args.drop (k+1):=List.drop_eq_getElem_cons hkl
     rw [hd,cntEs]
     congr 1
     unfold leftI
     split<;>split<;>(try split)<;>omega
    ·refine q1t ?_
     unfold q6H
     dsimp only
     rw [if_pos (by omega),if_neg hs,if_neg hs]
  have:=key e.Args.length 0 (a - 1) (by omega) (by omega) (by omega)
  rw [show ((0:Nat):Int)=0 from rfl] at this
  rw [this,Option.bind_some,List.drop_zero,z1f]
  congr 1
  unfold leftI
  split<;>(try split)<;>(try split)<;>omega
theorem z8W {e:Expr}{a:Int}(h0:0≤a)(h1:a≤1048576)(h:cntE e≤1099511627776):z2g e a=some (leftI a (cntE e)):=q4q (fuE e) fun m hm=>z8g e m hm a h0 h1 h
end Go.Proofs.YtmblndlpkpaobaaGreat
