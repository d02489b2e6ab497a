/- What those partial functions come to: plain lemmas on data; each bears its conditions in its statement. -/
import Derived.Test.YtmblndlpkpaobaaGreatMathMEw
import Derived.Test.YtmblndlpkpaobaaGreatMathM8w
set_option linter.unusedVariables false
set_option linter.unusedSimpArgs false
set_option linter.ambiguousOpen false
set_option linter.unusedSectionVars false
set_option linter.unnecessarySimpa false
set_option linter.unusedVariables false
set_option linter.unusedSimpArgs false
namespace Go.Proofs.YtmblndlpkpaobaaGreat
open Go Go.E
mutual
def monoE (l:List Occurrence):Expr→Bool
 | ⟨k,n,p,t,s,m,a⟩=>
  if usesB ⟨k,n,p,t,s,m,a⟩ l=false∨k=3 then true
  else if k=5∧(a.length:Int)=3 then !usesB (a.getD 0 ⟨0,0,0,0,⟨#[]⟩,⟨#[]⟩,[]⟩) l&&((monoEs l a).getD 1 false&&(monoEs l a).getD 2 false)
  else if k=4∧(a.length:Int)=2 then
   if n=6∨n=7 then (monoEs l a).getD 0 false&&(monoEs l a).getD 1 false
   else if n=8∨n=12 then (monoEs l a).getD 0 false && !usesB (a.getD 1 ⟨0,0,0,0,⟨#[]⟩,⟨#[]⟩,[]⟩) l
   else false
  else false
def monoEs (l:List Occurrence):List Expr→List Bool
 | []=>[]
 | x :: xs=>monoE l x :: monoEs l xs
end
theorem z5h (l:List Occurrence):∀ a,monoEs l a=a.map (monoE l)
 | []=>rfl
 | x :: xs=>by rw [monoEs,z5h l xs]; rfl
def zE:Expr:=⟨0,0,0,0,⟨#[]⟩,⟨#[]⟩,[]⟩
theorem z9k (l:List Occurrence)(e:Expr):monoE l e =
  if usesB e l=false∨e.Kind=3 then true
  else if e.Kind=5∧(e.Args.length:Int)=3 then !usesB (e.Args.getD 0 zE) l&&((e.Args.map (monoE l)).getD 1 false&&(e.Args.map (monoE l)).getD 2 false)
  else if e.Kind=4∧(e.Args.length:Int)=2 then
   if e.N=6∨e.N=7 then (e.Args.map (monoE l)).getD 0 false&&(e.Args.map (monoE l)).getD 1 false
   else if e.N=8∨e.N=12 then (e.Args.map (monoE l)).getD 0 false && !usesB (e.Args.getD 1 zE) l
   else false
  else false:=by
 cases e
 rw [monoE,z5h]; rfl
theorem z2P {e:Expr}{k:Nat}(h:k < e.Args.length):∃ x,e.Args[k]? = some x∧x∈e.Args∧(∀ f:Expr→Bool,(e.Args.map f).getD k false=f x)∧e.Args.getD k zE=x∧∀ f:Expr→Int,(e.Args.map f).getD k 0=f x:=by
 refine⟨e.Args[k],List.getElem?_eq_getElem h,List.getElem_mem h,fun f=>?_,?_,fun f=>?_⟩
 ·rw [List.getD_eq_getElem?_getD,List.getElem?_map,List.getElem?_eq_getElem h]; rfl
 ·rw [List.getD_eq_getElem?_getD,List.getElem?_eq_getElem h]; rfl
 ·rw [List.getD_eq_getElem?_getD,List.getElem?_map,List.getElem?_eq_getElem h]; rfl
theorem z6K (l:List Occurrence)(e:Expr):∀ m,fuE e≤m→Sz.szd e≤1048576→q4x m e l=some (monoE l e)∧q4E m e l=some (monoE l e):=by
 induction e using q5d with
 | h e ih=>
  intro m hm hs
  obtain⟨m,rfl⟩:∃ q,m=q+1:=⟨m - 1,by have:=fu_pos e; omega⟩
  show q6m (q4x m) e l=_∧q6D (q4E m) e l=_
  have hx:∀ x∈e.Args,Sz.szd x≤1048576∧q4x m x l=some (monoE l x)∧q4E m x l=some (monoE l x):=fun x h=>by
   have h1:=arg_sz h
   exact⟨by omega,ih x h m (by have:=fu_arg h; omega) (by omega)⟩
  have E0:=z9k l e
  unfold q6m q6D
  rw [z4p,z4o hs,Option.bind_some,Option.bind_some]
  cases hu:usesB e l with
  | false=>
   rw [if_pos (.inl hu)] at E0
   rw [E0]; exact⟨rfl,rfl⟩
  | true=>
  rw [if_pos rfl,Option.bind_some,Option.bind_some]
  by_cases h3:e.Kind=3
  ·rw [if_pos (.inr h3)] at E0
   rw [E0]; simp [h3]
  rw [if_neg (by simp [hu,h3])] at E0
  by_cases h5:e.Kind=5
  ·have h4:¬ e.Kind=4:=by omega
   by_cases hl:(e.Args.length:Int)=3
   ·obtain⟨x,x1,x2,x3,x4,_⟩:=z2P (e:=e) (k:=0) (by omega)
    obtain⟨y,y1,y2,y3,y4,_⟩:=z2P (e:=e) (k:=1) (by omega)
    obtain⟨z,z1,z2,z3,z4,_⟩:=z2P (e:=e) (k:=2) (by omega)
    rw [if_pos (show e.Kind=5∧(e.Args.length:Int)=3 from⟨h5,hl⟩),x4,y3,z3] at E0
    rw [E0]
    have a1:=z4o (list:=l) (hx x x2).1
    have a2:=z4p x l
    have b1:=(hx y y2).2
    have c1:=(hx z z2).2
    refine⟨?_,?_⟩
    ·simp only [h5,hl,x1,y1,z1,a2,b1.1,c1.1,Option.bind_some]
     cases usesB x l<;>cases monoE l y<;>cases monoE l z<;>simp
    ·simp only [h5,hl,x1,y1,z1,a1,b1.2,c1.2,Option.bind_some]
     cases usesB x l<;>cases monoE l y<;>cases monoE l z<;>simp
   ·rw [if_neg (fun q=>hl q.2),if_neg (fun q=>h4 q.1)] at E0
    rw [E0]; simp [h5,hl]
  ·rw [if_neg (fun q=>h5 q.1)] at E0
   by_cases h4:e.Kind=4
   ·by_cases hl:(e.Args.length:Int)=2
    ·obtain⟨x,x1,x2,x3,x4,_⟩:=z2P (e:=e) (k:=0) (by omega)
     obtain⟨y,y1,y2,y3,y4,_⟩:=z2P (e:=e) (k:=1) (by omega)
     rw [if_pos (show e.Kind=4∧(e.Args.length:Int)=2 from⟨h4,hl⟩),x3,y3,y4] at E0
     rw [E0]
     have a1:=z4o (list:=l) (hx y y2).1
     have a2:=z4p y l
     have b1:=(hx x x2).2
     have c1:=(hx y y2).2
     refine⟨?_,?_⟩
     ·simp only [h4,hl,x1,y1,a2,b1.1,c1.1,Option.bind_some]
      by_cases n6:e.N=6
      ·cases monoE l x<;>cases monoE l y<;>simp [n6]
      by_cases n7:e.N=7
      ·cases monoE l x<;>cases monoE l y<;>simp [n7]
      by_cases n8:e.N=8
      ·cases monoE l x<;>cases usesB y l<;>simp [n8]
      by_cases n12:e.N=12
      ·cases monoE l x<;>cases usesB y l<;>simp [n12]
      ·simp [n6,n7,n8,n12]
     ·simp only [h4,hl,x1,y1,a1,b1.2,c1.2,Option.bind_some]
      by_cases n6:e.N=6
      ·cases monoE l x<;>cases monoE l y<;>simp [n6]
      by_cases n7:e.N=7
      ·cases monoE l x<;>cases monoE l y<;>simp [n7]
      by_cases n8:e.N=8
      ·cases monoE l x<;>cases usesB y l<;>simp [n8]
      by_cases n12:e.N=12
      ·cases monoE l x<;>cases usesB y l<;>simp [n12]
      ·simp [n6,n7,n8,n12]
    ·rw [if_neg (fun q=>hl q.2)] at E0
     rw [E0]; simp [h4,hl]
   ·rw [if_neg (fun q=>h4 q.1)] at E0
    rw [E0]; simp [h3,h4,h5]
theorem z9l {l:List Occurrence}{e:Expr}(h:Sz.szd e≤1048576):q7Y e l=some (monoE l e):=q4q (fuE e) fun m hm=>(z6K l e m hm h).1
theorem z9m {l:List Occurrence}{e:Expr}(h:Sz.szd e≤1048576):q8o e l=some (monoE l e):=q4q (fuE e) fun m hm=>(z6K l e m hm h).2
end Go.Proofs.YtmblndlpkpaobaaGreat
