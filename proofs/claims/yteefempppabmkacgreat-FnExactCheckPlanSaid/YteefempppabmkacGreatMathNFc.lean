/- What those partial functions come to: plain lemmas on data; each bears its conditions in its statement. -/
import Derived.Test.YteefempppabmkacGreatMathNEc
set_option linter.unusedVariables false
set_option linter.unusedSimpArgs false
set_option linter.ambiguousOpen false
set_option linter.unusedSectionVars false
set_option linter.unnecessarySimpa false
set_option linter.unusedVariables false
set_option linter.unusedSimpArgs false
namespace Go.Proofs.YteefempppabmkacGreat
open Go Go.E
def typK (g:Grammar)(r:Rule)(k n p t:Int)(sy nm:ByteArray)(ts:List Int):Int:=
 if k=1 then t else if k=2 then (if r.Literal=true then 1 else 0) else if k=3 then (q9j g r ⟨p,nm⟩).1.Type_
 else if k=4 then (if ts.length=2∧ts.getD 0 0=(opT n).1∧ts.getD 1 0=(opT n).2.1 then (opT n).2.2 else 0)
 else if k=5 then (if ts.length=3∧ts.getD 0 0=3∧ts.getD 1 0=ts.getD 2 0 then ts.getD 1 0 else 0)
 else if k=6 then (if 0≤p∧p≤(r.Right.length:Int) then 4 else 0) else if k=7 then 4
 else if k=8 then (if ts.length=1∧ts.getD 0 0=4 then (z2g (q7V g sy).1 nm).1.Type_ else 0) else 0
mutual
def typE (g:Grammar)(r:Rule):Expr→Int
 | ⟨k,n,p,t,sy,nm,a⟩=>typK g r k n p t sy nm (j8K g r a)
def j8K (g:Grammar)(r:Rule):List Expr→List Int
 | []=>[]
 | x :: xs=>typE g r x :: j8K g r xs
end
theorem j4J (g:Grammar)(r:Rule):∀ l,j8K g r l=l.map (typE g r)
 | []=>rfl
 | x :: xs=>by rw [j8K,j4J g r xs]; rfl
theorem j7f (g:Grammar)(r:Rule)(e:Expr):typE g r e=typK g r e.Kind e.N e.Pos e.Type_ e.Symbol e.Name (e.Args.map (typE g r)):=by
 cases e; rw [typE,j4J]
theorem j2L {y:Symbol}{s:ByteArray}(h:(z2g y s).2≠true):(z2g y s).1=zA:=by
 unfold z2g at h ⊢
 cases hf:y.Attributes.find? (fun a=>decide (a.Name=s)) with
 | none=>rfl
 | some a=>rw [hf] at h; exact absurd rfl h
theorem j4a {g:Grammar}(h:GOk g)(s nm:ByteArray):q6x g s nm=some (z2g (q7V g s).1 nm).1.Type_:=by
 unfold q6x
 rw [z4q h,Option.bind_some]
 try dsimp only
 rw [z9C,Option.bind_some]
 try dsimp only
 by_cases hb:(z2g (q7V g s).1 nm).2=true
 ·rw [if_pos hb]
 ·rw [if_neg hb,j2L hb]; rfl
theorem j8L (g:Grammar){r:Rule}(hl:ROk r)(e:Expr):∀ m,fuE e≤m→Sz.szd e≤1048576→q6W m g r e=some (typE g r e):=by
 induction e using q8Y with
 | h e ih=>
  intro m hm hs
  obtain⟨m,rfl⟩:∃ q,m=q+1:=⟨m - 1,by have:=z3r e; omega⟩
  show z0G (q6W m) g r e=_
  have hlen:e.Args.length≤1048576:=by have:=q7v e; have:=q2R e.Args; omega
  have hloop:∀ (xs:List Expr) (i:Nat) (s:List Int),(∀ x∈xs,x∈e.Args)→s.length+xs.length≤1048576→q2J (q8g (q6W m) g r) i xs s=some (s++xs.map (typE g r)):=by
   intro xs
   induction xs with
   | nil=>intro i s _ _; simp [q2J]
   | cons x xs ihx=>
    intro i s hx hn
    simp only [List.length_cons] at hn
    have e1:q8g (q6W m) g r i x s=some (s++[typE g r x]):=by
     unfold q8g
     have hxe:=hx x (by simp)
     rw [ih x hxe m (by have:=z3s hxe; omega) (by have:=j6w hxe; omega),Option.bind_some,q2q (by constructor<;>omega)]
    rw [q2J,e1,Option.bind_some,ihx _ _ (fun y hy=>hx y (by simp [hy])) (by simp; omega)]; simp
  unfold z0G
  rw [hloop e.Args 0 [] (fun _ h=>h) (by simpa using hlen),Option.bind_some,List.nil_append,j7f]
  generalize e.Args.map (typE g r)=ts
  unfold typK
  by_cases k1:e.Kind=1
  ·rw [if_pos k1,if_pos k1]
  rw [if_neg k1,if_neg k1]
  by_cases k2:e.Kind=2
  ·rw [if_pos k2,if_pos k2,Option.bind_some]
   by_cases hL:r.Literal=true
   ·rw [if_pos hL,if_pos hL]
   ·rw [if_neg hL,if_neg hL]
    simp [k2]
  rw [if_neg k2,if_neg k2,Option.bind_some,if_neg (by simp)]
  by_cases k3:e.Kind=3
  ·rw [if_pos k3,if_pos k3,z7q g hl]; rfl
  rw [if_neg k3,if_neg k3]
  by_cases k4:e.Kind=4
  ·rw [if_pos k4,if_pos k4,Option.bind_some]
   by_cases hn:ts.length=2
   ·obtain⟨a,b,rfl⟩:∃ a b,ts=[a,b]:=by
     match ts,hn with
     | [a,b],_=>exact⟨a,b,rfl⟩
    rw [if_pos (by simp),k0x,Option.bind_some]
    simp only [List.getElem?_cons_zero,List.getElem?_cons_succ,Option.bind_some,List.getD_cons_zero,List.getD_cons_succ]
    by_cases ha:a=(opT e.N).1
    ·rw [if_pos ha,Option.bind_some]
     by_cases hb:b=(opT e.N).2.1
     ·rw [if_pos (by simp [hb]),if_pos ⟨hn,ha,hb⟩]
     ·rw [if_neg (by simp [hb]),if_neg fun h=>hb h.2.2]
    ·rw [if_neg ha,Option.bind_some,if_neg (by simp),if_neg fun h=>ha h.2.1]
   ·have hz:(if ts.length=2∧ts.getD 0 0=(opT e.N).1∧ts.getD 1 0=(opT e.N).2.1 then (opT e.N).2.2 else 0)=0:=if_neg fun h=>hn h.1
    rw [hz,if_neg (by simp; omega)]
    simp [k4]
  rw [if_neg k4,if_neg k4,Option.bind_some,if_neg (by simp)]
  by_cases k5:e.Kind=5
  ·rw [if_pos k5,if_pos k5,Option.bind_some]
   by_cases hn:ts.length=3
   ·obtain⟨a,b,c,rfl⟩:∃ a b c,ts=[a,b,c]:=by
     match ts,hn with
     | [a,b,c],_=>exact⟨a,b,c,rfl⟩
    rw [if_pos (by simp)]
    simp only [List.getElem?_cons_zero,List.getElem?_cons_succ,Option.bind_some,List.getD_cons_zero,List.getD_cons_succ]
    by_cases ha:a=3
    ·rw [if_pos ha]
     by_cases hb:b=c
     ·rw [if_pos hb,if_pos ⟨hn,ha,hb⟩]
     ·rw [if_neg hb,if_neg fun h=>hb h.2.2]
    ·rw [if_neg ha,if_neg fun h=>ha h.2.1]
   ·have hz:(if ts.length=3∧ts.getD 0 0=3∧ts.getD 1 0=ts.getD 2 0 then ts.getD 1 0 else 0)=0:=if_neg fun h=>hn h.1
    rw [hz,if_neg (by simp; omega)]
    simp [k5]
  rw [if_neg k5,if_neg k5,Option.bind_some,if_neg (by simp)]
  by_cases k6:e.Kind=6
  ·rw [if_pos k6,if_pos k6,z4Z,Option.bind_some,Option.bind_some]
   by_cases hp:0≤e.Pos∧e.Pos≤(r.Right.length:Int)
   ·rw [decide_eq_true hp,if_pos hp]; rfl
   ·rw [decide_eq_false hp,if_neg hp]
    simp [k6]
  rw [if_neg k6,if_neg k6,Option.bind_some,if_neg (by simp),Option.bind_some]
  by_cases k7:e.Kind=7
  ·rw [if_pos (by simp [k7]),if_pos k7]
  rw [if_neg (by simp [k7]),if_neg k7]
  by_cases k8:e.Kind=8
  ·rw [if_pos k8,if_pos k8,Option.bind_some]
   by_cases hn:ts.length=1
   ·obtain⟨a,rfl⟩:∃ a,ts=[a]:=by
     match ts,hn with
     | [a],_=>exact⟨a,rfl⟩
    rw [if_pos (by simp)]
    simp only [List.getElem?_cons_zero,Option.bind_some,List.getD_cons_zero]
    by_cases ha:a=4
    ·rw [if_pos (by simp [ha]),if_pos ⟨hn,ha⟩,z2u,Option.bind_some]
     try dsimp only
     rw [z6D]; rfl
    ·rw [if_neg (by simp [ha]),if_neg fun h=>ha h.2]
   ·rw [if_neg (by simp; omega),if_neg fun h=>hn h.1]; rfl
  rw [if_neg k8,if_neg k8]; rfl
theorem j4b (g:Grammar){r:Rule}(hl:ROk r){e:Expr}(hs:Sz.szd e≤1048576):q8Q g r e=some (typE g r e):=q7E (fuE e) fun m hm=>j8L g hl e m hm hs
theorem j8M {g:Grammar}(h:GOk g){r:Rule}(hl:ROk r)(e:Expr):∀ m,fuE e≤m→q7N m g r e=some (typE g r e):=by
 induction e using q8Y with
 | h e ih=>
  intro m hm
  obtain⟨m,rfl⟩:∃ q,m=q+1:=⟨m - 1,by have:=z3r e; omega⟩
  show z0x (q7N m) g r e=_
  have hx:∀ x∈e.Args,q7N m g r x=some (typE g r x):=fun x hxe=>ih x hxe m (by have:=z3s hxe; omega)
  unfold z0x
  rw [j7f]
  unfold typK
  by_cases k1:e.Kind=1
  ·rw [if_pos k1,if_pos k1]
  rw [if_neg k1,if_neg k1]
  by_cases k2:e.Kind=2
  ·rw [if_pos k2,if_pos k2,← apply_ite some]
  rw [if_neg k2,if_neg k2]
  by_cases k3:e.Kind=3
  ·rw [if_pos k3,if_pos k3,z1n,Option.bind_some]
   unfold q9j
   by_cases hp:0≤e.Pos∧e.Pos≤(r.Right.length:Int)
   ·rw [if_pos (by simpa using hp),if_pos hp,z7p hl,Option.bind_some,j4a h]; rfl
   ·rw [if_neg (by simpa using hp),if_neg hp]; rfl
  rw [if_neg k3,if_neg k3]
  by_cases k4:e.Kind=4
  ·rw [if_pos k4,if_pos k4]
   unfold j1i
   rw [k0y,Option.bind_some]
   try dsimp only
   by_cases hn:e.Args.length=2
   ·obtain⟨a,b,hab⟩:∃ a b,e.Args=[a,b]:=by
     match e.Args,hn with
     | [a,b],_=>exact⟨a,b,rfl⟩
    rw [hab] at hx
    rw [hab,if_pos (by simp)]
    simp only [List.getElem?_cons_zero,List.getElem?_cons_succ,Option.bind_some,List.map_cons,List.map_nil,List.getD_cons_zero,List.getD_cons_succ]
    rw [hx a (by simp),Option.bind_some]
    by_cases ha:typE g r a=(opT e.N).1
    ·rw [if_pos ha,hx b (by simp),Option.bind_some]
     by_cases hb:typE g r b=(opT e.N).2.1
     ·rw [if_pos hb,if_pos ⟨by simp,ha,hb⟩]; rfl
     ·rw [if_neg hb,if_neg fun h=>hb h.2.2]; rfl
    ·rw [if_neg ha,if_neg fun h=>ha h.2.1]; rfl
   ·rw [if_neg (by omega),if_neg fun h=>hn (by simpa using h.1)]; rfl
  rw [if_neg k4,if_neg k4]
  by_cases k5:e.Kind=5
  ·rw [if_pos k5,if_pos k5]
   unfold j1j
   by_cases hn:e.Args.length=3
   ·obtain⟨a,b,c,hab⟩:∃ a b c,e.Args=[a,b,c]:=by
     match e.Args,hn with
     | [a,b,c],_=>exact⟨a,b,c,rfl⟩
    rw [hab] at hx
    rw [hab,if_pos (by simp)]
    simp only [List.getElem?_cons_zero,List.getElem?_cons_succ,Option.bind_some,List.map_cons,List.map_nil,List.getD_cons_zero,List.getD_cons_succ]
    rw [hx a (by simp),Option.bind_some]
    by_cases ha:typE g r a=3
    ·rw [if_pos ha,hx b (by simp),Option.bind_some,hx c (by simp),Option.bind_some]
     by_cases hb:typE g r b=typE g r c
     ·rw [if_pos hb,if_pos ⟨by simp,ha,hb⟩]; rfl
     ·rw [if_neg hb,if_neg fun h=>hb h.2.2]; rfl
    ·rw [if_neg ha,if_neg fun h=>ha h.2.1]; rfl
   ·rw [if_neg (by omega),if_neg fun h=>hn (by simpa using h.1)]; rfl
  rw [if_neg k5,if_neg k5]
  by_cases k6:e.Kind=6
  ·rw [if_pos k6,if_pos k6,z1n,Option.bind_some]
   by_cases hp:0≤e.Pos∧e.Pos≤(r.Right.length:Int)
   ·rw [if_pos (by simpa using hp),if_pos hp]
   ·rw [if_neg (by simpa using hp),if_neg hp]
  rw [if_neg k6,if_neg k6]
  by_cases k7:e.Kind=7
  ·rw [if_pos k7,if_pos k7]
  rw [if_neg k7,if_neg k7]
  by_cases k8:e.Kind=8
  ·rw [if_pos k8,if_pos k8]
   by_cases hn:e.Args.length=1
   ·obtain⟨a,hab⟩:∃ a,e.Args=[a]:=by
     match e.Args,hn with
     | [a],_=>exact⟨a,rfl⟩
    rw [hab] at hx
    rw [hab,if_pos (by simp)]
    simp only [List.getElem?_cons_zero,Option.bind_some,List.map_cons,List.map_nil,List.getD_cons_zero]
    rw [hx a (by simp),Option.bind_some]
    by_cases ha:typE g r a=4
    ·rw [if_pos ha,if_pos ⟨by simp,ha⟩,j4a h]; rfl
    ·rw [if_neg ha,if_neg fun h=>ha h.2]
   ·rw [if_neg (by omega),if_neg fun h=>hn (by simpa using h.1)]
  rw [if_neg k8,if_neg k8]
theorem j4c {g:Grammar}(h:GOk g){r:Rule}(hl:ROk r)(e:Expr):q8J g r e=some (typE g r e):=q7E (fuE e) fun m hm=>j8M h hl e m hm
def conT (g:Grammar)(r:Rule)(q:Contribution):Bool:=(decide (typE g r q.Target=4)&&decide (typE g r q.Value=2))&&decide ((z2g (q7V g q.Symbol).1 q.Name).1.Mode=3)
def typR (g:Grammar)(r:Rule):Bool:=(r.Equations.all fun q=>decide (typE g r q.Expr=(q9j g r q.At).1.Type_))&&r.Contributions.all (conT g r)
theorem j8N (g:Grammar){r:Rule}(hr:Sz.szd r≤1048576):z2W g r=some (!typR g r):=by
 have hl:=q5o hr
 unfold z2W typR
 rw [q2P (c:=true) (q:=fun q:Equation=>decide (typE g r q.Expr=(q9j g r q.At).1.Type_)) fun k x hx=>by
  unfold z7E
  rw [z7q g hl,Option.bind_some]
  try dsimp only
  rw [j4b g hl (Nat.le_trans (z5C hx) hr),Option.bind_some]
  by_cases hp:typE g r x.Expr=(q9j g r x.At).1.Type_
  ·rw [if_pos hp,if_pos (by simpa using hp)]
  ·rw [if_neg hp,if_neg (by simpa using hp)]]
 rw [q2P (c:=true) (q:=conT g r) fun k x hx=>by
  have hs:=z6E hx
  unfold z7F conT
  rw [z2u,Option.bind_some]
  try dsimp only
  rw [z6D,Option.bind_some]
  try dsimp only
  rw [j4b g hl (Nat.le_trans hs.1 hr),Option.bind_some]
  by_cases h1:typE g r x.Target=4
  ·rw [if_pos h1,j4b g hl (Nat.le_trans hs.2 hr),Option.bind_some,Option.bind_some,decide_eq_true h1]
   cases decide (typE g r x.Value=2) with
   | false=>rfl
   | true=>
    rw [Bool.not_true,if_neg (by simp),Option.bind_some]
    cases decide ((z2g (q7V g x.Symbol).1 x.Name).1.Mode=3)<;>rfl
  ·rw [if_neg h1,decide_eq_false h1]; rfl]
 cases r.Equations.all fun q=>decide (typE g r q.Expr=(q9j g r q.At).1.Type_) with
 | false=>rfl
 | true=>cases r.Contributions.all (conT g r)<;>rfl
theorem j8O {g:Grammar}(h:GOk g){r:Rule}(hr:Sz.szd r≤1048576)(hp:∀ q∈r.Equations,0≤q.At.Pos∧q.At.Pos≤(r.Right.length:Int)):z4E g r=some (typR g r):=by
 have hl:=q5o hr
 unfold z4E typR
 rw [q2P (c:=false) (q:=fun q:Equation=>decide (typE g r q.Expr=(q9j g r q.At).1.Type_)) fun k x hx=>by
  unfold z9c
  rw [j4c h hl,Option.bind_some,z7p hl,Option.bind_some,j4a h,Option.bind_some]
  have e:(z2g (q7V g (z1u r x.At.Pos)).1 x.At.Name).1.Type_=(q9j g r x.At).1.Type_:=by unfold q9j; rw [if_pos (hp x hx)]
  rw [e]
  by_cases hp:typE g r x.Expr=(q9j g r x.At).1.Type_
  ·rw [if_pos hp,if_pos (by simpa using hp)]
  ·rw [if_neg hp,if_neg (by simpa using hp)]]
 rw [q2P (c:=false) (q:=conT g r) fun k x hx=>by
  unfold z9d conT
  rw [z4q h,Option.bind_some]
  try dsimp only
  rw [z9C,Option.bind_some]
  try dsimp only
  have e:(if (z2g (q7V g x.Symbol).1 x.Name).2=true then some (!decide ((z2g (q7V g x.Symbol).1 x.Name).1.Mode=3)) else some true)=some (!decide ((z2g (q7V g x.Symbol).1 x.Name).1.Mode=3)):=by
   by_cases hb:(z2g (q7V g x.Symbol).1 x.Name).2=true
   ·rw [if_pos hb]
   ·rw [if_neg hb,j2L hb]; rfl
  rw [e,Option.bind_some]
  cases decide ((z2g (q7V g x.Symbol).1 x.Name).1.Mode=3) with
  | false=>rw [Bool.and_false]; rfl
  | true=>
   rw [Bool.not_true,if_neg (by simp),j4c h hl,Option.bind_some,Option.bind_some]
   cases decide (typE g r x.Target=4) with
   | false=>rfl
   | true=>
    rw [Bool.not_true,if_neg (by simp),j4c h hl,Option.bind_some,Option.bind_some]
    cases decide (typE g r x.Value=2)<;>rfl]
 cases r.Equations.all fun q=>decide (typE g r q.Expr=(q9j g r q.At).1.Type_) with
 | false=>rfl
 | true=>cases r.Contributions.all (conT g r)<;>rfl
end Go.Proofs.YteefempppabmkacGreat
