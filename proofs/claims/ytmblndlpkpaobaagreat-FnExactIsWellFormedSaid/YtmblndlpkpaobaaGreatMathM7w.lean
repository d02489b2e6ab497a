/- What those partial functions come to: plain lemmas on data; each bears its conditions in its statement. -/
import Derived.Test.YtmblndlpkpaobaaGreatMathM4w
import Derived.Test.YtmblndlpkpaobaaGreatMathMUw
set_option linter.unusedVariables false
set_option linter.unusedSimpArgs false
set_option linter.ambiguousOpen false
set_option linter.unusedSectionVars false
set_option linter.unnecessarySimpa false
set_option linter.unusedVariables false
set_option linter.unusedSimpArgs false
namespace Go.Proofs.YtmblndlpkpaobaaGreat
open Go Go.E
theorem j0b:∀ (n:Nat)(e q:Expr),q3U n e=some q→q3U (n+1) e=some q:=by
 intro n
 induction n with
 | zero=>intro e q h; cases h
 | succ n ih=>
  intro e q h
  have h' : q6O (q3U n) e=some q:=h
  show q6O (q3U (n+1)) e=some q
  unfold q6O at h' ⊢
  obtain⟨s,h1,h2⟩:=bd h'
  rw [z1d (g:=q5E (q3U (n+1))) (fun k x s q hq=>by
   unfold q5E at hq ⊢
   obtain⟨y,h3,h4⟩:=bd hq
   rw [ih _ _ h3,Option.bind_some]; exact h4) _ _ _ _ h1]
  exact h2
theorem z7p:∀ (m:Nat)(e:Expr),fuE e≤m→Sz.szd e≤1048576→q3U m e=some e:=by
 intro m
 induction m with
 | zero=>intro e h; rw [fuE_eq] at h; omega
 | succ m ih=>
  intro e h hs
  rw [fuE_eq] at h
  have hl:∀ (l:List Expr) (i:Nat) (s:List Expr),(∀ x∈l,fuE x≤m∧Sz.szd x≤1048576)→s.length+l.length≤4398046511→eachL (q5E (q3U m)) i l s=some (s++l):=by
   intro l
   induction l with
   | nil=>intro i s _ _; simp [eachL]
   | cons x l ihl=>
    intro i s hx hb
    simp only [List.length_cons] at hb
    have h1:=ih x (hx x (by simp)).1 (hx x (by simp)).2
    have e1:q5E (q3U m) i x s=some (s++[x]):=by
     unfold q5E; rw [h1,Option.bind_some,q0d (by constructor<;>omega)]
    simp only [eachL,e1,Option.bind_some]
    rw [ihl _ _ (fun y hy=>hx y (by simp [hy])) (by simp; omega)]; simp
  show q6O (q3U m) e=some e
  unfold q6O
  have h2:=q2L e
  have h3:=q0O e.Args
  rw [hl e.Args 0 [] (fun x hx=>⟨by have:=z4l hx; omega,by have:=arg_sz hx; omega⟩) (by simp; omega),List.nil_append,Option.bind_some]
  cases e; rfl
theorem j0c {e:Expr}(h:Sz.szd e≤1048576):z2l e=some e:=z7X (fun n q=>j0b n e q) (z7p _ e (Nat.le_refl _) h)
def zeroE:Expr:=⟨0,0,0,0,⟨#[]⟩,⟨#[]⟩,[]⟩
def eqAt (r:Rule)(o:Occurrence):Expr × Bool:=match r.Equations.find? fun q=>decide (q.At=o) with
 | some q=>(q.Expr,true)
 | none=>(zeroE,false)
theorem q8Y {r:Rule}{q:Equation}(h:q∈r.Equations):Sz.szd q.Expr≤Sz.szd r:=by
 have h1:=q7W r
 have h2:=q7f q
 have h3:=z0v h
 have h4:=q2L q.Expr
 omega
theorem z8V {r:Rule}(h:Sz.szd r≤1048576)(o:Occurrence):q5o r o=some (eqAt r o):=by
 have key:∀ (l:List Equation) (i:Nat),(∀ q∈l,Sz.szd q.Expr≤1048576)→findL (q4Z o) i l ()=some (match l.find? fun q=>decide (q.At=o) with
   | some q=>.inr (q.Expr,true)
   | none=>.inl ()):=by
  intro l
  induction l with
  | nil=>intro i _; rfl
  | cons q l ih=>
   intro i hq
   by_cases hp:q.At=o
   ·simp [findL,q4Z,hp,j0c (hq q (by simp))]
   ·simp [findL,q4Z,hp]
    exact ih _ fun y hy=>hq y (by simp [hy])
 unfold q5o eqAt
 rw [key _ _ fun q hq=>by have:=q8Y hq; omega]
 cases r.Equations.find? (fun q=>decide (q.At=o))<;>rfl
end Go.Proofs.YtmblndlpkpaobaaGreat
