/- What those partial functions come to: plain lemmas on data; each bears its conditions in its statement. -/
import Derived.Test.YteefempppabmkacGreatMathM4c
import Derived.Test.YteefempppabmkacGreatMathMUc
set_option linter.unusedVariables false
set_option linter.unusedSimpArgs false
set_option linter.ambiguousOpen false
set_option linter.unusedSectionVars false
set_option linter.unnecessarySimpa false
set_option linter.unusedVariables false
set_option linter.unusedSimpArgs false
namespace Go.Proofs.YteefempppabmkacGreat
open Go Go.E
theorem k0n:∀ (n:Nat) (e q:Expr),q5N n e=some q→q5N (n+1) e=some q:=by
 intro n
 induction n with
 | zero=>intro e q h; cases h
 | succ n ih=>
  intro e q h
  have h' : z0a (q5N n) e=some q:=h
  show z0a (q5N (n+1)) e=some q
  unfold z0a at h' ⊢
  obtain⟨s,h1,h2⟩:=bd h'
  rw [z7k (g:=q9n (q5N (n+1))) (fun k x s q hq=>by
   unfold q9n at hq ⊢
   obtain⟨y,h3,h4⟩:=bd hq
   rw [ih _ _ h3,Option.bind_some]; exact h4) _ _ _ _ h1]
  exact h2
theorem j5v:∀ (m:Nat) (e:Expr),fuE e≤m→Sz.szd e≤1048576→q5N m e=some e:=by
 intro m
 induction m with
 | zero=>intro e h; rw [z1N] at h; omega
 | succ m ih=>
  intro e h hs
  rw [z1N] at h
  have hl:∀ (l:List Expr) (i:Nat) (s:List Expr),(∀ x∈l,fuE x≤m∧Sz.szd x≤1048576)→s.length+l.length≤4398046511→q2J (q9n (q5N m)) i l s=some (s++l):=by
   intro l
   induction l with
   | nil=>intro i s _ _; simp [q2J]
   | cons x l ihl=>
    intro i s hx hb
    simp only [List.length_cons] at hb
    have h1:=ih x (hx x (by simp)).1 (hx x (by simp)).2
    have e1:q9n (q5N m) i x s=some (s++[x]):=by
     unfold q9n; rw [h1,Option.bind_some,q2q (by constructor<;>omega)]
    simp only [q2J,e1,Option.bind_some]
    rw [ihl _ _ (fun y hy=>hx y (by simp [hy])) (by simp; omega)]; simp
  show z0a (q5N m) e=some e
  unfold z0a
  have h2:=q7v e
  have h3:=q2R e.Args
  rw [hl e.Args 0 [] (fun x hx=>⟨by have:=z4N hx; omega,by have:=j6w hx; omega⟩) (by simp; omega),List.nil_append,Option.bind_some]
  cases e; rfl
theorem k0o {e:Expr}(h:Sz.szd e≤1048576):z6h e=some e:=j6z (fun n q=>k0n n e q) (j5v _ e (Nat.le_refl _) h)
theorem j5w:z5y=z6h:=by
 have h:∀ n,q9x n=q5N n:=by
  intro n
  induction n with
  | zero=>rfl
  | succ n ih=>funext e; show z5x (q9x n) e=z0a (q5N n) e; rw [ih]; rfl
 funext e
 show recO (fun n=>q9x n e)=recO fun n=>q5N n e
 congr 1; funext n; rw [h]
def k0p:Expr:=⟨0,0,0,0,⟨#[]⟩,⟨#[]⟩,[]⟩
def eqAt (r:Rule)(o:Occurrence):Expr × Bool:=match r.Equations.find? fun q=>decide (q.At=o) with
 | some q=>(q.Expr,true)
 | none=>(k0p,false)
theorem z5C {r:Rule}{q:Equation}(h:q∈r.Equations):Sz.szd q.Expr≤Sz.szd r:=by
 have h1:=z4y r
 have h2:=z3E q
 have h3:=q6u h
 have h4:=q7v q.Expr
 omega
theorem j6B {r:Rule}(h:Sz.szd r≤1048576)(o:Occurrence):Sz.szd (eqAt r o).1≤1048576:=by
 unfold eqAt
 cases hf:r.Equations.find? (fun q=>decide (q.At=o)) with
 | none=>show Sz.szd k0p≤_; have:Sz.szd k0p=0:=rfl; omega
 | some q=>have:=z5C (List.mem_of_find?_eq_some hf); show Sz.szd q.Expr≤_; omega
theorem z8s {r:Rule}(h:Sz.szd r≤1048576)(o:Occurrence):q5a r o=some (eqAt r o):=by
 have key:∀ (l:List Equation) (i:Nat),(∀ q∈l,Sz.szd q.Expr≤1048576)→q2u (q6a o) i l ()=some (match l.find? fun q=>decide (q.At=o) with
   | some q=>.inr (q.Expr,true)
   | none=>.inl ()):=by
  intro l
  induction l with
  | nil=>intro i _; rfl
  | cons q l ih=>
   intro i hq
   by_cases hp:q.At=o
   ·simp [q2u,q6a,hp,k0o (hq q (by simp))]
   ·simp [q2u,q6a,hp]
    exact ih _ fun y hy=>hq y (by simp [hy])
 unfold q5a eqAt
 rw [key _ _ fun q hq=>by have:=z5C hq; omega]
 cases r.Equations.find? (fun q=>decide (q.At=o))<;>rfl
theorem k0q {r:Rule}(h:Sz.szd r≤1048576)(o:Occurrence):q5a r o=some (eqAt r o)∧q7I r o=some (eqAt r o):=by
 have e:q7I=q5a:=by
  have e1:z0o=q6a:=by funext a k x u; unfold z0o q6a; rw [j5w]
  funext r o; unfold q7I q5a; rw [e1]
 rw [e]
 exact⟨z8s h o,z8s h o⟩
end Go.Proofs.YteefempppabmkacGreat
