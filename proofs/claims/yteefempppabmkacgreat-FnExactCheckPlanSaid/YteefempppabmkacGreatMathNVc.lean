/- What those partial functions come to: plain lemmas on data; each bears its conditions in its statement. -/
import Derived.Test.YteefempppabmkacGreatMathNWc
set_option linter.unusedVariables false
set_option linter.unusedSimpArgs false
set_option linter.ambiguousOpen false
set_option linter.unusedSectionVars false
set_option linter.unnecessarySimpa false
set_option linter.unusedVariables false
set_option linter.unusedSimpArgs false
namespace Go.Proofs.YteefempppabmkacGreat
open Go Go.E
section
variable {S:Nat→Prop}{w:World}{cs:List Value}{v:Value}
theorem j7B {x:Phase}(h:Rep.rd S w x cs):uSzF z6Q (Sz.szd x) x:=fun s h0 h1=>by
 obtain⟨v0,v1,_,h2,h3⟩:=h
 have e:Sz.szd x=szL x.Inherited+(szL x.Synthesized+0):=by rw [z8z]; omega
 rw [e]
 exact q7z _ _ h0 h1 (j1I h2 s h0 h1) fun t h0 h1=>q7z _ 0 h0 h1 (j1I h3 t h0 h1) fun t=>q9d
theorem j5M {xs:List Phase}(h:rdS S w xs v):uSzF z5n (szL xs) xs:=fun s h0 h1=>
 z4w (f:=z7v) (z5b fun x hx=>j7B (q9e h hx).choose_spec) s h0 h1 (q9f h)
theorem j4l {xs:List (List Phase)}(h:rdS S w xs v):uSzF z3J (szL xs) xs:=fun s h0 h1=>
 z4w (f:=z5T) (z5b fun x hx=>by obtain⟨_,z,_,hr⟩:=q9e h hx; exact j5M hr) s h0 h1 (q9f h)
theorem j9x {x:Step}(h:Rep.rd S w x cs):uSzF z8J (Sz.szd x) x:=fun s h0 h1=>
 q9c x.Name.size 0 h0 h1 h.2.2.2.2 (k:=some) (fun t=>q9d)
theorem j7C {xs:List Step}(h:rdS S w xs v):uSzF z6R (szL xs) xs:=fun s h0 h1=>
 z4w (f:=z8K) (z5b fun x hx=>j9x (q9e h hx).choose_spec) s h0 h1 (q9f h)
theorem j9y {x:RulePlan}(h:Rep.rd S w x cs):uSzF z2F (Sz.szd x) x:=fun s h0 h1=>by
 obtain⟨v1,_,hn,ha⟩:=h
 exact q9c x.Rule.size _ h0 h1 hn fun t h0 h1=>q7z (szL x.Steps) 0 h0 h1 (j7C ha t h0 h1) fun t=>q9d
theorem j7D {xs:List RulePlan}(h:rdS S w xs v):uSzF z1T (szL xs) xs:=fun s h0 h1=>
 z4w (f:=z3K) (z5b fun x hx=>j9y (q9e h hx).choose_spec) s h0 h1 (q9f h)
end
theorem j7E {x:Phase}(h:Sz.szd x≤1048576):z2m x=some x:=by
 unfold z2m
 rw [z8z] at h
 rw [j1J (by omega),Option.bind_some,j1J (by omega)]; rfl
theorem j5N {xs:List Phase}(h:szL xs≤1048576):z2I xs=some xs:=by
 have hl:=q2R xs
 exact z1o (g:=some) (by omega) (by omega) (z5c (g:=z2m) fun x hx=>j7E (by have:=q6u hx; omega))
theorem j4m {xs:List (List Phase)}(h:szL xs≤1048576):q9Y xs=some xs:=by
 have hl:=q2R xs
 exact z1o (g:=some) (by omega) (by omega) (z5c (g:=z2I) fun x hx=>j5N (by have:=q6u hx; have e:Sz.szd x=szL x:=rfl; omega))
theorem j7F {xs:List Step}(h:szL xs≤1048576):z6V xs=some xs:=by
 have hl:=q2R xs
 exact z1o (g:=some) (by omega) (by omega) (z5c (g:=z8P) fun x _=>rfl)
theorem j9z {x:RulePlan}(h:Sz.szd x≤1048576):q8G x=some x:=by
 unfold q8G
 rw [z7t] at h
 rw [j7F (by omega)]; rfl
theorem j7G {xs:List RulePlan}(h:szL xs≤1048576):q8b xs=some xs:=by
 have hl:=q2R xs
 exact z1o (g:=some) (by omega) (by omega) (z5c (g:=q8G) fun x hx=>j9z (by have:=q6u hx; omega))
theorem j7H (x:Phase):z2t x x=some true:=by simp [z2t,j4K]
theorem j5O (xs:List Phase):z3d xs xs=some true:=z1p (f:=z7H xs) (z5d (g:=z2t) fun x _=>j7H x)
theorem j4n (xs:List (List Phase)):z4k xs xs=some true:=z1p (f:=z6A xs) (z5d (g:=z3d) fun x _=>j5O x)
theorem j9A (x:Step):z4l x x=some true:=by simp [z4l]
theorem j7I (xs:List Step):z7i xs xs=some true:=z1p (f:=z9w xs) (z5d (g:=z4l) fun x _=>j9A x)
theorem j9B (x:RulePlan):q8X x x=some true:=by simp [q8X,j7I]
theorem j7J (xs:List RulePlan):z2f xs xs=some true:=z1p (f:=z4m xs) (z5d (g:=q8X) fun x _=>j9B x)
theorem j7K {g:Grammar}{ph:List (List Phase)}{ps:List RulePlan}{S:Nat→Prop}{w:World}{cs:List Value}{z1 z2:Value}(h:Rep.rd S w g cs)(h1:rdS S w ph z1)(h2:rdS S w ps z2)
  (hpq:Sz.szd g≤1048576→szL ph≤1048576→szL ps≤1048576→∃ b,z0c g ph ps=some b∧z0h g ph ps=some b):q8v g ph ps=some true:=by
 unfold q8v
 rw [j9j h 1048576 (by omega) (by omega),Option.bind_some]
 by_cases k1:(Sz.szd g:Int)≤1048576
 ·rw [if_pos k1,if_neg (by omega),j4l h1 _ (by omega) (by omega),Option.bind_some]
  by_cases k2:(szL ph:Int)≤1048576 - (Sz.szd g:Nat)
  ·rw [if_pos k2,if_neg (by omega),j7D h2 _ (by omega) (by omega),Option.bind_some]
   by_cases k3:(szL ps:Int)≤1048576 - (Sz.szd g:Nat) - (szL ph:Nat)
   ·obtain⟨b,e1,e2⟩:=hpq (by omega) (by omega) (by omega)
    rw [if_pos k3,if_neg (by omega),j9p (by omega),j4m (by omega),j7G (by omega)]
    simp only [Option.bind_some]
    rw [e1,Option.bind_some,e2,Option.bind_some,if_pos rfl,j9w,Option.bind_some,if_pos rfl,j4n,Option.bind_some,if_pos rfl,j7J,Option.bind_some,if_pos rfl]
   ·rw [if_neg k3,if_pos (by omega)]
  ·rw [if_neg k2,if_pos (by omega)]
 ·rw [if_neg k1,if_pos (by omega)]
end Go.Proofs.YteefempppabmkacGreat
