/- What those partial functions come to: plain lemmas on data; each bears its conditions in its statement. -/
import Derived.Test.YteefempppabmkacGreatMathNDc
set_option linter.unusedVariables false
set_option linter.unusedSimpArgs false
set_option linter.ambiguousOpen false
set_option linter.unusedSectionVars false
set_option linter.unnecessarySimpa false
set_option linter.unusedVariables false
set_option linter.unusedSimpArgs false
namespace Go.Proofs.YteefempppabmkacGreat
open Go Go.E
def z3t (g:Grammar)(r:Rule)(k:Int):Bool:=if k=3 then !j2H g r else if k=4 then j6Y g r else if k=5 then j2J g r else misB g r
theorem j7b {g:Grammar}(h:GOk g){r:Rule}(hr:Sz.szd r≤1048576)(k:Int):z1G g r k=some (z3t g r k):=by
 unfold z1G z3t
 by_cases h3:k=3
 ·rw [if_pos h3,if_pos h3,j3Y h (q5o hr)]; rfl
 ·rw [if_neg h3,if_neg h3]
  by_cases h4:k=4
  ·rw [if_pos h4,if_pos h4,j8G h hr]; rfl
  ·rw [if_neg h4,if_neg h4]
   by_cases h5:k=5
   ·rw [if_pos h5,if_pos h5,j7a h hr]; rfl
   ·rw [if_neg h5,if_neg h5,k0J h hr]; rfl
theorem j2K {g:Grammar}(h:GOk g){r:Rule}(hr:Sz.szd r≤1048576)(k:Int)(i:Nat):q9R g k i r ()=some (if z3t g r k=true then .inr (k,(i:Int)) else .inl ()):=by
 unfold q9R z3t
 by_cases h3:k=3
 ·rw [if_pos h3,if_pos h3,j3X g (q5o hr),Option.bind_some,← apply_ite some]
 ·rw [if_neg h3,if_neg h3]
  by_cases h4:k=4
  ·rw [if_pos h4,if_pos h4,j8F h (q5o hr),Option.bind_some,← apply_ite some]
  ·rw [if_neg h4,if_neg h4]
   by_cases h5:k=5
   ·rw [if_pos h5,if_pos h5,j6Z h (q5o hr),Option.bind_some,← apply_ite some]
   ·rw [if_neg h5,if_neg h5,k0I g hr,Option.bind_some,← apply_ite some]
theorem j7c {g:Grammar}(h:GOk g){r:Rule}(hr:Sz.szd r≤1048576)(k:Int)(i:Nat):q9F g k i r ()=some (if z3t g r k=true then .inr (k,(i:Int)) else .inl ()):=by
 unfold q9F
 rw [j7b h hr,Option.bind_some,← apply_ite some]
theorem z9D {α σ ρ:Type}{f g:Nat→α→σ→Option (σ ⊕ ρ)}:∀ {xs:List α} {i:Nat} {s:σ},(∀ k x s,x∈xs→f k x s=g k x s)→q2u f i xs s=q2u g i xs s
 | [],_,_,_=>rfl
 | x :: xs,i,s,h=>by
  rw [q2u,q2u,h i x s (by simp)]
  congr 1; funext z
  cases z with
  | inl s'=>exact z9D fun k y s hy=>h k y s (by simp [hy])
  | inr r=>rfl
theorem j3Z {g:Grammar}(h:Sz.szd g≤1048576)(k:Int):q9G g k=q4V g k:=by
 unfold q9G q4V
 have e:q2u (q9F g k) 0 g.Rules ()=q2u (q9R g k) 0 g.Rules ():=z9D fun i x _ hx=>by
  have hr:=Nat.le_trans (z4s hx) h
  rw [j7c (z7j h) hr,j2K (z7j h) hr]
 rw [e]
def q6K (g:Grammar)(k:Int):Option (Int × Int):=match g.Rules.findIdx? fun r=>z3t g r k with
 | some i=>some (k,(i:Int))
 | none=>none
theorem z4t {α ρ:Type}{q:α→Bool}{c:Nat→ρ}:∀ {xs:List α} {i:Nat} {f:Nat→α→Unit→Option (Unit ⊕ ρ)},(∀ k x,x∈xs→f k x ()=some (if q x=true then .inr (c k) else .inl ())) →
  q2u f i xs ()=some (match xs.findIdx? q with | some j=>.inr (c (i+j)) | none=>.inl ())
 | [],_,_,_=>rfl
 | x :: xs,i,f,h=>by
  rw [q2u,h i x (by simp),Option.bind_some,List.findIdx?_cons]
  by_cases hq:q x=true
  ·rw [if_pos hq,if_pos hq]; rfl
  ·rw [if_neg hq,if_neg hq]
   have ih:=z4t (q:=q) (c:=c) (xs:=xs) (i:=i+1) (f:=f) fun k y hy=>h k y (by simp [hy])
   dsimp only
   rw [ih]
   cases xs.findIdx? q with
   | none=>rfl
   | some j=>simp only [Option.map_some]; rw [show i+1+j=i+(j+1) by omega]
def z4u (g:Grammar):Int × Int:=
 if !decide (1≤g.Symbols.length∧g.Symbols.length≤4) || !decide (1≤g.Rules.length∧g.Rules.length≤8) then (1,0)
 else if 0≤z5a g then (1,z5a g)
 else if (g.Symbols.getD 0 zS).Attributes.any fun a=>decide (a.Mode=1) then (2,0)
 else (q6K g 3 <|> (q6K g 4 <|> (q6K g 5 <|> q6K g 6))).getD (0,0)
theorem z9E {g:Grammar}(h:Sz.szd g≤1048576):(q7k (q4V g) 3).bind (onr (fun r2=>some r2) fun ()=>some (0,0))=some ((q6K g 3 <|> (q6K g 4 <|> (q6K g 5 <|> q6K g 6))).getD (0,0)):=by
 have hstep:∀ k:Int,3≤k→k≤6→q4V g k=match q6K g k with | some z=>some (.inr (.inr z)) | none=>some (.inl (k+1)):=by
  intro k h3 h6
  unfold q4V q6K
  rw [if_pos h6,z4t (q:=fun r=>z3t g r k) (c:=fun i=>(k,(i:Int))) fun i x hx=>j2K (z7j h) (Nat.le_trans (z4s hx) h) k i]
  cases g.Rules.findIdx? fun r=>z3t g r k with
  | some i=>simp
  | none=>rw [Option.bind_some]; dsimp only [onr]; rw [q2q (by constructor<;>omega)]
 have hend:q4V g 7=some (.inr (.inl ())):=by unfold q4V; rw [if_neg (by omega)]
 have h3:=hstep 3 (by omega) (by omega)
 have h4:=hstep 4 (by omega) (by omega)
 have h5:=hstep 5 (by omega) (by omega)
 have h6:=hstep 6 (by omega) (by omega)
 cases s3:q6K g 3 with
 | some z=>rw [s3] at h3; rw [q3X h3]; rfl
 | none=>
  rw [s3] at h3
  rw [q5h h3,show (3:Int)+1=4 by rfl]
  cases s4:q6K g 4 with
  | some z=>rw [s4] at h4; rw [q3X h4]; rfl
  | none=>
   rw [s4] at h4
   rw [q5h h4,show (4:Int)+1=5 by rfl]
   cases s5:q6K g 5 with
   | some z=>rw [s5] at h5; rw [q3X h5]; rfl
   | none=>
    rw [s5] at h5
    rw [q5h h5,show (5:Int)+1=6 by rfl]
    cases s6:q6K g 6 with
    | some z=>rw [s6] at h6; rw [q3X h6]; rfl
    | none=>
     rw [s6] at h6
     rw [q5h h6,show (6:Int)+1=7 by rfl,q3X hend]; rfl
theorem j7d {g:Grammar}(h:Sz.szd g≤1048576):z0F g=some (z4u g):=by
 unfold z0F z4u
 rw [z4Z,Option.bind_some]
 by_cases h1:1≤g.Symbols.length∧g.Symbols.length≤4
 ·rw [decide_eq_true (by omega),if_pos rfl,z4Z,Option.bind_some,decide_eq_true h1]
  by_cases h2:1≤g.Rules.length∧g.Rules.length≤8
  ·rw [decide_eq_true (by omega),if_pos rfl,j6V h,Option.bind_some,decide_eq_true h2]
   simp only [Bool.not_true,Bool.or_self,Bool.false_eq_true,if_false]
   by_cases h3:0≤z5a g
   ·rw [if_pos h3,if_pos h3]
   ·rw [if_neg h3,if_neg h3,List.getD_eq_getElem?_getD,List.getElem?_eq_getElem (by omega:0 < g.Symbols.length),Option.bind_some,Option.getD_some]
    unfold q3l q3z
    rw [q3d (q:=fun a:Attribute=>decide (a.Mode=1)) fun k y hy=>by
     unfold q4z q8O
     rw [Option.bind_some,← apply_ite some]]
    rw [Option.bind_some]
    by_cases h4:(g.Symbols[0].Attributes.any fun a=>decide (a.Mode=1))=true
    ·rw [if_pos h4,if_pos h4]
    ·rw [if_neg h4,if_neg h4]
     exact z9E h
  ·rw [decide_eq_false (by omega),decide_eq_false h2]; rfl
 ·rw [decide_eq_false (by omega),decide_eq_false h1]; rfl
theorem j7e {g:Grammar}(h:Sz.szd g≤1048576):z0w g=some (z4u g):=by
 unfold z0w z4u
 rw [z1n,Option.bind_some]
 by_cases h1:1≤g.Symbols.length∧g.Symbols.length≤4
 ·rw [decide_eq_true (by omega),if_pos rfl,z1n,Option.bind_some,decide_eq_true h1]
  by_cases h2:1≤g.Rules.length∧g.Rules.length≤8
  ·rw [decide_eq_true (by omega),if_pos rfl,j6W h,Option.bind_some,decide_eq_true h2]
   simp only [Bool.not_true,Bool.or_self,Bool.false_eq_true,if_false]
   by_cases h3:0≤z5a g
   ·rw [if_pos h3,if_pos h3]
   ·rw [if_neg h3,if_neg h3,List.getD_eq_getElem?_getD,List.getElem?_eq_getElem (by omega:0 < g.Symbols.length),Option.bind_some,Option.getD_some]
    rw [q2P (c:=((2:Int),(0:Int))) (q:=fun a:Attribute=>!decide (a.Mode=1)) fun k y hy=>by
     unfold z4X
     by_cases hm:y.Mode=1
     ·rw [if_pos hm,if_neg (by simp [hm])]
     ·rw [if_neg hm,if_pos (by simp [hm])]]
    have e:(g.Symbols[0].Attributes.all fun a=>!decide (a.Mode=1))=!(g.Symbols[0].Attributes.any fun a=>decide (a.Mode=1)):=by rw [List.not_any_eq_all_not]
    rw [e]
    cases (g.Symbols[0].Attributes.any fun a=>decide (a.Mode=1)) with
    | true=>rfl
    | false=>
     rw [Bool.not_false,if_pos rfl,Option.bind_some,q2S,if_neg (by simp),show q9G g=q4V g from funext fun k=>j3Z h k]
     exact z9E h
  ·rw [decide_eq_false (by omega),decide_eq_false h2]; rfl
 ·rw [decide_eq_false (by omega),decide_eq_false h1]; rfl
theorem z4O {α:Type}{bad:List α→α→Bool}:∀ (xs pre:List α),q3e bad pre xs=none→∀ k x,xs[k]? = some x→bad (pre++xs.take k) x=false
 | [],pre,h,k,x,hx=>by simp at hx
 | y :: xs,pre,h,k,x,hx=>by
  rw [q3e] at h
  by_cases hb:bad pre y=true
  ·rw [if_pos hb] at h; cases h
  ·rw [if_neg hb] at h
   cases k with
   | zero=>simp at hx; subst hx; simpa using hb
   | succ k=>
    have:=z4O xs (pre++[y]) h k x (by simpa using hx)
    simpa using this
structure Shape (g:Grammar):Prop where
 syms:1≤g.Symbols.length∧g.Symbols.length≤4
 rules:1≤g.Rules.length∧g.Rules.length≤8
 sym:q3e z2w [] g.Symbols=none
 rule:q3e z0p [] g.Rules=none
 brk:∀ k:Int,3≤k→k≤6→∀ r∈g.Rules,z3t g r k=false
 start:∀ y a,g.Symbols[0]? = some y→a∈y.Attributes→a.Mode≠1
theorem j8J {g:Grammar}(h:(z4u g).1=0):Shape g:=by
 unfold z4u at h
 by_cases h1:1≤g.Symbols.length∧g.Symbols.length≤4
 ·by_cases h2:1≤g.Rules.length∧g.Rules.length≤8
  ·rw [decide_eq_true h1,decide_eq_true h2] at h
   simp only [Bool.not_true,Bool.or_self,Bool.false_eq_true,if_false] at h
   by_cases h3:0≤z5a g
   ·rw [if_pos h3] at h; simp at h
   ·rw [if_neg h3] at h
    by_cases h4:((g.Symbols.getD 0 zS).Attributes.any fun a=>decide (a.Mode=1))=true
    ·rw [if_pos h4] at h; simp at h
    ·rw [if_neg h4] at h
     have hf:q3e z2w [] g.Symbols=none∧q3e z0p [] g.Rules=none:=by
      unfold z5a at h3
      cases e1:q3e z2w [] g.Symbols with
      | some k=>rw [e1] at h3; exact absurd (Int.natCast_nonneg k) h3
      | none=>
       cases e2:q3e z0p [] g.Rules with
       | some k=>rw [e1,e2] at h3; exact absurd (Int.natCast_nonneg k) h3
       | none=>exact⟨rfl,rfl⟩
     have hk:∀ k:Int,q6K g k=none→∀ r∈g.Rules,z3t g r k=false:=by
      intro k hk r hr
      unfold q6K at hk
      cases e:g.Rules.findIdx? fun r=>z3t g r k with
      | some i=>rw [e] at hk; cases hk
      | none=>
       rw [List.findIdx?_eq_none_iff] at e
       exact e r hr
     have hc:∀ k:Int,3≤k→∀ z,q6K g k=some z→z.1≠0:=by
      intro k h3 z hz
      unfold q6K at hz
      cases e:g.Rules.findIdx? fun r=>z3t g r k with
      | none=>rw [e] at hz; cases hz
      | some i=>rw [e] at hz; cases hz; show k≠0; omega
     have n3:q6K g 3=none:=by
      cases e:q6K g 3 with
      | none=>rfl
      | some z=>rw [e] at h; exact absurd h (hc 3 (by omega) z e)
     rw [n3] at h
     have n4:q6K g 4=none:=by
      cases e:q6K g 4 with
      | none=>rfl
      | some z=>rw [e] at h; exact absurd h (hc 4 (by omega) z e)
     rw [n4] at h
     have n5:q6K g 5=none:=by
      cases e:q6K g 5 with
      | none=>rfl
      | some z=>rw [e] at h; exact absurd h (hc 5 (by omega) z e)
     rw [n5] at h
     have n6:q6K g 6=none:=by
      cases e:q6K g 6 with
      | none=>rfl
      | some z=>rw [e] at h; exact absurd h (hc 6 (by omega) z e)
     refine⟨h1,h2,hf.1,hf.2,fun k k3 k6=>?_,fun y a hy ha hm=>h4 ?_⟩
     ·have:k=3∨k=4∨k=5∨k=6:=by omega
      rcases this with rfl | rfl | rfl | rfl
      ·exact hk _ n3
      ·exact hk _ n4
      ·exact hk _ n5
      ·exact hk _ n6
     ·rw [List.getD_eq_getElem?_getD,hy,List.any_eq_true]
      exact⟨a,ha,by simpa using hm⟩
  ·rw [decide_eq_false h2] at h; simp at h
 ·rw [decide_eq_false h1] at h; simp at h
theorem Shape.ruleB {g:Grammar}(h:Shape g){r:Rule}(hr:r∈g.Rules):ruleB r=true:=by
 obtain⟨k,hk⟩:=List.getElem?_of_mem hr
 have:=z4O _ _ h.rule k r hk
 unfold z0p at this
 rw [Bool.or_eq_false_iff] at this
 simpa using this.1
theorem Shape.symB {g:Grammar}(h:Shape g){y:Symbol}(hy:y∈g.Symbols):symB y=true:=by
 obtain⟨k,hk⟩:=List.getElem?_of_mem hy
 have:=z4O _ _ h.sym k y hk
 unfold z2w at this
 rw [Bool.or_eq_false_iff] at this
 simpa using this.1
theorem Shape.pos {g:Grammar}(h:Shape g){r:Rule}(hr:r∈g.Rules){q:Equation}(hq:q∈r.Equations):0≤q.At.Pos∧q.At.Pos≤(r.Right.length:Int):=by
 have:=h.ruleB hr
 unfold Go.Proofs.YteefempppabmkacGreat.ruleB at this
 simp only [Bool.and_eq_true,List.all_eq_true] at this
 have:=this.2.2.2.1 q hq
 unfold eqnB at this
 simp only [Bool.and_eq_true,decide_eq_true_eq] at this
 exact this.2.2
end Go.Proofs.YteefempppabmkacGreat
