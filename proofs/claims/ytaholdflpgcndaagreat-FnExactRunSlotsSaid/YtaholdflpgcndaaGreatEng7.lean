/- A small engine for walks through a Go program: plain lemmas on the model, without conditions of their own. -/
import Derived.Test.YtaholdflpgcndaaGreatMath1
set_option linter.unusedVariables false
set_option linter.unusedSimpArgs false
set_option linter.ambiguousOpen false
set_option linter.unusedSectionVars false
set_option linter.unnecessarySimpa false
namespace Go.E
section
variable {α:Type}{lt:α→α→Bool}
theorem z6n (irr:∀ a,lt a a=false)(tr:∀ a b c,lt a b=true→lt b c=true→lt a c=true) :
  ∀ {xs ys:List α},xs.Pairwise (fun a b=>lt a b=true)→ys.Pairwise (fun a b=>lt a b=true)→(∀ a,a∈xs↔a∈ys)→xs=ys
 | [],[],_,_,_=>rfl
 | [],y :: ys,_,_,h=>absurd ((h y).2 (by simp)) (by simp)
 | x :: xs,[],_,_,h=>absurd ((h x).1 (by simp)) (by simp)
 | x :: xs,y :: ys,hx,hy,h=>by
  rw [List.pairwise_cons] at hx hy
  have asym:∀ a b,lt a b=true→lt b a=true→False:=fun a b h1 h2=>by have:=tr a b a h1 h2; rw [irr] at this; cases this
  have hxy:x=y:=by
   have h1:=(h x).1 (by simp)
   have h2:=(h y).2 (by simp)
   rcases List.mem_cons.1 h1 with e | h1
   ·exact e
   rcases List.mem_cons.1 h2 with e | h2
   ·exact e.symm
   exact (asym x y (hx.1 y h2) (hy.1 x h1)).elim
  subst hxy
  congr 1
  refine z6n irr tr hx.2 hy.2 fun a=>?_
  constructor
  ·intro ha
   rcases List.mem_cons.1 ((h a).1 (by simp [ha])) with e | h1
   ·subst e; have:=hx.1 _ ha; rw [irr] at this; cases this
   ·exact h1
  ·intro ha
   rcases List.mem_cons.1 ((h a).2 (by simp [ha])) with e | h1
   ·subst e; have:=hy.1 _ ha; rw [irr] at this; cases this
   ·exact h1
theorem j1H (tr:∀ a b c,lt a b=true→lt b c=true→lt a c=true)(tot:∀ a b,lt a b=false→lt b a=false→a=b){l:List α}{o:α}{k:Nat}(hl:l.Pairwise (fun a b=>lt a b=true))
  (hb:∀ a∈l.take k,lt a o=true) (ha:∀ y,l[k]? = some y→lt y o=false∧y≠o):(l.take k++o :: l.drop k).Pairwise (fun a b=>lt a b=true):=by
 have hs:(l.take k++l.drop k).Pairwise (fun a b=>lt a b=true):=by rw [List.take_append_drop]; exact hl
 rw [List.pairwise_append] at hs
 have ho:∀ z∈l.drop k,lt o z=true:=by
  cases hd:l.drop k with
  | nil=>intro z hz; cases hz
  | cons y r=>
   have hy:l[k]? = some y:=by
    have:(l.drop k)[0]? = some y:=by rw [hd]; rfl
    simpa using this
   obtain⟨h1,h2⟩:=ha y hy
   have h3:lt o y=true:=by
    cases h:lt o y with
    | true=>rfl
    | false=>exact absurd (tot _ _ h1 h) h2
   intro z hz
   rcases List.mem_cons.1 hz with e | hz
   ·rw [e]; exact h3
   ·have:=hs.2.1; rw [hd,List.pairwise_cons] at this
    exact tr _ _ _ h3 (this.1 z hz)
 rw [List.pairwise_append,List.pairwise_cons]
 refine⟨hs.1,⟨ho,hs.2.1⟩,fun a h1 b h2=>?_⟩
 rcases List.mem_cons.1 h2 with e | h2
 ·rw [e]; exact hb a h1
 ·exact hs.2.2 a h1 b h2
end
section
variable {α:Type}[DecidableEq α]{lt:α→α→Bool}
def q3I:List α→List α
 | []=>[]
 | [x]=>[x]
 | x :: y :: l=>if x=y then q3I (y :: l) else x :: q3I (y :: l)
theorem z0T {a:α}:∀ {l:List α},a∈q3I l↔a∈l
 | []=>Iff.rfl
 | [x]=>Iff.rfl
 | x :: y :: l=>by
  unfold q3I
  have ih:=z0T (a:=a) (l:=y :: l)
  split
  ·rename_i e; subst e; rw [ih]; simp
  ·rw [List.mem_cons,ih]; simp
theorem z3u:∀ {l:List α},(q3I l).length≤l.length
 | []=>Nat.le_refl _
 | [x]=>Nat.le_refl _
 | x :: y :: l=>by
  unfold q3I
  have ih:=z3u (l:=y :: l)
  simp only [List.length_cons] at ih ⊢
  split
  ·omega
  ·simp only [List.length_cons]; omega
theorem z0U (tr:∀ a b c,lt a b=true→lt b c=true→lt a c=true)(tot:∀ a b,lt a b=false→lt b a=false→a=b) :
  ∀ {l:List α},l.Pairwise (fun a b=>lt b a=false)→(q3I l).Pairwise (fun a b=>lt a b=true)
 | [],_=>List.Pairwise.nil
 | [x],_=>by simp [q3I]
 | x :: y :: l,h=>by
  unfold q3I
  rw [List.pairwise_cons] at h
  have ih:=z0U tr tot h.2
  split
  ·exact ih
  ·rename_i hne
   rw [List.pairwise_cons]
   refine⟨fun z hz=>?_,ih⟩
   have h1:lt x y=true:=by
    cases e:lt x y with
    | true=>rfl
    | false=>exact absurd (tot _ _ e (h.1 y (by simp))) hne
   rcases List.mem_cons.1 (z0T.1 hz) with e | hz
   ·rw [e]; exact h1
   ·have h2:=(List.pairwise_cons.1 h.2).1 z hz
    cases e:lt y z with
    | true=>exact tr _ _ _ h1 e
    | false=>rw [← tot _ _ e h2]; exact h1
theorem z2t {a:α}:∀ {l:List α},q3I (l++[a])=if l.getLast? = some a then q3I l else q3I l++[a]
 | []=>by simp [q3I]
 | [x]=>by
  simp only [q3I,List.cons_append,List.nil_append,List.getLast?_singleton,Option.some.injEq]
  by_cases e:x=a
  ·subst e; simp
  ·simp [e]
 | x :: y :: l=>by
  have ih:=z2t (a:=a) (l:=y :: l)
  simp only [List.cons_append] at ih ⊢
  have e:(x :: y :: l).getLast? = (y :: l).getLast?:=by simp [List.getLast?_cons_cons]
  rw [e]
  show (if x=y then q3I (y :: (l++[a])) else x :: q3I (y :: (l++[a])))=_
  rw [ih]
  show _=if (y :: l).getLast? = some a then (if x=y then q3I (y :: l) else x :: q3I (y :: l)) else (if x=y then q3I (y :: l) else x :: q3I (y :: l))++[a]
  split<;>split<;>simp
theorem z2u {l:List α}{i:Nat}{a b:α}(ha:l[i]? = some a)(hb:l[i+1]? = some b):q3I (l.take (i+2))=if a=b then q3I (l.take (i+1)) else q3I (l.take (i+1))++[b]:=by
 have h1:l.take (i+2)=l.take (i+1)++[b]:=by rw [show i+2=(i+1)+1 from rfl,List.take_add_one,hb]; rfl
 have h2:(l.take (i+1)).getLast? = some a:=by rw [List.take_add_one,ha]; simp
 rw [h1,z2t,h2]
 by_cases e:a=b
 ·simp [e]
 ·simp [e]
end
end Go.E
