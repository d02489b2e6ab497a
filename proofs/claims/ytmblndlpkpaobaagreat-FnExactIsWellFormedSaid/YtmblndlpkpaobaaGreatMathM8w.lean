/- What those partial functions come to: plain lemmas on data; each bears its conditions in its statement. -/
import Derived.Test.YtmblndlpkpaobaaGreatMathM6w
set_option linter.unusedVariables false
set_option linter.unusedSimpArgs false
set_option linter.ambiguousOpen false
set_option linter.unusedSectionVars false
set_option linter.unnecessarySimpa false
set_option linter.unusedVariables false
set_option linter.unusedSimpArgs false
namespace Go.Proofs.YtmblndlpkpaobaaGreat
open Go Go.E
def usesB (e:Expr)(list:List Occurrence):Bool:=(usesE e).any fun o=>list.contains o
theorem z6b (list:List Occurrence)(o:Occurrence):q0o list o=some (list.contains o):=by
 have h:q1E list o=some (ixF list o):=by
  unfold q1E
  refine z7E fun k x=>⟨fun e=>?_,fun e=>?_⟩
  ·unfold q2e; rw [if_pos e.symm]
  ·unfold q2e; rw [if_neg (fun h=>e h.symm)]
 unfold q0o
 rw [h,Option.bind_some]
 congr 1
 unfold ixF
 by_cases hm:o∈list
 ·rw [if_pos hm]; simp [hm]
 ·rw [if_neg hm]; simp [hm]
theorem z4o {e:Expr}{list:List Occurrence}(h:Sz.szd e≤1048576):q5M e list=some (usesB e list):=by
 unfold q5M
 rw [z6F h,Option.bind_some]
 have hw:∀ o,q7r o list=some (list.contains o):=fun o=>by unfold q7r; rw [z6b]; rfl
 have hcf:q0B (attrs e) list=some (usesB e list):=by
  have key:∀ (l:List Occurrence) (i:Nat),(l.any fun o=>list.contains o)=true→∃ k:Nat,findL (q0j list) i l ()=some (.inr (k:Int)):=by
   intro l
   induction l with
   | nil=>intro i h; simp at h
   | cons x l ih=>
    intro i h
    by_cases hx:list.contains x=true
    ·exact⟨i,by simp only [findL,q0j,hw,Option.bind_some,hx,if_true]⟩
    ·obtain⟨k,hk⟩:=ih (i+1) (by simp only [List.any_cons,Bool.or_eq_true] at h; exact h.resolve_left hx)
     exact⟨k,by simp only [findL,q0j,hw,Option.bind_some,hx,if_false]; exact hk⟩
  have key2:∀ (l:List Occurrence) (i:Nat),(l.any fun o=>list.contains o)=false→findL (q0j list) i l ()=some (.inl ()):=by
   intro l
   induction l with
   | nil=>intro i _; rfl
   | cons x l ih=>
    intro i h
    simp only [List.any_cons,Bool.or_eq_false_iff] at h
    simp only [findL,q0j,hw,Option.bind_some,h.1,Bool.false_eq_true,if_false]
    exact ih _ h.2
  have hab:(attrs e).any (fun o=>list.contains o)=usesB e list:=by
   unfold usesB
   rw [Bool.eq_iff_iff,List.any_eq_true,List.any_eq_true]
   exact⟨fun ⟨o,h1,h2⟩=>⟨o,z2L.1 h1,h2⟩,fun ⟨o,h1,h2⟩=>⟨o,z2L.2 h1,h2⟩⟩
  unfold q0B q1l
  cases hu:usesB e list with
  | true=>
   obtain⟨k,hk⟩:=key (attrs e) 0 (by rw [hab,hu])
   rw [hk]
   show some (decide ((0:Int)≤(k:Int)))=_
   simp
  | false=>
   rw [key2 (attrs e) 0 (by rw [hab,hu])]; rfl
 rw [hcf]; rfl
theorem z6J (list:List Occurrence)(o:Occurrence):q3L list o=some (list.contains o):=by
 unfold q3L
 have key:∀ (l:List Occurrence) (i:Nat),findL (q6f o) i l ()=some (if l.contains o=true then .inr true else .inl ()):=by
  intro l
  induction l with
  | nil=>intro i; rfl
  | cons x l ih=>
   intro i
   by_cases hx:x=o
   ·subst hx; simp [findL,q6f]
   ·have hx' : ¬ o=x:=fun e=>hx e.symm
    simp [findL,q6f,hx,ih,hx']
 rw [key]
 cases list.contains o<;>rfl
theorem z9j (e:Expr)(list:List Occurrence):usesB e list=((decide (e.Kind=3)&&list.contains ⟨e.Pos,e.Name⟩)||e.Args.any fun x=>usesB x list):=by
 unfold usesB
 rw [q7t,List.any_append]
 congr 1
 ·by_cases hk:e.Kind=3<;>simp [hk]
 ·rw [Bool.eq_iff_iff,List.any_eq_true,List.any_eq_true]
  constructor
  ·rintro⟨o,h1,h2⟩
   obtain⟨x,h3,h4⟩:=z1c.1 h1
   exact⟨x,h3,List.any_eq_true.2 ⟨o,h4,h2⟩⟩
  ·rintro⟨x,h1,h2⟩
   obtain⟨o,h3,h4⟩:=List.any_eq_true.1 h2
   exact⟨o,z1c.2 ⟨x,h1,h3⟩,h4⟩
theorem z6c:∀ (m:Nat)(e:Expr)(list:List Occurrence)(q:Bool),q3j m e list=some q→q=usesB e list:=by
 intro m
 induction m with
 | zero=>intro e list q h; cases h
 | succ m ih=>
  intro e list q h
  have hl:∀ (f:Nat→Expr→Unit→Option (Unit ⊕ Bool)) (hf:∀ k x,f k x ()=(q3j m x list).bind fun y2=>if y2=true then some (.inr true) else some (.inl ())) (l:List Expr) (i:Nat) (q:Unit ⊕ Bool),findL f i l ()=some q→q=if (l.any fun x=>usesB x list)=true then .inr true else .inl ():=by
   intro f hf l
   induction l with
   | nil=>intro i q h; simp [findL] at h; simp [← h]
   | cons x l ihl=>
    intro i q h
    cases hx:q3j m x list with
    | none=>simp [findL,hf,hx] at h
    | some r=>
     have hr:=ih x list r hx
     cases r with
     | true=>simp [findL,hf,hx] at h; simp [← h,← hr]
     | false=>
      simp only [findL,hf,hx,Option.bind_some,Bool.false_eq_true,if_false] at h
      rw [ihl _ _ h]; simp [← hr]
  have hB:q6G (q3j m) e list=some q:=h
  unfold q6G at hB
  rw [z9j]
  by_cases hk:e.Kind=3
  ·rw [if_pos hk,z6J,Option.bind_some] at hB
   by_cases hc:list.contains (⟨e.Pos,e.Name⟩:Occurrence)=true
   ·rw [if_pos hc] at hB; cases hB; simp only [hk,hc,decide_true,Bool.and_self,Bool.true_or]
   ·rw [if_neg hc] at hB
    obtain⟨r,h1,h2⟩:=bd hB
    have:=hl _ (fun k x=>rfl) _ _ _ h1
    subst this
    have hc' : list.contains (⟨e.Pos,e.Name⟩:Occurrence)=false:=by simpa using hc
    rw [hc',Bool.and_false,Bool.false_or]
    split at h2<;>rename_i ha
    ·cases h2; exact ha.symm
    ·cases h2; simpa using ha
  ·rw [if_neg hk] at hB
   obtain⟨r,h1,h2⟩:=bd hB
   have:=hl _ (fun k x=>rfl) _ _ _ h1
   subst this
   rw [decide_eq_false hk,Bool.false_and,Bool.false_or]
   split at h2<;>rename_i ha
   ·cases h2; exact ha.symm
   ·cases h2; simpa using ha
theorem z6d:∀ (m:Nat)(e:Expr)(list:List Occurrence),fuE e≤m→∃ q,q3j m e list=some q:=by
 intro m
 induction m with
 | zero=>intro e list h; rw [fuE_eq] at h; omega
 | succ m ih=>
  intro e list h
  rw [fuE_eq] at h
  have hl:∀ (f:Nat→Expr→Unit→Option (Unit ⊕ Bool)) (hf:∀ k x,f k x ()=(q3j m x list).bind fun y2=>if y2=true then some (.inr true) else some (.inl ())) (l:List Expr) (i:Nat),fuEs l≤m→∃ q,findL f i l ()=some q:=by
   intro f hf l
   induction l with
   | nil=>intro i _; exact⟨_,rfl⟩
   | cons x l ihl=>
    intro i hm
    simp only [fuEs] at hm
    obtain⟨r,hr⟩:=ih x list (by omega)
    cases r with
    | true=>exact⟨.inr true,by simp [findL,hf,hr]⟩
    | false=>obtain⟨q,hq⟩:=ihl (i+1) (by omega); exact⟨q,by simp [findL,hf,hr,hq]⟩
  show ∃ q,q6G (q3j m) e list=some q
  unfold q6G
  by_cases hk:e.Kind=3
  ·rw [if_pos hk,z6J,Option.bind_some]
   by_cases hc:list.contains (⟨e.Pos,e.Name⟩:Occurrence)=true
   ·exact⟨true,by rw [if_pos hc]⟩
   ·rw [if_neg hc]
    obtain⟨q,hq⟩:=hl (z1Z (q3j m) list) (fun k x=>rfl) e.Args 0 (by omega)
    rw [hq]
    cases q with
    | inl u=>exact⟨false,rfl⟩
    | inr b=>exact⟨b,rfl⟩
  ·rw [if_neg hk]
   obtain⟨q,hq⟩:=hl (z2a (q3j m) list) (fun k x=>rfl) e.Args 0 (by omega)
   rw [hq]
   cases q with
   | inl u=>exact⟨false,rfl⟩
   | inr b=>exact⟨b,rfl⟩
theorem z4p (e:Expr)(list:List Occurrence):q7I e list=some (usesB e list):=by
 refine q4q (fuE e) fun m hm=>?_
 obtain⟨q,hq⟩:=z6d m e list hm
 have:=z6c _ _ _ _ hq
 subst this
 exact hq
end Go.Proofs.YtmblndlpkpaobaaGreat
