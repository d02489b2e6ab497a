/- What those partial functions come to: plain lemmas on data; each bears its conditions in its statement. -/
import Derived.Test.YtmblndlpkpaobabGreatMathNAa
import Derived.Test.YtmblndlpkpaobabGreatMathMWaa
set_option linter.unusedVariables false
set_option linter.unusedSimpArgs false
set_option linter.ambiguousOpen false
set_option linter.unusedSectionVars false
set_option linter.unnecessarySimpa false
set_option linter.unusedVariables false
set_option linter.unusedSimpArgs false
namespace Go.Proofs.YtmblndlpkpaobabGreat
open Go Go.E
theorem q5o {α:Type}{q:α→Bool}{xs:List α}{f:Nat→α→Unit→Option (Unit ⊕ Int)}(h:∀ k x,x∈xs→f k x ()=some (if q x=true then .inr (k:Int) else .inl ())) :
  ((q2I f 0 xs ()).bind <| onr (fun r1=>some r1) fun _=>some (-1)).bind (fun y1=>some (decide (0≤y1)))=some (xs.any q):=by
 rw [z9g h]
 cases hq:xs.any q with
 | true=>
  have:(0:Int)≤((0+xs.findIdx q:Nat):Int):=Int.natCast_nonneg _
  rw [if_pos rfl,Option.bind_some,z8k,Option.bind_some,decide_eq_true this]
 | false=>rfl
def q3i {α:Type}(bad:List α→α→Bool):List α→List α→Option Nat
 | _,[]=>none
 | pre,x :: xs=>if bad pre x=true then some pre.length else q3i bad (pre++[x]) xs
theorem z2L {α β ρ:Type}{bad:List α→α→Bool}{nm:α→β}{c:Nat→ρ}{all:List α}{f:Nat→α→Unit→Option (Unit ⊕ ρ)}{h:Nat→α→List β→Option (List β ⊕ ρ)}
  (hf:∀ pre x post,all=pre++x :: post→f pre.length x ()=some (if bad pre x=true then .inr (c pre.length) else .inl ()))
  (hh:∀ pre x post,all=pre++x :: post→h pre.length x (pre.map nm)=some (if bad pre x=true then .inr (c pre.length) else .inl ((pre++[x]).map nm))) :
  ∀ (ys pre:List α),all=pre++ys→q2I f pre.length ys ()=some (match q3i bad pre ys with | none=>.inl () | some k=>.inr (c k)) ∧
   q2I h pre.length ys (pre.map nm)=some (match q3i bad pre ys with | none=>.inl (all.map nm) | some k=>.inr (c k))
 | [],pre,e=>by
  rw [List.append_nil] at e
  subst e; exact⟨rfl,rfl⟩
 | x :: ys,pre,e=>by
  have h1:=hf pre x ys e
  have h2:=hh pre x ys e
  by_cases hb:bad pre x=true
  ·rw [if_pos hb] at h1 h2
   simp only [q2I,h1,h2,q3i,hb,if_true,Option.bind_some]
   exact⟨trivial,trivial⟩
  ·rw [if_neg hb] at h1 h2
   have ih:=z2L hf hh ys (pre++[x]) (by rw [e]; simp)
   simp only [List.length_append,List.length_cons,List.length_nil,Nat.zero_add] at ih
   simp only [q2I,h1,h2,q3i,hb,Option.bind_some]
   exact ih
theorem j4f {α:Type}{a:α→Bool}{b:List α→α→Bool}:∀ (xs pre:List α),(q3i (fun p x=>a x||b p x) pre xs).isNone=(xs.all (fun x=>!a x)&&(q3i b pre xs).isNone)
 | [],pre=>rfl
 | x :: xs,pre=>by
  have ih:=j4f (a:=a) (b:=b) xs (pre++[x])
  simp only [q3i,List.all_cons]
  by_cases ha:a x=true
  ·simp [ha]
  ·by_cases hb:b pre x=true
   ·simp [ha,hb]
   ·simpa [ha,hb] using ih
def dupB {α:Type}(nm:α→ByteArray)(pre:List α)(x:α):Bool:=pre.any fun o=>decide (nm o=nm x)
def j6C {α:Type}(nm:α→ByteArray)(xs:List α):Bool:=(q3i (dupB nm) [] xs).isNone
theorem j2j {α:Type}{nm:α→ByteArray}:∀ (xs pre:List α),(q3i (dupB id) (pre.map nm) (xs.map nm))=q3i (dupB nm) pre xs
 | [],pre=>rfl
 | x :: xs,pre=>by
  have ih:=j2j (nm:=nm) xs (pre++[x])
  have e:dupB id (pre.map nm) (nm x)=dupB nm pre x:=by simp [dupB,List.any_map,Function.comp_def]
  rw [List.map_cons,q3i,q3i,e,List.length_map]
  rw [List.map_append] at ih
  rw [show [nm x]=[x].map nm from rfl,ih]
theorem z4t {α ρ:Type}{bad:List α→α→Bool}{c:Nat→ρ}{all:List α}{f:Nat→α→Unit→Option (Unit ⊕ ρ)}
  (hf:∀ pre x post,all=pre++x :: post→f pre.length x ()=some (if bad pre x=true then .inr (c pre.length) else .inl ())) :
  ∀ (ys pre:List α),all=pre++ys→q2I f pre.length ys ()=some (match q3i bad pre ys with | none=>.inl () | some k=>.inr (c k)):=fun ys pre e=>
 (z2L (nm:=fun _=>()) (h:=fun k x s=>(f k x ()).map fun | .inl _=>.inl (s++[()]) | .inr r=>.inr r) hf (fun pre x post e=>by
  rw [hf pre x post e]
  by_cases hb:bad pre x=true
  ·rw [if_pos hb,if_pos hb]; rfl
  ·rw [if_neg hb,if_neg hb]; simp) ys pre e).1
theorem j6D (l:List ByteArray)(s:ByteArray):z0u l s=some (l.any fun o=>decide (o=s)):=by
 unfold z0u
 rw [q3L (c:=true) (q:=fun o=>!decide (o=s)) fun k x hx=>by
  unfold z5Q
  by_cases h:x=s
  ·rw [if_pos h,if_neg (by simp [h])]
  ·rw [if_neg h,if_pos (by simp [h])]]
 have e:(l.all fun o=>!decide (o=s))=!(l.any fun o=>decide (o=s)):=by rw [List.not_any_eq_all_not]
 rw [e]
 cases l.any fun o=>decide (o=s)<;>rfl
theorem j5p (l:List ByteArray):q9F l=some (j6C id l):=by
 unfold q9F j6C
 rw [show q2I (q8E l) 0 l ()=_ from z4t (bad:=dupB id) (c:=fun _=>false) (all:=l) (f:=q8E l) (fun pre x post e=>by
  unfold q8E
  rw [q2B (by rw [e]; simp),show l.take pre.length=pre by rw [e]; simp,j6D,Option.bind_some,← apply_ite some]; rfl) l [] rfl]
 cases q3i (dupB id) [] l<;>rfl
def z1G (a:Attribute):Bool:=q6S a.Name&&(decide (1≤a.Type_∧a.Type_≤4)&&(decide (1≤a.Mode∧a.Mode≤3)&&if a.Mode=3 then decide (a.Type_=2) && !a.Circular else !a.Circular||decide (a.Type_=2)))
theorem j6E (a:Attribute):q6L a=some (z1G a):=by
 unfold q6L z1G z3P
 rw [z0O,Option.bind_some]
 cases q6S a.Name with
 | false=>rfl
 | true=>
  rw [if_pos rfl,z7u,Option.bind_some,Option.bind_some,Option.bind_some]
  by_cases h1:1≤a.Type_∧a.Type_≤4
  ·rw [decide_eq_true h1,Bool.not_true,if_neg (by simp),z7u,Option.bind_some,Option.bind_some]
   by_cases h2:1≤a.Mode∧a.Mode≤3
   ·rw [decide_eq_true h2,Bool.not_true,if_neg (by simp)]
    by_cases h3:a.Mode=3
    ·rw [if_pos h3,if_pos h3]
     by_cases h4:a.Type_=2
     ·rw [if_pos h4,decide_eq_true h4]; simp
     ·rw [if_neg h4,decide_eq_false h4]; rfl
    ·rw [if_neg h3,if_neg h3]
     cases hc:a.Circular with
     | true=>rw [if_pos rfl]; simp
     | false=>rw [if_neg (by simp)]; simp
   ·rw [decide_eq_false h2]; rfl
  ·rw [decide_eq_false h1]; rfl
theorem j6F (a:Attribute):q6I a=some (z1G a):=by
 unfold q6I z1G
 rw [q9e,Option.bind_some]
 cases q6S a.Name with
 | false=>rfl
 | true=>
  rw [if_pos rfl,z4o,Option.bind_some,Option.bind_some]
  by_cases h1:1≤a.Type_∧a.Type_≤4
  ·rw [decide_eq_true h1,Bool.not_true,if_neg (by simp),z4o,Option.bind_some,Option.bind_some]
   by_cases h2:1≤a.Mode∧a.Mode≤3
   ·rw [decide_eq_true h2,Bool.not_true,if_neg (by simp)]
    by_cases h3:a.Mode=3
    ·rw [if_pos h3,if_pos h3]
     by_cases h4:a.Type_=2
     ·rw [if_pos h4,decide_eq_true h4]
      cases hc:a.Circular with
      | true=>rfl
      | false=>rfl
     ·rw [if_neg h4,decide_eq_false h4]; rfl
    ·rw [if_neg h3,if_neg h3]
     cases hc:a.Circular with
     | true=>simp
     | false=>simp
   ·rw [decide_eq_false h2]; rfl
  ·rw [decide_eq_false h1]; rfl
def symB (s:Symbol):Bool:=s.Attributes.all z1G&&(q6S s.Name&&(decide (s.Attributes.length≤4)&&j6C (fun a:Attribute=>a.Name) s.Attributes))
theorem j8k (s:Symbol):q8l s=some (symB s):=by
 unfold q8l symB
 rw [show q2I (q7K s) 0 s.Attributes ()=_ from z4t (bad:=fun p x=>!z1G x||dupB (fun a:Attribute=>a.Name) p x) (c:=fun _=>false) (all:=s.Attributes) (f:=q7K s) (fun pre x post e=>by
  unfold q7K
  rw [j6E,Option.bind_some]
  cases z1G x with
  | false=>rfl
  | true=>
   rw [if_pos rfl,q2B (by rw [e]; simp),show s.Attributes.take pre.length=pre by rw [e]; simp]
   unfold q3f q3s
   rw [q5o (q:=fun o:Attribute=>decide (o.Name=x.Name)) fun k y hy=>by
    unfold q4v q7r
    rw [Option.bind_some]
    by_cases h:y.Name=x.Name
    ·rw [decide_eq_true h]; rfl
    ·rw [decide_eq_false h]; rfl]
   rw [Option.bind_some,← apply_ite some]; rfl) s.Attributes [] rfl]
 have hor:=j4f (a:=fun x:Attribute=>!z1G x) (b:=dupB (fun a:Attribute=>a.Name)) s.Attributes []
 simp only [Bool.not_not] at hor
 have e2:(s.Attributes.all fun x=>z1G x)=s.Attributes.all z1G:=rfl
 unfold j6C
 rw [e2] at hor
 cases hb:q3i (fun p x=>!z1G x||dupB (fun a:Attribute=>a.Name) p x) [] s.Attributes with
 | some k=>
  rw [hb] at hor
  show some false=_
  have:(s.Attributes.all z1G&&(q3i (dupB fun a:Attribute=>a.Name) [] s.Attributes).isNone)=false:=hor.symm
  congr 1
  cases h1:s.Attributes.all z1G with
  | false=>rfl
  | true=>rw [h1] at this; simp at this; simp [this]
 | none=>
  rw [hb] at hor
  have:(s.Attributes.all z1G&&(q3i (dupB fun a:Attribute=>a.Name) [] s.Attributes).isNone)=true:=hor.symm
  rw [Bool.and_eq_true] at this
  show ((q3l s.Name).bind _)=_
  rw [z0O,Option.bind_some,this.1,this.2]
  cases q6S s.Name with
  | false=>rfl
  | true=>
   rw [if_pos rfl,Option.bind_some]
   congr 1
   simp; omega
theorem j8l {s:Symbol}(h:s.Attributes.length≤1048576):q8g s=some (symB s):=by
 unfold q8g symB
 have hloop:∀ (ys:List Attribute) (i:Nat) (t:List ByteArray),t.length+ys.length≤1048576→q2I q7H i ys t=some (if ys.all z1G=true then .inl (t++ys.map fun a=>a.Name) else .inr false):=by
  intro ys
  induction ys with
  | nil=>intro i t _; simp [q2I]
  | cons y ys ih=>
   intro i t ht
   simp only [List.length_cons] at ht
   simp only [q2I]
   have e:q7H i y t=some (if z1G y=true then .inl (t++[y.Name]) else .inr false):=by
    unfold q7H
    rw [j6F,Option.bind_some]
    cases z1G y with
    | false=>rfl
    | true=>rw [if_pos rfl,if_pos rfl,q2B (by constructor<;>omega)]
   rw [e,Option.bind_some]
   by_cases hy:z1G y=true
   ·rw [if_pos hy,show (y :: ys).all z1G=ys.all z1G by simp [hy]]
    dsimp only
    rw [ih _ _ (by simp; omega)]
    simp
   ·rw [if_neg hy,show (y :: ys).all z1G=false by simp [hy]]; rfl
 rw [hloop _ _ _ (by simpa using h)]
 cases hA:s.Attributes.all z1G with
 | false=>rfl
 | true=>
  rw [if_pos rfl,Option.bind_some,q3q,List.nil_append,q9e,Option.bind_some]
  cases q6S s.Name with
  | false=>rfl
  | true=>
   rw [if_pos rfl,Option.bind_some,List.length_map]
   by_cases hl:s.Attributes.length≤4
   ·rw [decide_eq_true (by omega:(s.Attributes.length:Int)≤4),if_pos rfl,j5p,Option.bind_some,Option.bind_some,decide_eq_true hl]
    have:=j2j (nm:=fun a:Attribute=>a.Name) s.Attributes []
    unfold j6C
    rw [List.map_nil] at this
    rw [this]; rfl
   ·rw [decide_eq_false (by omega:¬ (s.Attributes.length:Int)≤4),if_neg (by simp),decide_eq_false hl]; rfl
end Go.Proofs.YtmblndlpkpaobabGreat
