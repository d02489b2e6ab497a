/- What those partial functions come to: plain lemmas on data; each bears its conditions in its statement. -/
import Derived.Test.YteefempppabmkacGreatMathNAc
import Derived.Test.YteefempppabmkacGreatMathMWac
set_option linter.unusedVariables false
set_option linter.unusedSimpArgs false
set_option linter.ambiguousOpen false
set_option linter.unusedSectionVars false
set_option linter.unnecessarySimpa false
set_option linter.unusedVariables false
set_option linter.unusedSimpArgs false
namespace Go.Proofs.YteefempppabmkacGreat
open Go Go.E
theorem q3d {α:Type}{q:α→Bool}{xs:List α}{f:Nat→α→Unit→Option (Unit ⊕ Int)}(h:∀ k x,x∈xs→f k x ()=some (if q x=true then .inr (k:Int) else .inl ())) :
  ((q2u f 0 xs ()).bind <| onr (fun r1=>some r1) fun _=>some (-1)).bind (fun y1=>some (decide (0≤y1)))=some (xs.any q):=by
 rw [z9y h]
 cases hq:xs.any q with
 | true=>
  have:(0:Int)≤((0+xs.findIdx q:Nat):Int):=Int.natCast_nonneg _
  rw [if_pos rfl,Option.bind_some,z6K,Option.bind_some,decide_eq_true this]
 | false=>rfl
def q3e {α:Type}(bad:List α→α→Bool):List α→List α→Option Nat
 | _,[]=>none
 | pre,x :: xs=>if bad pre x=true then some pre.length else q3e bad (pre++[x]) xs
theorem z2v {α β ρ:Type}{bad:List α→α→Bool}{nm:α→β}{c:Nat→ρ}{all:List α}{f:Nat→α→Unit→Option (Unit ⊕ ρ)}{h:Nat→α→List β→Option (List β ⊕ ρ)}
  (hf:∀ pre x post,all=pre++x :: post→f pre.length x ()=some (if bad pre x=true then .inr (c pre.length) else .inl ()))
  (hh:∀ pre x post,all=pre++x :: post→h pre.length x (pre.map nm)=some (if bad pre x=true then .inr (c pre.length) else .inl ((pre++[x]).map nm))) :
  ∀ (ys pre:List α),all=pre++ys→q2u f pre.length ys ()=some (match q3e bad pre ys with | none=>.inl () | some k=>.inr (c k)) ∧
   q2u h pre.length ys (pre.map nm)=some (match q3e bad pre ys with | none=>.inl (all.map nm) | some k=>.inr (c k))
 | [],pre,e=>by
  rw [List.append_nil] at e
  subst e; exact⟨rfl,rfl⟩
 | x :: ys,pre,e=>by
  have h1:=hf pre x ys e
  have h2:=hh pre x ys e
  by_cases hb:bad pre x=true
  ·rw [if_pos hb] at h1 h2
   simp only [q2u,h1,h2,q3e,hb,if_true,Option.bind_some]
   exact⟨trivial,trivial⟩
  ·rw [if_neg hb] at h1 h2
   have ih:=z2v hf hh ys (pre++[x]) (by rw [e]; simp)
   simp only [List.length_append,List.length_cons,List.length_nil,Nat.zero_add] at ih
   simp only [q2u,h1,h2,q3e,hb,Option.bind_some]
   exact ih
theorem j4G {α:Type}{a:α→Bool}{b:List α→α→Bool}:∀ (xs pre:List α),(q3e (fun p x=>a x||b p x) pre xs).isNone=(xs.all (fun x=>!a x)&&(q3e b pre xs).isNone)
 | [],pre=>rfl
 | x :: xs,pre=>by
  have ih:=j4G (a:=a) (b:=b) xs (pre++[x])
  simp only [q3e,List.all_cons]
  by_cases ha:a x=true
  ·simp [ha]
  ·by_cases hb:b pre x=true
   ·simp [ha,hb]
   ·simpa [ha,hb] using ih
def dupB {α:Type}(nm:α→ByteArray)(pre:List α)(x:α):Bool:=pre.any fun o=>decide (nm o=nm x)
def j6P {α:Type}(nm:α→ByteArray)(xs:List α):Bool:=(q3e (dupB nm) [] xs).isNone
theorem j2E {α:Type}{nm:α→ByteArray}:∀ (xs pre:List α),(q3e (dupB id) (pre.map nm) (xs.map nm))=q3e (dupB nm) pre xs
 | [],pre=>rfl
 | x :: xs,pre=>by
  have ih:=j2E (nm:=nm) xs (pre++[x])
  have e:dupB id (pre.map nm) (nm x)=dupB nm pre x:=by simp [dupB,List.any_map,Function.comp_def]
  rw [List.map_cons,q3e,q3e,e,List.length_map]
  rw [List.map_append] at ih
  rw [show [nm x]=[x].map nm from rfl,ih]
theorem z4r {α ρ:Type}{bad:List α→α→Bool}{c:Nat→ρ}{all:List α}{f:Nat→α→Unit→Option (Unit ⊕ ρ)}
  (hf:∀ pre x post,all=pre++x :: post→f pre.length x ()=some (if bad pre x=true then .inr (c pre.length) else .inl ())) :
  ∀ (ys pre:List α),all=pre++ys→q2u f pre.length ys ()=some (match q3e bad pre ys with | none=>.inl () | some k=>.inr (c k)):=fun ys pre e=>
 (z2v (nm:=fun _=>()) (h:=fun k x s=>(f k x ()).map fun | .inl _=>.inl (s++[()]) | .inr r=>.inr r) hf (fun pre x post e=>by
  rw [hf pre x post e]
  by_cases hb:bad pre x=true
  ·rw [if_pos hb,if_pos hb]; rfl
  ·rw [if_neg hb,if_neg hb]; simp) ys pre e).1
theorem j6Q (l:List ByteArray)(s:ByteArray):z0s l s=some (l.any fun o=>decide (o=s)):=by
 unfold z0s
 rw [q2P (c:=true) (q:=fun o=>!decide (o=s)) fun k x hx=>by
  unfold z5Z
  by_cases h:x=s
  ·rw [if_pos h,if_neg (by simp [h])]
  ·rw [if_neg h,if_pos (by simp [h])]]
 have e:(l.all fun o=>!decide (o=s))=!(l.any fun o=>decide (o=s)):=by rw [List.not_any_eq_all_not]
 rw [e]
 cases l.any fun o=>decide (o=s)<;>rfl
theorem j5A (l:List ByteArray):q9B l=some (j6P id l):=by
 unfold q9B j6P
 rw [show q2u (q8H l) 0 l ()=_ from z4r (bad:=dupB id) (c:=fun _=>false) (all:=l) (f:=q8H l) (fun pre x post e=>by
  unfold q8H
  rw [q2q (by rw [e]; simp),show l.take pre.length=pre by rw [e]; simp,j6Q,Option.bind_some,← apply_ite some]; rfl) l [] rfl]
 cases q3e (dupB id) [] l<;>rfl
def z1v (a:Attribute):Bool:=q6X a.Name&&(decide (1≤a.Type_∧a.Type_≤4)&&(decide (1≤a.Mode∧a.Mode≤3)&&if a.Mode=3 then decide (a.Type_=2) && !a.Circular else !a.Circular||decide (a.Type_=2)))
theorem j6R (a:Attribute):q6R a=some (z1v a):=by
 unfold q6R z1v z3V
 rw [z0K,Option.bind_some]
 cases q6X a.Name with
 | false=>rfl
 | true=>
  rw [if_pos rfl,z4Z,Option.bind_some,Option.bind_some,Option.bind_some]
  by_cases h1:1≤a.Type_∧a.Type_≤4
  ·rw [decide_eq_true h1,Bool.not_true,if_neg (by simp),z4Z,Option.bind_some,Option.bind_some]
   by_cases h2:1≤a.Mode∧a.Mode≤3
   ·rw [decide_eq_true h2,Bool.not_true,if_neg (by simp)]
    by_cases h3:a.Mode=3
    ·rw [if_pos h3,if_pos h3]
     by_cases h4:a.Type_=2
     ·rw [if_pos h4,decide_eq_true h4]; simp
     ·rw [if_neg h4,decide_eq_false h4]; rfl
    ·rw [if_neg h3,if_neg h3]
     cases hc:a.Circular with
     | true=>rw [if_pos rfl]; simp
     | false=>rw [if_neg (by simp)]; simp
   ·rw [decide_eq_false h2]; rfl
  ·rw [decide_eq_false h1]; rfl
theorem j6S (a:Attribute):q6O a=some (z1v a):=by
 unfold q6O z1v
 rw [q8Z,Option.bind_some]
 cases q6X a.Name with
 | false=>rfl
 | true=>
  rw [if_pos rfl,z1n,Option.bind_some,Option.bind_some]
  by_cases h1:1≤a.Type_∧a.Type_≤4
  ·rw [decide_eq_true h1,Bool.not_true,if_neg (by simp),z1n,Option.bind_some,Option.bind_some]
   by_cases h2:1≤a.Mode∧a.Mode≤3
   ·rw [decide_eq_true h2,Bool.not_true,if_neg (by simp)]
    by_cases h3:a.Mode=3
    ·rw [if_pos h3,if_pos h3]
     by_cases h4:a.Type_=2
     ·rw [if_pos h4,decide_eq_true h4]
      cases hc:a.Circular with
      | true=>rfl
      | false=>rfl
     ·rw [if_neg h4,decide_eq_false h4]; rfl
    ·rw [if_neg h3,if_neg h3]
     cases hc:a.Circular with
     | true=>simp
     | false=>simp
   ·rw [decide_eq_false h2]; rfl
  ·rw [decide_eq_false h1]; rfl
def symB (s:Symbol):Bool:=s.Attributes.all z1v&&(q6X s.Name&&(decide (s.Attributes.length≤4)&&j6P (fun a:Attribute=>a.Name) s.Attributes))
theorem j8C (s:Symbol):q8n s=some (symB s):=by
 unfold q8n symB
 rw [show q2u (q7O s) 0 s.Attributes ()=_ from z4r (bad:=fun p x=>!z1v x||dupB (fun a:Attribute=>a.Name) p x) (c:=fun _=>false) (all:=s.Attributes) (f:=q7O s) (fun pre x post e=>by
  unfold q7O
  rw [j6R,Option.bind_some]
  cases z1v x with
  | false=>rfl
  | true=>
   rw [if_pos rfl,q2q (by rw [e]; simp),show s.Attributes.take pre.length=pre by rw [e]; simp]
   unfold q2Z q3k
   rw [q3d (q:=fun o:Attribute=>decide (o.Name=x.Name)) fun k y hy=>by
    unfold q4m q7w
    rw [Option.bind_some]
    by_cases h:y.Name=x.Name
    ·rw [decide_eq_true h]; rfl
    ·rw [decide_eq_false h]; rfl]
   rw [Option.bind_some,← apply_ite some]; rfl) s.Attributes [] rfl]
 have hor:=j4G (a:=fun x:Attribute=>!z1v x) (b:=dupB (fun a:Attribute=>a.Name)) s.Attributes []
 simp only [Bool.not_not] at hor
 have e2:(s.Attributes.all fun x=>z1v x)=s.Attributes.all z1v:=rfl
 unfold j6P
 rw [e2] at hor
 cases hb:q3e (fun p x=>!z1v x||dupB (fun a:Attribute=>a.Name) p x) [] s.Attributes with
 | some k=>
  rw [hb] at hor
  show some false=_
  have:(s.Attributes.all z1v&&(q3e (dupB fun a:Attribute=>a.Name) [] s.Attributes).isNone)=false:=hor.symm
  congr 1
  cases h1:s.Attributes.all z1v with
  | false=>rfl
  | true=>rw [h1] at this; simp at this; simp [this]
 | none=>
  rw [hb] at hor
  have:(s.Attributes.all z1v&&(q3e (dupB fun a:Attribute=>a.Name) [] s.Attributes).isNone)=true:=hor.symm
  rw [Bool.and_eq_true] at this
  show ((q3g s.Name).bind _)=_
  rw [z0K,Option.bind_some,this.1,this.2]
  cases q6X s.Name with
  | false=>rfl
  | true=>
   rw [if_pos rfl,Option.bind_some]
   congr 1
   simp; omega
theorem j8D {s:Symbol}(h:s.Attributes.length≤1048576):q8l s=some (symB s):=by
 unfold q8l symB
 have hloop:∀ (ys:List Attribute) (i:Nat) (t:List ByteArray),t.length+ys.length≤1048576→q2u q7M i ys t=some (if ys.all z1v=true then .inl (t++ys.map fun a=>a.Name) else .inr false):=by
  intro ys
  induction ys with
  | nil=>intro i t _; simp [q2u]
  | cons y ys ih=>
   intro i t ht
   simp only [List.length_cons] at ht
   simp only [q2u]
   have e:q7M i y t=some (if z1v y=true then .inl (t++[y.Name]) else .inr false):=by
    unfold q7M
    rw [j6S,Option.bind_some]
    cases z1v y with
    | false=>rfl
    | true=>rw [if_pos rfl,if_pos rfl,q2q (by constructor<;>omega)]
   rw [e,Option.bind_some]
   by_cases hy:z1v y=true
   ·rw [if_pos hy,show (y :: ys).all z1v=ys.all z1v by simp [hy]]
    dsimp only
    rw [ih _ _ (by simp; omega)]
    simp
   ·rw [if_neg hy,show (y :: ys).all z1v=false by simp [hy]]; rfl
 rw [hloop _ _ _ (by simpa using h)]
 cases hA:s.Attributes.all z1v with
 | false=>rfl
 | true=>
  rw [if_pos rfl,Option.bind_some,q2S,List.nil_append,q8Z,Option.bind_some]
  cases q6X s.Name with
  | false=>rfl
  | true=>
   rw [if_pos rfl,Option.bind_some,List.length_map]
   by_cases hl:s.Attributes.length≤4
   ·rw [decide_eq_true (by omega:(s.Attributes.length:Int)≤4),if_pos rfl,j5A,Option.bind_some,Option.bind_some,decide_eq_true hl]
    have:=j2E (nm:=fun a:Attribute=>a.Name) s.Attributes []
    unfold j6P
    rw [List.map_nil] at this
    rw [this]; rfl
   ·rw [decide_eq_false (by omega:¬ (s.Attributes.length:Int)≤4),if_neg (by simp),decide_eq_false hl]; rfl
end Go.Proofs.YteefempppabmkacGreat
