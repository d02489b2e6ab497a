/- What those partial functions come to: plain lemmas on data; each bears its conditions in its statement. -/
import Derived.Test.YtmblndlpkpaobaaGreatMathNAw
import Derived.Test.YtmblndlpkpaobaaGreatMathMWaw
set_option linter.unusedVariables false
set_option linter.unusedSimpArgs false
set_option linter.ambiguousOpen false
set_option linter.unusedSectionVars false
set_option linter.unnecessarySimpa false
set_option linter.unusedVariables false
set_option linter.unusedSimpArgs false
namespace Go.Proofs.YtmblndlpkpaobaaGreat
open Go Go.E
theorem q1e {α:Type}{q:α→Bool}{xs:List α}{f:Nat→α→Unit→Option (Unit ⊕ Int)}(h:∀ k x,x∈xs→f k x ()=some (if q x=true then .inr (k:Int) else .inl ())) :
  ((findL f 0 xs ()).bind <| onr (fun r1=>some r1) fun _=>some (-1)).bind (fun y1=>some (decide (0≤y1)))=some (xs.any q):=by
 rw [z2M h]
 cases hq:xs.any q with
 | true=>
  have:(0:Int)≤((0+xs.findIdx q:Nat):Int):=Int.natCast_nonneg _
  rw [if_pos rfl,Option.bind_some,z1T,Option.bind_some,decide_eq_true this]
 | false=>rfl
def q0K {α:Type}(bad:List α→α→Bool):List α→List α→Option Nat
 | _,[]=>none
 | pre,x :: xs=>if bad pre x=true then some pre.length else q0K bad (pre++[x]) xs
theorem q7O {α β ρ:Type}{bad:List α→α→Bool}{nm:α→β}{c:Nat→ρ}{all:List α}{f:Nat→α→Unit→Option (Unit ⊕ ρ)}{h:Nat→α→List β→Option (List β ⊕ ρ)}
  (hf:∀ pre x post,all=pre++x :: post→f pre.length x ()=some (if bad pre x=true then .inr (c pre.length) else .inl ()))
  (hh:∀ pre x post,all=pre++x :: post→h pre.length x (pre.map nm)=some (if bad pre x=true then .inr (c pre.length) else .inl ((pre++[x]).map nm))) :
  ∀ (ys pre:List α),all=pre++ys→findL f pre.length ys ()=some (match q0K bad pre ys with | none=>.inl () | some k=>.inr (c k)) ∧
   findL h pre.length ys (pre.map nm)=some (match q0K bad pre ys with | none=>.inl (all.map nm) | some k=>.inr (c k))
 | [],pre,e=>by
  rw [List.append_nil] at e
  subst e; exact⟨rfl,rfl⟩
 | x :: ys,pre,e=>by
  have h1:=hf pre x ys e
  have h2:=hh pre x ys e
  by_cases hb:bad pre x=true
  ·rw [if_pos hb] at h1 h2
   simp only [findL,h1,h2,q0K,hb,if_true,Option.bind_some]
   exact⟨trivial,trivial⟩
  ·rw [if_neg hb] at h1 h2
   have ih:=q7O hf hh ys (pre++[x]) (by rw [e]; simp)
   simp only [List.length_append,List.length_cons,List.length_nil,Nat.zero_add] at ih
   simp only [findL,h1,h2,q0K,hb,Option.bind_some]
   exact ih
theorem z6M {α:Type}{a:α→Bool}{b:List α→α→Bool}:∀ (xs pre:List α),(q0K (fun p x=>a x||b p x) pre xs).isNone=(xs.all (fun x=>!a x)&&(q0K b pre xs).isNone)
 | [],pre=>rfl
 | x :: xs,pre=>by
  have ih:=z6M (a:=a) (b:=b) xs (pre++[x])
  simp only [q0K,List.all_cons]
  by_cases ha:a x=true
  ·simp [ha]
  ·by_cases hb:b pre x=true
   ·simp [ha,hb]
   ·simpa [ha,hb] using ih
def dupB {α:Type}(nm:α→ByteArray)(pre:List α)(x:α):Bool:=pre.any fun o=>decide (nm o=nm x)
def distB {α:Type}(nm:α→ByteArray)(xs:List α):Bool:=(q0K (dupB nm) [] xs).isNone
theorem z5j {α:Type}{nm:α→ByteArray}:∀ (xs pre:List α),(q0K (dupB id) (pre.map nm) (xs.map nm))=q0K (dupB nm) pre xs
 | [],pre=>rfl
 | x :: xs,pre=>by
  have ih:=z5j (nm:=nm) xs (pre++[x])
  have e:dupB id (pre.map nm) (nm x)=dupB nm pre x:=by simp [dupB,List.any_map,Function.comp_def]
  rw [List.map_cons,q0K,q0K,e,List.length_map]
  rw [List.map_append] at ih
  rw [show [nm x]=[x].map nm from rfl,ih]
theorem q9b {α ρ:Type}{bad:List α→α→Bool}{c:Nat→ρ}{all:List α}{f:Nat→α→Unit→Option (Unit ⊕ ρ)}
  (hf:∀ pre x post,all=pre++x :: post→f pre.length x ()=some (if bad pre x=true then .inr (c pre.length) else .inl ())) :
  ∀ (ys pre:List α),all=pre++ys→findL f pre.length ys ()=some (match q0K bad pre ys with | none=>.inl () | some k=>.inr (c k)):=fun ys pre e=>
 (q7O (nm:=fun _=>()) (h:=fun k x s=>(f k x ()).map fun | .inl _=>.inl (s++[()]) | .inr r=>.inr r) hf (fun pre x post e=>by
  rw [hf pre x post e]
  by_cases hb:bad pre x=true
  ·rw [if_pos hb,if_pos hb]; rfl
  ·rw [if_neg hb,if_neg hb]; simp) ys pre e).1
theorem has_eq (l:List ByteArray)(s:ByteArray):q6n l s=some (l.any fun o=>decide (o=s)):=by
 unfold q6n
 rw [q0v (c:=true) (q:=fun o=>!decide (o=s)) fun k x hx=>by
  unfold z0f
  by_cases h:x=s
  ·rw [if_pos h,if_neg (by simp [h])]
  ·rw [if_neg h,if_pos (by simp [h])]]
 have e:(l.all fun o=>!decide (o=s))=!(l.any fun o=>decide (o=s)):=by rw [List.not_any_eq_all_not]
 rw [e]
 cases l.any fun o=>decide (o=s)<;>rfl
theorem z7s (l:List ByteArray):q5Q l=some (distB id l):=by
 unfold q5Q distB
 rw [show findL (q5m l) 0 l ()=_ from q9b (bad:=dupB id) (c:=fun _=>false) (all:=l) (f:=q5m l) (fun pre x post e=>by
  unfold q5m
  rw [q0d (by rw [e]; simp),show l.take pre.length=pre by rw [e]; simp,has_eq,Option.bind_some,← apply_ite some]; rfl) l [] rfl]
 cases q0K (dupB id) [] l<;>rfl
def attrB (a:Attribute):Bool:=nameB a.Name&&(decide (1≤a.Type_∧a.Type_≤4)&&(decide (1≤a.Mode∧a.Mode≤3)&&if a.Mode=3 then decide (a.Type_=2) && !a.Circular else !a.Circular||decide (a.Type_=2)))
theorem z8n (a:Attribute):q3P a=some (attrB a):=by
 unfold q3P attrB q8N
 rw [q6E,Option.bind_some]
 cases nameB a.Name with
 | false=>rfl
 | true=>
  rw [if_pos rfl,iIn_eq,Option.bind_some,Option.bind_some,Option.bind_some]
  by_cases h1:1≤a.Type_∧a.Type_≤4
  ·rw [decide_eq_true h1,Bool.not_true,if_neg (by simp),iIn_eq,Option.bind_some,Option.bind_some]
   by_cases h2:1≤a.Mode∧a.Mode≤3
   ·rw [decide_eq_true h2,Bool.not_true,if_neg (by simp)]
    by_cases h3:a.Mode=3
    ·rw [if_pos h3,if_pos h3]
     by_cases h4:a.Type_=2
     ·rw [if_pos h4,decide_eq_true h4]; simp
     ·rw [if_neg h4,decide_eq_false h4]; rfl
    ·rw [if_neg h3,if_neg h3]
     cases hc:a.Circular with
     | true=>rw [if_pos rfl]; simp
     | false=>rw [if_neg (by simp)]; simp
   ·rw [decide_eq_false h2]; rfl
  ·rw [decide_eq_false h1]; rfl
theorem z8o (a:Attribute):q3M a=some (attrB a):=by
 unfold q3M attrB
 rw [q5A,Option.bind_some]
 cases nameB a.Name with
 | false=>rfl
 | true=>
  rw [if_pos rfl,sIn_eq,Option.bind_some,Option.bind_some]
  by_cases h1:1≤a.Type_∧a.Type_≤4
  ·rw [decide_eq_true h1,Bool.not_true,if_neg (by simp),sIn_eq,Option.bind_some,Option.bind_some]
   by_cases h2:1≤a.Mode∧a.Mode≤3
   ·rw [decide_eq_true h2,Bool.not_true,if_neg (by simp)]
    by_cases h3:a.Mode=3
    ·rw [if_pos h3,if_pos h3]
     by_cases h4:a.Type_=2
     ·rw [if_pos h4,decide_eq_true h4]
      cases hc:a.Circular with
      | true=>rfl
      | false=>rfl
     ·rw [if_neg h4,decide_eq_false h4]; rfl
    ·rw [if_neg h3,if_neg h3]
     cases hc:a.Circular with
     | true=>simp
     | false=>simp
   ·rw [decide_eq_false h2]; rfl
  ·rw [decide_eq_false h1]; rfl
def symB (s:Symbol):Bool:=s.Attributes.all attrB&&(nameB s.Name&&(decide (s.Attributes.length≤4)&&distB (fun a:Attribute=>a.Name) s.Attributes))
theorem z9n (s:Symbol):q5c s=some (symB s):=by
 unfold q5c symB
 rw [show findL (q4A s) 0 s.Attributes ()=_ from q9b (bad:=fun p x=>!attrB x||dupB (fun a:Attribute=>a.Name) p x) (c:=fun _=>false) (all:=s.Attributes) (f:=q4A s) (fun pre x post e=>by
  unfold q4A
  rw [z8n,Option.bind_some]
  cases attrB x with
  | false=>rfl
  | true=>
   rw [if_pos rfl,q0d (by rw [e]; simp),show s.Attributes.take pre.length=pre by rw [e]; simp]
   unfold q0I q0R
   rw [q1e (q:=fun o:Attribute=>decide (o.Name=x.Name)) fun k y hy=>by
    unfold q1L q5t
    rw [Option.bind_some]
    by_cases h:y.Name=x.Name
    ·rw [decide_eq_true h]; rfl
    ·rw [decide_eq_false h]; rfl]
   rw [Option.bind_some,← apply_ite some]; rfl) s.Attributes [] rfl]
 have hor:=z6M (a:=fun x:Attribute=>!attrB x) (b:=dupB (fun a:Attribute=>a.Name)) s.Attributes []
 simp only [Bool.not_not] at hor
 have e2:(s.Attributes.all fun x=>attrB x)=s.Attributes.all attrB:=rfl
 unfold distB
 rw [e2] at hor
 cases hb:q0K (fun p x=>!attrB x||dupB (fun a:Attribute=>a.Name) p x) [] s.Attributes with
 | some k=>
  rw [hb] at hor
  show some false=_
  have:(s.Attributes.all attrB&&(q0K (dupB fun a:Attribute=>a.Name) [] s.Attributes).isNone)=false:=hor.symm
  congr 1
  cases h1:s.Attributes.all attrB with
  | false=>rfl
  | true=>rw [h1] at this; simp at this; simp [this]
 | none=>
  rw [hb] at hor
  have:(s.Attributes.all attrB&&(q0K (dupB fun a:Attribute=>a.Name) [] s.Attributes).isNone)=true:=hor.symm
  rw [Bool.and_eq_true] at this
  show ((q0M s.Name).bind _)=_
  rw [q6E,Option.bind_some,this.1,this.2]
  cases nameB s.Name with
  | false=>rfl
  | true=>
   rw [if_pos rfl,Option.bind_some]
   congr 1
   simp; omega
theorem z9o {s:Symbol}(h:s.Attributes.length≤1048576):q4Y s=some (symB s):=by
 unfold q4Y symB
 have hloop:∀ (ys:List Attribute) (i:Nat) (t:List ByteArray),t.length+ys.length≤1048576→findL q4y i ys t=some (if ys.all attrB=true then .inl (t++ys.map fun a=>a.Name) else .inr false):=by
  intro ys
  induction ys with
  | nil=>intro i t _; simp [findL]
  | cons y ys ih=>
   intro i t ht
   simp only [List.length_cons] at ht
   simp only [findL]
   have e:q4y i y t=some (if attrB y=true then .inl (t++[y.Name]) else .inr false):=by
    unfold q4y
    rw [z8o,Option.bind_some]
    cases attrB y with
    | false=>rfl
    | true=>rw [if_pos rfl,if_pos rfl,q0d (by constructor<;>omega)]
   rw [e,Option.bind_some]
   by_cases hy:attrB y=true
   ·rw [if_pos hy,show (y :: ys).all attrB=ys.all attrB by simp [hy]]
    dsimp only
    rw [ih _ _ (by simp; omega)]
    simp
   ·rw [if_neg hy,show (y :: ys).all attrB=false by simp [hy]]; rfl
 rw [hloop _ _ _ (by simpa using h)]
 cases hA:s.Attributes.all attrB with
 | false=>rfl
 | true=>
  rw [if_pos rfl,Option.bind_some,q0s,List.nil_append,q5A,Option.bind_some]
  cases nameB s.Name with
  | false=>rfl
  | true=>
   rw [if_pos rfl,Option.bind_some,List.length_map]
   by_cases hl:s.Attributes.length≤4
   ·rw [decide_eq_true (by omega:(s.Attributes.length:Int)≤4),if_pos rfl,z7s,Option.bind_some,Option.bind_some,decide_eq_true hl]
    have:=z5j (nm:=fun a:Attribute=>a.Name) s.Attributes []
    unfold distB
    rw [List.map_nil] at this
    rw [this]; rfl
   ·rw [decide_eq_false (by omega:¬ (s.Attributes.length:Int)≤4),if_neg (by simp),decide_eq_false hl]; rfl
end Go.Proofs.YtmblndlpkpaobaaGreat
