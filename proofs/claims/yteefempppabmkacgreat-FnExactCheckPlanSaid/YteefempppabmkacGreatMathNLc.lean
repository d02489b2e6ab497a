/- What those partial functions come to: plain lemmas on data; each bears its conditions in its statement. -/
import Derived.Test.YteefempppabmkacGreatMathNHc
import Derived.Test.YteefempppabmkacGreatMathMTc
set_option linter.unusedVariables false
set_option linter.unusedSimpArgs false
set_option linter.ambiguousOpen false
set_option linter.unusedSectionVars false
set_option linter.unnecessarySimpa false
set_option linter.unusedVariables false
set_option linter.unusedSimpArgs false
namespace Go.Proofs.YteefempppabmkacGreat
open Go Go.E
def cirG (g:Grammar):Bool:=g.Symbols.any fun y=>y.Attributes.any fun a=>a.Circular
theorem k0O (g:Grammar):q4C g=some (cirG g):=by
 unfold q4C q2F q2L
 rw [q3d (q:=fun y:Symbol=>y.Attributes.any fun a=>a.Circular) fun k y hy=>by
  unfold q3D q5t q3x q3L
  rw [q3d (q:=fun a:Attribute=>a.Circular) fun k a ha=>by
   unfold q4K z0I
   rw [Option.bind_some]
   cases a.Circular<;>rfl]
  rw [Option.bind_some,Option.bind_some,← apply_ite some]]
 rfl
noncomputable def j7q (g:Grammar):Bool:=z9H g&&(!(colG g||cirG g) && !g.Rules.any farR)
theorem j9b {g:Grammar}(hg:z9H g=true)(hc:colG g=false):(g.Rules.any fun r=>(z2x r).any farB)=g.Rules.any farR:=by
 have:∀ r∈g.Rules,(z2x r).any farB=farR r:=fun r hr=>by
  unfold z2x farR
  rw [j8X hg hc hr,List.flatMap_nil,List.append_nil,List.any_map]; rfl
 rw [Bool.eq_iff_iff,List.any_eq_true,List.any_eq_true]
 exact⟨fun ⟨r,hr,hx⟩=>⟨r,hr,(this r hr)▸hx⟩,fun ⟨r,hr,hx⟩=>⟨r,hr,(this r hr).symm▸hx⟩⟩
theorem j9c {g:Grammar}(h:Sz.szd g≤1048576):z3a g=some (j7q g):=by
 unfold z3a j7q
 rw [j8R h,Option.bind_some]
 cases hg:z9H g with
 | false=>rfl
 | true=>
  rw [if_pos rfl,j8W h]
  simp only [Option.bind_some]
  cases hc:colG g with
  | true=>cases g.Rules.any fun r=>(z2x r).any farB<;>simp [j7i,hc]
  | false=>
   rw [j9b hg hc]
   cases g.Rules.any farR<;>simp [j7i,hc,k0O]
theorem j9d {g:Grammar}(h:Sz.szd g≤1048576):z2R g=some (j7q g):=by
 unfold z2R j7q
 rw [q2P (c:=false) (q:=fun y:Symbol=>!y.Attributes.any fun a=>a.Circular||decide (a.Mode=3)) fun k y hy=>by
  unfold z7y
  rw [q2P (c:=false) (q:=fun a:Attribute=>!(a.Circular||decide (a.Mode=3))) fun k a ha=>by
   unfold z7x
   by_cases hm:a.Mode=3<;>cases hc:a.Circular<;>simp [hm]]
  have e:(y.Attributes.all fun a=>!(a.Circular||decide (a.Mode=3)))=!(y.Attributes.any fun a=>a.Circular||decide (a.Mode=3)):=by rw [List.not_any_eq_all_not]
  rw [e]
  cases y.Attributes.any fun a=>a.Circular||decide (a.Mode=3)<;>rfl]
 have e:(g.Symbols.all fun y=>!y.Attributes.any fun a=>a.Circular||decide (a.Mode=3))=!(colG g||cirG g):=by
  have e1:(g.Symbols.any fun y=>y.Attributes.any fun a=>a.Circular||decide (a.Mode=3))=(colG g||cirG g):=by
   unfold colG cirG
   rw [Bool.eq_iff_iff]
   simp only [List.any_eq_true,Bool.or_eq_true]
   constructor
   ·rintro⟨y,hy,a,ha,h | h⟩
    ·exact .inr ⟨y,hy,a,ha,h⟩
    ·exact .inl ⟨y,hy,a,ha,h⟩
   ·rintro (⟨y,hy,a,ha,h⟩ | ⟨y,hy,a,ha,h⟩)
    ·exact⟨y,hy,a,ha,.inr h⟩
    ·exact⟨y,hy,a,ha,.inl h⟩
  rw [← e1,List.not_any_eq_all_not]
 rw [e]
 cases colG g||cirG g with
 | true=>cases z9H g<;>rfl
 | false=>
  rw [Bool.not_false,if_pos rfl,Option.bind_some,q2S]
  rw [q2P (c:=false) (q:=fun r=>!farR r) fun k r hr=>by
   unfold z7z
   rw [j8V,Option.bind_some]
   cases farR r<;>rfl]
  have e:(g.Rules.all fun r=>!farR r)=!g.Rules.any farR:=by rw [List.not_any_eq_all_not]
  rw [e]
  cases g.Rules.any farR with
  | true=>cases z9H g<;>rfl
  | false=>rw [Bool.not_false,if_pos rfl,Option.bind_some,q2S,j8S h]; cases z9H g<;>rfl
noncomputable def j4i (g:Grammar) (ph:List (List Phase)) (p:RulePlan) (r:Rule):Bool:=decide (p.Rule=r.Name)&&(q6b g ph r p.Steps).getD false
open Classical in
theorem z9L {α β:Type}{xs:List α}{f:Nat→α→Unit→Option (Unit ⊕ Bool)}{q:Nat→α→Bool}:∀ (ys:List α) (i:Nat),(∀ k x,ys[k]? = some x→f (i+k) x ()=some (if q (i+k) x=true then .inl () else .inr false))→q2u f i ys ()=some (if (∀ k x,ys[k]? = some x→q (i+k) x=true) then .inl () else .inr false)
 | [],i,_=>by simp [q2u]
 | y :: ys,i,h=>by
  have h0:=h 0 y rfl
  rw [Nat.add_zero] at h0
  show (f i y ()).bind _=_
  rw [h0]
  by_cases hq:q i y=true
  ·rw [if_pos hq]
   show q2u f (i+1) ys ()=_
   rw [z9L (xs:=xs) (β:=β) (q:=q) ys (i+1) fun k x hx=>by have:=h (k+1) x hx; rwa [show i+(k+1)=i+1+k by omega] at this]
   by_cases hr:∀ k x,ys[k]? = some x→q (i+1+k) x=true
   ·rw [if_pos hr,if_pos]
    intro k x hx
    cases k with
    | zero=>simp at hx; subst hx; exact hq
    | succ k=>rw [show i+(k+1)=i+1+k by omega]; exact hr k x hx
   ·rw [if_neg hr,if_neg]
    intro hh
    exact hr fun k x hx=>by have:=hh (k+1) x hx; rwa [show i+(k+1)=i+1+k by omega] at this
  ·rw [if_neg hq,if_neg]
   ·rfl
   ·intro hh
    exact hq (by have:=hh 0 y rfl; rwa [Nat.add_zero] at this)
theorem j5L {g:Grammar}{ph:List (List Phase)}{ps:List RulePlan}(hg:Sz.szd g≤1048576)(hp:szL ph≤1048576)(hs:szL ps≤1048576):∃ b,z0c g ph ps=some b∧z0h g ph ps=some b:=by
 have hpl:∀ (k:Nat) (p:RulePlan) (r:Rule),ps[k]? = some p→g.Rules[k]? = some r→∃ b,q6b g ph r p.Steps=some b∧q7h g ph r p.Steps=some b:=fun k p r h1 h2=>by
  refine j7p hg hp (Nat.le_trans (z4s (List.mem_of_getElem? h2)) hg) ?_
  have h3:=q6u (List.mem_of_getElem? h1)
  have h4:=q2R p.Steps
  have h5:Sz.szd p=p.Rule.size+szL p.Steps:=z7t p
  omega
 unfold z0c z0h
 rw [j9d hg,j9c hg]
 simp only [Option.bind_some]
 cases j7q g with
 | false=>exact⟨false,rfl,rfl⟩
 | true=>
  rw [if_pos rfl]
  by_cases h1:(ph.length:Int)=(g.Symbols.length:Int)
  ·by_cases h2:(ps.length:Int)=(g.Rules.length:Int)
   ·have h2' : ps.length=g.Rules.length:=by omega
    rw [decide_eq_true h1,decide_eq_true h2]
    simp only [Bool.not_true,Option.bind_some,Bool.false_eq_true,if_false]
    rw [q2P (c:=false) (q:=fun p:List Phase=>!decide ((p.length:Int)=0)) fun k p hp=>by
     unfold z6n
     by_cases h:(p.length:Int)=0
     ·rw [if_pos h,if_neg (by simp [h])]
     ·rw [if_neg h,if_pos (by simpa using h)]]
    unfold q3M q4e
    rw [q3d (q:=fun p:List Phase=>decide ((p.length:Int)=0)) fun k p hp=>by
     unfold q5m z2d
     rw [Option.bind_some]
     cases decide ((p.length:Int)=0)<;>rfl]
    have e:(ph.all fun p=>!decide ((p.length:Int)=0))=!ph.any fun p=>decide ((p.length:Int)=0):=by rw [List.not_any_eq_all_not]
    rw [e]
    cases ph.any fun p=>decide ((p.length:Int)=0) with
    | true=>exact⟨false,rfl,rfl⟩
    | false=>
     simp only [Bool.not_false,if_true,Option.bind_some,q2S,Bool.false_eq_true,if_false]
     rw [z9L (xs:=ps) (β:=Unit) (q:=fun k p=>match g.Rules[k]? with | some r=>j4i g ph p r | none=>false) ps 0 fun k p hk=>by
      rw [Nat.zero_add]
      unfold z6o
      obtain⟨r,hr⟩:∃ r,g.Rules[k]? = some r:=⟨_,List.getElem?_eq_getElem (by have:=(List.getElem?_eq_some_iff.1 hk).1; omega)⟩
      obtain⟨b,e1,e2⟩:=hpl k p r hk hr
      rw [hr,Option.bind_some]
      unfold j4i
      by_cases hn:p.Rule=r.Name
      ·rw [if_pos hn,e1,Option.bind_some]; simp only [hn,decide_true,Bool.true_and,e1,Option.getD_some]; cases b<;>rfl
      ·rw [if_neg hn]; simp [hn]]
     rw [z9L (xs:=g.Rules) (β:=Unit) (q:=fun k r=>match ps[k]? with | some p=>j4i g ph p r | none=>false) g.Rules 0 fun k r hk=>by
      rw [Nat.zero_add]
      unfold z6w
      obtain⟨p,hr⟩:∃ p,ps[k]? = some p:=⟨_,List.getElem?_eq_getElem (by have:=(List.getElem?_eq_some_iff.1 hk).1; omega)⟩
      obtain⟨b,e1,e2⟩:=hpl k p r hr hk
      rw [hr,Option.bind_some]
      unfold j4i
      by_cases hn:p.Rule=r.Name
      ·rw [if_pos hn,e2,Option.bind_some]; simp only [hn,decide_true,Bool.true_and,e1,Option.getD_some]; cases b<;>rfl
      ·rw [if_neg hn]; simp [hn]]
     have e:(∀ (k:Nat) (p:RulePlan),ps[k]? = some p→(match g.Rules[0+k]? with | some r=>j4i g ph p r | none=>false)=true)↔(∀ (k:Nat) (r:Rule),g.Rules[k]? = some r→(match ps[0+k]? with | some p=>j4i g ph p r | none=>false)=true):=by
      constructor
      ·intro h k r hk
       obtain⟨p,hr⟩:∃ p,ps[k]? = some p:=⟨_,List.getElem?_eq_getElem (by have:=(List.getElem?_eq_some_iff.1 hk).1; omega)⟩
       have:=h k p hr
       rw [Nat.zero_add] at this ⊢
       rw [hk] at this; rw [hr]; exact this
      ·intro h k p hk
       obtain⟨r,hr⟩:∃ r,g.Rules[k]? = some r:=⟨_,List.getElem?_eq_getElem (by have:=(List.getElem?_eq_some_iff.1 hk).1; omega)⟩
       have:=h k r hr
       rw [Nat.zero_add] at this ⊢
       rw [hk] at this; rw [hr]; exact this
     by_cases hh:∀ (k:Nat) (r:Rule),g.Rules[k]? = some r→(match ps[0+k]? with | some p=>j4i g ph p r | none=>false)=true
     ·rw [if_pos hh,if_pos (e.2 hh)]; exact⟨true,rfl,rfl⟩
     ·rw [if_neg hh,if_neg fun x=>hh (e.1 x)]; exact⟨false,rfl,rfl⟩
   ·rw [decide_eq_true h1,decide_eq_false h2]; exact⟨false,rfl,rfl⟩
  ·rw [decide_eq_false h1]; exact⟨false,rfl,rfl⟩
end Go.Proofs.YteefempppabmkacGreat
