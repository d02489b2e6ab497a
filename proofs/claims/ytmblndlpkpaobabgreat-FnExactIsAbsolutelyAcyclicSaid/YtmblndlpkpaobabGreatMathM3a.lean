/- What those partial functions come to: plain lemmas on data; each bears its conditions in its statement. -/
import Derived.Test.YtmblndlpkpaobabGreatLift
import Derived.Test.YtmblndlpkpaobabGreatEngC
set_option linter.unusedVariables false
set_option linter.unusedSimpArgs false
set_option linter.ambiguousOpen false
set_option linter.unusedSectionVars false
set_option linter.unnecessarySimpa false
set_option linter.unusedVariables false
set_option linter.unusedSimpArgs false
namespace Go.Proofs.YtmblndlpkpaobabGreat
open Go Go.E
theorem z0U {α ρ:Type}{p:α→Bool}{r:α→ρ}:∀ {xs:List α} {i:Nat} {f:Nat→α→Unit→Option (Unit ⊕ ρ)},(∀ k x,x∈xs→(p x=true→f k x ()=some (.inr (r x)))∧(p x=false→f k x ()=some (.inl ()))) →
  q2I f i xs ()=some (match xs.find? p with | some x=>.inr (r x) | none=>.inl ())
 | [],_,_,_=>rfl
 | x :: xs,i,f,h=>by
  have h0:=h i x (by simp)
  cases hp:p x with
  | true=>simp [q2I,h0.1 hp,List.find?,hp]
  | false=>
   have ih:=z0U (p:=p) (r:=r) (xs:=xs) (i:=i+1) (f:=f) fun k y hy=>h k y (by simp [hy])
   simp [q2I,h0.2 hp,List.find?,hp,ih]
theorem q8B {α β:Type}{p:α→Bool}{g:Nat→α→β}{B:Nat}{f:Nat→α→List β→Option (List β)}(hf:∀ k x s,s.length < B→f k x s=some (if p x=true then s++[g k x] else s)):∀ (xs:List α) (i:Nat) (s:List β),s.length+xs.length≤B →
  ∃ ys,q2G f i xs s=some (s++ys)∧ys.length≤xs.length
 | [],i,s,_=>⟨[],by simp [q2G],by simp⟩
 | x :: xs,i,s,h=>by
  simp only [List.length_cons] at h
  by_cases hp:p x=true
  ·obtain⟨ys,h1,h2⟩:=q8B hf xs (i+1) (s++[g i x]) (by simp; omega)
   exact⟨g i x :: ys,by simp [q2G,hf i x s (by omega),hp,h1],by simp; omega⟩
  ·obtain⟨ys,h1,h2⟩:=q8B hf xs (i+1) s (by omega)
   exact⟨ys,by simp [q2G,hf i x s (by omega),hp,h1],by simp; omega⟩
theorem z4o (x lo hi:Int):q4r x lo hi=some (decide (lo≤x∧x≤hi)):=by
 unfold q4r; split<;>simp_all<;>omega
theorem z7u (x lo hi:Int):q2P x lo hi=some (decide (lo≤x∧x≤hi)):=by
 unfold q2P; split<;>simp_all<;>omega
theorem z6Y (r:Rule)(k:Int):q6f r k=q5g r k:=by
 unfold q6f q5g; rw [z4o,z7u]
def z6Z (a:Attribute):Bool:=decide (a.Mode=1∨a.Mode=2)
theorem j0e:z1l=q4w:=rfl
theorem z4S:q3B=q4y:=rfl
theorem j6a {g:Grammar}(h:∀ y∈g.Symbols,y.Attributes.length≤1048576)(s:ByteArray):∃ y b,q4M g s=some (y,b)∧q4R g s=some (y,b)∧y.Attributes.length≤1048576:=by
 have h1:=z0U (p:=fun y:Symbol=>decide (y.Name=s)) (r:=fun y=>(y,true)) (xs:=g.Symbols) (i:=0) (f:=q7Y s) fun k y hy=>by
  have hg:q8x y=some y:=by
   unfold q8x; have:=h y hy; rw [q2B (by simp only [List.length_nil]; constructor<;>omega)]
  unfold q7Y; rw [hg]; constructor<;>intro hp<;>simp_all
 have h2:=z0U (p:=fun y:Symbol=>decide (y.Name=s)) (r:=fun y=>(y,true)) (xs:=g.Symbols) (i:=0) (f:=q8b s) fun k y hy=>by
  unfold q8b; constructor<;>intro hp<;>simp_all
 unfold q4M q4R
 rw [h1,h2]
 cases hf:g.Symbols.find? (fun y:Symbol=>decide (y.Name=s)) with
 | none=>exact⟨_,_,rfl,rfl,by simp⟩
 | some y=>exact⟨_,_,rfl,rfl,h y (List.mem_of_find?_eq_some hf)⟩
theorem z2E {g:Grammar}(h:∀ y∈g.Symbols,y.Attributes.length≤1048576)(s:ByteArray):∃ l,q4l g s=some l∧q3h g s=some l∧l.length≤1048576:=by
 obtain⟨y,b,h1,h2,h3⟩:=j6a h s
 obtain⟨l,h4,h5⟩:=q8B (p:=z6Z) (g:=fun _ x=>x) (B:=1048577) (f:=q4w) (fun k x s hs=>by
  have hg:((s.length:Int)+1)*40≤140737488355328∧(s.length:Int)+1≤9223372036854775807:=by constructor<;>omega
  unfold q4w z6Z
  rw [q2B hg]
  by_cases m1:x.Mode=1
  ·rw [if_pos m1,if_pos (by simp [m1])]; rfl
  ·rw [if_neg m1]
   by_cases m2:x.Mode=2
   ·rw [if_pos m2,if_pos (by simp [m2])]; rfl
   ·rw [if_neg m2,if_neg (by simp [m1,m2])]; rfl) y.Attributes 0 [] (by simp; omega)
 simp only [List.nil_append] at h4
 refine⟨l,?_,?_,by omega⟩
 ·unfold q4l; rw [h1]; dsimp only [Option.bind_some]; rw [h4]; rfl
 ·unfold q3h; rw [h2]; dsimp only [Option.bind_some]; rw [j0e,h4]; rfl
theorem j0f (r:Rule)(k:Nat)(hk:k≤r.Right.length)(hl:r.Right.length≤1048576):∃ x,q5g r (k:Int)=some x:=by
 unfold q5g
 by_cases h0:(k:Int)=0
 ·exact⟨_,if_pos h0⟩
 ·rw [if_neg h0,z4o,Option.bind_some,if_pos (by simp; omega),q2B (by constructor<;>omega),q2B (by omega)]
  obtain⟨x,hx⟩:∃ x,r.Right[((k:Int) - 1).toNat]? = some x:=⟨_,List.getElem?_eq_getElem (by omega)⟩
  exact⟨x,by rw [hx]; rfl⟩
theorem j6b (k:Nat)(B:Nat)(hB:B≤4398046511104):∀ (l:List Attribute) (i:Nat) (s:List Occurrence),s.length+l.length≤B→∃ ys,q2G (q4E k) i l s=some (s++ys)∧ys.length≤l.length:=fun l i s h=>
 q8B (p:=fun _=>true) (g:=fun _ x=>(⟨(k:Int),x.Name⟩:Occurrence)) (B:=B) (f:=q4E k) (fun j x s hs=>by
  have hg:((s.length:Int)+1)*24≤140737488355328∧(s.length:Int)+1≤9223372036854775807:=by constructor<;>omega
  unfold q4E
  rw [q2B hg,if_pos rfl]) l i s h
theorem j3T (k:Nat):z2t (k:Int)=q4E k:=rfl
theorem z8e {g:Grammar}{r:Rule}(h:∀ y∈g.Symbols,y.Attributes.length≤1048576)(hr:r.Right.length≤1048576):∃ l,q4V g r=some l∧q4e g r=some l∧l.length≤1099512676352:=by
 have key:∀ m k (s:List Occurrence),k+m=r.Right.length+1→s.length≤k*1048576→∃ l,q7u (q2Z g r) k m s=some l∧q5u (q3J g r) (s,(k:Int))=some l∧l.length≤(k+m)*1048576:=by
  intro m
  induction m with
  | zero=>
   intro k s hk hs
   refine⟨s,rfl,q2X ?_,by simpa using hs⟩
   unfold q3J; dsimp only; rw [if_neg (by omega)]
  | succ m ih=>
   intro k s hk hs
   obtain⟨x,hx⟩:=j0f r k (by omega) hr
   obtain⟨p,hp1,hp2,hp3⟩:=z2E h x
   obtain⟨ys,hy1,hy2⟩:=j6b k 4398046511104 (by omega) p 0 s (by omega)
   obtain⟨l,h1,h2,h3⟩:=ih (k+1) (s++ys) (by omega) (by simp; omega)
   refine⟨l,?_,?_,by rw [show k+(m+1)=k+1+m by omega]; exact h3⟩
   ·have e:q2Z g r k s=some (s++ys):=by
     unfold q2Z; rw [z6Y,hx,Option.bind_some,hp2,Option.bind_some,hy1]; rfl
    simp only [q7u,e,Option.bind_some]; exact h1
   ·have e:q3J g r (s,(k:Int))=some (.inl (s++ys,((k+1:Nat):Int))):=by
     unfold q3J; dsimp only
     rw [if_pos (by omega),hx,Option.bind_some,hp1,Option.bind_some,j3T,hy1,Option.bind_some,q2B (by constructor<;>omega)]; rfl
    rw [q3V e]; exact h2
 obtain⟨l,h1,h2,h3⟩:=key (r.Right.length+1) 0 [] (by omega) (by simp)
 refine⟨l,?_,?_,by omega⟩
 ·unfold q4V
  have e:q5u (q3J g r) (([]:List Occurrence),0)=some l:=h2
  rw [e]; rfl
 ·unfold q4e
  rw [q2B (by constructor<;>omega),h1]; rfl
theorem j7P {g:Grammar}{r:Rule}(k:Int)(h:∀ y∈g.Symbols,y.Attributes.length≤1048576)(hr:r.Right.length≤1048576):∃ l,q5q g r k=some l∧q3P g r k=some l∧l.length≤1099512676352:=by
 obtain⟨o,h1,h2,h3⟩:=z8e h hr
 obtain⟨l,h4,h5⟩:=q8B (p:=fun x:Occurrence=>decide (x.Pos=k)) (g:=fun i _=>((i:Nat):Int)) (B:=4398046511104) (f:=q4y k) (fun i x s hs=>by
  have hg:((s.length:Int)+1)*8≤140737488355328∧(s.length:Int)+1≤9223372036854775807:=by constructor<;>omega
  unfold q4y
  rw [q2B hg]
  by_cases m1:x.Pos=k
  ·rw [if_pos m1,if_pos (by simp [m1])]; rfl
  ·rw [if_neg m1,if_neg (by simp [m1])]; rfl) o 0 [] (by simp; omega)
 simp only [List.nil_append] at h4
 refine⟨l,?_,?_,by omega⟩
 ·unfold q5q; rw [h1]; dsimp only [Option.bind_some]; rw [h4]; rfl
 ·unfold q3P; rw [h2]; dsimp only [Option.bind_some]; rw [z4S,h4]; rfl
theorem j6c {α:Type}[Sz α]{x:α}:∀ {l:List α},x∈l→Sz.szd x≤szL l
 | [],h=>by simp at h
 | y :: l,h=>by
  rcases List.mem_cons.1 h with rfl | h
  ·simp only [szL]; omega
  ·have:=j6c h; simp only [szL]; omega
theorem z2h {g:Grammar}(h:Sz.szd g≤1048576):∀ y∈g.Symbols,y.Attributes.length≤1048576:=fun y hy=>by
 have h1:=j6c hy
 have h2:=j0b y
 have h3:=z0X g
 have h4:=q4n y.Attributes
 omega
theorem q6R {r:Rule}(h:Sz.szd r≤1048576):r.Right.length≤1048576:=by
 have h1:=z4y r
 have h2:=q4n r.Right
 omega
end Go.Proofs.YtmblndlpkpaobabGreat
