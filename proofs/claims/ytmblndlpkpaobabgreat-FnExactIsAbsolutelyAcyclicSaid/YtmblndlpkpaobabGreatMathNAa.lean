/- What those partial functions come to: plain lemmas on data; each bears its conditions in its statement. -/
import Derived.Test.YtmblndlpkpaobabGreatMathM7a
import Derived.Test.YtmblndlpkpaobabGreatMathMCa
set_option linter.unusedVariables false
set_option linter.unusedSimpArgs false
set_option linter.ambiguousOpen false
set_option linter.unusedSectionVars false
set_option linter.unnecessarySimpa false
set_option linter.unusedVariables false
set_option linter.unusedSimpArgs false
namespace Go.Proofs.YtmblndlpkpaobabGreat
open Go Go.E
theorem z2I {α β:Type}{p:α→Bool}{g:α→β}{B:Nat}{f:Nat→α→List β→Option (List β)}(hf:∀ k x s,s.length < B→f k x s=some (if p x=true then s++[g x] else s)):∀ (xs:List α) (i:Nat) (s:List β),s.length+xs.length≤B →
  q2G f i xs s=some (s++(xs.filter p).map g)
 | [],i,s,_=>by simp [q2G]
 | x :: xs,i,s,h=>by
  simp only [List.length_cons] at h
  by_cases hp:p x=true
  ·have ih:=z2I hf xs (i+1) (s++[g x]) (by simp; omega)
   simp [q2G,hf i x s (by omega),hp,ih]
  ·have ih:=z2I hf xs (i+1) s (by omega)
   simp [q2G,hf i x s (by omega),hp,ih]
theorem z9k {α β:Type}{p:α→Bool}{g:Nat→β}{B:Nat}{f:Nat→α→List β→Option (List β)}(hf:∀ k x s,s.length < B→f k x s=some (if p x=true then s++[g k] else s)):∀ (xs:List α) (i:Nat) (s:List β),s.length+xs.length≤B →
  q2G f i xs s=some (s++((xs.zipIdx i).filter fun q=>p q.1).map fun q=>g q.2)
 | [],i,s,_=>by simp [q2G]
 | x :: xs,i,s,h=>by
  simp only [List.length_cons] at h
  by_cases hp:p x=true
  ·have ih:=z9k hf xs (i+1) (s++[g i]) (by simp; omega)
   simp [q2G,hf i x s (by omega),hp,ih,List.zipIdx_cons]
  ·have ih:=z9k hf xs (i+1) s (by omega)
   simp [q2G,hf i x s (by omega),hp,ih,List.zipIdx_cons]
theorem z7g {β:Type}{h:Nat→List β}{C n:Nat}{f:Nat→List β→Option (List β)}(hf:∀ k s,k < n→s.length≤k*C→f k s=some (s++h k))(hh:∀ k,k < n→(h k).length≤C) :
  ∀ (m k:Nat) (s:List β),k+m=n→s.length≤k*C→q7u f k m s=some (s++(List.range' k m).flatMap h)
 | 0,k,s,_,_=>by simp [q7u]
 | m+1,k,s,hk,hs=>by
  have hl:=hh k (by omega)
  have e:(k+1)*C=k*C+C:=Nat.succ_mul k C
  have ih:=z7g hf hh m (k+1) (s++h k) (by omega) (by rw [List.length_append]; omega)
  simp [q7u,hf k s (by omega) hs,ih,List.range'_succ]
theorem z9l {β:Type}{h:Nat→List β}{C n:Nat}{f:(List β × Int)→Option ((List β × Int) ⊕ List β)}(hf:∀ (k:Nat) s,k < n→s.length≤k*C→f (s,(k:Int))=some (.inl (s++h k,((k+1:Nat):Int))))(he:∀ s,f (s,(n:Int))=some (.inr s))(hh:∀ k,k < n→(h k).length≤C) :
  ∀ (m k:Nat) (s:List β),k+m=n→s.length≤k*C→q5u f (s,(k:Int))=some (s++(List.range' k m).flatMap h)
 | 0,k,s,hk,_=>by
  obtain rfl:k=n:=by omega
  rw [q2X (he s)]; simp
 | m+1,k,s,hk,hs=>by
  have hl:=hh k (by omega)
  have e:(k+1)*C=k*C+C:=Nat.succ_mul k C
  have ih:=z9l hf he hh m (k+1) (s++h k) (by omega) (by rw [List.length_append]; omega)
  rw [q3V (hf k s (by omega) hs),ih]; simp [List.range'_succ]
abbrev GOk (g:Grammar):Prop:=∀ y∈g.Symbols,y.Attributes.length≤1048576
def zS:Symbol:=⟨⟨#[]⟩,[]⟩
def zA:Attribute:=⟨⟨#[]⟩,0,0,false⟩
def q6z (g:Grammar)(s:ByteArray):Symbol × Bool:=match g.Symbols.find? fun y=>decide (y.Name=s) with
 | some y=>(y,true)
 | none=>(zS,false)
def z2J (y:Symbol)(s:ByteArray):Attribute × Bool:=match y.Attributes.find? fun a=>decide (a.Name=s) with
 | some a=>(a,true)
 | none=>(zA,false)
theorem z2K {g:Grammar}(h:GOk g)(s:ByteArray):q4M g s=some (q6z g s):=by
 have h1:=z0U (p:=fun y:Symbol=>decide (y.Name=s)) (r:=fun y=>(y,true)) (xs:=g.Symbols) (i:=0) (f:=q7Y s) fun k y hy=>by
  have hg:q8x y=some y:=by
   unfold q8x; have:=h y hy; rw [q2B (by simp only [List.length_nil]; constructor<;>omega)]
  unfold q7Y; rw [hg]; constructor<;>intro hp<;>simp_all
 unfold q4M q6z
 rw [h1]
 cases hf:g.Symbols.find? (fun y:Symbol=>decide (y.Name=s)) with
 | none=>rfl
 | some y=>rfl
theorem z1B (g:Grammar)(s:ByteArray):q4R g s=some (q6z g s):=by
 have h2:=z0U (p:=fun y:Symbol=>decide (y.Name=s)) (r:=fun y=>(y,true)) (xs:=g.Symbols) (i:=0) (f:=q8b s) fun k y hy=>by
  unfold q8b; constructor<;>intro hp<;>simp_all
 unfold q4R q6z
 rw [h2]
 cases hf:g.Symbols.find? (fun y:Symbol=>decide (y.Name=s)) with
 | none=>rfl
 | some y=>rfl
theorem z1C {g:Grammar}(h:GOk g)(s:ByteArray):(q6z g s).1.Attributes.length≤1048576:=by
 unfold q6z
 cases hf:g.Symbols.find? (fun y:Symbol=>decide (y.Name=s)) with
 | none=>simp [zS]
 | some y=>exact h y (List.mem_of_find?_eq_some hf)
theorem z6u (y:Symbol)(s:ByteArray):q5W y s=some (z2J y s):=by
 have h2:=z0U (p:=fun y:Attribute=>decide (y.Name=s)) (r:=fun y=>(y,true)) (xs:=y.Attributes) (i:=0) (f:=q9v s) fun k y hy=>by
  unfold q9v; constructor<;>intro hp<;>simp_all
 unfold q5W z2J
 rw [h2]
 cases hf:y.Attributes.find? (fun y:Attribute=>decide (y.Name=s)) with
 | none=>rfl
 | some y=>rfl
theorem z9m (y:Symbol)(s:ByteArray):q6U y s=some (z2J y s):=z6u y s
def q7W (r:Rule)(k:Int):ByteArray:=if k=0 then r.Left else if 1≤k∧k≤(r.Right.length:Int) then r.Right.getD (k - 1).toNat ⟨#[]⟩ else ⟨#[]⟩
abbrev ROk (r:Rule):Prop:=r.Right.length≤1048576
theorem z5B {r:Rule}(hl:ROk r)(k:Int):q5g r k=some (q7W r k):=by
 unfold q5g q7W
 by_cases h0:k=0
 ·rw [if_pos h0,if_pos h0]
 ·rw [if_neg h0,if_neg h0,z4o,Option.bind_some]
  by_cases h1:1≤k∧k≤(r.Right.length:Int)
  ·rw [if_pos (by simpa using h1),if_pos h1,q2B (by constructor<;>omega),q2B (by omega)]
   have:(k - 1).toNat < r.Right.length:=by omega
   rw [List.getElem?_eq_getElem this,List.getD_eq_getElem?_getD,List.getElem?_eq_getElem this]; rfl
  ·rw [if_neg (by simpa using h1),if_neg h1]
theorem z9n {r:Rule}(hl:ROk r)(k:Int):q6f r k=some (q7W r k):=by rw [z6Y,z5B hl]
def q9j (g:Grammar)(r:Rule)(o:Occurrence):Attribute × Bool:=if 0≤o.Pos∧o.Pos≤(r.Right.length:Int) then z2J (q6z g (q7W r o.Pos)).1 o.Name else (zA,false)
theorem z7h (g:Grammar){r:Rule}(hl:ROk r)(o:Occurrence):q7g g r o=some (q9j g r o):=by
 unfold q7g q9j
 rw [z7u,Option.bind_some]
 by_cases h0:0≤o.Pos∧o.Pos≤(r.Right.length:Int)
 ·rw [if_pos (by simpa using h0),if_pos h0,z9n hl,Option.bind_some,z1B,Option.bind_some]
  dsimp only
  rw [z6u]; rfl
 ·rw [if_neg (by simpa using h0),if_neg h0]; rfl
def mayB (g:Grammar)(r:Rule)(o:Occurrence):Bool:=(q9j g r o).2&&decide ((q9j g r o).1.Mode=if o.Pos=0 then 1 else 2)
theorem k0q (g:Grammar){r:Rule}(hl:ROk r)(o:Occurrence):z6g g r o=some (mayB g r o):=by
 unfold z6g mayB
 rw [z7h g hl,Option.bind_some]
 dsimp only
 by_cases h0:o.Pos=0
 ·rw [if_pos h0,if_pos h0]
  by_cases h1:(q9j g r o).2=true
  ·rw [if_pos h1,h1]; rfl
  ·rw [if_neg h1,Bool.eq_false_iff.2 h1]; rfl
 ·rw [if_neg h0,if_neg h0]
  by_cases h1:(q9j g r o).2=true
  ·rw [if_pos h1,h1]; rfl
  ·rw [if_neg h1,Bool.eq_false_iff.2 h1]; rfl
theorem k0r {g:Grammar}(h:GOk g){r:Rule}(hl:ROk r)(o:Occurrence):z6a g r o=some (mayB g r o):=by
 unfold z6a mayB q9j
 rw [z4o,Option.bind_some]
 by_cases hp:0≤o.Pos∧o.Pos≤(r.Right.length:Int)
 ·rw [if_pos (by simpa using hp),if_pos hp,z5B hl,Option.bind_some,z2K h,Option.bind_some]
  dsimp only
  rw [z9m,Option.bind_some]
  skip
  by_cases h0:o.Pos=0
  ·rw [if_pos h0,if_pos h0]
   by_cases h1:(z2J (q6z g (q7W r o.Pos)).1 o.Name).2=true
   ·rw [if_pos h1,h1]; rfl
   ·rw [if_neg h1,Bool.eq_false_iff.2 h1]; rfl
  ·rw [if_neg h0,if_neg h0]
   by_cases h1:(z2J (q6z g (q7W r o.Pos)).1 o.Name).2=true
   ·rw [if_pos h1,h1]; rfl
   ·rw [if_neg h1,Bool.eq_false_iff.2 h1]; rfl
 ·rw [if_neg (by simpa using hp),if_neg hp]; rfl
def reqK (g:Grammar)(r:Rule)(k:Nat):List Occurrence:=((q6z g (q7W r (k:Int))).1.Attributes.filter fun a=>decide (a.Mode=if (k:Int)=0 then 2 else 1)).map fun a=>(⟨(k:Int),a.Name⟩:Occurrence)
def reqL (g:Grammar)(r:Rule):List Occurrence:=(List.range' 0 (r.Right.length+1)).flatMap (reqK g r)
theorem j4e {g:Grammar}(h:GOk g)(r:Rule)(k:Nat):(reqK g r k).length≤1048576:=by
 unfold reqK; rw [List.length_map]
 exact Nat.le_trans (List.length_filter_le _ _) (z1C h _)
theorem j6A {g:Grammar}(h:GOk g){r:Rule}(hl:ROk r):z1i g r=some (reqL g r):=by
 have hl' : r.Right.length≤1048576:=hl
 have key:=z7g (h:=reqK g r) (C:=1048576) (n:=r.Right.length+1) (f:=z3W g r) (fun k s hk hs=>by
  have hin:∀ m:Int,q2G (z3V k m) 0 (q6z g (q7W r (k:Int))).1.Attributes s=some (s++((q6z g (q7W r (k:Int))).1.Attributes.filter fun a=>decide (a.Mode=m)).map fun a=>(⟨(k:Int),a.Name⟩:Occurrence)):=fun m=>
   z2I (B:=4398046511104) (fun j x s hs=>by
    unfold z3V
    by_cases hm:x.Mode=m
    ·rw [if_pos hm,if_pos (by simpa using hm),q2B (by constructor<;>omega)]; rfl
    ·rw [if_neg hm,if_neg (by simpa using hm)]; rfl) _ 0 s (by have:=z1C h (q7W r (k:Int)); omega)
  unfold z3W reqK
  by_cases h0:(k:Int)=0
  ·rw [if_pos h0,if_pos h0,Option.bind_some,z9n hl,Option.bind_some,z1B,Option.bind_some]
   dsimp only
   rw [hin]; rfl
  ·rw [if_neg h0,if_neg h0,Option.bind_some,z9n hl,Option.bind_some,z1B,Option.bind_some]
   dsimp only
   rw [hin]; rfl) (fun k _=>j4e h r k) (r.Right.length+1) 0 [] (by omega) (by simp)
 unfold z1i
 rw [q2B (by constructor<;>omega),key]; rfl
theorem j6B {g:Grammar}(h:GOk g){r:Rule}(hl:ROk r):q4Y g r=some (reqL g r):=by
 have hl' : r.Right.length≤1048576:=hl
 have key:=z9l (h:=reqK g r) (C:=1048576) (n:=r.Right.length+1) (f:=q4N g r) (fun k s hk hs=>by
  have hin2:q2G (q6J (k:Int)) 0 (q6z g (q7W r (k:Int))).1.Attributes s=some (s++((q6z g (q7W r (k:Int))).1.Attributes.filter fun a=>decide (a.Mode=2)).map fun a=>(⟨(k:Int),a.Name⟩:Occurrence)):=
   z2I (B:=4398046511104) (fun j x s hs=>by
    unfold q6J
    by_cases hm:x.Mode=2
    ·rw [if_pos hm,if_pos (by simpa using hm),q2B (by constructor<;>omega)]; rfl
    ·rw [if_neg hm,if_neg (by simpa using hm)]; rfl) _ 0 s (by have:=z1C h (q7W r (k:Int)); omega)
  have hin1:q2G (q6K (k:Int)) 0 (q6z g (q7W r (k:Int))).1.Attributes s=some (s++((q6z g (q7W r (k:Int))).1.Attributes.filter fun a=>decide (a.Mode=1)).map fun a=>(⟨(k:Int),a.Name⟩:Occurrence)):=
   z2I (B:=4398046511104) (fun j x s hs=>by
    unfold q6K
    by_cases hm:x.Mode=1
    ·rw [if_pos hm,if_pos (by simpa using hm),q2B (by constructor<;>omega)]; rfl
    ·rw [if_neg hm,if_neg (by simpa using hm)]; rfl) _ 0 s (by have:=z1C h (q7W r (k:Int)); omega)
  unfold q4N reqK
  dsimp only
  rw [if_pos (by omega),z5B hl,Option.bind_some,z2K h,Option.bind_some]
  skip
  by_cases h0:(k:Int)=0
  ·rw [if_pos h0,if_pos h0,hin2,Option.bind_some,Option.bind_some,q2B (by constructor<;>omega)]; rfl
  ·rw [if_neg h0,if_neg h0,hin1,Option.bind_some,Option.bind_some,q2B (by constructor<;>omega)]; rfl) (fun s=>by
  unfold q4N; dsimp only; rw [if_neg (by omega)]) (fun k _=>j4e h r k) (r.Right.length+1) 0 [] (by omega) (by simp)
 unfold q4Y
 have e:q5u (q4N g r) (([]:List Occurrence),0)=some ([]++(List.range' 0 (r.Right.length+1)).flatMap (reqK g r)):=key
 rw [e]; rfl
end Go.Proofs.YtmblndlpkpaobabGreat
