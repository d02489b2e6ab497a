/- What those partial functions come to: plain lemmas on data; each bears its conditions in its statement. -/
import Derived.Test.YteefempppabmkacGreatMathM7c
import Derived.Test.YteefempppabmkacGreatMathMCc
set_option linter.unusedVariables false
set_option linter.unusedSimpArgs false
set_option linter.ambiguousOpen false
set_option linter.unusedSectionVars false
set_option linter.unnecessarySimpa false
set_option linter.unusedVariables false
set_option linter.unusedSimpArgs false
namespace Go.Proofs.YteefempppabmkacGreat
open Go Go.E
theorem z4p {α β:Type}{p:α→Bool}{g:α→β}{B:Nat}{f:Nat→α→List β→Option (List β)}(hf:∀ k x s,s.length < B→f k x s=some (if p x=true then s++[g x] else s)):∀ (xs:List α) (i:Nat) (s:List β),s.length+xs.length≤B →
  q2J f i xs s=some (s++(xs.filter p).map g)
 | [],i,s,_=>by simp [q2J]
 | x :: xs,i,s,h=>by
  simp only [List.length_cons] at h
  by_cases hp:p x=true
  ·have ih:=z4p hf xs (i+1) (s++[g x]) (by simp; omega)
   simp [q2J,hf i x s (by omega),hp,ih]
  ·have ih:=z4p hf xs (i+1) s (by omega)
   simp [q2J,hf i x s (by omega),hp,ih]
theorem j0C {β:Type}{h:Nat→List β}{C n:Nat}{f:Nat→List β→Option (List β)}(hf:∀ k s,k < n→s.length≤k*C→f k s=some (s++h k))(hh:∀ k,k < n→(h k).length≤C) :
  ∀ (m k:Nat) (s:List β),k+m=n→s.length≤k*C→z7J f k m s=some (s++(List.range' k m).flatMap h)
 | 0,k,s,_,_=>by simp [z7J]
 | m+1,k,s,hk,hs=>by
  have hl:=hh k (by omega)
  have e:(k+1)*C=k*C+C:=Nat.succ_mul k C
  have ih:=j0C hf hh m (k+1) (s++h k) (by omega) (by rw [List.length_append]; omega)
  simp [z7J,hf k s (by omega) hs,ih,List.range'_succ]
theorem j2D {β:Type}{h:Nat→List β}{C n:Nat}{f:(List β × Int)→Option ((List β × Int) ⊕ List β)}(hf:∀ (k:Nat) s,k < n→s.length≤k*C→f (s,(k:Int))=some (.inl (s++h k,((k+1:Nat):Int))))(he:∀ s,f (s,(n:Int))=some (.inr s))(hh:∀ k,k < n→(h k).length≤C) :
  ∀ (m k:Nat) (s:List β),k+m=n→s.length≤k*C→q7k f (s,(k:Int))=some (s++(List.range' k m).flatMap h)
 | 0,k,s,hk,_=>by
  obtain rfl:k=n:=by omega
  rw [q3X (he s)]; simp
 | m+1,k,s,hk,hs=>by
  have hl:=hh k (by omega)
  have e:(k+1)*C=k*C+C:=Nat.succ_mul k C
  have ih:=j2D hf he hh m (k+1) (s++h k) (by omega) (by rw [List.length_append]; omega)
  rw [q5h (hf k s (by omega) hs),ih]; simp [List.range'_succ]
abbrev GOk (g:Grammar):Prop:=∀ y∈g.Symbols,y.Attributes.length≤1048576
def zS:Symbol:=⟨⟨#[]⟩,[]⟩
def zA:Attribute:=⟨⟨#[]⟩,0,0,false⟩
def q7V (g:Grammar)(s:ByteArray):Symbol × Bool:=match g.Symbols.find? fun y=>decide (y.Name=s) with
 | some y=>(y,true)
 | none=>(zS,false)
def z2g (y:Symbol)(s:ByteArray):Attribute × Bool:=match y.Attributes.find? fun a=>decide (a.Name=s) with
 | some a=>(a,true)
 | none=>(zA,false)
theorem z4q {g:Grammar}(h:GOk g)(s:ByteArray):q6g g s=some (q7V g s):=by
 have h1:=z4M (p:=fun y:Symbol=>decide (y.Name=s)) (r:=fun y=>(y,true)) (xs:=g.Symbols) (i:=0) (f:=z1X s) fun k y hy=>by
  have hg:z1C y=some y:=by
   unfold z1C; have:=h y hy; rw [q2q (by simp only [List.length_nil]; constructor<;>omega)]
  unfold z1X; rw [hg]; constructor<;>intro hp<;>simp_all
 unfold q6g q7V
 rw [h1]
 cases hf:g.Symbols.find? (fun y:Symbol=>decide (y.Name=s)) with
 | none=>rfl
 | some y=>rfl
theorem z2u (g:Grammar)(s:ByteArray):q6k g s=some (q7V g s):=by
 have h2:=z4M (p:=fun y:Symbol=>decide (y.Name=s)) (r:=fun y=>(y,true)) (xs:=g.Symbols) (i:=0) (f:=z2b s) fun k y hy=>by
  unfold z2b; constructor<;>intro hp<;>simp_all
 unfold q6k q7V
 rw [h2]
 cases hf:g.Symbols.find? (fun y:Symbol=>decide (y.Name=s)) with
 | none=>rfl
 | some y=>rfl
theorem z6C {g:Grammar}(h:GOk g)(s:ByteArray):(q7V g s).1.Attributes.length≤1048576:=by
 unfold q7V
 cases hf:g.Symbols.find? (fun y:Symbol=>decide (y.Name=s)) with
 | none=>simp [zS]
 | some y=>exact h y (List.mem_of_find?_eq_some hf)
theorem z6D (y:Symbol)(s:ByteArray):q6c y s=some (z2g y s):=by
 have h2:=z4M (p:=fun y:Attribute=>decide (y.Name=s)) (r:=fun y=>(y,true)) (xs:=y.Attributes) (i:=0) (f:=q9t s) fun k y hy=>by
  unfold q9t; constructor<;>intro hp<;>simp_all
 unfold q6c z2g
 rw [h2]
 cases hf:y.Attributes.find? (fun y:Attribute=>decide (y.Name=s)) with
 | none=>rfl
 | some y=>rfl
theorem z9C (y:Symbol)(s:ByteArray):q7b y s=some (z2g y s):=z6D y s
def z1u (r:Rule)(k:Int):ByteArray:=if k=0 then r.Left else if 1≤k∧k≤(r.Right.length:Int) then r.Right.getD (k - 1).toNat ⟨#[]⟩ else ⟨#[]⟩
abbrev ROk (r:Rule):Prop:=r.Right.length≤1048576
theorem z7p {r:Rule}(hl:ROk r)(k:Int):q4a r k=some (z1u r k):=by
 unfold q4a z1u
 by_cases h0:k=0
 ·rw [if_pos h0,if_pos h0]
 ·rw [if_neg h0,if_neg h0,z1n,Option.bind_some]
  by_cases h1:1≤k∧k≤(r.Right.length:Int)
  ·rw [if_pos (by simpa using h1),if_pos h1,q2q (by constructor<;>omega),q2q (by omega)]
   have:(k - 1).toNat < r.Right.length:=by omega
   rw [List.getElem?_eq_getElem this,List.getD_eq_getElem?_getD,List.getElem?_eq_getElem this]; rfl
  ·rw [if_neg (by simpa using h1),if_neg h1]
theorem j1E {r:Rule}(hl:ROk r)(k:Int):q6U r k=some (z1u r k):=by rw [j0x,z7p hl]
def q9j (g:Grammar)(r:Rule)(o:Occurrence):Attribute × Bool:=if 0≤o.Pos∧o.Pos≤(r.Right.length:Int) then z2g (q7V g (z1u r o.Pos)).1 o.Name else (zA,false)
theorem z7q (g:Grammar){r:Rule}(hl:ROk r)(o:Occurrence):q7j g r o=some (q9j g r o):=by
 unfold q7j q9j
 rw [z4Z,Option.bind_some]
 by_cases h0:0≤o.Pos∧o.Pos≤(r.Right.length:Int)
 ·rw [if_pos (by simpa using h0),if_pos h0,j1E hl,Option.bind_some,z2u,Option.bind_some]
  dsimp only
  rw [z6D]; rfl
 ·rw [if_neg (by simpa using h0),if_neg h0]; rfl
def mayB (g:Grammar)(r:Rule)(o:Occurrence):Bool:=(q9j g r o).2&&decide ((q9j g r o).1.Mode=if o.Pos=0 then 1 else 2)
theorem k0F (g:Grammar){r:Rule}(hl:ROk r)(o:Occurrence):z6r g r o=some (mayB g r o):=by
 unfold z6r mayB
 rw [z7q g hl,Option.bind_some]
 dsimp only
 by_cases h0:o.Pos=0
 ·rw [if_pos h0,if_pos h0]
  by_cases h1:(q9j g r o).2=true
  ·rw [if_pos h1,h1]; rfl
  ·rw [if_neg h1,Bool.eq_false_iff.2 h1]; rfl
 ·rw [if_neg h0,if_neg h0]
  by_cases h1:(q9j g r o).2=true
  ·rw [if_pos h1,h1]; rfl
  ·rw [if_neg h1,Bool.eq_false_iff.2 h1]; rfl
theorem k0G {g:Grammar}(h:GOk g){r:Rule}(hl:ROk r)(o:Occurrence):z6i g r o=some (mayB g r o):=by
 unfold z6i mayB q9j
 rw [z1n,Option.bind_some]
 by_cases hp:0≤o.Pos∧o.Pos≤(r.Right.length:Int)
 ·rw [if_pos (by simpa using hp),if_pos hp,z7p hl,Option.bind_some,z4q h,Option.bind_some]
  dsimp only
  rw [z9C,Option.bind_some]
  skip
  by_cases h0:o.Pos=0
  ·rw [if_pos h0,if_pos h0]
   by_cases h1:(z2g (q7V g (z1u r o.Pos)).1 o.Name).2=true
   ·rw [if_pos h1,h1]; rfl
   ·rw [if_neg h1,Bool.eq_false_iff.2 h1]; rfl
  ·rw [if_neg h0,if_neg h0]
   by_cases h1:(z2g (q7V g (z1u r o.Pos)).1 o.Name).2=true
   ·rw [if_pos h1,h1]; rfl
   ·rw [if_neg h1,Bool.eq_false_iff.2 h1]; rfl
 ·rw [if_neg (by simpa using hp),if_neg hp]; rfl
def reqK (g:Grammar)(r:Rule)(k:Nat):List Occurrence:=((q7V g (z1u r (k:Int))).1.Attributes.filter fun a=>decide (a.Mode=if (k:Int)=0 then 2 else 1)).map fun a=>(⟨(k:Int),a.Name⟩:Occurrence)
def reqL (g:Grammar)(r:Rule):List Occurrence:=(List.range' 0 (r.Right.length+1)).flatMap (reqK g r)
theorem j4F {g:Grammar}(h:GOk g)(r:Rule)(k:Nat):(reqK g r k).length≤1048576:=by
 unfold reqK; rw [List.length_map]
 exact Nat.le_trans (List.length_filter_le _ _) (z6C h _)
theorem j3S {g:Grammar}(h:GOk g){r:Rule}(hl:ROk r):q8r g r=some (reqL g r):=by
 have hl' : r.Right.length≤1048576:=hl
 have key:=j0C (h:=reqK g r) (C:=1048576) (n:=r.Right.length+1) (f:=z4c g r) (fun k s hk hs=>by
  have hin:∀ m:Int,q2J (z4b k m) 0 (q7V g (z1u r (k:Int))).1.Attributes s=some (s++((q7V g (z1u r (k:Int))).1.Attributes.filter fun a=>decide (a.Mode=m)).map fun a=>(⟨(k:Int),a.Name⟩:Occurrence)):=fun m=>
   z4p (B:=4398046511104) (fun j x s hs=>by
    unfold z4b
    by_cases hm:x.Mode=m
    ·rw [if_pos hm,if_pos (by simpa using hm),q2q (by constructor<;>omega)]; rfl
    ·rw [if_neg hm,if_neg (by simpa using hm)]; rfl) _ 0 s (by have:=z6C h (z1u r (k:Int)); omega)
  unfold z4c reqK
  by_cases h0:(k:Int)=0
  ·rw [if_pos h0,if_pos h0,Option.bind_some,j1E hl,Option.bind_some,z2u,Option.bind_some]
   dsimp only
   rw [hin]; rfl
  ·rw [if_neg h0,if_neg h0,Option.bind_some,j1E hl,Option.bind_some,z2u,Option.bind_some]
   dsimp only
   rw [hin]; rfl) (fun k _=>j4F h r k) (r.Right.length+1) 0 [] (by omega) (by simp)
 unfold q8r
 rw [q2q (by constructor<;>omega),key]; rfl
theorem j3T {g:Grammar}(h:GOk g){r:Rule}(hl:ROk r):q2y g r=some (reqL g r):=by
 have hl' : r.Right.length≤1048576:=hl
 have key:=j2D (h:=reqK g r) (C:=1048576) (n:=r.Right.length+1) (f:=q4x g r) (fun k s hk hs=>by
  have hin2:q2J (q6P (k:Int)) 0 (q7V g (z1u r (k:Int))).1.Attributes s=some (s++((q7V g (z1u r (k:Int))).1.Attributes.filter fun a=>decide (a.Mode=2)).map fun a=>(⟨(k:Int),a.Name⟩:Occurrence)):=
   z4p (B:=4398046511104) (fun j x s hs=>by
    unfold q6P
    by_cases hm:x.Mode=2
    ·rw [if_pos hm,if_pos (by simpa using hm),q2q (by constructor<;>omega)]; rfl
    ·rw [if_neg hm,if_neg (by simpa using hm)]; rfl) _ 0 s (by have:=z6C h (z1u r (k:Int)); omega)
  have hin1:q2J (q6Q (k:Int)) 0 (q7V g (z1u r (k:Int))).1.Attributes s=some (s++((q7V g (z1u r (k:Int))).1.Attributes.filter fun a=>decide (a.Mode=1)).map fun a=>(⟨(k:Int),a.Name⟩:Occurrence)):=
   z4p (B:=4398046511104) (fun j x s hs=>by
    unfold q6Q
    by_cases hm:x.Mode=1
    ·rw [if_pos hm,if_pos (by simpa using hm),q2q (by constructor<;>omega)]; rfl
    ·rw [if_neg hm,if_neg (by simpa using hm)]; rfl) _ 0 s (by have:=z6C h (z1u r (k:Int)); omega)
  unfold q4x reqK
  dsimp only
  rw [if_pos (by omega),z7p hl,Option.bind_some,z4q h,Option.bind_some]
  skip
  by_cases h0:(k:Int)=0
  ·rw [if_pos h0,if_pos h0,hin2,Option.bind_some,Option.bind_some,q2q (by constructor<;>omega)]; rfl
  ·rw [if_neg h0,if_neg h0,hin1,Option.bind_some,Option.bind_some,q2q (by constructor<;>omega)]; rfl) (fun s=>by
  unfold q4x; dsimp only; rw [if_neg (by omega)]) (fun k _=>j4F h r k) (r.Right.length+1) 0 [] (by omega) (by simp)
 unfold q2y
 have e:q7k (q4x g r) (([]:List Occurrence),0)=some ([]++(List.range' 0 (r.Right.length+1)).flatMap (reqK g r)):=key
 rw [e]; rfl
end Go.Proofs.YteefempppabmkacGreat
