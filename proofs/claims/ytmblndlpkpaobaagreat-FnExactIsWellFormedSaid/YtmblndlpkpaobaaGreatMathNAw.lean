/- What those partial functions come to: plain lemmas on data; each bears its conditions in its statement. -/
import Derived.Test.YtmblndlpkpaobaaGreatMathM7w
import Derived.Test.YtmblndlpkpaobaaGreatMathMCw
set_option linter.unusedVariables false
set_option linter.unusedSimpArgs false
set_option linter.ambiguousOpen false
set_option linter.unusedSectionVars false
set_option linter.unnecessarySimpa false
set_option linter.unusedVariables false
set_option linter.unusedSimpArgs false
namespace Go.Proofs.YtmblndlpkpaobaaGreat
open Go Go.E
theorem q8Z {α β:Type}{p:α→Bool}{g:α→β}{B:Nat}{f:Nat→α→List β→Option (List β)}(hf:∀ k x s,s.length < B→f k x s=some (if p x=true then s++[g x] else s)):∀ (xs:List α)(i:Nat)(s:List β),s.length+xs.length≤B →
  eachL f i xs s=some (s++(xs.filter p).map g)
 | [],i,s,_=>by simp [eachL]
 | x :: xs,i,s,h=>by
  simp only [List.length_cons] at h
  by_cases hp:p x=true
  ·have ih:=q8Z hf xs (i+1) (s++[g x]) (by simp; omega)
   simp [eachL,hf i x s (by omega),hp,ih]
  ·have ih:=q8Z hf xs (i+1) s (by omega)
   simp [eachL,hf i x s (by omega),hp,ih]
theorem z3F {β:Type}{h:Nat→List β}{C n:Nat}{f:Nat→List β→Option (List β)}(hf:∀ k s,k < n→s.length≤k*C→f k s=some (s++h k))(hh:∀ k,k < n→(h k).length≤C) :
  ∀ (m k:Nat) (s:List β),k+m=n→s.length≤k*C→eachN f k m s=some (s++(List.range' k m).flatMap h)
 | 0,k,s,_,_=>by simp [eachN]
 | m+1,k,s,hk,hs=>by
  have hl:=hh k (by omega)
  have e:(k+1)*C=k*C+C:=Nat.succ_mul k C
  have ih:=z3F hf hh m (k+1) (s++h k) (by omega) (by rw [List.length_append]; omega)
  simp [eachN,hf k s (by omega) hs,ih,List.range'_succ]
theorem z5i {β:Type}{h:Nat→List β}{C n:Nat}{f:(List β × Int)→Option ((List β × Int) ⊕ List β)}(hf:∀ (k:Nat) s,k < n→s.length≤k*C→f (s,(k:Int))=some (.inl (s++h k,((k+1:Nat):Int))))(he:∀ s,f (s,(n:Int))=some (.inr s))(hh:∀ k,k < n→(h k).length≤C) :
  ∀ (m k:Nat) (s:List β),k+m=n→s.length≤k*C→iterO f (s,(k:Int))=some (s++(List.range' k m).flatMap h)
 | 0,k,s,hk,_=>by
  obtain rfl:k=n:=by omega
  rw [q1t (he s)]; simp
 | m+1,k,s,hk,hs=>by
  have hl:=hh k (by omega)
  have e:(k+1)*C=k*C+C:=Nat.succ_mul k C
  have ih:=z5i hf he hh m (k+1) (s++h k) (by omega) (by rw [List.length_append]; omega)
  rw [q2b (hf k s (by omega) hs),ih]; simp [List.range'_succ]
abbrev GOk (g:Grammar):Prop:=∀ y∈g.Symbols,y.Attributes.length≤1048576
def zS:Symbol:=⟨⟨#[]⟩,[]⟩
def zA:Attribute:=⟨⟨#[]⟩,0,0,false⟩
def findS (g:Grammar)(s:ByteArray):Symbol × Bool:=match g.Symbols.find? fun y=>decide (y.Name=s) with
 | some y=>(y,true)
 | none=>(zS,false)
def findA (y:Symbol)(s:ByteArray):Attribute × Bool:=match y.Attributes.find? fun a=>decide (a.Name=s) with
 | some a=>(a,true)
 | none=>(zA,false)
theorem q9a {g:Grammar}(h:GOk g)(s:ByteArray):q1I g s=some (findS g s):=by
 have h1:=q5N (p:=fun y:Symbol=>decide (y.Name=s)) (r:=fun y=>(y,true)) (xs:=g.Symbols) (i:=0) (f:=q4M s) fun k y hy=>by
  have hg:q5i y=some y:=by
   unfold q5i; have:=h y hy; rw [q0d (by simp only [List.length_nil]; constructor<;>omega)]
  unfold q4M; rw [hg]; constructor<;>intro hp<;>simp_all
 unfold q1I findS
 rw [h1]
 cases hf:g.Symbols.find? (fun y:Symbol=>decide (y.Name=s)) with
 | none=>rfl
 | some y=>rfl
theorem q7N (g:Grammar)(s:ByteArray):q1Y g s=some (findS g s):=by
 have h2:=q5N (p:=fun y:Symbol=>decide (y.Name=s)) (r:=fun y=>(y,true)) (xs:=g.Symbols) (i:=0) (f:=q4O s) fun k y hy=>by
  unfold q4O; constructor<;>intro hp<;>simp_all
 unfold q1Y findS
 rw [h2]
 cases hf:g.Symbols.find? (fun y:Symbol=>decide (y.Name=s)) with
 | none=>rfl
 | some y=>rfl
theorem z0x {g:Grammar}(h:GOk g)(s:ByteArray):(findS g s).1.Attributes.length≤1048576:=by
 unfold findS
 cases hf:g.Symbols.find? (fun y:Symbol=>decide (y.Name=s)) with
 | none=>simp [zS]
 | some y=>exact h y (List.mem_of_find?_eq_some hf)
theorem z0y (y:Symbol)(s:ByteArray):q2c y s=some (findA y s):=by
 have h2:=q5N (p:=fun y:Attribute=>decide (y.Name=s)) (r:=fun y=>(y,true)) (xs:=y.Attributes) (i:=0) (f:=q5I s) fun k y hy=>by
  unfold q5I; constructor<;>intro hp<;>simp_all
 unfold q2c findA
 rw [h2]
 cases hf:y.Attributes.find? (fun y:Attribute=>decide (y.Name=s)) with
 | none=>rfl
 | some y=>rfl
theorem z2Q (y:Symbol)(s:ByteArray):q1J y s=some (findA y s):=z0y y s
def symAt (r:Rule)(k:Int):ByteArray:=if k=0 then r.Left else if 1≤k∧k≤(r.Right.length:Int) then r.Right.getD (k - 1).toNat ⟨#[]⟩ else ⟨#[]⟩
abbrev ROk (r:Rule):Prop:=r.Right.length≤1048576
theorem z1i {r:Rule}(hl:ROk r)(k:Int):q1V r k=some (symAt r k):=by
 unfold q1V symAt
 by_cases h0:k=0
 ·rw [if_pos h0,if_pos h0]
 ·rw [if_neg h0,if_neg h0,sIn_eq,Option.bind_some]
  by_cases h1:1≤k∧k≤(r.Right.length:Int)
  ·rw [if_pos (by simpa using h1),if_pos h1,q0d (by constructor<;>omega),q0d (by omega)]
   have:(k - 1).toNat < r.Right.length:=by omega
   rw [List.getElem?_eq_getElem this,List.getD_eq_getElem?_getD,List.getElem?_eq_getElem this]; rfl
  ·rw [if_neg (by simpa using h1),if_neg h1]
theorem z4q {r:Rule}(hl:ROk r)(k:Int):q4r r k=some (symAt r k):=by rw [q9p,z1i hl]
def attrAt (g:Grammar)(r:Rule)(o:Occurrence):Attribute × Bool:=if 0≤o.Pos∧o.Pos≤(r.Right.length:Int) then findA (findS g (symAt r o.Pos)).1 o.Name else (zA,false)
theorem z1j (g:Grammar){r:Rule}(hl:ROk r)(o:Occurrence):q2T g r o=some (attrAt g r o):=by
 unfold q2T attrAt
 rw [iIn_eq,Option.bind_some]
 by_cases h0:0≤o.Pos∧o.Pos≤(r.Right.length:Int)
 ·rw [if_pos (by simpa using h0),if_pos h0,z4q hl,Option.bind_some,q7N,Option.bind_some]
  dsimp only
  rw [z0y]; rfl
 ·rw [if_neg (by simpa using h0),if_neg h0]; rfl
def mayB (g:Grammar)(r:Rule)(o:Occurrence):Bool:=(attrAt g r o).2&&decide ((attrAt g r o).1.Mode=if o.Pos=0 then 1 else 2)
theorem j0q (g:Grammar){r:Rule}(hl:ROk r)(o:Occurrence):z0t g r o=some (mayB g r o):=by
 unfold z0t mayB
 rw [z1j g hl,Option.bind_some]
 dsimp only
 by_cases h0:o.Pos=0
 ·rw [if_pos h0,if_pos h0]
  by_cases h1:(attrAt g r o).2=true
  ·rw [if_pos h1,h1]; rfl
  ·rw [if_neg h1,Bool.eq_false_iff.2 h1]; rfl
 ·rw [if_neg h0,if_neg h0]
  by_cases h1:(attrAt g r o).2=true
  ·rw [if_pos h1,h1]; rfl
  ·rw [if_neg h1,Bool.eq_false_iff.2 h1]; rfl
theorem j0r {g:Grammar}(h:GOk g){r:Rule}(hl:ROk r)(o:Occurrence):z0n g r o=some (mayB g r o):=by
 unfold z0n mayB attrAt
 rw [sIn_eq,Option.bind_some]
 by_cases hp:0≤o.Pos∧o.Pos≤(r.Right.length:Int)
 ·rw [if_pos (by simpa using hp),if_pos hp,z1i hl,Option.bind_some,q9a h,Option.bind_some]
  dsimp only
  rw [z2Q,Option.bind_some]
  skip
  by_cases h0:o.Pos=0
  ·rw [if_pos h0,if_pos h0]
   by_cases h1:(findA (findS g (symAt r o.Pos)).1 o.Name).2=true
   ·rw [if_pos h1,h1]; rfl
   ·rw [if_neg h1,Bool.eq_false_iff.2 h1]; rfl
  ·rw [if_neg h0,if_neg h0]
   by_cases h1:(findA (findS g (symAt r o.Pos)).1 o.Name).2=true
   ·rw [if_pos h1,h1]; rfl
   ·rw [if_neg h1,Bool.eq_false_iff.2 h1]; rfl
 ·rw [if_neg (by simpa using hp),if_neg hp]; rfl
def reqK (g:Grammar)(r:Rule)(k:Nat):List Occurrence:=((findS g (symAt r (k:Int))).1.Attributes.filter fun a=>decide (a.Mode=if (k:Int)=0 then 2 else 1)).map fun a=>(⟨(k:Int),a.Name⟩:Occurrence)
def reqL (g:Grammar)(r:Rule):List Occurrence:=(List.range' 0 (r.Right.length+1)).flatMap (reqK g r)
theorem z6L {g:Grammar}(h:GOk g)(r:Rule)(k:Nat):(reqK g r k).length≤1048576:=by
 unfold reqK; rw [List.length_map]
 exact Nat.le_trans (List.length_filter_le _ _) (z0x h _)
theorem z8l {g:Grammar}(h:GOk g){r:Rule}(hl:ROk r):q6W g r=some (reqL g r):=by
 have hl' : r.Right.length≤1048576:=hl
 have key:=z3F (h:=reqK g r) (C:=1048576) (n:=r.Right.length+1) (f:=q8U g r) (fun k s hk hs=>by
  have hin:∀ m:Int,eachL (q8T k m) 0 (findS g (symAt r (k:Int))).1.Attributes s=some (s++((findS g (symAt r (k:Int))).1.Attributes.filter fun a=>decide (a.Mode=m)).map fun a=>(⟨(k:Int),a.Name⟩:Occurrence)):=fun m=>
   q8Z (B:=4398046511104) (fun j x s hs=>by
    unfold q8T
    by_cases hm:x.Mode=m
    ·rw [if_pos hm,if_pos (by simpa using hm),q0d (by constructor<;>omega)]; rfl
    ·rw [if_neg hm,if_neg (by simpa using hm)]; rfl) _ 0 s (by have:=z0x h (symAt r (k:Int)); omega)
  unfold q8U reqK
  by_cases h0:(k:Int)=0
  ·rw [if_pos h0,if_pos h0,Option.bind_some,z4q hl,Option.bind_some,q7N,Option.bind_some]
   dsimp only
   rw [hin]; rfl
  ·rw [if_neg h0,if_neg h0,Option.bind_some,z4q hl,Option.bind_some,q7N,Option.bind_some]
   dsimp only
   rw [hin]; rfl) (fun k _=>z6L h r k) (r.Right.length+1) 0 [] (by omega) (by simp)
 unfold q6W
 rw [q0d (by constructor<;>omega),key]; rfl
theorem z8m {g:Grammar}(h:GOk g){r:Rule}(hl:ROk r):q2g g r=some (reqL g r):=by
 have hl' : r.Right.length≤1048576:=hl
 have key:=z5i (h:=reqK g r) (C:=1048576) (n:=r.Right.length+1) (f:=q1W g r) (fun k s hk hs=>by
  have hin2:eachL (q3N (k:Int)) 0 (findS g (symAt r (k:Int))).1.Attributes s=some (s++((findS g (symAt r (k:Int))).1.Attributes.filter fun a=>decide (a.Mode=2)).map fun a=>(⟨(k:Int),a.Name⟩:Occurrence)):=
   q8Z (B:=4398046511104) (fun j x s hs=>by
    unfold q3N
    by_cases hm:x.Mode=2
    ·rw [if_pos hm,if_pos (by simpa using hm),q0d (by constructor<;>omega)]; rfl
    ·rw [if_neg hm,if_neg (by simpa using hm)]; rfl) _ 0 s (by have:=z0x h (symAt r (k:Int)); omega)
  have hin1:eachL (q3O (k:Int)) 0 (findS g (symAt r (k:Int))).1.Attributes s=some (s++((findS g (symAt r (k:Int))).1.Attributes.filter fun a=>decide (a.Mode=1)).map fun a=>(⟨(k:Int),a.Name⟩:Occurrence)):=
   q8Z (B:=4398046511104) (fun j x s hs=>by
    unfold q3O
    by_cases hm:x.Mode=1
    ·rw [if_pos hm,if_pos (by simpa using hm),q0d (by constructor<;>omega)]; rfl
    ·rw [if_neg hm,if_neg (by simpa using hm)]; rfl) _ 0 s (by have:=z0x h (symAt r (k:Int)); omega)
  unfold q1W reqK
  dsimp only
  rw [if_pos (by omega),z1i hl,Option.bind_some,q9a h,Option.bind_some]
  skip
  by_cases h0:(k:Int)=0
  ·rw [if_pos h0,if_pos h0,hin2,Option.bind_some,Option.bind_some,q0d (by constructor<;>omega)]; rfl
  ·rw [if_neg h0,if_neg h0,hin1,Option.bind_some,Option.bind_some,q0d (by constructor<;>omega)]; rfl) (fun s=>by
  unfold q1W; dsimp only; rw [if_neg (by omega)]) (fun k _=>z6L h r k) (r.Right.length+1) 0 [] (by omega) (by simp)
 unfold q2g
 have e:iterO (q1W g r) (([]:List Occurrence),0)=some ([]++(List.range' 0 (r.Right.length+1)).flatMap (reqK g r)):=key
 rw [e]; rfl
end Go.Proofs.YtmblndlpkpaobaaGreat
