/- What those partial functions come to: plain lemmas on data; each bears its conditions in its statement. -/
import Derived.Test.YtcegfmageiicaaaGreatEng6
set_option linter.unusedVariables false
set_option linter.unusedSimpArgs false
set_option linter.ambiguousOpen false
set_option linter.unusedSectionVars false
set_option linter.unnecessarySimpa false
set_option maxRecDepth 100000
set_option maxHeartbeats 4000000
noncomputable section
namespace Go.Proofs.YtcegfmageiicaaaGreat
open Go Go.E
open Go.E.Sz (szd)
instance:Sz Attribute where
 szd x:=x.Name.size
instance:Sz Symbol where
 szd x:=x.Name.size+szL x.Attributes
theorem j1L (x:Symbol):Sz.szd x=x.Name.size+szL x.Attributes:=rfl
instance:Sz Occurrence where
 szd x:=x.Name.size
theorem j5L (x:Occurrence):Sz.szd x=x.Name.size:=rfl
mutual
def z3n:Expr→Nat
 | ⟨a0,a1,a2,a3,a4,a5,a6⟩=>a4.size+a5.size+z5K a6
def z5K:List Expr→Nat
 | []=>0
 | x :: xs=>1+z3n x+z5K xs
end
instance:Sz Expr:=⟨z3n⟩
theorem k0u (a:List Expr):z5K a=szL a:=by
 induction a with
 | nil=>rfl
 | cons x xs ih=>simp only [z5K,szL,ih]; rfl
theorem q8U (x:Expr):Sz.szd x=x.Symbol.size+x.Name.size+szL x.Args:=by
 cases x; show z3n _=_; simp only [z3n,k0u]
instance:Sz Equation where
 szd x:=x.At.Name.size+x.Expr.Symbol.size+x.Expr.Name.size+szL x.Expr.Args
theorem z5L (x:Equation):Sz.szd x=x.At.Name.size+x.Expr.Symbol.size+x.Expr.Name.size+szL x.Expr.Args:=rfl
instance:Sz Contribution where
 szd x:=x.Symbol.size+x.Name.size+x.Target.Symbol.size+x.Target.Name.size+szL x.Target.Args+x.Value.Symbol.size+x.Value.Name.size+szL x.Value.Args
theorem z0N (x:Contribution):Sz.szd x=x.Symbol.size+x.Name.size+x.Target.Symbol.size+x.Target.Name.size+szL x.Target.Args+x.Value.Symbol.size+x.Value.Name.size+szL x.Value.Args:=rfl
instance:Sz Rule where
 szd x:=x.Name.size+x.Left.size+szL x.Right+szL x.Equations+szL x.Contributions
theorem z7x (x:Rule):Sz.szd x=x.Name.size+x.Left.size+szL x.Right+szL x.Equations+szL x.Contributions:=rfl
instance:Sz Grammar where
 szd x:=szL x.Symbols+szL x.Rules
theorem z0Z (x:Grammar):Sz.szd x=szL x.Symbols+szL x.Rules:=rfl
end Go.Proofs.YtcegfmageiicaaaGreat
namespace Go.Proofs.YtcegfmageiicaaaGreat
open Go Go.E
theorem z4t {α ρ:Type}{p:α→Bool}{r:α→ρ}:∀ {xs:List α} {i:Nat} {f:Nat→α→Unit→Option (Unit ⊕ ρ)},(∀ k x,x∈xs→(p x=true→f k x ()=some (.inr (r x)))∧(p x=false→f k x ()=some (.inl ()))) →
  findL f i xs ()=some (match xs.find? p with | some x=>.inr (r x) | none=>.inl ())
 | [],_,_,_=>rfl
 | x :: xs,i,f,h=>by
  have h0:=h i x (by simp)
  cases hp:p x with
  | true=>simp [findL,h0.1 hp,List.find?,hp]
  | false=>
   have ih:=z4t (p:=p) (r:=r) (xs:=xs) (i:=i+1) (f:=f) fun k y hy=>h k y (by simp [hy])
   simp [findL,h0.2 hp,List.find?,hp,ih]
theorem z1k {α β:Type}{p:α→Bool}{g:Nat→α→β}{B:Nat}{f:Nat→α→List β→Option (List β)}(hf:∀ k x s,s.length < B→f k x s=some (if p x=true then s++[g k x] else s)):∀ (xs:List α) (i:Nat) (s:List β),s.length+xs.length≤B →
  ∃ ys,eachL f i xs s=some (s++ys)∧ys.length≤xs.length
 | [],i,s,_=>⟨[],by simp [eachL],by simp⟩
 | x :: xs,i,s,h=>by
  simp only [List.length_cons] at h
  by_cases hp:p x=true
  ·obtain⟨ys,h1,h2⟩:=z1k hf xs (i+1) (s++[g i x]) (by simp; omega)
   exact⟨g i x :: ys,by simp [eachL,hf i x s (by omega),hp,h1],by simp; omega⟩
  ·obtain⟨ys,h1,h2⟩:=z1k hf xs (i+1) s (by omega)
   exact⟨ys,by simp [eachL,hf i x s (by omega),hp,h1],by simp; omega⟩
theorem z8T (x lo hi:Int):q5B x lo hi=some (decide (lo≤x∧x≤hi)):=by
 unfold q5B; split<;>simp_all<;>omega
theorem j2v (x lo hi:Int):q3Z x lo hi=some (decide (lo≤x∧x≤hi)):=by
 unfold q3Z; split<;>simp_all<;>omega
theorem j1M (r:Rule)(k:Int):q6A r k=q5C r k:=by
 unfold q6A q5C; rw [z8T,j2v]
def j1N (a:Attribute):Bool:=decide (a.Mode=1∨a.Mode=2)
theorem j6d:z4R=q5R:=rfl
theorem z9F:q5d=q5S:=rfl
theorem k4h {g:Grammar}(h:∀ y∈g.Symbols,y.Attributes.length≤1048576)(s:ByteArray):∃ y b,q5M g s=some (y,b)∧q5O g s=some (y,b)∧y.Attributes.length≤1048576:=by
 have h1:=z4t (p:=fun y:Symbol=>decide (y.Name=s)) (r:=fun y=>(y,true)) (xs:=g.Symbols) (i:=0) (f:=z0C s) fun k y hy=>by
  have hg:q9N y=some y:=by
   unfold q9N; have:=h y hy; rw [q3B (by simp only [List.length_nil]; constructor<;>omega)]
  unfold z0C; rw [hg]; constructor<;>intro hp<;>simp_all
 have h2:=z4t (p:=fun y:Symbol=>decide (y.Name=s)) (r:=fun y=>(y,true)) (xs:=g.Symbols) (i:=0) (f:=z0H s) fun k y hy=>by
  unfold z0H; constructor<;>intro hp<;>simp_all
 unfold q5M q5O
 rw [h1,h2]
 cases hf:g.Symbols.find? (fun y:Symbol=>decide (y.Name=s)) with
 | none=>exact⟨_,_,rfl,rfl,by simp⟩
 | some y=>exact⟨_,_,rfl,rfl,h y (List.mem_of_find?_eq_some hf)⟩
theorem z6J {g:Grammar}(h:∀ y∈g.Symbols,y.Attributes.length≤1048576)(s:ByteArray):∃ l,q4K g s=some l∧q4g g s=some l∧l.length≤1048576:=by
 obtain⟨y,b,h1,h2,h3⟩:=k4h h s
 obtain⟨l,h4,h5⟩:=z1k (p:=j1N) (g:=fun _ x=>x) (B:=1048577) (f:=q5R) (fun k x s hs=>by
  have hg:((s.length:Int)+1)*40≤140737488355328∧(s.length:Int)+1≤9223372036854775807:=by constructor<;>omega
  unfold q5R j1N
  rw [q3B hg]
  by_cases m1:x.Mode=1
  ·rw [if_pos m1,if_pos (by simp [m1])]; rfl
  ·rw [if_neg m1]
   by_cases m2:x.Mode=2
   ·rw [if_pos m2,if_pos (by simp [m2])]; rfl
   ·rw [if_neg m2,if_neg (by simp [m1,m2])]; rfl) y.Attributes 0 [] (by simp; omega)
 simp only [List.nil_append] at h4
 refine⟨l,?_,?_,by omega⟩
 ·unfold q4K; rw [h1]; dsimp only [Option.bind_some]; rw [h4]; rfl
 ·unfold q4g; rw [h2]; dsimp only [Option.bind_some]; rw [j6d,h4]; rfl
theorem j6e (r:Rule)(k:Nat)(hk:k≤r.Right.length)(hl:r.Right.length≤1048576):∃ x,q5C r (k:Int)=some x:=by
 unfold q5C
 by_cases h0:(k:Int)=0
 ·exact⟨_,if_pos h0⟩
 ·rw [if_neg h0,z8T,Option.bind_some,if_pos (by simp; omega),q3B (by constructor<;>omega),q3B (by omega)]
  obtain⟨x,hx⟩:∃ x,r.Right[((k:Int) - 1).toNat]? = some x:=⟨_,List.getElem?_eq_getElem (by omega)⟩
  exact⟨x,by rw [hx]; rfl⟩
theorem k4i (k:Nat)(B:Nat)(hB:B≤4398046511104):∀ (l:List Attribute) (i:Nat) (s:List Occurrence),s.length+l.length≤B→∃ ys,eachL (q5Z k) i l s=some (s++ys)∧ys.length≤l.length:=fun l i s h=>
 z1k (p:=fun _=>true) (g:=fun _ x=>(⟨(k:Int),x.Name⟩:Occurrence)) (B:=B) (f:=q5Z k) (fun j x s hs=>by
  have hg:((s.length:Int)+1)*24≤140737488355328∧(s.length:Int)+1≤9223372036854775807:=by constructor<;>omega
  unfold q5Z
  rw [q3B hg,if_pos rfl]) l i s h
theorem k1y (k:Nat):z6n (k:Int)=q5Z k:=rfl
theorem j3m {g:Grammar}{r:Rule}(h:∀ y∈g.Symbols,y.Attributes.length≤1048576)(hr:r.Right.length≤1048576):∃ l,q5N g r=some l∧q5f g r=some l∧l.length≤1099512676352:=by
 have key:∀ m k (s:List Occurrence),k+m=r.Right.length+1→s.length≤k*1048576→∃ l,eachN (q4s g r) k m s=some l∧q4i (q5l g r) (s,(k:Int))=some l∧l.length≤(k+m)*1048576:=by
  intro m
  induction m with
  | zero=>
   intro k s hk hs
   refine⟨s,rfl,q3E ?_,by simpa using hs⟩
   unfold q5l; dsimp only; rw [if_neg (by omega)]
  | succ m ih=>
   intro k s hk hs
   obtain⟨x,hx⟩:=j6e r k (by omega) hr
   obtain⟨p,hp1,hp2,hp3⟩:=z6J h x
   obtain⟨ys,hy1,hy2⟩:=k4i k 4398046511104 (by omega) p 0 s (by omega)
   obtain⟨l,h1,h2,h3⟩:=ih (k+1) (s++ys) (by omega) (by simp; omega)
   refine⟨l,?_,?_,by rw [show k+(m+1)=k+1+m by omega]; exact h3⟩
   ·have e:q4s g r k s=some (s++ys):=by
     unfold q4s; rw [j1M,hx,Option.bind_some,hp2,Option.bind_some,hy1]; rfl
    simp only [eachN,e,Option.bind_some]; exact h1
   ·have e:q5l g r (s,(k:Int))=some (.inl (s++ys,((k+1:Nat):Int))):=by
     unfold q5l; dsimp only
     rw [if_pos (by omega),hx,Option.bind_some,hp1,Option.bind_some,k1y,hy1,Option.bind_some,q3B (by constructor<;>omega)]; rfl
    rw [q3L e]; exact h2
 obtain⟨l,h1,h2,h3⟩:=key (r.Right.length+1) 0 [] (by omega) (by simp)
 refine⟨l,?_,?_,by omega⟩
 ·unfold q5N
  have e:q4i (q5l g r) (([]:List Occurrence),0)=some l:=h2
  rw [e]; rfl
 ·unfold q5f
  rw [q3B (by constructor<;>omega),h1]; rfl
theorem k6t {g:Grammar}{r:Rule}(k:Int)(h:∀ y∈g.Symbols,y.Attributes.length≤1048576)(hr:r.Right.length≤1048576):∃ l,q5o g r k=some l∧q4O g r k=some l∧l.length≤1099512676352:=by
 obtain⟨o,h1,h2,h3⟩:=j3m h hr
 obtain⟨l,h4,h5⟩:=z1k (p:=fun x:Occurrence=>decide (x.Pos=k)) (g:=fun i _=>((i:Nat):Int)) (B:=4398046511104) (f:=q5S k) (fun i x s hs=>by
  have hg:((s.length:Int)+1)*8≤140737488355328∧(s.length:Int)+1≤9223372036854775807:=by constructor<;>omega
  unfold q5S
  rw [q3B hg]
  by_cases m1:x.Pos=k
  ·rw [if_pos m1,if_pos (by simp [m1])]; rfl
  ·rw [if_neg m1,if_neg (by simp [m1])]; rfl) o 0 [] (by simp; omega)
 simp only [List.nil_append] at h4
 refine⟨l,?_,?_,by omega⟩
 ·unfold q5o; rw [h1]; dsimp only [Option.bind_some]; rw [h4]; rfl
 ·unfold q4O; rw [h2]; dsimp only [Option.bind_some]; rw [z9F,h4]; rfl
theorem k4j {α:Type}[Sz α]{x:α}:∀ {l:List α},x∈l→Sz.szd x≤szL l
 | [],h=>by simp at h
 | y :: l,h=>by
  rcases List.mem_cons.1 h with rfl | h
  ·simp only [szL]; omega
  ·have:=k4j h; simp only [szL]; omega
theorem q9v {g:Grammar}(h:Sz.szd g≤1048576):∀ y∈g.Symbols,y.Attributes.length≤1048576:=fun y hy=>by
 have h1:=k4j hy
 have h2:=j1L y
 have h3:=z0Z g
 have h4:=q5b y.Attributes
 omega
theorem q6c {r:Rule}(h:Sz.szd r≤1048576):r.Right.length≤1048576:=by
 have h1:=z7x r
 have h2:=q5b r.Right
 omega
end Go.Proofs.YtcegfmageiicaaaGreat
namespace Go.Proofs.YtcegfmageiicaaaGreat
open Go Go.E
def Valid (r:Relation):Prop:=0≤r.N∧r.N≤16∧(r.Rows.length:Int)=r.N∧∀ x∈r.Rows,0≤x∧x≤((2 ^ r.N.toNat:Nat):Int) - 1
instance (r:Relation):Decidable (Valid r):=by unfold Valid; infer_instance
def z8e (r:Relation)(i:Int):Int:=r.Rows.getD i.toNat 0
def bit (x:Int)(k:Int):Prop:=x.toNat >>> k.toNat &&& 1=1
instance (x k:Int):Decidable (bit x k):=by unfold bit; infer_instance
def inN (r:Relation)(i:Int):Prop:=0≤i∧i≤r.N - 1
instance (r:Relation) (i:Int):Decidable (inN r i):=by unfold inN; infer_instance
def hasP (r:Relation)(i k:Int):Prop:=Valid r∧inN r i∧inN r k∧bit (z8e r i) k
instance (r:Relation) (i k:Int):Decidable (hasP r i k):=by unfold hasP; infer_instance
def j4O (r:Relation)(i:Int)(x:Int):Relation:=⟨r.N,r.Rows.set i.toNat x⟩
def orI (x y:Int):Int:=((x.toNat ||| y.toNat:Nat):Int)
def addP (r:Relation)(i k:Int):Relation:=if Valid r∧inN r i∧inN r k then j4O r i (orI (z8e r i) ((2 ^ k.toNat:Nat):Int)) else r
theorem Valid.row {r:Relation}(h:Valid r){i:Int}(hi:inN r i){x:Int}(hx:r.Rows[i.toNat]? = some x):z8e r i=x∧0≤x∧x≤65535:=by
 have hm:=h.2.2.2 x (List.mem_of_getElem? hx)
 have hp:2 ^ r.N.toNat≤2 ^ 16:=Nat.pow_le_pow_right (by decide) (by have:=h.2.1; omega)
 refine⟨by unfold z8e; simp [hx],hm.1,by omega⟩
theorem x0A {n:Int}(h:n≤16):2 ^ n.toNat≤65536:=by
 have:2 ^ n.toNat≤2 ^ 16:=Nat.pow_le_pow_right (by decide) (by omega)
 simpa using this
theorem j7r (n:Int):1≤2 ^ n.toNat:=Nat.one_le_two_pow
theorem k4k {r:Relation}(h0:0≤r.N)(h1:r.N≤16)(h2:(r.Rows.length:Int)=r.N):decide (Valid r)=!(r.Rows.any fun x=>!decide (0≤x∧x≤((2 ^ r.N.toNat:Nat):Int) - 1)):=by
 by_cases hv:Valid r
 ·rw [decide_eq_true hv,eq_comm,Bool.not_eq_true',List.any_eq_false]
  intro x hx
  simp only [Bool.not_eq_true',decide_eq_false_iff_not,Decidable.not_not]
  exact hv.2.2.2 x hx
 ·rw [decide_eq_false hv,eq_comm,Bool.not_eq_false',List.any_eq_true]
  refine Classical.byContradiction fun hn=>hv ⟨h0,h1,h2,fun x hx=>Classical.byContradiction fun hb=>hn ⟨x,hx,?_⟩⟩
  rw [decide_eq_false hb]; rfl
theorem k7U {x k:Int}(h:(((((x.toNat >>> k.toNat:Nat):Int)).toNat &&& (1:Int).toNat:Nat):Int)=1):x.toNat >>> k.toNat &&& 1=1:=by
 have:(1:Int).toNat=1:=rfl
 rw [Int.toNat_natCast,this] at h
 exact_mod_cast h
theorem k7V {x k:Int}(h:x.toNat >>> k.toNat &&& 1=1):(((((x.toNat >>> k.toNat:Nat):Int)).toNat &&& (1:Int).toNat:Nat):Int)=1:=by
 have:(1:Int).toNat=1:=rfl
 rw [Int.toNat_natCast,this]
 exact_mod_cast h
theorem z2f (x lo hi:Int):q5B x lo hi=some (decide (lo≤x∧x≤hi)):=by
 unfold q5B; split<;>simp_all<;>omega
theorem z6K (x lo hi:Int):q3Z x lo hi=some (decide (lo≤x∧x≤hi)):=by
 unfold q3Z; split<;>simp_all<;>omega
theorem q6j (r:Relation):q4c r=some (decide (Valid r)):=by
 unfold q4c
 simp only [z2f,Option.bind_some,decide_eq_true_eq]
 by_cases h1:0≤r.N∧r.N≤16
 ·rw [if_pos h1]
  by_cases h2:(r.Rows.length:Int)=r.N
  ·rw [if_pos h2]
   have key:=j1b (c:=false) (n:=r.N.toNat) (i:=0) (p:=fun k=>∃ x,r.Rows[k]? = some x∧¬ (0≤x∧x≤((2 ^ r.N.toNat:Nat):Int) - 1)) (f:=z0R r) fun k hk=>by
    have hk' : k < r.Rows.length:=by omega
    obtain⟨x,hx⟩:∃ x,r.Rows[k]? = some x:=⟨_,List.getElem?_eq_getElem hk'⟩
    simp only [Nat.zero_add]
    unfold z0R
    rw [hx,Option.bind_some,q3B h1.1,q3B (by omega),z2f,Option.bind_some]
    simp only [decide_eq_true_eq]
    refine⟨fun ⟨y,hy,hn⟩=>?_,fun hn=>?_⟩
    ·cases hy; rw [if_neg hn]
    ·by_cases hb:0≤x∧x≤((2 ^ r.N.toNat:Nat):Int) - 1
     ·rw [if_pos hb]
     ·exact absurd ⟨x,rfl,hb⟩ hn
   simp only [Nat.zero_add] at key
   by_cases hv:Valid r
   ·rw [key.2 fun k hk ⟨x,hx,hn⟩=>hn (hv.2.2.2 x (List.mem_of_getElem? hx))]
    simp [hv]
   ·rw [key.1 (Classical.byContradiction fun hn=>hv ⟨h1.1,h1.2,h2,fun x hx=>?_⟩)]
    ·simp [hv]
    ·obtain⟨k,hk⟩:=List.getElem?_of_mem hx
     have hk':=x0r hk
     exact Classical.byContradiction fun hb=>hn ⟨k,by omega,x,hk,hb⟩
  ·rw [if_neg h2,decide_eq_false fun hv=>h2 hv.2.2.1]
 ·rw [if_neg h1,decide_eq_false fun hv=>h1 ⟨hv.1,hv.2.1⟩]
theorem z1a (r:Relation):q4N r=some (decide (Valid r)):=by
 unfold q4N
 simp only [z6K,Option.bind_some,decide_eq_true_eq]
 by_cases h1:0≤r.N∧r.N≤16
 ·rw [if_pos h1]
  simp only [Option.bind_some,Bool.false_eq_true,if_true,if_false,decide_eq_true_eq]
  by_cases h2:(r.Rows.length:Int)=r.N
  ·rw [if_pos h2]
   have h3:∀ x,q7h x r=some (!decide (0≤x∧x≤((2 ^ r.N.toNat:Nat):Int) - 1)):=fun x=>by
    unfold q7h
    rw [q3B h1.1,q3B (by omega),z6K]; rfl
   have h4:∀ (xs:List Int) (i:Nat),∃ z,findL (q5g r) i xs ()=some z∧((xs.any fun x=>!decide (0≤x∧x≤((2 ^ r.N.toNat:Nat):Int) - 1))=true→∃ k:Nat,z = .inr (k:Int))∧((xs.any fun x=>!decide (0≤x∧x≤((2 ^ r.N.toNat:Nat):Int) - 1))=false→z = .inl ()):=by
    intro xs
    induction xs with
    | nil=>intro i; exact⟨_,rfl,by simp,by simp⟩
    | cons x xs ih=>
     intro i
     simp only [findL,q5g,h3,Option.bind_some,List.any_cons]
     by_cases hb:0≤x∧x≤((2 ^ r.N.toNat:Nat):Int) - 1
     ·simp only [hb,and_self,decide_true,Bool.not_true,Bool.false_eq_true,if_false,Option.bind_some,Bool.false_or]
      exact ih (i+1)
     ·simp only [hb,decide_false,Bool.not_false,if_true,Option.bind_some,Bool.true_or]
      exact⟨_,rfl,fun _=>⟨i,rfl⟩,by simp⟩
   unfold q4k q4x
   obtain⟨z,hz,hz1,hz2⟩:=h4 r.Rows 0
   rw [hz,k4k h1.1 h1.2 h2]
   cases ha:(r.Rows.any fun x=>!decide (0≤x∧x≤((2 ^ r.N.toNat:Nat):Int) - 1)) with
   | true=>obtain⟨k,rfl⟩:=hz1 ha; simp
   | false=>rw [hz2 ha]; simp
  ·rw [if_neg h2,decide_eq_false fun hv=>h2 hv.2.2.1]; simp only [Option.bind_some,Bool.false_eq_true,if_true,if_false,decide_eq_true_eq]
 ·rw [if_neg h1,decide_eq_false fun hv=>h1 ⟨hv.1,hv.2.1⟩]; simp only [Option.bind_some,Bool.false_eq_true,if_true,if_false,decide_eq_true_eq]
theorem q8j (r:Relation)(i k:Int):q7v r i k=some (decide (hasP r i k)):=by
 unfold q7v
 simp only [q6j,z2f,Option.bind_some,decide_eq_true_eq]
 by_cases hv:Valid r
 ·have hv1:=hv.1; have hv2:=hv.2.1; have hv3:=hv.2.2.1
  rw [if_pos hv,q3B (by constructor<;>omega)]; simp only [Option.bind_some,Bool.false_eq_true,if_true,if_false,decide_eq_true_eq]
  by_cases hi:0≤i∧i≤r.N - 1
  ·rw [if_pos hi,q3B (by constructor<;>omega)]; simp only [Option.bind_some,Bool.false_eq_true,if_true,if_false,decide_eq_true_eq]
   by_cases hk:0≤k∧k≤r.N - 1
   ·obtain⟨x,hx⟩:∃ x,r.Rows[i.toNat]? = some x:=⟨_,List.getElem?_eq_getElem (by omega)⟩
    have hrow:=hv.row (i:=i) hi hx
    rw [if_pos hk,q3B hi.1,hx,Option.bind_some,q3B hk.1,q3B ⟨hrow.2.1,hk.1,by omega⟩,q3B ⟨Int.natCast_nonneg _,by decide⟩]
    simp only [Option.bind_some,Bool.false_eq_true,if_true,if_false,decide_eq_true_eq]
    congr 1
    refine decide_eq_decide.2 ⟨fun hb=>⟨hv,hi,hk,?_⟩,fun hb=>?_⟩
    ·unfold bit; rw [hrow.1]; exact k7U hb
    ·have:=hb.2.2.2; unfold bit at this; rw [hrow.1] at this; exact k7V this
   ·rw [if_neg hk]; simp only [Option.bind_some,Bool.false_eq_true,if_true,if_false,decide_eq_true_eq]; rw [ decide_eq_false fun h=>hk h.2.2.1]
  ·rw [if_neg hi]; simp only [Option.bind_some,Bool.false_eq_true,if_true,if_false,decide_eq_true_eq]; rw [ decide_eq_false fun h=>hi h.2.1]
 ·rw [if_neg hv]; simp only [Option.bind_some,Bool.false_eq_true,if_true,if_false,decide_eq_true_eq]; rw [ decide_eq_false fun h=>hv h.1]
theorem z7y (r:Relation)(i k:Int):q9m r i k=some (decide (hasP r i k)):=by
 rw [← q8j]
 unfold q9m q7v
 simp only [q6j,z1a,z2f,z6K]
theorem j4P:q7K=q9h:=by
 funext r; unfold q7K q9h q9B
 by_cases h:((([]:List Int).length:Int)+(r.Rows.length:Int))*8≤140737488355328∧(([]:List Int).length:Int)+(r.Rows.length:Int)≤9223372036854775807
 ·rw [q3B h,q3B h]; rfl
 ·unfold grd; rw [if_neg h,if_neg h]; rfl
theorem k1z:q9m=q7v:=by
 funext r i k; rw [z7y,q8j]
theorem j3n:z2I=q6P:=by
 funext r i k; unfold z2I q6P; simp only [j4P,q6j,z1a,z2f,z6K]
theorem z6L:q6n=q4h:=by
 funext n; unfold q6n q4h; simp only [z2f,z6K]
theorem z6M {r:Relation}(h:r.Rows.length≤1048576):q9h r=some r:=by
 unfold q9h; rw [q3B (by simp only [List.length_nil]; constructor<;>omega)]
theorem k1A {r:Relation}(h:r.Rows.length≤1048576)(i k:Int):∃ x,q6P r i k=some x∧x.Rows.length=r.Rows.length:=by
 unfold q6P
 simp only [z6M h,q6j,z2f,Option.bind_some,decide_eq_true_eq]
 by_cases hv:Valid r
 ·have hv1:=hv.1; have hv2:=hv.2.1; have hv3:=hv.2.2.1
  rw [if_pos hv,q3B (by constructor<;>omega)]; simp only [Option.bind_some,Bool.false_eq_true,if_true,if_false,decide_eq_true_eq]
  by_cases hi:0≤i∧i≤r.N - 1
  ·rw [if_pos hi,q3B (by constructor<;>omega)]; simp only [Option.bind_some,Bool.false_eq_true,if_true,if_false,decide_eq_true_eq]
   by_cases hk:0≤k∧k≤r.N - 1
   ·obtain⟨x,hx⟩:∃ x,r.Rows[i.toNat]? = some x:=⟨_,List.getElem?_eq_getElem (by omega)⟩
    have hrow:=hv.row (i:=i) hi hx
    rw [if_pos hk,q3B hi.1,hx,Option.bind_some,q3B hk.1,q3B ⟨hk.1,by omega⟩,q3B ⟨hrow.2.1,Int.natCast_nonneg _⟩]
    exact⟨_,rfl,by simp⟩
   ·rw [if_neg hk]; exact⟨_,rfl,rfl⟩
  ·rw [if_neg hi]; simp only [Option.bind_some,Bool.false_eq_true,if_true,if_false,decide_eq_true_eq]; exact⟨_,rfl,rfl⟩
 ·rw [if_neg hv]; simp only [Option.bind_some,Bool.false_eq_true,if_true,if_false,decide_eq_true_eq]; exact⟨_,rfl,rfl⟩
theorem k2Q (n:Nat):∃ x,q4h (n:Int)=some x∧x.Rows.length≤16:=by
 unfold q4h; simp only [z2f,Option.bind_some,decide_eq_true_eq]
 by_cases h:0≤(n:Int)∧(n:Int)≤16
 ·rw [if_pos h,q3B (by refine⟨by omega,by omega,by omega⟩)]; exact⟨_,rfl,by simp; omega⟩
 ·rw [if_neg h]; exact⟨_,rfl,by simp⟩
end Go.Proofs.YtcegfmageiicaaaGreat
namespace Go.Proofs.YtcegfmageiicaaaGreat
open Go Go.E
theorem j2w {α σ:Type}{f:Nat→α→σ→Option σ}:∀ (xs ys:List α) (i:Nat) (s:σ),eachL f i (xs++ys) s=(eachL f i xs s).bind fun t=>eachL f (i+xs.length) ys t
 | [],ys,i,s=>rfl
 | x :: xs,ys,i,s=>by
  simp only [List.cons_append,eachL]
  cases f i x s with
  | none=>rfl
  | some t=>simp only [Option.bind_some]; rw [j2w xs ys (i+1) t,List.length_cons,show i+1+xs.length=i+(xs.length+1) by omega]
theorem z8U (k:Nat):∀ (l:List Attribute) (i:Nat) (s:List Occurrence),s.length+l.length≤4398046511104→eachL (q5Z k) i l s=some (s++l.map fun x=>(⟨(k:Int),x.Name⟩:Occurrence))
 | [],i,s,_=>by simp [eachL]
 | x :: l,i,s,h=>by
  simp only [List.length_cons] at h
  have hg:((s.length:Int)+1)*24≤140737488355328∧(s.length:Int)+1≤9223372036854775807:=by constructor<;>omega
  have e:q5Z k i x s=some (s++[(⟨(k:Int),x.Name⟩:Occurrence)]):=by unfold q5Z; rw [q3B hg]
  simp only [eachL,e,Option.bind_some]
  rw [z8U k l (i+1) _ (by simp; omega)]; simp
theorem k8D {g:Grammar}{r:Rule}(h:∀ y∈g.Symbols,y.Attributes.length≤1048576)(hr:r.Right.length≤1048576){l:List Attribute}{o:List Occurrence}(hl:q4g g r.Left=some l)(ho:q5f g r=some o) :
  ∃ ys,o=(l.map fun x=>(⟨0,x.Name⟩:Occurrence))++ys:=by
 have key:∀ m k (s:List Occurrence),k+m=r.Right.length+1→s.length≤k*1048576→∀ q,eachN (q4s g r) k m s=some q→∃ ys,q=s++ys:=by
  intro m
  induction m with
  | zero=>intro k s _ _ q hq; cases hq; exact⟨[],by simp⟩
  | succ m ih=>
   intro k s hk hs q hq
   obtain⟨x,hx⟩:=j6e r k (by omega) hr
   obtain⟨p,hp1,hp2,hp3⟩:=z6J h x
   have hy:=z8U k p 0 s (by omega)
   have e:q4s g r k s=some (s++p.map fun x=>(⟨(k:Int),x.Name⟩:Occurrence)):=by
    unfold q4s; rw [j1M,hx,Option.bind_some,hp2,Option.bind_some,hy]; rfl
   simp only [eachN,e,Option.bind_some] at hq
   obtain⟨ys,hys⟩:=ih (k+1) _ (by omega) (by simp; omega) q hq
   exact⟨_,by rw [hys,List.append_assoc]⟩
 unfold q5f at ho
 rw [q3B (by constructor<;>omega)] at ho
 have e1:eachN (q4s g r) 0 (r.Right.length+1) []=some o:=by
  cases hq:eachN (q4s g r) 0 (r.Right.length+1) [] with
  | none=>rw [hq] at ho; cases ho
  | some q=>rw [hq] at ho; exact ho
 have hl3:l.length≤1048576:=by
  obtain⟨p,_,h2,h3⟩:=z6J h r.Left
  rw [hl] at h2; cases h2; exact h3
 have hx:q6A r ((0:Nat):Int)=some r.Left:=by unfold q6A; exact if_pos rfl
 have e:q4s g r 0 []=some ([]++l.map fun x=>(⟨((0:Nat):Int),x.Name⟩:Occurrence)):=by
  unfold q4s; rw [hx,Option.bind_some,hl,Option.bind_some,z8U 0 l 0 [] (by simp; omega)]; rfl
 simp only [eachN,e,Option.bind_some] at e1
 obtain⟨ys,hys⟩:=key r.Right.length 1 _ (by omega) (by simp; omega) o e1
 exact⟨ys,by simpa using hys⟩
theorem k4l:∀ (xs:List Occurrence) (i:Nat) (s:List Int),s.length+xs.length≤4398046511104→(∀ x∈xs,x.Pos=0)→eachL (q5d 0) i xs s=some (s++(List.range' i xs.length).map fun (j:Nat)=>(j:Int))
 | [],i,s,_,_=>by simp [eachL]
 | x :: xs,i,s,h,h0=>by
  simp only [List.length_cons] at h
  have hg:((s.length:Int)+1)*8≤140737488355328∧(s.length:Int)+1≤9223372036854775807:=by constructor<;>omega
  have e:q5d 0 i x s=some (s++[(i:Int)]):=by
   unfold q5d; rw [if_pos (h0 x (by simp)),q3B hg]; rfl
  simp only [eachL,e,Option.bind_some]
  rw [k4l xs (i+1) _ (by simp; omega) fun y hy=>h0 y (by simp [hy])]
  simp [List.range'_succ]
theorem k8E {g:Grammar}{r:Rule}(h:∀ y∈g.Symbols,y.Attributes.length≤1048576)(hr:r.Right.length≤1048576){l:List Attribute}{y:List Int}(hl:q4g g r.Left=some l)(hy:q4O g r 0=some y):∀ k:Nat,k < l.length→y[k]? = some (k:Int):=by
 obtain⟨o,_,ho,ho3⟩:=j3m h hr
 obtain⟨ys,hys⟩:=k8D h hr hl ho
 have hl3:l.length≤1048576:=by
  obtain⟨p,_,h2,h3⟩:=z6J h r.Left
  rw [hl] at h2; cases h2; exact h3
 unfold q4O at hy
 rw [ho,Option.bind_some] at hy
 have hy' : eachL (q5d 0) 0 o []=some y:=by
  cases hq:eachL (q5d 0) 0 o [] with
  | none=>rw [hq] at hy; cases hy
  | some q=>rw [hq] at hy; exact hy
 have hlen:=congrArg List.length hys
 simp only [List.length_append,List.length_map] at hlen
 rw [hys,j2w,k4l _ 0 [] (by simp; omega) (by intro x hx; obtain⟨a,_,rfl⟩:=List.mem_map.1 hx; rfl),Option.bind_some] at hy'
 obtain⟨zs,h4,h5⟩:=z1k (p:=fun x:Occurrence=>decide (x.Pos=0)) (g:=fun i _=>((i:Nat):Int)) (B:=4398046511104) (f:=q5d 0) (fun i x s hs=>by
  have hg:((s.length:Int)+1)*8≤140737488355328∧(s.length:Int)+1≤9223372036854775807:=by constructor<;>omega
  unfold q5d
  rw [q3B hg]
  by_cases m1:x.Pos=0
  ·rw [if_pos m1,if_pos (by simp [m1])]; rfl
  ·rw [if_neg m1,if_neg (by simp [m1])]; rfl) ys (0+(l.map fun x=>(⟨0,x.Name⟩:Occurrence)).length) ([]++(List.range' 0 (l.map fun x=>(⟨0,x.Name⟩:Occurrence)).length).map fun (j:Nat)=>(j:Int)) (by simp; omega)
 rw [h4] at hy'
 cases hy'
 intro k hk
 rw [List.getElem?_append_left (by simpa using hk)]
 simp [hk]
theorem j1O {α σ:Type}{P:σ→Prop}{f g:Nat→α→σ→Option σ}:∀ (xs:List α) (i:Nat) (s:σ),P s→(∀ k x s,k < i+xs.length→x∈xs→P s→∃ s',f k x s=some s'∧g k x s=some s'∧P s')→∃ s',eachL f i xs s=some s'∧eachL g i xs s=some s'∧P s'
 | [],i,s,hs,_=>⟨s,rfl,rfl,hs⟩
 | x :: xs,i,s,hs,h=>by
  obtain⟨t,h1,h2,h3⟩:=h i x s (by simp) (by simp) hs
  obtain⟨u,h4,h5,h6⟩:=j1O xs (i+1) t h3 fun k y s hk hy=>h k y s (by simp; omega) (by simp [hy])
  exact⟨u,by simp only [eachL,h1,Option.bind_some,h4],by simp only [eachL,h2,Option.bind_some,h5],h6⟩
theorem j8X {g:Grammar}{r:Rule}{c:Relation}(h:∀ y∈g.Symbols,y.Attributes.length≤1048576)(hr:r.Right.length≤1048576):∃ x,q9R g r c=some x∧z1f g r c=some x∧x.Rows.length≤16:=by
 obtain⟨l,l1,l2,l3⟩:=z6J h r.Left
 obtain⟨y,_,y2,_⟩:=k6t 0 h hr
 have hy:=k8E h hr l2 y2
 obtain⟨e,e1,e2⟩:=k2Q l.length
 have step:∀ k1 x1,k1 < l.length→∀ k2 x2 s,k2 < l.length→s.1.length≤16→∃ s',z3W c k1 x1 k2 x2 s=some s'∧z3Z c y k1 x1 k2 x2 s=some s'∧s'.1.length≤16:=by
  intro k1 x1 hk1 k2 x2 ⟨s3,s4⟩ hk2 hs
  dsimp only at hs
  obtain⟨z,z1,z2⟩:=k1A (r:=⟨s4,s3⟩) (by show s3.length≤_; omega) (k1:Int) (k2:Int)
  unfold z3W z3Z
  rw [k1z,j3n,hy k1 hk1,hy k2 hk2]
  simp only [Option.bind_some,q8j,z1,decide_eq_true_eq]
  by_cases m1:x1.Mode=1
  ·by_cases m2:x2.Mode=2
   ·by_cases m3:hasP c (k1:Int) (k2:Int)
    ·simp only [m1,m2,m3,if_true,decide_true,Option.bind_some]; exact⟨_,rfl,rfl,by rw [z2]; exact hs⟩
    ·simp only [m1,m2,m3,if_true,if_false,decide_true,decide_false,Option.bind_some]; exact⟨_,rfl,rfl,hs⟩
   ·simp [m1,m2,hs]
  ·simp [m1,hs]
 obtain⟨⟨s1,s2⟩,h1,h2,h3⟩:=j1O (P:=fun s:List Int × Int=>s.1.length≤16) (f:=z7i c l) (g:=z7o c l y) l 0 (e.Rows,e.N) e2 fun k x s hk _ hs=>by
  obtain⟨s',t1,t2,t3⟩:=j1O (P:=fun s:List Int × Int=>s.1.length≤16) (f:=z3W c k x) (g:=z3Z c y k x) l 0 s hs fun k2 x2 s hk2 _ hs=>step k x (by omega) k2 x2 s (by omega) hs
  obtain⟨s3,s4⟩:=s
  exact⟨s',by unfold z7i; dsimp only; rw [t1]; rfl,by unfold z7o; dsimp only; rw [t2]; rfl,t3⟩
 refine⟨⟨s2,s1⟩,?_,?_,h3⟩
 ·unfold q9R; rw [l1,Option.bind_some,e1,Option.bind_some,h1]; rfl
 ·unfold z1f; rw [l2,Option.bind_some,y2,Option.bind_some,z6L,e1,Option.bind_some,h2]; rfl
end Go.Proofs.YtcegfmageiicaaaGreat
