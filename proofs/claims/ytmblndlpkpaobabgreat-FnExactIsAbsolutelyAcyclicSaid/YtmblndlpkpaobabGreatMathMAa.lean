/- What those partial functions come to: plain lemmas on data; each bears its conditions in its statement. -/
import Derived.Test.YtmblndlpkpaobabGreatLift
import Derived.Test.YtmblndlpkpaobabGreatEngC
set_option linter.unusedVariables false
set_option linter.unusedSimpArgs false
set_option linter.ambiguousOpen false
set_option linter.unusedSectionVars false
set_option linter.unnecessarySimpa false
set_option linter.unusedVariables false
set_option linter.unusedSimpArgs false
namespace Go.Proofs.YtmblndlpkpaobabGreat
open Go Go.E
def Valid (r:Relation):Prop:=0≤r.N∧r.N≤16∧(r.Rows.length:Int)=r.N∧∀ x∈r.Rows,0≤x∧x≤((2 ^ r.N.toNat:Nat):Int) - 1
instance (r:Relation):Decidable (Valid r):=by unfold Valid; infer_instance
def j6d (r:Relation)(i:Int):Int:=r.Rows.getD i.toNat 0
def bit (x:Int)(k:Int):Prop:=x.toNat >>> k.toNat &&& 1=1
instance (x k:Int):Decidable (bit x k):=by unfold bit; infer_instance
def inN (r:Relation)(i:Int):Prop:=0≤i∧i≤r.N - 1
instance (r:Relation) (i:Int):Decidable (inN r i):=by unfold inN; infer_instance
def hasP (r:Relation)(i k:Int):Prop:=Valid r∧inN r i∧inN r k∧bit (j6d r i) k
instance (r:Relation) (i k:Int):Decidable (hasP r i k):=by unfold hasP; infer_instance
def j3l (r:Relation)(i:Int)(x:Int):Relation:=⟨r.N,r.Rows.set i.toNat x⟩
def orI (x y:Int):Int:=((x.toNat ||| y.toNat:Nat):Int)
def addP (r:Relation)(i k:Int):Relation:=if Valid r∧inN r i∧inN r k then j3l r i (orI (j6d r i) ((2 ^ k.toNat:Nat):Int)) else r
theorem Valid.row {r:Relation}(h:Valid r){i:Int}(hi:inN r i){x:Int}(hx:r.Rows[i.toNat]? = some x):j6d r i=x∧0≤x∧x≤65535:=by
 have hm:=h.2.2.2 x (List.mem_of_getElem? hx)
 have hp:2 ^ r.N.toNat≤2 ^ 16:=Nat.pow_le_pow_right (by decide) (by have:=h.2.1; omega)
 refine⟨by unfold j6d; simp [hx],hm.1,by omega⟩
theorem k3C {n:Int}(h:n≤16):2 ^ n.toNat≤65536:=by
 have:2 ^ n.toNat≤2 ^ 16:=Nat.pow_le_pow_right (by decide) (by omega)
 simpa using this
theorem j7Q (n:Int):1≤2 ^ n.toNat:=Nat.one_le_two_pow
theorem j6e {r:Relation}(h0:0≤r.N)(h1:r.N≤16)(h2:(r.Rows.length:Int)=r.N):decide (Valid r)=!(r.Rows.any fun x=>!decide (0≤x∧x≤((2 ^ r.N.toNat:Nat):Int) - 1)):=by
 by_cases hv:Valid r
 ·rw [decide_eq_true hv,eq_comm,Bool.not_eq_true',List.any_eq_false]
  intro x hx
  simp only [Bool.not_eq_true',decide_eq_false_iff_not,Decidable.not_not]
  exact hv.2.2.2 x hx
 ·rw [decide_eq_false hv,eq_comm,Bool.not_eq_false',List.any_eq_true]
  refine Classical.byContradiction fun hn=>hv ⟨h0,h1,h2,fun x hx=>Classical.byContradiction fun hb=>hn ⟨x,hx,?_⟩⟩
  rw [decide_eq_false hb]; rfl
theorem j9j {x k:Int}(h:(((((x.toNat >>> k.toNat:Nat):Int)).toNat &&& (1:Int).toNat:Nat):Int)=1):x.toNat >>> k.toNat &&& 1=1:=by
 have:(1:Int).toNat=1:=rfl
 rw [Int.toNat_natCast,this] at h
 exact_mod_cast h
theorem j9k {x k:Int}(h:x.toNat >>> k.toNat &&& 1=1):(((((x.toNat >>> k.toNat:Nat):Int)).toNat &&& (1:Int).toNat:Nat):Int)=1:=by
 have:(1:Int).toNat=1:=rfl
 rw [Int.toNat_natCast,this]
 exact_mod_cast h
theorem q9c (x lo hi:Int):q4r x lo hi=some (decide (lo≤x∧x≤hi)):=by
 unfold q4r; split<;>simp_all<;>omega
theorem z2F (x lo hi:Int):q2P x lo hi=some (decide (lo≤x∧x≤hi)):=by
 unfold q2P; split<;>simp_all<;>omega
theorem q6g (r:Relation):q3w r=some (decide (Valid r)):=by
 unfold q3w
 simp only [q9c,Option.bind_some,decide_eq_true_eq]
 by_cases h1:0≤r.N∧r.N≤16
 ·rw [if_pos h1]
  by_cases h2:(r.Rows.length:Int)=r.N
  ·rw [if_pos h2]
   have key:=j1A (c:=false) (n:=r.N.toNat) (i:=0) (p:=fun k=>∃ x,r.Rows[k]? = some x∧¬ (0≤x∧x≤((2 ^ r.N.toNat:Nat):Int) - 1)) (f:=q8u r) fun k hk=>by
    have hk' : k < r.Rows.length:=by omega
    obtain⟨x,hx⟩:∃ x,r.Rows[k]? = some x:=⟨_,List.getElem?_eq_getElem hk'⟩
    simp only [Nat.zero_add]
    unfold q8u
    rw [hx,Option.bind_some,q2B h1.1,q2B (by omega),q9c,Option.bind_some]
    simp only [decide_eq_true_eq]
    refine⟨fun ⟨y,hy,hn⟩=>?_,fun hn=>?_⟩
    ·cases hy; rw [if_neg hn]
    ·by_cases hb:0≤x∧x≤((2 ^ r.N.toNat:Nat):Int) - 1
     ·rw [if_pos hb]
     ·exact absurd ⟨x,rfl,hb⟩ hn
   simp only [Nat.zero_add] at key
   by_cases hv:Valid r
   ·rw [key.2 fun k hk ⟨x,hx,hn⟩=>hn (hv.2.2.2 x (List.mem_of_getElem? hx))]
    simp [hv]
   ·rw [key.1 (Classical.byContradiction fun hn=>hv ⟨h1.1,h1.2,h2,fun x hx=>?_⟩)]
    ·simp [hv]
    ·obtain⟨k,hk⟩:=List.getElem?_of_mem hx
     have hk':=q4X hk
     exact Classical.byContradiction fun hb=>hn ⟨k,by omega,x,hk,hb⟩
  ·rw [if_neg h2,decide_eq_false fun hv=>h2 hv.2.2.1]
 ·rw [if_neg h1,decide_eq_false fun hv=>h1 ⟨hv.1,hv.2.1⟩]
theorem z1z (r:Relation):q4m r=some (decide (Valid r)):=by
 unfold q4m
 simp only [z2F,Option.bind_some,decide_eq_true_eq]
 by_cases h1:0≤r.N∧r.N≤16
 ·rw [if_pos h1]
  simp only [Option.bind_some,Bool.false_eq_true,if_true,if_false,decide_eq_true_eq]
  by_cases h2:(r.Rows.length:Int)=r.N
  ·rw [if_pos h2]
   have h3:∀ x,q6m x r=some (!decide (0≤x∧x≤((2 ^ r.N.toNat:Nat):Int) - 1)):=fun x=>by
    unfold q6m
    rw [q2B h1.1,q2B (by omega),z2F]; rfl
   have h4:∀ (xs:List Int) (i:Nat),∃ z,q2I (q3H r) i xs ()=some z∧((xs.any fun x=>!decide (0≤x∧x≤((2 ^ r.N.toNat:Nat):Int) - 1))=true→∃ k:Nat,z = .inr (k:Int))∧((xs.any fun x=>!decide (0≤x∧x≤((2 ^ r.N.toNat:Nat):Int) - 1))=false→z = .inl ()):=by
    intro xs
    induction xs with
    | nil=>intro i; exact⟨_,rfl,by simp,by simp⟩
    | cons x xs ih=>
     intro i
     simp only [q2I,q3H,h3,Option.bind_some,List.any_cons]
     by_cases hb:0≤x∧x≤((2 ^ r.N.toNat:Nat):Int) - 1
     ·simp only [hb,and_self,decide_true,Bool.not_true,Bool.false_eq_true,if_false,Option.bind_some,Bool.false_or]
      exact ih (i+1)
     ·simp only [hb,decide_false,Bool.not_false,if_true,Option.bind_some,Bool.true_or]
      exact⟨_,rfl,fun _=>⟨i,rfl⟩,by simp⟩
   unfold q3y q3M
   obtain⟨z,hz,hz1,hz2⟩:=h4 r.Rows 0
   rw [hz,j6e h1.1 h1.2 h2]
   cases ha:(r.Rows.any fun x=>!decide (0≤x∧x≤((2 ^ r.N.toNat:Nat):Int) - 1)) with
   | true=>obtain⟨k,rfl⟩:=hz1 ha; simp
   | false=>rw [hz2 ha]; simp
  ·rw [if_neg h2,decide_eq_false fun hv=>h2 hv.2.2.1]; simp only [Option.bind_some,Bool.false_eq_true,if_true,if_false,decide_eq_true_eq]
 ·rw [if_neg h1,decide_eq_false fun hv=>h1 ⟨hv.1,hv.2.1⟩]; simp only [Option.bind_some,Bool.false_eq_true,if_true,if_false,decide_eq_true_eq]
theorem z1A (r:Relation)(i k:Int):q8y r i k=some (decide (hasP r i k)):=by
 unfold q8y
 simp only [q6g,q9c,Option.bind_some,decide_eq_true_eq]
 by_cases hv:Valid r
 ·have hv1:=hv.1; have hv2:=hv.2.1; have hv3:=hv.2.2.1
  rw [if_pos hv,q2B (by constructor<;>omega)]; simp only [Option.bind_some,Bool.false_eq_true,if_true,if_false,decide_eq_true_eq]
  by_cases hi:0≤i∧i≤r.N - 1
  ·rw [if_pos hi,q2B (by constructor<;>omega)]; simp only [Option.bind_some,Bool.false_eq_true,if_true,if_false,decide_eq_true_eq]
   by_cases hk:0≤k∧k≤r.N - 1
   ·obtain⟨x,hx⟩:∃ x,r.Rows[i.toNat]? = some x:=⟨_,List.getElem?_eq_getElem (by omega)⟩
    have hrow:=hv.row (i:=i) hi hx
    rw [if_pos hk,q2B hi.1,hx,Option.bind_some,q2B hk.1,q2B ⟨hrow.2.1,hk.1,by omega⟩,q2B ⟨Int.natCast_nonneg _,by decide⟩]
    simp only [Option.bind_some,Bool.false_eq_true,if_true,if_false,decide_eq_true_eq]
    congr 1
    refine decide_eq_decide.2 ⟨fun hb=>⟨hv,hi,hk,?_⟩,fun hb=>?_⟩
    ·unfold bit; rw [hrow.1]; exact j9j hb
    ·have:=hb.2.2.2; unfold bit at this; rw [hrow.1] at this; exact j9k this
   ·rw [if_neg hk]; simp only [Option.bind_some,Bool.false_eq_true,if_true,if_false,decide_eq_true_eq]; rw [ decide_eq_false fun h=>hk h.2.2.1]
  ·rw [if_neg hi]; simp only [Option.bind_some,Bool.false_eq_true,if_true,if_false,decide_eq_true_eq]; rw [ decide_eq_false fun h=>hi h.2.1]
 ·rw [if_neg hv]; simp only [Option.bind_some,Bool.false_eq_true,if_true,if_false,decide_eq_true_eq]; rw [ decide_eq_false fun h=>hv h.1]
theorem z5z (r:Relation)(i k:Int):q9B r i k=some (decide (hasP r i k)):=by
 rw [← z1A]
 unfold q9B q8y
 simp only [q6g,z1z,q9c,z2F]
theorem z9e:q6v=q7J:=by
 funext r; unfold q6v q7J q8V
 by_cases h:((([]:List Int).length:Int)+(r.Rows.length:Int))*8≤140737488355328∧(([]:List Int).length:Int)+(r.Rows.length:Int)≤9223372036854775807
 ·rw [q2B h,q2B h]; rfl
 ·unfold grd; rw [if_neg h,if_neg h]; rfl
theorem j7R:q9B=q8y:=by
 funext r i k; rw [z5z,z1A]
theorem j1f:z0S=q5U:=by
 funext r i k; unfold z0S q5U; simp only [z9e,q6g,z1z,q9c,z2F]
theorem z7a:q5X=q3p:=by
 funext n; unfold q5X q3p; simp only [q9c,z2F]
theorem z2G {r:Relation}(h:r.Rows.length≤1048576):q7J r=some r:=by
 unfold q7J; rw [q2B (by simp only [List.length_nil]; constructor<;>omega)]
theorem j3U {r:Relation}(h:r.Rows.length≤1048576)(i k:Int):∃ x,q5U r i k=some x∧x.Rows.length=r.Rows.length:=by
 unfold q5U
 simp only [z2G h,q6g,q9c,Option.bind_some,decide_eq_true_eq]
 by_cases hv:Valid r
 ·have hv1:=hv.1; have hv2:=hv.2.1; have hv3:=hv.2.2.1
  rw [if_pos hv,q2B (by constructor<;>omega)]; simp only [Option.bind_some,Bool.false_eq_true,if_true,if_false,decide_eq_true_eq]
  by_cases hi:0≤i∧i≤r.N - 1
  ·rw [if_pos hi,q2B (by constructor<;>omega)]; simp only [Option.bind_some,Bool.false_eq_true,if_true,if_false,decide_eq_true_eq]
   by_cases hk:0≤k∧k≤r.N - 1
   ·obtain⟨x,hx⟩:∃ x,r.Rows[i.toNat]? = some x:=⟨_,List.getElem?_eq_getElem (by omega)⟩
    have hrow:=hv.row (i:=i) hi hx
    rw [if_pos hk,q2B hi.1,hx,Option.bind_some,q2B hk.1,q2B ⟨hk.1,by omega⟩,q2B ⟨hrow.2.1,Int.natCast_nonneg _⟩]
    exact⟨_,rfl,by simp⟩
   ·rw [if_neg hk]; exact⟨_,rfl,rfl⟩
  ·rw [if_neg hi]; simp only [Option.bind_some,Bool.false_eq_true,if_true,if_false,decide_eq_true_eq]; exact⟨_,rfl,rfl⟩
 ·rw [if_neg hv]; simp only [Option.bind_some,Bool.false_eq_true,if_true,if_false,decide_eq_true_eq]; exact⟨_,rfl,rfl⟩
theorem j5a (n:Nat):∃ x,q3p (n:Int)=some x∧x.Rows.length≤16:=by
 unfold q3p; simp only [q9c,Option.bind_some,decide_eq_true_eq]
 by_cases h:0≤(n:Int)∧(n:Int)≤16
 ·rw [if_pos h,q2B (by refine⟨by omega,by omega,by omega⟩)]; exact⟨_,rfl,by simp; omega⟩
 ·rw [if_neg h]; exact⟨_,rfl,by simp⟩
end Go.Proofs.YtmblndlpkpaobabGreat
