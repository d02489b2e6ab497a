/- What those partial functions come to: plain lemmas on data; each bears its conditions in its statement. -/
import Derived.Test.YtbgnnjmfmnkkaaaDoorLift
set_option linter.unusedVariables false
set_option linter.unusedSimpArgs false
set_option linter.ambiguousOpen false
set_option linter.unusedSectionVars false
set_option linter.unnecessarySimpa false
set_option maxRecDepth 100000
namespace Go.Proofs.YtbgnnjmfmnkkaaaDoor
open Go Go.E Go.A
theorem q4D {α:Type}{c:Prop}[Decidable c]{k:Option α}(h:c):grd c k=k:=by unfold grd; rw [if_pos h]
theorem q8L (d:Int)(x:Nat)(hd:d=(x:Int))(hx:x < 10):UInt8.ofNat ((48+d) % 256).toNat=UInt8.ofNat (48+x):=by
 subst hd
 have:((48+(x:Int)) % 256).toNat=48+x:=by omega
 rw [this]
theorem q8M:∀ (k:Nat) (n:Int) (l:List UInt8),n.natAbs < 10 ^ k→n.natAbs≤9223372036854775808→l.length+k≤1000→q4X q3F (n,bl l)=some (bl (dz n.natAbs++l))
 | 0,n,l,h,_,_=>by
  have e:n=0:=by simp at h; omega
  subst e
  rw [q5W (r:=bl l) (by unfold q3F; simp only [if_true])]
  rfl
 | k+1,n,l,h,hb,hl=>by
  by_cases h0:n=0
  ·subst h0
   rw [q5W (r:=bl l) (by unfold q3F; simp only [if_true])]
   rfl
  ·have hu:n.natAbs≠0:=by omega
   have hq:(n.tdiv 10).natAbs=n.natAbs / 10:=by rw [Int.natAbs_tdiv]; rfl
   have hm:(n.tmod 10).natAbs=n.natAbs % 10:=by rw [Int.natAbs_tmod]; rfl
   have hx:n.natAbs % 10 < 10:=Nat.mod_lt _ (by decide)
   have hs:(bl l).size=l.length:=q6B l
   have h1s:(⟨#[UInt8.ofNat (48+n.natAbs % 10)]⟩:ByteArray).size=1:=rfl
   have step:q3F (n,bl l)=some (.inl (n.tdiv 10,bl (UInt8.ofNat (48+n.natAbs % 10) :: l))):=by
    unfold q3F
    simp only
    rw [if_neg h0]
    by_cases hneg:n.tmod 10 < 0
    ·rw [if_pos hneg,q8L (0 - n.tmod 10) (n.natAbs % 10) (by omega) hx,q4D ⟨by omega,by omega⟩,q4D ⟨by omega,by omega⟩,q4D (by rw [h1s,hs]; omega),q4D ⟨by omega,by omega⟩,q7v]
    ·rw [if_neg hneg,q8L (n.tmod 10) (n.natAbs % 10) (by omega) hx,q4D ⟨by omega,by omega⟩,q4D (by rw [h1s,hs]; omega),q4D ⟨by omega,by omega⟩,q7v]
   rw [q8g step,q8M k (n.tdiv 10) _ (by rw [hq]; exact Nat.div_lt_of_lt_mul (by rw [Nat.pow_succ,Nat.mul_comm] at h; exact h)) (by rw [hq]; omega) (by simp; omega),hq,q9P hu]
   simp
theorem q9t (n:Int)(h0:-9223372036854775808≤n)(h1:n≤9223372036854775807):q3q n=some (bl (Lib.itoa n)):=by
 unfold q3q
 by_cases hz:n=0
 ·subst hz
  rw [if_pos rfl]
  have:Lib.itoa 0=[48]:=by rw [Lib.itoa,if_neg (by omega)]; show Lib.decDigits 0=_; rw [Lib.decDigits,dif_pos (by omega)]; rfl
  rw [this]; rfl
 ·rw [if_neg hz]
  have e:=q8M 19 n [] (by rw [p19]; omega) (by omega) (by simp)
  have e0:(⟨#[]⟩:ByteArray)=bl []:=rfl
  rw [e0,e,Option.bind_some,List.append_nil,dz,if_neg (show ¬ n.natAbs=0 by omega),Lib.itoa]
  have hl:=q6i 19 n.natAbs (by rw [p20]; omega)
  by_cases hn:n < 0
  ·rw [if_pos hn,if_pos hn,q4D (by rw [q6B]; show 1+_≤_; omega),q7v]
  ·rw [if_neg hn,if_neg hn]
   have:n.natAbs=n.toNat:=by omega
   rw [this]
theorem q9u (n:Int)(h0:-9223372036854775808≤n)(h1:n≤9223372036854775807):q3D n=q3q n:=by
 rw [q9t n h0 h1]; rfl
theorem q9Q (a:Step)(hp:rngI .i64 a.Pos)(hv:rngI .i64 a.Visit):q3M a=q3A a:=by
 unfold q3M q3A
 rw [q9u a.Pos hp.1 hp.2,q9u a.Visit hv.1 hv.2]
theorem q8N (a:Step)(hp:rngI .i64 a.Pos)(hv:rngI .i64 a.Visit)(hs:a.Name.size≤1048576):∃ r,q3A a=some r:=by
 have b:∀ n:Int,rngI .i64 n→∃ r:ByteArray,q3q n=some r∧r.size≤100:=fun n hn=>by
  refine⟨_,q9t n hn.1 hn.2,?_⟩
  rw [q6B,Lib.itoa]
  have h1:-9223372036854775808≤n:=hn.1
  have h2:n≤9223372036854775807:=hn.2
  have:=q6i 19 n.natAbs (by rw [p20]; omega)
  have:=q6i 19 n.toNat (by rw [p20]; omega)
  by_cases h:n < 0
  ·rw [if_pos h,List.length_cons]; omega
  ·rw [if_neg h]; omega
 obtain⟨p,hp1,hp2⟩:=b _ hp
 obtain⟨v,hv1,hv2⟩:=b _ hv
 have s6:(⟨#[101,118,97,108,32,36]⟩:ByteArray).size=6:=rfl
 have s1:(⟨#[46]⟩:ByteArray).size=1:=rfl
 have s62:(⟨#[118,105,115,105,116,32]⟩:ByteArray).size=6:=rfl
 have s63:(⟨#[108,101,97,118,101,32]⟩:ByteArray).size=6:=rfl
 unfold q3A
 rw [hp1,hv1]
 simp only [Option.bind_some]
 split
 ·rw [q4D (by rw [s6]; omega),q4D (by rw [ByteArray.size_append,s6,s1]; omega),q4D (by rw [ByteArray.size_append,ByteArray.size_append,s6,s1]; omega)]; exact⟨_,rfl⟩
 ·split
  ·rw [q4D (by rw [s62]; omega),q4D (by rw [ByteArray.size_append,s62,s1]; omega),q4D (by rw [ByteArray.size_append,ByteArray.size_append,s62,s1]; omega)]; exact⟨_,rfl⟩
  ·split
   ·rw [q4D (by rw [s63]; omega)]; exact⟨_,rfl⟩
   ·exact⟨_,rfl⟩
theorem q9d (a:Step)(hp:rngI .i64 a.Pos)(hv:rngI .i64 a.Visit)(hn:a.Name.size≤9223372036854775807):q3w a=some true:=by
 unfold q3w q4T
 rw [q4D ⟨by omega,by omega⟩]
 by_cases h:(1048576 - (a.Name.size:Int)) < 0
 ·rw [if_pos h,Option.bind_some,if_pos (by decide)]
 ·rw [if_neg h,Option.bind_some,if_neg h]
  obtain⟨r,hr⟩:=q8N a hp hv (by omega)
  simp only [q4v,Option.bind_some,q9Q a hp hv,hr,if_true]
end Go.Proofs.YtbgnnjmfmnkkaaaDoor
