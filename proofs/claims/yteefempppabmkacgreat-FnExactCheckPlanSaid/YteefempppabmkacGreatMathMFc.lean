/- What those partial functions come to: plain lemmas on data; each bears its conditions in its statement. -/
import Derived.Test.YteefempppabmkacGreatMathMEc
set_option linter.unusedVariables false
set_option linter.unusedSimpArgs false
set_option linter.ambiguousOpen false
set_option linter.unusedSectionVars false
set_option linter.unnecessarySimpa false
set_option linter.unusedVariables false
set_option linter.unusedSimpArgs false
namespace Go.Proofs.YteefempppabmkacGreat
open Go Go.E
theorem j5y (x lo hi:Int):q2Y x lo hi=some (decide (lo≤x∧x≤hi)):=by
 unfold q2Y; by_cases h:lo≤x<;>simp [h]
theorem j1B (x lo hi:Int):q5q x lo hi=some (decide (lo≤x∧x≤hi)):=by
 unfold q5q; by_cases h:lo≤x<;>simp [h]
def lowB (c:UInt8):Bool:=decide (97≤(c.toNat:Int)∧(c.toNat:Int)≤122)
def digB (c:UInt8):Bool:=decide (48≤(c.toNat:Int)∧(c.toNat:Int)≤57)
theorem z7n (c:UInt8):z2q c=some (lowB c):=by
 unfold z2q lowB; by_cases h:97≤(c.toNat:Int)<;>simp [h]
theorem j5z (c:UInt8):z4H c=some (digB c):=by
 unfold z4H digB; by_cases h:48≤(c.toNat:Int)<;>simp [h]
def allN (q:Nat→Bool):Nat→Nat→Bool
 | _,0=>true
 | i,n+1=>q i&&allN q (i+1) n
theorem j0A {q r:Nat→Bool}:∀ {n i:Nat},(∀ k,i≤k→q k=r k)→allN q i n=allN r i n
 | 0,_,_=>rfl
 | n+1,i,h=>by rw [allN,allN,h i (Nat.le_refl _),j0A fun k hk=>h k (by omega)]
theorem z7o {ρ:Type}{c:ρ}{q:Nat→Bool}:∀ {n i:Nat} {f:Nat→Unit→Option (Unit ⊕ ρ)},(∀ k,k < n→f (i+k) ()=some (if q (i+k)=true then .inl () else .inr c))→z4P f i n ()=some (if allN q i n=true then .inl () else .inr c)
 | 0,i,f,h=>rfl
 | n+1,i,f,h=>by
  have h0:=h 0 (by omega)
  rw [Nat.add_zero] at h0
  rw [z4P,h0]
  by_cases hx:q i=true
  ·rw [if_pos hx,Option.bind_some]
   show z4P f (i+1) n ()=_
   rw [z7o fun k hk=>by have:=h (k+1) (by omega); rwa [show i+(k+1)=i+1+k by omega] at this]
   simp [allN,hx]
  ·rw [if_neg hx]; simp [allN,hx]
def chr (s:ByteArray)(k:Nat):UInt8:=s.data.getD k 0
theorem j1C {s:ByteArray}{k:Nat}(h:k < s.size):s.data[k]? = some (chr s k):=by
 have h' : k < s.data.size:=h
 unfold chr
 rw [Array.getD_eq_getD_getElem?,Array.getElem?_eq_getElem h']; rfl
def z6B:List ByteArray:=[⟨#[105,102]⟩,⟨#[116,104,101,110]⟩,⟨#[101,108,115,101]⟩,⟨#[116,114,117,101]⟩,⟨#[102,97,108,115,101]⟩,⟨#[108,105,116]⟩,⟨#[110,111,110,101]⟩,⟨#[115,101,108,102]⟩,⟨#[111,102]⟩,⟨#[109,97,120]⟩,⟨#[109,105,110]⟩,⟨#[119,105,116,104]⟩,⟨#[104,97,115]⟩]
def memB (s:ByteArray)(l:List ByteArray):Bool:=l.any fun x=>decide (x=s)
theorem j8q {s:ByteArray}{l:List ByteArray}:memB s l=true↔s∈l:=by
 unfold memB; rw [List.any_eq_true]
 exact⟨fun ⟨x,h1,h2⟩=>by simp at h2; exact h2▸h1,fun h=>⟨s,h,by simp⟩⟩
theorem j8r {s:ByteArray}{l:List ByteArray}(h:s ∉ l):memB s l=false:=by
 cases hb:memB s l with
 | false=>rfl
 | true=>exact absurd (j8q.1 hb) h
def resB (s:ByteArray):Bool:=memB s z6B
theorem j8s (l:List ByteArray)(s:ByteArray):z0s l s=some (memB s l):=by
 unfold z0s
 have:∀ (l:List ByteArray) (i:Nat),q2u (z5Z s) i l ()=some (if memB s l=true then .inr true else .inl ()):=by
  intro l
  induction l with
  | nil=>intro i; rfl
  | cons x l ih=>
   intro i
   rw [q2u]
   unfold z5Z at ih ⊢
   have hc:memB s (x :: l)=(decide (x=s)||memB s l):=rfl
   by_cases h:x=s
   ·rw [if_pos h,hc]; simp [h]
   ·rw [if_neg h,Option.bind_some]
    show q2u _ (i+1) l ()=_
    rw [ih,hc]; simp [h]
 rw [this,Option.bind_some]
 cases memB s l<;>rfl
theorem k0r (s:ByteArray):z0t s=some (resB s):=by
 unfold z0t z2K
 rw [Option.bind_some,j8s]; rfl
theorem k0s (s:ByteArray):z0A s=some (resB s):=by
 by_cases h:s∈z6B
 ·unfold z6B at h
  simp only [List.mem_cons,List.not_mem_nil,or_false] at h
  rcases h with h | h | h | h | h | h | h | h | h | h | h | h | h<;>subst h<;>rfl
 ·unfold resB
  rw [j8r h]
  unfold z6B at h
  simp only [List.mem_cons,List.not_mem_nil,or_false,not_or] at h
  obtain⟨h1,h2,h3,h4,h5,h6,h7,h8,h9,h10,h11,h12,h13⟩:=h
  unfold z0A
  rw [if_neg h1,if_neg h2,if_neg h3,if_neg h4,if_neg h5,if_neg h6,if_neg h7,if_neg h8,if_neg h9,if_neg h10,if_neg h11,if_neg h12]
  simp [h13]
def q6X (s:ByteArray):Bool:=decide (0 < s.size∧s.size≤8)&&(lowB (chr s 0)&&allN (fun k=>lowB (chr s k)||digB (chr s k)) 1 (s.size - 1) && !resB s)
theorem z0K (s:ByteArray):q3g s=some (q6X s):=by
 unfold q3g
 rw [z7o (c:=false) (q:=fun k=>lowB (chr s k)||digB (chr s k)) fun k hk=>by
  rw [Nat.zero_add]
  unfold z3U
  rw [j1C hk,Option.bind_some,z7n,Option.bind_some]
  cases lowB (chr s k) with
  | true=>rfl
  | false=>
   rw [if_neg (by simp),j5z,Option.bind_some]
   cases digB (chr s k)<;>rfl]
 rw [Option.bind_some]
 by_cases h0:0 < s.size
 ·obtain⟨n,hn⟩:∃ n,s.size=n+1:=⟨s.size - 1,by omega⟩
  unfold q6X
  rw [hn,allN,Nat.add_sub_cancel]
  cases ha:allN (fun k=>lowB (chr s k)||digB (chr s k)) (0+1) n with
  | false=>
   rw [Bool.and_false,if_neg (by simp)]
   rw [Nat.zero_add] at ha
   simp [onr,ha]
  | true=>
   rw [Nat.zero_add] at ha
   try rw [ha]
   simp only [Bool.and_true]
   have hc:=j1C h0
   cases hl:lowB (chr s 0) with
   | false=>
    cases hd:digB (chr s 0) with
    | false=>simp [onr]
    | true=>
     rw [if_pos (by simp)]
     show (q2Y _ 1 8).bind _=_
     rw [j5y,Option.bind_some]
     split
     ·rw [hc,Option.bind_some,z7n,hl]; simp
     ·simp
   | true=>
    rw [if_pos (by simp)]
    show (q2Y _ 1 8).bind _=_
    rw [j5y,Option.bind_some]
    by_cases h8:n+1≤8
    ·rw [if_pos (by simp; omega),hc,Option.bind_some,z7n,hl]
     simp [k0s,h8]
    ·rw [if_neg (by simp; omega)]; simp [h8]
 ·have hs:s.size=0:=by omega
  unfold q6X
  rw [hs,allN,if_pos rfl,q2S,j5y,Option.bind_some]
  simp
theorem q8Z (s:ByteArray):q3p s=some (q6X s):=by
 unfold q3p z6W
 rw [z7o (c:=false) (q:=fun k=>lowB (chr s k)||(decide (k≠0)&&digB (chr s k))) fun k hk=>by
  rw [Nat.zero_add]
  unfold z8R
  rw [j1C hk,Option.bind_some]
  have e1:(if 97≤((chr s k).toNat:Int) then some (decide (((chr s k).toNat:Int)≤122)) else some false)=some (lowB (chr s k)):=by
   unfold lowB; by_cases h:97≤((chr s k).toNat:Int)<;>simp [h]
  have e2:(if 48≤((chr s k).toNat:Int) then some (decide (((chr s k).toNat:Int)≤57)) else some false)=some (digB (chr s k)):=by
   unfold digB; by_cases h:48≤((chr s k).toNat:Int)<;>simp [h]
  rw [e1,e2,Option.bind_some,Option.bind_some]
  cases lowB (chr s k) with
  | true=>rfl
  | false=>
   by_cases hk0:k=0
   ·subst hk0; simp
   ·have:¬ ((k:Int)=0):=by omega
    rw [if_neg (by simp),if_neg this]
    cases digB (chr s k)<;>simp [hk0]]
 rw [Option.bind_some]
 by_cases h0:0 < s.size
 ·obtain⟨n,hn⟩:∃ n,s.size=n+1:=⟨s.size - 1,by omega⟩
  unfold q6X
  rw [hn,allN,Nat.add_sub_cancel,Nat.zero_add,j0A (n:=n) (i:=1) (q:=fun k=>lowB (chr s k)||(decide (k≠0)&&digB (chr s k))) (r:=fun k=>lowB (chr s k)||digB (chr s k)) fun k hk=>by simp [show k≠0 by omega]]
  have e0:(lowB (chr s 0)||(decide ((0:Nat)≠0)&&digB (chr s 0)))=lowB (chr s 0):=by simp
  rw [e0]
  cases hA:(lowB (chr s 0)&&allN (fun k=>lowB (chr s k)||digB (chr s k)) 1 n) with
  | false=>simp [onr]
  | true=>
   rw [if_pos rfl]
   simp only [onr,Option.bind_some]
   by_cases h8:n+1≤8
   ·simp [k0r,h8]; omega
   ·simp [h8]; omega
 ·have hs:s.size=0:=by omega
  unfold q6X
  rw [hs]
  simp [onr,allN]
end Go.Proofs.YteefempppabmkacGreat
