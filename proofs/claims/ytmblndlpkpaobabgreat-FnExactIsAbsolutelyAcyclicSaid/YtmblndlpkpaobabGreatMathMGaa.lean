/- What those partial functions come to: plain lemmas on data; each bears its conditions in its statement. -/
import Derived.Test.YtmblndlpkpaobabGreatMathMFa
set_option linter.unusedVariables false
set_option linter.unusedSimpArgs false
set_option linter.ambiguousOpen false
set_option linter.unusedSectionVars false
set_option linter.unnecessarySimpa false
set_option linter.unusedVariables false
set_option linter.unusedSimpArgs false
namespace Go.Proofs.YtmblndlpkpaobabGreat
open Go Go.E
def satI (v:Int):Int:=if (-1000000:Int) > (if (1000000:Int) < v then (1000000:Int) else v) then (-1000000:Int) else (if (1000000:Int) < v then (1000000:Int) else v)
def truI (b:Bool):Int:=if b=true then 1 else 0
def j6v (v k:Int):Int:=if k=1 then satI v else if k=2 then j7t v 4095 else if k=3 then truI (!decide (v=0)) else if k=4 then (if 0≤v∧v≤999 then v else 0) else 0
theorem k0e (v:Int):z5k v=some (satI v):=rfl
theorem k0f (a b:Int):z7Z a b=some (if b < a then b else a):=by
 unfold z7Z
 by_cases h:a < b
 ·rw [if_pos h,if_neg (by omega)]
 ·rw [if_neg h]
  split
  ·rfl
  ·congr 1; omega
theorem k0g (v:Int):z2T v=some (satI v):=by
 unfold z2T
 rw [k0f,Option.bind_some,j6r,Option.bind_some]
 congr 1
 unfold satI
 split<;>split<;>(try split)<;>(try split)<;>omega
theorem k0h (b:Bool):j0O b=some (truI b):=by unfold j0O truI; cases b<;>rfl
theorem j8b (b:Bool):z4z b=some (truI b):=by unfold z4z truI; cases b<;>rfl
theorem j8c (v k:Int):z6e v k=some (j6v v k):=by
 unfold z6e j6v
 rw [k0e,k0h,j5n]
 by_cases h1:k=1
 ·rw [if_pos h1,if_pos h1]; rfl
 by_cases h2:k=2
 ·rw [if_neg h1,if_neg h1,if_pos h2,if_pos h2]
 by_cases h3:k=3
 ·rw [if_neg h1,if_neg h1,if_neg h2,if_neg h2,if_pos h3,if_pos h3]; rfl
 by_cases h4:k=4
 ·rw [if_neg h1,if_neg h1,if_neg h2,if_neg h2,if_neg h3,if_neg h3,if_pos h4,if_pos h4,Option.bind_some]
  by_cases h:0≤v∧v≤999<;>simp [h]
 ·rw [if_neg h1,if_neg h1,if_neg h2,if_neg h2,if_neg h3,if_neg h3,if_neg h4,if_neg h4]
theorem j8d (v k:Int):z5V v k=some (j6v v k):=by
 unfold z5V j6v
 rw [k0g,j8b,j1j]
 by_cases h1:k=1
 ·rw [if_pos h1,if_pos h1]; rfl
 by_cases h2:k=2
 ·rw [if_neg h1,if_neg h1,if_pos h2,if_pos h2]
 by_cases h3:k=3
 ·rw [if_neg h1,if_neg h1,if_neg h2,if_neg h2,if_pos h3,if_pos h3]; rfl
 by_cases h4:k=4
 ·rw [if_neg h1,if_neg h1,if_neg h2,if_neg h2,if_neg h3,if_neg h3,if_pos h4,if_pos h4,Option.bind_some]
  by_cases h:0≤v∧v≤999<;>simp [h]
 ·rw [if_neg h1,if_neg h1,if_neg h2,if_neg h2,if_neg h3,if_neg h3,if_neg h4,if_neg h4]
def j1l (v k:Int):Bool:=decide (1≤k∧k≤4)&&decide (j6v v k=v)
theorem j8e (v k:Int):z3b v k=some (j1l v k):=by
 unfold z3b z3P j1l
 rw [j5n,Option.bind_some,Option.bind_some,j8c,Option.bind_some]
 by_cases h:1≤k∧k≤4<;>simp [h]
theorem j8f (v k:Int):z2U v k=some (j1l v k):=by
 unfold z2U j1l
 rw [j1j,Option.bind_some,j8d,Option.bind_some]
 by_cases h:1≤k∧k≤4<;>simp [h]
def opT (n:Int):Int × Int × Int:=
 if 1≤n∧n≤5 then (1,1,1) else if 6≤n∧n≤8 then (2,2,2) else if n=9∨n=10 then (1,1,3) else if n=11 then (2,1,3) else if n=12 then (2,1,2) else (0,0,0)
theorem k1z {n a b c d e:Int}:(if n=a then some (decide (n=a)) else if n=b then some (decide (n=b)) else if n=c then some (decide (n=c)) else if n=d then some (decide (n=d)) else some (decide (n=e)))=some (decide (n=a∨n=b∨n=c∨n=d∨n=e)):=by
 by_cases h1:n=a
 ·simp [h1]
 by_cases h2:n=b
 ·simp [h1,h2]
 by_cases h3:n=c
 ·rw [if_neg h1,if_neg h2,if_pos h3]; simp [h3]
 by_cases h4:n=d
 ·rw [if_neg h1,if_neg h2,if_neg h3,if_pos h4]; simp [h4]
 ·simp [h1,h2,h3,h4]
theorem k1A {n a b c:Int}:(if n=a then some (decide (n=a)) else if n=b then some (decide (n=b)) else some (decide (n=c)))=some (decide (n=a∨n=b∨n=c)):=by
 by_cases h1:n=a
 ·simp [h1]
 by_cases h2:n=b
 ·simp [h1,h2]
 ·simp [h1,h2]
theorem k0i (n:Int):q8R n=some (opT n):=by
 unfold q8R opT
 rw [k1z,k1A]
 simp only [Option.bind_some]
 by_cases h1:1≤n∧n≤5
 ·rw [if_pos (by simp; omega),if_pos h1]
 rw [if_neg (by simp; omega),if_neg h1]
 by_cases h2:6≤n∧n≤8
 ·rw [if_pos (by simp; omega),if_pos h2]
 rw [if_neg (by simp; omega),if_neg h2]
 by_cases h3:n=9
 ·simp [h3]
 by_cases h3' : n=10
 ·simp [h3']
 by_cases h4:n=11
 ·simp [h4]
 by_cases h5:n=12
 ·simp [h5]
 simp [h3,h3',h4,h5]
theorem k0j (n:Int):q8G n=some (opT n):=by
 unfold q8G opT
 rw [j1j,j1j]
 simp only [Option.bind_some]
 by_cases h1:1≤n∧n≤5
 ·rw [if_pos (by simpa using h1),if_pos h1]
 rw [if_neg (by simpa using h1),if_neg h1]
 by_cases h2:6≤n∧n≤8
 ·rw [if_pos (by simpa using h2),if_pos h2]
 rw [if_neg (by simpa using h2),if_neg h2]
 by_cases h3:n=9
 ·rw [if_pos h3,if_pos (.inl h3)]
 rw [if_neg h3]
 by_cases h3' : n=10
 ·rw [if_pos h3',if_pos (.inr h3')]
 have h33:¬(n=9∨n=10):=by omega
 rw [if_neg h3',if_neg h33]
 by_cases h4:n=11
 ·rw [if_pos h4,if_pos h4]
 rw [if_neg h4,if_neg h4]
 by_cases h5:n=12
 ·rw [if_pos h5,if_pos h5]
 rw [if_neg h5,if_neg h5]
end Go.Proofs.YtmblndlpkpaobabGreat
