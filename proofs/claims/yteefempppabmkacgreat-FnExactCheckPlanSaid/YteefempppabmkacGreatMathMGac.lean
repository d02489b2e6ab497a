/- What those partial functions come to: plain lemmas on data; each bears its conditions in its statement. -/
import Derived.Test.YteefempppabmkacGreatMathMFc
set_option linter.unusedVariables false
set_option linter.unusedSimpArgs false
set_option linter.ambiguousOpen false
set_option linter.unusedSectionVars false
set_option linter.unnecessarySimpa false
set_option linter.unusedVariables false
set_option linter.unusedSimpArgs false
namespace Go.Proofs.YteefempppabmkacGreat
open Go Go.E
def satI (v:Int):Int:=if (-1000000:Int) > (if (1000000:Int) < v then (1000000:Int) else v) then (-1000000:Int) else (if (1000000:Int) < v then (1000000:Int) else v)
def truI (b:Bool):Int:=if b=true then 1 else 0
def j6K (v k:Int):Int:=if k=1 then satI v else if k=2 then j7Q v 4095 else if k=3 then truI (!decide (v=0)) else if k=4 then (if 0≤v∧v≤999 then v else 0) else 0
theorem k0t (v:Int):z5t v=some (satI v):=rfl
theorem k0u (a b:Int):z8o a b=some (if b < a then b else a):=by
 unfold z8o
 by_cases h:a < b
 ·rw [if_pos h,if_neg (by omega)]
 ·rw [if_neg h]
  split
  ·rfl
  ·congr 1; omega
theorem k0v (v:Int):z2M v=some (satI v):=by
 unfold z2M
 rw [k0u,Option.bind_some,j6G,Option.bind_some]
 congr 1
 unfold satI
 split<;>split<;>(try split)<;>(try split)<;>omega
theorem k0w (b:Bool):j1o b=some (truI b):=by unfold j1o truI; cases b<;>rfl
theorem j8t (b:Bool):z4A b=some (truI b):=by unfold z4A truI; cases b<;>rfl
theorem j8u (v k:Int):z6p v k=some (j6K v k):=by
 unfold z6p j6K
 rw [k0t,k0w,j5y]
 by_cases h1:k=1
 ·rw [if_pos h1,if_pos h1]; rfl
 by_cases h2:k=2
 ·rw [if_neg h1,if_neg h1,if_pos h2,if_pos h2]
 by_cases h3:k=3
 ·rw [if_neg h1,if_neg h1,if_neg h2,if_neg h2,if_pos h3,if_pos h3]; rfl
 by_cases h4:k=4
 ·rw [if_neg h1,if_neg h1,if_neg h2,if_neg h2,if_neg h3,if_neg h3,if_pos h4,if_pos h4,Option.bind_some]
  by_cases h:0≤v∧v≤999<;>simp [h]
 ·rw [if_neg h1,if_neg h1,if_neg h2,if_neg h2,if_neg h3,if_neg h3,if_neg h4,if_neg h4]
theorem j8v (v k:Int):z6d v k=some (j6K v k):=by
 unfold z6d j6K
 rw [k0v,j8t,j1B]
 by_cases h1:k=1
 ·rw [if_pos h1,if_pos h1]; rfl
 by_cases h2:k=2
 ·rw [if_neg h1,if_neg h1,if_pos h2,if_pos h2]
 by_cases h3:k=3
 ·rw [if_neg h1,if_neg h1,if_neg h2,if_neg h2,if_pos h3,if_pos h3]; rfl
 by_cases h4:k=4
 ·rw [if_neg h1,if_neg h1,if_neg h2,if_neg h2,if_neg h3,if_neg h3,if_pos h4,if_pos h4,Option.bind_some]
  by_cases h:0≤v∧v≤999<;>simp [h]
 ·rw [if_neg h1,if_neg h1,if_neg h2,if_neg h2,if_neg h3,if_neg h3,if_neg h4,if_neg h4]
def j1D (v k:Int):Bool:=decide (1≤k∧k≤4)&&decide (j6K v k=v)
theorem j8w (v k:Int):z2U v k=some (j1D v k):=by
 unfold z2U z3V j1D
 rw [j5y,Option.bind_some,Option.bind_some,j8u,Option.bind_some]
 by_cases h:1≤k∧k≤4<;>simp [h]
theorem j8x (v k:Int):z2N v k=some (j1D v k):=by
 unfold z2N j1D
 rw [j1B,Option.bind_some,j8v,Option.bind_some]
 by_cases h:1≤k∧k≤4<;>simp [h]
def opT (n:Int):Int × Int × Int:=
 if 1≤n∧n≤5 then (1,1,1) else if 6≤n∧n≤8 then (2,2,2) else if n=9∨n=10 then (1,1,3) else if n=11 then (2,1,3) else if n=12 then (2,1,2) else (0,0,0)
theorem k1G {n a b c d e:Int}:(if n=a then some (decide (n=a)) else if n=b then some (decide (n=b)) else if n=c then some (decide (n=c)) else if n=d then some (decide (n=d)) else some (decide (n=e)))=some (decide (n=a∨n=b∨n=c∨n=d∨n=e)):=by
 by_cases h1:n=a
 ·simp [h1]
 by_cases h2:n=b
 ·simp [h1,h2]
 by_cases h3:n=c
 ·rw [if_neg h1,if_neg h2,if_pos h3]; simp [h3]
 by_cases h4:n=d
 ·rw [if_neg h1,if_neg h2,if_neg h3,if_pos h4]; simp [h4]
 ·simp [h1,h2,h3,h4]
theorem k1H {n a b c:Int}:(if n=a then some (decide (n=a)) else if n=b then some (decide (n=b)) else some (decide (n=c)))=some (decide (n=a∨n=b∨n=c)):=by
 by_cases h1:n=a
 ·simp [h1]
 by_cases h2:n=b
 ·simp [h1,h2]
 ·simp [h1,h2]
theorem k0x (n:Int):q8P n=some (opT n):=by
 unfold q8P opT
 rw [k1G,k1H]
 simp only [Option.bind_some]
 by_cases h1:1≤n∧n≤5
 ·rw [if_pos (by simp; omega),if_pos h1]
 rw [if_neg (by simp; omega),if_neg h1]
 by_cases h2:6≤n∧n≤8
 ·rw [if_pos (by simp; omega),if_pos h2]
 rw [if_neg (by simp; omega),if_neg h2]
 by_cases h3:n=9
 ·simp [h3]
 by_cases h3' : n=10
 ·simp [h3']
 by_cases h4:n=11
 ·simp [h4]
 by_cases h5:n=12
 ·simp [h5]
 simp [h3,h3',h4,h5]
theorem k0y (n:Int):q8I n=some (opT n):=by
 unfold q8I opT
 rw [j1B,j1B]
 simp only [Option.bind_some]
 by_cases h1:1≤n∧n≤5
 ·rw [if_pos (by simpa using h1),if_pos h1]
 rw [if_neg (by simpa using h1),if_neg h1]
 by_cases h2:6≤n∧n≤8
 ·rw [if_pos (by simpa using h2),if_pos h2]
 rw [if_neg (by simpa using h2),if_neg h2]
 by_cases h3:n=9
 ·rw [if_pos h3,if_pos (.inl h3)]
 rw [if_neg h3]
 by_cases h3' : n=10
 ·rw [if_pos h3',if_pos (.inr h3')]
 have h33:¬(n=9∨n=10):=by omega
 rw [if_neg h3',if_neg h33]
 by_cases h4:n=11
 ·rw [if_pos h4,if_pos h4]
 rw [if_neg h4,if_neg h4]
 by_cases h5:n=12
 ·rw [if_pos h5,if_pos h5]
 rw [if_neg h5,if_neg h5]
end Go.Proofs.YteefempppabmkacGreat
