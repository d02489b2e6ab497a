/- What those partial functions come to: plain lemmas on data; each bears its conditions in its statement. -/
import Derived.Test.YtppbkkcekpbaiaaGreatDef
set_option linter.unusedVariables false
set_option linter.unusedSimpArgs false
set_option linter.ambiguousOpen false
set_option linter.unusedSectionVars false
set_option linter.unnecessarySimpa false
set_option maxRecDepth 100000
set_option maxHeartbeats 4000000
noncomputable section
namespace Go.Proofs.YtppbkkcekpbaiaaGreat
open Go Go.E
def z1H (xk1:Rl_)(k2:Nat)(xk2:Int):Nat→Int→((List Int)×Int)→Option ((List Int)×Int):=fun k3 xk3 (s6,s7)=>
(
(q8j xk1 (k2:Int) (k3:Int)).bind fun y5=>
if y5=true then (
(q7H (⟨s7,s6⟩:Rl_) xk2 xk3).bind fun y6=>
some (y6.Rows,y6.N)
) else (
some (s6,s7)
)
).bind fun (s8,s9)=>
some (s8,s9)
def z4y (xk1:Rl_)(y3:(List Int)):Nat→Int→((List Int)×Int)→Option ((List Int)×Int):=fun k2 xk2 (s4,s5)=>
(eachL (z1H xk1 k2 xk2) 0 y3 (s4,s5)).bind fun (s6,s7)=>
some (s6,s7)
def z4z:Nat→At_→((List At_))→Option ((List At_)):=fun k1 xk1 s1=>
(
if xk1.Mode=1 then (
grd (((s1.length:Int)+1)*40≤140737488355328∧(s1.length:Int)+1≤9223372036854775807) <|
some (s1++[xk1])
) else (
if xk1.Mode=2 then (
grd (((s1.length:Int)+1)*40≤140737488355328∧(s1.length:Int)+1≤9223372036854775807) <|
some (s1++[xk1])
) else (
some s1
)
)
).bind fun s2=>
some s2
def q6u (a0:Gm_)(a1:ByteArray):Option (List At_):=
(q6a a0 a1).bind fun (y1,y2)=>
(eachL z4z 0 y1.Attributes ([]:List At_)).bind fun s1=>
some s1
def q9t (a0:Int):Option Rl_:=
(q4b a0 0 16).bind fun y1=>
if y1=true then (
grd (0≤a0∧a0*8≤281474976710656∧a0≤9223372036854775807) <|
some (⟨a0,(List.replicate a0.toNat (0:Int))⟩:Rl_)
) else (
some (⟨0,[]⟩:Rl_)
)
def z4T (a0:Gm_):Nat→Symbol→((List Rl_))→Option ((List Rl_)):=fun k1 xk1 s1=>
(q6u a0 xk1.Name).bind fun y1=>
(q9t (y1.length:Int)).bind fun y2=>
grd (((s1.length:Int)+1)*32≤140737488355328∧(s1.length:Int)+1≤9223372036854775807) <|
some (s1++[y2])
def z2t (a0:Gm_):Option (List Rl_):=
(eachL (z4T a0) 0 a0.Symbols ([]:List Rl_)).bind fun s1=>
some s1
def q6l (k1:Nat):Nat→At_→((List Oc))→Option ((List Oc)):=fun k2 xk2 s2=>
grd (((s2.length:Int)+1)*24≤140737488355328∧(s2.length:Int)+1≤9223372036854775807) <|
some (s2++[(⟨(k1:Int),xk2.Name⟩:Oc)])
def q7M (a0:Gm_)(a1:Rule):Nat→((List Oc))→Option ((List Oc)):=fun k1 s1=>
(q7h a1 (k1:Int)).bind fun y1=>
(q6u a0 y1).bind fun y2=>
(eachL (q6l k1) 0 y2 s1).bind fun s2=>
some s2
def q8l (a0:Gm_)(a1:Rule):Option (List Oc):=
grd (I64 ((a1.Right.length+1:Nat):Int)) <|
(eachN (q7M a0 a1) 0 (a1.Right.length+1) ([]:List Oc)).bind fun s1=>
some s1
def q6v (a0:(List Oc))(a1:Oc):Option Int:=
(q3R a0 a1).bind fun y1=>
some y1
def z4U (a0:(List Int)):Option (List Int):=
grd (((([]:(List Int)).length:Int)+(a0.length:Int))*8≤140737488355328∧(([]:(List Int)).length:Int)+(a0.length:Int)≤9223372036854775807) <|
some a0
def q9V (a0:Rl_):Option Rl_:=
(z4U a0.Rows).bind fun y1=>
some (⟨a0.N,y1⟩:Rl_)
def z0q (a0:Int)(a1:Rl_):Option Bool:=
grd (0≤a1.N) <|
grd (0≤a1.N∧a1.N<63) <|
(q4b a0 0 (((2 ^ a1.N.toNat:Nat):Int)-1)).bind fun y1=>
some (!y1)
def q5p (a1_0:Rl_):Nat→Int→Unit→Option (Unit ⊕ Int):=fun k1 xk1 _=>
(z0q xk1 a1_0).bind fun y1=>
if y1=true then (
some (.inr (k1:Int))
) else (
some (.inl ())
)
def q6I (a0:(List Int))(a1_0:Rl_):Option Int:=
(findL (q5p a1_0) 0 a0 ()).bind <| onr (fun r1=>some r1) fun _=>
some (-1)
def q6n (a0:(List Int))(a1_0:Rl_):Option Bool:=
(q6I a0 a1_0).bind fun y1=>
some (decide (0≤y1))
def q5D (a0:Rl_):Option Bool:=
(q4b a0.N 0 16).bind fun y1=>
(
if y1=true then (
some (decide ((a0.Rows.length:Int)=a0.N))
) else (
some false
)
).bind fun s1=>
(
if s1=true then (
(q6n a0.Rows a0).bind fun y2=>
some (!y2)
) else (
some false
)
).bind fun s2=>
some s2
def z7Y (a0:Rl_)(a1:Int)(a2:Int):Option Rl_:=
(q9V a0).bind fun y1=>
(q5D a0).bind fun y2=>
(
if y2=true then (
grd (I64 (a0.N-1)) <|
(q4b a1 0 (a0.N-1)).bind fun y3=>
some y3
) else (
some false
)
).bind fun s1=>
(
if s1=true then (
grd (I64 (a0.N-1)) <|
(q4b a2 0 (a0.N-1)).bind fun y4=>
some y4
) else (
some false
)
).bind fun s2=>
if s2=true then (
grd (0≤a1) <|
(y1.Rows[a1.toNat]?).bind fun x1=>
grd (0≤a2) <|
grd (0≤a2∧a2<63) <|
grd (0≤x1∧0≤((2 ^ a2.toNat:Nat):Int)) <|
some (⟨y1.N,(List.set y1.Rows a1.toNat ((x1.toNat ||| ((2 ^ a2.toNat:Nat):Int).toNat:Nat):Int))⟩:Rl_)
) else (
some y1
)
def q6M (y1:(List Oc))(k1:Nat):Nat→Oc→((List Int)×Int)→Option ((List Int)×Int):=fun k2 xk2 (s3,s4)=>
(q6v y1 xk2).bind fun y6=>
(z7Y (⟨s4,s3⟩:Rl_) y6 (k1:Int)).bind fun y7=>
some (y7.Rows,y7.N)
def q6N (a1:Rule)(y1:(List Oc)):Nat→Oc→((List Int)×Int)→Option ((List Int)×Int):=fun k1 xk1 (s1,s2)=>
(q7X a1 xk1).bind fun (y3,y4)=>
(q7j y3).bind fun y5=>
(eachL (q6M y1 k1) 0 y5 (s1,s2)).bind fun (s3,s4)=>
some (s3,s4)
def q9u (a0:Gm_)(a1:Rule):Option Rl_:=
(q8l a0 a1).bind fun y1=>
(q9t (y1.length:Int)).bind fun y2=>
if 16<(y1.length:Int) then (
some (⟨0,[]⟩:Rl_)
) else (
(eachL (q6N a1 y1) 0 y1 (y2.Rows,y2.N)).bind fun (s1,s2)=>
some (⟨s2,s1⟩:Rl_)
)
def z4A (a2:Int):Nat→Oc→((List Int))→Option ((List Int)):=fun k1 xk1 s1=>
(
if xk1.Pos=a2 then (
grd (((s1.length:Int)+1)*8≤140737488355328∧(s1.length:Int)+1≤9223372036854775807) <|
some (s1++[(k1:Int)])
) else (
some s1
)
).bind fun s2=>
some s2
def q9I (a0:Gm_)(a1:Rule)(a2:Int):Option (List Int):=
(q8l a0 a1).bind fun y1=>
(eachL (z4A a2) 0 y1 ([]:List Int)).bind fun s1=>
some s1
def z2u (a0:Rl_)(a1:Int)(a2:Int):Option Bool:=
(q5D a0).bind fun y1=>
(
if y1=true then (
grd (I64 (a0.N-1)) <|
(q4b a1 0 (a0.N-1)).bind fun y2=>
some y2
) else (
some false
)
).bind fun s1=>
(
if s1=true then (
grd (I64 (a0.N-1)) <|
(q4b a2 0 (a0.N-1)).bind fun y3=>
some y3
) else (
some false
)
).bind fun s2=>
(
if s2=true then (
grd (0≤a1) <|
(a0.Rows[a1.toNat]?).bind fun x1=>
grd (0≤a2) <|
grd (0≤x1∧0≤a2∧a2<64) <|
grd (0≤((x1.toNat >>> a2.toNat:Nat):Int)∧0≤(1:Int)) <|
some (decide (((((x1.toNat >>> a2.toNat:Nat):Int).toNat &&& (1:Int).toNat:Nat):Int)=1))
) else (
some false
)
).bind fun s3=>
some s3
def z9s (a4:Rl_)(k1:Nat)(xk1:Int):Nat→Int→(Int×(List Int))→Option (Int×(List Int)):=fun k2 xk2 (s3,s4)=>
(
(z2u a4 (k1:Int) (k2:Int)).bind fun y2=>
if y2=true then (
(z7Y (⟨s3,s4⟩:Rl_) xk1 xk2).bind fun y3=>
some (y3.N,y3.Rows)
) else (
some (s3,s4)
)
).bind fun (s6,s5)=>
some (s6,s5)
def z9t (a4:Rl_)(y1:(List Int)):Nat→Int→(Int×(List Int))→Option (Int×(List Int)):=fun k1 xk1 (s1,s2)=>
(eachL (z9s a4 k1 xk1) 0 y1 (s1,s2)).bind fun (s3,s4)=>
some (s3,s4)
def j5v (a0:Gm_)(a1:Rule)(a2:Rl_)(a3:Int)(a4:Rl_):Option Rl_:=
(q9I a0 a1 a3).bind fun y1=>
(eachL (z9t a4 y1) 0 y1 (a2.N,a2.Rows)).bind fun (s1,s2)=>
some (⟨s1,s2⟩:Rl_)
def z5K (k1:Nat):Nat→((List Int))→Option ((List Int)):=fun k2 s2=>
(
(s2[k2]?).bind fun x1=>
grd (0≤x1∧0≤(k1:Int)∧(k1:Int)<64) <|
grd (0≤((x1.toNat >>> (k1:Int).toNat:Nat):Int)∧0≤(1:Int)) <|
if ((((x1.toNat >>> (k1:Int).toNat:Nat):Int).toNat &&& (1:Int).toNat:Nat):Int)=1 then (
(s2[k1]?).bind fun x2=>
grd (0≤x1∧0≤x2) <|
some (List.set s2 k2 ((x1.toNat ||| x2.toNat:Nat):Int))
) else (
some s2
)
).bind fun s3=>
some s3
def z2v:Nat→((List Int))→Option ((List Int)):=fun k1 s1=>
(eachN (z5K k1) 0 s1.length s1).bind fun s2=>
some s2
def z0H (a0:Rl_):Option Rl_:=
(q9V a0).bind fun y1=>
(q5D a0).bind fun y2=>
if y2=true then (
(eachN z2v 0 y1.Rows.length y1.Rows).bind fun s1=>
some (⟨y1.N,s1⟩:Rl_)
) else (
some y1
)
def z5L (a1:Rl_):Nat→((List Int))→Option ((List Int)):=fun k1 s3=>
(s3[k1]?).bind fun x1=>
(a1.Rows[k1]?).bind fun x2=>
grd (0≤x1∧0≤x2) <|
some (List.set s3 k1 ((x1.toNat ||| x2.toNat:Nat):Int))
def z3u (a0:Rl_)(a1:Rl_):Option Rl_:=
(q9V a0).bind fun y1=>
(q5D a0).bind fun y2=>
(
if y2=true then (
(q5D a1).bind fun y3=>
some y3
) else (
some false
)
).bind fun s1=>
(
if s1=true then (
some (decide (a0.N=a1.N))
) else (
some false
)
).bind fun s2=>
if s2=true then (
(eachN (z5L a1) 0 y1.Rows.length y1.Rows).bind fun s3=>
some (⟨y1.N,s3⟩:Rl_)
) else (
some y1
)
def z8G (a1:(List Int)):Nat→Int→Unit→Option (Unit ⊕ Bool):=fun k1 xk1 _=>
(a1[k1]?).bind fun x1=>
if xk1=x1 then (
some (.inl ())
) else (
some (.inr false)
)
def z9u (a0:(List Int))(a1:(List Int)):Option Bool:=
if (a0.length:Int)=(a1.length:Int) then (
(findL (z8G a1) 0 a0 ()).bind <| onr (fun r1=>some r1) fun _=>
some true
) else (
some false
)
def z6I (a0:Rl_)(a1:Rl_):Option Bool:=
if a0.N=a1.N then (
(z9u a0.Rows a1.Rows).bind fun y1=>
some y1
) else (
some false
)
def z4B (y1:Rl_):Nat→Int→Unit→Option (Unit ⊕ Bool):=fun k1 xk1 _=>
(z2u y1 (k1:Int) (k1:Int)).bind fun y2=>
if y2=true then (
some (.inr true)
) else (
some (.inl ())
)
def z5M (a0:Rl_):Option Bool:=
(z0H a0).bind fun y1=>
(findL (z4B y1) 0 y1.Rows ()).bind <| onr (fun r1=>some r1) fun _=>
some false
def z0T (a0:Rl_)(k1:Nat)(xk1:Int):Nat→Int→((List Int))→Option ((List Int)):=fun k2 xk2 s2=>
(
(z2u a0 xk1 xk2).bind fun y3=>
if y3=true then (
(s2[k1]?).bind fun x1=>
grd (0≤(k2:Int)∧(k2:Int)<63) <|
grd (0≤x1∧0≤((2 ^ (k2:Int).toNat:Nat):Int)) <|
some (List.set s2 k1 ((x1.toNat ||| ((2 ^ (k2:Int).toNat:Nat):Int).toNat:Nat):Int))
) else (
some s2
)
).bind fun s3=>
some s3
def z0U (a0:Rl_)(a1:(List Int)):Nat→Int→((List Int))→Option ((List Int)):=fun k1 xk1 s1=>
(eachL (z0T a0 k1 xk1) 0 a1 s1).bind fun s2=>
some s2
def z1I (a0:Rl_)(a1:(List Int)):Option Rl_:=
(q5D a0).bind fun y1=>
if y1=true then (
if 16<(a1.length:Int) then (
some (⟨0,[]⟩:Rl_)
) else (
(q9t (a1.length:Int)).bind fun y2=>
(eachL (z0U a0 a1) 0 a1 y2.Rows).bind fun s1=>
some (⟨y2.N,s1⟩:Rl_)
)
) else (
some (⟨0,[]⟩:Rl_)
)
def q8y (a0:Gm_)(s4:List Rl_)(xk2:Rule):Nat→((List Int)×Int)→Option ((List Int)×Int):=fun k3 (s6,s7)=>
(q7h xk2 (k3:Int)).bind fun y4=>
(q6R a0 y4).bind fun y5=>
grd (0≤y5) <|
(s4[y5.toNat]?).bind fun x1=>
(j5v a0 xk2 (⟨s7,s6⟩:Rl_) (k3:Int) x1).bind fun y6=>
some (y6.Rows,y6.N)
def q8z (a0:Gm_)(xk2:Rule)(y7:Rl_):Nat→((List Rl_)×Bool)→Option ((List Rl_)×Bool):=fun k4 (s8,s9)=>
(
(q7h xk2 (k4:Int)).bind fun y9=>
(q6R a0 y9).bind fun y10=>
grd (0≤y10) <|
(s8[y10.toNat]?).bind fun x2=>
(q9I a0 xk2 (k4:Int)).bind fun y11=>
(z1I y7 y11).bind fun y12=>
(z3u x2 y12).bind fun y13=>
if s9=true then (
some (true,(List.set s8 y10.toNat y13))
) else (
(z6I y13 x2).bind fun y14=>
some (!y14,(List.set s8 y10.toNat y13))
)
).bind fun (s10,s11)=>
some (s11,s10)
def q6z (a0:Gm_):Nat→Rule→((List Rl_)×Bool)→Option (((List Rl_)×Bool) ⊕ ((List Rl_)×Bool)):=fun k2 xk2 (s4,s5)=>
(q9u a0 xk2).bind fun y3=>
grd (I64 ((xk2.Right.length+1:Nat):Int)) <|
(eachN (q8y a0 s4 xk2) 0 (xk2.Right.length+1) (y3.Rows,y3.N)).bind fun (s6,s7)=>
(z0H (⟨s7,s6⟩:Rl_)).bind fun y7=>
(z5M y7).bind fun y8=>
if y8=true then (
some (.inr ([],false))
) else (
grd (I64 ((xk2.Right.length+1:Nat):Int)) <|
(eachN (q8z a0 xk2 y7) 0 (xk2.Right.length+1) (s4,s5)).bind fun (s8,s9)=>
some (.inl (s8,s9))
)
def q3M (a0:Gm_):((List Rl_)×Bool)→Option (((List Rl_)×Bool) ⊕ (((List Rl_)) ⊕ ((List Rl_)×Bool))):=fun (s2,s3)=>
if s3=true then (
(findL (q6z a0) 0 a0.Rules (s2,false)).bind <| onr (fun r1=>some (.inr (.inr r1))) fun (s4,s5)=>
some (.inl (s4,s5))
) else (
some (.inr (.inl s2))
)
def z0V (a0:Gm_):Option ((List Rl_)×Bool):=
(z2h a0).bind fun y1=>
if y1=true then (
(z2t a0).bind fun y2=>
(q4o (q3M a0) (y2,true)).bind <| onr (fun r2=>some r2) fun s1=>
some (s1,true)
) else (
some ([],false)
)
def z0r (a1:Bool):Nat→Bool→Unit→Option (Unit ⊕ Int):=fun k1 xk1 _=>
if a1=xk1 then (
some (.inr (k1:Int))
) else (
some (.inl ())
)
def z0W (a0:(List Bool))(a1:Bool):Option Int:=
(findL (z0r a1) 0 a0 ()).bind <| onr (fun r1=>some r1) fun _=>
some (-1)
def q8d (a0:(List Bool))(a1:Bool):Option Bool:=
(z0W a0 a1).bind fun y1=>
some (decide (0≤y1))
def z5i (a0:Int)(a2:Rl_)(a3:(List Bool)):Nat→At_→Unit→Option (Unit ⊕ Bool):=fun k1 xk1 _=>
(z2u a2 (k1:Int) a0).bind fun y1=>
if y1=true then (
(a3[k1]?).bind fun x1=>
if x1=true then (
some (.inl ())
) else (
some (.inr false)
)
) else (
some (.inl ())
)
def z3H (a0:Int)(a1:(List At_))(a2:Rl_)(a3:(List Bool)):Option Bool:=
(findL (z5i a0 a2 a3) 0 a1 ()).bind <| onr (fun r1=>some r1) fun _=>
some true
def q3J (a0:Int)(o0:(List At_))(o1:Rl_):((List ByteArray)×Int×(List Bool))→Option (((List ByteArray)×Int×(List Bool)) ⊕ ((List ByteArray)×(List Bool))):=fun (s3,s4,s5)=>
if s4<(o0.length:Int) then (
(
grd (0≤s4) <|
(o0[s4.toNat]?).bind fun x1=>
(
if x1.Mode=a0 then (
grd (0≤s4) <|
(s5[s4.toNat]?).bind fun x2=>
some (!x2)
) else (
some false
)
).bind fun s9=>
(
if s9=true then (
(z3H s4 o0 o1 s5).bind fun y1=>
some y1
) else (
some false
)
).bind fun s10=>
if s10=true then (
grd (((s3.length:Int)+1)*16≤140737488355328∧(s3.length:Int)+1≤9223372036854775807) <|
grd (0≤s4) <|
(s5[s4.toNat]?).bind fun x3=>
some ((s3++[x1.Name]),(-1),(List.set s5 s4.toNat true))
) else (
some (s3,s4,s5)
)
).bind fun (s6,s7,s8)=>
grd (I64 (s7+1)) <|
some (.inl (s6,(s7+1),s8))
) else (
some (.inr (s3,s5))
)
def q5w (a0:Int)(o0:(List At_))(o1:Rl_)(o2:(List Bool)):Option ((List ByteArray)×(List Bool)):=
(q4o (q3J a0 o0 o1) (([]:List ByteArray),0,o2)).bind fun (s1,s2)=>
some (s1,s2)
def z1g (a0:(List At_))(a1:Rl_):((List Phase)×(List Bool))→Option (((List Phase)×(List Bool)) ⊕ (((List Phase)×(List Bool)) ⊕ ((List Phase)×Bool))):=fun (s5,s6)=>
(
if (s5.length:Int)=0 then (
some true
) else (
(q8d s6 false).bind fun y3=>
some y3
)
).bind fun s7=>
if s7=true then (
(q5w 1 a0 a1 s6).bind fun (y4,z1)=>
(q5w 2 a0 a1 z1).bind fun (y5,z2)=>
(
if 0<(a0.length:Int) then (
grd (I64 ((y4.length+y5.length:Nat):Int)) <|
some (decide (((y4.length+y5.length:Nat):Int)=0))
) else (
some false
)
).bind fun s8=>
if s8=true then (
some (.inr (.inr ([],false)))
) else (
grd (((s5.length:Int)+1)*48≤140737488355328∧(s5.length:Int)+1≤9223372036854775807) <|
some (.inl ((s5++[(⟨y4,y5⟩:Phase)]),z2))
)
) else (
some (.inr (.inl (s5,s6)))
)
def z6s (a0:(List At_))(a1:Rl_):Option ((List Phase)×Bool):=
(q5D a1).bind fun y1=>
(
if y1=true then (
some (!(decide (a1.N=(a0.length:Int))))
) else (
some true
)
).bind fun s1=>
(
if s1=true then (
some true
) else (
(z5M a1).bind fun y2=>
some y2
)
).bind fun s2=>
if s2=true then (
some ([],false)
) else (
grd (0≤(a0.length:Int)∧(a0.length:Int)*1≤281474976710656∧(a0.length:Int)≤9223372036854775807) <|
(q4o (z1g a0 a1) (([]:List Phase),(List.replicate a0.length false))).bind <| onr (fun r1=>some r1) fun (s3,s4)=>
some (s3,true)
)
def q5g (a0:Gm_)(y1:(List Rl_)):Nat→Symbol→((List (List Phase)))→Option (((List (List Phase))) ⊕ ((List (List Phase))×Bool)):=fun k1 xk1 s1=>
(q6u a0 xk1.Name).bind fun y3=>
(y1[k1]?).bind fun x1=>
(z6s y3 x1).bind fun (y4,y5)=>
if y5=true then (
grd (((s1.length:Int)+1)*24≤140737488355328∧(s1.length:Int)+1≤9223372036854775807) <|
some (.inl (s1++[y4]))
) else (
some (.inr ([],false))
)
def q5M (a0:Gm_):Option ((List (List Phase))×Bool):=
(z0V a0).bind fun (y1,y2)=>
if y2=true then (
(findL (q5g a0 y1) 0 a0.Symbols ([]:List (List Phase))).bind <| onr (fun r1=>some r1) fun s1=>
some (s1,true)
) else (
some ([],false)
)
def z7B (o0:visits):Nat→Oc→Unit→Option (Unit ⊕ (Step×Bool×visits)):=fun k1 xk1 _=>
(q7J o0 xk1).bind fun y1=>
if y1=true then (
grd (((o0.known.length:Int)+1)*24≤140737488355328∧(o0.known.length:Int)+1≤9223372036854775807) <|
some (.inr ((⟨1,xk1.Pos,0,xk1.Name⟩:Step),true,(⟨o0.g,o0.phases,o0.r,o0.due,(o0.known++[xk1]),o0.next⟩:visits)))
) else (
some (.inl ())
)
def q8M (o0:visits):Int→Option (Int ⊕ (Unit ⊕ (Step×Bool×visits))):=fun s1=>
if s1≤(o0.r.Right.length:Int) then (
(q7c o0 s1).bind fun y2=>
if y2=true then (
(q6W s1 o0).bind fun z1=>
grd (0≤s1) <|
(z1.next[s1.toNat]?).bind fun x1=>
some (.inr (.inr ((⟨2,s1,x1,(⟨#[]⟩:ByteArray)⟩:Step),true,(⟨o0.g,o0.phases,(⟨z1.r.Name,z1.r.Left,o0.r.Right,z1.r.Literal,o0.r.Equations,o0.r.Contributions⟩:Rule),z1.due,z1.known,z1.next⟩:visits))))
) else (
grd (I64 (s1+1)) <|
some (.inl (s1+1))
)
) else (
some (.inr (.inl ()))
)
def z0E (o0:visits):Option (Step×Bool×visits):=
(findL (z7B o0) 0 o0.due ()).bind <| onr (fun r1=>some r1) fun _=>
(q4o (q8M o0) 1).bind <| onr (fun r2=>some r2) fun ()=>
some ((⟨0,0,0,(⟨#[]⟩:ByteArray)⟩:Step),false,o0)
def z5N (y1:visits):(Step×Bool×ByteArray×ByteArray×Bool×(List Oc)×(List Oc)×(List Int)×(List Step))→Option ((Step×Bool×ByteArray×ByteArray×Bool×(List Oc)×(List Oc)×(List Int)×(List Step)) ⊕ (ByteArray×ByteArray×Bool×(List Oc)×(List Oc)×(List Int)×(List Step)×Int×Int×Int×ByteArray)):=fun (s21,s22,s23,s24,s25,s26,s19,s27,s20)=>
if s22=true then (
grd (((s20.length:Int)+1)*40≤140737488355328∧(s20.length:Int)+1≤9223372036854775807) <|
(z0E (⟨y1.g,y1.phases,(⟨s23,s24,y1.r.Right,s25,y1.r.Equations,y1.r.Contributions⟩:Rule),s26,s19,s27⟩:visits)).bind fun (y5,y6,z3)=>
some (.inl (y5,y6,z3.r.Name,z3.r.Left,z3.r.Literal,z3.due,z3.known,z3.next,(s20++[s21])))
) else (
some (.inr (s23,s24,s25,s26,s19,s27,s20,s21.Kind,s21.Pos,s21.Visit,s21.Name))
)
def z3S (y1:visits):Nat→Phase→(ByteArray×ByteArray×Bool×(List Oc)×(List Oc)×(List Int)×(List Step))→Option ((ByteArray×ByteArray×Bool×(List Oc)×(List Oc)×(List Int)×(List Step)) ⊕ (RPl_×Bool)):=fun k1 xk1 (s3,s4,s5,s6,s1,s7,s2)=>
(q6V 0 xk1.Inherited (⟨y1.g,y1.phases,(⟨s3,s4,y1.r.Right,s5,y1.r.Equations,y1.r.Contributions⟩:Rule),s6,s1,s7⟩:visits)).bind fun z1=>
(z0E (⟨y1.g,y1.phases,(⟨z1.r.Name,z1.r.Left,y1.r.Right,z1.r.Literal,y1.r.Equations,y1.r.Contributions⟩:Rule),z1.due,z1.known,z1.next⟩:visits)).bind fun (y3,y4,z2)=>
(q4o (z5N y1) (y3,y4,z2.r.Name,z2.r.Left,z2.r.Literal,z2.due,z2.known,z2.next,s2)).bind fun (s10,s11,s12,s13,s8,s14,s9,s15,s16,s17,s18)=>
(q7Y (⟨y1.g,y1.phases,(⟨s10,s11,y1.r.Right,s12,y1.r.Equations,y1.r.Contributions⟩:Rule),s13,s8,s14⟩:visits) 0 xk1.Synthesized).bind fun y7=>
if y7=true then (
grd (((s9.length:Int)+1)*40≤140737488355328∧(s9.length:Int)+1≤9223372036854775807) <|
some (.inl (s10,s11,s12,s13,s8,s14,(s9++[(⟨3,0,((k1+1:Nat):Int),(⟨#[]⟩:ByteArray)⟩:Step)])))
) else (
some (.inr ((⟨(⟨#[]⟩:ByteArray),[]⟩:RPl_),false))
)
def z9v (a0:Gm_)(a1:(List (List Phase)))(a2:Rule):Option (RPl_×Bool):=
(z2i a0 a1 a2).bind fun y1=>
(q5k 0 y1).bind fun y2=>
(findL (z3S y1) 0 y2 (y1.r.Name,y1.r.Left,y1.r.Literal,y1.due,y1.known,y1.next,([]:List Step))).bind <| onr (fun r1=>some r1) fun (s3,s4,s5,s6,s1,s7,s2)=>
(q5C (⟨y1.g,y1.phases,(⟨s3,s4,y1.r.Right,s5,y1.r.Equations,y1.r.Contributions⟩:Rule),s6,s1,s7⟩:visits)).bind fun y8=>
some ((⟨a2.Name,s2⟩:RPl_),y8)
def z1J (a0:Gm_)(y1:(List (List Phase))):Nat→Rule→((List RPl_))→Option (((List RPl_)) ⊕ ((List RPl_)×Bool)):=fun k1 xk1 s1=>
(z9v a0 y1 xk1).bind fun (y3,y4)=>
if y4=true then (
grd (((s1.length:Int)+1)*40≤140737488355328∧(s1.length:Int)+1≤9223372036854775807) <|
some (.inl (s1++[y3]))
) else (
some (.inr ([],false))
)
def j0L (a0:Gm_):Option ((List RPl_)×Bool):=
(q5M a0).bind fun (y1,y2)=>
if y2=true then (
(findL (z1J a0 y1) 0 a0.Rules ([]:List RPl_)).bind <| onr (fun r1=>some r1) fun s1=>
some (s1,true)
) else (
some ([],false)
)
end Go.Proofs.YtppbkkcekpbaiaaGreat
namespace Go.E
section
variable {α σ ρ:Type}
theorem z4C {c:ρ}:∀ {xs:List α} {i:Nat} {p:Nat→α→Prop} {f:Nat→α→Unit→Option (Unit ⊕ ρ)},(∀ k x,xs[k]?=some x→(p (i+k) x→f (i+k) x ()=some (.inr c))∧(¬ p (i+k) x→f (i+k) x ()=some (.inl ()))) →
  ((∃ k x,xs[k]?=some x∧p (i+k) x)→findL f i xs ()=some (.inr c))∧((∀ k x,xs[k]?=some x→¬ p (i+k) x)→findL f i xs ()=some (.inl ()))
 | [],i,p,f,_=>⟨fun ⟨k,x,h,_⟩=>by simp at h,fun _=>rfl⟩
 | x::xs,i,p,f,h=>by
  have h0:=h 0 x rfl
  simp only[Nat.add_zero] at h0
  have ih:=z4C (c:=c) (xs:=xs) (i:=i+1) (p:=p) (f:=f) fun k y hy=>by
   have:=h (k+1) y hy
   rwa[show i+(k+1)=i+1+k by omega] at this
  by_cases hp:p i x
  ·refine⟨fun _=>by simp[findL,h0.1 hp],fun hn=>absurd hp (hn 0 x rfl)⟩
  ·simp only[findL,h0.2 hp,bsS]
   refine⟨?_,?_⟩
   ·rintro⟨k,y,hy,hpy⟩
    cases k with
    | zero=>simp at hy;subst hy;exact absurd hpy hp
    | succ k=>exact ih.1 ⟨k,y,hy,by rwa[show i+1+k=i+(k+1) by omega]⟩
   ·intro hn
    exact ih.2 fun k y hy hpy=>hn (k+1) y hy (by rwa[show i+(k+1)=i+1+k by omega])
theorem z9w {c:ρ}:∀ {n i:Nat} {p:Nat→Prop} {f:Nat→Unit→Option (Unit ⊕ ρ)},(∀ k,k<n→(p (i+k)→f (i+k) ()=some (.inr c))∧(¬ p (i+k)→f (i+k) ()=some (.inl ()))) →
  ((∃ k,k<n∧p (i+k))→findN f i n ()=some (.inr c))∧((∀ k,k<n→¬ p (i+k))→findN f i n ()=some (.inl ()))
 | 0,i,p,f,_=>⟨fun ⟨k,h,_⟩=>by omega,fun _=>rfl⟩
 | n+1,i,p,f,h=>by
  have h0:=h 0 (by omega)
  simp only[Nat.add_zero] at h0
  have ih:=z9w (c:=c) (n:=n) (i:=i+1) (p:=p) (f:=f) fun k hk=>by
   have:=h (k+1) (by omega)
   rwa[show i+(k+1)=i+1+k by omega] at this
  by_cases hp:p i
  ·refine⟨fun _=>by simp[findN,h0.1 hp],fun hn=>absurd hp (hn 0 (by omega))⟩
  ·simp only[findN,h0.2 hp,bsS]
   refine⟨?_,?_⟩
   ·rintro⟨k,hk,hpk⟩
    cases k with
    | zero=>exact absurd hpk hp
    | succ k=>exact ih.1 ⟨k,by omega,by rwa[show i+1+k=i+(k+1) by omega]⟩
   ·intro hn
    exact ih.2 fun k hk hpk=>hn (k+1) (by omega) (by rwa[show i+(k+1)=i+1+k by omega])
theorem j9B [DecidableEq α]{y:α}:∀ {xs:List α} {i:Nat} {f:Nat→α→Unit→Option (Unit ⊕ Int)},(∀ k x,(x=y→f k x ()=some (.inr (k:Int)))∧(x≠y→f k x ()=some (.inl ()))) →
  findL f i xs ()=some (if y∈xs then .inr ((i+xs.idxOf y:Nat):Int) else .inl ())
 | [],i,f,_=>by simp[findL]
 | x::xs,i,f,h=>by
  by_cases hx:x=y
  ·subst hx;simp[findL,(h i x).1 rfl]
  ·have hx' : (x == y)=false:=by simpa using hx
   simp only[findL,(h i x).2 hx,bsS,j9B (xs:=xs) (i:=i+1) h,List.mem_cons,List.idxOf_cons,hx',cond_false]
   by_cases hy:y∈xs
   ·simp[hy];omega
   ·have:¬ y=x:=fun e=>hx e.symm
    simp[hy,this]
theorem j2K [DecidableEq α]{y:α}{xs:List α}{f:Nat→α→Unit→Option (Unit ⊕ Int)}(h:∀ k x,(x=y→f k x ()=some (.inr (k:Int)))∧(x≠y→f k x ()=some (.inl ()))) :
  (findL f 0 xs ()).bind (onr (fun r1=>some r1) fun _=>some (-1))=some (ixF xs y):=by
 rw[j9B h]
 unfold ixF
 by_cases hy:y∈xs<;>simp[hy]
theorem j1u {P:Nat→σ→Prop}:∀ {n i:Nat} {s:σ} {f:Nat→σ→Option σ},P i s→(∀ k s,i≤k→k<i+n→P k s→∃ s',f k s=some s'∧P (k+1) s')→∃ s',eachN f i n s=some s'∧P (i+n) s'
 | 0,i,s,f,h,_=>⟨s,rfl,h⟩
 | n+1,i,s,f,h,hs=>by
  obtain⟨s1,h1,h2⟩:=hs i s (Nat.le_refl _) (by omega) h
  obtain⟨s2,h3,h4⟩:=j1u (P:=P) (n:=n) (i:=i+1) (f:=f) h2 fun k s hk hk2 hp=>hs k s (by omega) (by omega) hp
  exact⟨s2,by simp[eachN,h1,h3],by rw[show i+(n+1)=i+1+n by omega];exact h4⟩
end
end Go.E
noncomputable section
namespace Go.Proofs.YtppbkkcekpbaiaaGreat
open Go Go.E
open Go.E.Sz (szd)
instance:Sz At_ where
 szd x:=x.Name.size
theorem j5w (x:At_):Sz.szd x=x.Name.size:=rfl
instance:Sz Symbol where
 szd x:=x.Name.size+szL x.Attributes
theorem j4l (x:Symbol):Sz.szd x=x.Name.size+szL x.Attributes:=rfl
mutual
def z1K:Expr→Nat
 | ⟨a0,a1,a2,a3,a4,a5,a6⟩=>a4.size+a5.size+z4V a6
def z4V:List Expr→Nat
 | []=>0
 | x::xs=>1+z1K x+z4V xs
end
instance:Sz Expr:=⟨z1K⟩
theorem j8u (a:List Expr):z4V a=szL a:=by
 induction a with
 | nil=>rfl
 | cons x xs ih=>simp only[z4V,szL,ih];rfl
theorem z0k (x:Expr):Sz.szd x=x.Symbol.size+x.Name.size+szL x.Args:=by
 cases x;show z1K _=_;simp only[z1K,j8u]
instance:Sz Eqn where
 szd x:=x.At.Name.size+x.Expr.Symbol.size+x.Expr.Name.size+szL x.Expr.Args
theorem j0M (x:Eqn):Sz.szd x=x.At.Name.size+x.Expr.Symbol.size+x.Expr.Name.size+szL x.Expr.Args:=rfl
instance:Sz Cn where
 szd x:=x.Symbol.size+x.Name.size+x.Target.Symbol.size+x.Target.Name.size+szL x.Target.Args+x.Value.Symbol.size+x.Value.Name.size+szL x.Value.Args
theorem z6J (x:Cn):Sz.szd x=x.Symbol.size+x.Name.size+x.Target.Symbol.size+x.Target.Name.size+szL x.Target.Args+x.Value.Symbol.size+x.Value.Name.size+szL x.Value.Args:=rfl
instance:Sz Rule where
 szd x:=x.Name.size+x.Left.size+szL x.Right+szL x.Equations+szL x.Contributions
theorem z9x (x:Rule):Sz.szd x=x.Name.size+x.Left.size+szL x.Right+szL x.Equations+szL x.Contributions:=rfl
instance:Sz Gm_ where
 szd x:=szL x.Symbols+szL x.Rules
theorem z6t (x:Gm_):Sz.szd x=szL x.Symbols+szL x.Rules:=rfl
end Go.Proofs.YtppbkkcekpbaiaaGreat
namespace Go.E
section
variable {α:Type}{lt:α→α→Bool}
theorem j4m (irr:∀ a,lt a a=false)(tr:∀ a b c,lt a b=true→lt b c=true→lt a c=true) :
  ∀ {xs ys:List α},xs.Pairwise (fun a b=>lt a b=true)→ys.Pairwise (fun a b=>lt a b=true)→(∀ a,a∈xs↔a∈ys)→xs=ys
 | [],[],_,_,_=>rfl
 | [],y::ys,_,_,h=>absurd ((h y).2 (by simp)) (by simp)
 | x::xs,[],_,_,h=>absurd ((h x).1 (by simp)) (by simp)
 | x::xs,y::ys,hx,hy,h=>by
  rw[List.pairwise_cons] at hx hy
  have asym:∀ a b,lt a b=true→lt b a=true→False:=fun a b h1 h2=>by have:=tr a b a h1 h2;rw[irr] at this;cases this
  have hxy:x=y:=by
   have h1:=(h x).1 (by simp)
   have h2:=(h y).2 (by simp)
   rcases List.mem_cons.1 h1 with e|h1
   ·exact e
   rcases List.mem_cons.1 h2 with e|h2
   ·exact e.symm
   exact (asym x y (hx.1 y h2) (hy.1 x h1)).elim
  subst hxy
  congr 1
  refine j4m irr tr hx.2 hy.2 fun a=>?_
  constructor
  ·intro ha
   rcases List.mem_cons.1 ((h a).1 (by simp[ha])) with e|h1
   ·subst e;have:=hx.1 _ ha;rw[irr] at this;cases this
   ·exact h1
  ·intro ha
   rcases List.mem_cons.1 ((h a).2 (by simp[ha])) with e|h1
   ·subst e;have:=hy.1 _ ha;rw[irr] at this;cases this
   ·exact h1
theorem k0S (tr:∀ a b c,lt a b=true→lt b c=true→lt a c=true)(tot:∀ a b,lt a b=false→lt b a=false→a=b){l:List α}{o:α}{k:Nat}(hl:l.Pairwise (fun a b=>lt a b=true))
  (hb:∀ a∈l.take k,lt a o=true) (ha:∀ y,l[k]?=some y→lt y o=false∧y≠o):(l.take k++o::l.drop k).Pairwise (fun a b=>lt a b=true):=by
 have hs:(l.take k++l.drop k).Pairwise (fun a b=>lt a b=true):=by rw[List.take_append_drop];exact hl
 rw[List.pairwise_append] at hs
 have ho:∀ z∈l.drop k,lt o z=true:=by
  cases hd:l.drop k with
  | nil=>intro z hz;cases hz
  | cons y r=>
   have hy:l[k]?=some y:=by
    have:(l.drop k)[0]?=some y:=by rw[hd];rfl
    simpa using this
   obtain⟨h1,h2⟩:=ha y hy
   have h3:lt o y=true:=by
    cases h:lt o y with
    | true=>rfl
    | false=>exact absurd (tot _ _ h1 h) h2
   intro z hz
   rcases List.mem_cons.1 hz with e|hz
   ·rw[e];exact h3
   ·have:=hs.2.1;rw[hd,List.pairwise_cons] at this
    exact tr _ _ _ h3 (this.1 z hz)
 rw[List.pairwise_append,List.pairwise_cons]
 refine⟨hs.1,⟨ho,hs.2.1⟩,fun a h1 b h2=>?_⟩
 rcases List.mem_cons.1 h2 with e|h2
 ·rw[e];exact hb a h1
 ·exact hs.2.2 a h1 b h2
end
section
variable {α:Type}[DecidableEq α]{lt:α→α→Bool}
def q5s:List α→List α
 | []=>[]
 | [x]=>[x]
 | x::y::l=>if x=y then q5s (y::l) else x::q5s (y::l)
theorem z7C {a:α}:∀ {l:List α},a∈q5s l↔a∈l
 | []=>Iff.rfl
 | [x]=>Iff.rfl
 | x::y::l=>by
  unfold q5s
  have ih:=z7C (a:=a) (l:=y::l)
  split
  ·rename_i e;subst e;rw[ih];simp
  ·rw[List.mem_cons,ih];simp
theorem z7D (tr:∀ a b c,lt a b=true→lt b c=true→lt a c=true)(tot:∀ a b,lt a b=false→lt b a=false→a=b) :
  ∀ {l:List α},l.Pairwise (fun a b=>lt b a=false)→(q5s l).Pairwise (fun a b=>lt a b=true)
 | [],_=>List.Pairwise.nil
 | [x],_=>by simp[q5s]
 | x::y::l,h=>by
  unfold q5s
  rw[List.pairwise_cons] at h
  have ih:=z7D tr tot h.2
  split
  ·exact ih
  ·rename_i hne
   rw[List.pairwise_cons]
   refine⟨fun z hz=>?_,ih⟩
   have h1:lt x y=true:=by
    cases e:lt x y with
    | true=>rfl
    | false=>exact absurd (tot _ _ e (h.1 y (by simp))) hne
   rcases List.mem_cons.1 (z7C.1 hz) with e|hz
   ·rw[e];exact h1
   ·have h2:=(List.pairwise_cons.1 h.2).1 z hz
    cases e:lt y z with
    | true=>exact tr _ _ _ h1 e
    | false=>rw[← tot _ _ e h2];exact h1
theorem z9y {a:α}:∀ {l:List α},q5s (l++[a])=if l.getLast?=some a then q5s l else q5s l++[a]
 | []=>by simp[q5s]
 | [x]=>by
  simp only[q5s,List.cons_append,List.nil_append,List.getLast?_singleton,Option.some.injEq]
  by_cases e:x=a
  ·subst e;simp
  ·simp[e]
 | x::y::l=>by
  have ih:=z9y (a:=a) (l:=y::l)
  simp only[List.cons_append] at ih ⊢
  have e:(x::y::l).getLast?=(y::l).getLast?:=by simp[List.getLast?_cons_cons]
  rw[e]
  show (if x=y then q5s (y::(l++[a])) else x::q5s (y::(l++[a])))=_
  rw[ih]
  show _=if (y::l).getLast?=some a then (if x=y then q5s (y::l) else x::q5s (y::l)) else (if x=y then q5s (y::l) else x::q5s (y::l))++[a]
  split<;>split<;>simp
theorem z9z {l:List α}{i:Nat}{a b:α}(ha:l[i]?=some a)(hb:l[i+1]?=some b):q5s (l.take (i+2))=if a=b then q5s (l.take (i+1)) else q5s (l.take (i+1))++[b]:=by
 have h1:l.take (i+2)=l.take (i+1)++[b]:=by rw[show i+2=(i+1)+1 from rfl,List.take_add_one,hb];rfl
 have h2:(l.take (i+1)).getLast?=some a:=by rw[List.take_add_one,ha];simp
 rw[h1,z9y,h2]
 by_cases e:a=b
 ·simp[e]
 ·simp[e]
end
end Go.E
namespace Go.Proofs.YtppbkkcekpbaiaaGreat
open Go Go.E
mutual
def z6u:Expr→List Oc
 | ⟨a0,a1,a2,a3,a4,a5,a6⟩=>(if a0=3 then [⟨a2,a5⟩] else [])++z1L a6
def z1L:List Expr→List Oc
 | []=>[]
 | x::xs=>z6u x++z1L xs
end
mutual
def fuE:Expr→Nat
 | ⟨_,_,_,_,_,_,a6⟩=>fuEs a6+1
def fuEs:List Expr→Nat
 | []=>0
 | x::xs=>max (fuE x) (fuEs xs)
end
theorem j0N (e:Expr):fuE e=fuEs e.Args+1:=by cases e;rfl
theorem j5x:∀ {l:List Expr} {x:Expr},x∈l→fuE x≤fuEs l
 | y::l,x,h=>by
  simp only[fuEs]
  rcases List.mem_cons.1 h with e|h
  ·subst e;omega
  ·have:=j5x h;omega
theorem z6v (e:Expr):z6u e=(if e.Kind=3 then [⟨e.Pos,e.Name⟩] else [])++z1L e.Args:=by cases e;rfl
mutual
theorem j6Z:∀ e:Expr,(z6u e).length≤1+z1K e
 | ⟨a0,a1,a2,a3,a4,a5,a6⟩=>by
  have:=j4n a6
  simp only[z6u,z1K,List.length_append]
  split<;>simp<;>omega
theorem j4n:∀ l:List Expr,(z1L l).length≤z4V l
 | []=>by simp[z1L]
 | x::xs=>by
  have h1:=j6Z x
  have h2:=j4n xs
  simp only[z1L,z4V,List.length_append];omega
end
theorem z9A {α:Type}[Sz α]{x:α}:∀ {l:List α},x∈l→Sz.szd x<szL l
 | [],h=>by simp at h
 | y::l,h=>by
  rcases List.mem_cons.1 h with rfl|h
  ·simp only[szL];omega
  ·have:=z9A h;simp only[szL];omega
theorem k5H {e x:Expr}(h:x∈e.Args):Sz.szd x<Sz.szd e:=by
 have h1:=z0k e
 have h2:=z9A h
 omega
theorem k2i {e:Expr}(h:Sz.szd e≤1048576):(z6u e).length≤1048577:=by
 have h1:=j6Z e
 have h2:z1K e=Sz.szd e:=rfl
 omega
theorem j8v:∀ (m:Nat) (e:Expr) (o:List Oc),fuE e≤m→o.length+(z6u e).length≤4398046511104→q4R m e o=some (true,o++z6u e):=by
 intro m
 induction m with
 | zero=>intro e o h;rw[j0N] at h;omega
 | succ m ih=>
  have hl:∀ (l:List Expr) (i:Nat) (o:List Oc),fuEs l≤m→o.length+(z1L l).length≤4398046511104→findL (q4v (q4R m)) i l o=some (.inl (o++z1L l)):=by
   intro l
   induction l with
   | nil=>intro i o _ _;simp[findL,z1L]
   | cons x l ihl=>
    intro i o hf hb
    simp only[fuEs] at hf
    simp only[z1L,List.length_append] at hb
    have hx:=ih x o (by omega) (by omega)
    simp only[findL,q4v,q5P,hx,bsS,Bool.not_true,Bool.false_eq_true,if_false]
    rw[ihl _ _ (by omega) (by rw[List.length_append];omega),z1L,List.append_assoc]
  intro e o hf hb
  rw[j0N] at hf
  show q5m (q4R m) e o=_
  have hb':=hb
  rw[z6v,List.length_append] at hb'
  have h1:q8o e o=some (true,o++if e.Kind=3 then [⟨e.Pos,e.Name⟩] else []):=by
   unfold q8o
   by_cases hk:e.Kind=3
   ·rw[ifP hk] at hb' ⊢
    rw[ifP hk,q3E]
    simp only[lnC,List.length_nil] at hb'
    constructor<;>omega
   ·rw[ifN hk,ifN hk,List.append_nil]
  unfold q5m
  rw[h1,bsS]
  dsimp only
  rw[ifP rfl]
  unfold q3P q3U
  rw[hl _ _ _ (by omega) (by rw[List.length_append];omega),z6v]
  simp[onr]
theorem k4l {e:Expr}(h:(z6u e).length≤4398046511104):q7i e []=some (true,z6u e):=
 z0L (fuE e) fun m hm=>by simpa using j8v m e [] hm (by simpa using h)
theorem j8w {α:Type}{s:List α}{k:Nat}{x:α}(h:k<s.length):(s.set k x).take (k+1)=s.take k++[x]:=by
 rw[List.take_add_one,List.take_set,List.set_eq_of_length_le (by simp;omega)]
 simp[List.getElem?_set,h]
theorem k0T {a:List Oc}{b:Nat}(ha:a.length≤4398046511104)(hb:1≤b)(hba:b<a.length):∀ (m j k:Nat) (s:List Oc),b+j+m=a.length→1≤j→1≤k→k≤b+j-1→s.length=a.length→s.take k=q5s (a.take (b+j))→s.drop (b+j-1)=a.drop (b+j-1) →
  ∃ s' k',q4o (q4f (b:Int)) (s,(k:Int),(j:Int))=some (s',((k' : Nat):Int))∧k'≤s'.length∧s'.take k'=q5s a:=by
 intro m
 induction m with
 | zero=>
  intro j k s hm hj hk hkj hs ht hd
  refine⟨s,k,q3F ?_,by omega,?_⟩
  ·unfold q4f
   dsimp only
   rw[ifN (by simp only[tnC,List.length_drop];omega)]
  ·rw[ht,show b+j=a.length by omega,List.take_length]
 | succ m ih=>
  intro j k s hm hj hk hkj hs ht hd
  obtain⟨x,hx⟩:∃ x,a[b+j]?=some x:=⟨_,List.getElem?_eq_getElem (by omega)⟩
  obtain⟨y,hy⟩:∃ y,a[b+j-1]?=some y:=⟨_,List.getElem?_eq_getElem (by omega)⟩
  obtain⟨z,hz⟩:∃ z,s[k]?=some z:=⟨_,List.getElem?_eq_getElem (by omega)⟩
  have hsx:s[b+j]?=some x:=by
   have:=congrArg (fun l=>l[1]?) hd
   simp only[List.getElem?_drop] at this
   rw[show b+j-1+1=b+j by omega] at this
   rw[this,hx]
  have hsy:s[b+(j-1)]?=some y:=by
   have:=congrArg (fun l=>l[0]?) hd
   simp only[List.getElem?_drop,Nat.add_zero] at this
   rw[show b+(j-1)=b+j-1 by omega,this,hy]
  have hc:=z9z (i:=b+j-1) (b:=x) hy (by rw[show b+j-1+1=b+j by omega];exact hx)
  rw[show b+j-1+2=b+(j+1) by omega,show b+j-1+1=b+j by omega] at hc
  have hd2:s.drop (b+(j+1)-1)=a.drop (b+(j+1)-1):=by
   have:=congrArg (fun l=>l.drop 1) hd
   simp only[List.drop_drop] at this
   rw[show b+(j+1)-1=b+j-1+1 by omega];exact this
  have e1:((j:Int)-1).toNat=j-1:=by omega
  by_cases hxy:x=y
  ·have e:q4f (b:Int) (s,(k:Int),(j:Int))=some (.inl (s,(k:Int),((j+1:Nat):Int))):=by
    unfold q4f
    dsimp only
    rw[ifP (by simp only[tnC,List.length_drop];omega),q3E (by omega)]
    simp only[tnC]
    rw[hsx,bsS,q3E (by constructor<;>omega),q3E (by omega),e1,hsy,bsS,ifP hxy,bsS]
    dsimp only
    rw[q3E (by constructor<;>omega)];rfl
   rw[q3L e]
   exact ih (j+1) k s (by omega) (by omega) hk (by omega) hs (by rw[hc,ifP hxy.symm,ht]) hd2
  ·have e:q4f (b:Int) (s,(k:Int),(j:Int))=some (.inl (s.set k x,((k+1:Nat):Int),((j+1:Nat):Int))):=by
    unfold q4f
    dsimp only
    rw[ifP (by simp only[tnC,List.length_drop];omega),q3E (by omega)]
    simp only[tnC]
    rw[hsx,bsS,q3E (by constructor<;>omega),q3E (by omega),e1,hsy,bsS,ifN hxy,q3E (by omega),q3E (by omega),hz,bsS,q3E (by constructor<;>omega),bsS]
    dsimp only
    rw[q3E (by constructor<;>omega)];rfl
   rw[q3L e]
   refine ih (j+1) (k+1) _ (by omega) (by omega) (by omega) (by omega) (by rw[List.length_set];exact hs) ?_ ?_
   ·rw[j8w (by omega),ht,hc,ifN (fun h=>hxy h.symm)]
   ·rw[List.drop_set,ifP (by omega)];exact hd2
theorem j8x {a:List Oc}(ha:a.length≤4398046511104):∀ (m k:Nat),k+m=a.length→1≤k→q5s (a.take k)=a.take k →
  (q4o (q4g a) (k:Int)).bind (onr (fun r1=>some r1) fun _=>some a)=some (q5s a):=by
 intro m
 induction m with
 | zero=>
  intro k hm hk hc
  have e:q4g a (k:Int)=some (.inr (.inl ())):=by
   unfold q4g
   dsimp only
   rw[ifN (by omega)]
  rw[q3F e,bsS]
  show some a=_
  rw[show k=a.length by omega,List.take_length] at hc
  rw[hc]
 | succ m ih=>
  intro k hm hk hc
  obtain⟨x,hx⟩:∃ x,a[k]?=some x:=⟨_,List.getElem?_eq_getElem (by omega)⟩
  obtain⟨y,hy⟩:∃ y,a[k-1]?=some y:=⟨_,List.getElem?_eq_getElem (by omega)⟩
  have hct:=z9z (i:=k-1) (b:=x) hy (by rw[show k-1+1=k by omega];exact hx)
  rw[show k-1+2=k+1 by omega,show k-1+1=k by omega] at hct
  have htk:a.take (k+1)=a.take k++[x]:=by rw[List.take_add_one,hx];rfl
  have e1:((k:Int)-1).toNat=k-1:=by omega
  by_cases hxy:x=y
  ·obtain⟨s',k',h1,h2,h3⟩:=k0T (b:=k) ha hk (by omega) m 1 k a (by omega) (by omega) hk (by omega) rfl (by rw[hct,ifP hxy.symm,hc]) rfl
   have hl:(s'.take k'++List.replicate (s'.length-k') (⟨(0:Int),(⟨#[]⟩:ByteArray)⟩:Oc)).take k'=q5s a:=by
    rw[List.take_append_of_le_length (by simp;omega),List.take_take,Nat.min_self,h3]
   have e:q4g a (k:Int)=some (.inr (.inr (q5s a))):=by
    unfold q4g
    dsimp only
    rw[ifP (by omega),q3E (by omega)]
    simp only[tnC]
    rw[hx,bsS,q3E (by constructor<;>omega),q3E (by omega),e1,hy,bsS,ifP hxy,q3E (by omega),q3E (by omega)]
    have h1' : q4o (q4f (k:Int)) (a,(k:Int),1)=some (s',((k' : Nat):Int)):=h1
    rw[h1',bsS]
    dsimp only
    simp only[tnC]
    rw[q3E (by omega),q3E (by omega),q3E (by omega),q3E (by simp;omega),hl]
   rw[q3F e,bsS];rfl
  ·have e:q4g a (k:Int)=some (.inl ((k+1:Nat):Int)):=by
    unfold q4g
    dsimp only
    rw[ifP (by omega),q3E (by omega)]
    simp only[tnC]
    rw[hx,bsS,q3E (by constructor<;>omega),q3E (by omega),e1,hy,bsS,ifN hxy,q3E (by constructor<;>omega)];rfl
   rw[q3L e]
   exact ih (k+1) (by omega) (by omega) (by rw[hct,ifN (fun h=>hxy h.symm),hc,htk])
theorem k0U {a:List Oc}(ha:a.length≤4398046511104):q5H a=some (q5s a):=by
 unfold q5H
 by_cases h:(a.length:Int)<2
 ·rw[ifP h]
  match a,h with
  | [],_=>rfl
  | [x],_=>rfl
  | x::y::l,h=>simp only[lnC] at h;omega
 ·rw[ifN h]
  refine j8x ha (a.length-1) 1 (by omega) (Nat.le_refl _) ?_
  match a,h with
  | x::l,_=>rfl
def attrs (e:Expr):List Oc:=q5s (j6A (z6u e))
theorem k2j {o:Oc}{e:Expr}:o∈attrs e↔o∈z6u e:=by
 unfold attrs j6A
 rw[z7C,List.mem_mergeSort]
theorem j1v {e:Expr}(h:Sz.szd e≤1048576):q7j e=some (attrs e):=by
 have hl:=k2i h
 have hs:(j6A (z6u e)).length=(z6u e).length:=by unfold j6A;exact List.length_mergeSort _
 unfold q7j
 rw[k4l (by omega),bsS]
 dsimp only
 unfold q6m
 rw[q3E (by omega),bsS,k0U (by omega)];rfl
theorem z6K (e:Expr):1≤fuE e:=by rw[j0N];omega
theorem z6L {e x:Expr}(hx:x∈e.Args):fuE x+1≤fuE e:=by
 have:=j5x hx
 have:=j0N e
 omega
theorem z1M {P:Expr→Prop}(h:∀ e,(∀ x∈e.Args,P x)→P e)(e:Expr):P e:=by
 have:∀ n e,fuE e≤n→P e:=by
  intro n
  induction n with
  | zero=>intro e he;have:=z6K e;omega
  | succ n ih=>intro e he;exact h e fun x hx=>ih x (by have:=z6L hx;omega)
 exact this _ e (Nat.le_refl _)
theorem q4K {α ρ:Type}{c:ρ}{q:α→Bool}:∀ {xs:List α} {i:Nat} {f:Nat→α→Unit→Option (Unit ⊕ ρ)},(∀ k x,x∈xs→f k x ()=some (if q x=true then .inl () else .inr c))→findL f i xs ()=some (if xs.all q=true then .inl () else .inr c)
 | [],i,f,h=>rfl
 | x::xs,i,f,h=>by
  rw[findL,h i x (by simp)]
  by_cases hx:q x=true
  ·rw[ifP hx,bsS]
   show findL f (i+1) xs ()=_
   rw[q4K fun k y hy=>h k y (by simp[hy])]
   simp[hx]
  ·rw[ifN hx];simp[hx]
theorem j2L {α:Type}{q:α→Bool}:∀ {xs:List α} {i:Nat} {f:Nat→α→Unit→Option (Unit ⊕ Int)},(∀ k x,x∈xs→f k x ()=some (if q x=true then .inr (k:Int) else .inl ()))→findL f i xs ()=some (if xs.any q=true then .inr ((i+xs.findIdx q:Nat):Int) else .inl ())
 | [],i,f,h=>rfl
 | x::xs,i,f,h=>by
  rw[findL,h i x (by simp)]
  by_cases hx:q x=true
  ·rw[ifP hx];simp[hx,List.findIdx_cons]
  ·rw[ifN hx,bsS]
   show findL f (i+1) xs ()=_
   rw[j2L fun k y hy=>h k y (by simp[hy])]
   have hx' : q x=false:=by simpa using hx
   simp only[List.any_cons,hx',Bool.false_or,List.findIdx_cons,cond_false]
   rw[show i+1+xs.findIdx q=i+(xs.findIdx q+1) by omega]
mutual
def allE (p:Expr→Bool):Expr→Bool
 | ⟨a0,a1,a2,a3,a4,a5,a6⟩=>p ⟨a0,a1,a2,a3,a4,a5,a6⟩&&k4m p a6
def k4m (p:Expr→Bool):List Expr→Bool
 | []=>true
 | x::xs=>allE p x&&k4m p xs
end
mutual
def cntE:Expr→Nat
 | ⟨_,_,_,_,_,_,a6⟩=>z6w a6+1
def z6w:List Expr→Nat
 | []=>0
 | x::xs=>cntE x+z6w xs
end
mutual
def depE:Expr→Nat
 | ⟨_,_,_,_,_,_,a6⟩=>j3P a6+1
def j3P:List Expr→Nat
 | []=>0
 | x::xs=>max (depE x) (j3P xs)
end
theorem j9C (p:Expr→Bool):∀ l,k4m p l=l.all (allE p)
 | []=>rfl
 | x::xs=>by rw[k4m,j9C p xs];rfl
theorem j0b (p:Expr→Bool)(e:Expr):allE p e=(p e&&e.Args.all (allE p)):=by
 cases e;rw[allE,j9C]
theorem j0c (e:Expr):cntE e=z6w e.Args+1:=by cases e;rfl
theorem k2k (e:Expr):depE e=j3P e.Args+1:=by cases e;rfl
mutual
theorem j5y:∀ e:Expr,cntE e≤1+z1K e
 | ⟨a0,a1,a2,a3,a4,a5,a6⟩=>by
  have:=j7a a6
  simp only[cntE,z1K];omega
theorem j7a:∀ l:List Expr,z6w l≤z4V l
 | []=>by simp[z6w]
 | x::xs=>by
  have h1:=j5y x
  have h2:=j7a xs
  simp only[z6w,z4V];omega
end
theorem k5I {e:Expr}(h:Sz.szd e≤1048576):cntE e≤1048577:=by
 have h1:=j5y e
 have h2:z1K e=Sz.szd e:=rfl
 omega
mutual
theorem k2l:∀ e:Expr,depE e≤cntE e
 | ⟨_,_,_,_,_,_,a6⟩=>by
  have:=j9D a6
  simp only[depE,cntE];omega
theorem j9D:∀ l:List Expr,j3P l≤z6w l
 | []=>Nat.le_refl _
 | x::xs=>by
  have h1:=k2l x
  have h2:=j9D xs
  simp only[j3P,z6w];omega
end
theorem j7b:∀ {l:List Expr} {x:Expr},x∈l→cntE x≤z6w l
 | y::l,x,h=>by
  simp only[z6w]
  rcases List.mem_cons.1 h with e|h
  ·subst e;omega
  ·have:=j7b h;omega
theorem k2m {e x:Expr}(hx:x∈e.Args):cntE x+1≤cntE e:=by
 have:=j7b hx
 have:=j0c e
 omega
theorem k0V (e:Expr):∀ m,fuE e≤m→cntE e≤1099511627776→z1f m e=some (cntE e:Int):=by
 induction e using z1M with
 | h e ih=>
  intro m hm hc
  obtain⟨m,rfl⟩:∃ q,m=q+1:=⟨m-1,by have:=z6K e;omega⟩
  show z2W (z1f m) e=_
  unfold z2W
  have key:∀ (l:List Expr) (i s:Nat),(∀ x∈l,x∈e.Args)→s+z6w l≤1099511627776→eachL (z3C (z1f m)) i l (s:Int)=some ((s+z6w l:Nat):Int):=by
   intro l
   induction l with
   | nil=>intro i s _ _;rfl
   | cons x l ihl=>
    intro i s hx hs
    have hxm:=hx x (by simp)
    simp only[z6w] at hs
    have h1:=ih x hxm m (by have:=z6L hxm;omega) (by omega)
    rw[eachL]
    unfold z3C
    rw[h1,bsS,q3E (by constructor<;>omega),bsS]
    have:=ihl (i+1) (s+cntE x) (fun y hy=>hx y (by simp[hy])) (by omega)
    rw[Int.natCast_add] at this
    unfold z3C at this
    rw[this,z6w]
    congr 1;omega
  rw[j0c] at hc
  have:=key e.Args 0 1 (fun _ h=>h) (by omega)
  rw[show ((1:Nat):Int)=1 from rfl] at this
  rw[this,bsS,j0c,Nat.add_comm]
theorem k2n {e:Expr}(h:cntE e≤1099511627776):z7l e=some (cntE e:Int):=z0L (fuE e) fun m hm=>k0V e m hm h
theorem k7N (a b:Nat):(if (b:Int) > (a:Int) then (b:Int) else (a:Int))=((max a b:Nat):Int):=by
 split<;>omega
theorem j2M {f:Expr→Option Int}{g:Nat→Expr→Int→Option Int}(hg:∀ k x s,g k x s=(f x).bind fun y=>some (if y > s then y else s)):∀ (l:List Expr) (i s:Nat),(∀ x∈l,f x=some (depE x:Int))→eachL g i l (s:Int)=some ((max s (j3P l):Nat):Int)
 | [],i,s,_=>by rw[eachL,j3P,Nat.max_zero]
 | x::l,i,s,h=>by
  rw[eachL,hg,h x (by simp),bsS,bsS,k7N,j2M hg l (i+1) _ fun y hy=>h y (by simp[hy]),j3P,Nat.max_assoc]
theorem k2o (a b:Int):z2A a b=some (if b > a then b else a):=by
 unfold z2A
 by_cases h:b<a
 ·rw[ifP h,ifN (by omega)]
 ·rw[ifN h]
  split
  ·rfl
  ·congr 1;omega
theorem j4o (e:Expr):∀ m,fuE e≤m→cntE e≤1099511627776→q7D m e=some (depE e:Int)∧q7C m e=some (depE e:Int):=by
 induction e using z1M with
 | h e ih=>
  intro m hm hc
  obtain⟨m,rfl⟩:∃ q,m=q+1:=⟨m-1,by have:=z6K e;omega⟩
  show z0z (q7D m) e=_∧z0v (q7C m) e=_
  unfold z0z z0v
  have hx:∀ x∈e.Args,q7D m x=some (depE x:Int)∧q7C m x=some (depE x:Int):=fun x hx=>ih x hx m (by have:=z6L hx;omega) (by have:=k2m hx;omega)
  have k1:=j2M (f:=q7D m) (g:=z7m (q7D m)) (fun k x s=>rfl) e.Args 0 0 fun x h=>(hx x h).1
  have k2:=j2M (f:=q7C m) (g:=z4a (q7C m)) (fun k x s=>by
   unfold z4a
   congr 1;funext y
   rw[k2o,bsS]) e.Args 0 0 fun x h=>(hx x h).2
  rw[show ((0:Nat):Int)=0 from rfl] at k1 k2
  have hd:=k2l e
  rw[k2k] at hd
  rw[k1,k2]
  have hg:I64 (((max 0 (j3P e.Args):Nat):Int)+1):=by constructor<;>omega
  have he:((max 0 (j3P e.Args):Nat):Int)+1=(depE e:Int):=by rw[k2k];omega
  refine⟨?_,?_⟩
  ·rw[bsS,q3E hg,he]
  ·rw[bsS,q3E hg,he]
theorem k2p {e:Expr}(h:cntE e≤1099511627776):z5e e=some (depE e:Int):=z0L (fuE e) fun m hm=>(j4o e m hm h).1
theorem k2q {e:Expr}(h:cntE e≤1099511627776):z5c e=some (depE e:Int):=z0L (fuE e) fun m hm=>(j4o e m hm h).2
def j1i (a:Int)(n:Nat):Int:=if (n:Int)≤a then a-n else -1
theorem k2r (e:Expr):∀ m,fuE e≤m→∀ a:Int,0≤a→a≤1048576→cntE e≤1099511627776→z3Z m e a=some (j1i a (cntE e)):=by
 induction e using z1M with
 | h e ih=>
  intro m hm a h0 h1 hc
  obtain⟨m,rfl⟩:∃ q,m=q+1:=⟨m-1,by have:=z6K e;omega⟩
  show z6Y (z3Z m) e a=_
  unfold z6Y
  rw[q3E (by constructor<;>omega)]
  have hlen:e.Args.length≤cntE e:=by
   rw[j0c]
   have:∀ l:List Expr,l.length≤z6w l:=by
    intro l
    induction l with
    | nil=>simp
    | cons x l ih=>
     have:=j0c x
     simp only[z6w,lnC];omega
   have:=this e.Args;omega
  have key:∀ (n k:Nat) (s:Int),k+n=e.Args.length→-1≤s→s≤1048576→q4o (z3K (z3Z m) e) (s,(k:Int))=some (if 0≤s then j1i s (z6w (e.Args.drop k)) else s):=by
   intro n
   induction n with
   | zero=>
    intro k s hk _ _
    have hdrop:e.Args.drop k=[]:=List.drop_eq_nil_of_le (by omega)
    refine q3F ?_
    unfold z3K
    dsimp only
    rw[ifN (by omega),hdrop]
    congr 2
    split
    ·unfold j1i;simp[z6w];omega
    ·rfl
   | succ n ihn=>
    intro k s hk hs1 hs2
    have hkl:k<e.Args.length:=by omega
    by_cases hs:0≤s
    ·have hxm:e.Args[k]∈e.Args:=List.getElem_mem hkl
     have hr:=ih _ hxm m (by have:=z6L hxm;omega) s hs hs2 (by have:=k2m hxm;omega)
     have hstep:z3K (z3Z m) e (s,(k:Int))=some (.inl (j1i s (cntE e.Args[k]),((k+1:Nat):Int))):=by
      unfold z3K
      dsimp only
      rw[ifP (by omega),ifP hs,q3E (by omega),tnC,List.getElem?_eq_getElem hkl,bsS,hr,bsS,q3E (by constructor<;>omega)]
      rfl
     have hb1:-1≤j1i s (cntE e.Args[k]):=by unfold j1i;split<;>omega
     have hb2:j1i s (cntE e.Args[k])≤1048576:=by unfold j1i;split<;>omega
     rw[q3L hstep,ihn (k+1) _ (by omega) hb1 hb2,ifP hs]
     have hd:e.Args.drop k=e.Args[k]::e.Args.drop (k+1):=List.drop_eq_getElem_cons hkl
     rw[hd,z6w]
     congr 1
     unfold j1i
     split<;>split<;>(try split)<;>omega
    ·refine q3F ?_
     unfold z3K
     dsimp only
     rw[ifP (by omega),ifN hs,ifN hs]
  have:=key e.Args.length 0 (a-1) (by omega) (by omega) (by omega)
  rw[show ((0:Nat):Int)=0 from rfl] at this
  rw[this,bsS,List.drop_zero,j0c]
  congr 1
  unfold j1i
  split<;>(try split)<;>(try split)<;>omega
theorem k4n {e:Expr}{a:Int}(h0:0≤a)(h1:a≤1048576)(h:cntE e≤1099511627776):j1Z e a=some (j1i a (cntE e)):=z0L (fuE e) fun m hm=>k2r e m hm a h0 h1 h
theorem k0W (x lo hi:Int):q4b x lo hi=some (decide (lo≤x∧x≤hi)):=by
 unfold q4b;by_cases h:lo≤x<;>simp[h]
theorem j5z (x lo hi:Int):q5F x lo hi=some (decide (lo≤x∧x≤hi)):=by
 unfold q5F;by_cases h:lo≤x<;>simp[h]
def lowB (c:UInt8):Bool:=decide (97≤(c.toNat:Int)∧(c.toNat:Int)≤122)
def digB (c:UInt8):Bool:=decide (48≤(c.toNat:Int)∧(c.toNat:Int)≤57)
theorem j0d (c:UInt8):z3Q c=some (lowB c):=by
 unfold z3Q lowB;by_cases h:97≤(c.toNat:Int)<;>simp[h]
theorem k0X (c:UInt8):z5x c=some (digB c):=by
 unfold z5x digB;by_cases h:48≤(c.toNat:Int)<;>simp[h]
def allN (q:Nat→Bool):Nat→Nat→Bool
 | _,0=>true
 | i,n+1=>q i&&allN q (i+1) n
theorem j4p {q r:Nat→Bool}:∀ {n i:Nat},(∀ k,i≤k→q k=r k)→allN q i n=allN r i n
 | 0,_,_=>rfl
 | n+1,i,h=>by rw[allN,allN,h i (Nat.le_refl _),j4p fun k hk=>h k (by omega)]
theorem j0e {ρ:Type}{c:ρ}{q:Nat→Bool}:∀ {n i:Nat} {f:Nat→Unit→Option (Unit ⊕ ρ)},(∀ k,k<n→f (i+k) ()=some (if q (i+k)=true then .inl () else .inr c))→findN f i n ()=some (if allN q i n=true then .inl () else .inr c)
 | 0,i,f,h=>rfl
 | n+1,i,f,h=>by
  have h0:=h 0 (by omega)
  rw[Nat.add_zero] at h0
  rw[findN,h0]
  by_cases hx:q i=true
  ·rw[ifP hx,bsS]
   show findN f (i+1) n ()=_
   rw[j0e fun k hk=>by have:=h (k+1) (by omega);rwa[show i+(k+1)=i+1+k by omega] at this]
   simp[allN,hx]
  ·rw[ifN hx];simp[allN,hx]
def chr (s:ByteArray)(k:Nat):UInt8:=s.data.getD k 0
theorem j5A {s:ByteArray}{k:Nat}(h:k<s.size):s.data[k]?=some (chr s k):=by
 have h' : k<s.data.size:=h
 unfold chr
 rw[Array.getD_eq_getD_getElem?,Array.getElem?_eq_getElem h'];rfl
def z9B:List ByteArray:=[⟨#[105,102]⟩,⟨#[116,104,101,110]⟩,⟨#[101,108,115,101]⟩,⟨#[116,114,117,101]⟩,⟨#[102,97,108,115,101]⟩,⟨#[108,105,116]⟩,⟨#[110,111,110,101]⟩,⟨#[115,101,108,102]⟩,⟨#[111,102]⟩,⟨#[109,97,120]⟩,⟨#[109,105,110]⟩,⟨#[119,105,116,104]⟩,⟨#[104,97,115]⟩]
def memB (s:ByteArray)(l:List ByteArray):Bool:=l.any fun x=>decide (x=s)
theorem k4o {s:ByteArray}{l:List ByteArray}:memB s l=true↔s∈l:=by
 unfold memB;rw[List.any_eq_true]
 exact⟨fun ⟨x,h1,h2⟩=>by simp at h2;exact h2▸h1,fun h=>⟨s,h,by simp⟩⟩
theorem k4p {s:ByteArray}{l:List ByteArray}(h:s∉l):memB s l=false:=by
 cases hb:memB s l with
 | false=>rfl
 | true=>exact absurd (k4o.1 hb) h
def resB (s:ByteArray):Bool:=memB s z9B
theorem k4q (l:List ByteArray)(s:ByteArray):z2B l s=some (memB s l):=by
 unfold z2B
 have:∀ (l:List ByteArray) (i:Nat),findL (z8W s) i l ()=some (if memB s l=true then .inr true else .inl ()):=by
  intro l
  induction l with
  | nil=>intro i;rfl
  | cons x l ih=>
   intro i
   rw[findL]
   unfold z8W at ih ⊢
   have hc:memB s (x::l)=(decide (x=s)||memB s l):=rfl
   by_cases h:x=s
   ·rw[ifP h,hc];simp[h]
   ·rw[ifN h,bsS]
    show findL _ (i+1) l ()=_
    rw[ih,hc];simp[h]
 rw[this,bsS]
 cases memB s l<;>rfl
theorem k6u (s:ByteArray):z1l s=some (resB s):=by
 unfold z1l z3B
 rw[bsS,k4q];rfl
theorem k6v (s:ByteArray):z1v s=some (resB s):=by
 by_cases h:s∈z9B
 ·unfold z9B at h
  simp only[List.mem_cons,List.not_mem_nil,or_false] at h
  rcases h with h|h|h|h|h|h|h|h|h|h|h|h|h<;>subst h<;>rfl
 ·unfold resB
  rw[k4p h]
  unfold z9B at h
  simp only[List.mem_cons,List.not_mem_nil,or_false,not_or] at h
  obtain⟨h1,h2,h3,h4,h5,h6,h7,h8,h9,h10,h11,h12,h13⟩:=h
  unfold z1v
  rw[ifN h1,ifN h2,ifN h3,ifN h4,ifN h5,ifN h6,ifN h7,ifN h8,ifN h9,ifN h10,ifN h11,ifN h12]
  simp[h13]
def q9h (s:ByteArray):Bool:=decide (0<s.size∧s.size≤8)&&(lowB (chr s 0)&&allN (fun k=>lowB (chr s k)||digB (chr s k)) 1 (s.size-1) && !resB s)
theorem z3I (s:ByteArray):q4L s=some (q9h s):=by
 unfold q4L
 rw[j0e (c:=false) (q:=fun k=>lowB (chr s k)||digB (chr s k)) fun k hk=>by
  rw[Nat.zero_add]
  unfold z7k
  rw[j5A hk,bsS,j0d,bsS]
  cases lowB (chr s k) with
  | true=>rfl
  | false=>
   rw[ifN (by simp),k0X,bsS]
   cases digB (chr s k)<;>rfl]
 rw[bsS]
 by_cases h0:0<s.size
 ·obtain⟨n,hn⟩:∃ n,s.size=n+1:=⟨s.size-1,by omega⟩
  unfold q9h
  rw[hn,allN,Nat.add_sub_cancel]
  cases ha:allN (fun k=>lowB (chr s k)||digB (chr s k)) (0+1) n with
  | false=>
   rw[Bool.and_false,ifN (by simp)]
   rw[Nat.zero_add] at ha
   simp[onr,ha]
  | true=>
   rw[Nat.zero_add] at ha
   try rw[ha]
   simp only[Bool.and_true]
   have hc:=j5A h0
   cases hl:lowB (chr s 0) with
   | false=>
    cases hd:digB (chr s 0) with
    | false=>simp[onr]
    | true=>
     rw[ifP (by simp)]
     show (q4b _ 1 8).bind _=_
     rw[k0W,bsS]
     split
     ·rw[hc,bsS,j0d,hl];simp
     ·simp
   | true=>
    rw[ifP (by simp)]
    show (q4b _ 1 8).bind _=_
    rw[k0W,bsS]
    by_cases h8:n+1≤8
    ·rw[ifP (by simp;omega),hc,bsS,j0d,hl]
     simp[k6v,h8]
    ·rw[ifN (by simp;omega)];simp[h8]
 ·have hs:s.size=0:=by omega
  unfold q9h
  rw[hs,allN,ifP rfl,z3W,k0W,bsS]
  simp
theorem z1N (s:ByteArray):q4Z s=some (q9h s):=by
 unfold q4Z z7T
 rw[j0e (c:=false) (q:=fun k=>lowB (chr s k)||(decide (k≠0)&&digB (chr s k))) fun k hk=>by
  rw[Nat.zero_add]
  unfold j2a
  rw[j5A hk,bsS]
  have e1:(if 97≤((chr s k).toNat:Int) then some (decide (((chr s k).toNat:Int)≤122)) else some false)=some (lowB (chr s k)):=by
   unfold lowB;by_cases h:97≤((chr s k).toNat:Int)<;>simp[h]
  have e2:(if 48≤((chr s k).toNat:Int) then some (decide (((chr s k).toNat:Int)≤57)) else some false)=some (digB (chr s k)):=by
   unfold digB;by_cases h:48≤((chr s k).toNat:Int)<;>simp[h]
  rw[e1,e2,bsS,bsS]
  cases lowB (chr s k) with
  | true=>rfl
  | false=>
   by_cases hk0:k=0
   ·subst hk0;simp
   ·have:¬ ((k:Int)=0):=by omega
    rw[ifN (by simp),ifN this]
    cases digB (chr s k)<;>simp[hk0]]
 rw[bsS]
 by_cases h0:0<s.size
 ·obtain⟨n,hn⟩:∃ n,s.size=n+1:=⟨s.size-1,by omega⟩
  unfold q9h
  rw[hn,allN,Nat.add_sub_cancel,Nat.zero_add,j4p (n:=n) (i:=1) (q:=fun k=>lowB (chr s k)||(decide (k≠0)&&digB (chr s k))) (r:=fun k=>lowB (chr s k)||digB (chr s k)) fun k hk=>by simp[show k≠0 by omega]]
  have e0:(lowB (chr s 0)||(decide ((0:Nat)≠0)&&digB (chr s 0)))=lowB (chr s 0):=by simp
  rw[e0]
  cases hA:(lowB (chr s 0)&&allN (fun k=>lowB (chr s k)||digB (chr s k)) 1 n) with
  | false=>simp[onr]
  | true=>
   rw[ifP rfl]
   simp only[onr,bsS]
   by_cases h8:n+1≤8
   ·simp[k6u,h8];omega
   ·simp[h8];omega
 ·have hs:s.size=0:=by omega
  unfold q9h
  rw[hs]
  simp[onr,allN]
def satI (v:Int):Int:=if (-1000000:Int) > (if (1000000:Int)<v then (1000000:Int) else v) then (-1000000:Int) else (if (1000000:Int)<v then (1000000:Int) else v)
def truI (b:Bool):Int:=if b=true then 1 else 0
def k2s (v k:Int):Int:=if k=1 then satI v else if k=2 then z8Q v 4095 else if k=3 then truI (!decide (v=0)) else if k=4 then (if 0≤v∧v≤999 then v else 0) else 0
theorem k6w (v:Int):z6i v=some (satI v):=rfl
theorem k6x (a b:Int):z8V a b=some (if b<a then b else a):=by
 unfold z8V
 by_cases h:a<b
 ·rw[ifP h,ifN (by omega)]
 ·rw[ifN h]
  split
  ·rfl
  ·congr 1;omega
theorem k6y (v:Int):z4c v=some (satI v):=by
 unfold z4c
 rw[k6x,bsS,k2o,bsS]
 congr 1
 unfold satI
 split<;>split<;>(try split)<;>(try split)<;>omega
theorem k6z (b:Bool):j2l b=some (truI b):=by unfold j2l truI;cases b<;>rfl
theorem k4r (b:Bool):z5p b=some (truI b):=by unfold z5p truI;cases b<;>rfl
theorem k4s (v k:Int):z7n v k=some (k2s v k):=by
 unfold z7n k2s
 rw[k6w,k6z,k0W]
 by_cases h1:k=1
 ·rw[ifP h1,ifP h1];rfl
 by_cases h2:k=2
 ·rw[ifN h1,ifN h1,ifP h2,ifP h2]
 by_cases h3:k=3
 ·rw[ifN h1,ifN h1,ifN h2,ifN h2,ifP h3,ifP h3];rfl
 by_cases h4:k=4
 ·rw[ifN h1,ifN h1,ifN h2,ifN h2,ifN h3,ifN h3,ifP h4,ifP h4,bsS]
  by_cases h:0≤v∧v≤999<;>simp[h]
 ·rw[ifN h1,ifN h1,ifN h2,ifN h2,ifN h3,ifN h3,ifN h4,ifN h4]
theorem k4t (v k:Int):z7a v k=some (k2s v k):=by
 unfold z7a k2s
 rw[k6y,k4r,j5z]
 by_cases h1:k=1
 ·rw[ifP h1,ifP h1];rfl
 by_cases h2:k=2
 ·rw[ifN h1,ifN h1,ifP h2,ifP h2]
 by_cases h3:k=3
 ·rw[ifN h1,ifN h1,ifN h2,ifN h2,ifP h3,ifP h3];rfl
 by_cases h4:k=4
 ·rw[ifN h1,ifN h1,ifN h2,ifN h2,ifN h3,ifN h3,ifP h4,ifP h4,bsS]
  by_cases h:0≤v∧v≤999<;>simp[h]
 ·rw[ifN h1,ifN h1,ifN h2,ifN h2,ifN h3,ifN h3,ifN h4,ifN h4]
def j5B (v k:Int):Bool:=decide (1≤k∧k≤4)&&decide (k2s v k=v)
theorem k4u (v k:Int):z4p v k=some (j5B v k):=by
 unfold z4p z5y j5B
 rw[k0W,bsS,bsS,k4s,bsS]
 by_cases h:1≤k∧k≤4<;>simp[h]
theorem k4v (v k:Int):z4d v k=some (j5B v k):=by
 unfold z4d j5B
 rw[j5z,bsS,k4t,bsS]
 by_cases h:1≤k∧k≤4<;>simp[h]
def opT (n:Int):Int×Int×Int:=
 if 1≤n∧n≤5 then (1,1,1) else if 6≤n∧n≤8 then (2,2,2) else if n=9∨n=10 then (1,1,3) else if n=11 then (2,1,3) else if n=12 then (2,1,2) else (0,0,0)
theorem k7O {n a b c d e:Int}:(if n=a then some (decide (n=a)) else if n=b then some (decide (n=b)) else if n=c then some (decide (n=c)) else if n=d then some (decide (n=d)) else some (decide (n=e)))=some (decide (n=a∨n=b∨n=c∨n=d∨n=e)):=by
 by_cases h1:n=a
 ·simp[h1]
 by_cases h2:n=b
 ·simp[h1,h2]
 by_cases h3:n=c
 ·rw[ifN h1,ifN h2,ifP h3];simp[h3]
 by_cases h4:n=d
 ·rw[ifN h1,ifN h2,ifN h3,ifP h4];simp[h4]
 ·simp[h1,h2,h3,h4]
theorem k7P {n a b c:Int}:(if n=a then some (decide (n=a)) else if n=b then some (decide (n=b)) else some (decide (n=c)))=some (decide (n=a∨n=b∨n=c)):=by
 by_cases h1:n=a
 ·simp[h1]
 by_cases h2:n=b
 ·simp[h1,h2]
 ·simp[h1,h2]
theorem k6A (n:Int):q9T n=some (opT n):=by
 unfold q9T opT
 rw[k7O,k7P]
 simp only[bsS]
 by_cases h1:1≤n∧n≤5
 ·rw[ifP (by simp;omega),ifP h1]
 rw[ifN (by simp;omega),ifN h1]
 by_cases h2:6≤n∧n≤8
 ·rw[ifP (by simp;omega),ifP h2]
 rw[ifN (by simp;omega),ifN h2]
 by_cases h3:n=9
 ·simp[h3]
 by_cases h3' : n=10
 ·simp[h3']
 by_cases h4:n=11
 ·simp[h4]
 by_cases h5:n=12
 ·simp[h5]
 simp[h3,h3',h4,h5]
theorem k6B (n:Int):q5h n=some (opT n):=by
 unfold q5h opT
 rw[j5z,j5z]
 simp only[bsS]
 by_cases h1:1≤n∧n≤5
 ·rw[ifP (by simpa using h1),ifP h1]
 rw[ifN (by simpa using h1),ifN h1]
 by_cases h2:6≤n∧n≤8
 ·rw[ifP (by simpa using h2),ifP h2]
 rw[ifN (by simpa using h2),ifN h2]
 by_cases h3:n=9
 ·rw[ifP h3,ifP (.inl h3)]
 rw[ifN h3]
 by_cases h3' : n=10
 ·rw[ifP h3',ifP (.inr h3')]
 have h33:¬(n=9∨n=10):=by omega
 rw[ifN h3',ifN h33]
 by_cases h4:n=11
 ·rw[ifP h4,ifP h4]
 rw[ifN h4,ifN h4]
 by_cases h5:n=12
 ·rw[ifP h5,ifP h5]
 rw[ifN h5,ifN h5]
theorem k6C (a b:Expr):q7g a b=some (decide (a.Kind=b.Kind)&&(decide (a.N=b.N)&&(decide (a.Pos=b.Pos)&&(decide (a.Type_=b.Type_)&&(decide (a.Symbol=b.Symbol)&&decide (a.Name=b.Name)))))):=by
 unfold q7g
 by_cases h1:a.Kind=b.Kind
 ·rw[ifP h1,bsS]
  by_cases h2:a.N=b.N
  ·by_cases h3:a.Pos=b.Pos
   ·by_cases h4:a.Type_=b.Type_
    ·by_cases h5:a.Symbol=b.Symbol
     ·simp[h1,h2,h3,h4,h5]
     ·simp[h1,h2,h3,h4,h5]
    ·simp[h1,h2,h3,h4]
   ·simp[h1,h2,h3]
  ·simp[h1,h2]
 ·simp[h1]
def k2t (k:Int):Int:=if k=4 then 2 else if k=5 then 3 else if k=8 then 1 else 0
def k2u (e:Expr):Bool:=decide ((e.Args.length:Int)=k2t e.Kind)&&((decide (e.Kind=3∨e.Kind=6)||decide (e.Pos=0))&&((decide (e.Kind=3∨e.Kind=8)||decide (e.Name=⟨#[]⟩))&&((decide (e.Kind=1∨e.Kind=4)||decide (e.N=0))&&((decide (e.Kind=1)||decide (e.Type_=0))&&(decide (e.Kind=8)||decide (e.Symbol=⟨#[]⟩))))))
theorem k6D (e:Expr):z6Z e=some (k2u e):=by
 unfold z6Z
 have h0:(if e.Kind=4 then some 2 else if e.Kind=5 then some 3 else if e.Kind=8 then some 1 else some (0:Int))=some (k2t e.Kind):=by
  unfold k2t
  split
  ·rfl
  ·split
   ·rfl
   ·split<;>rfl
 have or2:∀ a b:Prop,[Decidable a]→[Decidable b]→(if a then some true else some (decide b))=some (decide (a∨b)):=fun a b _ _=>by
  by_cases h:a<;>simp[h]
 have or1:∀ (a:Prop) (b:Bool),[Decidable a]→(if a then some true else some b)=some (decide a||b):=fun a b _=>by
  by_cases h:a<;>simp[h]
 have orB:∀ a b:Bool,(if a=true then some true else some b)=some (a||b):=fun a b=>by cases a<;>rfl
 have andB:∀ a b:Bool,(if a=true then some b else some false)=some (a&&b):=fun a b=>by cases a<;>rfl
 rw[h0,bsS]
 unfold k2u
 by_cases hl:(e.Args.length:Int)=k2t e.Kind
 ·rw[ifP hl]
  simp only[or2,or1,orB,andB,bsS]
  simp[hl,Bool.and_assoc]
 ·rw[ifN hl];simp[hl]
def k6E (e:Expr):Bool:=
 if e.Kind=1 then (decide (1≤e.Type_∧e.Type_≤3)&&j5B e.N e.Type_)&&decide (0≤e.N)
 else if e.Kind=3 then decide (0≤e.Pos∧e.Pos≤3)&&q9h e.Name
 else if e.Kind=6 then decide (0≤e.Pos∧e.Pos≤3)
 else if e.Kind=4 then decide (1≤e.N∧e.N≤12)
 else if e.Kind=8 then q9h e.Symbol&&q9h e.Name
 else true
def z7E (e:Expr):Bool:=(decide (1≤e.Kind∧e.Kind≤8)&&k2u e)&&k6E e
theorem k4w (e:Expr):z7b e=some (z7E e):=by
 unfold z7b z7E
 rw[j5z,bsS,k6D,bsS]
 by_cases hk:1≤e.Kind∧e.Kind≤8
 ·rw[ifP (by simpa using hk),bsS]
  cases k2u e with
  | false=>simp
  | true=>
   rw[ifN (by simp)]
   unfold k6E
   by_cases k1:e.Kind=1
   ·rw[ifP k1,ifP k1,j5z,bsS,k4v,bsS]
    by_cases h:1≤e.Type_∧e.Type_≤3
    ·cases j5B e.N e.Type_<;>simp[h,hk]
    ·simp[h,hk]
   rw[ifN k1,ifN k1]
   by_cases k3:e.Kind=3
   ·rw[ifP k3,ifP k3,j5z,bsS,z1N]
    by_cases h:0≤e.Pos∧e.Pos≤3
    ·simp[h,hk]
    ·simp[h,hk]
   rw[ifN k3,ifN k3]
   by_cases k6:e.Kind=6
   ·rw[ifP k6,ifP k6,j5z];simp[hk]
   rw[ifN k6,ifN k6]
   by_cases k4:e.Kind=4
   ·rw[ifP k4,ifP k4,j5z];simp[hk]
   rw[ifN k4,ifN k4]
   by_cases k8:e.Kind=8
   ·rw[ifP k8,ifP k8,z1N,bsS,z1N]
    cases q9h e.Symbol<;>simp[hk]
   rw[ifN k8,ifN k8];simp[hk]
 ·rw[ifN (by simpa using hk)];simp[hk]
theorem k4x (e:Expr):z1x e=some (z7E e):=by
 unfold z1x z7E k2u k6E k2t
 simp only[k6C,k0W,k4u,z3I,bsS]
 have hp3:e.Pos=0→(0≤e.Pos∧e.Pos≤3):=fun h=>by omega
 by_cases k1:e.Kind=1
 ·simp[k1]
  have ht:j5B e.N e.Type_=true→1≤e.Type_∧e.Type_≤4:=fun h=>by
   unfold j5B at h;simp at h;exact h.1
  cases hb:j5B e.N e.Type_ with
  | false=>by_cases h4:e.Type_=4<;>simp[h4]
  | true=>
   obtain⟨t1,t2⟩:=ht hb
   by_cases h4:e.Type_=4
   ·simp[h4]
   ·by_cases hn:e.N<0
    ·have:¬ 0≤e.N:=by omega
     simp[h4,hn,this]
    ·have h0:0≤e.N:=by omega
     have h3:e.Type_≤3:=by omega
     by_cases a:e.Args=[]
     ·by_cases p:e.Pos=0
      ·simp[h4,hn,h0,h3,t1,a,p,Bool.and_comm]
      ·simp[h4,hn,h0,h3,t1,a,p]
     ·simp[h4,hn,h0,h3,t1,a]
 by_cases k3:e.Kind=3
 ·simp[k1,k3]
  cases q9h e.Name with
  | false=>simp
  | true=>
   by_cases a:e.Args=[]
   ·by_cases p:0≤e.Pos∧e.Pos≤3
    ·simp[a,p]
    ·have:(decide (0≤e.Pos)&&decide (e.Pos≤3))=false:=by simp;omega
     simp[a,this]
   ·simp[a]
 by_cases k4:e.Kind=4
 ·simp[k1,k3,k4]
  by_cases n:1≤e.N∧e.N≤12
  ·by_cases a:(e.Args.length:Int)=2
   ·by_cases p:e.Pos=0
    ·simp[n,a,p];cases decide (e.Type_=0)<;>cases decide (e.Symbol=⟨#[]⟩)<;>cases decide (e.Name=⟨#[]⟩)<;>rfl
    ·simp[n,a,p]
   ·simp[n,a]
  ·have:(decide (1≤e.N)&&decide (e.N≤12))=false:=by simp;omega
   rw[ifN n,this];simp
 have close3:∀ c:Bool,((if c=true then some (decide (0≤e.Pos)&&decide (e.Pos≤3)) else some false).bind fun s9=>
   if s9=true then some (decide (e.N=0)&&(decide (e.Pos=0)&&(decide (e.Type_=0)&&(decide (e.Symbol=⟨#[]⟩)&&decide (e.Name=⟨#[]⟩))))) else some false) =
  some (c&&(decide (e.Pos=0)&&(decide (e.Name=⟨#[]⟩)&&(decide (e.N=0)&&(decide (e.Type_=0)&&decide (e.Symbol=⟨#[]⟩)))))):=fun c=>by
  cases c with
  | false=>simp
  | true=>
   by_cases p:e.Pos=0
   ·simp[p];cases decide (e.N=0)<;>cases decide (e.Type_=0)<;>cases decide (e.Symbol=⟨#[]⟩)<;>cases decide (e.Name=⟨#[]⟩)<;>rfl
   ·simp[p]
 by_cases k5:e.Kind=5
 ·simp[k1,k3,k4,k5]
  simpa using close3 (decide ((e.Args.length:Int)=3))
 by_cases k6:e.Kind=6
 ·simp[k1,k3,k4,k5,k6]
  by_cases a:e.Args=[]
  ·by_cases p:0≤e.Pos∧e.Pos≤3
   ·simp[a,p];cases decide (e.N=0)<;>cases decide (e.Type_=0)<;>cases decide (e.Symbol=⟨#[]⟩)<;>cases decide (e.Name=⟨#[]⟩)<;>rfl
   ·have:(decide (0≤e.Pos)&&decide (e.Pos≤3))=false:=by simp;omega
    simp[a,this]
  ·simp[a]
 by_cases k8:e.Kind=8
 ·simp[k1,k3,k4,k5,k6,k8]
  cases q9h e.Symbol with
  | false=>simp
  | true=>
   cases q9h e.Name with
   | false=>simp
   | true=>
    by_cases a:(e.Args.length:Int)=1
    ·by_cases p:e.Pos=0
     ·simp[a,p]
     ·simp[a,p]
    ·simp[a]
 by_cases k2:e.Kind=2
 ·simp[k1,k3,k4,k5,k6,k8,k2]
  simpa using close3 (decide (e.Args=[]))
 by_cases k7:e.Kind=7
 ·simp[k1,k3,k4,k5,k6,k8,k2,k7]
  simpa using close3 (decide (e.Args=[]))
 ·simp[k1,k3,k4,k5,k6,k8,k2,k7]
  intro h1 h2;omega
theorem k4y (e:Expr):∀ m,fuE e≤m→z8Y m e=some (allE z7E e):=by
 induction e using z1M with
 | h e ih=>
  intro m hm
  obtain⟨m,rfl⟩:∃ q,m=q+1:=⟨m-1,by have:=z6K e;omega⟩
  show z8X (z8Y m) e=_
  unfold z8X
  rw[q4K (c:=false) (q:=allE z7E) fun k x hx=>by
   unfold j6E
   rw[ih x hx m (by have:=z6L hx;omega),bsS]
   cases allE z7E x<;>rfl]
  rw[j0b,bsS]
  cases e.Args.all (allE z7E) with
  | true=>rw[ifP rfl,z3W,k4w,Bool.and_true];rfl
  | false=>rw[ifN (by simp),j1J,Bool.and_false]
theorem k6F (e:Expr):j5a e=some (allE z7E e):=z0L (fuE e) fun m hm=>k4y e m hm
theorem j2N {α:Type}(q:α→Bool)(l:List α):(!l.any fun x=>!q x)=l.all q:=by
 induction l with
 | nil=>rfl
 | cons x l ih=>simp[← ih]
theorem k4z (e:Expr):∀ m,fuE e≤m→q6j m e=some (allE z7E e):=by
 induction e using z1M with
 | h e ih=>
  intro m hm
  obtain⟨m,rfl⟩:∃ q,m=q+1:=⟨m-1,by have:=z6K e;omega⟩
  show q6i (q6j m) e=_
  unfold q6i q3Z q4e
  rw[k4x,bsS,j0b]
  cases z7E e with
  | false=>rfl
  | true=>
   rw[ifP rfl,j2L (q:=fun x=>!allE z7E x) fun k x hx=>by
    unfold q5T q6E
    rw[ih x hx m (by have:=z6L hx;omega),bsS,bsS]
    cases allE z7E x<;>rfl]
   rw[Bool.true_and,← j2N]
   cases e.Args.any fun x=>!allE z7E x with
   | true=>
    have:(0:Int)≤((0+e.Args.findIdx fun x=>!allE z7E x:Nat):Int):=Int.natCast_nonneg _
    rw[ifP rfl,bsS,j1J,bsS,bsS,decide_eq_true this]
   | false=>rfl
theorem k6G (e:Expr):q8F e=some (allE z7E e):=z0L (fuE e) fun m hm=>k4z e m hm
def j2O (e:Expr):Bool:=decide (cntE e≤24)&&(decide (depE e≤6)&&allE z7E e)
theorem k2v {e:Expr}(h:cntE e≤1099511627776):z0A e=some (j2O e):=by
 unfold z0A j2O
 rw[k2n h,bsS,k2p h,k6G]
 by_cases h1:cntE e≤24
 ·rw[ifP (by omega),bsS,bsS]
  by_cases h2:depE e≤6
  ·rw[ifP (by simp;omega),bsS];simp[h1,h2]
  ·rw[ifN (by simp;omega)];simp[h1,h2]
 ·rw[ifN (by omega)];simp[h1]
theorem j7c {e:Expr}(h:cntE e≤1099511627776):q9v e=some (j2O e):=by
 unfold q9v j2O
 rw[k4n (by omega) (by omega) h,bsS,k2q h,k6F]
 unfold j1i
 by_cases h1:cntE e≤24
 ·have h24:((cntE e:Nat):Int)≤24:=by omega
  rw[ifP h24,ifP (by omega:(0:Int)≤24-((cntE e:Nat):Int)),bsS,bsS]
  by_cases h2:depE e≤6
  ·rw[ifP (by simp;omega),bsS];simp[h1,h2]
  ·rw[ifN (by simp;omega)];simp[h1,h2]
 ·have h24:¬ ((cntE e:Nat):Int)≤24:=by omega
  rw[ifN h24,ifN (by omega:¬ (0:Int)≤-1)];simp[h1]
theorem j1w {x m:Int}(h0:0≤m)(h1:m<9223372036854775808):0≤z8Q x m∧z8Q x m≤m:=by
 unfold z8Q
 have h2:(BitVec.ofInt 64 m).toNat=m.toNat:=by
  rw[BitVec.toNat_ofInt]
  have:m % ((2 ^ 64:Nat):Int)=m:=Int.emod_eq_of_lt h0 (by omega)
  rw[this]
 have h3:(BitVec.ofInt 64 x &&& BitVec.ofInt 64 m).toNat≤m.toNat:=by
  rw[BitVec.toNat_and,h2];exact Nat.and_le_right
 rw[IntWalk.i64_in _ (by omega)]
 omega
def j5C (o:l1Cur):Prop:=0≤o.i∧o.b.length≤1048576
theorem k4A {a:List UInt8}(h:a.length≤1048576):∃ o,z6e a=some o∧j5C o∧o.b=a:=by
 have key:∀ (m j:Nat) (s:Int),j+m=a.length→∃ q,q4o (z5o a) (s,(j:Int))=some q:=by
  intro m
  induction m with
  | zero=>
   intro j s hj
   exact⟨s,q3F (by unfold z5o;dsimp only;rw[ifN (by omega)])⟩
  | succ m ih=>
   intro j s hj
   by_cases hlt:(j:Int)<4000
   ·obtain⟨x,hx⟩:∃ x,a[j]?=some x:=⟨_,List.getElem?_eq_getElem (by omega)⟩
    obtain⟨q,hq⟩:=ih (j+1) (z8Q (IntKind.i64.wrap ((IntKind.i64.wrap ((IntKind.i64.wrap (s*131))+(x.toNat:Int)))+7)) 1073741823) (by omega)
    refine⟨q,(q3L ?_).trans hq⟩
    have hw:IntKind.i64.wrap ((j:Int)+1)=((j+1:Nat):Int):=by rw[IntWalk.i64_in _ (by omega)];rfl
    unfold z5o
    dsimp only
    rw[ifP (by omega),ifP hlt,q3E (by omega),tnC,hx,bsS,hw]
   ·exact⟨s,q3F (by unfold z5o;dsimp only;rw[ifP (by omega),ifN hlt])⟩
 obtain⟨q,hq⟩:=key a.length 0 (IntKind.i64.wrap (26583+(a.length:Int))) (by omega)
 have hq' : q4o (z5o a) ((IntKind.i64.wrap (26583+(a.length:Int))),0)=some q:=hq
 refine⟨⟨a,0,q⟩,?_,⟨Int.le_refl _,h⟩,rfl⟩
 unfold z6e
 rw[hq',bsS]
theorem z7F {o:l1Cur}(h:j5C o):∃ y z,z1k o=some (y,z)∧0≤y∧y≤255∧j5C z∧z.b=o.b:=by
 obtain⟨h0,h1⟩:=h
 unfold z1k
 by_cases hi:o.i<(o.b.length:Int)
 ·obtain⟨x,hx⟩:∃ x,o.b[o.i.toNat]?=some x:=⟨_,List.getElem?_eq_getElem (by omega)⟩
  rw[ifP hi,q3E h0,hx,bsS]
  refine⟨_,_,rfl,(j1w (by omega) (by omega)).1,(j1w (by omega) (by omega)).2,⟨?_,h1⟩,rfl⟩
  show 0≤IntKind.i64.wrap (o.i+1)
  rw[IntWalk.i64_in _ (by omega)];omega
 ·rw[ifN hi]
  exact⟨_,_,rfl,(j1w (by omega) (by omega)).1,(j1w (by omega) (by omega)).2,⟨h0,h1⟩,rfl⟩
theorem k2w {y n:Int}(hy:0≤y)(hn:0<n):0≤y.tmod n∧y.tmod n<n:=by
 rw[Int.tmod_eq_emod_of_nonneg hy]
 exact⟨Int.emod_nonneg _ (by omega),Int.emod_lt_of_pos _ hn⟩
theorem j4q {o:l1Cur}(h:j5C o)(n:Int):∃ y z,q4i n o=some (y,z)∧0≤y∧(0<n→y<n)∧(n≤0→y=0)∧j5C z∧z.b=o.b:=by
 unfold q4i
 by_cases hn:n≤0
 ·rw[ifP hn];exact⟨0,o,rfl,Int.le_refl _,fun h=>absurd h (by omega),fun _=>rfl,h,rfl⟩
 ·rw[ifN hn]
  by_cases h2:n≤256
  ·obtain⟨y,z,h3,h4,h5,h6,h7⟩:=z7F h
   rw[ifP h2,h3,bsS]
   dsimp only
   rw[q3E (by omega)]
   have:=k2w h4 (show 0<n by omega)
   exact⟨_,_,rfl,this.1,fun _=>this.2,fun h=>absurd h hn,⟨h6.1,h.2⟩,rfl⟩
  ·obtain⟨y1,z1,a1,a2,a3,a4,a5⟩:=z7F h
   obtain⟨y2,z2,b1,b2,b3,b4,b5⟩:=z7F (o:=⟨o.b,z1.i,z1.h⟩) ⟨a4.1,h.2⟩
   obtain⟨y3,z3,c1,c2,c3,c4,c5⟩:=z7F (o:=⟨o.b,z2.i,z2.h⟩) ⟨b4.1,h.2⟩
   obtain⟨y4,z4,d1,d2,d3,d4,d5⟩:=z7F (o:=⟨o.b,z3.i,z3.h⟩) ⟨c4.1,h.2⟩
   rw[ifN h2,a1,bsS]
   dsimp only
   rw[b1,bsS]
   dsimp only
   rw[c1,bsS]
   dsimp only
   rw[d1,bsS]
   dsimp only
   rw[q3E (by constructor<;>omega),q3E (by constructor<;>omega),q3E (by constructor<;>omega),q3E (by constructor<;>omega),q3E (by constructor<;>omega),q3E (by constructor<;>omega),q3E (by omega)]
   have:=k2w (y:=y1*16777216+y2*65536+y3*256+y4) (by omega) (show 0<n by omega)
   exact⟨_,_,rfl,this.1,fun _=>this.2,fun h=>absurd h hn,⟨d4.1,h.2⟩,rfl⟩
theorem j7d {o:l1Cur}(h:j5C o){l:List Int}(hl:l≠[]):∃ y z,q5U l o=some (y,z)∧y∈l∧j5C z∧z.b=o.b:=by
 have hpos:=List.length_pos_iff.2 hl
 obtain⟨y,z,h1,h2,h3,_,h5,h6⟩:=j4q h (l.length:Int)
 have:=h3 (by omega)
 obtain⟨x,hx⟩:∃ x,l[y.toNat]?=some x:=⟨_,List.getElem?_eq_getElem (by omega)⟩
 unfold q5U
 rw[h1,bsS]
 dsimp only
 rw[q3E h2,hx,bsS]
 exact⟨_,_,rfl,List.mem_of_getElem? hx,⟨h5.1,h.2⟩,rfl⟩
theorem k2x {ρ:Type}{g:Nat→Option ρ}(hm:∀ n r,g n=some r→g (n+1)=some r){n:Nat}{r:ρ}(h:g n=some r):recO g=some r:=by
 have up:∀ (k n:Nat) (r:ρ),g n=some r→g (n+k)=some r:=by
  intro k
  induction k with
  | zero=>intro n r h;exact h
  | succ k ih=>intro n r h;exact hm _ _ (ih n r h)
 refine z0L n fun m hm=>?_
 have h1:=up (m-n) n r h
 rwa[show n+(m-n)=m by omega] at h1
theorem j0f {α σ:Type}{f g:Nat→α→σ→Option σ}(h:∀ k x s q,f k x s=some q→g k x s=some q):∀ (xs:List α) (i:Nat) (s q:σ),eachL f i xs s=some q→eachL g i xs s=some q
 | [],i,s,q,hq=>hq
 | x::xs,i,s,q,hq=>by
  simp only[eachL] at hq ⊢
  obtain⟨t,h1,h2⟩:=bd hq
  rw[h _ _ _ _ h1]
  exact j0f h xs _ _ _ h2
theorem j7e (a b:Oc):z4k a b=some (z3Y a b):=by
 unfold z4k z3Y
 by_cases h1:a.Pos<b.Pos
 ·simp[h1]
 ·by_cases h2:a.Pos=b.Pos
  ·simp[h2]
  ·simp[h1,h2]
abbrev z7G (l:List Oc):Prop:=l.Pairwise fun a b=>z3Y a b=true
theorem k4B {l:List Oc}{o:Oc}(hl:l.length≤4398046511104):∀ (m j:Nat),j+m=l.length→(∀ a∈l.take j,z3Y a o=true) →
  ∃ k:Nat,q4o (z4l l o) (j:Int)=some ((k:Nat):Int)∧k≤l.length∧(∀ a∈l.take k,z3Y a o=true)∧∀ y,l[k]?=some y→z3Y y o=false:=by
 intro m
 induction m with
 | zero=>
  intro j hj ha
  refine⟨j,q3F ?_,by omega,ha,fun y hy=>?_⟩
  ·unfold z4l;rw[ifN (by omega)]
  ·rw[List.getElem?_eq_none (by omega)] at hy;cases hy
 | succ m ih=>
  intro j hj ha
  obtain⟨x,hx⟩:∃ x,l[j]?=some x:=⟨_,List.getElem?_eq_getElem (by omega)⟩
  cases hb:z3Y x o with
  | false=>
   refine⟨j,q3F ?_,by omega,ha,fun y hy=>?_⟩
   ·unfold z4l
    rw[ifP (by omega),q3E (by omega)]
    simp only[tnC]
    rw[hx,bsS,j7e,bsS,ifN (by rw[hb];simp)]
   ·rw[hx] at hy;cases hy;exact hb
  | true=>
   have e:z4l l o (j:Int)=some (.inl ((j+1:Nat):Int)):=by
    unfold z4l
    rw[ifP (by omega),q3E (by omega)]
    simp only[tnC]
    rw[hx,bsS,j7e,bsS,ifP hb,q3E (by constructor<;>omega)];rfl
   rw[q3L e]
   refine ih (j+1) (by omega) fun a h=>?_
   rw[List.take_add_one,hx] at h
   rcases List.mem_append.1 h with h|h
   ·exact ha a h
   ·simp at h;rw[h];exact hb
theorem k2y {l:List Oc}{o:Oc}(hl:l.length<4398046511104)(hs:z7G l):∃ q,z9c l o=some q∧z7G q∧(∀ a,a∈q↔a=o∨a∈l)∧q.length≤l.length+1:=by
 obtain⟨k,h1,h2,h3,h4⟩:=k4B (l:=l) (o:=o) (by omega) l.length 0 (by omega) (by simp)
 have h1' : q4o (z4l l o) 0=some ((k:Nat):Int):=h1
 have hput:∀ (hne:∀ y,l[k]?=some y→y≠o),z7G (l.take k++[o]++l.drop k)∧(∀ a,a∈l.take k++[o]++l.drop k↔a=o∨a∈l)∧(l.take k++[o]++l.drop k).length≤l.length+1:=fun hne=>by
  refine⟨?_,fun a=>?_,by simp;omega⟩
  ·have:=k0S (lt:=z3Y) lessO_swo.trans z8s (k:=k) hs h3 fun y hy=>⟨h4 y hy,hne y hy⟩
   simpa using this
  ·have:a∈l↔a∈l.take k∨a∈l.drop k:=by rw[← List.mem_append,List.take_append_drop]
   rw[this]
   simp only[List.mem_append,List.mem_singleton]
   constructor
   ·rintro ((h|h)|h)<;>simp[h]
   ·rintro (h|h|h)<;>simp[h]
 unfold z9c
 rw[h1',bsS]
 by_cases hk:k<l.length
 ·obtain⟨x,hx⟩:∃ x,l[k]?=some x:=⟨_,List.getElem?_eq_getElem hk⟩
  rw[ifP (by omega),q3E (by omega)]
  simp only[tnC]
  rw[hx,bsS]
  by_cases hxo:x=o
  ·rw[ifP hxo]
   refine⟨l,rfl,hs,fun a=>?_,by omega⟩
   have:=List.mem_of_getElem? hx
   constructor
   ·exact .inr
   ·rintro (h|h)
    ·rw[h,← hxo];exact this
    ·exact h
  ·rw[ifN hxo,q3E (by omega),q3E (by omega),q3E (by simp;omega),q3E (by simp;omega),q3E (by omega),q3E (by omega),q3E (by simp;omega)]
   exact⟨_,rfl,hput fun y hy=>by rw[hx] at hy;cases hy;exact hxo⟩
 ·rw[ifN (by omega)]
  simp only[tnC]
  rw[q3E (by omega),q3E (by omega),q3E (by simp;omega),q3E (by simp;omega),q3E (by omega),q3E (by omega),q3E (by simp;omega)]
  exact⟨_,rfl,hput fun y hy=>by rw[List.getElem?_eq_none (by omega)] at hy;cases hy⟩
theorem k6H:∀ (n:Nat) (e:Expr) (l q:List Oc),q8m n e l=some q→q8m (n+1) e l=some q:=by
 intro n
 induction n with
 | zero=>intro e l q h;cases h
 | succ n ih=>
  intro e l q h
  have h' : z2T (q8m n) e l=some q:=h
  show z2T (q8m (n+1)) e l=some q
  have m1:∀ (xs:List Expr) (i:Nat) (s q:List Oc),eachL (z3N (q8m n)) i xs s=some q→eachL (z3N (q8m (n+1))) i xs s=some q:=j0f fun k x s q hq=>by
   unfold z3N at hq ⊢
   obtain⟨y,h3,h4⟩:=bd hq
   rw[ih _ _ _ h3];exact h4
  unfold z2T at h' ⊢
  by_cases hk:e.Kind=3
  ·rw[ifP hk] at h' ⊢
   obtain⟨y,h1,h2⟩:=bd h'
   obtain⟨s,h3,h4⟩:=bd h2
   rw[h1,bsS,m1 _ _ _ _ h3];exact h4
  ·rw[ifN hk] at h' ⊢
   obtain⟨s,h3,h4⟩:=bd h'
   have m2:eachL (z9R (q8m (n+1))) 0 e.Args l=some s:=m1 _ _ _ _ h3
   rw[m2];exact h4
theorem k0Y:∀ (m:Nat) (e:Expr) (l:List Oc),fuE e≤m→z7G l→l.length+(z6u e).length≤1099511627776 →
  ∃ q,q8m m e l=some q∧z7G q∧(∀ a,a∈q↔a∈l∨a∈z6u e)∧q.length≤l.length+(z6u e).length:=by
 intro m
 induction m with
 | zero=>intro e l h;rw[j0N] at h;omega
 | succ m ih=>
  intro e l h hs hb
  rw[j0N] at h
  rw[z6v,List.length_append] at hb
  have hl:∀ (xs:List Expr) (i:Nat) (s:List Oc),fuEs xs≤m→z7G s→s.length+(z1L xs).length≤1099511627776 →
    ∃ q,eachL (z3N (q8m m)) i xs s=some q∧z7G q∧(∀ a,a∈q↔a∈s∨a∈z1L xs)∧q.length≤s.length+(z1L xs).length:=by
   intro xs
   induction xs with
   | nil=>intro i s _ hs _;exact⟨s,rfl,hs,by simp[z1L],by omega⟩
   | cons x xs ihl=>
    intro i s hf hs hb
    simp only[fuEs] at hf
    simp only[z1L,List.length_append] at hb
    obtain⟨q,h1,h2,h3,h4⟩:=ih x s (by omega) hs (by omega)
    obtain⟨q2,k1,k2,k3,k4⟩:=ihl (i+1) q (by omega) h2 (by omega)
    refine⟨q2,?_,k2,fun a=>?_,by simp only[z1L,List.length_append];omega⟩
    ·simp only[eachL,z3N,h1,bsS];exact k1
    ·rw[k3,h3,z1L,List.mem_append,or_assoc]
  show ∃ q,z2T (q8m m) e l=some q∧_
  unfold z2T
  by_cases hk:e.Kind=3
  ·rw[ifP hk] at hb ⊢
   simp only[lnC,List.length_nil] at hb
   obtain⟨y,h1,h2,h3,h4⟩:=k2y (l:=l) (o:=⟨e.Pos,e.Name⟩) (by omega) hs
   obtain⟨q,k1,k2,k3,k4⟩:=hl e.Args 0 y (by omega) h2 (by omega)
   refine⟨q,?_,k2,fun a=>?_,?_⟩
   ·rw[h1,bsS,k1];rfl
   ·rw[k3,h3,z6v,ifP hk,List.mem_append,List.mem_singleton]
    constructor
    ·rintro ((h|h)|h)<;>simp[h]
    ·rintro (h|h|h)<;>simp[h]
   ·rw[z6v,ifP hk];simp;omega
  ·rw[ifN hk] at hb ⊢
   simp only[List.length_nil] at hb
   obtain⟨q,k1,k2,k3,k4⟩:=hl e.Args 0 l (by omega) hs (by omega)
   have k1' : eachL (z9R (q8m m)) 0 e.Args l=some q:=k1
   refine⟨q,?_,k2,fun a=>?_,?_⟩
   ·rw[k1'];rfl
   ·rw[k3,z6v,ifN hk];simp
   ·rw[z6v,ifN hk];simpa using k4
theorem j7f (e:Expr):z7G (attrs e):=by
 refine z7D lessO_swo.trans z8s ?_
 have h:=List.pairwise_mergeSort (le:=fun x y=>!z3Y y x) (fun a b c h1 h2=>by
  simp only[Bool.not_eq_true'] at h1 h2 ⊢
  exact lessO_swo.ntrans _ _ _ h2 h1) (fun a b=>by
  cases h:z3Y a b with
  | false=>simp[h]
  | true=>
   cases h2:z3Y b a with
   | false=>simp
   | true=>have:=lessO_swo.trans _ _ _ h h2;rw[lessO_swo.irrefl] at this;cases this) (z6u e)
 unfold j6A
 exact h.imp fun {a b} h=>by simpa using h
theorem j5D {e:Expr}(h:Sz.szd e≤1048576):q6A e=some (attrs e):=by
 have hl:=k2i h
 obtain⟨q,h1,h2,h3,h4⟩:=k0Y _ e [] (Nat.le_refl _) List.Pairwise.nil (by simp;omega)
 have hq:q=attrs e:=j4m (lt:=z3Y) lessO_swo.irrefl lessO_swo.trans h2 (j7f e) fun a=>by rw[h3,k2j];simp
 subst hq
 have hr:j2g e []=some (attrs e):=k2x (fun n q=>k6H n e [] q) h1
 unfold q6A
 rw[hr];rfl
def Ok {ρ:Type}(Q:ρ→Prop)(o:Option ρ):Prop:=∃ r,o=some r∧Q r
section
variable {ρ τ σ α:Type}{Q:ρ→Prop}{R:τ→Prop}
theorem Ok.ret {r:ρ}(h:Q r):Ok Q (some r):=⟨r,rfl,h⟩
theorem Ok.bind {o:Option ρ}{f:ρ→Option τ}(h:Ok Q o)(hf:∀ r,Q r→Ok R (f r)):Ok R (o.bind f):=by
 obtain⟨r,rfl,hr⟩:=h;exact hf r hr
theorem Ok.grd {c:Prop}[Decidable c]{k:Option τ}(hc:c)(h:Ok R k):Ok R (Go.E.grd c k):=by rw[q3E hc];exact h
theorem Ok.ite {c:Prop}[Decidable c]{a b:Option τ}(h1:c→Ok R a)(h2:¬ c→Ok R b):Ok R (if c then a else b):=by
 by_cases hc:c
 ·rw[ifP hc];exact h1 hc
 ·rw[ifN hc];exact h2 hc
theorem Ok.mono {Q' : ρ→Prop}{o:Option ρ}(h:Ok Q o)(hq:∀ r,Q r→Q' r):Ok Q' o:=by
 obtain⟨r,rfl,hr⟩:=h;exact⟨r,rfl,hq r hr⟩
theorem j9E {P:Nat→σ→Prop}{f:Nat→σ→Option σ}:∀ {n i:Nat} {s:σ},P i s→(∀ k s,i≤k→k<i+n→P k s→Ok (P (k+1)) (f k s))→Ok (P (i+n)) (eachN f i n s)
 | 0,i,s,h,_=>⟨s,rfl,h⟩
 | n+1,i,s,h,hf=>by
  rw[eachN]
  refine (hf i s (Nat.le_refl _) (by omega) h).bind fun r hr=>?_
  have:=j9E (n:=n) hr fun k s h1 h2=>hf k s (by omega) (by omega)
  rwa[show i+1+n=i+(n+1) by omega] at this
theorem j5E {P:Nat→σ→Prop}{f:Nat→α→σ→Option σ}:∀ {xs:List α} {i:Nat} {s:σ},P i s→(∀ k x s,x∈xs→i≤k→k<i+xs.length→P k s→Ok (P (k+1)) (f k x s))→Ok (P (i+xs.length)) (eachL f i xs s)
 | [],i,s,h,_=>⟨s,rfl,h⟩
 | x::xs,i,s,h,hf=>by
  rw[eachL]
  refine (hf i x s (by simp) (Nat.le_refl _) (by simp) h).bind fun r hr=>?_
  have:=j5E (xs:=xs) hr fun k y s hy h1 h2=>hf k y s (by simp[hy]) (by omega) (by simp;omega)
  rwa[show i+1+xs.length=i+(x::xs).length by simp;omega] at this
theorem k6I {g:Nat→Option ρ}{N:Nat}(h:∀ n,N≤n→g (n+1)=g n)(h2:Ok Q (g N)):Ok Q (recO g):=by
 obtain⟨r,h3,h4⟩:=h2
 have:∀ k,g (N+k)=some r:=by
  intro k
  induction k with
  | zero=>exact h3
  | succ k ih=>rw[← Nat.add_assoc,h _ (by omega),ih]
 exact⟨r,z0L N fun n hn=>by have:=this (n-N);rwa[show N+(n-N)=n by omega] at this,h4⟩
end
def CB (b:List UInt8)(z:l1Cur):Prop:=0≤z.i∧z.b=b
theorem CB.mk' {b:List UInt8}{o z:l1Cur}(h:CB b o)(hz:CB b z):CB b ⟨o.b,z.i,z.h⟩:=⟨hz.1,h.2⟩
def Dr {α:Type}(b:List UInt8)(P:α→Prop)(o:Option (α×l1Cur)):Prop:=Ok (fun r=>P r.1∧CB b r.2) o
theorem Dr.of {α:Type}{b:List UInt8}{P:α→Prop}{o:Option (α×l1Cur)}(hb:b.length≤1048576)(h:∃ y z,o=some (y,z)∧P y∧j5C z∧z.b=b):Dr b P o:=by
 obtain⟨y,z,e,h1,h2,h3⟩:=h
 exact⟨(y,z),e,h1,h2.1,h3⟩
theorem CB.ok {b:List UInt8}{z:l1Cur}(hb:b.length≤1048576)(h:CB b z):j5C z:=⟨h.1,by rw[h.2];exact hb⟩
section
variable {b:List UInt8}{o:l1Cur}(hb:b.length≤1048576)
include hb
theorem k5J:Ok (fun z=>CB b z) (z6e b):=by
 obtain⟨o,h1,h2,h3⟩:=k4A hb
 exact⟨o,h1,h2.1,h3⟩
theorem q6T (n:Int)(h:CB b o):Dr b (fun y=>0≤y∧(0<n→y<n)∧(n≤0→y=0)) (q4i n o):=by
 obtain⟨y,z,h1,h2,h3,h4,h5,h6⟩:=j4q (h.ok hb) n
 exact⟨(y,z),h1,⟨h2,h3,h4⟩,h5.1,h6.trans h.2⟩
theorem z6x (n:Int)(h:CB b o):Dr b (fun _=>True) (q7n n o):=by
 unfold q7n
 refine (q6T hb n h).bind ?_
 rintro⟨y,z⟩ ⟨_,hz⟩
 exact .ret ⟨trivial,h.mk' hz⟩
theorem k6J {l:List ByteArray}(hl:l≠[])(h:CB b o):Dr b (fun y=>y∈l) (z6X l o):=by
 have hpos:=List.length_pos_iff.2 hl
 unfold z6X
 refine (q6T hb _ h).bind ?_
 rintro⟨y,z⟩ ⟨⟨h1,h2,_⟩,hz⟩
 dsimp only at h1 h2 hz ⊢
 have:=h2 (by omega)
 obtain⟨x,hx⟩:∃ x,l[y.toNat]?=some x:=⟨_,List.getElem?_eq_getElem (by omega)⟩
 rw[hx]
 exact .grd h1 (.ret ⟨List.mem_of_getElem? hx,h.mk' hz⟩)
theorem z3T {l:List Int}(hl:l≠[])(h:CB b o):Dr b (fun y=>y∈l) (q5U l o):=by
 obtain⟨y,z,h1,h2,h3,h4⟩:=j7d (h.ok hb) hl
 exact⟨(y,z),h1,h2,h3.1,h4.trans h.2⟩
theorem k2z (k n p t:Int)(s m:ByteArray):Sz.szd (⟨k,n,p,t,s,m,[]⟩:Expr)=s.size+m.size:=by rw[z0k];rfl
theorem k7Q (k n p t:Int)(s m:ByteArray)(x y:Expr):Sz.szd (⟨k,n,p,t,s,m,[x,y]⟩:Expr)=s.size+m.size+(1+Sz.szd x+(1+Sz.szd y+0)):=by rw[z0k];rfl
theorem k7R (k n p t:Int)(s m:ByteArray)(x:Expr):Sz.szd (⟨k,n,p,t,s,m,[x]⟩:Expr)=s.size+m.size+(1+Sz.szd x+0):=by rw[z0k];rfl
theorem k4C (k n p t:Int)(s m:ByteArray)(x y z:Expr):Sz.szd (⟨k,n,p,t,s,m,[x,y,z]⟩:Expr)=s.size+m.size+(1+Sz.szd x+(1+Sz.szd y+(1+Sz.szd z+0))):=by rw[z0k];rfl
theorem z9C:(⟨#[]⟩:ByteArray).size=0:=rfl
theorem j2P (k:Int){l:List Oc}(hl:∀ q∈l,q.Name.size≤8)(h:CB b o):Dr b (fun e=>Sz.szd e≤8) (q9P k l o):=by
 have bare:∀ {o:l1Cur},CB b o→∀ {R:Option (Expr×l1Cur)},R=(if k=4 then
   (q7n 3 o).bind fun (y10,z7)=>if y10=true then some ((⟨7,0,0,0,(⟨#[]⟩:ByteArray),(⟨#[]⟩:ByteArray),[]⟩:Expr),(⟨o.b,z7.i,z7.h⟩:l1Cur)) else some ((⟨6,0,0,0,(⟨#[]⟩:ByteArray),(⟨#[]⟩:ByteArray),[]⟩:Expr),(⟨o.b,z7.i,z7.h⟩:l1Cur))
  else if k=3 then (q4i 2 o).bind fun (y11,z8)=>(q8B y11 k).bind fun y12=>some (y12,(⟨o.b,z8.i,z8.h⟩:l1Cur))
  else if k=2 then (q4i 12 o).bind fun (y13,z9)=>grd (0≤y13) <| grd (0≤y13∧y13<63) <| (q8B ((2 ^ y13.toNat:Nat):Int) k).bind fun y14=>some (y14,(⟨o.b,z9.i,z9.h⟩:l1Cur))
  else (q4i 9 o).bind fun (y15,z10)=>(q8B y15 1).bind fun y16=>some (y16,(⟨o.b,z10.i,z10.h⟩:l1Cur)))→Dr b (fun e=>Sz.szd e≤8) R:=by
  rintro o h R rfl
  refine .ite (fun _=>?_) fun _=>.ite (fun _=>?_) fun _=>.ite (fun _=>?_) fun _=>?_
  ·refine (z6x hb 3 h).bind ?_
   rintro⟨y,z⟩ ⟨_,hz⟩
   refine .ite (fun _=>.ret ⟨?_,h.mk' hz⟩) fun _=>.ret ⟨?_,h.mk' hz⟩
   ·exact Nat.zero_le _
   ·exact Nat.zero_le _
  ·refine (q6T hb 2 h).bind ?_
   rintro⟨y,z⟩ ⟨_,hz⟩
   refine .ret ⟨?_,h.mk' hz⟩
   exact Nat.zero_le _
  ·refine (q6T hb 12 h).bind ?_
   rintro⟨y,z⟩ ⟨⟨h1,h2,_⟩,hz⟩
   have:=h2 (by omega)
   dsimp only at h1 this
   refine .grd h1 (.grd (by omega) (.ret ⟨?_,h.mk' hz⟩))
   exact Nat.zero_le _
  ·refine (q6T hb 9 h).bind ?_
   rintro⟨y,z⟩ ⟨_,hz⟩
   refine .ret ⟨?_,h.mk' hz⟩
   exact Nat.zero_le _
 unfold q9P
 refine .ite (fun hl0=>?_) fun _=>bare h rfl
 refine (z6x hb 4 h).bind ?_
 rintro⟨y,z⟩ ⟨_,hz⟩
 have h':=h.mk' hz
 refine .ite (fun _=>?_) fun _=>?_
 ·exact bare h' rfl
 ·refine (q6T hb _ h').bind ?_
  rintro⟨y,z⟩ ⟨⟨h1,h2,_⟩,hz⟩
  have:=h2 (by omega)
  dsimp only at h1 this
  obtain⟨x,hx⟩:∃ x,l[y.toNat]?=some x:=⟨_,List.getElem?_eq_getElem (by omega)⟩
  dsimp only
  rw[hx]
  refine .grd h1 (.ret ⟨?_,h.mk' hz⟩)
  dsimp only
  rw[k2z hb,z9C hb]
  have:=hl x (List.mem_of_getElem? hx)
  omega
def fb (d:Nat):Nat:=20*4 ^ d
theorem k5K (d:Nat):20≤fb d:=by
 have:1≤4 ^ d:=Nat.one_le_pow _ _ (by omega)
 unfold fb;omega
theorem k6K (d:Nat):fb (d+1)=4*fb d:=by unfold fb;rw[Nat.pow_succ];omega
theorem k7S {e:Expr}{n:Nat}(h:Sz.szd e≤n):cntE e≤n+1:=by
 have h1:=j5y e
 have h2:z1K e=Sz.szd e:=rfl
 omega
end
def Valid (r:Rl_):Prop:=0≤r.N∧r.N≤16∧(r.Rows.length:Int)=r.N∧∀ x∈r.Rows,0≤x∧x≤((2 ^ r.N.toNat:Nat):Int)-1
instance (r:Rl_):Decidable (Valid r):=by unfold Valid;infer_instance
def z6O (r:Rl_)(i:Int):Int:=r.Rows.getD i.toNat 0
def bit (x:Int)(k:Int):Prop:=x.toNat >>> k.toNat &&& 1=1
instance (x k:Int):Decidable (bit x k):=by unfold bit;infer_instance
def inN (r:Rl_)(i:Int):Prop:=0≤i∧i≤r.N-1
instance (r:Rl_) (i:Int):Decidable (inN r i):=by unfold inN;infer_instance
def hasP (r:Rl_)(i k:Int):Prop:=Valid r∧inN r i∧inN r k∧bit (z6O r i) k
instance (r:Rl_) (i k:Int):Decidable (hasP r i k):=by unfold hasP;infer_instance
def j2Q (r:Rl_)(i:Int)(x:Int):Rl_:=⟨r.N,r.Rows.set i.toNat x⟩
def orI (x y:Int):Int:=((x.toNat ||| y.toNat:Nat):Int)
def addP (r:Rl_)(i k:Int):Rl_:=if Valid r∧inN r i∧inN r k then j2Q r i (orI (z6O r i) ((2 ^ k.toNat:Nat):Int)) else r
theorem Valid.row {r:Rl_}(h:Valid r){i:Int}(hi:inN r i){x:Int}(hx:r.Rows[i.toNat]?=some x):z6O r i=x∧0≤x∧x≤65535:=by
 have hm:=h.2.2.2 x (List.mem_of_getElem? hx)
 have hp:2 ^ r.N.toNat≤2 ^ 16:=Nat.pow_le_pow_right (by decide) (by have:=h.2.1;omega)
 refine⟨by unfold z6O;simp[hx],hm.1,by omega⟩
theorem k8u {n:Int}(h:n≤16):2 ^ n.toNat≤65536:=by
 have:2 ^ n.toNat≤2 ^ 16:=Nat.pow_le_pow_right (by decide) (by omega)
 simpa using this
theorem j5F (n:Int):1≤2 ^ n.toNat:=Nat.one_le_two_pow
theorem k2A {r:Rl_}(h0:0≤r.N)(h1:r.N≤16)(h2:(r.Rows.length:Int)=r.N):decide (Valid r)=!(r.Rows.any fun x=>!decide (0≤x∧x≤((2 ^ r.N.toNat:Nat):Int)-1)):=by
 by_cases hv:Valid r
 ·rw[decide_eq_true hv,eq_comm,Bool.not_eq_true',List.any_eq_false]
  intro x hx
  simp only[Bool.not_eq_true',decide_eq_false_iff_not,Decidable.not_not]
  exact hv.2.2.2 x hx
 ·rw[decide_eq_false hv,eq_comm,Bool.not_eq_false',List.any_eq_true]
  refine Classical.byContradiction fun hn=>hv ⟨h0,h1,h2,fun x hx=>Classical.byContradiction fun hb=>hn ⟨x,hx,?_⟩⟩
  rw[decide_eq_false hb];rfl
theorem k5L {x k:Int}(h:(((((x.toNat >>> k.toNat:Nat):Int)).toNat &&& (1:Int).toNat:Nat):Int)=1):x.toNat >>> k.toNat &&& 1=1:=by
 have:(1:Int).toNat=1:=rfl
 rw[tnC,this] at h
 exact_mod_cast h
theorem k5M {x k:Int}(h:x.toNat >>> k.toNat &&& 1=1):(((((x.toNat >>> k.toNat:Nat):Int)).toNat &&& (1:Int).toNat:Nat):Int)=1:=by
 have:(1:Int).toNat=1:=rfl
 rw[tnC,this]
 exact_mod_cast h
theorem z0I (x lo hi:Int):q5F x lo hi=some (decide (lo≤x∧x≤hi)):=by
 unfold q5F;split<;>simp_all<;>omega
theorem z5O (x lo hi:Int):q4b x lo hi=some (decide (lo≤x∧x≤hi)):=by
 unfold q4b;split<;>simp_all<;>omega
theorem q6O (r:Rl_):q4A r=some (decide (Valid r)):=by
 unfold q4A
 simp only[z0I,bsS,decide_eq_true_eq]
 by_cases h1:0≤r.N∧r.N≤16
 ·rw[ifP h1]
  by_cases h2:(r.Rows.length:Int)=r.N
  ·rw[ifP h2]
   have key:=z9w (c:=false) (n:=r.N.toNat) (i:=0) (p:=fun k=>∃ x,r.Rows[k]?=some x∧¬ (0≤x∧x≤((2 ^ r.N.toNat:Nat):Int)-1)) (f:=z0O r) fun k hk=>by
    have hk' : k<r.Rows.length:=by omega
    obtain⟨x,hx⟩:∃ x,r.Rows[k]?=some x:=⟨_,List.getElem?_eq_getElem hk'⟩
    simp only[Nat.zero_add]
    unfold z0O
    rw[hx,bsS,q3E h1.1,q3E (by omega),z0I,bsS]
    simp only[decide_eq_true_eq]
    refine⟨fun ⟨y,hy,hn⟩=>?_,fun hn=>?_⟩
    ·cases hy;rw[ifN hn]
    ·by_cases hb:0≤x∧x≤((2 ^ r.N.toNat:Nat):Int)-1
     ·rw[ifP hb]
     ·exact absurd ⟨x,rfl,hb⟩ hn
   simp only[Nat.zero_add] at key
   by_cases hv:Valid r
   ·rw[key.2 fun k hk ⟨x,hx,hn⟩=>hn (hv.2.2.2 x (List.mem_of_getElem? hx))]
    simp[hv]
   ·rw[key.1 (Classical.byContradiction fun hn=>hv ⟨h1.1,h1.2,h2,fun x hx=>?_⟩)]
    ·simp[hv]
    ·obtain⟨k,hk⟩:=List.getElem?_of_mem hx
     have hk':=k8l hk
     exact Classical.byContradiction fun hb=>hn ⟨k,by omega,x,hk,hb⟩
  ·rw[ifN h2,decide_eq_false fun hv=>h2 hv.2.2.1]
 ·rw[ifN h1,decide_eq_false fun hv=>h1 ⟨hv.1,hv.2.1⟩]
theorem z0X (r:Rl_):q5D r=some (decide (Valid r)):=by
 unfold q5D
 simp only[z5O,bsS,decide_eq_true_eq]
 by_cases h1:0≤r.N∧r.N≤16
 ·rw[ifP h1]
  simp only[bsS,Bool.false_eq_true,if_true,if_false,decide_eq_true_eq]
  by_cases h2:(r.Rows.length:Int)=r.N
  ·rw[ifP h2]
   have h3:∀ x,z0q x r=some (!decide (0≤x∧x≤((2 ^ r.N.toNat:Nat):Int)-1)):=fun x=>by
    unfold z0q
    rw[q3E h1.1,q3E (by omega),z5O];rfl
   have h4:∀ (xs:List Int) (i:Nat),∃ z,findL (q5p r) i xs ()=some z∧((xs.any fun x=>!decide (0≤x∧x≤((2 ^ r.N.toNat:Nat):Int)-1))=true→∃ k:Nat,z=.inr (k:Int))∧((xs.any fun x=>!decide (0≤x∧x≤((2 ^ r.N.toNat:Nat):Int)-1))=false→z=.inl ()):=by
    intro xs
    induction xs with
    | nil=>intro i;exact⟨_,rfl,by simp,by simp⟩
    | cons x xs ih=>
     intro i
     simp only[findL,q5p,h3,bsS,List.any_cons]
     by_cases hb:0≤x∧x≤((2 ^ r.N.toNat:Nat):Int)-1
     ·simp only[hb,and_self,decide_true,Bool.not_true,Bool.false_eq_true,if_false,bsS,Bool.false_or]
      exact ih (i+1)
     ·simp only[hb,decide_false,Bool.not_false,if_true,bsS,Bool.true_or]
      exact⟨_,rfl,fun _=>⟨i,rfl⟩,by simp⟩
   unfold q6n q6I
   obtain⟨z,hz,hz1,hz2⟩:=h4 r.Rows 0
   rw[hz,k2A h1.1 h1.2 h2]
   cases ha:(r.Rows.any fun x=>!decide (0≤x∧x≤((2 ^ r.N.toNat:Nat):Int)-1)) with
   | true=>obtain⟨k,rfl⟩:=hz1 ha;simp
   | false=>rw[hz2 ha];simp
  ·rw[ifN h2,decide_eq_false fun hv=>h2 hv.2.2.1];simp only[bsS,Bool.false_eq_true,if_true,if_false,decide_eq_true_eq]
 ·rw[ifN h1,decide_eq_false fun hv=>h1 ⟨hv.1,hv.2.1⟩];simp only[bsS,Bool.false_eq_true,if_true,if_false,decide_eq_true_eq]
theorem q9i (r:Rl_)(i k:Int):q8j r i k=some (decide (hasP r i k)):=by
 unfold q8j
 simp only[q6O,z0I,bsS,decide_eq_true_eq]
 by_cases hv:Valid r
 ·have hv1:=hv.1;have hv2:=hv.2.1;have hv3:=hv.2.2.1
  rw[ifP hv,q3E (by constructor<;>omega)];simp only[bsS,Bool.false_eq_true,if_true,if_false,decide_eq_true_eq]
  by_cases hi:0≤i∧i≤r.N-1
  ·rw[ifP hi,q3E (by constructor<;>omega)];simp only[bsS,Bool.false_eq_true,if_true,if_false,decide_eq_true_eq]
   by_cases hk:0≤k∧k≤r.N-1
   ·obtain⟨x,hx⟩:∃ x,r.Rows[i.toNat]?=some x:=⟨_,List.getElem?_eq_getElem (by omega)⟩
    have hrow:=hv.row (i:=i) hi hx
    rw[ifP hk,q3E hi.1,hx,bsS,q3E hk.1,q3E ⟨hrow.2.1,hk.1,by omega⟩,q3E ⟨Int.natCast_nonneg _,by decide⟩]
    simp only[bsS,Bool.false_eq_true,if_true,if_false,decide_eq_true_eq]
    congr 1
    refine decide_eq_decide.2 ⟨fun hb=>⟨hv,hi,hk,?_⟩,fun hb=>?_⟩
    ·unfold bit;rw[hrow.1];exact k5L hb
    ·have:=hb.2.2.2;unfold bit at this;rw[hrow.1] at this;exact k5M this
   ·rw[ifN hk];simp only[bsS,Bool.false_eq_true,if_true,if_false,decide_eq_true_eq];rw[ decide_eq_false fun h=>hk h.2.2.1]
  ·rw[ifN hi];simp only[bsS,Bool.false_eq_true,if_true,if_false,decide_eq_true_eq];rw[ decide_eq_false fun h=>hi h.2.1]
 ·rw[ifN hv];simp only[bsS,Bool.false_eq_true,if_true,if_false,decide_eq_true_eq];rw[ decide_eq_false fun h=>hv h.1]
theorem z6y (r:Rl_)(i k:Int):z2u r i k=some (decide (hasP r i k)):=by
 rw[← q9i]
 unfold z2u q8j
 simp only[q6O,z0X,z0I,z5O]
theorem j2R:q9V=q9x:=by
 funext r;unfold q9V q9x z4U
 by_cases h:((([]:List Int).length:Int)+(r.Rows.length:Int))*8≤140737488355328∧(([]:List Int).length:Int)+(r.Rows.length:Int)≤9223372036854775807
 ·rw[q3E h,q3E h];rfl
 ·unfold grd;rw[ifN h,ifN h];rfl
theorem k4D:z2u=q8j:=by
 funext r i k;rw[z6y,q9i]
theorem j5G:z7Y=q7H:=by
 funext r i k;unfold z7Y q7H;simp only[j2R,q6O,z0X,z0I,z5O]
theorem z7Z:q9t=q5l:=by
 funext n;unfold q9t q5l;simp only[z0I,z5O]
theorem z5P {r:Rl_}(h:r.Rows.length≤1048576):q9x r=some r:=by
 unfold q9x;rw[q3E (by simp only[List.length_nil];constructor<;>omega)]
theorem k4E {r:Rl_}(h:r.Rows.length≤1048576)(i k:Int):∃ x,q7H r i k=some x∧x.Rows.length=r.Rows.length:=by
 unfold q7H
 simp only[z5P h,q6O,z0I,bsS,decide_eq_true_eq]
 by_cases hv:Valid r
 ·have hv1:=hv.1;have hv2:=hv.2.1;have hv3:=hv.2.2.1
  rw[ifP hv,q3E (by constructor<;>omega)];simp only[bsS,Bool.false_eq_true,if_true,if_false,decide_eq_true_eq]
  by_cases hi:0≤i∧i≤r.N-1
  ·rw[ifP hi,q3E (by constructor<;>omega)];simp only[bsS,Bool.false_eq_true,if_true,if_false,decide_eq_true_eq]
   by_cases hk:0≤k∧k≤r.N-1
   ·obtain⟨x,hx⟩:∃ x,r.Rows[i.toNat]?=some x:=⟨_,List.getElem?_eq_getElem (by omega)⟩
    have hrow:=hv.row (i:=i) hi hx
    rw[ifP hk,q3E hi.1,hx,bsS,q3E hk.1,q3E ⟨hk.1,by omega⟩,q3E ⟨hrow.2.1,Int.natCast_nonneg _⟩]
    exact⟨_,rfl,by simp⟩
   ·rw[ifN hk];exact⟨_,rfl,rfl⟩
  ·rw[ifN hi];simp only[bsS,Bool.false_eq_true,if_true,if_false,decide_eq_true_eq];exact⟨_,rfl,rfl⟩
 ·rw[ifN hv];simp only[bsS,Bool.false_eq_true,if_true,if_false,decide_eq_true_eq];exact⟨_,rfl,rfl⟩
theorem j9F {r:Rl_}(h:r.Rows.length≤1048576)(i k:Int):q7H r i k=some (addP r i k):=by
 unfold q7H
 simp only[z5P h,q6O,z0I,bsS,decide_eq_true_eq]
 by_cases hv:Valid r
 ·have hv1:=hv.1;have hv2:=hv.2.1;have hv3:=hv.2.2.1
  rw[ifP hv,q3E (by constructor<;>omega)];simp only[bsS,Bool.false_eq_true,if_true,if_false,decide_eq_true_eq]
  by_cases hi:0≤i∧i≤r.N-1
  ·rw[ifP hi,q3E (by constructor<;>omega)];simp only[bsS,Bool.false_eq_true,if_true,if_false,decide_eq_true_eq]
   by_cases hk:0≤k∧k≤r.N-1
   ·obtain⟨x,hx⟩:∃ x,r.Rows[i.toNat]?=some x:=⟨_,List.getElem?_eq_getElem (by omega)⟩
    have hrow:=hv.row (i:=i) hi hx
    rw[ifP hk,q3E hi.1,hx,bsS,q3E hk.1,q3E ⟨hk.1,by omega⟩,q3E ⟨hrow.2.1,Int.natCast_nonneg _⟩]
    have e:addP r i k=j2Q r i (orI (z6O r i) ((2 ^ k.toNat:Nat):Int)):=ifP ⟨hv,hi,hk⟩
    rw[e,hrow.1];rfl
   ·rw[ifN hk]
    have e:addP r i k=r:=ifN fun h=>hk h.2.2
    rw[e]
  ·rw[ifN hi];simp only[bsS,Bool.false_eq_true,if_true,if_false,decide_eq_true_eq]
   have e:addP r i k=r:=ifN fun h=>hi h.2.1
   rw[e]
 ·rw[ifN hv];simp only[bsS,Bool.false_eq_true,if_true,if_false,decide_eq_true_eq]
  have e:addP r i k=r:=ifN fun h=>hv h.1
  rw[e]
theorem j1x {n:Int}(h0:0≤n)(h1:n≤16):q5l n=some ⟨n,List.replicate n.toNat 0⟩:=by
 unfold q5l
 rw[z0I,bsS,ifP (by simp;omega),q3E (by omega)]
theorem z8a (r:Rl_)(i k:Int):(addP r i k).Rows.length=r.Rows.length∧(addP r i k).N=r.N:=by
 unfold addP
 split
 ·exact⟨by simp[j2Q],rfl⟩
 ·exact⟨rfl,rfl⟩
theorem j1y (x k:Int):bit x k↔x.toNat.testBit k.toNat=true:=by
 unfold bit
 rw[Nat.testBit_eq_decide_div_mod_eq,Nat.shiftRight_eq_div_pow]
 simp[Nat.and_one_is_mod]
def j5H (k:Nat)(s:List Int):List Int:=s.map fun x=>if x.toNat.testBit k=true then orI x (s.getD k 0) else x
def j0O (s:List Int):Nat→List Int
 | 0=>s
 | m+1=>j5H m (j0O s m)
def z4D (n:Nat)(s:List Int):Prop:=s.length=n∧∀ x∈s,0≤x∧x.toNat<2 ^ n
theorem j4r (x y:Int):0≤orI x y:=by unfold orI;omega
theorem z9D (x y:Int):(orI x y).toNat=x.toNat ||| y.toNat:=by unfold orI;omega
theorem k2B {n:Nat}{s:List Int}(h:z4D n s)(k:Nat):0≤s.getD k 0∧(s.getD k 0).toNat<2 ^ n:=by
 rw[List.getD_eq_getElem?_getD]
 cases hk:s[k]? with
 | none=>simp;exact Nat.two_pow_pos n
 | some x=>exact h.2 x (List.mem_of_getElem? hk)
theorem k4F {n k:Nat}{s:List Int}(h:z4D n s):z4D n (j5H k s):=by
 refine⟨by unfold j5H;rw[lnM];exact h.1,fun x hx=>?_⟩
 unfold j5H at hx
 obtain⟨y,hy,rfl⟩:=List.mem_map.1 hx
 have h1:=h.2 y hy
 split
 ·exact⟨j4r _ _,by rw[z9D];exact Nat.or_lt_two_pow h1.2 (k2B h k).2⟩
 ·exact h1
theorem z3j {n:Nat}{s:List Int}(h:z4D n s):∀ m,z4D n (j0O s m)
 | 0=>h
 | m+1=>k4F (z3j h m)
def Rl (s:List Int)(i j:Nat):Prop:=(s.getD i 0).toNat.testBit j=true
theorem k6L {n k:Nat}{s:List Int}(h:z4D n s){i:Nat}(hi:i<n)(j:Nat):Rl (j5H k s) i j↔Rl s i j∨(Rl s i k∧Rl s k j):=by
 unfold Rl
 have hs:∃ x,s[i]?=some x:=⟨_,List.getElem?_eq_getElem (by rw[h.1];exact hi)⟩
 obtain⟨x,hx⟩:=hs
 have e1:s.getD i 0=x:=by rw[List.getD_eq_getElem?_getD,hx];rfl
 have e2:(j5H k s).getD i 0=if x.toNat.testBit k=true then orI x (s.getD k 0) else x:=by
  unfold j5H
  rw[List.getD_eq_getElem?_getD,List.getElem?_map,hx];rfl
 rw[e1,e2]
 by_cases hb:x.toNat.testBit k=true
 ·rw[ifP hb,z9D,Nat.testBit_or,Bool.or_eq_true];simp[hb]
 ·rw[ifN hb];simp[hb]
theorem k8v {n:Nat}{s:List Int}(h:z4D n s){i j:Nat}(hR:Rl s i j):j<n:=by
 unfold Rl at hR
 have h1:=(k2B h i).2
 apply Decidable.byContradiction
 intro hj
 have:(s.getD i 0).toNat.testBit j=false:=Nat.testBit_lt_two_pow (Nat.lt_of_lt_of_le h1 (Nat.pow_le_pow_right (by omega) (by omega)))
 rw[this] at hR;cases hR
theorem k5N {n:Nat}{s:List Int}(h:z4D n s){i j:Nat}(hR:Rl s i j):i<n:=by
 unfold Rl at hR
 apply Decidable.byContradiction
 intro hi
 have:s.getD i 0=0:=by rw[List.getD_eq_getElem?_getD,List.getElem?_eq_none (by rw[h.1];omega)];rfl
 rw[this] at hR;simp at hR
theorem k2C {n:Nat}{s:List Int}(h:z4D n s):∀ (m i j:Nat),Rl s i j→Rl (j0O s m) i j
 | 0,_,_,hR=>hR
 | m+1,i,j,hR=>by
  have hR':=k2C h m i j hR
  exact (k6L (z3j h m) (k5N (z3j h m) hR') j).2 (.inl hR')
theorem j9G {n k:Nat}{s:List Int}(h:z4D n s)(hk:k<n)(hn:n≤16):eachN (q8D k) 0 n s=some (j5H k s):=by
 have hkk:∃ y,s[k]?=some y:=⟨_,List.getElem?_eq_getElem (by rw[h.1];exact hk)⟩
 obtain⟨y,hy⟩:=hkk
 have ey:s.getD k 0=y:=by rw[List.getD_eq_getElem?_getD,hy];rfl
 let f:Int→Int:=fun x=>if x.toNat.testBit k=true then orI x y else x
 have hf:f y=y:=by
  show (if y.toNat.testBit k=true then orI y y else y)=y
  have:=(h.2 y (List.mem_of_getElem? hy)).1
  split
  ·unfold orI;rw[Nat.or_self];omega
  ·rfl
 obtain⟨s',h1,h2⟩:=j1u (P:=fun m t=>t=(s.take m).map f++s.drop m) (f:=q8D k) (n:=n) (i:=0) (s:=s) (by simp) (fun m t _ hm ht=>by
  subst ht
  have hms:m<s.length:=by rw[h.1];omega
  obtain⟨x,hx⟩:∃ x,s[m]?=some x:=⟨_,List.getElem?_eq_getElem hms⟩
  have hx0:=h.2 x (List.mem_of_getElem? hx)
  have hy0:=h.2 y (List.mem_of_getElem? hy)
  have g1:((s.take m).map f++s.drop m)[m]?=some x:=by
   rw[List.getElem?_append_right (by simp;omega)]
   simp only[lnM,List.length_take]
   rw[show m-min m s.length=0 by omega,List.getElem?_drop,Nat.add_zero,hx]
  have g2:((s.take m).map f++s.drop m)[k]?=some y:=by
   by_cases hkm:k<m
   ·rw[List.getElem?_append_left (by simp;omega),List.getElem?_map,List.getElem?_take,ifP hkm,hy]
    show some (f y)=_
    rw[hf]
   ·rw[List.getElem?_append_right (by simp;omega)]
    simp only[lnM,List.length_take]
    rw[List.getElem?_drop,show m+(k-min m s.length)=k by omega,hy]
  have hset:(((s.take m).map f++s.drop m).set m (f x))=(s.take (m+1)).map f++s.drop (m+1):=by
   rw[List.set_append_right _ _ (by simp;omega)]
   simp only[lnM,List.length_take]
   rw[show m-min m s.length=0 by omega,List.take_add_one,hx,List.map_append,List.append_assoc]
   congr 1
   rw[List.drop_eq_getElem_cons hms];rfl
  have hno:f x=x→((s.take m).map f++s.drop m)=(s.take (m+1)).map f++s.drop (m+1):=fun e=>by
   rw[← hset,e]
   apply List.ext_getElem?
   intro q
   rw[List.getElem?_set]
   by_cases hq:m=q
   ·subst hq
    rw[ifP rfl,g1]
    split
    ·rfl
    ·rename_i hl;exact absurd (by simp;omega) hl
   ·rw[ifN hq]
  refine⟨_,?_,rfl⟩
  unfold q8D
  rw[g1,bsS,q3E (by refine⟨hx0.1,by omega,by omega⟩),q3E ⟨Int.natCast_nonneg _,by decide⟩]
  by_cases hb:bit x (k:Int)
  ·have hb':=(j1y x k).1 hb
   rw[tnC] at hb'
   rw[ifP (k5M hb),g2,bsS,q3E ⟨hx0.1,hy0.1⟩,bsS,← hset]
   show some (List.set _ m (orI x y))=some (List.set _ m (f x))
   have:f x=orI x y:=ifP hb'
   rw[this]
  ·have hb' : ¬ x.toNat.testBit k=true:=fun h=>hb ((j1y x k).2 (by rw[tnC];exact h))
   rw[ifN (fun h=>hb (k5L h)),bsS,← hno (ifN hb')])
 rw[h1]
 subst h2
 unfold j5H
 rw[Nat.zero_add,List.take_of_length_le (by rw[h.1];exact Nat.le_refl _),List.drop_eq_nil_of_le (by rw[h.1];exact Nat.le_refl _),List.append_nil,ey]
theorem z8b {r:Rl_}(h:Valid r):z4D r.N.toNat r.Rows∧r.N.toNat≤16:=by
 obtain⟨h0,h1,h2,h3⟩:=h
 have:=j5F r.N
 exact⟨⟨by omega,fun x hx=>⟨(h3 x hx).1,by have:=(h3 x hx).2;omega⟩⟩,by omega⟩
def q6w (r:Rl_):Rl_:=if Valid r then ⟨r.N,j0O r.Rows r.N.toNat⟩ else r
theorem k6M:z5K=q8D:=rfl
theorem j2S {r:Rl_}(h:r.Rows.length≤1048576):q8k r=some (q6w r):=by
 unfold q8k q6w
 rw[z5P h,bsS,q6O,bsS]
 by_cases hv:Valid r
 ·rw[ifP (by simpa using hv),ifP hv]
  obtain⟨hok,hn⟩:=z8b hv
  obtain⟨t,h1,h2⟩:=j1u (P:=fun m t=>t=j0O r.Rows m) (f:=z1Y r) (n:=r.N.toNat) (i:=0) (s:=r.Rows) rfl (fun k s _ hk hs=>by
   subst hs
   refine⟨_,?_,rfl⟩
   unfold z1Y
   rw[j9G (z3j hok k) (by omega) hn];rfl)
  rw[h1,bsS,h2,Nat.zero_add]
 ·rw[ifN (by simpa using hv),ifN hv]
theorem j2T {r:Rl_}(h:r.Rows.length≤1048576):z0H r=some (q6w r):=by
 unfold z0H q6w
 rw[j2R,z5P h,bsS,z0X,bsS]
 by_cases hv:Valid r
 ·rw[ifP (by simpa using hv),ifP hv]
  obtain⟨hok,hn⟩:=z8b hv
  obtain⟨t,h1,h2⟩:=j1u (P:=fun m t=>t=j0O r.Rows m) (f:=z2v) (n:=r.Rows.length) (i:=0) (s:=r.Rows) rfl (fun k s _ hk hs=>by
   subst hs
   refine⟨_,?_,rfl⟩
   unfold z2v
   have hl:=(z3j hok k).1
   rw[hl,k6M,j9G (z3j hok k) (by rw[hok.1] at hk;omega) hn];rfl)
  rw[h1,bsS,h2,Nat.zero_add,hok.1]
 ·rw[ifN (by simpa using hv),ifN hv]
theorem j4s (r:Rl_):(q6w r).Rows.length=r.Rows.length∧(q6w r).N=r.N:=by
 unfold q6w
 by_cases hv:Valid r
 ·rw[ifP hv]
  obtain⟨hok,_⟩:=z8b hv
  exact⟨by show (j0O r.Rows r.N.toNat).length=_;rw[(z3j hok _).1,hok.1],rfl⟩
 ·rw[ifN hv];exact⟨rfl,rfl⟩
theorem j7g {r:Rl_}(h:Valid r):Valid (q6w r):=by
 obtain⟨hok,hn⟩:=z8b h
 obtain⟨k1,k2⟩:=z3j hok r.N.toNat
 obtain⟨h0,h1,h2,h3⟩:=h
 unfold q6w
 rw[ifP ⟨h0,h1,h2,h3⟩]
 refine⟨h0,h1,by show ((j0O r.Rows r.N.toNat).length:Int)=r.N;omega,fun x hx=>?_⟩
 have:=k2 x hx
 have:=j5F r.N
 exact⟨(k2 x hx).1,by show x≤((2 ^ r.N.toNat:Nat):Int)-1;omega⟩
theorem k6N {r:Rl_}(h:Valid r)(i j:Nat):hasP r (i:Int) (j:Int)↔Rl r.Rows i j:=by
 obtain⟨hok,hn⟩:=z8b h
 unfold hasP
 have h0:=h.1
 constructor
 ·rintro⟨_,_,_,hb⟩
  have:=(j1y _ _).1 hb
  simpa[Rl,z6O] using this
 ·intro hR
  have hi:=k5N hok hR
  have hj:=k8v hok hR
  refine⟨h,⟨by omega,by omega⟩,⟨by omega,by omega⟩,(j1y _ _).2 ?_⟩
  simpa[Rl,z6O] using hR
theorem j2U {r:Rl_}(h:r.Rows.length≤1048576):z5M r=some (decide (∃ k:Nat,k<r.Rows.length∧hasP (q6w r) (k:Int) (k:Int))):=by
 unfold z5M
 rw[j2T h,bsS]
 have hl:=(j4s r).1
 have hf:∀ (k:Nat) (x:Int),(hasP (q6w r) (k:Int) (k:Int)→z4B (q6w r) k x ()=some (.inr true))∧(¬ hasP (q6w r) (k:Int) (k:Int)→z4B (q6w r) k x ()=some (.inl ())):=fun k x=>by
  unfold z4B
  rw[z6y,bsS]
  exact⟨fun hp=>ifP (by simpa using hp),fun hp=>ifN (by simpa using hp)⟩
 have hany:=z4C (c:=true) (xs:=(q6w r).Rows) (i:=0) (p:=fun k _=>hasP (q6w r) (k:Int) (k:Int)) (f:=z4B (q6w r)) fun k x _=>by
  rw[Nat.zero_add];exact hf k x
 by_cases hp:∃ k:Nat,k<r.Rows.length∧hasP (q6w r) (k:Int) (k:Int)
 ·rw[decide_eq_true hp]
  obtain⟨k,hk,hpk⟩:=hp
  rw[hany.1 ⟨k,_,List.getElem?_eq_getElem (by omega),by rw[Nat.zero_add];exact hpk⟩];rfl
 ·rw[decide_eq_false hp]
  rw[hany.2 fun k x hx hpk=>hp ⟨k,by rw[← hl];exact (List.getElem?_eq_some_iff.1 hx).1,by rw[Nat.zero_add] at hpk;exact hpk⟩];rfl
theorem z2w {α ρ:Type}{p:α→Bool}{r:α→ρ}:∀ {xs:List α} {i:Nat} {f:Nat→α→Unit→Option (Unit ⊕ ρ)},(∀ k x,x∈xs→(p x=true→f k x ()=some (.inr (r x)))∧(p x=false→f k x ()=some (.inl ()))) →
  findL f i xs ()=some (match xs.find? p with|some x=>.inr (r x)|none=>.inl ())
 | [],_,_,_=>rfl
 | x::xs,i,f,h=>by
  have h0:=h i x (by simp)
  cases hp:p x with
  | true=>simp[findL,h0.1 hp,List.find?,hp]
  | false=>
   have ih:=z2w (p:=p) (r:=r) (xs:=xs) (i:=i+1) (f:=f) fun k y hy=>h k y (by simp[hy])
   simp[findL,h0.2 hp,List.find?,hp,ih]
theorem z4W {α β:Type}{p:α→Bool}{g:Nat→α→β}{B:Nat}{f:Nat→α→List β→Option (List β)}(hf:∀ k x s,s.length<B→f k x s=some (if p x=true then s++[g k x] else s)):∀ (xs:List α) (i:Nat) (s:List β),s.length+xs.length≤B →
  ∃ ys,eachL f i xs s=some (s++ys)∧ys.length≤xs.length
 | [],i,s,_=>⟨[],by simp[eachL],by simp⟩
 | x::xs,i,s,h=>by
  simp only[lnC] at h
  by_cases hp:p x=true
  ·obtain⟨ys,h1,h2⟩:=z4W hf xs (i+1) (s++[g i x]) (by simp;omega)
   exact⟨g i x::ys,by simp[eachL,hf i x s (by omega),hp,h1],by simp;omega⟩
  ·obtain⟨ys,h1,h2⟩:=z4W hf xs (i+1) s (by omega)
   exact⟨ys,by simp[eachL,hf i x s (by omega),hp,h1],by simp;omega⟩
theorem z3k (x lo hi:Int):q5F x lo hi=some (decide (lo≤x∧x≤hi)):=by
 unfold q5F;split<;>simp_all<;>omega
theorem z8o (x lo hi:Int):q4b x lo hi=some (decide (lo≤x∧x≤hi)):=by
 unfold q4b;split<;>simp_all<;>omega
theorem j0g (r:Rule)(k:Int):q7h r k=q4w r k:=by
 unfold q7h q4w;rw[z3k,z8o]
def j0h (a:At_):Bool:=decide (a.Mode=1∨a.Mode=2)
theorem j4t:z4z=q6e:=rfl
theorem j3Q:z4A=q7S:=rfl
theorem k2D {g:Gm_}(h:∀ y∈g.Symbols,y.Attributes.length≤1048576)(s:ByteArray):∃ y b,q5y g s=some (y,b)∧q6a g s=some (y,b)∧y.Attributes.length≤1048576:=by
 have h1:=z2w (p:=fun y:Symbol=>decide (y.Name=s)) (r:=fun y=>(y,true)) (xs:=g.Symbols) (i:=0) (f:=z0u s) fun k y hy=>by
  have hg:q9O y=some y:=by
   unfold q9O;have:=h y hy;rw[q3E (by simp only[List.length_nil];constructor<;>omega)]
  unfold z0u;rw[hg];constructor<;>intro hp<;>simp_all
 have h2:=z2w (p:=fun y:Symbol=>decide (y.Name=s)) (r:=fun y=>(y,true)) (xs:=g.Symbols) (i:=0) (f:=z0C s) fun k y hy=>by
  unfold z0C;constructor<;>intro hp<;>simp_all
 unfold q5y q6a
 rw[h1,h2]
 cases hf:g.Symbols.find? (fun y:Symbol=>decide (y.Name=s)) with
 | none=>exact⟨_,_,rfl,rfl,by simp⟩
 | some y=>exact⟨_,_,rfl,rfl,h y (List.mem_of_find?_eq_some hf)⟩
theorem k0Z {g:Gm_}(h:∀ y∈g.Symbols,y.Attributes.length≤1048576)(s:ByteArray):∃ l,q5z g s=some l∧q6u g s=some l∧l.length≤1048576:=by
 obtain⟨y,b,h1,h2,h3⟩:=k2D h s
 obtain⟨l,h4,h5⟩:=z4W (p:=j0h) (g:=fun _ x=>x) (B:=1048577) (f:=q6e) (fun k x s hs=>by
  have hg:((s.length:Int)+1)*40≤140737488355328∧(s.length:Int)+1≤9223372036854775807:=by constructor<;>omega
  unfold q6e j0h
  rw[q3E hg]
  by_cases m1:x.Mode=1
  ·rw[ifP m1,ifP (by simp[m1])];rfl
  ·rw[ifN m1]
   by_cases m2:x.Mode=2
   ·rw[ifP m2,ifP (by simp[m2])];rfl
   ·rw[ifN m2,ifN (by simp[m1,m2])];rfl) y.Attributes 0 [] (by simp;omega)
 simp only[List.nil_append] at h4
 refine⟨l,?_,?_,by omega⟩
 ·unfold q5z;rw[h1];dsimp only[bsS];rw[h4];rfl
 ·unfold q6u;rw[h2];dsimp only[bsS];rw[j4t,h4];rfl
theorem k1a (r:Rule)(k:Nat)(hk:k≤r.Right.length)(hl:r.Right.length≤1048576):∃ x,q4w r (k:Int)=some x:=by
 unfold q4w
 by_cases h0:(k:Int)=0
 ·exact⟨_,ifP h0⟩
 ·rw[ifN h0,z3k,bsS,ifP (by simp;omega),q3E (by constructor<;>omega),q3E (by omega)]
  obtain⟨x,hx⟩:∃ x,r.Right[((k:Int)-1).toNat]?=some x:=⟨_,List.getElem?_eq_getElem (by omega)⟩
  exact⟨x,by rw[hx];rfl⟩
theorem k2E (k:Nat)(B:Nat)(hB:B≤4398046511104):∀ (l:List At_) (i:Nat) (s:List Oc),s.length+l.length≤B→∃ ys,eachL (q6l k) i l s=some (s++ys)∧ys.length≤l.length:=fun l i s h=>
 z4W (p:=fun _=>true) (g:=fun _ x=>(⟨(k:Int),x.Name⟩:Oc)) (B:=B) (f:=q6l k) (fun j x s hs=>by
  have hg:((s.length:Int)+1)*24≤140737488355328∧(s.length:Int)+1≤9223372036854775807:=by constructor<;>omega
  unfold q6l
  rw[q3E hg,ifP rfl]) l i s h
theorem j9H (k:Nat):z5u (k:Int)=q6l k:=rfl
theorem j9I {g:Gm_}{r:Rule}(h:∀ y∈g.Symbols,y.Attributes.length≤1048576)(hr:r.Right.length≤1048576):∃ l,q6B g r=some l∧q8l g r=some l∧l.length≤1099512676352:=by
 have key:∀ m k (s:List Oc),k+m=r.Right.length+1→s.length≤k*1048576→∃ l,eachN (q7M g r) k m s=some l∧q4o (q5t g r) (s,(k:Int))=some l∧l.length≤(k+m)*1048576:=by
  intro m
  induction m with
  | zero=>
   intro k s hk hs
   refine⟨s,rfl,q3F ?_,by simpa using hs⟩
   unfold q5t;dsimp only;rw[ifN (by omega)]
  | succ m ih=>
   intro k s hk hs
   obtain⟨x,hx⟩:=k1a r k (by omega) hr
   obtain⟨p,hp1,hp2,hp3⟩:=k0Z h x
   obtain⟨ys,hy1,hy2⟩:=k2E k 4398046511104 (by omega) p 0 s (by omega)
   obtain⟨l,h1,h2,h3⟩:=ih (k+1) (s++ys) (by omega) (by simp;omega)
   refine⟨l,?_,?_,by rw[show k+(m+1)=k+1+m by omega];exact h3⟩
   ·have e:q7M g r k s=some (s++ys):=by
     unfold q7M;rw[j0g,hx,bsS,hp2,bsS,hy1];rfl
    simp only[eachN,e,bsS];exact h1
   ·have e:q5t g r (s,(k:Int))=some (.inl (s++ys,((k+1:Nat):Int))):=by
     unfold q5t;dsimp only
     rw[ifP (by omega),hx,bsS,hp1,bsS,j9H,hy1,bsS,q3E (by constructor<;>omega)];rfl
    rw[q3L e];exact h2
 obtain⟨l,h1,h2,h3⟩:=key (r.Right.length+1) 0 [] (by omega) (by simp)
 refine⟨l,?_,?_,by omega⟩
 ·unfold q6B
  have e:q4o (q5t g r) (([]:List Oc),0)=some l:=h2
  rw[e];rfl
 ·unfold q8l
  rw[q3E (by constructor<;>omega),h1];rfl
theorem k2F {α:Type}[Sz α]{x:α}:∀ {l:List α},x∈l→Sz.szd x≤szL l
 | [],h=>by simp at h
 | y::l,h=>by
  rcases List.mem_cons.1 h with rfl|h
  ·simp only[szL];omega
  ·have:=k2F h;simp only[szL];omega
theorem q7z {g:Gm_}(h:Sz.szd g≤1048576):∀ y∈g.Symbols,y.Attributes.length≤1048576:=fun y hy=>by
 have h1:=k2F hy
 have h2:=j4l y
 have h3:=z6t g
 have h4:=q9X y.Attributes
 omega
theorem q4E {r:Rule}(h:Sz.szd r≤1048576):r.Right.length≤1048576:=by
 have h1:=z9x r
 have h2:=q9X r.Right
 omega
theorem j2V (k:Nat):∀ (l:List At_) (i:Nat) (s:List Oc),s.length+l.length≤4398046511104→eachL (q6l k) i l s=some (s++l.map fun x=>(⟨(k:Int),x.Name⟩:Oc))
 | [],i,s,_=>by simp[eachL]
 | x::l,i,s,h=>by
  simp only[lnC] at h
  have hg:((s.length:Int)+1)*24≤140737488355328∧(s.length:Int)+1≤9223372036854775807:=by constructor<;>omega
  have e:q6l k i x s=some (s++[(⟨(k:Int),x.Name⟩:Oc)]):=by unfold q6l;rw[q3E hg]
  simp only[eachL,e,bsS]
  rw[j2V k l (i+1) _ (by simp;omega)];simp
theorem k6O:∀ (n:Nat) (e q:Expr),q7Q n e=some q→q7Q (n+1) e=some q:=by
 intro n
 induction n with
 | zero=>intro e q h;cases h
 | succ n ih=>
  intro e q h
  have h' : z1o (q7Q n) e=some q:=h
  show z1o (q7Q (n+1)) e=some q
  unfold z1o at h' ⊢
  obtain⟨s,h1,h2⟩:=bd h'
  rw[j0f (g:=z3M (q7Q (n+1))) (fun k x s q hq=>by
   unfold z3M at hq ⊢
   obtain⟨y,h3,h4⟩:=bd hq
   rw[ih _ _ h3,bsS];exact h4) _ _ _ _ h1]
  exact h2
theorem k1b:∀ (m:Nat) (e:Expr),fuE e≤m→Sz.szd e≤1048576→q7Q m e=some e:=by
 intro m
 induction m with
 | zero=>intro e h;rw[j0N] at h;omega
 | succ m ih=>
  intro e h hs
  rw[j0N] at h
  have hl:∀ (l:List Expr) (i:Nat) (s:List Expr),(∀ x∈l,fuE x≤m∧Sz.szd x≤1048576)→s.length+l.length≤4398046511→eachL (z3M (q7Q m)) i l s=some (s++l):=by
   intro l
   induction l with
   | nil=>intro i s _ _;simp[eachL]
   | cons x l ihl=>
    intro i s hx hb
    simp only[lnC] at hb
    have h1:=ih x (hx x (by simp)).1 (hx x (by simp)).2
    have e1:z3M (q7Q m) i x s=some (s++[x]):=by
     unfold z3M;rw[h1,bsS,q3E (by constructor<;>omega)]
    simp only[eachL,e1,bsS]
    rw[ihl _ _ (fun y hy=>hx y (by simp[hy])) (by simp;omega)];simp
  show z1o (q7Q m) e=some e
  unfold z1o
  have h2:=z0k e
  have h3:=q9X e.Args
  rw[hl e.Args 0 [] (fun x hx=>⟨by have:=j5x hx;omega,by have:=k5H hx;omega⟩) (by simp;omega),List.nil_append,bsS]
  cases e;rfl
theorem k6P {e:Expr}(h:Sz.szd e≤1048576):z9b e=some e:=k2x (fun n q=>k6O n e q) (k1b _ e (Nat.le_refl _) h)
theorem k1c:z8x=z9b:=by
 have h:∀ n,z2j n=q7Q n:=by
  intro n
  induction n with
  | zero=>rfl
  | succ n ih=>funext e;show z6l (z2j n) e=z1o (q7Q n) e;rw[ih];rfl
 funext e
 show recO (fun n=>z2j n e)=recO fun n=>q7Q n e
 congr 1;funext n;rw[h]
def j8y:Expr:=⟨0,0,0,0,⟨#[]⟩,⟨#[]⟩,[]⟩
def eqAt (r:Rule)(o:Oc):Expr×Bool:=match r.Equations.find? fun q=>decide (q.At=o) with
 | some q=>(q.Expr,true)
 | none=>(j8y,false)
theorem z8H {r:Rule}{q:Eqn}(h:q∈r.Equations):Sz.szd q.Expr≤Sz.szd r:=by
 have h1:=z9x r
 have h2:=j0M q
 have h3:=z9A h
 have h4:=z0k q.Expr
 omega
theorem j5I {r:Rule}(h:Sz.szd r≤1048576)(o:Oc):Sz.szd (eqAt r o).1≤1048576:=by
 unfold eqAt
 cases hf:r.Equations.find? (fun q=>decide (q.At=o)) with
 | none=>show Sz.szd j8y≤_;have:Sz.szd j8y=0:=rfl;omega
 | some q=>have:=z8H (List.mem_of_find?_eq_some hf);show Sz.szd q.Expr≤_;omega
theorem j1z {r:Rule}(h:Sz.szd r≤1048576)(o:Oc):q5G r o=some (eqAt r o):=by
 have key:∀ (l:List Eqn) (i:Nat),(∀ q∈l,Sz.szd q.Expr≤1048576)→findL (q8i o) i l ()=some (match l.find? fun q=>decide (q.At=o) with
   | some q=>.inr (q.Expr,true)
   | none=>.inl ()):=by
  intro l
  induction l with
  | nil=>intro i _;rfl
  | cons q l ih=>
   intro i hq
   by_cases hp:q.At=o
   ·simp[findL,q8i,hp,k6P (hq q (by simp))]
   ·simp[findL,q8i,hp]
    exact ih _ fun y hy=>hq y (by simp[hy])
 unfold q5G eqAt
 rw[key _ _ fun q hq=>by have:=z8H hq;omega]
 cases r.Equations.find? (fun q=>decide (q.At=o))<;>rfl
theorem j8z {r:Rule}(h:Sz.szd r≤1048576)(o:Oc):q5G r o=some (eqAt r o)∧q7X r o=some (eqAt r o):=by
 have e:q7X=q5G:=by
  have e1:z3o=q8i:=by funext a k x u;unfold z3o q8i;rw[k1c]
  funext r o;unfold q7X q5G;rw[e1]
 rw[e]
 exact⟨j1z h o,j1z h o⟩
theorem k1d:q8n=q6v:=by
 funext l o
 unfold q8n q6v q3R
 have e:z0N o=q3K o:=by
  funext k x u
  unfold z0N q3K
  by_cases h:x=o
  ·rw[ifP h,ifP h.symm]
  ·rw[ifN h,ifN fun e=>h e.symm]
 rw[e]
 cases ((findL (q3K o) 0 l ()).bind <| onr (fun r1=>some r1) fun _=>some (-1))<;>rfl
theorem k1e (l:List Oc)(o:Oc):∃ k,q6v l o=some k:=by
 have h:q3R l o=some (ixF l o):=by
  unfold q3R
  refine j2K fun k x=>⟨fun e=>?_,fun e=>?_⟩
  ·unfold q3K;rw[ifP e.symm]
  ·unfold q3K;rw[ifN (fun h=>e h.symm)]
 exact⟨_,by unfold q6v;rw[h];rfl⟩
theorem k8w {r x:Rl_}{i k:Int}(h:q7H r i k=some x):x.N=r.N:=by
 unfold q7H at h
 obtain⟨y,h1,h⟩:=bd h
 have hy:y=r:=by unfold q9x at h1;obtain⟨_,h1⟩:=z5Z h1;exact (Option.some.inj h1).symm
 subst hy
 obtain⟨y2,_,h⟩:=bd h
 obtain⟨s1,_,h⟩:=bd h
 obtain⟨s2,_,h⟩:=bd h
 by_cases hs:s2=true
 ·rw[ifP hs] at h
  obtain⟨_,h⟩:=z5Z h
  obtain⟨_,_,h⟩:=bd h
  obtain⟨_,h⟩:=z5Z h
  obtain⟨_,h⟩:=z5Z h
  obtain⟨_,h⟩:=z5Z h
  cases h;rfl
 ·rw[ifN hs] at h
  cases h;rfl
theorem k4G (l:List Oc)(k:Nat):∀ (us:List Oc) (i:Nat) (rows:List Int) (n:Int),rows.length≤1048576 →
  ∃ rows',eachL (q6M l k) i us (rows,n)=some (rows',n)∧eachL (q8C l (k:Int)) i us (rows,n)=some (rows',n)∧rows'.length=rows.length:=by
 intro us
 induction us with
 | nil=>intro i rows n _;exact⟨rows,rfl,rfl,rfl⟩
 | cons u us ih=>
  intro i rows n h
  obtain⟨j,hj⟩:=k1e l u
  obtain⟨x,hx,hxl⟩:=k4E (r:=⟨n,rows⟩) h j (k:Int)
  have hN:=k8w hx
  obtain⟨rows',h1,h2,h3⟩:=ih (i+1) x.Rows n (by rw[hxl];exact h)
  have e1:q6M l k i u (rows,n)=some (x.Rows,n):=by
   unfold q6M
   dsimp only
   rw[hj,bsS,j5G,hx,bsS,hN]
  have e2:q8C l (k:Int) i u (rows,n)=some (x.Rows,n):=by
   unfold q8C
   dsimp only
   rw[k1d,hj,bsS,hx,bsS,hN]
  exact⟨rows',by simp only[eachL,e1,bsS];exact h1,by simp only[eachL,e2,bsS];exact h2,h3.trans hxl⟩
theorem k1f:attrs j8y=[]:=by
 have:z6u j8y=[]:=by simp[j8y,z6u,z1L]
 unfold attrs j6A
 rw[this];simp[q5s]
theorem k2G {r:Rule}(hr:Sz.szd r≤1048576)(l:List Oc)(hl:l.length≤16):∀ (m k:Nat) (rows:List Int) (n:Int),k+m=l.length→0<n→rows.length≤1048576 →
  ∃ rows',eachL (q6N r l) k (l.drop k) (rows,n)=some (rows',n)∧q4o (q5u r l) ((k:Int),rows,n)=some (rows',n)∧rows'.length=rows.length:=by
 intro m
 induction m with
 | zero=>
  intro k rows n hk hn h
  refine⟨rows,by rw[List.drop_eq_nil_of_le (by omega)];rfl,q3F ?_,rfl⟩
  unfold q5u
  dsimp only
  rw[ifN (by omega)]
 | succ m ih=>
  intro k rows n hk hn h
  obtain⟨x,hx⟩:∃ x,l[k]?=some x:=⟨_,List.getElem?_eq_getElem (by omega)⟩
  have hd:l.drop k=x::l.drop (k+1):=by
   rw[List.drop_eq_getElem_cons (by omega)]
   have:l[k]=x:=by rw[List.getElem?_eq_getElem (by omega)] at hx;exact Option.some.inj hx
   rw[this]
  obtain⟨E,B,hq⟩:∃ E B,eqAt r x=(E,B):=⟨_,_,rfl⟩
  obtain⟨rows1,h1,h2,h3⟩:=k4G l k (attrs E) 0 rows n h
  obtain⟨rows',k1,k2,k3⟩:=ih (k+1) rows1 n (by omega) hn (by omega)
  have hsz:=j5I hr x
  have hf:=j8z hr x
  rw[hq] at hsz hf
  have e1:q6N r l k x (rows,n)=some (rows1,n):=by
   unfold q6N
   dsimp only
   rw[hf.2,bsS]
   dsimp only
   rw[j1v hsz,bsS,h1];rfl
  have hin:(grd (0≤(k:Int)) <| (l[(k:Int).toNat]?).bind fun x1=>(q5G r x1).bind fun (y3,y4)=>if y4=true then ((q6A y3).bind fun y5=>(eachL (q8C l (k:Int)) 0 y5 (rows,n)).bind fun (s8,s9)=>some (s8,s9)) else some (rows,n))=some (rows1,n):=by
   rw[q3E (by omega),tnC,hx,bsS,hf.1,bsS]
   dsimp only
   cases hb:B with
   | true=>rw[ifP rfl,j5D hsz,bsS,h2,bsS]
   | false=>
    have hz:E=j8y:=by
     unfold eqAt at hq
     cases hf:r.Equations.find? (fun q=>decide (q.At=x)) with
     | none=>rw[hf] at hq;cases hq;rfl
     | some q=>rw[hf] at hq;cases hq;cases hb
    rw[hz,k1f] at h1
    simp only[eachL,Option.some.injEq,Prod.mk.injEq] at h1
    rw[ifN (by simp),h1.1]
  have e2:q5u r l ((k:Int),rows,n)=some (.inl (((k+1:Nat):Int),rows1,n)):=by
   unfold q5u
   dsimp only
   rw[ifP (by omega),ifP hn,hin,bsS]
   dsimp only
   rw[q3E (by constructor<;>omega)];rfl
  exact⟨rows',by rw[hd];simp only[eachL,e1,bsS];exact k1,by rw[q3L e2];exact k2,k3.trans h3⟩
theorem k1g {g:Gm_}{r:Rule}(h:Sz.szd g≤1048576)(hr:Sz.szd r≤1048576):∃ x,q7e g r=some x∧q9u g r=some x∧x.Rows.length≤16:=by
 obtain⟨l,h1,h2,_⟩:=j9I (q7z h) (q4E hr)
 have hem:∀ n:Nat,q5l (n:Int)=if n≤16 then some ⟨(n:Int),List.replicate n 0⟩ else some ⟨0,[]⟩:=fun n=>by
  unfold q5l
  rw[z0I,bsS]
  by_cases hn:n≤16
  ·rw[ifP (by simp;omega),q3E (by omega),ifP hn];rfl
  ·rw[ifN (by simp;omega),ifN hn]
 unfold q7e q9u
 rw[h1,h2,bsS,bsS,z7Z,hem]
 by_cases hl:l.length≤16
 ·rw[ifP hl,bsS,bsS,ifN (by omega)]
  dsimp only
  by_cases h0:l.length=0
  ·have:l=[]:=List.eq_nil_of_length_eq_zero h0
   subst this
   have e:q4o (q5u r ([]:List Oc)) (0,List.replicate ([]:List Oc).length 0,((([]:List Oc).length:Nat):Int))=some (List.replicate ([]:List Oc).length 0,((([]:List Oc).length:Nat):Int)):=q3F (by unfold q5u;dsimp only;rw[ifN (by simp)])
   rw[e]
   exact⟨_,rfl,rfl,by simp⟩
  ·obtain⟨rows',k1,k2,k3⟩:=k2G hr l hl l.length 0 (List.replicate l.length 0) (l.length:Int) (by omega) (by omega) (by simp;omega)
   have k2' : q4o (q5u r l) (0,List.replicate l.length 0,(l.length:Int))=some (rows',(l.length:Int)):=k2
   rw[List.drop_zero] at k1
   rw[k1,k2']
   exact⟨_,rfl,rfl,by show rows'.length≤16;simp at k3;omega⟩
 ·rw[ifN hl,bsS,bsS,ifP (by omega)]
  have e:q4o (q5u r l) (0,([]:List Int),(0:Int))=some ([],0):=q3F (by unfold q5u;dsimp only;rw[ifP (by omega),ifN (by omega)])
  rw[e]
  exact⟨_,rfl,rfl,by simp⟩
theorem z5Q {α β:Type}{p:α→Bool}{g:α→β}{B:Nat}{f:Nat→α→List β→Option (List β)}(hf:∀ k x s,s.length<B→f k x s=some (if p x=true then s++[g x] else s)):∀ (xs:List α) (i:Nat) (s:List β),s.length+xs.length≤B →
  eachL f i xs s=some (s++(xs.filter p).map g)
 | [],i,s,_=>by simp[eachL]
 | x::xs,i,s,h=>by
  simp only[lnC] at h
  by_cases hp:p x=true
  ·have ih:=z5Q hf xs (i+1) (s++[g x]) (by simp;omega)
   simp[eachL,hf i x s (by omega),hp,ih]
  ·have ih:=z5Q hf xs (i+1) s (by omega)
   simp[eachL,hf i x s (by omega),hp,ih]
theorem j2W {α β:Type}{p:α→Bool}{g:Nat→β}{B:Nat}{f:Nat→α→List β→Option (List β)}(hf:∀ k x s,s.length<B→f k x s=some (if p x=true then s++[g k] else s)):∀ (xs:List α) (i:Nat) (s:List β),s.length+xs.length≤B →
  eachL f i xs s=some (s++((xs.zipIdx i).filter fun q=>p q.1).map fun q=>g q.2)
 | [],i,s,_=>by simp[eachL]
 | x::xs,i,s,h=>by
  simp only[lnC] at h
  by_cases hp:p x=true
  ·have ih:=j2W hf xs (i+1) (s++[g i]) (by simp;omega)
   simp[eachL,hf i x s (by omega),hp,ih,List.zipIdx_cons]
  ·have ih:=j2W hf xs (i+1) s (by omega)
   simp[eachL,hf i x s (by omega),hp,ih,List.zipIdx_cons]
theorem j0i {β:Type}{h:Nat→List β}{C n:Nat}{f:Nat→List β→Option (List β)}(hf:∀ k s,k<n→s.length≤k*C→f k s=some (s++h k))(hh:∀ k,k<n→(h k).length≤C) :
  ∀ (m k:Nat) (s:List β),k+m=n→s.length≤k*C→eachN f k m s=some (s++(List.range' k m).flatMap h)
 | 0,k,s,_,_=>by simp[eachN]
 | m+1,k,s,hk,hs=>by
  have hl:=hh k (by omega)
  have e:(k+1)*C=k*C+C:=Nat.succ_mul k C
  have ih:=j0i hf hh m (k+1) (s++h k) (by omega) (by rw[List.length_append];omega)
  simp[eachN,hf k s (by omega) hs,ih,List.range'_succ]
theorem j2X {β:Type}{h:Nat→List β}{C n:Nat}{f:(List β×Int)→Option ((List β×Int) ⊕ List β)}(hf:∀ (k:Nat) s,k<n→s.length≤k*C→f (s,(k:Int))=some (.inl (s++h k,((k+1:Nat):Int))))(he:∀ s,f (s,(n:Int))=some (.inr s))(hh:∀ k,k<n→(h k).length≤C) :
  ∀ (m k:Nat) (s:List β),k+m=n→s.length≤k*C→q4o f (s,(k:Int))=some (s++(List.range' k m).flatMap h)
 | 0,k,s,hk,_=>by
  obtain rfl:k=n:=by omega
  rw[q3F (he s)];simp
 | m+1,k,s,hk,hs=>by
  have hl:=hh k (by omega)
  have e:(k+1)*C=k*C+C:=Nat.succ_mul k C
  have ih:=j2X hf he hh m (k+1) (s++h k) (by omega) (by rw[List.length_append];omega)
  rw[q3L (hf k s (by omega) hs),ih];simp[List.range'_succ]
abbrev GOk (g:Gm_):Prop:=∀ y∈g.Symbols,y.Attributes.length≤1048576
def zS:Symbol:=⟨⟨#[]⟩,[]⟩
def zA:At_:=⟨⟨#[]⟩,0,0,false⟩
def q6Z (g:Gm_)(s:ByteArray):Symbol×Bool:=match g.Symbols.find? fun y=>decide (y.Name=s) with
 | some y=>(y,true)
 | none=>(zS,false)
def z3l (y:Symbol)(s:ByteArray):At_×Bool:=match y.Attributes.find? fun a=>decide (a.Name=s) with
 | some a=>(a,true)
 | none=>(zA,false)
theorem z3m {g:Gm_}(h:GOk g)(s:ByteArray):q5y g s=some (q6Z g s):=by
 have h1:=z2w (p:=fun y:Symbol=>decide (y.Name=s)) (r:=fun y=>(y,true)) (xs:=g.Symbols) (i:=0) (f:=z0u s) fun k y hy=>by
  have hg:q9O y=some y:=by
   unfold q9O;have:=h y hy;rw[q3E (by simp only[List.length_nil];constructor<;>omega)]
  unfold z0u;rw[hg];constructor<;>intro hp<;>simp_all
 unfold q5y q6Z
 rw[h1]
 cases hf:g.Symbols.find? (fun y:Symbol=>decide (y.Name=s)) with
 | none=>rfl
 | some y=>rfl
theorem z4E (g:Gm_)(s:ByteArray):q6a g s=some (q6Z g s):=by
 have h2:=z2w (p:=fun y:Symbol=>decide (y.Name=s)) (r:=fun y=>(y,true)) (xs:=g.Symbols) (i:=0) (f:=z0C s) fun k y hy=>by
  unfold z0C;constructor<;>intro hp<;>simp_all
 unfold q6a q6Z
 rw[h2]
 cases hf:g.Symbols.find? (fun y:Symbol=>decide (y.Name=s)) with
 | none=>rfl
 | some y=>rfl
theorem z4F {g:Gm_}(h:GOk g)(s:ByteArray):(q6Z g s).1.Attributes.length≤1048576:=by
 unfold q6Z
 cases hf:g.Symbols.find? (fun y:Symbol=>decide (y.Name=s)) with
 | none=>simp[zS]
 | some y=>exact h y (List.mem_of_find?_eq_some hf)
theorem z9E (y:Symbol)(s:ByteArray):q7k y s=some (z3l y s):=by
 have h2:=z2w (p:=fun y:At_=>decide (y.Name=s)) (r:=fun y=>(y,true)) (xs:=y.Attributes) (i:=0) (f:=z2f s) fun k y hy=>by
  unfold z2f;constructor<;>intro hp<;>simp_all
 unfold q7k z3l
 rw[h2]
 cases hf:y.Attributes.find? (fun y:At_=>decide (y.Name=s)) with
 | none=>rfl
 | some y=>rfl
theorem j2Y (y:Symbol)(s:ByteArray):q5Z y s=some (z3l y s):=z9E y s
def q5Y (r:Rule)(k:Int):ByteArray:=if k=0 then r.Left else if 1≤k∧k≤(r.Right.length:Int) then r.Right.getD (k-1).toNat ⟨#[]⟩ else ⟨#[]⟩
abbrev ROk (r:Rule):Prop:=r.Right.length≤1048576
theorem z3v {r:Rule}(hl:ROk r)(k:Int):q4w r k=some (q5Y r k):=by
 unfold q4w q5Y
 by_cases h0:k=0
 ·rw[ifP h0,ifP h0]
 ·rw[ifN h0,ifN h0,z3k,bsS]
  by_cases h1:1≤k∧k≤(r.Right.length:Int)
  ·rw[ifP (by simpa using h1),ifP h1,q3E (by constructor<;>omega),q3E (by omega)]
   have:(k-1).toNat<r.Right.length:=by omega
   rw[List.getElem?_eq_getElem this,List.getD_eq_getElem?_getD,List.getElem?_eq_getElem this];rfl
  ·rw[ifN (by simpa using h1),ifN h1]
theorem z8I {r:Rule}(hl:ROk r)(k:Int):q7h r k=some (q5Y r k):=by rw[j0g,z3v hl]
def z1O (g:Gm_)(r:Rule)(o:Oc):At_×Bool:=if 0≤o.Pos∧o.Pos≤(r.Right.length:Int) then z3l (q6Z g (q5Y r o.Pos)).1 o.Name else (zA,false)
theorem j0j (g:Gm_){r:Rule}(hl:ROk r)(o:Oc):q8s g r o=some (z1O g r o):=by
 unfold q8s z1O
 rw[z8o,bsS]
 by_cases h0:0≤o.Pos∧o.Pos≤(r.Right.length:Int)
 ·rw[ifP (by simpa using h0),ifP h0,z8I hl,bsS,z4E,bsS]
  dsimp only
  rw[z9E];rfl
 ·rw[ifN (by simpa using h0),ifN h0];rfl
def mayB (g:Gm_)(r:Rule)(o:Oc):Bool:=(z1O g r o).2&&decide ((z1O g r o).1.Mode=if o.Pos=0 then 1 else 2)
theorem k6Q (g:Gm_){r:Rule}(hl:ROk r)(o:Oc):z7t g r o=some (mayB g r o):=by
 unfold z7t mayB
 rw[j0j g hl,bsS]
 dsimp only
 by_cases h0:o.Pos=0
 ·rw[ifP h0,ifP h0]
  by_cases h1:(z1O g r o).2=true
  ·rw[ifP h1,h1];rfl
  ·rw[ifN h1,Bool.eq_false_iff.2 h1];rfl
 ·rw[ifN h0,ifN h0]
  by_cases h1:(z1O g r o).2=true
  ·rw[ifP h1,h1];rfl
  ·rw[ifN h1,Bool.eq_false_iff.2 h1];rfl
theorem k6R {g:Gm_}(h:GOk g){r:Rule}(hl:ROk r)(o:Oc):z7i g r o=some (mayB g r o):=by
 unfold z7i mayB z1O
 rw[z3k,bsS]
 by_cases hp:0≤o.Pos∧o.Pos≤(r.Right.length:Int)
 ·rw[ifP (by simpa using hp),ifP hp,z3v hl,bsS,z3m h,bsS]
  dsimp only
  rw[j2Y,bsS]
  skip
  by_cases h0:o.Pos=0
  ·rw[ifP h0,ifP h0]
   by_cases h1:(z3l (q6Z g (q5Y r o.Pos)).1 o.Name).2=true
   ·rw[ifP h1,h1];rfl
   ·rw[ifN h1,Bool.eq_false_iff.2 h1];rfl
  ·rw[ifN h0,ifN h0]
   by_cases h1:(z3l (q6Z g (q5Y r o.Pos)).1 o.Name).2=true
   ·rw[ifP h1,h1];rfl
   ·rw[ifN h1,Bool.eq_false_iff.2 h1];rfl
 ·rw[ifN (by simpa using hp),ifN hp];rfl
def reqK (g:Gm_)(r:Rule)(k:Nat):List Oc:=((q6Z g (q5Y r (k:Int))).1.Attributes.filter fun a=>decide (a.Mode=if (k:Int)=0 then 2 else 1)).map fun a=>(⟨(k:Int),a.Name⟩:Oc)
def reqL (g:Gm_)(r:Rule):List Oc:=(List.range' 0 (r.Right.length+1)).flatMap (reqK g r)
theorem j5J {g:Gm_}(h:GOk g)(r:Rule)(k:Nat):(reqK g r k).length≤1048576:=by
 unfold reqK;rw[lnM]
 exact Nat.le_trans (List.length_filter_le _ _) (z4F h _)
theorem j2Z {g:Gm_}(h:GOk g){r:Rule}(hl:ROk r):q9S g r=some (reqL g r):=by
 have hl' : r.Right.length≤1048576:=hl
 have key:=j0i (h:=reqK g r) (C:=1048576) (n:=r.Right.length+1) (f:=z7s g r) (fun k s hk hs=>by
  have hin:∀ m:Int,eachL (z7r k m) 0 (q6Z g (q5Y r (k:Int))).1.Attributes s=some (s++((q6Z g (q5Y r (k:Int))).1.Attributes.filter fun a=>decide (a.Mode=m)).map fun a=>(⟨(k:Int),a.Name⟩:Oc)):=fun m=>
   z5Q (B:=4398046511104) (fun j x s hs=>by
    unfold z7r
    by_cases hm:x.Mode=m
    ·rw[ifP hm,ifP (by simpa using hm),q3E (by constructor<;>omega)];rfl
    ·rw[ifN hm,ifN (by simpa using hm)];rfl) _ 0 s (by have:=z4F h (q5Y r (k:Int));omega)
  unfold z7s reqK
  by_cases h0:(k:Int)=0
  ·rw[ifP h0,ifP h0,bsS,z8I hl,bsS,z4E,bsS]
   dsimp only
   rw[hin];rfl
  ·rw[ifN h0,ifN h0,bsS,z8I hl,bsS,z4E,bsS]
   dsimp only
   rw[hin];rfl) (fun k _=>j5J h r k) (r.Right.length+1) 0 [] (by omega) (by simp)
 unfold q9S
 rw[q3E (by constructor<;>omega),key];rfl
theorem j0k {g:Gm_}(h:GOk g){r:Rule}(hl:ROk r):q3G g r=some (reqL g r):=by
 have hl' : r.Right.length≤1048576:=hl
 have key:=j2X (h:=reqK g r) (C:=1048576) (n:=r.Right.length+1) (f:=q6p g r) (fun k s hk hs=>by
  have hin2:eachL (q8W (k:Int)) 0 (q6Z g (q5Y r (k:Int))).1.Attributes s=some (s++((q6Z g (q5Y r (k:Int))).1.Attributes.filter fun a=>decide (a.Mode=2)).map fun a=>(⟨(k:Int),a.Name⟩:Oc)):=
   z5Q (B:=4398046511104) (fun j x s hs=>by
    unfold q8W
    by_cases hm:x.Mode=2
    ·rw[ifP hm,ifP (by simpa using hm),q3E (by constructor<;>omega)];rfl
    ·rw[ifN hm,ifN (by simpa using hm)];rfl) _ 0 s (by have:=z4F h (q5Y r (k:Int));omega)
  have hin1:eachL (q8X (k:Int)) 0 (q6Z g (q5Y r (k:Int))).1.Attributes s=some (s++((q6Z g (q5Y r (k:Int))).1.Attributes.filter fun a=>decide (a.Mode=1)).map fun a=>(⟨(k:Int),a.Name⟩:Oc)):=
   z5Q (B:=4398046511104) (fun j x s hs=>by
    unfold q8X
    by_cases hm:x.Mode=1
    ·rw[ifP hm,ifP (by simpa using hm),q3E (by constructor<;>omega)];rfl
    ·rw[ifN hm,ifN (by simpa using hm)];rfl) _ 0 s (by have:=z4F h (q5Y r (k:Int));omega)
  unfold q6p reqK
  dsimp only
  rw[ifP (by omega),z3v hl,bsS,z3m h,bsS]
  skip
  by_cases h0:(k:Int)=0
  ·rw[ifP h0,ifP h0,hin2,bsS,bsS,q3E (by constructor<;>omega)];rfl
  ·rw[ifN h0,ifN h0,hin1,bsS,bsS,q3E (by constructor<;>omega)];rfl) (fun s=>by
  unfold q6p;dsimp only;rw[ifN (by omega)]) (fun k _=>j5J h r k) (r.Right.length+1) 0 [] (by omega) (by simp)
 unfold q3G
 have e:q4o (q6p g r) (([]:List Oc),0)=some ([]++(List.range' 0 (r.Right.length+1)).flatMap (reqK g r)):=key
 rw[e];rfl
theorem q5a {α:Type}{q:α→Bool}{xs:List α}{f:Nat→α→Unit→Option (Unit ⊕ Int)}(h:∀ k x,x∈xs→f k x ()=some (if q x=true then .inr (k:Int) else .inl ())) :
  ((findL f 0 xs ()).bind <| onr (fun r1=>some r1) fun _=>some (-1)).bind (fun y1=>some (decide (0≤y1)))=some (xs.any q):=by
 rw[j2L h]
 cases hq:xs.any q with
 | true=>
  have:(0:Int)≤((0+xs.findIdx q:Nat):Int):=Int.natCast_nonneg _
  rw[ifP rfl,bsS,j1J,bsS,decide_eq_true this]
 | false=>rfl
def q4X {α:Type}(bad:List α→α→Bool):List α→List α→Option Nat
 | _,[]=>none
 | pre,x::xs=>if bad pre x=true then some pre.length else q4X bad (pre++[x]) xs
theorem z5R {α β ρ:Type}{bad:List α→α→Bool}{nm:α→β}{c:Nat→ρ}{all:List α}{f:Nat→α→Unit→Option (Unit ⊕ ρ)}{h:Nat→α→List β→Option (List β ⊕ ρ)}
  (hf:∀ pre x post,all=pre++x::post→f pre.length x ()=some (if bad pre x=true then .inr (c pre.length) else .inl ()))
  (hh:∀ pre x post,all=pre++x::post→h pre.length x (pre.map nm)=some (if bad pre x=true then .inr (c pre.length) else .inl ((pre++[x]).map nm))) :
  ∀ (ys pre:List α),all=pre++ys→findL f pre.length ys ()=some (match q4X bad pre ys with|none=>.inl ()|some k=>.inr (c k)) ∧
   findL h pre.length ys (pre.map nm)=some (match q4X bad pre ys with|none=>.inl (all.map nm)|some k=>.inr (c k))
 | [],pre,e=>by
  rw[List.append_nil] at e
  subst e;exact⟨rfl,rfl⟩
 | x::ys,pre,e=>by
  have h1:=hf pre x ys e
  have h2:=hh pre x ys e
  by_cases hb:bad pre x=true
  ·rw[ifP hb] at h1 h2
   simp only[findL,h1,h2,q4X,hb,if_true,bsS]
   exact⟨trivial,trivial⟩
  ·rw[ifN hb] at h1 h2
   have ih:=z5R hf hh ys (pre++[x]) (by rw[e];simp)
   simp only[List.length_append,lnC,List.length_nil,Nat.zero_add] at ih
   simp only[findL,h1,h2,q4X,hb,bsS]
   exact ih
theorem j9J {α:Type}{a:α→Bool}{b:List α→α→Bool}:∀ (xs pre:List α),(q4X (fun p x=>a x||b p x) pre xs).isNone=(xs.all (fun x=>!a x)&&(q4X b pre xs).isNone)
 | [],pre=>rfl
 | x::xs,pre=>by
  have ih:=j9J (a:=a) (b:=b) xs (pre++[x])
  simp only[q4X,List.all_cons]
  by_cases ha:a x=true
  ·simp[ha]
  ·by_cases hb:b pre x=true
   ·simp[ha,hb]
   ·simpa[ha,hb] using ih
def dupB {α:Type}(nm:α→ByteArray)(pre:List α)(x:α):Bool:=pre.any fun o=>decide (nm o=nm x)
def j8A {α:Type}(nm:α→ByteArray)(xs:List α):Bool:=(q4X (dupB nm) [] xs).isNone
theorem j7h {α:Type}{nm:α→ByteArray}:∀ (xs pre:List α),(q4X (dupB id) (pre.map nm) (xs.map nm))=q4X (dupB nm) pre xs
 | [],pre=>rfl
 | x::xs,pre=>by
  have ih:=j7h (nm:=nm) xs (pre++[x])
  have e:dupB id (pre.map nm) (nm x)=dupB nm pre x:=by simp[dupB,List.any_map,Function.comp_def]
  rw[List.map_cons,q4X,q4X,e,lnM]
  rw[List.map_append] at ih
  rw[show [nm x]=[x].map nm from rfl,ih]
theorem z7H {α ρ:Type}{bad:List α→α→Bool}{c:Nat→ρ}{all:List α}{f:Nat→α→Unit→Option (Unit ⊕ ρ)}
  (hf:∀ pre x post,all=pre++x::post→f pre.length x ()=some (if bad pre x=true then .inr (c pre.length) else .inl ())) :
  ∀ (ys pre:List α),all=pre++ys→findL f pre.length ys ()=some (match q4X bad pre ys with|none=>.inl ()|some k=>.inr (c k)):=fun ys pre e=>
 (z5R (nm:=fun _=>()) (h:=fun k x s=>(f k x ()).map fun|.inl _=>.inl (s++[()])|.inr r=>.inr r) hf (fun pre x post e=>by
  rw[hf pre x post e]
  by_cases hb:bad pre x=true
  ·rw[ifP hb,ifP hb];rfl
  ·rw[ifN hb,ifN hb];simp) ys pre e).1
theorem k2H (l:List ByteArray)(s:ByteArray):z2B l s=some (l.any fun o=>decide (o=s)):=by
 unfold z2B
 rw[q4K (c:=true) (q:=fun o=>!decide (o=s)) fun k x hx=>by
  unfold z8W
  by_cases h:x=s
  ·rw[ifP h,ifN (by simp[h])]
  ·rw[ifN h,ifP (by simp[h])]]
 have e:(l.all fun o=>!decide (o=s))=!(l.any fun o=>decide (o=s)):=by rw[List.not_any_eq_all_not]
 rw[e]
 cases l.any fun o=>decide (o=s)<;>rfl
theorem k1h (l:List ByteArray):z0w l=some (j8A id l):=by
 unfold z0w j8A
 rw[show findL (z1m l) 0 l ()=_ from z7H (bad:=dupB id) (c:=fun _=>false) (all:=l) (f:=z1m l) (fun pre x post e=>by
  unfold z1m
  rw[q3E (by rw[e];simp),show l.take pre.length=pre by rw[e];simp,k2H,bsS,← apply_ite some];rfl) l [] rfl]
 cases q4X (dupB id) [] l<;>rfl
def z4L (a:At_):Bool:=q9h a.Name&&(decide (1≤a.Type_∧a.Type_≤4)&&(decide (1≤a.Mode∧a.Mode≤3)&&if a.Mode=3 then decide (a.Type_=2) && !a.Circular else !a.Circular||decide (a.Type_=2)))
theorem k2I (a:At_):q7U a=some (z4L a):=by
 unfold q7U z4L z5y
 rw[z3I,bsS]
 cases q9h a.Name with
 | false=>rfl
 | true=>
  rw[ifP rfl,z8o,bsS,bsS,bsS]
  by_cases h1:1≤a.Type_∧a.Type_≤4
  ·rw[decide_eq_true h1,Bool.not_true,ifN (by simp),z8o,bsS,bsS]
   by_cases h2:1≤a.Mode∧a.Mode≤3
   ·rw[decide_eq_true h2,Bool.not_true,ifN (by simp)]
    by_cases h3:a.Mode=3
    ·rw[ifP h3,ifP h3]
     by_cases h4:a.Type_=2
     ·rw[ifP h4,decide_eq_true h4];simp
     ·rw[ifN h4,decide_eq_false h4];rfl
    ·rw[ifN h3,ifN h3]
     cases hc:a.Circular with
     | true=>rw[ifP rfl];simp
     | false=>rw[ifN (by simp)];simp
   ·rw[decide_eq_false h2];rfl
  ·rw[decide_eq_false h1];rfl
theorem k2J (a:At_):q7P a=some (z4L a):=by
 unfold q7P z4L
 rw[z1N,bsS]
 cases q9h a.Name with
 | false=>rfl
 | true=>
  rw[ifP rfl,z3k,bsS,bsS]
  by_cases h1:1≤a.Type_∧a.Type_≤4
  ·rw[decide_eq_true h1,Bool.not_true,ifN (by simp),z3k,bsS,bsS]
   by_cases h2:1≤a.Mode∧a.Mode≤3
   ·rw[decide_eq_true h2,Bool.not_true,ifN (by simp)]
    by_cases h3:a.Mode=3
    ·rw[ifP h3,ifP h3]
     by_cases h4:a.Type_=2
     ·rw[ifP h4,decide_eq_true h4]
      cases hc:a.Circular with
      | true=>rfl
      | false=>rfl
     ·rw[ifN h4,decide_eq_false h4];rfl
    ·rw[ifN h3,ifN h3]
     cases hc:a.Circular with
     | true=>simp
     | false=>simp
   ·rw[decide_eq_false h2];rfl
  ·rw[decide_eq_false h1];rfl
def symB (s:Symbol):Bool:=s.Attributes.all z4L&&(q9h s.Name&&(decide (s.Attributes.length≤4)&&j8A (fun a:At_=>a.Name) s.Attributes))
theorem k4H (s:Symbol):q9p s=some (symB s):=by
 unfold q9p symB
 rw[show findL (z0b s) 0 s.Attributes ()=_ from z7H (bad:=fun p x=>!z4L x||dupB (fun a:At_=>a.Name) p x) (c:=fun _=>false) (all:=s.Attributes) (f:=z0b s) (fun pre x post e=>by
  unfold z0b
  rw[k2I,bsS]
  cases z4L x with
  | false=>rfl
  | true=>
   rw[ifP rfl,q3E (by rw[e];simp),show s.Attributes.take pre.length=pre by rw[e];simp]
   unfold q4d q4p
   rw[q5a (q:=fun o:At_=>decide (o.Name=x.Name)) fun k y hy=>by
    unfold q6d q9H
    rw[bsS]
    by_cases h:y.Name=x.Name
    ·rw[decide_eq_true h];rfl
    ·rw[decide_eq_false h];rfl]
   rw[bsS,← apply_ite some];rfl) s.Attributes [] rfl]
 have hor:=j9J (a:=fun x:At_=>!z4L x) (b:=dupB (fun a:At_=>a.Name)) s.Attributes []
 simp only[Bool.not_not] at hor
 have e2:(s.Attributes.all fun x=>z4L x)=s.Attributes.all z4L:=rfl
 unfold j8A
 rw[e2] at hor
 cases hb:q4X (fun p x=>!z4L x||dupB (fun a:At_=>a.Name) p x) [] s.Attributes with
 | some k=>
  rw[hb] at hor
  show some false=_
  have:(s.Attributes.all z4L&&(q4X (dupB fun a:At_=>a.Name) [] s.Attributes).isNone)=false:=hor.symm
  congr 1
  cases h1:s.Attributes.all z4L with
  | false=>rfl
  | true=>rw[h1] at this;simp at this;simp[this]
 | none=>
  rw[hb] at hor
  have:(s.Attributes.all z4L&&(q4X (dupB fun a:At_=>a.Name) [] s.Attributes).isNone)=true:=hor.symm
  rw[Bool.and_eq_true] at this
  show ((q4L s.Name).bind _)=_
  rw[z3I,bsS,this.1,this.2]
  cases q9h s.Name with
  | false=>rfl
  | true=>
   rw[ifP rfl,bsS]
   congr 1
   simp;omega
theorem k4I {s:Symbol}(h:s.Attributes.length≤1048576):q9l s=some (symB s):=by
 unfold q9l symB
 have hloop:∀ (ys:List At_) (i:Nat) (t:List ByteArray),t.length+ys.length≤1048576→findL q9Y i ys t=some (if ys.all z4L=true then .inl (t++ys.map fun a=>a.Name) else .inr false):=by
  intro ys
  induction ys with
  | nil=>intro i t _;simp[findL]
  | cons y ys ih=>
   intro i t ht
   simp only[lnC] at ht
   simp only[findL]
   have e:q9Y i y t=some (if z4L y=true then .inl (t++[y.Name]) else .inr false):=by
    unfold q9Y
    rw[k2J,bsS]
    cases z4L y with
    | false=>rfl
    | true=>rw[ifP rfl,ifP rfl,q3E (by constructor<;>omega)]
   rw[e,bsS]
   by_cases hy:z4L y=true
   ·rw[ifP hy,show (y::ys).all z4L=ys.all z4L by simp[hy]]
    dsimp only
    rw[ih _ _ (by simp;omega)]
    simp
   ·rw[ifN hy,show (y::ys).all z4L=false by simp[hy]];rfl
 rw[hloop _ _ _ (by simpa using h)]
 cases hA:s.Attributes.all z4L with
 | false=>rfl
 | true=>
  rw[ifP rfl,bsS,z3W,List.nil_append,z1N,bsS]
  cases q9h s.Name with
  | false=>rfl
  | true=>
   rw[ifP rfl,bsS,lnM]
   by_cases hl:s.Attributes.length≤4
   ·rw[decide_eq_true (by omega:(s.Attributes.length:Int)≤4),ifP rfl,k1h,bsS,bsS,decide_eq_true hl]
    have:=j7h (nm:=fun a:At_=>a.Name) s.Attributes []
    unfold j8A
    rw[List.map_nil] at this
    rw[this];rfl
   ·rw[decide_eq_false (by omega:¬ (s.Attributes.length:Int)≤4),ifN (by simp),decide_eq_false hl];rfl
theorem z9F {r:Rule}{q:Cn}(h:q∈r.Contributions):Sz.szd q.Target≤Sz.szd r∧Sz.szd q.Value≤Sz.szd r:=by
 have h1:=z9x r
 have h2:=z6J q
 have h3:=z9A h
 have h4:=z0k q.Target
 have h5:=z0k q.Value
 omega
theorem z0s {g:Gm_}{r:Rule}(h:r∈g.Rules):Sz.szd r≤Sz.szd g:=by
 have h1:=z6t g
 have h3:=z9A h
 omega
theorem k5O {r:Rule}(h:Sz.szd r≤1048576):r.Equations.length≤1048576∧r.Contributions.length≤1048576:=by
 have h1:=z9x r
 have h2:=q9X r.Equations
 have h3:=q9X r.Contributions
 omega
def z0t (n:Int)(e:Expr):Bool:=allE (fun x=>decide (x.Pos≤n)) e
theorem j8B (n:Int)(e:Expr):∀ m,fuE e≤m→z4f m e n=some (z0t n e):=by
 induction e using z1M with
 | h e ih=>
  intro m hm
  obtain⟨m,rfl⟩:∃ q,m=q+1:=⟨m-1,by have:=z6K e;omega⟩
  show z4e (z4f m) e n=_
  unfold z4e
  rw[q4K (c:=false) (q:=z0t n) fun k x hx=>by
   unfold j0z
   rw[ih x hx m (by have:=z6L hx;omega),bsS]
   cases z0t n x<;>rfl]
  have e1:z0t n e=(decide (e.Pos≤n)&&e.Args.all (z0t n)):=by unfold z0t;rw[j0b]
  rw[e1,bsS]
  cases e.Args.all (z0t n) with
  | true=>rw[ifP rfl,z3W,Bool.and_true]
  | false=>rw[ifN (by simp),j1J,Bool.and_false]
theorem k1i (n:Int)(e:Expr):z8u e n=some (z0t n e):=z0L (fuE e) fun m hm=>j8B n e m hm
theorem j8C (n:Int)(e:Expr):∀ m,fuE e≤m→q7p m e n=some (z0t n e):=by
 induction e using z1M with
 | h e ih=>
  intro m hm
  obtain⟨m,rfl⟩:∃ q,m=q+1:=⟨m-1,by have:=z6K e;omega⟩
  show q7o (q7p m) e n=_
  unfold q7o q4l q4s z9h
  have e1:z0t n e=(decide (e.Pos≤n)&&e.Args.all (z0t n)):=by unfold z0t;rw[j0b]
  rw[bsS,e1]
  cases decide (e.Pos≤n) with
  | false=>rfl
  | true=>
   rw[ifP rfl,q5a (q:=fun x=>!z0t n x) fun k x hx=>by
    unfold q6k q8c
    rw[ih x hx m (by have:=z6L hx;omega),bsS,bsS]
    cases z0t n x<;>rfl]
   rw[Bool.true_and,← j2N];rfl
theorem k1j (n:Int)(e:Expr):z0n e n=some (z0t n e):=z0L (fuE e) fun m hm=>j8C n e m hm
def z5m (e:Expr)(n:Int):Bool:=j2O e&&z0t n e
theorem j5K {e:Expr}(h:Sz.szd e≤1048576)(n:Int):z8v e n=some (z5m e n):=by
 unfold z8v z5m
 have:=k5I h
 rw[k2v (by omega),bsS]
 cases j2O e with
 | false=>rfl
 | true=>rw[ifP rfl,k1j];rfl
theorem j5L {e:Expr}(h:Sz.szd e≤1048576)(n:Int):z4g e n=some (z5m e n):=by
 unfold z4g z5m
 have:=k5I h
 rw[j7c (by omega),bsS]
 cases j2O e with
 | false=>rfl
 | true=>rw[ifP rfl,k1i];rfl
def eqnB (n:Int)(q:Eqn):Bool:=z5m q.Expr n&&(q9h q.At.Name&&decide (0≤q.At.Pos∧q.At.Pos≤n))
def conB (n:Int)(q:Cn):Bool:=(z5m q.Target n&&z5m q.Value n)&&(q9h q.Symbol&&q9h q.Name)
def ruleB (r:Rule):Bool:=(q9h r.Name&&q9h r.Left)&&((decide (r.Right.length≤3)&&decide (r.Contributions.length≤2))&&(r.Right.all q9h&&(r.Equations.all (eqnB (r.Right.length:Int))&&r.Contributions.all (conB (r.Right.length:Int)))))
theorem j7i {α β γ:Type}{p:α→Bool}{q:β→Bool}{t:γ→Bool}(xs:List α)(ys:List β)(zs:List γ) :
  ((some (if xs.all p=true then (.inl ():Unit ⊕ Bool) else .inr false)).bind <| onr (fun r1=>some r1) fun _=>
   (some (if ys.all q=true then (.inl ():Unit ⊕ Bool) else .inr false)).bind <| onr (fun r1=>some r1) fun _=>
   (some (if zs.all t=true then (.inl ():Unit ⊕ Bool) else .inr false)).bind <| onr (fun r1=>some r1) fun _=>some true)=some (xs.all p&&(ys.all q&&zs.all t)):=by
 cases xs.all p<;>cases ys.all q<;>cases zs.all t<;>rfl
theorem k2K {r:Rule}(h:Sz.szd r≤1048576):z0B r=some (ruleB r):=by
 unfold z0B ruleB
 rw[z3I,bsS]
 cases q9h r.Name with
 | false=>rfl
 | true=>
  rw[ifP rfl,z3I,bsS,bsS]
  cases q9h r.Left with
  | false=>rfl
  | true=>
   rw[Bool.not_true,ifN (by simp),bsS]
   by_cases h3:r.Right.length≤3
   ·rw[decide_eq_true h3,decide_eq_false (by omega),ifN (by simp),bsS]
    by_cases h2:r.Contributions.length≤2
    ·rw[decide_eq_true h2,decide_eq_false (by omega),ifN (by simp)]
     rw[q4K (c:=false) (q:=q9h) fun k x hx=>by
      unfold z7o;rw[z3I,bsS];cases q9h x<;>rfl]
     rw[q4K (c:=false) (q:=eqnB (r.Right.length:Int)) fun k x hx=>by
      unfold z7p eqnB
      rw[j5K (Nat.le_trans (z8H hx) h),bsS]
      cases z5m x.Expr (r.Right.length:Int) with
      | false=>rfl
      | true=>
       rw[ifP rfl,z3I,bsS,bsS]
       cases q9h x.At.Name with
       | false=>rfl
       | true=>
        rw[Bool.not_true,ifN (by simp),z8o,bsS,bsS]
        cases decide (0≤x.At.Pos∧x.At.Pos≤(r.Right.length:Int))<;>rfl]
     rw[q4K (c:=false) (q:=conB (r.Right.length:Int)) fun k x hx=>by
      have hs:=z9F hx
      unfold z7q conB
      rw[j5K (Nat.le_trans hs.1 h),bsS]
      cases z5m x.Target (r.Right.length:Int) with
      | false=>rfl
      | true=>
       rw[ifP rfl,j5K (Nat.le_trans hs.2 h),bsS,bsS]
       cases z5m x.Value (r.Right.length:Int) with
       | false=>rfl
       | true=>
        rw[Bool.not_true,ifN (by simp),z3I,bsS,bsS]
        cases q9h x.Symbol with
        | false=>rfl
        | true=>
         rw[Bool.not_true,ifN (by simp),z3I,bsS,bsS]
         cases q9h x.Name<;>rfl]
     exact j7i _ _ _
    ·rw[decide_eq_false h2,decide_eq_true (by omega)];rfl
   ·rw[decide_eq_false h3,decide_eq_true (by omega)];rfl
theorem k2L {r:Rule}(h:Sz.szd r≤1048576):z0x r=some (ruleB r):=by
 unfold z0x ruleB
 rw[z1N,bsS]
 cases q9h r.Name with
 | false=>rfl
 | true=>
  rw[ifP rfl,z1N,bsS,bsS]
  cases q9h r.Left with
  | false=>rfl
  | true=>
   rw[Bool.not_true,ifN (by simp),bsS]
   by_cases h3:r.Right.length≤3
   ·rw[decide_eq_true h3,decide_eq_false (by omega),ifN (by simp),bsS]
    by_cases h2:r.Contributions.length≤2
    ·rw[decide_eq_true h2,decide_eq_false (by omega),ifN (by simp)]
     rw[q4K (c:=false) (q:=q9h) fun k x hx=>by
      unfold z7e;rw[z1N,bsS];cases q9h x<;>rfl]
     rw[q4K (c:=false) (q:=eqnB (r.Right.length:Int)) fun k x hx=>by
      unfold z7f eqnB
      rw[z1N,bsS]
      cases q9h x.At.Name with
      | false=>rw[Bool.false_and,Bool.and_false];rfl
      | true=>
       rw[ifP rfl,z3k,bsS,bsS]
       cases decide (0≤x.At.Pos∧x.At.Pos≤(r.Right.length:Int)) with
       | false=>rw[Bool.and_false,Bool.and_false];rfl
       | true=>
        rw[Bool.not_true,ifN (by simp),j5L (Nat.le_trans (z8H hx) h),bsS,bsS]
        cases z5m x.Expr (r.Right.length:Int)<;>rfl]
     rw[q4K (c:=false) (q:=conB (r.Right.length:Int)) fun k x hx=>by
      have hs:=z9F hx
      unfold z7g conB
      rw[z1N,bsS]
      cases q9h x.Symbol with
      | false=>rw[Bool.false_and,Bool.and_false];rfl
      | true=>
       rw[ifP rfl,z1N,bsS,bsS]
       cases q9h x.Name with
       | false=>rw[Bool.and_false,Bool.and_false];rfl
       | true=>
        rw[Bool.not_true,ifN (by simp),j5L (Nat.le_trans hs.1 h),bsS,bsS]
        cases z5m x.Target (r.Right.length:Int) with
        | false=>rfl
        | true=>
         rw[Bool.not_true,ifN (by simp),j5L (Nat.le_trans hs.2 h),bsS,bsS]
         cases z5m x.Value (r.Right.length:Int)<;>rfl]
     exact j7i _ _ _
    ·rw[decide_eq_false h2,decide_eq_true (by omega)];rfl
   ·rw[decide_eq_false h3,decide_eq_true (by omega)];rfl
def z5S (p:List Symbol)(x:Symbol):Bool:=!symB x||dupB (fun y:Symbol=>y.Name) p x
def z3w (p:List Rule)(x:Rule):Bool:=!ruleB x||dupB (fun y:Rule=>y.Name) p x
def z8p (g:Gm_):Int:=match q4X z5S [] g.Symbols with
 | some k=>(k:Int)
 | none=>match q4X z3w [] g.Rules with
  | some k=>(k:Int)
  | none=>-1
theorem k2M {g:Gm_}(h:Sz.szd g≤1048576):z1z g=some (z8p g):=by
 unfold z1z z8p
 rw[show findL (z2F g) 0 g.Symbols ()=_ from z7H (bad:=z5S) (c:=fun k=>(k:Int)) (all:=g.Symbols) (f:=z2F g) (fun pre x post e=>by
  unfold z2F z5S
  rw[k4H,bsS]
  cases symB x with
  | false=>rfl
  | true=>
   rw[ifP rfl,q3E (by rw[e];simp),show g.Symbols.take pre.length=pre by rw[e];simp]
   unfold q4B q4T
   rw[q5a (q:=fun o:Symbol=>decide (o.Name=x.Name)) fun k y hy=>by
    unfold q6P z1w
    rw[bsS]
    by_cases h:y.Name=x.Name
    ·rw[decide_eq_true h];rfl
    ·rw[decide_eq_false h];rfl]
   rw[bsS,← apply_ite some];rfl) g.Symbols [] rfl]
 rw[show findL (z2G g) 0 g.Rules ()=_ from z7H (bad:=z3w) (c:=fun k=>(k:Int)) (all:=g.Rules) (f:=z2G g) (fun pre x post e=>by
  unfold z2G z3w
  rw[k2K (Nat.le_trans (z0s (by rw[e];simp)) h),bsS]
  cases ruleB x with
  | false=>rfl
  | true=>
   rw[ifP rfl,q3E (by rw[e];simp),show g.Rules.take pre.length=pre by rw[e];simp]
   unfold q4M q5c
   rw[q5a (q:=fun o:Rule=>decide (o.Name=x.Name)) fun k y hy=>by
    unfold q7b z1y
    rw[bsS]
    by_cases h:y.Name=x.Name
    ·rw[decide_eq_true h];rfl
    ·rw[decide_eq_false h];rfl]
   rw[bsS,← apply_ite some];rfl) g.Rules [] rfl]
 cases q4X z5S [] g.Symbols with
 | some k=>rfl
 | none=>cases q4X z3w [] g.Rules<;>rfl
theorem j8D {g:Gm_}(h:Sz.szd g≤1048576):g.Symbols.length≤1048576∧g.Rules.length≤1048576:=by
 have h1:=z6t g
 have h2:=q9X g.Symbols
 have h3:=q9X g.Rules
 omega
theorem k2N {g:Gm_}(h:Sz.szd g≤1048576):z7h g=some (z8p g):=by
 have hl:=j8D h
 unfold z7h z8p
 have h1:=(z5R (bad:=z5S) (nm:=fun y:Symbol=>y.Name) (c:=fun k=>(k:Int)) (all:=g.Symbols) (f:=fun k x _=>some (if z5S (g.Symbols.take k) x=true then .inr (k:Int) else .inl ())) (h:=z7U) (fun pre x post e=>by
   rw[show g.Symbols.take pre.length=pre by rw[e];simp]) (fun pre x post e=>by
  unfold z7U z5S
  rw[k4I (q7z h x (by rw[e];simp)),bsS]
  cases symB x with
  | false=>rfl
  | true=>
   have hp:pre.length≤1048576:=by
     have:g.Symbols.length=pre.length+(post.length+1):=by rw[e];simp
     omega
   rw[ifP rfl,k2H,bsS,List.any_map,q3E (by rw[lnM];constructor<;>omega),List.map_append,← apply_ite some];rfl) g.Symbols [] rfl).2
 have h2:=(z5R (bad:=z3w) (nm:=fun y:Rule=>y.Name) (c:=fun k=>(k:Int)) (all:=g.Rules) (f:=fun k x _=>some (if z3w (g.Rules.take k) x=true then .inr (k:Int) else .inl ())) (h:=z7V) (fun pre x post e=>by
   rw[show g.Rules.take pre.length=pre by rw[e];simp]) (fun pre x post e=>by
  unfold z7V z3w
  rw[k2L (Nat.le_trans (z0s (by rw[e];simp)) h),bsS]
  cases ruleB x with
  | false=>rfl
  | true=>
   have hp:pre.length≤1048576:=by
     have:g.Rules.length=pre.length+(post.length+1):=by rw[e];simp
     omega
   rw[ifP rfl,k2H,bsS,List.any_map,q3E (by rw[lnM];constructor<;>omega),List.map_append,← apply_ite some];rfl) g.Rules [] rfl).2
 rw[show findL z7U 0 g.Symbols []=_ from h1,show findL z7V 0 g.Rules []=_ from h2]
 cases q4X z5S [] g.Symbols with
 | some k=>rfl
 | none=>cases q4X z3w [] g.Rules<;>rfl
theorem j3a {ρ:Type}{c:ρ}{q:Nat→Bool}{n:Nat}{f:Nat→Unit→Option (Unit ⊕ ρ)}(h:∀ k,k<n→f k ()=some (if q k=true then .inl () else .inr c)):∀ (m k:Nat),k+m=n→findN f k m ()=some (if (List.range' k m).all q=true then .inl () else .inr c)
 | 0,k,_=>rfl
 | m+1,k,hk=>by
  have ih:=j3a h m (k+1) (by omega)
  rw[findN,h k (by omega),bsS]
  by_cases hq:q k=true
  ·rw[ifP hq,show (List.range' k (m+1)).all q=(List.range' (k+1) m).all q by simp[List.range'_succ,hq]]
   exact ih
  ·rw[ifN hq,show (List.range' k (m+1)).all q=false by simp[List.range'_succ,hq]];rfl
theorem j9K {ρ:Type}{c:ρ}{q:Nat→Bool}{n:Nat}{f:Int→Option (Int ⊕ (Unit ⊕ ρ))}(h:∀ k:Nat,k<n→f (k:Int)=some (if q k=true then .inl ((k+1:Nat):Int) else .inr (.inr c)))(he:f (n:Int)=some (.inr (.inl ()))):∀ (m k:Nat),k+m=n→q4o f (k:Int)=some (if (List.range' k m).all q=true then .inl () else .inr c)
 | 0,k,hk=>by
  obtain rfl:k=n:=by omega
  exact q3F he
 | m+1,k,hk=>by
  have ih:=j9K h he m (k+1) (by omega)
  have h1:=h k (by omega)
  by_cases hq:q k=true
  ·rw[ifP hq] at h1
   rw[q3L h1,show (List.range' k (m+1)).all q=(List.range' (k+1) m).all q by simp[List.range'_succ,hq]]
   exact ih
  ·rw[ifN hq] at h1
   rw[q3F h1,show (List.range' k (m+1)).all q=false by simp[List.range'_succ,hq]];rfl
def j3b (g:Gm_)(r:Rule):Bool:=(List.range' 0 (r.Right.length+1)).all fun k=>(q6Z g (q5Y r (k:Int))).2
theorem j8E (g:Gm_){r:Rule}(hl:ROk r):z5z g r=some (!j3b g r):=by
 have hl' : r.Right.length≤1048576:=hl
 unfold z5z
 rw[q3E (by constructor<;>omega),j3a (c:=true) (n:=r.Right.length+1) (q:=fun k=>(q6Z g (q5Y r (k:Int))).2) (fun k hk=>by
  unfold j2m
  rw[z8I hl,bsS,z4E,bsS]
  dsimp only
  rw[← apply_ite some]) (r.Right.length+1) 0 (by omega)]
 unfold j3b
 cases (List.range' 0 (r.Right.length+1)).all fun k=>(q6Z g (q5Y r (k:Int))).2<;>rfl
theorem j8F {g:Gm_}(h:GOk g){r:Rule}(hl:ROk r):z1n g r=some (j3b g r):=by
 have hl' : r.Right.length≤1048576:=hl
 unfold z1n
 have e:=j9K (c:=false) (q:=fun k=>(q6Z g (q5Y r (k:Int))).2) (n:=r.Right.length+1) (f:=z0y g r) (fun k hk=>by
  unfold z0y
  rw[ifP (by omega),z3v hl,bsS,z3m h,bsS]
  dsimp only
  rw[q3E (by constructor<;>omega),← apply_ite some];rfl) (by
  unfold z0y;rw[ifN (by omega)]) (r.Right.length+1) 0 (by omega)
 rw[show q4o (z0y g r) 0=_ from e]
 unfold j3b
 cases (List.range' 0 (r.Right.length+1)).all fun k=>(q6Z g (q5Y r (k:Int))).2<;>rfl
theorem k6S (K:List Oc)(o:Oc):q3I K o=some (decide (o∈K)):=by
 unfold q3I q3R
 rw[q5a (q:=fun x=>decide (o=x)) fun k x hx=>by
  unfold q3K
  by_cases h:o=x
  ·rw[ifP h,ifP (by simpa using h)]
  ·rw[ifN h,ifN (by simpa using h)]]
 congr 1
 by_cases h:o∈K
 ·rw[decide_eq_true h,List.any_eq_true];exact⟨o,h,by simp⟩
 ·rw[decide_eq_false h,List.any_eq_false];intro x hx he;simp at he;exact h (he▸hx)
theorem k2O (K:List Oc)(o:Oc):q6q K o=some (decide (o∈K)):=by
 unfold q6q
 rw[q4K (c:=true) (q:=fun x=>!decide (x=o)) fun k x hx=>by
  unfold z4M
  by_cases h:x=o
  ·rw[ifP h,ifN (by simp[h])]
  ·rw[ifN h,ifP (by simp[h])]]
 by_cases h:o∈K
 ·rw[decide_eq_true h,ifN];· rfl
  rw[List.all_eq_true];intro hh;have:=hh o h;simp at this
 ·rw[decide_eq_false h,ifP];· rfl
  rw[List.all_eq_true];intro x hx;simp;exact fun e=>h (e▸hx)
def j7j (r:Rule)(o:Oc):Bool:=r.Equations.any fun q=>decide (q.At=o)
theorem k4J (r:Rule)(o:Oc):(eqAt r o).2=j7j r o:=by
 unfold eqAt j7j
 cases hf:r.Equations.find? (fun q=>decide (q.At=o)) with
 | none=>rw[List.find?_eq_none] at hf;symm;rw[List.any_eq_false];exact hf
 | some q=>symm;rw[List.any_eq_true];exact⟨q,List.mem_of_find?_eq_some hf,List.find?_some (p:=fun q:Eqn=>decide (q.At=o)) hf⟩
def k2P (g:Gm_)(r:Rule):Bool:=(reqL g r).any fun o=>!j7j r o
theorem k4K {g:Gm_}(h:GOk g){r:Rule}(hl:ROk r):z5A g r=some (k2P g r):=by
 unfold z5A k2P
 rw[j2Z h hl,bsS]
 unfold q4y q4O
 rw[q5a (q:=fun o=>!j7j r o) fun k o ho=>by
  unfold q6G z4Q q4x q4N
  rw[q5a (q:=fun q:Eqn=>decide (q.At=o)) fun k y hy=>by
   unfold q6F z2H
   rw[bsS]
   by_cases h:y.At=o
   ·rw[decide_eq_true h];rfl
   ·rw[decide_eq_false h];rfl]
  rw[bsS,bsS,← apply_ite some];rfl]
 rfl
theorem k4L {g:Gm_}(h:GOk g){r:Rule}(hr:Sz.szd r≤1048576):z1p g r=some (k2P g r):=by
 unfold z1p k2P
 rw[j0k h (q4E hr),bsS,q4K (c:=true) (q:=j7j r) fun k o ho=>by
  unfold z8l
  rw[j1z hr o,bsS]
  dsimp only
  rw[k4J,← apply_ite some]]
 have e:((reqL g r).all (j7j r))=!((reqL g r).any fun o=>!j7j r o):=by rw[j2N]
 rw[e]
 cases (reqL g r).any fun o=>!j7j r o<;>rfl
def j7k (g:Gm_)(r:Rule):Bool:=(q4X (fun p (x:Eqn)=>!decide (x.At∈reqL g r)||p.any fun o=>decide (o.At=x.At)) [] r.Equations).isSome
theorem k2Q {g:Gm_}(h:GOk g){r:Rule}(hl:ROk r):z9j g r=some (j7k g r):=by
 unfold z9j j7k
 rw[j2Z h hl,bsS]
 rw[show findL (z9i r (reqL g r)) 0 r.Equations ()=_ from z7H (bad:=fun p (x:Eqn)=>!decide (x.At∈reqL g r)||p.any fun o=>decide (o.At=x.At)) (c:=fun _=>true) (all:=r.Equations) (f:=z9i r (reqL g r)) (fun pre x post e=>by
  unfold z9i
  rw[k6S,bsS]
  cases decide (x.At∈reqL g r) with
  | false=>rfl
  | true=>
   rw[ifP rfl,q3E (by rw[e];simp),show r.Equations.take pre.length=pre by rw[e];simp]
   unfold q4U q5i
   rw[q5a (q:=fun o:Eqn=>decide (o.At=x.At)) fun k y hy=>by
    unfold q7q z7W
    rw[bsS]
    by_cases h:y.At=x.At
    ·rw[decide_eq_true h];rfl
    ·rw[decide_eq_false h];rfl]
   rw[bsS,← apply_ite some];rfl) r.Equations [] rfl]
 cases q4X (fun p (x:Eqn)=>!decide (x.At∈reqL g r)||p.any fun o=>decide (o.At=x.At)) [] r.Equations<;>rfl
theorem k2R {g:Gm_}(h:GOk g){r:Rule}(hr:Sz.szd r≤1048576):z4j g r=some (j7k g r):=by
 have hl:=(k5O hr).1
 unfold z4j j7k
 rw[j0k h (q4E hr),bsS]
 have h1:=(z5R (bad:=fun p (x:Eqn)=>!decide (x.At∈reqL g r)||p.any fun o=>decide (o.At=x.At)) (nm:=fun y:Eqn=>y.At) (c:=fun _=>true) (all:=r.Equations)
  (f:=fun k x _=>some (if (!decide (x.At∈reqL g r)||(r.Equations.take k).any fun o=>decide (o.At=x.At))=true then .inr true else .inl ())) (h:=z4N (reqL g r)) (fun pre x post e=>by
   rw[show r.Equations.take pre.length=pre by rw[e];simp]) (fun pre x post e=>by
  unfold z4N
  rw[k2O,bsS]
  cases decide (x.At∈reqL g r) with
  | false=>rfl
  | true=>
   have hp:pre.length≤1048576:=by
     have:r.Equations.length=pre.length+(post.length+1):=by rw[e];simp
     omega
   have e2:decide (x.At∈pre.map fun y:Eqn=>y.At)=pre.any fun o=>decide (o.At=x.At):=by
    by_cases hm:x.At∈pre.map fun y:Eqn=>y.At
    ·rw[decide_eq_true hm];symm;rw[List.any_eq_true]
     obtain⟨y,hy,he⟩:=List.mem_map.1 hm
     exact⟨y,hy,by simpa using he⟩
    ·rw[decide_eq_false hm];symm;rw[List.any_eq_false]
     intro y hy he
     exact hm (List.mem_map.2 ⟨y,hy,by simpa using he⟩)
   rw[ifP rfl,k2O,bsS,e2,q3E (by rw[lnM];constructor<;>omega),List.map_append,← apply_ite some];rfl) r.Equations [] rfl).2
 rw[show findL (z4N (reqL g r)) 0 r.Equations []=_ from h1]
 cases q4X (fun p (x:Eqn)=>!decide (x.At∈reqL g r)||p.any fun o=>decide (o.At=x.At)) [] r.Equations<;>rfl
def useB (g:Gm_)(r:Rule)(e:Expr):Bool:=(attrs e).all (mayB g r)
theorem j5M {g:Gm_}(h:GOk g){r:Rule}(hl:ROk r){e:Expr}(he:Sz.szd e≤1048576):z1W g r e=some (useB g r e):=by
 unfold z1W useB
 rw[j5D he,bsS,q4K (c:=false) (q:=mayB g r) fun k x hx=>by
  unfold j2h
  rw[k6R h hl,bsS,← apply_ite some]]
 cases (attrs e).all (mayB g r)<;>rfl
theorem k4M (g:Gm_){r:Rule}(hl:ROk r){e:Expr}(he:Sz.szd e≤1048576):z2X e g r=some (!useB g r e):=by
 unfold z2X useB
 rw[j1v he,bsS]
 unfold q4r q4D
 rw[q5a (q:=fun o=>!mayB g r o) fun k o ho=>by
  unfold q6s z2I
  rw[k6Q g hl,bsS,bsS,← apply_ite some]]
 rw[bsS,← j2N,Bool.not_not]
def z4X (r:Rule):List Expr:=r.Equations.map (fun q=>q.Expr)++r.Contributions.flatMap fun q=>[q.Target,q.Value]
theorem j9L {r:Rule}(hr:Sz.szd r≤1048576):q9y r=some (z4X r):=by
 have hl:=k5O hr
 have h1:∀ (xs:List Eqn) (i:Nat) (s:List Expr),s.length+xs.length≤1048576→eachL z1B i xs s=some (s++xs.map fun q=>q.Expr):=by
  intro xs
  induction xs with
  | nil=>intro i s _;simp[eachL]
  | cons x xs ih=>
   intro i s hs
   simp only[lnC] at hs
   have e:z1B i x s=some (s++[x.Expr]):=by unfold z1B;rw[q3E (by constructor<;>omega)]
   rw[eachL,e,bsS,ih _ _ (by simp;omega)];simp
 have h2:∀ (xs:List Cn) (i:Nat) (s:List Expr),s.length+2*xs.length≤4194304→eachL z1C i xs s=some (s++xs.flatMap fun q=>[q.Target,q.Value]):=by
  intro xs
  induction xs with
  | nil=>intro i s _;simp[eachL]
  | cons x xs ih=>
   intro i s hs
   simp only[lnC] at hs
   have e:z1C i x s=some (s++[x.Target,x.Value]):=by
    unfold z1C;rw[q3E (by simp only[lnC,List.length_nil];constructor<;>omega)]
   rw[eachL,e,bsS,ih _ _ (by simp;omega)];simp
 unfold q9y z4X
 rw[h1 _ _ _ (by simpa using hl.1),bsS,h2 _ _ _ (by simp;omega)];simp
theorem k4N {r:Rule}{e:Expr}(h:e∈z4X r):Sz.szd e≤Sz.szd r:=by
 unfold z4X at h
 rcases List.mem_append.1 h with h|h
 ·obtain⟨q,hq,rfl⟩:=List.mem_map.1 h;exact z8H hq
 ·obtain⟨q,hq,he⟩:=List.mem_flatMap.1 h
  have:=z9F hq
  simp at he
  rcases he with rfl|rfl
  ·exact this.1
  ·exact this.2
def misB (g:Gm_)(r:Rule):Bool:=!(z4X r).all (useB g r)
theorem k6T (g:Gm_){r:Rule}(hr:Sz.szd r≤1048576):z5B g r=some (misB g r):=by
 unfold z5B misB
 rw[j9L hr,bsS]
 unfold q5d q5q
 rw[q5a (q:=fun e=>!useB g r e) fun k e he=>by
  unfold q7V
  rw[k4M g (q4E hr) (Nat.le_trans (k4N he) hr),bsS,← apply_ite some]]
 rw[bsS,← j2N,Bool.not_not]
theorem k6U {g:Gm_}(h:GOk g){r:Rule}(hr:Sz.szd r≤1048576):z2U g r=some (misB g r):=by
 unfold z2U misB
 rw[q4K (c:=true) (q:=fun q:Eqn=>useB g r q.Expr) fun k x hx=>by
  unfold z9d
  rw[j5M h (q4E hr) (Nat.le_trans (z8H hx) hr),bsS,← apply_ite some]]
 rw[q4K (c:=true) (q:=fun q:Cn=>useB g r q.Target&&useB g r q.Value) fun k x hx=>by
  have hs:=z9F hx
  unfold z9e
  rw[j5M h (q4E hr) (Nat.le_trans hs.1 hr),bsS]
  cases useB g r x.Target with
  | false=>rfl
  | true=>rw[ifP rfl,j5M h (q4E hr) (Nat.le_trans hs.2 hr),bsS,← apply_ite some];rfl]
 have e:(z4X r).all (useB g r)=((r.Equations.all fun q=>useB g r q.Expr)&&r.Contributions.all fun q=>useB g r q.Target&&useB g r q.Value):=by
  unfold z4X
  rw[List.all_append,List.all_map,List.all_flatMap]
  congr 1
  congr 1;funext q;simp
 rw[e]
 cases r.Equations.all fun q=>useB g r q.Expr with
 | false=>rfl
 | true=>cases r.Contributions.all fun q=>useB g r q.Target&&useB g r q.Value<;>rfl
def z4G (g:Gm_)(r:Rule)(k:Int):Bool:=if k=3 then !j3b g r else if k=4 then k2P g r else if k=5 then j7k g r else misB g r
theorem k2S {g:Gm_}(h:GOk g){r:Rule}(hr:Sz.szd r≤1048576)(k:Int):z2V g r k=some (z4G g r k):=by
 unfold z2V z4G
 by_cases h3:k=3
 ·rw[ifP h3,ifP h3,j8F h (q4E hr)];rfl
 ·rw[ifN h3,ifN h3]
  by_cases h4:k=4
  ·rw[ifP h4,ifP h4,k4L h hr];rfl
  ·rw[ifN h4,ifN h4]
   by_cases h5:k=5
   ·rw[ifP h5,ifP h5,k2R h hr];rfl
   ·rw[ifN h5,ifN h5,k6U h hr];rfl
theorem j7l {g:Gm_}(h:GOk g){r:Rule}(hr:Sz.szd r≤1048576)(k:Int)(i:Nat):z2J g k i r ()=some (if z4G g r k=true then .inr (k,(i:Int)) else .inl ()):=by
 unfold z2J z4G
 by_cases h3:k=3
 ·rw[ifP h3,ifP h3,j8E g (q4E hr),bsS,← apply_ite some]
 ·rw[ifN h3,ifN h3]
  by_cases h4:k=4
  ·rw[ifP h4,ifP h4,k4K h (q4E hr),bsS,← apply_ite some]
  ·rw[ifN h4,ifN h4]
   by_cases h5:k=5
   ·rw[ifP h5,ifP h5,k2Q h (q4E hr),bsS,← apply_ite some]
   ·rw[ifN h5,ifN h5,k6T g hr,bsS,← apply_ite some]
theorem k2T {g:Gm_}(h:GOk g){r:Rule}(hr:Sz.szd r≤1048576)(k:Int)(i:Nat):z2C g k i r ()=some (if z4G g r k=true then .inr (k,(i:Int)) else .inl ()):=by
 unfold z2C
 rw[k2S h hr,bsS,← apply_ite some]
theorem j3c {α σ ρ:Type}{f g:Nat→α→σ→Option (σ ⊕ ρ)}:∀ {xs:List α} {i:Nat} {s:σ},(∀ k x s,x∈xs→f k x s=g k x s)→findL f i xs s=findL g i xs s
 | [],_,_,_=>rfl
 | x::xs,i,s,h=>by
  rw[findL,findL,h i x s (by simp)]
  congr 1;funext z
  cases z with
  | inl s'=>exact j3c fun k y s hy=>h k y s (by simp[hy])
  | inr r=>rfl
theorem j8G {g:Gm_}(h:Sz.szd g≤1048576)(k:Int):z2D g k=q6Q g k:=by
 unfold z2D q6Q
 have e:findL (z2C g k) 0 g.Rules ()=findL (z2J g k) 0 g.Rules ():=j3c fun i x _ hx=>by
  have hr:=Nat.le_trans (z0s hx) h
  rw[k2T (q7z h) hr,j7l (q7z h) hr]
 rw[e]
def q8T (g:Gm_)(k:Int):Option (Int×Int):=match g.Rules.findIdx? fun r=>z4G g r k with
 | some i=>some (k,(i:Int))
 | none=>none
theorem z7I {α ρ:Type}{q:α→Bool}{c:Nat→ρ}:∀ {xs:List α} {i:Nat} {f:Nat→α→Unit→Option (Unit ⊕ ρ)},(∀ k x,x∈xs→f k x ()=some (if q x=true then .inr (c k) else .inl ())) →
  findL f i xs ()=some (match xs.findIdx? q with|some j=>.inr (c (i+j))|none=>.inl ())
 | [],_,_,_=>rfl
 | x::xs,i,f,h=>by
  rw[findL,h i x (by simp),bsS,List.findIdx?_cons]
  by_cases hq:q x=true
  ·rw[ifP hq,ifP hq];rfl
  ·rw[ifN hq,ifN hq]
   have ih:=z7I (q:=q) (c:=c) (xs:=xs) (i:=i+1) (f:=f) fun k y hy=>h k y (by simp[hy])
   dsimp only
   rw[ih]
   cases xs.findIdx? q with
   | none=>rfl
   | some j=>simp only[Option.map_some];rw[show i+1+j=i+(j+1) by omega]
def z6M (g:Gm_):Int×Int:=
 if !decide (1≤g.Symbols.length∧g.Symbols.length≤4) || !decide (1≤g.Rules.length∧g.Rules.length≤8) then (1,0)
 else if 0≤z8p g then (1,z8p g)
 else if (g.Symbols.getD 0 zS).Attributes.any fun a=>decide (a.Mode=1) then (2,0)
 else (q8T g 3 <|> (q8T g 4 <|> (q8T g 5 <|> q8T g 6))).getD (0,0)
theorem j3d {g:Gm_}(h:Sz.szd g≤1048576):(q4o (q6Q g) 3).bind (onr (fun r2=>some r2) fun ()=>some (0,0))=some ((q8T g 3 <|> (q8T g 4 <|> (q8T g 5 <|> q8T g 6))).getD (0,0)):=by
 have hstep:∀ k:Int,3≤k→k≤6→q6Q g k=match q8T g k with|some z=>some (.inr (.inr z))|none=>some (.inl (k+1)):=by
  intro k h3 h6
  unfold q6Q q8T
  rw[ifP h6,z7I (q:=fun r=>z4G g r k) (c:=fun i=>(k,(i:Int))) fun i x hx=>j7l (q7z h) (Nat.le_trans (z0s hx) h) k i]
  cases g.Rules.findIdx? fun r=>z4G g r k with
  | some i=>simp
  | none=>rw[bsS];dsimp only[onr];rw[q3E (by constructor<;>omega)]
 have hend:q6Q g 7=some (.inr (.inl ())):=by unfold q6Q;rw[ifN (by omega)]
 have h3:=hstep 3 (by omega) (by omega)
 have h4:=hstep 4 (by omega) (by omega)
 have h5:=hstep 5 (by omega) (by omega)
 have h6:=hstep 6 (by omega) (by omega)
 cases s3:q8T g 3 with
 | some z=>rw[s3] at h3;rw[q3F h3];rfl
 | none=>
  rw[s3] at h3
  rw[q3L h3,show (3:Int)+1=4 by rfl]
  cases s4:q8T g 4 with
  | some z=>rw[s4] at h4;rw[q3F h4];rfl
  | none=>
   rw[s4] at h4
   rw[q3L h4,show (4:Int)+1=5 by rfl]
   cases s5:q8T g 5 with
   | some z=>rw[s5] at h5;rw[q3F h5];rfl
   | none=>
    rw[s5] at h5
    rw[q3L h5,show (5:Int)+1=6 by rfl]
    cases s6:q8T g 6 with
    | some z=>rw[s6] at h6;rw[q3F h6];rfl
    | none=>
     rw[s6] at h6
     rw[q3L h6,show (6:Int)+1=7 by rfl,q3F hend];rfl
theorem k2U {g:Gm_}(h:Sz.szd g≤1048576):z1D g=some (z6M g):=by
 unfold z1D z6M
 rw[z8o,bsS]
 by_cases h1:1≤g.Symbols.length∧g.Symbols.length≤4
 ·rw[decide_eq_true (by omega),ifP rfl,z8o,bsS,decide_eq_true h1]
  by_cases h2:1≤g.Rules.length∧g.Rules.length≤8
  ·rw[decide_eq_true (by omega),ifP rfl,k2M h,bsS,decide_eq_true h2]
   simp only[Bool.not_true,Bool.or_self,Bool.false_eq_true,if_false]
   by_cases h3:0≤z8p g
   ·rw[ifP h3,ifP h3]
   ·rw[ifN h3,ifN h3,List.getD_eq_getElem?_getD,List.getElem?_eq_getElem (by omega:0<g.Symbols.length),bsS,Option.getD_some]
    unfold q4q q4C
    rw[q5a (q:=fun a:At_=>decide (a.Mode=1)) fun k y hy=>by
     unfold q6r z1A
     rw[bsS,← apply_ite some]]
    rw[bsS]
    by_cases h4:(g.Symbols[0].Attributes.any fun a=>decide (a.Mode=1))=true
    ·rw[ifP h4,ifP h4]
    ·rw[ifN h4,ifN h4]
     exact j3d h
  ·rw[decide_eq_false (by omega),decide_eq_false h2];rfl
 ·rw[decide_eq_false (by omega),decide_eq_false h1];rfl
theorem k2V {g:Gm_}(h:Sz.szd g≤1048576):z1q g=some (z6M g):=by
 unfold z1q z6M
 rw[z3k,bsS]
 by_cases h1:1≤g.Symbols.length∧g.Symbols.length≤4
 ·rw[decide_eq_true (by omega),ifP rfl,z3k,bsS,decide_eq_true h1]
  by_cases h2:1≤g.Rules.length∧g.Rules.length≤8
  ·rw[decide_eq_true (by omega),ifP rfl,k2N h,bsS,decide_eq_true h2]
   simp only[Bool.not_true,Bool.or_self,Bool.false_eq_true,if_false]
   by_cases h3:0≤z8p g
   ·rw[ifP h3,ifP h3]
   ·rw[ifN h3,ifN h3,List.getD_eq_getElem?_getD,List.getElem?_eq_getElem (by omega:0<g.Symbols.length),bsS,Option.getD_some]
    rw[q4K (c:=((2:Int),(0:Int))) (q:=fun a:At_=>!decide (a.Mode=1)) fun k y hy=>by
     unfold z8m
     by_cases hm:y.Mode=1
     ·rw[ifP hm,ifN (by simp[hm])]
     ·rw[ifN hm,ifP (by simp[hm])]]
    have e:(g.Symbols[0].Attributes.all fun a=>!decide (a.Mode=1))=!(g.Symbols[0].Attributes.any fun a=>decide (a.Mode=1)):=by rw[List.not_any_eq_all_not]
    rw[e]
    cases (g.Symbols[0].Attributes.any fun a=>decide (a.Mode=1)) with
    | true=>rfl
    | false=>
     rw[Bool.not_false,ifP rfl,bsS,z3W,ifN (by simp),show z2D g=q6Q g from funext fun k=>j8G h k]
     exact j3d h
  ·rw[decide_eq_false (by omega),decide_eq_false h2];rfl
 ·rw[decide_eq_false (by omega),decide_eq_false h1];rfl
theorem z5T {α:Type}{bad:List α→α→Bool}:∀ (xs pre:List α),q4X bad pre xs=none→∀ k x,xs[k]?=some x→bad (pre++xs.take k) x=false
 | [],pre,h,k,x,hx=>by simp at hx
 | y::xs,pre,h,k,x,hx=>by
  rw[q4X] at h
  by_cases hb:bad pre y=true
  ·rw[ifP hb] at h;cases h
  ·rw[ifN hb] at h
   cases k with
   | zero=>simp at hx;subst hx;simpa using hb
   | succ k=>
    have:=z5T xs (pre++[y]) h k x (by simpa using hx)
    simpa using this
structure Shape (g:Gm_):Prop where
 syms:1≤g.Symbols.length∧g.Symbols.length≤4
 rules:1≤g.Rules.length∧g.Rules.length≤8
 sym:q4X z5S [] g.Symbols=none
 rule:q4X z3w [] g.Rules=none
 brk:∀ k:Int,3≤k→k≤6→∀ r∈g.Rules,z4G g r k=false
 j6j:∀ y a,g.Symbols[0]?=some y→a∈y.Attributes→a.Mode≠1
theorem j9M {g:Gm_}(h:(z6M g).1=0):Shape g:=by
 unfold z6M at h
 by_cases h1:1≤g.Symbols.length∧g.Symbols.length≤4
 ·by_cases h2:1≤g.Rules.length∧g.Rules.length≤8
  ·rw[decide_eq_true h1,decide_eq_true h2] at h
   simp only[Bool.not_true,Bool.or_self,Bool.false_eq_true,if_false] at h
   by_cases h3:0≤z8p g
   ·rw[ifP h3] at h;simp at h
   ·rw[ifN h3] at h
    by_cases h4:((g.Symbols.getD 0 zS).Attributes.any fun a=>decide (a.Mode=1))=true
    ·rw[ifP h4] at h;simp at h
    ·rw[ifN h4] at h
     have hf:q4X z5S [] g.Symbols=none∧q4X z3w [] g.Rules=none:=by
      unfold z8p at h3
      cases e1:q4X z5S [] g.Symbols with
      | some k=>rw[e1] at h3;exact absurd (Int.natCast_nonneg k) h3
      | none=>
       cases e2:q4X z3w [] g.Rules with
       | some k=>rw[e1,e2] at h3;exact absurd (Int.natCast_nonneg k) h3
       | none=>exact⟨rfl,rfl⟩
     have hk:∀ k:Int,q8T g k=none→∀ r∈g.Rules,z4G g r k=false:=by
      intro k hk r hr
      unfold q8T at hk
      cases e:g.Rules.findIdx? fun r=>z4G g r k with
      | some i=>rw[e] at hk;cases hk
      | none=>
       rw[List.findIdx?_eq_none_iff] at e
       exact e r hr
     have hc:∀ k:Int,3≤k→∀ z,q8T g k=some z→z.1≠0:=by
      intro k h3 z hz
      unfold q8T at hz
      cases e:g.Rules.findIdx? fun r=>z4G g r k with
      | none=>rw[e] at hz;cases hz
      | some i=>rw[e] at hz;cases hz;show k≠0;omega
     have n3:q8T g 3=none:=by
      cases e:q8T g 3 with
      | none=>rfl
      | some z=>rw[e] at h;exact absurd h (hc 3 (by omega) z e)
     rw[n3] at h
     have n4:q8T g 4=none:=by
      cases e:q8T g 4 with
      | none=>rfl
      | some z=>rw[e] at h;exact absurd h (hc 4 (by omega) z e)
     rw[n4] at h
     have n5:q8T g 5=none:=by
      cases e:q8T g 5 with
      | none=>rfl
      | some z=>rw[e] at h;exact absurd h (hc 5 (by omega) z e)
     rw[n5] at h
     have n6:q8T g 6=none:=by
      cases e:q8T g 6 with
      | none=>rfl
      | some z=>rw[e] at h;exact absurd h (hc 6 (by omega) z e)
     refine⟨h1,h2,hf.1,hf.2,fun k k3 k6=>?_,fun y a hy ha hm=>h4 ?_⟩
     ·have:k=3∨k=4∨k=5∨k=6:=by omega
      rcases this with rfl|rfl|rfl|rfl
      ·exact hk _ n3
      ·exact hk _ n4
      ·exact hk _ n5
      ·exact hk _ n6
     ·rw[List.getD_eq_getElem?_getD,hy,List.any_eq_true]
      exact⟨a,ha,by simpa using hm⟩
  ·rw[decide_eq_false h2] at h;simp at h
 ·rw[decide_eq_false h1] at h;simp at h
theorem Shape.ruleB {g:Gm_}(h:Shape g){r:Rule}(hr:r∈g.Rules):ruleB r=true:=by
 obtain⟨k,hk⟩:=List.getElem?_of_mem hr
 have:=z5T _ _ h.rule k r hk
 unfold z3w at this
 rw[Bool.or_eq_false_iff] at this
 simpa using this.1
theorem Shape.symB {g:Gm_}(h:Shape g){y:Symbol}(hy:y∈g.Symbols):symB y=true:=by
 obtain⟨k,hk⟩:=List.getElem?_of_mem hy
 have:=z5T _ _ h.sym k y hk
 unfold z5S at this
 rw[Bool.or_eq_false_iff] at this
 simpa using this.1
theorem Shape.pos {g:Gm_}(h:Shape g){r:Rule}(hr:r∈g.Rules){q:Eqn}(hq:q∈r.Equations):0≤q.At.Pos∧q.At.Pos≤(r.Right.length:Int):=by
 have:=h.ruleB hr
 unfold Go.Proofs.YtppbkkcekpbaiaaGreat.ruleB at this
 simp only[Bool.and_eq_true,List.all_eq_true] at this
 have:=this.2.2.2.1 q hq
 unfold eqnB at this
 simp only[Bool.and_eq_true,decide_eq_true_eq] at this
 exact this.2.2
def typK (g:Gm_)(r:Rule)(k n p t:Int)(sy nm:ByteArray)(ts:List Int):Int:=
 if k=1 then t else if k=2 then (if r.Literal=true then 1 else 0) else if k=3 then (z1O g r ⟨p,nm⟩).1.Type_
 else if k=4 then (if ts.length=2∧ts.getD 0 0=(opT n).1∧ts.getD 1 0=(opT n).2.1 then (opT n).2.2 else 0)
 else if k=5 then (if ts.length=3∧ts.getD 0 0=3∧ts.getD 1 0=ts.getD 2 0 then ts.getD 1 0 else 0)
 else if k=6 then (if 0≤p∧p≤(r.Right.length:Int) then 4 else 0) else if k=7 then 4
 else if k=8 then (if ts.length=1∧ts.getD 0 0=4 then (z3l (q6Z g sy).1 nm).1.Type_ else 0) else 0
mutual
def typE (g:Gm_)(r:Rule):Expr→Int
 | ⟨k,n,p,t,sy,nm,a⟩=>typK g r k n p t sy nm (k4O g r a)
def k4O (g:Gm_)(r:Rule):List Expr→List Int
 | []=>[]
 | x::xs=>typE g r x::k4O g r xs
end
theorem j9N (g:Gm_)(r:Rule):∀ l,k4O g r l=l.map (typE g r)
 | []=>rfl
 | x::xs=>by rw[k4O,j9N g r xs];rfl
theorem k2W (g:Gm_)(r:Rule)(e:Expr):typE g r e=typK g r e.Kind e.N e.Pos e.Type_ e.Symbol e.Name (e.Args.map (typE g r)):=by
 cases e;rw[typE,j9N]
theorem j7m {y:Symbol}{s:ByteArray}(h:(z3l y s).2≠true):(z3l y s).1=zA:=by
 unfold z3l at h ⊢
 cases hf:y.Attributes.find? (fun a=>decide (a.Name=s)) with
 | none=>rfl
 | some a=>rw[hf] at h;exact absurd rfl h
theorem j8H {g:Gm_}(h:GOk g)(s nm:ByteArray):q7R g s nm=some (z3l (q6Z g s).1 nm).1.Type_:=by
 unfold q7R
 rw[z3m h,bsS]
 try dsimp only
 rw[j2Y,bsS]
 try dsimp only
 by_cases hb:(z3l (q6Z g s).1 nm).2=true
 ·rw[ifP hb]
 ·rw[ifN hb,j7m hb];rfl
theorem k4P (g:Gm_){r:Rule}(hl:ROk r)(e:Expr):∀ m,fuE e≤m→Sz.szd e≤1048576→q9c m g r e=some (typE g r e):=by
 induction e using z1M with
 | h e ih=>
  intro m hm hs
  obtain⟨m,rfl⟩:∃ q,m=q+1:=⟨m-1,by have:=z6K e;omega⟩
  show z1E (q9c m) g r e=_
  have hlen:e.Args.length≤1048576:=by have:=z0k e;have:=q9X e.Args;omega
  have hloop:∀ (xs:List Expr) (i:Nat) (s:List Int),(∀ x∈xs,x∈e.Args)→s.length+xs.length≤1048576→eachL (z2K (q9c m) g r) i xs s=some (s++xs.map (typE g r)):=by
   intro xs
   induction xs with
   | nil=>intro i s _ _;simp[eachL]
   | cons x xs ihx=>
    intro i s hx hn
    simp only[lnC] at hn
    have e1:z2K (q9c m) g r i x s=some (s++[typE g r x]):=by
     unfold z2K
     have hxe:=hx x (by simp)
     rw[ih x hxe m (by have:=z6L hxe;omega) (by have:=k5H hxe;omega),bsS,q3E (by constructor<;>omega)]
    rw[eachL,e1,bsS,ihx _ _ (fun y hy=>hx y (by simp[hy])) (by simp;omega)];simp
  unfold z1E
  rw[hloop e.Args 0 [] (fun _ h=>h) (by simpa using hlen),bsS,List.nil_append,k2W]
  generalize e.Args.map (typE g r)=ts
  unfold typK
  by_cases k1:e.Kind=1
  ·rw[ifP k1,ifP k1]
  rw[ifN k1,ifN k1]
  by_cases k2:e.Kind=2
  ·rw[ifP k2,ifP k2,bsS]
   by_cases hL:r.Literal=true
   ·rw[ifP hL,ifP hL]
   ·rw[ifN hL,ifN hL]
    simp[k2]
  rw[ifN k2,ifN k2,bsS,ifN (by simp)]
  by_cases k3:e.Kind=3
  ·rw[ifP k3,ifP k3,j0j g hl];rfl
  rw[ifN k3,ifN k3]
  by_cases k4:e.Kind=4
  ·rw[ifP k4,ifP k4,bsS]
   by_cases hn:ts.length=2
   ·obtain⟨a,b,rfl⟩:∃ a b,ts=[a,b]:=by
     match ts,hn with
     | [a,b],_=>exact⟨a,b,rfl⟩
    rw[ifP (by simp),k6A,bsS]
    simp only[List.getElem?_cons_zero,List.getElem?_cons_succ,bsS,List.getD_cons_zero,List.getD_cons_succ]
    by_cases ha:a=(opT e.N).1
    ·rw[ifP ha,bsS]
     by_cases hb:b=(opT e.N).2.1
     ·rw[ifP (by simp[hb]),ifP ⟨hn,ha,hb⟩]
     ·rw[ifN (by simp[hb]),ifN fun h=>hb h.2.2]
    ·rw[ifN ha,bsS,ifN (by simp),ifN fun h=>ha h.2.1]
   ·have hz:(if ts.length=2∧ts.getD 0 0=(opT e.N).1∧ts.getD 1 0=(opT e.N).2.1 then (opT e.N).2.2 else 0)=0:=ifN fun h=>hn h.1
    rw[hz,ifN (by simp;omega)]
    simp[k4]
  rw[ifN k4,ifN k4,bsS,ifN (by simp)]
  by_cases k5:e.Kind=5
  ·rw[ifP k5,ifP k5,bsS]
   by_cases hn:ts.length=3
   ·obtain⟨a,b,c,rfl⟩:∃ a b c,ts=[a,b,c]:=by
     match ts,hn with
     | [a,b,c],_=>exact⟨a,b,c,rfl⟩
    rw[ifP (by simp)]
    simp only[List.getElem?_cons_zero,List.getElem?_cons_succ,bsS,List.getD_cons_zero,List.getD_cons_succ]
    by_cases ha:a=3
    ·rw[ifP ha]
     by_cases hb:b=c
     ·rw[ifP hb,ifP ⟨hn,ha,hb⟩]
     ·rw[ifN hb,ifN fun h=>hb h.2.2]
    ·rw[ifN ha,ifN fun h=>ha h.2.1]
   ·have hz:(if ts.length=3∧ts.getD 0 0=3∧ts.getD 1 0=ts.getD 2 0 then ts.getD 1 0 else 0)=0:=ifN fun h=>hn h.1
    rw[hz,ifN (by simp;omega)]
    simp[k5]
  rw[ifN k5,ifN k5,bsS,ifN (by simp)]
  by_cases k6:e.Kind=6
  ·rw[ifP k6,ifP k6,z8o,bsS,bsS]
   by_cases hp:0≤e.Pos∧e.Pos≤(r.Right.length:Int)
   ·rw[decide_eq_true hp,ifP hp];rfl
   ·rw[decide_eq_false hp,ifN hp]
    simp[k6]
  rw[ifN k6,ifN k6,bsS,ifN (by simp),bsS]
  by_cases k7:e.Kind=7
  ·rw[ifP (by simp[k7]),ifP k7]
  rw[ifN (by simp[k7]),ifN k7]
  by_cases k8:e.Kind=8
  ·rw[ifP k8,ifP k8,bsS]
   by_cases hn:ts.length=1
   ·obtain⟨a,rfl⟩:∃ a,ts=[a]:=by
     match ts,hn with
     | [a],_=>exact⟨a,rfl⟩
    rw[ifP (by simp)]
    simp only[List.getElem?_cons_zero,bsS,List.getD_cons_zero]
    by_cases ha:a=4
    ·rw[ifP (by simp[ha]),ifP ⟨hn,ha⟩,z4E,bsS]
     try dsimp only
     rw[z9E];rfl
    ·rw[ifN (by simp[ha]),ifN fun h=>ha h.2]
   ·rw[ifN (by simp;omega),ifN fun h=>hn h.1];rfl
  rw[ifN k8,ifN k8];rfl
theorem j8I (g:Gm_){r:Rule}(hl:ROk r){e:Expr}(hs:Sz.szd e≤1048576):z1F g r e=some (typE g r e):=z0L (fuE e) fun m hm=>k4P g hl e m hm hs
theorem k4Q {g:Gm_}(h:GOk g){r:Rule}(hl:ROk r)(e:Expr):∀ m,fuE e≤m→q9Z m g r e=some (typE g r e):=by
 induction e using z1M with
 | h e ih=>
  intro m hm
  obtain⟨m,rfl⟩:∃ q,m=q+1:=⟨m-1,by have:=z6K e;omega⟩
  show z1r (q9Z m) g r e=_
  have hx:∀ x∈e.Args,q9Z m g r x=some (typE g r x):=fun x hxe=>ih x hxe m (by have:=z6L hxe;omega)
  unfold z1r
  rw[k2W]
  unfold typK
  by_cases k1:e.Kind=1
  ·rw[ifP k1,ifP k1]
  rw[ifN k1,ifN k1]
  by_cases k2:e.Kind=2
  ·rw[ifP k2,ifP k2,← apply_ite some]
  rw[ifN k2,ifN k2]
  by_cases k3:e.Kind=3
  ·rw[ifP k3,ifP k3,z3k,bsS]
   unfold z1O
   by_cases hp:0≤e.Pos∧e.Pos≤(r.Right.length:Int)
   ·rw[ifP (by simpa using hp),ifP hp,z3v hl,bsS,j8H h];rfl
   ·rw[ifN (by simpa using hp),ifN hp];rfl
  rw[ifN k3,ifN k3]
  by_cases k4:e.Kind=4
  ·rw[ifP k4,ifP k4]
   unfold j1s
   rw[k6B,bsS]
   try dsimp only
   by_cases hn:e.Args.length=2
   ·obtain⟨a,b,hab⟩:∃ a b,e.Args=[a,b]:=by
     match e.Args,hn with
     | [a,b],_=>exact⟨a,b,rfl⟩
    rw[hab] at hx
    rw[hab,ifP (by simp)]
    simp only[List.getElem?_cons_zero,List.getElem?_cons_succ,bsS,List.map_cons,List.map_nil,List.getD_cons_zero,List.getD_cons_succ]
    rw[hx a (by simp),bsS]
    by_cases ha:typE g r a=(opT e.N).1
    ·rw[ifP ha,hx b (by simp),bsS]
     by_cases hb:typE g r b=(opT e.N).2.1
     ·rw[ifP hb,ifP ⟨by simp,ha,hb⟩];rfl
     ·rw[ifN hb,ifN fun h=>hb h.2.2];rfl
    ·rw[ifN ha,ifN fun h=>ha h.2.1];rfl
   ·rw[ifN (by omega),ifN fun h=>hn (by simpa using h.1)];rfl
  rw[ifN k4,ifN k4]
  by_cases k5:e.Kind=5
  ·rw[ifP k5,ifP k5]
   unfold j1t
   by_cases hn:e.Args.length=3
   ·obtain⟨a,b,c,hab⟩:∃ a b c,e.Args=[a,b,c]:=by
     match e.Args,hn with
     | [a,b,c],_=>exact⟨a,b,c,rfl⟩
    rw[hab] at hx
    rw[hab,ifP (by simp)]
    simp only[List.getElem?_cons_zero,List.getElem?_cons_succ,bsS,List.map_cons,List.map_nil,List.getD_cons_zero,List.getD_cons_succ]
    rw[hx a (by simp),bsS]
    by_cases ha:typE g r a=3
    ·rw[ifP ha,hx b (by simp),bsS,hx c (by simp),bsS]
     by_cases hb:typE g r b=typE g r c
     ·rw[ifP hb,ifP ⟨by simp,ha,hb⟩];rfl
     ·rw[ifN hb,ifN fun h=>hb h.2.2];rfl
    ·rw[ifN ha,ifN fun h=>ha h.2.1];rfl
   ·rw[ifN (by omega),ifN fun h=>hn (by simpa using h.1)];rfl
  rw[ifN k5,ifN k5]
  by_cases k6:e.Kind=6
  ·rw[ifP k6,ifP k6,z3k,bsS]
   by_cases hp:0≤e.Pos∧e.Pos≤(r.Right.length:Int)
   ·rw[ifP (by simpa using hp),ifP hp]
   ·rw[ifN (by simpa using hp),ifN hp]
  rw[ifN k6,ifN k6]
  by_cases k7:e.Kind=7
  ·rw[ifP k7,ifP k7]
  rw[ifN k7,ifN k7]
  by_cases k8:e.Kind=8
  ·rw[ifP k8,ifP k8]
   by_cases hn:e.Args.length=1
   ·obtain⟨a,hab⟩:∃ a,e.Args=[a]:=by
     match e.Args,hn with
     | [a],_=>exact⟨a,rfl⟩
    rw[hab] at hx
    rw[hab,ifP (by simp)]
    simp only[List.getElem?_cons_zero,bsS,List.map_cons,List.map_nil,List.getD_cons_zero]
    rw[hx a (by simp),bsS]
    by_cases ha:typE g r a=4
    ·rw[ifP ha,ifP ⟨by simp,ha⟩,j8H h];rfl
    ·rw[ifN ha,ifN fun h=>ha h.2]
   ·rw[ifN (by omega),ifN fun h=>hn (by simpa using h.1)]
  rw[ifN k8,ifN k8]
theorem j8J {g:Gm_}(h:GOk g){r:Rule}(hl:ROk r)(e:Expr):z1s g r e=some (typE g r e):=z0L (fuE e) fun m hm=>k4Q h hl e m hm
def conT (g:Gm_)(r:Rule)(q:Cn):Bool:=(decide (typE g r q.Target=4)&&decide (typE g r q.Value=2))&&decide ((z3l (q6Z g q.Symbol).1 q.Name).1.Mode=3)
def typR (g:Gm_)(r:Rule):Bool:=(r.Equations.all fun q=>decide (typE g r q.Expr=(z1O g r q.At).1.Type_))&&r.Contributions.all (conT g r)
theorem k4R (g:Gm_){r:Rule}(hr:Sz.szd r≤1048576):z4q g r=some (!typR g r):=by
 have hl:=q4E hr
 unfold z4q typR
 rw[q4K (c:=true) (q:=fun q:Eqn=>decide (typE g r q.Expr=(z1O g r q.At).1.Type_)) fun k x hx=>by
  unfold j0H
  rw[j0j g hl,bsS]
  try dsimp only
  rw[j8I g hl (Nat.le_trans (z8H hx) hr),bsS]
  by_cases hp:typE g r x.Expr=(z1O g r x.At).1.Type_
  ·rw[ifP hp,ifP (by simpa using hp)]
  ·rw[ifN hp,ifN (by simpa using hp)]]
 rw[q4K (c:=true) (q:=conT g r) fun k x hx=>by
  have hs:=z9F hx
  unfold j0I conT
  rw[z4E,bsS]
  try dsimp only
  rw[z9E,bsS]
  try dsimp only
  rw[j8I g hl (Nat.le_trans hs.1 hr),bsS]
  by_cases h1:typE g r x.Target=4
  ·rw[ifP h1,j8I g hl (Nat.le_trans hs.2 hr),bsS,bsS,decide_eq_true h1]
   cases decide (typE g r x.Value=2) with
   | false=>rfl
   | true=>
    rw[Bool.not_true,ifN (by simp),bsS]
    cases decide ((z3l (q6Z g x.Symbol).1 x.Name).1.Mode=3)<;>rfl
  ·rw[ifN h1,decide_eq_false h1];rfl]
 cases r.Equations.all fun q=>decide (typE g r q.Expr=(z1O g r q.At).1.Type_) with
 | false=>rfl
 | true=>cases r.Contributions.all (conT g r)<;>rfl
theorem k4S {g:Gm_}(h:GOk g){r:Rule}(hr:Sz.szd r≤1048576)(hp:∀ q∈r.Equations,0≤q.At.Pos∧q.At.Pos≤(r.Right.length:Int)):z5r g r=some (typR g r):=by
 have hl:=q4E hr
 unfold z5r typR
 rw[q4K (c:=false) (q:=fun q:Eqn=>decide (typE g r q.Expr=(z1O g r q.At).1.Type_)) fun k x hx=>by
  unfold j2i
  rw[j8J h hl,bsS,z3v hl,bsS,j8H h,bsS]
  have e:(z3l (q6Z g (q5Y r x.At.Pos)).1 x.At.Name).1.Type_=(z1O g r x.At).1.Type_:=by unfold z1O;rw[ifP (hp x hx)]
  rw[e]
  by_cases hp:typE g r x.Expr=(z1O g r x.At).1.Type_
  ·rw[ifP hp,ifP (by simpa using hp)]
  ·rw[ifN hp,ifN (by simpa using hp)]]
 rw[q4K (c:=false) (q:=conT g r) fun k x hx=>by
  unfold j2j conT
  rw[z3m h,bsS]
  try dsimp only
  rw[j2Y,bsS]
  try dsimp only
  have e:(if (z3l (q6Z g x.Symbol).1 x.Name).2=true then some (!decide ((z3l (q6Z g x.Symbol).1 x.Name).1.Mode=3)) else some true)=some (!decide ((z3l (q6Z g x.Symbol).1 x.Name).1.Mode=3)):=by
   by_cases hb:(z3l (q6Z g x.Symbol).1 x.Name).2=true
   ·rw[ifP hb]
   ·rw[ifN hb,j7m hb];rfl
  rw[e,bsS]
  cases decide ((z3l (q6Z g x.Symbol).1 x.Name).1.Mode=3) with
  | false=>rw[Bool.and_false];rfl
  | true=>
   rw[Bool.not_true,ifN (by simp),j8J h hl,bsS,bsS]
   cases decide (typE g r x.Target=4) with
   | false=>rfl
   | true=>
    rw[Bool.not_true,ifN (by simp),j8J h hl,bsS,bsS]
    cases decide (typE g r x.Value=2)<;>rfl]
 cases r.Equations.all fun q=>decide (typE g r q.Expr=(z1O g r q.At).1.Type_) with
 | false=>rfl
 | true=>cases r.Contributions.all (conT g r)<;>rfl
def atS (g:Gm_)(n:ByteArray):Option Nat:=g.Symbols.findIdx? fun y=>decide (y.Name=n)
def atI (g:Gm_)(n:ByteArray):Int:=match atS g n with
 | some j=>(j:Int)
 | none=>-1
theorem z9G {α ρ:Type}{q:α→Bool}{c:Nat→ρ}:∀ {xs:List α} {i:Nat} {f:Nat→α→Unit→Option (Unit ⊕ ρ)},(∀ j x,xs[j]?=some x→f (i+j) x ()=some (if q x=true then .inr (c (i+j)) else .inl ())) →
  findL f i xs ()=some (match xs.findIdx? q with|some j=>.inr (c (i+j))|none=>.inl ())
 | [],_,_,_=>rfl
 | x::xs,i,f,h=>by
  rw[findL,show f i x ()=_ from h 0 x rfl,bsS,List.findIdx?_cons]
  by_cases hq:q x=true
  ·rw[ifP hq,ifP hq]
  ·rw[ifN hq,ifN hq]
   have ih:=z9G (q:=q) (c:=c) (xs:=xs) (i:=i+1) (f:=f) fun j y hy=>by
    have:=h (j+1) y (by simpa using hy)
    rw[show i+1+j=i+(j+1) by omega];exact this
   dsimp only
   rw[ih]
   cases xs.findIdx? q with
   | none=>rfl
   | some j=>simp only[Option.map_some];rw[show i+1+j=i+(j+1) by omega]
theorem k2X (g:Gm_)(n:ByteArray):z0a g n=some (atI g n):=by
 unfold z0a atI atS
 rw[z9G (q:=fun y:Symbol=>decide (y.Name=n)) (c:=fun k=>(k:Int)) fun j x hx=>by
  unfold z5s
  by_cases hn:x.Name=n
  ·rw[ifP hn,ifP (by simpa using hn)]
  ·rw[ifN hn,ifN (by simpa using hn)]]
 cases g.Symbols.findIdx? fun y=>decide (y.Name=n) with
 | none=>rfl
 | some j=>dsimp only;rw[Nat.zero_add];rfl
theorem k7T {g:Gm_}{n:ByteArray}{j:Nat}(h:atS g n=some j):j<g.Symbols.length:=by
 unfold atS at h
 rw[List.findIdx?_eq_some_iff_getElem] at h
 exact h.1
def okAt (g:Gm_)(hs:List Int)(n:ByteArray):Bool:=match atS g n with
 | some j=>decide (0<hs.getD j 0)
 | none=>false
def j4u (g:Gm_)(hs:List Int)(n:ByteArray):Bool:=g.Rules.any fun r=>decide (r.Left=n)&&r.Right.all (okAt g hs)
theorem j3e {α:Type}{q:α→Bool}{f:Nat→α→Bool→Option Bool}:∀ (xs:List α) (i:Nat) (b:Bool),(∀ k x s,x∈xs→f k x s=some (s&&q x))→eachL f i xs b=some (b&&xs.all q)
 | [],_,b,_=>by simp[eachL]
 | x::xs,i,b,h=>by
  rw[eachL,h i x b (by simp),bsS,j3e xs (i+1) _ fun k y s hy=>h k y s (by simp[hy]),List.all_cons,Bool.and_assoc]
theorem getD_some {hs:List Int}{j:Nat}(h:j<hs.length):hs[j]?=some (hs.getD j 0):=by
 rw[List.getD_eq_getElem?_getD,List.getElem?_eq_getElem h];rfl
theorem k7U {g:Gm_}{hs:List Int}(hl:hs.length=g.Symbols.length)(n:ByteArray):z2Y n g hs=some (match atS g n with|some j=>hs.getD j 0|none=>0):=by
 unfold z2Y atS
 rw[z9G (q:=fun y:Symbol=>decide (y.Name=n)) (c:=fun k=>hs.getD k 0) fun j x hx=>by
  unfold z9k
  have hj:j<g.Symbols.length:=(List.getElem?_eq_some_iff.1 hx).1
  by_cases hn:x.Name=n
  ·rw[ifP hn,ifP (by simpa using hn),Nat.zero_add,getD_some (by omega)];rfl
  ·rw[ifN hn,ifN (by simpa using hn)]]
 cases g.Symbols.findIdx? fun y=>decide (y.Name=n) with
 | none=>rfl
 | some j=>dsimp only;rw[Nat.zero_add];rfl
theorem k1k {g:Gm_}{hs:List Int}(hl:hs.length=g.Symbols.length)(xs:List ByteArray)(b:Bool):eachL (z8w g hs) 0 xs b=some (b&&xs.all (okAt g hs)):=
 j3e xs 0 b fun k x s _=>by
  unfold z8w okAt
  cases s with
  | false=>rfl
  | true=>
   rw[ifP rfl,k7U hl,bsS,bsS,Bool.true_and]
   cases atS g x<;>rfl
theorem k1l {g:Gm_}{hs:List Int}(hl:hs.length=g.Symbols.length)(xs:List ByteArray)(b:Bool):eachL (z5d g hs) 0 xs b=some (b&&xs.all (okAt g hs)):=
 j3e xs 0 b fun k x s _=>by
  unfold z5d okAt
  rw[k2X,bsS]
  unfold atI
  cases s with
  | false=>rfl
  | true=>
   cases hj:atS g x with
   | none=>rfl
   | some j=>
    have:=k7T hj
    dsimp only
    rw[ifP rfl,bsS,decide_eq_true (Int.natCast_nonneg j),ifP rfl]
    unfold z2A
    by_cases h0:(0:Int)<(j:Int)
    ·rw[ifP h0,bsS,q3E (Int.natCast_nonneg j),tnC,getD_some (by omega)];rfl
    ·obtain rfl:j=0:=by omega
     rw[ifN h0,bsS,q3E (by omega),show (0:Int).toNat=0 from rfl,getD_some (by omega)];rfl
theorem k2Y {g:Gm_}{hs:List Int}(hl:hs.length=g.Symbols.length)(n:ByteArray):z1t g n hs=some (j4u g hs n):=by
 unfold z1t j4u
 rw[q4K (c:=true) (q:=fun r:Rule=>!(decide (r.Left=n)&&r.Right.all (okAt g hs))) fun k x hx=>by
  unfold z8n
  rw[k1l hl,bsS]
  cases (decide (x.Left=n)&&x.Right.all (okAt g hs))<;>rfl]
 have e:(g.Rules.all fun r=>!(decide (r.Left=n)&&r.Right.all (okAt g hs)))=!(g.Rules.any fun r=>decide (r.Left=n)&&r.Right.all (okAt g hs)):=by rw[List.not_any_eq_all_not]
 rw[e]
 cases g.Rules.any fun r=>decide (r.Left=n)&&r.Right.all (okAt g hs)<;>rfl
def HsOk (g:Gm_)(hs:List Int):Prop:=hs.length=g.Symbols.length∧∀ j,0≤hs.getD j 0
theorem HsOk.set {g:Gm_}{hs:List Int}(h:HsOk g hs){k:Nat}{v:Int}(hv:0≤v):HsOk g (hs.set k v):=by
 refine⟨by simpa using h.1,fun j=>?_⟩
 rw[List.getD_eq_getElem?_getD,List.getElem?_set]
 split
 ·split
  ·exact hv
  ·simp
 ·rw[← List.getD_eq_getElem?_getD];exact h.2 j
theorem k2Z {g:Gm_}{hs:List Int}(hl:hs.length=g.Symbols.length){v:Int}(k:Nat)(x:Symbol)(hk:k<g.Symbols.length):∀ (rs:List Rule) (i:Nat) (s:List Int),s.length=g.Symbols.length →
  eachL (z6j g v hs k x) i rs s=some (if (rs.any fun r=>decide (r.Left=x.Name)&&r.Right.all (okAt g hs))=true then s.set k v else s)
 | [],i,s,_=>by simp[eachL]
 | r::rs,i,s,hs'=>by
  have e:z6j g v hs k x i r s=some (if (decide (r.Left=x.Name)&&r.Right.all (okAt g hs))=true then s.set k v else s):=by
   unfold z6j
   rw[k1k hl,bsS]
   cases (decide (r.Left=x.Name)&&r.Right.all (okAt g hs)) with
   | false=>rfl
   | true=>rw[ifP rfl,ifP rfl,List.getElem?_eq_getElem (by omega)];rfl
  rw[eachL,e,bsS]
  by_cases hb:(decide (r.Left=x.Name)&&r.Right.all (okAt g hs))=true
  ·rw[ifP hb,k2Z hl k x hk rs (i+1) (s.set k v) (by simpa using hs')]
   have:(r::rs).any (fun r=>decide (r.Left=x.Name)&&r.Right.all (okAt g hs))=true:=by rw[List.any_cons,hb];rfl
   rw[ifP this,List.set_set,ite_self]
  ·rw[ifN hb,k2Z hl k x hk rs (i+1) s hs']
   have:(r::rs).any (fun r=>decide (r.Left=x.Name)&&r.Right.all (okAt g hs))=rs.any (fun r=>decide (r.Left=x.Name)&&r.Right.all (okAt g hs)):=by rw[List.any_cons,Bool.eq_false_iff.2 hb];rfl
   rw[this]
theorem k8x {g:Gm_}{hs:List Int}(h:HsOk g hs){v:Int}{k:Nat}{x:Symbol}(hk:k<g.Symbols.length){s:List Int}(hs' : s.length=g.Symbols.length) :
  z6k g v hs k x s=some (if (decide (hs.getD k 0=0)&&j4u g hs x.Name)=true then s.set k v else s):=by
 have h0:=h.2 k
 unfold z6k
 rw[getD_some (by rw[h.1];exact hk),bsS]
 by_cases hz:hs.getD k 0=0
 ·rw[ifN (by omega),decide_eq_true hz,k2Z h.1 k x hk _ _ _ hs'];rfl
 ·rw[ifP (by omega),decide_eq_false hz];rfl
theorem k8y {g:Gm_}{hs:List Int}(h:HsOk g hs){v:Int}{k:Nat}{x:Symbol}(hk:k<g.Symbols.length){s:List Int}(hs' : s.length=g.Symbols.length) :
  z2E g hs v k x s=some (if (decide (hs.getD k 0=0)&&j4u g hs x.Name)=true then s.set k v else s):=by
 unfold z2E
 rw[getD_some (by rw[h.1];exact hk),bsS]
 by_cases hz:hs.getD k 0=0
 ·rw[ifP hz,decide_eq_true hz,k2Y h.1,bsS,Bool.true_and]
  cases j4u g hs x.Name with
  | false=>rfl
  | true=>rw[ifP rfl,ifP rfl,List.getElem?_eq_getElem (by omega)];rfl
 ·rw[ifN hz,decide_eq_false hz];rfl
theorem j4v {g:Gm_}{hs:List Int}(h:HsOk g hs){v:Int}(hv:0≤v):∀ (xs:List Symbol) (i:Nat) (s:List Int),i+xs.length=g.Symbols.length→HsOk g s →
  ∃ t,eachL (z6k g v hs) i xs s=some t∧eachL (z2E g hs v) i xs s=some t∧HsOk g t
 | [],i,s,_,hs'=>⟨s,rfl,rfl,hs'⟩
 | x::xs,i,s,hi,hs'=>by
  simp only[lnC] at hi
  have e1:=k8x (x:=x) h (v:=v) (k:=i) (by omega) hs'.1
  have e2:=k8y (x:=x) h (v:=v) (k:=i) (by omega) hs'.1
  have hn:HsOk g (if (decide (hs.getD i 0=0)&&j4u g hs x.Name)=true then s.set i v else s):=by
   split
   ·exact hs'.set hv
   ·exact hs'
  obtain⟨t,h1,h2,h3⟩:=j4v h hv xs (i+1) _ (by omega) hn
  exact⟨t,by rw[eachL,e1,bsS,h1],by rw[eachL,e2,bsS,h2],h3⟩
theorem j0P {g:Gm_}(hn:g.Symbols.length≤1048576):∃ l,z3R g=some l∧z1u g=some l∧HsOk g l:=by
 have key:∀ (m k:Nat) (hs:List Int),k+m=g.Symbols.length+1→1≤k→HsOk g hs→∃ t,q4o (z2g g) ((k:Int),hs)=some t∧q4o (q9w g) (hs,(k:Int))=some t∧HsOk g t:=by
  intro m
  induction m with
  | zero=>
   intro k hs hk _ h
   refine⟨hs,q3F ?_,q3F ?_,h⟩
   ·unfold z2g;dsimp only;rw[ifN (by omega)]
   ·unfold q9w;dsimp only;rw[ifN (by omega)]
  | succ m ih=>
   intro k hs hk h1 h
   have hl:=h.1
   obtain⟨t,e1,e2,e3⟩:=j4v h (v:=(k:Int)) (by omega) g.Symbols 0 hs (by omega) h
   obtain⟨q,f1,f2,f3⟩:=ih (k+1) t (by omega) (by omega) e3
   refine⟨q,?_,?_,f3⟩
   ·have e:z2g g ((k:Int),hs)=some (.inl (((k+1:Nat):Int),t)):=by
     unfold z2g;dsimp only
     rw[ifP (by omega),q3E (by refine⟨?_,?_,?_⟩<;>omega),q3E (by simp),e1,bsS,q3E (by constructor<;>omega)];rfl
    rw[q3L e];exact f1
   ·have e:q9w g (hs,(k:Int))=some (.inl (t,((k+1:Nat):Int))):=by
     unfold q9w;dsimp only
     rw[ifP (by omega),q3E (by simp only[List.length_nil];constructor<;>omega),e2,bsS,q3E (by constructor<;>omega)];rfl
    rw[q3L e];exact f2
 have h0:HsOk g (List.replicate g.Symbols.length (0:Int)):=⟨by simp,fun j=>by rw[List.getD_eq_getElem?_getD,List.getElem?_replicate];split<;>simp⟩
 obtain⟨t,f1,f2,f3⟩:=key g.Symbols.length 1 (List.replicate g.Symbols.length 0) (by omega) (by omega) h0
 refine⟨t,?_,?_,f3⟩
 ·unfold z3R
  rw[q3E (by refine⟨?_,?_,?_⟩<;>omega),show q4o (z2g g) (1,List.replicate g.Symbols.length 0)=some t from f1];rfl
 ·unfold z1u
  rw[q3E (by refine⟨?_,?_,?_⟩<;>omega),show q4o (q9w g) (List.replicate g.Symbols.length 0,1)=some t from f2];rfl
theorem Shape.names {g:Gm_}(h:Shape g){k j:Nat}{x y:Symbol}(hk:g.Symbols[k]?=some x)(hj:g.Symbols[j]?=some y)(hn:x.Name=y.Name):k=j:=by
 have key:∀ {k j:Nat} {x y:Symbol},g.Symbols[k]?=some x→g.Symbols[j]?=some y→x.Name=y.Name→¬ k<j:=by
  intro k j x y hk hj hn hlt
  have:=z5T _ _ h.sym j y hj
  unfold z5S at this
  rw[Bool.or_eq_false_iff] at this
  have h2:=this.2
  unfold dupB at h2
  rw[List.nil_append,List.any_eq_false] at h2
  exact h2 x (List.mem_of_getElem? (i:=k) (by rw[List.getElem?_take,ifP hlt];exact hk)) (by simpa using hn)
 have h1:=key hk hj hn
 have h2:=key hj hk hn.symm
 omega
theorem Shape.at_ {g:Gm_}(h:Shape g){k:Nat}{x:Symbol}(hk:g.Symbols[k]?=some x):atS g x.Name=some k:=by
 unfold atS
 cases he:g.Symbols.findIdx? fun y=>decide (y.Name=x.Name) with
 | none=>
  rw[List.findIdx?_eq_none_iff] at he
  have:=he x (List.mem_of_getElem? hk)
  simp at this
 | some j=>
  rw[List.findIdx?_eq_some_iff_getElem] at he
  obtain⟨hj,h1,_⟩:=he
  rw[h.names (List.getElem?_eq_getElem hj) hk (by simpa using h1)]
noncomputable def hgtL (g:Gm_):List Int:=(z3R g).getD []
noncomputable def j8K (g:Gm_):Int×Int:=
 if (z6M g).1=0 then
  match g.Rules.findIdx? fun r=>!typR g r with
  | some k=>(7,(k:Int))
  | none=>match (hgtL g).findIdx? fun x=>decide (x=0) with
   | some k=>(8,(k:Int))
   | none=>(0,0)
 else z6M g
theorem k4T {g:Gm_}(h:Sz.szd g≤1048576):q9U g=some (j8K g):=by
 unfold q9U j8K
 rw[k2U h,bsS]
 dsimp only
 by_cases h0:(z6M g).1=0
 ·rw[ifP h0,ifP h0]
  rw[z7I (q:=fun r=>!typR g r) (c:=fun k=>((7:Int),(k:Int))) fun k r hr=>by
   unfold z6D
   rw[k4R g (Nat.le_trans (z0s hr) h),bsS,← apply_ite some]]
  cases g.Rules.findIdx? fun r=>!typR g r with
  | some k=>dsimp only;rw[Nat.zero_add];rfl
  | none=>
   obtain⟨l,e1,e2,e3⟩:=j0P (g:=g) (j8D h).1
   rw[bsS,z3W,e1,bsS]
   unfold hgtL
   rw[e1,Option.getD_some]
   rw[z7I (q:=fun x:Int=>decide (x=0)) (c:=fun k=>((8:Int),(k:Int))) fun k x hx=>by
    unfold z6E
    by_cases hz:x=0
    ·rw[ifP hz,ifP (by simpa using hz)]
    ·rw[ifN hz,ifN (by simpa using hz)]]
   dsimp only
   cases l.findIdx? fun x=>decide (x=0) with
   | some k=>dsimp only;rw[Nat.zero_add];rfl
   | none=>rfl
 ·rw[ifN h0,ifN h0]
theorem k4U {g:Gm_}(h:Sz.szd g≤1048576):q9R g=some (j8K g):=by
 unfold q9R j8K
 rw[k2V h,bsS]
 dsimp only
 by_cases h0:(z6M g).1=0
 ·have hS:=j9M h0
  rw[ifP h0,ifP h0]
  rw[z7I (q:=fun r=>!typR g r) (c:=fun k=>((7:Int),(k:Int))) fun k r hr=>by
   unfold z6C
   rw[k4S (q7z h) (Nat.le_trans (z0s hr) h) fun q hq=>hS.pos hr hq,bsS]
   cases typR g r<;>rfl]
  cases g.Rules.findIdx? fun r=>!typR g r with
  | some k=>dsimp only;rw[Nat.zero_add];rfl
  | none=>
   obtain⟨l,e1,e2,e3⟩:=j0P (g:=g) (j8D h).1
   rw[bsS,z3W]
   unfold hgtL
   rw[e1,Option.getD_some]
   have hprod:∀ k x,g.Symbols[k]?=some x→q9Q g x.Name=some (!decide (l.getD k 0=0)):=by
    intro k x hk
    have hk' : k<g.Symbols.length:=(List.getElem?_eq_some_iff.1 hk).1
    have ha:atI g x.Name=(k:Int):=by unfold atI;rw[hS.at_ hk]
    unfold q9Q z4O
    rw[k2X,ha,bsS,ifN (by omega),e2,bsS,q3E (by omega),tnC,getD_some (by rw[e3.1];exact hk'),bsS,bsS]
    have:=e3.2 k
    congr 1
    by_cases hz:l.getD k 0=0
    ·rw[decide_eq_true hz,decide_eq_false (by omega)];rfl
    ·rw[decide_eq_false hz,decide_eq_true (by omega)];rfl
   have hrun:∀ (xs:List Symbol) (ys:List Int) (i:Nat),(∀ j x,xs[j]?=some x→g.Symbols[i+j]?=some x)→ys.length=xs.length→(∀ j y,ys[j]?=some y→l.getD (i+j) 0=y) →
     findL (z0F g) i xs ()=some (match ys.findIdx? fun x=>decide (x=0) with|some j=>.inr (8,((i+j:Nat):Int))|none=>.inl ()):=by
    intro xs
    induction xs with
    | nil=>
     intro ys i _ hl _
     obtain rfl:=List.eq_nil_of_length_eq_zero hl
     rfl
    | cons x xs ih=>
     intro ys i hx hl hy
     cases ys with
     | nil=>simp at hl
     | cons y ys=>
      have h1:=hprod i x (by simpa using hx 0 x rfl)
      have h2:l.getD i 0=y:=by simpa using hy 0 y rfl
      have ih:=ih ys (i+1) (fun j z hz=>by rw[show i+1+j=i+(j+1) by omega];exact hx (j+1) z (by simpa using hz)) (by simpa using hl) fun j z hz=>by
       rw[show i+1+j=i+(j+1) by omega];exact hy (j+1) z (by simpa using hz)
      rw[h2] at h1
      have e:z0F g i x ()=some (if y=0 then .inr (8,(i:Int)) else .inl ()):=by
       unfold z0F
       rw[h1,bsS]
       by_cases hz:y=0
       ·rw[decide_eq_true hz,ifP hz];rfl
       ·rw[decide_eq_false hz,ifN hz];rfl
      rw[findL,e,bsS,List.findIdx?_cons]
      by_cases hz:y=0
      ·rw[ifP hz,ifP (by simpa using hz)];rfl
      ·rw[ifN hz,ifN (by simpa using hz)]
       dsimp only
       rw[ih]
       cases ys.findIdx? fun x=>decide (x=0) with
       | none=>rfl
       | some j=>simp only[Option.map_some];rw[show i+1+j=i+(j+1) by omega]
   rw[hrun g.Symbols l 0 (fun j x hx=>by rw[Nat.zero_add];exact hx) e3.1 fun j y hy=>by rw[Nat.zero_add,List.getD_eq_getElem?_getD,hy];rfl]
   dsimp only
   cases l.findIdx? fun x=>decide (x=0) with
   | some k=>dsimp only;rw[Nat.zero_add];rfl
   | none=>rfl
 ·rw[ifN h0,ifN h0]
noncomputable def z8J (g:Gm_):Bool:=decide ((j8K g).1=0)
theorem k4V {g:Gm_}(h:Sz.szd g≤1048576):z4r g=some (z8J g):=by
 unfold z4r;rw[k4T h];rfl
theorem k4W {g:Gm_}(h:Sz.szd g≤1048576):z5t g=some (z8J g):=by
 unfold z5t;rw[k4U h];rfl
theorem z8c {g:Gm_}(h:z8J g=true):Shape g:=by
 refine j9M ?_
 unfold z8J at h
 rw[decide_eq_true_eq] at h
 unfold j8K at h
 by_cases h0:(z6M g).1=0
 ·exact h0
 ·rw[ifN h0] at h;exact h
def farB (e:Expr):Bool:=!allE (fun x=>!decide (x.Kind=8)) e
theorem k4X (e:Expr):∀ m,fuE e≤m→z2R m e=some (farB e):=by
 induction e using z1M with
 | h e ih=>
  intro m hm
  obtain⟨m,rfl⟩:∃ q,m=q+1:=⟨m-1,by have:=z6K e;omega⟩
  show z2Q (z2R m) e=_
  unfold z2Q
  rw[q4K (c:=true) (q:=fun x=>!farB x) fun k x hx=>by
   unfold z8Z
   rw[ih x hx m (by have:=z6L hx;omega),bsS]
   cases farB x<;>rfl]
  have e1:farB e=!(!decide (e.Kind=8)&&e.Args.all fun x=>!farB x):=by
   unfold farB
   rw[j0b]
   congr 2
   congr 1;funext x;rw[Bool.not_not]
  rw[e1,bsS]
  cases e.Args.all fun x=>!farB x with
  | true=>rw[ifP rfl,z3W,Bool.and_true,Bool.not_not]
  | false=>rw[ifN (by simp),j1J,Bool.and_false];rfl
theorem k6V (e:Expr):z7d e=some (farB e):=z0L (fuE e) fun m hm=>k4X e m hm
theorem k4Y (e:Expr):∀ m,fuE e≤m→q5X m e=some (!farB e):=by
 induction e using z1M with
 | h e ih=>
  intro m hm
  obtain⟨m,rfl⟩:∃ q,m=q+1:=⟨m-1,by have:=z6K e;omega⟩
  show q5W (q5X m) e=_
  unfold q5W q3Y q4c z2L
  have e1:(!farB e)=(!decide (e.Kind=8)&&e.Args.all fun x=>!farB x):=by
   unfold farB
   rw[j0b,Bool.not_not]
   congr 1
   congr 1;funext x;rw[Bool.not_not]
  rw[bsS,e1]
  cases decide (e.Kind=8) with
  | true=>rfl
  | false=>
   rw[Bool.not_false,ifP rfl,q5a (q:=fun x=>farB x) fun k x hx=>by
    unfold q5O q6t
    rw[ih x hx m (by have:=z6L hx;omega),bsS,bsS]
    cases farB x<;>rfl]
   rw[Bool.true_and,bsS,List.not_any_eq_all_not]
theorem k6W (e:Expr):z2Z e=some (farB e):=by
 unfold z2Z
 rw[show q8t e=some (!farB e) from z0L (fuE e) fun m hm=>k4Y e m hm,bsS,Bool.not_not]
def farR (r:Rule):Bool:=r.Equations.any fun q=>farB q.Expr
theorem k4Z (r:Rule):z2S r=some (farR r):=by
 unfold z2S farR
 rw[q4K (c:=true) (q:=fun q:Eqn=>!farB q.Expr) fun k x hx=>by
  unfold z9a
  rw[k6V,bsS]
  cases farB x.Expr<;>rfl]
 have e:(r.Equations.all fun q=>!farB q.Expr)=!(r.Equations.any fun q=>farB q.Expr):=by rw[List.not_any_eq_all_not]
 rw[e]
 cases r.Equations.any fun q=>farB q.Expr<;>rfl
theorem k5a {g:Gm_}(h:Sz.szd g≤1048576):z3a g=some (g.Rules.any fun r=>(z4X r).any farB):=by
 unfold z3a q4V q5j
 rw[q5a (q:=fun r=>(z4X r).any farB) fun k r hr=>by
  unfold q7r z2M
  rw[j9L (Nat.le_trans (z0s hr) h),bsS]
  unfold q5e q5r
  rw[q5a (q:=farB) fun k e he=>by
   unfold q7W
   rw[k6W,bsS,← apply_ite some]]
  rw[bsS,bsS,← apply_ite some]]
 rfl
def colG (g:Gm_):Bool:=g.Symbols.any fun y=>y.Attributes.any fun a=>decide (a.Mode=3)
theorem k3a (g:Gm_):q5B g=some (colG g):=by
 unfold q5B q3N q3S colG
 rw[q5a (q:=fun y:Symbol=>y.Attributes.any fun a=>decide (a.Mode=3)) fun k y hy=>by
  unfold q5n q5V q4t q4G
  rw[q5a (q:=fun a:At_=>decide (a.Mode=3)) fun k a ha=>by
   unfold q6C z2N
   rw[bsS,← apply_ite some]]
  rw[bsS,bsS,← apply_ite some]]
 rfl
theorem k1m {g:Gm_}(h:z8J g=true):∀ r∈g.Rules,typR g r=true:=by
 intro r hr
 unfold z8J at h
 rw[decide_eq_true_eq] at h
 unfold j8K at h
 by_cases h0:(z6M g).1=0
 ·rw[ifP h0] at h
  cases e:g.Rules.findIdx? fun r=>!typR g r with
  | some k=>rw[e] at h;simp at h
  | none=>
   rw[List.findIdx?_eq_none_iff] at e
   have:=e r hr
   simpa using this
 ·rw[ifN h0] at h;exact absurd h h0
theorem k5b {g:Gm_}(h:z8J g=true)(hc:colG g=false){r:Rule}(hr:r∈g.Rules):r.Contributions=[]:=by
 have ht:=k1m h r hr
 unfold typR at ht
 rw[Bool.and_eq_true,List.all_eq_true,List.all_eq_true] at ht
 cases hq:r.Contributions with
 | nil=>rfl
 | cons q qs=>
  have h1:=ht.2 q (by rw[hq];simp)
  unfold conT at h1
  simp only[Bool.and_eq_true,decide_eq_true_eq] at h1
  have h3:=h1.2
  unfold z3l at h3
  cases ha:(q6Z g q.Symbol).1.Attributes.find? fun a=>decide (a.Name=q.Name) with
  | none=>rw[ha] at h3;exact absurd h3 (by simp[zA])
  | some a=>
   rw[ha] at h3
   have hm:=List.mem_of_find?_eq_some ha
   unfold q6Z at hm
   cases hs:g.Symbols.find? fun y=>decide (y.Name=q.Symbol) with
   | none=>rw[hs] at hm;simp[zS] at hm
   | some y=>
    rw[hs] at hm
    unfold colG at hc
    rw[List.any_eq_false] at hc
    exact absurd (List.any_eq_true.2 ⟨a,hm,by simpa using h3⟩) (hc y (List.mem_of_find?_eq_some hs))
theorem j7n {n:Nat}{h:Nat→Int→Int}{f:Nat→List Int→Option (List Int)}(hf:∀ k s,k<n→s.length=n→f k s=some (s.set k (h k (s.getD k 0)))) :
  ∀ (m k:Nat) (s:List Int),k+m=n→s.length=n→eachN f k m s=some (s.mapIdx fun j x=>if k≤j then h j x else x)
 | 0,k,s,hk,hs=>by
  show some s=_
  congr 1
  symm
  apply List.ext_getElem?
  intro j
  rw[List.getElem?_mapIdx]
  cases hj:s[j]? with
  | none=>rfl
  | some x=>
   have:=(List.getElem?_eq_some_iff.1 hj).1
   rw[Option.map_some,ifN (by omega)]
 | m+1,k,s,hk,hs=>by
  rw[eachN,hf k s (by omega) hs,bsS,j7n hf m (k+1) _ (by omega) (by simpa using hs)]
  congr 1
  apply List.ext_getElem?
  intro j
  rw[List.getElem?_mapIdx,List.getElem?_mapIdx,List.getElem?_set]
  by_cases hj:k=j
  ·subst hj
   have hk' : k<s.length:=by omega
   rw[ifP rfl,ifP hk',List.getElem?_eq_getElem hk',List.getD_eq_getElem?_getD,List.getElem?_eq_getElem hk',Option.map_some,Option.map_some,ifN (by omega),ifP (Nat.le_refl _)]
   rfl
  ·rw[ifN hj]
   cases hx:s[j]? with
   | none=>rfl
   | some x=>
    rw[Option.map_some,Option.map_some]
    by_cases h1:k+1≤j
    ·rw[ifP h1,ifP (by omega)]
    ·rw[ifN h1,ifN (by omega)]
def uniR (a b:Rl_):Rl_:=if Valid a∧Valid b∧a.N=b.N then ⟨a.N,a.Rows.mapIdx fun j x=>orI x (b.Rows.getD j 0)⟩ else a
theorem k1n {b:Rl_}(h:Valid b)(k:Nat):0≤b.Rows.getD k 0:=by
 rw[List.getD_eq_getElem?_getD]
 cases hx:b.Rows[k]? with
 | none=>simp
 | some x=>exact (h.2.2.2 x (List.mem_of_getElem? hx)).1
theorem j9O {a b:Rl_}(ha:Valid a)(hb:Valid b)(hN:a.N=b.N){f:Nat→List Int→Option (List Int)}(hf:f=q7I b):eachN f 0 a.Rows.length a.Rows=some (a.Rows.mapIdx fun j x=>orI x (b.Rows.getD j 0)):=by
 subst hf
 have hl:a.Rows.length=b.Rows.length:=by have:=ha.2.2.1;have:=hb.2.2.1;omega
 -- all rows stay at least 0
 have key:∀ (m k:Nat) (s:List Int),k+m=a.Rows.length→s.length=a.Rows.length→(∀ x∈s,0≤x)→eachN (q7I b) k m s=eachN (fun k s=>some (s.set k (orI (s.getD k 0) (b.Rows.getD k 0)))) k m s:=by
  intro m
  induction m with
  | zero=>intro k s _ _ _;rfl
  | succ m ih=>
   intro k s hk hs h0
   have e:q7I b k s=some (s.set k (orI (s.getD k 0) (b.Rows.getD k 0))):=by
    have hx:0≤s.getD k 0:=by
     rw[List.getD_eq_getElem?_getD,List.getElem?_eq_getElem (by omega:k<s.length)]
     exact h0 _ (List.getElem_mem _)
    unfold q7I
    rw[getD_some (by omega),bsS,getD_some (by omega),bsS]
    exact q3E ⟨hx,k1n hb k⟩
   rw[eachN,eachN,e,bsS,bsS]
   refine ih (k+1) _ (by omega) (by simpa using hs) fun x hx=>?_
   rcases List.mem_or_eq_of_mem_set hx with h|rfl
   ·exact h0 x h
   ·unfold orI;omega
 rw[key _ 0 a.Rows (by omega) rfl (fun x hx=>(ha.2.2.2 x hx).1),j7n (h:=fun k x=>orI x (b.Rows.getD k 0)) (n:=a.Rows.length) (fun k s _ _=>rfl) _ 0 a.Rows (by omega) rfl]
 simp
theorem k6X {a:Rl_}(h:a.Rows.length≤1048576)(b:Rl_):q9m a b=some (uniR a b):=by
 unfold q9m uniR
 rw[z5P h,bsS,q6O,bsS]
 by_cases ha:Valid a
 ·rw[decide_eq_true ha,ifP rfl,q6O,bsS,bsS]
  by_cases hb:Valid b
  ·rw[decide_eq_true hb,Bool.not_true,ifN (by simp),bsS]
   by_cases hN:a.N=b.N
   ·rw[decide_eq_true hN,Bool.not_true,ifN (by simp),ifP ⟨ha,hb,hN⟩,show a.N.toNat=a.Rows.length by have:=ha.2.2.1;omega,j9O ha hb hN rfl];rfl
   ·rw[decide_eq_false hN,Bool.not_false,ifP rfl,ifN fun hh=>hN hh.2.2]
  ·have hz:(if Valid a∧Valid b∧a.N=b.N then (⟨a.N,a.Rows.mapIdx fun j x=>orI x (b.Rows.getD j 0)⟩:Rl_) else a)=a:=ifN fun hh=>hb hh.2.1
   rw[hz,decide_eq_false hb];rfl
 ·have hz:(if Valid a∧Valid b∧a.N=b.N then (⟨a.N,a.Rows.mapIdx fun j x=>orI x (b.Rows.getD j 0)⟩:Rl_) else a)=a:=ifN fun hh=>ha hh.1
  rw[hz,decide_eq_false ha];rfl
theorem k3b (b:Rl_):z5L b=q7I b:=rfl
theorem k6Y {a:Rl_}(h:a.Rows.length≤1048576)(b:Rl_):z3u a b=some (uniR a b):=by
 unfold z3u uniR
 rw[j2R,z5P h,bsS,z0X,bsS]
 by_cases ha:Valid a
 ·rw[decide_eq_true ha,ifP rfl,z0X,bsS,bsS]
  by_cases hb:Valid b
  ·rw[decide_eq_true hb,ifP rfl,bsS]
   by_cases hN:a.N=b.N
   ·rw[ifP (by simpa using hN),ifP ⟨ha,hb,hN⟩,k3b,j9O ha hb hN rfl];rfl
   ·rw[ifN (by simpa using hN),ifN fun hh=>hN hh.2.2]
  ·have hz:(if Valid a∧Valid b∧a.N=b.N then (⟨a.N,a.Rows.mapIdx fun j x=>orI x (b.Rows.getD j 0)⟩:Rl_) else a)=a:=ifN fun hh=>hb hh.2.1
   rw[hz,decide_eq_false hb];rfl
 ·have hz:(if Valid a∧Valid b∧a.N=b.N then (⟨a.N,a.Rows.mapIdx fun j x=>orI x (b.Rows.getD j 0)⟩:Rl_) else a)=a:=ifN fun hh=>ha hh.1
  rw[hz,decide_eq_false ha];rfl
theorem k5P {n:Nat}{x y:Int}(hx:0≤x∧x≤((2 ^ n:Nat):Int)-1)(hy:0≤y∧y≤((2 ^ n:Nat):Int)-1):0≤orI x y∧orI x y≤((2 ^ n:Nat):Int)-1:=by
 have:=Nat.or_lt_two_pow (n:=n) (x:=x.toNat) (y:=y.toNat) (by omega) (by omega)
 unfold orI;omega
theorem k3c {a b:Rl_}(ha:Valid a):Valid (uniR a b)∧(uniR a b).N=a.N:=by
 unfold uniR
 by_cases h:Valid a∧Valid b∧a.N=b.N
 ·rw[ifP h]
  refine⟨⟨ha.1,ha.2.1,by simpa using ha.2.2.1,fun x hx=>?_⟩,rfl⟩
  obtain⟨j,hj⟩:=List.getElem?_of_mem hx
  rw[List.getElem?_mapIdx] at hj
  cases hy:a.Rows[j]? with
  | none=>rw[hy] at hj;cases hj
  | some y=>
   rw[hy] at hj
   cases hj
   have hyv:=ha.2.2.2 y (List.mem_of_getElem? hy)
   refine k5P hyv ?_
   rw[List.getD_eq_getElem?_getD]
   cases hz:b.Rows[j]? with
   | none=>
    have:=Nat.one_le_two_pow (n:=a.N.toNat)
    show (0:Int)≤0∧(0:Int)≤((2 ^ a.N.toNat:Nat):Int)-1
    constructor<;>omega
   | some z=>have:=h.2.1.2.2.2 z (List.mem_of_getElem? hz);rw[← h.2.2] at this;exact this
 ·rw[ifN h];exact⟨ha,rfl⟩
def sumR (a:Rl_):Nat:=(a.Rows.map Int.toNat).sum
theorem j4w:∀ (l:List Int) (f:Nat→Int→Int),(∀ j x,x∈l→x.toNat≤(f j x).toNat)→(l.map Int.toNat).sum≤((l.mapIdx f).map Int.toNat).sum∧((∀ x∈l,0≤x)→(∀ j x,0≤f j x)→(l.map Int.toNat).sum=((l.mapIdx f).map Int.toNat).sum→l.mapIdx f=l)
 | [],f,_=>⟨by simp,fun _ _ _=>by simp⟩
 | x::l,f,h=>by
  have ih:=j4w l (fun j=>f (j+1)) fun j y hy=>h (j+1) y (by simp[hy])
  have h0:=h 0 x (by simp)
  rw[List.mapIdx_cons]
  simp only[List.map_cons,List.sum_cons]
  refine⟨by have:=ih.1;omega,fun h1 h2 he=>?_⟩
  have a1:=ih.1
  have e1:(l.map Int.toNat).sum=((l.mapIdx fun j=>f (j+1)).map Int.toNat).sum:=by omega
  have e2:x.toNat=(f 0 x).toNat:=by omega
  have p1:=h1 x (by simp)
  have p2:=h2 0 x
  rw[ih.2 (fun y hy=>h1 y (by simp[hy])) (fun j y=>h2 (j+1) y) e1,show f 0 x=x by omega]
theorem k6Z {a b:Rl_}(ha:Valid a):sumR a≤sumR (uniR a b)∧(sumR a=sumR (uniR a b)→uniR a b=a):=by
 unfold uniR
 by_cases h:Valid a∧Valid b∧a.N=b.N
 ·rw[ifP h]
  have key:=j4w a.Rows (fun j x=>orI x (b.Rows.getD j 0)) fun j x _=>by
   unfold orI;have:=@Nat.left_le_or x.toNat (b.Rows.getD j 0).toNat;omega
  refine⟨key.1,fun he=>?_⟩
  have:=key.2 (fun x hx=>(ha.2.2.2 x hx).1) (fun j x=>by unfold orI;omega) he
  show (⟨a.N,_⟩:Rl_)=a
  rw[this]
 ·rw[ifN h];exact⟨Nat.le_refl _,fun _=>rfl⟩
theorem k3d {a:Rl_}(ha:Valid a):sumR a≤16*65535:=by
 have key:∀ l:List Int,(∀ x∈l,x.toNat≤65535)→(l.map Int.toNat).sum≤l.length*65535:=by
  intro l
  induction l with
  | nil=>intro _;simp
  | cons x l ih=>
   intro h
   have h1:=h x (by simp)
   have h2:=ih fun y hy=>h y (by simp[hy])
   simp only[List.map_cons,List.sum_cons,lnC]
   omega
 have h1:=key a.Rows fun x hx=>by
  have:=ha.2.2.2 x hx
  have:=k8u ha.2.1
  omega
 have hl:a.Rows.length≤16:=by have:=ha.2.2.1;have:=ha.2.1;omega
 exact Nat.le_trans h1 (Nat.mul_le_mul_right 65535 hl)
theorem k3e {b:List Int}{f:Nat→Int→Unit→Option (Unit ⊕ Bool)}(hf:∀ k x,f k x ()=(b[k]?).bind fun x2=>if x=x2 then some (.inl ()) else some (.inr false)) :
  ∀ (xs ys:List Int) (i:Nat),xs.length=ys.length→(∀ j,b[i+j]?=ys[j]?)→findL f i xs ()=some (if xs=ys then .inl () else .inr false)
 | [],ys,i,hl,_=>by obtain rfl:=List.eq_nil_of_length_eq_zero hl.symm;rfl
 | x::xs,[],i,hl,_=>by simp at hl
 | x::xs,y::ys,i,hl,hb=>by
  have h0:b[i]?=some y:=by simpa using hb 0
  rw[findL,hf,h0,bsS]
  by_cases hx:x=y
  ·rw[ifP hx,bsS]
   dsimp only
   rw[k3e hf xs ys (i+1) (by simpa using hl) fun j=>by have:=hb (j+1);rw[show i+1+j=i+(j+1) by omega];simpa using this]
   subst hx
   by_cases he:xs=ys
   ·rw[ifP he,ifP (by rw[he])]
   ·rw[ifN he,ifN (by intro hh;injection hh with _ h2;exact he h2)]
  ·rw[ifN hx,bsS]
   dsimp only
   rw[ifN (by intro hh;injection hh with h2 _;exact hx h2)]
theorem k3f (a b:Rl_):q9n a b=some (decide (a=b)):=by
 obtain⟨n,xs⟩:=a
 obtain⟨m,ys⟩:=b
 unfold q9n z9f
 dsimp only
 by_cases hn:n=m
 ·rw[ifP hn]
  by_cases hl:xs.length=ys.length
  ·rw[ifP (by omega),k3e (b:=ys) (fun k x=>rfl) xs ys 0 hl fun j=>by rw[Nat.zero_add]]
   by_cases he:xs=ys
   ·rw[ifP he,decide_eq_true (by rw[hn,he])];rfl
   ·rw[ifN he,decide_eq_false (by intro hh;injection hh with _ h2;exact he h2)];rfl
  ·rw[ifN (by omega),decide_eq_false (by intro hh;injection hh with _ h2;exact hl (by rw[h2]))];rfl
 ·rw[ifN hn,decide_eq_false (by intro hh;injection hh with h1 _;exact hn h1)]
theorem k7a (a b:Rl_):z6I a b=some (decide (a=b)):=by
 rw[← k3f];rfl
noncomputable def k3g (r:Rl_):Bool:=decide (∃ k:Nat,k<r.Rows.length∧hasP (q6w r) (k:Int) (k:Int))
theorem j9P {r:Rl_}(h:r.Rows.length≤1048576):z5M r=some (k3g r):=j2U h
theorem j9Q {r:Rl_}(h:r.Rows.length≤1048576):z1a r=some (k3g r):=by
 unfold z1a k3g
 rw[q6O,bsS]
 by_cases hv:Valid r
 ·rw[decide_eq_true hv,ifP rfl,j2S h,bsS]
  have hN:r.N.toNat=r.Rows.length:=by have:=hv.2.2.1;omega
  rw[hN,j3a (c:=true) (n:=r.Rows.length) (q:=fun k=>!decide (hasP (q6w r) (k:Int) (k:Int))) (fun k hk=>by
   unfold z2a
   rw[q9i,bsS]
   by_cases hp:hasP (q6w r) (k:Int) (k:Int)
   ·rw[decide_eq_true hp];rfl
   ·rw[decide_eq_false hp];rfl) r.Rows.length 0 (by omega)]
  by_cases he:∃ k:Nat,k<r.Rows.length∧hasP (q6w r) (k:Int) (k:Int)
  ·rw[decide_eq_true he,ifN];· rfl
   obtain⟨k,hk,hp⟩:=he
   rw[List.all_eq_true]
   intro hh
   have:=hh k (by simp;omega)
   simp[hp] at this
  ·rw[decide_eq_false he,ifP];· rfl
   rw[List.all_eq_true]
   intro k hk
   simp at hk
   have:¬ hasP (q6w r) (k:Int) (k:Int):=fun hp=>he ⟨k,hk,hp⟩
   simp[this]
 ·rw[decide_eq_false hv,ifN (by simp),decide_eq_false]
  rintro⟨k,hk,hp⟩
  have:q6w r=r:=by unfold q6w;rw[ifN hv]
  rw[this] at hp
  exact hv hp.1
end Go.Proofs.YtppbkkcekpbaiaaGreat
