/- What those partial functions come to: plain lemmas on data; each bears its conditions in its statement. -/
import Derived.Test.YtpnkinhphabkcaaGreatEng6
set_option linter.unusedVariables false
set_option linter.unusedSimpArgs false
set_option linter.ambiguousOpen false
set_option linter.unusedSectionVars false
set_option linter.unnecessarySimpa false
set_option maxRecDepth 100000
set_option maxHeartbeats 4000000
noncomputable section
namespace Go.Proofs.YtpnkinhphabkcaaGreat
open Go Go.E
open Go.E.Sz (szd)
instance:Sz Attribute where
 szd x:=x.Name.size
theorem j4t (x:Attribute):Sz.szd x=x.Name.size:=rfl
instance:Sz Symbol where
 szd x:=x.Name.size+szL x.Attributes
theorem j3p (x:Symbol):Sz.szd x=x.Name.size+szL x.Attributes:=rfl
instance:Sz Occurrence where
 szd x:=x.Name.size
mutual
def z1z:Expr→Nat
 | ⟨a0,a1,a2,a3,a4,a5,a6⟩=>a4.size+a5.size+z4n a6
def z4n:List Expr→Nat
 | []=>0
 | x :: xs=>1+z1z x+z4n xs
end
instance:Sz Expr:=⟨z1z⟩
theorem j7y (a:List Expr):z4n a=szL a:=by
 induction a with
 | nil=>rfl
 | cons x xs ih=>simp only [z4n,szL,ih]; rfl
theorem q7a (x:Expr):Sz.szd x=x.Symbol.size+x.Name.size+szL x.Args:=by
 cases x; show z1z _=_; simp only [z1z,j7y]
instance:Sz Equation where
 szd x:=x.At.Name.size+x.Expr.Symbol.size+x.Expr.Name.size+szL x.Expr.Args
theorem z9V (x:Equation):Sz.szd x=x.At.Name.size+x.Expr.Symbol.size+x.Expr.Name.size+szL x.Expr.Args:=rfl
instance:Sz Contribution where
 szd x:=x.Symbol.size+x.Name.size+x.Target.Symbol.size+x.Target.Name.size+szL x.Target.Args+x.Value.Symbol.size+x.Value.Name.size+szL x.Value.Args
theorem z6b (x:Contribution):Sz.szd x=x.Symbol.size+x.Name.size+x.Target.Symbol.size+x.Target.Name.size+szL x.Target.Args+x.Value.Symbol.size+x.Value.Name.size+szL x.Value.Args:=rfl
instance:Sz Rule where
 szd x:=x.Name.size+x.Left.size+szL x.Right+szL x.Equations+szL x.Contributions
theorem z8J (x:Rule):Sz.szd x=x.Name.size+x.Left.size+szL x.Right+szL x.Equations+szL x.Contributions:=rfl
instance:Sz Grammar where
 szd x:=szL x.Symbols+szL x.Rules
theorem z5M (x:Grammar):Sz.szd x=szL x.Symbols+szL x.Rules:=rfl
end Go.Proofs.YtpnkinhphabkcaaGreat
set_option maxRecDepth 100000
set_option maxHeartbeats 4000000
noncomputable section
namespace Go.Proofs.YtpnkinhphabkcaaGreat
open Go Go.E
def z1A (a0:Grammar)(a1:Rule):Nat→Relation→(Int × (List Int))→Option ((Int × (List Int)) ⊕ Relation):=fun k1 xk1 (s1,s2)=>
(a1.Right[k1]?).bind fun x1=>
(q4j a0 x1).bind fun y3=>
if xk1.N=(y3.length:Int) then (
(z7q a0 a1 (⟨s1,s2⟩:Relation) ((k1+1:Nat):Int) xk1).bind fun y4=>
some (.inl (y4.N,y4.Rows))
) else (
some (.inr (⟨0,[]⟩:Relation))
)
def z7E (a0:Grammar)(a1:Rule)(a2:(List Relation)):Option Relation:=
if (a2.length:Int)=(a1.Right.length:Int) then (
(q5j a0 a1).bind fun y1=>
if 16 < (y1.length:Int) then (
some (⟨0,[]⟩:Relation)
) else (
(q6A a0 a1).bind fun y2=>
(findL (z1A a0 a1) 0 a2 (y2.N,y2.Rows)).bind <| onr (fun r1=>some r1) fun (s1,s2)=>
(q7h (⟨s1,s2⟩:Relation)).bind fun y5=>
some y5
)
) else (
some (⟨0,[]⟩:Relation)
)
def z3g (a2:Relation)(y2:(List Int))(k1:Nat)(xk1:Attribute):Nat→Attribute→((List Int) × Int)→Option ((List Int) × Int):=fun k2 xk2 (s3,s4)=>
(
if xk1.Mode=1 then (
if xk2.Mode=2 then (
(y2[k1]?).bind fun x1=>
(y2[k2]?).bind fun x2=>
(q9g a2 x1 x2).bind fun y4=>
if y4=true then (
(z1S (⟨s4,s3⟩:Relation) (k1:Int) (k2:Int)).bind fun y5=>
some (y5.Rows,y5.N)
) else (
some (s3,s4)
)
) else (
some (s3,s4)
)
) else (
some (s3,s4)
)
).bind fun (s5,s6)=>
some (s5,s6)
def z5N (a2:Relation)(y1:(List Attribute))(y2:(List Int)):Nat→Attribute→((List Int) × Int)→Option ((List Int) × Int):=fun k1 xk1 (s1,s2)=>
(eachL (z3g a2 y2 k1 xk1) 0 y1 (s1,s2)).bind fun (s3,s4)=>
some (s3,s4)
def z6U (a0:Grammar)(a1:Rule)(a2:Relation):Option Relation:=
(q4j a0 a1.Left).bind fun y1=>
(q4R a0 a1 0).bind fun y2=>
(q6z (y1.length:Int)).bind fun y3=>
(eachL (z5N a2 y1 y2) 0 y1 (y3.Rows,y3.N)).bind fun (s1,s2)=>
some (⟨s2,s1⟩:Relation)
noncomputable def z6V (a0:Relation) (a1:(List Bool)) (a2:Int):Nat→Unit→Option (Unit ⊕ Bool):=fun k1 _=>
 (q7B a0 (k1:Int) a2).bind fun y1=>
 if y1=true then (
 (a1[k1]?).bind fun x1=>
 if x1=true then (
 some (.inl ())
 ) else (
 some (.inr false)
 )
 ) else (
 some (.inl ())
 )
noncomputable def z5O (a0:Relation) (a1:(List Bool)) (a2:Int):Option Bool:=
 (findN (z6V a0 a1 a2) 0 (a0.N.toNat) ()).bind <| onr (fun r1=>some r1) fun _=>
 some true
noncomputable def z0J (a0:(List Attribute)) (a1:Relation) (a3:Int) (s2:List Bool):(Int × Int)→Option ((Int × Int) ⊕ Int):=fun (s4,s5)=>
 if 0≤s5 then (
 (
 grd (0≤s5) <|
 (a0[s5.toNat]?).bind fun x1=>
 (
 if x1.Mode=a3 then (
 grd (0≤s5) <|
 (s2[s5.toNat]?).bind fun x2=>
 some (!x2)
 ) else (
 some false
 )
 ).bind fun s7=>
 (
 if s7=true then (
 (z5O a1 s2 s5).bind fun y1=>
 some y1
 ) else (
 some false
 )
 ).bind fun s8=>
 if s8=true then (
 some s5
 ) else (
 some s4
 )
 ).bind fun s6=>
 grd (I64 (s5 - 1)) <|
 some (.inl (s6,(s5 - 1)))
 ) else (
 some (.inr s4)
 )
noncomputable def z2e (a0:(List Attribute)) (a1:Relation) (a3:Int):((List ByteArray) × (List Bool))→Option (((List ByteArray) × (List Bool)) ⊕ ((List ByteArray) × (List Bool))):=fun (s1,s2)=>
 (
 q4L (z0J a0 a1 a3 s2) ((-1),((a0.length:Int) - 1))
 ).bind fun s3=>
 if s3 < 0 then (
 some (.inr (s1,s2))
 ) else (
 grd (0≤s3) <|
 (s2[s3.toNat]?).bind fun x3=>
 grd (0≤s3) <|
 (a0[s3.toNat]?).bind fun x4=>
 grd (((s1.length:Int)+1)*16≤140737488355328∧(s1.length:Int)+1≤9223372036854775807) <|
 some (.inl ((s1++[x4.Name]),(List.set s2 s3.toNat true)))
 )
noncomputable def z3s (a0:(List Attribute)) (a1:Relation) (a2:(List Bool)) (a3:Int):Option ((List ByteArray) × (List Bool)):=
 (q4L (z2e a0 a1 a3) (([]:List ByteArray),a2)).bind fun r1=>some r1
noncomputable def z0P (a0:(List Attribute)) (a1:Relation):((List Phase) × (List Bool) × Int)→Option (((List Phase) × (List Bool) × Int) ⊕ (((List Phase) × (List Bool)) ⊕ ((List Phase) × Bool))):=fun (s5,s6,s7)=>
 (
 if 0 < s7 then (
 some true
 ) else (
 some (decide ((s5.length:Int)=0))
 )
 ).bind fun s8=>
 if s8=true then (
 (z3s a0 a1 s6 1).bind fun (y3,z2)=>
 (z3s a0 a1 z2 2).bind fun (y4,z3)=>
 grd (I64 ((y3.length+y4.length:Nat):Int)) <|
 (
 if ((y3.length+y4.length:Nat):Int)=0 then (
 some (decide (0 < s7))
 ) else (
 some false
 )
 ).bind fun s9=>
 if s9=true then (
 some (.inr (.inr ([],false)))
 ) else (
 grd (I64 (s7 - ((y3.length+y4.length:Nat):Int))) <|
 grd (((s5.length:Int)+1)*48≤140737488355328∧(s5.length:Int)+1≤9223372036854775807) <|
 some (.inl ((s5++[(⟨y3,y4⟩:Phase)]),z3,(s7 - ((y3.length+y4.length:Nat):Int))))
 )
 ) else (
 some (.inr (.inl (s5,s6)))
 )
noncomputable def j1T (a0:(List Attribute)) (a1:Relation):Option ((List Phase) × Bool):=
 (q4k a1).bind fun y1=>
 (
 if y1=true then (
 some (!(decide (a1.N=(a0.length:Int))))
 ) else (
 some true
 )
 ).bind fun s1=>
 (
 if s1=true then (
 some true
 ) else (
 (q9Q a1).bind fun y2=>
 some y2
 )
 ).bind fun s2=>
 if s2=true then (
 some ([],false)
 ) else (
 grd (0≤(a0.length:Int)∧(a0.length:Int)*1≤281474976710656∧(a0.length:Int)≤9223372036854775807) <|
 (
 q4L (z0P a0 a1) (([]:List Phase),(List.replicate a0.length false),(a0.length:Int))
 ).bind <| onr (fun r1=>some r1) fun (s3,s4)=>
 some (s3,true)
 )
end Go.Proofs.YtpnkinhphabkcaaGreat
