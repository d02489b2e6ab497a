/- What those partial functions come to: plain lemmas on data; each bears its conditions in its statement. -/
import Derived.Test.YtiojgbiimbefiacGreatEng6
set_option linter.unusedVariables false
set_option linter.unusedSimpArgs false
set_option linter.ambiguousOpen false
set_option linter.unusedSectionVars false
set_option linter.unnecessarySimpa false
set_option maxRecDepth 100000
set_option maxHeartbeats 4000000
noncomputable section
namespace Go.Proofs.YtiojgbiimbefiacGreat
open Go Go.E
open Go.E.Sz (szd)
instance:Sz Attribute where
 szd x:=x.Name.size
theorem z3W (x:Attribute):Sz.szd x=x.Name.size:=rfl
instance:Sz Symbol where
 szd x:=x.Name.size+szL x.Attributes
theorem z3f (x:Symbol):Sz.szd x=x.Name.size+szL x.Attributes:=rfl
instance:Sz Occurrence where
 szd x:=x.Name.size
mutual
def q5t:Expr→Nat
 | ⟨a0,a1,a2,a3,a4,a5,a6⟩=>a4.size+a5.size+q7a a6
def q7a:List Expr→Nat
 | []=>0
 | x :: xs=>1+q5t x+q7a xs
end
instance:Sz Expr:=⟨q5t⟩
theorem z6G (a:List Expr):q7a a=szL a:=by
 induction a with
 | nil=>rfl
 | cons x xs ih=>simp only [q7a,szL,ih]; rfl
theorem q3k (x:Expr):Sz.szd x=x.Symbol.size+x.Name.size+szL x.Args:=by
 cases x; show q5t _=_; simp only [q5t,z6G]
instance:Sz Equation where
 szd x:=x.At.Name.size+x.Expr.Symbol.size+x.Expr.Name.size+szL x.Expr.Args
theorem z0M (x:Equation):Sz.szd x=x.At.Name.size+x.Expr.Symbol.size+x.Expr.Name.size+szL x.Expr.Args:=rfl
instance:Sz Contribution where
 szd x:=x.Symbol.size+x.Name.size+x.Target.Symbol.size+x.Target.Name.size+szL x.Target.Args+x.Value.Symbol.size+x.Value.Name.size+szL x.Value.Args
theorem q7Z (x:Contribution):Sz.szd x=x.Symbol.size+x.Name.size+x.Target.Symbol.size+x.Target.Name.size+szL x.Target.Args+x.Value.Symbol.size+x.Value.Name.size+szL x.Value.Args:=rfl
instance:Sz Rule where
 szd x:=x.Name.size+x.Left.size+szL x.Right+szL x.Equations+szL x.Contributions
theorem q9T (x:Rule):Sz.szd x=x.Name.size+x.Left.size+szL x.Right+szL x.Equations+szL x.Contributions:=rfl
instance:Sz Grammar where
 szd x:=szL x.Symbols+szL x.Rules
theorem q7Q (x:Grammar):Sz.szd x=szL x.Symbols+szL x.Rules:=rfl
instance:Sz Relation where
 szd x:=szL x.Rows
end Go.Proofs.YtiojgbiimbefiacGreat
set_option maxRecDepth 100000
set_option maxHeartbeats 4000000
noncomputable section
namespace Go.Proofs.YtiojgbiimbefiacGreat
open Go Go.E
def q8x (rec_iDepthOfExpr:Expr→Option Int):Nat→Expr→Int→Option Int:=fun k1 xk1 s1=>
(rec_iDepthOfExpr xk1).bind fun y1=>
some (if y1 > s1 then y1 else s1)
def q7i (rec_iDepthOfExpr:Expr→Option Int)(a0:Expr):Option Int:=
(eachL (q8x rec_iDepthOfExpr) 0 a0.Args 0).bind fun s1=>
grd (I64 (s1+1)) <|
some (s1+1)
def q4q:Nat→Expr→Option Int
 | 0,_=>none
 | n+1,a0=>q7i (q4q n) a0
def z2a (a0:Grammar)(a1:Rule):Nat→Unit→Option (Unit ⊕ Bool):=fun k1 _=>
(q4g a1 (k1:Int)).bind fun y1=>
(q2U a0 y1).bind fun (y2,y3)=>
if y3=true then (
some (.inl ())
) else (
some (.inr true)
)
def z0u (a0:Grammar)(a1:Rule):Option Bool:=
grd (I64 ((a1.Right.length+1:Nat):Int)) <|
(findN (z2a a0 a1) 0 (a1.Right.length+1) ()).bind <| onr (fun r1=>some r1) fun _=>
some false
def q8y (k1:Nat)(s2:Int):Nat→Attribute→((List Occurrence))→Option ((List Occurrence)):=fun k2 xk2 s3=>
(
if xk2.Mode=s2 then (
grd (((s3.length:Int)+1)*24≤140737488355328∧(s3.length:Int)+1≤9223372036854775807) <|
some (s3++[(⟨(k1:Int),xk2.Name⟩:Occurrence)])
) else (
some s3
)
).bind fun s4=>
some s4
def q8z (a0:Grammar)(a1:Rule):Nat→((List Occurrence))→Option ((List Occurrence)):=fun k1 s1=>
(
if (k1:Int)=0 then (
some 2
) else (
some 1
)
).bind fun s2=>
(q4g a1 (k1:Int)).bind fun y1=>
(q2U a0 y1).bind fun (y2,y3)=>
(eachL (q8y k1 s2) 0 y2.Attributes s1).bind fun s3=>
some s3
def q7R (a0:Grammar)(a1:Rule):Option (List Occurrence):=
grd (I64 ((a1.Right.length+1:Nat):Int)) <|
(eachN (q8z a0 a1) 0 (a1.Right.length+1) ([]:List Occurrence)).bind fun s1=>
some s1
def q9a (a0:Equation)(a1:Occurrence):Option Bool:=
some (decide (a0.At=a1))
def q2J (a1_0:Occurrence):Nat→Equation→Unit→Option (Unit ⊕ Int):=fun k1 xk1 _=>
(q9a xk1 a1_0).bind fun y1=>
if y1=true then (
some (.inr (k1:Int))
) else (
some (.inl ())
)
def q2Q (a0:(List Equation))(a1_0:Occurrence):Option Int:=
(findL (q2J a1_0) 0 a0 ()).bind <| onr (fun r1=>some r1) fun _=>
some (-1)
def q2A (a0:(List Equation))(a1_0:Occurrence):Option Bool:=
(q2Q a0 a1_0).bind fun y1=>
some (decide (0≤y1))
def z0N (a0:Occurrence)(a1:Rule):Option Bool:=
(q2A a1.Equations a0).bind fun y1=>
some (!y1)
def q2K (a1_0:Rule):Nat→Occurrence→Unit→Option (Unit ⊕ Int):=fun k1 xk1 _=>
(z0N xk1 a1_0).bind fun y1=>
if y1=true then (
some (.inr (k1:Int))
) else (
some (.inl ())
)
def q2R (a0:(List Occurrence))(a1_0:Rule):Option Int:=
(findL (q2K a1_0) 0 a0 ()).bind <| onr (fun r1=>some r1) fun _=>
some (-1)
def q2B (a0:(List Occurrence))(a1_0:Rule):Option Bool:=
(q2R a0 a1_0).bind fun y1=>
some (decide (0≤y1))
def z0v (a0:Grammar)(a1:Rule):Option Bool:=
(q7R a0 a1).bind fun y1=>
(q2B y1 a1).bind fun y2=>
some y2
def q3l (a0:(List Occurrence))(a1:Occurrence):Option Bool:=
(q1v a0 a1).bind fun y1=>
some (decide (0≤y1))
def z3g (a0:Equation)(a1:Equation):Option Bool:=
some (decide (a0.At=a1.At))
def q3i (a1_0:Equation):Nat→Equation→Unit→Option (Unit ⊕ Int):=fun k1 xk1 _=>
(z3g xk1 a1_0).bind fun y1=>
if y1=true then (
some (.inr (k1:Int))
) else (
some (.inl ())
)
def q3o (a0:(List Equation))(a1_0:Equation):Option Int:=
(findL (q3i a1_0) 0 a0 ()).bind <| onr (fun r1=>some r1) fun _=>
some (-1)
def q2W (a0:(List Equation))(a1_0:Equation):Option Bool:=
(q3o a0 a1_0).bind fun y1=>
some (decide (0≤y1))
def q9U (a1:Rule)(y1:(List Occurrence)):Nat→Equation→Unit→Option (Unit ⊕ Bool):=fun k1 xk1 _=>
(q3l y1 xk1.At).bind fun y2=>
if y2=true then (
grd (k1≤a1.Equations.length) <|
(q2W (a1.Equations.take k1) xk1).bind fun y3=>
if y3=true then (
some (.inr true)
) else (
some (.inl ())
)
) else (
some (.inr true)
)
def z3X (a0:Grammar)(a1:Rule):Option Bool:=
(q7R a0 a1).bind fun y1=>
(findL (q9U a1 y1) 0 a1.Equations ()).bind <| onr (fun r1=>some r1) fun _=>
some false
def q5u:Nat→Equation→((List Expr))→Option ((List Expr)):=fun k1 xk1 s1=>
grd (((s1.length:Int)+1)*88≤140737488355328∧(s1.length:Int)+1≤9223372036854775807) <|
some (s1++[xk1.Expr])
def q5v:Nat→Contribution→((List Expr))→Option ((List Expr)):=fun k2 xk2 s2=>
grd (((s2.length:Int)+([xk2.Target,xk2.Value].length:Int))*88≤140737488355328∧(s2.length:Int)+([xk2.Target,xk2.Value].length:Int)≤9223372036854775807) <|
some (s2++[xk2.Target,xk2.Value])
def q7j (a0:Rule):Option (List Expr):=
(eachL q5u 0 a0.Equations ([]:List Expr)).bind fun s1=>
(eachL q5v 0 a0.Contributions s1).bind fun s2=>
some s2
def q5K (a1:ByteArray):Nat→Attribute→Unit→Option (Unit ⊕ (Attribute × Bool)):=fun k1 xk1 _=>
if xk1.Name=a1 then (
some (.inr (xk1,true))
) else (
some (.inl ())
)
def q6g (a0:Symbol)(a1:ByteArray):Option (Attribute × Bool):=
(findL (q5K a1) 0 a0.Attributes ()).bind <| onr (fun r1=>some r1) fun _=>
some ((⟨(⟨#[]⟩:ByteArray),0,0,false⟩:Attribute),false)
def q7k (a0:Grammar)(a1:Rule)(a2:Occurrence):Option (Attribute × Bool):=
(q3v a2.Pos 0 (a1.Right.length:Int)).bind fun y1=>
if y1=true then (
(q4g a1 a2.Pos).bind fun y2=>
(q2U a0 y2).bind fun (y3,y4)=>
(q6g y3 a2.Name).bind fun (y5,y6)=>
some (y5,y6)
) else (
some ((⟨(⟨#[]⟩:ByteArray),0,0,false⟩:Attribute),false)
)
def z2b (a0:Grammar)(a1:Rule)(a2:Occurrence):Option Bool:=
(q7k a0 a1 a2).bind fun (y1,y2)=>
if a2.Pos=0 then (
(
if y2=true then (
some (decide (y1.Mode=1))
) else (
some false
)
).bind fun s1=>
some s1
) else (
(
if y2=true then (
some (decide (y1.Mode=2))
) else (
some false
)
).bind fun s2=>
some s2
)
def q9b (a0:Occurrence)(a1:Grammar)(a2:Rule):Option Bool:=
(z2b a1 a2 a0).bind fun y1=>
some (!y1)
def q2C (a1_0:Grammar)(a1_1:Rule):Nat→Occurrence→Unit→Option (Unit ⊕ Int):=fun k1 xk1 _=>
(q9b xk1 a1_0 a1_1).bind fun y1=>
if y1=true then (
some (.inr (k1:Int))
) else (
some (.inl ())
)
def q2H (a0:(List Occurrence))(a1_0:Grammar)(a1_1:Rule):Option Int:=
(findL (q2C a1_0 a1_1) 0 a0 ()).bind <| onr (fun r1=>some r1) fun _=>
some (-1)
def q2r (a0:(List Occurrence))(a1_0:Grammar)(a1_1:Rule):Option Bool:=
(q2H a0 a1_0 a1_1).bind fun y1=>
some (decide (0≤y1))
def q8A (a0:Expr)(a1:Grammar)(a2:Rule):Option Bool:=
(q3D a0).bind fun y1=>
(q2r y1 a1 a2).bind fun y2=>
some y2
def q3z (a1_0:Grammar)(a1_1:Rule):Nat→Expr→Unit→Option (Unit ⊕ Int):=fun k1 xk1 _=>
(q8A xk1 a1_0 a1_1).bind fun y1=>
if y1=true then (
some (.inr (k1:Int))
) else (
some (.inl ())
)
def q3B (a0:(List Expr))(a1_0:Grammar)(a1_1:Rule):Option Int:=
(findL (q3z a1_0 a1_1) 0 a0 ()).bind <| onr (fun r1=>some r1) fun _=>
some (-1)
def q3j (a0:(List Expr))(a1_0:Grammar)(a1_1:Rule):Option Bool:=
(q3B a0 a1_0 a1_1).bind fun y1=>
some (decide (0≤y1))
def z0w (a0:Grammar)(a1:Rule):Option Bool:=
(q7j a1).bind fun y1=>
(q3j y1 a0 a1).bind fun y2=>
some y2
def q5U (a0:Grammar)(s1:Int):Nat→Rule→Unit→Option (Unit ⊕ (Int × Int)):=fun k2 xk2 _=>
if s1=3 then (
(z0u a0 xk2).bind fun y5=>
if y5=true then (
some (.inr (s1,(k2:Int)))
) else (
some (.inl ())
)
) else (
if s1=4 then (
(z0v a0 xk2).bind fun y6=>
if y6=true then (
some (.inr (s1,(k2:Int)))
) else (
some (.inl ())
)
) else (
if s1=5 then (
(z3X a0 xk2).bind fun y7=>
if y7=true then (
some (.inr (s1,(k2:Int)))
) else (
some (.inl ())
)
) else (
(z0w a0 xk2).bind fun y8=>
if y8=true then (
some (.inr (s1,(k2:Int)))
) else (
some (.inl ())
)
)
)
)
def q3p (a0:Grammar):Int→Option (Int ⊕ (Unit ⊕ (Int × Int))):=fun s1=>
if s1≤6 then (
(findL (q5U a0 s1) 0 a0.Rules ()).bind <| onr (fun r1=>some (.inr (.inr r1))) fun _=>
grd (I64 (s1+1)) <|
some (.inl (s1+1))
) else (
some (.inr (.inl ()))
)
def q4j (a2:Int):Nat→Occurrence→((List Int))→Option ((List Int)):=fun k1 xk1 s1=>
(
if xk1.Pos=a2 then (
grd (((s1.length:Int)+1)*8≤140737488355328∧(s1.length:Int)+1≤9223372036854775807) <|
some (s1++[(k1:Int)])
) else (
some s1
)
).bind fun s2=>
some s2
def z0x (a0:Relation)(a1:Int)(a2:Int):Option Bool:=
(q2Z a0).bind fun y1=>
(
if y1=true then (
grd (I64 (a0.N - 1)) <|
(q2g a1 0 (a0.N - 1)).bind fun y2=>
some y2
) else (
some false
)
).bind fun s1=>
(
if s1=true then (
grd (I64 (a0.N - 1)) <|
(q2g a2 0 (a0.N - 1)).bind fun y3=>
some y3
) else (
some false
)
).bind fun s2=>
(
if s2=true then (
grd (0≤a1) <|
(a0.Rows[a1.toNat]?).bind fun x1=>
grd (0≤a2) <|
grd (0≤x1∧0≤a2∧a2 < 64) <|
grd (0≤((x1.toNat >>> a2.toNat:Nat):Int)∧0≤(1:Int)) <|
some (decide (((((x1.toNat >>> a2.toNat:Nat):Int).toNat &&& (1:Int).toNat:Nat):Int)=1))
) else (
some false
)
).bind fun s3=>
some s3
def q9V (a0:ByteArray)(a2:(List Int)):Nat→Symbol→Unit→Option (Unit ⊕ Int):=fun k1 xk1 _=>
if xk1.Name=a0 then (
(a2[k1]?).bind fun x1=>
some (.inr x1)
) else (
some (.inl ())
)
def q8B (a0:ByteArray)(a1:Grammar)(a2:(List Int)):Option Int:=
(findL (q9V a0 a2) 0 a1.Symbols ()).bind <| onr (fun r1=>some r1) fun _=>
some 0
def q9t (a0:Grammar)(s2:List Int):Nat→ByteArray→Bool→Option Bool:=fun k4 xk4 s8=>
(
if s8=true then (
(q8B xk4 a0 s2).bind fun y1=>
some (decide (0 < y1))
) else (
some false
)
).bind fun s9=>
some s9
def q7S (a0:Grammar)(s3:Int)(s2:List Int)(k2:Nat)(xk2:Symbol):Nat→Rule→((List Int))→Option ((List Int)):=fun k3 xk3 s6=>
(
(eachL (q9t a0 s2) 0 xk3.Right (decide (xk3.Left=xk2.Name))).bind fun s8=>
if s8=true then (
(s6[k2]?).bind fun x2=>
some (List.set s6 k2 s3)
) else (
some s6
)
).bind fun s7=>
some s7
def q7T (a0:Grammar)(s3:Int)(s2:List Int):Nat→Symbol→((List Int))→Option ((List Int)):=fun k2 xk2 s4=>
(
(s2[k2]?).bind fun x1=>
if 0 < x1 then (
some s4
) else (
(eachL (q7S a0 s3 s2 k2 xk2) 0 a0.Rules s4).bind fun s6=>
some s6
)
).bind fun s5=>
some s5
def q5L (a0:Grammar):(Int × (List Int))→Option ((Int × (List Int)) ⊕ ((List Int))):=fun (s3,s2)=>
if s3≤(a0.Symbols.length:Int) then (
grd (0≤(s2.length:Int)∧(s2.length:Int)*8≤281474976710656∧(s2.length:Int)≤9223372036854775807) <|
grd (s2.length=(List.replicate s2.length (0:Int)).length) <|
(eachL (q7T a0 s3 s2) 0 a0.Symbols s2).bind fun s4=>
grd (I64 (s3+1)) <|
some (.inl ((s3+1),s4))
) else (
some (.inr s2)
)
def z0y (a0:Grammar):Option (List Int):=
grd (0≤(a0.Symbols.length:Int)∧(a0.Symbols.length:Int)*8≤281474976710656∧(a0.Symbols.length:Int)≤9223372036854775807) <|
(q2t (q5L a0) (1,(List.replicate a0.Symbols.length (0:Int)))).bind fun s1=>
some s1
end Go.Proofs.YtiojgbiimbefiacGreat
