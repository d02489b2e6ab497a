/- What some functions of the program compute, as partial functions on plain data: definitions, without conditions. -/
import Derived.Test.YtaholdflpgcndaaGreatSort
set_option linter.unusedVariables false
set_option linter.unusedSimpArgs false
set_option linter.ambiguousOpen false
set_option linter.unusedSectionVars false
set_option linter.unnecessarySimpa false
set_option maxRecDepth 100000
set_option maxHeartbeats 40000000
noncomputable section
namespace Go.Proofs.YtaholdflpgcndaaGreat
open Go Go.E Go.A
def q7i (a0:Attribute)(a1:Int):Option Int:=
 grd (I64 (a1 - (a0.Name.size:Int))) <|
 if (a1 - (a0.Name.size:Int)) < 0 then (
 some (-1)
 ) else (
 some (a1 - (a0.Name.size:Int))
 )
def z0f:Nat→Attribute→Int→Option (Int ⊕ Int):=fun k1 xk1 s1=>
 (q7i xk1 s1).bind fun y1=>
 if y1 < 0 then (
 some (.inr (-1))
 ) else (
 some (.inl y1)
 )
def q6w (a0:(List Attribute))(a1:Int):Option Int:=
 grd (I64 (a1 - (a0.length:Int))) <|
 if (a1 - (a0.length:Int)) < 0 then (
 some (-1)
 ) else (
 (findL z0f 0 a0 (a1 - (a0.length:Int))).bind <| onr (fun r1=>some r1) fun s1=>
 some s1
 )
def q9R (a0:Symbol)(a1:Int):Option Int:=
 grd (I64 (a1 - (a0.Name.size:Int))) <|
 if (a1 - (a0.Name.size:Int)) < 0 then (
 some (-1)
 ) else (
 (q6w a0.Attributes (a1 - (a0.Name.size:Int))).bind fun y1=>
 if y1 < 0 then (
 some (-1)
 ) else (
 some y1
 )
 )
def z1W:Nat→Symbol→Int→Option (Int ⊕ Int):=fun k1 xk1 s1=>
 (q9R xk1 s1).bind fun y1=>
 if y1 < 0 then (
 some (.inr (-1))
 ) else (
 some (.inl y1)
 )
def q8N (a0:(List Symbol))(a1:Int):Option Int:=
 grd (I64 (a1 - (a0.length:Int))) <|
 if (a1 - (a0.length:Int)) < 0 then (
 some (-1)
 ) else (
 (findL z1W 0 a0 (a1 - (a0.length:Int))).bind <| onr (fun r1=>some r1) fun s1=>
 some s1
 )
def q9S:Nat→ByteArray→Int→Option (Int ⊕ Int):=fun k1 xk1 s1=>
 grd (I64 (s1 - (xk1.size:Int))) <|
 if (s1 - (xk1.size:Int)) < 0 then (
 some (.inr (-1))
 ) else (
 some (.inl (s1 - (xk1.size:Int)))
 )
def q8O (a0:(List ByteArray))(a1:Int):Option Int:=
 grd (I64 (a1 - (a0.length:Int))) <|
 if (a1 - (a0.length:Int)) < 0 then (
 some (-1)
 ) else (
 (findL q9S 0 a0 (a1 - (a0.length:Int))).bind <| onr (fun r1=>some r1) fun s1=>
 some s1
 )
def q6x (a0:Occurrence)(a1:Int):Option Int:=
 grd (I64 (a1 - (a0.Name.size:Int))) <|
 if (a1 - (a0.Name.size:Int)) < 0 then (
 some (-1)
 ) else (
 some (a1 - (a0.Name.size:Int))
 )
def z4G (rec_wszExpr:Expr→Int→Option Int):Nat→Expr→Int→Option (Int ⊕ Int):=fun k1 xk1 s1=>
 (rec_wszExpr xk1 s1).bind fun y1=>
 if y1 < 0 then (
 some (.inr (-1))
 ) else (
 some (.inl y1)
 )
def z2M (rec_wszExpr:Expr→Int→Option Int)(a0:(List Expr))(a1:Int):Option Int:=
 grd (I64 (a1 - (a0.length:Int))) <|
 if (a1 - (a0.length:Int)) < 0 then (
 some (-1)
 ) else (
 (findL (z4G rec_wszExpr) 0 a0 (a1 - (a0.length:Int))).bind <| onr (fun r1=>some r1) fun s1=>
 some s1
 )
def z0r (rec_wszExpr:Expr→Int→Option Int)(a0:Expr)(a1:Int):Option Int:=
 grd (I64 (a1 - (a0.Symbol.size:Int))) <|
 if (a1 - (a0.Symbol.size:Int)) < 0 then (
 some (-1)
 ) else (
 grd (I64 ((a1 - (a0.Symbol.size:Int)) - (a0.Name.size:Int))) <|
 if ((a1 - (a0.Symbol.size:Int)) - (a0.Name.size:Int)) < 0 then (
 some (-1)
 ) else (
 (z2M rec_wszExpr a0.Args ((a1 - (a0.Symbol.size:Int)) - (a0.Name.size:Int))).bind fun y1=>
 if y1 < 0 then (
 some (-1)
 ) else (
 some y1
 )
 )
 )
def q9v:Nat→Expr→Int→Option Int
  | 0,_,_=>none
  | n+1,a0,a1=>z0r (q9v n) a0 a1
def z0s (a0:Expr)(a1:Int):Option Int:=recO fun n=>q9v n a0 a1
def q7P (a0:Equation)(a1:Int):Option Int:=
 (q6x a0.At a1).bind fun y1=>
 if y1 < 0 then (
 some (-1)
 ) else (
 (z0s a0.Expr y1).bind fun y2=>
 if y2 < 0 then (
 some (-1)
 ) else (
 some y2
 )
 )
def z0t:Nat→Equation→Int→Option (Int ⊕ Int):=fun k1 xk1 s1=>
 (q7P xk1 s1).bind fun y1=>
 if y1 < 0 then (
 some (.inr (-1))
 ) else (
 some (.inl y1)
 )
def q7j (a0:(List Equation))(a1:Int):Option Int:=
 grd (I64 (a1 - (a0.length:Int))) <|
 if (a1 - (a0.length:Int)) < 0 then (
 some (-1)
 ) else (
 (findL z0t 0 a0 (a1 - (a0.length:Int))).bind <| onr (fun r1=>some r1) fun s1=>
 some s1
 )
def q5E (a0:Contribution)(a1:Int):Option Int:=
 grd (I64 (a1 - (a0.Symbol.size:Int))) <|
 if (a1 - (a0.Symbol.size:Int)) < 0 then (
 some (-1)
 ) else (
 grd (I64 ((a1 - (a0.Symbol.size:Int)) - (a0.Name.size:Int))) <|
 if ((a1 - (a0.Symbol.size:Int)) - (a0.Name.size:Int)) < 0 then (
 some (-1)
 ) else (
 (z0s a0.Target ((a1 - (a0.Symbol.size:Int)) - (a0.Name.size:Int))).bind fun y1=>
 if y1 < 0 then (
 some (-1)
 ) else (
 (z0s a0.Value y1).bind fun y2=>
 if y2 < 0 then (
 some (-1)
 ) else (
 some y2
 )
 )
 )
 )
def q8l:Nat→Contribution→Int→Option (Int ⊕ Int):=fun k1 xk1 s1=>
 (q5E xk1 s1).bind fun y1=>
 if y1 < 0 then (
 some (.inr (-1))
 ) else (
 some (.inl y1)
 )
def q5f (a0:(List Contribution))(a1:Int):Option Int:=
 grd (I64 (a1 - (a0.length:Int))) <|
 if (a1 - (a0.length:Int)) < 0 then (
 some (-1)
 ) else (
 (findL q8l 0 a0 (a1 - (a0.length:Int))).bind <| onr (fun r1=>some r1) fun s1=>
 some s1
 )
def z1X (a0:Rule)(a1:Int):Option Int:=
 grd (I64 (a1 - (a0.Name.size:Int))) <|
 if (a1 - (a0.Name.size:Int)) < 0 then (
 some (-1)
 ) else (
 grd (I64 ((a1 - (a0.Name.size:Int)) - (a0.Left.size:Int))) <|
 if ((a1 - (a0.Name.size:Int)) - (a0.Left.size:Int)) < 0 then (
 some (-1)
 ) else (
 (q8O a0.Right ((a1 - (a0.Name.size:Int)) - (a0.Left.size:Int))).bind fun y1=>
 if y1 < 0 then (
 some (-1)
 ) else (
 (q7j a0.Equations y1).bind fun y2=>
 if y2 < 0 then (
 some (-1)
 ) else (
 (q5f a0.Contributions y2).bind fun y3=>
 if y3 < 0 then (
 some (-1)
 ) else (
 some y3
 )
 )
 )
 )
 )
def z4H:Nat→Rule→Int→Option (Int ⊕ Int):=fun k1 xk1 s1=>
 (z1X xk1 s1).bind fun y1=>
 if y1 < 0 then (
 some (.inr (-1))
 ) else (
 some (.inl y1)
 )
def z1d (a0:(List Rule))(a1:Int):Option Int:=
 grd (I64 (a1 - (a0.length:Int))) <|
 if (a1 - (a0.length:Int)) < 0 then (
 some (-1)
 ) else (
 (findL z4H 0 a0 (a1 - (a0.length:Int))).bind <| onr (fun r1=>some r1) fun s1=>
 some s1
 )
def q8P (a0:Grammar)(a1:Int):Option Int:=
 (q8N a0.Symbols a1).bind fun y1=>
 if y1 < 0 then (
 some (-1)
 ) else (
 (z1d a0.Rules y1).bind fun y2=>
 if y2 < 0 then (
 some (-1)
 ) else (
 some y2
 )
 )
def z0u (a0:(List Int))(a1:Int):Option Int:=
 grd (I64 (a1 - (a0.length:Int))) <|
 if (a1 - (a0.length:Int)) < 0 then (
 some (-1)
 ) else (
 some (a1 - (a0.length:Int))
 )
def z1Y (a0:Node)(a1:Int):Option Int:=
 grd (I64 (a1 - (a0.Rule.size:Int))) <|
 if (a1 - (a0.Rule.size:Int)) < 0 then (
 some (-1)
 ) else (
 (z0u a0.Children (a1 - (a0.Rule.size:Int))).bind fun y1=>
 if y1 < 0 then (
 some (-1)
 ) else (
 some y1
 )
 )
def z4I:Nat→Node→Int→Option (Int ⊕ Int):=fun k1 xk1 s1=>
 (z1Y xk1 s1).bind fun y1=>
 if y1 < 0 then (
 some (.inr (-1))
 ) else (
 some (.inl y1)
 )
def z1e (a0:(List Node))(a1:Int):Option Int:=
 grd (I64 (a1 - (a0.length:Int))) <|
 if (a1 - (a0.length:Int)) < 0 then (
 some (-1)
 ) else (
 (findL z4I 0 a0 (a1 - (a0.length:Int))).bind <| onr (fun r1=>some r1) fun s1=>
 some s1
 )
def z1Z (a0:Tree)(a1:Int):Option Int:=
 (z1e a0.Nodes a1).bind fun y1=>
 if y1 < 0 then (
 some (-1)
 ) else (
 some y1
 )
def q6y (a0:Instance)(a1:Int):Option Int:=
 grd (I64 (a1 - (a0.Name.size:Int))) <|
 if (a1 - (a0.Name.size:Int)) < 0 then (
 some (-1)
 ) else (
 some (a1 - (a0.Name.size:Int))
 )
def z0v:Nat→Instance→Int→Option (Int ⊕ Int):=fun k1 xk1 s1=>
 (q6y xk1 s1).bind fun y1=>
 if y1 < 0 then (
 some (.inr (-1))
 ) else (
 some (.inl y1)
 )
def q5T (a0:(List Instance))(a1:Int):Option Int:=
 grd (I64 (a1 - (a0.length:Int))) <|
 if (a1 - (a0.length:Int)) < 0 then (
 some (-1)
 ) else (
 (findL z0v 0 a0 (a1 - (a0.length:Int))).bind <| onr (fun r1=>some r1) fun s1=>
 some s1
 )
def q7k (a0:TraceStep)(a1:Int):Option Int:=
 (q6y a0.At a1).bind fun y1=>
 if y1 < 0 then (
 some (-1)
 ) else (
 (q5T a0.Inputs y1).bind fun y2=>
 if y2 < 0 then (
 some (-1)
 ) else (
 some y2
 )
 )
def z0g:Nat→TraceStep→Int→Option (Int ⊕ Int):=fun k1 xk1 s1=>
 (q7k xk1 s1).bind fun y1=>
 if y1 < 0 then (
 some (.inr (-1))
 ) else (
 some (.inl y1)
 )
def q6z (a0:(List TraceStep))(a1:Int):Option Int:=
 grd (I64 (a1 - (a0.length:Int))) <|
 if (a1 - (a0.length:Int)) < 0 then (
 some (-1)
 ) else (
 (findL z0g 0 a0 (a1 - (a0.length:Int))).bind <| onr (fun r1=>some r1) fun s1=>
 some s1
 )
def q7l (a0:Attribute):Option Attribute:=
 some a0
def z3C:Nat→Attribute→((List Attribute))→Option ((List Attribute)):=fun k1 xk1 s1=>
 (q7l xk1).bind fun y1=>
 (s1[k1]?).bind fun x1=>
 some (List.set s1 k1 y1)
def q6A (a0:(List Attribute)):Option (List Attribute):=
 grd (0≤(a0.length:Int)∧(a0.length:Int)*40≤281474976710656∧(a0.length:Int)≤9223372036854775807) <|
 (eachL z3C 0 a0 (List.replicate a0.length (⟨(⟨#[]⟩:ByteArray),(0:Int),(0:Int),false⟩:Attribute))).bind fun s1=>
 some s1
def q6W (a0:Symbol):Option Symbol:=
 (q6A a0.Attributes).bind fun y1=>
 some (⟨a0.Name,y1⟩:Symbol)
def z6O:Nat→Symbol→((List Symbol))→Option ((List Symbol)):=fun k1 xk1 s1=>
 (q6W xk1).bind fun y1=>
 (s1[k1]?).bind fun x1=>
 some (List.set s1 k1 y1)
def q8Q (a0:(List Symbol)):Option (List Symbol):=
 grd (0≤(a0.length:Int)∧(a0.length:Int)*40≤281474976710656∧(a0.length:Int)≤9223372036854775807) <|
 (eachL z6O 0 a0 (List.replicate a0.length (⟨(⟨#[]⟩:ByteArray),[]⟩:Symbol))).bind fun s1=>
 some s1
def z2a:Nat→ByteArray→((List ByteArray))→Option ((List ByteArray)):=fun k1 xk1 s1=>
 (s1[k1]?).bind fun x1=>
 some (List.set s1 k1 xk1)
def q8R (a0:(List ByteArray)):Option (List ByteArray):=
 grd (0≤(a0.length:Int)∧(a0.length:Int)*16≤281474976710656∧(a0.length:Int)≤9223372036854775807) <|
 (eachL z2a 0 a0 (List.replicate a0.length (⟨#[]⟩:ByteArray))).bind fun s1=>
 some s1
def q6B (a0:Occurrence):Option Occurrence:=
 some a0
def z9m (rec_wtoExpr:Expr→Option Expr):Nat→Expr→((List Expr))→Option ((List Expr)):=fun k1 xk1 s1=>
 (rec_wtoExpr xk1).bind fun y1=>
 (s1[k1]?).bind fun x1=>
 some (List.set s1 k1 y1)
def z1f (rec_wtoExpr:Expr→Option Expr)(a0:(List Expr)):Option (List Expr):=
 grd (0≤(a0.length:Int)∧(a0.length:Int)*88≤281474976710656∧(a0.length:Int)≤9223372036854775807) <|
 (eachL (z9m rec_wtoExpr) 0 a0 (List.replicate a0.length (⟨(0:Int),(0:Int),(0:Int),(0:Int),(⟨#[]⟩:ByteArray),(⟨#[]⟩:ByteArray),[]⟩:Expr))).bind fun s1=>
 some s1
def z0w (rec_wtoExpr:Expr→Option Expr)(a0:Expr):Option Expr:=
 (z1f rec_wtoExpr a0.Args).bind fun y1=>
 some (⟨a0.Kind,a0.N,a0.Pos,a0.Type_,a0.Symbol,a0.Name,y1⟩:Expr)
def q8m:Nat→Expr→Option Expr
  | 0,_=>none
  | n+1,a0=>z0w (q8m n) a0
def z0x (a0:Expr):Option Expr:=recO fun n=>q8m n a0
def q5F (a0:Equation):Option Equation:=
 (q6B a0.At).bind fun y1=>
 (z0x a0.Expr).bind fun y2=>
 some (⟨y1,y2⟩:Equation)
def z4J:Nat→Equation→((List Equation))→Option ((List Equation)):=fun k1 xk1 s1=>
 (q5F xk1).bind fun y1=>
 (s1[k1]?).bind fun x1=>
 some (List.set s1 k1 y1)
def q7m (a0:(List Equation)):Option (List Equation):=
 grd (0≤(a0.length:Int)∧(a0.length:Int)*112≤281474976710656∧(a0.length:Int)≤9223372036854775807) <|
 (eachL z4J 0 a0 (List.replicate a0.length (⟨(⟨(0:Int),(⟨#[]⟩:ByteArray)⟩:Occurrence),(⟨(0:Int),(0:Int),(0:Int),(0:Int),(⟨#[]⟩:ByteArray),(⟨#[]⟩:ByteArray),[]⟩:Expr)⟩:Equation))).bind fun s1=>
 some s1
def q4r (a0:Contribution):Option Contribution:=
 (z0x a0.Target).bind fun y1=>
 (z0x a0.Value).bind fun y2=>
 some (⟨a0.Symbol,a0.Name,y1,y2⟩:Contribution)
def z1x:Nat→Contribution→((List Contribution))→Option ((List Contribution)):=fun k1 xk1 s1=>
 (q4r xk1).bind fun y1=>
 (s1[k1]?).bind fun x1=>
 some (List.set s1 k1 y1)
def q5g (a0:(List Contribution)):Option (List Contribution):=
 grd (0≤(a0.length:Int)∧(a0.length:Int)*208≤281474976710656∧(a0.length:Int)≤9223372036854775807) <|
 (eachL z1x 0 a0 (List.replicate a0.length (⟨(⟨#[]⟩:ByteArray),(⟨#[]⟩:ByteArray),(⟨(0:Int),(0:Int),(0:Int),(0:Int),(⟨#[]⟩:ByteArray),(⟨#[]⟩:ByteArray),[]⟩:Expr),(⟨(0:Int),(0:Int),(0:Int),(0:Int),(⟨#[]⟩:ByteArray),(⟨#[]⟩:ByteArray),[]⟩:Expr)⟩:Contribution))).bind fun s1=>
 some s1
def q9w (a0:Rule):Option Rule:=
 (q8R a0.Right).bind fun y1=>
 (q7m a0.Equations).bind fun y2=>
 (q5g a0.Contributions).bind fun y3=>
 some (⟨a0.Name,a0.Left,y1,a0.Literal,y2,y3⟩:Rule)
def z9n:Nat→Rule→((List Rule))→Option ((List Rule)):=fun k1 xk1 s1=>
 (q9w xk1).bind fun y1=>
 (s1[k1]?).bind fun x1=>
 some (List.set s1 k1 y1)
def z1g (a0:(List Rule)):Option (List Rule):=
 grd (0≤(a0.length:Int)∧(a0.length:Int)*112≤281474976710656∧(a0.length:Int)≤9223372036854775807) <|
 (eachL z9n 0 a0 (List.replicate a0.length (⟨(⟨#[]⟩:ByteArray),(⟨#[]⟩:ByteArray),[],false,[],[]⟩:Rule))).bind fun s1=>
 some s1
def q4Q (a0:Grammar):Option Grammar:=
 (q8Q a0.Symbols).bind fun y1=>
 (z1g a0.Rules).bind fun y2=>
 some (⟨y1,y2⟩:Grammar)
def z6j:Nat→Int→((List Int))→Option ((List Int)):=fun k1 xk1 s1=>
 (s1[k1]?).bind fun x1=>
 some (List.set s1 k1 xk1)
def q7t (a0:(List Int)):Option (List Int):=
 grd (0≤(a0.length:Int)∧(a0.length:Int)*8≤281474976710656∧(a0.length:Int)≤9223372036854775807) <|
 (eachL z6j 0 a0 (List.replicate a0.length (0:Int))).bind fun s1=>
 some s1
def q9x (a0:Node):Option Node:=
 (q7t a0.Children).bind fun y1=>
 some (⟨a0.Id,a0.Parent,a0.Place,a0.Literal,a0.Rule,y1⟩:Node)
def z9o:Nat→Node→((List Node))→Option ((List Node)):=fun k1 xk1 s1=>
 (q9x xk1).bind fun y1=>
 (s1[k1]?).bind fun x1=>
 some (List.set s1 k1 y1)
def z1h (a0:(List Node)):Option (List Node):=
 grd (0≤(a0.length:Int)∧(a0.length:Int)*72≤281474976710656∧(a0.length:Int)≤9223372036854775807) <|
 (eachL z9o 0 a0 (List.replicate a0.length (⟨(0:Int),(0:Int),(0:Int),(0:Int),(⟨#[]⟩:ByteArray),[]⟩:Node))).bind fun s1=>
 some s1
def q7u (a0:Tree):Option Tree:=
 (z1h a0.Nodes).bind fun y1=>
 some (⟨y1⟩:Tree)
def q5G (a0:Instance):Option Instance:=
 some a0
def z4K:Nat→Instance→((List Instance))→Option ((List Instance)):=fun k1 xk1 s1=>
 (q5G xk1).bind fun y1=>
 (s1[k1]?).bind fun x1=>
 some (List.set s1 k1 y1)
def q4o (a0:(List Instance)):Option (List Instance):=
 grd (0≤(a0.length:Int)∧(a0.length:Int)*24≤281474976710656∧(a0.length:Int)≤9223372036854775807) <|
 (eachL z4K 0 a0 (List.replicate a0.length (⟨(0:Int),(⟨#[]⟩:ByteArray)⟩:Instance))).bind fun s1=>
 some s1
def q5c (a0:TraceStep):Option TraceStep:=
 (q5G a0.At).bind fun y1=>
 (q4o a0.Inputs).bind fun y2=>
 some (⟨y1,y2⟩:TraceStep)
def z3D:Nat→TraceStep→((List TraceStep))→Option ((List TraceStep)):=fun k1 xk1 s1=>
 (q5c xk1).bind fun y1=>
 (s1[k1]?).bind fun x1=>
 some (List.set s1 k1 y1)
def q4v (a0:(List TraceStep)):Option (List TraceStep):=
 grd (0≤(a0.length:Int)∧(a0.length:Int)*48≤281474976710656∧(a0.length:Int)≤9223372036854775807) <|
 (eachL z3D 0 a0 (List.replicate a0.length (⟨(⟨(0:Int),(⟨#[]⟩:ByteArray)⟩:Instance),[]⟩:TraceStep))).bind fun s1=>
 some s1
def q4a (a0:Int)(a1:Int)(a2:Int):Option Bool:=
 if a1≤a0 then (
 some (decide (a0≤a2))
 ) else (
 some false
 )
def q6X (a1:Instance):Nat→Instance→Unit→Option (Unit ⊕ Int):=fun k1 xk1 _=>
 if xk1=a1 then (
 some (.inr (k1:Int))
 ) else (
 some (.inl ())
 )
def q6d (a0:(List Instance))(a1:Instance):Option Int:=
 (findL (q6X a1) 0 a0 ()).bind <| onr (fun r1=>some r1) fun _=>
 some (-1)
def q9y (a0:(List Instance))(a1:Instance):Option Bool:=
 (q6d a0 a1).bind fun y1=>
 some (decide (0≤y1))
def q9T (a0:(List TraceStep))(a1:Int):(Int × Int)→Option ((Int × Int) ⊕ Int):=fun (s2,s3)=>
 if s3 < (a0.length:Int) then (
 (
 grd (0≤s3) <|
 (a0[s3.toNat]?).bind fun x1=>
 grd (0≤a1) <|
 (a0[a1.toNat]?).bind fun x2=>
 (q9y x1.Inputs x2.At).bind fun y2=>
 if y2=true then (
 some s3
 ) else (
 some s2
 )
 ).bind fun s4=>
 grd (I64 (s3+1)) <|
 some (.inl (s4,(s3+1)))
 ) else (
 some (.inr s2)
 )
def q9z (a0:(List TraceStep))(a1:Int):Option Int:=
 (q4a a1 0 ((a0.length:Int) - 1)).bind fun y1=>
 if y1=true then (
 grd (I64 (a1+1)) <|
 (q4B (q9T a0 a1) (a1,(a1+1))).bind fun s1=>
 some s1
 ) else (
 some (-1)
 )
def q9j (a0:(List TraceStep))(a1:(List Instance))(a2:(List Int))(k1:Nat)(xk1:Int):Nat→Unit→Option (Unit ⊕ Bool):=fun k2 _=>
 (a2[k2]?).bind fun x1=>
 if x1=xk1 then (
 (q9z a0 (k2:Int)).bind fun y1=>
 if (k1:Int) < y1 then (
 some (.inr false)
 ) else (
 (a0[k2]?).bind fun x2=>
 (q9y a1 x2.At).bind fun y2=>
 if y2=true then (
 some (.inr false)
 ) else (
 some (.inl ())
 )
 )
 ) else (
 some (.inl ())
 )
def q9k (a0:(List TraceStep))(a1:(List Instance))(a2:(List Int)):Nat→Int→Unit→Option (Unit ⊕ Bool):=fun k1 xk1 _=>
 if xk1 < 0 then (
 some (.inr false)
 ) else (
 (findN (q9j a0 a1 a2 k1 xk1) 0 k1 ()).bind <| onr (fun r1=>some (.inr r1)) fun _=>
 some (.inl ())
 )
def q6C (a0:(List TraceStep))(a1:(List Instance))(a2:(List Int)):Option Bool:=
 if (a2.length:Int)=(a0.length:Int) then (
 (findL (q9k a0 a1 a2) 0 a2 ()).bind <| onr (fun r2=>some r2) fun _=>
 some true
 ) else (
 some false
 )
def z2b (a1:Int):Nat→Node→Unit→Option (Unit ⊕ Int):=fun k1 xk1 _=>
 if xk1.Id=a1 then (
 some (.inr (k1:Int))
 ) else (
 some (.inl ())
 )
def q5p (a0:Tree)(a1:Int):Option Int:=
 (findL (z2b a1) 0 a0.Nodes ()).bind <| onr (fun r1=>some r1) fun _=>
 some (-1)
def q7X (rec_sl4Copy:Expr→Option Expr):Nat→Expr→((List Expr))→Option ((List Expr)):=fun k1 xk1 s1=>
 (rec_sl4Copy xk1).bind fun y1=>
 grd (((s1.length:Int)+1)*88≤140737488355328∧(s1.length:Int)+1≤9223372036854775807) <|
 some (s1++[y1])
def q6D (rec_sl4Copy:Expr→Option Expr)(a0:Expr):Option Expr:=
 (eachL (q7X rec_sl4Copy) 0 a0.Args ([]:List Expr)).bind fun s1=>
 some (⟨a0.Kind,a0.N,a0.Pos,a0.Type_,a0.Symbol,a0.Name,s1⟩:Expr)
def q4w:Nat→Expr→Option Expr
  | 0,_=>none
  | n+1,a0=>q6D (q4w n) a0
def q8n (a0:Expr):Option Expr:=recO fun n=>q4w n a0
def z6k:Nat→Equation→((List Equation))→Option ((List Equation)):=fun k1 xk1 s1=>
 (q8n xk1.Expr).bind fun y1=>
 grd (((s1.length:Int)+1)*112≤140737488355328∧(s1.length:Int)+1≤9223372036854775807) <|
 some (s1++[(⟨xk1.At,y1⟩:Equation)])
def z6l:Nat→Contribution→((List Contribution))→Option ((List Contribution)):=fun k2 xk2 s2=>
 (q8n xk2.Target).bind fun y2=>
 (q8n xk2.Value).bind fun y3=>
 grd (((s2.length:Int)+1)*208≤140737488355328∧(s2.length:Int)+1≤9223372036854775807) <|
 some (s2++[(⟨xk2.Symbol,xk2.Name,y2,y3⟩:Contribution)])
def q9A (a0:Rule):Option Rule:=
 grd (((([]:List ByteArray).length:Int)+(a0.Right.length:Int))*16≤140737488355328∧(([]:List ByteArray).length:Int)+(a0.Right.length:Int)≤9223372036854775807) <|
 (eachL z6k 0 a0.Equations ([]:List Equation)).bind fun s1=>
 (eachL z6l 0 a0.Contributions ([]:List Contribution)).bind fun s2=>
 some (⟨a0.Name,a0.Left,a0.Right,a0.Literal,s1,s2⟩:Rule)
def z0y (a1:ByteArray):Nat→Rule→Unit→Option (Unit ⊕ (Rule × Bool)):=fun k1 xk1 _=>
 if xk1.Name=a1 then (
 (q9A xk1).bind fun y1=>
 some (.inr (y1,true))
 ) else (
 some (.inl ())
 )
def q6Y (a0:Grammar)(a1:ByteArray):Option (Rule × Bool):=
 (findL (z0y a1) 0 a0.Rules ()).bind <| onr (fun r1=>some r1) fun _=>
 some ((⟨(⟨#[]⟩:ByteArray),(⟨#[]⟩:ByteArray),[],false,[],[]⟩:Rule),false)
def q5q (a0:Grammar)(a1:Tree)(a2:Int):Option ByteArray:=
 (q4a a2 0 ((a1.Nodes.length:Int) - 1)).bind fun y1=>
 if y1=true then (
 grd (0≤a2) <|
 (a1.Nodes[a2.toNat]?).bind fun x1=>
 (q6Y a0 x1.Rule).bind fun (y2,y3)=>
 some y2.Left
 ) else (
 some (⟨#[]⟩:ByteArray)
 )
def q7v (a0:Symbol):Option Symbol:=
 grd (((([]:List Attribute).length:Int)+(a0.Attributes.length:Int))*40≤140737488355328∧(([]:List Attribute).length:Int)+(a0.Attributes.length:Int)≤9223372036854775807) <|
 some a0
def q9l (a1:ByteArray):Nat→Symbol→Unit→Option (Unit ⊕ (Symbol × Bool)):=fun k1 xk1 _=>
 if xk1.Name=a1 then (
 (q7v xk1).bind fun y1=>
 some (.inr (y1,true))
 ) else (
 some (.inl ())
 )
def q6E (a0:Grammar)(a1:ByteArray):Option (Symbol × Bool):=
 (findL (q9l a1) 0 a0.Symbols ()).bind <| onr (fun r1=>some r1) fun _=>
 some ((⟨(⟨#[]⟩:ByteArray),[]⟩:Symbol),false)
def z2N (a1:ByteArray):Nat→Attribute→Unit→Option (Unit ⊕ (Attribute × Bool)):=fun k1 xk1 _=>
 if xk1.Name=a1 then (
 some (.inr (xk1,true))
 ) else (
 some (.inl ())
 )
def q6e (a0:Symbol)(a1:ByteArray):Option (Attribute × Bool):=
 (findL (z2N a1) 0 a0.Attributes ()).bind <| onr (fun r1=>some r1) fun _=>
 some ((⟨(⟨#[]⟩:ByteArray),0,0,false⟩:Attribute),false)
def q5U (a0:Grammar)(a1:Tree)(a2:Instance):Option (Attribute × Bool):=
 (q5p a1 a2.Node).bind fun y1=>
 if y1 < 0 then (
 some ((⟨(⟨#[]⟩:ByteArray),0,0,false⟩:Attribute),false)
 ) else (
 (q5p a1 a2.Node).bind fun y2=>
 (q5q a0 a1 y2).bind fun y3=>
 (q6E a0 y3).bind fun (y4,y5)=>
 (q6e y4 a2.Name).bind fun (y6,y7)=>
 some (y6,y7)
 )
def q4A (a1:Occurrence):Nat→Equation→Unit→Option (Unit ⊕ (Expr × Bool)):=fun k1 xk1 _=>
 if xk1.At=a1 then (
 (q8n xk1.Expr).bind fun y1=>
 some (.inr (y1,true))
 ) else (
 some (.inl ())
 )
def q4d (a0:Rule)(a1:Occurrence):Option (Expr × Bool):=
 (findL (q4A a1) 0 a0.Equations ()).bind <| onr (fun r1=>some r1) fun _=>
 some ((⟨0,0,0,0,(⟨#[]⟩:ByteArray),(⟨#[]⟩:ByteArray),[]⟩:Expr),false)
def q4K (a0:Grammar)(a1:Tree)(a2:Instance):Option (Definition × Bool):=
 (q5U a0 a1 a2).bind fun (y1,y2)=>
 (q5p a1 a2.Node).bind fun y3=>
 if y2=true then (
 if y1.Mode=3 then (
 some ((⟨0,(⟨0,0,0,0,(⟨#[]⟩:ByteArray),(⟨#[]⟩:ByteArray),[]⟩:Expr)⟩:Definition),false)
 ) else (
 (
 if y1.Mode=1 then (
 grd (0≤y3) <|
 (a1.Nodes[y3.toNat]?).bind fun x1=>
 some (x1.Parent,x1.Place)
 ) else (
 some (y3,0)
 )
 ).bind fun (s1,s2)=>
 (q4a s1 0 ((a1.Nodes.length:Int) - 1)).bind fun y4=>
 if y4=true then (
 grd (0≤s1) <|
 (a1.Nodes[s1.toNat]?).bind fun x2=>
 (q6Y a0 x2.Rule).bind fun (y5,y6)=>
 (q4d y5 (⟨s2,a2.Name⟩:Occurrence)).bind fun (y7,y8)=>
 if y8=true then (
 some ((⟨s1,y7⟩:Definition),true)
 ) else (
 some ((⟨0,(⟨0,0,0,0,(⟨#[]⟩:ByteArray),(⟨#[]⟩:ByteArray),[]⟩:Expr)⟩:Definition),false)
 )
 ) else (
 some ((⟨0,(⟨0,0,0,0,(⟨#[]⟩:ByteArray),(⟨#[]⟩:ByteArray),[]⟩:Expr)⟩:Definition),false)
 )
 )
 ) else (
 some ((⟨0,(⟨0,0,0,0,(⟨#[]⟩:ByteArray),(⟨#[]⟩:ByteArray),[]⟩:Expr)⟩:Definition),false)
 )
def q8o (a0:Occurrence)(a1:Occurrence):Option Bool:=
 (
 if a0.Pos < a1.Pos then (
 some true
 ) else (
 (
 if a0.Pos=a1.Pos then (
 some (Op.bytesLess a0.Name.toList a1.Name.toList)
 ) else (
 some false
 )
 ).bind fun s2=>
 some s2
 )
 ).bind fun s1=>
 some s1
def q8p (a0:(List Occurrence))(a1:Occurrence):Int→Option (Int ⊕ Int):=fun s2=>
 if s2 < (a0.length:Int) then (
 grd (0≤s2) <|
 (a0[s2.toNat]?).bind fun x1=>
 (q8o x1 a1).bind fun y1=>
 if y1=true then (
 grd (I64 (s2+1)) <|
 some (.inl (s2+1))
 ) else (
 some (.inr s2)
 )
 ) else (
 some (.inr s2)
 )
def z2c (a0:(List Occurrence))(a1:Occurrence):Option (List Occurrence):=
 (q4B (q8p a0 a1) 0).bind fun s1=>
 if s1 < (a0.length:Int) then (
 grd (0≤s1) <|
 (a0[s1.toNat]?).bind fun x2=>
 if x2=a1 then (
 some a0
 ) else (
 grd (0≤s1) <|
 grd (s1.toNat≤a0.length) <|
 grd (((([]:List Occurrence).length:Int)+((a0.take s1.toNat).length:Int))*24≤140737488355328∧(([]:List Occurrence).length:Int)+((a0.take s1.toNat).length:Int)≤9223372036854775807) <|
 grd ((((a0.take s1.toNat).length:Int)+1)*24≤140737488355328∧((a0.take s1.toNat).length:Int)+1≤9223372036854775807) <|
 grd (0≤s1) <|
 grd (s1.toNat≤a0.length) <|
 grd (((((a0.take s1.toNat)++[a1]).length:Int)+((a0.drop s1.toNat).length:Int))*24≤140737488355328∧(((a0.take s1.toNat)++[a1]).length:Int)+((a0.drop s1.toNat).length:Int)≤9223372036854775807) <|
 some (((a0.take s1.toNat)++[a1])++(a0.drop s1.toNat))
 )
 ) else (
 grd (0≤s1) <|
 grd (s1.toNat≤a0.length) <|
 grd (((([]:List Occurrence).length:Int)+((a0.take s1.toNat).length:Int))*24≤140737488355328∧(([]:List Occurrence).length:Int)+((a0.take s1.toNat).length:Int)≤9223372036854775807) <|
 grd ((((a0.take s1.toNat).length:Int)+1)*24≤140737488355328∧((a0.take s1.toNat).length:Int)+1≤9223372036854775807) <|
 grd (0≤s1) <|
 grd (s1.toNat≤a0.length) <|
 grd (((((a0.take s1.toNat)++[a1]).length:Int)+((a0.drop s1.toNat).length:Int))*24≤140737488355328∧(((a0.take s1.toNat)++[a1]).length:Int)+((a0.drop s1.toNat).length:Int)≤9223372036854775807) <|
 some (((a0.take s1.toNat)++[a1])++(a0.drop s1.toNat))
 )
def q7Y (rec_sl4Uses:Expr→(List Occurrence)→Option (List Occurrence)):Nat→Expr→((List Occurrence))→Option ((List Occurrence)):=fun k1 xk1 s1=>
 (rec_sl4Uses xk1 s1).bind fun y2=>
 some y2
def z2O (rec_sl4Uses:Expr→(List Occurrence)→Option (List Occurrence)):Nat→Expr→((List Occurrence))→Option ((List Occurrence)):=fun k2 xk2 s2=>
 (rec_sl4Uses xk2 s2).bind fun y3=>
 some y3
def q7w (rec_sl4Uses:Expr→(List Occurrence)→Option (List Occurrence))(a0:Expr)(a1:(List Occurrence)):Option (List Occurrence):=
 if a0.Kind=3 then (
 (z2c a1 (⟨a0.Pos,a0.Name⟩:Occurrence)).bind fun y1=>
 (eachL (q7Y rec_sl4Uses) 0 a0.Args y1).bind fun s1=>
 some s1
 ) else (
 (eachL (z2O rec_sl4Uses) 0 a0.Args a1).bind fun s2=>
 some s2
 )
def q4C:Nat→Expr→(List Occurrence)→Option (List Occurrence)
  | 0,_,_=>none
  | n+1,a0,a1=>q7w (q4C n) a0 a1
def z4L (a0:Expr)(a1:(List Occurrence)):Option (List Occurrence):=recO fun n=>q4C n a0 a1
def q4X (a0:Expr):Option (List Occurrence):=
 (z4L a0 []).bind fun y1=>
 some y1
def q6F (a0:Grammar)(a1:Tree)(a2:Int)(a3:Occurrence):Option (Instance × Bool):=
 (q4a a2 0 ((a1.Nodes.length:Int) - 1)).bind fun y1=>
 if y1=true then (
 grd (0≤a2) <|
 (a1.Nodes[a2.toNat]?).bind fun x1=>
 (q4a a3.Pos 0 (x1.Children.length:Int)).bind fun y2=>
 if y2=true then (
 if 0 < a3.Pos then (
 grd (I64 (a3.Pos - 1)) <|
 grd (0≤(a3.Pos - 1)) <|
 (x1.Children[(a3.Pos - 1).toNat]?).bind fun x2=>
 (q4a x2 0 ((a1.Nodes.length:Int) - 1)).bind fun y3=>
 if y3=true then (
 grd (0≤x2) <|
 (a1.Nodes[x2.toNat]?).bind fun x3=>
 some ((⟨x3.Id,a3.Name⟩:Instance),true)
 ) else (
 some ((⟨0,(⟨#[]⟩:ByteArray)⟩:Instance),false)
 )
 ) else (
 (q4a a2 0 ((a1.Nodes.length:Int) - 1)).bind fun y4=>
 if y4=true then (
 some ((⟨x1.Id,a3.Name⟩:Instance),true)
 ) else (
 some ((⟨0,(⟨#[]⟩:ByteArray)⟩:Instance),false)
 )
 )
 ) else (
 some ((⟨0,(⟨#[]⟩:ByteArray)⟩:Instance),false)
 )
 ) else (
 some ((⟨0,(⟨#[]⟩:ByteArray)⟩:Instance),false)
 )
def q9U (a0:(List TraceStep))(a2:Instance):Nat→Int→Option Int:=fun k1 s1=>
 (
 (a0[k1]?).bind fun x1=>
 if x1.At=a2 then (
 some (k1:Int)
 ) else (
 some s1
 )
 ).bind fun s2=>
 some s2
def q7x (a0:(List TraceStep))(a1:Int)(a2:Instance):Option Int:=
 (eachN (q9U a0 a2) 0 a1.toNat (-1)).bind fun s1=>
 some s1
def q7Z (a0:(List TraceStep))(a1:(List Int))(a2:(List Int))(a3:Int)(a4:Instance):Option Int:=
 (q7x a0 a3 a4).bind fun y1=>
 if y1 < 0 then (
 some 0
 ) else (
 grd (0≤y1) <|
 (a1[y1.toNat]?).bind fun x1=>
 grd (0≤x1) <|
 (a2[x1.toNat]?).bind fun x2=>
 some x2
 )
def z1y (a0:Tree):Nat→Int→((List Int))→Option ((List Int)):=fun k1 xk1 s1=>
 (
 (q4a xk1 0 ((a0.Nodes.length:Int) - 1)).bind fun y2=>
 if y2=true then (
 grd (0≤xk1) <|
 (a0.Nodes[xk1.toNat]?).bind fun x2=>
 grd (((s1.length:Int)+1)*8≤140737488355328∧(s1.length:Int)+1≤9223372036854775807) <|
 some (s1++[x2.Id])
 ) else (
 some s1
 )
 ).bind fun s2=>
 some s2
def q8a (a0:Tree)(a1:Int):Option (List Int):=
 (q4a a1 0 ((a0.Nodes.length:Int) - 1)).bind fun y1=>
 if y1=true then (
 grd (0≤a1) <|
 (a0.Nodes[a1.toNat]?).bind fun x1=>
 grd (((([]:List Int).length:Int)+1)*8≤140737488355328∧(([]:List Int).length:Int)+1≤9223372036854775807) <|
 (eachL (z1y a0) 0 x1.Children (([]:List Int)++[x1.Id])).bind fun s1=>
 some s1
 ) else (
 some []
 )
def q8b (rec_sl4Left:Expr→Int→Option Int)(a0:Expr):(Int × Int)→Option ((Int × Int) ⊕ Int):=fun (s2,s3)=>
 if s3 < (a0.Args.length:Int) then (
 if 0≤s2 then (
 grd (0≤s3) <|
 (a0.Args[s3.toNat]?).bind fun x1=>
 (rec_sl4Left x1 s2).bind fun y1=>
 grd (I64 (s3+1)) <|
 some (.inl (y1,(s3+1)))
 ) else (
 some (.inr s2)
 )
 ) else (
 some (.inr s2)
 )
def z0z (rec_sl4Left:Expr→Int→Option Int)(a0:Expr)(a1:Int):Option Int:=
 grd (I64 (a1 - 1)) <|
 (q4B (q8b rec_sl4Left a0) ((a1 - 1),0)).bind fun s1=>
 some s1
def q8q:Nat→Expr→Int→Option Int
  | 0,_,_=>none
  | n+1,a0,a1=>z0z (q8q n) a0 a1
def z4M (a0:Expr)(a1:Int):Option Int:=recO fun n=>q8q n a0 a1
def q8S (a0:Int)(a1:Int):Option Int:=
 if a1 < a0 then (
 some a0
 ) else (
 some a1
 )
def q8r (rec_sDepthOfExpr:Expr→Option Int):Nat→Expr→Int→Option Int:=fun k1 xk1 s1=>
 (rec_sDepthOfExpr xk1).bind fun y1=>
 (q8S s1 y1).bind fun y2=>
 some y2
def q5V (rec_sDepthOfExpr:Expr→Option Int)(a0:Expr):Option Int:=
 (eachL (q8r rec_sDepthOfExpr) 0 a0.Args 0).bind fun s1=>
 grd (I64 (s1+1)) <|
 some (s1+1)
def q4p:Nat→Expr→Option Int
  | 0,_=>none
  | n+1,a0=>q5V (q4p n) a0
def q9m (a0:Expr):Option Int:=recO fun n=>q4p n a0
def z0A (a0:Expr):Option Bool:=
 (
 if a0.Kind=4 then (
 some 2
 ) else (
 if a0.Kind=5 then (
 some 3
 ) else (
 if a0.Kind=8 then (
 some 1
 ) else (
 some 0
 )
 )
 )
 ).bind fun s1=>
 if (a0.Args.length:Int)=s1 then (
 (
 if a0.Kind=3 then (
 some true
 ) else (
 some (decide (a0.Kind=6))
 )
 ).bind fun s2=>
 (
 if a0.Kind=3 then (
 some true
 ) else (
 some (decide (a0.Kind=8))
 )
 ).bind fun s3=>
 (
 if a0.Kind=1 then (
 some true
 ) else (
 some (decide (a0.Kind=4))
 )
 ).bind fun s4=>
 (
 if s2=true then (
 some true
 ) else (
 some (decide (a0.Pos=0))
 )
 ).bind fun s5=>
 (
 if s5=true then (
 (
 if s3=true then (
 some true
 ) else (
 some (decide (a0.Name=(⟨#[]⟩:ByteArray)))
 )
 ).bind fun s7=>
 some s7
 ) else (
 some false
 )
 ).bind fun s6=>
 (
 if s6=true then (
 (
 if s4=true then (
 some true
 ) else (
 some (decide (a0.N=0))
 )
 ).bind fun s9=>
 some s9
 ) else (
 some false
 )
 ).bind fun s8=>
 (
 if s8=true then (
 (
 if a0.Kind=1 then (
 some true
 ) else (
 some (decide (a0.Type_=0))
 )
 ).bind fun s11=>
 some s11
 ) else (
 some false
 )
 ).bind fun s10=>
 (
 if s10=true then (
 (
 if a0.Kind=8 then (
 some true
 ) else (
 some (decide (a0.Symbol=(⟨#[]⟩:ByteArray)))
 )
 ).bind fun s13=>
 some s13
 ) else (
 some false
 )
 ).bind fun s12=>
 some s12
 ) else (
 some false
 )
def z1i (a0:Int)(a1:Int):Option Int:=
 if a0 < a1 then (
 some a0
 ) else (
 some a1
 )
def q5r (a0:Int):Option Int:=
 (z1i 1000000 a0).bind fun y1=>
 (q8S (-1000000) y1).bind fun y2=>
 some y2
def q5H (a0:Bool):Option Int:=
 if a0=true then (
 some 1
 ) else (
 some 0
 )
def q8s (a0:Int)(a1:Int):Option Int:=
 if a1=1 then (
 (q5r a0).bind fun y1=>
 some y1
 ) else (
 if a1=2 then (
 some (z4p a0 4095)
 ) else (
 if a1=3 then (
 (q5H (!(decide (a0=0)))).bind fun y2=>
 some y2
 ) else (
 if a1=4 then (
 (q4a a0 0 999).bind fun y3=>
 if y3=true then (
 some a0
 ) else (
 some 0
 )
 ) else (
 some 0
 )
 )
 )
 )
def q8t (a0:Int)(a1:Int):Option Bool:=
 (q4a a1 1 4).bind fun y1=>
 if y1=true then (
 (q8s a0 a1).bind fun y2=>
 some (decide (y2=a0))
 ) else (
 some false
 )
def z4N (a0:ByteArray):Nat→Unit→Option (Unit ⊕ Bool):=fun k1 _=>
 (a0.data[k1]?).bind fun x1=>
 (
 if 97≤(x1.toNat:Int) then (
 some (decide ((x1.toNat:Int)≤122))
 ) else (
 some false
 )
 ).bind fun s1=>
 (
 if 48≤(x1.toNat:Int) then (
 some (decide ((x1.toNat:Int)≤57))
 ) else (
 some false
 )
 ).bind fun s2=>
 (
 if s1=true then (
 some false
 ) else (
 (
 if (k1:Int)=0 then (
 some (true,true)
 ) else (
 some (false,!s2)
 )
 ).bind fun (s4,s5)=>
 some s5
 )
 ).bind fun s3=>
 if s3=true then (
 some (.inr false)
 ) else (
 some (.inl ())
 )
def z1j (a0:ByteArray):Option Bool:=
 (findN (z4N a0) 0 a0.size ()).bind <| onr (fun r1=>some r1) fun _=>
 some (decide (0 < (a0.size:Int)))
def q7Q:Option (List ByteArray):=
 some [(⟨#[105,102]⟩:ByteArray),(⟨#[116,104,101,110]⟩:ByteArray),(⟨#[101,108,115,101]⟩:ByteArray),(⟨#[116,114,117,101]⟩:ByteArray),(⟨#[102,97,108,115,101]⟩:ByteArray),(⟨#[108,105,116]⟩:ByteArray),(⟨#[110,111,110,101]⟩:ByteArray),(⟨#[115,101,108,102]⟩:ByteArray),(⟨#[111,102]⟩:ByteArray),(⟨#[109,97,120]⟩:ByteArray),(⟨#[109,105,110]⟩:ByteArray),(⟨#[119,105,116,104]⟩:ByteArray),(⟨#[104,97,115]⟩:ByteArray)]
def z4O (a1:ByteArray):Nat→ByteArray→Unit→Option (Unit ⊕ Bool):=fun k1 xk1 _=>
 if xk1=a1 then (
 some (.inr true)
 ) else (
 some (.inl ())
 )
def z2d (a0:(List ByteArray))(a1:ByteArray):Option Bool:=
 (findL (z4O a1) 0 a0 ()).bind <| onr (fun r1=>some r1) fun _=>
 some false
def q6G (a0:ByteArray):Option Bool:=
 (q7Q).bind fun y1=>
 (z2d y1 a0).bind fun y2=>
 some y2
def q4H (a0:ByteArray):Option Bool:=
 (z1j a0).bind fun y1=>
 (
 if y1=true then (
 some (decide ((a0.size:Int)≤8))
 ) else (
 some false
 )
 ).bind fun s1=>
 (
 if s1=true then (
 (q6G a0).bind fun y2=>
 some (!y2)
 ) else (
 some false
 )
 ).bind fun s2=>
 some s2
def z0B (a0:Expr):Option Bool:=
 (q4a a0.Kind 1 8).bind fun y1=>
 (
 if y1=true then (
 (z0A a0).bind fun y2=>
 some (!y2)
 ) else (
 some true
 )
 ).bind fun s1=>
 if s1=true then (
 some false
 ) else (
 if a0.Kind=1 then (
 (q4a a0.Type_ 1 3).bind fun y3=>
 (
 if y3=true then (
 (q8t a0.N a0.Type_).bind fun y4=>
 some y4
 ) else (
 some false
 )
 ).bind fun s2=>
 (
 if s2=true then (
 some (decide (0≤a0.N))
 ) else (
 some false
 )
 ).bind fun s3=>
 some s3
 ) else (
 if a0.Kind=3 then (
 (q4a a0.Pos 0 3).bind fun y5=>
 (
 if y5=true then (
 (q4H a0.Name).bind fun y6=>
 some y6
 ) else (
 some false
 )
 ).bind fun s4=>
 some s4
 ) else (
 if a0.Kind=6 then (
 (q4a a0.Pos 0 3).bind fun y7=>
 some y7
 ) else (
 if a0.Kind=4 then (
 (q4a a0.N 1 12).bind fun y8=>
 some y8
 ) else (
 if a0.Kind=8 then (
 (q4H a0.Symbol).bind fun y9=>
 (
 if y9=true then (
 (q4H a0.Name).bind fun y10=>
 some y10
 ) else (
 some false
 )
 ).bind fun s5=>
 some s5
 ) else (
 some true
 )
 )
 )
 )
 )
 )
def z8g (rec_sl4All:Expr→Option Bool):Nat→Expr→Unit→Option (Unit ⊕ Bool):=fun k1 xk1 _=>
 (rec_sl4All xk1).bind fun y1=>
 if y1=true then (
 some (.inl ())
 ) else (
 some (.inr false)
 )
def z2e (rec_sl4All:Expr→Option Bool)(a0:Expr):Option Bool:=
 (findL (z8g rec_sl4All) 0 a0.Args ()).bind <| onr (fun r1=>some r1) fun _=>
 (z0B a0).bind fun y2=>
 some y2
def z2f:Nat→Expr→Option Bool
  | 0,_=>none
  | n+1,a0=>z2e (z2f n) a0
def z6P (a0:Expr):Option Bool:=recO fun n=>z2f n a0
def q5W (a0:Expr):Option Bool:=
 (z4M a0 24).bind fun y1=>
 (
 if 0≤y1 then (
 (q9m a0).bind fun y2=>
 some (decide (y2≤6))
 ) else (
 some false
 )
 ).bind fun s1=>
 (
 if s1=true then (
 (z6P a0).bind fun y3=>
 some y3
 ) else (
 some false
 )
 ).bind fun s2=>
 some s2
def z6Q (a1:Occurrence):Nat→Slot→Unit→Option (Unit ⊕ Int):=fun k1 xk1 _=>
 if xk1.At=a1 then (
 some (.inr xk1.Value)
 ) else (
 some (.inl ())
 )
def q8T (a0:(List Slot))(a1:Occurrence):Option Int:=
 (findL (z6Q a1) 0 a0 ()).bind <| onr (fun r1=>some r1) fun _=>
 some 0
def q5s (a0:Int):Option (Int × Int × Int):=
 (q4a a0 1 5).bind fun y1=>
 if y1=true then (
 some (1,1,1)
 ) else (
 (q4a a0 6 8).bind fun y2=>
 if y2=true then (
 some (2,2,2)
 ) else (
 if a0=9 then (
 some (1,1,3)
 ) else (
 if a0=10 then (
 some (1,1,3)
 ) else (
 if a0=11 then (
 some (2,1,3)
 ) else (
 if a0=12 then (
 some (2,1,2)
 ) else (
 some (0,0,0)
 )
 )
 )
 )
 )
 )
def q9B (a0:Int)(a1:Int)(a2:Int):Option Int:=
 (q5s a0).bind fun (y1,y2,y3)=>
 (q8s a1 y1).bind fun y4=>
 (q8s a2 y2).bind fun y5=>
 if a0=1 then (
 grd (I64 (y4+y5)) <|
 (q5r (y4+y5)).bind fun y6=>
 some y6
 ) else (
 if a0=2 then (
 grd (I64 (y4 - y5)) <|
 (q5r (y4 - y5)).bind fun y7=>
 some y7
 ) else (
 if a0=3 then (
 grd (I64 (y4*y5)) <|
 (q5r (y4*y5)).bind fun y8=>
 some y8
 ) else (
 if a0=4 then (
 (q8S y4 y5).bind fun y9=>
 some y9
 ) else (
 if a0=5 then (
 (z1i y4 y5).bind fun y10=>
 some y10
 ) else (
 if a0=6 then (
 grd (0≤y4∧0≤y5) <|
 some ((y4.toNat ||| y5.toNat:Nat):Int)
 ) else (
 if a0=7 then (
 grd (0≤y4∧0≤y5) <|
 some ((y4.toNat &&& y5.toNat:Nat):Int)
 ) else (
 if a0=8 then (
 some (z1a y4 y5)
 ) else (
 if a0=9 then (
 (q5H (decide (y4 < y5))).bind fun y11=>
 some y11
 ) else (
 if a0=10 then (
 (q5H (decide (y4=y5))).bind fun y12=>
 some y12
 ) else (
 if a0=11 then (
 (q4a y5 0 11).bind fun y13=>
 if y13=true then (
 (q8S y5 0).bind fun y14=>
 grd (0≤y14) <|
 grd (0≤y4∧0≤y14∧y14 < 64) <|
 grd (0≤((y4.toNat >>> y14.toNat:Nat):Int)∧0≤(1:Int)) <|
 (q5H (decide (((((y4.toNat >>> y14.toNat:Nat):Int).toNat &&& (1:Int).toNat:Nat):Int)=1))).bind fun y15=>
 some y15
 ) else (
 (q5H false).bind fun y16=>
 some y16
 )
 ) else (
 if a0=12 then (
 (q4a y5 0 11).bind fun y17=>
 if y17=true then (
 grd (0≤y5) <|
 grd (0≤y5∧y5 < 63) <|
 grd (0≤y4∧0≤((2 ^ y5.toNat:Nat):Int)) <|
 some ((y4.toNat ||| ((2 ^ y5.toNat:Nat):Int).toNat:Nat):Int)
 ) else (
 some y4
 )
 ) else (
 some 0
 )
 )
 )
 )
 )
 )
 )
 )
 )
 )
 )
 )
def q9C (rec_sl19Eval:Expr→(List Slot)→Int→(List Int)→Option Int)(a0:Expr)(a1:(List Slot))(a2:Int)(a3:(List Int)):Option Int:=
 if a0.Kind=1 then (
 some a0.N
 ) else (
 if a0.Kind=2 then (
 some a2
 ) else (
 if a0.Kind=3 then (
 (q8T a1 (⟨a0.Pos,a0.Name⟩:Occurrence)).bind fun y1=>
 some y1
 ) else (
 if a0.Kind=4 then (
 (a0.Args[0]?).bind fun x1=>
 (rec_sl19Eval x1 a1 a2 a3).bind fun y2=>
 (a0.Args[1]?).bind fun x2=>
 (rec_sl19Eval x2 a1 a2 a3).bind fun y3=>
 (q9B a0.N y2 y3).bind fun y4=>
 some y4
 ) else (
 if a0.Kind=5 then (
 (a0.Args[0]?).bind fun x3=>
 (rec_sl19Eval x3 a1 a2 a3).bind fun y5=>
 if y5=0 then (
 (a0.Args[2]?).bind fun x4=>
 (rec_sl19Eval x4 a1 a2 a3).bind fun y6=>
 some y6
 ) else (
 (a0.Args[1]?).bind fun x5=>
 (rec_sl19Eval x5 a1 a2 a3).bind fun y7=>
 some y7
 )
 ) else (
 if a0.Kind=6 then (
 (q4a a0.Pos 0 ((a3.length:Int) - 1)).bind fun y8=>
 if y8=true then (
 grd (0≤a0.Pos) <|
 (a3[a0.Pos.toNat]?).bind fun x6=>
 some x6
 ) else (
 some 0
 )
 ) else (
 some 0
 )
 )
 )
 )
 )
 )
def q8c:Nat→Expr→(List Slot)→Int→(List Int)→Option Int
  | 0,_,_,_,_=>none
  | n+1,a0,a1,a2,a3=>q9C (q8c n) a0 a1 a2 a3
def z2P (a0:Expr)(a1:(List Slot))(a2:Int)(a3:(List Int)):Option Int:=recO fun n=>q8c n a0 a1 a2 a3
def q7y (a0:Expr)(a1:(List Slot))(a2:Int)(a3:(List Int)):Option Int:=
 (q5W a0).bind fun y1=>
 if y1=true then (
 (z2P a0 a1 a2 a3).bind fun y2=>
 some y2
 ) else (
 some 0
 )
def z0C (a0:Grammar)(a1:Tree)(a2:(List TraceStep))(a3:(List Int))(s1:List Int)(k1:Nat)(y2:Definition):Nat→Occurrence→((List Slot))→Option ((List Slot)):=fun k2 xk2 s2=>
 (q6F a0 a1 y2.Owner xk2).bind fun (y5,y6)=>
 (q7Z a2 a3 s1 (k1:Int) y5).bind fun y7=>
 grd (((s2.length:Int)+1)*32≤140737488355328∧(s2.length:Int)+1≤9223372036854775807) <|
 some (s2++[(⟨xk2,y7⟩:Slot)])
def q5t (a0:Grammar)(a1:Tree)(a2:(List TraceStep))(a3:(List Int)):Nat→TraceStep→((List Int))→Option (((List Int)) ⊕ ((List Int) × Bool)):=fun k1 xk1 s1=>
 (q4K a0 a1 xk1.At).bind fun (y2,y3)=>
 if y3=true then (
 (a3[k1]?).bind fun x1=>
 if (s1.length:Int)≤x1 then (
 some (.inr ([],false))
 ) else (
 (q4X y2.Expr).bind fun y4=>
 (eachL (z0C a0 a1 a2 a3 s1 k1 y2) 0 y4 ([]:List Slot)).bind fun s2=>
 grd (0≤y2.Owner) <|
 (a1.Nodes[y2.Owner.toNat]?).bind fun x2=>
 (q8a a1 y2.Owner).bind fun y8=>
 (q7y y2.Expr s2 x2.Literal y8).bind fun y9=>
 grd (0≤x1) <|
 (s1[x1.toNat]?).bind fun x3=>
 some (.inl (List.set s1 x1.toNat y9))
 )
 ) else (
 some (.inr ([],false))
 )
def z0D (a2:(List TraceStep))(a3:(List Int))(s1:List Int):Nat→Instance→((List Int))→Option ((List Int)):=fun k3 xk3 s3=>
 (q7Z a2 a3 s1 (a2.length:Int) xk3).bind fun y10=>
 grd (((s3.length:Int)+1)*8≤140737488355328∧(s3.length:Int)+1≤9223372036854775807) <|
 some (s3++[y10])
def q8u (a0:Grammar)(a1:Tree)(a2:(List TraceStep))(a3:(List Int))(a4:(List Instance)):Option ((List Int) × Bool):=
 (q6C a2 a4 a3).bind fun y1=>
 if y1=true then (
 grd (0≤(a2.length:Int)∧(a2.length:Int)*8≤281474976710656∧(a2.length:Int)≤9223372036854775807) <|
 (findL (q5t a0 a1 a2 a3) 0 a2 (List.replicate a2.length (0:Int))).bind <| onr (fun r1=>some r1) fun s1=>
 (eachL (z0D a2 a3 s1) 0 a4 ([]:List Int)).bind fun s3=>
 some (s3,true)
 ) else (
 some ([],false)
 )
def q6H (a0:Int):Option Bool:=
 some (decide (a0 < 0))
def q3P:Nat→Int→Unit→Option (Unit ⊕ Int):=fun k1 xk1 _=>
 (q6H xk1).bind fun y1=>
 if y1=true then (
 some (.inr (k1:Int))
 ) else (
 some (.inl ())
 )
def q3F (a0:(List Int)):Option Int:=
 (findL q3P 0 a0 ()).bind <| onr (fun r1=>some r1) fun _=>
 some (-1)
def q3C (a0:(List Int)):Option Bool:=
 (q3F a0).bind fun y1=>
 some (decide (0≤y1))
def q6l (a1:Int):Nat→Int→Unit→Option (Unit ⊕ Int):=fun k1 xk1 _=>
 if a1=xk1 then (
 some (.inr (k1:Int))
 ) else (
 some (.inl ())
 )
def q4D (a0:(List Int))(a1:Int):Option Int:=
 (findL (q6l a1) 0 a0 ()).bind <| onr (fun r1=>some r1) fun _=>
 some (-1)
def q4L (a1:Instance):Nat→Instance→Unit→Option (Unit ⊕ Int):=fun k1 xk1 _=>
 if a1=xk1 then (
 some (.inr (k1:Int))
 ) else (
 some (.inl ())
 )
def q4n (a0:(List Instance))(a1:Instance):Option Int:=
 (findL (q4L a1) 0 a0 ()).bind <| onr (fun r1=>some r1) fun _=>
 some (-1)
def q3H (a0:(List Instance))(a1:Instance):Option Bool:=
 (q4n a0 a1).bind fun y1=>
 some (decide (0≤y1))
def q8v (a0:(List TraceStep))(a1:Int):Int→Option (Int ⊕ (Unit ⊕ Int)):=fun s1=>
 if a1 < s1 then (
 grd (0≤s1) <|
 (a0[s1.toNat]?).bind fun x1=>
 grd (0≤a1) <|
 (a0[a1.toNat]?).bind fun x2=>
 (q3H x1.Inputs x2.At).bind fun y1=>
 if y1=true then (
 some (.inr (.inr s1))
 ) else (
 grd (I64 (s1 - 1)) <|
 some (.inl (s1 - 1))
 )
 ) else (
 some (.inr (.inl ()))
 )
def q9D (a0:(List TraceStep))(a1:Int):Option Int:=
 (q4B (q8v a0 a1) ((a0.length:Int) - 1)).bind <| onr (fun r1=>some r1) fun ()=>
 some a1
def q9n (a0:(List TraceStep))(a1:(List Instance))(a2:(List Int)):Nat→TraceStep→Unit→Option (Unit ⊕ Bool):=fun k1 xk1 _=>
 grd ((k1+1)≤a2.length) <|
 (a2[k1]?).bind fun x1=>
 (q4D (a2.drop (k1+1)) x1).bind fun y2=>
 (
 if 0≤y2 then (
 (q9D a0 (k1:Int)).bind fun y3=>
 grd (I64 (((k1+1:Nat):Int)+y2)) <|
 (
 if (((k1+1:Nat):Int)+y2) < y3 then (
 some (true,true)
 ) else (
 (q3H a1 xk1.At).bind fun y4=>
 some (false,y4)
 )
 ).bind fun (s3,s4)=>
 some s4
 ) else (
 some false
 )
 ).bind fun s2=>
 if s2=true then (
 some (.inr false)
 ) else (
 some (.inl ())
 )
def q6I (a0:(List TraceStep))(a1:(List Instance))(a2:(List Int)):Option Bool:=
 (
 if (a2.length:Int)=(a0.length:Int) then (
 (q3C a2).bind fun y1=>
 some y1
 ) else (
 some true
 )
 ).bind fun s1=>
 if s1=true then (
 some false
 ) else (
 (findL (q9n a0 a1 a2) 0 a0 ()).bind <| onr (fun r1=>some r1) fun _=>
 some true
 )
def q7n (a0:Node)(a1:Int):Option Bool:=
 some (decide (a0.Id=a1))
def q4k (a1_0:Int):Nat→Node→Unit→Option (Unit ⊕ Int):=fun k1 xk1 _=>
 (q7n xk1 a1_0).bind fun y1=>
 if y1=true then (
 some (.inr (k1:Int))
 ) else (
 some (.inl ())
 )
def q3G (a0:(List Node))(a1_0:Int):Option Int:=
 (findL (q4k a1_0) 0 a0 ()).bind <| onr (fun r1=>some r1) fun _=>
 some (-1)
def q6p (a0:Tree)(a1:Int):Option Int:=
 (q3G a0.Nodes a1).bind fun y1=>
 some y1
def q3K (a0:Int)(a1:Int)(a2:Int):Option Bool:=
 if a1≤a0 then (
 some (decide (a0≤a2))
 ) else (
 some false
 )
def q5u (a0:Tree)(a1:Int):Option Bool:=
 (q3K a1 0 ((a0.Nodes.length:Int) - 1)).bind fun y1=>
 some y1
def z0E (a1:ByteArray):Nat→Rule→Unit→Option (Unit ⊕ (Rule × Bool)):=fun k1 xk1 _=>
 if xk1.Name=a1 then (
 some (.inr (xk1,true))
 ) else (
 some (.inl ())
 )
def q6Z (a0:Grammar)(a1:ByteArray):Option (Rule × Bool):=
 (findL (z0E a1) 0 a0.Rules ()).bind <| onr (fun r1=>some r1) fun _=>
 some ((⟨(⟨#[]⟩:ByteArray),(⟨#[]⟩:ByteArray),[],false,[],[]⟩:Rule),false)
def q5v (a0:Grammar)(a1:Tree)(a2:Int):Option ByteArray:=
 (q5u a1 a2).bind fun y1=>
 if y1=true then (
 grd (0≤a2) <|
 (a1.Nodes[a2.toNat]?).bind fun x1=>
 (q6Z a0 x1.Rule).bind fun (y2,y3)=>
 some y2.Left
 ) else (
 some (⟨#[]⟩:ByteArray)
 )
def q9o (a1:ByteArray):Nat→Symbol→Unit→Option (Unit ⊕ (Symbol × Bool)):=fun k1 xk1 _=>
 if xk1.Name=a1 then (
 some (.inr (xk1,true))
 ) else (
 some (.inl ())
 )
def q6J (a0:Grammar)(a1:ByteArray):Option (Symbol × Bool):=
 (findL (q9o a1) 0 a0.Symbols ()).bind <| onr (fun r1=>some r1) fun _=>
 some ((⟨(⟨#[]⟩:ByteArray),[]⟩:Symbol),false)
def q7a (a1:ByteArray):Nat→Attribute→Unit→Option (Unit ⊕ (Attribute × Bool)):=fun k1 xk1 _=>
 if xk1.Name=a1 then (
 some (.inr (xk1,true))
 ) else (
 some (.inl ())
 )
def q4Y (a0:Symbol)(a1:ByteArray):Option (Attribute × Bool):=
 (findL (q7a a1) 0 a0.Attributes ()).bind <| onr (fun r1=>some r1) fun _=>
 some ((⟨(⟨#[]⟩:ByteArray),0,0,false⟩:Attribute),false)
def q5X (a0:Grammar)(a1:Tree)(a2:Instance):Option (Attribute × Bool):=
 (q6p a1 a2.Node).bind fun y1=>
 if y1 < 0 then (
 some ((⟨(⟨#[]⟩:ByteArray),0,0,false⟩:Attribute),false)
 ) else (
 (q5v a0 a1 y1).bind fun y2=>
 (q6J a0 y2).bind fun (y3,y4)=>
 (q4Y y3 a2.Name).bind fun (y5,y6)=>
 some (y5,y6)
 )
def z8h (rec_icopyExpr:Expr→Option Expr):Nat→Expr→((List Expr))→Option ((List Expr)):=fun k1 xk1 s1=>
 (rec_icopyExpr xk1).bind fun y1=>
 grd (((s1.length:Int)+1)*88≤140737488355328∧(s1.length:Int)+1≤9223372036854775807) <|
 some (s1++[y1])
def q9V (rec_icopyExpr:Expr→Option Expr)(a0:Expr):Option Expr:=
 (eachL (z8h rec_icopyExpr) 0 a0.Args ([]:List Expr)).bind fun s1=>
 some (⟨a0.Kind,a0.N,a0.Pos,a0.Type_,a0.Symbol,a0.Name,s1⟩:Expr)
def q7b:Nat→Expr→Option Expr
  | 0,_=>none
  | n+1,a0=>q9V (q7b n) a0
def z1z (a0:Expr):Option Expr:=recO fun n=>q7b n a0
def q7K (a1:Occurrence):Nat→Equation→Unit→Option (Unit ⊕ (Expr × Bool)):=fun k1 xk1 _=>
 if xk1.At=a1 then (
 (z1z xk1.Expr).bind fun y1=>
 some (.inr (y1,true))
 ) else (
 some (.inl ())
 )
def q4M (a0:Rule)(a1:Occurrence):Option (Expr × Bool):=
 (findL (q7K a1) 0 a0.Equations ()).bind <| onr (fun r1=>some r1) fun _=>
 some ((⟨0,0,0,0,(⟨#[]⟩:ByteArray),(⟨#[]⟩:ByteArray),[]⟩:Expr),false)
def q4N (a0:Grammar)(a1:Tree)(a2:Instance):Option (Definition × Bool):=
 (q5X a0 a1 a2).bind fun (y1,y2)=>
 if y2=true then (
 if y1.Mode=3 then (
 some ((⟨0,(⟨0,0,0,0,(⟨#[]⟩:ByteArray),(⟨#[]⟩:ByteArray),[]⟩:Expr)⟩:Definition),false)
 ) else (
 (q6p a1 a2.Node).bind fun y3=>
 (
 if y1.Mode=1 then (
 grd (0≤y3) <|
 (a1.Nodes[y3.toNat]?).bind fun x1=>
 some (x1.Parent,x1.Place)
 ) else (
 some (y3,0)
 )
 ).bind fun (s1,s2)=>
 (q5u a1 s1).bind fun y4=>
 if y4=true then (
 grd (0≤s1) <|
 (a1.Nodes[s1.toNat]?).bind fun x2=>
 (q6Z a0 x2.Rule).bind fun (y5,y6)=>
 (q4M y5 (⟨s2,a2.Name⟩:Occurrence)).bind fun (y7,y8)=>
 if y8=true then (
 some ((⟨s1,y7⟩:Definition),true)
 ) else (
 some ((⟨0,(⟨0,0,0,0,(⟨#[]⟩:ByteArray),(⟨#[]⟩:ByteArray),[]⟩:Expr)⟩:Definition),false)
 )
 ) else (
 some ((⟨0,(⟨0,0,0,0,(⟨#[]⟩:ByteArray),(⟨#[]⟩:ByteArray),[]⟩:Expr)⟩:Definition),false)
 )
 )
 ) else (
 some ((⟨0,(⟨0,0,0,0,(⟨#[]⟩:ByteArray),(⟨#[]⟩:ByteArray),[]⟩:Expr)⟩:Definition),false)
 )
def q4E (a0:Expr)(o0:(List Occurrence)):Option (Bool × (List Occurrence)):=
 if a0.Kind=3 then (
 grd (((o0.length:Int)+1)*24≤140737488355328∧(o0.length:Int)+1≤9223372036854775807) <|
 some (true,(o0++[(⟨a0.Pos,a0.Name⟩:Occurrence)]))
 ) else (
 some (true,o0)
 )
def q3N (rec_ieveryNode_iAttributeUses_1:Expr→(List Occurrence)→Option (Bool × (List Occurrence)))(a0:Expr)(o0:(List Occurrence)):Option (Bool × (List Occurrence)):=
 (rec_ieveryNode_iAttributeUses_1 a0 o0).bind fun (y1,z1)=>
 some (!y1,z1)
def q3x (rec_ieveryNode_iAttributeUses_1:Expr→(List Occurrence)→Option (Bool × (List Occurrence))):Nat→Expr→((List Occurrence))→Option (((List Occurrence)) ⊕ (Int × (List Occurrence))):=fun k1 xk1 s1=>
 (q3N rec_ieveryNode_iAttributeUses_1 xk1 s1).bind fun (y1,z1)=>
 if y1=true then (
 some (.inr ((k1:Int),z1))
 ) else (
 some (.inl z1)
 )
def q3q (rec_ieveryNode_iAttributeUses_1:Expr→(List Occurrence)→Option (Bool × (List Occurrence)))(a0:(List Expr))(o0:(List Occurrence)):Option (Int × (List Occurrence)):=
 (findL (q3x rec_ieveryNode_iAttributeUses_1) 0 a0 o0).bind <| onr (fun r1=>some r1) fun s1=>
 some ((-1),s1)
def q3p (rec_ieveryNode_iAttributeUses_1:Expr→(List Occurrence)→Option (Bool × (List Occurrence)))(a0:(List Expr))(o0:(List Occurrence)):Option (Bool × (List Occurrence)):=
 (q3q rec_ieveryNode_iAttributeUses_1 a0 o0).bind fun (y1,z1)=>
 some (decide (0≤y1),z1)
def q3J (rec_ieveryNode_iAttributeUses_1:Expr→(List Occurrence)→Option (Bool × (List Occurrence)))(a0:Expr)(o0:(List Occurrence)):Option (Bool × (List Occurrence)):=
 (q4E a0 o0).bind fun (y1,z1)=>
 if y1=true then (
 (q3p rec_ieveryNode_iAttributeUses_1 a0.Args z1).bind fun (y2,z2)=>
 some (!y2,z2)
 ) else (
 some (false,z1)
 )
def q3B:Nat→Expr→(List Occurrence)→Option (Bool × (List Occurrence))
  | 0,_,_=>none
  | n+1,a0,o0=>q3J (q3B n) a0 o0
def q4g (a0:Expr)(o0:(List Occurrence)):Option (Bool × (List Occurrence)):=recO fun n=>q3B n a0 o0
def q3V (a0:(List Occurrence)):Option (List Occurrence):=
 grd (a0.length < 4611686018427387904) <|
 some (z8f a0)
def q3t (s1:Int):((List Occurrence) × Int × Int)→Option (((List Occurrence) × Int × Int) ⊕ ((List Occurrence) × Int)):=fun (s4,s5,s6)=>
 if s6 < ((s4.drop s1.toNat).length:Int) then (
 (
 grd (0≤s6) <|
 (s4[(s1.toNat+s6.toNat)]?).bind fun x3=>
 grd (I64 (s6 - 1)) <|
 grd (0≤(s6 - 1)) <|
 (s4[(s1.toNat+((s6 - 1).toNat))]?).bind fun x4=>
 if x3=x4 then (
 some (s5,s4)
 ) else (
 grd (0≤s6) <|
 grd (0≤s5) <|
 (s4[s5.toNat]?).bind fun x5=>
 grd (I64 (s5+1)) <|
 some ((s5+1),(List.set s4 s5.toNat x3))
 )
 ).bind fun (s7,s8)=>
 grd (I64 (s6+1)) <|
 some (.inl (s8,s7,(s6+1)))
 ) else (
 some (.inr (s4,s5))
 )
def q3u (a0:(List Occurrence)):Int→Option (Int ⊕ (Unit ⊕ (List Occurrence))):=fun s1=>
 if s1 < (a0.length:Int) then (
 grd (0≤s1) <|
 (a0[s1.toNat]?).bind fun x1=>
 grd (I64 (s1 - 1)) <|
 grd (0≤(s1 - 1)) <|
 (a0[(s1 - 1).toNat]?).bind fun x2=>
 if x1=x2 then (
 grd (0≤s1) <|
 grd (s1.toNat≤a0.length) <|
 (q4B (q3t s1) (a0,s1,1)).bind fun (s2,s3)=>
 grd (0≤s3) <|
 grd (s3.toNat≤s2.length) <|
 grd (0≤s3) <|
 grd (s3.toNat≤(s2.take s3.toNat++List.replicate (s2.length - s3.toNat) (⟨(0:Int),(⟨#[]⟩:ByteArray)⟩:Occurrence)).length) <|
 some (.inr (.inr ((s2.take s3.toNat++List.replicate (s2.length - s3.toNat) (⟨(0:Int),(⟨#[]⟩:ByteArray)⟩:Occurrence)).take s3.toNat)))
 ) else (
 grd (I64 (s1+1)) <|
 some (.inl (s1+1))
 )
 ) else (
 some (.inr (.inl ()))
 )
def q3M (a0:(List Occurrence)):Option (List Occurrence):=
 if (a0.length:Int) < 2 then (
 some a0
 ) else (
 (q4B (q3u a0) 1).bind <| onr (fun r1=>some r1) fun ()=>
 some a0
 )
def q4Z (a0:Expr):Option (List Occurrence):=
 (q4g a0 []).bind fun (y1,z1)=>
 (q3V z1).bind fun z2=>
 (q3M z2).bind fun y2=>
 some y2
def q6K (a0:Grammar)(a1:Tree)(a2:Int)(a3:Occurrence):Option (Instance × Bool):=
 (q5u a1 a2).bind fun y1=>
 if y1=true then (
 if a3.Pos=0 then (
 (q5u a1 a2).bind fun y2=>
 if y2=true then (
 grd (0≤a2) <|
 (a1.Nodes[a2.toNat]?).bind fun x1=>
 some ((⟨x1.Id,a3.Name⟩:Instance),true)
 ) else (
 some ((⟨0,(⟨#[]⟩:ByteArray)⟩:Instance),false)
 )
 ) else (
 grd (0≤a2) <|
 (a1.Nodes[a2.toNat]?).bind fun x2=>
 (q3K a3.Pos 1 (x2.Children.length:Int)).bind fun y3=>
 if y3=true then (
 grd (I64 (a3.Pos - 1)) <|
 grd (0≤(a3.Pos - 1)) <|
 (x2.Children[(a3.Pos - 1).toNat]?).bind fun x3=>
 (q5u a1 x3).bind fun y4=>
 if y4=true then (
 grd (0≤x3) <|
 (a1.Nodes[x3.toNat]?).bind fun x4=>
 some ((⟨x4.Id,a3.Name⟩:Instance),true)
 ) else (
 some ((⟨0,(⟨#[]⟩:ByteArray)⟩:Instance),false)
 )
 ) else (
 some ((⟨0,(⟨#[]⟩:ByteArray)⟩:Instance),false)
 )
 )
 ) else (
 some ((⟨0,(⟨#[]⟩:ByteArray)⟩:Instance),false)
 )
def q7z (a0:(List TraceStep))(a1:Instance):Int→Option (Int ⊕ (Unit ⊕ Int)):=fun s1=>
 if 0≤s1 then (
 grd (0≤s1) <|
 (a0[s1.toNat]?).bind fun x1=>
 if x1.At=a1 then (
 some (.inr (.inr s1))
 ) else (
 grd (I64 (s1 - 1)) <|
 some (.inl (s1 - 1))
 )
 ) else (
 some (.inr (.inl ()))
 )
def q8w (a0:(List TraceStep))(a1:Instance):Option Int:=
 (q4B (q7z a0 a1) ((a0.length:Int) - 1)).bind <| onr (fun r1=>some r1) fun ()=>
 some (-1)
def q5I (a0:Instance)(a1:Int)(a2:(List TraceStep))(a3:(List Int))(a4:(List Int)):Option Int:=
 grd (0≤a1) <|
 grd (a1.toNat≤a2.length) <|
 (q8w (a2.take a1.toNat) a0).bind fun y1=>
 if y1 < 0 then (
 some 0
 ) else (
 grd (0≤y1) <|
 (a4[y1.toNat]?).bind fun x1=>
 grd (0≤x1) <|
 (a3[x1.toNat]?).bind fun x2=>
 some x2
 )
def q8x (a0:Tree):Nat→Int→((List Int))→Option ((List Int)):=fun k1 xk1 s1=>
 (
 (q5u a0 xk1).bind fun y2=>
 if y2=true then (
 grd (0≤xk1) <|
 (a0.Nodes[xk1.toNat]?).bind fun x2=>
 grd (((s1.length:Int)+1)*8≤140737488355328∧(s1.length:Int)+1≤9223372036854775807) <|
 some (s1++[x2.Id])
 ) else (
 some s1
 )
 ).bind fun s2=>
 some s2
def q8d (a0:Tree)(a1:Int):Option (List Int):=
 (q5u a0 a1).bind fun y1=>
 if y1=true then (
 grd (0≤a1) <|
 (a0.Nodes[a1.toNat]?).bind fun x1=>
 grd (((([a1]:List Int).length:Int)+(x1.Children.length:Int))*8≤140737488355328∧(([a1]:List Int).length:Int)+(x1.Children.length:Int)≤9223372036854775807) <|
 (eachL (q8x a0) 0 (([a1]:List Int)++x1.Children) ([]:List Int)).bind fun s1=>
 some s1
 ) else (
 some []
 )
def q7R (rec_iCountExpr:Expr→Option Int):Nat→Expr→Int→Option Int:=fun k1 xk1 s1=>
 (rec_iCountExpr xk1).bind fun y1=>
 grd (I64 (s1+y1)) <|
 some (s1+y1)
def q7A (rec_iCountExpr:Expr→Option Int)(a0:Expr):Option Int:=
 (eachL (q7R rec_iCountExpr) 0 a0.Args 1).bind fun s1=>
 some s1
def q6q:Nat→Expr→Option Int
  | 0,_=>none
  | n+1,a0=>q7A (q6q n) a0
def z0F (a0:Expr):Option Int:=recO fun n=>q6q n a0
def z0G (rec_iDepthOfExpr:Expr→Option Int):Nat→Expr→Int→Option Int:=fun k1 xk1 s1=>
 (rec_iDepthOfExpr xk1).bind fun y1=>
 some (if y1 > s1 then y1 else s1)
def q5Y (rec_iDepthOfExpr:Expr→Option Int)(a0:Expr):Option Int:=
 (eachL (z0G rec_iDepthOfExpr) 0 a0.Args 0).bind fun s1=>
 grd (I64 (s1+1)) <|
 some (s1+1)
def q4q:Nat→Expr→Option Int
  | 0,_=>none
  | n+1,a0=>q5Y (q4q n) a0
def q9p (a0:Expr):Option Int:=recO fun n=>q4q n a0
def z2g (a0:Int):Option Bool:=
 (q3K a0 1 4).bind fun y1=>
 some y1
def q6m (a0:Int):Option Int:=
 some (if ((-1000000):Int) > (if (1000000:Int) < a0 then (1000000:Int) else a0) then ((-1000000):Int) else (if (1000000:Int) < a0 then (1000000:Int) else a0))
def q9W (a0:Bool):Option Int:=
 if a0=true then (
 some 1
 ) else (
 some 0
 )
def q8y (a0:Int)(a1:Int):Option Int:=
 if a1=1 then (
 (q6m a0).bind fun y1=>
 some y1
 ) else (
 if a1=2 then (
 some (z4p a0 4095)
 ) else (
 if a1=3 then (
 (q9W (!(decide (a0=0)))).bind fun y2=>
 some y2
 ) else (
 if a1=4 then (
 (q3K a0 0 999).bind fun y3=>
 if y3=true then (
 some a0
 ) else (
 some 0
 )
 ) else (
 some 0
 )
 )
 )
 )
def q8z (a0:Int)(a1:Int):Option Bool:=
 (z2g a1).bind fun y1=>
 if y1=true then (
 (q8y a0 a1).bind fun y2=>
 some (decide (y2=a0))
 ) else (
 some false
 )
def q4h (a0:Expr)(a1:Expr):Option Bool:=
 (
 if a0.Kind=a1.Kind then (
 some (decide (a0.N=a1.N))
 ) else (
 some false
 )
 ).bind fun s1=>
 (
 if s1=true then (
 some (decide (a0.Pos=a1.Pos))
 ) else (
 some false
 )
 ).bind fun s2=>
 (
 if s2=true then (
 some (decide (a0.Type_=a1.Type_))
 ) else (
 some false
 )
 ).bind fun s3=>
 (
 if s3=true then (
 some (decide (a0.Symbol=a1.Symbol))
 ) else (
 some false
 )
 ).bind fun s4=>
 (
 if s4=true then (
 some (decide (a0.Name=a1.Name))
 ) else (
 some false
 )
 ).bind fun s5=>
 some s5
def q8e (a0:UInt8):Option Bool:=
 if 97≤(a0.toNat:Int) then (
 some (decide ((a0.toNat:Int)≤122))
 ) else (
 some false
 )
def q9E (a0:UInt8):Option Bool:=
 if 48≤(a0.toNat:Int) then (
 some (decide ((a0.toNat:Int)≤57))
 ) else (
 some false
 )
def q6L (a0:ByteArray):Option Bool:=
 if a0=(⟨#[105,102]⟩:ByteArray) then (
 if a0=(⟨#[105,102]⟩:ByteArray) then (
 some true
 ) else (
 some false
 )
 ) else (
 if a0=(⟨#[116,104,101,110]⟩:ByteArray) then (
 if a0=(⟨#[116,104,101,110]⟩:ByteArray) then (
 some true
 ) else (
 some false
 )
 ) else (
 if a0=(⟨#[101,108,115,101]⟩:ByteArray) then (
 if a0=(⟨#[101,108,115,101]⟩:ByteArray) then (
 some true
 ) else (
 some false
 )
 ) else (
 if a0=(⟨#[116,114,117,101]⟩:ByteArray) then (
 if a0=(⟨#[116,114,117,101]⟩:ByteArray) then (
 some true
 ) else (
 some false
 )
 ) else (
 if a0=(⟨#[102,97,108,115,101]⟩:ByteArray) then (
 if a0=(⟨#[102,97,108,115,101]⟩:ByteArray) then (
 some true
 ) else (
 some false
 )
 ) else (
 if a0=(⟨#[108,105,116]⟩:ByteArray) then (
 if a0=(⟨#[108,105,116]⟩:ByteArray) then (
 some true
 ) else (
 some false
 )
 ) else (
 if a0=(⟨#[110,111,110,101]⟩:ByteArray) then (
 if a0=(⟨#[110,111,110,101]⟩:ByteArray) then (
 some true
 ) else (
 some false
 )
 ) else (
 if a0=(⟨#[115,101,108,102]⟩:ByteArray) then (
 if a0=(⟨#[115,101,108,102]⟩:ByteArray) then (
 some true
 ) else (
 some false
 )
 ) else (
 if a0=(⟨#[111,102]⟩:ByteArray) then (
 if a0=(⟨#[111,102]⟩:ByteArray) then (
 some true
 ) else (
 some false
 )
 ) else (
 if a0=(⟨#[109,97,120]⟩:ByteArray) then (
 if a0=(⟨#[109,97,120]⟩:ByteArray) then (
 some true
 ) else (
 some false
 )
 ) else (
 if a0=(⟨#[109,105,110]⟩:ByteArray) then (
 if a0=(⟨#[109,105,110]⟩:ByteArray) then (
 some true
 ) else (
 some false
 )
 ) else (
 if a0=(⟨#[119,105,116,104]⟩:ByteArray) then (
 if a0=(⟨#[119,105,116,104]⟩:ByteArray) then (
 some true
 ) else (
 some false
 )
 ) else (
 if a0=(⟨#[104,97,115]⟩:ByteArray) then (
 some true
 ) else (
 some false
 )
 )
 )
 )
 )
 )
 )
 )
 )
 )
 )
 )
 )
def z0H (a0:ByteArray):Nat→Unit→Option (Unit ⊕ Bool):=fun k1 _=>
 (a0.data[k1]?).bind fun x1=>
 (q8e x1).bind fun y1=>
 if y1=true then (
 some (.inl ())
 ) else (
 (q9E x1).bind fun y2=>
 if y2=true then (
 some (.inl ())
 ) else (
 some (.inr false)
 )
 )
def q4I (a0:ByteArray):Option Bool:=
 (findN (z0H a0) 0 a0.size ()).bind <| onr (fun r1=>some r1) fun _=>
 (q3K (a0.size:Int) 1 8).bind fun y3=>
 (
 if y3=true then (
 (a0.data[0]?).bind fun x2=>
 (q8e x2).bind fun y4=>
 some y4
 ) else (
 some false
 )
 ).bind fun s1=>
 (
 if s1=true then (
 (q6L a0).bind fun y5=>
 some (!y5)
 ) else (
 some false
 )
 ).bind fun s2=>
 some s2
def q6M (a0:Expr):Option Bool:=
 if a0.Kind=1 then (
 (
 if a0.Type_=4 then (
 some true
 ) else (
 (q8z a0.N a0.Type_).bind fun y1=>
 some (!y1)
 )
 ).bind fun s1=>
 (
 if s1=true then (
 some true
 ) else (
 some (decide (a0.N < 0))
 )
 ).bind fun s2=>
 if s2=true then (
 some false
 ) else (
 (
 if (a0.Args.length:Int)=0 then (
 (q3K a0.Pos 0 3).bind fun y2=>
 some y2
 ) else (
 some false
 )
 ).bind fun s3=>
 (
 if s3=true then (
 (q4h a0 (⟨a0.Kind,a0.N,0,a0.Type_,(⟨#[]⟩:ByteArray),(⟨#[]⟩:ByteArray),a0.Args⟩:Expr)).bind fun y3=>
 some y3
 ) else (
 some false
 )
 ).bind fun s4=>
 some s4
 )
 ) else (
 if a0.Kind=3 then (
 (q4I a0.Name).bind fun y4=>
 if y4=true then (
 (
 if (a0.Args.length:Int)=0 then (
 (q3K a0.Pos 0 3).bind fun y5=>
 some y5
 ) else (
 some false
 )
 ).bind fun s5=>
 (
 if s5=true then (
 (q4h a0 (⟨a0.Kind,0,a0.Pos,0,(⟨#[]⟩:ByteArray),a0.Name,a0.Args⟩:Expr)).bind fun y6=>
 some y6
 ) else (
 some false
 )
 ).bind fun s6=>
 some s6
 ) else (
 some false
 )
 ) else (
 if a0.Kind=4 then (
 (q3K a0.N 1 12).bind fun y7=>
 if y7=true then (
 (
 if (a0.Args.length:Int)=2 then (
 (q3K a0.Pos 0 3).bind fun y8=>
 some y8
 ) else (
 some false
 )
 ).bind fun s7=>
 (
 if s7=true then (
 (q4h a0 (⟨a0.Kind,a0.N,0,0,(⟨#[]⟩:ByteArray),(⟨#[]⟩:ByteArray),a0.Args⟩:Expr)).bind fun y9=>
 some y9
 ) else (
 some false
 )
 ).bind fun s8=>
 some s8
 ) else (
 some false
 )
 ) else (
 if a0.Kind=5 then (
 (
 if (a0.Args.length:Int)=3 then (
 (q3K a0.Pos 0 3).bind fun y10=>
 some y10
 ) else (
 some false
 )
 ).bind fun s9=>
 (
 if s9=true then (
 (q4h a0 (⟨a0.Kind,0,0,0,(⟨#[]⟩:ByteArray),(⟨#[]⟩:ByteArray),a0.Args⟩:Expr)).bind fun y11=>
 some y11
 ) else (
 some false
 )
 ).bind fun s10=>
 some s10
 ) else (
 if a0.Kind=6 then (
 (
 if (a0.Args.length:Int)=0 then (
 (q3K a0.Pos 0 3).bind fun y12=>
 some y12
 ) else (
 some false
 )
 ).bind fun s11=>
 (
 if s11=true then (
 (q4h a0 (⟨a0.Kind,0,a0.Pos,0,(⟨#[]⟩:ByteArray),(⟨#[]⟩:ByteArray),a0.Args⟩:Expr)).bind fun y13=>
 some y13
 ) else (
 some false
 )
 ).bind fun s12=>
 some s12
 ) else (
 if a0.Kind=8 then (
 (q4I a0.Symbol).bind fun y14=>
 (
 if y14=true then (
 (q4I a0.Name).bind fun y15=>
 some (!y15)
 ) else (
 some true
 )
 ).bind fun s13=>
 if s13=true then (
 some false
 ) else (
 (
 if (a0.Args.length:Int)=1 then (
 (q3K a0.Pos 0 3).bind fun y16=>
 some y16
 ) else (
 some false
 )
 ).bind fun s14=>
 (
 if s14=true then (
 (q4h a0 (⟨a0.Kind,0,0,0,a0.Symbol,a0.Name,a0.Args⟩:Expr)).bind fun y17=>
 some y17
 ) else (
 some false
 )
 ).bind fun s15=>
 some s15
 )
 ) else (
 if a0.Kind=2 then (
 if a0.Kind=2 then (
 (
 if (a0.Args.length:Int)=0 then (
 (q3K a0.Pos 0 3).bind fun y18=>
 some y18
 ) else (
 some false
 )
 ).bind fun s16=>
 (
 if s16=true then (
 (q4h a0 (⟨a0.Kind,0,0,0,(⟨#[]⟩:ByteArray),(⟨#[]⟩:ByteArray),a0.Args⟩:Expr)).bind fun y19=>
 some y19
 ) else (
 some false
 )
 ).bind fun s17=>
 some s17
 ) else (
 some false
 )
 ) else (
 if a0.Kind=7 then (
 (
 if (a0.Args.length:Int)=0 then (
 (q3K a0.Pos 0 3).bind fun y20=>
 some y20
 ) else (
 some false
 )
 ).bind fun s18=>
 (
 if s18=true then (
 (q4h a0 (⟨a0.Kind,0,0,0,(⟨#[]⟩:ByteArray),(⟨#[]⟩:ByteArray),a0.Args⟩:Expr)).bind fun y21=>
 some y21
 ) else (
 some false
 )
 ).bind fun s19=>
 some s19
 ) else (
 some false
 )
 )
 )
 )
 )
 )
 )
 )
def q3X (rec_ieveryNode_iexprNodeOk:Expr→Option Bool)(a0:Expr):Option Bool:=
 (rec_ieveryNode_iexprNodeOk a0).bind fun y1=>
 some (!y1)
def q3O (rec_ieveryNode_iexprNodeOk:Expr→Option Bool):Nat→Expr→Unit→Option (Unit ⊕ Int):=fun k1 xk1 _=>
 (q3X rec_ieveryNode_iexprNodeOk xk1).bind fun y1=>
 if y1=true then (
 some (.inr (k1:Int))
 ) else (
 some (.inl ())
 )
def q3v (rec_ieveryNode_iexprNodeOk:Expr→Option Bool)(a0:(List Expr)):Option Int:=
 (findL (q3O rec_ieveryNode_iexprNodeOk) 0 a0 ()).bind <| onr (fun r1=>some r1) fun _=>
 some (-1)
def q3r (rec_ieveryNode_iexprNodeOk:Expr→Option Bool)(a0:(List Expr)):Option Bool:=
 (q3v rec_ieveryNode_iexprNodeOk a0).bind fun y1=>
 some (decide (0≤y1))
def q3T (rec_ieveryNode_iexprNodeOk:Expr→Option Bool)(a0:Expr):Option Bool:=
 (q6M a0).bind fun y1=>
 if y1=true then (
 (q3r rec_ieveryNode_iexprNodeOk a0.Args).bind fun y2=>
 some (!y2)
 ) else (
 some false
 )
def q3U:Nat→Expr→Option Bool
  | 0,_=>none
  | n+1,a0=>q3T (q3U n) a0
def q4O (a0:Expr):Option Bool:=recO fun n=>q3U n a0
def q5Z (a0:Expr):Option Bool:=
 (z0F a0).bind fun y1=>
 (
 if y1≤24 then (
 (q9p a0).bind fun y2=>
 some (decide (y2≤6))
 ) else (
 some false
 )
 ).bind fun s1=>
 (
 if s1=true then (
 (q4O a0).bind fun y3=>
 some y3
 ) else (
 some false
 )
 ).bind fun s2=>
 some s2
def z6R (a1:Occurrence):Nat→Slot→Unit→Option (Unit ⊕ Int):=fun k1 xk1 _=>
 if xk1.At=a1 then (
 some (.inr xk1.Value)
 ) else (
 some (.inl ())
 )
def q8U (a0:(List Slot))(a1:Occurrence):Option Int:=
 (findL (z6R a1) 0 a0 ()).bind <| onr (fun r1=>some r1) fun _=>
 some 0
def q7o (a0:Occurrence)(a1:(List Slot)):Option Int:=
 (q8U a1 a0).bind fun y1=>
 some y1
def q5w (a0:Int):Option (Int × Int × Int):=
 (
 if a0=1 then (
 some (decide (a0=1))
 ) else (
 if a0=2 then (
 some (decide (a0=2))
 ) else (
 if a0=3 then (
 some (decide (a0=3))
 ) else (
 if a0=4 then (
 some (decide (a0=4))
 ) else (
 some (decide (a0=5))
 )
 )
 )
 )
 ).bind fun s1=>
 if s1=true then (
 some (1,1,1)
 ) else (
 (
 if a0=6 then (
 some (decide (a0=6))
 ) else (
 if a0=7 then (
 some (decide (a0=7))
 ) else (
 some (decide (a0=8))
 )
 )
 ).bind fun s2=>
 if s2=true then (
 some (2,2,2)
 ) else (
 if a0=9 then (
 if a0=9 then (
 some (1,1,3)
 ) else (
 if a0=11 then (
 some (2,1,3)
 ) else (
 if a0=12 then (
 some (2,1,2)
 ) else (
 some (0,0,0)
 )
 )
 )
 ) else (
 if a0=10 then (
 some (1,1,3)
 ) else (
 if a0=11 then (
 some (2,1,3)
 ) else (
 if a0=12 then (
 some (2,1,2)
 ) else (
 some (0,0,0)
 )
 )
 )
 )
 )
 )
def q9F (a0:Int)(a1:Int)(a2:Int):Option Int:=
 (q5w a0).bind fun (y1,y2,y3)=>
 (q8y a1 y1).bind fun y4=>
 (q8y a2 y2).bind fun y5=>
 if a0=1 then (
 grd (I64 (y4+y5)) <|
 (q6m (y4+y5)).bind fun y6=>
 some y6
 ) else (
 if a0=2 then (
 grd (I64 (y4 - y5)) <|
 (q6m (y4 - y5)).bind fun y7=>
 some y7
 ) else (
 if a0=3 then (
 grd (I64 (y4*y5)) <|
 (q6m (y4*y5)).bind fun y8=>
 some y8
 ) else (
 if a0=4 then (
 some (if y5 > y4 then y5 else y4)
 ) else (
 if a0=5 then (
 some (if y5 < y4 then y5 else y4)
 ) else (
 if a0=6 then (
 grd (0≤y4∧0≤y5) <|
 some ((y4.toNat ||| y5.toNat:Nat):Int)
 ) else (
 if a0=7 then (
 grd (0≤y4∧0≤y5) <|
 some ((y4.toNat &&& y5.toNat:Nat):Int)
 ) else (
 if a0=8 then (
 some (z1a y4 y5)
 ) else (
 if a0=9 then (
 (q9W (decide (y4 < y5))).bind fun y9=>
 some y9
 ) else (
 if a0=10 then (
 (q9W (decide (y4=y5))).bind fun y10=>
 some y10
 ) else (
 if a0=11 then (
 (q3K y5 0 11).bind fun y11=>
 if y11=true then (
 grd (0≤y5) <|
 grd (0≤y4∧0≤y5∧y5 < 64) <|
 grd (0≤((y4.toNat >>> y5.toNat:Nat):Int)∧0≤(1:Int)) <|
 (q9W (decide (((((y4.toNat >>> y5.toNat:Nat):Int).toNat &&& (1:Int).toNat:Nat):Int)=1))).bind fun y12=>
 some y12
 ) else (
 (q9W false).bind fun y13=>
 some y13
 )
 ) else (
 if a0=12 then (
 (q3K y5 0 11).bind fun y14=>
 if y14=true then (
 grd (0≤y5) <|
 grd (0≤y5∧y5 < 63) <|
 grd (0≤y4∧0≤((2 ^ y5.toNat:Nat):Int)) <|
 some ((y4.toNat ||| ((2 ^ y5.toNat:Nat):Int).toNat:Nat):Int)
 ) else (
 some y4
 )
 ) else (
 some 0
 )
 )
 )
 )
 )
 )
 )
 )
 )
 )
 )
 )
def z2Q (a0:Int)(a1:Expr):Option Int:=
 some 0
def q3z (rec_ireader_eval_iEvalLocal_1_inowhere:(List Slot)→Int→(List Int)→Expr→Option Int)(a0_0_0:(List Slot))(a0_2:Int)(a0_3:(List Int))(a1:Expr):Option Int:=
 if a1.Kind=1 then (
 some a1.N
 ) else (
 if a1.Kind=2 then (
 some a0_2
 ) else (
 if a1.Kind=3 then (
 (q7o (⟨a1.Pos,a1.Name⟩:Occurrence) a0_0_0).bind fun y1=>
 some y1
 ) else (
 if a1.Kind=4 then (
 (a1.Args[0]?).bind fun x1=>
 (rec_ireader_eval_iEvalLocal_1_inowhere a0_0_0 a0_2 a0_3 x1).bind fun y2=>
 (a1.Args[1]?).bind fun x2=>
 (rec_ireader_eval_iEvalLocal_1_inowhere a0_0_0 a0_2 a0_3 x2).bind fun y3=>
 (q9F a1.N y2 y3).bind fun y4=>
 some y4
 ) else (
 if a1.Kind=5 then (
 (a1.Args[0]?).bind fun x3=>
 (rec_ireader_eval_iEvalLocal_1_inowhere a0_0_0 a0_2 a0_3 x3).bind fun y5=>
 if y5=0 then (
 (a1.Args[2]?).bind fun x4=>
 (rec_ireader_eval_iEvalLocal_1_inowhere a0_0_0 a0_2 a0_3 x4).bind fun y6=>
 some y6
 ) else (
 (a1.Args[1]?).bind fun x5=>
 (rec_ireader_eval_iEvalLocal_1_inowhere a0_0_0 a0_2 a0_3 x5).bind fun y7=>
 some y7
 )
 ) else (
 if a1.Kind=6 then (
 if a1.Pos < (a0_3.length:Int) then (
 grd (0≤a1.Pos) <|
 (a0_3[a1.Pos.toNat]?).bind fun x6=>
 some x6
 ) else (
 some 0
 )
 ) else (
 if a1.Kind=8 then (
 (a1.Args[0]?).bind fun x7=>
 (rec_ireader_eval_iEvalLocal_1_inowhere a0_0_0 a0_2 a0_3 x7).bind fun y8=>
 (z2Q y8 a1).bind fun y9=>
 some y9
 ) else (
 some 0
 )
 )
 )
 )
 )
 )
 )
def q3s:Nat→(List Slot)→Int→(List Int)→Expr→Option Int
  | 0,_,_,_,_=>none
  | n+1,a0_0_0,a0_2,a0_3,a1=>q3z (q3s n) a0_0_0 a0_2 a0_3 a1
def q3Q (a0_0_0:(List Slot))(a0_2:Int)(a0_3:(List Int))(a1:Expr):Option Int:=recO fun n=>q3s n a0_0_0 a0_2 a0_3 a1
def q7B (a0:Expr)(a1:(List Slot))(a2:Int)(a3:(List Int)):Option (Int × (List Int)):=
 (q5Z a0).bind fun y1=>
 if y1=true then (
 (q3Q a1 a2 a3 a0).bind fun y2=>
 some (y2,([]:List Int))
 ) else (
 some (0,a3)
 )
def q5x (a0:Grammar)(a1:Tree)(a2:(List TraceStep)):Nat→Int→Unit→Option (Unit ⊕ ((List Int) × Bool)):=fun k1 xk1 _=>
 (a2[k1]?).bind fun x1=>
 (q4N a0 a1 x1.At).bind fun (y2,y3)=>
 if y3=true then (
 if (a2.length:Int)≤xk1 then (
 some (.inr ([],false))
 ) else (
 some (.inl ())
 )
 ) else (
 some (.inr ([],false))
 )
def z0I (a0:Grammar)(a1:Tree)(a2:(List TraceStep))(a3:(List Int))(s1:List Int)(k2:Nat)(y4:Definition):Nat→Occurrence→((List Slot))→Option ((List Slot)):=fun k3 xk3 s2=>
 (q6K a0 a1 y4.Owner xk3).bind fun (y7,y8)=>
 (q5I y7 (k2:Int) a2 s1 a3).bind fun y9=>
 grd (((s2.length:Int)+1)*32≤140737488355328∧(s2.length:Int)+1≤9223372036854775807) <|
 some (s2++[(⟨xk3,y9⟩:Slot)])
def q8V (a0:Grammar)(a1:Tree)(a2:(List TraceStep))(a3:(List Int)):Nat→TraceStep→((List Int))→Option ((List Int)):=fun k2 xk2 s1=>
 (q4N a0 a1 xk2.At).bind fun (y4,y5)=>
 (q4Z y4.Expr).bind fun y6=>
 (eachL (z0I a0 a1 a2 a3 s1 k2 y4) 0 y6 ([]:List Slot)).bind fun s2=>
 (a3[k2]?).bind fun x2=>
 grd (0≤y4.Owner) <|
 (a1.Nodes[y4.Owner.toNat]?).bind fun x3=>
 (q8d a1 y4.Owner).bind fun y10=>
 (q7B y4.Expr s2 x3.Literal y10).bind fun (y11,z1)=>
 grd (0≤x2) <|
 (s1[x2.toNat]?).bind fun x4=>
 some (List.set s1 x2.toNat y11)
def z0J (a2:(List TraceStep))(a3:(List Int))(s1:List Int):Nat→Instance→((List Int))→Option ((List Int)):=fun k4 xk4 s3=>
 (q5I xk4 (a2.length:Int) a2 s1 a3).bind fun y12=>
 grd (((s3.length:Int)+1)*8≤140737488355328∧(s3.length:Int)+1≤9223372036854775807) <|
 some (s3++[y12])
def q7c (a0:Grammar)(a1:Tree)(a2:(List TraceStep))(a3:(List Int))(a4:(List Instance)):Option ((List Int) × Bool):=
 (q6I a2 a4 a3).bind fun y1=>
 if y1=true then (
 grd (0≤(a2.length:Int)∧(a2.length:Int)*8≤281474976710656∧(a2.length:Int)≤9223372036854775807) <|
 (findL (q5x a0 a1 a2) 0 a3 ()).bind <| onr (fun r1=>some r1) fun _=>
 (eachL (q8V a0 a1 a2 a3) 0 a2 (List.replicate a2.length (0:Int))).bind fun s1=>
 (eachL (z0J a2 a3 s1) 0 a4 ([]:List Int)).bind fun s3=>
 some (s3,true)
 ) else (
 some ([],false)
 )
def z2R (a1:(List Int)):Nat→Int→Unit→Option (Unit ⊕ Bool):=fun k1 xk1 _=>
 (a1[k1]?).bind fun x1=>
 if xk1=x1 then (
 some (.inl ())
 ) else (
 some (.inr false)
 )
def q7C (a0:(List Int))(a1:(List Int)):Option Bool:=
 if (a0.length:Int)=(a1.length:Int) then (
 (findL (z2R a1) 0 a0 ()).bind <| onr (fun r1=>some r1) fun _=>
 some true
 ) else (
 some false
 )
def q5d (a0:Attribute)(a1:Attribute):Option Bool:=
 if a0.Name=a1.Name then (
 if a0.Type_=a1.Type_ then (
 if a0.Mode=a1.Mode then (
 if a0.Circular=a1.Circular then (
 some true
 ) else (
 some false
 )
 ) else (
 some false
 )
 ) else (
 some false
 )
 ) else (
 some false
 )
def z0h (a1:(List Attribute)):Nat→Attribute→Unit→Option (Unit ⊕ Bool):=fun k1 xk1 _=>
 (a1[k1]?).bind fun x1=>
 (q5d xk1 x1).bind fun y1=>
 if y1=true then (
 some (.inl ())
 ) else (
 some (.inr false)
 )
def q6N (a0:(List Attribute))(a1:(List Attribute)):Option Bool:=
 if (a0.length:Int)=(a1.length:Int) then (
 (findL (z0h a1) 0 a0 ()).bind <| onr (fun r1=>some r1) fun _=>
 some true
 ) else (
 some false
 )
def q7d (a0:Symbol)(a1:Symbol):Option Bool:=
 if a0.Name=a1.Name then (
 (q6N a0.Attributes a1.Attributes).bind fun y1=>
 if y1=true then (
 some true
 ) else (
 some false
 )
 ) else (
 some false
 )
def z2h (a1:(List Symbol)):Nat→Symbol→Unit→Option (Unit ⊕ Bool):=fun k1 xk1 _=>
 (a1[k1]?).bind fun x1=>
 (q7d xk1 x1).bind fun y1=>
 if y1=true then (
 some (.inl ())
 ) else (
 some (.inr false)
 )
def q8W (a0:(List Symbol))(a1:(List Symbol)):Option Bool:=
 if (a0.length:Int)=(a1.length:Int) then (
 (findL (z2h a1) 0 a0 ()).bind <| onr (fun r1=>some r1) fun _=>
 some true
 ) else (
 some false
 )
def q9X (a1:(List ByteArray)):Nat→ByteArray→Unit→Option (Unit ⊕ Bool):=fun k1 xk1 _=>
 (a1[k1]?).bind fun x1=>
 if xk1=x1 then (
 some (.inl ())
 ) else (
 some (.inr false)
 )
def q8X (a0:(List ByteArray))(a1:(List ByteArray)):Option Bool:=
 if (a0.length:Int)=(a1.length:Int) then (
 (findL (q9X a1) 0 a0 ()).bind <| onr (fun r1=>some r1) fun _=>
 some true
 ) else (
 some false
 )
def q5y (a0:Occurrence)(a1:Occurrence):Option Bool:=
 if a0.Pos=a1.Pos then (
 if a0.Name=a1.Name then (
 some true
 ) else (
 some false
 )
 ) else (
 some false
 )
def z4P (rec_weqExpr:Expr→Expr→Option Bool)(a1:(List Expr)):Nat→Expr→Unit→Option (Unit ⊕ Bool):=fun k1 xk1 _=>
 (a1[k1]?).bind fun x1=>
 (rec_weqExpr xk1 x1).bind fun y1=>
 if y1=true then (
 some (.inl ())
 ) else (
 some (.inr false)
 )
def z1k (rec_weqExpr:Expr→Expr→Option Bool)(a0:(List Expr))(a1:(List Expr)):Option Bool:=
 if (a0.length:Int)=(a1.length:Int) then (
 (findL (z4P rec_weqExpr a1) 0 a0 ()).bind <| onr (fun r1=>some r1) fun _=>
 some true
 ) else (
 some false
 )
def z0K (rec_weqExpr:Expr→Expr→Option Bool)(a0:Expr)(a1:Expr):Option Bool:=
 if a0.Kind=a1.Kind then (
 if a0.N=a1.N then (
 if a0.Pos=a1.Pos then (
 if a0.Type_=a1.Type_ then (
 if a0.Symbol=a1.Symbol then (
 if a0.Name=a1.Name then (
 (z1k rec_weqExpr a0.Args a1.Args).bind fun y1=>
 if y1=true then (
 some true
 ) else (
 some false
 )
 ) else (
 some false
 )
 ) else (
 some false
 )
 ) else (
 some false
 )
 ) else (
 some false
 )
 ) else (
 some false
 )
 ) else (
 some false
 )
def q7D:Nat→Expr→Expr→Option Bool
  | 0,_,_=>none
  | n+1,a0,a1=>z0K (q7D n) a0 a1
def z0L (a0:Expr)(a1:Expr):Option Bool:=recO fun n=>q7D n a0 a1
def q5J (a0:Equation)(a1:Equation):Option Bool:=
 (q5y a0.At a1.At).bind fun y1=>
 if y1=true then (
 (z0L a0.Expr a1.Expr).bind fun y2=>
 if y2=true then (
 some true
 ) else (
 some false
 )
 ) else (
 some false
 )
def z0M (a1:(List Equation)):Nat→Equation→Unit→Option (Unit ⊕ Bool):=fun k1 xk1 _=>
 (a1[k1]?).bind fun x1=>
 (q5J xk1 x1).bind fun y1=>
 if y1=true then (
 some (.inl ())
 ) else (
 some (.inr false)
 )
def q7p (a0:(List Equation))(a1:(List Equation)):Option Bool:=
 if (a0.length:Int)=(a1.length:Int) then (
 (findL (z0M a1) 0 a0 ()).bind <| onr (fun r1=>some r1) fun _=>
 some true
 ) else (
 some false
 )
def q4s (a0:Contribution)(a1:Contribution):Option Bool:=
 if a0.Symbol=a1.Symbol then (
 if a0.Name=a1.Name then (
 (z0L a0.Target a1.Target).bind fun y1=>
 if y1=true then (
 (z0L a0.Value a1.Value).bind fun y2=>
 if y2=true then (
 some true
 ) else (
 some false
 )
 ) else (
 some false
 )
 ) else (
 some false
 )
 ) else (
 some false
 )
def q8A (a1:(List Contribution)):Nat→Contribution→Unit→Option (Unit ⊕ Bool):=fun k1 xk1 _=>
 (a1[k1]?).bind fun x1=>
 (q4s xk1 x1).bind fun y1=>
 if y1=true then (
 some (.inl ())
 ) else (
 some (.inr false)
 )
def q5h (a0:(List Contribution))(a1:(List Contribution)):Option Bool:=
 if (a0.length:Int)=(a1.length:Int) then (
 (findL (q8A a1) 0 a0 ()).bind <| onr (fun r1=>some r1) fun _=>
 some true
 ) else (
 some false
 )
def q9G (a0:Rule)(a1:Rule):Option Bool:=
 if a0.Name=a1.Name then (
 if a0.Left=a1.Left then (
 (q8X a0.Right a1.Right).bind fun y1=>
 if y1=true then (
 if a0.Literal=a1.Literal then (
 (q7p a0.Equations a1.Equations).bind fun y2=>
 if y2=true then (
 (q5h a0.Contributions a1.Contributions).bind fun y3=>
 if y3=true then (
 some true
 ) else (
 some false
 )
 ) else (
 some false
 )
 ) else (
 some false
 )
 ) else (
 some false
 )
 ) else (
 some false
 )
 ) else (
 some false
 )
def z4Q (a1:(List Rule)):Nat→Rule→Unit→Option (Unit ⊕ Bool):=fun k1 xk1 _=>
 (a1[k1]?).bind fun x1=>
 (q9G xk1 x1).bind fun y1=>
 if y1=true then (
 some (.inl ())
 ) else (
 some (.inr false)
 )
def z1l (a0:(List Rule))(a1:(List Rule)):Option Bool:=
 if (a0.length:Int)=(a1.length:Int) then (
 (findL (z4Q a1) 0 a0 ()).bind <| onr (fun r1=>some r1) fun _=>
 some true
 ) else (
 some false
 )
def q7E (a0:Grammar)(a1:Grammar):Option Bool:=
 (q8W a0.Symbols a1.Symbols).bind fun y1=>
 if y1=true then (
 (z1l a0.Rules a1.Rules).bind fun y2=>
 if y2=true then (
 some true
 ) else (
 some false
 )
 ) else (
 some false
 )
def q9H (a0:Node)(a1:Node):Option Bool:=
 if a0.Id=a1.Id then (
 if a0.Parent=a1.Parent then (
 if a0.Place=a1.Place then (
 if a0.Literal=a1.Literal then (
 if a0.Rule=a1.Rule then (
 (q7C a0.Children a1.Children).bind fun y1=>
 if y1=true then (
 some true
 ) else (
 some false
 )
 ) else (
 some false
 )
 ) else (
 some false
 )
 ) else (
 some false
 )
 ) else (
 some false
 )
 ) else (
 some false
 )
def z4R (a1:(List Node)):Nat→Node→Unit→Option (Unit ⊕ Bool):=fun k1 xk1 _=>
 (a1[k1]?).bind fun x1=>
 (q9H xk1 x1).bind fun y1=>
 if y1=true then (
 some (.inl ())
 ) else (
 some (.inr false)
 )
def z1m (a0:(List Node))(a1:(List Node)):Option Bool:=
 if (a0.length:Int)=(a1.length:Int) then (
 (findL (z4R a1) 0 a0 ()).bind <| onr (fun r1=>some r1) fun _=>
 some true
 ) else (
 some false
 )
def z0N (a0:Tree)(a1:Tree):Option Bool:=
 (z1m a0.Nodes a1.Nodes).bind fun y1=>
 if y1=true then (
 some true
 ) else (
 some false
 )
def q4U (a0:Instance)(a1:Instance):Option Bool:=
 if a0.Node=a1.Node then (
 if a0.Name=a1.Name then (
 some true
 ) else (
 some false
 )
 ) else (
 some false
 )
def z0O (a1:(List Instance)):Nat→Instance→Unit→Option (Unit ⊕ Bool):=fun k1 xk1 _=>
 (a1[k1]?).bind fun x1=>
 (q4U xk1 x1).bind fun y1=>
 if y1=true then (
 some (.inl ())
 ) else (
 some (.inr false)
 )
def q6a (a0:(List Instance))(a1:(List Instance)):Option Bool:=
 if (a0.length:Int)=(a1.length:Int) then (
 (findL (z0O a1) 0 a0 ()).bind <| onr (fun r1=>some r1) fun _=>
 some true
 ) else (
 some false
 )
def q5e (a0:TraceStep)(a1:TraceStep):Option Bool:=
 (q4U a0.At a1.At).bind fun y1=>
 if y1=true then (
 (q6a a0.Inputs a1.Inputs).bind fun y2=>
 if y2=true then (
 some true
 ) else (
 some false
 )
 ) else (
 some false
 )
def z0i (a1:(List TraceStep)):Nat→TraceStep→Unit→Option (Unit ⊕ Bool):=fun k1 xk1 _=>
 (a1[k1]?).bind fun x1=>
 (q5e xk1 x1).bind fun y1=>
 if y1=true then (
 some (.inl ())
 ) else (
 some (.inr false)
 )
def q6O (a0:(List TraceStep))(a1:(List TraceStep)):Option Bool:=
 if (a0.length:Int)=(a1.length:Int) then (
 (findL (z0i a1) 0 a0 ()).bind <| onr (fun r1=>some r1) fun _=>
 some true
 ) else (
 some false
 )
def q8Y:(Int × ByteArray)→Option ((Int × ByteArray) ⊕ ByteArray):=fun (s2,s3)=>
 if 0 < s2 then (
 grd (I64 (48+(s2.tmod 10))) <|
 grd ((⟨#[(UInt8.ofNat ((48+(s2.tmod 10)) % 256).toNat)]⟩:ByteArray).size+s3.size≤9223372036854775807) <|
 grd (I64 (s2.tdiv 10)) <|
 some (.inl ((s2.tdiv 10),((⟨#[(UInt8.ofNat ((48+(s2.tmod 10)) % 256).toNat)]⟩:ByteArray)++s3)))
 ) else (
 some (.inr s3)
 )
def q3y (a0:Int):Option ByteArray:=
 if a0≤0 then (
 some (⟨#[109,48]⟩:ByteArray)
 ) else (
 (q4B q8Y (a0,(⟨#[]⟩:ByteArray))).bind fun s1=>
 grd ((⟨#[109]⟩:ByteArray).size+s1.size≤9223372036854775807) <|
 some ((⟨#[109]⟩:ByteArray)++s1)
 )
def q5i:(Int × Int × (List Attribute))→Option ((Int × Int × (List Attribute)) ⊕ (Int × (List Attribute))):=fun (s3,s4,s5)=>
 if s4 < (s5.length:Int) then (
 (q3y s3).bind fun y1=>
 grd (0≤s4) <|
 (s5[s4.toNat]?).bind fun x1=>
 grd (I64 (s3+1)) <|
 grd (0≤s4) <|
 ((List.set s5 s4.toNat (⟨y1,x1.Type_,x1.Mode,x1.Circular⟩:Attribute))[s4.toNat]?).bind fun x2=>
 grd (I64 ((s3+1)+1)) <|
 grd (0≤s4) <|
 ((List.set (List.set s5 s4.toNat (⟨y1,x1.Type_,x1.Mode,x1.Circular⟩:Attribute)) s4.toNat (⟨x2.Name,(s3+1),x2.Mode,x2.Circular⟩:Attribute))[s4.toNat]?).bind fun x3=>
 grd (I64 (((s3+1)+1)+1)) <|
 grd (0≤s4) <|
 ((List.set (List.set (List.set s5 s4.toNat (⟨y1,x1.Type_,x1.Mode,x1.Circular⟩:Attribute)) s4.toNat (⟨x2.Name,(s3+1),x2.Mode,x2.Circular⟩:Attribute)) s4.toNat (⟨x3.Name,x3.Type_,((s3+1)+1),x3.Circular⟩:Attribute))[s4.toNat]?).bind fun x4=>
 grd (I64 ((((s3+1)+1)+1)+1)) <|
 grd (I64 (s4+1)) <|
 some (.inl (((((s3+1)+1)+1)+1),(s4+1),(List.set (List.set (List.set (List.set s5 s4.toNat (⟨y1,x1.Type_,x1.Mode,x1.Circular⟩:Attribute)) s4.toNat (⟨x2.Name,(s3+1),x2.Mode,x2.Circular⟩:Attribute)) s4.toNat (⟨x3.Name,x3.Type_,((s3+1)+1),x3.Circular⟩:Attribute)) s4.toNat (⟨x4.Name,x4.Type_,x4.Mode,decide (((((s3+1)+1)+1).tmod 3)=0)⟩:Attribute))))
 ) else (
 some (.inr (s3,s5))
 )
def q5K (a0:(List Attribute))(a1:Int):Option (Int × (List Attribute)):=
 (q4B q5i (a1,0,a0)).bind fun (s1,s2)=>
 some (s1,s2)
def q6P:(Int × Int × (List Symbol))→Option ((Int × Int × (List Symbol)) ⊕ (Int × (List Symbol))):=fun (s3,s4,s5)=>
 if s4 < (s5.length:Int) then (
 (q3y s3).bind fun y1=>
 grd (0≤s4) <|
 (s5[s4.toNat]?).bind fun x1=>
 grd (I64 (s3+1)) <|
 (q5K x1.Attributes (s3+1)).bind fun (y2,z1)=>
 grd (I64 (s4+1)) <|
 some (.inl (y2,(s4+1),(List.set s5 s4.toNat (⟨y1,z1⟩:Symbol))))
 ) else (
 some (.inr (s3,s5))
 )
def q7q (a0:(List Symbol))(a1:Int):Option (Int × (List Symbol)):=
 (q4B q6P (a1,0,a0)).bind fun (s1,s2)=>
 some (s1,s2)
def q4P:(Int × Int × (List ByteArray))→Option ((Int × Int × (List ByteArray)) ⊕ (Int × (List ByteArray))):=fun (s3,s4,s5)=>
 if s4 < (s5.length:Int) then (
 (q3y s3).bind fun y1=>
 grd (0≤s4) <|
 (s5[s4.toNat]?).bind fun x1=>
 grd (I64 (s3+1)) <|
 grd (I64 (s4+1)) <|
 some (.inl ((s3+1),(s4+1),(List.set s5 s4.toNat y1)))
 ) else (
 some (.inr (s3,s5))
 )
def q6b (a0:(List ByteArray))(a1:Int):Option (Int × (List ByteArray)):=
 (q4B q4P (a1,0,a0)).bind fun (s1,s2)=>
 some (s1,s2)
def q6Q (rec_wmarkExprS:(List Expr)→Int→Option (Int × (List Expr))):(Int × Int × (List Expr))→Option ((Int × Int × (List Expr)) ⊕ (Int × (List Expr))):=fun (s3,s4,s5)=>
 if s4 < (s5.length:Int) then (
 grd (0≤s4) <|
 (s5[s4.toNat]?).bind fun x1=>
 grd (I64 (s3+1)) <|
 grd (I64 ((s3+1)+1)) <|
 grd (I64 (((s3+1)+1)+1)) <|
 grd (I64 ((((s3+1)+1)+1)+1)) <|
 (q3y ((((s3+1)+1)+1)+1)).bind fun y1=>
 grd (I64 (((((s3+1)+1)+1)+1)+1)) <|
 (q3y (((((s3+1)+1)+1)+1)+1)).bind fun y2=>
 grd (I64 ((((((s3+1)+1)+1)+1)+1)+1)) <|
 (rec_wmarkExprS x1.Args ((((((s3+1)+1)+1)+1)+1)+1)).bind fun (y3,z1)=>
 grd (I64 (s4+1)) <|
 some (.inl (y3,(s4+1),(List.set s5 s4.toNat (⟨s3,(s3+1),((s3+1)+1),(((s3+1)+1)+1),y1,y2,z1⟩:Expr))))
 ) else (
 some (.inr (s3,s5))
 )
def q7F (rec_wmarkExprS:(List Expr)→Int→Option (Int × (List Expr)))(a0:(List Expr))(a1:Int):Option (Int × (List Expr)):=
 (q4B (q6Q rec_wmarkExprS) (a1,0,a0)).bind fun (s1,s2)=>
 some (s1,s2)
def q7G:Nat→(List Expr)→Int→Option (Int × (List Expr))
  | 0,_,_=>none
  | n+1,a0,a1=>q7F (q7G n) a0 a1
def q7H (a0:(List Expr))(a1:Int):Option (Int × (List Expr)):=recO fun n=>q7G n a0 a1
def q5L:(Int × Int × (List Equation))→Option ((Int × Int × (List Equation)) ⊕ (Int × (List Equation))):=fun (s3,s4,s5)=>
 if s4 < (s5.length:Int) then (
 grd (0≤s4) <|
 (s5[s4.toNat]?).bind fun x1=>
 grd (I64 (s3+1)) <|
 (q3y (s3+1)).bind fun y1=>
 grd (I64 ((s3+1)+1)) <|
 grd (I64 (((s3+1)+1)+1)) <|
 grd (I64 ((((s3+1)+1)+1)+1)) <|
 grd (I64 (((((s3+1)+1)+1)+1)+1)) <|
 grd (I64 ((((((s3+1)+1)+1)+1)+1)+1)) <|
 (q3y ((((((s3+1)+1)+1)+1)+1)+1)).bind fun y2=>
 grd (I64 (((((((s3+1)+1)+1)+1)+1)+1)+1)) <|
 (q3y (((((((s3+1)+1)+1)+1)+1)+1)+1)).bind fun y3=>
 grd (I64 ((((((((s3+1)+1)+1)+1)+1)+1)+1)+1)) <|
 (q7H x1.Expr.Args ((((((((s3+1)+1)+1)+1)+1)+1)+1)+1)).bind fun (y4,z1)=>
 grd (I64 (s4+1)) <|
 some (.inl (y4,(s4+1),(List.set s5 s4.toNat (⟨(⟨s3,y1⟩:Occurrence),(⟨((s3+1)+1),(((s3+1)+1)+1),((((s3+1)+1)+1)+1),(((((s3+1)+1)+1)+1)+1),y2,y3,z1⟩:Expr)⟩:Equation))))
 ) else (
 some (.inr (s3,s5))
 )
def q6f (a0:(List Equation))(a1:Int):Option (Int × (List Equation)):=
 (q4B q5L (a1,0,a0)).bind fun (s1,s2)=>
 some (s1,s2)
def q4F:(Int × Int × (List Contribution))→Option ((Int × Int × (List Contribution)) ⊕ (Int × (List Contribution))):=fun (s3,s4,s5)=>
 if s4 < (s5.length:Int) then (
 (q3y s3).bind fun y1=>
 grd (0≤s4) <|
 (s5[s4.toNat]?).bind fun x1=>
 grd (I64 (s3+1)) <|
 (q3y (s3+1)).bind fun y2=>
 grd (I64 ((s3+1)+1)) <|
 grd (I64 (((s3+1)+1)+1)) <|
 grd (I64 ((((s3+1)+1)+1)+1)) <|
 grd (I64 (((((s3+1)+1)+1)+1)+1)) <|
 grd (I64 ((((((s3+1)+1)+1)+1)+1)+1)) <|
 (q3y ((((((s3+1)+1)+1)+1)+1)+1)).bind fun y3=>
 grd (I64 (((((((s3+1)+1)+1)+1)+1)+1)+1)) <|
 (q3y (((((((s3+1)+1)+1)+1)+1)+1)+1)).bind fun y4=>
 grd (I64 ((((((((s3+1)+1)+1)+1)+1)+1)+1)+1)) <|
 (q7H x1.Target.Args ((((((((s3+1)+1)+1)+1)+1)+1)+1)+1)).bind fun (y5,z1)=>
 grd (I64 (y5+1)) <|
 grd (I64 ((y5+1)+1)) <|
 grd (I64 (((y5+1)+1)+1)) <|
 grd (I64 ((((y5+1)+1)+1)+1)) <|
 (q3y ((((y5+1)+1)+1)+1)).bind fun y6=>
 grd (I64 (((((y5+1)+1)+1)+1)+1)) <|
 (q3y (((((y5+1)+1)+1)+1)+1)).bind fun y7=>
 grd (I64 ((((((y5+1)+1)+1)+1)+1)+1)) <|
 (q7H x1.Value.Args ((((((y5+1)+1)+1)+1)+1)+1)).bind fun (y8,z2)=>
 grd (I64 (s4+1)) <|
 some (.inl (y8,(s4+1),(List.set s5 s4.toNat (⟨y1,y2,(⟨((s3+1)+1),(((s3+1)+1)+1),((((s3+1)+1)+1)+1),(((((s3+1)+1)+1)+1)+1),y3,y4,z1⟩:Expr),(⟨y5,(y5+1),((y5+1)+1),(((y5+1)+1)+1),y6,y7,z2⟩:Expr)⟩:Contribution))))
 ) else (
 some (.inr (s3,s5))
 )
def q4J (a0:(List Contribution))(a1:Int):Option (Int × (List Contribution)):=
 (q4B q4F (a1,0,a0)).bind fun (s1,s2)=>
 some (s1,s2)
def q7S:(Int × Int × (List Rule))→Option ((Int × Int × (List Rule)) ⊕ (Int × (List Rule))):=fun (s3,s4,s5)=>
 if s4 < (s5.length:Int) then (
 (q3y s3).bind fun y1=>
 grd (0≤s4) <|
 (s5[s4.toNat]?).bind fun x1=>
 grd (I64 (s3+1)) <|
 (q3y (s3+1)).bind fun y2=>
 grd (I64 ((s3+1)+1)) <|
 (q6b x1.Right ((s3+1)+1)).bind fun (y3,z1)=>
 grd (I64 (y3+1)) <|
 (q6f x1.Equations (y3+1)).bind fun (y4,z2)=>
 (q4J x1.Contributions y4).bind fun (y5,z3)=>
 grd (I64 (s4+1)) <|
 some (.inl (y5,(s4+1),(List.set s5 s4.toNat (⟨y1,y2,z1,decide ((y3.tmod 3)=0),z2,z3⟩:Rule))))
 ) else (
 some (.inr (s3,s5))
 )
def q8Z (a0:(List Rule))(a1:Int):Option (Int × (List Rule)):=
 (q4B q7S (a1,0,a0)).bind fun (s1,s2)=>
 some (s1,s2)
def q6c (a0:Grammar)(a1:Int):Option (Int × (List Symbol) × (List Rule)):=
 (q7q a0.Symbols a1).bind fun (y1,z1)=>
 (q8Z a0.Rules y1).bind fun (y2,z2)=>
 some (y2,z1,z2)
def q9a:(Int × Int × (List Int))→Option ((Int × Int × (List Int)) ⊕ (Int × (List Int))):=fun (s3,s4,s5)=>
 if s4 < (s5.length:Int) then (
 grd (0≤s4) <|
 (s5[s4.toNat]?).bind fun x1=>
 grd (I64 (s3+1)) <|
 grd (I64 (s4+1)) <|
 some (.inl ((s3+1),(s4+1),(List.set s5 s4.toNat s3)))
 ) else (
 some (.inr (s3,s5))
 )
def q6n (a0:(List Int))(a1:Int):Option (Int × (List Int)):=
 (q4B q9a (a1,0,a0)).bind fun (s1,s2)=>
 some (s1,s2)
def q7T:(Int × Int × (List Node))→Option ((Int × Int × (List Node)) ⊕ (Int × (List Node))):=fun (s3,s4,s5)=>
 if s4 < (s5.length:Int) then (
 grd (0≤s4) <|
 (s5[s4.toNat]?).bind fun x1=>
 grd (I64 (s3+1)) <|
 grd (I64 ((s3+1)+1)) <|
 grd (I64 (((s3+1)+1)+1)) <|
 grd (I64 ((((s3+1)+1)+1)+1)) <|
 (q3y ((((s3+1)+1)+1)+1)).bind fun y1=>
 grd (I64 (((((s3+1)+1)+1)+1)+1)) <|
 (q6n x1.Children (((((s3+1)+1)+1)+1)+1)).bind fun (y2,z1)=>
 grd (I64 (s4+1)) <|
 some (.inl (y2,(s4+1),(List.set s5 s4.toNat (⟨s3,(s3+1),((s3+1)+1),(((s3+1)+1)+1),y1,z1⟩:Node))))
 ) else (
 some (.inr (s3,s5))
 )
def q9b (a0:(List Node))(a1:Int):Option (Int × (List Node)):=
 (q4B q7T (a1,0,a0)).bind fun (s1,s2)=>
 some (s1,s2)
def q8B (a0:Tree)(a1:Int):Option (Int × (List Node)):=
 (q9b a0.Nodes a1).bind fun (y1,z1)=>
 some (y1,z1)
def q5M:(Int × Int × (List Instance))→Option ((Int × Int × (List Instance)) ⊕ (Int × (List Instance))):=fun (s3,s4,s5)=>
 if s4 < (s5.length:Int) then (
 grd (0≤s4) <|
 (s5[s4.toNat]?).bind fun x1=>
 grd (I64 (s3+1)) <|
 (q3y (s3+1)).bind fun y1=>
 grd (0≤s4) <|
 ((List.set s5 s4.toNat (⟨s3,x1.Name⟩:Instance))[s4.toNat]?).bind fun x2=>
 grd (I64 ((s3+1)+1)) <|
 grd (I64 (s4+1)) <|
 some (.inl (((s3+1)+1),(s4+1),(List.set (List.set s5 s4.toNat (⟨s3,x1.Name⟩:Instance)) s4.toNat (⟨x2.Node,y1⟩:Instance))))
 ) else (
 some (.inr (s3,s5))
 )
def q5a (a0:(List Instance))(a1:Int):Option (Int × (List Instance)):=
 (q4B q5M (a1,0,a0)).bind fun (s1,s2)=>
 some (s1,s2)
def q5j:(Int × Int × (List TraceStep))→Option ((Int × Int × (List TraceStep)) ⊕ (Int × (List TraceStep))):=fun (s3,s4,s5)=>
 if s4 < (s5.length:Int) then (
 grd (0≤s4) <|
 (s5[s4.toNat]?).bind fun x1=>
 grd (I64 (s3+1)) <|
 (q3y (s3+1)).bind fun y1=>
 grd (I64 ((s3+1)+1)) <|
 (q5a x1.Inputs ((s3+1)+1)).bind fun (y2,z1)=>
 grd (I64 (s4+1)) <|
 some (.inl (y2,(s4+1),(List.set s5 s4.toNat (⟨(⟨s3,y1⟩:Instance),z1⟩:TraceStep))))
 ) else (
 some (.inr (s3,s5))
 )
def q5N (a0:(List TraceStep))(a1:Int):Option (Int × (List TraceStep)):=
 (q4B q5j (a1,0,a0)).bind fun (s1,s2)=>
 some (s1,s2)
def z3p:Nat→Int→Int→Option (Int ⊕ Int):=fun k1 xk1 s1=>
 if xk1=s1 then (
 grd (I64 (s1+1)) <|
 some (.inl (s1+1))
 ) else (
 some (.inr (-1))
 )
def q7e (a0:(List Int))(a1:Int):Option Int:=
 (findL z3p 0 a0 a1).bind <| onr (fun r1=>some r1) fun s1=>
 some s1
def q5k (a0:Grammar)(a1:Tree)(a2:(List TraceStep))(a3:(List Int))(a4:(List Instance)):Option Bool:=
 if 1048576 < (a3.length:Int) then (
 some true
 ) else (
 (q8P a0 1048576).bind fun y1=>
 if y1 < 0 then (
 some true
 ) else (
 (z1Z a1 y1).bind fun y2=>
 if y2 < 0 then (
 some true
 ) else (
 (q6z a2 y2).bind fun y3=>
 if y3 < 0 then (
 some true
 ) else (
 (q5T a4 y3).bind fun y4=>
 if y4 < 0 then (
 some true
 ) else (
 (q4Q a0).bind fun y5=>
 (q7u a1).bind fun y6=>
 (q4v a2).bind fun y7=>
 (q7t a3).bind fun y8=>
 (q4o a4).bind fun y9=>
 (q8u y5 y6 y7 y8 y9).bind fun (y10,y11)=>
 (q4Q a0).bind fun y12=>
 (q7u a1).bind fun y13=>
 (q4v a2).bind fun y14=>
 (q7t a3).bind fun y15=>
 (q4o a4).bind fun y16=>
 (q7c y12 y13 y14 y15 y16).bind fun (y17,y18)=>
 (q7C y17 y10).bind fun y19=>
 (
 if y19=true then (
 some (!(decide (y18=y11)))
 ) else (
 some true
 )
 ).bind fun s1=>
 if s1=true then (
 some false
 ) else (
 (q4Q a0).bind fun y20=>
 (q7E y12 y20).bind fun y21=>
 if y21=true then (
 (q7u a1).bind fun y22=>
 (z0N y13 y22).bind fun y23=>
 if y23=true then (
 (q4v a2).bind fun y24=>
 (q6O y14 y24).bind fun y25=>
 if y25=true then (
 (q7t a3).bind fun y26=>
 (q7C y15 y26).bind fun y27=>
 if y27=true then (
 (q4o a4).bind fun y28=>
 (q6a y16 y28).bind fun y29=>
 if y29=true then (
 (q6c y12 1).bind fun (y30,z1,z2)=>
 (q8B y13 y30).bind fun (y31,z3)=>
 (q5N y14 y31).bind fun (y32,z4)=>
 (q6n y15 y32).bind fun (y33,z5)=>
 (q5a y16 y33).bind fun (y34,z6)=>
 (
 if y34 < 0 then (
 some true
 ) else (
 (q7C y17 y10).bind fun y35=>
 some (!y35)
 )
 ).bind fun s2=>
 (
 if s2=true then (
 some true
 ) else (
 some (!(decide (y18=y11)))
 )
 ).bind fun s3=>
 if s3=true then (
 some false
 ) else (
 (q6n y17 1).bind fun (y36,z7)=>
 (q7e z7 1).bind fun y37=>
 if y37 < 0 then (
 some false
 ) else (
 if y37=y36 then (
 (q4Q a0).bind fun y38=>
 (q7u a1).bind fun y39=>
 (q4v a2).bind fun y40=>
 (q7t a3).bind fun y41=>
 (q4o a4).bind fun y42=>
 (q7c y38 y39 y40 y41 y42).bind fun (y43,y44)=>
 (q7C y43 y10).bind fun y45=>
 (
 if y45=true then (
 some (!(decide (y44=y11)))
 ) else (
 some true
 )
 ).bind fun s4=>
 if s4=true then (
 some false
 ) else (
 (q7e z7 1).bind fun y46=>
 if y46 < 0 then (
 some false
 ) else (
 if y46=y36 then (
 some true
 ) else (
 some false
 )
 )
 )
 ) else (
 some false
 )
 )
 )
 ) else (
 some false
 )
 ) else (
 some false
 )
 ) else (
 some false
 )
 ) else (
 some false
 )
 ) else (
 some false
 )
 )
 )
 )
 )
 )
 )
end Go.Proofs.YtaholdflpgcndaaGreat
