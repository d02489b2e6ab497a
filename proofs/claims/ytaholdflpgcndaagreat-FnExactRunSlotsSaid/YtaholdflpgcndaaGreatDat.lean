/- How the structs of the program read as data: plain definitions and lemmas, without conditions of their own. -/
import Derived.Test.YtaholdflpgcndaaGreatAb4
import Derived.KernelRfl
import Derived.Test.YtaholdflpgcndaaGreatProg
set_option linter.unusedVariables false
set_option linter.unusedSimpArgs false
set_option linter.ambiguousOpen false
set_option linter.unusedSectionVars false
set_option linter.unnecessarySimpa false
set_option maxRecDepth 100000
set_option maxHeartbeats 4000000
noncomputable section
namespace Go.Proofs.YtaholdflpgcndaaGreat
open Go Go.E Go.A
def byD (b:UInt8):A.D:=.i .u8 (b.toNat:Int)
structure Attribute where
 Name:ByteArray
 Type_:Int
 Mode:Int
 Circular:Bool
 deriving DecidableEq
def Attribute.l (x:Attribute):List A.D:=[.s x.Name,.i .i64 x.Type_,.i .i64 x.Mode,.b x.Circular]
def Attribute.D (x:Attribute):A.D:=.a (Attribute.l x)
def Attribute.x (m:Md)(x:Attribute):X:=.ag ((Attribute.l x).map (dX m))
structure Symbol where
 Name:ByteArray
 Attributes:(List Attribute)
 deriving DecidableEq
def Symbol.l (x:Symbol):List A.D:=[.s x.Name,.sl 4 (x.Attributes.map Attribute.D)]
def Symbol.D (x:Symbol):A.D:=.a (Symbol.l x)
def Symbol.W (x:Symbol):List Cell:=[.d .fz (.s x.Name),.w 4 (x.Attributes.map Attribute.D)]
def Symbol.x (m:Md)(x:Symbol):X:=.ag ((Symbol.l x).map (dX m))
structure Occurrence where
 Pos:Int
 Name:ByteArray
 deriving DecidableEq
def Occurrence.l (x:Occurrence):List A.D:=[.i .i64 x.Pos,.s x.Name]
def Occurrence.D (x:Occurrence):A.D:=.a (Occurrence.l x)
theorem q4G (x y:Occurrence):eqF [.int,.str] [.int .i64 x.Pos,.string x.Name] [.int .i64 y.Pos,.string y.Name]=some (decide (x=y)):=by
 have e:(x=y)↔(x.Pos=y.Pos∧x.Name=y.Name):=⟨fun h=>by subst h; simp,fun h=>by obtain⟨p0,p1⟩:=x; obtain⟨q0,q1⟩:=y; simp_all⟩
 rw [show decide (x=y)=decide (x.Pos=y.Pos∧x.Name=y.Name) from decide_eq_decide.2 e]; simp [eqF,Bool.decide_and]
def Occurrence.x (m:Md)(x:Occurrence):X:=.ag ((Occurrence.l x).map (dX m))
structure Expr where
 Kind:Int
 N:Int
 Pos:Int
 Type_:Int
 Symbol:ByteArray
 Name:ByteArray
 Args:(List Expr)
noncomputable instance:DecidableEq Expr:=fun a b=>Classical.propDecidable (a=b)
mutual
def Expr.D:Expr→A.D
 | ⟨a0,a1,a2,a3,a4,a5,a6⟩=>.a [.i .i64 a0,.i .i64 a1,.i .i64 a2,.i .i64 a3,.s a4,.s a5,.sl 7 (Expr.Ds a6)]
def Expr.Ds:List Expr→List A.D
 | []=>[]
 | x :: l=>Expr.D x :: Expr.Ds l
end
theorem Expr.Ds_map:∀ l,Expr.Ds l=l.map Expr.D
 | []=>rfl
 | x :: l=>by rw [Expr.Ds,Expr.Ds_map l]; rfl
def Expr.l (x:Expr):List A.D:=[.i .i64 x.Kind,.i .i64 x.N,.i .i64 x.Pos,.i .i64 x.Type_,.s x.Symbol,.s x.Name,.sl 7 (x.Args.map Expr.D)]
theorem Expr.D_eq (x:Expr):Expr.D x = .a (Expr.l x):=by cases x; simp only [Expr.D,Expr.l,Expr.Ds_map]
theorem Expr.D_cells (x:Expr):(Expr.D x).cells=Expr.l x:=by rw [Expr.D_eq]; rfl
def Expr.W (x:Expr):List Cell:=[.d .fz (.i .i64 x.Kind),.d .fz (.i .i64 x.N),.d .fz (.i .i64 x.Pos),.d .fz (.i .i64 x.Type_),.d .fz (.s x.Symbol),.d .fz (.s x.Name),.w 7 (x.Args.map Expr.D)]
instance:OwD Expr.D Expr.W:=⟨fun y=>by rw [z5z,Expr.D_cells]; rfl,fun y=>by rw [DR,Expr.D_cells]; rfl⟩
def Expr.x (m:Md)(x:Expr):X:=.ag ((Expr.l x).map (dX m))
structure Equation where
 At:Occurrence
 Expr:Expr
noncomputable instance:DecidableEq Equation:=fun a b=>Classical.propDecidable (a=b)
def Equation.l (x:Equation):List A.D:=[.i .i64 x.At.Pos,.s x.At.Name,.i .i64 x.Expr.Kind,.i .i64 x.Expr.N,.i .i64 x.Expr.Pos,.i .i64 x.Expr.Type_,.s x.Expr.Symbol,.s x.Expr.Name,.sl 7 (x.Expr.Args.map Expr.D)]
def Equation.D (x:Equation):A.D:=.a (Equation.l x)
def Equation.W (x:Equation):List Cell:=[.d .fz (.i .i64 x.At.Pos),.d .fz (.s x.At.Name),.d .fz (.i .i64 x.Expr.Kind),.d .fz (.i .i64 x.Expr.N),.d .fz (.i .i64 x.Expr.Pos),.d .fz (.i .i64 x.Expr.Type_),.d .fz (.s x.Expr.Symbol),.d .fz (.s x.Expr.Name),.w 7 (x.Expr.Args.map Expr.D)]
instance:OwD Equation.D Equation.W:=⟨fun _=>rfl,fun _=>rfl⟩
def Equation.x (m:Md)(x:Equation):X:=.ag ((Equation.l x).map (dX m))
structure Contribution where
 Symbol:ByteArray
 Name:ByteArray
 Target:Expr
 Value:Expr
noncomputable instance:DecidableEq Contribution:=fun a b=>Classical.propDecidable (a=b)
def Contribution.l (x:Contribution):List A.D:=[.s x.Symbol,.s x.Name,.i .i64 x.Target.Kind,.i .i64 x.Target.N,.i .i64 x.Target.Pos,.i .i64 x.Target.Type_,.s x.Target.Symbol,.s x.Target.Name,.sl 7 (x.Target.Args.map Expr.D),.i .i64 x.Value.Kind,.i .i64 x.Value.N,.i .i64 x.Value.Pos,.i .i64 x.Value.Type_,.s x.Value.Symbol,.s x.Value.Name,.sl 7 (x.Value.Args.map Expr.D)]
def Contribution.D (x:Contribution):A.D:=.a (Contribution.l x)
def Contribution.W (x:Contribution):List Cell:=[.d .fz (.s x.Symbol),.d .fz (.s x.Name),.d .fz (.i .i64 x.Target.Kind),.d .fz (.i .i64 x.Target.N),.d .fz (.i .i64 x.Target.Pos),.d .fz (.i .i64 x.Target.Type_),.d .fz (.s x.Target.Symbol),.d .fz (.s x.Target.Name),.w 7 (x.Target.Args.map Expr.D),.d .fz (.i .i64 x.Value.Kind),.d .fz (.i .i64 x.Value.N),.d .fz (.i .i64 x.Value.Pos),.d .fz (.i .i64 x.Value.Type_),.d .fz (.s x.Value.Symbol),.d .fz (.s x.Value.Name),.w 7 (x.Value.Args.map Expr.D)]
instance:OwD Contribution.D Contribution.W:=⟨fun _=>rfl,fun _=>rfl⟩
def Contribution.x (m:Md)(x:Contribution):X:=.ag ((Contribution.l x).map (dX m))
structure Rule where
 Name:ByteArray
 Left:ByteArray
 Right:(List ByteArray)
 Literal:Bool
 Equations:(List Equation)
 Contributions:(List Contribution)
noncomputable instance:DecidableEq Rule:=fun a b=>Classical.propDecidable (a=b)
def Rule.l (x:Rule):List A.D:=[.s x.Name,.s x.Left,.sl 1 (x.Right.map A.D.s),.b x.Literal,.sl 9 (x.Equations.map Equation.D),.sl 16 (x.Contributions.map Contribution.D)]
def Rule.D (x:Rule):A.D:=.a (Rule.l x)
def Rule.W (x:Rule):List Cell:=[.d .fz (.s x.Name),.d .fz (.s x.Left),.w 1 (x.Right.map A.D.s),.d .fz (.b x.Literal),.w 9 (x.Equations.map Equation.D),.w 16 (x.Contributions.map Contribution.D)]
def Rule.x (m:Md)(x:Rule):X:=.ag ((Rule.l x).map (dX m))
structure Grammar where
 Symbols:(List Symbol)
 Rules:(List Rule)
noncomputable instance:DecidableEq Grammar:=fun a b=>Classical.propDecidable (a=b)
def Grammar.l (x:Grammar):List A.D:=[.sl 2 (x.Symbols.map Symbol.D),.sl 6 (x.Rules.map Rule.D)]
def Grammar.y (m:Md)(x:Grammar):X:=.ag [.d m (.sl 2 (x.Symbols.map Symbol.D)),.u]
def Grammar.x (m:Md)(x:Grammar):X:=.ag ((Grammar.l x).map (dX m))
structure Node where
 Id:Int
 Parent:Int
 Place:Int
 Literal:Int
 Rule:ByteArray
 Children:(List Int)
 deriving DecidableEq
def Node.l (x:Node):List A.D:=[.i .i64 x.Id,.i .i64 x.Parent,.i .i64 x.Place,.i .i64 x.Literal,.s x.Rule,.sl 1 (x.Children.map (A.D.i .i64))]
def Node.D (x:Node):A.D:=.a (Node.l x)
def Node.W (x:Node):List Cell:=[.d .fz (.i .i64 x.Id),.d .fz (.i .i64 x.Parent),.d .fz (.i .i64 x.Place),.d .fz (.i .i64 x.Literal),.d .fz (.s x.Rule),.w 1 (x.Children.map (A.D.i .i64))]
def Node.x (m:Md)(x:Node):X:=.ag ((Node.l x).map (dX m))
structure Tree where
 Nodes:(List Node)
 deriving DecidableEq
def Tree.l (x:Tree):List A.D:=[.sl 6 (x.Nodes.map Node.D)]
def Tree.x (m:Md)(x:Tree):X:=.ag ((Tree.l x).map (dX m))
structure Instance where
 Node:Int
 Name:ByteArray
 deriving DecidableEq
def Instance.l (x:Instance):List A.D:=[.i .i64 x.Node,.s x.Name]
def Instance.D (x:Instance):A.D:=.a (Instance.l x)
theorem q8M (x y:Instance):eqF [.int,.str] [.int .i64 x.Node,.string x.Name] [.int .i64 y.Node,.string y.Name]=some (decide (x=y)):=by
 have e:(x=y)↔(x.Node=y.Node∧x.Name=y.Name):=⟨fun h=>by subst h; simp,fun h=>by obtain⟨p0,p1⟩:=x; obtain⟨q0,q1⟩:=y; simp_all⟩
 rw [show decide (x=y)=decide (x.Node=y.Node∧x.Name=y.Name) from decide_eq_decide.2 e]; simp [eqF,Bool.decide_and]
def Instance.x (m:Md)(x:Instance):X:=.ag ((Instance.l x).map (dX m))
structure TraceStep where
 At:Instance
 Inputs:(List Instance)
 deriving DecidableEq
def TraceStep.l (x:TraceStep):List A.D:=[.i .i64 x.At.Node,.s x.At.Name,.sl 2 (x.Inputs.map Instance.D)]
def TraceStep.D (x:TraceStep):A.D:=.a (TraceStep.l x)
def TraceStep.W (x:TraceStep):List Cell:=[.d .fz (.i .i64 x.At.Node),.d .fz (.s x.At.Name),.w 2 (x.Inputs.map Instance.D)]
def TraceStep.x (m:Md)(x:TraceStep):X:=.ag ((TraceStep.l x).map (dX m))
structure Definition where
 Owner:Int
 Expr:Expr
noncomputable instance:DecidableEq Definition:=fun a b=>Classical.propDecidable (a=b)
structure Slot where
 At:Occurrence
 Value:Int
 deriving DecidableEq
def Slot.l (x:Slot):List A.D:=[.i .i64 x.At.Pos,.s x.At.Name,.i .i64 x.Value]
def Slot.D (x:Slot):A.D:=.a (Slot.l x)
def tab:Tab:=[
 (3,{ sz:=1,by_:=8,ik:=some .i64,z:=some [.d .fz (.i .i64 0)] }),
 (4,{ sz:=1,by_:=1,z:=some [.d .fz (.b false)] }),
 (5,{ sz:=1,by_:=1,ik:=some .u8,z:=some [.d .fz (.i .u8 0)] }),
 (9,{ sz:=1,by_:=16,str:=true,z:=some [.d .fz (.s ⟨#[]⟩)] }),
 (22,{ sz:=1,by_:=24,el:=some 116,z:=some [.nl 2] }),
 (23,{ sz:=1,by_:=24,el:=some 122,z:=some [.nl 6] }),
 (25,{ sz:=2,by_:=48,agg:=true,fo:=[some 0,some 1],ft:=[some (22,0),some (23,1)],pl:=[(0,1),(1,1)],z:=some [.nl 2,.nl 6] }),
 (26,{ sz:=1,by_:=24,el:=some 124,z:=some [.nl 6] }),
 (28,{ sz:=1,by_:=24,agg:=true,fo:=[some 0],ft:=[some (26,0)],pl:=[(0,1)],z:=some [.nl 6] }),
 (29,{ sz:=1,by_:=24,el:=some 70,z:=some [.nl 3] }),
 (30,{ sz:=1,by_:=24,el:=some 3,z:=some [.nl 1] }),
 (31,{ sz:=1,by_:=24,el:=some 68,z:=some [.nl 2] }),
 (38,{ sz:=1,by_:=24,el:=some 144,z:=some [.nl 2] }),
 (39,{ sz:=1,by_:=24,el:=some 134,z:=some [.nl 6] }),
 (41,{ sz:=2,by_:=48,agg:=true,fo:=[some 0,some 1],ft:=[some (38,0),some (39,1)],pl:=[(0,1),(1,1)],z:=some [.nl 2,.nl 6] }),
 (43,{ sz:=1,by_:=24,el:=some 95,z:=some [.nl 6] }),
 (45,{ sz:=1,by_:=24,agg:=true,fo:=[some 0],ft:=[some (43,0)],pl:=[(0,1)],z:=some [.nl 6] }),
 (47,{ sz:=1,by_:=24,el:=some 82,z:=some [.nl 3] }),
 (50,{ sz:=1,by_:=24,el:=some 80,z:=some [.nl 2] }),
 (68,{ sz:=2,by_:=24,agg:=true,fo:=[some 0,some 1],ft:=[some (3,0),some (9,1)],pl:=[(0,1),(1,1)],fk:=some [.int,.str],z:=some [.d .fz (.i .i64 0),.d .fz (.s ⟨#[]⟩)] }),
 (70,{ sz:=3,by_:=48,agg:=true,fo:=[some 0,some 2],ft:=[some (68,0),some (31,2)],pl:=[(0,2),(2,1)],z:=some [.d .fz (.i .i64 0),.d .fz (.s ⟨#[]⟩),.nl 2] }),
 (73,{ sz:=1,by_:=24,el:=some 75,z:=some [.nl 7] }),
 (75,{ sz:=7,by_:=88,agg:=true,fo:=[some 0,some 1,some 2,some 3,some 4,some 5,some 6],ft:=[some (3,0),some (3,1),some (3,2),some (3,3),some (9,4),some (9,5),some (73,6)],pl:=[(0,1),(1,1),(2,1),(3,1),(4,1),(5,1),(6,1)],z:=some [.d .fz (.i .i64 0),.d .fz (.i .i64 0),.d .fz (.i .i64 0),.d .fz (.i .i64 0),.d .fz (.s ⟨#[]⟩),.d .fz (.s ⟨#[]⟩),.nl 7] }),
 (77,{ sz:=8,by_:=96,agg:=true,fo:=[some 0,some 1],ft:=[some (3,0),some (75,1)],pl:=[(0,1),(1,7)],z:=some [.d .fz (.i .i64 0),.d .fz (.i .i64 0),.d .fz (.i .i64 0),.d .fz (.i .i64 0),.d .fz (.i .i64 0),.d .fz (.s ⟨#[]⟩),.d .fz (.s ⟨#[]⟩),.nl 7] }),
 (80,{ sz:=2,by_:=24,agg:=true,fo:=[some 0,some 1],ft:=[some (3,0),some (9,1)],pl:=[(0,1),(1,1)],fk:=some [.int,.str],z:=some [.d .fz (.i .i64 0),.d .fz (.s ⟨#[]⟩)] }),
 (82,{ sz:=3,by_:=48,agg:=true,fo:=[some 0,some 2],ft:=[some (80,0),some (50,2)],pl:=[(0,2),(2,1)],z:=some [.d .fz (.i .i64 0),.d .fz (.s ⟨#[]⟩),.nl 2] }),
 (83,{ sz:=1,by_:=24,el:=some 92,z:=some [.nl 3] }),
 (84,{ sz:=1,by_:=24,el:=some 89,z:=some [.nl 2] }),
 (89,{ sz:=2,by_:=24,agg:=true,fo:=[some 0,some 1],ft:=[some (3,0),some (9,1)],pl:=[(0,1),(1,1)],fk:=some [.int,.str],z:=some [.d .fz (.i .i64 0),.d .fz (.s ⟨#[]⟩)] }),
 (92,{ sz:=3,by_:=32,agg:=true,fo:=[some 0,some 2],ft:=[some (89,0),some (3,2)],pl:=[(0,2),(2,1)],z:=some [.d .fz (.i .i64 0),.d .fz (.s ⟨#[]⟩),.d .fz (.i .i64 0)] }),
 (95,{ sz:=6,by_:=72,agg:=true,fo:=[some 0,some 1,some 2,some 3,some 4,some 5],ft:=[some (3,0),some (3,1),some (3,2),some (3,3),some (9,4),some (30,5)],pl:=[(0,1),(1,1),(2,1),(3,1),(4,1),(5,1)],z:=some [.d .fz (.i .i64 0),.d .fz (.i .i64 0),.d .fz (.i .i64 0),.d .fz (.i .i64 0),.d .fz (.s ⟨#[]⟩),.nl 1] }),
 (114,{ sz:=1,by_:=24,el:=some 206,z:=some [.nl 4] }),
 (116,{ sz:=2,by_:=40,agg:=true,fo:=[some 0,some 1],ft:=[some (9,0),some (114,1)],pl:=[(0,1),(1,1)],z:=some [.d .fz (.s ⟨#[]⟩),.nl 4] }),
 (118,{ sz:=1,by_:=24,el:=some 9,z:=some [.nl 1] }),
 (119,{ sz:=1,by_:=24,el:=some 213,z:=some [.nl 9] }),
 (120,{ sz:=1,by_:=24,el:=some 216,z:=some [.nl 16] }),
 (122,{ sz:=6,by_:=112,agg:=true,fo:=[some 0,some 1,some 2,some 3,some 4,some 5],ft:=[some (9,0),some (9,1),some (118,2),some (4,3),some (119,4),some (120,5)],pl:=[(0,1),(1,1),(2,1),(3,1),(4,1),(5,1)],z:=some [.d .fz (.s ⟨#[]⟩),.d .fz (.s ⟨#[]⟩),.nl 1,.d .fz (.b false),.nl 9,.nl 16] }),
 (124,{ sz:=6,by_:=72,agg:=true,fo:=[some 0,some 1,some 2,some 3,some 4,some 5],ft:=[some (3,0),some (3,1),some (3,2),some (3,3),some (9,4),some (30,5)],pl:=[(0,1),(1,1),(2,1),(3,1),(4,1),(5,1)],z:=some [.d .fz (.i .i64 0),.d .fz (.i .i64 0),.d .fz (.i .i64 0),.d .fz (.i .i64 0),.d .fz (.s ⟨#[]⟩),.nl 1] }),
 (127,{ sz:=4,by_:=40,agg:=true,fo:=[some 0,some 1,some 2,some 3],ft:=[some (9,0),some (3,1),some (3,2),some (4,3)],pl:=[(0,1),(1,1),(2,1),(3,1)],fk:=some [.str,.int,.int,.bool],z:=some [.d .fz (.s ⟨#[]⟩),.d .fz (.i .i64 0),.d .fz (.i .i64 0),.d .fz (.b false)] }),
 (131,{ sz:=1,by_:=24,el:=some 179,z:=some [.nl 9] }),
 (132,{ sz:=1,by_:=24,el:=some 204,z:=some [.nl 16] }),
 (134,{ sz:=6,by_:=112,agg:=true,fo:=[some 0,some 1,some 2,some 3,some 4,some 5],ft:=[some (9,0),some (9,1),some (118,2),some (4,3),some (131,4),some (132,5)],pl:=[(0,1),(1,1),(2,1),(3,1),(4,1),(5,1)],z:=some [.d .fz (.s ⟨#[]⟩),.d .fz (.s ⟨#[]⟩),.nl 1,.d .fz (.b false),.nl 9,.nl 16] }),
 (141,{ sz:=1,by_:=8,z:=some [.u] }),
 (142,{ sz:=1,by_:=24,el:=some 127,z:=some [.nl 4] }),
 (144,{ sz:=2,by_:=40,agg:=true,fo:=[some 0,some 1],ft:=[some (9,0),some (142,1)],pl:=[(0,1),(1,1)],z:=some [.d .fz (.s ⟨#[]⟩),.nl 4] }),
 (156,{ sz:=1,by_:=8,z:=some [.u] }),
 (157,{ sz:=1,by_:=8,z:=some [.u] }),
 (159,{ sz:=4,by_:=48,agg:=true,fo:=[some 0,some 1,some 2,some 3],ft:=[some (156,0),some (157,1),some (3,2),some (30,3)],pl:=[(0,1),(1,1),(2,1),(3,1)],z:=some [.u,.u,.d .fz (.i .i64 0),.nl 1] }),
 (168,{ sz:=1,by_:=24,el:=some 5,z:=some [.nl 1] }),
 (179,{ sz:=9,by_:=112,agg:=true,fo:=[some 0,some 2],ft:=[some (89,0),some (75,2)],pl:=[(0,2),(2,7)],z:=some [.d .fz (.i .i64 0),.d .fz (.s ⟨#[]⟩),.d .fz (.i .i64 0),.d .fz (.i .i64 0),.d .fz (.i .i64 0),.d .fz (.i .i64 0),.d .fz (.s ⟨#[]⟩),.d .fz (.s ⟨#[]⟩),.nl 7] }),
 (194,{ sz:=1,by_:=8,ik:=some .u64,z:=some [.d .fz (.i .u64 0)] }),
 (204,{ sz:=16,by_:=208,agg:=true,fo:=[some 0,some 1,some 2,some 9],ft:=[some (9,0),some (9,1),some (75,2),some (75,9)],pl:=[(0,1),(1,1),(2,7),(9,7)],z:=some [.d .fz (.s ⟨#[]⟩),.d .fz (.s ⟨#[]⟩),.d .fz (.i .i64 0),.d .fz (.i .i64 0),.d .fz (.i .i64 0),.d .fz (.i .i64 0),.d .fz (.s ⟨#[]⟩),.d .fz (.s ⟨#[]⟩),.nl 7,.d .fz (.i .i64 0),.d .fz (.i .i64 0),.d .fz (.i .i64 0),.d .fz (.i .i64 0),.d .fz (.s ⟨#[]⟩),.d .fz (.s ⟨#[]⟩),.nl 7] }),
 (206,{ sz:=4,by_:=40,agg:=true,fo:=[some 0,some 1,some 2,some 3],ft:=[some (9,0),some (3,1),some (3,2),some (4,3)],pl:=[(0,1),(1,1),(2,1),(3,1)],fk:=some [.str,.int,.int,.bool],z:=some [.d .fz (.s ⟨#[]⟩),.d .fz (.i .i64 0),.d .fz (.i .i64 0),.d .fz (.b false)] }),
 (208,{ sz:=2,by_:=24,agg:=true,fo:=[some 0,some 1],ft:=[some (3,0),some (9,1)],pl:=[(0,1),(1,1)],fk:=some [.int,.str],z:=some [.d .fz (.i .i64 0),.d .fz (.s ⟨#[]⟩)] }),
 (209,{ sz:=1,by_:=24,el:=some 211,z:=some [.nl 7] }),
 (211,{ sz:=7,by_:=88,agg:=true,fo:=[some 0,some 1,some 2,some 3,some 4,some 5,some 6],ft:=[some (3,0),some (3,1),some (3,2),some (3,3),some (9,4),some (9,5),some (209,6)],pl:=[(0,1),(1,1),(2,1),(3,1),(4,1),(5,1),(6,1)],z:=some [.d .fz (.i .i64 0),.d .fz (.i .i64 0),.d .fz (.i .i64 0),.d .fz (.i .i64 0),.d .fz (.s ⟨#[]⟩),.d .fz (.s ⟨#[]⟩),.nl 7] }),
 (213,{ sz:=9,by_:=112,agg:=true,fo:=[some 0,some 2],ft:=[some (208,0),some (211,2)],pl:=[(0,2),(2,7)],z:=some [.d .fz (.i .i64 0),.d .fz (.s ⟨#[]⟩),.d .fz (.i .i64 0),.d .fz (.i .i64 0),.d .fz (.i .i64 0),.d .fz (.i .i64 0),.d .fz (.s ⟨#[]⟩),.d .fz (.s ⟨#[]⟩),.nl 7] }),
 (216,{ sz:=16,by_:=208,agg:=true,fo:=[some 0,some 1,some 2,some 9],ft:=[some (9,0),some (9,1),some (211,2),some (211,9)],pl:=[(0,1),(1,1),(2,7),(9,7)],z:=some [.d .fz (.s ⟨#[]⟩),.d .fz (.s ⟨#[]⟩),.d .fz (.i .i64 0),.d .fz (.i .i64 0),.d .fz (.i .i64 0),.d .fz (.i .i64 0),.d .fz (.s ⟨#[]⟩),.d .fz (.s ⟨#[]⟩),.nl 7,.d .fz (.i .i64 0),.d .fz (.i .i64 0),.d .fz (.i .i64 0),.d .fz (.i .i64 0),.d .fz (.s ⟨#[]⟩),.d .fz (.s ⟨#[]⟩),.nl 7] })]
theorem j6Q:tab.ok Tryz.prog=true:=by kernel_rfl
instance:HasTab Tryz.prog:=⟨tab,j6Q⟩
end Go.Proofs.YtaholdflpgcndaaGreat
