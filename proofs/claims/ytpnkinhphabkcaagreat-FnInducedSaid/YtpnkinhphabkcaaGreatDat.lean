/- How the structs of the program read as data: plain definitions and lemmas, without conditions of their own. -/
import Derived.Test.YtpnkinhphabkcaaGreatAb4
import Derived.KernelRfl
import Derived.Test.YtpnkinhphabkcaaGreatProg
set_option linter.unusedVariables false
set_option linter.unusedSimpArgs false
set_option linter.ambiguousOpen false
set_option linter.unusedSectionVars false
set_option linter.unnecessarySimpa false
set_option maxRecDepth 100000
set_option maxHeartbeats 4000000
noncomputable section
namespace Go.Proofs.YtpnkinhphabkcaaGreat
open Go Go.E Go.A
def byD (b:UInt8):A.D:=.i .u8 (b.toNat:Int)
structure Attribute where
 Name:ByteArray
 Type_:Int
 Mode:Int
 Circular:Bool
 deriving DecidableEq
def Attribute.l (x:Attribute):List A.D:=[.s x.Name,.i .i64 x.Type_,.i .i64 x.Mode,.b x.Circular]
def Attribute.D (x:Attribute):A.D:=.a (Attribute.l x)
def Attribute.x (m:Md)(x:Attribute):X:=.ag ((Attribute.l x).map (dX m))
structure Symbol where
 Name:ByteArray
 Attributes:(List Attribute)
 deriving DecidableEq
def Symbol.l (x:Symbol):List A.D:=[.s x.Name,.sl 4 (x.Attributes.map Attribute.D)]
def Symbol.D (x:Symbol):A.D:=.a (Symbol.l x)
def Symbol.O (x:Symbol):List Cell:=[.d .fz (.s x.Name),.o .fz 4 (x.Attributes.map Attribute.D)]
def Symbol.x (m:Md)(x:Symbol):X:=.ag ((Symbol.l x).map (dX m))
structure Occurrence where
 Pos:Int
 Name:ByteArray
 deriving DecidableEq
def Occurrence.l (x:Occurrence):List A.D:=[.i .i64 x.Pos,.s x.Name]
def Occurrence.D (x:Occurrence):A.D:=.a (Occurrence.l x)
theorem q6o (x y:Occurrence):eqF [.int,.str] [.int .i64 x.Pos,.string x.Name] [.int .i64 y.Pos,.string y.Name]=some (decide (x=y)):=by
 have e:(x=y)↔(x.Pos=y.Pos∧x.Name=y.Name):=⟨fun h=>by subst h; simp,fun h=>by obtain⟨p0,p1⟩:=x; obtain⟨q0,q1⟩:=y; simp_all⟩
 rw [show decide (x=y)=decide (x.Pos=y.Pos∧x.Name=y.Name) from decide_eq_decide.2 e]; simp [eqF,Bool.decide_and]
def Occurrence.x (m:Md)(x:Occurrence):X:=.ag ((Occurrence.l x).map (dX m))
structure Expr where
 Kind:Int
 N:Int
 Pos:Int
 Type_:Int
 Symbol:ByteArray
 Name:ByteArray
 Args:(List Expr)
noncomputable instance:DecidableEq Expr:=fun a b=>Classical.propDecidable (a=b)
mutual
def Expr.D:Expr→A.D
 | ⟨a0,a1,a2,a3,a4,a5,a6⟩=>.a [.i .i64 a0,.i .i64 a1,.i .i64 a2,.i .i64 a3,.s a4,.s a5,.sl 7 (Expr.Ds a6)]
def Expr.Ds:List Expr→List A.D
 | []=>[]
 | x :: l=>Expr.D x :: Expr.Ds l
end
theorem Expr.Ds_map:∀ l,Expr.Ds l=l.map Expr.D
 | []=>rfl
 | x :: l=>by rw [Expr.Ds,Expr.Ds_map l]; rfl
def Expr.l (x:Expr):List A.D:=[.i .i64 x.Kind,.i .i64 x.N,.i .i64 x.Pos,.i .i64 x.Type_,.s x.Symbol,.s x.Name,.sl 7 (x.Args.map Expr.D)]
theorem Expr.D_eq (x:Expr):Expr.D x = .a (Expr.l x):=by cases x; simp only [Expr.D,Expr.l,Expr.Ds_map]
theorem Expr.D_cells (x:Expr):(Expr.D x).cells=Expr.l x:=by rw [Expr.D_eq]; rfl
def Expr.x (m:Md)(x:Expr):X:=.ag ((Expr.l x).map (dX m))
structure Equation where
 At:Occurrence
 Expr:Expr
noncomputable instance:DecidableEq Equation:=fun a b=>Classical.propDecidable (a=b)
def Equation.l (x:Equation):List A.D:=[.i .i64 x.At.Pos,.s x.At.Name,.i .i64 x.Expr.Kind,.i .i64 x.Expr.N,.i .i64 x.Expr.Pos,.i .i64 x.Expr.Type_,.s x.Expr.Symbol,.s x.Expr.Name,.sl 7 (x.Expr.Args.map Expr.D)]
def Equation.D (x:Equation):A.D:=.a (Equation.l x)
def Equation.x (m:Md)(x:Equation):X:=.ag ((Equation.l x).map (dX m))
structure Contribution where
 Symbol:ByteArray
 Name:ByteArray
 Target:Expr
 Value:Expr
noncomputable instance:DecidableEq Contribution:=fun a b=>Classical.propDecidable (a=b)
def Contribution.l (x:Contribution):List A.D:=[.s x.Symbol,.s x.Name,.i .i64 x.Target.Kind,.i .i64 x.Target.N,.i .i64 x.Target.Pos,.i .i64 x.Target.Type_,.s x.Target.Symbol,.s x.Target.Name,.sl 7 (x.Target.Args.map Expr.D),.i .i64 x.Value.Kind,.i .i64 x.Value.N,.i .i64 x.Value.Pos,.i .i64 x.Value.Type_,.s x.Value.Symbol,.s x.Value.Name,.sl 7 (x.Value.Args.map Expr.D)]
def Contribution.D (x:Contribution):A.D:=.a (Contribution.l x)
structure Rule where
 Name:ByteArray
 Left:ByteArray
 Right:(List ByteArray)
 Literal:Bool
 Equations:(List Equation)
 Contributions:(List Contribution)
noncomputable instance:DecidableEq Rule:=fun a b=>Classical.propDecidable (a=b)
def Rule.l (x:Rule):List A.D:=[.s x.Name,.s x.Left,.sl 1 (x.Right.map A.D.s),.b x.Literal,.sl 9 (x.Equations.map Equation.D),.sl 16 (x.Contributions.map Contribution.D)]
def Rule.D (x:Rule):A.D:=.a (Rule.l x)
def Rule.O (x:Rule):List Cell:=[.d .fz (.s x.Name),.d .fz (.s x.Left),.o .fz 1 (x.Right.map A.D.s),.d .fz (.b x.Literal),.o .fz 9 (x.Equations.map Equation.D),.o .fz 16 (x.Contributions.map Contribution.D)]
def Rule.x (m:Md)(x:Rule):X:=.ag ((Rule.l x).map (dX m))
structure Grammar where
 Symbols:(List Symbol)
 Rules:(List Rule)
noncomputable instance:DecidableEq Grammar:=fun a b=>Classical.propDecidable (a=b)
def Grammar.l (x:Grammar):List A.D:=[.sl 2 (x.Symbols.map Symbol.D),.sl 6 (x.Rules.map Rule.D)]
def Grammar.y (m:Md)(x:Grammar):X:=.ag [.d m (.sl 2 (x.Symbols.map Symbol.D)),.u]
def Grammar.x (m:Md)(x:Grammar):X:=.ag ((Grammar.l x).map (dX m))
structure Relation where
 N:Int
 Rows:(List Int)
 deriving DecidableEq
def Relation.l (x:Relation):List A.D:=[.i .i64 x.N,.sl 1 (x.Rows.map (A.D.i .i64))]
def Relation.D (x:Relation):A.D:=.a (Relation.l x)
def Relation.x (m:Md)(x:Relation):X:=.ag ((Relation.l x).map (dX m))
structure Phase where
 Inherited:(List ByteArray)
 Synthesized:(List ByteArray)
 deriving DecidableEq
def Phase.l (x:Phase):List A.D:=[.sl 1 (x.Inherited.map A.D.s),.sl 1 (x.Synthesized.map A.D.s)]
def Phase.D (x:Phase):A.D:=.a (Phase.l x)
structure l1Cur where
 b:(List UInt8)
 i:Int
 h:Int
 deriving DecidableEq
def tab:Tab:=[
 (3,{ sz:=1,by_:=8,ik:=some .i64,z:=some [.d .fz (.i .i64 0)] }),
 (4,{ sz:=1,by_:=1,z:=some [.d .fz (.b false)] }),
 (5,{ sz:=1,by_:=1,ik:=some .u8,z:=some [.d .fz (.i .u8 0)] }),
 (9,{ sz:=1,by_:=16,str:=true,z:=some [.d .fz (.s ⟨#[]⟩)] }),
 (22,{ sz:=1,by_:=24,el:=some 5,z:=some [.nl 1] }),
 (24,{ sz:=1,by_:=24,el:=some 59,z:=some [.nl 2] }),
 (25,{ sz:=1,by_:=24,el:=some 45,z:=some [.nl 6] }),
 (27,{ sz:=2,by_:=48,agg:=true,fo:=[some 0,some 1],ft:=[some (24,0),some (25,1)],pl:=[(0,1),(1,1)],z:=some [.nl 2,.nl 6] }),
 (29,{ sz:=1,by_:=24,el:=some 38,z:=some [.nl 2] }),
 (32,{ sz:=1,by_:=24,el:=some 61,z:=some [.nl 1] }),
 (36,{ sz:=1,by_:=24,el:=some 3,z:=some [.nl 1] }),
 (38,{ sz:=2,by_:=32,agg:=true,fo:=[some 0,some 1],ft:=[some (3,0),some (36,1)],pl:=[(0,1),(1,1)],z:=some [.d .fz (.i .i64 0),.nl 1] }),
 (41,{ sz:=1,by_:=24,el:=some 9,z:=some [.nl 1] }),
 (42,{ sz:=1,by_:=24,el:=some 112,z:=some [.nl 9] }),
 (43,{ sz:=1,by_:=24,el:=some 145,z:=some [.nl 16] }),
 (45,{ sz:=6,by_:=112,agg:=true,fo:=[some 0,some 1,some 2,some 3,some 4,some 5],ft:=[some (9,0),some (9,1),some (41,2),some (4,3),some (42,4),some (43,5)],pl:=[(0,1),(1,1),(2,1),(3,1),(4,1),(5,1)],z:=some [.d .fz (.s ⟨#[]⟩),.d .fz (.s ⟨#[]⟩),.nl 1,.d .fz (.b false),.nl 9,.nl 16] }),
 (56,{ sz:=1,by_:=24,el:=some 93,z:=some [.nl 4] }),
 (59,{ sz:=2,by_:=40,agg:=true,fo:=[some 0,some 1],ft:=[some (9,0),some (56,1)],pl:=[(0,1),(1,1)],z:=some [.d .fz (.s ⟨#[]⟩),.nl 4] }),
 (61,{ sz:=1,by_:=24,el:=some 103,z:=some [.nl 2] }),
 (74,{ sz:=1,by_:=8,z:=some [.u] }),
 (75,{ sz:=1,by_:=24,el:=some 78,z:=some [.nl 2] }),
 (78,{ sz:=2,by_:=24,agg:=true,fo:=[some 0,some 1],ft:=[some (3,0),some (9,1)],pl:=[(0,1),(1,1)],fk:=some [.int,.str],z:=some [.d .fz (.i .i64 0),.d .fz (.s ⟨#[]⟩)] }),
 (79,{ sz:=1,by_:=24,el:=some 81,z:=some [.nl 7] }),
 (81,{ sz:=7,by_:=88,agg:=true,fo:=[some 0,some 1,some 2,some 3,some 4,some 5,some 6],ft:=[some (3,0),some (3,1),some (3,2),some (3,3),some (9,4),some (9,5),some (79,6)],pl:=[(0,1),(1,1),(2,1),(3,1),(4,1),(5,1),(6,1)],z:=some [.d .fz (.i .i64 0),.d .fz (.i .i64 0),.d .fz (.i .i64 0),.d .fz (.i .i64 0),.d .fz (.s ⟨#[]⟩),.d .fz (.s ⟨#[]⟩),.nl 7] }),
 (91,{ sz:=1,by_:=8,ik:=some .u64,z:=some [.d .fz (.i .u64 0)] }),
 (93,{ sz:=4,by_:=40,agg:=true,fo:=[some 0,some 1,some 2,some 3],ft:=[some (9,0),some (3,1),some (3,2),some (4,3)],pl:=[(0,1),(1,1),(2,1),(3,1)],fk:=some [.str,.int,.int,.bool],z:=some [.d .fz (.s ⟨#[]⟩),.d .fz (.i .i64 0),.d .fz (.i .i64 0),.d .fz (.b false)] }),
 (98,{ sz:=1,by_:=24,el:=some 4,z:=some [.nl 1] }),
 (99,{ sz:=1,by_:=8,z:=some [.u] }),
 (103,{ sz:=2,by_:=48,agg:=true,fo:=[some 0,some 1],ft:=[some (41,0),some (41,1)],pl:=[(0,1),(1,1)],z:=some [.nl 1,.nl 1] }),
 (107,{ sz:=3,by_:=40,agg:=true,fo:=[some 0,some 1,some 2],ft:=[some (22,0),some (3,1),some (3,2)],pl:=[(0,1),(1,1),(2,1)],z:=some [.nl 1,.d .fz (.i .i64 0),.d .fz (.i .i64 0)] }),
 (112,{ sz:=9,by_:=112,agg:=true,fo:=[some 0,some 2],ft:=[some (78,0),some (81,2)],pl:=[(0,2),(2,7)],z:=some [.d .fz (.i .i64 0),.d .fz (.s ⟨#[]⟩),.d .fz (.i .i64 0),.d .fz (.i .i64 0),.d .fz (.i .i64 0),.d .fz (.i .i64 0),.d .fz (.s ⟨#[]⟩),.d .fz (.s ⟨#[]⟩),.nl 7] }),
 (122,{ sz:=1,by_:=8,z:=some [.u] }),
 (145,{ sz:=16,by_:=208,agg:=true,fo:=[some 0,some 1,some 2,some 9],ft:=[some (9,0),some (9,1),some (81,2),some (81,9)],pl:=[(0,1),(1,1),(2,7),(9,7)],z:=some [.d .fz (.s ⟨#[]⟩),.d .fz (.s ⟨#[]⟩),.d .fz (.i .i64 0),.d .fz (.i .i64 0),.d .fz (.i .i64 0),.d .fz (.i .i64 0),.d .fz (.s ⟨#[]⟩),.d .fz (.s ⟨#[]⟩),.nl 7,.d .fz (.i .i64 0),.d .fz (.i .i64 0),.d .fz (.i .i64 0),.d .fz (.i .i64 0),.d .fz (.s ⟨#[]⟩),.d .fz (.s ⟨#[]⟩),.nl 7] })]
theorem k6v:tab.ok Tryz.prog=true:=by kernel_rfl
instance:HasTab Tryz.prog:=⟨tab,k6v⟩
end Go.Proofs.YtpnkinhphabkcaaGreat
