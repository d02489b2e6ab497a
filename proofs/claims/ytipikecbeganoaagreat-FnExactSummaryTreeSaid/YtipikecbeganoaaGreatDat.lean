/- How the structs of the program read as data: plain definitions and lemmas, without conditions of their own. -/
import Derived.Test.YtipikecbeganoaaGreatAb9
import Derived.KernelRfl
import Derived.Test.YtipikecbeganoaaGreatProg
set_option linter.unusedVariables false
set_option linter.unusedSimpArgs false
set_option linter.ambiguousOpen false
set_option linter.unusedSectionVars false
set_option linter.unnecessarySimpa false
set_option maxRecDepth 100000
set_option maxHeartbeats 4000000
noncomputable section
namespace Go.Proofs.YtipikecbeganoaaGreat
open Go Go.E Go.A
def byD (b:UInt8):A.D:=.i .u8 (b.toNat:Int)
structure At_ where
 Name:ByteArray
 Type_:Int
 Mode:Int
 Circular:Bool
 deriving DecidableEq
def At_.l (x:At_):List A.D:=[.s x.Name,.i .i64 x.Type_,.i .i64 x.Mode,.b x.Circular]
def At_.D (x:At_):A.D:=.a (At_.l x)
def At_.x (m:Md)(x:At_):X:=.ag ((At_.l x).map (dX m))
structure Symbol where
 Name:ByteArray
 Attributes:(List At_)
 deriving DecidableEq
def Symbol.l (x:Symbol):List A.D:=[.s x.Name,.sl 4 (x.Attributes.map At_.D)]
def Symbol.D (x:Symbol):A.D:=.a (Symbol.l x)
def Symbol.W (x:Symbol):List Cell:=[.d .fz (.s x.Name),.w 4 (x.Attributes.map At_.D)]
def Symbol.x (m:Md)(x:Symbol):X:=.ag ((Symbol.l x).map (dX m))
structure Oc where
 Pos:Int
 Name:ByteArray
 deriving DecidableEq
def Oc.l (x:Oc):List A.D:=[.i .i64 x.Pos,.s x.Name]
def Oc.D (x:Oc):A.D:=.a (Oc.l x)
theorem q5R (x y:Oc):eqF [.int,.str] [.int .i64 x.Pos,.string x.Name] [.int .i64 y.Pos,.string y.Name]=some (decide (x=y)):=by
 have e:(x=y)↔(x.Pos=y.Pos∧x.Name=y.Name):=⟨fun h=>by subst h;simp,fun h=>by obtain⟨p0,p1⟩:=x;obtain⟨q0,q1⟩:=y;simp_all⟩
 rw[show decide (x=y)=decide (x.Pos=y.Pos∧x.Name=y.Name) from decide_eq_decide.2 e];simp[eqF,Bool.decide_and]
def Oc.x (m:Md)(x:Oc):X:=.ag ((Oc.l x).map (dX m))
structure Expr where
 Kind:Int
 N:Int
 Pos:Int
 Type_:Int
 Symbol:ByteArray
 Name:ByteArray
 Args:(List Expr)
noncomputable instance:DecidableEq Expr:=fun a b=>Classical.propDecidable (a=b)
mutual
def Expr.D:Expr→A.D
 | ⟨a0,a1,a2,a3,a4,a5,a6⟩=>.a [.i .i64 a0,.i .i64 a1,.i .i64 a2,.i .i64 a3,.s a4,.s a5,.sl 7 (Expr.Ds a6)]
def Expr.Ds:List Expr→List A.D
 | []=>[]
 | x::l=>Expr.D x::Expr.Ds l
end
theorem Expr.Ds_map:∀ l,Expr.Ds l=l.map Expr.D
 | []=>rfl
 | x::l=>by rw[Expr.Ds,Expr.Ds_map l];rfl
def Expr.l (x:Expr):List A.D:=[.i .i64 x.Kind,.i .i64 x.N,.i .i64 x.Pos,.i .i64 x.Type_,.s x.Symbol,.s x.Name,.sl 7 (x.Args.map Expr.D)]
theorem Expr.D_eq (x:Expr):Expr.D x=.a (Expr.l x):=by cases x;simp only[Expr.D,Expr.l,Expr.Ds_map]
theorem Expr.D_cells (x:Expr):(Expr.D x).cells=Expr.l x:=by rw[Expr.D_eq];rfl
def Expr.W (x:Expr):List Cell:=[.d .fz (.i .i64 x.Kind),.d .fz (.i .i64 x.N),.d .fz (.i .i64 x.Pos),.d .fz (.i .i64 x.Type_),.d .fz (.s x.Symbol),.d .fz (.s x.Name),.w 7 (x.Args.map Expr.D)]
instance:OwD Expr.D Expr.W:=⟨fun y=>by rw[j3N,Expr.D_cells];rfl,fun y=>by rw[DR,Expr.D_cells];rfl⟩
def Expr.x (m:Md)(x:Expr):X:=.ag ((Expr.l x).map (dX m))
structure Eqn where
 At:Oc
 Expr:Expr
noncomputable instance:DecidableEq Eqn:=fun a b=>Classical.propDecidable (a=b)
def Eqn.l (x:Eqn):List A.D:=[.i .i64 x.At.Pos,.s x.At.Name,.i .i64 x.Expr.Kind,.i .i64 x.Expr.N,.i .i64 x.Expr.Pos,.i .i64 x.Expr.Type_,.s x.Expr.Symbol,.s x.Expr.Name,.sl 7 (x.Expr.Args.map Expr.D)]
def Eqn.D (x:Eqn):A.D:=.a (Eqn.l x)
def Eqn.W (x:Eqn):List Cell:=[.d .fz (.i .i64 x.At.Pos),.d .fz (.s x.At.Name),.d .fz (.i .i64 x.Expr.Kind),.d .fz (.i .i64 x.Expr.N),.d .fz (.i .i64 x.Expr.Pos),.d .fz (.i .i64 x.Expr.Type_),.d .fz (.s x.Expr.Symbol),.d .fz (.s x.Expr.Name),.w 7 (x.Expr.Args.map Expr.D)]
instance:OwD Eqn.D Eqn.W:=⟨fun _=>rfl,fun _=>rfl⟩
def Eqn.x (m:Md)(x:Eqn):X:=.ag ((Eqn.l x).map (dX m))
structure Cn where
 Symbol:ByteArray
 Name:ByteArray
 Target:Expr
 Value:Expr
noncomputable instance:DecidableEq Cn:=fun a b=>Classical.propDecidable (a=b)
def Cn.l (x:Cn):List A.D:=[.s x.Symbol,.s x.Name,.i .i64 x.Target.Kind,.i .i64 x.Target.N,.i .i64 x.Target.Pos,.i .i64 x.Target.Type_,.s x.Target.Symbol,.s x.Target.Name,.sl 7 (x.Target.Args.map Expr.D),.i .i64 x.Value.Kind,.i .i64 x.Value.N,.i .i64 x.Value.Pos,.i .i64 x.Value.Type_,.s x.Value.Symbol,.s x.Value.Name,.sl 7 (x.Value.Args.map Expr.D)]
def Cn.D (x:Cn):A.D:=.a (Cn.l x)
def Cn.W (x:Cn):List Cell:=[.d .fz (.s x.Symbol),.d .fz (.s x.Name),.d .fz (.i .i64 x.Target.Kind),.d .fz (.i .i64 x.Target.N),.d .fz (.i .i64 x.Target.Pos),.d .fz (.i .i64 x.Target.Type_),.d .fz (.s x.Target.Symbol),.d .fz (.s x.Target.Name),.w 7 (x.Target.Args.map Expr.D),.d .fz (.i .i64 x.Value.Kind),.d .fz (.i .i64 x.Value.N),.d .fz (.i .i64 x.Value.Pos),.d .fz (.i .i64 x.Value.Type_),.d .fz (.s x.Value.Symbol),.d .fz (.s x.Value.Name),.w 7 (x.Value.Args.map Expr.D)]
instance:OwD Cn.D Cn.W:=⟨fun _=>rfl,fun _=>rfl⟩
def Cn.x (m:Md)(x:Cn):X:=.ag ((Cn.l x).map (dX m))
structure Rule where
 Name:ByteArray
 Left:ByteArray
 Right:(List ByteArray)
 Literal:Bool
 Equations:(List Eqn)
 Contributions:(List Cn)
noncomputable instance:DecidableEq Rule:=fun a b=>Classical.propDecidable (a=b)
def Rule.l (x:Rule):List A.D:=[.s x.Name,.s x.Left,.sl 1 (x.Right.map A.D.s),.b x.Literal,.sl 9 (x.Equations.map Eqn.D),.sl 16 (x.Contributions.map Cn.D)]
def Rule.D (x:Rule):A.D:=.a (Rule.l x)
def Rule.W (x:Rule):List Cell:=[.d .fz (.s x.Name),.d .fz (.s x.Left),.w 1 (x.Right.map A.D.s),.d .fz (.b x.Literal),.w 9 (x.Equations.map Eqn.D),.w 16 (x.Contributions.map Cn.D)]
def Rule.x (m:Md)(x:Rule):X:=.ag ((Rule.l x).map (dX m))
structure Gm_ where
 Symbols:(List Symbol)
 Rules:(List Rule)
noncomputable instance:DecidableEq Gm_:=fun a b=>Classical.propDecidable (a=b)
def Gm_.l (x:Gm_):List A.D:=[.sl 2 (x.Symbols.map Symbol.D),.sl 6 (x.Rules.map Rule.D)]
def Gm_.y (m:Md)(x:Gm_):X:=.ag [.d m (.sl 2 (x.Symbols.map Symbol.D)),.u]
def Gm_.x (m:Md)(x:Gm_):X:=.ag ((Gm_.l x).map (dX m))
structure Rl_ where
 N:Int
 Rows:(List Int)
 deriving DecidableEq
def Rl_.l (x:Rl_):List A.D:=[.i .i64 x.N,.sl 1 (x.Rows.map (A.D.i .i64))]
def Rl_.D (x:Rl_):A.D:=.a (Rl_.l x)
def Rl_.x (m:Md)(x:Rl_):X:=.ag ((Rl_.l x).map (dX m))
structure Node where
 Id:Int
 Parent:Int
 Place:Int
 Literal:Int
 Rule:ByteArray
 Children:(List Int)
 deriving DecidableEq
def Node.l (x:Node):List A.D:=[.i .i64 x.Id,.i .i64 x.Parent,.i .i64 x.Place,.i .i64 x.Literal,.s x.Rule,.sl 1 (x.Children.map (A.D.i .i64))]
def Node.D (x:Node):A.D:=.a (Node.l x)
def Node.O (x:Node):List Cell:=[.d .fz (.i .i64 x.Id),.d .fz (.i .i64 x.Parent),.d .fz (.i .i64 x.Place),.d .fz (.i .i64 x.Literal),.d .fz (.s x.Rule),.o .fz 1 (x.Children.map (A.D.i .i64))]
def Node.W (x:Node):List Cell:=[.d .fz (.i .i64 x.Id),.d .fz (.i .i64 x.Parent),.d .fz (.i .i64 x.Place),.d .fz (.i .i64 x.Literal),.d .fz (.s x.Rule),.w 1 (x.Children.map (A.D.i .i64))]
def Node.x (m:Md)(x:Node):X:=.ag ((Node.l x).map (dX m))
structure Tree where
 Nodes:(List Node)
 deriving DecidableEq
def Tree.l (x:Tree):List A.D:=[.sl 6 (x.Nodes.map Node.D)]
def Tree.D (x:Tree):A.D:=.a (Tree.l x)
def Tree.x (m:Md)(x:Tree):X:=.ag ((Tree.l x).map (dX m))
structure l25Found where
 rule:(List ByteArray)
 choice:(List (List Int))
 deriving DecidableEq
def l25Found.l (x:l25Found):List A.D:=[.sl 1 (x.rule.map A.D.s),.sl 1 (x.choice.map (fun (l:List Int)=>A.D.sl 1 (l.map (A.D.i .i64))))]
def l25Found.D (x:l25Found):A.D:=.a (l25Found.l x)
def l25Found.O (x:l25Found):List Cell:=[.o .fz 1 (x.rule.map A.D.s),.o .fz 1 (x.choice.map (fun (l:List Int)=>A.D.sl 1 (l.map (A.D.i .i64))))]
structure found where
 summary:Rl_
 rule:Rule
 children:(List Int)
noncomputable instance:DecidableEq found:=fun a b=>Classical.propDecidable (a=b)
def found.l (x:found):List A.D:=[.i .i64 x.summary.N,.sl 1 (x.summary.Rows.map (A.D.i .i64)),.s x.rule.Name,.s x.rule.Left,.sl 1 (x.rule.Right.map A.D.s),.b x.rule.Literal,.sl 9 (x.rule.Equations.map Eqn.D),.sl 16 (x.rule.Contributions.map Cn.D),.sl 1 (x.children.map (A.D.i .i64))]
def found.D (x:found):A.D:=.a (found.l x)
def found.x (m:Md)(x:found):X:=.ag ((found.l x).map (dX m))
instance:OwD (fun (l:List Rl_)=>A.D.sl 2 (l.map Rl_.D)) (fun (l:List Rl_)=>[Cell.w 2 (l.map Rl_.D)]):=⟨fun _=>rfl,fun _=>rfl⟩
instance:OwD (fun (l:List Int)=>A.D.sl 1 (l.map (A.D.i .i64))) (fun (l:List Int)=>[Cell.w 1 (l.map (A.D.i .i64))]):=⟨fun _=>rfl,fun _=>rfl⟩
instance:OwD (fun (l:List found)=>A.D.sl 9 (l.map found.D)) (fun (l:List found)=>[Cell.w 9 (l.map found.D)]):=⟨fun _=>rfl,fun _=>rfl⟩
def tab:Tab:=[
 (3,{ sz:=1,by_:=8,ik:=some .i64,z:=some [.d .fz (.i .i64 0)] }),
 (4,{ sz:=1,by_:=1,z:=some [.d .fz (.b false)] }),
 (5,{ sz:=1,by_:=1,ik:=some .u8,z:=some [.d .fz (.i .u8 0)] }),
 (9,{ sz:=1,by_:=16,str:=true,z:=some [.d .fz (.s ⟨#[]⟩)] }),
 (22,{ sz:=1,by_:=24,el:=some 100,z:=some [.nl 2] }),
 (23,{ sz:=1,by_:=24,el:=some 105,z:=some [.nl 6] }),
 (25,{ sz:=2,by_:=48,agg:=true,fo:=[some 0,some 1],ft:=[some (22,0),some (23,1)],pl:=[(0,1),(1,1)],z:=some [.nl 2,.nl 6] }),
 (26,{ sz:=1,by_:=24,el:=some 3,z:=some [.nl 1] }),
 (28,{ sz:=2,by_:=32,agg:=true,fo:=[some 0,some 1],ft:=[some (3,0),some (26,1)],pl:=[(0,1),(1,1)],z:=some [.d .fz (.i .i64 0),.nl 1] }),
 (31,{ sz:=1,by_:=24,el:=some 114,z:=some [.nl 6] }),
 (33,{ sz:=1,by_:=24,agg:=true,fo:=[some 0],ft:=[some (31,0)],pl:=[(0,1)],z:=some [.nl 6] }),
 (36,{ sz:=1,by_:=24,el:=some 108,z:=some [.nl 2] }),
 (37,{ sz:=1,by_:=24,el:=some 78,z:=some [.nl 6] }),
 (39,{ sz:=2,by_:=48,agg:=true,fo:=[some 0,some 1],ft:=[some (36,0),some (37,1)],pl:=[(0,1),(1,1)],z:=some [.nl 2,.nl 6] }),
 (41,{ sz:=2,by_:=32,agg:=true,fo:=[some 0,some 1],ft:=[some (3,0),some (26,1)],pl:=[(0,1),(1,1)],z:=some [.d .fz (.i .i64 0),.nl 1] }),
 (57,{ sz:=1,by_:=24,el:=some 61,z:=some [.nl 1] }),
 (58,{ sz:=1,by_:=24,el:=some 67,z:=some [.nl 2] }),
 (61,{ sz:=1,by_:=24,el:=some 41,z:=some [.nl 2] }),
 (64,{ sz:=1,by_:=24,el:=some 9,z:=some [.nl 1] }),
 (65,{ sz:=1,by_:=24,el:=some 26,z:=some [.nl 1] }),
 (67,{ sz:=2,by_:=48,agg:=true,fo:=[some 0,some 1],ft:=[some (64,0),some (65,1)],pl:=[(0,1),(1,1)],z:=some [.nl 1,.nl 1] }),
 (71,{ sz:=1,by_:=24,el:=some 74,z:=some [.nl 1] }),
 (74,{ sz:=1,by_:=24,el:=some 80,z:=some [.nl 9] }),
 (75,{ sz:=1,by_:=24,el:=some 173,z:=some [.nl 9] }),
 (76,{ sz:=1,by_:=24,el:=some 176,z:=some [.nl 16] }),
 (78,{ sz:=6,by_:=112,agg:=true,fo:=[some 0,some 1,some 2,some 3,some 4,some 5],ft:=[some (9,0),some (9,1),some (64,2),some (4,3),some (75,4),some (76,5)],pl:=[(0,1),(1,1),(2,1),(3,1),(4,1),(5,1)],z:=some [.d .fz (.s ⟨#[]⟩),.d .fz (.s ⟨#[]⟩),.nl 1,.d .fz (.b false),.nl 9,.nl 16] }),
 (80,{ sz:=9,by_:=168,agg:=true,fo:=[some 0,some 2,some 8],ft:=[some (41,0),some (78,2),some (26,8)],pl:=[(0,2),(2,6),(8,1)],z:=some [.d .fz (.i .i64 0),.nl 1,.d .fz (.s ⟨#[]⟩),.d .fz (.s ⟨#[]⟩),.nl 1,.d .fz (.b false),.nl 9,.nl 16,.nl 1] }),
 (98,{ sz:=1,by_:=24,el:=some 185,z:=some [.nl 4] }),
 (100,{ sz:=2,by_:=40,agg:=true,fo:=[some 0,some 1],ft:=[some (9,0),some (98,1)],pl:=[(0,1),(1,1)],z:=some [.d .fz (.s ⟨#[]⟩),.nl 4] }),
 (102,{ sz:=1,by_:=24,el:=some 192,z:=some [.nl 9] }),
 (103,{ sz:=1,by_:=24,el:=some 195,z:=some [.nl 16] }),
 (105,{ sz:=6,by_:=112,agg:=true,fo:=[some 0,some 1,some 2,some 3,some 4,some 5],ft:=[some (9,0),some (9,1),some (64,2),some (4,3),some (102,4),some (103,5)],pl:=[(0,1),(1,1),(2,1),(3,1),(4,1),(5,1)],z:=some [.d .fz (.s ⟨#[]⟩),.d .fz (.s ⟨#[]⟩),.nl 1,.d .fz (.b false),.nl 9,.nl 16] }),
 (106,{ sz:=1,by_:=24,el:=some 153,z:=some [.nl 4] }),
 (108,{ sz:=2,by_:=40,agg:=true,fo:=[some 0,some 1],ft:=[some (9,0),some (106,1)],pl:=[(0,1),(1,1)],z:=some [.d .fz (.s ⟨#[]⟩),.nl 4] }),
 (114,{ sz:=6,by_:=72,agg:=true,fo:=[some 0,some 1,some 2,some 3,some 4,some 5],ft:=[some (3,0),some (3,1),some (3,2),some (3,3),some (9,4),some (26,5)],pl:=[(0,1),(1,1),(2,1),(3,1),(4,1),(5,1)],z:=some [.d .fz (.i .i64 0),.d .fz (.i .i64 0),.d .fz (.i .i64 0),.d .fz (.i .i64 0),.d .fz (.s ⟨#[]⟩),.nl 1] }),
 (117,{ sz:=1,by_:=24,el:=some 33,z:=some [.nl 1] }),
 (126,{ sz:=1,by_:=8,z:=some [.u] }),
 (140,{ sz:=1,by_:=24,el:=some 168,z:=some [.nl 2] }),
 (153,{ sz:=4,by_:=40,agg:=true,fo:=[some 0,some 1,some 2,some 3],ft:=[some (9,0),some (3,1),some (3,2),some (4,3)],pl:=[(0,1),(1,1),(2,1),(3,1)],fk:=some [.str,.int,.int,.bool],z:=some [.d .fz (.s ⟨#[]⟩),.d .fz (.i .i64 0),.d .fz (.i .i64 0),.d .fz (.b false)] }),
 (166,{ sz:=1,by_:=24,el:=some 5,z:=some [.nl 1] }),
 (168,{ sz:=2,by_:=24,agg:=true,fo:=[some 0,some 1],ft:=[some (3,0),some (9,1)],pl:=[(0,1),(1,1)],fk:=some [.int,.str],z:=some [.d .fz (.i .i64 0),.d .fz (.s ⟨#[]⟩)] }),
 (169,{ sz:=1,by_:=24,el:=some 171,z:=some [.nl 7] }),
 (171,{ sz:=7,by_:=88,agg:=true,fo:=[some 0,some 1,some 2,some 3,some 4,some 5,some 6],ft:=[some (3,0),some (3,1),some (3,2),some (3,3),some (9,4),some (9,5),some (169,6)],pl:=[(0,1),(1,1),(2,1),(3,1),(4,1),(5,1),(6,1)],z:=some [.d .fz (.i .i64 0),.d .fz (.i .i64 0),.d .fz (.i .i64 0),.d .fz (.i .i64 0),.d .fz (.s ⟨#[]⟩),.d .fz (.s ⟨#[]⟩),.nl 7] }),
 (173,{ sz:=9,by_:=112,agg:=true,fo:=[some 0,some 2],ft:=[some (168,0),some (171,2)],pl:=[(0,2),(2,7)],z:=some [.d .fz (.i .i64 0),.d .fz (.s ⟨#[]⟩),.d .fz (.i .i64 0),.d .fz (.i .i64 0),.d .fz (.i .i64 0),.d .fz (.i .i64 0),.d .fz (.s ⟨#[]⟩),.d .fz (.s ⟨#[]⟩),.nl 7] }),
 (176,{ sz:=16,by_:=208,agg:=true,fo:=[some 0,some 1,some 2,some 9],ft:=[some (9,0),some (9,1),some (171,2),some (171,9)],pl:=[(0,1),(1,1),(2,7),(9,7)],z:=some [.d .fz (.s ⟨#[]⟩),.d .fz (.s ⟨#[]⟩),.d .fz (.i .i64 0),.d .fz (.i .i64 0),.d .fz (.i .i64 0),.d .fz (.i .i64 0),.d .fz (.s ⟨#[]⟩),.d .fz (.s ⟨#[]⟩),.nl 7,.d .fz (.i .i64 0),.d .fz (.i .i64 0),.d .fz (.i .i64 0),.d .fz (.i .i64 0),.d .fz (.s ⟨#[]⟩),.d .fz (.s ⟨#[]⟩),.nl 7] }),
 (178,{ sz:=1,by_:=8,ik:=some .u64,z:=some [.d .fz (.i .u64 0)] }),
 (185,{ sz:=4,by_:=40,agg:=true,fo:=[some 0,some 1,some 2,some 3],ft:=[some (9,0),some (3,1),some (3,2),some (4,3)],pl:=[(0,1),(1,1),(2,1),(3,1)],fk:=some [.str,.int,.int,.bool],z:=some [.d .fz (.s ⟨#[]⟩),.d .fz (.i .i64 0),.d .fz (.i .i64 0),.d .fz (.b false)] }),
 (187,{ sz:=2,by_:=24,agg:=true,fo:=[some 0,some 1],ft:=[some (3,0),some (9,1)],pl:=[(0,1),(1,1)],fk:=some [.int,.str],z:=some [.d .fz (.i .i64 0),.d .fz (.s ⟨#[]⟩)] }),
 (188,{ sz:=1,by_:=24,el:=some 190,z:=some [.nl 7] }),
 (190,{ sz:=7,by_:=88,agg:=true,fo:=[some 0,some 1,some 2,some 3,some 4,some 5,some 6],ft:=[some (3,0),some (3,1),some (3,2),some (3,3),some (9,4),some (9,5),some (188,6)],pl:=[(0,1),(1,1),(2,1),(3,1),(4,1),(5,1),(6,1)],z:=some [.d .fz (.i .i64 0),.d .fz (.i .i64 0),.d .fz (.i .i64 0),.d .fz (.i .i64 0),.d .fz (.s ⟨#[]⟩),.d .fz (.s ⟨#[]⟩),.nl 7] }),
 (192,{ sz:=9,by_:=112,agg:=true,fo:=[some 0,some 2],ft:=[some (187,0),some (190,2)],pl:=[(0,2),(2,7)],z:=some [.d .fz (.i .i64 0),.d .fz (.s ⟨#[]⟩),.d .fz (.i .i64 0),.d .fz (.i .i64 0),.d .fz (.i .i64 0),.d .fz (.i .i64 0),.d .fz (.s ⟨#[]⟩),.d .fz (.s ⟨#[]⟩),.nl 7] }),
 (195,{ sz:=16,by_:=208,agg:=true,fo:=[some 0,some 1,some 2,some 9],ft:=[some (9,0),some (9,1),some (190,2),some (190,9)],pl:=[(0,1),(1,1),(2,7),(9,7)],z:=some [.d .fz (.s ⟨#[]⟩),.d .fz (.s ⟨#[]⟩),.d .fz (.i .i64 0),.d .fz (.i .i64 0),.d .fz (.i .i64 0),.d .fz (.i .i64 0),.d .fz (.s ⟨#[]⟩),.d .fz (.s ⟨#[]⟩),.nl 7,.d .fz (.i .i64 0),.d .fz (.i .i64 0),.d .fz (.i .i64 0),.d .fz (.i .i64 0),.d .fz (.s ⟨#[]⟩),.d .fz (.s ⟨#[]⟩),.nl 7] }),
 (236,{ sz:=1,by_:=8,z:=some [.u] })]
theorem k9G:tab.ok Tryz.prog=true:=by kernel_rfl
instance:HasTab Tryz.prog:=⟨tab,k9G⟩
end Go.Proofs.YtipikecbeganoaaGreat
