/- How the structs of the program read as data: plain definitions and lemmas, without conditions of their own. -/
import Derived.Test.YtgkepiefcpfimaaGreatDoorAb11
import Derived.KernelRfl
import Derived.Test.YtgkepiefcpfimaaGreatDoorProg
set_option linter.unusedVariables false
set_option linter.unusedSimpArgs false
set_option linter.ambiguousOpen false
set_option linter.unusedSectionVars false
set_option linter.unnecessarySimpa false
set_option maxRecDepth 100000
set_option maxHeartbeats 4000000
noncomputable section
namespace Go.Proofs.YtgkepiefcpfimaaGreatDoor
open Go Go.E Go.A
def byD (b:UInt8):A.D:=.i .u8 (b.toNat:Int)
structure At_ where
 Name:BA_
 t__:Int
 Mode:Int
 Circular:Bool
 deriving DecidableEq
def At_.l (x:At_):List A.D:=[.s x.Name,.i .i64 x.t__,.i .i64 x.Mode,.b x.Circular]
def At_.D (x:At_):A.D:=.a (At_.l x)
def At_.x (m:Md)(x:At_):X:=.ag ((At_.l x).map (dX m))
structure Symbol where
 Name:BA_
 as_:(List At_)
 deriving DecidableEq
def Symbol.l (x:Symbol):List A.D:=[.s x.Name,.sl 4 (x.as_.map At_.D)]
def Symbol.D (x:Symbol):A.D:=.a (Symbol.l x)
def Symbol.O (x:Symbol):List Cell:=[.d .fz (.s x.Name),.o .fz 4 (x.as_.map At_.D)]
def Symbol.x (m:Md)(x:Symbol):X:=.ag ((Symbol.l x).map (dX m))
structure Oc where
 Pos:Int
 Name:BA_
 deriving DecidableEq
def Oc.l (x:Oc):List A.D:=[.i .i64 x.Pos,.s x.Name]
def Oc.D (x:Oc):A.D:=.a (Oc.l x)
theorem q6B (x y:Oc):eqF [.int,.str] [.int .i64 x.Pos,.string x.Name] [.int .i64 y.Pos,.string y.Name]=some (decide (x=y)):=by
 have e:(x=y)↔(x.Pos=y.Pos∧x.Name=y.Name):=⟨fun h=>by subst h;simp,fun h=>by obtain⟨p0,p1⟩:=x;obtain⟨q0,q1⟩:=y;simp_all⟩
 rw[show decide (x=y)=decide (x.Pos=y.Pos∧x.Name=y.Name) from decide_eq_decide.2 e];simp[eqF,Bool.decide_and]
def Oc.x (m:Md)(x:Oc):X:=.ag ((Oc.l x).map (dX m))
structure Expr where
 Kind:Int
 N:Int
 Pos:Int
 t__:Int
 Symbol:BA_
 Name:BA_
 Args:(List Expr)
noncomputable instance:DecidableEq Expr:=fun a b=>Classical.propDecidable (a=b)
mutual
def Expr.D:Expr→A.D
 | ⟨a0,a1,a2,a3,a4,a5,a6⟩=>.a [.i .i64 a0,.i .i64 a1,.i .i64 a2,.i .i64 a3,.s a4,.s a5,.sl 7 (Expr.Ds a6)]
def Expr.Ds:List Expr→List A.D
 | []=>[]
 | x::l=>Expr.D x::Expr.Ds l
end
theorem Expr.Ds_map:∀ l,Expr.Ds l=l.map Expr.D
 | []=>rfl
 | x::l=>by rw[Expr.Ds,Expr.Ds_map l];rfl
def Expr.l (x:Expr):List A.D:=[.i .i64 x.Kind,.i .i64 x.N,.i .i64 x.Pos,.i .i64 x.t__,.s x.Symbol,.s x.Name,.sl 7 (x.Args.map Expr.D)]
theorem Expr.D_eq (x:Expr):Expr.D x=.a (Expr.l x):=by cases x;simp only[Expr.D,Expr.l,Expr.Ds_map]
theorem Expr.D_cells (x:Expr):(Expr.D x).cells=Expr.l x:=by rw[Expr.D_eq];rfl
def Expr.x (m:Md)(x:Expr):X:=.ag ((Expr.l x).map (dX m))
structure Eqn where
 At:Oc
 Expr:Expr
noncomputable instance:DecidableEq Eqn:=fun a b=>Classical.propDecidable (a=b)
def Eqn.l (x:Eqn):List A.D:=[.i .i64 x.At.Pos,.s x.At.Name,.i .i64 x.Expr.Kind,.i .i64 x.Expr.N,.i .i64 x.Expr.Pos,.i .i64 x.Expr.t__,.s x.Expr.Symbol,.s x.Expr.Name,.sl 7 (x.Expr.Args.map Expr.D)]
def Eqn.D (x:Eqn):A.D:=.a (Eqn.l x)
def Eqn.x (m:Md)(x:Eqn):X:=.ag ((Eqn.l x).map (dX m))
structure Cn where
 Symbol:BA_
 Name:BA_
 Target:Expr
 Value:Expr
noncomputable instance:DecidableEq Cn:=fun a b=>Classical.propDecidable (a=b)
def Cn.l (x:Cn):List A.D:=[.s x.Symbol,.s x.Name,.i .i64 x.Target.Kind,.i .i64 x.Target.N,.i .i64 x.Target.Pos,.i .i64 x.Target.t__,.s x.Target.Symbol,.s x.Target.Name,.sl 7 (x.Target.Args.map Expr.D),.i .i64 x.Value.Kind,.i .i64 x.Value.N,.i .i64 x.Value.Pos,.i .i64 x.Value.t__,.s x.Value.Symbol,.s x.Value.Name,.sl 7 (x.Value.Args.map Expr.D)]
def Cn.D (x:Cn):A.D:=.a (Cn.l x)
structure Rule where
 Name:BA_
 Left:BA_
 rt_:(List BA_)
 ll_:Bool
 es_:(List Eqn)
 cs_:(List Cn)
noncomputable instance:DecidableEq Rule:=fun a b=>Classical.propDecidable (a=b)
def Rule.l (x:Rule):List A.D:=[.s x.Name,.s x.Left,.sl 1 (x.rt_.map A.D.s),.b x.ll_,.sl 9 (x.es_.map Eqn.D),.sl 16 (x.cs_.map Cn.D)]
def Rule.D (x:Rule):A.D:=.a (Rule.l x)
def Rule.O (x:Rule):List Cell:=[.d .fz (.s x.Name),.d .fz (.s x.Left),.o .fz 1 (x.rt_.map A.D.s),.d .fz (.b x.ll_),.o .fz 9 (x.es_.map Eqn.D),.o .fz 16 (x.cs_.map Cn.D)]
def Rule.x (m:Md)(x:Rule):X:=.ag ((Rule.l x).map (dX m))
structure Gm_ where
 ss_:(List Symbol)
 rs_:(List Rule)
noncomputable instance:DecidableEq Gm_:=fun a b=>Classical.propDecidable (a=b)
def Gm_.l (x:Gm_):List A.D:=[.sl 2 (x.ss_.map Symbol.D),.sl 6 (x.rs_.map Rule.D)]
def Gm_.y (m:Md)(x:Gm_):X:=.ag [.d m (.sl 2 (x.ss_.map Symbol.D)),.u]
def Gm_.x (m:Md)(x:Gm_):X:=.ag ((Gm_.l x).map (dX m))
structure Step where
 Kind:Int
 Pos:Int
 Visit:Int
 Name:BA_
 deriving DecidableEq
def Step.l (x:Step):List A.D:=[.i .i64 x.Kind,.i .i64 x.Pos,.i .i64 x.Visit,.s x.Name]
def Step.D (x:Step):A.D:=.a (Step.l x)
theorem k5s (x y:Step):eqF [.int,.int,.int,.str] [.int .i64 x.Kind,.int .i64 x.Pos,.int .i64 x.Visit,.string x.Name] [.int .i64 y.Kind,.int .i64 y.Pos,.int .i64 y.Visit,.string y.Name]=some (decide (x=y)):=by
 have e:(x=y)↔(x.Kind=y.Kind∧x.Pos=y.Pos∧x.Visit=y.Visit∧x.Name=y.Name):=⟨fun h=>by subst h;simp,fun h=>by obtain⟨p0,p1,p2,p3⟩:=x;obtain⟨q0,q1,q2,q3⟩:=y;simp_all⟩
 rw[show decide (x=y)=decide (x.Kind=y.Kind∧x.Pos=y.Pos∧x.Visit=y.Visit∧x.Name=y.Name) from decide_eq_decide.2 e];simp[eqF,Bool.decide_and]
def Step.x (m:Md)(x:Step):X:=.ag ((Step.l x).map (dX m))
structure RPl_ where
 Rule:BA_
 Steps:(List Step)
 deriving DecidableEq
def RPl_.l (x:RPl_):List A.D:=[.s x.Rule,.sl 4 (x.Steps.map Step.D)]
def RPl_.D (x:RPl_):A.D:=.a (RPl_.l x)
structure Ph_ where
 Inherited:(List BA_)
 Synthesized:(List BA_)
 deriving DecidableEq
def Ph_.l (x:Ph_):List A.D:=[.sl 1 (x.Inherited.map A.D.s),.sl 1 (x.Synthesized.map A.D.s)]
def Ph_.D (x:Ph_):A.D:=.a (Ph_.l x)
structure Rl_ where
 N:Int
 Rows:(List Int)
 deriving DecidableEq
def Rl_.l (x:Rl_):List A.D:=[.i .i64 x.N,.sl 1 (x.Rows.map (A.D.i .i64))]
def Rl_.D (x:Rl_):A.D:=.a (Rl_.l x)
def Rl_.x (m:Md)(x:Rl_):X:=.ag ((Rl_.l x).map (dX m))
structure l28Work where
 g:Gm_
 r:Rule
 phases:(List (List Ph_))
 known:(List Oc)
 visits:(List Int)
 steps:(List Step)
noncomputable instance:DecidableEq l28Work:=fun a b=>Classical.propDecidable (a=b)
structure L1_ where
 b:(List UInt8)
 i:Int
 h:Int
 deriving DecidableEq
structure visits where
 g:Gm_
 phases:(List (List Ph_))
 r:Rule
 due:(List Oc)
 known:(List Oc)
 next:(List Int)
noncomputable instance:DecidableEq visits:=fun a b=>Classical.propDecidable (a=b)
instance:OwD (fun (l:List Ph_)=>A.D.sl 2 (l.map Ph_.D)) (fun (l:List Ph_)=>[Cell.w 2 (l.map Ph_.D)]):=⟨fun _=>rfl,fun _=>rfl⟩
def tab:Tab:=[
 (2,{ sz:=1,by_:=8,ik:=some .i64,z:=some [.d .fz (.i .i64 0)] }),
 (3,{ sz:=1,by_:=8,ik:=some .i64,z:=some [.d .fz (.i .i64 0)] }),
 (4,{ sz:=1,by_:=1,z:=some [.d .fz (.b false)] }),
 (5,{ sz:=1,by_:=1,ik:=some .u8,z:=some [.d .fz (.i .u8 0)] }),
 (9,{ sz:=1,by_:=16,str:=true,z:=some [.d .fz (.s ⟨#[]⟩)] }),
 (22,{ sz:=1,by_:=24,el:=some 5,z:=some [.nl 1] }),
 (24,{ sz:=1,by_:=24,el:=some 45,z:=some [.nl 2] }),
 (25,{ sz:=1,by_:=24,el:=some 50,z:=some [.nl 6] }),
 (27,{ sz:=2,by_:=48,agg:=true,fo:=[some 0,some 1],ft:=[some (24,0),some (25,1)],pl:=[(0,1),(1,1)],z:=some [.nl 2,.nl 6] }),
 (29,{ sz:=1,by_:=24,el:=some 39,z:=some [.nl 2] }),
 (33,{ sz:=1,by_:=24,el:=some 51,z:=some [.nl 1] }),
 (36,{ sz:=1,by_:=24,el:=some 41,z:=some [.nl 4] }),
 (39,{ sz:=2,by_:=40,agg:=true,fo:=[some 0,some 1],ft:=[some (9,0),some (36,1)],pl:=[(0,1),(1,1)],z:=some [.d .fz (.s ⟨#[]⟩),.nl 4] }),
 (41,{ sz:=4,by_:=40,agg:=true,fo:=[some 0,some 1,some 2,some 3],ft:=[some (3,0),some (3,1),some (3,2),some (9,3)],pl:=[(0,1),(1,1),(2,1),(3,1)],fk:=some [.int,.int,.int,.str],z:=some [.d .fz (.i .i64 0),.d .fz (.i .i64 0),.d .fz (.i .i64 0),.d .fz (.s ⟨#[]⟩)] }),
 (43,{ sz:=1,by_:=24,el:=some 106,z:=some [.nl 4] }),
 (45,{ sz:=2,by_:=40,agg:=true,fo:=[some 0,some 1],ft:=[some (9,0),some (43,1)],pl:=[(0,1),(1,1)],z:=some [.d .fz (.s ⟨#[]⟩),.nl 4] }),
 (46,{ sz:=1,by_:=24,el:=some 9,z:=some [.nl 1] }),
 (47,{ sz:=1,by_:=24,el:=some 118,z:=some [.nl 9] }),
 (48,{ sz:=1,by_:=24,el:=some 160,z:=some [.nl 16] }),
 (50,{ sz:=6,by_:=112,agg:=true,fo:=[some 0,some 1,some 2,some 3,some 4,some 5],ft:=[some (9,0),some (9,1),some (46,2),some (4,3),some (47,4),some (48,5)],pl:=[(0,1),(1,1),(2,1),(3,1),(4,1),(5,1)],z:=some [.d .fz (.s ⟨#[]⟩),.d .fz (.s ⟨#[]⟩),.nl 1,.d .fz (.b false),.nl 9,.nl 16] }),
 (51,{ sz:=1,by_:=24,el:=some 77,z:=some [.nl 2] }),
 (57,{ sz:=1,by_:=24,el:=some 65,z:=some [.nl 2] }),
 (63,{ sz:=1,by_:=24,el:=some 3,z:=some [.nl 1] }),
 (65,{ sz:=2,by_:=32,agg:=true,fo:=[some 0,some 1],ft:=[some (3,0),some (63,1)],pl:=[(0,1),(1,1)],z:=some [.d .fz (.i .i64 0),.nl 1] }),
 (73,{ sz:=1,by_:=8,z:=some [.u] }),
 (77,{ sz:=2,by_:=48,agg:=true,fo:=[some 0,some 1],ft:=[some (46,0),some (46,1)],pl:=[(0,1),(1,1)],z:=some [.nl 1,.nl 1] }),
 (84,{ sz:=1,by_:=24,el:=some 113,z:=some [.nl 2] }),
 (86,{ sz:=12,by_:=256,agg:=true,fo:=[some 0,some 2,some 8,some 9,some 10,some 11],ft:=[some (27,0),some (50,2),some (33,8),some (84,9),some (63,10),some (36,11)],pl:=[(0,2),(2,6),(8,1),(9,1),(10,1),(11,1)],z:=some [.nl 2,.nl 6,.d .fz (.s ⟨#[]⟩),.d .fz (.s ⟨#[]⟩),.nl 1,.d .fz (.b false),.nl 9,.nl 16,.nl 1,.nl 2,.nl 1,.nl 4] }),
 (101,{ sz:=1,by_:=24,el:=some 4,z:=some [.nl 1] }),
 (106,{ sz:=4,by_:=40,agg:=true,fo:=[some 0,some 1,some 2,some 3],ft:=[some (9,0),some (3,1),some (3,2),some (4,3)],pl:=[(0,1),(1,1),(2,1),(3,1)],fk:=some [.str,.int,.int,.bool],z:=some [.d .fz (.s ⟨#[]⟩),.d .fz (.i .i64 0),.d .fz (.i .i64 0),.d .fz (.b false)] }),
 (108,{ sz:=3,by_:=40,agg:=true,fo:=[some 0,some 1,some 2],ft:=[some (22,0),some (3,1),some (3,2)],pl:=[(0,1),(1,1),(2,1)],z:=some [.nl 1,.d .fz (.i .i64 0),.d .fz (.i .i64 0)] }),
 (113,{ sz:=2,by_:=24,agg:=true,fo:=[some 0,some 1],ft:=[some (3,0),some (9,1)],pl:=[(0,1),(1,1)],fk:=some [.int,.str],z:=some [.d .fz (.i .i64 0),.d .fz (.s ⟨#[]⟩)] }),
 (114,{ sz:=1,by_:=24,el:=some 116,z:=some [.nl 7] }),
 (116,{ sz:=7,by_:=88,agg:=true,fo:=[some 0,some 1,some 2,some 3,some 4,some 5,some 6],ft:=[some (3,0),some (3,1),some (3,2),some (3,3),some (9,4),some (9,5),some (114,6)],pl:=[(0,1),(1,1),(2,1),(3,1),(4,1),(5,1),(6,1)],z:=some [.d .fz (.i .i64 0),.d .fz (.i .i64 0),.d .fz (.i .i64 0),.d .fz (.i .i64 0),.d .fz (.s ⟨#[]⟩),.d .fz (.s ⟨#[]⟩),.nl 7] }),
 (118,{ sz:=9,by_:=112,agg:=true,fo:=[some 0,some 2],ft:=[some (113,0),some (116,2)],pl:=[(0,2),(2,7)],z:=some [.d .fz (.i .i64 0),.d .fz (.s ⟨#[]⟩),.d .fz (.i .i64 0),.d .fz (.i .i64 0),.d .fz (.i .i64 0),.d .fz (.i .i64 0),.d .fz (.s ⟨#[]⟩),.d .fz (.s ⟨#[]⟩),.nl 7] }),
 (129,{ sz:=1,by_:=8,z:=some [.u] }),
 (134,{ sz:=12,by_:=256,agg:=true,fo:=[some 0,some 2,some 3,some 9,some 10,some 11],ft:=[some (27,0),some (33,2),some (50,3),some (84,9),some (84,10),some (63,11)],pl:=[(0,2),(2,1),(3,6),(9,1),(10,1),(11,1)],z:=some [.nl 2,.nl 6,.nl 1,.d .fz (.s ⟨#[]⟩),.d .fz (.s ⟨#[]⟩),.nl 1,.d .fz (.b false),.nl 9,.nl 16,.nl 2,.nl 2,.nl 1] }),
 (146,{ sz:=1,by_:=8,ik:=some .u64,z:=some [.d .fz (.i .u64 0)] }),
 (152,{ sz:=1,by_:=8,z:=some [.u] }),
 (160,{ sz:=16,by_:=208,agg:=true,fo:=[some 0,some 1,some 2,some 9],ft:=[some (9,0),some (9,1),some (116,2),some (116,9)],pl:=[(0,1),(1,1),(2,7),(9,7)],z:=some [.d .fz (.s ⟨#[]⟩),.d .fz (.s ⟨#[]⟩),.d .fz (.i .i64 0),.d .fz (.i .i64 0),.d .fz (.i .i64 0),.d .fz (.i .i64 0),.d .fz (.s ⟨#[]⟩),.d .fz (.s ⟨#[]⟩),.nl 7,.d .fz (.i .i64 0),.d .fz (.i .i64 0),.d .fz (.i .i64 0),.d .fz (.i .i64 0),.d .fz (.s ⟨#[]⟩),.d .fz (.s ⟨#[]⟩),.nl 7] }),
 (162,{ sz:=1,by_:=8,z:=some [.u] }),
 (200,{ sz:=1,by_:=8,ik:=some .u64,z:=some [.d .fz (.i .u64 0)] }),
 (221,{ sz:=1,by_:=4,ik:=some .u32,z:=some [.d .fz (.i .u32 0)] })]
theorem k9d:tab.ok Tryz.prog=true:=by kernel_rfl
instance:HasTab Tryz.prog:=⟨tab,k9d⟩
end Go.Proofs.YtgkepiefcpfimaaGreatDoor
