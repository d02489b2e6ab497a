/- How the structs of the program read as data: plain definitions and lemmas, without conditions of their own. -/
import Derived.Test.YtodhafdaelcnlaaGreatAb9
import Derived.KernelRfl
import Derived.Test.YtodhafdaelcnlaaGreatProg
set_option linter.unusedVariables false
set_option linter.unusedSimpArgs false
set_option linter.ambiguousOpen false
set_option linter.unusedSectionVars false
set_option linter.unnecessarySimpa false
set_option maxRecDepth 100000
set_option maxHeartbeats 4000000
noncomputable section
namespace Go.Proofs.YtodhafdaelcnlaaGreat
open Go Go.E Go.A
def wK (b:UInt8):A.D:=.i .u8 (b.toNat:Int)
structure aH where
 Name:an
 t__:Int
 Mode:Int
 Circular:Bool
 deriving DecidableEq
def aH.l (x:aH):List A.D:=[.s x.Name,.i .i64 x.t__,.i .i64 x.Mode,.b x.Circular]
def aH.D (x:aH):A.D:=.a (aH.l x)
def aH.x (m:Md)(x:aH):X:=.ag ((aH.l x).map (dX m))
structure af where
 Name:an
 as_:(List aH)
 deriving DecidableEq
def af.l (x:af):List A.D:=[.s x.Name,.sl 4 (x.as_.map aH.D)]
def af.D (x:af):A.D:=.a (af.l x)
def af.O (x:af):List Cell:=[.d .fz (.s x.Name),.o .fz 4 (x.as_.map aH.D)]
def af.x (m:Md)(x:af):X:=.ag ((af.l x).map (dX m))
structure Oc where
 Pos:Int
 Name:an
 deriving DecidableEq
def Oc.l (x:Oc):List A.D:=[.i .i64 x.Pos,.s x.Name]
def Oc.D (x:Oc):A.D:=.a (Oc.l x)
theorem lW (x y:Oc):eqF [.int,.str] [.int .i64 x.Pos,.string x.Name] [.int .i64 y.Pos,.string y.Name]=some (decide (x=y)):=by
 have e:(x=y)↔(x.Pos=y.Pos/\x.Name=y.Name):=⟨λh=>by subst h;simp,λh=>by obtain⟨p0,p1⟩:=x;obtain⟨q0,q1⟩:=y;simp_all⟩
 rw[show decide (x=y)=decide (x.Pos=y.Pos/\x.Name=y.Name) from decide_eq_decide.2 e];simp[eqF,Bool.decide_and]
def Oc.x (m:Md)(x:Oc):X:=.ag ((Oc.l x).map (dX m))
structure Expr where
 Kind:Int
 N:Int
 Pos:Int
 t__:Int
 af:an
 Name:an
 Args:(List Expr)
noncomputable instance:DecidableEq Expr:=λa b=>Classical.propDecidable (a=b)
mutual
def Expr.D:Expr->A.D
 | ⟨H,K,a2,a3,a4,a5,a6⟩=>.a [.i .i64 H,.i .i64 K,.i .i64 a2,.i .i64 a3,.s a4,.s a5,.sl 7 (Expr.Ds a6)]
def Expr.Ds:List Expr->List A.D
 | []=>[]
 | x::l=>Expr.D x::Expr.Ds l
end
theorem Expr.Ds_map:∀ l,Expr.Ds l=l.map Expr.D
 | []=>rfl
 | x::l=>by rw[Expr.Ds,Expr.Ds_map l];rfl
def Expr.l (x:Expr):List A.D:=[.i .i64 x.Kind,.i .i64 x.N,.i .i64 x.Pos,.i .i64 x.t__,.s x.af,.s x.Name,.sl 7 (x.Args.map Expr.D)]
theorem Expr.D_eq (x:Expr):Expr.D x=.a (Expr.l x):=by cases x;simp only[Expr.D,Expr.l,Expr.Ds_map]
theorem Expr.D_cells (x:Expr):(Expr.D x).cells=Expr.l x:=by rw[Expr.D_eq];rfl
def Expr.x (m:Md)(x:Expr):X:=.ag ((Expr.l x).map (dX m))
structure aU where
 At:Oc
 Expr:Expr
noncomputable instance:DecidableEq aU:=λa b=>Classical.propDecidable (a=b)
def aU.l (x:aU):List A.D:=[.i .i64 x.At.Pos,.s x.At.Name,.i .i64 x.Expr.Kind,.i .i64 x.Expr.N,.i .i64 x.Expr.Pos,.i .i64 x.Expr.t__,.s x.Expr.af,.s x.Expr.Name,.sl 7 (x.Expr.Args.map Expr.D)]
def aU.D (x:aU):A.D:=.a (aU.l x)
def aU.x (m:Md)(x:aU):X:=.ag ((aU.l x).map (dX m))
structure Cn where
 af:an
 Name:an
 Target:Expr
 Value:Expr
noncomputable instance:DecidableEq Cn:=λa b=>Classical.propDecidable (a=b)
def Cn.l (x:Cn):List A.D:=[.s x.af,.s x.Name,.i .i64 x.Target.Kind,.i .i64 x.Target.N,.i .i64 x.Target.Pos,.i .i64 x.Target.t__,.s x.Target.af,.s x.Target.Name,.sl 7 (x.Target.Args.map Expr.D),.i .i64 x.Value.Kind,.i .i64 x.Value.N,.i .i64 x.Value.Pos,.i .i64 x.Value.t__,.s x.Value.af,.s x.Value.Name,.sl 7 (x.Value.Args.map Expr.D)]
def Cn.D (x:Cn):A.D:=.a (Cn.l x)
structure aa where
 Name:an
 Left:an
 rt_:(List an)
 ll_:Bool
 es_:(List aU)
 cs_:(List Cn)
noncomputable instance:DecidableEq aa:=λa b=>Classical.propDecidable (a=b)
def aa.l (x:aa):List A.D:=[.s x.Name,.s x.Left,.sl 1 (x.rt_.map A.D.s),.b x.ll_,.sl 9 (x.es_.map aU.D),.sl 16 (x.cs_.map Cn.D)]
def aa.D (x:aa):A.D:=.a (aa.l x)
def aa.O (x:aa):List Cell:=[.d .fz (.s x.Name),.d .fz (.s x.Left),.o .fz 1 (x.rt_.map A.D.s),.d .fz (.b x.ll_),.o .fz 9 (x.es_.map aU.D),.o .fz 16 (x.cs_.map Cn.D)]
def aa.x (m:Md)(x:aa):X:=.ag ((aa.l x).map (dX m))
structure ak where
 ss_:(List af)
 rs_:(List aa)
noncomputable instance:DecidableEq ak:=λa b=>Classical.propDecidable (a=b)
def ak.l (x:ak):List A.D:=[.sl 2 (x.ss_.map af.D),.sl 6 (x.rs_.map aa.D)]
def ak.y (m:Md)(x:ak):X:=.ag [.d m (.sl 2 (x.ss_.map af.D)),.u]
def ak.x (m:Md)(x:ak):X:=.ag ((ak.l x).map (dX m))
structure au where
 N:Int
 Rows:(List Int)
 deriving DecidableEq
def au.l (x:au):List A.D:=[.i .i64 x.N,.sl 1 (x.Rows.map (A.D.i .i64))]
def au.D (x:au):A.D:=.a (au.l x)
def au.x (m:Md)(x:au):X:=.ag ((au.l x).map (dX m))
structure Node where
 Id:Int
 Parent:Int
 Place:Int
 ll_:Int
 aa:an
 cn_:(List Int)
 deriving DecidableEq
def Node.l (x:Node):List A.D:=[.i .i64 x.Id,.i .i64 x.Parent,.i .i64 x.Place,.i .i64 x.ll_,.s x.aa,.sl 1 (x.cn_.map (A.D.i .i64))]
def Node.D (x:Node):A.D:=.a (Node.l x)
def Node.O (x:Node):List Cell:=[.d .fz (.i .i64 x.Id),.d .fz (.i .i64 x.Parent),.d .fz (.i .i64 x.Place),.d .fz (.i .i64 x.ll_),.d .fz (.s x.aa),.o .fz 1 (x.cn_.map (A.D.i .i64))]
def Node.x (m:Md)(x:Node):X:=.ag ((Node.l x).map (dX m))
structure aC where
 Nodes:(List Node)
 deriving DecidableEq
def aC.l (x:aC):List A.D:=[.sl 6 (x.Nodes.map Node.D)]
def aC.D (x:aC):A.D:=.a (aC.l x)
def aC.x (m:Md)(x:aC):X:=.ag ((aC.l x).map (dX m))
structure a7 where
 Node:Int
 Name:an
 deriving DecidableEq
def a7.l (x:a7):List A.D:=[.i .i64 x.Node,.s x.Name]
def a7.D (x:a7):A.D:=.a (a7.l x)
theorem YP (x y:a7):eqF [.int,.str] [.int .i64 x.Node,.string x.Name] [.int .i64 y.Node,.string y.Name]=some (decide (x=y)):=by
 have e:(x=y)↔(x.Node=y.Node/\x.Name=y.Name):=⟨λh=>by subst h;simp,λh=>by obtain⟨p0,p1⟩:=x;obtain⟨q0,q1⟩:=y;simp_all⟩
 rw[show decide (x=y)=decide (x.Node=y.Node/\x.Name=y.Name) from decide_eq_decide.2 e];simp[eqF,Bool.decide_and]
def a7.x (m:Md)(x:a7):X:=.ag ((a7.l x).map (dX m))
structure aJ where
 sy_:au
 rule:aa
 children:(List Int)
noncomputable instance:DecidableEq aJ:=λa b=>Classical.propDecidable (a=b)
def aJ.l (x:aJ):List A.D:=[.i .i64 x.sy_.N,.sl 1 (x.sy_.Rows.map (A.D.i .i64)),.s x.rule.Name,.s x.rule.Left,.sl 1 (x.rule.rt_.map A.D.s),.b x.rule.ll_,.sl 9 (x.rule.es_.map aU.D),.sl 16 (x.rule.cs_.map Cn.D),.sl 1 (x.children.map (A.D.i .i64))]
def aJ.D (x:aJ):A.D:=.a (aJ.l x)
def aJ.x (m:Md)(x:aJ):X:=.ag ((aJ.l x).map (dX m))
structure ij where
 rule:(List an)
 choice:(List (List Int))
 deriving DecidableEq
structure aB where
 b:(List UInt8)
 i:Int
 h:Int
 deriving DecidableEq
structure jo where
 Owner:Int
 Expr:Expr
noncomputable instance:DecidableEq jo:=λa b=>Classical.propDecidable (a=b)
instance:jm (λ(l:List au)=>A.D.sl 2 (l.map au.D)) (λ(l:List au)=>[Cell.w 2 (l.map au.D)]):=⟨λ_=>rfl,λ_=>rfl⟩
instance:jm (λ(l:List aJ)=>A.D.sl 9 (l.map aJ.D)) (λ(l:List aJ)=>[Cell.w 9 (l.map aJ.D)]):=⟨λ_=>rfl,λ_=>rfl⟩
instance:jm (λ(l:List Int)=>A.D.sl 1 (l.map (A.D.i .i64))) (λ(l:List Int)=>[Cell.w 1 (l.map (A.D.i .i64))]):=⟨λ_=>rfl,λ_=>rfl⟩
def tab:bK:=[
 (3,{ sz:=1,by_:=8,ik:=some .i64,z:=some [.d .fz (.i .i64 0)] }),
 (4,{ sz:=1,by_:=1,z:=some [.d .fz (.b false)] }),
 (5,{ sz:=1,by_:=1,ik:=some .u8,z:=some [.d .fz (.i .u8 0)] }),
 (9,{ sz:=1,by_:=16,str:=true,z:=some [.d .fz (.s ⟨#[]⟩)] }),
 (22,{ sz:=1,by_:=24,el:=some 5,z:=some [.nl 1] }),
 (24,{ sz:=1,by_:=24,el:=some 69,z:=some [.nl 2] }),
 (25,{ sz:=1,by_:=24,el:=some 80,z:=some [.nl 6] }),
 (27,{ sz:=2,by_:=48,agg:=true,fo:=[some 0,some 1],ft:=[some (24,0),some (25,1)],pl:=[(0,1),(1,1)],z:=some [.nl 2,.nl 6] }),
 (28,{ sz:=1,by_:=24,el:=some 3,z:=some [.nl 1] }),
 (30,{ sz:=2,by_:=32,agg:=true,fo:=[some 0,some 1],ft:=[some (3,0),some (28,1)],pl:=[(0,1),(1,1)],z:=some [.d .fz (.i .i64 0),.nl 1] }),
 (33,{ sz:=1,by_:=24,el:=some 46,z:=some [.nl 6] }),
 (35,{ sz:=1,by_:=24,agg:=true,fo:=[some 0],ft:=[some (33,0)],pl:=[(0,1)],z:=some [.nl 6] }),
 (40,{ sz:=1,by_:=24,el:=some 50,z:=some [.nl 2] }),
 (42,{ sz:=1,by_:=24,el:=some 48,z:=some [.nl 4] }),
 (46,{ sz:=6,by_:=72,agg:=true,fo:=[some 0,some 1,some 2,some 3,some 4,some 5],ft:=[some (3,0),some (3,1),some (3,2),some (3,3),some (9,4),some (28,5)],pl:=[(0,1),(1,1),(2,1),(3,1),(4,1),(5,1)],z:=some [.d .fz (.i .i64 0),.d .fz (.i .i64 0),.d .fz (.i .i64 0),.d .fz (.i .i64 0),.d .fz (.s ⟨#[]⟩),.nl 1] }),
 (48,{ sz:=4,by_:=40,agg:=true,fo:=[some 0,some 1,some 2,some 3],ft:=[some (9,0),some (3,1),some (3,2),some (4,3)],pl:=[(0,1),(1,1),(2,1),(3,1)],fk:=some [.str,.int,.int,.bool],z:=some [.d .fz (.s ⟨#[]⟩),.d .fz (.i .i64 0),.d .fz (.i .i64 0),.d .fz (.b false)] }),
 (50,{ sz:=2,by_:=24,agg:=true,fo:=[some 0,some 1],ft:=[some (3,0),some (9,1)],pl:=[(0,1),(1,1)],fk:=some [.int,.str],z:=some [.d .fz (.i .i64 0),.d .fz (.s ⟨#[]⟩)] }),
 (62,{ sz:=1,by_:=24,el:=some 70,z:=some [.nl 1] }),
 (69,{ sz:=2,by_:=40,agg:=true,fo:=[some 0,some 1],ft:=[some (9,0),some (42,1)],pl:=[(0,1),(1,1)],z:=some [.d .fz (.s ⟨#[]⟩),.nl 4] }),
 (70,{ sz:=1,by_:=24,el:=some 30,z:=some [.nl 2] }),
 (72,{ sz:=1,by_:=24,el:=some 75,z:=some [.nl 1] }),
 (75,{ sz:=1,by_:=24,el:=some 82,z:=some [.nl 9] }),
 (76,{ sz:=1,by_:=24,el:=some 9,z:=some [.nl 1] }),
 (77,{ sz:=1,by_:=24,el:=some 160,z:=some [.nl 9] }),
 (78,{ sz:=1,by_:=24,el:=some 188,z:=some [.nl 16] }),
 (80,{ sz:=6,by_:=112,agg:=true,fo:=[some 0,some 1,some 2,some 3,some 4,some 5],ft:=[some (9,0),some (9,1),some (76,2),some (4,3),some (77,4),some (78,5)],pl:=[(0,1),(1,1),(2,1),(3,1),(4,1),(5,1)],z:=some [.d .fz (.s ⟨#[]⟩),.d .fz (.s ⟨#[]⟩),.nl 1,.d .fz (.b false),.nl 9,.nl 16] }),
 (82,{ sz:=9,by_:=168,agg:=true,fo:=[some 0,some 2,some 8],ft:=[some (30,0),some (80,2),some (28,8)],pl:=[(0,2),(2,6),(8,1)],z:=some [.d .fz (.i .i64 0),.nl 1,.d .fz (.s ⟨#[]⟩),.d .fz (.s ⟨#[]⟩),.nl 1,.d .fz (.b false),.nl 9,.nl 16,.nl 1] }),
 (86,{ sz:=1,by_:=24,el:=some 93,z:=some [.nl 2] }),
 (91,{ sz:=1,by_:=24,el:=some 28,z:=some [.nl 1] }),
 (93,{ sz:=2,by_:=48,agg:=true,fo:=[some 0,some 1],ft:=[some (76,0),some (91,1)],pl:=[(0,1),(1,1)],z:=some [.nl 1,.nl 1] }),
 (103,{ sz:=1,by_:=8,ik:=some .u64,z:=some [.d .fz (.i .u64 0)] }),
 (116,{ sz:=3,by_:=40,agg:=true,fo:=[some 0,some 1,some 2],ft:=[some (22,0),some (3,1),some (3,2)],pl:=[(0,1),(1,1),(2,1)],z:=some [.nl 1,.d .fz (.i .i64 0),.d .fz (.i .i64 0)] }),
 (131,{ sz:=1,by_:=8,z:=some [.u] }),
 (136,{ sz:=1,by_:=24,el:=some 35,z:=some [.nl 1] }),
 (145,{ sz:=1,by_:=24,el:=some 155,z:=some [.nl 2] }),
 (155,{ sz:=2,by_:=24,agg:=true,fo:=[some 0,some 1],ft:=[some (3,0),some (9,1)],pl:=[(0,1),(1,1)],fk:=some [.int,.str],z:=some [.d .fz (.i .i64 0),.d .fz (.s ⟨#[]⟩)] }),
 (156,{ sz:=1,by_:=24,el:=some 158,z:=some [.nl 7] }),
 (158,{ sz:=7,by_:=88,agg:=true,fo:=[some 0,some 1,some 2,some 3,some 4,some 5,some 6],ft:=[some (3,0),some (3,1),some (3,2),some (3,3),some (9,4),some (9,5),some (156,6)],pl:=[(0,1),(1,1),(2,1),(3,1),(4,1),(5,1),(6,1)],z:=some [.d .fz (.i .i64 0),.d .fz (.i .i64 0),.d .fz (.i .i64 0),.d .fz (.i .i64 0),.d .fz (.s ⟨#[]⟩),.d .fz (.s ⟨#[]⟩),.nl 7] }),
 (160,{ sz:=9,by_:=112,agg:=true,fo:=[some 0,some 2],ft:=[some (155,0),some (158,2)],pl:=[(0,2),(2,7)],z:=some [.d .fz (.i .i64 0),.d .fz (.s ⟨#[]⟩),.d .fz (.i .i64 0),.d .fz (.i .i64 0),.d .fz (.i .i64 0),.d .fz (.i .i64 0),.d .fz (.s ⟨#[]⟩),.d .fz (.s ⟨#[]⟩),.nl 7] }),
 (171,{ sz:=8,by_:=96,agg:=true,fo:=[some 0,some 1],ft:=[some (3,0),some (158,1)],pl:=[(0,1),(1,7)],z:=some [.d .fz (.i .i64 0),.d .fz (.i .i64 0),.d .fz (.i .i64 0),.d .fz (.i .i64 0),.d .fz (.i .i64 0),.d .fz (.s ⟨#[]⟩),.d .fz (.s ⟨#[]⟩),.nl 7] }),
 (188,{ sz:=16,by_:=208,agg:=true,fo:=[some 0,some 1,some 2,some 9],ft:=[some (9,0),some (9,1),some (158,2),some (158,9)],pl:=[(0,1),(1,1),(2,7),(9,7)],z:=some [.d .fz (.s ⟨#[]⟩),.d .fz (.s ⟨#[]⟩),.d .fz (.i .i64 0),.d .fz (.i .i64 0),.d .fz (.i .i64 0),.d .fz (.i .i64 0),.d .fz (.s ⟨#[]⟩),.d .fz (.s ⟨#[]⟩),.nl 7,.d .fz (.i .i64 0),.d .fz (.i .i64 0),.d .fz (.i .i64 0),.d .fz (.i .i64 0),.d .fz (.s ⟨#[]⟩),.d .fz (.s ⟨#[]⟩),.nl 7] }),
 (193,{ sz:=1,by_:=8,z:=some [.u] })]
theorem Sd:tab.ok Tryz.prog=true:=by kernel_rfl
instance:ae Tryz.prog:=⟨tab,Sd⟩
end Go.Proofs.YtodhafdaelcnlaaGreat
