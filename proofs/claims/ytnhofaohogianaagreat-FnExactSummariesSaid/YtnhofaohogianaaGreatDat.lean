/- How the structs of the program read as data: plain definitions and lemmas, without conditions of their own. -/
import Derived.Test.YtnhofaohogianaaGreatAb9
import Derived.KernelRfl
import Derived.Test.YtnhofaohogianaaGreatProg
set_option linter.unusedVariables false
set_option linter.unusedSimpArgs false
set_option linter.ambiguousOpen false
set_option linter.unusedSectionVars false
set_option linter.unnecessarySimpa false
set_option maxRecDepth 100000
set_option maxHeartbeats 4000000
noncomputable section
namespace Go.Proofs.YtnhofaohogianaaGreat
open Go Go.E Go.A
def byD (b:UInt8):A.D:=.i .u8 (b.toNat:Int)
structure At_ where
 Name:BA_
 t__:Int
 Mode:Int
 Circular:Bool
 deriving DecidableEq
def At_.l (x:At_):List A.D:=[.s x.Name,.i .i64 x.t__,.i .i64 x.Mode,.b x.Circular]
def At_.D (x:At_):A.D:=.a (At_.l x)
def At_.x (m:Md)(x:At_):X:=.ag ((At_.l x).map (dX m))
structure Symbol where
 Name:BA_
 as_:(List At_)
 deriving DecidableEq
def Symbol.l (x:Symbol):List A.D:=[.s x.Name,.sl 4 (x.as_.map At_.D)]
def Symbol.D (x:Symbol):A.D:=.a (Symbol.l x)
def Symbol.W (x:Symbol):List Cell:=[.d .fz (.s x.Name),.w 4 (x.as_.map At_.D)]
def Symbol.x (m:Md)(x:Symbol):X:=.ag ((Symbol.l x).map (dX m))
structure Oc where
 Pos:Int
 Name:BA_
 deriving DecidableEq
def Oc.l (x:Oc):List A.D:=[.i .i64 x.Pos,.s x.Name]
def Oc.D (x:Oc):A.D:=.a (Oc.l x)
theorem q5z (x y:Oc):eqF [.int,.str] [.int .i64 x.Pos,.string x.Name] [.int .i64 y.Pos,.string y.Name]=some (decide (x=y)):=by
 have e:(x=y)↔(x.Pos=y.Pos∧x.Name=y.Name):=⟨fun h=>by subst h;simp,fun h=>by obtain⟨p0,p1⟩:=x;obtain⟨q0,q1⟩:=y;simp_all⟩
 rw[show decide (x=y)=decide (x.Pos=y.Pos∧x.Name=y.Name) from decide_eq_decide.2 e];simp[eqF,Bool.decide_and]
def Oc.x (m:Md)(x:Oc):X:=.ag ((Oc.l x).map (dX m))
structure Expr where
 Kind:Int
 N:Int
 Pos:Int
 t__:Int
 Symbol:BA_
 Name:BA_
 Args:(List Expr)
noncomputable instance:DecidableEq Expr:=fun a b=>Classical.propDecidable (a=b)
mutual
def Expr.D:Expr→A.D
 | ⟨a0,a1,a2,a3,a4,a5,a6⟩=>.a [.i .i64 a0,.i .i64 a1,.i .i64 a2,.i .i64 a3,.s a4,.s a5,.sl 7 (Expr.Ds a6)]
def Expr.Ds:List Expr→List A.D
 | []=>[]
 | x::l=>Expr.D x::Expr.Ds l
end
theorem Expr.Ds_map:∀ l,Expr.Ds l=l.map Expr.D
 | []=>rfl
 | x::l=>by rw[Expr.Ds,Expr.Ds_map l];rfl
def Expr.l (x:Expr):List A.D:=[.i .i64 x.Kind,.i .i64 x.N,.i .i64 x.Pos,.i .i64 x.t__,.s x.Symbol,.s x.Name,.sl 7 (x.Args.map Expr.D)]
theorem Expr.D_eq (x:Expr):Expr.D x=.a (Expr.l x):=by cases x;simp only[Expr.D,Expr.l,Expr.Ds_map]
theorem Expr.D_cells (x:Expr):(Expr.D x).cells=Expr.l x:=by rw[Expr.D_eq];rfl
def Expr.W (x:Expr):List Cell:=[.d .fz (.i .i64 x.Kind),.d .fz (.i .i64 x.N),.d .fz (.i .i64 x.Pos),.d .fz (.i .i64 x.t__),.d .fz (.s x.Symbol),.d .fz (.s x.Name),.w 7 (x.Args.map Expr.D)]
instance:OwD Expr.D Expr.W:=⟨fun y=>by rw[j1R,Expr.D_cells];rfl,fun y=>by rw[DR,Expr.D_cells];rfl⟩
def Expr.x (m:Md)(x:Expr):X:=.ag ((Expr.l x).map (dX m))
structure Eqn where
 At:Oc
 Expr:Expr
noncomputable instance:DecidableEq Eqn:=fun a b=>Classical.propDecidable (a=b)
def Eqn.l (x:Eqn):List A.D:=[.i .i64 x.At.Pos,.s x.At.Name,.i .i64 x.Expr.Kind,.i .i64 x.Expr.N,.i .i64 x.Expr.Pos,.i .i64 x.Expr.t__,.s x.Expr.Symbol,.s x.Expr.Name,.sl 7 (x.Expr.Args.map Expr.D)]
def Eqn.D (x:Eqn):A.D:=.a (Eqn.l x)
def Eqn.W (x:Eqn):List Cell:=[.d .fz (.i .i64 x.At.Pos),.d .fz (.s x.At.Name),.d .fz (.i .i64 x.Expr.Kind),.d .fz (.i .i64 x.Expr.N),.d .fz (.i .i64 x.Expr.Pos),.d .fz (.i .i64 x.Expr.t__),.d .fz (.s x.Expr.Symbol),.d .fz (.s x.Expr.Name),.w 7 (x.Expr.Args.map Expr.D)]
instance:OwD Eqn.D Eqn.W:=⟨fun _=>rfl,fun _=>rfl⟩
def Eqn.x (m:Md)(x:Eqn):X:=.ag ((Eqn.l x).map (dX m))
structure Cn where
 Symbol:BA_
 Name:BA_
 tt_:Expr
 Value:Expr
noncomputable instance:DecidableEq Cn:=fun a b=>Classical.propDecidable (a=b)
def Cn.l (x:Cn):List A.D:=[.s x.Symbol,.s x.Name,.i .i64 x.tt_.Kind,.i .i64 x.tt_.N,.i .i64 x.tt_.Pos,.i .i64 x.tt_.t__,.s x.tt_.Symbol,.s x.tt_.Name,.sl 7 (x.tt_.Args.map Expr.D),.i .i64 x.Value.Kind,.i .i64 x.Value.N,.i .i64 x.Value.Pos,.i .i64 x.Value.t__,.s x.Value.Symbol,.s x.Value.Name,.sl 7 (x.Value.Args.map Expr.D)]
def Cn.D (x:Cn):A.D:=.a (Cn.l x)
def Cn.W (x:Cn):List Cell:=[.d .fz (.s x.Symbol),.d .fz (.s x.Name),.d .fz (.i .i64 x.tt_.Kind),.d .fz (.i .i64 x.tt_.N),.d .fz (.i .i64 x.tt_.Pos),.d .fz (.i .i64 x.tt_.t__),.d .fz (.s x.tt_.Symbol),.d .fz (.s x.tt_.Name),.w 7 (x.tt_.Args.map Expr.D),.d .fz (.i .i64 x.Value.Kind),.d .fz (.i .i64 x.Value.N),.d .fz (.i .i64 x.Value.Pos),.d .fz (.i .i64 x.Value.t__),.d .fz (.s x.Value.Symbol),.d .fz (.s x.Value.Name),.w 7 (x.Value.Args.map Expr.D)]
instance:OwD Cn.D Cn.W:=⟨fun _=>rfl,fun _=>rfl⟩
def Cn.x (m:Md)(x:Cn):X:=.ag ((Cn.l x).map (dX m))
structure Rule where
 Name:BA_
 Left:BA_
 rt_:(List BA_)
 ll_:Bool
 es_:(List Eqn)
 cs_:(List Cn)
noncomputable instance:DecidableEq Rule:=fun a b=>Classical.propDecidable (a=b)
def Rule.l (x:Rule):List A.D:=[.s x.Name,.s x.Left,.sl 1 (x.rt_.map A.D.s),.b x.ll_,.sl 9 (x.es_.map Eqn.D),.sl 16 (x.cs_.map Cn.D)]
def Rule.D (x:Rule):A.D:=.a (Rule.l x)
def Rule.W (x:Rule):List Cell:=[.d .fz (.s x.Name),.d .fz (.s x.Left),.w 1 (x.rt_.map A.D.s),.d .fz (.b x.ll_),.w 9 (x.es_.map Eqn.D),.w 16 (x.cs_.map Cn.D)]
def Rule.x (m:Md)(x:Rule):X:=.ag ((Rule.l x).map (dX m))
structure Gm_ where
 ss_:(List Symbol)
 rs_:(List Rule)
noncomputable instance:DecidableEq Gm_:=fun a b=>Classical.propDecidable (a=b)
def Gm_.l (x:Gm_):List A.D:=[.sl 2 (x.ss_.map Symbol.D),.sl 6 (x.rs_.map Rule.D)]
def Gm_.y (m:Md)(x:Gm_):X:=.ag [.d m (.sl 2 (x.ss_.map Symbol.D)),.u]
def Gm_.x (m:Md)(x:Gm_):X:=.ag ((Gm_.l x).map (dX m))
structure Rl_ where
 N:Int
 Rows:(List Int)
 deriving DecidableEq
def Rl_.l (x:Rl_):List A.D:=[.i .i64 x.N,.sl 1 (x.Rows.map (A.D.i .i64))]
def Rl_.D (x:Rl_):A.D:=.a (Rl_.l x)
def Rl_.W (x:Rl_):List Cell:=[.d .fz (.i .i64 x.N),.w 1 (x.Rows.map (A.D.i .i64))]
instance:OwD Rl_.D Rl_.W:=⟨fun _=>rfl,fun _=>rfl⟩
def Rl_.x (m:Md)(x:Rl_):X:=.ag ((Rl_.l x).map (dX m))
structure Fo_ where
 summary:Rl_
 rule:Rule
 children:(List Int)
noncomputable instance:DecidableEq Fo_:=fun a b=>Classical.propDecidable (a=b)
def Fo_.l (x:Fo_):List A.D:=[.i .i64 x.summary.N,.sl 1 (x.summary.Rows.map (A.D.i .i64)),.a [],.a [],.a [],.a [],.a [],.a [],.sl 1 (x.children.map (A.D.i .i64))]
def Fo_.D (x:Fo_):A.D:=.a (Fo_.l x)
def Fo_.W (x:Fo_):List Cell:=[.d .fz (.i .i64 x.summary.N),.w 1 (x.summary.Rows.map (A.D.i .i64)),.d .fz (.a []),.d .fz (.a []),.d .fz (.a []),.d .fz (.a []),.d .fz (.a []),.d .fz (.a []),.w 1 (x.children.map (A.D.i .i64))]
instance:OwD Fo_.D Fo_.W:=⟨fun _=>rfl,fun _=>rfl⟩
def Fo_.x (m:Md)(x:Fo_):X:=.ag ((Fo_.l x).map (dX m))
instance:OwD (fun (l:List Rl_)=>A.D.sl 2 (l.map Rl_.D)) (fun (l:List Rl_)=>[Cell.w 2 (l.map Rl_.D)]):=⟨fun _=>rfl,fun _=>rfl⟩
instance:OwD (fun (l:List Fo_)=>A.D.sl 9 (l.map Fo_.D)) (fun (l:List Fo_)=>[Cell.w 9 (l.map Fo_.D)]):=⟨fun _=>rfl,fun _=>rfl⟩
instance:OwD (fun (l:List Int)=>A.D.sl 1 (l.map (A.D.i .i64))) (fun (l:List Int)=>[Cell.w 1 (l.map (A.D.i .i64))]):=⟨fun _=>rfl,fun _=>rfl⟩
def tab:Tab:=[
 (3,{ sz:=1,by_:=8,ik:=some .i64,z:=some [.d .fz (.i .i64 0)] }),
 (4,{ sz:=1,by_:=1,z:=some [.d .fz (.b false)] }),
 (5,{ sz:=1,by_:=1,ik:=some .u8,z:=some [.d .fz (.i .u8 0)] }),
 (9,{ sz:=1,by_:=16,str:=true,z:=some [.d .fz (.s ⟨#[]⟩)] }),
 (22,{ sz:=1,by_:=24,el:=some 69,z:=some [.nl 2] }),
 (23,{ sz:=1,by_:=24,el:=some 74,z:=some [.nl 6] }),
 (25,{ sz:=2,by_:=48,agg:=true,fo:=[some 0,some 1],ft:=[some (22,0),some (23,1)],pl:=[(0,1),(1,1)],z:=some [.nl 2,.nl 6] }),
 (27,{ sz:=1,by_:=24,el:=some 49,z:=some [.nl 1] }),
 (30,{ sz:=1,by_:=24,el:=some 87,z:=some [.nl 2] }),
 (31,{ sz:=1,by_:=24,el:=some 57,z:=some [.nl 6] }),
 (33,{ sz:=2,by_:=48,agg:=true,fo:=[some 0,some 1],ft:=[some (30,0),some (31,1)],pl:=[(0,1),(1,1)],z:=some [.nl 2,.nl 6] }),
 (46,{ sz:=1,by_:=24,el:=some 48,z:=some [.nl 1] }),
 (48,{ sz:=1,by_:=24,el:=some 59,z:=some [.nl 9] }),
 (49,{ sz:=1,by_:=24,el:=some 52,z:=some [.nl 2] }),
 (50,{ sz:=1,by_:=24,el:=some 3,z:=some [.nl 1] }),
 (52,{ sz:=2,by_:=32,agg:=true,fo:=[some 0,some 1],ft:=[some (3,0),some (50,1)],pl:=[(0,1),(1,1)],z:=some [.d .fz (.i .i64 0),.nl 1] }),
 (53,{ sz:=1,by_:=24,el:=some 9,z:=some [.nl 1] }),
 (54,{ sz:=1,by_:=24,el:=some 145,z:=some [.nl 9] }),
 (55,{ sz:=1,by_:=24,el:=some 148,z:=some [.nl 16] }),
 (57,{ sz:=6,by_:=112,agg:=true,fo:=[some 0,some 1,some 2,some 3,some 4,some 5],ft:=[some (9,0),some (9,1),some (53,2),some (4,3),some (54,4),some (55,5)],pl:=[(0,1),(1,1),(2,1),(3,1),(4,1),(5,1)],z:=some [.d .fz (.s ⟨#[]⟩),.d .fz (.s ⟨#[]⟩),.nl 1,.d .fz (.b false),.nl 9,.nl 16] }),
 (59,{ sz:=9,by_:=168,agg:=true,fo:=[some 0,some 2,some 8],ft:=[some (52,0),some (57,2),some (50,8)],pl:=[(0,2),(2,6),(8,1)],z:=some [.d .fz (.i .i64 0),.nl 1,.d .fz (.s ⟨#[]⟩),.d .fz (.s ⟨#[]⟩),.nl 1,.d .fz (.b false),.nl 9,.nl 16,.nl 1] }),
 (67,{ sz:=1,by_:=24,el:=some 150,z:=some [.nl 4] }),
 (69,{ sz:=2,by_:=40,agg:=true,fo:=[some 0,some 1],ft:=[some (9,0),some (67,1)],pl:=[(0,1),(1,1)],z:=some [.d .fz (.s ⟨#[]⟩),.nl 4] }),
 (71,{ sz:=1,by_:=24,el:=some 157,z:=some [.nl 9] }),
 (72,{ sz:=1,by_:=24,el:=some 160,z:=some [.nl 16] }),
 (74,{ sz:=6,by_:=112,agg:=true,fo:=[some 0,some 1,some 2,some 3,some 4,some 5],ft:=[some (9,0),some (9,1),some (53,2),some (4,3),some (71,4),some (72,5)],pl:=[(0,1),(1,1),(2,1),(3,1),(4,1),(5,1)],z:=some [.d .fz (.s ⟨#[]⟩),.d .fz (.s ⟨#[]⟩),.nl 1,.d .fz (.b false),.nl 9,.nl 16] }),
 (77,{ sz:=1,by_:=24,el:=some 50,z:=some [.nl 1] }),
 (85,{ sz:=1,by_:=24,el:=some 114,z:=some [.nl 4] }),
 (87,{ sz:=2,by_:=40,agg:=true,fo:=[some 0,some 1],ft:=[some (9,0),some (85,1)],pl:=[(0,1),(1,1)],z:=some [.d .fz (.s ⟨#[]⟩),.nl 4] }),
 (96,{ sz:=1,by_:=8,z:=some [.u] }),
 (114,{ sz:=4,by_:=40,agg:=true,fo:=[some 0,some 1,some 2,some 3],ft:=[some (9,0),some (3,1),some (3,2),some (4,3)],pl:=[(0,1),(1,1),(2,1),(3,1)],fk:=some [.str,.int,.int,.bool],z:=some [.d .fz (.s ⟨#[]⟩),.d .fz (.i .i64 0),.d .fz (.i .i64 0),.d .fz (.b false)] }),
 (117,{ sz:=1,by_:=24,el:=some 140,z:=some [.nl 2] }),
 (138,{ sz:=1,by_:=24,el:=some 5,z:=some [.nl 1] }),
 (140,{ sz:=2,by_:=24,agg:=true,fo:=[some 0,some 1],ft:=[some (3,0),some (9,1)],pl:=[(0,1),(1,1)],fk:=some [.int,.str],z:=some [.d .fz (.i .i64 0),.d .fz (.s ⟨#[]⟩)] }),
 (141,{ sz:=1,by_:=24,el:=some 143,z:=some [.nl 7] }),
 (143,{ sz:=7,by_:=88,agg:=true,fo:=[some 0,some 1,some 2,some 3,some 4,some 5,some 6],ft:=[some (3,0),some (3,1),some (3,2),some (3,3),some (9,4),some (9,5),some (141,6)],pl:=[(0,1),(1,1),(2,1),(3,1),(4,1),(5,1),(6,1)],z:=some [.d .fz (.i .i64 0),.d .fz (.i .i64 0),.d .fz (.i .i64 0),.d .fz (.i .i64 0),.d .fz (.s ⟨#[]⟩),.d .fz (.s ⟨#[]⟩),.nl 7] }),
 (145,{ sz:=9,by_:=112,agg:=true,fo:=[some 0,some 2],ft:=[some (140,0),some (143,2)],pl:=[(0,2),(2,7)],z:=some [.d .fz (.i .i64 0),.d .fz (.s ⟨#[]⟩),.d .fz (.i .i64 0),.d .fz (.i .i64 0),.d .fz (.i .i64 0),.d .fz (.i .i64 0),.d .fz (.s ⟨#[]⟩),.d .fz (.s ⟨#[]⟩),.nl 7] }),
 (148,{ sz:=16,by_:=208,agg:=true,fo:=[some 0,some 1,some 2,some 9],ft:=[some (9,0),some (9,1),some (143,2),some (143,9)],pl:=[(0,1),(1,1),(2,7),(9,7)],z:=some [.d .fz (.s ⟨#[]⟩),.d .fz (.s ⟨#[]⟩),.d .fz (.i .i64 0),.d .fz (.i .i64 0),.d .fz (.i .i64 0),.d .fz (.i .i64 0),.d .fz (.s ⟨#[]⟩),.d .fz (.s ⟨#[]⟩),.nl 7,.d .fz (.i .i64 0),.d .fz (.i .i64 0),.d .fz (.i .i64 0),.d .fz (.i .i64 0),.d .fz (.s ⟨#[]⟩),.d .fz (.s ⟨#[]⟩),.nl 7] }),
 (150,{ sz:=4,by_:=40,agg:=true,fo:=[some 0,some 1,some 2,some 3],ft:=[some (9,0),some (3,1),some (3,2),some (4,3)],pl:=[(0,1),(1,1),(2,1),(3,1)],fk:=some [.str,.int,.int,.bool],z:=some [.d .fz (.s ⟨#[]⟩),.d .fz (.i .i64 0),.d .fz (.i .i64 0),.d .fz (.b false)] }),
 (152,{ sz:=2,by_:=24,agg:=true,fo:=[some 0,some 1],ft:=[some (3,0),some (9,1)],pl:=[(0,1),(1,1)],fk:=some [.int,.str],z:=some [.d .fz (.i .i64 0),.d .fz (.s ⟨#[]⟩)] }),
 (153,{ sz:=1,by_:=24,el:=some 155,z:=some [.nl 7] }),
 (155,{ sz:=7,by_:=88,agg:=true,fo:=[some 0,some 1,some 2,some 3,some 4,some 5,some 6],ft:=[some (3,0),some (3,1),some (3,2),some (3,3),some (9,4),some (9,5),some (153,6)],pl:=[(0,1),(1,1),(2,1),(3,1),(4,1),(5,1),(6,1)],z:=some [.d .fz (.i .i64 0),.d .fz (.i .i64 0),.d .fz (.i .i64 0),.d .fz (.i .i64 0),.d .fz (.s ⟨#[]⟩),.d .fz (.s ⟨#[]⟩),.nl 7] }),
 (157,{ sz:=9,by_:=112,agg:=true,fo:=[some 0,some 2],ft:=[some (152,0),some (155,2)],pl:=[(0,2),(2,7)],z:=some [.d .fz (.i .i64 0),.d .fz (.s ⟨#[]⟩),.d .fz (.i .i64 0),.d .fz (.i .i64 0),.d .fz (.i .i64 0),.d .fz (.i .i64 0),.d .fz (.s ⟨#[]⟩),.d .fz (.s ⟨#[]⟩),.nl 7] }),
 (160,{ sz:=16,by_:=208,agg:=true,fo:=[some 0,some 1,some 2,some 9],ft:=[some (9,0),some (9,1),some (155,2),some (155,9)],pl:=[(0,1),(1,1),(2,7),(9,7)],z:=some [.d .fz (.s ⟨#[]⟩),.d .fz (.s ⟨#[]⟩),.d .fz (.i .i64 0),.d .fz (.i .i64 0),.d .fz (.i .i64 0),.d .fz (.i .i64 0),.d .fz (.s ⟨#[]⟩),.d .fz (.s ⟨#[]⟩),.nl 7,.d .fz (.i .i64 0),.d .fz (.i .i64 0),.d .fz (.i .i64 0),.d .fz (.i .i64 0),.d .fz (.s ⟨#[]⟩),.d .fz (.s ⟨#[]⟩),.nl 7] }),
 (171,{ sz:=1,by_:=8,ik:=some .u64,z:=some [.d .fz (.i .u64 0)] }),
 (208,{ sz:=1,by_:=8,z:=some [.u] })]
theorem k6x:tab.ok Tryz.prog=true:=by kernel_rfl
instance:HasTab Tryz.prog:=⟨tab,k6x⟩
end Go.Proofs.YtnhofaohogianaaGreat
