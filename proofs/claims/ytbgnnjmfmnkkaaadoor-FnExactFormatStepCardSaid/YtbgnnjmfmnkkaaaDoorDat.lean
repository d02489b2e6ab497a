/- How the structs of the program read as data: plain definitions and lemmas, without conditions of their own. -/
import Derived.Test.YtbgnnjmfmnkkaaaDoorAb4
import Derived.KernelRfl
import Derived.Test.YtbgnnjmfmnkkaaaDoorProg
set_option linter.unusedVariables false
set_option linter.unusedSimpArgs false
set_option linter.ambiguousOpen false
set_option linter.unusedSectionVars false
set_option linter.unnecessarySimpa false
set_option maxRecDepth 100000
set_option maxHeartbeats 4000000
noncomputable section
namespace Go.Proofs.YtbgnnjmfmnkkaaaDoor
open Go Go.E Go.A
def byD (b:UInt8):A.D:=.i .u8 (b.toNat:Int)
structure Step where
 Kind:Int
 Pos:Int
 Visit:Int
 Name:ByteArray
 deriving DecidableEq
def Step.l (x:Step):List A.D:=[.i .i64 x.Kind,.i .i64 x.Pos,.i .i64 x.Visit,.s x.Name]
def Step.x (m:Md)(x:Step):X:=.ag ((Step.l x).map (dX m))
def tab:Tab:=[
 (2,{ sz:=1,by_:=8,ik:=some .i64,z:=some [.d .fz (.i .i64 0)] }),
 (3,{ sz:=1,by_:=8,ik:=some .i64,z:=some [.d .fz (.i .i64 0)] }),
 (5,{ sz:=1,by_:=1,ik:=some .u8,z:=some [.d .fz (.i .u8 0)] }),
 (9,{ sz:=1,by_:=16,str:=true,z:=some [.d .fz (.s ⟨#[]⟩)] }),
 (23,{ sz:=4,by_:=40,agg:=true,fo:=[some 0,some 1,some 2,some 3],ft:=[some (3,0),some (3,1),some (3,2),some (9,3)],pl:=[(0,1),(1,1),(2,1),(3,1)],fk:=some [.int,.int,.int,.str],z:=some [.d .fz (.i .i64 0),.d .fz (.i .i64 0),.d .fz (.i .i64 0),.d .fz (.s ⟨#[]⟩)] }),
 (26,{ sz:=4,by_:=40,agg:=true,fo:=[some 0,some 1,some 2,some 3],ft:=[some (3,0),some (3,1),some (3,2),some (9,3)],pl:=[(0,1),(1,1),(2,1),(3,1)],fk:=some [.int,.int,.int,.str],z:=some [.d .fz (.i .i64 0),.d .fz (.i .i64 0),.d .fz (.i .i64 0),.d .fz (.s ⟨#[]⟩)] }),
 (30,{ sz:=1,by_:=24,el:=some 5,z:=some [.nl 1] })]
theorem z0g:tab.ok Tryd.prog=true:=by kernel_rfl
instance:HasTab Tryd.prog:=⟨tab,z0g⟩
end Go.Proofs.YtbgnnjmfmnkkaaaDoor
