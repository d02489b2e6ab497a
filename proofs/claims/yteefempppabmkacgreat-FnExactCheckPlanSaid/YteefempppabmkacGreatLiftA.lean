/- What some functions of the program compute, as partial functions on plain data, and that they do; each lemma bears its conditions in its statement. -/
import Derived.Test.YteefempppabmkacGreatRows
import Derived.Test.YteefempppabmkacGreatRd
import Derived.Test.YteefempppabmkacGreatEngD
import Derived.Test.YteefempppabmkacGreatSort
set_option linter.unusedVariables false
set_option linter.unusedSimpArgs false
set_option linter.ambiguousOpen false
set_option linter.unusedSectionVars false
set_option linter.unnecessarySimpa false
set_option linter.unusedVariables false
set_option linter.unusedSimpArgs false
set_option maxRecDepth 100000
set_option maxHeartbeats 4000000
noncomputable section
namespace Go.Proofs.YteefempppabmkacGreat
open Go Go.E
open Go.E.Rep (rd)
open Go.E.Sep (own)
open Go.E.Sz (szd)
variable {F0:Nat→Prop}{w0:World}{M:List Nat}
abbrev RT (f:Nat)(a:Array Value)(w:World)(R:Value→World→Prop):=Ret Tryz.prog f a w (fun _=>False) R
abbrev RM (f:Nat)(a:Array Value)(M:List Nat)(w:World)(R:Value→World→Prop):=Ret Tryz.prog f a w (·∈M) R
abbrev RB (f:Nat)(a:Array Value)(w:World)(r:Bool):=RT f a w fun v _=>v = .bool r
abbrev q3Z (x:Attribute):List Value:=[.string x.Name,.int .i64 x.Type_,.int .i64 x.Mode,.bool x.Circular]
abbrev q2D (x:Expr)(A1:Option Addr)(n1 c1:Nat):List Value:=[.int .i64 x.Kind,.int .i64 x.N,.int .i64 x.Pos,.int .i64 x.Type_,.string x.Symbol,.string x.Name,.slice A1 n1 c1]
abbrev q5Z (x:Equation)(A1:Option Addr)(n1 c1:Nat):List Value:=[.int .i64 x.At.Pos,.string x.At.Name,.int .i64 x.Expr.Kind,.int .i64 x.Expr.N,.int .i64 x.Expr.Pos,.int .i64 x.Expr.Type_,.string x.Expr.Symbol,.string x.Expr.Name,.slice A1 n1 c1]
abbrev q4u (x:Contribution)(A1:Option Addr)(n1 c1:Nat)(A2:Option Addr)(n2 c2:Nat):List Value:=[.string x.Symbol,.string x.Name,.int .i64 x.Target.Kind,.int .i64 x.Target.N,.int .i64 x.Target.Pos,.int .i64 x.Target.Type_,.string x.Target.Symbol,.string x.Target.Name,.slice A1 n1 c1,.int .i64 x.Value.Kind,.int .i64 x.Value.N,.int .i64 x.Value.Pos,.int .i64 x.Value.Type_,.string x.Value.Symbol,.string x.Value.Name,.slice A2 n2 c2]
abbrev q4o (x:Rule)(A1:Option Addr)(n1 c1:Nat)(A2:Option Addr)(n2 c2:Nat)(A3:Option Addr)(n3 c3:Nat):List Value:=[.string x.Name,.string x.Left,.slice A1 n1 c1,.bool x.Literal,.slice A2 n2 c2,.slice A3 n3 c3]
abbrev q5i (x:Step):List Value:=[.int .i64 x.Kind,.int .i64 x.Pos,.int .i64 x.Visit,.string x.Name]
abbrev j0u (x:RulePlan)(A1:Option Addr)(n1 c1:Nat):List Value:=[.string x.Rule,.slice A1 n1 c1]
theorem ag25:aggT Tryz.prog 25=some true:=by kernel_rfl
theorem ag35:aggT Tryz.prog 35=some true:=by kernel_rfl
theorem ag37:aggT Tryz.prog 37=some false:=by kernel_rfl
theorem ag57:aggT Tryz.prog 57=some true:=by kernel_rfl
theorem ag58:aggT Tryz.prog 58=some false:=by kernel_rfl
theorem ag62:aggT Tryz.prog 62=some true:=by kernel_rfl
theorem ag87:aggT Tryz.prog 87=some false:=by kernel_rfl
theorem ag89:aggT Tryz.prog 89=some true:=by kernel_rfl
theorem ag91:aggT Tryz.prog 91=some true:=by kernel_rfl
theorem ag94:aggT Tryz.prog 94=some false:=by kernel_rfl
theorem ag95:aggT Tryz.prog 95=some false:=by kernel_rfl
theorem k2g:aggT Tryz.prog 100=some true:=by kernel_rfl
theorem k2h:aggT Tryz.prog 102=some true:=by kernel_rfl
theorem j9W:aggT Tryz.prog 113=some false:=by kernel_rfl
theorem z0l:aggT Tryz.prog 133=some true:=by kernel_rfl
theorem q7L:aggT Tryz.prog 136=some true:=by kernel_rfl
theorem k2i:aggT Tryz.prog 138=some true:=by kernel_rfl
theorem k1j:aggT Tryz.prog 171=some true:=by kernel_rfl
theorem j4V:aggT Tryz.prog 174=some true:=by kernel_rfl
theorem k2j:aggT Tryz.prog 190=some true:=by kernel_rfl
theorem sz9:szT Tryz.prog 9=some 1:=by kernel_rfl
theorem sz25:szT Tryz.prog 25=some 2:=by kernel_rfl
theorem sz35:szT Tryz.prog 35=some 2:=by kernel_rfl
theorem sz54:szT Tryz.prog 54=some 1:=by kernel_rfl
theorem sz57:szT Tryz.prog 57=some 2:=by kernel_rfl
theorem sz62:szT Tryz.prog 62=some 6:=by kernel_rfl
theorem sz89:szT Tryz.prog 89=some 2:=by kernel_rfl
theorem sz91:szT Tryz.prog 91=some 4:=by kernel_rfl
theorem z5P:szT Tryz.prog 100=some 2:=by kernel_rfl
theorem j9X:szT Tryz.prog 102=some 4:=by kernel_rfl
theorem q3n:szT Tryz.prog 133=some 2:=by kernel_rfl
theorem q5u:szT Tryz.prog 136=some 7:=by kernel_rfl
theorem j8b:szT Tryz.prog 138=some 9:=by kernel_rfl
theorem k1k:szT Tryz.prog 171=some 2:=by kernel_rfl
theorem j4W:szT Tryz.prog 174=some 7:=by kernel_rfl
theorem j9Y:szT Tryz.prog 190=some 16:=by kernel_rfl
theorem by3:byT Tryz.prog 3=some 8:=by kernel_rfl
theorem by9:byT Tryz.prog 9=some 16:=by kernel_rfl
theorem by54:byT Tryz.prog 54=some 24:=by kernel_rfl
theorem by57:byT Tryz.prog 57=some 40:=by kernel_rfl
theorem by62:byT Tryz.prog 62=some 112:=by kernel_rfl
theorem by89:byT Tryz.prog 89=some 40:=by kernel_rfl
theorem by91:byT Tryz.prog 91=some 40:=by kernel_rfl
theorem k2k:byT Tryz.prog 100=some 48:=by kernel_rfl
theorem k2l:byT Tryz.prog 102=some 40:=by kernel_rfl
theorem z3v:byT Tryz.prog 133=some 24:=by kernel_rfl
theorem j6c:byT Tryz.prog 136=some 88:=by kernel_rfl
theorem k2m:byT Tryz.prog 138=some 112:=by kernel_rfl
theorem k2n:byT Tryz.prog 190=some 208:=by kernel_rfl
theorem ze9:q6d Tryz.prog 9=some [.string ⟨#[]⟩]:=by kernel_rfl
theorem ze35:q6d Tryz.prog 35=some [.slice none 0 0,.slice none 0 0]:=by kernel_rfl
theorem ze54:q6d Tryz.prog 54=some [.slice none 0 0]:=by kernel_rfl
theorem ze57:q6d Tryz.prog 57=some [.string ⟨#[]⟩,.slice none 0 0]:=by kernel_rfl
theorem ze62:q6d Tryz.prog 62=some [.string ⟨#[]⟩,.string ⟨#[]⟩,.slice none 0 0,.bool false,.slice none 0 0,.slice none 0 0]:=by kernel_rfl
theorem ze89:q6d Tryz.prog 89=some [.string ⟨#[]⟩,.slice none 0 0]:=by kernel_rfl
theorem ze91:q6d Tryz.prog 91=some [.string ⟨#[]⟩,.int .i64 0,.int .i64 0,.bool false]:=by kernel_rfl
theorem ze94:q6d Tryz.prog 94=some [.slice none 0 0]:=by kernel_rfl
theorem ze95:q6d Tryz.prog 95=some [.slice none 0 0]:=by kernel_rfl
theorem ze97:q6d Tryz.prog 97=some [.slice none 0 0,.slice none 0 0,.string ⟨#[]⟩,.string ⟨#[]⟩,.slice none 0 0,.bool false,.slice none 0 0,.slice none 0 0,.slice none 0 0,.slice none 0 0,.slice none 0 0,.slice none 0 0]:=by kernel_rfl
theorem j9Z:q6d Tryz.prog 100=some [.slice none 0 0,.slice none 0 0]:=by kernel_rfl
theorem j6d:q6d Tryz.prog 102=some [.int .i64 0,.int .i64 0,.int .i64 0,.string ⟨#[]⟩]:=by kernel_rfl
theorem k2o:q6d Tryz.prog 119=some [.slice none 0 0,.slice none 0 0,.slice none 0 0,.string ⟨#[]⟩,.string ⟨#[]⟩,.slice none 0 0,.bool false,.slice none 0 0,.slice none 0 0,.slice none 0 0,.slice none 0 0,.slice none 0 0]:=by kernel_rfl
theorem q5v:q6d Tryz.prog 133=some [.int .i64 0,.string ⟨#[]⟩]:=by kernel_rfl
theorem q9V:q6d Tryz.prog 136=some [.int .i64 0,.int .i64 0,.int .i64 0,.int .i64 0,.string ⟨#[]⟩,.string ⟨#[]⟩,.slice none 0 0]:=by kernel_rfl
theorem z9P:q6d Tryz.prog 138=some [.int .i64 0,.string ⟨#[]⟩,.int .i64 0,.int .i64 0,.int .i64 0,.int .i64 0,.string ⟨#[]⟩,.string ⟨#[]⟩,.slice none 0 0]:=by kernel_rfl
theorem j1Y:q6d Tryz.prog 190=some [.string ⟨#[]⟩,.string ⟨#[]⟩,.int .i64 0,.int .i64 0,.int .i64 0,.int .i64 0,.string ⟨#[]⟩,.string ⟨#[]⟩,.slice none 0 0,.int .i64 0,.int .i64 0,.int .i64 0,.int .i64 0,.string ⟨#[]⟩,.string ⟨#[]⟩,.slice none 0 0]:=by kernel_rfl
theorem el32:q4Y Tryz.prog 32=some 89:=by kernel_rfl
theorem el33:q4Y Tryz.prog 33=some 62:=by kernel_rfl
theorem el37:q4Y Tryz.prog 37=some 54:=by kernel_rfl
theorem el39:q4Y Tryz.prog 39=some 57:=by kernel_rfl
theorem el54:q4Y Tryz.prog 54=some 100:=by kernel_rfl
theorem el55:q4Y Tryz.prog 55=some 102:=by kernel_rfl
theorem el58:q4Y Tryz.prog 58=some 9:=by kernel_rfl
theorem el59:q4Y Tryz.prog 59=some 138:=by kernel_rfl
theorem el60:q4Y Tryz.prog 60=some 190:=by kernel_rfl
theorem el87:q4Y Tryz.prog 87=some 91:=by kernel_rfl
theorem el95:q4Y Tryz.prog 95=some 133:=by kernel_rfl
theorem z7L:q4Y Tryz.prog 134=some 136:=by kernel_rfl
theorem pl89:z3A Tryz.prog 89=some [(0,1),(1,1)]:=by kernel_rfl
theorem pl91:z3A Tryz.prog 91=some [(0,1),(1,1),(2,1),(3,1)]:=by kernel_rfl
theorem pl97:z3A Tryz.prog 97=some [(0,2),(2,6),(8,1),(9,1),(10,1),(11,1)]:=by kernel_rfl
theorem k2p:z3A Tryz.prog 119=some [(0,2),(2,1),(3,6),(9,1),(10,1),(11,1)]:=by kernel_rfl
theorem z7M:z3A Tryz.prog 133=some [(0,1),(1,1)]:=by kernel_rfl
theorem k0a:z3A Tryz.prog 136=some [(0,1),(1,1),(2,1),(3,1),(4,1),(5,1),(6,1)]:=by kernel_rfl
theorem j0R:j5Q Tryz.prog 133=some [.int,.str]:=by kernel_rfl
theorem j6e:q7u Tryz.prog 62 2=some 2:=by kernel_rfl
theorem k1l:q7u Tryz.prog 89 0=some 0:=by kernel_rfl
theorem k1m:q7u Tryz.prog 89 1=some 1:=by kernel_rfl
theorem j9F:q7u Tryz.prog 97 0=some 0:=by kernel_rfl
theorem j6f:q7u Tryz.prog 97 1=some 2:=by kernel_rfl
theorem k1n:q7u Tryz.prog 97 2=some 8:=by kernel_rfl
theorem z8B:q7u Tryz.prog 97 3=some 9:=by kernel_rfl
theorem k1o:q7u Tryz.prog 97 4=some 10:=by kernel_rfl
theorem j3b:q7u Tryz.prog 100 1=some 1:=by kernel_rfl
theorem j6g:q7u Tryz.prog 102 2=some 2:=by kernel_rfl
theorem k0b:q7u Tryz.prog 119 2=some 3:=by kernel_rfl
theorem j3c:q7u Tryz.prog 119 4=some 10:=by kernel_rfl
theorem j6h:q7u Tryz.prog 119 5=some 11:=by kernel_rfl
theorem j6i:q7u Tryz.prog 136 1=some 1:=by kernel_rfl
theorem j6j:q7u Tryz.prog 136 2=some 2:=by kernel_rfl
theorem j6k:q7u Tryz.prog 136 3=some 3:=by kernel_rfl
theorem j6l:q7u Tryz.prog 136 4=some 4:=by kernel_rfl
theorem j0S:q7u Tryz.prog 136 5=some 5:=by kernel_rfl
theorem ok4:q2p Tryz.prog 4=true:=by kernel_rfl
theorem ok5:q2p Tryz.prog 5=true:=by kernel_rfl
theorem ok6:q2p Tryz.prog 6=true:=by kernel_rfl
theorem ok7:q2p Tryz.prog 7=true:=by kernel_rfl
theorem ok8:q2p Tryz.prog 8=true:=by kernel_rfl
theorem ok9:q2p Tryz.prog 9=true:=by kernel_rfl
theorem ok10:q2p Tryz.prog 10=true:=by kernel_rfl
theorem ok11:q2p Tryz.prog 11=true:=by kernel_rfl
theorem ok12:q2p Tryz.prog 12=true:=by kernel_rfl
theorem ok13:q2p Tryz.prog 13=true:=by kernel_rfl
theorem ok14:q2p Tryz.prog 14=true:=by kernel_rfl
theorem ok15:q2p Tryz.prog 15=true:=by kernel_rfl
theorem ok16:q2p Tryz.prog 16=true:=by kernel_rfl
theorem ok17:q2p Tryz.prog 17=true:=by kernel_rfl
theorem ok18:q2p Tryz.prog 18=true:=by kernel_rfl
theorem ok19:q2p Tryz.prog 19=true:=by kernel_rfl
theorem ok20:q2p Tryz.prog 20=true:=by kernel_rfl
theorem ok21:q2p Tryz.prog 21=true:=by kernel_rfl
theorem ok22:q2p Tryz.prog 22=true:=by kernel_rfl
theorem ok23:q2p Tryz.prog 23=true:=by kernel_rfl
theorem ok24:q2p Tryz.prog 24=true:=by kernel_rfl
theorem ok25:q2p Tryz.prog 25=true:=by kernel_rfl
theorem ok26:q2p Tryz.prog 26=true:=by kernel_rfl
theorem ok27:q2p Tryz.prog 27=true:=by kernel_rfl
theorem ok28:q2p Tryz.prog 28=true:=by kernel_rfl
theorem ok29:q2p Tryz.prog 29=true:=by kernel_rfl
theorem ok30:q2p Tryz.prog 30=true:=by kernel_rfl
theorem ok31:q2p Tryz.prog 31=true:=by kernel_rfl
theorem ok32:q2p Tryz.prog 32=true:=by kernel_rfl
theorem ok33:q2p Tryz.prog 33=true:=by kernel_rfl
theorem ok34:q2p Tryz.prog 34=true:=by kernel_rfl
theorem ok35:q2p Tryz.prog 35=true:=by kernel_rfl
theorem ok36:q2p Tryz.prog 36=true:=by kernel_rfl
theorem ok37:q2p Tryz.prog 37=true:=by kernel_rfl
theorem ok38:q2p Tryz.prog 38=true:=by kernel_rfl
theorem ok39:q2p Tryz.prog 39=true:=by kernel_rfl
theorem ok40:q2p Tryz.prog 40=true:=by kernel_rfl
theorem ok41:q2p Tryz.prog 41=true:=by kernel_rfl
theorem ok42:q2p Tryz.prog 42=true:=by kernel_rfl
theorem ok43:q2p Tryz.prog 43=true:=by kernel_rfl
theorem ok44:q2p Tryz.prog 44=true:=by kernel_rfl
theorem ok45:q2p Tryz.prog 45=true:=by kernel_rfl
theorem ok46:q2p Tryz.prog 46=true:=by kernel_rfl
theorem ok47:q2p Tryz.prog 47=true:=by kernel_rfl
theorem ok48:q2p Tryz.prog 48=true:=by kernel_rfl
theorem ok49:q2p Tryz.prog 49=true:=by kernel_rfl
theorem ok50:q2p Tryz.prog 50=true:=by kernel_rfl
theorem ok51:q2p Tryz.prog 51=true:=by kernel_rfl
theorem ok52:q2p Tryz.prog 52=true:=by kernel_rfl
theorem ok53:q2p Tryz.prog 53=true:=by kernel_rfl
theorem ok54:q2p Tryz.prog 54=true:=by kernel_rfl
theorem ok55:q2p Tryz.prog 55=true:=by kernel_rfl
theorem ok56:q2p Tryz.prog 56=true:=by kernel_rfl
theorem ok57:q2p Tryz.prog 57=true:=by kernel_rfl
theorem ok58:q2p Tryz.prog 58=true:=by kernel_rfl
theorem ok59:q2p Tryz.prog 59=true:=by kernel_rfl
theorem ok60:q2p Tryz.prog 60=true:=by kernel_rfl
theorem ok61:q2p Tryz.prog 61=true:=by kernel_rfl
theorem ok62:q2p Tryz.prog 62=true:=by kernel_rfl
theorem ok63:q2p Tryz.prog 63=true:=by kernel_rfl
theorem ok64:q2p Tryz.prog 64=true:=by kernel_rfl
theorem ok65:q2p Tryz.prog 65=true:=by kernel_rfl
theorem ok66:q2p Tryz.prog 66=true:=by kernel_rfl
theorem ok67:q2p Tryz.prog 67=true:=by kernel_rfl
theorem ok68:q2p Tryz.prog 68=true:=by kernel_rfl
theorem ok69:q2p Tryz.prog 69=true:=by kernel_rfl
theorem ok70:q2p Tryz.prog 70=true:=by kernel_rfl
theorem ok71:q2p Tryz.prog 71=true:=by kernel_rfl
theorem ok72:q2p Tryz.prog 72=true:=by kernel_rfl
theorem ok73:q2p Tryz.prog 73=true:=by kernel_rfl
theorem ok74:q2p Tryz.prog 74=true:=by kernel_rfl
theorem ok75:q2p Tryz.prog 75=true:=by kernel_rfl
theorem ok76:q2p Tryz.prog 76=true:=by kernel_rfl
theorem ok77:q2p Tryz.prog 77=true:=by kernel_rfl
theorem ok78:q2p Tryz.prog 78=true:=by kernel_rfl
theorem ok79:q2p Tryz.prog 79=true:=by kernel_rfl
theorem ok80:q2p Tryz.prog 80=true:=by kernel_rfl
theorem ok81:q2p Tryz.prog 81=true:=by kernel_rfl
theorem ok82:q2p Tryz.prog 82=true:=by kernel_rfl
theorem ok83:q2p Tryz.prog 83=true:=by kernel_rfl
theorem ok84:q2p Tryz.prog 84=true:=by kernel_rfl
theorem ok85:q2p Tryz.prog 85=true:=by kernel_rfl
theorem ok86:q2p Tryz.prog 86=true:=by kernel_rfl
theorem ok87:q2p Tryz.prog 87=true:=by kernel_rfl
theorem ok88:q2p Tryz.prog 88=true:=by kernel_rfl
theorem ok89:q2p Tryz.prog 89=true:=by kernel_rfl
theorem ok90:q2p Tryz.prog 90=true:=by kernel_rfl
theorem ok91:q2p Tryz.prog 91=true:=by kernel_rfl
theorem ok92:q2p Tryz.prog 92=true:=by kernel_rfl
theorem ok93:q2p Tryz.prog 93=true:=by kernel_rfl
theorem ok94:q2p Tryz.prog 94=true:=by kernel_rfl
theorem ok95:q2p Tryz.prog 95=true:=by kernel_rfl
theorem ok96:q2p Tryz.prog 96=true:=by kernel_rfl
theorem ok97:q2p Tryz.prog 97=true:=by kernel_rfl
theorem ok98:q2p Tryz.prog 98=true:=by kernel_rfl
theorem ok99:q2p Tryz.prog 99=true:=by kernel_rfl
theorem j4X:q2p Tryz.prog 100=true:=by kernel_rfl
theorem k2q:q2p Tryz.prog 101=true:=by kernel_rfl
theorem k0c:q2p Tryz.prog 102=true:=by kernel_rfl
theorem k2r:q2p Tryz.prog 103=true:=by kernel_rfl
theorem k2s:q2p Tryz.prog 104=true:=by kernel_rfl
theorem k2t:q2p Tryz.prog 105=true:=by kernel_rfl
theorem k2u:q2p Tryz.prog 106=true:=by kernel_rfl
theorem k2v:q2p Tryz.prog 107=true:=by kernel_rfl
theorem k2w:q2p Tryz.prog 108=true:=by kernel_rfl
theorem k2x:q2p Tryz.prog 109=true:=by kernel_rfl
theorem k2y:q2p Tryz.prog 110=true:=by kernel_rfl
theorem k2z:q2p Tryz.prog 111=true:=by kernel_rfl
theorem j6m:q2p Tryz.prog 112=true:=by kernel_rfl
theorem j6n:q2p Tryz.prog 113=true:=by kernel_rfl
theorem k1p:q2p Tryz.prog 114=true:=by kernel_rfl
theorem k1q:q2p Tryz.prog 115=true:=by kernel_rfl
theorem k2A:q2p Tryz.prog 116=true:=by kernel_rfl
theorem k2B:q2p Tryz.prog 117=true:=by kernel_rfl
theorem k2C:q2p Tryz.prog 118=true:=by kernel_rfl
theorem k2D:q2p Tryz.prog 119=true:=by kernel_rfl
theorem k2E:q2p Tryz.prog 120=true:=by kernel_rfl
theorem k2F:q2p Tryz.prog 121=true:=by kernel_rfl
theorem k1r:q2p Tryz.prog 122=true:=by kernel_rfl
theorem j4Y:q2p Tryz.prog 123=true:=by kernel_rfl
theorem j1Z:q2p Tryz.prog 124=true:=by kernel_rfl
theorem k2G:q2p Tryz.prog 125=true:=by kernel_rfl
theorem j8c:q2p Tryz.prog 126=true:=by kernel_rfl
theorem j8d:q2p Tryz.prog 127=true:=by kernel_rfl
theorem j6o:q2p Tryz.prog 128=true:=by kernel_rfl
theorem k2H:q2p Tryz.prog 129=true:=by kernel_rfl
theorem k2I:q2p Tryz.prog 130=true:=by kernel_rfl
theorem k1s:q2p Tryz.prog 131=true:=by kernel_rfl
theorem k2J:q2p Tryz.prog 132=true:=by kernel_rfl
theorem k2K:q2p Tryz.prog 133=true:=by kernel_rfl
theorem k2L:q2p Tryz.prog 134=true:=by kernel_rfl
theorem j8e:q2p Tryz.prog 135=true:=by kernel_rfl
theorem k2M:q2p Tryz.prog 136=true:=by kernel_rfl
theorem k2N:q2p Tryz.prog 137=true:=by kernel_rfl
theorem k2O:q2p Tryz.prog 138=true:=by kernel_rfl
theorem k2P:q2p Tryz.prog 139=true:=by kernel_rfl
theorem k2Q:q2p Tryz.prog 140=true:=by kernel_rfl
theorem j8f:q2p Tryz.prog 141=true:=by kernel_rfl
theorem k2R:q2p Tryz.prog 142=true:=by kernel_rfl
theorem k2S:q2p Tryz.prog 143=true:=by kernel_rfl
theorem j0T:q2p Tryz.prog 144=true:=by kernel_rfl
theorem k0d:q2p Tryz.prog 145=true:=by kernel_rfl
theorem k0e:q2p Tryz.prog 146=true:=by kernel_rfl
theorem k2T:q2p Tryz.prog 147=true:=by kernel_rfl
theorem k2U:q2p Tryz.prog 148=true:=by kernel_rfl
theorem k1t:q2p Tryz.prog 149=true:=by kernel_rfl
theorem k0f:q2p Tryz.prog 150=true:=by kernel_rfl
theorem k2V:q2p Tryz.prog 151=true:=by kernel_rfl
theorem j8g:q2p Tryz.prog 152=true:=by kernel_rfl
theorem k2W:q2p Tryz.prog 153=true:=by kernel_rfl
theorem k2X:q2p Tryz.prog 154=true:=by kernel_rfl
theorem k2Y:q2p Tryz.prog 155=true:=by kernel_rfl
theorem k2Z:q2p Tryz.prog 156=true:=by kernel_rfl
theorem k3a:q2p Tryz.prog 157=true:=by kernel_rfl
theorem k3b:q2p Tryz.prog 158=true:=by kernel_rfl
theorem k0g:q2p Tryz.prog 159=true:=by kernel_rfl
theorem j8h:q2p Tryz.prog 160=true:=by kernel_rfl
theorem k0h:q2p Tryz.prog 161=true:=by kernel_rfl
theorem k3c:q2p Tryz.prog 162=true:=by kernel_rfl
theorem j8i:q2p Tryz.prog 163=true:=by kernel_rfl
theorem k1u:q2p Tryz.prog 164=true:=by kernel_rfl
theorem k3d:q2p Tryz.prog 165=true:=by kernel_rfl
theorem k3e:q2p Tryz.prog 166=true:=by kernel_rfl
theorem k3f:q2p Tryz.prog 168=true:=by kernel_rfl
theorem k3g:q2p Tryz.prog 169=true:=by kernel_rfl
theorem k3h:q2p Tryz.prog 170=true:=by kernel_rfl
theorem j8j:q2p Tryz.prog 171=true:=by kernel_rfl
theorem k3i:q2p Tryz.prog 172=true:=by kernel_rfl
theorem k3j:q2p Tryz.prog 173=true:=by kernel_rfl
theorem j8k:q2p Tryz.prog 174=true:=by kernel_rfl
theorem k3k:q2p Tryz.prog 175=true:=by kernel_rfl
theorem k3l:q2p Tryz.prog 176=true:=by kernel_rfl
theorem k3m:q2p Tryz.prog 177=true:=by kernel_rfl
theorem k3n:q2p Tryz.prog 178=true:=by kernel_rfl
theorem k3o:q2p Tryz.prog 179=true:=by kernel_rfl
theorem k3p:q2p Tryz.prog 180=true:=by kernel_rfl
theorem k3q:q2p Tryz.prog 181=true:=by kernel_rfl
theorem k3r:q2p Tryz.prog 182=true:=by kernel_rfl
theorem k3s:q2p Tryz.prog 183=true:=by kernel_rfl
theorem k3t:q2p Tryz.prog 184=true:=by kernel_rfl
theorem k3u:q2p Tryz.prog 185=true:=by kernel_rfl
theorem k3v:q2p Tryz.prog 186=true:=by kernel_rfl
theorem k3w:q2p Tryz.prog 187=true:=by kernel_rfl
theorem k3x:q2p Tryz.prog 188=true:=by kernel_rfl
theorem k3y:q2p Tryz.prog 189=true:=by kernel_rfl
theorem k1v:q2p Tryz.prog 190=true:=by kernel_rfl
theorem k3z:q2p Tryz.prog 191=true:=by kernel_rfl
theorem k3A:q2p Tryz.prog 192=true:=by kernel_rfl
theorem k3B:q2p Tryz.prog 193=true:=by kernel_rfl
theorem k3C:q2p Tryz.prog 194=true:=by kernel_rfl
theorem k3D:q2p Tryz.prog 195=true:=by kernel_rfl
theorem k3E:q2p Tryz.prog 196=true:=by kernel_rfl
theorem k3F:q2p Tryz.prog 202=true:=by kernel_rfl
theorem k3G:q2p Tryz.prog 203=true:=by kernel_rfl
theorem z8C:q2p Tryz.prog 204=true:=by kernel_rfl
theorem k3H:q2p Tryz.prog 205=true:=by kernel_rfl
theorem k0i:q2p Tryz.prog 206=true:=by kernel_rfl
theorem k0j:q2p Tryz.prog 207=true:=by kernel_rfl
theorem k3I:q2p Tryz.prog 208=true:=by kernel_rfl
theorem k3J:q2p Tryz.prog 209=true:=by kernel_rfl
theorem k3K:q2p Tryz.prog 210=true:=by kernel_rfl
theorem k3L:q2p Tryz.prog 211=true:=by kernel_rfl
theorem k3M:q2p Tryz.prog 212=true:=by kernel_rfl
theorem z8D:q2p Tryz.prog 213=true:=by kernel_rfl
theorem k0k:q2p Tryz.prog 214=true:=by kernel_rfl
theorem k1w:q2p Tryz.prog 215=true:=by kernel_rfl
theorem k3N:q2p Tryz.prog 228=true:=by kernel_rfl
theorem k3O:q2p Tryz.prog 229=true:=by kernel_rfl
theorem k3P:q2p Tryz.prog 230=true:=by kernel_rfl
theorem k1x:q2p Tryz.prog 231=true:=by kernel_rfl
theorem k3Q:q2p Tryz.prog 232=true:=by kernel_rfl
theorem k0l:q2p Tryz.prog 233=true:=by kernel_rfl
theorem k1y:q2p Tryz.prog 234=true:=by kernel_rfl
theorem k1z:q2p Tryz.prog 235=true:=by kernel_rfl
theorem k3R:q2p Tryz.prog 236=true:=by kernel_rfl
theorem k3S:q2p Tryz.prog 237=true:=by kernel_rfl
theorem k3T:q2p Tryz.prog 238=true:=by kernel_rfl
theorem k3U:q2p Tryz.prog 239=true:=by kernel_rfl
theorem k3V:q2p Tryz.prog 245=true:=by kernel_rfl
theorem k1A:q2p Tryz.prog 246=true:=by kernel_rfl
theorem k1B:q2p Tryz.prog 247=true:=by kernel_rfl
theorem k1C:q2p Tryz.prog 248=true:=by kernel_rfl
theorem k1D:q2p Tryz.prog 249=true:=by kernel_rfl
theorem k1E:q2p Tryz.prog 250=true:=by kernel_rfl
theorem k3W:q2p Tryz.prog 251=true:=by kernel_rfl
theorem k3X:q2p Tryz.prog 253=true:=by kernel_rfl
theorem k3Y:q2p Tryz.prog 254=true:=by kernel_rfl
theorem j2a:q2p Tryz.prog 255=true:=by kernel_rfl
theorem k3Z:q2p Tryz.prog 256=true:=by kernel_rfl
theorem k4a:q2p Tryz.prog 257=true:=by kernel_rfl
theorem k4b:q2p Tryz.prog 258=true:=by kernel_rfl
theorem k4c:q2p Tryz.prog 259=true:=by kernel_rfl
theorem k4d:q2p Tryz.prog 260=true:=by kernel_rfl
theorem k4e:q2p Tryz.prog 261=true:=by kernel_rfl
theorem k4f:q2p Tryz.prog 262=true:=by kernel_rfl
theorem k4g:q2p Tryz.prog 263=true:=by kernel_rfl
theorem k4h:q2p Tryz.prog 264=true:=by kernel_rfl
def z1R (a0:Attribute)(a1:Int):Option Int:=grd (I64 (a1 - (a0.Name.size:Int))) <| if (a1 - (a0.Name.size:Int)) < 0 then some (-1) else some (a1 - (a0.Name.size:Int))
theorem z8E {a0}{a1 r}(hr:z1R a0 a1=some r){ca0}(ha0:rd F0 w0 a0 ca0)(ha1:I64 a1):RT 106 #[ag ca0,.int .i64 a1] w0 fun v w=>v = .int .i64 r∧I64 r:=by
 have H:=(HL.start F0 w0).argR ha0
 obtain⟨rfl,hS1,hI1,hI2,H⟩:=q4Z H 0
 refine (En Tryz.func106) ?_
 refine R ((BX H) fun b1 w1 H=>(A) (Z (R ((V) ((D 0) ((L H 0) ?_))))))
 refine q0b rfl rfl (q0w rfl Tryz.underlying9 rfl) ?_
 refine gg hr fun hg1 hr=>(BN (Bin.sub hg1)) ((A) (Z (Y (R ((V) ((BZ) (iD hr (fun _ hr=>?_) fun _ hr=>?_)))))))
 ·exact R ((AZ) (W1 hr))
 exact K (R ((V) ((AZ) (W1 hr))))
def z3j:Nat→Attribute→Int→Option (Int ⊕ Int):=fun k1 x1 s1=>(z1R x1 s1).bind fun y1=>if y1 < 0 then some (.inr (-1)) else some (.inl y1)
def z0Q (a0:(List Attribute))(a1:Int):Option Int:=grd (I64 (a1 - (a0.length:Int))) <| if (a1 - (a0.length:Int)) < 0 then some (-1) else (q2u z3j 0 a0 (a1 - (a0.length:Int))).bind <| onr (fun r1=>some r1) fun s1=>some s1
theorem z7N {a0}{a1 r}(hr:z0Q a0 a1=some r){z0}(ha0:rdS F0 w0 a0 z0)(ha1:I64 a1):RT 64 #[z0,.int .i64 a1] w0 fun v w=>v = .int .i64 r∧I64 r:=by
 obtain⟨A0',n0',c0',rfl⟩:=ha0.form3
 have H:=(HL.start F0 w0).argS ha0
 refine (En Tryz.func64) ?_
 refine R ((A) (Z (R ((V) ((V) ((NI H 0) fun hl1=>?_))))))
 refine gg hr fun hg1 hr=>(BN (Bin.sub hg1)) ((A) (Z (Y (R ((V) ((BZ) (iD hr (fun _ hr=>?_) fun _ hr=>?_)))))))
 ·exact R ((AZ) (W1 hr))
 refine K (Y (R ((AZ) ?_)))
 refine bb hr fun q1 hq1 hr=>?_
 refine (lF hq1 (fun k1 s1 _=>[(0,.slice A0' n0' c0'),(1,.int .i64 s1),(5,zN k1)]) (fun s1 _ w=>I64 s1∧HL F0 [] w0 w [.S a0 (.slice A0' n0' c0')] []) ()) ?_
 rintro k1 s1 _ σ w1 hk1 hq1 ⟨hI1,H⟩
 refine Y (R ((V) ((V) ((NN (rs H 0)) ((BZ) ?_)))))
 refine (iF hq1 hr (fun hk2 x1 z1 hx1 hb1 hs1 ht1=>?_) fun hr=>?_)
 ·refine K (Y ?_)
  refine Bk (R ((V) ((V) ?_)))
  obtain⟨b1,ob1,cb1,hvb1,hS1,hI2,hI3,H⟩:=q4w H 0 hx1
  refine (J 4 hvb1 hx1) ((LA H 1) ((V) ?_))
  refine bb hb1 fun y1 hy1 hb1=>?_
  refine (CA k2u (z8E hy1 (F0:=nF) ⟨rfl,hS1,hI2,hI3⟩ hI1)) (cF' H fun w2 hI4 H=>(A) (Z (R ((V) ((BZ) (iD hb1 (fun _ hb1=>?_) fun _ hb1=>?_))))))
  ·exact R ((AZ) (W2 hb1 ht1 hr))
  exact K (X ((V) ((AN hk2 hl1) ((A) (Z (I2 hb1 hs1 ⟨k1+1,y1,()⟩))))))
 exact CE (R ((V) ((AZ) (W1 hr))))
def z5l (a0:Symbol)(a1:Int):Option Int:=grd (I64 (a1 - (a0.Name.size:Int))) <| if (a1 - (a0.Name.size:Int)) < 0 then some (-1) else (z0Q a0.Attributes (a1 - (a0.Name.size:Int))).bind fun y1=>if y1 < 0 then some (-1) else some y1
theorem j2b {a0}{a1 r}(hr:z5l a0 a1=some r){ca0}(ha0:rd F0 w0 a0 ca0)(ha1:I64 a1):RT 33 #[ag ca0,.int .i64 a1] w0 fun v w=>v = .int .i64 r∧I64 r:=by
 have H:=(HL.start F0 w0).argR ha0
 obtain⟨A1,n1,c1,rfl,hS1,H⟩:=q6e H 0
 refine (En Tryz.func33) ?_
 refine R ((BX H) fun b1 w1 H=>(A) (Z (R ((V) ((D 0) ((L H 0) ?_))))))
 refine q0b rfl rfl (q0w rfl Tryz.underlying9 rfl) ?_
 refine gg hr fun hg1 hr=>(BN (Bin.sub hg1)) ((A) (Z (Y (R ((V) ((BZ) (iD hr (fun _ hr=>?_) fun _ hr=>?_)))))))
 ·exact R ((AZ) (W1 hr))
 refine K (R ((D 1) ((L H 0) ((V) ?_))))
 refine bb hr fun y1 hy1 hr=>?_
 refine (CA ok64 (z7N hy1 (rs H 1) hg1)) (cF' H fun w2 hI1 H=>(A) (Z (Y (R ((V) ((BZ) (iD hr (fun _ hr=>?_) fun _ hr=>?_)))))))
 ·exact R ((AZ) (W1 hr))
 exact K (R ((V) ((AZ) (W1 hr))))
def z5Q:Nat→Symbol→Int→Option (Int ⊕ Int):=fun k1 x1 s1=>(z5l x1 s1).bind fun y1=>if y1 < 0 then some (.inr (-1)) else some (.inl y1)
def z3F (a0:(List Symbol))(a1:Int):Option Int:=grd (I64 (a1 - (a0.length:Int))) <| if (a1 - (a0.length:Int)) < 0 then some (-1) else (q2u z5Q 0 a0 (a1 - (a0.length:Int))).bind <| onr (fun r1=>some r1) fun s1=>some s1
theorem j0U {a0}{a1 r}(hr:z3F a0 a1=some r){z0}(ha0:rdS F0 w0 a0 z0)(ha1:I64 a1):RT 15 #[z0,.int .i64 a1] w0 fun v w=>v = .int .i64 r∧I64 r:=by
 obtain⟨A0',n0',c0',rfl⟩:=ha0.form3
 have H:=(HL.start F0 w0).argS ha0
 refine (En Tryz.func15) ?_
 refine R ((A) (Z (R ((V) ((V) ((NI H 0) fun hl1=>?_))))))
 refine gg hr fun hg1 hr=>(BN (Bin.sub hg1)) ((A) (Z (Y (R ((V) ((BZ) (iD hr (fun _ hr=>?_) fun _ hr=>?_)))))))
 ·exact R ((AZ) (W1 hr))
 refine K (Y (R ((AZ) ?_)))
 refine bb hr fun q1 hq1 hr=>?_
 refine (lF hq1 (fun k1 s1 _=>[(0,.slice A0' n0' c0'),(1,.int .i64 s1),(5,zN k1)]) (fun s1 _ w=>I64 s1∧HL F0 [] w0 w [.S a0 (.slice A0' n0' c0')] []) ()) ?_
 rintro k1 s1 _ σ w1 hk1 hq1 ⟨hI1,H⟩
 refine Y (R ((V) ((V) ((NN (rs H 0)) ((BZ) ?_)))))
 refine (iF hq1 hr (fun hk2 x1 z1 hx1 hb1 hs1 ht1=>?_) fun hr=>?_)
 ·refine K (Y ?_)
  refine Bk (R ((V) ((V) ?_)))
  obtain⟨b1,ob1,cb1,A1,n1,c1,hvb1,hS1,H⟩:=q4g H 0 hx1
  refine (J 2 hvb1 hx1) ((LA H 1) ((V) ?_))
  refine bb hb1 fun y1 hy1 hb1=>?_
  refine (CA ok33 (j2b hy1 ⟨_,rfl,hS1,(rs H 3)⟩ hI1)) (cF' H fun w2 hI2 H=>(A) (Z (R ((V) ((BZ) (iD hb1 (fun _ hb1=>?_) fun _ hb1=>?_))))))
  ·exact R ((AZ) (W2 hb1 ht1 hr))
  exact K (X ((V) ((AN hk2 hl1) ((A) (Z (I2 hb1 hs1 ⟨k1+1,y1,()⟩))))))
 exact CE (R ((V) ((AZ) (W1 hr))))
def z2C:Nat→ByteArray→Int→Option (Int ⊕ Int):=fun k1 x1 s1=>grd (I64 (s1 - (x1.size:Int))) <| if (s1 - (x1.size:Int)) < 0 then some (.inr (-1)) else some (.inl (s1 - (x1.size:Int)))
def q9W (a0:(List ByteArray))(a1:Int):Option Int:=grd (I64 (a1 - (a0.length:Int))) <| if (a1 - (a0.length:Int)) < 0 then some (-1) else (q2u z2C 0 a0 (a1 - (a0.length:Int))).bind <| onr (fun r1=>some r1) fun s1=>some s1
theorem z2D {a0}{a1 r}(hr:q9W a0 a1=some r){z0}(ha0:rdS F0 w0 a0 z0)(ha1:I64 a1):RT 65 #[z0,.int .i64 a1] w0 fun v w=>v = .int .i64 r∧I64 r:=by
 obtain⟨A0',n0',c0',rfl⟩:=ha0.form3
 have H:=(HL.start F0 w0).argS ha0
 refine (En Tryz.func65) ?_
 refine R ((A) (Z (R ((V) ((V) ((NI H 0) fun hl1=>?_))))))
 refine gg hr fun hg1 hr=>(BN (Bin.sub hg1)) ((A) (Z (Y (R ((V) ((BZ) (iD hr (fun _ hr=>?_) fun _ hr=>?_)))))))
 ·exact R ((AZ) (W1 hr))
 refine K (Y (R ((AZ) ?_)))
 refine bb hr fun q1 hq1 hr=>?_
 refine (lF hq1 (fun k1 s1 _=>[(0,.slice A0' n0' c0'),(1,.int .i64 s1),(5,zN k1)]) (fun s1 _ w=>I64 s1∧HL F0 [] w0 w [.S a0 (.slice A0' n0' c0')] []) ()) ?_
 rintro k1 s1 _ σ w1 hk1 hq1 ⟨hI1,H⟩
 refine Y (R ((V) ((V) ((NN (rs H 0)) ((BZ) ?_)))))
 refine (iF hq1 hr (fun hk2 x1 z1 hx1 hb1 hs1 ht1=>?_) fun hr=>?_)
 ·refine K (Y ?_)
  refine Bk (R ((V) ((V) ((V) ?_))))
  obtain⟨b1,ob1,cb1,hvb1,hS1,H⟩:=q7l H 0 hx1
  refine (J 1 hvb1 hx1) ((L0 H 1) ?_)
  refine q0b rfl rfl (q0w rfl Tryz.underlying9 rfl) ?_
  refine gg hb1 fun hg2 hb1=>(BN (Bin.sub hg2)) ((A) (Z (R ((V) ((BZ) (iD hb1 (fun _ hb1=>?_) fun _ hb1=>?_))))))
  ·exact R ((AZ) (W2 hb1 ht1 hr))
  exact K (X ((V) ((AN hk2 hl1) ((A) (Z (I2 hb1 hs1 ⟨k1+1,(s1 - (x1.size:Int)),()⟩))))))
 exact CE (R ((V) ((AZ) (W1 hr))))
def z0R (a0:Occurrence)(a1:Int):Option Int:=grd (I64 (a1 - (a0.Name.size:Int))) <| if (a1 - (a0.Name.size:Int)) < 0 then some (-1) else some (a1 - (a0.Name.size:Int))
theorem z7O {a0}{a1 r}(hr:z0R a0 a1=some r){ca0}(ha0:rd F0 w0 a0 ca0)(ha1:I64 a1):RT 140 #[ag ca0,.int .i64 a1] w0 fun v w=>v = .int .i64 r∧I64 r:=by
 have H:=(HL.start F0 w0).argR ha0
 obtain⟨rfl,hI1,hS1,H⟩:=q2z H 0
 refine (En Tryz.func140) ?_
 refine R ((BX H) fun b1 w1 H=>(A) (Z (R ((V) ((D 1) ((L H 0) ?_))))))
 refine q0b rfl rfl (q0w rfl Tryz.underlying9 rfl) ?_
 refine gg hr fun hg1 hr=>(BN (Bin.sub hg1)) ((A) (Z (Y (R ((V) ((BZ) (iD hr (fun _ hr=>?_) fun _ hr=>?_)))))))
 ·exact R ((AZ) (W1 hr))
 exact K (R ((V) ((AZ) (W1 hr))))
def z8F (rec_wszExpr:Expr→Int→Option Int):Nat→Expr→Int→Option (Int ⊕ Int):=fun k1 x1 s1=>(rec_wszExpr x1 s1).bind fun y1=>if y1 < 0 then some (.inr (-1)) else some (.inl y1)
def j0v (rec_wszExpr:Expr→Int→Option Int)(a0:(List Expr))(a1:Int):Option Int:=grd (I64 (a1 - (a0.length:Int))) <| if (a1 - (a0.length:Int)) < 0 then some (-1) else (q2u (z8F rec_wszExpr) 0 a0 (a1 - (a0.length:Int))).bind <| onr (fun r1=>some r1) fun s1=>some s1
theorem j3d {rec_wszExpr:Expr→Int→Option Int}(ih_wszExpr:∀ {a0:Expr} {a1 r:Int},rec_wszExpr a0 a1=some r→∀ {F0:Nat→Prop} {w0:World} {ca0} (ha0:rd F0 w0 a0 ca0) (ha1:I64 a1),RT 141 #[ag ca0,.int .i64 a1] w0 fun v w=>v = .int .i64 r∧I64 r){a0}{a1 r}(hr:j0v rec_wszExpr a0 a1=some r){z0}(ha0:rdS F0 w0 a0 z0)(ha1:I64 a1):RT 172 #[z0,.int .i64 a1] w0 fun v w=>v = .int .i64 r∧I64 r:=by
 obtain⟨A0',n0',c0',rfl⟩:=ha0.form3
 have H:=(HL.start F0 w0).argS ha0
 refine (En Tryz.func172) ?_
 refine R ((A) (Z (R ((V) ((V) ((NI H 0) fun hl1=>?_))))))
 refine gg hr fun hg1 hr=>(BN (Bin.sub hg1)) ((A) (Z (Y (R ((V) ((BZ) (iD hr (fun _ hr=>?_) fun _ hr=>?_)))))))
 ·exact R ((AZ) (W1 hr))
 refine K (Y (R ((AZ) ?_)))
 refine bb hr fun q1 hq1 hr=>?_
 refine (lF hq1 (fun k1 s1 _=>[(0,.slice A0' n0' c0'),(1,.int .i64 s1),(5,zN k1)]) (fun s1 _ w=>I64 s1∧HL F0 [] w0 w [.S a0 (.slice A0' n0' c0')] []) ()) ?_
 rintro k1 s1 _ σ w1 hk1 hq1 ⟨hI1,H⟩
 refine Y (R ((V) ((V) ((NN (rs H 0)) ((BZ) ?_)))))
 refine (iF hq1 hr (fun hk2 x1 z1 hx1 hb1 hs1 ht1=>?_) fun hr=>?_)
 ·refine K (Y ?_)
  refine Bk (R ((V) ((V) ?_)))
  obtain⟨b1,ob1,cb1,A1,n1,c1,hvb1,hI2,hI3,hI4,hI5,hS1,hS2,H⟩:=q4f H 0 hx1
  refine (J 7 hvb1 hx1) ((LA H 1) ((V) ?_))
  refine bb hb1 fun y1 hy1 hb1=>?_
  refine (CA j8f (ih_wszExpr hy1 (q2r.2 ⟨_,rfl,hI2,hI3,hI4,hI5,hS1,hS2,(rs H 3)⟩) hI1)) (cF' H fun w2 hI6 H=>(A) (Z (R ((V) ((BZ) (iD hb1 (fun _ hb1=>?_) fun _ hb1=>?_))))))
  ·exact R ((AZ) (W2 hb1 ht1 hr))
  exact K (X ((V) ((AN hk2 hl1) ((A) (Z (I2 hb1 hs1 ⟨k1+1,y1,()⟩))))))
 exact CE (R ((V) ((AZ) (W1 hr))))
def z5R (rec_wszExpr:Expr→Int→Option Int)(a0:Expr)(a1:Int):Option Int:=grd (I64 (a1 - (a0.Symbol.size:Int))) <| if (a1 - (a0.Symbol.size:Int)) < 0 then some (-1) else grd (I64 ((a1 - (a0.Symbol.size:Int)) - (a0.Name.size:Int))) <| if ((a1 - (a0.Symbol.size:Int)) - (a0.Name.size:Int)) < 0 then some (-1) else (j0v rec_wszExpr a0.Args ((a1 - (a0.Symbol.size:Int)) - (a0.Name.size:Int))).bind fun y1=>if y1 < 0 then some (-1) else some y1
theorem j3e {rec_wszExpr:Expr→Int→Option Int}(ih_wszExpr:∀ {a0:Expr} {a1 r:Int},rec_wszExpr a0 a1=some r→∀ {F0:Nat→Prop} {w0:World} {ca0} (ha0:rd F0 w0 a0 ca0) (ha1:I64 a1),RT 141 #[ag ca0,.int .i64 a1] w0 fun v w=>v = .int .i64 r∧I64 r){a0}{a1 r}(hr:z5R rec_wszExpr a0 a1=some r){ca0}(ha0:rd F0 w0 a0 ca0)(ha1:I64 a1):RT 141 #[ag ca0,.int .i64 a1] w0 fun v w=>v = .int .i64 r∧I64 r:=by
 have H:=(HL.start F0 w0).argR ha0
 obtain⟨A1,n1,c1,rfl,hI1,hI2,hI3,hI4,hS1,hS2,H⟩:=q3q H 0
 refine (En Tryz.func141) ?_
 refine R ((BX H) fun b1 w1 H=>(A) (Z (R ((V) ((D 4) ((L H 0) ?_))))))
 refine q0b rfl rfl (q0w rfl Tryz.underlying9 rfl) ?_
 refine gg hr fun hg1 hr=>(BN (Bin.sub hg1)) ((A) (Z (Y (R ((V) ((BZ) (iD hr (fun _ hr=>?_) fun _ hr=>?_)))))))
 ·exact R ((AZ) (W1 hr))
 refine K (R ((V) ((D 5) ((L H 0) ?_))))
 refine q0b rfl rfl (q0w rfl Tryz.underlying9 rfl) ?_
 refine gg hr fun hg2 hr=>(BN (Bin.sub hg2)) ((A) (Z (Y (R ((V) ((BZ) (iD hr (fun _ hr=>?_) fun _ hr=>?_)))))))
 ·exact R ((AZ) (W1 hr))
 refine K (R ((D 6) ((L H 0) ((V) ?_))))
 refine bb hr fun y1 hy1 hr=>?_
 refine (CA k3i (j3d ih_wszExpr hy1 (rs H 1) hg2)) (cF' H fun w2 hI5 H=>(AZ) (Y (Y ?_)))
 refine q0a [(1,.int .i64 y1)] ⟨rfl,trivial⟩ fun σ=>?_
 have H:HL F0 [] w0 w2 [.R a0 (q2D a0 A1 n1 c1),.S a0.Args (.slice A1 n1 c1)] [.B b1 174 (q2D a0 A1 n1 c1)]:=H
 refine X ((V) ((BZ) (iD hr (fun _ hr=>?_) fun _ hr=>?_)))
 ·exact R ((AZ) (W1 hr))
 exact K (R ((V) ((AZ) (W1 hr))))
def z2l:Nat→Expr→Int→Option Int
  | 0,_,_=>none
  | n+1,a0,a1=>z5R (z2l n) a0 a1
def z3G (a0:Expr)(a1:Int):Option Int:=recO fun n=>z2l n a0 a1
theorem j3f (n:Nat):∀ {a0:Expr} {a1 r:Int},z2l n a0 a1=some r→∀ {F0:Nat→Prop} {w0:World} {ca0} (ha0:rd F0 w0 a0 ca0) (ha1:I64 a1),RT 141 #[ag ca0,.int .i64 a1] w0 fun v w=>v = .int .i64 r∧I64 r:=by
 induction n with
 | zero=>intro a0 a1 r hr; exact nomatch (show (none:Option Int)=some r from hr)
 | succ n ih=>intro a0 a1 r hr; exact j3e ih hr
theorem z6O {a0}{a1 r}(hr:z3G a0 a1=some r){ca0}(ha0:rd F0 w0 a0 ca0)(ha1:I64 a1):RT 141 #[ag ca0,.int .i64 a1] w0 fun v w=>v = .int .i64 r∧I64 r:=by
 obtain⟨n,hn⟩:=q4v hr
 exact j3f n hn ha0 ha1
def z2E (a0:Equation)(a1:Int):Option Int:=(z0R a0.At a1).bind fun y1=>if y1 < 0 then some (-1) else (z3G a0.Expr y1).bind fun y2=>if y2 < 0 then some (-1) else some y2
theorem z9Q {a0}{a1 r}(hr:z2E a0 a1=some r){ca0}(ha0:rd F0 w0 a0 ca0)(ha1:I64 a1):RT 107 #[ag ca0,.int .i64 a1] w0 fun v w=>v = .int .i64 r∧I64 r:=by
 have H:=(HL.start F0 w0).argR ha0
 obtain⟨A1,n1,c1,rfl,hI1,hS1,hI2,hI3,hI4,hI5,hS2,hS3,H⟩:=q8p H 0
 refine (En Tryz.func107) ?_
 refine R ((BX H) fun b1 w1 H=>(A) (Z (R ((D 0) ?_))))
 refine q0b rfl rfl (q0c rfl k1j k1k rfl (Blk.part (rb H 0) 0 2) rfl) ((V) ?_)
 refine bb hr fun y1 hy1 hr=>?_
 refine (CA k2Q (z7O hy1 (F0:=nF) ⟨rfl,hI1,hS1⟩ ha1)) (cF' H fun w2 hI6 H=>(A) (Z (Y (R ((V) ((BZ) (iD hr (fun _ hr=>?_) fun _ hr=>?_)))))))
 ·exact R ((AZ) (W1 hr))
 refine K (R ((D 2) ?_))
 refine q0b rfl rfl (q0c rfl j4V j4W rfl (Blk.part (rb H 0) 2 7) rfl) ((V) ?_)
 refine bb hr fun y2 hy2 hr=>?_
 refine (CA j8f (z6O hy2 (q2r.2 ⟨_,rfl,hI2,hI3,hI4,hI5,hS2,hS3,(rs H 1)⟩) hI6)) (cF' H fun w3 hI7 H=>(A) (Z (Y (R ((V) ((BZ) (iD hr (fun _ hr=>?_) fun _ hr=>?_)))))))
 ·exact R ((AZ) (W1 hr))
 exact K (R ((V) ((AZ) (W1 hr))))
def z3H:Nat→Equation→Int→Option (Int ⊕ Int):=fun k1 x1 s1=>(z2E x1 s1).bind fun y1=>if y1 < 0 then some (.inr (-1)) else some (.inl y1)
def z1S (a0:(List Equation))(a1:Int):Option Int:=grd (I64 (a1 - (a0.length:Int))) <| if (a1 - (a0.length:Int)) < 0 then some (-1) else (q2u z3H 0 a0 (a1 - (a0.length:Int))).bind <| onr (fun r1=>some r1) fun s1=>some s1
theorem z8G {a0}{a1 r}(hr:z1S a0 a1=some r){z0}(ha0:rdS F0 w0 a0 z0)(ha1:I64 a1):RT 66 #[z0,.int .i64 a1] w0 fun v w=>v = .int .i64 r∧I64 r:=by
 obtain⟨A0',n0',c0',rfl⟩:=ha0.form3
 have H:=(HL.start F0 w0).argS ha0
 refine (En Tryz.func66) ?_
 refine R ((A) (Z (R ((V) ((V) ((NI H 0) fun hl1=>?_))))))
 refine gg hr fun hg1 hr=>(BN (Bin.sub hg1)) ((A) (Z (Y (R ((V) ((BZ) (iD hr (fun _ hr=>?_) fun _ hr=>?_)))))))
 ·exact R ((AZ) (W1 hr))
 refine K (Y (R ((AZ) ?_)))
 refine bb hr fun q1 hq1 hr=>?_
 refine (lF hq1 (fun k1 s1 _=>[(0,.slice A0' n0' c0'),(1,.int .i64 s1),(5,zN k1)]) (fun s1 _ w=>I64 s1∧HL F0 [] w0 w [.S a0 (.slice A0' n0' c0')] []) ()) ?_
 rintro k1 s1 _ σ w1 hk1 hq1 ⟨hI1,H⟩
 refine Y (R ((V) ((V) ((NN (rs H 0)) ((BZ) ?_)))))
 refine (iF hq1 hr (fun hk2 x1 z1 hx1 hb1 hs1 ht1=>?_) fun hr=>?_)
 ·refine K (Y ?_)
  refine Bk (R ((V) ((V) ?_)))
  obtain⟨b1,ob1,cb1,A1,n1,c1,hvb1,hI2,hS1,hI3,hI4,hI5,hI6,hS2,hS3,H⟩:=q3P H 0 hx1
  refine (J 9 hvb1 hx1) ((LA H 1) ((V) ?_))
  refine bb hb1 fun y1 hy1 hb1=>?_
  refine (CA k2v (z9Q hy1 ⟨_,rfl,hI2,hS1,hI3,hI4,hI5,hI6,hS2,hS3,(rs H 3)⟩ hI1)) (cF' H fun w2 hI7 H=>(A) (Z (R ((V) ((BZ) (iD hb1 (fun _ hb1=>?_) fun _ hb1=>?_))))))
  ·exact R ((AZ) (W2 hb1 ht1 hr))
  exact K (X ((V) ((AN hk2 hl1) ((A) (Z (I2 hb1 hs1 ⟨k1+1,y1,()⟩))))))
 exact CE (R ((V) ((AZ) (W1 hr))))
def q9m (a0:Contribution)(a1:Int):Option Int:=grd (I64 (a1 - (a0.Symbol.size:Int))) <| if (a1 - (a0.Symbol.size:Int)) < 0 then some (-1) else grd (I64 ((a1 - (a0.Symbol.size:Int)) - (a0.Name.size:Int))) <| if ((a1 - (a0.Symbol.size:Int)) - (a0.Name.size:Int)) < 0 then some (-1) else (z3G a0.Target ((a1 - (a0.Symbol.size:Int)) - (a0.Name.size:Int))).bind fun y1=>if y1 < 0 then some (-1) else (z3G a0.Value y1).bind fun y2=>if y2 < 0 then some (-1) else some y2
theorem z5S {a0}{a1 r}(hr:q9m a0 a1=some r){ca0}(ha0:rd F0 w0 a0 ca0)(ha1:I64 a1):RT 108 #[ag ca0,.int .i64 a1] w0 fun v w=>v = .int .i64 r∧I64 r:=by
 have H:=(HL.start F0 w0).argR ha0
 obtain⟨A1,n1,c1,A2,n2,c2,rfl,hS1,hS2,hI1,hI2,hI3,hI4,hS3,hS4,hI5,hI6,hI7,hI8,hS5,hS6,H⟩:=q8C H 0
 let d1:=q4u a0 A1 n1 c1 A2 n2 c2
 refine (En Tryz.func108) ?_
 refine R ((BX H) fun b1 w1 H=>(A) (Z (R ((V) ((D 0) ((L H 0) ?_))))))
 refine q0b rfl rfl (q0w rfl Tryz.underlying9 rfl) ?_
 refine gg hr fun hg1 hr=>(BN (Bin.sub hg1)) ((A) (Z (Y (R ((V) ((BZ) (iD hr (fun _ hr=>?_) fun _ hr=>?_)))))))
 ·exact R ((AZ) (W1 hr))
 refine K (R ((V) ((D 1) ((L H 0) ?_))))
 refine q0b rfl rfl (q0w rfl Tryz.underlying9 rfl) ?_
 refine gg hr fun hg2 hr=>(BN (Bin.sub hg2)) ((A) (Z (Y (R ((V) ((BZ) (iD hr (fun _ hr=>?_) fun _ hr=>?_)))))))
 ·exact R ((AZ) (W1 hr))
 refine K (R ((D 2) ?_))
 refine q0b rfl rfl (q0c rfl j4V j4W rfl (Blk.part (rb H 0) 2 7) rfl) ((V) ?_)
 refine bb hr fun y1 hy1 hr=>?_
 refine (CA j8f (z6O hy1 (q2r.2 ⟨_,rfl,hI1,hI2,hI3,hI4,hS3,hS4,(rs H 1)⟩) hg2)) (cF' H fun w2 hI9 H=>(AZ) (Y (Y ?_)))
 refine q0a [(1,.int .i64 y1),(2,pB b1)] ⟨rfl,rfl,trivial⟩ fun σ=>?_
 have H:HL F0 [] w0 w2 [.R a0 d1,.S a0.Target.Args (.slice A1 n1 c1),.S a0.Value.Args (.slice A2 n2 c2)] [.B b1 179 d1]:=H
 refine X ((V) ((BZ) (iD hr (fun _ hr=>?_) fun _ hr=>?_)))
 ·exact R ((AZ) (W1 hr))
 refine K (R ((D 9) ?_))
 refine q0b rfl rfl (q0c rfl j4V j4W rfl (Blk.part (rb H 0) 9 7) rfl) ((V) ?_)
 refine bb hr fun y2 hy2 hr=>?_
 refine (CA j8f (z6O hy2 (q2r.2 ⟨_,rfl,hI5,hI6,hI7,hI8,hS5,hS6,(rs H 2)⟩) hI9)) (cF' H fun w3 hI10 H=>(A) (Z (Y (R ((V) ((BZ) (iD hr (fun _ hr=>?_) fun _ hr=>?_)))))))
 ·exact R ((AZ) (W1 hr))
 exact K (R ((V) ((AZ) (W1 hr))))
def z0S:Nat→Contribution→Int→Option (Int ⊕ Int):=fun k1 x1 s1=>(q9m x1 s1).bind fun y1=>if y1 < 0 then some (.inr (-1)) else some (.inl y1)
def q8D (a0:(List Contribution))(a1:Int):Option Int:=grd (I64 (a1 - (a0.length:Int))) <| if (a1 - (a0.length:Int)) < 0 then some (-1) else (q2u z0S 0 a0 (a1 - (a0.length:Int))).bind <| onr (fun r1=>some r1) fun s1=>some s1
theorem z5m {a0}{a1 r}(hr:q8D a0 a1=some r){z0}(ha0:rdS F0 w0 a0 z0)(ha1:I64 a1):RT 67 #[z0,.int .i64 a1] w0 fun v w=>v = .int .i64 r∧I64 r:=by
 obtain⟨A0',n0',c0',rfl⟩:=ha0.form3
 have H:=(HL.start F0 w0).argS ha0
 refine (En Tryz.func67) ?_
 refine R ((A) (Z (R ((V) ((V) ((NI H 0) fun hl1=>?_))))))
 refine gg hr fun hg1 hr=>(BN (Bin.sub hg1)) ((A) (Z (Y (R ((V) ((BZ) (iD hr (fun _ hr=>?_) fun _ hr=>?_)))))))
 ·exact R ((AZ) (W1 hr))
 refine K (Y (R ((AZ) ?_)))
 refine bb hr fun q1 hq1 hr=>?_
 refine (lF hq1 (fun k1 s1 _=>[(0,.slice A0' n0' c0'),(1,.int .i64 s1),(5,zN k1)]) (fun s1 _ w=>I64 s1∧HL F0 [] w0 w [.S a0 (.slice A0' n0' c0')] []) ()) ?_
 rintro k1 s1 _ σ w1 hk1 hq1 ⟨hI1,H⟩
 refine Y (R ((V) ((V) ((NN (rs H 0)) ((BZ) ?_)))))
 refine (iF hq1 hr (fun hk2 x1 z1 hx1 hb1 hs1 ht1=>?_) fun hr=>?_)
 ·refine K (Y ?_)
  refine Bk (R ((V) ((V) ?_)))
  obtain⟨b1,ob1,cb1,A1,n1,c1,A2,n2,c2,hvb1,hS1,hS2,hI2,hI3,hI4,hI5,hS3,hS4,hI6,hI7,hI8,hI9,hS5,hS6,H⟩:=q3V H 0 hx1
  refine (J 16 hvb1 hx1) ((LA H 1) ((V) ?_))
  refine bb hb1 fun y1 hy1 hb1=>?_
  refine (CA k2w (z5S hy1 ⟨_,_,rfl,hS1,hS2,hI2,hI3,hI4,hI5,hS3,hS4,hI6,hI7,hI8,hI9,hS5,hS6,(rs H 3),(rs H 4)⟩ hI1)) (cF' H fun w2 hI10 H=>(A) (Z (R ((V) ((BZ) (iD hb1 (fun _ hb1=>?_) fun _ hb1=>?_))))))
  ·exact R ((AZ) (W2 hb1 ht1 hr))
  exact K (X ((V) ((AN hk2 hl1) ((A) (Z (I2 hb1 hs1 ⟨k1+1,y1,()⟩))))))
 exact CE (R ((V) ((AZ) (W1 hr))))
def z8H (a0:Rule)(a1:Int):Option Int:=grd (I64 (a1 - (a0.Name.size:Int))) <| if (a1 - (a0.Name.size:Int)) < 0 then some (-1) else grd (I64 ((a1 - (a0.Name.size:Int)) - (a0.Left.size:Int))) <| if ((a1 - (a0.Name.size:Int)) - (a0.Left.size:Int)) < 0 then some (-1) else (q9W a0.Right ((a1 - (a0.Name.size:Int)) - (a0.Left.size:Int))).bind fun y1=>if y1 < 0 then some (-1) else (z1S a0.Equations y1).bind fun y2=>if y2 < 0 then some (-1) else (q8D a0.Contributions y2).bind fun y3=>if y3 < 0 then some (-1) else some y3
theorem j4Z {a0}{a1 r}(hr:z8H a0 a1=some r){ca0}(ha0:rd F0 w0 a0 ca0)(ha1:I64 a1):RT 34 #[ag ca0,.int .i64 a1] w0 fun v w=>v = .int .i64 r∧I64 r:=by
 have H:=(HL.start F0 w0).argR ha0
 obtain⟨A1,n1,c1,A2,n2,c2,A3,n3,c3,rfl,hS1,hS2,H⟩:=q3j H 0
 let d1:=q4o a0 A1 n1 c1 A2 n2 c2 A3 n3 c3
 refine (En Tryz.func34) ?_
 refine R ((BX H) fun b1 w1 H=>(A) (Z (R ((V) ((D 0) ((L H 0) ?_))))))
 refine q0b rfl rfl (q0w rfl Tryz.underlying9 rfl) ?_
 refine gg hr fun hg1 hr=>(BN (Bin.sub hg1)) ((A) (Z (Y (R ((V) ((BZ) (iD hr (fun _ hr=>?_) fun _ hr=>?_)))))))
 ·exact R ((AZ) (W1 hr))
 refine K (R ((V) ((D 1) ((L H 0) ?_))))
 refine q0b rfl rfl (q0w rfl Tryz.underlying9 rfl) ?_
 refine gg hr fun hg2 hr=>(BN (Bin.sub hg2)) ((A) (Z (Y (R ((V) ((BZ) (iD hr (fun _ hr=>?_) fun _ hr=>?_)))))))
 ·exact R ((AZ) (W1 hr))
 refine K (R ((D 2) ((L H 0) ((V) ?_))))
 refine bb hr fun y1 hy1 hr=>?_
 refine (CA ok65 (z2D hy1 (rs H 1) hg2)) (cF' H fun w2 hI1 H=>(AZ) (Y (Y ?_)))
 refine q0a [(1,.int .i64 y1),(2,pB b1)] ⟨rfl,rfl,trivial⟩ fun σ=>?_
 have H:HL F0 [] w0 w2 [.R a0 d1,.S a0.Right (.slice A1 n1 c1),.S a0.Equations (.slice A2 n2 c2),.S a0.Contributions (.slice A3 n3 c3)] [.B b1 82 d1]:=H
 refine X ((V) ((BZ) (iD hr (fun _ hr=>?_) fun _ hr=>?_)))
 ·exact R ((AZ) (W1 hr))
 refine K (R ((D 4) ((L H 0) ((V) ?_))))
 refine bb hr fun y2 hy2 hr=>?_
 refine (CA ok66 (z8G hy2 (rs H 2) hI1)) (cF' H fun w3 hI2 H=>(A) (Z (Y (R ((V) ((BZ) (iD hr (fun _ hr=>?_) fun _ hr=>?_)))))))
 ·exact R ((AZ) (W1 hr))
 refine K (R ((D 5) ((L H 0) ((V) ?_))))
 refine bb hr fun y3 hy3 hr=>?_
 refine (CA ok67 (z5m hy3 (rs H 3) hI2)) (cF' H fun w4 hI3 H=>(A) (Z (Y (R ((V) ((BZ) (iD hr (fun _ hr=>?_) fun _ hr=>?_)))))))
 ·exact R ((AZ) (W1 hr))
 exact K (R ((V) ((AZ) (W1 hr))))
def z8I:Nat→Rule→Int→Option (Int ⊕ Int):=fun k1 x1 s1=>(z8H x1 s1).bind fun y1=>if y1 < 0 then some (.inr (-1)) else some (.inl y1)
def z6P (a0:(List Rule))(a1:Int):Option Int:=grd (I64 (a1 - (a0.length:Int))) <| if (a1 - (a0.length:Int)) < 0 then some (-1) else (q2u z8I 0 a0 (a1 - (a0.length:Int))).bind <| onr (fun r1=>some r1) fun s1=>some s1
theorem j3g {a0}{a1 r}(hr:z6P a0 a1=some r){z0}(ha0:rdS F0 w0 a0 z0)(ha1:I64 a1):RT 16 #[z0,.int .i64 a1] w0 fun v w=>v = .int .i64 r∧I64 r:=by
 obtain⟨A0',n0',c0',rfl⟩:=ha0.form3
 have H:=(HL.start F0 w0).argS ha0
 refine (En Tryz.func16) ?_
 refine R ((A) (Z (R ((V) ((V) ((NI H 0) fun hl1=>?_))))))
 refine gg hr fun hg1 hr=>(BN (Bin.sub hg1)) ((A) (Z (Y (R ((V) ((BZ) (iD hr (fun _ hr=>?_) fun _ hr=>?_)))))))
 ·exact R ((AZ) (W1 hr))
 refine K (Y (R ((AZ) ?_)))
 refine bb hr fun q1 hq1 hr=>?_
 refine (lF hq1 (fun k1 s1 _=>[(0,.slice A0' n0' c0'),(1,.int .i64 s1),(5,zN k1)]) (fun s1 _ w=>I64 s1∧HL F0 [] w0 w [.S a0 (.slice A0' n0' c0')] []) ()) ?_
 rintro k1 s1 _ σ w1 hk1 hq1 ⟨hI1,H⟩
 refine Y (R ((V) ((V) ((NN (rs H 0)) ((BZ) ?_)))))
 refine (iF hq1 hr (fun hk2 x1 z1 hx1 hb1 hs1 ht1=>?_) fun hr=>?_)
 ·refine K (Y ?_)
  refine Bk (R ((V) ((V) ?_)))
  obtain⟨b1,ob1,cb1,A1,n1,c1,A2,n2,c2,A3,n3,c3,hvb1,hS1,hS2,H⟩:=q6N H 0 hx1
  refine (J 6 hvb1 hx1) ((LA H 1) ((V) ?_))
  refine bb hb1 fun y1 hy1 hb1=>?_
  refine (CA ok34 (j4Z hy1 ⟨_,_,_,rfl,hS1,hS2,(rs H 3),(rs H 4),(rs H 5)⟩ hI1)) (cF' H fun w2 hI2 H=>(A) (Z (R ((V) ((BZ) (iD hb1 (fun _ hb1=>?_) fun _ hb1=>?_))))))
  ·exact R ((AZ) (W2 hb1 ht1 hr))
  exact K (X ((V) ((AN hk2 hl1) ((A) (Z (I2 hb1 hs1 ⟨k1+1,y1,()⟩))))))
 exact CE (R ((V) ((AZ) (W1 hr))))
def z3I (a0:Grammar)(a1:Int):Option Int:=(z3F a0.Symbols a1).bind fun y1=>if y1 < 0 then some (-1) else (z6P a0.Rules y1).bind fun y2=>if y2 < 0 then some (-1) else some y2
theorem j0V {a0}{a1 r}(hr:z3I a0 a1=some r){ca0}(ha0:rd F0 w0 a0 ca0)(ha1:I64 a1):RT 4 #[ag ca0,.int .i64 a1] w0 fun v w=>v = .int .i64 r∧I64 r:=by
 have H:=(HL.start F0 w0).argR ha0
 obtain⟨A1,n1,c1,A2,n2,c2,rfl,H⟩:=q2s H 0
 refine (En Tryz.func4) ?_
 refine R ((BX H) fun b1 w1 H=>(A) (Z (R ((D 0) ((L H 0) ((V) ?_))))))
 refine bb hr fun y1 hy1 hr=>?_
 refine (CA ok15 (j0U hy1 (rs H 1) ha1)) (cF' H fun w2 hI1 H=>(A) (Z (Y (R ((V) ((BZ) (iD hr (fun _ hr=>?_) fun _ hr=>?_)))))))
 ·exact R ((AZ) (W1 hr))
 refine K (R ((D 1) ((L H 0) ((V) ?_))))
 refine bb hr fun y2 hy2 hr=>?_
 refine (CA ok16 (j3g hy2 (rs H 2) hI1)) (cF' H fun w3 hI2 H=>(A) (Z (Y (R ((V) ((BZ) (iD hr (fun _ hr=>?_) fun _ hr=>?_)))))))
 ·exact R ((AZ) (W1 hr))
 exact K (R ((V) ((AZ) (W1 hr))))
def z6Q (a0:Phase)(a1:Int):Option Int:=(q9W a0.Inherited a1).bind fun y1=>if y1 < 0 then some (-1) else (q9W a0.Synthesized y1).bind fun y2=>if y2 < 0 then some (-1) else some y2
theorem j3h {a0}{a1 r}(hr:z6Q a0 a1=some r){ca0}(ha0:rd F0 w0 a0 ca0)(ha1:I64 a1):RT 35 #[ag ca0,.int .i64 a1] w0 fun v w=>v = .int .i64 r∧I64 r:=by
 have H:=(HL.start F0 w0).argR ha0
 obtain⟨A1,n1,c1,A2,n2,c2,rfl,H⟩:=z8n H 0
 refine (En Tryz.func35) ?_
 refine R ((BX H) fun b1 w1 H=>(A) (Z (R ((D 0) ((L H 0) ((V) ?_))))))
 refine bb hr fun y1 hy1 hr=>?_
 refine (CA ok65 (z2D hy1 (rs H 1) ha1)) (cF' H fun w2 hI1 H=>(A) (Z (Y (R ((V) ((BZ) (iD hr (fun _ hr=>?_) fun _ hr=>?_)))))))
 ·exact R ((AZ) (W1 hr))
 refine K (R ((D 1) ((L H 0) ((V) ?_))))
 refine bb hr fun y2 hy2 hr=>?_
 refine (CA ok65 (z2D hy2 (rs H 2) hI1)) (cF' H fun w3 hI2 H=>(A) (Z (Y (R ((V) ((BZ) (iD hr (fun _ hr=>?_) fun _ hr=>?_)))))))
 ·exact R ((AZ) (W1 hr))
 exact K (R ((V) ((AZ) (W1 hr))))
def z7v:Nat→Phase→Int→Option (Int ⊕ Int):=fun k1 x1 s1=>(z6Q x1 s1).bind fun y1=>if y1 < 0 then some (.inr (-1)) else some (.inl y1)
def z5n (a0:(List Phase))(a1:Int):Option Int:=grd (I64 (a1 - (a0.length:Int))) <| if (a1 - (a0.length:Int)) < 0 then some (-1) else (q2u z7v 0 a0 (a1 - (a0.length:Int))).bind <| onr (fun r1=>some r1) fun s1=>some s1
theorem j2c {a0}{a1 r}(hr:z5n a0 a1=some r){z0}(ha0:rdS F0 w0 a0 z0)(ha1:I64 a1):RT 17 #[z0,.int .i64 a1] w0 fun v w=>v = .int .i64 r∧I64 r:=by
 obtain⟨A0',n0',c0',rfl⟩:=ha0.form3
 have H:=(HL.start F0 w0).argS ha0
 refine (En Tryz.func17) ?_
 refine R ((A) (Z (R ((V) ((V) ((NI H 0) fun hl1=>?_))))))
 refine gg hr fun hg1 hr=>(BN (Bin.sub hg1)) ((A) (Z (Y (R ((V) ((BZ) (iD hr (fun _ hr=>?_) fun _ hr=>?_)))))))
 ·exact R ((AZ) (W1 hr))
 refine K (Y (R ((AZ) ?_)))
 refine bb hr fun q1 hq1 hr=>?_
 refine (lF hq1 (fun k1 s1 _=>[(0,.slice A0' n0' c0'),(1,.int .i64 s1),(5,zN k1)]) (fun s1 _ w=>I64 s1∧HL F0 [] w0 w [.S a0 (.slice A0' n0' c0')] []) ()) ?_
 rintro k1 s1 _ σ w1 hk1 hq1 ⟨hI1,H⟩
 refine Y (R ((V) ((V) ((NN (rs H 0)) ((BZ) ?_)))))
 refine (iF hq1 hr (fun hk2 x1 z1 hx1 hb1 hs1 ht1=>?_) fun hr=>?_)
 ·refine K (Y ?_)
  refine Bk (R ((V) ((V) ?_)))
  obtain⟨b1,ob1,cb1,A1,n1,c1,A2,n2,c2,hvb1,H⟩:=q5M H 0 hx1
  refine (J 2 hvb1 hx1) ((LA H 1) ((V) ?_))
  refine bb hb1 fun y1 hy1 hb1=>?_
  refine (CA ok35 (j3h hy1 ⟨_,_,rfl,(rs H 3),(rs H 4)⟩ hI1)) (cF' H fun w2 hI2 H=>(A) (Z (R ((V) ((BZ) (iD hb1 (fun _ hb1=>?_) fun _ hb1=>?_))))))
  ·exact R ((AZ) (W2 hb1 ht1 hr))
  exact K (X ((V) ((AN hk2 hl1) ((A) (Z (I2 hb1 hs1 ⟨k1+1,y1,()⟩))))))
 exact CE (R ((V) ((AZ) (W1 hr))))
def z5T:Nat→(List Phase)→Int→Option (Int ⊕ Int):=fun k1 x1 s1=>(z5n x1 s1).bind fun y1=>if y1 < 0 then some (.inr (-1)) else some (.inl y1)
def z3J (a0:(List (List Phase)))(a1:Int):Option Int:=grd (I64 (a1 - (a0.length:Int))) <| if (a1 - (a0.length:Int)) < 0 then some (-1) else (q2u z5T 0 a0 (a1 - (a0.length:Int))).bind <| onr (fun r1=>some r1) fun s1=>some s1
theorem j0W {a0}{a1 r}(hr:z3J a0 a1=some r){z0}(ha0:rdS F0 w0 a0 z0)(ha1:I64 a1):RT 5 #[z0,.int .i64 a1] w0 fun v w=>v = .int .i64 r∧I64 r:=by
 obtain⟨A0',n0',c0',rfl⟩:=ha0.form3
 have H:=(HL.start F0 w0).argS ha0
 refine (En Tryz.func5) ?_
 refine R ((A) (Z (R ((V) ((V) ((NI H 0) fun hl1=>?_))))))
 refine gg hr fun hg1 hr=>(BN (Bin.sub hg1)) ((A) (Z (Y (R ((V) ((BZ) (iD hr (fun _ hr=>?_) fun _ hr=>?_)))))))
 ·exact R ((AZ) (W1 hr))
 refine K (Y (R ((AZ) ?_)))
 refine bb hr fun q1 hq1 hr=>?_
 refine (lF hq1 (fun k1 s1 _=>[(0,.slice A0' n0' c0'),(1,.int .i64 s1),(5,zN k1)]) (fun s1 _ w=>I64 s1∧HL F0 [] w0 w [.S a0 (.slice A0' n0' c0')] []) ()) ?_
 rintro k1 s1 _ σ w1 hk1 hq1 ⟨hI1,H⟩
 refine Y (R ((V) ((V) ((NN (rs H 0)) ((BZ) ?_)))))
 refine (iF hq1 hr (fun hk2 x1 z1 hx1 hb1 hs1 ht1=>?_) fun hr=>?_)
 ·refine K (Y ?_)
  refine Bk (R ((V) ((V) ?_)))
  obtain⟨b1,ob1,cb1,A1,n1,c1,hvb1,H⟩:=z5O H 0 hx1
  refine (J 1 hvb1 hx1) ((L0 H 1) ((V) ?_))
  refine bb hb1 fun y1 hy1 hb1=>?_
  refine (CA ok17 (j2c hy1 (rs H 3) hI1)) (cF' H fun w2 hI2 H=>(A) (Z (R ((V) ((BZ) (iD hb1 (fun _ hb1=>?_) fun _ hb1=>?_))))))
  ·exact R ((AZ) (W2 hb1 ht1 hr))
  exact K (X ((V) ((AN hk2 hl1) ((A) (Z (I2 hb1 hs1 ⟨k1+1,y1,()⟩))))))
 exact CE (R ((V) ((AZ) (W1 hr))))
def z8J (a0:Step)(a1:Int):Option Int:=grd (I64 (a1 - (a0.Name.size:Int))) <| if (a1 - (a0.Name.size:Int)) < 0 then some (-1) else some (a1 - (a0.Name.size:Int))
theorem j5a {a0}{a1 r}(hr:z8J a0 a1=some r){ca0}(ha0:rd F0 w0 a0 ca0)(ha1:I64 a1):RT 68 #[ag ca0,.int .i64 a1] w0 fun v w=>v = .int .i64 r∧I64 r:=by
 have H:=(HL.start F0 w0).argR ha0
 obtain⟨rfl,hI1,hI2,hI3,hS1,H⟩:=j0N H 0
 refine (En Tryz.func68) ?_
 refine R ((BX H) fun b1 w1 H=>(A) (Z (R ((V) ((D 3) ((L H 0) ?_))))))
 refine q0b rfl rfl (q0w rfl Tryz.underlying9 rfl) ?_
 refine gg hr fun hg1 hr=>(BN (Bin.sub hg1)) ((A) (Z (Y (R ((V) ((BZ) (iD hr (fun _ hr=>?_) fun _ hr=>?_)))))))
 ·exact R ((AZ) (W1 hr))
 exact K (R ((V) ((AZ) (W1 hr))))
def z8K:Nat→Step→Int→Option (Int ⊕ Int):=fun k1 x1 s1=>(z8J x1 s1).bind fun y1=>if y1 < 0 then some (.inr (-1)) else some (.inl y1)
def z6R (a0:(List Step))(a1:Int):Option Int:=grd (I64 (a1 - (a0.length:Int))) <| if (a1 - (a0.length:Int)) < 0 then some (-1) else (q2u z8K 0 a0 (a1 - (a0.length:Int))).bind <| onr (fun r1=>some r1) fun s1=>some s1
theorem j3i {a0}{a1 r}(hr:z6R a0 a1=some r){z0}(ha0:rdS F0 w0 a0 z0)(ha1:I64 a1):RT 36 #[z0,.int .i64 a1] w0 fun v w=>v = .int .i64 r∧I64 r:=by
 obtain⟨A0',n0',c0',rfl⟩:=ha0.form3
 have H:=(HL.start F0 w0).argS ha0
 refine (En Tryz.func36) ?_
 refine R ((A) (Z (R ((V) ((V) ((NI H 0) fun hl1=>?_))))))
 refine gg hr fun hg1 hr=>(BN (Bin.sub hg1)) ((A) (Z (Y (R ((V) ((BZ) (iD hr (fun _ hr=>?_) fun _ hr=>?_)))))))
 ·exact R ((AZ) (W1 hr))
 refine K (Y (R ((AZ) ?_)))
 refine bb hr fun q1 hq1 hr=>?_
 refine (lF hq1 (fun k1 s1 _=>[(0,.slice A0' n0' c0'),(1,.int .i64 s1),(5,zN k1)]) (fun s1 _ w=>I64 s1∧HL F0 [] w0 w [.S a0 (.slice A0' n0' c0')] []) ()) ?_
 rintro k1 s1 _ σ w1 hk1 hq1 ⟨hI1,H⟩
 refine Y (R ((V) ((V) ((NN (rs H 0)) ((BZ) ?_)))))
 refine (iF hq1 hr (fun hk2 x1 z1 hx1 hb1 hs1 ht1=>?_) fun hr=>?_)
 ·refine K (Y ?_)
  refine Bk (R ((V) ((V) ?_)))
  obtain⟨b1,ob1,cb1,hvb1,hI2,hI3,hI4,hS1,H⟩:=z4z H 0 hx1
  refine (J 4 hvb1 hx1) ((LA H 1) ((V) ?_))
  refine bb hb1 fun y1 hy1 hb1=>?_
  refine (CA ok68 (j5a hy1 (F0:=nF) ⟨rfl,hI2,hI3,hI4,hS1⟩ hI1)) (cF' H fun w2 hI5 H=>(A) (Z (R ((V) ((BZ) (iD hb1 (fun _ hb1=>?_) fun _ hb1=>?_))))))
  ·exact R ((AZ) (W2 hb1 ht1 hr))
  exact K (X ((V) ((AN hk2 hl1) ((A) (Z (I2 hb1 hs1 ⟨k1+1,y1,()⟩))))))
 exact CE (R ((V) ((AZ) (W1 hr))))
def z2F (a0:RulePlan)(a1:Int):Option Int:=grd (I64 (a1 - (a0.Rule.size:Int))) <| if (a1 - (a0.Rule.size:Int)) < 0 then some (-1) else (z6R a0.Steps (a1 - (a0.Rule.size:Int))).bind fun y1=>if y1 < 0 then some (-1) else some y1
theorem z9R {a0}{a1 r}(hr:z2F a0 a1=some r){ca0}(ha0:rd F0 w0 a0 ca0)(ha1:I64 a1):RT 18 #[ag ca0,.int .i64 a1] w0 fun v w=>v = .int .i64 r∧I64 r:=by
 have H:=(HL.start F0 w0).argR ha0
 obtain⟨A1,n1,c1,rfl,hS1,H⟩:=z2B H 0
 refine (En Tryz.func18) ?_
 refine R ((BX H) fun b1 w1 H=>(A) (Z (R ((V) ((D 0) ((L H 0) ?_))))))
 refine q0b rfl rfl (q0w rfl Tryz.underlying9 rfl) ?_
 refine gg hr fun hg1 hr=>(BN (Bin.sub hg1)) ((A) (Z (Y (R ((V) ((BZ) (iD hr (fun _ hr=>?_) fun _ hr=>?_)))))))
 ·exact R ((AZ) (W1 hr))
 refine K (R ((D 1) ((L H 0) ((V) ?_))))
 refine bb hr fun y1 hy1 hr=>?_
 refine (CA ok36 (j3i hy1 (rs H 1) hg1)) (cF' H fun w2 hI1 H=>(A) (Z (Y (R ((V) ((BZ) (iD hr (fun _ hr=>?_) fun _ hr=>?_)))))))
 ·exact R ((AZ) (W1 hr))
 exact K (R ((V) ((AZ) (W1 hr))))
def z3K:Nat→RulePlan→Int→Option (Int ⊕ Int):=fun k1 x1 s1=>(z2F x1 s1).bind fun y1=>if y1 < 0 then some (.inr (-1)) else some (.inl y1)
def z1T (a0:(List RulePlan))(a1:Int):Option Int:=grd (I64 (a1 - (a0.length:Int))) <| if (a1 - (a0.length:Int)) < 0 then some (-1) else (q2u z3K 0 a0 (a1 - (a0.length:Int))).bind <| onr (fun r1=>some r1) fun s1=>some s1
theorem z8L {a0}{a1 r}(hr:z1T a0 a1=some r){z0}(ha0:rdS F0 w0 a0 z0)(ha1:I64 a1):RT 6 #[z0,.int .i64 a1] w0 fun v w=>v = .int .i64 r∧I64 r:=by
 obtain⟨A0',n0',c0',rfl⟩:=ha0.form3
 have H:=(HL.start F0 w0).argS ha0
 refine (En Tryz.func6) ?_
 refine R ((A) (Z (R ((V) ((V) ((NI H 0) fun hl1=>?_))))))
 refine gg hr fun hg1 hr=>(BN (Bin.sub hg1)) ((A) (Z (Y (R ((V) ((BZ) (iD hr (fun _ hr=>?_) fun _ hr=>?_)))))))
 ·exact R ((AZ) (W1 hr))
 refine K (Y (R ((AZ) ?_)))
 refine bb hr fun q1 hq1 hr=>?_
 refine (lF hq1 (fun k1 s1 _=>[(0,.slice A0' n0' c0'),(1,.int .i64 s1),(5,zN k1)]) (fun s1 _ w=>I64 s1∧HL F0 [] w0 w [.S a0 (.slice A0' n0' c0')] []) ()) ?_
 rintro k1 s1 _ σ w1 hk1 hq1 ⟨hI1,H⟩
 refine Y (R ((V) ((V) ((NN (rs H 0)) ((BZ) ?_)))))
 refine (iF hq1 hr (fun hk2 x1 z1 hx1 hb1 hs1 ht1=>?_) fun hr=>?_)
 ·refine K (Y ?_)
  refine Bk (R ((V) ((V) ?_)))
  obtain⟨b1,ob1,cb1,A1,n1,c1,hvb1,hS1,H⟩:=q8x H 0 hx1
  refine (J 2 hvb1 hx1) ((LA H 1) ((V) ?_))
  refine bb hb1 fun y1 hy1 hb1=>?_
  refine (CA ok18 (z9R hy1 ⟨_,rfl,hS1,(rs H 3)⟩ hI1)) (cF' H fun w2 hI2 H=>(A) (Z (R ((V) ((BZ) (iD hb1 (fun _ hb1=>?_) fun _ hb1=>?_))))))
  ·exact R ((AZ) (W2 hb1 ht1 hr))
  exact K (X ((V) ((AN hk2 hl1) ((A) (Z (I2 hb1 hs1 ⟨k1+1,y1,()⟩))))))
 exact CE (R ((V) ((AZ) (W1 hr))))
def z1U (a0:Attribute):Option Attribute:=some a0
theorem z8M {a0 r}(hr:z1U a0=some r){ca0}(ha0:rd F0 w0 a0 ca0):RT 116 #[ag ca0] w0 fun v w=>v = .agg #[.string r.Name,.int .i64 r.Type_,.int .i64 r.Mode,.bool r.Circular]∧r.Name.size≤9223372036854775807∧I64 r.Type_∧I64 r.Mode:=by
 have H:=(HL.start F0 w0).argR ha0
 obtain⟨rfl,hS1,hI1,hI2,H⟩:=q4Z H 0
 refine (En Tryz.func116) ?_
 refine R ((BX H) fun b1 w1 H=>(AH ze91 H) fun b2 w2 H=>Z (R ((AH ze91 H) fun b3 w3 H=>Z (R ((D 0) ((L H 0) ((D 0) ((SB H 2) fun w4 H=>Z (R ((D 1) ((L H 0) ((D 1) ((SB H 2) fun w5 H=>Z (R ((D 2) ((L H 0) ((D 2) ((SB H 2) fun w6 H=>Z (R ((D 3) ((L H 0) ((D 3) ((SB H 2) fun w7 H=>Z (R ((LB H 2) ((SB H 1) fun w8 H=>Z (CR ?_)))))))))))))))))))))))))))
 obtain rfl:=sm hr
 exact⟨_,resC rfl ag91 sz91 rfl rfl (ab H 1) rfl,H.ext0,rfl,hS1,hI1,hI2⟩
def z7P:Nat→Attribute→(List Attribute)→Option (List Attribute):=fun k1 x1 s1=>(z1U x1).bind fun y1=>(s1[k1]?).bind fun x2=>some (List.set s1 k1 y1)
def z0T (a0:(List Attribute)):Option (List Attribute):=grd (0≤(a0.length:Int)∧(a0.length:Int)*40≤281474976710656∧(a0.length:Int)≤9223372036854775807) <| (q2J z7P 0 a0 (List.replicate a0.length (⟨(⟨#[]⟩:ByteArray),(0:Int),(0:Int),false⟩:Attribute))).bind fun s1=>some s1
theorem z7Q {a0 r}(hr:z0T a0=some r){z0}(ha0:rdS F0 w0 a0 z0):RT 76 #[z0] w0 fun v w=>∃ A0 n0 c0,v=(.slice A0 n0 c0)∧HL F0 [] w0 w [] [.O 91 r (.slice A0 n0 c0)]:=by
 obtain⟨A0',n0',c0',rfl⟩:=ha0.form3
 have H:=(HL.start F0 w0).argS ha0
 refine (En Tryz.func76) ?_
 refine R ((A) (Z (R ((V) ((NI H 0) fun hl1=>?_)))))
 refine gg hr fun hg1 hr=>?_
 refine q0B (x:=(⟨eB,(0:Int),(0:Int),false⟩:Attribute)) rfl rfl rfl el87 sz91 by91 ze91 (fun _=>⟨rfl,dI,dI,dI,rfl⟩) rfl rfl hg1 H fun A1 n1 c1 w1 H=>(A) (Z (Y (R ((AZ) ?_))))
 refine bb hr fun q1 hq1 hr=>?_
 refine (lE hq1 (fun k1 s1 _=>[(0,.slice A0' n0' c0'),(3,.slice A1 n1 c1),(4,zN k1)]) (fun s1 _ w=>HL F0 [] w0 w [.S a0 (.slice A0' n0' c0')] [.O 91 s1 (.slice A1 n1 c1)]) ()) ?_
 rintro k1 s1 _ σ w2 hk1 hq1 H
 refine Y (R ((V) ((V) ((NN (rs H 0)) ((BZ) ?_)))))
 refine (iE hq1 (fun hk2 x1 z1 hx1 hb1 hq1=>?_) fun e=>?_)
 ·refine K (Y ?_)
  refine Bk (X ((V) ((V) ((V) ((V) ?_)))))
  obtain⟨b1,ob1,cb1,hvb1,hS1,hI1,hI2,H⟩:=q4w H 0 hx1
  refine (J 4 hvb1 hx1) ((LA H 1) ?_)
  refine bb hb1 fun y1 hy1 hb1=>?_
  refine (CA k2A (z8M hy1 (F0:=nF) ⟨rfl,hS1,hI1,hI2⟩)) ?_
  rintro _ w3 hE ⟨rfl,hS2,hI3,hI4⟩
  have H:=H.ext hE
  refine bb hb1 fun x2 hx2 hb1=>?_
  obtain⟨b2,cb2,hvb2,hbb2⟩:=po H 0 hx2
  refine (J 4 hvb2 hx2) ?_
  exact q0G (i:=0) (z:=y1) rfl rfl rfl sz91 rfl rfl rfl (fun _=>⟨rfl,hS2,hI3,hI4,rfl⟩) H rfl hbb2 (by simpa using q4G hx2) fun w4 H=>Z (X ((V) ((AN hk2 hl1) ((A) (Z (I1 hb1 ⟨k1+1,(List.set s1 k1 y1),()⟩))))))
 obtain rfl:=e
 exact CE (R ((V) ((AZ) (W1 hr))))
def z0U (a0:Symbol):Option Symbol:=(z0T a0.Attributes).bind fun y1=>some (⟨a0.Name,y1⟩:Symbol)
theorem j2d {a0 r}(hr:z0U a0=some r){ca0}(ha0:rd F0 w0 a0 ca0):RT 45 #[ag ca0] w0 fun v w=>∃ A0 n0 c0,v = .agg #[.string r.Name,(.slice A0 n0 c0)]∧r.Name.size≤9223372036854775807∧HL F0 [] w0 w [] [.O 91 r.Attributes (.slice A0 n0 c0)]:=by
 have H:=(HL.start F0 w0).argR ha0
 obtain⟨A1,n1,c1,rfl,hS1,H⟩:=q6e H 0
 refine (En Tryz.func45) ?_
 refine R ((BX H) fun b1 w1 H=>(AH ze89 H) fun b2 w2 H=>Z (R ((AH ze89 H) fun b3 w3 H=>Z (R ((D 0) ((L H 0) ((D 0) ((SB H 2) fun w4 H=>Z (R ((D 1) ((L H 0) ?_)))))))))))
 refine bb hr fun y1 hy1 hr=>?_
 refine (CA ok76 (z7Q hy1 (rs H 1))) ?_
 rintro _ w5 hE ⟨A2,n2,c2,rfl,H'⟩
 have H:=H.callA H' tv
 refine (D 1) ((SB H 2) fun w6 H=>Z (R ((LB H 2) ((SB H 1) fun w7 H=>Z (CR ?_)))))
 obtain rfl:=sm hr
 exact⟨_,resC rfl ag89 sz89 rfl rfl (ab H 1) rfl,H.ext0,_,_,_,rfl,hS1,H.outM (fr':=[]) [false,false,false,true] tw⟩
def j0X:Nat→Symbol→(List Symbol)→Option (List Symbol):=fun k1 x1 s1=>(z0U x1).bind fun y1=>(s1[k1]?).bind fun x2=>some (List.set s1 k1 y1)
def z3L (a0:(List Symbol)):Option (List Symbol):=grd (0≤(a0.length:Int)∧(a0.length:Int)*40≤281474976710656∧(a0.length:Int)≤9223372036854775807) <| (q2J j0X 0 a0 (List.replicate a0.length (⟨(⟨#[]⟩:ByteArray),[]⟩:Symbol))).bind fun s1=>some s1
theorem j0Y {a0 r}(hr:z3L a0=some r){z0}(ha0:rdS F0 w0 a0 z0):RT 21 #[z0] w0 fun v w=>∃ A0 n0 c0,v=(.slice A0 n0 c0)∧HL F0 [] w0 w [] [.G 89 r (.slice A0 n0 c0)]:=by
 obtain⟨A0',n0',c0',rfl⟩:=ha0.form3
 have H:=(HL.start F0 w0).argS ha0
 refine (En Tryz.func21) ?_
 refine R ((A) (Z (R ((V) ((NI H 0) fun hl1=>?_)))))
 refine gg hr fun hg1 hr=>?_
 refine q0B (x:=(⟨eB,[]⟩:Symbol)) rfl rfl rfl el32 sz89 by89 ze89 (fun _=>⟨_,[],rfl,dI,rfl,ownS.nil (Nat.zero_le _)⟩) rfl rfl hg1 H fun A1 n1 c1 w1 H=>?_
 have H:=H.toG (i:=0) rfl
 refine (A) (Z (Y (R ((AZ) ?_))))
 refine bb hr fun q1 hq1 hr=>?_
 refine (lE hq1 (fun k1 s1 _=>[(0,.slice A0' n0' c0'),(3,.slice A1 n1 c1),(4,zN k1)]) (fun s1 _ w=>HL F0 [] w0 w [.S a0 (.slice A0' n0' c0')] [.G 89 s1 (.slice A1 n1 c1)]) ()) ?_
 rintro k1 s1 _ σ w2 hk1 hq1 H
 refine Y (R ((V) ((V) ((NN (rs H 0)) ((BZ) ?_)))))
 refine (iE hq1 (fun hk2 x1 z1 hx1 hb1 hq1=>?_) fun e=>?_)
 ·refine K (Y ?_)
  refine Bk (X ((V) ((V) ((V) ((V) ?_)))))
  obtain⟨b1,ob1,cb1,A2,n2,c2,hvb1,hS1,H⟩:=q4g H 0 hx1
  refine (J 2 hvb1 hx1) ((LA H 1) ?_)
  refine bb hb1 fun y1 hy1 hb1=>?_
  refine (CA ok45 (j2d hy1 ⟨_,rfl,hS1,(rs H 3)⟩)) ?_
  rintro _ w3 hE ⟨A3,n3,c3,rfl,hS2,H'⟩
  have H:=H.callA H' tv
  refine bb hb1 fun x2 hx2 hb1=>?_
  obtain⟨b2,cb2,hvb2,hbb2⟩:=H.ptG (i:=0) rfl hx2
  refine (J 2 hvb2 hx2) ?_
  have H:=H.frzO (i:=1) rfl
  exact q0Y (i:=0) (z:=y1) rfl rfl rfl sz89 rfl rfl rfl (fun F hF=>⟨_,rfl,hS2,(hF.get (i:=4) rfl)⟩) H rfl hbb2 (by simpa using q4G hx2) fun w4 H=>Z (X ((V) ((AN hk2 hl1) ((A) (Z (I1 hb1 ⟨k1+1,(List.set s1 k1 y1),()⟩))))))
 obtain rfl:=e
 exact CE (R ((V) ((AZ) (W1 hr))))
def z5U:Nat→ByteArray→(List ByteArray)→Option (List ByteArray):=fun k1 x1 s1=>(s1[k1]?).bind fun x2=>some (List.set s1 k1 x1)
def q9X (a0:(List ByteArray)):Option (List ByteArray):=grd (0≤(a0.length:Int)∧(a0.length:Int)*16≤281474976710656∧(a0.length:Int)≤9223372036854775807) <| (q2J z5U 0 a0 (List.replicate a0.length (⟨#[]⟩:ByteArray))).bind fun s1=>some s1
theorem z2G {a0 r}(hr:q9X a0=some r){z0}(ha0:rdS F0 w0 a0 z0):RT 77 #[z0] w0 fun v w=>∃ A0 n0 c0,v=(.slice A0 n0 c0)∧HL F0 [] w0 w [] [.O 9 r (.slice A0 n0 c0)]:=by
 obtain⟨A0',n0',c0',rfl⟩:=ha0.form3
 have H:=(HL.start F0 w0).argS ha0
 refine (En Tryz.func77) ?_
 refine R ((A) (Z (R ((V) ((NI H 0) fun hl1=>?_)))))
 refine gg hr fun hg1 hr=>?_
 refine q0B (x:=eB) rfl rfl rfl el58 sz9 by9 ze9 (fun _=>⟨rfl,rfl,dI⟩) rfl rfl hg1 H fun A1 n1 c1 w1 H=>(A) (Z (Y (R ((AZ) ?_))))
 refine bb hr fun q1 hq1 hr=>?_
 refine (lE hq1 (fun k1 s1 _=>[(0,.slice A0' n0' c0'),(3,.slice A1 n1 c1),(4,zN k1)]) (fun s1 _ w=>HL F0 [] w0 w [.S a0 (.slice A0' n0' c0')] [.O 9 s1 (.slice A1 n1 c1)]) ()) ?_
 rintro k1 s1 _ σ w2 hk1 hq1 H
 refine Y (R ((V) ((V) ((NN (rs H 0)) ((BZ) ?_)))))
 refine (iE hq1 (fun hk2 x1 z1 hx1 hb1 hq1=>?_) fun e=>?_)
 ·refine K (Y ?_)
  refine Bk (X ((V) ((V) ((V) ((V) ?_)))))
  obtain⟨b1,ob1,cb1,hvb1,hS1,H⟩:=q7l H 0 hx1
  refine (J 1 hvb1 hx1) ((L0 H 1) ?_)
  refine bb hb1 fun x2 hx2 hb1=>?_
  obtain⟨b2,cb2,hvb2,hbb2⟩:=po H 0 hx2
  refine (J 1 hvb2 hx2) ?_
  exact q0G (i:=0) (z:=x1) rfl rfl rfl sz9 rfl rfl rfl (fun _=>⟨rfl,rfl,hS1⟩) H rfl hbb2 (by simpa using q4G hx2) fun w3 H=>Z (X ((V) ((AN hk2 hl1) ((A) (Z (I1 hb1 ⟨k1+1,(List.set s1 k1 x1),()⟩))))))
 obtain rfl:=e
 exact CE (R ((V) ((AZ) (W1 hr))))
def z0V (a0:Occurrence):Option Occurrence:=some a0
theorem z7R {a0 r}(hr:z0V a0=some r){ca0}(ha0:rd F0 w0 a0 ca0):RT 151 #[ag ca0] w0 fun v w=>v = .agg #[.int .i64 r.Pos,.string r.Name]∧I64 r.Pos∧r.Name.size≤9223372036854775807:=by
 have H:=(HL.start F0 w0).argR ha0
 obtain⟨rfl,hI1,hS1,H⟩:=q2z H 0
 refine (En Tryz.func151) ?_
 refine R ((BX H) fun b1 w1 H=>(AH q5v H) fun b2 w2 H=>Z (R ((AH q5v H) fun b3 w3 H=>Z (R ((D 0) ((L H 0) ((D 0) ((SB H 2) fun w4 H=>Z (R ((D 1) ((L H 0) ((D 1) ((SB H 2) fun w5 H=>Z (R ((LB H 2) ((SB H 1) fun w6 H=>Z (CR ?_)))))))))))))))))
 obtain rfl:=sm hr
 exact⟨_,resC rfl z0l q3n rfl rfl (ab H 1) rfl,H.ext0,rfl,hI1,hS1⟩
def j3j (rec_wtoExpr:Expr→Option Expr):Nat→Expr→(List Expr)→Option (List Expr):=fun k1 x1 s1=>(rec_wtoExpr x1).bind fun y1=>(s1[k1]?).bind fun x2=>some (List.set s1 k1 y1)
def z6S (rec_wtoExpr:Expr→Option Expr)(a0:(List Expr)):Option (List Expr):=grd (0≤(a0.length:Int)∧(a0.length:Int)*88≤281474976710656∧(a0.length:Int)≤9223372036854775807) <| (q2J (j3j rec_wtoExpr) 0 a0 (List.replicate a0.length (⟨(0:Int),(0:Int),(0:Int),(0:Int),(⟨#[]⟩:ByteArray),(⟨#[]⟩:ByteArray),[]⟩:Expr))).bind fun s1=>some s1
theorem j3k {rec_wtoExpr:Expr→Option Expr}(ih_wtoExpr:∀ {a0 r:Expr},rec_wtoExpr a0=some r→∀ {F0:Nat→Prop} {w0:World} {ca0} (ha0:rd F0 w0 a0 ca0),RT 152 #[ag ca0] w0 fun v w=>∃ A0 n0 c0,v = .agg #[.int .i64 r.Kind,.int .i64 r.N,.int .i64 r.Pos,.int .i64 r.Type_,.string r.Symbol,.string r.Name,(.slice A0 n0 c0)]∧I64 r.Kind∧I64 r.N∧I64 r.Pos∧I64 r.Type_∧r.Symbol.size≤9223372036854775807∧r.Name.size≤9223372036854775807∧HL F0 [] w0 w [] [.G 136 r.Args (.slice A0 n0 c0)]){a0 r}(hr:z6S rec_wtoExpr a0=some r){z0}(ha0:rdS F0 w0 a0 z0):RT 184 #[z0] w0 fun v w=>∃ A0 n0 c0,v=(.slice A0 n0 c0)∧HL F0 [] w0 w [] [.G 136 r (.slice A0 n0 c0)]:=by
 obtain⟨A0',n0',c0',rfl⟩:=ha0.form3
 have H:=(HL.start F0 w0).argS ha0
 refine (En Tryz.func184) ?_
 refine R ((A) (Z (R ((V) ((NI H 0) fun hl1=>?_)))))
 refine gg hr fun hg1 hr=>?_
 refine q0B (x:=(⟨(0:Int),(0:Int),(0:Int),(0:Int),eB,eB,[]⟩:Expr)) rfl rfl rfl z7L q5u j6c q9V (fun _=>(j7V.2 ⟨_,[],rfl,dI,dI,dI,dI,dI,dI,rfl,ownS.nil (Nat.zero_le _)⟩)) rfl rfl hg1 H fun A1 n1 c1 w1 H=>?_
 have H:=H.toG (i:=0) rfl
 refine (A) (Z (Y (R ((AZ) ?_))))
 refine bb hr fun q1 hq1 hr=>?_
 refine (lE hq1 (fun k1 s1 _=>[(0,.slice A0' n0' c0'),(3,.slice A1 n1 c1),(4,zN k1)]) (fun s1 _ w=>HL F0 [] w0 w [.S a0 (.slice A0' n0' c0')] [.G 136 s1 (.slice A1 n1 c1)]) ()) ?_
 rintro k1 s1 _ σ w2 hk1 hq1 H
 refine Y (R ((V) ((V) ((NN (rs H 0)) ((BZ) ?_)))))
 refine (iE hq1 (fun hk2 x1 z1 hx1 hb1 hq1=>?_) fun e=>?_)
 ·refine K (Y ?_)
  refine Bk (X ((V) ((V) ((V) ((V) ?_)))))
  obtain⟨b1,ob1,cb1,A2,n2,c2,hvb1,hI1,hI2,hI3,hI4,hS1,hS2,H⟩:=q4f H 0 hx1
  refine (J 7 hvb1 hx1) ((LA H 1) ?_)
  refine bb hb1 fun y1 hy1 hb1=>?_
  obtain⟨F,hF,hcl⟩:=H.call
  refine (CA j8g (ih_wtoExpr hy1 (q2r.2 ⟨_,rfl,hI1,hI2,hI3,hI4,hS1,hS2,(hF.get (i:=3) rfl)⟩))) ?_
  rintro _ w3 hE ⟨A3,n3,c3,rfl,hI5,hI6,hI7,hI8,hS3,hS4,H'⟩
  have H:HL F0 [] w0 w3 [.S a0 (.slice A0' n0' c0'),.A b1 (ob1+k1*7) (q2D x1 A2 n2 c2),.R x1 (q2D x1 A2 n2 c2),.S x1.Args (.slice A2 n2 c2)] [.G 136 s1 (.slice A1 n1 c1),.G 136 y1.Args (.slice A3 n3 c3)]:=hcl H'
  refine bb hb1 fun x2 hx2 hb1=>?_
  obtain⟨b2,cb2,hvb2,hbb2⟩:=H.ptG (i:=0) rfl hx2
  refine (J 7 hvb2 hx2) ?_
  have H:=H.frzG (i:=1) rfl
  exact q0Y (i:=0) (z:=y1) rfl rfl rfl q5u rfl rfl rfl (fun F hF=>(q2r.2 ⟨_,rfl,hI5,hI6,hI7,hI8,hS3,hS4,(hF.get (i:=4) rfl)⟩)) H rfl hbb2 (by simpa using q4G hx2) fun w4 H=>Z (X ((V) ((AN hk2 hl1) ((A) (Z (I1 hb1 ⟨k1+1,(List.set s1 k1 y1),()⟩))))))
 obtain rfl:=e
 exact CE (R ((V) ((AZ) (W1 hr))))
def z5V (rec_wtoExpr:Expr→Option Expr)(a0:Expr):Option Expr:=(z6S rec_wtoExpr a0.Args).bind fun y1=>some (⟨a0.Kind,a0.N,a0.Pos,a0.Type_,a0.Symbol,a0.Name,y1⟩:Expr)
theorem j3l {rec_wtoExpr:Expr→Option Expr}(ih_wtoExpr:∀ {a0 r:Expr},rec_wtoExpr a0=some r→∀ {F0:Nat→Prop} {w0:World} {ca0} (ha0:rd F0 w0 a0 ca0),RT 152 #[ag ca0] w0 fun v w=>∃ A0 n0 c0,v = .agg #[.int .i64 r.Kind,.int .i64 r.N,.int .i64 r.Pos,.int .i64 r.Type_,.string r.Symbol,.string r.Name,(.slice A0 n0 c0)]∧I64 r.Kind∧I64 r.N∧I64 r.Pos∧I64 r.Type_∧r.Symbol.size≤9223372036854775807∧r.Name.size≤9223372036854775807∧HL F0 [] w0 w [] [.G 136 r.Args (.slice A0 n0 c0)]){a0 r}(hr:z5V rec_wtoExpr a0=some r){ca0}(ha0:rd F0 w0 a0 ca0):RT 152 #[ag ca0] w0 fun v w=>∃ A0 n0 c0,v = .agg #[.int .i64 r.Kind,.int .i64 r.N,.int .i64 r.Pos,.int .i64 r.Type_,.string r.Symbol,.string r.Name,(.slice A0 n0 c0)]∧I64 r.Kind∧I64 r.N∧I64 r.Pos∧I64 r.Type_∧r.Symbol.size≤9223372036854775807∧r.Name.size≤9223372036854775807∧HL F0 [] w0 w [] [.G 136 r.Args (.slice A0 n0 c0)]:=by
 have H:=(HL.start F0 w0).argR ha0
 obtain⟨A1,n1,c1,rfl,hI1,hI2,hI3,hI4,hS1,hS2,H⟩:=q3q H 0
 let d2:=q2D a0 A1 n1 c1
 let d3:List Pr:=[.R a0 d2,.S a0.Args (.slice A1 n1 c1)]
 refine (En Tryz.func152) ?_
 refine R ((BX H) fun b1 w1 H=>(AH q9V H) fun b2 w2 H=>Z (R ((AH q9V H) fun b3 w3 H=>Z (R ((D 0) ((L H 0) ((D 0) ((SB H 2) fun w4 H=>Z (R ((D 1) ((L H 0) ((D 1) ((SB H 2) fun w5 H=>Z (R ((D 2) ((L H 0) ((D 2) ((SB H 2) fun w6 H=>Z (R ((D 3) ((L H 0) ((D 3) ((SB H 2) fun w7 H=>Z (R ((D 4) ((L H 0) ((D 4) ((SB H 2) fun w8 H=>Z (R ((D 5) ((L H 0) ((D 5) ((SB H 2) fun w9 H=>Z (Y ?_))))))))))))))))))))))))))))))))))
 let d1:It:=.B b2 136 [.int .i64 0,.int .i64 0,.int .i64 0,.int .i64 0,.string eB,.string eB,.slice none 0 0]
 refine q0a [(1,pB b1),(2,pB b2),(3,pB b3)] ⟨rfl,rfl,rfl,trivial⟩ fun σ=>?_
 have H:HL F0 [] w0 w9 d3 [.B b1 174 d2,d1,.B b3 136 (q2D a0 none 0 0)]:=H
 refine X ((D 6) ((L H 0) ?_))
 refine bb hr fun y1 hy1 hr=>?_
 obtain⟨F,hF,hcl⟩:=H.call
 refine (CA k3t (j3k ih_wtoExpr hy1 (hF.get (i:=1) rfl))) ?_
 rintro _ w10 hE ⟨A2,n2,c2,rfl,H'⟩
 have H:HL F0 [] w0 w10 d3 [.B b1 174 d2,d1,.B b3 136 (q2D a0 none 0 0),.G 136 y1 (.slice A2 n2 c2)]:=hcl H'
 refine (D 6) ((SB H 2) fun w11 H=>Z (R ((LB H 2) ((SB H 1) fun w12 H=>Z (CR ?_)))))
 obtain rfl:=sm hr
 exact⟨_,resC rfl q7L q5u rfl rfl (ab H 1) rfl,H.ext0,_,_,_,rfl,hI1,hI2,hI3,hI4,hS1,hS2,H.outM (fr':=[]) [false,false,false,true] tw⟩
def z0W:Nat→Expr→Option Expr
  | 0,_=>none
  | n+1,a0=>z5V (z0W n) a0
def z3M (a0:Expr):Option Expr:=recO fun n=>z0W n a0
theorem j3m (n:Nat):∀ {a0 r:Expr},z0W n a0=some r→∀ {F0:Nat→Prop} {w0:World} {ca0} (ha0:rd F0 w0 a0 ca0),RT 152 #[ag ca0] w0 fun v w=>∃ A0 n0 c0,v = .agg #[.int .i64 r.Kind,.int .i64 r.N,.int .i64 r.Pos,.int .i64 r.Type_,.string r.Symbol,.string r.Name,(.slice A0 n0 c0)]∧I64 r.Kind∧I64 r.N∧I64 r.Pos∧I64 r.Type_∧r.Symbol.size≤9223372036854775807∧r.Name.size≤9223372036854775807∧HL F0 [] w0 w [] [.G 136 r.Args (.slice A0 n0 c0)]:=by
 induction n with
 | zero=>intro a0 r hr; exact nomatch (show (none:Option Expr)=some r from hr)
 | succ n ih=>intro a0 r hr; exact j3l ih hr
theorem z6T {a0 r}(hr:z3M a0=some r){ca0}(ha0:rd F0 w0 a0 ca0):RT 152 #[ag ca0] w0 fun v w=>∃ A0 n0 c0,v = .agg #[.int .i64 r.Kind,.int .i64 r.N,.int .i64 r.Pos,.int .i64 r.Type_,.string r.Symbol,.string r.Name,(.slice A0 n0 c0)]∧I64 r.Kind∧I64 r.N∧I64 r.Pos∧I64 r.Type_∧r.Symbol.size≤9223372036854775807∧r.Name.size≤9223372036854775807∧HL F0 [] w0 w [] [.G 136 r.Args (.slice A0 n0 c0)]:=by
 obtain⟨n,hn⟩:=q4v hr
 exact j3m n hn ha0
def q8E (a0:Equation):Option Equation:=(z0V a0.At).bind fun y1=>(z3M a0.Expr).bind fun y2=>some (⟨y1,y2⟩:Equation)
theorem z9S {a0 r}(hr:q8E a0=some r){ca0}(ha0:rd F0 w0 a0 ca0):RT 117 #[ag ca0] w0 fun v w=>∃ A0 n0 c0,v = .agg #[.int .i64 r.At.Pos,.string r.At.Name,.int .i64 r.Expr.Kind,.int .i64 r.Expr.N,.int .i64 r.Expr.Pos,.int .i64 r.Expr.Type_,.string r.Expr.Symbol,.string r.Expr.Name,(.slice A0 n0 c0)]∧I64 r.At.Pos∧r.At.Name.size≤9223372036854775807∧I64 r.Expr.Kind∧I64 r.Expr.N∧I64 r.Expr.Pos∧I64 r.Expr.Type_∧r.Expr.Symbol.size≤9223372036854775807∧r.Expr.Name.size≤9223372036854775807∧HL F0 [] w0 w [] [.G 136 r.Expr.Args (.slice A0 n0 c0)]:=by
 have H:=(HL.start F0 w0).argR ha0
 obtain⟨A1,n1,c1,rfl,hI1,hS1,hI2,hI3,hI4,hI5,hS2,hS3,H⟩:=q8p H 0
 refine (En Tryz.func117) ?_
 refine R ((BX H) fun b1 w1 H=>(AH z9P H) fun b2 w2 H=>Z (R ((AH z9P H) fun b3 w3 H=>Z (R ((D 0) ?_)))))
 refine q0b rfl rfl (q0c rfl k1j k1k rfl (Blk.part (rb H 0) 0 2) rfl) ?_
 refine bb hr fun y1 hy1 hr=>?_
 refine (CA k2V (z7R hy1 (F0:=nF) ⟨rfl,hI1,hS1⟩)) ?_
 rintro _ w4 hE ⟨rfl,hI6,hS4⟩
 have H:=H.ext hE
 refine (D 0) ((SB H 2) fun w5 H=>Z (R ((D 2) ?_)))
 refine q0b rfl rfl (q0c rfl j4V j4W rfl (Blk.part (rb H 0) 2 7) rfl) ?_
 refine bb hr fun y2 hy2 hr=>?_
 obtain⟨F,hF,hcl⟩:=H.call
 refine (CA j8g (z6T hy2 (q2r.2 ⟨_,rfl,hI2,hI3,hI4,hI5,hS2,hS3,(hF.get (i:=1) rfl)⟩))) ?_
 rintro _ w6 hE ⟨A2,n2,c2,rfl,hI7,hI8,hI9,hI10,hS5,hS6,H'⟩
 have H:HL F0 [] w0 w6 [.R a0 (q5Z a0 A1 n1 c1),.S a0.Expr.Args (.slice A1 n1 c1)] [.B b1 176 (q5Z a0 A1 n1 c1),.B b2 138 [.int .i64 0,.string eB,.int .i64 0,.int .i64 0,.int .i64 0,.int .i64 0,.string eB,.string eB,.slice none 0 0],.B b3 138 [.int .i64 y1.Pos,.string y1.Name,.int .i64 0,.int .i64 0,.int .i64 0,.int .i64 0,.string eB,.string eB,.slice none 0 0],.G 136 y2.Args (.slice A2 n2 c2)]:=hcl H'
 refine (D 2) ((SB H 2) fun w7 H=>Z (R ((LB H 2) ((SB H 1) fun w8 H=>Z (CR ?_)))))
 obtain rfl:=sm hr
 exact⟨_,resC rfl k2i j8b rfl rfl (ab H 1) rfl,H.ext0,_,_,_,rfl,hI6,hS4,hI7,hI8,hI9,hI10,hS5,hS6,H.outM (fr':=[]) [false,false,false,true] tw⟩
def z8N:Nat→Equation→(List Equation)→Option (List Equation):=fun k1 x1 s1=>(q8E x1).bind fun y1=>(s1[k1]?).bind fun x2=>some (List.set s1 k1 y1)
def z1V (a0:(List Equation)):Option (List Equation):=grd (0≤(a0.length:Int)∧(a0.length:Int)*112≤281474976710656∧(a0.length:Int)≤9223372036854775807) <| (q2J z8N 0 a0 (List.replicate a0.length (⟨(⟨(0:Int),(⟨#[]⟩:ByteArray)⟩:Occurrence),(⟨(0:Int),(0:Int),(0:Int),(0:Int),(⟨#[]⟩:ByteArray),(⟨#[]⟩:ByteArray),[]⟩:Expr)⟩:Equation))).bind fun s1=>some s1
theorem z8O {a0 r}(hr:z1V a0=some r){z0}(ha0:rdS F0 w0 a0 z0):RT 78 #[z0] w0 fun v w=>∃ A0 n0 c0,v=(.slice A0 n0 c0)∧HL F0 [] w0 w [] [.G 138 r (.slice A0 n0 c0)]:=by
 obtain⟨A0',n0',c0',rfl⟩:=ha0.form3
 have H:=(HL.start F0 w0).argS ha0
 refine (En Tryz.func78) ?_
 refine R ((A) (Z (R ((V) ((NI H 0) fun hl1=>?_)))))
 refine gg hr fun hg1 hr=>?_
 refine q0B (x:=(⟨(⟨(0:Int),eB⟩:Occurrence),(⟨(0:Int),(0:Int),(0:Int),(0:Int),eB,eB,[]⟩:Expr)⟩:Equation)) rfl rfl rfl el59 j8b k2m z9P (fun _=>⟨_,[],rfl,dI,dI,dI,dI,dI,dI,dI,dI,rfl,ownS.nil (Nat.zero_le _)⟩) rfl rfl hg1 H fun A1 n1 c1 w1 H=>?_
 have H:=H.toG (i:=0) rfl
 refine (A) (Z (Y (R ((AZ) ?_))))
 refine bb hr fun q1 hq1 hr=>?_
 refine (lE hq1 (fun k1 s1 _=>[(0,.slice A0' n0' c0'),(3,.slice A1 n1 c1),(4,zN k1)]) (fun s1 _ w=>HL F0 [] w0 w [.S a0 (.slice A0' n0' c0')] [.G 138 s1 (.slice A1 n1 c1)]) ()) ?_
 rintro k1 s1 _ σ w2 hk1 hq1 H
 refine Y (R ((V) ((V) ((NN (rs H 0)) ((BZ) ?_)))))
 refine (iE hq1 (fun hk2 x1 z1 hx1 hb1 hq1=>?_) fun e=>?_)
 ·refine K (Y ?_)
  refine Bk (X ((V) ((V) ((V) ((V) ?_)))))
  obtain⟨b1,ob1,cb1,A2,n2,c2,hvb1,hI1,hS1,hI2,hI3,hI4,hI5,hS2,hS3,H⟩:=q3P H 0 hx1
  refine (J 9 hvb1 hx1) ((LA H 1) ?_)
  refine bb hb1 fun y1 hy1 hb1=>?_
  obtain⟨F,hF,hcl⟩:=H.call
  refine (CA k2B (z9S hy1 ⟨_,rfl,hI1,hS1,hI2,hI3,hI4,hI5,hS2,hS3,(hF.get (i:=3) rfl)⟩)) ?_
  rintro _ w3 hE ⟨A3,n3,c3,rfl,hI6,hS4,hI7,hI8,hI9,hI10,hS5,hS6,H'⟩
  have H:HL F0 [] w0 w3 [.S a0 (.slice A0' n0' c0'),.A b1 (ob1+k1*9) (q5Z x1 A2 n2 c2),.R x1 (q5Z x1 A2 n2 c2),.S x1.Expr.Args (.slice A2 n2 c2)] [.G 138 s1 (.slice A1 n1 c1),.G 136 y1.Expr.Args (.slice A3 n3 c3)]:=hcl H'
  refine bb hb1 fun x2 hx2 hb1=>?_
  obtain⟨b2,cb2,hvb2,hbb2⟩:=H.ptG (i:=0) rfl hx2
  refine (J 9 hvb2 hx2) ?_
  have H:=H.frzG (i:=1) rfl
  exact q0Y (i:=0) (z:=y1) rfl rfl rfl j8b rfl rfl rfl (fun F hF=>⟨_,rfl,hI6,hS4,hI7,hI8,hI9,hI10,hS5,hS6,(hF.get (i:=4) rfl)⟩) H rfl hbb2 (by simpa using q4G hx2) fun w4 H=>Z (X ((V) ((AN hk2 hl1) ((A) (Z (I1 hb1 ⟨k1+1,(List.set s1 k1 y1),()⟩))))))
 obtain rfl:=e
 exact CE (R ((V) ((AZ) (W1 hr))))
def q6w (a0:Contribution):Option Contribution:=(z3M a0.Target).bind fun y1=>(z3M a0.Value).bind fun y2=>some (⟨a0.Symbol,a0.Name,y1,y2⟩:Contribution)
theorem z5W {a0 r}(hr:q6w a0=some r){ca0}(ha0:rd F0 w0 a0 ca0):RT 118 #[ag ca0] w0 fun v w=>∃ A0 n0 c0 A1 n1 c1,v = .agg #[.string r.Symbol,.string r.Name,.int .i64 r.Target.Kind,.int .i64 r.Target.N,.int .i64 r.Target.Pos,.int .i64 r.Target.Type_,.string r.Target.Symbol,.string r.Target.Name,(.slice A0 n0 c0),.int .i64 r.Value.Kind,.int .i64 r.Value.N,.int .i64 r.Value.Pos,.int .i64 r.Value.Type_,.string r.Value.Symbol,.string r.Value.Name,(.slice A1 n1 c1)]∧r.Symbol.size≤9223372036854775807∧r.Name.size≤9223372036854775807∧I64 r.Target.Kind∧I64 r.Target.N∧I64 r.Target.Pos∧I64 r.Target.Type_∧r.Target.Symbol.size≤9223372036854775807∧r.Target.Name.size≤9223372036854775807∧I64 r.Value.Kind∧I64 r.Value.N∧I64 r.Value.Pos∧I64 r.Value.Type_∧r.Value.Symbol.size≤9223372036854775807∧r.Value.Name.size≤9223372036854775807∧HL F0 [] w0 w [] [.G 136 r.Target.Args (.slice A0 n0 c0),.G 136 r.Value.Args (.slice A1 n1 c1)]:=by
 have H:=(HL.start F0 w0).argR ha0
 obtain⟨A1,n1,c1,A2,n2,c2,rfl,hS1,hS2,hI1,hI2,hI3,hI4,hS3,hS4,hI5,hI6,hI7,hI8,hS5,hS6,H⟩:=q8C H 0
 let d3:=q4u a0 A1 n1 c1 A2 n2 c2
 let d2:List Pr:=[.R a0 d3,.S a0.Target.Args (.slice A1 n1 c1),.S a0.Value.Args (.slice A2 n2 c2)]
 refine (En Tryz.func118) ?_
 refine R ((BX H) fun b1 w1 H=>(AH j1Y H) fun b2 w2 H=>Z (R ((AH j1Y H) fun b3 w3 H=>Z (R ((D 0) ((L H 0) ((D 0) ((SB H 2) fun w4 H=>Z (R ((D 1) ((L H 0) ((D 1) ((SB H 2) fun w5 H=>Z (R ((D 2) ?_)))))))))))))))
 let d1:It:=.B b2 190 [.string eB,.string eB,.int .i64 0,.int .i64 0,.int .i64 0,.int .i64 0,.string eB,.string eB,.slice none 0 0,.int .i64 0,.int .i64 0,.int .i64 0,.int .i64 0,.string eB,.string eB,.slice none 0 0]
 refine q0b rfl rfl (q0c rfl j4V j4W rfl (Blk.part (rb H 0) 2 7) rfl) ?_
 refine bb hr fun y1 hy1 hr=>?_
 obtain⟨F,hF,hcl⟩:=H.call
 refine (CA j8g (z6T hy1 (q2r.2 ⟨_,rfl,hI1,hI2,hI3,hI4,hS3,hS4,(hF.get (i:=1) rfl)⟩))) ?_
 rintro _ w6 hE ⟨A3,n3,c3,rfl,hI9,hI10,hI11,hI12,hS7,hS8,H'⟩
 have H:HL F0 [] w0 w6 d2 [.B b1 179 d3,d1,.B b3 190 [.string a0.Symbol,.string a0.Name,.int .i64 0,.int .i64 0,.int .i64 0,.int .i64 0,.string eB,.string eB,.slice none 0 0,.int .i64 0,.int .i64 0,.int .i64 0,.int .i64 0,.string eB,.string eB,.slice none 0 0],.G 136 y1.Args (.slice A3 n3 c3)]:=hcl H'
 refine (D 2) ((SB H 2) fun w7 H=>Z (R ((D 9) ?_)))
 refine q0b rfl rfl (q0c rfl j4V j4W rfl (Blk.part (rb H 0) 9 7) rfl) ?_
 refine bb hr fun y2 hy2 hr=>?_
 obtain⟨F,hF,hcl⟩:=H.call
 refine (CA j8g (z6T hy2 (q2r.2 ⟨_,rfl,hI5,hI6,hI7,hI8,hS5,hS6,(hF.get (i:=2) rfl)⟩))) ?_
 rintro _ w8 hE ⟨A4,n4,c4,rfl,hI13,hI14,hI15,hI16,hS9,hS10,H'⟩
 have H:HL F0 [] w0 w8 d2 [.B b1 179 d3,d1,.B b3 190 [.string a0.Symbol,.string a0.Name,.int .i64 y1.Kind,.int .i64 y1.N,.int .i64 y1.Pos,.int .i64 y1.Type_,.string y1.Symbol,.string y1.Name,.slice A3 n3 c3,.int .i64 0,.int .i64 0,.int .i64 0,.int .i64 0,.string eB,.string eB,.slice none 0 0],.G 136 y1.Args (.slice A3 n3 c3),.G 136 y2.Args (.slice A4 n4 c4)]:=hcl H'
 refine (D 9) ((SB H 2) fun w9 H=>Z (R ((LB H 2) ((SB H 1) fun w10 H=>Z (CR ?_)))))
 obtain rfl:=sm hr
 exact⟨_,resC rfl k2j j9Y rfl rfl (ab H 1) rfl,H.ext0,_,_,_,_,_,_,rfl,hS1,hS2,hI9,hI10,hI11,hI12,hS7,hS8,hI13,hI14,hI15,hI16,hS9,hS10,H.outM (fr':=[]) [false,false,false,true,true] tw⟩
def z5o:Nat→Contribution→(List Contribution)→Option (List Contribution):=fun k1 x1 s1=>(q6w x1).bind fun y1=>(s1[k1]?).bind fun x2=>some (List.set s1 k1 y1)
def q8F (a0:(List Contribution)):Option (List Contribution):=grd (0≤(a0.length:Int)∧(a0.length:Int)*208≤281474976710656∧(a0.length:Int)≤9223372036854775807) <| (q2J z5o 0 a0 (List.replicate a0.length (⟨(⟨#[]⟩:ByteArray),(⟨#[]⟩:ByteArray),(⟨(0:Int),(0:Int),(0:Int),(0:Int),(⟨#[]⟩:ByteArray),(⟨#[]⟩:ByteArray),[]⟩:Expr),(⟨(0:Int),(0:Int),(0:Int),(0:Int),(⟨#[]⟩:ByteArray),(⟨#[]⟩:ByteArray),[]⟩:Expr)⟩:Contribution))).bind fun s1=>some s1
theorem z5p {a0 r}(hr:q8F a0=some r){z0}(ha0:rdS F0 w0 a0 z0):RT 79 #[z0] w0 fun v w=>∃ A0 n0 c0,v=(.slice A0 n0 c0)∧HL F0 [] w0 w [] [.G 190 r (.slice A0 n0 c0)]:=by
 obtain⟨A0',n0',c0',rfl⟩:=ha0.form3
 have H:=(HL.start F0 w0).argS ha0
 refine (En Tryz.func79) ?_
 refine R ((A) (Z (R ((V) ((NI H 0) fun hl1=>?_)))))
 refine gg hr fun hg1 hr=>?_
 refine q0B (x:=(⟨eB,eB,(⟨(0:Int),(0:Int),(0:Int),(0:Int),eB,eB,[]⟩:Expr),(⟨(0:Int),(0:Int),(0:Int),(0:Int),eB,eB,[]⟩:Expr)⟩:Contribution)) rfl rfl rfl el60 j9Y k2n j1Y (fun _=>⟨_,_,[],[],rfl,dI,dI,dI,dI,dI,dI,dI,dI,dI,dI,dI,dI,dI,dI,rfl,ownS.nil (Nat.zero_le _),ownS.nil (Nat.zero_le _)⟩) rfl rfl hg1 H fun A1 n1 c1 w1 H=>?_
 have H:=H.toG (i:=0) rfl
 refine (A) (Z (Y (R ((AZ) ?_))))
 refine bb hr fun q1 hq1 hr=>?_
 refine (lE hq1 (fun k1 s1 _=>[(0,.slice A0' n0' c0'),(3,.slice A1 n1 c1),(4,zN k1)]) (fun s1 _ w=>HL F0 [] w0 w [.S a0 (.slice A0' n0' c0')] [.G 190 s1 (.slice A1 n1 c1)]) ()) ?_
 rintro k1 s1 _ σ w2 hk1 hq1 H
 refine Y (R ((V) ((V) ((NN (rs H 0)) ((BZ) ?_)))))
 refine (iE hq1 (fun hk2 x1 z1 hx1 hb1 hq1=>?_) fun e=>?_)
 ·refine K (Y ?_)
  refine Bk (X ((V) ((V) ((V) ((V) ?_)))))
  obtain⟨b1,ob1,cb1,A2,n2,c2,A3,n3,c3,hvb1,hS1,hS2,hI1,hI2,hI3,hI4,hS3,hS4,hI5,hI6,hI7,hI8,hS5,hS6,H⟩:=q3V H 0 hx1
  let d1:=q4u x1 A2 n2 c2 A3 n3 c3
  refine (J 16 hvb1 hx1) ((LA H 1) ?_)
  refine bb hb1 fun y1 hy1 hb1=>?_
  obtain⟨F,hF,hcl⟩:=H.call
  refine (CA k2C (z5W hy1 ⟨_,_,rfl,hS1,hS2,hI1,hI2,hI3,hI4,hS3,hS4,hI5,hI6,hI7,hI8,hS5,hS6,(hF.get (i:=3) rfl),(hF.get (i:=4) rfl)⟩)) ?_
  rintro _ w3 hE ⟨A4,n4,c4,A5,n5,c5,rfl,hS7,hS8,hI9,hI10,hI11,hI12,hS9,hS10,hI13,hI14,hI15,hI16,hS11,hS12,H'⟩
  have H:HL F0 [] w0 w3 [.S a0 (.slice A0' n0' c0'),.A b1 (ob1+k1*16) d1,.R x1 d1,.S x1.Target.Args (.slice A2 n2 c2),.S x1.Value.Args (.slice A3 n3 c3)] [.G 190 s1 (.slice A1 n1 c1),.G 136 y1.Target.Args (.slice A4 n4 c4),.G 136 y1.Value.Args (.slice A5 n5 c5)]:=hcl H'
  refine bb hb1 fun x2 hx2 hb1=>?_
  obtain⟨b2,cb2,hvb2,hbb2⟩:=H.ptG (i:=0) rfl hx2
  refine (J 16 hvb2 hx2) ?_
  have H:=H.frzG (i:=1) rfl
  have H:=H.frzG (i:=2) rfl
  exact q0Y (i:=0) (z:=y1) rfl rfl rfl j9Y rfl rfl rfl (fun F hF=>⟨_,_,rfl,hS7,hS8,hI9,hI10,hI11,hI12,hS9,hS10,hI13,hI14,hI15,hI16,hS11,hS12,(hF.get (i:=5) rfl),(hF.get (i:=6) rfl)⟩) H rfl hbb2 (by simpa using q4G hx2) fun w4 H=>Z (X ((V) ((AN hk2 hl1) ((A) (Z (I1 hb1 ⟨k1+1,(List.set s1 k1 y1),()⟩))))))
 obtain rfl:=e
 exact CE (R ((V) ((AZ) (W1 hr))))
def z3N (a0:Rule):Option Rule:=(q9X a0.Right).bind fun y1=>(z1V a0.Equations).bind fun y2=>(q8F a0.Contributions).bind fun y3=>some (⟨a0.Name,a0.Left,y1,a0.Literal,y2,y3⟩:Rule)
theorem j5b {a0 r}(hr:z3N a0=some r){ca0}(ha0:rd F0 w0 a0 ca0):RT 46 #[ag ca0] w0 fun v w=>∃ A0 n0 c0 A1 n1 c1,∃ A2 n2 c2,v = .agg #[.string r.Name,.string r.Left,(.slice A0 n0 c0),.bool r.Literal,(.slice A1 n1 c1),(.slice A2 n2 c2)]∧r.Name.size≤9223372036854775807∧r.Left.size≤9223372036854775807∧HL F0 [] w0 w [] [.O 9 r.Right (.slice A0 n0 c0),.G 138 r.Equations (.slice A1 n1 c1),.G 190 r.Contributions (.slice A2 n2 c2)]:=by
 have H:=(HL.start F0 w0).argR ha0
 obtain⟨A1,n1,c1,A2,n2,c2,A3,n3,c3,rfl,hS1,hS2,H⟩:=q3j H 0
 let d3:=q4o a0 A1 n1 c1 A2 n2 c2 A3 n3 c3
 let d1:List Pr:=[.R a0 d3,.S a0.Right (.slice A1 n1 c1),.S a0.Equations (.slice A2 n2 c2),.S a0.Contributions (.slice A3 n3 c3)]
 refine (En Tryz.func46) ?_
 refine R ((BX H) fun b1 w1 H=>(AH ze62 H) fun b2 w2 H=>Z (R ((AH ze62 H) fun b3 w3 H=>Z (R ((D 0) ((L H 0) ((D 0) ((SB H 2) fun w4 H=>Z (R ((D 1) ((L H 0) ((D 1) ((SB H 2) fun w5 H=>Z (R ((D 2) ((L H 0) ?_))))))))))))))))
 let d2:It:=.B b2 62 [.string eB,.string eB,.slice none 0 0,.bool false,.slice none 0 0,.slice none 0 0]
 refine bb hr fun y1 hy1 hr=>?_
 refine (CA ok77 (z2G hy1 (rs H 1))) ?_
 rintro _ w6 hE ⟨A4,n4,c4,rfl,H'⟩
 let d5:It:=.O 9 y1 (.slice A4 n4 c4)
 have H:=H.callA H' tv
 refine (D 2) ((SB H 2) fun w7 H=>Z (R ((D 3) ((L H 0) ((D 3) ((SB H 2) fun w8 H=>Z (R ((D 4) ((L H 0) ?_)))))))))
 refine bb hr fun y2 hy2 hr=>?_
 obtain⟨F,hF,hcl⟩:=H.call
 refine (CA ok78 (z8O hy2 (hF.get (i:=2) rfl))) ?_
 rintro _ w9 hE ⟨A5,n5,c5,rfl,H'⟩
 let d4:It:=.G 138 y2 (.slice A5 n5 c5)
 have H:HL F0 [] w0 w9 d1 [.B b1 82 d3,d2,.B b3 62 (q4o a0 A4 n4 c4 none 0 0 none 0 0),d5,d4]:=hcl H'
 refine (D 4) ((SB H 2) fun w10 H=>Z (R ((D 5) ((L H 0) ?_))))
 refine bb hr fun y3 hy3 hr=>?_
 obtain⟨F,hF,hcl⟩:=H.call
 refine (CA ok79 (z5p hy3 (hF.get (i:=3) rfl))) ?_
 rintro _ w11 hE ⟨A6,n6,c6,rfl,H'⟩
 have H:HL F0 [] w0 w11 d1 [.B b1 82 d3,d2,.B b3 62 (q4o a0 A4 n4 c4 A5 n5 c5 none 0 0),d5,d4,.G 190 y3 (.slice A6 n6 c6)]:=hcl H'
 refine (D 5) ((SB H 2) fun w12 H=>Z (Y ?_))
 refine q0a [(2,pB b2),(3,pB b3)] ⟨rfl,rfl,trivial⟩ fun σ=>?_
 have H:HL F0 [] w0 w12 d1 [.B b1 82 d3,d2,.B b3 62 (q4o a0 A4 n4 c4 A5 n5 c5 A6 n6 c6),d5,d4,.G 190 y3 (.slice A6 n6 c6)]:=H
 refine X ((LB H 2) ((SB H 1) fun w13 H=>Z (CR ?_)))
 obtain rfl:=sm hr
 exact⟨_,resC rfl ag62 sz62 rfl rfl (ab H 1) rfl,H.ext0,_,_,_,_,_,_,_,_,_,rfl,hS1,hS2,H.outM (fr':=[]) [false,false,false,true,true,true] tw⟩
def j3n:Nat→Rule→(List Rule)→Option (List Rule):=fun k1 x1 s1=>(z3N x1).bind fun y1=>(s1[k1]?).bind fun x2=>some (List.set s1 k1 y1)
def z6U (a0:(List Rule)):Option (List Rule):=grd (0≤(a0.length:Int)∧(a0.length:Int)*112≤281474976710656∧(a0.length:Int)≤9223372036854775807) <| (q2J j3n 0 a0 (List.replicate a0.length (⟨(⟨#[]⟩:ByteArray),(⟨#[]⟩:ByteArray),[],false,[],[]⟩:Rule))).bind fun s1=>some s1
theorem j3o {a0 r}(hr:z6U a0=some r){z0}(ha0:rdS F0 w0 a0 z0):RT 22 #[z0] w0 fun v w=>∃ A0 n0 c0,v=(.slice A0 n0 c0)∧HL F0 [] w0 w [] [.G 62 r (.slice A0 n0 c0)]:=by
 obtain⟨A0',n0',c0',rfl⟩:=ha0.form3
 have H:=(HL.start F0 w0).argS ha0
 refine (En Tryz.func22) ?_
 refine R ((A) (Z (R ((V) ((NI H 0) fun hl1=>?_)))))
 refine gg hr fun hg1 hr=>?_
 refine q0B (x:=(⟨eB,eB,[],false,[],[]⟩:Rule)) rfl rfl rfl el33 sz62 by62 ze62 (fun _=>⟨_,_,_,[],[],[],rfl,dI,dI,rfl,ownS.nil (Nat.zero_le _),ownS.nil (Nat.zero_le _),ownS.nil (Nat.zero_le _)⟩) rfl rfl hg1 H fun A1 n1 c1 w1 H=>?_
 have H:=H.toG (i:=0) rfl
 refine (A) (Z (Y (R ((AZ) ?_))))
 refine bb hr fun q1 hq1 hr=>?_
 refine (lE hq1 (fun k1 s1 _=>[(0,.slice A0' n0' c0'),(3,.slice A1 n1 c1),(4,zN k1)]) (fun s1 _ w=>HL F0 [] w0 w [.S a0 (.slice A0' n0' c0')] [.G 62 s1 (.slice A1 n1 c1)]) ()) ?_
 rintro k1 s1 _ σ w2 hk1 hq1 H
 refine Y (R ((V) ((V) ((NN (rs H 0)) ((BZ) ?_)))))
 refine (iE hq1 (fun hk2 x1 z1 hx1 hb1 hq1=>?_) fun e=>?_)
 ·refine K (Y ?_)
  refine Bk (X ((V) ((V) ((V) ((V) ?_)))))
  obtain⟨b1,ob1,cb1,A2,n2,c2,A3,n3,c3,A4,n4,c4,hvb1,hS1,hS2,H⟩:=q6N H 0 hx1
  let d1:=q4o x1 A2 n2 c2 A3 n3 c3 A4 n4 c4
  refine (J 6 hvb1 hx1) ((LA H 1) ?_)
  refine bb hb1 fun y1 hy1 hb1=>?_
  obtain⟨F,hF,hcl⟩:=H.call
  refine (CA ok46 (j5b hy1 ⟨_,_,_,rfl,hS1,hS2,(hF.get (i:=3) rfl),(hF.get (i:=4) rfl),(hF.get (i:=5) rfl)⟩)) ?_
  rintro _ w3 hE ⟨A5,n5,c5,A6,n6,c6,A7,n7,c7,rfl,hS3,hS4,H'⟩
  have H:HL F0 [] w0 w3 [.S a0 (.slice A0' n0' c0'),.A b1 (ob1+k1*6) d1,.R x1 d1,.S x1.Right (.slice A2 n2 c2),.S x1.Equations (.slice A3 n3 c3),.S x1.Contributions (.slice A4 n4 c4)] [.G 62 s1 (.slice A1 n1 c1),.O 9 y1.Right (.slice A5 n5 c5),.G 138 y1.Equations (.slice A6 n6 c6),.G 190 y1.Contributions (.slice A7 n7 c7)]:=hcl H'
  refine bb hb1 fun x2 hx2 hb1=>?_
  obtain⟨b2,cb2,hvb2,hbb2⟩:=H.ptG (i:=0) rfl hx2
  refine (J 6 hvb2 hx2) ?_
  have H:=H.frzO (i:=1) rfl
  have H:=H.frzG (i:=2) rfl
  have H:=H.frzG (i:=3) rfl
  exact q0Y (i:=0) (z:=y1) rfl rfl rfl sz62 rfl rfl rfl (fun F hF=>⟨_,_,_,rfl,hS3,hS4,(hF.get (i:=6) rfl),(hF.get (i:=7) rfl),(hF.get (i:=8) rfl)⟩) H rfl hbb2 (by simpa using q4G hx2) fun w4 H=>Z (X ((V) ((AN hk2 hl1) ((A) (Z (I1 hb1 ⟨k1+1,(List.set s1 k1 y1),()⟩))))))
 obtain rfl:=e
 exact CE (R ((V) ((AZ) (W1 hr))))
def q8y (a0:Grammar):Option Grammar:=(z3L a0.Symbols).bind fun y1=>(z6U a0.Rules).bind fun y2=>some (⟨y1,y2⟩:Grammar)
theorem z2H {a0 r}(hr:q8y a0=some r){ca0}(ha0:rd F0 w0 a0 ca0):RT 8 #[ag ca0] w0 fun v w=>∃ A0 n0 c0 A1 n1 c1,v = .agg #[(.slice A0 n0 c0),(.slice A1 n1 c1)]∧HL F0 [] w0 w [] [.G 89 r.Symbols (.slice A0 n0 c0),.G 62 r.Rules (.slice A1 n1 c1)]:=by
 let d3:List Value:=[.slice none 0 0,.slice none 0 0]
 have H:=(HL.start F0 w0).argR ha0
 obtain⟨A1,n1,c1,A2,n2,c2,rfl,H⟩:=q2s H 0
 let d2:List Value:=[.slice A1 n1 c1,.slice A2 n2 c2]
 let d1:List Pr:=[.R a0 d2,.S a0.Symbols (.slice A1 n1 c1),.S a0.Rules (.slice A2 n2 c2)]
 refine (En Tryz.func8) ?_
 refine R ((BX H) fun b1 w1 H=>(AH ze35 H) fun b2 w2 H=>Z (R ((AH ze35 H) fun b3 w3 H=>Z (R ((D 0) ((L H 0) ?_))))))
 refine bb hr fun y1 hy1 hr=>?_
 obtain⟨F,hF,hcl⟩:=H.call
 refine (CA ok21 (j0Y hy1 (hF.get (i:=1) rfl))) ?_
 rintro _ w4 hE ⟨A3,n3,c3,rfl,H'⟩
 have H:HL F0 [] w0 w4 d1 [.B b1 25 d2,.B b2 35 d3,.B b3 35 d3,.G 89 y1 (.slice A3 n3 c3)]:=hcl H'
 refine (D 0) ((SB H 2) fun w5 H=>Z (R ((D 1) ((L H 0) ?_))))
 refine bb hr fun y2 hy2 hr=>?_
 obtain⟨F,hF,hcl⟩:=H.call
 refine (CA ok22 (j3o hy2 (hF.get (i:=2) rfl))) ?_
 rintro _ w6 hE ⟨A4,n4,c4,rfl,H'⟩
 have H:HL F0 [] w0 w6 d1 [.B b1 25 d2,.B b2 35 d3,.B b3 35 [.slice A3 n3 c3,.slice none 0 0],.G 89 y1 (.slice A3 n3 c3),.G 62 y2 (.slice A4 n4 c4)]:=hcl H'
 refine (D 1) ((SB H 2) fun w7 H=>Z (R ((LB H 2) ((SB H 1) fun w8 H=>Z (CR ?_)))))
 obtain rfl:=sm hr
 exact⟨_,resC rfl ag35 sz35 rfl rfl (ab H 1) rfl,H.ext0,_,_,_,_,_,_,rfl,H.outM (fr':=[]) [false,false,false,true,true] tw⟩
def z2m (a0:Phase):Option Phase:=(q9X a0.Inherited).bind fun y1=>(q9X a0.Synthesized).bind fun y2=>some (⟨y1,y2⟩:Phase)
theorem j3p {a0 r}(hr:z2m a0=some r){ca0}(ha0:rd F0 w0 a0 ca0):RT 47 #[ag ca0] w0 fun v w=>∃ A0 n0 c0 A1 n1 c1,v = .agg #[(.slice A0 n0 c0),(.slice A1 n1 c1)]∧HL F0 [] w0 w [] [.O 9 r.Inherited (.slice A0 n0 c0),.O 9 r.Synthesized (.slice A1 n1 c1)]:=by
 have H:=(HL.start F0 w0).argR ha0
 obtain⟨A1,n1,c1,A2,n2,c2,rfl,H⟩:=z8n H 0
 refine (En Tryz.func47) ?_
 refine R ((BX H) fun b1 w1 H=>(AH j9Z H) fun b2 w2 H=>Z (R ((AH j9Z H) fun b3 w3 H=>Z (R ((D 0) ((L H 0) ?_))))))
 refine bb hr fun y1 hy1 hr=>?_
 refine (CA ok77 (z2G hy1 (rs H 1))) ?_
 rintro _ w4 hE ⟨A3,n3,c3,rfl,H'⟩
 have H:=H.callA H' tv
 refine (D 0) ((SB H 2) fun w5 H=>Z (R ((D 1) ((L H 0) ?_))))
 refine bb hr fun y2 hy2 hr=>?_
 refine (CA ok77 (z2G hy2 (rs H 2))) ?_
 rintro _ w6 hE ⟨A4,n4,c4,rfl,H'⟩
 have H:=H.callA H' tv
 refine (D 1) ((SB H 2) fun w7 H=>Z (R ((LB H 2) ((SB H 1) fun w8 H=>Z (CR ?_)))))
 obtain rfl:=sm hr
 exact⟨_,resC rfl k2g z5P rfl rfl (ab H 1) rfl,H.ext0,_,_,_,_,_,_,rfl,H.outM (fr':=[]) [false,false,false,true,true] tw⟩
def j2e:Nat→Phase→(List Phase)→Option (List Phase):=fun k1 x1 s1=>(z2m x1).bind fun y1=>(s1[k1]?).bind fun x2=>some (List.set s1 k1 y1)
def z2I (a0:(List Phase)):Option (List Phase):=grd (0≤(a0.length:Int)∧(a0.length:Int)*48≤281474976710656∧(a0.length:Int)≤9223372036854775807) <| (q2J j2e 0 a0 (List.replicate a0.length (⟨[],[]⟩:Phase))).bind fun s1=>some s1
theorem j2f {a0 r}(hr:z2I a0=some r){z0}(ha0:rdS F0 w0 a0 z0):RT 23 #[z0] w0 fun v w=>∃ A0 n0 c0,v=(.slice A0 n0 c0)∧HL F0 [] w0 w [] [.G 100 r (.slice A0 n0 c0)]:=by
 obtain⟨A0',n0',c0',rfl⟩:=ha0.form3
 have H:=(HL.start F0 w0).argS ha0
 refine (En Tryz.func23) ?_
 refine R ((A) (Z (R ((V) ((NI H 0) fun hl1=>?_)))))
 refine gg hr fun hg1 hr=>?_
 refine q0B (x:=(⟨[],[]⟩:Phase)) rfl rfl rfl el54 z5P k2k j9Z (fun _=>⟨_,_,[],[],rfl,rfl,ownS.nil (Nat.zero_le _),ownS.nil (Nat.zero_le _)⟩) rfl rfl hg1 H fun A1 n1 c1 w1 H=>?_
 have H:=H.toG (i:=0) rfl
 refine (A) (Z (Y (R ((AZ) ?_))))
 refine bb hr fun q1 hq1 hr=>?_
 refine (lE hq1 (fun k1 s1 _=>[(0,.slice A0' n0' c0'),(3,.slice A1 n1 c1),(4,zN k1)]) (fun s1 _ w=>HL F0 [] w0 w [.S a0 (.slice A0' n0' c0')] [.G 100 s1 (.slice A1 n1 c1)]) ()) ?_
 rintro k1 s1 _ σ w2 hk1 hq1 H
 refine Y (R ((V) ((V) ((NN (rs H 0)) ((BZ) ?_)))))
 refine (iE hq1 (fun hk2 x1 z1 hx1 hb1 hq1=>?_) fun e=>?_)
 ·refine K (Y ?_)
  refine Bk (X ((V) ((V) ((V) ((V) ?_)))))
  obtain⟨b1,ob1,cb1,A2,n2,c2,A3,n3,c3,hvb1,H⟩:=q5M H 0 hx1
  refine (J 2 hvb1 hx1) ((LA H 1) ?_)
  refine bb hb1 fun y1 hy1 hb1=>?_
  refine (CA ok47 (j3p hy1 ⟨_,_,rfl,(rs H 3),(rs H 4)⟩)) ?_
  rintro _ w3 hE ⟨A4,n4,c4,A5,n5,c5,rfl,H'⟩
  have H:=H.callA H' ⟨fun _ _ _ _ _ h=>h,tv⟩
  refine bb hb1 fun x2 hx2 hb1=>?_
  obtain⟨b2,cb2,hvb2,hbb2⟩:=H.ptG (i:=0) rfl hx2
  refine (J 2 hvb2 hx2) ?_
  have H:=H.frzO (i:=1) rfl
  have H:=H.frzO (i:=2) rfl
  exact q0Y (i:=0) (z:=y1) rfl rfl rfl z5P rfl rfl rfl (fun F hF=>⟨_,_,rfl,(hF.get (i:=5) rfl),(hF.get (i:=6) rfl)⟩) H rfl hbb2 (by simpa using q4G hx2) fun w4 H=>Z (X ((V) ((AN hk2 hl1) ((A) (Z (I1 hb1 ⟨k1+1,(List.set s1 k1 y1),()⟩))))))
 obtain rfl:=e
 exact CE (R ((V) ((AZ) (W1 hr))))
def j0Z:Nat→(List Phase)→(List (List Phase))→Option (List (List Phase)):=fun k1 x1 s1=>(z2I x1).bind fun y1=>(s1[k1]?).bind fun x2=>some (List.set s1 k1 y1)
def q9Y (a0:(List (List Phase))):Option (List (List Phase)):=grd (0≤(a0.length:Int)∧(a0.length:Int)*24≤281474976710656∧(a0.length:Int)≤9223372036854775807) <| (q2J j0Z 0 a0 (List.replicate a0.length ([]:(List Phase)))).bind fun s1=>some s1
theorem z2J {a0 r}(hr:q9Y a0=some r){z0}(ha0:rdS F0 w0 a0 z0):RT 9 #[z0] w0 fun v w=>∃ A0 n0 c0,v=(.slice A0 n0 c0)∧HL F0 [] w0 w [] [.G 54 r (.slice A0 n0 c0)]:=by
 obtain⟨A0',n0',c0',rfl⟩:=ha0.form3
 have H:=(HL.start F0 w0).argS ha0
 refine (En Tryz.func9) ?_
 refine R ((A) (Z (R ((V) ((NI H 0) fun hl1=>?_)))))
 refine gg hr fun hg1 hr=>?_
 refine q0B (x:=([]:(List Phase))) rfl rfl rfl el37 sz54 by54 ze54 (fun _=>⟨_,rfl,ownS.nil (Nat.zero_le _)⟩) rfl rfl hg1 H fun A1 n1 c1 w1 H=>?_
 have H:=H.toG (i:=0) rfl
 refine (A) (Z (Y (R ((AZ) ?_))))
 refine bb hr fun q1 hq1 hr=>?_
 refine (lE hq1 (fun k1 s1 _=>[(0,.slice A0' n0' c0'),(3,.slice A1 n1 c1),(4,zN k1)]) (fun s1 _ w=>HL F0 [] w0 w [.S a0 (.slice A0' n0' c0')] [.G 54 s1 (.slice A1 n1 c1)]) ()) ?_
 rintro k1 s1 _ σ w2 hk1 hq1 H
 refine Y (R ((V) ((V) ((NN (rs H 0)) ((BZ) ?_)))))
 refine (iE hq1 (fun hk2 x1 z1 hx1 hb1 hq1=>?_) fun e=>?_)
 ·refine K (Y ?_)
  refine Bk (X ((V) ((V) ((V) ((V) ?_)))))
  obtain⟨b1,ob1,cb1,A2,n2,c2,hvb1,H⟩:=z5O H 0 hx1
  refine (J 1 hvb1 hx1) ((L0 H 1) ?_)
  refine bb hb1 fun y1 hy1 hb1=>?_
  obtain⟨F,hF,hcl⟩:=H.call
  refine (CA ok23 (j2f hy1 (hF.get (i:=3) rfl))) ?_
  rintro _ w3 hE ⟨A3,n3,c3,rfl,H'⟩
  have H:HL F0 [] w0 w3 [.S a0 (.slice A0' n0' c0'),.A b1 (ob1+k1*1) [.slice A2 n2 c2],.R x1 [.slice A2 n2 c2],.S x1 (.slice A2 n2 c2)] [.G 54 s1 (.slice A1 n1 c1),.G 100 y1 (.slice A3 n3 c3)]:=hcl H'
  refine bb hb1 fun x2 hx2 hb1=>?_
  obtain⟨b2,cb2,hvb2,hbb2⟩:=H.ptG (i:=0) rfl hx2
  refine (J 1 hvb2 hx2) ?_
  have H:=H.frzG (i:=1) rfl
  exact q0Y (i:=0) (z:=y1) rfl rfl rfl sz54 rfl rfl rfl (fun F hF=>⟨_,rfl,(hF.get (i:=4) rfl)⟩) H rfl hbb2 (by simpa using q4G hx2) fun w4 H=>Z (X ((V) ((AN hk2 hl1) ((A) (Z (I1 hb1 ⟨k1+1,(List.set s1 k1 y1),()⟩))))))
 obtain rfl:=e
 exact CE (R ((V) ((AZ) (W1 hr))))
def z8P (a0:Step):Option Step:=some a0
theorem j5c {a0 r}(hr:z8P a0=some r){ca0}(ha0:rd F0 w0 a0 ca0):RT 80 #[ag ca0] w0 fun v w=>v = .agg #[.int .i64 r.Kind,.int .i64 r.Pos,.int .i64 r.Visit,.string r.Name]∧I64 r.Kind∧I64 r.Pos∧I64 r.Visit∧r.Name.size≤9223372036854775807:=by
 have H:=(HL.start F0 w0).argR ha0
 obtain⟨rfl,hI1,hI2,hI3,hS1,H⟩:=j0N H 0
 refine (En Tryz.func80) ?_
 refine R ((BX H) fun b1 w1 H=>(AH j6d H) fun b2 w2 H=>Z (R ((AH j6d H) fun b3 w3 H=>Z (R ((D 0) ((L H 0) ((D 0) ((SB H 2) fun w4 H=>Z (R ((D 1) ((L H 0) ((D 1) ((SB H 2) fun w5 H=>Z (R ((D 2) ((L H 0) ((D 2) ((SB H 2) fun w6 H=>Z (R ((D 3) ((L H 0) ((D 3) ((SB H 2) fun w7 H=>Z (R ((LB H 2) ((SB H 1) fun w8 H=>Z (CR ?_)))))))))))))))))))))))))))
 obtain rfl:=sm hr
 exact⟨_,resC rfl k2h j9X rfl rfl (ab H 1) rfl,H.ext0,rfl,hI1,hI2,hI3,hS1⟩
def j3q:Nat→Step→(List Step)→Option (List Step):=fun k1 x1 s1=>(z8P x1).bind fun y1=>(s1[k1]?).bind fun x2=>some (List.set s1 k1 y1)
def z6V (a0:(List Step)):Option (List Step):=grd (0≤(a0.length:Int)∧(a0.length:Int)*40≤281474976710656∧(a0.length:Int)≤9223372036854775807) <| (q2J j3q 0 a0 (List.replicate a0.length (⟨(0:Int),(0:Int),(0:Int),(⟨#[]⟩:ByteArray)⟩:Step))).bind fun s1=>some s1
theorem j3r {a0 r}(hr:z6V a0=some r){z0}(ha0:rdS F0 w0 a0 z0):RT 48 #[z0] w0 fun v w=>∃ A0 n0 c0,v=(.slice A0 n0 c0)∧HL F0 [] w0 w [] [.O 102 r (.slice A0 n0 c0)]:=by
 obtain⟨A0',n0',c0',rfl⟩:=ha0.form3
 have H:=(HL.start F0 w0).argS ha0
 refine (En Tryz.func48) ?_
 refine R ((A) (Z (R ((V) ((NI H 0) fun hl1=>?_)))))
 refine gg hr fun hg1 hr=>?_
 refine q0B (x:=(⟨(0:Int),(0:Int),(0:Int),eB⟩:Step)) rfl rfl rfl el55 j9X k2l j6d (fun _=>⟨rfl,dI,dI,dI,dI,rfl⟩) rfl rfl hg1 H fun A1 n1 c1 w1 H=>(A) (Z (Y (R ((AZ) ?_))))
 refine bb hr fun q1 hq1 hr=>?_
 refine (lE hq1 (fun k1 s1 _=>[(0,.slice A0' n0' c0'),(3,.slice A1 n1 c1),(4,zN k1)]) (fun s1 _ w=>HL F0 [] w0 w [.S a0 (.slice A0' n0' c0')] [.O 102 s1 (.slice A1 n1 c1)]) ()) ?_
 rintro k1 s1 _ σ w2 hk1 hq1 H
 refine Y (R ((V) ((V) ((NN (rs H 0)) ((BZ) ?_)))))
 refine (iE hq1 (fun hk2 x1 z1 hx1 hb1 hq1=>?_) fun e=>?_)
 ·refine K (Y ?_)
  refine Bk (X ((V) ((V) ((V) ((V) ?_)))))
  obtain⟨b1,ob1,cb1,hvb1,hI1,hI2,hI3,hS1,H⟩:=z4z H 0 hx1
  refine (J 4 hvb1 hx1) ((LA H 1) ?_)
  refine bb hb1 fun y1 hy1 hb1=>?_
  refine (CA ok80 (j5c hy1 (F0:=nF) ⟨rfl,hI1,hI2,hI3,hS1⟩)) ?_
  rintro _ w3 hE ⟨rfl,hI4,hI5,hI6,hS2⟩
  have H:=H.ext hE
  refine bb hb1 fun x2 hx2 hb1=>?_
  obtain⟨b2,cb2,hvb2,hbb2⟩:=po H 0 hx2
  refine (J 4 hvb2 hx2) ?_
  exact q0G (i:=0) (z:=y1) rfl rfl rfl j9X rfl rfl rfl (fun _=>⟨rfl,hI4,hI5,hI6,hS2,rfl⟩) H rfl hbb2 (by simpa using q4G hx2) fun w4 H=>Z (X ((V) ((AN hk2 hl1) ((A) (Z (I1 hb1 ⟨k1+1,(List.set s1 k1 y1),()⟩))))))
 obtain rfl:=e
 exact CE (R ((V) ((AZ) (W1 hr))))
def q8G (a0:RulePlan):Option RulePlan:=(z6V a0.Steps).bind fun y1=>some (⟨a0.Rule,y1⟩:RulePlan)
theorem z9T {a0 r}(hr:q8G a0=some r){ca0}(ha0:rd F0 w0 a0 ca0):RT 24 #[ag ca0] w0 fun v w=>∃ A0 n0 c0,v = .agg #[.string r.Rule,(.slice A0 n0 c0)]∧r.Rule.size≤9223372036854775807∧HL F0 [] w0 w [] [.O 102 r.Steps (.slice A0 n0 c0)]:=by
 have H:=(HL.start F0 w0).argR ha0
 obtain⟨A1,n1,c1,rfl,hS1,H⟩:=z2B H 0
 refine (En Tryz.func24) ?_
 refine R ((BX H) fun b1 w1 H=>(AH ze57 H) fun b2 w2 H=>Z (R ((AH ze57 H) fun b3 w3 H=>Z (R ((D 0) ((L H 0) ((D 0) ((SB H 2) fun w4 H=>Z (R ((D 1) ((L H 0) ?_)))))))))))
 refine bb hr fun y1 hy1 hr=>?_
 refine (CA ok48 (j3r hy1 (rs H 1))) ?_
 rintro _ w5 hE ⟨A2,n2,c2,rfl,H'⟩
 have H:=H.callA H' tv
 refine (D 1) ((SB H 2) fun w6 H=>Z (R ((LB H 2) ((SB H 1) fun w7 H=>Z (CR ?_)))))
 obtain rfl:=sm hr
 exact⟨_,resC rfl ag57 sz57 rfl rfl (ab H 1) rfl,H.ext0,_,_,_,rfl,hS1,H.outM (fr':=[]) [false,false,false,true] tw⟩
def z8Q:Nat→RulePlan→(List RulePlan)→Option (List RulePlan):=fun k1 x1 s1=>(q8G x1).bind fun y1=>(s1[k1]?).bind fun x2=>some (List.set s1 k1 y1)
def q8b (a0:(List RulePlan)):Option (List RulePlan):=grd (0≤(a0.length:Int)∧(a0.length:Int)*40≤281474976710656∧(a0.length:Int)≤9223372036854775807) <| (q2J z8Q 0 a0 (List.replicate a0.length (⟨(⟨#[]⟩:ByteArray),[]⟩:RulePlan))).bind fun s1=>some s1
theorem z0X {a0 r}(hr:q8b a0=some r){z0}(ha0:rdS F0 w0 a0 z0):RT 10 #[z0] w0 fun v w=>∃ A0 n0 c0,v=(.slice A0 n0 c0)∧HL F0 [] w0 w [] [.G 57 r (.slice A0 n0 c0)]:=by
 obtain⟨A0',n0',c0',rfl⟩:=ha0.form3
 have H:=(HL.start F0 w0).argS ha0
 refine (En Tryz.func10) ?_
 refine R ((A) (Z (R ((V) ((NI H 0) fun hl1=>?_)))))
 refine gg hr fun hg1 hr=>?_
 refine q0B (x:=(⟨eB,[]⟩:RulePlan)) rfl rfl rfl el39 sz57 by57 ze57 (fun _=>⟨_,[],rfl,dI,rfl,ownS.nil (Nat.zero_le _)⟩) rfl rfl hg1 H fun A1 n1 c1 w1 H=>?_
 have H:=H.toG (i:=0) rfl
 refine (A) (Z (Y (R ((AZ) ?_))))
 refine bb hr fun q1 hq1 hr=>?_
 refine (lE hq1 (fun k1 s1 _=>[(0,.slice A0' n0' c0'),(3,.slice A1 n1 c1),(4,zN k1)]) (fun s1 _ w=>HL F0 [] w0 w [.S a0 (.slice A0' n0' c0')] [.G 57 s1 (.slice A1 n1 c1)]) ()) ?_
 rintro k1 s1 _ σ w2 hk1 hq1 H
 refine Y (R ((V) ((V) ((NN (rs H 0)) ((BZ) ?_)))))
 refine (iE hq1 (fun hk2 x1 z1 hx1 hb1 hq1=>?_) fun e=>?_)
 ·refine K (Y ?_)
  refine Bk (X ((V) ((V) ((V) ((V) ?_)))))
  obtain⟨b1,ob1,cb1,A2,n2,c2,hvb1,hS1,H⟩:=q8x H 0 hx1
  refine (J 2 hvb1 hx1) ((LA H 1) ?_)
  refine bb hb1 fun y1 hy1 hb1=>?_
  refine (CA ok24 (z9T hy1 ⟨_,rfl,hS1,(rs H 3)⟩)) ?_
  rintro _ w3 hE ⟨A3,n3,c3,rfl,hS2,H'⟩
  have H:=H.callA H' tv
  refine bb hb1 fun x2 hx2 hb1=>?_
  obtain⟨b2,cb2,hvb2,hbb2⟩:=H.ptG (i:=0) rfl hx2
  refine (J 2 hvb2 hx2) ?_
  have H:=H.frzO (i:=1) rfl
  exact q0Y (i:=0) (z:=y1) rfl rfl rfl sz57 rfl rfl rfl (fun F hF=>⟨_,rfl,hS2,(hF.get (i:=4) rfl)⟩) H rfl hbb2 (by simpa using q4G hx2) fun w4 H=>Z (X ((V) ((AN hk2 hl1) ((A) (Z (I1 hb1 ⟨k1+1,(List.set s1 k1 y1),()⟩))))))
 obtain rfl:=e
 exact CE (R ((V) ((AZ) (W1 hr))))
def z5X (rec_sHasRemote:Expr→Option Bool):Nat→Expr→Unit→Option (Unit ⊕ Bool):=fun k1 x1 _=>(rec_sHasRemote x1).bind fun y1=>if y1=true then some (.inr true) else some (.inl ())
def z1A (rec_sHasRemote:Expr→Option Bool)(a0:Expr):Option Bool:=(q2u (z5X rec_sHasRemote) 0 a0.Args ()).bind <| onr (fun r1=>some r1) fun _=>some (decide (a0.Kind=8))
theorem z9U {rec_sHasRemote:Expr→Option Bool}(ih_sHasRemote:∀ {a0:Expr} {r:Bool},rec_sHasRemote a0=some r→∀ {F0:Nat→Prop} {w0:World} {ca0} (ha0:rd F0 w0 a0 ca0),RB 69 #[ag ca0] w0 r){a0}{r}(hr:z1A rec_sHasRemote a0=some r){ca0}(ha0:rd F0 w0 a0 ca0):RB 69 #[ag ca0] w0 r:=by
 have H:=(HL.start F0 w0).argR ha0
 obtain⟨A1,n1,c1,rfl,hI1,hI2,hI3,hI4,hS1,hS2,H⟩:=q3q H 0
 refine (En Tryz.func69) ?_
 refine R ((BX H) fun b1 w1 H=>(A) (Z (Y (R ((AZ) ?_)))))
 refine bb hr fun q1 hq1 hr=>?_
 refine (lF hq1 (fun k1 _ _=>[(1,pB b1),(3,zN k1)]) (fun _ _ w=>HL F0 [] w0 w [.R a0 (q2D a0 A1 n1 c1),.S a0.Args (.slice A1 n1 c1)] [.B b1 136 (q2D a0 A1 n1 c1)]) ()) ?_
 rintro k1 _ _ σ w2 hk1 hq1 H
 refine Y (R ((V) ((D 6) ((L H 0) ((NI H 1) fun hl1=>(BZ) ?_)))))
 refine (iF hq1 hr (fun hk2 x1 z1 hx1 hb1 hs1 ht1=>?_) fun hr=>?_)
 ·refine K (Y ?_)
  refine Bk (R ((D 6) ((L H 0) ((V) ?_))))
  obtain⟨b2,ob2,cb2,A2,n2,c2,hvb2,hI5,hI6,hI7,hI8,hS3,hS4,H⟩:=q4f H 1 hx1
  refine (J 7 hvb2 hx1) ((LA H 2) ?_)
  refine bb hb1 fun y1 hy1 hb1=>?_
  refine (CA ok69 (ih_sHasRemote hy1 (q2r.2 ⟨_,rfl,hI5,hI6,hI7,hI8,hS3,hS4,(rs H 4)⟩))) (cE H fun w3 H=>Z (iB hb1 (fun _ hb1=>?_) fun _ hb1=>?_))
  ·exact R ((AZ) (W2 hb1 ht1 hr))
  exact K (X ((V) ((AN hk2 hl1) ((A) (Z (I2 hb1 hs1 ⟨k1+1,(),()⟩))))))
 exact CE (R ((D 0) ((L H 0) ((B) ((AZ) (W1 hr))))))
def q9Z:Nat→Expr→Option Bool
  | 0,_=>none
  | n+1,a0=>z1A (q9Z n) a0
def z3O (a0:Expr):Option Bool:=recO fun n=>q9Z n a0
theorem z9V (n:Nat):∀ {a0:Expr} {r:Bool},q9Z n a0=some r→∀ {F0:Nat→Prop} {w0:World} {ca0} (ha0:rd F0 w0 a0 ca0),RB 69 #[ag ca0] w0 r:=by
 induction n with
 | zero=>intro a0 r hr; exact nomatch (show (none:Option Bool)=some r from hr)
 | succ n ih=>intro a0 r hr; exact z9U ih hr
theorem j1a {a0}{r}(hr:z3O a0=some r){ca0}(ha0:rd F0 w0 a0 ca0):RB 69 #[ag ca0] w0 r:=by
 obtain⟨n,hn⟩:=q4v hr
 exact z9V n hn ha0
def z5Y:Nat→Equation→Unit→Option (Unit ⊕ Bool):=fun k1 x1 _=>(z3O x1.Expr).bind fun y1=>if y1=true then some (.inr true) else some (.inl ())
def z1B (a0:Rule):Option Bool:=(q2u z5Y 0 a0.Equations ()).bind <| onr (fun r1=>some r1) fun _=>some false
theorem j1b {a0}{r}(hr:z1B a0=some r){ca0}(ha0:rd F0 w0 a0 ca0):RB 37 #[ag ca0] w0 r:=by
 have H:=(HL.start F0 w0).argR ha0
 obtain⟨A1,n1,c1,A2,n2,c2,A3,n3,c3,rfl,hS1,hS2,H⟩:=q3j H 0
 let d1:=q4o a0 A1 n1 c1 A2 n2 c2 A3 n3 c3
 refine (En Tryz.func37) ?_
 refine R ((BX H) fun b1 w1 H=>(A) (Z (Y (R ((AZ) ?_)))))
 refine bb hr fun q1 hq1 hr=>?_
 refine (lF hq1 (fun k1 _ _=>[(1,pB b1),(3,zN k1)]) (fun _ _ w=>HL F0 [] w0 w [.R a0 d1,.S a0.Right (.slice A1 n1 c1),.S a0.Equations (.slice A2 n2 c2),.S a0.Contributions (.slice A3 n3 c3)] [.B b1 62 d1]) ()) ?_
 rintro k1 _ _ σ w2 hk1 hq1 H
 refine Y (R ((V) ((D 4) ((L H 0) ((NI H 2) fun hl1=>(BZ) ?_)))))
 refine (iF hq1 hr (fun hk2 x1 z1 hx1 hb1 hs1 ht1=>?_) fun hr=>?_)
 ·refine K (Y ?_)
  refine Bk (R ((D 4) ((L H 0) ((V) ?_))))
  obtain⟨b2,ob2,cb2,A4,n4,c4,hvb2,hI1,hS3,hI2,hI3,hI4,hI5,hS4,hS5,H⟩:=q3P H 2 hx1
  refine (J 9 hvb2 hx1) ((D 2) ?_)
  refine q0b rfl rfl (q0c rfl q7L q5u rfl ((ra H 4).part 2 7) rfl) ?_
  refine bb hb1 fun y1 hy1 hb1=>?_
  refine (CA ok69 (j1a hy1 (q2r.2 ⟨_,rfl,hI2,hI3,hI4,hI5,hS4,hS5,(rs H 6)⟩))) (cE H fun w3 H=>Z (iB hb1 (fun _ hb1=>?_) fun _ hb1=>?_))
  ·exact R ((AZ) (W2 hb1 ht1 hr))
  exact K (X ((V) ((AN hk2 hl1) ((A) (Z (I2 hb1 hs1 ⟨k1+1,(),()⟩))))))
 exact CE (R ((AZ) (W1 hr)))
def q5q (a0 a1 a2:Int):Option Bool:=if a1≤a0 then some (decide (a0≤a2)) else some false
theorem q5j {a0 a1 a2}{r}(hr:q5q a0 a1 a2=some r){F0:Nat→Prop}(ha0:I64 a0)(ha1:I64 a1)(ha2:I64 a2):RB 72 #[.int .i64 a0,.int .i64 a1,.int .i64 a2] w0 r:=by
 have H:=HL.start F0 w0
 refine (En Tryz.func72) ?_
 refine R ((A) (Z (R ((V) ((V) ((B) (jD hr (fun _ hr=>?_) fun _ hr=>?_)))))))
 ·exact (G) ((V) ((G) ((V) ((G) ((B) ((T) ((AZ) (W1 hr))))))))
 exact (O) ((O) ((O) ((U) ((AZ) (W1 hr)))))
def z8R (a0:ByteArray):Nat→Unit→Option (Unit ⊕ Bool):=fun k1 _=>(a0.data[k1]?).bind fun x1=>( if 97≤(x1.toNat:Int) then some (decide ((x1.toNat:Int)≤122)) else some false ).bind fun s1=>( if 48≤(x1.toNat:Int) then some (decide ((x1.toNat:Int)≤57)) else some false ).bind fun s2=>( if s1=true then some false else ( if (k1:Int)=0 then some (true,true) else some (false,!s2) ).bind fun (s4,s5)=>some s5 ).bind fun s3=>if s3=true then some (.inr false) else some (.inl ())
def z6W (a0:ByteArray):Option Bool:=(z4P (z8R a0) 0 (a0.size) ()).bind <| onr (fun r1=>some r1) fun _=>some (decide (0 < (a0.size:Int)))
theorem j3s {a0}{r}(hr:z6W a0=some r){F0:Nat→Prop}(ha0:a0.size≤9223372036854775807):RB 228 #[.string a0] w0 r:=by
 have H:=HL.start F0 w0
 refine (En Tryz.func228) ?_
 refine R ((A) (Z (Y (R ((AZ) ?_)))))
 refine bb hr fun q1 hq1 hr=>?_
 refine (lM hq1 (fun k1 _ _=>[(0,.string a0),(3,zN k1)]) (fun _ _ w=>HL F0 [] w0 w [] []) ()) ?_
 rintro k1 _ _ σ w1 hk1 hq1 H
 refine Y (R ((V) ((V) ?_)))
 refine q0b rfl rfl (q0w rfl Tryz.underlying9 rfl) ((BZ) ?_)
 refine q0e rfl (fun h1=>?_) (fun h1=>?_)
 ·have hk2:=q2G h1
  obtain⟨z1,hb1,hs1,ht1⟩:=j0J hq1 hk2
  refine K (Y ?_)
  refine Bk (R ((V) ((V) ?_)))
  refine bb hb1 fun x1 hx1 hb1=>?_
  refine q0b rfl rfl (q1a rfl Tryz.underlying9 rfl rfl hx1) ((B) ?_)
  refine bb hb1 fun q2 hm1 hb1=>?_
  refine cu H 6 [(0,.string a0),(3,zN k1),(21,.bool q2)] [] [] ?_ fun σ w2 H=>?_
  ·refine jD hm1 (fun _ hm1=>?_) fun _ hm1=>?_
   ·refine (G) ((V) ((G) ((V) ((G) ?_))))
    exact q0b rfl rfl (q1a rfl Tryz.underlying9 rfl rfl hx1) ((G) ((B) ((T) (Z (C1 hm1)))))
   exact OF hm1
  refine (A) (Z (R ((V) ((V) ?_))))
  refine q0b rfl rfl (q1a rfl Tryz.underlying9 rfl rfl hx1) ((B) ?_)
  refine bb hb1 fun q3 hm2 hb1=>?_
  refine cu H 6 [(0,.string a0),(3,zN k1),(4,.bool q2),(31,.bool q3)] [] [] ?_ fun σ w3 H=>?_
  ·refine jD hm2 (fun _ hm2=>?_) fun _ hm2=>?_
   ·refine (G) ((V) ((G) ((V) ((G) ?_))))
    exact q0b rfl rfl (q1a rfl Tryz.underlying9 rfl rfl hx1) ((G) ((B) ((T) (Z (C1 hm2)))))
   exact OF hm2
  refine (A) (Z (R ((V) ((N) ?_))))
  refine bb hb1 fun q4 hm3 hb1=>?_
  refine cu H 8 [(0,.string a0),(3,zN k1),(41,.bool q4)] [] [] ?_ fun σ w5 H=>?_
  ·refine jM hm3 (fun _ hm3=>?_) fun _ hm3=>?_
   ·refine (G) ((V) ((G) ((B) ((G) ?_))))
    refine bb hm3 fun q5 hm4 hm3=>?_
    refine WL.cut 4 (fun ρ' w=>∃ (s4:Bool) (s5:Bool),q5=(s4,s5)∧q4R ρ' [(0,.string a0),(3,zN k1),(34,.bool true),(35,zN k1),(36,.bool (decide ((k1:Int)=0))),(37,.bool s4),(40,.bool s5)]∧HL F0 [] w0 w [] []) ?_ ?_
    ·refine (G) (jD hm4 (fun _ hm4=>?_) fun _ hm4=>?_)
     ·exact (O) ((O) ((G) ((T) (Z (C1 hm4)))))
     exact (G) ((V) ((G) ((N) ((G) ((U) (Z (C1 hm4)))))))
    rintro ρ' w4 ⟨s4,s5,rfl,hag,H⟩
    obtain⟨σ,rfl⟩:=q4H hag
    exact (T) (Z (C1 hm3))
   exact OF hm3
  refine Z (iB hb1 (fun _ hb1=>?_) fun _ hb1=>?_)
  ·exact R ((AZ) (W2 hb1 ht1 hr))
  exact K (X ((V) ((BN (q0I (a:=k1) (b:=1) rfl (z5K hk2 (z8m ha0).2))) ((A) (Z (I2 hb1 hs1 ⟨k1+1,(),()⟩))))))
 obtain rfl:=z8v hq1 (q2t h1)
 have hr:=(q2S _ _ _).symm.trans hr
 refine CE (R ((V) ?_))
 exact q0b rfl rfl (q0w rfl Tryz.underlying9 rfl) ((B) ((AZ) (W1 hr)))
def z2K:Option (List ByteArray):=some [(⟨#[105,102]⟩:ByteArray),(⟨#[116,104,101,110]⟩:ByteArray),(⟨#[101,108,115,101]⟩:ByteArray),(⟨#[116,114,117,101]⟩:ByteArray),(⟨#[102,97,108,115,101]⟩:ByteArray),(⟨#[108,105,116]⟩:ByteArray),(⟨#[110,111,110,101]⟩:ByteArray),(⟨#[115,101,108,102]⟩:ByteArray),(⟨#[111,102]⟩:ByteArray),(⟨#[109,97,120]⟩:ByteArray),(⟨#[109,105,110]⟩:ByteArray),(⟨#[119,105,116,104]⟩:ByteArray),(⟨#[104,97,115]⟩:ByteArray)]
theorem z9W {r:(List ByteArray)}(hr:z2K=some r):RT 245 #[] w0 fun v w=>∃ A0 n0 c0,v=(.slice A0 n0 c0)∧HL F0 [] w0 w [] [.O 9 r (.slice A0 n0 c0)]:=by
 have H:=HL.start F0 w0
 refine (En Tryz.func245) ?_
 refine R ((AZ) (R ?_))
 refine q1Y (xs:=[(⟨#[105,102]⟩:ByteArray),(⟨#[116,104,101,110]⟩:ByteArray),(⟨#[101,108,115,101]⟩:ByteArray),(⟨#[116,114,117,101]⟩:ByteArray),(⟨#[102,97,108,115,101]⟩:ByteArray),(⟨#[108,105,116]⟩:ByteArray),(⟨#[110,111,110,101]⟩:ByteArray),(⟨#[115,101,108,102]⟩:ByteArray),(⟨#[111,102]⟩:ByteArray),(⟨#[109,97,120]⟩:ByteArray),(⟨#[109,105,110]⟩:ByteArray),(⟨#[119,105,116,104]⟩:ByteArray),(⟨#[104,97,115]⟩:ByteArray)]) rfl rfl rfl el58 sz9 ze9 rfl (z5g rfl (z5g rfl (z5g rfl (z5g rfl (z5g rfl (z5g rfl (z5g rfl (z5g rfl (z5g rfl (z5g rfl (z5g rfl (z5g rfl (z5g rfl k1e))))))))))))) rfl rfl rfl (fun _=>(ownL.cons1 (α:=ByteArray) ⟨rfl,rfl,(by decide:(⟨#[105,102]⟩:ByteArray).size≤9223372036854775807)⟩ (ownL.cons1 (α:=ByteArray) ⟨rfl,rfl,(by decide:(⟨#[116,104,101,110]⟩:ByteArray).size≤9223372036854775807)⟩ (ownL.cons1 (α:=ByteArray) ⟨rfl,rfl,(by decide:(⟨#[101,108,115,101]⟩:ByteArray).size≤9223372036854775807)⟩ (ownL.cons1 (α:=ByteArray) ⟨rfl,rfl,(by decide:(⟨#[116,114,117,101]⟩:ByteArray).size≤9223372036854775807)⟩ (ownL.cons1 (α:=ByteArray) ⟨rfl,rfl,(by decide:(⟨#[102,97,108,115,101]⟩:ByteArray).size≤9223372036854775807)⟩ (ownL.cons1 (α:=ByteArray) ⟨rfl,rfl,(by decide:(⟨#[108,105,116]⟩:ByteArray).size≤9223372036854775807)⟩ (ownL.cons1 (α:=ByteArray) ⟨rfl,rfl,(by decide:(⟨#[110,111,110,101]⟩:ByteArray).size≤9223372036854775807)⟩ (ownL.cons1 (α:=ByteArray) ⟨rfl,rfl,(by decide:(⟨#[115,101,108,102]⟩:ByteArray).size≤9223372036854775807)⟩ (ownL.cons1 (α:=ByteArray) ⟨rfl,rfl,(by decide:(⟨#[111,102]⟩:ByteArray).size≤9223372036854775807)⟩ (ownL.cons1 (α:=ByteArray) ⟨rfl,rfl,(by decide:(⟨#[109,97,120]⟩:ByteArray).size≤9223372036854775807)⟩ (ownL.cons1 (α:=ByteArray) ⟨rfl,rfl,(by decide:(⟨#[109,105,110]⟩:ByteArray).size≤9223372036854775807)⟩ (ownL.cons1 (α:=ByteArray) ⟨rfl,rfl,(by decide:(⟨#[119,105,116,104]⟩:ByteArray).size≤9223372036854775807)⟩ (ownL.cons1 (α:=ByteArray) ⟨rfl,rfl,(by decide:(⟨#[104,97,115]⟩:ByteArray).size≤9223372036854775807)⟩ ⟨rfl,rfl⟩)))))))))))))) rfl H fun A1 n1 c1 w1 H=>?_
 exact (AZ) (W1 hr)
def z5Z (a1:ByteArray):Nat→ByteArray→Unit→Option (Unit ⊕ Bool):=fun k1 x1 _=>if x1=a1 then some (.inr true) else some (.inl ())
def z0s (a0:(List ByteArray))(a1:ByteArray):Option Bool:=(q2u (z5Z a1) 0 a0 ()).bind <| onr (fun r1=>some r1) fun _=>some false
theorem z6a {a0}{a1}{r}(hr:z0s a0 a1=some r){z0}(ha0:rdS F0 w0 a0 z0)(ha1:a1.size≤9223372036854775807):RB 174 #[z0,.string a1] w0 r:=by
 obtain⟨A0',n0',c0',rfl⟩:=ha0.form3
 have H:=(HL.start F0 w0).argS ha0
 refine (En Tryz.func174) ?_
 refine R ((A) (Z (Y (R ((AZ) ?_)))))
 refine bb hr fun q1 hq1 hr=>?_
 refine (lF hq1 (fun k1 _ _=>[(0,.slice A0' n0' c0'),(1,.string a1),(5,zN k1)]) (fun _ _ w=>HL F0 [] w0 w [.S a0 (.slice A0' n0' c0')] []) ()) ?_
 rintro k1 _ _ σ w1 hk1 hq1 H
 refine Y (R ((V) ((V) ((NI H 0) fun hl1=>(BZ) ?_))))
 refine (iF hq1 hr (fun hk2 x1 z1 hx1 hb1 hs1 ht1=>?_) fun hr=>?_)
 ·refine K (Y ?_)
  refine Bk (R ((V) ((V) ?_)))
  obtain⟨b1,ob1,cb1,hvb1,hS1,H⟩:=q7l H 0 hx1
  refine (J 1 hvb1 hx1) ((L0 H 1) ((V) ((BZ) (iD hb1 (fun _ hb1=>?_) fun _ hb1=>?_))))
  ·exact R ((AZ) (W2 hb1 ht1 hr))
  exact K (X ((V) ((AN hk2 hl1) ((A) (Z (I2 hb1 hs1 ⟨k1+1,(),()⟩))))))
 exact CE (R ((AZ) (W1 hr)))
def z0t (a0:ByteArray):Option Bool:=(z2K).bind fun y1=>(z0s y1 a0).bind fun y2=>some y2
theorem z9X {a0}{r}(hr:z0t a0=some r){F0:Nat→Prop}(ha0:a0.size≤9223372036854775807):RB 229 #[.string a0] w0 r:=by
 have H:=HL.start F0 w0
 refine (En Tryz.func229) ?_
 refine R ((AZ) (R ?_))
 refine bb hr fun y1 hy1 hr=>?_
 refine (CA k3V (z9W hy1 (F0:=nF))) ?_
 rintro _ w1 hE ⟨A1,n1,c1,rfl,H'⟩
 have H:=H.callA H' tv
 refine (V) ?_
 refine bb hr fun y2 hy2 hr=>?_
 exact (CA j8k (z6a hy2 (ro H 0) ha0)) (cE H fun w2 H=>(AZ) (W1 hr))
def q3p (a0:ByteArray):Option Bool:=(z6W a0).bind fun y1=>( if y1=true then some (decide ((a0.size:Int)≤8)) else some false ).bind fun s1=>( if s1=true then (z0t a0).bind fun y2=>some (!y2) else some false ).bind fun s2=>some s2
theorem q3Q {a0}{r}(hr:q3p a0=some r){F0:Nat→Prop}(ha0:a0.size≤9223372036854775807):RB 204 #[.string a0] w0 r:=by
 have H:=HL.start F0 w0
 refine (En Tryz.func204) ?_
 refine R ((A) (Z (R ((V) ?_))))
 refine bb hr fun y1 hy1 hr=>?_
 refine (CA k3N (j3s hy1 (F0:=nF) ha0)) (cE H fun w1 H=>?_)
 refine bb hr fun q1 hm1 hr=>?_
 refine cu H 5 [(0,.string a0),(2,.bool false),(9,.bool q1)] [] [] ?_ fun σ w2 H=>?_
 ·refine jB hm1 (fun _ hm1=>?_) fun _ hm1=>?_
  ·refine (G) ((V) ((G) ?_))
   exact q0b rfl rfl (q0w rfl Tryz.underlying9 rfl) ((G) ((B) ((T) (Z (C1 hm1)))))
  exact OF hm1
 refine bb hr fun q2 hm2 hr=>?_
 refine cu H 5 [(2,.bool false),(14,.bool q2)] [] [] ?_ fun σ w4 H=>?_
 ·refine jB hm2 (fun _ hm2=>?_) fun _ hm2=>?_
  ·refine (G) ((V) ((G) ?_))
   refine bb hm2 fun y2 hy2 hm2=>?_
   exact (CA k3O (z9X hy2 (F0:=nF) ha0)) (cE H fun w3 H=>(G) ((N) ((T) (Z (C1 hm2)))))
  exact OF hm2
 exact (AZ) (W1 hr)
def q6O (a0:Attribute):Option Bool:=(q3p a0.Name).bind fun y1=>( if y1=true then (q5q a0.Type_ 1 4).bind fun y2=>some (!y2) else some true ).bind fun s1=>( if s1=true then some true else (q5q a0.Mode 1 3).bind fun y3=>some (!y3) ).bind fun s2=>if s2=true then some false else ( if a0.Mode=3 then ( if a0.Type_=2 then some a0.Circular else some true ).bind fun s4=>some s4 else some false ).bind fun s3=>if s3=true then some false else ( if a0.Circular=true then some (decide (a0.Type_=2)) else some true ).bind fun s5=>some s5
theorem z4R {a0}{r}(hr:q6O a0=some r){ca0}(ha0:rd F0 w0 a0 ca0):RB 203 #[ag ca0] w0 r:=by
 let d1:=q3Z a0
 have H:=(HL.start F0 w0).argR ha0
 obtain⟨rfl,hS1,hI1,hI2,H⟩:=q4Z H 0
 refine (En Tryz.func203) ?_
 refine R ((BX H) fun b1 w1 H=>(A) (Z (Y (R ((D 0) ((L H 0) ?_))))))
 let d2:List It:=[.B b1 91 d1]
 refine bb hr fun y1 hy1 hr=>?_
 refine (CA z8C (q3Q hy1 (F0:=nF) hS1)) (cE H fun w2 H=>(N) ?_)
 refine bb hr fun q1 hm1 hr=>?_
 refine cu H 6 [(1,pB b1),(12,.bool q1)] [.R a0 d1] d2 ?_ fun σ w4 H=>?_
 ·refine jM hm1 (fun _ hm1=>?_) fun _ hm1=>?_
  ·exact OF hm1
  refine (G) ((D 1) ((G) ((L H 0) ((G) ?_))))
  refine bb hm1 fun y2 hy2 hm1=>?_
  exact (CA ok72 (q5j hy2 (F0:=nF) hI1 dI dI)) (cE H fun w3 H=>(G) ((N) ((U) (Z (C1 hm1)))))
 refine bb hr fun q2 hm2 hr=>?_
 refine cu H 6 [(1,pB b1),(18,.bool q2)] [.R a0 d1] d2 ?_ fun σ w6 H=>?_
 ·refine jB hm2 (fun _ hm2=>?_) fun _ hm2=>?_
  ·exact OF hm2
  refine (G) ((D 2) ((G) ((L H 0) ((G) ?_))))
  refine bb hm2 fun y3 hy3 hm2=>?_
  exact (CA ok72 (q5j hy3 (F0:=nF) hI2 dI dI)) (cE H fun w5 H=>(G) ((N) ((U) (Z (C1 hm2)))))
 refine Z (iB hr (fun _ hr=>?_) fun _ hr=>?_)
 ·exact R ((AZ) (W1 hr))
 refine K (Y (R ((D 2) ((L H 0) ((B) ?_)))))
 refine bb hr fun q3 hm3 hr=>?_
 refine cu H 9 [(1,pB b1),(30,.bool q3)] [.R a0 d1] d2 ?_ fun σ w8 H=>?_
 ·refine jD hm3 (fun _ hm3=>?_) fun _ hm3=>?_
  ·refine (G) ((D 1) ((G) ((L H 0) ((G) ((B) ((G) ?_))))))
   refine bb hm3 fun q4 hm4 hm3=>?_
   refine cu H 4 [(1,pB b1),(22,.bool true),(29,.bool q4)] [.R a0 d1] d2 ?_ fun σ w7 H=>?_
   ·refine (G) (jN hm4 (fun _ hm4=>?_) fun _ hm4=>?_)
    ·exact (O) ((O) ((G) ((T) (Z (C1 hm4)))))
    exact (G) ((D 3) ((G) ((L H 0) ((G) ((U) (Z (C1 hm4)))))))
   exact (T) (Z (C1 hm3))
  exact OF hm3
 refine Z (iB hr (fun _ hr=>?_) fun _ hr=>?_)
 ·exact R ((AZ) (W1 hr))
 refine K (R ((D 3) ((L H 0) ((N) ?_))))
 refine bb hr fun q5 hm5 hr=>?_
 refine cu H 5 [(38,.bool q5)] [.R a0 d1] d2 ?_ fun σ w9 H=>?_
 ·refine jM hm5 (fun _ hm5=>?_) fun _ hm5=>?_
  ·exact OF hm5
  exact (G) ((D 1) ((G) ((L H 0) ((G) ((B) ((U) (Z (C1 hm5))))))))
 exact (AZ) (W1 hr)
def q8H (a0:(List ByteArray)):Nat→ByteArray→Unit→Option (Unit ⊕ Bool):=fun k1 x1 _=>grd (k1≤a0.length) <| (z0s (a0.take k1) x1).bind fun y1=>if y1=true then some (.inr false) else some (.inl ())
def q9B (a0:(List ByteArray)):Option Bool:=(q2u (q8H a0) 0 a0 ()).bind <| onr (fun r1=>some r1) fun _=>some true
theorem z8S {a0}{r}(hr:q9B a0=some r){z0}(ha0:rdS F0 w0 a0 z0):RB 205 #[z0] w0 r:=by
 obtain⟨A0',n0',c0',rfl⟩:=ha0.form3
 have H:=(HL.start F0 w0).argS ha0
 refine (En Tryz.func205) ?_
 refine R ((A) (Z (Y (R ((AZ) ?_)))))
 refine bb hr fun q1 hq1 hr=>?_
 refine (lF hq1 (fun k1 _ _=>[(0,.slice A0' n0' c0'),(3,zN k1)]) (fun _ _ w=>HL F0 [] w0 w [.S a0 (.slice A0' n0' c0')] []) ()) ?_
 rintro k1 _ _ σ w1 hk1 hq1 H
 refine Y (R ((V) ((V) ((NI H 0) fun hl1=>(BZ) ?_))))
 refine (iF hq1 hr (fun hk2 x1 z1 hx1 hb1 hs1 ht1=>?_) fun hr=>?_)
 ·refine K (Y ?_)
  refine Bk (Y ?_)
  refine q0d hmix (by kernel_rfl) ?_
  refine (qV) ((qV) ?_)
  refine gg hb1 fun hg1 hb1=>?_
  obtain⟨A1,n1,c1,e1,hc1,H⟩:=H.slH (i:=0) rfl hg1
  refine q0i rfl rfl (fun _ _=>q0L rfl el58 sz9 rfl rfl rfl hc1 e1) ?_
  refine (qV) ((qV) ?_)
  obtain⟨b1,ob1,cb1,hvb1,hS1,H⟩:=q7l H 0 hx1
  refine (qJ 1 hvb1 hx1) ((qL0 H 2) ?_)
  refine bb hb1 fun y1 hy1 hb1=>?_
  refine (qC j8k (fun _ hq=>z6a hy1 (rs (H.ext hq) 1) hS1)) ?_
  refine QL.nil (fun w2 hE=>?_)
  have H:=H.ext hE
  refine iB hb1 (fun _ hb1=>?_) fun _ hb1=>?_
  ·exact R ((AZ) (W2 hb1 ht1 hr))
  exact K (X ((V) ((AN hk2 hl1) ((A) (Z (I2 hb1 hs1 ⟨k1+1,(),()⟩))))))
 exact CE (R ((AZ) (W1 hr)))
def q7M:Nat→Attribute→(List ByteArray)→Option (((List ByteArray)) ⊕ Bool):=fun k1 x1 s1=>(q6O x1).bind fun y1=>if y1=true then grd (((s1.length:Int)+1)*16≤140737488355328∧(s1.length:Int)+1≤9223372036854775807) <| some (.inl (s1++[x1.Name])) else some (.inr false)
def q8l (a0:Symbol):Option Bool:=(q2u q7M 0 a0.Attributes ([]:List ByteArray)).bind <| onr (fun r1=>some r1) fun s1=>(q3p a0.Name).bind fun y2=>( if y2=true then some (decide ((s1.length:Int)≤4)) else some false ).bind fun s2=>( if s2=true then (q9B s1).bind fun y3=>some y3 else some false ).bind fun s3=>some s3
theorem z6X {a0}{r}(hr:q8l a0=some r){ca0}(ha0:rd F0 w0 a0 ca0):RB 173 #[ag ca0] w0 r:=by
 have H:=(HL.start F0 w0).argR ha0
 obtain⟨A1,n1,c1,rfl,hS1,H⟩:=q6e H 0
 let d2:Pr:=.S a0.Attributes (.slice A1 n1 c1)
 let d1:List Value:=[.string a0.Name,.slice A1 n1 c1]
 refine (En Tryz.func173) ?_
 refine R ((BX H) fun b1 w1 H=>(AZ) (R ?_))
 refine q0s (α:=ByteArray) rfl rfl rfl el58 sz9 H fun A2 n2 c2 w2 H=>(A) (Z (Y (R ((AZ) ?_))))
 refine bb hr fun q1 hq1 hr=>?_
 refine (lF hq1 (fun k1 s1 v1=>[(1,pB b1),(3,v1),(4,zN k1)]) (fun s1 v1 w=>HL F0 [] w0 w [.R a0 d1,d2] [.B b1 89 d1,.O 9 s1 v1]) (.slice A2 n2 c2)) ?_
 rintro k1 s1 v1 σ w3 hk1 hq1 H
 obtain⟨A3,n3,c3,rfl⟩:=(fo H 1)
 let d3:List It:=[.B b1 89 d1,.O 9 s1 (.slice A3 n3 c3)]
 refine Y (R ((V) ((D 1) ((L H 0) ((NI H 1) fun hl1=>(BZ) ?_)))))
 refine (iF hq1 hr (fun hk2 x1 z1 hx1 hb1 hs1 ht1=>?_) fun hr=>?_)
 ·refine K (Y ?_)
  refine Bk (Y (R ((D 1) ((L H 0) ((V) ?_)))))
  obtain⟨b2,ob2,cb2,hvb2,hS2,hI1,hI2,H⟩:=q4w H 1 hx1
  refine (J 4 hvb2 hx1) ((LA H 2) ?_)
  refine bb hb1 fun y1 hy1 hb1=>?_
  refine (CA k3G (z4R hy1 (F0:=nF) ⟨rfl,hS2,hI1,hI2⟩)) (cE H fun w4 H=>(N) (Z (iM hb1 (fun _ hb1=>?_) fun _ hb1=>?_)))
  ·exact R ((AZ) (W2 hb1 ht1 hr))
  refine K (X ((V) ((D 1) ((L H 0) ((V) ((J 4 hvb2 hx1) ((D 0) ((LC H 2) ?_))))))))
  refine q0p rfl rfl rfl el58 sz9 ze9 rfl rfl rfl rfl rfl rfl fun b3 w5 hE hb hB=>?_
  have H:=H.newB hE hb hB
  refine gg hb1 fun hg1 hb1=>?_
  refine q0t (i:=1) (ys:=[x1.Name]) rfl rfl rfl el58 sz9 by9 ze9 rfl rfl rfl H rfl (fun _=>ownL.single ⟨rfl,rfl,hS2⟩) (.inr ⟨_,_,rfl,At.blk (rb H 2)⟩) hg1 fun A4 n4 c4 w6 H=>(AZ) ?_
  refine q0a [(1,pB b1),(3,.slice A4 n4 c4),(4,zN k1)] ⟨rfl,rfl,rfl,trivial⟩ fun σ=>?_
  have H:HL F0 [] w0 w6 [.R a0 d1,d2,.A b2 (ob2+k1*4) (q3Z x1),.R x1 (q3Z x1)] [.B b1 89 d1,.O 9 (s1++[x1.Name]) (.slice A4 n4 c4),.B b3 9 [.string x1.Name]]:=H
  exact X ((V) ((AN hk2 hl1) ((A) (Z (I2 hb1 hs1 ⟨k1+1,(s1++[x1.Name]),(.slice A4 n4 c4)⟩)))))
 refine CE (R ((D 0) ((L H 0) ?_)))
 refine bb hr fun y2 hy2 hr=>?_
 refine (CA z8C (q3Q hy2 (F0:=nF) hS1)) (cE H fun w7 H=>?_)
 refine bb hr fun q2 hm1 hr=>?_
 refine cu H 5 [(3,.slice A3 n3 c3),(36,.bool q2)] [.R a0 d1,d2] d3 ?_ fun σ w8 H=>?_
 ·refine jB hm1 (fun _ hm1=>?_) fun _ hm1=>?_
  ·refine (G) ((V) ((G) ?_))
   have hl2:=(H.rO (i:=1) rfl).I
   exact (NN (ro H 1)) ((G) ((B) ((T) (Z (C1 hm1)))))
  exact OF hm1
 refine bb hr fun q3 hm2 hr=>?_
 refine cu H 4 [(40,.bool q3)] [.R a0 d1,d2] d3 ?_ fun σ w10 H=>?_
 ·refine jB hm2 (fun _ hm2=>?_) fun _ hm2=>?_
  ·refine (G) ((V) ((G) ?_))
   refine bb hm2 fun y3 hy3 hm2=>?_
   exact (CA k3H (z8S hy3 (ro H 1))) (cE H fun w9 H=>(T) (Z (C1 hm2)))
  exact OF hm2
 exact (AZ) (W1 hr)
def z0L (rec_sl4Left:Expr→Int→Option Int)(a0:Expr):(Int × Int)→Option ((Int × Int) ⊕ Int):=fun (s2,s3)=>if s3 < (a0.Args.length:Int) then if 0≤s2 then grd (0≤s3) <| (a0.Args[s3.toNat]?).bind fun x1=>(rec_sl4Left x1 s2).bind fun y1=>grd (I64 (s3+1)) <| some (.inl (y1,(s3+1))) else some (.inr s2) else some (.inr s2)
def z6b (rec_sl4Left:Expr→Int→Option Int)(a0:Expr)(a1:Int):Option Int:=grd (I64 (a1 - 1)) <| ( q7k (z0L rec_sl4Left a0) ((a1 - 1),0) ).bind fun s1=>some s1
theorem j3t {rec_sl4Left:Expr→Int→Option Int}(ih_sl4Left:∀ {a0:Expr} {a1 r:Int},rec_sl4Left a0 a1=some r→∀ {F0:Nat→Prop} {w0:World} {ca0} (ha0:rd F0 w0 a0 ca0) (ha1:I64 a1),RT 246 #[ag ca0,.int .i64 a1] w0 fun v w=>v = .int .i64 r∧I64 r){a0}{a1 r}(hr:z6b rec_sl4Left a0 a1=some r){ca0}(ha0:rd F0 w0 a0 ca0)(ha1:I64 a1):RT 246 #[ag ca0,.int .i64 a1] w0 fun v w=>v = .int .i64 r∧I64 r:=by
 have H:=(HL.start F0 w0).argR ha0
 obtain⟨A1,n1,c1,rfl,hI1,hI2,hI3,hI4,hS1,hS2,H⟩:=q3q H 0
 let d1:=q2D a0 A1 n1 c1
 let d2:List Pr:=[.R a0 d1,.S a0.Args (.slice A1 n1 c1)]
 refine (En Tryz.func246) ?_
 refine R ((BX H) fun b1 w1 H=>(A) (Z (R ((V) ?_))))
 refine gg hr fun hg1 hr=>(BN (Bin.sub hg1)) ((A) (Z (Y (R ((AZ) ?_)))))
 refine bb hr fun q1 hm1 hr=>?_
 refine q0u (fun ρ' w=>∃ (s1:Int),s1=q1∧q4R ρ' [(1,.int .i64 s1)]∧I64 s1∧HL F0 [] w0 w d2 [.B b1 136 d1]) ?_ ?_
 ·obtain⟨m1,hq1⟩:=q5g.1 hm1
  refine (lI hq1 (fun m1 ⟨s2,s3⟩ _=>[(1,.int .i64 s2),(2,pB b1),(5,.int .i64 s3)]) (fun ⟨s2,s3⟩ _ w=>I64 s2∧I64 s3∧HL F0 [] w0 w d2 [.B b1 136 d1]) ()) ?_
  rintro m1 ⟨s2,s3⟩ _ σ w2 hq1 ⟨hI6,hI7,H⟩
  obtain⟨m2,z1,rfl,hb1,hs1,ht1⟩:=q8B hq1
  refine Y (R ((V) ((D 6) ((L H 0) ((NI H 1) fun hl1=>(B) (jD hb1 (fun _ hb1=>?_) fun _ hb1=>?_))))))
  ·refine (G) ((V) ((G) ((B) ((T) (Z (iD hb1 (fun _ hb1=>?_) fun _ hb1=>?_))))))
   ·refine K (Y ?_)
    refine Bk (X ((D 6) ((L H 0) ((V) ?_))))
    refine gg hb1 fun hg2 hb1=>?_
    refine bb hb1 fun x1 hx1 hb1=>?_
    obtain⟨b2,ob2,cb2,A2,n2,c2,hvb2,hI8,hI9,hI10,hI11,hS3,hS4,H⟩:=q4f H 1 hx1
    refine q0b rfl rfl (q0l rfl z7L q5u rfl hvb2 rfl hg2 (q4G hx1)) ((LA H 2) ((V) ?_))
    refine bb hb1 fun y1 hy1 hb1=>?_
    refine (CA k1A (ih_sl4Left hy1 (q2r.2 ⟨_,rfl,hI8,hI9,hI10,hI11,hS3,hS4,(rs H 4)⟩) hI6)) (cF' H fun w3 hI12 H=>(A) (Z (X ((V) ?_))))
    exact gg hb1 fun hg3 hb1=>(BN (Bin.add hg3)) ((A) (Z (I2 hb1 hs1 ⟨m2,⟨y1,(s3+1)⟩,()⟩)))
   exact CE (C2 hb1 ht1)
  exact (O) ((O) ((U) (Z ((cF) (CE (C2 hb1 ht1))))))
 rintro ρ' w4 ⟨s1,rfl,hag,hI5,H⟩
 obtain⟨σ,rfl⟩:=q4H hag
 exact R ((V) ((AZ) (W1 hr)))
def z0Y:Nat→Expr→Int→Option Int
  | 0,_,_=>none
  | n+1,a0,a1=>z6b (z0Y n) a0 a1
def z8T (a0:Expr)(a1:Int):Option Int:=recO fun n=>z0Y n a0 a1
theorem j3u (n:Nat):∀ {a0:Expr} {a1 r:Int},z0Y n a0 a1=some r→∀ {F0:Nat→Prop} {w0:World} {ca0} (ha0:rd F0 w0 a0 ca0) (ha1:I64 a1),RT 246 #[ag ca0,.int .i64 a1] w0 fun v w=>v = .int .i64 r∧I64 r:=by
 induction n with
 | zero=>intro a0 a1 r hr; exact nomatch (show (none:Option Int)=some r from hr)
 | succ n ih=>intro a0 a1 r hr; exact j3t ih hr
theorem j5d {a0}{a1 r}(hr:z8T a0 a1=some r){ca0}(ha0:rd F0 w0 a0 ca0)(ha1:I64 a1):RT 246 #[ag ca0,.int .i64 a1] w0 fun v w=>v = .int .i64 r∧I64 r:=by
 obtain⟨n,hn⟩:=q4v hr
 exact j3u n hn ha0 ha1
def z2L (a0 a1:Int):Option Int:=if a1 < a0 then some a0 else some a1
theorem z8U {a0 a1 r}(hr:z2L a0 a1=some r){F0:Nat→Prop}(ha0:I64 a0)(ha1:I64 a1):RT 233 #[.int .i64 a0,.int .i64 a1] w0 fun v w=>v = .int .i64 r∧I64 r:=by
 have H:=HL.start F0 w0
 refine (En Tryz.func233) ?_
 refine R ((A) (Z (Y (R ((V) ((V) ((BZ) (iD hr (fun _ hr=>?_) fun _ hr=>?_))))))))
 ·exact R ((V) ((AZ) (W1 hr)))
 exact K (R ((V) ((AZ) (W1 hr))))
def z0Z (rec_sDepthOfExpr:Expr→Option Int):Nat→Expr→Int→Option Int:=fun k1 x1 s1=>(rec_sDepthOfExpr x1).bind fun y1=>(z2L s1 y1).bind fun y2=>some y2
def q9C (rec_sDepthOfExpr:Expr→Option Int)(a0:Expr):Option Int:=(q2J (z0Z rec_sDepthOfExpr) 0 a0.Args 0).bind fun s1=>grd (I64 (s1+1)) <| some (s1+1)
theorem z7S {rec_sDepthOfExpr:Expr→Option Int}(ih_sDepthOfExpr:∀ {a0:Expr} {r:Int},rec_sDepthOfExpr a0=some r→∀ {F0:Nat→Prop} {w0:World} {ca0} (ha0:rd F0 w0 a0 ca0),RT 247 #[ag ca0] w0 fun v w=>v = .int .i64 r∧I64 r){a0}{r}(hr:q9C rec_sDepthOfExpr a0=some r){ca0}(ha0:rd F0 w0 a0 ca0):RT 247 #[ag ca0] w0 fun v w=>v = .int .i64 r∧I64 r:=by
 have H:=(HL.start F0 w0).argR ha0
 obtain⟨A1,n1,c1,rfl,hI1,hI2,hI3,hI4,hS1,hS2,H⟩:=q3q H 0
 refine (En Tryz.func247) ?_
 refine R ((BX H) fun b1 w1 H=>(A) (Z (R ((A) (Z (Y (R ((AZ) ?_))))))))
 refine bb hr fun q1 hq1 hr=>?_
 refine (lE hq1 (fun k1 s1 _=>[(1,pB b1),(3,.int .i64 s1),(4,zN k1)]) (fun s1 _ w=>I64 s1∧HL F0 [] w0 w [.R a0 (q2D a0 A1 n1 c1),.S a0.Args (.slice A1 n1 c1)] [.B b1 136 (q2D a0 A1 n1 c1)]) ()) ?_
 rintro k1 s1 _ σ w2 hk1 hq1 ⟨hI5,H⟩
 refine Y (R ((V) ((D 6) ((L H 0) ((NI H 1) fun hl1=>(BZ) ?_)))))
 refine (iE hq1 (fun hk2 x1 z1 hx1 hb1 hq1=>?_) fun e=>?_)
 ·refine K (Y ?_)
  refine Bk (X ((V) ((D 6) ((L H 0) ((V) ?_)))))
  obtain⟨b2,ob2,cb2,A2,n2,c2,hvb2,hI6,hI7,hI8,hI9,hS3,hS4,H⟩:=q4f H 1 hx1
  refine (J 7 hvb2 hx1) ((LA H 2) ?_)
  refine bb hb1 fun y1 hy1 hb1=>?_
  refine (CA k1B (ih_sDepthOfExpr hy1 (q2r.2 ⟨_,rfl,hI6,hI7,hI8,hI9,hS3,hS4,(rs H 4)⟩))) (cF' H fun w3 hI10 H=>?_)
  refine bb hb1 fun y2 hy2 hb1=>?_
  exact (CA k0l (z8U hy2 (F0:=nF) hI5 hI10)) (cF' H fun w4 hI11 H=>(A) (Z (X ((V) ((AN hk2 hl1) ((A) (Z (I1 hb1 ⟨k1+1,y2,()⟩))))))))
 obtain rfl:=e
 refine CE (R ((V) ?_))
 exact gg hr fun hg1 hr=>(BN (Bin.add hg1)) ((AZ) (W1 hr))
def q5F:Nat→Expr→Option Int
  | 0,_=>none
  | n+1,a0=>q9C (q5F n) a0
def z1W (a0:Expr):Option Int:=recO fun n=>q5F n a0
theorem z7T (n:Nat):∀ {a0:Expr} {r:Int},q5F n a0=some r→∀ {F0:Nat→Prop} {w0:World} {ca0} (ha0:rd F0 w0 a0 ca0),RT 247 #[ag ca0] w0 fun v w=>v = .int .i64 r∧I64 r:=by
 induction n with
 | zero=>intro a0 r hr; exact nomatch (show (none:Option Int)=some r from hr)
 | succ n ih=>intro a0 r hr; exact z7S ih hr
theorem z8V {a0}{r}(hr:z1W a0=some r){ca0}(ha0:rd F0 w0 a0 ca0):RT 247 #[ag ca0] w0 fun v w=>v = .int .i64 r∧I64 r:=by
 obtain⟨n,hn⟩:=q4v hr
 exact z7T n hn ha0
def z6c (a0:Expr):Option Bool:=( if a0.Kind=4 then some 2 else if a0.Kind=5 then some 3 else if a0.Kind=8 then some 1 else some 0 ).bind fun s1=>if (a0.Args.length:Int)=s1 then ( if a0.Kind=3 then some true else some (decide (a0.Kind=6)) ).bind fun s2=>( if a0.Kind=3 then some true else some (decide (a0.Kind=8)) ).bind fun s3=>( if a0.Kind=1 then some true else some (decide (a0.Kind=4)) ).bind fun s4=>( if s2=true then some true else some (decide (a0.Pos=0)) ).bind fun s5=>( if s5=true then ( if s3=true then some true else some (decide (a0.Name=(⟨#[]⟩:ByteArray))) ).bind fun s7=>some s7 else some false ).bind fun s6=>( if s6=true then ( if s4=true then some true else some (decide (a0.N=0)) ).bind fun s9=>some s9 else some false ).bind fun s8=>( if s8=true then ( if a0.Kind=1 then some true else some (decide (a0.Type_=0)) ).bind fun s11=>some s11 else some false ).bind fun s10=>( if s10=true then ( if a0.Kind=8 then some true else some (decide (a0.Symbol=(⟨#[]⟩:ByteArray))) ).bind fun s13=>some s13 else some false ).bind fun s12=>some s12 else some false
theorem j5e {a0}{r}(hr:z6c a0=some r){ca0}(ha0:rd F0 w0 a0 ca0):RB 256 #[ag ca0] w0 r:=by
 have H:=(HL.start F0 w0).argR ha0
 obtain⟨A1,n1,c1,rfl,hI1,hI2,hI3,hI4,hS1,hS2,H⟩:=q3q H 0
 let d1:List Pr:=[.R a0 (q2D a0 A1 n1 c1),.S a0.Args (.slice A1 n1 c1)]
 refine (En Tryz.func256) ?_
 refine R ((BX H) fun b1 w1 H=>(A) (Z (R ((A) (Z (Y (R ((D 0) ((L H 0) (Z ?_))))))))))
 let d2:List It:=[.B b1 136 (q2D a0 A1 n1 c1)]
 refine bb hr fun q1 hm1 hr=>?_
 refine q0u (fun ρ' w=>∃ (s1:Int),s1=q1∧q4R ρ' [(1,pB b1),(3,.int .i64 s1)]∧I64 s1∧HL F0 [] w0 w d1 d2) ?_ ?_
 ·refine Bk (R ((B) ((AZ) (iD hm1 (fun _ hm1=>?_) fun _ hm1=>?_))))
  ·exact X ((AZ) (C1 hm1))
  refine R ((B) ((AZ) (iD hm1 (fun _ hm1=>?_) fun _ hm1=>?_)))
  ·exact X ((AZ) (C1 hm1))
  refine R ((B) ((AZ) (iD hm1 (fun _ hm1=>?_) fun _ hm1=>?_)))
  ·exact X ((AZ) (C1 hm1))
  exact K (C1 hm1)
 rintro ρ' w2 ⟨s1,rfl,hag,hI5,H⟩
 obtain⟨σ,rfl⟩:=q4H hag
 refine Y (R ((D 6) ((L H 0) ((NI H 1) fun hl1=>(V) ((BZ) (iN hr (fun _ hr=>?_) fun _ hr=>?_))))))
 ·exact R ((AZ) (W1 hr))
 refine K (R ((D 0) ((L H 0) ((B) ?_))))
 refine bb hr fun q2 hm2 hr=>?_
 refine cu H 5 [(1,pB b1),(27,.bool q2)] d1 d2 ?_ fun σ w3 H=>?_
 ·refine jD hm2 (fun _ hm2=>?_) fun _ hm2=>?_
  ·exact OF hm2
  exact (G) ((D 0) ((G) ((L H 0) ((G) ((B) ((U) (Z (C1 hm2))))))))
 refine (A) (Z (R ((D 0) ((L H 0) ((B) ?_)))))
 refine bb hr fun q3 hm3 hr=>?_
 refine cu H 5 [(1,pB b1),(4,.bool q2),(35,.bool q3)] d1 d2 ?_ fun σ w4 H=>?_
 ·refine jD hm3 (fun _ hm3=>?_) fun _ hm3=>?_
  ·exact OF hm3
  exact (G) ((D 0) ((G) ((L H 0) ((G) ((B) ((U) (Z (C1 hm3))))))))
 refine (A) (Z (R ((D 0) ((L H 0) ((B) ?_)))))
 refine bb hr fun q4 hm4 hr=>?_
 refine cu H 5 [(1,pB b1),(4,.bool q2),(5,.bool q3),(43,.bool q4)] d1 d2 ?_ fun σ w5 H=>?_
 ·refine jD hm4 (fun _ hm4=>?_) fun _ hm4=>?_
  ·exact OF hm4
  exact (G) ((D 0) ((G) ((L H 0) ((G) ((B) ((U) (Z (C1 hm4))))))))
 refine (A) (Z (R ((V) ?_)))
 refine bb hr fun q5 hm5 hr=>?_
 refine cu H 5 [(1,pB b1),(5,.bool q3),(6,.bool q4),(49,.bool q5)] d1 d2 ?_ fun σ w6 H=>?_
 ·refine jB hm5 (fun _ hm5=>?_) fun _ hm5=>?_
  ·exact OF hm5
  exact (G) ((D 2) ((G) ((L H 0) ((G) ((B) ((U) (Z (C1 hm5))))))))
 refine bb hr fun q6 hm6 hr=>?_
 refine cu H 8 [(1,pB b1),(6,.bool q4),(57,.bool q6)] d1 d2 ?_ fun σ w8 H=>?_
 ·refine jB hm6 (fun _ hm6=>?_) fun _ hm6=>?_
  ·refine (G) ((V) ((G) ?_))
   refine bb hm6 fun q7 hm7 hm6=>?_
   refine cu H 5 [(1,pB b1),(6,.bool q4),(50,.bool true),(56,.bool q7)] d1 d2 ?_ fun σ w7 H=>?_
   ·refine (G) (jB hm7 (fun _ hm7=>?_) fun _ hm7=>?_)
    ·exact (O) ((O) ((O) ((G) ((T) (Z (C1 hm7))))))
    exact (G) ((D 5) ((G) ((L H 0) ((G) ((B) ((G) ((U) (Z (C1 hm7)))))))))
   exact (T) (Z (C1 hm6))
  exact OF hm6
 refine bb hr fun q8 hm8 hr=>?_
 refine cu H 8 [(1,pB b1),(65,.bool q8)] d1 d2 ?_ fun σ w10 H=>?_
 ·refine jB hm8 (fun _ hm8=>?_) fun _ hm8=>?_
  ·refine (G) ((V) ((G) ?_))
   refine bb hm8 fun q9 hm9 hm8=>?_
   refine cu H 5 [(1,pB b1),(58,.bool true),(64,.bool q9)] d1 d2 ?_ fun σ w9 H=>?_
   ·refine (G) (jB hm9 (fun _ hm9=>?_) fun _ hm9=>?_)
    ·exact (O) ((O) ((O) ((G) ((T) (Z (C1 hm9))))))
    exact (G) ((D 1) ((G) ((L H 0) ((G) ((B) ((G) ((U) (Z (C1 hm9)))))))))
   exact (T) (Z (C1 hm8))
  exact OF hm8
 refine bb hr fun q10 hm10 hr=>?_
 refine cu H 10 [(1,pB b1),(75,.bool q10)] d1 d2 ?_ fun σ w12 H=>?_
 ·refine jB hm10 (fun _ hm10=>?_) fun _ hm10=>?_
  ·refine (G) ((D 0) ((G) ((L H 0) ((G) ((B) ((G) ?_))))))
   refine bb hm10 fun q11 hm11 hm10=>?_
   refine cu H 5 [(1,pB b1),(66,.bool true),(74,.bool q11)] d1 d2 ?_ fun σ w11 H=>?_
   ·refine (G) (jD hm11 (fun _ hm11=>?_) fun _ hm11=>?_)
    ·exact (O) ((O) ((O) ((G) ((T) (Z (C1 hm11))))))
    exact (G) ((D 3) ((G) ((L H 0) ((G) ((B) ((G) ((U) (Z (C1 hm11)))))))))
   exact (T) (Z (C1 hm10))
  exact OF hm10
 refine bb hr fun q12 hm12 hr=>?_
 refine cu H 10 [(85,.bool q12)] d1 d2 ?_ fun σ w14 H=>?_
 ·refine jB hm12 (fun _ hm12=>?_) fun _ hm12=>?_
  ·refine (G) ((D 0) ((G) ((L H 0) ((G) ((B) ((G) ?_))))))
   refine bb hm12 fun q13 hm13 hm12=>?_
   refine cu H 5 [(76,.bool true),(84,.bool q13)] d1 d2 ?_ fun σ w13 H=>?_
   ·refine (G) (jD hm13 (fun _ hm13=>?_) fun _ hm13=>?_)
    ·exact (O) ((O) ((O) ((G) ((T) (Z (C1 hm13))))))
    exact (G) ((D 4) ((G) ((L H 0) ((G) ((B) ((G) ((U) (Z (C1 hm13)))))))))
   exact (T) (Z (C1 hm12))
  exact OF hm12
 exact (AZ) (W1 hr)
def z8o (a0 a1:Int):Option Int:=if a0 < a1 then some a0 else some a1
theorem j6p {a0 a1 r}(hr:z8o a0 a1=some r){F0:Nat→Prop}(ha0:I64 a0)(ha1:I64 a1):RT 264 #[.int .i64 a0,.int .i64 a1] w0 fun v w=>v = .int .i64 r∧I64 r:=by
 have H:=HL.start F0 w0
 refine (En Tryz.func264) ?_
 refine R ((A) (Z (Y (R ((V) ((V) ((BZ) (iD hr (fun _ hr=>?_) fun _ hr=>?_))))))))
 ·exact R ((V) ((AZ) (W1 hr)))
 exact K (R ((V) ((AZ) (W1 hr))))
def z2M (a0:Int):Option Int:=(z8o 1000000 a0).bind fun y1=>(z2L (-1000000) y1).bind fun y2=>some y2
theorem j2g {a0 r}(hr:z2M a0=some r){F0:Nat→Prop}(ha0:I64 a0):RT 262 #[.int .i64 a0] w0 fun v w=>v = .int .i64 r∧I64 r:=by
 have H:=HL.start F0 w0
 refine (En Tryz.func262) ?_
 refine R ((A) (Z (R ((V) ?_))))
 refine bb hr fun y1 hy1 hr=>?_
 refine (CA k4h (j6p hy1 (F0:=nF) dI ha0)) (cF' H fun w1 hI1 H=>?_)
 refine bb hr fun y2 hy2 hr=>?_
 exact (CA k0l (z8U hy2 (F0:=nF) (by decide:I64 (-1000000)) hI1)) (cF' H fun w2 hI2 H=>(AZ) (W1 hr))
def z4A (a0:Bool):Option Int:=if a0=true then some 1 else some 0
theorem j3v {a0}{r}(hr:z4A a0=some r){F0:Nat→Prop}:RT 263 #[.bool a0] w0 fun v w=>v = .int .i64 r∧I64 r:=by
 have H:=HL.start F0 w0
 refine (En Tryz.func263) ?_
 refine R ((A) (Z (Y (R ((V) (Z (iB hr (fun _ hr=>?_) fun _ hr=>?_)))))))
 ·exact R ((AZ) (W1 hr))
 exact K (R ((AZ) (W1 hr)))
def z6d (a0 a1:Int):Option Int:=if a1=1 then (z2M a0).bind fun y1=>some y1 else if a1=2 then some (j7Q a0 4095) else if a1=3 then (z4A (!(decide (a0=0)))).bind fun y2=>some y2 else if a1=4 then (q5q a0 0 999).bind fun y3=>if y3=true then some a0 else some 0 else some 0
theorem j5f {a0 a1 r}(hr:z6d a0 a1=some r){F0:Nat→Prop}(ha0:I64 a0)(ha1:I64 a1):RT 259 #[.int .i64 a0,.int .i64 a1] w0 fun v w=>v = .int .i64 r∧I64 r:=by
 have H:=HL.start F0 w0
 refine (En Tryz.func259) ?_
 refine R ((A) (Z (Y (R ((V) (Z ?_))))))
 refine Bk (R ((B) ((AZ) (iD hr (fun _ hr=>?_) fun _ hr=>?_))))
 ·refine R ((V) ?_)
  refine bb hr fun y1 hy1 hr=>?_
  exact (CA k4f (j2g hy1 (F0:=nF) ha0)) (cF' H fun w1 hI1 H=>(AZ) (W1 hr))
 refine R ((B) ((AZ) (iD hr (fun _ hr=>?_) fun _ hr=>?_)))
 ·refine R ((V) ((B) ((AZ) (CR ?_))))
  obtain rfl:=sm hr
  exact⟨_,res1 rfl rfl rfl,H.ext0,rfl,(j4t _)⟩
 refine R ((B) ((AZ) (iD hr (fun _ hr=>?_) fun _ hr=>?_)))
 ·refine R ((V) ((B) ?_))
  refine bb hr fun y2 hy2 hr=>?_
  exact (CA k4g (j3v hy2 (F0:=nF))) (cF' H fun w2 hI2 H=>(AZ) (W1 hr))
 refine R ((B) ((AZ) (iD hr (fun _ hr=>?_) fun _ hr=>?_)))
 ·refine R ((V) ?_)
  refine bb hr fun y3 hy3 hr=>?_
  refine (CA ok72 (q5j hy3 (F0:=nF) ha0 dI dI)) (cE H fun w3 H=>Z (iB hr (fun _ hr=>?_) fun _ hr=>?_))
  ·exact R ((V) ((AZ) (W1 hr)))
  exact K (R ((AZ) (W1 hr)))
 exact K (R ((AZ) (W1 hr)))
def z2N (a0 a1:Int):Option Bool:=(q5q a1 1 4).bind fun y1=>if y1=true then (z6d a0 a1).bind fun y2=>some (decide (y2=a0)) else some false
theorem j2h {a0 a1}{r}(hr:z2N a0 a1=some r){F0:Nat→Prop}(ha0:I64 a0)(ha1:I64 a1):RB 257 #[.int .i64 a0,.int .i64 a1] w0 r:=by
 have H:=HL.start F0 w0
 refine (En Tryz.func257) ?_
 refine R ((A) (Z (R ((V) ?_))))
 refine bb hr fun y1 hy1 hr=>?_
 refine (CA ok72 (q5j hy1 (F0:=nF) ha1 dI dI)) (cE H fun w1 H=>jB hr (fun _ hr=>?_) fun _ hr=>?_)
 ·refine (G) ((V) ((G) ((V) ((G) ?_))))
  refine bb hr fun y2 hy2 hr=>?_
  exact (CA k4c (j5f hy2 (F0:=nF) ha0 ha1)) (cF' H fun w2 hI1 H=>(G) ((V) ((G) ((B) ((T) ((AZ) (W1 hr)))))))
 exact (O) ((O) ((O) ((O) ((O) ((U) ((AZ) (W1 hr)))))))
def z6e (a0:Expr):Option Bool:=(q5q a0.Kind 1 8).bind fun y1=>( if y1=true then (z6c a0).bind fun y2=>some (!y2) else some true ).bind fun s1=>if s1=true then some false else if a0.Kind=1 then (q5q a0.Type_ 1 3).bind fun y3=>( if y3=true then (z2N a0.N a0.Type_).bind fun y4=>some y4 else some false ).bind fun s2=>( if s2=true then some (decide (0≤a0.N)) else some false ).bind fun s3=>some s3 else if a0.Kind=3 then (q5q a0.Pos 0 3).bind fun y5=>( if y5=true then (q3p a0.Name).bind fun y6=>some y6 else some false ).bind fun s4=>some s4 else if a0.Kind=6 then (q5q a0.Pos 0 3).bind fun y7=>some y7 else if a0.Kind=4 then (q5q a0.N 1 12).bind fun y8=>some y8 else if a0.Kind=8 then (q3p a0.Symbol).bind fun y9=>( if y9=true then (q3p a0.Name).bind fun y10=>some y10 else some false ).bind fun s5=>some s5 else some true
theorem j5g {a0}{r}(hr:z6e a0=some r){ca0}(ha0:rd F0 w0 a0 ca0):RB 253 #[ag ca0] w0 r:=by
 have H:=(HL.start F0 w0).argR ha0
 obtain⟨A1,n1,c1,rfl,hI1,hI2,hI3,hI4,hS1,hS2,H⟩:=q3q H 0
 let d1:List Pr:=[.R a0 (q2D a0 A1 n1 c1),.S a0.Args (.slice A1 n1 c1)]
 refine (En Tryz.func253) ?_
 refine R ((BX H) fun b1 w1 H=>(A) (Z (Y (R ((D 0) ((L H 0) ?_))))))
 let d2:List It:=[.B b1 136 (q2D a0 A1 n1 c1)]
 refine bb hr fun y1 hy1 hr=>?_
 refine (CA ok72 (q5j hy1 (F0:=nF) hI1 dI dI)) (cE H fun w2 H=>(N) ?_)
 refine bb hr fun q1 hm1 hr=>?_
 refine cu H 5 [(1,pB b1),(11,.bool q1)] d1 d2 ?_ fun σ w4 H=>?_
 ·refine jM hm1 (fun _ hm1=>?_) fun _ hm1=>?_
  ·exact OF hm1
  refine (G) ((LB H 0) ((G) ?_))
  refine bb hm1 fun y2 hy2 hm1=>?_
  exact (CA k3Z (j5e hy2 (q2r.2 ⟨_,rfl,hI1,hI2,hI3,hI4,hS1,hS2,(rs H 1)⟩))) (cE H fun w3 H=>(G) ((N) ((U) (Z (C1 hm1)))))
 refine Z (iB hr (fun _ hr=>?_) fun _ hr=>?_)
 ·exact R ((AZ) (W1 hr))
 refine K (Y (R ((D 0) ((L H 0) (Z ?_)))))
 refine Bk (R ((B) ((AZ) (iD hr (fun _ hr=>?_) fun _ hr=>?_))))
 ·refine R ((D 3) ((L H 0) ?_))
  refine bb hr fun y3 hy3 hr=>?_
  refine (CA ok72 (q5j hy3 (F0:=nF) hI4 dI dI)) (cE H fun w5 H=>?_)
  refine bb hr fun q2 hm2 hr=>?_
  refine cu H 7 [(1,pB b1),(25,.bool q2)] d1 d2 ?_ fun σ w7 H=>?_
  ·refine jB hm2 (fun _ hm2=>?_) fun _ hm2=>?_
   ·refine (G) ((D 1) ((G) ((L H 0) ((G) ((D 3) ((G) ((L H 0) ((G) ?_))))))))
    refine bb hm2 fun y4 hy4 hm2=>?_
    exact (CA k4a (j2h hy4 (F0:=nF) hI2 hI4)) (cE H fun w6 H=>(T) (Z (C1 hm2)))
   exact OF hm2
  refine bb hr fun q3 hm3 hr=>?_
  refine cu H 5 [(30,.bool q3)] d1 d2 ?_ fun σ w8 H=>?_
  ·refine jB hm3 (fun _ hm3=>?_) fun _ hm3=>?_
   ·exact (G) ((D 1) ((G) ((L H 0) ((G) ((B) ((T) (Z (C1 hm3))))))))
   exact OF hm3
  exact (AZ) (W1 hr)
 refine R ((B) ((AZ) (iD hr (fun _ hr=>?_) fun _ hr=>?_)))
 ·refine R ((D 2) ((L H 0) ?_))
  refine bb hr fun y5 hy5 hr=>?_
  refine (CA ok72 (q5j hy5 (F0:=nF) hI3 dI dI)) (cE H fun w9 H=>?_)
  refine bb hr fun q4 hm4 hr=>?_
  refine cu H 5 [(40,.bool q4)] d1 d2 ?_ fun σ w11 H=>?_
  ·refine jB hm4 (fun _ hm4=>?_) fun _ hm4=>?_
   ·refine (G) ((D 5) ((G) ((L H 0) ((G) ?_))))
    refine bb hm4 fun y6 hy6 hm4=>?_
    exact (CA z8C (q3Q hy6 (F0:=nF) hS2)) (cE H fun w10 H=>(T) (Z (C1 hm4)))
   exact OF hm4
  exact (AZ) (W1 hr)
 refine R ((B) ((AZ) (iD hr (fun _ hr=>?_) fun _ hr=>?_)))
 ·refine R ((D 2) ((L H 0) ?_))
  refine bb hr fun y7 hy7 hr=>?_
  exact (CA ok72 (q5j hy7 (F0:=nF) hI3 dI dI)) (cE H fun w12 H=>(AZ) (W1 hr))
 refine R ((B) ((AZ) (iD hr (fun _ hr=>?_) fun _ hr=>?_)))
 ·refine R ((D 1) ((L H 0) ?_))
  refine bb hr fun y8 hy8 hr=>?_
  exact (CA ok72 (q5j hy8 (F0:=nF) hI2 dI dI)) (cE H fun w13 H=>(AZ) (W1 hr))
 refine R ((B) ((AZ) (iD hr (fun _ hr=>?_) fun _ hr=>?_)))
 ·refine R ((D 4) ((L H 0) ?_))
  refine bb hr fun y9 hy9 hr=>?_
  refine (CA z8C (q3Q hy9 (F0:=nF) hS1)) (cE H fun w14 H=>?_)
  refine bb hr fun q5 hm5 hr=>?_
  refine cu H 5 [(60,.bool q5)] d1 d2 ?_ fun σ w16 H=>?_
  ·refine jB hm5 (fun _ hm5=>?_) fun _ hm5=>?_
   ·refine (G) ((D 5) ((G) ((L H 0) ((G) ?_))))
    refine bb hm5 fun y10 hy10 hm5=>?_
    exact (CA z8C (q3Q hy10 (F0:=nF) hS2)) (cE H fun w15 H=>(T) (Z (C1 hm5)))
   exact OF hm5
  exact (AZ) (W1 hr)
 exact K (R ((AZ) (W1 hr)))
def j2i (rec_sl4All:Expr→Option Bool):Nat→Expr→Unit→Option (Unit ⊕ Bool):=fun k1 x1 _=>(rec_sl4All x1).bind fun y1=>if y1=true then some (.inl ()) else some (.inr false)
def z8p (rec_sl4All:Expr→Option Bool)(a0:Expr):Option Bool:=(q2u (j2i rec_sl4All) 0 a0.Args ()).bind <| onr (fun r1=>some r1) fun _=>(z6e a0).bind fun y2=>some y2
theorem j5h {rec_sl4All:Expr→Option Bool}(ih_sl4All:∀ {a0:Expr} {r:Bool},rec_sl4All a0=some r→∀ {F0:Nat→Prop} {w0:World} {ca0} (ha0:rd F0 w0 a0 ca0),RB 248 #[ag ca0] w0 r){a0}{r}(hr:z8p rec_sl4All a0=some r){ca0}(ha0:rd F0 w0 a0 ca0):RB 248 #[ag ca0] w0 r:=by
 have H:=(HL.start F0 w0).argR ha0
 obtain⟨A1,n1,c1,rfl,hI1,hI2,hI3,hI4,hS1,hS2,H⟩:=q3q H 0
 refine (En Tryz.func248) ?_
 refine R ((BX H) fun b1 w1 H=>(A) (Z (Y (R ((AZ) ?_)))))
 refine bb hr fun q1 hq1 hr=>?_
 refine (lF hq1 (fun k1 _ _=>[(1,pB b1),(3,zN k1)]) (fun _ _ w=>HL F0 [] w0 w [.R a0 (q2D a0 A1 n1 c1),.S a0.Args (.slice A1 n1 c1)] [.B b1 136 (q2D a0 A1 n1 c1)]) ()) ?_
 rintro k1 _ _ σ w2 hk1 hq1 H
 refine Y (R ((V) ((D 6) ((L H 0) ((NI H 1) fun hl1=>(BZ) ?_)))))
 refine (iF hq1 hr (fun hk2 x1 z1 hx1 hb1 hs1 ht1=>?_) fun hr=>?_)
 ·refine K (Y ?_)
  refine Bk (R ((D 6) ((L H 0) ((V) ?_))))
  obtain⟨b2,ob2,cb2,A2,n2,c2,hvb2,hI5,hI6,hI7,hI8,hS3,hS4,H⟩:=q4f H 1 hx1
  refine (J 7 hvb2 hx1) ((LA H 2) ?_)
  refine bb hb1 fun y1 hy1 hb1=>?_
  refine (CA k1C (ih_sl4All hy1 (q2r.2 ⟨_,rfl,hI5,hI6,hI7,hI8,hS3,hS4,(rs H 4)⟩))) (cE H fun w3 H=>(N) (Z (iM hb1 (fun _ hb1=>?_) fun _ hb1=>?_)))
  ·exact R ((AZ) (W2 hb1 ht1 hr))
  exact K (X ((V) ((AN hk2 hl1) ((A) (Z (I2 hb1 hs1 ⟨k1+1,(),()⟩))))))
 refine CE (R ((LB H 0) ?_))
 refine bb hr fun y2 hy2 hr=>?_
 exact (CA k3X (j5g hy2 (q2r.2 ⟨_,rfl,hI1,hI2,hI3,hI4,hS1,hS2,(rs H 1)⟩))) (cE H fun w4 H=>(AZ) (W1 hr))
def z6f:Nat→Expr→Option Bool
  | 0,_=>none
  | n+1,a0=>z8p (z6f n) a0
def j1c (a0:Expr):Option Bool:=recO fun n=>z6f n a0
theorem j5i (n:Nat):∀ {a0:Expr} {r:Bool},z6f n a0=some r→∀ {F0:Nat→Prop} {w0:World} {ca0} (ha0:rd F0 w0 a0 ca0),RB 248 #[ag ca0] w0 r:=by
 induction n with
 | zero=>intro a0 r hr; exact nomatch (show (none:Option Bool)=some r from hr)
 | succ n ih=>intro a0 r hr; exact j5h ih hr
theorem j6q {a0}{r}(hr:j1c a0=some r){ca0}(ha0:rd F0 w0 a0 ca0):RB 248 #[ag ca0] w0 r:=by
 obtain⟨n,hn⟩:=q4v hr
 exact j5i n hn ha0
def q9D (a0:Expr):Option Bool:=(z8T a0 24).bind fun y1=>( if 0≤y1 then (z1W a0).bind fun y2=>some (decide (y2≤6)) else some false ).bind fun s1=>( if s1=true then (j1c a0).bind fun y3=>some y3 else some false ).bind fun s2=>some s2
theorem z8W {a0}{r}(hr:q9D a0=some r){ca0}(ha0:rd F0 w0 a0 ca0):RB 230 #[ag ca0] w0 r:=by
 have H:=(HL.start F0 w0).argR ha0
 obtain⟨A1,n1,c1,rfl,hI1,hI2,hI3,hI4,hS1,hS2,H⟩:=q3q H 0
 let d1:=q2D a0 A1 n1 c1
 let d2:List Pr:=[.R a0 d1,.S a0.Args (.slice A1 n1 c1)]
 refine (En Tryz.func230) ?_
 refine R ((BX H) fun b1 w1 H=>(A) (Z (R ((LB H 0) ?_))))
 refine bb hr fun y1 hy1 hr=>?_
 refine (CA k1A (j5d hy1 (q2r.2 ⟨_,rfl,hI1,hI2,hI3,hI4,hS1,hS2,(rs H 1)⟩) dI)) (cF' H fun w2 hI5 H=>(B) ?_)
 refine bb hr fun q1 hm1 hr=>?_
 refine cu H 5 [(1,pB b1),(2,.bool false),(10,.bool q1)] d2 [.B b1 136 d1] ?_ fun σ w4 H=>?_
 ·refine jD hm1 (fun _ hm1=>?_) fun _ hm1=>?_
  ·refine (G) ((LB H 0) ((G) ?_))
   refine bb hm1 fun y2 hy2 hm1=>?_
   exact (CA k1B (z8V hy2 (q2r.2 ⟨_,rfl,hI1,hI2,hI3,hI4,hS1,hS2,(rs H 1)⟩))) (cF' H fun w3 hI6 H=>(G) ((B) ((T) (Z (C1 hm1)))))
  exact OF hm1
 refine bb hr fun q2 hm2 hr=>?_
 refine cu H 4 [(2,.bool false),(14,.bool q2)] d2 [.B b1 136 d1] ?_ fun σ w6 H=>?_
 ·refine jB hm2 (fun _ hm2=>?_) fun _ hm2=>?_
  ·refine (G) ((LB H 0) ((G) ?_))
   refine bb hm2 fun y3 hy3 hm2=>?_
   exact (CA k1C (j6q hy3 (q2r.2 ⟨_,rfl,hI1,hI2,hI3,hI4,hS1,hS2,(rs H 1)⟩))) (cE H fun w5 H=>(T) (Z (C1 hm2)))
  exact OF hm2
 exact (AZ) (W1 hr)
def z7w (rec_sl9Within:Expr→Int→Option Bool)(a1:Int):Nat→Expr→Unit→Option (Unit ⊕ Bool):=fun k1 x1 _=>(rec_sl9Within x1 a1).bind fun y1=>if y1=true then some (.inl ()) else some (.inr false)
def z2O (rec_sl9Within:Expr→Int→Option Bool)(a0:Expr)(a1:Int):Option Bool:=(q2u (z7w rec_sl9Within a1) 0 a0.Args ()).bind <| onr (fun r1=>some r1) fun _=>some (decide (a0.Pos≤a1))
theorem j1d {rec_sl9Within:Expr→Int→Option Bool}(ih_sl9Within:∀ {a0:Expr} {a1:Int} {r:Bool},rec_sl9Within a0 a1=some r→∀ {F0:Nat→Prop} {w0:World} {ca0} (ha0:rd F0 w0 a0 ca0) (ha1:I64 a1),RB 231 #[ag ca0,.int .i64 a1] w0 r){a0}{a1}{r}(hr:z2O rec_sl9Within a0 a1=some r){ca0}(ha0:rd F0 w0 a0 ca0)(ha1:I64 a1):RB 231 #[ag ca0,.int .i64 a1] w0 r:=by
 have H:=(HL.start F0 w0).argR ha0
 obtain⟨A1,n1,c1,rfl,hI1,hI2,hI3,hI4,hS1,hS2,H⟩:=q3q H 0
 refine (En Tryz.func231) ?_
 refine R ((BX H) fun b1 w1 H=>(A) (Z (Y (R ((AZ) ?_)))))
 refine bb hr fun q1 hq1 hr=>?_
 refine (lF hq1 (fun k1 _ _=>[(1,.int .i64 a1),(2,pB b1),(5,zN k1)]) (fun _ _ w=>HL F0 [] w0 w [.R a0 (q2D a0 A1 n1 c1),.S a0.Args (.slice A1 n1 c1)] [.B b1 136 (q2D a0 A1 n1 c1)]) ()) ?_
 rintro k1 _ _ σ w2 hk1 hq1 H
 refine Y (R ((V) ((D 6) ((L H 0) ((NI H 1) fun hl1=>(BZ) ?_)))))
 refine (iF hq1 hr (fun hk2 x1 z1 hx1 hb1 hs1 ht1=>?_) fun hr=>?_)
 ·refine K (Y ?_)
  refine Bk (R ((D 6) ((L H 0) ((V) ?_))))
  obtain⟨b2,ob2,cb2,A2,n2,c2,hvb2,hI5,hI6,hI7,hI8,hS3,hS4,H⟩:=q4f H 1 hx1
  refine (J 7 hvb2 hx1) ((LA H 2) ((V) ?_))
  refine bb hb1 fun y1 hy1 hb1=>?_
  refine (CA k1x (ih_sl9Within hy1 (q2r.2 ⟨_,rfl,hI5,hI6,hI7,hI8,hS3,hS4,(rs H 4)⟩) ha1)) (cE H fun w3 H=>(N) (Z (iM hb1 (fun _ hb1=>?_) fun _ hb1=>?_)))
  ·exact R ((AZ) (W2 hb1 ht1 hr))
  exact K (X ((V) ((AN hk2 hl1) ((A) (Z (I2 hb1 hs1 ⟨k1+1,(),()⟩))))))
 exact CE (R ((D 2) ((L H 0) ((V) ((B) ((AZ) (W1 hr)))))))
def z1a:Nat→Expr→Int→Option Bool
  | 0,_,_=>none
  | n+1,a0,a1=>z2O (z1a n) a0 a1
def z5q (a0:Expr)(a1:Int):Option Bool:=recO fun n=>z1a n a0 a1
theorem j1e (n:Nat):∀ {a0:Expr} {a1:Int} {r:Bool},z1a n a0 a1=some r→∀ {F0:Nat→Prop} {w0:World} {ca0} (ha0:rd F0 w0 a0 ca0) (ha1:I64 a1),RB 231 #[ag ca0,.int .i64 a1] w0 r:=by
 induction n with
 | zero=>intro a0 a1 r hr; exact nomatch (show (none:Option Bool)=some r from hr)
 | succ n ih=>intro a0 a1 r hr; exact j1d ih hr
theorem j2j {a0}{a1}{r}(hr:z5q a0 a1=some r){ca0}(ha0:rd F0 w0 a0 ca0)(ha1:I64 a1):RB 231 #[ag ca0,.int .i64 a1] w0 r:=by
 obtain⟨n,hn⟩:=q4v hr
 exact j1e n hn ha0 ha1
def z2n (a0:Expr)(a1:Int):Option Bool:=(q9D a0).bind fun y1=>if y1=true then (z5q a0 a1).bind fun y2=>some y2 else some false
theorem z6Y {a0}{a1}{r}(hr:z2n a0 a1=some r){ca0}(ha0:rd F0 w0 a0 ca0)(ha1:I64 a1):RB 206 #[ag ca0,.int .i64 a1] w0 r:=by
 have H:=(HL.start F0 w0).argR ha0
 obtain⟨A1,n1,c1,rfl,hI1,hI2,hI3,hI4,hS1,hS2,H⟩:=q3q H 0
 refine (En Tryz.func206) ?_
 refine R ((BX H) fun b1 w1 H=>(A) (Z (R ((LB H 0) ?_))))
 refine bb hr fun y1 hy1 hr=>?_
 refine (CA k3P (z8W hy1 (q2r.2 ⟨_,rfl,hI1,hI2,hI3,hI4,hS1,hS2,(rs H 1)⟩))) (cE H fun w2 H=>jB hr (fun _ hr=>?_) fun _ hr=>?_)
 ·refine (G) ((LB H 0) ((G) ((V) ((G) ?_))))
  refine bb hr fun y2 hy2 hr=>?_
  exact (CA k1x (j2j hy2 (q2r.2 ⟨_,rfl,hI1,hI2,hI3,hI4,hS1,hS2,(rs H 1)⟩) ha1)) (cE H fun w3 H=>(T) ((AZ) (W1 hr)))
 exact (O) ((O) ((O) ((U) ((AZ) (W1 hr)))))
def z3P:Nat→ByteArray→Unit→Option (Unit ⊕ Bool):=fun k1 x1 _=>(q3p x1).bind fun y3=>if y3=true then some (.inl ()) else some (.inr false)
def z3Q (a0:Rule):Nat→Equation→Unit→Option (Unit ⊕ Bool):=fun k2 x2 _=>(q3p x2.At.Name).bind fun y4=>( if y4=true then (q5q x2.At.Pos 0 (a0.Right.length:Int)).bind fun y5=>some (!y5) else some true ).bind fun s4=>( if s4=true then some true else (z2n x2.Expr (a0.Right.length:Int)).bind fun y6=>some (!y6) ).bind fun s5=>if s5=true then some (.inr false) else some (.inl ())
def z3R (a0:Rule):Nat→Contribution→Unit→Option (Unit ⊕ Bool):=fun k3 x3 _=>(q3p x3.Symbol).bind fun y7=>( if y7=true then (q3p x3.Name).bind fun y8=>some (!y8) else some true ).bind fun s6=>( if s6=true then some true else (z2n x3.Target (a0.Right.length:Int)).bind fun y9=>some (!y9) ).bind fun s7=>( if s7=true then some true else (z2n x3.Value (a0.Right.length:Int)).bind fun y10=>some (!y10) ).bind fun s8=>if s8=true then some (.inr false) else some (.inl ())
def q9E (a0:Rule):Option Bool:=(q3p a0.Name).bind fun y1=>( if y1=true then (q3p a0.Left).bind fun y2=>some (!y2) else some true ).bind fun s1=>( if s1=true then some true else some (decide (3 < (a0.Right.length:Int))) ).bind fun s2=>( if s2=true then some true else some (decide (2 < (a0.Contributions.length:Int))) ).bind fun s3=>if s3=true then some false else (q2u z3P 0 a0.Right ()).bind <| onr (fun r1=>some r1) fun _=>(q2u (z3Q a0) 0 a0.Equations ()).bind <| onr (fun r2=>some r2) fun _=>(q2u (z3R a0) 0 a0.Contributions ()).bind <| onr (fun r3=>some r3) fun _=>some true
theorem z8X {a0}{r}(hr:q9E a0=some r){ca0}(ha0:rd F0 w0 a0 ca0):RB 175 #[ag ca0] w0 r:=by
 have H:=(HL.start F0 w0).argR ha0
 obtain⟨A1,n1,c1,A2,n2,c2,A3,n3,c3,rfl,hS1,hS2,H⟩:=q3j H 0
 let d6:Pr:=.S a0.Right (.slice A1 n1 c1)
 let d5:Pr:=.S a0.Equations (.slice A2 n2 c2)
 let d4:Pr:=.S a0.Contributions (.slice A3 n3 c3)
 let d2:=q4o a0 A1 n1 c1 A2 n2 c2 A3 n3 c3
 let d1:List Pr:=[.R a0 d2,d6,d5,d4]
 refine (En Tryz.func175) ?_
 refine R ((BX H) fun b1 w1 H=>(A) (Z (R ((D 2) ((L H 0) ((NI H 1) fun hl1=>(A) (Z (Y (R ((D 0) ((L H 0) ?_)))))))))))
 let d8:It:=.B b1 62 d2
 refine bb hr fun y1 hy1 hr=>?_
 refine (CA z8C (q3Q hy1 (F0:=nF) hS1)) (cE H fun w2 H=>(N) ?_)
 refine bb hr fun q1 hm1 hr=>?_
 refine cu H 6 [(1,pB b1),(3,zN a0.Right.length),(21,.bool q1)] d1 [d8] ?_ fun σ w4 H=>?_
 ·refine jM hm1 (fun _ hm1=>?_) fun _ hm1=>?_
  ·exact OF hm1
  refine (G) ((D 1) ((G) ((L H 0) ((G) ?_))))
  refine bb hm1 fun y2 hy2 hm1=>?_
  exact (CA z8C (q3Q hy2 (F0:=nF) hS2)) (cE H fun w3 H=>(G) ((N) ((U) (Z (C1 hm1)))))
 refine bb hr fun q2 hm2 hr=>?_
 refine cu H 4 [(1,pB b1),(3,zN a0.Right.length),(25,.bool q2)] d1 [d8] ?_ fun σ w5 H=>?_
 ·refine jB hm2 (fun _ hm2=>?_) fun _ hm2=>?_
  ·exact OF hm2
  exact (G) ((V) ((G) ((B) ((U) (Z (C1 hm2))))))
 refine bb hr fun q3 hm3 hr=>?_
 refine cu H 6 [(1,pB b1),(3,zN a0.Right.length),(31,.bool q3)] d1 [d8] ?_ fun σ w6 H=>?_
 ·refine jB hm3 (fun _ hm3=>?_) fun _ hm3=>?_
  ·exact OF hm3
  exact (G) ((D 5) ((G) ((L H 0) ((G) ((NI H 3) fun hl2=>(G) ((B) ((U) (Z (C1 hm3)))))))))
 refine Z (iB hr (fun _ hr=>?_) fun _ hr=>?_)
 ·exact R ((AZ) (W1 hr))
 refine K (Y (R ((AZ) ?_)))
 refine bb hr fun q4 hq1 hr=>?_
 refine (lF hq1 (fun k1 _ _=>[(1,pB b1),(3,zN a0.Right.length),(4,zN k1)]) (fun _ _ w=>HL F0 [] w0 w d1 [d8]) ()) ?_
 rintro k1 _ _ σ w7 hk1 hq1 H
 refine Y (R ((V) ((V) ((BZ) ?_))))
 refine (iF hq1 hr (fun hk2 x1 z1 hx1 hb1 hs1 ht1=>?_) fun hr=>?_)
 ·refine K (Y ?_)
  refine Bk (R ((D 2) ((L H 0) ((V) ?_))))
  obtain⟨b2,ob2,cb2,hvb2,hS3,H⟩:=q7l H 1 hx1
  refine (J 1 hvb2 hx1) ((L0 H 4) ?_)
  refine bb hb1 fun y3 hy3 hb1=>?_
  refine (CA z8C (q3Q hy3 (F0:=nF) hS3)) (cE H fun w8 H=>(N) (Z (iM hb1 (fun _ hb1=>?_) fun _ hb1=>?_)))
  ·exact R ((AZ) (W2 hb1 ht1 hr))
  exact K (X ((V) ((AN hk2 hl1) ((A) (Z (I2 hb1 hs1 ⟨k1+1,(),()⟩))))))
 refine CE (Y (R ((AZ) ?_)))
 refine bb hr fun q5 hq2 hr=>?_
 refine (lF hq2 (fun k2 _ _=>[(1,pB b1),(3,zN a0.Right.length),(5,zN k2)]) (fun _ _ w=>HL F0 [] w0 w d1 [d8]) ()) ?_
 rintro k2 _ _ σ w9 hk3 hq2 H
 refine Y (R ((V) ((D 4) ((L H 0) ((NI H 2) fun hl3=>(BZ) ?_)))))
 refine (iF hq2 hr (fun hk4 x2 z2 hx2 hb2 hs2 ht2=>?_) fun hr=>?_)
 ·refine K (Y ?_)
  refine Bk (R ((D 4) ((L H 0) ((V) ?_))))
  obtain⟨b3,ob3,cb3,A4,n4,c4,hvb3,hI1,hS4,hI2,hI3,hI4,hI5,hS5,hS6,H⟩:=q3P H 2 hx2
  let d7:=q5Z x2 A4 n4 c4
  refine (J 9 hvb3 hx2) ((LA H 4) ((AH z9P H) fun b4 w10 H=>(SB H 1) fun w11 H=>Z (R ((D 0) ((D 1) ((L H 1) ?_))))))
  refine bb hb2 fun y4 hy4 hb2=>?_
  refine (CA z8C (q3Q hy4 (F0:=nF) hS4)) (cE H fun w12 H=>(N) ?_)
  refine bb hb2 fun q6 hm4 hb2=>?_
  refine cu H 8 [(1,pB b1),(3,zN a0.Right.length),(5,zN k2),(6,pB b4),(68,.bool q6)] [.R a0 d2,d6,d5,d4,.A b3 (ob3+k2*9) d7,.R x2 d7,.S x2.Expr.Args (.slice A4 n4 c4)] [d8,.B b4 138 d7] ?_ fun σ w14 H=>?_
  ·refine jM hm4 (fun _ hm4=>?_) fun _ hm4=>?_
   ·exact OF hm4
   refine (G) ((D 0) ((G) ((D 0) ((G) ((L H 1) ((G) ((V) ((G) ?_))))))))
   refine bb hm4 fun y5 hy5 hm4=>?_
   exact (CA ok72 (q5j hy5 (F0:=nF) hI1 dI hl1)) (cE H fun w13 H=>(G) ((N) ((U) (Z (C1 hm4)))))
  refine bb hb2 fun q7 hm5 hb2=>?_
  refine cu H 7 [(1,pB b1),(3,zN a0.Right.length),(5,zN k2),(75,.bool q7)] [.R a0 d2,d6,d5,d4,.A b3 (ob3+k2*9) d7,.R x2 d7,.S x2.Expr.Args (.slice A4 n4 c4)] [d8,.B b4 138 d7] ?_ fun σ w16 H=>?_
  ·refine jB hm5 (fun _ hm5=>?_) fun _ hm5=>?_
   ·exact OF hm5
   refine (G) ((D 2) ((G) ?_))
   refine q0b rfl rfl (q0c rfl q7L q5u rfl (Blk.part (rb H 1) 2 7) rfl) ((G) ((V) ((G) ?_)))
   refine bb hm5 fun y6 hy6 hm5=>?_
   exact (CA k0i (z6Y hy6 (q2r.2 ⟨_,rfl,hI2,hI3,hI4,hI5,hS5,hS6,(rs H 6)⟩) hl1)) (cE H fun w15 H=>(G) ((N) ((U) (Z (C1 hm5)))))
  refine Z (iB hb2 (fun _ hb2=>?_) fun _ hb2=>?_)
  ·exact R ((AZ) (W2 hb2 ht2 hr))
  exact K (X ((V) ((AN hk4 hl3) ((A) (Z (I2 hb2 hs2 ⟨k2+1,(),()⟩))))))
 refine CE (Y (R ((AZ) ?_)))
 refine bb hr fun q8 hq3 hr=>?_
 refine (lF hq3 (fun k3 _ _=>[(1,pB b1),(3,zN a0.Right.length),(7,zN k3)]) (fun _ _ w=>HL F0 [] w0 w d1 [d8]) ()) ?_
 rintro k3 _ _ σ w17 hk5 hq3 H
 refine Y (R ((V) ((D 5) ((L H 0) ((NI H 3) fun hl4=>(BZ) ?_)))))
 refine (iF hq3 hr (fun hk6 x3 z3 hx3 hb3 hs3 ht3=>?_) fun hr=>?_)
 ·refine K (Y ?_)
  refine Bk (R ((D 5) ((L H 0) ((V) ?_))))
  obtain⟨b5,ob5,cb5,A5,n5,c5,A6,n6,c6,hvb5,hS7,hS8,hI6,hI7,hI8,hI9,hS9,hS10,hI10,hI11,hI12,hI13,hS11,hS12,H⟩:=q3V H 3 hx3
  let d10:Pr:=.S x3.Value.Args (.slice A6 n6 c6)
  let d9:Pr:=.S x3.Target.Args (.slice A5 n5 c5)
  let d3:=q4u x3 A5 n5 c5 A6 n6 c6
  refine (J 16 hvb5 hx3) ((LA H 4) ((AH j1Y H) fun b6 w18 H=>(SB H 1) fun w19 H=>Z (R ((D 0) ((L H 1) ?_)))))
  refine bb hb3 fun y7 hy7 hb3=>?_
  refine (CA z8C (q3Q hy7 (F0:=nF) hS7)) (cE H fun w20 H=>(N) ?_)
  refine bb hb3 fun q9 hm6 hb3=>?_
  refine cu H 6 [(1,pB b1),(3,zN a0.Right.length),(7,zN k3),(8,pB b6),(97,.bool q9)] [.R a0 d2,d6,d5,d4,.A b5 (ob5+k3*16) d3,.R x3 d3,d9,d10] [d8,.B b6 190 d3] ?_ fun σ w22 H=>?_
  ·refine jM hm6 (fun _ hm6=>?_) fun _ hm6=>?_
   ·exact OF hm6
   refine (G) ((D 1) ((G) ((L H 1) ((G) ?_))))
   refine bb hm6 fun y8 hy8 hm6=>?_
   exact (CA z8C (q3Q hy8 (F0:=nF) hS8)) (cE H fun w21 H=>(G) ((N) ((U) (Z (C1 hm6)))))
  refine bb hb3 fun q10 hm7 hb3=>?_
  refine cu H 7 [(1,pB b1),(3,zN a0.Right.length),(7,zN k3),(8,pB b6),(104,.bool q10)] [.R a0 d2,d6,d5,d4,.A b5 (ob5+k3*16) d3,.R x3 d3,d9,d10] [d8,.B b6 190 d3] ?_ fun σ w24 H=>?_
  ·refine jB hm7 (fun _ hm7=>?_) fun _ hm7=>?_
   ·exact OF hm7
   refine (G) ((D 2) ((G) ?_))
   refine q0b rfl rfl (q0c rfl q7L q5u rfl (Blk.part (rb H 1) 2 7) rfl) ((G) ((V) ((G) ?_)))
   refine bb hm7 fun y9 hy9 hm7=>?_
   exact (CA k0i (z6Y hy9 (q2r.2 ⟨_,rfl,hI6,hI7,hI8,hI9,hS9,hS10,(rs H 6)⟩) hl1)) (cE H fun w23 H=>(G) ((N) ((U) (Z (C1 hm7)))))
  refine bb hb3 fun q11 hm8 hb3=>?_
  refine cu H 7 [(1,pB b1),(3,zN a0.Right.length),(7,zN k3),(111,.bool q11)] [.R a0 d2,d6,d5,d4,.A b5 (ob5+k3*16) d3,.R x3 d3,d9,d10] [d8,.B b6 190 d3] ?_ fun σ w26 H=>?_
  ·refine jB hm8 (fun _ hm8=>?_) fun _ hm8=>?_
   ·exact OF hm8
   refine (G) ((D 9) ((G) ?_))
   refine q0b rfl rfl (q0c rfl q7L q5u rfl (Blk.part (rb H 1) 9 7) rfl) ((G) ((V) ((G) ?_)))
   refine bb hm8 fun y10 hy10 hm8=>?_
   exact (CA k0i (z6Y hy10 (q2r.2 ⟨_,rfl,hI10,hI11,hI12,hI13,hS11,hS12,(rs H 7)⟩) hl1)) (cE H fun w25 H=>(G) ((N) ((U) (Z (C1 hm8)))))
  refine Z (iB hb3 (fun _ hb3=>?_) fun _ hb3=>?_)
  ·exact R ((AZ) (W2 hb3 ht3 hr))
  exact K (X ((V) ((AN hk6 hl4) ((A) (Z (I2 hb3 hs3 ⟨k3+1,(),()⟩))))))
 exact CE (R ((AZ) (W1 hr)))
def z4B:Nat→Symbol→(List ByteArray)→Option (((List ByteArray)) ⊕ Int):=fun k1 x1 s1=>(q8l x1).bind fun y1=>if y1=true then (z0s s1 x1.Name).bind fun y2=>if y2=true then some (.inr (k1:Int)) else grd (((s1.length:Int)+1)*16≤140737488355328∧(s1.length:Int)+1≤9223372036854775807) <| some (.inl (s1++[x1.Name])) else some (.inr (k1:Int))
def z4C:Nat→Rule→(List ByteArray)→Option (((List ByteArray)) ⊕ Int):=fun k2 x2 s2=>(q9E x2).bind fun y3=>if y3=true then (z0s s2 x2.Name).bind fun y4=>if y4=true then some (.inr (k2:Int)) else grd (((s2.length:Int)+1)*16≤140737488355328∧(s2.length:Int)+1≤9223372036854775807) <| some (.inl (s2++[x2.Name])) else some (.inr (k2:Int))
def z6g (a0:Grammar):Option Int:=(q2u z4B 0 a0.Symbols ([]:List ByteArray)).bind <| onr (fun r1=>some r1) fun s1=>(q2u z4C 0 a0.Rules ([]:List ByteArray)).bind <| onr (fun r2=>some r2) fun s2=>some (-1)
theorem j5j {a0}{r}(hr:z6g a0=some r){ca0}(ha0:rd F0 w0 a0 ca0):RT 142 #[ag ca0] w0 fun v w=>v = .int .i64 r∧I64 r:=by
 have H:=(HL.start F0 w0).argR ha0
 obtain⟨A1,n1,c1,A2,n2,c2,rfl,H⟩:=q2s H 0
 let d3:Pr:=.S a0.Rules (.slice A2 n2 c2)
 let d2:Pr:=.S a0.Symbols (.slice A1 n1 c1)
 let d1:List Value:=[.slice A1 n1 c1,.slice A2 n2 c2]
 refine (En Tryz.func142) ?_
 refine R ((BX H) fun b1 w1 H=>(AZ) (R ?_))
 let d7:It:=.B b1 35 d1
 refine q0s (α:=ByteArray) rfl rfl rfl el58 sz9 H fun A3 n3 c3 w2 H=>(A) (Z (Y (R ((AZ) ?_))))
 refine bb hr fun q1 hq1 hr=>?_
 refine (lF hq1 (fun k1 s1 v1=>[(1,pB b1),(3,v1),(4,zN k1)]) (fun s1 v1 w=>HL F0 [] w0 w [.R a0 d1,d2,d3] [d7,.O 9 s1 v1]) (.slice A3 n3 c3)) ?_
 rintro k1 s1 v1 σ w3 hk1 hq1 H
 obtain⟨A4,n4,c4,rfl⟩:=(fo H 1)
 let d5:It:=.O 9 s1 (.slice A4 n4 c4)
 refine Y (R ((V) ((D 0) ((L H 0) ((NI H 1) fun hl1=>(BZ) ?_)))))
 refine (iF hq1 hr (fun hk2 x1 z1 hx1 hb1 hs1 ht1=>?_) fun hr=>?_)
 ·refine K (Y ?_)
  refine Bk (Y (R ((D 0) ((L H 0) ((V) ?_)))))
  obtain⟨b2,ob2,cb2,A5,n5,c5,hvb2,hS1,H⟩:=q4g H 1 hx1
  let d6:List Value:=[.string x1.Name,.slice A5 n5 c5]
  refine (J 2 hvb2 hx1) ((LA H 3) ?_)
  refine bb hb1 fun y1 hy1 hb1=>?_
  refine (CA k3j (z6X hy1 ⟨_,rfl,hS1,(rs H 5)⟩)) (cE H fun w4 H=>(N) (jM hb1 (fun _ hb1=>?_) fun _ hb1=>?_))
  ·exact (O) ((O) ((O) ((O) ((O) ((O) ((O) ((O) ((T) (Z ((cT) (R ((V) ((AZ) (W2 hb1 ht1 hr))))))))))))))
  refine (G) ((V) ((G) ((D 0) ((G) ((L H 0) ((G) ((V) ((G) ((J 2 hvb2 hx1) ((G) ((D 0) ((G) ((LC H 3) ((G) ?_))))))))))))))
  refine bb hb1 fun y2 hy2 hb1=>?_
  refine (CA j8k (z6a hy2 (ro H 1) hS1)) (cE H fun w5 H=>(U) (Z (iB hb1 (fun _ hb1=>?_) fun _ hb1=>?_)))
  ·refine Y ?_
   refine q0a [(4,zN k1)] ⟨rfl,trivial⟩ fun σ=>?_
   have H:HL F0 [] w0 w5 [.R a0 d1,d2,d3,.A b2 (ob2+k1*2) d6,.R x1 d6,.S x1.Attributes (.slice A5 n5 c5)] [d7,d5]:=H
   exact X ((V) ((AZ) (W2 hb1 ht1 hr)))
  refine K ?_
  refine q0a [(1,pB b1),(3,.slice A4 n4 c4),(4,zN k1),(22,.slice A4 n4 c4),(23,.pointer (some ⟨b1,0+0,none⟩)),(24,.slice A1 n1 c1),(25,zN k1),(26,.pointer (some ⟨b2,ob2+k1*2,none⟩)),(27,.pointer (some ⟨b2,ob2+k1*2+0,none⟩)),(28,.string x1.Name),(29,.bool y2)] ⟨rfl,rfl,rfl,rfl,rfl,rfl,rfl,rfl,rfl,rfl,rfl,trivial⟩ fun σ=>?_
  have H:HL F0 [] w0 w5 [.R a0 d1,d2,d3,.A b2 (ob2+k1*2) d6,.R x1 d6,.S x1.Attributes (.slice A5 n5 c5)] [d7,d5]:=H
  refine X ((V) ((D 0) ((L H 0) ((V) ((J 2 hvb2 hx1) ((D 0) ((LC H 3) ?_)))))))
  refine q0p rfl rfl rfl el58 sz9 ze9 rfl rfl rfl rfl rfl rfl fun b3 w6 hE hb hB=>?_
  have H:=H.newB hE hb hB
  refine gg hb1 fun hg1 hb1=>?_
  exact q0t (i:=1) (ys:=[x1.Name]) rfl rfl rfl el58 sz9 by9 ze9 rfl rfl rfl H rfl (fun _=>ownL.single ⟨rfl,rfl,hS1⟩) (.inr ⟨_,_,rfl,At.blk (rb H 2)⟩) hg1 fun A6 n6 c6 w7 H=>(A) (Z (X ((V) ((AN hk2 hl1) ((A) (Z (I2 hb1 hs1 ⟨k1+1,(s1++[x1.Name]),(.slice A6 n6 c6)⟩)))))))
 refine CE (R ?_)
 refine q0s (α:=ByteArray) rfl rfl rfl el58 sz9 H fun A7 n7 c7 w8 H=>(A) (Z (Y (R ((AZ) ?_))))
 refine bb hr fun q2 hq2 hr=>?_
 refine (lF hq2 (fun k2 s2 v2=>[(1,pB b1),(3,v2),(5,zN k2)]) (fun s2 v2 w=>HL F0 [] w0 w [.R a0 d1,d2,d3] [d7,d5,.O 9 s2 v2]) (.slice A7 n7 c7)) ?_
 rintro k2 s2 v2 σ w9 hk3 hq2 H
 obtain⟨A8,n8,c8,rfl⟩:=(fo H 2)
 refine Y (R ((V) ((D 1) ((L H 0) ((NI H 2) fun hl2=>(BZ) ?_)))))
 refine (iF hq2 hr (fun hk4 x2 z2 hx2 hb2 hs2 ht2=>?_) fun hr=>?_)
 ·refine K (Y ?_)
  refine Bk (Y (R ((D 1) ((L H 0) ((V) ?_)))))
  obtain⟨b4,ob4,cb4,A9,n9,c9,A10,n10,c10,A11,n11,c11,hvb4,hS2,hS3,H⟩:=q6N H 2 hx2
  let d8:Pr:=.S x2.Contributions (.slice A11 n11 c11)
  let d4:=q4o x2 A9 n9 c9 A10 n10 c10 A11 n11 c11
  refine (J 6 hvb4 hx2) ((LA H 3) ?_)
  refine bb hb2 fun y3 hy3 hb2=>?_
  refine (CA k3k (z8X hy3 ⟨_,_,_,rfl,hS2,hS3,(rs H 5),(rs H 6),(rs H 7)⟩)) (cE H fun w10 H=>(N) (jM hb2 (fun _ hb2=>?_) fun _ hb2=>?_))
  ·exact (O) ((O) ((O) ((O) ((O) ((O) ((O) ((O) ((T) (Z ((cT) (R ((V) ((AZ) (W2 hb2 ht2 hr))))))))))))))
  refine (G) ((V) ((G) ((D 1) ((G) ((L H 0) ((G) ((V) ((G) ((J 6 hvb4 hx2) ((G) ((D 0) ((G) ((LC H 3) ((G) ?_))))))))))))))
  refine bb hb2 fun y4 hy4 hb2=>?_
  refine (CA j8k (z6a hy4 (ro H 2) hS2)) (cE H fun w11 H=>(U) (Z (iB hb2 (fun _ hb2=>?_) fun _ hb2=>?_)))
  ·refine Y ?_
   refine q0a [(5,zN k2)] ⟨rfl,trivial⟩ fun σ=>?_
   have H:HL F0 [] w0 w11 [.R a0 d1,d2,d3,.A b4 (ob4+k2*6) d4,.R x2 d4,.S x2.Right (.slice A9 n9 c9),.S x2.Equations (.slice A10 n10 c10),d8] [d7,d5,.O 9 s2 (.slice A8 n8 c8)]:=H
   exact X ((V) ((AZ) (W2 hb2 ht2 hr)))
  refine K ?_
  refine q0a [(1,pB b1),(3,.slice A8 n8 c8),(5,zN k2),(57,.slice A8 n8 c8),(58,.pointer (some ⟨b1,0+1,none⟩)),(59,.slice A2 n2 c2),(60,zN k2),(61,.pointer (some ⟨b4,ob4+k2*6,none⟩)),(62,.pointer (some ⟨b4,ob4+k2*6+0,none⟩)),(63,.string x2.Name),(64,.bool y4)] ⟨rfl,rfl,rfl,rfl,rfl,rfl,rfl,rfl,rfl,rfl,rfl,trivial⟩ fun σ=>?_
  have H:HL F0 [] w0 w11 [.R a0 d1,d2,d3,.A b4 (ob4+k2*6) d4,.R x2 d4,.S x2.Right (.slice A9 n9 c9),.S x2.Equations (.slice A10 n10 c10),d8] [d7,d5,.O 9 s2 (.slice A8 n8 c8)]:=H
  refine X ((V) ((D 1) ((L H 0) ((V) ((J 6 hvb4 hx2) ((D 0) ((LC H 3) ?_)))))))
  refine q0p rfl rfl rfl el58 sz9 ze9 rfl rfl rfl rfl rfl rfl fun b5 w12 hE hb hB=>?_
  have H:=H.newB hE hb hB
  refine gg hb2 fun hg2 hb2=>?_
  exact q0t (i:=2) (ys:=[x2.Name]) rfl rfl rfl el58 sz9 by9 ze9 rfl rfl rfl H rfl (fun _=>ownL.single ⟨rfl,rfl,hS2⟩) (.inr ⟨_,_,rfl,At.blk (rb H 3)⟩) hg2 fun A12 n12 c12 w13 H=>(A) (Z (X ((V) ((AN hk4 hl2) ((A) (Z (I2 hb2 hs2 ⟨k2+1,(s2++[x2.Name]),(.slice A12 n12 c12)⟩)))))))
 exact CE (R ((AZ) (W1 hr)))
def q4a (a0:Rule)(a1:Int):Option ByteArray:=if a1=0 then some a0.Left else (q5q a1 1 (a0.Right.length:Int)).bind fun y1=>if y1=true then grd (I64 (a1 - 1)) <| grd (0≤(a1 - 1)) <| (a0.Right[(a1 - 1).toNat]?).bind fun x1=>some x1 else some (⟨#[]⟩:ByteArray)
theorem q5G {a0}{a1}{r}(hr:q4a a0 a1=some r){ca0}(ha0:rd F0 w0 a0 ca0)(ha1:I64 a1):RT 113 #[ag ca0,.int .i64 a1] w0 fun v w=>v = .string r∧r.size≤9223372036854775807:=by
 have H:=(HL.start F0 w0).argR ha0
 obtain⟨A1,n1,c1,A2,n2,c2,A3,n3,c3,rfl,hS1,hS2,H⟩:=q3j H 0
 refine (En Tryz.func113) ?_
 refine R ((BX H) fun b1 w1 H=>(A) (Z (Y (R ((V) ((BZ) (iD hr (fun _ hr=>?_) fun _ hr=>?_)))))))
 ·exact R ((D 1) ((L H 0) ((AZ) (W1 hr))))
 refine K (Y (R ((V) ((D 2) ((L H 0) ((NI H 1) fun hl1=>?_))))))
 refine bb hr fun y1 hy1 hr=>?_
 refine (CA ok72 (q5j hy1 (F0:=nF) ha1 dI hl1)) (cE H fun w2 H=>(N) (Z (iM hr (fun _ hr=>?_) fun _ hr=>?_)))
 ·exact R ((AZ) (W1 hr))
 refine K (R ((D 2) ((L H 0) ((V) ?_))))
 refine gg hr fun hg1 hr=>(BN (Bin.sub hg1)) ?_
 refine gg hr fun hg2 hr=>?_
 refine bb hr fun x1 hx1 hr=>?_
 obtain⟨b2,ob2,cb2,hvb2,hS3,H⟩:=q7l H 1 hx1
 exact q0b rfl rfl (q0l rfl el58 sz9 rfl hvb2 rfl hg2 (q4G hx1)) ((L0 H 4) ((AZ) (W1 hr)))
def z1C (a0:Symbol):Option Symbol:=grd (((([]:List Attribute).length:Int)+(a0.Attributes.length:Int))*40≤140737488355328∧(([]:List Attribute).length:Int)+(a0.Attributes.length:Int)≤9223372036854775807) <| some a0
theorem j1f {a0 r}(hr:z1C a0=some r){ca0}(ha0:rd F0 w0 a0 ca0):RT 148 #[ag ca0] w0 fun v w=>∃ A0 n0 c0,v = .agg #[.string r.Name,(.slice A0 n0 c0)]∧r.Name.size≤9223372036854775807∧HL F0 [] w0 w [] [.O 91 r.Attributes (.slice A0 n0 c0)]:=by
 have H:=(HL.start F0 w0).argR ha0
 obtain⟨A1,n1,c1,rfl,hS1,H⟩:=q6e H 0
 let d1:List Value:=[.string a0.Name,.slice A1 n1 c1]
 let d2:List Pr:=[.R a0 d1,.S a0.Attributes (.slice A1 n1 c1)]
 refine (En Tryz.func148) ?_
 refine R ((BX H) fun b1 w1 H=>(AH ze89 H) fun b2 w2 H=>Z (Y ?_))
 refine q0y (fun w=>∃ v1_0_:Value,∃ v1_1_:Value,HL F0 [] w0 w d2 [.B b1 89 d1,.B b2 89 [v1_0_,v1_1_]]) hmix (fun w3 hE=>?_)
 have H:HL F0 [] w0 w3 d2 [.B b1 89 d1,.B b2 89 [.string eB,.slice none 0 0]]:=H.ext hE
 refine HW.take 0 ⟨_,_,H.keep 2 2⟩ rfl (by kernel_rfl) rfl rfl (fun _ _=>q0m rfl k1l rfl) ?_
 refine HW.take 1 ⟨_,_,H.keep 2 2⟩ rfl (by kernel_rfl) rfl rfl (fun _ ⟨_,_,hq⟩=>q0h rfl ag9 rfl ((hq.rB (i:=0) rfl).cell rfl)) ?_
 refine HW.take 3 ⟨_,_,H.keep 2 2⟩ rfl (by kernel_rfl) rfl rfl (fun _ _=>q0m rfl k1m rfl) ?_
 refine HW.take 4 ⟨_,_,H.keep 2 2⟩ rfl (by kernel_rfl) rfl rfl (fun _ ⟨_,_,hq⟩=>q0h rfl ag87 rfl ((hq.rB (i:=0) rfl).cell rfl)) ?_
 refine q0f 2 rfl (by kernel_rfl) ?_
 refine q0s (α:=Attribute) rfl rfl rfl el87 sz91 H fun A2 n2 c2 w4 H=>?_
 refine HW.next ⟨_,_,H.keep 2 2⟩ ?_
 refine q0f 5 rfl (by kernel_rfl) ?_
 refine gg hr fun hg1 hr=>?_
 refine q0W (i:=2) rfl rfl rfl el87 sz91 by91 ze91 rfl rfl rfl H rfl (rs H 1) hg1 fun A3 n3 c3 w5 H=>?_
 refine HW.next ⟨_,_,H.keep 2 2⟩ ?_
 refine HW.take 6 ⟨_,_,H.keep 2 2⟩ rfl (by kernel_rfl) rfl rfl (fun _ _=>Ev.build rfl pl89 ze89 rfl rfl rfl rfl) ?_
 refine q0f 7 rfl (by kernel_rfl) ((SB H 1) fun w6 H=>?_)
 refine HW.next ⟨_,_,H.keep 2 2⟩ ?_
 refine q0r (by kernel_rfl) (CR ?_)
 obtain rfl:=sm hr
 exact⟨_,resC rfl ag89 sz89 rfl rfl (ab H 1) rfl,H.ext0,_,_,_,rfl,hS1,H.outM (fr':=[]) [false,false,true] tw⟩
def z1X (a1:ByteArray):Nat→Symbol→Unit→Option (Unit ⊕ (Symbol × Bool)):=fun k1 x1 _=>if x1.Name=a1 then (z1C x1).bind fun y1=>some (.inr (y1,true)) else some (.inl ())
def q6g (a0:Grammar)(a1:ByteArray):Option (Symbol × Bool):=(q2u (z1X a1) 0 a0.Symbols ()).bind <| onr (fun r1=>some r1) fun _=>some ((⟨(⟨#[]⟩:ByteArray),[]⟩:Symbol),false)
theorem q8c {a0}{a1}{r}(hr:q6g a0 a1=some r){ca0}(ha0:rd F0 w0 a0 ca0)(ha1:a1.size≤9223372036854775807):RT 112 #[ag ca0,.string a1] w0 fun v w=>∃ A0 n0 c0,v = .tuple #[.agg #[.string r.1.Name,(.slice A0 n0 c0)],.bool r.2]∧r.1.Name.size≤9223372036854775807∧HL F0 [] w0 w [] [.O 91 r.1.Attributes (.slice A0 n0 c0)]:=by
 have H:=(HL.start F0 w0).argR ha0
 obtain⟨A1,n1,c1,A2,n2,c2,rfl,H⟩:=q2s H 0
 refine (En Tryz.func112) ?_
 refine R ((BX H) fun b1 w1 H=>(AH ze89 H) fun b2 w2 H=>(A) (Z (Y (R ((AZ) ?_)))))
 refine bb hr fun q1 hq1 hr=>?_
 refine (lF hq1 (fun k1 _ _=>[(1,.string a1),(2,pB b1),(4,pB b2),(6,zN k1)]) (fun _ _ w=>HL F0 [] w0 w [.R a0 [.slice A1 n1 c1,.slice A2 n2 c2],.S a0.Symbols (.slice A1 n1 c1),.S a0.Rules (.slice A2 n2 c2)] [.B b1 35 [.slice A1 n1 c1,.slice A2 n2 c2],.B b2 89 [.string eB,.slice none 0 0]]) ()) ?_
 rintro k1 _ _ σ w3 hk1 hq1 H
 refine Y (R ((V) ((D 0) ((L H 0) ((NI H 1) fun hl1=>(BZ) ?_)))))
 refine (iF hq1 hr (fun hk2 x1 z1 hx1 hb1 hs1 ht1=>?_) fun hr=>?_)
 ·refine K (Y ?_)
  refine Bk (R ((D 0) ((L H 0) ((V) ?_))))
  obtain⟨b3,ob3,cb3,A3,n3,c3,hvb3,hS1,H⟩:=q4g H 1 hx1
  refine (J 2 hvb3 hx1) ((D 0) ((LC H 3) ((V) ((BZ) (iD hb1 (fun _ hb1=>?_) fun _ hb1=>?_)))))
  ·refine R ((D 0) ((L H 0) ((V) ((J 2 hvb3 hx1) ((LA H 3) ?_)))))
   refine bb hb1 fun y1 hy1 hb1=>?_
   refine (CA k2U (j1f hy1 ⟨_,rfl,hS1,(rs H 5)⟩)) ?_
   rintro _ w4 hE ⟨A4,n4,c4,rfl,hS2,H'⟩
   have H:=H.callA H' tv
   refine (SB H 1) fun w5 H=>(AZ) (CR ?_)
   obtain rfl:=sm hb1
   obtain rfl:=ht1 _ rfl
   obtain rfl:=sm hr
   exact⟨_,z5I rfl ag89 sz89 rfl rfl rfl rfl (ab H 1) rfl,H.ext0,_,_,_,rfl,hS2,H.outM (fr':=[]) [false,false,true] tw⟩
  exact K (X ((V) ((AN hk2 hl1) ((A) (Z (I2 hb1 hs1 ⟨k1+1,(),()⟩))))))
 refine CE (R ?_)
 refine q0b rfl rfl (Ev.build rfl pl89 ze89 rfl rfl rfl rfl) ((SB H 1) fun w6 H=>(AZ) (CR ?_))
 have H:=H.nil (α:=Attribute) 91
 obtain rfl:=sm hr
 exact⟨_,z5I rfl ag89 sz89 rfl rfl rfl rfl (ab H 1) rfl,H.ext0,_,_,_,rfl,dI,H.outM (fr':=[]) [false,false,true] tw⟩
def q8d (a0:Grammar)(a1:Rule):Int→Option (Int ⊕ (Unit ⊕ Bool)):=fun s1=>if s1≤(a1.Right.length:Int) then (q4a a1 s1).bind fun y1=>(q6g a0 y1).bind fun (y2,y3)=>if y3=true then grd (I64 (s1+1)) <| some (.inl (s1+1)) else some (.inr (.inr false)) else some (.inr (.inl ()))
def z0u (a0:Grammar)(a1:Rule):Option Bool:=( q7k (q8d a0 a1) 0 ).bind <| onr (fun r1=>some r1) fun ()=>some true
theorem z9Y {a0}{a1}{r}(hr:z0u a0 a1=some r){ca0}(ha0:rd F0 w0 a0 ca0){ca1}(ha1:rd F0 w0 a1 ca1):RB 176 #[ag ca0,ag ca1] w0 r:=by
 have H:=((HL.start F0 w0).argR ha0).argR ha1
 obtain⟨A1,n1,c1,A2,n2,c2,rfl,H⟩:=q2s H 0
 obtain⟨A3,n3,c3,A4,n4,c4,A5,n5,c5,rfl,hS1,hS2,H⟩:=q3j H 1
 let d3:=q4o a1 A3 n3 c3 A4 n4 c4 A5 n5 c5
 let d1:List Pr:=[.R a0 [.slice A1 n1 c1,.slice A2 n2 c2],.R a1 d3,.S a0.Symbols (.slice A1 n1 c1),.S a0.Rules (.slice A2 n2 c2),.S a1.Right (.slice A3 n3 c3),.S a1.Equations (.slice A4 n4 c4),.S a1.Contributions (.slice A5 n5 c5)]
 refine (En Tryz.func176) ?_
 refine R ((BX H) fun b1 w1 H=>(BX H) fun b2 w2 H=>(A) (Z (Y (R ((AZ) ?_)))))
 let d2:List It:=[.B b1 35 [.slice A1 n1 c1,.slice A2 n2 c2],.B b2 62 d3]
 refine bb hr fun q1 hm1 hr=>?_
 refine q0u (fun ρ' w=>q1 = .inl ()∧q4R ρ' []∧HL F0 [] w0 w d1 d2) ?_ ?_
 ·obtain⟨m1,hq1⟩:=q5g.1 hm1
  refine (lI hq1 (fun m1 s1 _=>[(2,pB b1),(3,pB b2),(5,.int .i64 s1)]) (fun s1 _ w=>I64 s1∧HL F0 [] w0 w d1 d2) ()) ?_
  rintro m1 s1 _ σ w3 hq1 ⟨hI1,H⟩
  obtain⟨m2,z1,rfl,hb1,hs1,ht1⟩:=q8B hq1
  refine Y (R ((V) ((D 2) ((L H 1) ((NI H 4) fun hl1=>(BZ) (iD hb1 (fun h1 hb1=>?_) fun _ hb1=>?_))))))
  ·refine K ?_
   refine bb hb1 fun y1 hy1 hb1=>?_
   obtain⟨_,_,_,hS3⟩:=(q5G hy1 ⟨_,_,_,rfl,hS1,hS2,(rs H 4),(rs H 5),(rs H 6)⟩ hI1).get
   obtain⟨⟨y2,y3⟩,hy2,hb1⟩:=bd hb1
   refine Y ?_
   refine Bk (Y ?_)
   refine q0E 10 (fun ρ=>[.fix (.agg #[.slice A1 n1 c1,.slice A2 n2 c2]),.fix (.agg #[.string a1.Name,.string a1.Left,.slice A3 n3 c3,.bool a1.Literal,.slice A4 n4 c4,.slice A5 n5 c5]),.fix (.int .i64 s1),.fix (.string y1),.free (fun S v w=>∃ A6:Option Addr,∃ n6:Nat,∃ c6:Nat,v = .tuple #[.agg #[.string y2.Name,.slice A6 n6 c6],.bool y3]∧y2.Name.size≤9223372036854775807∧NewI S w [.O 91 y2.Attributes (.slice A6 n6 c6)]),.dep 20 id,.dep 15 (z1P 0),.dep 15 (z1P 1),.free (VarB 89 2),.wr 6 21 (WrB 89)]) [[],[],[],[],[],[20],[15],[15],[],[6,21]] NoM (fun _ _=>True) [] [none,none,none,none,none,none,none,none,none,some 8] (noM _) hmix (by kernel_rfl) rfl ⟨trivial,trivial,trivial,trivial,fun _ _ _ _ _ ⟨A6,n6,c6,hv,h0,hh⟩ hc hS hT=>⟨A6,n6,c6,hv,h0,hh.chgT hc hS⟩,trivial,trivial,trivial,fun _ _ _ _ _ h hc hS _=>h.chgT hc hS,fun _ _ _ _ _ _ h hc hS _=>h.chgT hc hS,trivial⟩ trivial (fun _ _ _ _ _ _ _=>trivial) ?_
   refine q0g rfl rfl rfl rfl rfl (fun _ hq hK=>q0c rfl ag35 sz35 rfl (At.blk ((H.ext hq).rB (i:=0) rfl)) rfl) ?_
   refine q0g rfl rfl rfl rfl rfl (fun _ hq hK=>q0c rfl ag62 sz62 rfl (At.blk ((H.ext hq).rB (i:=1) rfl)) rfl) ?_
   refine q0g rfl rfl rfl rfl rfl (fun _ hq hK=>q0j rfl rfl) ?_
   refine q0F rfl rfl rfl rfl (fun _ hq hK=>OpX.call rfl rfl rfl rfl j6n rfl (q5G hy1 ⟨_,_,_,rfl,hS1,hS2,(rs (H.ext hq) 4),(rs (H.ext hq) 5),(rs (H.ext hq) 6)⟩ hI1) fun _ _ hE h=>⟨hE,h.1⟩) ?_
   refine LL2.free rfl rfl rfl rfl (fun wq hq hK=>?_) (fun v_G1_4 S_G1_4=>?_)
   ·refine OpX.call rfl rfl rfl rfl j6m rfl (q8c hy2 ⟨_,_,rfl,(rs (H.ext hq) 2),(rs (H.ext hq) 3)⟩ hS3) ?_
    rintro _ w hE ⟨A6,n6,c6,rfl,h0,hh⟩
    exact⟨hE,A6,n6,c6,rfl,h0,NewI.of hh tv⟩
   refine q0T rfl rfl rfl rfl rfl (.inl rfl) rfl ?_
   refine q0z rfl rfl rfl rfl rfl rfl rfl (fun wq hq hK=>?_) ?_
   ·have hK:∀ j' (_:(q2v _).contains j'=true),_:=hK 5 rfl
    obtain⟨A6,n6,c6,rfl,_,_⟩:=hK 4 rfl
    exact⟨_,_,rfl,rfl⟩
   refine q0z rfl rfl rfl rfl rfl rfl rfl (fun wq hq hK=>?_) ?_
   ·have hK:∀ j' (_:(q2v _).contains j'=true),_:=hK 5 rfl
    obtain⟨A6,n6,c6,rfl,_,_⟩:=hK 4 rfl
    exact⟨_,_,rfl,rfl⟩
   refine LL2.free rfl rfl rfl rfl (fun wq hq hK=>q0x rfl rfl ze89 rfl) (fun v_G1_8 S_G1_8=>?_)
   refine LL2.st (k:=2) rfl rfl rfl (by decide) rfl rfl rfl rfl sz89 rfl rfl (fun wq hq hK=>hK 8 rfl) (fun wq hq hK=>?_) ?_
   ·obtain⟨A6,n6,c6,rfl,_,_⟩:=hK 4 rfl
    exact⟨_,rfl,rfl,(all1 rfl (all1 rfl all0))⟩
   intro w4 hE _ hK hap hbd
   have hE:=z0q hE
   obtain⟨A6,n6,c6,rfl,hS4,hN1⟩:=hK 4 (by decide)
   obtain⟨b3,rfl,hN2⟩:=j0L (cells:=[.string y2.Name,.slice A6 n6 c6]) (hK 8 (by decide)) (hK 9 (by decide)) rfl
   have H:=H.add hE (hN1.app hN2 fun q h1 h2=>absurd (hap 4 8 q h1 h2) (by decide)) ⟨fun _ _ _ _ _ h=>h,tv⟩ (fun q hq=>hq.elim (fun h=>(hbd 4 q h).1) fun h=>(hbd 8 q h).1)
   refine (A) (Z (R ((V) ((N) (Z (iM hb1 (fun _ hb1=>?_) fun _ hb1=>?_))))))
   ·exact R ((AZ) (W2 hb1 ht1 hr))
   refine K (X ((V) ?_))
   exact gg hb1 fun hg1 hb1=>(BN (Bin.add hg1)) ((A) (Z (I2 hb1 hs1 ⟨m2,(s1+1),()⟩)))
  exact CE (C2 hb1 ht1)
 rintro ρ' w5 ⟨rfl,hag,H⟩
 obtain⟨σ,rfl⟩:=q4H hag
 exact R ((AZ) (W1 hr))
def q6P (s3:Int):Nat→Attribute→(List Occurrence)→Option (List Occurrence):=fun k1 x1 s5=>( if x1.Mode=2 then grd (((s5.length:Int)+1)*24≤140737488355328∧(s5.length:Int)+1≤9223372036854775807) <| some (s5++[(⟨s3,x1.Name⟩:Occurrence)]) else some s5 ).bind fun s6=>some s6
def q6Q (s3:Int):Nat→Attribute→(List Occurrence)→Option (List Occurrence):=fun k2 x2 s7=>( if x2.Mode=1 then grd (((s7.length:Int)+1)*24≤140737488355328∧(s7.length:Int)+1≤9223372036854775807) <| some (s7++[(⟨s3,x2.Name⟩:Occurrence)]) else some s7 ).bind fun s8=>some s8
def q4x (a0:Grammar)(a1:Rule):((List Occurrence) × Int)→Option (((List Occurrence) × Int) ⊕ (List Occurrence)):=fun (s2,s3)=>if s3≤(a1.Right.length:Int) then ( (q4a a1 s3).bind fun y1=>(q6g a0 y1).bind fun (y2,y3)=>if s3=0 then (q2J (q6P s3) 0 y2.Attributes s2).bind fun s5=>some s5 else (q2J (q6Q s3) 0 y2.Attributes s2).bind fun s7=>some s7 ).bind fun s4=>grd (I64 (s3+1)) <| some (.inl (s4,(s3+1))) else some (.inr s2)
def q2y (a0:Grammar)(a1:Rule):Option (List Occurrence):=( q7k (q4x a0 a1) (([]:List Occurrence),0) ).bind fun s1=>some s1
theorem q5B {a0}{a1}{r}(hr:q2y a0 a1=some r){ca0}(ha0:rd F0 w0 a0 ca0){ca1}(ha1:rd F0 w0 a1 ca1):RT 74 #[ag ca0,ag ca1] w0 fun v w=>∃ A0 n0 c0,v=(.slice A0 n0 c0)∧HL F0 [] w0 w [] [.O 133 r (.slice A0 n0 c0)]:=by
 have H:=((HL.start F0 w0).argR ha0).argR ha1
 obtain⟨A1,n1,c1,A2,n2,c2,rfl,H⟩:=q2s H 0
 obtain⟨A3,n3,c3,A4,n4,c4,A5,n5,c5,rfl,hS1,hS2,H⟩:=q3j H 1
 let d5:=q4o a1 A3 n3 c3 A4 n4 c4 A5 n5 c5
 let d1:List Pr:=[.R a0 [.slice A1 n1 c1,.slice A2 n2 c2],.R a1 d5,.S a0.Symbols (.slice A1 n1 c1),.S a0.Rules (.slice A2 n2 c2),.S a1.Right (.slice A3 n3 c3),.S a1.Equations (.slice A4 n4 c4),.S a1.Contributions (.slice A5 n5 c5)]
 refine (En Tryz.func74) ?_
 refine R ((BX H) fun b1 w1 H=>(BX H) fun b2 w2 H=>(AZ) (R ?_))
 let d3:It:=.B b1 35 [.slice A1 n1 c1,.slice A2 n2 c2]
 let d2:It:=.B b2 62 d5
 refine q0s (α:=Occurrence) rfl rfl rfl el95 q3n H fun A6 n6 c6 w3 H=>(A) (Z (Y (R ((AZ) ?_))))
 refine bb hr fun q1 hm1 hr=>?_
 refine q0u (fun ρ' w=>∃ (s1:List Occurrence) (v1:Value),s1=q1∧q4R ρ' [(5,v1)]∧HL F0 [] w0 w d1 [d3,d2,.O 133 s1 v1]) ?_ ?_
 ·obtain⟨m1,hq1⟩:=q5g.1 hm1
  refine (lI hq1 (fun m1 ⟨s2,s3⟩ v2=>[(2,pB b1),(3,pB b2),(5,v2),(6,.int .i64 s3)]) (fun ⟨s2,s3⟩ v2 w=>I64 s3∧HL F0 [] w0 w d1 [d3,d2,.O 133 s2 v2]) (.slice A6 n6 c6)) ?_
  rintro m1 ⟨s2,s3⟩ v2 σ w4 hq1 ⟨hI1,H⟩
  obtain⟨A7,n7,c7,rfl⟩:=(fo H 2)
  obtain⟨m2,z1,rfl,hb1,hs1,ht1⟩:=q8B hq1
  refine Y (R ((V) ((D 2) ((L H 1) ((NI H 4) fun hl1=>(BZ) (iD hb1 (fun h1 hb1=>?_) fun _ hb1=>?_))))))
  ·refine K ?_
   refine bb hb1 fun q2 hm2 hb1=>Y ?_
   refine q0u (fun ρ' w=>∃ (s4:List Occurrence) (v3:Value),s4=q2∧q4R ρ' [(2,pB b1),(3,pB b2),(5,v3),(6,.int .i64 s3)]∧HL F0 [] w0 w d1 [d3,d2,.O 133 s4 v3]) ?_ ?_
   ·refine bb hm2 fun y1 hy1 hm2=>?_
    obtain⟨_,_,_,hS3⟩:=(q5G hy1 ⟨_,_,_,rfl,hS1,hS2,(rs H 4),(rs H 5),(rs H 6)⟩ hI1).get
    obtain⟨⟨y2,y3⟩,hy2,hm2⟩:=bd hm2
    refine Bk (Y ?_)
    refine q0E 10 (fun ρ=>[.fix (.agg #[.slice A1 n1 c1,.slice A2 n2 c2]),.fix (.agg #[.string a1.Name,.string a1.Left,.slice A3 n3 c3,.bool a1.Literal,.slice A4 n4 c4,.slice A5 n5 c5]),.fix (.int .i64 s3),.fix (.string y1),.free (fun S v w=>∃ A8:Option Addr,∃ n8:Nat,∃ c8:Nat,v = .tuple #[.agg #[.string y2.Name,.slice A8 n8 c8],.bool y3]∧y2.Name.size≤9223372036854775807∧NewI S w [.O 91 y2.Attributes (.slice A8 n8 c8)]),.dep 24 id,.dep 19 (z1P 0),.dep 19 (z1P 1),.free (VarB 89 2),.wr 7 25 (WrB 89)]) [[],[],[],[],[],[24],[19],[19],[],[7,25]] NoM (fun _ _=>True) [] [none,none,none,none,none,none,none,none,none,some 8] (noM _) hmix (by kernel_rfl) rfl ⟨trivial,trivial,trivial,trivial,fun _ _ _ _ _ ⟨A8,n8,c8,hv,h0,hh⟩ hc hS hT=>⟨A8,n8,c8,hv,h0,hh.chgT hc hS⟩,trivial,trivial,trivial,fun _ _ _ _ _ h hc hS _=>h.chgT hc hS,fun _ _ _ _ _ _ h hc hS _=>h.chgT hc hS,trivial⟩ trivial (fun _ _ _ _ _ _ _=>trivial) ?_
    refine q0g rfl rfl rfl rfl rfl (fun _ hq hK=>q0c rfl ag35 sz35 rfl (At.blk ((H.ext hq).rB (i:=0) rfl)) rfl) ?_
    refine q0g rfl rfl rfl rfl rfl (fun _ hq hK=>q0c rfl ag62 sz62 rfl (At.blk ((H.ext hq).rB (i:=1) rfl)) rfl) ?_
    refine q0g rfl rfl rfl rfl rfl (fun _ hq hK=>q0j rfl rfl) ?_
    refine q0F rfl rfl rfl rfl (fun _ hq hK=>OpX.call rfl rfl rfl rfl j6n rfl (q5G hy1 ⟨_,_,_,rfl,hS1,hS2,(rs (H.ext hq) 4),(rs (H.ext hq) 5),(rs (H.ext hq) 6)⟩ hI1) fun _ _ hE h=>⟨hE,h.1⟩) ?_
    refine LL2.free rfl rfl rfl rfl (fun wq hq hK=>?_) (fun v_G1_4 S_G1_4=>?_)
    ·refine OpX.call rfl rfl rfl rfl j6m rfl (q8c hy2 ⟨_,_,rfl,(rs (H.ext hq) 2),(rs (H.ext hq) 3)⟩ hS3) ?_
     rintro _ w hE ⟨A8,n8,c8,rfl,h0,hh⟩
     exact⟨hE,A8,n8,c8,rfl,h0,NewI.of hh tv⟩
    refine q0T rfl rfl rfl rfl rfl (.inl rfl) rfl ?_
    refine q0z rfl rfl rfl rfl rfl rfl rfl (fun wq hq hK=>?_) ?_
    ·have hK:∀ j' (_:(q2v _).contains j'=true),_:=hK 5 rfl
     obtain⟨A8,n8,c8,rfl,_,_⟩:=hK 4 rfl
     exact⟨_,_,rfl,rfl⟩
    refine q0z rfl rfl rfl rfl rfl rfl rfl (fun wq hq hK=>?_) ?_
    ·have hK:∀ j' (_:(q2v _).contains j'=true),_:=hK 5 rfl
     obtain⟨A8,n8,c8,rfl,_,_⟩:=hK 4 rfl
     exact⟨_,_,rfl,rfl⟩
    refine LL2.free rfl rfl rfl rfl (fun wq hq hK=>q0x rfl rfl ze89 rfl) (fun v_G1_8 S_G1_8=>?_)
    refine LL2.st (k:=2) rfl rfl rfl (by decide) rfl rfl rfl rfl sz89 rfl rfl (fun wq hq hK=>hK 8 rfl) (fun wq hq hK=>?_) ?_
    ·obtain⟨A8,n8,c8,rfl,_,_⟩:=hK 4 rfl
     exact⟨_,rfl,rfl,(all1 rfl (all1 rfl all0))⟩
    intro w5 hE _ hK hap hbd
    have hE:=z0q hE
    obtain⟨A8,n8,c8,rfl,hS4,hN1⟩:=hK 4 (by decide)
    let d4:List Value:=[.string y2.Name,.slice A8 n8 c8]
    obtain⟨b3,rfl,hN2⟩:=j0L (cells:=d4) (hK 8 (by decide)) (hK 9 (by decide)) rfl
    have H:=H.add hE (hN1.app hN2 fun q h1 h2=>absurd (hap 4 8 q h1 h2) (by decide)) ⟨fun _ _ _ _ _ h=>h,tv⟩ (fun q hq=>hq.elim (fun h=>(hbd 4 q h).1) fun h=>(hbd 8 q h).1)
    refine (A) (Z (R ((A) (Z (Y (R ((V) ((BZ) (iD hm2 (fun _ hm2=>?_) fun _ hm2=>?_)))))))))
    ·refine X ((A) (Z (R ((AZ) ?_))))
     refine bb hm2 fun q3 hq2 hm2=>?_
     refine (lE hq2 (fun k1 s5 v4=>[(2,pB b1),(3,pB b2),(5,v4),(6,.int .i64 s3),(7,pB b3),(9,.int .i64 2),(10,zN k1)]) (fun s5 v4 w=>HL F0 [] w0 w d1 [d3,d2,.O 133 s5 v4,.O 91 y2.Attributes (.slice A8 n8 c8),.B b3 89 d4]) (.slice A7 n7 c7)) ?_
     rintro k1 s5 v4 σ w6 hk1 hq2 H
     obtain⟨A9,n9,c9,rfl⟩:=(fo H 2)
     refine Y (R ((V) ((D 1) ((L H 4) ?_))))
     have hl2:=(H.rO (i:=3) rfl).I
     refine (NN (ro H 3)) ((BZ) ?_)
     refine (iE hq2 (fun hk2 x1 z2 hx1 hb2 hq2=>?_) fun e=>?_)
     ·refine K ?_
      refine bb hb2 fun q4 hm3 hb2=>Y ?_
      refine q0u (fun ρ' w=>∃ (s6:List Occurrence) (v5:Value),s6=q4∧q4R ρ' [(2,pB b1),(3,pB b2),(5,v5),(6,.int .i64 s3),(7,pB b3),(9,.int .i64 2),(10,zN k1)]∧HL F0 [] w0 w d1 [d3,d2,.O 133 s6 v5,.O 91 y2.Attributes (.slice A8 n8 c8),.B b3 89 d4]) ?_ ?_
      ·refine Bk (R ((D 1) ((L H 4) ((V) ?_))))
       obtain⟨b4,cb4,hvb4,hbb4⟩:=po H 3 hx1
       refine (J 4 hvb4 hx1) ((D 2) ?_)
       obtain⟨hA1,hS5,hI2,hI3,H⟩:=z0r H 3 hx1 hbb4
       refine (LT hA1) ((V) ((BZ) (iD hm3 (fun _ hm3=>?_) fun _ hm3=>?_)))
       ·refine X ((V) ((V) ((D 1) ((L H 4) ((V) ?_)))))
        obtain⟨b5,cb5,hvb5,hbb5⟩:=po H 3 hx1
        refine (J 4 hvb5 hx1) ((D 0) ?_)
        obtain⟨hA2,hS6,hI4,hI5,H⟩:=z0r H 3 hx1 hbb5
        refine (LT hA2) ?_
        refine q0b rfl rfl (Ev.build rfl z7M q5v rfl rfl rfl rfl) ?_
        refine q0p rfl rfl rfl el95 q3n q5v rfl rfl rfl rfl rfl rfl fun b6 w7 hE hb hB=>?_
        have H:=H.newB hE hb hB
        refine gg hm3 fun hg1 hm3=>?_
        exact q0t (i:=2) (ys:=[(⟨s3,x1.Name⟩:Occurrence)]) rfl rfl rfl el95 q3n z3v q5v rfl rfl rfl H rfl (fun _=>ownL.single ⟨rfl,hI1,hS6,rfl⟩) (.inr ⟨_,_,rfl,At.blk (rb H 5)⟩) hg1 fun A10 n10 c10 w8 H=>(AZ) (C1 hm3)
       exact K (C1 hm3)
      rintro ρ' w9 ⟨s6,v5,rfl,hag,H⟩
      obtain⟨σ,rfl⟩:=q4H hag
      obtain⟨A11,n11,c11,rfl⟩:=(fo H 2)
      exact X ((V) ((AN hk2 hl2) ((A) (Z (I1 hb2 ⟨k1+1,s6,(.slice A11 n11 c11)⟩)))))
     obtain rfl:=e
     exact CE (C1 hm2)
    refine K (R ((AZ) ?_))
    refine bb hm2 fun q5 hq3 hm2=>?_
    refine (lE hq3 (fun k2 s7 v6=>[(2,pB b1),(3,pB b2),(5,v6),(6,.int .i64 s3),(7,pB b3),(9,.int .i64 1),(10,zN k2)]) (fun s7 v6 w=>HL F0 [] w0 w d1 [d3,d2,.O 133 s7 v6,.O 91 y2.Attributes (.slice A8 n8 c8),.B b3 89 d4]) (.slice A7 n7 c7)) ?_
    rintro k2 s7 v6 σ w10 hk3 hq3 H
    obtain⟨A12,n12,c12,rfl⟩:=(fo H 2)
    refine Y (R ((V) ((D 1) ((L H 4) ?_))))
    have hl3:=(H.rO (i:=3) rfl).I
    refine (NN (ro H 3)) ((BZ) ?_)
    refine (iE hq3 (fun hk4 x2 z3 hx2 hb3 hq3=>?_) fun e=>?_)
    ·refine K ?_
     refine bb hb3 fun q6 hm4 hb3=>Y ?_
     refine q0u (fun ρ' w=>∃ (s8:List Occurrence) (v7:Value),s8=q6∧q4R ρ' [(2,pB b1),(3,pB b2),(5,v7),(6,.int .i64 s3),(7,pB b3),(9,.int .i64 1),(10,zN k2)]∧HL F0 [] w0 w d1 [d3,d2,.O 133 s8 v7,.O 91 y2.Attributes (.slice A8 n8 c8),.B b3 89 d4]) ?_ ?_
     ·refine Bk (R ((D 1) ((L H 4) ((V) ?_))))
      obtain⟨b7,cb7,hvb7,hbb7⟩:=po H 3 hx2
      refine (J 4 hvb7 hx2) ((D 2) ?_)
      obtain⟨hA3,hS7,hI6,hI7,H⟩:=z0r H 3 hx2 hbb7
      refine (LT hA3) ((V) ((BZ) (iD hm4 (fun _ hm4=>?_) fun _ hm4=>?_)))
      ·refine X ((V) ((V) ((D 1) ((L H 4) ((V) ?_)))))
       obtain⟨b8,cb8,hvb8,hbb8⟩:=po H 3 hx2
       refine (J 4 hvb8 hx2) ((D 0) ?_)
       obtain⟨hA4,hS8,hI8,hI9,H⟩:=z0r H 3 hx2 hbb8
       refine (LT hA4) ?_
       refine q0b rfl rfl (Ev.build rfl z7M q5v rfl rfl rfl rfl) ?_
       refine q0p rfl rfl rfl el95 q3n q5v rfl rfl rfl rfl rfl rfl fun b9 w11 hE hb hB=>?_
       have H:=H.newB hE hb hB
       refine gg hm4 fun hg2 hm4=>?_
       exact q0t (i:=2) (ys:=[(⟨s3,x2.Name⟩:Occurrence)]) rfl rfl rfl el95 q3n z3v q5v rfl rfl rfl H rfl (fun _=>ownL.single ⟨rfl,hI1,hS8,rfl⟩) (.inr ⟨_,_,rfl,At.blk (rb H 5)⟩) hg2 fun A13 n13 c13 w12 H=>(AZ) (C1 hm4)
      exact K (C1 hm4)
     rintro ρ' w13 ⟨s8,v7,rfl,hag,H⟩
     obtain⟨σ,rfl⟩:=q4H hag
     obtain⟨A14,n14,c14,rfl⟩:=(fo H 2)
     exact X ((V) ((AN hk4 hl3) ((A) (Z (I1 hb3 ⟨k2+1,s8,(.slice A14 n14 c14)⟩)))))
    obtain rfl:=e
    exact CE (C1 hm2)
   rintro ρ' w14 ⟨s4,v3,rfl,hag,H⟩
   obtain⟨σ,rfl⟩:=q4H hag
   obtain⟨A15,n15,c15,rfl⟩:=(fo H 2)
   refine X ((V) ?_)
   exact gg hb1 fun hg3 hb1=>(BN (Bin.add hg3)) ((A) (Z (I2 hb1 hs1 ⟨m2,⟨s4,(s3+1)⟩,(.slice A15 n15 c15)⟩)))
  exact CE (C2 hb1 ht1)
 rintro ρ' w15 ⟨s1,v1,rfl,hag,H⟩
 obtain⟨σ,rfl⟩:=q4H hag
 obtain⟨A16,n16,c16,rfl⟩:=(fo H 2)
 exact R ((V) ((AZ) (W1 hr)))
def q9n (rec_sl4Copy:Expr→Option Expr):Nat→Expr→(List Expr)→Option (List Expr):=fun k1 x1 s1=>(rec_sl4Copy x1).bind fun y1=>grd (((s1.length:Int)+1)*88≤140737488355328∧(s1.length:Int)+1≤9223372036854775807) <| some (s1++[y1])
def z0a (rec_sl4Copy:Expr→Option Expr)(a0:Expr):Option Expr:=(q2J (q9n rec_sl4Copy) 0 a0.Args ([]:List Expr)).bind fun s1=>some (⟨a0.Kind,a0.N,a0.Pos,a0.Type_,a0.Symbol,a0.Name,s1⟩:Expr)
theorem j3w {rec_sl4Copy:Expr→Option Expr}(ih_sl4Copy:∀ {a0 r:Expr},rec_sl4Copy a0=some r→∀ {F0:Nat→Prop} {w0:World} {ca0} (ha0:rd F0 w0 a0 ca0),RT 149 #[ag ca0] w0 fun v w=>∃ A0 n0 c0,v = .agg #[.int .i64 r.Kind,.int .i64 r.N,.int .i64 r.Pos,.int .i64 r.Type_,.string r.Symbol,.string r.Name,(.slice A0 n0 c0)]∧I64 r.Kind∧I64 r.N∧I64 r.Pos∧I64 r.Type_∧r.Symbol.size≤9223372036854775807∧r.Name.size≤9223372036854775807∧HL F0 [] w0 w [] [.G 136 r.Args (.slice A0 n0 c0)]){a0 r}(hr:z0a rec_sl4Copy a0=some r){ca0}(ha0:rd F0 w0 a0 ca0):RT 149 #[ag ca0] w0 fun v w=>∃ A0 n0 c0,v = .agg #[.int .i64 r.Kind,.int .i64 r.N,.int .i64 r.Pos,.int .i64 r.Type_,.string r.Symbol,.string r.Name,(.slice A0 n0 c0)]∧I64 r.Kind∧I64 r.N∧I64 r.Pos∧I64 r.Type_∧r.Symbol.size≤9223372036854775807∧r.Name.size≤9223372036854775807∧HL F0 [] w0 w [] [.G 136 r.Args (.slice A0 n0 c0)]:=by
 have H:=(HL.start F0 w0).argR ha0
 obtain⟨A1,n1,c1,rfl,hI1,hI2,hI3,hI4,hS1,hS2,H⟩:=q3q H 0
 let d2:=q2D a0 A1 n1 c1
 refine (En Tryz.func149) ?_
 refine R ((BX H) fun b1 w1 H=>(AH q9V H) fun b2 w2 H=>Z (R ?_))
 let d1:It:=.B b2 136 [.int .i64 0,.int .i64 0,.int .i64 0,.int .i64 0,.string eB,.string eB,.slice none 0 0]
 refine q0s (α:=Expr) rfl rfl rfl z7L q5u H fun A2 n2 c2 w3 H=>?_
 have H:=H.toG (i:=2) rfl
 refine (A) (Z (Y (R ((AZ) ?_))))
 refine bb hr fun q1 hq1 hr=>?_
 refine Bk (CW.loop (α:=Nat × (List Expr) × Value) (fun ⟨k1,s1,v1⟩=>[(1,pB b1),(2,pB b2),(3,v1),(4,zN k1)]) (fun ⟨k1,s1,v1⟩ w=>k1≤a0.Args.length∧q2J (q9n rec_sl4Copy) k1 (a0.Args.drop k1) s1=some q1∧HL F0 [] w0 w [.R a0 d2,.S a0.Args (.slice A1 n1 c1)] [.B b1 136 d2,d1,.G 136 s1 v1]) (fun ⟨k1,s1,v1⟩=>a0.Args.length - k1) ⟨0,([]:List Expr),(.slice A2 n2 c2)⟩ ⟨rfl,rfl,rfl,rfl,trivial⟩ ⟨Nat.zero_le _,hq1,H.keep 2 3⟩ ?_)
 rintro⟨k1,s1,v1⟩ σ w4 ⟨hk1,hq1,H⟩
 obtain⟨A3,n3,c3,rfl⟩:=(H.rG (i:=2) rfl).form3
 refine Y (R ((V) ((D 6) ((L H 0) ((NI H 1) fun hl1=>(BZ) ?_)))))
 refine (iE hq1 (fun hk2 x1 z1 hx1 hb1 hq1=>?_) fun e=>?_)
 ·refine K (Y ?_)
  refine Bk (X ((V) ((D 6) ((L H 0) ((V) ?_)))))
  obtain⟨b3,ob3,cb3,A4,n4,c4,hvb3,hI5,hI6,hI7,hI8,hS3,hS4,H⟩:=q4f H 1 hx1
  refine (J 7 hvb3 hx1) ((LA H 2) ?_)
  refine bb hb1 fun y1 hy1 hb1=>?_
  obtain⟨F,hF,hcl⟩:=H.call
  refine (CA k1t (ih_sl4Copy hy1 (q2r.2 ⟨_,rfl,hI5,hI6,hI7,hI8,hS3,hS4,(hF.get (i:=4) rfl)⟩))) ?_
  rintro _ w5 hE ⟨A5,n5,c5,rfl,hI9,hI10,hI11,hI12,hS5,hS6,H'⟩
  have H:HL F0 [] w0 w5 [.R a0 d2,.S a0.Args (.slice A1 n1 c1),.A b3 (ob3+k1*7) (q2D x1 A4 n4 c4),.R x1 (q2D x1 A4 n4 c4),.S x1.Args (.slice A4 n4 c4)] [.B b1 136 d2,d1,.G 136 s1 (.slice A3 n3 c3),.G 136 y1.Args (.slice A5 n5 c5)]:=hcl H'
  refine q0p rfl rfl rfl z7L q5u q9V rfl rfl rfl rfl rfl rfl fun b4 w6 hE hb hB=>?_
  have H:=H.newB hE hb hB
  have H:=H.frzG (i:=3) rfl
  refine gg hb1 fun hg1 hb1=>?_
  refine q1k (i:=2) (ys:=[y1]) rfl rfl rfl z7L q5u j6c q9V rfl rfl rfl H rfl (fun F hF=>rdL.single (q2r.2 ⟨_,rfl,hI9,hI10,hI11,hI12,hS5,hS6,(hF.get (i:=5) rfl)⟩)) (.inr ⟨_,_,rfl,At.blk (rb H 4)⟩) hg1 fun A6 n6 c6 w7 H=>(A) (Z (X ((V) ((AN hk2 hl1) ((AZ) ?_)))))
  obtain rfl:=sm hb1
  exact⟨⟨k1+1,(s1++[y1]),(.slice A6 n6 c6)⟩,⟨rfl,rfl,rfl,rfl,trivial⟩,⟨hk2,hq1,H.keep 2 3⟩,Nat.sub_lt_sub_left hk2 (Nat.lt_succ_self _)⟩
 obtain rfl:=e
 refine CE (R ((V) ((D 6) ((SB H 0) fun w8 H=>Z (R ((LB H 0) ((SB H 1) fun w9 H=>Z (CR ?_))))))))
 obtain rfl:=sm hr
 exact⟨_,resC rfl q7L q5u rfl rfl (ab H 1) rfl,H.ext0,_,_,_,rfl,hI1,hI2,hI3,hI4,hS1,hS2,H.outM (fr':=[]) [false,false,true] tw⟩
def q5N:Nat→Expr→Option Expr
  | 0,_=>none
  | n+1,a0=>z0a (q5N n) a0
def z6h (a0:Expr):Option Expr:=recO fun n=>q5N n a0
theorem j3x (n:Nat):∀ {a0 r:Expr},q5N n a0=some r→∀ {F0:Nat→Prop} {w0:World} {ca0} (ha0:rd F0 w0 a0 ca0),RT 149 #[ag ca0] w0 fun v w=>∃ A0 n0 c0,v = .agg #[.int .i64 r.Kind,.int .i64 r.N,.int .i64 r.Pos,.int .i64 r.Type_,.string r.Symbol,.string r.Name,(.slice A0 n0 c0)]∧I64 r.Kind∧I64 r.N∧I64 r.Pos∧I64 r.Type_∧r.Symbol.size≤9223372036854775807∧r.Name.size≤9223372036854775807∧HL F0 [] w0 w [] [.G 136 r.Args (.slice A0 n0 c0)]:=by
 induction n with
 | zero=>intro a0 r hr; exact nomatch (show (none:Option Expr)=some r from hr)
 | succ n ih=>intro a0 r hr; exact j3w ih hr
theorem j5k {a0 r}(hr:z6h a0=some r){ca0}(ha0:rd F0 w0 a0 ca0):RT 149 #[ag ca0] w0 fun v w=>∃ A0 n0 c0,v = .agg #[.int .i64 r.Kind,.int .i64 r.N,.int .i64 r.Pos,.int .i64 r.Type_,.string r.Symbol,.string r.Name,(.slice A0 n0 c0)]∧I64 r.Kind∧I64 r.N∧I64 r.Pos∧I64 r.Type_∧r.Symbol.size≤9223372036854775807∧r.Name.size≤9223372036854775807∧HL F0 [] w0 w [] [.G 136 r.Args (.slice A0 n0 c0)]:=by
 obtain⟨n,hn⟩:=q4v hr
 exact j3x n hn ha0
def q6a (a1:Occurrence):Nat→Equation→Unit→Option (Unit ⊕ (Expr × Bool)):=fun k1 x1 _=>if x1.At=a1 then (z6h x1.Expr).bind fun y1=>some (.inr (y1,true)) else some (.inl ())
def q5a (a0:Rule)(a1:Occurrence):Option (Expr × Bool):=(q2u (q6a a1) 0 a0.Equations ()).bind <| onr (fun r1=>some r1) fun _=>some ((⟨0,0,0,0,(⟨#[]⟩:ByteArray),(⟨#[]⟩:ByteArray),[]⟩:Expr),false)
theorem z3k {a0}{a1}{r}(hr:q5a a0 a1=some r){ca0}(ha0:rd F0 w0 a0 ca0){ca1}(ha1:rd F0 w0 a1 ca1):RT 114 #[ag ca0,ag ca1] w0 fun v w=>∃ A0 n0 c0,v = .tuple #[.agg #[.int .i64 r.1.Kind,.int .i64 r.1.N,.int .i64 r.1.Pos,.int .i64 r.1.Type_,.string r.1.Symbol,.string r.1.Name,(.slice A0 n0 c0)],.bool r.2]∧I64 r.1.Kind∧I64 r.1.N∧I64 r.1.Pos∧I64 r.1.Type_∧r.1.Symbol.size≤9223372036854775807∧r.1.Name.size≤9223372036854775807∧HL F0 [] w0 w [] [.G 136 r.1.Args (.slice A0 n0 c0)]:=by
 let d3:List Value:=[.int .i64 a1.Pos,.string a1.Name]
 have H:=((HL.start F0 w0).argR ha0).argR ha1
 obtain⟨A1,n1,c1,A2,n2,c2,A3,n3,c3,rfl,hS1,hS2,H⟩:=q3j H 0
 let d4:Pr:=.S a0.Contributions (.slice A3 n3 c3)
 let d2:=q4o a0 A1 n1 c1 A2 n2 c2 A3 n3 c3
 obtain⟨rfl,hI1,hS3,H⟩:=q2z H 1
 refine (En Tryz.func114) ?_
 refine R ((BX H) fun b1 w1 H=>(BX H) fun b2 w2 H=>(AH q9V H) fun b3 w3 H=>(A) (Z (Y (R ((AZ) ?_)))))
 let d1:It:=.B b3 136 [.int .i64 0,.int .i64 0,.int .i64 0,.int .i64 0,.string eB,.string eB,.slice none 0 0]
 refine bb hr fun q1 hq1 hr=>?_
 refine (lF hq1 (fun k1 _ _=>[(2,pB b1),(3,pB b2),(4,pB b3),(6,zN k1)]) (fun _ _ w=>HL F0 [] w0 w [.R a0 d2,.R a1 d3,.S a0.Right (.slice A1 n1 c1),.S a0.Equations (.slice A2 n2 c2),d4] [.B b1 62 d2,.B b2 133 d3,d1]) ()) ?_
 rintro k1 _ _ σ w4 hk1 hq1 H
 refine Y (R ((V) ((D 4) ((L H 0) ((NI H 3) fun hl1=>(BZ) ?_)))))
 refine (iF hq1 hr (fun hk2 x1 z1 hx1 hb1 hs1 ht1=>?_) fun hr=>?_)
 ·refine K (Y ?_)
  refine Bk (Y ?_)
  refine q0d hmix (by kernel_rfl) ?_
  refine (qD 4) ((qL H 0) ((qV) ?_))
  obtain⟨b4,ob4,cb4,A4,n4,c4,hvb4,hI2,hS4,hI3,hI4,hI5,hI6,hS5,hS6,H⟩:=q3P H 3 hx1
  refine (qJ 9 hvb4 hx1) ((qD 0) ?_)
  refine q0i rfl rfl (fun _ hq=>q0c rfl z0l q3n rfl (((H.ext hq).rA (i:=5) rfl).part 0 2) rfl) ?_
  refine (qLB H 1) ((qBN (q0D j0R (q4T x1.At a1))) ?_)
  refine QL.nil (fun w5 hE=>?_)
  have H:=H.ext hE
  refine iD hb1 (fun _ hb1=>?_) fun _ hb1=>?_
  ·refine R ((D 4) ((L H 0) ((V) ((J 9 hvb4 hx1) ((D 2) ?_)))))
   refine q0b rfl rfl (q0c rfl q7L q5u rfl ((ra H 5).part 2 7) rfl) ?_
   refine bb hb1 fun y1 hy1 hb1=>?_
   obtain⟨F,hF,hcl⟩:=H.call
   refine (CA k1t (j5k hy1 (q2r.2 ⟨_,rfl,hI3,hI4,hI5,hI6,hS5,hS6,(hF.get (i:=7) rfl)⟩))) ?_
   rintro _ w6 hE ⟨A5,n5,c5,rfl,hI7,hI8,hI9,hI10,hS7,hS8,H'⟩
   have H:HL F0 [] w0 w6 [.R a0 d2,.R a1 d3,.S a0.Right (.slice A1 n1 c1),.S a0.Equations (.slice A2 n2 c2),d4,.A b4 (ob4+k1*9) (q5Z x1 A4 n4 c4),.R x1 (q5Z x1 A4 n4 c4),.S x1.Expr.Args (.slice A4 n4 c4)] [.B b1 62 d2,.B b2 133 d3,d1,.G 136 y1.Args (.slice A5 n5 c5)]:=hcl H'
   refine (SB H 2) fun w7 H=>(AZ) (CR ?_)
   obtain rfl:=sm hb1
   obtain rfl:=ht1 _ rfl
   obtain rfl:=sm hr
   exact⟨_,z5I rfl q7L q5u rfl rfl rfl rfl (ab H 2) rfl,H.ext0,_,_,_,rfl,hI7,hI8,hI9,hI10,hS7,hS8,H.outM (fr':=[]) [false,false,false,true] tw⟩
  exact K (X ((V) ((AN hk2 hl1) ((A) (Z (I2 hb1 hs1 ⟨k1+1,(),()⟩))))))
 refine CE (R ?_)
 refine q0b rfl rfl (Ev.build rfl k0a q9V rfl rfl rfl rfl) ((SB H 2) fun w8 H=>(AZ) (CR ?_))
 have H:=H.nilG (α:=Expr) 136
 obtain rfl:=sm hr
 exact⟨_,z5I rfl q7L q5u rfl rfl rfl rfl (ab H 2) rfl,H.ext0,_,_,_,rfl,dI,dI,dI,dI,dI,dI,H.outM (fr':=[]) [false,false,false,true] tw⟩
def z4W (a1:Rule):Nat→Occurrence→Unit→Option (Unit ⊕ Bool):=fun k1 x1 _=>(q5a a1 x1).bind fun (y2,y3)=>if y3=true then some (.inl ()) else some (.inr true)
def z0v (a0:Grammar)(a1:Rule):Option Bool:=(q2y a0 a1).bind fun y1=>(q2u (z4W a1) 0 y1 ()).bind <| onr (fun r1=>some r1) fun _=>some false
theorem z9Z {a0}{a1}{r}(hr:z0v a0 a1=some r){ca0}(ha0:rd F0 w0 a0 ca0){ca1}(ha1:rd F0 w0 a1 ca1):RB 177 #[ag ca0,ag ca1] w0 r:=by
 have H:=((HL.start F0 w0).argR ha0).argR ha1
 obtain⟨A1,n1,c1,A2,n2,c2,rfl,H⟩:=q2s H 0
 obtain⟨A3,n3,c3,A4,n4,c4,A5,n5,c5,rfl,hS1,hS2,H⟩:=q3j H 1
 let d1:=q4o a1 A3 n3 c3 A4 n4 c4 A5 n5 c5
 refine (En Tryz.func177) ?_
 refine R ((BX H) fun b1 w1 H=>(BX H) fun b2 w2 H=>(A) (Z (R ((LB H 0) ((LB H 1) ?_)))))
 refine bb hr fun y1 hy1 hr=>?_
 refine (CA ok74 (q5B hy1 ⟨_,_,rfl,(rs H 2),(rs H 3)⟩ ⟨_,_,_,rfl,hS1,hS2,(rs H 4),(rs H 5),(rs H 6)⟩)) ?_
 rintro _ w3 hE ⟨A6,n6,c6,rfl,H'⟩
 have H:=H.callA H' tv
 refine (A) (Z (Y (R ((AZ) ?_))))
 refine bb hr fun q1 hq1 hr=>?_
 refine (lF hq1 (fun k1 _ _=>[(3,pB b2),(5,.slice A6 n6 c6),(6,zN k1)]) (fun _ _ w=>HL F0 [] w0 w [.R a0 [.slice A1 n1 c1,.slice A2 n2 c2],.R a1 d1,.S a0.Symbols (.slice A1 n1 c1),.S a0.Rules (.slice A2 n2 c2),.S a1.Right (.slice A3 n3 c3),.S a1.Equations (.slice A4 n4 c4),.S a1.Contributions (.slice A5 n5 c5)] [.B b1 35 [.slice A1 n1 c1,.slice A2 n2 c2],.B b2 62 d1,.O 133 y1 (.slice A6 n6 c6)]) ()) ?_
 rintro k1 _ _ σ w4 hk1 hq1 H
 refine Y (R ((V) ((V) ?_)))
 have hl1:=(H.rO (i:=2) rfl).I
 refine (NN (ro H 2)) ((BZ) ?_)
 refine q0e rfl (fun h1=>?_) (fun h1=>?_)
 ·have hk2:=q2G h1
  obtain⟨x1,z1,hx1,hb1,hs1,ht1⟩:=q3o hq1 hk2
  refine K ?_
  obtain⟨b3,cb3,hvb3,hbb3⟩:=po H 2 hx1
  obtain⟨hA1,hI1,hS3,H⟩:=q6o H 2 hx1 hbb3
  obtain⟨⟨y2,y3⟩,hy2,hb1⟩:=bd hb1
  obtain⟨F_G1,hFl_G1,hF_G1,hcl_G1⟩:=H.callL
  refine Y ?_
  refine Bk (Y ?_)
  refine q0E 11 (fun ρ=>[.fix (.agg #[.string a1.Name,.string a1.Left,.slice A3 n3 c3,.bool a1.Literal,.slice A4 n4 c4,.slice A5 n5 c5]),.fix (.slice A6 n6 c6),.fix (zN k1),.fix (.pointer (some ⟨b3,0+k1*2,none⟩)),.fix (.agg #[.int .i64 x1.Pos,.string x1.Name]),.free (fun S v w=>∃ A7:Option Addr,∃ n7:Nat,∃ c7:Nat,v = .tuple #[.agg #[.int .i64 y2.Kind,.int .i64 y2.N,.int .i64 y2.Pos,.int .i64 y2.Type_,.string y2.Symbol,.string y2.Name,.slice A7 n7 c7],.bool y3]∧I64 y2.Kind∧I64 y2.N∧I64 y2.Pos∧I64 y2.Type_∧y2.Symbol.size≤9223372036854775807∧y2.Name.size≤9223372036854775807∧NewV F_G1 w4 S w [] [.G 136 y2.Args (.slice A7 n7 c7)]),.dep 24 id,.dep 18 (z1P 0),.dep 18 (z1P 1),.free (VarB 136 7),.wr 7 25 (WrB 136)]) [[],[],[],[],[],[],[24],[18],[18],[],[7,25]] NoM (fun _ _=>True) [] [none,none,none,none,none,none,none,none,none,none,some 9] (noM _) hmix (by kernel_rfl) rfl ⟨trivial,trivial,trivial,trivial,trivial,fun _ _ _ _ _ ⟨A7,n7,c7,hv,h0,h1,h2,h3,h4,h5,hh⟩ hc hS hT=>⟨A7,n7,c7,hv,h0,h1,h2,h3,h4,h5,hh.chgT hc hS hT hFl_G1⟩,trivial,trivial,trivial,fun _ _ _ _ _ h hc hS _=>h.chgT hc hS,fun _ _ _ _ _ _ h hc hS _=>h.chgT hc hS,trivial⟩ trivial (fun _ _ _ _ _ _ _=>trivial) ?_
  refine q0g rfl rfl rfl rfl rfl (fun _ hq hK=>q0c rfl ag62 sz62 rfl (At.blk ((H.ext hq).rB (i:=1) rfl)) rfl) ?_
  refine q0g rfl rfl rfl rfl rfl (fun _ hq hK=>q0j rfl rfl) ?_
  refine q0g rfl rfl rfl rfl rfl (fun _ hq hK=>q0j rfl rfl) ?_
  refine q0g rfl rfl rfl rfl rfl (fun _ hq hK=>q0V rfl el95 q3n rfl hvb3 rfl (q4G hx1)) ?_
  refine q0g rfl rfl rfl rfl rfl (fun _ hq hK=>q0c rfl z0l q3n rfl (hA1.ext hq) rfl) ?_
  refine LL2.free rfl rfl rfl rfl (fun wq hq hK=>?_) (fun v_G1_5 S_G1_5=>?_)
  ·have hF:=hF_G1.ext hq
   refine OpX.call rfl rfl rfl rfl k1p rfl (z3k hy2 ⟨_,_,_,rfl,hS1,hS2,(hF.get (i:=4) rfl),(hF.get (i:=5) rfl),(hF.get (i:=6) rfl)⟩ ⟨rfl,hI1,hS3⟩) ?_
   rintro _ w hE ⟨A7,n7,c7,rfl,h0,h1,h2,h3,h4,h5,hh⟩
   exact⟨hE,A7,n7,c7,rfl,h0,h1,h2,h3,h4,h5,NewV.of hFl_G1 hq hh⟩
  refine q0T rfl rfl rfl rfl rfl (.inl rfl) rfl ?_
  refine q0z rfl rfl rfl rfl rfl rfl rfl (fun wq hq hK=>?_) ?_
  ·have hK:∀ j' (_:(q2v _).contains j'=true),_:=hK 6 rfl
   obtain⟨A7,n7,c7,rfl,_,_,_,_,_,_,_⟩:=hK 5 rfl
   exact⟨_,_,rfl,rfl⟩
  refine q0z rfl rfl rfl rfl rfl rfl rfl (fun wq hq hK=>?_) ?_
  ·have hK:∀ j' (_:(q2v _).contains j'=true),_:=hK 6 rfl
   obtain⟨A7,n7,c7,rfl,_,_,_,_,_,_,_⟩:=hK 5 rfl
   exact⟨_,_,rfl,rfl⟩
  refine LL2.free rfl rfl rfl rfl (fun wq hq hK=>q0x rfl rfl q9V rfl) (fun v_G1_9 S_G1_9=>?_)
  refine LL2.st (k:=7) rfl rfl rfl (by decide) rfl rfl rfl rfl q5u rfl rfl (fun wq hq hK=>hK 9 rfl) (fun wq hq hK=>?_) ?_
  ·obtain⟨A7,n7,c7,rfl,_,_,_,_,_,_,_⟩:=hK 5 rfl
   exact⟨_,rfl,rfl,(all1 rfl (all1 rfl (all1 rfl (all1 rfl (all1 rfl (all1 rfl (all1 rfl all0)))))))⟩
  intro w5 hE _ hK hap hbd
  have hE:=z0q hE
  obtain⟨A7,n7,c7,rfl,hI2,hI3,hI4,hI5,hS4,hS5,hN1⟩:=hK 5 (by decide)
  obtain⟨b4,rfl,hN2⟩:=j0L (cells:=(q2D y2 A7 n7 c7)) (hK 9 (by decide)) (hK 10 (by decide)) rfl
  have H:=hcl_G1 (q0X (hN1.app (hN2.V tv) fun q h1 h2=>absurd (hap 5 9 q h1 h2) (by decide)) hE fun q hq=>hq.elim (fun h=>(hbd 5 q h).1) fun h=>(hbd 9 q h).1)
  refine (A) (Z (R ((V) ((N) (Z (iM hb1 (fun _ hb1=>?_) fun _ hb1=>?_))))))
  ·exact R ((AZ) (W2 hb1 ht1 hr))
  exact K (X ((V) ((AN hk2 hl1) ((A) (Z (I2 hb1 hs1 ⟨k1+1,(),()⟩))))))
 obtain rfl:=q2M hq1 (q2t h1)
 have hr:=(q2S _ _ _).symm.trans hr
 exact CE (R ((AZ) (W1 hr)))
def z1D (a1:Occurrence):Nat→Occurrence→Unit→Option (Unit ⊕ Bool):=fun k1 x1 _=>if x1=a1 then some (.inr true) else some (.inl ())
def q4y (a0:(List Occurrence))(a1:Occurrence):Option Bool:=(q2u (z1D a1) 0 a0 ()).bind <| onr (fun r1=>some r1) fun _=>some false
theorem q7F {a0}{a1}{r}(hr:q4y a0 a1=some r){z0}(ha0:rdS F0 w0 a0 z0){ca1}(ha1:rd F0 w0 a1 ca1):RB 73 #[z0,ag ca1] w0 r:=by
 obtain⟨A0',n0',c0',rfl⟩:=ha0.form3
 have H:=((HL.start F0 w0).argS ha0).argR ha1
 obtain⟨rfl,hI1,hS1,H⟩:=q2z H 1
 refine (En Tryz.func73) ?_
 refine R ((BX H) fun b1 w1 H=>(A) (Z (Y (R ((AZ) ?_)))))
 refine bb hr fun q1 hq1 hr=>?_
 refine (lF hq1 (fun k1 _ _=>[(0,.slice A0' n0' c0'),(3,pB b1),(5,zN k1)]) (fun _ _ w=>HL F0 [] w0 w [.S a0 (.slice A0' n0' c0'),.R a1 [.int .i64 a1.Pos,.string a1.Name]] [.B b1 133 [.int .i64 a1.Pos,.string a1.Name]]) ()) ?_
 rintro k1 _ _ σ w2 hk1 hq1 H
 refine Y (R ((V) ((V) ((NI H 0) fun hl1=>(BZ) ?_))))
 refine (iF hq1 hr (fun hk2 x1 z1 hx1 hb1 hs1 ht1=>?_) fun hr=>?_)
 ·refine K (Y ?_)
  refine Bk (Y ?_)
  refine q0d hmix (by kernel_rfl) ?_
  refine (qV) ((qV) ?_)
  obtain⟨b2,ob2,cb2,hvb2,hI2,hS2,H⟩:=q5E H 0 hx1
  refine (qJ 2 hvb2 hx1) ((qLA H 2) ((qLB H 0) ((qBN (q0D j0R (q4T x1 a1))) ?_)))
  refine QL.nil (fun w3 hE=>?_)
  have H:=H.ext hE
  refine iD hb1 (fun _ hb1=>?_) fun _ hb1=>?_
  ·exact R ((AZ) (W2 hb1 ht1 hr))
  exact K (X ((V) ((AN hk2 hl1) ((A) (Z (I2 hb1 hs1 ⟨k1+1,(),()⟩))))))
 exact CE (R ((AZ) (W1 hr)))
def z1E (y1:(List Occurrence)):Nat→Equation→(List Occurrence)→Option (((List Occurrence)) ⊕ Bool):=fun k1 x1 s1=>(q4y y1 x1.At).bind fun y2=>if y2=true then (q4y s1 x1.At).bind fun y3=>if y3=true then some (.inr true) else grd (((s1.length:Int)+1)*24≤140737488355328∧(s1.length:Int)+1≤9223372036854775807) <| some (.inl (s1++[x1.At])) else some (.inr true)
def z2P (a0:Grammar)(a1:Rule):Option Bool:=(q2y a0 a1).bind fun y1=>(q2u (z1E y1) 0 a1.Equations ([]:List Occurrence)).bind <| onr (fun r1=>some r1) fun s1=>some false
theorem j2k {a0}{a1}{r}(hr:z2P a0 a1=some r){ca0}(ha0:rd F0 w0 a0 ca0){ca1}(ha1:rd F0 w0 a1 ca1):RB 178 #[ag ca0,ag ca1] w0 r:=by
 have H:=((HL.start F0 w0).argR ha0).argR ha1
 obtain⟨A1,n1,c1,A2,n2,c2,rfl,H⟩:=q2s H 0
 let d8:Pr:=.S a0.Rules (.slice A2 n2 c2)
 let d7:Pr:=.S a0.Symbols (.slice A1 n1 c1)
 let d3:List Value:=[.slice A1 n1 c1,.slice A2 n2 c2]
 obtain⟨A3,n3,c3,A4,n4,c4,A5,n5,c5,rfl,hS1,hS2,H⟩:=q3j H 1
 let d9:Pr:=.S a1.Right (.slice A3 n3 c3)
 let d6:Pr:=.S a1.Equations (.slice A4 n4 c4)
 let d4:Pr:=.S a1.Contributions (.slice A5 n5 c5)
 let d2:=q4o a1 A3 n3 c3 A4 n4 c4 A5 n5 c5
 refine (En Tryz.func178) ?_
 refine R ((BX H) fun b1 w1 H=>(BX H) fun b2 w2 H=>(A) (Z (R ((LB H 0) ((LB H 1) ?_)))))
 refine bb hr fun y1 hy1 hr=>?_
 refine (CA ok74 (q5B hy1 ⟨_,_,rfl,(rs H 2),(rs H 3)⟩ ⟨_,_,_,rfl,hS1,hS2,(rs H 4),(rs H 5),(rs H 6)⟩)) ?_
 rintro _ w3 hE ⟨A6,n6,c6,rfl,H'⟩
 have H:=H.callA H' tv
 refine (AZ) (R ?_)
 refine q0s (α:=Occurrence) rfl rfl rfl el95 q3n H fun A7 n7 c7 w4 H=>(A) (Z (Y (R ((AZ) ?_))))
 refine bb hr fun q1 hq1 hr=>?_
 refine (lF hq1 (fun k1 s1 v1=>[(3,pB b2),(5,.slice A6 n6 c6),(6,v1),(7,zN k1)]) (fun s1 v1 w=>HL F0 [] w0 w [.R a0 d3,.R a1 d2,d7,d8,d9,d6,d4] [.B b1 35 d3,.B b2 62 d2,.O 133 y1 (.slice A6 n6 c6),.O 133 s1 v1]) (.slice A7 n7 c7)) ?_
 rintro k1 s1 v1 σ w5 hk1 hq1 H
 obtain⟨A8,n8,c8,rfl⟩:=(fo H 3)
 refine Y (R ((V) ((D 4) ((L H 1) ((NI H 5) fun hl1=>(BZ) ?_)))))
 refine (iF hq1 hr (fun hk2 x1 z1 hx1 hb1 hs1 ht1=>?_) fun hr=>?_)
 ·refine K (Y ?_)
  refine Bk (R ((D 4) ((L H 1) ((V) ?_))))
  obtain⟨b3,ob3,cb3,A9,n9,c9,hvb3,hI1,hS3,hI2,hI3,hI4,hI5,hS4,hS5,H⟩:=q3P H 5 hx1
  let d5:=q5Z x1 A9 n9 c9
  refine (J 9 hvb3 hx1) ((D 0) ?_)
  refine q0b rfl rfl (q0c rfl z0l q3n rfl ((ra H 7).part 0 2) rfl) ((AH q5v H) fun b4 w6 H=>(SB H 4) fun w7 H=>Z (Y (R ((V) ((LB H 4) ?_)))))
  let d1:List It:=[.B b1 35 d3,.B b2 62 d2,.O 133 y1 (.slice A6 n6 c6),.O 133 s1 (.slice A8 n8 c8),.B b4 133 [.int .i64 x1.At.Pos,.string x1.At.Name]]
  refine bb hb1 fun y2 hy2 hb1=>?_
  refine (CA ok73 (q7F hy2 (ro H 2) ⟨rfl,hI1,hS3⟩)) (cE H fun w8 H=>(N) (jM hb1 (fun _ hb1=>?_) fun _ hb1=>?_))
  ·exact (O) ((O) ((O) ((T) (Z ((cT) (R ((AZ) (W2 hb1 ht1 hr))))))))
  refine (G) ((V) ((G) ((LB H 4) ((G) ?_))))
  refine bb hb1 fun y3 hy3 hb1=>?_
  refine (CA ok73 (q7F hy3 (ro H 3) ⟨rfl,hI1,hS3⟩)) (cE H fun w9 H=>(U) (Z (iB hb1 (fun _ hb1=>?_) fun _ hb1=>?_)))
  ·refine Y ?_
   refine q0a [] trivial fun σ=>?_
   have H:HL F0 [] w0 w9 [.R a0 d3,.R a1 d2,d7,d8,d9,d6,d4,.A b3 (ob3+k1*9) d5,.R x1 d5,.S x1.Expr.Args (.slice A9 n9 c9)] d1:=H
   exact X ((AZ) (W2 hb1 ht1 hr))
  refine K ?_
  refine q0a [(3,pB b2),(5,.slice A6 n6 c6),(6,.slice A8 n8 c8),(7,zN k1),(8,pB b4),(31,.slice A8 n8 c8),(32,.agg #[.int .i64 x1.At.Pos,.string x1.At.Name]),(33,.bool y3)] ⟨rfl,rfl,rfl,rfl,rfl,rfl,rfl,rfl,trivial⟩ fun σ=>?_
  have H:HL F0 [] w0 w9 [.R a0 d3,.R a1 d2,d7,d8,d9,d6,d4,.A b3 (ob3+k1*9) d5,.R x1 d5,.S x1.Expr.Args (.slice A9 n9 c9)] d1:=H
  refine X ((V) ((LB H 4) ?_))
  refine q0p rfl rfl rfl el95 q3n q5v rfl rfl rfl rfl rfl rfl fun b5 w10 hE hb hB=>?_
  have H:=H.newB hE hb hB
  refine gg hb1 fun hg1 hb1=>?_
  exact q0t (i:=3) (ys:=[x1.At]) rfl rfl rfl el95 q3n z3v q5v rfl rfl rfl H rfl (fun _=>ownL.single ⟨rfl,hI1,hS3,rfl⟩) (.inr ⟨_,_,rfl,At.blk (rb H 5)⟩) hg1 fun A10 n10 c10 w11 H=>(A) (Z (X ((V) ((AN hk2 hl1) ((A) (Z (I2 hb1 hs1 ⟨k1+1,(s1++[x1.At]),(.slice A10 n10 c10)⟩)))))))
 exact CE (R ((AZ) (W1 hr)))
def z2Q (a0 a1:Occurrence):Option Bool:=( if a0.Pos < a1.Pos then some true else ( if a0.Pos=a1.Pos then some (Op.bytesLess a0.Name.toList a1.Name.toList) else some false ).bind fun s2=>some s2 ).bind fun s1=>some s1
theorem j2l {a0 a1}{r}(hr:z2Q a0 a1=some r){ca0}(ha0:rd F0 w0 a0 ca0){ca1}(ha1:rd F0 w0 a1 ca1):RB 210 #[ag ca0,ag ca1] w0 r:=by
 let d2:List Pr:=[.R a0 [.int .i64 a0.Pos,.string a0.Name],.R a1 [.int .i64 a1.Pos,.string a1.Name]]
 have H:=((HL.start F0 w0).argR ha0).argR ha1
 obtain⟨rfl,hI1,hS1,H⟩:=q2z H 0
 obtain⟨rfl,hI2,hS2,H⟩:=q2z H 1
 refine (En Tryz.func210) ?_
 refine R ((BX H) fun b1 w1 H=>(BX H) fun b2 w2 H=>(A) (Z (R ((D 0) ((L H 0) ((D 0) ((L H 1) ((B) ?_))))))))
 let d1:List It:=[.B b1 133 [.int .i64 a0.Pos,.string a0.Name],.B b2 133 [.int .i64 a1.Pos,.string a1.Name]]
 refine bb hr fun q1 hm1 hr=>?_
 refine cu H 14 [(4,.bool false),(23,.bool q1)] d2 d1 ?_ fun σ w4 H=>?_
 ·refine jD hm1 (fun _ hm1=>?_) fun _ hm1=>?_
  ·exact OF hm1
  refine (G) ((D 0) ((G) ((L H 0) ((G) ((D 0) ((G) ((L H 1) ((G) ((B) ((G) ?_))))))))))
  refine bb hm1 fun q2 hm2 hm1=>?_
  refine cu H 7 [(4,.bool false),(10,.bool false),(22,.bool q2)] d2 d1 ?_ fun σ w3 H=>?_
  ·refine (G) (jD hm2 (fun _ hm2=>?_) fun _ hm2=>?_)
   ·exact (G) ((D 1) ((G) ((L H 0) ((G) ((D 1) ((G) ((L H 1) ((G) ((B) ((G) ((T) (Z (C1 hm2)))))))))))))
   exact (O) ((O) ((O) ((O) ((O) ((G) ((U) (Z (C1 hm2))))))))
  exact (U) (Z (C1 hm1))
 exact (AZ) (W1 hr)
def z1b (a0:(List Occurrence))(a1:Occurrence):Int→Option (Int ⊕ Int):=fun s2=>if s2 < (a0.length:Int) then grd (0≤s2) <| (a0[s2.toNat]?).bind fun x1=>(z2Q x1 a1).bind fun y1=>if y1=true then grd (I64 (s2+1)) <| some (.inl (s2+1)) else some (.inr s2) else some (.inr s2)
def z8q (a0:(List Occurrence))(a1:Occurrence):Option (List Occurrence):=( q7k (z1b a0 a1) 0 ).bind fun s1=>if s1 < (a0.length:Int) then grd (0≤s1) <| (a0[s1.toNat]?).bind fun x2=>if x2=a1 then some a0 else grd (0≤s1) <| grd (s1.toNat≤a0.length) <| grd (((([]:List Occurrence).length:Int)+((a0.take s1.toNat).length:Int))*24≤140737488355328∧(([]:List Occurrence).length:Int)+((a0.take s1.toNat).length:Int)≤9223372036854775807) <| grd ((((a0.take s1.toNat).length:Int)+1)*24≤140737488355328∧((a0.take s1.toNat).length:Int)+1≤9223372036854775807) <| grd (0≤s1) <| grd (s1.toNat≤a0.length) <| grd (((((a0.take s1.toNat)++[a1]).length:Int)+((a0.drop s1.toNat).length:Int))*24≤140737488355328∧(((a0.take s1.toNat)++[a1]).length:Int)+((a0.drop s1.toNat).length:Int)≤9223372036854775807) <| some (((a0.take s1.toNat)++[a1])++(a0.drop s1.toNat)) else grd (0≤s1) <| grd (s1.toNat≤a0.length) <| grd (((([]:List Occurrence).length:Int)+((a0.take s1.toNat).length:Int))*24≤140737488355328∧(([]:List Occurrence).length:Int)+((a0.take s1.toNat).length:Int)≤9223372036854775807) <| grd ((((a0.take s1.toNat).length:Int)+1)*24≤140737488355328∧((a0.take s1.toNat).length:Int)+1≤9223372036854775807) <| grd (0≤s1) <| grd (s1.toNat≤a0.length) <| grd (((((a0.take s1.toNat)++[a1]).length:Int)+((a0.drop s1.toNat).length:Int))*24≤140737488355328∧(((a0.take s1.toNat)++[a1]).length:Int)+((a0.drop s1.toNat).length:Int)≤9223372036854775807) <| some (((a0.take s1.toNat)++[a1])++(a0.drop s1.toNat))
theorem j6r {a0}{a1}{r}(hr:z8q a0 a1=some r){z0}(ha0:rdS F0 w0 a0 z0){ca1}(ha1:rd F0 w0 a1 ca1):RT 183 #[z0,ag ca1] w0 fun v w=>∃ A0 n0 c0,v=(.slice A0 n0 c0)∧HL F0 [] w0 w [.S r (.slice A0 n0 c0)] []:=by
 let d1:List Value:=[.int .i64 a1.Pos,.string a1.Name]
 obtain⟨A0',n0',c0',rfl⟩:=ha0.form3
 let d2:Pr:=.S a0 (.slice A0' n0' c0')
 have H:=((HL.start F0 w0).argS ha0).argR ha1
 obtain⟨rfl,hI1,hS1,H⟩:=q2z H 1
 refine (En Tryz.func183) ?_
 refine R ((BX H) fun b1 w1 H=>(A) (Z (R ((AZ) ?_))))
 refine bb hr fun q1 hm1 hr=>Y ?_
 refine q0u (fun ρ' w=>∃ (s1:Int),s1=q1∧q4R ρ' [(0,.slice A0' n0' c0'),(3,pB b1),(5,.int .i64 s1)]∧I64 s1∧HL F0 [] w0 w [d2,.R a1 d1] [.B b1 133 d1]) ?_ ?_
 ·obtain⟨m1,hq1⟩:=q5g.1 hm1
  refine (lI hq1 (fun m1 s2 _=>[(0,.slice A0' n0' c0'),(3,pB b1),(5,.int .i64 s2)]) (fun s2 _ w=>I64 s2∧HL F0 [] w0 w [d2,.R a1 d1] [.B b1 133 d1]) ()) ?_
  rintro m1 s2 _ σ w2 hq1 ⟨hI3,H⟩
  obtain⟨m2,z1,rfl,hb1,hs1,ht1⟩:=q8B hq1
  refine Y (Y ?_)
  refine q0d hmix (by kernel_rfl) ?_
  refine (qV) ((qV) ?_)
  have hl1:=(H.rS (i:=0) rfl).I
  refine (qNN (rs H 0)) ((qB) ?_)
  refine kD hb1 (fun _ hb1=>?_) fun _ hb1=>?_
  ·refine (qG) ((qV) ((qG) ((qV) ((qG) ?_))))
   refine gg hb1 fun hg1 hb1=>?_
   refine bb hb1 fun x1 hx1 hb1=>?_
   obtain⟨b2,ob2,cb2,hvb2,hI4,hS2,H⟩:=q5E H 0 hx1
   refine q0i rfl rfl (fun _ _=>q0l rfl el95 q3n rfl hvb2 rfl hg1 (q4G hx1)) ?_
   refine (qG) ((qLA H 2) ((qG) ((qLB H 0) ((qG) ?_))))
   refine bb hb1 fun y1 hy1 hb1=>?_
   refine (qC k3K (fun _ hq=>j2l hy1 (F0:=nF) ⟨rfl,hI4,hS2⟩ ⟨rfl,hI1,hS1⟩)) ?_
   refine (qT) ?_
   refine QL.nil (fun w3 hE=>?_)
   have H:=H.ext hE
   refine iB hb1 (fun _ hb1=>?_) fun _ hb1=>?_
   ·refine K ?_
    refine Bk (X ((V) ?_))
    exact gg hb1 fun hg2 hb1=>(BN (Bin.add hg2)) ((A) (Z (I2 hb1 hs1 ⟨m2,(s2+1),()⟩)))
   exact CE (C2 hb1 ht1)
  refine (qO) ((qO) ((qO) ((qO) ((qO) ((qO) ((qU) ?_))))))
  refine QL.nil (fun w4 hE=>?_)
  have H:=H.ext hE
  exact (cF) (CE (C2 hb1 ht1))
 rintro ρ' w5 ⟨s1,rfl,hag,hI2,H⟩
 obtain⟨σ,rfl⟩:=q4H hag
 refine Y (Y ?_)
 refine q0d hmix (by kernel_rfl) ?_
 refine (qV) ((qV) ?_)
 have hl2:=(H.rS (i:=0) rfl).I
 refine (qNN (rs H 0)) ((qB) ?_)
 refine kD hr (fun _ hr=>?_) fun _ hr=>?_
 ·refine (qG) ((qV) ((qG) ((qV) ((qG) ?_))))
  refine gg hr fun hg3 hr=>?_
  refine bb hr fun x2 hx2 hr=>?_
  obtain⟨b3,ob3,cb3,hvb3,hI5,hS3,H⟩:=q5E H 0 hx2
  refine q0i rfl rfl (fun _ _=>q0l rfl el95 q3n rfl hvb3 rfl hg3 (q4G hx2)) ?_
  refine (qG) ((qLA H 2) ((qG) ((qLB H 0) ((qG) ((qBN (q0D j0R (q4T x2 a1))) ((qT) ?_))))))
  refine QL.nil (fun w6 hE=>?_)
  have H:=H.ext hE
  refine iD hr (fun _ hr=>?_) fun _ hr=>?_
  ·refine R ((V) ((AZ) (CR ?_)))
   obtain rfl:=sm hr
   exact⟨_,res1 rfl rfl rfl,H.ext0,_,_,_,rfl,H.outM (fr':=[d2]) [false] fun _ h=>⟨h.get (i:=0) rfl,trivial⟩⟩
  refine K (R ?_)
  refine q0s (α:=Occurrence) rfl rfl rfl el95 q3n H fun A1 n1 c1 w7 H=>(V) ((V) ?_)
  refine gg hr fun hg4 hr=>?_
  refine gg hr fun hg5 hr=>?_
  obtain⟨A2,n2,c2,e2,hc1,H⟩:=H.slH (i:=0) rfl hg5
  refine q0b rfl rfl (q0L rfl el95 q3n rfl rfl ((Int.toNat_of_nonneg hg4).symm) hc1 e2) ?_
  refine gg hr fun hg6 hr=>?_
  refine q0W (i:=1) rfl rfl rfl el95 q3n z3v q5v rfl rfl rfl H rfl (rs H 4) hg6 fun A3 n3 c3 w8 H=>(A) (Z (R ((V) ((LB H 0) ?_))))
  refine q0p rfl rfl rfl el95 q3n q5v rfl rfl rfl rfl rfl rfl fun b4 w9 hE hb hB=>?_
  have H:=H.newB hE hb hB
  refine gg hr fun hg7 hr=>?_
  refine q0t (i:=1) (ys:=[a1]) rfl rfl rfl el95 q3n z3v q5v rfl rfl rfl H rfl (fun _=>ownL.single ⟨rfl,hI1,hS1,rfl⟩) (.inr ⟨_,_,rfl,At.blk (rb H 2)⟩) hg7 fun A4 n4 c4 w10 H=>(AZ) (Y ?_)
  refine q0a [(0,.slice A0' n0' c0'),(5,.int .i64 s1),(6,.slice A4 n4 c4)] ⟨rfl,rfl,rfl,trivial⟩ fun σ=>?_
  have H:HL F0 [] w0 w10 [d2,.R a1 d1,.A b3 (ob3+s1.toNat*2) [.int .i64 x2.Pos,.string x2.Name],.R x2 [.int .i64 x2.Pos,.string x2.Name],.S (a0.take s1.toNat) (.slice A2 n2 c2)] [.B b1 133 d1,.O 133 ((a0.take s1.toNat)++[a1]) (.slice A4 n4 c4),.B b4 133 d1]:=H
  refine X ((V) ((V) ((V) ?_)))
  refine gg hr fun hg8 hr=>?_
  refine gg hr fun hg9 hr=>?_
  obtain⟨A5,n5,c5,e3,hc2,H⟩:=H.slL (i:=0) rfl hg9
  refine q0b rfl rfl (q1g rfl el95 q3n rfl rfl ((Int.toNat_of_nonneg hg8).symm) hc2 e3) ?_
  refine gg hr fun hg10 hr=>?_
  refine q0W (i:=1) rfl rfl rfl el95 q3n z3v q5v rfl rfl rfl H rfl (rs H 5) hg10 fun A6 n6 c6 w11 H=>(AZ) (CR ?_)
  have H:=H.frzO (i:=1) rfl
  obtain rfl:=sm hr
  exact⟨_,res1 rfl rfl rfl,H.ext0,_,_,_,rfl,H.outM (fr':=[.S (((a0.take s1.toNat)++[a1])++(a0.drop s1.toNat)) (.slice A6 n6 c6)]) [false,false,false] fun _ h=>⟨h.get (i:=6) rfl,trivial⟩⟩
 refine (qO) ((qO) ((qO) ((qO) ((qO) ((qO) ((qU) ?_))))))
 refine QL.nil (fun w12 hE=>?_)
 have H:=H.ext hE
 refine (cF) (K (R ?_))
 refine q0s (α:=Occurrence) rfl rfl rfl el95 q3n H fun A7 n7 c7 w13 H=>(V) ((V) ?_)
 refine gg hr fun hg11 hr=>?_
 refine gg hr fun hg12 hr=>?_
 obtain⟨A8,n8,c8,e4,hc3,H⟩:=H.slH (i:=0) rfl hg12
 refine q0b rfl rfl (q0L rfl el95 q3n rfl rfl ((Int.toNat_of_nonneg hg11).symm) hc3 e4) ?_
 refine gg hr fun hg13 hr=>?_
 refine q0W (i:=1) rfl rfl rfl el95 q3n z3v q5v rfl rfl rfl H rfl (rs H 2) hg13 fun A9 n9 c9 w14 H=>(A) (Z (R ((V) ((LB H 0) ?_))))
 refine q0p rfl rfl rfl el95 q3n q5v rfl rfl rfl rfl rfl rfl fun b5 w15 hE hb hB=>?_
 have H:=H.newB hE hb hB
 refine gg hr fun hg14 hr=>?_
 refine q0t (i:=1) (ys:=[a1]) rfl rfl rfl el95 q3n z3v q5v rfl rfl rfl H rfl (fun _=>ownL.single ⟨rfl,hI1,hS1,rfl⟩) (.inr ⟨_,_,rfl,At.blk (rb H 2)⟩) hg14 fun A10 n10 c10 w16 H=>(A) (Z (R ((V) ((V) ((V) ?_)))))
 refine gg hr fun hg15 hr=>?_
 refine gg hr fun hg16 hr=>?_
 obtain⟨A11,n11,c11,e5,hc4,H⟩:=H.slL (i:=0) rfl hg16
 refine q0b rfl rfl (q1g rfl el95 q3n rfl rfl ((Int.toNat_of_nonneg hg15).symm) hc4 e5) ?_
 refine gg hr fun hg17 hr=>?_
 refine q0W (i:=1) rfl rfl rfl el95 q3n z3v q5v rfl rfl rfl H rfl (rs H 3) hg17 fun A12 n12 c12 w17 H=>(AZ) (CR ?_)
 have H:=H.frzO (i:=1) rfl
 obtain rfl:=sm hr
 exact⟨_,res1 rfl rfl rfl,H.ext0,_,_,_,rfl,H.outM (fr':=[.S (((a0.take s1.toNat)++[a1])++(a0.drop s1.toNat)) (.slice A12 n12 c12)]) [false,false,false] fun _ h=>⟨h.get (i:=4) rfl,trivial⟩⟩
def q9o (rec_sl4Uses:Expr→(List Occurrence)→Option (List Occurrence)):Nat→Expr→(List Occurrence)→Option (List Occurrence):=fun k1 x1 s1=>(rec_sl4Uses x1 s1).bind fun y2=>some y2
def z4D (rec_sl4Uses:Expr→(List Occurrence)→Option (List Occurrence)):Nat→Expr→(List Occurrence)→Option (List Occurrence):=fun k2 x2 s2=>(rec_sl4Uses x2 s2).bind fun y3=>some y3
def z1c (rec_sl4Uses:Expr→(List Occurrence)→Option (List Occurrence))(a0:Expr)(a1:(List Occurrence)):Option (List Occurrence):=if a0.Kind=3 then (z8q a1 (⟨a0.Pos,a0.Name⟩:Occurrence)).bind fun y1=>(q2J (q9o rec_sl4Uses) 0 a0.Args y1).bind fun s1=>some s1 else (q2J (z4D rec_sl4Uses) 0 a0.Args a1).bind fun s2=>some s2
theorem j3y {rec_sl4Uses:Expr→(List Occurrence)→Option (List Occurrence)}(ih_sl4Uses:∀ {a0:Expr} {a1 r:(List Occurrence)},rec_sl4Uses a0 a1=some r→∀ {F0:Nat→Prop} {w0:World} {ca0} (ha0:rd F0 w0 a0 ca0) {z1} (ha1:rdS F0 w0 a1 z1),RT 150 #[ag ca0,z1] w0 fun v w=>∃ A0 n0 c0,v=(.slice A0 n0 c0)∧HL F0 [] w0 w [.S r (.slice A0 n0 c0)] []){a0}{a1 r}(hr:z1c rec_sl4Uses a0 a1=some r){ca0}(ha0:rd F0 w0 a0 ca0){z1}(ha1:rdS F0 w0 a1 z1):RT 150 #[ag ca0,z1] w0 fun v w=>∃ A0 n0 c0,v=(.slice A0 n0 c0)∧HL F0 [] w0 w [.S r (.slice A0 n0 c0)] []:=by
 obtain⟨A1',n1',c1',rfl⟩:=ha1.form3
 let d3:Pr:=.S a1 (.slice A1' n1' c1')
 have H:=((HL.start F0 w0).argR ha0).argS ha1
 obtain⟨A1,n1,c1,rfl,hI1,hI2,hI3,hI4,hS1,hS2,H⟩:=q3q H 0
 let d2:Pr:=.S a0.Args (.slice A1 n1 c1)
 let d1:=q2D a0 A1 n1 c1
 refine (En Tryz.func150) ?_
 refine R ((BX H) fun b1 w1 H=>(A) (Z (Y (R ((D 0) ((L H 0) ((BZ) (iD hr (fun _ hr=>?_) fun _ hr=>?_))))))))
 ·let d4:List It:=[.B b1 136 d1]
  refine X ((V) ((D 2) ((L H 0) ((D 5) ((L H 0) ?_)))))
  refine q0b rfl rfl (Ev.build rfl z7M q5v rfl rfl rfl rfl) ?_
  refine bb hr fun y1 hy1 hr=>?_
  obtain⟨F,hF,hcl⟩:=H.call
  refine (CA k3s (j6r hy1 (hF.get (i:=1) rfl) ⟨rfl,hI3,hS2⟩)) ?_
  rintro _ w2 hE ⟨A2,n2,c2,rfl,H'⟩
  let d5:Pr:=.S y1 (.slice A2 n2 c2)
  have H:HL F0 [] w0 w2 [.R a0 d1,d3,d2,d5] d4:=hcl H'
  refine (A) (Z (Y (R ((AZ) ?_))))
  refine bb hr fun q1 hq1 hr=>?_
  refine Bk (CW.loop (α:=Nat × (List Occurrence) × Value) (fun ⟨k1,s1,v1⟩=>[(1,v1),(2,pB b1),(5,zN k1)]) (fun ⟨k1,s1,v1⟩ w=>k1≤a0.Args.length∧q2J (q9o rec_sl4Uses) k1 (a0.Args.drop k1) s1=some q1∧HL F0 [] w0 w [.R a0 d1,d3,d2,d5,.S s1 v1] d4) (fun ⟨k1,s1,v1⟩=>a0.Args.length - k1) ⟨0,y1,(.slice A2 n2 c2)⟩ ⟨rfl,rfl,rfl,trivial⟩ ⟨Nat.zero_le _,hq1,H.out (fun _ h=>(h.keep 4).app ⟨h.get (i:=3) rfl,trivial⟩) (List.take_sublist 1 d4)⟩ ?_)
  rintro⟨k1,s1,v1⟩ σ w3 ⟨hk1,hq1,H⟩
  obtain⟨A3,n3,c3,rfl⟩:=(H.rS (i:=4) rfl).form3
  refine Y (R ((V) ((D 6) ((L H 0) ((NI H 2) fun hl1=>(BZ) ?_)))))
  refine (iE hq1 (fun hk2 x1 z1 hx1 hb1 hq1=>?_) fun e=>?_)
  ·refine K (Y ?_)
   refine Bk (X ((D 6) ((L H 0) ((V) ?_))))
   obtain⟨b2,ob2,cb2,A4,n4,c4,hvb2,hI5,hI6,hI7,hI8,hS3,hS4,H⟩:=q4f H 2 hx1
   refine (J 7 hvb2 hx1) ((LA H 5) ((V) ?_))
   refine bb hb1 fun y2 hy2 hb1=>?_
   obtain⟨F,hF,hcl⟩:=H.call
   refine (CA k0f (ih_sl4Uses hy2 (q2r.2 ⟨_,rfl,hI5,hI6,hI7,hI8,hS3,hS4,(hF.get (i:=7) rfl)⟩) (hF.get (i:=4) rfl))) ?_
   rintro _ w4 hE ⟨A5,n5,c5,rfl,H'⟩
   have H:HL F0 [] w0 w4 [.R a0 d1,d3,d2,d5,.S s1 (.slice A3 n3 c3),.A b2 (ob2+k1*7) (q2D x1 A4 n4 c4),.R x1 (q2D x1 A4 n4 c4),.S x1.Args (.slice A4 n4 c4),.S y2 (.slice A5 n5 c5)] d4:=hcl H'
   refine (A) (Z (X ((V) ((AN hk2 hl1) ((AZ) ?_)))))
   obtain rfl:=sm hb1
   exact⟨⟨k1+1,y2,(.slice A5 n5 c5)⟩,⟨rfl,rfl,rfl,trivial⟩,⟨hk2,hq1,H.out (fun _ h=>(h.keep 4).app ⟨h.get (i:=8) rfl,trivial⟩) (List.take_sublist 1 d4)⟩,Nat.sub_lt_sub_left hk2 (Nat.lt_succ_self _)⟩
  obtain rfl:=e
  refine CE (R ((V) ((AZ) (CR ?_))))
  obtain rfl:=sm hr
  exact⟨_,res1 rfl rfl rfl,H.ext0,_,_,_,rfl,H.outM (fr':=[.S s1 (.slice A3 n3 c3)]) [false] fun _ h=>⟨h.get (i:=4) rfl,trivial⟩⟩
 refine K (Y (R ((AZ) ?_)))
 refine bb hr fun q2 hq2 hr=>?_
 refine Bk (CW.loop (α:=Nat × (List Occurrence) × Value) (fun ⟨k2,s2,v2⟩=>[(1,v2),(2,pB b1),(5,zN k2)]) (fun ⟨k2,s2,v2⟩ w=>k2≤a0.Args.length∧q2J (z4D rec_sl4Uses) k2 (a0.Args.drop k2) s2=some q2∧HL F0 [] w0 w [.R a0 d1,d3,d2,.S s2 v2] [.B b1 136 d1]) (fun ⟨k2,s2,v2⟩=>a0.Args.length - k2) ⟨0,a1,(.slice A1' n1' c1')⟩ ⟨rfl,rfl,rfl,trivial⟩ ⟨Nat.zero_le _,hq2,H.out (fun _ h=>(h.keep 3).app ⟨h.get (i:=1) rfl,trivial⟩) (List.take_sublist 1 [It.B b1 136 d1])⟩ ?_)
 rintro⟨k2,s2,v2⟩ σ w5 ⟨hk3,hq2,H⟩
 obtain⟨A6,n6,c6,rfl⟩:=(H.rS (i:=3) rfl).form3
 refine Y (R ((V) ((D 6) ((L H 0) ((NI H 2) fun hl2=>(BZ) ?_)))))
 refine (iE hq2 (fun hk4 x2 z2 hx2 hb2 hq2=>?_) fun e=>?_)
 ·refine K (Y ?_)
  refine Bk (X ((D 6) ((L H 0) ((V) ?_))))
  obtain⟨b3,ob3,cb3,A7,n7,c7,hvb3,hI9,hI10,hI11,hI12,hS5,hS6,H⟩:=q4f H 2 hx2
  refine (J 7 hvb3 hx2) ((LA H 4) ((V) ?_))
  refine bb hb2 fun y3 hy3 hb2=>?_
  obtain⟨F,hF,hcl⟩:=H.call
  refine (CA k0f (ih_sl4Uses hy3 (q2r.2 ⟨_,rfl,hI9,hI10,hI11,hI12,hS5,hS6,(hF.get (i:=6) rfl)⟩) (hF.get (i:=3) rfl))) ?_
  rintro _ w6 hE ⟨A8,n8,c8,rfl,H'⟩
  have H:HL F0 [] w0 w6 [.R a0 d1,d3,d2,.S s2 (.slice A6 n6 c6),.A b3 (ob3+k2*7) (q2D x2 A7 n7 c7),.R x2 (q2D x2 A7 n7 c7),.S x2.Args (.slice A7 n7 c7),.S y3 (.slice A8 n8 c8)] [.B b1 136 d1]:=hcl H'
  refine (A) (Z (X ((V) ((AN hk4 hl2) ((AZ) ?_)))))
  obtain rfl:=sm hb2
  exact⟨⟨k2+1,y3,(.slice A8 n8 c8)⟩,⟨rfl,rfl,rfl,trivial⟩,⟨hk4,hq2,H.out (fun _ h=>(h.keep 3).app ⟨h.get (i:=7) rfl,trivial⟩) (List.take_sublist 1 [It.B b1 136 d1])⟩,Nat.sub_lt_sub_left hk4 (Nat.lt_succ_self _)⟩
 obtain rfl:=e
 refine CE (R ((V) ((AZ) (CR ?_))))
 obtain rfl:=sm hr
 exact⟨_,res1 rfl rfl rfl,H.ext0,_,_,_,rfl,H.outM (fr':=[.S s2 (.slice A6 n6 c6)]) [false] fun _ h=>⟨h.get (i:=3) rfl,trivial⟩⟩
def q6h:Nat→Expr→(List Occurrence)→Option (List Occurrence)
  | 0,_,_=>none
  | n+1,a0,a1=>z1c (q6h n) a0 a1
def z8Y (a0:Expr)(a1:(List Occurrence)):Option (List Occurrence):=recO fun n=>q6h n a0 a1
theorem j3z (n:Nat):∀ {a0:Expr} {a1 r:(List Occurrence)},q6h n a0 a1=some r→∀ {F0:Nat→Prop} {w0:World} {ca0} (ha0:rd F0 w0 a0 ca0) {z1} (ha1:rdS F0 w0 a1 z1),RT 150 #[ag ca0,z1] w0 fun v w=>∃ A0 n0 c0,v=(.slice A0 n0 c0)∧HL F0 [] w0 w [.S r (.slice A0 n0 c0)] []:=by
 induction n with
 | zero=>intro a0 a1 r hr; exact nomatch (show (none:Option (List Occurrence))=some r from hr)
 | succ n ih=>intro a0 a1 r hr; exact j3y ih hr
theorem j5l {a0}{a1 r}(hr:z8Y a0 a1=some r){ca0}(ha0:rd F0 w0 a0 ca0){z1}(ha1:rdS F0 w0 a1 z1):RT 150 #[ag ca0,z1] w0 fun v w=>∃ A0 n0 c0,v=(.slice A0 n0 c0)∧HL F0 [] w0 w [.S r (.slice A0 n0 c0)] []:=by
 obtain⟨n,hn⟩:=q4v hr
 exact j3z n hn ha0 ha1
def q7a (a0:Expr):Option (List Occurrence):=(z8Y a0 []).bind fun y1=>some y1
theorem z2o {a0}{r}(hr:q7a a0=some r){ca0}(ha0:rd F0 w0 a0 ca0):RT 115 #[ag ca0] w0 fun v w=>∃ A0 n0 c0,v=(.slice A0 n0 c0)∧HL F0 [] w0 w [.S r (.slice A0 n0 c0)] []:=by
 have H:=(HL.start F0 w0).argR ha0
 obtain⟨A1,n1,c1,rfl,hI1,hI2,hI3,hI4,hS1,hS2,H⟩:=q3q H 0
 refine (En Tryz.func115) ?_
 refine R ((BX H) fun b1 w1 H=>(A) (Z (R ((LB H 0) ?_))))
 refine q0s (α:=Occurrence) rfl rfl rfl el95 q3n H fun A2 n2 c2 w2 H=>?_
 have H:=H.frzO (i:=1) rfl
 refine bb hr fun y1 hy1 hr=>?_
 obtain⟨F,hF,hcl⟩:=H.call
 refine (CA k0f (j5l hy1 (q2r.2 ⟨_,rfl,hI1,hI2,hI3,hI4,hS1,hS2,(hF.get (i:=1) rfl)⟩) (hF.get (i:=2) rfl))) ?_
 rintro _ w3 hE ⟨A3,n3,c3,rfl,H'⟩
 have H:HL F0 [] w0 w3 [.R a0 (q2D a0 A1 n1 c1),.S a0.Args (.slice A1 n1 c1),.S ([]:List Occurrence) (.slice A2 n2 c2),.S y1 (.slice A3 n3 c3)] [.B b1 136 (q2D a0 A1 n1 c1),It.emp]:=hcl H'
 refine (AZ) (CR ?_)
 obtain rfl:=sm hr
 exact⟨_,res1 rfl rfl rfl,H.ext0,_,_,_,rfl,H.outM (fr':=[.S y1 (.slice A3 n3 c3)]) [false,false] fun _ h=>⟨h.get (i:=3) rfl,trivial⟩⟩
def z6Z (a1:ByteArray):Nat→Attribute→Unit→Option (Unit ⊕ (Attribute × Bool)):=fun k1 x1 _=>if x1.Name=a1 then some (.inr (x1,true)) else some (.inl ())
def q7b (a0:Symbol)(a1:ByteArray):Option (Attribute × Bool):=(q2u (z6Z a1) 0 a0.Attributes ()).bind <| onr (fun r1=>some r1) fun _=>some ((⟨(⟨#[]⟩:ByteArray),0,0,false⟩:Attribute),false)
theorem q9p {a0}{a1}{r}(hr:q7b a0 a1=some r){ca0}(ha0:rd F0 w0 a0 ca0)(ha1:a1.size≤9223372036854775807):RT 146 #[ag ca0,.string a1] w0 fun v w=>v = .tuple #[.agg #[.string r.1.Name,.int .i64 r.1.Type_,.int .i64 r.1.Mode,.bool r.1.Circular],.bool r.2]∧r.1.Name.size≤9223372036854775807∧I64 r.1.Type_∧I64 r.1.Mode:=by
 have H:=(HL.start F0 w0).argR ha0
 obtain⟨A1,n1,c1,rfl,hS1,H⟩:=q6e H 0
 refine (En Tryz.func146) ?_
 refine R ((BX H) fun b1 w1 H=>(AH ze91 H) fun b2 w2 H=>(A) (Z (Y (R ((AZ) ?_)))))
 refine bb hr fun q1 hq1 hr=>?_
 refine (lF hq1 (fun k1 _ _=>[(1,.string a1),(2,pB b1),(4,pB b2),(6,zN k1)]) (fun _ _ w=>HL F0 [] w0 w [.R a0 [.string a0.Name,.slice A1 n1 c1],.S a0.Attributes (.slice A1 n1 c1)] [.B b1 89 [.string a0.Name,.slice A1 n1 c1],.B b2 91 [.string eB,.int .i64 0,.int .i64 0,.bool false]]) ()) ?_
 rintro k1 _ _ σ w3 hk1 hq1 H
 refine Y (R ((V) ((D 1) ((L H 0) ((NI H 1) fun hl1=>(BZ) ?_)))))
 refine (iF hq1 hr (fun hk2 x1 z1 hx1 hb1 hs1 ht1=>?_) fun hr=>?_)
 ·refine K (Y ?_)
  refine Bk (R ((D 1) ((L H 0) ((V) ?_))))
  obtain⟨b3,ob3,cb3,hvb3,hS2,hI1,hI2,H⟩:=q4w H 1 hx1
  refine (J 4 hvb3 hx1) ((D 0) ((LC H 2) ((V) ((BZ) (iD hb1 (fun _ hb1=>?_) fun _ hb1=>?_)))))
  ·refine R ((D 1) ((L H 0) ((V) ((J 4 hvb3 hx1) ((LA H 2) ((SB H 1) fun w4 H=>(AZ) (CR ?_)))))))
   obtain rfl:=sm hb1
   obtain rfl:=ht1 _ rfl
   obtain rfl:=sm hr
   exact⟨_,z5I rfl ag91 sz91 rfl rfl rfl rfl (ab H 1) rfl,H.ext0,rfl,hS2,hI1,hI2⟩
  exact K (X ((V) ((AN hk2 hl1) ((A) (Z (I2 hb1 hs1 ⟨k1+1,(),()⟩))))))
 refine CE (R ?_)
 refine q0b rfl rfl (Ev.build rfl pl91 ze91 rfl rfl rfl rfl) ((SB H 1) fun w5 H=>(AZ) (CR ?_))
 obtain rfl:=sm hr
 exact⟨_,z5I rfl ag91 sz91 rfl rfl rfl rfl (ab H 1) rfl,H.ext0,rfl,dI,dI,dI⟩
def z6i (a0:Grammar)(a1:Rule)(a2:Occurrence):Option Bool:=(q5q a2.Pos 0 (a1.Right.length:Int)).bind fun y1=>if y1=true then (q4a a1 a2.Pos).bind fun y2=>(q6g a0 y2).bind fun (y3,y4)=>(q7b y3 a2.Name).bind fun (y5,y6)=>if a2.Pos=0 then ( if y6=true then some (decide (y5.Mode=1)) else some false ).bind fun s1=>some s1 else ( if y6=true then some (decide (y5.Mode=2)) else some false ).bind fun s2=>some s2 else some false
theorem j5m {a0}{a1}{a2}{r}(hr:z6i a0 a1 a2=some r){ca0}(ha0:rd F0 w0 a0 ca0){ca1}(ha1:rd F0 w0 a1 ca1){ca2}(ha2:rd F0 w0 a2 ca2):RB 232 #[ag ca0,ag ca1,ag ca2] w0 r:=by
 let d3:List Value:=[.int .i64 a2.Pos,.string a2.Name]
 have H:=(((HL.start F0 w0).argR ha0).argR ha1).argR ha2
 obtain⟨A1,n1,c1,A2,n2,c2,rfl,H⟩:=q2s H 0
 let d4:List Value:=[.slice A1 n1 c1,.slice A2 n2 c2]
 obtain⟨A3,n3,c3,A4,n4,c4,A5,n5,c5,rfl,hS1,hS2,H⟩:=q3j H 1
 let d2:=q4o a1 A3 n3 c3 A4 n4 c4 A5 n5 c5
 let d1:List Pr:=[.R a0 d4,.R a1 d2,.R a2 d3,.S a0.Symbols (.slice A1 n1 c1),.S a0.Rules (.slice A2 n2 c2),.S a1.Right (.slice A3 n3 c3),.S a1.Equations (.slice A4 n4 c4),.S a1.Contributions (.slice A5 n5 c5)]
 obtain⟨rfl,hI1,hS3,H⟩:=q2z H 2
 refine (En Tryz.func232) ?_
 refine R ((BX H) fun b1 w1 H=>(BX H) fun b2 w2 H=>(BX H) fun b3 w3 H=>(A) (Z (Y (R ((D 0) ((L H 2) ((D 2) ((L H 1) ((NI H 5) fun hl1=>?_)))))))))
 refine bb hr fun y1 hy1 hr=>?_
 refine (CA ok72 (q5j hy1 (F0:=nF) hI1 dI hl1)) (cE H fun w4 H=>(N) (Z (iM hr (fun _ hr=>?_) fun h1 hr=>?_)))
 ·exact R ((AZ) (W1 hr))
 refine K ?_
 refine bb hr fun y2 hy2 hr=>?_
 obtain⟨_,_,_,hS4⟩:=(q5G hy2 ⟨_,_,_,rfl,hS1,hS2,(rs H 5),(rs H 6),(rs H 7)⟩ hI1).get
 obtain⟨⟨y3,y4⟩,hy3,hr⟩:=bd hr
 refine Y ?_
 refine q0E 11 (fun ρ=>[.fix (.agg #[.slice A1 n1 c1,.slice A2 n2 c2]),.fix (.agg #[.string a1.Name,.string a1.Left,.slice A3 n3 c3,.bool a1.Literal,.slice A4 n4 c4,.slice A5 n5 c5]),.fix (.pointer (some ⟨b3,0+0,none⟩)),.fix (.int .i64 a2.Pos),.fix (.string y2),.free (fun S v w=>∃ A6:Option Addr,∃ n6:Nat,∃ c6:Nat,v = .tuple #[.agg #[.string y3.Name,.slice A6 n6 c6],.bool y4]∧y3.Name.size≤9223372036854775807∧NewI S w [.O 91 y3.Attributes (.slice A6 n6 c6)]),.dep 24 id,.dep 18 (z1P 0),.dep 18 (z1P 1),.free (VarB 89 2),.wr 7 25 (WrB 89)]) [[],[],[],[],[],[],[24],[18],[18],[],[7,25]] NoM (fun _ _=>True) [] [none,none,none,none,none,none,none,none,none,none,some 9] (noM _) hmix (by kernel_rfl) rfl ⟨trivial,trivial,trivial,trivial,trivial,fun _ _ _ _ _ ⟨A6,n6,c6,hv,h0,hh⟩ hc hS hT=>⟨A6,n6,c6,hv,h0,hh.chgT hc hS⟩,trivial,trivial,trivial,fun _ _ _ _ _ h hc hS _=>h.chgT hc hS,fun _ _ _ _ _ _ h hc hS _=>h.chgT hc hS,trivial⟩ trivial (fun _ _ _ _ _ _ _=>trivial) ?_
 refine q0g rfl rfl rfl rfl rfl (fun _ hq hK=>q0c rfl ag35 sz35 rfl (At.blk ((H.ext hq).rB (i:=0) rfl)) rfl) ?_
 refine q0g rfl rfl rfl rfl rfl (fun _ hq hK=>q0c rfl ag62 sz62 rfl (At.blk ((H.ext hq).rB (i:=1) rfl)) rfl) ?_
 refine q0g rfl rfl rfl rfl rfl (fun _ hq hK=>q0m rfl j0O rfl) ?_
 refine q0g rfl rfl rfl rfl rfl (fun _ hq hK=>q0h rfl ag3 rfl (((H.ext hq).rB (i:=2) rfl).cell rfl)) ?_
 refine q0F rfl rfl rfl rfl (fun _ hq hK=>OpX.call rfl rfl rfl rfl j6n rfl (q5G hy2 ⟨_,_,_,rfl,hS1,hS2,(rs (H.ext hq) 5),(rs (H.ext hq) 6),(rs (H.ext hq) 7)⟩ hI1) fun _ _ hE h=>⟨hE,h.1⟩) ?_
 refine LL2.free rfl rfl rfl rfl (fun wq hq hK=>?_) (fun v_G1_5 S_G1_5=>?_)
 ·refine OpX.call rfl rfl rfl rfl j6m rfl (q8c hy3 ⟨_,_,rfl,(rs (H.ext hq) 3),(rs (H.ext hq) 4)⟩ hS4) ?_
  rintro _ w hE ⟨A6,n6,c6,rfl,h0,hh⟩
  exact⟨hE,A6,n6,c6,rfl,h0,NewI.of hh tv⟩
 refine q0T rfl rfl rfl rfl rfl (.inl rfl) rfl ?_
 refine q0z rfl rfl rfl rfl rfl rfl rfl (fun wq hq hK=>?_) ?_
 ·have hK:∀ j' (_:(q2v _).contains j'=true),_:=hK 6 rfl
  obtain⟨A6,n6,c6,rfl,_,_⟩:=hK 5 rfl
  exact⟨_,_,rfl,rfl⟩
 refine q0z rfl rfl rfl rfl rfl rfl rfl (fun wq hq hK=>?_) ?_
 ·have hK:∀ j' (_:(q2v _).contains j'=true),_:=hK 6 rfl
  obtain⟨A6,n6,c6,rfl,_,_⟩:=hK 5 rfl
  exact⟨_,_,rfl,rfl⟩
 refine LL2.free rfl rfl rfl rfl (fun wq hq hK=>q0x rfl rfl ze89 rfl) (fun v_G1_9 S_G1_9=>?_)
 refine LL2.st (k:=2) rfl rfl rfl (by decide) rfl rfl rfl rfl sz89 rfl rfl (fun wq hq hK=>hK 9 rfl) (fun wq hq hK=>?_) ?_
 ·obtain⟨A6,n6,c6,rfl,_,_⟩:=hK 5 rfl
  exact⟨_,rfl,rfl,(all1 rfl (all1 rfl all0))⟩
 intro w5 hE _ hK hap hbd
 have hE:=z0q hE
 obtain⟨A6,n6,c6,rfl,hS5,hN1⟩:=hK 5 (by decide)
 let d6:It:=.O 91 y3.Attributes (.slice A6 n6 c6)
 let d5:List Value:=[.string y3.Name,.slice A6 n6 c6]
 obtain⟨b4,rfl,hN2⟩:=j0L (cells:=d5) (hK 9 (by decide)) (hK 10 (by decide)) rfl
 have H:=H.add hE (hN1.app hN2 fun q h1 h2=>absurd (hap 5 9 q h1 h2) (by decide)) ⟨fun _ _ _ _ _ h=>h,tv⟩ (fun q hq=>hq.elim (fun h=>(hbd 5 q h).1) fun h=>(hbd 9 q h).1)
 refine (AZ) (Y ?_)
 refine q0a [(5,pB b3),(7,pB b4)] ⟨rfl,rfl,trivial⟩ fun σ=>?_
 have H:HL F0 [] w0 w5 d1 [.B b1 35 d4,.B b2 62 d2,.B b3 133 d3,d6,.B b4 89 d5]:=H
 refine X ((LB H 4) ((D 1) ((L H 2) ?_)))
 obtain⟨⟨y5,y6⟩,hy4,hr⟩:=bd hr
 refine (CA k0e (q9p hy4 ⟨_,rfl,hS5,(ro H 3)⟩ hS3)) ?_
 rintro _ w6 hE ⟨rfl,hS6,hI2,hI3⟩
 have H:=H.ext hE
 refine (V) ((EX) ((EX) ((AH ze91 H) fun b5 w7 H=>(SB H 5) fun w8 H=>(A) (Z (Y (R ((D 0) ((L H 2) ((BZ) (iD hr (fun _ hr=>?_) fun _ hr=>?_))))))))))
 ·refine R ((V) ?_)
  refine bb hr fun q1 hm1 hr=>?_
  refine cu H 5 [(42,.bool q1)] d1 [.B b1 35 d4,.B b2 62 d2,.B b3 133 d3,d6,.B b4 89 d5,.B b5 91 (q3Z y5)] ?_ fun σ w9 H=>?_
  ·refine jB hm1 (fun _ hm1=>?_) fun _ hm1=>?_
   ·exact (G) ((D 2) ((G) ((L H 5) ((G) ((B) ((T) (Z (C1 hm1))))))))
   exact OF hm1
  exact (AZ) (W1 hr)
 refine K (R ((V) ?_))
 refine bb hr fun q2 hm2 hr=>?_
 refine cu H 5 [(48,.bool q2)] d1 [.B b1 35 d4,.B b2 62 d2,.B b3 133 d3,d6,.B b4 89 d5,.B b5 91 (q3Z y5)] ?_ fun σ w10 H=>?_
 ·refine jB hm2 (fun _ hm2=>?_) fun _ hm2=>?_
  ·exact (G) ((D 2) ((G) ((L H 5) ((G) ((B) ((T) (Z (C1 hm2))))))))
  exact OF hm2
 exact (AZ) (W1 hr)
def z8Z (a0:Grammar)(a1:Rule):Nat→Occurrence→Unit→Option (Unit ⊕ Bool):=fun k1 x1 _=>(z6i a0 a1 x1).bind fun y2=>if y2=true then some (.inl ()) else some (.inr false)
def z0M (a0:Grammar)(a1:Rule)(a2:Expr):Option Bool:=(q7a a2).bind fun y1=>(q2u (z8Z a0 a1) 0 y1 ()).bind <| onr (fun r1=>some r1) fun _=>some true
theorem z5r {a0}{a1}{a2}{r}(hr:z0M a0 a1 a2=some r){ca0}(ha0:rd F0 w0 a0 ca0){ca1}(ha1:rd F0 w0 a1 ca1){ca2}(ha2:rd F0 w0 a2 ca2):RB 207 #[ag ca0,ag ca1,ag ca2] w0 r:=by
 have H:=(((HL.start F0 w0).argR ha0).argR ha1).argR ha2
 obtain⟨A1,n1,c1,A2,n2,c2,rfl,H⟩:=q2s H 0
 obtain⟨A3,n3,c3,A4,n4,c4,A5,n5,c5,rfl,hS1,hS2,H⟩:=q3j H 1
 let d3:=q4o a1 A3 n3 c3 A4 n4 c4 A5 n5 c5
 obtain⟨A6,n6,c6,rfl,hI1,hI2,hI3,hI4,hS3,hS4,H⟩:=q3q H 2
 refine (En Tryz.func207) ?_
 refine R ((BX H) fun b1 w1 H=>(BX H) fun b2 w2 H=>(BX H) fun b3 w3 H=>(A) (Z (R ((LB H 2) ?_))))
 let d2:List It:=[.B b1 35 [.slice A1 n1 c1,.slice A2 n2 c2],.B b2 62 d3,.B b3 136 (q2D a2 A6 n6 c6)]
 refine bb hr fun y1 hy1 hr=>?_
 obtain⟨F,hF,hcl⟩:=H.call
 refine (CA k1q (z2o hy1 (q2r.2 ⟨_,rfl,hI1,hI2,hI3,hI4,hS3,hS4,(hF.get (i:=8) rfl)⟩))) ?_
 rintro _ w4 hE ⟨A7,n7,c7,rfl,H'⟩
 let d1:List Pr:=[.R a0 [.slice A1 n1 c1,.slice A2 n2 c2],.R a1 d3,.R a2 (q2D a2 A6 n6 c6),.S a0.Symbols (.slice A1 n1 c1),.S a0.Rules (.slice A2 n2 c2),.S a1.Right (.slice A3 n3 c3),.S a1.Equations (.slice A4 n4 c4),.S a1.Contributions (.slice A5 n5 c5),.S a2.Args (.slice A6 n6 c6),.S y1 (.slice A7 n7 c7)]
 have H:HL F0 [] w0 w4 d1 d2:=hcl H'
 refine (A) (Z (Y (R ((AZ) ?_))))
 refine bb hr fun q1 hq1 hr=>?_
 refine (lF hq1 (fun k1 _ _=>[(3,pB b1),(4,pB b2),(7,.slice A7 n7 c7),(8,zN k1)]) (fun _ _ w=>HL F0 [] w0 w d1 d2) ()) ?_
 rintro k1 _ _ σ w5 hk1 hq1 H
 refine Y (R ((V) ((V) ((NI H 9) fun hl1=>(BZ) ?_))))
 refine (iF hq1 hr (fun hk2 x1 z1 hx1 hb1 hs1 ht1=>?_) fun hr=>?_)
 ·refine K (Y ?_)
  refine Bk (Y ?_)
  refine q0d hmix (by kernel_rfl) ?_
  refine (qLB H 0) ((qLB H 1) ((qV) ((qV) ?_)))
  obtain⟨b4,ob4,cb4,hvb4,hI5,hS5,H⟩:=q5E H 9 hx1
  refine (qJ 2 hvb4 hx1) ((qLA H 10) ?_)
  refine bb hb1 fun y2 hy2 hb1=>?_
  refine (qC k3Q (fun _ hq=>j5m hy2 ⟨_,_,rfl,(rs (H.ext hq) 3),(rs (H.ext hq) 4)⟩ ⟨_,_,_,rfl,hS1,hS2,(rs (H.ext hq) 5),(rs (H.ext hq) 6),(rs (H.ext hq) 7)⟩ ⟨rfl,hI5,hS5⟩)) ?_
  refine (qN) ?_
  refine QL.nil (fun w6 hE=>?_)
  have H:=H.ext hE
  refine iM hb1 (fun _ hb1=>?_) fun _ hb1=>?_
  ·exact R ((AZ) (W2 hb1 ht1 hr))
  exact K (X ((V) ((AN hk2 hl1) ((A) (Z (I2 hb1 hs1 ⟨k1+1,(),()⟩))))))
 exact CE (R ((AZ) (W1 hr)))
def z6j (a0:Grammar)(a1:Rule):Nat→Equation→Unit→Option (Unit ⊕ Bool):=fun k1 x1 _=>(z0M a0 a1 x1.Expr).bind fun y1=>if y1=true then some (.inl ()) else some (.inr true)
def z6k (a0:Grammar)(a1:Rule):Nat→Contribution→Unit→Option (Unit ⊕ Bool):=fun k2 x2 _=>(z0M a0 a1 x2.Target).bind fun y2=>if y2=true then (z0M a0 a1 x2.Value).bind fun y3=>if y3=true then some (.inl ()) else some (.inr true) else some (.inr true)
def z1F (a0:Grammar)(a1:Rule):Option Bool:=(q2u (z6j a0 a1) 0 a1.Equations ()).bind <| onr (fun r1=>some r1) fun _=>(q2u (z6k a0 a1) 0 a1.Contributions ()).bind <| onr (fun r2=>some r2) fun _=>some false
theorem j1g {a0}{a1}{r}(hr:z1F a0 a1=some r){ca0}(ha0:rd F0 w0 a0 ca0){ca1}(ha1:rd F0 w0 a1 ca1):RB 179 #[ag ca0,ag ca1] w0 r:=by
 have H:=((HL.start F0 w0).argR ha0).argR ha1
 obtain⟨A1,n1,c1,A2,n2,c2,rfl,H⟩:=q2s H 0
 let d9:Pr:=.S a0.Rules (.slice A2 n2 c2)
 let d8:Pr:=.S a0.Symbols (.slice A1 n1 c1)
 let d5:List Value:=[.slice A1 n1 c1,.slice A2 n2 c2]
 obtain⟨A3,n3,c3,A4,n4,c4,A5,n5,c5,rfl,hS1,hS2,H⟩:=q3j H 1
 let d10:Pr:=.S a1.Right (.slice A3 n3 c3)
 let d7:Pr:=.S a1.Equations (.slice A4 n4 c4)
 let d6:Pr:=.S a1.Contributions (.slice A5 n5 c5)
 let d3:=q4o a1 A3 n3 c3 A4 n4 c4 A5 n5 c5
 let d2:List Pr:=[.R a0 d5,.R a1 d3,d8,d9,d10,d7,d6]
 refine (En Tryz.func179) ?_
 refine R ((BX H) fun b1 w1 H=>(BX H) fun b2 w2 H=>(A) (Z (Y (R ((AZ) ?_)))))
 let d1:List It:=[.B b1 35 d5,.B b2 62 d3]
 refine bb hr fun q1 hq1 hr=>?_
 refine (lF hq1 (fun k1 _ _=>[(2,pB b1),(3,pB b2),(5,zN k1)]) (fun _ _ w=>HL F0 [] w0 w d2 d1) ()) ?_
 rintro k1 _ _ σ w3 hk1 hq1 H
 refine Y (R ((V) ((D 4) ((L H 1) ((NI H 5) fun hl1=>(BZ) ?_)))))
 refine (iF hq1 hr (fun hk2 x1 z1 hx1 hb1 hs1 ht1=>?_) fun hr=>?_)
 ·refine K (Y ?_)
  refine Bk (Y ?_)
  refine q0d hmix (by kernel_rfl) ?_
  refine (qLB H 0) ((qLB H 1) ((qD 4) ((qL H 1) ((qV) ?_))))
  obtain⟨b3,ob3,cb3,A6,n6,c6,hvb3,hI1,hS3,hI2,hI3,hI4,hI5,hS4,hS5,H⟩:=q3P H 5 hx1
  refine (qJ 9 hvb3 hx1) ((qD 2) ?_)
  refine q0i rfl rfl (fun _ hq=>q0c rfl q7L q5u rfl (((H.ext hq).rA (i:=7) rfl).part 2 7) rfl) ?_
  refine bb hb1 fun y1 hy1 hb1=>?_
  refine (qC k0j (fun _ hq=>z5r hy1 ⟨_,_,rfl,(rs (H.ext hq) 2),(rs (H.ext hq) 3)⟩ ⟨_,_,_,rfl,hS1,hS2,(rs (H.ext hq) 4),(rs (H.ext hq) 5),(rs (H.ext hq) 6)⟩ (q2r.2 ⟨_,rfl,hI2,hI3,hI4,hI5,hS4,hS5,(rs (H.ext hq) 9)⟩))) ?_
  refine (qN) ?_
  refine QL.nil (fun w4 hE=>?_)
  have H:=H.ext hE
  refine iM hb1 (fun _ hb1=>?_) fun _ hb1=>?_
  ·exact R ((AZ) (W2 hb1 ht1 hr))
  exact K (X ((V) ((AN hk2 hl1) ((A) (Z (I2 hb1 hs1 ⟨k1+1,(),()⟩))))))
 refine CE (Y (R ((AZ) ?_)))
 refine bb hr fun q2 hq2 hr=>?_
 refine (lF hq2 (fun k2 _ _=>[(2,pB b1),(3,pB b2),(6,zN k2)]) (fun _ _ w=>HL F0 [] w0 w d2 d1) ()) ?_
 rintro k2 _ _ σ w5 hk3 hq2 H
 refine Y (R ((V) ((D 5) ((L H 1) ((NI H 6) fun hl2=>(BZ) ?_)))))
 refine (iF hq2 hr (fun hk4 x2 z2 hx2 hb2 hs2 ht2=>?_) fun hr=>?_)
 ·refine K (Y ?_)
  refine Bk (Y ?_)
  refine q0d hmix (by kernel_rfl) ?_
  refine (qLB H 0) ((qLB H 1) ((qD 5) ((qL H 1) ((qV) ?_))))
  obtain⟨b4,ob4,cb4,A7,n7,c7,A8,n8,c8,hvb4,hS6,hS7,hI6,hI7,hI8,hI9,hS8,hS9,hI10,hI11,hI12,hI13,hS10,hS11,H⟩:=q3V H 6 hx2
  let d4:=q4u x2 A7 n7 c7 A8 n8 c8
  refine (qJ 16 hvb4 hx2) ((qD 2) ?_)
  refine q0i rfl rfl (fun _ hq=>q0c rfl q7L q5u rfl (((H.ext hq).rA (i:=7) rfl).part 2 7) rfl) ?_
  refine bb hb2 fun y2 hy2 hb2=>?_
  refine (qC k0j (fun _ hq=>z5r hy2 ⟨_,_,rfl,(rs (H.ext hq) 2),(rs (H.ext hq) 3)⟩ ⟨_,_,_,rfl,hS1,hS2,(rs (H.ext hq) 4),(rs (H.ext hq) 5),(rs (H.ext hq) 6)⟩ (q2r.2 ⟨_,rfl,hI6,hI7,hI8,hI9,hS8,hS9,(rs (H.ext hq) 9)⟩))) ?_
  refine (qN) ?_
  refine kM hb2 (fun _ hb2=>?_) fun _ hb2=>?_
  ·refine (qO) ((qO) ((qO) ((qO) ((qO) ((qO) ((qO) ((qO) ((qO) ((qO) ((qT) ?_))))))))))
   refine QL.nil (fun w6 hE=>?_)
   have H:=H.ext hE
   exact (cT) (R ((AZ) (W2 hb2 ht2 hr)))
  refine (qG) ((qLB H 0) ((qG) ((qLB H 1) ((qG) ((qD 5) ((qG) ((qL H 1) ((qG) ((qV) ((qG) ((qJ 16 hvb4 hx2) ((qG) ((qD 9) ((qG) ?_))))))))))))))
  refine q0i rfl rfl (fun _ hq=>q0c rfl q7L q5u rfl (((H.ext hq).rA (i:=7) rfl).part 9 7) rfl) ?_
  refine (qG) ?_
  refine bb hb2 fun y3 hy3 hb2=>?_
  refine (qC k0j (fun _ hq=>z5r hy3 ⟨_,_,rfl,(rs (H.ext hq) 2),(rs (H.ext hq) 3)⟩ ⟨_,_,_,rfl,hS1,hS2,(rs (H.ext hq) 4),(rs (H.ext hq) 5),(rs (H.ext hq) 6)⟩ (q2r.2 ⟨_,rfl,hI10,hI11,hI12,hI13,hS10,hS11,(rs (H.ext hq) 10)⟩))) ?_
  refine (qG) ((qN) ((qU) ?_))
  refine QL.nil (fun w7 hE=>?_)
  have H:=H.ext hE
  refine iM hb2 (fun _ hb2=>?_) fun _ hb2=>?_
  ·refine Y ?_
   refine q0a [] trivial fun σ=>?_
   have H:HL F0 [] w0 w7 [.R a0 d5,.R a1 d3,d8,d9,d10,d7,d6,.A b4 (ob4+k2*16) d4,.R x2 d4,.S x2.Target.Args (.slice A7 n7 c7),.S x2.Value.Args (.slice A8 n8 c8)] d1:=H
   exact X ((AZ) (W2 hb2 ht2 hr))
  refine K ?_
  refine q0a [(2,pB b1),(3,pB b2),(6,zN k2),(42,.agg #[.slice A1 n1 c1,.slice A2 n2 c2]),(43,.agg #[.string a1.Name,.string a1.Left,.slice A3 n3 c3,.bool a1.Literal,.slice A4 n4 c4,.slice A5 n5 c5]),(44,.pointer (some ⟨b2,0+5,none⟩)),(45,.slice A5 n5 c5),(46,zN k2),(47,.pointer (some ⟨b4,ob4+k2*16,none⟩)),(48,.pointer (some ⟨b4,ob4+k2*16+9,none⟩)),(49,.agg #[.int .i64 x2.Value.Kind,.int .i64 x2.Value.N,.int .i64 x2.Value.Pos,.int .i64 x2.Value.Type_,.string x2.Value.Symbol,.string x2.Value.Name,.slice A8 n8 c8]),(50,.bool y3),(51,.bool (!y3))] ⟨rfl,rfl,rfl,rfl,rfl,rfl,rfl,rfl,rfl,rfl,rfl,rfl,rfl,trivial⟩ fun σ=>?_
  have H:HL F0 [] w0 w7 [.R a0 d5,.R a1 d3,d8,d9,d10,d7,d6,.A b4 (ob4+k2*16) d4,.R x2 d4,.S x2.Target.Args (.slice A7 n7 c7),.S x2.Value.Args (.slice A8 n8 c8)] d1:=H
  exact X ((V) ((AN hk4 hl2) ((A) (Z (I2 hb2 hs2 ⟨k2+1,(),()⟩)))))
 exact CE (R ((AZ) (W1 hr)))
def z1G (a0:Grammar)(a1:Rule)(a2:Int):Option Bool:=if a2=3 then (z0u a0 a1).bind fun y1=>some (!y1) else if a2=4 then (z0v a0 a1).bind fun y2=>some y2 else if a2=5 then (z2P a0 a1).bind fun y3=>some y3 else (z1F a0 a1).bind fun y4=>some y4
theorem j1h {a0}{a1}{a2}{r}(hr:z1G a0 a1 a2=some r){ca0}(ha0:rd F0 w0 a0 ca0){ca1}(ha1:rd F0 w0 a1 ca1)(ha2:I64 a2):RB 143 #[ag ca0,ag ca1,.int .i64 a2] w0 r:=by
 have H:=((HL.start F0 w0).argR ha0).argR ha1
 obtain⟨A1,n1,c1,A2,n2,c2,rfl,H⟩:=q2s H 0
 obtain⟨A3,n3,c3,A4,n4,c4,A5,n5,c5,rfl,hS1,hS2,H⟩:=q3j H 1
 refine (En Tryz.func143) ?_
 refine R ((BX H) fun b1 w1 H=>(BX H) fun b2 w2 H=>(A) (Z (Y (R ((V) (Z ?_))))))
 refine Bk (R ((B) ((AZ) (iD hr (fun _ hr=>?_) fun _ hr=>?_))))
 ·refine R ((LB H 0) ((LB H 1) ?_))
  refine bb hr fun y1 hy1 hr=>?_
  exact (CA k3l (z9Y hy1 ⟨_,_,rfl,(rs H 2),(rs H 3)⟩ ⟨_,_,_,rfl,hS1,hS2,(rs H 4),(rs H 5),(rs H 6)⟩)) (cE H fun w3 H=>(N) ((AZ) (W1 hr)))
 refine R ((B) ((AZ) (iD hr (fun _ hr=>?_) fun _ hr=>?_)))
 ·refine R ((LB H 0) ((LB H 1) ?_))
  refine bb hr fun y2 hy2 hr=>?_
  exact (CA k3m (z9Z hy2 ⟨_,_,rfl,(rs H 2),(rs H 3)⟩ ⟨_,_,_,rfl,hS1,hS2,(rs H 4),(rs H 5),(rs H 6)⟩)) (cE H fun w4 H=>(AZ) (W1 hr))
 refine R ((B) ((AZ) (iD hr (fun _ hr=>?_) fun _ hr=>?_)))
 ·refine R ((LB H 0) ((LB H 1) ?_))
  refine bb hr fun y3 hy3 hr=>?_
  exact (CA k3n (j2k hy3 ⟨_,_,rfl,(rs H 2),(rs H 3)⟩ ⟨_,_,_,rfl,hS1,hS2,(rs H 4),(rs H 5),(rs H 6)⟩)) (cE H fun w5 H=>(AZ) (W1 hr))
 refine K (R ((LB H 0) ((LB H 1) ?_)))
 refine bb hr fun y4 hy4 hr=>?_
 exact (CA k3o (j1g hy4 ⟨_,_,rfl,(rs H 2),(rs H 3)⟩ ⟨_,_,_,rfl,hS1,hS2,(rs H 4),(rs H 5),(rs H 6)⟩)) (cE H fun w6 H=>(AZ) (W1 hr))
def z4X:Nat→Attribute→Unit→Option (Unit ⊕ (Int × Int)):=fun k1 x2 _=>if x2.Mode=1 then some (.inr (2,0)) else some (.inl ())
def q9F (a0:Grammar)(s1:Int):Nat→Rule→Unit→Option (Unit ⊕ (Int × Int)):=fun k2 x3 _=>(z1G a0 x3 s1).bind fun y4=>if y4=true then some (.inr (s1,(k2:Int))) else some (.inl ())
def q9G (a0:Grammar):Int→Option (Int ⊕ (Unit ⊕ (Int × Int))):=fun s1=>if s1≤6 then (q2u (q9F a0 s1) 0 a0.Rules ()).bind <| onr (fun r2=>some (.inr (.inr r2))) fun _=>grd (I64 (s1+1)) <| some (.inl (s1+1)) else some (.inr (.inl ()))
def z0w (a0:Grammar):Option (Int × Int):=(q5q (a0.Symbols.length:Int) 1 4).bind fun y1=>if y1=true then (q5q (a0.Rules.length:Int) 1 8).bind fun y2=>if y2=true then (z6g a0).bind fun y3=>if 0≤y3 then some (1,y3) else (a0.Symbols[0]?).bind fun x1=>(q2u z4X 0 x1.Attributes ()).bind <| onr (fun r1=>some r1) fun _=>( q7k (q9G a0) 3 ).bind <| onr (fun r3=>some r3) fun ()=>some (0,0) else some (1,0) else some (1,0)
end Go.Proofs.YteefempppabmkacGreat

