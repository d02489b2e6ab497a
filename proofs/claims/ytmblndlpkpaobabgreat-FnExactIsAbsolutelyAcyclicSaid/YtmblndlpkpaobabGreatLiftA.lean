/- What some functions of the program compute, as partial functions on plain data, and that they do; each lemma bears its conditions in its statement. -/
import Derived.Test.YtmblndlpkpaobabGreatRows
import Derived.Test.YtmblndlpkpaobabGreatRd
import Derived.Test.YtmblndlpkpaobabGreatEngD
import Derived.Test.YtmblndlpkpaobabGreatSort
set_option linter.unusedVariables false
set_option linter.unusedSimpArgs false
set_option linter.ambiguousOpen false
set_option linter.unusedSectionVars false
set_option linter.unnecessarySimpa false
set_option linter.unusedVariables false
set_option linter.unusedSimpArgs false
set_option maxRecDepth 100000
set_option maxHeartbeats 4000000
noncomputable section
namespace Go.Proofs.YtmblndlpkpaobabGreat
open Go Go.E
open Go.E.Rep (rd)
open Go.E.Sep (own)
open Go.E.Sz (szd)
variable {F0:Nat→Prop}{w0:World}{M:List Nat}
abbrev RT (f:Nat)(a:Array Value)(w:World)(R:Value→World→Prop):=Ret Tryz.prog f a w (fun _=>False) R
abbrev RM (f:Nat)(a:Array Value)(M:List Nat)(w:World)(R:Value→World→Prop):=Ret Tryz.prog f a w (·∈M) R
abbrev RB (f:Nat)(a:Array Value)(w:World)(r:Bool):=RT f a w fun v _=>v = .bool r
abbrev q3k (x:Attribute):List Value:=[.string x.Name,.int .i64 x.Type_,.int .i64 x.Mode,.bool x.Circular]
abbrev q3W (x:Symbol)(A1:Option Addr)(n1 c1:Nat):List Value:=[.string x.Name,.slice A1 n1 c1]
abbrev q2J (x:Occurrence):List Value:=[.int .i64 x.Pos,.string x.Name]
abbrev q2T (x:Expr)(A1:Option Addr)(n1 c1:Nat):List Value:=[.int .i64 x.Kind,.int .i64 x.N,.int .i64 x.Pos,.int .i64 x.Type_,.string x.Symbol,.string x.Name,.slice A1 n1 c1]
abbrev q5R (x:Equation)(A1:Option Addr)(n1 c1:Nat):List Value:=[.int .i64 x.At.Pos,.string x.At.Name,.int .i64 x.Expr.Kind,.int .i64 x.Expr.N,.int .i64 x.Expr.Pos,.int .i64 x.Expr.Type_,.string x.Expr.Symbol,.string x.Expr.Name,.slice A1 n1 c1]
abbrev q4K (x:Contribution)(A1:Option Addr)(n1 c1:Nat)(A2:Option Addr)(n2 c2:Nat):List Value:=[.string x.Symbol,.string x.Name,.int .i64 x.Target.Kind,.int .i64 x.Target.N,.int .i64 x.Target.Pos,.int .i64 x.Target.Type_,.string x.Target.Symbol,.string x.Target.Name,.slice A1 n1 c1,.int .i64 x.Value.Kind,.int .i64 x.Value.N,.int .i64 x.Value.Pos,.int .i64 x.Value.Type_,.string x.Value.Symbol,.string x.Value.Name,.slice A2 n2 c2]
abbrev q3C (x:Rule)(A1:Option Addr)(n1 c1:Nat)(A2:Option Addr)(n2 c2:Nat)(A3:Option Addr)(n3 c3:Nat):List Value:=[.string x.Name,.string x.Left,.slice A1 n1 c1,.bool x.Literal,.slice A2 n2 c2,.slice A3 n3 c3]
abbrev q2D (x:Relation)(A1:Option Addr)(n1 c1:Nat):List Value:=[.int .i64 x.N,.slice A1 n1 c1]
theorem ag28:aggT Tryz.prog 28=some false:=by kernel_rfl
theorem ag29:aggT Tryz.prog 29=some false:=by kernel_rfl
theorem ag31:aggT Tryz.prog 31=some true:=by kernel_rfl
theorem ag37:aggT Tryz.prog 37=some false:=by kernel_rfl
theorem ag58:aggT Tryz.prog 58=some false:=by kernel_rfl
theorem ag60:aggT Tryz.prog 60=some true:=by kernel_rfl
theorem ag65:aggT Tryz.prog 65=some true:=by kernel_rfl
theorem ag67:aggT Tryz.prog 67=some false:=by kernel_rfl
theorem ag69:aggT Tryz.prog 69=some true:=by kernel_rfl
theorem z7z:aggT Tryz.prog 120=some true:=by kernel_rfl
theorem z1W:aggT Tryz.prog 122=some true:=by kernel_rfl
theorem q7S:aggT Tryz.prog 125=some true:=by kernel_rfl
theorem k1W:aggT Tryz.prog 127=some true:=by kernel_rfl
theorem k1X:aggT Tryz.prog 132=some true:=by kernel_rfl
theorem sz9:szT Tryz.prog 9=some 1:=by kernel_rfl
theorem sz31:szT Tryz.prog 31=some 2:=by kernel_rfl
theorem sz60:szT Tryz.prog 60=some 2:=by kernel_rfl
theorem sz65:szT Tryz.prog 65=some 6:=by kernel_rfl
theorem sz69:szT Tryz.prog 69=some 2:=by kernel_rfl
theorem q9m:szT Tryz.prog 120=some 4:=by kernel_rfl
theorem q3Y:szT Tryz.prog 122=some 2:=by kernel_rfl
theorem q5E:szT Tryz.prog 125=some 7:=by kernel_rfl
theorem j7E:szT Tryz.prog 127=some 9:=by kernel_rfl
theorem j9F:szT Tryz.prog 132=some 16:=by kernel_rfl
theorem by3:byT Tryz.prog 3=some 8:=by kernel_rfl
theorem by9:byT Tryz.prog 9=some 16:=by kernel_rfl
theorem by60:byT Tryz.prog 60=some 32:=by kernel_rfl
theorem j4D:byT Tryz.prog 120=some 40:=by kernel_rfl
theorem z6B:byT Tryz.prog 122=some 24:=by kernel_rfl
theorem j5M:byT Tryz.prog 125=some 88:=by kernel_rfl
theorem ze9:q6E Tryz.prog 9=some [.string ⟨#[]⟩]:=by kernel_rfl
theorem ze58:q6E Tryz.prog 58=some [.slice none 0 0]:=by kernel_rfl
theorem ze60:q6E Tryz.prog 60=some [.int .i64 0,.slice none 0 0]:=by kernel_rfl
theorem ze65:q6E Tryz.prog 65=some [.string ⟨#[]⟩,.string ⟨#[]⟩,.slice none 0 0,.bool false,.slice none 0 0,.slice none 0 0]:=by kernel_rfl
theorem ze69:q6E Tryz.prog 69=some [.string ⟨#[]⟩,.slice none 0 0]:=by kernel_rfl
theorem ze88:q6E Tryz.prog 88=some [.slice none 0 0]:=by kernel_rfl
theorem q7T:q6E Tryz.prog 120=some [.string ⟨#[]⟩,.int .i64 0,.int .i64 0,.bool false]:=by kernel_rfl
theorem q7h:q6E Tryz.prog 122=some [.int .i64 0,.string ⟨#[]⟩]:=by kernel_rfl
theorem z0a:q6E Tryz.prog 125=some [.int .i64 0,.int .i64 0,.int .i64 0,.int .i64 0,.string ⟨#[]⟩,.string ⟨#[]⟩,.slice none 0 0]:=by kernel_rfl
theorem z9A:q6E Tryz.prog 127=some [.int .i64 0,.string ⟨#[]⟩,.int .i64 0,.int .i64 0,.int .i64 0,.int .i64 0,.string ⟨#[]⟩,.string ⟨#[]⟩,.slice none 0 0]:=by kernel_rfl
theorem j1J:q6E Tryz.prog 132=some [.string ⟨#[]⟩,.string ⟨#[]⟩,.int .i64 0,.int .i64 0,.int .i64 0,.int .i64 0,.string ⟨#[]⟩,.string ⟨#[]⟩,.slice none 0 0,.int .i64 0,.int .i64 0,.int .i64 0,.int .i64 0,.string ⟨#[]⟩,.string ⟨#[]⟩,.slice none 0 0]:=by kernel_rfl
theorem el28:q5x Tryz.prog 28=some 69:=by kernel_rfl
theorem el29:q5x Tryz.prog 29=some 65:=by kernel_rfl
theorem el37:q5x Tryz.prog 37=some 9:=by kernel_rfl
theorem el54:q5x Tryz.prog 54=some 60:=by kernel_rfl
theorem el62:q5x Tryz.prog 62=some 127:=by kernel_rfl
theorem el63:q5x Tryz.prog 63=some 132:=by kernel_rfl
theorem el67:q5x Tryz.prog 67=some 120:=by kernel_rfl
theorem el88:q5x Tryz.prog 88=some 122:=by kernel_rfl
theorem z7A:q5x Tryz.prog 123=some 125:=by kernel_rfl
theorem j1K:intT Tryz.prog 138=some .u64:=by kernel_rfl
theorem pl60:z4X Tryz.prog 60=some [(0,1),(1,1)]:=by kernel_rfl
theorem pl69:z4X Tryz.prog 69=some [(0,1),(1,1)]:=by kernel_rfl
theorem j9G:z4X Tryz.prog 120=some [(0,1),(1,1),(2,1),(3,1)]:=by kernel_rfl
theorem j1L:z4X Tryz.prog 122=some [(0,1),(1,1)]:=by kernel_rfl
theorem j9H:z4X Tryz.prog 125=some [(0,1),(1,1),(2,1),(3,1),(4,1),(5,1),(6,1)]:=by kernel_rfl
theorem z9B:j5A Tryz.prog 122=some [.int,.str]:=by kernel_rfl
theorem k0X:q8C Tryz.prog 31 0=some 0:=by kernel_rfl
theorem j9f:q8C Tryz.prog 31 1=some 1:=by kernel_rfl
theorem j5N:q8C Tryz.prog 60 0=some 0:=by kernel_rfl
theorem j9g:q8C Tryz.prog 60 1=some 1:=by kernel_rfl
theorem k0Y:q8C Tryz.prog 65 1=some 1:=by kernel_rfl
theorem j9h:q8C Tryz.prog 65 2=some 2:=by kernel_rfl
theorem j9i:q8C Tryz.prog 69 0=some 0:=by kernel_rfl
theorem k0Z:q8C Tryz.prog 69 1=some 1:=by kernel_rfl
theorem j5O:q8C Tryz.prog 125 1=some 1:=by kernel_rfl
theorem j5P:q8C Tryz.prog 125 2=some 2:=by kernel_rfl
theorem j5Q:q8C Tryz.prog 125 3=some 3:=by kernel_rfl
theorem j5R:q8C Tryz.prog 125 4=some 4:=by kernel_rfl
theorem j0D:q8C Tryz.prog 125 5=some 5:=by kernel_rfl
theorem ok11:q2A Tryz.prog 11=true:=by kernel_rfl
theorem ok12:q2A Tryz.prog 12=true:=by kernel_rfl
theorem ok15:q2A Tryz.prog 15=true:=by kernel_rfl
theorem ok16:q2A Tryz.prog 16=true:=by kernel_rfl
theorem ok21:q2A Tryz.prog 21=true:=by kernel_rfl
theorem ok22:q2A Tryz.prog 22=true:=by kernel_rfl
theorem ok23:q2A Tryz.prog 23=true:=by kernel_rfl
theorem ok24:q2A Tryz.prog 24=true:=by kernel_rfl
theorem ok25:q2A Tryz.prog 25=true:=by kernel_rfl
theorem ok28:q2A Tryz.prog 28=true:=by kernel_rfl
theorem ok29:q2A Tryz.prog 29=true:=by kernel_rfl
theorem ok30:q2A Tryz.prog 30=true:=by kernel_rfl
theorem ok31:q2A Tryz.prog 31=true:=by kernel_rfl
theorem ok38:q2A Tryz.prog 38=true:=by kernel_rfl
theorem ok39:q2A Tryz.prog 39=true:=by kernel_rfl
theorem ok40:q2A Tryz.prog 40=true:=by kernel_rfl
theorem ok41:q2A Tryz.prog 41=true:=by kernel_rfl
theorem ok42:q2A Tryz.prog 42=true:=by kernel_rfl
theorem ok43:q2A Tryz.prog 43=true:=by kernel_rfl
theorem ok44:q2A Tryz.prog 44=true:=by kernel_rfl
theorem ok45:q2A Tryz.prog 45=true:=by kernel_rfl
theorem ok46:q2A Tryz.prog 46=true:=by kernel_rfl
theorem ok47:q2A Tryz.prog 47=true:=by kernel_rfl
theorem ok48:q2A Tryz.prog 48=true:=by kernel_rfl
theorem ok49:q2A Tryz.prog 49=true:=by kernel_rfl
theorem ok50:q2A Tryz.prog 50=true:=by kernel_rfl
theorem ok51:q2A Tryz.prog 51=true:=by kernel_rfl
theorem ok52:q2A Tryz.prog 52=true:=by kernel_rfl
theorem ok53:q2A Tryz.prog 53=true:=by kernel_rfl
theorem ok54:q2A Tryz.prog 54=true:=by kernel_rfl
theorem ok59:q2A Tryz.prog 59=true:=by kernel_rfl
theorem ok60:q2A Tryz.prog 60=true:=by kernel_rfl
theorem ok61:q2A Tryz.prog 61=true:=by kernel_rfl
theorem ok62:q2A Tryz.prog 62=true:=by kernel_rfl
theorem ok63:q2A Tryz.prog 63=true:=by kernel_rfl
theorem ok64:q2A Tryz.prog 64=true:=by kernel_rfl
theorem ok65:q2A Tryz.prog 65=true:=by kernel_rfl
theorem ok66:q2A Tryz.prog 66=true:=by kernel_rfl
theorem ok67:q2A Tryz.prog 67=true:=by kernel_rfl
theorem ok68:q2A Tryz.prog 68=true:=by kernel_rfl
theorem ok69:q2A Tryz.prog 69=true:=by kernel_rfl
theorem ok77:q2A Tryz.prog 77=true:=by kernel_rfl
theorem ok78:q2A Tryz.prog 78=true:=by kernel_rfl
theorem ok79:q2A Tryz.prog 79=true:=by kernel_rfl
theorem ok80:q2A Tryz.prog 80=true:=by kernel_rfl
theorem ok81:q2A Tryz.prog 81=true:=by kernel_rfl
theorem ok82:q2A Tryz.prog 82=true:=by kernel_rfl
theorem ok83:q2A Tryz.prog 83=true:=by kernel_rfl
theorem ok84:q2A Tryz.prog 84=true:=by kernel_rfl
theorem ok85:q2A Tryz.prog 85=true:=by kernel_rfl
theorem ok86:q2A Tryz.prog 86=true:=by kernel_rfl
theorem ok87:q2A Tryz.prog 87=true:=by kernel_rfl
theorem ok88:q2A Tryz.prog 88=true:=by kernel_rfl
theorem ok89:q2A Tryz.prog 89=true:=by kernel_rfl
theorem ok90:q2A Tryz.prog 90=true:=by kernel_rfl
theorem ok94:q2A Tryz.prog 94=true:=by kernel_rfl
theorem ok95:q2A Tryz.prog 95=true:=by kernel_rfl
theorem ok96:q2A Tryz.prog 96=true:=by kernel_rfl
theorem ok97:q2A Tryz.prog 97=true:=by kernel_rfl
theorem ok98:q2A Tryz.prog 98=true:=by kernel_rfl
theorem ok99:q2A Tryz.prog 99=true:=by kernel_rfl
theorem k1Y:q2A Tryz.prog 100=true:=by kernel_rfl
theorem k1Z:q2A Tryz.prog 101=true:=by kernel_rfl
theorem j9I:q2A Tryz.prog 102=true:=by kernel_rfl
theorem j7F:q2A Tryz.prog 103=true:=by kernel_rfl
theorem j4E:q2A Tryz.prog 104=true:=by kernel_rfl
theorem j9J:q2A Tryz.prog 105=true:=by kernel_rfl
theorem k2a:q2A Tryz.prog 106=true:=by kernel_rfl
theorem j9K:q2A Tryz.prog 107=true:=by kernel_rfl
theorem j7G:q2A Tryz.prog 108=true:=by kernel_rfl
theorem k1a:q2A Tryz.prog 109=true:=by kernel_rfl
theorem k2b:q2A Tryz.prog 110=true:=by kernel_rfl
theorem j9L:q2A Tryz.prog 111=true:=by kernel_rfl
theorem j5S:q2A Tryz.prog 112=true:=by kernel_rfl
theorem k1b:q2A Tryz.prog 113=true:=by kernel_rfl
theorem j9M:q2A Tryz.prog 114=true:=by kernel_rfl
theorem k2c:q2A Tryz.prog 115=true:=by kernel_rfl
theorem j9N:q2A Tryz.prog 116=true:=by kernel_rfl
theorem k2d:q2A Tryz.prog 117=true:=by kernel_rfl
theorem k2e:q2A Tryz.prog 118=true:=by kernel_rfl
theorem k2f:q2A Tryz.prog 124=true:=by kernel_rfl
theorem j7H:q2A Tryz.prog 125=true:=by kernel_rfl
theorem k2g:q2A Tryz.prog 126=true:=by kernel_rfl
theorem k2h:q2A Tryz.prog 127=true:=by kernel_rfl
theorem k2i:q2A Tryz.prog 128=true:=by kernel_rfl
theorem k2j:q2A Tryz.prog 129=true:=by kernel_rfl
theorem k2k:q2A Tryz.prog 130=true:=by kernel_rfl
theorem k2l:q2A Tryz.prog 131=true:=by kernel_rfl
theorem k2m:q2A Tryz.prog 132=true:=by kernel_rfl
theorem k2n:q2A Tryz.prog 133=true:=by kernel_rfl
theorem k2o:q2A Tryz.prog 134=true:=by kernel_rfl
theorem k1c:q2A Tryz.prog 135=true:=by kernel_rfl
theorem j9O:q2A Tryz.prog 136=true:=by kernel_rfl
theorem k2p:q2A Tryz.prog 139=true:=by kernel_rfl
theorem k2q:q2A Tryz.prog 140=true:=by kernel_rfl
theorem k2r:q2A Tryz.prog 141=true:=by kernel_rfl
theorem k2s:q2A Tryz.prog 142=true:=by kernel_rfl
theorem k2t:q2A Tryz.prog 143=true:=by kernel_rfl
theorem k2u:q2A Tryz.prog 144=true:=by kernel_rfl
theorem k1d:q2A Tryz.prog 145=true:=by kernel_rfl
theorem j7I:q2A Tryz.prog 146=true:=by kernel_rfl
theorem k1e:q2A Tryz.prog 147=true:=by kernel_rfl
theorem k1f:q2A Tryz.prog 148=true:=by kernel_rfl
theorem k2v:q2A Tryz.prog 149=true:=by kernel_rfl
theorem k1g:q2A Tryz.prog 150=true:=by kernel_rfl
theorem k2w:q2A Tryz.prog 151=true:=by kernel_rfl
theorem k2x:q2A Tryz.prog 152=true:=by kernel_rfl
theorem k2y:q2A Tryz.prog 153=true:=by kernel_rfl
theorem j7J:q2A Tryz.prog 154=true:=by kernel_rfl
theorem k2z:q2A Tryz.prog 155=true:=by kernel_rfl
theorem k2A:q2A Tryz.prog 156=true:=by kernel_rfl
theorem k1h:q2A Tryz.prog 157=true:=by kernel_rfl
theorem k2B:q2A Tryz.prog 158=true:=by kernel_rfl
theorem k2C:q2A Tryz.prog 159=true:=by kernel_rfl
theorem k2D:q2A Tryz.prog 160=true:=by kernel_rfl
theorem k2E:q2A Tryz.prog 161=true:=by kernel_rfl
theorem k2F:q2A Tryz.prog 162=true:=by kernel_rfl
theorem k2G:q2A Tryz.prog 163=true:=by kernel_rfl
theorem k2H:q2A Tryz.prog 164=true:=by kernel_rfl
theorem k2I:q2A Tryz.prog 165=true:=by kernel_rfl
theorem k2J:q2A Tryz.prog 169=true:=by kernel_rfl
theorem z8p:q2A Tryz.prog 170=true:=by kernel_rfl
theorem k2K:q2A Tryz.prog 171=true:=by kernel_rfl
theorem j9P:q2A Tryz.prog 172=true:=by kernel_rfl
theorem k1i:q2A Tryz.prog 173=true:=by kernel_rfl
theorem k1j:q2A Tryz.prog 174=true:=by kernel_rfl
theorem j9Q:q2A Tryz.prog 175=true:=by kernel_rfl
theorem k2L:q2A Tryz.prog 176=true:=by kernel_rfl
theorem k2M:q2A Tryz.prog 177=true:=by kernel_rfl
theorem k2N:q2A Tryz.prog 178=true:=by kernel_rfl
theorem k2O:q2A Tryz.prog 180=true:=by kernel_rfl
theorem k2P:q2A Tryz.prog 181=true:=by kernel_rfl
theorem z8q:q2A Tryz.prog 182=true:=by kernel_rfl
theorem j9R:q2A Tryz.prog 183=true:=by kernel_rfl
theorem k2Q:q2A Tryz.prog 184=true:=by kernel_rfl
theorem k1k:q2A Tryz.prog 185=true:=by kernel_rfl
theorem k1l:q2A Tryz.prog 186=true:=by kernel_rfl
theorem k1m:q2A Tryz.prog 187=true:=by kernel_rfl
theorem j7K:q2A Tryz.prog 188=true:=by kernel_rfl
theorem j4F:q2A Tryz.prog 189=true:=by kernel_rfl
theorem k2R:q2A Tryz.prog 190=true:=by kernel_rfl
theorem k2S:q2A Tryz.prog 191=true:=by kernel_rfl
theorem k2T:q2A Tryz.prog 193=true:=by kernel_rfl
theorem k2U:q2A Tryz.prog 194=true:=by kernel_rfl
theorem k1n:q2A Tryz.prog 195=true:=by kernel_rfl
theorem k2V:q2A Tryz.prog 197=true:=by kernel_rfl
theorem k2W:q2A Tryz.prog 198=true:=by kernel_rfl
theorem k2X:q2A Tryz.prog 199=true:=by kernel_rfl
theorem k1o:q2A Tryz.prog 200=true:=by kernel_rfl
theorem k2Y:q2A Tryz.prog 201=true:=by kernel_rfl
theorem k2Z:q2A Tryz.prog 202=true:=by kernel_rfl
theorem k1p:q2A Tryz.prog 203=true:=by kernel_rfl
theorem k1q:q2A Tryz.prog 204=true:=by kernel_rfl
theorem k3a:q2A Tryz.prog 205=true:=by kernel_rfl
theorem k3b:q2A Tryz.prog 206=true:=by kernel_rfl
theorem k3c:q2A Tryz.prog 207=true:=by kernel_rfl
theorem k3d:q2A Tryz.prog 208=true:=by kernel_rfl
theorem j9S:q2A Tryz.prog 209=true:=by kernel_rfl
theorem k3e:q2A Tryz.prog 215=true:=by kernel_rfl
theorem k1r:q2A Tryz.prog 216=true:=by kernel_rfl
theorem k1s:q2A Tryz.prog 217=true:=by kernel_rfl
theorem k1t:q2A Tryz.prog 218=true:=by kernel_rfl
theorem k1u:q2A Tryz.prog 219=true:=by kernel_rfl
theorem k1v:q2A Tryz.prog 220=true:=by kernel_rfl
theorem k3f:q2A Tryz.prog 221=true:=by kernel_rfl
theorem k3g:q2A Tryz.prog 234=true:=by kernel_rfl
theorem k3h:q2A Tryz.prog 235=true:=by kernel_rfl
theorem j1M:q2A Tryz.prog 236=true:=by kernel_rfl
theorem k3i:q2A Tryz.prog 242=true:=by kernel_rfl
theorem k3j:q2A Tryz.prog 243=true:=by kernel_rfl
theorem k3k:q2A Tryz.prog 244=true:=by kernel_rfl
theorem k3l:q2A Tryz.prog 246=true:=by kernel_rfl
theorem k3m:q2A Tryz.prog 247=true:=by kernel_rfl
theorem k3n:q2A Tryz.prog 248=true:=by kernel_rfl
theorem k3o:q2A Tryz.prog 249=true:=by kernel_rfl
theorem k3p:q2A Tryz.prog 250=true:=by kernel_rfl
theorem k3q:q2A Tryz.prog 251=true:=by kernel_rfl
def q4r (a0 a1 a2:Int):Option Bool:=if a1≤a0 then some (decide (a0≤a2)) else some false
theorem q4t {a0 a1 a2}{r}(hr:q4r a0 a1 a2=some r){F0:Nat→Prop}(ha0:I64 a0)(ha1:I64 a1)(ha2:I64 a2):RB 77 #[.int .i64 a0,.int .i64 a1,.int .i64 a2] w0 r:=by
 have H:=HL.start F0 w0
 refine (En Tryz.func77) ?_
 refine R ((A) (Z (R ((V) ((V) ((B) (jD hr (fun _ hr=>?_) fun _ hr=>?_)))))))
 ·exact (G) ((V) ((G) ((V) ((G) ((B) ((T) ((AZ) (W1 hr))))))))
 exact (O) ((O) ((O) ((U) ((AZ) (W1 hr)))))
def z8r (a0:ByteArray):Nat→Unit→Option (Unit ⊕ Bool):=fun k1 _=>(a0.data[k1]?).bind fun x1=>( if 97≤(x1.toNat:Int) then some (decide ((x1.toNat:Int)≤122)) else some false ).bind fun s1=>( if 48≤(x1.toNat:Int) then some (decide ((x1.toNat:Int)≤57)) else some false ).bind fun s2=>( if s1=true then some false else ( if (k1:Int)=0 then some (true,true) else some (false,!s2) ).bind fun (s4,s5)=>some s5 ).bind fun s3=>if s3=true then some (.inr false) else some (.inl ())
def z6C (a0:ByteArray):Option Bool:=(z1D (z8r a0) 0 (a0.size) ()).bind <| onr (fun r1=>some r1) fun _=>some (decide (0 < (a0.size:Int)))
theorem j2G {a0}{r}(hr:z6C a0=some r){F0:Nat→Prop}(ha0:a0.size≤9223372036854775807):RB 197 #[.string a0] w0 r:=by
 have H:=HL.start F0 w0
 refine (En Tryz.func197) ?_
 refine R ((A) (Z (Y (R ((AZ) ?_)))))
 refine bb hr fun q1 hq1 hr=>?_
 refine (lM hq1 (fun k1 _ _=>[(0,.string a0),(3,zN k1)]) (fun _ _ w=>HL F0 [] w0 w [] []) ()) ?_
 rintro k1 _ _ σ w1 hk1 hq1 H
 refine Y (R ((V) ((V) ?_)))
 refine q0b rfl rfl (q0y rfl Tryz.underlying9 rfl) ((BZ) ?_)
 refine q0d rfl (fun h1=>?_) (fun h1=>?_)
 ·have hk2:=q2L h1
  obtain⟨z1,hb1,hs1,ht1⟩:=z5L hq1 hk2
  refine K (Y ?_)
  refine Bk (R ((V) ((V) ?_)))
  refine bb hb1 fun x1 hx1 hb1=>?_
  refine q0b rfl rfl (q1c rfl Tryz.underlying9 rfl rfl hx1) ((B) ?_)
  refine bb hb1 fun q2 hm1 hb1=>?_
  refine cu H 6 [(0,.string a0),(3,zN k1),(21,.bool q2)] [] [] ?_ fun σ w2 H=>?_
  ·refine jD hm1 (fun _ hm1=>?_) fun _ hm1=>?_
   ·refine (G) ((V) ((G) ((V) ((G) ?_))))
    exact q0b rfl rfl (q1c rfl Tryz.underlying9 rfl rfl hx1) ((G) ((B) ((T) (Z (C1 hm1)))))
   exact OF hm1
  refine (A) (Z (R ((V) ((V) ?_))))
  refine q0b rfl rfl (q1c rfl Tryz.underlying9 rfl rfl hx1) ((B) ?_)
  refine bb hb1 fun q3 hm2 hb1=>?_
  refine cu H 6 [(0,.string a0),(3,zN k1),(4,.bool q2),(31,.bool q3)] [] [] ?_ fun σ w3 H=>?_
  ·refine jD hm2 (fun _ hm2=>?_) fun _ hm2=>?_
   ·refine (G) ((V) ((G) ((V) ((G) ?_))))
    exact q0b rfl rfl (q1c rfl Tryz.underlying9 rfl rfl hx1) ((G) ((B) ((T) (Z (C1 hm2)))))
   exact OF hm2
  refine (A) (Z (R ((V) ((N) ?_))))
  refine bb hb1 fun q4 hm3 hb1=>?_
  refine cu H 8 [(0,.string a0),(3,zN k1),(41,.bool q4)] [] [] ?_ fun σ w5 H=>?_
  ·refine jM hm3 (fun _ hm3=>?_) fun _ hm3=>?_
   ·refine (G) ((V) ((G) ((B) ((G) ?_))))
    refine bb hm3 fun q5 hm4 hm3=>?_
    refine WL.cut 4 (fun ρ' w=>∃ (s4:Bool) (s5:Bool),q5=(s4,s5)∧q4z ρ' [(0,.string a0),(3,zN k1),(34,.bool true),(35,zN k1),(36,.bool (decide ((k1:Int)=0))),(37,.bool s4),(40,.bool s5)]∧HL F0 [] w0 w [] []) ?_ ?_
    ·refine (G) (jD hm4 (fun _ hm4=>?_) fun _ hm4=>?_)
     ·exact (O) ((O) ((G) ((T) (Z (C1 hm4)))))
     exact (G) ((V) ((G) ((N) ((G) ((U) (Z (C1 hm4)))))))
    rintro ρ' w4 ⟨s4,s5,rfl,hag,H⟩
    obtain⟨σ,rfl⟩:=q4g hag
    exact (T) (Z (C1 hm3))
   exact OF hm3
  refine Z (iB hb1 (fun _ hb1=>?_) fun _ hb1=>?_)
  ·exact R ((AZ) (W2 hb1 ht1 hr))
  exact K (X ((V) ((BN (q0x (a:=k1) (b:=1) rfl (z2m hk2 (z7X ha0).2))) ((A) (Z (I2 hb1 hs1 ⟨k1+1,(),()⟩))))))
 obtain rfl:=z3C hq1 (q2E h1)
 have hr:=(q3q _ _ _).symm.trans hr
 refine CE (R ((V) ?_))
 exact q0b rfl rfl (q0y rfl Tryz.underlying9 rfl) ((B) ((AZ) (W1 hr)))
def z2S:Option (List ByteArray):=some [(⟨#[105,102]⟩:ByteArray),(⟨#[116,104,101,110]⟩:ByteArray),(⟨#[101,108,115,101]⟩:ByteArray),(⟨#[116,114,117,101]⟩:ByteArray),(⟨#[102,97,108,115,101]⟩:ByteArray),(⟨#[108,105,116]⟩:ByteArray),(⟨#[110,111,110,101]⟩:ByteArray),(⟨#[115,101,108,102]⟩:ByteArray),(⟨#[111,102]⟩:ByteArray),(⟨#[109,97,120]⟩:ByteArray),(⟨#[109,105,110]⟩:ByteArray),(⟨#[119,105,116,104]⟩:ByteArray),(⟨#[104,97,115]⟩:ByteArray)]
theorem z9C {r:(List ByteArray)}(hr:z2S=some r):RT 215 #[] w0 fun v w=>∃ A0 n0 c0,v=(.slice A0 n0 c0)∧HL F0 [] w0 w [] [.O 9 r (.slice A0 n0 c0)]:=by
 have H:=HL.start F0 w0
 refine (En Tryz.func215) ?_
 refine R ((AZ) (R ?_))
 refine q2h (xs:=[(⟨#[105,102]⟩:ByteArray),(⟨#[116,104,101,110]⟩:ByteArray),(⟨#[101,108,115,101]⟩:ByteArray),(⟨#[116,114,117,101]⟩:ByteArray),(⟨#[102,97,108,115,101]⟩:ByteArray),(⟨#[108,105,116]⟩:ByteArray),(⟨#[110,111,110,101]⟩:ByteArray),(⟨#[115,101,108,102]⟩:ByteArray),(⟨#[111,102]⟩:ByteArray),(⟨#[109,97,120]⟩:ByteArray),(⟨#[109,105,110]⟩:ByteArray),(⟨#[119,105,116,104]⟩:ByteArray),(⟨#[104,97,115]⟩:ByteArray)]) rfl rfl rfl el37 sz9 ze9 rfl (z4Y rfl (z4Y rfl (z4Y rfl (z4Y rfl (z4Y rfl (z4Y rfl (z4Y rfl (z4Y rfl (z4Y rfl (z4Y rfl (z4Y rfl (z4Y rfl (z4Y rfl k0S))))))))))))) rfl rfl rfl (fun _=>(ownL.cons1 (α:=ByteArray) ⟨rfl,rfl,(by decide:(⟨#[105,102]⟩:ByteArray).size≤9223372036854775807)⟩ (ownL.cons1 (α:=ByteArray) ⟨rfl,rfl,(by decide:(⟨#[116,104,101,110]⟩:ByteArray).size≤9223372036854775807)⟩ (ownL.cons1 (α:=ByteArray) ⟨rfl,rfl,(by decide:(⟨#[101,108,115,101]⟩:ByteArray).size≤9223372036854775807)⟩ (ownL.cons1 (α:=ByteArray) ⟨rfl,rfl,(by decide:(⟨#[116,114,117,101]⟩:ByteArray).size≤9223372036854775807)⟩ (ownL.cons1 (α:=ByteArray) ⟨rfl,rfl,(by decide:(⟨#[102,97,108,115,101]⟩:ByteArray).size≤9223372036854775807)⟩ (ownL.cons1 (α:=ByteArray) ⟨rfl,rfl,(by decide:(⟨#[108,105,116]⟩:ByteArray).size≤9223372036854775807)⟩ (ownL.cons1 (α:=ByteArray) ⟨rfl,rfl,(by decide:(⟨#[110,111,110,101]⟩:ByteArray).size≤9223372036854775807)⟩ (ownL.cons1 (α:=ByteArray) ⟨rfl,rfl,(by decide:(⟨#[115,101,108,102]⟩:ByteArray).size≤9223372036854775807)⟩ (ownL.cons1 (α:=ByteArray) ⟨rfl,rfl,(by decide:(⟨#[111,102]⟩:ByteArray).size≤9223372036854775807)⟩ (ownL.cons1 (α:=ByteArray) ⟨rfl,rfl,(by decide:(⟨#[109,97,120]⟩:ByteArray).size≤9223372036854775807)⟩ (ownL.cons1 (α:=ByteArray) ⟨rfl,rfl,(by decide:(⟨#[109,105,110]⟩:ByteArray).size≤9223372036854775807)⟩ (ownL.cons1 (α:=ByteArray) ⟨rfl,rfl,(by decide:(⟨#[119,105,116,104]⟩:ByteArray).size≤9223372036854775807)⟩ (ownL.cons1 (α:=ByteArray) ⟨rfl,rfl,(by decide:(⟨#[104,97,115]⟩:ByteArray).size≤9223372036854775807)⟩ ⟨rfl,rfl⟩)))))))))))))) rfl H fun A1 n1 c1 w1 H=>?_
 exact (AZ) (W1 hr)
def z5Q (a1:ByteArray):Nat→ByteArray→Unit→Option (Unit ⊕ Bool):=fun k1 x1 _=>if x1=a1 then some (.inr true) else some (.inl ())
def z0u (a0:(List ByteArray))(a1:ByteArray):Option Bool:=(q2I (z5Q a1) 0 a0 ()).bind <| onr (fun r1=>some r1) fun _=>some false
theorem z5R {a0}{a1}{r}(hr:z0u a0 a1=some r){z0}(ha0:rdS F0 w0 a0 z0)(ha1:a1.size≤9223372036854775807):RB 125 #[z0,.string a1] w0 r:=by
 obtain⟨A0',n0',c0',rfl⟩:=ha0.form3
 have H:=(HL.start F0 w0).argS ha0
 refine (En Tryz.func125) ?_
 refine R ((A) (Z (Y (R ((AZ) ?_)))))
 refine bb hr fun q1 hq1 hr=>?_
 refine (lF hq1 (fun k1 _ _=>[(0,.slice A0' n0' c0'),(1,.string a1),(5,zN k1)]) (fun _ _ w=>HL F0 [] w0 w [.S a0 (.slice A0' n0' c0')] []) ()) ?_
 rintro k1 _ _ σ w1 hk1 hq1 H
 refine Y (R ((V) ((V) ((NI H 0) fun hl1=>(BZ) ?_))))
 refine (iF hq1 hr (fun hk2 x1 z1 hx1 hb1 hs1 ht1=>?_) fun hr=>?_)
 ·refine K (Y ?_)
  refine Bk (R ((V) ((V) ?_)))
  obtain⟨b1,ob1,cb1,hvb1,hS1,H⟩:=q8q H 0 hx1
  refine (J 1 hvb1 hx1) ((L0 H 1) ((V) ((BZ) (iD hb1 (fun _ hb1=>?_) fun _ hb1=>?_))))
  ·exact R ((AZ) (W2 hb1 ht1 hr))
  exact K (X ((V) ((AN hk2 hl1) ((A) (Z (I2 hb1 hs1 ⟨k1+1,(),()⟩))))))
 exact CE (R ((AZ) (W1 hr)))
def z0v (a0:ByteArray):Option Bool:=(z2S).bind fun y1=>(z0u y1 a0).bind fun y2=>some y2
theorem z9D {a0}{r}(hr:z0v a0=some r){F0:Nat→Prop}(ha0:a0.size≤9223372036854775807):RB 198 #[.string a0] w0 r:=by
 have H:=HL.start F0 w0
 refine (En Tryz.func198) ?_
 refine R ((AZ) (R ?_))
 refine bb hr fun y1 hy1 hr=>?_
 refine (CA k3e (z9C hy1 (F0:=nF))) ?_
 rintro _ w1 hE ⟨A1,n1,c1,rfl,H'⟩
 have H:=H.callA H' tv
 refine (V) ?_
 refine bb hr fun y2 hy2 hr=>?_
 exact (CA j7H (z5R hy2 (ro H 0) ha0)) (cE H fun w2 H=>(AZ) (W1 hr))
def q3v (a0:ByteArray):Option Bool:=(z6C a0).bind fun y1=>( if y1=true then some (decide ((a0.size:Int)≤8)) else some false ).bind fun s1=>( if s1=true then (z0v a0).bind fun y2=>some (!y2) else some false ).bind fun s2=>some s2
theorem q3Z {a0}{r}(hr:q3v a0=some r){F0:Nat→Prop}(ha0:a0.size≤9223372036854775807):RB 170 #[.string a0] w0 r:=by
 have H:=HL.start F0 w0
 refine (En Tryz.func170) ?_
 refine R ((A) (Z (R ((V) ?_))))
 refine bb hr fun y1 hy1 hr=>?_
 refine (CA k2V (j2G hy1 (F0:=nF) ha0)) (cE H fun w1 H=>?_)
 refine bb hr fun q1 hm1 hr=>?_
 refine cu H 5 [(0,.string a0),(2,.bool false),(9,.bool q1)] [] [] ?_ fun σ w2 H=>?_
 ·refine jB hm1 (fun _ hm1=>?_) fun _ hm1=>?_
  ·refine (G) ((V) ((G) ?_))
   exact q0b rfl rfl (q0y rfl Tryz.underlying9 rfl) ((G) ((B) ((T) (Z (C1 hm1)))))
  exact OF hm1
 refine bb hr fun q2 hm2 hr=>?_
 refine cu H 5 [(2,.bool false),(14,.bool q2)] [] [] ?_ fun σ w4 H=>?_
 ·refine jB hm2 (fun _ hm2=>?_) fun _ hm2=>?_
  ·refine (G) ((V) ((G) ?_))
   refine bb hm2 fun y2 hy2 hm2=>?_
   exact (CA k2W (z9D hy2 (F0:=nF) ha0)) (cE H fun w3 H=>(G) ((N) ((T) (Z (C1 hm2)))))
  exact OF hm2
 exact (AZ) (W1 hr)
def q6I (a0:Attribute):Option Bool:=(q3v a0.Name).bind fun y1=>( if y1=true then (q4r a0.Type_ 1 4).bind fun y2=>some (!y2) else some true ).bind fun s1=>( if s1=true then some true else (q4r a0.Mode 1 3).bind fun y3=>some (!y3) ).bind fun s2=>if s2=true then some false else ( if a0.Mode=3 then ( if a0.Type_=2 then some a0.Circular else some true ).bind fun s4=>some s4 else some false ).bind fun s3=>if s3=true then some false else ( if a0.Circular=true then some (decide (a0.Type_=2)) else some true ).bind fun s5=>some s5
theorem z4L {a0}{r}(hr:q6I a0=some r){ca0}(ha0:rd F0 w0 a0 ca0):RB 169 #[ag ca0] w0 r:=by
 let d1:=q3k a0
 have H:=(HL.start F0 w0).argR ha0
 obtain⟨rfl,hS1,hI1,hI2,H⟩:=q5Y H 0
 refine (En Tryz.func169) ?_
 refine R ((BX H) fun b1 w1 H=>(A) (Z (Y (R ((D 0) ((L H 0) ?_))))))
 let d2:List It:=[.B b1 120 d1]
 refine bb hr fun y1 hy1 hr=>?_
 refine (CA z8p (q3Z hy1 (F0:=nF) hS1)) (cE H fun w2 H=>(N) ?_)
 refine bb hr fun q1 hm1 hr=>?_
 refine cu H 6 [(1,pB b1),(12,.bool q1)] [.R a0 d1] d2 ?_ fun σ w4 H=>?_
 ·refine jM hm1 (fun _ hm1=>?_) fun _ hm1=>?_
  ·exact OF hm1
  refine (G) ((D 1) ((G) ((L H 0) ((G) ?_))))
  refine bb hm1 fun y2 hy2 hm1=>?_
  exact (CA ok77 (q4t hy2 (F0:=nF) hI1 dI dI)) (cE H fun w3 H=>(G) ((N) ((U) (Z (C1 hm1)))))
 refine bb hr fun q2 hm2 hr=>?_
 refine cu H 6 [(1,pB b1),(18,.bool q2)] [.R a0 d1] d2 ?_ fun σ w6 H=>?_
 ·refine jB hm2 (fun _ hm2=>?_) fun _ hm2=>?_
  ·exact OF hm2
  refine (G) ((D 2) ((G) ((L H 0) ((G) ?_))))
  refine bb hm2 fun y3 hy3 hm2=>?_
  exact (CA ok77 (q4t hy3 (F0:=nF) hI2 dI dI)) (cE H fun w5 H=>(G) ((N) ((U) (Z (C1 hm2)))))
 refine Z (iB hr (fun _ hr=>?_) fun _ hr=>?_)
 ·exact R ((AZ) (W1 hr))
 refine K (Y (R ((D 2) ((L H 0) ((B) ?_)))))
 refine bb hr fun q3 hm3 hr=>?_
 refine cu H 9 [(1,pB b1),(30,.bool q3)] [.R a0 d1] d2 ?_ fun σ w8 H=>?_
 ·refine jD hm3 (fun _ hm3=>?_) fun _ hm3=>?_
  ·refine (G) ((D 1) ((G) ((L H 0) ((G) ((B) ((G) ?_))))))
   refine bb hm3 fun q4 hm4 hm3=>?_
   refine cu H 4 [(1,pB b1),(22,.bool true),(29,.bool q4)] [.R a0 d1] d2 ?_ fun σ w7 H=>?_
   ·refine (G) (jN hm4 (fun _ hm4=>?_) fun _ hm4=>?_)
    ·exact (O) ((O) ((G) ((T) (Z (C1 hm4)))))
    exact (G) ((D 3) ((G) ((L H 0) ((G) ((U) (Z (C1 hm4)))))))
   exact (T) (Z (C1 hm3))
  exact OF hm3
 refine Z (iB hr (fun _ hr=>?_) fun _ hr=>?_)
 ·exact R ((AZ) (W1 hr))
 refine K (R ((D 3) ((L H 0) ((N) ?_))))
 refine bb hr fun q5 hm5 hr=>?_
 refine cu H 5 [(38,.bool q5)] [.R a0 d1] d2 ?_ fun σ w9 H=>?_
 ·refine jM hm5 (fun _ hm5=>?_) fun _ hm5=>?_
  ·exact OF hm5
  exact (G) ((D 1) ((G) ((L H 0) ((G) ((B) ((U) (Z (C1 hm5))))))))
 exact (AZ) (W1 hr)
def q8E (a0:(List ByteArray)):Nat→ByteArray→Unit→Option (Unit ⊕ Bool):=fun k1 x1 _=>grd (k1≤a0.length) <| (z0u (a0.take k1) x1).bind fun y1=>if y1=true then some (.inr false) else some (.inl ())
def q9F (a0:(List ByteArray)):Option Bool:=(q2I (q8E a0) 0 a0 ()).bind <| onr (fun r1=>some r1) fun _=>some true
theorem z8s {a0}{r}(hr:q9F a0=some r){z0}(ha0:rdS F0 w0 a0 z0):RB 171 #[z0] w0 r:=by
 obtain⟨A0',n0',c0',rfl⟩:=ha0.form3
 have H:=(HL.start F0 w0).argS ha0
 refine (En Tryz.func171) ?_
 refine R ((A) (Z (Y (R ((AZ) ?_)))))
 refine bb hr fun q1 hq1 hr=>?_
 refine (lF hq1 (fun k1 _ _=>[(0,.slice A0' n0' c0'),(3,zN k1)]) (fun _ _ w=>HL F0 [] w0 w [.S a0 (.slice A0' n0' c0')] []) ()) ?_
 rintro k1 _ _ σ w1 hk1 hq1 H
 refine Y (R ((V) ((V) ((NI H 0) fun hl1=>(BZ) ?_))))
 refine (iF hq1 hr (fun hk2 x1 z1 hx1 hb1 hs1 ht1=>?_) fun hr=>?_)
 ·refine K (Y ?_)
  refine Bk (Y ?_)
  refine q0g hmix (by kernel_rfl) ?_
  refine (qV) ((qV) ?_)
  refine gg hb1 fun hg1 hb1=>?_
  obtain⟨A1,n1,c1,e1,hc1,H⟩:=H.slH (i:=0) rfl hg1
  refine q0k rfl rfl (fun _ _=>q0L rfl el37 sz9 rfl rfl rfl hc1 e1) ?_
  refine (qV) ((qV) ?_)
  obtain⟨b1,ob1,cb1,hvb1,hS1,H⟩:=q8q H 0 hx1
  refine (qJ 1 hvb1 hx1) ((qL0 H 2) ?_)
  refine bb hb1 fun y1 hy1 hb1=>?_
  refine (qC j7H (fun _ hq=>z5R hy1 (rs (H.ext hq) 1) hS1)) ?_
  refine QL.nil (fun w2 hE=>?_)
  have H:=H.ext hE
  refine iB hb1 (fun _ hb1=>?_) fun _ hb1=>?_
  ·exact R ((AZ) (W2 hb1 ht1 hr))
  exact K (X ((V) ((AN hk2 hl1) ((A) (Z (I2 hb1 hs1 ⟨k1+1,(),()⟩))))))
 exact CE (R ((AZ) (W1 hr)))
def q7H:Nat→Attribute→(List ByteArray)→Option (((List ByteArray)) ⊕ Bool):=fun k1 x1 s1=>(q6I x1).bind fun y1=>if y1=true then grd (((s1.length:Int)+1)*16≤140737488355328∧(s1.length:Int)+1≤9223372036854775807) <| some (.inl (s1++[x1.Name])) else some (.inr false)
def q8g (a0:Symbol):Option Bool:=(q2I q7H 0 a0.Attributes ([]:List ByteArray)).bind <| onr (fun r1=>some r1) fun s1=>(q3v a0.Name).bind fun y2=>( if y2=true then some (decide ((s1.length:Int)≤4)) else some false ).bind fun s2=>( if s2=true then (q9F s1).bind fun y3=>some y3 else some false ).bind fun s3=>some s3
theorem z6D {a0}{r}(hr:q8g a0=some r){ca0}(ha0:rd F0 w0 a0 ca0):RB 124 #[ag ca0] w0 r:=by
 have H:=(HL.start F0 w0).argR ha0
 obtain⟨A1,n1,c1,rfl,hS1,H⟩:=q6T H 0
 let d2:Pr:=.S a0.Attributes (.slice A1 n1 c1)
 let d1:=q3W a0 A1 n1 c1
 refine (En Tryz.func124) ?_
 refine R ((BX H) fun b1 w1 H=>(AZ) (R ?_))
 refine q0h (α:=ByteArray) rfl rfl rfl el37 sz9 H fun A2 n2 c2 w2 H=>(A) (Z (Y (R ((AZ) ?_))))
 refine bb hr fun q1 hq1 hr=>?_
 refine (lF hq1 (fun k1 s1 v1=>[(1,pB b1),(3,v1),(4,zN k1)]) (fun s1 v1 w=>HL F0 [] w0 w [.R a0 d1,d2] [.B b1 69 d1,.O 9 s1 v1]) (.slice A2 n2 c2)) ?_
 rintro k1 s1 v1 σ w3 hk1 hq1 H
 obtain⟨A3,n3,c3,rfl⟩:=(fo H 1)
 let d3:List It:=[.B b1 69 d1,.O 9 s1 (.slice A3 n3 c3)]
 refine Y (R ((V) ((D 1) ((L H 0) ((NI H 1) fun hl1=>(BZ) ?_)))))
 refine (iF hq1 hr (fun hk2 x1 z1 hx1 hb1 hs1 ht1=>?_) fun hr=>?_)
 ·refine K (Y ?_)
  refine Bk (Y (R ((D 1) ((L H 0) ((V) ?_)))))
  obtain⟨b2,ob2,cb2,hvb2,hS2,hI1,hI2,H⟩:=q4L H 1 hx1
  refine (J 4 hvb2 hx1) ((LA H 2) ?_)
  refine bb hb1 fun y1 hy1 hb1=>?_
  refine (CA k2J (z4L hy1 (F0:=nF) ⟨rfl,hS2,hI1,hI2⟩)) (cE H fun w4 H=>(N) (Z (iM hb1 (fun _ hb1=>?_) fun _ hb1=>?_)))
  ·exact R ((AZ) (W2 hb1 ht1 hr))
  refine K (X ((V) ((D 1) ((L H 0) ((V) ((J 4 hvb2 hx1) ((D 0) ((LC H 2) ?_))))))))
  refine q0n rfl rfl rfl el37 sz9 ze9 rfl rfl rfl rfl rfl rfl fun b3 w5 hE hb hB=>?_
  have H:=H.newB hE hb hB
  refine gg hb1 fun hg1 hb1=>?_
  refine q0q (i:=1) (ys:=[x1.Name]) rfl rfl rfl el37 sz9 by9 ze9 rfl rfl rfl H rfl (fun _=>ownL.single ⟨rfl,rfl,hS2⟩) (.inr ⟨_,_,rfl,At.blk (rb H 2)⟩) hg1 fun A4 n4 c4 w6 H=>(AZ) ?_
  refine q0e [(1,pB b1),(3,.slice A4 n4 c4),(4,zN k1)] ⟨rfl,rfl,rfl,trivial⟩ fun σ=>?_
  have H:HL F0 [] w0 w6 [.R a0 d1,d2,.A b2 (ob2+k1*4) (q3k x1),.R x1 (q3k x1)] [.B b1 69 d1,.O 9 (s1++[x1.Name]) (.slice A4 n4 c4),.B b3 9 [.string x1.Name]]:=H
  exact X ((V) ((AN hk2 hl1) ((A) (Z (I2 hb1 hs1 ⟨k1+1,(s1++[x1.Name]),(.slice A4 n4 c4)⟩)))))
 refine CE (R ((D 0) ((L H 0) ?_)))
 refine bb hr fun y2 hy2 hr=>?_
 refine (CA z8p (q3Z hy2 (F0:=nF) hS1)) (cE H fun w7 H=>?_)
 refine bb hr fun q2 hm1 hr=>?_
 refine cu H 5 [(3,.slice A3 n3 c3),(36,.bool q2)] [.R a0 d1,d2] d3 ?_ fun σ w8 H=>?_
 ·refine jB hm1 (fun _ hm1=>?_) fun _ hm1=>?_
  ·refine (G) ((V) ((G) ?_))
   have hl2:=(H.rO (i:=1) rfl).I
   exact (NN (ro H 1)) ((G) ((B) ((T) (Z (C1 hm1)))))
  exact OF hm1
 refine bb hr fun q3 hm2 hr=>?_
 refine cu H 4 [(40,.bool q3)] [.R a0 d1,d2] d3 ?_ fun σ w10 H=>?_
 ·refine jB hm2 (fun _ hm2=>?_) fun _ hm2=>?_
  ·refine (G) ((V) ((G) ?_))
   refine bb hm2 fun y3 hy3 hm2=>?_
   exact (CA k2K (z8s hy3 (ro H 1))) (cE H fun w9 H=>(T) (Z (C1 hm2)))
  exact OF hm2
 exact (AZ) (W1 hr)
def z0Q (rec_sl4Left:Expr→Int→Option Int)(a0:Expr):(Int × Int)→Option ((Int × Int) ⊕ Int):=fun (s2,s3)=>if s3 < (a0.Args.length:Int) then if 0≤s2 then grd (0≤s3) <| (a0.Args[s3.toNat]?).bind fun x1=>(rec_sl4Left x1 s2).bind fun y1=>grd (I64 (s3+1)) <| some (.inl (y1,(s3+1))) else some (.inr s2) else some (.inr s2)
def z5S (rec_sl4Left:Expr→Int→Option Int)(a0:Expr)(a1:Int):Option Int:=grd (I64 (a1 - 1)) <| ( q5u (z0Q rec_sl4Left a0) ((a1 - 1),0) ).bind fun s1=>some s1
theorem j2H {rec_sl4Left:Expr→Int→Option Int}(ih_sl4Left:∀ {a0:Expr} {a1 r:Int},rec_sl4Left a0 a1=some r→∀ {F0:Nat→Prop} {w0:World} {ca0} (ha0:rd F0 w0 a0 ca0) (ha1:I64 a1),RT 216 #[ag ca0,.int .i64 a1] w0 fun v w=>v = .int .i64 r∧I64 r){a0}{a1 r}(hr:z5S rec_sl4Left a0 a1=some r){ca0}(ha0:rd F0 w0 a0 ca0)(ha1:I64 a1):RT 216 #[ag ca0,.int .i64 a1] w0 fun v w=>v = .int .i64 r∧I64 r:=by
 have H:=(HL.start F0 w0).argR ha0
 obtain⟨A1,n1,c1,rfl,hI1,hI2,hI3,hI4,hS1,hS2,H⟩:=q3X H 0
 let d1:=q2T a0 A1 n1 c1
 let d2:List Pr:=[.R a0 d1,.S a0.Args (.slice A1 n1 c1)]
 refine (En Tryz.func216) ?_
 refine R ((BX H) fun b1 w1 H=>(A) (Z (R ((V) ?_))))
 refine gg hr fun hg1 hr=>(BN (Bin.sub hg1)) ((A) (Z (Y (R ((AZ) ?_)))))
 refine bb hr fun q1 hm1 hr=>?_
 refine q0o (fun ρ' w=>∃ (s1:Int),s1=q1∧q4z ρ' [(1,.int .i64 s1)]∧I64 s1∧HL F0 [] w0 w d2 [.B b1 125 d1]) ?_ ?_
 ·obtain⟨m1,hq1⟩:=q4o.1 hm1
  refine (lI hq1 (fun m1 ⟨s2,s3⟩ _=>[(1,.int .i64 s2),(2,pB b1),(5,.int .i64 s3)]) (fun ⟨s2,s3⟩ _ w=>I64 s2∧I64 s3∧HL F0 [] w0 w d2 [.B b1 125 d1]) ()) ?_
  rintro m1 ⟨s2,s3⟩ _ σ w2 hq1 ⟨hI6,hI7,H⟩
  obtain⟨m2,z1,rfl,hb1,hs1,ht1⟩:=q6H hq1
  refine Y (R ((V) ((D 6) ((L H 0) ((NI H 1) fun hl1=>(B) (jD hb1 (fun _ hb1=>?_) fun _ hb1=>?_))))))
  ·refine (G) ((V) ((G) ((B) ((T) (Z (iD hb1 (fun _ hb1=>?_) fun _ hb1=>?_))))))
   ·refine K (Y ?_)
    refine Bk (X ((D 6) ((L H 0) ((V) ?_))))
    refine gg hb1 fun hg2 hb1=>?_
    refine bb hb1 fun x1 hx1 hb1=>?_
    obtain⟨b2,ob2,cb2,A2,n2,c2,hvb2,hI8,hI9,hI10,hI11,hS3,hS4,H⟩:=q4G H 1 hx1
    refine q0b rfl rfl (q0p rfl z7A q5E rfl hvb2 rfl hg2 (q4X hx1)) ((LA H 2) ((V) ?_))
    refine bb hb1 fun y1 hy1 hb1=>?_
    refine (CA k1r (ih_sl4Left hy1 (q2F.2 ⟨_,rfl,hI8,hI9,hI10,hI11,hS3,hS4,(rs H 4)⟩) hI6)) (cF' H fun w3 hI12 H=>(A) (Z (X ((V) ?_))))
    exact gg hb1 fun hg3 hb1=>(BN (Bin.add hg3)) ((A) (Z (I2 hb1 hs1 ⟨m2,⟨y1,(s3+1)⟩,()⟩)))
   exact CE (C2 hb1 ht1)
  exact (O) ((O) ((U) (Z ((cF) (CE (C2 hb1 ht1))))))
 rintro ρ' w4 ⟨s1,rfl,hag,hI5,H⟩
 obtain⟨σ,rfl⟩:=q4g hag
 exact R ((V) ((AZ) (W1 hr)))
def z0Z:Nat→Expr→Int→Option Int
  | 0,_,_=>none
  | n+1,a0,a1=>z5S (z0Z n) a0 a1
def z8t (a0:Expr)(a1:Int):Option Int:=recO fun n=>z0Z n a0 a1
theorem j2I (n:Nat):∀ {a0:Expr} {a1 r:Int},z0Z n a0 a1=some r→∀ {F0:Nat→Prop} {w0:World} {ca0} (ha0:rd F0 w0 a0 ca0) (ha1:I64 a1),RT 216 #[ag ca0,.int .i64 a1] w0 fun v w=>v = .int .i64 r∧I64 r:=by
 induction n with
 | zero=>intro a0 a1 r hr; exact nomatch (show (none:Option Int)=some r from hr)
 | succ n ih=>intro a0 a1 r hr; exact j2H ih hr
theorem j4G {a0}{a1 r}(hr:z8t a0 a1=some r){ca0}(ha0:rd F0 w0 a0 ca0)(ha1:I64 a1):RT 216 #[ag ca0,.int .i64 a1] w0 fun v w=>v = .int .i64 r∧I64 r:=by
 obtain⟨n,hn⟩:=q5m hr
 exact j2I n hn ha0 ha1
def z0w (a0 a1:Int):Option Int:=if a1 < a0 then some a0 else some a1
theorem z5T {a0 a1 r}(hr:z0w a0 a1=some r){F0:Nat→Prop}(ha0:I64 a0)(ha1:I64 a1):RT 54 #[.int .i64 a0,.int .i64 a1] w0 fun v w=>v = .int .i64 r∧I64 r:=by
 have H:=HL.start F0 w0
 refine (En Tryz.func54) ?_
 refine R ((A) (Z (Y (R ((V) ((V) ((BZ) (iD hr (fun _ hr=>?_) fun _ hr=>?_))))))))
 ·exact R ((V) ((AZ) (W1 hr)))
 exact K (R ((V) ((AZ) (W1 hr))))
def z1a (rec_sDepthOfExpr:Expr→Option Int):Nat→Expr→Int→Option Int:=fun k1 x1 s1=>(rec_sDepthOfExpr x1).bind fun y1=>(z0w s1 y1).bind fun y2=>some y2
def q9G (rec_sDepthOfExpr:Expr→Option Int)(a0:Expr):Option Int:=(q2G (z1a rec_sDepthOfExpr) 0 a0.Args 0).bind fun s1=>grd (I64 (s1+1)) <| some (s1+1)
theorem z7B {rec_sDepthOfExpr:Expr→Option Int}(ih_sDepthOfExpr:∀ {a0:Expr} {r:Int},rec_sDepthOfExpr a0=some r→∀ {F0:Nat→Prop} {w0:World} {ca0} (ha0:rd F0 w0 a0 ca0),RT 217 #[ag ca0] w0 fun v w=>v = .int .i64 r∧I64 r){a0}{r}(hr:q9G rec_sDepthOfExpr a0=some r){ca0}(ha0:rd F0 w0 a0 ca0):RT 217 #[ag ca0] w0 fun v w=>v = .int .i64 r∧I64 r:=by
 have H:=(HL.start F0 w0).argR ha0
 obtain⟨A1,n1,c1,rfl,hI1,hI2,hI3,hI4,hS1,hS2,H⟩:=q3X H 0
 refine (En Tryz.func217) ?_
 refine R ((BX H) fun b1 w1 H=>(A) (Z (R ((A) (Z (Y (R ((AZ) ?_))))))))
 refine bb hr fun q1 hq1 hr=>?_
 refine (lE hq1 (fun k1 s1 _=>[(1,pB b1),(3,.int .i64 s1),(4,zN k1)]) (fun s1 _ w=>I64 s1∧HL F0 [] w0 w [.R a0 (q2T a0 A1 n1 c1),.S a0.Args (.slice A1 n1 c1)] [.B b1 125 (q2T a0 A1 n1 c1)]) ()) ?_
 rintro k1 s1 _ σ w2 hk1 hq1 ⟨hI5,H⟩
 refine Y (R ((V) ((D 6) ((L H 0) ((NI H 1) fun hl1=>(BZ) ?_)))))
 refine (iE hq1 (fun hk2 x1 z1 hx1 hb1 hq1=>?_) fun e=>?_)
 ·refine K (Y ?_)
  refine Bk (X ((V) ((D 6) ((L H 0) ((V) ?_)))))
  obtain⟨b2,ob2,cb2,A2,n2,c2,hvb2,hI6,hI7,hI8,hI9,hS3,hS4,H⟩:=q4G H 1 hx1
  refine (J 7 hvb2 hx1) ((LA H 2) ?_)
  refine bb hb1 fun y1 hy1 hb1=>?_
  refine (CA k1s (ih_sDepthOfExpr hy1 (q2F.2 ⟨_,rfl,hI6,hI7,hI8,hI9,hS3,hS4,(rs H 4)⟩))) (cF' H fun w3 hI10 H=>?_)
  refine bb hb1 fun y2 hy2 hb1=>?_
  exact (CA ok54 (z5T hy2 (F0:=nF) hI5 hI10)) (cF' H fun w4 hI11 H=>(A) (Z (X ((V) ((AN hk2 hl1) ((A) (Z (I1 hb1 ⟨k1+1,y2,()⟩))))))))
 obtain rfl:=e
 refine CE (R ((V) ?_))
 exact gg hr fun hg1 hr=>(BN (Bin.add hg1)) ((AZ) (W1 hr))
def q5C:Nat→Expr→Option Int
  | 0,_=>none
  | n+1,a0=>q9G (q5C n) a0
def z1X (a0:Expr):Option Int:=recO fun n=>q5C n a0
theorem z7C (n:Nat):∀ {a0:Expr} {r:Int},q5C n a0=some r→∀ {F0:Nat→Prop} {w0:World} {ca0} (ha0:rd F0 w0 a0 ca0),RT 217 #[ag ca0] w0 fun v w=>v = .int .i64 r∧I64 r:=by
 induction n with
 | zero=>intro a0 r hr; exact nomatch (show (none:Option Int)=some r from hr)
 | succ n ih=>intro a0 r hr; exact z7B ih hr
theorem z8u {a0}{r}(hr:z1X a0=some r){ca0}(ha0:rd F0 w0 a0 ca0):RT 217 #[ag ca0] w0 fun v w=>v = .int .i64 r∧I64 r:=by
 obtain⟨n,hn⟩:=q5m hr
 exact z7C n hn ha0
def z5U (a0:Expr):Option Bool:=( if a0.Kind=4 then some 2 else if a0.Kind=5 then some 3 else if a0.Kind=8 then some 1 else some 0 ).bind fun s1=>if (a0.Args.length:Int)=s1 then ( if a0.Kind=3 then some true else some (decide (a0.Kind=6)) ).bind fun s2=>( if a0.Kind=3 then some true else some (decide (a0.Kind=8)) ).bind fun s3=>( if a0.Kind=1 then some true else some (decide (a0.Kind=4)) ).bind fun s4=>( if s2=true then some true else some (decide (a0.Pos=0)) ).bind fun s5=>( if s5=true then ( if s3=true then some true else some (decide (a0.Name=(⟨#[]⟩:ByteArray))) ).bind fun s7=>some s7 else some false ).bind fun s6=>( if s6=true then ( if s4=true then some true else some (decide (a0.N=0)) ).bind fun s9=>some s9 else some false ).bind fun s8=>( if s8=true then ( if a0.Kind=1 then some true else some (decide (a0.Type_=0)) ).bind fun s11=>some s11 else some false ).bind fun s10=>( if s10=true then ( if a0.Kind=8 then some true else some (decide (a0.Symbol=(⟨#[]⟩:ByteArray))) ).bind fun s13=>some s13 else some false ).bind fun s12=>some s12 else some false
theorem j4H {a0}{r}(hr:z5U a0=some r){ca0}(ha0:rd F0 w0 a0 ca0):RB 242 #[ag ca0] w0 r:=by
 have H:=(HL.start F0 w0).argR ha0
 obtain⟨A1,n1,c1,rfl,hI1,hI2,hI3,hI4,hS1,hS2,H⟩:=q3X H 0
 let d1:List Pr:=[.R a0 (q2T a0 A1 n1 c1),.S a0.Args (.slice A1 n1 c1)]
 refine (En Tryz.func242) ?_
 refine R ((BX H) fun b1 w1 H=>(A) (Z (R ((A) (Z (Y (R ((D 0) ((L H 0) (Z ?_))))))))))
 let d2:List It:=[.B b1 125 (q2T a0 A1 n1 c1)]
 refine bb hr fun q1 hm1 hr=>?_
 refine q0o (fun ρ' w=>∃ (s1:Int),s1=q1∧q4z ρ' [(1,pB b1),(3,.int .i64 s1)]∧I64 s1∧HL F0 [] w0 w d1 d2) ?_ ?_
 ·refine Bk (R ((B) ((AZ) (iD hm1 (fun _ hm1=>?_) fun _ hm1=>?_))))
  ·exact X ((AZ) (C1 hm1))
  refine R ((B) ((AZ) (iD hm1 (fun _ hm1=>?_) fun _ hm1=>?_)))
  ·exact X ((AZ) (C1 hm1))
  refine R ((B) ((AZ) (iD hm1 (fun _ hm1=>?_) fun _ hm1=>?_)))
  ·exact X ((AZ) (C1 hm1))
  exact K (C1 hm1)
 rintro ρ' w2 ⟨s1,rfl,hag,hI5,H⟩
 obtain⟨σ,rfl⟩:=q4g hag
 refine Y (R ((D 6) ((L H 0) ((NI H 1) fun hl1=>(V) ((BZ) (iN hr (fun _ hr=>?_) fun _ hr=>?_))))))
 ·exact R ((AZ) (W1 hr))
 refine K (R ((D 0) ((L H 0) ((B) ?_))))
 refine bb hr fun q2 hm2 hr=>?_
 refine cu H 5 [(1,pB b1),(27,.bool q2)] d1 d2 ?_ fun σ w3 H=>?_
 ·refine jD hm2 (fun _ hm2=>?_) fun _ hm2=>?_
  ·exact OF hm2
  exact (G) ((D 0) ((G) ((L H 0) ((G) ((B) ((U) (Z (C1 hm2))))))))
 refine (A) (Z (R ((D 0) ((L H 0) ((B) ?_)))))
 refine bb hr fun q3 hm3 hr=>?_
 refine cu H 5 [(1,pB b1),(4,.bool q2),(35,.bool q3)] d1 d2 ?_ fun σ w4 H=>?_
 ·refine jD hm3 (fun _ hm3=>?_) fun _ hm3=>?_
  ·exact OF hm3
  exact (G) ((D 0) ((G) ((L H 0) ((G) ((B) ((U) (Z (C1 hm3))))))))
 refine (A) (Z (R ((D 0) ((L H 0) ((B) ?_)))))
 refine bb hr fun q4 hm4 hr=>?_
 refine cu H 5 [(1,pB b1),(4,.bool q2),(5,.bool q3),(43,.bool q4)] d1 d2 ?_ fun σ w5 H=>?_
 ·refine jD hm4 (fun _ hm4=>?_) fun _ hm4=>?_
  ·exact OF hm4
  exact (G) ((D 0) ((G) ((L H 0) ((G) ((B) ((U) (Z (C1 hm4))))))))
 refine (A) (Z (R ((V) ?_)))
 refine bb hr fun q5 hm5 hr=>?_
 refine cu H 5 [(1,pB b1),(5,.bool q3),(6,.bool q4),(49,.bool q5)] d1 d2 ?_ fun σ w6 H=>?_
 ·refine jB hm5 (fun _ hm5=>?_) fun _ hm5=>?_
  ·exact OF hm5
  exact (G) ((D 2) ((G) ((L H 0) ((G) ((B) ((U) (Z (C1 hm5))))))))
 refine bb hr fun q6 hm6 hr=>?_
 refine cu H 8 [(1,pB b1),(6,.bool q4),(57,.bool q6)] d1 d2 ?_ fun σ w8 H=>?_
 ·refine jB hm6 (fun _ hm6=>?_) fun _ hm6=>?_
  ·refine (G) ((V) ((G) ?_))
   refine bb hm6 fun q7 hm7 hm6=>?_
   refine cu H 5 [(1,pB b1),(6,.bool q4),(50,.bool true),(56,.bool q7)] d1 d2 ?_ fun σ w7 H=>?_
   ·refine (G) (jB hm7 (fun _ hm7=>?_) fun _ hm7=>?_)
    ·exact (O) ((O) ((O) ((G) ((T) (Z (C1 hm7))))))
    exact (G) ((D 5) ((G) ((L H 0) ((G) ((B) ((G) ((U) (Z (C1 hm7)))))))))
   exact (T) (Z (C1 hm6))
  exact OF hm6
 refine bb hr fun q8 hm8 hr=>?_
 refine cu H 8 [(1,pB b1),(65,.bool q8)] d1 d2 ?_ fun σ w10 H=>?_
 ·refine jB hm8 (fun _ hm8=>?_) fun _ hm8=>?_
  ·refine (G) ((V) ((G) ?_))
   refine bb hm8 fun q9 hm9 hm8=>?_
   refine cu H 5 [(1,pB b1),(58,.bool true),(64,.bool q9)] d1 d2 ?_ fun σ w9 H=>?_
   ·refine (G) (jB hm9 (fun _ hm9=>?_) fun _ hm9=>?_)
    ·exact (O) ((O) ((O) ((G) ((T) (Z (C1 hm9))))))
    exact (G) ((D 1) ((G) ((L H 0) ((G) ((B) ((G) ((U) (Z (C1 hm9)))))))))
   exact (T) (Z (C1 hm8))
  exact OF hm8
 refine bb hr fun q10 hm10 hr=>?_
 refine cu H 10 [(1,pB b1),(75,.bool q10)] d1 d2 ?_ fun σ w12 H=>?_
 ·refine jB hm10 (fun _ hm10=>?_) fun _ hm10=>?_
  ·refine (G) ((D 0) ((G) ((L H 0) ((G) ((B) ((G) ?_))))))
   refine bb hm10 fun q11 hm11 hm10=>?_
   refine cu H 5 [(1,pB b1),(66,.bool true),(74,.bool q11)] d1 d2 ?_ fun σ w11 H=>?_
   ·refine (G) (jD hm11 (fun _ hm11=>?_) fun _ hm11=>?_)
    ·exact (O) ((O) ((O) ((G) ((T) (Z (C1 hm11))))))
    exact (G) ((D 3) ((G) ((L H 0) ((G) ((B) ((G) ((U) (Z (C1 hm11)))))))))
   exact (T) (Z (C1 hm10))
  exact OF hm10
 refine bb hr fun q12 hm12 hr=>?_
 refine cu H 10 [(85,.bool q12)] d1 d2 ?_ fun σ w14 H=>?_
 ·refine jB hm12 (fun _ hm12=>?_) fun _ hm12=>?_
  ·refine (G) ((D 0) ((G) ((L H 0) ((G) ((B) ((G) ?_))))))
   refine bb hm12 fun q13 hm13 hm12=>?_
   refine cu H 5 [(76,.bool true),(84,.bool q13)] d1 d2 ?_ fun σ w13 H=>?_
   ·refine (G) (jD hm13 (fun _ hm13=>?_) fun _ hm13=>?_)
    ·exact (O) ((O) ((O) ((G) ((T) (Z (C1 hm13))))))
    exact (G) ((D 4) ((G) ((L H 0) ((G) ((B) ((G) ((U) (Z (C1 hm13)))))))))
   exact (T) (Z (C1 hm12))
  exact OF hm12
 exact (AZ) (W1 hr)
def z7Z (a0 a1:Int):Option Int:=if a0 < a1 then some a0 else some a1
theorem j5T {a0 a1 r}(hr:z7Z a0 a1=some r){F0:Nat→Prop}(ha0:I64 a0)(ha1:I64 a1):RT 251 #[.int .i64 a0,.int .i64 a1] w0 fun v w=>v = .int .i64 r∧I64 r:=by
 have H:=HL.start F0 w0
 refine (En Tryz.func251) ?_
 refine R ((A) (Z (Y (R ((V) ((V) ((BZ) (iD hr (fun _ hr=>?_) fun _ hr=>?_))))))))
 ·exact R ((V) ((AZ) (W1 hr)))
 exact K (R ((V) ((AZ) (W1 hr))))
def z2T (a0:Int):Option Int:=(z7Z 1000000 a0).bind fun y1=>(z0w (-1000000) y1).bind fun y2=>some y2
theorem j1N {a0 r}(hr:z2T a0=some r){F0:Nat→Prop}(ha0:I64 a0):RT 249 #[.int .i64 a0] w0 fun v w=>v = .int .i64 r∧I64 r:=by
 have H:=HL.start F0 w0
 refine (En Tryz.func249) ?_
 refine R ((A) (Z (R ((V) ?_))))
 refine bb hr fun y1 hy1 hr=>?_
 refine (CA k3q (j5T hy1 (F0:=nF) dI ha0)) (cF' H fun w1 hI1 H=>?_)
 refine bb hr fun y2 hy2 hr=>?_
 exact (CA ok54 (z5T hy2 (F0:=nF) (by decide:I64 (-1000000)) hI1)) (cF' H fun w2 hI2 H=>(AZ) (W1 hr))
def z4z (a0:Bool):Option Int:=if a0=true then some 1 else some 0
theorem j2J {a0}{r}(hr:z4z a0=some r){F0:Nat→Prop}:RT 250 #[.bool a0] w0 fun v w=>v = .int .i64 r∧I64 r:=by
 have H:=HL.start F0 w0
 refine (En Tryz.func250) ?_
 refine R ((A) (Z (Y (R ((V) (Z (iB hr (fun _ hr=>?_) fun _ hr=>?_)))))))
 ·exact R ((AZ) (W1 hr))
 exact K (R ((AZ) (W1 hr)))
def z5V (a0 a1:Int):Option Int:=if a1=1 then (z2T a0).bind fun y1=>some y1 else if a1=2 then some (j7t a0 4095) else if a1=3 then (z4z (!(decide (a0=0)))).bind fun y2=>some y2 else if a1=4 then (q4r a0 0 999).bind fun y3=>if y3=true then some a0 else some 0 else some 0
theorem j4I {a0 a1 r}(hr:z5V a0 a1=some r){F0:Nat→Prop}(ha0:I64 a0)(ha1:I64 a1):RT 246 #[.int .i64 a0,.int .i64 a1] w0 fun v w=>v = .int .i64 r∧I64 r:=by
 have H:=HL.start F0 w0
 refine (En Tryz.func246) ?_
 refine R ((A) (Z (Y (R ((V) (Z ?_))))))
 refine Bk (R ((B) ((AZ) (iD hr (fun _ hr=>?_) fun _ hr=>?_))))
 ·refine R ((V) ?_)
  refine bb hr fun y1 hy1 hr=>?_
  exact (CA k3o (j1N hy1 (F0:=nF) ha0)) (cF' H fun w1 hI1 H=>(AZ) (W1 hr))
 refine R ((B) ((AZ) (iD hr (fun _ hr=>?_) fun _ hr=>?_)))
 ·refine R ((V) ((B) ((AZ) (CR ?_))))
  obtain rfl:=sm hr
  exact⟨_,res1 rfl rfl rfl,H.ext0,rfl,(j3L _)⟩
 refine R ((B) ((AZ) (iD hr (fun _ hr=>?_) fun _ hr=>?_)))
 ·refine R ((V) ((B) ?_))
  refine bb hr fun y2 hy2 hr=>?_
  exact (CA k3p (j2J hy2 (F0:=nF))) (cF' H fun w2 hI2 H=>(AZ) (W1 hr))
 refine R ((B) ((AZ) (iD hr (fun _ hr=>?_) fun _ hr=>?_)))
 ·refine R ((V) ?_)
  refine bb hr fun y3 hy3 hr=>?_
  refine (CA ok77 (q4t hy3 (F0:=nF) ha0 dI dI)) (cE H fun w3 H=>Z (iB hr (fun _ hr=>?_) fun _ hr=>?_))
  ·exact R ((V) ((AZ) (W1 hr)))
  exact K (R ((AZ) (W1 hr)))
 exact K (R ((AZ) (W1 hr)))
def z2U (a0 a1:Int):Option Bool:=(q4r a1 1 4).bind fun y1=>if y1=true then (z5V a0 a1).bind fun y2=>some (decide (y2=a0)) else some false
theorem j1O {a0 a1}{r}(hr:z2U a0 a1=some r){F0:Nat→Prop}(ha0:I64 a0)(ha1:I64 a1):RB 243 #[.int .i64 a0,.int .i64 a1] w0 r:=by
 have H:=HL.start F0 w0
 refine (En Tryz.func243) ?_
 refine R ((A) (Z (R ((V) ?_))))
 refine bb hr fun y1 hy1 hr=>?_
 refine (CA ok77 (q4t hy1 (F0:=nF) ha1 dI dI)) (cE H fun w1 H=>jB hr (fun _ hr=>?_) fun _ hr=>?_)
 ·refine (G) ((V) ((G) ((V) ((G) ?_))))
  refine bb hr fun y2 hy2 hr=>?_
  exact (CA k3l (j4I hy2 (F0:=nF) ha0 ha1)) (cF' H fun w2 hI1 H=>(G) ((V) ((G) ((B) ((T) ((AZ) (W1 hr)))))))
 exact (O) ((O) ((O) ((O) ((O) ((U) ((AZ) (W1 hr)))))))
def z5W (a0:Expr):Option Bool:=(q4r a0.Kind 1 8).bind fun y1=>( if y1=true then (z5U a0).bind fun y2=>some (!y2) else some true ).bind fun s1=>if s1=true then some false else if a0.Kind=1 then (q4r a0.Type_ 1 3).bind fun y3=>( if y3=true then (z2U a0.N a0.Type_).bind fun y4=>some y4 else some false ).bind fun s2=>( if s2=true then some (decide (0≤a0.N)) else some false ).bind fun s3=>some s3 else if a0.Kind=3 then (q4r a0.Pos 0 3).bind fun y5=>( if y5=true then (q3v a0.Name).bind fun y6=>some y6 else some false ).bind fun s4=>some s4 else if a0.Kind=6 then (q4r a0.Pos 0 3).bind fun y7=>some y7 else if a0.Kind=4 then (q4r a0.N 1 12).bind fun y8=>some y8 else if a0.Kind=8 then (q3v a0.Symbol).bind fun y9=>( if y9=true then (q3v a0.Name).bind fun y10=>some y10 else some false ).bind fun s5=>some s5 else some true
theorem j4J {a0}{r}(hr:z5W a0=some r){ca0}(ha0:rd F0 w0 a0 ca0):RB 234 #[ag ca0] w0 r:=by
 have H:=(HL.start F0 w0).argR ha0
 obtain⟨A1,n1,c1,rfl,hI1,hI2,hI3,hI4,hS1,hS2,H⟩:=q3X H 0
 let d1:List Pr:=[.R a0 (q2T a0 A1 n1 c1),.S a0.Args (.slice A1 n1 c1)]
 refine (En Tryz.func234) ?_
 refine R ((BX H) fun b1 w1 H=>(A) (Z (Y (R ((D 0) ((L H 0) ?_))))))
 let d2:List It:=[.B b1 125 (q2T a0 A1 n1 c1)]
 refine bb hr fun y1 hy1 hr=>?_
 refine (CA ok77 (q4t hy1 (F0:=nF) hI1 dI dI)) (cE H fun w2 H=>(N) ?_)
 refine bb hr fun q1 hm1 hr=>?_
 refine cu H 5 [(1,pB b1),(11,.bool q1)] d1 d2 ?_ fun σ w4 H=>?_
 ·refine jM hm1 (fun _ hm1=>?_) fun _ hm1=>?_
  ·exact OF hm1
  refine (G) ((LB H 0) ((G) ?_))
  refine bb hm1 fun y2 hy2 hm1=>?_
  exact (CA k3i (j4H hy2 (q2F.2 ⟨_,rfl,hI1,hI2,hI3,hI4,hS1,hS2,(rs H 1)⟩))) (cE H fun w3 H=>(G) ((N) ((U) (Z (C1 hm1)))))
 refine Z (iB hr (fun _ hr=>?_) fun _ hr=>?_)
 ·exact R ((AZ) (W1 hr))
 refine K (Y (R ((D 0) ((L H 0) (Z ?_)))))
 refine Bk (R ((B) ((AZ) (iD hr (fun _ hr=>?_) fun _ hr=>?_))))
 ·refine R ((D 3) ((L H 0) ?_))
  refine bb hr fun y3 hy3 hr=>?_
  refine (CA ok77 (q4t hy3 (F0:=nF) hI4 dI dI)) (cE H fun w5 H=>?_)
  refine bb hr fun q2 hm2 hr=>?_
  refine cu H 7 [(1,pB b1),(25,.bool q2)] d1 d2 ?_ fun σ w7 H=>?_
  ·refine jB hm2 (fun _ hm2=>?_) fun _ hm2=>?_
   ·refine (G) ((D 1) ((G) ((L H 0) ((G) ((D 3) ((G) ((L H 0) ((G) ?_))))))))
    refine bb hm2 fun y4 hy4 hm2=>?_
    exact (CA k3j (j1O hy4 (F0:=nF) hI2 hI4)) (cE H fun w6 H=>(T) (Z (C1 hm2)))
   exact OF hm2
  refine bb hr fun q3 hm3 hr=>?_
  refine cu H 5 [(30,.bool q3)] d1 d2 ?_ fun σ w8 H=>?_
  ·refine jB hm3 (fun _ hm3=>?_) fun _ hm3=>?_
   ·exact (G) ((D 1) ((G) ((L H 0) ((G) ((B) ((T) (Z (C1 hm3))))))))
   exact OF hm3
  exact (AZ) (W1 hr)
 refine R ((B) ((AZ) (iD hr (fun _ hr=>?_) fun _ hr=>?_)))
 ·refine R ((D 2) ((L H 0) ?_))
  refine bb hr fun y5 hy5 hr=>?_
  refine (CA ok77 (q4t hy5 (F0:=nF) hI3 dI dI)) (cE H fun w9 H=>?_)
  refine bb hr fun q4 hm4 hr=>?_
  refine cu H 5 [(40,.bool q4)] d1 d2 ?_ fun σ w11 H=>?_
  ·refine jB hm4 (fun _ hm4=>?_) fun _ hm4=>?_
   ·refine (G) ((D 5) ((G) ((L H 0) ((G) ?_))))
    refine bb hm4 fun y6 hy6 hm4=>?_
    exact (CA z8p (q3Z hy6 (F0:=nF) hS2)) (cE H fun w10 H=>(T) (Z (C1 hm4)))
   exact OF hm4
  exact (AZ) (W1 hr)
 refine R ((B) ((AZ) (iD hr (fun _ hr=>?_) fun _ hr=>?_)))
 ·refine R ((D 2) ((L H 0) ?_))
  refine bb hr fun y7 hy7 hr=>?_
  exact (CA ok77 (q4t hy7 (F0:=nF) hI3 dI dI)) (cE H fun w12 H=>(AZ) (W1 hr))
 refine R ((B) ((AZ) (iD hr (fun _ hr=>?_) fun _ hr=>?_)))
 ·refine R ((D 1) ((L H 0) ?_))
  refine bb hr fun y8 hy8 hr=>?_
  exact (CA ok77 (q4t hy8 (F0:=nF) hI2 dI dI)) (cE H fun w13 H=>(AZ) (W1 hr))
 refine R ((B) ((AZ) (iD hr (fun _ hr=>?_) fun _ hr=>?_)))
 ·refine R ((D 4) ((L H 0) ?_))
  refine bb hr fun y9 hy9 hr=>?_
  refine (CA z8p (q3Z hy9 (F0:=nF) hS1)) (cE H fun w14 H=>?_)
  refine bb hr fun q5 hm5 hr=>?_
  refine cu H 5 [(60,.bool q5)] d1 d2 ?_ fun σ w16 H=>?_
  ·refine jB hm5 (fun _ hm5=>?_) fun _ hm5=>?_
   ·refine (G) ((D 5) ((G) ((L H 0) ((G) ?_))))
    refine bb hm5 fun y10 hy10 hm5=>?_
    exact (CA z8p (q3Z hy10 (F0:=nF) hS2)) (cE H fun w15 H=>(T) (Z (C1 hm5)))
   exact OF hm5
  exact (AZ) (W1 hr)
 exact K (R ((AZ) (W1 hr)))
def j1P (rec_sl4All:Expr→Option Bool):Nat→Expr→Unit→Option (Unit ⊕ Bool):=fun k1 x1 _=>(rec_sl4All x1).bind fun y1=>if y1=true then some (.inl ()) else some (.inr false)
def z8a (rec_sl4All:Expr→Option Bool)(a0:Expr):Option Bool:=(q2I (j1P rec_sl4All) 0 a0.Args ()).bind <| onr (fun r1=>some r1) fun _=>(z5W a0).bind fun y2=>some y2
theorem j4K {rec_sl4All:Expr→Option Bool}(ih_sl4All:∀ {a0:Expr} {r:Bool},rec_sl4All a0=some r→∀ {F0:Nat→Prop} {w0:World} {ca0} (ha0:rd F0 w0 a0 ca0),RB 218 #[ag ca0] w0 r){a0}{r}(hr:z8a rec_sl4All a0=some r){ca0}(ha0:rd F0 w0 a0 ca0):RB 218 #[ag ca0] w0 r:=by
 have H:=(HL.start F0 w0).argR ha0
 obtain⟨A1,n1,c1,rfl,hI1,hI2,hI3,hI4,hS1,hS2,H⟩:=q3X H 0
 refine (En Tryz.func218) ?_
 refine R ((BX H) fun b1 w1 H=>(A) (Z (Y (R ((AZ) ?_)))))
 refine bb hr fun q1 hq1 hr=>?_
 refine (lF hq1 (fun k1 _ _=>[(1,pB b1),(3,zN k1)]) (fun _ _ w=>HL F0 [] w0 w [.R a0 (q2T a0 A1 n1 c1),.S a0.Args (.slice A1 n1 c1)] [.B b1 125 (q2T a0 A1 n1 c1)]) ()) ?_
 rintro k1 _ _ σ w2 hk1 hq1 H
 refine Y (R ((V) ((D 6) ((L H 0) ((NI H 1) fun hl1=>(BZ) ?_)))))
 refine (iF hq1 hr (fun hk2 x1 z1 hx1 hb1 hs1 ht1=>?_) fun hr=>?_)
 ·refine K (Y ?_)
  refine Bk (R ((D 6) ((L H 0) ((V) ?_))))
  obtain⟨b2,ob2,cb2,A2,n2,c2,hvb2,hI5,hI6,hI7,hI8,hS3,hS4,H⟩:=q4G H 1 hx1
  refine (J 7 hvb2 hx1) ((LA H 2) ?_)
  refine bb hb1 fun y1 hy1 hb1=>?_
  refine (CA k1t (ih_sl4All hy1 (q2F.2 ⟨_,rfl,hI5,hI6,hI7,hI8,hS3,hS4,(rs H 4)⟩))) (cE H fun w3 H=>(N) (Z (iM hb1 (fun _ hb1=>?_) fun _ hb1=>?_)))
  ·exact R ((AZ) (W2 hb1 ht1 hr))
  exact K (X ((V) ((AN hk2 hl1) ((A) (Z (I2 hb1 hs1 ⟨k1+1,(),()⟩))))))
 refine CE (R ((LB H 0) ?_))
 refine bb hr fun y2 hy2 hr=>?_
 exact (CA k3g (j4J hy2 (q2F.2 ⟨_,rfl,hI1,hI2,hI3,hI4,hS1,hS2,(rs H 1)⟩))) (cE H fun w4 H=>(AZ) (W1 hr))
def z5X:Nat→Expr→Option Bool
  | 0,_=>none
  | n+1,a0=>z8a (z5X n) a0
def j0E (a0:Expr):Option Bool:=recO fun n=>z5X n a0
theorem j4L (n:Nat):∀ {a0:Expr} {r:Bool},z5X n a0=some r→∀ {F0:Nat→Prop} {w0:World} {ca0} (ha0:rd F0 w0 a0 ca0),RB 218 #[ag ca0] w0 r:=by
 induction n with
 | zero=>intro a0 r hr; exact nomatch (show (none:Option Bool)=some r from hr)
 | succ n ih=>intro a0 r hr; exact j4K ih hr
theorem j5U {a0}{r}(hr:j0E a0=some r){ca0}(ha0:rd F0 w0 a0 ca0):RB 218 #[ag ca0] w0 r:=by
 obtain⟨n,hn⟩:=q5m hr
 exact j4L n hn ha0
def q9H (a0:Expr):Option Bool:=(z8t a0 24).bind fun y1=>( if 0≤y1 then (z1X a0).bind fun y2=>some (decide (y2≤6)) else some false ).bind fun s1=>( if s1=true then (j0E a0).bind fun y3=>some y3 else some false ).bind fun s2=>some s2
theorem z8v {a0}{r}(hr:q9H a0=some r){ca0}(ha0:rd F0 w0 a0 ca0):RB 199 #[ag ca0] w0 r:=by
 have H:=(HL.start F0 w0).argR ha0
 obtain⟨A1,n1,c1,rfl,hI1,hI2,hI3,hI4,hS1,hS2,H⟩:=q3X H 0
 let d1:=q2T a0 A1 n1 c1
 let d2:List Pr:=[.R a0 d1,.S a0.Args (.slice A1 n1 c1)]
 refine (En Tryz.func199) ?_
 refine R ((BX H) fun b1 w1 H=>(A) (Z (R ((LB H 0) ?_))))
 refine bb hr fun y1 hy1 hr=>?_
 refine (CA k1r (j4G hy1 (q2F.2 ⟨_,rfl,hI1,hI2,hI3,hI4,hS1,hS2,(rs H 1)⟩) dI)) (cF' H fun w2 hI5 H=>(B) ?_)
 refine bb hr fun q1 hm1 hr=>?_
 refine cu H 5 [(1,pB b1),(2,.bool false),(10,.bool q1)] d2 [.B b1 125 d1] ?_ fun σ w4 H=>?_
 ·refine jD hm1 (fun _ hm1=>?_) fun _ hm1=>?_
  ·refine (G) ((LB H 0) ((G) ?_))
   refine bb hm1 fun y2 hy2 hm1=>?_
   exact (CA k1s (z8u hy2 (q2F.2 ⟨_,rfl,hI1,hI2,hI3,hI4,hS1,hS2,(rs H 1)⟩))) (cF' H fun w3 hI6 H=>(G) ((B) ((T) (Z (C1 hm1)))))
  exact OF hm1
 refine bb hr fun q2 hm2 hr=>?_
 refine cu H 4 [(2,.bool false),(14,.bool q2)] d2 [.B b1 125 d1] ?_ fun σ w6 H=>?_
 ·refine jB hm2 (fun _ hm2=>?_) fun _ hm2=>?_
  ·refine (G) ((LB H 0) ((G) ?_))
   refine bb hm2 fun y3 hy3 hm2=>?_
   exact (CA k1t (j5U hy3 (q2F.2 ⟨_,rfl,hI1,hI2,hI3,hI4,hS1,hS2,(rs H 1)⟩))) (cE H fun w5 H=>(T) (Z (C1 hm2)))
  exact OF hm2
 exact (AZ) (W1 hr)
def z7m (rec_sl9Within:Expr→Int→Option Bool)(a1:Int):Nat→Expr→Unit→Option (Unit ⊕ Bool):=fun k1 x1 _=>(rec_sl9Within x1 a1).bind fun y1=>if y1=true then some (.inl ()) else some (.inr false)
def z2V (rec_sl9Within:Expr→Int→Option Bool)(a0:Expr)(a1:Int):Option Bool:=(q2I (z7m rec_sl9Within a1) 0 a0.Args ()).bind <| onr (fun r1=>some r1) fun _=>some (decide (a0.Pos≤a1))
theorem j0F {rec_sl9Within:Expr→Int→Option Bool}(ih_sl9Within:∀ {a0:Expr} {a1:Int} {r:Bool},rec_sl9Within a0 a1=some r→∀ {F0:Nat→Prop} {w0:World} {ca0} (ha0:rd F0 w0 a0 ca0) (ha1:I64 a1),RB 200 #[ag ca0,.int .i64 a1] w0 r){a0}{a1}{r}(hr:z2V rec_sl9Within a0 a1=some r){ca0}(ha0:rd F0 w0 a0 ca0)(ha1:I64 a1):RB 200 #[ag ca0,.int .i64 a1] w0 r:=by
 have H:=(HL.start F0 w0).argR ha0
 obtain⟨A1,n1,c1,rfl,hI1,hI2,hI3,hI4,hS1,hS2,H⟩:=q3X H 0
 refine (En Tryz.func200) ?_
 refine R ((BX H) fun b1 w1 H=>(A) (Z (Y (R ((AZ) ?_)))))
 refine bb hr fun q1 hq1 hr=>?_
 refine (lF hq1 (fun k1 _ _=>[(1,.int .i64 a1),(2,pB b1),(5,zN k1)]) (fun _ _ w=>HL F0 [] w0 w [.R a0 (q2T a0 A1 n1 c1),.S a0.Args (.slice A1 n1 c1)] [.B b1 125 (q2T a0 A1 n1 c1)]) ()) ?_
 rintro k1 _ _ σ w2 hk1 hq1 H
 refine Y (R ((V) ((D 6) ((L H 0) ((NI H 1) fun hl1=>(BZ) ?_)))))
 refine (iF hq1 hr (fun hk2 x1 z1 hx1 hb1 hs1 ht1=>?_) fun hr=>?_)
 ·refine K (Y ?_)
  refine Bk (R ((D 6) ((L H 0) ((V) ?_))))
  obtain⟨b2,ob2,cb2,A2,n2,c2,hvb2,hI5,hI6,hI7,hI8,hS3,hS4,H⟩:=q4G H 1 hx1
  refine (J 7 hvb2 hx1) ((LA H 2) ((V) ?_))
  refine bb hb1 fun y1 hy1 hb1=>?_
  refine (CA k1o (ih_sl9Within hy1 (q2F.2 ⟨_,rfl,hI5,hI6,hI7,hI8,hS3,hS4,(rs H 4)⟩) ha1)) (cE H fun w3 H=>(N) (Z (iM hb1 (fun _ hb1=>?_) fun _ hb1=>?_)))
  ·exact R ((AZ) (W2 hb1 ht1 hr))
  exact K (X ((V) ((AN hk2 hl1) ((A) (Z (I2 hb1 hs1 ⟨k1+1,(),()⟩))))))
 exact CE (R ((D 2) ((L H 0) ((V) ((B) ((AZ) (W1 hr)))))))
def z1b:Nat→Expr→Int→Option Bool
  | 0,_,_=>none
  | n+1,a0,a1=>z2V (z1b n) a0 a1
def z5d (a0:Expr)(a1:Int):Option Bool:=recO fun n=>z1b n a0 a1
theorem j0G (n:Nat):∀ {a0:Expr} {a1:Int} {r:Bool},z1b n a0 a1=some r→∀ {F0:Nat→Prop} {w0:World} {ca0} (ha0:rd F0 w0 a0 ca0) (ha1:I64 a1),RB 200 #[ag ca0,.int .i64 a1] w0 r:=by
 induction n with
 | zero=>intro a0 a1 r hr; exact nomatch (show (none:Option Bool)=some r from hr)
 | succ n ih=>intro a0 a1 r hr; exact j0F ih hr
theorem j1Q {a0}{a1}{r}(hr:z5d a0 a1=some r){ca0}(ha0:rd F0 w0 a0 ca0)(ha1:I64 a1):RB 200 #[ag ca0,.int .i64 a1] w0 r:=by
 obtain⟨n,hn⟩:=q5m hr
 exact j0G n hn ha0 ha1
def z2q (a0:Expr)(a1:Int):Option Bool:=(q9H a0).bind fun y1=>if y1=true then (z5d a0 a1).bind fun y2=>some y2 else some false
theorem z6E {a0}{a1}{r}(hr:z2q a0 a1=some r){ca0}(ha0:rd F0 w0 a0 ca0)(ha1:I64 a1):RB 172 #[ag ca0,.int .i64 a1] w0 r:=by
 have H:=(HL.start F0 w0).argR ha0
 obtain⟨A1,n1,c1,rfl,hI1,hI2,hI3,hI4,hS1,hS2,H⟩:=q3X H 0
 refine (En Tryz.func172) ?_
 refine R ((BX H) fun b1 w1 H=>(A) (Z (R ((LB H 0) ?_))))
 refine bb hr fun y1 hy1 hr=>?_
 refine (CA k2X (z8v hy1 (q2F.2 ⟨_,rfl,hI1,hI2,hI3,hI4,hS1,hS2,(rs H 1)⟩))) (cE H fun w2 H=>jB hr (fun _ hr=>?_) fun _ hr=>?_)
 ·refine (G) ((LB H 0) ((G) ((V) ((G) ?_))))
  refine bb hr fun y2 hy2 hr=>?_
  exact (CA k1o (j1Q hy2 (q2F.2 ⟨_,rfl,hI1,hI2,hI3,hI4,hS1,hS2,(rs H 1)⟩) ha1)) (cE H fun w3 H=>(T) ((AZ) (W1 hr)))
 exact (O) ((O) ((O) ((U) ((AZ) (W1 hr)))))
def z3J:Nat→ByteArray→Unit→Option (Unit ⊕ Bool):=fun k1 x1 _=>(q3v x1).bind fun y3=>if y3=true then some (.inl ()) else some (.inr false)
def z3K (a0:Rule):Nat→Equation→Unit→Option (Unit ⊕ Bool):=fun k2 x2 _=>(q3v x2.At.Name).bind fun y4=>( if y4=true then (q4r x2.At.Pos 0 (a0.Right.length:Int)).bind fun y5=>some (!y5) else some true ).bind fun s4=>( if s4=true then some true else (z2q x2.Expr (a0.Right.length:Int)).bind fun y6=>some (!y6) ).bind fun s5=>if s5=true then some (.inr false) else some (.inl ())
def z3L (a0:Rule):Nat→Contribution→Unit→Option (Unit ⊕ Bool):=fun k3 x3 _=>(q3v x3.Symbol).bind fun y7=>( if y7=true then (q3v x3.Name).bind fun y8=>some (!y8) else some true ).bind fun s6=>( if s6=true then some true else (z2q x3.Target (a0.Right.length:Int)).bind fun y9=>some (!y9) ).bind fun s7=>( if s7=true then some true else (z2q x3.Value (a0.Right.length:Int)).bind fun y10=>some (!y10) ).bind fun s8=>if s8=true then some (.inr false) else some (.inl ())
def q9I (a0:Rule):Option Bool:=(q3v a0.Name).bind fun y1=>( if y1=true then (q3v a0.Left).bind fun y2=>some (!y2) else some true ).bind fun s1=>( if s1=true then some true else some (decide (3 < (a0.Right.length:Int))) ).bind fun s2=>( if s2=true then some true else some (decide (2 < (a0.Contributions.length:Int))) ).bind fun s3=>if s3=true then some false else (q2I z3J 0 a0.Right ()).bind <| onr (fun r1=>some r1) fun _=>(q2I (z3K a0) 0 a0.Equations ()).bind <| onr (fun r2=>some r2) fun _=>(q2I (z3L a0) 0 a0.Contributions ()).bind <| onr (fun r3=>some r3) fun _=>some true
theorem z8w {a0}{r}(hr:q9I a0=some r){ca0}(ha0:rd F0 w0 a0 ca0):RB 126 #[ag ca0] w0 r:=by
 have H:=(HL.start F0 w0).argR ha0
 obtain⟨A1,n1,c1,A2,n2,c2,A3,n3,c3,rfl,hS1,hS2,H⟩:=q2U H 0
 let d6:Pr:=.S a0.Right (.slice A1 n1 c1)
 let d5:Pr:=.S a0.Equations (.slice A2 n2 c2)
 let d4:Pr:=.S a0.Contributions (.slice A3 n3 c3)
 let d2:=q3C a0 A1 n1 c1 A2 n2 c2 A3 n3 c3
 let d1:List Pr:=[.R a0 d2,d6,d5,d4]
 refine (En Tryz.func126) ?_
 refine R ((BX H) fun b1 w1 H=>(A) (Z (R ((D 2) ((L H 0) ((NI H 1) fun hl1=>(A) (Z (Y (R ((D 0) ((L H 0) ?_)))))))))))
 let d8:It:=.B b1 65 d2
 refine bb hr fun y1 hy1 hr=>?_
 refine (CA z8p (q3Z hy1 (F0:=nF) hS1)) (cE H fun w2 H=>(N) ?_)
 refine bb hr fun q1 hm1 hr=>?_
 refine cu H 6 [(1,pB b1),(3,zN a0.Right.length),(21,.bool q1)] d1 [d8] ?_ fun σ w4 H=>?_
 ·refine jM hm1 (fun _ hm1=>?_) fun _ hm1=>?_
  ·exact OF hm1
  refine (G) ((D 1) ((G) ((L H 0) ((G) ?_))))
  refine bb hm1 fun y2 hy2 hm1=>?_
  exact (CA z8p (q3Z hy2 (F0:=nF) hS2)) (cE H fun w3 H=>(G) ((N) ((U) (Z (C1 hm1)))))
 refine bb hr fun q2 hm2 hr=>?_
 refine cu H 4 [(1,pB b1),(3,zN a0.Right.length),(25,.bool q2)] d1 [d8] ?_ fun σ w5 H=>?_
 ·refine jB hm2 (fun _ hm2=>?_) fun _ hm2=>?_
  ·exact OF hm2
  exact (G) ((V) ((G) ((B) ((U) (Z (C1 hm2))))))
 refine bb hr fun q3 hm3 hr=>?_
 refine cu H 6 [(1,pB b1),(3,zN a0.Right.length),(31,.bool q3)] d1 [d8] ?_ fun σ w6 H=>?_
 ·refine jB hm3 (fun _ hm3=>?_) fun _ hm3=>?_
  ·exact OF hm3
  exact (G) ((D 5) ((G) ((L H 0) ((G) ((NI H 3) fun hl2=>(G) ((B) ((U) (Z (C1 hm3)))))))))
 refine Z (iB hr (fun _ hr=>?_) fun _ hr=>?_)
 ·exact R ((AZ) (W1 hr))
 refine K (Y (R ((AZ) ?_)))
 refine bb hr fun q4 hq1 hr=>?_
 refine (lF hq1 (fun k1 _ _=>[(1,pB b1),(3,zN a0.Right.length),(4,zN k1)]) (fun _ _ w=>HL F0 [] w0 w d1 [d8]) ()) ?_
 rintro k1 _ _ σ w7 hk1 hq1 H
 refine Y (R ((V) ((V) ((BZ) ?_))))
 refine (iF hq1 hr (fun hk2 x1 z1 hx1 hb1 hs1 ht1=>?_) fun hr=>?_)
 ·refine K (Y ?_)
  refine Bk (R ((D 2) ((L H 0) ((V) ?_))))
  obtain⟨b2,ob2,cb2,hvb2,hS3,H⟩:=q8q H 1 hx1
  refine (J 1 hvb2 hx1) ((L0 H 4) ?_)
  refine bb hb1 fun y3 hy3 hb1=>?_
  refine (CA z8p (q3Z hy3 (F0:=nF) hS3)) (cE H fun w8 H=>(N) (Z (iM hb1 (fun _ hb1=>?_) fun _ hb1=>?_)))
  ·exact R ((AZ) (W2 hb1 ht1 hr))
  exact K (X ((V) ((AN hk2 hl1) ((A) (Z (I2 hb1 hs1 ⟨k1+1,(),()⟩))))))
 refine CE (Y (R ((AZ) ?_)))
 refine bb hr fun q5 hq2 hr=>?_
 refine (lF hq2 (fun k2 _ _=>[(1,pB b1),(3,zN a0.Right.length),(5,zN k2)]) (fun _ _ w=>HL F0 [] w0 w d1 [d8]) ()) ?_
 rintro k2 _ _ σ w9 hk3 hq2 H
 refine Y (R ((V) ((D 4) ((L H 0) ((NI H 2) fun hl3=>(BZ) ?_)))))
 refine (iF hq2 hr (fun hk4 x2 z2 hx2 hb2 hs2 ht2=>?_) fun hr=>?_)
 ·refine K (Y ?_)
  refine Bk (R ((D 4) ((L H 0) ((V) ?_))))
  obtain⟨b3,ob3,cb3,A4,n4,c4,hvb3,hI1,hS4,hI2,hI3,hI4,hI5,hS5,hS6,H⟩:=q4k H 2 hx2
  let d7:=q5R x2 A4 n4 c4
  refine (J 9 hvb3 hx2) ((LA H 4) ((AH z9A H) fun b4 w10 H=>(SB H 1) fun w11 H=>Z (R ((D 0) ((D 1) ((L H 1) ?_))))))
  refine bb hb2 fun y4 hy4 hb2=>?_
  refine (CA z8p (q3Z hy4 (F0:=nF) hS4)) (cE H fun w12 H=>(N) ?_)
  refine bb hb2 fun q6 hm4 hb2=>?_
  refine cu H 8 [(1,pB b1),(3,zN a0.Right.length),(5,zN k2),(6,pB b4),(68,.bool q6)] [.R a0 d2,d6,d5,d4,.A b3 (ob3+k2*9) d7,.R x2 d7,.S x2.Expr.Args (.slice A4 n4 c4)] [d8,.B b4 127 d7] ?_ fun σ w14 H=>?_
  ·refine jM hm4 (fun _ hm4=>?_) fun _ hm4=>?_
   ·exact OF hm4
   refine (G) ((D 0) ((G) ((D 0) ((G) ((L H 1) ((G) ((V) ((G) ?_))))))))
   refine bb hm4 fun y5 hy5 hm4=>?_
   exact (CA ok77 (q4t hy5 (F0:=nF) hI1 dI hl1)) (cE H fun w13 H=>(G) ((N) ((U) (Z (C1 hm4)))))
  refine bb hb2 fun q7 hm5 hb2=>?_
  refine cu H 7 [(1,pB b1),(3,zN a0.Right.length),(5,zN k2),(75,.bool q7)] [.R a0 d2,d6,d5,d4,.A b3 (ob3+k2*9) d7,.R x2 d7,.S x2.Expr.Args (.slice A4 n4 c4)] [d8,.B b4 127 d7] ?_ fun σ w16 H=>?_
  ·refine jB hm5 (fun _ hm5=>?_) fun _ hm5=>?_
   ·exact OF hm5
   refine (G) ((D 2) ((G) ?_))
   refine q0b rfl rfl (q0c rfl q7S q5E rfl (Blk.part (rb H 1) 2 7) rfl) ((G) ((V) ((G) ?_)))
   refine bb hm5 fun y6 hy6 hm5=>?_
   exact (CA j9P (z6E hy6 (q2F.2 ⟨_,rfl,hI2,hI3,hI4,hI5,hS5,hS6,(rs H 6)⟩) hl1)) (cE H fun w15 H=>(G) ((N) ((U) (Z (C1 hm5)))))
  refine Z (iB hb2 (fun _ hb2=>?_) fun _ hb2=>?_)
  ·exact R ((AZ) (W2 hb2 ht2 hr))
  exact K (X ((V) ((AN hk4 hl3) ((A) (Z (I2 hb2 hs2 ⟨k2+1,(),()⟩))))))
 refine CE (Y (R ((AZ) ?_)))
 refine bb hr fun q8 hq3 hr=>?_
 refine (lF hq3 (fun k3 _ _=>[(1,pB b1),(3,zN a0.Right.length),(7,zN k3)]) (fun _ _ w=>HL F0 [] w0 w d1 [d8]) ()) ?_
 rintro k3 _ _ σ w17 hk5 hq3 H
 refine Y (R ((V) ((D 5) ((L H 0) ((NI H 3) fun hl4=>(BZ) ?_)))))
 refine (iF hq3 hr (fun hk6 x3 z3 hx3 hb3 hs3 ht3=>?_) fun hr=>?_)
 ·refine K (Y ?_)
  refine Bk (R ((D 5) ((L H 0) ((V) ?_))))
  obtain⟨b5,ob5,cb5,A5,n5,c5,A6,n6,c6,hvb5,hS7,hS8,hI6,hI7,hI8,hI9,hS9,hS10,hI10,hI11,hI12,hI13,hS11,hS12,H⟩:=q4d H 3 hx3
  let d10:Pr:=.S x3.Value.Args (.slice A6 n6 c6)
  let d9:Pr:=.S x3.Target.Args (.slice A5 n5 c5)
  let d3:=q4K x3 A5 n5 c5 A6 n6 c6
  refine (J 16 hvb5 hx3) ((LA H 4) ((AH j1J H) fun b6 w18 H=>(SB H 1) fun w19 H=>Z (R ((D 0) ((L H 1) ?_)))))
  refine bb hb3 fun y7 hy7 hb3=>?_
  refine (CA z8p (q3Z hy7 (F0:=nF) hS7)) (cE H fun w20 H=>(N) ?_)
  refine bb hb3 fun q9 hm6 hb3=>?_
  refine cu H 6 [(1,pB b1),(3,zN a0.Right.length),(7,zN k3),(8,pB b6),(97,.bool q9)] [.R a0 d2,d6,d5,d4,.A b5 (ob5+k3*16) d3,.R x3 d3,d9,d10] [d8,.B b6 132 d3] ?_ fun σ w22 H=>?_
  ·refine jM hm6 (fun _ hm6=>?_) fun _ hm6=>?_
   ·exact OF hm6
   refine (G) ((D 1) ((G) ((L H 1) ((G) ?_))))
   refine bb hm6 fun y8 hy8 hm6=>?_
   exact (CA z8p (q3Z hy8 (F0:=nF) hS8)) (cE H fun w21 H=>(G) ((N) ((U) (Z (C1 hm6)))))
  refine bb hb3 fun q10 hm7 hb3=>?_
  refine cu H 7 [(1,pB b1),(3,zN a0.Right.length),(7,zN k3),(8,pB b6),(104,.bool q10)] [.R a0 d2,d6,d5,d4,.A b5 (ob5+k3*16) d3,.R x3 d3,d9,d10] [d8,.B b6 132 d3] ?_ fun σ w24 H=>?_
  ·refine jB hm7 (fun _ hm7=>?_) fun _ hm7=>?_
   ·exact OF hm7
   refine (G) ((D 2) ((G) ?_))
   refine q0b rfl rfl (q0c rfl q7S q5E rfl (Blk.part (rb H 1) 2 7) rfl) ((G) ((V) ((G) ?_)))
   refine bb hm7 fun y9 hy9 hm7=>?_
   exact (CA j9P (z6E hy9 (q2F.2 ⟨_,rfl,hI6,hI7,hI8,hI9,hS9,hS10,(rs H 6)⟩) hl1)) (cE H fun w23 H=>(G) ((N) ((U) (Z (C1 hm7)))))
  refine bb hb3 fun q11 hm8 hb3=>?_
  refine cu H 7 [(1,pB b1),(3,zN a0.Right.length),(7,zN k3),(111,.bool q11)] [.R a0 d2,d6,d5,d4,.A b5 (ob5+k3*16) d3,.R x3 d3,d9,d10] [d8,.B b6 132 d3] ?_ fun σ w26 H=>?_
  ·refine jB hm8 (fun _ hm8=>?_) fun _ hm8=>?_
   ·exact OF hm8
   refine (G) ((D 9) ((G) ?_))
   refine q0b rfl rfl (q0c rfl q7S q5E rfl (Blk.part (rb H 1) 9 7) rfl) ((G) ((V) ((G) ?_)))
   refine bb hm8 fun y10 hy10 hm8=>?_
   exact (CA j9P (z6E hy10 (q2F.2 ⟨_,rfl,hI10,hI11,hI12,hI13,hS11,hS12,(rs H 7)⟩) hl1)) (cE H fun w25 H=>(G) ((N) ((U) (Z (C1 hm8)))))
  refine Z (iB hb3 (fun _ hb3=>?_) fun _ hb3=>?_)
  ·exact R ((AZ) (W2 hb3 ht3 hr))
  exact K (X ((V) ((AN hk6 hl4) ((A) (Z (I2 hb3 hs3 ⟨k3+1,(),()⟩))))))
 exact CE (R ((AZ) (W1 hr)))
def z4A:Nat→Symbol→(List ByteArray)→Option (((List ByteArray)) ⊕ Int):=fun k1 x1 s1=>(q8g x1).bind fun y1=>if y1=true then (z0u s1 x1.Name).bind fun y2=>if y2=true then some (.inr (k1:Int)) else grd (((s1.length:Int)+1)*16≤140737488355328∧(s1.length:Int)+1≤9223372036854775807) <| some (.inl (s1++[x1.Name])) else some (.inr (k1:Int))
def z4B:Nat→Rule→(List ByteArray)→Option (((List ByteArray)) ⊕ Int):=fun k2 x2 s2=>(q9I x2).bind fun y3=>if y3=true then (z0u s2 x2.Name).bind fun y4=>if y4=true then some (.inr (k2:Int)) else grd (((s2.length:Int)+1)*16≤140737488355328∧(s2.length:Int)+1≤9223372036854775807) <| some (.inl (s2++[x2.Name])) else some (.inr (k2:Int))
def z5Y (a0:Grammar):Option Int:=(q2I z4A 0 a0.Symbols ([]:List ByteArray)).bind <| onr (fun r1=>some r1) fun s1=>(q2I z4B 0 a0.Rules ([]:List ByteArray)).bind <| onr (fun r2=>some r2) fun s2=>some (-1)
theorem j4M {a0}{r}(hr:z5Y a0=some r){ca0}(ha0:rd F0 w0 a0 ca0):RT 78 #[ag ca0] w0 fun v w=>v = .int .i64 r∧I64 r:=by
 have H:=(HL.start F0 w0).argR ha0
 obtain⟨A1,n1,c1,A2,n2,c2,rfl,H⟩:=q2C H 0
 let d3:Pr:=.S a0.Rules (.slice A2 n2 c2)
 let d2:Pr:=.S a0.Symbols (.slice A1 n1 c1)
 let d1:List Value:=[.slice A1 n1 c1,.slice A2 n2 c2]
 refine (En Tryz.func78) ?_
 refine R ((BX H) fun b1 w1 H=>(AZ) (R ?_))
 let d7:It:=.B b1 31 d1
 refine q0h (α:=ByteArray) rfl rfl rfl el37 sz9 H fun A3 n3 c3 w2 H=>(A) (Z (Y (R ((AZ) ?_))))
 refine bb hr fun q1 hq1 hr=>?_
 refine (lF hq1 (fun k1 s1 v1=>[(1,pB b1),(3,v1),(4,zN k1)]) (fun s1 v1 w=>HL F0 [] w0 w [.R a0 d1,d2,d3] [d7,.O 9 s1 v1]) (.slice A3 n3 c3)) ?_
 rintro k1 s1 v1 σ w3 hk1 hq1 H
 obtain⟨A4,n4,c4,rfl⟩:=(fo H 1)
 let d5:It:=.O 9 s1 (.slice A4 n4 c4)
 refine Y (R ((V) ((D 0) ((L H 0) ((NI H 1) fun hl1=>(BZ) ?_)))))
 refine (iF hq1 hr (fun hk2 x1 z1 hx1 hb1 hs1 ht1=>?_) fun hr=>?_)
 ·refine K (Y ?_)
  refine Bk (Y (R ((D 0) ((L H 0) ((V) ?_)))))
  obtain⟨b2,ob2,cb2,A5,n5,c5,hvb2,hS1,H⟩:=q4B H 1 hx1
  let d6:=q3W x1 A5 n5 c5
  refine (J 2 hvb2 hx1) ((LA H 3) ?_)
  refine bb hb1 fun y1 hy1 hb1=>?_
  refine (CA k2f (z6D hy1 ⟨_,rfl,hS1,(rs H 5)⟩)) (cE H fun w4 H=>(N) (jM hb1 (fun _ hb1=>?_) fun _ hb1=>?_))
  ·exact (O) ((O) ((O) ((O) ((O) ((O) ((O) ((O) ((T) (Z ((cT) (R ((V) ((AZ) (W2 hb1 ht1 hr))))))))))))))
  refine (G) ((V) ((G) ((D 0) ((G) ((L H 0) ((G) ((V) ((G) ((J 2 hvb2 hx1) ((G) ((D 0) ((G) ((LC H 3) ((G) ?_))))))))))))))
  refine bb hb1 fun y2 hy2 hb1=>?_
  refine (CA j7H (z5R hy2 (ro H 1) hS1)) (cE H fun w5 H=>(U) (Z (iB hb1 (fun _ hb1=>?_) fun _ hb1=>?_)))
  ·refine Y ?_
   refine q0e [(4,zN k1)] ⟨rfl,trivial⟩ fun σ=>?_
   have H:HL F0 [] w0 w5 [.R a0 d1,d2,d3,.A b2 (ob2+k1*2) d6,.R x1 d6,.S x1.Attributes (.slice A5 n5 c5)] [d7,d5]:=H
   exact X ((V) ((AZ) (W2 hb1 ht1 hr)))
  refine K ?_
  refine q0e [(1,pB b1),(3,.slice A4 n4 c4),(4,zN k1),(22,.slice A4 n4 c4),(23,.pointer (some ⟨b1,0+0,none⟩)),(24,.slice A1 n1 c1),(25,zN k1),(26,.pointer (some ⟨b2,ob2+k1*2,none⟩)),(27,.pointer (some ⟨b2,ob2+k1*2+0,none⟩)),(28,.string x1.Name),(29,.bool y2)] ⟨rfl,rfl,rfl,rfl,rfl,rfl,rfl,rfl,rfl,rfl,rfl,trivial⟩ fun σ=>?_
  have H:HL F0 [] w0 w5 [.R a0 d1,d2,d3,.A b2 (ob2+k1*2) d6,.R x1 d6,.S x1.Attributes (.slice A5 n5 c5)] [d7,d5]:=H
  refine X ((V) ((D 0) ((L H 0) ((V) ((J 2 hvb2 hx1) ((D 0) ((LC H 3) ?_)))))))
  refine q0n rfl rfl rfl el37 sz9 ze9 rfl rfl rfl rfl rfl rfl fun b3 w6 hE hb hB=>?_
  have H:=H.newB hE hb hB
  refine gg hb1 fun hg1 hb1=>?_
  exact q0q (i:=1) (ys:=[x1.Name]) rfl rfl rfl el37 sz9 by9 ze9 rfl rfl rfl H rfl (fun _=>ownL.single ⟨rfl,rfl,hS1⟩) (.inr ⟨_,_,rfl,At.blk (rb H 2)⟩) hg1 fun A6 n6 c6 w7 H=>(A) (Z (X ((V) ((AN hk2 hl1) ((A) (Z (I2 hb1 hs1 ⟨k1+1,(s1++[x1.Name]),(.slice A6 n6 c6)⟩)))))))
 refine CE (R ?_)
 refine q0h (α:=ByteArray) rfl rfl rfl el37 sz9 H fun A7 n7 c7 w8 H=>(A) (Z (Y (R ((AZ) ?_))))
 refine bb hr fun q2 hq2 hr=>?_
 refine (lF hq2 (fun k2 s2 v2=>[(1,pB b1),(3,v2),(5,zN k2)]) (fun s2 v2 w=>HL F0 [] w0 w [.R a0 d1,d2,d3] [d7,d5,.O 9 s2 v2]) (.slice A7 n7 c7)) ?_
 rintro k2 s2 v2 σ w9 hk3 hq2 H
 obtain⟨A8,n8,c8,rfl⟩:=(fo H 2)
 refine Y (R ((V) ((D 1) ((L H 0) ((NI H 2) fun hl2=>(BZ) ?_)))))
 refine (iF hq2 hr (fun hk4 x2 z2 hx2 hb2 hs2 ht2=>?_) fun hr=>?_)
 ·refine K (Y ?_)
  refine Bk (Y (R ((D 1) ((L H 0) ((V) ?_)))))
  obtain⟨b4,ob4,cb4,A9,n9,c9,A10,n10,c10,A11,n11,c11,hvb4,hS2,hS3,H⟩:=q6k H 2 hx2
  let d8:Pr:=.S x2.Contributions (.slice A11 n11 c11)
  let d4:=q3C x2 A9 n9 c9 A10 n10 c10 A11 n11 c11
  refine (J 6 hvb4 hx2) ((LA H 3) ?_)
  refine bb hb2 fun y3 hy3 hb2=>?_
  refine (CA k2g (z8w hy3 ⟨_,_,_,rfl,hS2,hS3,(rs H 5),(rs H 6),(rs H 7)⟩)) (cE H fun w10 H=>(N) (jM hb2 (fun _ hb2=>?_) fun _ hb2=>?_))
  ·exact (O) ((O) ((O) ((O) ((O) ((O) ((O) ((O) ((T) (Z ((cT) (R ((V) ((AZ) (W2 hb2 ht2 hr))))))))))))))
  refine (G) ((V) ((G) ((D 1) ((G) ((L H 0) ((G) ((V) ((G) ((J 6 hvb4 hx2) ((G) ((D 0) ((G) ((LC H 3) ((G) ?_))))))))))))))
  refine bb hb2 fun y4 hy4 hb2=>?_
  refine (CA j7H (z5R hy4 (ro H 2) hS2)) (cE H fun w11 H=>(U) (Z (iB hb2 (fun _ hb2=>?_) fun _ hb2=>?_)))
  ·refine Y ?_
   refine q0e [(5,zN k2)] ⟨rfl,trivial⟩ fun σ=>?_
   have H:HL F0 [] w0 w11 [.R a0 d1,d2,d3,.A b4 (ob4+k2*6) d4,.R x2 d4,.S x2.Right (.slice A9 n9 c9),.S x2.Equations (.slice A10 n10 c10),d8] [d7,d5,.O 9 s2 (.slice A8 n8 c8)]:=H
   exact X ((V) ((AZ) (W2 hb2 ht2 hr)))
  refine K ?_
  refine q0e [(1,pB b1),(3,.slice A8 n8 c8),(5,zN k2),(57,.slice A8 n8 c8),(58,.pointer (some ⟨b1,0+1,none⟩)),(59,.slice A2 n2 c2),(60,zN k2),(61,.pointer (some ⟨b4,ob4+k2*6,none⟩)),(62,.pointer (some ⟨b4,ob4+k2*6+0,none⟩)),(63,.string x2.Name),(64,.bool y4)] ⟨rfl,rfl,rfl,rfl,rfl,rfl,rfl,rfl,rfl,rfl,rfl,trivial⟩ fun σ=>?_
  have H:HL F0 [] w0 w11 [.R a0 d1,d2,d3,.A b4 (ob4+k2*6) d4,.R x2 d4,.S x2.Right (.slice A9 n9 c9),.S x2.Equations (.slice A10 n10 c10),d8] [d7,d5,.O 9 s2 (.slice A8 n8 c8)]:=H
  refine X ((V) ((D 1) ((L H 0) ((V) ((J 6 hvb4 hx2) ((D 0) ((LC H 3) ?_)))))))
  refine q0n rfl rfl rfl el37 sz9 ze9 rfl rfl rfl rfl rfl rfl fun b5 w12 hE hb hB=>?_
  have H:=H.newB hE hb hB
  refine gg hb2 fun hg2 hb2=>?_
  exact q0q (i:=2) (ys:=[x2.Name]) rfl rfl rfl el37 sz9 by9 ze9 rfl rfl rfl H rfl (fun _=>ownL.single ⟨rfl,rfl,hS2⟩) (.inr ⟨_,_,rfl,At.blk (rb H 3)⟩) hg2 fun A12 n12 c12 w13 H=>(A) (Z (X ((V) ((AN hk4 hl2) ((A) (Z (I2 hb2 hs2 ⟨k2+1,(s2++[x2.Name]),(.slice A12 n12 c12)⟩)))))))
 exact CE (R ((AZ) (W1 hr)))
def q5g (a0:Rule)(a1:Int):Option ByteArray:=if a1=0 then some a0.Left else (q4r a1 1 (a0.Right.length:Int)).bind fun y1=>if y1=true then grd (I64 (a1 - 1)) <| grd (0≤(a1 - 1)) <| (a0.Right[(a1 - 1).toNat]?).bind fun x1=>some x1 else some (⟨#[]⟩:ByteArray)
theorem q4U {a0}{a1}{r}(hr:q5g a0 a1=some r){ca0}(ha0:rd F0 w0 a0 ca0)(ha1:I64 a1):RT 82 #[ag ca0,.int .i64 a1] w0 fun v w=>v = .string r∧r.size≤9223372036854775807:=by
 have H:=(HL.start F0 w0).argR ha0
 obtain⟨A1,n1,c1,A2,n2,c2,A3,n3,c3,rfl,hS1,hS2,H⟩:=q2U H 0
 refine (En Tryz.func82) ?_
 refine R ((BX H) fun b1 w1 H=>(A) (Z (Y (R ((V) ((BZ) (iD hr (fun _ hr=>?_) fun _ hr=>?_)))))))
 ·exact R ((D 1) ((L H 0) ((AZ) (W1 hr))))
 refine K (Y (R ((V) ((D 2) ((L H 0) ((NI H 1) fun hl1=>?_))))))
 refine bb hr fun y1 hy1 hr=>?_
 refine (CA ok77 (q4t hy1 (F0:=nF) ha1 dI hl1)) (cE H fun w2 H=>(N) (Z (iM hr (fun _ hr=>?_) fun _ hr=>?_)))
 ·exact R ((AZ) (W1 hr))
 refine K (R ((D 2) ((L H 0) ((V) ?_))))
 refine gg hr fun hg1 hr=>(BN (Bin.sub hg1)) ?_
 refine gg hr fun hg2 hr=>?_
 refine bb hr fun x1 hx1 hr=>?_
 obtain⟨b2,ob2,cb2,hvb2,hS3,H⟩:=q8q H 1 hx1
 exact q0b rfl rfl (q0p rfl el37 sz9 rfl hvb2 rfl hg2 (q4X hx1)) ((L0 H 4) ((AZ) (W1 hr)))
def q8x (a0:Symbol):Option Symbol:=grd (((([]:List Attribute).length:Int)+(a0.Attributes.length:Int))*40≤140737488355328∧(([]:List Attribute).length:Int)+(a0.Attributes.length:Int)≤9223372036854775807) <| some a0
theorem j0H {a0 r}(hr:q8x a0=some r){ca0}(ha0:rd F0 w0 a0 ca0):RT 133 #[ag ca0] w0 fun v w=>∃ A0 n0 c0,v = .agg #[.string r.Name,(.slice A0 n0 c0)]∧r.Name.size≤9223372036854775807∧HL F0 [] w0 w [] [.O 120 r.Attributes (.slice A0 n0 c0)]:=by
 have H:=(HL.start F0 w0).argR ha0
 obtain⟨A1,n1,c1,rfl,hS1,H⟩:=q6T H 0
 let d1:=q3W a0 A1 n1 c1
 let d2:List Pr:=[.R a0 d1,.S a0.Attributes (.slice A1 n1 c1)]
 refine (En Tryz.func133) ?_
 refine R ((BX H) fun b1 w1 H=>(AH ze69 H) fun b2 w2 H=>Z (Y ?_))
 refine q0A (fun w=>∃ v1_0_:Value,∃ v1_1_:Value,HL F0 [] w0 w d2 [.B b1 69 d1,.B b2 69 [v1_0_,v1_1_]]) hmix (fun w3 hE=>?_)
 have H:HL F0 [] w0 w3 d2 [.B b1 69 d1,.B b2 69 [.string eB,.slice none 0 0]]:=H.ext hE
 refine HW.take 0 ⟨_,_,H.keep 2 2⟩ rfl (by kernel_rfl) rfl rfl (fun _ _=>q0v rfl j9i rfl) ?_
 refine HW.take 1 ⟨_,_,H.keep 2 2⟩ rfl (by kernel_rfl) rfl rfl (fun _ ⟨_,_,hq⟩=>q0l rfl ag9 rfl ((hq.rB (i:=0) rfl).cell rfl)) ?_
 refine HW.take 3 ⟨_,_,H.keep 2 2⟩ rfl (by kernel_rfl) rfl rfl (fun _ _=>q0v rfl k0Z rfl) ?_
 refine HW.take 4 ⟨_,_,H.keep 2 2⟩ rfl (by kernel_rfl) rfl rfl (fun _ ⟨_,_,hq⟩=>q0l rfl ag67 rfl ((hq.rB (i:=0) rfl).cell rfl)) ?_
 refine q0f 2 rfl (by kernel_rfl) ?_
 refine q0h (α:=Attribute) rfl rfl rfl el67 q9m H fun A2 n2 c2 w4 H=>?_
 refine q0a ⟨_,_,H.keep 2 2⟩ ?_
 refine q0f 5 rfl (by kernel_rfl) ?_
 refine gg hr fun hg1 hr=>?_
 refine q0K (i:=2) rfl rfl rfl el67 q9m j4D q7T rfl rfl rfl H rfl (rs H 1) hg1 fun A3 n3 c3 w5 H=>?_
 refine q0a ⟨_,_,H.keep 2 2⟩ ?_
 refine HW.take 6 ⟨_,_,H.keep 2 2⟩ rfl (by kernel_rfl) rfl rfl (fun _ _=>Ev.build rfl pl69 ze69 rfl rfl rfl rfl) ?_
 refine q0f 7 rfl (by kernel_rfl) ((SB H 1) fun w6 H=>?_)
 refine q0a ⟨_,_,H.keep 2 2⟩ ?_
 refine q0i (by kernel_rfl) (CR ?_)
 obtain rfl:=sm hr
 exact⟨_,resC rfl ag69 sz69 rfl rfl (ab H 1) rfl,H.ext0,_,_,_,rfl,hS1,H.outM (fr':=[]) [false,false,true] tw⟩
def q7Y (a1:ByteArray):Nat→Symbol→Unit→Option (Unit ⊕ (Symbol × Bool)):=fun k1 x1 _=>if x1.Name=a1 then (q8x x1).bind fun y1=>some (.inr (y1,true)) else some (.inl ())
def q4M (a0:Grammar)(a1:ByteArray):Option (Symbol × Bool):=(q2I (q7Y a1) 0 a0.Symbols ()).bind <| onr (fun r1=>some r1) fun _=>some ((⟨(⟨#[]⟩:ByteArray),[]⟩:Symbol),false)
theorem q7c {a0}{a1}{r}(hr:q4M a0 a1=some r){ca0}(ha0:rd F0 w0 a0 ca0)(ha1:a1.size≤9223372036854775807):RT 83 #[ag ca0,.string a1] w0 fun v w=>∃ A0 n0 c0,v = .tuple #[.agg #[.string r.1.Name,(.slice A0 n0 c0)],.bool r.2]∧r.1.Name.size≤9223372036854775807∧HL F0 [] w0 w [] [.O 120 r.1.Attributes (.slice A0 n0 c0)]:=by
 have H:=(HL.start F0 w0).argR ha0
 obtain⟨A1,n1,c1,A2,n2,c2,rfl,H⟩:=q2C H 0
 refine (En Tryz.func83) ?_
 refine R ((BX H) fun b1 w1 H=>(AH ze69 H) fun b2 w2 H=>(A) (Z (Y (R ((AZ) ?_)))))
 refine bb hr fun q1 hq1 hr=>?_
 refine (lF hq1 (fun k1 _ _=>[(1,.string a1),(2,pB b1),(4,pB b2),(6,zN k1)]) (fun _ _ w=>HL F0 [] w0 w [.R a0 [.slice A1 n1 c1,.slice A2 n2 c2],.S a0.Symbols (.slice A1 n1 c1),.S a0.Rules (.slice A2 n2 c2)] [.B b1 31 [.slice A1 n1 c1,.slice A2 n2 c2],.B b2 69 [.string eB,.slice none 0 0]]) ()) ?_
 rintro k1 _ _ σ w3 hk1 hq1 H
 refine Y (R ((V) ((D 0) ((L H 0) ((NI H 1) fun hl1=>(BZ) ?_)))))
 refine (iF hq1 hr (fun hk2 x1 z1 hx1 hb1 hs1 ht1=>?_) fun hr=>?_)
 ·refine K (Y ?_)
  refine Bk (R ((D 0) ((L H 0) ((V) ?_))))
  obtain⟨b3,ob3,cb3,A3,n3,c3,hvb3,hS1,H⟩:=q4B H 1 hx1
  refine (J 2 hvb3 hx1) ((D 0) ((LC H 3) ((V) ((BZ) (iD hb1 (fun _ hb1=>?_) fun _ hb1=>?_)))))
  ·refine R ((D 0) ((L H 0) ((V) ((J 2 hvb3 hx1) ((LA H 3) ?_)))))
   refine bb hb1 fun y1 hy1 hb1=>?_
   refine (CA k2n (j0H hy1 ⟨_,rfl,hS1,(rs H 5)⟩)) ?_
   rintro _ w4 hE ⟨A4,n4,c4,rfl,hS2,H'⟩
   have H:=H.callA H' tv
   refine (SB H 1) fun w5 H=>(AZ) (CR ?_)
   obtain rfl:=sm hb1
   obtain rfl:=ht1 _ rfl
   obtain rfl:=sm hr
   exact⟨_,z5J rfl ag69 sz69 rfl rfl rfl rfl (ab H 1) rfl,H.ext0,_,_,_,rfl,hS2,H.outM (fr':=[]) [false,false,true] tw⟩
  exact K (X ((V) ((AN hk2 hl1) ((A) (Z (I2 hb1 hs1 ⟨k1+1,(),()⟩))))))
 refine CE (R ?_)
 refine q0b rfl rfl (Ev.build rfl pl69 ze69 rfl rfl rfl rfl) ((SB H 1) fun w6 H=>(AZ) (CR ?_))
 have H:=H.nil (α:=Attribute) 120
 obtain rfl:=sm hr
 exact⟨_,z5J rfl ag69 sz69 rfl rfl rfl rfl (ab H 1) rfl,H.ext0,_,_,_,rfl,dI,H.outM (fr':=[]) [false,false,true] tw⟩
def q7Z (a0:Grammar)(a1:Rule):Int→Option (Int ⊕ (Unit ⊕ Bool)):=fun s1=>if s1≤(a1.Right.length:Int) then (q5g a1 s1).bind fun y1=>(q4M a0 y1).bind fun (y2,y3)=>if y3=true then grd (I64 (s1+1)) <| some (.inl (s1+1)) else some (.inr (.inr false)) else some (.inr (.inl ()))
def z0x (a0:Grammar)(a1:Rule):Option Bool:=( q5u (q7Z a0 a1) 0 ).bind <| onr (fun r1=>some r1) fun ()=>some true
theorem z9E {a0}{a1}{r}(hr:z0x a0 a1=some r){ca0}(ha0:rd F0 w0 a0 ca0){ca1}(ha1:rd F0 w0 a1 ca1):RB 127 #[ag ca0,ag ca1] w0 r:=by
 have H:=((HL.start F0 w0).argR ha0).argR ha1
 obtain⟨A1,n1,c1,A2,n2,c2,rfl,H⟩:=q2C H 0
 obtain⟨A3,n3,c3,A4,n4,c4,A5,n5,c5,rfl,hS1,hS2,H⟩:=q2U H 1
 let d3:=q3C a1 A3 n3 c3 A4 n4 c4 A5 n5 c5
 let d1:List Pr:=[.R a0 [.slice A1 n1 c1,.slice A2 n2 c2],.R a1 d3,.S a0.Symbols (.slice A1 n1 c1),.S a0.Rules (.slice A2 n2 c2),.S a1.Right (.slice A3 n3 c3),.S a1.Equations (.slice A4 n4 c4),.S a1.Contributions (.slice A5 n5 c5)]
 refine (En Tryz.func127) ?_
 refine R ((BX H) fun b1 w1 H=>(BX H) fun b2 w2 H=>(A) (Z (Y (R ((AZ) ?_)))))
 let d2:List It:=[.B b1 31 [.slice A1 n1 c1,.slice A2 n2 c2],.B b2 65 d3]
 refine bb hr fun q1 hm1 hr=>?_
 refine q0o (fun ρ' w=>q1 = .inl ()∧q4z ρ' []∧HL F0 [] w0 w d1 d2) ?_ ?_
 ·obtain⟨m1,hq1⟩:=q4o.1 hm1
  refine (lI hq1 (fun m1 s1 _=>[(2,pB b1),(3,pB b2),(5,.int .i64 s1)]) (fun s1 _ w=>I64 s1∧HL F0 [] w0 w d1 d2) ()) ?_
  rintro m1 s1 _ σ w3 hq1 ⟨hI1,H⟩
  obtain⟨m2,z1,rfl,hb1,hs1,ht1⟩:=q6H hq1
  refine Y (R ((V) ((D 2) ((L H 1) ((NI H 4) fun hl1=>(BZ) (iD hb1 (fun h1 hb1=>?_) fun _ hb1=>?_))))))
  ·refine K ?_
   refine bb hb1 fun y1 hy1 hb1=>?_
   obtain⟨_,_,_,hS3⟩:=(q4U hy1 ⟨_,_,_,rfl,hS1,hS2,(rs H 4),(rs H 5),(rs H 6)⟩ hI1).get
   obtain⟨⟨y2,y3⟩,hy2,hb1⟩:=bd hb1
   refine Y ?_
   refine Bk (Y ?_)
   refine q0H 10 (fun ρ=>[.fix (.agg #[.slice A1 n1 c1,.slice A2 n2 c2]),.fix (.agg #[.string a1.Name,.string a1.Left,.slice A3 n3 c3,.bool a1.Literal,.slice A4 n4 c4,.slice A5 n5 c5]),.fix (.int .i64 s1),.fix (.string y1),.free (fun S v w=>∃ A6:Option Addr,∃ n6:Nat,∃ c6:Nat,v = .tuple #[.agg #[.string y2.Name,.slice A6 n6 c6],.bool y3]∧y2.Name.size≤9223372036854775807∧NewI S w [.O 120 y2.Attributes (.slice A6 n6 c6)]),.dep 20 id,.dep 15 (z2R 0),.dep 15 (z2R 1),.free (VarB 69 2),.wr 6 21 (WrB 69)]) [[],[],[],[],[],[20],[15],[15],[],[6,21]] NoM (fun _ _=>True) [] [none,none,none,none,none,none,none,none,none,some 8] (noM _) hmix (by kernel_rfl) rfl ⟨trivial,trivial,trivial,trivial,fun _ _ _ _ _ ⟨A6,n6,c6,hv,h0,hh⟩ hc hS hT=>⟨A6,n6,c6,hv,h0,hh.chgT hc hS⟩,trivial,trivial,trivial,fun _ _ _ _ _ h hc hS _=>h.chgT hc hS,fun _ _ _ _ _ _ h hc hS _=>h.chgT hc hS,trivial⟩ trivial (fun _ _ _ _ _ _ _=>trivial) ?_
   refine q0m rfl rfl rfl rfl rfl (fun _ hq hK=>q0c rfl ag31 sz31 rfl (At.blk ((H.ext hq).rB (i:=0) rfl)) rfl) ?_
   refine q0m rfl rfl rfl rfl rfl (fun _ hq hK=>q0c rfl ag65 sz65 rfl (At.blk ((H.ext hq).rB (i:=1) rfl)) rfl) ?_
   refine q0m rfl rfl rfl rfl rfl (fun _ hq hK=>q0r rfl rfl) ?_
   refine q0G rfl rfl rfl rfl (fun _ hq hK=>OpX.call rfl rfl rfl rfl ok82 rfl (q4U hy1 ⟨_,_,_,rfl,hS1,hS2,(rs (H.ext hq) 4),(rs (H.ext hq) 5),(rs (H.ext hq) 6)⟩ hI1) fun _ _ hE h=>⟨hE,h.1⟩) ?_
   refine LL2.free rfl rfl rfl rfl (fun wq hq hK=>?_) (fun v_G1_4 S_G1_4=>?_)
   ·refine OpX.call rfl rfl rfl rfl ok83 rfl (q7c hy2 ⟨_,_,rfl,(rs (H.ext hq) 2),(rs (H.ext hq) 3)⟩ hS3) ?_
    rintro _ w hE ⟨A6,n6,c6,rfl,h0,hh⟩
    exact⟨hE,A6,n6,c6,rfl,h0,NewI.of hh tv⟩
   refine q0V rfl rfl rfl rfl rfl (.inl rfl) rfl ?_
   refine q0C rfl rfl rfl rfl rfl rfl rfl (fun wq hq hK=>?_) ?_
   ·have hK:∀ j' (_:(q2K _).contains j'=true),_:=hK 5 rfl
    obtain⟨A6,n6,c6,rfl,_,_⟩:=hK 4 rfl
    exact⟨_,_,rfl,rfl⟩
   refine q0C rfl rfl rfl rfl rfl rfl rfl (fun wq hq hK=>?_) ?_
   ·have hK:∀ j' (_:(q2K _).contains j'=true),_:=hK 5 rfl
    obtain⟨A6,n6,c6,rfl,_,_⟩:=hK 4 rfl
    exact⟨_,_,rfl,rfl⟩
   refine LL2.free rfl rfl rfl rfl (fun wq hq hK=>q0z rfl rfl ze69 rfl) (fun v_G1_8 S_G1_8=>?_)
   refine LL2.st (k:=2) rfl rfl rfl (by decide) rfl rfl rfl rfl sz69 rfl rfl (fun wq hq hK=>hK 8 rfl) (fun wq hq hK=>?_) ?_
   ·obtain⟨A6,n6,c6,rfl,_,_⟩:=hK 4 rfl
    exact⟨_,rfl,rfl,(all1 rfl (all1 rfl all0))⟩
   intro w4 hE _ hK hap hbd
   have hE:=z0W hE
   obtain⟨A6,n6,c6,rfl,hS4,hN1⟩:=hK 4 (by decide)
   obtain⟨b3,rfl,hN2⟩:=j1x (cells:=(q3W y2 A6 n6 c6)) (hK 8 (by decide)) (hK 9 (by decide)) rfl
   have H:=H.add hE (hN1.app hN2 fun q h1 h2=>absurd (hap 4 8 q h1 h2) (by decide)) ⟨fun _ _ _ _ _ h=>h,tv⟩ (fun q hq=>hq.elim (fun h=>(hbd 4 q h).1) fun h=>(hbd 8 q h).1)
   refine (A) (Z (R ((V) ((N) (Z (iM hb1 (fun _ hb1=>?_) fun _ hb1=>?_))))))
   ·exact R ((AZ) (W2 hb1 ht1 hr))
   refine K (X ((V) ?_))
   exact gg hb1 fun hg1 hb1=>(BN (Bin.add hg1)) ((A) (Z (I2 hb1 hs1 ⟨m2,(s1+1),()⟩)))
  exact CE (C2 hb1 ht1)
 rintro ρ' w5 ⟨rfl,hag,H⟩
 obtain⟨σ,rfl⟩:=q4g hag
 exact R ((AZ) (W1 hr))
def q6J (s3:Int):Nat→Attribute→(List Occurrence)→Option (List Occurrence):=fun k1 x1 s5=>( if x1.Mode=2 then grd (((s5.length:Int)+1)*24≤140737488355328∧(s5.length:Int)+1≤9223372036854775807) <| some (s5++[(⟨s3,x1.Name⟩:Occurrence)]) else some s5 ).bind fun s6=>some s6
def q6K (s3:Int):Nat→Attribute→(List Occurrence)→Option (List Occurrence):=fun k2 x2 s7=>( if x2.Mode=1 then grd (((s7.length:Int)+1)*24≤140737488355328∧(s7.length:Int)+1≤9223372036854775807) <| some (s7++[(⟨s3,x2.Name⟩:Occurrence)]) else some s7 ).bind fun s8=>some s8
def q4N (a0:Grammar)(a1:Rule):((List Occurrence) × Int)→Option (((List Occurrence) × Int) ⊕ (List Occurrence)):=fun (s2,s3)=>if s3≤(a1.Right.length:Int) then ( (q5g a1 s3).bind fun y1=>(q4M a0 y1).bind fun (y2,y3)=>if s3=0 then (q2G (q6J s3) 0 y2.Attributes s2).bind fun s5=>some s5 else (q2G (q6K s3) 0 y2.Attributes s2).bind fun s7=>some s7 ).bind fun s4=>grd (I64 (s3+1)) <| some (.inl (s4,(s3+1))) else some (.inr s2)
def q4Y (a0:Grammar)(a1:Rule):Option (List Occurrence):=( q5u (q4N a0 a1) (([]:List Occurrence),0) ).bind fun s1=>some s1
theorem q8F {a0}{a1}{r}(hr:q4Y a0 a1=some r){ca0}(ha0:rd F0 w0 a0 ca0){ca1}(ha1:rd F0 w0 a1 ca1):RT 173 #[ag ca0,ag ca1] w0 fun v w=>∃ A0 n0 c0,v=(.slice A0 n0 c0)∧HL F0 [] w0 w [] [.O 122 r (.slice A0 n0 c0)]:=by
 have H:=((HL.start F0 w0).argR ha0).argR ha1
 obtain⟨A1,n1,c1,A2,n2,c2,rfl,H⟩:=q2C H 0
 obtain⟨A3,n3,c3,A4,n4,c4,A5,n5,c5,rfl,hS1,hS2,H⟩:=q2U H 1
 let d5:=q3C a1 A3 n3 c3 A4 n4 c4 A5 n5 c5
 let d1:List Pr:=[.R a0 [.slice A1 n1 c1,.slice A2 n2 c2],.R a1 d5,.S a0.Symbols (.slice A1 n1 c1),.S a0.Rules (.slice A2 n2 c2),.S a1.Right (.slice A3 n3 c3),.S a1.Equations (.slice A4 n4 c4),.S a1.Contributions (.slice A5 n5 c5)]
 refine (En Tryz.func173) ?_
 refine R ((BX H) fun b1 w1 H=>(BX H) fun b2 w2 H=>(AZ) (R ?_))
 let d3:It:=.B b1 31 [.slice A1 n1 c1,.slice A2 n2 c2]
 let d2:It:=.B b2 65 d5
 refine q0h (α:=Occurrence) rfl rfl rfl el88 q3Y H fun A6 n6 c6 w3 H=>(A) (Z (Y (R ((AZ) ?_))))
 refine bb hr fun q1 hm1 hr=>?_
 refine q0o (fun ρ' w=>∃ (s1:List Occurrence) (v1:Value),s1=q1∧q4z ρ' [(5,v1)]∧HL F0 [] w0 w d1 [d3,d2,.O 122 s1 v1]) ?_ ?_
 ·obtain⟨m1,hq1⟩:=q4o.1 hm1
  refine (lI hq1 (fun m1 ⟨s2,s3⟩ v2=>[(2,pB b1),(3,pB b2),(5,v2),(6,.int .i64 s3)]) (fun ⟨s2,s3⟩ v2 w=>I64 s3∧HL F0 [] w0 w d1 [d3,d2,.O 122 s2 v2]) (.slice A6 n6 c6)) ?_
  rintro m1 ⟨s2,s3⟩ v2 σ w4 hq1 ⟨hI1,H⟩
  obtain⟨A7,n7,c7,rfl⟩:=(fo H 2)
  obtain⟨m2,z1,rfl,hb1,hs1,ht1⟩:=q6H hq1
  refine Y (R ((V) ((D 2) ((L H 1) ((NI H 4) fun hl1=>(BZ) (iD hb1 (fun h1 hb1=>?_) fun _ hb1=>?_))))))
  ·refine K ?_
   refine bb hb1 fun q2 hm2 hb1=>Y ?_
   refine q0o (fun ρ' w=>∃ (s4:List Occurrence) (v3:Value),s4=q2∧q4z ρ' [(2,pB b1),(3,pB b2),(5,v3),(6,.int .i64 s3)]∧HL F0 [] w0 w d1 [d3,d2,.O 122 s4 v3]) ?_ ?_
   ·refine bb hm2 fun y1 hy1 hm2=>?_
    obtain⟨_,_,_,hS3⟩:=(q4U hy1 ⟨_,_,_,rfl,hS1,hS2,(rs H 4),(rs H 5),(rs H 6)⟩ hI1).get
    obtain⟨⟨y2,y3⟩,hy2,hm2⟩:=bd hm2
    refine Bk (Y ?_)
    refine q0H 10 (fun ρ=>[.fix (.agg #[.slice A1 n1 c1,.slice A2 n2 c2]),.fix (.agg #[.string a1.Name,.string a1.Left,.slice A3 n3 c3,.bool a1.Literal,.slice A4 n4 c4,.slice A5 n5 c5]),.fix (.int .i64 s3),.fix (.string y1),.free (fun S v w=>∃ A8:Option Addr,∃ n8:Nat,∃ c8:Nat,v = .tuple #[.agg #[.string y2.Name,.slice A8 n8 c8],.bool y3]∧y2.Name.size≤9223372036854775807∧NewI S w [.O 120 y2.Attributes (.slice A8 n8 c8)]),.dep 24 id,.dep 19 (z2R 0),.dep 19 (z2R 1),.free (VarB 69 2),.wr 7 25 (WrB 69)]) [[],[],[],[],[],[24],[19],[19],[],[7,25]] NoM (fun _ _=>True) [] [none,none,none,none,none,none,none,none,none,some 8] (noM _) hmix (by kernel_rfl) rfl ⟨trivial,trivial,trivial,trivial,fun _ _ _ _ _ ⟨A8,n8,c8,hv,h0,hh⟩ hc hS hT=>⟨A8,n8,c8,hv,h0,hh.chgT hc hS⟩,trivial,trivial,trivial,fun _ _ _ _ _ h hc hS _=>h.chgT hc hS,fun _ _ _ _ _ _ h hc hS _=>h.chgT hc hS,trivial⟩ trivial (fun _ _ _ _ _ _ _=>trivial) ?_
    refine q0m rfl rfl rfl rfl rfl (fun _ hq hK=>q0c rfl ag31 sz31 rfl (At.blk ((H.ext hq).rB (i:=0) rfl)) rfl) ?_
    refine q0m rfl rfl rfl rfl rfl (fun _ hq hK=>q0c rfl ag65 sz65 rfl (At.blk ((H.ext hq).rB (i:=1) rfl)) rfl) ?_
    refine q0m rfl rfl rfl rfl rfl (fun _ hq hK=>q0r rfl rfl) ?_
    refine q0G rfl rfl rfl rfl (fun _ hq hK=>OpX.call rfl rfl rfl rfl ok82 rfl (q4U hy1 ⟨_,_,_,rfl,hS1,hS2,(rs (H.ext hq) 4),(rs (H.ext hq) 5),(rs (H.ext hq) 6)⟩ hI1) fun _ _ hE h=>⟨hE,h.1⟩) ?_
    refine LL2.free rfl rfl rfl rfl (fun wq hq hK=>?_) (fun v_G1_4 S_G1_4=>?_)
    ·refine OpX.call rfl rfl rfl rfl ok83 rfl (q7c hy2 ⟨_,_,rfl,(rs (H.ext hq) 2),(rs (H.ext hq) 3)⟩ hS3) ?_
     rintro _ w hE ⟨A8,n8,c8,rfl,h0,hh⟩
     exact⟨hE,A8,n8,c8,rfl,h0,NewI.of hh tv⟩
    refine q0V rfl rfl rfl rfl rfl (.inl rfl) rfl ?_
    refine q0C rfl rfl rfl rfl rfl rfl rfl (fun wq hq hK=>?_) ?_
    ·have hK:∀ j' (_:(q2K _).contains j'=true),_:=hK 5 rfl
     obtain⟨A8,n8,c8,rfl,_,_⟩:=hK 4 rfl
     exact⟨_,_,rfl,rfl⟩
    refine q0C rfl rfl rfl rfl rfl rfl rfl (fun wq hq hK=>?_) ?_
    ·have hK:∀ j' (_:(q2K _).contains j'=true),_:=hK 5 rfl
     obtain⟨A8,n8,c8,rfl,_,_⟩:=hK 4 rfl
     exact⟨_,_,rfl,rfl⟩
    refine LL2.free rfl rfl rfl rfl (fun wq hq hK=>q0z rfl rfl ze69 rfl) (fun v_G1_8 S_G1_8=>?_)
    refine LL2.st (k:=2) rfl rfl rfl (by decide) rfl rfl rfl rfl sz69 rfl rfl (fun wq hq hK=>hK 8 rfl) (fun wq hq hK=>?_) ?_
    ·obtain⟨A8,n8,c8,rfl,_,_⟩:=hK 4 rfl
     exact⟨_,rfl,rfl,(all1 rfl (all1 rfl all0))⟩
    intro w5 hE _ hK hap hbd
    have hE:=z0W hE
    obtain⟨A8,n8,c8,rfl,hS4,hN1⟩:=hK 4 (by decide)
    let d4:=q3W y2 A8 n8 c8
    obtain⟨b3,rfl,hN2⟩:=j1x (cells:=d4) (hK 8 (by decide)) (hK 9 (by decide)) rfl
    have H:=H.add hE (hN1.app hN2 fun q h1 h2=>absurd (hap 4 8 q h1 h2) (by decide)) ⟨fun _ _ _ _ _ h=>h,tv⟩ (fun q hq=>hq.elim (fun h=>(hbd 4 q h).1) fun h=>(hbd 8 q h).1)
    refine (A) (Z (R ((A) (Z (Y (R ((V) ((BZ) (iD hm2 (fun _ hm2=>?_) fun _ hm2=>?_)))))))))
    ·refine X ((A) (Z (R ((AZ) ?_))))
     refine bb hm2 fun q3 hq2 hm2=>?_
     refine (lE hq2 (fun k1 s5 v4=>[(2,pB b1),(3,pB b2),(5,v4),(6,.int .i64 s3),(7,pB b3),(9,.int .i64 2),(10,zN k1)]) (fun s5 v4 w=>HL F0 [] w0 w d1 [d3,d2,.O 122 s5 v4,.O 120 y2.Attributes (.slice A8 n8 c8),.B b3 69 d4]) (.slice A7 n7 c7)) ?_
     rintro k1 s5 v4 σ w6 hk1 hq2 H
     obtain⟨A9,n9,c9,rfl⟩:=(fo H 2)
     refine Y (R ((V) ((D 1) ((L H 4) ?_))))
     have hl2:=(H.rO (i:=3) rfl).I
     refine (NN (ro H 3)) ((BZ) ?_)
     refine (iE hq2 (fun hk2 x1 z2 hx1 hb2 hq2=>?_) fun e=>?_)
     ·refine K ?_
      refine bb hb2 fun q4 hm3 hb2=>Y ?_
      refine q0o (fun ρ' w=>∃ (s6:List Occurrence) (v5:Value),s6=q4∧q4z ρ' [(2,pB b1),(3,pB b2),(5,v5),(6,.int .i64 s3),(7,pB b3),(9,.int .i64 2),(10,zN k1)]∧HL F0 [] w0 w d1 [d3,d2,.O 122 s6 v5,.O 120 y2.Attributes (.slice A8 n8 c8),.B b3 69 d4]) ?_ ?_
      ·refine Bk (R ((D 1) ((L H 4) ((V) ?_))))
       obtain⟨b4,cb4,hvb4,hbb4⟩:=po H 3 hx1
       refine (J 4 hvb4 hx1) ((D 2) ?_)
       obtain⟨hA1,hS5,hI2,hI3,H⟩:=q3O H 3 hx1 hbb4
       refine (LT hA1) ((V) ((BZ) (iD hm3 (fun _ hm3=>?_) fun _ hm3=>?_)))
       ·refine X ((V) ((V) ((D 1) ((L H 4) ((V) ?_)))))
        obtain⟨b5,cb5,hvb5,hbb5⟩:=po H 3 hx1
        refine (J 4 hvb5 hx1) ((D 0) ?_)
        obtain⟨hA2,hS6,hI4,hI5,H⟩:=q3O H 3 hx1 hbb5
        refine (LT hA2) ?_
        refine q0b rfl rfl (Ev.build rfl j1L q7h rfl rfl rfl rfl) ?_
        refine q0n rfl rfl rfl el88 q3Y q7h rfl rfl rfl rfl rfl rfl fun b6 w7 hE hb hB=>?_
        have H:=H.newB hE hb hB
        refine gg hm3 fun hg1 hm3=>?_
        exact q0q (i:=2) (ys:=[(⟨s3,x1.Name⟩:Occurrence)]) rfl rfl rfl el88 q3Y z6B q7h rfl rfl rfl H rfl (fun _=>ownL.single ⟨rfl,hI1,hS6,rfl⟩) (.inr ⟨_,_,rfl,At.blk (rb H 5)⟩) hg1 fun A10 n10 c10 w8 H=>(AZ) (C1 hm3)
       exact K (C1 hm3)
      rintro ρ' w9 ⟨s6,v5,rfl,hag,H⟩
      obtain⟨σ,rfl⟩:=q4g hag
      obtain⟨A11,n11,c11,rfl⟩:=(fo H 2)
      exact X ((V) ((AN hk2 hl2) ((A) (Z (I1 hb2 ⟨k1+1,s6,(.slice A11 n11 c11)⟩)))))
     obtain rfl:=e
     exact CE (C1 hm2)
    refine K (R ((AZ) ?_))
    refine bb hm2 fun q5 hq3 hm2=>?_
    refine (lE hq3 (fun k2 s7 v6=>[(2,pB b1),(3,pB b2),(5,v6),(6,.int .i64 s3),(7,pB b3),(9,.int .i64 1),(10,zN k2)]) (fun s7 v6 w=>HL F0 [] w0 w d1 [d3,d2,.O 122 s7 v6,.O 120 y2.Attributes (.slice A8 n8 c8),.B b3 69 d4]) (.slice A7 n7 c7)) ?_
    rintro k2 s7 v6 σ w10 hk3 hq3 H
    obtain⟨A12,n12,c12,rfl⟩:=(fo H 2)
    refine Y (R ((V) ((D 1) ((L H 4) ?_))))
    have hl3:=(H.rO (i:=3) rfl).I
    refine (NN (ro H 3)) ((BZ) ?_)
    refine (iE hq3 (fun hk4 x2 z3 hx2 hb3 hq3=>?_) fun e=>?_)
    ·refine K ?_
     refine bb hb3 fun q6 hm4 hb3=>Y ?_
     refine q0o (fun ρ' w=>∃ (s8:List Occurrence) (v7:Value),s8=q6∧q4z ρ' [(2,pB b1),(3,pB b2),(5,v7),(6,.int .i64 s3),(7,pB b3),(9,.int .i64 1),(10,zN k2)]∧HL F0 [] w0 w d1 [d3,d2,.O 122 s8 v7,.O 120 y2.Attributes (.slice A8 n8 c8),.B b3 69 d4]) ?_ ?_
     ·refine Bk (R ((D 1) ((L H 4) ((V) ?_))))
      obtain⟨b7,cb7,hvb7,hbb7⟩:=po H 3 hx2
      refine (J 4 hvb7 hx2) ((D 2) ?_)
      obtain⟨hA3,hS7,hI6,hI7,H⟩:=q3O H 3 hx2 hbb7
      refine (LT hA3) ((V) ((BZ) (iD hm4 (fun _ hm4=>?_) fun _ hm4=>?_)))
      ·refine X ((V) ((V) ((D 1) ((L H 4) ((V) ?_)))))
       obtain⟨b8,cb8,hvb8,hbb8⟩:=po H 3 hx2
       refine (J 4 hvb8 hx2) ((D 0) ?_)
       obtain⟨hA4,hS8,hI8,hI9,H⟩:=q3O H 3 hx2 hbb8
       refine (LT hA4) ?_
       refine q0b rfl rfl (Ev.build rfl j1L q7h rfl rfl rfl rfl) ?_
       refine q0n rfl rfl rfl el88 q3Y q7h rfl rfl rfl rfl rfl rfl fun b9 w11 hE hb hB=>?_
       have H:=H.newB hE hb hB
       refine gg hm4 fun hg2 hm4=>?_
       exact q0q (i:=2) (ys:=[(⟨s3,x2.Name⟩:Occurrence)]) rfl rfl rfl el88 q3Y z6B q7h rfl rfl rfl H rfl (fun _=>ownL.single ⟨rfl,hI1,hS8,rfl⟩) (.inr ⟨_,_,rfl,At.blk (rb H 5)⟩) hg2 fun A13 n13 c13 w12 H=>(AZ) (C1 hm4)
      exact K (C1 hm4)
     rintro ρ' w13 ⟨s8,v7,rfl,hag,H⟩
     obtain⟨σ,rfl⟩:=q4g hag
     obtain⟨A14,n14,c14,rfl⟩:=(fo H 2)
     exact X ((V) ((AN hk4 hl3) ((A) (Z (I1 hb3 ⟨k2+1,s8,(.slice A14 n14 c14)⟩)))))
    obtain rfl:=e
    exact CE (C1 hm2)
   rintro ρ' w14 ⟨s4,v3,rfl,hag,H⟩
   obtain⟨σ,rfl⟩:=q4g hag
   obtain⟨A15,n15,c15,rfl⟩:=(fo H 2)
   refine X ((V) ?_)
   exact gg hb1 fun hg3 hb1=>(BN (Bin.add hg3)) ((A) (Z (I2 hb1 hs1 ⟨m2,⟨s4,(s3+1)⟩,(.slice A15 n15 c15)⟩)))
  exact CE (C2 hb1 ht1)
 rintro ρ' w15 ⟨s1,v1,rfl,hag,H⟩
 obtain⟨σ,rfl⟩:=q4g hag
 obtain⟨A16,n16,c16,rfl⟩:=(fo H 2)
 exact R ((V) ((AZ) (W1 hr)))
def q9n (rec_sl4Copy:Expr→Option Expr):Nat→Expr→(List Expr)→Option (List Expr):=fun k1 x1 s1=>(rec_sl4Copy x1).bind fun y1=>grd (((s1.length:Int)+1)*88≤140737488355328∧(s1.length:Int)+1≤9223372036854775807) <| some (s1++[y1])
def z0b (rec_sl4Copy:Expr→Option Expr)(a0:Expr):Option Expr:=(q2G (q9n rec_sl4Copy) 0 a0.Args ([]:List Expr)).bind fun s1=>some (⟨a0.Kind,a0.N,a0.Pos,a0.Type_,a0.Symbol,a0.Name,s1⟩:Expr)
theorem j2K {rec_sl4Copy:Expr→Option Expr}(ih_sl4Copy:∀ {a0 r:Expr},rec_sl4Copy a0=some r→∀ {F0:Nat→Prop} {w0:World} {ca0} (ha0:rd F0 w0 a0 ca0),RT 135 #[ag ca0] w0 fun v w=>∃ A0 n0 c0,v = .agg #[.int .i64 r.Kind,.int .i64 r.N,.int .i64 r.Pos,.int .i64 r.Type_,.string r.Symbol,.string r.Name,(.slice A0 n0 c0)]∧I64 r.Kind∧I64 r.N∧I64 r.Pos∧I64 r.Type_∧r.Symbol.size≤9223372036854775807∧r.Name.size≤9223372036854775807∧HL F0 [] w0 w [] [.G 125 r.Args (.slice A0 n0 c0)]){a0 r}(hr:z0b rec_sl4Copy a0=some r){ca0}(ha0:rd F0 w0 a0 ca0):RT 135 #[ag ca0] w0 fun v w=>∃ A0 n0 c0,v = .agg #[.int .i64 r.Kind,.int .i64 r.N,.int .i64 r.Pos,.int .i64 r.Type_,.string r.Symbol,.string r.Name,(.slice A0 n0 c0)]∧I64 r.Kind∧I64 r.N∧I64 r.Pos∧I64 r.Type_∧r.Symbol.size≤9223372036854775807∧r.Name.size≤9223372036854775807∧HL F0 [] w0 w [] [.G 125 r.Args (.slice A0 n0 c0)]:=by
 have H:=(HL.start F0 w0).argR ha0
 obtain⟨A1,n1,c1,rfl,hI1,hI2,hI3,hI4,hS1,hS2,H⟩:=q3X H 0
 let d2:=q2T a0 A1 n1 c1
 refine (En Tryz.func135) ?_
 refine R ((BX H) fun b1 w1 H=>(AH z0a H) fun b2 w2 H=>Z (R ?_))
 let d1:It:=.B b2 125 [.int .i64 0,.int .i64 0,.int .i64 0,.int .i64 0,.string eB,.string eB,.slice none 0 0]
 refine q0h (α:=Expr) rfl rfl rfl z7A q5E H fun A2 n2 c2 w3 H=>?_
 have H:=H.toG (i:=2) rfl
 refine (A) (Z (Y (R ((AZ) ?_))))
 refine bb hr fun q1 hq1 hr=>?_
 refine Bk (CW.loop (α:=Nat × (List Expr) × Value) (fun ⟨k1,s1,v1⟩=>[(1,pB b1),(2,pB b2),(3,v1),(4,zN k1)]) (fun ⟨k1,s1,v1⟩ w=>k1≤a0.Args.length∧q2G (q9n rec_sl4Copy) k1 (a0.Args.drop k1) s1=some q1∧HL F0 [] w0 w [.R a0 d2,.S a0.Args (.slice A1 n1 c1)] [.B b1 125 d2,d1,.G 125 s1 v1]) (fun ⟨k1,s1,v1⟩=>a0.Args.length - k1) ⟨0,([]:List Expr),(.slice A2 n2 c2)⟩ ⟨rfl,rfl,rfl,rfl,trivial⟩ ⟨Nat.zero_le _,hq1,H.keep 2 3⟩ ?_)
 rintro⟨k1,s1,v1⟩ σ w4 ⟨hk1,hq1,H⟩
 obtain⟨A3,n3,c3,rfl⟩:=(H.rG (i:=2) rfl).form3
 refine Y (R ((V) ((D 6) ((L H 0) ((NI H 1) fun hl1=>(BZ) ?_)))))
 refine (iE hq1 (fun hk2 x1 z1 hx1 hb1 hq1=>?_) fun e=>?_)
 ·refine K (Y ?_)
  refine Bk (X ((V) ((D 6) ((L H 0) ((V) ?_)))))
  obtain⟨b3,ob3,cb3,A4,n4,c4,hvb3,hI5,hI6,hI7,hI8,hS3,hS4,H⟩:=q4G H 1 hx1
  refine (J 7 hvb3 hx1) ((LA H 2) ?_)
  refine bb hb1 fun y1 hy1 hb1=>?_
  obtain⟨F,hF,hcl⟩:=H.call
  refine (CA k1c (ih_sl4Copy hy1 (q2F.2 ⟨_,rfl,hI5,hI6,hI7,hI8,hS3,hS4,(hF.get (i:=4) rfl)⟩))) ?_
  rintro _ w5 hE ⟨A5,n5,c5,rfl,hI9,hI10,hI11,hI12,hS5,hS6,H'⟩
  have H:HL F0 [] w0 w5 [.R a0 d2,.S a0.Args (.slice A1 n1 c1),.A b3 (ob3+k1*7) (q2T x1 A4 n4 c4),.R x1 (q2T x1 A4 n4 c4),.S x1.Args (.slice A4 n4 c4)] [.B b1 125 d2,d1,.G 125 s1 (.slice A3 n3 c3),.G 125 y1.Args (.slice A5 n5 c5)]:=hcl H'
  refine q0n rfl rfl rfl z7A q5E z0a rfl rfl rfl rfl rfl rfl fun b4 w6 hE hb hB=>?_
  have H:=H.newB hE hb hB
  have H:=H.frzG (i:=3) rfl
  refine gg hb1 fun hg1 hb1=>?_
  refine q0M (i:=2) (ys:=[y1]) rfl rfl rfl z7A q5E j5M z0a rfl rfl rfl H rfl (fun F hF=>rdL.single (q2F.2 ⟨_,rfl,hI9,hI10,hI11,hI12,hS5,hS6,(hF.get (i:=5) rfl)⟩)) (.inr ⟨_,_,rfl,At.blk (rb H 4)⟩) hg1 fun A6 n6 c6 w7 H=>(A) (Z (X ((V) ((AN hk2 hl1) ((AZ) ?_)))))
  obtain rfl:=sm hb1
  exact⟨⟨k1+1,(s1++[y1]),(.slice A6 n6 c6)⟩,⟨rfl,rfl,rfl,rfl,trivial⟩,⟨hk2,hq1,H.keep 2 3⟩,Nat.sub_lt_sub_left hk2 (Nat.lt_succ_self _)⟩
 obtain rfl:=e
 refine CE (R ((V) ((D 6) ((SB H 0) fun w8 H=>Z (R ((LB H 0) ((SB H 1) fun w9 H=>Z (CR ?_))))))))
 obtain rfl:=sm hr
 exact⟨_,resC rfl q7S q5E rfl rfl (ab H 1) rfl,H.ext0,_,_,_,rfl,hI1,hI2,hI3,hI4,hS1,hS2,H.outM (fr':=[]) [false,false,true] tw⟩
def q5I:Nat→Expr→Option Expr
  | 0,_=>none
  | n+1,a0=>z0b (q5I n) a0
def z5Z (a0:Expr):Option Expr:=recO fun n=>q5I n a0
theorem j2L (n:Nat):∀ {a0 r:Expr},q5I n a0=some r→∀ {F0:Nat→Prop} {w0:World} {ca0} (ha0:rd F0 w0 a0 ca0),RT 135 #[ag ca0] w0 fun v w=>∃ A0 n0 c0,v = .agg #[.int .i64 r.Kind,.int .i64 r.N,.int .i64 r.Pos,.int .i64 r.Type_,.string r.Symbol,.string r.Name,(.slice A0 n0 c0)]∧I64 r.Kind∧I64 r.N∧I64 r.Pos∧I64 r.Type_∧r.Symbol.size≤9223372036854775807∧r.Name.size≤9223372036854775807∧HL F0 [] w0 w [] [.G 125 r.Args (.slice A0 n0 c0)]:=by
 induction n with
 | zero=>intro a0 r hr; exact nomatch (show (none:Option Expr)=some r from hr)
 | succ n ih=>intro a0 r hr; exact j2K ih hr
theorem j4N {a0 r}(hr:z5Z a0=some r){ca0}(ha0:rd F0 w0 a0 ca0):RT 135 #[ag ca0] w0 fun v w=>∃ A0 n0 c0,v = .agg #[.int .i64 r.Kind,.int .i64 r.N,.int .i64 r.Pos,.int .i64 r.Type_,.string r.Symbol,.string r.Name,(.slice A0 n0 c0)]∧I64 r.Kind∧I64 r.N∧I64 r.Pos∧I64 r.Type_∧r.Symbol.size≤9223372036854775807∧r.Name.size≤9223372036854775807∧HL F0 [] w0 w [] [.G 125 r.Args (.slice A0 n0 c0)]:=by
 obtain⟨n,hn⟩:=q5m hr
 exact j2L n hn ha0
def q5S (a1:Occurrence):Nat→Equation→Unit→Option (Unit ⊕ (Expr × Bool)):=fun k1 x1 _=>if x1.At=a1 then (z5Z x1.Expr).bind fun y1=>some (.inr (y1,true)) else some (.inl ())
def q4O (a0:Rule)(a1:Occurrence):Option (Expr × Bool):=(q2I (q5S a1) 0 a0.Equations ()).bind <| onr (fun r1=>some r1) fun _=>some ((⟨0,0,0,0,(⟨#[]⟩:ByteArray),(⟨#[]⟩:ByteArray),[]⟩:Expr),false)
theorem z3q {a0}{a1}{r}(hr:q4O a0 a1=some r){ca0}(ha0:rd F0 w0 a0 ca0){ca1}(ha1:rd F0 w0 a1 ca1):RT 88 #[ag ca0,ag ca1] w0 fun v w=>∃ A0 n0 c0,v = .tuple #[.agg #[.int .i64 r.1.Kind,.int .i64 r.1.N,.int .i64 r.1.Pos,.int .i64 r.1.Type_,.string r.1.Symbol,.string r.1.Name,(.slice A0 n0 c0)],.bool r.2]∧I64 r.1.Kind∧I64 r.1.N∧I64 r.1.Pos∧I64 r.1.Type_∧r.1.Symbol.size≤9223372036854775807∧r.1.Name.size≤9223372036854775807∧HL F0 [] w0 w [] [.G 125 r.1.Args (.slice A0 n0 c0)]:=by
 let d3:=q2J a1
 have H:=((HL.start F0 w0).argR ha0).argR ha1
 obtain⟨A1,n1,c1,A2,n2,c2,A3,n3,c3,rfl,hS1,hS2,H⟩:=q2U H 0
 let d4:Pr:=.S a0.Contributions (.slice A3 n3 c3)
 let d2:=q3C a0 A1 n1 c1 A2 n2 c2 A3 n3 c3
 obtain⟨rfl,hI1,hS3,H⟩:=q2R H 1
 refine (En Tryz.func88) ?_
 refine R ((BX H) fun b1 w1 H=>(BX H) fun b2 w2 H=>(AH z0a H) fun b3 w3 H=>(A) (Z (Y (R ((AZ) ?_)))))
 let d1:It:=.B b3 125 [.int .i64 0,.int .i64 0,.int .i64 0,.int .i64 0,.string eB,.string eB,.slice none 0 0]
 refine bb hr fun q1 hq1 hr=>?_
 refine (lF hq1 (fun k1 _ _=>[(2,pB b1),(3,pB b2),(4,pB b3),(6,zN k1)]) (fun _ _ w=>HL F0 [] w0 w [.R a0 d2,.R a1 d3,.S a0.Right (.slice A1 n1 c1),.S a0.Equations (.slice A2 n2 c2),d4] [.B b1 65 d2,.B b2 122 d3,d1]) ()) ?_
 rintro k1 _ _ σ w4 hk1 hq1 H
 refine Y (R ((V) ((D 4) ((L H 0) ((NI H 3) fun hl1=>(BZ) ?_)))))
 refine (iF hq1 hr (fun hk2 x1 z1 hx1 hb1 hs1 ht1=>?_) fun hr=>?_)
 ·refine K (Y ?_)
  refine Bk (Y ?_)
  refine q0g hmix (by kernel_rfl) ?_
  refine (qD 4) ((qL H 0) ((qV) ?_))
  obtain⟨b4,ob4,cb4,A4,n4,c4,hvb4,hI2,hS4,hI3,hI4,hI5,hI6,hS5,hS6,H⟩:=q4k H 3 hx1
  refine (qJ 9 hvb4 hx1) ((qD 0) ?_)
  refine q0k rfl rfl (fun _ hq=>q0c rfl z1W q3Y rfl (((H.ext hq).rA (i:=5) rfl).part 0 2) rfl) ?_
  refine (qLB H 1) ((qBN (q0D z9B (q4J x1.At a1))) ?_)
  refine QL.nil (fun w5 hE=>?_)
  have H:=H.ext hE
  refine iD hb1 (fun _ hb1=>?_) fun _ hb1=>?_
  ·refine R ((D 4) ((L H 0) ((V) ((J 9 hvb4 hx1) ((D 2) ?_)))))
   refine q0b rfl rfl (q0c rfl q7S q5E rfl ((ra H 5).part 2 7) rfl) ?_
   refine bb hb1 fun y1 hy1 hb1=>?_
   obtain⟨F,hF,hcl⟩:=H.call
   refine (CA k1c (j4N hy1 (q2F.2 ⟨_,rfl,hI3,hI4,hI5,hI6,hS5,hS6,(hF.get (i:=7) rfl)⟩))) ?_
   rintro _ w6 hE ⟨A5,n5,c5,rfl,hI7,hI8,hI9,hI10,hS7,hS8,H'⟩
   have H:HL F0 [] w0 w6 [.R a0 d2,.R a1 d3,.S a0.Right (.slice A1 n1 c1),.S a0.Equations (.slice A2 n2 c2),d4,.A b4 (ob4+k1*9) (q5R x1 A4 n4 c4),.R x1 (q5R x1 A4 n4 c4),.S x1.Expr.Args (.slice A4 n4 c4)] [.B b1 65 d2,.B b2 122 d3,d1,.G 125 y1.Args (.slice A5 n5 c5)]:=hcl H'
   refine (SB H 2) fun w7 H=>(AZ) (CR ?_)
   obtain rfl:=sm hb1
   obtain rfl:=ht1 _ rfl
   obtain rfl:=sm hr
   exact⟨_,z5J rfl q7S q5E rfl rfl rfl rfl (ab H 2) rfl,H.ext0,_,_,_,rfl,hI7,hI8,hI9,hI10,hS7,hS8,H.outM (fr':=[]) [false,false,false,true] tw⟩
  exact K (X ((V) ((AN hk2 hl1) ((A) (Z (I2 hb1 hs1 ⟨k1+1,(),()⟩))))))
 refine CE (R ?_)
 refine q0b rfl rfl (Ev.build rfl j9H z0a rfl rfl rfl rfl) ((SB H 2) fun w8 H=>(AZ) (CR ?_))
 have H:=H.nilG (α:=Expr) 125
 obtain rfl:=sm hr
 exact⟨_,z5J rfl q7S q5E rfl rfl rfl rfl (ab H 2) rfl,H.ext0,_,_,_,rfl,dI,dI,dI,dI,dI,dI,H.outM (fr':=[]) [false,false,false,true] tw⟩
def z4P (a1:Rule):Nat→Occurrence→Unit→Option (Unit ⊕ Bool):=fun k1 x1 _=>(q4O a1 x1).bind fun (y2,y3)=>if y3=true then some (.inl ()) else some (.inr true)
def z0y (a0:Grammar)(a1:Rule):Option Bool:=(q4Y a0 a1).bind fun y1=>(q2I (z4P a1) 0 y1 ()).bind <| onr (fun r1=>some r1) fun _=>some false
theorem z9F {a0}{a1}{r}(hr:z0y a0 a1=some r){ca0}(ha0:rd F0 w0 a0 ca0){ca1}(ha1:rd F0 w0 a1 ca1):RB 128 #[ag ca0,ag ca1] w0 r:=by
 have H:=((HL.start F0 w0).argR ha0).argR ha1
 obtain⟨A1,n1,c1,A2,n2,c2,rfl,H⟩:=q2C H 0
 obtain⟨A3,n3,c3,A4,n4,c4,A5,n5,c5,rfl,hS1,hS2,H⟩:=q2U H 1
 let d1:=q3C a1 A3 n3 c3 A4 n4 c4 A5 n5 c5
 refine (En Tryz.func128) ?_
 refine R ((BX H) fun b1 w1 H=>(BX H) fun b2 w2 H=>(A) (Z (R ((LB H 0) ((LB H 1) ?_)))))
 refine bb hr fun y1 hy1 hr=>?_
 refine (CA k1i (q8F hy1 ⟨_,_,rfl,(rs H 2),(rs H 3)⟩ ⟨_,_,_,rfl,hS1,hS2,(rs H 4),(rs H 5),(rs H 6)⟩)) ?_
 rintro _ w3 hE ⟨A6,n6,c6,rfl,H'⟩
 have H:=H.callA H' tv
 refine (A) (Z (Y (R ((AZ) ?_))))
 refine bb hr fun q1 hq1 hr=>?_
 refine (lF hq1 (fun k1 _ _=>[(3,pB b2),(5,.slice A6 n6 c6),(6,zN k1)]) (fun _ _ w=>HL F0 [] w0 w [.R a0 [.slice A1 n1 c1,.slice A2 n2 c2],.R a1 d1,.S a0.Symbols (.slice A1 n1 c1),.S a0.Rules (.slice A2 n2 c2),.S a1.Right (.slice A3 n3 c3),.S a1.Equations (.slice A4 n4 c4),.S a1.Contributions (.slice A5 n5 c5)] [.B b1 31 [.slice A1 n1 c1,.slice A2 n2 c2],.B b2 65 d1,.O 122 y1 (.slice A6 n6 c6)]) ()) ?_
 rintro k1 _ _ σ w4 hk1 hq1 H
 refine Y (R ((V) ((V) ?_)))
 have hl1:=(H.rO (i:=2) rfl).I
 refine (NN (ro H 2)) ((BZ) ?_)
 refine q0d rfl (fun h1=>?_) (fun h1=>?_)
 ·have hk2:=q2L h1
  obtain⟨x1,z1,hx1,hb1,hs1,ht1⟩:=q4f hq1 hk2
  refine K ?_
  obtain⟨b3,cb3,hvb3,hbb3⟩:=po H 2 hx1
  obtain⟨hA1,hI1,hS3,H⟩:=q4q H 2 hx1 hbb3
  obtain⟨⟨y2,y3⟩,hy2,hb1⟩:=bd hb1
  obtain⟨F_G1,hFl_G1,hF_G1,hcl_G1⟩:=H.callL
  refine Y ?_
  refine Bk (Y ?_)
  refine q0H 11 (fun ρ=>[.fix (.agg #[.string a1.Name,.string a1.Left,.slice A3 n3 c3,.bool a1.Literal,.slice A4 n4 c4,.slice A5 n5 c5]),.fix (.slice A6 n6 c6),.fix (zN k1),.fix (.pointer (some ⟨b3,0+k1*2,none⟩)),.fix (.agg #[.int .i64 x1.Pos,.string x1.Name]),.free (fun S v w=>∃ A7:Option Addr,∃ n7:Nat,∃ c7:Nat,v = .tuple #[.agg #[.int .i64 y2.Kind,.int .i64 y2.N,.int .i64 y2.Pos,.int .i64 y2.Type_,.string y2.Symbol,.string y2.Name,.slice A7 n7 c7],.bool y3]∧I64 y2.Kind∧I64 y2.N∧I64 y2.Pos∧I64 y2.Type_∧y2.Symbol.size≤9223372036854775807∧y2.Name.size≤9223372036854775807∧NewV F_G1 w4 S w [] [.G 125 y2.Args (.slice A7 n7 c7)]),.dep 24 id,.dep 18 (z2R 0),.dep 18 (z2R 1),.free (VarB 125 7),.wr 7 25 (WrB 125)]) [[],[],[],[],[],[],[24],[18],[18],[],[7,25]] NoM (fun _ _=>True) [] [none,none,none,none,none,none,none,none,none,none,some 9] (noM _) hmix (by kernel_rfl) rfl ⟨trivial,trivial,trivial,trivial,trivial,fun _ _ _ _ _ ⟨A7,n7,c7,hv,h0,h1,h2,h3,h4,h5,hh⟩ hc hS hT=>⟨A7,n7,c7,hv,h0,h1,h2,h3,h4,h5,hh.chgT hc hS hT hFl_G1⟩,trivial,trivial,trivial,fun _ _ _ _ _ h hc hS _=>h.chgT hc hS,fun _ _ _ _ _ _ h hc hS _=>h.chgT hc hS,trivial⟩ trivial (fun _ _ _ _ _ _ _=>trivial) ?_
  refine q0m rfl rfl rfl rfl rfl (fun _ hq hK=>q0c rfl ag65 sz65 rfl (At.blk ((H.ext hq).rB (i:=1) rfl)) rfl) ?_
  refine q0m rfl rfl rfl rfl rfl (fun _ hq hK=>q0r rfl rfl) ?_
  refine q0m rfl rfl rfl rfl rfl (fun _ hq hK=>q0r rfl rfl) ?_
  refine q0m rfl rfl rfl rfl rfl (fun _ hq hK=>q0U rfl el88 q3Y rfl hvb3 rfl (q4X hx1)) ?_
  refine q0m rfl rfl rfl rfl rfl (fun _ hq hK=>q0c rfl z1W q3Y rfl (hA1.ext hq) rfl) ?_
  refine LL2.free rfl rfl rfl rfl (fun wq hq hK=>?_) (fun v_G1_5 S_G1_5=>?_)
  ·have hF:=hF_G1.ext hq
   refine OpX.call rfl rfl rfl rfl ok88 rfl (z3q hy2 ⟨_,_,_,rfl,hS1,hS2,(hF.get (i:=4) rfl),(hF.get (i:=5) rfl),(hF.get (i:=6) rfl)⟩ ⟨rfl,hI1,hS3⟩) ?_
   rintro _ w hE ⟨A7,n7,c7,rfl,h0,h1,h2,h3,h4,h5,hh⟩
   exact⟨hE,A7,n7,c7,rfl,h0,h1,h2,h3,h4,h5,NewV.of hFl_G1 hq hh⟩
  refine q0V rfl rfl rfl rfl rfl (.inl rfl) rfl ?_
  refine q0C rfl rfl rfl rfl rfl rfl rfl (fun wq hq hK=>?_) ?_
  ·have hK:∀ j' (_:(q2K _).contains j'=true),_:=hK 6 rfl
   obtain⟨A7,n7,c7,rfl,_,_,_,_,_,_,_⟩:=hK 5 rfl
   exact⟨_,_,rfl,rfl⟩
  refine q0C rfl rfl rfl rfl rfl rfl rfl (fun wq hq hK=>?_) ?_
  ·have hK:∀ j' (_:(q2K _).contains j'=true),_:=hK 6 rfl
   obtain⟨A7,n7,c7,rfl,_,_,_,_,_,_,_⟩:=hK 5 rfl
   exact⟨_,_,rfl,rfl⟩
  refine LL2.free rfl rfl rfl rfl (fun wq hq hK=>q0z rfl rfl z0a rfl) (fun v_G1_9 S_G1_9=>?_)
  refine LL2.st (k:=7) rfl rfl rfl (by decide) rfl rfl rfl rfl q5E rfl rfl (fun wq hq hK=>hK 9 rfl) (fun wq hq hK=>?_) ?_
  ·obtain⟨A7,n7,c7,rfl,_,_,_,_,_,_,_⟩:=hK 5 rfl
   exact⟨_,rfl,rfl,(all1 rfl (all1 rfl (all1 rfl (all1 rfl (all1 rfl (all1 rfl (all1 rfl all0)))))))⟩
  intro w5 hE _ hK hap hbd
  have hE:=z0W hE
  obtain⟨A7,n7,c7,rfl,hI2,hI3,hI4,hI5,hS4,hS5,hN1⟩:=hK 5 (by decide)
  obtain⟨b4,rfl,hN2⟩:=j1x (cells:=(q2T y2 A7 n7 c7)) (hK 9 (by decide)) (hK 10 (by decide)) rfl
  have H:=hcl_G1 (q1d (hN1.app (hN2.V tv) fun q h1 h2=>absurd (hap 5 9 q h1 h2) (by decide)) hE fun q hq=>hq.elim (fun h=>(hbd 5 q h).1) fun h=>(hbd 9 q h).1)
  refine (A) (Z (R ((V) ((N) (Z (iM hb1 (fun _ hb1=>?_) fun _ hb1=>?_))))))
  ·exact R ((AZ) (W2 hb1 ht1 hr))
  exact K (X ((V) ((AN hk2 hl1) ((A) (Z (I2 hb1 hs1 ⟨k1+1,(),()⟩))))))
 obtain rfl:=q3r hq1 (q2E h1)
 have hr:=(q3q _ _ _).symm.trans hr
 exact CE (R ((AZ) (W1 hr)))
def z7n (a1:Occurrence):Nat→Occurrence→Unit→Option (Unit ⊕ Bool):=fun k1 x1 _=>if x1=a1 then some (.inr true) else some (.inl ())
def z1c (a0:(List Occurrence))(a1:Occurrence):Option Bool:=(q2I (z7n a1) 0 a0 ()).bind <| onr (fun r1=>some r1) fun _=>some false
theorem z7o {a0}{a1}{r}(hr:z1c a0 a1=some r){z0}(ha0:rdS F0 w0 a0 z0){ca1}(ha1:rd F0 w0 a1 ca1):RB 174 #[z0,ag ca1] w0 r:=by
 obtain⟨A0',n0',c0',rfl⟩:=ha0.form3
 have H:=((HL.start F0 w0).argS ha0).argR ha1
 obtain⟨rfl,hI1,hS1,H⟩:=q2R H 1
 refine (En Tryz.func174) ?_
 refine R ((BX H) fun b1 w1 H=>(A) (Z (Y (R ((AZ) ?_)))))
 refine bb hr fun q1 hq1 hr=>?_
 refine (lF hq1 (fun k1 _ _=>[(0,.slice A0' n0' c0'),(3,pB b1),(5,zN k1)]) (fun _ _ w=>HL F0 [] w0 w [.S a0 (.slice A0' n0' c0'),.R a1 (q2J a1)] [.B b1 122 (q2J a1)]) ()) ?_
 rintro k1 _ _ σ w2 hk1 hq1 H
 refine Y (R ((V) ((V) ((NI H 0) fun hl1=>(BZ) ?_))))
 refine (iF hq1 hr (fun hk2 x1 z1 hx1 hb1 hs1 ht1=>?_) fun hr=>?_)
 ·refine K (Y ?_)
  refine Bk (Y ?_)
  refine q0g hmix (by kernel_rfl) ?_
  refine (qV) ((qV) ?_)
  obtain⟨b2,ob2,cb2,hvb2,hI2,hS2,H⟩:=q6e H 0 hx1
  refine (qJ 2 hvb2 hx1) ((qLA H 2) ((qLB H 0) ((qBN (q0D z9B (q4J x1 a1))) ?_)))
  refine QL.nil (fun w3 hE=>?_)
  have H:=H.ext hE
  refine iD hb1 (fun _ hb1=>?_) fun _ hb1=>?_
  ·exact R ((AZ) (W2 hb1 ht1 hr))
  exact K (X ((V) ((AN hk2 hl1) ((A) (Z (I2 hb1 hs1 ⟨k1+1,(),()⟩))))))
 exact CE (R ((AZ) (W1 hr)))
def z1L (y1:(List Occurrence)):Nat→Equation→(List Occurrence)→Option (((List Occurrence)) ⊕ Bool):=fun k1 x1 s1=>(z1c y1 x1.At).bind fun y2=>if y2=true then (z1c s1 x1.At).bind fun y3=>if y3=true then some (.inr true) else grd (((s1.length:Int)+1)*24≤140737488355328∧(s1.length:Int)+1≤9223372036854775807) <| some (.inl (s1++[x1.At])) else some (.inr true)
def z2W (a0:Grammar)(a1:Rule):Option Bool:=(q4Y a0 a1).bind fun y1=>(q2I (z1L y1) 0 a1.Equations ([]:List Occurrence)).bind <| onr (fun r1=>some r1) fun s1=>some false
theorem j1R {a0}{a1}{r}(hr:z2W a0 a1=some r){ca0}(ha0:rd F0 w0 a0 ca0){ca1}(ha1:rd F0 w0 a1 ca1):RB 129 #[ag ca0,ag ca1] w0 r:=by
 have H:=((HL.start F0 w0).argR ha0).argR ha1
 obtain⟨A1,n1,c1,A2,n2,c2,rfl,H⟩:=q2C H 0
 let d8:Pr:=.S a0.Rules (.slice A2 n2 c2)
 let d7:Pr:=.S a0.Symbols (.slice A1 n1 c1)
 let d3:List Value:=[.slice A1 n1 c1,.slice A2 n2 c2]
 obtain⟨A3,n3,c3,A4,n4,c4,A5,n5,c5,rfl,hS1,hS2,H⟩:=q2U H 1
 let d9:Pr:=.S a1.Right (.slice A3 n3 c3)
 let d6:Pr:=.S a1.Equations (.slice A4 n4 c4)
 let d4:Pr:=.S a1.Contributions (.slice A5 n5 c5)
 let d2:=q3C a1 A3 n3 c3 A4 n4 c4 A5 n5 c5
 refine (En Tryz.func129) ?_
 refine R ((BX H) fun b1 w1 H=>(BX H) fun b2 w2 H=>(A) (Z (R ((LB H 0) ((LB H 1) ?_)))))
 refine bb hr fun y1 hy1 hr=>?_
 refine (CA k1i (q8F hy1 ⟨_,_,rfl,(rs H 2),(rs H 3)⟩ ⟨_,_,_,rfl,hS1,hS2,(rs H 4),(rs H 5),(rs H 6)⟩)) ?_
 rintro _ w3 hE ⟨A6,n6,c6,rfl,H'⟩
 have H:=H.callA H' tv
 refine (AZ) (R ?_)
 refine q0h (α:=Occurrence) rfl rfl rfl el88 q3Y H fun A7 n7 c7 w4 H=>(A) (Z (Y (R ((AZ) ?_))))
 refine bb hr fun q1 hq1 hr=>?_
 refine (lF hq1 (fun k1 s1 v1=>[(3,pB b2),(5,.slice A6 n6 c6),(6,v1),(7,zN k1)]) (fun s1 v1 w=>HL F0 [] w0 w [.R a0 d3,.R a1 d2,d7,d8,d9,d6,d4] [.B b1 31 d3,.B b2 65 d2,.O 122 y1 (.slice A6 n6 c6),.O 122 s1 v1]) (.slice A7 n7 c7)) ?_
 rintro k1 s1 v1 σ w5 hk1 hq1 H
 obtain⟨A8,n8,c8,rfl⟩:=(fo H 3)
 refine Y (R ((V) ((D 4) ((L H 1) ((NI H 5) fun hl1=>(BZ) ?_)))))
 refine (iF hq1 hr (fun hk2 x1 z1 hx1 hb1 hs1 ht1=>?_) fun hr=>?_)
 ·refine K (Y ?_)
  refine Bk (R ((D 4) ((L H 1) ((V) ?_))))
  obtain⟨b3,ob3,cb3,A9,n9,c9,hvb3,hI1,hS3,hI2,hI3,hI4,hI5,hS4,hS5,H⟩:=q4k H 5 hx1
  let d5:=q5R x1 A9 n9 c9
  refine (J 9 hvb3 hx1) ((D 0) ?_)
  refine q0b rfl rfl (q0c rfl z1W q3Y rfl ((ra H 7).part 0 2) rfl) ((AH q7h H) fun b4 w6 H=>(SB H 4) fun w7 H=>Z (Y (R ((V) ((LB H 4) ?_)))))
  let d1:List It:=[.B b1 31 d3,.B b2 65 d2,.O 122 y1 (.slice A6 n6 c6),.O 122 s1 (.slice A8 n8 c8),.B b4 122 (q2J x1.At)]
  refine bb hb1 fun y2 hy2 hb1=>?_
  refine (CA k1j (z7o hy2 (ro H 2) ⟨rfl,hI1,hS3⟩)) (cE H fun w8 H=>(N) (jM hb1 (fun _ hb1=>?_) fun _ hb1=>?_))
  ·exact (O) ((O) ((O) ((T) (Z ((cT) (R ((AZ) (W2 hb1 ht1 hr))))))))
  refine (G) ((V) ((G) ((LB H 4) ((G) ?_))))
  refine bb hb1 fun y3 hy3 hb1=>?_
  refine (CA k1j (z7o hy3 (ro H 3) ⟨rfl,hI1,hS3⟩)) (cE H fun w9 H=>(U) (Z (iB hb1 (fun _ hb1=>?_) fun _ hb1=>?_)))
  ·refine Y ?_
   refine q0e [] trivial fun σ=>?_
   have H:HL F0 [] w0 w9 [.R a0 d3,.R a1 d2,d7,d8,d9,d6,d4,.A b3 (ob3+k1*9) d5,.R x1 d5,.S x1.Expr.Args (.slice A9 n9 c9)] d1:=H
   exact X ((AZ) (W2 hb1 ht1 hr))
  refine K ?_
  refine q0e [(3,pB b2),(5,.slice A6 n6 c6),(6,.slice A8 n8 c8),(7,zN k1),(8,pB b4),(31,.slice A8 n8 c8),(32,.agg #[.int .i64 x1.At.Pos,.string x1.At.Name]),(33,.bool y3)] ⟨rfl,rfl,rfl,rfl,rfl,rfl,rfl,rfl,trivial⟩ fun σ=>?_
  have H:HL F0 [] w0 w9 [.R a0 d3,.R a1 d2,d7,d8,d9,d6,d4,.A b3 (ob3+k1*9) d5,.R x1 d5,.S x1.Expr.Args (.slice A9 n9 c9)] d1:=H
  refine X ((V) ((LB H 4) ?_))
  refine q0n rfl rfl rfl el88 q3Y q7h rfl rfl rfl rfl rfl rfl fun b5 w10 hE hb hB=>?_
  have H:=H.newB hE hb hB
  refine gg hb1 fun hg1 hb1=>?_
  exact q0q (i:=3) (ys:=[x1.At]) rfl rfl rfl el88 q3Y z6B q7h rfl rfl rfl H rfl (fun _=>ownL.single ⟨rfl,hI1,hS3,rfl⟩) (.inr ⟨_,_,rfl,At.blk (rb H 5)⟩) hg1 fun A10 n10 c10 w11 H=>(A) (Z (X ((V) ((AN hk2 hl1) ((A) (Z (I2 hb1 hs1 ⟨k1+1,(s1++[x1.At]),(.slice A10 n10 c10)⟩)))))))
 exact CE (R ((AZ) (W1 hr)))
def z2X (a0 a1:Occurrence):Option Bool:=( if a0.Pos < a1.Pos then some true else ( if a0.Pos=a1.Pos then some (Op.bytesLess a0.Name.toList a1.Name.toList) else some false ).bind fun s2=>some s2 ).bind fun s1=>some s1
theorem j1S {a0 a1}{r}(hr:z2X a0 a1=some r){ca0}(ha0:rd F0 w0 a0 ca0){ca1}(ha1:rd F0 w0 a1 ca1):RB 202 #[ag ca0,ag ca1] w0 r:=by
 let d2:List Pr:=[.R a0 (q2J a0),.R a1 (q2J a1)]
 have H:=((HL.start F0 w0).argR ha0).argR ha1
 obtain⟨rfl,hI1,hS1,H⟩:=q2R H 0
 obtain⟨rfl,hI2,hS2,H⟩:=q2R H 1
 refine (En Tryz.func202) ?_
 refine R ((BX H) fun b1 w1 H=>(BX H) fun b2 w2 H=>(A) (Z (R ((D 0) ((L H 0) ((D 0) ((L H 1) ((B) ?_))))))))
 let d1:List It:=[.B b1 122 (q2J a0),.B b2 122 (q2J a1)]
 refine bb hr fun q1 hm1 hr=>?_
 refine cu H 14 [(4,.bool false),(23,.bool q1)] d2 d1 ?_ fun σ w4 H=>?_
 ·refine jD hm1 (fun _ hm1=>?_) fun _ hm1=>?_
  ·exact OF hm1
  refine (G) ((D 0) ((G) ((L H 0) ((G) ((D 0) ((G) ((L H 1) ((G) ((B) ((G) ?_))))))))))
  refine bb hm1 fun q2 hm2 hm1=>?_
  refine cu H 7 [(4,.bool false),(10,.bool false),(22,.bool q2)] d2 d1 ?_ fun σ w3 H=>?_
  ·refine (G) (jD hm2 (fun _ hm2=>?_) fun _ hm2=>?_)
   ·exact (G) ((D 1) ((G) ((L H 0) ((G) ((D 1) ((G) ((L H 1) ((G) ((B) ((G) ((T) (Z (C1 hm2)))))))))))))
   exact (O) ((O) ((O) ((O) ((O) ((G) ((U) (Z (C1 hm2))))))))
  exact (U) (Z (C1 hm1))
 exact (AZ) (W1 hr)
def z1d (a0:(List Occurrence))(a1:Occurrence):Int→Option (Int ⊕ Int):=fun s2=>if s2 < (a0.length:Int) then grd (0≤s2) <| (a0[s2.toNat]?).bind fun x1=>(z2X x1 a1).bind fun y1=>if y1=true then grd (I64 (s2+1)) <| some (.inl (s2+1)) else some (.inr s2) else some (.inr s2)
def z8b (a0:(List Occurrence))(a1:Occurrence):Option (List Occurrence):=( q5u (z1d a0 a1) 0 ).bind fun s1=>if s1 < (a0.length:Int) then grd (0≤s1) <| (a0[s1.toNat]?).bind fun x2=>if x2=a1 then some a0 else grd (0≤s1) <| grd (s1.toNat≤a0.length) <| grd (((([]:List Occurrence).length:Int)+((a0.take s1.toNat).length:Int))*24≤140737488355328∧(([]:List Occurrence).length:Int)+((a0.take s1.toNat).length:Int)≤9223372036854775807) <| grd ((((a0.take s1.toNat).length:Int)+1)*24≤140737488355328∧((a0.take s1.toNat).length:Int)+1≤9223372036854775807) <| grd (0≤s1) <| grd (s1.toNat≤a0.length) <| grd (((((a0.take s1.toNat)++[a1]).length:Int)+((a0.drop s1.toNat).length:Int))*24≤140737488355328∧(((a0.take s1.toNat)++[a1]).length:Int)+((a0.drop s1.toNat).length:Int)≤9223372036854775807) <| some (((a0.take s1.toNat)++[a1])++(a0.drop s1.toNat)) else grd (0≤s1) <| grd (s1.toNat≤a0.length) <| grd (((([]:List Occurrence).length:Int)+((a0.take s1.toNat).length:Int))*24≤140737488355328∧(([]:List Occurrence).length:Int)+((a0.take s1.toNat).length:Int)≤9223372036854775807) <| grd ((((a0.take s1.toNat).length:Int)+1)*24≤140737488355328∧((a0.take s1.toNat).length:Int)+1≤9223372036854775807) <| grd (0≤s1) <| grd (s1.toNat≤a0.length) <| grd (((((a0.take s1.toNat)++[a1]).length:Int)+((a0.drop s1.toNat).length:Int))*24≤140737488355328∧(((a0.take s1.toNat)++[a1]).length:Int)+((a0.drop s1.toNat).length:Int)≤9223372036854775807) <| some (((a0.take s1.toNat)++[a1])++(a0.drop s1.toNat))
theorem j5V {a0}{a1}{r}(hr:z8b a0 a1=some r){z0}(ha0:rdS F0 w0 a0 z0){ca1}(ha1:rd F0 w0 a1 ca1):RT 178 #[z0,ag ca1] w0 fun v w=>∃ A0 n0 c0,v=(.slice A0 n0 c0)∧HL F0 [] w0 w [.S r (.slice A0 n0 c0)] []:=by
 let d1:=q2J a1
 obtain⟨A0',n0',c0',rfl⟩:=ha0.form3
 let d2:Pr:=.S a0 (.slice A0' n0' c0')
 have H:=((HL.start F0 w0).argS ha0).argR ha1
 obtain⟨rfl,hI1,hS1,H⟩:=q2R H 1
 refine (En Tryz.func178) ?_
 refine R ((BX H) fun b1 w1 H=>(A) (Z (R ((AZ) ?_))))
 refine bb hr fun q1 hm1 hr=>Y ?_
 refine q0o (fun ρ' w=>∃ (s1:Int),s1=q1∧q4z ρ' [(0,.slice A0' n0' c0'),(3,pB b1),(5,.int .i64 s1)]∧I64 s1∧HL F0 [] w0 w [d2,.R a1 d1] [.B b1 122 d1]) ?_ ?_
 ·obtain⟨m1,hq1⟩:=q4o.1 hm1
  refine (lI hq1 (fun m1 s2 _=>[(0,.slice A0' n0' c0'),(3,pB b1),(5,.int .i64 s2)]) (fun s2 _ w=>I64 s2∧HL F0 [] w0 w [d2,.R a1 d1] [.B b1 122 d1]) ()) ?_
  rintro m1 s2 _ σ w2 hq1 ⟨hI3,H⟩
  obtain⟨m2,z1,rfl,hb1,hs1,ht1⟩:=q6H hq1
  refine Y (Y ?_)
  refine q0g hmix (by kernel_rfl) ?_
  refine (qV) ((qV) ?_)
  have hl1:=(H.rS (i:=0) rfl).I
  refine (qNN (rs H 0)) ((qB) ?_)
  refine kD hb1 (fun _ hb1=>?_) fun _ hb1=>?_
  ·refine (qG) ((qV) ((qG) ((qV) ((qG) ?_))))
   refine gg hb1 fun hg1 hb1=>?_
   refine bb hb1 fun x1 hx1 hb1=>?_
   obtain⟨b2,ob2,cb2,hvb2,hI4,hS2,H⟩:=q6e H 0 hx1
   refine q0k rfl rfl (fun _ _=>q0p rfl el88 q3Y rfl hvb2 rfl hg1 (q4X hx1)) ?_
   refine (qG) ((qLA H 2) ((qG) ((qLB H 0) ((qG) ?_))))
   refine bb hb1 fun y1 hy1 hb1=>?_
   refine (qC k2Z (fun _ hq=>j1S hy1 (F0:=nF) ⟨rfl,hI4,hS2⟩ ⟨rfl,hI1,hS1⟩)) ?_
   refine (qT) ?_
   refine QL.nil (fun w3 hE=>?_)
   have H:=H.ext hE
   refine iB hb1 (fun _ hb1=>?_) fun _ hb1=>?_
   ·refine K ?_
    refine Bk (X ((V) ?_))
    exact gg hb1 fun hg2 hb1=>(BN (Bin.add hg2)) ((A) (Z (I2 hb1 hs1 ⟨m2,(s2+1),()⟩)))
   exact CE (C2 hb1 ht1)
  refine (qO) ((qO) ((qO) ((qO) ((qO) ((qO) ((qU) ?_))))))
  refine QL.nil (fun w4 hE=>?_)
  have H:=H.ext hE
  exact (cF) (CE (C2 hb1 ht1))
 rintro ρ' w5 ⟨s1,rfl,hag,hI2,H⟩
 obtain⟨σ,rfl⟩:=q4g hag
 refine Y (Y ?_)
 refine q0g hmix (by kernel_rfl) ?_
 refine (qV) ((qV) ?_)
 have hl2:=(H.rS (i:=0) rfl).I
 refine (qNN (rs H 0)) ((qB) ?_)
 refine kD hr (fun _ hr=>?_) fun _ hr=>?_
 ·refine (qG) ((qV) ((qG) ((qV) ((qG) ?_))))
  refine gg hr fun hg3 hr=>?_
  refine bb hr fun x2 hx2 hr=>?_
  obtain⟨b3,ob3,cb3,hvb3,hI5,hS3,H⟩:=q6e H 0 hx2
  refine q0k rfl rfl (fun _ _=>q0p rfl el88 q3Y rfl hvb3 rfl hg3 (q4X hx2)) ?_
  refine (qG) ((qLA H 2) ((qG) ((qLB H 0) ((qG) ((qBN (q0D z9B (q4J x2 a1))) ((qT) ?_))))))
  refine QL.nil (fun w6 hE=>?_)
  have H:=H.ext hE
  refine iD hr (fun _ hr=>?_) fun _ hr=>?_
  ·refine R ((V) ((AZ) (CR ?_)))
   obtain rfl:=sm hr
   exact⟨_,res1 rfl rfl rfl,H.ext0,_,_,_,rfl,H.outM (fr':=[d2]) [false] fun _ h=>⟨h.get (i:=0) rfl,trivial⟩⟩
  refine K (R ?_)
  refine q0h (α:=Occurrence) rfl rfl rfl el88 q3Y H fun A1 n1 c1 w7 H=>(V) ((V) ?_)
  refine gg hr fun hg4 hr=>?_
  refine gg hr fun hg5 hr=>?_
  obtain⟨A2,n2,c2,e2,hc1,H⟩:=H.slH (i:=0) rfl hg5
  refine q0b rfl rfl (q0L rfl el88 q3Y rfl rfl ((Int.toNat_of_nonneg hg4).symm) hc1 e2) ?_
  refine gg hr fun hg6 hr=>?_
  refine q0K (i:=1) rfl rfl rfl el88 q3Y z6B q7h rfl rfl rfl H rfl (rs H 4) hg6 fun A3 n3 c3 w8 H=>(A) (Z (R ((V) ((LB H 0) ?_))))
  refine q0n rfl rfl rfl el88 q3Y q7h rfl rfl rfl rfl rfl rfl fun b4 w9 hE hb hB=>?_
  have H:=H.newB hE hb hB
  refine gg hr fun hg7 hr=>?_
  refine q0q (i:=1) (ys:=[a1]) rfl rfl rfl el88 q3Y z6B q7h rfl rfl rfl H rfl (fun _=>ownL.single ⟨rfl,hI1,hS1,rfl⟩) (.inr ⟨_,_,rfl,At.blk (rb H 2)⟩) hg7 fun A4 n4 c4 w10 H=>(AZ) (Y ?_)
  refine q0e [(0,.slice A0' n0' c0'),(5,.int .i64 s1),(6,.slice A4 n4 c4)] ⟨rfl,rfl,rfl,trivial⟩ fun σ=>?_
  have H:HL F0 [] w0 w10 [d2,.R a1 d1,.A b3 (ob3+s1.toNat*2) (q2J x2),.R x2 (q2J x2),.S (a0.take s1.toNat) (.slice A2 n2 c2)] [.B b1 122 d1,.O 122 ((a0.take s1.toNat)++[a1]) (.slice A4 n4 c4),.B b4 122 d1]:=H
  refine X ((V) ((V) ((V) ?_)))
  refine gg hr fun hg8 hr=>?_
  refine gg hr fun hg9 hr=>?_
  obtain⟨A5,n5,c5,e3,hc2,H⟩:=H.slL (i:=0) rfl hg9
  refine q0b rfl rfl (q1i rfl el88 q3Y rfl rfl ((Int.toNat_of_nonneg hg8).symm) hc2 e3) ?_
  refine gg hr fun hg10 hr=>?_
  refine q0K (i:=1) rfl rfl rfl el88 q3Y z6B q7h rfl rfl rfl H rfl (rs H 5) hg10 fun A6 n6 c6 w11 H=>(AZ) (CR ?_)
  have H:=H.frzO (i:=1) rfl
  obtain rfl:=sm hr
  exact⟨_,res1 rfl rfl rfl,H.ext0,_,_,_,rfl,H.outM (fr':=[.S (((a0.take s1.toNat)++[a1])++(a0.drop s1.toNat)) (.slice A6 n6 c6)]) [false,false,false] fun _ h=>⟨h.get (i:=6) rfl,trivial⟩⟩
 refine (qO) ((qO) ((qO) ((qO) ((qO) ((qO) ((qU) ?_))))))
 refine QL.nil (fun w12 hE=>?_)
 have H:=H.ext hE
 refine (cF) (K (R ?_))
 refine q0h (α:=Occurrence) rfl rfl rfl el88 q3Y H fun A7 n7 c7 w13 H=>(V) ((V) ?_)
 refine gg hr fun hg11 hr=>?_
 refine gg hr fun hg12 hr=>?_
 obtain⟨A8,n8,c8,e4,hc3,H⟩:=H.slH (i:=0) rfl hg12
 refine q0b rfl rfl (q0L rfl el88 q3Y rfl rfl ((Int.toNat_of_nonneg hg11).symm) hc3 e4) ?_
 refine gg hr fun hg13 hr=>?_
 refine q0K (i:=1) rfl rfl rfl el88 q3Y z6B q7h rfl rfl rfl H rfl (rs H 2) hg13 fun A9 n9 c9 w14 H=>(A) (Z (R ((V) ((LB H 0) ?_))))
 refine q0n rfl rfl rfl el88 q3Y q7h rfl rfl rfl rfl rfl rfl fun b5 w15 hE hb hB=>?_
 have H:=H.newB hE hb hB
 refine gg hr fun hg14 hr=>?_
 refine q0q (i:=1) (ys:=[a1]) rfl rfl rfl el88 q3Y z6B q7h rfl rfl rfl H rfl (fun _=>ownL.single ⟨rfl,hI1,hS1,rfl⟩) (.inr ⟨_,_,rfl,At.blk (rb H 2)⟩) hg14 fun A10 n10 c10 w16 H=>(A) (Z (R ((V) ((V) ((V) ?_)))))
 refine gg hr fun hg15 hr=>?_
 refine gg hr fun hg16 hr=>?_
 obtain⟨A11,n11,c11,e5,hc4,H⟩:=H.slL (i:=0) rfl hg16
 refine q0b rfl rfl (q1i rfl el88 q3Y rfl rfl ((Int.toNat_of_nonneg hg15).symm) hc4 e5) ?_
 refine gg hr fun hg17 hr=>?_
 refine q0K (i:=1) rfl rfl rfl el88 q3Y z6B q7h rfl rfl rfl H rfl (rs H 3) hg17 fun A12 n12 c12 w17 H=>(AZ) (CR ?_)
 have H:=H.frzO (i:=1) rfl
 obtain rfl:=sm hr
 exact⟨_,res1 rfl rfl rfl,H.ext0,_,_,_,rfl,H.outM (fr':=[.S (((a0.take s1.toNat)++[a1])++(a0.drop s1.toNat)) (.slice A12 n12 c12)]) [false,false,false] fun _ h=>⟨h.get (i:=4) rfl,trivial⟩⟩
def q9o (rec_sl4Uses:Expr→(List Occurrence)→Option (List Occurrence)):Nat→Expr→(List Occurrence)→Option (List Occurrence):=fun k1 x1 s1=>(rec_sl4Uses x1 s1).bind fun y2=>some y2
def z4C (rec_sl4Uses:Expr→(List Occurrence)→Option (List Occurrence)):Nat→Expr→(List Occurrence)→Option (List Occurrence):=fun k2 x2 s2=>(rec_sl4Uses x2 s2).bind fun y3=>some y3
def z1e (rec_sl4Uses:Expr→(List Occurrence)→Option (List Occurrence))(a0:Expr)(a1:(List Occurrence)):Option (List Occurrence):=if a0.Kind=3 then (z8b a1 (⟨a0.Pos,a0.Name⟩:Occurrence)).bind fun y1=>(q2G (q9o rec_sl4Uses) 0 a0.Args y1).bind fun s1=>some s1 else (q2G (z4C rec_sl4Uses) 0 a0.Args a1).bind fun s2=>some s2
theorem j2M {rec_sl4Uses:Expr→(List Occurrence)→Option (List Occurrence)}(ih_sl4Uses:∀ {a0:Expr} {a1 r:(List Occurrence)},rec_sl4Uses a0 a1=some r→∀ {F0:Nat→Prop} {w0:World} {ca0} (ha0:rd F0 w0 a0 ca0) {z1} (ha1:rdS F0 w0 a1 z1),RT 136 #[ag ca0,z1] w0 fun v w=>∃ A0 n0 c0,v=(.slice A0 n0 c0)∧HL F0 [] w0 w [.S r (.slice A0 n0 c0)] []){a0}{a1 r}(hr:z1e rec_sl4Uses a0 a1=some r){ca0}(ha0:rd F0 w0 a0 ca0){z1}(ha1:rdS F0 w0 a1 z1):RT 136 #[ag ca0,z1] w0 fun v w=>∃ A0 n0 c0,v=(.slice A0 n0 c0)∧HL F0 [] w0 w [.S r (.slice A0 n0 c0)] []:=by
 obtain⟨A1',n1',c1',rfl⟩:=ha1.form3
 let d3:Pr:=.S a1 (.slice A1' n1' c1')
 have H:=((HL.start F0 w0).argR ha0).argS ha1
 obtain⟨A1,n1,c1,rfl,hI1,hI2,hI3,hI4,hS1,hS2,H⟩:=q3X H 0
 let d2:Pr:=.S a0.Args (.slice A1 n1 c1)
 let d1:=q2T a0 A1 n1 c1
 refine (En Tryz.func136) ?_
 refine R ((BX H) fun b1 w1 H=>(A) (Z (Y (R ((D 0) ((L H 0) ((BZ) (iD hr (fun _ hr=>?_) fun _ hr=>?_))))))))
 ·let d4:List It:=[.B b1 125 d1]
  refine X ((V) ((D 2) ((L H 0) ((D 5) ((L H 0) ?_)))))
  refine q0b rfl rfl (Ev.build rfl j1L q7h rfl rfl rfl rfl) ?_
  refine bb hr fun y1 hy1 hr=>?_
  obtain⟨F,hF,hcl⟩:=H.call
  refine (CA k2N (j5V hy1 (hF.get (i:=1) rfl) ⟨rfl,hI3,hS2⟩)) ?_
  rintro _ w2 hE ⟨A2,n2,c2,rfl,H'⟩
  let d5:Pr:=.S y1 (.slice A2 n2 c2)
  have H:HL F0 [] w0 w2 [.R a0 d1,d3,d2,d5] d4:=hcl H'
  refine (A) (Z (Y (R ((AZ) ?_))))
  refine bb hr fun q1 hq1 hr=>?_
  refine Bk (CW.loop (α:=Nat × (List Occurrence) × Value) (fun ⟨k1,s1,v1⟩=>[(1,v1),(2,pB b1),(5,zN k1)]) (fun ⟨k1,s1,v1⟩ w=>k1≤a0.Args.length∧q2G (q9o rec_sl4Uses) k1 (a0.Args.drop k1) s1=some q1∧HL F0 [] w0 w [.R a0 d1,d3,d2,d5,.S s1 v1] d4) (fun ⟨k1,s1,v1⟩=>a0.Args.length - k1) ⟨0,y1,(.slice A2 n2 c2)⟩ ⟨rfl,rfl,rfl,trivial⟩ ⟨Nat.zero_le _,hq1,H.out (fun _ h=>(h.keep 4).app ⟨h.get (i:=3) rfl,trivial⟩) (List.take_sublist 1 d4)⟩ ?_)
  rintro⟨k1,s1,v1⟩ σ w3 ⟨hk1,hq1,H⟩
  obtain⟨A3,n3,c3,rfl⟩:=(H.rS (i:=4) rfl).form3
  refine Y (R ((V) ((D 6) ((L H 0) ((NI H 2) fun hl1=>(BZ) ?_)))))
  refine (iE hq1 (fun hk2 x1 z1 hx1 hb1 hq1=>?_) fun e=>?_)
  ·refine K (Y ?_)
   refine Bk (X ((D 6) ((L H 0) ((V) ?_))))
   obtain⟨b2,ob2,cb2,A4,n4,c4,hvb2,hI5,hI6,hI7,hI8,hS3,hS4,H⟩:=q4G H 2 hx1
   refine (J 7 hvb2 hx1) ((LA H 5) ((V) ?_))
   refine bb hb1 fun y2 hy2 hb1=>?_
   obtain⟨F,hF,hcl⟩:=H.call
   refine (CA j9O (ih_sl4Uses hy2 (q2F.2 ⟨_,rfl,hI5,hI6,hI7,hI8,hS3,hS4,(hF.get (i:=7) rfl)⟩) (hF.get (i:=4) rfl))) ?_
   rintro _ w4 hE ⟨A5,n5,c5,rfl,H'⟩
   have H:HL F0 [] w0 w4 [.R a0 d1,d3,d2,d5,.S s1 (.slice A3 n3 c3),.A b2 (ob2+k1*7) (q2T x1 A4 n4 c4),.R x1 (q2T x1 A4 n4 c4),.S x1.Args (.slice A4 n4 c4),.S y2 (.slice A5 n5 c5)] d4:=hcl H'
   refine (A) (Z (X ((V) ((AN hk2 hl1) ((AZ) ?_)))))
   obtain rfl:=sm hb1
   exact⟨⟨k1+1,y2,(.slice A5 n5 c5)⟩,⟨rfl,rfl,rfl,trivial⟩,⟨hk2,hq1,H.out (fun _ h=>(h.keep 4).app ⟨h.get (i:=8) rfl,trivial⟩) (List.take_sublist 1 d4)⟩,Nat.sub_lt_sub_left hk2 (Nat.lt_succ_self _)⟩
  obtain rfl:=e
  refine CE (R ((V) ((AZ) (CR ?_))))
  obtain rfl:=sm hr
  exact⟨_,res1 rfl rfl rfl,H.ext0,_,_,_,rfl,H.outM (fr':=[.S s1 (.slice A3 n3 c3)]) [false] fun _ h=>⟨h.get (i:=4) rfl,trivial⟩⟩
 refine K (Y (R ((AZ) ?_)))
 refine bb hr fun q2 hq2 hr=>?_
 refine Bk (CW.loop (α:=Nat × (List Occurrence) × Value) (fun ⟨k2,s2,v2⟩=>[(1,v2),(2,pB b1),(5,zN k2)]) (fun ⟨k2,s2,v2⟩ w=>k2≤a0.Args.length∧q2G (z4C rec_sl4Uses) k2 (a0.Args.drop k2) s2=some q2∧HL F0 [] w0 w [.R a0 d1,d3,d2,.S s2 v2] [.B b1 125 d1]) (fun ⟨k2,s2,v2⟩=>a0.Args.length - k2) ⟨0,a1,(.slice A1' n1' c1')⟩ ⟨rfl,rfl,rfl,trivial⟩ ⟨Nat.zero_le _,hq2,H.out (fun _ h=>(h.keep 3).app ⟨h.get (i:=1) rfl,trivial⟩) (List.take_sublist 1 [It.B b1 125 d1])⟩ ?_)
 rintro⟨k2,s2,v2⟩ σ w5 ⟨hk3,hq2,H⟩
 obtain⟨A6,n6,c6,rfl⟩:=(H.rS (i:=3) rfl).form3
 refine Y (R ((V) ((D 6) ((L H 0) ((NI H 2) fun hl2=>(BZ) ?_)))))
 refine (iE hq2 (fun hk4 x2 z2 hx2 hb2 hq2=>?_) fun e=>?_)
 ·refine K (Y ?_)
  refine Bk (X ((D 6) ((L H 0) ((V) ?_))))
  obtain⟨b3,ob3,cb3,A7,n7,c7,hvb3,hI9,hI10,hI11,hI12,hS5,hS6,H⟩:=q4G H 2 hx2
  refine (J 7 hvb3 hx2) ((LA H 4) ((V) ?_))
  refine bb hb2 fun y3 hy3 hb2=>?_
  obtain⟨F,hF,hcl⟩:=H.call
  refine (CA j9O (ih_sl4Uses hy3 (q2F.2 ⟨_,rfl,hI9,hI10,hI11,hI12,hS5,hS6,(hF.get (i:=6) rfl)⟩) (hF.get (i:=3) rfl))) ?_
  rintro _ w6 hE ⟨A8,n8,c8,rfl,H'⟩
  have H:HL F0 [] w0 w6 [.R a0 d1,d3,d2,.S s2 (.slice A6 n6 c6),.A b3 (ob3+k2*7) (q2T x2 A7 n7 c7),.R x2 (q2T x2 A7 n7 c7),.S x2.Args (.slice A7 n7 c7),.S y3 (.slice A8 n8 c8)] [.B b1 125 d1]:=hcl H'
  refine (A) (Z (X ((V) ((AN hk4 hl2) ((AZ) ?_)))))
  obtain rfl:=sm hb2
  exact⟨⟨k2+1,y3,(.slice A8 n8 c8)⟩,⟨rfl,rfl,rfl,trivial⟩,⟨hk4,hq2,H.out (fun _ h=>(h.keep 3).app ⟨h.get (i:=7) rfl,trivial⟩) (List.take_sublist 1 [It.B b1 125 d1])⟩,Nat.sub_lt_sub_left hk4 (Nat.lt_succ_self _)⟩
 obtain rfl:=e
 refine CE (R ((V) ((AZ) (CR ?_))))
 obtain rfl:=sm hr
 exact⟨_,res1 rfl rfl rfl,H.ext0,_,_,_,rfl,H.outM (fr':=[.S s2 (.slice A6 n6 c6)]) [false] fun _ h=>⟨h.get (i:=3) rfl,trivial⟩⟩
def q5Z:Nat→Expr→(List Occurrence)→Option (List Occurrence)
  | 0,_,_=>none
  | n+1,a0,a1=>z1e (q5Z n) a0 a1
def z8x (a0:Expr)(a1:(List Occurrence)):Option (List Occurrence):=recO fun n=>q5Z n a0 a1
theorem j2N (n:Nat):∀ {a0:Expr} {a1 r:(List Occurrence)},q5Z n a0 a1=some r→∀ {F0:Nat→Prop} {w0:World} {ca0} (ha0:rd F0 w0 a0 ca0) {z1} (ha1:rdS F0 w0 a1 z1),RT 136 #[ag ca0,z1] w0 fun v w=>∃ A0 n0 c0,v=(.slice A0 n0 c0)∧HL F0 [] w0 w [.S r (.slice A0 n0 c0)] []:=by
 induction n with
 | zero=>intro a0 a1 r hr; exact nomatch (show (none:Option (List Occurrence))=some r from hr)
 | succ n ih=>intro a0 a1 r hr; exact j2M ih hr
theorem j4O {a0}{a1 r}(hr:z8x a0 a1=some r){ca0}(ha0:rd F0 w0 a0 ca0){z1}(ha1:rdS F0 w0 a1 z1):RT 136 #[ag ca0,z1] w0 fun v w=>∃ A0 n0 c0,v=(.slice A0 n0 c0)∧HL F0 [] w0 w [.S r (.slice A0 n0 c0)] []:=by
 obtain⟨n,hn⟩:=q5m hr
 exact j2N n hn ha0 ha1
def q5T (a0:Expr):Option (List Occurrence):=(z8x a0 []).bind fun y1=>some y1
theorem z2r {a0}{r}(hr:q5T a0=some r){ca0}(ha0:rd F0 w0 a0 ca0):RT 89 #[ag ca0] w0 fun v w=>∃ A0 n0 c0,v=(.slice A0 n0 c0)∧HL F0 [] w0 w [.S r (.slice A0 n0 c0)] []:=by
 have H:=(HL.start F0 w0).argR ha0
 obtain⟨A1,n1,c1,rfl,hI1,hI2,hI3,hI4,hS1,hS2,H⟩:=q3X H 0
 refine (En Tryz.func89) ?_
 refine R ((BX H) fun b1 w1 H=>(A) (Z (R ((LB H 0) ?_))))
 refine q0h (α:=Occurrence) rfl rfl rfl el88 q3Y H fun A2 n2 c2 w2 H=>?_
 have H:=H.frzO (i:=1) rfl
 refine bb hr fun y1 hy1 hr=>?_
 obtain⟨F,hF,hcl⟩:=H.call
 refine (CA j9O (j4O hy1 (q2F.2 ⟨_,rfl,hI1,hI2,hI3,hI4,hS1,hS2,(hF.get (i:=1) rfl)⟩) (hF.get (i:=2) rfl))) ?_
 rintro _ w3 hE ⟨A3,n3,c3,rfl,H'⟩
 have H:HL F0 [] w0 w3 [.R a0 (q2T a0 A1 n1 c1),.S a0.Args (.slice A1 n1 c1),.S ([]:List Occurrence) (.slice A2 n2 c2),.S y1 (.slice A3 n3 c3)] [.B b1 125 (q2T a0 A1 n1 c1),It.emp]:=hcl H'
 refine (AZ) (CR ?_)
 obtain rfl:=sm hr
 exact⟨_,res1 rfl rfl rfl,H.ext0,_,_,_,rfl,H.outM (fr':=[.S y1 (.slice A3 n3 c3)]) [false,false] fun _ h=>⟨h.get (i:=3) rfl,trivial⟩⟩
def z6F (a1:ByteArray):Nat→Attribute→Unit→Option (Unit ⊕ (Attribute × Bool)):=fun k1 x1 _=>if x1.Name=a1 then some (.inr (x1,true)) else some (.inl ())
def q6U (a0:Symbol)(a1:ByteArray):Option (Attribute × Bool):=(q2I (z6F a1) 0 a0.Attributes ()).bind <| onr (fun r1=>some r1) fun _=>some ((⟨(⟨#[]⟩:ByteArray),0,0,false⟩:Attribute),false)
theorem q9p {a0}{a1}{r}(hr:q6U a0 a1=some r){ca0}(ha0:rd F0 w0 a0 ca0)(ha1:a1.size≤9223372036854775807):RT 84 #[ag ca0,.string a1] w0 fun v w=>v = .tuple #[.agg #[.string r.1.Name,.int .i64 r.1.Type_,.int .i64 r.1.Mode,.bool r.1.Circular],.bool r.2]∧r.1.Name.size≤9223372036854775807∧I64 r.1.Type_∧I64 r.1.Mode:=by
 have H:=(HL.start F0 w0).argR ha0
 obtain⟨A1,n1,c1,rfl,hS1,H⟩:=q6T H 0
 refine (En Tryz.func84) ?_
 refine R ((BX H) fun b1 w1 H=>(AH q7T H) fun b2 w2 H=>(A) (Z (Y (R ((AZ) ?_)))))
 refine bb hr fun q1 hq1 hr=>?_
 refine (lF hq1 (fun k1 _ _=>[(1,.string a1),(2,pB b1),(4,pB b2),(6,zN k1)]) (fun _ _ w=>HL F0 [] w0 w [.R a0 (q3W a0 A1 n1 c1),.S a0.Attributes (.slice A1 n1 c1)] [.B b1 69 (q3W a0 A1 n1 c1),.B b2 120 [.string eB,.int .i64 0,.int .i64 0,.bool false]]) ()) ?_
 rintro k1 _ _ σ w3 hk1 hq1 H
 refine Y (R ((V) ((D 1) ((L H 0) ((NI H 1) fun hl1=>(BZ) ?_)))))
 refine (iF hq1 hr (fun hk2 x1 z1 hx1 hb1 hs1 ht1=>?_) fun hr=>?_)
 ·refine K (Y ?_)
  refine Bk (R ((D 1) ((L H 0) ((V) ?_))))
  obtain⟨b3,ob3,cb3,hvb3,hS2,hI1,hI2,H⟩:=q4L H 1 hx1
  refine (J 4 hvb3 hx1) ((D 0) ((LC H 2) ((V) ((BZ) (iD hb1 (fun _ hb1=>?_) fun _ hb1=>?_)))))
  ·refine R ((D 1) ((L H 0) ((V) ((J 4 hvb3 hx1) ((LA H 2) ((SB H 1) fun w4 H=>(AZ) (CR ?_)))))))
   obtain rfl:=sm hb1
   obtain rfl:=ht1 _ rfl
   obtain rfl:=sm hr
   exact⟨_,z5J rfl z7z q9m rfl rfl rfl rfl (ab H 1) rfl,H.ext0,rfl,hS2,hI1,hI2⟩
  exact K (X ((V) ((AN hk2 hl1) ((A) (Z (I2 hb1 hs1 ⟨k1+1,(),()⟩))))))
 refine CE (R ?_)
 refine q0b rfl rfl (Ev.build rfl j9G q7T rfl rfl rfl rfl) ((SB H 1) fun w5 H=>(AZ) (CR ?_))
 obtain rfl:=sm hr
 exact⟨_,z5J rfl z7z q9m rfl rfl rfl rfl (ab H 1) rfl,H.ext0,rfl,dI,dI,dI⟩
def z6a (a0:Grammar)(a1:Rule)(a2:Occurrence):Option Bool:=(q4r a2.Pos 0 (a1.Right.length:Int)).bind fun y1=>if y1=true then (q5g a1 a2.Pos).bind fun y2=>(q4M a0 y2).bind fun (y3,y4)=>(q6U y3 a2.Name).bind fun (y5,y6)=>if a2.Pos=0 then ( if y6=true then some (decide (y5.Mode=1)) else some false ).bind fun s1=>some s1 else ( if y6=true then some (decide (y5.Mode=2)) else some false ).bind fun s2=>some s2 else some false
theorem j4P {a0}{a1}{a2}{r}(hr:z6a a0 a1 a2=some r){ca0}(ha0:rd F0 w0 a0 ca0){ca1}(ha1:rd F0 w0 a1 ca1){ca2}(ha2:rd F0 w0 a2 ca2):RB 201 #[ag ca0,ag ca1,ag ca2] w0 r:=by
 have H:=(((HL.start F0 w0).argR ha0).argR ha1).argR ha2
 obtain⟨A1,n1,c1,A2,n2,c2,rfl,H⟩:=q2C H 0
 let d3:List Value:=[.slice A1 n1 c1,.slice A2 n2 c2]
 obtain⟨A3,n3,c3,A4,n4,c4,A5,n5,c5,rfl,hS1,hS2,H⟩:=q2U H 1
 let d2:=q3C a1 A3 n3 c3 A4 n4 c4 A5 n5 c5
 let d1:List Pr:=[.R a0 d3,.R a1 d2,.R a2 (q2J a2),.S a0.Symbols (.slice A1 n1 c1),.S a0.Rules (.slice A2 n2 c2),.S a1.Right (.slice A3 n3 c3),.S a1.Equations (.slice A4 n4 c4),.S a1.Contributions (.slice A5 n5 c5)]
 obtain⟨rfl,hI1,hS3,H⟩:=q2R H 2
 refine (En Tryz.func201) ?_
 refine R ((BX H) fun b1 w1 H=>(BX H) fun b2 w2 H=>(BX H) fun b3 w3 H=>(A) (Z (Y (R ((D 0) ((L H 2) ((D 2) ((L H 1) ((NI H 5) fun hl1=>?_)))))))))
 let d6:It:=.B b3 122 (q2J a2)
 refine bb hr fun y1 hy1 hr=>?_
 refine (CA ok77 (q4t hy1 (F0:=nF) hI1 dI hl1)) (cE H fun w4 H=>(N) (Z (iM hr (fun _ hr=>?_) fun h1 hr=>?_)))
 ·exact R ((AZ) (W1 hr))
 refine K ?_
 refine bb hr fun y2 hy2 hr=>?_
 obtain⟨_,_,_,hS4⟩:=(q4U hy2 ⟨_,_,_,rfl,hS1,hS2,(rs H 5),(rs H 6),(rs H 7)⟩ hI1).get
 obtain⟨⟨y3,y4⟩,hy3,hr⟩:=bd hr
 refine Y ?_
 refine q0H 11 (fun ρ=>[.fix (.agg #[.slice A1 n1 c1,.slice A2 n2 c2]),.fix (.agg #[.string a1.Name,.string a1.Left,.slice A3 n3 c3,.bool a1.Literal,.slice A4 n4 c4,.slice A5 n5 c5]),.fix (.pointer (some ⟨b3,0+0,none⟩)),.fix (.int .i64 a2.Pos),.fix (.string y2),.free (fun S v w=>∃ A6:Option Addr,∃ n6:Nat,∃ c6:Nat,v = .tuple #[.agg #[.string y3.Name,.slice A6 n6 c6],.bool y4]∧y3.Name.size≤9223372036854775807∧NewI S w [.O 120 y3.Attributes (.slice A6 n6 c6)]),.dep 24 id,.dep 18 (z2R 0),.dep 18 (z2R 1),.free (VarB 69 2),.wr 7 25 (WrB 69)]) [[],[],[],[],[],[],[24],[18],[18],[],[7,25]] NoM (fun _ _=>True) [] [none,none,none,none,none,none,none,none,none,none,some 9] (noM _) hmix (by kernel_rfl) rfl ⟨trivial,trivial,trivial,trivial,trivial,fun _ _ _ _ _ ⟨A6,n6,c6,hv,h0,hh⟩ hc hS hT=>⟨A6,n6,c6,hv,h0,hh.chgT hc hS⟩,trivial,trivial,trivial,fun _ _ _ _ _ h hc hS _=>h.chgT hc hS,fun _ _ _ _ _ _ h hc hS _=>h.chgT hc hS,trivial⟩ trivial (fun _ _ _ _ _ _ _=>trivial) ?_
 refine q0m rfl rfl rfl rfl rfl (fun _ hq hK=>q0c rfl ag31 sz31 rfl (At.blk ((H.ext hq).rB (i:=0) rfl)) rfl) ?_
 refine q0m rfl rfl rfl rfl rfl (fun _ hq hK=>q0c rfl ag65 sz65 rfl (At.blk ((H.ext hq).rB (i:=1) rfl)) rfl) ?_
 refine q0m rfl rfl rfl rfl rfl (fun _ hq hK=>q0v rfl j0A rfl) ?_
 refine q0m rfl rfl rfl rfl rfl (fun _ hq hK=>q0l rfl ag3 rfl (((H.ext hq).rB (i:=2) rfl).cell rfl)) ?_
 refine q0G rfl rfl rfl rfl (fun _ hq hK=>OpX.call rfl rfl rfl rfl ok82 rfl (q4U hy2 ⟨_,_,_,rfl,hS1,hS2,(rs (H.ext hq) 5),(rs (H.ext hq) 6),(rs (H.ext hq) 7)⟩ hI1) fun _ _ hE h=>⟨hE,h.1⟩) ?_
 refine LL2.free rfl rfl rfl rfl (fun wq hq hK=>?_) (fun v_G1_5 S_G1_5=>?_)
 ·refine OpX.call rfl rfl rfl rfl ok83 rfl (q7c hy3 ⟨_,_,rfl,(rs (H.ext hq) 3),(rs (H.ext hq) 4)⟩ hS4) ?_
  rintro _ w hE ⟨A6,n6,c6,rfl,h0,hh⟩
  exact⟨hE,A6,n6,c6,rfl,h0,NewI.of hh tv⟩
 refine q0V rfl rfl rfl rfl rfl (.inl rfl) rfl ?_
 refine q0C rfl rfl rfl rfl rfl rfl rfl (fun wq hq hK=>?_) ?_
 ·have hK:∀ j' (_:(q2K _).contains j'=true),_:=hK 6 rfl
  obtain⟨A6,n6,c6,rfl,_,_⟩:=hK 5 rfl
  exact⟨_,_,rfl,rfl⟩
 refine q0C rfl rfl rfl rfl rfl rfl rfl (fun wq hq hK=>?_) ?_
 ·have hK:∀ j' (_:(q2K _).contains j'=true),_:=hK 6 rfl
  obtain⟨A6,n6,c6,rfl,_,_⟩:=hK 5 rfl
  exact⟨_,_,rfl,rfl⟩
 refine LL2.free rfl rfl rfl rfl (fun wq hq hK=>q0z rfl rfl ze69 rfl) (fun v_G1_9 S_G1_9=>?_)
 refine LL2.st (k:=2) rfl rfl rfl (by decide) rfl rfl rfl rfl sz69 rfl rfl (fun wq hq hK=>hK 9 rfl) (fun wq hq hK=>?_) ?_
 ·obtain⟨A6,n6,c6,rfl,_,_⟩:=hK 5 rfl
  exact⟨_,rfl,rfl,(all1 rfl (all1 rfl all0))⟩
 intro w5 hE _ hK hap hbd
 have hE:=z0W hE
 obtain⟨A6,n6,c6,rfl,hS5,hN1⟩:=hK 5 (by decide)
 let d5:=q3W y3 A6 n6 c6
 let d4:It:=.O 120 y3.Attributes (.slice A6 n6 c6)
 obtain⟨b4,rfl,hN2⟩:=j1x (cells:=d5) (hK 9 (by decide)) (hK 10 (by decide)) rfl
 have H:=H.add hE (hN1.app hN2 fun q h1 h2=>absurd (hap 5 9 q h1 h2) (by decide)) ⟨fun _ _ _ _ _ h=>h,tv⟩ (fun q hq=>hq.elim (fun h=>(hbd 5 q h).1) fun h=>(hbd 9 q h).1)
 refine (AZ) (Y ?_)
 refine q0e [(5,pB b3),(7,pB b4)] ⟨rfl,rfl,trivial⟩ fun σ=>?_
 have H:HL F0 [] w0 w5 d1 [.B b1 31 d3,.B b2 65 d2,d6,d4,.B b4 69 d5]:=H
 refine X ((LB H 4) ((D 1) ((L H 2) ?_)))
 obtain⟨⟨y5,y6⟩,hy4,hr⟩:=bd hr
 refine (CA ok84 (q9p hy4 ⟨_,rfl,hS5,(ro H 3)⟩ hS3)) ?_
 rintro _ w6 hE ⟨rfl,hS6,hI2,hI3⟩
 have H:=H.ext hE
 refine (V) ((EX) ((EX) ((AH q7T H) fun b5 w7 H=>(SB H 5) fun w8 H=>(A) (Z (Y (R ((D 0) ((L H 2) ((BZ) (iD hr (fun _ hr=>?_) fun _ hr=>?_))))))))))
 ·refine R ((V) ?_)
  refine bb hr fun q1 hm1 hr=>?_
  refine cu H 5 [(42,.bool q1)] d1 [.B b1 31 d3,.B b2 65 d2,d6,d4,.B b4 69 d5,.B b5 120 (q3k y5)] ?_ fun σ w9 H=>?_
  ·refine jB hm1 (fun _ hm1=>?_) fun _ hm1=>?_
   ·exact (G) ((D 2) ((G) ((L H 5) ((G) ((B) ((T) (Z (C1 hm1))))))))
   exact OF hm1
  exact (AZ) (W1 hr)
 refine K (R ((V) ?_))
 refine bb hr fun q2 hm2 hr=>?_
 refine cu H 5 [(48,.bool q2)] d1 [.B b1 31 d3,.B b2 65 d2,d6,d4,.B b4 69 d5,.B b5 120 (q3k y5)] ?_ fun σ w10 H=>?_
 ·refine jB hm2 (fun _ hm2=>?_) fun _ hm2=>?_
  ·exact (G) ((D 2) ((G) ((L H 5) ((G) ((B) ((T) (Z (C1 hm2))))))))
  exact OF hm2
 exact (AZ) (W1 hr)
def z8y (a0:Grammar)(a1:Rule):Nat→Occurrence→Unit→Option (Unit ⊕ Bool):=fun k1 x1 _=>(z6a a0 a1 x1).bind fun y2=>if y2=true then some (.inl ()) else some (.inr false)
def z0R (a0:Grammar)(a1:Rule)(a2:Expr):Option Bool:=(q5T a2).bind fun y1=>(q2I (z8y a0 a1) 0 y1 ()).bind <| onr (fun r1=>some r1) fun _=>some true
theorem z5e {a0}{a1}{a2}{r}(hr:z0R a0 a1 a2=some r){ca0}(ha0:rd F0 w0 a0 ca0){ca1}(ha1:rd F0 w0 a1 ca1){ca2}(ha2:rd F0 w0 a2 ca2):RB 175 #[ag ca0,ag ca1,ag ca2] w0 r:=by
 have H:=(((HL.start F0 w0).argR ha0).argR ha1).argR ha2
 obtain⟨A1,n1,c1,A2,n2,c2,rfl,H⟩:=q2C H 0
 obtain⟨A3,n3,c3,A4,n4,c4,A5,n5,c5,rfl,hS1,hS2,H⟩:=q2U H 1
 let d3:=q3C a1 A3 n3 c3 A4 n4 c4 A5 n5 c5
 obtain⟨A6,n6,c6,rfl,hI1,hI2,hI3,hI4,hS3,hS4,H⟩:=q3X H 2
 refine (En Tryz.func175) ?_
 refine R ((BX H) fun b1 w1 H=>(BX H) fun b2 w2 H=>(BX H) fun b3 w3 H=>(A) (Z (R ((LB H 2) ?_))))
 let d2:List It:=[.B b1 31 [.slice A1 n1 c1,.slice A2 n2 c2],.B b2 65 d3,.B b3 125 (q2T a2 A6 n6 c6)]
 refine bb hr fun y1 hy1 hr=>?_
 obtain⟨F,hF,hcl⟩:=H.call
 refine (CA ok89 (z2r hy1 (q2F.2 ⟨_,rfl,hI1,hI2,hI3,hI4,hS3,hS4,(hF.get (i:=8) rfl)⟩))) ?_
 rintro _ w4 hE ⟨A7,n7,c7,rfl,H'⟩
 let d1:List Pr:=[.R a0 [.slice A1 n1 c1,.slice A2 n2 c2],.R a1 d3,.R a2 (q2T a2 A6 n6 c6),.S a0.Symbols (.slice A1 n1 c1),.S a0.Rules (.slice A2 n2 c2),.S a1.Right (.slice A3 n3 c3),.S a1.Equations (.slice A4 n4 c4),.S a1.Contributions (.slice A5 n5 c5),.S a2.Args (.slice A6 n6 c6),.S y1 (.slice A7 n7 c7)]
 have H:HL F0 [] w0 w4 d1 d2:=hcl H'
 refine (A) (Z (Y (R ((AZ) ?_))))
 refine bb hr fun q1 hq1 hr=>?_
 refine (lF hq1 (fun k1 _ _=>[(3,pB b1),(4,pB b2),(7,.slice A7 n7 c7),(8,zN k1)]) (fun _ _ w=>HL F0 [] w0 w d1 d2) ()) ?_
 rintro k1 _ _ σ w5 hk1 hq1 H
 refine Y (R ((V) ((V) ((NI H 9) fun hl1=>(BZ) ?_))))
 refine (iF hq1 hr (fun hk2 x1 z1 hx1 hb1 hs1 ht1=>?_) fun hr=>?_)
 ·refine K (Y ?_)
  refine Bk (Y ?_)
  refine q0g hmix (by kernel_rfl) ?_
  refine (qLB H 0) ((qLB H 1) ((qV) ((qV) ?_)))
  obtain⟨b4,ob4,cb4,hvb4,hI5,hS5,H⟩:=q6e H 9 hx1
  refine (qJ 2 hvb4 hx1) ((qLA H 10) ?_)
  refine bb hb1 fun y2 hy2 hb1=>?_
  refine (qC k2Y (fun _ hq=>j4P hy2 ⟨_,_,rfl,(rs (H.ext hq) 3),(rs (H.ext hq) 4)⟩ ⟨_,_,_,rfl,hS1,hS2,(rs (H.ext hq) 5),(rs (H.ext hq) 6),(rs (H.ext hq) 7)⟩ ⟨rfl,hI5,hS5⟩)) ?_
  refine (qN) ?_
  refine QL.nil (fun w6 hE=>?_)
  have H:=H.ext hE
  refine iM hb1 (fun _ hb1=>?_) fun _ hb1=>?_
  ·exact R ((AZ) (W2 hb1 ht1 hr))
  exact K (X ((V) ((AN hk2 hl1) ((A) (Z (I2 hb1 hs1 ⟨k1+1,(),()⟩))))))
 exact CE (R ((AZ) (W1 hr)))
def z6b (a0:Grammar)(a1:Rule):Nat→Equation→Unit→Option (Unit ⊕ Bool):=fun k1 x1 _=>(z0R a0 a1 x1.Expr).bind fun y1=>if y1=true then some (.inl ()) else some (.inr true)
def z6c (a0:Grammar)(a1:Rule):Nat→Contribution→Unit→Option (Unit ⊕ Bool):=fun k2 x2 _=>(z0R a0 a1 x2.Target).bind fun y2=>if y2=true then (z0R a0 a1 x2.Value).bind fun y3=>if y3=true then some (.inl ()) else some (.inr true) else some (.inr true)
def z1M (a0:Grammar)(a1:Rule):Option Bool:=(q2I (z6b a0 a1) 0 a1.Equations ()).bind <| onr (fun r1=>some r1) fun _=>(q2I (z6c a0 a1) 0 a1.Contributions ()).bind <| onr (fun r2=>some r2) fun _=>some false
theorem j0I {a0}{a1}{r}(hr:z1M a0 a1=some r){ca0}(ha0:rd F0 w0 a0 ca0){ca1}(ha1:rd F0 w0 a1 ca1):RB 130 #[ag ca0,ag ca1] w0 r:=by
 have H:=((HL.start F0 w0).argR ha0).argR ha1
 obtain⟨A1,n1,c1,A2,n2,c2,rfl,H⟩:=q2C H 0
 let d9:Pr:=.S a0.Rules (.slice A2 n2 c2)
 let d8:Pr:=.S a0.Symbols (.slice A1 n1 c1)
 let d5:List Value:=[.slice A1 n1 c1,.slice A2 n2 c2]
 obtain⟨A3,n3,c3,A4,n4,c4,A5,n5,c5,rfl,hS1,hS2,H⟩:=q2U H 1
 let d10:Pr:=.S a1.Right (.slice A3 n3 c3)
 let d7:Pr:=.S a1.Equations (.slice A4 n4 c4)
 let d6:Pr:=.S a1.Contributions (.slice A5 n5 c5)
 let d3:=q3C a1 A3 n3 c3 A4 n4 c4 A5 n5 c5
 let d2:List Pr:=[.R a0 d5,.R a1 d3,d8,d9,d10,d7,d6]
 refine (En Tryz.func130) ?_
 refine R ((BX H) fun b1 w1 H=>(BX H) fun b2 w2 H=>(A) (Z (Y (R ((AZ) ?_)))))
 let d1:List It:=[.B b1 31 d5,.B b2 65 d3]
 refine bb hr fun q1 hq1 hr=>?_
 refine (lF hq1 (fun k1 _ _=>[(2,pB b1),(3,pB b2),(5,zN k1)]) (fun _ _ w=>HL F0 [] w0 w d2 d1) ()) ?_
 rintro k1 _ _ σ w3 hk1 hq1 H
 refine Y (R ((V) ((D 4) ((L H 1) ((NI H 5) fun hl1=>(BZ) ?_)))))
 refine (iF hq1 hr (fun hk2 x1 z1 hx1 hb1 hs1 ht1=>?_) fun hr=>?_)
 ·refine K (Y ?_)
  refine Bk (Y ?_)
  refine q0g hmix (by kernel_rfl) ?_
  refine (qLB H 0) ((qLB H 1) ((qD 4) ((qL H 1) ((qV) ?_))))
  obtain⟨b3,ob3,cb3,A6,n6,c6,hvb3,hI1,hS3,hI2,hI3,hI4,hI5,hS4,hS5,H⟩:=q4k H 5 hx1
  refine (qJ 9 hvb3 hx1) ((qD 2) ?_)
  refine q0k rfl rfl (fun _ hq=>q0c rfl q7S q5E rfl (((H.ext hq).rA (i:=7) rfl).part 2 7) rfl) ?_
  refine bb hb1 fun y1 hy1 hb1=>?_
  refine (qC j9Q (fun _ hq=>z5e hy1 ⟨_,_,rfl,(rs (H.ext hq) 2),(rs (H.ext hq) 3)⟩ ⟨_,_,_,rfl,hS1,hS2,(rs (H.ext hq) 4),(rs (H.ext hq) 5),(rs (H.ext hq) 6)⟩ (q2F.2 ⟨_,rfl,hI2,hI3,hI4,hI5,hS4,hS5,(rs (H.ext hq) 9)⟩))) ?_
  refine (qN) ?_
  refine QL.nil (fun w4 hE=>?_)
  have H:=H.ext hE
  refine iM hb1 (fun _ hb1=>?_) fun _ hb1=>?_
  ·exact R ((AZ) (W2 hb1 ht1 hr))
  exact K (X ((V) ((AN hk2 hl1) ((A) (Z (I2 hb1 hs1 ⟨k1+1,(),()⟩))))))
 refine CE (Y (R ((AZ) ?_)))
 refine bb hr fun q2 hq2 hr=>?_
 refine (lF hq2 (fun k2 _ _=>[(2,pB b1),(3,pB b2),(6,zN k2)]) (fun _ _ w=>HL F0 [] w0 w d2 d1) ()) ?_
 rintro k2 _ _ σ w5 hk3 hq2 H
 refine Y (R ((V) ((D 5) ((L H 1) ((NI H 6) fun hl2=>(BZ) ?_)))))
 refine (iF hq2 hr (fun hk4 x2 z2 hx2 hb2 hs2 ht2=>?_) fun hr=>?_)
 ·refine K (Y ?_)
  refine Bk (Y ?_)
  refine q0g hmix (by kernel_rfl) ?_
  refine (qLB H 0) ((qLB H 1) ((qD 5) ((qL H 1) ((qV) ?_))))
  obtain⟨b4,ob4,cb4,A7,n7,c7,A8,n8,c8,hvb4,hS6,hS7,hI6,hI7,hI8,hI9,hS8,hS9,hI10,hI11,hI12,hI13,hS10,hS11,H⟩:=q4d H 6 hx2
  let d4:=q4K x2 A7 n7 c7 A8 n8 c8
  refine (qJ 16 hvb4 hx2) ((qD 2) ?_)
  refine q0k rfl rfl (fun _ hq=>q0c rfl q7S q5E rfl (((H.ext hq).rA (i:=7) rfl).part 2 7) rfl) ?_
  refine bb hb2 fun y2 hy2 hb2=>?_
  refine (qC j9Q (fun _ hq=>z5e hy2 ⟨_,_,rfl,(rs (H.ext hq) 2),(rs (H.ext hq) 3)⟩ ⟨_,_,_,rfl,hS1,hS2,(rs (H.ext hq) 4),(rs (H.ext hq) 5),(rs (H.ext hq) 6)⟩ (q2F.2 ⟨_,rfl,hI6,hI7,hI8,hI9,hS8,hS9,(rs (H.ext hq) 9)⟩))) ?_
  refine (qN) ?_
  refine kM hb2 (fun _ hb2=>?_) fun _ hb2=>?_
  ·refine (qO) ((qO) ((qO) ((qO) ((qO) ((qO) ((qO) ((qO) ((qO) ((qO) ((qT) ?_))))))))))
   refine QL.nil (fun w6 hE=>?_)
   have H:=H.ext hE
   exact (cT) (R ((AZ) (W2 hb2 ht2 hr)))
  refine (qG) ((qLB H 0) ((qG) ((qLB H 1) ((qG) ((qD 5) ((qG) ((qL H 1) ((qG) ((qV) ((qG) ((qJ 16 hvb4 hx2) ((qG) ((qD 9) ((qG) ?_))))))))))))))
  refine q0k rfl rfl (fun _ hq=>q0c rfl q7S q5E rfl (((H.ext hq).rA (i:=7) rfl).part 9 7) rfl) ?_
  refine (qG) ?_
  refine bb hb2 fun y3 hy3 hb2=>?_
  refine (qC j9Q (fun _ hq=>z5e hy3 ⟨_,_,rfl,(rs (H.ext hq) 2),(rs (H.ext hq) 3)⟩ ⟨_,_,_,rfl,hS1,hS2,(rs (H.ext hq) 4),(rs (H.ext hq) 5),(rs (H.ext hq) 6)⟩ (q2F.2 ⟨_,rfl,hI10,hI11,hI12,hI13,hS10,hS11,(rs (H.ext hq) 10)⟩))) ?_
  refine (qG) ((qN) ((qU) ?_))
  refine QL.nil (fun w7 hE=>?_)
  have H:=H.ext hE
  refine iM hb2 (fun _ hb2=>?_) fun _ hb2=>?_
  ·refine Y ?_
   refine q0e [] trivial fun σ=>?_
   have H:HL F0 [] w0 w7 [.R a0 d5,.R a1 d3,d8,d9,d10,d7,d6,.A b4 (ob4+k2*16) d4,.R x2 d4,.S x2.Target.Args (.slice A7 n7 c7),.S x2.Value.Args (.slice A8 n8 c8)] d1:=H
   exact X ((AZ) (W2 hb2 ht2 hr))
  refine K ?_
  refine q0e [(2,pB b1),(3,pB b2),(6,zN k2),(42,.agg #[.slice A1 n1 c1,.slice A2 n2 c2]),(43,.agg #[.string a1.Name,.string a1.Left,.slice A3 n3 c3,.bool a1.Literal,.slice A4 n4 c4,.slice A5 n5 c5]),(44,.pointer (some ⟨b2,0+5,none⟩)),(45,.slice A5 n5 c5),(46,zN k2),(47,.pointer (some ⟨b4,ob4+k2*16,none⟩)),(48,.pointer (some ⟨b4,ob4+k2*16+9,none⟩)),(49,.agg #[.int .i64 x2.Value.Kind,.int .i64 x2.Value.N,.int .i64 x2.Value.Pos,.int .i64 x2.Value.Type_,.string x2.Value.Symbol,.string x2.Value.Name,.slice A8 n8 c8]),(50,.bool y3),(51,.bool (!y3))] ⟨rfl,rfl,rfl,rfl,rfl,rfl,rfl,rfl,rfl,rfl,rfl,rfl,rfl,trivial⟩ fun σ=>?_
  have H:HL F0 [] w0 w7 [.R a0 d5,.R a1 d3,d8,d9,d10,d7,d6,.A b4 (ob4+k2*16) d4,.R x2 d4,.S x2.Target.Args (.slice A7 n7 c7),.S x2.Value.Args (.slice A8 n8 c8)] d1:=H
  exact X ((V) ((AN hk4 hl2) ((A) (Z (I2 hb2 hs2 ⟨k2+1,(),()⟩)))))
 exact CE (R ((AZ) (W1 hr)))
def z1N (a0:Grammar)(a1:Rule)(a2:Int):Option Bool:=if a2=3 then (z0x a0 a1).bind fun y1=>some (!y1) else if a2=4 then (z0y a0 a1).bind fun y2=>some y2 else if a2=5 then (z2W a0 a1).bind fun y3=>some y3 else (z1M a0 a1).bind fun y4=>some y4
theorem j0J {a0}{a1}{a2}{r}(hr:z1N a0 a1 a2=some r){ca0}(ha0:rd F0 w0 a0 ca0){ca1}(ha1:rd F0 w0 a1 ca1)(ha2:I64 a2):RB 79 #[ag ca0,ag ca1,.int .i64 a2] w0 r:=by
 have H:=((HL.start F0 w0).argR ha0).argR ha1
 obtain⟨A1,n1,c1,A2,n2,c2,rfl,H⟩:=q2C H 0
 obtain⟨A3,n3,c3,A4,n4,c4,A5,n5,c5,rfl,hS1,hS2,H⟩:=q2U H 1
 refine (En Tryz.func79) ?_
 refine R ((BX H) fun b1 w1 H=>(BX H) fun b2 w2 H=>(A) (Z (Y (R ((V) (Z ?_))))))
 refine Bk (R ((B) ((AZ) (iD hr (fun _ hr=>?_) fun _ hr=>?_))))
 ·refine R ((LB H 0) ((LB H 1) ?_))
  refine bb hr fun y1 hy1 hr=>?_
  exact (CA k2h (z9E hy1 ⟨_,_,rfl,(rs H 2),(rs H 3)⟩ ⟨_,_,_,rfl,hS1,hS2,(rs H 4),(rs H 5),(rs H 6)⟩)) (cE H fun w3 H=>(N) ((AZ) (W1 hr)))
 refine R ((B) ((AZ) (iD hr (fun _ hr=>?_) fun _ hr=>?_)))
 ·refine R ((LB H 0) ((LB H 1) ?_))
  refine bb hr fun y2 hy2 hr=>?_
  exact (CA k2i (z9F hy2 ⟨_,_,rfl,(rs H 2),(rs H 3)⟩ ⟨_,_,_,rfl,hS1,hS2,(rs H 4),(rs H 5),(rs H 6)⟩)) (cE H fun w4 H=>(AZ) (W1 hr))
 refine R ((B) ((AZ) (iD hr (fun _ hr=>?_) fun _ hr=>?_)))
 ·refine R ((LB H 0) ((LB H 1) ?_))
  refine bb hr fun y3 hy3 hr=>?_
  exact (CA k2j (j1R hy3 ⟨_,_,rfl,(rs H 2),(rs H 3)⟩ ⟨_,_,_,rfl,hS1,hS2,(rs H 4),(rs H 5),(rs H 6)⟩)) (cE H fun w5 H=>(AZ) (W1 hr))
 refine K (R ((LB H 0) ((LB H 1) ?_)))
 refine bb hr fun y4 hy4 hr=>?_
 exact (CA k2k (j0I hy4 ⟨_,_,rfl,(rs H 2),(rs H 3)⟩ ⟨_,_,_,rfl,hS1,hS2,(rs H 4),(rs H 5),(rs H 6)⟩)) (cE H fun w6 H=>(AZ) (W1 hr))
def z4Q:Nat→Attribute→Unit→Option (Unit ⊕ (Int × Int)):=fun k1 x2 _=>if x2.Mode=1 then some (.inr (2,0)) else some (.inl ())
def q9J (a0:Grammar)(s1:Int):Nat→Rule→Unit→Option (Unit ⊕ (Int × Int)):=fun k2 x3 _=>(z1N a0 x3 s1).bind fun y4=>if y4=true then some (.inr (s1,(k2:Int))) else some (.inl ())
def q9K (a0:Grammar):Int→Option (Int ⊕ (Unit ⊕ (Int × Int))):=fun s1=>if s1≤6 then (q2I (q9J a0 s1) 0 a0.Rules ()).bind <| onr (fun r2=>some (.inr (.inr r2))) fun _=>grd (I64 (s1+1)) <| some (.inl (s1+1)) else some (.inr (.inl ()))
def z0z (a0:Grammar):Option (Int × Int):=(q4r (a0.Symbols.length:Int) 1 4).bind fun y1=>if y1=true then (q4r (a0.Rules.length:Int) 1 8).bind fun y2=>if y2=true then (z5Y a0).bind fun y3=>if 0≤y3 then some (1,y3) else (a0.Symbols[0]?).bind fun x1=>(q2I z4Q 0 x1.Attributes ()).bind <| onr (fun r1=>some r1) fun _=>( q5u (q9K a0) 3 ).bind <| onr (fun r3=>some r3) fun ()=>some (0,0) else some (1,0) else some (1,0)
theorem z9G {a0}{r}(hr:z0z a0=some r){ca0}(ha0:rd F0 w0 a0 ca0):RT 38 #[ag ca0] w0 fun v w=>v = .tuple #[.int .i64 r.1,.int .i64 r.2]∧I64 r.1∧I64 r.2:=by
 have H:=(HL.start F0 w0).argR ha0
 obtain⟨A1,n1,c1,A2,n2,c2,rfl,H⟩:=q2C H 0
 let d2:List Value:=[.slice A1 n1 c1,.slice A2 n2 c2]
 refine (En Tryz.func38) ?_
 refine R ((BX H) fun b1 w1 H=>(A) ((A) (Z (Y (R ((D 0) ((L H 0) ((NI H 1) fun hl1=>?_))))))))
 refine bb hr fun y1 hy1 hr=>?_
 refine (CA ok77 (q4t hy1 (F0:=nF) hl1 dI dI)) (cE H fun w2 H=>(N) (jM hr (fun _ hr=>?_) fun _ hr=>?_))
 ·exact (O) ((O) ((O) ((O) ((O) ((T) (Z ((cT) (R ((A) ((AZ) (W1 hr)))))))))))
 refine (G) ((D 1) ((G) ((L H 0) ((G) ((NI H 2) fun hl2=>(G) ?_)))))
 refine bb hr fun y2 hy2 hr=>?_
 refine (CA ok77 (q4t hy2 (F0:=nF) hl2 dI dI)) (cE H fun w3 H=>(G) ((N) ((U) (Z (iM hr (fun _ hr=>?_) fun _ hr=>?_)))))
 ·exact R ((A) ((AZ) (W1 hr)))
 refine K (R ((LB H 0) ?_))
 refine bb hr fun y3 hy3 hr=>?_
 refine (CA ok78 (j4M hy3 ⟨_,_,rfl,(rs H 1),(rs H 2)⟩)) (cF' H fun w4 hI1 H=>(A) (Z (Y (R ((V) ((BZ) (iD hr (fun _ hr=>?_) fun _ hr=>?_)))))))
 ·exact R ((V) ((A) ((AZ) (W1 hr))))
 refine K (Y (R ((AZ) ?_)))
 refine bb hr fun x1 hx1 hr=>?_
 refine bb hr fun q1 hq1 hr=>?_
 refine (lF hq1 (fun k1 _ _=>[(1,pB b1),(5,zN k1)]) (fun _ _ w=>HL F0 [] w0 w [.R a0 d2,.S a0.Symbols (.slice A1 n1 c1),.S a0.Rules (.slice A2 n2 c2)] [.B b1 31 d2]) ()) ?_
 rintro k1 _ _ σ w5 hk1 hq1 H
 refine Y (R ((V) ((D 0) ((L H 0) ?_))))
 obtain⟨b2,ob2,cb2,A3,n3,c3,hvb2,hS1,H⟩:=q4B H 1 hx1
 let d1:List Pr:=[.R a0 d2,.S a0.Symbols (.slice A1 n1 c1),.S a0.Rules (.slice A2 n2 c2),.A b2 (ob2+0*2) (q3W x1 A3 n3 c3),.R x1 (q3W x1 A3 n3 c3),.S x1.Attributes (.slice A3 n3 c3)]
 refine (J 2 hvb2 hx1) ((D 1) ((LC H 3) ((NI H 5) fun hl3=>(BZ) ?_)))
 refine (iF hq1 hr (fun hk2 x2 z1 hx2 hb1 hs1 ht1=>?_) fun hr=>?_)
 ·refine K (Y ?_)
  refine Bk (R ((D 0) ((L H 0) ((J 2 hvb2 hx1) ((D 1) ((LC H 3) ((V) ?_)))))))
  obtain⟨b3,ob3,cb3,hvb3,hS2,hI2,hI3,H⟩:=q4L H 5 hx2
  refine (J 4 hvb3 hx2) ((D 2) ((LC H 6) ((BZ) (iD hb1 (fun _ hb1=>?_) fun _ hb1=>?_))))
  ·exact R ((A) ((AZ) (W2 hb1 ht1 hr)))
  exact K (X ((V) ((AN hk2 hl3) ((A) (Z (I2 hb1 hs1 ⟨k1+1,(),()⟩))))))
 refine CE (Y (R ((AZ) ?_)))
 refine bb hr fun q2 hm1 hr=>?_
 refine q0o (fun ρ' w=>q2 = .inl ()∧q4z ρ' []∧HL F0 [] w0 w d1 [.B b1 31 d2]) ?_ ?_
 ·obtain⟨m1,hq2⟩:=q4o.1 hm1
  refine (lI hq2 (fun m1 s1 _=>[(1,pB b1),(6,.int .i64 s1)]) (fun s1 _ w=>I64 s1∧HL F0 [] w0 w d1 [.B b1 31 d2]) ()) ?_
  rintro m1 s1 _ σ w6 hq2 ⟨hI4,H⟩
  obtain⟨m2,z2,rfl,hb2,hs2,ht2⟩:=q6H hq2
  refine Y (R ((V) ((BZ) (iD hb2 (fun _ hb2=>?_) fun _ hb2=>?_))))
  ·refine K (Y ?_)
   refine Bk (R ((AZ) ?_))
   refine bb hb2 fun q3 hq3 hb2=>?_
   refine (lF hq3 (fun k2 _ _=>[(1,pB b1),(6,.int .i64 s1),(7,zN k2)]) (fun _ _ w=>HL F0 [] w0 w d1 [.B b1 31 d2]) ()) ?_
   rintro k2 _ _ σ w7 hk3 hq3 H
   refine Y (R ((V) ((D 1) ((L H 0) ((NN (rs H 2)) ((BZ) ?_))))))
   refine (iF hq3 hb2 (fun hk4 x3 z3 hx3 hb3 hs3 ht3=>?_) fun hb2=>?_)
   ·refine K (Y ?_)
    refine Bk (Y ?_)
    refine q0g hmix (by kernel_rfl) ?_
    refine (qLB H 0) ((qD 1) ((qL H 0) ((qV) ?_)))
    obtain⟨b4,ob4,cb4,A4,n4,c4,A5,n5,c5,A6,n6,c6,hvb4,hS3,hS4,H⟩:=q6k H 2 hx3
    refine (qJ 6 hvb4 hx3) ((qLA H 6) ((qV) ?_))
    refine bb hb3 fun y4 hy4 hb3=>?_
    refine (qC ok79 (fun _ hq=>j0J hy4 ⟨_,_,rfl,(rs (H.ext hq) 1),(rs (H.ext hq) 2)⟩ ⟨_,_,_,rfl,hS3,hS4,(rs (H.ext hq) 8),(rs (H.ext hq) 9),(rs (H.ext hq) 10)⟩ hI4)) ?_
    refine QL.nil (fun w8 hE=>?_)
    have H:=H.ext hE
    refine iB hb3 (fun _ hb3=>?_) fun _ hb3=>?_
    ·exact R ((V) ((V) ((A) ((AZ) (W3 hb3 ht3 hb2 ht2 hr)))))
    exact K (X ((V) ((AN hk4 hl2) ((A) (Z (I2 hb3 hs3 ⟨k2+1,(),()⟩))))))
   refine CE (X ((V) ?_))
   exact gg hb2 fun hg1 hb2=>(BN (Bin.add hg1)) ((A) (Z (I2 hb2 hs2 ⟨m2,(s1+1),()⟩)))
  exact CE (C2 hb2 ht2)
 rintro ρ' w9 ⟨rfl,hag,H⟩
 obtain⟨σ,rfl⟩:=q4g hag
 exact R ((A) ((AZ) (W1 hr)))
def q6p (a0:Grammar)(a1 a2:ByteArray):Option Int:=(q4M a0 a1).bind fun (y1,y2)=>(q6U y1 a2).bind fun (y3,y4)=>if y4=true then some y3.Type_ else some 0
theorem q6V {a0}{a1 a2}{r}(hr:q6p a0 a1 a2=some r){ca0}(ha0:rd F0 w0 a0 ca0)(ha1:a1.size≤9223372036854775807)(ha2:a2.size≤9223372036854775807):RT 81 #[ag ca0,.string a1,.string a2] w0 fun v w=>v = .int .i64 r∧I64 r:=by
 have H:=(HL.start F0 w0).argR ha0
 obtain⟨A1,n1,c1,A2,n2,c2,rfl,H⟩:=q2C H 0
 refine (En Tryz.func81) ?_
 refine R ((BX H) fun b1 w1 H=>(A) (Z (R ((LB H 0) ((V) ?_)))))
 obtain⟨⟨y1,y2⟩,hy1,hr⟩:=bd hr
 refine (CA ok83 (q7c hy1 ⟨_,_,rfl,(rs H 1),(rs H 2)⟩ ha1)) ?_
 rintro _ w2 hE ⟨A3,n3,c3,rfl,hS1,H'⟩
 have H:=H.callA H' tv
 refine (V) ((EX) ((EX) ((AH ze69 H) fun b2 w3 H=>(SB H 2) fun w4 H=>(A) (Z (R ((LB H 2) ((V) ?_)))))))
 obtain⟨⟨y3,y4⟩,hy2,hr⟩:=bd hr
 refine (CA ok84 (q9p hy2 ⟨_,rfl,hS1,(ro H 1)⟩ ha2)) ?_
 rintro _ w5 hE ⟨rfl,hS2,hI1,hI2⟩
 have H:=H.ext hE
 refine (V) ((EX) ((EX) ((AH q7T H) fun b3 w6 H=>(SB H 3) fun w7 H=>(A) (Z (Y (R ((V) ((N) (Z (iM hr (fun _ hr=>?_) fun _ hr=>?_))))))))))
 ·exact R ((AZ) (W1 hr))
 exact K (R ((D 1) ((L H 3) ((AZ) (W1 hr)))))
def q8G (a0:Int):Option (Int × Int × Int):=(q4r a0 1 5).bind fun y1=>if y1=true then some (1,1,1) else (q4r a0 6 8).bind fun y2=>if y2=true then some (2,2,2) else if a0=9 then some (1,1,3) else if a0=10 then some (1,1,3) else if a0=11 then some (2,1,3) else if a0=12 then some (2,1,2) else some (0,0,0)
theorem z7D {a0}{r}(hr:q8G a0=some r){F0:Nat→Prop}(ha0:I64 a0):RT 176 #[.int .i64 a0] w0 fun v w=>v = .tuple #[.int .i64 r.1,.int .i64 r.2.1,.int .i64 r.2.2]∧I64 r.1∧I64 r.2.1∧I64 r.2.2:=by
 have H:=HL.start F0 w0
 refine (En Tryz.func176) ?_
 refine R ((A) ((A) ((AZ) (Y ?_))))
 refine Bk (R ((V) ?_))
 refine bb hr fun y1 hy1 hr=>?_
 refine (CA ok77 (q4t hy1 (F0:=nF) ha0 dI dI)) (cE H fun w1 H=>(AZ) (iB hr (fun _ hr=>?_) fun _ hr=>?_))
 ·exact R ((A) ((A) ((AZ) (W1 hr))))
 refine R ((V) ?_)
 refine bb hr fun y2 hy2 hr=>?_
 refine (CA ok77 (q4t hy2 (F0:=nF) ha0 dI dI)) (cE H fun w2 H=>(AZ) (iB hr (fun _ hr=>?_) fun _ hr=>?_))
 ·exact R ((A) ((A) ((AZ) (W1 hr))))
 refine R ((V) ((B) (jD hr (fun _ hr=>?_) fun _ hr=>?_)))
 ·exact (O) ((O) ((T) ((A) (Z ((cT) (R ((A) ((A) ((AZ) (W1 hr))))))))))
 refine (G) ((V) ((G) ((B) ((U) ((AZ) (iD hr (fun _ hr=>?_) fun _ hr=>?_))))))
 ·exact R ((A) ((A) ((AZ) (W1 hr))))
 refine R ((V) ((B) ((AZ) (iD hr (fun _ hr=>?_) fun _ hr=>?_))))
 ·exact R ((A) ((A) ((AZ) (W1 hr))))
 refine R ((V) ((B) ((AZ) (iD hr (fun _ hr=>?_) fun _ hr=>?_))))
 ·refine Y ?_
  refine q0e [] trivial fun σ=>?_
  have H:HL F0 [] w0 w2 [] []:=H
  exact X ((A) ((A) ((AZ) (W1 hr))))
 refine K (Y ?_)
 refine q0e [] trivial fun σ=>?_
 have H:HL F0 [] w0 w2 [] []:=H
 exact X ((A) ((A) ((AZ) (W1 hr))))
def j0K (rec_sTypeOfExpr:Grammar→Rule→Expr→Option Int)(a0:Grammar)(a1:Rule)(a2:Expr):Option Int:=(q8G a2.N).bind fun (y1,y2,y3)=>if (a2.Args.length:Int)=2 then (a2.Args[0]?).bind fun x1=>(rec_sTypeOfExpr a0 a1 x1).bind fun y4=>if y4=y1 then (a2.Args[1]?).bind fun x2=>(rec_sTypeOfExpr a0 a1 x2).bind fun y5=>if y5=y2 then some y3 else some 0 else some 0 else some 0
theorem j5W {rec_sTypeOfExpr:Grammar→Rule→Expr→Option Int}(ih_sTypeOfExpr:∀ {a0:Grammar} {a1:Rule} {a2:Expr} {r:Int},rec_sTypeOfExpr a0 a1 a2=some r→∀ {F0:Nat→Prop} {w0:World} {ca0} (ha0:rd F0 w0 a0 ca0) {ca1} (ha1:rd F0 w0 a1 ca1) {ca2} (ha2:rd F0 w0 a2 ca2),RT 80 #[ag ca0,ag ca1,ag ca2] w0 fun v w=>v = .int .i64 r∧I64 r){a0}{a1}{a2}{r}(hr:j0K rec_sTypeOfExpr a0 a1 a2=some r){ca0}(ha0:rd F0 w0 a0 ca0){ca1}(ha1:rd F0 w0 a1 ca1){ca2}(ha2:rd F0 w0 a2 ca2):RT 131 #[ag ca0,ag ca1,ag ca2] w0 fun v w=>v = .int .i64 r∧I64 r:=by
 have H:=(((HL.start F0 w0).argR ha0).argR ha1).argR ha2
 obtain⟨A1,n1,c1,A2,n2,c2,rfl,H⟩:=q2C H 0
 let d10:Pr:=.S a0.Rules (.slice A2 n2 c2)
 let d7:Pr:=.S a0.Symbols (.slice A1 n1 c1)
 let d4:List Value:=[.slice A1 n1 c1,.slice A2 n2 c2]
 obtain⟨A3,n3,c3,A4,n4,c4,A5,n5,c5,rfl,hS1,hS2,H⟩:=q2U H 1
 let d11:Pr:=.S a1.Right (.slice A3 n3 c3)
 let d6:Pr:=.S a1.Equations (.slice A4 n4 c4)
 let d5:Pr:=.S a1.Contributions (.slice A5 n5 c5)
 let d3:=q3C a1 A3 n3 c3 A4 n4 c4 A5 n5 c5
 obtain⟨A6,n6,c6,rfl,hI1,hI2,hI3,hI4,hS3,hS4,H⟩:=q3X H 2
 let d12:Pr:=.S a2.Args (.slice A6 n6 c6)
 let d8:=q2T a2 A6 n6 c6
 refine (En Tryz.func131) ?_
 refine R ((BX H) fun b1 w1 H=>(BX H) fun b2 w2 H=>(BX H) fun b3 w3 H=>(A) (Z (R ((D 1) ((L H 2) ?_)))))
 let d2:List It:=[.B b1 31 d4,.B b2 65 d3,.B b3 125 d8]
 obtain⟨⟨y1,y2,y3⟩,hy1,hr⟩:=bd hr
 refine (CA k2L (z7D hy1 (F0:=nF) hI2)) ?_
 rintro _ w4 hE ⟨rfl,hI5,hI6,hI7⟩
 have H:=H.ext hE
 refine (V) ((EX) ((EX) ((EX) ((A) ((A) ((AZ) (Y (Y ?_))))))))
 refine q0g hmix (by kernel_rfl) ?_
 refine (qD 6) ((qL H 2) ?_)
 have hl1:=(H.rS (i:=8) rfl).I
 refine (qNN (rs H 8)) ((qB) ?_)
 refine kN hr (fun _ hr=>?_) fun _ hr=>?_
 ·refine (qO) ((qO) ((qO) ((qO) ((qO) ((qO) ((qO) ((qO) ((qO) ((qT) ((qV) ((qO) ((qO) ((qO) ((qO) ((qO) ((qO) ((qO) ((qO) ((qO) ((qT) ?_))))))))))))))))))))
  refine QL.nil (fun w5 hE=>?_)
  have H:=H.ext hE
  refine (cT) (Y ?_)
  refine q0e [] trivial fun σ=>?_
  have H:HL F0 [] w0 w5 [.R a0 d4,.R a1 d3,.R a2 d8,d7,d10,d11,d6,d5,d12] d2:=H
  exact X ((AZ) (W1 hr))
 refine (qG) ((qLB H 0) ((qG) ((qLB H 1) ((qG) ((qD 6) ((qG) ((qL H 2) ((qG) ?_))))))))
 refine bb hr fun x1 hx1 hr=>?_
 obtain⟨b4,ob4,cb4,A7,n7,c7,hvb4,hI8,hI9,hI10,hI11,hS5,hS6,H⟩:=q4G H 8 hx1
 let d9:=q2T x1 A7 n7 c7
 refine (qJ 7 hvb4 hx1) ((qG) ((qLA H 9) ((qG) ?_)))
 refine bb hr fun y4 hy2 hr=>?_
 refine (qC ok80 (fun _ hq=>(ih_sTypeOfExpr hy2 ⟨_,_,rfl,(rs (H.ext hq) 3),(rs (H.ext hq) 4)⟩ ⟨_,_,_,rfl,hS1,hS2,(rs (H.ext hq) 5),(rs (H.ext hq) 6),(rs (H.ext hq) 7)⟩ (q2F.2 ⟨_,rfl,hI8,hI9,hI10,hI11,hS5,hS6,(rs (H.ext hq) 11)⟩)).mono fun _ _ _ h=>h.1)) ?_
 obtain⟨_,_,_,hI12⟩:=(ih_sTypeOfExpr hy2 ⟨_,_,rfl,(rs H 3),(rs H 4)⟩ ⟨_,_,_,rfl,hS1,hS2,(rs H 5),(rs H 6),(rs H 7)⟩ (q2F.2 ⟨_,rfl,hI8,hI9,hI10,hI11,hS5,hS6,(rs H 11)⟩)).get
 refine (qG) ((qV) ((qG) ((qB) ((qU) ?_))))
 refine kN hr (fun _ hr=>?_) fun _ hr=>?_
 ·refine (qO) ((qO) ((qO) ((qO) ((qO) ((qO) ((qO) ((qO) ((qO) ((qT) ?_)))))))))
  refine QL.nil (fun w6 hE=>?_)
  have H:=H.ext hE
  refine (cT) (Y ?_)
  refine q0e [] trivial fun σ=>?_
  have H:HL F0 [] w0 w6 [.R a0 d4,.R a1 d3,.R a2 d8,d7,d10,d11,d6,d5,d12,.A b4 (ob4+0*7) d9,.R x1 d9,.S x1.Args (.slice A7 n7 c7)] d2:=H
  exact X ((AZ) (W1 hr))
 refine (qG) ((qLB H 0) ((qG) ((qLB H 1) ((qG) ((qD 6) ((qG) ((qL H 2) ((qG) ?_))))))))
 refine bb hr fun x2 hx2 hr=>?_
 obtain⟨b5,ob5,cb5,A8,n8,c8,hvb5,hI13,hI14,hI15,hI16,hS7,hS8,H⟩:=q4G H 8 hx2
 let d1:List Pr:=[.R a0 d4,.R a1 d3,.R a2 d8,d7,d10,d11,d6,d5,d12,.A b4 (ob4+0*7) d9,.R x1 d9,.S x1.Args (.slice A7 n7 c7),.A b5 (ob5+1*7) (q2T x2 A8 n8 c8),.R x2 (q2T x2 A8 n8 c8),.S x2.Args (.slice A8 n8 c8)]
 refine (qJ 7 hvb5 hx2) ((qG) ((qLA H 12) ((qG) ?_)))
 refine bb hr fun y5 hy3 hr=>?_
 refine (qC ok80 (fun _ hq=>(ih_sTypeOfExpr hy3 ⟨_,_,rfl,(rs (H.ext hq) 3),(rs (H.ext hq) 4)⟩ ⟨_,_,_,rfl,hS1,hS2,(rs (H.ext hq) 5),(rs (H.ext hq) 6),(rs (H.ext hq) 7)⟩ (q2F.2 ⟨_,rfl,hI13,hI14,hI15,hI16,hS7,hS8,(rs (H.ext hq) 14)⟩)).mono fun _ _ _ h=>h.1)) ?_
 obtain⟨_,_,_,hI17⟩:=(ih_sTypeOfExpr hy3 ⟨_,_,rfl,(rs H 3),(rs H 4)⟩ ⟨_,_,_,rfl,hS1,hS2,(rs H 5),(rs H 6),(rs H 7)⟩ (q2F.2 ⟨_,rfl,hI13,hI14,hI15,hI16,hS7,hS8,(rs H 14)⟩)).get
 refine (qG) ((qV) ((qG) ((qB) ((qU) ?_))))
 refine QL.nil (fun w7 hE=>?_)
 have H:=H.ext hE
 refine iN hr (fun _ hr=>?_) fun _ hr=>?_
 ·refine Y ?_
  refine q0e [] trivial fun σ=>?_
  have H:HL F0 [] w0 w7 d1 d2:=H
  exact X ((AZ) (W1 hr))
 refine K (Y ?_)
 refine q0e [(9,.int .i64 y3)] ⟨rfl,trivial⟩ fun σ=>?_
 have H:HL F0 [] w0 w7 d1 d2:=H
 exact X ((V) ((AZ) (W1 hr)))
def j0L (rec_sTypeOfExpr:Grammar→Rule→Expr→Option Int)(a0:Grammar)(a1:Rule)(a2:Expr):Option Int:=if (a2.Args.length:Int)=3 then (a2.Args[0]?).bind fun x1=>(rec_sTypeOfExpr a0 a1 x1).bind fun y1=>if y1=3 then (a2.Args[1]?).bind fun x2=>(rec_sTypeOfExpr a0 a1 x2).bind fun y2=>(a2.Args[2]?).bind fun x3=>(rec_sTypeOfExpr a0 a1 x3).bind fun y3=>if y2=y3 then some y2 else some 0 else some 0 else some 0
theorem j5X {rec_sTypeOfExpr:Grammar→Rule→Expr→Option Int}(ih_sTypeOfExpr:∀ {a0:Grammar} {a1:Rule} {a2:Expr} {r:Int},rec_sTypeOfExpr a0 a1 a2=some r→∀ {F0:Nat→Prop} {w0:World} {ca0} (ha0:rd F0 w0 a0 ca0) {ca1} (ha1:rd F0 w0 a1 ca1) {ca2} (ha2:rd F0 w0 a2 ca2),RT 80 #[ag ca0,ag ca1,ag ca2] w0 fun v w=>v = .int .i64 r∧I64 r){a0}{a1}{a2}{r}(hr:j0L rec_sTypeOfExpr a0 a1 a2=some r){ca0}(ha0:rd F0 w0 a0 ca0){ca1}(ha1:rd F0 w0 a1 ca1){ca2}(ha2:rd F0 w0 a2 ca2):RT 132 #[ag ca0,ag ca1,ag ca2] w0 fun v w=>v = .int .i64 r∧I64 r:=by
 have H:=(((HL.start F0 w0).argR ha0).argR ha1).argR ha2
 obtain⟨A1,n1,c1,A2,n2,c2,rfl,H⟩:=q2C H 0
 obtain⟨A3,n3,c3,A4,n4,c4,A5,n5,c5,rfl,hS1,hS2,H⟩:=q2U H 1
 let d1:=q3C a1 A3 n3 c3 A4 n4 c4 A5 n5 c5
 obtain⟨A6,n6,c6,rfl,hI1,hI2,hI3,hI4,hS3,hS4,H⟩:=q3X H 2
 refine (En Tryz.func132) ?_
 refine R ((BX H) fun b1 w1 H=>(BX H) fun b2 w2 H=>(BX H) fun b3 w3 H=>(AZ) (Y (Y ?_)))
 refine q0g hmix (by kernel_rfl) ?_
 refine (qD 6) ((qL H 2) ?_)
 have hl1:=(H.rS (i:=8) rfl).I
 refine (qNN (rs H 8)) ((qB) ?_)
 refine kN hr (fun _ hr=>?_) fun _ hr=>?_
 ·refine (qO) ((qO) ((qO) ((qO) ((qO) ((qO) ((qO) ((qO) ((qT) ?_))))))))
  refine QL.nil (fun w4 hE=>?_)
  have H:=H.ext hE
  exact (cT) (R ((AZ) (W1 hr)))
 refine (qG) ((qLB H 0) ((qG) ((qLB H 1) ((qG) ((qD 6) ((qG) ((qL H 2) ((qG) ?_))))))))
 refine bb hr fun x1 hx1 hr=>?_
 obtain⟨b4,ob4,cb4,A7,n7,c7,hvb4,hI5,hI6,hI7,hI8,hS5,hS6,H⟩:=q4G H 8 hx1
 refine (qJ 7 hvb4 hx1) ((qG) ((qLA H 9) ((qG) ?_)))
 refine bb hr fun y1 hy1 hr=>?_
 refine (qC ok80 (fun _ hq=>(ih_sTypeOfExpr hy1 ⟨_,_,rfl,(rs (H.ext hq) 3),(rs (H.ext hq) 4)⟩ ⟨_,_,_,rfl,hS1,hS2,(rs (H.ext hq) 5),(rs (H.ext hq) 6),(rs (H.ext hq) 7)⟩ (q2F.2 ⟨_,rfl,hI5,hI6,hI7,hI8,hS5,hS6,(rs (H.ext hq) 11)⟩)).mono fun _ _ _ h=>h.1)) ?_
 obtain⟨_,_,_,hI9⟩:=(ih_sTypeOfExpr hy1 ⟨_,_,rfl,(rs H 3),(rs H 4)⟩ ⟨_,_,_,rfl,hS1,hS2,(rs H 5),(rs H 6),(rs H 7)⟩ (q2F.2 ⟨_,rfl,hI5,hI6,hI7,hI8,hS5,hS6,(rs H 11)⟩)).get
 refine (qG) ((qB) ((qU) ?_))
 refine QL.nil (fun w5 hE=>?_)
 have H:=H.ext hE
 refine iN hr (fun _ hr=>?_) fun _ hr=>?_
 ·exact R ((AZ) (W1 hr))
 refine K (Y ?_)
 refine q0g hmix (by kernel_rfl) ?_
 refine (qLB H 0) ((qLB H 1) ((qD 6) ((qL H 2) ?_)))
 refine bb hr fun x2 hx2 hr=>?_
 obtain⟨b5,ob5,cb5,A8,n8,c8,hvb5,hI10,hI11,hI12,hI13,hS7,hS8,H⟩:=q4G H 8 hx2
 refine (qJ 7 hvb5 hx2) ((qLA H 12) ?_)
 refine bb hr fun y2 hy2 hr=>?_
 refine (qC ok80 (fun _ hq=>(ih_sTypeOfExpr hy2 ⟨_,_,rfl,(rs (H.ext hq) 3),(rs (H.ext hq) 4)⟩ ⟨_,_,_,rfl,hS1,hS2,(rs (H.ext hq) 5),(rs (H.ext hq) 6),(rs (H.ext hq) 7)⟩ (q2F.2 ⟨_,rfl,hI10,hI11,hI12,hI13,hS7,hS8,(rs (H.ext hq) 14)⟩)).mono fun _ _ _ h=>h.1)) ?_
 obtain⟨_,_,_,hI14⟩:=(ih_sTypeOfExpr hy2 ⟨_,_,rfl,(rs H 3),(rs H 4)⟩ ⟨_,_,_,rfl,hS1,hS2,(rs H 5),(rs H 6),(rs H 7)⟩ (q2F.2 ⟨_,rfl,hI10,hI11,hI12,hI13,hS7,hS8,(rs H 14)⟩)).get
 refine (qA) ?_
 refine QL.nil (fun w6 hE=>?_)
 have H:=H.ext hE
 refine Y (Y ?_)
 refine q0e [(3,pB b1),(4,pB b2),(5,pB b3),(7,.int .i64 y2)] ⟨rfl,rfl,rfl,rfl,trivial⟩ fun σ=>?_
 have H:HL F0 [] w0 w6 [.R a0 [.slice A1 n1 c1,.slice A2 n2 c2],.R a1 d1,.R a2 (q2T a2 A6 n6 c6),.S a0.Symbols (.slice A1 n1 c1),.S a0.Rules (.slice A2 n2 c2),.S a1.Right (.slice A3 n3 c3),.S a1.Equations (.slice A4 n4 c4),.S a1.Contributions (.slice A5 n5 c5),.S a2.Args (.slice A6 n6 c6),.A b4 (ob4+0*7) (q2T x1 A7 n7 c7),.R x1 (q2T x1 A7 n7 c7),.S x1.Args (.slice A7 n7 c7),.A b5 (ob5+1*7) (q2T x2 A8 n8 c8),.R x2 (q2T x2 A8 n8 c8),.S x2.Args (.slice A8 n8 c8)] [.B b1 31 [.slice A1 n1 c1,.slice A2 n2 c2],.B b2 65 d1,.B b3 125 (q2T a2 A6 n6 c6)]:=H
 refine q0g hmix (by kernel_rfl) ?_
 refine (qV) ((qLB H 0) ((qLB H 1) ((qD 6) ((qL H 2) ?_))))
 refine bb hr fun x3 hx3 hr=>?_
 obtain⟨b6,ob6,cb6,A9,n9,c9,hvb6,hI15,hI16,hI17,hI18,hS9,hS10,H⟩:=q4G H 8 hx3
 refine (qJ 7 hvb6 hx3) ((qLA H 15) ?_)
 refine bb hr fun y3 hy3 hr=>?_
 refine (qC ok80 (fun _ hq=>(ih_sTypeOfExpr hy3 ⟨_,_,rfl,(rs (H.ext hq) 3),(rs (H.ext hq) 4)⟩ ⟨_,_,_,rfl,hS1,hS2,(rs (H.ext hq) 5),(rs (H.ext hq) 6),(rs (H.ext hq) 7)⟩ (q2F.2 ⟨_,rfl,hI15,hI16,hI17,hI18,hS9,hS10,(rs (H.ext hq) 17)⟩)).mono fun _ _ _ h=>h.1)) ?_
 obtain⟨_,_,_,hI19⟩:=(ih_sTypeOfExpr hy3 ⟨_,_,rfl,(rs H 3),(rs H 4)⟩ ⟨_,_,_,rfl,hS1,hS2,(rs H 5),(rs H 6),(rs H 7)⟩ (q2F.2 ⟨_,rfl,hI15,hI16,hI17,hI18,hS9,hS10,(rs H 17)⟩)).get
 refine (qB) ?_
 refine QL.nil (fun w7 hE=>?_)
 have H:=H.ext hE
 refine iN hr (fun _ hr=>?_) fun _ hr=>?_
 ·exact R ((AZ) (W1 hr))
 exact K (R ((V) ((AZ) (W1 hr))))
def z0A (rec_sTypeOfExpr:Grammar→Rule→Expr→Option Int)(a0:Grammar)(a1:Rule)(a2:Expr):Option Int:=if a2.Kind=1 then some a2.Type_ else if a2.Kind=2 then if a1.Literal=true then some 1 else some 0 else if a2.Kind=3 then (q4r a2.Pos 0 (a1.Right.length:Int)).bind fun y1=>if y1=true then (q5g a1 a2.Pos).bind fun y2=>(q6p a0 y2 a2.Name).bind fun y3=>some y3 else some 0 else if a2.Kind=4 then (j0K rec_sTypeOfExpr a0 a1 a2).bind fun y4=>some y4 else if a2.Kind=5 then (j0L rec_sTypeOfExpr a0 a1 a2).bind fun y5=>some y5 else if a2.Kind=6 then (q4r a2.Pos 0 (a1.Right.length:Int)).bind fun y6=>if y6=true then some 4 else some 0 else if a2.Kind=7 then some 4 else if a2.Kind=8 then if (a2.Args.length:Int)=1 then (a2.Args[0]?).bind fun x1=>(rec_sTypeOfExpr a0 a1 x1).bind fun y7=>if y7=4 then (q6p a0 a2.Symbol a2.Name).bind fun y8=>some y8 else some 0 else some 0 else some 0
theorem z8z {rec_sTypeOfExpr:Grammar→Rule→Expr→Option Int}(ih_sTypeOfExpr:∀ {a0:Grammar} {a1:Rule} {a2:Expr} {r:Int},rec_sTypeOfExpr a0 a1 a2=some r→∀ {F0:Nat→Prop} {w0:World} {ca0} (ha0:rd F0 w0 a0 ca0) {ca1} (ha1:rd F0 w0 a1 ca1) {ca2} (ha2:rd F0 w0 a2 ca2),RT 80 #[ag ca0,ag ca1,ag ca2] w0 fun v w=>v = .int .i64 r∧I64 r){a0}{a1}{a2}{r}(hr:z0A rec_sTypeOfExpr a0 a1 a2=some r){ca0}(ha0:rd F0 w0 a0 ca0){ca1}(ha1:rd F0 w0 a1 ca1){ca2}(ha2:rd F0 w0 a2 ca2):RT 80 #[ag ca0,ag ca1,ag ca2] w0 fun v w=>v = .int .i64 r∧I64 r:=by
 have H:=(((HL.start F0 w0).argR ha0).argR ha1).argR ha2
 obtain⟨A1,n1,c1,A2,n2,c2,rfl,H⟩:=q2C H 0
 obtain⟨A3,n3,c3,A4,n4,c4,A5,n5,c5,rfl,hS1,hS2,H⟩:=q2U H 1
 let d3:=q3C a1 A3 n3 c3 A4 n4 c4 A5 n5 c5
 obtain⟨A6,n6,c6,rfl,hI1,hI2,hI3,hI4,hS3,hS4,H⟩:=q3X H 2
 let d1:List Pr:=[.R a0 [.slice A1 n1 c1,.slice A2 n2 c2],.R a1 d3,.R a2 (q2T a2 A6 n6 c6),.S a0.Symbols (.slice A1 n1 c1),.S a0.Rules (.slice A2 n2 c2),.S a1.Right (.slice A3 n3 c3),.S a1.Equations (.slice A4 n4 c4),.S a1.Contributions (.slice A5 n5 c5),.S a2.Args (.slice A6 n6 c6)]
 refine (En Tryz.func80) ?_
 refine R ((BX H) fun b1 w1 H=>(BX H) fun b2 w2 H=>(BX H) fun b3 w3 H=>(A) (Z (Y (R ((D 0) ((L H 2) (Z ?_)))))))
 let d2:List It:=[.B b1 31 [.slice A1 n1 c1,.slice A2 n2 c2],.B b2 65 d3,.B b3 125 (q2T a2 A6 n6 c6)]
 refine Bk (R ((B) ((AZ) (iD hr (fun _ hr=>?_) fun _ hr=>?_))))
 ·exact R ((D 3) ((L H 2) ((AZ) (W1 hr))))
 refine R ((B) ((AZ) (iD hr (fun _ hr=>?_) fun _ hr=>?_)))
 ·refine R ((D 3) ((L H 1) (Z (iB hr (fun _ hr=>?_) fun _ hr=>?_))))
  ·exact R ((AZ) (W1 hr))
  exact K (R ((AZ) (W1 hr)))
 refine R ((B) ((AZ) (iD hr (fun _ hr=>?_) fun _ hr=>?_)))
 ·refine R ((D 2) ((L H 2) ((D 2) ((L H 1) ((NI H 5) fun hl1=>?_)))))
  refine bb hr fun y1 hy1 hr=>?_
  refine (CA ok77 (q4t hy1 (F0:=nF) hI3 dI hl1)) (cE H fun w4 H=>Z (iB hr (fun _ hr=>?_) fun _ hr=>?_))
  ·refine Y ?_
   refine q0g hmix (by kernel_rfl) ?_
   refine (qLB H 0) ((qLB H 1) ((qD 2) ((qL H 2) ?_)))
   refine bb hr fun y2 hy2 hr=>?_
   refine (qC ok82 (fun _ hq=>(q4U hy2 ⟨_,_,_,rfl,hS1,hS2,(rs (H.ext hq) 5),(rs (H.ext hq) 6),(rs (H.ext hq) 7)⟩ hI3).mono fun _ _ _ h=>h.1)) ?_
   obtain⟨_,_,_,hS5⟩:=(q4U hy2 ⟨_,_,_,rfl,hS1,hS2,(rs H 5),(rs H 6),(rs H 7)⟩ hI3).get
   refine (qD 5) ((qL H 2) ?_)
   refine bb hr fun y3 hy3 hr=>?_
   refine (qC ok81 (fun _ hq=>(q6V hy3 ⟨_,_,rfl,(rs (H.ext hq) 3),(rs (H.ext hq) 4)⟩ hS5 hS4).mono fun _ _ _ h=>h.1)) ?_
   obtain⟨_,_,_,hI5⟩:=(q6V hy3 ⟨_,_,rfl,(rs H 3),(rs H 4)⟩ hS5 hS4).get
   refine (qA) ?_
   refine QL.nil (fun w5 hE=>?_)
   have H:=H.ext hE
   exact W1 hr
  exact K (R ((AZ) (W1 hr)))
 refine R ((B) ((AZ) (iD hr (fun _ hr=>?_) fun _ hr=>?_)))
 ·refine R ((LB H 0) ((LB H 1) ((LB H 2) ?_)))
  refine bb hr fun y4 hy4 hr=>?_
  exact (CA k2l (j5W ih_sTypeOfExpr hy4 ⟨_,_,rfl,(rs H 3),(rs H 4)⟩ ⟨_,_,_,rfl,hS1,hS2,(rs H 5),(rs H 6),(rs H 7)⟩ (q2F.2 ⟨_,rfl,hI1,hI2,hI3,hI4,hS3,hS4,(rs H 8)⟩))) (cF' H fun w6 hI6 H=>(AZ) (W1 hr))
 refine R ((B) ((AZ) (iD hr (fun _ hr=>?_) fun _ hr=>?_)))
 ·refine R ((LB H 0) ((LB H 1) ((LB H 2) ?_)))
  refine bb hr fun y5 hy5 hr=>?_
  exact (CA k2m (j5X ih_sTypeOfExpr hy5 ⟨_,_,rfl,(rs H 3),(rs H 4)⟩ ⟨_,_,_,rfl,hS1,hS2,(rs H 5),(rs H 6),(rs H 7)⟩ (q2F.2 ⟨_,rfl,hI1,hI2,hI3,hI4,hS3,hS4,(rs H 8)⟩))) (cF' H fun w7 hI7 H=>(AZ) (W1 hr))
 refine R ((B) ((AZ) (iD hr (fun _ hr=>?_) fun _ hr=>?_)))
 ·refine R ((D 2) ((L H 2) ((D 2) ((L H 1) ((NI H 5) fun hl2=>?_)))))
  refine bb hr fun y6 hy6 hr=>?_
  refine (CA ok77 (q4t hy6 (F0:=nF) hI3 dI hl2)) (cE H fun w8 H=>Z (iB hr (fun _ hr=>?_) fun _ hr=>?_))
  ·refine Y ?_
   refine q0e [] trivial fun σ=>?_
   have H:HL F0 [] w0 w8 d1 d2:=H
   exact X ((AZ) (W1 hr))
  refine K (Y ?_)
  refine q0e [] trivial fun σ=>?_
  have H:HL F0 [] w0 w8 d1 d2:=H
  exact X ((AZ) (W1 hr))
 refine R ((B) ((AZ) (iD hr (fun _ hr=>?_) fun _ hr=>?_)))
 ·exact R ((AZ) (W1 hr))
 refine R ((B) ((AZ) (iD hr (fun _ hr=>?_) fun _ hr=>?_)))
 ·refine Y ?_
  refine q0e [(3,pB b1),(4,pB b2),(5,pB b3)] ⟨rfl,rfl,rfl,trivial⟩ fun σ=>?_
  have H:HL F0 [] w0 w3 d1 d2:=H
  refine q0g hmix (by kernel_rfl) ?_
  refine (qD 6) ((qL H 2) ?_)
  have hl3:=(H.rS (i:=8) rfl).I
  refine (qNN (rs H 8)) ((qB) ?_)
  refine kD hr (fun _ hr=>?_) fun _ hr=>?_
  ·refine (qG) ((qLB H 0) ((qG) ((qLB H 1) ((qG) ((qD 6) ((qG) ((qL H 2) ((qG) ?_))))))))
   refine bb hr fun x1 hx1 hr=>?_
   obtain⟨b4,ob4,cb4,A7,n7,c7,hvb4,hI8,hI9,hI10,hI11,hS6,hS7,H⟩:=q4G H 8 hx1
   refine (qJ 7 hvb4 hx1) ((qG) ((qLA H 9) ((qG) ?_)))
   refine bb hr fun y7 hy7 hr=>?_
   refine (qC ok80 (fun _ hq=>(ih_sTypeOfExpr hy7 ⟨_,_,rfl,(rs (H.ext hq) 3),(rs (H.ext hq) 4)⟩ ⟨_,_,_,rfl,hS1,hS2,(rs (H.ext hq) 5),(rs (H.ext hq) 6),(rs (H.ext hq) 7)⟩ (q2F.2 ⟨_,rfl,hI8,hI9,hI10,hI11,hS6,hS7,(rs (H.ext hq) 11)⟩)).mono fun _ _ _ h=>h.1)) ?_
   obtain⟨_,_,_,hI12⟩:=(ih_sTypeOfExpr hy7 ⟨_,_,rfl,(rs H 3),(rs H 4)⟩ ⟨_,_,_,rfl,hS1,hS2,(rs H 5),(rs H 6),(rs H 7)⟩ (q2F.2 ⟨_,rfl,hI8,hI9,hI10,hI11,hS6,hS7,(rs H 11)⟩)).get
   refine (qG) ((qB) ((qT) ?_))
   refine QL.nil (fun w9 hE=>?_)
   have H:=H.ext hE
   refine iD hr (fun _ hr=>?_) fun _ hr=>?_
   ·refine R ((LB H 0) ((D 4) ((L H 2) ((D 5) ((L H 2) ?_)))))
    refine bb hr fun y8 hy8 hr=>?_
    exact (CA ok81 (q6V hy8 ⟨_,_,rfl,(rs H 3),(rs H 4)⟩ hS3 hS4)) (cF' H fun w10 hI13 H=>(AZ) (W1 hr))
   exact K (R ((AZ) (W1 hr)))
  refine (qO) ((qO) ((qO) ((qO) ((qO) ((qO) ((qO) ((qO) ((qU) ?_))))))))
  refine QL.nil (fun w11 hE=>?_)
  have H:=H.ext hE
  exact (cF) (K (R ((AZ) (W1 hr))))
 refine K (Y ?_)
 refine q0e [] trivial fun σ=>?_
 have H:HL F0 [] w0 w3 d1 d2:=H
 exact X ((AZ) (W1 hr))
def q7I:Nat→Grammar→Rule→Expr→Option Int
  | 0,_,_,_=>none
  | n+1,a0,a1,a2=>z0A (q7I n) a0 a1 a2
def q8H (a0:Grammar)(a1:Rule)(a2:Expr):Option Int:=recO fun n=>q7I n a0 a1 a2
theorem z8A (n:Nat):∀ {a0:Grammar} {a1:Rule} {a2:Expr} {r:Int},q7I n a0 a1 a2=some r→∀ {F0:Nat→Prop} {w0:World} {ca0} (ha0:rd F0 w0 a0 ca0) {ca1} (ha1:rd F0 w0 a1 ca1) {ca2} (ha2:rd F0 w0 a2 ca2),RT 80 #[ag ca0,ag ca1,ag ca2] w0 fun v w=>v = .int .i64 r∧I64 r:=by
 induction n with
 | zero=>intro a0 a1 a2 r hr; exact nomatch (show (none:Option Int)=some r from hr)
 | succ n ih=>intro a0 a1 a2 r hr; exact z8z ih hr
theorem q9L {a0}{a1}{a2}{r}(hr:q8H a0 a1 a2=some r){ca0}(ha0:rd F0 w0 a0 ca0){ca1}(ha1:rd F0 w0 a1 ca1){ca2}(ha2:rd F0 w0 a2 ca2):RT 80 #[ag ca0,ag ca1,ag ca2] w0 fun v w=>v = .int .i64 r∧I64 r:=by
 obtain⟨n,hn⟩:=q5m hr
 exact z8A n hn ha0 ha1 ha2
def z8B (a0:Grammar)(a1:Rule):Nat→Equation→Unit→Option (Unit ⊕ Bool):=fun k1 x1 _=>(q8H a0 a1 x1.Expr).bind fun y1=>(q5g a1 x1.At.Pos).bind fun y2=>(q6p a0 y2 x1.At.Name).bind fun y3=>if y1=y3 then some (.inl ()) else some (.inr false)
def z8C (a0:Grammar)(a1:Rule):Nat→Contribution→Unit→Option (Unit ⊕ Bool):=fun k2 x2 _=>(q4M a0 x2.Symbol).bind fun (y4,y5)=>(q6U y4 x2.Name).bind fun (y6,y7)=>( if y7=true then some (!(decide (y6.Mode=3))) else some true ).bind fun s1=>( if s1=true then some true else (q8H a0 a1 x2.Target).bind fun y8=>some (!(decide (y8=4))) ).bind fun s2=>( if s2=true then some true else (q8H a0 a1 x2.Value).bind fun y9=>some (!(decide (y9=2))) ).bind fun s3=>if s3=true then some (.inr false) else some (.inl ())
def z4D (a0:Grammar)(a1:Rule):Option Bool:=(q2I (z8B a0 a1) 0 a1.Equations ()).bind <| onr (fun r1=>some r1) fun _=>(q2I (z8C a0 a1) 0 a1.Contributions ()).bind <| onr (fun r2=>some r2) fun _=>some true
theorem j2O {a0}{a1}{r}(hr:z4D a0 a1=some r){ca0}(ha0:rd F0 w0 a0 ca0){ca1}(ha1:rd F0 w0 a1 ca1):RB 39 #[ag ca0,ag ca1] w0 r:=by
 have H:=((HL.start F0 w0).argR ha0).argR ha1
 obtain⟨A1,n1,c1,A2,n2,c2,rfl,H⟩:=q2C H 0
 let d8:Pr:=.S a0.Rules (.slice A2 n2 c2)
 let d7:Pr:=.S a0.Symbols (.slice A1 n1 c1)
 let d3:List Value:=[.slice A1 n1 c1,.slice A2 n2 c2]
 obtain⟨A3,n3,c3,A4,n4,c4,A5,n5,c5,rfl,hS1,hS2,H⟩:=q2U H 1
 let d9:Pr:=.S a1.Right (.slice A3 n3 c3)
 let d6:Pr:=.S a1.Equations (.slice A4 n4 c4)
 let d5:Pr:=.S a1.Contributions (.slice A5 n5 c5)
 let d2:=q3C a1 A3 n3 c3 A4 n4 c4 A5 n5 c5
 let d14:List Pr:=[.R a0 d3,.R a1 d2,d7,d8,d9,d6,d5]
 refine (En Tryz.func39) ?_
 refine R ((BX H) fun b1 w1 H=>(BX H) fun b2 w2 H=>(A) (Z (Y (R ((AZ) ?_)))))
 let d13:It:=.B b1 31 d3
 refine bb hr fun q1 hq1 hr=>?_
 refine (lF hq1 (fun k1 _ _=>[(2,pB b1),(3,pB b2),(5,zN k1)]) (fun _ _ w=>HL F0 [] w0 w d14 [d13,.B b2 65 d2]) ()) ?_
 rintro k1 _ _ σ w3 hk1 hq1 H
 refine Y (R ((V) ((D 4) ((L H 1) ((NI H 5) fun hl1=>(BZ) ?_)))))
 refine (iF hq1 hr (fun hk2 x1 z1 hx1 hb1 hs1 ht1=>?_) fun hr=>?_)
 ·refine K (Y ?_)
  refine Bk (R ((D 4) ((L H 1) ((V) ?_))))
  obtain⟨b3,ob3,cb3,A6,n6,c6,hvb3,hI1,hS3,hI2,hI3,hI4,hI5,hS4,hS5,H⟩:=q4k H 5 hx1
  let d10:=q5R x1 A6 n6 c6
  refine (J 9 hvb3 hx1) ((LA H 7) ((AH z9A H) fun b4 w4 H=>(SB H 2) fun w5 H=>Z (Y ?_)))
  refine q0g hmix (by kernel_rfl) ?_
  refine (qLB H 0) ((qLB H 1) ((qD 2) ?_))
  refine q0k rfl rfl (fun _ hq=>q0c rfl q7S q5E rfl (Blk.part ((H.ext hq).rB (i:=2) rfl) 2 7) rfl) ?_
  refine bb hb1 fun y1 hy1 hb1=>?_
  refine (qC ok80 (fun _ hq=>(q9L hy1 ⟨_,_,rfl,(rs (H.ext hq) 2),(rs (H.ext hq) 3)⟩ ⟨_,_,_,rfl,hS1,hS2,(rs (H.ext hq) 4),(rs (H.ext hq) 5),(rs (H.ext hq) 6)⟩ (q2F.2 ⟨_,rfl,hI2,hI3,hI4,hI5,hS4,hS5,(rs (H.ext hq) 9)⟩)).mono fun _ _ _ h=>h.1)) ?_
  obtain⟨_,_,_,hI6⟩:=(q9L hy1 ⟨_,_,rfl,(rs H 2),(rs H 3)⟩ ⟨_,_,_,rfl,hS1,hS2,(rs H 4),(rs H 5),(rs H 6)⟩ (q2F.2 ⟨_,rfl,hI2,hI3,hI4,hI5,hS4,hS5,(rs H 9)⟩)).get
  refine (qLB H 0) ((qLB H 1) ((qD 0) ((qD 0) ((qL H 2) ?_))))
  refine bb hb1 fun y2 hy2 hb1=>?_
  refine (qC ok82 (fun _ hq=>(q4U hy2 ⟨_,_,_,rfl,hS1,hS2,(rs (H.ext hq) 4),(rs (H.ext hq) 5),(rs (H.ext hq) 6)⟩ hI1).mono fun _ _ _ h=>h.1)) ?_
  obtain⟨_,_,_,hS6⟩:=(q4U hy2 ⟨_,_,_,rfl,hS1,hS2,(rs H 4),(rs H 5),(rs H 6)⟩ hI1).get
  refine (qD 0) ((qD 1) ((qL H 2) ?_))
  refine bb hb1 fun y3 hy3 hb1=>?_
  refine (qC ok81 (fun _ hq=>(q6V hy3 ⟨_,_,rfl,(rs (H.ext hq) 2),(rs (H.ext hq) 3)⟩ hS6 hS3).mono fun _ _ _ h=>h.1)) ?_
  obtain⟨_,_,_,hI7⟩:=(q6V hy3 ⟨_,_,rfl,(rs H 2),(rs H 3)⟩ hS6 hS3).get
  refine (qB) ?_
  refine QL.nil (fun w6 hE=>?_)
  have H:=H.ext hE
  refine iN hb1 (fun _ hb1=>?_) fun _ hb1=>?_
  ·refine Y ?_
   refine q0e [] trivial fun σ=>?_
   have H:HL F0 [] w0 w6 [.R a0 d3,.R a1 d2,d7,d8,d9,d6,d5,.A b3 (ob3+k1*9) d10,.R x1 d10,.S x1.Expr.Args (.slice A6 n6 c6)] [d13,.B b2 65 d2,.B b4 127 d10]:=H
   exact X ((AZ) (W2 hb1 ht1 hr))
  refine K ?_
  refine q0e [(2,pB b1),(3,pB b2),(5,zN k1)] ⟨rfl,rfl,rfl,trivial⟩ fun σ=>?_
  have H:HL F0 [] w0 w6 [.R a0 d3,.R a1 d2,d7,d8,d9,d6,d5,.A b3 (ob3+k1*9) d10,.R x1 d10,.S x1.Expr.Args (.slice A6 n6 c6)] [d13,.B b2 65 d2,.B b4 127 d10]:=H
  exact X ((V) ((AN hk2 hl1) ((A) (Z (I2 hb1 hs1 ⟨k1+1,(),()⟩)))))
 refine CE (Y (R ((AZ) ?_)))
 refine bb hr fun q2 hq2 hr=>?_
 refine (lF hq2 (fun k2 _ _=>[(2,pB b1),(3,pB b2),(7,zN k2)]) (fun _ _ w=>HL F0 [] w0 w d14 [d13,.B b2 65 d2]) ()) ?_
 rintro k2 _ _ σ w7 hk3 hq2 H
 refine Y (R ((V) ((D 5) ((L H 1) ((NI H 6) fun hl2=>(BZ) ?_)))))
 refine (iF hq2 hr (fun hk4 x2 z2 hx2 hb2 hs2 ht2=>?_) fun hr=>?_)
 ·refine K (Y ?_)
  refine Bk (R ((D 5) ((L H 1) ((V) ?_))))
  obtain⟨b5,ob5,cb5,A7,n7,c7,A8,n8,c8,hvb5,hS7,hS8,hI8,hI9,hI10,hI11,hS9,hS10,hI12,hI13,hI14,hI15,hS11,hS12,H⟩:=q4d H 6 hx2
  let d12:Pr:=.S x2.Value.Args (.slice A8 n8 c8)
  let d11:Pr:=.S x2.Target.Args (.slice A7 n7 c7)
  let d4:=q4K x2 A7 n7 c7 A8 n8 c8
  refine (J 16 hvb5 hx2) ((LA H 7) ((AH j1J H) fun b6 w8 H=>(SB H 2) fun w9 H=>Z (R ((LB H 0) ((D 0) ((L H 2) ?_))))))
  obtain⟨⟨y4,y5⟩,hy4,hb2⟩:=bd hb2
  refine (CA ok83 (q7c hy4 ⟨_,_,rfl,(rs H 2),(rs H 3)⟩ hS7)) ?_
  rintro _ w10 hE ⟨A9,n9,c9,rfl,hS13,H'⟩
  have H:=H.callA H' tv
  refine (V) ((EX) ((EX) ((AH ze69 H) fun b7 w11 H=>(SB H 4) fun w12 H=>(A) (Z (R ((LB H 4) ((D 1) ((L H 2) ?_))))))))
  obtain⟨⟨y6,y7⟩,hy5,hb2⟩:=bd hb2
  refine (CA ok84 (q9p hy5 ⟨_,rfl,hS13,(ro H 3)⟩ hS8)) ?_
  rintro _ w13 hE ⟨rfl,hS14,hI16,hI17⟩
  have H:=H.ext hE
  refine (V) ((EX) ((EX) ((AH q7T H) fun b8 w14 H=>(SB H 5) fun w15 H=>(AZ) (Y ?_))))
  let d1:List It:=[d13,.B b2 65 d2,.B b6 132 d4,.O 120 y4.Attributes (.slice A9 n9 c9),.B b7 69 (q3W y4 A9 n9 c9),.B b8 120 (q3k y6)]
  refine q0e [(2,pB b1),(3,pB b2),(7,zN k2),(8,pB b6),(11,pB b8),(12,.bool y7)] ⟨rfl,rfl,rfl,rfl,rfl,rfl,trivial⟩ fun σ=>?_
  have H:HL F0 [] w0 w15 [.R a0 d3,.R a1 d2,d7,d8,d9,d6,d5,.A b5 (ob5+k2*16) d4,.R x2 d4,d11,d12] d1:=H
  refine X ((V) ((N) ?_))
  refine bb hb2 fun q3 hm1 hb2=>?_
  refine cu H 5 [(2,pB b1),(3,pB b2),(7,zN k2),(8,pB b6),(73,.bool q3)] [.R a0 d3,.R a1 d2,d7,d8,d9,d6,d5,.A b5 (ob5+k2*16) d4,.R x2 d4,d11,d12] d1 ?_ fun σ w16 H=>?_
  ·refine jM hm1 (fun _ hm1=>?_) fun _ hm1=>?_
   ·exact OF hm1
   exact (G) ((D 2) ((G) ((L H 5) ((G) ((B) ((U) (Z (C1 hm1))))))))
  refine bb hb2 fun q4 hm2 hb2=>?_
  refine cu H 8 [(2,pB b1),(3,pB b2),(7,zN k2),(8,pB b6),(81,.bool q4)] [.R a0 d3,.R a1 d2,d7,d8,d9,d6,d5,.A b5 (ob5+k2*16) d4,.R x2 d4,d11,d12] d1 ?_ fun σ w18 H=>?_
  ·refine jB hm2 (fun _ hm2=>?_) fun _ hm2=>?_
   ·exact OF hm2
   refine (G) ((LB H 0) ((G) ((LB H 1) ((G) ((D 2) ((G) ?_))))))
   refine q0b rfl rfl (q0c rfl q7S q5E rfl (Blk.part (rb H 2) 2 7) rfl) ((G) ?_)
   refine bb hm2 fun y8 hy6 hm2=>?_
   exact (CA ok80 (q9L hy6 ⟨_,_,rfl,(rs H 2),(rs H 3)⟩ ⟨_,_,_,rfl,hS1,hS2,(rs H 4),(rs H 5),(rs H 6)⟩ (q2F.2 ⟨_,rfl,hI8,hI9,hI10,hI11,hS9,hS10,(rs H 9)⟩))) (cF' H fun w17 hI18 H=>(G) ((B) ((U) (Z (C1 hm2)))))
  refine bb hb2 fun q5 hm3 hb2=>?_
  refine cu H 8 [(2,pB b1),(3,pB b2),(7,zN k2),(89,.bool q5)] [.R a0 d3,.R a1 d2,d7,d8,d9,d6,d5,.A b5 (ob5+k2*16) d4,.R x2 d4,d11,d12] d1 ?_ fun σ w20 H=>?_
  ·refine jB hm3 (fun _ hm3=>?_) fun _ hm3=>?_
   ·exact OF hm3
   refine (G) ((LB H 0) ((G) ((LB H 1) ((G) ((D 9) ((G) ?_))))))
   refine q0b rfl rfl (q0c rfl q7S q5E rfl (Blk.part (rb H 2) 9 7) rfl) ((G) ?_)
   refine bb hm3 fun y9 hy7 hm3=>?_
   exact (CA ok80 (q9L hy7 ⟨_,_,rfl,(rs H 2),(rs H 3)⟩ ⟨_,_,_,rfl,hS1,hS2,(rs H 4),(rs H 5),(rs H 6)⟩ (q2F.2 ⟨_,rfl,hI12,hI13,hI14,hI15,hS11,hS12,(rs H 10)⟩))) (cF' H fun w19 hI19 H=>(G) ((B) ((U) (Z (C1 hm3)))))
  refine Z (iB hb2 (fun _ hb2=>?_) fun _ hb2=>?_)
  ·exact R ((AZ) (W2 hb2 ht2 hr))
  exact K (X ((V) ((AN hk4 hl2) ((A) (Z (I2 hb2 hs2 ⟨k2+1,(),()⟩))))))
 exact CE (R ((AZ) (W1 hr)))
def j1T (a1:ByteArray):Nat→Symbol→Unit→Option (Unit ⊕ Int):=fun k1 x1 _=>if x1.Name=a1 then some (.inr (k1:Int)) else some (.inl ())
def z2Y (a0:Grammar)(a1:ByteArray):Option Int:=(q2I (j1T a1) 0 a0.Symbols ()).bind <| onr (fun r1=>some r1) fun _=>some (-1)
theorem z3M {a0}{a1}{r}(hr:z2Y a0 a1=some r){ca0}(ha0:rd F0 w0 a0 ca0)(ha1:a1.size≤9223372036854775807):RT 43 #[ag ca0,.string a1] w0 fun v w=>v = .int .i64 r∧I64 r:=by
 have H:=(HL.start F0 w0).argR ha0
 obtain⟨A1,n1,c1,A2,n2,c2,rfl,H⟩:=q2C H 0
 refine (En Tryz.func43) ?_
 refine R ((BX H) fun b1 w1 H=>(A) (Z (Y (R ((AZ) ?_)))))
 refine bb hr fun q1 hq1 hr=>?_
 refine (lF hq1 (fun k1 _ _=>[(1,.string a1),(2,pB b1),(5,zN k1)]) (fun _ _ w=>HL F0 [] w0 w [.R a0 [.slice A1 n1 c1,.slice A2 n2 c2],.S a0.Symbols (.slice A1 n1 c1),.S a0.Rules (.slice A2 n2 c2)] [.B b1 31 [.slice A1 n1 c1,.slice A2 n2 c2]]) ()) ?_
 rintro k1 _ _ σ w2 hk1 hq1 H
 refine Y (R ((V) ((D 0) ((L H 0) ((NI H 1) fun hl1=>(BZ) ?_)))))
 refine (iF hq1 hr (fun hk2 x1 z1 hx1 hb1 hs1 ht1=>?_) fun hr=>?_)
 ·refine K (Y ?_)
  refine Bk (R ((D 0) ((L H 0) ((V) ?_))))
  obtain⟨b2,ob2,cb2,A3,n3,c3,hvb2,hS1,H⟩:=q4B H 1 hx1
  refine (J 2 hvb2 hx1) ((D 0) ((LC H 3) ((V) ((BZ) (iD hb1 (fun _ hb1=>?_) fun _ hb1=>?_)))))
  ·exact R ((V) ((AZ) (W2 hb1 ht1 hr)))
  exact K (X ((V) ((AN hk2 hl1) ((A) (Z (I2 hb1 hs1 ⟨k1+1,(),()⟩))))))
 exact CE (R ((AZ) (W1 hr)))
def z1Y (a0:Grammar)(a2:(List Int)):Nat→ByteArray→Bool→Option Bool:=fun k2 x2 s1=>(z2Y a0 x2).bind fun y1=>( if s1=true then some (decide (0≤y1)) else some false ).bind fun s2=>( if s2=true then (z0w y1 0).bind fun y2=>grd (0≤y2) <| (a2[y2.toNat]?).bind fun x3=>some (decide (0 < x3)) else some false ).bind fun s3=>some s3
def z4R (a0:Grammar)(a1:ByteArray)(a2:(List Int)):Nat→Rule→Unit→Option (Unit ⊕ Bool):=fun k1 x1 _=>(q2G (z1Y a0 a2) 0 x1.Right (decide (x1.Left=a1))).bind fun s1=>if s1=true then some (.inr true) else some (.inl ())
def z0B (a0:Grammar)(a1:ByteArray)(a2:(List Int)):Option Bool:=(q2I (z4R a0 a1 a2) 0 a0.Rules ()).bind <| onr (fun r1=>some r1) fun _=>some false
theorem z9H {a0}{a1}{a2}{r}(hr:z0B a0 a1 a2=some r){ca0}(ha0:rd F0 w0 a0 ca0)(ha1:a1.size≤9223372036854775807){z2}(ha2:rdS F0 w0 a2 z2):RB 177 #[ag ca0,.string a1,z2] w0 r:=by
 obtain⟨A2',n2',c2',rfl⟩:=ha2.form3
 let d5:Pr:=.S a2 (.slice A2' n2' c2')
 have H:=((HL.start F0 w0).argR ha0).argS ha2
 obtain⟨A1,n1,c1,A2,n2,c2,rfl,H⟩:=q2C H 0
 let d4:Pr:=.S a0.Rules (.slice A2 n2 c2)
 let d3:Pr:=.S a0.Symbols (.slice A1 n1 c1)
 let d2:List Value:=[.slice A1 n1 c1,.slice A2 n2 c2]
 refine (En Tryz.func177) ?_
 refine R ((BX H) fun b1 w1 H=>(A) (Z (Y (R ((AZ) ?_)))))
 refine bb hr fun q1 hq1 hr=>?_
 refine (lF hq1 (fun k1 _ _=>[(1,.string a1),(2,.slice A2' n2' c2'),(3,pB b1),(7,zN k1)]) (fun _ _ w=>HL F0 [] w0 w [.R a0 d2,d5,d3,d4] [.B b1 31 d2]) ()) ?_
 rintro k1 _ _ σ w2 hk1 hq1 H
 refine Y (R ((V) ((D 1) ((L H 0) ((NI H 3) fun hl1=>(BZ) ?_)))))
 refine (iF hq1 hr (fun hk2 x1 z1 hx1 hb1 hs1 ht1=>?_) fun hr=>?_)
 ·refine K (Y ?_)
  refine Bk (R ((D 1) ((L H 0) ((V) ?_))))
  obtain⟨b2,ob2,cb2,A3,n3,c3,A4,n4,c4,A5,n5,c5,hvb2,hS1,hS2,H⟩:=q6k H 3 hx1
  let d8:Pr:=.S x1.Right (.slice A3 n3 c3)
  let d7:Pr:=.S x1.Equations (.slice A4 n4 c4)
  let d6:Pr:=.S x1.Contributions (.slice A5 n5 c5)
  let d1:=q3C x1 A3 n3 c3 A4 n4 c4 A5 n5 c5
  refine (J 6 hvb2 hx1) ((LA H 4) ((AH ze65 H) fun b3 w3 H=>(SB H 1) fun w4 H=>Z (R ((D 1) ((L H 1) ((V) ((B) ((A) (Z (Y (R ((AZ) ?_))))))))))))
  let d9:List It:=[.B b1 31 d2,.B b3 65 d1]
  refine bb hb1 fun q2 hq2 hb1=>?_
  refine (lE hq2 (fun k2 s1 _=>[(1,.string a1),(2,.slice A2' n2' c2'),(3,pB b1),(7,zN k1),(8,pB b3),(9,.bool s1),(10,zN k2)]) (fun s1 _ w=>HL F0 [] w0 w [.R a0 d2,d5,d3,d4,.A b2 (ob2+k1*6) d1,.R x1 d1,d8,d7,d6] d9) ()) ?_
  rintro k2 s1 _ σ w5 hk3 hq2 H
  refine Y (R ((V) ((D 2) ((L H 1) ((NI H 6) fun hl2=>(BZ) ?_)))))
  refine (iE hq2 (fun hk4 x2 z2 hx2 hb2 hq2=>?_) fun e=>?_)
  ·refine K (Y ?_)
   refine Bk (Y ?_)
   refine q0g hmix (by kernel_rfl) ?_
   refine (qLB H 0) ((qD 2) ((qL H 1) ((qV) ?_)))
   obtain⟨b4,ob4,cb4,hvb4,hS3,H⟩:=q8q H 6 hx2
   refine (qJ 1 hvb4 hx2) ((qL0 H 9) ?_)
   refine bb hb2 fun y1 hy1 hb2=>?_
   refine (qC ok43 (fun _ hq=>(z3M hy1 ⟨_,_,rfl,(rs (H.ext hq) 2),(rs (H.ext hq) 3)⟩ hS3).mono fun _ _ _ h=>h.1)) ?_
   obtain⟨_,_,_,hI1⟩:=(z3M hy1 ⟨_,_,rfl,(rs H 2),(rs H 3)⟩ hS3).get
   refine (qA) ?_
   refine QL.nil (fun w6 hE=>?_)
   have H:=H.ext hE
   refine X ((V) ?_)
   refine bb hb2 fun q3 hm1 hb2=>?_
   refine cu H 4 [(1,.string a1),(2,.slice A2' n2' c2'),(3,pB b1),(7,zN k1),(8,pB b3),(9,.bool s1),(10,zN k2),(11,.int .i64 y1),(46,.bool q3)] [.R a0 d2,d5,d3,d4,.A b2 (ob2+k1*6) d1,.R x1 d1,d8,d7,d6,.A b4 (ob4+k2*1) [.string x2],.R x2 [.string x2]] d9 ?_ fun σ w7 H=>?_
   ·refine jB hm1 (fun _ hm1=>?_) fun _ hm1=>?_
    ·exact (G) ((V) ((G) ((B) ((T) (Z (C1 hm1))))))
    exact OF hm1
   refine bb hb2 fun q4 hm2 hb2=>?_
   refine cu H 8 [(1,.string a1),(2,.slice A2' n2' c2'),(3,pB b1),(7,zN k1),(8,pB b3),(9,.bool s1),(10,zN k2),(54,.bool q4)] [.R a0 d2,d5,d3,d4,.A b2 (ob2+k1*6) d1,.R x1 d1,d8,d7,d6,.A b4 (ob4+k2*1) [.string x2],.R x2 [.string x2]] d9 ?_ fun σ w9 H=>?_
   ·refine jB hm2 (fun _ hm2=>?_) fun _ hm2=>?_
    ·refine (G) ((V) ((G) ((V) ((G) ?_))))
     refine bb hm2 fun y2 hy2 hm2=>?_
     refine (CA ok54 (z5T hy2 (F0:=nF) hI1 dI)) (cF' H fun w8 hI2 H=>(G) ?_)
     refine gg hm2 fun hg1 hm2=>?_
     refine bb hm2 fun x3 hx3 hm2=>?_
     obtain⟨b5,ob5,cb5,hvb5,hI3,H⟩:=z0k H 1 hx3
     exact q0b rfl rfl (q0p rfl el58 sz3 rfl hvb5 rfl hg1 (q4X hx3)) ((G) ((L0 H 11) ((G) ((B) ((T) (Z (C1 hm2)))))))
    exact OF hm2
   exact (A) (Z (X ((V) ((AN hk4 hl2) ((A) (Z (I1 hb2 ⟨k2+1,q4,()⟩)))))))
  obtain rfl:=e
  refine CE (R ((V) (Z (iB hb1 (fun _ hb1=>?_) fun _ hb1=>?_))))
  ·exact R ((AZ) (W2 hb1 ht1 hr))
  exact K (X ((V) ((AN hk2 hl1) ((A) (Z (I2 hb1 hs1 ⟨k1+1,(),()⟩))))))
 exact CE (R ((AZ) (W1 hr)))
def q9M (a0:Grammar)(s2:List Int)(s3:Int):Nat→Symbol→(List Int)→Option (List Int):=fun k1 x1 s4=>( (s2[k1]?).bind fun x2=>if x2=0 then (z0B a0 x1.Name s2).bind fun y1=>if y1=true then (s4[k1]?).bind fun x3=>some (List.set s4 k1 s3) else some s4 else some s4 ).bind fun s5=>some s5
def q7d (a0:Grammar):((List Int) × Int)→Option (((List Int) × Int) ⊕ (List Int)):=fun (s2,s3)=>if s3≤(a0.Symbols.length:Int) then grd (((([]:List Int).length:Int)+(s2.length:Int))*8≤140737488355328∧(([]:List Int).length:Int)+(s2.length:Int)≤9223372036854775807) <| (q2G (q9M a0 s2 s3) 0 a0.Symbols s2).bind fun s4=>grd (I64 (s3+1)) <| some (.inl (s4,(s3+1))) else some (.inr s2)
def z0C (a0:Grammar):Option (List Int):=grd (0≤(a0.Symbols.length:Int)∧(a0.Symbols.length:Int)*8≤281474976710656∧(a0.Symbols.length:Int)≤9223372036854775807) <| ( q5u (q7d a0) ((List.replicate a0.Symbols.length (0:Int)),1) ).bind fun s1=>some s1
theorem z9I {a0}{r}(hr:z0C a0=some r){ca0}(ha0:rd F0 w0 a0 ca0):RT 134 #[ag ca0] w0 fun v w=>∃ A0 n0 c0,v=(.slice A0 n0 c0)∧HL F0 [] w0 w [] [.O 3 r (.slice A0 n0 c0)]:=by
 have H:=(HL.start F0 w0).argR ha0
 obtain⟨A1,n1,c1,A2,n2,c2,rfl,H⟩:=q2C H 0
 let d2:List Value:=[.slice A1 n1 c1,.slice A2 n2 c2]
 let d1:List Pr:=[.R a0 d2,.S a0.Symbols (.slice A1 n1 c1),.S a0.Rules (.slice A2 n2 c2)]
 refine (En Tryz.func134) ?_
 refine R ((BX H) fun b1 w1 H=>(A) (Z (R ((D 0) ((L H 0) ((NI H 1) fun hl1=>?_))))))
 let d4:It:=.B b1 31 d2
 refine gg hr fun hg1 hr=>?_
 refine q0I (x:=(0:Int)) rfl rfl rfl el58 sz3 by3 ze3 (fun _=>⟨rfl,rfl,dI⟩) rfl rfl hg1 H fun A3 n3 c3 w2 H=>(A) (Z (Y (R ((AZ) ?_))))
 refine bb hr fun q1 hm1 hr=>?_
 refine q0o (fun ρ' w=>∃ (s1:List Int) (v1:Value),s1=q1∧q4z ρ' [(3,v1)]∧HL F0 [] w0 w d1 [d4,.O 3 s1 v1]) ?_ ?_
 ·obtain⟨m1,hq1⟩:=q4o.1 hm1
  refine (lI hq1 (fun m1 ⟨s2,s3⟩ v2=>[(1,pB b1),(3,v2),(4,.int .i64 s3)]) (fun ⟨s2,s3⟩ v2 w=>I64 s3∧HL F0 [] w0 w d1 [d4,.O 3 s2 v2]) (.slice A3 n3 c3)) ?_
  rintro m1 ⟨s2,s3⟩ v2 σ w3 hq1 ⟨hI1,H⟩
  obtain⟨A4,n4,c4,rfl⟩:=(fo H 1)
  let d3:It:=.O 3 s2 (.slice A4 n4 c4)
  obtain⟨m2,z1,rfl,hb1,hs1,ht1⟩:=q6H hq1
  refine Y (R ((V) ((D 0) ((L H 0) ((NN (rs H 1)) ((BZ) (iD hb1 (fun _ hb1=>?_) fun _ hb1=>?_)))))))
  ·refine K (Y ?_)
   refine Bk (R ?_)
   refine q0h (α:=Int) rfl rfl rfl el58 sz3 H fun A5 n5 c5 w4 H=>(V) ?_
   refine gg hb1 fun hg2 hb1=>?_
   refine q0K (i:=2) rfl rfl rfl el58 sz3 by3 ze3 rfl rfl rfl H rfl (ro H 1) hg2 fun A6 n6 c6 w5 H=>(A) (Z (Y (R ((AZ) ?_))))
   refine bb hb1 fun q2 hq2 hb1=>?_
   refine (lE hq2 (fun k1 s4 _=>[(1,pB b1),(3,.slice A4 n4 c4),(4,.int .i64 s3),(5,.slice A6 n6 c6),(6,zN k1)]) (fun s4 _ w=>HL F0 [] w0 w d1 [d4,d3,.O 3 s4 (.slice A6 n6 c6)]) ()) ?_
   rintro k1 s4 _ σ w6 hk1 hq2 H
   refine Y (R ((V) ((D 0) ((L H 0) ((NN (rs H 1)) ((BZ) ?_))))))
   refine (iE hq2 (fun hk2 x1 z2 hx1 hb2 hq2=>?_) fun e=>?_)
   ·refine K ?_
    refine bb hb2 fun q3 hm2 hb2=>?_
    refine CW.seq (cm H [(1,pB b1),(3,.slice A4 n4 c4),(4,.int .i64 s3),(5,.slice A6 n6 c6),(6,zN k1)] d1 [d4,d3,.O 3 q3 (.slice A6 n6 c6)] ?_ fun σ w10 H=>?_)
    ·refine Bk (Y ?_)
     refine q0g hmix (by kernel_rfl) ?_
     refine (qV) ((qV) ?_)
     refine bb hm2 fun x2 hx2 hm2=>?_
     obtain⟨b2,cb2,hvb2,hbb2⟩:=po H 1 hx2
     refine (qJ 1 hvb2 hx2) ?_
     obtain⟨hA1,hI2,H⟩:=q5f H 1 hx2 hbb2
     refine q0k rfl rfl (fun _ hq=>q0l rfl ag3 rfl ((hA1.ext hq).cell0 rfl)) ?_
     refine (qB) ?_
     refine kD hm2 (fun _ hm2=>?_) fun _ hm2=>?_
     ·refine (qG) ((qLB H 0) ((qG) ((qD 0) ((qG) ((qL H 0) ((qG) ((qV) ((qG) ?_))))))))
      obtain⟨b3,ob3,cb3,A7,n7,c7,hvb3,hS1,H⟩:=q4B H 1 hx1
      refine (qJ 2 hvb3 hx1) ((qG) ((qD 0) ((qG) ((qLC H 4) ((qG) ((qV) ((qG) ?_)))))))
      refine bb hm2 fun y1 hy1 hm2=>?_
      refine (qC k2M (fun _ hq=>z9H hy1 ⟨_,_,rfl,(rs (H.ext hq) 1),(rs (H.ext hq) 2)⟩ hS1 (ro (H.ext hq) 1))) ?_
      refine (qT) ?_
      refine QL.nil (fun w7 hE=>?_)
      have H:=H.ext hE
      refine iB hm2 (fun _ hm2=>?_) fun _ hm2=>?_
      ·refine q0e [(1,pB b1),(3,.slice A4 n4 c4),(4,.int .i64 s3),(5,.slice A6 n6 c6),(6,zN k1),(34,.agg #[.slice A1 n1 c1,.slice A2 n2 c2]),(35,.pointer (some ⟨b1,0+0,none⟩)),(36,.slice A1 n1 c1),(37,zN k1),(38,.pointer (some ⟨b3,ob3+k1*2,none⟩)),(39,.pointer (some ⟨b3,ob3+k1*2+0,none⟩)),(40,.string x1.Name),(41,.slice A4 n4 c4),(42,.bool y1)] ⟨rfl,rfl,rfl,rfl,rfl,rfl,rfl,rfl,rfl,rfl,rfl,rfl,rfl,rfl,trivial⟩ fun σ=>?_
       have H:HL F0 [] w0 w7 [.R a0 d2,.S a0.Symbols (.slice A1 n1 c1),.S a0.Rules (.slice A2 n2 c2),.R x2 [.int .i64 x2],.A b3 (ob3+k1*2) (q3W x1 A7 n7 c7),.R x1 (q3W x1 A7 n7 c7),.S x1.Attributes (.slice A7 n7 c7)] [d4,d3,.O 3 s4 (.slice A6 n6 c6)]:=H
       refine X ((V) ((V) ((V) ?_)))
       refine bb hm2 fun x3 hx3 hm2=>?_
       obtain⟨b4,cb4,hvb4,hbb4⟩:=po H 2 hx3
       refine (J 1 hvb4 hx3) ?_
       exact q0F (i:=2) (z:=s3) rfl rfl rfl sz3 rfl rfl rfl (fun _=>⟨rfl,rfl,hI1⟩) H rfl hbb4 (by simpa using q4X hx3) fun w8 H=>Z (C1 hm2)
      exact K (C1 hm2)
     refine (qO) ((qO) ((qO) ((qO) ((qO) ((qO) ((qO) ((qO) ((qO) ((qU) ?_)))))))))
     refine QL.nil (fun w9 hE=>?_)
     have H:=H.ext hE
     exact (cF) (K (C1 hm2))
    exact X ((V) ((AN hk2 hl1) ((A) (Z (I1 hb2 ⟨k1+1,q3,()⟩)))))
   obtain rfl:=e
   refine CE (X ((V) ((A) (Z (X ((V) ?_))))))
   refine gg hb1 fun hg3 hb1=>(BN (Bin.add hg3)) ((AZ) ?_)
   have H:=H.swap 1 2
   exact I2 hb1 hs1 ⟨m2,⟨s4,(s3+1)⟩,(.slice A6 n6 c6)⟩
  exact CE (C2 hb1 ht1)
 rintro ρ' w11 ⟨s1,v1,rfl,hag,H⟩
 obtain⟨σ,rfl⟩:=q4g hag
 obtain⟨A8,n8,c8,rfl⟩:=(fo H 1)
 exact R ((V) ((AZ) (W1 hr)))
def z3N (a0:Grammar)(a1:ByteArray):Option Int:=(z2Y a0 a1).bind fun y1=>if y1 < 0 then some 0 else (z0C a0).bind fun y2=>grd (0≤y1) <| (y2[y1.toNat]?).bind fun x1=>some x1
theorem j0M {a0}{a1}{r}(hr:z3N a0 a1=some r){ca0}(ha0:rd F0 w0 a0 ca0)(ha1:a1.size≤9223372036854775807):RT 85 #[ag ca0,.string a1] w0 fun v w=>v = .int .i64 r∧I64 r:=by
 have H:=(HL.start F0 w0).argR ha0
 obtain⟨A1,n1,c1,A2,n2,c2,rfl,H⟩:=q2C H 0
 refine (En Tryz.func85) ?_
 refine R ((BX H) fun b1 w1 H=>(A) (Z (R ((LB H 0) ((V) ?_)))))
 refine bb hr fun y1 hy1 hr=>?_
 refine (CA ok43 (z3M hy1 ⟨_,_,rfl,(rs H 1),(rs H 2)⟩ ha1)) (cF' H fun w2 hI1 H=>(A) (Z (Y (R ((V) ((BZ) (iD hr (fun _ hr=>?_) fun _ hr=>?_)))))))
 ·exact R ((AZ) (W1 hr))
 refine K (R ((LB H 0) ?_))
 refine bb hr fun y2 hy2 hr=>?_
 refine (CA k2o (z9I hy2 ⟨_,_,rfl,(rs H 1),(rs H 2)⟩)) ?_
 rintro _ w3 hE ⟨A3,n3,c3,rfl,H'⟩
 have H:=H.callA H' tv
 refine (V) ?_
 refine gg hr fun hg1 hr=>?_
 refine bb hr fun x1 hx1 hr=>?_
 obtain⟨b2,cb2,hvb2,hbb2⟩:=po H 1 hx1
 refine q0b rfl rfl (q0p rfl el58 sz3 rfl hvb2 rfl hg1 (q4X hx1)) ?_
 obtain⟨hA1,hI2,H⟩:=q5f H 1 hx1 hbb2
 exact q0b rfl rfl (q0l rfl ag3 rfl (hA1.cell0 rfl)) ((AZ) (W1 hr))
def q8I (a0:Grammar)(a1:ByteArray):Option Bool:=(z3N a0 a1).bind fun y1=>some (decide (0 < y1))
theorem z7E {a0}{a1}{r}(hr:q8I a0 a1=some r){ca0}(ha0:rd F0 w0 a0 ca0)(ha1:a1.size≤9223372036854775807):RB 40 #[ag ca0,.string a1] w0 r:=by
 have H:=(HL.start F0 w0).argR ha0
 obtain⟨A1,n1,c1,A2,n2,c2,rfl,H⟩:=q2C H 0
 refine (En Tryz.func40) ?_
 refine R ((BX H) fun b1 w1 H=>(A) (Z (R ((LB H 0) ((V) ?_)))))
 refine bb hr fun y1 hy1 hr=>?_
 exact (CA ok85 (j0M hy1 ⟨_,_,rfl,(rs H 1),(rs H 2)⟩ ha1)) (cF' H fun w2 hI1 H=>(B) ((AZ) (W1 hr)))
def z3r (a0:Grammar):Nat→Rule→Unit→Option (Unit ⊕ (Int × Int)):=fun k1 x1 _=>(z4D a0 x1).bind fun y3=>if y3=true then some (.inl ()) else some (.inr (7,(k1:Int)))
def q8h (a0:Grammar):Nat→Symbol→Unit→Option (Unit ⊕ (Int × Int)):=fun k2 x2 _=>(q8I a0 x2.Name).bind fun y4=>if y4=true then some (.inl ()) else some (.inr (8,(k2:Int)))
def q8J (a0:Grammar):Option (Int × Int):=(z0z a0).bind fun (y1,y2)=>if y1=0 then (q2I (z3r a0) 0 a0.Rules ()).bind <| onr (fun r1=>some r1) fun _=>(q2I (q8h a0) 0 a0.Symbols ()).bind <| onr (fun r2=>some r2) fun _=>some (0,0) else some (y1,y2)
theorem z7F {a0}{r}(hr:q8J a0=some r){ca0}(ha0:rd F0 w0 a0 ca0):RT 21 #[ag ca0] w0 fun v w=>v = .tuple #[.int .i64 r.1,.int .i64 r.2]∧I64 r.1∧I64 r.2:=by
 have H:=(HL.start F0 w0).argR ha0
 obtain⟨A1,n1,c1,A2,n2,c2,rfl,H⟩:=q2C H 0
 let d2:List Value:=[.slice A1 n1 c1,.slice A2 n2 c2]
 let d1:List Pr:=[.R a0 d2,.S a0.Symbols (.slice A1 n1 c1),.S a0.Rules (.slice A2 n2 c2)]
 refine (En Tryz.func21) ?_
 refine R ((BX H) fun b1 w1 H=>(A) ((A) (Z (R ((LB H 0) ?_)))))
 obtain⟨⟨y1,y2⟩,hy1,hr⟩:=bd hr
 refine (CA ok38 (z9G hy1 ⟨_,_,rfl,(rs H 1),(rs H 2)⟩)) ?_
 rintro _ w2 hE ⟨rfl,hI1,hI2⟩
 have H:=H.ext hE
 refine (V) ((EX) ((EX) ((A) ((A) (Z (Y (R ((V) ((BZ) (iN hr (fun _ hr=>?_) fun _ hr=>?_))))))))))
 ·exact R ((V) ((V) ((A) ((AZ) (W1 hr)))))
 refine K (Y (R ((AZ) ?_)))
 refine bb hr fun q1 hq1 hr=>?_
 refine (lF hq1 (fun k1 _ _=>[(1,pB b1),(6,zN k1)]) (fun _ _ w=>HL F0 [] w0 w d1 [.B b1 31 d2]) ()) ?_
 rintro k1 _ _ σ w3 hk1 hq1 H
 refine Y (R ((V) ((D 1) ((L H 0) ((NI H 2) fun hl1=>(BZ) ?_)))))
 refine (iF hq1 hr (fun hk2 x1 z1 hx1 hb1 hs1 ht1=>?_) fun hr=>?_)
 ·refine K (Y ?_)
  refine Bk (Y ?_)
  refine q0g hmix (by kernel_rfl) ?_
  refine (qLB H 0) ((qD 1) ((qL H 0) ((qV) ?_)))
  obtain⟨b2,ob2,cb2,A3,n3,c3,A4,n4,c4,A5,n5,c5,hvb2,hS1,hS2,H⟩:=q6k H 2 hx1
  refine (qJ 6 hvb2 hx1) ((qLA H 3) ?_)
  refine bb hb1 fun y3 hy2 hb1=>?_
  refine (qC ok39 (fun _ hq=>j2O hy2 ⟨_,_,rfl,(rs (H.ext hq) 1),(rs (H.ext hq) 2)⟩ ⟨_,_,_,rfl,hS1,hS2,(rs (H.ext hq) 5),(rs (H.ext hq) 6),(rs (H.ext hq) 7)⟩)) ?_
  refine (qN) ?_
  refine QL.nil (fun w4 hE=>?_)
  have H:=H.ext hE
  refine iM hb1 (fun _ hb1=>?_) fun _ hb1=>?_
  ·exact R ((V) ((A) ((AZ) (W2 hb1 ht1 hr))))
  exact K (X ((V) ((AN hk2 hl1) ((A) (Z (I2 hb1 hs1 ⟨k1+1,(),()⟩))))))
 refine CE (Y (R ((AZ) ?_)))
 refine bb hr fun q2 hq2 hr=>?_
 refine (lF hq2 (fun k2 _ _=>[(1,pB b1),(7,zN k2)]) (fun _ _ w=>HL F0 [] w0 w d1 [.B b1 31 d2]) ()) ?_
 rintro k2 _ _ σ w5 hk3 hq2 H
 refine Y (R ((V) ((D 0) ((L H 0) ((NI H 1) fun hl2=>(BZ) ?_)))))
 refine (iF hq2 hr (fun hk4 x2 z2 hx2 hb2 hs2 ht2=>?_) fun hr=>?_)
 ·refine K (Y ?_)
  refine Bk (Y ?_)
  refine q0g hmix (by kernel_rfl) ?_
  refine (qLB H 0) ((qD 0) ((qL H 0) ((qV) ?_)))
  obtain⟨b3,ob3,cb3,A6,n6,c6,hvb3,hS3,H⟩:=q4B H 1 hx2
  refine (qJ 2 hvb3 hx2) ((qD 0) ((qLC H 3) ?_))
  refine bb hb2 fun y4 hy3 hb2=>?_
  refine (qC ok40 (fun _ hq=>z7E hy3 ⟨_,_,rfl,(rs (H.ext hq) 1),(rs (H.ext hq) 2)⟩ hS3)) ?_
  refine (qN) ?_
  refine QL.nil (fun w6 hE=>?_)
  have H:=H.ext hE
  refine iM hb2 (fun _ hb2=>?_) fun _ hb2=>?_
  ·exact R ((V) ((A) ((AZ) (W2 hb2 ht2 hr))))
  exact K (X ((V) ((AN hk4 hl2) ((A) (Z (I2 hb2 hs2 ⟨k2+1,(),()⟩))))))
 exact CE (R ((A) ((AZ) (W1 hr))))
def z2s (a0:Grammar):Option Bool:=(q8J a0).bind fun (y1,y2)=>some (decide (y1=0))
theorem z8D {a0}{r}(hr:z2s a0=some r){ca0}(ha0:rd F0 w0 a0 ca0):RB 11 #[ag ca0] w0 r:=by
 have H:=(HL.start F0 w0).argR ha0
 obtain⟨A1,n1,c1,A2,n2,c2,rfl,H⟩:=q2C H 0
 refine (En Tryz.func11) ?_
 refine R ((BX H) fun b1 w1 H=>(A) (Z (R ((LB H 0) ?_))))
 obtain⟨⟨y1,y2⟩,hy1,hr⟩:=bd hr
 refine (CA ok21 (z7F hy1 ⟨_,_,rfl,(rs H 1),(rs H 2)⟩)) ?_
 rintro _ w2 hE ⟨rfl,hI1,hI2⟩
 have H:=H.ext hE
 exact (V) ((EX) ((EX) ((A) ((A) (Z (R ((V) ((B) ((AZ) (W1 hr))))))))))
def q4w:Nat→Attribute→(List Attribute)→Option (List Attribute):=fun k1 x1 s1=>( if x1.Mode=1 then grd (((s1.length:Int)+1)*40≤140737488355328∧(s1.length:Int)+1≤9223372036854775807) <| some (s1++[x1]) else if x1.Mode=2 then grd (((s1.length:Int)+1)*40≤140737488355328∧(s1.length:Int)+1≤9223372036854775807) <| some (s1++[x1]) else some s1 ).bind fun s2=>some s2
def q4l (a0:Grammar)(a1:ByteArray):Option (List Attribute):=(q4M a0 a1).bind fun (y1,y2)=>(q2G q4w 0 y1.Attributes ([]:List Attribute)).bind fun s1=>some s1
theorem q8s {a0}{a1}{r}(hr:q4l a0 a1=some r){ca0}(ha0:rd F0 w0 a0 ca0)(ha1:a1.size≤9223372036854775807):RT 42 #[ag ca0,.string a1] w0 fun v w=>∃ A0 n0 c0,v=(.slice A0 n0 c0)∧HL F0 [] w0 w [] [.O 120 r (.slice A0 n0 c0)]:=by
 have H:=(HL.start F0 w0).argR ha0
 obtain⟨A1,n1,c1,A2,n2,c2,rfl,H⟩:=q2C H 0
 let d1:List Value:=[.slice A1 n1 c1,.slice A2 n2 c2]
 let d3:List Pr:=[.R a0 d1,.S a0.Symbols (.slice A1 n1 c1),.S a0.Rules (.slice A2 n2 c2)]
 refine (En Tryz.func42) ?_
 refine R ((BX H) fun b1 w1 H=>(AZ) (R ?_))
 refine q0h (α:=Attribute) rfl rfl rfl el67 q9m H fun A3 n3 c3 w2 H=>(A) (Z (R ((LB H 0) ((V) ?_))))
 obtain⟨⟨y1,y2⟩,hy1,hr⟩:=bd hr
 refine (CA ok83 (q7c hy1 ⟨_,_,rfl,(rs H 1),(rs H 2)⟩ ha1)) ?_
 rintro _ w3 hE ⟨A4,n4,c4,rfl,hS1,H'⟩
 let d2:It:=.O 120 y1.Attributes (.slice A4 n4 c4)
 have H:=H.callA H' tv
 refine (V) ((EX) ((EX) ((AH ze69 H) fun b2 w4 H=>(SB H 3) fun w5 H=>(A) (Z (Y (R ((AZ) ?_)))))))
 let d4:It:=.B b2 69 (q3W y1 A4 n4 c4)
 refine bb hr fun q1 hq1 hr=>?_
 refine (lE hq1 (fun k1 s1 v1=>[(5,v1),(6,pB b2),(8,zN k1)]) (fun s1 v1 w=>HL F0 [] w0 w d3 [.B b1 31 d1,.O 120 s1 v1,d2,d4]) (.slice A3 n3 c3)) ?_
 rintro k1 s1 v1 σ w6 hk1 hq1 H
 obtain⟨A5,n5,c5,rfl⟩:=(fo H 1)
 refine Y (R ((V) ((D 1) ((L H 3) ?_))))
 have hl1:=(H.rO (i:=2) rfl).I
 refine (NN (ro H 2)) ((BZ) ?_)
 refine (iE hq1 (fun hk2 x1 z1 hx1 hb1 hq1=>?_) fun e=>?_)
 ·refine K ?_
  refine bb hb1 fun q2 hm1 hb1=>Y ?_
  refine q0o (fun ρ' w=>∃ (s2:List Attribute) (v2:Value),s2=q2∧q4z ρ' [(5,v2),(6,pB b2),(8,zN k1)]∧HL F0 [] w0 w d3 [.B b1 31 d1,.O 120 s2 v2,d2,d4]) ?_ ?_
  ·refine Bk (R ((D 1) ((L H 3) ((V) ?_))))
   obtain⟨b3,cb3,hvb3,hbb3⟩:=po H 2 hx1
   refine (J 4 hvb3 hx1) ((D 2) ?_)
   obtain⟨hA1,hS2,hI1,hI2,H⟩:=q3O H 2 hx1 hbb3
   refine (LT hA1) ((B) (jD hm1 (fun _ hm1=>?_) fun _ hm1=>?_))
   ·refine (O) ((O) ((O) ((O) ((O) ((O) ((O) ((T) (Z ((cT) (X ((V) ((D 1) ((L H 3) ((V) ?_))))))))))))))
    obtain⟨b4,cb4,hvb4,hbb4⟩:=po H 2 hx1
    refine (J 4 hvb4 hx1) ?_
    obtain⟨hA2,hS3,hI3,hI4,H⟩:=q3O H 2 hx1 hbb4
    refine q0b rfl rfl (q0c rfl z7z q9m rfl hA2 rfl) ?_
    refine q0n rfl rfl rfl el67 q9m q7T rfl rfl rfl rfl rfl rfl fun b5 w7 hE hb hB=>?_
    have H:=H.newB hE hb hB
    refine gg hm1 fun hg1 hm1=>?_
    exact q0q (i:=1) (ys:=[x1]) rfl rfl rfl el67 q9m j4D q7T rfl rfl rfl H rfl (fun _=>ownL.single ⟨rfl,hS3,hI3,hI4,rfl⟩) (.inr ⟨_,_,rfl,At.blk (rb H 4)⟩) hg1 fun A6 n6 c6 w8 H=>(AZ) (C1 hm1)
   refine (G) ((D 1) ((G) ((L H 3) ((G) ((V) ((G) ?_))))))
   obtain⟨b6,cb6,hvb6,hbb6⟩:=po H 2 hx1
   refine (J 4 hvb6 hx1) ((G) ((D 2) ((G) ?_)))
   obtain⟨hA3,hS4,hI5,hI6,H⟩:=q3O H 2 hx1 hbb6
   refine (LT hA3) ((G) ((B) ((U) (Z (iD hm1 (fun _ hm1=>?_) fun _ hm1=>?_)))))
   ·refine q0e [(5,.slice A5 n5 c5),(6,pB b2),(8,zN k1),(31,.pointer (some ⟨b2,0+1,none⟩)),(32,.slice A4 n4 c4),(33,zN k1),(34,.pointer (some ⟨b6,0+k1*4,none⟩)),(35,.pointer (some ⟨b6,0+k1*4+2,none⟩)),(36,.int .i64 x1.Mode),(37,.bool (decide (x1.Mode=2)))] ⟨rfl,rfl,rfl,rfl,rfl,rfl,rfl,rfl,rfl,rfl,trivial⟩ fun σ=>?_
    have H:HL F0 [] w0 w6 [.R a0 d1,.S a0.Symbols (.slice A1 n1 c1),.S a0.Rules (.slice A2 n2 c2),.R x1 (q3k x1),.R x1 (q3k x1)] [.B b1 31 d1,.O 120 s1 (.slice A5 n5 c5),d2,d4]:=H
    refine X ((V) ((D 1) ((L H 3) ((V) ?_))))
    obtain⟨b7,cb7,hvb7,hbb7⟩:=po H 2 hx1
    refine (J 4 hvb7 hx1) ?_
    obtain⟨hA4,hS5,hI7,hI8,H⟩:=q3O H 2 hx1 hbb7
    refine q0b rfl rfl (q0c rfl z7z q9m rfl hA4 rfl) ?_
    refine q0n rfl rfl rfl el67 q9m q7T rfl rfl rfl rfl rfl rfl fun b8 w9 hE hb hB=>?_
    have H:=H.newB hE hb hB
    refine gg hm1 fun hg2 hm1=>?_
    exact q0q (i:=1) (ys:=[x1]) rfl rfl rfl el67 q9m j4D q7T rfl rfl rfl H rfl (fun _=>ownL.single ⟨rfl,hS5,hI7,hI8,rfl⟩) (.inr ⟨_,_,rfl,At.blk (rb H 4)⟩) hg2 fun A7 n7 c7 w10 H=>(AZ) (C1 hm1)
   exact K (C1 hm1)
  rintro ρ' w11 ⟨s2,v2,rfl,hag,H⟩
  obtain⟨σ,rfl⟩:=q4g hag
  obtain⟨A8,n8,c8,rfl⟩:=(fo H 1)
  exact X ((V) ((AN hk2 hl1) ((A) (Z (I1 hb1 ⟨k1+1,s2,(.slice A8 n8 c8)⟩)))))
 obtain rfl:=e
 exact CE (R ((V) ((AZ) (W1 hr))))
def q3p (a0:Int):Option Relation:=(q4r a0 0 16).bind fun y1=>if y1=true then grd (0≤a0∧a0*8≤281474976710656∧a0≤9223372036854775807) <| some (⟨a0,(List.replicate a0.toNat (0:Int))⟩:Relation) else some (⟨0,[]⟩:Relation)
theorem q9q {a0}{r}(hr:q3p a0=some r)(ha0:I64 a0):RT 41 #[.int .i64 a0] w0 fun v w=>∃ A0 n0 c0,v = .agg #[.int .i64 r.N,(.slice A0 n0 c0)]∧I64 r.N∧HL F0 [] w0 w [] [.O 3 r.Rows (.slice A0 n0 c0)]:=by
 have H:=HL.start F0 w0
 refine (En Tryz.func41) ?_
 refine R ((AH ze60 H) fun b1 w1 H=>Z (Y (R ((V) ?_))))
 refine bb hr fun y1 hy1 hr=>?_
 refine (CA ok77 (q4t hy1 (F0:=nF) ha0 dI dI)) (cE H fun w2 H=>(N) (Z (iM hr (fun _ hr=>?_) fun _ hr=>?_)))
 ·refine R ?_
  refine q0b rfl rfl (Ev.build rfl pl60 ze60 rfl rfl rfl rfl) ((SB H 0) fun w3 H=>Z (CR ?_))
  have H:=H.nil (α:=Int) 3
  obtain rfl:=sm hr
  exact⟨_,resC rfl ag60 sz60 rfl rfl (ab H 0) rfl,H.ext0,_,_,_,rfl,dI,H.outM (fr':=[]) [false,true] tw⟩
 refine K (R ((V) ((V) ?_)))
 refine gg hr fun hg1 hr=>?_
 refine q0I (x:=(0:Int)) rfl rfl rfl el58 sz3 by3 ze3 (fun _=>⟨rfl,rfl,dI⟩) rfl rfl hg1 H fun A1 n1 c1 w4 H=>?_
 refine q0b rfl rfl (Ev.build rfl pl60 ze60 rfl rfl rfl rfl) ((SB H 0) fun w5 H=>Z (CR ?_))
 obtain rfl:=sm hr
 exact⟨_,resC rfl ag60 sz60 rfl rfl (ab H 0) rfl,H.ext0,_,_,_,rfl,ha0,H.outM (fr':=[]) [false,true] tw⟩
def z2t (s3:Int):Nat→Attribute→(List Occurrence)→Option (List Occurrence):=fun k1 x1 s4=>grd (((s4.length:Int)+1)*24≤140737488355328∧(s4.length:Int)+1≤9223372036854775807) <| some (s4++[(⟨s3,x1.Name⟩:Occurrence)])
def q3J (a0:Grammar)(a1:Rule):((List Occurrence) × Int)→Option (((List Occurrence) × Int) ⊕ (List Occurrence)):=fun (s2,s3)=>if s3≤(a1.Right.length:Int) then (q5g a1 s3).bind fun y1=>(q4l a0 y1).bind fun y2=>(q2G (z2t s3) 0 y2 s2).bind fun s4=>grd (I64 (s3+1)) <| some (.inl (s4,(s3+1))) else some (.inr s2)
def q4V (a0:Grammar)(a1:Rule):Option (List Occurrence):=( q5u (q3J a0 a1) (([]:List Occurrence),0) ).bind fun s1=>some s1
theorem q9r {a0}{a1}{r}(hr:q4V a0 a1=some r){ca0}(ha0:rd F0 w0 a0 ca0){ca1}(ha1:rd F0 w0 a1 ca1):RT 50 #[ag ca0,ag ca1] w0 fun v w=>∃ A0 n0 c0,v=(.slice A0 n0 c0)∧HL F0 [] w0 w [] [.O 122 r (.slice A0 n0 c0)]:=by
 have H:=((HL.start F0 w0).argR ha0).argR ha1
 obtain⟨A1,n1,c1,A2,n2,c2,rfl,H⟩:=q2C H 0
 let d3:List Value:=[.slice A1 n1 c1,.slice A2 n2 c2]
 obtain⟨A3,n3,c3,A4,n4,c4,A5,n5,c5,rfl,hS1,hS2,H⟩:=q2U H 1
 let d2:=q3C a1 A3 n3 c3 A4 n4 c4 A5 n5 c5
 let d1:List Pr:=[.R a0 d3,.R a1 d2,.S a0.Symbols (.slice A1 n1 c1),.S a0.Rules (.slice A2 n2 c2),.S a1.Right (.slice A3 n3 c3),.S a1.Equations (.slice A4 n4 c4),.S a1.Contributions (.slice A5 n5 c5)]
 refine (En Tryz.func50) ?_
 refine R ((BX H) fun b1 w1 H=>(BX H) fun b2 w2 H=>(AZ) (R ?_))
 refine q0h (α:=Occurrence) rfl rfl rfl el88 q3Y H fun A6 n6 c6 w3 H=>(A) (Z (Y (R ((AZ) ?_))))
 refine bb hr fun q1 hm1 hr=>?_
 refine q0o (fun ρ' w=>∃ (s1:List Occurrence) (v1:Value),s1=q1∧q4z ρ' [(5,v1)]∧HL F0 [] w0 w d1 [.B b1 31 d3,.B b2 65 d2,.O 122 s1 v1]) ?_ ?_
 ·obtain⟨m1,hq1⟩:=q4o.1 hm1
  refine (lI hq1 (fun m1 ⟨s2,s3⟩ v2=>[(2,pB b1),(3,pB b2),(5,v2),(6,.int .i64 s3)]) (fun ⟨s2,s3⟩ v2 w=>I64 s3∧HL F0 [] w0 w d1 [.B b1 31 d3,.B b2 65 d2,.O 122 s2 v2]) (.slice A6 n6 c6)) ?_
  rintro m1 ⟨s2,s3⟩ v2 σ w4 hq1 ⟨hI1,H⟩
  obtain⟨A7,n7,c7,rfl⟩:=(fo H 2)
  obtain⟨m2,z1,rfl,hb1,hs1,ht1⟩:=q6H hq1
  refine Y (R ((V) ((D 2) ((L H 1) ((NI H 4) fun hl1=>(BZ) (iD hb1 (fun _ hb1=>?_) fun _ hb1=>?_))))))
  ·refine K (Y ?_)
   refine Bk (Y ?_)
   refine q0t 4 hmix (by kernel_rfl) ?_
   refine (qLB H 0) ((qLB H 1) ((qV) ?_))
   refine bb hb1 fun y1 hy1 hb1=>?_
   refine (qC ok82 (fun _ hq=>(q4U hy1 ⟨_,_,_,rfl,hS1,hS2,(rs (H.ext hq) 4),(rs (H.ext hq) 5),(rs (H.ext hq) 6)⟩ hI1).mono fun _ _ _ h=>h.1)) ?_
   obtain⟨_,_,_,hS3⟩:=(q4U hy1 ⟨_,_,_,rfl,hS1,hS2,(rs H 4),(rs H 5),(rs H 6)⟩ hI1).get
   refine QL.nil (fun w5 hE=>?_)
   have H:=H.ext hE
   refine bb hb1 fun y2 hy2 hb1=>?_
   refine (CA ok42 (q8s hy2 ⟨_,_,rfl,(rs H 2),(rs H 3)⟩ hS3)) ?_
   rintro _ w6 hE ⟨A8,n8,c8,rfl,H'⟩
   have H:=H.callA H' tv
   refine (A) (Z (R ((AZ) ?_)))
   refine bb hb1 fun q2 hq2 hb1=>?_
   refine (lE hq2 (fun k1 s4 v3=>[(2,pB b1),(3,pB b2),(5,v3),(6,.int .i64 s3),(7,.slice A8 n8 c8),(8,zN k1)]) (fun s4 v3 w=>HL F0 [] w0 w d1 [.B b1 31 d3,.B b2 65 d2,.O 122 s4 v3,.O 120 y2 (.slice A8 n8 c8)]) (.slice A7 n7 c7)) ?_
   rintro k1 s4 v3 σ w7 hk1 hq2 H
   obtain⟨A9,n9,c9,rfl⟩:=(fo H 2)
   refine Y (R ((V) ((V) ?_)))
   have hl2:=(H.rO (i:=3) rfl).I
   refine (NN (ro H 3)) ((BZ) ?_)
   refine (iE hq2 (fun hk2 x1 z2 hx1 hb2 hq2=>?_) fun e=>?_)
   ·refine K (Y ?_)
    refine Bk (X ((V) ((V) ((V) ((V) ?_)))))
    obtain⟨b3,cb3,hvb3,hbb3⟩:=po H 3 hx1
    refine (J 4 hvb3 hx1) ((D 0) ?_)
    obtain⟨hA1,hS4,hI2,hI3,H⟩:=q3O H 3 hx1 hbb3
    refine (LT hA1) ?_
    refine q0b rfl rfl (Ev.build rfl j1L q7h rfl rfl rfl rfl) ?_
    refine q0n rfl rfl rfl el88 q3Y q7h rfl rfl rfl rfl rfl rfl fun b4 w8 hE hb hB=>?_
    have H:=H.newB hE hb hB
    refine gg hb2 fun hg1 hb2=>?_
    exact q0q (i:=2) (ys:=[(⟨s3,x1.Name⟩:Occurrence)]) rfl rfl rfl el88 q3Y z6B q7h rfl rfl rfl H rfl (fun _=>ownL.single ⟨rfl,hI1,hS4,rfl⟩) (.inr ⟨_,_,rfl,At.blk (rb H 4)⟩) hg1 fun A10 n10 c10 w9 H=>(A) (Z (X ((V) ((AN hk2 hl2) ((A) (Z (I1 hb2 ⟨k1+1,(s4++[(⟨s3,x1.Name⟩:Occurrence)]),(.slice A10 n10 c10)⟩)))))))
   obtain rfl:=e
   refine CE (X ((V) ?_))
   exact gg hb1 fun hg2 hb1=>(BN (Bin.add hg2)) ((A) (Z (I2 hb1 hs1 ⟨m2,⟨s4,(s3+1)⟩,(.slice A9 n9 c9)⟩)))
  exact CE (C2 hb1 ht1)
 rintro ρ' w10 ⟨s1,v1,rfl,hag,H⟩
 obtain⟨σ,rfl⟩:=q4g hag
 obtain⟨A11,n11,c11,rfl⟩:=(fo H 2)
 exact R ((V) ((AZ) (W1 hr)))
def q8t (a1:Occurrence):Nat→Occurrence→Unit→Option (Unit ⊕ Int):=fun k1 x1 _=>if x1=a1 then some (.inr (k1:Int)) else some (.inl ())
def q7p (a0:(List Occurrence))(a1:Occurrence):Option Int:=(q2I (q8t a1) 0 a0 ()).bind <| onr (fun r1=>some r1) fun _=>some (-1)
theorem z1f {a0}{a1}{r}(hr:q7p a0 a1=some r){z0}(ha0:rdS F0 w0 a0 z0){ca1}(ha1:rd F0 w0 a1 ca1):RT 90 #[z0,ag ca1] w0 fun v w=>v = .int .i64 r∧I64 r:=by
 obtain⟨A0',n0',c0',rfl⟩:=ha0.form3
 have H:=((HL.start F0 w0).argS ha0).argR ha1
 obtain⟨rfl,hI1,hS1,H⟩:=q2R H 1
 refine (En Tryz.func90) ?_
 refine R ((BX H) fun b1 w1 H=>(A) (Z (Y (R ((AZ) ?_)))))
 refine bb hr fun q1 hq1 hr=>?_
 refine (lF hq1 (fun k1 _ _=>[(0,.slice A0' n0' c0'),(3,pB b1),(5,zN k1)]) (fun _ _ w=>HL F0 [] w0 w [.S a0 (.slice A0' n0' c0'),.R a1 (q2J a1)] [.B b1 122 (q2J a1)]) ()) ?_
 rintro k1 _ _ σ w2 hk1 hq1 H
 refine Y (R ((V) ((V) ((NI H 0) fun hl1=>(BZ) ?_))))
 refine (iF hq1 hr (fun hk2 x1 z1 hx1 hb1 hs1 ht1=>?_) fun hr=>?_)
 ·refine K (Y ?_)
  refine Bk (Y ?_)
  refine q0g hmix (by kernel_rfl) ?_
  refine (qV) ((qV) ?_)
  obtain⟨b2,ob2,cb2,hvb2,hI2,hS2,H⟩:=q6e H 0 hx1
  refine (qJ 2 hvb2 hx1) ((qLA H 2) ((qLB H 0) ((qBN (q0D z9B (q4J x1 a1))) ?_)))
  refine QL.nil (fun w3 hE=>?_)
  have H:=H.ext hE
  refine iD hb1 (fun _ hb1=>?_) fun _ hb1=>?_
  ·exact R ((V) ((AZ) (W2 hb1 ht1 hr)))
  exact K (X ((V) ((AN hk2 hl1) ((A) (Z (I2 hb1 hs1 ⟨k1+1,(),()⟩))))))
 exact CE (R ((AZ) (W1 hr)))
def q7J (a0:Relation):Option Relation:=grd (((([]:List Int).length:Int)+(a0.Rows.length:Int))*8≤140737488355328∧(([]:List Int).length:Int)+(a0.Rows.length:Int)≤9223372036854775807) <| some a0
theorem z5f {a0 r}(hr:q7J a0=some r){ca0}(ha0:rd F0 w0 a0 ca0):RT 86 #[ag ca0] w0 fun v w=>∃ A0 n0 c0,v = .agg #[.int .i64 r.N,(.slice A0 n0 c0)]∧I64 r.N∧HL F0 [] w0 w [] [.O 3 r.Rows (.slice A0 n0 c0)]:=by
 have H:=(HL.start F0 w0).argR ha0
 obtain⟨A1,n1,c1,rfl,hI1,H⟩:=q2O H 0
 let d1:=q2D a0 A1 n1 c1
 let d2:List Pr:=[.R a0 d1,.S a0.Rows (.slice A1 n1 c1)]
 refine (En Tryz.func86) ?_
 refine R ((BX H) fun b1 w1 H=>(AH ze60 H) fun b2 w2 H=>Z (Y ?_))
 refine q0A (fun w=>∃ v1_0_:Value,∃ v1_1_:Value,HL F0 [] w0 w d2 [.B b1 60 d1,.B b2 60 [v1_0_,v1_1_]]) hmix (fun w3 hE=>?_)
 have H:HL F0 [] w0 w3 d2 [.B b1 60 d1,.B b2 60 [.int .i64 0,.slice none 0 0]]:=H.ext hE
 refine HW.take 0 ⟨_,_,H.keep 2 2⟩ rfl (by kernel_rfl) rfl rfl (fun _ _=>q0v rfl j5N rfl) ?_
 refine HW.take 1 ⟨_,_,H.keep 2 2⟩ rfl (by kernel_rfl) rfl rfl (fun _ ⟨_,_,hq⟩=>q0l rfl ag3 rfl ((hq.rB (i:=0) rfl).cell rfl)) ?_
 refine HW.take 3 ⟨_,_,H.keep 2 2⟩ rfl (by kernel_rfl) rfl rfl (fun _ _=>q0v rfl j9g rfl) ?_
 refine HW.take 4 ⟨_,_,H.keep 2 2⟩ rfl (by kernel_rfl) rfl rfl (fun _ ⟨_,_,hq⟩=>q0l rfl ag58 rfl ((hq.rB (i:=0) rfl).cell rfl)) ?_
 refine q0f 2 rfl (by kernel_rfl) ?_
 refine q0h (α:=Int) rfl rfl rfl el58 sz3 H fun A2 n2 c2 w4 H=>?_
 refine q0a ⟨_,_,H.keep 2 2⟩ ?_
 refine q0f 5 rfl (by kernel_rfl) ?_
 refine gg hr fun hg1 hr=>?_
 refine q0K (i:=2) rfl rfl rfl el58 sz3 by3 ze3 rfl rfl rfl H rfl (rs H 1) hg1 fun A3 n3 c3 w5 H=>?_
 refine q0a ⟨_,_,H.keep 2 2⟩ ?_
 refine HW.take 6 ⟨_,_,H.keep 2 2⟩ rfl (by kernel_rfl) rfl rfl (fun _ _=>Ev.build rfl pl60 ze60 rfl rfl rfl rfl) ?_
 refine q0f 7 rfl (by kernel_rfl) ((SB H 1) fun w6 H=>?_)
 refine q0a ⟨_,_,H.keep 2 2⟩ ?_
 refine q0i (by kernel_rfl) (CR ?_)
 obtain rfl:=sm hr
 exact⟨_,resC rfl ag60 sz60 rfl rfl (ab H 1) rfl,H.ext0,_,_,_,rfl,hI1,H.outM (fr':=[]) [false,false,true] tw⟩
def q8u (a0:Relation):Nat→Unit→Option (Unit ⊕ Bool):=fun k1 _=>(a0.Rows[k1]?).bind fun x1=>grd (0≤a0.N) <| grd (0≤a0.N∧a0.N < 63) <| (q4r x1 0 (((2 ^ a0.N.toNat:Nat):Int) - 1)).bind fun y2=>if y2=true then some (.inl ()) else some (.inr false)
def q3w (a0:Relation):Option Bool:=(q4r a0.N 0 16).bind fun y1=>if y1=true then if (a0.Rows.length:Int)=a0.N then (z1D (q8u a0) 0 (a0.N.toNat) ()).bind <| onr (fun r1=>some r1) fun _=>some true else some false else some false
theorem q4x {a0}{r}(hr:q3w a0=some r){ca0}(ha0:rd F0 w0 a0 ca0):RB 47 #[ag ca0] w0 r:=by
 have H:=(HL.start F0 w0).argR ha0
 obtain⟨A1,n1,c1,rfl,hI1,H⟩:=q2O H 0
 refine (En Tryz.func47) ?_
 refine R ((BX H) fun b1 w1 H=>(A) (Z (Y (R ((D 0) ((L H 0) ?_))))))
 refine bb hr fun y1 hy1 hr=>?_
 refine (CA ok77 (q4t hy1 (F0:=nF) hI1 dI dI)) (cE H fun w2 H=>(N) (jM hr (fun _ hr=>?_) fun _ hr=>?_))
 ·exact (O) ((O) ((O) ((O) ((O) ((O) ((T) (Z ((cT) (R ((AZ) (W1 hr)))))))))))
 refine (G) ((D 1) ((G) ((L H 0) ((G) ((NI H 1) fun hl1=>(G) ((D 0) ((G) ((L H 0) ((G) ((B) ((U) (Z (iN hr (fun _ hr=>?_) fun _ hr=>?_)))))))))))))
 ·exact R ((AZ) (W1 hr))
 refine K (Y (R ((AZ) ?_)))
 refine bb hr fun q1 hq1 hr=>?_
 refine (lM hq1 (fun k1 _ _=>[(1,pB b1),(3,zN k1)]) (fun _ _ w=>HL F0 [] w0 w [.R a0 (q2D a0 A1 n1 c1),.S a0.Rows (.slice A1 n1 c1)] [.B b1 60 (q2D a0 A1 n1 c1)]) ()) ?_
 rintro k1 _ _ σ w3 hk1 hq1 H
 refine Y (R ((V) ((D 0) ((L H 0) ((BZ) ?_)))))
 refine q0d rfl (fun h3=>?_) (fun h3=>?_)
 ·have hk2:=z5M h3
  obtain⟨z1,hb1,hs1,ht1⟩:=z5L hq1 hk2
  refine K (Y ?_)
  refine Bk (Y ?_)
  refine q0g hmix (by kernel_rfl) ?_
  refine (qD 1) ((qL H 0) ((qV) ?_))
  refine bb hb1 fun x1 hx1 hb1=>?_
  obtain⟨b2,ob2,cb2,hvb2,hI2,H⟩:=z0k H 1 hx1
  refine (qJ 1 hvb2 hx1) ((qL0 H 2) ((qD 0) ((qL H 0) ?_)))
  refine gg hb1 fun hg1 hb1=>?_
  refine q0k rfl rfl (fun _ _=>q0B rfl Tryz.underlying3 j1K rfl hg1 hI1.2) ?_
  refine gg hb1 fun hg2 hb1=>?_
  refine (qBN (q0W hg2.1 hg2.2)) ((qBN (Bin.sub (j0v (k:=1) (z3D hg2.2) (by decide)))) ?_)
  refine bb hb1 fun y2 hy2 hb1=>?_
  refine (qC ok77 (fun _ hq=>q4t hy2 (F0:=nF) hI2 dI (j0v (k:=1) (z3D hg2.2) (by decide)))) ?_
  refine (qN) ?_
  refine QL.nil (fun w4 hE=>?_)
  have H:=H.ext hE
  refine iM hb1 (fun _ hb1=>?_) fun _ hb1=>?_
  ·exact R ((AZ) (W2 hb1 ht1 hr))
  exact K (X ((V) ((BN (q0x (a:=k1) (b:=1) rfl (z2n h3 hI1.2))) ((A) (Z (I2 hb1 hs1 ⟨k1+1,(),()⟩))))))
 obtain rfl:=z3C hq1 (q9Z h3)
 have hr:=(q3q _ _ _).symm.trans hr
 exact CE (R ((AZ) (W1 hr)))
def q5U (a0:Relation)(a1 a2:Int):Option Relation:=(q7J a0).bind fun y1=>(q3w a0).bind fun y2=>( if y2=true then grd (I64 (a0.N - 1)) <| (q4r a1 0 (a0.N - 1)).bind fun y3=>some y3 else some false ).bind fun s1=>( if s1=true then grd (I64 (a0.N - 1)) <| (q4r a2 0 (a0.N - 1)).bind fun y4=>some y4 else some false ).bind fun s2=>if s2=true then grd (0≤a1) <| (y1.Rows[a1.toNat]?).bind fun x1=>grd (0≤a2) <| grd (0≤a2∧a2 < 63) <| grd (0≤x1∧0≤((2 ^ a2.toNat:Nat):Int)) <| some (⟨y1.N,(List.set y1.Rows a1.toNat ((x1.toNat ||| ((2 ^ a2.toNat:Nat):Int).toNat:Nat):Int))⟩:Relation) else some y1
theorem z5g {a0}{a1 a2}{r}(hr:q5U a0 a1 a2=some r){ca0}(ha0:rd F0 w0 a0 ca0)(ha1:I64 a1)(ha2:I64 a2):RT 53 #[ag ca0,.int .i64 a1,.int .i64 a2] w0 fun v w=>∃ A0 n0 c0,v = .agg #[.int .i64 r.N,(.slice A0 n0 c0)]∧I64 r.N∧HL F0 [] w0 w [] [.O 3 r.Rows (.slice A0 n0 c0)]:=by
 have H:=(HL.start F0 w0).argR ha0
 obtain⟨A1,n1,c1,rfl,hI1,H⟩:=q2O H 0
 let d2:List Pr:=[.R a0 (q2D a0 A1 n1 c1),.S a0.Rows (.slice A1 n1 c1)]
 refine (En Tryz.func53) ?_
 refine R ((BX H) fun b1 w1 H=>(AH ze60 H) fun b2 w2 H=>Z (R ((LB H 0) ?_)))
 refine bb hr fun y1 hy1 hr=>?_
 refine (CA ok86 (z5f hy1 ⟨_,rfl,hI1,(rs H 1)⟩)) ?_
 rintro _ w3 hE ⟨A2,n2,c2,rfl,hI2,H'⟩
 have H:=H.callA H' tv
 refine (AH ze60 H) fun b3 w4 H=>(SB H 3) fun w5 H=>Z (Y (R ((LB H 0) ?_)))
 let d1:List It:=[.B b1 60 (q2D a0 A1 n1 c1),.B b2 60 [.int .i64 0,.slice none 0 0],.O 3 y1.Rows (.slice A2 n2 c2),.B b3 60 (q2D y1 A2 n2 c2)]
 refine bb hr fun y2 hy2 hr=>?_
 refine (CA ok47 (q4x hy2 ⟨_,rfl,hI1,(rs H 1)⟩)) (cE H fun w6 H=>?_)
 refine bb hr fun q1 hm1 hr=>?_
 refine cu H 7 [(1,.int .i64 a1),(2,.int .i64 a2),(3,pB b1),(6,pB b2),(7,pB b3),(18,.bool q1)] d2 d1 ?_ fun σ w8 H=>?_
 ·refine jB hm1 (fun _ hm1=>?_) fun _ hm1=>?_
  ·refine (G) ((V) ((G) ((D 0) ((G) ((L H 0) ((G) ?_))))))
   refine gg hm1 fun hg1 hm1=>(BN (Bin.sub hg1)) ((G) ?_)
   refine bb hm1 fun y3 hy3 hm1=>?_
   exact (CA ok77 (q4t hy3 (F0:=nF) ha1 dI hg1)) (cE H fun w7 H=>(T) (Z (C1 hm1)))
  exact OF hm1
 refine bb hr fun q2 hm2 hr=>?_
 refine cu H 7 [(1,.int .i64 a1),(2,.int .i64 a2),(6,pB b2),(7,pB b3),(25,.bool q2)] d2 d1 ?_ fun σ w10 H=>?_
 ·refine jB hm2 (fun _ hm2=>?_) fun _ hm2=>?_
  ·refine (G) ((V) ((G) ((D 0) ((G) ((L H 0) ((G) ?_))))))
   refine gg hm2 fun hg2 hm2=>(BN (Bin.sub hg2)) ((G) ?_)
   refine bb hm2 fun y4 hy4 hm2=>?_
   exact (CA ok77 (q4t hy4 (F0:=nF) ha2 dI hg2)) (cE H fun w9 H=>(T) (Z (C1 hm2)))
  exact OF hm2
 refine Z (iB hr (fun _ hr=>?_) fun _ hr=>?_)
 ·refine q0t 13 hmix (by kernel_rfl) ?_
  refine (qD 1) ((qL H 3) ((qV) ((qD 1) ((qL H 3) ((qV) ?_)))))
  refine gg hr fun hg3 hr=>?_
  refine bb hr fun x1 hx1 hr=>?_
  obtain⟨b4,cb4,hvb4,hbb4⟩:=po H 2 hx1
  refine q0k rfl rfl (fun _ _=>q0p rfl el58 sz3 rfl hvb4 rfl hg3 (q4X hx1)) ?_
  obtain⟨hA1,hI3,H⟩:=q5f H 2 hx1 hbb4
  refine q0k rfl rfl (fun _ hq=>q0l rfl ag3 rfl ((hA1.ext hq).cell0 rfl)) ?_
  refine (qV) ?_
  refine gg hr fun hg4 hr=>?_
  refine q0k rfl rfl (fun _ _=>q0B rfl Tryz.underlying3 j1K rfl hg4 ha2.2) ?_
  refine gg hr fun hg5 hr=>?_
  refine (qBN (q0W hg5.1 hg5.2)) ?_
  refine gg hr fun hg6 hr=>?_
  refine (qBN (q0T hg6.1 hI3.2 hg6.2 (z3D hg5.2).2)) ?_
  obtain⟨b5,cb5,hvb5,hbb5⟩:=po H 2 hx1
  refine q0k rfl rfl (fun _ _=>q0p rfl el58 sz3 rfl hvb5 rfl hg3 (q4X hx1)) (QL.nil (fun w11 hE=>?_))
  have H:=H.ext hE
  refine q0F (i:=2) (z:=((x1.toNat ||| ((2 ^ a2.toNat:Nat):Int).toNat:Nat):Int)) rfl rfl rfl sz3 rfl rfl rfl (fun _=>⟨rfl,rfl,(z9X hg6 hI3 (z3D hg5.2))⟩) H rfl hbb5 (by simpa using q4X hx1) fun w12 H=>Z (R ((LB H 3) ((SB H 1) fun w13 H=>Z (CR ?_))))
  obtain rfl:=sm hr
  exact⟨_,resC rfl ag60 sz60 rfl rfl (ab H 1) rfl,H.ext0,_,_,_,rfl,hI2,H.outM (fr':=[]) [false,false,true,false] tw⟩
 refine K (R ((LB H 3) ((SB H 1) fun w14 H=>Z (CR ?_))))
 obtain rfl:=sm hr
 exact⟨_,resC rfl ag60 sz60 rfl rfl (ab H 1) rfl,H.ext0,_,_,_,rfl,hI2,H.outM (fr':=[]) [false,false,true,false] tw⟩
def q6q (y1:(List Occurrence))(s3:Int):Nat→Occurrence→((List Int) × Int)→Option ((List Int) × Int):=fun k1 x2 (s8,s9)=>(q7p y1 x2).bind fun y6=>(q5U (⟨s9,s8⟩:Relation) y6 s3).bind fun y7=>some (y7.Rows,y7.N)
def q3K (a1:Rule)(y1:(List Occurrence)):(Int × (List Int) × Int)→Option ((Int × (List Int) × Int) ⊕ ((List Int) × Int)):=fun (s3,s4,s5)=>if s3 < (y1.length:Int) then if 0 < s5 then ( grd (0≤s3) <| (y1[s3.toNat]?).bind fun x1=>(q4O a1 x1).bind fun (y3,y4)=>if y4=true then (q5T y3).bind fun y5=>(q2G (q6q y1 s3) 0 y5 (s4,s5)).bind fun (s8,s9)=>some (s8,s9) else some (s4,s5) ).bind fun (s6,s7)=>grd (I64 (s3+1)) <| some (.inl ((s3+1),s6,s7)) else some (.inr (s4,s5)) else some (.inr (s4,s5))
def q5V (a0:Grammar)(a1:Rule):Option Relation:=(q4V a0 a1).bind fun y1=>(q3p (y1.length:Int)).bind fun y2=>( q5u (q3K a1 y1) (0,y2.Rows,y2.N) ).bind fun (s1,s2)=>some (⟨s2,s1⟩:Relation)
theorem z6G {a0}{a1}{r}(hr:q5V a0 a1=some r){ca0}(ha0:rd F0 w0 a0 ca0){ca1}(ha1:rd F0 w0 a1 ca1):RT 51 #[ag ca0,ag ca1] w0 fun v w=>∃ A0 n0 c0,v = .agg #[.int .i64 r.N,(.slice A0 n0 c0)]∧I64 r.N∧HL F0 [] w0 w [] [.O 3 r.Rows (.slice A0 n0 c0)]:=by
 have H:=((HL.start F0 w0).argR ha0).argR ha1
 obtain⟨A1,n1,c1,A2,n2,c2,rfl,H⟩:=q2C H 0
 let d10:Pr:=.S a0.Rules (.slice A2 n2 c2)
 let d9:Pr:=.S a0.Symbols (.slice A1 n1 c1)
 let d4:List Value:=[.slice A1 n1 c1,.slice A2 n2 c2]
 obtain⟨A3,n3,c3,A4,n4,c4,A5,n5,c5,rfl,hS1,hS2,H⟩:=q2U H 1
 let d11:Pr:=.S a1.Right (.slice A3 n3 c3)
 let d8:Pr:=.S a1.Equations (.slice A4 n4 c4)
 let d7:Pr:=.S a1.Contributions (.slice A5 n5 c5)
 let d3:=q3C a1 A3 n3 c3 A4 n4 c4 A5 n5 c5
 let d1:List Pr:=[.R a0 d4,.R a1 d3,d9,d10,d11,d8,d7]
 refine (En Tryz.func51) ?_
 refine R ((BX H) fun b1 w1 H=>(BX H) fun b2 w2 H=>(AH ze60 H) fun b3 w3 H=>Z (R ((LB H 0) ((LB H 1) ?_))))
 let d13:It:=.B b1 31 d4
 let d5:It:=.B b3 60 [.int .i64 0,.slice none 0 0]
 refine bb hr fun y1 hy1 hr=>?_
 refine (CA ok50 (q9r hy1 ⟨_,_,rfl,(rs H 2),(rs H 3)⟩ ⟨_,_,_,rfl,hS1,hS2,(rs H 4),(rs H 5),(rs H 6)⟩)) ?_
 rintro _ w4 hE ⟨A6,n6,c6,rfl,H'⟩
 let d6:It:=.O 122 y1 (.slice A6 n6 c6)
 have H:=H.callA H' tv
 refine (A) (Z (R ((V) ?_)))
 have hl1:=(H.rO (i:=3) rfl).I
 refine (NN (ro H 3)) ?_
 refine bb hr fun y2 hy2 hr=>?_
 refine (CA ok41 (q9q hy2 (F0:=nF) hl1)) ?_
 rintro _ w5 hE ⟨A7,n7,c7,rfl,hI1,H'⟩
 have H:=H.callA H' tv
 refine (AH ze60 H) fun b4 w6 H=>(SB H 5) fun w7 H=>Z (Y (R ((AZ) ?_)))
 refine bb hr fun q1 hm1 hr=>?_
 refine q0o (fun ρ' w=>∃ (s1:List Int) (s2:Int) (v1:Value),q1=(s1,s2)∧q4z ρ' [(4,pB b3),(6,pB b4)]∧I64 s2∧HL F0 [] w0 w d1 [d13,.B b2 65 d3,d5,d6,.O 3 s1 v1,.B b4 60 [.int .i64 s2,v1]]) ?_ ?_
 ·obtain⟨m1,hq1⟩:=q4o.1 hm1
  refine (lI hq1 (fun m1 ⟨s3,s4,s5⟩ v2=>[(3,pB b2),(4,pB b3),(5,.slice A6 n6 c6),(6,pB b4),(7,.int .i64 s3)]) (fun ⟨s3,s4,s5⟩ v2 w=>I64 s3∧I64 s5∧HL F0 [] w0 w d1 [d13,.B b2 65 d3,d5,d6,.O 3 s4 v2,.B b4 60 [.int .i64 s5,v2]]) (.slice A7 n7 c7)) ?_
  rintro m1 ⟨s3,s4,s5⟩ v2 σ w8 hq1 ⟨hI3,hI4,H⟩
  obtain⟨A8,n8,c8,rfl⟩:=(fo H 4)
  obtain⟨m2,z1,rfl,hb1,hs1,ht1⟩:=q6H hq1
  refine Y (R ((V) ((V) ((NN (ro H 3)) ((B) (jD hb1 (fun h1 hb1=>?_) fun _ hb1=>?_))))))
  ·refine (G) ((D 0) ((G) ((L H 5) ((G) ((B) ((T) (Z (iD hb1 (fun h2 hb1=>?_) fun _ hb1=>?_))))))))
   ·refine K ?_
    refine bb hb1 fun q2 hm2 hb1=>Y ?_
    refine q0o (fun ρ' w=>∃ (s6:List Int) (s7:Int) (v3:Value),q2=(s6,s7)∧q4z ρ' [(3,pB b2),(4,pB b3),(5,.slice A6 n6 c6),(6,pB b4),(7,.int .i64 s3),(23,.pointer (some ⟨b4,0+0,none⟩)),(24,.int .i64 s5),(25,.bool (decide (0 < s5)))]∧I64 s7∧HL F0 [] w0 w d1 [d13,.B b2 65 d3,d5,d6,.O 3 s6 v3,.B b4 60 [.int .i64 s7,v3]]) ?_ ?_
    ·refine gg hm2 fun hg1 hm2=>?_
     refine bb hm2 fun x1 hx1 hm2=>?_
     obtain⟨b5,cb5,hvb5,hbb5⟩:=po H 3 hx1
     obtain⟨hA1,hI6,hS3,H⟩:=q4q H 3 hx1 hbb5
     obtain⟨⟨y3,y4⟩,hy3,hm2⟩:=bd hm2
     obtain⟨F_G1,hFl_G1,hF_G1,hcl_G1⟩:=H.callL
     refine Bk (Y ?_)
     refine q0H 11 (fun ρ=>[.fix (.agg #[.string a1.Name,.string a1.Left,.slice A3 n3 c3,.bool a1.Literal,.slice A4 n4 c4,.slice A5 n5 c5]),.fix (.slice A6 n6 c6),.fix (.int .i64 s3),.fix (.pointer (some ⟨b5,0+s3.toNat*2,none⟩)),.fix (.agg #[.int .i64 x1.Pos,.string x1.Name]),.free (fun S v w=>∃ A9:Option Addr,∃ n9:Nat,∃ c9:Nat,v = .tuple #[.agg #[.int .i64 y3.Kind,.int .i64 y3.N,.int .i64 y3.Pos,.int .i64 y3.Type_,.string y3.Symbol,.string y3.Name,.slice A9 n9 c9],.bool y4]∧I64 y3.Kind∧I64 y3.N∧I64 y3.Pos∧I64 y3.Type_∧y3.Symbol.size≤9223372036854775807∧y3.Name.size≤9223372036854775807∧NewV F_G1 w8 S w [] [.G 125 y3.Args (.slice A9 n9 c9)]),.dep 35 id,.dep 29 (z2R 0),.dep 29 (z2R 1),.free (VarB 125 7),.wr 8 36 (WrB 125)]) [[],[],[],[],[],[],[35],[29],[29],[],[8,36]] NoM (fun _ _=>True) [] [none,none,none,none,none,none,none,none,none,none,some 9] (noM _) hmix (by kernel_rfl) rfl ⟨trivial,trivial,trivial,trivial,trivial,fun _ _ _ _ _ ⟨A9,n9,c9,hv,h0,h1,h2,h3,h4,h5,hh⟩ hc hS hT=>⟨A9,n9,c9,hv,h0,h1,h2,h3,h4,h5,hh.chgT hc hS hT hFl_G1⟩,trivial,trivial,trivial,fun _ _ _ _ _ h hc hS _=>h.chgT hc hS,fun _ _ _ _ _ _ h hc hS _=>h.chgT hc hS,trivial⟩ trivial (fun _ _ _ _ _ _ _=>trivial) ?_
     refine q0m rfl rfl rfl rfl rfl (fun _ hq hK=>q0c rfl ag65 sz65 rfl (At.blk ((H.ext hq).rB (i:=1) rfl)) rfl) ?_
     refine q0m rfl rfl rfl rfl rfl (fun _ hq hK=>q0r rfl rfl) ?_
     refine q0m rfl rfl rfl rfl rfl (fun _ hq hK=>q0r rfl rfl) ?_
     refine q0m rfl rfl rfl rfl rfl (fun _ hq hK=>q0p rfl el88 q3Y rfl hvb5 rfl hg1 (q4X hx1)) ?_
     refine q0m rfl rfl rfl rfl rfl (fun _ hq hK=>q0c rfl z1W q3Y rfl (hA1.ext hq) rfl) ?_
     refine LL2.free rfl rfl rfl rfl (fun wq hq hK=>?_) (fun v_G1_5 S_G1_5=>?_)
     ·have hF:=hF_G1.ext hq
      refine OpX.call rfl rfl rfl rfl ok88 rfl (z3q hy3 ⟨_,_,_,rfl,hS1,hS2,(hF.get (i:=4) rfl),(hF.get (i:=5) rfl),(hF.get (i:=6) rfl)⟩ ⟨rfl,hI6,hS3⟩) ?_
      rintro _ w hE ⟨A9,n9,c9,rfl,h0,h1,h2,h3,h4,h5,hh⟩
      exact⟨hE,A9,n9,c9,rfl,h0,h1,h2,h3,h4,h5,NewV.of hFl_G1 hq hh⟩
     refine q0V rfl rfl rfl rfl rfl (.inl rfl) rfl ?_
     refine q0C rfl rfl rfl rfl rfl rfl rfl (fun wq hq hK=>?_) ?_
     ·have hK:∀ j' (_:(q2K _).contains j'=true),_:=hK 6 rfl
      obtain⟨A9,n9,c9,rfl,_,_,_,_,_,_,_⟩:=hK 5 rfl
      exact⟨_,_,rfl,rfl⟩
     refine q0C rfl rfl rfl rfl rfl rfl rfl (fun wq hq hK=>?_) ?_
     ·have hK:∀ j' (_:(q2K _).contains j'=true),_:=hK 6 rfl
      obtain⟨A9,n9,c9,rfl,_,_,_,_,_,_,_⟩:=hK 5 rfl
      exact⟨_,_,rfl,rfl⟩
     refine LL2.free rfl rfl rfl rfl (fun wq hq hK=>q0z rfl rfl z0a rfl) (fun v_G1_9 S_G1_9=>?_)
     refine LL2.st (k:=7) rfl rfl rfl (by decide) rfl rfl rfl rfl q5E rfl rfl (fun wq hq hK=>hK 9 rfl) (fun wq hq hK=>?_) ?_
     ·obtain⟨A9,n9,c9,rfl,_,_,_,_,_,_,_⟩:=hK 5 rfl
      exact⟨_,rfl,rfl,(all1 rfl (all1 rfl (all1 rfl (all1 rfl (all1 rfl (all1 rfl (all1 rfl all0)))))))⟩
     intro w9 hE _ hK hap hbd
     have hE:=z0W hE
     obtain⟨A9,n9,c9,rfl,hI7,hI8,hI9,hI10,hS4,hS5,hN1⟩:=hK 5 (by decide)
     let d12:=q2T y3 A9 n9 c9
     obtain⟨b6,rfl,hN2⟩:=j1x (cells:=d12) (hK 9 (by decide)) (hK 10 (by decide)) rfl
     have H:=hcl_G1 (q1d (hN1.app (hN2.V tv) fun q h1 h2=>absurd (hap 5 9 q h1 h2) (by decide)) hE fun q hq=>hq.elim (fun h=>(hbd 5 q h).1) fun h=>(hbd 9 q h).1)
     refine (A) (Z (Y (R ((V) ((N) (Z (iM hm2 (fun _ hm2=>?_) fun _ hm2=>?_)))))))
     ·exact CE (C1 hm2)
     refine K (Y ?_)
     refine q0e [(3,pB b2),(4,pB b3),(5,.slice A6 n6 c6),(6,pB b4),(7,.int .i64 s3),(8,pB b6),(23,.pointer (some ⟨b4,0+0,none⟩)),(24,.int .i64 s5),(25,.bool (decide (0 < s5)))] ⟨rfl,rfl,rfl,rfl,rfl,rfl,rfl,rfl,rfl,trivial⟩ fun σ=>?_
     have H:HL F0 [] w0 w9 [.R a0 d4,.R a1 d3,d9,d10,d11,d8,d7,.R x1 (q2J x1)] [d13,.B b2 65 d3,d5,d6,.O 3 s4 (.slice A8 n8 c8),.B b4 60 [.int .i64 s5,.slice A8 n8 c8],.G 125 y3.Args (.slice A9 n9 c9),.B b6 125 d12]:=H
     refine X ((LB H 7) ?_)
     have H:=H.frzG (i:=6) rfl
     refine bb hm2 fun y5 hy4 hm2=>?_
     obtain⟨F,hF,hcl⟩:=H.call
     refine (CA ok89 (z2r hy4 (q2F.2 ⟨_,rfl,hI7,hI8,hI9,hI10,hS4,hS5,(hF.get (i:=8) rfl)⟩))) ?_
     rintro _ w10 hE ⟨A10,n10,c10,rfl,H'⟩
     let d2:List Pr:=[.R a0 d4,.R a1 d3,d9,d10,d11,d8,d7,.R x1 (q2J x1),.S y3.Args (.slice A9 n9 c9),.S y5 (.slice A10 n10 c10)]
     have H:HL F0 [] w0 w10 d2 [d13,.B b2 65 d3,d5,d6,.O 3 s4 (.slice A8 n8 c8),.B b4 60 [.int .i64 s5,.slice A8 n8 c8],It.emp,.B b6 125 d12]:=hcl H'
     refine (A) (Z (R ((AZ) ?_)))
     refine bb hm2 fun q3 hq2 hm2=>?_
     refine (lE hq2 (fun k1 ⟨s8,s9⟩ v4=>[(3,pB b2),(4,pB b3),(5,.slice A6 n6 c6),(6,pB b4),(7,.int .i64 s3),(10,.slice A10 n10 c10),(11,zN k1),(23,.pointer (some ⟨b4,0+0,none⟩)),(24,.int .i64 s5),(25,.bool (decide (0 < s5)))]) (fun ⟨s8,s9⟩ v4 w=>I64 s9∧HL F0 [] w0 w d2 [d13,.B b2 65 d3,d5,d6,.O 3 s8 v4,.B b4 60 [.int .i64 s9,v4],It.emp,.B b6 125 d12]) (.slice A8 n8 c8)) ?_
     rintro k1 ⟨s8,s9⟩ v4 σ w11 hk1 hq2 ⟨hI11,H⟩
     obtain⟨A11,n11,c11,rfl⟩:=(fo H 4)
     refine Y (R ((V) ((V) ((NI H 9) fun hl2=>(BZ) ?_))))
     refine (iE hq2 (fun hk2 x2 z2 hx2 hb2 hq2=>?_) fun e=>?_)
     ·refine K (Y ?_)
      refine CW.block ?_
      refine q0t 8 hmix (by kernel_rfl) ?_
      refine (qLB H 5) ((qV) ((qV) ((qV) ?_)))
      obtain⟨b7,ob7,cb7,hvb7,hI12,hS6,H⟩:=q6e H 9 hx2
      refine (qJ 2 hvb7 hx2) ((qLA H 10) ?_)
      refine bb hb2 fun y6 hy5 hb2=>?_
      refine (qC ok90 (fun _ hq=>(z1f hy5 (ro (H.ext hq) 3) ⟨rfl,hI12,hS6⟩).mono fun _ _ _ h=>h.1)) ?_
      obtain⟨_,_,_,hI13⟩:=(z1f hy5 (ro H 3) ⟨rfl,hI12,hS6⟩).get
      refine (qV) ?_
      refine QL.nil (fun w12 hE=>?_)
      have H:=H.ext hE
      refine bb hb2 fun y7 hy6 hb2=>?_
      refine (CA ok53 (z5g hy6 ⟨_,rfl,hI11,(ro H 4)⟩ hI13 hI3)) ?_
      rintro _ w13 hE ⟨A12,n12,c12,rfl,hI14,H'⟩
      have H:=H.callA H' tv
      refine (SB H 5) fun w14 H=>Z (X ((V) ((AN hk2 hl2) ((AZ) ?_))))
      have H:=H.swap 4 8
      exact I1 hb2 ⟨k1+1,⟨y7.Rows,y7.N⟩,(.slice A12 n12 c12)⟩
     obtain rfl:=e
     exact CE (C1 hm2)
    rintro ρ' w15 ⟨s6,s7,v3,rfl,hag,hI5,H⟩
    obtain⟨σ,rfl⟩:=q4g hag
    obtain⟨A13,n13,c13,rfl⟩:=(fo H 4)
    refine X ((V) ?_)
    exact gg hb1 fun hg2 hb1=>(BN (Bin.add hg2)) ((A) (Z (I2 hb1 hs1 ⟨m2,⟨(s3+1),s6,s7⟩,(.slice A13 n13 c13)⟩)))
   exact CE (C2 hb1 ht1)
  exact (O) ((O) ((O) ((U) (Z ((cF) (CE (C2 hb1 ht1)))))))
 rintro ρ' w16 ⟨s1,s2,v1,rfl,hag,hI2,H⟩
 obtain⟨σ,rfl⟩:=q4g hag
 obtain⟨A14,n14,c14,rfl⟩:=(fo H 4)
 refine R ((LB H 5) ((SB H 2) fun w17 H=>Z (CR ?_)))
 obtain rfl:=sm hr
 exact⟨_,resC rfl ag60 sz60 rfl rfl (ab H 2) rfl,H.ext0,_,_,_,rfl,hI2,H.outM (fr':=[]) [false,false,false,false,true,false] tw⟩
def q4y (a2:Int):Nat→Occurrence→(List Int)→Option (List Int):=fun k1 x1 s1=>( if x1.Pos=a2 then grd (((s1.length:Int)+1)*8≤140737488355328∧(s1.length:Int)+1≤9223372036854775807) <| some (s1++[(k1:Int)]) else some s1 ).bind fun s2=>some s2
def q5q (a0:Grammar)(a1:Rule)(a2:Int):Option (List Int):=(q4V a0 a1).bind fun y1=>(q2G (q4y a2) 0 y1 ([]:List Int)).bind fun s1=>some s1
theorem z5h {a0}{a1}{a2}{r}(hr:q5q a0 a1 a2=some r){ca0}(ha0:rd F0 w0 a0 ca0){ca1}(ha1:rd F0 w0 a1 ca1)(ha2:I64 a2):RT 52 #[ag ca0,ag ca1,.int .i64 a2] w0 fun v w=>∃ A0 n0 c0,v=(.slice A0 n0 c0)∧HL F0 [] w0 w [] [.O 3 r (.slice A0 n0 c0)]:=by
 have H:=((HL.start F0 w0).argR ha0).argR ha1
 obtain⟨A1,n1,c1,A2,n2,c2,rfl,H⟩:=q2C H 0
 let d3:List Value:=[.slice A1 n1 c1,.slice A2 n2 c2]
 obtain⟨A3,n3,c3,A4,n4,c4,A5,n5,c5,rfl,hS1,hS2,H⟩:=q2U H 1
 let d2:=q3C a1 A3 n3 c3 A4 n4 c4 A5 n5 c5
 let d1:List Pr:=[.R a0 d3,.R a1 d2,.S a0.Symbols (.slice A1 n1 c1),.S a0.Rules (.slice A2 n2 c2),.S a1.Right (.slice A3 n3 c3),.S a1.Equations (.slice A4 n4 c4),.S a1.Contributions (.slice A5 n5 c5)]
 refine (En Tryz.func52) ?_
 refine R ((BX H) fun b1 w1 H=>(BX H) fun b2 w2 H=>(AZ) (R ?_))
 refine q0h (α:=Int) rfl rfl rfl el58 sz3 H fun A6 n6 c6 w3 H=>(A) (Z (R ((LB H 0) ((LB H 1) ?_))))
 refine bb hr fun y1 hy1 hr=>?_
 refine (CA ok50 (q9r hy1 ⟨_,_,rfl,(rs H 2),(rs H 3)⟩ ⟨_,_,_,rfl,hS1,hS2,(rs H 4),(rs H 5),(rs H 6)⟩)) ?_
 rintro _ w4 hE ⟨A7,n7,c7,rfl,H'⟩
 have H:=H.callA H' tv
 refine (A) (Z (Y (R ((AZ) ?_))))
 refine bb hr fun q1 hq1 hr=>?_
 refine (lE hq1 (fun k1 s1 v1=>[(2,.int .i64 a2),(7,v1),(8,.slice A7 n7 c7),(9,zN k1)]) (fun s1 v1 w=>HL F0 [] w0 w d1 [.B b1 31 d3,.B b2 65 d2,.O 3 s1 v1,.O 122 y1 (.slice A7 n7 c7)]) (.slice A6 n6 c6)) ?_
 rintro k1 s1 v1 σ w5 hk1 hq1 H
 obtain⟨A8,n8,c8,rfl⟩:=(fo H 2)
 refine Y (R ((V) ((V) ?_)))
 have hl1:=(H.rO (i:=3) rfl).I
 refine (NN (ro H 3)) ((BZ) ?_)
 refine (iE hq1 (fun hk2 x1 z1 hx1 hb1 hq1=>?_) fun e=>?_)
 ·refine K ?_
  refine bb hb1 fun q2 hm1 hb1=>Y ?_
  refine q0o (fun ρ' w=>∃ (s2:List Int) (v2:Value),s2=q2∧q4z ρ' [(2,.int .i64 a2),(7,v2),(8,.slice A7 n7 c7),(9,zN k1)]∧HL F0 [] w0 w d1 [.B b1 31 d3,.B b2 65 d2,.O 3 s2 v2,.O 122 y1 (.slice A7 n7 c7)]) ?_ ?_
  ·refine Bk (R ((V) ((V) ?_)))
   obtain⟨b3,cb3,hvb3,hbb3⟩:=po H 3 hx1
   refine (J 2 hvb3 hx1) ((D 0) ?_)
   obtain⟨hA1,hI1,hS3,H⟩:=q4q H 3 hx1 hbb3
   refine (LT hA1) ((V) ((BZ) (iD hm1 (fun _ hm1=>?_) fun _ hm1=>?_)))
   ·refine X ((V) ((V) ?_))
    refine q0n rfl rfl rfl el58 sz3 ze3 rfl rfl rfl rfl rfl rfl fun b4 w6 hE hb hB=>?_
    have H:=H.newB hE hb hB
    refine gg hm1 fun hg1 hm1=>?_
    exact q0q (i:=2) (ys:=[(k1:Int)]) rfl rfl rfl el58 sz3 by3 ze3 rfl rfl rfl H rfl (fun _=>ownL.single ⟨rfl,rfl,(q5v hk2 hl1)⟩) (.inr ⟨_,_,rfl,At.blk (rb H 4)⟩) hg1 fun A9 n9 c9 w7 H=>(AZ) (C1 hm1)
   exact K (C1 hm1)
  rintro ρ' w8 ⟨s2,v2,rfl,hag,H⟩
  obtain⟨σ,rfl⟩:=q4g hag
  obtain⟨A10,n10,c10,rfl⟩:=(fo H 2)
  exact X ((V) ((AN hk2 hl1) ((A) (Z (I1 hb1 ⟨k1+1,s2,(.slice A10 n10 c10)⟩)))))
 obtain rfl:=e
 exact CE (R ((V) ((AZ) (W1 hr))))
def q8y (a0:Relation)(a1 a2:Int):Option Bool:=(q3w a0).bind fun y1=>( if y1=true then grd (I64 (a0.N - 1)) <| (q4r a1 0 (a0.N - 1)).bind fun y2=>some y2 else some false ).bind fun s1=>( if s1=true then grd (I64 (a0.N - 1)) <| (q4r a2 0 (a0.N - 1)).bind fun y3=>some y3 else some false ).bind fun s2=>( if s2=true then grd (0≤a1) <| (a0.Rows[a1.toNat]?).bind fun x1=>grd (0≤a2) <| grd (0≤x1∧0≤a2∧a2 < 64) <| grd (0≤((x1.toNat >>> a2.toNat:Nat):Int)∧0≤(1:Int)) <| some (decide (((((x1.toNat >>> a2.toNat:Nat):Int).toNat &&& (1:Int).toNat:Nat):Int)=1)) else some false ).bind fun s3=>some s3
theorem z5i {a0}{a1 a2}{r}(hr:q8y a0 a1 a2=some r){ca0}(ha0:rd F0 w0 a0 ca0)(ha1:I64 a1)(ha2:I64 a2):RB 49 #[ag ca0,.int .i64 a1,.int .i64 a2] w0 r:=by
 have H:=(HL.start F0 w0).argR ha0
 obtain⟨A1,n1,c1,rfl,hI1,H⟩:=q2O H 0
 let d2:=q2D a0 A1 n1 c1
 let d1:List Pr:=[.R a0 d2,.S a0.Rows (.slice A1 n1 c1)]
 refine (En Tryz.func49) ?_
 refine R ((BX H) fun b1 w1 H=>(A) (Z (R ((LB H 0) ?_))))
 refine bb hr fun y1 hy1 hr=>?_
 refine (CA ok47 (q4x hy1 ⟨_,rfl,hI1,(rs H 1)⟩)) (cE H fun w2 H=>?_)
 refine bb hr fun q1 hm1 hr=>?_
 refine cu H 7 [(1,.int .i64 a1),(2,.int .i64 a2),(3,pB b1),(6,.bool false),(15,.bool q1)] d1 [.B b1 60 d2] ?_ fun σ w4 H=>?_
 ·refine jB hm1 (fun _ hm1=>?_) fun _ hm1=>?_
  ·refine (G) ((V) ((G) ((D 0) ((G) ((L H 0) ((G) ?_))))))
   refine gg hm1 fun hg1 hm1=>(BN (Bin.sub hg1)) ((G) ?_)
   refine bb hm1 fun y2 hy2 hm1=>?_
   exact (CA ok77 (q4t hy2 (F0:=nF) ha1 dI hg1)) (cE H fun w3 H=>(T) (Z (C1 hm1)))
  exact OF hm1
 refine bb hr fun q2 hm2 hr=>?_
 refine cu H 7 [(1,.int .i64 a1),(2,.int .i64 a2),(3,pB b1),(6,.bool false),(22,.bool q2)] d1 [.B b1 60 d2] ?_ fun σ w6 H=>?_
 ·refine jB hm2 (fun _ hm2=>?_) fun _ hm2=>?_
  ·refine (G) ((V) ((G) ((D 0) ((G) ((L H 0) ((G) ?_))))))
   refine gg hm2 fun hg2 hm2=>(BN (Bin.sub hg2)) ((G) ?_)
   refine bb hm2 fun y3 hy3 hm2=>?_
   exact (CA ok77 (q4t hy3 (F0:=nF) ha2 dI hg2)) (cE H fun w5 H=>(T) (Z (C1 hm2)))
  exact OF hm2
 refine bb hr fun q3 hm3 hr=>?_
 refine cu H 12 [(6,.bool false),(34,.bool q3)] d1 [.B b1 60 d2] ?_ fun σ w7 H=>?_
 ·refine jB hm3 (fun _ hm3=>?_) fun _ hm3=>?_
  ·refine (G) ((D 1) ((G) ((L H 0) ((G) ((V) ((G) ?_))))))
   refine gg hm3 fun hg3 hm3=>?_
   refine bb hm3 fun x1 hx1 hm3=>?_
   obtain⟨b2,ob2,cb2,hvb2,hI2,H⟩:=z0k H 1 hx1
   refine q0b rfl rfl (q0p rfl el58 sz3 rfl hvb2 rfl hg3 (q4X hx1)) ((G) ((L0 H 2) ((G) ((V) ((G) ?_)))))
   refine gg hm3 fun hg4 hm3=>?_
   refine q0b rfl rfl (q0B rfl Tryz.underlying3 j1K rfl hg4 ha2.2) ((G) ?_)
   refine gg hm3 fun hg5 hm3=>(BN (q0X hg5.1 hg5.2.1 hg5.2.2)) ((G) ?_)
   exact gg hm3 fun hg6 hm3=>(BN (q0Y hg6.1 (j0x hI2).2 hg6.2 (by decide:I64 1).2)) ((G) ((B) ((T) (Z (C1 hm3)))))
  exact OF hm3
 exact (AZ) (W1 hr)
def q6r (k1:Nat):Nat→(List Int)→Option (List Int):=fun k2 s2=>( (s2[k2]?).bind fun x1=>grd (0≤x1∧0≤(k1:Int)∧(k1:Int) < 64) <| grd (0≤((x1.toNat >>> (k1:Int).toNat:Nat):Int)∧0≤(1:Int)) <| if ((((x1.toNat >>> (k1:Int).toNat:Nat):Int).toNat &&& (1:Int).toNat:Nat):Int)=1 then (s2[k1]?).bind fun x2=>grd (0≤x1∧0≤x2) <| some (List.set s2 k2 ((x1.toNat ||| x2.toNat:Nat):Int)) else some s2 ).bind fun s3=>some s3
def q9s (a0:Relation):Nat→(List Int)→Option (List Int):=fun k1 s1=>(q7u (q6r k1) 0 (a0.N.toNat) s1).bind fun s2=>some s2
def q6W (a0:Relation):Option Relation:=(q7J a0).bind fun y1=>(q3w a0).bind fun y2=>if y2=true then (q7u (q9s a0) 0 (a0.N.toNat) y1.Rows).bind fun s1=>some (⟨y1.N,s1⟩:Relation) else some y1
theorem z2u {a0 r}(hr:q6W a0=some r){ca0}(ha0:rd F0 w0 a0 ca0):RT 48 #[ag ca0] w0 fun v w=>∃ A0 n0 c0,v = .agg #[.int .i64 r.N,(.slice A0 n0 c0)]∧I64 r.N∧HL F0 [] w0 w [] [.O 3 r.Rows (.slice A0 n0 c0)]:=by
 have H:=(HL.start F0 w0).argR ha0
 obtain⟨A1,n1,c1,rfl,hI1,H⟩:=q2O H 0
 let d3:=q2D a0 A1 n1 c1
 let d1:List Pr:=[.R a0 d3,.S a0.Rows (.slice A1 n1 c1)]
 refine (En Tryz.func48) ?_
 refine R ((BX H) fun b1 w1 H=>(AH ze60 H) fun b2 w2 H=>Z (R ((LB H 0) ?_)))
 let d2:It:=.B b2 60 [.int .i64 0,.slice none 0 0]
 refine bb hr fun y1 hy1 hr=>?_
 refine (CA ok86 (z5f hy1 ⟨_,rfl,hI1,(rs H 1)⟩)) ?_
 rintro _ w3 hE ⟨A2,n2,c2,rfl,hI2,H'⟩
 have H:=H.callA H' tv
 refine (AH ze60 H) fun b3 w4 H=>(SB H 3) fun w5 H=>Z (Y (R ((LB H 0) ?_)))
 let d4:It:=.B b3 60 (q2D y1 A2 n2 c2)
 refine bb hr fun y2 hy2 hr=>?_
 refine (CA ok47 (q4x hy2 ⟨_,rfl,hI1,(rs H 1)⟩)) (cE H fun w6 H=>(N) (Z (iM hr (fun _ hr=>?_) fun _ hr=>?_)))
 ·refine R ((LB H 3) ((SB H 1) fun w7 H=>Z (CR ?_)))
  obtain rfl:=sm hr
  exact⟨_,resC rfl ag60 sz60 rfl rfl (ab H 1) rfl,H.ext0,_,_,_,rfl,hI2,H.outM (fr':=[]) [false,false,true,false] tw⟩
 refine K (Y (R ((AZ) ?_)))
 refine bb hr fun q1 hq1 hr=>?_
 refine (lN hq1 (fun k1 s1 _=>[(1,pB b1),(2,pB b2),(3,pB b3),(4,zN k1)]) (fun s1 _ w=>HL F0 [] w0 w d1 [.B b1 60 d3,d2,.O 3 s1 (.slice A2 n2 c2),d4]) ()) ?_
 rintro k1 s1 _ σ w8 hk1 hq1 H
 refine Y (R ((V) ((D 0) ((L H 0) ((BZ) ?_)))))
 refine q0d rfl (fun h2=>?_) (fun h2=>?_)
 ·have hk2:=z5M h2
  obtain⟨z1,hb1,hq1⟩:=z1I hq1 hk2
  refine K (Y ?_)
  refine Bk (R ((AZ) ?_))
  refine bb hb1 fun q2 hq2 hb1=>?_
  refine (lN hq2 (fun k2 s2 _=>[(1,pB b1),(2,pB b2),(3,pB b3),(4,zN k1),(5,zN k2)]) (fun s2 _ w=>HL F0 [] w0 w d1 [.B b1 60 d3,d2,.O 3 s2 (.slice A2 n2 c2),d4]) ()) ?_
  rintro k2 s2 _ σ w9 hk3 hq2 H
  refine Y (R ((V) ((D 0) ((L H 0) ((BZ) ?_)))))
  refine q0d rfl (fun h3=>?_) (fun h3=>?_)
  ·have hk4:=z5M h3
   obtain⟨z2,hb2,hq2⟩:=z1I hq2 hk4
   refine K ?_
   refine bb hb2 fun q3 hm1 hb2=>?_
   refine CW.seq (cm H [(1,pB b1),(2,pB b2),(3,pB b3),(4,zN k1),(5,zN k2)] d1 [.B b1 60 d3,d2,.O 3 q3 (.slice A2 n2 c2),d4] ?_ fun σ w12 H=>?_)
   ·refine Bk (R ((D 1) ((L H 3) ((V) ?_))))
    refine bb hm1 fun x1 hx1 hm1=>?_
    obtain⟨b4,cb4,hvb4,hbb4⟩:=po H 2 hx1
    refine (J 1 hvb4 hx1) ?_
    obtain⟨hA1,hI3,H⟩:=q5f H 2 hx1 hbb4
    refine q0b rfl rfl (q0l rfl ag3 rfl (hA1.cell0 rfl)) ((V) ?_)
    refine q0b rfl rfl (q0B rfl Tryz.underlying3 j1K rfl (Int.natCast_nonneg _) (j0w h2 hI1).2) ?_
    refine gg hm1 fun hg1 hm1=>(BN (q0X hg1.1 hg1.2.1 hg1.2.2)) ?_
    refine gg hm1 fun hg2 hm1=>(BN (q0Y hg2.1 (j0x hI3).2 hg2.2 (by decide:I64 1).2)) ((BZ) (iD hm1 (fun _ hm1=>?_) fun _ hm1=>?_))
    ·refine q0t 15 hmix (by kernel_rfl) ?_
     refine (qD 1) ((qL H 3) ((qV) ((qD 1) ((qL H 3) ((qV) ?_)))))
     obtain⟨b5,cb5,hvb5,hbb5⟩:=po H 2 hx1
     refine (qJ 1 hvb5 hx1) ?_
     obtain⟨hA2,hI4,H⟩:=q5f H 2 hx1 hbb5
     refine q0k rfl rfl (fun _ hq=>q0l rfl ag3 rfl ((hA2.ext hq).cell0 rfl)) ?_
     refine (qD 1) ((qL H 3) ((qV) ?_))
     refine bb hm1 fun x2 hx2 hm1=>?_
     obtain⟨b6,cb6,hvb6,hbb6⟩:=po H 2 hx2
     refine (qJ 1 hvb6 hx2) ?_
     obtain⟨hA3,hI5,H⟩:=q5f H 2 hx2 hbb6
     refine q0k rfl rfl (fun _ hq=>q0l rfl ag3 rfl ((hA3.ext hq).cell0 rfl)) ?_
     refine gg hm1 fun hg3 hm1=>?_
     refine (qBN (q0T hg3.1 hI4.2 hg3.2 hI5.2)) ?_
     obtain⟨b7,cb7,hvb7,hbb7⟩:=po H 2 hx1
     refine (qJ 1 hvb7 hx1) ?_
     refine QL.nil (fun w10 hE=>?_)
     have H:=H.ext hE
     exact q0F (i:=2) (z:=((x1.toNat ||| x2.toNat:Nat):Int)) rfl rfl rfl sz3 rfl rfl rfl (fun _=>⟨rfl,rfl,(z9X hg3 hI4 hI5)⟩) H rfl hbb7 (by simpa using q4X hx1) fun w11 H=>Z (C1 hm1)
    exact K (C1 hm1)
   exact X ((V) ((BN (q0x (a:=k2) (b:=1) rfl (z2n h3 hI1.2))) ((A) (Z (I1 hb2 ⟨k2+1,q3,()⟩)))))
  obtain rfl:=q9Y hq2 (q9Z h3)
  exact CE (X ((V) ((BN (q0x (a:=k1) (b:=1) rfl (z2n h2 hI1.2))) ((A) (Z (I1 hb1 ⟨k1+1,s2,()⟩))))))
 obtain rfl:=q9Y hq1 (q9Z h2)
 refine CE (R ((LB H 3) ((SB H 1) fun w13 H=>Z (CR ?_))))
 obtain rfl:=sm hr
 exact⟨_,resC rfl ag60 sz60 rfl rfl (ab H 1) rfl,H.ext0,_,_,_,rfl,hI2,H.outM (fr':=[]) [false,false,true,false] tw⟩
end Go.Proofs.YtmblndlpkpaobabGreat

