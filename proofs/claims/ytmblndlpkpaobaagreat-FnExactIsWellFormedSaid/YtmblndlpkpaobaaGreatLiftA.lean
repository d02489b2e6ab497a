/- What some functions of the program compute, as partial functions on plain data, and that they do; each lemma bears its conditions in its statement. -/
import Derived.Test.YtmblndlpkpaobaaGreatRows
import Derived.Test.YtmblndlpkpaobaaGreatRd
import Derived.Test.YtmblndlpkpaobaaGreatEngD
import Derived.Test.YtmblndlpkpaobaaGreatSort
set_option linter.unusedVariables false
set_option linter.unusedSimpArgs false
set_option linter.ambiguousOpen false
set_option linter.unusedSectionVars false
set_option linter.unnecessarySimpa false
set_option linter.unusedVariables false
set_option linter.unusedSimpArgs false
set_option maxRecDepth 100000
set_option maxHeartbeats 4000000
noncomputable section
namespace Go.Proofs.YtmblndlpkpaobaaGreat
open Go Go.E
open Go.E.Rep (rd)
open Go.E.Sep (own)
open Go.E.Sz (szd)
variable {F0:Nat→Prop}{w0:World}{M:List Nat}
abbrev RT (f:Nat)(a:Array Value)(w:World)(R:Value→World→Prop):=Ret Tryz.prog f a w (fun _=>False) R
abbrev RM (f:Nat)(a:Array Value)(M:List Nat)(w:World)(R:Value→World→Prop):=Ret Tryz.prog f a w (·∈M) R
theorem ag4:aggT Tryz.prog 4=some false:=by kernel_rfl
theorem ag29:aggT Tryz.prog 29=some false:=by kernel_rfl
theorem ag31:aggT Tryz.prog 31=some true:=by kernel_rfl
theorem ag37:aggT Tryz.prog 37=some false:=by kernel_rfl
theorem ag39:aggT Tryz.prog 39=some true:=by kernel_rfl
theorem ag41:aggT Tryz.prog 41=some true:=by kernel_rfl
theorem ag44:aggT Tryz.prog 44=some false:=by kernel_rfl
theorem ag45:aggT Tryz.prog 45=some false:=by kernel_rfl
theorem ag47:aggT Tryz.prog 47=some true:=by kernel_rfl
theorem ag55:aggT Tryz.prog 55=some true:=by kernel_rfl
theorem ag58:aggT Tryz.prog 58=some true:=by kernel_rfl
theorem ag60:aggT Tryz.prog 60=some true:=by kernel_rfl
theorem ag111:aggT Tryz.prog 111=some true:=by kernel_rfl
theorem sz9:szT Tryz.prog 9=some 1:=by kernel_rfl
theorem sz31:szT Tryz.prog 31=some 2:=by kernel_rfl
theorem sz39:szT Tryz.prog 39=some 2:=by kernel_rfl
theorem sz41:szT Tryz.prog 41=some 4:=by kernel_rfl
theorem sz47:szT Tryz.prog 47=some 6:=by kernel_rfl
theorem sz55:szT Tryz.prog 55=some 2:=by kernel_rfl
theorem sz56:szT Tryz.prog 56=some 1:=by kernel_rfl
theorem sz58:szT Tryz.prog 58=some 7:=by kernel_rfl
theorem sz60:szT Tryz.prog 60=some 9:=by kernel_rfl
theorem sz111:szT Tryz.prog 111=some 16:=by kernel_rfl
theorem by3:byT Tryz.prog 3=some 8:=by kernel_rfl
theorem by9:byT Tryz.prog 9=some 16:=by kernel_rfl
theorem by41:byT Tryz.prog 41=some 40:=by kernel_rfl
theorem by55:byT Tryz.prog 55=some 24:=by kernel_rfl
theorem by58:byT Tryz.prog 58=some 88:=by kernel_rfl
theorem ze9:zeroT Tryz.prog 9=some [.string ⟨#[]⟩]:=by kernel_rfl
theorem ze39:zeroT Tryz.prog 39=some [.string ⟨#[]⟩,.slice none 0 0]:=by kernel_rfl
theorem ze41:zeroT Tryz.prog 41=some [.string ⟨#[]⟩,.int .i64 0,.int .i64 0,.bool false]:=by kernel_rfl
theorem ze47:zeroT Tryz.prog 47=some [.string ⟨#[]⟩,.string ⟨#[]⟩,.slice none 0 0,.bool false,.slice none 0 0,.slice none 0 0]:=by kernel_rfl
theorem ze52:zeroT Tryz.prog 52=some [.slice none 0 0]:=by kernel_rfl
theorem ze55:zeroT Tryz.prog 55=some [.int .i64 0,.string ⟨#[]⟩]:=by kernel_rfl
theorem ze58:zeroT Tryz.prog 58=some [.int .i64 0,.int .i64 0,.int .i64 0,.int .i64 0,.string ⟨#[]⟩,.string ⟨#[]⟩,.slice none 0 0]:=by kernel_rfl
theorem ze60:zeroT Tryz.prog 60=some [.int .i64 0,.string ⟨#[]⟩,.int .i64 0,.int .i64 0,.int .i64 0,.int .i64 0,.string ⟨#[]⟩,.string ⟨#[]⟩,.slice none 0 0]:=by kernel_rfl
theorem ze106:zeroT Tryz.prog 106=some [.slice none 0 0]:=by kernel_rfl
theorem ze111:zeroT Tryz.prog 111=some [.string ⟨#[]⟩,.string ⟨#[]⟩,.int .i64 0,.int .i64 0,.int .i64 0,.int .i64 0,.string ⟨#[]⟩,.string ⟨#[]⟩,.slice none 0 0,.int .i64 0,.int .i64 0,.int .i64 0,.int .i64 0,.string ⟨#[]⟩,.string ⟨#[]⟩,.slice none 0 0]:=by kernel_rfl
theorem el28:elemT Tryz.prog 28=some 39:=by kernel_rfl
theorem el29:elemT Tryz.prog 29=some 47:=by kernel_rfl
theorem el37:elemT Tryz.prog 37=some 41:=by kernel_rfl
theorem el43:elemT Tryz.prog 43=some 9:=by kernel_rfl
theorem el44:elemT Tryz.prog 44=some 60:=by kernel_rfl
theorem el45:elemT Tryz.prog 45=some 111:=by kernel_rfl
theorem el52:elemT Tryz.prog 52=some 55:=by kernel_rfl
theorem el56:elemT Tryz.prog 56=some 58:=by kernel_rfl
theorem pl39:z0D Tryz.prog 39=some [(0,1),(1,1)]:=by kernel_rfl
theorem pl41:z0D Tryz.prog 41=some [(0,1),(1,1),(2,1),(3,1)]:=by kernel_rfl
theorem pl55:z0D Tryz.prog 55=some [(0,1),(1,1)]:=by kernel_rfl
theorem pl58:z0D Tryz.prog 58=some [(0,1),(1,1),(2,1),(3,1),(4,1),(5,1),(6,1)]:=by kernel_rfl
theorem fl55:flatT Tryz.prog 55=some [.int,.str]:=by kernel_rfl
theorem fo39_0:fieldT Tryz.prog 39 0=some 0:=by kernel_rfl
theorem fo39_1:fieldT Tryz.prog 39 1=some 1:=by kernel_rfl
theorem fo58_1:fieldT Tryz.prog 58 1=some 1:=by kernel_rfl
theorem fo58_2:fieldT Tryz.prog 58 2=some 2:=by kernel_rfl
theorem fo58_3:fieldT Tryz.prog 58 3=some 3:=by kernel_rfl
theorem fo58_4:fieldT Tryz.prog 58 4=some 4:=by kernel_rfl
theorem fo58_5:fieldT Tryz.prog 58 5=some 5:=by kernel_rfl
theorem ok11:q0a Tryz.prog 11=true:=by kernel_rfl
theorem ok12:q0a Tryz.prog 12=true:=by kernel_rfl
theorem ok15:q0a Tryz.prog 15=true:=by kernel_rfl
theorem ok16:q0a Tryz.prog 16=true:=by kernel_rfl
theorem ok17:q0a Tryz.prog 17=true:=by kernel_rfl
theorem ok18:q0a Tryz.prog 18=true:=by kernel_rfl
theorem ok19:q0a Tryz.prog 19=true:=by kernel_rfl
theorem ok20:q0a Tryz.prog 20=true:=by kernel_rfl
theorem ok21:q0a Tryz.prog 21=true:=by kernel_rfl
theorem ok26:q0a Tryz.prog 26=true:=by kernel_rfl
theorem ok27:q0a Tryz.prog 27=true:=by kernel_rfl
theorem ok28:q0a Tryz.prog 28=true:=by kernel_rfl
theorem ok29:q0a Tryz.prog 29=true:=by kernel_rfl
theorem ok30:q0a Tryz.prog 30=true:=by kernel_rfl
theorem ok33:q0a Tryz.prog 33=true:=by kernel_rfl
theorem ok34:q0a Tryz.prog 34=true:=by kernel_rfl
theorem ok35:q0a Tryz.prog 35=true:=by kernel_rfl
theorem ok36:q0a Tryz.prog 36=true:=by kernel_rfl
theorem ok37:q0a Tryz.prog 37=true:=by kernel_rfl
theorem ok38:q0a Tryz.prog 38=true:=by kernel_rfl
theorem ok39:q0a Tryz.prog 39=true:=by kernel_rfl
theorem ok40:q0a Tryz.prog 40=true:=by kernel_rfl
theorem ok41:q0a Tryz.prog 41=true:=by kernel_rfl
theorem ok42:q0a Tryz.prog 42=true:=by kernel_rfl
theorem ok43:q0a Tryz.prog 43=true:=by kernel_rfl
theorem ok44:q0a Tryz.prog 44=true:=by kernel_rfl
theorem ok45:q0a Tryz.prog 45=true:=by kernel_rfl
theorem ok46:q0a Tryz.prog 46=true:=by kernel_rfl
theorem ok47:q0a Tryz.prog 47=true:=by kernel_rfl
theorem ok54:q0a Tryz.prog 54=true:=by kernel_rfl
theorem ok55:q0a Tryz.prog 55=true:=by kernel_rfl
theorem ok56:q0a Tryz.prog 56=true:=by kernel_rfl
theorem ok57:q0a Tryz.prog 57=true:=by kernel_rfl
theorem ok58:q0a Tryz.prog 58=true:=by kernel_rfl
theorem ok59:q0a Tryz.prog 59=true:=by kernel_rfl
theorem ok60:q0a Tryz.prog 60=true:=by kernel_rfl
theorem ok61:q0a Tryz.prog 61=true:=by kernel_rfl
theorem ok62:q0a Tryz.prog 62=true:=by kernel_rfl
theorem ok67:q0a Tryz.prog 67=true:=by kernel_rfl
theorem ok68:q0a Tryz.prog 68=true:=by kernel_rfl
theorem ok69:q0a Tryz.prog 69=true:=by kernel_rfl
theorem ok70:q0a Tryz.prog 70=true:=by kernel_rfl
theorem ok71:q0a Tryz.prog 71=true:=by kernel_rfl
theorem ok72:q0a Tryz.prog 72=true:=by kernel_rfl
theorem ok73:q0a Tryz.prog 73=true:=by kernel_rfl
theorem ok74:q0a Tryz.prog 74=true:=by kernel_rfl
theorem ok75:q0a Tryz.prog 75=true:=by kernel_rfl
theorem ok76:q0a Tryz.prog 76=true:=by kernel_rfl
theorem ok77:q0a Tryz.prog 77=true:=by kernel_rfl
theorem ok78:q0a Tryz.prog 78=true:=by kernel_rfl
theorem ok79:q0a Tryz.prog 79=true:=by kernel_rfl
theorem ok80:q0a Tryz.prog 80=true:=by kernel_rfl
theorem ok81:q0a Tryz.prog 81=true:=by kernel_rfl
theorem ok82:q0a Tryz.prog 82=true:=by kernel_rfl
theorem ok83:q0a Tryz.prog 83=true:=by kernel_rfl
theorem ok84:q0a Tryz.prog 84=true:=by kernel_rfl
theorem ok92:q0a Tryz.prog 92=true:=by kernel_rfl
theorem ok93:q0a Tryz.prog 93=true:=by kernel_rfl
theorem ok94:q0a Tryz.prog 94=true:=by kernel_rfl
theorem ok95:q0a Tryz.prog 95=true:=by kernel_rfl
theorem ok96:q0a Tryz.prog 96=true:=by kernel_rfl
theorem ok97:q0a Tryz.prog 97=true:=by kernel_rfl
theorem ok98:q0a Tryz.prog 98=true:=by kernel_rfl
theorem ok99:q0a Tryz.prog 99=true:=by kernel_rfl
theorem ok103:q0a Tryz.prog 103=true:=by kernel_rfl
theorem ok104:q0a Tryz.prog 104=true:=by kernel_rfl
theorem ok105:q0a Tryz.prog 105=true:=by kernel_rfl
theorem ok106:q0a Tryz.prog 106=true:=by kernel_rfl
theorem ok107:q0a Tryz.prog 107=true:=by kernel_rfl
theorem ok108:q0a Tryz.prog 108=true:=by kernel_rfl
theorem ok109:q0a Tryz.prog 109=true:=by kernel_rfl
theorem ok110:q0a Tryz.prog 110=true:=by kernel_rfl
theorem ok111:q0a Tryz.prog 111=true:=by kernel_rfl
theorem ok112:q0a Tryz.prog 112=true:=by kernel_rfl
theorem ok113:q0a Tryz.prog 113=true:=by kernel_rfl
theorem ok115:q0a Tryz.prog 115=true:=by kernel_rfl
theorem ok121:q0a Tryz.prog 121=true:=by kernel_rfl
theorem ok122:q0a Tryz.prog 122=true:=by kernel_rfl
theorem ok123:q0a Tryz.prog 123=true:=by kernel_rfl
theorem ok124:q0a Tryz.prog 124=true:=by kernel_rfl
theorem ok125:q0a Tryz.prog 125=true:=by kernel_rfl
theorem ok126:q0a Tryz.prog 126=true:=by kernel_rfl
theorem ok127:q0a Tryz.prog 127=true:=by kernel_rfl
theorem ok128:q0a Tryz.prog 128=true:=by kernel_rfl
theorem ok129:q0a Tryz.prog 129=true:=by kernel_rfl
theorem ok130:q0a Tryz.prog 130=true:=by kernel_rfl
theorem ok131:q0a Tryz.prog 131=true:=by kernel_rfl
theorem ok134:q0a Tryz.prog 134=true:=by kernel_rfl
theorem ok135:q0a Tryz.prog 135=true:=by kernel_rfl
theorem ok136:q0a Tryz.prog 136=true:=by kernel_rfl
theorem ok137:q0a Tryz.prog 137=true:=by kernel_rfl
theorem ok138:q0a Tryz.prog 138=true:=by kernel_rfl
theorem ok139:q0a Tryz.prog 139=true:=by kernel_rfl
theorem ok140:q0a Tryz.prog 140=true:=by kernel_rfl
theorem ok141:q0a Tryz.prog 141=true:=by kernel_rfl
theorem ok142:q0a Tryz.prog 142=true:=by kernel_rfl
theorem ok143:q0a Tryz.prog 143=true:=by kernel_rfl
theorem ok144:q0a Tryz.prog 144=true:=by kernel_rfl
theorem ok145:q0a Tryz.prog 145=true:=by kernel_rfl
theorem ok146:q0a Tryz.prog 146=true:=by kernel_rfl
theorem ok155:q0a Tryz.prog 155=true:=by kernel_rfl
theorem ok156:q0a Tryz.prog 156=true:=by kernel_rfl
theorem ok157:q0a Tryz.prog 157=true:=by kernel_rfl
theorem ok158:q0a Tryz.prog 158=true:=by kernel_rfl
theorem ok159:q0a Tryz.prog 159=true:=by kernel_rfl
theorem ok160:q0a Tryz.prog 160=true:=by kernel_rfl
theorem ok161:q0a Tryz.prog 161=true:=by kernel_rfl
theorem ok162:q0a Tryz.prog 162=true:=by kernel_rfl
theorem ok163:q0a Tryz.prog 163=true:=by kernel_rfl
theorem ok165:q0a Tryz.prog 165=true:=by kernel_rfl
theorem ok166:q0a Tryz.prog 166=true:=by kernel_rfl
theorem ok167:q0a Tryz.prog 167=true:=by kernel_rfl
theorem ok168:q0a Tryz.prog 168=true:=by kernel_rfl
theorem ok169:q0a Tryz.prog 169=true:=by kernel_rfl
theorem ok183:q0a Tryz.prog 183=true:=by kernel_rfl
theorem ok184:q0a Tryz.prog 184=true:=by kernel_rfl
theorem ok185:q0a Tryz.prog 185=true:=by kernel_rfl
theorem ok186:q0a Tryz.prog 186=true:=by kernel_rfl
theorem ok187:q0a Tryz.prog 187=true:=by kernel_rfl
theorem ok188:q0a Tryz.prog 188=true:=by kernel_rfl
theorem ok189:q0a Tryz.prog 189=true:=by kernel_rfl
theorem ok190:q0a Tryz.prog 190=true:=by kernel_rfl
theorem ok191:q0a Tryz.prog 191=true:=by kernel_rfl
theorem ok192:q0a Tryz.prog 192=true:=by kernel_rfl
theorem ok193:q0a Tryz.prog 193=true:=by kernel_rfl
theorem ok194:q0a Tryz.prog 194=true:=by kernel_rfl
theorem ok195:q0a Tryz.prog 195=true:=by kernel_rfl
theorem ok196:q0a Tryz.prog 196=true:=by kernel_rfl
theorem ok202:q0a Tryz.prog 202=true:=by kernel_rfl
theorem ok203:q0a Tryz.prog 203=true:=by kernel_rfl
theorem ok204:q0a Tryz.prog 204=true:=by kernel_rfl
theorem ok205:q0a Tryz.prog 205=true:=by kernel_rfl
theorem ok206:q0a Tryz.prog 206=true:=by kernel_rfl
theorem ok207:q0a Tryz.prog 207=true:=by kernel_rfl
theorem ok208:q0a Tryz.prog 208=true:=by kernel_rfl
theorem ok209:q0a Tryz.prog 209=true:=by kernel_rfl
theorem ok211:q0a Tryz.prog 211=true:=by kernel_rfl
theorem ok212:q0a Tryz.prog 212=true:=by kernel_rfl
theorem ok213:q0a Tryz.prog 213=true:=by kernel_rfl
theorem ok214:q0a Tryz.prog 214=true:=by kernel_rfl
theorem ok215:q0a Tryz.prog 215=true:=by kernel_rfl
theorem ok216:q0a Tryz.prog 216=true:=by kernel_rfl
theorem ok217:q0a Tryz.prog 217=true:=by kernel_rfl
theorem ok218:q0a Tryz.prog 218=true:=by kernel_rfl
theorem ok219:q0a Tryz.prog 219=true:=by kernel_rfl
theorem ok220:q0a Tryz.prog 220=true:=by kernel_rfl
theorem ok221:q0a Tryz.prog 221=true:=by kernel_rfl
theorem ok222:q0a Tryz.prog 222=true:=by kernel_rfl
theorem ok223:q0a Tryz.prog 223=true:=by kernel_rfl
theorem ok224:q0a Tryz.prog 224=true:=by kernel_rfl
def q2z (a0 a1 a2:Int):Option Bool:=if a1≤a0 then some (decide (a0≤a2)) else some false
theorem q3d {a0 a1 a2}{r}(hr:q2z a0 a1 a2=some r){F0:Nat→Prop}(ha0:I64 a0)(ha1:I64 a1)(ha2:I64 a2):RT 94 #[.int .i64 a0,.int .i64 a1,.int .i64 a2] w0 fun v w=>v = .bool r:=by
 have H:=HL.start F0 w0
 refine (En Tryz.func94) ?_
 refine R ((A) (Z (R ((V) ((V) ((B) (jD hr (fun _ hr=>?_) fun _ hr=>?_)))))))
 ·exact (G) ((V) ((G) ((V) ((G) ((B) ((T) ((A) (Z (W1 hr)))))))))
 ·exact (O) ((O) ((O) ((U) ((A) (Z (W1 hr))))))
def q1V (a0:Rule)(a1:Int):Option ByteArray:=if a1=0 then some a0.Left else (q2z a1 1 (a0.Right.length:Int)).bind fun y1=>if y1=true then grd (I64 (a1 - 1)) <| grd (0≤(a1 - 1)) <| (a0.Right[(a1 - 1).toNat]?).bind fun x1=>some x1 else some (⟨#[]⟩:ByteArray)
theorem q1C {a0}{a1}{r}(hr:q1V a0 a1=some r){ca0}(ha0:rd F0 w0 a0 ca0)(ha1:I64 a1):RT 56 #[.agg ca0.toArray,.int .i64 a1] w0 fun v w=>v = .string r∧r.size≤9223372036854775807:=by
 have H:=(HL.start F0 w0).argR ha0
 obtain⟨A1,n1,c1,A2,n2,c2,A3,n3,c3,rfl,hS1,hS2,H⟩:=q0z H (i:=0) rfl
 refine (En Tryz.func56) ?_
 refine R ((BX H) fun b1 w1 H=>(A) (Z (Y (R ((V) ((B) (Z (iD hr (fun _ hr=>?_) fun _ hr=>?_))))))))
 ·exact R ((D 1) ((L H 0) ((A) (Z (W1 hr)))))
 ·refine K (Y (R ((V) ((D 2) ((L H 0) ((NI H 1) fun hl1=>?_))))))
  refine (bb hr fun y1 hy1 hr=>?_)
  refine (CA ok94 (q3d hy1 (F0:=fun _=>False) ha1 (by decide:I64 1) hl1)) (cE H fun w2 H=>(N) (Z (iM hr (fun _ hr=>?_) fun _ hr=>?_)))
  ·exact R ((A) (Z (W1 hr)))
  ·refine K (R ((D 2) ((L H 0) ((V) ?_))))
   refine (gg hr fun hg1 hr=>(BN (Bin.sub hg1)) ?_)
   refine (gg hr fun hg2 hr=>?_)
   refine (bb hr fun x1 hx1 hr=>?_)
   obtain⟨b2,ob2,cb2,hvb2,hS3,H⟩:=q8G H (i:=1) rfl hx1
   exact WL.ev rfl rfl (Ev.ixV rfl el43 sz9 rfl hvb2 rfl hg2 (lt_of hx1)) ((L0 H 4) ((A) (Z (W1 hr))))
def q5i (a0:Symbol):Option Symbol:=grd (((([]:List Attribute).length:Int)+(a0.Attributes.length:Int))*40≤140737488355328∧(([]:List Attribute).length:Int)+(a0.Attributes.length:Int)≤9223372036854775807) <| some a0
theorem z3O {a0 r}(hr:q5i a0=some r){ca0}(ha0:rd F0 w0 a0 ca0):RT 93 #[.agg ca0.toArray] w0 fun v w=>∃ A0 n0 c0,v = .agg #[.string r.Name,(.slice A0 n0 c0)]∧r.Name.size≤9223372036854775807∧HL F0 [] w0 w [] [It.O 41 r.Attributes (.slice A0 n0 c0)]:=by
 have H:=(HL.start F0 w0).argR ha0
 obtain⟨A1,n1,c1,rfl,hS1,H⟩:=q4L H (i:=0) rfl
 refine (En Tryz.func93) ?_
 refine R ((BX H) fun b1 w1 H=>(AH ze39 H) fun b2 w2 H=>Z (Y ?_))
 let d1:List Value:=[.string a0.Name,.slice A1 n1 c1]
 let d2:List Pr:=[Pr.R a0 d1,Pr.S a0.Attributes (.slice A1 n1 c1)]
 refine CW.held (fun w=>∃ v1_0_:Value,∃ v1_1_:Value,HL F0 [] w0 w d2 [It.B b1 39 d1,It.B b2 39 [v1_0_,v1_1_]]) hmix (fun w3 hE=>?_)
 have H:HL F0 [] w0 w3 d2 [It.B b1 39 d1,It.B b2 39 [.string (⟨#[]⟩:ByteArray),.slice none 0 0]]:=H.ext hE
 refine HW.take 0 ⟨_,_,H.keep 2 2⟩ rfl (by kernel_rfl) rfl rfl (fun _ _=>Ev.fa rfl fo39_0 rfl) ?_
 refine HW.take 1 ⟨_,_,H.keep 2 2⟩ rfl (by kernel_rfl) rfl rfl (fun _ ⟨_,_,hq⟩=>Ev.ld rfl ag9 rfl ((hq.rB (i:=0) rfl).cell rfl)) ?_
 refine HW.take 3 ⟨_,_,H.keep 2 2⟩ rfl (by kernel_rfl) rfl rfl (fun _ _=>Ev.fa rfl fo39_1 rfl) ?_
 refine HW.take 4 ⟨_,_,H.keep 2 2⟩ rfl (by kernel_rfl) rfl rfl (fun _ ⟨_,_,hq⟩=>Ev.ld rfl ag37 rfl ((hq.rB (i:=0) rfl).cell rfl)) ?_
 refine HW.eff 2 rfl (by kernel_rfl) ?_
 refine WL.lit0H (α:=Attribute) rfl rfl rfl el37 sz41 H fun A2 n2 c2 w4 H=>?_
 refine HW.next ⟨_,_,H.keep 2 2⟩ ?_
 refine HW.eff 5 rfl (by kernel_rfl) ?_
 refine (gg hr fun hg1 hr=>?_)
 refine WL.appS (i:=2) rfl rfl rfl el37 sz41 by41 ze41 rfl rfl rfl H rfl (rs H 1) hg1 fun A3 n3 c3 w5 H=>?_
 refine HW.next ⟨_,_,H.keep 2 2⟩ ?_
 refine HW.take 6 ⟨_,_,H.keep 2 2⟩ rfl (by kernel_rfl) rfl rfl (fun _ _=>Ev.build rfl pl39 ze39 rfl rfl rfl rfl) ?_
 refine HW.eff 7 rfl (by kernel_rfl) ((SB H 1) fun w6 H=>?_)
 refine HW.next ⟨_,_,H.keep 2 2⟩ ?_
 refine HW.done (by kernel_rfl) (CR ?_)
 obtain rfl:=sm hr
 exact⟨_,resC rfl ag39 sz39 rfl rfl (At.blk (H.rB (i:=1) rfl)) rfl,H.ext0,_,_,_,rfl,hS1,H.outM (fr':=[]) [false,false,true] fun _ _=>trivial⟩
def q4M (a1:ByteArray):Nat→Symbol→Unit→Option (Unit ⊕ (Symbol × Bool)):=fun k1 x1 _=>if x1.Name=a1 then (q5i x1).bind fun y1=>some (.inr (y1,true)) else some (.inl ())
def q1I (a0:Grammar)(a1:ByteArray):Option (Symbol × Bool):=(findL (q4M a1) 0 a0.Symbols ()).bind <| onr (fun r1=>some r1) fun _=>some ((⟨(⟨#[]⟩:ByteArray),[]⟩:Symbol),false)
theorem q3p {a0}{a1}{r}(hr:q1I a0 a1=some r){ca0}(ha0:rd F0 w0 a0 ca0)(ha1:a1.size≤9223372036854775807):RT 55 #[.agg ca0.toArray,.string a1] w0 fun v w=>∃ A0 n0 c0,v = .tuple #[.agg #[.string r.1.Name,(.slice A0 n0 c0)],.bool r.2]∧r.1.Name.size≤9223372036854775807∧HL F0 [] w0 w [] [It.O 41 r.1.Attributes (.slice A0 n0 c0)]:=by
 have H:=(HL.start F0 w0).argR ha0
 obtain⟨A1,n1,c1,A2,n2,c2,rfl,H⟩:=q0e H (i:=0) rfl
 refine (En Tryz.func55) ?_
 refine R ((BX H) fun b1 w1 H=>(AH ze39 H) fun b2 w2 H=>(A) (Z (Y (R ((A) (Z ?_))))))
 refine (bb hr fun q1 hq1 hr=>?_)
 refine (lF hq1 (fun k1 _ _=>[(1,.string a1),(2,pB b1),(4,pB b2),(6,zN k1)]) (fun _ _ w=>HL F0 [] w0 w [Pr.R a0 [.slice A1 n1 c1,.slice A2 n2 c2],Pr.S a0.Symbols (.slice A1 n1 c1),Pr.S a0.Rules (.slice A2 n2 c2)] [It.B b1 31 [.slice A1 n1 c1,.slice A2 n2 c2],It.B b2 39 [.string (⟨#[]⟩:ByteArray),.slice none 0 0]]) ()) ?_
 rintro k1 _ _ σ w3 hk1 hq1 H
 refine Y (R ((V) ((D 0) ((L H 0) ((NI H 1) fun hl1=>(B) (Z ?_))))))
 refine (iF hq1 hr (fun hk2 x1 z1 hx1 hb1 hs1 ht1=>?_) fun hr=>?_)
 ·refine K (Y ?_)
  refine CW.block (R ((D 0) ((L H 0) ((V) ?_))))
  obtain⟨b3,ob3,cb3,A3,n3,c3,hvb3,hS1,H⟩:=q2w H (i:=1) rfl hx1
  refine (J 2 hvb3 hx1) ((D 0) ((LC H 3) ((V) ((B) (Z (iD hb1 (fun _ hb1=>?_) fun _ hb1=>?_))))))
  ·refine R ((D 0) ((L H 0) ((V) ((J 2 hvb3 hx1) ((LA H 3) ?_)))))
   refine (bb hb1 fun y1 hy1 hb1=>?_)
   refine (CA ok93 (z3O hy1 ⟨_,rfl,hS1,(rs H 5)⟩)) ?_
   rintro _ w4 hE ⟨A4,n4,c4,rfl,hS2,H'⟩
   have H:=H.callA H' ⟨fun _ _ _ _ _ h=>h,trivial⟩
   refine (SB H 1) fun w5 H=>(A) (Z (CR ?_))
   obtain rfl:=sm hb1
   obtain rfl:=ht1 _ rfl
   obtain rfl:=sm hr
   exact⟨_,resC1 rfl ag39 sz39 rfl rfl rfl rfl (At.blk (H.rB (i:=1) rfl)) rfl,H.ext0,_,_,_,rfl,hS2,H.outM (fr':=[]) [false,false,true] fun _ _=>trivial⟩
  ·exact K (X ((V) ((AN hk2 hl1) ((A) (Z (I2 hb1 hs1 ⟨k1+1,(),()⟩))))))
 ·refine CE (R ?_)
  refine WL.ev rfl rfl (Ev.build rfl pl39 ze39 rfl rfl rfl rfl) ((SB H 1) fun w6 H=>(A) (Z (CR ?_)))
  have H:=H.nil (α:=Attribute) 41
  obtain rfl:=sm hr
  exact⟨_,resC1 rfl ag39 sz39 rfl rfl rfl rfl (At.blk (H.rB (i:=1) rfl)) rfl,H.ext0,_,_,_,rfl,(by decide:(⟨#[]⟩:ByteArray).size≤9223372036854775807),H.outM (fr':=[]) [false,false,true] fun _ _=>trivial⟩
def q3K:Nat→Attribute→(List Attribute)→Option (List Attribute):=fun k1 x1 s1=>( if x1.Mode=1 then grd (((s1.length:Int)+1)*40≤140737488355328∧(s1.length:Int)+1≤9223372036854775807) <| some (s1++[x1]) else if x1.Mode=2 then grd (((s1.length:Int)+1)*40≤140737488355328∧(s1.length:Int)+1≤9223372036854775807) <| some (s1++[x1]) else some s1 ).bind fun s2=>some s2
def q4f (a0:Grammar)(a1:ByteArray):Option (List Attribute):=(q1I a0 a1).bind fun (y1,y2)=>(eachL q3K 0 y1.Attributes ([]:List Attribute)).bind fun s1=>some s1
theorem q9E {a0}{a1}{r}(hr:q4f a0 a1=some r){ca0}(ha0:rd F0 w0 a0 ca0)(ha1:a1.size≤9223372036854775807):RT 92 #[.agg ca0.toArray,.string a1] w0 fun v w=>∃ A0 n0 c0,v=(.slice A0 n0 c0)∧HL F0 [] w0 w [] [It.O 41 r (.slice A0 n0 c0)]:=by
 have H:=(HL.start F0 w0).argR ha0
 obtain⟨A1,n1,c1,A2,n2,c2,rfl,H⟩:=q0e H (i:=0) rfl
 refine (En Tryz.func92) ?_
 refine R ((BX H) fun b1 w1 H=>(A) (Z (R ?_)))
 refine WL.lit0H (α:=Attribute) rfl rfl rfl el37 sz41 H fun A3 n3 c3 w2 H=>(A) (Z (R ((LB H 0) ((V) ?_))))
 obtain⟨⟨y1,y2⟩,hy1,hr⟩:=bd hr
 refine (CA ok55 (q3p hy1 ⟨_,_,rfl,(rs H 1),(rs H 2)⟩ ha1)) ?_
 rintro _ w3 hE ⟨A4,n4,c4,rfl,hS1,H'⟩
 have H:=H.callA H' ⟨fun _ _ _ _ _ h=>h,trivial⟩
 refine (V) ((EX) ((EX) ((AH ze39 H) fun b2 w4 H=>(SB H 3) fun w5 H=>(A) (Z (Y (R ((A) (Z ?_))))))))
 refine (bb hr fun q1 hq1 hr=>?_)
 let d1:List Value:=[.slice A1 n1 c1,.slice A2 n2 c2]
 let d2:It:=It.B b2 39 [.string y1.Name,.slice A4 n4 c4]
 let d3:List Pr:=[Pr.R a0 d1,Pr.S a0.Symbols (.slice A1 n1 c1),Pr.S a0.Rules (.slice A2 n2 c2)]
 let d4:It:=It.O 41 y1.Attributes (.slice A4 n4 c4)
 refine (lE hq1 (fun k1 s1 v1=>[(5,v1),(6,pB b2),(8,zN k1)]) (fun s1 v1 w=>HL F0 [] w0 w d3 [It.B b1 31 d1,It.O 41 s1 v1,d4,d2]) (.slice A3 n3 c3)) ?_
 rintro k1 s1 v1 σ w6 hk1 hq1 H
 obtain⟨A5,n5,c5,rfl⟩:=(H.rO (i:=1) rfl).form3
 refine Y (R ((V) ((D 1) ((L H 3) ?_))))
 have hl1:=(H.rO (i:=2) rfl).I
 refine (NN (ro H 2)) ((B) (Z ?_))
 refine (iE hq1 (fun hk2 x1 z1 hx1 hb1 hq1=>?_) fun e=>?_)
 ·refine K ?_
  refine (bb hb1 fun q2 hm1 hb1=>Y ?_)
  refine CW.mid (fun ρ' w=>∃ (s2:List Attribute) (v2:Value),s2=q2∧agree ρ' [(5,v2),(6,pB b2),(8,zN k1)]∧HL F0 [] w0 w d3 [It.B b1 31 d1,It.O 41 s2 v2,d4,d2]) ?_ ?_
  ·refine CW.block (R ((D 1) ((L H 3) ((V) ?_))))
   obtain⟨b3,cb3,hvb3,hbb3⟩:=H.ptO (i:=2) rfl hx1
   refine (J 4 hvb3 hx1) ((D 2) ?_)
   obtain⟨hA1,hS2,hI1,hI2,H⟩:=q2p H (i:=2) rfl hx1 hbb3
   refine (LT hA1) ((B) (jD hm1 (fun _ hm1=>?_) fun _ hm1=>?_))
   ·refine (O) ((O) ((O) ((O) ((O) ((O) ((O) ((T) (Z ((cT) (X ((V) ((D 1) ((L H 3) ((V) ?_))))))))))))))
    obtain⟨b4,cb4,hvb4,hbb4⟩:=H.ptO (i:=2) rfl hx1
    refine (J 4 hvb4 hx1) ?_
    obtain⟨hA2,hS3,hI3,hI4,H⟩:=q2p H (i:=2) rfl hx1 hbb4
    refine WL.ev rfl rfl (Ev.lda rfl ag41 sz41 rfl hA2 rfl) ?_
    refine WL.lit1 rfl rfl rfl el37 sz41 ze41 rfl rfl rfl rfl rfl rfl fun b5 w7 hE hb hB=>?_
    have H:=H.newB hE hb hB
    refine (gg hm1 fun hg1 hm1=>?_)
    exact WL.appO (i:=1) (ys:=[x1]) rfl rfl rfl el37 sz41 by41 ze41 rfl rfl rfl H rfl (fun _=>ownL.single ⟨rfl,hS3,hI3,hI4,rfl⟩) (.inr ⟨_,_,rfl,At.blk (H.rB (i:=4) rfl)⟩) hg1 fun A6 n6 c6 w8 H=>(A) (Z (C1 hm1))
   ·refine (G) ((D 1) ((G) ((L H 3) ((G) ((V) ((G) ?_))))))
    obtain⟨b6,cb6,hvb6,hbb6⟩:=H.ptO (i:=2) rfl hx1
    refine (J 4 hvb6 hx1) ((G) ((D 2) ((G) ?_)))
    obtain⟨hA3,hS4,hI5,hI6,H⟩:=q2p H (i:=2) rfl hx1 hbb6
    refine (LT hA3) ((G) ((B) ((U) (Z (iD hm1 (fun _ hm1=>?_) fun _ hm1=>?_)))))
    ·refine CW.fresh [(5,.slice A5 n5 c5),(6,pB b2),(8,zN k1),(31,.pointer (some ⟨b2,0+1,none⟩)),(32,.slice A4 n4 c4),(33,zN k1),(34,.pointer (some ⟨b6,0+k1*4,none⟩)),(35,.pointer (some ⟨b6,0+k1*4+2,none⟩)),(36,.int .i64 x1.Mode),(37,.bool (decide (x1.Mode=2)))] ⟨rfl,rfl,rfl,rfl,rfl,rfl,rfl,rfl,rfl,rfl,trivial⟩ fun σ=>?_
     let d5:Pr:=Pr.R x1 [.string x1.Name,.int .i64 x1.Type_,.int .i64 x1.Mode,.bool x1.Circular]
     have H:HL F0 [] w0 w6 [Pr.R a0 d1,Pr.S a0.Symbols (.slice A1 n1 c1),Pr.S a0.Rules (.slice A2 n2 c2),d5,d5] [It.B b1 31 d1,It.O 41 s1 (.slice A5 n5 c5),d4,d2]:=H
     refine X ((V) ((D 1) ((L H 3) ((V) ?_))))
     obtain⟨b7,cb7,hvb7,hbb7⟩:=H.ptO (i:=2) rfl hx1
     refine (J 4 hvb7 hx1) ?_
     obtain⟨hA4,hS5,hI7,hI8,H⟩:=q2p H (i:=2) rfl hx1 hbb7
     refine WL.ev rfl rfl (Ev.lda rfl ag41 sz41 rfl hA4 rfl) ?_
     refine WL.lit1 rfl rfl rfl el37 sz41 ze41 rfl rfl rfl rfl rfl rfl fun b8 w9 hE hb hB=>?_
     have H:=H.newB hE hb hB
     refine (gg hm1 fun hg2 hm1=>?_)
     exact WL.appO (i:=1) (ys:=[x1]) rfl rfl rfl el37 sz41 by41 ze41 rfl rfl rfl H rfl (fun _=>ownL.single ⟨rfl,hS5,hI7,hI8,rfl⟩) (.inr ⟨_,_,rfl,At.blk (H.rB (i:=4) rfl)⟩) hg2 fun A7 n7 c7 w10 H=>(A) (Z (C1 hm1))
    ·exact K (C1 hm1)
  ·rintro ρ' w11 ⟨s2,v2,rfl,hag,H⟩
   obtain⟨σ,rfl⟩:=ofL_ex hag
   obtain⟨A8,n8,c8,rfl⟩:=(H.rO (i:=1) rfl).form3
   exact X ((V) ((AN hk2 hl1) ((A) (Z (I1 hb1 ⟨k1+1,s2,(.slice A8 n8 c8)⟩)))))
 ·obtain rfl:=e
  exact CE (R ((V) ((A) (Z (W1 hr)))))
def q7H (s3:Int):Nat→Attribute→(List Occurrence)→Option (List Occurrence):=fun k1 x1 s4=>grd (((s4.length:Int)+1)*24≤140737488355328∧(s4.length:Int)+1≤9223372036854775807) <| some (s4++[(⟨s3,x1.Name⟩:Occurrence)])
def q2V (a0:Grammar)(a1:Rule):((List Occurrence) × Int)→Option (((List Occurrence) × Int) ⊕ (List Occurrence)):=fun (s2,s3)=>if s3≤(a1.Right.length:Int) then (q1V a1 s3).bind fun y1=>(q4f a0 y1).bind fun y2=>(eachL (q7H s3) 0 y2 s2).bind fun s4=>grd (I64 (s3+1)) <| some (.inl (s4,(s3+1))) else some (.inr s2)
def q4X (a0:Grammar)(a1:Rule):Option (List Occurrence):=( iterO (q2V a0 a1) (([]:List Occurrence),0) ).bind fun s1=>some s1
theorem z0L {a0}{a1}{r}(hr:q4X a0 a1=some r){ca0}(ha0:rd F0 w0 a0 ca0){ca1}(ha1:rd F0 w0 a1 ca1):RT 54 #[.agg ca0.toArray,.agg ca1.toArray] w0 fun v w=>∃ A0 n0 c0,v=(.slice A0 n0 c0)∧HL F0 [] w0 w [] [It.O 55 r (.slice A0 n0 c0)]:=by
 have H:=((HL.start F0 w0).argR ha0).argR ha1
 obtain⟨A1,n1,c1,A2,n2,c2,rfl,H⟩:=q0e H (i:=0) rfl
 obtain⟨A3,n3,c3,A4,n4,c4,A5,n5,c5,rfl,hS1,hS2,H⟩:=q0z H (i:=1) rfl
 refine (En Tryz.func54) ?_
 refine R ((BX H) fun b1 w1 H=>(BX H) fun b2 w2 H=>(A) (Z (R ?_)))
 refine WL.lit0H (α:=Occurrence) rfl rfl rfl el52 sz55 H fun A6 n6 c6 w3 H=>(A) (Z (Y (R ((A) (Z ?_)))))
 refine (bb hr fun q1 hm1 hr=>?_)
 let d2:List Value:=[.string a1.Name,.string a1.Left,.slice A3 n3 c3,.bool a1.Literal,.slice A4 n4 c4,.slice A5 n5 c5]
 let d3:List Value:=[.slice A1 n1 c1,.slice A2 n2 c2]
 let d1:List Pr:=[Pr.R a0 d3,Pr.R a1 d2,Pr.S a0.Symbols (.slice A1 n1 c1),Pr.S a0.Rules (.slice A2 n2 c2),Pr.S a1.Right (.slice A3 n3 c3),Pr.S a1.Equations (.slice A4 n4 c4),Pr.S a1.Contributions (.slice A5 n5 c5)]
 refine CW.mid (fun ρ' w=>∃ (s1:List Occurrence) (v1:Value),s1=q1∧agree ρ' [(5,v1)]∧HL F0 [] w0 w d1 [It.B b1 31 d3,It.B b2 47 d2,It.O 55 s1 v1]) ?_ ?_
 ·obtain⟨m1,hq1⟩:=q2m.1 hm1
  refine (lI hq1 (fun m1 ⟨s2,s3⟩ v2=>[(2,pB b1),(3,pB b2),(5,v2),(6,.int .i64 s3)]) (fun ⟨s2,s3⟩ v2 w=>I64 s3∧HL F0 [] w0 w d1 [It.B b1 31 d3,It.B b2 47 d2,It.O 55 s2 v2]) (.slice A6 n6 c6)) ?_
  rintro m1 ⟨s2,s3⟩ v2 σ w4 hq1 ⟨hI1,H⟩
  obtain⟨A7,n7,c7,rfl⟩:=(H.rO (i:=2) rfl).form3
  obtain⟨m2,z1,rfl,hb1,hs1,ht1⟩:=q4S hq1
  refine Y (R ((V) ((D 2) ((L H 1) ((NI H 4) fun hl1=>(B) (Z (iD hb1 (fun _ hb1=>?_) fun _ hb1=>?_)))))))
  ·refine K (Y ?_)
   refine CW.block (Y ?_)
   refine CW.quietT 4 hmix (by kernel_rfl) ?_
   refine (qLB H 0) ((qLB H 1) ((qV) ?_))
   refine (bb hb1 fun y1 hy1 hb1=>?_)
   refine (qC ok56 (fun _ hq=>(q1C hy1 ⟨_,_,_,rfl,hS1,hS2,(rs (H.ext hq) 4),(rs (H.ext hq) 5),(rs (H.ext hq) 6)⟩ hI1).mono fun _ _ _ h=>h.1)) ?_
   obtain⟨_,_,_,hS3⟩:=(q1C hy1 ⟨_,_,_,rfl,hS1,hS2,(rs H 4),(rs H 5),(rs H 6)⟩ hI1).get
   refine QL.nil (fun w5 hE=>?_)
   have H:=H.ext hE
   refine (bb hb1 fun y2 hy2 hb1=>?_)
   refine (CA ok92 (q9E hy2 ⟨_,_,rfl,(rs H 2),(rs H 3)⟩ hS3)) ?_
   rintro _ w6 hE ⟨A8,n8,c8,rfl,H'⟩
   have H:=H.callA H' ⟨fun _ _ _ _ _ h=>h,trivial⟩
   refine (A) (Z (R ((A) (Z ?_))))
   refine (bb hb1 fun q2 hq2 hb1=>?_)
   refine (lE hq2 (fun k1 s4 v3=>[(2,pB b1),(3,pB b2),(5,v3),(6,.int .i64 s3),(7,.slice A8 n8 c8),(8,zN k1)]) (fun s4 v3 w=>HL F0 [] w0 w d1 [It.B b1 31 d3,It.B b2 47 d2,It.O 55 s4 v3,It.O 41 y2 (.slice A8 n8 c8)]) (.slice A7 n7 c7)) ?_
   rintro k1 s4 v3 σ w7 hk1 hq2 H
   obtain⟨A9,n9,c9,rfl⟩:=(H.rO (i:=2) rfl).form3
   refine Y (R ((V) ((V) ?_)))
   have hl2:=(H.rO (i:=3) rfl).I
   refine (NN (ro H 3)) ((B) (Z ?_))
   refine (iE hq2 (fun hk2 x1 z2 hx1 hb2 hq2=>?_) fun e=>?_)
   ·refine K (Y ?_)
    refine CW.block (X ((V) ((V) ((V) ((V) ?_)))))
    obtain⟨b3,cb3,hvb3,hbb3⟩:=H.ptO (i:=3) rfl hx1
    refine (J 4 hvb3 hx1) ((D 0) ?_)
    obtain⟨hA1,hS4,hI2,hI3,H⟩:=q2p H (i:=3) rfl hx1 hbb3
    refine (LT hA1) ?_
    refine WL.ev rfl rfl (Ev.build rfl pl55 ze55 rfl rfl rfl rfl) ?_
    refine WL.lit1 rfl rfl rfl el52 sz55 ze55 rfl rfl rfl rfl rfl rfl fun b4 w8 hE hb hB=>?_
    have H:=H.newB hE hb hB
    refine (gg hb2 fun hg1 hb2=>?_)
    exact WL.appO (i:=2) (ys:=[(⟨s3,x1.Name⟩:Occurrence)]) rfl rfl rfl el52 sz55 by55 ze55 rfl rfl rfl H rfl (fun _=>ownL.single ⟨rfl,hI1,hS4,rfl⟩) (.inr ⟨_,_,rfl,At.blk (H.rB (i:=4) rfl)⟩) hg1 fun A10 n10 c10 w9 H=>(A) (Z (X ((V) ((AN hk2 hl2) ((A) (Z (I1 hb2 ⟨k1+1,(s4++[(⟨s3,x1.Name⟩:Occurrence)]),(.slice A10 n10 c10)⟩)))))))
   ·obtain rfl:=e
    refine CE (X ((V) ?_))
    exact (gg hb1 fun hg2 hb1=>(BN (Bin.add hg2)) ((A) (Z (I2 hb1 hs1 ⟨m2,⟨s4,(s3+1)⟩,(.slice A9 n9 c9)⟩))))
  ·exact CE (C2 hb1 ht1)
 ·rintro ρ' w10 ⟨s1,v1,rfl,hag,H⟩
  obtain⟨σ,rfl⟩:=ofL_ex hag
  obtain⟨A11,n11,c11,rfl⟩:=(H.rO (i:=2) rfl).form3
  exact R ((V) ((A) (Z (W1 hr))))
def q5D (a1:ByteArray):Nat→Attribute→Unit→Option (Unit ⊕ (Attribute × Bool)):=fun k1 x1 _=>if x1.Name=a1 then some (.inr (x1,true)) else some (.inl ())
def q1J (a0:Symbol)(a1:ByteArray):Option (Attribute × Bool):=(findL (q5D a1) 0 a0.Attributes ()).bind <| onr (fun r1=>some r1) fun _=>some ((⟨(⟨#[]⟩:ByteArray),0,0,false⟩:Attribute),false)
theorem q3x {a0}{a1}{r}(hr:q1J a0 a1=some r){ca0}(ha0:rd F0 w0 a0 ca0)(ha1:a1.size≤9223372036854775807):RT 57 #[.agg ca0.toArray,.string a1] w0 fun v w=>v = .tuple #[.agg #[.string r.1.Name,.int .i64 r.1.Type_,.int .i64 r.1.Mode,.bool r.1.Circular],.bool r.2]∧r.1.Name.size≤9223372036854775807∧I64 r.1.Type_∧I64 r.1.Mode:=by
 have H:=(HL.start F0 w0).argR ha0
 obtain⟨A1,n1,c1,rfl,hS1,H⟩:=q4L H (i:=0) rfl
 refine (En Tryz.func57) ?_
 refine R ((BX H) fun b1 w1 H=>(AH ze41 H) fun b2 w2 H=>(A) (Z (Y (R ((A) (Z ?_))))))
 refine (bb hr fun q1 hq1 hr=>?_)
 refine (lF hq1 (fun k1 _ _=>[(1,.string a1),(2,pB b1),(4,pB b2),(6,zN k1)]) (fun _ _ w=>HL F0 [] w0 w [Pr.R a0 [.string a0.Name,.slice A1 n1 c1],Pr.S a0.Attributes (.slice A1 n1 c1)] [It.B b1 39 [.string a0.Name,.slice A1 n1 c1],It.B b2 41 [.string (⟨#[]⟩:ByteArray),.int .i64 0,.int .i64 0,.bool false]]) ()) ?_
 rintro k1 _ _ σ w3 hk1 hq1 H
 refine Y (R ((V) ((D 1) ((L H 0) ((NI H 1) fun hl1=>(B) (Z ?_))))))
 refine (iF hq1 hr (fun hk2 x1 z1 hx1 hb1 hs1 ht1=>?_) fun hr=>?_)
 ·refine K (Y ?_)
  refine CW.block (R ((D 1) ((L H 0) ((V) ?_))))
  obtain⟨b3,ob3,cb3,hvb3,hS2,hI1,hI2,H⟩:=q1U H (i:=1) rfl hx1
  refine (J 4 hvb3 hx1) ((D 0) ((LC H 2) ((V) ((B) (Z (iD hb1 (fun _ hb1=>?_) fun _ hb1=>?_))))))
  ·refine R ((D 1) ((L H 0) ((V) ((J 4 hvb3 hx1) ((LA H 2) ((SB H 1) fun w4 H=>(A) (Z (CR ?_))))))))
   obtain rfl:=sm hb1
   obtain rfl:=ht1 _ rfl
   obtain rfl:=sm hr
   exact⟨_,resC1 rfl ag41 sz41 rfl rfl rfl rfl (At.blk (H.rB (i:=1) rfl)) rfl,H.ext0,rfl,hS2,hI1,hI2⟩
  ·exact K (X ((V) ((AN hk2 hl1) ((A) (Z (I2 hb1 hs1 ⟨k1+1,(),()⟩))))))
 ·refine CE (R ?_)
  refine WL.ev rfl rfl (Ev.build rfl pl41 ze41 rfl rfl rfl rfl) ((SB H 1) fun w5 H=>(A) (Z (CR ?_)))
  obtain rfl:=sm hr
  exact⟨_,resC1 rfl ag41 sz41 rfl rfl rfl rfl (At.blk (H.rB (i:=1) rfl)) rfl,H.ext0,rfl,(by decide:(⟨#[]⟩:ByteArray).size≤9223372036854775807),(by decide:I64 0),(by decide:I64 0)⟩
def q2M (a0:Grammar)(a1:Rule):Nat→Occurrence→(List Occurrence)→Option (List Occurrence):=fun k1 x1 s1=>( (q1V a1 x1.Pos).bind fun y2=>(q1I a0 y2).bind fun (y3,y4)=>(q1J y3 x1.Name).bind fun (y5,y6)=>if y5.Circular=true then grd (((s1.length:Int)+1)*24≤140737488355328∧(s1.length:Int)+1≤9223372036854775807) <| some (s1++[x1]) else some s1 ).bind fun s2=>some s2
def q1D (a0:Grammar)(a1:Rule):Option (List Occurrence):=(q4X a0 a1).bind fun y1=>(eachL (q2M a0 a1) 0 y1 ([]:List Occurrence)).bind fun s1=>some s1
theorem q7X {a0}{a1}{r}(hr:q1D a0 a1=some r){ca0}(ha0:rd F0 w0 a0 ca0){ca1}(ha1:rd F0 w0 a1 ca1):RT 26 #[.agg ca0.toArray,.agg ca1.toArray] w0 fun v w=>∃ A0 n0 c0,v=(.slice A0 n0 c0)∧HL F0 [] w0 w [] [It.O 55 r (.slice A0 n0 c0)]:=by
 have H:=((HL.start F0 w0).argR ha0).argR ha1
 obtain⟨A1,n1,c1,A2,n2,c2,rfl,H⟩:=q0e H (i:=0) rfl
 obtain⟨A3,n3,c3,A4,n4,c4,A5,n5,c5,rfl,hS1,hS2,H⟩:=q0z H (i:=1) rfl
 refine (En Tryz.func26) ?_
 refine R ((BX H) fun b1 w1 H=>(BX H) fun b2 w2 H=>(A) (Z (R ?_)))
 refine WL.lit0H (α:=Occurrence) rfl rfl rfl el52 sz55 H fun A6 n6 c6 w3 H=>(A) (Z (R ((LB H 0) ((LB H 1) ?_))))
 refine (bb hr fun y1 hy1 hr=>?_)
 refine (CA ok54 (z0L hy1 ⟨_,_,rfl,(rs H 2),(rs H 3)⟩ ⟨_,_,_,rfl,hS1,hS2,(rs H 4),(rs H 5),(rs H 6)⟩)) ?_
 rintro _ w4 hE ⟨A7,n7,c7,rfl,H'⟩
 have H:=H.callA H' ⟨fun _ _ _ _ _ h=>h,trivial⟩
 refine (A) (Z (Y (R ((A) (Z ?_)))))
 refine (bb hr fun q1 hq1 hr=>?_)
 let d1:List Value:=[.string a1.Name,.string a1.Left,.slice A3 n3 c3,.bool a1.Literal,.slice A4 n4 c4,.slice A5 n5 c5]
 let d3:List Value:=[.slice A1 n1 c1,.slice A2 n2 c2]
 let d2:List Pr:=[Pr.R a0 d3,Pr.R a1 d1,Pr.S a0.Symbols (.slice A1 n1 c1),Pr.S a0.Rules (.slice A2 n2 c2),Pr.S a1.Right (.slice A3 n3 c3),Pr.S a1.Equations (.slice A4 n4 c4),Pr.S a1.Contributions (.slice A5 n5 c5)]
 let d5:It:=It.O 55 y1 (.slice A7 n7 c7)
 refine (lE hq1 (fun k1 s1 v1=>[(2,pB b1),(3,pB b2),(5,v1),(6,.slice A7 n7 c7),(7,zN k1)]) (fun s1 v1 w=>HL F0 [] w0 w d2 [It.B b1 31 d3,It.B b2 47 d1,It.O 55 s1 v1,d5]) (.slice A6 n6 c6)) ?_
 rintro k1 s1 v1 σ w5 hk1 hq1 H
 obtain⟨A8,n8,c8,rfl⟩:=(H.rO (i:=2) rfl).form3
 refine Y (R ((V) ((V) ?_)))
 have hl1:=(H.rO (i:=3) rfl).I
 refine (NN (ro H 3)) ((B) (Z ?_))
 refine CW.condD rfl (fun h1=>?_) (fun h1=>?_)
 ·have hk2:=q0m h1
  obtain⟨x1,z1,hx1,hb1,hq1⟩:=q4w hq1 hk2
  refine K ?_
  refine (bb hb1 fun q2 hm1 hb1=>Y ?_)
  refine CW.mid (fun ρ' w=>∃ (s2:List Occurrence) (v2:Value),s2=q2∧agree ρ' [(2,pB b1),(3,pB b2),(5,v2),(6,.slice A7 n7 c7),(7,zN k1)]∧HL F0 [] w0 w d2 [It.B b1 31 d3,It.B b2 47 d1,It.O 55 s2 v2,d5]) ?_ ?_
  ·obtain⟨b3,cb3,hvb3,hbb3⟩:=H.ptO (i:=3) rfl hx1
   obtain⟨hA1,hI1,hS3,H⟩:=q1S H (i:=3) rfl hx1 hbb3
   refine (bb hm1 fun y2 hy2 hm1=>?_)
   obtain⟨_,_,_,hS4⟩:=(q1C hy2 ⟨_,_,_,rfl,hS1,hS2,(rs H 4),(rs H 5),(rs H 6)⟩ hI1).get
   obtain⟨⟨y3,y4⟩,hy3,hm1⟩:=bd hm1
   refine CW.block (Y ?_)
   refine CW.any2 14 (fun ρ=>[.fix (.agg #[.slice A1 n1 c1,.slice A2 n2 c2]),.fix (.agg #[.string a1.Name,.string a1.Left,.slice A3 n3 c3,.bool a1.Literal,.slice A4 n4 c4,.slice A5 n5 c5]),.fix (.slice A7 n7 c7),.fix (zN k1),.fix (.pointer (some ⟨b3,0+k1*2,none⟩)),.fix (.pointer (some ⟨b3,0+k1*2+0,none⟩)),.fix (.int .i64 x1.Pos),.fix (.string y2),.free (fun S v w=>∃ A9:Option Addr,∃ n9:Nat,∃ c9:Nat,v = .tuple #[.agg #[.string y3.Name,.slice A9 n9 c9],.bool y4]∧y3.Name.size≤9223372036854775807∧NewI S w [It.O 41 y3.Attributes (.slice A9 n9 c9)]),.dep 31 id,.dep 22 (tupAt 0),.dep 22 (tupAt 1),.free (VarB 39 2),.wr 8 32 (WrB 39)]) [[],[],[],[],[],[],[],[],[],[31],[22],[22],[],[8,32]] NoM (fun _ _=>True) [] [none,none,none,none,none,none,none,none,none,none,none,none,none,some 12] (noM _) hmix (by kernel_rfl) rfl ⟨trivial,trivial,trivial,trivial,trivial,trivial,trivial,trivial,fun _ _ _ _ _ ⟨A9,n9,c9,hv,h0,hh⟩ hc hS hT=>⟨A9,n9,c9,hv,h0,hh.chgT hc hS⟩,trivial,trivial,trivial,fun _ _ _ _ _ h hc hS _=>h.chgT hc hS,fun _ _ _ _ _ _ h hc hS _=>h.chgT hc hS,trivial⟩ trivial (fun _ _ _ _ _ _ _=>trivial) ?_
   refine LL2.fx rfl rfl rfl rfl rfl (fun _ hq hK=>Ev.lda rfl ag31 sz31 rfl (At.blk ((H.ext hq).rB (i:=0) rfl)) rfl) ?_
   refine LL2.fx rfl rfl rfl rfl rfl (fun _ hq hK=>Ev.lda rfl ag47 sz47 rfl (At.blk ((H.ext hq).rB (i:=1) rfl)) rfl) ?_
   refine LL2.fx rfl rfl rfl rfl rfl (fun _ hq hK=>Ev.mv rfl rfl) ?_
   refine LL2.fx rfl rfl rfl rfl rfl (fun _ hq hK=>Ev.mv rfl rfl) ?_
   refine LL2.fx rfl rfl rfl rfl rfl (fun _ hq hK=>Ev.ixVN rfl el52 sz55 rfl hvb3 rfl (lt_of hx1)) ?_
   refine LL2.fx rfl rfl rfl rfl rfl (fun _ hq hK=>Ev.fa rfl fo55_0 rfl) ?_
   refine LL2.fx rfl rfl rfl rfl rfl (fun _ hq hK=>Ev.ld rfl ag3 rfl ((hA1.ext hq).cell rfl)) ?_
   refine LL2.fixed rfl rfl rfl rfl (fun _ hq hK=>OpX.call rfl rfl rfl rfl ok56 rfl (q1C hy2 ⟨_,_,_,rfl,hS1,hS2,(rs (H.ext hq) 4),(rs (H.ext hq) 5),(rs (H.ext hq) 6)⟩ hI1) fun _ _ hE h=>⟨hE,h.1⟩) ?_
   refine LL2.free rfl rfl rfl rfl (fun wq hq hK=>?_) (fun v_G1_8 S_G1_8=>?_)
   ·refine OpX.call rfl rfl rfl rfl ok55 rfl (q3p hy3 ⟨_,_,rfl,(rs (H.ext hq) 2),(rs (H.ext hq) 3)⟩ hS4) ?_
    rintro _ w hE ⟨A9,n9,c9,rfl,h0,hh⟩
    exact⟨hE,A9,n9,c9,rfl,h0,NewI.of hh ⟨fun _ _ _ _ _ h=>h,trivial⟩⟩
   refine LL2.mv rfl rfl rfl rfl rfl (.inl rfl) rfl ?_
   refine LL2.ex rfl rfl rfl rfl rfl rfl rfl (fun wq hq hK=>?_) ?_
   ·have hK:∀ j' (_:(q0g _).contains j'=true),_:=hK 9 rfl
    obtain⟨A9,n9,c9,rfl,_,_⟩:=hK 8 rfl
    exact⟨_,_,rfl,rfl⟩
   refine LL2.ex rfl rfl rfl rfl rfl rfl rfl (fun wq hq hK=>?_) ?_
   ·have hK:∀ j' (_:(q0g _).contains j'=true),_:=hK 9 rfl
    obtain⟨A9,n9,c9,rfl,_,_⟩:=hK 8 rfl
    exact⟨_,_,rfl,rfl⟩
   refine LL2.free rfl rfl rfl rfl (fun wq hq hK=>OpX.allocV rfl rfl ze39 rfl) (fun v_G1_12 S_G1_12=>?_)
   refine LL2.st (k:=2) rfl rfl rfl (by decide) rfl rfl rfl rfl sz39 rfl rfl (fun wq hq hK=>hK 12 rfl) (fun wq hq hK=>?_) ?_
   ·obtain⟨A9,n9,c9,rfl,_,_⟩:=hK 8 rfl
    exact⟨_,rfl,rfl,(all1 rfl (all1 rfl all0))⟩
   intro w6 hE _ hK hap hbd
   have hE:=chgNew hE
   obtain⟨A9,n9,c9,rfl,hS5,hN1⟩:=hK 8 (by decide)
   obtain⟨b4,rfl,hN2⟩:=wrNew (cells:=[.string y3.Name,.slice A9 n9 c9]) (hK 12 (by decide)) (hK 13 (by decide)) rfl
   have H:=H.add hE (hN1.app hN2 fun q h1 h2=>absurd (hap 8 12 q h1 h2) (by decide)) ⟨fun _ _ _ _ _ h=>h,⟨fun _ _ _ _ _ h=>h,trivial⟩⟩ (fun q hq=>hq.elim (fun h=>(hbd 8 q h).1) fun h=>(hbd 12 q h).1)
   refine (A) (Z ?_)
   obtain⟨b5,cb5,hvb5,hbb5⟩:=H.ptO (i:=3) rfl hx1
   obtain⟨hA2,hI2,hS6,H⟩:=q1S H (i:=3) rfl hx1 hbb5
   obtain⟨⟨y5,y6⟩,hy4,hm1⟩:=bd hm1
   obtain⟨_,_,_,hS7,hI3,hI4⟩:=(q3x hy4 ⟨_,rfl,hS5,(ro H 4)⟩ hS6).get
   refine Y ?_
   refine CW.any2 12 (fun ρ=>[.fix (.agg #[.string y3.Name,.slice A9 n9 c9]),.fix (.slice A7 n7 c7),.fix (zN k1),.fix (.pointer (some ⟨b5,0+k1*2,none⟩)),.fix (.pointer (some ⟨b5,0+k1*2+1,none⟩)),.fix (.string x1.Name),.fix (.tuple #[.agg #[.string y5.Name,.int .i64 y5.Type_,.int .i64 y5.Mode,.bool y5.Circular],.bool y6]),.fix (.tuple #[.agg #[.string y5.Name,.int .i64 y5.Type_,.int .i64 y5.Mode,.bool y5.Circular],.bool y6]),.fix (.agg #[.string y5.Name,.int .i64 y5.Type_,.int .i64 y5.Mode,.bool y5.Circular]),.fix (.bool y6),.free (VarB 41 4),.wr 10 42 (WrB 41)]) [[],[],[],[],[],[],[],[],[],[],[],[10,42]] NoM (fun _ _=>True) [] [none,none,none,none,none,none,none,none,none,none,none,some 10] (noM _) hmix (by kernel_rfl) rfl ⟨trivial,trivial,trivial,trivial,trivial,trivial,trivial,trivial,trivial,trivial,fun _ _ _ _ _ h hc hS _=>h.chgT hc hS,fun _ _ _ _ _ _ h hc hS _=>h.chgT hc hS,trivial⟩ trivial (fun _ _ _ _ _ _ _=>trivial) ?_
   refine LL2.fx rfl rfl rfl rfl rfl (fun _ hq hK=>Ev.lda rfl ag39 sz39 rfl (At.blk ((H.ext hq).rB (i:=5) rfl)) rfl) ?_
   refine LL2.fx rfl rfl rfl rfl rfl (fun _ hq hK=>Ev.mv rfl rfl) ?_
   refine LL2.fx rfl rfl rfl rfl rfl (fun _ hq hK=>Ev.mv rfl rfl) ?_
   refine LL2.fx rfl rfl rfl rfl rfl (fun _ hq hK=>Ev.ixVN rfl el52 sz55 rfl hvb5 rfl (lt_of hx1)) ?_
   refine LL2.fx rfl rfl rfl rfl rfl (fun _ hq hK=>Ev.fa rfl fo55_1 rfl) ?_
   refine LL2.fx rfl rfl rfl rfl rfl (fun _ hq hK=>Ev.ld rfl ag9 rfl ((hA2.ext hq).cell rfl)) ?_
   refine LL2.fixed rfl rfl rfl rfl (fun _ hq hK=>OpX.call rfl rfl rfl rfl ok57 rfl (q3x hy4 ⟨_,rfl,hS5,(ro (H.ext hq) 4)⟩ hS6) fun _ _ hE h=>⟨hE,h.1⟩) ?_
   refine LL2.fx rfl rfl rfl rfl rfl (fun _ hq hK=>Ev.mv rfl rfl) ?_
   refine LL2.fx rfl rfl rfl rfl rfl (fun _ hq hK=>Ev.ex rfl rfl rfl) ?_
   refine LL2.fx rfl rfl rfl rfl rfl (fun _ hq hK=>Ev.ex rfl rfl rfl) ?_
   refine LL2.free rfl rfl rfl rfl (fun wq hq hK=>OpX.allocV rfl rfl ze41 rfl) (fun v_G2_10 S_G2_10=>?_)
   refine LL2.st (k:=4) rfl rfl rfl (by decide) rfl rfl rfl rfl sz41 rfl rfl (fun wq hq hK=>hK 10 rfl) (fun wq hq hK=>?_) ?_
   ·exact⟨_,rfl,rfl,(all1 rfl (all1 rfl (all1 rfl (all1 rfl all0))))⟩
   intro w7 hE _ hK hap hbd
   have hE:=chgNew hE
   let d4:List Value:=[.string y5.Name,.int .i64 y5.Type_,.int .i64 y5.Mode,.bool y5.Circular]
   obtain⟨b6,rfl,hN3⟩:=wrNew (cells:=d4) (hK 10 (by decide)) (hK 11 (by decide)) rfl
   have H:=H.add hE hN3 ⟨fun _ _ _ _ _ h=>h,trivial⟩ (fun q hq=>(hbd 10 q hq).1)
   refine (A) (Z (Y ?_))
   refine CW.fresh [(2,pB b1),(3,pB b2),(5,.slice A8 n8 c8),(6,.slice A7 n7 c7),(7,zN k1),(10,pB b6)] ⟨rfl,rfl,rfl,rfl,rfl,rfl,trivial⟩ fun σ=>?_
   have H:HL F0 [] w0 w7 [Pr.R a0 d3,Pr.R a1 d1,Pr.S a0.Symbols (.slice A1 n1 c1),Pr.S a0.Rules (.slice A2 n2 c2),Pr.S a1.Right (.slice A3 n3 c3),Pr.S a1.Equations (.slice A4 n4 c4),Pr.S a1.Contributions (.slice A5 n5 c5),Pr.R x1 [.int .i64 x1.Pos,.string x1.Name],Pr.R x1 [.int .i64 x1.Pos,.string x1.Name]] [It.B b1 31 d3,It.B b2 47 d1,It.O 55 s1 (.slice A8 n8 c8),d5,It.O 41 y3.Attributes (.slice A9 n9 c9),It.B b4 39 [.string y3.Name,.slice A9 n9 c9],It.B b6 41 d4]:=H
   refine X ((D 3) ((L H 6) (Z (iB hm1 (fun _ hm1=>?_) fun _ hm1=>?_))))
   ·refine X ((V) ((V) ((V) ?_)))
    obtain⟨b7,cb7,hvb7,hbb7⟩:=H.ptO (i:=3) rfl hx1
    refine (J 2 hvb7 hx1) ?_
    obtain⟨hA3,hI5,hS8,H⟩:=q1S H (i:=3) rfl hx1 hbb7
    refine WL.ev rfl rfl (Ev.lda rfl ag55 sz55 rfl hA3 rfl) ?_
    refine WL.lit1 rfl rfl rfl el52 sz55 ze55 rfl rfl rfl rfl rfl rfl fun b8 w8 hE hb hB=>?_
    have H:=H.newB hE hb hB
    refine (gg hm1 fun hg1 hm1=>?_)
    exact WL.appO (i:=2) (ys:=[x1]) rfl rfl rfl el52 sz55 by55 ze55 rfl rfl rfl H rfl (fun _=>ownL.single ⟨rfl,hI5,hS8,rfl⟩) (.inr ⟨_,_,rfl,At.blk (H.rB (i:=7) rfl)⟩) hg1 fun A10 n10 c10 w9 H=>(A) (Z (C1 hm1))
   ·exact K (C1 hm1)
  ·rintro ρ' w10 ⟨s2,v2,rfl,hag,H⟩
   obtain⟨σ,rfl⟩:=ofL_ex hag
   obtain⟨A11,n11,c11,rfl⟩:=(H.rO (i:=2) rfl).form3
   exact X ((V) ((AN hk2 hl1) ((A) (Z (I1 hb1 ⟨k1+1,s2,(.slice A11 n11 c11)⟩)))))
 ·obtain rfl:=q3w hq1 (q0c h1)
  exact CE (R ((V) ((A) (Z (W1 hr)))))
def q6f (a1:Occurrence):Nat→Occurrence→Unit→Option (Unit ⊕ Bool):=fun k1 x1 _=>if x1=a1 then some (.inr true) else some (.inl ())
def q3L (a0:(List Occurrence))(a1:Occurrence):Option Bool:=(findL (q6f a1) 0 a0 ()).bind <| onr (fun r1=>some r1) fun _=>some false
theorem q7g {a0}{a1}{r}(hr:q3L a0 a1=some r){z0}(ha0:rdS F0 w0 a0 z0){ca1}(ha1:rd F0 w0 a1 ca1):RT 27 #[z0,.agg ca1.toArray] w0 fun v w=>v = .bool r:=by
 obtain⟨A0',n0',c0',rfl⟩:=ha0.form3
 have H:=((HL.start F0 w0).argS ha0).argR ha1
 obtain⟨rfl,hI1,hS1,H⟩:=q0H H (i:=1) rfl
 refine (En Tryz.func27) ?_
 refine R ((BX H) fun b1 w1 H=>(A) (Z (Y (R ((A) (Z ?_))))))
 refine (bb hr fun q1 hq1 hr=>?_)
 refine (lF hq1 (fun k1 _ _=>[(0,.slice A0' n0' c0'),(3,pB b1),(5,zN k1)]) (fun _ _ w=>HL F0 [] w0 w [Pr.S a0 (.slice A0' n0' c0'),Pr.R a1 [.int .i64 a1.Pos,.string a1.Name]] [It.B b1 55 [.int .i64 a1.Pos,.string a1.Name]]) ()) ?_
 rintro k1 _ _ σ w2 hk1 hq1 H
 refine Y (R ((V) ((V) ((NI H 0) fun hl1=>(B) (Z ?_)))))
 refine (iF hq1 hr (fun hk2 x1 z1 hx1 hb1 hs1 ht1=>?_) fun hr=>?_)
 ·refine K (Y ?_)
  refine CW.block (Y ?_)
  refine CW.quiet hmix (by kernel_rfl) ?_
  refine (qV) ((qV) ?_)
  obtain⟨b2,ob2,cb2,hvb2,hI2,hS2,H⟩:=q2q H (i:=0) rfl hx1
  refine (qJ 2 hvb2 hx1) ((qLA H 2) ((qLB H 0) ((qBN (Bin.eqlF fl55 (q2Q x1 a1))) ?_)))
  refine QL.nil (fun w3 hE=>?_)
  have H:=H.ext hE
  refine iD hb1 (fun _ hb1=>?_) fun _ hb1=>?_
  ·exact R ((A) (Z (W2 hb1 ht1 hr)))
  ·exact K (X ((V) ((AN hk2 hl1) ((A) (Z (I2 hb1 hs1 ⟨k1+1,(),()⟩))))))
 ·exact CE (R ((A) (Z (W1 hr))))
def z1Z (rec_sUsesAny:Expr→(List Occurrence)→Option Bool)(a1:(List Occurrence)):Nat→Expr→Unit→Option (Unit ⊕ Bool):=fun k1 x1 _=>(rec_sUsesAny x1 a1).bind fun y2=>if y2=true then some (.inr true) else some (.inl ())
def z2a (rec_sUsesAny:Expr→(List Occurrence)→Option Bool)(a1:(List Occurrence)):Nat→Expr→Unit→Option (Unit ⊕ Bool):=fun k2 x2 _=>(rec_sUsesAny x2 a1).bind fun y3=>if y3=true then some (.inr true) else some (.inl ())
def q6G (rec_sUsesAny:Expr→(List Occurrence)→Option Bool)(a0:Expr)(a1:(List Occurrence)):Option Bool:=if a0.Kind=3 then (q3L a1 (⟨a0.Pos,a0.Name⟩:Occurrence)).bind fun y1=>if y1=true then some true else (findL (z1Z rec_sUsesAny a1) 0 a0.Args ()).bind <| onr (fun r1=>some r1) fun _=>some false else (findL (z2a rec_sUsesAny a1) 0 a0.Args ()).bind <| onr (fun r2=>some r2) fun _=>some false
theorem z4H {rec_sUsesAny:Expr→(List Occurrence)→Option Bool}(ih_sUsesAny:∀ {a0:Expr}{a1:(List Occurrence)}{r:Bool},rec_sUsesAny a0 a1=some r→∀ {F0:Nat→Prop}{w0:World}{ca0}(ha0:rd F0 w0 a0 ca0){z1}(ha1:rdS F0 w0 a1 z1),RT 58 #[.agg ca0.toArray,z1] w0 fun v w=>v = .bool r){a0}{a1}{r}(hr:q6G rec_sUsesAny a0 a1=some r){ca0}(ha0:rd F0 w0 a0 ca0){z1}(ha1:rdS F0 w0 a1 z1):RT 58 #[.agg ca0.toArray,z1] w0 fun v w=>v = .bool r:=by
 obtain⟨A1',n1',c1',rfl⟩:=ha1.form3
 have H:=((HL.start F0 w0).argR ha0).argS ha1
 obtain⟨A1,n1,c1,rfl,hI1,hI2,hI3,hI4,hS1,hS2,H⟩:=q0X H (i:=0) rfl
 refine (En Tryz.func58) ?_
 refine R ((BX H) fun b1 w1 H=>(A) (Z (Y (R ((D 0) ((L H 0) ((B) (jD hr (fun _ hr=>?_) fun _ hr=>?_))))))))
 ·refine (G) ((V) ((G) ((D 2) ((G) ((L H 0) ((G) ((D 5) ((G) ((L H 0) ((G) ?_))))))))))
  refine WL.ev rfl rfl (Ev.build rfl pl55 ze55 rfl rfl rfl rfl) ((G) ?_)
  refine (bb hr fun y1 hy1 hr=>?_)
  refine (CA ok27 (q7g hy1 (rs H 1) ⟨rfl,hI3,hS2⟩)) (cE H fun w2 H=>(T) (Z (iB hr (fun _ hr=>?_) fun _ hr=>?_)))
  ·exact R ((A) (Z (W1 hr)))
  ·refine K (Y (R ((A) (Z ?_))))
   refine (bb hr fun q1 hq1 hr=>?_)
   let d2:List Value:=[.int .i64 a0.Kind,.int .i64 a0.N,.int .i64 a0.Pos,.int .i64 a0.Type_,.string a0.Symbol,.string a0.Name,.slice A1 n1 c1]
   refine (lF hq1 (fun k1 _ _=>[(1,.slice A1' n1' c1'),(2,pB b1),(5,zN k1)]) (fun _ _ w=>HL F0 [] w0 w [Pr.R a0 d2,Pr.S a1 (.slice A1' n1' c1'),Pr.S a0.Args (.slice A1 n1 c1)] [It.B b1 58 d2]) ()) ?_
   rintro k1 _ _ σ w3 hk1 hq1 H
   refine Y (R ((V) ((D 6) ((L H 0) ((NI H 2) fun hl1=>(B) (Z ?_))))))
   refine (iF hq1 hr (fun hk2 x1 z1 hx1 hb1 hs1 ht1=>?_) fun hr=>?_)
   ·refine K (Y ?_)
    refine CW.block (R ((D 6) ((L H 0) ((V) ?_))))
    obtain⟨b2,ob2,cb2,A2,n2,c2,hvb2,hI5,hI6,hI7,hI8,hS3,hS4,H⟩:=q0u H (i:=2) rfl hx1
    refine (J 7 hvb2 hx1) ((LA H 3) ((V) ?_))
    refine (bb hb1 fun y2 hy2 hb1=>?_)
    refine (CA ok58 (ih_sUsesAny hy2 (q0b.2 ⟨_,rfl,hI5,hI6,hI7,hI8,hS3,hS4,(rs H 5)⟩) (rs H 1))) (cE H fun w4 H=>Z (iB hb1 (fun _ hb1=>?_) fun _ hb1=>?_))
    ·exact R ((A) (Z (W2 hb1 ht1 hr)))
    ·exact K (X ((V) ((AN hk2 hl1) ((A) (Z (I2 hb1 hs1 ⟨k1+1,(),()⟩))))))
   ·exact CE (R ((A) (Z (W1 hr))))
 ·refine (O) ((O) ((O) ((O) ((O) ((O) ((O) ((U) (Z ((cF) (K (Y (R ((A) (Z ?_))))))))))))))
  refine (bb hr fun q2 hq2 hr=>?_)
  let d1:List Value:=[.int .i64 a0.Kind,.int .i64 a0.N,.int .i64 a0.Pos,.int .i64 a0.Type_,.string a0.Symbol,.string a0.Name,.slice A1 n1 c1]
  refine (lF hq2 (fun k2 _ _=>[(1,.slice A1' n1' c1'),(2,pB b1),(5,zN k2)]) (fun _ _ w=>HL F0 [] w0 w [Pr.R a0 d1,Pr.S a1 (.slice A1' n1' c1'),Pr.S a0.Args (.slice A1 n1 c1)] [It.B b1 58 d1]) ()) ?_
  rintro k2 _ _ σ w5 hk3 hq2 H
  refine Y (R ((V) ((D 6) ((L H 0) ((NI H 2) fun hl2=>(B) (Z ?_))))))
  refine (iF hq2 hr (fun hk4 x2 z2 hx2 hb2 hs2 ht2=>?_) fun hr=>?_)
  ·refine K (Y ?_)
   refine CW.block (R ((D 6) ((L H 0) ((V) ?_))))
   obtain⟨b3,ob3,cb3,A3,n3,c3,hvb3,hI9,hI10,hI11,hI12,hS5,hS6,H⟩:=q0u H (i:=2) rfl hx2
   refine (J 7 hvb3 hx2) ((LA H 3) ((V) ?_))
   refine (bb hb2 fun y3 hy3 hb2=>?_)
   refine (CA ok58 (ih_sUsesAny hy3 (q0b.2 ⟨_,rfl,hI9,hI10,hI11,hI12,hS5,hS6,(rs H 5)⟩) (rs H 1))) (cE H fun w6 H=>Z (iB hb2 (fun _ hb2=>?_) fun _ hb2=>?_))
   ·exact R ((A) (Z (W2 hb2 ht2 hr)))
   ·exact K (X ((V) ((AN hk4 hl2) ((A) (Z (I2 hb2 hs2 ⟨k2+1,(),()⟩))))))
  ·exact CE (R ((A) (Z (W1 hr))))
def q3j:Nat→Expr→(List Occurrence)→Option Bool
  | 0,_,_=>none
  | n+1,a0,a1=>q6G (q3j n) a0 a1
def q7I (a0:Expr)(a1:(List Occurrence)):Option Bool:=recO fun n=>q3j n a0 a1
theorem z4I (n:Nat):∀ {a0:Expr}{a1:(List Occurrence)}{r:Bool},q3j n a0 a1=some r→∀ {F0:Nat→Prop}{w0:World}{ca0}(ha0:rd F0 w0 a0 ca0){z1}(ha1:rdS F0 w0 a1 z1),RT 58 #[.agg ca0.toArray,z1] w0 fun v w=>v = .bool r:=by
 induction n with
 | zero=>intro a0 a1 r hr; exact nomatch (show (none:Option Bool)=some r from hr)
 | succ n ih=>intro a0 a1 r hr; exact z4H ih hr
theorem q9F {a0}{a1}{r}(hr:q7I a0 a1=some r){ca0}(ha0:rd F0 w0 a0 ca0){z1}(ha1:rdS F0 w0 a1 z1):RT 58 #[.agg ca0.toArray,z1] w0 fun v w=>v = .bool r:=by
 obtain⟨n,hn⟩:=q2f hr
 exact z4I n hn ha0 ha1
def q6m (rec_sIsMonotone:Expr→(List Occurrence)→Option Bool)(a0:Expr)(a1:(List Occurrence)):Option Bool:=(q7I a0 a1).bind fun y1=>( if y1=true then some (decide (a0.Kind=3)) else some true ).bind fun s1=>if s1=true then some true else ( if a0.Kind=5 then some (decide ((a0.Args.length:Int)=3)) else some false ).bind fun s2=>if s2=true then (a0.Args[0]?).bind fun x1=>(q7I x1 a1).bind fun y2=>( if y2=true then some false else (a0.Args[1]?).bind fun x2=>(rec_sIsMonotone x2 a1).bind fun y3=>some y3 ).bind fun s3=>( if s3=true then (a0.Args[2]?).bind fun x3=>(rec_sIsMonotone x3 a1).bind fun y4=>some y4 else some false ).bind fun s4=>some s4 else ( if a0.Kind=4 then some (!(decide ((a0.Args.length:Int)=2))) else some true ).bind fun s5=>if s5=true then some false else ( if a0.N=6 then some true else some (decide (a0.N=7)) ).bind fun s6=>if s6=true then (a0.Args[0]?).bind fun x4=>(rec_sIsMonotone x4 a1).bind fun y5=>( if y5=true then (a0.Args[1]?).bind fun x5=>(rec_sIsMonotone x5 a1).bind fun y6=>some y6 else some false ).bind fun s7=>some s7 else ( if a0.N=8 then some true else some (decide (a0.N=12)) ).bind fun s8=>if s8=true then (a0.Args[0]?).bind fun x6=>(rec_sIsMonotone x6 a1).bind fun y7=>( if y7=true then (a0.Args[1]?).bind fun x7=>(q7I x7 a1).bind fun y8=>some (!y8) else some false ).bind fun s9=>some s9 else some false
theorem z2b {rec_sIsMonotone:Expr→(List Occurrence)→Option Bool}(ih_sIsMonotone:∀ {a0:Expr}{a1:(List Occurrence)}{r:Bool},rec_sIsMonotone a0 a1=some r→∀ {F0:Nat→Prop}{w0:World}{ca0}(ha0:rd F0 w0 a0 ca0){z1}(ha1:rdS F0 w0 a1 z1),RT 28 #[.agg ca0.toArray,z1] w0 fun v w=>v = .bool r){a0}{a1}{r}(hr:q6m rec_sIsMonotone a0 a1=some r){ca0}(ha0:rd F0 w0 a0 ca0){z1}(ha1:rdS F0 w0 a1 z1):RT 28 #[.agg ca0.toArray,z1] w0 fun v w=>v = .bool r:=by
 obtain⟨A1',n1',c1',rfl⟩:=ha1.form3
 have H:=((HL.start F0 w0).argR ha0).argS ha1
 obtain⟨A1,n1,c1,rfl,hI1,hI2,hI3,hI4,hS1,hS2,H⟩:=q0X H (i:=0) rfl
 refine (En Tryz.func28) ?_
 refine R ((BX H) fun b1 w1 H=>(A) (Z (Y (R ((LB H 0) ((V) ?_))))))
 refine (bb hr fun y1 hy1 hr=>?_)
 refine (CA ok58 (q9F hy1 (q0b.2 ⟨_,rfl,hI1,hI2,hI3,hI4,hS1,hS2,(rs H 2)⟩) (rs H 1))) (cE H fun w2 H=>(N) ?_)
 refine (bb hr fun q1 hm1 hr=>?_)
 let d1:List Value:=[.int .i64 a0.Kind,.int .i64 a0.N,.int .i64 a0.Pos,.int .i64 a0.Type_,.string a0.Symbol,.string a0.Name,.slice A1 n1 c1]
 let d7:Pr:=Pr.S a0.Args (.slice A1 n1 c1)
 let d8:Pr:=Pr.S a1 (.slice A1' n1' c1')
 let d3:List Pr:=[Pr.R a0 d1,d8,d7]
 refine cu H 5 [(1,.slice A1' n1' c1'),(2,pB b1),(13,.bool q1)] d3 [It.B b1 58 d1] ?_ fun σ w3 H=>?_
 ·refine jM hm1 (fun _ hm1=>?_) fun _ hm1=>?_
  ·exact (O) ((O) ((O) ((T) (Z (C1 hm1)))))
  ·exact (G) ((D 0) ((G) ((L H 0) ((G) ((B) ((U) (Z (C1 hm1))))))))
 ·refine Z (iB hr (fun _ hr=>?_) fun _ hr=>?_)
  ·exact R ((A) (Z (W1 hr)))
  ·refine K (Y ?_)
   refine CW.block (R ((D 0) ((L H 0) ((B) ?_))))
   refine (bb hr fun q2 hm2 hr=>?_)
   refine cu H 6 [(1,.slice A1' n1' c1'),(2,pB b1),(23,.bool q2)] d3 [It.B b1 58 d1] ?_ fun σ w4 H=>?_
   ·refine jD hm2 (fun _ hm2=>?_) fun _ hm2=>?_
    ·exact (G) ((D 6) ((G) ((L H 0) ((G) ((NI H 2) fun hl1=>(G) ((B) ((T) (Z (C1 hm2)))))))))
    ·exact (O) ((O) ((O) ((O) ((U) (Z (C1 hm2))))))
   ·refine (A) (Z (iB hr (fun _ hr=>?_) fun _ hr=>?_))
    ·refine R ((D 6) ((L H 0) ?_))
     refine (bb hr fun x1 hx1 hr=>?_)
     obtain⟨b2,ob2,cb2,A2,n2,c2,hvb2,hI5,hI6,hI7,hI8,hS3,hS4,H⟩:=q0u H (i:=2) rfl hx1
     refine (J 7 hvb2 hx1) ((LA H 3) ((V) ?_))
     refine (bb hr fun y2 hy2 hr=>?_)
     refine (CA ok58 (q9F hy2 (q0b.2 ⟨_,rfl,hI5,hI6,hI7,hI8,hS3,hS4,(rs H 5)⟩) (rs H 1))) (cE H fun w5 H=>(N) ?_)
     refine (bb hr fun q3 hm3 hr=>?_)
     let d4:List Value:=[.int .i64 x1.Kind,.int .i64 x1.N,.int .i64 x1.Pos,.int .i64 x1.Type_,.string x1.Symbol,.string x1.Name,.slice A2 n2 c2]
     let d2:List Pr:=[Pr.R a0 d1,d8,d7,Pr.A b2 (ob2+0*7) d4,Pr.R x1 d4,Pr.S x1.Args (.slice A2 n2 c2)]
     refine cu H 8 [(1,.slice A1' n1' c1'),(2,pB b1),(38,.bool q3)] d2 [It.B b1 58 d1] ?_ fun σ w7 H=>?_
     ·refine jM hm3 (fun _ hm3=>?_) fun _ hm3=>?_
      ·refine (G) ((D 6) ((G) ((L H 0) ((G) ?_))))
       refine (bb hm3 fun x2 hx2 hm3=>?_)
       obtain⟨b3,ob3,cb3,A3,n3,c3,hvb3,hI9,hI10,hI11,hI12,hS5,hS6,H⟩:=q0u H (i:=2) rfl hx2
       refine (J 7 hvb3 hx2) ((G) ((LA H 6) ((G) ((V) ((G) ?_)))))
       refine (bb hm3 fun y3 hy3 hm3=>?_)
       exact (CA ok28 (ih_sIsMonotone hy3 (q0b.2 ⟨_,rfl,hI9,hI10,hI11,hI12,hS5,hS6,(rs H 8)⟩) (rs H 1))) (cE H fun w6 H=>(T) (Z (C1 hm3)))
      ·exact (O) ((O) ((O) ((O) ((O) ((O) ((U) (Z (C1 hm3))))))))
     ·refine (bb hr fun q4 hm4 hr=>?_)
      refine cu H 8 [(46,.bool q4)] d2 [It.B b1 58 d1] ?_ fun σ w9 H=>?_
      ·refine jB hm4 (fun _ hm4=>?_) fun _ hm4=>?_
       ·refine (G) ((D 6) ((G) ((L H 0) ((G) ?_))))
        refine (bb hm4 fun x3 hx3 hm4=>?_)
        obtain⟨b4,ob4,cb4,A4,n4,c4,hvb4,hI13,hI14,hI15,hI16,hS7,hS8,H⟩:=q0u H (i:=2) rfl hx3
        refine (J 7 hvb4 hx3) ((G) ((LA H 6) ((G) ((V) ((G) ?_)))))
        refine (bb hm4 fun y4 hy4 hm4=>?_)
        exact (CA ok28 (ih_sIsMonotone hy4 (q0b.2 ⟨_,rfl,hI13,hI14,hI15,hI16,hS7,hS8,(rs H 8)⟩) (rs H 1))) (cE H fun w8 H=>(T) (Z (C1 hm4)))
       ·exact (O) ((O) ((O) ((O) ((O) ((O) ((U) (Z (C1 hm4))))))))
      ·exact (A) (Z (W1 hr))
    ·refine R ((D 0) ((L H 0) ((B) ?_)))
     refine (bb hr fun q5 hm5 hr=>?_)
     refine cu H 6 [(1,.slice A1' n1' c1'),(2,pB b1),(56,.bool q5)] d3 [It.B b1 58 d1] ?_ fun σ w10 H=>?_
     ·refine jN hm5 (fun _ hm5=>?_) fun _ hm5=>?_
      ·exact (O) ((O) ((O) ((O) ((T) (Z (C1 hm5))))))
      ·exact (G) ((D 6) ((G) ((L H 0) ((G) ((NI H 2) fun hl2=>(G) ((B) ((U) (Z (C1 hm5)))))))))
     ·refine (A) (Z (iB hr (fun _ hr=>?_) fun _ hr=>?_))
      ·exact R ((A) (Z (W1 hr)))
      ·refine R ((D 1) ((L H 0) ((B) ?_)))
       refine (bb hr fun q6 hm6 hr=>?_)
       refine cu H 5 [(1,.slice A1' n1' c1'),(2,pB b1),(65,.bool q6)] d3 [It.B b1 58 d1] ?_ fun σ w11 H=>?_
       ·refine jD hm6 (fun _ hm6=>?_) fun _ hm6=>?_
        ·exact (O) ((O) ((O) ((T) (Z (C1 hm6)))))
        ·exact (G) ((D 1) ((G) ((L H 0) ((G) ((B) ((U) (Z (C1 hm6))))))))
       ·refine (A) (Z (iB hr (fun _ hr=>?_) fun _ hr=>?_))
        ·refine R ((D 6) ((L H 0) ?_))
         refine (bb hr fun x4 hx4 hr=>?_)
         obtain⟨b5,ob5,cb5,A5,n5,c5,hvb5,hI17,hI18,hI19,hI20,hS9,hS10,H⟩:=q0u H (i:=2) rfl hx4
         refine (J 7 hvb5 hx4) ((LA H 3) ((V) ?_))
         refine (bb hr fun y5 hy5 hr=>?_)
         refine (CA ok28 (ih_sIsMonotone hy5 (q0b.2 ⟨_,rfl,hI17,hI18,hI19,hI20,hS9,hS10,(rs H 5)⟩) (rs H 1))) (cE H fun w12 H=>?_)
         refine (bb hr fun q7 hm7 hr=>?_)
         let d5:List Value:=[.int .i64 x4.Kind,.int .i64 x4.N,.int .i64 x4.Pos,.int .i64 x4.Type_,.string x4.Symbol,.string x4.Name,.slice A5 n5 c5]
         refine cu H 8 [(79,.bool q7)] [Pr.R a0 d1,d8,d7,Pr.A b5 (ob5+0*7) d5,Pr.R x4 d5,Pr.S x4.Args (.slice A5 n5 c5)] [It.B b1 58 d1] ?_ fun σ w14 H=>?_
         ·refine jB hm7 (fun _ hm7=>?_) fun _ hm7=>?_
          ·refine (G) ((D 6) ((G) ((L H 0) ((G) ?_))))
           refine (bb hm7 fun x5 hx5 hm7=>?_)
           obtain⟨b6,ob6,cb6,A6,n6,c6,hvb6,hI21,hI22,hI23,hI24,hS11,hS12,H⟩:=q0u H (i:=2) rfl hx5
           refine (J 7 hvb6 hx5) ((G) ((LA H 6) ((G) ((V) ((G) ?_)))))
           refine (bb hm7 fun y6 hy6 hm7=>?_)
           exact (CA ok28 (ih_sIsMonotone hy6 (q0b.2 ⟨_,rfl,hI21,hI22,hI23,hI24,hS11,hS12,(rs H 8)⟩) (rs H 1))) (cE H fun w13 H=>(T) (Z (C1 hm7)))
          ·exact (O) ((O) ((O) ((O) ((O) ((O) ((U) (Z (C1 hm7))))))))
         ·exact (A) (Z (W1 hr))
        ·refine R ((D 1) ((L H 0) ((B) ?_)))
         refine (bb hr fun q8 hm8 hr=>?_)
         refine cu H 5 [(1,.slice A1' n1' c1'),(2,pB b1),(88,.bool q8)] d3 [It.B b1 58 d1] ?_ fun σ w15 H=>?_
         ·refine jD hm8 (fun _ hm8=>?_) fun _ hm8=>?_
          ·exact (O) ((O) ((O) ((T) (Z (C1 hm8)))))
          ·exact (G) ((D 1) ((G) ((L H 0) ((G) ((B) ((U) (Z (C1 hm8))))))))
         ·refine (A) (Z (iB hr (fun _ hr=>?_) fun _ hr=>?_))
          ·refine R ((D 6) ((L H 0) ?_))
           refine (bb hr fun x6 hx6 hr=>?_)
           obtain⟨b7,ob7,cb7,A7,n7,c7,hvb7,hI25,hI26,hI27,hI28,hS13,hS14,H⟩:=q0u H (i:=2) rfl hx6
           refine (J 7 hvb7 hx6) ((LA H 3) ((V) ?_))
           refine (bb hr fun y7 hy7 hr=>?_)
           refine (CA ok28 (ih_sIsMonotone hy7 (q0b.2 ⟨_,rfl,hI25,hI26,hI27,hI28,hS13,hS14,(rs H 5)⟩) (rs H 1))) (cE H fun w16 H=>?_)
           refine (bb hr fun q9 hm9 hr=>?_)
           let d6:List Value:=[.int .i64 x6.Kind,.int .i64 x6.N,.int .i64 x6.Pos,.int .i64 x6.Type_,.string x6.Symbol,.string x6.Name,.slice A7 n7 c7]
           refine cu H 9 [(103,.bool q9)] [Pr.R a0 d1,d8,d7,Pr.A b7 (ob7+0*7) d6,Pr.R x6 d6,Pr.S x6.Args (.slice A7 n7 c7)] [It.B b1 58 d1] ?_ fun σ w18 H=>?_
           ·refine jB hm9 (fun _ hm9=>?_) fun _ hm9=>?_
            ·refine (G) ((D 6) ((G) ((L H 0) ((G) ?_))))
             refine (bb hm9 fun x7 hx7 hm9=>?_)
             obtain⟨b8,ob8,cb8,A8,n8,c8,hvb8,hI29,hI30,hI31,hI32,hS15,hS16,H⟩:=q0u H (i:=2) rfl hx7
             refine (J 7 hvb8 hx7) ((G) ((LA H 6) ((G) ((V) ((G) ?_)))))
             refine (bb hm9 fun y8 hy8 hm9=>?_)
             exact (CA ok58 (q9F hy8 (q0b.2 ⟨_,rfl,hI29,hI30,hI31,hI32,hS15,hS16,(rs H 8)⟩) (rs H 1))) (cE H fun w17 H=>(G) ((N) ((T) (Z (C1 hm9)))))
            ·exact (O) ((O) ((O) ((O) ((O) ((O) ((O) ((U) (Z (C1 hm9)))))))))
           ·exact (A) (Z (W1 hr))
          ·exact K (R ((A) (Z (W1 hr))))
def q4x:Nat→Expr→(List Occurrence)→Option Bool
  | 0,_,_=>none
  | n+1,a0,a1=>q6m (q4x n) a0 a1
def q7Y (a0:Expr)(a1:(List Occurrence)):Option Bool:=recO fun n=>q4x n a0 a1
theorem z2c (n:Nat):∀ {a0:Expr}{a1:(List Occurrence)}{r:Bool},q4x n a0 a1=some r→∀ {F0:Nat→Prop}{w0:World}{ca0}(ha0:rd F0 w0 a0 ca0){z1}(ha1:rdS F0 w0 a1 z1),RT 28 #[.agg ca0.toArray,z1] w0 fun v w=>v = .bool r:=by
 induction n with
 | zero=>intro a0 a1 r hr; exact nomatch (show (none:Option Bool)=some r from hr)
 | succ n ih=>intro a0 a1 r hr; exact z2b ih hr
theorem z2W {a0}{a1}{r}(hr:q7Y a0 a1=some r){ca0}(ha0:rd F0 w0 a0 ca0){z1}(ha1:rdS F0 w0 a1 z1):RT 28 #[.agg ca0.toArray,z1] w0 fun v w=>v = .bool r:=by
 obtain⟨n,hn⟩:=q2f hr
 exact z2c n hn ha0 ha1
def z0d (rec_sHasRemote:Expr→Option Bool):Nat→Expr→Unit→Option (Unit ⊕ Bool):=fun k1 x1 _=>(rec_sHasRemote x1).bind fun y1=>if y1=true then some (.inr true) else some (.inl ())
def q7h (rec_sHasRemote:Expr→Option Bool)(a0:Expr):Option Bool:=(findL (z0d rec_sHasRemote) 0 a0.Args ()).bind <| onr (fun r1=>some r1) fun _=>some (decide (a0.Kind=8))
theorem z2X {rec_sHasRemote:Expr→Option Bool}(ih_sHasRemote:∀ {a0:Expr}{r:Bool},rec_sHasRemote a0=some r→∀ {F0:Nat→Prop}{w0:World}{ca0}(ha0:rd F0 w0 a0 ca0),RT 59 #[.agg ca0.toArray] w0 fun v w=>v = .bool r){a0}{r}(hr:q7h rec_sHasRemote a0=some r){ca0}(ha0:rd F0 w0 a0 ca0):RT 59 #[.agg ca0.toArray] w0 fun v w=>v = .bool r:=by
 have H:=(HL.start F0 w0).argR ha0
 obtain⟨A1,n1,c1,rfl,hI1,hI2,hI3,hI4,hS1,hS2,H⟩:=q0X H (i:=0) rfl
 refine (En Tryz.func59) ?_
 refine R ((BX H) fun b1 w1 H=>(A) (Z (Y (R ((A) (Z ?_))))))
 refine (bb hr fun q1 hq1 hr=>?_)
 let d1:List Value:=[.int .i64 a0.Kind,.int .i64 a0.N,.int .i64 a0.Pos,.int .i64 a0.Type_,.string a0.Symbol,.string a0.Name,.slice A1 n1 c1]
 refine (lF hq1 (fun k1 _ _=>[(1,pB b1),(3,zN k1)]) (fun _ _ w=>HL F0 [] w0 w [Pr.R a0 d1,Pr.S a0.Args (.slice A1 n1 c1)] [It.B b1 58 d1]) ()) ?_
 rintro k1 _ _ σ w2 hk1 hq1 H
 refine Y (R ((V) ((D 6) ((L H 0) ((NI H 1) fun hl1=>(B) (Z ?_))))))
 refine (iF hq1 hr (fun hk2 x1 z1 hx1 hb1 hs1 ht1=>?_) fun hr=>?_)
 ·refine K (Y ?_)
  refine CW.block (R ((D 6) ((L H 0) ((V) ?_))))
  obtain⟨b2,ob2,cb2,A2,n2,c2,hvb2,hI5,hI6,hI7,hI8,hS3,hS4,H⟩:=q0u H (i:=1) rfl hx1
  refine (J 7 hvb2 hx1) ((LA H 2) ?_)
  refine (bb hb1 fun y1 hy1 hb1=>?_)
  refine (CA ok59 (ih_sHasRemote hy1 (q0b.2 ⟨_,rfl,hI5,hI6,hI7,hI8,hS3,hS4,(rs H 4)⟩))) (cE H fun w3 H=>Z (iB hb1 (fun _ hb1=>?_) fun _ hb1=>?_))
  ·exact R ((A) (Z (W2 hb1 ht1 hr)))
  ·exact K (X ((V) ((AN hk2 hl1) ((A) (Z (I2 hb1 hs1 ⟨k1+1,(),()⟩))))))
 ·exact CE (R ((D 0) ((L H 0) ((B) ((A) (Z (W1 hr)))))))
def q6g:Nat→Expr→Option Bool
  | 0,_=>none
  | n+1,a0=>q7h (q6g n) a0
def q8H (a0:Expr):Option Bool:=recO fun n=>q6g n a0
theorem z2Y (n:Nat):∀ {a0:Expr}{r:Bool},q6g n a0=some r→∀ {F0:Nat→Prop}{w0:World}{ca0}(ha0:rd F0 w0 a0 ca0),RT 59 #[.agg ca0.toArray] w0 fun v w=>v = .bool r:=by
 induction n with
 | zero=>intro a0 r hr; exact nomatch (show (none:Option Bool)=some r from hr)
 | succ n ih=>intro a0 r hr; exact z2X ih hr
theorem z3P {a0}{r}(hr:q8H a0=some r){ca0}(ha0:rd F0 w0 a0 ca0):RT 59 #[.agg ca0.toArray] w0 fun v w=>v = .bool r:=by
 obtain⟨n,hn⟩:=q2f hr
 exact z2Y n hn ha0
def z0e:Nat→Equation→Unit→Option (Unit ⊕ Bool):=fun k1 x1 _=>(q8H x1.Expr).bind fun y1=>if y1=true then some (.inr true) else some (.inl ())
def q7i (a0:Rule):Option Bool:=(findL z0e 0 a0.Equations ()).bind <| onr (fun r1=>some r1) fun _=>some false
theorem z3Q {a0}{r}(hr:q7i a0=some r){ca0}(ha0:rd F0 w0 a0 ca0):RT 29 #[.agg ca0.toArray] w0 fun v w=>v = .bool r:=by
 have H:=(HL.start F0 w0).argR ha0
 obtain⟨A1,n1,c1,A2,n2,c2,A3,n3,c3,rfl,hS1,hS2,H⟩:=q0z H (i:=0) rfl
 refine (En Tryz.func29) ?_
 refine R ((BX H) fun b1 w1 H=>(A) (Z (Y (R ((A) (Z ?_))))))
 refine (bb hr fun q1 hq1 hr=>?_)
 let d1:List Value:=[.string a0.Name,.string a0.Left,.slice A1 n1 c1,.bool a0.Literal,.slice A2 n2 c2,.slice A3 n3 c3]
 refine (lF hq1 (fun k1 _ _=>[(1,pB b1),(3,zN k1)]) (fun _ _ w=>HL F0 [] w0 w [Pr.R a0 d1,Pr.S a0.Right (.slice A1 n1 c1),Pr.S a0.Equations (.slice A2 n2 c2),Pr.S a0.Contributions (.slice A3 n3 c3)] [It.B b1 47 d1]) ()) ?_
 rintro k1 _ _ σ w2 hk1 hq1 H
 refine Y (R ((V) ((D 4) ((L H 0) ((NI H 2) fun hl1=>(B) (Z ?_))))))
 refine (iF hq1 hr (fun hk2 x1 z1 hx1 hb1 hs1 ht1=>?_) fun hr=>?_)
 ·refine K (Y ?_)
  refine CW.block (R ((D 4) ((L H 0) ((V) ?_))))
  obtain⟨b2,ob2,cb2,A4,n4,c4,hvb2,hI1,hS3,hI2,hI3,hI4,hI5,hS4,hS5,H⟩:=q1B H (i:=2) rfl hx1
  refine (J 9 hvb2 hx1) ((D 2) ?_)
  refine WL.ev rfl rfl (Ev.lda rfl ag58 sz58 rfl ((H.rA (i:=4) rfl).part 2 7) rfl) ?_
  refine (bb hb1 fun y1 hy1 hb1=>?_)
  refine (CA ok59 (z3P hy1 (q0b.2 ⟨_,rfl,hI2,hI3,hI4,hI5,hS4,hS5,(rs H 6)⟩))) (cE H fun w3 H=>Z (iB hb1 (fun _ hb1=>?_) fun _ hb1=>?_))
  ·exact R ((A) (Z (W2 hb1 ht1 hr)))
  ·exact K (X ((V) ((AN hk2 hl1) ((A) (Z (I2 hb1 hs1 ⟨k1+1,(),()⟩))))))
 ·exact CE (R ((A) (Z (W1 hr))))
def z2d (y1:(List Occurrence)):Nat→Equation→Unit→Option (Unit ⊕ Bool):=fun k1 x1 _=>(q3L y1 x1.At).bind fun y2=>if y2=true then (q7Y x1.Expr y1).bind fun y3=>if y3=true then some (.inl ()) else some (.inr false) else some (.inl ())
def z0M (a0:Grammar)(a1:Rule):Option Bool:=(q1D a0 a1).bind fun y1=>(findL (z2d y1) 0 a1.Equations ()).bind <| onr (fun r1=>some r1) fun _=>(q7i a1).bind fun y4=>some (!y4)
theorem z5y {a0}{a1}{r}(hr:z0M a0 a1=some r){ca0}(ha0:rd F0 w0 a0 ca0){ca1}(ha1:rd F0 w0 a1 ca1):RT 11 #[.agg ca0.toArray,.agg ca1.toArray] w0 fun v w=>v = .bool r:=by
 have H:=((HL.start F0 w0).argR ha0).argR ha1
 obtain⟨A1,n1,c1,A2,n2,c2,rfl,H⟩:=q0e H (i:=0) rfl
 obtain⟨A3,n3,c3,A4,n4,c4,A5,n5,c5,rfl,hS1,hS2,H⟩:=q0z H (i:=1) rfl
 refine (En Tryz.func11) ?_
 refine R ((BX H) fun b1 w1 H=>(BX H) fun b2 w2 H=>(A) (Z (R ((LB H 0) ((LB H 1) ?_)))))
 refine (bb hr fun y1 hy1 hr=>?_)
 refine (CA ok26 (q7X hy1 ⟨_,_,rfl,(rs H 2),(rs H 3)⟩ ⟨_,_,_,rfl,hS1,hS2,(rs H 4),(rs H 5),(rs H 6)⟩)) ?_
 rintro _ w3 hE ⟨A6,n6,c6,rfl,H'⟩
 have H:=H.callA H' ⟨fun _ _ _ _ _ h=>h,trivial⟩
 refine (A) (Z (Y (R ((A) (Z ?_)))))
 refine (bb hr fun q1 hq1 hr=>?_)
 let d1:List Value:=[.string a1.Name,.string a1.Left,.slice A3 n3 c3,.bool a1.Literal,.slice A4 n4 c4,.slice A5 n5 c5]
 let d5:List Value:=[.slice A1 n1 c1,.slice A2 n2 c2]
 let d4:List It:=[It.B b1 31 d5,It.B b2 47 d1,It.O 55 y1 (.slice A6 n6 c6)]
 let d6:Pr:=Pr.S a1.Contributions (.slice A5 n5 c5)
 let d7:Pr:=Pr.S a1.Equations (.slice A4 n4 c4)
 let d8:Pr:=Pr.S a0.Symbols (.slice A1 n1 c1)
 let d9:Pr:=Pr.S a0.Rules (.slice A2 n2 c2)
 let d10:Pr:=Pr.S a1.Right (.slice A3 n3 c3)
 refine (lF hq1 (fun k1 _ _=>[(3,pB b2),(5,.slice A6 n6 c6),(6,zN k1)]) (fun _ _ w=>HL F0 [] w0 w [Pr.R a0 d5,Pr.R a1 d1,d8,d9,d10,d7,d6] d4) ()) ?_
 rintro k1 _ _ σ w4 hk1 hq1 H
 refine Y (R ((V) ((D 4) ((L H 1) ((NI H 5) fun hl1=>(B) (Z ?_))))))
 refine (iF hq1 hr (fun hk2 x1 z1 hx1 hb1 hs1 ht1=>?_) fun hr=>?_)
 ·refine K (Y ?_)
  refine CW.block (R ((V) ((D 4) ((L H 1) ((V) ?_)))))
  obtain⟨b3,ob3,cb3,A7,n7,c7,hvb3,hI1,hS3,hI2,hI3,hI4,hI5,hS4,hS5,H⟩:=q1B H (i:=5) rfl hx1
  refine (J 9 hvb3 hx1) ((D 0) ?_)
  refine WL.ev rfl rfl (Ev.lda rfl ag55 sz55 rfl ((H.rA (i:=7) rfl).part 0 2) rfl) ?_
  refine (bb hb1 fun y2 hy2 hb1=>?_)
  refine (CA ok27 (q7g hy2 (ro H 2) ⟨rfl,hI1,hS3⟩)) (cE H fun w5 H=>jB hb1 (fun _ hb1=>?_) fun _ hb1=>?_)
  ·refine (G) ((D 4) ((G) ((L H 1) ((G) ((V) ((G) ((J 9 hvb3 hx1) ((G) ((D 2) ((G) ?_))))))))))
   refine WL.ev rfl rfl (Ev.lda rfl ag58 sz58 rfl ((H.rA (i:=7) rfl).part 2 7) rfl) ((G) ((V) ((G) ?_)))
   refine (bb hb1 fun y3 hy3 hb1=>?_)
   refine (CA ok28 (z2W hy3 (q0b.2 ⟨_,rfl,hI2,hI3,hI4,hI5,hS4,hS5,(rs H 9)⟩) (ro H 2))) (cE H fun w6 H=>(G) ((N) ((T) (Z (iM hb1 (fun _ hb1=>?_) fun _ hb1=>?_)))))
   ·refine Y ?_
    refine CW.fresh [] trivial fun σ=>?_
    let d2:List Value:=[.int .i64 x1.At.Pos,.string x1.At.Name,.int .i64 x1.Expr.Kind,.int .i64 x1.Expr.N,.int .i64 x1.Expr.Pos,.int .i64 x1.Expr.Type_,.string x1.Expr.Symbol,.string x1.Expr.Name,.slice A7 n7 c7]
    have H:HL F0 [] w0 w6 [Pr.R a0 d5,Pr.R a1 d1,d8,d9,d10,d7,d6,Pr.A b3 (ob3+k1*9) d2,Pr.R x1 d2,Pr.S x1.Expr.Args (.slice A7 n7 c7)] d4:=H
    exact X ((A) (Z (W2 hb1 ht1 hr)))
   ·refine K ?_
    refine CW.fresh [(3,pB b2),(5,.slice A6 n6 c6),(6,zN k1),(26,.pointer (some ⟨b2,0+4,none⟩)),(27,.slice A4 n4 c4),(28,zN k1),(29,.pointer (some ⟨b3,ob3+k1*9,none⟩)),(30,.pointer (some ⟨b3,ob3+k1*9+2,none⟩)),(31,.agg #[.int .i64 x1.Expr.Kind,.int .i64 x1.Expr.N,.int .i64 x1.Expr.Pos,.int .i64 x1.Expr.Type_,.string x1.Expr.Symbol,.string x1.Expr.Name,.slice A7 n7 c7]),(32,.slice A6 n6 c6),(33,.bool y3),(34,.bool (!y3))] ⟨rfl,rfl,rfl,rfl,rfl,rfl,rfl,rfl,rfl,rfl,rfl,rfl,trivial⟩ fun σ=>?_
    let d3:List Value:=[.int .i64 x1.At.Pos,.string x1.At.Name,.int .i64 x1.Expr.Kind,.int .i64 x1.Expr.N,.int .i64 x1.Expr.Pos,.int .i64 x1.Expr.Type_,.string x1.Expr.Symbol,.string x1.Expr.Name,.slice A7 n7 c7]
    have H:HL F0 [] w0 w6 [Pr.R a0 d5,Pr.R a1 d1,d8,d9,d10,d7,d6,Pr.A b3 (ob3+k1*9) d3,Pr.R x1 d3,Pr.S x1.Expr.Args (.slice A7 n7 c7)] d4:=H
    exact X ((V) ((AN hk2 hl1) ((A) (Z (I2 hb1 hs1 ⟨k1+1,(),()⟩)))))
  ·exact (O) ((O) ((O) ((O) ((O) ((O) ((O) ((O) ((O) ((U) (Z ((cF) (K (X ((V) ((AN hk2 hl1) ((A) (Z (I2 hb1 hs1 ⟨k1+1,(),()⟩))))))))))))))))))
 ·refine CE (R ((LB H 1) ?_))
  refine (bb hr fun y4 hy4 hr=>?_)
  exact (CA ok29 (z3Q hy4 ⟨_,_,_,rfl,hS1,hS2,(rs H 4),(rs H 5),(rs H 6)⟩)) (cE H fun w7 H=>(N) ((A) (Z (W1 hr))))
def z2e (a0:ByteArray):Nat→Unit→Option (Unit ⊕ Bool):=fun k1 _=>(a0.data[k1]?).bind fun x1=>( if 97≤(x1.toNat:Int) then some (decide ((x1.toNat:Int)≤122)) else some false ).bind fun s1=>( if 48≤(x1.toNat:Int) then some (decide ((x1.toNat:Int)≤57)) else some false ).bind fun s2=>( if s1=true then some false else ( if (k1:Int)=0 then some (true,true) else some (false,!s2) ).bind fun (s4,s5)=>some s5 ).bind fun s3=>if s3=true then some (.inr false) else some (.inl ())
def z0N (a0:ByteArray):Option Bool:=(findN (z2e a0) 0 (a0.size) ()).bind <| onr (fun r1=>some r1) fun _=>some (decide (0 < (a0.size:Int)))
theorem z5z {a0}{r}(hr:z0N a0=some r){F0:Nat→Prop}(ha0:a0.size≤9223372036854775807):RT 183 #[.string a0] w0 fun v w=>v = .bool r:=by
 have H:=HL.start F0 w0
 refine (En Tryz.func183) ?_
 refine R ((A) (Z (Y (R ((A) (Z ?_))))))
 refine (bb hr fun q1 hq1 hr=>?_)
 refine (lM hq1 (fun k1 _ _=>[(0,.string a0),(3,zN k1)]) (fun _ _ w=>HL F0 [] w0 w [] []) ()) ?_
 rintro k1 _ _ σ w1 hk1 hq1 H
 refine Y (R ((V) ((V) ?_)))
 refine WL.ev rfl rfl (Ev.lenB rfl Tryz.underlying9 rfl) ((B) (Z ?_))
 refine CW.condD rfl (fun h1=>?_) (fun h1=>?_)
 ·have hk2:=q0m h1
  obtain⟨z1,hb1,hs1,ht1⟩:=z3H hq1 hk2
  refine K (Y ?_)
  refine CW.block (R ((V) ((V) ?_)))
  refine (bb hb1 fun x1 hx1 hb1=>?_)
  refine WL.ev rfl rfl (Ev.sIx rfl Tryz.underlying9 rfl rfl hx1) ((B) ?_)
  refine (bb hb1 fun q2 hm1 hb1=>?_)
  refine cu H 6 [(0,.string a0),(3,zN k1),(21,.bool q2)] [] [] ?_ fun σ w2 H=>?_
  ·refine jD hm1 (fun _ hm1=>?_) fun _ hm1=>?_
   ·refine (G) ((V) ((G) ((V) ((G) ?_))))
    exact WL.ev rfl rfl (Ev.sIx rfl Tryz.underlying9 rfl rfl hx1) ((G) ((B) ((T) (Z (C1 hm1)))))
   ·exact (O) ((O) ((O) ((O) ((U) (Z (C1 hm1))))))
  ·refine (A) (Z (R ((V) ((V) ?_))))
   refine WL.ev rfl rfl (Ev.sIx rfl Tryz.underlying9 rfl rfl hx1) ((B) ?_)
   refine (bb hb1 fun q3 hm2 hb1=>?_)
   refine cu H 6 [(0,.string a0),(3,zN k1),(4,.bool q2),(31,.bool q3)] [] [] ?_ fun σ w3 H=>?_
   ·refine jD hm2 (fun _ hm2=>?_) fun _ hm2=>?_
    ·refine (G) ((V) ((G) ((V) ((G) ?_))))
     exact WL.ev rfl rfl (Ev.sIx rfl Tryz.underlying9 rfl rfl hx1) ((G) ((B) ((T) (Z (C1 hm2)))))
    ·exact (O) ((O) ((O) ((O) ((U) (Z (C1 hm2))))))
   ·refine (A) (Z (R ((V) ((N) ?_))))
    refine (bb hb1 fun q4 hm3 hb1=>?_)
    refine cu H 8 [(0,.string a0),(3,zN k1),(41,.bool q4)] [] [] ?_ fun σ w5 H=>?_
    ·refine jM hm3 (fun _ hm3=>?_) fun _ hm3=>?_
     ·refine (G) ((V) ((G) ((B) ((G) ?_))))
      refine (bb hm3 fun q5 hm4 hm3=>?_)
      refine WL.cut 4 (fun ρ' w=>∃ (s4:Bool) (s5:Bool),q5=(s4,s5)∧agree ρ' [(0,.string a0),(3,zN k1),(34,.bool true),(35,zN k1),(36,.bool (decide ((k1:Int)=0))),(37,.bool s4),(40,.bool s5)]∧HL F0 [] w0 w [] []) ?_ ?_
      ·refine (G) (jD hm4 (fun _ hm4=>?_) fun _ hm4=>?_)
       ·exact (O) ((O) ((G) ((T) (Z (C1 hm4)))))
       ·exact (G) ((V) ((G) ((N) ((G) ((U) (Z (C1 hm4)))))))
      ·rintro ρ' w4 ⟨s4,s5,rfl,hag,H⟩
       obtain⟨σ,rfl⟩:=ofL_ex hag
       exact (T) (Z (C1 hm3))
     ·exact (O) ((O) ((O) ((O) ((O) ((O) ((U) (Z (C1 hm3))))))))
    ·refine Z (iB hb1 (fun _ hb1=>?_) fun _ hb1=>?_)
     ·exact R ((A) (Z (W2 hb1 ht1 hr)))
     ·exact K (X ((V) ((BN (Bin.addN (a:=k1) (b:=1) rfl (q9Z hk2 (z1M ha0).2))) ((A) (Z (I2 hb1 hs1 ⟨k1+1,(),()⟩))))))
 ·obtain rfl:=z1U hq1 (q0c h1)
  have hr:=(q0s _ _ _).symm.trans hr
  refine CE (R ((V) ?_))
  exact WL.ev rfl rfl (Ev.lenB rfl Tryz.underlying9 rfl) ((B) ((A) (Z (W1 hr))))
def q7Z:Option (List ByteArray):=some [(⟨#[105,102]⟩:ByteArray),(⟨#[116,104,101,110]⟩:ByteArray),(⟨#[101,108,115,101]⟩:ByteArray),(⟨#[116,114,117,101]⟩:ByteArray),(⟨#[102,97,108,115,101]⟩:ByteArray),(⟨#[108,105,116]⟩:ByteArray),(⟨#[110,111,110,101]⟩:ByteArray),(⟨#[115,101,108,102]⟩:ByteArray),(⟨#[111,102]⟩:ByteArray),(⟨#[109,97,120]⟩:ByteArray),(⟨#[109,105,110]⟩:ByteArray),(⟨#[119,105,116,104]⟩:ByteArray),(⟨#[104,97,115]⟩:ByteArray)]
theorem z2Z {r:(List ByteArray)}(hr:q7Z=some r):RT 202 #[] w0 fun v w=>∃ A0 n0 c0,v=(.slice A0 n0 c0)∧HL F0 [] w0 w [] [It.O 9 r (.slice A0 n0 c0)]:=by
 have H:=HL.start F0 w0
 refine (En Tryz.func202) ?_
 refine R ((A) (Z (R ?_)))
 refine WL.litN (xs:=[(⟨#[105,102]⟩:ByteArray),(⟨#[116,104,101,110]⟩:ByteArray),(⟨#[101,108,115,101]⟩:ByteArray),(⟨#[116,114,117,101]⟩:ByteArray),(⟨#[102,97,108,115,101]⟩:ByteArray),(⟨#[108,105,116]⟩:ByteArray),(⟨#[110,111,110,101]⟩:ByteArray),(⟨#[115,101,108,102]⟩:ByteArray),(⟨#[111,102]⟩:ByteArray),(⟨#[109,97,120]⟩:ByteArray),(⟨#[109,105,110]⟩:ByteArray),(⟨#[119,105,116,104]⟩:ByteArray),(⟨#[104,97,115]⟩:ByteArray)]) rfl rfl rfl el43 sz9 ze9 rfl (ball1 rfl (ball1 rfl (ball1 rfl (ball1 rfl (ball1 rfl (ball1 rfl (ball1 rfl (ball1 rfl (ball1 rfl (ball1 rfl (ball1 rfl (ball1 rfl (ball1 rfl ball0))))))))))))) rfl rfl rfl (fun _=>(ownL.cons1 (α:=ByteArray) ⟨rfl,rfl,(by decide:(⟨#[105,102]⟩:ByteArray).size≤9223372036854775807)⟩ (ownL.cons1 (α:=ByteArray) ⟨rfl,rfl,(by decide:(⟨#[116,104,101,110]⟩:ByteArray).size≤9223372036854775807)⟩ (ownL.cons1 (α:=ByteArray) ⟨rfl,rfl,(by decide:(⟨#[101,108,115,101]⟩:ByteArray).size≤9223372036854775807)⟩ (ownL.cons1 (α:=ByteArray) ⟨rfl,rfl,(by decide:(⟨#[116,114,117,101]⟩:ByteArray).size≤9223372036854775807)⟩ (ownL.cons1 (α:=ByteArray) ⟨rfl,rfl,(by decide:(⟨#[102,97,108,115,101]⟩:ByteArray).size≤9223372036854775807)⟩ (ownL.cons1 (α:=ByteArray) ⟨rfl,rfl,(by decide:(⟨#[108,105,116]⟩:ByteArray).size≤9223372036854775807)⟩ (ownL.cons1 (α:=ByteArray) ⟨rfl,rfl,(by decide:(⟨#[110,111,110,101]⟩:ByteArray).size≤9223372036854775807)⟩ (ownL.cons1 (α:=ByteArray) ⟨rfl,rfl,(by decide:(⟨#[115,101,108,102]⟩:ByteArray).size≤9223372036854775807)⟩ (ownL.cons1 (α:=ByteArray) ⟨rfl,rfl,(by decide:(⟨#[111,102]⟩:ByteArray).size≤9223372036854775807)⟩ (ownL.cons1 (α:=ByteArray) ⟨rfl,rfl,(by decide:(⟨#[109,97,120]⟩:ByteArray).size≤9223372036854775807)⟩ (ownL.cons1 (α:=ByteArray) ⟨rfl,rfl,(by decide:(⟨#[109,105,110]⟩:ByteArray).size≤9223372036854775807)⟩ (ownL.cons1 (α:=ByteArray) ⟨rfl,rfl,(by decide:(⟨#[119,105,116,104]⟩:ByteArray).size≤9223372036854775807)⟩ (ownL.cons1 (α:=ByteArray) ⟨rfl,rfl,(by decide:(⟨#[104,97,115]⟩:ByteArray).size≤9223372036854775807)⟩ ⟨rfl,rfl⟩)))))))))))))) rfl H fun A1 n1 c1 w1 H=>?_
 exact (A) (Z (W1 hr))
def z0f (a1:ByteArray):Nat→ByteArray→Unit→Option (Unit ⊕ Bool):=fun k1 x1 _=>if x1=a1 then some (.inr true) else some (.inl ())
def q6n (a0:(List ByteArray))(a1:ByteArray):Option Bool:=(findL (z0f a1) 0 a0 ()).bind <| onr (fun r1=>some r1) fun _=>some false
theorem z0g {a0}{a1}{r}(hr:q6n a0 a1=some r){z0}(ha0:rdS F0 w0 a0 z0)(ha1:a1.size≤9223372036854775807):RT 122 #[z0,.string a1] w0 fun v w=>v = .bool r:=by
 obtain⟨A0',n0',c0',rfl⟩:=ha0.form3
 have H:=(HL.start F0 w0).argS ha0
 refine (En Tryz.func122) ?_
 refine R ((A) (Z (Y (R ((A) (Z ?_))))))
 refine (bb hr fun q1 hq1 hr=>?_)
 refine (lF hq1 (fun k1 _ _=>[(0,.slice A0' n0' c0'),(1,.string a1),(5,zN k1)]) (fun _ _ w=>HL F0 [] w0 w [Pr.S a0 (.slice A0' n0' c0')] []) ()) ?_
 rintro k1 _ _ σ w1 hk1 hq1 H
 refine Y (R ((V) ((V) ((NI H 0) fun hl1=>(B) (Z ?_)))))
 refine (iF hq1 hr (fun hk2 x1 z1 hx1 hb1 hs1 ht1=>?_) fun hr=>?_)
 ·refine K (Y ?_)
  refine CW.block (R ((V) ((V) ?_)))
  obtain⟨b1,ob1,cb1,hvb1,hS1,H⟩:=q8G H (i:=0) rfl hx1
  refine (J 1 hvb1 hx1) ((L0 H 1) ((V) ((B) (Z (iD hb1 (fun _ hb1=>?_) fun _ hb1=>?_)))))
  ·exact R ((A) (Z (W2 hb1 ht1 hr)))
  ·exact K (X ((V) ((AN hk2 hl1) ((A) (Z (I2 hb1 hs1 ⟨k1+1,(),()⟩))))))
 ·exact CE (R ((A) (Z (W1 hr))))
def q6o (a0:ByteArray):Option Bool:=(q7Z).bind fun y1=>(q6n y1 a0).bind fun y2=>some y2
theorem z3a {a0}{r}(hr:q6o a0=some r){F0:Nat→Prop}(ha0:a0.size≤9223372036854775807):RT 184 #[.string a0] w0 fun v w=>v = .bool r:=by
 have H:=HL.start F0 w0
 refine (En Tryz.func184) ?_
 refine R ((A) (Z (R ?_)))
 refine (bb hr fun y1 hy1 hr=>?_)
 refine (CA ok202 (z2Z hy1 (F0:=fun _=>False))) ?_
 rintro _ w1 hE ⟨A1,n1,c1,rfl,H'⟩
 have H:=H.callA H' ⟨fun _ _ _ _ _ h=>h,trivial⟩
 refine (V) ?_
 refine (bb hr fun y2 hy2 hr=>?_)
 exact (CA ok122 (z0g hy2 (ro H 0) ha0)) (cE H fun w2 H=>(A) (Z (W1 hr)))
def q0U (a0:ByteArray):Option Bool:=(z0N a0).bind fun y1=>( if y1=true then some (decide ((a0.size:Int)≤8)) else some false ).bind fun s1=>( if s1=true then (q6o a0).bind fun y2=>some (!y2) else some false ).bind fun s2=>some s2
theorem q1n {a0}{r}(hr:q0U a0=some r){F0:Nat→Prop}(ha0:a0.size≤9223372036854775807):RT 156 #[.string a0] w0 fun v w=>v = .bool r:=by
 have H:=HL.start F0 w0
 refine (En Tryz.func156) ?_
 refine R ((A) (Z (R ((V) ?_))))
 refine (bb hr fun y1 hy1 hr=>?_)
 refine (CA ok183 (z5z hy1 (F0:=fun _=>False) ha0)) (cE H fun w1 H=>?_)
 refine (bb hr fun q1 hm1 hr=>?_)
 refine cu H 5 [(0,.string a0),(2,.bool false),(9,.bool q1)] [] [] ?_ fun σ w2 H=>?_
 ·refine jB hm1 (fun _ hm1=>?_) fun _ hm1=>?_
  ·refine (G) ((V) ((G) ?_))
   exact WL.ev rfl rfl (Ev.lenB rfl Tryz.underlying9 rfl) ((G) ((B) ((T) (Z (C1 hm1)))))
  ·exact (O) ((O) ((O) ((U) (Z (C1 hm1)))))
 ·refine (bb hr fun q2 hm2 hr=>?_)
  refine cu H 5 [(2,.bool false),(14,.bool q2)] [] [] ?_ fun σ w4 H=>?_
  ·refine jB hm2 (fun _ hm2=>?_) fun _ hm2=>?_
   ·refine (G) ((V) ((G) ?_))
    refine (bb hm2 fun y2 hy2 hm2=>?_)
    exact (CA ok184 (z3a hy2 (F0:=fun _=>False) ha0)) (cE H fun w3 H=>(G) ((N) ((T) (Z (C1 hm2)))))
   ·exact (O) ((O) ((O) ((U) (Z (C1 hm2)))))
  ·exact (A) (Z (W1 hr))
def q3M (a0:Attribute):Option Bool:=(q0U a0.Name).bind fun y1=>( if y1=true then (q2z a0.Type_ 1 4).bind fun y2=>some (!y2) else some true ).bind fun s1=>( if s1=true then some true else (q2z a0.Mode 1 3).bind fun y3=>some (!y3) ).bind fun s2=>if s2=true then some false else ( if a0.Mode=3 then ( if a0.Type_=2 then some a0.Circular else some true ).bind fun s4=>some s4 else some false ).bind fun s3=>if s3=true then some false else ( if a0.Circular=true then some (decide (a0.Type_=2)) else some true ).bind fun s5=>some s5
theorem q9r {a0}{r}(hr:q3M a0=some r){ca0}(ha0:rd F0 w0 a0 ca0):RT 155 #[.agg ca0.toArray] w0 fun v w=>v = .bool r:=by
 have H:=(HL.start F0 w0).argR ha0
 obtain⟨rfl,hS1,hI1,hI2,H⟩:=q3G H (i:=0) rfl
 refine (En Tryz.func155) ?_
 refine R ((BX H) fun b1 w1 H=>(A) (Z (Y (R ((D 0) ((L H 0) ?_))))))
 refine (bb hr fun y1 hy1 hr=>?_)
 refine (CA ok156 (q1n hy1 (F0:=fun _=>False) hS1)) (cE H fun w2 H=>(N) ?_)
 refine (bb hr fun q1 hm1 hr=>?_)
 let d1:List Value:=[.string a0.Name,.int .i64 a0.Type_,.int .i64 a0.Mode,.bool a0.Circular]
 refine cu H 6 [(1,pB b1),(12,.bool q1)] [Pr.R a0 d1] [It.B b1 41 d1] ?_ fun σ w4 H=>?_
 ·refine jM hm1 (fun _ hm1=>?_) fun _ hm1=>?_
  ·exact (O) ((O) ((O) ((O) ((T) (Z (C1 hm1))))))
  ·refine (G) ((D 1) ((G) ((L H 0) ((G) ?_))))
   refine (bb hm1 fun y2 hy2 hm1=>?_)
   exact (CA ok94 (q3d hy2 (F0:=fun _=>False) hI1 (by decide:I64 1) (by decide:I64 4))) (cE H fun w3 H=>(G) ((N) ((U) (Z (C1 hm1)))))
 ·refine (bb hr fun q2 hm2 hr=>?_)
  refine cu H 6 [(1,pB b1),(18,.bool q2)] [Pr.R a0 d1] [It.B b1 41 d1] ?_ fun σ w6 H=>?_
  ·refine jB hm2 (fun _ hm2=>?_) fun _ hm2=>?_
   ·exact (O) ((O) ((O) ((O) ((T) (Z (C1 hm2))))))
   ·refine (G) ((D 2) ((G) ((L H 0) ((G) ?_))))
    refine (bb hm2 fun y3 hy3 hm2=>?_)
    exact (CA ok94 (q3d hy3 (F0:=fun _=>False) hI2 (by decide:I64 1) (by decide:I64 3))) (cE H fun w5 H=>(G) ((N) ((U) (Z (C1 hm2)))))
  ·refine Z (iB hr (fun _ hr=>?_) fun _ hr=>?_)
   ·exact R ((A) (Z (W1 hr)))
   ·refine K (Y (R ((D 2) ((L H 0) ((B) ?_)))))
    refine (bb hr fun q3 hm3 hr=>?_)
    refine cu H 9 [(1,pB b1),(30,.bool q3)] [Pr.R a0 d1] [It.B b1 41 d1] ?_ fun σ w8 H=>?_
    ·refine jD hm3 (fun _ hm3=>?_) fun _ hm3=>?_
     ·refine (G) ((D 1) ((G) ((L H 0) ((G) ((B) ((G) ?_))))))
      refine (bb hm3 fun q4 hm4 hm3=>?_)
      refine cu H 4 [(1,pB b1),(22,.bool true),(29,.bool q4)] [Pr.R a0 d1] [It.B b1 41 d1] ?_ fun σ w7 H=>?_
      ·refine (G) (jN hm4 (fun _ hm4=>?_) fun _ hm4=>?_)
       ·exact (O) ((O) ((G) ((T) (Z (C1 hm4)))))
       ·exact (G) ((D 3) ((G) ((L H 0) ((G) ((U) (Z (C1 hm4)))))))
      ·exact (T) (Z (C1 hm3))
     ·exact (O) ((O) ((O) ((O) ((O) ((O) ((O) ((U) (Z (C1 hm3)))))))))
    ·refine Z (iB hr (fun _ hr=>?_) fun _ hr=>?_)
     ·exact R ((A) (Z (W1 hr)))
     ·refine K (R ((D 3) ((L H 0) ((N) ?_))))
      refine (bb hr fun q5 hm5 hr=>?_)
      refine cu H 5 [(38,.bool q5)] [Pr.R a0 d1] [It.B b1 41 d1] ?_ fun σ w9 H=>?_
      ·refine jM hm5 (fun _ hm5=>?_) fun _ hm5=>?_
       ·exact (O) ((O) ((O) ((T) (Z (C1 hm5)))))
       ·exact (G) ((D 1) ((G) ((L H 0) ((G) ((B) ((U) (Z (C1 hm5))))))))
      ·exact (A) (Z (W1 hr))
def q5m (a0:(List ByteArray)):Nat→ByteArray→Unit→Option (Unit ⊕ Bool):=fun k1 x1 _=>grd (k1≤a0.length) <| (q6n (a0.take k1) x1).bind fun y1=>if y1=true then some (.inr false) else some (.inl ())
def q5Q (a0:(List ByteArray)):Option Bool:=(findL (q5m a0) 0 a0 ()).bind <| onr (fun r1=>some r1) fun _=>some true
theorem z2f {a0}{r}(hr:q5Q a0=some r){z0}(ha0:rdS F0 w0 a0 z0):RT 157 #[z0] w0 fun v w=>v = .bool r:=by
 obtain⟨A0',n0',c0',rfl⟩:=ha0.form3
 have H:=(HL.start F0 w0).argS ha0
 refine (En Tryz.func157) ?_
 refine R ((A) (Z (Y (R ((A) (Z ?_))))))
 refine (bb hr fun q1 hq1 hr=>?_)
 refine (lF hq1 (fun k1 _ _=>[(0,.slice A0' n0' c0'),(3,zN k1)]) (fun _ _ w=>HL F0 [] w0 w [Pr.S a0 (.slice A0' n0' c0')] []) ()) ?_
 rintro k1 _ _ σ w1 hk1 hq1 H
 refine Y (R ((V) ((V) ((NI H 0) fun hl1=>(B) (Z ?_)))))
 refine (iF hq1 hr (fun hk2 x1 z1 hx1 hb1 hs1 ht1=>?_) fun hr=>?_)
 ·refine K (Y ?_)
  refine CW.block (Y ?_)
  refine CW.quiet hmix (by kernel_rfl) ?_
  refine (qV) ((qV) ?_)
  refine (gg hb1 fun hg1 hb1=>?_)
  obtain⟨A1,n1,c1,e1,hc1,H⟩:=H.slH (i:=0) rfl hg1
  refine QL.ev rfl rfl (fun _ _=>Ev.slHV rfl el43 sz9 rfl rfl rfl hc1 e1) ?_
  refine (qV) ((qV) ?_)
  obtain⟨b1,ob1,cb1,hvb1,hS1,H⟩:=q8G H (i:=0) rfl hx1
  refine (qJ 1 hvb1 hx1) ((qL0 H 2) ?_)
  refine (bb hb1 fun y1 hy1 hb1=>?_)
  refine (qC ok122 (fun _ hq=>z0g hy1 (rs (H.ext hq) 1) hS1)) ?_
  refine QL.nil (fun w2 hE=>?_)
  have H:=H.ext hE
  refine iB hb1 (fun _ hb1=>?_) fun _ hb1=>?_
  ·exact R ((A) (Z (W2 hb1 ht1 hr)))
  ·exact K (X ((V) ((AN hk2 hl1) ((A) (Z (I2 hb1 hs1 ⟨k1+1,(),()⟩))))))
 ·exact CE (R ((A) (Z (W1 hr))))
def q4y:Nat→Attribute→(List ByteArray)→Option (((List ByteArray)) ⊕ Bool):=fun k1 x1 s1=>(q3M x1).bind fun y1=>if y1=true then grd (((s1.length:Int)+1)*16≤140737488355328∧(s1.length:Int)+1≤9223372036854775807) <| some (.inl (s1++[x1.Name])) else some (.inr false)
def q4Y (a0:Symbol):Option Bool:=(findL q4y 0 a0.Attributes ([]:List ByteArray)).bind <| onr (fun r1=>some r1) fun s1=>(q0U a0.Name).bind fun y2=>( if y2=true then some (decide ((s1.length:Int)≤4)) else some false ).bind fun s2=>( if s2=true then (q5Q s1).bind fun y3=>some y3 else some false ).bind fun s3=>some s3
theorem z0O {a0}{r}(hr:q4Y a0=some r){ca0}(ha0:rd F0 w0 a0 ca0):RT 121 #[.agg ca0.toArray] w0 fun v w=>v = .bool r:=by
 have H:=(HL.start F0 w0).argR ha0
 obtain⟨A1,n1,c1,rfl,hS1,H⟩:=q4L H (i:=0) rfl
 refine (En Tryz.func121) ?_
 refine R ((BX H) fun b1 w1 H=>(A) (Z (R ?_)))
 refine WL.lit0H (α:=ByteArray) rfl rfl rfl el43 sz9 H fun A2 n2 c2 w2 H=>(A) (Z (Y (R ((A) (Z ?_)))))
 refine (bb hr fun q1 hq1 hr=>?_)
 let d1:List Value:=[.string a0.Name,.slice A1 n1 c1]
 let d2:Pr:=Pr.S a0.Attributes (.slice A1 n1 c1)
 refine (lF hq1 (fun k1 s1 v1=>[(1,pB b1),(3,v1),(4,zN k1)]) (fun s1 v1 w=>HL F0 [] w0 w [Pr.R a0 d1,d2] [It.B b1 39 d1,It.O 9 s1 v1]) (.slice A2 n2 c2)) ?_
 rintro k1 s1 v1 σ w3 hk1 hq1 H
 obtain⟨A3,n3,c3,rfl⟩:=(H.rO (i:=1) rfl).form3
 refine Y (R ((V) ((D 1) ((L H 0) ((NI H 1) fun hl1=>(B) (Z ?_))))))
 refine (iF hq1 hr (fun hk2 x1 z1 hx1 hb1 hs1 ht1=>?_) fun hr=>?_)
 ·refine K (Y ?_)
  refine CW.block (Y (R ((D 1) ((L H 0) ((V) ?_)))))
  obtain⟨b2,ob2,cb2,hvb2,hS2,hI1,hI2,H⟩:=q1U H (i:=1) rfl hx1
  refine (J 4 hvb2 hx1) ((LA H 2) ?_)
  refine (bb hb1 fun y1 hy1 hb1=>?_)
  refine (CA ok155 (q9r hy1 (F0:=fun _=>False) ⟨rfl,hS2,hI1,hI2⟩)) (cE H fun w4 H=>(N) (Z (iM hb1 (fun _ hb1=>?_) fun _ hb1=>?_)))
  ·exact R ((A) (Z (W2 hb1 ht1 hr)))
  ·refine K (X ((V) ((D 1) ((L H 0) ((V) ((J 4 hvb2 hx1) ((D 0) ((LC H 2) ?_))))))))
   refine WL.lit1 rfl rfl rfl el43 sz9 ze9 rfl rfl rfl rfl rfl rfl fun b3 w5 hE hb hB=>?_
   have H:=H.newB hE hb hB
   refine (gg hb1 fun hg1 hb1=>?_)
   refine WL.appO (i:=1) (ys:=[x1.Name]) rfl rfl rfl el43 sz9 by9 ze9 rfl rfl rfl H rfl (fun _=>ownL.single ⟨rfl,rfl,hS2⟩) (.inr ⟨_,_,rfl,At.blk (H.rB (i:=2) rfl)⟩) hg1 fun A4 n4 c4 w6 H=>(A) (Z ?_)
   refine CW.fresh [(1,pB b1),(3,.slice A4 n4 c4),(4,zN k1)] ⟨rfl,rfl,rfl,trivial⟩ fun σ=>?_
   let d3:List Value:=[.string x1.Name,.int .i64 x1.Type_,.int .i64 x1.Mode,.bool x1.Circular]
   have H:HL F0 [] w0 w6 [Pr.R a0 d1,d2,Pr.A b2 (ob2+k1*4) d3,Pr.R x1 d3] [It.B b1 39 d1,It.O 9 (s1++[x1.Name]) (.slice A4 n4 c4),It.B b3 9 [.string x1.Name]]:=H
   exact X ((V) ((AN hk2 hl1) ((A) (Z (I2 hb1 hs1 ⟨k1+1,(s1++[x1.Name]),(.slice A4 n4 c4)⟩)))))
 ·refine CE (R ((D 0) ((L H 0) ?_)))
  refine (bb hr fun y2 hy2 hr=>?_)
  refine (CA ok156 (q1n hy2 (F0:=fun _=>False) hS1)) (cE H fun w7 H=>?_)
  refine (bb hr fun q2 hm1 hr=>?_)
  refine cu H 5 [(3,.slice A3 n3 c3),(36,.bool q2)] [Pr.R a0 d1,d2] [It.B b1 39 d1,It.O 9 s1 (.slice A3 n3 c3)] ?_ fun σ w8 H=>?_
  ·refine jB hm1 (fun _ hm1=>?_) fun _ hm1=>?_
   ·refine (G) ((V) ((G) ?_))
    have hl2:=(H.rO (i:=1) rfl).I
    exact (NN (ro H 1)) ((G) ((B) ((T) (Z (C1 hm1)))))
   ·exact (O) ((O) ((O) ((U) (Z (C1 hm1)))))
  ·refine (bb hr fun q3 hm2 hr=>?_)
   refine cu H 4 [(40,.bool q3)] [Pr.R a0 d1,d2] [It.B b1 39 d1,It.O 9 s1 (.slice A3 n3 c3)] ?_ fun σ w10 H=>?_
   ·refine jB hm2 (fun _ hm2=>?_) fun _ hm2=>?_
    ·refine (G) ((V) ((G) ?_))
     refine (bb hm2 fun y3 hy3 hm2=>?_)
     exact (CA ok157 (z2f hy3 (ro H 1))) (cE H fun w9 H=>(T) (Z (C1 hm2)))
    ·exact (O) ((O) ((U) (Z (C1 hm2))))
   ·exact (A) (Z (W1 hr))
def q6H (rec_sl4Left:Expr→Int→Option Int)(a0:Expr):(Int × Int)→Option ((Int × Int) ⊕ Int):=fun (s2,s3)=>if s3 < (a0.Args.length:Int) then if 0≤s2 then grd (0≤s3) <| (a0.Args[s3.toNat]?).bind fun x1=>(rec_sl4Left x1 s2).bind fun y1=>grd (I64 (s3+1)) <| some (.inl (y1,(s3+1))) else some (.inr s2) else some (.inr s2)
def z0h (rec_sl4Left:Expr→Int→Option Int)(a0:Expr)(a1:Int):Option Int:=grd (I64 (a1 - 1)) <| ( iterO (q6H rec_sl4Left a0) ((a1 - 1),0) ).bind fun s1=>some s1
theorem z5A {rec_sl4Left:Expr→Int→Option Int}(ih_sl4Left:∀ {a0:Expr}{a1 r:Int},rec_sl4Left a0 a1=some r→∀ {F0:Nat→Prop}{w0:World}{ca0}(ha0:rd F0 w0 a0 ca0)(ha1:I64 a1),RT 203 #[.agg ca0.toArray,.int .i64 a1] w0 fun v w=>v = .int .i64 r∧I64 r){a0}{a1 r}(hr:z0h rec_sl4Left a0 a1=some r){ca0}(ha0:rd F0 w0 a0 ca0)(ha1:I64 a1):RT 203 #[.agg ca0.toArray,.int .i64 a1] w0 fun v w=>v = .int .i64 r∧I64 r:=by
 have H:=(HL.start F0 w0).argR ha0
 obtain⟨A1,n1,c1,rfl,hI1,hI2,hI3,hI4,hS1,hS2,H⟩:=q0X H (i:=0) rfl
 refine (En Tryz.func203) ?_
 refine R ((BX H) fun b1 w1 H=>(A) (Z (R ((V) ?_))))
 refine (gg hr fun hg1 hr=>(BN (Bin.sub hg1)) ((A) (Z (Y (R ((A) (Z ?_)))))))
 refine (bb hr fun q1 hm1 hr=>?_)
 let d1:List Value:=[.int .i64 a0.Kind,.int .i64 a0.N,.int .i64 a0.Pos,.int .i64 a0.Type_,.string a0.Symbol,.string a0.Name,.slice A1 n1 c1]
 refine CW.mid (fun ρ' w=>∃ (s1:Int),s1=q1∧agree ρ' [(1,.int .i64 s1)]∧I64 s1∧HL F0 [] w0 w [Pr.R a0 d1,Pr.S a0.Args (.slice A1 n1 c1)] [It.B b1 58 d1]) ?_ ?_
 ·obtain⟨m1,hq1⟩:=q2m.1 hm1
  refine (lI hq1 (fun m1 ⟨s2,s3⟩ _=>[(1,.int .i64 s2),(2,pB b1),(5,.int .i64 s3)]) (fun ⟨s2,s3⟩ _ w=>I64 s2∧I64 s3∧HL F0 [] w0 w [Pr.R a0 d1,Pr.S a0.Args (.slice A1 n1 c1)] [It.B b1 58 d1]) ()) ?_
  rintro m1 ⟨s2,s3⟩ _ σ w2 hq1 ⟨hI6,hI7,H⟩
  obtain⟨m2,z1,rfl,hb1,hs1,ht1⟩:=q4S hq1
  refine Y (R ((V) ((D 6) ((L H 0) ((NI H 1) fun hl1=>(B) (jD hb1 (fun _ hb1=>?_) fun _ hb1=>?_))))))
  ·refine (G) ((V) ((G) ((B) ((T) (Z (iD hb1 (fun _ hb1=>?_) fun _ hb1=>?_))))))
   ·refine K (Y ?_)
    refine CW.block (X ((D 6) ((L H 0) ((V) ?_))))
    refine (gg hb1 fun hg2 hb1=>?_)
    refine (bb hb1 fun x1 hx1 hb1=>?_)
    obtain⟨b2,ob2,cb2,A2,n2,c2,hvb2,hI8,hI9,hI10,hI11,hS3,hS4,H⟩:=q0u H (i:=1) rfl hx1
    refine WL.ev rfl rfl (Ev.ixV rfl el56 sz58 rfl hvb2 rfl hg2 (lt_of hx1)) ((LA H 2) ((V) ?_))
    refine (bb hb1 fun y1 hy1 hb1=>?_)
    refine (CA ok203 (ih_sl4Left hy1 (q0b.2 ⟨_,rfl,hI8,hI9,hI10,hI11,hS3,hS4,(rs H 4)⟩) hI6)) (cF' H fun w3 hI12 H=>(A) (Z (X ((V) ?_))))
    exact (gg hb1 fun hg3 hb1=>(BN (Bin.add hg3)) ((A) (Z (I2 hb1 hs1 ⟨m2,⟨y1,(s3+1)⟩,()⟩))))
   ·exact CE (C2 hb1 ht1)
  ·exact (O) ((O) ((U) (Z ((cF) (CE (C2 hb1 ht1))))))
 ·rintro ρ' w4 ⟨s1,rfl,hag,hI5,H⟩
  obtain⟨σ,rfl⟩:=ofL_ex hag
  exact R ((V) ((A) (Z (W1 hr))))
def q6L:Nat→Expr→Int→Option Int
  | 0,_,_=>none
  | n+1,a0,a1=>z0h (q6L n) a0 a1
def z2g (a0:Expr)(a1:Int):Option Int:=recO fun n=>q6L n a0 a1
theorem z5B (n:Nat):∀ {a0:Expr}{a1 r:Int},q6L n a0 a1=some r→∀ {F0:Nat→Prop}{w0:World}{ca0}(ha0:rd F0 w0 a0 ca0)(ha1:I64 a1),RT 203 #[.agg ca0.toArray,.int .i64 a1] w0 fun v w=>v = .int .i64 r∧I64 r:=by
 induction n with
 | zero=>intro a0 a1 r hr; exact nomatch (show (none:Option Int)=some r from hr)
 | succ n ih=>intro a0 a1 r hr; exact z5A ih hr
theorem z6X {a0}{a1 r}(hr:z2g a0 a1=some r){ca0}(ha0:rd F0 w0 a0 ca0)(ha1:I64 a1):RT 203 #[.agg ca0.toArray,.int .i64 a1] w0 fun v w=>v = .int .i64 r∧I64 r:=by
 obtain⟨n,hn⟩:=q2f hr
 exact z5B n hn ha0 ha1
def q8a (a0 a1:Int):Option Int:=if a1 < a0 then some a0 else some a1
theorem z2h {a0 a1 r}(hr:q8a a0 a1=some r){F0:Nat→Prop}(ha0:I64 a0)(ha1:I64 a1):RT 190 #[.int .i64 a0,.int .i64 a1] w0 fun v w=>v = .int .i64 r∧I64 r:=by
 have H:=HL.start F0 w0
 refine (En Tryz.func190) ?_
 refine R ((A) (Z (Y (R ((V) ((V) ((B) (Z (iD hr (fun _ hr=>?_) fun _ hr=>?_)))))))))
 ·exact R ((V) ((A) (Z (W1 hr))))
 ·exact K (R ((V) ((A) (Z (W1 hr)))))
def q6M (rec_sDepthOfExpr:Expr→Option Int):Nat→Expr→Int→Option Int:=fun k1 x1 s1=>(rec_sDepthOfExpr x1).bind fun y1=>(q8a s1 y1).bind fun y2=>some y2
def q5R (rec_sDepthOfExpr:Expr→Option Int)(a0:Expr):Option Int:=(eachL (q6M rec_sDepthOfExpr) 0 a0.Args 0).bind fun s1=>grd (I64 (s1+1)) <| some (s1+1)
theorem z1q {rec_sDepthOfExpr:Expr→Option Int}(ih_sDepthOfExpr:∀ {a0:Expr}{r:Int},rec_sDepthOfExpr a0=some r→∀ {F0:Nat→Prop}{w0:World}{ca0}(ha0:rd F0 w0 a0 ca0),RT 204 #[.agg ca0.toArray] w0 fun v w=>v = .int .i64 r∧I64 r){a0}{r}(hr:q5R rec_sDepthOfExpr a0=some r){ca0}(ha0:rd F0 w0 a0 ca0):RT 204 #[.agg ca0.toArray] w0 fun v w=>v = .int .i64 r∧I64 r:=by
 have H:=(HL.start F0 w0).argR ha0
 obtain⟨A1,n1,c1,rfl,hI1,hI2,hI3,hI4,hS1,hS2,H⟩:=q0X H (i:=0) rfl
 refine (En Tryz.func204) ?_
 refine R ((BX H) fun b1 w1 H=>(A) (Z (R ((A) (Z (Y (R ((A) (Z ?_)))))))))
 refine (bb hr fun q1 hq1 hr=>?_)
 let d1:List Value:=[.int .i64 a0.Kind,.int .i64 a0.N,.int .i64 a0.Pos,.int .i64 a0.Type_,.string a0.Symbol,.string a0.Name,.slice A1 n1 c1]
 refine (lE hq1 (fun k1 s1 _=>[(1,pB b1),(3,.int .i64 s1),(4,zN k1)]) (fun s1 _ w=>I64 s1∧HL F0 [] w0 w [Pr.R a0 d1,Pr.S a0.Args (.slice A1 n1 c1)] [It.B b1 58 d1]) ()) ?_
 rintro k1 s1 _ σ w2 hk1 hq1 ⟨hI5,H⟩
 refine Y (R ((V) ((D 6) ((L H 0) ((NI H 1) fun hl1=>(B) (Z ?_))))))
 refine (iE hq1 (fun hk2 x1 z1 hx1 hb1 hq1=>?_) fun e=>?_)
 ·refine K (Y ?_)
  refine CW.block (X ((V) ((D 6) ((L H 0) ((V) ?_)))))
  obtain⟨b2,ob2,cb2,A2,n2,c2,hvb2,hI6,hI7,hI8,hI9,hS3,hS4,H⟩:=q0u H (i:=1) rfl hx1
  refine (J 7 hvb2 hx1) ((LA H 2) ?_)
  refine (bb hb1 fun y1 hy1 hb1=>?_)
  refine (CA ok204 (ih_sDepthOfExpr hy1 (q0b.2 ⟨_,rfl,hI6,hI7,hI8,hI9,hS3,hS4,(rs H 4)⟩))) (cF' H fun w3 hI10 H=>?_)
  refine (bb hb1 fun y2 hy2 hb1=>?_)
  exact (CA ok190 (z2h hy2 (F0:=fun _=>False) hI5 hI10)) (cF' H fun w4 hI11 H=>(A) (Z (X ((V) ((AN hk2 hl1) ((A) (Z (I1 hb1 ⟨k1+1,y2,()⟩))))))))
 ·obtain rfl:=e
  refine CE (R ((V) ?_))
  exact (gg hr fun hg1 hr=>(BN (Bin.add hg1)) ((A) (Z (W1 hr))))
def q2R:Nat→Expr→Option Int
  | 0,_=>none
  | n+1,a0=>q5R (q2R n) a0
def q7w (a0:Expr):Option Int:=recO fun n=>q2R n a0
theorem z1r (n:Nat):∀ {a0:Expr}{r:Int},q2R n a0=some r→∀ {F0:Nat→Prop}{w0:World}{ca0}(ha0:rd F0 w0 a0 ca0),RT 204 #[.agg ca0.toArray] w0 fun v w=>v = .int .i64 r∧I64 r:=by
 induction n with
 | zero=>intro a0 r hr; exact nomatch (show (none:Option Int)=some r from hr)
 | succ n ih=>intro a0 r hr; exact z1q ih hr
theorem z2i {a0}{r}(hr:q7w a0=some r){ca0}(ha0:rd F0 w0 a0 ca0):RT 204 #[.agg ca0.toArray] w0 fun v w=>v = .int .i64 r∧I64 r:=by
 obtain⟨n,hn⟩:=q2f hr
 exact z1r n hn ha0
def z0i (a0:Expr):Option Bool:=( if a0.Kind=4 then some 2 else if a0.Kind=5 then some 3 else if a0.Kind=8 then some 1 else some 0 ).bind fun s1=>if (a0.Args.length:Int)=s1 then ( if a0.Kind=3 then some true else some (decide (a0.Kind=6)) ).bind fun s2=>( if a0.Kind=3 then some true else some (decide (a0.Kind=8)) ).bind fun s3=>( if a0.Kind=1 then some true else some (decide (a0.Kind=4)) ).bind fun s4=>( if s2=true then some true else some (decide (a0.Pos=0)) ).bind fun s5=>( if s5=true then ( if s3=true then some true else some (decide (a0.Name=(⟨#[]⟩:ByteArray))) ).bind fun s7=>some s7 else some false ).bind fun s6=>( if s6=true then ( if s4=true then some true else some (decide (a0.N=0)) ).bind fun s9=>some s9 else some false ).bind fun s8=>( if s8=true then ( if a0.Kind=1 then some true else some (decide (a0.Type_=0)) ).bind fun s11=>some s11 else some false ).bind fun s10=>( if s10=true then ( if a0.Kind=8 then some true else some (decide (a0.Symbol=(⟨#[]⟩:ByteArray))) ).bind fun s13=>some s13 else some false ).bind fun s12=>some s12 else some false
theorem z6Y {a0}{r}(hr:z0i a0=some r){ca0}(ha0:rd F0 w0 a0 ca0):RT 215 #[.agg ca0.toArray] w0 fun v w=>v = .bool r:=by
 have H:=(HL.start F0 w0).argR ha0
 obtain⟨A1,n1,c1,rfl,hI1,hI2,hI3,hI4,hS1,hS2,H⟩:=q0X H (i:=0) rfl
 refine (En Tryz.func215) ?_
 refine R ((BX H) fun b1 w1 H=>(A) (Z (R ((A) (Z (Y (R ((D 0) ((L H 0) (Z ?_))))))))))
 refine (bb hr fun q1 hm1 hr=>?_)
 let d1:List Value:=[.int .i64 a0.Kind,.int .i64 a0.N,.int .i64 a0.Pos,.int .i64 a0.Type_,.string a0.Symbol,.string a0.Name,.slice A1 n1 c1]
 let d2:List Pr:=[Pr.R a0 d1,Pr.S a0.Args (.slice A1 n1 c1)]
 refine CW.mid (fun ρ' w=>∃ (s1:Int),s1=q1∧agree ρ' [(1,pB b1),(3,.int .i64 s1)]∧I64 s1∧HL F0 [] w0 w d2 [It.B b1 58 d1]) ?_ ?_
 ·refine CW.block (R ((B) ((A) (Z (iD hm1 (fun _ hm1=>?_) fun _ hm1=>?_)))))
  ·exact X ((A) (Z (C1 hm1)))
  ·refine R ((B) ((A) (Z (iD hm1 (fun _ hm1=>?_) fun _ hm1=>?_))))
   ·exact X ((A) (Z (C1 hm1)))
   ·refine R ((B) ((A) (Z (iD hm1 (fun _ hm1=>?_) fun _ hm1=>?_))))
    ·exact X ((A) (Z (C1 hm1)))
    ·exact K (C1 hm1)
 ·rintro ρ' w2 ⟨s1,rfl,hag,hI5,H⟩
  obtain⟨σ,rfl⟩:=ofL_ex hag
  refine Y (R ((D 6) ((L H 0) ((NI H 1) fun hl1=>(V) ((B) (Z (iN hr (fun _ hr=>?_) fun _ hr=>?_)))))))
  ·exact R ((A) (Z (W1 hr)))
  ·refine K (R ((D 0) ((L H 0) ((B) ?_))))
   refine (bb hr fun q2 hm2 hr=>?_)
   refine cu H 5 [(1,pB b1),(27,.bool q2)] d2 [It.B b1 58 d1] ?_ fun σ w3 H=>?_
   ·refine jD hm2 (fun _ hm2=>?_) fun _ hm2=>?_
    ·exact (O) ((O) ((O) ((T) (Z (C1 hm2)))))
    ·exact (G) ((D 0) ((G) ((L H 0) ((G) ((B) ((U) (Z (C1 hm2))))))))
   ·refine (A) (Z (R ((D 0) ((L H 0) ((B) ?_)))))
    refine (bb hr fun q3 hm3 hr=>?_)
    refine cu H 5 [(1,pB b1),(4,.bool q2),(35,.bool q3)] d2 [It.B b1 58 d1] ?_ fun σ w4 H=>?_
    ·refine jD hm3 (fun _ hm3=>?_) fun _ hm3=>?_
     ·exact (O) ((O) ((O) ((T) (Z (C1 hm3)))))
     ·exact (G) ((D 0) ((G) ((L H 0) ((G) ((B) ((U) (Z (C1 hm3))))))))
    ·refine (A) (Z (R ((D 0) ((L H 0) ((B) ?_)))))
     refine (bb hr fun q4 hm4 hr=>?_)
     refine cu H 5 [(1,pB b1),(4,.bool q2),(5,.bool q3),(43,.bool q4)] d2 [It.B b1 58 d1] ?_ fun σ w5 H=>?_
     ·refine jD hm4 (fun _ hm4=>?_) fun _ hm4=>?_
      ·exact (O) ((O) ((O) ((T) (Z (C1 hm4)))))
      ·exact (G) ((D 0) ((G) ((L H 0) ((G) ((B) ((U) (Z (C1 hm4))))))))
     ·refine (A) (Z (R ((V) ?_)))
      refine (bb hr fun q5 hm5 hr=>?_)
      refine cu H 5 [(1,pB b1),(5,.bool q3),(6,.bool q4),(49,.bool q5)] d2 [It.B b1 58 d1] ?_ fun σ w6 H=>?_
      ·refine jB hm5 (fun _ hm5=>?_) fun _ hm5=>?_
       ·exact (O) ((O) ((O) ((T) (Z (C1 hm5)))))
       ·exact (G) ((D 2) ((G) ((L H 0) ((G) ((B) ((U) (Z (C1 hm5))))))))
      ·refine (bb hr fun q6 hm6 hr=>?_)
       refine cu H 8 [(1,pB b1),(6,.bool q4),(57,.bool q6)] d2 [It.B b1 58 d1] ?_ fun σ w8 H=>?_
       ·refine jB hm6 (fun _ hm6=>?_) fun _ hm6=>?_
        ·refine (G) ((V) ((G) ?_))
         refine (bb hm6 fun q7 hm7 hm6=>?_)
         refine cu H 5 [(1,pB b1),(6,.bool q4),(50,.bool true),(56,.bool q7)] d2 [It.B b1 58 d1] ?_ fun σ w7 H=>?_
         ·refine (G) (jB hm7 (fun _ hm7=>?_) fun _ hm7=>?_)
          ·exact (O) ((O) ((O) ((G) ((T) (Z (C1 hm7))))))
          ·exact (G) ((D 5) ((G) ((L H 0) ((G) ((B) ((G) ((U) (Z (C1 hm7)))))))))
         ·exact (T) (Z (C1 hm6))
        ·exact (O) ((O) ((O) ((O) ((O) ((O) ((U) (Z (C1 hm6))))))))
       ·refine (bb hr fun q8 hm8 hr=>?_)
        refine cu H 8 [(1,pB b1),(65,.bool q8)] d2 [It.B b1 58 d1] ?_ fun σ w10 H=>?_
        ·refine jB hm8 (fun _ hm8=>?_) fun _ hm8=>?_
         ·refine (G) ((V) ((G) ?_))
          refine (bb hm8 fun q9 hm9 hm8=>?_)
          refine cu H 5 [(1,pB b1),(58,.bool true),(64,.bool q9)] d2 [It.B b1 58 d1] ?_ fun σ w9 H=>?_
          ·refine (G) (jB hm9 (fun _ hm9=>?_) fun _ hm9=>?_)
           ·exact (O) ((O) ((O) ((G) ((T) (Z (C1 hm9))))))
           ·exact (G) ((D 1) ((G) ((L H 0) ((G) ((B) ((G) ((U) (Z (C1 hm9)))))))))
          ·exact (T) (Z (C1 hm8))
         ·exact (O) ((O) ((O) ((O) ((O) ((O) ((U) (Z (C1 hm8))))))))
        ·refine (bb hr fun q10 hm10 hr=>?_)
         refine cu H 10 [(1,pB b1),(75,.bool q10)] d2 [It.B b1 58 d1] ?_ fun σ w12 H=>?_
         ·refine jB hm10 (fun _ hm10=>?_) fun _ hm10=>?_
          ·refine (G) ((D 0) ((G) ((L H 0) ((G) ((B) ((G) ?_))))))
           refine (bb hm10 fun q11 hm11 hm10=>?_)
           refine cu H 5 [(1,pB b1),(66,.bool true),(74,.bool q11)] d2 [It.B b1 58 d1] ?_ fun σ w11 H=>?_
           ·refine (G) (jD hm11 (fun _ hm11=>?_) fun _ hm11=>?_)
            ·exact (O) ((O) ((O) ((G) ((T) (Z (C1 hm11))))))
            ·exact (G) ((D 3) ((G) ((L H 0) ((G) ((B) ((G) ((U) (Z (C1 hm11)))))))))
           ·exact (T) (Z (C1 hm10))
          ·exact (O) ((O) ((O) ((O) ((O) ((O) ((O) ((O) ((U) (Z (C1 hm10))))))))))
         ·refine (bb hr fun q12 hm12 hr=>?_)
          refine cu H 10 [(85,.bool q12)] d2 [It.B b1 58 d1] ?_ fun σ w14 H=>?_
          ·refine jB hm12 (fun _ hm12=>?_) fun _ hm12=>?_
           ·refine (G) ((D 0) ((G) ((L H 0) ((G) ((B) ((G) ?_))))))
            refine (bb hm12 fun q13 hm13 hm12=>?_)
            refine cu H 5 [(76,.bool true),(84,.bool q13)] d2 [It.B b1 58 d1] ?_ fun σ w13 H=>?_
            ·refine (G) (jD hm13 (fun _ hm13=>?_) fun _ hm13=>?_)
             ·exact (O) ((O) ((O) ((G) ((T) (Z (C1 hm13))))))
             ·exact (G) ((D 4) ((G) ((L H 0) ((G) ((B) ((G) ((U) (Z (C1 hm13)))))))))
            ·exact (T) (Z (C1 hm12))
           ·exact (O) ((O) ((O) ((O) ((O) ((O) ((O) ((O) ((U) (Z (C1 hm12))))))))))
          ·exact (A) (Z (W1 hr))
def z1O (a0 a1:Int):Option Int:=if a0 < a1 then some a0 else some a1
theorem z7N {a0 a1 r}(hr:z1O a0 a1=some r){F0:Nat→Prop}(ha0:I64 a0)(ha1:I64 a1):RT 224 #[.int .i64 a0,.int .i64 a1] w0 fun v w=>v = .int .i64 r∧I64 r:=by
 have H:=HL.start F0 w0
 refine (En Tryz.func224) ?_
 refine R ((A) (Z (Y (R ((V) ((V) ((B) (Z (iD hr (fun _ hr=>?_) fun _ hr=>?_)))))))))
 ·exact R ((V) ((A) (Z (W1 hr))))
 ·exact K (R ((V) ((A) (Z (W1 hr)))))
def q8b (a0:Int):Option Int:=(z1O 1000000 a0).bind fun y1=>(q8a (-1000000) y1).bind fun y2=>some y2
theorem z4J {a0 r}(hr:q8b a0=some r){F0:Nat→Prop}(ha0:I64 a0):RT 222 #[.int .i64 a0] w0 fun v w=>v = .int .i64 r∧I64 r:=by
 have H:=HL.start F0 w0
 refine (En Tryz.func222) ?_
 refine R ((A) (Z (R ((V) ?_))))
 refine (bb hr fun y1 hy1 hr=>?_)
 refine (CA ok224 (z7N hy1 (F0:=fun _=>False) (by decide:I64 1000000) ha0)) (cF' H fun w1 hI1 H=>?_)
 refine (bb hr fun y2 hy2 hr=>?_)
 exact (CA ok190 (z2h hy2 (F0:=fun _=>False) (by decide:I64 (-1000000)) hI1)) (cF' H fun w2 hI2 H=>(A) (Z (W1 hr)))
def q9f (a0:Bool):Option Int:=if a0=true then some 1 else some 0
theorem z5C {a0}{r}(hr:q9f a0=some r){F0:Nat→Prop}:RT 223 #[.bool a0] w0 fun v w=>v = .int .i64 r∧I64 r:=by
 have H:=HL.start F0 w0
 refine (En Tryz.func223) ?_
 refine R ((A) (Z (Y (R ((V) (Z (iB hr (fun _ hr=>?_) fun _ hr=>?_)))))))
 ·exact R ((A) (Z (W1 hr)))
 ·exact K (R ((A) (Z (W1 hr))))
def z0j (a0 a1:Int):Option Int:=if a1=1 then (q8b a0).bind fun y1=>some y1 else if a1=2 then some (goAnd a0 4095) else if a1=3 then (q9f (!(decide (a0=0)))).bind fun y2=>some y2 else if a1=4 then (q2z a0 0 999).bind fun y3=>if y3=true then some a0 else some 0 else some 0
theorem z6Z {a0 a1 r}(hr:z0j a0 a1=some r){F0:Nat→Prop}(ha0:I64 a0)(ha1:I64 a1):RT 219 #[.int .i64 a0,.int .i64 a1] w0 fun v w=>v = .int .i64 r∧I64 r:=by
 have H:=HL.start F0 w0
 refine (En Tryz.func219) ?_
 refine R ((A) (Z (Y (R ((V) (Z ?_))))))
 refine CW.block (R ((B) ((A) (Z (iD hr (fun _ hr=>?_) fun _ hr=>?_)))))
 ·refine R ((V) ?_)
  refine (bb hr fun y1 hy1 hr=>?_)
  exact (CA ok222 (z4J hy1 (F0:=fun _=>False) ha0)) (cF' H fun w1 hI1 H=>(A) (Z (W1 hr)))
 ·refine R ((B) ((A) (Z (iD hr (fun _ hr=>?_) fun _ hr=>?_))))
  ·refine R ((V) ((B) ((A) (Z (CR ?_)))))
   obtain rfl:=sm hr
   exact⟨_,res1 rfl rfl rfl,H.ext0,rfl,(z6t _)⟩
  ·refine R ((B) ((A) (Z (iD hr (fun _ hr=>?_) fun _ hr=>?_))))
   ·refine R ((V) ((B) ?_))
    refine (bb hr fun y2 hy2 hr=>?_)
    exact (CA ok223 (z5C hy2 (F0:=fun _=>False))) (cF' H fun w2 hI2 H=>(A) (Z (W1 hr)))
   ·refine R ((B) ((A) (Z (iD hr (fun _ hr=>?_) fun _ hr=>?_))))
    ·refine R ((V) ?_)
     refine (bb hr fun y3 hy3 hr=>?_)
     refine (CA ok94 (q3d hy3 (F0:=fun _=>False) ha0 (by decide:I64 0) (by decide:I64 999))) (cE H fun w3 H=>Z (iB hr (fun _ hr=>?_) fun _ hr=>?_))
     ·exact R ((V) ((A) (Z (W1 hr))))
     ·exact K (R ((A) (Z (W1 hr))))
    ·exact K (R ((A) (Z (W1 hr))))
def q8c (a0 a1:Int):Option Bool:=(q2z a1 1 4).bind fun y1=>if y1=true then (z0j a0 a1).bind fun y2=>some (decide (y2=a0)) else some false
theorem z4K {a0 a1}{r}(hr:q8c a0 a1=some r){F0:Nat→Prop}(ha0:I64 a0)(ha1:I64 a1):RT 216 #[.int .i64 a0,.int .i64 a1] w0 fun v w=>v = .bool r:=by
 have H:=HL.start F0 w0
 refine (En Tryz.func216) ?_
 refine R ((A) (Z (R ((V) ?_))))
 refine (bb hr fun y1 hy1 hr=>?_)
 refine (CA ok94 (q3d hy1 (F0:=fun _=>False) ha1 (by decide:I64 1) (by decide:I64 4))) (cE H fun w1 H=>jB hr (fun _ hr=>?_) fun _ hr=>?_)
 ·refine (G) ((V) ((G) ((V) ((G) ?_))))
  refine (bb hr fun y2 hy2 hr=>?_)
  exact (CA ok219 (z6Z hy2 (F0:=fun _=>False) ha0 ha1)) (cF' H fun w2 hI1 H=>(G) ((V) ((G) ((B) ((T) ((A) (Z (W1 hr))))))))
 ·exact (O) ((O) ((O) ((O) ((O) ((U) ((A) (Z (W1 hr))))))))
def z0k (a0:Expr):Option Bool:=(q2z a0.Kind 1 8).bind fun y1=>( if y1=true then (z0i a0).bind fun y2=>some (!y2) else some true ).bind fun s1=>if s1=true then some false else if a0.Kind=1 then (q2z a0.Type_ 1 3).bind fun y3=>( if y3=true then (q8c a0.N a0.Type_).bind fun y4=>some y4 else some false ).bind fun s2=>( if s2=true then some (decide (0≤a0.N)) else some false ).bind fun s3=>some s3 else if a0.Kind=3 then (q2z a0.Pos 0 3).bind fun y5=>( if y5=true then (q0U a0.Name).bind fun y6=>some y6 else some false ).bind fun s4=>some s4 else if a0.Kind=6 then (q2z a0.Pos 0 3).bind fun y7=>some y7 else if a0.Kind=4 then (q2z a0.N 1 12).bind fun y8=>some y8 else if a0.Kind=8 then (q0U a0.Symbol).bind fun y9=>( if y9=true then (q0U a0.Name).bind fun y10=>some y10 else some false ).bind fun s5=>some s5 else some true
theorem z7a {a0}{r}(hr:z0k a0=some r){ca0}(ha0:rd F0 w0 a0 ca0):RT 211 #[.agg ca0.toArray] w0 fun v w=>v = .bool r:=by
 have H:=(HL.start F0 w0).argR ha0
 obtain⟨A1,n1,c1,rfl,hI1,hI2,hI3,hI4,hS1,hS2,H⟩:=q0X H (i:=0) rfl
 refine (En Tryz.func211) ?_
 refine R ((BX H) fun b1 w1 H=>(A) (Z (Y (R ((D 0) ((L H 0) ?_))))))
 refine (bb hr fun y1 hy1 hr=>?_)
 refine (CA ok94 (q3d hy1 (F0:=fun _=>False) hI1 (by decide:I64 1) (by decide:I64 8))) (cE H fun w2 H=>(N) ?_)
 refine (bb hr fun q1 hm1 hr=>?_)
 let d1:List Value:=[.int .i64 a0.Kind,.int .i64 a0.N,.int .i64 a0.Pos,.int .i64 a0.Type_,.string a0.Symbol,.string a0.Name,.slice A1 n1 c1]
 let d2:List Pr:=[Pr.R a0 d1,Pr.S a0.Args (.slice A1 n1 c1)]
 refine cu H 5 [(1,pB b1),(11,.bool q1)] d2 [It.B b1 58 d1] ?_ fun σ w4 H=>?_
 ·refine jM hm1 (fun _ hm1=>?_) fun _ hm1=>?_
  ·exact (O) ((O) ((O) ((T) (Z (C1 hm1)))))
  ·refine (G) ((LB H 0) ((G) ?_))
   refine (bb hm1 fun y2 hy2 hm1=>?_)
   exact (CA ok215 (z6Y hy2 (q0b.2 ⟨_,rfl,hI1,hI2,hI3,hI4,hS1,hS2,(rs H 1)⟩))) (cE H fun w3 H=>(G) ((N) ((U) (Z (C1 hm1)))))
 ·refine Z (iB hr (fun _ hr=>?_) fun _ hr=>?_)
  ·exact R ((A) (Z (W1 hr)))
  ·refine K (Y (R ((D 0) ((L H 0) (Z ?_)))))
   refine CW.block (R ((B) ((A) (Z (iD hr (fun _ hr=>?_) fun _ hr=>?_)))))
   ·refine R ((D 3) ((L H 0) ?_))
    refine (bb hr fun y3 hy3 hr=>?_)
    refine (CA ok94 (q3d hy3 (F0:=fun _=>False) hI4 (by decide:I64 1) (by decide:I64 3))) (cE H fun w5 H=>?_)
    refine (bb hr fun q2 hm2 hr=>?_)
    refine cu H 7 [(1,pB b1),(25,.bool q2)] d2 [It.B b1 58 d1] ?_ fun σ w7 H=>?_
    ·refine jB hm2 (fun _ hm2=>?_) fun _ hm2=>?_
     ·refine (G) ((D 1) ((G) ((L H 0) ((G) ((D 3) ((G) ((L H 0) ((G) ?_))))))))
      refine (bb hm2 fun y4 hy4 hm2=>?_)
      exact (CA ok216 (z4K hy4 (F0:=fun _=>False) hI2 hI4)) (cE H fun w6 H=>(T) (Z (C1 hm2)))
     ·exact (O) ((O) ((O) ((O) ((O) ((U) (Z (C1 hm2)))))))
    ·refine (bb hr fun q3 hm3 hr=>?_)
     refine cu H 5 [(30,.bool q3)] d2 [It.B b1 58 d1] ?_ fun σ w8 H=>?_
     ·refine jB hm3 (fun _ hm3=>?_) fun _ hm3=>?_
      ·exact (G) ((D 1) ((G) ((L H 0) ((G) ((B) ((T) (Z (C1 hm3))))))))
      ·exact (O) ((O) ((O) ((U) (Z (C1 hm3)))))
     ·exact (A) (Z (W1 hr))
   ·refine R ((B) ((A) (Z (iD hr (fun _ hr=>?_) fun _ hr=>?_))))
    ·refine R ((D 2) ((L H 0) ?_))
     refine (bb hr fun y5 hy5 hr=>?_)
     refine (CA ok94 (q3d hy5 (F0:=fun _=>False) hI3 (by decide:I64 0) (by decide:I64 3))) (cE H fun w9 H=>?_)
     refine (bb hr fun q4 hm4 hr=>?_)
     refine cu H 5 [(40,.bool q4)] d2 [It.B b1 58 d1] ?_ fun σ w11 H=>?_
     ·refine jB hm4 (fun _ hm4=>?_) fun _ hm4=>?_
      ·refine (G) ((D 5) ((G) ((L H 0) ((G) ?_))))
       refine (bb hm4 fun y6 hy6 hm4=>?_)
       exact (CA ok156 (q1n hy6 (F0:=fun _=>False) hS2)) (cE H fun w10 H=>(T) (Z (C1 hm4)))
      ·exact (O) ((O) ((O) ((U) (Z (C1 hm4)))))
     ·exact (A) (Z (W1 hr))
    ·refine R ((B) ((A) (Z (iD hr (fun _ hr=>?_) fun _ hr=>?_))))
     ·refine R ((D 2) ((L H 0) ?_))
      refine (bb hr fun y7 hy7 hr=>?_)
      exact (CA ok94 (q3d hy7 (F0:=fun _=>False) hI3 (by decide:I64 0) (by decide:I64 3))) (cE H fun w12 H=>(A) (Z (W1 hr)))
     ·refine R ((B) ((A) (Z (iD hr (fun _ hr=>?_) fun _ hr=>?_))))
      ·refine R ((D 1) ((L H 0) ?_))
       refine (bb hr fun y8 hy8 hr=>?_)
       exact (CA ok94 (q3d hy8 (F0:=fun _=>False) hI2 (by decide:I64 1) (by decide:I64 12))) (cE H fun w13 H=>(A) (Z (W1 hr)))
      ·refine R ((B) ((A) (Z (iD hr (fun _ hr=>?_) fun _ hr=>?_))))
       ·refine R ((D 4) ((L H 0) ?_))
        refine (bb hr fun y9 hy9 hr=>?_)
        refine (CA ok156 (q1n hy9 (F0:=fun _=>False) hS1)) (cE H fun w14 H=>?_)
        refine (bb hr fun q5 hm5 hr=>?_)
        refine cu H 5 [(60,.bool q5)] d2 [It.B b1 58 d1] ?_ fun σ w16 H=>?_
        ·refine jB hm5 (fun _ hm5=>?_) fun _ hm5=>?_
         ·refine (G) ((D 5) ((G) ((L H 0) ((G) ?_))))
          refine (bb hm5 fun y10 hy10 hm5=>?_)
          exact (CA ok156 (q1n hy10 (F0:=fun _=>False) hS2)) (cE H fun w15 H=>(T) (Z (C1 hm5)))
         ·exact (O) ((O) ((O) ((U) (Z (C1 hm5)))))
        ·exact (A) (Z (W1 hr))
       ·exact K (R ((A) (Z (W1 hr))))
def z4L (rec_sl4All:Expr→Option Bool):Nat→Expr→Unit→Option (Unit ⊕ Bool):=fun k1 x1 _=>(rec_sl4All x1).bind fun y1=>if y1=true then some (.inl ()) else some (.inr false)
def z1P (rec_sl4All:Expr→Option Bool)(a0:Expr):Option Bool:=(findL (z4L rec_sl4All) 0 a0.Args ()).bind <| onr (fun r1=>some r1) fun _=>(z0k a0).bind fun y2=>some y2
theorem z7b {rec_sl4All:Expr→Option Bool}(ih_sl4All:∀ {a0:Expr}{r:Bool},rec_sl4All a0=some r→∀ {F0:Nat→Prop}{w0:World}{ca0}(ha0:rd F0 w0 a0 ca0),RT 205 #[.agg ca0.toArray] w0 fun v w=>v = .bool r){a0}{r}(hr:z1P rec_sl4All a0=some r){ca0}(ha0:rd F0 w0 a0 ca0):RT 205 #[.agg ca0.toArray] w0 fun v w=>v = .bool r:=by
 have H:=(HL.start F0 w0).argR ha0
 obtain⟨A1,n1,c1,rfl,hI1,hI2,hI3,hI4,hS1,hS2,H⟩:=q0X H (i:=0) rfl
 refine (En Tryz.func205) ?_
 refine R ((BX H) fun b1 w1 H=>(A) (Z (Y (R ((A) (Z ?_))))))
 refine (bb hr fun q1 hq1 hr=>?_)
 let d1:List Value:=[.int .i64 a0.Kind,.int .i64 a0.N,.int .i64 a0.Pos,.int .i64 a0.Type_,.string a0.Symbol,.string a0.Name,.slice A1 n1 c1]
 refine (lF hq1 (fun k1 _ _=>[(1,pB b1),(3,zN k1)]) (fun _ _ w=>HL F0 [] w0 w [Pr.R a0 d1,Pr.S a0.Args (.slice A1 n1 c1)] [It.B b1 58 d1]) ()) ?_
 rintro k1 _ _ σ w2 hk1 hq1 H
 refine Y (R ((V) ((D 6) ((L H 0) ((NI H 1) fun hl1=>(B) (Z ?_))))))
 refine (iF hq1 hr (fun hk2 x1 z1 hx1 hb1 hs1 ht1=>?_) fun hr=>?_)
 ·refine K (Y ?_)
  refine CW.block (R ((D 6) ((L H 0) ((V) ?_))))
  obtain⟨b2,ob2,cb2,A2,n2,c2,hvb2,hI5,hI6,hI7,hI8,hS3,hS4,H⟩:=q0u H (i:=1) rfl hx1
  refine (J 7 hvb2 hx1) ((LA H 2) ?_)
  refine (bb hb1 fun y1 hy1 hb1=>?_)
  refine (CA ok205 (ih_sl4All hy1 (q0b.2 ⟨_,rfl,hI5,hI6,hI7,hI8,hS3,hS4,(rs H 4)⟩))) (cE H fun w3 H=>(N) (Z (iM hb1 (fun _ hb1=>?_) fun _ hb1=>?_)))
  ·exact R ((A) (Z (W2 hb1 ht1 hr)))
  ·exact K (X ((V) ((AN hk2 hl1) ((A) (Z (I2 hb1 hs1 ⟨k1+1,(),()⟩))))))
 ·refine CE (R ((LB H 0) ?_))
  refine (bb hr fun y2 hy2 hr=>?_)
  exact (CA ok211 (z7a hy2 (q0b.2 ⟨_,rfl,hI1,hI2,hI3,hI4,hS1,hS2,(rs H 1)⟩))) (cE H fun w4 H=>(A) (Z (W1 hr)))
def z0l:Nat→Expr→Option Bool
  | 0,_=>none
  | n+1,a0=>z1P (z0l n) a0
def z3R (a0:Expr):Option Bool:=recO fun n=>z0l n a0
theorem z7c (n:Nat):∀ {a0:Expr}{r:Bool},z0l n a0=some r→∀ {F0:Nat→Prop}{w0:World}{ca0}(ha0:rd F0 w0 a0 ca0),RT 205 #[.agg ca0.toArray] w0 fun v w=>v = .bool r:=by
 induction n with
 | zero=>intro a0 r hr; exact nomatch (show (none:Option Bool)=some r from hr)
 | succ n ih=>intro a0 r hr; exact z7b ih hr
theorem z7O {a0}{r}(hr:z3R a0=some r){ca0}(ha0:rd F0 w0 a0 ca0):RT 205 #[.agg ca0.toArray] w0 fun v w=>v = .bool r:=by
 obtain⟨n,hn⟩:=q2f hr
 exact z7c n hn ha0
def q5S (a0:Expr):Option Bool:=(z2g a0 24).bind fun y1=>( if 0≤y1 then (q7w a0).bind fun y2=>some (decide (y2≤6)) else some false ).bind fun s1=>( if s1=true then (z3R a0).bind fun y3=>some y3 else some false ).bind fun s2=>some s2
theorem z2j {a0}{r}(hr:q5S a0=some r){ca0}(ha0:rd F0 w0 a0 ca0):RT 185 #[.agg ca0.toArray] w0 fun v w=>v = .bool r:=by
 have H:=(HL.start F0 w0).argR ha0
 obtain⟨A1,n1,c1,rfl,hI1,hI2,hI3,hI4,hS1,hS2,H⟩:=q0X H (i:=0) rfl
 refine (En Tryz.func185) ?_
 refine R ((BX H) fun b1 w1 H=>(A) (Z (R ((LB H 0) ?_))))
 refine (bb hr fun y1 hy1 hr=>?_)
 refine (CA ok203 (z6X hy1 (q0b.2 ⟨_,rfl,hI1,hI2,hI3,hI4,hS1,hS2,(rs H 1)⟩) (by decide:I64 24))) (cF' H fun w2 hI5 H=>(B) ?_)
 refine (bb hr fun q1 hm1 hr=>?_)
 let d1:List Value:=[.int .i64 a0.Kind,.int .i64 a0.N,.int .i64 a0.Pos,.int .i64 a0.Type_,.string a0.Symbol,.string a0.Name,.slice A1 n1 c1]
 refine cu H 5 [(1,pB b1),(2,.bool false),(10,.bool q1)] [Pr.R a0 d1,Pr.S a0.Args (.slice A1 n1 c1)] [It.B b1 58 d1] ?_ fun σ w4 H=>?_
 ·refine jD hm1 (fun _ hm1=>?_) fun _ hm1=>?_
  ·refine (G) ((LB H 0) ((G) ?_))
   refine (bb hm1 fun y2 hy2 hm1=>?_)
   exact (CA ok204 (z2i hy2 (q0b.2 ⟨_,rfl,hI1,hI2,hI3,hI4,hS1,hS2,(rs H 1)⟩))) (cF' H fun w3 hI6 H=>(G) ((B) ((T) (Z (C1 hm1)))))
  ·exact (O) ((O) ((O) ((U) (Z (C1 hm1)))))
 ·refine (bb hr fun q2 hm2 hr=>?_)
  refine cu H 4 [(2,.bool false),(14,.bool q2)] [Pr.R a0 d1,Pr.S a0.Args (.slice A1 n1 c1)] [It.B b1 58 d1] ?_ fun σ w6 H=>?_
  ·refine jB hm2 (fun _ hm2=>?_) fun _ hm2=>?_
   ·refine (G) ((LB H 0) ((G) ?_))
    refine (bb hm2 fun y3 hy3 hm2=>?_)
    exact (CA ok205 (z7O hy3 (q0b.2 ⟨_,rfl,hI1,hI2,hI3,hI4,hS1,hS2,(rs H 1)⟩))) (cE H fun w5 H=>(T) (Z (C1 hm2)))
   ·exact (O) ((O) ((U) (Z (C1 hm2))))
  ·exact (A) (Z (W1 hr))
def z1l (rec_sl9Within:Expr→Int→Option Bool)(a1:Int):Nat→Expr→Unit→Option (Unit ⊕ Bool):=fun k1 x1 _=>(rec_sl9Within x1 a1).bind fun y1=>if y1=true then some (.inl ()) else some (.inr false)
def q8d (rec_sl9Within:Expr→Int→Option Bool)(a0:Expr)(a1:Int):Option Bool:=(findL (z1l rec_sl9Within a1) 0 a0.Args ()).bind <| onr (fun r1=>some r1) fun _=>some (decide (a0.Pos≤a1))
theorem z3S {rec_sl9Within:Expr→Int→Option Bool}(ih_sl9Within:∀ {a0:Expr}{a1:Int}{r:Bool},rec_sl9Within a0 a1=some r→∀ {F0:Nat→Prop}{w0:World}{ca0}(ha0:rd F0 w0 a0 ca0)(ha1:I64 a1),RT 186 #[.agg ca0.toArray,.int .i64 a1] w0 fun v w=>v = .bool r){a0}{a1}{r}(hr:q8d rec_sl9Within a0 a1=some r){ca0}(ha0:rd F0 w0 a0 ca0)(ha1:I64 a1):RT 186 #[.agg ca0.toArray,.int .i64 a1] w0 fun v w=>v = .bool r:=by
 have H:=(HL.start F0 w0).argR ha0
 obtain⟨A1,n1,c1,rfl,hI1,hI2,hI3,hI4,hS1,hS2,H⟩:=q0X H (i:=0) rfl
 refine (En Tryz.func186) ?_
 refine R ((BX H) fun b1 w1 H=>(A) (Z (Y (R ((A) (Z ?_))))))
 refine (bb hr fun q1 hq1 hr=>?_)
 let d1:List Value:=[.int .i64 a0.Kind,.int .i64 a0.N,.int .i64 a0.Pos,.int .i64 a0.Type_,.string a0.Symbol,.string a0.Name,.slice A1 n1 c1]
 refine (lF hq1 (fun k1 _ _=>[(1,.int .i64 a1),(2,pB b1),(5,zN k1)]) (fun _ _ w=>HL F0 [] w0 w [Pr.R a0 d1,Pr.S a0.Args (.slice A1 n1 c1)] [It.B b1 58 d1]) ()) ?_
 rintro k1 _ _ σ w2 hk1 hq1 H
 refine Y (R ((V) ((D 6) ((L H 0) ((NI H 1) fun hl1=>(B) (Z ?_))))))
 refine (iF hq1 hr (fun hk2 x1 z1 hx1 hb1 hs1 ht1=>?_) fun hr=>?_)
 ·refine K (Y ?_)
  refine CW.block (R ((D 6) ((L H 0) ((V) ?_))))
  obtain⟨b2,ob2,cb2,A2,n2,c2,hvb2,hI5,hI6,hI7,hI8,hS3,hS4,H⟩:=q0u H (i:=1) rfl hx1
  refine (J 7 hvb2 hx1) ((LA H 2) ((V) ?_))
  refine (bb hb1 fun y1 hy1 hb1=>?_)
  refine (CA ok186 (ih_sl9Within hy1 (q0b.2 ⟨_,rfl,hI5,hI6,hI7,hI8,hS3,hS4,(rs H 4)⟩) ha1)) (cE H fun w3 H=>(N) (Z (iM hb1 (fun _ hb1=>?_) fun _ hb1=>?_)))
  ·exact R ((A) (Z (W2 hb1 ht1 hr)))
  ·exact K (X ((V) ((AN hk2 hl1) ((A) (Z (I2 hb1 hs1 ⟨k1+1,(),()⟩))))))
 ·exact CE (R ((D 2) ((L H 0) ((V) ((B) ((A) (Z (W1 hr))))))))
def q6N:Nat→Expr→Int→Option Bool
  | 0,_,_=>none
  | n+1,a0,a1=>q8d (q6N n) a0 a1
def q9G (a0:Expr)(a1:Int):Option Bool:=recO fun n=>q6N n a0 a1
theorem z3T (n:Nat):∀ {a0:Expr}{a1:Int}{r:Bool},q6N n a0 a1=some r→∀ {F0:Nat→Prop}{w0:World}{ca0}(ha0:rd F0 w0 a0 ca0)(ha1:I64 a1),RT 186 #[.agg ca0.toArray,.int .i64 a1] w0 fun v w=>v = .bool r:=by
 induction n with
 | zero=>intro a0 a1 r hr; exact nomatch (show (none:Option Bool)=some r from hr)
 | succ n ih=>intro a0 a1 r hr; exact z3S ih hr
theorem z4M {a0}{a1}{r}(hr:q9G a0 a1=some r){ca0}(ha0:rd F0 w0 a0 ca0)(ha1:I64 a1):RT 186 #[.agg ca0.toArray,.int .i64 a1] w0 fun v w=>v = .bool r:=by
 obtain⟨n,hn⟩:=q2f hr
 exact z3T n hn ha0 ha1
def q7J (a0:Expr)(a1:Int):Option Bool:=(q5S a0).bind fun y1=>if y1=true then (q9G a0 a1).bind fun y2=>some y2 else some false
theorem z0P {a0}{a1}{r}(hr:q7J a0 a1=some r){ca0}(ha0:rd F0 w0 a0 ca0)(ha1:I64 a1):RT 158 #[.agg ca0.toArray,.int .i64 a1] w0 fun v w=>v = .bool r:=by
 have H:=(HL.start F0 w0).argR ha0
 obtain⟨A1,n1,c1,rfl,hI1,hI2,hI3,hI4,hS1,hS2,H⟩:=q0X H (i:=0) rfl
 refine (En Tryz.func158) ?_
 refine R ((BX H) fun b1 w1 H=>(A) (Z (R ((LB H 0) ?_))))
 refine (bb hr fun y1 hy1 hr=>?_)
 refine (CA ok185 (z2j hy1 (q0b.2 ⟨_,rfl,hI1,hI2,hI3,hI4,hS1,hS2,(rs H 1)⟩))) (cE H fun w2 H=>jB hr (fun _ hr=>?_) fun _ hr=>?_)
 ·refine (G) ((LB H 0) ((G) ((V) ((G) ?_))))
  refine (bb hr fun y2 hy2 hr=>?_)
  exact (CA ok186 (z4M hy2 (q0b.2 ⟨_,rfl,hI1,hI2,hI3,hI4,hS1,hS2,(rs H 1)⟩) ha1)) (cE H fun w3 H=>(T) ((A) (Z (W1 hr))))
 ·exact (O) ((O) ((O) ((U) ((A) (Z (W1 hr))))))
def q8I:Nat→ByteArray→Unit→Option (Unit ⊕ Bool):=fun k1 x1 _=>(q0U x1).bind fun y3=>if y3=true then some (.inl ()) else some (.inr false)
def q8J (a0:Rule):Nat→Equation→Unit→Option (Unit ⊕ Bool):=fun k2 x2 _=>(q0U x2.At.Name).bind fun y4=>( if y4=true then (q2z x2.At.Pos 0 (a0.Right.length:Int)).bind fun y5=>some (!y5) else some true ).bind fun s4=>( if s4=true then some true else (q7J x2.Expr (a0.Right.length:Int)).bind fun y6=>some (!y6) ).bind fun s5=>if s5=true then some (.inr false) else some (.inl ())
def q8K (a0:Rule):Nat→Contribution→Unit→Option (Unit ⊕ Bool):=fun k3 x3 _=>(q0U x3.Symbol).bind fun y7=>( if y7=true then (q0U x3.Name).bind fun y8=>some (!y8) else some true ).bind fun s6=>( if s6=true then some true else (q7J x3.Target (a0.Right.length:Int)).bind fun y9=>some (!y9) ).bind fun s7=>( if s7=true then some true else (q7J x3.Value (a0.Right.length:Int)).bind fun y10=>some (!y10) ).bind fun s8=>if s8=true then some (.inr false) else some (.inl ())
def q5T (a0:Rule):Option Bool:=(q0U a0.Name).bind fun y1=>( if y1=true then (q0U a0.Left).bind fun y2=>some (!y2) else some true ).bind fun s1=>( if s1=true then some true else some (decide (3 < (a0.Right.length:Int))) ).bind fun s2=>( if s2=true then some true else some (decide (2 < (a0.Contributions.length:Int))) ).bind fun s3=>if s3=true then some false else (findL q8I 0 a0.Right ()).bind <| onr (fun r1=>some r1) fun _=>(findL (q8J a0) 0 a0.Equations ()).bind <| onr (fun r2=>some r2) fun _=>(findL (q8K a0) 0 a0.Contributions ()).bind <| onr (fun r3=>some r3) fun _=>some true
theorem z2k {a0}{r}(hr:q5T a0=some r){ca0}(ha0:rd F0 w0 a0 ca0):RT 123 #[.agg ca0.toArray] w0 fun v w=>v = .bool r:=by
 have H:=(HL.start F0 w0).argR ha0
 obtain⟨A1,n1,c1,A2,n2,c2,A3,n3,c3,rfl,hS1,hS2,H⟩:=q0z H (i:=0) rfl
 refine (En Tryz.func123) ?_
 refine R ((BX H) fun b1 w1 H=>(A) (Z (R ((D 2) ((L H 0) ((NI H 1) fun hl1=>(A) (Z (Y (R ((D 0) ((L H 0) ?_)))))))))))
 refine (bb hr fun y1 hy1 hr=>?_)
 refine (CA ok156 (q1n hy1 (F0:=fun _=>False) hS1)) (cE H fun w2 H=>(N) ?_)
 refine (bb hr fun q1 hm1 hr=>?_)
 let d2:List Value:=[.string a0.Name,.string a0.Left,.slice A1 n1 c1,.bool a0.Literal,.slice A2 n2 c2,.slice A3 n3 c3]
 let d5:Pr:=Pr.S a0.Contributions (.slice A3 n3 c3)
 let d6:Pr:=Pr.S a0.Equations (.slice A2 n2 c2)
 let d7:Pr:=Pr.S a0.Right (.slice A1 n1 c1)
 let d4:List Pr:=[Pr.R a0 d2,d7,d6,d5]
 refine cu H 6 [(1,pB b1),(3,zN a0.Right.length),(21,.bool q1)] d4 [It.B b1 47 d2] ?_ fun σ w4 H=>?_
 ·refine jM hm1 (fun _ hm1=>?_) fun _ hm1=>?_
  ·exact (O) ((O) ((O) ((O) ((T) (Z (C1 hm1))))))
  ·refine (G) ((D 1) ((G) ((L H 0) ((G) ?_))))
   refine (bb hm1 fun y2 hy2 hm1=>?_)
   exact (CA ok156 (q1n hy2 (F0:=fun _=>False) hS2)) (cE H fun w3 H=>(G) ((N) ((U) (Z (C1 hm1)))))
 ·refine (bb hr fun q2 hm2 hr=>?_)
  refine cu H 4 [(1,pB b1),(3,zN a0.Right.length),(25,.bool q2)] d4 [It.B b1 47 d2] ?_ fun σ w5 H=>?_
  ·refine jB hm2 (fun _ hm2=>?_) fun _ hm2=>?_
   ·exact (O) ((O) ((T) (Z (C1 hm2))))
   ·exact (G) ((V) ((G) ((B) ((U) (Z (C1 hm2))))))
  ·refine (bb hr fun q3 hm3 hr=>?_)
   refine cu H 6 [(1,pB b1),(3,zN a0.Right.length),(31,.bool q3)] d4 [It.B b1 47 d2] ?_ fun σ w6 H=>?_
   ·refine jB hm3 (fun _ hm3=>?_) fun _ hm3=>?_
    ·exact (O) ((O) ((O) ((O) ((T) (Z (C1 hm3))))))
    ·exact (G) ((D 5) ((G) ((L H 0) ((G) ((NI H 3) fun hl2=>(G) ((B) ((U) (Z (C1 hm3)))))))))
   ·refine Z (iB hr (fun _ hr=>?_) fun _ hr=>?_)
    ·exact R ((A) (Z (W1 hr)))
    ·refine K (Y (R ((A) (Z ?_))))
     refine (bb hr fun q4 hq1 hr=>?_)
     refine (lF hq1 (fun k1 _ _=>[(1,pB b1),(3,zN a0.Right.length),(4,zN k1)]) (fun _ _ w=>HL F0 [] w0 w d4 [It.B b1 47 d2]) ()) ?_
     rintro k1 _ _ σ w7 hk1 hq1 H
     refine Y (R ((V) ((V) ((B) (Z ?_)))))
     refine (iF hq1 hr (fun hk2 x1 z1 hx1 hb1 hs1 ht1=>?_) fun hr=>?_)
     ·refine K (Y ?_)
      refine CW.block (R ((D 2) ((L H 0) ((V) ?_))))
      obtain⟨b2,ob2,cb2,hvb2,hS3,H⟩:=q8G H (i:=1) rfl hx1
      refine (J 1 hvb2 hx1) ((L0 H 4) ?_)
      refine (bb hb1 fun y3 hy3 hb1=>?_)
      refine (CA ok156 (q1n hy3 (F0:=fun _=>False) hS3)) (cE H fun w8 H=>(N) (Z (iM hb1 (fun _ hb1=>?_) fun _ hb1=>?_)))
      ·exact R ((A) (Z (W2 hb1 ht1 hr)))
      ·exact K (X ((V) ((AN hk2 hl1) ((A) (Z (I2 hb1 hs1 ⟨k1+1,(),()⟩))))))
     ·refine CE (Y (R ((A) (Z ?_))))
      refine (bb hr fun q5 hq2 hr=>?_)
      refine (lF hq2 (fun k2 _ _=>[(1,pB b1),(3,zN a0.Right.length),(5,zN k2)]) (fun _ _ w=>HL F0 [] w0 w d4 [It.B b1 47 d2]) ()) ?_
      rintro k2 _ _ σ w9 hk3 hq2 H
      refine Y (R ((V) ((D 4) ((L H 0) ((NI H 2) fun hl3=>(B) (Z ?_))))))
      refine (iF hq2 hr (fun hk4 x2 z2 hx2 hb2 hs2 ht2=>?_) fun hr=>?_)
      ·refine K (Y ?_)
       refine CW.block (R ((D 4) ((L H 0) ((V) ?_))))
       obtain⟨b3,ob3,cb3,A4,n4,c4,hvb3,hI1,hS4,hI2,hI3,hI4,hI5,hS5,hS6,H⟩:=q1B H (i:=2) rfl hx2
       refine (J 9 hvb3 hx2) ((LA H 4) ((AH ze60 H) fun b4 w10 H=>(SB H 1) fun w11 H=>Z (R ((D 0) ((D 1) ((L H 1) ?_))))))
       refine (bb hb2 fun y4 hy4 hb2=>?_)
       refine (CA ok156 (q1n hy4 (F0:=fun _=>False) hS4)) (cE H fun w12 H=>(N) ?_)
       refine (bb hb2 fun q6 hm4 hb2=>?_)
       let d3:List Value:=[.int .i64 x2.At.Pos,.string x2.At.Name,.int .i64 x2.Expr.Kind,.int .i64 x2.Expr.N,.int .i64 x2.Expr.Pos,.int .i64 x2.Expr.Type_,.string x2.Expr.Symbol,.string x2.Expr.Name,.slice A4 n4 c4]
       refine cu H 8 [(1,pB b1),(3,zN a0.Right.length),(5,zN k2),(6,pB b4),(68,.bool q6)] [Pr.R a0 d2,d7,d6,d5,Pr.A b3 (ob3+k2*9) d3,Pr.R x2 d3,Pr.S x2.Expr.Args (.slice A4 n4 c4)] [It.B b1 47 d2,It.B b4 60 d3] ?_ fun σ w14 H=>?_
       ·refine jM hm4 (fun _ hm4=>?_) fun _ hm4=>?_
        ·exact (O) ((O) ((O) ((O) ((O) ((O) ((T) (Z (C1 hm4))))))))
        ·refine (G) ((D 0) ((G) ((D 0) ((G) ((L H 1) ((G) ((V) ((G) ?_))))))))
         refine (bb hm4 fun y5 hy5 hm4=>?_)
         exact (CA ok94 (q3d hy5 (F0:=fun _=>False) hI1 (by decide:I64 0) hl1)) (cE H fun w13 H=>(G) ((N) ((U) (Z (C1 hm4)))))
       ·refine (bb hb2 fun q7 hm5 hb2=>?_)
        refine cu H 7 [(1,pB b1),(3,zN a0.Right.length),(5,zN k2),(75,.bool q7)] [Pr.R a0 d2,d7,d6,d5,Pr.A b3 (ob3+k2*9) d3,Pr.R x2 d3,Pr.S x2.Expr.Args (.slice A4 n4 c4)] [It.B b1 47 d2,It.B b4 60 d3] ?_ fun σ w16 H=>?_
        ·refine jB hm5 (fun _ hm5=>?_) fun _ hm5=>?_
         ·exact (O) ((O) ((O) ((O) ((O) ((T) (Z (C1 hm5)))))))
         ·refine (G) ((D 2) ((G) ?_))
          refine WL.ev rfl rfl (Ev.lda rfl ag58 sz58 rfl (Blk.part (H.rB (i:=1) rfl) 2 7) rfl) ((G) ((V) ((G) ?_)))
          refine (bb hm5 fun y6 hy6 hm5=>?_)
          exact (CA ok158 (z0P hy6 (q0b.2 ⟨_,rfl,hI2,hI3,hI4,hI5,hS5,hS6,(rs H 6)⟩) hl1)) (cE H fun w15 H=>(G) ((N) ((U) (Z (C1 hm5)))))
        ·refine Z (iB hb2 (fun _ hb2=>?_) fun _ hb2=>?_)
         ·exact R ((A) (Z (W2 hb2 ht2 hr)))
         ·exact K (X ((V) ((AN hk4 hl3) ((A) (Z (I2 hb2 hs2 ⟨k2+1,(),()⟩))))))
      ·refine CE (Y (R ((A) (Z ?_))))
       refine (bb hr fun q8 hq3 hr=>?_)
       refine (lF hq3 (fun k3 _ _=>[(1,pB b1),(3,zN a0.Right.length),(7,zN k3)]) (fun _ _ w=>HL F0 [] w0 w d4 [It.B b1 47 d2]) ()) ?_
       rintro k3 _ _ σ w17 hk5 hq3 H
       refine Y (R ((V) ((D 5) ((L H 0) ((NI H 3) fun hl4=>(B) (Z ?_))))))
       refine (iF hq3 hr (fun hk6 x3 z3 hx3 hb3 hs3 ht3=>?_) fun hr=>?_)
       ·refine K (Y ?_)
        refine CW.block (R ((D 5) ((L H 0) ((V) ?_))))
        obtain⟨b5,ob5,cb5,A5,n5,c5,A6,n6,c6,hvb5,hS7,hS8,hI6,hI7,hI8,hI9,hS9,hS10,hI10,hI11,hI12,hI13,hS11,hS12,H⟩:=q3i H (i:=3) rfl hx3
        refine (J 16 hvb5 hx3) ((LA H 4) ((AH ze111 H) fun b6 w18 H=>(SB H 1) fun w19 H=>Z (R ((D 0) ((L H 1) ?_)))))
        refine (bb hb3 fun y7 hy7 hb3=>?_)
        refine (CA ok156 (q1n hy7 (F0:=fun _=>False) hS7)) (cE H fun w20 H=>(N) ?_)
        refine (bb hb3 fun q9 hm6 hb3=>?_)
        let d1:List Value:=[.string x3.Symbol,.string x3.Name,.int .i64 x3.Target.Kind,.int .i64 x3.Target.N,.int .i64 x3.Target.Pos,.int .i64 x3.Target.Type_,.string x3.Target.Symbol,.string x3.Target.Name,.slice A5 n5 c5,.int .i64 x3.Value.Kind,.int .i64 x3.Value.N,.int .i64 x3.Value.Pos,.int .i64 x3.Value.Type_,.string x3.Value.Symbol,.string x3.Value.Name,.slice A6 n6 c6]
        let d8:Pr:=Pr.S x3.Target.Args (.slice A5 n5 c5)
        let d9:Pr:=Pr.S x3.Value.Args (.slice A6 n6 c6)
        refine cu H 6 [(1,pB b1),(3,zN a0.Right.length),(7,zN k3),(8,pB b6),(97,.bool q9)] [Pr.R a0 d2,d7,d6,d5,Pr.A b5 (ob5+k3*16) d1,Pr.R x3 d1,d8,d9] [It.B b1 47 d2,It.B b6 111 d1] ?_ fun σ w22 H=>?_
        ·refine jM hm6 (fun _ hm6=>?_) fun _ hm6=>?_
         ·exact (O) ((O) ((O) ((O) ((T) (Z (C1 hm6))))))
         ·refine (G) ((D 1) ((G) ((L H 1) ((G) ?_))))
          refine (bb hm6 fun y8 hy8 hm6=>?_)
          exact (CA ok156 (q1n hy8 (F0:=fun _=>False) hS8)) (cE H fun w21 H=>(G) ((N) ((U) (Z (C1 hm6)))))
        ·refine (bb hb3 fun q10 hm7 hb3=>?_)
         refine cu H 7 [(1,pB b1),(3,zN a0.Right.length),(7,zN k3),(8,pB b6),(104,.bool q10)] [Pr.R a0 d2,d7,d6,d5,Pr.A b5 (ob5+k3*16) d1,Pr.R x3 d1,d8,d9] [It.B b1 47 d2,It.B b6 111 d1] ?_ fun σ w24 H=>?_
         ·refine jB hm7 (fun _ hm7=>?_) fun _ hm7=>?_
          ·exact (O) ((O) ((O) ((O) ((O) ((T) (Z (C1 hm7)))))))
          ·refine (G) ((D 2) ((G) ?_))
           refine WL.ev rfl rfl (Ev.lda rfl ag58 sz58 rfl (Blk.part (H.rB (i:=1) rfl) 2 7) rfl) ((G) ((V) ((G) ?_)))
           refine (bb hm7 fun y9 hy9 hm7=>?_)
           exact (CA ok158 (z0P hy9 (q0b.2 ⟨_,rfl,hI6,hI7,hI8,hI9,hS9,hS10,(rs H 6)⟩) hl1)) (cE H fun w23 H=>(G) ((N) ((U) (Z (C1 hm7)))))
         ·refine (bb hb3 fun q11 hm8 hb3=>?_)
          refine cu H 7 [(1,pB b1),(3,zN a0.Right.length),(7,zN k3),(111,.bool q11)] [Pr.R a0 d2,d7,d6,d5,Pr.A b5 (ob5+k3*16) d1,Pr.R x3 d1,d8,d9] [It.B b1 47 d2,It.B b6 111 d1] ?_ fun σ w26 H=>?_
          ·refine jB hm8 (fun _ hm8=>?_) fun _ hm8=>?_
           ·exact (O) ((O) ((O) ((O) ((O) ((T) (Z (C1 hm8)))))))
           ·refine (G) ((D 9) ((G) ?_))
            refine WL.ev rfl rfl (Ev.lda rfl ag58 sz58 rfl (Blk.part (H.rB (i:=1) rfl) 9 7) rfl) ((G) ((V) ((G) ?_)))
            refine (bb hm8 fun y10 hy10 hm8=>?_)
            exact (CA ok158 (z0P hy10 (q0b.2 ⟨_,rfl,hI10,hI11,hI12,hI13,hS11,hS12,(rs H 7)⟩) hl1)) (cE H fun w25 H=>(G) ((N) ((U) (Z (C1 hm8)))))
          ·refine Z (iB hb3 (fun _ hb3=>?_) fun _ hb3=>?_)
           ·exact R ((A) (Z (W2 hb3 ht3 hr)))
           ·exact K (X ((V) ((AN hk6 hl4) ((A) (Z (I2 hb3 hs3 ⟨k3+1,(),()⟩))))))
       ·exact CE (R ((A) (Z (W1 hr))))
def q9g:Nat→Symbol→(List ByteArray)→Option (((List ByteArray)) ⊕ Int):=fun k1 x1 s1=>(q4Y x1).bind fun y1=>if y1=true then (q6n s1 x1.Name).bind fun y2=>if y2=true then some (.inr (k1:Int)) else grd (((s1.length:Int)+1)*16≤140737488355328∧(s1.length:Int)+1≤9223372036854775807) <| some (.inl (s1++[x1.Name])) else some (.inr (k1:Int))
def q9h:Nat→Rule→(List ByteArray)→Option (((List ByteArray)) ⊕ Int):=fun k2 x2 s2=>(q5T x2).bind fun y3=>if y3=true then (q6n s2 x2.Name).bind fun y4=>if y4=true then some (.inr (k2:Int)) else grd (((s2.length:Int)+1)*16≤140737488355328∧(s2.length:Int)+1≤9223372036854775807) <| some (.inl (s2++[x2.Name])) else some (.inr (k2:Int))
def z0m (a0:Grammar):Option Int:=(findL q9g 0 a0.Symbols ([]:List ByteArray)).bind <| onr (fun r1=>some r1) fun s1=>(findL q9h 0 a0.Rules ([]:List ByteArray)).bind <| onr (fun r2=>some r2) fun s2=>some (-1)
theorem z7d {a0}{r}(hr:z0m a0=some r){ca0}(ha0:rd F0 w0 a0 ca0):RT 95 #[.agg ca0.toArray] w0 fun v w=>v = .int .i64 r∧I64 r:=by
 have H:=(HL.start F0 w0).argR ha0
 obtain⟨A1,n1,c1,A2,n2,c2,rfl,H⟩:=q0e H (i:=0) rfl
 refine (En Tryz.func95) ?_
 refine R ((BX H) fun b1 w1 H=>(A) (Z (R ?_)))
 refine WL.lit0H (α:=ByteArray) rfl rfl rfl el43 sz9 H fun A3 n3 c3 w2 H=>(A) (Z (Y (R ((A) (Z ?_)))))
 refine (bb hr fun q1 hq1 hr=>?_)
 let d1:List Value:=[.slice A1 n1 c1,.slice A2 n2 c2]
 let d2:Pr:=Pr.S a0.Symbols (.slice A1 n1 c1)
 let d3:Pr:=Pr.S a0.Rules (.slice A2 n2 c2)
 refine (lF hq1 (fun k1 s1 v1=>[(1,pB b1),(3,v1),(4,zN k1)]) (fun s1 v1 w=>HL F0 [] w0 w [Pr.R a0 d1,d2,d3] [It.B b1 31 d1,It.O 9 s1 v1]) (.slice A3 n3 c3)) ?_
 rintro k1 s1 v1 σ w3 hk1 hq1 H
 obtain⟨A4,n4,c4,rfl⟩:=(H.rO (i:=1) rfl).form3
 refine Y (R ((V) ((D 0) ((L H 0) ((NI H 1) fun hl1=>(B) (Z ?_))))))
 refine (iF hq1 hr (fun hk2 x1 z1 hx1 hb1 hs1 ht1=>?_) fun hr=>?_)
 ·refine K (Y ?_)
  refine CW.block (Y (R ((D 0) ((L H 0) ((V) ?_)))))
  obtain⟨b2,ob2,cb2,A5,n5,c5,hvb2,hS1,H⟩:=q2w H (i:=1) rfl hx1
  refine (J 2 hvb2 hx1) ((LA H 3) ?_)
  refine (bb hb1 fun y1 hy1 hb1=>?_)
  refine (CA ok121 (z0O hy1 ⟨_,rfl,hS1,(rs H 5)⟩)) (cE H fun w4 H=>(N) (jM hb1 (fun _ hb1=>?_) fun _ hb1=>?_))
  ·exact (O) ((O) ((O) ((O) ((O) ((O) ((O) ((O) ((T) (Z ((cT) (R ((V) ((A) (Z (W2 hb1 ht1 hr)))))))))))))))
  ·refine (G) ((V) ((G) ((D 0) ((G) ((L H 0) ((G) ((V) ((G) ((J 2 hvb2 hx1) ((G) ((D 0) ((G) ((LC H 3) ((G) ?_))))))))))))))
   refine (bb hb1 fun y2 hy2 hb1=>?_)
   refine (CA ok122 (z0g hy2 (ro H 1) hS1)) (cE H fun w5 H=>(U) (Z (iB hb1 (fun _ hb1=>?_) fun _ hb1=>?_)))
   ·refine Y ?_
    refine CW.fresh [(4,zN k1)] ⟨rfl,trivial⟩ fun σ=>?_
    have H:HL F0 [] w0 w5 [Pr.R a0 d1,d2,d3,Pr.A b2 (ob2+k1*2) [.string x1.Name,.slice A5 n5 c5],Pr.R x1 [.string x1.Name,.slice A5 n5 c5],Pr.S x1.Attributes (.slice A5 n5 c5)] [It.B b1 31 d1,It.O 9 s1 (.slice A4 n4 c4)]:=H
    exact X ((V) ((A) (Z (W2 hb1 ht1 hr))))
   ·refine K ?_
    refine CW.fresh [(1,pB b1),(3,.slice A4 n4 c4),(4,zN k1),(22,.slice A4 n4 c4),(23,.pointer (some ⟨b1,0+0,none⟩)),(24,.slice A1 n1 c1),(25,zN k1),(26,.pointer (some ⟨b2,ob2+k1*2,none⟩)),(27,.pointer (some ⟨b2,ob2+k1*2+0,none⟩)),(28,.string x1.Name),(29,.bool y2)] ⟨rfl,rfl,rfl,rfl,rfl,rfl,rfl,rfl,rfl,rfl,rfl,trivial⟩ fun σ=>?_
    have H:HL F0 [] w0 w5 [Pr.R a0 d1,d2,d3,Pr.A b2 (ob2+k1*2) [.string x1.Name,.slice A5 n5 c5],Pr.R x1 [.string x1.Name,.slice A5 n5 c5],Pr.S x1.Attributes (.slice A5 n5 c5)] [It.B b1 31 d1,It.O 9 s1 (.slice A4 n4 c4)]:=H
    refine X ((V) ((D 0) ((L H 0) ((V) ((J 2 hvb2 hx1) ((D 0) ((LC H 3) ?_)))))))
    refine WL.lit1 rfl rfl rfl el43 sz9 ze9 rfl rfl rfl rfl rfl rfl fun b3 w6 hE hb hB=>?_
    have H:=H.newB hE hb hB
    refine (gg hb1 fun hg1 hb1=>?_)
    exact WL.appO (i:=1) (ys:=[x1.Name]) rfl rfl rfl el43 sz9 by9 ze9 rfl rfl rfl H rfl (fun _=>ownL.single ⟨rfl,rfl,hS1⟩) (.inr ⟨_,_,rfl,At.blk (H.rB (i:=2) rfl)⟩) hg1 fun A6 n6 c6 w7 H=>(A) (Z (X ((V) ((AN hk2 hl1) ((A) (Z (I2 hb1 hs1 ⟨k1+1,(s1++[x1.Name]),(.slice A6 n6 c6)⟩)))))))
 ·refine CE (R ?_)
  refine WL.lit0H (α:=ByteArray) rfl rfl rfl el43 sz9 H fun A7 n7 c7 w8 H=>(A) (Z (Y (R ((A) (Z ?_)))))
  refine (bb hr fun q2 hq2 hr=>?_)
  let d6:It:=It.O 9 s1 (.slice A4 n4 c4)
  refine (lF hq2 (fun k2 s2 v2=>[(1,pB b1),(3,v2),(5,zN k2)]) (fun s2 v2 w=>HL F0 [] w0 w [Pr.R a0 d1,d2,d3] [It.B b1 31 d1,d6,It.O 9 s2 v2]) (.slice A7 n7 c7)) ?_
  rintro k2 s2 v2 σ w9 hk3 hq2 H
  obtain⟨A8,n8,c8,rfl⟩:=(H.rO (i:=2) rfl).form3
  refine Y (R ((V) ((D 1) ((L H 0) ((NI H 2) fun hl2=>(B) (Z ?_))))))
  refine (iF hq2 hr (fun hk4 x2 z2 hx2 hb2 hs2 ht2=>?_) fun hr=>?_)
  ·refine K (Y ?_)
   refine CW.block (Y (R ((D 1) ((L H 0) ((V) ?_)))))
   obtain⟨b4,ob4,cb4,A9,n9,c9,A10,n10,c10,A11,n11,c11,hvb4,hS2,hS3,H⟩:=q4W H (i:=2) rfl hx2
   refine (J 6 hvb4 hx2) ((LA H 3) ?_)
   refine (bb hb2 fun y3 hy3 hb2=>?_)
   refine (CA ok123 (z2k hy3 ⟨_,_,_,rfl,hS2,hS3,(rs H 5),(rs H 6),(rs H 7)⟩)) (cE H fun w10 H=>(N) (jM hb2 (fun _ hb2=>?_) fun _ hb2=>?_))
   ·exact (O) ((O) ((O) ((O) ((O) ((O) ((O) ((O) ((T) (Z ((cT) (R ((V) ((A) (Z (W2 hb2 ht2 hr)))))))))))))))
   ·refine (G) ((V) ((G) ((D 1) ((G) ((L H 0) ((G) ((V) ((G) ((J 6 hvb4 hx2) ((G) ((D 0) ((G) ((LC H 3) ((G) ?_))))))))))))))
    refine (bb hb2 fun y4 hy4 hb2=>?_)
    refine (CA ok122 (z0g hy4 (ro H 2) hS2)) (cE H fun w11 H=>(U) (Z (iB hb2 (fun _ hb2=>?_) fun _ hb2=>?_)))
    ·refine Y ?_
     refine CW.fresh [(5,zN k2)] ⟨rfl,trivial⟩ fun σ=>?_
     let d4:List Value:=[.string x2.Name,.string x2.Left,.slice A9 n9 c9,.bool x2.Literal,.slice A10 n10 c10,.slice A11 n11 c11]
     have H:HL F0 [] w0 w11 [Pr.R a0 d1,d2,d3,Pr.A b4 (ob4+k2*6) d4,Pr.R x2 d4,Pr.S x2.Right (.slice A9 n9 c9),Pr.S x2.Equations (.slice A10 n10 c10),Pr.S x2.Contributions (.slice A11 n11 c11)] [It.B b1 31 d1,d6,It.O 9 s2 (.slice A8 n8 c8)]:=H
     exact X ((V) ((A) (Z (W2 hb2 ht2 hr))))
    ·refine K ?_
     refine CW.fresh [(1,pB b1),(3,.slice A8 n8 c8),(5,zN k2),(57,.slice A8 n8 c8),(58,.pointer (some ⟨b1,0+1,none⟩)),(59,.slice A2 n2 c2),(60,zN k2),(61,.pointer (some ⟨b4,ob4+k2*6,none⟩)),(62,.pointer (some ⟨b4,ob4+k2*6+0,none⟩)),(63,.string x2.Name),(64,.bool y4)] ⟨rfl,rfl,rfl,rfl,rfl,rfl,rfl,rfl,rfl,rfl,rfl,trivial⟩ fun σ=>?_
     let d5:List Value:=[.string x2.Name,.string x2.Left,.slice A9 n9 c9,.bool x2.Literal,.slice A10 n10 c10,.slice A11 n11 c11]
     have H:HL F0 [] w0 w11 [Pr.R a0 d1,d2,d3,Pr.A b4 (ob4+k2*6) d5,Pr.R x2 d5,Pr.S x2.Right (.slice A9 n9 c9),Pr.S x2.Equations (.slice A10 n10 c10),Pr.S x2.Contributions (.slice A11 n11 c11)] [It.B b1 31 d1,d6,It.O 9 s2 (.slice A8 n8 c8)]:=H
     refine X ((V) ((D 1) ((L H 0) ((V) ((J 6 hvb4 hx2) ((D 0) ((LC H 3) ?_)))))))
     refine WL.lit1 rfl rfl rfl el43 sz9 ze9 rfl rfl rfl rfl rfl rfl fun b5 w12 hE hb hB=>?_
     have H:=H.newB hE hb hB
     refine (gg hb2 fun hg2 hb2=>?_)
     exact WL.appO (i:=2) (ys:=[x2.Name]) rfl rfl rfl el43 sz9 by9 ze9 rfl rfl rfl H rfl (fun _=>ownL.single ⟨rfl,rfl,hS2⟩) (.inr ⟨_,_,rfl,At.blk (H.rB (i:=3) rfl)⟩) hg2 fun A12 n12 c12 w13 H=>(A) (Z (X ((V) ((AN hk4 hl2) ((A) (Z (I2 hb2 hs2 ⟨k2+1,(s2++[x2.Name]),(.slice A12 n12 c12)⟩)))))))
  ·exact CE (R ((A) (Z (W1 hr))))
def q4N (a0:Grammar)(a1:Rule):Int→Option (Int ⊕ (Unit ⊕ Bool)):=fun s1=>if s1≤(a1.Right.length:Int) then (q1V a1 s1).bind fun y1=>(q1I a0 y1).bind fun (y2,y3)=>if y3=true then grd (I64 (s1+1)) <| some (.inl (s1+1)) else some (.inr (.inr false)) else some (.inr (.inl ()))
def q6p (a0:Grammar)(a1:Rule):Option Bool:=( iterO (q4N a0 a1) 0 ).bind <| onr (fun r1=>some r1) fun ()=>some true
theorem z3b {a0}{a1}{r}(hr:q6p a0 a1=some r){ca0}(ha0:rd F0 w0 a0 ca0){ca1}(ha1:rd F0 w0 a1 ca1):RT 124 #[.agg ca0.toArray,.agg ca1.toArray] w0 fun v w=>v = .bool r:=by
 have H:=((HL.start F0 w0).argR ha0).argR ha1
 obtain⟨A1,n1,c1,A2,n2,c2,rfl,H⟩:=q0e H (i:=0) rfl
 obtain⟨A3,n3,c3,A4,n4,c4,A5,n5,c5,rfl,hS1,hS2,H⟩:=q0z H (i:=1) rfl
 refine (En Tryz.func124) ?_
 refine R ((BX H) fun b1 w1 H=>(BX H) fun b2 w2 H=>(A) (Z (Y (R ((A) (Z ?_))))))
 refine (bb hr fun q1 hm1 hr=>?_)
 let d2:List Value:=[.string a1.Name,.string a1.Left,.slice A3 n3 c3,.bool a1.Literal,.slice A4 n4 c4,.slice A5 n5 c5]
 let d3:List Value:=[.slice A1 n1 c1,.slice A2 n2 c2]
 let d1:List Pr:=[Pr.R a0 d3,Pr.R a1 d2,Pr.S a0.Symbols (.slice A1 n1 c1),Pr.S a0.Rules (.slice A2 n2 c2),Pr.S a1.Right (.slice A3 n3 c3),Pr.S a1.Equations (.slice A4 n4 c4),Pr.S a1.Contributions (.slice A5 n5 c5)]
 refine CW.mid (fun ρ' w=>q1 = .inl ()∧agree ρ' []∧HL F0 [] w0 w d1 [It.B b1 31 d3,It.B b2 47 d2]) ?_ ?_
 ·obtain⟨m1,hq1⟩:=q2m.1 hm1
  refine (lI hq1 (fun m1 s1 _=>[(2,pB b1),(3,pB b2),(5,.int .i64 s1)]) (fun s1 _ w=>I64 s1∧HL F0 [] w0 w d1 [It.B b1 31 d3,It.B b2 47 d2]) ()) ?_
  rintro m1 s1 _ σ w3 hq1 ⟨hI1,H⟩
  obtain⟨m2,z1,rfl,hb1,hs1,ht1⟩:=q4S hq1
  refine Y (R ((V) ((D 2) ((L H 1) ((NI H 4) fun hl1=>(B) (Z (iD hb1 (fun h1 hb1=>?_) fun _ hb1=>?_)))))))
  ·refine K ?_
   refine (bb hb1 fun y1 hy1 hb1=>?_)
   obtain⟨_,_,_,hS3⟩:=(q1C hy1 ⟨_,_,_,rfl,hS1,hS2,(rs H 4),(rs H 5),(rs H 6)⟩ hI1).get
   obtain⟨⟨y2,y3⟩,hy2,hb1⟩:=bd hb1
   refine Y ?_
   refine CW.block (Y ?_)
   refine CW.any2 10 (fun ρ=>[.fix (.agg #[.slice A1 n1 c1,.slice A2 n2 c2]),.fix (.agg #[.string a1.Name,.string a1.Left,.slice A3 n3 c3,.bool a1.Literal,.slice A4 n4 c4,.slice A5 n5 c5]),.fix (.int .i64 s1),.fix (.string y1),.free (fun S v w=>∃ A6:Option Addr,∃ n6:Nat,∃ c6:Nat,v = .tuple #[.agg #[.string y2.Name,.slice A6 n6 c6],.bool y3]∧y2.Name.size≤9223372036854775807∧NewI S w [It.O 41 y2.Attributes (.slice A6 n6 c6)]),.dep 20 id,.dep 15 (tupAt 0),.dep 15 (tupAt 1),.free (VarB 39 2),.wr 6 21 (WrB 39)]) [[],[],[],[],[],[20],[15],[15],[],[6,21]] NoM (fun _ _=>True) [] [none,none,none,none,none,none,none,none,none,some 8] (noM _) hmix (by kernel_rfl) rfl ⟨trivial,trivial,trivial,trivial,fun _ _ _ _ _ ⟨A6,n6,c6,hv,h0,hh⟩ hc hS hT=>⟨A6,n6,c6,hv,h0,hh.chgT hc hS⟩,trivial,trivial,trivial,fun _ _ _ _ _ h hc hS _=>h.chgT hc hS,fun _ _ _ _ _ _ h hc hS _=>h.chgT hc hS,trivial⟩ trivial (fun _ _ _ _ _ _ _=>trivial) ?_
   refine LL2.fx rfl rfl rfl rfl rfl (fun _ hq hK=>Ev.lda rfl ag31 sz31 rfl (At.blk ((H.ext hq).rB (i:=0) rfl)) rfl) ?_
   refine LL2.fx rfl rfl rfl rfl rfl (fun _ hq hK=>Ev.lda rfl ag47 sz47 rfl (At.blk ((H.ext hq).rB (i:=1) rfl)) rfl) ?_
   refine LL2.fx rfl rfl rfl rfl rfl (fun _ hq hK=>Ev.mv rfl rfl) ?_
   refine LL2.fixed rfl rfl rfl rfl (fun _ hq hK=>OpX.call rfl rfl rfl rfl ok56 rfl (q1C hy1 ⟨_,_,_,rfl,hS1,hS2,(rs (H.ext hq) 4),(rs (H.ext hq) 5),(rs (H.ext hq) 6)⟩ hI1) fun _ _ hE h=>⟨hE,h.1⟩) ?_
   refine LL2.free rfl rfl rfl rfl (fun wq hq hK=>?_) (fun v_G1_4 S_G1_4=>?_)
   ·refine OpX.call rfl rfl rfl rfl ok55 rfl (q3p hy2 ⟨_,_,rfl,(rs (H.ext hq) 2),(rs (H.ext hq) 3)⟩ hS3) ?_
    rintro _ w hE ⟨A6,n6,c6,rfl,h0,hh⟩
    exact⟨hE,A6,n6,c6,rfl,h0,NewI.of hh ⟨fun _ _ _ _ _ h=>h,trivial⟩⟩
   refine LL2.mv rfl rfl rfl rfl rfl (.inl rfl) rfl ?_
   refine LL2.ex rfl rfl rfl rfl rfl rfl rfl (fun wq hq hK=>?_) ?_
   ·have hK:∀ j' (_:(q0g _).contains j'=true),_:=hK 5 rfl
    obtain⟨A6,n6,c6,rfl,_,_⟩:=hK 4 rfl
    exact⟨_,_,rfl,rfl⟩
   refine LL2.ex rfl rfl rfl rfl rfl rfl rfl (fun wq hq hK=>?_) ?_
   ·have hK:∀ j' (_:(q0g _).contains j'=true),_:=hK 5 rfl
    obtain⟨A6,n6,c6,rfl,_,_⟩:=hK 4 rfl
    exact⟨_,_,rfl,rfl⟩
   refine LL2.free rfl rfl rfl rfl (fun wq hq hK=>OpX.allocV rfl rfl ze39 rfl) (fun v_G1_8 S_G1_8=>?_)
   refine LL2.st (k:=2) rfl rfl rfl (by decide) rfl rfl rfl rfl sz39 rfl rfl (fun wq hq hK=>hK 8 rfl) (fun wq hq hK=>?_) ?_
   ·obtain⟨A6,n6,c6,rfl,_,_⟩:=hK 4 rfl
    exact⟨_,rfl,rfl,(all1 rfl (all1 rfl all0))⟩
   intro w4 hE _ hK hap hbd
   have hE:=chgNew hE
   obtain⟨A6,n6,c6,rfl,hS4,hN1⟩:=hK 4 (by decide)
   obtain⟨b3,rfl,hN2⟩:=wrNew (cells:=[.string y2.Name,.slice A6 n6 c6]) (hK 8 (by decide)) (hK 9 (by decide)) rfl
   have H:=H.add hE (hN1.app hN2 fun q h1 h2=>absurd (hap 4 8 q h1 h2) (by decide)) ⟨fun _ _ _ _ _ h=>h,⟨fun _ _ _ _ _ h=>h,trivial⟩⟩ (fun q hq=>hq.elim (fun h=>(hbd 4 q h).1) fun h=>(hbd 8 q h).1)
   refine (A) (Z (R ((V) ((N) (Z (iM hb1 (fun _ hb1=>?_) fun _ hb1=>?_))))))
   ·exact R ((A) (Z (W2 hb1 ht1 hr)))
   ·refine K (X ((V) ?_))
    exact (gg hb1 fun hg1 hb1=>(BN (Bin.add hg1)) ((A) (Z (I2 hb1 hs1 ⟨m2,(s1+1),()⟩))))
  ·exact CE (C2 hb1 ht1)
 ·rintro ρ' w5 ⟨rfl,hag,H⟩
  obtain⟨σ,rfl⟩:=ofL_ex hag
  exact R ((A) (Z (W1 hr)))
def q3N (s3:Int):Nat→Attribute→(List Occurrence)→Option (List Occurrence):=fun k1 x1 s5=>( if x1.Mode=2 then grd (((s5.length:Int)+1)*24≤140737488355328∧(s5.length:Int)+1≤9223372036854775807) <| some (s5++[(⟨s3,x1.Name⟩:Occurrence)]) else some s5 ).bind fun s6=>some s6
def q3O (s3:Int):Nat→Attribute→(List Occurrence)→Option (List Occurrence):=fun k2 x2 s7=>( if x2.Mode=1 then grd (((s7.length:Int)+1)*24≤140737488355328∧(s7.length:Int)+1≤9223372036854775807) <| some (s7++[(⟨s3,x2.Name⟩:Occurrence)]) else some s7 ).bind fun s8=>some s8
def q1W (a0:Grammar)(a1:Rule):((List Occurrence) × Int)→Option (((List Occurrence) × Int) ⊕ (List Occurrence)):=fun (s2,s3)=>if s3≤(a1.Right.length:Int) then ( (q1V a1 s3).bind fun y1=>(q1I a0 y1).bind fun (y2,y3)=>if s3=0 then (eachL (q3N s3) 0 y2.Attributes s2).bind fun s5=>some s5 else (eachL (q3O s3) 0 y2.Attributes s2).bind fun s7=>some s7 ).bind fun s4=>grd (I64 (s3+1)) <| some (.inl (s4,(s3+1))) else some (.inr s2)
def q2g (a0:Grammar)(a1:Rule):Option (List Occurrence):=( iterO (q1W a0 a1) (([]:List Occurrence),0) ).bind fun s1=>some s1
theorem q5n {a0}{a1}{r}(hr:q2g a0 a1=some r){ca0}(ha0:rd F0 w0 a0 ca0){ca1}(ha1:rd F0 w0 a1 ca1):RT 159 #[.agg ca0.toArray,.agg ca1.toArray] w0 fun v w=>∃ A0 n0 c0,v=(.slice A0 n0 c0)∧HL F0 [] w0 w [] [It.O 55 r (.slice A0 n0 c0)]:=by
 have H:=((HL.start F0 w0).argR ha0).argR ha1
 obtain⟨A1,n1,c1,A2,n2,c2,rfl,H⟩:=q0e H (i:=0) rfl
 obtain⟨A3,n3,c3,A4,n4,c4,A5,n5,c5,rfl,hS1,hS2,H⟩:=q0z H (i:=1) rfl
 refine (En Tryz.func159) ?_
 refine R ((BX H) fun b1 w1 H=>(BX H) fun b2 w2 H=>(A) (Z (R ?_)))
 refine WL.lit0H (α:=Occurrence) rfl rfl rfl el52 sz55 H fun A6 n6 c6 w3 H=>(A) (Z (Y (R ((A) (Z ?_)))))
 refine (bb hr fun q1 hm1 hr=>?_)
 let d2:List Value:=[.string a1.Name,.string a1.Left,.slice A3 n3 c3,.bool a1.Literal,.slice A4 n4 c4,.slice A5 n5 c5]
 let d1:List Pr:=[Pr.R a0 [.slice A1 n1 c1,.slice A2 n2 c2],Pr.R a1 d2,Pr.S a0.Symbols (.slice A1 n1 c1),Pr.S a0.Rules (.slice A2 n2 c2),Pr.S a1.Right (.slice A3 n3 c3),Pr.S a1.Equations (.slice A4 n4 c4),Pr.S a1.Contributions (.slice A5 n5 c5)]
 let d3:It:=It.B b1 31 [.slice A1 n1 c1,.slice A2 n2 c2]
 refine CW.mid (fun ρ' w=>∃ (s1:List Occurrence) (v1:Value),s1=q1∧agree ρ' [(5,v1)]∧HL F0 [] w0 w d1 [d3,It.B b2 47 d2,It.O 55 s1 v1]) ?_ ?_
 ·obtain⟨m1,hq1⟩:=q2m.1 hm1
  refine (lI hq1 (fun m1 ⟨s2,s3⟩ v2=>[(2,pB b1),(3,pB b2),(5,v2),(6,.int .i64 s3)]) (fun ⟨s2,s3⟩ v2 w=>I64 s3∧HL F0 [] w0 w d1 [d3,It.B b2 47 d2,It.O 55 s2 v2]) (.slice A6 n6 c6)) ?_
  rintro m1 ⟨s2,s3⟩ v2 σ w4 hq1 ⟨hI1,H⟩
  obtain⟨A7,n7,c7,rfl⟩:=(H.rO (i:=2) rfl).form3
  obtain⟨m2,z1,rfl,hb1,hs1,ht1⟩:=q4S hq1
  refine Y (R ((V) ((D 2) ((L H 1) ((NI H 4) fun hl1=>(B) (Z (iD hb1 (fun h1 hb1=>?_) fun _ hb1=>?_)))))))
  ·refine K ?_
   refine (bb hb1 fun q2 hm2 hb1=>Y ?_)
   refine CW.mid (fun ρ' w=>∃ (s4:List Occurrence) (v3:Value),s4=q2∧agree ρ' [(2,pB b1),(3,pB b2),(5,v3),(6,.int .i64 s3)]∧HL F0 [] w0 w d1 [d3,It.B b2 47 d2,It.O 55 s4 v3]) ?_ ?_
   ·refine (bb hm2 fun y1 hy1 hm2=>?_)
    obtain⟨_,_,_,hS3⟩:=(q1C hy1 ⟨_,_,_,rfl,hS1,hS2,(rs H 4),(rs H 5),(rs H 6)⟩ hI1).get
    obtain⟨⟨y2,y3⟩,hy2,hm2⟩:=bd hm2
    refine CW.block (Y ?_)
    refine CW.any2 10 (fun ρ=>[.fix (.agg #[.slice A1 n1 c1,.slice A2 n2 c2]),.fix (.agg #[.string a1.Name,.string a1.Left,.slice A3 n3 c3,.bool a1.Literal,.slice A4 n4 c4,.slice A5 n5 c5]),.fix (.int .i64 s3),.fix (.string y1),.free (fun S v w=>∃ A8:Option Addr,∃ n8:Nat,∃ c8:Nat,v = .tuple #[.agg #[.string y2.Name,.slice A8 n8 c8],.bool y3]∧y2.Name.size≤9223372036854775807∧NewI S w [It.O 41 y2.Attributes (.slice A8 n8 c8)]),.dep 24 id,.dep 19 (tupAt 0),.dep 19 (tupAt 1),.free (VarB 39 2),.wr 7 25 (WrB 39)]) [[],[],[],[],[],[24],[19],[19],[],[7,25]] NoM (fun _ _=>True) [] [none,none,none,none,none,none,none,none,none,some 8] (noM _) hmix (by kernel_rfl) rfl ⟨trivial,trivial,trivial,trivial,fun _ _ _ _ _ ⟨A8,n8,c8,hv,h0,hh⟩ hc hS hT=>⟨A8,n8,c8,hv,h0,hh.chgT hc hS⟩,trivial,trivial,trivial,fun _ _ _ _ _ h hc hS _=>h.chgT hc hS,fun _ _ _ _ _ _ h hc hS _=>h.chgT hc hS,trivial⟩ trivial (fun _ _ _ _ _ _ _=>trivial) ?_
    refine LL2.fx rfl rfl rfl rfl rfl (fun _ hq hK=>Ev.lda rfl ag31 sz31 rfl (At.blk ((H.ext hq).rB (i:=0) rfl)) rfl) ?_
    refine LL2.fx rfl rfl rfl rfl rfl (fun _ hq hK=>Ev.lda rfl ag47 sz47 rfl (At.blk ((H.ext hq).rB (i:=1) rfl)) rfl) ?_
    refine LL2.fx rfl rfl rfl rfl rfl (fun _ hq hK=>Ev.mv rfl rfl) ?_
    refine LL2.fixed rfl rfl rfl rfl (fun _ hq hK=>OpX.call rfl rfl rfl rfl ok56 rfl (q1C hy1 ⟨_,_,_,rfl,hS1,hS2,(rs (H.ext hq) 4),(rs (H.ext hq) 5),(rs (H.ext hq) 6)⟩ hI1) fun _ _ hE h=>⟨hE,h.1⟩) ?_
    refine LL2.free rfl rfl rfl rfl (fun wq hq hK=>?_) (fun v_G1_4 S_G1_4=>?_)
    ·refine OpX.call rfl rfl rfl rfl ok55 rfl (q3p hy2 ⟨_,_,rfl,(rs (H.ext hq) 2),(rs (H.ext hq) 3)⟩ hS3) ?_
     rintro _ w hE ⟨A8,n8,c8,rfl,h0,hh⟩
     exact⟨hE,A8,n8,c8,rfl,h0,NewI.of hh ⟨fun _ _ _ _ _ h=>h,trivial⟩⟩
    refine LL2.mv rfl rfl rfl rfl rfl (.inl rfl) rfl ?_
    refine LL2.ex rfl rfl rfl rfl rfl rfl rfl (fun wq hq hK=>?_) ?_
    ·have hK:∀ j' (_:(q0g _).contains j'=true),_:=hK 5 rfl
     obtain⟨A8,n8,c8,rfl,_,_⟩:=hK 4 rfl
     exact⟨_,_,rfl,rfl⟩
    refine LL2.ex rfl rfl rfl rfl rfl rfl rfl (fun wq hq hK=>?_) ?_
    ·have hK:∀ j' (_:(q0g _).contains j'=true),_:=hK 5 rfl
     obtain⟨A8,n8,c8,rfl,_,_⟩:=hK 4 rfl
     exact⟨_,_,rfl,rfl⟩
    refine LL2.free rfl rfl rfl rfl (fun wq hq hK=>OpX.allocV rfl rfl ze39 rfl) (fun v_G1_8 S_G1_8=>?_)
    refine LL2.st (k:=2) rfl rfl rfl (by decide) rfl rfl rfl rfl sz39 rfl rfl (fun wq hq hK=>hK 8 rfl) (fun wq hq hK=>?_) ?_
    ·obtain⟨A8,n8,c8,rfl,_,_⟩:=hK 4 rfl
     exact⟨_,rfl,rfl,(all1 rfl (all1 rfl all0))⟩
    intro w5 hE _ hK hap hbd
    have hE:=chgNew hE
    obtain⟨A8,n8,c8,rfl,hS4,hN1⟩:=hK 4 (by decide)
    let d4:List Value:=[.string y2.Name,.slice A8 n8 c8]
    obtain⟨b3,rfl,hN2⟩:=wrNew (cells:=d4) (hK 8 (by decide)) (hK 9 (by decide)) rfl
    have H:=H.add hE (hN1.app hN2 fun q h1 h2=>absurd (hap 4 8 q h1 h2) (by decide)) ⟨fun _ _ _ _ _ h=>h,⟨fun _ _ _ _ _ h=>h,trivial⟩⟩ (fun q hq=>hq.elim (fun h=>(hbd 4 q h).1) fun h=>(hbd 8 q h).1)
    refine (A) (Z (R ((A) (Z (Y (R ((V) ((B) (Z (iD hm2 (fun _ hm2=>?_) fun _ hm2=>?_))))))))))
    ·refine X ((A) (Z (R ((A) (Z ?_)))))
     refine (bb hm2 fun q3 hq2 hm2=>?_)
     refine (lE hq2 (fun k1 s5 v4=>[(2,pB b1),(3,pB b2),(5,v4),(6,.int .i64 s3),(7,pB b3),(9,.int .i64 2),(10,zN k1)]) (fun s5 v4 w=>HL F0 [] w0 w d1 [d3,It.B b2 47 d2,It.O 55 s5 v4,It.O 41 y2.Attributes (.slice A8 n8 c8),It.B b3 39 d4]) (.slice A7 n7 c7)) ?_
     rintro k1 s5 v4 σ w6 hk1 hq2 H
     obtain⟨A9,n9,c9,rfl⟩:=(H.rO (i:=2) rfl).form3
     refine Y (R ((V) ((D 1) ((L H 4) ?_))))
     have hl2:=(H.rO (i:=3) rfl).I
     refine (NN (ro H 3)) ((B) (Z ?_))
     refine (iE hq2 (fun hk2 x1 z2 hx1 hb2 hq2=>?_) fun e=>?_)
     ·refine K ?_
      refine (bb hb2 fun q4 hm3 hb2=>Y ?_)
      refine CW.mid (fun ρ' w=>∃ (s6:List Occurrence) (v5:Value),s6=q4∧agree ρ' [(2,pB b1),(3,pB b2),(5,v5),(6,.int .i64 s3),(7,pB b3),(9,.int .i64 2),(10,zN k1)]∧HL F0 [] w0 w d1 [d3,It.B b2 47 d2,It.O 55 s6 v5,It.O 41 y2.Attributes (.slice A8 n8 c8),It.B b3 39 d4]) ?_ ?_
      ·refine CW.block (R ((D 1) ((L H 4) ((V) ?_))))
       obtain⟨b4,cb4,hvb4,hbb4⟩:=H.ptO (i:=3) rfl hx1
       refine (J 4 hvb4 hx1) ((D 2) ?_)
       obtain⟨hA1,hS5,hI2,hI3,H⟩:=q2p H (i:=3) rfl hx1 hbb4
       refine (LT hA1) ((V) ((B) (Z (iD hm3 (fun _ hm3=>?_) fun _ hm3=>?_))))
       ·refine X ((V) ((V) ((D 1) ((L H 4) ((V) ?_)))))
        obtain⟨b5,cb5,hvb5,hbb5⟩:=H.ptO (i:=3) rfl hx1
        refine (J 4 hvb5 hx1) ((D 0) ?_)
        obtain⟨hA2,hS6,hI4,hI5,H⟩:=q2p H (i:=3) rfl hx1 hbb5
        refine (LT hA2) ?_
        refine WL.ev rfl rfl (Ev.build rfl pl55 ze55 rfl rfl rfl rfl) ?_
        refine WL.lit1 rfl rfl rfl el52 sz55 ze55 rfl rfl rfl rfl rfl rfl fun b6 w7 hE hb hB=>?_
        have H:=H.newB hE hb hB
        refine (gg hm3 fun hg1 hm3=>?_)
        exact WL.appO (i:=2) (ys:=[(⟨s3,x1.Name⟩:Occurrence)]) rfl rfl rfl el52 sz55 by55 ze55 rfl rfl rfl H rfl (fun _=>ownL.single ⟨rfl,hI1,hS6,rfl⟩) (.inr ⟨_,_,rfl,At.blk (H.rB (i:=5) rfl)⟩) hg1 fun A10 n10 c10 w8 H=>(A) (Z (C1 hm3))
       ·exact K (C1 hm3)
      ·rintro ρ' w9 ⟨s6,v5,rfl,hag,H⟩
       obtain⟨σ,rfl⟩:=ofL_ex hag
       obtain⟨A11,n11,c11,rfl⟩:=(H.rO (i:=2) rfl).form3
       exact X ((V) ((AN hk2 hl2) ((A) (Z (I1 hb2 ⟨k1+1,s6,(.slice A11 n11 c11)⟩)))))
     ·obtain rfl:=e
      exact CE (C1 hm2)
    ·refine K (R ((A) (Z ?_)))
     refine (bb hm2 fun q5 hq3 hm2=>?_)
     refine (lE hq3 (fun k2 s7 v6=>[(2,pB b1),(3,pB b2),(5,v6),(6,.int .i64 s3),(7,pB b3),(9,.int .i64 1),(10,zN k2)]) (fun s7 v6 w=>HL F0 [] w0 w d1 [d3,It.B b2 47 d2,It.O 55 s7 v6,It.O 41 y2.Attributes (.slice A8 n8 c8),It.B b3 39 d4]) (.slice A7 n7 c7)) ?_
     rintro k2 s7 v6 σ w10 hk3 hq3 H
     obtain⟨A12,n12,c12,rfl⟩:=(H.rO (i:=2) rfl).form3
     refine Y (R ((V) ((D 1) ((L H 4) ?_))))
     have hl3:=(H.rO (i:=3) rfl).I
     refine (NN (ro H 3)) ((B) (Z ?_))
     refine (iE hq3 (fun hk4 x2 z3 hx2 hb3 hq3=>?_) fun e=>?_)
     ·refine K ?_
      refine (bb hb3 fun q6 hm4 hb3=>Y ?_)
      refine CW.mid (fun ρ' w=>∃ (s8:List Occurrence) (v7:Value),s8=q6∧agree ρ' [(2,pB b1),(3,pB b2),(5,v7),(6,.int .i64 s3),(7,pB b3),(9,.int .i64 1),(10,zN k2)]∧HL F0 [] w0 w d1 [d3,It.B b2 47 d2,It.O 55 s8 v7,It.O 41 y2.Attributes (.slice A8 n8 c8),It.B b3 39 d4]) ?_ ?_
      ·refine CW.block (R ((D 1) ((L H 4) ((V) ?_))))
       obtain⟨b7,cb7,hvb7,hbb7⟩:=H.ptO (i:=3) rfl hx2
       refine (J 4 hvb7 hx2) ((D 2) ?_)
       obtain⟨hA3,hS7,hI6,hI7,H⟩:=q2p H (i:=3) rfl hx2 hbb7
       refine (LT hA3) ((V) ((B) (Z (iD hm4 (fun _ hm4=>?_) fun _ hm4=>?_))))
       ·refine X ((V) ((V) ((D 1) ((L H 4) ((V) ?_)))))
        obtain⟨b8,cb8,hvb8,hbb8⟩:=H.ptO (i:=3) rfl hx2
        refine (J 4 hvb8 hx2) ((D 0) ?_)
        obtain⟨hA4,hS8,hI8,hI9,H⟩:=q2p H (i:=3) rfl hx2 hbb8
        refine (LT hA4) ?_
        refine WL.ev rfl rfl (Ev.build rfl pl55 ze55 rfl rfl rfl rfl) ?_
        refine WL.lit1 rfl rfl rfl el52 sz55 ze55 rfl rfl rfl rfl rfl rfl fun b9 w11 hE hb hB=>?_
        have H:=H.newB hE hb hB
        refine (gg hm4 fun hg2 hm4=>?_)
        exact WL.appO (i:=2) (ys:=[(⟨s3,x2.Name⟩:Occurrence)]) rfl rfl rfl el52 sz55 by55 ze55 rfl rfl rfl H rfl (fun _=>ownL.single ⟨rfl,hI1,hS8,rfl⟩) (.inr ⟨_,_,rfl,At.blk (H.rB (i:=5) rfl)⟩) hg2 fun A13 n13 c13 w12 H=>(A) (Z (C1 hm4))
       ·exact K (C1 hm4)
      ·rintro ρ' w13 ⟨s8,v7,rfl,hag,H⟩
       obtain⟨σ,rfl⟩:=ofL_ex hag
       obtain⟨A14,n14,c14,rfl⟩:=(H.rO (i:=2) rfl).form3
       exact X ((V) ((AN hk4 hl3) ((A) (Z (I1 hb3 ⟨k2+1,s8,(.slice A14 n14 c14)⟩)))))
     ·obtain rfl:=e
      exact CE (C1 hm2)
   ·rintro ρ' w14 ⟨s4,v3,rfl,hag,H⟩
    obtain⟨σ,rfl⟩:=ofL_ex hag
    obtain⟨A15,n15,c15,rfl⟩:=(H.rO (i:=2) rfl).form3
    refine X ((V) ?_)
    exact (gg hb1 fun hg3 hb1=>(BN (Bin.add hg3)) ((A) (Z (I2 hb1 hs1 ⟨m2,⟨s4,(s3+1)⟩,(.slice A15 n15 c15)⟩))))
  ·exact CE (C2 hb1 ht1)
 ·rintro ρ' w15 ⟨s1,v1,rfl,hag,H⟩
  obtain⟨σ,rfl⟩:=ofL_ex hag
  obtain⟨A16,n16,c16,rfl⟩:=(H.rO (i:=2) rfl).form3
  exact R ((V) ((A) (Z (W1 hr))))
def q5E (rec_sl4Copy:Expr→Option Expr):Nat→Expr→(List Expr)→Option (List Expr):=fun k1 x1 s1=>(rec_sl4Copy x1).bind fun y1=>grd (((s1.length:Int)+1)*88≤140737488355328∧(s1.length:Int)+1≤9223372036854775807) <| some (s1++[y1])
def q6O (rec_sl4Copy:Expr→Option Expr)(a0:Expr):Option Expr:=(eachL (q5E rec_sl4Copy) 0 a0.Args ([]:List Expr)).bind fun s1=>some (⟨a0.Kind,a0.N,a0.Pos,a0.Type_,a0.Symbol,a0.Name,s1⟩:Expr)
theorem z5D {rec_sl4Copy:Expr→Option Expr}(ih_sl4Copy:∀ {a0 r:Expr},rec_sl4Copy a0=some r→∀ {F0:Nat→Prop}{w0:World}{ca0}(ha0:rd F0 w0 a0 ca0),RT 187 #[.agg ca0.toArray] w0 fun v w=>∃ A0 n0 c0,v = .agg #[.int .i64 r.Kind,.int .i64 r.N,.int .i64 r.Pos,.int .i64 r.Type_,.string r.Symbol,.string r.Name,(.slice A0 n0 c0)]∧I64 r.Kind∧I64 r.N∧I64 r.Pos∧I64 r.Type_∧r.Symbol.size≤9223372036854775807∧r.Name.size≤9223372036854775807∧HL F0 [] w0 w [] [It.G 58 r.Args (.slice A0 n0 c0)]){a0 r}(hr:q6O rec_sl4Copy a0=some r){ca0}(ha0:rd F0 w0 a0 ca0):RT 187 #[.agg ca0.toArray] w0 fun v w=>∃ A0 n0 c0,v = .agg #[.int .i64 r.Kind,.int .i64 r.N,.int .i64 r.Pos,.int .i64 r.Type_,.string r.Symbol,.string r.Name,(.slice A0 n0 c0)]∧I64 r.Kind∧I64 r.N∧I64 r.Pos∧I64 r.Type_∧r.Symbol.size≤9223372036854775807∧r.Name.size≤9223372036854775807∧HL F0 [] w0 w [] [It.G 58 r.Args (.slice A0 n0 c0)]:=by
 have H:=(HL.start F0 w0).argR ha0
 obtain⟨A1,n1,c1,rfl,hI1,hI2,hI3,hI4,hS1,hS2,H⟩:=q0X H (i:=0) rfl
 refine (En Tryz.func187) ?_
 refine R ((BX H) fun b1 w1 H=>(AH ze58 H) fun b2 w2 H=>Z (R ?_))
 refine WL.lit0H (α:=Expr) rfl rfl rfl el56 sz58 H fun A2 n2 c2 w3 H=>?_
 have H:=H.toG (i:=2) rfl
 refine (A) (Z (Y (R ((A) (Z ?_)))))
 refine (bb hr fun q1 hq1 hr=>?_)
 let d1:List Value:=[.int .i64 a0.Kind,.int .i64 a0.N,.int .i64 a0.Pos,.int .i64 a0.Type_,.string a0.Symbol,.string a0.Name,.slice A1 n1 c1]
 let d2:It:=It.B b2 58 [.int .i64 0,.int .i64 0,.int .i64 0,.int .i64 0,.string (⟨#[]⟩:ByteArray),.string (⟨#[]⟩:ByteArray),.slice none 0 0]
 refine CW.block (CW.loop (α:=Nat × (List Expr) × Value) (fun ⟨k1,s1,v1⟩=>[(1,pB b1),(2,pB b2),(3,v1),(4,zN k1)]) (fun ⟨k1,s1,v1⟩ w=>k1≤a0.Args.length∧eachL (q5E rec_sl4Copy) k1 (a0.Args.drop k1) s1=some q1∧HL F0 [] w0 w [Pr.R a0 d1,Pr.S a0.Args (.slice A1 n1 c1)] [It.B b1 58 d1,d2,It.G 58 s1 v1]) (fun ⟨k1,s1,v1⟩=>a0.Args.length - k1) ⟨0,([]:List Expr),(.slice A2 n2 c2)⟩ ⟨rfl,rfl,rfl,rfl,trivial⟩ ⟨Nat.zero_le _,hq1,H.keep 2 3⟩ ?_)
 rintro⟨k1,s1,v1⟩ σ w4 ⟨hk1,hq1,H⟩
 obtain⟨A3,n3,c3,rfl⟩:=(H.rG (i:=2) rfl).form3
 refine Y (R ((V) ((D 6) ((L H 0) ((NI H 1) fun hl1=>(B) (Z ?_))))))
 refine (iE hq1 (fun hk2 x1 z1 hx1 hb1 hq1=>?_) fun e=>?_)
 ·refine K (Y ?_)
  refine CW.block (X ((V) ((D 6) ((L H 0) ((V) ?_)))))
  obtain⟨b3,ob3,cb3,A4,n4,c4,hvb3,hI5,hI6,hI7,hI8,hS3,hS4,H⟩:=q0u H (i:=1) rfl hx1
  refine (J 7 hvb3 hx1) ((LA H 2) ?_)
  refine (bb hb1 fun y1 hy1 hb1=>?_)
  obtain⟨F,hF,hcl⟩:=H.call
  refine (CA ok187 (ih_sl4Copy hy1 (q0b.2 ⟨_,rfl,hI5,hI6,hI7,hI8,hS3,hS4,(hF.get (i:=4) rfl)⟩))) ?_
  rintro _ w5 hE ⟨A5,n5,c5,rfl,hI9,hI10,hI11,hI12,hS5,hS6,H'⟩
  let d3:List Value:=[.int .i64 x1.Kind,.int .i64 x1.N,.int .i64 x1.Pos,.int .i64 x1.Type_,.string x1.Symbol,.string x1.Name,.slice A4 n4 c4]
  have H:HL F0 [] w0 w5 [Pr.R a0 d1,Pr.S a0.Args (.slice A1 n1 c1),Pr.A b3 (ob3+k1*7) d3,Pr.R x1 d3,Pr.S x1.Args (.slice A4 n4 c4)] [It.B b1 58 d1,d2,It.G 58 s1 (.slice A3 n3 c3),It.G 58 y1.Args (.slice A5 n5 c5)]:=hcl H'
  refine WL.lit1 rfl rfl rfl el56 sz58 ze58 rfl rfl rfl rfl rfl rfl fun b4 w6 hE hb hB=>?_
  have H:=H.newB hE hb hB
  have H:=H.frzG (i:=3) rfl
  refine (gg hb1 fun hg1 hb1=>?_)
  refine WL.appG (i:=2) (ys:=[y1]) rfl rfl rfl el56 sz58 by58 ze58 rfl rfl rfl H rfl (fun F hF=>rdL.single (q0b.2 ⟨_,rfl,hI9,hI10,hI11,hI12,hS5,hS6,(hF.get (i:=5) rfl)⟩)) (.inr ⟨_,_,rfl,At.blk (H.rB (i:=4) rfl)⟩) hg1 fun A6 n6 c6 w7 H=>(A) (Z (X ((V) ((AN hk2 hl1) ((A) (Z ?_))))))
  obtain rfl:=sm hb1
  exact⟨⟨k1+1,(s1++[y1]),(.slice A6 n6 c6)⟩,⟨rfl,rfl,rfl,rfl,trivial⟩,⟨hk2,hq1,H.keep 2 3⟩,Nat.sub_lt_sub_left hk2 (Nat.lt_succ_self _)⟩
 ·obtain rfl:=e
  refine CE (R ((V) ((D 6) ((SB H 0) fun w8 H=>Z (R ((LB H 0) ((SB H 1) fun w9 H=>Z (CR ?_))))))))
  obtain rfl:=sm hr
  exact⟨_,resC rfl ag58 sz58 rfl rfl (At.blk (H.rB (i:=1) rfl)) rfl,H.ext0,_,_,_,rfl,hI1,hI2,hI3,hI4,hS1,hS2,H.outM (fr':=[]) [false,false,true] fun _ _=>trivial⟩
def q3U:Nat→Expr→Option Expr
  | 0,_=>none
  | n+1,a0=>q6O (q3U n) a0
def z2l (a0:Expr):Option Expr:=recO fun n=>q3U n a0
theorem z5E (n:Nat):∀ {a0 r:Expr},q3U n a0=some r→∀ {F0:Nat→Prop}{w0:World}{ca0}(ha0:rd F0 w0 a0 ca0),RT 187 #[.agg ca0.toArray] w0 fun v w=>∃ A0 n0 c0,v = .agg #[.int .i64 r.Kind,.int .i64 r.N,.int .i64 r.Pos,.int .i64 r.Type_,.string r.Symbol,.string r.Name,(.slice A0 n0 c0)]∧I64 r.Kind∧I64 r.N∧I64 r.Pos∧I64 r.Type_∧r.Symbol.size≤9223372036854775807∧r.Name.size≤9223372036854775807∧HL F0 [] w0 w [] [It.G 58 r.Args (.slice A0 n0 c0)]:=by
 induction n with
 | zero=>intro a0 r hr; exact nomatch (show (none:Option Expr)=some r from hr)
 | succ n ih=>intro a0 r hr; exact z5D ih hr
theorem z7e {a0 r}(hr:z2l a0=some r){ca0}(ha0:rd F0 w0 a0 ca0):RT 187 #[.agg ca0.toArray] w0 fun v w=>∃ A0 n0 c0,v = .agg #[.int .i64 r.Kind,.int .i64 r.N,.int .i64 r.Pos,.int .i64 r.Type_,.string r.Symbol,.string r.Name,(.slice A0 n0 c0)]∧I64 r.Kind∧I64 r.N∧I64 r.Pos∧I64 r.Type_∧r.Symbol.size≤9223372036854775807∧r.Name.size≤9223372036854775807∧HL F0 [] w0 w [] [It.G 58 r.Args (.slice A0 n0 c0)]:=by
 obtain⟨n,hn⟩:=q2f hr
 exact z5E n hn ha0
def q4Z (a1:Occurrence):Nat→Equation→Unit→Option (Unit ⊕ (Expr × Bool)):=fun k1 x1 _=>if x1.At=a1 then (z2l x1.Expr).bind fun y1=>some (.inr (y1,true)) else some (.inl ())
def q5o (a0:Rule)(a1:Occurrence):Option (Expr × Bool):=(findL (q4Z a1) 0 a0.Equations ()).bind <| onr (fun r1=>some r1) fun _=>some ((⟨0,0,0,0,(⟨#[]⟩:ByteArray),(⟨#[]⟩:ByteArray),[]⟩:Expr),false)
theorem z1s {a0}{a1}{r}(hr:q5o a0 a1=some r){ca0}(ha0:rd F0 w0 a0 ca0){ca1}(ha1:rd F0 w0 a1 ca1):RT 160 #[.agg ca0.toArray,.agg ca1.toArray] w0 fun v w=>∃ A0 n0 c0,v = .tuple #[.agg #[.int .i64 r.1.Kind,.int .i64 r.1.N,.int .i64 r.1.Pos,.int .i64 r.1.Type_,.string r.1.Symbol,.string r.1.Name,(.slice A0 n0 c0)],.bool r.2]∧I64 r.1.Kind∧I64 r.1.N∧I64 r.1.Pos∧I64 r.1.Type_∧r.1.Symbol.size≤9223372036854775807∧r.1.Name.size≤9223372036854775807∧HL F0 [] w0 w [] [It.G 58 r.1.Args (.slice A0 n0 c0)]:=by
 have H:=((HL.start F0 w0).argR ha0).argR ha1
 obtain⟨A1,n1,c1,A2,n2,c2,A3,n3,c3,rfl,hS1,hS2,H⟩:=q0z H (i:=0) rfl
 obtain⟨rfl,hI1,hS3,H⟩:=q0H H (i:=1) rfl
 refine (En Tryz.func160) ?_
 refine R ((BX H) fun b1 w1 H=>(BX H) fun b2 w2 H=>(AH ze58 H) fun b3 w3 H=>(A) (Z (Y (R ((A) (Z ?_))))))
 refine (bb hr fun q1 hq1 hr=>?_)
 let d1:List Value:=[.string a0.Name,.string a0.Left,.slice A1 n1 c1,.bool a0.Literal,.slice A2 n2 c2,.slice A3 n3 c3]
 let d3:It:=It.B b3 58 [.int .i64 0,.int .i64 0,.int .i64 0,.int .i64 0,.string (⟨#[]⟩:ByteArray),.string (⟨#[]⟩:ByteArray),.slice none 0 0]
 let d4:List Value:=[.int .i64 a1.Pos,.string a1.Name]
 refine (lF hq1 (fun k1 _ _=>[(2,pB b1),(3,pB b2),(4,pB b3),(6,zN k1)]) (fun _ _ w=>HL F0 [] w0 w [Pr.R a0 d1,Pr.R a1 d4,Pr.S a0.Right (.slice A1 n1 c1),Pr.S a0.Equations (.slice A2 n2 c2),Pr.S a0.Contributions (.slice A3 n3 c3)] [It.B b1 47 d1,It.B b2 55 d4,d3]) ()) ?_
 rintro k1 _ _ σ w4 hk1 hq1 H
 refine Y (R ((V) ((D 4) ((L H 0) ((NI H 3) fun hl1=>(B) (Z ?_))))))
 refine (iF hq1 hr (fun hk2 x1 z1 hx1 hb1 hs1 ht1=>?_) fun hr=>?_)
 ·refine K (Y ?_)
  refine CW.block (Y ?_)
  refine CW.quiet hmix (by kernel_rfl) ?_
  refine (qD 4) ((qL H 0) ((qV) ?_))
  obtain⟨b4,ob4,cb4,A4,n4,c4,hvb4,hI2,hS4,hI3,hI4,hI5,hI6,hS5,hS6,H⟩:=q1B H (i:=3) rfl hx1
  refine (qJ 9 hvb4 hx1) ((qD 0) ?_)
  refine QL.ev rfl rfl (fun _ hq=>Ev.lda rfl ag55 sz55 rfl (((H.ext hq).rA (i:=5) rfl).part 0 2) rfl) ?_
  refine (qLB H 1) ((qBN (Bin.eqlF fl55 (q2Q x1.At a1))) ?_)
  refine QL.nil (fun w5 hE=>?_)
  have H:=H.ext hE
  refine iD hb1 (fun _ hb1=>?_) fun _ hb1=>?_
  ·refine R ((D 4) ((L H 0) ((V) ((J 9 hvb4 hx1) ((D 2) ?_)))))
   refine WL.ev rfl rfl (Ev.lda rfl ag58 sz58 rfl ((H.rA (i:=5) rfl).part 2 7) rfl) ?_
   refine (bb hb1 fun y1 hy1 hb1=>?_)
   obtain⟨F,hF,hcl⟩:=H.call
   refine (CA ok187 (z7e hy1 (q0b.2 ⟨_,rfl,hI3,hI4,hI5,hI6,hS5,hS6,(hF.get (i:=7) rfl)⟩))) ?_
   rintro _ w6 hE ⟨A5,n5,c5,rfl,hI7,hI8,hI9,hI10,hS7,hS8,H'⟩
   let d2:List Value:=[.int .i64 x1.At.Pos,.string x1.At.Name,.int .i64 x1.Expr.Kind,.int .i64 x1.Expr.N,.int .i64 x1.Expr.Pos,.int .i64 x1.Expr.Type_,.string x1.Expr.Symbol,.string x1.Expr.Name,.slice A4 n4 c4]
   have H:HL F0 [] w0 w6 [Pr.R a0 d1,Pr.R a1 d4,Pr.S a0.Right (.slice A1 n1 c1),Pr.S a0.Equations (.slice A2 n2 c2),Pr.S a0.Contributions (.slice A3 n3 c3),Pr.A b4 (ob4+k1*9) d2,Pr.R x1 d2,Pr.S x1.Expr.Args (.slice A4 n4 c4)] [It.B b1 47 d1,It.B b2 55 d4,d3,It.G 58 y1.Args (.slice A5 n5 c5)]:=hcl H'
   refine (SB H 2) fun w7 H=>(A) (Z (CR ?_))
   obtain rfl:=sm hb1
   obtain rfl:=ht1 _ rfl
   obtain rfl:=sm hr
   exact⟨_,resC1 rfl ag58 sz58 rfl rfl rfl rfl (At.blk (H.rB (i:=2) rfl)) rfl,H.ext0,_,_,_,rfl,hI7,hI8,hI9,hI10,hS7,hS8,H.outM (fr':=[]) [false,false,false,true] fun _ _=>trivial⟩
  ·exact K (X ((V) ((AN hk2 hl1) ((A) (Z (I2 hb1 hs1 ⟨k1+1,(),()⟩))))))
 ·refine CE (R ?_)
  refine WL.ev rfl rfl (Ev.build rfl pl58 ze58 rfl rfl rfl rfl) ((SB H 2) fun w8 H=>(A) (Z (CR ?_)))
  have H:=H.nilG (α:=Expr) 58
  obtain rfl:=sm hr
  exact⟨_,resC1 rfl ag58 sz58 rfl rfl rfl rfl (At.blk (H.rB (i:=2) rfl)) rfl,H.ext0,_,_,_,rfl,(by decide:I64 0),(by decide:I64 0),(by decide:I64 0),(by decide:I64 0),(by decide:(⟨#[]⟩:ByteArray).size≤9223372036854775807),(by decide:(⟨#[]⟩:ByteArray).size≤9223372036854775807),H.outM (fr':=[]) [false,false,false,true] fun _ _=>trivial⟩
def q9x (a1:Rule):Nat→Occurrence→Unit→Option (Unit ⊕ Bool):=fun k1 x1 _=>(q5o a1 x1).bind fun (y2,y3)=>if y3=true then some (.inl ()) else some (.inr true)
def q6q (a0:Grammar)(a1:Rule):Option Bool:=(q2g a0 a1).bind fun y1=>(findL (q9x a1) 0 y1 ()).bind <| onr (fun r1=>some r1) fun _=>some false
theorem z3c {a0}{a1}{r}(hr:q6q a0 a1=some r){ca0}(ha0:rd F0 w0 a0 ca0){ca1}(ha1:rd F0 w0 a1 ca1):RT 125 #[.agg ca0.toArray,.agg ca1.toArray] w0 fun v w=>v = .bool r:=by
 have H:=((HL.start F0 w0).argR ha0).argR ha1
 obtain⟨A1,n1,c1,A2,n2,c2,rfl,H⟩:=q0e H (i:=0) rfl
 obtain⟨A3,n3,c3,A4,n4,c4,A5,n5,c5,rfl,hS1,hS2,H⟩:=q0z H (i:=1) rfl
 refine (En Tryz.func125) ?_
 refine R ((BX H) fun b1 w1 H=>(BX H) fun b2 w2 H=>(A) (Z (R ((LB H 0) ((LB H 1) ?_)))))
 refine (bb hr fun y1 hy1 hr=>?_)
 refine (CA ok159 (q5n hy1 ⟨_,_,rfl,(rs H 2),(rs H 3)⟩ ⟨_,_,_,rfl,hS1,hS2,(rs H 4),(rs H 5),(rs H 6)⟩)) ?_
 rintro _ w3 hE ⟨A6,n6,c6,rfl,H'⟩
 have H:=H.callA H' ⟨fun _ _ _ _ _ h=>h,trivial⟩
 refine (A) (Z (Y (R ((A) (Z ?_)))))
 refine (bb hr fun q1 hq1 hr=>?_)
 let d1:List Value:=[.string a1.Name,.string a1.Left,.slice A3 n3 c3,.bool a1.Literal,.slice A4 n4 c4,.slice A5 n5 c5]
 refine (lF hq1 (fun k1 _ _=>[(3,pB b2),(5,.slice A6 n6 c6),(6,zN k1)]) (fun _ _ w=>HL F0 [] w0 w [Pr.R a0 [.slice A1 n1 c1,.slice A2 n2 c2],Pr.R a1 d1,Pr.S a0.Symbols (.slice A1 n1 c1),Pr.S a0.Rules (.slice A2 n2 c2),Pr.S a1.Right (.slice A3 n3 c3),Pr.S a1.Equations (.slice A4 n4 c4),Pr.S a1.Contributions (.slice A5 n5 c5)] [It.B b1 31 [.slice A1 n1 c1,.slice A2 n2 c2],It.B b2 47 d1,It.O 55 y1 (.slice A6 n6 c6)]) ()) ?_
 rintro k1 _ _ σ w4 hk1 hq1 H
 refine Y (R ((V) ((V) ?_)))
 have hl1:=(H.rO (i:=2) rfl).I
 refine (NN (ro H 2)) ((B) (Z ?_))
 refine CW.condD rfl (fun h1=>?_) (fun h1=>?_)
 ·have hk2:=q0m h1
  obtain⟨x1,z1,hx1,hb1,hs1,ht1⟩:=q0y hq1 hk2
  refine K ?_
  obtain⟨b3,cb3,hvb3,hbb3⟩:=H.ptO (i:=2) rfl hx1
  obtain⟨hA1,hI1,hS3,H⟩:=q1S H (i:=2) rfl hx1 hbb3
  obtain⟨⟨y2,y3⟩,hy2,hb1⟩:=bd hb1
  obtain⟨F_G1,hFl_G1,hF_G1,hcl_G1⟩:=H.callL
  refine Y ?_
  refine CW.block (Y ?_)
  refine CW.any2 11 (fun ρ=>[.fix (.agg #[.string a1.Name,.string a1.Left,.slice A3 n3 c3,.bool a1.Literal,.slice A4 n4 c4,.slice A5 n5 c5]),.fix (.slice A6 n6 c6),.fix (zN k1),.fix (.pointer (some ⟨b3,0+k1*2,none⟩)),.fix (.agg #[.int .i64 x1.Pos,.string x1.Name]),.free (fun S v w=>∃ A7:Option Addr,∃ n7:Nat,∃ c7:Nat,v = .tuple #[.agg #[.int .i64 y2.Kind,.int .i64 y2.N,.int .i64 y2.Pos,.int .i64 y2.Type_,.string y2.Symbol,.string y2.Name,.slice A7 n7 c7],.bool y3]∧I64 y2.Kind∧I64 y2.N∧I64 y2.Pos∧I64 y2.Type_∧y2.Symbol.size≤9223372036854775807∧y2.Name.size≤9223372036854775807∧NewV F_G1 w4 S w [] [It.G 58 y2.Args (.slice A7 n7 c7)]),.dep 24 id,.dep 18 (tupAt 0),.dep 18 (tupAt 1),.free (VarB 58 7),.wr 7 25 (WrB 58)]) [[],[],[],[],[],[],[24],[18],[18],[],[7,25]] NoM (fun _ _=>True) [] [none,none,none,none,none,none,none,none,none,none,some 9] (noM _) hmix (by kernel_rfl) rfl ⟨trivial,trivial,trivial,trivial,trivial,fun _ _ _ _ _ ⟨A7,n7,c7,hv,h0,h1,h2,h3,h4,h5,hh⟩ hc hS hT=>⟨A7,n7,c7,hv,h0,h1,h2,h3,h4,h5,hh.chgT hc hS hT hFl_G1⟩,trivial,trivial,trivial,fun _ _ _ _ _ h hc hS _=>h.chgT hc hS,fun _ _ _ _ _ _ h hc hS _=>h.chgT hc hS,trivial⟩ trivial (fun _ _ _ _ _ _ _=>trivial) ?_
  refine LL2.fx rfl rfl rfl rfl rfl (fun _ hq hK=>Ev.lda rfl ag47 sz47 rfl (At.blk ((H.ext hq).rB (i:=1) rfl)) rfl) ?_
  refine LL2.fx rfl rfl rfl rfl rfl (fun _ hq hK=>Ev.mv rfl rfl) ?_
  refine LL2.fx rfl rfl rfl rfl rfl (fun _ hq hK=>Ev.mv rfl rfl) ?_
  refine LL2.fx rfl rfl rfl rfl rfl (fun _ hq hK=>Ev.ixVN rfl el52 sz55 rfl hvb3 rfl (lt_of hx1)) ?_
  refine LL2.fx rfl rfl rfl rfl rfl (fun _ hq hK=>Ev.lda rfl ag55 sz55 rfl (hA1.ext hq) rfl) ?_
  refine LL2.free rfl rfl rfl rfl (fun wq hq hK=>?_) (fun v_G1_5 S_G1_5=>?_)
  ·have hF:=hF_G1.ext hq
   refine OpX.call rfl rfl rfl rfl ok160 rfl (z1s hy2 ⟨_,_,_,rfl,hS1,hS2,(hF.get (i:=4) rfl),(hF.get (i:=5) rfl),(hF.get (i:=6) rfl)⟩ ⟨rfl,hI1,hS3⟩) ?_
   rintro _ w hE ⟨A7,n7,c7,rfl,h0,h1,h2,h3,h4,h5,hh⟩
   exact⟨hE,A7,n7,c7,rfl,h0,h1,h2,h3,h4,h5,NewV.of hFl_G1 hq hh⟩
  refine LL2.mv rfl rfl rfl rfl rfl (.inl rfl) rfl ?_
  refine LL2.ex rfl rfl rfl rfl rfl rfl rfl (fun wq hq hK=>?_) ?_
  ·have hK:∀ j' (_:(q0g _).contains j'=true),_:=hK 6 rfl
   obtain⟨A7,n7,c7,rfl,_,_,_,_,_,_,_⟩:=hK 5 rfl
   exact⟨_,_,rfl,rfl⟩
  refine LL2.ex rfl rfl rfl rfl rfl rfl rfl (fun wq hq hK=>?_) ?_
  ·have hK:∀ j' (_:(q0g _).contains j'=true),_:=hK 6 rfl
   obtain⟨A7,n7,c7,rfl,_,_,_,_,_,_,_⟩:=hK 5 rfl
   exact⟨_,_,rfl,rfl⟩
  refine LL2.free rfl rfl rfl rfl (fun wq hq hK=>OpX.allocV rfl rfl ze58 rfl) (fun v_G1_9 S_G1_9=>?_)
  refine LL2.st (k:=7) rfl rfl rfl (by decide) rfl rfl rfl rfl sz58 rfl rfl (fun wq hq hK=>hK 9 rfl) (fun wq hq hK=>?_) ?_
  ·obtain⟨A7,n7,c7,rfl,_,_,_,_,_,_,_⟩:=hK 5 rfl
   exact⟨_,rfl,rfl,(all1 rfl (all1 rfl (all1 rfl (all1 rfl (all1 rfl (all1 rfl (all1 rfl all0)))))))⟩
  intro w5 hE _ hK hap hbd
  have hE:=chgNew hE
  obtain⟨A7,n7,c7,rfl,hI2,hI3,hI4,hI5,hS4,hS5,hN1⟩:=hK 5 (by decide)
  obtain⟨b4,rfl,hN2⟩:=wrNew (cells:=[.int .i64 y2.Kind,.int .i64 y2.N,.int .i64 y2.Pos,.int .i64 y2.Type_,.string y2.Symbol,.string y2.Name,.slice A7 n7 c7]) (hK 9 (by decide)) (hK 10 (by decide)) rfl
  have H:=hcl_G1 (NewV.hl (hN1.app (hN2.V ⟨fun _ _ _ _ _ h=>h,trivial⟩) fun q h1 h2=>absurd (hap 5 9 q h1 h2) (by decide)) hE fun q hq=>hq.elim (fun h=>(hbd 5 q h).1) fun h=>(hbd 9 q h).1)
  refine (A) (Z (R ((V) ((N) (Z (iM hb1 (fun _ hb1=>?_) fun _ hb1=>?_))))))
  ·exact R ((A) (Z (W2 hb1 ht1 hr)))
  ·exact K (X ((V) ((AN hk2 hl1) ((A) (Z (I2 hb1 hs1 ⟨k1+1,(),()⟩))))))
 ·obtain rfl:=q0l hq1 (q0c h1)
  have hr:=(q0s _ _ _).symm.trans hr
  exact CE (R ((A) (Z (W1 hr))))
def q7j (y1:(List Occurrence)):Nat→Equation→(List Occurrence)→Option (((List Occurrence)) ⊕ Bool):=fun k1 x1 s1=>(q3L y1 x1.At).bind fun y2=>if y2=true then (q3L s1 x1.At).bind fun y3=>if y3=true then some (.inr true) else grd (((s1.length:Int)+1)*24≤140737488355328∧(s1.length:Int)+1≤9223372036854775807) <| some (.inl (s1++[x1.At])) else some (.inr true)
def q8e (a0:Grammar)(a1:Rule):Option Bool:=(q2g a0 a1).bind fun y1=>(findL (q7j y1) 0 a1.Equations ([]:List Occurrence)).bind <| onr (fun r1=>some r1) fun s1=>some false
theorem z4N {a0}{a1}{r}(hr:q8e a0 a1=some r){ca0}(ha0:rd F0 w0 a0 ca0){ca1}(ha1:rd F0 w0 a1 ca1):RT 126 #[.agg ca0.toArray,.agg ca1.toArray] w0 fun v w=>v = .bool r:=by
 have H:=((HL.start F0 w0).argR ha0).argR ha1
 obtain⟨A1,n1,c1,A2,n2,c2,rfl,H⟩:=q0e H (i:=0) rfl
 obtain⟨A3,n3,c3,A4,n4,c4,A5,n5,c5,rfl,hS1,hS2,H⟩:=q0z H (i:=1) rfl
 refine (En Tryz.func126) ?_
 refine R ((BX H) fun b1 w1 H=>(BX H) fun b2 w2 H=>(A) (Z (R ((LB H 0) ((LB H 1) ?_)))))
 refine (bb hr fun y1 hy1 hr=>?_)
 refine (CA ok159 (q5n hy1 ⟨_,_,rfl,(rs H 2),(rs H 3)⟩ ⟨_,_,_,rfl,hS1,hS2,(rs H 4),(rs H 5),(rs H 6)⟩)) ?_
 rintro _ w3 hE ⟨A6,n6,c6,rfl,H'⟩
 have H:=H.callA H' ⟨fun _ _ _ _ _ h=>h,trivial⟩
 refine (A) (Z (R ?_))
 refine WL.lit0H (α:=Occurrence) rfl rfl rfl el52 sz55 H fun A7 n7 c7 w4 H=>(A) (Z (Y (R ((A) (Z ?_)))))
 refine (bb hr fun q1 hq1 hr=>?_)
 let d1:List Value:=[.string a1.Name,.string a1.Left,.slice A3 n3 c3,.bool a1.Literal,.slice A4 n4 c4,.slice A5 n5 c5]
 let d4:List Value:=[.slice A1 n1 c1,.slice A2 n2 c2]
 let d5:Pr:=Pr.S a1.Contributions (.slice A5 n5 c5)
 let d6:Pr:=Pr.S a1.Equations (.slice A4 n4 c4)
 let d7:Pr:=Pr.S a0.Symbols (.slice A1 n1 c1)
 let d8:Pr:=Pr.S a0.Rules (.slice A2 n2 c2)
 let d9:Pr:=Pr.S a1.Right (.slice A3 n3 c3)
 let d10:It:=It.O 55 y1 (.slice A6 n6 c6)
 refine (lF hq1 (fun k1 s1 v1=>[(3,pB b2),(5,.slice A6 n6 c6),(6,v1),(7,zN k1)]) (fun s1 v1 w=>HL F0 [] w0 w [Pr.R a0 d4,Pr.R a1 d1,d7,d8,d9,d6,d5] [It.B b1 31 d4,It.B b2 47 d1,d10,It.O 55 s1 v1]) (.slice A7 n7 c7)) ?_
 rintro k1 s1 v1 σ w5 hk1 hq1 H
 obtain⟨A8,n8,c8,rfl⟩:=(H.rO (i:=3) rfl).form3
 refine Y (R ((V) ((D 4) ((L H 1) ((NI H 5) fun hl1=>(B) (Z ?_))))))
 refine (iF hq1 hr (fun hk2 x1 z1 hx1 hb1 hs1 ht1=>?_) fun hr=>?_)
 ·refine K (Y ?_)
  refine CW.block (R ((D 4) ((L H 1) ((V) ?_))))
  obtain⟨b3,ob3,cb3,A9,n9,c9,hvb3,hI1,hS3,hI2,hI3,hI4,hI5,hS4,hS5,H⟩:=q1B H (i:=5) rfl hx1
  refine (J 9 hvb3 hx1) ((D 0) ?_)
  refine WL.ev rfl rfl (Ev.lda rfl ag55 sz55 rfl ((H.rA (i:=7) rfl).part 0 2) rfl) ((AH ze55 H) fun b4 w6 H=>(SB H 4) fun w7 H=>Z (Y (R ((V) ((LB H 4) ?_)))))
  refine (bb hb1 fun y2 hy2 hb1=>?_)
  refine (CA ok27 (q7g hy2 (ro H 2) ⟨rfl,hI1,hS3⟩)) (cE H fun w8 H=>(N) (jM hb1 (fun _ hb1=>?_) fun _ hb1=>?_))
  ·exact (O) ((O) ((O) ((T) (Z ((cT) (R ((A) (Z (W2 hb1 ht1 hr)))))))))
  ·refine (G) ((V) ((G) ((LB H 4) ((G) ?_))))
   refine (bb hb1 fun y3 hy3 hb1=>?_)
   refine (CA ok27 (q7g hy3 (ro H 3) ⟨rfl,hI1,hS3⟩)) (cE H fun w9 H=>(U) (Z (iB hb1 (fun _ hb1=>?_) fun _ hb1=>?_)))
   ·refine Y ?_
    refine CW.fresh [] trivial fun σ=>?_
    let d2:List Value:=[.int .i64 x1.At.Pos,.string x1.At.Name,.int .i64 x1.Expr.Kind,.int .i64 x1.Expr.N,.int .i64 x1.Expr.Pos,.int .i64 x1.Expr.Type_,.string x1.Expr.Symbol,.string x1.Expr.Name,.slice A9 n9 c9]
    have H:HL F0 [] w0 w9 [Pr.R a0 d4,Pr.R a1 d1,d7,d8,d9,d6,d5,Pr.A b3 (ob3+k1*9) d2,Pr.R x1 d2,Pr.S x1.Expr.Args (.slice A9 n9 c9)] [It.B b1 31 d4,It.B b2 47 d1,d10,It.O 55 s1 (.slice A8 n8 c8),It.B b4 55 [.int .i64 x1.At.Pos,.string x1.At.Name]]:=H
    exact X ((A) (Z (W2 hb1 ht1 hr)))
   ·refine K ?_
    refine CW.fresh [(3,pB b2),(5,.slice A6 n6 c6),(6,.slice A8 n8 c8),(7,zN k1),(8,pB b4),(31,.slice A8 n8 c8),(32,.agg #[.int .i64 x1.At.Pos,.string x1.At.Name]),(33,.bool y3)] ⟨rfl,rfl,rfl,rfl,rfl,rfl,rfl,rfl,trivial⟩ fun σ=>?_
    let d3:List Value:=[.int .i64 x1.At.Pos,.string x1.At.Name,.int .i64 x1.Expr.Kind,.int .i64 x1.Expr.N,.int .i64 x1.Expr.Pos,.int .i64 x1.Expr.Type_,.string x1.Expr.Symbol,.string x1.Expr.Name,.slice A9 n9 c9]
    have H:HL F0 [] w0 w9 [Pr.R a0 d4,Pr.R a1 d1,d7,d8,d9,d6,d5,Pr.A b3 (ob3+k1*9) d3,Pr.R x1 d3,Pr.S x1.Expr.Args (.slice A9 n9 c9)] [It.B b1 31 d4,It.B b2 47 d1,d10,It.O 55 s1 (.slice A8 n8 c8),It.B b4 55 [.int .i64 x1.At.Pos,.string x1.At.Name]]:=H
    refine X ((V) ((LB H 4) ?_))
    refine WL.lit1 rfl rfl rfl el52 sz55 ze55 rfl rfl rfl rfl rfl rfl fun b5 w10 hE hb hB=>?_
    have H:=H.newB hE hb hB
    refine (gg hb1 fun hg1 hb1=>?_)
    exact WL.appO (i:=3) (ys:=[x1.At]) rfl rfl rfl el52 sz55 by55 ze55 rfl rfl rfl H rfl (fun _=>ownL.single ⟨rfl,hI1,hS3,rfl⟩) (.inr ⟨_,_,rfl,At.blk (H.rB (i:=5) rfl)⟩) hg1 fun A10 n10 c10 w11 H=>(A) (Z (X ((V) ((AN hk2 hl1) ((A) (Z (I2 hb1 hs1 ⟨k1+1,(s1++[x1.At]),(.slice A10 n10 c10)⟩)))))))
 ·exact CE (R ((A) (Z (W1 hr))))
def q8f (a0 a1:Occurrence):Option Bool:=( if a0.Pos < a1.Pos then some true else ( if a0.Pos=a1.Pos then some (Op.bytesLess a0.Name.toList a1.Name.toList) else some false ).bind fun s2=>some s2 ).bind fun s1=>some s1
theorem z4O {a0 a1}{r}(hr:q8f a0 a1=some r){ca0}(ha0:rd F0 w0 a0 ca0){ca1}(ha1:rd F0 w0 a1 ca1):RT 217 #[.agg ca0.toArray,.agg ca1.toArray] w0 fun v w=>v = .bool r:=by
 have H:=((HL.start F0 w0).argR ha0).argR ha1
 obtain⟨rfl,hI1,hS1,H⟩:=q0H H (i:=0) rfl
 obtain⟨rfl,hI2,hS2,H⟩:=q0H H (i:=1) rfl
 refine (En Tryz.func217) ?_
 refine R ((BX H) fun b1 w1 H=>(BX H) fun b2 w2 H=>(A) (Z (R ((D 0) ((L H 0) ((D 0) ((L H 1) ((B) ?_))))))))
 refine (bb hr fun q1 hm1 hr=>?_)
 let d1:List Value:=[.int .i64 a0.Pos,.string a0.Name]
 let d2:List Value:=[.int .i64 a1.Pos,.string a1.Name]
 refine cu H 14 [(4,.bool false),(23,.bool q1)] [Pr.R a0 d1,Pr.R a1 d2] [It.B b1 55 d1,It.B b2 55 d2] ?_ fun σ w4 H=>?_
 ·refine jD hm1 (fun _ hm1=>?_) fun _ hm1=>?_
  ·exact (O) ((O) ((O) ((O) ((O) ((O) ((O) ((O) ((O) ((O) ((O) ((O) ((T) (Z (C1 hm1))))))))))))))
  ·refine (G) ((D 0) ((G) ((L H 0) ((G) ((D 0) ((G) ((L H 1) ((G) ((B) ((G) ?_))))))))))
   refine (bb hm1 fun q2 hm2 hm1=>?_)
   refine cu H 7 [(4,.bool false),(10,.bool false),(22,.bool q2)] [Pr.R a0 d1,Pr.R a1 d2] [It.B b1 55 d1,It.B b2 55 d2] ?_ fun σ w3 H=>?_
   ·refine (G) (jD hm2 (fun _ hm2=>?_) fun _ hm2=>?_)
    ·exact (G) ((D 1) ((G) ((L H 0) ((G) ((D 1) ((G) ((L H 1) ((G) ((B) ((G) ((T) (Z (C1 hm2)))))))))))))
    ·exact (O) ((O) ((O) ((O) ((O) ((G) ((U) (Z (C1 hm2))))))))
   ·exact (U) (Z (C1 hm1))
 ·exact (A) (Z (W1 hr))
def q6P (a0:(List Occurrence))(a1:Occurrence):Int→Option (Int ⊕ Int):=fun s2=>if s2 < (a0.length:Int) then grd (0≤s2) <| (a0[s2.toNat]?).bind fun x1=>(q8f x1 a1).bind fun y1=>if y1=true then grd (I64 (s2+1)) <| some (.inl (s2+1)) else some (.inr s2) else some (.inr s2)
def z1Q (a0:(List Occurrence))(a1:Occurrence):Option (List Occurrence):=( iterO (q6P a0 a1) 0 ).bind fun s1=>if s1 < (a0.length:Int) then grd (0≤s1) <| (a0[s1.toNat]?).bind fun x2=>if x2=a1 then some a0 else grd (0≤s1) <| grd (s1.toNat≤a0.length) <| grd (((([]:List Occurrence).length:Int)+((a0.take s1.toNat).length:Int))*24≤140737488355328∧(([]:List Occurrence).length:Int)+((a0.take s1.toNat).length:Int)≤9223372036854775807) <| grd ((((a0.take s1.toNat).length:Int)+1)*24≤140737488355328∧((a0.take s1.toNat).length:Int)+1≤9223372036854775807) <| grd (0≤s1) <| grd (s1.toNat≤a0.length) <| grd (((((a0.take s1.toNat)++[a1]).length:Int)+((a0.drop s1.toNat).length:Int))*24≤140737488355328∧(((a0.take s1.toNat)++[a1]).length:Int)+((a0.drop s1.toNat).length:Int)≤9223372036854775807) <| some (((a0.take s1.toNat)++[a1])++(a0.drop s1.toNat)) else grd (0≤s1) <| grd (s1.toNat≤a0.length) <| grd (((([]:List Occurrence).length:Int)+((a0.take s1.toNat).length:Int))*24≤140737488355328∧(([]:List Occurrence).length:Int)+((a0.take s1.toNat).length:Int)≤9223372036854775807) <| grd ((((a0.take s1.toNat).length:Int)+1)*24≤140737488355328∧((a0.take s1.toNat).length:Int)+1≤9223372036854775807) <| grd (0≤s1) <| grd (s1.toNat≤a0.length) <| grd (((((a0.take s1.toNat)++[a1]).length:Int)+((a0.drop s1.toNat).length:Int))*24≤140737488355328∧(((a0.take s1.toNat)++[a1]).length:Int)+((a0.drop s1.toNat).length:Int)≤9223372036854775807) <| some (((a0.take s1.toNat)++[a1])++(a0.drop s1.toNat))
theorem z7P {a0}{a1}{r}(hr:z1Q a0 a1=some r){z0}(ha0:rdS F0 w0 a0 z0){ca1}(ha1:rd F0 w0 a1 ca1):RT 212 #[z0,.agg ca1.toArray] w0 fun v w=>∃ A0 n0 c0,v=(.slice A0 n0 c0)∧HL F0 [] w0 w [Pr.S r (.slice A0 n0 c0)] []:=by
 obtain⟨A0',n0',c0',rfl⟩:=ha0.form3
 have H:=((HL.start F0 w0).argS ha0).argR ha1
 obtain⟨rfl,hI1,hS1,H⟩:=q0H H (i:=1) rfl
 refine (En Tryz.func212) ?_
 refine R ((BX H) fun b1 w1 H=>(A) (Z (R ((A) (Z ?_)))))
 refine (bb hr fun q1 hm1 hr=>Y ?_)
 let d1:List Value:=[.int .i64 a1.Pos,.string a1.Name]
 let d2:Pr:=Pr.S a0 (.slice A0' n0' c0')
 refine CW.mid (fun ρ' w=>∃ (s1:Int),s1=q1∧agree ρ' [(0,.slice A0' n0' c0'),(3,pB b1),(5,.int .i64 s1)]∧I64 s1∧HL F0 [] w0 w [d2,Pr.R a1 d1] [It.B b1 55 d1]) ?_ ?_
 ·obtain⟨m1,hq1⟩:=q2m.1 hm1
  refine (lI hq1 (fun m1 s2 _=>[(0,.slice A0' n0' c0'),(3,pB b1),(5,.int .i64 s2)]) (fun s2 _ w=>I64 s2∧HL F0 [] w0 w [d2,Pr.R a1 d1] [It.B b1 55 d1]) ()) ?_
  rintro m1 s2 _ σ w2 hq1 ⟨hI3,H⟩
  obtain⟨m2,z1,rfl,hb1,hs1,ht1⟩:=q4S hq1
  refine Y (Y ?_)
  refine CW.quiet hmix (by kernel_rfl) ?_
  refine (qV) ((qV) ?_)
  have hl1:=(H.rS (i:=0) rfl).I
  refine (qNN (rs H 0)) ((qB) ?_)
  refine kD hb1 (fun _ hb1=>?_) fun _ hb1=>?_
  ·refine (qG) ((qV) ((qG) ((qV) ((qG) ?_))))
   refine (gg hb1 fun hg1 hb1=>?_)
   refine (bb hb1 fun x1 hx1 hb1=>?_)
   obtain⟨b2,ob2,cb2,hvb2,hI4,hS2,H⟩:=q2q H (i:=0) rfl hx1
   refine QL.ev rfl rfl (fun _ _=>Ev.ixV rfl el52 sz55 rfl hvb2 rfl hg1 (lt_of hx1)) ?_
   refine (qG) ((qLA H 2) ((qG) ((qLB H 0) ((qG) ?_))))
   refine (bb hb1 fun y1 hy1 hb1=>?_)
   refine (qC ok217 (fun _ hq=>z4O hy1 (F0:=fun _=>False) ⟨rfl,hI4,hS2⟩ ⟨rfl,hI1,hS1⟩)) ?_
   refine (qT) ?_
   refine QL.nil (fun w3 hE=>?_)
   have H:=H.ext hE
   refine iB hb1 (fun _ hb1=>?_) fun _ hb1=>?_
   ·refine K ?_
    refine CW.block (X ((V) ?_))
    exact (gg hb1 fun hg2 hb1=>(BN (Bin.add hg2)) ((A) (Z (I2 hb1 hs1 ⟨m2,(s2+1),()⟩))))
   ·exact CE (C2 hb1 ht1)
  ·refine (qO) ((qO) ((qO) ((qO) ((qO) ((qO) ((qU) ?_))))))
   refine QL.nil (fun w4 hE=>?_)
   have H:=H.ext hE
   exact (cF) (CE (C2 hb1 ht1))
 ·rintro ρ' w5 ⟨s1,rfl,hag,hI2,H⟩
  obtain⟨σ,rfl⟩:=ofL_ex hag
  refine Y (Y ?_)
  refine CW.quiet hmix (by kernel_rfl) ?_
  refine (qV) ((qV) ?_)
  have hl2:=(H.rS (i:=0) rfl).I
  refine (qNN (rs H 0)) ((qB) ?_)
  refine kD hr (fun _ hr=>?_) fun _ hr=>?_
  ·refine (qG) ((qV) ((qG) ((qV) ((qG) ?_))))
   refine (gg hr fun hg3 hr=>?_)
   refine (bb hr fun x2 hx2 hr=>?_)
   obtain⟨b3,ob3,cb3,hvb3,hI5,hS3,H⟩:=q2q H (i:=0) rfl hx2
   refine QL.ev rfl rfl (fun _ _=>Ev.ixV rfl el52 sz55 rfl hvb3 rfl hg3 (lt_of hx2)) ?_
   refine (qG) ((qLA H 2) ((qG) ((qLB H 0) ((qG) ((qBN (Bin.eqlF fl55 (q2Q x2 a1))) ((qT) ?_))))))
   refine QL.nil (fun w6 hE=>?_)
   have H:=H.ext hE
   refine iD hr (fun _ hr=>?_) fun _ hr=>?_
   ·refine R ((V) ((A) (Z (CR ?_))))
    obtain rfl:=sm hr
    exact⟨_,res1 rfl rfl rfl,H.ext0,_,_,_,rfl,H.outM (fr':=[d2]) [false] fun _ h=>⟨h.get (i:=0) rfl,trivial⟩⟩
   ·refine K (R ?_)
    refine WL.lit0H (α:=Occurrence) rfl rfl rfl el52 sz55 H fun A1 n1 c1 w7 H=>(V) ((V) ?_)
    refine (gg hr fun hg4 hr=>?_)
    refine (gg hr fun hg5 hr=>?_)
    obtain⟨A2,n2,c2,e2,hc1,H⟩:=H.slH (i:=0) rfl hg5
    refine WL.ev rfl rfl (Ev.slHV rfl el52 sz55 rfl rfl ((Int.toNat_of_nonneg hg4).symm) hc1 e2) ?_
    refine (gg hr fun hg6 hr=>?_)
    refine WL.appS (i:=1) rfl rfl rfl el52 sz55 by55 ze55 rfl rfl rfl H rfl (rs H 4) hg6 fun A3 n3 c3 w8 H=>(A) (Z (R ((V) ((LB H 0) ?_))))
    refine WL.lit1 rfl rfl rfl el52 sz55 ze55 rfl rfl rfl rfl rfl rfl fun b4 w9 hE hb hB=>?_
    have H:=H.newB hE hb hB
    refine (gg hr fun hg7 hr=>?_)
    refine WL.appO (i:=1) (ys:=[a1]) rfl rfl rfl el52 sz55 by55 ze55 rfl rfl rfl H rfl (fun _=>ownL.single ⟨rfl,hI1,hS1,rfl⟩) (.inr ⟨_,_,rfl,At.blk (H.rB (i:=2) rfl)⟩) hg7 fun A4 n4 c4 w10 H=>(A) (Z (Y ?_))
    refine CW.fresh [(0,.slice A0' n0' c0'),(5,.int .i64 s1),(6,.slice A4 n4 c4)] ⟨rfl,rfl,rfl,trivial⟩ fun σ=>?_
    have H:HL F0 [] w0 w10 [d2,Pr.R a1 d1,Pr.A b3 (ob3+s1.toNat*2) [.int .i64 x2.Pos,.string x2.Name],Pr.R x2 [.int .i64 x2.Pos,.string x2.Name],Pr.S (a0.take s1.toNat) (.slice A2 n2 c2)] [It.B b1 55 d1,It.O 55 ((a0.take s1.toNat)++[a1]) (.slice A4 n4 c4),It.B b4 55 d1]:=H
    refine X ((V) ((V) ((V) ?_)))
    refine (gg hr fun hg8 hr=>?_)
    refine (gg hr fun hg9 hr=>?_)
    obtain⟨A5,n5,c5,e3,hc2,H⟩:=H.slL (i:=0) rfl hg9
    refine WL.ev rfl rfl (Ev.slLV rfl el52 sz55 rfl rfl ((Int.toNat_of_nonneg hg8).symm) hc2 e3) ?_
    refine (gg hr fun hg10 hr=>?_)
    refine WL.appS (i:=1) rfl rfl rfl el52 sz55 by55 ze55 rfl rfl rfl H rfl (rs H 5) hg10 fun A6 n6 c6 w11 H=>(A) (Z (CR ?_))
    have H:=H.frzO (i:=1) rfl
    obtain rfl:=sm hr
    exact⟨_,res1 rfl rfl rfl,H.ext0,_,_,_,rfl,H.outM (fr':=[Pr.S (((a0.take s1.toNat)++[a1])++(a0.drop s1.toNat)) (.slice A6 n6 c6)]) [false,false,false] fun _ h=>⟨h.get (i:=6) rfl,trivial⟩⟩
  ·refine (qO) ((qO) ((qO) ((qO) ((qO) ((qO) ((qU) ?_))))))
   refine QL.nil (fun w12 hE=>?_)
   have H:=H.ext hE
   refine (cF) (K (R ?_))
   refine WL.lit0H (α:=Occurrence) rfl rfl rfl el52 sz55 H fun A7 n7 c7 w13 H=>(V) ((V) ?_)
   refine (gg hr fun hg11 hr=>?_)
   refine (gg hr fun hg12 hr=>?_)
   obtain⟨A8,n8,c8,e4,hc3,H⟩:=H.slH (i:=0) rfl hg12
   refine WL.ev rfl rfl (Ev.slHV rfl el52 sz55 rfl rfl ((Int.toNat_of_nonneg hg11).symm) hc3 e4) ?_
   refine (gg hr fun hg13 hr=>?_)
   refine WL.appS (i:=1) rfl rfl rfl el52 sz55 by55 ze55 rfl rfl rfl H rfl (rs H 2) hg13 fun A9 n9 c9 w14 H=>(A) (Z (R ((V) ((LB H 0) ?_))))
   refine WL.lit1 rfl rfl rfl el52 sz55 ze55 rfl rfl rfl rfl rfl rfl fun b5 w15 hE hb hB=>?_
   have H:=H.newB hE hb hB
   refine (gg hr fun hg14 hr=>?_)
   refine WL.appO (i:=1) (ys:=[a1]) rfl rfl rfl el52 sz55 by55 ze55 rfl rfl rfl H rfl (fun _=>ownL.single ⟨rfl,hI1,hS1,rfl⟩) (.inr ⟨_,_,rfl,At.blk (H.rB (i:=2) rfl)⟩) hg14 fun A10 n10 c10 w16 H=>(A) (Z (R ((V) ((V) ((V) ?_)))))
   refine (gg hr fun hg15 hr=>?_)
   refine (gg hr fun hg16 hr=>?_)
   obtain⟨A11,n11,c11,e5,hc4,H⟩:=H.slL (i:=0) rfl hg16
   refine WL.ev rfl rfl (Ev.slLV rfl el52 sz55 rfl rfl ((Int.toNat_of_nonneg hg15).symm) hc4 e5) ?_
   refine (gg hr fun hg17 hr=>?_)
   refine WL.appS (i:=1) rfl rfl rfl el52 sz55 by55 ze55 rfl rfl rfl H rfl (rs H 3) hg17 fun A12 n12 c12 w17 H=>(A) (Z (CR ?_))
   have H:=H.frzO (i:=1) rfl
   obtain rfl:=sm hr
   exact⟨_,res1 rfl rfl rfl,H.ext0,_,_,_,rfl,H.outM (fr':=[Pr.S (((a0.take s1.toNat)++[a1])++(a0.drop s1.toNat)) (.slice A12 n12 c12)]) [false,false,false] fun _ h=>⟨h.get (i:=4) rfl,trivial⟩⟩
def q5F (rec_sl4Uses:Expr→(List Occurrence)→Option (List Occurrence)):Nat→Expr→(List Occurrence)→Option (List Occurrence):=fun k1 x1 s1=>(rec_sl4Uses x1 s1).bind fun y2=>some y2
def q9i (rec_sl4Uses:Expr→(List Occurrence)→Option (List Occurrence)):Nat→Expr→(List Occurrence)→Option (List Occurrence):=fun k2 x2 s2=>(rec_sl4Uses x2 s2).bind fun y3=>some y3
def q6Q (rec_sl4Uses:Expr→(List Occurrence)→Option (List Occurrence))(a0:Expr)(a1:(List Occurrence)):Option (List Occurrence):=if a0.Kind=3 then (z1Q a1 (⟨a0.Pos,a0.Name⟩:Occurrence)).bind fun y1=>(eachL (q5F rec_sl4Uses) 0 a0.Args y1).bind fun s1=>some s1 else (eachL (q9i rec_sl4Uses) 0 a0.Args a1).bind fun s2=>some s2
theorem z5F {rec_sl4Uses:Expr→(List Occurrence)→Option (List Occurrence)}(ih_sl4Uses:∀ {a0:Expr}{a1 r:(List Occurrence)},rec_sl4Uses a0 a1=some r→∀ {F0:Nat→Prop}{w0:World}{ca0}(ha0:rd F0 w0 a0 ca0){z1}(ha1:rdS F0 w0 a1 z1),RT 206 #[.agg ca0.toArray,z1] w0 fun v w=>∃ A0 n0 c0,v=(.slice A0 n0 c0)∧HL F0 [] w0 w [Pr.S r (.slice A0 n0 c0)] []){a0}{a1 r}(hr:q6Q rec_sl4Uses a0 a1=some r){ca0}(ha0:rd F0 w0 a0 ca0){z1}(ha1:rdS F0 w0 a1 z1):RT 206 #[.agg ca0.toArray,z1] w0 fun v w=>∃ A0 n0 c0,v=(.slice A0 n0 c0)∧HL F0 [] w0 w [Pr.S r (.slice A0 n0 c0)] []:=by
 obtain⟨A1',n1',c1',rfl⟩:=ha1.form3
 have H:=((HL.start F0 w0).argR ha0).argS ha1
 obtain⟨A1,n1,c1,rfl,hI1,hI2,hI3,hI4,hS1,hS2,H⟩:=q0X H (i:=0) rfl
 refine (En Tryz.func206) ?_
 refine R ((BX H) fun b1 w1 H=>(A) (Z (Y (R ((D 0) ((L H 0) ((B) (Z (iD hr (fun _ hr=>?_) fun _ hr=>?_)))))))))
 ·refine X ((V) ((D 2) ((L H 0) ((D 5) ((L H 0) ?_)))))
  refine WL.ev rfl rfl (Ev.build rfl pl55 ze55 rfl rfl rfl rfl) ?_
  refine (bb hr fun y1 hy1 hr=>?_)
  obtain⟨F,hF,hcl⟩:=H.call
  refine (CA ok212 (z7P hy1 (hF.get (i:=1) rfl) ⟨rfl,hI3,hS2⟩)) ?_
  rintro _ w2 hE ⟨A2,n2,c2,rfl,H'⟩
  let d1:List Value:=[.int .i64 a0.Kind,.int .i64 a0.N,.int .i64 a0.Pos,.int .i64 a0.Type_,.string a0.Symbol,.string a0.Name,.slice A1 n1 c1]
  let d5:Pr:=Pr.S a0.Args (.slice A1 n1 c1)
  let d6:Pr:=Pr.S a1 (.slice A1' n1' c1')
  let d7:Pr:=Pr.S y1 (.slice A2 n2 c2)
  have H:HL F0 [] w0 w2 [Pr.R a0 d1,d6,d5,d7] [It.B b1 58 d1]:=hcl H'
  refine (A) (Z (Y (R ((A) (Z ?_)))))
  refine (bb hr fun q1 hq1 hr=>?_)
  refine CW.block (CW.loop (α:=Nat × (List Occurrence) × Value) (fun ⟨k1,s1,v1⟩=>[(1,v1),(2,pB b1),(5,zN k1)]) (fun ⟨k1,s1,v1⟩ w=>k1≤a0.Args.length∧eachL (q5F rec_sl4Uses) k1 (a0.Args.drop k1) s1=some q1∧HL F0 [] w0 w [Pr.R a0 d1,d6,d5,d7,Pr.S s1 v1] [It.B b1 58 d1]) (fun ⟨k1,s1,v1⟩=>a0.Args.length - k1) ⟨0,y1,(.slice A2 n2 c2)⟩ ⟨rfl,rfl,rfl,trivial⟩ ⟨Nat.zero_le _,hq1,H.out (fun _ h=>(h.keep 4).app ⟨h.get (i:=3) rfl,trivial⟩) (List.take_sublist 1 [It.B b1 58 d1])⟩ ?_)
  rintro⟨k1,s1,v1⟩ σ w3 ⟨hk1,hq1,H⟩
  obtain⟨A3,n3,c3,rfl⟩:=(H.rS (i:=4) rfl).form3
  refine Y (R ((V) ((D 6) ((L H 0) ((NI H 2) fun hl1=>(B) (Z ?_))))))
  refine (iE hq1 (fun hk2 x1 z1 hx1 hb1 hq1=>?_) fun e=>?_)
  ·refine K (Y ?_)
   refine CW.block (X ((D 6) ((L H 0) ((V) ?_))))
   obtain⟨b2,ob2,cb2,A4,n4,c4,hvb2,hI5,hI6,hI7,hI8,hS3,hS4,H⟩:=q0u H (i:=2) rfl hx1
   refine (J 7 hvb2 hx1) ((LA H 5) ((V) ?_))
   refine (bb hb1 fun y2 hy2 hb1=>?_)
   obtain⟨F,hF,hcl⟩:=H.call
   refine (CA ok206 (ih_sl4Uses hy2 (q0b.2 ⟨_,rfl,hI5,hI6,hI7,hI8,hS3,hS4,(hF.get (i:=7) rfl)⟩) (hF.get (i:=4) rfl))) ?_
   rintro _ w4 hE ⟨A5,n5,c5,rfl,H'⟩
   let d3:List Value:=[.int .i64 x1.Kind,.int .i64 x1.N,.int .i64 x1.Pos,.int .i64 x1.Type_,.string x1.Symbol,.string x1.Name,.slice A4 n4 c4]
   have H:HL F0 [] w0 w4 [Pr.R a0 d1,d6,d5,d7,Pr.S s1 (.slice A3 n3 c3),Pr.A b2 (ob2+k1*7) d3,Pr.R x1 d3,Pr.S x1.Args (.slice A4 n4 c4),Pr.S y2 (.slice A5 n5 c5)] [It.B b1 58 d1]:=hcl H'
   refine (A) (Z (X ((V) ((AN hk2 hl1) ((A) (Z ?_))))))
   obtain rfl:=sm hb1
   exact⟨⟨k1+1,y2,(.slice A5 n5 c5)⟩,⟨rfl,rfl,rfl,trivial⟩,⟨hk2,hq1,H.out (fun _ h=>(h.keep 4).app ⟨h.get (i:=8) rfl,trivial⟩) (List.take_sublist 1 [It.B b1 58 d1])⟩,Nat.sub_lt_sub_left hk2 (Nat.lt_succ_self _)⟩
  ·obtain rfl:=e
   refine CE (R ((V) ((A) (Z (CR ?_)))))
   obtain rfl:=sm hr
   exact⟨_,res1 rfl rfl rfl,H.ext0,_,_,_,rfl,H.outM (fr':=[Pr.S s1 (.slice A3 n3 c3)]) [false] fun _ h=>⟨h.get (i:=4) rfl,trivial⟩⟩
 ·refine K (Y (R ((A) (Z ?_))))
  refine (bb hr fun q2 hq2 hr=>?_)
  let d2:List Value:=[.int .i64 a0.Kind,.int .i64 a0.N,.int .i64 a0.Pos,.int .i64 a0.Type_,.string a0.Symbol,.string a0.Name,.slice A1 n1 c1]
  refine CW.block (CW.loop (α:=Nat × (List Occurrence) × Value) (fun ⟨k2,s2,v2⟩=>[(1,v2),(2,pB b1),(5,zN k2)]) (fun ⟨k2,s2,v2⟩ w=>k2≤a0.Args.length∧eachL (q9i rec_sl4Uses) k2 (a0.Args.drop k2) s2=some q2∧HL F0 [] w0 w [Pr.R a0 d2,Pr.S a1 (.slice A1' n1' c1'),Pr.S a0.Args (.slice A1 n1 c1),Pr.S s2 v2] [It.B b1 58 d2]) (fun ⟨k2,s2,v2⟩=>a0.Args.length - k2) ⟨0,a1,(.slice A1' n1' c1')⟩ ⟨rfl,rfl,rfl,trivial⟩ ⟨Nat.zero_le _,hq2,H.out (fun _ h=>(h.keep 3).app ⟨h.get (i:=1) rfl,trivial⟩) (List.take_sublist 1 [It.B b1 58 d2])⟩ ?_)
  rintro⟨k2,s2,v2⟩ σ w5 ⟨hk3,hq2,H⟩
  obtain⟨A6,n6,c6,rfl⟩:=(H.rS (i:=3) rfl).form3
  refine Y (R ((V) ((D 6) ((L H 0) ((NI H 2) fun hl2=>(B) (Z ?_))))))
  refine (iE hq2 (fun hk4 x2 z2 hx2 hb2 hq2=>?_) fun e=>?_)
  ·refine K (Y ?_)
   refine CW.block (X ((D 6) ((L H 0) ((V) ?_))))
   obtain⟨b3,ob3,cb3,A7,n7,c7,hvb3,hI9,hI10,hI11,hI12,hS5,hS6,H⟩:=q0u H (i:=2) rfl hx2
   refine (J 7 hvb3 hx2) ((LA H 4) ((V) ?_))
   refine (bb hb2 fun y3 hy3 hb2=>?_)
   obtain⟨F,hF,hcl⟩:=H.call
   refine (CA ok206 (ih_sl4Uses hy3 (q0b.2 ⟨_,rfl,hI9,hI10,hI11,hI12,hS5,hS6,(hF.get (i:=6) rfl)⟩) (hF.get (i:=3) rfl))) ?_
   rintro _ w6 hE ⟨A8,n8,c8,rfl,H'⟩
   let d4:List Value:=[.int .i64 x2.Kind,.int .i64 x2.N,.int .i64 x2.Pos,.int .i64 x2.Type_,.string x2.Symbol,.string x2.Name,.slice A7 n7 c7]
   have H:HL F0 [] w0 w6 [Pr.R a0 d2,Pr.S a1 (.slice A1' n1' c1'),Pr.S a0.Args (.slice A1 n1 c1),Pr.S s2 (.slice A6 n6 c6),Pr.A b3 (ob3+k2*7) d4,Pr.R x2 d4,Pr.S x2.Args (.slice A7 n7 c7),Pr.S y3 (.slice A8 n8 c8)] [It.B b1 58 d2]:=hcl H'
   refine (A) (Z (X ((V) ((AN hk4 hl2) ((A) (Z ?_))))))
   obtain rfl:=sm hb2
   exact⟨⟨k2+1,y3,(.slice A8 n8 c8)⟩,⟨rfl,rfl,rfl,trivial⟩,⟨hk4,hq2,H.out (fun _ h=>(h.keep 3).app ⟨h.get (i:=7) rfl,trivial⟩) (List.take_sublist 1 [It.B b1 58 d2])⟩,Nat.sub_lt_sub_left hk4 (Nat.lt_succ_self _)⟩
  ·obtain rfl:=e
   refine CE (R ((V) ((A) (Z (CR ?_)))))
   obtain rfl:=sm hr
   exact⟨_,res1 rfl rfl rfl,H.ext0,_,_,_,rfl,H.outM (fr':=[Pr.S s2 (.slice A6 n6 c6)]) [false] fun _ h=>⟨h.get (i:=3) rfl,trivial⟩⟩
def q3m:Nat→Expr→(List Occurrence)→Option (List Occurrence)
  | 0,_,_=>none
  | n+1,a0,a1=>q6Q (q3m n) a0 a1
def z2m (a0:Expr)(a1:(List Occurrence)):Option (List Occurrence):=recO fun n=>q3m n a0 a1
theorem z5G (n:Nat):∀ {a0:Expr}{a1 r:(List Occurrence)},q3m n a0 a1=some r→∀ {F0:Nat→Prop}{w0:World}{ca0}(ha0:rd F0 w0 a0 ca0){z1}(ha1:rdS F0 w0 a1 z1),RT 206 #[.agg ca0.toArray,z1] w0 fun v w=>∃ A0 n0 c0,v=(.slice A0 n0 c0)∧HL F0 [] w0 w [Pr.S r (.slice A0 n0 c0)] []:=by
 induction n with
 | zero=>intro a0 a1 r hr; exact nomatch (show (none:Option (List Occurrence))=some r from hr)
 | succ n ih=>intro a0 a1 r hr; exact z5F ih hr
theorem z7f {a0}{a1 r}(hr:z2m a0 a1=some r){ca0}(ha0:rd F0 w0 a0 ca0){z1}(ha1:rdS F0 w0 a1 z1):RT 206 #[.agg ca0.toArray,z1] w0 fun v w=>∃ A0 n0 c0,v=(.slice A0 n0 c0)∧HL F0 [] w0 w [Pr.S r (.slice A0 n0 c0)] []:=by
 obtain⟨n,hn⟩:=q2f hr
 exact z5G n hn ha0 ha1
def q5a (a0:Expr):Option (List Occurrence):=(z2m a0 []).bind fun y1=>some y1
theorem z0Q {a0}{r}(hr:q5a a0=some r){ca0}(ha0:rd F0 w0 a0 ca0):RT 188 #[.agg ca0.toArray] w0 fun v w=>∃ A0 n0 c0,v=(.slice A0 n0 c0)∧HL F0 [] w0 w [Pr.S r (.slice A0 n0 c0)] []:=by
 have H:=(HL.start F0 w0).argR ha0
 obtain⟨A1,n1,c1,rfl,hI1,hI2,hI3,hI4,hS1,hS2,H⟩:=q0X H (i:=0) rfl
 refine (En Tryz.func188) ?_
 refine R ((BX H) fun b1 w1 H=>(A) (Z (R ((LB H 0) ?_))))
 refine WL.lit0H (α:=Occurrence) rfl rfl rfl el52 sz55 H fun A2 n2 c2 w2 H=>?_
 have H:=H.frzO (i:=1) rfl
 refine (bb hr fun y1 hy1 hr=>?_)
 obtain⟨F,hF,hcl⟩:=H.call
 refine (CA ok206 (z7f hy1 (q0b.2 ⟨_,rfl,hI1,hI2,hI3,hI4,hS1,hS2,(hF.get (i:=1) rfl)⟩) (hF.get (i:=2) rfl))) ?_
 rintro _ w3 hE ⟨A3,n3,c3,rfl,H'⟩
 let d1:List Value:=[.int .i64 a0.Kind,.int .i64 a0.N,.int .i64 a0.Pos,.int .i64 a0.Type_,.string a0.Symbol,.string a0.Name,.slice A1 n1 c1]
 have H:HL F0 [] w0 w3 [Pr.R a0 d1,Pr.S a0.Args (.slice A1 n1 c1),Pr.S ([]:List Occurrence) (.slice A2 n2 c2),Pr.S y1 (.slice A3 n3 c3)] [It.B b1 58 d1,It.emp]:=hcl H'
 refine (A) (Z (CR ?_))
 obtain rfl:=sm hr
 exact⟨_,res1 rfl rfl rfl,H.ext0,_,_,_,rfl,H.outM (fr':=[Pr.S y1 (.slice A3 n3 c3)]) [false,false] fun _ h=>⟨h.get (i:=3) rfl,trivial⟩⟩
def z0n (a0:Grammar)(a1:Rule)(a2:Occurrence):Option Bool:=(q2z a2.Pos 0 (a1.Right.length:Int)).bind fun y1=>if y1=true then (q1V a1 a2.Pos).bind fun y2=>(q1I a0 y2).bind fun (y3,y4)=>(q1J y3 a2.Name).bind fun (y5,y6)=>if a2.Pos=0 then ( if y6=true then some (decide (y5.Mode=1)) else some false ).bind fun s1=>some s1 else ( if y6=true then some (decide (y5.Mode=2)) else some false ).bind fun s2=>some s2 else some false
theorem z7g {a0}{a1}{a2}{r}(hr:z0n a0 a1 a2=some r){ca0}(ha0:rd F0 w0 a0 ca0){ca1}(ha1:rd F0 w0 a1 ca1){ca2}(ha2:rd F0 w0 a2 ca2):RT 189 #[.agg ca0.toArray,.agg ca1.toArray,.agg ca2.toArray] w0 fun v w=>v = .bool r:=by
 have H:=(((HL.start F0 w0).argR ha0).argR ha1).argR ha2
 obtain⟨A1,n1,c1,A2,n2,c2,rfl,H⟩:=q0e H (i:=0) rfl
 obtain⟨A3,n3,c3,A4,n4,c4,A5,n5,c5,rfl,hS1,hS2,H⟩:=q0z H (i:=1) rfl
 obtain⟨rfl,hI1,hS3,H⟩:=q0H H (i:=2) rfl
 refine (En Tryz.func189) ?_
 refine R ((BX H) fun b1 w1 H=>(BX H) fun b2 w2 H=>(BX H) fun b3 w3 H=>(A) (Z (Y (R ((D 0) ((L H 2) ((D 2) ((L H 1) ((NI H 5) fun hl1=>?_)))))))))
 refine (bb hr fun y1 hy1 hr=>?_)
 refine (CA ok94 (q3d hy1 (F0:=fun _=>False) hI1 (by decide:I64 0) hl1)) (cE H fun w4 H=>(N) (Z (iM hr (fun _ hr=>?_) fun h1 hr=>?_)))
 ·exact R ((A) (Z (W1 hr)))
 ·refine K ?_
  refine (bb hr fun y2 hy2 hr=>?_)
  obtain⟨_,_,_,hS4⟩:=(q1C hy2 ⟨_,_,_,rfl,hS1,hS2,(rs H 5),(rs H 6),(rs H 7)⟩ hI1).get
  obtain⟨⟨y3,y4⟩,hy3,hr⟩:=bd hr
  refine Y ?_
  refine CW.any2 11 (fun ρ=>[.fix (.agg #[.slice A1 n1 c1,.slice A2 n2 c2]),.fix (.agg #[.string a1.Name,.string a1.Left,.slice A3 n3 c3,.bool a1.Literal,.slice A4 n4 c4,.slice A5 n5 c5]),.fix (.pointer (some ⟨b3,0+0,none⟩)),.fix (.int .i64 a2.Pos),.fix (.string y2),.free (fun S v w=>∃ A6:Option Addr,∃ n6:Nat,∃ c6:Nat,v = .tuple #[.agg #[.string y3.Name,.slice A6 n6 c6],.bool y4]∧y3.Name.size≤9223372036854775807∧NewI S w [It.O 41 y3.Attributes (.slice A6 n6 c6)]),.dep 24 id,.dep 18 (tupAt 0),.dep 18 (tupAt 1),.free (VarB 39 2),.wr 7 25 (WrB 39)]) [[],[],[],[],[],[],[24],[18],[18],[],[7,25]] NoM (fun _ _=>True) [] [none,none,none,none,none,none,none,none,none,none,some 9] (noM _) hmix (by kernel_rfl) rfl ⟨trivial,trivial,trivial,trivial,trivial,fun _ _ _ _ _ ⟨A6,n6,c6,hv,h0,hh⟩ hc hS hT=>⟨A6,n6,c6,hv,h0,hh.chgT hc hS⟩,trivial,trivial,trivial,fun _ _ _ _ _ h hc hS _=>h.chgT hc hS,fun _ _ _ _ _ _ h hc hS _=>h.chgT hc hS,trivial⟩ trivial (fun _ _ _ _ _ _ _=>trivial) ?_
  refine LL2.fx rfl rfl rfl rfl rfl (fun _ hq hK=>Ev.lda rfl ag31 sz31 rfl (At.blk ((H.ext hq).rB (i:=0) rfl)) rfl) ?_
  refine LL2.fx rfl rfl rfl rfl rfl (fun _ hq hK=>Ev.lda rfl ag47 sz47 rfl (At.blk ((H.ext hq).rB (i:=1) rfl)) rfl) ?_
  refine LL2.fx rfl rfl rfl rfl rfl (fun _ hq hK=>Ev.fa rfl fo55_0 rfl) ?_
  refine LL2.fx rfl rfl rfl rfl rfl (fun _ hq hK=>Ev.ld rfl ag3 rfl (((H.ext hq).rB (i:=2) rfl).cell rfl)) ?_
  refine LL2.fixed rfl rfl rfl rfl (fun _ hq hK=>OpX.call rfl rfl rfl rfl ok56 rfl (q1C hy2 ⟨_,_,_,rfl,hS1,hS2,(rs (H.ext hq) 5),(rs (H.ext hq) 6),(rs (H.ext hq) 7)⟩ hI1) fun _ _ hE h=>⟨hE,h.1⟩) ?_
  refine LL2.free rfl rfl rfl rfl (fun wq hq hK=>?_) (fun v_G1_5 S_G1_5=>?_)
  ·refine OpX.call rfl rfl rfl rfl ok55 rfl (q3p hy3 ⟨_,_,rfl,(rs (H.ext hq) 3),(rs (H.ext hq) 4)⟩ hS4) ?_
   rintro _ w hE ⟨A6,n6,c6,rfl,h0,hh⟩
   exact⟨hE,A6,n6,c6,rfl,h0,NewI.of hh ⟨fun _ _ _ _ _ h=>h,trivial⟩⟩
  refine LL2.mv rfl rfl rfl rfl rfl (.inl rfl) rfl ?_
  refine LL2.ex rfl rfl rfl rfl rfl rfl rfl (fun wq hq hK=>?_) ?_
  ·have hK:∀ j' (_:(q0g _).contains j'=true),_:=hK 6 rfl
   obtain⟨A6,n6,c6,rfl,_,_⟩:=hK 5 rfl
   exact⟨_,_,rfl,rfl⟩
  refine LL2.ex rfl rfl rfl rfl rfl rfl rfl (fun wq hq hK=>?_) ?_
  ·have hK:∀ j' (_:(q0g _).contains j'=true),_:=hK 6 rfl
   obtain⟨A6,n6,c6,rfl,_,_⟩:=hK 5 rfl
   exact⟨_,_,rfl,rfl⟩
  refine LL2.free rfl rfl rfl rfl (fun wq hq hK=>OpX.allocV rfl rfl ze39 rfl) (fun v_G1_9 S_G1_9=>?_)
  refine LL2.st (k:=2) rfl rfl rfl (by decide) rfl rfl rfl rfl sz39 rfl rfl (fun wq hq hK=>hK 9 rfl) (fun wq hq hK=>?_) ?_
  ·obtain⟨A6,n6,c6,rfl,_,_⟩:=hK 5 rfl
   exact⟨_,rfl,rfl,(all1 rfl (all1 rfl all0))⟩
  intro w5 hE _ hK hap hbd
  have hE:=chgNew hE
  obtain⟨A6,n6,c6,rfl,hS5,hN1⟩:=hK 5 (by decide)
  let d4:List Value:=[.string y3.Name,.slice A6 n6 c6]
  obtain⟨b4,rfl,hN2⟩:=wrNew (cells:=d4) (hK 9 (by decide)) (hK 10 (by decide)) rfl
  have H:=H.add hE (hN1.app hN2 fun q h1 h2=>absurd (hap 5 9 q h1 h2) (by decide)) ⟨fun _ _ _ _ _ h=>h,⟨fun _ _ _ _ _ h=>h,trivial⟩⟩ (fun q hq=>hq.elim (fun h=>(hbd 5 q h).1) fun h=>(hbd 9 q h).1)
  refine (A) (Z (Y ?_))
  refine CW.fresh [(5,pB b3),(7,pB b4)] ⟨rfl,rfl,trivial⟩ fun σ=>?_
  let d2:List Value:=[.string a1.Name,.string a1.Left,.slice A3 n3 c3,.bool a1.Literal,.slice A4 n4 c4,.slice A5 n5 c5]
  let d3:List Value:=[.int .i64 a2.Pos,.string a2.Name]
  let d5:List Value:=[.slice A1 n1 c1,.slice A2 n2 c2]
  let d1:List Pr:=[Pr.R a0 d5,Pr.R a1 d2,Pr.R a2 d3,Pr.S a0.Symbols (.slice A1 n1 c1),Pr.S a0.Rules (.slice A2 n2 c2),Pr.S a1.Right (.slice A3 n3 c3),Pr.S a1.Equations (.slice A4 n4 c4),Pr.S a1.Contributions (.slice A5 n5 c5)]
  let d6:It:=It.O 41 y3.Attributes (.slice A6 n6 c6)
  have H:HL F0 [] w0 w5 d1 [It.B b1 31 d5,It.B b2 47 d2,It.B b3 55 d3,d6,It.B b4 39 d4]:=H
  refine X ((LB H 4) ((D 1) ((L H 2) ?_)))
  obtain⟨⟨y5,y6⟩,hy4,hr⟩:=bd hr
  refine (CA ok57 (q3x hy4 ⟨_,rfl,hS5,(ro H 3)⟩ hS3)) ?_
  rintro _ w6 hE ⟨rfl,hS6,hI2,hI3⟩
  have H:=H.ext hE
  refine (V) ((EX) ((EX) ((AH ze41 H) fun b5 w7 H=>(SB H 5) fun w8 H=>(A) (Z (Y (R ((D 0) ((L H 2) ((B) (Z (iD hr (fun _ hr=>?_) fun _ hr=>?_)))))))))))
  ·refine R ((V) ?_)
   refine (bb hr fun q1 hm1 hr=>?_)
   refine cu H 5 [(42,.bool q1)] d1 [It.B b1 31 d5,It.B b2 47 d2,It.B b3 55 d3,d6,It.B b4 39 d4,It.B b5 41 [.string y5.Name,.int .i64 y5.Type_,.int .i64 y5.Mode,.bool y5.Circular]] ?_ fun σ w9 H=>?_
   ·refine jB hm1 (fun _ hm1=>?_) fun _ hm1=>?_
    ·exact (G) ((D 2) ((G) ((L H 5) ((G) ((B) ((T) (Z (C1 hm1))))))))
    ·exact (O) ((O) ((O) ((U) (Z (C1 hm1)))))
   ·exact (A) (Z (W1 hr))
  ·refine K (R ((V) ?_))
   refine (bb hr fun q2 hm2 hr=>?_)
   refine cu H 5 [(48,.bool q2)] d1 [It.B b1 31 d5,It.B b2 47 d2,It.B b3 55 d3,d6,It.B b4 39 d4,It.B b5 41 [.string y5.Name,.int .i64 y5.Type_,.int .i64 y5.Mode,.bool y5.Circular]] ?_ fun σ w10 H=>?_
   ·refine jB hm2 (fun _ hm2=>?_) fun _ hm2=>?_
    ·exact (G) ((D 2) ((G) ((L H 5) ((G) ((B) ((T) (Z (C1 hm2))))))))
    ·exact (O) ((O) ((O) ((U) (Z (C1 hm2)))))
   ·exact (A) (Z (W1 hr))
def z2n (a0:Grammar)(a1:Rule):Nat→Occurrence→Unit→Option (Unit ⊕ Bool):=fun k1 x1 _=>(z0n a0 a1 x1).bind fun y2=>if y2=true then some (.inl ()) else some (.inr false)
def q6I (a0:Grammar)(a1:Rule)(a2:Expr):Option Bool:=(q5a a2).bind fun y1=>(findL (z2n a0 a1) 0 y1 ()).bind <| onr (fun r1=>some r1) fun _=>some true
theorem q9H {a0}{a1}{a2}{r}(hr:q6I a0 a1 a2=some r){ca0}(ha0:rd F0 w0 a0 ca0){ca1}(ha1:rd F0 w0 a1 ca1){ca2}(ha2:rd F0 w0 a2 ca2):RT 161 #[.agg ca0.toArray,.agg ca1.toArray,.agg ca2.toArray] w0 fun v w=>v = .bool r:=by
 have H:=(((HL.start F0 w0).argR ha0).argR ha1).argR ha2
 obtain⟨A1,n1,c1,A2,n2,c2,rfl,H⟩:=q0e H (i:=0) rfl
 obtain⟨A3,n3,c3,A4,n4,c4,A5,n5,c5,rfl,hS1,hS2,H⟩:=q0z H (i:=1) rfl
 obtain⟨A6,n6,c6,rfl,hI1,hI2,hI3,hI4,hS3,hS4,H⟩:=q0X H (i:=2) rfl
 refine (En Tryz.func161) ?_
 refine R ((BX H) fun b1 w1 H=>(BX H) fun b2 w2 H=>(BX H) fun b3 w3 H=>(A) (Z (R ((LB H 2) ?_))))
 refine (bb hr fun y1 hy1 hr=>?_)
 obtain⟨F,hF,hcl⟩:=H.call
 refine (CA ok188 (z0Q hy1 (q0b.2 ⟨_,rfl,hI1,hI2,hI3,hI4,hS3,hS4,(hF.get (i:=8) rfl)⟩))) ?_
 rintro _ w4 hE ⟨A7,n7,c7,rfl,H'⟩
 let d3:List Value:=[.int .i64 a2.Kind,.int .i64 a2.N,.int .i64 a2.Pos,.int .i64 a2.Type_,.string a2.Symbol,.string a2.Name,.slice A6 n6 c6]
 let d4:List Value:=[.string a1.Name,.string a1.Left,.slice A3 n3 c3,.bool a1.Literal,.slice A4 n4 c4,.slice A5 n5 c5]
 let d1:List Pr:=[Pr.R a0 [.slice A1 n1 c1,.slice A2 n2 c2],Pr.R a1 d4,Pr.R a2 d3,Pr.S a0.Symbols (.slice A1 n1 c1),Pr.S a0.Rules (.slice A2 n2 c2),Pr.S a1.Right (.slice A3 n3 c3),Pr.S a1.Equations (.slice A4 n4 c4),Pr.S a1.Contributions (.slice A5 n5 c5),Pr.S a2.Args (.slice A6 n6 c6),Pr.S y1 (.slice A7 n7 c7)]
 let d2:List It:=[It.B b1 31 [.slice A1 n1 c1,.slice A2 n2 c2],It.B b2 47 d4,It.B b3 58 d3]
 have H:HL F0 [] w0 w4 d1 d2:=hcl H'
 refine (A) (Z (Y (R ((A) (Z ?_)))))
 refine (bb hr fun q1 hq1 hr=>?_)
 refine (lF hq1 (fun k1 _ _=>[(3,pB b1),(4,pB b2),(7,.slice A7 n7 c7),(8,zN k1)]) (fun _ _ w=>HL F0 [] w0 w d1 d2) ()) ?_
 rintro k1 _ _ σ w5 hk1 hq1 H
 refine Y (R ((V) ((V) ((NI H 9) fun hl1=>(B) (Z ?_)))))
 refine (iF hq1 hr (fun hk2 x1 z1 hx1 hb1 hs1 ht1=>?_) fun hr=>?_)
 ·refine K (Y ?_)
  refine CW.block (Y ?_)
  refine CW.quiet hmix (by kernel_rfl) ?_
  refine (qLB H 0) ((qLB H 1) ((qV) ((qV) ?_)))
  obtain⟨b4,ob4,cb4,hvb4,hI5,hS5,H⟩:=q2q H (i:=9) rfl hx1
  refine (qJ 2 hvb4 hx1) ((qLA H 10) ?_)
  refine (bb hb1 fun y2 hy2 hb1=>?_)
  refine (qC ok189 (fun _ hq=>z7g hy2 ⟨_,_,rfl,(rs (H.ext hq) 3),(rs (H.ext hq) 4)⟩ ⟨_,_,_,rfl,hS1,hS2,(rs (H.ext hq) 5),(rs (H.ext hq) 6),(rs (H.ext hq) 7)⟩ ⟨rfl,hI5,hS5⟩)) ?_
  refine (qN) ?_
  refine QL.nil (fun w6 hE=>?_)
  have H:=H.ext hE
  refine iM hb1 (fun _ hb1=>?_) fun _ hb1=>?_
  ·exact R ((A) (Z (W2 hb1 ht1 hr)))
  ·exact K (X ((V) ((AN hk2 hl1) ((A) (Z (I2 hb1 hs1 ⟨k1+1,(),()⟩))))))
 ·exact CE (R ((A) (Z (W1 hr))))
def z0o (a0:Grammar)(a1:Rule):Nat→Equation→Unit→Option (Unit ⊕ Bool):=fun k1 x1 _=>(q6I a0 a1 x1.Expr).bind fun y1=>if y1=true then some (.inl ()) else some (.inr true)
def z0p (a0:Grammar)(a1:Rule):Nat→Contribution→Unit→Option (Unit ⊕ Bool):=fun k2 x2 _=>(q6I a0 a1 x2.Target).bind fun y2=>if y2=true then (q6I a0 a1 x2.Value).bind fun y3=>if y3=true then some (.inl ()) else some (.inr true) else some (.inr true)
def q7k (a0:Grammar)(a1:Rule):Option Bool:=(findL (z0o a0 a1) 0 a1.Equations ()).bind <| onr (fun r1=>some r1) fun _=>(findL (z0p a0 a1) 0 a1.Contributions ()).bind <| onr (fun r2=>some r2) fun _=>some false
theorem z3U {a0}{a1}{r}(hr:q7k a0 a1=some r){ca0}(ha0:rd F0 w0 a0 ca0){ca1}(ha1:rd F0 w0 a1 ca1):RT 127 #[.agg ca0.toArray,.agg ca1.toArray] w0 fun v w=>v = .bool r:=by
 have H:=((HL.start F0 w0).argR ha0).argR ha1
 obtain⟨A1,n1,c1,A2,n2,c2,rfl,H⟩:=q0e H (i:=0) rfl
 obtain⟨A3,n3,c3,A4,n4,c4,A5,n5,c5,rfl,hS1,hS2,H⟩:=q0z H (i:=1) rfl
 refine (En Tryz.func127) ?_
 refine R ((BX H) fun b1 w1 H=>(BX H) fun b2 w2 H=>(A) (Z (Y (R ((A) (Z ?_))))))
 refine (bb hr fun q1 hq1 hr=>?_)
 let d1:List Value:=[.string a1.Name,.string a1.Left,.slice A3 n3 c3,.bool a1.Literal,.slice A4 n4 c4,.slice A5 n5 c5]
 let d5:List Value:=[.slice A1 n1 c1,.slice A2 n2 c2]
 let d7:Pr:=Pr.S a1.Contributions (.slice A5 n5 c5)
 let d8:Pr:=Pr.S a1.Equations (.slice A4 n4 c4)
 let d9:Pr:=Pr.S a0.Symbols (.slice A1 n1 c1)
 let d10:Pr:=Pr.S a0.Rules (.slice A2 n2 c2)
 let d11:Pr:=Pr.S a1.Right (.slice A3 n3 c3)
 let d4:List Pr:=[Pr.R a0 d5,Pr.R a1 d1,d9,d10,d11,d8,d7]
 let d6:List It:=[It.B b1 31 d5,It.B b2 47 d1]
 refine (lF hq1 (fun k1 _ _=>[(2,pB b1),(3,pB b2),(5,zN k1)]) (fun _ _ w=>HL F0 [] w0 w d4 d6) ()) ?_
 rintro k1 _ _ σ w3 hk1 hq1 H
 refine Y (R ((V) ((D 4) ((L H 1) ((NI H 5) fun hl1=>(B) (Z ?_))))))
 refine (iF hq1 hr (fun hk2 x1 z1 hx1 hb1 hs1 ht1=>?_) fun hr=>?_)
 ·refine K (Y ?_)
  refine CW.block (Y ?_)
  refine CW.quiet hmix (by kernel_rfl) ?_
  refine (qLB H 0) ((qLB H 1) ((qD 4) ((qL H 1) ((qV) ?_))))
  obtain⟨b3,ob3,cb3,A6,n6,c6,hvb3,hI1,hS3,hI2,hI3,hI4,hI5,hS4,hS5,H⟩:=q1B H (i:=5) rfl hx1
  refine (qJ 9 hvb3 hx1) ((qD 2) ?_)
  refine QL.ev rfl rfl (fun _ hq=>Ev.lda rfl ag58 sz58 rfl (((H.ext hq).rA (i:=7) rfl).part 2 7) rfl) ?_
  refine (bb hb1 fun y1 hy1 hb1=>?_)
  refine (qC ok161 (fun _ hq=>q9H hy1 ⟨_,_,rfl,(rs (H.ext hq) 2),(rs (H.ext hq) 3)⟩ ⟨_,_,_,rfl,hS1,hS2,(rs (H.ext hq) 4),(rs (H.ext hq) 5),(rs (H.ext hq) 6)⟩ (q0b.2 ⟨_,rfl,hI2,hI3,hI4,hI5,hS4,hS5,(rs (H.ext hq) 9)⟩))) ?_
  refine (qN) ?_
  refine QL.nil (fun w4 hE=>?_)
  have H:=H.ext hE
  refine iM hb1 (fun _ hb1=>?_) fun _ hb1=>?_
  ·exact R ((A) (Z (W2 hb1 ht1 hr)))
  ·exact K (X ((V) ((AN hk2 hl1) ((A) (Z (I2 hb1 hs1 ⟨k1+1,(),()⟩))))))
 ·refine CE (Y (R ((A) (Z ?_))))
  refine (bb hr fun q2 hq2 hr=>?_)
  refine (lF hq2 (fun k2 _ _=>[(2,pB b1),(3,pB b2),(6,zN k2)]) (fun _ _ w=>HL F0 [] w0 w d4 d6) ()) ?_
  rintro k2 _ _ σ w5 hk3 hq2 H
  refine Y (R ((V) ((D 5) ((L H 1) ((NI H 6) fun hl2=>(B) (Z ?_))))))
  refine (iF hq2 hr (fun hk4 x2 z2 hx2 hb2 hs2 ht2=>?_) fun hr=>?_)
  ·refine K (Y ?_)
   refine CW.block (Y ?_)
   refine CW.quiet hmix (by kernel_rfl) ?_
   refine (qLB H 0) ((qLB H 1) ((qD 5) ((qL H 1) ((qV) ?_))))
   obtain⟨b4,ob4,cb4,A7,n7,c7,A8,n8,c8,hvb4,hS6,hS7,hI6,hI7,hI8,hI9,hS8,hS9,hI10,hI11,hI12,hI13,hS10,hS11,H⟩:=q3i H (i:=6) rfl hx2
   refine (qJ 16 hvb4 hx2) ((qD 2) ?_)
   refine QL.ev rfl rfl (fun _ hq=>Ev.lda rfl ag58 sz58 rfl (((H.ext hq).rA (i:=7) rfl).part 2 7) rfl) ?_
   refine (bb hb2 fun y2 hy2 hb2=>?_)
   refine (qC ok161 (fun _ hq=>q9H hy2 ⟨_,_,rfl,(rs (H.ext hq) 2),(rs (H.ext hq) 3)⟩ ⟨_,_,_,rfl,hS1,hS2,(rs (H.ext hq) 4),(rs (H.ext hq) 5),(rs (H.ext hq) 6)⟩ (q0b.2 ⟨_,rfl,hI6,hI7,hI8,hI9,hS8,hS9,(rs (H.ext hq) 9)⟩))) ?_
   refine (qN) ?_
   refine kM hb2 (fun _ hb2=>?_) fun _ hb2=>?_
   ·refine (qO) ((qO) ((qO) ((qO) ((qO) ((qO) ((qO) ((qO) ((qO) ((qO) ((qT) ?_))))))))))
    refine QL.nil (fun w6 hE=>?_)
    have H:=H.ext hE
    exact (cT) (R ((A) (Z (W2 hb2 ht2 hr))))
   ·refine (qG) ((qLB H 0) ((qG) ((qLB H 1) ((qG) ((qD 5) ((qG) ((qL H 1) ((qG) ((qV) ((qG) ((qJ 16 hvb4 hx2) ((qG) ((qD 9) ((qG) ?_))))))))))))))
    refine QL.ev rfl rfl (fun _ hq=>Ev.lda rfl ag58 sz58 rfl (((H.ext hq).rA (i:=7) rfl).part 9 7) rfl) ?_
    refine (qG) ?_
    refine (bb hb2 fun y3 hy3 hb2=>?_)
    refine (qC ok161 (fun _ hq=>q9H hy3 ⟨_,_,rfl,(rs (H.ext hq) 2),(rs (H.ext hq) 3)⟩ ⟨_,_,_,rfl,hS1,hS2,(rs (H.ext hq) 4),(rs (H.ext hq) 5),(rs (H.ext hq) 6)⟩ (q0b.2 ⟨_,rfl,hI10,hI11,hI12,hI13,hS10,hS11,(rs (H.ext hq) 10)⟩))) ?_
    refine (qG) ((qN) ((qU) ?_))
    refine QL.nil (fun w7 hE=>?_)
    have H:=H.ext hE
    refine iM hb2 (fun _ hb2=>?_) fun _ hb2=>?_
    ·refine Y ?_
     refine CW.fresh [] trivial fun σ=>?_
     let d2:List Value:=[.string x2.Symbol,.string x2.Name,.int .i64 x2.Target.Kind,.int .i64 x2.Target.N,.int .i64 x2.Target.Pos,.int .i64 x2.Target.Type_,.string x2.Target.Symbol,.string x2.Target.Name,.slice A7 n7 c7,.int .i64 x2.Value.Kind,.int .i64 x2.Value.N,.int .i64 x2.Value.Pos,.int .i64 x2.Value.Type_,.string x2.Value.Symbol,.string x2.Value.Name,.slice A8 n8 c8]
     have H:HL F0 [] w0 w7 [Pr.R a0 d5,Pr.R a1 d1,d9,d10,d11,d8,d7,Pr.A b4 (ob4+k2*16) d2,Pr.R x2 d2,Pr.S x2.Target.Args (.slice A7 n7 c7),Pr.S x2.Value.Args (.slice A8 n8 c8)] d6:=H
     exact X ((A) (Z (W2 hb2 ht2 hr)))
    ·refine K ?_
     refine CW.fresh [(2,pB b1),(3,pB b2),(6,zN k2),(42,.agg #[.slice A1 n1 c1,.slice A2 n2 c2]),(43,.agg #[.string a1.Name,.string a1.Left,.slice A3 n3 c3,.bool a1.Literal,.slice A4 n4 c4,.slice A5 n5 c5]),(44,.pointer (some ⟨b2,0+5,none⟩)),(45,.slice A5 n5 c5),(46,zN k2),(47,.pointer (some ⟨b4,ob4+k2*16,none⟩)),(48,.pointer (some ⟨b4,ob4+k2*16+9,none⟩)),(49,.agg #[.int .i64 x2.Value.Kind,.int .i64 x2.Value.N,.int .i64 x2.Value.Pos,.int .i64 x2.Value.Type_,.string x2.Value.Symbol,.string x2.Value.Name,.slice A8 n8 c8]),(50,.bool y3),(51,.bool (!y3))] ⟨rfl,rfl,rfl,rfl,rfl,rfl,rfl,rfl,rfl,rfl,rfl,rfl,rfl,trivial⟩ fun σ=>?_
     let d3:List Value:=[.string x2.Symbol,.string x2.Name,.int .i64 x2.Target.Kind,.int .i64 x2.Target.N,.int .i64 x2.Target.Pos,.int .i64 x2.Target.Type_,.string x2.Target.Symbol,.string x2.Target.Name,.slice A7 n7 c7,.int .i64 x2.Value.Kind,.int .i64 x2.Value.N,.int .i64 x2.Value.Pos,.int .i64 x2.Value.Type_,.string x2.Value.Symbol,.string x2.Value.Name,.slice A8 n8 c8]
     have H:HL F0 [] w0 w7 [Pr.R a0 d5,Pr.R a1 d1,d9,d10,d11,d8,d7,Pr.A b4 (ob4+k2*16) d3,Pr.R x2 d3,Pr.S x2.Target.Args (.slice A7 n7 c7),Pr.S x2.Value.Args (.slice A8 n8 c8)] d6:=H
     exact X ((V) ((AN hk4 hl2) ((A) (Z (I2 hb2 hs2 ⟨k2+1,(),()⟩)))))
  ·exact CE (R ((A) (Z (W1 hr))))
def q7l (a0:Grammar)(a1:Rule)(a2:Int):Option Bool:=if a2=3 then (q6p a0 a1).bind fun y1=>some (!y1) else if a2=4 then (q6q a0 a1).bind fun y2=>some y2 else if a2=5 then (q8e a0 a1).bind fun y3=>some y3 else (q7k a0 a1).bind fun y4=>some y4
theorem z3V {a0}{a1}{a2}{r}(hr:q7l a0 a1 a2=some r){ca0}(ha0:rd F0 w0 a0 ca0){ca1}(ha1:rd F0 w0 a1 ca1)(ha2:I64 a2):RT 96 #[.agg ca0.toArray,.agg ca1.toArray,.int .i64 a2] w0 fun v w=>v = .bool r:=by
 have H:=((HL.start F0 w0).argR ha0).argR ha1
 obtain⟨A1,n1,c1,A2,n2,c2,rfl,H⟩:=q0e H (i:=0) rfl
 obtain⟨A3,n3,c3,A4,n4,c4,A5,n5,c5,rfl,hS1,hS2,H⟩:=q0z H (i:=1) rfl
 refine (En Tryz.func96) ?_
 refine R ((BX H) fun b1 w1 H=>(BX H) fun b2 w2 H=>(A) (Z (Y (R ((V) (Z ?_))))))
 refine CW.block (R ((B) ((A) (Z (iD hr (fun _ hr=>?_) fun _ hr=>?_)))))
 ·refine R ((LB H 0) ((LB H 1) ?_))
  refine (bb hr fun y1 hy1 hr=>?_)
  exact (CA ok124 (z3b hy1 ⟨_,_,rfl,(rs H 2),(rs H 3)⟩ ⟨_,_,_,rfl,hS1,hS2,(rs H 4),(rs H 5),(rs H 6)⟩)) (cE H fun w3 H=>(N) ((A) (Z (W1 hr))))
 ·refine R ((B) ((A) (Z (iD hr (fun _ hr=>?_) fun _ hr=>?_))))
  ·refine R ((LB H 0) ((LB H 1) ?_))
   refine (bb hr fun y2 hy2 hr=>?_)
   exact (CA ok125 (z3c hy2 ⟨_,_,rfl,(rs H 2),(rs H 3)⟩ ⟨_,_,_,rfl,hS1,hS2,(rs H 4),(rs H 5),(rs H 6)⟩)) (cE H fun w4 H=>(A) (Z (W1 hr)))
  ·refine R ((B) ((A) (Z (iD hr (fun _ hr=>?_) fun _ hr=>?_))))
   ·refine R ((LB H 0) ((LB H 1) ?_))
    refine (bb hr fun y3 hy3 hr=>?_)
    exact (CA ok126 (z4N hy3 ⟨_,_,rfl,(rs H 2),(rs H 3)⟩ ⟨_,_,_,rfl,hS1,hS2,(rs H 4),(rs H 5),(rs H 6)⟩)) (cE H fun w5 H=>(A) (Z (W1 hr)))
   ·refine K (R ((LB H 0) ((LB H 1) ?_)))
    refine (bb hr fun y4 hy4 hr=>?_)
    exact (CA ok127 (z3U hy4 ⟨_,_,rfl,(rs H 2),(rs H 3)⟩ ⟨_,_,_,rfl,hS1,hS2,(rs H 4),(rs H 5),(rs H 6)⟩)) (cE H fun w6 H=>(A) (Z (W1 hr)))
def q9y:Nat→Attribute→Unit→Option (Unit ⊕ (Int × Int)):=fun k1 x2 _=>if x2.Mode=1 then some (.inr (2,0)) else some (.inl ())
def q5U (a0:Grammar)(s1:Int):Nat→Rule→Unit→Option (Unit ⊕ (Int × Int)):=fun k2 x3 _=>(q7l a0 x3 s1).bind fun y4=>if y4=true then some (.inr (s1,(k2:Int))) else some (.inl ())
def q5V (a0:Grammar):Int→Option (Int ⊕ (Unit ⊕ (Int × Int))):=fun s1=>if s1≤6 then (findL (q5U a0 s1) 0 a0.Rules ()).bind <| onr (fun r2=>some (.inr (.inr r2))) fun _=>grd (I64 (s1+1)) <| some (.inl (s1+1)) else some (.inr (.inl ()))
def q6r (a0:Grammar):Option (Int × Int):=(q2z (a0.Symbols.length:Int) 1 4).bind fun y1=>if y1=true then (q2z (a0.Rules.length:Int) 1 8).bind fun y2=>if y2=true then (z0m a0).bind fun y3=>if 0≤y3 then some (1,y3) else (a0.Symbols[0]?).bind fun x1=>(findL q9y 0 x1.Attributes ()).bind <| onr (fun r1=>some r1) fun _=>( iterO (q5V a0) 3 ).bind <| onr (fun r3=>some r3) fun ()=>some (0,0) else some (1,0) else some (1,0)
theorem z3d {a0}{r}(hr:q6r a0=some r){ca0}(ha0:rd F0 w0 a0 ca0):RT 60 #[.agg ca0.toArray] w0 fun v w=>v = .tuple #[.int .i64 r.1,.int .i64 r.2]∧I64 r.1∧I64 r.2:=by
 have H:=(HL.start F0 w0).argR ha0
 obtain⟨A1,n1,c1,A2,n2,c2,rfl,H⟩:=q0e H (i:=0) rfl
 refine (En Tryz.func60) ?_
 refine R ((BX H) fun b1 w1 H=>(A) ((A) (Z (Y (R ((D 0) ((L H 0) ((NI H 1) fun hl1=>?_))))))))
 refine (bb hr fun y1 hy1 hr=>?_)
 refine (CA ok94 (q3d hy1 (F0:=fun _=>False) hl1 (by decide:I64 1) (by decide:I64 4))) (cE H fun w2 H=>(N) (jM hr (fun _ hr=>?_) fun _ hr=>?_))
 ·exact (O) ((O) ((O) ((O) ((O) ((T) (Z ((cT) (R ((A) ((A) (Z (W1 hr))))))))))))
 ·refine (G) ((D 1) ((G) ((L H 0) ((G) ((NI H 2) fun hl2=>(G) ?_)))))
  refine (bb hr fun y2 hy2 hr=>?_)
  refine (CA ok94 (q3d hy2 (F0:=fun _=>False) hl2 (by decide:I64 1) (by decide:I64 8))) (cE H fun w3 H=>(G) ((N) ((U) (Z (iM hr (fun _ hr=>?_) fun _ hr=>?_)))))
  ·exact R ((A) ((A) (Z (W1 hr))))
  ·refine K (R ((LB H 0) ?_))
   refine (bb hr fun y3 hy3 hr=>?_)
   refine (CA ok95 (z7d hy3 ⟨_,_,rfl,(rs H 1),(rs H 2)⟩)) (cF' H fun w4 hI1 H=>(A) (Z (Y (R ((V) ((B) (Z (iD hr (fun _ hr=>?_) fun _ hr=>?_))))))))
   ·exact R ((V) ((A) ((A) (Z (W1 hr)))))
   ·refine K (Y (R ((A) (Z ?_))))
    refine (bb hr fun x1 hx1 hr=>?_)
    refine (bb hr fun q1 hq1 hr=>?_)
    let d2:List Value:=[.slice A1 n1 c1,.slice A2 n2 c2]
    refine (lF hq1 (fun k1 _ _=>[(1,pB b1),(5,zN k1)]) (fun _ _ w=>HL F0 [] w0 w [Pr.R a0 d2,Pr.S a0.Symbols (.slice A1 n1 c1),Pr.S a0.Rules (.slice A2 n2 c2)] [It.B b1 31 d2]) ()) ?_
    rintro k1 _ _ σ w5 hk1 hq1 H
    refine Y (R ((V) ((D 0) ((L H 0) ?_))))
    obtain⟨b2,ob2,cb2,A3,n3,c3,hvb2,hS1,H⟩:=q2w H (i:=1) rfl hx1
    refine (J 2 hvb2 hx1) ((D 1) ((LC H 3) ((NI H 5) fun hl3=>(B) (Z ?_))))
    refine (iF hq1 hr (fun hk2 x2 z1 hx2 hb1 hs1 ht1=>?_) fun hr=>?_)
    ·refine K (Y ?_)
     refine CW.block (R ((D 0) ((L H 0) ((J 2 hvb2 hx1) ((D 1) ((LC H 3) ((V) ?_)))))))
     obtain⟨b3,ob3,cb3,hvb3,hS2,hI2,hI3,H⟩:=q1U H (i:=5) rfl hx2
     refine (J 4 hvb3 hx2) ((D 2) ((LC H 6) ((B) (Z (iD hb1 (fun _ hb1=>?_) fun _ hb1=>?_)))))
     ·exact R ((A) ((A) (Z (W2 hb1 ht1 hr))))
     ·exact K (X ((V) ((AN hk2 hl3) ((A) (Z (I2 hb1 hs1 ⟨k1+1,(),()⟩))))))
    ·refine CE (Y (R ((A) (Z ?_))))
     refine (bb hr fun q2 hm1 hr=>?_)
     let d1:List Pr:=[Pr.R a0 d2,Pr.S a0.Symbols (.slice A1 n1 c1),Pr.S a0.Rules (.slice A2 n2 c2),Pr.A b2 (ob2+0*2) [.string x1.Name,.slice A3 n3 c3],Pr.R x1 [.string x1.Name,.slice A3 n3 c3],Pr.S x1.Attributes (.slice A3 n3 c3)]
     refine CW.mid (fun ρ' w=>q2 = .inl ()∧agree ρ' []∧HL F0 [] w0 w d1 [It.B b1 31 d2]) ?_ ?_
     ·obtain⟨m1,hq2⟩:=q2m.1 hm1
      refine (lI hq2 (fun m1 s1 _=>[(1,pB b1),(6,.int .i64 s1)]) (fun s1 _ w=>I64 s1∧HL F0 [] w0 w d1 [It.B b1 31 d2]) ()) ?_
      rintro m1 s1 _ σ w6 hq2 ⟨hI4,H⟩
      obtain⟨m2,z2,rfl,hb2,hs2,ht2⟩:=q4S hq2
      refine Y (R ((V) ((B) (Z (iD hb2 (fun _ hb2=>?_) fun _ hb2=>?_)))))
      ·refine K (Y ?_)
       refine CW.block (R ((A) (Z ?_)))
       refine (bb hb2 fun q3 hq3 hb2=>?_)
       refine (lF hq3 (fun k2 _ _=>[(1,pB b1),(6,.int .i64 s1),(7,zN k2)]) (fun _ _ w=>HL F0 [] w0 w d1 [It.B b1 31 d2]) ()) ?_
       rintro k2 _ _ σ w7 hk3 hq3 H
       refine Y (R ((V) ((D 1) ((L H 0) ((NN (rs H 2)) ((B) (Z ?_)))))))
       refine (iF hq3 hb2 (fun hk4 x3 z3 hx3 hb3 hs3 ht3=>?_) fun hb2=>?_)
       ·refine K (Y ?_)
        refine CW.block (Y ?_)
        refine CW.quiet hmix (by kernel_rfl) ?_
        refine (qLB H 0) ((qD 1) ((qL H 0) ((qV) ?_)))
        obtain⟨b4,ob4,cb4,A4,n4,c4,A5,n5,c5,A6,n6,c6,hvb4,hS3,hS4,H⟩:=q4W H (i:=2) rfl hx3
        refine (qJ 6 hvb4 hx3) ((qLA H 6) ((qV) ?_))
        refine (bb hb3 fun y4 hy4 hb3=>?_)
        refine (qC ok96 (fun _ hq=>z3V hy4 ⟨_,_,rfl,(rs (H.ext hq) 1),(rs (H.ext hq) 2)⟩ ⟨_,_,_,rfl,hS3,hS4,(rs (H.ext hq) 8),(rs (H.ext hq) 9),(rs (H.ext hq) 10)⟩ hI4)) ?_
        refine QL.nil (fun w8 hE=>?_)
        have H:=H.ext hE
        refine iB hb3 (fun _ hb3=>?_) fun _ hb3=>?_
        ·exact R ((V) ((V) ((A) ((A) (Z (W3 hb3 ht3 hb2 ht2 hr))))))
        ·exact K (X ((V) ((AN hk4 hl2) ((A) (Z (I2 hb3 hs3 ⟨k2+1,(),()⟩))))))
       ·refine CE (X ((V) ?_))
        exact (gg hb2 fun hg1 hb2=>(BN (Bin.add hg1)) ((A) (Z (I2 hb2 hs2 ⟨m2,(s1+1),()⟩))))
      ·exact CE (C2 hb2 ht2)
     ·rintro ρ' w9 ⟨rfl,hag,H⟩
      obtain⟨σ,rfl⟩:=ofL_ex hag
      exact R ((A) ((A) (Z (W1 hr))))
def q3y (a0:Grammar)(a1 a2:ByteArray):Option Int:=(q1I a0 a1).bind fun (y1,y2)=>(q1J y1 a2).bind fun (y3,y4)=>if y4=true then some y3.Type_ else some 0
theorem q3V {a0}{a1 a2}{r}(hr:q3y a0 a1 a2=some r){ca0}(ha0:rd F0 w0 a0 ca0)(ha1:a1.size≤9223372036854775807)(ha2:a2.size≤9223372036854775807):RT 98 #[.agg ca0.toArray,.string a1,.string a2] w0 fun v w=>v = .int .i64 r∧I64 r:=by
 have H:=(HL.start F0 w0).argR ha0
 obtain⟨A1,n1,c1,A2,n2,c2,rfl,H⟩:=q0e H (i:=0) rfl
 refine (En Tryz.func98) ?_
 refine R ((BX H) fun b1 w1 H=>(A) (Z (R ((LB H 0) ((V) ?_)))))
 obtain⟨⟨y1,y2⟩,hy1,hr⟩:=bd hr
 refine (CA ok55 (q3p hy1 ⟨_,_,rfl,(rs H 1),(rs H 2)⟩ ha1)) ?_
 rintro _ w2 hE ⟨A3,n3,c3,rfl,hS1,H'⟩
 have H:=H.callA H' ⟨fun _ _ _ _ _ h=>h,trivial⟩
 refine (V) ((EX) ((EX) ((AH ze39 H) fun b2 w3 H=>(SB H 2) fun w4 H=>(A) (Z (R ((LB H 2) ((V) ?_)))))))
 obtain⟨⟨y3,y4⟩,hy2,hr⟩:=bd hr
 refine (CA ok57 (q3x hy2 ⟨_,rfl,hS1,(ro H 1)⟩ ha2)) ?_
 rintro _ w5 hE ⟨rfl,hS2,hI1,hI2⟩
 have H:=H.ext hE
 refine (V) ((EX) ((EX) ((AH ze41 H) fun b3 w6 H=>(SB H 3) fun w7 H=>(A) (Z (Y (R ((V) ((N) (Z (iM hr (fun _ hr=>?_) fun _ hr=>?_))))))))))
 ·exact R ((A) (Z (W1 hr)))
 ·exact K (R ((D 1) ((L H 3) ((A) (Z (W1 hr))))))
def q5p (a0:Int):Option (Int × Int × Int):=(q2z a0 1 5).bind fun y1=>if y1=true then some (1,1,1) else (q2z a0 6 8).bind fun y2=>if y2=true then some (2,2,2) else if a0=9 then some (1,1,3) else if a0=10 then some (1,1,3) else if a0=11 then some (2,1,3) else if a0=12 then some (2,1,2) else some (0,0,0)
theorem z1t {a0}{r}(hr:q5p a0=some r){F0:Nat→Prop}(ha0:I64 a0):RT 162 #[.int .i64 a0] w0 fun v w=>v = .tuple #[.int .i64 r.1,.int .i64 r.2.1,.int .i64 r.2.2]∧I64 r.1∧I64 r.2.1∧I64 r.2.2:=by
 have H:=HL.start F0 w0
 refine (En Tryz.func162) ?_
 refine R ((A) ((A) ((A) (Z (Y ?_)))))
 refine CW.block (R ((V) ?_))
 refine (bb hr fun y1 hy1 hr=>?_)
 refine (CA ok94 (q3d hy1 (F0:=fun _=>False) ha0 (by decide:I64 1) (by decide:I64 5))) (cE H fun w1 H=>(A) (Z (iB hr (fun _ hr=>?_) fun _ hr=>?_)))
 ·exact R ((A) ((A) ((A) (Z (W1 hr)))))
 ·refine R ((V) ?_)
  refine (bb hr fun y2 hy2 hr=>?_)
  refine (CA ok94 (q3d hy2 (F0:=fun _=>False) ha0 (by decide:I64 6) (by decide:I64 8))) (cE H fun w2 H=>(A) (Z (iB hr (fun _ hr=>?_) fun _ hr=>?_)))
  ·exact R ((A) ((A) ((A) (Z (W1 hr)))))
  ·refine R ((V) ((B) (jD hr (fun _ hr=>?_) fun _ hr=>?_)))
   ·exact (O) ((O) ((T) ((A) (Z ((cT) (R ((A) ((A) ((A) (Z (W1 hr)))))))))))
   ·refine (G) ((V) ((G) ((B) ((U) ((A) (Z (iD hr (fun _ hr=>?_) fun _ hr=>?_)))))))
    ·exact R ((A) ((A) ((A) (Z (W1 hr)))))
    ·refine R ((V) ((B) ((A) (Z (iD hr (fun _ hr=>?_) fun _ hr=>?_)))))
     ·exact R ((A) ((A) ((A) (Z (W1 hr)))))
     ·refine R ((V) ((B) ((A) (Z (iD hr (fun _ hr=>?_) fun _ hr=>?_)))))
      ·refine Y ?_
       refine CW.fresh [] trivial fun σ=>?_
       have H:HL F0 [] w0 w2 [] []:=H
       exact X ((A) ((A) ((A) (Z (W1 hr)))))
      ·refine K (Y ?_)
       refine CW.fresh [] trivial fun σ=>?_
       have H:HL F0 [] w0 w2 [] []:=H
       exact X ((A) ((A) ((A) (Z (W1 hr)))))
def z3W (rec_sTypeOfExpr:Grammar→Rule→Expr→Option Int)(a0:Grammar)(a1:Rule)(a2:Expr):Option Int:=(q5p a2.N).bind fun (y1,y2,y3)=>if (a2.Args.length:Int)=2 then (a2.Args[0]?).bind fun x1=>(rec_sTypeOfExpr a0 a1 x1).bind fun y4=>if y4=y1 then (a2.Args[1]?).bind fun x2=>(rec_sTypeOfExpr a0 a1 x2).bind fun y5=>if y5=y2 then some y3 else some 0 else some 0 else some 0
theorem z7Q {rec_sTypeOfExpr:Grammar→Rule→Expr→Option Int}(ih_sTypeOfExpr:∀ {a0:Grammar}{a1:Rule}{a2:Expr}{r:Int},rec_sTypeOfExpr a0 a1 a2=some r→∀ {F0:Nat→Prop}{w0:World}{ca0}(ha0:rd F0 w0 a0 ca0){ca1}(ha1:rd F0 w0 a1 ca1){ca2}(ha2:rd F0 w0 a2 ca2),RT 97 #[.agg ca0.toArray,.agg ca1.toArray,.agg ca2.toArray] w0 fun v w=>v = .int .i64 r∧I64 r){a0}{a1}{a2}{r}(hr:z3W rec_sTypeOfExpr a0 a1 a2=some r){ca0}(ha0:rd F0 w0 a0 ca0){ca1}(ha1:rd F0 w0 a1 ca1){ca2}(ha2:rd F0 w0 a2 ca2):RT 128 #[.agg ca0.toArray,.agg ca1.toArray,.agg ca2.toArray] w0 fun v w=>v = .int .i64 r∧I64 r:=by
 have H:=(((HL.start F0 w0).argR ha0).argR ha1).argR ha2
 obtain⟨A1,n1,c1,A2,n2,c2,rfl,H⟩:=q0e H (i:=0) rfl
 obtain⟨A3,n3,c3,A4,n4,c4,A5,n5,c5,rfl,hS1,hS2,H⟩:=q0z H (i:=1) rfl
 obtain⟨A6,n6,c6,rfl,hI1,hI2,hI3,hI4,hS3,hS4,H⟩:=q0X H (i:=2) rfl
 refine (En Tryz.func128) ?_
 refine R ((BX H) fun b1 w1 H=>(BX H) fun b2 w2 H=>(BX H) fun b3 w3 H=>(A) (Z (R ((D 1) ((L H 2) ?_)))))
 obtain⟨⟨y1,y2,y3⟩,hy1,hr⟩:=bd hr
 refine (CA ok162 (z1t hy1 (F0:=fun _=>False) hI2)) ?_
 rintro _ w4 hE ⟨rfl,hI5,hI6,hI7⟩
 have H:=H.ext hE
 refine (V) ((EX) ((EX) ((EX) ((A) ((A) ((A) (Z (Y (Y ?_)))))))))
 refine CW.quiet hmix (by kernel_rfl) ?_
 refine (qD 6) ((qL H 2) ?_)
 have hl1:=(H.rS (i:=8) rfl).I
 refine (qNN (rs H 8)) ((qB) ?_)
 refine kN hr (fun _ hr=>?_) fun _ hr=>?_
 ·refine (qO) ((qO) ((qO) ((qO) ((qO) ((qO) ((qO) ((qO) ((qO) ((qT) ((qV) ((qO) ((qO) ((qO) ((qO) ((qO) ((qO) ((qO) ((qO) ((qO) ((qT) ?_))))))))))))))))))))
  refine QL.nil (fun w5 hE=>?_)
  have H:=H.ext hE
  refine (cT) (Y ?_)
  refine CW.fresh [] trivial fun σ=>?_
  let d1:List Value:=[.int .i64 a2.Kind,.int .i64 a2.N,.int .i64 a2.Pos,.int .i64 a2.Type_,.string a2.Symbol,.string a2.Name,.slice A6 n6 c6]
  let d10:List Value:=[.string a1.Name,.string a1.Left,.slice A3 n3 c3,.bool a1.Literal,.slice A4 n4 c4,.slice A5 n5 c5]
  have H:HL F0 [] w0 w5 [Pr.R a0 [.slice A1 n1 c1,.slice A2 n2 c2],Pr.R a1 d10,Pr.R a2 d1,Pr.S a0.Symbols (.slice A1 n1 c1),Pr.S a0.Rules (.slice A2 n2 c2),Pr.S a1.Right (.slice A3 n3 c3),Pr.S a1.Equations (.slice A4 n4 c4),Pr.S a1.Contributions (.slice A5 n5 c5),Pr.S a2.Args (.slice A6 n6 c6)] [It.B b1 31 [.slice A1 n1 c1,.slice A2 n2 c2],It.B b2 47 d10,It.B b3 58 d1]:=H
  exact X ((A) (Z (W1 hr)))
 ·refine (qG) ((qLB H 0) ((qG) ((qLB H 1) ((qG) ((qD 6) ((qG) ((qL H 2) ((qG) ?_))))))))
  refine (bb hr fun x1 hx1 hr=>?_)
  obtain⟨b4,ob4,cb4,A7,n7,c7,hvb4,hI8,hI9,hI10,hI11,hS5,hS6,H⟩:=q0u H (i:=8) rfl hx1
  refine (qJ 7 hvb4 hx1) ((qG) ((qLA H 9) ((qG) ?_)))
  refine (bb hr fun y4 hy2 hr=>?_)
  refine (qC ok97 (fun _ hq=>(ih_sTypeOfExpr hy2 ⟨_,_,rfl,(rs (H.ext hq) 3),(rs (H.ext hq) 4)⟩ ⟨_,_,_,rfl,hS1,hS2,(rs (H.ext hq) 5),(rs (H.ext hq) 6),(rs (H.ext hq) 7)⟩ (q0b.2 ⟨_,rfl,hI8,hI9,hI10,hI11,hS5,hS6,(rs (H.ext hq) 11)⟩)).mono fun _ _ _ h=>h.1)) ?_
  obtain⟨_,_,_,hI12⟩:=(ih_sTypeOfExpr hy2 ⟨_,_,rfl,(rs H 3),(rs H 4)⟩ ⟨_,_,_,rfl,hS1,hS2,(rs H 5),(rs H 6),(rs H 7)⟩ (q0b.2 ⟨_,rfl,hI8,hI9,hI10,hI11,hS5,hS6,(rs H 11)⟩)).get
  refine (qG) ((qV) ((qG) ((qB) ((qU) ?_))))
  refine kN hr (fun _ hr=>?_) fun _ hr=>?_
  ·refine (qO) ((qO) ((qO) ((qO) ((qO) ((qO) ((qO) ((qO) ((qO) ((qT) ?_)))))))))
   refine QL.nil (fun w6 hE=>?_)
   have H:=H.ext hE
   refine (cT) (Y ?_)
   refine CW.fresh [] trivial fun σ=>?_
   let d2:List Value:=[.int .i64 a2.Kind,.int .i64 a2.N,.int .i64 a2.Pos,.int .i64 a2.Type_,.string a2.Symbol,.string a2.Name,.slice A6 n6 c6]
   let d3:List Value:=[.int .i64 x1.Kind,.int .i64 x1.N,.int .i64 x1.Pos,.int .i64 x1.Type_,.string x1.Symbol,.string x1.Name,.slice A7 n7 c7]
   let d11:List Value:=[.string a1.Name,.string a1.Left,.slice A3 n3 c3,.bool a1.Literal,.slice A4 n4 c4,.slice A5 n5 c5]
   have H:HL F0 [] w0 w6 [Pr.R a0 [.slice A1 n1 c1,.slice A2 n2 c2],Pr.R a1 d11,Pr.R a2 d2,Pr.S a0.Symbols (.slice A1 n1 c1),Pr.S a0.Rules (.slice A2 n2 c2),Pr.S a1.Right (.slice A3 n3 c3),Pr.S a1.Equations (.slice A4 n4 c4),Pr.S a1.Contributions (.slice A5 n5 c5),Pr.S a2.Args (.slice A6 n6 c6),Pr.A b4 (ob4+0*7) d3,Pr.R x1 d3,Pr.S x1.Args (.slice A7 n7 c7)] [It.B b1 31 [.slice A1 n1 c1,.slice A2 n2 c2],It.B b2 47 d11,It.B b3 58 d2]:=H
   exact X ((A) (Z (W1 hr)))
  ·refine (qG) ((qLB H 0) ((qG) ((qLB H 1) ((qG) ((qD 6) ((qG) ((qL H 2) ((qG) ?_))))))))
   refine (bb hr fun x2 hx2 hr=>?_)
   obtain⟨b5,ob5,cb5,A8,n8,c8,hvb5,hI13,hI14,hI15,hI16,hS7,hS8,H⟩:=q0u H (i:=8) rfl hx2
   refine (qJ 7 hvb5 hx2) ((qG) ((qLA H 12) ((qG) ?_)))
   refine (bb hr fun y5 hy3 hr=>?_)
   refine (qC ok97 (fun _ hq=>(ih_sTypeOfExpr hy3 ⟨_,_,rfl,(rs (H.ext hq) 3),(rs (H.ext hq) 4)⟩ ⟨_,_,_,rfl,hS1,hS2,(rs (H.ext hq) 5),(rs (H.ext hq) 6),(rs (H.ext hq) 7)⟩ (q0b.2 ⟨_,rfl,hI13,hI14,hI15,hI16,hS7,hS8,(rs (H.ext hq) 14)⟩)).mono fun _ _ _ h=>h.1)) ?_
   obtain⟨_,_,_,hI17⟩:=(ih_sTypeOfExpr hy3 ⟨_,_,rfl,(rs H 3),(rs H 4)⟩ ⟨_,_,_,rfl,hS1,hS2,(rs H 5),(rs H 6),(rs H 7)⟩ (q0b.2 ⟨_,rfl,hI13,hI14,hI15,hI16,hS7,hS8,(rs H 14)⟩)).get
   refine (qG) ((qV) ((qG) ((qB) ((qU) ?_))))
   refine QL.nil (fun w7 hE=>?_)
   have H:=H.ext hE
   refine iN hr (fun _ hr=>?_) fun _ hr=>?_
   ·refine Y ?_
    refine CW.fresh [] trivial fun σ=>?_
    let d4:List Value:=[.int .i64 a2.Kind,.int .i64 a2.N,.int .i64 a2.Pos,.int .i64 a2.Type_,.string a2.Symbol,.string a2.Name,.slice A6 n6 c6]
    let d5:List Value:=[.int .i64 x1.Kind,.int .i64 x1.N,.int .i64 x1.Pos,.int .i64 x1.Type_,.string x1.Symbol,.string x1.Name,.slice A7 n7 c7]
    let d6:List Value:=[.int .i64 x2.Kind,.int .i64 x2.N,.int .i64 x2.Pos,.int .i64 x2.Type_,.string x2.Symbol,.string x2.Name,.slice A8 n8 c8]
    let d12:List Value:=[.string a1.Name,.string a1.Left,.slice A3 n3 c3,.bool a1.Literal,.slice A4 n4 c4,.slice A5 n5 c5]
    have H:HL F0 [] w0 w7 [Pr.R a0 [.slice A1 n1 c1,.slice A2 n2 c2],Pr.R a1 d12,Pr.R a2 d4,Pr.S a0.Symbols (.slice A1 n1 c1),Pr.S a0.Rules (.slice A2 n2 c2),Pr.S a1.Right (.slice A3 n3 c3),Pr.S a1.Equations (.slice A4 n4 c4),Pr.S a1.Contributions (.slice A5 n5 c5),Pr.S a2.Args (.slice A6 n6 c6),Pr.A b4 (ob4+0*7) d5,Pr.R x1 d5,Pr.S x1.Args (.slice A7 n7 c7),Pr.A b5 (ob5+1*7) d6,Pr.R x2 d6,Pr.S x2.Args (.slice A8 n8 c8)] [It.B b1 31 [.slice A1 n1 c1,.slice A2 n2 c2],It.B b2 47 d12,It.B b3 58 d4]:=H
    exact X ((A) (Z (W1 hr)))
   ·refine K (Y ?_)
    refine CW.fresh [(9,.int .i64 y3)] ⟨rfl,trivial⟩ fun σ=>?_
    let d7:List Value:=[.int .i64 a2.Kind,.int .i64 a2.N,.int .i64 a2.Pos,.int .i64 a2.Type_,.string a2.Symbol,.string a2.Name,.slice A6 n6 c6]
    let d8:List Value:=[.int .i64 x1.Kind,.int .i64 x1.N,.int .i64 x1.Pos,.int .i64 x1.Type_,.string x1.Symbol,.string x1.Name,.slice A7 n7 c7]
    let d9:List Value:=[.int .i64 x2.Kind,.int .i64 x2.N,.int .i64 x2.Pos,.int .i64 x2.Type_,.string x2.Symbol,.string x2.Name,.slice A8 n8 c8]
    let d13:List Value:=[.string a1.Name,.string a1.Left,.slice A3 n3 c3,.bool a1.Literal,.slice A4 n4 c4,.slice A5 n5 c5]
    have H:HL F0 [] w0 w7 [Pr.R a0 [.slice A1 n1 c1,.slice A2 n2 c2],Pr.R a1 d13,Pr.R a2 d7,Pr.S a0.Symbols (.slice A1 n1 c1),Pr.S a0.Rules (.slice A2 n2 c2),Pr.S a1.Right (.slice A3 n3 c3),Pr.S a1.Equations (.slice A4 n4 c4),Pr.S a1.Contributions (.slice A5 n5 c5),Pr.S a2.Args (.slice A6 n6 c6),Pr.A b4 (ob4+0*7) d8,Pr.R x1 d8,Pr.S x1.Args (.slice A7 n7 c7),Pr.A b5 (ob5+1*7) d9,Pr.R x2 d9,Pr.S x2.Args (.slice A8 n8 c8)] [It.B b1 31 [.slice A1 n1 c1,.slice A2 n2 c2],It.B b2 47 d13,It.B b3 58 d7]:=H
    exact X ((V) ((A) (Z (W1 hr))))
def z3X (rec_sTypeOfExpr:Grammar→Rule→Expr→Option Int)(a0:Grammar)(a1:Rule)(a2:Expr):Option Int:=if (a2.Args.length:Int)=3 then (a2.Args[0]?).bind fun x1=>(rec_sTypeOfExpr a0 a1 x1).bind fun y1=>if y1=3 then (a2.Args[1]?).bind fun x2=>(rec_sTypeOfExpr a0 a1 x2).bind fun y2=>(a2.Args[2]?).bind fun x3=>(rec_sTypeOfExpr a0 a1 x3).bind fun y3=>if y2=y3 then some y2 else some 0 else some 0 else some 0
theorem z7R {rec_sTypeOfExpr:Grammar→Rule→Expr→Option Int}(ih_sTypeOfExpr:∀ {a0:Grammar}{a1:Rule}{a2:Expr}{r:Int},rec_sTypeOfExpr a0 a1 a2=some r→∀ {F0:Nat→Prop}{w0:World}{ca0}(ha0:rd F0 w0 a0 ca0){ca1}(ha1:rd F0 w0 a1 ca1){ca2}(ha2:rd F0 w0 a2 ca2),RT 97 #[.agg ca0.toArray,.agg ca1.toArray,.agg ca2.toArray] w0 fun v w=>v = .int .i64 r∧I64 r){a0}{a1}{a2}{r}(hr:z3X rec_sTypeOfExpr a0 a1 a2=some r){ca0}(ha0:rd F0 w0 a0 ca0){ca1}(ha1:rd F0 w0 a1 ca1){ca2}(ha2:rd F0 w0 a2 ca2):RT 129 #[.agg ca0.toArray,.agg ca1.toArray,.agg ca2.toArray] w0 fun v w=>v = .int .i64 r∧I64 r:=by
 have H:=(((HL.start F0 w0).argR ha0).argR ha1).argR ha2
 obtain⟨A1,n1,c1,A2,n2,c2,rfl,H⟩:=q0e H (i:=0) rfl
 obtain⟨A3,n3,c3,A4,n4,c4,A5,n5,c5,rfl,hS1,hS2,H⟩:=q0z H (i:=1) rfl
 obtain⟨A6,n6,c6,rfl,hI1,hI2,hI3,hI4,hS3,hS4,H⟩:=q0X H (i:=2) rfl
 refine (En Tryz.func129) ?_
 refine R ((BX H) fun b1 w1 H=>(BX H) fun b2 w2 H=>(BX H) fun b3 w3 H=>(A) (Z (Y (Y ?_))))
 refine CW.quiet hmix (by kernel_rfl) ?_
 refine (qD 6) ((qL H 2) ?_)
 have hl1:=(H.rS (i:=8) rfl).I
 refine (qNN (rs H 8)) ((qB) ?_)
 refine kN hr (fun _ hr=>?_) fun _ hr=>?_
 ·refine (qO) ((qO) ((qO) ((qO) ((qO) ((qO) ((qO) ((qO) ((qT) ?_))))))))
  refine QL.nil (fun w4 hE=>?_)
  have H:=H.ext hE
  exact (cT) (R ((A) (Z (W1 hr))))
 ·refine (qG) ((qLB H 0) ((qG) ((qLB H 1) ((qG) ((qD 6) ((qG) ((qL H 2) ((qG) ?_))))))))
  refine (bb hr fun x1 hx1 hr=>?_)
  obtain⟨b4,ob4,cb4,A7,n7,c7,hvb4,hI5,hI6,hI7,hI8,hS5,hS6,H⟩:=q0u H (i:=8) rfl hx1
  refine (qJ 7 hvb4 hx1) ((qG) ((qLA H 9) ((qG) ?_)))
  refine (bb hr fun y1 hy1 hr=>?_)
  refine (qC ok97 (fun _ hq=>(ih_sTypeOfExpr hy1 ⟨_,_,rfl,(rs (H.ext hq) 3),(rs (H.ext hq) 4)⟩ ⟨_,_,_,rfl,hS1,hS2,(rs (H.ext hq) 5),(rs (H.ext hq) 6),(rs (H.ext hq) 7)⟩ (q0b.2 ⟨_,rfl,hI5,hI6,hI7,hI8,hS5,hS6,(rs (H.ext hq) 11)⟩)).mono fun _ _ _ h=>h.1)) ?_
  obtain⟨_,_,_,hI9⟩:=(ih_sTypeOfExpr hy1 ⟨_,_,rfl,(rs H 3),(rs H 4)⟩ ⟨_,_,_,rfl,hS1,hS2,(rs H 5),(rs H 6),(rs H 7)⟩ (q0b.2 ⟨_,rfl,hI5,hI6,hI7,hI8,hS5,hS6,(rs H 11)⟩)).get
  refine (qG) ((qB) ((qU) ?_))
  refine QL.nil (fun w5 hE=>?_)
  have H:=H.ext hE
  refine iN hr (fun _ hr=>?_) fun _ hr=>?_
  ·exact R ((A) (Z (W1 hr)))
  ·refine K (Y ?_)
   refine CW.quiet hmix (by kernel_rfl) ?_
   refine (qLB H 0) ((qLB H 1) ((qD 6) ((qL H 2) ?_)))
   refine (bb hr fun x2 hx2 hr=>?_)
   obtain⟨b5,ob5,cb5,A8,n8,c8,hvb5,hI10,hI11,hI12,hI13,hS7,hS8,H⟩:=q0u H (i:=8) rfl hx2
   refine (qJ 7 hvb5 hx2) ((qLA H 12) ?_)
   refine (bb hr fun y2 hy2 hr=>?_)
   refine (qC ok97 (fun _ hq=>(ih_sTypeOfExpr hy2 ⟨_,_,rfl,(rs (H.ext hq) 3),(rs (H.ext hq) 4)⟩ ⟨_,_,_,rfl,hS1,hS2,(rs (H.ext hq) 5),(rs (H.ext hq) 6),(rs (H.ext hq) 7)⟩ (q0b.2 ⟨_,rfl,hI10,hI11,hI12,hI13,hS7,hS8,(rs (H.ext hq) 14)⟩)).mono fun _ _ _ h=>h.1)) ?_
   obtain⟨_,_,_,hI14⟩:=(ih_sTypeOfExpr hy2 ⟨_,_,rfl,(rs H 3),(rs H 4)⟩ ⟨_,_,_,rfl,hS1,hS2,(rs H 5),(rs H 6),(rs H 7)⟩ (q0b.2 ⟨_,rfl,hI10,hI11,hI12,hI13,hS7,hS8,(rs H 14)⟩)).get
   refine (qA) ?_
   refine QL.nil (fun w6 hE=>?_)
   have H:=H.ext hE
   refine Y (Y ?_)
   refine CW.fresh [(3,pB b1),(4,pB b2),(5,pB b3),(7,.int .i64 y2)] ⟨rfl,rfl,rfl,rfl,trivial⟩ fun σ=>?_
   let d1:List Value:=[.int .i64 a2.Kind,.int .i64 a2.N,.int .i64 a2.Pos,.int .i64 a2.Type_,.string a2.Symbol,.string a2.Name,.slice A6 n6 c6]
   let d2:List Value:=[.int .i64 x1.Kind,.int .i64 x1.N,.int .i64 x1.Pos,.int .i64 x1.Type_,.string x1.Symbol,.string x1.Name,.slice A7 n7 c7]
   let d3:List Value:=[.int .i64 x2.Kind,.int .i64 x2.N,.int .i64 x2.Pos,.int .i64 x2.Type_,.string x2.Symbol,.string x2.Name,.slice A8 n8 c8]
   let d4:List Value:=[.string a1.Name,.string a1.Left,.slice A3 n3 c3,.bool a1.Literal,.slice A4 n4 c4,.slice A5 n5 c5]
   have H:HL F0 [] w0 w6 [Pr.R a0 [.slice A1 n1 c1,.slice A2 n2 c2],Pr.R a1 d4,Pr.R a2 d1,Pr.S a0.Symbols (.slice A1 n1 c1),Pr.S a0.Rules (.slice A2 n2 c2),Pr.S a1.Right (.slice A3 n3 c3),Pr.S a1.Equations (.slice A4 n4 c4),Pr.S a1.Contributions (.slice A5 n5 c5),Pr.S a2.Args (.slice A6 n6 c6),Pr.A b4 (ob4+0*7) d2,Pr.R x1 d2,Pr.S x1.Args (.slice A7 n7 c7),Pr.A b5 (ob5+1*7) d3,Pr.R x2 d3,Pr.S x2.Args (.slice A8 n8 c8)] [It.B b1 31 [.slice A1 n1 c1,.slice A2 n2 c2],It.B b2 47 d4,It.B b3 58 d1]:=H
   refine CW.quiet hmix (by kernel_rfl) ?_
   refine (qV) ((qLB H 0) ((qLB H 1) ((qD 6) ((qL H 2) ?_))))
   refine (bb hr fun x3 hx3 hr=>?_)
   obtain⟨b6,ob6,cb6,A9,n9,c9,hvb6,hI15,hI16,hI17,hI18,hS9,hS10,H⟩:=q0u H (i:=8) rfl hx3
   refine (qJ 7 hvb6 hx3) ((qLA H 15) ?_)
   refine (bb hr fun y3 hy3 hr=>?_)
   refine (qC ok97 (fun _ hq=>(ih_sTypeOfExpr hy3 ⟨_,_,rfl,(rs (H.ext hq) 3),(rs (H.ext hq) 4)⟩ ⟨_,_,_,rfl,hS1,hS2,(rs (H.ext hq) 5),(rs (H.ext hq) 6),(rs (H.ext hq) 7)⟩ (q0b.2 ⟨_,rfl,hI15,hI16,hI17,hI18,hS9,hS10,(rs (H.ext hq) 17)⟩)).mono fun _ _ _ h=>h.1)) ?_
   obtain⟨_,_,_,hI19⟩:=(ih_sTypeOfExpr hy3 ⟨_,_,rfl,(rs H 3),(rs H 4)⟩ ⟨_,_,_,rfl,hS1,hS2,(rs H 5),(rs H 6),(rs H 7)⟩ (q0b.2 ⟨_,rfl,hI15,hI16,hI17,hI18,hS9,hS10,(rs H 17)⟩)).get
   refine (qB) ?_
   refine QL.nil (fun w7 hE=>?_)
   have H:=H.ext hE
   refine iN hr (fun _ hr=>?_) fun _ hr=>?_
   ·exact R ((A) (Z (W1 hr)))
   ·exact K (R ((V) ((A) (Z (W1 hr)))))
def q6s (rec_sTypeOfExpr:Grammar→Rule→Expr→Option Int)(a0:Grammar)(a1:Rule)(a2:Expr):Option Int:=if a2.Kind=1 then some a2.Type_ else if a2.Kind=2 then if a1.Literal=true then some 1 else some 0 else if a2.Kind=3 then (q2z a2.Pos 0 (a1.Right.length:Int)).bind fun y1=>if y1=true then (q1V a1 a2.Pos).bind fun y2=>(q3y a0 y2 a2.Name).bind fun y3=>some y3 else some 0 else if a2.Kind=4 then (z3W rec_sTypeOfExpr a0 a1 a2).bind fun y4=>some y4 else if a2.Kind=5 then (z3X rec_sTypeOfExpr a0 a1 a2).bind fun y5=>some y5 else if a2.Kind=6 then (q2z a2.Pos 0 (a1.Right.length:Int)).bind fun y6=>if y6=true then some 4 else some 0 else if a2.Kind=7 then some 4 else if a2.Kind=8 then if (a2.Args.length:Int)=1 then (a2.Args[0]?).bind fun x1=>(rec_sTypeOfExpr a0 a1 x1).bind fun y7=>if y7=4 then (q3y a0 a2.Symbol a2.Name).bind fun y8=>some y8 else some 0 else some 0 else some 0
theorem z2o {rec_sTypeOfExpr:Grammar→Rule→Expr→Option Int}(ih_sTypeOfExpr:∀ {a0:Grammar}{a1:Rule}{a2:Expr}{r:Int},rec_sTypeOfExpr a0 a1 a2=some r→∀ {F0:Nat→Prop}{w0:World}{ca0}(ha0:rd F0 w0 a0 ca0){ca1}(ha1:rd F0 w0 a1 ca1){ca2}(ha2:rd F0 w0 a2 ca2),RT 97 #[.agg ca0.toArray,.agg ca1.toArray,.agg ca2.toArray] w0 fun v w=>v = .int .i64 r∧I64 r){a0}{a1}{a2}{r}(hr:q6s rec_sTypeOfExpr a0 a1 a2=some r){ca0}(ha0:rd F0 w0 a0 ca0){ca1}(ha1:rd F0 w0 a1 ca1){ca2}(ha2:rd F0 w0 a2 ca2):RT 97 #[.agg ca0.toArray,.agg ca1.toArray,.agg ca2.toArray] w0 fun v w=>v = .int .i64 r∧I64 r:=by
 have H:=(((HL.start F0 w0).argR ha0).argR ha1).argR ha2
 obtain⟨A1,n1,c1,A2,n2,c2,rfl,H⟩:=q0e H (i:=0) rfl
 obtain⟨A3,n3,c3,A4,n4,c4,A5,n5,c5,rfl,hS1,hS2,H⟩:=q0z H (i:=1) rfl
 obtain⟨A6,n6,c6,rfl,hI1,hI2,hI3,hI4,hS3,hS4,H⟩:=q0X H (i:=2) rfl
 refine (En Tryz.func97) ?_
 refine R ((BX H) fun b1 w1 H=>(BX H) fun b2 w2 H=>(BX H) fun b3 w3 H=>(A) (Z (Y (R ((D 0) ((L H 2) (Z ?_)))))))
 refine CW.block (R ((B) ((A) (Z (iD hr (fun _ hr=>?_) fun _ hr=>?_)))))
 ·exact R ((D 3) ((L H 2) ((A) (Z (W1 hr)))))
 ·refine R ((B) ((A) (Z (iD hr (fun _ hr=>?_) fun _ hr=>?_))))
  ·refine R ((D 3) ((L H 1) (Z (iB hr (fun _ hr=>?_) fun _ hr=>?_))))
   ·exact R ((A) (Z (W1 hr)))
   ·exact K (R ((A) (Z (W1 hr))))
  ·refine R ((B) ((A) (Z (iD hr (fun _ hr=>?_) fun _ hr=>?_))))
   ·refine R ((D 2) ((L H 2) ((D 2) ((L H 1) ((NI H 5) fun hl1=>?_)))))
    refine (bb hr fun y1 hy1 hr=>?_)
    refine (CA ok94 (q3d hy1 (F0:=fun _=>False) hI3 (by decide:I64 0) hl1)) (cE H fun w4 H=>Z (iB hr (fun _ hr=>?_) fun _ hr=>?_))
    ·refine Y ?_
     refine CW.quiet hmix (by kernel_rfl) ?_
     refine (qLB H 0) ((qLB H 1) ((qD 2) ((qL H 2) ?_)))
     refine (bb hr fun y2 hy2 hr=>?_)
     refine (qC ok56 (fun _ hq=>(q1C hy2 ⟨_,_,_,rfl,hS1,hS2,(rs (H.ext hq) 5),(rs (H.ext hq) 6),(rs (H.ext hq) 7)⟩ hI3).mono fun _ _ _ h=>h.1)) ?_
     obtain⟨_,_,_,hS5⟩:=(q1C hy2 ⟨_,_,_,rfl,hS1,hS2,(rs H 5),(rs H 6),(rs H 7)⟩ hI3).get
     refine (qD 5) ((qL H 2) ?_)
     refine (bb hr fun y3 hy3 hr=>?_)
     refine (qC ok98 (fun _ hq=>(q3V hy3 ⟨_,_,rfl,(rs (H.ext hq) 3),(rs (H.ext hq) 4)⟩ hS5 hS4).mono fun _ _ _ h=>h.1)) ?_
     obtain⟨_,_,_,hI5⟩:=(q3V hy3 ⟨_,_,rfl,(rs H 3),(rs H 4)⟩ hS5 hS4).get
     refine (qA) ?_
     refine QL.nil (fun w5 hE=>?_)
     have H:=H.ext hE
     exact W1 hr
    ·exact K (R ((A) (Z (W1 hr))))
   ·refine R ((B) ((A) (Z (iD hr (fun _ hr=>?_) fun _ hr=>?_))))
    ·refine R ((LB H 0) ((LB H 1) ((LB H 2) ?_)))
     refine (bb hr fun y4 hy4 hr=>?_)
     exact (CA ok128 (z7Q ih_sTypeOfExpr hy4 ⟨_,_,rfl,(rs H 3),(rs H 4)⟩ ⟨_,_,_,rfl,hS1,hS2,(rs H 5),(rs H 6),(rs H 7)⟩ (q0b.2 ⟨_,rfl,hI1,hI2,hI3,hI4,hS3,hS4,(rs H 8)⟩))) (cF' H fun w6 hI6 H=>(A) (Z (W1 hr)))
    ·refine R ((B) ((A) (Z (iD hr (fun _ hr=>?_) fun _ hr=>?_))))
     ·refine R ((LB H 0) ((LB H 1) ((LB H 2) ?_)))
      refine (bb hr fun y5 hy5 hr=>?_)
      exact (CA ok129 (z7R ih_sTypeOfExpr hy5 ⟨_,_,rfl,(rs H 3),(rs H 4)⟩ ⟨_,_,_,rfl,hS1,hS2,(rs H 5),(rs H 6),(rs H 7)⟩ (q0b.2 ⟨_,rfl,hI1,hI2,hI3,hI4,hS3,hS4,(rs H 8)⟩))) (cF' H fun w7 hI7 H=>(A) (Z (W1 hr)))
     ·refine R ((B) ((A) (Z (iD hr (fun _ hr=>?_) fun _ hr=>?_))))
      ·refine R ((D 2) ((L H 2) ((D 2) ((L H 1) ((NI H 5) fun hl2=>?_)))))
       refine (bb hr fun y6 hy6 hr=>?_)
       refine (CA ok94 (q3d hy6 (F0:=fun _=>False) hI3 (by decide:I64 0) hl2)) (cE H fun w8 H=>Z (iB hr (fun _ hr=>?_) fun _ hr=>?_))
       ·refine Y ?_
        refine CW.fresh [] trivial fun σ=>?_
        let d1:List Value:=[.int .i64 a2.Kind,.int .i64 a2.N,.int .i64 a2.Pos,.int .i64 a2.Type_,.string a2.Symbol,.string a2.Name,.slice A6 n6 c6]
        let d5:List Value:=[.string a1.Name,.string a1.Left,.slice A3 n3 c3,.bool a1.Literal,.slice A4 n4 c4,.slice A5 n5 c5]
        have H:HL F0 [] w0 w8 [Pr.R a0 [.slice A1 n1 c1,.slice A2 n2 c2],Pr.R a1 d5,Pr.R a2 d1,Pr.S a0.Symbols (.slice A1 n1 c1),Pr.S a0.Rules (.slice A2 n2 c2),Pr.S a1.Right (.slice A3 n3 c3),Pr.S a1.Equations (.slice A4 n4 c4),Pr.S a1.Contributions (.slice A5 n5 c5),Pr.S a2.Args (.slice A6 n6 c6)] [It.B b1 31 [.slice A1 n1 c1,.slice A2 n2 c2],It.B b2 47 d5,It.B b3 58 d1]:=H
        exact X ((A) (Z (W1 hr)))
       ·refine K (Y ?_)
        refine CW.fresh [] trivial fun σ=>?_
        let d2:List Value:=[.int .i64 a2.Kind,.int .i64 a2.N,.int .i64 a2.Pos,.int .i64 a2.Type_,.string a2.Symbol,.string a2.Name,.slice A6 n6 c6]
        let d6:List Value:=[.string a1.Name,.string a1.Left,.slice A3 n3 c3,.bool a1.Literal,.slice A4 n4 c4,.slice A5 n5 c5]
        have H:HL F0 [] w0 w8 [Pr.R a0 [.slice A1 n1 c1,.slice A2 n2 c2],Pr.R a1 d6,Pr.R a2 d2,Pr.S a0.Symbols (.slice A1 n1 c1),Pr.S a0.Rules (.slice A2 n2 c2),Pr.S a1.Right (.slice A3 n3 c3),Pr.S a1.Equations (.slice A4 n4 c4),Pr.S a1.Contributions (.slice A5 n5 c5),Pr.S a2.Args (.slice A6 n6 c6)] [It.B b1 31 [.slice A1 n1 c1,.slice A2 n2 c2],It.B b2 47 d6,It.B b3 58 d2]:=H
        exact X ((A) (Z (W1 hr)))
      ·refine R ((B) ((A) (Z (iD hr (fun _ hr=>?_) fun _ hr=>?_))))
       ·exact R ((A) (Z (W1 hr)))
       ·refine R ((B) ((A) (Z (iD hr (fun _ hr=>?_) fun _ hr=>?_))))
        ·refine Y ?_
         refine CW.fresh [(3,pB b1),(4,pB b2),(5,pB b3)] ⟨rfl,rfl,rfl,trivial⟩ fun σ=>?_
         let d3:List Value:=[.int .i64 a2.Kind,.int .i64 a2.N,.int .i64 a2.Pos,.int .i64 a2.Type_,.string a2.Symbol,.string a2.Name,.slice A6 n6 c6]
         let d7:List Value:=[.string a1.Name,.string a1.Left,.slice A3 n3 c3,.bool a1.Literal,.slice A4 n4 c4,.slice A5 n5 c5]
         have H:HL F0 [] w0 w3 [Pr.R a0 [.slice A1 n1 c1,.slice A2 n2 c2],Pr.R a1 d7,Pr.R a2 d3,Pr.S a0.Symbols (.slice A1 n1 c1),Pr.S a0.Rules (.slice A2 n2 c2),Pr.S a1.Right (.slice A3 n3 c3),Pr.S a1.Equations (.slice A4 n4 c4),Pr.S a1.Contributions (.slice A5 n5 c5),Pr.S a2.Args (.slice A6 n6 c6)] [It.B b1 31 [.slice A1 n1 c1,.slice A2 n2 c2],It.B b2 47 d7,It.B b3 58 d3]:=H
         refine CW.quiet hmix (by kernel_rfl) ?_
         refine (qD 6) ((qL H 2) ?_)
         have hl3:=(H.rS (i:=8) rfl).I
         refine (qNN (rs H 8)) ((qB) ?_)
         refine kD hr (fun _ hr=>?_) fun _ hr=>?_
         ·refine (qG) ((qLB H 0) ((qG) ((qLB H 1) ((qG) ((qD 6) ((qG) ((qL H 2) ((qG) ?_))))))))
          refine (bb hr fun x1 hx1 hr=>?_)
          obtain⟨b4,ob4,cb4,A7,n7,c7,hvb4,hI8,hI9,hI10,hI11,hS6,hS7,H⟩:=q0u H (i:=8) rfl hx1
          refine (qJ 7 hvb4 hx1) ((qG) ((qLA H 9) ((qG) ?_)))
          refine (bb hr fun y7 hy7 hr=>?_)
          refine (qC ok97 (fun _ hq=>(ih_sTypeOfExpr hy7 ⟨_,_,rfl,(rs (H.ext hq) 3),(rs (H.ext hq) 4)⟩ ⟨_,_,_,rfl,hS1,hS2,(rs (H.ext hq) 5),(rs (H.ext hq) 6),(rs (H.ext hq) 7)⟩ (q0b.2 ⟨_,rfl,hI8,hI9,hI10,hI11,hS6,hS7,(rs (H.ext hq) 11)⟩)).mono fun _ _ _ h=>h.1)) ?_
          obtain⟨_,_,_,hI12⟩:=(ih_sTypeOfExpr hy7 ⟨_,_,rfl,(rs H 3),(rs H 4)⟩ ⟨_,_,_,rfl,hS1,hS2,(rs H 5),(rs H 6),(rs H 7)⟩ (q0b.2 ⟨_,rfl,hI8,hI9,hI10,hI11,hS6,hS7,(rs H 11)⟩)).get
          refine (qG) ((qB) ((qT) ?_))
          refine QL.nil (fun w9 hE=>?_)
          have H:=H.ext hE
          refine iD hr (fun _ hr=>?_) fun _ hr=>?_
          ·refine R ((LB H 0) ((D 4) ((L H 2) ((D 5) ((L H 2) ?_)))))
           refine (bb hr fun y8 hy8 hr=>?_)
           exact (CA ok98 (q3V hy8 ⟨_,_,rfl,(rs H 3),(rs H 4)⟩ hS3 hS4)) (cF' H fun w10 hI13 H=>(A) (Z (W1 hr)))
          ·exact K (R ((A) (Z (W1 hr))))
         ·refine (qO) ((qO) ((qO) ((qO) ((qO) ((qO) ((qO) ((qO) ((qU) ?_))))))))
          refine QL.nil (fun w11 hE=>?_)
          have H:=H.ext hE
          exact (cF) (K (R ((A) (Z (W1 hr)))))
        ·refine K (Y ?_)
         refine CW.fresh [] trivial fun σ=>?_
         let d4:List Value:=[.int .i64 a2.Kind,.int .i64 a2.N,.int .i64 a2.Pos,.int .i64 a2.Type_,.string a2.Symbol,.string a2.Name,.slice A6 n6 c6]
         let d8:List Value:=[.string a1.Name,.string a1.Left,.slice A3 n3 c3,.bool a1.Literal,.slice A4 n4 c4,.slice A5 n5 c5]
         have H:HL F0 [] w0 w3 [Pr.R a0 [.slice A1 n1 c1,.slice A2 n2 c2],Pr.R a1 d8,Pr.R a2 d4,Pr.S a0.Symbols (.slice A1 n1 c1),Pr.S a0.Rules (.slice A2 n2 c2),Pr.S a1.Right (.slice A3 n3 c3),Pr.S a1.Equations (.slice A4 n4 c4),Pr.S a1.Contributions (.slice A5 n5 c5),Pr.S a2.Args (.slice A6 n6 c6)] [It.B b1 31 [.slice A1 n1 c1,.slice A2 n2 c2],It.B b2 47 d8,It.B b3 58 d4]:=H
         exact X ((A) (Z (W1 hr)))
def q4z:Nat→Grammar→Rule→Expr→Option Int
  | 0,_,_,_=>none
  | n+1,a0,a1,a2=>q6s (q4z n) a0 a1 a2
def q5q (a0:Grammar)(a1:Rule)(a2:Expr):Option Int:=recO fun n=>q4z n a0 a1 a2
theorem z2p (n:Nat):∀ {a0:Grammar}{a1:Rule}{a2:Expr}{r:Int},q4z n a0 a1 a2=some r→∀ {F0:Nat→Prop}{w0:World}{ca0}(ha0:rd F0 w0 a0 ca0){ca1}(ha1:rd F0 w0 a1 ca1){ca2}(ha2:rd F0 w0 a2 ca2),RT 97 #[.agg ca0.toArray,.agg ca1.toArray,.agg ca2.toArray] w0 fun v w=>v = .int .i64 r∧I64 r:=by
 induction n with
 | zero=>intro a0 a1 a2 r hr; exact nomatch (show (none:Option Int)=some r from hr)
 | succ n ih=>intro a0 a1 a2 r hr; exact z2o ih hr
theorem q5W {a0}{a1}{a2}{r}(hr:q5q a0 a1 a2=some r){ca0}(ha0:rd F0 w0 a0 ca0){ca1}(ha1:rd F0 w0 a1 ca1){ca2}(ha2:rd F0 w0 a2 ca2):RT 97 #[.agg ca0.toArray,.agg ca1.toArray,.agg ca2.toArray] w0 fun v w=>v = .int .i64 r∧I64 r:=by
 obtain⟨n,hn⟩:=q2f hr
 exact z2p n hn ha0 ha1 ha2
def z2q (a0:Grammar)(a1:Rule):Nat→Equation→Unit→Option (Unit ⊕ Bool):=fun k1 x1 _=>(q5q a0 a1 x1.Expr).bind fun y1=>(q1V a1 x1.At.Pos).bind fun y2=>(q3y a0 y2 x1.At.Name).bind fun y3=>if y1=y3 then some (.inl ()) else some (.inr false)
def z2r (a0:Grammar)(a1:Rule):Nat→Contribution→Unit→Option (Unit ⊕ Bool):=fun k2 x2 _=>(q1I a0 x2.Symbol).bind fun (y4,y5)=>(q1J y4 x2.Name).bind fun (y6,y7)=>( if y7=true then some (!(decide (y6.Mode=3))) else some true ).bind fun s1=>( if s1=true then some true else (q5q a0 a1 x2.Target).bind fun y8=>some (!(decide (y8=4))) ).bind fun s2=>( if s2=true then some true else (q5q a0 a1 x2.Value).bind fun y9=>some (!(decide (y9=2))) ).bind fun s3=>if s3=true then some (.inr false) else some (.inl ())
def q9j (a0:Grammar)(a1:Rule):Option Bool:=(findL (z2q a0 a1) 0 a1.Equations ()).bind <| onr (fun r1=>some r1) fun _=>(findL (z2r a0 a1) 0 a1.Contributions ()).bind <| onr (fun r2=>some r2) fun _=>some true
end Go.Proofs.YtmblndlpkpaobaaGreat

