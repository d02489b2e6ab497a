/- What some functions of the program compute, as partial functions on plain data, and that they do; each lemma bears its conditions in its statement. -/
import Derived.Test.YtibagkppfnjgcaaGreatLift1
set_option linter.unusedVariables false
set_option linter.unusedSimpArgs false
set_option linter.ambiguousOpen false
set_option linter.unusedSectionVars false
set_option linter.unnecessarySimpa false
set_option maxRecDepth 100000
set_option maxHeartbeats 40000000
noncomputable section
namespace Go.Proofs.YtibagkppfnjgcaaGreat
open Go Go.E Go.A
def q4z (a0:Int):Option (Int × Int × Int):=
 (q5H a0 1 5).bind fun y1=>
 if y1=true then (
 some (1,1,1)
 ) else (
 (q5H a0 6 8).bind fun y2=>
 if y2=true then (
 some (2,2,2)
 ) else (
 if a0=9 then (
 some (1,1,3)
 ) else (
 if a0=10 then (
 some (1,1,3)
 ) else (
 if a0=11 then (
 some (2,1,3)
 ) else (
 if a0=12 then (
 some (2,1,2)
 ) else (
 some (0,0,0)
 )
 )
 )
 )
 )
 )
theorem q5L {a0:Int}{r:(Int × Int × Int)}(hr:q4z a0=some r):Ok Tryz.prog 137 [.d .fz (.i .i64 a0)] [] (.tu [.d .fz (.i .i64 r.1),.d .fz (.i .i64 r.2.1),.d .fz (.i .i64 r.2.2)]) []:=by
 refine Ok.enter rfl Tryz.func137 rfl rfl rfl fun S hS=>?_
 unfold q4z at hr
 refine sr ?_
 refine N3 ?_
 refine q0d (AW.block (q0d (q0c ?_)))
 refine W1 ?_
 refine bdE hr fun y1 hy1 hr=>?_
 refine CB [] [] (q6x hy1) ?_
 refine N1 ?_
 refine ifE hr (fun h1 hr=>?_) fun h1 hr=>?_
 refine q0f rfl h1 ?_
 refine sr ?_
 refine N3 ?_
 refine AW.ret ?_
 cases hr
 exact q0a [] 0 hS
 refine q0g rfl (bF h1) ?_
 refine sr ?_
 refine W1 ?_
 refine bdE hr fun y2 hy2 hr=>?_
 refine CB [] [] (q6x hy2) ?_
 refine N1 ?_
 refine ifE hr (fun h2 hr=>?_) fun h2 hr=>?_
 refine q0f rfl h2 ?_
 refine sr ?_
 refine N3 ?_
 refine AW.ret ?_
 cases hr
 exact q0a [] 0 hS
 refine q0g rfl (bF h2) ?_
 refine sr ?_
 refine W2 ?_
 refine ifE hr (fun h3 hr=>?_) fun h3 hr=>?_
 refine VT rfl (dT h3) ?_
 iterate 2 refine AL.off ?_
 refine N2 ?_
 refine q0f rfl rfl ?_
 refine sr ?_
 refine N3 ?_
 refine AW.ret ?_
 cases hr
 exact q0a [] 0 hS
 refine VF rfl (dF h3) ?_
 refine N4 ?_
 refine ifE hr (fun h4 hr=>?_) fun h4 hr=>?_
 refine q0f rfl (dT h4) ?_
 refine sr ?_
 refine N3 ?_
 refine AW.ret ?_
 cases hr
 exact q0a [] 0 hS
 refine q0g rfl (dF h4) ?_
 refine sr ?_
 refine N3 ?_
 refine ifE hr (fun h5 hr=>?_) fun h5 hr=>?_
 refine q0f rfl (dT h5) ?_
 refine sr ?_
 refine N3 ?_
 refine AW.ret ?_
 cases hr
 exact q0a [] 0 hS
 refine q0g rfl (dF h5) ?_
 refine sr ?_
 refine N3 ?_
 refine ifE hr (fun h6 hr=>?_) fun h6 hr=>?_
 refine q0f rfl (dT h6) ?_
 refine sr ?_
 refine N3 ?_
 refine AW.ret ?_
 cases hr
 exact q0a [] 0 hS
 refine q0g rfl (dF h6) ?_
 refine q0b ?_
 refine sr ?_
 refine N3 ?_
 refine AW.ret ?_
 cases hr
 exact q0a [] 0 hS
def q8L (a0:Int)(a1:Expr)(a2:Expr):Option Expr:=
 some (⟨4,a0,0,0,(⟨#[]⟩:ByteArray),(⟨#[]⟩:ByteArray),[a1,a2]⟩:Expr)
theorem q8G {m:Md}{a0:Int}{a1:Expr}{a2:Expr}{r:Expr}(hr:q8L a0 a1 a2=some r):Ok Tryz.prog 82 [.d .fz (.i .i64 a0),Expr.x m a1,Expr.x m a2] [] (.ag [.d .fz (.i .i64 r.Kind),.d .fz (.i .i64 r.N),.d .fz (.i .i64 r.Pos),.d .fz (.i .i64 r.Type_),.d .fz (.s r.Symbol),.d .fz (.s r.Name),.ref 0 none]) [.row m 7 (r.Args.map Expr.D)]:=by
 refine Ok.enter rfl Tryz.func82 rfl rfl rfl fun S hS=>?_
 unfold q8L at hr
 refine sr ?_
 refine BX 0 ?_
 refine BX 1 ?_
 refine NV 2 ?_
 refine N0 ?_
 refine sr ?_
 refine W3 ?_
 refine LIRm 3 (m:=m) (f:=Expr.D) [a1,a2] (by simp only [List.map_cons,List.map_nil,Expr.D_eq]; rfl) ?_
 refine W1 ?_
 refine SB ?_
 refine N0 ?_
 refine AW.ret ?_
 cases hr
 exact q0a [(3,0)] 1 hS
def q6i (rec_sl10Expr:Grammar→Rule→Int→Int→Bool→l1Cur→Option (Expr × l1Cur))(a1:Grammar)(a2:Rule)(a3:Int)(a4:Int)(a5:Bool)(o0:l1Cur):Option (Expr × l1Cur):=
 (
 if a4 < 2 then (
 some (true,o0.i,o0.h)
 ) else (
 (q4g 3 o0).bind fun (y1,z1)=>
 some (y1,z1.i,z1.h)
 )
 ).bind fun (s4,s5,s6)=>
 if s4=true then (
 (
 if a3=1 then (
 some a2.Literal
 ) else (
 some false
 )
 ).bind fun s7=>
 (
 if s7=true then (
 (q4g 3 (⟨o0.b,s5,s6⟩:l1Cur)).bind fun (y2,z2)=>
 some (y2,z2.i,z2.h)
 ) else (
 some (false,s5,s6)
 )
 ).bind fun (s11,s12,s13)=>
 if s11=true then (
 some ((⟨2,0,0,0,(⟨#[]⟩:ByteArray),(⟨#[]⟩:ByteArray),[]⟩:Expr),(⟨o0.b,s12,s13⟩:l1Cur))
 ) else (
 (q8W a1 a2 a3).bind fun y3=>
 (q5S a3 y3 (⟨o0.b,s12,s13⟩:l1Cur)).bind fun (y4,z3)=>
 some (y4,(⟨o0.b,z3.i,z3.h⟩:l1Cur))
 )
 ) else (
 (
 if a5=true then (
 (q4g 4 (⟨o0.b,s5,s6⟩:l1Cur)).bind fun (y5,z4)=>
 some (y5,z4.i,z4.h)
 ) else (
 some (false,s5,s6)
 )
 ).bind fun (s17,s18,s19)=>
 if s17=true then (
 (q3q (a1.Symbols.length:Int) (⟨o0.b,s18,s19⟩:l1Cur)).bind fun (y6,z5)=>
 grd (0≤y6) <|
 (a1.Symbols[y6.toNat]?).bind fun x1=>
 (q3q (x1.Attributes.length:Int) (⟨o0.b,z5.i,z5.h⟩:l1Cur)).bind fun (y7,z6)=>
 grd (0≤y7) <|
 (x1.Attributes[y7.toNat]?).bind fun x2=>
 if x2.Type_=a3 then (
 (q8W a1 a2 4).bind fun y8=>
 (q5S 4 y8 (⟨o0.b,z6.i,z6.h⟩:l1Cur)).bind fun (y9,z7)=>
 some ((⟨8,0,0,0,x1.Name,x2.Name,[y9]⟩:Expr),(⟨o0.b,z7.i,z7.h⟩:l1Cur))
 ) else (
 (q4g 6 (⟨o0.b,z6.i,z6.h⟩:l1Cur)).bind fun (y10,z8)=>
 if y10=true then (
 grd (I64 (a4 - 1)) <|
 (rec_sl10Expr a1 a2 3 (a4 - 1) a5 (⟨o0.b,z8.i,z8.h⟩:l1Cur)).bind fun (y11,z9)=>
 grd (I64 (a4 - 1)) <|
 (rec_sl10Expr a1 a2 a3 (a4 - 1) a5 (⟨o0.b,z9.i,z9.h⟩:l1Cur)).bind fun (y12,z10)=>
 grd (I64 (a4 - 1)) <|
 (rec_sl10Expr a1 a2 a3 (a4 - 1) a5 (⟨o0.b,z10.i,z10.h⟩:l1Cur)).bind fun (y13,z11)=>
 some ((⟨5,0,0,0,(⟨#[]⟩:ByteArray),(⟨#[]⟩:ByteArray),[y11,y12,y13]⟩:Expr),(⟨o0.b,z11.i,z11.h⟩:l1Cur))
 ) else (
 if a3=4 then (
 (q8W a1 a2 a3).bind fun y14=>
 (q5S a3 y14 (⟨o0.b,z8.i,z8.h⟩:l1Cur)).bind fun (y15,z12)=>
 some (y15,(⟨o0.b,z12.i,z12.h⟩:l1Cur))
 ) else (
 if a3=1 then (
 (q4I ([1,1,2,3,4,5]:List Int) (⟨o0.b,z8.i,z8.h⟩:l1Cur)).bind fun (y16,z13)=>
 (q4z y16).bind fun (y17,y18,y19)=>
 grd (I64 (a4 - 1)) <|
 (rec_sl10Expr a1 a2 y17 (a4 - 1) a5 (⟨o0.b,z13.i,z13.h⟩:l1Cur)).bind fun (y20,z14)=>
 grd (I64 (a4 - 1)) <|
 (rec_sl10Expr a1 a2 y18 (a4 - 1) a5 (⟨o0.b,z14.i,z14.h⟩:l1Cur)).bind fun (y21,z15)=>
 (q8L y16 y20 y21).bind fun y22=>
 some (y22,(⟨o0.b,z15.i,z15.h⟩:l1Cur))
 ) else (
 if a3=2 then (
 (q4I ([6,6,7,8,12]:List Int) (⟨o0.b,z8.i,z8.h⟩:l1Cur)).bind fun (y23,z16)=>
 (q4z y23).bind fun (y24,y25,y26)=>
 grd (I64 (a4 - 1)) <|
 (rec_sl10Expr a1 a2 y24 (a4 - 1) a5 (⟨o0.b,z16.i,z16.h⟩:l1Cur)).bind fun (y27,z17)=>
 grd (I64 (a4 - 1)) <|
 (rec_sl10Expr a1 a2 y25 (a4 - 1) a5 (⟨o0.b,z17.i,z17.h⟩:l1Cur)).bind fun (y28,z18)=>
 (q8L y23 y27 y28).bind fun y29=>
 some (y29,(⟨o0.b,z18.i,z18.h⟩:l1Cur))
 ) else (
 (q4I ([9,10,11]:List Int) (⟨o0.b,z8.i,z8.h⟩:l1Cur)).bind fun (y30,z19)=>
 (q4z y30).bind fun (y31,y32,y33)=>
 grd (I64 (a4 - 1)) <|
 (rec_sl10Expr a1 a2 y31 (a4 - 1) a5 (⟨o0.b,z19.i,z19.h⟩:l1Cur)).bind fun (y34,z20)=>
 grd (I64 (a4 - 1)) <|
 (rec_sl10Expr a1 a2 y32 (a4 - 1) a5 (⟨o0.b,z20.i,z20.h⟩:l1Cur)).bind fun (y35,z21)=>
 (q8L y30 y34 y35).bind fun y36=>
 some (y36,(⟨o0.b,z21.i,z21.h⟩:l1Cur))
 )
 )
 )
 )
 )
 ) else (
 (q4g 6 (⟨o0.b,s18,s19⟩:l1Cur)).bind fun (y37,z22)=>
 if y37=true then (
 grd (I64 (a4 - 1)) <|
 (rec_sl10Expr a1 a2 3 (a4 - 1) a5 (⟨o0.b,z22.i,z22.h⟩:l1Cur)).bind fun (y38,z23)=>
 grd (I64 (a4 - 1)) <|
 (rec_sl10Expr a1 a2 a3 (a4 - 1) a5 (⟨o0.b,z23.i,z23.h⟩:l1Cur)).bind fun (y39,z24)=>
 grd (I64 (a4 - 1)) <|
 (rec_sl10Expr a1 a2 a3 (a4 - 1) a5 (⟨o0.b,z24.i,z24.h⟩:l1Cur)).bind fun (y40,z25)=>
 some ((⟨5,0,0,0,(⟨#[]⟩:ByteArray),(⟨#[]⟩:ByteArray),[y38,y39,y40]⟩:Expr),(⟨o0.b,z25.i,z25.h⟩:l1Cur))
 ) else (
 if a3=4 then (
 (q8W a1 a2 a3).bind fun y41=>
 (q5S a3 y41 (⟨o0.b,z22.i,z22.h⟩:l1Cur)).bind fun (y42,z26)=>
 some (y42,(⟨o0.b,z26.i,z26.h⟩:l1Cur))
 ) else (
 if a3=1 then (
 (q4I ([1,1,2,3,4,5]:List Int) (⟨o0.b,z22.i,z22.h⟩:l1Cur)).bind fun (y43,z27)=>
 (q4z y43).bind fun (y44,y45,y46)=>
 grd (I64 (a4 - 1)) <|
 (rec_sl10Expr a1 a2 y44 (a4 - 1) a5 (⟨o0.b,z27.i,z27.h⟩:l1Cur)).bind fun (y47,z28)=>
 grd (I64 (a4 - 1)) <|
 (rec_sl10Expr a1 a2 y45 (a4 - 1) a5 (⟨o0.b,z28.i,z28.h⟩:l1Cur)).bind fun (y48,z29)=>
 (q8L y43 y47 y48).bind fun y49=>
 some (y49,(⟨o0.b,z29.i,z29.h⟩:l1Cur))
 ) else (
 if a3=2 then (
 (q4I ([6,6,7,8,12]:List Int) (⟨o0.b,z22.i,z22.h⟩:l1Cur)).bind fun (y50,z30)=>
 (q4z y50).bind fun (y51,y52,y53)=>
 grd (I64 (a4 - 1)) <|
 (rec_sl10Expr a1 a2 y51 (a4 - 1) a5 (⟨o0.b,z30.i,z30.h⟩:l1Cur)).bind fun (y54,z31)=>
 grd (I64 (a4 - 1)) <|
 (rec_sl10Expr a1 a2 y52 (a4 - 1) a5 (⟨o0.b,z31.i,z31.h⟩:l1Cur)).bind fun (y55,z32)=>
 (q8L y50 y54 y55).bind fun y56=>
 some (y56,(⟨o0.b,z32.i,z32.h⟩:l1Cur))
 ) else (
 (q4I ([9,10,11]:List Int) (⟨o0.b,z22.i,z22.h⟩:l1Cur)).bind fun (y57,z33)=>
 (q4z y57).bind fun (y58,y59,y60)=>
 grd (I64 (a4 - 1)) <|
 (rec_sl10Expr a1 a2 y58 (a4 - 1) a5 (⟨o0.b,z33.i,z33.h⟩:l1Cur)).bind fun (y61,z34)=>
 grd (I64 (a4 - 1)) <|
 (rec_sl10Expr a1 a2 y59 (a4 - 1) a5 (⟨o0.b,z34.i,z34.h⟩:l1Cur)).bind fun (y62,z35)=>
 (q8L y57 y61 y62).bind fun y63=>
 some (y63,(⟨o0.b,z35.i,z35.h⟩:l1Cur))
 )
 )
 )
 )
 )
 )
theorem j0V {rec_sl10Expr:Grammar→Rule→Int→Int→Bool→l1Cur→Option (Expr × l1Cur)}(ih_sl10Expr:∀ {m:Md} {a1:Grammar} {a2:Rule} {a3:Int} {a4:Int} {a5:Bool} {o0:l1Cur} {r:(Expr × l1Cur)},rec_sl10Expr a1 a2 a3 a4 a5 o0=some r→Ok Tryz.prog 106 [.pb 0 0,Grammar.y m a1,Rule.x m a2,.d .fz (.i .i64 a3),.d .fz (.i .i64 a4),.d .fz (.b a5)] [.box [.d .fz (.sl 1 (o0.b.map byD)),.d .fz (.i .i64 o0.i),.d .fz (.i .i64 o0.h)]] (.ag [.d .fz (.i .i64 r.1.Kind),.d .fz (.i .i64 r.1.N),.d .fz (.i .i64 r.1.Pos),.d .fz (.i .i64 r.1.Type_),.d .fz (.s r.1.Symbol),.d .fz (.s r.1.Name),.ref 1 none]) [.box [.d .fz (.sl 1 (o0.b.map byD)),.d .fz (.i .i64 r.2.i),.d .fz (.i .i64 r.2.h)],.row .fz 7 (r.1.Args.map Expr.D)]){m:Md}{a1:Grammar}{a2:Rule}{a3:Int}{a4:Int}{a5:Bool}{o0:l1Cur}{r:(Expr × l1Cur)}(hr:q6i rec_sl10Expr a1 a2 a3 a4 a5 o0=some r):Ok Tryz.prog 106 [.pb 0 0,Grammar.y m a1,Rule.x m a2,.d .fz (.i .i64 a3),.d .fz (.i .i64 a4),.d .fz (.b a5)] [.box [.d .fz (.sl 1 (o0.b.map byD)),.d .fz (.i .i64 o0.i),.d .fz (.i .i64 o0.h)]] (.ag [.d .fz (.i .i64 r.1.Kind),.d .fz (.i .i64 r.1.N),.d .fz (.i .i64 r.1.Pos),.d .fz (.i .i64 r.1.Type_),.d .fz (.s r.1.Symbol),.d .fz (.s r.1.Name),.ref 1 none]) [.box [.d .fz (.sl 1 (o0.b.map byD)),.d .fz (.i .i64 r.2.i),.d .fz (.i .i64 r.2.h)],.row .fz 7 (r.1.Args.map Expr.D)]:=by
 refine Ok.enter rfl Tryz.func106 rfl rfl rfl fun S hS=>?_
 unfold q6i at hr
 refine sr ?_
 refine BX 1 ?_
 refine BX 2 ?_
 refine NV 3 ?_
 refine N0 ?_
 refine ssr ?_
 refine W2 ?_
 refine bdE hr fun q1 hqq1 hr=>?_
 obtain⟨s4,s5,s6⟩:=q1
 refine q0A 4 4 [(0,.pb 0 0),(3,.d .fz (.i .i64 a3)),(4,.d .fz (.i .i64 a4)),(5,.d .fz (.b a5)),(7,.pb 1 0),(8,.pb 2 0),(12,.pb 3 0),(24,.d .fz (.b s4))] [(0,.box [.d .fz (.sl 1 (o0.b.map byD)),.d .fz (.i .i64 s5),.d .fz (.i .i64 s6)])] ?_ ?_
 replace hr:=hqq1
 refine ifE hr (fun h1 hr=>?_) fun h1 hr=>?_
 refine VT rfl (dT h1) ?_
 iterate 2 refine AL.off ?_
 refine N1 ?_
 cases hr
 exact GH.trans (q0m (q:=1) [.d m (.sl 2 (a1.Symbols.map Symbol.D)),.u] (.cons .rfl (.cons .u .nil)) rfl) (q0e hS 4)
 refine VF rfl (dF h1) ?_
 refine W1 ?_
 refine bdE hr fun q2 hq2 hr=>?_
 obtain⟨y1,z1⟩:=q2
 refine CB [(0,0)] [] (q4y hq2) ?_
 refine N1 ?_
 cases hr
 exact GH.trans (q0m (q:=1) [.d m (.sl 2 (a1.Symbols.map Symbol.D)),.u] (.cons .rfl (.cons .u .nil)) rfl) (q0e hS 4)
 refine N0 ?_
 refine ifE hr (fun h2 hr=>?_) fun h2 hr=>?_
 refine q0f rfl h2 ?_
 refine ssr ?_
 refine W2 ?_
 refine bdE hr fun s7 hqq3 hr=>?_
 refine q0h 4 [(0,.pb 0 0),(3,.d .fz (.i .i64 a3)),(7,.pb 1 0),(8,.pb 2 0),(12,.pb 3 0),(30,.d .fz (.b s7))] ?_ ?_
 replace hr:=hqq3
 refine ifE hr (fun h3 hr=>?_) fun h3 hr=>?_
 refine VT rfl (dT h3) ?_
 refine N3 ?_
 cases hr
 exact q3n
 refine VF rfl (dF h3) ?_
 iterate 2 refine AL.off ?_
 refine N1 ?_
 cases hr
 exact q3n
 refine bdE hr fun q4 hqq4 hr=>?_
 obtain⟨s11,s12,s13⟩:=q4
 refine q0A 4 4 [(0,.pb 0 0),(3,.d .fz (.i .i64 a3)),(7,.pb 1 0),(8,.pb 2 0),(12,.pb 3 0),(34,.d .fz (.b s11))] [(0,.box [.d .fz (.sl 1 (o0.b.map byD)),.d .fz (.i .i64 s12),.d .fz (.i .i64 s13)])] ?_ ?_
 replace hr:=hqq4
 refine ifE hr (fun h4 hr=>?_) fun h4 hr=>?_
 refine VT rfl h4 ?_
 refine W1 ?_
 refine bdE hr fun q5 hq5 hr=>?_
 obtain⟨y2,z2⟩:=q5
 refine CB [(0,0)] [] (q4y hq5) ?_
 refine N1 ?_
 cases hr
 exact GH.trans (q0m (q:=1) [.d m (.sl 2 (a1.Symbols.map Symbol.D)),.u] (.cons .rfl (.cons .u .nil)) rfl) (q0e hS 4)
 refine VF rfl (bF h4) ?_
 iterate 2 refine AL.off ?_
 refine N1 ?_
 cases hr
 exact GH.trans (q0m (q:=1) [.d m (.sl 2 (a1.Symbols.map Symbol.D)),.u] (.cons .rfl (.cons .u .nil)) rfl) (q0e hS 4)
 refine N0 ?_
 refine ifE hr (fun h5 hr=>?_) fun h5 hr=>?_
 refine q0f rfl h5 ?_
 refine sr ?_
 refine W1 ?_
 refine SB ?_
 refine N0 ?_
 refine AW.ret ?_
 refine endA.gh (q0t (q:=3) (c:=6) (r:=4) .fz 7 rfl rfl rfl) ?_
 cases hr
 exact q0a [(0,0),(4,1)] 2 hS
 refine q0g rfl (bF h5) ?_
 refine q0b ?_
 refine sr ?_
 refine W5 ?_
 refine bdE hr fun y3 hy3 hr=>?_
 refine CB [(0,4)] [] (z0U (m:=m) hy3) ?_
 refine bdE hr fun q6 hq6 hr=>?_
 obtain⟨y4,z3⟩:=q6
 refine CB [(0,0),(1,5)] [4] (q6V (m:=.bo) hq6) ?_
 refine SB ?_
 refine N0 ?_
 refine AW.ret ?_
 cases hr
 exact q0a [(0,0),(5,1)] 2 hS
 refine q0g rfl (bF h2) ?_
 refine q0b ?_
 refine ssr ?_
 refine W1 ?_
 refine bdE hr fun q7 hqq7 hr=>?_
 obtain⟨s17,s18,s19⟩:=q7
 refine q0A 4 4 [(0,.pb 0 0),(3,.d .fz (.i .i64 a3)),(4,.d .fz (.i .i64 a4)),(5,.d .fz (.b a5)),(7,.pb 1 0),(8,.pb 2 0),(12,.pb 3 0),(47,.d .fz (.b s17))] [(0,.box [.d .fz (.sl 1 (o0.b.map byD)),.d .fz (.i .i64 s18),.d .fz (.i .i64 s19)])] ?_ ?_
 replace hr:=hqq7
 refine ifE hr (fun h6 hr=>?_) fun h6 hr=>?_
 refine VT rfl h6 ?_
 refine W1 ?_
 refine bdE hr fun q8 hq8 hr=>?_
 obtain⟨y5,z4⟩:=q8
 refine CB [(0,0)] [] (q4y hq8) ?_
 refine N1 ?_
 cases hr
 exact GH.trans (q0m (q:=1) [.d m (.sl 2 (a1.Symbols.map Symbol.D)),.u] (.cons .rfl (.cons .u .nil)) rfl) (q0e hS 4)
 refine VF rfl (bF h6) ?_
 iterate 2 refine AL.off ?_
 refine N1 ?_
 cases hr
 exact GH.trans (q0m (q:=1) [.d m (.sl 2 (a1.Symbols.map Symbol.D)),.u] (.cons .rfl (.cons .u .nil)) rfl) (q0e hS 4)
 refine N0 ?_
 refine ifE hr (fun h7 hr=>?_) fun h7 hr=>?_
 refine q0f rfl h7 ?_
 refine q0d (q0j (h:=?_))
 refine W5 ?_
 refine LF ?_
 refine bdE hr fun q9 hq9 hr=>?_
 obtain⟨y6,z5⟩:=q9
 refine CB [(0,0)] [] (q3s hq9) ?_
 refine ggE hr fun g1 hr=>?_
 refine bdE hr fun x1 hx1 hr=>?_
 refine IF g1 hx1 ?_
 refine W1 ?_
 refine NV 4 ?_
 refine SB ?_
 refine N0 ?_
 refine q0d (q0j (h:=?_))
 refine W5 ?_
 refine LF ?_
 refine bdE hr fun q10 hq10 hr=>?_
 obtain⟨y7,z6⟩:=q10
 refine CB [(0,0)] [] (q3s hq10) ?_
 refine ggE hr fun g2 hr=>?_
 refine bdE hr fun x2 hx2 hr=>?_
 refine IF g2 hx2 ?_
 refine W1 ?_
 refine NV 5 ?_
 refine SB ?_
 refine N0 ?_
 refine sr ?_
 refine N4 ?_
 refine ifE hr (fun h8 hr=>?_) fun h8 hr=>?_
 refine q0f rfl (dT h8) ?_
 refine q0d (q0j (h:=?_))
 refine W5 ?_
 refine W2 ?_
 refine bdE hr fun y8 hy8 hr=>?_
 refine CB [(0,6)] [] (z0U (m:=m) hy8) ?_
 refine bdE hr fun q11 hq11 hr=>?_
 obtain⟨y9,z7⟩:=q11
 refine CBz 7 [(0,0),(1,7)] [6] (q6V (m:=.bo) hq11) ?_
 refine LIRq 8 (m:=.fz) (f:=Expr.D) [y9] (by simp only [List.map_cons,List.map_nil,Expr.D_eq]; rfl) ?_
 refine W1 ?_
 refine SB ?_
 refine N0 ?_
 refine AW.ret ?_
 cases hr
 exact q0a [(0,0),(8,1)] 2 hS
 refine q0g rfl (dF h8) ?_
 refine q0b ?_
 refine ssr ?_
 refine W1 ?_
 refine bdE hr fun q12 hq12 hr=>?_
 obtain⟨y10,z8⟩:=q12
 refine CB [(0,0)] [] (q4y hq12) ?_
 refine N0 ?_
 refine ifE hr (fun h9 hr=>?_) fun h9 hr=>?_
 refine q0f rfl h9 ?_
 refine q0d (q0j (h:=?_))
 refine W4 ?_
 refine ggE hr fun g3 hr=>?_
 refine OB _ (bSub g3) ?_
 refine W1 ?_
 refine bdE hr fun q13 hq13 hr=>?_
 obtain⟨y11,z9⟩:=q13
 refine CBz 6 [(0,0),(1,6)] [] (ih_sl10Expr (m:=m) hq13) ?_
 refine W5 ?_
 refine ggE hr fun g4 hr=>?_
 refine OB _ (bSub g4) ?_
 refine W1 ?_
 refine bdE hr fun q14 hq14 hr=>?_
 obtain⟨y12,z10⟩:=q14
 refine CBz 7 [(0,0),(1,7)] [] (ih_sl10Expr (m:=m) hq14) ?_
 refine W5 ?_
 refine ggE hr fun g5 hr=>?_
 refine OB _ (bSub g5) ?_
 refine W1 ?_
 refine bdE hr fun q15 hq15 hr=>?_
 obtain⟨y13,z11⟩:=q15
 refine CBz 8 [(0,0),(1,8)] [] (ih_sl10Expr (m:=m) hq15) ?_
 refine LIRq 9 (m:=.fz) (f:=Expr.D) [y11,y12,y13] (by simp only [List.map_cons,List.map_nil,Expr.D_eq]; rfl) ?_
 refine W1 ?_
 refine SB ?_
 refine N0 ?_
 refine AW.ret ?_
 cases hr
 exact q0a [(0,0),(9,1)] 2 hS
 refine q0g rfl (bF h9) ?_
 refine q0b ?_
 refine sr ?_
 refine N1 ?_
 refine ssr ?_
 refine N1 ?_
 refine AW.block (q0d (q0c ?_))
 refine N2 ?_
 refine ifE hr (fun h10 hr=>?_) fun h10 hr=>?_
 refine q0f rfl (dT h10) ?_
 refine sr ?_
 refine W5 ?_
 refine bdE hr fun y14 hy14 hr=>?_
 refine CB [(0,6)] [] (z0U (m:=m) hy14) ?_
 refine bdE hr fun q16 hq16 hr=>?_
 obtain⟨y15,z12⟩:=q16
 refine CB [(0,0),(1,7)] [6] (q6V (m:=.bo) hq16) ?_
 refine SB ?_
 refine N0 ?_
 refine AW.ret ?_
 cases hr
 exact q0a [(0,0),(7,1)] 2 hS
 refine q0g rfl (dF h10) ?_
 refine sr ?_
 refine N2 ?_
 refine ifE hr (fun h11 hr=>?_) fun h11 hr=>?_
 refine q0f rfl (dT h11) ?_
 refine q0c ?_
 refine W1 ?_
 refine LIR 6 (m:=.fz) (f:=(A.D.i .i64)) (xs:=([1,1,2,3,4,5]:List Int)) ?_
 refine bdE hr fun q17 hq17 hr=>?_
 obtain⟨y16,z13⟩:=q17
 refine CB [(0,0)] [6] (q5o (m:=.bo) hq17) ?_
 refine N1 ?_
 refine sr ?_
 refine W1 ?_
 refine bdE hr fun q18 hq18 hr=>?_
 obtain⟨y17,y18,y19⟩:=q18
 refine CB [] [] (q5L hq18) ?_
 refine W5 ?_
 refine N2 ?_
 refine q0d (q0j (h:=?_))
 refine W5 ?_
 refine W1 ?_
 refine ggE hr fun g6 hr=>?_
 refine OB _ (bSub g6) ?_
 refine W1 ?_
 refine bdE hr fun q19 hq19 hr=>?_
 obtain⟨y20,z14⟩:=q19
 refine CBz 7 [(0,0),(1,7)] [] (ih_sl10Expr (m:=m) hq19) ?_
 refine W5 ?_
 refine ggE hr fun g7 hr=>?_
 refine OB _ (bSub g7) ?_
 refine W1 ?_
 refine bdE hr fun q20 hq20 hr=>?_
 obtain⟨y21,z15⟩:=q20
 refine CBz 8 [(0,0),(1,8)] [] (ih_sl10Expr (m:=m) hq20) ?_
 refine bdE hr fun y22 hy22 hr=>?_
 refine CB [(0,9)] [] (q8G (m:=.fz) hy22) ?_
 refine SB ?_
 refine N0 ?_
 refine AW.ret ?_
 cases hr
 exact q0a [(0,0),(9,1)] 2 hS
 refine q0g rfl (dF h11) ?_
 refine sr ?_
 refine N2 ?_
 refine ifE hr (fun h12 hr=>?_) fun h12 hr=>?_
 refine q0f rfl (dT h12) ?_
 refine q0c ?_
 refine W1 ?_
 refine LIR 6 (m:=.fz) (f:=(A.D.i .i64)) (xs:=([6,6,7,8,12]:List Int)) ?_
 refine bdE hr fun q21 hq21 hr=>?_
 obtain⟨y23,z16⟩:=q21
 refine CB [(0,0)] [6] (q5o (m:=.bo) hq21) ?_
 refine N1 ?_
 refine sr ?_
 refine W1 ?_
 refine bdE hr fun q22 hq22 hr=>?_
 obtain⟨y24,y25,y26⟩:=q22
 refine CB [] [] (q5L hq22) ?_
 refine W5 ?_
 refine N2 ?_
 refine q0d (q0j (h:=?_))
 refine W5 ?_
 refine W1 ?_
 refine ggE hr fun g8 hr=>?_
 refine OB _ (bSub g8) ?_
 refine W1 ?_
 refine bdE hr fun q23 hq23 hr=>?_
 obtain⟨y27,z17⟩:=q23
 refine CBz 7 [(0,0),(1,7)] [] (ih_sl10Expr (m:=m) hq23) ?_
 refine W5 ?_
 refine ggE hr fun g9 hr=>?_
 refine OB _ (bSub g9) ?_
 refine W1 ?_
 refine bdE hr fun q24 hq24 hr=>?_
 obtain⟨y28,z18⟩:=q24
 refine CBz 8 [(0,0),(1,8)] [] (ih_sl10Expr (m:=m) hq24) ?_
 refine bdE hr fun y29 hy29 hr=>?_
 refine CB [(0,9)] [] (q8G (m:=.fz) hy29) ?_
 refine SB ?_
 refine N0 ?_
 refine AW.ret ?_
 cases hr
 exact q0a [(0,0),(9,1)] 2 hS
 refine q0g rfl (dF h12) ?_
 refine q0c ?_
 refine W1 ?_
 refine LIR 6 (m:=.fz) (f:=(A.D.i .i64)) (xs:=([9,10,11]:List Int)) ?_
 refine bdE hr fun q25 hq25 hr=>?_
 obtain⟨y30,z19⟩:=q25
 refine CB [(0,0)] [6] (q5o (m:=.bo) hq25) ?_
 refine N1 ?_
 refine sr ?_
 refine W1 ?_
 refine bdE hr fun q26 hq26 hr=>?_
 obtain⟨y31,y32,y33⟩:=q26
 refine CB [] [] (q5L hq26) ?_
 refine W5 ?_
 refine N2 ?_
 refine q0d (q0j (h:=?_))
 refine W5 ?_
 refine W1 ?_
 refine ggE hr fun g10 hr=>?_
 refine OB _ (bSub g10) ?_
 refine W1 ?_
 refine bdE hr fun q27 hq27 hr=>?_
 obtain⟨y34,z20⟩:=q27
 refine CBz 7 [(0,0),(1,7)] [] (ih_sl10Expr (m:=m) hq27) ?_
 refine W5 ?_
 refine ggE hr fun g11 hr=>?_
 refine OB _ (bSub g11) ?_
 refine W1 ?_
 refine bdE hr fun q28 hq28 hr=>?_
 obtain⟨y35,z21⟩:=q28
 refine CBz 8 [(0,0),(1,8)] [] (ih_sl10Expr (m:=m) hq28) ?_
 refine bdE hr fun y36 hy36 hr=>?_
 refine CB [(0,9)] [] (q8G (m:=.fz) hy36) ?_
 refine SB ?_
 refine N0 ?_
 refine AW.ret ?_
 cases hr
 exact q0a [(0,0),(9,1)] 2 hS
 refine q0g rfl (bF h7) ?_
 refine q0b ?_
 refine ssr ?_
 refine W1 ?_
 refine bdE hr fun q29 hq29 hr=>?_
 obtain⟨y37,z22⟩:=q29
 refine CB [(0,0)] [] (q4y hq29) ?_
 refine N0 ?_
 refine ifE hr (fun h13 hr=>?_) fun h13 hr=>?_
 refine q0f rfl h13 ?_
 refine q0d (q0j (h:=?_))
 refine W4 ?_
 refine ggE hr fun g12 hr=>?_
 refine OB _ (bSub g12) ?_
 refine W1 ?_
 refine bdE hr fun q30 hq30 hr=>?_
 obtain⟨y38,z23⟩:=q30
 refine CBz 4 [(0,0),(1,4)] [] (ih_sl10Expr (m:=m) hq30) ?_
 refine W5 ?_
 refine ggE hr fun g13 hr=>?_
 refine OB _ (bSub g13) ?_
 refine W1 ?_
 refine bdE hr fun q31 hq31 hr=>?_
 obtain⟨y39,z24⟩:=q31
 refine CBz 5 [(0,0),(1,5)] [] (ih_sl10Expr (m:=m) hq31) ?_
 refine W5 ?_
 refine ggE hr fun g14 hr=>?_
 refine OB _ (bSub g14) ?_
 refine W1 ?_
 refine bdE hr fun q32 hq32 hr=>?_
 obtain⟨y40,z25⟩:=q32
 refine CBz 6 [(0,0),(1,6)] [] (ih_sl10Expr (m:=m) hq32) ?_
 refine LIRq 7 (m:=.fz) (f:=Expr.D) [y38,y39,y40] (by simp only [List.map_cons,List.map_nil,Expr.D_eq]; rfl) ?_
 refine W1 ?_
 refine SB ?_
 refine N0 ?_
 refine AW.ret ?_
 cases hr
 exact q0a [(0,0),(7,1)] 2 hS
 refine q0g rfl (bF h13) ?_
 refine q0b ?_
 refine sr ?_
 refine N1 ?_
 refine ssr ?_
 refine N1 ?_
 refine AW.block (q0d (q0c ?_))
 refine N2 ?_
 refine ifE hr (fun h14 hr=>?_) fun h14 hr=>?_
 refine q0f rfl (dT h14) ?_
 refine sr ?_
 refine W5 ?_
 refine bdE hr fun y41 hy41 hr=>?_
 refine CB [(0,4)] [] (z0U (m:=m) hy41) ?_
 refine bdE hr fun q33 hq33 hr=>?_
 obtain⟨y42,z26⟩:=q33
 refine CB [(0,0),(1,5)] [4] (q6V (m:=.bo) hq33) ?_
 refine SB ?_
 refine N0 ?_
 refine AW.ret ?_
 cases hr
 exact q0a [(0,0),(5,1)] 2 hS
 refine q0g rfl (dF h14) ?_
 refine sr ?_
 refine N2 ?_
 refine ifE hr (fun h15 hr=>?_) fun h15 hr=>?_
 refine q0f rfl (dT h15) ?_
 refine q0c ?_
 refine W1 ?_
 refine LIR 4 (m:=.fz) (f:=(A.D.i .i64)) (xs:=([1,1,2,3,4,5]:List Int)) ?_
 refine bdE hr fun q34 hq34 hr=>?_
 obtain⟨y43,z27⟩:=q34
 refine CB [(0,0)] [4] (q5o (m:=.bo) hq34) ?_
 refine N1 ?_
 refine sr ?_
 refine W1 ?_
 refine bdE hr fun q35 hq35 hr=>?_
 obtain⟨y44,y45,y46⟩:=q35
 refine CB [] [] (q5L hq35) ?_
 refine W5 ?_
 refine N2 ?_
 refine q0d (q0j (h:=?_))
 refine W5 ?_
 refine W1 ?_
 refine ggE hr fun g15 hr=>?_
 refine OB _ (bSub g15) ?_
 refine W1 ?_
 refine bdE hr fun q36 hq36 hr=>?_
 obtain⟨y47,z28⟩:=q36
 refine CBz 5 [(0,0),(1,5)] [] (ih_sl10Expr (m:=m) hq36) ?_
 refine W5 ?_
 refine ggE hr fun g16 hr=>?_
 refine OB _ (bSub g16) ?_
 refine W1 ?_
 refine bdE hr fun q37 hq37 hr=>?_
 obtain⟨y48,z29⟩:=q37
 refine CBz 6 [(0,0),(1,6)] [] (ih_sl10Expr (m:=m) hq37) ?_
 refine bdE hr fun y49 hy49 hr=>?_
 refine CB [(0,7)] [] (q8G (m:=.fz) hy49) ?_
 refine SB ?_
 refine N0 ?_
 refine AW.ret ?_
 cases hr
 exact q0a [(0,0),(7,1)] 2 hS
 refine q0g rfl (dF h15) ?_
 refine sr ?_
 refine N2 ?_
 refine ifE hr (fun h16 hr=>?_) fun h16 hr=>?_
 refine q0f rfl (dT h16) ?_
 refine q0c ?_
 refine W1 ?_
 refine LIR 4 (m:=.fz) (f:=(A.D.i .i64)) (xs:=([6,6,7,8,12]:List Int)) ?_
 refine bdE hr fun q38 hq38 hr=>?_
 obtain⟨y50,z30⟩:=q38
 refine CB [(0,0)] [4] (q5o (m:=.bo) hq38) ?_
 refine N1 ?_
 refine sr ?_
 refine W1 ?_
 refine bdE hr fun q39 hq39 hr=>?_
 obtain⟨y51,y52,y53⟩:=q39
 refine CB [] [] (q5L hq39) ?_
 refine W5 ?_
 refine N2 ?_
 refine q0d (q0j (h:=?_))
 refine W5 ?_
 refine W1 ?_
 refine ggE hr fun g17 hr=>?_
 refine OB _ (bSub g17) ?_
 refine W1 ?_
 refine bdE hr fun q40 hq40 hr=>?_
 obtain⟨y54,z31⟩:=q40
 refine CBz 5 [(0,0),(1,5)] [] (ih_sl10Expr (m:=m) hq40) ?_
 refine W5 ?_
 refine ggE hr fun g18 hr=>?_
 refine OB _ (bSub g18) ?_
 refine W1 ?_
 refine bdE hr fun q41 hq41 hr=>?_
 obtain⟨y55,z32⟩:=q41
 refine CBz 6 [(0,0),(1,6)] [] (ih_sl10Expr (m:=m) hq41) ?_
 refine bdE hr fun y56 hy56 hr=>?_
 refine CB [(0,7)] [] (q8G (m:=.fz) hy56) ?_
 refine SB ?_
 refine N0 ?_
 refine AW.ret ?_
 cases hr
 exact q0a [(0,0),(7,1)] 2 hS
 refine q0g rfl (dF h16) ?_
 refine q0c ?_
 refine W1 ?_
 refine LIR 4 (m:=.fz) (f:=(A.D.i .i64)) (xs:=([9,10,11]:List Int)) ?_
 refine bdE hr fun q42 hq42 hr=>?_
 obtain⟨y57,z33⟩:=q42
 refine CB [(0,0)] [4] (q5o (m:=.bo) hq42) ?_
 refine N1 ?_
 refine sr ?_
 refine W1 ?_
 refine bdE hr fun q43 hq43 hr=>?_
 obtain⟨y58,y59,y60⟩:=q43
 refine CB [] [] (q5L hq43) ?_
 refine W5 ?_
 refine N2 ?_
 refine q0d (q0j (h:=?_))
 refine W5 ?_
 refine W1 ?_
 refine ggE hr fun g19 hr=>?_
 refine OB _ (bSub g19) ?_
 refine W1 ?_
 refine bdE hr fun q44 hq44 hr=>?_
 obtain⟨y61,z34⟩:=q44
 refine CBz 5 [(0,0),(1,5)] [] (ih_sl10Expr (m:=m) hq44) ?_
 refine W5 ?_
 refine ggE hr fun g20 hr=>?_
 refine OB _ (bSub g20) ?_
 refine W1 ?_
 refine bdE hr fun q45 hq45 hr=>?_
 obtain⟨y62,z35⟩:=q45
 refine CBz 6 [(0,0),(1,6)] [] (ih_sl10Expr (m:=m) hq45) ?_
 refine bdE hr fun y63 hy63 hr=>?_
 refine CB [(0,7)] [] (q8G (m:=.fz) hy63) ?_
 refine SB ?_
 refine N0 ?_
 refine AW.ret ?_
 cases hr
 exact q0a [(0,0),(7,1)] 2 hS
def q5A:Nat→Grammar→Rule→Int→Int→Bool→l1Cur→Option (Expr × l1Cur)
  | 0,_,_,_,_,_,_=>none
  | n+1,a1,a2,a3,a4,a5,o0=>q6i (q5A n) a1 a2 a3 a4 a5 o0
def z5v (a1:Grammar)(a2:Rule)(a3:Int)(a4:Int)(a5:Bool)(o0:l1Cur):Option (Expr × l1Cur):=recO fun n=>q5A n a1 a2 a3 a4 a5 o0
theorem j0W (n:Nat):∀ {m:Md} {a1:Grammar} {a2:Rule} {a3:Int} {a4:Int} {a5:Bool} {o0:l1Cur} {r:(Expr × l1Cur)},q5A n a1 a2 a3 a4 a5 o0=some r→Ok Tryz.prog 106 [.pb 0 0,Grammar.y m a1,Rule.x m a2,.d .fz (.i .i64 a3),.d .fz (.i .i64 a4),.d .fz (.b a5)] [.box [.d .fz (.sl 1 (o0.b.map byD)),.d .fz (.i .i64 o0.i),.d .fz (.i .i64 o0.h)]] (.ag [.d .fz (.i .i64 r.1.Kind),.d .fz (.i .i64 r.1.N),.d .fz (.i .i64 r.1.Pos),.d .fz (.i .i64 r.1.Type_),.d .fz (.s r.1.Symbol),.d .fz (.s r.1.Name),.ref 1 none]) [.box [.d .fz (.sl 1 (o0.b.map byD)),.d .fz (.i .i64 r.2.i),.d .fz (.i .i64 r.2.h)],.row .fz 7 (r.1.Args.map Expr.D)]:=by
  induction n with
  | zero=>intro _ _ _ _ _ _ _ r hr; exact nomatch (show (none:Option (Expr × l1Cur))=some r from hr)
  | succ n ih=>intro _ _ _ _ _ _ _ r hr; exact j0V ih hr
theorem j2f {m:Md}{a1:Grammar}{a2:Rule}{a3:Int}{a4:Int}{a5:Bool}{o0:l1Cur}{r:(Expr × l1Cur)}(hr:z5v a1 a2 a3 a4 a5 o0=some r):Ok Tryz.prog 106 [.pb 0 0,Grammar.y m a1,Rule.x m a2,.d .fz (.i .i64 a3),.d .fz (.i .i64 a4),.d .fz (.b a5)] [.box [.d .fz (.sl 1 (o0.b.map byD)),.d .fz (.i .i64 o0.i),.d .fz (.i .i64 o0.h)]] (.ag [.d .fz (.i .i64 r.1.Kind),.d .fz (.i .i64 r.1.N),.d .fz (.i .i64 r.1.Pos),.d .fz (.i .i64 r.1.Type_),.d .fz (.s r.1.Symbol),.d .fz (.s r.1.Name),.ref 1 none]) [.box [.d .fz (.sl 1 (o0.b.map byD)),.d .fz (.i .i64 r.2.i),.d .fz (.i .i64 r.2.h)],.row .fz 7 (r.1.Args.map Expr.D)]:=by
 obtain⟨n,hn⟩:=q5a hr
 exact j0W n hn
def z0J (rec_sl4Left:Expr→Int→Option Int)(a0:Expr):(Int × Int)→Option ((Int × Int) ⊕ Int):=fun (s2,s3)=>
 if s3 < (a0.Args.length:Int) then (
 if 0≤s2 then (
 grd (0≤s3) <|
 (a0.Args[s3.toNat]?).bind fun x1=>
 (rec_sl4Left x1 s2).bind fun y1=>
 grd (I64 (s3+1)) <|
 some (.inl (y1,(s3+1)))
 ) else (
 some (.inr s2)
 )
 ) else (
 some (.inr s2)
 )
def z3d (rec_sl4Left:Expr→Int→Option Int)(a0:Expr)(a1:Int):Option Int:=
 grd (I64 (a1 - 1)) <|
 (q5m (z0J rec_sl4Left a0) ((a1 - 1),0)).bind fun s1=>
 some s1
theorem j2g {rec_sl4Left:Expr→Int→Option Int}(ih_sl4Left:∀ {m:Md} {a0:Expr} {a1:Int} {r:Int},rec_sl4Left a0 a1=some r→Ok Tryz.prog 109 [Expr.x m a0,.d .fz (.i .i64 a1)] [] (.d .fz (.i .i64 r)) []){m:Md}{a0:Expr}{a1:Int}{r:Int}(hr:z3d rec_sl4Left a0 a1=some r):Ok Tryz.prog 109 [Expr.x m a0,.d .fz (.i .i64 a1)] [] (.d .fz (.i .i64 r)) []:=by
 refine Ok.enter rfl Tryz.func109 rfl rfl rfl fun S hS=>?_
 unfold z3d at hr
 refine sr ?_
 refine BX 0 ?_
 refine N1 ?_
 refine sr ?_
 refine W1 ?_
 refine ggE hr fun g1 hr=>?_
 refine OB _ (bSub g1) ?_
 refine N1 ?_
 refine ssr ?_
 refine N1 ?_
 refine bdE hr fun s1 hqq1 hr=>?_
 refine q0n 1 [(1,.d .fz (.i .i64 s1))] [] ?_ ?_
 refine AW.block (q0q hqq1 1 (fun (s2,s3)=>[(1,.d .fz (.i .i64 s2)),(2,.pb 0 0),(5,.d .fz (.i .i64 s3))]) (fun (s2,s3)=>[]) (q0e hS 1) fun sk1 ok1 hr hik1=>?_)
 obtain⟨s2,s3⟩:=sk1
 have hr:=hr
 refine ssr ?_
 refine W3 ?_
 refine LF ?_
 refine W1 ?_
 refine ifE hr (fun h1 hr=>?_) fun h1 hr=>?_
 refine VT rfl (dT h1) ?_
 refine N3 ?_
 refine ifE hr (fun h2 hr=>?_) fun h2 hr=>?_
 refine q0f rfl (dT h2) ?_
 refine q0b ?_
 refine q0d (AW.block (q0c ?_))
 refine W3 ?_
 refine ggE hr fun g2 hr=>?_
 refine bdE hr fun x1 hx1 hr=>?_
 refine IFq g2 hx1 (Expr.D_cells x1) ?_
 refine W2 ?_
 refine bdE hr fun y1 hy1 hr=>?_
 refine CB [] [] (ih_sl4Left (m:=m) hy1) ?_
 refine N1 ?_
 refine q0c ?_
 refine W1 ?_
 refine ggE hr fun g3 hr=>?_
 refine OB _ (bAdd g3) ?_
 refine N1 ?_
 cases hr
 exact⟨_,rfl,q0e hS 1⟩
 refine q0g rfl (dF h2) ?_
 refine q0i ?_
 cases hr
 cases hik1 _ rfl
 exact q0e hS 1
 refine VF rfl (dF h1) ?_
 iterate 2 refine AL.off ?_
 refine N1 ?_
 refine q0g rfl rfl ?_
 refine q0i ?_
 cases hr
 cases hik1 _ rfl
 exact q0e hS 1
 refine sr ?_
 refine N2 ?_
 refine AW.ret ?_
 cases hr
 exact q0a [] 0 hS
def z0V:Nat→Expr→Int→Option Int
  | 0,_,_=>none
  | n+1,a0,a1=>z3d (z0V n) a0 a1
def z7a (a0:Expr)(a1:Int):Option Int:=recO fun n=>z0V n a0 a1
theorem j2h (n:Nat):∀ {m:Md} {a0:Expr} {a1:Int} {r:Int},z0V n a0 a1=some r→Ok Tryz.prog 109 [Expr.x m a0,.d .fz (.i .i64 a1)] [] (.d .fz (.i .i64 r)) []:=by
  induction n with
  | zero=>intro _ _ _ r hr; exact nomatch (show (none:Option Int)=some r from hr)
  | succ n ih=>intro _ _ _ r hr; exact j2g ih hr
theorem j4m {m:Md}{a0:Expr}{a1:Int}{r:Int}(hr:z7a a0 a1=some r):Ok Tryz.prog 109 [Expr.x m a0,.d .fz (.i .i64 a1)] [] (.d .fz (.i .i64 r)) []:=by
 obtain⟨n,hn⟩:=q5a hr
 exact j2h n hn
def z1v (a0:Int)(a1:Int):Option Int:=
 if a1 < a0 then (
 some a0
 ) else (
 some a1
 )
theorem z7b {a0:Int}{a1:Int}{r:Int}(hr:z1v a0 a1=some r):Ok Tryz.prog 139 [.d .fz (.i .i64 a0),.d .fz (.i .i64 a1)] [] (.d .fz (.i .i64 r)) []:=by
 refine Ok.enter rfl Tryz.func139 rfl rfl rfl fun S hS=>?_
 unfold z1v at hr
 refine sr ?_
 refine N1 ?_
 refine ssr ?_
 refine N3 ?_
 refine ifE hr (fun h1 hr=>?_) fun h1 hr=>?_
 refine q0f rfl (dT h1) ?_
 refine sr ?_
 refine N2 ?_
 refine AW.ret ?_
 cases hr
 exact q0a [] 0 hS
 refine q0g rfl (dF h1) ?_
 refine q0b ?_
 refine sr ?_
 refine N2 ?_
 refine AW.ret ?_
 cases hr
 exact q0a [] 0 hS
def z0W (rec_sDepthOfExpr:Expr→Option Int):Nat→Expr→Int→Option Int:=fun k1 xk1 s1=>
 (rec_sDepthOfExpr xk1).bind fun y1=>
 (z1v s1 y1).bind fun y2=>
 some y2
def q8u (rec_sDepthOfExpr:Expr→Option Int)(a0:Expr):Option Int:=
 (eachL (z0W rec_sDepthOfExpr) 0 a0.Args 0).bind fun s1=>
 grd (I64 (s1+1)) <|
 some (s1+1)
theorem z6e {rec_sDepthOfExpr:Expr→Option Int}(ih_sDepthOfExpr:∀ {m:Md} {a0:Expr} {r:Int},rec_sDepthOfExpr a0=some r→Ok Tryz.prog 110 [Expr.x m a0] [] (.d .fz (.i .i64 r)) []){m:Md}{a0:Expr}{r:Int}(hr:q8u rec_sDepthOfExpr a0=some r):Ok Tryz.prog 110 [Expr.x m a0] [] (.d .fz (.i .i64 r)) []:=by
 refine Ok.enter rfl Tryz.func110 rfl rfl rfl fun S hS=>?_
 unfold q8u at hr
 refine sr ?_
 refine BX 0 ?_
 refine N1 ?_
 refine sr ?_
 refine N1 ?_
 refine ssr ?_
 refine N1 ?_
 refine AW.block ?_
 refine AW.len (.ag 6 (.tmp 0 rfl) rfl) fun hl1=>?_
 refine bdE hr fun s1 hqq1 hr=>?_
 refine q0o hqq1 hl1 1 (fun k1 s1=>[(1,.pb 0 0),(3,.d .fz (.i .i64 s1)),(4,.d .fz (.i .i64 (k1:Int)))]) (fun k1 s1=>[]) (q0e hS 1) (fun k1 xk1 sk1 ok1 hxk1 hr hltk1=>?_) fun k1 hltk1=>?_
 obtain⟨s1,rfl⟩:∃ y,y=sk1:=⟨_,rfl⟩
 refine ssr ?_
 refine W3 ?_
 refine LF ?_
 refine N1 ?_
 refine q0f rfl (dT hltk1) ?_
 refine q0b ?_
 refine q0d (AW.block (q0c ?_))
 refine W4 ?_
 refine IFq (Int.natCast_nonneg _) hxk1 (Expr.D_cells xk1) ?_
 refine W1 ?_
 refine bdE hr fun y1 hy1 hr=>?_
 refine CB [] [] (ih_sDepthOfExpr (m:=m) hy1) ?_
 refine bdE hr fun y2 hy2 hr=>?_
 refine CB [] [] (z7b hy2) ?_
 refine N1 ?_
 refine q0c ?_
 refine W1 ?_
 refine OB _ (q3B (p:=k1) (q:=1) (q3m hltk1 hl1)) ?_
 refine N1 ?_
 cases hr
 exact q0e hS 1
 refine ssr ?_
 refine W3 ?_
 refine LF ?_
 refine N1 ?_
 refine q0g rfl (dF hltk1) ?_
 refine q0i ?_
 refine sr ?_
 refine W1 ?_
 refine ggE hr fun g1 hr=>?_
 refine OB _ (bAdd g1) ?_
 refine N1 ?_
 refine AW.ret ?_
 cases hr
 exact q0a [] 0 hS
def q6g:Nat→Expr→Option Int
  | 0,_=>none
  | n+1,a0=>q8u (q6g n) a0
def z1J (a0:Expr):Option Int:=recO fun n=>q6g n a0
theorem z6f (n:Nat):∀ {m:Md} {a0:Expr} {r:Int},q6g n a0=some r→Ok Tryz.prog 110 [Expr.x m a0] [] (.d .fz (.i .i64 r)) []:=by
  induction n with
  | zero=>intro _ _ r hr; exact nomatch (show (none:Option Int)=some r from hr)
  | succ n ih=>intro _ _ r hr; exact z6e ih hr
theorem z7c {m:Md}{a0:Expr}{r:Int}(hr:z1J a0=some r):Ok Tryz.prog 110 [Expr.x m a0] [] (.d .fz (.i .i64 r)) []:=by
 obtain⟨n,hn⟩:=q5a hr
 exact z6f n hn
def z3e (a0:Expr):Option Bool:=
 (
 if a0.Kind=4 then (
 some 2
 ) else (
 if a0.Kind=5 then (
 some 3
 ) else (
 if a0.Kind=8 then (
 some 1
 ) else (
 some 0
 )
 )
 )
 ).bind fun s1=>
 if (a0.Args.length:Int)=s1 then (
 (
 if a0.Kind=3 then (
 some true
 ) else (
 some (decide (a0.Kind=6))
 )
 ).bind fun s2=>
 (
 if a0.Kind=3 then (
 some true
 ) else (
 some (decide (a0.Kind=8))
 )
 ).bind fun s3=>
 (
 if a0.Kind=1 then (
 some true
 ) else (
 some (decide (a0.Kind=4))
 )
 ).bind fun s4=>
 (
 if s2=true then (
 some true
 ) else (
 some (decide (a0.Pos=0))
 )
 ).bind fun s5=>
 (
 if s5=true then (
 (
 if s3=true then (
 some true
 ) else (
 some (decide (a0.Name=(⟨#[]⟩:ByteArray)))
 )
 ).bind fun s7=>
 some s7
 ) else (
 some false
 )
 ).bind fun s6=>
 (
 if s6=true then (
 (
 if s4=true then (
 some true
 ) else (
 some (decide (a0.N=0))
 )
 ).bind fun s9=>
 some s9
 ) else (
 some false
 )
 ).bind fun s8=>
 (
 if s8=true then (
 (
 if a0.Kind=1 then (
 some true
 ) else (
 some (decide (a0.Type_=0))
 )
 ).bind fun s11=>
 some s11
 ) else (
 some false
 )
 ).bind fun s10=>
 (
 if s10=true then (
 (
 if a0.Kind=8 then (
 some true
 ) else (
 some (decide (a0.Symbol=(⟨#[]⟩:ByteArray)))
 )
 ).bind fun s13=>
 some s13
 ) else (
 some false
 )
 ).bind fun s12=>
 some s12
 ) else (
 some false
 )
theorem j4n {m:Md}{a0:Expr}{r:Bool}(hr:z3e a0=some r):Ok Tryz.prog 172 [Expr.x m a0] [] (.d .fz (.b r)) []:=by
 refine Ok.enter rfl Tryz.func172 rfl rfl rfl fun S hS=>?_
 unfold z3e at hr
 refine sr ?_
 refine BX 0 ?_
 refine N1 ?_
 refine sr ?_
 refine N1 ?_
 refine ssr ?_
 refine N2 ?_
 refine bdE hr fun s1 hqq1 hr=>?_
 refine q0n 1 [(1,.pb 0 0),(3,.d .fz (.i .i64 s1))] [] ?_ ?_
 replace hr:=hqq1
 refine AW.block (q0d (q0c ?_))
 refine N2 ?_
 refine ifE hr (fun h1 hr=>?_) fun h1 hr=>?_
 refine q0f rfl (dT h1) ?_
 refine q0c ?_
 refine N1 ?_
 cases hr
 exact q0e hS 1
 refine q0g rfl (dF h1) ?_
 refine sr ?_
 refine N2 ?_
 refine ifE hr (fun h2 hr=>?_) fun h2 hr=>?_
 refine q0f rfl (dT h2) ?_
 refine q0c ?_
 refine N1 ?_
 cases hr
 exact q0e hS 1
 refine q0g rfl (dF h2) ?_
 refine sr ?_
 refine N2 ?_
 refine ifE hr (fun h3 hr=>?_) fun h3 hr=>?_
 refine q0f rfl (dT h3) ?_
 refine q0c ?_
 refine N1 ?_
 cases hr
 exact q0e hS 1
 refine q0g rfl (dF h3) ?_
 refine q0b ?_
 cases hr
 exact q0e hS 1
 refine ssr ?_
 refine W2 ?_
 refine LF ?_
 refine N2 ?_
 refine ifE hr (fun h4 hr=>?_) fun h4 hr=>?_
 refine q0g rfl (nF h4) ?_
 refine q0b ?_
 refine sr ?_
 refine W3 ?_
 refine bdE hr fun s2 hqq2 hr=>?_
 refine q0h 5 [(1,.pb 0 0),(27,.d .fz (.b s2))] ?_ ?_
 replace hr:=hqq2
 refine ifE hr (fun h5 hr=>?_) fun h5 hr=>?_
 refine VT rfl (dT h5) ?_
 iterate 3 refine AL.off ?_
 refine N1 ?_
 cases hr
 exact q3n
 refine VF rfl (dF h5) ?_
 refine N4 ?_
 cases hr
 exact q3n
 refine N1 ?_
 refine sr ?_
 refine W3 ?_
 refine bdE hr fun s3 hqq3 hr=>?_
 refine q0h 5 [(1,.pb 0 0),(4,.d .fz (.b s2)),(35,.d .fz (.b s3))] ?_ ?_
 replace hr:=hqq3
 refine ifE hr (fun h6 hr=>?_) fun h6 hr=>?_
 refine VT rfl (dT h6) ?_
 iterate 3 refine AL.off ?_
 refine N1 ?_
 cases hr
 exact q3n
 refine VF rfl (dF h6) ?_
 refine N4 ?_
 cases hr
 exact q3n
 refine N1 ?_
 refine sr ?_
 refine W3 ?_
 refine bdE hr fun s4 hqq4 hr=>?_
 refine q0h 5 [(1,.pb 0 0),(4,.d .fz (.b s2)),(5,.d .fz (.b s3)),(43,.d .fz (.b s4))] ?_ ?_
 replace hr:=hqq4
 refine ifE hr (fun h7 hr=>?_) fun h7 hr=>?_
 refine VT rfl (dT h7) ?_
 iterate 3 refine AL.off ?_
 refine N1 ?_
 cases hr
 exact q3n
 refine VF rfl (dF h7) ?_
 refine N4 ?_
 cases hr
 exact q3n
 refine N1 ?_
 refine sr ?_
 refine W1 ?_
 refine bdE hr fun s5 hqq5 hr=>?_
 refine q0h 5 [(1,.pb 0 0),(5,.d .fz (.b s3)),(6,.d .fz (.b s4)),(49,.d .fz (.b s5))] ?_ ?_
 replace hr:=hqq5
 refine ifE hr (fun h8 hr=>?_) fun h8 hr=>?_
 refine VT rfl h8 ?_
 iterate 3 refine AL.off ?_
 refine N1 ?_
 cases hr
 exact q3n
 refine VF rfl (bF h8) ?_
 refine N4 ?_
 cases hr
 exact q3n
 refine bdE hr fun s6 hqq6 hr=>?_
 refine q0h 8 [(1,.pb 0 0),(6,.d .fz (.b s4)),(57,.d .fz (.b s6))] ?_ ?_
 replace hr:=hqq6
 refine ifE hr (fun h9 hr=>?_) fun h9 hr=>?_
 refine VT rfl h9 ?_
 refine W1 ?_
 refine bdE hr fun s7 hqq7 hr=>?_
 refine q0h 5 [(1,.pb 0 0),(6,.d .fz (.b s4)),(50,.d .fz (.b true)),(56,.d .fz (.b s7))] ?_ ?_
 replace hr:=hqq7
 refine ifE hr (fun h10 hr=>?_) fun h10 hr=>?_
 refine VT rfl h10 ?_
 iterate 3 refine AL.off ?_
 refine N1 ?_
 cases hr
 exact q3n
 refine VF rfl (bF h10) ?_
 refine N4 ?_
 cases hr
 exact q3n
 refine N1 ?_
 cases hr
 exact q3n
 refine VF rfl (bF h9) ?_
 iterate 6 refine AL.off ?_
 refine N1 ?_
 cases hr
 exact q3n
 refine bdE hr fun s8 hqq8 hr=>?_
 refine q0h 8 [(1,.pb 0 0),(65,.d .fz (.b s8))] ?_ ?_
 replace hr:=hqq8
 refine ifE hr (fun h11 hr=>?_) fun h11 hr=>?_
 refine VT rfl h11 ?_
 refine W1 ?_
 refine bdE hr fun s9 hqq9 hr=>?_
 refine q0h 5 [(1,.pb 0 0),(58,.d .fz (.b true)),(64,.d .fz (.b s9))] ?_ ?_
 replace hr:=hqq9
 refine ifE hr (fun h12 hr=>?_) fun h12 hr=>?_
 refine VT rfl h12 ?_
 iterate 3 refine AL.off ?_
 refine N1 ?_
 cases hr
 exact q3n
 refine VF rfl (bF h12) ?_
 refine N4 ?_
 cases hr
 exact q3n
 refine N1 ?_
 cases hr
 exact q3n
 refine VF rfl (bF h11) ?_
 iterate 6 refine AL.off ?_
 refine N1 ?_
 cases hr
 exact q3n
 refine bdE hr fun s10 hqq10 hr=>?_
 refine q0h 10 [(1,.pb 0 0),(75,.d .fz (.b s10))] ?_ ?_
 replace hr:=hqq10
 refine ifE hr (fun h13 hr=>?_) fun h13 hr=>?_
 refine VT rfl h13 ?_
 refine W3 ?_
 refine bdE hr fun s11 hqq11 hr=>?_
 refine q0h 5 [(1,.pb 0 0),(66,.d .fz (.b true)),(74,.d .fz (.b s11))] ?_ ?_
 replace hr:=hqq11
 refine ifE hr (fun h14 hr=>?_) fun h14 hr=>?_
 refine VT rfl (dT h14) ?_
 iterate 3 refine AL.off ?_
 refine N1 ?_
 cases hr
 exact q3n
 refine VF rfl (dF h14) ?_
 refine N4 ?_
 cases hr
 exact q3n
 refine N1 ?_
 cases hr
 exact q3n
 refine VF rfl (bF h13) ?_
 iterate 8 refine AL.off ?_
 refine N1 ?_
 cases hr
 exact q3n
 refine bdE hr fun s12 hqq12 hr=>?_
 refine q0h 10 [(85,.d .fz (.b s12))] ?_ ?_
 replace hr:=hqq12
 refine ifE hr (fun h15 hr=>?_) fun h15 hr=>?_
 refine VT rfl h15 ?_
 refine W3 ?_
 refine bdE hr fun s13 hqq13 hr=>?_
 refine q0h 5 [(76,.d .fz (.b true)),(84,.d .fz (.b s13))] ?_ ?_
 replace hr:=hqq13
 refine ifE hr (fun h16 hr=>?_) fun h16 hr=>?_
 refine VT rfl (dT h16) ?_
 iterate 3 refine AL.off ?_
 refine N1 ?_
 cases hr
 exact q3n
 refine VF rfl (dF h16) ?_
 refine N4 ?_
 cases hr
 exact q3n
 refine N1 ?_
 cases hr
 exact q3n
 refine VF rfl (bF h15) ?_
 iterate 8 refine AL.off ?_
 refine N1 ?_
 cases hr
 exact q3n
 refine N1 ?_
 refine AW.ret ?_
 cases hr
 exact q0a [] 0 hS
 refine q0f rfl (nT h4) ?_
 refine sr ?_
 refine N1 ?_
 refine AW.ret ?_
 cases hr
 exact q0a [] 0 hS
def z4Q (a0:Int)(a1:Int):Option Int:=
 if a0 < a1 then (
 some a0
 ) else (
 some a1
 )
theorem j5B {a0:Int}{a1:Int}{r:Int}(hr:z4Q a0 a1=some r):Ok Tryz.prog 205 [.d .fz (.i .i64 a0),.d .fz (.i .i64 a1)] [] (.d .fz (.i .i64 r)) []:=by
 refine Ok.enter rfl Tryz.func205 rfl rfl rfl fun S hS=>?_
 unfold z4Q at hr
 refine sr ?_
 refine N1 ?_
 refine ssr ?_
 refine N3 ?_
 refine ifE hr (fun h1 hr=>?_) fun h1 hr=>?_
 refine q0f rfl (dT h1) ?_
 refine sr ?_
 refine N2 ?_
 refine AW.ret ?_
 cases hr
 exact q0a [] 0 hS
 refine q0g rfl (dF h1) ?_
 refine q0b ?_
 refine sr ?_
 refine N2 ?_
 refine AW.ret ?_
 cases hr
 exact q0a [] 0 hS
def z0X (a0:Int):Option Int:=
 (z4Q 1000000 a0).bind fun y1=>
 (z1v (-1000000) y1).bind fun y2=>
 some y2
theorem j0X {a0:Int}{r:Int}(hr:z0X a0=some r):Ok Tryz.prog 199 [.d .fz (.i .i64 a0)] [] (.d .fz (.i .i64 r)) []:=by
 refine Ok.enter rfl Tryz.func199 rfl rfl rfl fun S hS=>?_
 unfold z0X at hr
 refine sr ?_
 refine N1 ?_
 refine sr ?_
 refine W1 ?_
 refine bdE hr fun y1 hy1 hr=>?_
 refine CB [] [] (j5B hy1) ?_
 refine bdE hr fun y2 hy2 hr=>?_
 refine CB [] [] (z7b hy2) ?_
 refine N1 ?_
 refine AW.ret ?_
 cases hr
 exact q0a [] 0 hS
def z1X (a0:Bool):Option Int:=
 if a0=true then (
 some 1
 ) else (
 some 0
 )
theorem j2i {a0:Bool}{r:Int}(hr:z1X a0=some r):Ok Tryz.prog 200 [.d .fz (.b a0)] [] (.d .fz (.i .i64 r)) []:=by
 refine Ok.enter rfl Tryz.func200 rfl rfl rfl fun S hS=>?_
 unfold z1X at hr
 refine sr ?_
 refine N1 ?_
 refine ssr ?_
 refine N1 ?_
 refine ifE hr (fun h1 hr=>?_) fun h1 hr=>?_
 refine q0f rfl h1 ?_
 refine sr ?_
 refine N1 ?_
 refine AW.ret ?_
 cases hr
 exact q0a [] 0 hS
 refine q0g rfl (bF h1) ?_
 refine q0b ?_
 refine sr ?_
 refine N1 ?_
 refine AW.ret ?_
 cases hr
 exact q0a [] 0 hS
def z3f (a0:Int)(a1:Int):Option Int:=
 if a1=1 then (
 (z0X a0).bind fun y1=>
 some y1
 ) else (
 if a1=2 then (
 some (z4L a0 4095)
 ) else (
 if a1=3 then (
 (z1X (!(decide (a0=0)))).bind fun y2=>
 some y2
 ) else (
 if a1=4 then (
 (q5H a0 0 999).bind fun y3=>
 if y3=true then (
 some a0
 ) else (
 some 0
 )
 ) else (
 some 0
 )
 )
 )
 )
theorem j4o {a0:Int}{a1:Int}{r:Int}(hr:z3f a0 a1=some r):Ok Tryz.prog 189 [.d .fz (.i .i64 a0),.d .fz (.i .i64 a1)] [] (.d .fz (.i .i64 r)) []:=by
 refine Ok.enter rfl Tryz.func189 rfl rfl rfl fun S hS=>?_
 unfold z3f at hr
 refine sr ?_
 refine N1 ?_
 refine ssr ?_
 refine N1 ?_
 refine AW.block (q0d (q0c ?_))
 refine N2 ?_
 refine ifE hr (fun h1 hr=>?_) fun h1 hr=>?_
 refine q0f rfl (dT h1) ?_
 refine sr ?_
 refine W1 ?_
 refine bdE hr fun y1 hy1 hr=>?_
 refine CB [] [] (j0X hy1) ?_
 refine N1 ?_
 refine AW.ret ?_
 cases hr
 exact q0a [] 0 hS
 refine q0g rfl (dF h1) ?_
 refine sr ?_
 refine N2 ?_
 refine ifE hr (fun h2 hr=>?_) fun h2 hr=>?_
 refine q0f rfl (dT h2) ?_
 refine sr ?_
 refine W1 ?_
 refine OB _ j5s ?_
 refine N1 ?_
 refine AW.ret ?_
 cases hr
 exact q0a [] 0 hS
 refine q0g rfl (dF h2) ?_
 refine sr ?_
 refine N2 ?_
 refine ifE hr (fun h3 hr=>?_) fun h3 hr=>?_
 refine q0f rfl (dT h3) ?_
 refine sr ?_
 refine W2 ?_
 refine bdE hr fun y2 hy2 hr=>?_
 refine CB [] [] (j2i hy2) ?_
 refine N1 ?_
 refine AW.ret ?_
 cases hr
 exact q0a [] 0 hS
 refine q0g rfl (dF h3) ?_
 refine sr ?_
 refine N2 ?_
 refine ifE hr (fun h4 hr=>?_) fun h4 hr=>?_
 refine q0f rfl (dT h4) ?_
 refine sr ?_
 refine W1 ?_
 refine bdE hr fun y3 hy3 hr=>?_
 refine CB [] [] (q6x hy3) ?_
 refine N0 ?_
 refine ifE hr (fun h5 hr=>?_) fun h5 hr=>?_
 refine q0f rfl h5 ?_
 refine sr ?_
 refine N2 ?_
 refine AW.ret ?_
 cases hr
 exact q0a [] 0 hS
 refine q0g rfl (bF h5) ?_
 refine q0b ?_
 refine sr ?_
 refine N1 ?_
 refine AW.ret ?_
 cases hr
 exact q0a [] 0 hS
 refine q0g rfl (dF h4) ?_
 refine q0b ?_
 refine sr ?_
 refine N1 ?_
 refine AW.ret ?_
 cases hr
 exact q0a [] 0 hS
def z0Y (a0:Int)(a1:Int):Option Bool:=
 (q5H a1 1 4).bind fun y1=>
 if y1=true then (
 (z3f a0 a1).bind fun y2=>
 some (decide (y2=a0))
 ) else (
 some false
 )
theorem j0Y {a0:Int}{a1:Int}{r:Bool}(hr:z0Y a0 a1=some r):Ok Tryz.prog 173 [.d .fz (.i .i64 a0),.d .fz (.i .i64 a1)] [] (.d .fz (.b r)) []:=by
 refine Ok.enter rfl Tryz.func173 rfl rfl rfl fun S hS=>?_
 unfold z0Y at hr
 refine sr ?_
 refine N1 ?_
 refine sr ?_
 refine W1 ?_
 refine bdE hr fun y1 hy1 hr=>?_
 refine CB [] [] (q6x hy1) ?_
 refine ifE hr (fun h1 hr=>?_) fun h1 hr=>?_
 refine VT rfl h1 ?_
 refine W2 ?_
 refine bdE hr fun y2 hy2 hr=>?_
 refine CB [] [] (j4o hy2) ?_
 refine N4 ?_
 refine AW.ret ?_
 cases hr
 exact q0a [] 0 hS
 refine VF rfl (bF h1) ?_
 iterate 5 refine AL.off ?_
 refine N2 ?_
 refine AW.ret ?_
 cases hr
 exact q0a [] 0 hS
def z7d (a0:ByteArray):Nat→Unit→Option (Unit ⊕ Bool):=fun k1 _=>
 (a0.data[k1]?).bind fun x1=>
 (
 if 97≤(x1.toNat:Int) then (
 some (decide ((x1.toNat:Int)≤122))
 ) else (
 some false
 )
 ).bind fun s1=>
 (
 if 48≤(x1.toNat:Int) then (
 some (decide ((x1.toNat:Int)≤57))
 ) else (
 some false
 )
 ).bind fun s2=>
 (
 if s1=true then (
 some false
 ) else (
 (
 if (k1:Int)=0 then (
 some (true,true)
 ) else (
 some (false,!s2)
 )
 ).bind fun (s4,s5)=>
 some s5
 )
 ).bind fun s3=>
 if s3=true then (
 some (.inr false)
 ) else (
 some (.inl ())
 )
def z3V (a0:ByteArray):Option Bool:=
 (findN (z7d a0) 0 a0.size ()).bind <| onr (fun r1=>some r1) fun _=>
 some (decide (0 < (a0.size:Int)))
theorem j2j {a0:ByteArray}{r:Bool}(hr:z3V a0=some r):Ok Tryz.prog 184 [.d .fz (.s a0)] [] (.d .fz (.b r)) []:=by
 refine Ok.enter rfl Tryz.func184 rfl rfl rfl fun S hS=>?_
 unfold z3V at hr
 refine sr ?_
 refine N1 ?_
 refine ssr ?_
 refine N1 ?_
 refine AW.block ?_
 refine q2y (.tmp 0 rfl) fun ht1=>?_
 have hl1:rngI .i64 (a0.size:Int):=j6M ht1
 refine bdE hr fun q1 hqq1 hr=>?_
 refine q0D hqq1 0 (fun k1 _=>[(0,.d .fz (.s a0)),(3,.d .fz (.i .i64 (k1:Int)))]) (fun k1 _=>[]) (q0e hS 0) (fun k1 sk1 ok1 hr hltk1 hik1=>?_) fun sk1 ek1=>?_
 refine ssr ?_
 refine W2 ?_
 refine LS ?_
 refine N1 ?_
 refine q0f rfl (dT (ltN hltk1)) ?_
 refine q0b ?_
 refine q0d (AW.block (q0d (q0c ?_)))
 refine W2 ?_
 refine bdE hr fun x1 hx1 hr=>?_
 refine SI rfl rfl (Int.natCast_nonneg _) hx1 ?_
 refine W1 ?_
 refine bdE hr fun s1 hqq2 hr=>?_
 refine q0h 6 [(0,.d .fz (.s a0)),(3,.d .fz (.i .i64 (k1:Int))),(21,.d .fz (.b s1))] ?_ ?_
 replace hr:=hqq2
 refine ifE hr (fun h1 hr=>?_) fun h1 hr=>?_
 refine VT rfl (dT h1) ?_
 refine W2 ?_
 refine SI rfl rfl (Int.natCast_nonneg _) hx1 ?_
 refine N2 ?_
 cases hr
 exact q3n
 refine VF rfl (dF h1) ?_
 iterate 4 refine AL.off ?_
 refine N1 ?_
 cases hr
 exact q3n
 refine N1 ?_
 refine sr ?_
 refine W2 ?_
 refine SI rfl rfl (Int.natCast_nonneg _) hx1 ?_
 refine W1 ?_
 refine bdE hr fun s2 hqq3 hr=>?_
 refine q0h 6 [(0,.d .fz (.s a0)),(3,.d .fz (.i .i64 (k1:Int))),(4,.d .fz (.b s1)),(31,.d .fz (.b s2))] ?_ ?_
 replace hr:=hqq3
 refine ifE hr (fun h2 hr=>?_) fun h2 hr=>?_
 refine VT rfl (dT h2) ?_
 refine W2 ?_
 refine SI rfl rfl (Int.natCast_nonneg _) hx1 ?_
 refine N2 ?_
 cases hr
 exact q3n
 refine VF rfl (dF h2) ?_
 iterate 4 refine AL.off ?_
 refine N1 ?_
 cases hr
 exact q3n
 refine N1 ?_
 refine sr ?_
 refine W2 ?_
 refine bdE hr fun s3 hqq4 hr=>?_
 refine q0h 8 [(0,.d .fz (.s a0)),(3,.d .fz (.i .i64 (k1:Int))),(41,.d .fz (.b s3))] ?_ ?_
 replace hr:=hqq4
 refine ifE hr (fun h3 hr=>?_) fun h3 hr=>?_
 refine VF rfl (bnF h3) ?_
 iterate 6 refine AL.off ?_
 refine N1 ?_
 cases hr
 exact q3n
 refine VT rfl (bnT h3) ?_
 refine W2 ?_
 refine bdE hr fun q5 hqq5 hr=>?_
 obtain⟨s4,s5⟩:=q5
 refine q0h 4 [(0,.d .fz (.s a0)),(3,.d .fz (.i .i64 (k1:Int))),(34,.d .fz (.b true)),(35,.d .fz (.i .i64 (k1:Int))),(36,.d .fz (.b (decide ((k1:Int)=0)))),(37,.d .fz (.b s4)),(40,.d .fz (.b s5))] ?_ ?_
 replace hr:=hqq5
 refine ifE hr (fun h4 hr=>?_) fun h4 hr=>?_
 refine VT rfl (dT h4) ?_
 iterate 2 refine AL.off ?_
 refine N1 ?_
 cases hr
 exact q3n
 refine VF rfl (dF h4) ?_
 refine N3 ?_
 cases hr
 exact q3n
 refine N1 ?_
 cases hr
 exact q3n
 refine N0 ?_
 refine ifE hr (fun h5 hr=>?_) fun h5 hr=>?_
 refine q0f rfl h5 ?_
 refine sr ?_
 refine N1 ?_
 refine AW.ret ?_
 cases hr
 cases hik1 _ rfl
 rename_i hr
 cases hr
 exact q0a [] 0 hS
 refine q0g rfl (bF h5) ?_
 refine q0b ?_
 refine q0c ?_
 refine W1 ?_
 refine OB _ (q3B (p:=k1) (q:=1) (q3m (ltN hltk1) hl1.2)) ?_
 refine N1 ?_
 cases hr
 exact⟨_,rfl,q0e hS 0⟩
 subst ek1
 refine ssr ?_
 refine W2 ?_
 refine LS ?_
 refine N1 ?_
 refine q0g rfl (dF geN) ?_
 refine q0i ?_
 refine sr ?_
 refine W1 ?_
 refine LS ?_
 refine N2 ?_
 refine AW.ret ?_
 cases hr
 exact q0a [] 0 hS
def z0B:Option (List ByteArray):=
 some [(⟨#[105,102]⟩:ByteArray),(⟨#[116,104,101,110]⟩:ByteArray),(⟨#[101,108,115,101]⟩:ByteArray),(⟨#[116,114,117,101]⟩:ByteArray),(⟨#[102,97,108,115,101]⟩:ByteArray),(⟨#[108,105,116]⟩:ByteArray),(⟨#[110,111,110,101]⟩:ByteArray),(⟨#[115,101,108,102]⟩:ByteArray),(⟨#[111,102]⟩:ByteArray),(⟨#[109,97,120]⟩:ByteArray),(⟨#[109,105,110]⟩:ByteArray),(⟨#[119,105,116,104]⟩:ByteArray),(⟨#[104,97,115]⟩:ByteArray)]
theorem z8i {r:(List ByteArray)}(hr:z0B=some r):Ok Tryz.prog 197 [] [] (.ref 0 none) [.row .fz 1 (r.map A.D.s)]:=by
 refine Ok.enter rfl Tryz.func197 rfl rfl rfl fun S hS=>?_
 unfold z0B at hr
 refine sr ?_
 refine N1 ?_
 refine sr ?_
 refine LIR 0 (m:=.fz) (f:=A.D.s) (xs:=[(⟨#[105,102]⟩:ByteArray),(⟨#[116,104,101,110]⟩:ByteArray),(⟨#[101,108,115,101]⟩:ByteArray),(⟨#[116,114,117,101]⟩:ByteArray),(⟨#[102,97,108,115,101]⟩:ByteArray),(⟨#[108,105,116]⟩:ByteArray),(⟨#[110,111,110,101]⟩:ByteArray),(⟨#[115,101,108,102]⟩:ByteArray),(⟨#[111,102]⟩:ByteArray),(⟨#[109,97,120]⟩:ByteArray),(⟨#[109,105,110]⟩:ByteArray),(⟨#[119,105,116,104]⟩:ByteArray),(⟨#[104,97,115]⟩:ByteArray)]) ?_
 refine N1 ?_
 refine AW.ret ?_
 cases hr
 exact q0a [(0,0)] 1 hS
def z4R (a1:ByteArray):Nat→ByteArray→Unit→Option (Unit ⊕ Bool):=fun k1 xk1 _=>
 if xk1=a1 then (
 some (.inr true)
 ) else (
 some (.inl ())
 )
def q9P (a0:(List ByteArray))(a1:ByteArray):Option Bool:=
 (findL (z4R a1) 0 a0 ()).bind <| onr (fun r1=>some r1) fun _=>
 some false
theorem z4S {m:Md}{a0:(List ByteArray)}{a1:ByteArray}{r:Bool}(hr:q9P a0 a1=some r):Ok Tryz.prog 127 [.d m (.sl 1 (a0.map A.D.s)),.d .fz (.s a1)] [] (.d .fz (.b r)) []:=by
 refine Ok.enter rfl Tryz.func127 rfl rfl rfl fun S hS=>?_
 unfold q9P at hr
 refine sr ?_
 refine N1 ?_
 refine ssr ?_
 refine N1 ?_
 refine AW.block ?_
 refine AW.len (.tmp 0 rfl) fun hl1=>?_
 refine bdE hr fun q1 hqq1 hr=>?_
 refine q0k hqq1 hl1 0 (fun k1 _=>[(0,.d m (.sl 1 (a0.map A.D.s))),(1,.d .fz (.s a1)),(5,.d .fz (.i .i64 (k1:Int)))]) (fun k1 _=>[]) (q0e hS 0) (fun k1 xk1 sk1 ok1 hxk1 hr hltk1 hik1=>?_) fun k1 sk1 ek1 hltk1=>?_
 refine ssr ?_
 refine W2 ?_
 refine LF ?_
 refine N1 ?_
 refine q0f rfl (dT hltk1) ?_
 refine q0b ?_
 refine q0d (AW.block (q0d (q0c ?_)))
 refine W2 ?_
 refine IF (Int.natCast_nonneg _) hxk1 ?_
 refine N3 ?_
 refine ifE hr (fun h1 hr=>?_) fun h1 hr=>?_
 refine q0f rfl (dT h1) ?_
 refine sr ?_
 refine N1 ?_
 refine AW.ret ?_
 cases hr
 cases hik1 _ rfl
 rename_i hr
 cases hr
 exact q0a [] 0 hS
 refine q0g rfl (dF h1) ?_
 refine q0b ?_
 refine q0c ?_
 refine W1 ?_
 refine OB _ (q3B (p:=k1) (q:=1) (q3m hltk1 hl1)) ?_
 refine N1 ?_
 cases hr
 exact⟨_,rfl,q0e hS 0⟩
 subst ek1
 refine ssr ?_
 refine W2 ?_
 refine LF ?_
 refine N1 ?_
 refine q0g rfl (dF hltk1) ?_
 refine q0i ?_
 refine sr ?_
 refine N1 ?_
 refine AW.ret ?_
 cases hr
 exact q0a [] 0 hS
def q8X (a0:ByteArray):Option Bool:=
 (z0B).bind fun y1=>
 (q9P y1 a0).bind fun y2=>
 some y2
theorem z8j {a0:ByteArray}{r:Bool}(hr:q8X a0=some r):Ok Tryz.prog 185 [.d .fz (.s a0)] [] (.d .fz (.b r)) []:=by
 refine Ok.enter rfl Tryz.func185 rfl rfl rfl fun S hS=>?_
 unfold q8X at hr
 refine sr ?_
 refine N1 ?_
 refine sr ?_
 refine bdE hr fun y1 hy1 hr=>?_
 refine CB [(0,0)] [] (z8i hy1) ?_
 refine W1 ?_
 refine bdE hr fun y2 hy2 hr=>?_
 refine CB [] [0] (z4S (m:=.bo) hy2) ?_
 refine N1 ?_
 refine AW.ret ?_
 cases hr
 exact q0a [] 0 hS
end Go.Proofs.YtibagkppfnjgcaaGreat
