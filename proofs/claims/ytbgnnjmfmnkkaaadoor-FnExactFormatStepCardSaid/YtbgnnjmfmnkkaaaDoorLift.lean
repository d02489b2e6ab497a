/- What some functions of the program compute, as partial functions on plain data, and that they do; each lemma bears its conditions in its statement. -/
import Derived.Test.YtbgnnjmfmnkkaaaDoorMath1
set_option linter.unusedVariables false
set_option linter.unusedSimpArgs false
set_option linter.ambiguousOpen false
set_option linter.unusedSectionVars false
set_option linter.unnecessarySimpa false
set_option maxRecDepth 100000
set_option maxHeartbeats 40000000
noncomputable section
namespace Go.Proofs.YtbgnnjmfmnkkaaaDoor
open Go Go.E Go.A
def q4T (a0:Step)(a1:Int):Option Int:=
 grd (I64 (a1 - (a0.Name.size:Int))) <|
 if (a1 - (a0.Name.size:Int)) < 0 then (
 some (-1)
 ) else (
 some (a1 - (a0.Name.size:Int))
 )
theorem q8o {a0:Step}{a1:Int}{r:Int}(hr:q4T a0 a1=some r):Ok Tryd.prog 4 [Step.x .fz a0,.d .fz (.i .i64 a1)] [] (.d .fz (.i .i64 r)) []:=by
 refine Ok.enter rfl Tryd.func4 rfl rfl rfl fun S hS=>?_
 unfold q4T at hr
 refine sr ?_
 refine BX 0 ?_
 refine N1 ?_
 refine sr ?_
 refine W3 ?_
 refine LS ?_
 refine ggE hr fun g1 hr=>?_
 refine OB _ (bSub g1) ?_
 refine N1 ?_
 refine ssr ?_
 refine N2 ?_
 refine ifE hr (fun h1 hr=>?_) fun h1 hr=>?_
 refine q0h rfl (dT h1) ?_
 refine sr ?_
 refine N1 ?_
 refine q0c ?_
 cases hr
 exact q0b [] 0 hS
 refine q0i rfl (dF h1) ?_
 refine q0d ?_
 refine sr ?_
 refine N2 ?_
 refine q0c ?_
 cases hr
 exact q0b [] 0 hS
def q4v (a0:Step):Option Step:=
 some a0
theorem q6k {a0:Step}{r:Step}(hr:q4v a0=some r):Ok Tryd.prog 6 [Step.x .fz a0] [] (Step.x .fz r) []:=by
 refine Ok.enter rfl Tryd.func6 rfl rfl rfl fun S hS=>?_
 unfold q4v at hr
 refine sr ?_
 refine BX 0 ?_
 refine NV 1 ?_
 refine N0 ?_
 refine sr ?_
 refine NV 2 ?_
 refine N0 ?_
 refine sr ?_
 refine W3 ?_
 refine SB ?_
 refine N0 ?_
 refine sr ?_
 refine W3 ?_
 refine SB ?_
 refine N0 ?_
 refine sr ?_
 refine W3 ?_
 refine SB ?_
 refine N0 ?_
 refine sr ?_
 refine W3 ?_
 refine SB ?_
 refine N0 ?_
 refine sr ?_
 refine W1 ?_
 refine SB ?_
 refine N0 ?_
 refine q0c ?_
 cases hr
 exact q0b [] 0 hS
def q3F:(Int × ByteArray)→Option ((Int × ByteArray) ⊕ ByteArray):=fun (s2,s3)=>
 if s2=0 then (
 some (.inr s3)
 ) else (
 if (s2.tmod 10) < 0 then (
 grd (I64 (0 - (s2.tmod 10))) <|
 grd (I64 (48+(0 - (s2.tmod 10)))) <|
 grd ((⟨#[(UInt8.ofNat ((48+(0 - (s2.tmod 10))) % 256).toNat)]⟩:ByteArray).size+s3.size≤9223372036854775807) <|
 grd (I64 (s2.tdiv 10)) <|
 some (.inl ((s2.tdiv 10),((⟨#[(UInt8.ofNat ((48+(0 - (s2.tmod 10))) % 256).toNat)]⟩:ByteArray)++s3)))
 ) else (
 grd (I64 (48+(s2.tmod 10))) <|
 grd ((⟨#[(UInt8.ofNat ((48+(s2.tmod 10)) % 256).toNat)]⟩:ByteArray).size+s3.size≤9223372036854775807) <|
 grd (I64 (s2.tdiv 10)) <|
 some (.inl ((s2.tdiv 10),((⟨#[(UInt8.ofNat ((48+(s2.tmod 10)) % 256).toNat)]⟩:ByteArray)++s3)))
 )
 )
def q3q (a0:Int):Option ByteArray:=
 if a0=0 then (
 some (⟨#[48]⟩:ByteArray)
 ) else (
 (q4X q3F (a0,(⟨#[]⟩:ByteArray))).bind fun s1=>
 if a0 < 0 then (
 grd ((⟨#[45]⟩:ByteArray).size+s1.size≤9223372036854775807) <|
 some ((⟨#[45]⟩:ByteArray)++s1)
 ) else (
 some s1
 )
 )
theorem q3V {a0:Int}{r:ByteArray}(hr:q3q a0=some r):Ok Tryd.prog 8 [.d .fz (.i .i64 a0)] [] (.d .fz (.s r)) []:=by
 refine Ok.enter rfl Tryd.func8 rfl rfl rfl fun S hS=>?_
 unfold q3q at hr
 refine sr ?_
 refine N1 ?_
 refine ssr ?_
 refine N2 ?_
 refine ifE hr (fun h1 hr=>?_) fun h1 hr=>?_
 refine q0h rfl (dT h1) ?_
 refine sr ?_
 refine N1 ?_
 refine q0c ?_
 cases hr
 exact q0b [] 0 hS
 refine q0i rfl (dF h1) ?_
 refine q0d ?_
 refine sr ?_
 refine N3 ?_
 refine sr ?_
 refine N1 ?_
 refine bdE hr fun s1 hqq1 hr=>?_
 refine q0e (q2x 0 [(3,.d .fz (.b (decide (a0 < 0)))),(4,.d .fz (.s s1))] [] ?_ ?_)
 refine AW.block (q2v hqq1 0 (fun (s2,s3)=>[(0,.d .fz (.i .i64 s2)),(3,.d .fz (.b (decide (a0 < 0)))),(4,.d .fz (.s s3))]) (fun (s2,s3)=>[]) (q0n hS 0) fun sk1 ok1 hr hik1=>?_)
 obtain⟨s2,s3⟩:=sk1
 have hr:=hr
 refine ssr ?_
 refine N2 ?_
 refine ifE hr (fun h2 hr=>?_) fun h2 hr=>?_
 refine q0i rfl (nF h2) ?_
 refine q2d ?_
 cases hr
 cases hik1 _ rfl
 exact q0n hS 0
 refine q0h rfl (nT h2) ?_
 refine q0d ?_
 refine AW.block (q0e (q0f ?_))
 refine W1 ?_
 refine OB _ (bRem (b:=10) (by decide)) ?_
 refine N1 ?_
 refine ssr ?_
 refine N2 ?_
 refine ifE hr (fun h3 hr=>?_) fun h3 hr=>?_
 refine q0h rfl (dT h3) ?_
 refine q0f ?_
 refine W1 ?_
 refine ggE hr fun g1 hr=>?_
 refine OB _ (bSub g1) ?_
 refine N1 ?_
 refine sr ?_
 refine W1 ?_
 refine ggE hr fun g2 hr=>?_
 refine OB _ (bAdd g2) ?_
 refine CIB rfl ?_
 refine LIR 0 (m:=.fz) (f:=byD) (xs:=([(UInt8.ofNat ((48+(0 - (s2.tmod 10))) % 256).toNat)]:List UInt8)) ?_
 refine TS rfl rfl ?_
 refine W1 ?_
 refine ggE hr fun g3 hr=>?_
 refine OB _ (q4t g3) ?_
 refine N1 ?_
 refine q0f ?_
 refine W1 ?_
 refine ggE hr fun g4 hr=>?_
 refine OB _ (bQuo (b:=10) (by decide) g4) ?_
 refine N1 ?_
 cases hr
 exact⟨_,rfl,q0n hS 0⟩
 refine q0i rfl (dF h3) ?_
 refine q0d ?_
 refine sr ?_
 refine W1 ?_
 refine ggE hr fun g5 hr=>?_
 refine OB _ (bAdd g5) ?_
 refine CIB rfl ?_
 refine LIR 0 (m:=.fz) (f:=byD) (xs:=([(UInt8.ofNat ((48+(s2.tmod 10)) % 256).toNat)]:List UInt8)) ?_
 refine TS rfl rfl ?_
 refine W1 ?_
 refine ggE hr fun g6 hr=>?_
 refine OB _ (q4t g6) ?_
 refine N1 ?_
 refine q0f ?_
 refine W1 ?_
 refine ggE hr fun g7 hr=>?_
 refine OB _ (bQuo (b:=10) (by decide) g7) ?_
 refine N1 ?_
 cases hr
 exact⟨_,rfl,q0n hS 0⟩
 refine ssr ?_
 refine N1 ?_
 refine ifE hr (fun h4 hr=>?_) fun h4 hr=>?_
 refine q0h rfl (dT h4) ?_
 refine sr ?_
 refine W1 ?_
 refine ggE hr fun g8 hr=>?_
 refine OB _ (q4t g8) ?_
 refine N1 ?_
 refine q0c ?_
 cases hr
 exact q0b [] 0 hS
 refine q0i rfl (dF h4) ?_
 refine q0d ?_
 refine sr ?_
 refine N2 ?_
 refine q0c ?_
 cases hr
 exact q0b [] 0 hS
def q3A (a0:Step):Option ByteArray:=
 if a0.Kind=1 then (
 (q3q a0.Pos).bind fun y1=>
 grd ((⟨#[101,118,97,108,32,36]⟩:ByteArray).size+y1.size≤9223372036854775807) <|
 grd (((⟨#[101,118,97,108,32,36]⟩:ByteArray)++y1).size+(⟨#[46]⟩:ByteArray).size≤9223372036854775807) <|
 grd ((((⟨#[101,118,97,108,32,36]⟩:ByteArray)++y1)++(⟨#[46]⟩:ByteArray)).size+a0.Name.size≤9223372036854775807) <|
 some ((((⟨#[101,118,97,108,32,36]⟩:ByteArray)++y1)++(⟨#[46]⟩:ByteArray))++a0.Name)
 ) else (
 if a0.Kind=2 then (
 (q3q a0.Pos).bind fun y2=>
 grd ((⟨#[118,105,115,105,116,32]⟩:ByteArray).size+y2.size≤9223372036854775807) <|
 grd (((⟨#[118,105,115,105,116,32]⟩:ByteArray)++y2).size+(⟨#[46]⟩:ByteArray).size≤9223372036854775807) <|
 (q3q a0.Visit).bind fun y3=>
 grd ((((⟨#[118,105,115,105,116,32]⟩:ByteArray)++y2)++(⟨#[46]⟩:ByteArray)).size+y3.size≤9223372036854775807) <|
 some ((((⟨#[118,105,115,105,116,32]⟩:ByteArray)++y2)++(⟨#[46]⟩:ByteArray))++y3)
 ) else (
 if a0.Kind=3 then (
 (q3q a0.Visit).bind fun y4=>
 grd ((⟨#[108,101,97,118,101,32]⟩:ByteArray).size+y4.size≤9223372036854775807) <|
 some ((⟨#[108,101,97,118,101,32]⟩:ByteArray)++y4)
 ) else (
 some (⟨#[63]⟩:ByteArray)
 )
 )
 )
theorem q5S {a0:Step}{r:ByteArray}(hr:q3A a0=some r):Ok Tryd.prog 5 [Step.x .fz a0] [] (.d .fz (.s r)) []:=by
 refine Ok.enter rfl Tryd.func5 rfl rfl rfl fun S hS=>?_
 unfold q3A at hr
 refine sr ?_
 refine BX 0 ?_
 refine N1 ?_
 refine ssr ?_
 refine N2 ?_
 refine AW.block (q0e (q0f ?_))
 refine N2 ?_
 refine ifE hr (fun h1 hr=>?_) fun h1 hr=>?_
 refine q0h rfl (dT h1) ?_
 refine q0e (q0g (h:=?_))
 refine W2 ?_
 refine bdE hr fun y1 hy1 hr=>?_
 refine CB [] [] (q3V hy1) ?_
 refine ggE hr fun g1 hr=>?_
 refine OB _ (q4t g1) ?_
 refine ggE hr fun g2 hr=>?_
 refine OB _ (q4t g2) ?_
 refine W2 ?_
 refine ggE hr fun g3 hr=>?_
 refine OB _ (q4t g3) ?_
 refine N1 ?_
 refine q0c ?_
 cases hr
 exact q0b [] 0 hS
 refine q0i rfl (dF h1) ?_
 refine sr ?_
 refine N2 ?_
 refine ifE hr (fun h2 hr=>?_) fun h2 hr=>?_
 refine q0h rfl (dT h2) ?_
 refine q0e (q0g (h:=?_))
 refine W2 ?_
 refine bdE hr fun y2 hy2 hr=>?_
 refine CB [] [] (q3V hy2) ?_
 refine ggE hr fun g4 hr=>?_
 refine OB _ (q4t g4) ?_
 refine ggE hr fun g5 hr=>?_
 refine OB _ (q4t g5) ?_
 refine W2 ?_
 refine bdE hr fun y3 hy3 hr=>?_
 refine CB [] [] (q3V hy3) ?_
 refine ggE hr fun g6 hr=>?_
 refine OB _ (q4t g6) ?_
 refine N1 ?_
 refine q0c ?_
 cases hr
 exact q0b [] 0 hS
 refine q0i rfl (dF h2) ?_
 refine sr ?_
 refine N2 ?_
 refine ifE hr (fun h3 hr=>?_) fun h3 hr=>?_
 refine q0h rfl (dT h3) ?_
 refine sr ?_
 refine W2 ?_
 refine bdE hr fun y4 hy4 hr=>?_
 refine CB [] [] (q3V hy4) ?_
 refine ggE hr fun g7 hr=>?_
 refine OB _ (q4t g7) ?_
 refine N1 ?_
 refine q0c ?_
 cases hr
 exact q0b [] 0 hS
 refine q0i rfl (dF h3) ?_
 refine q0d ?_
 refine sr ?_
 refine N1 ?_
 refine q0c ?_
 cases hr
 exact q0b [] 0 hS
def q3D (a0:Int):Option ByteArray:=
 (q4H a0).bind fun y1=>
 some y1
theorem q3W {a0:Int}{r:ByteArray}(hr:q3D a0=some r):OkK KT Tryd.prog 9 [.d .fz (.i .i64 a0)] (.d .fz (.s r)):=by
 refine OkK.enter Tryd.func9 fun S hS hK=>?_
 unfold q3D at hr
 refine sr ?_
 refine N1 ?_
 refine sr ?_
 refine W1 ?_
 refine bdE hr fun y1 hy1 hr=>?_
 refine CBK hK q6j (q5O hy1) ?_
 refine N1 ?_
 refine q0c ?_
 cases hr
 exact q0b [] 0 hS
def q3M (a0:Step):Option ByteArray:=
 if a0.Kind=1 then (
 (q3D a0.Pos).bind fun y1=>
 grd ((⟨#[101,118,97,108,32,36]⟩:ByteArray).size+y1.size≤9223372036854775807) <|
 grd (((⟨#[101,118,97,108,32,36]⟩:ByteArray)++y1).size+(⟨#[46]⟩:ByteArray).size≤9223372036854775807) <|
 grd ((((⟨#[101,118,97,108,32,36]⟩:ByteArray)++y1)++(⟨#[46]⟩:ByteArray)).size+a0.Name.size≤9223372036854775807) <|
 some ((((⟨#[101,118,97,108,32,36]⟩:ByteArray)++y1)++(⟨#[46]⟩:ByteArray))++a0.Name)
 ) else (
 if a0.Kind=2 then (
 (q3D a0.Pos).bind fun y2=>
 grd ((⟨#[118,105,115,105,116,32]⟩:ByteArray).size+y2.size≤9223372036854775807) <|
 grd (((⟨#[118,105,115,105,116,32]⟩:ByteArray)++y2).size+(⟨#[46]⟩:ByteArray).size≤9223372036854775807) <|
 (q3D a0.Visit).bind fun y3=>
 grd ((((⟨#[118,105,115,105,116,32]⟩:ByteArray)++y2)++(⟨#[46]⟩:ByteArray)).size+y3.size≤9223372036854775807) <|
 some ((((⟨#[118,105,115,105,116,32]⟩:ByteArray)++y2)++(⟨#[46]⟩:ByteArray))++y3)
 ) else (
 if a0.Kind=3 then (
 (q3D a0.Visit).bind fun y4=>
 grd ((⟨#[108,101,97,118,101,32]⟩:ByteArray).size+y4.size≤9223372036854775807) <|
 some ((⟨#[108,101,97,118,101,32]⟩:ByteArray)++y4)
 ) else (
 some (⟨#[63]⟩:ByteArray)
 )
 )
 )
theorem q5T {a0:Step}{r:ByteArray}(hr:q3M a0=some r):OkK KT Tryd.prog 7 [Step.x .fz a0] (.d .fz (.s r)):=by
 refine OkK.enter Tryd.func7 fun S hS hK=>?_
 unfold q3M at hr
 refine sr ?_
 refine BX 0 ?_
 refine N1 ?_
 refine ssr ?_
 refine N2 ?_
 refine AW.block (q0e (q0f ?_))
 refine N2 ?_
 refine ifE hr (fun h1 hr=>?_) fun h1 hr=>?_
 refine q0h rfl (dT h1) ?_
 refine q0e (q0g (h:=?_))
 refine W2 ?_
 refine bdE hr fun y1 hy1 hr=>?_
 refine CBK hK q6j (q3W hy1) ?_
 refine ggE hr fun g1 hr=>?_
 refine OB _ (q4t g1) ?_
 refine ggE hr fun g2 hr=>?_
 refine OB _ (q4t g2) ?_
 refine W2 ?_
 refine ggE hr fun g3 hr=>?_
 refine OB _ (q4t g3) ?_
 refine N1 ?_
 refine q0c ?_
 cases hr
 exact q0b [] 0 hS
 refine q0i rfl (dF h1) ?_
 refine sr ?_
 refine N2 ?_
 refine ifE hr (fun h2 hr=>?_) fun h2 hr=>?_
 refine q0h rfl (dT h2) ?_
 refine q0e (q0g (h:=?_))
 refine W2 ?_
 refine bdE hr fun y2 hy2 hr=>?_
 refine CBK hK q6j (q3W hy2) ?_
 refine ggE hr fun g4 hr=>?_
 refine OB _ (q4t g4) ?_
 refine ggE hr fun g5 hr=>?_
 refine OB _ (q4t g5) ?_
 refine W2 ?_
 refine bdE hr fun y3 hy3 hr=>?_
 refine CBK hK q6j (q3W hy3) ?_
 refine ggE hr fun g6 hr=>?_
 refine OB _ (q4t g6) ?_
 refine N1 ?_
 refine q0c ?_
 cases hr
 exact q0b [] 0 hS
 refine q0i rfl (dF h2) ?_
 refine sr ?_
 refine N2 ?_
 refine ifE hr (fun h3 hr=>?_) fun h3 hr=>?_
 refine q0h rfl (dT h3) ?_
 refine sr ?_
 refine W2 ?_
 refine bdE hr fun y4 hy4 hr=>?_
 refine CBK hK q6j (q3W hy4) ?_
 refine ggE hr fun g7 hr=>?_
 refine OB _ (q4t g7) ?_
 refine N1 ?_
 refine q0c ?_
 cases hr
 exact q0b [] 0 hS
 refine q0i rfl (dF h3) ?_
 refine q0d ?_
 refine sr ?_
 refine N1 ?_
 refine q0c ?_
 cases hr
 exact q0b [] 0 hS
def q3w (a0:Step):Option Bool:=
 (q4T a0 1048576).bind fun y1=>
 if y1 < 0 then (
 some true
 ) else (
 (q4v a0).bind fun y2=>
 (q3A y2).bind fun y3=>
 (q4v a0).bind fun y4=>
 (q3M y4).bind fun y5=>
 if y5=y3 then (
 some true
 ) else (
 some false
 )
 )
theorem q4w {a0:Step}{r:Bool}(hr:q3w a0=some r):OkK KT Tryd.prog 3 [Step.x .fz a0] (.d .fz (.b r)):=by
 refine OkK.enter Tryd.func3 fun S hS hK=>?_
 unfold q3w at hr
 refine sr ?_
 refine BX 0 ?_
 refine N1 ?_
 refine sr ?_
 refine N1 ?_
 refine sr ?_
 refine W2 ?_
 refine bdE hr fun y1 hy1 hr=>?_
 refine CB [] [] (q8o hy1) ?_
 refine N1 ?_
 refine ssr ?_
 refine N2 ?_
 refine ifE hr (fun h1 hr=>?_) fun h1 hr=>?_
 refine q0h rfl (dT h1) ?_
 refine sr ?_
 refine N1 ?_
 refine q0c ?_
 cases hr
 exact q0b [] 0 hS
 refine q0i rfl (dF h1) ?_
 refine q0d ?_
 refine sr ?_
 refine W1 ?_
 refine bdE hr fun y2 hy2 hr=>?_
 refine CB [] [] (q6k hy2) ?_
 refine bdE hr fun y3 hy3 hr=>?_
 refine CB [] [] (q5S hy3) ?_
 refine N1 ?_
 refine sr ?_
 refine W1 ?_
 refine bdE hr fun y4 hy4 hr=>?_
 refine CB [] [] (q6k hy4) ?_
 refine bdE hr fun y5 hy5 hr=>?_
 refine CBK hK q6j (q5T hy5) ?_
 refine N1 ?_
 refine ssr ?_
 refine N3 ?_
 refine ifE hr (fun h2 hr=>?_) fun h2 hr=>?_
 refine q0i rfl (nF h2) ?_
 refine q0d ?_
 refine sr ?_
 refine N1 ?_
 refine q0c ?_
 cases hr
 exact q0b [] 0 hS
 refine q0h rfl (nT h2) ?_
 refine sr ?_
 refine N1 ?_
 refine q0c ?_
 cases hr
 exact q0b [] 0 hS
end Go.Proofs.YtbgnnjmfmnkkaaaDoor
