/- What some functions of the program compute, as partial functions on plain data, and that they do; each lemma bears its conditions in its statement. -/
import Derived.Test.YtodhafdaelcnlaaGreatLane0d
import Derived.Test.YtodhafdaelcnlaaGreatLane1c
set_option linter.unusedVariables false
set_option linter.unusedSimpArgs false
set_option linter.ambiguousOpen false
set_option linter.unusedSectionVars false
set_option linter.unnecessarySimpa false
set_option maxRecDepth 100000
set_option maxHeartbeats 40000000
noncomputable section
namespace Go.Proofs.YtodhafdaelcnlaaGreat
open Go Go.E Go.A
theorem TQ {H:List UInt8}{r:Bool}(Z:Ae H=some r):aA 6 [rz .fz H] [] (dB r) []:=by
 refine OE Tryz.func6 λS hS=>?_;unfold Ae at Z;exact e
theorem UH {m:Md}{H:ak}{r:Bool}(Z:wv H=some r):aA 20 [ak.x m H] [] (dB r) []:=by
 refine OE Tryz.func20 λS hS=>?_;unfold wv at Z;refine J g<|J (aG 0)<|aF Z λy1 y2 hq1 Z=>J g<|J (ar [] [] (GR (m:=m) hq1))<|e
theorem YT {H:List UInt8}{r:Bool}(Z:xU H=some r):aA 4 [rz .fz H] [] (dB r) []:=by
 refine OE Tryz.func4 λS hS=>?_;unfold xU at Z;refine ah Z λy1 hy1 Z=>J g<|J (ar [] [] (TQ hy1))<|fE 1 Z ?_ ?_<;>intro U Z;exact e;refine aF Z λy2 y3 hq1 Z=>J g<|J (ar [(0,0)] [] (Zy hq1))<|J g<|J (aN 1)<|J (aN 2)<|ah Z λy4 hy4 Z=>J g<|J (ar [] [0] (Zp (m:=.bo) hy4))<|ah Z λy5 hy5 Z=>J g<|J (ar [] [0] (Zx (m:=.bo) hy5)) ?_;refine J (Gl rfl rfl)<|fE 1 Z ?_ ?_<;>intro W Z;refine fE 6 Z ?_ ?_<;>intro h3 Z;exact e;refine ah Z λy6 hy6 Z=>J g<|J (ar [] [0] (UH (m:=.bo) hy6))<|fE 3 Z ?_ ?_<;>intro h4 Z;refine ah Z λy7 hy7 Z=>J g<|J (ar [(0,3)] [0] (Y4 (m:=.bo) hy7))<|e;exact e;exact e
end Go.Proofs.YtodhafdaelcnlaaGreat
