/- What some functions of the program compute, as partial functions on plain data, and that they do; each lemma bears its conditions in its statement. -/
import Derived.Test.YtodhafdaelcnlaaGreatLane0d
import Derived.Test.YtodhafdaelcnlaaGreatLane1c
set_option linter.unusedVariables false
set_option linter.unusedSimpArgs false
set_option linter.ambiguousOpen false
set_option linter.unusedSectionVars false
set_option linter.unnecessarySimpa false
set_option maxRecDepth 100000
set_option maxHeartbeats 40000000
noncomputable section
namespace Go.Proofs.YtodhafdaelcnlaaGreat
open Go Go.E Go.A
theorem TZ {H:List UInt8}{r:Bool}(Z:Ar H=some r):aB 6 [pN .fz H] [] (dB r) []:=by
 refine OE Tryz.func6 λS hS=>?_;unfold Ar at Z;exact e
theorem Zb {H:List UInt8}{r:Bool}(Z:xZ H=some r):aB 5 [pN .fz H] [] (dB r) []:=by
 refine OE Tryz.func5 λS hS=>?_;unfold xZ at Z;refine ai Z λy1 hy1 Z=>J g<|J (av [] [] (TZ hy1))<|fE 1 Z ?_ ?_<;>intro U Z;exact e;refine ai Z λy2 hy2 Z=>J g<|J (av [(0,0)] [] (Oq hy2))<|J (aO 1)<|aJ Z λy3 y4 hq1 Z=>J g<|J (av [(0,2)] [0] (j1E (m:=.bo) hq1))<|J g<|J (aO 3)<|aJ Z λy5 y6 hq2 Z=>J g<|J (av [(0,4)] [0] (j1v (m:=.bo) hq2))<|J g<|J (aO 5)<|J g ?_;refine J (GN rfl rfl)<|aN Z ?_ ?_<;>intro K Z;refine ai Z λy7 hy7 Z=>J g<|J (av [] [2,4] (Zq (m:=.bo) hy7))<|fE 3 Z ?_ ?_<;>intro h3 Z;refine fE 8 Z ?_ ?_<;>intro h4 Z;refine ai Z λy8 hy8 Z=>J g<|J (av [] [0] (ZI (m:=.bo) hy8))<|aN Z ?_ ?_<;>intro h5 Z;refine ai Z λy9 hy9 Z=>J g<|J (av [] [2] (yX (m:=.bo) hy9))<|ai Z λy10 hy10 Z=>J (av [] [2] (NW (m:=.bo) hy10))<|fE 1 Z ?_ ?_<;>intro h6 Z;refine ai Z λy11 hy11 Z=>J g<|J (av [(0,6)] [0,2] (Zo (m:=.bo) hy11))<|e;exact e;exact e;refine J g<|J (fN y3.ns_.length)<|e;exact e;exact e
end Go.Proofs.YtodhafdaelcnlaaGreat
