/- What some functions of the program compute, as partial functions on plain data, and that they do; each lemma bears its conditions in its statement. -/
import Derived.Test.YtodhafdaelcnlaaGreatLane0d
import Derived.Test.YtodhafdaelcnlaaGreatLane1c
set_option linter.unusedVariables false
set_option linter.unusedSimpArgs false
set_option linter.ambiguousOpen false
set_option linter.unusedSectionVars false
set_option linter.unnecessarySimpa false
set_option maxRecDepth 100000
set_option maxHeartbeats 40000000
noncomputable section
open Int renaming natCast_nonneg->Doz
namespace Go.Proofs.YtodhafdaelcnlaaGreat
open Go Go.E Go.A
theorem Ux {H:List UInt8}{r:Bool}(Z:AI H=some r):aD 6 [p6 .fz H] [] (dB r) []:=by
 refine OE Tryz.func6 λS hS=>?_;unfold AI at Z;exact e
theorem j0e {H:List UInt8}{r:Bool}(Z:zg H=some r):aD 3 [p6 .fz H] [] (dB r) []:=by
 refine OE Tryz.func3 λS hS=>?_;unfold zg at Z;refine ai Z λy1 hy1 Z=>J g<|J (av [] [] (Ux hy1))<|fE 1 Z ?_ ?_<;>intro U Z;exact e;refine eJ Z λy2 y3 y4 hq1 Z=>J g<|J (av [(0,0)] [] (OX hq1))<|J g<|J (aQ 1)<|J (aQ 2)<|aK Z λy5 y6 hq2 Z=>J g<|J (av [(0,3)] [0] (j2V (m:=.bo) hq2))<|J g<|J (aQ 4)<|aK Z λy7 y8 hq3 Z=>J g<|J (av [(0,5)] [0] (j2H (m:=.bo) hq3))<|J g<|J (aQ 6)<|J g ?_;refine J (xm rfl rfl)<|ai Z λs1 hqq4 Z=>aV 6 [(3,.pb 1 0),(4,dS y3),(5,.pb 2 0),(6,.pb 4 0),(7,dB y6),(47,dB s1)] ?_ ?_;replace Z:=hqq4;refine aP Z ?_ ?_<;>intro K Z;refine ai Z λy9 hy9 Z=>J g<|J (av [] [3,5] (ZE (m:=.bo) hy9))<|e;exact e;refine fE 1 Z ?_ ?_<;>intro h3 Z;exact e;refine fE 8 Z ?_ ?_<;>intro h4 Z;refine ai Z λy10 hy10 Z=>J g<|J (av [] [3] (Oo (m:=.bo) hy10))<|fE 2 Z ?_ ?_<;>intro h5 Z;refine ai Z λy11 hy11 Z=>J g<|J (av [(0,7)] [0,3] (GZ (m:=.bo) hy11))<|ai Z λy12 hy12 Z=>J g<|J (av [(0,8)] [0] (CV (m:=.bo) hy12))<|J (gn 8)<|J (bX 8)<|λhl1=>ai Z λq5 hqq5 Z=>bL hqq5 hl1 9 (λk1 _=>[(3,.pb 1 0),(5,.pb 2 0),(6,.pb 4 0),(10,.ref 7 none),(11,.ref 8 none),(12,dI (k1:Int))]) (λk1 _=>[]) I (λk1 xk1 sk1 ok1 hxk1 Z hltk1 hik1=>?_) λk1 sk1 ek1 hltk1=>?_;refine J (gn 17)<|J (bX 8)<|λhl2=>ai Z λq6 hqq6 Z=>bL hqq6 hl2 9 (λk2 _=>[(3,.pb 1 0),(5,.pb 2 0),(6,.pb 4 0),(10,.ref 7 none),(11,.ref 8 none),(12,dI (k1:Int)),(13,dI (k2:Int))]) (λk2 _=>[]) I (λk2 xk2 sk2 ok2 hxk2 Z hltk2 hik2=>?_) λk2 sk2 ek2 hltk2=>?_;refine ai Z λx1 hx1 Z=>J g<|J (bN (Doz _) (a8 hx1))<|J g<|J (cZ [] (a8 hx1))<|ai Z λy13 hy13 Z=>J g<|J (av [] [7] (CE (m:=.bo) hy13))<|J g<|J (bN (Doz _) (a8 hx1))<|J g<|J (cZ [] (a8 hx1))<|ai Z λy14 hy14 Z=>J g<|J (av [] [7] (CE (m:=.bo) hy14))<|ai Z λs2 hqq7 Z=>J (gn 10)<|aV 8 [(3,.pb 1 0),(5,.pb 2 0),(6,.pb 4 0),(10,.ref 7 none),(11,.ref 8 none),(12,dI (k1:Int)),(13,dI (k2:Int)),(14,dI y13),(15,dI y14),(116,dB s2)] ?_ ?_;replace Z:=hqq7;refine aP Z ?_ ?_<;>intro h6 Z;exact e;exact e;refine ai Z λs3 hqq8 Z=>aV 7 [(3,.pb 1 0),(5,.pb 2 0),(6,.pb 4 0),(10,.ref 7 none),(11,.ref 8 none),(12,dI (k1:Int)),(13,dI (k2:Int)),(123,dB s3)] ?_ ?_;replace Z:=hqq8;refine aP Z ?_ ?_<;>intro h7 Z;refine ai Z λy15 hy15 Z=>J g<|J (av [] [0,3] (ZD (m:=.bo) hy15))<|e;exact e;refine ai Z λy16 hy16 Z=>J g<|J (av [] [] (BP (m:=.fz) hy16)) ?_;refine J (xm rfl rfl)<|fE 1 Z ?_ ?_<;>intro h8 Z;exact e;exact e;subst ek2;exact e;subst ek1;exact e;exact e;refine J g<|J (gg y5.ns_.length)<|e
end Go.Proofs.YtodhafdaelcnlaaGreat
