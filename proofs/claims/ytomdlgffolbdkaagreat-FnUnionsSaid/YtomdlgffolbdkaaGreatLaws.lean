/- What some functions of the program compute, as partial functions on plain data, and that they do; each lemma bears its conditions in its statement. -/
import Derived.Test.YtomdlgffolbdkaaGreatLane0a
import Derived.Test.YtomdlgffolbdkaaGreatLane1a
set_option linter.unusedVariables false
set_option linter.unusedSimpArgs false
set_option linter.ambiguousOpen false
set_option linter.unusedSectionVars false
set_option linter.unnecessarySimpa false
set_option maxRecDepth 100000
set_option maxHeartbeats 40000000
noncomputable section
namespace Go.Proofs.YtomdlgffolbdkaaGreat
open Go Go.E Go.A
theorem k3U {a0:(List UInt8)}{r:Bool}(hr:j7g a0=some r):Ok Tryz.prog 7 [.d .fz (.sl 1 (a0.map byD))] [] (dB r) []:=by
 refine OE Tryz.func7 fun S hS=>?_
 unfold j7g at hr
 exact e
theorem j8z {m:Md}{a0:Rl_}{a1:Rl_}{r:Bool}(hr:z5r a0 a1=some r):Ok Tryz.prog 16 [Rl_.x m a0,Rl_.x m a1] [] (dB r) []:=by
 refine OE Tryz.func16 fun S hS=>?_
 unfold z5r at hr
 refine J g<|J (BX' 0)<|J (BX' 1)<|bdE hr fun y1 hy1 hr=>J g<|J (CB' [(0,2)] [] (z3I (m:=m) hy1))<|bdE hr fun y2 hy2 hr=>J g<|J (CB' [] [2] (q8V (m:=.bo) hy2))<|e
theorem k1R {m:Md}{a0:Gm_}{r:Bool}(hr:j0g a0=some r):Ok Tryz.prog 11 [Gm_.x m a0] [] (dB r) []:=by
 refine OE Tryz.func11 fun S hS=>?_
 unfold j0g at hr
 refine J g<|J (BX' 0)<|bdP hr fun y1 y2 hq1 hr=>J g<|J (CB' [] [] (z4B (m:=m) hq1))<|e
theorem j4F {a0:(List UInt8)}{r:Bool}(hr:z4j a0=some r):Ok Tryz.prog 4 [.d .fz (.sl 1 (a0.map byD))] [] (dB r) []:=by
 refine OE Tryz.func4 fun S hS=>?_
 unfold z4j at hr
 refine bdE hr fun y1 hy1 hr=>J g<|J (CB' [] [] (k3U hy1))<|J (gn 1)<|ifE hr ?_ ?_<;>intro h1 hr
 exact e
 refine bdE hr fun y2 hy2 hr=>J g<|J (CB' [(0,0)] [] (z4H hy2))<|J (NV' 1)<|bdP hr fun y3 y4 hq1 hr=>J g<|J (CB' [(0,2)] [0] (z2U (m:=.bo) hq1))<|bdP hr fun y5 y6 hq2 hr=>J g<|J (CB' [(0,3)] [0] (z2S (m:=.bo) hq2))<|J g ?_
 refine J (BQn' rfl rfl)<|bdE hr fun s1 hqq3 hr=>q0a 7 [(3,.pb 1 0),(4,.ref 2 none),(6,.ref 3 none),(36,dB s1)] ?_ ?_
 replace hr:=hqq3
 refine ifE hr ?_ ?_<;>intro h2 hr
 exact e
 exact e
 refine J (gn 1)<|ifE hr ?_ ?_<;>intro h3 hr
 exact e
 refine bdP hr fun y7 y8 hq4 hr=>J g<|J (CB' [] [0] (z7r (m:=.bo) hq4))<|J (gn 12)<|J (lenR 2)<|fun hl1=>bdE hr fun q5 hqq5 hr=>q0b hqq5 hl1 4 (fun k1 _=>[(3,.pb 1 0),(4,.ref 2 none),(6,.ref 3 none),(8,.d .fz (.sl 1 (y7.map (fun (l:List Rl_)=>A.D.sl 2 (l.map Rl_.D))))),(10,dI (k1:Int))]) (fun k1 _=>[]) I (fun k1 xk1 sk1 ok1 hxk1 hr hltk1 hik1=>?_) fun k1 sk1 ek1 hltk1=>?_
 refine bdE hr fun x1 hx1 hr=>bdE hr fun y9 hy9 hr=>J g<|J (CB' [] [] (q8V (m:=.fz) hy9))<|J (gn 2)<|ifE hr ?_ ?_<;>intro h4 hr
 refine bdE hr fun x2 hx2 hr=>J (gn 7) ?_
 refine AW.len (.el 0 (.tmp 8 rfl) hx2 rfl) fun hl2=>?_
 refine bdE hr fun q6 hqq6 hr=>q0b hqq6 hl2 4 (fun k2 _=>[(3,.pb 1 0),(4,.ref 2 none),(6,.ref 3 none),(8,.d .fz (.sl 1 (y7.map (fun (l:List Rl_)=>A.D.sl 2 (l.map Rl_.D))))),(10,dI (k1:Int)),(11,dI (k2:Int))]) (fun k2 _=>[]) I (fun k2 xk2 sk2 ok2 hxk2 hr hltk2 hik2=>?_) fun k2 sk2 ek2 hltk2=>?_
 refine bdE hr fun y10 hy10 hr=>J g<|J (CB' [] [] (j8z (m:=.fz) hy10))<|J (gn 2)<|ifE hr ?_ ?_<;>intro h5 hr
 exact e
 exact e
 subst ek2
 exact e
 exact e
 subst ek1
 refine bdE hr fun y11 hy11 hr=>J g<|J (CB' [] [0] (z4m (m:=.bo) hy11))<|bdE hr fun y12 hy12 hr=>J g<|J (CB' [] [0] (z4k (m:=.bo) hy12)) ?_
 refine J (BQ' rfl rfl)<|bdE hr fun s2 hqq7 hr=>q0a 12 [(3,.pb 1 0),(12,dB y11),(97,dB s2)] ?_ ?_
 replace hr:=hqq7
 refine ifE hr ?_ ?_<;>intro h6 hr
 refine bdE hr fun y13 hy13 hr=>J g<|J (CB' [] [0] (k1R (m:=.bo) hy13))<|bdE hr fun s4 hqq8 hr=>q0v 6 4 [(3,.pb 1 0),(12,dB y11),(86,dB true),(87,dB y11),(95,dB s4)] [] ?_ ?_
 replace hr:=hqq8
 refine ifE hr ?_ ?_<;>intro h7 hr
 refine bdE hr fun y14 hy14 hr=>J g<|J (CB' [(0,4)] [0] (z3L (m:=.bo) hy14))<|e
 exact e
 refine J (BQ' rfl rfl)<|J g<|E
 exact e
 refine bdE hr fun s5 hqq9 hr=>q0a 9 [(106,dB s5)] ?_ ?_
 replace hr:=hqq9
 refine ifE hr ?_ ?_<;>intro h8 hr
 refine bdE hr fun s6 hqq10 hr=>J (gn 3)<|q0a 5 [(98,dB true),(105,dB s6)] ?_ ?_
 replace hr:=hqq10
 refine ifE hr ?_ ?_<;>intro h9 hr
 refine bdE hr fun y15 hy15 hr=>J g<|J (CB' [] [0] (j1o (m:=.bo) hy15))<|e
 exact e
 exact e
 exact e
 exact e
end Go.Proofs.YtomdlgffolbdkaaGreat
