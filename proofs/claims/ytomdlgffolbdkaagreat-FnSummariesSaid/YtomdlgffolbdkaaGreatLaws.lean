/- What some functions of the program compute, as partial functions on plain data, and that they do; each lemma bears its conditions in its statement. -/
import Derived.Test.YtomdlgffolbdkaaGreatLane0a
import Derived.Test.YtomdlgffolbdkaaGreatLane1a
set_option linter.unusedVariables false
set_option linter.unusedSimpArgs false
set_option linter.ambiguousOpen false
set_option linter.unusedSectionVars false
set_option linter.unnecessarySimpa false
set_option maxRecDepth 100000
set_option maxHeartbeats 40000000
noncomputable section
namespace Go.Proofs.YtomdlgffolbdkaaGreat
open Go Go.E Go.A
theorem k3h {a0:(List UInt8)}{r:Bool}(hr:j6u a0=some r):Ok Tryz.prog 7 [.d .fz (.sl 1 (a0.map byD))] [] (dB r) []:=by
 refine OE Tryz.func7 fun S hS=>?_
 unfold j6u at hr
 exact e
theorem k1h {m:Md}{a0:Gm_}{r:Bool}(hr:z9u a0=some r):Ok Tryz.prog 11 [Gm_.x m a0] [] (dB r) []:=by
 refine OE Tryz.func11 fun S hS=>?_
 unfold z9u at hr
 refine J g<|J (BX' 0)<|bdP hr fun y1 y2 hq1 hr=>J g<|J (CB' [] [] (z4m (m:=m) hq1))<|e
theorem z9Q {a0:(List UInt8)}{r:Bool}(hr:z1f a0=some r):Ok Tryz.prog 3 [.d .fz (.sl 1 (a0.map byD))] [] (dB r) []:=by
 refine OE Tryz.func3 fun S hS=>?_
 unfold z1f at hr
 refine bdE hr fun y1 hy1 hr=>J g<|J (CB' [] [] (k3h hy1))<|J (gn 1)<|ifE hr ?_ ?_<;>intro h1 hr
 exact e
 refine bdE hr fun y2 hy2 hr=>J g<|J (CB' [(0,0)] [] (z7u hy2))<|J (NV' 1)<|J (gn 5) ?_
 refine q2r 0 Symbol.D (by exact fun _=>rfl) rfl ?_
 refine bdP hr fun y3 y4 hq1 hr=>J (CB' [(0,2)] [] (j2h (m:=.fz) hq1))<|bdP hr fun y5 y6 hq2 hr=>J g<|J (CB' [] [] (j1X (m:=.fz) hq2))<|J g ?_
 refine J (BQn' rfl rfl)<|bdE hr fun s1 hqq3 hr=>q0a 7 [(3,.pb 1 0),(4,.ref 2 none),(5,dB y4),(6,.d .fz (.sl 1 (y5.map (fun (l:List Rl_)=>A.D.sl 2 (l.map Rl_.D))))),(34,dB s1)] ?_ ?_
 replace hr:=hqq3
 refine ifE hr ?_ ?_<;>intro h2 hr
 exact e
 exact e
 refine bdE hr fun s2 hqq4 hr=>q0a 6 [(4,.ref 2 none),(6,.d .fz (.sl 1 (y5.map (fun (l:List Rl_)=>A.D.sl 2 (l.map Rl_.D))))),(40,dB s2)] ?_ ?_
 replace hr:=hqq4
 refine ifE hr ?_ ?_<;>intro h3 hr
 exact e
 refine bdE hr fun y7 hy7 hr=>J g<|J (CB' [] [] (k1h (m:=.fz) hy7)) ?_
 refine J (BQn' rfl rfl)<|J g<|E
 refine J (gn 1)<|ifE hr ?_ ?_<;>intro h4 hr
 exact e
 refine J (gn 8)<|J (lenR 2)<|fun hl1=>bdE hr fun q5 hqq5 hr=>q0b hqq5 hl1 3 (fun k1 _=>[(4,.ref 2 none),(6,.d .fz (.sl 1 (y5.map (fun (l:List Rl_)=>A.D.sl 2 (l.map Rl_.D))))),(8,dI (k1:Int))]) (fun k1 _=>[(0,.none)]) I (fun k1 xk1 sk1 ok1 hxk1 hr hltk1 hik1=>?_) fun k1 sk1 ek1 hltk1=>?_
 refine bdE hr fun x1 hx1 hr=>J (gn 26)<|ifE hr ?_ ?_<;>intro h5 hr
 refine J (gn 9)<|ifE hr ?_ ?_<;>intro h6 hr
 exact e
 refine J (gn 7)<|J (lenT 50)<|fun hl2=>bdE hr fun q6 hqq6 hr=>q0b hqq6 hl2 3 (fun k2 _=>[(4,.ref 2 none),(6,.d .fz (.sl 1 (y5.map (fun (l:List Rl_)=>A.D.sl 2 (l.map Rl_.D))))),(8,dI (k1:Int)),(9,dI (k2:Int)),(59,.ref 2 none),(60,dI (k1:Int)),(61,.pe 2 none k1 0),(62,.d .fz (.sl 2 (xk1.map Rl_.D))),(63,dI (xk1.length:Int)),(64,dB (decide ((xk1.length:Int)=0)))]) (fun k2 _=>[]) I (fun k2 xk2 sk2 ok2 hxk2 hr hltk2 hik2=>?_) fun k2 sk2 ek2 hltk2=>?_
 refine bdE hr fun x2 hx2 hr=>bdE hr fun y8 hy8 hr=>J g<|J (CB' [] [] (z0M (m:=.fz) hy8))<|J (gn 2)<|ifE hr ?_ ?_<;>intro h7 hr
 refine J (gn 7)<|J (rngT 9)<|fun hl3=>bdE hr fun q7 hqq7 hr=>q0w hqq7 3 (fun k3 _=>[(4,.ref 2 none),(6,.d .fz (.sl 1 (y5.map (fun (l:List Rl_)=>A.D.sl 2 (l.map Rl_.D))))),(8,dI (k1:Int)),(9,dI (k2:Int)),(10,dI (k3:Int)),(59,.ref 2 none),(60,dI (k1:Int)),(61,.pe 2 none k1 0),(62,.d .fz (.sl 2 (xk1.map Rl_.D))),(63,dI (xk1.length:Int)),(64,dB (decide ((xk1.length:Int)=0)))]) (fun k3 _=>[]) I (fun k3 sk3 ok3 hr hltk3 hik3=>?_) fun sk3 ek3=>?_
 refine bdE hr fun x3 hx3 hr=>bdE hr fun y9 hy9 hr=>J g<|J (CB' [] [] (z0M (m:=.fz) hy9))<|J (gn 1)<|ifE hr ?_ ?_<;>intro h8 hr
 exact e
 exact e
 subst ek3
 exact e
 exact e
 subst ek2
 exact e
 exact e
 subst ek1
 exact e
end Go.Proofs.YtomdlgffolbdkaaGreat
