/- What some functions of the program compute, as partial functions on plain data, and that they do; each lemma bears its conditions in its statement. -/
import Derived.Test.YtgkepiefcpfimaaGreatDoorLane0d
import Derived.Test.YtgkepiefcpfimaaGreatDoorLane1c
set_option linter.unusedVariables false
set_option linter.unusedSimpArgs false
set_option linter.ambiguousOpen false
set_option linter.unusedSectionVars false
set_option linter.unnecessarySimpa false
set_option maxRecDepth 100000
set_option maxHeartbeats 40000000
noncomputable section
namespace Go.Proofs.YtgkepiefcpfimaaGreatDoor
open Go Go.E Go.A
theorem k7R {a0:List UInt8}{r:Bool}(hr:k0B a0=some r):Okp 4 [rw0 .fz a0] [] (dB r) []:=by
 refine OE Tryz.func4 fun S hS=>?_
 unfold k0B at hr
 exact e
theorem j6p {m:Md}{a0 a1:List Step}{r:Bool}(hr:z3B a0 a1=some r):Okp 17 [rw12 m a0,rw12 m a1] [] (dB r) []:=by
 refine OE Tryz.func17 fun S hS=>?_
 unfold z3B at hr
 refine fE 13 hr ?_ ?_<;>intro h1 hr
 refine J (gn 8)<|J (lenT 0)<|fun hl1=>bdE hr fun q1 hqq1 hr=>q0b hqq1 hl1 0 (fun k1 _=>[(0,rw12 m a0),(1,rw12 m a1),(5,dI (k1:Int))]) (fun k1 _=>[]) I (fun k1 xk1 sk1 ok1 hxk1 hr hltk1 hik1=>?_) fun k1 sk1 ek1 hltk1=>?_
 refine bdE hr fun x1 hx1 hr=>J g ?_
 refine J (SQn' rfl rfl rfl rfl (k5s xk1 x1))<|fE 1 hr ?_ ?_<;>intro h2 hr
 exact e
 exact e
 subst ek1
 exact e
 exact e
theorem j6q {m:Md}{a0 a1:List RPl_}{r:Bool}(hr:z3C a0 a1=some r):Okp 8 [rw13 m a0,rw13 m a1] [] (dB r) []:=by
 refine OE Tryz.func8 fun S hS=>?_
 unfold z3C at hr
 refine fE 13 hr ?_ ?_<;>intro h1 hr
 refine J (gn 8)<|J (lenT 0)<|fun hl1=>bdE hr fun q1 hqq1 hr=>q0b hqq1 hl1 0 (fun k1 _=>[(0,rw13 m a0),(1,rw13 m a1),(5,dI (k1:Int))]) (fun k1 _=>[]) I (fun k1 xk1 sk1 ok1 hxk1 hr hltk1 hik1=>?_) fun k1 sk1 ek1 hltk1=>?_
 refine bdE hr fun x1 hx1 hr=>fE 25 hr ?_ ?_<;>intro h2 hr
 refine bdE hr fun y1 hy1 hr=>J g<|J (CB' [] [] (j6p (m:=m) hy1))<|fE 3 hr ?_ ?_<;>intro h3 hr
 exact e
 exact e
 exact e
 subst ek1
 exact e
 exact e
theorem j9w {a0:List UInt8}{r:Bool}(hr:z8u a0=some r):OkK KT Tryz.prog 3 [rw0 .fz a0] (dB r):=by
 refine OkK.enter Tryz.func3 fun S hS hK=>?_
 unfold z8u at hr
 refine bdE hr fun y1 hy1 hr=>J g<|J (CB' [] [] (k7R hy1))<|fE 1 hr ?_ ?_<;>intro h1 hr
 exact e
 refine bdE hr fun y2 hy2 hr=>J g<|J (CB' [(0,0)] [] (j0K hy2))<|J (NV' 1)<|bdP hr fun y3 y4 hq1 hr=>J g<|J (CB' [(0,2)] [0] (j6o (m:=.bo) hq1))<|bdP hr fun y5 y6 hq2 hr=>J g<|J (CB' [(0,3)] [0] (j6e (m:=.bo) hq2))<|J g ?_
 refine J (BQn' rfl rfl)<|bdE hr fun s1 hqq3 hr=>q0a 6 [(3,.pb 1 0),(4,.ref 2 none),(5,dB y4),(37,dB s1)] ?_ ?_
 replace hr:=hqq3
 refine ifE hr ?_ ?_<;>intro h2 hr
 refine bdE hr fun y7 hy7 hr=>J g<|J (CB' [] [2,3] (j6q (m:=.bo) hy7))<|e
 exact e
 refine fE 1 hr ?_ ?_<;>intro h3 hr
 exact e
 refine bdP hr fun y8 y9 hq4 hr=>J g<|J (CB' [(0,4)] [0] (z6X (m:=.bo) hq4))<|J (gn 12)<|J (lenR 2)<|fun hl1=>bdE hr fun q5 hqq5 hr=>q0b hqq5 hl1 5 (fun k1 _=>[(3,.pb 1 0),(4,.ref 2 none),(5,dB y4),(8,.ref 4 none),(10,dI (k1:Int))]) (fun k1 _=>[]) I (fun k1 xk1 sk1 ok1 hxk1 hr hltk1 hik1=>?_) fun k1 sk1 ek1 hltk1=>?_
 refine bdE hr fun y10 hy10 hr=>J g<|J (CB' [(0,5)] [2] (j9v (m:=.bo) hy10))<|J (gn 8)<|J (lenR 5)<|fun hl2=>bdE hr fun q6 hqq6 hr=>q0b hqq6 hl2 6 (fun k2 s2=>[(3,.pb 1 0),(4,.ref 2 none),(5,dB y4),(8,.ref 4 none),(10,dI (k1:Int)),(11,dI s2),(12,.ref 5 none),(13,dI (k2:Int))]) (fun k2 s2=>[]) I (fun k2 xk2 sk2 ok2 hxk2 hr hltk2 hik2=>?_) fun k2 sk2 ek2 hltk2=>?_
 obtain⟨s2,rfl⟩:∃ y,y=sk2:=⟨_,rfl⟩
 refine fE 22 hr ?_ ?_<;>intro h4 hr
 refine ggE hr fun g1 hr=>bdE hr fun y11 hy11 hr=>J g<|J (CBK' hK j2O (z8Q hy11))<|bdE hr fun y12 hy12 hr=>J g<|J (CB' [] [] (z8P hy12))<|fE 2 hr ?_ ?_<;>intro h5 hr
 exact e
 exact e
 refine bdE hr fun y13 hy13 hr=>J g<|J (CBK' hK j2O (z8Q hy13))<|bdE hr fun y14 hy14 hr=>J g<|J (CB' [] [] (z8P hy14))<|fE 2 hr ?_ ?_<;>intro h6 hr
 exact e
 exact e
 subst ek2
 obtain⟨s2,rfl⟩:∃ y,y=sk2:=⟨_,rfl⟩
 refine J (gn 15) ?_
 refine q3h 0 rfl fun hl3=>?_
 refine bdE hr fun q7 hqq7 hr=>q0b hqq7 hl3 6 (fun k3 _=>[(3,.pb 1 0),(4,.ref 2 none),(5,dB y4),(8,.ref 4 none),(10,dI (k1:Int)),(11,dI s2),(14,dI (k3:Int))]) (fun k3 _=>[]) I (fun k3 xk3 sk3 ok3 hxk3 hr hltk3 hik3=>?_) fun k3 sk3 ek3 hltk3=>?_
 refine J g<|J (LEd' y2.ss_.length)<|J g<|J (IEd' (Int.natCast_nonneg _) (q4z hxk3))<|J g<|J (LPd' [] (q4z hxk3))<|bdE hr fun x1 hx1 hr=>fE 7 hr ?_ ?_<;>intro h7 hr
 refine bdE hr fun x2 hx2 hr=>fE 10 hr ?_ ?_<;>intro h8 hr
 exact e
 exact e
 exact e
 subst ek3
 refine J g<|J (LEd' y2.ss_.length)<|e
 subst ek1
 refine bdE hr fun s3 hqq8 hr=>J (gn 13)<|q0a 5 [(115,dB s3)] ?_ ?_
 replace hr:=hqq8
 refine ifE hr ?_ ?_<;>intro h9 hr
 exact e
 exact e
 exact e
end Go.Proofs.YtgkepiefcpfimaaGreatDoor
