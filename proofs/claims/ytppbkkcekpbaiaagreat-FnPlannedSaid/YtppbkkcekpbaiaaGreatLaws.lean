/- What some functions of the program compute, as partial functions on plain data, and that they do; each lemma bears its conditions in its statement. -/
import Derived.Test.YtppbkkcekpbaiaaGreatLane0a
import Derived.Test.YtppbkkcekpbaiaaGreatLane1a
import Derived.Test.YtppbkkcekpbaiaaGreatLane2a
set_option linter.unusedVariables false
set_option linter.unusedSimpArgs false
set_option linter.ambiguousOpen false
set_option linter.unusedSectionVars false
set_option linter.unnecessarySimpa false
set_option maxRecDepth 100000
set_option maxHeartbeats 40000000
noncomputable section
namespace Go.Proofs.YtppbkkcekpbaiaaGreat
open Go Go.E Go.A
theorem k8n {a0:List UInt8}{r:Bool}(hr:k0X a0=some r):Okp 5 [rw0 .fz a0] [] (dB r) []:=by
 refine OE Tryz.func5 fun S hS=>?_
 unfold k0X at hr
 exact e
theorem j0h {m:Md}{a0 a1:List Step}{r:Bool}(hr:z1L a0 a1=some r):Okp 18 [rw12 m a0,rw12 m a1] [] (dB r) []:=by
 refine OE Tryz.func18 fun S hS=>?_
 unfold z1L at hr
 refine fE 13 hr ?_ ?_<;>intro h1 hr
 refine J (gn 8)<|J (lenT 0)<|fun hl1=>bdE hr fun q1 hqq1 hr=>q0b hqq1 hl1 0 (fun k1 _=>[(0,rw12 m a0),(1,rw12 m a1),(5,dI (k1:Int))]) (fun k1 _=>[]) I (fun k1 xk1 sk1 ok1 hxk1 hr hltk1 hik1=>?_) fun k1 sk1 ek1 hltk1=>?_
 refine bdE hr fun x1 hx1 hr=>J g ?_
 refine J (SQn' rfl rfl rfl rfl (k5N xk1 x1))<|fE 1 hr ?_ ?_<;>intro h2 hr
 exact e
 exact e
 subst ek1
 exact e
 exact e
theorem j6A {m:Md}{a0 a1:List RPl_}{r:Bool}(hr:z3L a0 a1=some r):Okp 15 [rw13 m a0,rw13 m a1] [] (dB r) []:=by
 refine OE Tryz.func15 fun S hS=>?_
 unfold z3L at hr
 refine fE 13 hr ?_ ?_<;>intro h1 hr
 refine J (gn 8)<|J (lenT 0)<|fun hl1=>bdE hr fun q1 hqq1 hr=>q0b hqq1 hl1 0 (fun k1 _=>[(0,rw13 m a0),(1,rw13 m a1),(5,dI (k1:Int))]) (fun k1 _=>[]) I (fun k1 xk1 sk1 ok1 hxk1 hr hltk1 hik1=>?_) fun k1 sk1 ek1 hltk1=>?_
 refine bdE hr fun x1 hx1 hr=>fE 25 hr ?_ ?_<;>intro h2 hr
 refine bdE hr fun y1 hy1 hr=>J g<|J (CB' [] [] (j0h (m:=m) hy1))<|fE 3 hr ?_ ?_<;>intro h3 hr
 exact e
 exact e
 exact e
 subst ek1
 exact e
 exact e
theorem j6B {a0:List UInt8}{r:Bool}(hr:z5v a0=some r):Okp 4 [rw0 .fz a0] [] (dB r) []:=by
 refine OE Tryz.func4 fun S hS=>?_
 unfold z5v at hr
 refine bdE hr fun y1 hy1 hr=>J g<|J (CB' [] [] (k8n hy1))<|fE 1 hr ?_ ?_<;>intro h1 hr
 exact e
 refine bdE hr fun y2 hy2 hr=>J g<|J (CB' [(0,0)] [] (j0L hy2))<|J (NV' 1)<|bdP hr fun y3 y4 hq1 hr=>J g<|J (CB' [(0,2)] [0] (j6y (m:=.bo) hq1))<|bdP hr fun y5 y6 hq2 hr=>J g<|J (CB' [(0,3)] [0] (j6o (m:=.bo) hq2))<|J g ?_
 refine J (BQn' rfl rfl)<|bdE hr fun s1 hqq3 hr=>q0a 6 [(3,.pb 1 0),(4,.ref 2 none),(5,dB y4),(34,dB s1)] ?_ ?_
 replace hr:=hqq3
 refine ifE hr ?_ ?_<;>intro h2 hr
 refine bdE hr fun y7 hy7 hr=>J g<|J (CB' [] [2,3] (j6A (m:=.bo) hy7))<|e
 exact e
 refine fE 1 hr ?_ ?_<;>intro h3 hr
 exact e
 refine fE 8 hr ?_ ?_<;>intro h4 hr
 refine bdP hr fun y8 y9 hq4 hr=>J g<|J (CB' [(0,4)] [0] (z7m (m:=.bo) hq4))<|J (gn 16)<|J (lenA 1 41)<|fun hl1=>bdE hr fun q5 hqq5 hr=>q0b hqq5 hl1 5 (fun k1 s2=>[(3,.pb 1 0),(4,.ref 2 none),(8,.ref 4 none),(10,dI s2),(11,dI (k1:Int))]) (fun k1 s2=>[]) I (fun k1 xk1 sk1 ok1 hxk1 hr hltk1 hik1=>?_) fun k1 sk1 ek1 hltk1=>?_
 obtain⟨s2,rfl⟩:∃ y,y=sk1:=⟨_,rfl⟩
 refine bdE hr fun y10 hy10 hr=>J g<|J (CB' [(0,5)] [0] (q6h (m:=.bo) hy10))<|ggE hr fun g1 hr=>J (gn 2)<|J (q0G .refl)<|bdE hr fun y11 hy11 hr=>J g<|J (CB' [(0,6)] [2] (j9P (m:=.bo) hy11))<|bdE hr fun x1 hx1 hr=>bdE hr fun y12 hy12 hr=>J g<|J (CB' [] [6] (j0h (m:=.bo) hy12))<|fE 1 hr ?_ ?_<;>intro h5 hr
 refine bdE hr fun y13 hy13 hr=>J g<|J (CB' [] [0,4] (z6u (m:=.bo) hy13))<|fE 3 hr ?_ ?_<;>intro h6 hr
 exact e
 exact e
 exact e
 subst ek1
 obtain⟨s2,rfl⟩:∃ y,y=sk1:=⟨_,rfl⟩
 refine bdE hr fun y14 hy14 hr=>J g<|J (CB' [] [0,4,2] (j6z (m:=.bo) hy14))<|bdE hr fun s3 hqq6 hr=>q0a 6 [(102,dB s3)] ?_ ?_
 replace hr:=hqq6
 refine ifE hr ?_ ?_<;>intro h7 hr
 refine bdE hr fun y15 hy15 hr=>J g<|J (CB' [] [2] (j4I (m:=.bo) hy15))<|e
 exact e
 exact e
 exact e
end Go.Proofs.YtppbkkcekpbaiaaGreat
