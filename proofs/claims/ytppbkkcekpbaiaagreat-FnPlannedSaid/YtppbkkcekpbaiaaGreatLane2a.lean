/- What some functions of the program compute, as partial functions on plain data, and that they do; each lemma bears its conditions in its statement. -/
import Derived.Test.YtppbkkcekpbaiaaGreatDef
set_option linter.unusedVariables false
set_option linter.unusedSimpArgs false
set_option linter.ambiguousOpen false
set_option linter.unusedSectionVars false
set_option linter.unnecessarySimpa false
set_option maxRecDepth 100000
set_option maxHeartbeats 40000000
noncomputable section
namespace Go.Proofs.YtppbkkcekpbaiaaGreat
open Go Go.E Go.A
theorem j9O {m:Md}{a0:List RPl_}{a1:BA_}{r:List Step}(hr:z8D a0 a1=some r):Okp 50 [rw13 m a0,dS a1] [] (rw12 m r) []:=by
 refine OE Tryz.func50 fun S hS=>?_
 unfold z8D at hr
 refine J (gn 12)<|J (lenT 0)<|fun hl1=>bdE hr fun q1 hqq1 hr=>q0b hqq1 hl1 0 (fun k1 _=>[(1,dS a1),(7,rw13 m a0),(8,dI (a0.length:Int)),(9,dI (k1:Int))]) (fun k1 _=>[]) I (fun k1 xk1 sk1 ok1 hxk1 hr hltk1 hik1=>?_) fun k1 sk1 ek1 hltk1=>?_
 refine J g<|J (NV' 0)<|fE 9 hr ?_ ?_<;>intro h1 hr
 exact e
 exact e
 subst ek1
 refine J (gn 12) ?_
 cases hr
 exact endA.ren [] 0 (.inr rfl) hS rfl rfl rfl .nld rfl rfl
theorem z8Q {m:Md}{a0 r:List Step}(hr:q9A a0=some r):Okp 49 [rw12 m a0] [] (.ref 0 none) [.row .fz 4 (r.map Step.D)]:=by
 refine OE Tryz.func49 fun S hS=>?_
 unfold q9A at hr
 refine ggE hr fun g1 hr=>J (gn 6) ?_
 refine q1J rfl fun q hq=>?_
 cases q with
 | true=>
 refine J g ?_
 have e0:a0=[]:=List.map_eq_nil_iff.1 (hq rfl)
 subst e0
 refine J (q0c (q0w (t:=2) (r:=0) .fz 4 rfl rfl))<|J g<|E
 | false=>
 refine J g<|J (L0' 0 Step.D)<|J g<|J (APf' 1 (fun _=>rfl) g1)<|e
theorem j9P {m:Md}{a0:List RPl_}{a1:BA_}{r:List Step}(hr:z6n a0 a1=some r):Okp 19 [rw13 m a0,dS a1] [] (.ref 0 none) [.row .fz 4 (r.map Step.D)]:=by
 refine OE Tryz.func19 fun S hS=>?_
 unfold z6n at hr
 refine bdE hr fun y1 hy1 hr=>J g<|J (CB' [] [] (j9O (m:=m) hy1))<|bdE hr fun y2 hy2 hr=>J (CB' [(0,0)] [] (z8Q (m:=m) hy2))<|e
theorem j4I {m:Md}{a0:List RPl_}{a1 r:Int}(hr:z4i a0 a1=some r):Okp 20 [rw13 m a0,dI a1] [] (dI r) []:=by
 refine OE Tryz.func20 fun S hS=>?_
 unfold z4i at hr
 refine J (gn 16)<|J (lenT 0)<|fun hl1=>bdE hr fun s1 hqq1 hr=>q0d hqq1 hl1 0 (fun k1 s1=>[(1,dI a1),(5,dI s1),(10,rw13 m a0),(11,dI (a0.length:Int)),(12,dI (k1:Int))]) (fun k1 s1=>[]) I (fun k1 xk1 sk1 ok1 hxk1 hr hltk1=>?_) fun k1 hltk1=>?_
 obtain⟨s1,rfl⟩:∃ y,y=sk1:=⟨_,rfl⟩
 refine J g<|J (NV' 0)<|J (gn 10)<|J (lenA 1 15)<|fun hl2=>bdE hr fun s2 hqq2 hr=>q0d hqq2 hl2 1 (fun k2 s2=>[(1,dI a1),(5,dI s2),(10,rw13 m a0),(11,dI (a0.length:Int)),(12,dI (k1:Int)),(17,rw12 m xk1.Steps),(18,dI (xk1.Steps.length:Int)),(19,dI (k2:Int))]) (fun k2 s2=>[]) I (fun k2 xk2 sk2 ok2 hxk2 hr hltk2=>?_) fun k2 hltk2=>?_
 obtain⟨s2,rfl⟩:∃ y,y=sk2:=⟨_,rfl⟩
 refine bdE hr fun s3 hqq3 hr=>J (gn 8)<|q0e 1 [(1,dI a1),(5,dI s3),(10,rw13 m a0),(11,dI (a0.length:Int)),(12,dI (k1:Int)),(17,rw12 m xk1.Steps),(18,dI (xk1.Steps.length:Int)),(19,dI (k2:Int))] [] ?_ ?_
 replace hr:=hqq3
 refine J g<|J (NV' 1)<|fE 9 hr ?_ ?_<;>intro h1 hr
 refine ggE hr fun g1 hr=>e
 exact e
 exact e
 exact e
 exact e
end Go.Proofs.YtppbkkcekpbaiaaGreat
