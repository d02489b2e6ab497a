/- What some functions of the program compute, as partial functions on plain data, and that they do; each lemma bears its conditions in its statement. -/
import Derived.Test.YtnhofaohogianaaGreatLaws1
set_option linter.unusedVariables false
set_option linter.unusedSimpArgs false
set_option linter.ambiguousOpen false
set_option linter.unusedSectionVars false
set_option linter.unnecessarySimpa false
set_option maxRecDepth 100000
set_option maxHeartbeats 40000000
noncomputable section
open List renaming set_set→Dnz
namespace Go.Proofs.YtnhofaohogianaaGreat
open Go Go.E Go.A
theorem j3Q {a0:(List Rule)}{a1:Int}{r:(Int×(List Rule))}(hr:z3f a0 a1=some r):Ok Tryz.prog 25 [.ref 0 none,dI a1] [.deep .fz 6 (a0.map Rule.W) []] (dI r.1) [.deep .fz 6 (r.2.map Rule.W) []]:=by
 refine OE Tryz.func25 fun S hS=>?_
 unfold z3f at hr
 refine bdP hr fun s1 s2 hqq1 hr=>J (gn 9)<|q0e 1 [(1,dI s1)] [(0,.deep .fz 6 (s2.map Rule.W) [])] ?_ ?_
 refine J g<|q0g hqq1 1 (fun (s3,s4,s5)=>[(0,.ref 0 none),(1,dI s3),(5,dI s4)]) (fun (s3,s4,s5)=>[(0,.deep .fz 6 (s5.map Rule.W) [])]) I fun sk1 ok1 hr hik1=>?_
 obtain⟨s3,s4,s5⟩:=sk1
 have hr:=hr
 refine J g<|J (LEd' s5.length)<|J (gn 2)<|ifE hr ?_ ?_<;>intro h1 hr
 refine bdE hr fun y1 hy1 hr=>J g<|J (CB' [] [] (q4U hy1))<|ggE hr fun g1 hr=>bdE hr fun x1 hx1 hr=>J (IEd' g1 (q3I hx1))<|J g<|J (SD' [.d .fz (.s y1)] [] (q3I hx1))<|ggE hr fun g2 hr=>bdE hr fun y2 hy2 hr=>J g<|J (CB' [] [] (q4U hy2))<|J (IEd' g1 (q3H (q3I hx1)))<|J g<|J (SD' [.d .fz (.s y2)] [] (q3H (q3I hx1)))<|ggE hr fun g3 hr=>J g<|J (IEd' g1 (q3H (q3H (q3I hx1))))<|J (gn 1)<|J (q0m 0 s4.toNat 2 1 (q3H (q3H (q3I hx1))))<|J (LPd' [(2,1)] (q3H (q3H (q3H (q3I hx1)))))<|bdP hr fun y3 z1 hq2 hr=>J g<|J (CB' [(0,1)] [] (j1s hq2))<|J g<|J (OB' _ (bRem (b:=3) (by decide))) ?_
 refine J g<|J (IEd' g1 (q3H (q3H (q3H (q3I hx1)))))<|J g<|J (SD' [.d .fz (.b (decide ((y3.tmod 3)=0)))] [] (q3H (q3H (q3H (q3I hx1)))))<|ggE hr fun g4 hr=>J g<|J (IEd' g1 (q3H (q3H (q3H (q3H (q3I hx1))))))<|J (gn 1)<|J (q0m 0 s4.toNat 4 2 (q3H (q3H (q3H (q3H (q3I hx1))))))<|J (LPd' [(4,2),(2,1)] (q3H (q3H (q3H (q3H (q3H (q3I hx1)))))))<|bdP hr fun y4 z2 hq3 hr=>J g<|J (CB' [(0,2)] [] (z8Q hq3))<|J g<|J (IEd' g1 (q3H (q3H (q3H (q3H (q3H (q3I hx1)))))))<|J (gn 1)<|J (q0m 0 s4.toNat 5 3 (q3H (q3H (q3H (q3H (q3H (q3I hx1)))))))<|J (LPd' [(5,3),(4,2),(2,1)] (q3H (q3H (q3H (q3H (q3H (q3H (q3I hx1))))))))<|bdP hr fun y5 z3 hq4 hr=>J g<|J (CB' [(0,3)] [] (z5N hq4))<|ggE hr fun g5 hr=>J (gn 7) ?_
 cases hr
 exact⟨_,rfl,GH.trans (q0k 0 s4.toNat 5 3 (q3H (q3H (q3H (q3H (q3H (q3H (q3I hx1))))))) (hx:=.ownM (f:=Cn.D))) (GH.trans (q0k 0 s4.toNat 4 2 (q3H (q3H (q3H (q3H (q3H (q3H (q3H (q3I hx1)))))))) (hx:=.ownM (f:=Eqn.D))) (GH.trans (q0k 0 s4.toNat 2 1 (q3H (q3H (q3H (q3H (q3H (q3H (q3H (q3H (q3I hx1))))))))) (hx:=.flatM (fun _=>rfl))) (GH.trans (q0j 0 (he:=eset (f:=Rule.W) (x':=(⟨y1,y2,z1,decide ((y3.tmod 3)=0),z2,z3⟩:Rule)) (by first|rfl|(simp only[Dnz];rfl)))) (q0d hS 1))))⟩
 refine J (gn 2) ?_
 cases hr
 cases hik1 _ rfl
 exact q0d hS 1
 exact e
theorem j1t {a0:Gm_}{a1:Int}{r:(Int×(List Symbol)×(List Rule))}(hr:q9c a0 a1=some r):Ok Tryz.prog 10 [.ag [.ref 0 none,.ref 1 none],dI a1] [.deep .fz 2 (a0.ss_.map Symbol.W) [],.deep .fz 6 (a0.rs_.map Rule.W) []] (dI r.1) [.deep .fz 2 (r.2.1.map Symbol.W) [],.deep .fz 6 (r.2.2.map Rule.W) []]:=by
 refine OE Tryz.func10 fun S hS=>?_
 unfold q9c at hr
 refine J g<|J (BX' 2)<|bdP hr fun y1 z1 hq1 hr=>J g<|J (CB' [(0,0)] [] (j1r hq1))<|bdP hr fun y2 z2 hq2 hr=>J g<|J (CB' [(0,1)] [] (j3Q hq2))<|e
theorem j5k {a0:(List Int)}{a1:Int}{r:(Int×(List Int))}(hr:z4H a0 a1=some r):Ok Tryz.prog 58 [.ref 0 none,dI a1] [.row .fz 1 (a0.map (A.D.i .i64))] (dI r.1) [.row .fz 1 (r.2.map (A.D.i .i64))]:=by
 refine OE Tryz.func58 fun S hS=>?_
 unfold z4H at hr
 refine bdP hr fun s1 s2 hqq1 hr=>J (gn 9)<|q0e 1 [(1,dI s1)] [(0,.row .fz 1 (s2.map (A.D.i .i64)))] ?_ ?_
 refine J g<|q0g hqq1 1 (fun (s3,s4,s5)=>[(0,.ref 0 none),(1,dI s3),(5,dI s4)]) (fun (s3,s4,s5)=>[(0,.row .fz 1 (s5.map (A.D.i .i64)))]) I fun sk1 ok1 hr hik1=>?_
 obtain⟨s3,s4,s5⟩:=sk1
 have hr:=hr
 refine J (gn 8)<|ifE hr ?_ ?_<;>intro h1 hr
 refine ggE hr fun g1 hr=>bdE hr fun x1 hx1 hr=>J g<|J (SE' s3 hx1)<|ggE hr fun g2 hr=>ggE hr fun g3 hr=>e
 refine J (gn 2) ?_
 cases hr
 cases hik1 _ rfl
 exact q0d hS 1
 exact e
theorem z8R {a0:(List Rl_)}{a1:Int}{r:(Int×(List Rl_))}(hr:q9i a0 a1=some r):Ok Tryz.prog 26 [.ref 0 none,dI a1] [.deep .fz 2 (a0.map Rl_.W) []] (dI r.1) [.deep .fz 2 (r.2.map Rl_.W) []]:=by
 refine OE Tryz.func26 fun S hS=>?_
 unfold q9i at hr
 refine bdP hr fun s1 s2 hqq1 hr=>J (gn 9)<|q0e 1 [(1,dI s1)] [(0,.deep .fz 2 (s2.map Rl_.W) [])] ?_ ?_
 refine J g<|q0g hqq1 1 (fun (s3,s4,s5)=>[(0,.ref 0 none),(1,dI s3),(5,dI s4)]) (fun (s3,s4,s5)=>[(0,.deep .fz 2 (s5.map Rl_.W) [])]) I fun sk1 ok1 hr hik1=>?_
 obtain⟨s3,s4,s5⟩:=sk1
 have hr:=hr
 refine J g<|J (LEd' s5.length)<|J (gn 2)<|ifE hr ?_ ?_<;>intro h1 hr
 refine ggE hr fun g1 hr=>bdE hr fun x1 hx1 hr=>J g<|J (IEd' g1 (q3I hx1))<|J g<|J (SD' [.d .fz (.i .i64 s3)] [] (q3I hx1))<|ggE hr fun g2 hr=>J g<|J (IEd' g1 (q3H (q3I hx1)))<|J (gn 1)<|J (q0m 0 s4.toNat 1 1 (q3H (q3I hx1)))<|J (LPd' [(1,1)] (q3H (q3H (q3I hx1))))<|bdP hr fun y1 z1 hq2 hr=>J g<|J (CB' [(0,1)] [] (j5k hq2))<|ggE hr fun g3 hr=>J (gn 7) ?_
 cases hr
 exact⟨_,rfl,GH.trans (q0k 0 s4.toNat 1 1 (q3H (q3H (q3I hx1))) (hx:=.flatM (fun _=>rfl))) (GH.trans (q0j 0 (he:=eset (f:=Rl_.W) (x':=(⟨s3,z1⟩:Rl_)) (by first|rfl|(simp only[Dnz];rfl)))) (q0d hS 1))⟩
 refine J (gn 2) ?_
 cases hr
 cases hik1 _ rfl
 exact q0d hS 1
 exact e
theorem z8f {a0:(List (List Rl_))}{a1:Int}{r:(Int×(List (List Rl_)))}(hr:q8C a0 a1=some r):Ok Tryz.prog 11 [.ref 0 none,dI a1] [.deep .fz 1 (a0.map (fun (l:List Rl_)=>[Cell.w 2 (l.map Rl_.D)])) []] (dI r.1) [.deep .fz 1 (r.2.map (fun (l:List Rl_)=>[Cell.w 2 (l.map Rl_.D)])) []]:=by
 refine OE Tryz.func11 fun S hS=>?_
 unfold q8C at hr
 refine bdP hr fun s1 s2 hqq1 hr=>J (gn 9)<|q0e 1 [(1,dI s1)] [(0,.deep .fz 1 (s2.map (fun (l:List Rl_)=>[Cell.w 2 (l.map Rl_.D)])) [])] ?_ ?_
 refine J g<|q0g hqq1 1 (fun (s3,s4,s5)=>[(0,.ref 0 none),(1,dI s3),(5,dI s4)]) (fun (s3,s4,s5)=>[(0,.deep .fz 1 (s5.map (fun (l:List Rl_)=>[Cell.w 2 (l.map Rl_.D)])) [])]) I fun sk1 ok1 hr hik1=>?_
 obtain⟨s3,s4,s5⟩:=sk1
 have hr:=hr
 refine J g<|J (LEd' s5.length)<|J (gn 2)<|ifE hr ?_ ?_<;>intro h1 hr
 refine ggE hr fun g1 hr=>bdE hr fun x1 hx1 hr=>J g<|J (IEd' g1 (q3I hx1))<|J (q0m 0 s4.toNat 0 1 (q3I hx1))<|J (LPd' [(0,1)] (q3H (q3I hx1)))<|bdP hr fun y1 z1 hq2 hr=>J g<|J (CB' [(0,1)] [] (z8R hq2))<|ggE hr fun g2 hr=>J (gn 7) ?_
 cases hr
 exact⟨_,rfl,GH.trans (q0k 0 s4.toNat 0 1 (q3H (q3I hx1)) (hx:=.ownM (f:=Rl_.D))) (GH.trans (q0j 0 (he:=eset (f:=(fun (l:List Rl_)=>[Cell.w 2 (l.map Rl_.D)])) (x':=z1) (by first|rfl|(simp only[Dnz];rfl)))) (q0d hS 1))⟩
 refine J (gn 2) ?_
 cases hr
 cases hik1 _ rfl
 exact q0d hS 1
 exact e
theorem j5l {m:Md}{a0:(List Int)}{a1:Int}{r:Int}(hr:z2A a0 a1=some r):Ok Tryz.prog 59 [.d m (.sl 1 (a0.map (A.D.i .i64))),dI a1] [] (dI r) []:=by
 refine OE Tryz.func59 fun S hS=>?_
 unfold z2A at hr
 refine J (gn 10)<|J (lenT 0)<|fun hl1=>bdE hr fun q1 hqq1 hr=>q0b hqq1 hl1 0 (fun k1 s1=>[(0,.d m (.sl 1 (a0.map (A.D.i .i64)))),(1,dI s1),(5,dI (k1:Int))]) (fun k1 s1=>[]) I (fun k1 xk1 sk1 ok1 hxk1 hr hltk1 hik1=>?_) fun k1 sk1 ek1 hltk1=>?_
 obtain⟨s1,rfl⟩:∃ y,y=sk1:=⟨_,rfl⟩
 refine J (gn 22)<|ifE hr ?_ ?_<;>intro h1 hr
 refine ggE hr fun g1 hr=>e
 exact e
 subst ek1
 obtain⟨s1,rfl⟩:∃ y,y=sk1:=⟨_,rfl⟩
 exact e
theorem z8S {m:Md}{a0:(List Rl_)}{a1:Int}{r:Int}(hr:q7I a0 a1=some r):Ok Tryz.prog 27 [.d m (.sl 2 (a0.map Rl_.D)),dI a1] [] (dI r) []:=by
 refine OE Tryz.func27 fun S hS=>?_
 unfold q7I at hr
 refine J (gn 10)<|J (lenT 0)<|fun hl1=>bdE hr fun q1 hqq1 hr=>q0b hqq1 hl1 0 (fun k1 s1=>[(0,.d m (.sl 2 (a0.map Rl_.D))),(1,dI s1),(5,dI (k1:Int))]) (fun k1 s1=>[]) I (fun k1 xk1 sk1 ok1 hxk1 hr hltk1 hik1=>?_) fun k1 sk1 ek1 hltk1=>?_
 obtain⟨s1,rfl⟩:∃ y,y=sk1:=⟨_,rfl⟩
 refine J (gn 23)<|ifE hr ?_ ?_<;>intro h1 hr
 refine ggE hr fun g1 hr=>bdE hr fun y1 hy1 hr=>J g<|J (CB' [] [] (j5l (m:=m) hy1))<|J (gn 7)<|ifE hr ?_ ?_<;>intro h2 hr
 exact e
 exact e
 exact e
 subst ek1
 obtain⟨s1,rfl⟩:∃ y,y=sk1:=⟨_,rfl⟩
 exact e
theorem z3j {m:Md}{a0:(List (List Rl_))}{a1:Int}{r:Int}(hr:q6q a0 a1=some r):Ok Tryz.prog 12 [.d m (.sl 1 (a0.map (fun (l:List Rl_)=>A.D.sl 2 (l.map Rl_.D)))),dI a1] [] (dI r) []:=by
 refine OE Tryz.func12 fun S hS=>?_
 unfold q6q at hr
 refine J (gn 10)<|J (lenT 0)<|fun hl1=>bdE hr fun q1 hqq1 hr=>q0b hqq1 hl1 0 (fun k1 s1=>[(0,.d m (.sl 1 (a0.map (fun (l:List Rl_)=>A.D.sl 2 (l.map Rl_.D))))),(1,dI s1),(5,dI (k1:Int))]) (fun k1 s1=>[]) I (fun k1 xk1 sk1 ok1 hxk1 hr hltk1 hik1=>?_) fun k1 sk1 ek1 hltk1=>?_
 obtain⟨s1,rfl⟩:∃ y,y=sk1:=⟨_,rfl⟩
 refine bdE hr fun y1 hy1 hr=>J g<|J (CB' [] [] (z8S (m:=m) hy1))<|J (gn 7)<|ifE hr ?_ ?_<;>intro h1 hr
 exact e
 exact e
 subst ek1
 obtain⟨s1,rfl⟩:∃ y,y=sk1:=⟨_,rfl⟩
 exact e
theorem z6p {m:Md}{a0:Gm_}{r:Bool}(hr:q7u a0=some r):Ok Tryz.prog 3 [Gm_.x m a0] [] (dB r) []:=by
 refine OE Tryz.func3 fun S hS=>?_
 unfold q7u at hr
 refine J g<|J (BX' 0)<|bdE hr fun y1 hy1 hr=>J g<|J (CB' [] [] (j3K (m:=m) hy1))<|J (gn 8)<|ifE hr ?_ ?_<;>intro h1 hr
 exact e
 refine bdE hr fun y2 hy2 hr=>J g<|J (CB' [(0,1),(1,2)] [] (z1P (m:=m) hy2))<|bdP hr fun y3 y4 hq1 hr=>J (CB' [] [1,2] (j3H (m:=.bo) hq1))<|bdE hr fun y5 hy5 hr=>J g<|J (CB' [(0,3),(1,4)] [] (z1P (m:=m) hy5))<|J (NV' 5)<|bdP hr fun y6 y7 hq2 hr=>J g<|J (CB' [(0,6)] [3,4] (z7Z (m:=.bo) hq2))<|bdE hr fun y8 hy8 hr=>J g<|J (CB' [] [6] (z1C (m:=.bo) hy8))<|bdE hr fun s1 hqq3 hr=>J (gn 1)<|q0a 5 [(1,.pb 0 0),(4,.d .fz (.sl 1 (y3.map (fun (l:List Rl_)=>A.D.sl 2 (l.map Rl_.D))))),(5,dB y4),(6,.pb 5 0),(7,.ref 6 none),(8,dB y7),(40,dB s1)] ?_ ?_
 replace hr:=hqq3
 refine ifE hr ?_ ?_<;>intro h2 hr
 refine J g ?_
 refine J (BQn' rfl rfl)<|J g<|E
 exact e
 refine J (gn 1)<|ifE hr ?_ ?_<;>intro h3 hr
 exact e
 refine bdE hr fun y9 hy9 hr=>J g<|J (CB' [(0,7),(1,8)] [] (z1P (m:=m) hy9))<|bdE hr fun y10 hy10 hr=>J (CB' [] [3,4,7,8] (j3P (m:=.bo) hy10))<|J (gn 2)<|ifE hr ?_ ?_<;>intro h4 hr
 refine bdT hr fun y11 z1 z2 hq4 hr=>J g<|J (CB' [(0,3),(1,4)] [] (j1t hq4))<|bdE hr fun s2 hqq5 hr=>J (gn 7)<|q0a 6 [(1,.pb 0 0),(4,.d .fz (.sl 1 (y3.map (fun (l:List Rl_)=>A.D.sl 2 (l.map Rl_.D))))),(5,dB y4),(7,.ref 6 none),(8,dB y7),(56,dB s2)] ?_ ?_
 replace hr:=hqq5
 refine ifE hr ?_ ?_<;>intro h5 hr
 exact e
 refine bdE hr fun y12 hy12 hr=>J g<|J (CB' [] [6] (z1C (m:=.bo) hy12))<|e
 refine bdE hr fun s3 hqq6 hr=>q0a 5 [(1,.pb 0 0),(4,.d .fz (.sl 1 (y3.map (fun (l:List Rl_)=>A.D.sl 2 (l.map Rl_.D))))),(5,dB y4),(7,.ref 6 none),(61,dB s3)] ?_ ?_
 replace hr:=hqq6
 refine ifE hr ?_ ?_<;>intro h6 hr
 exact e
 refine J g ?_
 refine J (BQn' rfl rfl)<|J g<|E
 refine J (gn 1)<|ifE hr ?_ ?_<;>intro h7 hr
 exact e
 refine bdP hr fun y13 z3 hq7 hr=>J g<|J (CB' [(0,6)] [] (z8f hq7))<|bdE hr fun y14 hy14 hr=>J g<|J (CB' [] [6] (z3j (m:=.bo) hy14))<|J (gn 8)<|ifE hr ?_ ?_<;>intro h8 hr
 exact e
 refine J (gn 9)<|ifE hr ?_ ?_<;>intro h9 hr
 refine bdE hr fun y15 hy15 hr=>J g<|J (CB' [(0,9),(1,10)] [] (z1P (m:=m) hy15))<|bdP hr fun y16 y17 hq8 hr=>J (CB' [(0,11)] [9,10] (z7Z (m:=.bo) hq8))<|bdE hr fun y18 hy18 hr=>J g<|J (CB' [] [11] (z1C (m:=.bo) hy18))<|bdE hr fun s4 hqq9 hr=>J (gn 1)<|q0a 5 [(7,.ref 6 none),(10,dI y13),(87,dB s4)] ?_ ?_
 replace hr:=hqq9
 refine ifE hr ?_ ?_<;>intro h10 hr
 refine J g ?_
 refine J (BQn' rfl rfl)<|J g<|E
 exact e
 refine J (gn 1)<|ifE hr ?_ ?_<;>intro h11 hr
 exact e
 refine bdE hr fun y19 hy19 hr=>J g<|J (CB' [] [6] (z3j (m:=.bo) hy19))<|J (gn 8)<|ifE hr ?_ ?_<;>intro h12 hr
 exact e
 refine J (gn 9)<|ifE hr ?_ ?_<;>intro h13 hr
 exact e
 exact e
 exact e
 exact e
end Go.Proofs.YtnhofaohogianaaGreat
