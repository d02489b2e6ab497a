/- What the helpers of the laws do (sizes, copies, tests, marks): each lemma bears its conditions in its statement. -/
import Derived.Test.YtmblndlpkpaobaaGreatRows
import Derived.Test.YtmblndlpkpaobaaGreatEngD
import Derived.Test.YtmblndlpkpaobaaGreatHelpa
set_option linter.unusedVariables false
set_option linter.unusedSimpArgs false
set_option linter.ambiguousOpen false
set_option linter.unusedSectionVars false
set_option linter.unnecessarySimpa false
set_option linter.unusedVariables false
set_option linter.unusedSimpArgs false
set_option maxRecDepth 100000
set_option maxHeartbeats 1000000
namespace Go.Proofs.YtmblndlpkpaobaaGreat
open Go Go.E
open Go.E.Rep (rd)
open Go.E.Sep (own)

theorem z9Z:Opens Tryz.prog 135 Contribution:=by
  refine Opens.struct (k:=16) (by kernel_rfl) rfl Tryz.underlying135 fun H enc w base spare held n cs xs hl hx hf=>?_
  obtain⟨c0,t0,rfl,hl0⟩:=lenS hl
  obtain⟨c1,t1,rfl,hl1⟩:=lenS hl0
  obtain⟨c2,t2,rfl,hl2⟩:=lenS hl1
  obtain⟨c3,t3,rfl,hl3⟩:=lenS hl2
  obtain⟨c4,t4,rfl,hl4⟩:=lenS hl3
  obtain⟨c5,t5,rfl,hl5⟩:=lenS hl4
  obtain⟨c6,t6,rfl,hl6⟩:=lenS hl5
  obtain⟨c7,t7,rfl,hl7⟩:=lenS hl6
  obtain⟨c8,t8,rfl,hl8⟩:=lenS hl7
  obtain⟨c9,t9,rfl,hl9⟩:=lenS hl8
  obtain⟨c10,t10,rfl,hl10⟩:=lenS hl9
  obtain⟨c11,t11,rfl,hl11⟩:=lenS hl10
  obtain⟨c12,t12,rfl,hl12⟩:=lenS hl11
  obtain⟨c13,t13,rfl,hl13⟩:=lenS hl12
  obtain⟨c14,t14,rfl,hl14⟩:=lenS hl13
  obtain⟨c15,t15,rfl,hl15⟩:=lenS hl14
  obtain rfl:=len0 hl15
  obtain⟨a0,r0⟩:=Opens.fld (i:=0) (t:=9) (off:=0) (k:=1) open9 hf hx rfl rfl rfl rfl
  have q0:rd (fun _=>True) w a0 [c0]:=r0
  obtain⟨e0,h0_0⟩:=q0
  simp only [List.cons.injEq,and_true] at e0
  obtain rfl:=e0
  obtain⟨a1,r1⟩:=Opens.fld (i:=1) (t:=9) (off:=1) (k:=1) open9 hf hx rfl rfl rfl rfl
  have q1:rd (fun _=>True) w a1 [c1]:=r1
  obtain⟨e1,h1_0⟩:=q1
  simp only [List.cons.injEq,and_true] at e1
  obtain rfl:=e1
  obtain⟨a2,r2⟩:=Opens.fld (i:=2) (t:=130) (off:=2) (k:=7) z5V hf hx rfl rfl rfl rfl
  have q2:rd (fun _=>True) w a2 [c2,c3,c4,c5,c6,c7,c8]:=r2
  obtain⟨v2_6,e2,h2_0,h2_1,h2_2,h2_3,h2_4,h2_5,s2_6⟩:=q0b.1 q2
  simp only [List.cons.injEq,and_true] at e2
  obtain⟨rfl,rfl,rfl,rfl,rfl,rfl,rfl⟩:=e2
  obtain⟨a3,r3⟩:=Opens.fld (i:=3) (t:=130) (off:=9) (k:=7) z5V hf hx rfl rfl rfl rfl
  have q3:rd (fun _=>True) w a3 [c9,c10,c11,c12,c13,c14,c15]:=r3
  obtain⟨v3_6,e3,h3_0,h3_1,h3_2,h3_3,h3_4,h3_5,s3_6⟩:=q0b.1 q3
  simp only [List.cons.injEq,and_true] at e3
  obtain⟨rfl,rfl,rfl,rfl,rfl,rfl,rfl⟩:=e3
  exact⟨⟨a0,a1,a2,a3⟩,_,_,rfl,h0_0,h1_0,h2_0,h2_1,h2_2,h2_3,h2_4,h2_5,h3_0,h3_1,h3_2,h3_3,h3_4,h3_5,s2_6,s3_6⟩
theorem open71:Opens Tryz.prog 71 (List Contribution):=Opens.slice (by kernel_rfl) Tryz.underlying71 z9Z
theorem open73:Opens Tryz.prog 73 Rule:=by
  refine Opens.struct (k:=6) (by kernel_rfl) rfl Tryz.underlying73 fun H enc w base spare held n cs xs hl hx hf=>?_
  obtain⟨c0,t0,rfl,hl0⟩:=lenS hl
  obtain⟨c1,t1,rfl,hl1⟩:=lenS hl0
  obtain⟨c2,t2,rfl,hl2⟩:=lenS hl1
  obtain⟨c3,t3,rfl,hl3⟩:=lenS hl2
  obtain⟨c4,t4,rfl,hl4⟩:=lenS hl3
  obtain⟨c5,t5,rfl,hl5⟩:=lenS hl4
  obtain rfl:=len0 hl5
  obtain⟨a0,r0⟩:=Opens.fld (i:=0) (t:=9) (off:=0) (k:=1) open9 hf hx rfl rfl rfl rfl
  have q0:rd (fun _=>True) w a0 [c0]:=r0
  obtain⟨e0,h0_0⟩:=q0
  simp only [List.cons.injEq,and_true] at e0
  obtain rfl:=e0
  obtain⟨a1,r1⟩:=Opens.fld (i:=1) (t:=9) (off:=1) (k:=1) open9 hf hx rfl rfl rfl rfl
  have q1:rd (fun _=>True) w a1 [c1]:=r1
  obtain⟨e1,h1_0⟩:=q1
  simp only [List.cons.injEq,and_true] at e1
  obtain rfl:=e1
  obtain⟨a2,r2⟩:=Opens.fld (i:=2) (t:=43) (off:=2) (k:=1) open43 hf hx rfl rfl rfl rfl
  have q2:rd (fun _=>True) w a2 [c2]:=r2
  obtain⟨v2_0,e2,s2_0⟩:=q2
  simp only [List.cons.injEq,and_true] at e2
  obtain rfl:=e2
  obtain⟨a3,r3⟩:=Opens.fld (i:=3) (t:=4) (off:=3) (k:=1) open4 hf hx rfl rfl rfl rfl
  have q3:rd (fun _=>True) w a3 [c3]:=r3
  have e3:[c3]=[.bool a3]:=q3
  simp only [List.cons.injEq,and_true] at e3
  obtain rfl:=e3
  obtain⟨a4,r4⟩:=Opens.fld (i:=4) (t:=70) (off:=4) (k:=1) open70 hf hx rfl rfl rfl rfl
  have q4:rd (fun _=>True) w a4 [c4]:=r4
  obtain⟨v4_0,e4,s4_0⟩:=q4
  simp only [List.cons.injEq,and_true] at e4
  obtain rfl:=e4
  obtain⟨a5,r5⟩:=Opens.fld (i:=5) (t:=71) (off:=5) (k:=1) open71 hf hx rfl rfl rfl rfl
  have q5:rd (fun _=>True) w a5 [c5]:=r5
  obtain⟨v5_0,e5,s5_0⟩:=q5
  simp only [List.cons.injEq,and_true] at e5
  obtain rfl:=e5
  exact⟨⟨a0,a1,a2,a3,a4,a5⟩,_,_,_,rfl,h0_0,h1_0,s2_0,s4_0,s5_0⟩
theorem open23:Opens Tryz.prog 23 (List Rule):=Opens.slice (by kernel_rfl) Tryz.underlying23 open73
theorem open25:Opens Tryz.prog 25 Grammar:=by
  refine Opens.struct (k:=2) (by kernel_rfl) rfl Tryz.underlying25 fun H enc w base spare held n cs xs hl hx hf=>?_
  obtain⟨c0,t0,rfl,hl0⟩:=lenS hl
  obtain⟨c1,t1,rfl,hl1⟩:=lenS hl0
  obtain rfl:=len0 hl1
  obtain⟨a0,r0⟩:=Opens.fld (i:=0) (t:=22) (off:=0) (k:=1) open22 hf hx rfl rfl rfl rfl
  have q0:rd (fun _=>True) w a0 [c0]:=r0
  obtain⟨v0_0,e0,s0_0⟩:=q0
  simp only [List.cons.injEq,and_true] at e0
  obtain rfl:=e0
  obtain⟨a1,r1⟩:=Opens.fld (i:=1) (t:=23) (off:=1) (k:=1) open23 hf hx rfl rfl rfl rfl
  have q1:rd (fun _=>True) w a1 [c1]:=r1
  obtain⟨v1_0,e1,s1_0⟩:=q1
  simp only [List.cons.injEq,and_true] at e1
  obtain rfl:=e1
  exact⟨⟨a0,a1⟩,_,_,rfl,s0_0,s1_0⟩
end Go.Proofs.YtmblndlpkpaobaaGreat

