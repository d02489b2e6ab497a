/- The law FnExactCheckPlan returns true for all arguments and leaves them as they were; there is no condition. -/
import Derived.Test.YteefempppabmkacGreatRows
import Derived.Test.YteefempppabmkacGreatMathNLc
import Derived.Test.YteefempppabmkacGreatMathNVc
set_option linter.unusedVariables false
set_option linter.unusedSimpArgs false
set_option linter.ambiguousOpen false
set_option linter.unusedSectionVars false
set_option linter.unnecessarySimpa false
set_option linter.unusedVariables false
set_option linter.unusedSimpArgs false
set_option maxRecDepth 100000
set_option maxHeartbeats 1000000
namespace Go.Proofs.YteefempppabmkacGreat
open Go Go.E
open Go.E.Rep (rd)
open Go.E.Sep (own)
theorem open9:Opens Tryz.prog 9 ByteArray:=Opens.str (by kernel_rfl) Tryz.underlying9
theorem open3:Opens Tryz.prog 3 Int:=Opens.int (by kernel_rfl) Tryz.underlying3
theorem k1L:Opens Tryz.prog 4 Bool:=Opens.bool (by kernel_rfl) Tryz.underlying4
theorem k0Z:Opens Tryz.prog 169 Attribute:=by
 refine Opens.struct (k:=4) (by kernel_rfl) rfl Tryz.underlying169 fun H enc w base spare held n cs xs hl hx hf=>?_
 obtain⟨c0,t0,rfl,hl0⟩:=lenS hl
 obtain⟨c1,t1,rfl,hl1⟩:=lenS hl0
 obtain⟨c2,t2,rfl,hl2⟩:=lenS hl1
 obtain⟨c3,t3,rfl,hl3⟩:=lenS hl2
 obtain rfl:=len0 hl3
 obtain⟨a0,r0⟩:=Opens.fld (i:=0) (t:=9) (off:=0) (k:=1) open9 hf hx rfl rfl rfl rfl
 have q0:rd (fun _=>True) w a0 [c0]:=r0
 obtain⟨e0,h0_0⟩:=q0
 simp only [List.cons.injEq,and_true] at e0
 obtain rfl:=e0
 obtain⟨a1,r1⟩:=Opens.fld (i:=1) (t:=3) (off:=1) (k:=1) open3 hf hx rfl rfl rfl rfl
 have q1:rd (fun _=>True) w a1 [c1]:=r1
 obtain⟨e1,h1_0⟩:=q1
 simp only [List.cons.injEq,and_true] at e1
 obtain rfl:=e1
 obtain⟨a2,r2⟩:=Opens.fld (i:=2) (t:=3) (off:=2) (k:=1) open3 hf hx rfl rfl rfl rfl
 have q2:rd (fun _=>True) w a2 [c2]:=r2
 obtain⟨e2,h2_0⟩:=q2
 simp only [List.cons.injEq,and_true] at e2
 obtain rfl:=e2
 obtain⟨a3,r3⟩:=Opens.fld (i:=3) (t:=4) (off:=3) (k:=1) k1L hf hx rfl rfl rfl rfl
 have q3:rd (fun _=>True) w a3 [c3]:=r3
 have e3:[c3]=[.bool a3]:=q3
 simp only [List.cons.injEq,and_true] at e3
 obtain rfl:=e3
 exact⟨⟨a0,a1,a2,a3⟩,rfl,h0_0,h1_0,h2_0⟩
theorem k1M:Opens Tryz.prog 75 (List Attribute):=Opens.slice (by kernel_rfl) Tryz.underlying75 k0Z
theorem k1N:Opens Tryz.prog 77 Symbol:=by
 refine Opens.struct (k:=2) (by kernel_rfl) rfl Tryz.underlying77 fun H enc w base spare held n cs xs hl hx hf=>?_
 obtain⟨c0,t0,rfl,hl0⟩:=lenS hl
 obtain⟨c1,t1,rfl,hl1⟩:=lenS hl0
 obtain rfl:=len0 hl1
 obtain⟨a0,r0⟩:=Opens.fld (i:=0) (t:=9) (off:=0) (k:=1) open9 hf hx rfl rfl rfl rfl
 have q0:rd (fun _=>True) w a0 [c0]:=r0
 obtain⟨e0,h0_0⟩:=q0
 simp only [List.cons.injEq,and_true] at e0
 obtain rfl:=e0
 obtain⟨a1,r1⟩:=Opens.fld (i:=1) (t:=75) (off:=1) (k:=1) k1M hf hx rfl rfl rfl rfl
 have q1:rd (fun _=>True) w a1 [c1]:=r1
 obtain⟨v1_0,e1,s1_0⟩:=q1
 simp only [List.cons.injEq,and_true] at e1
 obtain rfl:=e1
 exact⟨⟨a0,a1⟩,_,rfl,h0_0,s1_0⟩
theorem k1O:Opens Tryz.prog 22 (List Symbol):=Opens.slice (by kernel_rfl) Tryz.underlying22 k1N
theorem j7L:Opens Tryz.prog 58 (List ByteArray):=Opens.slice (by kernel_rfl) Tryz.underlying58 open9
theorem k1a:Opens Tryz.prog 171 Occurrence:=by
 refine Opens.struct (k:=2) (by kernel_rfl) rfl Tryz.underlying171 fun H enc w base spare held n cs xs hl hx hf=>?_
 obtain⟨c0,t0,rfl,hl0⟩:=lenS hl
 obtain⟨c1,t1,rfl,hl1⟩:=lenS hl0
 obtain rfl:=len0 hl1
 obtain⟨a0,r0⟩:=Opens.fld (i:=0) (t:=3) (off:=0) (k:=1) open3 hf hx rfl rfl rfl rfl
 have q0:rd (fun _=>True) w a0 [c0]:=r0
 obtain⟨e0,h0_0⟩:=q0
 simp only [List.cons.injEq,and_true] at e0
 obtain rfl:=e0
 obtain⟨a1,r1⟩:=Opens.fld (i:=1) (t:=9) (off:=1) (k:=1) open9 hf hx rfl rfl rfl rfl
 have q1:rd (fun _=>True) w a1 [c1]:=r1
 obtain⟨e1,h1_0⟩:=q1
 simp only [List.cons.injEq,and_true] at e1
 obtain rfl:=e1
 exact⟨⟨a0,a1⟩,rfl,h0_0,h1_0⟩
theorem j4M:∀ N,OpensF Tryz.prog 174 Expr N
 | 0=>OpensF.zero (k:=7) (by kernel_rfl) rfl
 | N+1=>by
  have o172:OpensF Tryz.prog 172 (List Expr) N:=OpensF.slice (by kernel_rfl) Tryz.underlying172 (j4M N)
  refine OpensF.struct (k:=7) (by kernel_rfl) rfl Tryz.underlying174 fun H enc w base spare held n cs xs hN hl hx hf=>?_
  obtain⟨c0,t0,rfl,hl0⟩:=lenS hl
  obtain⟨c1,t1,rfl,hl1⟩:=lenS hl0
  obtain⟨c2,t2,rfl,hl2⟩:=lenS hl1
  obtain⟨c3,t3,rfl,hl3⟩:=lenS hl2
  obtain⟨c4,t4,rfl,hl4⟩:=lenS hl3
  obtain⟨c5,t5,rfl,hl5⟩:=lenS hl4
  obtain⟨c6,t6,rfl,hl6⟩:=lenS hl5
  obtain rfl:=len0 hl6
  obtain⟨a0,r0⟩:=OpensF.fld (i:=0) (t:=3) (off:=0) (k:=1) open3.toF hN hf hx rfl rfl rfl rfl
  have q0:rd (fun _=>True) w a0 [c0]:=r0
  obtain⟨e0,h0_0⟩:=q0
  simp only [List.cons.injEq,and_true] at e0
  obtain rfl:=e0
  obtain⟨a1,r1⟩:=OpensF.fld (i:=1) (t:=3) (off:=1) (k:=1) open3.toF hN hf hx rfl rfl rfl rfl
  have q1:rd (fun _=>True) w a1 [c1]:=r1
  obtain⟨e1,h1_0⟩:=q1
  simp only [List.cons.injEq,and_true] at e1
  obtain rfl:=e1
  obtain⟨a2,r2⟩:=OpensF.fld (i:=2) (t:=3) (off:=2) (k:=1) open3.toF hN hf hx rfl rfl rfl rfl
  have q2:rd (fun _=>True) w a2 [c2]:=r2
  obtain⟨e2,h2_0⟩:=q2
  simp only [List.cons.injEq,and_true] at e2
  obtain rfl:=e2
  obtain⟨a3,r3⟩:=OpensF.fld (i:=3) (t:=3) (off:=3) (k:=1) open3.toF hN hf hx rfl rfl rfl rfl
  have q3:rd (fun _=>True) w a3 [c3]:=r3
  obtain⟨e3,h3_0⟩:=q3
  simp only [List.cons.injEq,and_true] at e3
  obtain rfl:=e3
  obtain⟨a4,r4⟩:=OpensF.fld (i:=4) (t:=9) (off:=4) (k:=1) open9.toF hN hf hx rfl rfl rfl rfl
  have q4:rd (fun _=>True) w a4 [c4]:=r4
  obtain⟨e4,h4_0⟩:=q4
  simp only [List.cons.injEq,and_true] at e4
  obtain rfl:=e4
  obtain⟨a5,r5⟩:=OpensF.fld (i:=5) (t:=9) (off:=5) (k:=1) open9.toF hN hf hx rfl rfl rfl rfl
  have q5:rd (fun _=>True) w a5 [c5]:=r5
  obtain⟨e5,h5_0⟩:=q5
  simp only [List.cons.injEq,and_true] at e5
  obtain rfl:=e5
  obtain⟨a6,r6⟩:=OpensF.fld (i:=6) (t:=172) (off:=6) (k:=1) o172 hN hf hx rfl rfl rfl rfl
  have q6:rd (fun _=>True) w a6 [c6]:=r6
  obtain⟨v6_0,e6,s6_0⟩:=q6
  simp only [List.cons.injEq,and_true] at e6
  obtain rfl:=e6
  exact⟨⟨a0,a1,a2,a3,a4,a5,a6⟩,q2r.2 ⟨_,rfl,h0_0,h1_0,h2_0,h3_0,h4_0,h5_0,s6_0⟩⟩
theorem j4o:Opens Tryz.prog 174 Expr:=Opens.ofF j4M
theorem k1b:Opens Tryz.prog 176 Equation:=by
 refine Opens.struct (k:=9) (by kernel_rfl) rfl Tryz.underlying176 fun H enc w base spare held n cs xs hl hx hf=>?_
 obtain⟨c0,t0,rfl,hl0⟩:=lenS hl
 obtain⟨c1,t1,rfl,hl1⟩:=lenS hl0
 obtain⟨c2,t2,rfl,hl2⟩:=lenS hl1
 obtain⟨c3,t3,rfl,hl3⟩:=lenS hl2
 obtain⟨c4,t4,rfl,hl4⟩:=lenS hl3
 obtain⟨c5,t5,rfl,hl5⟩:=lenS hl4
 obtain⟨c6,t6,rfl,hl6⟩:=lenS hl5
 obtain⟨c7,t7,rfl,hl7⟩:=lenS hl6
 obtain⟨c8,t8,rfl,hl8⟩:=lenS hl7
 obtain rfl:=len0 hl8
 obtain⟨a0,r0⟩:=Opens.fld (i:=0) (t:=171) (off:=0) (k:=2) k1a hf hx rfl rfl rfl rfl
 have q0:rd (fun _=>True) w a0 [c0,c1]:=r0
 obtain⟨e0,h0_0,h0_1⟩:=q0
 simp only [List.cons.injEq,and_true] at e0
 obtain⟨rfl,rfl⟩:=e0
 obtain⟨a1,r1⟩:=Opens.fld (i:=1) (t:=174) (off:=2) (k:=7) j4o hf hx rfl rfl rfl rfl
 have q1:rd (fun _=>True) w a1 [c2,c3,c4,c5,c6,c7,c8]:=r1
 obtain⟨v1_6,e1,h1_0,h1_1,h1_2,h1_3,h1_4,h1_5,s1_6⟩:=q2r.1 q1
 simp only [List.cons.injEq,and_true] at e1
 obtain⟨rfl,rfl,rfl,rfl,rfl,rfl,rfl⟩:=e1
 exact⟨⟨a0,a1⟩,_,rfl,h0_0,h0_1,h1_0,h1_1,h1_2,h1_3,h1_4,h1_5,s1_6⟩
theorem k1P:Opens Tryz.prog 79 (List Equation):=Opens.slice (by kernel_rfl) Tryz.underlying79 k1b
theorem k1c:Opens Tryz.prog 179 Contribution:=by
 refine Opens.struct (k:=16) (by kernel_rfl) rfl Tryz.underlying179 fun H enc w base spare held n cs xs hl hx hf=>?_
 obtain⟨c0,t0,rfl,hl0⟩:=lenS hl
 obtain⟨c1,t1,rfl,hl1⟩:=lenS hl0
 obtain⟨c2,t2,rfl,hl2⟩:=lenS hl1
 obtain⟨c3,t3,rfl,hl3⟩:=lenS hl2
 obtain⟨c4,t4,rfl,hl4⟩:=lenS hl3
 obtain⟨c5,t5,rfl,hl5⟩:=lenS hl4
 obtain⟨c6,t6,rfl,hl6⟩:=lenS hl5
 obtain⟨c7,t7,rfl,hl7⟩:=lenS hl6
 obtain⟨c8,t8,rfl,hl8⟩:=lenS hl7
 obtain⟨c9,t9,rfl,hl9⟩:=lenS hl8
 obtain⟨c10,t10,rfl,hl10⟩:=lenS hl9
 obtain⟨c11,t11,rfl,hl11⟩:=lenS hl10
 obtain⟨c12,t12,rfl,hl12⟩:=lenS hl11
 obtain⟨c13,t13,rfl,hl13⟩:=lenS hl12
 obtain⟨c14,t14,rfl,hl14⟩:=lenS hl13
 obtain⟨c15,t15,rfl,hl15⟩:=lenS hl14
 obtain rfl:=len0 hl15
 obtain⟨a0,r0⟩:=Opens.fld (i:=0) (t:=9) (off:=0) (k:=1) open9 hf hx rfl rfl rfl rfl
 have q0:rd (fun _=>True) w a0 [c0]:=r0
 obtain⟨e0,h0_0⟩:=q0
 simp only [List.cons.injEq,and_true] at e0
 obtain rfl:=e0
 obtain⟨a1,r1⟩:=Opens.fld (i:=1) (t:=9) (off:=1) (k:=1) open9 hf hx rfl rfl rfl rfl
 have q1:rd (fun _=>True) w a1 [c1]:=r1
 obtain⟨e1,h1_0⟩:=q1
 simp only [List.cons.injEq,and_true] at e1
 obtain rfl:=e1
 obtain⟨a2,r2⟩:=Opens.fld (i:=2) (t:=174) (off:=2) (k:=7) j4o hf hx rfl rfl rfl rfl
 have q2:rd (fun _=>True) w a2 [c2,c3,c4,c5,c6,c7,c8]:=r2
 obtain⟨v2_6,e2,h2_0,h2_1,h2_2,h2_3,h2_4,h2_5,s2_6⟩:=q2r.1 q2
 simp only [List.cons.injEq,and_true] at e2
 obtain⟨rfl,rfl,rfl,rfl,rfl,rfl,rfl⟩:=e2
 obtain⟨a3,r3⟩:=Opens.fld (i:=3) (t:=174) (off:=9) (k:=7) j4o hf hx rfl rfl rfl rfl
 have q3:rd (fun _=>True) w a3 [c9,c10,c11,c12,c13,c14,c15]:=r3
 obtain⟨v3_6,e3,h3_0,h3_1,h3_2,h3_3,h3_4,h3_5,s3_6⟩:=q2r.1 q3
 simp only [List.cons.injEq,and_true] at e3
 obtain⟨rfl,rfl,rfl,rfl,rfl,rfl,rfl⟩:=e3
 exact⟨⟨a0,a1,a2,a3⟩,_,_,rfl,h0_0,h1_0,h2_0,h2_1,h2_2,h2_3,h2_4,h2_5,h3_0,h3_1,h3_2,h3_3,h3_4,h3_5,s2_6,s3_6⟩
theorem k1Q:Opens Tryz.prog 80 (List Contribution):=Opens.slice (by kernel_rfl) Tryz.underlying80 k1c
theorem k1R:Opens Tryz.prog 82 Rule:=by
 refine Opens.struct (k:=6) (by kernel_rfl) rfl Tryz.underlying82 fun H enc w base spare held n cs xs hl hx hf=>?_
 obtain⟨c0,t0,rfl,hl0⟩:=lenS hl
 obtain⟨c1,t1,rfl,hl1⟩:=lenS hl0
 obtain⟨c2,t2,rfl,hl2⟩:=lenS hl1
 obtain⟨c3,t3,rfl,hl3⟩:=lenS hl2
 obtain⟨c4,t4,rfl,hl4⟩:=lenS hl3
 obtain⟨c5,t5,rfl,hl5⟩:=lenS hl4
 obtain rfl:=len0 hl5
 obtain⟨a0,r0⟩:=Opens.fld (i:=0) (t:=9) (off:=0) (k:=1) open9 hf hx rfl rfl rfl rfl
 have q0:rd (fun _=>True) w a0 [c0]:=r0
 obtain⟨e0,h0_0⟩:=q0
 simp only [List.cons.injEq,and_true] at e0
 obtain rfl:=e0
 obtain⟨a1,r1⟩:=Opens.fld (i:=1) (t:=9) (off:=1) (k:=1) open9 hf hx rfl rfl rfl rfl
 have q1:rd (fun _=>True) w a1 [c1]:=r1
 obtain⟨e1,h1_0⟩:=q1
 simp only [List.cons.injEq,and_true] at e1
 obtain rfl:=e1
 obtain⟨a2,r2⟩:=Opens.fld (i:=2) (t:=58) (off:=2) (k:=1) j7L hf hx rfl rfl rfl rfl
 have q2:rd (fun _=>True) w a2 [c2]:=r2
 obtain⟨v2_0,e2,s2_0⟩:=q2
 simp only [List.cons.injEq,and_true] at e2
 obtain rfl:=e2
 obtain⟨a3,r3⟩:=Opens.fld (i:=3) (t:=4) (off:=3) (k:=1) k1L hf hx rfl rfl rfl rfl
 have q3:rd (fun _=>True) w a3 [c3]:=r3
 have e3:[c3]=[.bool a3]:=q3
 simp only [List.cons.injEq,and_true] at e3
 obtain rfl:=e3
 obtain⟨a4,r4⟩:=Opens.fld (i:=4) (t:=79) (off:=4) (k:=1) k1P hf hx rfl rfl rfl rfl
 have q4:rd (fun _=>True) w a4 [c4]:=r4
 obtain⟨v4_0,e4,s4_0⟩:=q4
 simp only [List.cons.injEq,and_true] at e4
 obtain rfl:=e4
 obtain⟨a5,r5⟩:=Opens.fld (i:=5) (t:=80) (off:=5) (k:=1) k1Q hf hx rfl rfl rfl rfl
 have q5:rd (fun _=>True) w a5 [c5]:=r5
 obtain⟨v5_0,e5,s5_0⟩:=q5
 simp only [List.cons.injEq,and_true] at e5
 obtain rfl:=e5
 exact⟨⟨a0,a1,a2,a3,a4,a5⟩,_,_,_,rfl,h0_0,h1_0,s2_0,s4_0,s5_0⟩
theorem k1S:Opens Tryz.prog 23 (List Rule):=Opens.slice (by kernel_rfl) Tryz.underlying23 k1R
theorem k1T:Opens Tryz.prog 25 Grammar:=by
 refine Opens.struct (k:=2) (by kernel_rfl) rfl Tryz.underlying25 fun H enc w base spare held n cs xs hl hx hf=>?_
 obtain⟨c0,t0,rfl,hl0⟩:=lenS hl
 obtain⟨c1,t1,rfl,hl1⟩:=lenS hl0
 obtain rfl:=len0 hl1
 obtain⟨a0,r0⟩:=Opens.fld (i:=0) (t:=22) (off:=0) (k:=1) k1O hf hx rfl rfl rfl rfl
 have q0:rd (fun _=>True) w a0 [c0]:=r0
 obtain⟨v0_0,e0,s0_0⟩:=q0
 simp only [List.cons.injEq,and_true] at e0
 obtain rfl:=e0
 obtain⟨a1,r1⟩:=Opens.fld (i:=1) (t:=23) (off:=1) (k:=1) k1S hf hx rfl rfl rfl rfl
 have q1:rd (fun _=>True) w a1 [c1]:=r1
 obtain⟨v1_0,e1,s1_0⟩:=q1
 simp only [List.cons.injEq,and_true] at e1
 obtain rfl:=e1
 exact⟨⟨a0,a1⟩,_,_,rfl,s0_0,s1_0⟩
theorem k1U:Opens Tryz.prog 85 Phase:=by
 refine Opens.struct (k:=2) (by kernel_rfl) rfl Tryz.underlying85 fun H enc w base spare held n cs xs hl hx hf=>?_
 obtain⟨c0,t0,rfl,hl0⟩:=lenS hl
 obtain⟨c1,t1,rfl,hl1⟩:=lenS hl0
 obtain rfl:=len0 hl1
 obtain⟨a0,r0⟩:=Opens.fld (i:=0) (t:=58) (off:=0) (k:=1) j7L hf hx rfl rfl rfl rfl
 have q0:rd (fun _=>True) w a0 [c0]:=r0
 obtain⟨v0_0,e0,s0_0⟩:=q0
 simp only [List.cons.injEq,and_true] at e0
 obtain rfl:=e0
 obtain⟨a1,r1⟩:=Opens.fld (i:=1) (t:=58) (off:=1) (k:=1) j7L hf hx rfl rfl rfl rfl
 have q1:rd (fun _=>True) w a1 [c1]:=r1
 obtain⟨v1_0,e1,s1_0⟩:=q1
 simp only [List.cons.injEq,and_true] at e1
 obtain rfl:=e1
 exact⟨⟨a0,a1⟩,_,_,rfl,s0_0,s1_0⟩
theorem k1V:Opens Tryz.prog 48 (List Phase):=Opens.slice (by kernel_rfl) Tryz.underlying48 k1U
theorem k1W:Opens Tryz.prog 26 (List (List Phase)):=Opens.slice (by kernel_rfl) Tryz.underlying26 k1V
theorem k1d:Opens Tryz.prog 130 Step:=by
 refine Opens.struct (k:=4) (by kernel_rfl) rfl Tryz.underlying130 fun H enc w base spare held n cs xs hl hx hf=>?_
 obtain⟨c0,t0,rfl,hl0⟩:=lenS hl
 obtain⟨c1,t1,rfl,hl1⟩:=lenS hl0
 obtain⟨c2,t2,rfl,hl2⟩:=lenS hl1
 obtain⟨c3,t3,rfl,hl3⟩:=lenS hl2
 obtain rfl:=len0 hl3
 obtain⟨a0,r0⟩:=Opens.fld (i:=0) (t:=3) (off:=0) (k:=1) open3 hf hx rfl rfl rfl rfl
 have q0:rd (fun _=>True) w a0 [c0]:=r0
 obtain⟨e0,h0_0⟩:=q0
 simp only [List.cons.injEq,and_true] at e0
 obtain rfl:=e0
 obtain⟨a1,r1⟩:=Opens.fld (i:=1) (t:=3) (off:=1) (k:=1) open3 hf hx rfl rfl rfl rfl
 have q1:rd (fun _=>True) w a1 [c1]:=r1
 obtain⟨e1,h1_0⟩:=q1
 simp only [List.cons.injEq,and_true] at e1
 obtain rfl:=e1
 obtain⟨a2,r2⟩:=Opens.fld (i:=2) (t:=3) (off:=2) (k:=1) open3 hf hx rfl rfl rfl rfl
 have q2:rd (fun _=>True) w a2 [c2]:=r2
 obtain⟨e2,h2_0⟩:=q2
 simp only [List.cons.injEq,and_true] at e2
 obtain rfl:=e2
 obtain⟨a3,r3⟩:=Opens.fld (i:=3) (t:=9) (off:=3) (k:=1) open9 hf hx rfl rfl rfl rfl
 have q3:rd (fun _=>True) w a3 [c3]:=r3
 obtain⟨e3,h3_0⟩:=q3
 simp only [List.cons.injEq,and_true] at e3
 obtain rfl:=e3
 exact⟨⟨a0,a1,a2,a3⟩,rfl,h0_0,h1_0,h2_0,h3_0⟩
theorem k1X:Opens Tryz.prog 50 (List Step):=Opens.slice (by kernel_rfl) Tryz.underlying50 k1d
theorem k1Y:Opens Tryz.prog 52 RulePlan:=by
 refine Opens.struct (k:=2) (by kernel_rfl) rfl Tryz.underlying52 fun H enc w base spare held n cs xs hl hx hf=>?_
 obtain⟨c0,t0,rfl,hl0⟩:=lenS hl
 obtain⟨c1,t1,rfl,hl1⟩:=lenS hl0
 obtain rfl:=len0 hl1
 obtain⟨a0,r0⟩:=Opens.fld (i:=0) (t:=9) (off:=0) (k:=1) open9 hf hx rfl rfl rfl rfl
 have q0:rd (fun _=>True) w a0 [c0]:=r0
 obtain⟨e0,h0_0⟩:=q0
 simp only [List.cons.injEq,and_true] at e0
 obtain rfl:=e0
 obtain⟨a1,r1⟩:=Opens.fld (i:=1) (t:=50) (off:=1) (k:=1) k1X hf hx rfl rfl rfl rfl
 have q1:rd (fun _=>True) w a1 [c1]:=r1
 obtain⟨v1_0,e1,s1_0⟩:=q1
 simp only [List.cons.injEq,and_true] at e1
 obtain rfl:=e1
 exact⟨⟨a0,a1⟩,_,rfl,h0_0,s1_0⟩
theorem k1Z:Opens Tryz.prog 27 (List RulePlan):=Opens.slice (by kernel_rfl) Tryz.underlying27 k1Y
theorem z4V (W:World)(a0:Grammar){c0:List Value}(h0:rd (fun _=>True) W a0 c0)(a1:(List (List Phase))){z1:Value}(h1:rdS (fun _=>True) W a1 z1)(a2:(List RulePlan)){z2:Value}(h2:rdS (fun _=>True) W a2 z2):Ret Tryz.prog 3 #[.agg c0.toArray,z1,z2] W (fun _=>False) fun v w=>v = .bool true:=
 z4U (j7K h0 h1 h2 fun a b c=>j5L a b c) h0 h1 h2
section
open Go.ChangeShapes Go.WideShapes Go.ChangeAt Go.RowKit
theorem j9C:ownKnob Tryz.prog.godebug=none:=by kernel_rfl
theorem j1K:laidOutB Tryz.prog=true:=by kernel_rfl
set_option maxRecDepth 100000 in
theorem z3i (os:Os)(started:os.Started)(H:Type)(enc:TypeId × Value→H) :
  ReturnsInHanded {} Tryz.checked os 3 .any (Rows.fnExactCheckPlanSpec.pre6 enc Tryz.prog Tryz.f3 Rows.fnExactCheckPlanRow.domain false) (Rows.fnExactCheckPlanSpec.post enc Tryz.prog Tryz.f3 false true false false):=by
 refine returnsInHanded_of_change (C:=Tryz.checked) j9C started (by kernel_rfl) Tryz.func3
  (ChangeSpec.witness6 (enc:=enc) (C:=Tryz.checked) false ⟨#[],#[.agg #[.slice none 0 0,.slice none 0 0],.slice none 0 0,.slice none 0 0],[]⟩ 8 (by kernel_rfl) (by kernel_rfl) (by kernel_rfl) (by kernel_rfl)) ?_
 intro W base args ds gs before hval0 hW hcnd _
 have hval:∀ (j:Nat) t v,Tryz.f3.params[j]? = some t→args[j]? = some v→Value.okWide Tryz.prog W .any base t v:=hval0
 have hW':=hW
 obtain⟨p,q,hA0,hV,rfl,hfz,hnd⟩:=hW
 have hA:DataW.TrodAll enc Tryz.prog W 0 (fun _=>true) true Tryz.f3.params.toList args.toList ds p:=hA0
 rw [Tryz.params3] at hA hval
 obtain⟨v0,vs0,d0,ds0,p0,q0,hargs,rfl,rfl,t0,r0⟩:=trodAll_cons hA
 obtain⟨v1,vs1,d1,ds1,p1,q1,rfl,rfl,rfl,t1,r1⟩:=trodAll_cons r0
 obtain⟨v2,vs2,d2,ds2,p2,q2,rfl,rfl,rfl,t2,r2⟩:=trodAll_cons r1
 obtain⟨rfl,rfl,rfl⟩:=trodAll_nil r2
 obtain rfl:args=#[v0,v1,v2]:=by cases args; simp_all
 obtain⟨rfl,rfl⟩:=trodVars_none hV
 have k0:=t0
 have lt0:∀ x∈p0,x.block < W.heap.size:=by obtain⟨m,hm⟩:=k0; exact DataW.trod_lt m _ _ _ hm
 obtain⟨m0,hm0⟩:=t0
 obtain⟨a0,ha0⟩:=k1T.2 _ _ _ _ _ _ _ _ _ hm0
 obtain⟨⟨c0⟩,rfl,_⟩:=okWide_struct Tryz.underlying25 (hval 0 25 v0 rfl rfl)
 have k1:=t1
 have lt1:∀ x∈p1,x.block < W.heap.size:=by obtain⟨m,hm⟩:=k1; exact DataW.trod_lt m _ _ _ hm
 obtain⟨m1,hm1⟩:=t1
 obtain⟨a1,ha1⟩:=k1W.2 _ _ _ _ _ _ _ _ _ hm1
 obtain⟨x1,l1,c1,rfl⟩:=okWide_slice Tryz.underlying26 (hval 1 26 v1 rfl rfl)
 obtain⟨z1,e1,ha1⟩:=ha1
 obtain rfl:Value.slice x1 l1 c1=z1:=by injection e1
 have k2:=t2
 have lt2:∀ x∈p2,x.block < W.heap.size:=by obtain⟨m,hm⟩:=k2; exact DataW.trod_lt m _ _ _ hm
 obtain⟨m2,hm2⟩:=t2
 obtain⟨a2,ha2⟩:=k1Z.2 _ _ _ _ _ _ _ _ _ hm2
 obtain⟨x2,l2,c2,rfl⟩:=okWide_slice Tryz.underlying27 (hval 2 27 v2 rfl rfl)
 obtain⟨z2,e2,ha2⟩:=ha2
 obtain rfl:Value.slice x2 l2 c2=z2:=by injection e2
 clear hA0 hval0
 refine Calls.mono (z4V W a0 ha0 a1 ha1 a2 ha2) fun e W' ⟨v,he,hch,hv⟩=>?_
 subst he; subst hv
 have bel:=Ext.below hch
 exact⟨_,rfl,_,_,_,[],_,[],hW',trodAll_mk1 (shut_bool Tryz.underlying4 _),(trodAll_cons_mk (Below.trod j1K (by kernel_rfl) (of_decide_eq_true (by kernel_rfl)) k0 bel lt0) (trodAll_cons_mk (Below.trod j1K (by kernel_rfl) (of_decide_eq_true (by kernel_rfl)) k1 bel lt1) (trodAll_cons_mk (Below.trod j1K (by kernel_rfl) (of_decide_eq_true (by kernel_rfl)) k2 bel lt2) trodAll_mk0))),rfl,bel.frame _,fun h=>by cases h⟩
theorem fnExactCheckPlan_holds:Rows.FnExactCheckPlanSaid:=
 OpenClaim.holds_of_wide 3 Tryz.f3 rfl rfl rfl rfl rfl rfl rfl ⟨rfl,rfl,rfl,rfl,rfl⟩ rfl rfl rfl rfl rfl (by kernel_rfl) Tryz.func3 (by kernel_rfl)
  (of_decide_eq_true (by kernel_rfl)) (by unfold Func.isWrapper; first | (rw [if_pos (by decide +kernel)]; kernel_rfl) | (rw [if_neg (by decide +kernel)]; exact⟨rfl,rfl⟩))
  (fun os started H enc _=>z3i os started H enc)
end
end Go.Proofs.YteefempppabmkacGreat
