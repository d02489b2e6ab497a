/- The law FnExactRunSlots returns true for all arguments and leaves them as they were; there is no condition. -/
import Derived.Test.YtaholdflpgcndaaGreatMath2
import Derived.Test.YtaholdflpgcndaaGreatFacts
import Derived.Test.YtaholdflpgcndaaGreatLaws
import Derived.Test.YtaholdflpgcndaaGreatRows
set_option linter.unusedVariables false
set_option linter.unusedSimpArgs false
set_option linter.ambiguousOpen false
set_option linter.unusedSectionVars false
set_option linter.unnecessarySimpa false
set_option maxRecDepth 100000
set_option maxHeartbeats 1000000
namespace Go.Proofs.YtaholdflpgcndaaGreat
open Go Go.E Go.A
theorem op9 {N:Nat}:OpD Tryz.prog 9 1 (fun n:ByteArray=>[A.D.s n]) N:=.str (by kernel_rfl) Tryz.underlying9
theorem op3 {N:Nat}:OpD Tryz.prog 3 1 (fun n:Int=>[A.D.i .i64 n]) N:=.int (by kernel_rfl) Tryz.underlying3
theorem op4 {N:Nat}:OpD Tryz.prog 4 1 (fun n:Bool=>[A.D.b n]) N:=.bool (by kernel_rfl) Tryz.underlying4
theorem j7s {N:Nat}:OpD Tryz.prog 206 4 Attribute.l N:=.structN (fun N=>(.cons op9 (.cons op3 (.cons op3 (.cons op4 .nil))))) (fun c=>⟨c.1,c.2.1,c.2.2.1,c.2.2.2.1⟩) (by kernel_rfl) (by decide) Tryz.underlying206 fun _=>rfl
theorem j7t {N:Nat}:OpD Tryz.prog 114 1 (fun n:(List Attribute)=>[A.D.sl 4 (n.map Attribute.D)]) N:=.slice j7s (by kernel_rfl) Tryz.underlying114 fun _=>rfl
theorem j7u {N:Nat}:OpD Tryz.prog 116 2 Symbol.l N:=.structN (fun N=>(.cons op9 (.cons j7t .nil))) (fun c=>⟨c.1,c.2.1⟩) (by kernel_rfl) (by decide) Tryz.underlying116 fun _=>rfl
theorem op22 {N:Nat}:OpD Tryz.prog 22 1 (fun n:(List Symbol)=>[A.D.sl 2 (n.map Symbol.D)]) N:=.slice j7u (by kernel_rfl) Tryz.underlying22 fun _=>rfl
theorem j7v {N:Nat}:OpD Tryz.prog 118 1 (fun n:(List ByteArray)=>[A.D.sl 1 (n.map A.D.s)]) N:=.slice op9 (by kernel_rfl) Tryz.underlying118 fun _=>rfl
theorem j7w {N:Nat}:OpD Tryz.prog 208 2 Occurrence.l N:=.structN (fun N=>(.cons op3 (.cons op9 .nil))) (fun c=>⟨c.1,c.2.1⟩) (by kernel_rfl) (by decide) Tryz.underlying208 fun _=>rfl
theorem j5q:∀ N,OpD Tryz.prog 211 7 Expr.l N
 | 0=>.zero (by kernel_rfl) (by decide)
 | N+1=>.struct (.cons op3 (.cons op3 (.cons op3 (.cons op3 (.cons op9 (.cons op9 (.cons (.slice (j5q N) (by kernel_rfl) Tryz.underlying209 Expr.D_cells) .nil))))))) (fun c=>⟨c.1,c.2.1,c.2.2.1,c.2.2.2.1,c.2.2.2.2.1,c.2.2.2.2.2.1,c.2.2.2.2.2.2.1⟩) (by kernel_rfl) (by decide) Tryz.underlying211 fun _=>rfl
theorem j6z {N:Nat}:OpD Tryz.prog 211 7 Expr.l N:=j5q N
theorem j7x {N:Nat}:OpD Tryz.prog 213 9 Equation.l N:=.structN (fun N=>(.cons j7w (.cons j6z .nil))) (fun c=>⟨c.1,c.2.1⟩) (by kernel_rfl) (by decide) Tryz.underlying213 fun _=>rfl
theorem j7y {N:Nat}:OpD Tryz.prog 119 1 (fun n:(List Equation)=>[A.D.sl 9 (n.map Equation.D)]) N:=.slice j7x (by kernel_rfl) Tryz.underlying119 fun _=>rfl
theorem j7z {N:Nat}:OpD Tryz.prog 216 16 Contribution.l N:=.structN (fun N=>(.cons op9 (.cons op9 (.cons j6z (.cons j6z .nil))))) (fun c=>⟨c.1,c.2.1,c.2.2.1,c.2.2.2.1⟩) (by kernel_rfl) (by decide) Tryz.underlying216 fun _=>rfl
theorem j7A {N:Nat}:OpD Tryz.prog 120 1 (fun n:(List Contribution)=>[A.D.sl 16 (n.map Contribution.D)]) N:=.slice j7z (by kernel_rfl) Tryz.underlying120 fun _=>rfl
theorem j7B {N:Nat}:OpD Tryz.prog 122 6 Rule.l N:=.structN (fun N=>(.cons op9 (.cons op9 (.cons j7v (.cons op4 (.cons j7y (.cons j7A .nil))))))) (fun c=>⟨c.1,c.2.1,c.2.2.1,c.2.2.2.1,c.2.2.2.2.1,c.2.2.2.2.2.1⟩) (by kernel_rfl) (by decide) Tryz.underlying122 fun _=>rfl
theorem op23 {N:Nat}:OpD Tryz.prog 23 1 (fun n:(List Rule)=>[A.D.sl 6 (n.map Rule.D)]) N:=.slice j7B (by kernel_rfl) Tryz.underlying23 fun _=>rfl
theorem op25 {N:Nat}:OpD Tryz.prog 25 2 Grammar.l N:=.structN (fun N=>(.cons op22 (.cons op23 .nil))) (fun c=>⟨c.1,c.2.1⟩) (by kernel_rfl) (by decide) Tryz.underlying25 fun _=>rfl
theorem op30 {N:Nat}:OpD Tryz.prog 30 1 (fun n:(List Int)=>[A.D.sl 1 (n.map (A.D.i .i64))]) N:=.slice op3 (by kernel_rfl) Tryz.underlying30 fun _=>rfl
theorem j7C {N:Nat}:OpD Tryz.prog 124 6 Node.l N:=.structN (fun N=>(.cons op3 (.cons op3 (.cons op3 (.cons op3 (.cons op9 (.cons op30 .nil))))))) (fun c=>⟨c.1,c.2.1,c.2.2.1,c.2.2.2.1,c.2.2.2.2.1,c.2.2.2.2.2.1⟩) (by kernel_rfl) (by decide) Tryz.underlying124 fun _=>rfl
theorem op26 {N:Nat}:OpD Tryz.prog 26 1 (fun n:(List Node)=>[A.D.sl 6 (n.map Node.D)]) N:=.slice j7C (by kernel_rfl) Tryz.underlying26 fun _=>rfl
theorem op28 {N:Nat}:OpD Tryz.prog 28 1 Tree.l N:=.structN (fun N=>(.cons op26 .nil)) (fun c=>⟨c.1⟩) (by kernel_rfl) (by decide) Tryz.underlying28 fun _=>rfl
theorem op68 {N:Nat}:OpD Tryz.prog 68 2 Instance.l N:=.structN (fun N=>(.cons op3 (.cons op9 .nil))) (fun c=>⟨c.1,c.2.1⟩) (by kernel_rfl) (by decide) Tryz.underlying68 fun _=>rfl
theorem op31 {N:Nat}:OpD Tryz.prog 31 1 (fun n:(List Instance)=>[A.D.sl 2 (n.map Instance.D)]) N:=.slice op68 (by kernel_rfl) Tryz.underlying31 fun _=>rfl
theorem op70 {N:Nat}:OpD Tryz.prog 70 3 TraceStep.l N:=.structN (fun N=>(.cons op68 (.cons op31 .nil))) (fun c=>⟨c.1,c.2.1⟩) (by kernel_rfl) (by decide) Tryz.underlying70 fun _=>rfl
theorem op29 {N:Nat}:OpD Tryz.prog 29 1 (fun n:(List TraceStep)=>[A.D.sl 3 (n.map TraceStep.D)]) N:=.slice op70 (by kernel_rfl) Tryz.underlying29 fun _=>rfl
theorem z1H (W:World)(a0:Grammar){z0:List Value}(h0:rdCs (fun b=>b < W.heap.size) W (Grammar.l a0) z0)(a1:Tree){z1:List Value}(h1:rdCs (fun b=>b < W.heap.size) W (Tree.l a1) z1)(a2:(List TraceStep)){z2:Value}(h2:rdCs (fun b=>b < W.heap.size) W ((fun n:(List TraceStep)=>[A.D.sl 3 (n.map TraceStep.D)]) a2) [z2])(a3:(List Int)){z3:Value}(h3:rdCs (fun b=>b < W.heap.size) W ((fun n:(List Int)=>[A.D.sl 1 (n.map (A.D.i .i64))]) a3) [z3])(a4:(List Instance)){z4:Value}(h4:rdCs (fun b=>b < W.heap.size) W ((fun n:(List Instance)=>[A.D.sl 2 (n.map Instance.D)]) a4) [z4]):Ret Tryz.prog 3 #[.agg z0.toArray,.agg z1.toArray,z2,z3,z4] W (fun _=>False) fun v w=>v = .bool true:=
 Ok.lawD (z1V (j6P (m:=.fz) h0) (z1V (j6P (m:=.fz) h1) (z1V (vr_1 (m:=.fz) h2) (z1V (vr_1 (m:=.fz) h3) (z1V (vr_1 (m:=.fz) h4) (by rw [vrs])))))) rfl (z1F (m:=.fz) (z8Q h0.bd h1.bd h2.bd h3.bd h4.bd))
section
open Go.ChangeShapes Go.WideShapes Go.ChangeAt Go.RowKit
theorem j5b:ownKnob Tryz.prog.godebug=none:=by kernel_rfl
theorem z2F:laidOutB Tryz.prog=true:=by kernel_rfl
set_option maxRecDepth 100000 in
theorem z0l (os:Os)(started:os.Started)(H:Type)(enc:TypeId × Value→H) :
  ReturnsInHanded {} Tryz.checked os 3 .any (Rows.fnExactRunSlotsSpec.pre6 enc Tryz.prog Tryz.f3 Rows.fnExactRunSlotsRow.domain false) (Rows.fnExactRunSlotsSpec.post enc Tryz.prog Tryz.f3 false true false false):=by
 refine returnsInHanded_of_change (C:=Tryz.checked) j5b started (by kernel_rfl) Tryz.func3
  (ChangeSpec.witness6 (enc:=enc) (C:=Tryz.checked) false ⟨#[],#[.agg #[.slice none 0 0,.slice none 0 0],.agg #[.slice none 0 0],.slice none 0 0,.slice none 0 0,.slice none 0 0],[]⟩ 8 (by kernel_rfl) (by kernel_rfl) (by kernel_rfl) (by kernel_rfl)) ?_
 intro W base args ds gs before hval0 hW hcnd _
 have hval:∀ (j:Nat) t v,Tryz.f3.params[j]? = some t→args[j]? = some v→Value.okWide Tryz.prog W .any base t v:=hval0
 have hW':=hW
 obtain⟨p,q,hA0,hV,rfl,hfz,hnd⟩:=hW
 have hA:DataW.TrodAll enc Tryz.prog W 0 (fun _=>true) true Tryz.f3.params.toList args.toList ds p:=hA0
 rw [Tryz.params3] at hA hval
 obtain⟨v0,vs0,d0,ds0,p0,q0,hargs,rfl,rfl,t0,r0⟩:=trodAll_cons hA
 obtain⟨v1,vs1,d1,ds1,p1,q1,rfl,rfl,rfl,t1,r1⟩:=trodAll_cons r0
 obtain⟨v2,vs2,d2,ds2,p2,q2,rfl,rfl,rfl,t2,r2⟩:=trodAll_cons r1
 obtain⟨v3,vs3,d3,ds3,p3,q3,rfl,rfl,rfl,t3,r3⟩:=trodAll_cons r2
 obtain⟨v4,vs4,d4,ds4,p4,q4,rfl,rfl,rfl,t4,r4⟩:=trodAll_cons r3
 obtain⟨rfl,rfl,rfl⟩:=trodAll_nil r4
 obtain rfl:args=#[v0,v1,v2,v3,v4]:=by cases args; simp_all
 obtain⟨rfl,rfl⟩:=trodVars_none hV
 have k0:=t0
 have lt0:∀ x∈p0,x.block < W.heap.size:=by obtain⟨m,hm⟩:=k0; exact DataW.trod_lt m _ _ _ hm
 obtain⟨m0,hm0⟩:=t0
 obtain⟨a0,ha0⟩:=OpD.get (fun _=>op25) hm0
 obtain⟨⟨c0⟩,rfl,_⟩:=okWide_struct Tryz.underlying25 (hval 0 25 v0 rfl rfl)
 have k1:=t1
 have lt1:∀ x∈p1,x.block < W.heap.size:=by obtain⟨m,hm⟩:=k1; exact DataW.trod_lt m _ _ _ hm
 obtain⟨m1,hm1⟩:=t1
 obtain⟨a1,ha1⟩:=OpD.get (fun _=>op28) hm1
 obtain⟨⟨c1⟩,rfl,_⟩:=okWide_struct Tryz.underlying28 (hval 1 28 v1 rfl rfl)
 have k2:=t2
 have lt2:∀ x∈p2,x.block < W.heap.size:=by obtain⟨m,hm⟩:=k2; exact DataW.trod_lt m _ _ _ hm
 obtain⟨m2,hm2⟩:=t2
 obtain⟨a2,ha2⟩:=OpD.get (fun _=>op29) hm2
 obtain⟨x2,l2,c2,rfl⟩:=okWide_slice Tryz.underlying29 (hval 2 29 v2 rfl rfl)
 have k3:=t3
 have lt3:∀ x∈p3,x.block < W.heap.size:=by obtain⟨m,hm⟩:=k3; exact DataW.trod_lt m _ _ _ hm
 obtain⟨m3,hm3⟩:=t3
 obtain⟨a3,ha3⟩:=OpD.get (fun _=>op30) hm3
 obtain⟨x3,l3,c3,rfl⟩:=okWide_slice Tryz.underlying30 (hval 3 30 v3 rfl rfl)
 have k4:=t4
 have lt4:∀ x∈p4,x.block < W.heap.size:=by obtain⟨m,hm⟩:=k4; exact DataW.trod_lt m _ _ _ hm
 obtain⟨m4,hm4⟩:=t4
 obtain⟨a4,ha4⟩:=OpD.get (fun _=>op31) hm4
 obtain⟨x4,l4,c4,rfl⟩:=okWide_slice Tryz.underlying31 (hval 4 31 v4 rfl rfl)
 clear hA0 hval0
 refine Calls.mono (z1H W a0 ha0 a1 ha1 a2 ha2 a3 ha3 a4 ha4) fun e W' ⟨v,he,hch,hv⟩=>?_
 subst he; subst hv
 have bel:=Ext.below hch
 exact⟨_,rfl,_,_,_,[],_,[],hW',trodAll_mk1 (shut_bool Tryz.underlying4 _),(trodAll_cons_mk (Below.trod z2F (by kernel_rfl) (of_decide_eq_true (by kernel_rfl)) k0 bel lt0) (trodAll_cons_mk (Below.trod z2F (by kernel_rfl) (of_decide_eq_true (by kernel_rfl)) k1 bel lt1) (trodAll_cons_mk (Below.trod z2F (by kernel_rfl) (of_decide_eq_true (by kernel_rfl)) k2 bel lt2) (trodAll_cons_mk (Below.trod z2F (by kernel_rfl) (of_decide_eq_true (by kernel_rfl)) k3 bel lt3) (trodAll_cons_mk (Below.trod z2F (by kernel_rfl) (of_decide_eq_true (by kernel_rfl)) k4 bel lt4) trodAll_mk0))))),rfl,bel.frame _,fun h=>by cases h⟩
theorem fnExactRunSlots_holds:Rows.FnExactRunSlotsSaid:=
 OpenClaim.holds_of_wide 3 Tryz.f3 rfl rfl rfl rfl rfl rfl rfl ⟨rfl,rfl,rfl,rfl,rfl⟩ rfl rfl rfl rfl rfl z1G Tryz.func3 z2C z2D z2E
  (fun os started H enc _=>z0l os started H enc)
end
end Go.Proofs.YtaholdflpgcndaaGreat
