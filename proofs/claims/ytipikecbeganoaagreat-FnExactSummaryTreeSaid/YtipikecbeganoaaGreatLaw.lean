/- The laws FnExactCircularTree and FnExactSummaryTree return true for all arguments and leave them as they were; there is no condition. -/
import Derived.Test.YtipikecbeganoaaGreatMath8
import Derived.Test.YtipikecbeganoaaGreatFacts2
import Derived.Test.YtipikecbeganoaaGreatLaws2
import Derived.Test.YtipikecbeganoaaGreatRows
set_option linter.unusedVariables false
set_option linter.unusedSimpArgs false
set_option linter.ambiguousOpen false
set_option linter.unusedSectionVars false
set_option linter.unnecessarySimpa false
set_option maxRecDepth 100000
set_option maxHeartbeats 1000000
namespace Go.Proofs.YtipikecbeganoaaGreat
open Go Go.E Go.A
theorem op9 {N:Nat}:OpD Tryz.prog 9 1 (fun n:ByteArray=>[A.D.s n]) N:=.str (by kernel_rfl) Tryz.underlying9
theorem op3 {N:Nat}:OpD Tryz.prog 3 1 (fun n:Int=>[A.D.i .i64 n]) N:=.int (by kernel_rfl) Tryz.underlying3
theorem op4 {N:Nat}:OpD Tryz.prog 4 1 (fun n:Bool=>[A.D.b n]) N:=.bool (by kernel_rfl) Tryz.underlying4
theorem x0A {N:Nat}:OpD Tryz.prog 185 4 At_.l N:=.structN (fun N=>(.cons op9 (.cons op3 (.cons op3 (.cons op4 .nil))))) (fun c=>⟨c.1,c.2.1,c.2.2.1,c.2.2.2.1⟩) (by kernel_rfl) (by decide) Tryz.underlying185 fun _=>rfl
theorem op98 {N:Nat}:OpD Tryz.prog 98 1 (fun n:(List At_)=>[A.D.sl 4 (n.map At_.D)]) N:=.slice x0A (by kernel_rfl) Tryz.underlying98 fun _=>rfl
theorem x0B {N:Nat}:OpD Tryz.prog 100 2 Symbol.l N:=.structN (fun N=>(.cons op9 (.cons op98 .nil))) (fun c=>⟨c.1,c.2.1⟩) (by kernel_rfl) (by decide) Tryz.underlying100 fun _=>rfl
theorem op22 {N:Nat}:OpD Tryz.prog 22 1 (fun n:(List Symbol)=>[A.D.sl 2 (n.map Symbol.D)]) N:=.slice x0B (by kernel_rfl) Tryz.underlying22 fun _=>rfl
theorem op64 {N:Nat}:OpD Tryz.prog 64 1 (fun n:(List ByteArray)=>[A.D.sl 1 (n.map A.D.s)]) N:=.slice op9 (by kernel_rfl) Tryz.underlying64 fun _=>rfl
theorem x0C {N:Nat}:OpD Tryz.prog 187 2 Oc.l N:=.structN (fun N=>(.cons op3 (.cons op9 .nil))) (fun c=>⟨c.1,c.2.1⟩) (by kernel_rfl) (by decide) Tryz.underlying187 fun _=>rfl
theorem k7I:∀ N,OpD Tryz.prog 190 7 Expr.l N
 | 0=>.zero (by kernel_rfl) (by decide)
 | N+1=>.struct (.cons op3 (.cons op3 (.cons op3 (.cons op3 (.cons op9 (.cons op9 (.cons (.slice (k7I N) (by kernel_rfl) Tryz.underlying188 Expr.D_cells) .nil))))))) (fun c=>⟨c.1,c.2.1,c.2.2.1,c.2.2.2.1,c.2.2.2.2.1,c.2.2.2.2.2.1,c.2.2.2.2.2.2.1⟩) (by kernel_rfl) (by decide) Tryz.underlying190 fun _=>rfl
theorem k9r {N:Nat}:OpD Tryz.prog 190 7 Expr.l N:=k7I N
theorem x0D {N:Nat}:OpD Tryz.prog 192 9 Eqn.l N:=.structN (fun N=>(.cons x0C (.cons k9r .nil))) (fun c=>⟨c.1,c.2.1⟩) (by kernel_rfl) (by decide) Tryz.underlying192 fun _=>rfl
theorem x0E {N:Nat}:OpD Tryz.prog 102 1 (fun n:(List Eqn)=>[A.D.sl 9 (n.map Eqn.D)]) N:=.slice x0D (by kernel_rfl) Tryz.underlying102 fun _=>rfl
theorem x0F {N:Nat}:OpD Tryz.prog 195 16 Cn.l N:=.structN (fun N=>(.cons op9 (.cons op9 (.cons k9r (.cons k9r .nil))))) (fun c=>⟨c.1,c.2.1,c.2.2.1,c.2.2.2.1⟩) (by kernel_rfl) (by decide) Tryz.underlying195 fun _=>rfl
theorem x0G {N:Nat}:OpD Tryz.prog 103 1 (fun n:(List Cn)=>[A.D.sl 16 (n.map Cn.D)]) N:=.slice x0F (by kernel_rfl) Tryz.underlying103 fun _=>rfl
theorem x0H {N:Nat}:OpD Tryz.prog 105 6 Rule.l N:=.structN (fun N=>(.cons op9 (.cons op9 (.cons op64 (.cons op4 (.cons x0E (.cons x0G .nil))))))) (fun c=>⟨c.1,c.2.1,c.2.2.1,c.2.2.2.1,c.2.2.2.2.1,c.2.2.2.2.2.1⟩) (by kernel_rfl) (by decide) Tryz.underlying105 fun _=>rfl
theorem op23 {N:Nat}:OpD Tryz.prog 23 1 (fun n:(List Rule)=>[A.D.sl 6 (n.map Rule.D)]) N:=.slice x0H (by kernel_rfl) Tryz.underlying23 fun _=>rfl
theorem op25 {N:Nat}:OpD Tryz.prog 25 2 Gm_.l N:=.structN (fun N=>(.cons op22 (.cons op23 .nil))) (fun c=>⟨c.1,c.2.1⟩) (by kernel_rfl) (by decide) Tryz.underlying25 fun _=>rfl
theorem op26 {N:Nat}:OpD Tryz.prog 26 1 (fun n:(List Int)=>[A.D.sl 1 (n.map (A.D.i .i64))]) N:=.slice op3 (by kernel_rfl) Tryz.underlying26 fun _=>rfl
theorem op28 {N:Nat}:OpD Tryz.prog 28 2 Rl_.l N:=.structN (fun N=>(.cons op3 (.cons op26 .nil))) (fun c=>⟨c.1,c.2.1⟩) (by kernel_rfl) (by decide) Tryz.underlying28 fun _=>rfl
theorem z6j (W:World)(a0:Gm_){z0:List Value}(h0:rdCs (fun b=>b<W.heap.size) W (Gm_.l a0) z0)(a1:ByteArray){z1:Value}(h1:rdCs (fun b=>b<W.heap.size) W ((fun n:ByteArray=>[A.D.s n]) a1) [z1])(a2:Rl_){z2:List Value}(h2:rdCs (fun b=>b<W.heap.size) W (Rl_.l a2) z2):Ret Tryz.prog 3 #[.agg z0.toArray,z1,.agg z2.toArray] W (fun _=>False) fun v w=>v=.bool true:=
 Ok.lawD (j1K (k7Y (m:=.fz) h0) (j1K (vr_1 (m:=.fz) h1) (j1K (k7Y (m:=.fz) h2) (by rw[vrs])))) rfl (z6e (m:=.fz) (k0h h0.bd h1.bd h2.bd))
section
open Go.ChangeShapes Go.WideShapes Go.ChangeAt Go.RowKit
theorem k1x:ownKnob Tryz.prog.godebug=none:=by kernel_rfl
theorem j1S:laidOutB Tryz.prog=true:=by kernel_rfl
set_option maxRecDepth 100000 in
theorem z4F (os:Os)(started:os.Started)(H:Type)(enc:TypeId×Value→H) :
  ReturnsInHanded {} Tryz.checked os 3 .any (Rows.fnExactSummaryTreeSpec.pre6 enc Tryz.prog Tryz.f3 Rows.fnExactSummaryTreeRow.domain false) (Rows.fnExactSummaryTreeSpec.post enc Tryz.prog Tryz.f3 false true false false):=by
 refine returnsInHanded_of_change (C:=Tryz.checked) k1x started (by kernel_rfl) Tryz.func3
  (ChangeSpec.witness6 (enc:=enc) (C:=Tryz.checked) false ⟨#[],#[.agg #[.slice none 0 0,.slice none 0 0],.string ⟨#[]⟩,.agg #[.int .i64 0,.slice none 0 0]],[]⟩ 8 (by kernel_rfl) (by kernel_rfl) (by kernel_rfl) (by kernel_rfl)) ?_
 intro W base args ds gs before hval0 hW hcnd _
 have hval:∀ (j:Nat) t v,Tryz.f3.params[j]?=some t→args[j]?=some v→Value.okWide Tryz.prog W .any base t v:=hval0
 have hW':=hW
 obtain⟨p,q,hA0,hV,rfl,hfz,hnd⟩:=hW
 have hA:DataW.TrodAll enc Tryz.prog W 0 (fun _=>true) true Tryz.f3.params.toList args.toList ds p:=hA0
 rw[Tryz.params3] at hA hval
 obtain⟨v0,vs0,d0,ds0,p0,q0,hargs,rfl,rfl,t0,r0⟩:=trodAll_cons hA
 obtain⟨v1,vs1,d1,ds1,p1,q1,rfl,rfl,rfl,t1,r1⟩:=trodAll_cons r0
 obtain⟨v2,vs2,d2,ds2,p2,q2,rfl,rfl,rfl,t2,r2⟩:=trodAll_cons r1
 obtain⟨rfl,rfl,rfl⟩:=trodAll_nil r2
 obtain rfl:args=#[v0,v1,v2]:=by cases args;simp_all
 obtain⟨rfl,rfl⟩:=trodVars_none hV
 have k0:=t0
 have lt0:∀ x∈p0,x.block<W.heap.size:=by obtain⟨m,hm⟩:=k0;exact DataW.trod_lt m _ _ _ hm
 obtain⟨m0,hm0⟩:=t0
 obtain⟨a0,ha0⟩:=OpD.get (fun _=>op25) hm0
 obtain⟨⟨c0⟩,rfl,_⟩:=okWide_struct Tryz.underlying25 (hval 0 25 v0 rfl rfl)
 have k1:=t1
 have lt1:∀ x∈p1,x.block<W.heap.size:=by obtain⟨m,hm⟩:=k1;exact DataW.trod_lt m _ _ _ hm
 obtain⟨m1,hm1⟩:=t1
 obtain⟨a1,ha1⟩:=OpD.get (fun _=>op9) hm1
 obtain⟨y1,rfl⟩:=okWide_string Tryz.underlying9 (hval 1 9 v1 rfl rfl)
 have k2:=t2
 have lt2:∀ x∈p2,x.block<W.heap.size:=by obtain⟨m,hm⟩:=k2;exact DataW.trod_lt m _ _ _ hm
 obtain⟨m2,hm2⟩:=t2
 obtain⟨a2,ha2⟩:=OpD.get (fun _=>op28) hm2
 obtain⟨⟨c2⟩,rfl,_⟩:=okWide_struct Tryz.underlying28 (hval 2 28 v2 rfl rfl)
 clear hA0 hval0
 refine Calls.mono (z6j W a0 ha0 a1 ha1 a2 ha2) fun e W' ⟨v,he,hch,hv⟩=>?_
 subst he;subst hv
 have bel:=Ext.below hch
 exact⟨_,rfl,_,_,_,[],_,[],hW',trodAll_mk1 (shut_bool Tryz.underlying4 _),(trodAll_cons_mk (Below.trod j1S (by kernel_rfl) (of_decide_eq_true (by kernel_rfl)) k0 bel lt0) (trodAll_cons_mk (Below.trod j1S (by kernel_rfl) (of_decide_eq_true (by kernel_rfl)) k1 bel lt1) (trodAll_cons_mk (Below.trod j1S (by kernel_rfl) (of_decide_eq_true (by kernel_rfl)) k2 bel lt2) trodAll_mk0))),rfl,bel.frame _,fun h=>by cases h⟩
theorem fnExactSummaryTree_holds:Rows.FnExactSummaryTreeSaid:=
 OpenClaim.holds_of_wide 3 Tryz.f3 rfl rfl rfl rfl rfl rfl rfl ⟨rfl,rfl,rfl,rfl,rfl⟩ rfl rfl rfl rfl rfl z6i Tryz.func3 z7r z7s z7t
  (fun os started H enc _=>z4F os started H enc)
end
end Go.Proofs.YtipikecbeganoaaGreat
