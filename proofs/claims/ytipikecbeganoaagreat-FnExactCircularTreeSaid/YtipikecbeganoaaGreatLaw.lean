/- The laws FnExactCircularTree and FnExactSummaryTree return true for all arguments and leave them as they were; there is no condition. -/
import Derived.Test.YtipikecbeganoaaGreatMath8
import Derived.Test.YtipikecbeganoaaGreatFacts1
import Derived.Test.YtipikecbeganoaaGreatLaws2
import Derived.Test.YtipikecbeganoaaGreatRows
set_option linter.unusedVariables false
set_option linter.unusedSimpArgs false
set_option linter.ambiguousOpen false
set_option linter.unusedSectionVars false
set_option linter.unnecessarySimpa false
set_option maxRecDepth 100000
set_option maxHeartbeats 1000000
namespace Go.Proofs.YtipikecbeganoaaGreat
open Go Go.E Go.A
theorem op9 {N:Nat}:OpD Tryz.prog 9 1 (fun n:ByteArray=>[A.D.s n]) N:=.str (by kernel_rfl) Tryz.underlying9
theorem op3 {N:Nat}:OpD Tryz.prog 3 1 (fun n:Int=>[A.D.i .i64 n]) N:=.int (by kernel_rfl) Tryz.underlying3
theorem op4 {N:Nat}:OpD Tryz.prog 4 1 (fun n:Bool=>[A.D.b n]) N:=.bool (by kernel_rfl) Tryz.underlying4
theorem x0A {N:Nat}:OpD Tryz.prog 185 4 At_.l N:=.structN (fun N=>(.cons op9 (.cons op3 (.cons op3 (.cons op4 .nil))))) (fun c=>⟨c.1,c.2.1,c.2.2.1,c.2.2.2.1⟩) (by kernel_rfl) (by decide) Tryz.underlying185 fun _=>rfl
theorem op98 {N:Nat}:OpD Tryz.prog 98 1 (fun n:(List At_)=>[A.D.sl 4 (n.map At_.D)]) N:=.slice x0A (by kernel_rfl) Tryz.underlying98 fun _=>rfl
theorem x0B {N:Nat}:OpD Tryz.prog 100 2 Symbol.l N:=.structN (fun N=>(.cons op9 (.cons op98 .nil))) (fun c=>⟨c.1,c.2.1⟩) (by kernel_rfl) (by decide) Tryz.underlying100 fun _=>rfl
theorem op22 {N:Nat}:OpD Tryz.prog 22 1 (fun n:(List Symbol)=>[A.D.sl 2 (n.map Symbol.D)]) N:=.slice x0B (by kernel_rfl) Tryz.underlying22 fun _=>rfl
theorem op64 {N:Nat}:OpD Tryz.prog 64 1 (fun n:(List ByteArray)=>[A.D.sl 1 (n.map A.D.s)]) N:=.slice op9 (by kernel_rfl) Tryz.underlying64 fun _=>rfl
theorem x0C {N:Nat}:OpD Tryz.prog 187 2 Oc.l N:=.structN (fun N=>(.cons op3 (.cons op9 .nil))) (fun c=>⟨c.1,c.2.1⟩) (by kernel_rfl) (by decide) Tryz.underlying187 fun _=>rfl
theorem k7I:∀ N,OpD Tryz.prog 190 7 Expr.l N
 | 0=>.zero (by kernel_rfl) (by decide)
 | N+1=>.struct (.cons op3 (.cons op3 (.cons op3 (.cons op3 (.cons op9 (.cons op9 (.cons (.slice (k7I N) (by kernel_rfl) Tryz.underlying188 Expr.D_cells) .nil))))))) (fun c=>⟨c.1,c.2.1,c.2.2.1,c.2.2.2.1,c.2.2.2.2.1,c.2.2.2.2.2.1,c.2.2.2.2.2.2.1⟩) (by kernel_rfl) (by decide) Tryz.underlying190 fun _=>rfl
theorem k9r {N:Nat}:OpD Tryz.prog 190 7 Expr.l N:=k7I N
theorem x0D {N:Nat}:OpD Tryz.prog 192 9 Eqn.l N:=.structN (fun N=>(.cons x0C (.cons k9r .nil))) (fun c=>⟨c.1,c.2.1⟩) (by kernel_rfl) (by decide) Tryz.underlying192 fun _=>rfl
theorem x0E {N:Nat}:OpD Tryz.prog 102 1 (fun n:(List Eqn)=>[A.D.sl 9 (n.map Eqn.D)]) N:=.slice x0D (by kernel_rfl) Tryz.underlying102 fun _=>rfl
theorem x0F {N:Nat}:OpD Tryz.prog 195 16 Cn.l N:=.structN (fun N=>(.cons op9 (.cons op9 (.cons k9r (.cons k9r .nil))))) (fun c=>⟨c.1,c.2.1,c.2.2.1,c.2.2.2.1⟩) (by kernel_rfl) (by decide) Tryz.underlying195 fun _=>rfl
theorem x0G {N:Nat}:OpD Tryz.prog 103 1 (fun n:(List Cn)=>[A.D.sl 16 (n.map Cn.D)]) N:=.slice x0F (by kernel_rfl) Tryz.underlying103 fun _=>rfl
theorem x0H {N:Nat}:OpD Tryz.prog 105 6 Rule.l N:=.structN (fun N=>(.cons op9 (.cons op9 (.cons op64 (.cons op4 (.cons x0E (.cons x0G .nil))))))) (fun c=>⟨c.1,c.2.1,c.2.2.1,c.2.2.2.1,c.2.2.2.2.1,c.2.2.2.2.2.1⟩) (by kernel_rfl) (by decide) Tryz.underlying105 fun _=>rfl
theorem op23 {N:Nat}:OpD Tryz.prog 23 1 (fun n:(List Rule)=>[A.D.sl 6 (n.map Rule.D)]) N:=.slice x0H (by kernel_rfl) Tryz.underlying23 fun _=>rfl
theorem op25 {N:Nat}:OpD Tryz.prog 25 2 Gm_.l N:=.structN (fun N=>(.cons op22 (.cons op23 .nil))) (fun c=>⟨c.1,c.2.1⟩) (by kernel_rfl) (by decide) Tryz.underlying25 fun _=>rfl
theorem z5Q (W:World)(a0:Gm_){z0:List Value}(h0:rdCs (fun b=>b<W.heap.size) W (Gm_.l a0) z0):Ret Tryz.prog 4 #[.agg z0.toArray] W (fun _=>False) fun v w=>v=.bool true:=
 Ok.lawD (j1K (k7Y (m:=.fz) h0) (by rw[vrs])) rfl (z5K (m:=.fz) (j8x h0.bd))
section
open Go.ChangeShapes Go.WideShapes Go.ChangeAt Go.RowKit
theorem k1x:ownKnob Tryz.prog.godebug=none:=by kernel_rfl
theorem j1S:laidOutB Tryz.prog=true:=by kernel_rfl
set_option maxRecDepth 100000 in
theorem z3T (os:Os)(started:os.Started)(H:Type)(enc:TypeId×Value→H) :
  ReturnsInHanded {} Tryz.checked os 4 .any (Rows.fnExactCircularTreeSpec.pre6 enc Tryz.prog Tryz.f4 Rows.fnExactCircularTreeRow.domain false) (Rows.fnExactCircularTreeSpec.post enc Tryz.prog Tryz.f4 false true false false):=by
 refine returnsInHanded_of_change (C:=Tryz.checked) k1x started (by kernel_rfl) Tryz.func4
  (ChangeSpec.witness6 (enc:=enc) (C:=Tryz.checked) false ⟨#[],#[.agg #[.slice none 0 0,.slice none 0 0]],[]⟩ 8 (by kernel_rfl) (by kernel_rfl) (by kernel_rfl) (by kernel_rfl)) ?_
 intro W base args ds gs before hval0 hW hcnd _
 have hval:∀ (j:Nat) t v,Tryz.f4.params[j]?=some t→args[j]?=some v→Value.okWide Tryz.prog W .any base t v:=hval0
 have hW':=hW
 obtain⟨p,q,hA0,hV,rfl,hfz,hnd⟩:=hW
 have hA:DataW.TrodAll enc Tryz.prog W 0 (fun _=>true) true Tryz.f4.params.toList args.toList ds p:=hA0
 rw[Tryz.params4] at hA hval
 obtain⟨v0,vs0,d0,ds0,p0,q0,hargs,rfl,rfl,t0,r0⟩:=trodAll_cons hA
 obtain⟨rfl,rfl,rfl⟩:=trodAll_nil r0
 obtain rfl:args=#[v0]:=by cases args;simp_all
 obtain⟨rfl,rfl⟩:=trodVars_none hV
 have k0:=t0
 have lt0:∀ x∈p0,x.block<W.heap.size:=by obtain⟨m,hm⟩:=k0;exact DataW.trod_lt m _ _ _ hm
 obtain⟨m0,hm0⟩:=t0
 obtain⟨a0,ha0⟩:=OpD.get (fun _=>op25) hm0
 obtain⟨⟨c0⟩,rfl,_⟩:=okWide_struct Tryz.underlying25 (hval 0 25 v0 rfl rfl)
 clear hA0 hval0
 refine Calls.mono (z5Q W a0 ha0) fun e W' ⟨v,he,hch,hv⟩=>?_
 subst he;subst hv
 have bel:=Ext.below hch
 exact⟨_,rfl,_,_,_,[],_,[],hW',trodAll_mk1 (shut_bool Tryz.underlying4 _),(trodAll_cons_mk (Below.trod j1S (by kernel_rfl) (of_decide_eq_true (by kernel_rfl)) k0 bel lt0) trodAll_mk0),rfl,bel.frame _,fun h=>by cases h⟩
theorem fnExactCircularTree_holds:Rows.FnExactCircularTreeSaid:=
 OpenClaim.holds_of_wide 4 Tryz.f4 rfl rfl rfl rfl rfl rfl rfl ⟨rfl,rfl,rfl,rfl,rfl⟩ rfl rfl rfl rfl rfl z5P Tryz.func4 z6f z6g z6h
  (fun os started H enc _=>z3T os started H enc)
end
end Go.Proofs.YtipikecbeganoaaGreat
