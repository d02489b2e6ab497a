/- The law FnExactBuildPlan returns true for all arguments and leaves them as they were; there is no condition. -/
import Derived.Test.YtcegfmageiicaaaGreatMath2
import Derived.Test.YtcegfmageiicaaaGreatFacts
import Derived.Test.YtcegfmageiicaaaGreatLaws
import Derived.Test.YtcegfmageiicaaaGreatRows
set_option linter.unusedVariables false
set_option linter.unusedSimpArgs false
set_option linter.ambiguousOpen false
set_option linter.unusedSectionVars false
set_option linter.unnecessarySimpa false
set_option maxRecDepth 100000
set_option maxHeartbeats 1000000
namespace Go.Proofs.YtcegfmageiicaaaGreat
open Go Go.E Go.A
theorem op9 {N:Nat}:OpD Tryz.prog 9 1 (fun n:ByteArray=>[A.D.s n]) N:=.str (by kernel_rfl) Tryz.underlying9
theorem op3 {N:Nat}:OpD Tryz.prog 3 1 (fun n:Int=>[A.D.i .i64 n]) N:=.int (by kernel_rfl) Tryz.underlying3
theorem op4 {N:Nat}:OpD Tryz.prog 4 1 (fun n:Bool=>[A.D.b n]) N:=.bool (by kernel_rfl) Tryz.underlying4
theorem x0Q {N:Nat}:OpD Tryz.prog 221 4 At_.l N:=.structN (fun N=>(.cons op9 (.cons op3 (.cons op3 (.cons op4 .nil))))) (fun c=>⟨c.1,c.2.1,c.2.2.1,c.2.2.2.1⟩) (by kernel_rfl) (by decide) Tryz.underlying221 fun _=>rfl
theorem x0R {N:Nat}:OpD Tryz.prog 106 1 (fun n:(List At_)=>[A.D.sl 4 (n.map At_.D)]) N:=.slice x0Q (by kernel_rfl) Tryz.underlying106 fun _=>rfl
theorem x0S {N:Nat}:OpD Tryz.prog 108 2 Symbol.l N:=.structN (fun N=>(.cons op9 (.cons x0R .nil))) (fun c=>⟨c.1,c.2.1⟩) (by kernel_rfl) (by decide) Tryz.underlying108 fun _=>rfl
theorem op22 {N:Nat}:OpD Tryz.prog 22 1 (fun n:(List Symbol)=>[A.D.sl 2 (n.map Symbol.D)]) N:=.slice x0S (by kernel_rfl) Tryz.underlying22 fun _=>rfl
theorem op27 {N:Nat}:OpD Tryz.prog 27 1 (fun n:(List ByteArray)=>[A.D.sl 1 (n.map A.D.s)]) N:=.slice op9 (by kernel_rfl) Tryz.underlying27 fun _=>rfl
theorem x0T {N:Nat}:OpD Tryz.prog 223 2 Oc.l N:=.structN (fun N=>(.cons op3 (.cons op9 .nil))) (fun c=>⟨c.1,c.2.1⟩) (by kernel_rfl) (by decide) Tryz.underlying223 fun _=>rfl
theorem k8l:∀ N,OpD Tryz.prog 226 7 Expr.l N
 | 0=>.zero (by kernel_rfl) (by decide)
 | N+1=>.struct (.cons op3 (.cons op3 (.cons op3 (.cons op3 (.cons op9 (.cons op9 (.cons (.slice (k8l N) (by kernel_rfl) Tryz.underlying224 Expr.D_cells) .nil))))))) (fun c=>⟨c.1,c.2.1,c.2.2.1,c.2.2.2.1,c.2.2.2.2.1,c.2.2.2.2.2.1,c.2.2.2.2.2.2.1⟩) (by kernel_rfl) (by decide) Tryz.underlying226 fun _=>rfl
theorem k9O {N:Nat}:OpD Tryz.prog 226 7 Expr.l N:=k8l N
theorem x0U {N:Nat}:OpD Tryz.prog 228 9 Eqn.l N:=.structN (fun N=>(.cons x0T (.cons k9O .nil))) (fun c=>⟨c.1,c.2.1⟩) (by kernel_rfl) (by decide) Tryz.underlying228 fun _=>rfl
theorem x0V {N:Nat}:OpD Tryz.prog 110 1 (fun n:(List Eqn)=>[A.D.sl 9 (n.map Eqn.D)]) N:=.slice x0U (by kernel_rfl) Tryz.underlying110 fun _=>rfl
theorem x0W {N:Nat}:OpD Tryz.prog 231 16 Cn.l N:=.structN (fun N=>(.cons op9 (.cons op9 (.cons k9O (.cons k9O .nil))))) (fun c=>⟨c.1,c.2.1,c.2.2.1,c.2.2.2.1⟩) (by kernel_rfl) (by decide) Tryz.underlying231 fun _=>rfl
theorem x0X {N:Nat}:OpD Tryz.prog 111 1 (fun n:(List Cn)=>[A.D.sl 16 (n.map Cn.D)]) N:=.slice x0W (by kernel_rfl) Tryz.underlying111 fun _=>rfl
theorem x0Y {N:Nat}:OpD Tryz.prog 113 6 Rule.l N:=.structN (fun N=>(.cons op9 (.cons op9 (.cons op27 (.cons op4 (.cons x0V (.cons x0X .nil))))))) (fun c=>⟨c.1,c.2.1,c.2.2.1,c.2.2.2.1,c.2.2.2.2.1,c.2.2.2.2.2.1⟩) (by kernel_rfl) (by decide) Tryz.underlying113 fun _=>rfl
theorem op23 {N:Nat}:OpD Tryz.prog 23 1 (fun n:(List Rule)=>[A.D.sl 6 (n.map Rule.D)]) N:=.slice x0Y (by kernel_rfl) Tryz.underlying23 fun _=>rfl
theorem op25 {N:Nat}:OpD Tryz.prog 25 2 Grammar.l N:=.structN (fun N=>(.cons op22 (.cons op23 .nil))) (fun c=>⟨c.1,c.2.1⟩) (by kernel_rfl) (by decide) Tryz.underlying25 fun _=>rfl
theorem z9d (W:World)(a0:Grammar){z0:List Value}(h0:rdCs (fun b=>b<W.heap.size) W (Grammar.l a0) z0):Ret Tryz.prog 7 #[.agg z0.toArray] W (fun _=>False) fun v w=>v=.bool true:=
 Ok.lawD (k6e (x0E (m:=.fz) h0) (by rw[vrs])) rfl (z9b (m:=.fz) (k7P h0.bd))
section
open Go.ChangeShapes Go.WideShapes Go.ChangeAt Go.RowKit
theorem k7Q:ownKnob Tryz.prog.godebug=none:=by kernel_rfl
theorem k7R:laidOutB Tryz.prog=true:=by kernel_rfl
set_option maxRecDepth 100000 in
theorem z7g (os:Os)(started:os.Started)(H:Type)(enc:TypeId×Value→H) :
  ReturnsInHanded {} Tryz.checked os 7 .any (Rows.fnExactBuildPlanSpec.pre6 enc Tryz.prog Tryz.f7 Rows.fnExactBuildPlanRow.domain false) (Rows.fnExactBuildPlanSpec.post enc Tryz.prog Tryz.f7 false true false false):=by
 refine returnsInHanded_of_change (C:=Tryz.checked) k7Q started (by kernel_rfl) Tryz.func7
  (ChangeSpec.witness6 (enc:=enc) (C:=Tryz.checked) false ⟨#[],#[.agg #[.slice none 0 0,.slice none 0 0]],[]⟩ 8 (by kernel_rfl) (by kernel_rfl) (by kernel_rfl) (by kernel_rfl)) ?_
 intro W base args ds gs before hval0 hW hcnd _
 have hval:∀ (j:Nat) t v,Tryz.f7.params[j]?=some t→args[j]?=some v→Value.okWide Tryz.prog W .any base t v:=hval0
 have hW':=hW
 obtain⟨p,q,hA0,hV,rfl,hfz,hnd⟩:=hW
 have hA:DataW.TrodAll enc Tryz.prog W 0 (fun _=>true) true Tryz.f7.params.toList args.toList ds p:=hA0
 rw[Tryz.params7] at hA hval
 obtain⟨v0,vs0,d0,ds0,p0,q0,hargs,rfl,rfl,t0,r0⟩:=trodAll_cons hA
 obtain⟨rfl,rfl,rfl⟩:=trodAll_nil r0
 obtain rfl:args=#[v0]:=by cases args;simp_all
 obtain⟨rfl,rfl⟩:=trodVars_none hV
 have k0:=t0
 have lt0:∀ x∈p0,x.block<W.heap.size:=by obtain⟨m,hm⟩:=k0;exact DataW.trod_lt m _ _ _ hm
 obtain⟨m0,hm0⟩:=t0
 obtain⟨a0,ha0⟩:=OpD.get (fun _=>op25) hm0
 obtain⟨⟨c0⟩,rfl,_⟩:=okWide_struct Tryz.underlying25 (hval 0 25 v0 rfl rfl)
 clear hA0 hval0
 refine Calls.mono (z9d W a0 ha0) fun e W' ⟨v,he,hch,hv⟩=>?_
 subst he;subst hv
 have bel:=Ext.below hch
 exact⟨_,rfl,_,_,_,[],_,[],hW',trodAll_mk1 (shut_bool Tryz.underlying4 _),(trodAll_cons_mk (Below.trod k7R (by kernel_rfl) (of_decide_eq_true (by kernel_rfl)) k0 bel lt0) trodAll_mk0),rfl,bel.frame _,fun h=>by cases h⟩
theorem fnExactBuildPlan_holds:Rows.FnExactBuildPlanSaid:=
 OpenClaim.holds_of_wide 7 Tryz.f7 rfl rfl rfl rfl rfl rfl rfl ⟨rfl,rfl,rfl,rfl,rfl⟩ rfl rfl rfl rfl rfl z9c Tryz.func7 z9O z9P z9Q
  (fun os started H enc _=>z7g os started H enc)
end
end Go.Proofs.YtcegfmageiicaaaGreat
