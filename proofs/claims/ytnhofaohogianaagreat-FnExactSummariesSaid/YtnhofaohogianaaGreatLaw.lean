/- The law FnExactSummaries returns true for all arguments and leaves them as they were; there is no condition. -/
import Derived.Test.YtnhofaohogianaaGreatMath7
import Derived.Test.YtnhofaohogianaaGreatFacts
import Derived.Test.YtnhofaohogianaaGreatLaws2
import Derived.Test.YtnhofaohogianaaGreatRows
set_option linter.unusedVariables false
set_option linter.unusedSimpArgs false
set_option linter.ambiguousOpen false
set_option linter.unusedSectionVars false
set_option linter.unnecessarySimpa false
set_option maxRecDepth 100000
set_option maxHeartbeats 1000000
namespace Go.Proofs.YtnhofaohogianaaGreat
open Go Go.E Go.A
theorem op9 {N:Nat}:OpD Tryz.prog 9 1 (fun n:BA_=>[A.D.s n]) N:=.str (by kernel_rfl) Tryz.underlying9
theorem op3 {N:Nat}:OpD Tryz.prog 3 1 (fun n:Int=>[A.D.i .i64 n]) N:=.int (by kernel_rfl) Tryz.underlying3
theorem op4 {N:Nat}:OpD Tryz.prog 4 1 (fun n:Bool=>[A.D.b n]) N:=.bool (by kernel_rfl) Tryz.underlying4
theorem k7k {N:Nat}:OpD Tryz.prog 150 4 At_.l N:=.structN (fun N=>(.cons op9 (.cons op3 (.cons op3 (.cons op4 .nil))))) (fun c=>⟨c.1,c.2.1,c.2.2.1,c.2.2.2.1⟩) (by kernel_rfl) (by decide) Tryz.underlying150 fun _=>rfl
theorem op67 {N:Nat}:OpD Tryz.prog 67 1 (fun n:(List At_)=>[A.D.sl 4 (n.map At_.D)]) N:=.slice k7k (by kernel_rfl) Tryz.underlying67 fun _=>rfl
theorem op69 {N:Nat}:OpD Tryz.prog 69 2 Symbol.l N:=.structN (fun N=>(.cons op9 (.cons op67 .nil))) (fun c=>⟨c.1,c.2.1⟩) (by kernel_rfl) (by decide) Tryz.underlying69 fun _=>rfl
theorem op22 {N:Nat}:OpD Tryz.prog 22 1 (fun n:(List Symbol)=>[A.D.sl 2 (n.map Symbol.D)]) N:=.slice op69 (by kernel_rfl) Tryz.underlying22 fun _=>rfl
theorem op53 {N:Nat}:OpD Tryz.prog 53 1 (fun n:(List BA_)=>[A.D.sl 1 (n.map A.D.s)]) N:=.slice op9 (by kernel_rfl) Tryz.underlying53 fun _=>rfl
theorem k7l {N:Nat}:OpD Tryz.prog 152 2 Oc.l N:=.structN (fun N=>(.cons op3 (.cons op9 .nil))) (fun c=>⟨c.1,c.2.1⟩) (by kernel_rfl) (by decide) Tryz.underlying152 fun _=>rfl
theorem k4v:∀ N,OpD Tryz.prog 155 7 Expr.l N
 | 0=>.zero (by kernel_rfl) (by decide)
 | N+1=>.struct (.cons op3 (.cons op3 (.cons op3 (.cons op3 (.cons op9 (.cons op9 (.cons (.slice (k4v N) (by kernel_rfl) Tryz.underlying153 Expr.D_cells) .nil))))))) (fun c=>⟨c.1,c.2.1,c.2.2.1,c.2.2.2.1,c.2.2.2.2.1,c.2.2.2.2.2.1,c.2.2.2.2.2.2.1⟩) (by kernel_rfl) (by decide) Tryz.underlying155 fun _=>rfl
theorem k6i {N:Nat}:OpD Tryz.prog 155 7 Expr.l N:=k4v N
theorem k7m {N:Nat}:OpD Tryz.prog 157 9 Eqn.l N:=.structN (fun N=>(.cons k7l (.cons k6i .nil))) (fun c=>⟨c.1,c.2.1⟩) (by kernel_rfl) (by decide) Tryz.underlying157 fun _=>rfl
theorem op71 {N:Nat}:OpD Tryz.prog 71 1 (fun n:(List Eqn)=>[A.D.sl 9 (n.map Eqn.D)]) N:=.slice k7m (by kernel_rfl) Tryz.underlying71 fun _=>rfl
theorem k7n {N:Nat}:OpD Tryz.prog 160 16 Cn.l N:=.structN (fun N=>(.cons op9 (.cons op9 (.cons k6i (.cons k6i .nil))))) (fun c=>⟨c.1,c.2.1,c.2.2.1,c.2.2.2.1⟩) (by kernel_rfl) (by decide) Tryz.underlying160 fun _=>rfl
theorem op72 {N:Nat}:OpD Tryz.prog 72 1 (fun n:(List Cn)=>[A.D.sl 16 (n.map Cn.D)]) N:=.slice k7n (by kernel_rfl) Tryz.underlying72 fun _=>rfl
theorem op74 {N:Nat}:OpD Tryz.prog 74 6 Rule.l N:=.structN (fun N=>(.cons op9 (.cons op9 (.cons op53 (.cons op4 (.cons op71 (.cons op72 .nil))))))) (fun c=>⟨c.1,c.2.1,c.2.2.1,c.2.2.2.1,c.2.2.2.2.1,c.2.2.2.2.2.1⟩) (by kernel_rfl) (by decide) Tryz.underlying74 fun _=>rfl
theorem op23 {N:Nat}:OpD Tryz.prog 23 1 (fun n:(List Rule)=>[A.D.sl 6 (n.map Rule.D)]) N:=.slice op74 (by kernel_rfl) Tryz.underlying23 fun _=>rfl
theorem op25 {N:Nat}:OpD Tryz.prog 25 2 Gm_.l N:=.structN (fun N=>(.cons op22 (.cons op23 .nil))) (fun c=>⟨c.1,c.2.1⟩) (by kernel_rfl) (by decide) Tryz.underlying25 fun _=>rfl
theorem z6t (W:World)(a0:Gm_){z0:List Value}(h0:rdCs (fun b=>b<W.heap.size) W (Gm_.l a0) z0):Ret Tryz.prog 3 #[.agg z0.toArray] W (fun _=>False) fun v w=>v=.bool true:=
 Ok.lawD (k2z (k6Y (m:=.fz) h0) (by rw[vrs])) rfl (z6p (m:=.fz) (j4m h0.bd))
section
open Go.ChangeShapes Go.WideShapes Go.ChangeAt Go.RowKit
theorem k4c:ownKnob Tryz.prog.godebug=none:=by kernel_rfl
theorem k4d:laidOutB Tryz.prog=true:=by kernel_rfl
set_option maxRecDepth 100000 in
theorem z4O (os:Os)(started:os.Started)(H:Type)(enc:TypeId×Value→H) :
  ReturnsInHanded {} Tryz.checked os 3 .any (Rows.fnExactSummariesSpec.pre6 enc Tryz.prog Tryz.f3 Rows.fnExactSummariesRow.domain false) (Rows.fnExactSummariesSpec.post enc Tryz.prog Tryz.f3 false true false false):=by
 refine returnsInHanded_of_change (C:=Tryz.checked) k4c started (by kernel_rfl) Tryz.func3
  (ChangeSpec.witness6 (enc:=enc) (C:=Tryz.checked) false ⟨#[],#[.agg #[.slice none 0 0,.slice none 0 0]],[]⟩ 8 (by kernel_rfl) (by kernel_rfl) (by kernel_rfl) (by kernel_rfl)) ?_
 intro W base args ds gs before hval0 hW hcnd _
 have hval:∀ (j:Nat) t v,Tryz.f3.params[j]?=some t→args[j]?=some v→Value.okWide Tryz.prog W .any base t v:=hval0
 have hW':=hW
 obtain⟨p,q,hA0,hV,rfl,hfz,hnd⟩:=hW
 have hA:DataW.TrodAll enc Tryz.prog W 0 (fun _=>true) true Tryz.f3.params.toList args.toList ds p:=hA0
 rw[Tryz.params3] at hA hval
 obtain⟨v0,vs0,d0,ds0,p0,q0,hargs,rfl,rfl,t0,r0⟩:=trodAll_cons hA
 obtain⟨rfl,rfl,rfl⟩:=trodAll_nil r0
 obtain rfl:args=#[v0]:=by cases args;simp_all
 obtain⟨rfl,rfl⟩:=trodVars_none hV
 have k0:=t0
 have lt0:∀ x∈p0,x.block<W.heap.size:=by obtain⟨m,hm⟩:=k0;exact DataW.trod_lt m _ _ _ hm
 obtain⟨m0,hm0⟩:=t0
 obtain⟨a0,ha0⟩:=OpD.get (fun _=>op25) hm0
 obtain⟨⟨c0⟩,rfl,_⟩:=okWide_struct Tryz.underlying25 (hval 0 25 v0 rfl rfl)
 clear hA0 hval0
 refine Calls.mono (z6t W a0 ha0) fun e W' ⟨v,he,hch,hv⟩=>?_
 subst he;subst hv
 have bel:=Ext.below hch
 exact⟨_,rfl,_,_,_,[],_,[],hW',trodAll_mk1 (shut_bool Tryz.underlying4 _),(trodAll_cons_mk (Below.trod k4d (by kernel_rfl) (of_decide_eq_true (by kernel_rfl)) k0 bel lt0) trodAll_mk0),rfl,bel.frame _,fun h=>by cases h⟩
theorem fnExactSummaries_holds:Rows.FnExactSummariesSaid:=
 OpenClaim.holds_of_wide 3 Tryz.f3 rfl rfl rfl rfl rfl rfl rfl ⟨rfl,rfl,rfl,rfl,rfl⟩ rfl rfl rfl rfl rfl z6s Tryz.func3 z7l z7m z7n
  (fun os started H enc _=>z4O os started H enc)
end
end Go.Proofs.YtnhofaohogianaaGreat
