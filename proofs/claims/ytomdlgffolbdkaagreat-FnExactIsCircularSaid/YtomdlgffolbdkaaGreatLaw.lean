/- The law FnExactIsCircular returns true for all arguments and leaves them as they were; there is no condition. -/
import Derived.Test.YtomdlgffolbdkaaGreatMath2
import Derived.Test.YtomdlgffolbdkaaGreatFacts
import Derived.Test.YtomdlgffolbdkaaGreatLaws
import Derived.Test.YtomdlgffolbdkaaGreatRows
set_option linter.unusedVariables false
set_option linter.unusedSimpArgs false
set_option linter.ambiguousOpen false
set_option linter.unusedSectionVars false
set_option linter.unnecessarySimpa false
set_option maxRecDepth 100000
set_option maxHeartbeats 1000000
namespace Go.Proofs.YtomdlgffolbdkaaGreat
open Go Go.E Go.A
theorem op9 {N:Nat}:OpD Tryz.prog 9 1 (fun n:ByteArray=>[A.D.s n]) N:=.str (by kernel_rfl) Tryz.underlying9
theorem op3 {N:Nat}:OpD Tryz.prog 3 1 (fun n:Int=>[A.D.i .i64 n]) N:=.int (by kernel_rfl) Tryz.underlying3
theorem op4 {N:Nat}:OpD Tryz.prog 4 1 (fun n:Bool=>[A.D.b n]) N:=.bool (by kernel_rfl) Tryz.underlying4
theorem k5T {N:Nat}:OpD Tryz.prog 219 4 At_.l N:=.structN (fun N=>(.cons op9 (.cons op3 (.cons op3 (.cons op4 .nil))))) (fun c=>⟨c.1,c.2.1,c.2.2.1,c.2.2.2.1⟩) (by kernel_rfl) (by decide) Tryz.underlying219 fun _=>rfl
theorem k5U {N:Nat}:OpD Tryz.prog 142 1 (fun n:(List At_)=>[A.D.sl 4 (n.map At_.D)]) N:=.slice k5T (by kernel_rfl) Tryz.underlying142 fun _=>rfl
theorem k5V {N:Nat}:OpD Tryz.prog 144 2 Symbol.l N:=.structN (fun N=>(.cons op9 (.cons k5U .nil))) (fun c=>⟨c.1,c.2.1⟩) (by kernel_rfl) (by decide) Tryz.underlying144 fun _=>rfl
theorem op42 {N:Nat}:OpD Tryz.prog 42 1 (fun n:(List Symbol)=>[A.D.sl 2 (n.map Symbol.D)]) N:=.slice k5V (by kernel_rfl) Tryz.underlying42 fun _=>rfl
theorem op40 {N:Nat}:OpD Tryz.prog 40 1 (fun n:(List ByteArray)=>[A.D.sl 1 (n.map A.D.s)]) N:=.slice op9 (by kernel_rfl) Tryz.underlying40 fun _=>rfl
theorem k5W {N:Nat}:OpD Tryz.prog 221 2 Oc.l N:=.structN (fun N=>(.cons op3 (.cons op9 .nil))) (fun c=>⟨c.1,c.2.1⟩) (by kernel_rfl) (by decide) Tryz.underlying221 fun _=>rfl
theorem k3y:∀ N,OpD Tryz.prog 224 7 Expr.l N
 | 0=>.zero (by kernel_rfl) (by decide)
 | N+1=>.struct (.cons op3 (.cons op3 (.cons op3 (.cons op3 (.cons op9 (.cons op9 (.cons (.slice (k3y N) (by kernel_rfl) Tryz.underlying222 Expr.D_cells) .nil))))))) (fun c=>⟨c.1,c.2.1,c.2.2.1,c.2.2.2.1,c.2.2.2.2.1,c.2.2.2.2.2.1,c.2.2.2.2.2.2.1⟩) (by kernel_rfl) (by decide) Tryz.underlying224 fun _=>rfl
theorem k4Y {N:Nat}:OpD Tryz.prog 224 7 Expr.l N:=k3y N
theorem k5X {N:Nat}:OpD Tryz.prog 226 9 Eqn.l N:=.structN (fun N=>(.cons k5W (.cons k4Y .nil))) (fun c=>⟨c.1,c.2.1⟩) (by kernel_rfl) (by decide) Tryz.underlying226 fun _=>rfl
theorem k5Y {N:Nat}:OpD Tryz.prog 146 1 (fun n:(List Eqn)=>[A.D.sl 9 (n.map Eqn.D)]) N:=.slice k5X (by kernel_rfl) Tryz.underlying146 fun _=>rfl
theorem k5Z {N:Nat}:OpD Tryz.prog 229 16 Cn.l N:=.structN (fun N=>(.cons op9 (.cons op9 (.cons k4Y (.cons k4Y .nil))))) (fun c=>⟨c.1,c.2.1,c.2.2.1,c.2.2.2.1⟩) (by kernel_rfl) (by decide) Tryz.underlying229 fun _=>rfl
theorem k6a {N:Nat}:OpD Tryz.prog 147 1 (fun n:(List Cn)=>[A.D.sl 16 (n.map Cn.D)]) N:=.slice k5Z (by kernel_rfl) Tryz.underlying147 fun _=>rfl
theorem k6b {N:Nat}:OpD Tryz.prog 149 6 Rule.l N:=.structN (fun N=>(.cons op9 (.cons op9 (.cons op40 (.cons op4 (.cons k5Y (.cons k6a .nil))))))) (fun c=>⟨c.1,c.2.1,c.2.2.1,c.2.2.2.1,c.2.2.2.2.1,c.2.2.2.2.2.1⟩) (by kernel_rfl) (by decide) Tryz.underlying149 fun _=>rfl
theorem op43 {N:Nat}:OpD Tryz.prog 43 1 (fun n:(List Rule)=>[A.D.sl 6 (n.map Rule.D)]) N:=.slice k6b (by kernel_rfl) Tryz.underlying43 fun _=>rfl
theorem op45 {N:Nat}:OpD Tryz.prog 45 2 Gm_.l N:=.structN (fun N=>(.cons op42 (.cons op43 .nil))) (fun c=>⟨c.1,c.2.1⟩) (by kernel_rfl) (by decide) Tryz.underlying45 fun _=>rfl
theorem z5y (W:World)(a0:Gm_){z0:List Value}(h0:rdCs (fun b=>b<W.heap.size) W (Gm_.l a0) z0):Ret Tryz.prog 5 #[.agg z0.toArray] W (fun _=>False) fun v w=>v=.bool true:=
 Ok.lawD (k1M (k5G (m:=.fz) h0) (by rw[vrs])) rfl (z5j (m:=.fz) (j5l h0.bd))
section
open Go.ChangeShapes Go.WideShapes Go.ChangeAt Go.RowKit
theorem k3h:ownKnob Tryz.prog.godebug=none:=by kernel_rfl
theorem k3i:laidOutB Tryz.prog=true:=by kernel_rfl
set_option maxRecDepth 100000 in
theorem z3Q (os:Os)(started:os.Started)(H:Type)(enc:TypeId×Value→H) :
  ReturnsInHanded {} Tryz.checked os 5 .any (Rows.fnExactIsCircularSpec.pre6 enc Tryz.prog Tryz.f5 Rows.fnExactIsCircularRow.domain false) (Rows.fnExactIsCircularSpec.post enc Tryz.prog Tryz.f5 false true false false):=by
 refine returnsInHanded_of_change (C:=Tryz.checked) k3h started (by kernel_rfl) Tryz.func5
  (ChangeSpec.witness6 (enc:=enc) (C:=Tryz.checked) false ⟨#[],#[.agg #[.slice none 0 0,.slice none 0 0]],[]⟩ 8 (by kernel_rfl) (by kernel_rfl) (by kernel_rfl) (by kernel_rfl)) ?_
 intro W base args ds gs before hval0 hW hcnd _
 have hval:∀ (j:Nat) t v,Tryz.f5.params[j]?=some t→args[j]?=some v→Value.okWide Tryz.prog W .any base t v:=hval0
 have hW':=hW
 obtain⟨p,q,hA0,hV,rfl,hfz,hnd⟩:=hW
 have hA:DataW.TrodAll enc Tryz.prog W 0 (fun _=>true) true Tryz.f5.params.toList args.toList ds p:=hA0
 rw[Tryz.params5] at hA hval
 obtain⟨v0,vs0,d0,ds0,p0,q0,hargs,rfl,rfl,t0,r0⟩:=trodAll_cons hA
 obtain⟨rfl,rfl,rfl⟩:=trodAll_nil r0
 obtain rfl:args=#[v0]:=by cases args;simp_all
 obtain⟨rfl,rfl⟩:=trodVars_none hV
 have k0:=t0
 have lt0:∀ x∈p0,x.block<W.heap.size:=by obtain⟨m,hm⟩:=k0;exact DataW.trod_lt m _ _ _ hm
 obtain⟨m0,hm0⟩:=t0
 obtain⟨a0,ha0⟩:=OpD.get (fun _=>op45) hm0
 obtain⟨⟨c0⟩,rfl,_⟩:=okWide_struct Tryz.underlying45 (hval 0 45 v0 rfl rfl)
 clear hA0 hval0
 refine Calls.mono (z5y W a0 ha0) fun e W' ⟨v,he,hch,hv⟩=>?_
 subst he;subst hv
 have bel:=Ext.below hch
 exact⟨_,rfl,_,_,_,[],_,[],hW',trodAll_mk1 (shut_bool Tryz.underlying4 _),(trodAll_cons_mk (Below.trod k3i (by kernel_rfl) (of_decide_eq_true (by kernel_rfl)) k0 bel lt0) trodAll_mk0),rfl,bel.frame _,fun h=>by cases h⟩
theorem fnExactIsCircular_holds:Rows.FnExactIsCircularSaid:=
 OpenClaim.holds_of_wide 5 Tryz.f5 rfl rfl rfl rfl rfl rfl rfl ⟨rfl,rfl,rfl,rfl,rfl⟩ rfl rfl rfl rfl rfl z5x Tryz.func5 z5S z5T z5U
  (fun os started H enc _=>z3Q os started H enc)
end
end Go.Proofs.YtomdlgffolbdkaaGreat
