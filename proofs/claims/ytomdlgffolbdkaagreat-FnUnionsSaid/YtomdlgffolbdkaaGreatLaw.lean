/- The law FnUnions returns true for all arguments and leaves them as they were; there is no condition. -/
import Derived.Test.YtomdlgffolbdkaaGreatMath2
import Derived.Test.YtomdlgffolbdkaaGreatLaws
import Derived.Test.YtomdlgffolbdkaaGreatRows
set_option linter.unusedVariables false
set_option linter.unusedSimpArgs false
set_option linter.ambiguousOpen false
set_option linter.unusedSectionVars false
set_option linter.unnecessarySimpa false
set_option maxRecDepth 100000
set_option maxHeartbeats 1000000
namespace Go.Proofs.YtomdlgffolbdkaaGreat
open Go Go.E
open Go.E.Rep (rd)
open Go.E.Sep (own)
theorem k5Q:Opens Tryz.prog 5 UInt8:=Opens.byte (by kernel_rfl) Tryz.underlying5
theorem k5y:Opens Tryz.prog 22 (List UInt8):=Opens.slice (by kernel_rfl) Tryz.underlying22 k5Q
theorem j5m (W:World)(a:List UInt8){z:Value}(ha:rdS (fun _=>True) W a z):Ret Tryz.prog 4 #[z] W (fun _=>False) fun v w=>v=.bool true:=
 Go.A.Ok.law (f:=byD) (fun _=>rfl) ha rfl (j4F (j6D a))
section
open Go.ChangeShapes Go.WideShapes Go.ChangeAt Go.RowKit
theorem k2T:ownKnob Tryz.prog.godebug=none:=by kernel_rfl
theorem k2U:laidOutB Tryz.prog=true:=by kernel_rfl
set_option maxRecDepth 100000 in
theorem j1d (os:Os)(started:os.Started)(H:Type)(enc:TypeId×Value→H) :
  ReturnsInHanded {} Tryz.checked os 4 .any (Rows.fnUnionsSpec.pre6 enc Tryz.prog Tryz.f4 Rows.fnUnionsRow.domain false) (Rows.fnUnionsSpec.post enc Tryz.prog Tryz.f4 false true false false):=by
 refine returnsInHanded_of_change (C:=Tryz.checked) k2T started (by kernel_rfl) Tryz.func4
  (ChangeSpec.witness6 (enc:=enc) (C:=Tryz.checked) false ⟨#[],#[.slice none 0 0],[]⟩ 8 (by kernel_rfl) (by kernel_rfl) (by kernel_rfl) (by kernel_rfl)) ?_
 intro W base args ds gs before hval0 hW hcnd _
 have hval:∀ (j:Nat) t v,Tryz.f4.params[j]?=some t→args[j]?=some v→Value.okWide Tryz.prog W .any base t v:=hval0
 have hW':=hW
 obtain⟨p,q,hA0,hV,rfl,hfz,hnd⟩:=hW
 have hA:DataW.TrodAll enc Tryz.prog W 0 (fun _=>true) true Tryz.f4.params.toList args.toList ds p:=hA0
 rw[Tryz.params4] at hA hval
 obtain⟨v0,vs0,d0,ds0,p0,q0,hargs,rfl,rfl,t0,r0⟩:=trodAll_cons hA
 obtain⟨rfl,rfl,rfl⟩:=trodAll_nil r0
 obtain rfl:args=#[v0]:=by cases args;simp_all
 obtain⟨rfl,rfl⟩:=trodVars_none hV
 have k0:=t0
 have lt0:∀ x∈p0,x.block<W.heap.size:=by obtain⟨m,hm⟩:=k0;exact DataW.trod_lt m _ _ _ hm
 obtain⟨m0,hm0⟩:=t0
 obtain⟨a0,ha0⟩:=k5y.2 _ _ _ _ _ _ _ _ _ hm0
 obtain⟨x0,l0,c0,rfl⟩:=okWide_slice Tryz.underlying22 (hval 0 22 v0 rfl rfl)
 obtain⟨z0,e0,ha0⟩:=ha0
 obtain rfl:Value.slice x0 l0 c0=z0:=by injection e0
 clear hA0 hval0
 refine Calls.mono (j5m W a0 ha0) fun e W' ⟨v,he,hch,hv⟩=>?_
 subst he;subst hv
 have bel:=Ext.below hch
 exact⟨_,rfl,_,_,_,[],_,[],hW',trodAll_mk1 (shut_bool Tryz.underlying4 _),(trodAll_cons_mk (Below.trod k2U (by kernel_rfl) (of_decide_eq_true (by kernel_rfl)) k0 bel lt0) trodAll_mk0),rfl,bel.frame _,fun h=>by cases h⟩
theorem fnUnions_holds:Rows.FnUnionsSaid:=
 OpenClaim.holds_of_wide 4 Tryz.f4 rfl rfl rfl rfl rfl rfl rfl ⟨rfl,rfl,rfl,rfl,rfl⟩ rfl rfl rfl rfl rfl (by kernel_rfl) Tryz.func4 (by kernel_rfl)
  (of_decide_eq_true (by kernel_rfl)) (by unfold Func.isWrapper;first|(rw[ifP (by decide +kernel)];kernel_rfl)|(rw[ifN (by decide +kernel)];exact⟨rfl,rfl⟩))
  (fun os started H enc _=>j1d os started H enc)
end
end Go.Proofs.YtomdlgffolbdkaaGreat
