/- The law FnAcyclic returns true for all arguments and leaves them as they were; there is no condition. -/
import Derived.Test.YtodhafdaelcnlaaGreatMath11
import Derived.Test.YtodhafdaelcnlaaGreatLaws
import Derived.Test.YtodhafdaelcnlaaGreatRows
set_option linter.unusedVariables false
set_option linter.unusedSimpArgs false
set_option linter.ambiguousOpen false
set_option linter.unusedSectionVars false
set_option linter.unnecessarySimpa false
set_option maxRecDepth 100000
set_option maxHeartbeats 1000000
namespace Go.Proofs.YtodhafdaelcnlaaGreat
open Go Go.E
open Go.E.Rep (rd)
open Go.E.Sep (own)
theorem OM:eM Tryz.prog 5 UInt8:=eM.byte (by kernel_rfl) Tryz.underlying5
theorem Sl:eM Tryz.prog 22 (List UInt8):=eM.slice (by kernel_rfl) Tryz.underlying22 OM
theorem YJ (Z6:World)(a:List UInt8){z:Value}(ha:uL (λ_=>True) Z6 a z):nv Tryz.prog 4 #[z] Z6 (λ_=>False) λv w=>v=.bool true:=
 Go.A.Ok.law (f:=wK) (λ_=>rfl) ha rfl (YT (XX a))
section
open Go.ChangeShapes Go.WideShapes Go.ChangeAt Go.RowKit
theorem Ux:ownKnob Tryz.prog.godebug=none:=by kernel_rfl
theorem Uw:laidOutB Tryz.prog=true:=by kernel_rfl
set_option maxRecDepth 100000 in
theorem ZP (os:Os)(started:os.Started)(Z8:Type)(enc:TypeId×Value->Z8) :
  ReturnsInHanded {} Tryz.checked os 4 .any (Rows.fnAcyclicSpec.pre6 enc Tryz.prog Tryz.f4 Rows.fnAcyclicRow.domain false) (Rows.fnAcyclicSpec.post enc Tryz.prog Tryz.f4 false true false false):=by
 refine returnsInHanded_of_change (C:=Tryz.checked) Ux started (by kernel_rfl) Tryz.func4
  (ChangeSpec.witness6 (enc:=enc) (C:=Tryz.checked) false ⟨#[],#[.slice none 0 0],[]⟩ 8 (by kernel_rfl) (by kernel_rfl) (by kernel_rfl) (by kernel_rfl)) ?_
 intro Z6 base args ds gs before hval0 hW hcnd _;have hval:∀ (j:Nat) t v,Tryz.f4.params[j]?=some t->args[j]?=some v->Value.okWide Tryz.prog Z6 .any base t v:=hval0;have hW':=hW;obtain⟨p,q,hA0,hV,rfl,hfz,hnd⟩:=hW;have hA:DataW.TrodAll enc Tryz.prog Z6 0 (λ_=>true) true Tryz.f4.params.toList args.toList ds p:=hA0;rw[Tryz.params4] at hA hval;obtain⟨v0,vs0,d0,ds0,p0,q0,hargs,rfl,rfl,t0,r0⟩:=trodAll_cons hA;obtain⟨rfl,rfl,rfl⟩:=trodAll_nil r0;obtain rfl:args=#[v0]:=by cases args;simp_all
 obtain⟨rfl,rfl⟩:=trodVars_none hV;have k0:=t0;have lt0:∀ x∈p0,x.block<Z6.heap.size:=by obtain⟨m,hm⟩:=k0;exact DataW.trod_lt m _ _ _ hm
 obtain⟨m0,hm0⟩:=t0;obtain⟨H,ha0⟩:=Sl.2 _ _ _ _ _ _ _ _ _ hm0;obtain⟨x0,l0,c0,rfl⟩:=okWide_slice Tryz.underlying22 (hval 0 22 v0 rfl rfl);obtain⟨z0,e0,ha0⟩:=ha0;obtain rfl:Value.slice x0 l0 c0=z0:=by injection e0
 clear hA0 hval0;refine Calls.mono (YJ Z6 H ha0) λe W' ⟨v,he,hch,hv⟩=>?_;subst he;subst hv;have bel:=cd.below hch;exact⟨_,rfl,_,_,_,[],_,[],hW',trodAll_mk1 (shut_bool Tryz.underlying4 _),(trodAll_cons_mk (Below.trod Uw (by kernel_rfl) (of_decide_eq_true (by kernel_rfl)) k0 bel lt0) trodAll_mk0),rfl,bel.frame _,λh=>by cases h⟩
theorem fnAcyclic_holds:Rows.FnAcyclicSaid:=
 OpenClaim.holds_of_wide 4 Tryz.f4 rfl rfl rfl rfl rfl rfl rfl ⟨rfl,rfl,rfl,rfl,rfl⟩ rfl rfl rfl rfl rfl (by kernel_rfl) Tryz.func4 (by kernel_rfl)
  (of_decide_eq_true (by kernel_rfl)) (by unfold Func.isWrapper;first|(rw[ao (by decide +kernel)];kernel_rfl)|(rw[al (by decide +kernel)];exact⟨rfl,rfl⟩))
  (λos started Z8 enc _=>ZP os started Z8 enc)
end
end Go.Proofs.YtodhafdaelcnlaaGreat
