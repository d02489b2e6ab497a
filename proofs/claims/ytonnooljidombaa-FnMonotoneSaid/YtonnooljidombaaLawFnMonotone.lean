/- The law FnMonotone returns true for all arguments and leaves them as they were; there is no condition. -/
import Derived.Test.YtonnooljidombaaRows
import Derived.Test.YtonnooljidombaaMathMO
set_option linter.unusedVariables false
set_option linter.unusedSimpArgs false
set_option linter.ambiguousOpen false
set_option linter.unusedSectionVars false
set_option linter.unnecessarySimpa false
set_option linter.unusedVariables false
set_option linter.unusedSimpArgs false
set_option maxRecDepth 100000
set_option maxHeartbeats 1000000
namespace Go.Proofs.Ytonnooljidombaa
open Go Go.E
open Go.E.Rep (rd)
open Go.E.Sep (own)
theorem open5 : Opens Try.prog 5 UInt8 := Opens.byte (by kernel_rfl) Try.underlying5
theorem open38 : Opens Try.prog 38 (List UInt8) := Opens.slice (by kernel_rfl) Try.underlying38 open5
theorem FnMonotone_law (W : World) (a : List UInt8) {z : Value} (ha : rdS (fun _ => True) W a z) : Ret Try.prog 6 #[z] W (fun _ => False) fun v w => v = .bool true :=
  wFnMonotone_ok (monotone_true a) ha
section
open Go.ChangeShapes Go.WideShapes Go.ChangeAt Go.RowKit
theorem own_knob : ownKnob Try.prog.godebug = none := by kernel_rfl
theorem laid_out : laidOutB Try.prog = true := by kernel_rfl
set_option maxRecDepth 100000 in
theorem fnMonotone_lifted (os : Os) (started : os.Started) (H : Type) (enc : TypeId × Value → H) :
    ReturnsInHanded {} Try.checked os 6 .any (Rows.fnMonotoneSpec.pre6 enc Try.prog Try.f6 Rows.fnMonotoneRow.domain false) (Rows.fnMonotoneSpec.post enc Try.prog Try.f6 false true false false) := by
  refine returnsInHanded_of_change (C := Try.checked) own_knob started (by kernel_rfl) Try.func6
    (ChangeSpec.witness6 (enc := enc) (C := Try.checked) false ⟨#[], #[.slice none 0 0], []⟩ 8 (by kernel_rfl) (by kernel_rfl) (by kernel_rfl) (by kernel_rfl)) ?_
  intro W base args ds gs before hval0 hW hcnd _
  have hval : ∀ (j : Nat) t v, Try.f6.params[j]? = some t → args[j]? = some v → Value.okWide Try.prog W .any base t v := hval0
  have hW' := hW
  obtain ⟨p, q, hA0, hV, rfl, hfz, hnd⟩ := hW
  have hA : DataW.TrodAll enc Try.prog W 0 (fun _ => true) true Try.f6.params.toList args.toList ds p := hA0
  rw [Try.params6] at hA hval
  obtain ⟨v0, vs0, d0, ds0, p0, q0, hargs, rfl, rfl, t0, r0⟩ := trodAll_cons hA
  obtain ⟨rfl, rfl, rfl⟩ := trodAll_nil r0
  obtain rfl : args = #[v0] := by cases args; simp_all
  obtain ⟨rfl, rfl⟩ := trodVars_none hV
  have k0 := t0
  have lt0 : ∀ x ∈ p0, x.block < W.heap.size := by obtain ⟨m, hm⟩ := k0; exact DataW.trod_lt m _ _ _ hm
  obtain ⟨m0, hm0⟩ := t0
  obtain ⟨a0, ha0⟩ := open38.2 _ _ _ _ _ _ _ _ _ hm0
  obtain ⟨x0, l0, c0, rfl⟩ := okWide_slice Try.underlying38 (hval 0 38 v0 rfl rfl)
  obtain ⟨z0, e0, ha0⟩ := ha0
  obtain rfl : Value.slice x0 l0 c0 = z0 := by injection e0
  clear hA0 hval0
  refine Calls.mono (FnMonotone_law W a0 ha0) fun e W' ⟨v, he, hch, hv⟩ => ?_
  subst he; subst hv
  have bel := Ext.below hch
  exact ⟨_, rfl, _, _, _, [], _, [], hW', trodAll_mk1 (shut_bool Try.underlying4 _), (trodAll_cons_mk (Below.trod laid_out (by kernel_rfl) (of_decide_eq_true (by kernel_rfl)) k0 bel lt0) trodAll_mk0), rfl, bel.frame _, fun h => by cases h⟩
theorem fnMonotone_holds : Rows.FnMonotoneSaid :=
  OpenClaim.holds_of_wide 6 Try.f6 rfl rfl rfl rfl rfl rfl rfl ⟨rfl, rfl, rfl, rfl, rfl⟩ rfl rfl rfl rfl rfl (by kernel_rfl) Try.func6 (by kernel_rfl)
    (of_decide_eq_true (by kernel_rfl)) (by unfold Func.isWrapper; first | (rw [if_pos (by decide +kernel)]; kernel_rfl) | (rw [if_neg (by decide +kernel)]; exact ⟨rfl, rfl⟩))
    (fun os started H enc _ => fnMonotone_lifted os started H enc)
end
end Go.Proofs.Ytonnooljidombaa

