/- What those partial functions come to: plain lemmas on data; each bears its conditions in its statement. -/
import Derived.Test.YtonnooljidombaaMathMX
set_option linter.unusedVariables false
set_option linter.unusedSimpArgs false
set_option linter.ambiguousOpen false
set_option linter.unusedSectionVars false
set_option linter.unnecessarySimpa false
set_option linter.unusedVariables false
set_option linter.unusedSimpArgs false
namespace Go.Proofs.Ytonnooljidombaa
open Go Go.E
section
variable {b : List UInt8} {o : l1Cur} (hb : b.length ≤ 1048576)
include hb
theorem value_ok (k : Int) (h : CB b o) : Dr b (fun _ => True) (sl3Value_m k o) := by
  unfold sl3Value_m
  refine .ite (fun _ => ?_) fun _ => .ite (fun _ => ?_) fun _ => .ite (fun _ => ?_) fun _ => ?_
  · refine (below_ok hb 4096 h).bind ?_
    rintro ⟨y, z⟩ ⟨_, hz⟩
    exact .ret ⟨trivial, h.mk' hz⟩
  · refine (below_ok hb 2 h).bind ?_
    rintro ⟨y, z⟩ ⟨_, hz⟩
    exact .ret ⟨trivial, h.mk' hz⟩
  · refine (below_ok hb 12 h).bind ?_
    rintro ⟨y, z⟩ ⟨_, hz⟩
    exact .ret ⟨trivial, h.mk' hz⟩
  · refine (once_ok hb 8 h).bind ?_
    rintro ⟨y, z⟩ ⟨_, hz⟩
    refine .ite (fun _ => ?_) fun _ => ?_
    · refine (pickInt_ok hb (by simp) (h.mk' hz)).bind ?_
      rintro ⟨y, z⟩ ⟨_, hz⟩
      exact .ret ⟨trivial, h.mk' hz⟩
    · refine (below_ok hb 15 (h.mk' hz)).bind ?_
      rintro ⟨y, z⟩ ⟨⟨h1, h2, _⟩, hz⟩
      have := h2 (by omega)
      dsimp only at h1 this
      exact .grd (by constructor <;> omega) (.ret ⟨trivial, h.mk' hz⟩)
theorem slots_ok (h : CB b o) : Dr b (fun s => s.length ≤ 6) (sl19Slots_m o) := by
  unfold sl19Slots_m
  refine (below_ok hb 6 h).bind ?_
  rintro ⟨y, z⟩ ⟨⟨h1, h2, _⟩, hz⟩
  have := h2 (by omega)
  dsimp only at h1 this ⊢
  have hL : Ok (fun q => q.1.length ≤ 6 ∧ 0 ≤ q.2.1) (eachN (sl19Slots_L1 o) 0 y.toNat (([] : List Slot), z.i, z.h)) := by
    refine (eachN_Ok (P := fun k q => q.1.length ≤ k ∧ 0 ≤ q.2.1) ⟨Nat.le_refl _, hz.1⟩ fun k q _ hk hq => ?_).mono fun q hq => ⟨by have := hq.1; omega, hq.2⟩
    obtain ⟨s, i, g⟩ := q
    obtain ⟨q1, q2⟩ := hq
    dsimp only at q1 q2
    unfold sl19Slots_L1
    have h' : CB b ⟨o.b, i, g⟩ := ⟨q2, h.2⟩
    refine (below_ok hb 4 h').bind ?_
    rintro ⟨y2, z3⟩ ⟨_, h3⟩
    refine (name_ok hb (h.mk' h3)).bind ?_
    rintro ⟨y3, z4⟩ ⟨_, h4⟩
    refine (below_ok hb 2 (h.mk' h4)).bind ?_
    rintro ⟨y4, z5⟩ ⟨⟨a1, a2, _⟩, h5⟩
    have := a2 (by omega)
    dsimp only at a1 this
    refine .grd (by constructor <;> omega) ?_
    refine (value_ok hb _ (h.mk' h5)).bind ?_
    rintro ⟨y5, z6⟩ ⟨_, h6⟩
    refine .grd (by constructor <;> omega) (.ret ⟨?_, h6.1⟩)
    dsimp only; rw [List.length_append]; simp; omega
  refine hL.bind ?_
  rintro ⟨s, i, g⟩ hq
  exact .ret ⟨hq.1, hq.2, h.2⟩
theorem drawEval_ok : Ok (fun q => Sz.szd q.1 ≤ 30000 ∧ q.2.1.length ≤ 40000) (sDrawEvalLocal_m b) := by
  unfold sDrawEvalLocal_m
  refine (new_ok hb).bind fun o h => ?_
  refine (bent_ok hb h).bind ?_
  rintro ⟨e, z1⟩ ⟨s1, h1⟩
  have s1' : Sz.szd e ≤ 30000 := s1
  refine (slots_ok hb (h.mk' h1)).bind ?_
  rintro ⟨s, z2⟩ ⟨s2, h2⟩
  have s2' : s.length ≤ 6 := s2
  dsimp only
  rw [sAttr_eq (by omega), Option.bind_some]
  have hal : (attrs e).length ≤ 30001 := by
    have h1 := attrs_len (e := e)
    have h2 := usesE_len e
    have h3 : Expr_szf e = Sz.szd e := rfl
    omega
  have hL : Ok (fun q => q.1.length ≤ 40000 ∧ 0 ≤ q.2.1) (eachL (sDrawEvalLocal_L1 o) 0 (attrs e) (s, z2.i, z2.h)) := by
    refine (eachL_Ok (P := fun k q => q.1.length ≤ 6 + k ∧ 0 ≤ q.2.1) ⟨by simpa using s2', h2.1⟩ fun k x q _ _ hk hq => ?_).mono fun q hq => ⟨by have := hq.1; omega, hq.2⟩
    obtain ⟨s, i, g⟩ := q
    obtain ⟨q1, q2⟩ := hq
    dsimp only at q1 q2
    unfold sDrawEvalLocal_L1
    have h' : CB b ⟨o.b, i, g⟩ := ⟨q2, h.2⟩
    refine (below_ok hb 9 h').bind ?_
    rintro ⟨y2, z3⟩ ⟨_, h3⟩
    refine .grd (by constructor <;> omega) (.ret ⟨?_, h3.1⟩)
    dsimp only; rw [List.length_append]; simp; omega
  refine hL.bind ?_
  rintro ⟨s', i, g⟩ ⟨q1, q2⟩
  have h' : CB b ⟨o.b, i, g⟩ := ⟨q2, h.2⟩
  refine Ok.bind (Q := fun _ => True) ?_ ?_
  · refine (below_ok hb 9 h').bind ?_
    rintro ⟨y2, z3⟩ ⟨_, h3⟩
    refine (below_ok hb 4 (h.mk' h3)).bind ?_
    rintro ⟨y4, z5⟩ ⟨⟨a1, a2, _⟩, h5⟩
    have := a2 (by omega)
    dsimp only at a1 this
    refine .grd a1 (.grd ?_ (.ret trivial))
    show y4.toNat ≤ 3
    omega
  · rintro ⟨q1', q2', q3', q4'⟩ _
    exact .ret ⟨s1', q1⟩
theorem drawConst_ok : Ok (fun e => Sz.szd e ≤ 30000) (sDrawConstantValue_m b) := by
  unfold sDrawConstantValue_m
  refine (new_ok hb).bind fun o h => ?_
  refine (once_ok hb 3 h).bind ?_
  rintro ⟨y1, z1⟩ ⟨_, h1⟩
  refine .ite (fun _ => ?_) fun _ => ?_
  · refine (bent_ok hb (h.mk' h1)).bind ?_
    rintro ⟨e, z1⟩ ⟨s1, h1⟩
    exact .ret s1
  · refine (below_ok hb 9 (h.mk' h1)).bind ?_
    rintro ⟨y4, z3⟩ ⟨_, h3⟩
    refine Ok.bind (Q := fun e => Sz.szd e ≤ 0) (.ret (Nat.zero_le _)) fun e he => ?_
    refine (below_ok hb 5 (h.mk' h3)).bind ?_
    rintro ⟨y6, z4⟩ ⟨⟨a1, a2, _⟩, h4⟩
    have := a2 (by omega)
    dsimp only at a1 this ⊢
    have hL : Ok (fun q => Sz.szd (⟨q.2.2.2.1, q.2.2.2.2.1, q.2.2.2.2.2.1, q.2.2.2.2.2.2.1, q.2.2.2.2.2.2.2.1, q.2.2.2.2.2.2.2.2, q.1⟩ : Expr) ≤ 10) (eachN (sDrawConstantValue_L1 o) 0 y6.toNat (e.Args, z4.i, z4.h, e.Kind, e.N, e.Pos, e.Type_, e.Symbol, e.Name)) := by
      refine (eachN_Ok (P := fun k q => Sz.szd (⟨q.2.2.2.1, q.2.2.2.2.1, q.2.2.2.2.2.1, q.2.2.2.2.2.2.1, q.2.2.2.2.2.2.2.1, q.2.2.2.2.2.2.2.2, q.1⟩ : Expr) ≤ k * 2 ∧ 0 ≤ q.2.1) ⟨by dsimp only; rw [Expr_szd] at he ⊢; dsimp only; omega, h4.1⟩ fun k q _ hk hq => ?_).mono fun q hq => by have := hq.1; omega
      obtain ⟨q1, q2, q3, q4, q5, q6, q7, q8, q9⟩ := q
      obtain ⟨r1, r2⟩ := hq
      dsimp only at r1 r2
      unfold sDrawConstantValue_L1
      have h' : CB b ⟨o.b, q2, q3⟩ := ⟨r2, h.2⟩
      refine Ok.bind (Q := fun q => Sz.szd (⟨q.2.2.2.1, q.2.2.2.2.1, q.2.2.2.2.2.1, q.2.2.2.2.2.2.1, q.2.2.2.2.2.2.2.1, q.2.2.2.2.2.2.2.2, q.1⟩ : Expr) ≤ (k + 1) * 2 ∧ 0 ≤ q.2.1) ?_ ?_
      · refine (below_ok hb 12 h').bind ?_
        rintro ⟨y7, z6⟩ ⟨⟨a1, a2, _⟩, h6⟩
        have := a2 (by omega)
        dsimp only at a1 this
        refine .grd (by constructor <;> omega) ?_
        refine (below_ok hb 5 (h.mk' h6)).bind ?_
        rintro ⟨y8, z7⟩ ⟨_, h7⟩
        refine .ret ⟨?_, h7.1⟩
        dsimp only
        rw [sz_two hb, sz_nil hb, nil_size hb]; omega
      · rintro ⟨q1, q2, q3, q4, q5, q6, q7, q8, q9⟩ hq
        exact .ret hq
    refine hL.bind ?_
    rintro ⟨q1, q2, q3, q4, q5, q6, q7, q8, q9⟩ hq
    exact .ret (by dsimp only at hq ⊢; omega)
end
end Go.Proofs.Ytonnooljidombaa

