/- What the helpers of the laws do (sizes, copies, tests, marks): each lemma bears its conditions in its statement. -/
import Derived.Test.YtonnooljidombaaGreatRows
import Derived.Test.YtonnooljidombaaGreatEngD
import Derived.Test.YtonnooljidombaaGreatHelpa
set_option linter.unusedVariables false
set_option linter.unusedSimpArgs false
set_option linter.ambiguousOpen false
set_option linter.unusedSectionVars false
set_option linter.unnecessarySimpa false
set_option linter.unusedVariables false
set_option linter.unusedSimpArgs false
set_option maxRecDepth 100000
set_option maxHeartbeats 1000000
namespace Go.Proofs.YtonnooljidombaaGreat
open Go Go.E
open Go.E.Rep (rd)
open Go.E.Sep (own)
theorem ag38 : aggT Tryz.prog 38 = some false := by kernel_rfl
theorem ag43 : aggT Tryz.prog 43 = some false := by kernel_rfl
theorem ok15 : callable Tryz.prog 15 = true := by kernel_rfl
theorem ok67 : callable Tryz.prog 67 = true := by kernel_rfl
theorem ok68 : callable Tryz.prog 68 = true := by kernel_rfl
theorem ok69 : callable Tryz.prog 69 = true := by kernel_rfl
theorem ok70 : callable Tryz.prog 70 = true := by kernel_rfl
theorem ok71 : callable Tryz.prog 71 = true := by kernel_rfl
theorem ok94 : callable Tryz.prog 94 = true := by kernel_rfl
theorem ok95 : callable Tryz.prog 95 = true := by kernel_rfl
theorem ok134 : callable Tryz.prog 134 = true := by kernel_rfl
theorem ok135 : callable Tryz.prog 135 = true := by kernel_rfl
theorem ok154 : callable Tryz.prog 154 = true := by kernel_rfl
theorem ok181 : callable Tryz.prog 181 = true := by kernel_rfl
theorem eqEquation_spec (w : World) {S S2 : Nat → Prop} (x y : Equation) {cs ds : List Value} (hx : rd S w x cs) (hy : rd S2 w y ds) :
    Ret Tryz.prog 134 #[.agg cs.toArray, .agg ds.toArray] w (fun _ => False) fun v _ => v = .bool (decide (x = y)) := by
  refine enter Tryz.func134 rfl rfl rfl ?_
  have hK1 := hx
  obtain ⟨v1, rfl, hr1, hr2, hr3, hr4, hr5, hr6, hr7, hr8, hs1⟩ := hx
  obtain ⟨A1, c1, rfl, hc1, hm1⟩ := hs1.form
  have hK2 := hy
  obtain ⟨v2, rfl, hr9, hr10, hr11, hr12, hr13, hr14, hr15, hr16, hs2⟩ := hy
  obtain ⟨A2, c2, rfl, hc2, hm2⟩ := hs2.form
  refine Sreg ?_
  refine WL.box rfl rfl rfl rfl rfl fun b1 w1 hEb1 hbb1 hBb1 => ?_
  refine WL.box rfl rfl rfl rfl rfl fun b2 w2 hEb2 hbb2 hBb2 => ?_
  refine Wsn rfl rfl rfl rfl ?_
  refine SSr ?_
  refine Wfa rfl rfl rfl fo165_0 rfl (WL.ev rfl rfl (Ev.lda rfl ag90 sz90 rfl (Blk.part (hBb1.ext hEb2) 0 2) rfl) (Wfa rfl rfl rfl fo165_0 rfl (WL.ev rfl rfl (Ev.lda rfl ag90 sz90 rfl (Blk.part hBb2 0 2) rfl) ?_)))
  refine WL.call rfl rfl rfl rfl rfl ok181 rfl (eqOccurrence_spec _ x.At y.At (rd_ext (Equation_rd_At hK1) (hEb1.trans hEb2)) (rd_ext (Equation_rd_At hK2) (hEb1.trans hEb2))) ?_
  rintro _ w3 hEw3 rfl
  refine WL.ev rfl rfl (Ev.not rfl rfl) (WL.nil ?_)
  refine CW.condN rfl (fun h1 => ?_) (fun h1 => ?_)
  · refine Sreg ?_
    refine Wsn rfl rfl rfl rfl ?_
    refine CW.ret ?_
    have e : x ≠ y := by rintro rfl; exact h1 rfl
    exact ⟨_, res1 rfl rfl rfl, ((hEb1.trans hEb2).trans hEw3), vB (by simp [e])⟩
  · refine CW.skip ?_
    refine SSr ?_
    refine Wfa rfl rfl rfl fo165_1 rfl (WL.ev rfl rfl (Ev.lda rfl ag86 sz86 rfl (Blk.part (hBb1.ext (hEb2.trans hEw3)) 2 7) rfl) (Wfa rfl rfl rfl fo165_1 rfl (WL.ev rfl rfl (Ev.lda rfl ag86 sz86 rfl (Blk.part (hBb2.ext hEw3) 2 7) rfl) ?_)))
    refine WL.call rfl rfl rfl rfl rfl ok182 rfl (eqExpr_spec _ x.Expr y.Expr (rd_ext (Equation_rd_Expr hK1) ((hEb1.trans hEb2).trans hEw3)) (rd_ext (Equation_rd_Expr hK2) ((hEb1.trans hEb2).trans hEw3))) ?_
    rintro _ w4 hEw4 rfl
    refine WL.ev rfl rfl (Ev.not rfl rfl) (WL.nil ?_)
    refine CW.condN rfl (fun h2 => ?_) (fun h2 => ?_)
    · refine Sreg ?_
      refine Wsn rfl rfl rfl rfl ?_
      refine CW.ret ?_
      have e : x ≠ y := by rintro rfl; exact h2 rfl
      exact ⟨_, res1 rfl rfl rfl, (((hEb1.trans hEb2).trans hEw3).trans hEw4), vB (by simp [e])⟩
    · refine CW.skip ?_
      refine Sreg ?_
      refine Wsn rfl rfl rfl rfl ?_
      refine CW.ret ?_
      have e : x = y := by cases x; cases y; simp_all
      exact ⟨_, res1 rfl rfl rfl, (((hEb1.trans hEb2).trans hEw3).trans hEw4), vB (by simp [e])⟩

theorem eqEquationS_spec (w : World) {S S2 : Nat → Prop} (x y : List Equation) {z z2 : Value} (hx : rdS S w x z) (hy : rdS S2 w y z2) :
    Ret Tryz.prog 70 #[z, z2] w (fun _ => False) fun v _ => v = .bool (decide (x = y)) := by
  refine enter Tryz.func70 rfl rfl rfl ?_
  obtain ⟨A1, c1, rfl, hc1, hm1⟩ := hx.form
  have hl1 : x.length ≤ 9223372036854775807 := Nat.le_trans hc1 hm1
  obtain ⟨A2, c2, rfl, hc2, hm2⟩ := hy.form
  have hl2 : y.length ≤ 9223372036854775807 := Nat.le_trans hc2 hm2
  refine Sreg ?_
  refine Wsn rfl rfl rfl rfl ?_
  refine SSr ?_
  refine Wmv rfl rfl rfl rfl (WL.ev rfl rfl (Ev.lenS rfl el42 rfl) (Wmv rfl rfl rfl rfl (WL.ev rfl rfl (Ev.lenS rfl el42 rfl) (WL.ev rfl rfl (Ev.bin rfl rfl rfl Bin.neq) (WL.nil ?_)))))
  refine CW.condN rfl (fun h1 => ?_) (fun h1 => ?_)
  · refine Sreg ?_
    refine Wsn rfl rfl rfl rfl ?_
    refine CW.ret ?_
    have e : x ≠ y := fun e => h1 (by rw [e])
    exact ⟨_, res1 rfl rfl rfl, (Ext.refl _), vB (by simp [e])⟩
  · refine CW.skip ?_
    refine SSr ?_
    refine Wsn rfl rfl rfl rfl ?_
    refine CW.block (CW.loop (α := Nat) (fun q => [(0, .slice A1 x.length c1), (1, .slice A2 y.length c2), (5, .int .i64 (q : Int))]) (fun q wr => Ext w wr ∧ q ≤ x.length ∧ x.take q = y.take q) (fun q => x.length - q) 0 ⟨rfl, rfl, rfl, trivial⟩ ⟨Ext.refl _, by omega, rfl⟩ ?_)
    rintro k σ wr1 ⟨hEwr1, hk, hpre⟩
    refine SSr ?_
    refine Wmv rfl rfl rfl rfl (Wmv rfl rfl rfl rfl (WL.ev rfl rfl (Ev.lenS rfl el42 rfl) (WL.ev rfl rfl (Ev.bin rfl rfl rfl Bin.lss) (WL.nil ?_))))
    refine CW.condD rfl (fun h2 => ?_) (fun h2 => ?_)
    · refine CW.skip ?_
      refine CW.seq (CW.block (CW.seq (CW.quiet hmix (by kernel_rfl) ?_)))
      refine QL.ev rfl rfl (fun _ _ => Ev.mv rfl rfl) (QL.ev rfl rfl (fun _ _ => Ev.mv rfl rfl) ?_)
      obtain ⟨xe1, be1, oe1, cse1, hxe1, hAe1, hSe1, hre1, hAte1⟩ := rdS.el hx (i := k) (by omega)
      have hK1 := hre1
      obtain ⟨v1, rfl, hr1, hr2, hr3, hr4, hr5, hr6, hr7, hr8, hs1⟩ := hre1
      obtain ⟨A3, c3, rfl, hc3, hm3⟩ := hs1.form
      refine QL.ev rfl rfl (fun _ _ => Ev.ixA rfl el42 sz165 rfl hAe1 rfl (by omega)) (QL.ev rfl rfl (fun _ hq => Ev.lda rfl ag165 sz165 rfl (hAte1.ext (hEwr1.trans hq)) rfl) (QL.ev rfl rfl (fun _ _ => Ev.mv rfl rfl) (QL.ev rfl rfl (fun _ _ => Ev.mv rfl rfl) ?_)))
      obtain ⟨xe2, be2, oe2, cse2, hxe2, hAe2, hSe2, hre2, hAte2⟩ := rdS.el hy (i := k) (by omega)
      have hK2 := hre2
      obtain ⟨v2, rfl, hr9, hr10, hr11, hr12, hr13, hr14, hr15, hr16, hs2⟩ := hre2
      obtain ⟨A4, c4, rfl, hc4, hm4⟩ := hs2.form
      refine QL.ev rfl rfl (fun _ _ => Ev.ixA rfl el42 sz165 rfl hAe2 rfl (by omega)) (QL.ev rfl rfl (fun _ hq => Ev.lda rfl ag165 sz165 rfl (hAte2.ext (hEwr1.trans hq)) rfl) (QL.call rfl rfl rfl rfl rfl ok134 rfl (fun _ hq => eqEquation_spec _ xe1 xe2 (rd_ext hK1 (hEwr1.trans hq)) (rd_ext hK2 (hEwr1.trans hq))) (QL.ev rfl rfl (fun _ _ => Ev.not rfl rfl) (QL.nil (fun w1 hEw1 => ?_)))))
      refine CW.condN rfl (fun h3 => ?_) (fun h3 => ?_)
      · refine Sreg ?_
        refine Wsn rfl rfl rfl rfl ?_
        refine CW.ret ?_
        have e : x ≠ y := ne_of_at hxe1 hxe2 h3
        exact ⟨_, res1 rfl rfl rfl, (hEwr1.trans hEw1), vB (by simp [e])⟩
      · refine CW.skip ?_
        refine CW.reg ?_
        refine Wmv rfl rfl rfl rfl (WL.ev rfl rfl (Ev.bin rfl rfl rfl (Bin.add (by omega))) (Wsn rfl rfl rfl rfl ?_))
        exact ⟨k + 1, ⟨rfl, rfl, rfl, trivial⟩, ⟨(hEwr1.trans hEw1), by omega, take_succ_eq hpre hxe1 hxe2 h3⟩, by omega⟩
    · refine CW.exit ?_
      refine Sreg ?_
      refine Wsn rfl rfl rfl rfl ?_
      refine CW.ret ?_
      have e : x = y := eq_of_take (by omega) (by omega) hpre
      exact ⟨_, res1 rfl rfl rfl, hEwr1, vB (by simp [e])⟩

theorem eqContribution_spec (w : World) {S S2 : Nat → Prop} (x y : Contribution) {cs ds : List Value} (hx : rd S w x cs) (hy : rd S2 w y ds) :
    Ret Tryz.prog 135 #[.agg cs.toArray, .agg ds.toArray] w (fun _ => False) fun v _ => v = .bool (decide (x = y)) := by
  refine enter Tryz.func135 rfl rfl rfl ?_
  have hK1 := hx
  obtain ⟨v1, v2, rfl, hr1, hr2, hr3, hr4, hr5, hr6, hr7, hr8, hr9, hr10, hr11, hr12, hr13, hr14, hs1, hs2⟩ := hx
  obtain ⟨A1, c1, rfl, hc1, hm1⟩ := hs1.form
  obtain ⟨A2, c2, rfl, hc2, hm2⟩ := hs2.form
  have hK2 := hy
  obtain ⟨v3, v4, rfl, hr15, hr16, hr17, hr18, hr19, hr20, hr21, hr22, hr23, hr24, hr25, hr26, hr27, hr28, hs3, hs4⟩ := hy
  obtain ⟨A3, c3, rfl, hc3, hm3⟩ := hs3.form
  obtain ⟨A4, c4, rfl, hc4, hm4⟩ := hs4.form
  refine Sreg ?_
  refine WL.box rfl rfl rfl rfl rfl fun b1 w1 hEb1 hbb1 hBb1 => ?_
  refine WL.box rfl rfl rfl rfl rfl fun b2 w2 hEb2 hbb2 hBb2 => ?_
  refine Wsn rfl rfl rfl rfl ?_
  refine SSr ?_
  refine Wfa rfl rfl rfl fo186_0 rfl (WL.ev rfl rfl (Ev.ld rfl ag9 rfl ((hBb1.ext hEb2).cell rfl)) (Wfa rfl rfl rfl fo186_0 rfl (WL.ev rfl rfl (Ev.ld rfl ag9 rfl (hBb2.cell rfl)) (WL.ev rfl rfl (Ev.bin rfl rfl rfl Bin.neqS) (WL.nil ?_)))))
  refine CW.condN rfl (fun h1 => ?_) (fun h1 => ?_)
  · refine Sreg ?_
    refine Wsn rfl rfl rfl rfl ?_
    refine CW.ret ?_
    have e : x ≠ y := by rintro rfl; exact h1 rfl
    exact ⟨_, res1 rfl rfl rfl, (hEb1.trans hEb2), vB (by simp [e])⟩
  · refine CW.skip ?_
    refine SSr ?_
    refine Wfa rfl rfl rfl fo186_1 rfl (WL.ev rfl rfl (Ev.ld rfl ag9 rfl ((hBb1.ext hEb2).cell rfl)) (Wfa rfl rfl rfl fo186_1 rfl (WL.ev rfl rfl (Ev.ld rfl ag9 rfl (hBb2.cell rfl)) (WL.ev rfl rfl (Ev.bin rfl rfl rfl Bin.neqS) (WL.nil ?_)))))
    refine CW.condN rfl (fun h2 => ?_) (fun h2 => ?_)
    · refine Sreg ?_
      refine Wsn rfl rfl rfl rfl ?_
      refine CW.ret ?_
      have e : x ≠ y := by rintro rfl; exact h2 rfl
      exact ⟨_, res1 rfl rfl rfl, (hEb1.trans hEb2), vB (by simp [e])⟩
    · refine CW.skip ?_
      refine SSr ?_
      refine Wfa rfl rfl rfl fo186_2 rfl (WL.ev rfl rfl (Ev.lda rfl ag86 sz86 rfl (Blk.part (hBb1.ext hEb2) 2 7) rfl) (Wfa rfl rfl rfl fo186_2 rfl (WL.ev rfl rfl (Ev.lda rfl ag86 sz86 rfl (Blk.part hBb2 2 7) rfl) ?_)))
      refine WL.call rfl rfl rfl rfl rfl ok182 rfl (eqExpr_spec _ x.Target y.Target (rd_ext (Contribution_rd_Target hK1) (hEb1.trans hEb2)) (rd_ext (Contribution_rd_Target hK2) (hEb1.trans hEb2))) ?_
      rintro _ w3 hEw3 rfl
      refine WL.ev rfl rfl (Ev.not rfl rfl) (WL.nil ?_)
      refine CW.condN rfl (fun h3 => ?_) (fun h3 => ?_)
      · refine Sreg ?_
        refine Wsn rfl rfl rfl rfl ?_
        refine CW.ret ?_
        have e : x ≠ y := by rintro rfl; exact h3 rfl
        exact ⟨_, res1 rfl rfl rfl, ((hEb1.trans hEb2).trans hEw3), vB (by simp [e])⟩
      · refine CW.skip ?_
        refine SSr ?_
        refine Wfa rfl rfl rfl fo186_3 rfl (WL.ev rfl rfl (Ev.lda rfl ag86 sz86 rfl (Blk.part (hBb1.ext (hEb2.trans hEw3)) 9 7) rfl) (Wfa rfl rfl rfl fo186_3 rfl (WL.ev rfl rfl (Ev.lda rfl ag86 sz86 rfl (Blk.part (hBb2.ext hEw3) 9 7) rfl) ?_)))
        refine WL.call rfl rfl rfl rfl rfl ok182 rfl (eqExpr_spec _ x.Value y.Value (rd_ext (Contribution_rd_Value hK1) ((hEb1.trans hEb2).trans hEw3)) (rd_ext (Contribution_rd_Value hK2) ((hEb1.trans hEb2).trans hEw3))) ?_
        rintro _ w4 hEw4 rfl
        refine WL.ev rfl rfl (Ev.not rfl rfl) (WL.nil ?_)
        refine CW.condN rfl (fun h4 => ?_) (fun h4 => ?_)
        · refine Sreg ?_
          refine Wsn rfl rfl rfl rfl ?_
          refine CW.ret ?_
          have e : x ≠ y := by rintro rfl; exact h4 rfl
          exact ⟨_, res1 rfl rfl rfl, (((hEb1.trans hEb2).trans hEw3).trans hEw4), vB (by simp [e])⟩
        · refine CW.skip ?_
          refine Sreg ?_
          refine Wsn rfl rfl rfl rfl ?_
          refine CW.ret ?_
          have e : x = y := by cases x; cases y; simp_all
          exact ⟨_, res1 rfl rfl rfl, (((hEb1.trans hEb2).trans hEw3).trans hEw4), vB (by simp [e])⟩

theorem eqContributionS_spec (w : World) {S S2 : Nat → Prop} (x y : List Contribution) {z z2 : Value} (hx : rdS S w x z) (hy : rdS S2 w y z2) :
    Ret Tryz.prog 71 #[z, z2] w (fun _ => False) fun v _ => v = .bool (decide (x = y)) := by
  refine enter Tryz.func71 rfl rfl rfl ?_
  obtain ⟨A1, c1, rfl, hc1, hm1⟩ := hx.form
  have hl1 : x.length ≤ 9223372036854775807 := Nat.le_trans hc1 hm1
  obtain ⟨A2, c2, rfl, hc2, hm2⟩ := hy.form
  have hl2 : y.length ≤ 9223372036854775807 := Nat.le_trans hc2 hm2
  refine Sreg ?_
  refine Wsn rfl rfl rfl rfl ?_
  refine SSr ?_
  refine Wmv rfl rfl rfl rfl (WL.ev rfl rfl (Ev.lenS rfl el43 rfl) (Wmv rfl rfl rfl rfl (WL.ev rfl rfl (Ev.lenS rfl el43 rfl) (WL.ev rfl rfl (Ev.bin rfl rfl rfl Bin.neq) (WL.nil ?_)))))
  refine CW.condN rfl (fun h1 => ?_) (fun h1 => ?_)
  · refine Sreg ?_
    refine Wsn rfl rfl rfl rfl ?_
    refine CW.ret ?_
    have e : x ≠ y := fun e => h1 (by rw [e])
    exact ⟨_, res1 rfl rfl rfl, (Ext.refl _), vB (by simp [e])⟩
  · refine CW.skip ?_
    refine SSr ?_
    refine Wsn rfl rfl rfl rfl ?_
    refine CW.block (CW.loop (α := Nat) (fun q => [(0, .slice A1 x.length c1), (1, .slice A2 y.length c2), (5, .int .i64 (q : Int))]) (fun q wr => Ext w wr ∧ q ≤ x.length ∧ x.take q = y.take q) (fun q => x.length - q) 0 ⟨rfl, rfl, rfl, trivial⟩ ⟨Ext.refl _, by omega, rfl⟩ ?_)
    rintro k σ wr1 ⟨hEwr1, hk, hpre⟩
    refine SSr ?_
    refine Wmv rfl rfl rfl rfl (Wmv rfl rfl rfl rfl (WL.ev rfl rfl (Ev.lenS rfl el43 rfl) (WL.ev rfl rfl (Ev.bin rfl rfl rfl Bin.lss) (WL.nil ?_))))
    refine CW.condD rfl (fun h2 => ?_) (fun h2 => ?_)
    · refine CW.skip ?_
      refine CW.seq (CW.block (CW.seq (CW.quiet hmix (by kernel_rfl) ?_)))
      refine QL.ev rfl rfl (fun _ _ => Ev.mv rfl rfl) (QL.ev rfl rfl (fun _ _ => Ev.mv rfl rfl) ?_)
      obtain ⟨xe1, be1, oe1, cse1, hxe1, hAe1, hSe1, hre1, hAte1⟩ := rdS.el hx (i := k) (by omega)
      have hK1 := hre1
      obtain ⟨v1, v2, rfl, hr1, hr2, hr3, hr4, hr5, hr6, hr7, hr8, hr9, hr10, hr11, hr12, hr13, hr14, hs1, hs2⟩ := hre1
      obtain ⟨A3, c3, rfl, hc3, hm3⟩ := hs1.form
      obtain ⟨A4, c4, rfl, hc4, hm4⟩ := hs2.form
      refine QL.ev rfl rfl (fun _ _ => Ev.ixA rfl el43 sz186 rfl hAe1 rfl (by omega)) (QL.ev rfl rfl (fun _ hq => Ev.lda rfl ag186 sz186 rfl (hAte1.ext (hEwr1.trans hq)) rfl) (QL.ev rfl rfl (fun _ _ => Ev.mv rfl rfl) (QL.ev rfl rfl (fun _ _ => Ev.mv rfl rfl) ?_)))
      obtain ⟨xe2, be2, oe2, cse2, hxe2, hAe2, hSe2, hre2, hAte2⟩ := rdS.el hy (i := k) (by omega)
      have hK2 := hre2
      obtain ⟨v3, v4, rfl, hr15, hr16, hr17, hr18, hr19, hr20, hr21, hr22, hr23, hr24, hr25, hr26, hr27, hr28, hs3, hs4⟩ := hre2
      obtain ⟨A5, c5, rfl, hc5, hm5⟩ := hs3.form
      obtain ⟨A6, c6, rfl, hc6, hm6⟩ := hs4.form
      refine QL.ev rfl rfl (fun _ _ => Ev.ixA rfl el43 sz186 rfl hAe2 rfl (by omega)) (QL.ev rfl rfl (fun _ hq => Ev.lda rfl ag186 sz186 rfl (hAte2.ext (hEwr1.trans hq)) rfl) (QL.call rfl rfl rfl rfl rfl ok135 rfl (fun _ hq => eqContribution_spec _ xe1 xe2 (rd_ext hK1 (hEwr1.trans hq)) (rd_ext hK2 (hEwr1.trans hq))) (QL.ev rfl rfl (fun _ _ => Ev.not rfl rfl) (QL.nil (fun w1 hEw1 => ?_)))))
      refine CW.condN rfl (fun h3 => ?_) (fun h3 => ?_)
      · refine Sreg ?_
        refine Wsn rfl rfl rfl rfl ?_
        refine CW.ret ?_
        have e : x ≠ y := ne_of_at hxe1 hxe2 h3
        exact ⟨_, res1 rfl rfl rfl, (hEwr1.trans hEw1), vB (by simp [e])⟩
      · refine CW.skip ?_
        refine CW.reg ?_
        refine Wmv rfl rfl rfl rfl (WL.ev rfl rfl (Ev.bin rfl rfl rfl (Bin.add (by omega))) (Wsn rfl rfl rfl rfl ?_))
        exact ⟨k + 1, ⟨rfl, rfl, rfl, trivial⟩, ⟨(hEwr1.trans hEw1), by omega, take_succ_eq hpre hxe1 hxe2 h3⟩, by omega⟩
    · refine CW.exit ?_
      refine Sreg ?_
      refine Wsn rfl rfl rfl rfl ?_
      refine CW.ret ?_
      have e : x = y := eq_of_take (by omega) (by omega) hpre
      exact ⟨_, res1 rfl rfl rfl, hEwr1, vB (by simp [e])⟩

theorem eqRule_spec (w : World) {S S2 : Nat → Prop} (x y : Rule) {cs ds : List Value} (hx : rd S w x cs) (hy : rd S2 w y ds) :
    Ret Tryz.prog 15 #[.agg cs.toArray, .agg ds.toArray] w (fun _ => False) fun v _ => v = .bool (decide (x = y)) := by
  refine enter Tryz.func15 rfl rfl rfl ?_
  have hK1 := hx
  obtain ⟨v1, v2, v3, rfl, hr1, hr2, hs1, hs2, hs3⟩ := hx
  obtain ⟨A1, c1, rfl, hc1, hm1⟩ := hs1.form
  obtain ⟨A2, c2, rfl, hc2, hm2⟩ := hs2.form
  obtain ⟨A3, c3, rfl, hc3, hm3⟩ := hs3.form
  have hK2 := hy
  obtain ⟨v4, v5, v6, rfl, hr3, hr4, hs4, hs5, hs6⟩ := hy
  obtain ⟨A4, c4, rfl, hc4, hm4⟩ := hs4.form
  obtain ⟨A5, c5, rfl, hc5, hm5⟩ := hs5.form
  obtain ⟨A6, c6, rfl, hc6, hm6⟩ := hs6.form
  refine Sreg ?_
  refine WL.box rfl rfl rfl rfl rfl fun b1 w1 hEb1 hbb1 hBb1 => ?_
  refine WL.box rfl rfl rfl rfl rfl fun b2 w2 hEb2 hbb2 hBb2 => ?_
  refine Wsn rfl rfl rfl rfl ?_
  refine SSr ?_
  refine Wfa rfl rfl rfl fo45_0 rfl (WL.ev rfl rfl (Ev.ld rfl ag9 rfl ((hBb1.ext hEb2).cell rfl)) (Wfa rfl rfl rfl fo45_0 rfl (WL.ev rfl rfl (Ev.ld rfl ag9 rfl (hBb2.cell rfl)) (WL.ev rfl rfl (Ev.bin rfl rfl rfl Bin.neqS) (WL.nil ?_)))))
  refine CW.condN rfl (fun h1 => ?_) (fun h1 => ?_)
  · refine Sreg ?_
    refine Wsn rfl rfl rfl rfl ?_
    refine CW.ret ?_
    have e : x ≠ y := by rintro rfl; exact h1 rfl
    exact ⟨_, res1 rfl rfl rfl, (hEb1.trans hEb2), vB (by simp [e])⟩
  · refine CW.skip ?_
    refine SSr ?_
    refine Wfa rfl rfl rfl fo45_1 rfl (WL.ev rfl rfl (Ev.ld rfl ag9 rfl ((hBb1.ext hEb2).cell rfl)) (Wfa rfl rfl rfl fo45_1 rfl (WL.ev rfl rfl (Ev.ld rfl ag9 rfl (hBb2.cell rfl)) (WL.ev rfl rfl (Ev.bin rfl rfl rfl Bin.neqS) (WL.nil ?_)))))
    refine CW.condN rfl (fun h2 => ?_) (fun h2 => ?_)
    · refine Sreg ?_
      refine Wsn rfl rfl rfl rfl ?_
      refine CW.ret ?_
      have e : x ≠ y := by rintro rfl; exact h2 rfl
      exact ⟨_, res1 rfl rfl rfl, (hEb1.trans hEb2), vB (by simp [e])⟩
    · refine CW.skip ?_
      refine SSr ?_
      refine Wfa rfl rfl rfl fo45_2 rfl (WL.ev rfl rfl (Ev.ld rfl ag26 rfl ((hBb1.ext hEb2).cell rfl)) (Wfa rfl rfl rfl fo45_2 rfl (WL.ev rfl rfl (Ev.ld rfl ag26 rfl (hBb2.cell rfl)) ?_)))
      refine WL.call rfl rfl rfl rfl rfl ok69 rfl (eqStringS_spec _ x.Right y.Right (hs1.ext (hEb1.trans hEb2)) (hs4.ext (hEb1.trans hEb2))) ?_
      rintro _ w3 hEw3 rfl
      refine WL.ev rfl rfl (Ev.not rfl rfl) (WL.nil ?_)
      refine CW.condN rfl (fun h3 => ?_) (fun h3 => ?_)
      · refine Sreg ?_
        refine Wsn rfl rfl rfl rfl ?_
        refine CW.ret ?_
        have e : x ≠ y := by rintro rfl; exact h3 rfl
        exact ⟨_, res1 rfl rfl rfl, ((hEb1.trans hEb2).trans hEw3), vB (by simp [e])⟩
      · refine CW.skip ?_
        refine SSr ?_
        refine Wfa rfl rfl rfl fo45_3 rfl (WL.ev rfl rfl (Ev.ld rfl ag4 rfl ((hBb1.ext (hEb2.trans hEw3)).cell rfl)) (Wfa rfl rfl rfl fo45_3 rfl (WL.ev rfl rfl (Ev.ld rfl ag4 rfl ((hBb2.ext hEw3).cell rfl)) (WL.ev rfl rfl (Ev.bin rfl rfl rfl (Bin.neqBo Tryz.underlying4)) (WL.nil ?_)))))
        refine CW.condN rfl (fun h4 => ?_) (fun h4 => ?_)
        · refine Sreg ?_
          refine Wsn rfl rfl rfl rfl ?_
          refine CW.ret ?_
          have e : x ≠ y := by rintro rfl; exact h4 rfl
          exact ⟨_, res1 rfl rfl rfl, ((hEb1.trans hEb2).trans hEw3), vB (by simp [e])⟩
        · refine CW.skip ?_
          refine SSr ?_
          refine Wfa rfl rfl rfl fo45_4 rfl (WL.ev rfl rfl (Ev.ld rfl ag42 rfl ((hBb1.ext (hEb2.trans hEw3)).cell rfl)) (Wfa rfl rfl rfl fo45_4 rfl (WL.ev rfl rfl (Ev.ld rfl ag42 rfl ((hBb2.ext hEw3).cell rfl)) ?_)))
          refine WL.call rfl rfl rfl rfl rfl ok70 rfl (eqEquationS_spec _ x.Equations y.Equations (hs2.ext ((hEb1.trans hEb2).trans hEw3)) (hs5.ext ((hEb1.trans hEb2).trans hEw3))) ?_
          rintro _ w4 hEw4 rfl
          refine WL.ev rfl rfl (Ev.not rfl rfl) (WL.nil ?_)
          refine CW.condN rfl (fun h5 => ?_) (fun h5 => ?_)
          · refine Sreg ?_
            refine Wsn rfl rfl rfl rfl ?_
            refine CW.ret ?_
            have e : x ≠ y := by rintro rfl; exact h5 rfl
            exact ⟨_, res1 rfl rfl rfl, (((hEb1.trans hEb2).trans hEw3).trans hEw4), vB (by simp [e])⟩
          · refine CW.skip ?_
            refine SSr ?_
            refine Wfa rfl rfl rfl fo45_5 rfl (WL.ev rfl rfl (Ev.ld rfl ag43 rfl ((hBb1.ext ((hEb2.trans hEw3).trans hEw4)).cell rfl)) (Wfa rfl rfl rfl fo45_5 rfl (WL.ev rfl rfl (Ev.ld rfl ag43 rfl ((hBb2.ext (hEw3.trans hEw4)).cell rfl)) ?_)))
            refine WL.call rfl rfl rfl rfl rfl ok71 rfl (eqContributionS_spec _ x.Contributions y.Contributions (hs3.ext (((hEb1.trans hEb2).trans hEw3).trans hEw4)) (hs6.ext (((hEb1.trans hEb2).trans hEw3).trans hEw4))) ?_
            rintro _ w5 hEw5 rfl
            refine WL.ev rfl rfl (Ev.not rfl rfl) (WL.nil ?_)
            refine CW.condN rfl (fun h6 => ?_) (fun h6 => ?_)
            · refine Sreg ?_
              refine Wsn rfl rfl rfl rfl ?_
              refine CW.ret ?_
              have e : x ≠ y := by rintro rfl; exact h6 rfl
              exact ⟨_, res1 rfl rfl rfl, ((((hEb1.trans hEb2).trans hEw3).trans hEw4).trans hEw5), vB (by simp [e])⟩
            · refine CW.skip ?_
              refine Sreg ?_
              refine Wsn rfl rfl rfl rfl ?_
              refine CW.ret ?_
              have e : x = y := by cases x; cases y; simp_all
              exact ⟨_, res1 rfl rfl rfl, ((((hEb1.trans hEb2).trans hEw3).trans hEw4).trans hEw5), vB (by simp [e])⟩

theorem eqRuleS_spec (w : World) {S S2 : Nat → Prop} (x y : List Rule) {z z2 : Value} (hx : rdS S w x z) (hy : rdS S2 w y z2) :
    Ret Tryz.prog 68 #[z, z2] w (fun _ => False) fun v _ => v = .bool (decide (x = y)) := by
  refine enter Tryz.func68 rfl rfl rfl ?_
  obtain ⟨A1, c1, rfl, hc1, hm1⟩ := hx.form
  have hl1 : x.length ≤ 9223372036854775807 := Nat.le_trans hc1 hm1
  obtain ⟨A2, c2, rfl, hc2, hm2⟩ := hy.form
  have hl2 : y.length ≤ 9223372036854775807 := Nat.le_trans hc2 hm2
  refine Sreg ?_
  refine Wsn rfl rfl rfl rfl ?_
  refine SSr ?_
  refine Wmv rfl rfl rfl rfl (WL.ev rfl rfl (Ev.lenS rfl el38 rfl) (Wmv rfl rfl rfl rfl (WL.ev rfl rfl (Ev.lenS rfl el38 rfl) (WL.ev rfl rfl (Ev.bin rfl rfl rfl Bin.neq) (WL.nil ?_)))))
  refine CW.condN rfl (fun h1 => ?_) (fun h1 => ?_)
  · refine Sreg ?_
    refine Wsn rfl rfl rfl rfl ?_
    refine CW.ret ?_
    have e : x ≠ y := fun e => h1 (by rw [e])
    exact ⟨_, res1 rfl rfl rfl, (Ext.refl _), vB (by simp [e])⟩
  · refine CW.skip ?_
    refine SSr ?_
    refine Wsn rfl rfl rfl rfl ?_
    refine CW.block (CW.loop (α := Nat) (fun q => [(0, .slice A1 x.length c1), (1, .slice A2 y.length c2), (5, .int .i64 (q : Int))]) (fun q wr => Ext w wr ∧ q ≤ x.length ∧ x.take q = y.take q) (fun q => x.length - q) 0 ⟨rfl, rfl, rfl, trivial⟩ ⟨Ext.refl _, by omega, rfl⟩ ?_)
    rintro k σ wr1 ⟨hEwr1, hk, hpre⟩
    refine SSr ?_
    refine Wmv rfl rfl rfl rfl (Wmv rfl rfl rfl rfl (WL.ev rfl rfl (Ev.lenS rfl el38 rfl) (WL.ev rfl rfl (Ev.bin rfl rfl rfl Bin.lss) (WL.nil ?_))))
    refine CW.condD rfl (fun h2 => ?_) (fun h2 => ?_)
    · refine CW.skip ?_
      refine CW.seq (CW.block (CW.seq (CW.quiet hmix (by kernel_rfl) ?_)))
      refine QL.ev rfl rfl (fun _ _ => Ev.mv rfl rfl) (QL.ev rfl rfl (fun _ _ => Ev.mv rfl rfl) ?_)
      obtain ⟨xe1, be1, oe1, cse1, hxe1, hAe1, hSe1, hre1, hAte1⟩ := rdS.el hx (i := k) (by omega)
      have hK1 := hre1
      obtain ⟨v1, v2, v3, rfl, hr1, hr2, hs1, hs2, hs3⟩ := hre1
      obtain ⟨A3, c3, rfl, hc3, hm3⟩ := hs1.form
      obtain ⟨A4, c4, rfl, hc4, hm4⟩ := hs2.form
      obtain ⟨A5, c5, rfl, hc5, hm5⟩ := hs3.form
      refine QL.ev rfl rfl (fun _ _ => Ev.ixA rfl el38 sz45 rfl hAe1 rfl (by omega)) (QL.ev rfl rfl (fun _ hq => Ev.lda rfl ag45 sz45 rfl (hAte1.ext (hEwr1.trans hq)) rfl) (QL.ev rfl rfl (fun _ _ => Ev.mv rfl rfl) (QL.ev rfl rfl (fun _ _ => Ev.mv rfl rfl) ?_)))
      obtain ⟨xe2, be2, oe2, cse2, hxe2, hAe2, hSe2, hre2, hAte2⟩ := rdS.el hy (i := k) (by omega)
      have hK2 := hre2
      obtain ⟨v4, v5, v6, rfl, hr3, hr4, hs4, hs5, hs6⟩ := hre2
      obtain ⟨A6, c6, rfl, hc6, hm6⟩ := hs4.form
      obtain ⟨A7, c7, rfl, hc7, hm7⟩ := hs5.form
      obtain ⟨A8, c8, rfl, hc8, hm8⟩ := hs6.form
      refine QL.ev rfl rfl (fun _ _ => Ev.ixA rfl el38 sz45 rfl hAe2 rfl (by omega)) (QL.ev rfl rfl (fun _ hq => Ev.lda rfl ag45 sz45 rfl (hAte2.ext (hEwr1.trans hq)) rfl) (QL.call rfl rfl rfl rfl rfl ok15 rfl (fun _ hq => eqRule_spec _ xe1 xe2 (rd_ext hK1 (hEwr1.trans hq)) (rd_ext hK2 (hEwr1.trans hq))) (QL.ev rfl rfl (fun _ _ => Ev.not rfl rfl) (QL.nil (fun w1 hEw1 => ?_)))))
      refine CW.condN rfl (fun h3 => ?_) (fun h3 => ?_)
      · refine Sreg ?_
        refine Wsn rfl rfl rfl rfl ?_
        refine CW.ret ?_
        have e : x ≠ y := ne_of_at hxe1 hxe2 h3
        exact ⟨_, res1 rfl rfl rfl, (hEwr1.trans hEw1), vB (by simp [e])⟩
      · refine CW.skip ?_
        refine CW.reg ?_
        refine Wmv rfl rfl rfl rfl (WL.ev rfl rfl (Ev.bin rfl rfl rfl (Bin.add (by omega))) (Wsn rfl rfl rfl rfl ?_))
        exact ⟨k + 1, ⟨rfl, rfl, rfl, trivial⟩, ⟨(hEwr1.trans hEw1), by omega, take_succ_eq hpre hxe1 hxe2 h3⟩, by omega⟩
    · refine CW.exit ?_
      refine Sreg ?_
      refine Wsn rfl rfl rfl rfl ?_
      refine CW.ret ?_
      have e : x = y := eq_of_take (by omega) (by omega) hpre
      exact ⟨_, res1 rfl rfl rfl, hEwr1, vB (by simp [e])⟩

theorem eqGrammar_spec (w : World) {S S2 : Nat → Prop} (x y : Grammar) {cs ds : List Value} (hx : rd S w x cs) (hy : rd S2 w y ds) :
    Ret Tryz.prog 14 #[.agg cs.toArray, .agg ds.toArray] w (fun _ => False) fun v _ => v = .bool (decide (x = y)) := by
  refine enter Tryz.func14 rfl rfl rfl ?_
  have hK1 := hx
  obtain ⟨v1, v2, rfl, hs1, hs2⟩ := hx
  obtain ⟨A1, c1, rfl, hc1, hm1⟩ := hs1.form
  obtain ⟨A2, c2, rfl, hc2, hm2⟩ := hs2.form
  have hK2 := hy
  obtain ⟨v3, v4, rfl, hs3, hs4⟩ := hy
  obtain ⟨A3, c3, rfl, hc3, hm3⟩ := hs3.form
  obtain ⟨A4, c4, rfl, hc4, hm4⟩ := hs4.form
  refine Sreg ?_
  refine WL.box rfl rfl rfl rfl rfl fun b1 w1 hEb1 hbb1 hBb1 => ?_
  refine WL.box rfl rfl rfl rfl rfl fun b2 w2 hEb2 hbb2 hBb2 => ?_
  refine Wsn rfl rfl rfl rfl ?_
  refine SSr ?_
  refine Wfa rfl rfl rfl fo40_0 rfl (WL.ev rfl rfl (Ev.ld rfl ag37 rfl ((hBb1.ext hEb2).cell rfl)) (Wfa rfl rfl rfl fo40_0 rfl (WL.ev rfl rfl (Ev.ld rfl ag37 rfl (hBb2.cell rfl)) ?_)))
  refine WL.call rfl rfl rfl rfl rfl ok67 rfl (eqSymbolS_spec _ x.Symbols y.Symbols (hs1.ext (hEb1.trans hEb2)) (hs3.ext (hEb1.trans hEb2))) ?_
  rintro _ w3 hEw3 rfl
  refine WL.ev rfl rfl (Ev.not rfl rfl) (WL.nil ?_)
  refine CW.condN rfl (fun h1 => ?_) (fun h1 => ?_)
  · refine Sreg ?_
    refine Wsn rfl rfl rfl rfl ?_
    refine CW.ret ?_
    have e : x ≠ y := by rintro rfl; exact h1 rfl
    exact ⟨_, res1 rfl rfl rfl, ((hEb1.trans hEb2).trans hEw3), vB (by simp [e])⟩
  · refine CW.skip ?_
    refine SSr ?_
    refine Wfa rfl rfl rfl fo40_1 rfl (WL.ev rfl rfl (Ev.ld rfl ag38 rfl ((hBb1.ext (hEb2.trans hEw3)).cell rfl)) (Wfa rfl rfl rfl fo40_1 rfl (WL.ev rfl rfl (Ev.ld rfl ag38 rfl ((hBb2.ext hEw3).cell rfl)) ?_)))
    refine WL.call rfl rfl rfl rfl rfl ok68 rfl (eqRuleS_spec _ x.Rules y.Rules (hs2.ext ((hEb1.trans hEb2).trans hEw3)) (hs4.ext ((hEb1.trans hEb2).trans hEw3))) ?_
    rintro _ w4 hEw4 rfl
    refine WL.ev rfl rfl (Ev.not rfl rfl) (WL.nil ?_)
    refine CW.condN rfl (fun h2 => ?_) (fun h2 => ?_)
    · refine Sreg ?_
      refine Wsn rfl rfl rfl rfl ?_
      refine CW.ret ?_
      have e : x ≠ y := by rintro rfl; exact h2 rfl
      exact ⟨_, res1 rfl rfl rfl, (((hEb1.trans hEb2).trans hEw3).trans hEw4), vB (by simp [e])⟩
    · refine CW.skip ?_
      refine Sreg ?_
      refine Wsn rfl rfl rfl rfl ?_
      refine CW.ret ?_
      have e : x = y := by cases x; cases y; simp_all
      exact ⟨_, res1 rfl rfl rfl, (((hEb1.trans hEb2).trans hEw3).trans hEw4), vB (by simp [e])⟩

theorem eqPhase_spec (w : World) {S S2 : Nat → Prop} (x y : Phase) {cs ds : List Value} (hx : rd S w x cs) (hy : rd S2 w y ds) :
    Ret Tryz.prog 154 #[.agg cs.toArray, .agg ds.toArray] w (fun _ => False) fun v _ => v = .bool (decide (x = y)) := by
  refine enter Tryz.func154 rfl rfl rfl ?_
  have hK1 := hx
  obtain ⟨v1, v2, rfl, hs1, hs2⟩ := hx
  obtain ⟨A1, c1, rfl, hc1, hm1⟩ := hs1.form
  obtain ⟨A2, c2, rfl, hc2, hm2⟩ := hs2.form
  have hK2 := hy
  obtain ⟨v3, v4, rfl, hs3, hs4⟩ := hy
  obtain ⟨A3, c3, rfl, hc3, hm3⟩ := hs3.form
  obtain ⟨A4, c4, rfl, hc4, hm4⟩ := hs4.form
  refine Sreg ?_
  refine WL.box rfl rfl rfl rfl rfl fun b1 w1 hEb1 hbb1 hBb1 => ?_
  refine WL.box rfl rfl rfl rfl rfl fun b2 w2 hEb2 hbb2 hBb2 => ?_
  refine Wsn rfl rfl rfl rfl ?_
  refine SSr ?_
  refine Wfa rfl rfl rfl fo129_0 rfl (WL.ev rfl rfl (Ev.ld rfl ag26 rfl ((hBb1.ext hEb2).cell rfl)) (Wfa rfl rfl rfl fo129_0 rfl (WL.ev rfl rfl (Ev.ld rfl ag26 rfl (hBb2.cell rfl)) ?_)))
  refine WL.call rfl rfl rfl rfl rfl ok69 rfl (eqStringS_spec _ x.Inherited y.Inherited (hs1.ext (hEb1.trans hEb2)) (hs3.ext (hEb1.trans hEb2))) ?_
  rintro _ w3 hEw3 rfl
  refine WL.ev rfl rfl (Ev.not rfl rfl) (WL.nil ?_)
  refine CW.condN rfl (fun h1 => ?_) (fun h1 => ?_)
  · refine Sreg ?_
    refine Wsn rfl rfl rfl rfl ?_
    refine CW.ret ?_
    have e : x ≠ y := by rintro rfl; exact h1 rfl
    exact ⟨_, res1 rfl rfl rfl, ((hEb1.trans hEb2).trans hEw3), vB (by simp [e])⟩
  · refine CW.skip ?_
    refine SSr ?_
    refine Wfa rfl rfl rfl fo129_1 rfl (WL.ev rfl rfl (Ev.ld rfl ag26 rfl ((hBb1.ext (hEb2.trans hEw3)).cell rfl)) (Wfa rfl rfl rfl fo129_1 rfl (WL.ev rfl rfl (Ev.ld rfl ag26 rfl ((hBb2.ext hEw3).cell rfl)) ?_)))
    refine WL.call rfl rfl rfl rfl rfl ok69 rfl (eqStringS_spec _ x.Synthesized y.Synthesized (hs2.ext ((hEb1.trans hEb2).trans hEw3)) (hs4.ext ((hEb1.trans hEb2).trans hEw3))) ?_
    rintro _ w4 hEw4 rfl
    refine WL.ev rfl rfl (Ev.not rfl rfl) (WL.nil ?_)
    refine CW.condN rfl (fun h2 => ?_) (fun h2 => ?_)
    · refine Sreg ?_
      refine Wsn rfl rfl rfl rfl ?_
      refine CW.ret ?_
      have e : x ≠ y := by rintro rfl; exact h2 rfl
      exact ⟨_, res1 rfl rfl rfl, (((hEb1.trans hEb2).trans hEw3).trans hEw4), vB (by simp [e])⟩
    · refine CW.skip ?_
      refine Sreg ?_
      refine Wsn rfl rfl rfl rfl ?_
      refine CW.ret ?_
      have e : x = y := by cases x; cases y; simp_all
      exact ⟨_, res1 rfl rfl rfl, (((hEb1.trans hEb2).trans hEw3).trans hEw4), vB (by simp [e])⟩

theorem eqPhaseS_spec (w : World) {S S2 : Nat → Prop} (x y : List Phase) {z z2 : Value} (hx : rdS S w x z) (hy : rdS S2 w y z2) :
    Ret Tryz.prog 94 #[z, z2] w (fun _ => False) fun v _ => v = .bool (decide (x = y)) := by
  refine enter Tryz.func94 rfl rfl rfl ?_
  obtain ⟨A1, c1, rfl, hc1, hm1⟩ := hx.form
  have hl1 : x.length ≤ 9223372036854775807 := Nat.le_trans hc1 hm1
  obtain ⟨A2, c2, rfl, hc2, hm2⟩ := hy.form
  have hl2 : y.length ≤ 9223372036854775807 := Nat.le_trans hc2 hm2
  refine Sreg ?_
  refine Wsn rfl rfl rfl rfl ?_
  refine SSr ?_
  refine Wmv rfl rfl rfl rfl (WL.ev rfl rfl (Ev.lenS rfl el125 rfl) (Wmv rfl rfl rfl rfl (WL.ev rfl rfl (Ev.lenS rfl el125 rfl) (WL.ev rfl rfl (Ev.bin rfl rfl rfl Bin.neq) (WL.nil ?_)))))
  refine CW.condN rfl (fun h1 => ?_) (fun h1 => ?_)
  · refine Sreg ?_
    refine Wsn rfl rfl rfl rfl ?_
    refine CW.ret ?_
    have e : x ≠ y := fun e => h1 (by rw [e])
    exact ⟨_, res1 rfl rfl rfl, (Ext.refl _), vB (by simp [e])⟩
  · refine CW.skip ?_
    refine SSr ?_
    refine Wsn rfl rfl rfl rfl ?_
    refine CW.block (CW.loop (α := Nat) (fun q => [(0, .slice A1 x.length c1), (1, .slice A2 y.length c2), (5, .int .i64 (q : Int))]) (fun q wr => Ext w wr ∧ q ≤ x.length ∧ x.take q = y.take q) (fun q => x.length - q) 0 ⟨rfl, rfl, rfl, trivial⟩ ⟨Ext.refl _, by omega, rfl⟩ ?_)
    rintro k σ wr1 ⟨hEwr1, hk, hpre⟩
    refine SSr ?_
    refine Wmv rfl rfl rfl rfl (Wmv rfl rfl rfl rfl (WL.ev rfl rfl (Ev.lenS rfl el125 rfl) (WL.ev rfl rfl (Ev.bin rfl rfl rfl Bin.lss) (WL.nil ?_))))
    refine CW.condD rfl (fun h2 => ?_) (fun h2 => ?_)
    · refine CW.skip ?_
      refine CW.seq (CW.block (CW.seq (CW.quiet hmix (by kernel_rfl) ?_)))
      refine QL.ev rfl rfl (fun _ _ => Ev.mv rfl rfl) (QL.ev rfl rfl (fun _ _ => Ev.mv rfl rfl) ?_)
      obtain ⟨xe1, be1, oe1, cse1, hxe1, hAe1, hSe1, hre1, hAte1⟩ := rdS.el hx (i := k) (by omega)
      have hK1 := hre1
      obtain ⟨v1, v2, rfl, hs1, hs2⟩ := hre1
      obtain ⟨A3, c3, rfl, hc3, hm3⟩ := hs1.form
      obtain ⟨A4, c4, rfl, hc4, hm4⟩ := hs2.form
      refine QL.ev rfl rfl (fun _ _ => Ev.ixA rfl el125 sz129 rfl hAe1 rfl (by omega)) (QL.ev rfl rfl (fun _ hq => Ev.lda rfl ag129 sz129 rfl (hAte1.ext (hEwr1.trans hq)) rfl) (QL.ev rfl rfl (fun _ _ => Ev.mv rfl rfl) (QL.ev rfl rfl (fun _ _ => Ev.mv rfl rfl) ?_)))
      obtain ⟨xe2, be2, oe2, cse2, hxe2, hAe2, hSe2, hre2, hAte2⟩ := rdS.el hy (i := k) (by omega)
      have hK2 := hre2
      obtain ⟨v3, v4, rfl, hs3, hs4⟩ := hre2
      obtain ⟨A5, c5, rfl, hc5, hm5⟩ := hs3.form
      obtain ⟨A6, c6, rfl, hc6, hm6⟩ := hs4.form
      refine QL.ev rfl rfl (fun _ _ => Ev.ixA rfl el125 sz129 rfl hAe2 rfl (by omega)) (QL.ev rfl rfl (fun _ hq => Ev.lda rfl ag129 sz129 rfl (hAte2.ext (hEwr1.trans hq)) rfl) (QL.call rfl rfl rfl rfl rfl ok154 rfl (fun _ hq => eqPhase_spec _ xe1 xe2 (rd_ext hK1 (hEwr1.trans hq)) (rd_ext hK2 (hEwr1.trans hq))) (QL.ev rfl rfl (fun _ _ => Ev.not rfl rfl) (QL.nil (fun w1 hEw1 => ?_)))))
      refine CW.condN rfl (fun h3 => ?_) (fun h3 => ?_)
      · refine Sreg ?_
        refine Wsn rfl rfl rfl rfl ?_
        refine CW.ret ?_
        have e : x ≠ y := ne_of_at hxe1 hxe2 h3
        exact ⟨_, res1 rfl rfl rfl, (hEwr1.trans hEw1), vB (by simp [e])⟩
      · refine CW.skip ?_
        refine CW.reg ?_
        refine Wmv rfl rfl rfl rfl (WL.ev rfl rfl (Ev.bin rfl rfl rfl (Bin.add (by omega))) (Wsn rfl rfl rfl rfl ?_))
        exact ⟨k + 1, ⟨rfl, rfl, rfl, trivial⟩, ⟨(hEwr1.trans hEw1), by omega, take_succ_eq hpre hxe1 hxe2 h3⟩, by omega⟩
    · refine CW.exit ?_
      refine Sreg ?_
      refine Wsn rfl rfl rfl rfl ?_
      refine CW.ret ?_
      have e : x = y := eq_of_take (by omega) (by omega) hpre
      exact ⟨_, res1 rfl rfl rfl, hEwr1, vB (by simp [e])⟩

theorem eqPhaseSS_spec (w : World) {S S2 : Nat → Prop} (x y : List (List Phase)) {z z2 : Value} (hx : rdS S w x z) (hy : rdS S2 w y z2) :
    Ret Tryz.prog 26 #[z, z2] w (fun _ => False) fun v _ => v = .bool (decide (x = y)) := by
  refine enter Tryz.func26 rfl rfl rfl ?_
  obtain ⟨A1, c1, rfl, hc1, hm1⟩ := hx.form
  have hl1 : x.length ≤ 9223372036854775807 := Nat.le_trans hc1 hm1
  obtain ⟨A2, c2, rfl, hc2, hm2⟩ := hy.form
  have hl2 : y.length ≤ 9223372036854775807 := Nat.le_trans hc2 hm2
  refine Sreg ?_
  refine Wsn rfl rfl rfl rfl ?_
  refine SSr ?_
  refine Wmv rfl rfl rfl rfl (WL.ev rfl rfl (Ev.lenS rfl el59 rfl) (Wmv rfl rfl rfl rfl (WL.ev rfl rfl (Ev.lenS rfl el59 rfl) (WL.ev rfl rfl (Ev.bin rfl rfl rfl Bin.neq) (WL.nil ?_)))))
  refine CW.condN rfl (fun h1 => ?_) (fun h1 => ?_)
  · refine Sreg ?_
    refine Wsn rfl rfl rfl rfl ?_
    refine CW.ret ?_
    have e : x ≠ y := fun e => h1 (by rw [e])
    exact ⟨_, res1 rfl rfl rfl, (Ext.refl _), vB (by simp [e])⟩
  · refine CW.skip ?_
    refine SSr ?_
    refine Wsn rfl rfl rfl rfl ?_
    refine CW.block (CW.loop (α := Nat) (fun q => [(0, .slice A1 x.length c1), (1, .slice A2 y.length c2), (5, .int .i64 (q : Int))]) (fun q wr => Ext w wr ∧ q ≤ x.length ∧ x.take q = y.take q) (fun q => x.length - q) 0 ⟨rfl, rfl, rfl, trivial⟩ ⟨Ext.refl _, by omega, rfl⟩ ?_)
    rintro k σ wr1 ⟨hEwr1, hk, hpre⟩
    refine SSr ?_
    refine Wmv rfl rfl rfl rfl (Wmv rfl rfl rfl rfl (WL.ev rfl rfl (Ev.lenS rfl el59 rfl) (WL.ev rfl rfl (Ev.bin rfl rfl rfl Bin.lss) (WL.nil ?_))))
    refine CW.condD rfl (fun h2 => ?_) (fun h2 => ?_)
    · refine CW.skip ?_
      refine CW.seq (CW.block (CW.seq (CW.quiet hmix (by kernel_rfl) ?_)))
      refine QL.ev rfl rfl (fun _ _ => Ev.mv rfl rfl) (QL.ev rfl rfl (fun _ _ => Ev.mv rfl rfl) ?_)
      obtain ⟨xe1, be1, oe1, cse1, hxe1, hAe1, hSe1, hre1, hAte1⟩ := rdS.el hx (i := k) (by omega)
      have hK1 := hre1
      obtain ⟨v1, rfl, hs1⟩ := hre1
      obtain ⟨A3, c3, rfl, hc3, hm3⟩ := hs1.form
      refine QL.ev rfl rfl (fun _ _ => Ev.ixA rfl el59 sz125 rfl hAe1 rfl (by omega)) (QL.ev rfl rfl (fun _ hq => Ev.ld rfl ag125 rfl ((hAte1.ext (hEwr1.trans hq)).cell0 rfl)) (QL.ev rfl rfl (fun _ _ => Ev.mv rfl rfl) (QL.ev rfl rfl (fun _ _ => Ev.mv rfl rfl) ?_)))
      obtain ⟨xe2, be2, oe2, cse2, hxe2, hAe2, hSe2, hre2, hAte2⟩ := rdS.el hy (i := k) (by omega)
      have hK2 := hre2
      obtain ⟨v2, rfl, hs2⟩ := hre2
      obtain ⟨A4, c4, rfl, hc4, hm4⟩ := hs2.form
      refine QL.ev rfl rfl (fun _ _ => Ev.ixA rfl el59 sz125 rfl hAe2 rfl (by omega)) (QL.ev rfl rfl (fun _ hq => Ev.ld rfl ag125 rfl ((hAte2.ext (hEwr1.trans hq)).cell0 rfl)) (QL.call rfl rfl rfl rfl rfl ok94 rfl (fun _ hq => eqPhaseS_spec _ xe1 xe2 (hs1.ext (hEwr1.trans hq)) (hs2.ext (hEwr1.trans hq))) (QL.ev rfl rfl (fun _ _ => Ev.not rfl rfl) (QL.nil (fun w1 hEw1 => ?_)))))
      refine CW.condN rfl (fun h3 => ?_) (fun h3 => ?_)
      · refine Sreg ?_
        refine Wsn rfl rfl rfl rfl ?_
        refine CW.ret ?_
        have e : x ≠ y := ne_of_at hxe1 hxe2 h3
        exact ⟨_, res1 rfl rfl rfl, (hEwr1.trans hEw1), vB (by simp [e])⟩
      · refine CW.skip ?_
        refine CW.reg ?_
        refine Wmv rfl rfl rfl rfl (WL.ev rfl rfl (Ev.bin rfl rfl rfl (Bin.add (by omega))) (Wsn rfl rfl rfl rfl ?_))
        exact ⟨k + 1, ⟨rfl, rfl, rfl, trivial⟩, ⟨(hEwr1.trans hEw1), by omega, take_succ_eq hpre hxe1 hxe2 h3⟩, by omega⟩
    · refine CW.exit ?_
      refine Sreg ?_
      refine Wsn rfl rfl rfl rfl ?_
      refine CW.ret ?_
      have e : x = y := eq_of_take (by omega) (by omega) hpre
      exact ⟨_, res1 rfl rfl rfl, hEwr1, vB (by simp [e])⟩

theorem eqStep_spec (w : World) {S S2 : Nat → Prop} (x y : Step) {cs ds : List Value} (hx : rd S w x cs) (hy : rd S2 w y ds) :
    Ret Tryz.prog 95 #[.agg cs.toArray, .agg ds.toArray] w (fun _ => False) fun v _ => v = .bool (decide (x = y)) := by
  refine enter Tryz.func95 rfl rfl rfl ?_
  have hK1 := hx
  obtain ⟨rfl, hr1, hr2, hr3, hr4⟩ := hx
  have hK2 := hy
  obtain ⟨rfl, hr5, hr6, hr7, hr8⟩ := hy
  refine Sreg ?_
  refine WL.box rfl rfl rfl rfl rfl fun b1 w1 hEb1 hbb1 hBb1 => ?_
  refine WL.box rfl rfl rfl rfl rfl fun b2 w2 hEb2 hbb2 hBb2 => ?_
  refine Wsn rfl rfl rfl rfl ?_
  refine SSr ?_
  refine Wfa rfl rfl rfl fo130_0 rfl (WL.ev rfl rfl (Ev.ld rfl ag3 rfl ((hBb1.ext hEb2).cell rfl)) (Wfa rfl rfl rfl fo130_0 rfl (WL.ev rfl rfl (Ev.ld rfl ag3 rfl (hBb2.cell rfl)) (WL.ev rfl rfl (Ev.bin rfl rfl rfl Bin.neq) (WL.nil ?_)))))
  refine CW.condN rfl (fun h1 => ?_) (fun h1 => ?_)
  · refine Sreg ?_
    refine Wsn rfl rfl rfl rfl ?_
    refine CW.ret ?_
    have e : x ≠ y := by rintro rfl; exact h1 rfl
    exact ⟨_, res1 rfl rfl rfl, (hEb1.trans hEb2), vB (by simp [e])⟩
  · refine CW.skip ?_
    refine SSr ?_
    refine Wfa rfl rfl rfl fo130_1 rfl (WL.ev rfl rfl (Ev.ld rfl ag3 rfl ((hBb1.ext hEb2).cell rfl)) (Wfa rfl rfl rfl fo130_1 rfl (WL.ev rfl rfl (Ev.ld rfl ag3 rfl (hBb2.cell rfl)) (WL.ev rfl rfl (Ev.bin rfl rfl rfl Bin.neq) (WL.nil ?_)))))
    refine CW.condN rfl (fun h2 => ?_) (fun h2 => ?_)
    · refine Sreg ?_
      refine Wsn rfl rfl rfl rfl ?_
      refine CW.ret ?_
      have e : x ≠ y := by rintro rfl; exact h2 rfl
      exact ⟨_, res1 rfl rfl rfl, (hEb1.trans hEb2), vB (by simp [e])⟩
    · refine CW.skip ?_
      refine SSr ?_
      refine Wfa rfl rfl rfl fo130_2 rfl (WL.ev rfl rfl (Ev.ld rfl ag3 rfl ((hBb1.ext hEb2).cell rfl)) (Wfa rfl rfl rfl fo130_2 rfl (WL.ev rfl rfl (Ev.ld rfl ag3 rfl (hBb2.cell rfl)) (WL.ev rfl rfl (Ev.bin rfl rfl rfl Bin.neq) (WL.nil ?_)))))
      refine CW.condN rfl (fun h3 => ?_) (fun h3 => ?_)
      · refine Sreg ?_
        refine Wsn rfl rfl rfl rfl ?_
        refine CW.ret ?_
        have e : x ≠ y := by rintro rfl; exact h3 rfl
        exact ⟨_, res1 rfl rfl rfl, (hEb1.trans hEb2), vB (by simp [e])⟩
      · refine CW.skip ?_
        refine SSr ?_
        refine Wfa rfl rfl rfl fo130_3 rfl (WL.ev rfl rfl (Ev.ld rfl ag9 rfl ((hBb1.ext hEb2).cell rfl)) (Wfa rfl rfl rfl fo130_3 rfl (WL.ev rfl rfl (Ev.ld rfl ag9 rfl (hBb2.cell rfl)) (WL.ev rfl rfl (Ev.bin rfl rfl rfl Bin.neqS) (WL.nil ?_)))))
        refine CW.condN rfl (fun h4 => ?_) (fun h4 => ?_)
        · refine Sreg ?_
          refine Wsn rfl rfl rfl rfl ?_
          refine CW.ret ?_
          have e : x ≠ y := by rintro rfl; exact h4 rfl
          exact ⟨_, res1 rfl rfl rfl, (hEb1.trans hEb2), vB (by simp [e])⟩
        · refine CW.skip ?_
          refine Sreg ?_
          refine Wsn rfl rfl rfl rfl ?_
          refine CW.ret ?_
          have e : x = y := by cases x; cases y; simp_all
          exact ⟨_, res1 rfl rfl rfl, (hEb1.trans hEb2), vB (by simp [e])⟩

theorem eqStepS_spec (w : World) {S S2 : Nat → Prop} (x y : List Step) {z z2 : Value} (hx : rdS S w x z) (hy : rdS S2 w y z2) :
    Ret Tryz.prog 27 #[z, z2] w (fun _ => False) fun v _ => v = .bool (decide (x = y)) := by
  refine enter Tryz.func27 rfl rfl rfl ?_
  obtain ⟨A1, c1, rfl, hc1, hm1⟩ := hx.form
  have hl1 : x.length ≤ 9223372036854775807 := Nat.le_trans hc1 hm1
  obtain ⟨A2, c2, rfl, hc2, hm2⟩ := hy.form
  have hl2 : y.length ≤ 9223372036854775807 := Nat.le_trans hc2 hm2
  refine Sreg ?_
  refine Wsn rfl rfl rfl rfl ?_
  refine SSr ?_
  refine Wmv rfl rfl rfl rfl (WL.ev rfl rfl (Ev.lenS rfl el61 rfl) (Wmv rfl rfl rfl rfl (WL.ev rfl rfl (Ev.lenS rfl el61 rfl) (WL.ev rfl rfl (Ev.bin rfl rfl rfl Bin.neq) (WL.nil ?_)))))
  refine CW.condN rfl (fun h1 => ?_) (fun h1 => ?_)
  · refine Sreg ?_
    refine Wsn rfl rfl rfl rfl ?_
    refine CW.ret ?_
    have e : x ≠ y := fun e => h1 (by rw [e])
    exact ⟨_, res1 rfl rfl rfl, (Ext.refl _), vB (by simp [e])⟩
  · refine CW.skip ?_
    refine SSr ?_
    refine Wsn rfl rfl rfl rfl ?_
    refine CW.block (CW.loop (α := Nat) (fun q => [(0, .slice A1 x.length c1), (1, .slice A2 y.length c2), (5, .int .i64 (q : Int))]) (fun q wr => Ext w wr ∧ q ≤ x.length ∧ x.take q = y.take q) (fun q => x.length - q) 0 ⟨rfl, rfl, rfl, trivial⟩ ⟨Ext.refl _, by omega, rfl⟩ ?_)
    rintro k σ wr1 ⟨hEwr1, hk, hpre⟩
    refine SSr ?_
    refine Wmv rfl rfl rfl rfl (Wmv rfl rfl rfl rfl (WL.ev rfl rfl (Ev.lenS rfl el61 rfl) (WL.ev rfl rfl (Ev.bin rfl rfl rfl Bin.lss) (WL.nil ?_))))
    refine CW.condD rfl (fun h2 => ?_) (fun h2 => ?_)
    · refine CW.skip ?_
      refine CW.seq (CW.block (CW.seq (CW.quiet hmix (by kernel_rfl) ?_)))
      refine QL.ev rfl rfl (fun _ _ => Ev.mv rfl rfl) (QL.ev rfl rfl (fun _ _ => Ev.mv rfl rfl) ?_)
      obtain ⟨xe1, be1, oe1, cse1, hxe1, hAe1, hSe1, hre1, hAte1⟩ := rdS.el hx (i := k) (by omega)
      have hK1 := hre1
      obtain ⟨rfl, hr1, hr2, hr3, hr4⟩ := hre1
      refine QL.ev rfl rfl (fun _ _ => Ev.ixA rfl el61 sz130 rfl hAe1 rfl (by omega)) (QL.ev rfl rfl (fun _ hq => Ev.lda rfl ag130 sz130 rfl (hAte1.ext (hEwr1.trans hq)) rfl) (QL.ev rfl rfl (fun _ _ => Ev.mv rfl rfl) (QL.ev rfl rfl (fun _ _ => Ev.mv rfl rfl) ?_)))
      obtain ⟨xe2, be2, oe2, cse2, hxe2, hAe2, hSe2, hre2, hAte2⟩ := rdS.el hy (i := k) (by omega)
      have hK2 := hre2
      obtain ⟨rfl, hr5, hr6, hr7, hr8⟩ := hre2
      refine QL.ev rfl rfl (fun _ _ => Ev.ixA rfl el61 sz130 rfl hAe2 rfl (by omega)) (QL.ev rfl rfl (fun _ hq => Ev.lda rfl ag130 sz130 rfl (hAte2.ext (hEwr1.trans hq)) rfl) (QL.call rfl rfl rfl rfl rfl ok95 rfl (fun _ hq => eqStep_spec _ xe1 xe2 (rd_ext hK1 (hEwr1.trans hq)) (rd_ext hK2 (hEwr1.trans hq))) (QL.ev rfl rfl (fun _ _ => Ev.not rfl rfl) (QL.nil (fun w1 hEw1 => ?_)))))
      refine CW.condN rfl (fun h3 => ?_) (fun h3 => ?_)
      · refine Sreg ?_
        refine Wsn rfl rfl rfl rfl ?_
        refine CW.ret ?_
        have e : x ≠ y := ne_of_at hxe1 hxe2 h3
        exact ⟨_, res1 rfl rfl rfl, (hEwr1.trans hEw1), vB (by simp [e])⟩
      · refine CW.skip ?_
        refine CW.reg ?_
        refine Wmv rfl rfl rfl rfl (WL.ev rfl rfl (Ev.bin rfl rfl rfl (Bin.add (by omega))) (Wsn rfl rfl rfl rfl ?_))
        exact ⟨k + 1, ⟨rfl, rfl, rfl, trivial⟩, ⟨(hEwr1.trans hEw1), by omega, take_succ_eq hpre hxe1 hxe2 h3⟩, by omega⟩
    · refine CW.exit ?_
      refine Sreg ?_
      refine Wsn rfl rfl rfl rfl ?_
      refine CW.ret ?_
      have e : x = y := eq_of_take (by omega) (by omega) hpre
      exact ⟨_, res1 rfl rfl rfl, hEwr1, vB (by simp [e])⟩

theorem open9 : Opens Tryz.prog 9 ByteArray := Opens.str (by kernel_rfl) Tryz.underlying9
theorem open3 : Opens Tryz.prog 3 Int := Opens.int (by kernel_rfl) Tryz.underlying3
theorem open4 : Opens Tryz.prog 4 Bool := Opens.bool (by kernel_rfl) Tryz.underlying4
theorem open255 : Opens Tryz.prog 255 Attribute := by
  refine Opens.struct (k := 4) (by kernel_rfl) rfl Tryz.underlying255 fun H enc w base spare held n cs xs hl hx hf => ?_
  obtain ⟨c0, t0, rfl, hl0⟩ := lenS hl
  obtain ⟨c1, t1, rfl, hl1⟩ := lenS hl0
  obtain ⟨c2, t2, rfl, hl2⟩ := lenS hl1
  obtain ⟨c3, t3, rfl, hl3⟩ := lenS hl2
  obtain rfl := len0 hl3
  obtain ⟨a0, r0⟩ := Opens.fld (i := 0) (t := 9) (off := 0) (k := 1) open9 hf hx rfl rfl rfl rfl
  have q0 : rd (fun _ => True) w a0 [c0] := r0
  obtain ⟨e0, h0_0⟩ := q0
  simp only [List.cons.injEq, and_true] at e0
  obtain rfl := e0
  obtain ⟨a1, r1⟩ := Opens.fld (i := 1) (t := 3) (off := 1) (k := 1) open3 hf hx rfl rfl rfl rfl
  have q1 : rd (fun _ => True) w a1 [c1] := r1
  obtain ⟨e1, h1_0⟩ := q1
  simp only [List.cons.injEq, and_true] at e1
  obtain rfl := e1
  obtain ⟨a2, r2⟩ := Opens.fld (i := 2) (t := 3) (off := 2) (k := 1) open3 hf hx rfl rfl rfl rfl
  have q2 : rd (fun _ => True) w a2 [c2] := r2
  obtain ⟨e2, h2_0⟩ := q2
  simp only [List.cons.injEq, and_true] at e2
  obtain rfl := e2
  obtain ⟨a3, r3⟩ := Opens.fld (i := 3) (t := 4) (off := 3) (k := 1) open4 hf hx rfl rfl rfl rfl
  have q3 : rd (fun _ => True) w a3 [c3] := r3
  have e3 : [c3] = [.bool a3] := q3
  simp only [List.cons.injEq, and_true] at e3
  obtain rfl := e3
  exact ⟨⟨a0, a1, a2, a3⟩, rfl, h0_0, h1_0, h2_0⟩
theorem open170 : Opens Tryz.prog 170 (List Attribute) := Opens.slice (by kernel_rfl) Tryz.underlying170 open255
theorem open172 : Opens Tryz.prog 172 Symbol := by
  refine Opens.struct (k := 2) (by kernel_rfl) rfl Tryz.underlying172 fun H enc w base spare held n cs xs hl hx hf => ?_
  obtain ⟨c0, t0, rfl, hl0⟩ := lenS hl
  obtain ⟨c1, t1, rfl, hl1⟩ := lenS hl0
  obtain rfl := len0 hl1
  obtain ⟨a0, r0⟩ := Opens.fld (i := 0) (t := 9) (off := 0) (k := 1) open9 hf hx rfl rfl rfl rfl
  have q0 : rd (fun _ => True) w a0 [c0] := r0
  obtain ⟨e0, h0_0⟩ := q0
  simp only [List.cons.injEq, and_true] at e0
  obtain rfl := e0
  obtain ⟨a1, r1⟩ := Opens.fld (i := 1) (t := 170) (off := 1) (k := 1) open170 hf hx rfl rfl rfl rfl
  have q1 : rd (fun _ => True) w a1 [c1] := r1
  obtain ⟨v1_0, e1, s1_0⟩ := q1
  simp only [List.cons.injEq, and_true] at e1
  obtain rfl := e1
  exact ⟨⟨a0, a1⟩, _, rfl, h0_0, s1_0⟩
theorem open22 : Opens Tryz.prog 22 (List Symbol) := Opens.slice (by kernel_rfl) Tryz.underlying22 open172
theorem open26 : Opens Tryz.prog 26 (List ByteArray) := Opens.slice (by kernel_rfl) Tryz.underlying26 open9
theorem open174 : Opens Tryz.prog 174 Occurrence := by
  refine Opens.struct (k := 2) (by kernel_rfl) rfl Tryz.underlying174 fun H enc w base spare held n cs xs hl hx hf => ?_
  obtain ⟨c0, t0, rfl, hl0⟩ := lenS hl
  obtain ⟨c1, t1, rfl, hl1⟩ := lenS hl0
  obtain rfl := len0 hl1
  obtain ⟨a0, r0⟩ := Opens.fld (i := 0) (t := 3) (off := 0) (k := 1) open3 hf hx rfl rfl rfl rfl
  have q0 : rd (fun _ => True) w a0 [c0] := r0
  obtain ⟨e0, h0_0⟩ := q0
  simp only [List.cons.injEq, and_true] at e0
  obtain rfl := e0
  obtain ⟨a1, r1⟩ := Opens.fld (i := 1) (t := 9) (off := 1) (k := 1) open9 hf hx rfl rfl rfl rfl
  have q1 : rd (fun _ => True) w a1 [c1] := r1
  obtain ⟨e1, h1_0⟩ := q1
  simp only [List.cons.injEq, and_true] at e1
  obtain rfl := e1
  exact ⟨⟨a0, a1⟩, rfl, h0_0, h1_0⟩
theorem openN177 : ∀ N, OpensF Tryz.prog 177 Expr N
  | 0 => OpensF.zero (k := 7) (by kernel_rfl) rfl
  | N + 1 => by
    have o175 : OpensF Tryz.prog 175 (List Expr) N := OpensF.slice (by kernel_rfl) Tryz.underlying175 (openN177 N)
    refine OpensF.struct (k := 7) (by kernel_rfl) rfl Tryz.underlying177 fun H enc w base spare held n cs xs hN hl hx hf => ?_
    obtain ⟨c0, t0, rfl, hl0⟩ := lenS hl
    obtain ⟨c1, t1, rfl, hl1⟩ := lenS hl0
    obtain ⟨c2, t2, rfl, hl2⟩ := lenS hl1
    obtain ⟨c3, t3, rfl, hl3⟩ := lenS hl2
    obtain ⟨c4, t4, rfl, hl4⟩ := lenS hl3
    obtain ⟨c5, t5, rfl, hl5⟩ := lenS hl4
    obtain ⟨c6, t6, rfl, hl6⟩ := lenS hl5
    obtain rfl := len0 hl6
    obtain ⟨a0, r0⟩ := OpensF.fld (i := 0) (t := 3) (off := 0) (k := 1) open3.toF hN hf hx rfl rfl rfl rfl
    have q0 : rd (fun _ => True) w a0 [c0] := r0
    obtain ⟨e0, h0_0⟩ := q0
    simp only [List.cons.injEq, and_true] at e0
    obtain rfl := e0
    obtain ⟨a1, r1⟩ := OpensF.fld (i := 1) (t := 3) (off := 1) (k := 1) open3.toF hN hf hx rfl rfl rfl rfl
    have q1 : rd (fun _ => True) w a1 [c1] := r1
    obtain ⟨e1, h1_0⟩ := q1
    simp only [List.cons.injEq, and_true] at e1
    obtain rfl := e1
    obtain ⟨a2, r2⟩ := OpensF.fld (i := 2) (t := 3) (off := 2) (k := 1) open3.toF hN hf hx rfl rfl rfl rfl
    have q2 : rd (fun _ => True) w a2 [c2] := r2
    obtain ⟨e2, h2_0⟩ := q2
    simp only [List.cons.injEq, and_true] at e2
    obtain rfl := e2
    obtain ⟨a3, r3⟩ := OpensF.fld (i := 3) (t := 3) (off := 3) (k := 1) open3.toF hN hf hx rfl rfl rfl rfl
    have q3 : rd (fun _ => True) w a3 [c3] := r3
    obtain ⟨e3, h3_0⟩ := q3
    simp only [List.cons.injEq, and_true] at e3
    obtain rfl := e3
    obtain ⟨a4, r4⟩ := OpensF.fld (i := 4) (t := 9) (off := 4) (k := 1) open9.toF hN hf hx rfl rfl rfl rfl
    have q4 : rd (fun _ => True) w a4 [c4] := r4
    obtain ⟨e4, h4_0⟩ := q4
    simp only [List.cons.injEq, and_true] at e4
    obtain rfl := e4
    obtain ⟨a5, r5⟩ := OpensF.fld (i := 5) (t := 9) (off := 5) (k := 1) open9.toF hN hf hx rfl rfl rfl rfl
    have q5 : rd (fun _ => True) w a5 [c5] := r5
    obtain ⟨e5, h5_0⟩ := q5
    simp only [List.cons.injEq, and_true] at e5
    obtain rfl := e5
    obtain ⟨a6, r6⟩ := OpensF.fld (i := 6) (t := 175) (off := 6) (k := 1) o175 hN hf hx rfl rfl rfl rfl
    have q6 : rd (fun _ => True) w a6 [c6] := r6
    obtain ⟨v6_0, e6, s6_0⟩ := q6
    simp only [List.cons.injEq, and_true] at e6
    obtain rfl := e6
    exact ⟨⟨a0, a1, a2, a3, a4, a5, a6⟩, Expr_rd.2 ⟨_, rfl, h0_0, h1_0, h2_0, h3_0, h4_0, h5_0, s6_0⟩⟩
theorem open177 : Opens Tryz.prog 177 Expr := Opens.ofF openN177
theorem open179 : Opens Tryz.prog 179 Equation := by
  refine Opens.struct (k := 9) (by kernel_rfl) rfl Tryz.underlying179 fun H enc w base spare held n cs xs hl hx hf => ?_
  obtain ⟨c0, t0, rfl, hl0⟩ := lenS hl
  obtain ⟨c1, t1, rfl, hl1⟩ := lenS hl0
  obtain ⟨c2, t2, rfl, hl2⟩ := lenS hl1
  obtain ⟨c3, t3, rfl, hl3⟩ := lenS hl2
  obtain ⟨c4, t4, rfl, hl4⟩ := lenS hl3
  obtain ⟨c5, t5, rfl, hl5⟩ := lenS hl4
  obtain ⟨c6, t6, rfl, hl6⟩ := lenS hl5
  obtain ⟨c7, t7, rfl, hl7⟩ := lenS hl6
  obtain ⟨c8, t8, rfl, hl8⟩ := lenS hl7
  obtain rfl := len0 hl8
  obtain ⟨a0, r0⟩ := Opens.fld (i := 0) (t := 174) (off := 0) (k := 2) open174 hf hx rfl rfl rfl rfl
  have q0 : rd (fun _ => True) w a0 [c0, c1] := r0
  obtain ⟨e0, h0_0, h0_1⟩ := q0
  simp only [List.cons.injEq, and_true] at e0
  obtain ⟨rfl, rfl⟩ := e0
  obtain ⟨a1, r1⟩ := Opens.fld (i := 1) (t := 177) (off := 2) (k := 7) open177 hf hx rfl rfl rfl rfl
  have q1 : rd (fun _ => True) w a1 [c2, c3, c4, c5, c6, c7, c8] := r1
  obtain ⟨v1_6, e1, h1_0, h1_1, h1_2, h1_3, h1_4, h1_5, s1_6⟩ := Expr_rd.1 q1
  simp only [List.cons.injEq, and_true] at e1
  obtain ⟨rfl, rfl, rfl, rfl, rfl, rfl, rfl⟩ := e1
  exact ⟨⟨a0, a1⟩, _, rfl, h0_0, h0_1, h1_0, h1_1, h1_2, h1_3, h1_4, h1_5, s1_6⟩
theorem open27 : Opens Tryz.prog 27 (List Equation) := Opens.slice (by kernel_rfl) Tryz.underlying27 open179
theorem open182 : Opens Tryz.prog 182 Contribution := by
  refine Opens.struct (k := 16) (by kernel_rfl) rfl Tryz.underlying182 fun H enc w base spare held n cs xs hl hx hf => ?_
  obtain ⟨c0, t0, rfl, hl0⟩ := lenS hl
  obtain ⟨c1, t1, rfl, hl1⟩ := lenS hl0
  obtain ⟨c2, t2, rfl, hl2⟩ := lenS hl1
  obtain ⟨c3, t3, rfl, hl3⟩ := lenS hl2
  obtain ⟨c4, t4, rfl, hl4⟩ := lenS hl3
  obtain ⟨c5, t5, rfl, hl5⟩ := lenS hl4
  obtain ⟨c6, t6, rfl, hl6⟩ := lenS hl5
  obtain ⟨c7, t7, rfl, hl7⟩ := lenS hl6
  obtain ⟨c8, t8, rfl, hl8⟩ := lenS hl7
  obtain ⟨c9, t9, rfl, hl9⟩ := lenS hl8
  obtain ⟨c10, t10, rfl, hl10⟩ := lenS hl9
  obtain ⟨c11, t11, rfl, hl11⟩ := lenS hl10
  obtain ⟨c12, t12, rfl, hl12⟩ := lenS hl11
  obtain ⟨c13, t13, rfl, hl13⟩ := lenS hl12
  obtain ⟨c14, t14, rfl, hl14⟩ := lenS hl13
  obtain ⟨c15, t15, rfl, hl15⟩ := lenS hl14
  obtain rfl := len0 hl15
  obtain ⟨a0, r0⟩ := Opens.fld (i := 0) (t := 9) (off := 0) (k := 1) open9 hf hx rfl rfl rfl rfl
  have q0 : rd (fun _ => True) w a0 [c0] := r0
  obtain ⟨e0, h0_0⟩ := q0
  simp only [List.cons.injEq, and_true] at e0
  obtain rfl := e0
  obtain ⟨a1, r1⟩ := Opens.fld (i := 1) (t := 9) (off := 1) (k := 1) open9 hf hx rfl rfl rfl rfl
  have q1 : rd (fun _ => True) w a1 [c1] := r1
  obtain ⟨e1, h1_0⟩ := q1
  simp only [List.cons.injEq, and_true] at e1
  obtain rfl := e1
  obtain ⟨a2, r2⟩ := Opens.fld (i := 2) (t := 177) (off := 2) (k := 7) open177 hf hx rfl rfl rfl rfl
  have q2 : rd (fun _ => True) w a2 [c2, c3, c4, c5, c6, c7, c8] := r2
  obtain ⟨v2_6, e2, h2_0, h2_1, h2_2, h2_3, h2_4, h2_5, s2_6⟩ := Expr_rd.1 q2
  simp only [List.cons.injEq, and_true] at e2
  obtain ⟨rfl, rfl, rfl, rfl, rfl, rfl, rfl⟩ := e2
  obtain ⟨a3, r3⟩ := Opens.fld (i := 3) (t := 177) (off := 9) (k := 7) open177 hf hx rfl rfl rfl rfl
  have q3 : rd (fun _ => True) w a3 [c9, c10, c11, c12, c13, c14, c15] := r3
  obtain ⟨v3_6, e3, h3_0, h3_1, h3_2, h3_3, h3_4, h3_5, s3_6⟩ := Expr_rd.1 q3
  simp only [List.cons.injEq, and_true] at e3
  obtain ⟨rfl, rfl, rfl, rfl, rfl, rfl, rfl⟩ := e3
  exact ⟨⟨a0, a1, a2, a3⟩, _, _, rfl, h0_0, h1_0, h2_0, h2_1, h2_2, h2_3, h2_4, h2_5, h3_0, h3_1, h3_2, h3_3, h3_4, h3_5, s2_6, s3_6⟩
theorem open28 : Opens Tryz.prog 28 (List Contribution) := Opens.slice (by kernel_rfl) Tryz.underlying28 open182
theorem open30 : Opens Tryz.prog 30 Rule := by
  refine Opens.struct (k := 6) (by kernel_rfl) rfl Tryz.underlying30 fun H enc w base spare held n cs xs hl hx hf => ?_
  obtain ⟨c0, t0, rfl, hl0⟩ := lenS hl
  obtain ⟨c1, t1, rfl, hl1⟩ := lenS hl0
  obtain ⟨c2, t2, rfl, hl2⟩ := lenS hl1
  obtain ⟨c3, t3, rfl, hl3⟩ := lenS hl2
  obtain ⟨c4, t4, rfl, hl4⟩ := lenS hl3
  obtain ⟨c5, t5, rfl, hl5⟩ := lenS hl4
  obtain rfl := len0 hl5
  obtain ⟨a0, r0⟩ := Opens.fld (i := 0) (t := 9) (off := 0) (k := 1) open9 hf hx rfl rfl rfl rfl
  have q0 : rd (fun _ => True) w a0 [c0] := r0
  obtain ⟨e0, h0_0⟩ := q0
  simp only [List.cons.injEq, and_true] at e0
  obtain rfl := e0
  obtain ⟨a1, r1⟩ := Opens.fld (i := 1) (t := 9) (off := 1) (k := 1) open9 hf hx rfl rfl rfl rfl
  have q1 : rd (fun _ => True) w a1 [c1] := r1
  obtain ⟨e1, h1_0⟩ := q1
  simp only [List.cons.injEq, and_true] at e1
  obtain rfl := e1
  obtain ⟨a2, r2⟩ := Opens.fld (i := 2) (t := 26) (off := 2) (k := 1) open26 hf hx rfl rfl rfl rfl
  have q2 : rd (fun _ => True) w a2 [c2] := r2
  obtain ⟨v2_0, e2, s2_0⟩ := q2
  simp only [List.cons.injEq, and_true] at e2
  obtain rfl := e2
  obtain ⟨a3, r3⟩ := Opens.fld (i := 3) (t := 4) (off := 3) (k := 1) open4 hf hx rfl rfl rfl rfl
  have q3 : rd (fun _ => True) w a3 [c3] := r3
  have e3 : [c3] = [.bool a3] := q3
  simp only [List.cons.injEq, and_true] at e3
  obtain rfl := e3
  obtain ⟨a4, r4⟩ := Opens.fld (i := 4) (t := 27) (off := 4) (k := 1) open27 hf hx rfl rfl rfl rfl
  have q4 : rd (fun _ => True) w a4 [c4] := r4
  obtain ⟨v4_0, e4, s4_0⟩ := q4
  simp only [List.cons.injEq, and_true] at e4
  obtain rfl := e4
  obtain ⟨a5, r5⟩ := Opens.fld (i := 5) (t := 28) (off := 5) (k := 1) open28 hf hx rfl rfl rfl rfl
  have q5 : rd (fun _ => True) w a5 [c5] := r5
  obtain ⟨v5_0, e5, s5_0⟩ := q5
  simp only [List.cons.injEq, and_true] at e5
  obtain rfl := e5
  exact ⟨⟨a0, a1, a2, a3, a4, a5⟩, _, _, _, rfl, h0_0, h1_0, s2_0, s4_0, s5_0⟩
theorem open23 : Opens Tryz.prog 23 (List Rule) := Opens.slice (by kernel_rfl) Tryz.underlying23 open30
theorem open25 : Opens Tryz.prog 25 Grammar := by
  refine Opens.struct (k := 2) (by kernel_rfl) rfl Tryz.underlying25 fun H enc w base spare held n cs xs hl hx hf => ?_
  obtain ⟨c0, t0, rfl, hl0⟩ := lenS hl
  obtain ⟨c1, t1, rfl, hl1⟩ := lenS hl0
  obtain rfl := len0 hl1
  obtain ⟨a0, r0⟩ := Opens.fld (i := 0) (t := 22) (off := 0) (k := 1) open22 hf hx rfl rfl rfl rfl
  have q0 : rd (fun _ => True) w a0 [c0] := r0
  obtain ⟨v0_0, e0, s0_0⟩ := q0
  simp only [List.cons.injEq, and_true] at e0
  obtain rfl := e0
  obtain ⟨a1, r1⟩ := Opens.fld (i := 1) (t := 23) (off := 1) (k := 1) open23 hf hx rfl rfl rfl rfl
  have q1 : rd (fun _ => True) w a1 [c1] := r1
  obtain ⟨v1_0, e1, s1_0⟩ := q1
  simp only [List.cons.injEq, and_true] at e1
  obtain rfl := e1
  exact ⟨⟨a0, a1⟩, _, _, rfl, s0_0, s1_0⟩
theorem open200 : Opens Tryz.prog 200 Phase := by
  refine Opens.struct (k := 2) (by kernel_rfl) rfl Tryz.underlying200 fun H enc w base spare held n cs xs hl hx hf => ?_
  obtain ⟨c0, t0, rfl, hl0⟩ := lenS hl
  obtain ⟨c1, t1, rfl, hl1⟩ := lenS hl0
  obtain rfl := len0 hl1
  obtain ⟨a0, r0⟩ := Opens.fld (i := 0) (t := 26) (off := 0) (k := 1) open26 hf hx rfl rfl rfl rfl
  have q0 : rd (fun _ => True) w a0 [c0] := r0
  obtain ⟨v0_0, e0, s0_0⟩ := q0
  simp only [List.cons.injEq, and_true] at e0
  obtain rfl := e0
  obtain ⟨a1, r1⟩ := Opens.fld (i := 1) (t := 26) (off := 1) (k := 1) open26 hf hx rfl rfl rfl rfl
  have q1 : rd (fun _ => True) w a1 [c1] := r1
  obtain ⟨v1_0, e1, s1_0⟩ := q1
  simp only [List.cons.injEq, and_true] at e1
  obtain rfl := e1
  exact ⟨⟨a0, a1⟩, _, _, rfl, s0_0, s1_0⟩
theorem open118 : Opens Tryz.prog 118 (List Phase) := Opens.slice (by kernel_rfl) Tryz.underlying118 open200
theorem open54 : Opens Tryz.prog 54 (List (List Phase)) := Opens.slice (by kernel_rfl) Tryz.underlying54 open118
theorem open121 : Opens Tryz.prog 121 Step := by
  refine Opens.struct (k := 4) (by kernel_rfl) rfl Tryz.underlying121 fun H enc w base spare held n cs xs hl hx hf => ?_
  obtain ⟨c0, t0, rfl, hl0⟩ := lenS hl
  obtain ⟨c1, t1, rfl, hl1⟩ := lenS hl0
  obtain ⟨c2, t2, rfl, hl2⟩ := lenS hl1
  obtain ⟨c3, t3, rfl, hl3⟩ := lenS hl2
  obtain rfl := len0 hl3
  obtain ⟨a0, r0⟩ := Opens.fld (i := 0) (t := 3) (off := 0) (k := 1) open3 hf hx rfl rfl rfl rfl
  have q0 : rd (fun _ => True) w a0 [c0] := r0
  obtain ⟨e0, h0_0⟩ := q0
  simp only [List.cons.injEq, and_true] at e0
  obtain rfl := e0
  obtain ⟨a1, r1⟩ := Opens.fld (i := 1) (t := 3) (off := 1) (k := 1) open3 hf hx rfl rfl rfl rfl
  have q1 : rd (fun _ => True) w a1 [c1] := r1
  obtain ⟨e1, h1_0⟩ := q1
  simp only [List.cons.injEq, and_true] at e1
  obtain rfl := e1
  obtain ⟨a2, r2⟩ := Opens.fld (i := 2) (t := 3) (off := 2) (k := 1) open3 hf hx rfl rfl rfl rfl
  have q2 : rd (fun _ => True) w a2 [c2] := r2
  obtain ⟨e2, h2_0⟩ := q2
  simp only [List.cons.injEq, and_true] at e2
  obtain rfl := e2
  obtain ⟨a3, r3⟩ := Opens.fld (i := 3) (t := 9) (off := 3) (k := 1) open9 hf hx rfl rfl rfl rfl
  have q3 : rd (fun _ => True) w a3 [c3] := r3
  obtain ⟨e3, h3_0⟩ := q3
  simp only [List.cons.injEq, and_true] at e3
  obtain rfl := e3
  exact ⟨⟨a0, a1, a2, a3⟩, rfl, h0_0, h1_0, h2_0, h3_0⟩
theorem open55 : Opens Tryz.prog 55 (List Step) := Opens.slice (by kernel_rfl) Tryz.underlying55 open121
end Go.Proofs.YtonnooljidombaaGreat

