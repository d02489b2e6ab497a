/- The law FnExactLocalRelation returns true for all arguments and leaves them as they were; there is no condition. -/
import Derived.Test.YtonnooljidombaaGreatRows
import Derived.Test.YtonnooljidombaaGreatMathM7z
import Derived.Test.YtonnooljidombaaGreatHelpb
set_option linter.unusedVariables false
set_option linter.unusedSimpArgs false
set_option linter.ambiguousOpen false
set_option linter.unusedSectionVars false
set_option linter.unnecessarySimpa false
set_option linter.unusedVariables false
set_option linter.unusedSimpArgs false
set_option maxRecDepth 100000
set_option maxHeartbeats 1000000
namespace Go.Proofs.YtonnooljidombaaGreat
open Go Go.E
open Go.E.Rep (rd)
open Go.E.Sep (own)
theorem ag25 : aggT Tryz.prog 25 = some true := by kernel_rfl
theorem sz25 : szT Tryz.prog 25 = some 2 := by kernel_rfl
theorem ok7 : callable Tryz.prog 7 = true := by kernel_rfl
theorem ok9 : callable Tryz.prog 9 = true := by kernel_rfl
theorem ok10 : callable Tryz.prog 10 = true := by kernel_rfl
theorem ok12 : callable Tryz.prog 12 = true := by kernel_rfl
theorem ok13 : callable Tryz.prog 13 = true := by kernel_rfl
theorem ok14 : callable Tryz.prog 14 = true := by kernel_rfl
theorem ok16 : callable Tryz.prog 16 = true := by kernel_rfl
theorem ok17 : callable Tryz.prog 17 = true := by kernel_rfl
theorem ok18 : callable Tryz.prog 18 = true := by kernel_rfl
theorem ok19 : callable Tryz.prog 19 = true := by kernel_rfl
theorem sLocalRelation_spec (w : World) {S1 : Nat → Prop} {S2 : Nat → Prop} (g : Grammar) {cg : List Value} (hg : rd S1 w g cg) (bg : Sz.szd g ≤ 1048576) (r : Rule) {cr : List Value} (hr : rd S2 w r cr) (br : Sz.szd r ≤ 1048576) :
    Ret Tryz.prog 9 #[.agg cg.toArray, .agg cr.toArray] w (fun _ => False) fun v w' => ∃ cs, v = .agg cs.toArray ∧ New w w' ((sLocalRelation_m g r).getD ⟨0, []⟩) cs := by
  obtain ⟨x, h1, h2, _⟩ := local_both bg br
  have hx : (sLocalRelation_m g r).getD ⟨0, []⟩ = x := by rw [h1]; rfl
  rw [hx]
  refine (sLocalRelation_ok h1 (F0 := fun _ => True) (Rep.mono hg fun _ _ => trivial) (Rep.mono hr fun _ _ => trivial)).mono fun v w' _ ⟨A, n, c, hv, hI, H⟩ => ?_
  obtain ⟨L, h1, h2, h3⟩ := NewS.of H
  exact ⟨_, hv, L, ⟨_, L, rfl, hI, rfl, h1⟩, h2, h3⟩

theorem iLocalRelation_spec (w : World) {S1 : Nat → Prop} {S2 : Nat → Prop} (g : Grammar) {cg : List Value} (hg : rd S1 w g cg) (bg : Sz.szd g ≤ 1048576) (r : Rule) {cr : List Value} (hr : rd S2 w r cr) (br : Sz.szd r ≤ 1048576) :
    Ret Tryz.prog 12 #[.agg cg.toArray, .agg cr.toArray] w (fun _ => False) fun v w' => ∃ cs, v = .agg cs.toArray ∧ New w w' ((sLocalRelation_m g r).getD ⟨0, []⟩) cs := by
  obtain ⟨x, h1, h2, _⟩ := local_both bg br
  have hx : (sLocalRelation_m g r).getD ⟨0, []⟩ = x := by rw [h1]; rfl
  rw [hx]
  refine (iLocalRelation_ok h2 (F0 := fun _ => True) (Rep.mono hg fun _ _ => trivial) (Rep.mono hr fun _ _ => trivial)).mono fun v w' _ ⟨A, n, c, hv, hI, H⟩ => ?_
  obtain ⟨L, h1, h2, h3⟩ := NewS.of H
  exact ⟨_, hv, L, ⟨_, L, rfl, hI, rfl, h1⟩, h2, h3⟩

theorem FnExactLocalRelation_law (w : World) {Sg : Nat → Prop} (g : Grammar) {cg : List Value} (hg : rd Sg w g cg) {Sr : Nat → Prop} (r : Rule) {cr : List Value} (hr : rd Sr w r cr) :
    Ret Tryz.prog 3 #[.agg cg.toArray, .agg cr.toArray] w (fun _ => False) fun v _ => v = .bool true := by
  refine enter Tryz.func3 rfl rfl rfl ?_
  have hK1 := hg
  obtain ⟨v1, v2, rfl, hs1, hs2⟩ := hg
  obtain ⟨A1, c1, rfl, hc1, hm1⟩ := hs1.form
  obtain ⟨A2, c2, rfl, hc2, hm2⟩ := hs2.form
  have qg := Grammar_szd g
  have hK2 := hr
  obtain ⟨v3, v4, v5, rfl, hr1, hr2, hs3, hs4, hs5⟩ := hr
  obtain ⟨A3, c3, rfl, hc3, hm3⟩ := hs3.form
  obtain ⟨A4, c4, rfl, hc4, hm4⟩ := hs4.form
  obtain ⟨A5, c5, rfl, hc5, hm5⟩ := hs5.form
  have qr := Rule_szd r
  refine CW.seq (CW.reg ?_)
  refine WL.box rfl rfl rfl rfl rfl fun b1 w1 hEb1 hbb1 hBb1 => ?_
  refine WL.box rfl rfl rfl rfl rfl fun b2 w2 hEb2 hbb2 hBb2 => ?_
  refine WL.ev rfl rfl (Ev.as rfl rfl) (WL.nil ?_)
  refine CW.seq (CW.reg ?_)
  refine WL.ev rfl rfl (Ev.as rfl rfl) (WL.nil ?_)
  refine CW.seq (CW.reg ?_)
  refine WL.ev rfl rfl (Ev.lda rfl ag25 sz25 rfl (At.blk (hBb1.ext hEb2)) rfl) (WL.ev rfl rfl (Ev.mv rfl rfl) ?_)
  refine WL.call rfl rfl rfl rfl rfl ok7 rfl (szGrammar_spec _ g (rd_ext hK1 (hEb1.trans hEb2)) _ (by omega) (by omega)) ?_
  rintro _ w3 hEw3 ⟨r1, rfl, hr3⟩
  have hq1 := Grammar_szd g
  refine WL.ev rfl rfl (Ev.as rfl rfl) (WL.nil ?_)
  refine CW.fresh [(2, .pointer (some ⟨b1, 0, none⟩)), (3, .pointer (some ⟨b2, 0, none⟩)), (4, .bool false), (5, .int .i64 (r1))] ⟨rfl, rfl, rfl, rfl, trivial⟩ fun σ => ?_
  refine CW.seq (CW.seq (CW.reg ?_))
  refine WL.ev rfl rfl (Ev.mv rfl rfl) (WL.ev rfl rfl (Ev.bin rfl rfl rfl Bin.lss) (WL.nil ?_))
  refine CW.condD rfl (fun h1 => ?_) (fun h1 => ?_)
  · skip
    refine CW.fresh [(2, .pointer (some ⟨b1, 0, none⟩)), (3, .pointer (some ⟨b2, 0, none⟩)), (4, .bool false), (5, .int .i64 (r1))] ⟨rfl, rfl, rfl, rfl, trivial⟩ fun σ => ?_
    refine CW.seq (CW.reg ?_)
    refine WL.ev rfl rfl (Ev.as rfl rfl) (WL.nil ?_)
    refine CW.ret ?_
    exact ⟨_, res1 rfl rfl rfl, ((hEb1.trans hEb2).trans hEw3), rfl⟩
  · skip
    refine CW.skip ?_
    refine CW.fresh [(2, .pointer (some ⟨b1, 0, none⟩)), (3, .pointer (some ⟨b2, 0, none⟩)), (4, .bool false), (5, .int .i64 (r1))] ⟨rfl, rfl, rfl, rfl, trivial⟩ fun σ => ?_
    refine CW.seq (CW.reg ?_)
    refine WL.ev rfl rfl (Ev.lda rfl ag30 sz30 rfl (At.blk (hBb2.ext hEw3)) rfl) (WL.ev rfl rfl (Ev.mv rfl rfl) ?_)
    refine WL.call rfl rfl rfl rfl rfl ok8 rfl (szRule_spec _ r (rd_ext hK2 ((hEb1.trans hEb2).trans hEw3)) _ (by omega) (by omega)) ?_
    rintro _ w4 hEw4 ⟨r2, rfl, hr4⟩
    have hq2 := Rule_szd r
    refine WL.ev rfl rfl (Ev.as rfl rfl) (WL.nil ?_)
    refine CW.fresh [(2, .pointer (some ⟨b1, 0, none⟩)), (3, .pointer (some ⟨b2, 0, none⟩)), (4, .bool false), (5, .int .i64 (r2))] ⟨rfl, rfl, rfl, rfl, trivial⟩ fun σ => ?_
    refine CW.seq (CW.seq (CW.reg ?_))
    refine WL.ev rfl rfl (Ev.mv rfl rfl) (WL.ev rfl rfl (Ev.bin rfl rfl rfl Bin.lss) (WL.nil ?_))
    refine CW.condD rfl (fun h2 => ?_) (fun h2 => ?_)
    · skip
      refine CW.fresh [(2, .pointer (some ⟨b1, 0, none⟩)), (3, .pointer (some ⟨b2, 0, none⟩)), (4, .bool false)] ⟨rfl, rfl, rfl, trivial⟩ fun σ => ?_
      refine CW.seq (CW.reg ?_)
      refine WL.ev rfl rfl (Ev.as rfl rfl) (WL.nil ?_)
      refine CW.ret ?_
      exact ⟨_, res1 rfl rfl rfl, (((hEb1.trans hEb2).trans hEw3).trans hEw4), rfl⟩
    · skip
      refine CW.skip ?_
      refine CW.fresh [(2, .pointer (some ⟨b1, 0, none⟩)), (3, .pointer (some ⟨b2, 0, none⟩)), (4, .bool false)] ⟨rfl, rfl, rfl, trivial⟩ fun σ => ?_
      refine CW.seq (CW.anyE 6 (fun ρ => [.inl (.agg #[.slice A1 g.Symbols.length c1, .slice A2 g.Rules.length c2]), .inr (fun S v w => ∃ cs : List Value, v = .agg cs.toArray ∧ rd S w (g) cs), .inl (.agg #[.string (r.Name), .string (r.Left), .slice A3 r.Right.length c3, .bool (r.Literal), .slice A4 r.Equations.length c4, .slice A5 r.Contributions.length c5]), .inr (fun S v w => ∃ cs : List Value, v = .agg cs.toArray ∧ rd S w (r) cs), .inr (fun S v w => ∃ cs : List Value, v = .agg cs.toArray ∧ rd S w ((sLocalRelation_m g r).getD ⟨0, []⟩) cs), .inr (fun S v w => ∃ b : Nat, v = .pointer (some ⟨b, 0, none⟩) ∧ S b ∧ Blk w b 35 [.int .i64 0, .slice none 0 0])]) hmix (by kernel_rfl) ⟨trivial, fun _ _ _ _ ⟨cs, e, h⟩ hE => ⟨cs, e, rd_ext h hE⟩, trivial, fun _ _ _ _ ⟨cs, e, h⟩ hE => ⟨cs, e, rd_ext h hE⟩, fun _ _ _ _ ⟨cs, e, h⟩ hE => ⟨cs, e, rd_ext h hE⟩, fun _ _ _ _ ⟨b, e, hS, h⟩ hE => ⟨b, e, hS, h.ext hE⟩, trivial⟩ ?_)
      refine LL.fx rfl rfl rfl (fun _ hq hK => Ev.lda rfl ag25 sz25 rfl (At.blk (hBb1.ext (((hEb2.trans hEw3).trans hEw4).trans hq))) rfl) ?_
      refine LL.free rfl rfl (fun wq hq hK => ?_) (fun v_1_1 S_1_1 => ?_)
      · skip
        refine OpX.call rfl rfl rfl rfl ok10 rfl (toGrammar_spec _ g (rd_ext hK1 ((((hEb1.trans hEb2).trans hEw3).trans hEw4).trans hq)) (by omega)) ?_
        rintro v w' hE ⟨cs, rfl, h⟩
        exact ⟨hE, cs, rfl, New.rd h⟩
      refine LL.fx rfl rfl rfl (fun _ hq hK => Ev.lda rfl ag30 sz30 rfl (At.blk (hBb2.ext ((hEw3.trans hEw4).trans hq))) rfl) ?_
      refine LL.free rfl rfl (fun wq hq hK => ?_) (fun v_1_3 S_1_3 => ?_)
      · skip
        refine OpX.call rfl rfl rfl rfl ok11 rfl (toRule_spec _ r (rd_ext hK2 ((((hEb1.trans hEb2).trans hEw3).trans hEw4).trans hq)) (by omega)) ?_
        rintro v w' hE ⟨cs, rfl, h⟩
        exact ⟨hE, cs, rfl, New.rd h⟩
      refine LL.free rfl rfl (fun wq hq hK => ?_) (fun v_1_4 S_1_4 => ?_)
      · skip
        obtain ⟨cs1, e1, hd1⟩ : ∃ cs : List Value, v_1_1 = .agg cs.toArray ∧ rd S_1_1 wq (g) cs := hK 1 rfl
        subst e1
        obtain ⟨cs3, e3, hd3⟩ : ∃ cs : List Value, v_1_3 = .agg cs.toArray ∧ rd S_1_3 wq (r) cs := hK 3 rfl
        subst e3
        refine OpX.call rfl rfl rfl rfl ok9 rfl (sLocalRelation_spec _ g hd1 (by omega) r hd3 (by omega)) ?_
        rintro v w' hE ⟨cs, rfl, h⟩
        exact ⟨hE, cs, rfl, New.rd h⟩
      refine LL.free rfl rfl (fun wq hq hK => OpX.alloc rfl rfl ze35) (fun v_1_5 S_1_5 => ?_)
      intro w5 hEw5 hKr1 hap1 hbd1
      have hs_1_1 : ∀ q, S_1_1 q → w4.heap.size ≤ q ∧ q < w5.heap.size := fun q hq => hbd1 1 q hq
      have hs_1_3 : ∀ q, S_1_3 q → w4.heap.size ≤ q ∧ q < w5.heap.size := fun q hq => hbd1 3 q hq
      have hs_1_4 : ∀ q, S_1_4 q → w4.heap.size ≤ q ∧ q < w5.heap.size := fun q hq => hbd1 4 q hq
      obtain ⟨cs1_4, e1_4, hd1_4⟩ : ∃ cs : List Value, v_1_4 = .agg cs.toArray ∧ rd S_1_4 w5 ((sLocalRelation_m g r).getD ⟨0, []⟩) cs := hKr1 4 (by decide)
      subst e1_4
      have hs_1_5 : ∀ q, S_1_5 q → w4.heap.size ≤ q ∧ q < w5.heap.size := fun q hq => hbd1 5 q hq
      obtain ⟨b1_5, e1_5, hS1_5, hB1_5⟩ : ∃ b : Nat, v_1_5 = .pointer (some ⟨b, 0, none⟩) ∧ S_1_5 b ∧ Blk w5 b 35 [.int .i64 0, .slice none 0 0] := hKr1 5 (by decide)
      subst e1_5
      refine WL.stW rfl rfl rfl sz35 rfl rfl rfl (Rep.len hd1_4) (Rep.one hd1_4) hB1_5 rfl fun w6 hCw6 hB_1 => ?_
      have hT1 := Blk.chg1 (hBb1.ext (((hEb2.trans hEw3).trans hEw4).trans hEw5)) hCw6 (by have := hBb1.lt; have := (hs_1_5 _ hS1_5).1; have := hEb2.size; have := hEw3.size; have := hEw4.size; omega)
      have hT2 := Blk.chg1 (hBb2.ext ((hEw3.trans hEw4).trans hEw5)) hCw6 (by have := hBb2.lt; have := (hs_1_5 _ hS1_5).1; have := hEw3.size; have := hEw4.size; omega)
      have hT3 := rd_chg1 hd1_4 hCw6 (fun q hq _ e => by subst e; exact absurd (hap1 5 4 _ hS1_5 hq) (by decide))
      have hX1 := Ext.chg1 ((((hEb1.trans hEb2).trans hEw3).trans hEw4).trans hEw5) hCw6 (by have := (hs_1_5 _ hS1_5).1; have := hEb1.size; have := hEb2.size; have := hEw3.size; have := hEw4.size; omega)
      refine WL.nil ?_
      refine CW.fresh [(2, .pointer (some ⟨b1, 0, none⟩)), (3, .pointer (some ⟨b2, 0, none⟩)), (4, .bool false), (6, .pointer (some ⟨b1_5, 0, none⟩))] ⟨rfl, rfl, rfl, rfl, trivial⟩ fun σ => ?_
      refine CW.seq (CW.reg ?_)
      refine WL.ev rfl rfl (Ev.lda rfl ag25 sz25 rfl (At.blk hT1) rfl) ?_
      refine WL.call rfl rfl rfl rfl rfl ok10 rfl (toGrammar_spec _ g (rd_ext hK1 hX1) (by omega)) ?_
      rintro _ w7 hEw7 ⟨cs4, rfl, L4, hO4, hN4, hF4⟩
      refine WL.alloc rfl rfl rfl ze40 fun b3 w8 hEb3 hbb3 hBb3 => ?_
      refine WL.stW rfl rfl rfl sz40 rfl rfl rfl (Rep.len (Sep.own_rd (own_ext hO4 hEb3))) (Rep.one (Sep.own_rd (own_ext hO4 hEb3))) hBb3 rfl fun w9 hCw9 hB_2 => ?_
      have hT4 := Blk.chg1 (hT1.ext (hEw7.trans hEb3)) hCw9 (by have := hBb1.lt; have := hbb3; have := hEb2.size; have := hEw3.size; have := hEw4.size; have := hEw5.size; have := hCw6.size; have := hEw7.size; omega)
      have hT5 := Blk.chg1 (hT2.ext (hEw7.trans hEb3)) hCw9 (by have := hBb2.lt; have := hbb3; have := hEw3.size; have := hEw4.size; have := hEw5.size; have := hCw6.size; have := hEw7.size; omega)
      have hT6 := rd_chg1 (rd_ext hT3 (hEw7.trans hEb3)) hCw9 (fun q hq _ e => by subst e; have := (hs_1_4 _ hq).2; have := hbb3; have := hCw6.size; have := hEw7.size; omega)
      have hT7 := Blk.chg1 (hB_1.ext (hEw7.trans hEb3)) hCw9 (by have := (hs_1_5 _ hS1_5).2; have := hbb3; have := hCw6.size; have := hEw7.size; omega)
      have hT8 := own_chg1 (own_ext hO4 hEb3) hCw9 (fun q hq e => by subst e; have := Sep.own_lt hO4 _ hq; have := hbb3; omega)
      have hX2 := Ext.chg1 ((hX1.trans hEw7).trans hEb3) hCw9 (by have := hbb3; have := hEb1.size; have := hEb2.size; have := hEw3.size; have := hEw4.size; have := hEw5.size; have := hCw6.size; have := hEw7.size; omega)
      refine WL.nil ?_
      refine CW.fresh [(2, .pointer (some ⟨b1, 0, none⟩)), (3, .pointer (some ⟨b2, 0, none⟩)), (4, .bool false), (6, .pointer (some ⟨b1_5, 0, none⟩)), (7, .pointer (some ⟨b3, 0, none⟩))] ⟨rfl, rfl, rfl, rfl, rfl, trivial⟩ fun σ => ?_
      refine CW.seq (CW.reg ?_)
      refine WL.ev rfl rfl (Ev.lda rfl ag30 sz30 rfl (At.blk hT5) rfl) ?_
      refine WL.call rfl rfl rfl rfl rfl ok11 rfl (toRule_spec _ r (rd_ext hK2 hX2) (by omega)) ?_
      rintro _ w10 hEw10 ⟨cs5, rfl, L5, hO5, hN5, hF5⟩
      refine WL.alloc rfl rfl rfl ze45 fun b4 w11 hEb4 hbb4 hBb4 => ?_
      refine WL.stW rfl rfl rfl sz45 rfl rfl rfl (Rep.len (Sep.own_rd (own_ext hO5 hEb4))) (Rep.one (Sep.own_rd (own_ext hO5 hEb4))) hBb4 rfl fun w12 hCw12 hB_3 => ?_
      have hT9 := Blk.chg1 (hT4.ext (hEw10.trans hEb4)) hCw12 (by have := hBb1.lt; have := hbb4; have := hEb2.size; have := hEw3.size; have := hEw4.size; have := hEw5.size; have := hCw6.size; have := hEw7.size; have := hEb3.size; have := hCw9.size; have := hEw10.size; omega)
      have hT10 := Blk.chg1 (hT5.ext (hEw10.trans hEb4)) hCw12 (by have := hBb2.lt; have := hbb4; have := hEw3.size; have := hEw4.size; have := hEw5.size; have := hCw6.size; have := hEw7.size; have := hEb3.size; have := hCw9.size; have := hEw10.size; omega)
      have hT11 := rd_chg1 (rd_ext hT6 (hEw10.trans hEb4)) hCw12 (fun q hq _ e => by subst e; have := (hs_1_4 _ hq).2; have := hbb4; have := hCw6.size; have := hEw7.size; have := hEb3.size; have := hCw9.size; have := hEw10.size; omega)
      have hT12 := Blk.chg1 (hT7.ext (hEw10.trans hEb4)) hCw12 (by have := (hs_1_5 _ hS1_5).2; have := hbb4; have := hCw6.size; have := hEw7.size; have := hEb3.size; have := hCw9.size; have := hEw10.size; omega)
      have hT13 := own_chg1 (own_ext hT8 (hEw10.trans hEb4)) hCw12 (fun q hq e => by subst e; have := Sep.own_lt hO4 _ hq; have := hbb4; have := hEb3.size; have := hCw9.size; have := hEw10.size; omega)
      have hT14 := Blk.chg1 (hB_2.ext (hEw10.trans hEb4)) hCw12 (by have := hBb3.lt; have := hbb4; have := hCw9.size; have := hEw10.size; omega)
      have hT15 := own_chg1 (own_ext hO5 hEb4) hCw12 (fun q hq e => by subst e; have := Sep.own_lt hO5 _ hq; have := hbb4; omega)
      have hX3 := Ext.chg1 ((hX2.trans hEw10).trans hEb4) hCw12 (by have := hbb4; have := hEb1.size; have := hEb2.size; have := hEw3.size; have := hEw4.size; have := hEw5.size; have := hCw6.size; have := hEw7.size; have := hEb3.size; have := hCw9.size; have := hEw10.size; omega)
      refine WL.nil ?_
      refine CW.fresh [(2, .pointer (some ⟨b1, 0, none⟩)), (3, .pointer (some ⟨b2, 0, none⟩)), (4, .bool false), (6, .pointer (some ⟨b1_5, 0, none⟩)), (7, .pointer (some ⟨b3, 0, none⟩)), (8, .pointer (some ⟨b4, 0, none⟩))] ⟨rfl, rfl, rfl, rfl, rfl, rfl, trivial⟩ fun σ => ?_
      refine CW.seq (CW.reg ?_)
      refine WL.ev rfl rfl (Ev.lda rfl ag40 sz40 rfl (At.blk hT14) (Rep.len (Sep.own_rd hT13))) (WL.ev rfl rfl (Ev.lda rfl ag45 sz45 rfl (At.blk hB_3) (Rep.len (Sep.own_rd hT15))) ?_)
      refine WL.call rfl rfl rfl rfl rfl ok12 rfl (iLocalRelation_spec _ g (Sep.own_rd hT13) (by omega) r (Sep.own_rd hT15) (by omega)) ?_
      rintro _ w13 hEw13 ⟨cs6, rfl, L6, hO6, hN6, hF6⟩
      refine WL.alloc rfl rfl rfl ze35 fun b5 w14 hEb5 hbb5 hBb5 => ?_
      refine WL.stW rfl rfl rfl sz35 rfl rfl rfl (Rep.len (Sep.own_rd (own_ext hO6 hEb5))) (Rep.one (Sep.own_rd (own_ext hO6 hEb5))) hBb5 rfl fun w15 hCw15 hB_4 => ?_
      have hT16 := Blk.chg1 (hT9.ext (hEw13.trans hEb5)) hCw15 (by have := hBb1.lt; have := hbb5; have := hEb2.size; have := hEw3.size; have := hEw4.size; have := hEw5.size; have := hCw6.size; have := hEw7.size; have := hEb3.size; have := hCw9.size; have := hEw10.size; have := hEb4.size; have := hCw12.size; have := hEw13.size; omega)
      have hT17 := Blk.chg1 (hT10.ext (hEw13.trans hEb5)) hCw15 (by have := hBb2.lt; have := hbb5; have := hEw3.size; have := hEw4.size; have := hEw5.size; have := hCw6.size; have := hEw7.size; have := hEb3.size; have := hCw9.size; have := hEw10.size; have := hEb4.size; have := hCw12.size; have := hEw13.size; omega)
      have hT18 := rd_chg1 (rd_ext hT11 (hEw13.trans hEb5)) hCw15 (fun q hq _ e => by subst e; have := (hs_1_4 _ hq).2; have := hbb5; have := hCw6.size; have := hEw7.size; have := hEb3.size; have := hCw9.size; have := hEw10.size; have := hEb4.size; have := hCw12.size; have := hEw13.size; omega)
      have hT19 := Blk.chg1 (hT12.ext (hEw13.trans hEb5)) hCw15 (by have := (hs_1_5 _ hS1_5).2; have := hbb5; have := hCw6.size; have := hEw7.size; have := hEb3.size; have := hCw9.size; have := hEw10.size; have := hEb4.size; have := hCw12.size; have := hEw13.size; omega)
      have hT20 := own_chg1 (own_ext hT13 (hEw13.trans hEb5)) hCw15 (fun q hq e => by subst e; have := Sep.own_lt hO4 _ hq; have := hbb5; have := hEb3.size; have := hCw9.size; have := hEw10.size; have := hEb4.size; have := hCw12.size; have := hEw13.size; omega)
      have hT21 := Blk.chg1 (hT14.ext (hEw13.trans hEb5)) hCw15 (by have := hBb3.lt; have := hbb5; have := hCw9.size; have := hEw10.size; have := hEb4.size; have := hCw12.size; have := hEw13.size; omega)
      have hT22 := own_chg1 (own_ext hT15 (hEw13.trans hEb5)) hCw15 (fun q hq e => by subst e; have := Sep.own_lt hO5 _ hq; have := hbb5; have := hEb4.size; have := hCw12.size; have := hEw13.size; omega)
      have hT23 := Blk.chg1 (hB_3.ext (hEw13.trans hEb5)) hCw15 (by have := hBb4.lt; have := hbb5; have := hCw12.size; have := hEw13.size; omega)
      have hT24 := own_chg1 (own_ext hO6 hEb5) hCw15 (fun q hq e => by subst e; have := Sep.own_lt hO6 _ hq; have := hbb5; omega)
      have hX4 := Ext.chg1 ((hX3.trans hEw13).trans hEb5) hCw15 (by have := hbb5; have := hEb1.size; have := hEb2.size; have := hEw3.size; have := hEw4.size; have := hEw5.size; have := hCw6.size; have := hEw7.size; have := hEb3.size; have := hCw9.size; have := hEw10.size; have := hEb4.size; have := hCw12.size; have := hEw13.size; omega)
      refine WL.nil ?_
      refine CW.fresh [(2, .pointer (some ⟨b1, 0, none⟩)), (3, .pointer (some ⟨b2, 0, none⟩)), (4, .bool false), (6, .pointer (some ⟨b1_5, 0, none⟩)), (7, .pointer (some ⟨b3, 0, none⟩)), (8, .pointer (some ⟨b4, 0, none⟩)), (9, .pointer (some ⟨b5, 0, none⟩))] ⟨rfl, rfl, rfl, rfl, rfl, rfl, rfl, trivial⟩ fun σ => ?_
      refine CW.seq (CW.seq (CW.reg ?_))
      refine WL.ev rfl rfl (Ev.lda rfl ag35 sz35 rfl (At.blk hB_4) (Rep.len (Sep.own_rd hT24))) (WL.ev rfl rfl (Ev.lda rfl ag35 sz35 rfl (At.blk hT19) (Rep.len hT18)) ?_)
      refine WL.call rfl rfl rfl rfl rfl ok13 rfl ((eqRelation_spec _ ((sLocalRelation_m g r).getD ⟨0, []⟩) ((sLocalRelation_m g r).getD ⟨0, []⟩) (Sep.own_rd hT24) hT18).yes rfl) ?_
      rintro _ w16 hEw16 rfl
      refine WL.ev rfl rfl (Ev.not rfl rfl) (WL.nil ?_)
      refine CW.condF rfl ?_
      refine CW.skip ?_
      refine CW.fresh [(2, .pointer (some ⟨b1, 0, none⟩)), (3, .pointer (some ⟨b2, 0, none⟩)), (4, .bool false), (6, .pointer (some ⟨b1_5, 0, none⟩)), (7, .pointer (some ⟨b3, 0, none⟩)), (8, .pointer (some ⟨b4, 0, none⟩)), (9, .pointer (some ⟨b5, 0, none⟩))] ⟨rfl, rfl, rfl, rfl, rfl, rfl, rfl, trivial⟩ fun σ => ?_
      refine CW.seq (CW.seq (CW.anyE 5 (fun ρ => [.inl (.agg cs4.toArray), .inl (.agg #[.slice A1 g.Symbols.length c1, .slice A2 g.Rules.length c2]), .inr (fun S v w => ∃ cs : List Value, v = .agg cs.toArray ∧ rd S w (g) cs), .inl (.bool true), .inl (.bool (!true))]) hmix (by kernel_rfl) ⟨trivial, trivial, fun _ _ _ _ ⟨cs, e, h⟩ hE => ⟨cs, e, rd_ext h hE⟩, trivial, trivial, trivial⟩ ?_))
      refine LL.fx rfl rfl rfl (fun _ hq hK => Ev.lda rfl ag40 sz40 rfl (At.blk (hT21.ext (hEw16.trans hq))) (Rep.len (Sep.own_rd (own_ext hT20 (hEw16.trans hq))))) ?_
      refine LL.fx rfl rfl rfl (fun _ hq hK => Ev.lda rfl ag25 sz25 rfl (At.blk (hT16.ext (hEw16.trans hq))) rfl) ?_
      refine LL.free rfl rfl (fun wq hq hK => ?_) (fun v_2_2 S_2_2 => ?_)
      · skip
        refine OpX.call rfl rfl rfl rfl ok10 rfl (toGrammar_spec _ g (rd_ext hK1 ((hX4.trans hEw16).trans hq)) (by omega)) ?_
        rintro v w' hE ⟨cs, rfl, h⟩
        exact ⟨hE, cs, rfl, New.rd h⟩
      refine LL.fixed rfl rfl (fun wq hq hK => ?_) ?_
      · skip
        obtain ⟨cs2, e2, hd2⟩ : ∃ cs : List Value, v_2_2 = .agg cs.toArray ∧ rd S_2_2 wq (g) cs := hK 2 rfl
        subst e2
        refine OpX.call rfl rfl rfl rfl ok14 rfl ((eqGrammar_spec _ g g (Sep.own_rd (own_ext hT20 (hEw16.trans hq))) hd2).yes rfl) ?_
        rintro v w' hE rfl
        exact ⟨hE, rfl⟩
      refine LL.fx rfl rfl rfl (fun _ hq hK => Ev.not rfl rfl) ?_
      intro w17 hEw17 hKr2 hap2 hbd2
      have hs_2_2 : ∀ q, S_2_2 q → w16.heap.size ≤ q ∧ q < w17.heap.size := fun q hq => hbd2 2 q hq
      refine WL.nil ?_
      refine CW.condF rfl ?_
      refine CW.skip ?_
      refine CW.fresh [(2, .pointer (some ⟨b1, 0, none⟩)), (3, .pointer (some ⟨b2, 0, none⟩)), (4, .bool false), (6, .pointer (some ⟨b1_5, 0, none⟩)), (7, .pointer (some ⟨b3, 0, none⟩)), (8, .pointer (some ⟨b4, 0, none⟩)), (9, .pointer (some ⟨b5, 0, none⟩))] ⟨rfl, rfl, rfl, rfl, rfl, rfl, rfl, trivial⟩ fun σ => ?_
      refine CW.seq (CW.seq (CW.anyE 5 (fun ρ => [.inl (.agg cs5.toArray), .inl (.agg #[.string (r.Name), .string (r.Left), .slice A3 r.Right.length c3, .bool (r.Literal), .slice A4 r.Equations.length c4, .slice A5 r.Contributions.length c5]), .inr (fun S v w => ∃ cs : List Value, v = .agg cs.toArray ∧ rd S w (r) cs), .inl (.bool true), .inl (.bool (!true))]) hmix (by kernel_rfl) ⟨trivial, trivial, fun _ _ _ _ ⟨cs, e, h⟩ hE => ⟨cs, e, rd_ext h hE⟩, trivial, trivial, trivial⟩ ?_))
      refine LL.fx rfl rfl rfl (fun _ hq hK => Ev.lda rfl ag45 sz45 rfl (At.blk (hT23.ext ((hEw16.trans hEw17).trans hq))) (Rep.len (Sep.own_rd (own_ext hT22 ((hEw16.trans hEw17).trans hq))))) ?_
      refine LL.fx rfl rfl rfl (fun _ hq hK => Ev.lda rfl ag30 sz30 rfl (At.blk (hT17.ext ((hEw16.trans hEw17).trans hq))) rfl) ?_
      refine LL.free rfl rfl (fun wq hq hK => ?_) (fun v_3_2 S_3_2 => ?_)
      · skip
        refine OpX.call rfl rfl rfl rfl ok11 rfl (toRule_spec _ r (rd_ext hK2 (((hX4.trans hEw16).trans hEw17).trans hq)) (by omega)) ?_
        rintro v w' hE ⟨cs, rfl, h⟩
        exact ⟨hE, cs, rfl, New.rd h⟩
      refine LL.fixed rfl rfl (fun wq hq hK => ?_) ?_
      · skip
        obtain ⟨cs2, e2, hd2⟩ : ∃ cs : List Value, v_3_2 = .agg cs.toArray ∧ rd S_3_2 wq (r) cs := hK 2 rfl
        subst e2
        refine OpX.call rfl rfl rfl rfl ok15 rfl ((eqRule_spec _ r r (Sep.own_rd (own_ext hT22 ((hEw16.trans hEw17).trans hq))) hd2).yes rfl) ?_
        rintro v w' hE rfl
        exact ⟨hE, rfl⟩
      refine LL.fx rfl rfl rfl (fun _ hq hK => Ev.not rfl rfl) ?_
      intro w18 hEw18 hKr3 hap3 hbd3
      have hs_3_2 : ∀ q, S_3_2 q → w17.heap.size ≤ q ∧ q < w18.heap.size := fun q hq => hbd3 2 q hq
      refine WL.nil ?_
      refine CW.condF rfl ?_
      refine CW.skip ?_
      refine CW.fresh [(2, .pointer (some ⟨b1, 0, none⟩)), (3, .pointer (some ⟨b2, 0, none⟩)), (4, .bool false), (6, .pointer (some ⟨b1_5, 0, none⟩)), (7, .pointer (some ⟨b3, 0, none⟩)), (8, .pointer (some ⟨b4, 0, none⟩)), (9, .pointer (some ⟨b5, 0, none⟩))] ⟨rfl, rfl, rfl, rfl, rfl, rfl, rfl, trivial⟩ fun σ => ?_
      refine CW.seq (CW.reg ?_)
      refine WL.ev rfl rfl (Ev.as rfl rfl) (WL.nil ?_)
      refine CW.fresh [(2, .pointer (some ⟨b1, 0, none⟩)), (3, .pointer (some ⟨b2, 0, none⟩)), (4, .bool false), (6, .pointer (some ⟨b1_5, 0, none⟩)), (7, .pointer (some ⟨b3, 0, none⟩)), (8, .pointer (some ⟨b4, 0, none⟩)), (9, .pointer (some ⟨b5, 0, none⟩)), (10, .int .i64 (1))] ⟨rfl, rfl, rfl, rfl, rfl, rfl, rfl, rfl, trivial⟩ fun σ => ?_
      refine CW.seq (CW.reg ?_)
      refine WL.ev rfl rfl (Ev.lda rfl ag40 sz40 rfl (At.blk (hT21.ext ((hEw16.trans hEw17).trans hEw18))) (Rep.len (Sep.own_rd (own_ext hT20 ((hEw16.trans hEw17).trans hEw18))))) (WL.ev rfl rfl (Ev.mv rfl rfl) ?_)
      refine WL.call rfl rfl rfl rfl rfl ok16 rfl (markGrammar_spec _ L4 g (own_ext hT20 ((hEw16.trans hEw17).trans hEw18)) hN4 1 (by omega) (by have := cnt_anyT g (by omega); omega)) ?_
      rintro _ w19 hEw19 ⟨rfl, hO_1⟩
      have hT25 := Blk.chgL (hT16.ext ((hEw16.trans hEw17).trans hEw18)) hEw19 (fun hq => by have := hBb1.lt; have := hF4 _ hq; have := hEb2.size; have := hEw3.size; have := hEw4.size; have := hEw5.size; have := hCw6.size; omega)
      have hT26 := Blk.chgL (hT17.ext ((hEw16.trans hEw17).trans hEw18)) hEw19 (fun hq => by have := hBb2.lt; have := hF4 _ hq; have := hEw3.size; have := hEw4.size; have := hEw5.size; have := hCw6.size; omega)
      have hT27 := rd_chgL (rd_ext hT18 ((hEw16.trans hEw17).trans hEw18)) hEw19 (fun q hq _ h2 => by have := (hs_1_4 _ hq).2; have := hF4 _ h2; have := hCw6.size; omega)
      have hT28 := Blk.chgL (hT19.ext ((hEw16.trans hEw17).trans hEw18)) hEw19 (fun hq => by have := (hs_1_5 _ hS1_5).2; have := hF4 _ hq; have := hCw6.size; omega)
      have hT29 := Blk.chgL (hT21.ext ((hEw16.trans hEw17).trans hEw18)) hEw19 (fun hq => by have := Sep.own_lt hO4 _ hq; have := hbb3; omega)
      have hT30 := own_chgL (own_ext hT22 ((hEw16.trans hEw17).trans hEw18)) hEw19 (fun q hq h2 => by have := Sep.own_lt hO4 _ h2; have := hF5 _ hq; have := hEb3.size; have := hCw9.size; omega)
      have hT31 := Blk.chgL (hT23.ext ((hEw16.trans hEw17).trans hEw18)) hEw19 (fun hq => by have := Sep.own_lt hO4 _ hq; have := hbb4; have := hEb3.size; have := hCw9.size; have := hEw10.size; omega)
      have hT32 := own_chgL (own_ext hT24 ((hEw16.trans hEw17).trans hEw18)) hEw19 (fun q hq h2 => by have := Sep.own_lt hO4 _ h2; have := hF6 _ hq; have := hEb3.size; have := hCw9.size; have := hEw10.size; have := hEb4.size; have := hCw12.size; omega)
      have hT33 := Blk.chgL (hB_4.ext ((hEw16.trans hEw17).trans hEw18)) hEw19 (fun hq => by have := Sep.own_lt hO4 _ hq; have := hbb5; have := hEb3.size; have := hCw9.size; have := hEw10.size; have := hEb4.size; have := hCw12.size; have := hEw13.size; omega)
      have hX5 := Ext.chgL (((hX4.trans hEw16).trans hEw17).trans hEw18) hEw19 (fun q hq => by have := hF4 _ hq; have := hEb1.size; have := hEb2.size; have := hEw3.size; have := hEw4.size; have := hEw5.size; have := hCw6.size; omega)
      have := cnt_anyT g (by omega)
      refine WL.ev rfl rfl (Ev.as rfl rfl) (WL.nil ?_)
      refine CW.fresh [(2, .pointer (some ⟨b1, 0, none⟩)), (3, .pointer (some ⟨b2, 0, none⟩)), (4, .bool false), (6, .pointer (some ⟨b1_5, 0, none⟩)), (8, .pointer (some ⟨b4, 0, none⟩)), (9, .pointer (some ⟨b5, 0, none⟩)), (10, .int .i64 (1 + (MkT.cntT g : Nat)))] ⟨rfl, rfl, rfl, rfl, rfl, rfl, rfl, trivial⟩ fun σ => ?_
      refine CW.seq (CW.reg ?_)
      refine WL.ev rfl rfl (Ev.lda rfl ag45 sz45 rfl (At.blk hT31) (Rep.len (Sep.own_rd hT30))) (WL.ev rfl rfl (Ev.mv rfl rfl) ?_)
      refine WL.call rfl rfl rfl rfl rfl ok17 rfl (markRule_spec _ L5 r hT30 hN5 (1 + (MkT.cntT g : Nat)) (by omega) (by have := cnt_anyT r (by omega); omega)) ?_
      rintro _ w20 hEw20 ⟨rfl, hO_2⟩
      have hT34 := Blk.chgL hT25 hEw20 (fun hq => by have := hBb1.lt; have := hF5 _ hq; have := hEb2.size; have := hEw3.size; have := hEw4.size; have := hEw5.size; have := hCw6.size; have := hEw7.size; have := hEb3.size; have := hCw9.size; omega)
      have hT35 := Blk.chgL hT26 hEw20 (fun hq => by have := hBb2.lt; have := hF5 _ hq; have := hEw3.size; have := hEw4.size; have := hEw5.size; have := hCw6.size; have := hEw7.size; have := hEb3.size; have := hCw9.size; omega)
      have hT36 := rd_chgL hT27 hEw20 (fun q hq _ h2 => by have := (hs_1_4 _ hq).2; have := hF5 _ h2; have := hCw6.size; have := hEw7.size; have := hEb3.size; have := hCw9.size; omega)
      have hT37 := Blk.chgL hT28 hEw20 (fun hq => by have := (hs_1_5 _ hS1_5).2; have := hF5 _ hq; have := hCw6.size; have := hEw7.size; have := hEb3.size; have := hCw9.size; omega)
      have hT38 := own_chgL hO_1 hEw20 (fun q hq h2 => by have := Sep.own_lt hO4 _ hq; have := hF5 _ h2; have := hEb3.size; have := hCw9.size; omega)
      have hT39 := Blk.chgL hT29 hEw20 (fun hq => by have := hBb3.lt; have := hF5 _ hq; have := hCw9.size; omega)
      have hT40 := Blk.chgL hT31 hEw20 (fun hq => by have := Sep.own_lt hO5 _ hq; have := hbb4; omega)
      have hT41 := own_chgL hT32 hEw20 (fun q hq h2 => by have := Sep.own_lt hO5 _ h2; have := hF6 _ hq; have := hEb4.size; have := hCw12.size; omega)
      have hT42 := Blk.chgL hT33 hEw20 (fun hq => by have := Sep.own_lt hO5 _ hq; have := hbb5; have := hEb4.size; have := hCw12.size; have := hEw13.size; omega)
      have hX6 := Ext.chgL hX5 hEw20 (fun q hq => by have := hF5 _ hq; have := hEb1.size; have := hEb2.size; have := hEw3.size; have := hEw4.size; have := hEw5.size; have := hCw6.size; have := hEw7.size; have := hEb3.size; have := hCw9.size; omega)
      have := cnt_anyT r (by omega)
      refine WL.ev rfl rfl (Ev.as rfl rfl) (WL.nil ?_)
      refine CW.fresh [(2, .pointer (some ⟨b1, 0, none⟩)), (3, .pointer (some ⟨b2, 0, none⟩)), (4, .bool false), (6, .pointer (some ⟨b1_5, 0, none⟩)), (9, .pointer (some ⟨b5, 0, none⟩)), (10, .int .i64 (1 + (MkT.cntT g : Nat) + (MkT.cntT r : Nat)))] ⟨rfl, rfl, rfl, rfl, rfl, rfl, trivial⟩ fun σ => ?_
      refine CW.seq (CW.seq (CW.reg ?_))
      refine WL.ev rfl rfl (Ev.mv rfl rfl) (WL.ev rfl rfl (Ev.bin rfl rfl rfl (Bin.no (by omega))) (WL.ev rfl rfl (Ev.mv rfl rfl) (WL.on rfl rfl (WL.ev rfl rfl (Ev.lda rfl ag35 sz35 rfl (At.blk hT42) (Rep.len (Sep.own_rd hT41))) (WL.on rfl rfl (WL.ev rfl rfl (Ev.lda rfl ag35 sz35 rfl (At.blk hT37) (Rep.len hT36)) (WL.on rfl rfl ?_)))))))
      refine WL.call rfl rfl rfl rfl rfl ok13 rfl ((eqRelation_spec _ ((sLocalRelation_m g r).getD ⟨0, []⟩) ((sLocalRelation_m g r).getD ⟨0, []⟩) (Sep.own_rd hT41) hT36).yes rfl) ?_
      rintro _ w21 hEw21 rfl
      refine WL.on rfl rfl (WL.ev rfl rfl (Ev.not rfl rfl) (WL.ev rfl rfl (Ev.pickF rfl rfl rfl) (WL.nil ?_)))
      refine CW.condF rfl ?_
      refine CW.skip ?_
      refine CW.fresh [(2, .pointer (some ⟨b1, 0, none⟩)), (3, .pointer (some ⟨b2, 0, none⟩)), (4, .bool false), (6, .pointer (some ⟨b1_5, 0, none⟩)), (9, .pointer (some ⟨b5, 0, none⟩))] ⟨rfl, rfl, rfl, rfl, rfl, trivial⟩ fun σ => ?_
      refine CW.seq (CW.reg ?_)
      refine WL.ev rfl rfl (Ev.as rfl rfl) (WL.nil ?_)
      refine CW.fresh [(2, .pointer (some ⟨b1, 0, none⟩)), (3, .pointer (some ⟨b2, 0, none⟩)), (4, .bool false), (6, .pointer (some ⟨b1_5, 0, none⟩)), (9, .pointer (some ⟨b5, 0, none⟩)), (11, .int .i64 (1))] ⟨rfl, rfl, rfl, rfl, rfl, rfl, trivial⟩ fun σ => ?_
      refine CW.seq (CW.reg ?_)
      refine WL.ev rfl rfl (Ev.lda rfl ag35 sz35 rfl (At.blk (hT42.ext hEw21)) (Rep.len (Sep.own_rd (own_ext hT41 hEw21)))) (WL.ev rfl rfl (Ev.mv rfl rfl) ?_)
      refine WL.call rfl rfl rfl rfl rfl ok18 rfl (markRelation_spec _ L6 ((sLocalRelation_m g r).getD ⟨0, []⟩) (own_ext hT41 hEw21) hN6 1 (by omega) (by have := cnt_local g r (by omega) (by omega); omega)) ?_
      rintro _ w22 hEw22 ⟨rfl, hO_3⟩
      have hT43 := Blk.chgL (hT34.ext hEw21) hEw22 (fun hq => by have := hBb1.lt; have := hF6 _ hq; have := hEb2.size; have := hEw3.size; have := hEw4.size; have := hEw5.size; have := hCw6.size; have := hEw7.size; have := hEb3.size; have := hCw9.size; have := hEw10.size; have := hEb4.size; have := hCw12.size; omega)
      have hT44 := Blk.chgL (hT35.ext hEw21) hEw22 (fun hq => by have := hBb2.lt; have := hF6 _ hq; have := hEw3.size; have := hEw4.size; have := hEw5.size; have := hCw6.size; have := hEw7.size; have := hEb3.size; have := hCw9.size; have := hEw10.size; have := hEb4.size; have := hCw12.size; omega)
      have hT45 := rd_chgL (rd_ext hT36 hEw21) hEw22 (fun q hq _ h2 => by have := (hs_1_4 _ hq).2; have := hF6 _ h2; have := hCw6.size; have := hEw7.size; have := hEb3.size; have := hCw9.size; have := hEw10.size; have := hEb4.size; have := hCw12.size; omega)
      have hT46 := Blk.chgL (hT37.ext hEw21) hEw22 (fun hq => by have := (hs_1_5 _ hS1_5).2; have := hF6 _ hq; have := hCw6.size; have := hEw7.size; have := hEb3.size; have := hCw9.size; have := hEw10.size; have := hEb4.size; have := hCw12.size; omega)
      have hT47 := own_chgL (own_ext hT38 hEw21) hEw22 (fun q hq h2 => by have := Sep.own_lt hO4 _ hq; have := hF6 _ h2; have := hEb3.size; have := hCw9.size; have := hEw10.size; have := hEb4.size; have := hCw12.size; omega)
      have hT48 := Blk.chgL (hT39.ext hEw21) hEw22 (fun hq => by have := hBb3.lt; have := hF6 _ hq; have := hCw9.size; have := hEw10.size; have := hEb4.size; have := hCw12.size; omega)
      have hT49 := own_chgL (own_ext hO_2 hEw21) hEw22 (fun q hq h2 => by have := Sep.own_lt hO5 _ hq; have := hF6 _ h2; have := hEb4.size; have := hCw12.size; omega)
      have hT50 := Blk.chgL (hT40.ext hEw21) hEw22 (fun hq => by have := hBb4.lt; have := hF6 _ hq; have := hCw12.size; omega)
      have hT51 := Blk.chgL (hT42.ext hEw21) hEw22 (fun hq => by have := Sep.own_lt hO6 _ hq; have := hbb5; omega)
      have hX7 := Ext.chgL (hX6.trans hEw21) hEw22 (fun q hq => by have := hF6 _ hq; have := hEb1.size; have := hEb2.size; have := hEw3.size; have := hEw4.size; have := hEw5.size; have := hCw6.size; have := hEw7.size; have := hEb3.size; have := hCw9.size; have := hEw10.size; have := hEb4.size; have := hCw12.size; omega)
      have := cnt_local g r (by omega) (by omega)
      refine WL.ev rfl rfl (Ev.as rfl rfl) (WL.nil ?_)
      refine CW.fresh [(2, .pointer (some ⟨b1, 0, none⟩)), (3, .pointer (some ⟨b2, 0, none⟩)), (4, .bool false), (6, .pointer (some ⟨b1_5, 0, none⟩)), (9, .pointer (some ⟨b5, 0, none⟩)), (11, .int .i64 (1 + (MkT.cntT ((sLocalRelation_m g r).getD ⟨0, []⟩) : Nat)))] ⟨rfl, rfl, rfl, rfl, rfl, rfl, trivial⟩ fun σ => ?_
      refine CW.seq (CW.reg ?_)
      refine WL.ev rfl rfl (Ev.as rfl rfl) (WL.nil ?_)
      refine CW.fresh [(2, .pointer (some ⟨b1, 0, none⟩)), (3, .pointer (some ⟨b2, 0, none⟩)), (4, .bool false), (6, .pointer (some ⟨b1_5, 0, none⟩)), (9, .pointer (some ⟨b5, 0, none⟩)), (11, .int .i64 (1 + (MkT.cntT ((sLocalRelation_m g r).getD ⟨0, []⟩) : Nat))), (12, .int .i64 (1))] ⟨rfl, rfl, rfl, rfl, rfl, rfl, rfl, trivial⟩ fun σ => ?_
      refine CW.seq (CW.reg ?_)
      refine WL.ev rfl rfl (Ev.lda rfl ag35 sz35 rfl (At.blk hT51) (Rep.len (Sep.own_rd hO_3))) (WL.ev rfl rfl (Ev.mv rfl rfl) ?_)
      refine WL.call rfl rfl rfl rfl rfl ok19 rfl (heldRelation_spec _ (MkT.mrkT ((sLocalRelation_m g r).getD ⟨0, []⟩) 1) (Sep.own_rd hO_3) 1 (by omega) (by rw [MkT.cmT]; have := cnt_local g r (by omega) (by omega); omega)) ?_
      rintro _ w23 hEw23 ⟨r3, rfl, hr5⟩
      rw [MkT.lawT] at hr5
      have := hr5.is
      refine WL.ev rfl rfl (Ev.as rfl rfl) (WL.nil ?_)
      refine CW.fresh [(2, .pointer (some ⟨b1, 0, none⟩)), (3, .pointer (some ⟨b2, 0, none⟩)), (4, .bool false), (6, .pointer (some ⟨b1_5, 0, none⟩)), (9, .pointer (some ⟨b5, 0, none⟩)), (11, .int .i64 (1 + (MkT.cntT ((sLocalRelation_m g r).getD ⟨0, []⟩) : Nat))), (12, .int .i64 (r3))] ⟨rfl, rfl, rfl, rfl, rfl, rfl, rfl, trivial⟩ fun σ => ?_
      refine CW.seq (CW.seq (CW.reg ?_))
      refine WL.ev rfl rfl (Ev.mv rfl rfl) (WL.ev rfl rfl (Ev.bin rfl rfl rfl (Bin.no (by omega))) (WL.nil ?_))
      refine CW.condF rfl ?_
      refine CW.skip ?_
      refine CW.fresh [(2, .pointer (some ⟨b1, 0, none⟩)), (3, .pointer (some ⟨b2, 0, none⟩)), (4, .bool false), (6, .pointer (some ⟨b1_5, 0, none⟩)), (9, .pointer (some ⟨b5, 0, none⟩)), (11, .int .i64 (1 + (MkT.cntT ((sLocalRelation_m g r).getD ⟨0, []⟩) : Nat))), (12, .int .i64 (r3))] ⟨rfl, rfl, rfl, rfl, rfl, rfl, rfl, trivial⟩ fun σ => ?_
      refine CW.seq (CW.seq (CW.reg ?_))
      refine WL.ev rfl rfl (Ev.mv rfl rfl) (WL.ev rfl rfl (Ev.mv rfl rfl) (WL.ev rfl rfl (Ev.bin rfl rfl rfl (Bin.neqSame (by omega))) (WL.nil ?_)))
      refine CW.condF rfl ?_
      refine CW.skip ?_
      refine CW.fresh [(2, .pointer (some ⟨b1, 0, none⟩)), (3, .pointer (some ⟨b2, 0, none⟩)), (4, .bool false), (6, .pointer (some ⟨b1_5, 0, none⟩)), (9, .pointer (some ⟨b5, 0, none⟩)), (11, .int .i64 (1 + (MkT.cntT ((sLocalRelation_m g r).getD ⟨0, []⟩) : Nat))), (12, .int .i64 (r3))] ⟨rfl, rfl, rfl, rfl, rfl, rfl, rfl, trivial⟩ fun σ => ?_
      refine CW.seq (CW.anyE 6 (fun ρ => [.inl (.agg #[.slice A1 g.Symbols.length c1, .slice A2 g.Rules.length c2]), .inr (fun S v w => ∃ cs : List Value, v = .agg cs.toArray ∧ rd S w (g) cs), .inl (.agg #[.string (r.Name), .string (r.Left), .slice A3 r.Right.length c3, .bool (r.Literal), .slice A4 r.Equations.length c4, .slice A5 r.Contributions.length c5]), .inr (fun S v w => ∃ cs : List Value, v = .agg cs.toArray ∧ rd S w (r) cs), .inr (fun S v w => ∃ cs : List Value, v = .agg cs.toArray ∧ rd S w ((sLocalRelation_m g r).getD ⟨0, []⟩) cs), .inr (fun S v w => ∃ b : Nat, v = .pointer (some ⟨b, 0, none⟩) ∧ S b ∧ Blk w b 35 [.int .i64 0, .slice none 0 0])]) hmix (by kernel_rfl) ⟨trivial, fun _ _ _ _ ⟨cs, e, h⟩ hE => ⟨cs, e, rd_ext h hE⟩, trivial, fun _ _ _ _ ⟨cs, e, h⟩ hE => ⟨cs, e, rd_ext h hE⟩, fun _ _ _ _ ⟨cs, e, h⟩ hE => ⟨cs, e, rd_ext h hE⟩, fun _ _ _ _ ⟨b, e, hS, h⟩ hE => ⟨b, e, hS, h.ext hE⟩, trivial⟩ ?_)
      refine LL.fx rfl rfl rfl (fun _ hq hK => Ev.lda rfl ag25 sz25 rfl (At.blk (hT43.ext (hEw23.trans hq))) rfl) ?_
      refine LL.free rfl rfl (fun wq hq hK => ?_) (fun v_4_1 S_4_1 => ?_)
      · skip
        refine OpX.call rfl rfl rfl rfl ok10 rfl (toGrammar_spec _ g (rd_ext hK1 ((hX7.trans hEw23).trans hq)) (by omega)) ?_
        rintro v w' hE ⟨cs, rfl, h⟩
        exact ⟨hE, cs, rfl, New.rd h⟩
      refine LL.fx rfl rfl rfl (fun _ hq hK => Ev.lda rfl ag30 sz30 rfl (At.blk (hT44.ext (hEw23.trans hq))) rfl) ?_
      refine LL.free rfl rfl (fun wq hq hK => ?_) (fun v_4_3 S_4_3 => ?_)
      · skip
        refine OpX.call rfl rfl rfl rfl ok11 rfl (toRule_spec _ r (rd_ext hK2 ((hX7.trans hEw23).trans hq)) (by omega)) ?_
        rintro v w' hE ⟨cs, rfl, h⟩
        exact ⟨hE, cs, rfl, New.rd h⟩
      refine LL.free rfl rfl (fun wq hq hK => ?_) (fun v_4_4 S_4_4 => ?_)
      · skip
        obtain ⟨cs1, e1, hd1⟩ : ∃ cs : List Value, v_4_1 = .agg cs.toArray ∧ rd S_4_1 wq (g) cs := hK 1 rfl
        subst e1
        obtain ⟨cs3, e3, hd3⟩ : ∃ cs : List Value, v_4_3 = .agg cs.toArray ∧ rd S_4_3 wq (r) cs := hK 3 rfl
        subst e3
        refine OpX.call rfl rfl rfl rfl ok12 rfl (iLocalRelation_spec _ g hd1 (by omega) r hd3 (by omega)) ?_
        rintro v w' hE ⟨cs, rfl, h⟩
        exact ⟨hE, cs, rfl, New.rd h⟩
      refine LL.free rfl rfl (fun wq hq hK => OpX.alloc rfl rfl ze35) (fun v_4_5 S_4_5 => ?_)
      intro w24 hEw24 hKr4 hap4 hbd4
      have hs_4_1 : ∀ q, S_4_1 q → w23.heap.size ≤ q ∧ q < w24.heap.size := fun q hq => hbd4 1 q hq
      have hs_4_3 : ∀ q, S_4_3 q → w23.heap.size ≤ q ∧ q < w24.heap.size := fun q hq => hbd4 3 q hq
      have hs_4_4 : ∀ q, S_4_4 q → w23.heap.size ≤ q ∧ q < w24.heap.size := fun q hq => hbd4 4 q hq
      obtain ⟨cs4_4, e4_4, hd4_4⟩ : ∃ cs : List Value, v_4_4 = .agg cs.toArray ∧ rd S_4_4 w24 ((sLocalRelation_m g r).getD ⟨0, []⟩) cs := hKr4 4 (by decide)
      subst e4_4
      have hs_4_5 : ∀ q, S_4_5 q → w23.heap.size ≤ q ∧ q < w24.heap.size := fun q hq => hbd4 5 q hq
      obtain ⟨b4_5, e4_5, hS4_5, hB4_5⟩ : ∃ b : Nat, v_4_5 = .pointer (some ⟨b, 0, none⟩) ∧ S_4_5 b ∧ Blk w24 b 35 [.int .i64 0, .slice none 0 0] := hKr4 5 (by decide)
      subst e4_5
      refine WL.stW rfl rfl rfl sz35 rfl rfl rfl (Rep.len hd4_4) (Rep.one hd4_4) hB4_5 rfl fun w25 hCw25 hB_5 => ?_
      have hT52 := Blk.chg1 (hT43.ext (hEw23.trans hEw24)) hCw25 (by have := hBb1.lt; have := (hs_4_5 _ hS4_5).1; have := hEb2.size; have := hEw3.size; have := hEw4.size; have := hEw5.size; have := hCw6.size; have := hEw7.size; have := hEb3.size; have := hCw9.size; have := hEw10.size; have := hEb4.size; have := hCw12.size; have := hEw13.size; have := hEb5.size; have := hCw15.size; have := hEw16.size; have := hEw17.size; have := hEw18.size; have := hEw19.size; have := hEw20.size; have := hEw21.size; have := hEw22.size; have := hEw23.size; omega)
      have hT53 := Blk.chg1 (hT44.ext (hEw23.trans hEw24)) hCw25 (by have := hBb2.lt; have := (hs_4_5 _ hS4_5).1; have := hEw3.size; have := hEw4.size; have := hEw5.size; have := hCw6.size; have := hEw7.size; have := hEb3.size; have := hCw9.size; have := hEw10.size; have := hEb4.size; have := hCw12.size; have := hEw13.size; have := hEb5.size; have := hCw15.size; have := hEw16.size; have := hEw17.size; have := hEw18.size; have := hEw19.size; have := hEw20.size; have := hEw21.size; have := hEw22.size; have := hEw23.size; omega)
      have hT54 := rd_chg1 (rd_ext hT45 (hEw23.trans hEw24)) hCw25 (fun q hq _ e => by subst e; have := (hs_1_4 _ hq).2; have := (hs_4_5 _ hS4_5).1; have := hCw6.size; have := hEw7.size; have := hEb3.size; have := hCw9.size; have := hEw10.size; have := hEb4.size; have := hCw12.size; have := hEw13.size; have := hEb5.size; have := hCw15.size; have := hEw16.size; have := hEw17.size; have := hEw18.size; have := hEw19.size; have := hEw20.size; have := hEw21.size; have := hEw22.size; have := hEw23.size; omega)
      have hT55 := Blk.chg1 (hT46.ext (hEw23.trans hEw24)) hCw25 (by have := (hs_1_5 _ hS1_5).2; have := (hs_4_5 _ hS4_5).1; have := hCw6.size; have := hEw7.size; have := hEb3.size; have := hCw9.size; have := hEw10.size; have := hEb4.size; have := hCw12.size; have := hEw13.size; have := hEb5.size; have := hCw15.size; have := hEw16.size; have := hEw17.size; have := hEw18.size; have := hEw19.size; have := hEw20.size; have := hEw21.size; have := hEw22.size; have := hEw23.size; omega)
      have hT56 := own_chg1 (own_ext hT47 (hEw23.trans hEw24)) hCw25 (fun q hq e => by subst e; have := Sep.own_lt hO4 _ hq; have := (hs_4_5 _ hS4_5).1; have := hEb3.size; have := hCw9.size; have := hEw10.size; have := hEb4.size; have := hCw12.size; have := hEw13.size; have := hEb5.size; have := hCw15.size; have := hEw16.size; have := hEw17.size; have := hEw18.size; have := hEw19.size; have := hEw20.size; have := hEw21.size; have := hEw22.size; have := hEw23.size; omega)
      have hT57 := Blk.chg1 (hT48.ext (hEw23.trans hEw24)) hCw25 (by have := hBb3.lt; have := (hs_4_5 _ hS4_5).1; have := hCw9.size; have := hEw10.size; have := hEb4.size; have := hCw12.size; have := hEw13.size; have := hEb5.size; have := hCw15.size; have := hEw16.size; have := hEw17.size; have := hEw18.size; have := hEw19.size; have := hEw20.size; have := hEw21.size; have := hEw22.size; have := hEw23.size; omega)
      have hT58 := own_chg1 (own_ext hT49 (hEw23.trans hEw24)) hCw25 (fun q hq e => by subst e; have := Sep.own_lt hO5 _ hq; have := (hs_4_5 _ hS4_5).1; have := hEb4.size; have := hCw12.size; have := hEw13.size; have := hEb5.size; have := hCw15.size; have := hEw16.size; have := hEw17.size; have := hEw18.size; have := hEw19.size; have := hEw20.size; have := hEw21.size; have := hEw22.size; have := hEw23.size; omega)
      have hT59 := Blk.chg1 (hT50.ext (hEw23.trans hEw24)) hCw25 (by have := hBb4.lt; have := (hs_4_5 _ hS4_5).1; have := hCw12.size; have := hEw13.size; have := hEb5.size; have := hCw15.size; have := hEw16.size; have := hEw17.size; have := hEw18.size; have := hEw19.size; have := hEw20.size; have := hEw21.size; have := hEw22.size; have := hEw23.size; omega)
      have hT60 := own_chg1 (own_ext hO_3 (hEw23.trans hEw24)) hCw25 (fun q hq e => by subst e; have := Sep.own_lt hO6 _ hq; have := (hs_4_5 _ hS4_5).1; have := hEb5.size; have := hCw15.size; have := hEw16.size; have := hEw17.size; have := hEw18.size; have := hEw19.size; have := hEw20.size; have := hEw21.size; have := hEw22.size; have := hEw23.size; omega)
      have hT61 := Blk.chg1 (hT51.ext (hEw23.trans hEw24)) hCw25 (by have := hBb5.lt; have := (hs_4_5 _ hS4_5).1; have := hCw15.size; have := hEw16.size; have := hEw17.size; have := hEw18.size; have := hEw19.size; have := hEw20.size; have := hEw21.size; have := hEw22.size; have := hEw23.size; omega)
      have hT62 := rd_chg1 hd4_4 hCw25 (fun q hq _ e => by subst e; exact absurd (hap4 5 4 _ hS4_5 hq) (by decide))
      have hX8 := Ext.chg1 ((hX7.trans hEw23).trans hEw24) hCw25 (by have := (hs_4_5 _ hS4_5).1; have := hEb1.size; have := hEb2.size; have := hEw3.size; have := hEw4.size; have := hEw5.size; have := hCw6.size; have := hEw7.size; have := hEb3.size; have := hCw9.size; have := hEw10.size; have := hEb4.size; have := hCw12.size; have := hEw13.size; have := hEb5.size; have := hCw15.size; have := hEw16.size; have := hEw17.size; have := hEw18.size; have := hEw19.size; have := hEw20.size; have := hEw21.size; have := hEw22.size; have := hEw23.size; omega)
      refine WL.nil ?_
      refine CW.fresh [(4, .bool false), (6, .pointer (some ⟨b1_5, 0, none⟩)), (9, .pointer (some ⟨b5, 0, none⟩)), (11, .int .i64 (1 + (MkT.cntT ((sLocalRelation_m g r).getD ⟨0, []⟩) : Nat))), (12, .int .i64 (r3)), (13, .pointer (some ⟨b4_5, 0, none⟩))] ⟨rfl, rfl, rfl, rfl, rfl, rfl, trivial⟩ fun σ => ?_
      refine CW.seq (CW.seq (CW.reg ?_))
      refine WL.ev rfl rfl (Ev.lda rfl ag35 sz35 rfl (At.blk hB_5) (Rep.len hT62)) (WL.ev rfl rfl (Ev.lda rfl ag35 sz35 rfl (At.blk hT55) (Rep.len hT54)) ?_)
      refine WL.call rfl rfl rfl rfl rfl ok13 rfl ((eqRelation_spec _ ((sLocalRelation_m g r).getD ⟨0, []⟩) ((sLocalRelation_m g r).getD ⟨0, []⟩) hT62 hT54).yes rfl) ?_
      rintro _ w26 hEw26 rfl
      refine WL.ev rfl rfl (Ev.not rfl rfl) (WL.nil ?_)
      refine CW.condF rfl ?_
      refine CW.skip ?_
      refine CW.fresh [(4, .bool false), (9, .pointer (some ⟨b5, 0, none⟩)), (11, .int .i64 (1 + (MkT.cntT ((sLocalRelation_m g r).getD ⟨0, []⟩) : Nat))), (12, .int .i64 (r3))] ⟨rfl, rfl, rfl, rfl, trivial⟩ fun σ => ?_
      refine CW.seq (CW.reg ?_)
      refine WL.ev rfl rfl (Ev.as rfl rfl) (WL.nil ?_)
      refine CW.fresh [(4, .bool false), (9, .pointer (some ⟨b5, 0, none⟩)), (11, .int .i64 (1 + (MkT.cntT ((sLocalRelation_m g r).getD ⟨0, []⟩) : Nat))), (12, .int .i64 (1))] ⟨rfl, rfl, rfl, rfl, trivial⟩ fun σ => ?_
      refine CW.seq (CW.reg ?_)
      refine WL.ev rfl rfl (Ev.lda rfl ag35 sz35 rfl (At.blk (hT61.ext hEw26)) (Rep.len (Sep.own_rd (own_ext hT60 hEw26)))) (WL.ev rfl rfl (Ev.mv rfl rfl) ?_)
      refine WL.call rfl rfl rfl rfl rfl ok19 rfl (heldRelation_spec _ (MkT.mrkT ((sLocalRelation_m g r).getD ⟨0, []⟩) 1) (Sep.own_rd (own_ext hT60 hEw26)) 1 (by omega) (by rw [MkT.cmT]; have := cnt_local g r (by omega) (by omega); omega)) ?_
      rintro _ w27 hEw27 ⟨r4, rfl, hr6⟩
      rw [MkT.lawT] at hr6
      have := hr6.is
      refine WL.ev rfl rfl (Ev.as rfl rfl) (WL.nil ?_)
      refine CW.fresh [(4, .bool false), (11, .int .i64 (1 + (MkT.cntT ((sLocalRelation_m g r).getD ⟨0, []⟩) : Nat))), (12, .int .i64 (r4))] ⟨rfl, rfl, rfl, trivial⟩ fun σ => ?_
      refine CW.seq (CW.seq (CW.reg ?_))
      refine WL.ev rfl rfl (Ev.mv rfl rfl) (WL.ev rfl rfl (Ev.bin rfl rfl rfl (Bin.no (by omega))) (WL.nil ?_))
      refine CW.condF rfl ?_
      refine CW.skip ?_
      refine CW.fresh [(4, .bool false), (11, .int .i64 (1 + (MkT.cntT ((sLocalRelation_m g r).getD ⟨0, []⟩) : Nat))), (12, .int .i64 (r4))] ⟨rfl, rfl, rfl, trivial⟩ fun σ => ?_
      refine CW.seq (CW.seq (CW.reg ?_))
      refine WL.ev rfl rfl (Ev.mv rfl rfl) (WL.ev rfl rfl (Ev.mv rfl rfl) (WL.ev rfl rfl (Ev.bin rfl rfl rfl (Bin.neqSame (by omega))) (WL.nil ?_)))
      refine CW.condF rfl ?_
      refine CW.skip ?_
      refine CW.fresh [(4, .bool false)] ⟨rfl, trivial⟩ fun σ => ?_
      refine CW.seq (CW.reg ?_)
      refine WL.ev rfl rfl (Ev.as rfl rfl) (WL.nil ?_)
      refine CW.ret ?_
      exact ⟨_, res1 rfl rfl rfl, ((hX8.trans hEw26).trans hEw27), rfl⟩

section
open Go.ChangeShapes Go.WideShapes Go.ChangeAt Go.RowKit
theorem own_knob : ownKnob Tryz.prog.godebug = none := by kernel_rfl
theorem laid_out : laidOutB Tryz.prog = true := by kernel_rfl
set_option maxRecDepth 100000 in
theorem fnExactLocalRelation_lifted (os : Os) (started : os.Started) (H : Type) (enc : TypeId × Value → H) :
    ReturnsInHanded {} Tryz.checked os 3 .any (Rows.fnExactLocalRelationSpec.pre6 enc Tryz.prog Tryz.f3 Rows.fnExactLocalRelationRow.domain false) (Rows.fnExactLocalRelationSpec.post enc Tryz.prog Tryz.f3 false true false false) := by
  refine returnsInHanded_of_change (C := Tryz.checked) own_knob started (by kernel_rfl) Tryz.func3
    (ChangeSpec.witness6 (enc := enc) (C := Tryz.checked) false ⟨#[], #[.agg #[.slice none 0 0, .slice none 0 0], .agg #[.string ⟨#[]⟩, .string ⟨#[]⟩, .slice none 0 0, .bool false, .slice none 0 0, .slice none 0 0]], []⟩ 8 (by kernel_rfl) (by kernel_rfl) (by kernel_rfl) (by kernel_rfl)) ?_
  intro W base args ds gs before hval0 hW hcnd _
  have hval : ∀ (j : Nat) t v, Tryz.f3.params[j]? = some t → args[j]? = some v → Value.okWide Tryz.prog W .any base t v := hval0
  have hW' := hW
  obtain ⟨p, q, hA0, hV, rfl, hfz, hnd⟩ := hW
  have hA : DataW.TrodAll enc Tryz.prog W 0 (fun _ => true) true Tryz.f3.params.toList args.toList ds p := hA0
  rw [Tryz.params3] at hA hval
  obtain ⟨v0, vs0, d0, ds0, p0, q0, hargs, rfl, rfl, t0, r0⟩ := trodAll_cons hA
  obtain ⟨v1, vs1, d1, ds1, p1, q1, rfl, rfl, rfl, t1, r1⟩ := trodAll_cons r0
  obtain ⟨rfl, rfl, rfl⟩ := trodAll_nil r1
  obtain rfl : args = #[v0, v1] := by cases args; simp_all
  obtain ⟨rfl, rfl⟩ := trodVars_none hV
  have k0 := t0
  have lt0 : ∀ x ∈ p0, x.block < W.heap.size := by obtain ⟨m, hm⟩ := k0; exact DataW.trod_lt m _ _ _ hm
  obtain ⟨m0, hm0⟩ := t0
  obtain ⟨a0, ha0⟩ := open25.2 _ _ _ _ _ _ _ _ _ hm0
  obtain ⟨⟨c0⟩, rfl, _⟩ := okWide_struct Tryz.underlying25 (hval 0 25 v0 rfl rfl)
  have k1 := t1
  have lt1 : ∀ x ∈ p1, x.block < W.heap.size := by obtain ⟨m, hm⟩ := k1; exact DataW.trod_lt m _ _ _ hm
  obtain ⟨m1, hm1⟩ := t1
  obtain ⟨a1, ha1⟩ := open30.2 _ _ _ _ _ _ _ _ _ hm1
  obtain ⟨⟨c1⟩, rfl, _⟩ := okWide_struct Tryz.underlying30 (hval 1 30 v1 rfl rfl)
  clear hA0 hval0
  refine Calls.mono (FnExactLocalRelation_law W a0 ha0 a1 ha1) fun e W' ⟨v, he, hch, hv⟩ => ?_
  subst he; subst hv
  have bel := Ext.below hch
  exact ⟨_, rfl, _, _, _, [], _, [], hW', trodAll_mk1 (shut_bool Tryz.underlying4 _), (trodAll_cons_mk (Below.trod laid_out (by kernel_rfl) (of_decide_eq_true (by kernel_rfl)) k0 bel lt0) (trodAll_cons_mk (Below.trod laid_out (by kernel_rfl) (of_decide_eq_true (by kernel_rfl)) k1 bel lt1) trodAll_mk0)), rfl, bel.frame _, fun h => by cases h⟩
theorem fnExactLocalRelation_holds : Rows.FnExactLocalRelationSaid :=
  OpenClaim.holds_of_wide 3 Tryz.f3 rfl rfl rfl rfl rfl rfl rfl ⟨rfl, rfl, rfl, rfl, rfl⟩ rfl rfl rfl rfl rfl (by kernel_rfl) Tryz.func3 (by kernel_rfl)
    (of_decide_eq_true (by kernel_rfl)) (by unfold Func.isWrapper; first | (rw [if_pos (by decide +kernel)]; kernel_rfl) | (rw [if_neg (by decide +kernel)]; exact ⟨rfl, rfl⟩))
    (fun os started H enc _ => fnExactLocalRelation_lifted os started H enc)
end
end Go.Proofs.YtonnooljidombaaGreat

