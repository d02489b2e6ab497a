/- The law FnExactPlainAttributes returns true for all arguments and leaves them as they were; there is no condition. -/
import Derived.Test.YtfnnadlahlkkoaaRows
import Derived.Test.YtfnnadlahlkkoaaMathM3
import Derived.Test.YtfnnadlahlkkoaaHelpb
set_option linter.unusedVariables false
set_option linter.unusedSimpArgs false
set_option linter.ambiguousOpen false
set_option linter.unusedSectionVars false
set_option linter.unnecessarySimpa false
set_option linter.unusedVariables false
set_option linter.unusedSimpArgs false
set_option maxRecDepth 100000
set_option maxHeartbeats 1000000
namespace Go.Proofs.Ytfnnadlahlkkoaa
open Go Go.E
open Go.E.Rep (rd)
open Go.E.Sep (own)
theorem ag41 : aggT Try.prog 41 = some true := by kernel_rfl
theorem sz41 : szT Try.prog 41 = some 2 := by kernel_rfl
theorem ok20 : callable Try.prog 20 = true := by kernel_rfl
theorem ok22 : callable Try.prog 22 = true := by kernel_rfl
theorem ok25 : callable Try.prog 25 = true := by kernel_rfl
theorem ok26 : callable Try.prog 26 = true := by kernel_rfl
theorem ok28 : callable Try.prog 28 = true := by kernel_rfl
theorem sPlainAttributes_spec (w : World) {S1 : Nat → Prop} (g : Grammar) {cg : List Value} (hg : rd S1 w g cg) (bg : Sz.szd g ≤ 1048576) (s : ByteArray) (hs : s.size ≤ 9223372036854775807) :
    Ret Try.prog 21 #[.agg cg.toArray, .string s] w (fun _ => False) fun v w' => NewS w w' ((sPlainAttributes_m g s).getD []) v := by
  obtain ⟨x, h1, h2, _⟩ := plain_both (syms_le bg) s
  have hx : (sPlainAttributes_m g s).getD [] = x := by rw [h1]; rfl
  rw [hx]
  exact (sPlainAttributes_ok h1 (F0 := fun _ => True) (Rep.mono hg fun _ _ => trivial) hs).mono fun v w' _ ⟨A, n, c, hv, H⟩ => by subst hv; exact NewS.of H

theorem iPlainAttributes_spec (w : World) {S1 : Nat → Prop} (g : Grammar) {cg : List Value} (hg : rd S1 w g cg) (bg : Sz.szd g ≤ 1048576) (s : ByteArray) (hs : s.size ≤ 9223372036854775807) :
    Ret Try.prog 23 #[.agg cg.toArray, .string s] w (fun _ => False) fun v w' => NewS w w' ((sPlainAttributes_m g s).getD []) v := by
  obtain ⟨x, h1, h2, _⟩ := plain_both (syms_le bg) s
  have hx : (sPlainAttributes_m g s).getD [] = x := by rw [h1]; rfl
  rw [hx]
  exact (iPlainAttributes_ok h2 (F0 := fun _ => True) (Rep.mono hg fun _ _ => trivial) hs).mono fun v w' _ ⟨A, n, c, hv, H⟩ => by subst hv; exact NewS.of H

theorem FnExactPlainAttributes_law (w : World) {Sg : Nat → Prop} (g : Grammar) {cg : List Value} (hg : rd Sg w g cg) (s : ByteArray) (hs : s.size ≤ 9223372036854775807) :
    Ret Try.prog 5 #[.agg cg.toArray, .string s] w (fun _ => False) fun v _ => v = .bool true := by
  refine enter Try.func5 rfl rfl rfl ?_
  have hK1 := hg
  obtain ⟨v1, v2, rfl, hs1, hs2⟩ := hg
  obtain ⟨A1, c1, rfl, hc1, hm1⟩ := hs1.form
  obtain ⟨A2, c2, rfl, hc2, hm2⟩ := hs2.form
  have qg := Grammar_szd g
  refine CW.seq (CW.reg ?_)
  refine WL.box rfl rfl rfl rfl rfl fun b1 w1 hEb1 hbb1 hBb1 => ?_
  refine WL.ev rfl rfl (Ev.as rfl rfl) (WL.nil ?_)
  refine CW.seq (CW.seq (CW.reg ?_))
  refine WL.ev rfl rfl (Ev.mv rfl rfl) (WL.ev rfl rfl (Ev.lenB rfl Try.underlying9 rfl) (WL.ev rfl rfl (Ev.bin rfl rfl rfl Bin.gtr) (WL.nil ?_)))
  refine CW.condD rfl (fun h1 => ?_) (fun h1 => ?_)
  · skip
    refine CW.seq (CW.reg ?_)
    refine WL.ev rfl rfl (Ev.as rfl rfl) (WL.nil ?_)
    refine CW.ret ?_
    exact ⟨_, res1 rfl rfl rfl, hEb1, rfl⟩
  · skip
    refine CW.skip ?_
    refine CW.fresh [(1, .string (s)), (2, .pointer (some ⟨b1, 0, none⟩)), (4, .bool false)] ⟨rfl, rfl, rfl, trivial⟩ fun σ => ?_
    refine CW.seq (CW.reg ?_)
    refine WL.ev rfl rfl (Ev.as rfl rfl) (WL.nil ?_)
    refine CW.fresh [(1, .string (s)), (2, .pointer (some ⟨b1, 0, none⟩)), (4, .bool false), (5, .int .i64 (1048576))] ⟨rfl, rfl, rfl, rfl, trivial⟩ fun σ => ?_
    refine CW.seq (CW.reg ?_)
    refine WL.ev rfl rfl (Ev.lda rfl ag41 sz41 rfl (At.blk hBb1) rfl) (WL.ev rfl rfl (Ev.mv rfl rfl) ?_)
    refine WL.call rfl rfl rfl rfl rfl ok20 rfl (szGrammar_spec _ g (rd_ext hK1 hEb1) _ (by omega) (by omega)) ?_
    rintro _ w2 hEw2 ⟨r1, rfl, hr1⟩
    have hq1 := Grammar_szd g
    refine WL.ev rfl rfl (Ev.as rfl rfl) (WL.nil ?_)
    refine CW.fresh [(1, .string (s)), (2, .pointer (some ⟨b1, 0, none⟩)), (4, .bool false), (5, .int .i64 (r1))] ⟨rfl, rfl, rfl, rfl, trivial⟩ fun σ => ?_
    refine CW.seq (CW.seq (CW.reg ?_))
    refine WL.ev rfl rfl (Ev.mv rfl rfl) (WL.ev rfl rfl (Ev.bin rfl rfl rfl Bin.lss) (WL.nil ?_))
    refine CW.condD rfl (fun h2 => ?_) (fun h2 => ?_)
    · skip
      refine CW.fresh [(1, .string (s)), (2, .pointer (some ⟨b1, 0, none⟩)), (4, .bool false)] ⟨rfl, rfl, rfl, trivial⟩ fun σ => ?_
      refine CW.seq (CW.reg ?_)
      refine WL.ev rfl rfl (Ev.as rfl rfl) (WL.nil ?_)
      refine CW.ret ?_
      exact ⟨_, res1 rfl rfl rfl, (hEb1.trans hEw2), rfl⟩
    · skip
      refine CW.skip ?_
      refine CW.fresh [(1, .string (s)), (2, .pointer (some ⟨b1, 0, none⟩)), (4, .bool false)] ⟨rfl, rfl, rfl, trivial⟩ fun σ => ?_
      refine CW.seq (CW.reg ?_)
      refine WL.ev rfl rfl (Ev.lda rfl ag41 sz41 rfl (At.blk (hBb1.ext hEw2)) rfl) ?_
      refine WL.call rfl rfl rfl rfl rfl ok22 rfl (toGrammar_spec _ g (rd_ext hK1 (hEb1.trans hEw2)) (by omega)) ?_
      rintro _ w3 hEw3 ⟨cs1, rfl, L1, hO1, hN1, hF1⟩
      refine WL.ev rfl rfl (Ev.mv rfl rfl) ?_
      refine WL.call rfl rfl rfl rfl rfl ok21 rfl (sPlainAttributes_spec _ g (Sep.own_rd hO1) (by omega) s (by omega)) ?_
      rintro v3 w4 hEw4 ⟨L2, hO2, hN2, hF2⟩
      obtain ⟨A3, c3, rfl, hc3, hm3⟩ := hO2.form
      refine WL.ev rfl rfl (Ev.as rfl rfl) (WL.nil ?_)
      refine CW.fresh [(1, .string (s)), (2, .pointer (some ⟨b1, 0, none⟩)), (4, .bool false), (6, .slice A3 ((sPlainAttributes_m g s).getD []).length c3)] ⟨rfl, rfl, rfl, rfl, trivial⟩ fun σ => ?_
      refine CW.seq (CW.reg ?_)
      refine WL.ev rfl rfl (Ev.lda rfl ag41 sz41 rfl (At.blk (hBb1.ext ((hEw2.trans hEw3).trans hEw4))) rfl) ?_
      refine WL.call rfl rfl rfl rfl rfl ok22 rfl (toGrammar_spec _ g (rd_ext hK1 (((hEb1.trans hEw2).trans hEw3).trans hEw4)) (by omega)) ?_
      rintro _ w5 hEw5 ⟨cs2, rfl, L3, hO3, hN3, hF3⟩
      refine WL.alloc rfl rfl rfl ze48 fun b2 w6 hEb2 hbb2 hBb2 => ?_
      refine WL.stW rfl rfl rfl sz48 rfl rfl rfl (Rep.len (Sep.own_rd (own_ext hO3 hEb2))) (Rep.one (Sep.own_rd (own_ext hO3 hEb2))) hBb2 rfl fun w7 hCw7 hB_1 => ?_
      have hT1 := Blk.chg1 (hBb1.ext ((((hEw2.trans hEw3).trans hEw4).trans hEw5).trans hEb2)) hCw7 (by have := hBb1.lt; have := hbb2; have := hEw2.size; have := hEw3.size; have := hEw4.size; have := hEw5.size; omega)
      have hT2 := own_chg1 (own_ext hO1 ((hEw4.trans hEw5).trans hEb2)) hCw7 (fun q hq e => by subst e; have := Sep.own_lt hO1 _ hq; have := hbb2; have := hEw4.size; have := hEw5.size; omega)
      have hT3 := ownS.chg1 (hO2.ext (hEw5.trans hEb2)) hCw7 (fun q hq e => by subst e; have := hO2.lt _ hq; have := hbb2; have := hEw5.size; omega)
      have hT4 := own_chg1 (own_ext hO3 hEb2) hCw7 (fun q hq e => by subst e; have := Sep.own_lt hO3 _ hq; have := hbb2; omega)
      have hX1 := Ext.chg1 (((((hEb1.trans hEw2).trans hEw3).trans hEw4).trans hEw5).trans hEb2) hCw7 (by have := hbb2; have := hEb1.size; have := hEw2.size; have := hEw3.size; have := hEw4.size; have := hEw5.size; omega)
      refine WL.nil ?_
      refine CW.fresh [(1, .string (s)), (2, .pointer (some ⟨b1, 0, none⟩)), (4, .bool false), (6, .slice A3 ((sPlainAttributes_m g s).getD []).length c3), (7, .pointer (some ⟨b2, 0, none⟩))] ⟨rfl, rfl, rfl, rfl, rfl, trivial⟩ fun σ => ?_
      refine CW.seq (CW.reg ?_)
      refine WL.ev rfl rfl (Ev.lda rfl ag48 sz48 rfl (At.blk hB_1) (Rep.len (Sep.own_rd hT4))) (WL.ev rfl rfl (Ev.mv rfl rfl) ?_)
      refine WL.call rfl rfl rfl rfl rfl ok23 rfl (iPlainAttributes_spec _ g (Sep.own_rd hT4) (by omega) s (by omega)) ?_
      rintro v4 w8 hEw8 ⟨L4, hO4, hN4, hF4⟩
      obtain ⟨A4, c4, rfl, hc4, hm4⟩ := hO4.form
      refine WL.ev rfl rfl (Ev.as rfl rfl) (WL.nil ?_)
      refine CW.fresh [(1, .string (s)), (2, .pointer (some ⟨b1, 0, none⟩)), (4, .bool false), (6, .slice A3 ((sPlainAttributes_m g s).getD []).length c3), (7, .pointer (some ⟨b2, 0, none⟩)), (8, .slice A4 ((sPlainAttributes_m g s).getD []).length c4)] ⟨rfl, rfl, rfl, rfl, rfl, rfl, trivial⟩ fun σ => ?_
      refine CW.seq (CW.seq (CW.reg ?_))
      refine WL.ev rfl rfl (Ev.mv rfl rfl) (WL.ev rfl rfl (Ev.mv rfl rfl) ?_)
      refine WL.call rfl rfl rfl rfl rfl ok24 rfl ((eqAttributeS_spec _ ((sPlainAttributes_m g s).getD []) ((sPlainAttributes_m g s).getD []) hO4.rd (hT3.ext hEw8).rd).yes rfl) ?_
      rintro _ w9 hEw9 rfl
      refine WL.ev rfl rfl (Ev.not rfl rfl) (WL.nil ?_)
      refine CW.condF rfl ?_
      refine CW.skip ?_
      refine CW.fresh [(1, .string (s)), (2, .pointer (some ⟨b1, 0, none⟩)), (4, .bool false), (6, .slice A3 ((sPlainAttributes_m g s).getD []).length c3), (7, .pointer (some ⟨b2, 0, none⟩)), (8, .slice A4 ((sPlainAttributes_m g s).getD []).length c4)] ⟨rfl, rfl, rfl, rfl, rfl, rfl, trivial⟩ fun σ => ?_
      refine CW.seq (CW.seq (CW.anyE 5 (fun ρ => [.inl (.agg cs2.toArray), .inl (.agg #[.slice A1 g.Symbols.length c1, .slice A2 g.Rules.length c2]), .inr (fun S v w => ∃ cs : List Value, v = .agg cs.toArray ∧ rd S w (g) cs), .inl (.bool true), .inl (.bool (!true))]) hmix (by kernel_rfl) ⟨trivial, trivial, fun _ _ _ _ ⟨cs, e, h⟩ hE => ⟨cs, e, rd_ext h hE⟩, trivial, trivial, trivial⟩ ?_))
      refine LL.fx rfl rfl rfl (fun _ hq hK => Ev.lda rfl ag48 sz48 rfl (At.blk (hB_1.ext ((hEw8.trans hEw9).trans hq))) (Rep.len (Sep.own_rd (own_ext hT4 ((hEw8.trans hEw9).trans hq))))) ?_
      refine LL.fx rfl rfl rfl (fun _ hq hK => Ev.lda rfl ag41 sz41 rfl (At.blk (hT1.ext ((hEw8.trans hEw9).trans hq))) rfl) ?_
      refine LL.free rfl rfl (fun wq hq hK => ?_) (fun v_1_2 S_1_2 => ?_)
      · skip
        refine OpX.call rfl rfl rfl rfl ok22 rfl (toGrammar_spec _ g (rd_ext hK1 (((hX1.trans hEw8).trans hEw9).trans hq)) (by omega)) ?_
        rintro v w' hE ⟨cs, rfl, h⟩
        exact ⟨hE, cs, rfl, New.rd h⟩
      refine LL.fixed rfl rfl (fun wq hq hK => ?_) ?_
      · skip
        obtain ⟨cs2, e2, hd2⟩ : ∃ cs : List Value, v_1_2 = .agg cs.toArray ∧ rd S_1_2 wq (g) cs := hK 2 rfl
        subst e2
        refine OpX.call rfl rfl rfl rfl ok25 rfl ((eqGrammar_spec _ g g (Sep.own_rd (own_ext hT4 ((hEw8.trans hEw9).trans hq))) hd2).yes rfl) ?_
        rintro v w' hE rfl
        exact ⟨hE, rfl⟩
      refine LL.fx rfl rfl rfl (fun _ hq hK => Ev.not rfl rfl) ?_
      intro w10 hEw10 hKr1 hap1 hbd1
      have hs_1_2 : ∀ q, S_1_2 q → w9.heap.size ≤ q ∧ q < w10.heap.size := fun q hq => hbd1 2 q hq
      refine WL.nil ?_
      refine CW.condF rfl ?_
      refine CW.skip ?_
      refine CW.fresh [(1, .string (s)), (2, .pointer (some ⟨b1, 0, none⟩)), (4, .bool false), (6, .slice A3 ((sPlainAttributes_m g s).getD []).length c3), (7, .pointer (some ⟨b2, 0, none⟩)), (8, .slice A4 ((sPlainAttributes_m g s).getD []).length c4)] ⟨rfl, rfl, rfl, rfl, rfl, rfl, trivial⟩ fun σ => ?_
      refine CW.seq (CW.reg ?_)
      refine WL.ev rfl rfl (Ev.as rfl rfl) (WL.nil ?_)
      refine CW.fresh [(1, .string (s)), (2, .pointer (some ⟨b1, 0, none⟩)), (4, .bool false), (6, .slice A3 ((sPlainAttributes_m g s).getD []).length c3), (7, .pointer (some ⟨b2, 0, none⟩)), (8, .slice A4 ((sPlainAttributes_m g s).getD []).length c4), (9, .int .i64 (1))] ⟨rfl, rfl, rfl, rfl, rfl, rfl, rfl, trivial⟩ fun σ => ?_
      refine CW.seq (CW.reg ?_)
      refine WL.ev rfl rfl (Ev.lda rfl ag48 sz48 rfl (At.blk (hB_1.ext ((hEw8.trans hEw9).trans hEw10))) (Rep.len (Sep.own_rd (own_ext hT4 ((hEw8.trans hEw9).trans hEw10))))) (WL.ev rfl rfl (Ev.mv rfl rfl) ?_)
      refine WL.call rfl rfl rfl rfl rfl ok26 rfl (markGrammar_spec _ L3 g (own_ext hT4 ((hEw8.trans hEw9).trans hEw10)) hN3 1 (by omega) (by have := cnt_anyT g (by omega); omega)) ?_
      rintro _ w11 hEw11 ⟨rfl, hO_1⟩
      have hT5 := Blk.chgL (hT1.ext ((hEw8.trans hEw9).trans hEw10)) hEw11 (fun hq => by have := hBb1.lt; have := hF3 _ hq; have := hEw2.size; have := hEw3.size; have := hEw4.size; omega)
      have hT6 := own_chgL (own_ext hT2 ((hEw8.trans hEw9).trans hEw10)) hEw11 (fun q hq h2 => by have := Sep.own_lt hO1 _ hq; have := hF3 _ h2; have := hEw4.size; omega)
      have hT7 := ownS.chgL (hT3.ext ((hEw8.trans hEw9).trans hEw10)) hEw11 (fun q hq h2 => by have := hO2.lt _ hq; have := hF3 _ h2; omega)
      have hT8 := Blk.chgL (hB_1.ext ((hEw8.trans hEw9).trans hEw10)) hEw11 (fun hq => by have := Sep.own_lt hO3 _ hq; have := hbb2; omega)
      have hT9 := ownS.chgL (hO4.ext (hEw9.trans hEw10)) hEw11 (fun q hq h2 => by have := Sep.own_lt hO3 _ h2; have := hF4 _ hq; have := hEb2.size; have := hCw7.size; omega)
      have hX2 := Ext.chgL (((hX1.trans hEw8).trans hEw9).trans hEw10) hEw11 (fun q hq => by have := hF3 _ hq; have := hEb1.size; have := hEw2.size; have := hEw3.size; have := hEw4.size; omega)
      have := cnt_anyT g (by omega)
      refine WL.ev rfl rfl (Ev.as rfl rfl) (WL.nil ?_)
      refine CW.fresh [(1, .string (s)), (2, .pointer (some ⟨b1, 0, none⟩)), (4, .bool false), (6, .slice A3 ((sPlainAttributes_m g s).getD []).length c3), (8, .slice A4 ((sPlainAttributes_m g s).getD []).length c4), (9, .int .i64 (1 + (MkT.cntT g : Nat)))] ⟨rfl, rfl, rfl, rfl, rfl, rfl, trivial⟩ fun σ => ?_
      refine CW.seq (CW.seq (CW.reg ?_))
      refine WL.ev rfl rfl (Ev.mv rfl rfl) (WL.ev rfl rfl (Ev.bin rfl rfl rfl (Bin.no (by omega))) (WL.ev rfl rfl (Ev.mv rfl rfl) (WL.on rfl rfl (WL.ev rfl rfl (Ev.mv rfl rfl) (WL.on rfl rfl (WL.ev rfl rfl (Ev.mv rfl rfl) (WL.on rfl rfl ?_)))))))
      refine WL.call rfl rfl rfl rfl rfl ok24 rfl ((eqAttributeS_spec _ ((sPlainAttributes_m g s).getD []) ((sPlainAttributes_m g s).getD []) hT9.rd hT7.rd).yes rfl) ?_
      rintro _ w12 hEw12 rfl
      refine WL.on rfl rfl (WL.ev rfl rfl (Ev.not rfl rfl) (WL.ev rfl rfl (Ev.pickF rfl rfl rfl) (WL.nil ?_)))
      refine CW.condF rfl ?_
      refine CW.skip ?_
      refine CW.fresh [(1, .string (s)), (2, .pointer (some ⟨b1, 0, none⟩)), (4, .bool false), (6, .slice A3 ((sPlainAttributes_m g s).getD []).length c3), (8, .slice A4 ((sPlainAttributes_m g s).getD []).length c4)] ⟨rfl, rfl, rfl, rfl, rfl, trivial⟩ fun σ => ?_
      refine CW.seq (CW.reg ?_)
      refine WL.ev rfl rfl (Ev.as rfl rfl) (WL.nil ?_)
      refine CW.fresh [(1, .string (s)), (2, .pointer (some ⟨b1, 0, none⟩)), (4, .bool false), (6, .slice A3 ((sPlainAttributes_m g s).getD []).length c3), (8, .slice A4 ((sPlainAttributes_m g s).getD []).length c4), (10, .int .i64 (1))] ⟨rfl, rfl, rfl, rfl, rfl, rfl, trivial⟩ fun σ => ?_
      refine CW.seq (CW.reg ?_)
      refine WL.ev rfl rfl (Ev.mv rfl rfl) (WL.ev rfl rfl (Ev.mv rfl rfl) ?_)
      refine WL.call rfl rfl rfl rfl rfl ok27 rfl (markAttributeS_spec _ L4 ((sPlainAttributes_m g s).getD []) (hT9.ext hEw12) hN4 1 (by omega) (by have := cnt_plain g s (by omega); omega)) ?_
      rintro _ w13 hEw13 ⟨rfl, hO_2⟩
      have hT10 := Blk.chgL (hT5.ext hEw12) hEw13 (fun hq => by have := hBb1.lt; have := hF4 _ hq; have := hEw2.size; have := hEw3.size; have := hEw4.size; have := hEw5.size; have := hEb2.size; have := hCw7.size; omega)
      have hT11 := own_chgL (own_ext hT6 hEw12) hEw13 (fun q hq h2 => by have := Sep.own_lt hO1 _ hq; have := hF4 _ h2; have := hEw4.size; have := hEw5.size; have := hEb2.size; have := hCw7.size; omega)
      have hT12 := ownS.chgL (hT7.ext hEw12) hEw13 (fun q hq h2 => by have := hO2.lt _ hq; have := hF4 _ h2; have := hEw5.size; have := hEb2.size; have := hCw7.size; omega)
      have hT13 := own_chgL (own_ext hO_1 hEw12) hEw13 (fun q hq h2 => by have := Sep.own_lt hO3 _ hq; have := hF4 _ h2; have := hEb2.size; have := hCw7.size; omega)
      have hT14 := Blk.chgL (hT8.ext hEw12) hEw13 (fun hq => by have := hBb2.lt; have := hF4 _ hq; have := hCw7.size; omega)
      have hX3 := Ext.chgL (hX2.trans hEw12) hEw13 (fun q hq => by have := hF4 _ hq; have := hEb1.size; have := hEw2.size; have := hEw3.size; have := hEw4.size; have := hEw5.size; have := hEb2.size; have := hCw7.size; omega)
      have := cnt_plain g s (by omega)
      refine WL.ev rfl rfl (Ev.as rfl rfl) (WL.nil ?_)
      refine CW.fresh [(1, .string (s)), (2, .pointer (some ⟨b1, 0, none⟩)), (4, .bool false), (6, .slice A3 ((sPlainAttributes_m g s).getD []).length c3), (8, .slice A4 ((sPlainAttributes_m g s).getD []).length c4), (10, .int .i64 (1 + (cntL ((sPlainAttributes_m g s).getD []) : Nat)))] ⟨rfl, rfl, rfl, rfl, rfl, rfl, trivial⟩ fun σ => ?_
      refine CW.seq (CW.reg ?_)
      refine WL.ev rfl rfl (Ev.as rfl rfl) (WL.nil ?_)
      refine CW.fresh [(1, .string (s)), (2, .pointer (some ⟨b1, 0, none⟩)), (4, .bool false), (6, .slice A3 ((sPlainAttributes_m g s).getD []).length c3), (8, .slice A4 ((sPlainAttributes_m g s).getD []).length c4), (10, .int .i64 (1 + (cntL ((sPlainAttributes_m g s).getD []) : Nat))), (11, .int .i64 (1))] ⟨rfl, rfl, rfl, rfl, rfl, rfl, rfl, trivial⟩ fun σ => ?_
      refine CW.seq (CW.reg ?_)
      refine WL.ev rfl rfl (Ev.mv rfl rfl) (WL.ev rfl rfl (Ev.mv rfl rfl) ?_)
      refine WL.call rfl rfl rfl rfl rfl ok28 rfl (heldAttributeS_spec _ (mkL ((sPlainAttributes_m g s).getD []) 1) hO_2.rd 1 (by omega) (by rw [cntL_mkL]; have := cnt_plain g s (by omega); omega)) ?_
      rintro _ w14 hEw14 ⟨r2, rfl, hr2⟩
      rw [hdL_mkL] at hr2
      have := hr2.is
      refine WL.ev rfl rfl (Ev.as rfl rfl) (WL.nil ?_)
      refine CW.fresh [(1, .string (s)), (2, .pointer (some ⟨b1, 0, none⟩)), (4, .bool false), (6, .slice A3 ((sPlainAttributes_m g s).getD []).length c3), (8, .slice A4 ((sPlainAttributes_m g s).getD []).length c4), (10, .int .i64 (1 + (cntL ((sPlainAttributes_m g s).getD []) : Nat))), (11, .int .i64 (r2))] ⟨rfl, rfl, rfl, rfl, rfl, rfl, rfl, trivial⟩ fun σ => ?_
      refine CW.seq (CW.seq (CW.reg ?_))
      refine WL.ev rfl rfl (Ev.mv rfl rfl) (WL.ev rfl rfl (Ev.bin rfl rfl rfl (Bin.no (by omega))) (WL.nil ?_))
      refine CW.condF rfl ?_
      refine CW.skip ?_
      refine CW.fresh [(1, .string (s)), (2, .pointer (some ⟨b1, 0, none⟩)), (4, .bool false), (6, .slice A3 ((sPlainAttributes_m g s).getD []).length c3), (8, .slice A4 ((sPlainAttributes_m g s).getD []).length c4), (10, .int .i64 (1 + (cntL ((sPlainAttributes_m g s).getD []) : Nat))), (11, .int .i64 (r2))] ⟨rfl, rfl, rfl, rfl, rfl, rfl, rfl, trivial⟩ fun σ => ?_
      refine CW.seq (CW.seq (CW.reg ?_))
      refine WL.ev rfl rfl (Ev.mv rfl rfl) (WL.ev rfl rfl (Ev.mv rfl rfl) (WL.ev rfl rfl (Ev.bin rfl rfl rfl (Bin.neqSame (by omega))) (WL.nil ?_)))
      refine CW.condF rfl ?_
      refine CW.skip ?_
      refine CW.fresh [(1, .string (s)), (2, .pointer (some ⟨b1, 0, none⟩)), (4, .bool false), (6, .slice A3 ((sPlainAttributes_m g s).getD []).length c3), (8, .slice A4 ((sPlainAttributes_m g s).getD []).length c4), (10, .int .i64 (1 + (cntL ((sPlainAttributes_m g s).getD []) : Nat))), (11, .int .i64 (r2))] ⟨rfl, rfl, rfl, rfl, rfl, rfl, rfl, trivial⟩ fun σ => ?_
      refine CW.seq (CW.reg ?_)
      refine WL.ev rfl rfl (Ev.lda rfl ag41 sz41 rfl (At.blk (hT10.ext hEw14)) rfl) ?_
      refine WL.call rfl rfl rfl rfl rfl ok22 rfl (toGrammar_spec _ g (rd_ext hK1 (hX3.trans hEw14)) (by omega)) ?_
      rintro _ w15 hEw15 ⟨cs4, rfl, L6, hO6, hN6, hF6⟩
      refine WL.ev rfl rfl (Ev.mv rfl rfl) ?_
      refine WL.call rfl rfl rfl rfl rfl ok23 rfl (iPlainAttributes_spec _ g (Sep.own_rd hO6) (by omega) s (by omega)) ?_
      rintro v5 w16 hEw16 ⟨L7, hO7, hN7, hF7⟩
      obtain ⟨A5, c5, rfl, hc5, hm5⟩ := hO7.form
      refine WL.ev rfl rfl (Ev.as rfl rfl) (WL.nil ?_)
      refine CW.fresh [(4, .bool false), (6, .slice A3 ((sPlainAttributes_m g s).getD []).length c3), (8, .slice A4 ((sPlainAttributes_m g s).getD []).length c4), (10, .int .i64 (1 + (cntL ((sPlainAttributes_m g s).getD []) : Nat))), (11, .int .i64 (r2)), (12, .slice A5 ((sPlainAttributes_m g s).getD []).length c5)] ⟨rfl, rfl, rfl, rfl, rfl, rfl, trivial⟩ fun σ => ?_
      refine CW.seq (CW.seq (CW.reg ?_))
      refine WL.ev rfl rfl (Ev.mv rfl rfl) (WL.ev rfl rfl (Ev.mv rfl rfl) ?_)
      refine WL.call rfl rfl rfl rfl rfl ok24 rfl ((eqAttributeS_spec _ ((sPlainAttributes_m g s).getD []) ((sPlainAttributes_m g s).getD []) hO7.rd (hT12.ext ((hEw14.trans hEw15).trans hEw16)).rd).yes rfl) ?_
      rintro _ w17 hEw17 rfl
      refine WL.ev rfl rfl (Ev.not rfl rfl) (WL.nil ?_)
      refine CW.condF rfl ?_
      refine CW.skip ?_
      refine CW.fresh [(4, .bool false), (8, .slice A4 ((sPlainAttributes_m g s).getD []).length c4), (10, .int .i64 (1 + (cntL ((sPlainAttributes_m g s).getD []) : Nat))), (11, .int .i64 (r2))] ⟨rfl, rfl, rfl, rfl, trivial⟩ fun σ => ?_
      refine CW.seq (CW.reg ?_)
      refine WL.ev rfl rfl (Ev.as rfl rfl) (WL.nil ?_)
      refine CW.fresh [(4, .bool false), (8, .slice A4 ((sPlainAttributes_m g s).getD []).length c4), (10, .int .i64 (1 + (cntL ((sPlainAttributes_m g s).getD []) : Nat))), (11, .int .i64 (1))] ⟨rfl, rfl, rfl, rfl, trivial⟩ fun σ => ?_
      refine CW.seq (CW.reg ?_)
      refine WL.ev rfl rfl (Ev.mv rfl rfl) (WL.ev rfl rfl (Ev.mv rfl rfl) ?_)
      refine WL.call rfl rfl rfl rfl rfl ok28 rfl (heldAttributeS_spec _ (mkL ((sPlainAttributes_m g s).getD []) 1) (hO_2.ext (((hEw14.trans hEw15).trans hEw16).trans hEw17)).rd 1 (by omega) (by rw [cntL_mkL]; have := cnt_plain g s (by omega); omega)) ?_
      rintro _ w18 hEw18 ⟨r3, rfl, hr3⟩
      rw [hdL_mkL] at hr3
      have := hr3.is
      refine WL.ev rfl rfl (Ev.as rfl rfl) (WL.nil ?_)
      refine CW.fresh [(4, .bool false), (10, .int .i64 (1 + (cntL ((sPlainAttributes_m g s).getD []) : Nat))), (11, .int .i64 (r3))] ⟨rfl, rfl, rfl, trivial⟩ fun σ => ?_
      refine CW.seq (CW.seq (CW.reg ?_))
      refine WL.ev rfl rfl (Ev.mv rfl rfl) (WL.ev rfl rfl (Ev.bin rfl rfl rfl (Bin.no (by omega))) (WL.nil ?_))
      refine CW.condF rfl ?_
      refine CW.skip ?_
      refine CW.fresh [(4, .bool false), (10, .int .i64 (1 + (cntL ((sPlainAttributes_m g s).getD []) : Nat))), (11, .int .i64 (r3))] ⟨rfl, rfl, rfl, trivial⟩ fun σ => ?_
      refine CW.seq (CW.seq (CW.reg ?_))
      refine WL.ev rfl rfl (Ev.mv rfl rfl) (WL.ev rfl rfl (Ev.mv rfl rfl) (WL.ev rfl rfl (Ev.bin rfl rfl rfl (Bin.neqSame (by omega))) (WL.nil ?_)))
      refine CW.condF rfl ?_
      refine CW.skip ?_
      refine CW.fresh [(4, .bool false)] ⟨rfl, trivial⟩ fun σ => ?_
      refine CW.seq (CW.reg ?_)
      refine WL.ev rfl rfl (Ev.as rfl rfl) (WL.nil ?_)
      refine CW.ret ?_
      exact ⟨_, res1 rfl rfl rfl, (((((hX3.trans hEw14).trans hEw15).trans hEw16).trans hEw17).trans hEw18), rfl⟩

section
open Go.ChangeShapes Go.WideShapes Go.ChangeAt Go.RowKit
theorem own_knob : ownKnob Try.prog.godebug = none := by kernel_rfl
theorem laid_out : laidOutB Try.prog = true := by kernel_rfl
set_option maxRecDepth 100000 in
theorem fnExactPlainAttributes_lifted (os : Os) (started : os.Started) (H : Type) (enc : TypeId × Value → H) :
    ReturnsInHanded {} Try.checked os 5 .any (Rows.fnExactPlainAttributesSpec.pre6 enc Try.prog Try.f5 Rows.fnExactPlainAttributesRow.domain false) (Rows.fnExactPlainAttributesSpec.post enc Try.prog Try.f5 false true false false) := by
  refine returnsInHanded_of_change (C := Try.checked) own_knob started (by kernel_rfl) Try.func5
    (ChangeSpec.witness6 (enc := enc) (C := Try.checked) false ⟨#[], #[.agg #[.slice none 0 0, .slice none 0 0], .string ⟨#[]⟩], []⟩ 8 (by kernel_rfl) (by kernel_rfl) (by kernel_rfl) (by kernel_rfl)) ?_
  intro W base args ds gs before hval0 hW hcnd _
  have hval : ∀ (j : Nat) t v, Try.f5.params[j]? = some t → args[j]? = some v → Value.okWide Try.prog W .any base t v := hval0
  have hW' := hW
  obtain ⟨p, q, hA0, hV, rfl, hfz, hnd⟩ := hW
  have hA : DataW.TrodAll enc Try.prog W 0 (fun _ => true) true Try.f5.params.toList args.toList ds p := hA0
  rw [Try.params5] at hA hval
  obtain ⟨v0, vs0, d0, ds0, p0, q0, hargs, rfl, rfl, t0, r0⟩ := trodAll_cons hA
  obtain ⟨v1, vs1, d1, ds1, p1, q1, rfl, rfl, rfl, t1, r1⟩ := trodAll_cons r0
  obtain ⟨rfl, rfl, rfl⟩ := trodAll_nil r1
  obtain rfl : args = #[v0, v1] := by cases args; simp_all
  obtain ⟨rfl, rfl⟩ := trodVars_none hV
  have k0 := t0
  have lt0 : ∀ x ∈ p0, x.block < W.heap.size := by obtain ⟨m, hm⟩ := k0; exact DataW.trod_lt m _ _ _ hm
  obtain ⟨m0, hm0⟩ := t0
  obtain ⟨a0, ha0⟩ := open41.2 _ _ _ _ _ _ _ _ _ hm0
  obtain ⟨⟨c0⟩, rfl, _⟩ := okWide_struct Try.underlying41 (hval 0 41 v0 rfl rfl)
  have k1 := t1
  have lt1 : ∀ x ∈ p1, x.block < W.heap.size := by obtain ⟨m, hm⟩ := k1; exact DataW.trod_lt m _ _ _ hm
  obtain ⟨m1, hm1⟩ := t1
  obtain ⟨a1, ha1⟩ := open9.2 _ _ _ _ _ _ _ _ _ hm1
  obtain ⟨y1, rfl⟩ := okWide_string Try.underlying9 (hval 1 9 v1 rfl rfl)
  obtain ⟨e1, ha1⟩ := ha1
  obtain rfl : y1 = a1 := by injection e1 with e; injection e
  clear hA0 hval0
  refine Calls.mono (FnExactPlainAttributes_law W a0 ha0 _ ha1) fun e W' ⟨v, he, hch, hv⟩ => ?_
  subst he; subst hv
  have bel := Ext.below hch
  exact ⟨_, rfl, _, _, _, [], _, [], hW', trodAll_mk1 (shut_bool Try.underlying4 _), (trodAll_cons_mk (Below.trod laid_out (by kernel_rfl) (of_decide_eq_true (by kernel_rfl)) k0 bel lt0) (trodAll_cons_mk (Below.trod laid_out (by kernel_rfl) (of_decide_eq_true (by kernel_rfl)) k1 bel lt1) trodAll_mk0)), rfl, bel.frame _, fun h => by cases h⟩
theorem fnExactPlainAttributes_holds : Rows.FnExactPlainAttributesSaid :=
  OpenClaim.holds_of_wide 5 Try.f5 rfl rfl rfl rfl rfl rfl rfl ⟨rfl, rfl, rfl, rfl, rfl⟩ rfl rfl rfl rfl rfl (by kernel_rfl) Try.func5 (by kernel_rfl)
    (of_decide_eq_true (by kernel_rfl)) (by unfold Func.isWrapper; first | (rw [if_pos (by decide +kernel)]; kernel_rfl) | (rw [if_neg (by decide +kernel)]; exact ⟨rfl, rfl⟩))
    (fun os started H enc _ => fnExactPlainAttributes_lifted os started H enc)
end
end Go.Proofs.Ytfnnadlahlkkoaa
