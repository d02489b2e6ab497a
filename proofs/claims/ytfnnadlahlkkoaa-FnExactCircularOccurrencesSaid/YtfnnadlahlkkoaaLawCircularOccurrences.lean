/- The law FnExactCircularOccurrences returns true for all arguments and leaves them as they were; there is no condition. -/
import Derived.Test.YtfnnadlahlkkoaaRows
import Derived.Test.YtfnnadlahlkkoaaMathM5
import Derived.Test.YtfnnadlahlkkoaaHelpb
set_option linter.unusedVariables false
set_option linter.unusedSimpArgs false
set_option linter.ambiguousOpen false
set_option linter.unusedSectionVars false
set_option linter.unnecessarySimpa false
set_option linter.unusedVariables false
set_option linter.unusedSimpArgs false
set_option maxRecDepth 100000
set_option maxHeartbeats 1000000
namespace Go.Proofs.Ytfnnadlahlkkoaa
open Go Go.E
open Go.E.Rep (rd)
open Go.E.Sep (own)
theorem ag41 : aggT Try.prog 41 = some true := by kernel_rfl
theorem sz41 : szT Try.prog 41 = some 2 := by kernel_rfl
theorem ok17 : callable Try.prog 17 = true := by kernel_rfl
theorem ok20 : callable Try.prog 20 = true := by kernel_rfl
theorem ok22 : callable Try.prog 22 = true := by kernel_rfl
theorem ok25 : callable Try.prog 25 = true := by kernel_rfl
theorem ok26 : callable Try.prog 26 = true := by kernel_rfl
theorem ok34 : callable Try.prog 34 = true := by kernel_rfl
theorem ok35 : callable Try.prog 35 = true := by kernel_rfl
theorem ok36 : callable Try.prog 36 = true := by kernel_rfl
theorem ok42 : callable Try.prog 42 = true := by kernel_rfl
theorem ok43 : callable Try.prog 43 = true := by kernel_rfl
theorem sCircularOccurrences_spec (w : World) {S1 : Nat → Prop} {S2 : Nat → Prop} (g : Grammar) {cg : List Value} (hg : rd S1 w g cg) (bg : Sz.szd g ≤ 1048576) (r : Rule) {cr : List Value} (hr : rd S2 w r cr) (br : Sz.szd r ≤ 1048576) :
    Ret Try.prog 42 #[.agg cg.toArray, .agg cr.toArray] w (fun _ => False) fun v w' => NewS w w' ((sCircularOccurrences_m g r).getD []) v := by
  obtain ⟨x, h1, h2, _⟩ := circular_both (syms_le bg) (right_le br)
  have hx : (sCircularOccurrences_m g r).getD [] = x := by rw [h1]; rfl
  rw [hx]
  exact (sCircularOccurrences_ok h1 (F0 := fun _ => True) (Rep.mono hg fun _ _ => trivial) (Rep.mono hr fun _ _ => trivial)).mono fun v w' _ ⟨A, n, c, hv, H⟩ => by subst hv; exact NewS.of H

theorem iCircularOccurrences_spec (w : World) {S1 : Nat → Prop} {S2 : Nat → Prop} (g : Grammar) {cg : List Value} (hg : rd S1 w g cg) (bg : Sz.szd g ≤ 1048576) (r : Rule) {cr : List Value} (hr : rd S2 w r cr) (br : Sz.szd r ≤ 1048576) :
    Ret Try.prog 43 #[.agg cg.toArray, .agg cr.toArray] w (fun _ => False) fun v w' => NewS w w' ((sCircularOccurrences_m g r).getD []) v := by
  obtain ⟨x, h1, h2, _⟩ := circular_both (syms_le bg) (right_le br)
  have hx : (sCircularOccurrences_m g r).getD [] = x := by rw [h1]; rfl
  rw [hx]
  exact (iCircularOccurrences_ok h2 (F0 := fun _ => True) (Rep.mono hg fun _ _ => trivial) (Rep.mono hr fun _ _ => trivial)).mono fun v w' _ ⟨A, n, c, hv, H⟩ => by subst hv; exact NewS.of H

theorem FnExactCircularOccurrences_law (w : World) {Sg : Nat → Prop} (g : Grammar) {cg : List Value} (hg : rd Sg w g cg) {Sr : Nat → Prop} (r : Rule) {cr : List Value} (hr : rd Sr w r cr) :
    Ret Try.prog 8 #[.agg cg.toArray, .agg cr.toArray] w (fun _ => False) fun v _ => v = .bool true := by
  refine enter Try.func8 rfl rfl rfl ?_
  have hK1 := hg
  obtain ⟨v1, v2, rfl, hs1, hs2⟩ := hg
  obtain ⟨A1, c1, rfl, hc1, hm1⟩ := hs1.form
  obtain ⟨A2, c2, rfl, hc2, hm2⟩ := hs2.form
  have qg := Grammar_szd g
  have hK2 := hr
  obtain ⟨v3, v4, v5, rfl, hr1, hr2, hs3, hs4, hs5⟩ := hr
  obtain ⟨A3, c3, rfl, hc3, hm3⟩ := hs3.form
  obtain ⟨A4, c4, rfl, hc4, hm4⟩ := hs4.form
  obtain ⟨A5, c5, rfl, hc5, hm5⟩ := hs5.form
  have qr := Rule_szd r
  refine CW.seq (CW.reg ?_)
  refine WL.box rfl rfl rfl rfl rfl fun b1 w1 hEb1 hbb1 hBb1 => ?_
  refine WL.box rfl rfl rfl rfl rfl fun b2 w2 hEb2 hbb2 hBb2 => ?_
  refine WL.ev rfl rfl (Ev.as rfl rfl) (WL.nil ?_)
  refine CW.seq (CW.reg ?_)
  refine WL.ev rfl rfl (Ev.as rfl rfl) (WL.nil ?_)
  refine CW.seq (CW.reg ?_)
  refine WL.ev rfl rfl (Ev.lda rfl ag41 sz41 rfl (At.blk (hBb1.ext hEb2)) rfl) (WL.ev rfl rfl (Ev.mv rfl rfl) ?_)
  refine WL.call rfl rfl rfl rfl rfl ok20 rfl (szGrammar_spec _ g (rd_ext hK1 (hEb1.trans hEb2)) _ (by omega) (by omega)) ?_
  rintro _ w3 hEw3 ⟨r1, rfl, hr3⟩
  have hq1 := Grammar_szd g
  refine WL.ev rfl rfl (Ev.as rfl rfl) (WL.nil ?_)
  refine CW.fresh [(2, .pointer (some ⟨b1, 0, none⟩)), (3, .pointer (some ⟨b2, 0, none⟩)), (4, .bool false), (5, .int .i64 (r1))] ⟨rfl, rfl, rfl, rfl, trivial⟩ fun σ => ?_
  refine CW.seq (CW.seq (CW.reg ?_))
  refine WL.ev rfl rfl (Ev.mv rfl rfl) (WL.ev rfl rfl (Ev.bin rfl rfl rfl Bin.lss) (WL.nil ?_))
  refine CW.condD rfl (fun h1 => ?_) (fun h1 => ?_)
  · skip
    refine CW.fresh [(2, .pointer (some ⟨b1, 0, none⟩)), (3, .pointer (some ⟨b2, 0, none⟩)), (4, .bool false), (5, .int .i64 (r1))] ⟨rfl, rfl, rfl, rfl, trivial⟩ fun σ => ?_
    refine CW.seq (CW.reg ?_)
    refine WL.ev rfl rfl (Ev.as rfl rfl) (WL.nil ?_)
    refine CW.ret ?_
    exact ⟨_, res1 rfl rfl rfl, ((hEb1.trans hEb2).trans hEw3), rfl⟩
  · skip
    refine CW.skip ?_
    refine CW.fresh [(2, .pointer (some ⟨b1, 0, none⟩)), (3, .pointer (some ⟨b2, 0, none⟩)), (4, .bool false), (5, .int .i64 (r1))] ⟨rfl, rfl, rfl, rfl, trivial⟩ fun σ => ?_
    refine CW.seq (CW.reg ?_)
    refine WL.ev rfl rfl (Ev.lda rfl ag59 sz59 rfl (At.blk (hBb2.ext hEw3)) rfl) (WL.ev rfl rfl (Ev.mv rfl rfl) ?_)
    refine WL.call rfl rfl rfl rfl rfl ok29 rfl (szRule_spec _ r (rd_ext hK2 ((hEb1.trans hEb2).trans hEw3)) _ (by omega) (by omega)) ?_
    rintro _ w4 hEw4 ⟨r2, rfl, hr4⟩
    have hq2 := Rule_szd r
    refine WL.ev rfl rfl (Ev.as rfl rfl) (WL.nil ?_)
    refine CW.fresh [(2, .pointer (some ⟨b1, 0, none⟩)), (3, .pointer (some ⟨b2, 0, none⟩)), (4, .bool false), (5, .int .i64 (r2))] ⟨rfl, rfl, rfl, rfl, trivial⟩ fun σ => ?_
    refine CW.seq (CW.seq (CW.reg ?_))
    refine WL.ev rfl rfl (Ev.mv rfl rfl) (WL.ev rfl rfl (Ev.bin rfl rfl rfl Bin.lss) (WL.nil ?_))
    refine CW.condD rfl (fun h2 => ?_) (fun h2 => ?_)
    · skip
      refine CW.fresh [(2, .pointer (some ⟨b1, 0, none⟩)), (3, .pointer (some ⟨b2, 0, none⟩)), (4, .bool false)] ⟨rfl, rfl, rfl, trivial⟩ fun σ => ?_
      refine CW.seq (CW.reg ?_)
      refine WL.ev rfl rfl (Ev.as rfl rfl) (WL.nil ?_)
      refine CW.ret ?_
      exact ⟨_, res1 rfl rfl rfl, (((hEb1.trans hEb2).trans hEw3).trans hEw4), rfl⟩
    · skip
      refine CW.skip ?_
      refine CW.fresh [(2, .pointer (some ⟨b1, 0, none⟩)), (3, .pointer (some ⟨b2, 0, none⟩)), (4, .bool false)] ⟨rfl, rfl, rfl, trivial⟩ fun σ => ?_
      refine CW.seq (CW.anyE 5 (fun ρ => [.inl (.agg #[.slice A1 g.Symbols.length c1, .slice A2 g.Rules.length c2]), .inr (fun S v w => ∃ cs : List Value, v = .agg cs.toArray ∧ rd S w (g) cs), .inl (.agg #[.string (r.Name), .string (r.Left), .slice A3 r.Right.length c3, .bool (r.Literal), .slice A4 r.Equations.length c4, .slice A5 r.Contributions.length c5]), .inr (fun S v w => ∃ cs : List Value, v = .agg cs.toArray ∧ rd S w (r) cs), .inr (fun S v w => rdS S w ((sCircularOccurrences_m g r).getD []) v)]) hmix (by kernel_rfl) ⟨trivial, fun _ _ _ _ ⟨cs, e, h⟩ hE => ⟨cs, e, rd_ext h hE⟩, trivial, fun _ _ _ _ ⟨cs, e, h⟩ hE => ⟨cs, e, rd_ext h hE⟩, fun _ _ _ _ h hE => h.ext hE, trivial⟩ ?_)
      refine LL.fx rfl rfl rfl (fun _ hq hK => Ev.lda rfl ag41 sz41 rfl (At.blk (hBb1.ext (((hEb2.trans hEw3).trans hEw4).trans hq))) rfl) ?_
      refine LL.free rfl rfl (fun wq hq hK => ?_) (fun v_1_1 S_1_1 => ?_)
      · skip
        refine OpX.call rfl rfl rfl rfl ok22 rfl (toGrammar_spec _ g (rd_ext hK1 ((((hEb1.trans hEb2).trans hEw3).trans hEw4).trans hq)) (by omega)) ?_
        rintro v w' hE ⟨cs, rfl, h⟩
        exact ⟨hE, cs, rfl, New.rd h⟩
      refine LL.fx rfl rfl rfl (fun _ hq hK => Ev.lda rfl ag59 sz59 rfl (At.blk (hBb2.ext ((hEw3.trans hEw4).trans hq))) rfl) ?_
      refine LL.free rfl rfl (fun wq hq hK => ?_) (fun v_1_3 S_1_3 => ?_)
      · skip
        refine OpX.call rfl rfl rfl rfl ok31 rfl (toRule_spec _ r (rd_ext hK2 ((((hEb1.trans hEb2).trans hEw3).trans hEw4).trans hq)) (by omega)) ?_
        rintro v w' hE ⟨cs, rfl, h⟩
        exact ⟨hE, cs, rfl, New.rd h⟩
      refine LL.free rfl rfl (fun wq hq hK => ?_) (fun v_1_4 S_1_4 => ?_)
      · skip
        obtain ⟨cs1, e1, hd1⟩ : ∃ cs : List Value, v_1_1 = .agg cs.toArray ∧ rd S_1_1 wq (g) cs := hK 1 rfl
        subst e1
        obtain ⟨cs3, e3, hd3⟩ : ∃ cs : List Value, v_1_3 = .agg cs.toArray ∧ rd S_1_3 wq (r) cs := hK 3 rfl
        subst e3
        refine OpX.call rfl rfl rfl rfl ok42 rfl (sCircularOccurrences_spec _ g hd1 (by omega) r hd3 (by omega)) ?_
        intro v w' hE h
        exact ⟨hE, NewS.rd h⟩
      intro w5 hEw5 hKr1 hap1 hbd1
      have hs_1_1 : ∀ q, S_1_1 q → w4.heap.size ≤ q ∧ q < w5.heap.size := fun q hq => hbd1 1 q hq
      have hs_1_3 : ∀ q, S_1_3 q → w4.heap.size ≤ q ∧ q < w5.heap.size := fun q hq => hbd1 3 q hq
      have hs_1_4 : ∀ q, S_1_4 q → w4.heap.size ≤ q ∧ q < w5.heap.size := fun q hq => hbd1 4 q hq
      have hd1_4 : rdS S_1_4 w5 ((sCircularOccurrences_m g r).getD []) v_1_4 := hKr1 4 (by decide)
      refine WL.ev rfl rfl (Ev.as rfl rfl) (WL.nil ?_)
      refine CW.fresh [(2, .pointer (some ⟨b1, 0, none⟩)), (3, .pointer (some ⟨b2, 0, none⟩)), (4, .bool false), (6, v_1_4)] ⟨rfl, rfl, rfl, rfl, trivial⟩ fun σ => ?_
      refine CW.seq (CW.reg ?_)
      refine WL.ev rfl rfl (Ev.lda rfl ag41 sz41 rfl (At.blk (hBb1.ext (((hEb2.trans hEw3).trans hEw4).trans hEw5))) rfl) ?_
      refine WL.call rfl rfl rfl rfl rfl ok22 rfl (toGrammar_spec _ g (rd_ext hK1 ((((hEb1.trans hEb2).trans hEw3).trans hEw4).trans hEw5)) (by omega)) ?_
      rintro _ w6 hEw6 ⟨cs3, rfl, L4, hO4, hN4, hF4⟩
      refine WL.alloc rfl rfl rfl ze48 fun b3 w7 hEb3 hbb3 hBb3 => ?_
      refine WL.stW rfl rfl rfl sz48 rfl rfl rfl (Rep.len (Sep.own_rd (own_ext hO4 hEb3))) (Rep.one (Sep.own_rd (own_ext hO4 hEb3))) hBb3 rfl fun w8 hCw8 hB_1 => ?_
      have hT1 := Blk.chg1 (hBb1.ext (((((hEb2.trans hEw3).trans hEw4).trans hEw5).trans hEw6).trans hEb3)) hCw8 (by have := hBb1.lt; have := hbb3; have := hEb2.size; have := hEw3.size; have := hEw4.size; have := hEw5.size; have := hEw6.size; omega)
      have hT2 := Blk.chg1 (hBb2.ext ((((hEw3.trans hEw4).trans hEw5).trans hEw6).trans hEb3)) hCw8 (by have := hBb2.lt; have := hbb3; have := hEw3.size; have := hEw4.size; have := hEw5.size; have := hEw6.size; omega)
      have hT3 := rdS.chg1 (hd1_4.ext (hEw6.trans hEb3)) hCw8 (fun q hq _ e => by subst e; have := (hs_1_4 _ hq).2; have := hbb3; have := hEw6.size; omega)
      have hT4 := own_chg1 (own_ext hO4 hEb3) hCw8 (fun q hq e => by subst e; have := Sep.own_lt hO4 _ hq; have := hbb3; omega)
      have hX1 := Ext.chg1 ((((((hEb1.trans hEb2).trans hEw3).trans hEw4).trans hEw5).trans hEw6).trans hEb3) hCw8 (by have := hbb3; have := hEb1.size; have := hEb2.size; have := hEw3.size; have := hEw4.size; have := hEw5.size; have := hEw6.size; omega)
      refine WL.nil ?_
      refine CW.fresh [(2, .pointer (some ⟨b1, 0, none⟩)), (3, .pointer (some ⟨b2, 0, none⟩)), (4, .bool false), (6, v_1_4), (7, .pointer (some ⟨b3, 0, none⟩))] ⟨rfl, rfl, rfl, rfl, rfl, trivial⟩ fun σ => ?_
      refine CW.seq (CW.reg ?_)
      refine WL.ev rfl rfl (Ev.lda rfl ag59 sz59 rfl (At.blk hT2) rfl) ?_
      refine WL.call rfl rfl rfl rfl rfl ok31 rfl (toRule_spec _ r (rd_ext hK2 hX1) (by omega)) ?_
      rintro _ w9 hEw9 ⟨cs4, rfl, L5, hO5, hN5, hF5⟩
      refine WL.alloc rfl rfl rfl ze65 fun b4 w10 hEb4 hbb4 hBb4 => ?_
      refine WL.stW rfl rfl rfl sz65 rfl rfl rfl (Rep.len (Sep.own_rd (own_ext hO5 hEb4))) (Rep.one (Sep.own_rd (own_ext hO5 hEb4))) hBb4 rfl fun w11 hCw11 hB_2 => ?_
      have hT5 := Blk.chg1 (hT1.ext (hEw9.trans hEb4)) hCw11 (by have := hBb1.lt; have := hbb4; have := hEb2.size; have := hEw3.size; have := hEw4.size; have := hEw5.size; have := hEw6.size; have := hEb3.size; have := hCw8.size; have := hEw9.size; omega)
      have hT6 := Blk.chg1 (hT2.ext (hEw9.trans hEb4)) hCw11 (by have := hBb2.lt; have := hbb4; have := hEw3.size; have := hEw4.size; have := hEw5.size; have := hEw6.size; have := hEb3.size; have := hCw8.size; have := hEw9.size; omega)
      have hT7 := rdS.chg1 (hT3.ext (hEw9.trans hEb4)) hCw11 (fun q hq _ e => by subst e; have := (hs_1_4 _ hq).2; have := hbb4; have := hEw6.size; have := hEb3.size; have := hCw8.size; have := hEw9.size; omega)
      have hT8 := own_chg1 (own_ext hT4 (hEw9.trans hEb4)) hCw11 (fun q hq e => by subst e; have := Sep.own_lt hO4 _ hq; have := hbb4; have := hEb3.size; have := hCw8.size; have := hEw9.size; omega)
      have hT9 := Blk.chg1 (hB_1.ext (hEw9.trans hEb4)) hCw11 (by have := hBb3.lt; have := hbb4; have := hCw8.size; have := hEw9.size; omega)
      have hT10 := own_chg1 (own_ext hO5 hEb4) hCw11 (fun q hq e => by subst e; have := Sep.own_lt hO5 _ hq; have := hbb4; omega)
      have hX2 := Ext.chg1 ((hX1.trans hEw9).trans hEb4) hCw11 (by have := hbb4; have := hEb1.size; have := hEb2.size; have := hEw3.size; have := hEw4.size; have := hEw5.size; have := hEw6.size; have := hEb3.size; have := hCw8.size; have := hEw9.size; omega)
      refine WL.nil ?_
      refine CW.fresh [(2, .pointer (some ⟨b1, 0, none⟩)), (3, .pointer (some ⟨b2, 0, none⟩)), (4, .bool false), (6, v_1_4), (7, .pointer (some ⟨b3, 0, none⟩)), (8, .pointer (some ⟨b4, 0, none⟩))] ⟨rfl, rfl, rfl, rfl, rfl, rfl, trivial⟩ fun σ => ?_
      refine CW.seq (CW.reg ?_)
      refine WL.ev rfl rfl (Ev.lda rfl ag48 sz48 rfl (At.blk hT9) (Rep.len (Sep.own_rd hT8))) (WL.ev rfl rfl (Ev.lda rfl ag65 sz65 rfl (At.blk hB_2) (Rep.len (Sep.own_rd hT10))) ?_)
      refine WL.call rfl rfl rfl rfl rfl ok43 rfl (iCircularOccurrences_spec _ g (Sep.own_rd hT8) (by omega) r (Sep.own_rd hT10) (by omega)) ?_
      rintro v7 w12 hEw12 ⟨L6, hO6, hN6, hF6⟩
      obtain ⟨A7, c7, rfl, hc7, hm7⟩ := hO6.form
      refine WL.ev rfl rfl (Ev.as rfl rfl) (WL.nil ?_)
      refine CW.fresh [(2, .pointer (some ⟨b1, 0, none⟩)), (3, .pointer (some ⟨b2, 0, none⟩)), (4, .bool false), (6, v_1_4), (7, .pointer (some ⟨b3, 0, none⟩)), (8, .pointer (some ⟨b4, 0, none⟩)), (9, .slice A7 ((sCircularOccurrences_m g r).getD []).length c7)] ⟨rfl, rfl, rfl, rfl, rfl, rfl, rfl, trivial⟩ fun σ => ?_
      refine CW.seq (CW.seq (CW.reg ?_))
      refine WL.ev rfl rfl (Ev.mv rfl rfl) (WL.ev rfl rfl (Ev.mv rfl rfl) ?_)
      refine WL.call rfl rfl rfl rfl rfl ok17 rfl ((eqOccurrenceS_spec _ ((sCircularOccurrences_m g r).getD []) ((sCircularOccurrences_m g r).getD []) hO6.rd (hT7.ext hEw12)).yes rfl) ?_
      rintro _ w13 hEw13 rfl
      refine WL.ev rfl rfl (Ev.not rfl rfl) (WL.nil ?_)
      refine CW.condF rfl ?_
      refine CW.skip ?_
      refine CW.fresh [(2, .pointer (some ⟨b1, 0, none⟩)), (3, .pointer (some ⟨b2, 0, none⟩)), (4, .bool false), (6, v_1_4), (7, .pointer (some ⟨b3, 0, none⟩)), (8, .pointer (some ⟨b4, 0, none⟩)), (9, .slice A7 ((sCircularOccurrences_m g r).getD []).length c7)] ⟨rfl, rfl, rfl, rfl, rfl, rfl, rfl, trivial⟩ fun σ => ?_
      refine CW.seq (CW.seq (CW.anyE 5 (fun ρ => [.inl (.agg cs3.toArray), .inl (.agg #[.slice A1 g.Symbols.length c1, .slice A2 g.Rules.length c2]), .inr (fun S v w => ∃ cs : List Value, v = .agg cs.toArray ∧ rd S w (g) cs), .inl (.bool true), .inl (.bool (!true))]) hmix (by kernel_rfl) ⟨trivial, trivial, fun _ _ _ _ ⟨cs, e, h⟩ hE => ⟨cs, e, rd_ext h hE⟩, trivial, trivial, trivial⟩ ?_))
      refine LL.fx rfl rfl rfl (fun _ hq hK => Ev.lda rfl ag48 sz48 rfl (At.blk (hT9.ext ((hEw12.trans hEw13).trans hq))) (Rep.len (Sep.own_rd (own_ext hT8 ((hEw12.trans hEw13).trans hq))))) ?_
      refine LL.fx rfl rfl rfl (fun _ hq hK => Ev.lda rfl ag41 sz41 rfl (At.blk (hT5.ext ((hEw12.trans hEw13).trans hq))) rfl) ?_
      refine LL.free rfl rfl (fun wq hq hK => ?_) (fun v_2_2 S_2_2 => ?_)
      · skip
        refine OpX.call rfl rfl rfl rfl ok22 rfl (toGrammar_spec _ g (rd_ext hK1 (((hX2.trans hEw12).trans hEw13).trans hq)) (by omega)) ?_
        rintro v w' hE ⟨cs, rfl, h⟩
        exact ⟨hE, cs, rfl, New.rd h⟩
      refine LL.fixed rfl rfl (fun wq hq hK => ?_) ?_
      · skip
        obtain ⟨cs2, e2, hd2⟩ : ∃ cs : List Value, v_2_2 = .agg cs.toArray ∧ rd S_2_2 wq (g) cs := hK 2 rfl
        subst e2
        refine OpX.call rfl rfl rfl rfl ok25 rfl ((eqGrammar_spec _ g g (Sep.own_rd (own_ext hT8 ((hEw12.trans hEw13).trans hq))) hd2).yes rfl) ?_
        rintro v w' hE rfl
        exact ⟨hE, rfl⟩
      refine LL.fx rfl rfl rfl (fun _ hq hK => Ev.not rfl rfl) ?_
      intro w14 hEw14 hKr2 hap2 hbd2
      have hs_2_2 : ∀ q, S_2_2 q → w13.heap.size ≤ q ∧ q < w14.heap.size := fun q hq => hbd2 2 q hq
      refine WL.nil ?_
      refine CW.condF rfl ?_
      refine CW.skip ?_
      refine CW.fresh [(2, .pointer (some ⟨b1, 0, none⟩)), (3, .pointer (some ⟨b2, 0, none⟩)), (4, .bool false), (6, v_1_4), (7, .pointer (some ⟨b3, 0, none⟩)), (8, .pointer (some ⟨b4, 0, none⟩)), (9, .slice A7 ((sCircularOccurrences_m g r).getD []).length c7)] ⟨rfl, rfl, rfl, rfl, rfl, rfl, rfl, trivial⟩ fun σ => ?_
      refine CW.seq (CW.seq (CW.anyE 5 (fun ρ => [.inl (.agg cs4.toArray), .inl (.agg #[.string (r.Name), .string (r.Left), .slice A3 r.Right.length c3, .bool (r.Literal), .slice A4 r.Equations.length c4, .slice A5 r.Contributions.length c5]), .inr (fun S v w => ∃ cs : List Value, v = .agg cs.toArray ∧ rd S w (r) cs), .inl (.bool true), .inl (.bool (!true))]) hmix (by kernel_rfl) ⟨trivial, trivial, fun _ _ _ _ ⟨cs, e, h⟩ hE => ⟨cs, e, rd_ext h hE⟩, trivial, trivial, trivial⟩ ?_))
      refine LL.fx rfl rfl rfl (fun _ hq hK => Ev.lda rfl ag65 sz65 rfl (At.blk (hB_2.ext (((hEw12.trans hEw13).trans hEw14).trans hq))) (Rep.len (Sep.own_rd (own_ext hT10 (((hEw12.trans hEw13).trans hEw14).trans hq))))) ?_
      refine LL.fx rfl rfl rfl (fun _ hq hK => Ev.lda rfl ag59 sz59 rfl (At.blk (hT6.ext (((hEw12.trans hEw13).trans hEw14).trans hq))) rfl) ?_
      refine LL.free rfl rfl (fun wq hq hK => ?_) (fun v_3_2 S_3_2 => ?_)
      · skip
        refine OpX.call rfl rfl rfl rfl ok31 rfl (toRule_spec _ r (rd_ext hK2 ((((hX2.trans hEw12).trans hEw13).trans hEw14).trans hq)) (by omega)) ?_
        rintro v w' hE ⟨cs, rfl, h⟩
        exact ⟨hE, cs, rfl, New.rd h⟩
      refine LL.fixed rfl rfl (fun wq hq hK => ?_) ?_
      · skip
        obtain ⟨cs2, e2, hd2⟩ : ∃ cs : List Value, v_3_2 = .agg cs.toArray ∧ rd S_3_2 wq (r) cs := hK 2 rfl
        subst e2
        refine OpX.call rfl rfl rfl rfl ok33 rfl ((eqRule_spec _ r r (Sep.own_rd (own_ext hT10 (((hEw12.trans hEw13).trans hEw14).trans hq))) hd2).yes rfl) ?_
        rintro v w' hE rfl
        exact ⟨hE, rfl⟩
      refine LL.fx rfl rfl rfl (fun _ hq hK => Ev.not rfl rfl) ?_
      intro w15 hEw15 hKr3 hap3 hbd3
      have hs_3_2 : ∀ q, S_3_2 q → w14.heap.size ≤ q ∧ q < w15.heap.size := fun q hq => hbd3 2 q hq
      refine WL.nil ?_
      refine CW.condF rfl ?_
      refine CW.skip ?_
      refine CW.fresh [(2, .pointer (some ⟨b1, 0, none⟩)), (3, .pointer (some ⟨b2, 0, none⟩)), (4, .bool false), (6, v_1_4), (7, .pointer (some ⟨b3, 0, none⟩)), (8, .pointer (some ⟨b4, 0, none⟩)), (9, .slice A7 ((sCircularOccurrences_m g r).getD []).length c7)] ⟨rfl, rfl, rfl, rfl, rfl, rfl, rfl, trivial⟩ fun σ => ?_
      refine CW.seq (CW.reg ?_)
      refine WL.ev rfl rfl (Ev.as rfl rfl) (WL.nil ?_)
      refine CW.fresh [(2, .pointer (some ⟨b1, 0, none⟩)), (3, .pointer (some ⟨b2, 0, none⟩)), (4, .bool false), (6, v_1_4), (7, .pointer (some ⟨b3, 0, none⟩)), (8, .pointer (some ⟨b4, 0, none⟩)), (9, .slice A7 ((sCircularOccurrences_m g r).getD []).length c7), (10, .int .i64 (1))] ⟨rfl, rfl, rfl, rfl, rfl, rfl, rfl, rfl, trivial⟩ fun σ => ?_
      refine CW.seq (CW.reg ?_)
      refine WL.ev rfl rfl (Ev.lda rfl ag48 sz48 rfl (At.blk (hT9.ext (((hEw12.trans hEw13).trans hEw14).trans hEw15))) (Rep.len (Sep.own_rd (own_ext hT8 (((hEw12.trans hEw13).trans hEw14).trans hEw15))))) (WL.ev rfl rfl (Ev.mv rfl rfl) ?_)
      refine WL.call rfl rfl rfl rfl rfl ok26 rfl (markGrammar_spec _ L4 g (own_ext hT8 (((hEw12.trans hEw13).trans hEw14).trans hEw15)) hN4 1 (by omega) (by have := cnt_anyT g (by omega); omega)) ?_
      rintro _ w16 hEw16 ⟨rfl, hO_1⟩
      have hT11 := Blk.chgL (hT5.ext (((hEw12.trans hEw13).trans hEw14).trans hEw15)) hEw16 (fun hq => by have := hBb1.lt; have := hF4 _ hq; have := hEb2.size; have := hEw3.size; have := hEw4.size; have := hEw5.size; omega)
      have hT12 := Blk.chgL (hT6.ext (((hEw12.trans hEw13).trans hEw14).trans hEw15)) hEw16 (fun hq => by have := hBb2.lt; have := hF4 _ hq; have := hEw3.size; have := hEw4.size; have := hEw5.size; omega)
      have hT13 := rdS.chgL (hT7.ext (((hEw12.trans hEw13).trans hEw14).trans hEw15)) hEw16 (fun q hq _ h2 => by have := (hs_1_4 _ hq).2; have := hF4 _ h2; omega)
      have hT14 := Blk.chgL (hT9.ext (((hEw12.trans hEw13).trans hEw14).trans hEw15)) hEw16 (fun hq => by have := Sep.own_lt hO4 _ hq; have := hbb3; omega)
      have hT15 := own_chgL (own_ext hT10 (((hEw12.trans hEw13).trans hEw14).trans hEw15)) hEw16 (fun q hq h2 => by have := Sep.own_lt hO4 _ h2; have := hF5 _ hq; have := hEb3.size; have := hCw8.size; omega)
      have hT16 := Blk.chgL (hB_2.ext (((hEw12.trans hEw13).trans hEw14).trans hEw15)) hEw16 (fun hq => by have := Sep.own_lt hO4 _ hq; have := hbb4; have := hEb3.size; have := hCw8.size; have := hEw9.size; omega)
      have hT17 := ownS.chgL (hO6.ext ((hEw13.trans hEw14).trans hEw15)) hEw16 (fun q hq h2 => by have := Sep.own_lt hO4 _ h2; have := hF6 _ hq; have := hEb3.size; have := hCw8.size; have := hEw9.size; have := hEb4.size; have := hCw11.size; omega)
      have hX3 := Ext.chgL ((((hX2.trans hEw12).trans hEw13).trans hEw14).trans hEw15) hEw16 (fun q hq => by have := hF4 _ hq; have := hEb1.size; have := hEb2.size; have := hEw3.size; have := hEw4.size; have := hEw5.size; omega)
      have := cnt_anyT g (by omega)
      refine WL.ev rfl rfl (Ev.as rfl rfl) (WL.nil ?_)
      refine CW.fresh [(2, .pointer (some ⟨b1, 0, none⟩)), (3, .pointer (some ⟨b2, 0, none⟩)), (4, .bool false), (6, v_1_4), (8, .pointer (some ⟨b4, 0, none⟩)), (9, .slice A7 ((sCircularOccurrences_m g r).getD []).length c7), (10, .int .i64 (1 + (MkT.cntT g : Nat)))] ⟨rfl, rfl, rfl, rfl, rfl, rfl, rfl, trivial⟩ fun σ => ?_
      refine CW.seq (CW.reg ?_)
      refine WL.ev rfl rfl (Ev.lda rfl ag65 sz65 rfl (At.blk hT16) (Rep.len (Sep.own_rd hT15))) (WL.ev rfl rfl (Ev.mv rfl rfl) ?_)
      refine WL.call rfl rfl rfl rfl rfl ok34 rfl (markRule_spec _ L5 r hT15 hN5 (1 + (MkT.cntT g : Nat)) (by omega) (by have := cnt_anyT r (by omega); omega)) ?_
      rintro _ w17 hEw17 ⟨rfl, hO_2⟩
      have hT18 := Blk.chgL hT11 hEw17 (fun hq => by have := hBb1.lt; have := hF5 _ hq; have := hEb2.size; have := hEw3.size; have := hEw4.size; have := hEw5.size; have := hEw6.size; have := hEb3.size; have := hCw8.size; omega)
      have hT19 := Blk.chgL hT12 hEw17 (fun hq => by have := hBb2.lt; have := hF5 _ hq; have := hEw3.size; have := hEw4.size; have := hEw5.size; have := hEw6.size; have := hEb3.size; have := hCw8.size; omega)
      have hT20 := rdS.chgL hT13 hEw17 (fun q hq _ h2 => by have := (hs_1_4 _ hq).2; have := hF5 _ h2; have := hEw6.size; have := hEb3.size; have := hCw8.size; omega)
      have hT21 := own_chgL hO_1 hEw17 (fun q hq h2 => by have := Sep.own_lt hO4 _ hq; have := hF5 _ h2; have := hEb3.size; have := hCw8.size; omega)
      have hT22 := Blk.chgL hT14 hEw17 (fun hq => by have := hBb3.lt; have := hF5 _ hq; have := hCw8.size; omega)
      have hT23 := Blk.chgL hT16 hEw17 (fun hq => by have := Sep.own_lt hO5 _ hq; have := hbb4; omega)
      have hT24 := ownS.chgL hT17 hEw17 (fun q hq h2 => by have := Sep.own_lt hO5 _ h2; have := hF6 _ hq; have := hEb4.size; have := hCw11.size; omega)
      have hX4 := Ext.chgL hX3 hEw17 (fun q hq => by have := hF5 _ hq; have := hEb1.size; have := hEb2.size; have := hEw3.size; have := hEw4.size; have := hEw5.size; have := hEw6.size; have := hEb3.size; have := hCw8.size; omega)
      have := cnt_anyT r (by omega)
      refine WL.ev rfl rfl (Ev.as rfl rfl) (WL.nil ?_)
      refine CW.fresh [(2, .pointer (some ⟨b1, 0, none⟩)), (3, .pointer (some ⟨b2, 0, none⟩)), (4, .bool false), (6, v_1_4), (9, .slice A7 ((sCircularOccurrences_m g r).getD []).length c7), (10, .int .i64 (1 + (MkT.cntT g : Nat) + (MkT.cntT r : Nat)))] ⟨rfl, rfl, rfl, rfl, rfl, rfl, trivial⟩ fun σ => ?_
      refine CW.seq (CW.seq (CW.reg ?_))
      refine WL.ev rfl rfl (Ev.mv rfl rfl) (WL.ev rfl rfl (Ev.bin rfl rfl rfl (Bin.no (by omega))) (WL.ev rfl rfl (Ev.mv rfl rfl) (WL.on rfl rfl (WL.ev rfl rfl (Ev.mv rfl rfl) (WL.on rfl rfl (WL.ev rfl rfl (Ev.mv rfl rfl) (WL.on rfl rfl ?_)))))))
      refine WL.call rfl rfl rfl rfl rfl ok17 rfl ((eqOccurrenceS_spec _ ((sCircularOccurrences_m g r).getD []) ((sCircularOccurrences_m g r).getD []) hT24.rd hT20).yes rfl) ?_
      rintro _ w18 hEw18 rfl
      refine WL.on rfl rfl (WL.ev rfl rfl (Ev.not rfl rfl) (WL.ev rfl rfl (Ev.pickF rfl rfl rfl) (WL.nil ?_)))
      refine CW.condF rfl ?_
      refine CW.skip ?_
      refine CW.fresh [(2, .pointer (some ⟨b1, 0, none⟩)), (3, .pointer (some ⟨b2, 0, none⟩)), (4, .bool false), (6, v_1_4), (9, .slice A7 ((sCircularOccurrences_m g r).getD []).length c7)] ⟨rfl, rfl, rfl, rfl, rfl, trivial⟩ fun σ => ?_
      refine CW.seq (CW.reg ?_)
      refine WL.ev rfl rfl (Ev.as rfl rfl) (WL.nil ?_)
      refine CW.fresh [(2, .pointer (some ⟨b1, 0, none⟩)), (3, .pointer (some ⟨b2, 0, none⟩)), (4, .bool false), (6, v_1_4), (9, .slice A7 ((sCircularOccurrences_m g r).getD []).length c7), (11, .int .i64 (1))] ⟨rfl, rfl, rfl, rfl, rfl, rfl, trivial⟩ fun σ => ?_
      refine CW.seq (CW.reg ?_)
      refine WL.ev rfl rfl (Ev.mv rfl rfl) (WL.ev rfl rfl (Ev.mv rfl rfl) ?_)
      refine WL.call rfl rfl rfl rfl rfl ok35 rfl (markOccurrenceS_spec _ L6 ((sCircularOccurrences_m g r).getD []) (hT24.ext hEw18) hN6 1 (by omega) (by have := cnt_circular g r (by omega) (by omega); omega)) ?_
      rintro _ w19 hEw19 ⟨rfl, hO_3⟩
      have hT25 := Blk.chgL (hT18.ext hEw18) hEw19 (fun hq => by have := hBb1.lt; have := hF6 _ hq; have := hEb2.size; have := hEw3.size; have := hEw4.size; have := hEw5.size; have := hEw6.size; have := hEb3.size; have := hCw8.size; have := hEw9.size; have := hEb4.size; have := hCw11.size; omega)
      have hT26 := Blk.chgL (hT19.ext hEw18) hEw19 (fun hq => by have := hBb2.lt; have := hF6 _ hq; have := hEw3.size; have := hEw4.size; have := hEw5.size; have := hEw6.size; have := hEb3.size; have := hCw8.size; have := hEw9.size; have := hEb4.size; have := hCw11.size; omega)
      have hT27 := rdS.chgL (hT20.ext hEw18) hEw19 (fun q hq _ h2 => by have := (hs_1_4 _ hq).2; have := hF6 _ h2; have := hEw6.size; have := hEb3.size; have := hCw8.size; have := hEw9.size; have := hEb4.size; have := hCw11.size; omega)
      have hT28 := own_chgL (own_ext hT21 hEw18) hEw19 (fun q hq h2 => by have := Sep.own_lt hO4 _ hq; have := hF6 _ h2; have := hEb3.size; have := hCw8.size; have := hEw9.size; have := hEb4.size; have := hCw11.size; omega)
      have hT29 := Blk.chgL (hT22.ext hEw18) hEw19 (fun hq => by have := hBb3.lt; have := hF6 _ hq; have := hCw8.size; have := hEw9.size; have := hEb4.size; have := hCw11.size; omega)
      have hT30 := own_chgL (own_ext hO_2 hEw18) hEw19 (fun q hq h2 => by have := Sep.own_lt hO5 _ hq; have := hF6 _ h2; have := hEb4.size; have := hCw11.size; omega)
      have hT31 := Blk.chgL (hT23.ext hEw18) hEw19 (fun hq => by have := hBb4.lt; have := hF6 _ hq; have := hCw11.size; omega)
      have hX5 := Ext.chgL (hX4.trans hEw18) hEw19 (fun q hq => by have := hF6 _ hq; have := hEb1.size; have := hEb2.size; have := hEw3.size; have := hEw4.size; have := hEw5.size; have := hEw6.size; have := hEb3.size; have := hCw8.size; have := hEw9.size; have := hEb4.size; have := hCw11.size; omega)
      have := cnt_circular g r (by omega) (by omega)
      refine WL.ev rfl rfl (Ev.as rfl rfl) (WL.nil ?_)
      refine CW.fresh [(2, .pointer (some ⟨b1, 0, none⟩)), (3, .pointer (some ⟨b2, 0, none⟩)), (4, .bool false), (6, v_1_4), (9, .slice A7 ((sCircularOccurrences_m g r).getD []).length c7), (11, .int .i64 (1 + (cntL ((sCircularOccurrences_m g r).getD []) : Nat)))] ⟨rfl, rfl, rfl, rfl, rfl, rfl, trivial⟩ fun σ => ?_
      refine CW.seq (CW.reg ?_)
      refine WL.ev rfl rfl (Ev.as rfl rfl) (WL.nil ?_)
      refine CW.fresh [(2, .pointer (some ⟨b1, 0, none⟩)), (3, .pointer (some ⟨b2, 0, none⟩)), (4, .bool false), (6, v_1_4), (9, .slice A7 ((sCircularOccurrences_m g r).getD []).length c7), (11, .int .i64 (1 + (cntL ((sCircularOccurrences_m g r).getD []) : Nat))), (12, .int .i64 (1))] ⟨rfl, rfl, rfl, rfl, rfl, rfl, rfl, trivial⟩ fun σ => ?_
      refine CW.seq (CW.reg ?_)
      refine WL.ev rfl rfl (Ev.mv rfl rfl) (WL.ev rfl rfl (Ev.mv rfl rfl) ?_)
      refine WL.call rfl rfl rfl rfl rfl ok36 rfl (heldOccurrenceS_spec _ (mkL ((sCircularOccurrences_m g r).getD []) 1) hO_3.rd 1 (by omega) (by rw [cntL_mkL]; have := cnt_circular g r (by omega) (by omega); omega)) ?_
      rintro _ w20 hEw20 ⟨r3, rfl, hr5⟩
      rw [hdL_mkL] at hr5
      have := hr5.is
      refine WL.ev rfl rfl (Ev.as rfl rfl) (WL.nil ?_)
      refine CW.fresh [(2, .pointer (some ⟨b1, 0, none⟩)), (3, .pointer (some ⟨b2, 0, none⟩)), (4, .bool false), (6, v_1_4), (9, .slice A7 ((sCircularOccurrences_m g r).getD []).length c7), (11, .int .i64 (1 + (cntL ((sCircularOccurrences_m g r).getD []) : Nat))), (12, .int .i64 (r3))] ⟨rfl, rfl, rfl, rfl, rfl, rfl, rfl, trivial⟩ fun σ => ?_
      refine CW.seq (CW.seq (CW.reg ?_))
      refine WL.ev rfl rfl (Ev.mv rfl rfl) (WL.ev rfl rfl (Ev.bin rfl rfl rfl (Bin.no (by omega))) (WL.nil ?_))
      refine CW.condF rfl ?_
      refine CW.skip ?_
      refine CW.fresh [(2, .pointer (some ⟨b1, 0, none⟩)), (3, .pointer (some ⟨b2, 0, none⟩)), (4, .bool false), (6, v_1_4), (9, .slice A7 ((sCircularOccurrences_m g r).getD []).length c7), (11, .int .i64 (1 + (cntL ((sCircularOccurrences_m g r).getD []) : Nat))), (12, .int .i64 (r3))] ⟨rfl, rfl, rfl, rfl, rfl, rfl, rfl, trivial⟩ fun σ => ?_
      refine CW.seq (CW.seq (CW.reg ?_))
      refine WL.ev rfl rfl (Ev.mv rfl rfl) (WL.ev rfl rfl (Ev.mv rfl rfl) (WL.ev rfl rfl (Ev.bin rfl rfl rfl (Bin.neqSame (by omega))) (WL.nil ?_)))
      refine CW.condF rfl ?_
      refine CW.skip ?_
      refine CW.fresh [(2, .pointer (some ⟨b1, 0, none⟩)), (3, .pointer (some ⟨b2, 0, none⟩)), (4, .bool false), (6, v_1_4), (9, .slice A7 ((sCircularOccurrences_m g r).getD []).length c7), (11, .int .i64 (1 + (cntL ((sCircularOccurrences_m g r).getD []) : Nat))), (12, .int .i64 (r3))] ⟨rfl, rfl, rfl, rfl, rfl, rfl, rfl, trivial⟩ fun σ => ?_
      refine CW.seq (CW.anyE 5 (fun ρ => [.inl (.agg #[.slice A1 g.Symbols.length c1, .slice A2 g.Rules.length c2]), .inr (fun S v w => ∃ cs : List Value, v = .agg cs.toArray ∧ rd S w (g) cs), .inl (.agg #[.string (r.Name), .string (r.Left), .slice A3 r.Right.length c3, .bool (r.Literal), .slice A4 r.Equations.length c4, .slice A5 r.Contributions.length c5]), .inr (fun S v w => ∃ cs : List Value, v = .agg cs.toArray ∧ rd S w (r) cs), .inr (fun S v w => rdS S w ((sCircularOccurrences_m g r).getD []) v)]) hmix (by kernel_rfl) ⟨trivial, fun _ _ _ _ ⟨cs, e, h⟩ hE => ⟨cs, e, rd_ext h hE⟩, trivial, fun _ _ _ _ ⟨cs, e, h⟩ hE => ⟨cs, e, rd_ext h hE⟩, fun _ _ _ _ h hE => h.ext hE, trivial⟩ ?_)
      refine LL.fx rfl rfl rfl (fun _ hq hK => Ev.lda rfl ag41 sz41 rfl (At.blk (hT25.ext (hEw20.trans hq))) rfl) ?_
      refine LL.free rfl rfl (fun wq hq hK => ?_) (fun v_4_1 S_4_1 => ?_)
      · skip
        refine OpX.call rfl rfl rfl rfl ok22 rfl (toGrammar_spec _ g (rd_ext hK1 ((hX5.trans hEw20).trans hq)) (by omega)) ?_
        rintro v w' hE ⟨cs, rfl, h⟩
        exact ⟨hE, cs, rfl, New.rd h⟩
      refine LL.fx rfl rfl rfl (fun _ hq hK => Ev.lda rfl ag59 sz59 rfl (At.blk (hT26.ext (hEw20.trans hq))) rfl) ?_
      refine LL.free rfl rfl (fun wq hq hK => ?_) (fun v_4_3 S_4_3 => ?_)
      · skip
        refine OpX.call rfl rfl rfl rfl ok31 rfl (toRule_spec _ r (rd_ext hK2 ((hX5.trans hEw20).trans hq)) (by omega)) ?_
        rintro v w' hE ⟨cs, rfl, h⟩
        exact ⟨hE, cs, rfl, New.rd h⟩
      refine LL.free rfl rfl (fun wq hq hK => ?_) (fun v_4_4 S_4_4 => ?_)
      · skip
        obtain ⟨cs1, e1, hd1⟩ : ∃ cs : List Value, v_4_1 = .agg cs.toArray ∧ rd S_4_1 wq (g) cs := hK 1 rfl
        subst e1
        obtain ⟨cs3, e3, hd3⟩ : ∃ cs : List Value, v_4_3 = .agg cs.toArray ∧ rd S_4_3 wq (r) cs := hK 3 rfl
        subst e3
        refine OpX.call rfl rfl rfl rfl ok43 rfl (iCircularOccurrences_spec _ g hd1 (by omega) r hd3 (by omega)) ?_
        intro v w' hE h
        exact ⟨hE, NewS.rd h⟩
      intro w21 hEw21 hKr4 hap4 hbd4
      have hs_4_1 : ∀ q, S_4_1 q → w20.heap.size ≤ q ∧ q < w21.heap.size := fun q hq => hbd4 1 q hq
      have hs_4_3 : ∀ q, S_4_3 q → w20.heap.size ≤ q ∧ q < w21.heap.size := fun q hq => hbd4 3 q hq
      have hs_4_4 : ∀ q, S_4_4 q → w20.heap.size ≤ q ∧ q < w21.heap.size := fun q hq => hbd4 4 q hq
      have hd4_4 : rdS S_4_4 w21 ((sCircularOccurrences_m g r).getD []) v_4_4 := hKr4 4 (by decide)
      refine WL.ev rfl rfl (Ev.as rfl rfl) (WL.nil ?_)
      refine CW.fresh [(4, .bool false), (6, v_1_4), (9, .slice A7 ((sCircularOccurrences_m g r).getD []).length c7), (11, .int .i64 (1 + (cntL ((sCircularOccurrences_m g r).getD []) : Nat))), (12, .int .i64 (r3)), (13, v_4_4)] ⟨rfl, rfl, rfl, rfl, rfl, rfl, trivial⟩ fun σ => ?_
      refine CW.seq (CW.seq (CW.reg ?_))
      refine WL.ev rfl rfl (Ev.mv rfl rfl) (WL.ev rfl rfl (Ev.mv rfl rfl) ?_)
      refine WL.call rfl rfl rfl rfl rfl ok17 rfl ((eqOccurrenceS_spec _ ((sCircularOccurrences_m g r).getD []) ((sCircularOccurrences_m g r).getD []) hd4_4 (hT27.ext (hEw20.trans hEw21))).yes rfl) ?_
      rintro _ w22 hEw22 rfl
      refine WL.ev rfl rfl (Ev.not rfl rfl) (WL.nil ?_)
      refine CW.condF rfl ?_
      refine CW.skip ?_
      refine CW.fresh [(4, .bool false), (9, .slice A7 ((sCircularOccurrences_m g r).getD []).length c7), (11, .int .i64 (1 + (cntL ((sCircularOccurrences_m g r).getD []) : Nat))), (12, .int .i64 (r3))] ⟨rfl, rfl, rfl, rfl, trivial⟩ fun σ => ?_
      refine CW.seq (CW.reg ?_)
      refine WL.ev rfl rfl (Ev.as rfl rfl) (WL.nil ?_)
      refine CW.fresh [(4, .bool false), (9, .slice A7 ((sCircularOccurrences_m g r).getD []).length c7), (11, .int .i64 (1 + (cntL ((sCircularOccurrences_m g r).getD []) : Nat))), (12, .int .i64 (1))] ⟨rfl, rfl, rfl, rfl, trivial⟩ fun σ => ?_
      refine CW.seq (CW.reg ?_)
      refine WL.ev rfl rfl (Ev.mv rfl rfl) (WL.ev rfl rfl (Ev.mv rfl rfl) ?_)
      refine WL.call rfl rfl rfl rfl rfl ok36 rfl (heldOccurrenceS_spec _ (mkL ((sCircularOccurrences_m g r).getD []) 1) (hO_3.ext ((hEw20.trans hEw21).trans hEw22)).rd 1 (by omega) (by rw [cntL_mkL]; have := cnt_circular g r (by omega) (by omega); omega)) ?_
      rintro _ w23 hEw23 ⟨r4, rfl, hr6⟩
      rw [hdL_mkL] at hr6
      have := hr6.is
      refine WL.ev rfl rfl (Ev.as rfl rfl) (WL.nil ?_)
      refine CW.fresh [(4, .bool false), (11, .int .i64 (1 + (cntL ((sCircularOccurrences_m g r).getD []) : Nat))), (12, .int .i64 (r4))] ⟨rfl, rfl, rfl, trivial⟩ fun σ => ?_
      refine CW.seq (CW.seq (CW.reg ?_))
      refine WL.ev rfl rfl (Ev.mv rfl rfl) (WL.ev rfl rfl (Ev.bin rfl rfl rfl (Bin.no (by omega))) (WL.nil ?_))
      refine CW.condF rfl ?_
      refine CW.skip ?_
      refine CW.fresh [(4, .bool false), (11, .int .i64 (1 + (cntL ((sCircularOccurrences_m g r).getD []) : Nat))), (12, .int .i64 (r4))] ⟨rfl, rfl, rfl, trivial⟩ fun σ => ?_
      refine CW.seq (CW.seq (CW.reg ?_))
      refine WL.ev rfl rfl (Ev.mv rfl rfl) (WL.ev rfl rfl (Ev.mv rfl rfl) (WL.ev rfl rfl (Ev.bin rfl rfl rfl (Bin.neqSame (by omega))) (WL.nil ?_)))
      refine CW.condF rfl ?_
      refine CW.skip ?_
      refine CW.fresh [(4, .bool false)] ⟨rfl, trivial⟩ fun σ => ?_
      refine CW.seq (CW.reg ?_)
      refine WL.ev rfl rfl (Ev.as rfl rfl) (WL.nil ?_)
      refine CW.ret ?_
      exact ⟨_, res1 rfl rfl rfl, ((((hX5.trans hEw20).trans hEw21).trans hEw22).trans hEw23), rfl⟩

section
open Go.ChangeShapes Go.WideShapes Go.ChangeAt Go.RowKit
theorem own_knob : ownKnob Try.prog.godebug = none := by kernel_rfl
theorem laid_out : laidOutB Try.prog = true := by kernel_rfl
set_option maxRecDepth 100000 in
theorem fnExactCircularOccurrences_lifted (os : Os) (started : os.Started) (H : Type) (enc : TypeId × Value → H) :
    ReturnsInHanded {} Try.checked os 8 .any (Rows.fnExactCircularOccurrencesSpec.pre6 enc Try.prog Try.f8 Rows.fnExactCircularOccurrencesRow.domain false) (Rows.fnExactCircularOccurrencesSpec.post enc Try.prog Try.f8 false true false false) := by
  refine returnsInHanded_of_change (C := Try.checked) own_knob started (by kernel_rfl) Try.func8
    (ChangeSpec.witness6 (enc := enc) (C := Try.checked) false ⟨#[], #[.agg #[.slice none 0 0, .slice none 0 0], .agg #[.string ⟨#[]⟩, .string ⟨#[]⟩, .slice none 0 0, .bool false, .slice none 0 0, .slice none 0 0]], []⟩ 8 (by kernel_rfl) (by kernel_rfl) (by kernel_rfl) (by kernel_rfl)) ?_
  intro W base args ds gs before hval0 hW hcnd _
  have hval : ∀ (j : Nat) t v, Try.f8.params[j]? = some t → args[j]? = some v → Value.okWide Try.prog W .any base t v := hval0
  have hW' := hW
  obtain ⟨p, q, hA0, hV, rfl, hfz, hnd⟩ := hW
  have hA : DataW.TrodAll enc Try.prog W 0 (fun _ => true) true Try.f8.params.toList args.toList ds p := hA0
  rw [Try.params8] at hA hval
  obtain ⟨v0, vs0, d0, ds0, p0, q0, hargs, rfl, rfl, t0, r0⟩ := trodAll_cons hA
  obtain ⟨v1, vs1, d1, ds1, p1, q1, rfl, rfl, rfl, t1, r1⟩ := trodAll_cons r0
  obtain ⟨rfl, rfl, rfl⟩ := trodAll_nil r1
  obtain rfl : args = #[v0, v1] := by cases args; simp_all
  obtain ⟨rfl, rfl⟩ := trodVars_none hV
  have k0 := t0
  have lt0 : ∀ x ∈ p0, x.block < W.heap.size := by obtain ⟨m, hm⟩ := k0; exact DataW.trod_lt m _ _ _ hm
  obtain ⟨m0, hm0⟩ := t0
  obtain ⟨a0, ha0⟩ := open41.2 _ _ _ _ _ _ _ _ _ hm0
  obtain ⟨⟨c0⟩, rfl, _⟩ := okWide_struct Try.underlying41 (hval 0 41 v0 rfl rfl)
  have k1 := t1
  have lt1 : ∀ x ∈ p1, x.block < W.heap.size := by obtain ⟨m, hm⟩ := k1; exact DataW.trod_lt m _ _ _ hm
  obtain ⟨m1, hm1⟩ := t1
  obtain ⟨a1, ha1⟩ := open59.2 _ _ _ _ _ _ _ _ _ hm1
  obtain ⟨⟨c1⟩, rfl, _⟩ := okWide_struct Try.underlying59 (hval 1 59 v1 rfl rfl)
  clear hA0 hval0
  refine Calls.mono (FnExactCircularOccurrences_law W a0 ha0 a1 ha1) fun e W' ⟨v, he, hch, hv⟩ => ?_
  subst he; subst hv
  have bel := Ext.below hch
  exact ⟨_, rfl, _, _, _, [], _, [], hW', trodAll_mk1 (shut_bool Try.underlying4 _), (trodAll_cons_mk (Below.trod laid_out (by kernel_rfl) (of_decide_eq_true (by kernel_rfl)) k0 bel lt0) (trodAll_cons_mk (Below.trod laid_out (by kernel_rfl) (of_decide_eq_true (by kernel_rfl)) k1 bel lt1) trodAll_mk0)), rfl, bel.frame _, fun h => by cases h⟩
theorem fnExactCircularOccurrences_holds : Rows.FnExactCircularOccurrencesSaid :=
  OpenClaim.holds_of_wide 8 Try.f8 rfl rfl rfl rfl rfl rfl rfl ⟨rfl, rfl, rfl, rfl, rfl⟩ rfl rfl rfl rfl rfl (by kernel_rfl) Try.func8 (by kernel_rfl)
    (of_decide_eq_true (by kernel_rfl)) (by unfold Func.isWrapper; first | (rw [if_pos (by decide +kernel)]; kernel_rfl) | (rw [if_neg (by decide +kernel)]; exact ⟨rfl, rfl⟩))
    (fun os started H enc _ => fnExactCircularOccurrences_lifted os started H enc)
end
end Go.Proofs.Ytfnnadlahlkkoaa
