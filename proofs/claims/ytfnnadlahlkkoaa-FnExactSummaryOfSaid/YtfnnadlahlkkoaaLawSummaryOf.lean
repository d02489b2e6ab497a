/- The law FnExactSummaryOf returns true for all arguments and leaves them as they were; there is no condition. -/
import Derived.Test.YtfnnadlahlkkoaaRows
import Derived.Test.YtfnnadlahlkkoaaMathM4
import Derived.Test.YtfnnadlahlkkoaaHelpb
set_option linter.unusedVariables false
set_option linter.unusedSimpArgs false
set_option linter.ambiguousOpen false
set_option linter.unusedSectionVars false
set_option linter.unnecessarySimpa false
set_option linter.unusedVariables false
set_option linter.unusedSimpArgs false
set_option maxRecDepth 100000
set_option maxHeartbeats 1000000
namespace Go.Proofs.Ytfnnadlahlkkoaa
open Go Go.E
open Go.E.Rep (rd)
open Go.E.Sep (own)
theorem ag41 : aggT Try.prog 41 = some true := by kernel_rfl
theorem ag77 : aggT Try.prog 77 = some true := by kernel_rfl
theorem sz41 : szT Try.prog 41 = some 2 := by kernel_rfl
theorem sz77 : szT Try.prog 77 = some 2 := by kernel_rfl
theorem ok20 : callable Try.prog 20 = true := by kernel_rfl
theorem ok22 : callable Try.prog 22 = true := by kernel_rfl
theorem ok25 : callable Try.prog 25 = true := by kernel_rfl
theorem ok26 : callable Try.prog 26 = true := by kernel_rfl
theorem ok34 : callable Try.prog 34 = true := by kernel_rfl
theorem ok44 : callable Try.prog 44 = true := by kernel_rfl
theorem ok45 : callable Try.prog 45 = true := by kernel_rfl
theorem ok46 : callable Try.prog 46 = true := by kernel_rfl
theorem ok47 : callable Try.prog 47 = true := by kernel_rfl
theorem ok48 : callable Try.prog 48 = true := by kernel_rfl
theorem ok49 : callable Try.prog 49 = true := by kernel_rfl
theorem ok50 : callable Try.prog 50 = true := by kernel_rfl
theorem sSummaryOf_spec (w : World) {S1 : Nat → Prop} {S2 : Nat → Prop} {S3 : Nat → Prop} (g : Grammar) {cg : List Value} (hg : rd S1 w g cg) (bg : Sz.szd g ≤ 1048576) (r : Rule) {cr : List Value} (hr : rd S2 w r cr) (br : Sz.szd r ≤ 1048576) (c : Relation) {cc : List Value} (hc : rd S3 w c cc) (bc : Sz.szd c ≤ 1048576) :
    Ret Try.prog 45 #[.agg cg.toArray, .agg cr.toArray, .agg cc.toArray] w (fun _ => False) fun v w' => ∃ cs, v = .agg cs.toArray ∧ New w w' ((sSummaryOf_m g r c).getD ⟨0, []⟩) cs := by
  obtain ⟨x, h1, h2, _⟩ := summary_both (c := c) (syms_le bg) (right_le br)
  have hx : (sSummaryOf_m g r c).getD ⟨0, []⟩ = x := by rw [h1]; rfl
  rw [hx]
  refine (sSummaryOf_ok h1 (F0 := fun _ => True) (Rep.mono hg fun _ _ => trivial) (Rep.mono hr fun _ _ => trivial) (Rep.mono hc fun _ _ => trivial)).mono fun v w' _ ⟨A, n, c, hv, hI, H⟩ => ?_
  obtain ⟨L, h1, h2, h3⟩ := NewS.of H
  exact ⟨_, hv, L, ⟨_, L, rfl, hI, rfl, h1⟩, h2, h3⟩

theorem iSummaryOf_spec (w : World) {S1 : Nat → Prop} {S2 : Nat → Prop} {S3 : Nat → Prop} (g : Grammar) {cg : List Value} (hg : rd S1 w g cg) (bg : Sz.szd g ≤ 1048576) (r : Rule) {cr : List Value} (hr : rd S2 w r cr) (br : Sz.szd r ≤ 1048576) (c : Relation) {cc : List Value} (hc : rd S3 w c cc) (bc : Sz.szd c ≤ 1048576) :
    Ret Try.prog 47 #[.agg cg.toArray, .agg cr.toArray, .agg cc.toArray] w (fun _ => False) fun v w' => ∃ cs, v = .agg cs.toArray ∧ New w w' ((sSummaryOf_m g r c).getD ⟨0, []⟩) cs := by
  obtain ⟨x, h1, h2, _⟩ := summary_both (c := c) (syms_le bg) (right_le br)
  have hx : (sSummaryOf_m g r c).getD ⟨0, []⟩ = x := by rw [h1]; rfl
  rw [hx]
  refine (iSummaryOf_ok h2 (F0 := fun _ => True) (Rep.mono hg fun _ _ => trivial) (Rep.mono hr fun _ _ => trivial) (Rep.mono hc fun _ _ => trivial)).mono fun v w' _ ⟨A, n, c, hv, hI, H⟩ => ?_
  obtain ⟨L, h1, h2, h3⟩ := NewS.of H
  exact ⟨_, hv, L, ⟨_, L, rfl, hI, rfl, h1⟩, h2, h3⟩

theorem FnExactSummaryOf_law (w : World) {Sg : Nat → Prop} (g : Grammar) {cg : List Value} (hg : rd Sg w g cg) {Sr : Nat → Prop} (r : Rule) {cr : List Value} (hr : rd Sr w r cr) {Sc : Nat → Prop} (c : Relation) {cc : List Value} (hc : rd Sc w c cc) :
    Ret Try.prog 9 #[.agg cg.toArray, .agg cr.toArray, .agg cc.toArray] w (fun _ => False) fun v _ => v = .bool true := by
  refine enter Try.func9 rfl rfl rfl ?_
  have hK1 := hg
  obtain ⟨v1, v2, rfl, hs1, hs2⟩ := hg
  obtain ⟨A1, c1, rfl, hc1, hm1⟩ := hs1.form
  obtain ⟨A2, c2, rfl, hc2, hm2⟩ := hs2.form
  have qg := Grammar_szd g
  have hK2 := hr
  obtain ⟨v3, v4, v5, rfl, hr1, hr2, hs3, hs4, hs5⟩ := hr
  obtain ⟨A3, c3, rfl, hc3, hm3⟩ := hs3.form
  obtain ⟨A4, c4, rfl, hc4, hm4⟩ := hs4.form
  obtain ⟨A5, c5, rfl, hc5, hm5⟩ := hs5.form
  have qr := Rule_szd r
  have hK3 := hc
  obtain ⟨v6, rfl, hr3, hs6⟩ := hc
  obtain ⟨A6, c6, rfl, hc6, hm6⟩ := hs6.form
  have qc := Relation_szd c
  refine CW.seq (CW.reg ?_)
  refine WL.box rfl rfl rfl rfl rfl fun b1 w1 hEb1 hbb1 hBb1 => ?_
  refine WL.box rfl rfl rfl rfl rfl fun b2 w2 hEb2 hbb2 hBb2 => ?_
  refine WL.box rfl rfl rfl rfl rfl fun b3 w3 hEb3 hbb3 hBb3 => ?_
  refine WL.ev rfl rfl (Ev.as rfl rfl) (WL.nil ?_)
  refine CW.seq (CW.reg ?_)
  refine WL.ev rfl rfl (Ev.as rfl rfl) (WL.nil ?_)
  refine CW.seq (CW.reg ?_)
  refine WL.ev rfl rfl (Ev.lda rfl ag41 sz41 rfl (At.blk (hBb1.ext (hEb2.trans hEb3))) rfl) (WL.ev rfl rfl (Ev.mv rfl rfl) ?_)
  refine WL.call rfl rfl rfl rfl rfl ok20 rfl (szGrammar_spec _ g (rd_ext hK1 ((hEb1.trans hEb2).trans hEb3)) _ (by omega) (by omega)) ?_
  rintro _ w4 hEw4 ⟨r1, rfl, hr4⟩
  have hq1 := Grammar_szd g
  refine WL.ev rfl rfl (Ev.as rfl rfl) (WL.nil ?_)
  refine CW.fresh [(3, .pointer (some ⟨b1, 0, none⟩)), (4, .pointer (some ⟨b2, 0, none⟩)), (5, .pointer (some ⟨b3, 0, none⟩)), (6, .bool false), (7, .int .i64 (r1))] ⟨rfl, rfl, rfl, rfl, rfl, trivial⟩ fun σ => ?_
  refine CW.seq (CW.seq (CW.reg ?_))
  refine WL.ev rfl rfl (Ev.mv rfl rfl) (WL.ev rfl rfl (Ev.bin rfl rfl rfl Bin.lss) (WL.nil ?_))
  refine CW.condD rfl (fun h1 => ?_) (fun h1 => ?_)
  · skip
    refine CW.fresh [(3, .pointer (some ⟨b1, 0, none⟩)), (4, .pointer (some ⟨b2, 0, none⟩)), (5, .pointer (some ⟨b3, 0, none⟩)), (6, .bool false), (7, .int .i64 (r1))] ⟨rfl, rfl, rfl, rfl, rfl, trivial⟩ fun σ => ?_
    refine CW.seq (CW.reg ?_)
    refine WL.ev rfl rfl (Ev.as rfl rfl) (WL.nil ?_)
    refine CW.ret ?_
    exact ⟨_, res1 rfl rfl rfl, (((hEb1.trans hEb2).trans hEb3).trans hEw4), rfl⟩
  · skip
    refine CW.skip ?_
    refine CW.fresh [(3, .pointer (some ⟨b1, 0, none⟩)), (4, .pointer (some ⟨b2, 0, none⟩)), (5, .pointer (some ⟨b3, 0, none⟩)), (6, .bool false), (7, .int .i64 (r1))] ⟨rfl, rfl, rfl, rfl, rfl, trivial⟩ fun σ => ?_
    refine CW.seq (CW.reg ?_)
    refine WL.ev rfl rfl (Ev.lda rfl ag59 sz59 rfl (At.blk (hBb2.ext (hEb3.trans hEw4))) rfl) (WL.ev rfl rfl (Ev.mv rfl rfl) ?_)
    refine WL.call rfl rfl rfl rfl rfl ok29 rfl (szRule_spec _ r (rd_ext hK2 (((hEb1.trans hEb2).trans hEb3).trans hEw4)) _ (by omega) (by omega)) ?_
    rintro _ w5 hEw5 ⟨r2, rfl, hr5⟩
    have hq2 := Rule_szd r
    refine WL.ev rfl rfl (Ev.as rfl rfl) (WL.nil ?_)
    refine CW.fresh [(3, .pointer (some ⟨b1, 0, none⟩)), (4, .pointer (some ⟨b2, 0, none⟩)), (5, .pointer (some ⟨b3, 0, none⟩)), (6, .bool false), (7, .int .i64 (r2))] ⟨rfl, rfl, rfl, rfl, rfl, trivial⟩ fun σ => ?_
    refine CW.seq (CW.seq (CW.reg ?_))
    refine WL.ev rfl rfl (Ev.mv rfl rfl) (WL.ev rfl rfl (Ev.bin rfl rfl rfl Bin.lss) (WL.nil ?_))
    refine CW.condD rfl (fun h2 => ?_) (fun h2 => ?_)
    · skip
      refine CW.fresh [(3, .pointer (some ⟨b1, 0, none⟩)), (4, .pointer (some ⟨b2, 0, none⟩)), (5, .pointer (some ⟨b3, 0, none⟩)), (6, .bool false), (7, .int .i64 (r2))] ⟨rfl, rfl, rfl, rfl, rfl, trivial⟩ fun σ => ?_
      refine CW.seq (CW.reg ?_)
      refine WL.ev rfl rfl (Ev.as rfl rfl) (WL.nil ?_)
      refine CW.ret ?_
      exact ⟨_, res1 rfl rfl rfl, ((((hEb1.trans hEb2).trans hEb3).trans hEw4).trans hEw5), rfl⟩
    · skip
      refine CW.skip ?_
      refine CW.fresh [(3, .pointer (some ⟨b1, 0, none⟩)), (4, .pointer (some ⟨b2, 0, none⟩)), (5, .pointer (some ⟨b3, 0, none⟩)), (6, .bool false), (7, .int .i64 (r2))] ⟨rfl, rfl, rfl, rfl, rfl, trivial⟩ fun σ => ?_
      refine CW.seq (CW.reg ?_)
      refine WL.ev rfl rfl (Ev.lda rfl ag77 sz77 rfl (At.blk (hBb3.ext (hEw4.trans hEw5))) rfl) (WL.ev rfl rfl (Ev.mv rfl rfl) ?_)
      refine WL.call rfl rfl rfl rfl rfl ok44 rfl (szRelation_spec _ c (rd_ext hK3 ((((hEb1.trans hEb2).trans hEb3).trans hEw4).trans hEw5)) _ (by omega) (by omega)) ?_
      rintro _ w6 hEw6 ⟨r3, rfl, hr6⟩
      have hq3 := Relation_szd c
      refine WL.ev rfl rfl (Ev.as rfl rfl) (WL.nil ?_)
      refine CW.fresh [(3, .pointer (some ⟨b1, 0, none⟩)), (4, .pointer (some ⟨b2, 0, none⟩)), (5, .pointer (some ⟨b3, 0, none⟩)), (6, .bool false), (7, .int .i64 (r3))] ⟨rfl, rfl, rfl, rfl, rfl, trivial⟩ fun σ => ?_
      refine CW.seq (CW.seq (CW.reg ?_))
      refine WL.ev rfl rfl (Ev.mv rfl rfl) (WL.ev rfl rfl (Ev.bin rfl rfl rfl Bin.lss) (WL.nil ?_))
      refine CW.condD rfl (fun h3 => ?_) (fun h3 => ?_)
      · skip
        refine CW.fresh [(3, .pointer (some ⟨b1, 0, none⟩)), (4, .pointer (some ⟨b2, 0, none⟩)), (5, .pointer (some ⟨b3, 0, none⟩)), (6, .bool false)] ⟨rfl, rfl, rfl, rfl, trivial⟩ fun σ => ?_
        refine CW.seq (CW.reg ?_)
        refine WL.ev rfl rfl (Ev.as rfl rfl) (WL.nil ?_)
        refine CW.ret ?_
        exact ⟨_, res1 rfl rfl rfl, (((((hEb1.trans hEb2).trans hEb3).trans hEw4).trans hEw5).trans hEw6), rfl⟩
      · skip
        refine CW.skip ?_
        refine CW.fresh [(3, .pointer (some ⟨b1, 0, none⟩)), (4, .pointer (some ⟨b2, 0, none⟩)), (5, .pointer (some ⟨b3, 0, none⟩)), (6, .bool false)] ⟨rfl, rfl, rfl, rfl, trivial⟩ fun σ => ?_
        refine CW.seq (CW.anyE 8 (fun ρ => [.inl (.agg #[.slice A1 g.Symbols.length c1, .slice A2 g.Rules.length c2]), .inr (fun S v w => ∃ cs : List Value, v = .agg cs.toArray ∧ rd S w (g) cs), .inl (.agg #[.string (r.Name), .string (r.Left), .slice A3 r.Right.length c3, .bool (r.Literal), .slice A4 r.Equations.length c4, .slice A5 r.Contributions.length c5]), .inr (fun S v w => ∃ cs : List Value, v = .agg cs.toArray ∧ rd S w (r) cs), .inl (.agg #[.int .i64 (c.N), .slice A6 c.Rows.length c6]), .inr (fun S v w => ∃ cs : List Value, v = .agg cs.toArray ∧ rd S w (c) cs), .inr (fun S v w => ∃ cs : List Value, v = .agg cs.toArray ∧ rd S w ((sSummaryOf_m g r c).getD ⟨0, []⟩) cs), .inr (fun S v w => ∃ b : Nat, v = .pointer (some ⟨b, 0, none⟩) ∧ S b ∧ Blk w b 79 [.int .i64 0, .slice none 0 0])]) hmix (by kernel_rfl) ⟨trivial, fun _ _ _ _ ⟨cs, e, h⟩ hE => ⟨cs, e, rd_ext h hE⟩, trivial, fun _ _ _ _ ⟨cs, e, h⟩ hE => ⟨cs, e, rd_ext h hE⟩, trivial, fun _ _ _ _ ⟨cs, e, h⟩ hE => ⟨cs, e, rd_ext h hE⟩, fun _ _ _ _ ⟨cs, e, h⟩ hE => ⟨cs, e, rd_ext h hE⟩, fun _ _ _ _ ⟨b, e, hS, h⟩ hE => ⟨b, e, hS, h.ext hE⟩, trivial⟩ ?_)
        refine LL.fx rfl rfl rfl (fun _ hq hK => Ev.lda rfl ag41 sz41 rfl (At.blk (hBb1.ext (((((hEb2.trans hEb3).trans hEw4).trans hEw5).trans hEw6).trans hq))) rfl) ?_
        refine LL.free rfl rfl (fun wq hq hK => ?_) (fun v_1_1 S_1_1 => ?_)
        · skip
          refine OpX.call rfl rfl rfl rfl ok22 rfl (toGrammar_spec _ g (rd_ext hK1 ((((((hEb1.trans hEb2).trans hEb3).trans hEw4).trans hEw5).trans hEw6).trans hq)) (by omega)) ?_
          rintro v w' hE ⟨cs, rfl, h⟩
          exact ⟨hE, cs, rfl, New.rd h⟩
        refine LL.fx rfl rfl rfl (fun _ hq hK => Ev.lda rfl ag59 sz59 rfl (At.blk (hBb2.ext ((((hEb3.trans hEw4).trans hEw5).trans hEw6).trans hq))) rfl) ?_
        refine LL.free rfl rfl (fun wq hq hK => ?_) (fun v_1_3 S_1_3 => ?_)
        · skip
          refine OpX.call rfl rfl rfl rfl ok31 rfl (toRule_spec _ r (rd_ext hK2 ((((((hEb1.trans hEb2).trans hEb3).trans hEw4).trans hEw5).trans hEw6).trans hq)) (by omega)) ?_
          rintro v w' hE ⟨cs, rfl, h⟩
          exact ⟨hE, cs, rfl, New.rd h⟩
        refine LL.fx rfl rfl rfl (fun _ hq hK => Ev.lda rfl ag77 sz77 rfl (At.blk (hBb3.ext (((hEw4.trans hEw5).trans hEw6).trans hq))) rfl) ?_
        refine LL.free rfl rfl (fun wq hq hK => ?_) (fun v_1_5 S_1_5 => ?_)
        · skip
          refine OpX.call rfl rfl rfl rfl ok46 rfl (toRelation_spec _ c (rd_ext hK3 ((((((hEb1.trans hEb2).trans hEb3).trans hEw4).trans hEw5).trans hEw6).trans hq)) (by omega)) ?_
          rintro v w' hE ⟨cs, rfl, h⟩
          exact ⟨hE, cs, rfl, New.rd h⟩
        refine LL.free rfl rfl (fun wq hq hK => ?_) (fun v_1_6 S_1_6 => ?_)
        · skip
          obtain ⟨cs1, e1, hd1⟩ : ∃ cs : List Value, v_1_1 = .agg cs.toArray ∧ rd S_1_1 wq (g) cs := hK 1 rfl
          subst e1
          obtain ⟨cs3, e3, hd3⟩ : ∃ cs : List Value, v_1_3 = .agg cs.toArray ∧ rd S_1_3 wq (r) cs := hK 3 rfl
          subst e3
          obtain ⟨cs5, e5, hd5⟩ : ∃ cs : List Value, v_1_5 = .agg cs.toArray ∧ rd S_1_5 wq (c) cs := hK 5 rfl
          subst e5
          refine OpX.call rfl rfl rfl rfl ok45 rfl (sSummaryOf_spec _ g hd1 (by omega) r hd3 (by omega) c hd5 (by omega)) ?_
          rintro v w' hE ⟨cs, rfl, h⟩
          exact ⟨hE, cs, rfl, New.rd h⟩
        refine LL.free rfl rfl (fun wq hq hK => OpX.alloc rfl rfl ze79) (fun v_1_7 S_1_7 => ?_)
        intro w7 hEw7 hKr1 hap1 hbd1
        have hs_1_1 : ∀ q, S_1_1 q → w6.heap.size ≤ q ∧ q < w7.heap.size := fun q hq => hbd1 1 q hq
        have hs_1_3 : ∀ q, S_1_3 q → w6.heap.size ≤ q ∧ q < w7.heap.size := fun q hq => hbd1 3 q hq
        have hs_1_5 : ∀ q, S_1_5 q → w6.heap.size ≤ q ∧ q < w7.heap.size := fun q hq => hbd1 5 q hq
        have hs_1_6 : ∀ q, S_1_6 q → w6.heap.size ≤ q ∧ q < w7.heap.size := fun q hq => hbd1 6 q hq
        obtain ⟨cs1_6, e1_6, hd1_6⟩ : ∃ cs : List Value, v_1_6 = .agg cs.toArray ∧ rd S_1_6 w7 ((sSummaryOf_m g r c).getD ⟨0, []⟩) cs := hKr1 6 (by decide)
        subst e1_6
        have hs_1_7 : ∀ q, S_1_7 q → w6.heap.size ≤ q ∧ q < w7.heap.size := fun q hq => hbd1 7 q hq
        obtain ⟨b1_7, e1_7, hS1_7, hB1_7⟩ : ∃ b : Nat, v_1_7 = .pointer (some ⟨b, 0, none⟩) ∧ S_1_7 b ∧ Blk w7 b 79 [.int .i64 0, .slice none 0 0] := hKr1 7 (by decide)
        subst e1_7
        refine WL.stW rfl rfl rfl sz79 rfl rfl rfl (Rep.len hd1_6) (Rep.one hd1_6) hB1_7 rfl fun w8 hCw8 hB_1 => ?_
        have hT1 := Blk.chg1 (hBb1.ext (((((hEb2.trans hEb3).trans hEw4).trans hEw5).trans hEw6).trans hEw7)) hCw8 (by have := hBb1.lt; have := (hs_1_7 _ hS1_7).1; have := hEb2.size; have := hEb3.size; have := hEw4.size; have := hEw5.size; have := hEw6.size; omega)
        have hT2 := Blk.chg1 (hBb2.ext ((((hEb3.trans hEw4).trans hEw5).trans hEw6).trans hEw7)) hCw8 (by have := hBb2.lt; have := (hs_1_7 _ hS1_7).1; have := hEb3.size; have := hEw4.size; have := hEw5.size; have := hEw6.size; omega)
        have hT3 := Blk.chg1 (hBb3.ext (((hEw4.trans hEw5).trans hEw6).trans hEw7)) hCw8 (by have := hBb3.lt; have := (hs_1_7 _ hS1_7).1; have := hEw4.size; have := hEw5.size; have := hEw6.size; omega)
        have hT4 := rd_chg1 hd1_6 hCw8 (fun q hq _ e => by subst e; exact absurd (hap1 7 6 _ hS1_7 hq) (by decide))
        have hX1 := Ext.chg1 ((((((hEb1.trans hEb2).trans hEb3).trans hEw4).trans hEw5).trans hEw6).trans hEw7) hCw8 (by have := (hs_1_7 _ hS1_7).1; have := hEb1.size; have := hEb2.size; have := hEb3.size; have := hEw4.size; have := hEw5.size; have := hEw6.size; omega)
        refine WL.nil ?_
        refine CW.fresh [(3, .pointer (some ⟨b1, 0, none⟩)), (4, .pointer (some ⟨b2, 0, none⟩)), (5, .pointer (some ⟨b3, 0, none⟩)), (6, .bool false), (8, .pointer (some ⟨b1_7, 0, none⟩))] ⟨rfl, rfl, rfl, rfl, rfl, trivial⟩ fun σ => ?_
        refine CW.seq (CW.reg ?_)
        refine WL.ev rfl rfl (Ev.lda rfl ag41 sz41 rfl (At.blk hT1) rfl) ?_
        refine WL.call rfl rfl rfl rfl rfl ok22 rfl (toGrammar_spec _ g (rd_ext hK1 hX1) (by omega)) ?_
        rintro _ w9 hEw9 ⟨cs5, rfl, L5, hO5, hN5, hF5⟩
        refine WL.alloc rfl rfl rfl ze48 fun b4 w10 hEb4 hbb4 hBb4 => ?_
        refine WL.stW rfl rfl rfl sz48 rfl rfl rfl (Rep.len (Sep.own_rd (own_ext hO5 hEb4))) (Rep.one (Sep.own_rd (own_ext hO5 hEb4))) hBb4 rfl fun w11 hCw11 hB_2 => ?_
        have hT5 := Blk.chg1 (hT1.ext (hEw9.trans hEb4)) hCw11 (by have := hBb1.lt; have := hbb4; have := hEb2.size; have := hEb3.size; have := hEw4.size; have := hEw5.size; have := hEw6.size; have := hEw7.size; have := hCw8.size; have := hEw9.size; omega)
        have hT6 := Blk.chg1 (hT2.ext (hEw9.trans hEb4)) hCw11 (by have := hBb2.lt; have := hbb4; have := hEb3.size; have := hEw4.size; have := hEw5.size; have := hEw6.size; have := hEw7.size; have := hCw8.size; have := hEw9.size; omega)
        have hT7 := Blk.chg1 (hT3.ext (hEw9.trans hEb4)) hCw11 (by have := hBb3.lt; have := hbb4; have := hEw4.size; have := hEw5.size; have := hEw6.size; have := hEw7.size; have := hCw8.size; have := hEw9.size; omega)
        have hT8 := rd_chg1 (rd_ext hT4 (hEw9.trans hEb4)) hCw11 (fun q hq _ e => by subst e; have := (hs_1_6 _ hq).2; have := hbb4; have := hCw8.size; have := hEw9.size; omega)
        have hT9 := Blk.chg1 (hB_1.ext (hEw9.trans hEb4)) hCw11 (by have := (hs_1_7 _ hS1_7).2; have := hbb4; have := hCw8.size; have := hEw9.size; omega)
        have hT10 := own_chg1 (own_ext hO5 hEb4) hCw11 (fun q hq e => by subst e; have := Sep.own_lt hO5 _ hq; have := hbb4; omega)
        have hX2 := Ext.chg1 ((hX1.trans hEw9).trans hEb4) hCw11 (by have := hbb4; have := hEb1.size; have := hEb2.size; have := hEb3.size; have := hEw4.size; have := hEw5.size; have := hEw6.size; have := hEw7.size; have := hCw8.size; have := hEw9.size; omega)
        refine WL.nil ?_
        refine CW.fresh [(3, .pointer (some ⟨b1, 0, none⟩)), (4, .pointer (some ⟨b2, 0, none⟩)), (5, .pointer (some ⟨b3, 0, none⟩)), (6, .bool false), (8, .pointer (some ⟨b1_7, 0, none⟩)), (9, .pointer (some ⟨b4, 0, none⟩))] ⟨rfl, rfl, rfl, rfl, rfl, rfl, trivial⟩ fun σ => ?_
        refine CW.seq (CW.reg ?_)
        refine WL.ev rfl rfl (Ev.lda rfl ag59 sz59 rfl (At.blk hT6) rfl) ?_
        refine WL.call rfl rfl rfl rfl rfl ok31 rfl (toRule_spec _ r (rd_ext hK2 hX2) (by omega)) ?_
        rintro _ w12 hEw12 ⟨cs6, rfl, L6, hO6, hN6, hF6⟩
        refine WL.alloc rfl rfl rfl ze65 fun b5 w13 hEb5 hbb5 hBb5 => ?_
        refine WL.stW rfl rfl rfl sz65 rfl rfl rfl (Rep.len (Sep.own_rd (own_ext hO6 hEb5))) (Rep.one (Sep.own_rd (own_ext hO6 hEb5))) hBb5 rfl fun w14 hCw14 hB_3 => ?_
        have hT11 := Blk.chg1 (hT5.ext (hEw12.trans hEb5)) hCw14 (by have := hBb1.lt; have := hbb5; have := hEb2.size; have := hEb3.size; have := hEw4.size; have := hEw5.size; have := hEw6.size; have := hEw7.size; have := hCw8.size; have := hEw9.size; have := hEb4.size; have := hCw11.size; have := hEw12.size; omega)
        have hT12 := Blk.chg1 (hT6.ext (hEw12.trans hEb5)) hCw14 (by have := hBb2.lt; have := hbb5; have := hEb3.size; have := hEw4.size; have := hEw5.size; have := hEw6.size; have := hEw7.size; have := hCw8.size; have := hEw9.size; have := hEb4.size; have := hCw11.size; have := hEw12.size; omega)
        have hT13 := Blk.chg1 (hT7.ext (hEw12.trans hEb5)) hCw14 (by have := hBb3.lt; have := hbb5; have := hEw4.size; have := hEw5.size; have := hEw6.size; have := hEw7.size; have := hCw8.size; have := hEw9.size; have := hEb4.size; have := hCw11.size; have := hEw12.size; omega)
        have hT14 := rd_chg1 (rd_ext hT8 (hEw12.trans hEb5)) hCw14 (fun q hq _ e => by subst e; have := (hs_1_6 _ hq).2; have := hbb5; have := hCw8.size; have := hEw9.size; have := hEb4.size; have := hCw11.size; have := hEw12.size; omega)
        have hT15 := Blk.chg1 (hT9.ext (hEw12.trans hEb5)) hCw14 (by have := (hs_1_7 _ hS1_7).2; have := hbb5; have := hCw8.size; have := hEw9.size; have := hEb4.size; have := hCw11.size; have := hEw12.size; omega)
        have hT16 := own_chg1 (own_ext hT10 (hEw12.trans hEb5)) hCw14 (fun q hq e => by subst e; have := Sep.own_lt hO5 _ hq; have := hbb5; have := hEb4.size; have := hCw11.size; have := hEw12.size; omega)
        have hT17 := Blk.chg1 (hB_2.ext (hEw12.trans hEb5)) hCw14 (by have := hBb4.lt; have := hbb5; have := hCw11.size; have := hEw12.size; omega)
        have hT18 := own_chg1 (own_ext hO6 hEb5) hCw14 (fun q hq e => by subst e; have := Sep.own_lt hO6 _ hq; have := hbb5; omega)
        have hX3 := Ext.chg1 ((hX2.trans hEw12).trans hEb5) hCw14 (by have := hbb5; have := hEb1.size; have := hEb2.size; have := hEb3.size; have := hEw4.size; have := hEw5.size; have := hEw6.size; have := hEw7.size; have := hCw8.size; have := hEw9.size; have := hEb4.size; have := hCw11.size; have := hEw12.size; omega)
        refine WL.nil ?_
        refine CW.fresh [(3, .pointer (some ⟨b1, 0, none⟩)), (4, .pointer (some ⟨b2, 0, none⟩)), (5, .pointer (some ⟨b3, 0, none⟩)), (6, .bool false), (8, .pointer (some ⟨b1_7, 0, none⟩)), (9, .pointer (some ⟨b4, 0, none⟩)), (10, .pointer (some ⟨b5, 0, none⟩))] ⟨rfl, rfl, rfl, rfl, rfl, rfl, rfl, trivial⟩ fun σ => ?_
        refine CW.seq (CW.reg ?_)
        refine WL.ev rfl rfl (Ev.lda rfl ag77 sz77 rfl (At.blk hT13) rfl) ?_
        refine WL.call rfl rfl rfl rfl rfl ok46 rfl (toRelation_spec _ c (rd_ext hK3 hX3) (by omega)) ?_
        rintro _ w15 hEw15 ⟨cs7, rfl, L7, hO7, hN7, hF7⟩
        refine WL.alloc rfl rfl rfl ze79 fun b6 w16 hEb6 hbb6 hBb6 => ?_
        refine WL.stW rfl rfl rfl sz79 rfl rfl rfl (Rep.len (Sep.own_rd (own_ext hO7 hEb6))) (Rep.one (Sep.own_rd (own_ext hO7 hEb6))) hBb6 rfl fun w17 hCw17 hB_4 => ?_
        have hT19 := Blk.chg1 (hT11.ext (hEw15.trans hEb6)) hCw17 (by have := hBb1.lt; have := hbb6; have := hEb2.size; have := hEb3.size; have := hEw4.size; have := hEw5.size; have := hEw6.size; have := hEw7.size; have := hCw8.size; have := hEw9.size; have := hEb4.size; have := hCw11.size; have := hEw12.size; have := hEb5.size; have := hCw14.size; have := hEw15.size; omega)
        have hT20 := Blk.chg1 (hT12.ext (hEw15.trans hEb6)) hCw17 (by have := hBb2.lt; have := hbb6; have := hEb3.size; have := hEw4.size; have := hEw5.size; have := hEw6.size; have := hEw7.size; have := hCw8.size; have := hEw9.size; have := hEb4.size; have := hCw11.size; have := hEw12.size; have := hEb5.size; have := hCw14.size; have := hEw15.size; omega)
        have hT21 := Blk.chg1 (hT13.ext (hEw15.trans hEb6)) hCw17 (by have := hBb3.lt; have := hbb6; have := hEw4.size; have := hEw5.size; have := hEw6.size; have := hEw7.size; have := hCw8.size; have := hEw9.size; have := hEb4.size; have := hCw11.size; have := hEw12.size; have := hEb5.size; have := hCw14.size; have := hEw15.size; omega)
        have hT22 := rd_chg1 (rd_ext hT14 (hEw15.trans hEb6)) hCw17 (fun q hq _ e => by subst e; have := (hs_1_6 _ hq).2; have := hbb6; have := hCw8.size; have := hEw9.size; have := hEb4.size; have := hCw11.size; have := hEw12.size; have := hEb5.size; have := hCw14.size; have := hEw15.size; omega)
        have hT23 := Blk.chg1 (hT15.ext (hEw15.trans hEb6)) hCw17 (by have := (hs_1_7 _ hS1_7).2; have := hbb6; have := hCw8.size; have := hEw9.size; have := hEb4.size; have := hCw11.size; have := hEw12.size; have := hEb5.size; have := hCw14.size; have := hEw15.size; omega)
        have hT24 := own_chg1 (own_ext hT16 (hEw15.trans hEb6)) hCw17 (fun q hq e => by subst e; have := Sep.own_lt hO5 _ hq; have := hbb6; have := hEb4.size; have := hCw11.size; have := hEw12.size; have := hEb5.size; have := hCw14.size; have := hEw15.size; omega)
        have hT25 := Blk.chg1 (hT17.ext (hEw15.trans hEb6)) hCw17 (by have := hBb4.lt; have := hbb6; have := hCw11.size; have := hEw12.size; have := hEb5.size; have := hCw14.size; have := hEw15.size; omega)
        have hT26 := own_chg1 (own_ext hT18 (hEw15.trans hEb6)) hCw17 (fun q hq e => by subst e; have := Sep.own_lt hO6 _ hq; have := hbb6; have := hEb5.size; have := hCw14.size; have := hEw15.size; omega)
        have hT27 := Blk.chg1 (hB_3.ext (hEw15.trans hEb6)) hCw17 (by have := hBb5.lt; have := hbb6; have := hCw14.size; have := hEw15.size; omega)
        have hT28 := own_chg1 (own_ext hO7 hEb6) hCw17 (fun q hq e => by subst e; have := Sep.own_lt hO7 _ hq; have := hbb6; omega)
        have hX4 := Ext.chg1 ((hX3.trans hEw15).trans hEb6) hCw17 (by have := hbb6; have := hEb1.size; have := hEb2.size; have := hEb3.size; have := hEw4.size; have := hEw5.size; have := hEw6.size; have := hEw7.size; have := hCw8.size; have := hEw9.size; have := hEb4.size; have := hCw11.size; have := hEw12.size; have := hEb5.size; have := hCw14.size; have := hEw15.size; omega)
        refine WL.nil ?_
        refine CW.fresh [(3, .pointer (some ⟨b1, 0, none⟩)), (4, .pointer (some ⟨b2, 0, none⟩)), (5, .pointer (some ⟨b3, 0, none⟩)), (6, .bool false), (8, .pointer (some ⟨b1_7, 0, none⟩)), (9, .pointer (some ⟨b4, 0, none⟩)), (10, .pointer (some ⟨b5, 0, none⟩)), (11, .pointer (some ⟨b6, 0, none⟩))] ⟨rfl, rfl, rfl, rfl, rfl, rfl, rfl, rfl, trivial⟩ fun σ => ?_
        refine CW.seq (CW.reg ?_)
        refine WL.ev rfl rfl (Ev.lda rfl ag48 sz48 rfl (At.blk hT25) (Rep.len (Sep.own_rd hT24))) (WL.ev rfl rfl (Ev.lda rfl ag65 sz65 rfl (At.blk hT27) (Rep.len (Sep.own_rd hT26))) (WL.ev rfl rfl (Ev.lda rfl ag79 sz79 rfl (At.blk hB_4) (Rep.len (Sep.own_rd hT28))) ?_))
        refine WL.call rfl rfl rfl rfl rfl ok47 rfl (iSummaryOf_spec _ g (Sep.own_rd hT24) (by omega) r (Sep.own_rd hT26) (by omega) c (Sep.own_rd hT28) (by omega)) ?_
        rintro _ w18 hEw18 ⟨cs8, rfl, L8, hO8, hN8, hF8⟩
        refine WL.alloc rfl rfl rfl ze79 fun b7 w19 hEb7 hbb7 hBb7 => ?_
        refine WL.stW rfl rfl rfl sz79 rfl rfl rfl (Rep.len (Sep.own_rd (own_ext hO8 hEb7))) (Rep.one (Sep.own_rd (own_ext hO8 hEb7))) hBb7 rfl fun w20 hCw20 hB_5 => ?_
        have hT29 := Blk.chg1 (hT19.ext (hEw18.trans hEb7)) hCw20 (by have := hBb1.lt; have := hbb7; have := hEb2.size; have := hEb3.size; have := hEw4.size; have := hEw5.size; have := hEw6.size; have := hEw7.size; have := hCw8.size; have := hEw9.size; have := hEb4.size; have := hCw11.size; have := hEw12.size; have := hEb5.size; have := hCw14.size; have := hEw15.size; have := hEb6.size; have := hCw17.size; have := hEw18.size; omega)
        have hT30 := Blk.chg1 (hT20.ext (hEw18.trans hEb7)) hCw20 (by have := hBb2.lt; have := hbb7; have := hEb3.size; have := hEw4.size; have := hEw5.size; have := hEw6.size; have := hEw7.size; have := hCw8.size; have := hEw9.size; have := hEb4.size; have := hCw11.size; have := hEw12.size; have := hEb5.size; have := hCw14.size; have := hEw15.size; have := hEb6.size; have := hCw17.size; have := hEw18.size; omega)
        have hT31 := Blk.chg1 (hT21.ext (hEw18.trans hEb7)) hCw20 (by have := hBb3.lt; have := hbb7; have := hEw4.size; have := hEw5.size; have := hEw6.size; have := hEw7.size; have := hCw8.size; have := hEw9.size; have := hEb4.size; have := hCw11.size; have := hEw12.size; have := hEb5.size; have := hCw14.size; have := hEw15.size; have := hEb6.size; have := hCw17.size; have := hEw18.size; omega)
        have hT32 := rd_chg1 (rd_ext hT22 (hEw18.trans hEb7)) hCw20 (fun q hq _ e => by subst e; have := (hs_1_6 _ hq).2; have := hbb7; have := hCw8.size; have := hEw9.size; have := hEb4.size; have := hCw11.size; have := hEw12.size; have := hEb5.size; have := hCw14.size; have := hEw15.size; have := hEb6.size; have := hCw17.size; have := hEw18.size; omega)
        have hT33 := Blk.chg1 (hT23.ext (hEw18.trans hEb7)) hCw20 (by have := (hs_1_7 _ hS1_7).2; have := hbb7; have := hCw8.size; have := hEw9.size; have := hEb4.size; have := hCw11.size; have := hEw12.size; have := hEb5.size; have := hCw14.size; have := hEw15.size; have := hEb6.size; have := hCw17.size; have := hEw18.size; omega)
        have hT34 := own_chg1 (own_ext hT24 (hEw18.trans hEb7)) hCw20 (fun q hq e => by subst e; have := Sep.own_lt hO5 _ hq; have := hbb7; have := hEb4.size; have := hCw11.size; have := hEw12.size; have := hEb5.size; have := hCw14.size; have := hEw15.size; have := hEb6.size; have := hCw17.size; have := hEw18.size; omega)
        have hT35 := Blk.chg1 (hT25.ext (hEw18.trans hEb7)) hCw20 (by have := hBb4.lt; have := hbb7; have := hCw11.size; have := hEw12.size; have := hEb5.size; have := hCw14.size; have := hEw15.size; have := hEb6.size; have := hCw17.size; have := hEw18.size; omega)
        have hT36 := own_chg1 (own_ext hT26 (hEw18.trans hEb7)) hCw20 (fun q hq e => by subst e; have := Sep.own_lt hO6 _ hq; have := hbb7; have := hEb5.size; have := hCw14.size; have := hEw15.size; have := hEb6.size; have := hCw17.size; have := hEw18.size; omega)
        have hT37 := Blk.chg1 (hT27.ext (hEw18.trans hEb7)) hCw20 (by have := hBb5.lt; have := hbb7; have := hCw14.size; have := hEw15.size; have := hEb6.size; have := hCw17.size; have := hEw18.size; omega)
        have hT38 := own_chg1 (own_ext hT28 (hEw18.trans hEb7)) hCw20 (fun q hq e => by subst e; have := Sep.own_lt hO7 _ hq; have := hbb7; have := hEb6.size; have := hCw17.size; have := hEw18.size; omega)
        have hT39 := Blk.chg1 (hB_4.ext (hEw18.trans hEb7)) hCw20 (by have := hBb6.lt; have := hbb7; have := hCw17.size; have := hEw18.size; omega)
        have hT40 := own_chg1 (own_ext hO8 hEb7) hCw20 (fun q hq e => by subst e; have := Sep.own_lt hO8 _ hq; have := hbb7; omega)
        have hX5 := Ext.chg1 ((hX4.trans hEw18).trans hEb7) hCw20 (by have := hbb7; have := hEb1.size; have := hEb2.size; have := hEb3.size; have := hEw4.size; have := hEw5.size; have := hEw6.size; have := hEw7.size; have := hCw8.size; have := hEw9.size; have := hEb4.size; have := hCw11.size; have := hEw12.size; have := hEb5.size; have := hCw14.size; have := hEw15.size; have := hEb6.size; have := hCw17.size; have := hEw18.size; omega)
        refine WL.nil ?_
        refine CW.fresh [(3, .pointer (some ⟨b1, 0, none⟩)), (4, .pointer (some ⟨b2, 0, none⟩)), (5, .pointer (some ⟨b3, 0, none⟩)), (6, .bool false), (8, .pointer (some ⟨b1_7, 0, none⟩)), (9, .pointer (some ⟨b4, 0, none⟩)), (10, .pointer (some ⟨b5, 0, none⟩)), (11, .pointer (some ⟨b6, 0, none⟩)), (12, .pointer (some ⟨b7, 0, none⟩))] ⟨rfl, rfl, rfl, rfl, rfl, rfl, rfl, rfl, rfl, trivial⟩ fun σ => ?_
        refine CW.seq (CW.seq (CW.reg ?_))
        refine WL.ev rfl rfl (Ev.lda rfl ag79 sz79 rfl (At.blk hB_5) (Rep.len (Sep.own_rd hT40))) (WL.ev rfl rfl (Ev.lda rfl ag79 sz79 rfl (At.blk hT33) (Rep.len hT32)) ?_)
        refine WL.call rfl rfl rfl rfl rfl ok48 rfl ((eqRelation_spec _ ((sSummaryOf_m g r c).getD ⟨0, []⟩) ((sSummaryOf_m g r c).getD ⟨0, []⟩) (Sep.own_rd hT40) hT32).yes rfl) ?_
        rintro _ w21 hEw21 rfl
        refine WL.ev rfl rfl (Ev.not rfl rfl) (WL.nil ?_)
        refine CW.condF rfl ?_
        refine CW.skip ?_
        refine CW.fresh [(3, .pointer (some ⟨b1, 0, none⟩)), (4, .pointer (some ⟨b2, 0, none⟩)), (5, .pointer (some ⟨b3, 0, none⟩)), (6, .bool false), (8, .pointer (some ⟨b1_7, 0, none⟩)), (9, .pointer (some ⟨b4, 0, none⟩)), (10, .pointer (some ⟨b5, 0, none⟩)), (11, .pointer (some ⟨b6, 0, none⟩)), (12, .pointer (some ⟨b7, 0, none⟩))] ⟨rfl, rfl, rfl, rfl, rfl, rfl, rfl, rfl, rfl, trivial⟩ fun σ => ?_
        refine CW.seq (CW.seq (CW.anyE 5 (fun ρ => [.inl (.agg cs5.toArray), .inl (.agg #[.slice A1 g.Symbols.length c1, .slice A2 g.Rules.length c2]), .inr (fun S v w => ∃ cs : List Value, v = .agg cs.toArray ∧ rd S w (g) cs), .inl (.bool true), .inl (.bool (!true))]) hmix (by kernel_rfl) ⟨trivial, trivial, fun _ _ _ _ ⟨cs, e, h⟩ hE => ⟨cs, e, rd_ext h hE⟩, trivial, trivial, trivial⟩ ?_))
        refine LL.fx rfl rfl rfl (fun _ hq hK => Ev.lda rfl ag48 sz48 rfl (At.blk (hT35.ext (hEw21.trans hq))) (Rep.len (Sep.own_rd (own_ext hT34 (hEw21.trans hq))))) ?_
        refine LL.fx rfl rfl rfl (fun _ hq hK => Ev.lda rfl ag41 sz41 rfl (At.blk (hT29.ext (hEw21.trans hq))) rfl) ?_
        refine LL.free rfl rfl (fun wq hq hK => ?_) (fun v_2_2 S_2_2 => ?_)
        · skip
          refine OpX.call rfl rfl rfl rfl ok22 rfl (toGrammar_spec _ g (rd_ext hK1 ((hX5.trans hEw21).trans hq)) (by omega)) ?_
          rintro v w' hE ⟨cs, rfl, h⟩
          exact ⟨hE, cs, rfl, New.rd h⟩
        refine LL.fixed rfl rfl (fun wq hq hK => ?_) ?_
        · skip
          obtain ⟨cs2, e2, hd2⟩ : ∃ cs : List Value, v_2_2 = .agg cs.toArray ∧ rd S_2_2 wq (g) cs := hK 2 rfl
          subst e2
          refine OpX.call rfl rfl rfl rfl ok25 rfl ((eqGrammar_spec _ g g (Sep.own_rd (own_ext hT34 (hEw21.trans hq))) hd2).yes rfl) ?_
          rintro v w' hE rfl
          exact ⟨hE, rfl⟩
        refine LL.fx rfl rfl rfl (fun _ hq hK => Ev.not rfl rfl) ?_
        intro w22 hEw22 hKr2 hap2 hbd2
        have hs_2_2 : ∀ q, S_2_2 q → w21.heap.size ≤ q ∧ q < w22.heap.size := fun q hq => hbd2 2 q hq
        refine WL.nil ?_
        refine CW.condF rfl ?_
        refine CW.skip ?_
        refine CW.fresh [(3, .pointer (some ⟨b1, 0, none⟩)), (4, .pointer (some ⟨b2, 0, none⟩)), (5, .pointer (some ⟨b3, 0, none⟩)), (6, .bool false), (8, .pointer (some ⟨b1_7, 0, none⟩)), (9, .pointer (some ⟨b4, 0, none⟩)), (10, .pointer (some ⟨b5, 0, none⟩)), (11, .pointer (some ⟨b6, 0, none⟩)), (12, .pointer (some ⟨b7, 0, none⟩))] ⟨rfl, rfl, rfl, rfl, rfl, rfl, rfl, rfl, rfl, trivial⟩ fun σ => ?_
        refine CW.seq (CW.seq (CW.anyE 5 (fun ρ => [.inl (.agg cs6.toArray), .inl (.agg #[.string (r.Name), .string (r.Left), .slice A3 r.Right.length c3, .bool (r.Literal), .slice A4 r.Equations.length c4, .slice A5 r.Contributions.length c5]), .inr (fun S v w => ∃ cs : List Value, v = .agg cs.toArray ∧ rd S w (r) cs), .inl (.bool true), .inl (.bool (!true))]) hmix (by kernel_rfl) ⟨trivial, trivial, fun _ _ _ _ ⟨cs, e, h⟩ hE => ⟨cs, e, rd_ext h hE⟩, trivial, trivial, trivial⟩ ?_))
        refine LL.fx rfl rfl rfl (fun _ hq hK => Ev.lda rfl ag65 sz65 rfl (At.blk (hT37.ext ((hEw21.trans hEw22).trans hq))) (Rep.len (Sep.own_rd (own_ext hT36 ((hEw21.trans hEw22).trans hq))))) ?_
        refine LL.fx rfl rfl rfl (fun _ hq hK => Ev.lda rfl ag59 sz59 rfl (At.blk (hT30.ext ((hEw21.trans hEw22).trans hq))) rfl) ?_
        refine LL.free rfl rfl (fun wq hq hK => ?_) (fun v_3_2 S_3_2 => ?_)
        · skip
          refine OpX.call rfl rfl rfl rfl ok31 rfl (toRule_spec _ r (rd_ext hK2 (((hX5.trans hEw21).trans hEw22).trans hq)) (by omega)) ?_
          rintro v w' hE ⟨cs, rfl, h⟩
          exact ⟨hE, cs, rfl, New.rd h⟩
        refine LL.fixed rfl rfl (fun wq hq hK => ?_) ?_
        · skip
          obtain ⟨cs2, e2, hd2⟩ : ∃ cs : List Value, v_3_2 = .agg cs.toArray ∧ rd S_3_2 wq (r) cs := hK 2 rfl
          subst e2
          refine OpX.call rfl rfl rfl rfl ok33 rfl ((eqRule_spec _ r r (Sep.own_rd (own_ext hT36 ((hEw21.trans hEw22).trans hq))) hd2).yes rfl) ?_
          rintro v w' hE rfl
          exact ⟨hE, rfl⟩
        refine LL.fx rfl rfl rfl (fun _ hq hK => Ev.not rfl rfl) ?_
        intro w23 hEw23 hKr3 hap3 hbd3
        have hs_3_2 : ∀ q, S_3_2 q → w22.heap.size ≤ q ∧ q < w23.heap.size := fun q hq => hbd3 2 q hq
        refine WL.nil ?_
        refine CW.condF rfl ?_
        refine CW.skip ?_
        refine CW.fresh [(3, .pointer (some ⟨b1, 0, none⟩)), (4, .pointer (some ⟨b2, 0, none⟩)), (5, .pointer (some ⟨b3, 0, none⟩)), (6, .bool false), (8, .pointer (some ⟨b1_7, 0, none⟩)), (9, .pointer (some ⟨b4, 0, none⟩)), (10, .pointer (some ⟨b5, 0, none⟩)), (11, .pointer (some ⟨b6, 0, none⟩)), (12, .pointer (some ⟨b7, 0, none⟩))] ⟨rfl, rfl, rfl, rfl, rfl, rfl, rfl, rfl, rfl, trivial⟩ fun σ => ?_
        refine CW.seq (CW.seq (CW.anyE 5 (fun ρ => [.inl (.agg cs7.toArray), .inl (.agg #[.int .i64 (c.N), .slice A6 c.Rows.length c6]), .inr (fun S v w => ∃ cs : List Value, v = .agg cs.toArray ∧ rd S w (c) cs), .inl (.bool true), .inl (.bool (!true))]) hmix (by kernel_rfl) ⟨trivial, trivial, fun _ _ _ _ ⟨cs, e, h⟩ hE => ⟨cs, e, rd_ext h hE⟩, trivial, trivial, trivial⟩ ?_))
        refine LL.fx rfl rfl rfl (fun _ hq hK => Ev.lda rfl ag79 sz79 rfl (At.blk (hT39.ext (((hEw21.trans hEw22).trans hEw23).trans hq))) (Rep.len (Sep.own_rd (own_ext hT38 (((hEw21.trans hEw22).trans hEw23).trans hq))))) ?_
        refine LL.fx rfl rfl rfl (fun _ hq hK => Ev.lda rfl ag77 sz77 rfl (At.blk (hT31.ext (((hEw21.trans hEw22).trans hEw23).trans hq))) rfl) ?_
        refine LL.free rfl rfl (fun wq hq hK => ?_) (fun v_4_2 S_4_2 => ?_)
        · skip
          refine OpX.call rfl rfl rfl rfl ok46 rfl (toRelation_spec _ c (rd_ext hK3 ((((hX5.trans hEw21).trans hEw22).trans hEw23).trans hq)) (by omega)) ?_
          rintro v w' hE ⟨cs, rfl, h⟩
          exact ⟨hE, cs, rfl, New.rd h⟩
        refine LL.fixed rfl rfl (fun wq hq hK => ?_) ?_
        · skip
          obtain ⟨cs2, e2, hd2⟩ : ∃ cs : List Value, v_4_2 = .agg cs.toArray ∧ rd S_4_2 wq (c) cs := hK 2 rfl
          subst e2
          refine OpX.call rfl rfl rfl rfl ok48 rfl ((eqRelation_spec _ c c (Sep.own_rd (own_ext hT38 (((hEw21.trans hEw22).trans hEw23).trans hq))) hd2).yes rfl) ?_
          rintro v w' hE rfl
          exact ⟨hE, rfl⟩
        refine LL.fx rfl rfl rfl (fun _ hq hK => Ev.not rfl rfl) ?_
        intro w24 hEw24 hKr4 hap4 hbd4
        have hs_4_2 : ∀ q, S_4_2 q → w23.heap.size ≤ q ∧ q < w24.heap.size := fun q hq => hbd4 2 q hq
        refine WL.nil ?_
        refine CW.condF rfl ?_
        refine CW.skip ?_
        refine CW.fresh [(3, .pointer (some ⟨b1, 0, none⟩)), (4, .pointer (some ⟨b2, 0, none⟩)), (5, .pointer (some ⟨b3, 0, none⟩)), (6, .bool false), (8, .pointer (some ⟨b1_7, 0, none⟩)), (9, .pointer (some ⟨b4, 0, none⟩)), (10, .pointer (some ⟨b5, 0, none⟩)), (11, .pointer (some ⟨b6, 0, none⟩)), (12, .pointer (some ⟨b7, 0, none⟩))] ⟨rfl, rfl, rfl, rfl, rfl, rfl, rfl, rfl, rfl, trivial⟩ fun σ => ?_
        refine CW.seq (CW.reg ?_)
        refine WL.ev rfl rfl (Ev.as rfl rfl) (WL.nil ?_)
        refine CW.fresh [(3, .pointer (some ⟨b1, 0, none⟩)), (4, .pointer (some ⟨b2, 0, none⟩)), (5, .pointer (some ⟨b3, 0, none⟩)), (6, .bool false), (8, .pointer (some ⟨b1_7, 0, none⟩)), (9, .pointer (some ⟨b4, 0, none⟩)), (10, .pointer (some ⟨b5, 0, none⟩)), (11, .pointer (some ⟨b6, 0, none⟩)), (12, .pointer (some ⟨b7, 0, none⟩)), (13, .int .i64 (1))] ⟨rfl, rfl, rfl, rfl, rfl, rfl, rfl, rfl, rfl, rfl, trivial⟩ fun σ => ?_
        refine CW.seq (CW.reg ?_)
        refine WL.ev rfl rfl (Ev.lda rfl ag48 sz48 rfl (At.blk (hT35.ext (((hEw21.trans hEw22).trans hEw23).trans hEw24))) (Rep.len (Sep.own_rd (own_ext hT34 (((hEw21.trans hEw22).trans hEw23).trans hEw24))))) (WL.ev rfl rfl (Ev.mv rfl rfl) ?_)
        refine WL.call rfl rfl rfl rfl rfl ok26 rfl (markGrammar_spec _ L5 g (own_ext hT34 (((hEw21.trans hEw22).trans hEw23).trans hEw24)) hN5 1 (by omega) (by have := cnt_anyT g (by omega); omega)) ?_
        rintro _ w25 hEw25 ⟨rfl, hO_1⟩
        have hT41 := Blk.chgL (hT29.ext (((hEw21.trans hEw22).trans hEw23).trans hEw24)) hEw25 (fun hq => by have := hBb1.lt; have := hF5 _ hq; have := hEb2.size; have := hEb3.size; have := hEw4.size; have := hEw5.size; have := hEw6.size; have := hEw7.size; have := hCw8.size; omega)
        have hT42 := Blk.chgL (hT30.ext (((hEw21.trans hEw22).trans hEw23).trans hEw24)) hEw25 (fun hq => by have := hBb2.lt; have := hF5 _ hq; have := hEb3.size; have := hEw4.size; have := hEw5.size; have := hEw6.size; have := hEw7.size; have := hCw8.size; omega)
        have hT43 := Blk.chgL (hT31.ext (((hEw21.trans hEw22).trans hEw23).trans hEw24)) hEw25 (fun hq => by have := hBb3.lt; have := hF5 _ hq; have := hEw4.size; have := hEw5.size; have := hEw6.size; have := hEw7.size; have := hCw8.size; omega)
        have hT44 := rd_chgL (rd_ext hT32 (((hEw21.trans hEw22).trans hEw23).trans hEw24)) hEw25 (fun q hq _ h2 => by have := (hs_1_6 _ hq).2; have := hF5 _ h2; have := hCw8.size; omega)
        have hT45 := Blk.chgL (hT33.ext (((hEw21.trans hEw22).trans hEw23).trans hEw24)) hEw25 (fun hq => by have := (hs_1_7 _ hS1_7).2; have := hF5 _ hq; have := hCw8.size; omega)
        have hT46 := Blk.chgL (hT35.ext (((hEw21.trans hEw22).trans hEw23).trans hEw24)) hEw25 (fun hq => by have := Sep.own_lt hO5 _ hq; have := hbb4; omega)
        have hT47 := own_chgL (own_ext hT36 (((hEw21.trans hEw22).trans hEw23).trans hEw24)) hEw25 (fun q hq h2 => by have := Sep.own_lt hO5 _ h2; have := hF6 _ hq; have := hEb4.size; have := hCw11.size; omega)
        have hT48 := Blk.chgL (hT37.ext (((hEw21.trans hEw22).trans hEw23).trans hEw24)) hEw25 (fun hq => by have := Sep.own_lt hO5 _ hq; have := hbb5; have := hEb4.size; have := hCw11.size; have := hEw12.size; omega)
        have hT49 := own_chgL (own_ext hT38 (((hEw21.trans hEw22).trans hEw23).trans hEw24)) hEw25 (fun q hq h2 => by have := Sep.own_lt hO5 _ h2; have := hF7 _ hq; have := hEb4.size; have := hCw11.size; have := hEw12.size; have := hEb5.size; have := hCw14.size; omega)
        have hT50 := Blk.chgL (hT39.ext (((hEw21.trans hEw22).trans hEw23).trans hEw24)) hEw25 (fun hq => by have := Sep.own_lt hO5 _ hq; have := hbb6; have := hEb4.size; have := hCw11.size; have := hEw12.size; have := hEb5.size; have := hCw14.size; have := hEw15.size; omega)
        have hT51 := own_chgL (own_ext hT40 (((hEw21.trans hEw22).trans hEw23).trans hEw24)) hEw25 (fun q hq h2 => by have := Sep.own_lt hO5 _ h2; have := hF8 _ hq; have := hEb4.size; have := hCw11.size; have := hEw12.size; have := hEb5.size; have := hCw14.size; have := hEw15.size; have := hEb6.size; have := hCw17.size; omega)
        have hT52 := Blk.chgL (hB_5.ext (((hEw21.trans hEw22).trans hEw23).trans hEw24)) hEw25 (fun hq => by have := Sep.own_lt hO5 _ hq; have := hbb7; have := hEb4.size; have := hCw11.size; have := hEw12.size; have := hEb5.size; have := hCw14.size; have := hEw15.size; have := hEb6.size; have := hCw17.size; have := hEw18.size; omega)
        have hX6 := Ext.chgL ((((hX5.trans hEw21).trans hEw22).trans hEw23).trans hEw24) hEw25 (fun q hq => by have := hF5 _ hq; have := hEb1.size; have := hEb2.size; have := hEb3.size; have := hEw4.size; have := hEw5.size; have := hEw6.size; have := hEw7.size; have := hCw8.size; omega)
        have := cnt_anyT g (by omega)
        refine WL.ev rfl rfl (Ev.as rfl rfl) (WL.nil ?_)
        refine CW.fresh [(3, .pointer (some ⟨b1, 0, none⟩)), (4, .pointer (some ⟨b2, 0, none⟩)), (5, .pointer (some ⟨b3, 0, none⟩)), (6, .bool false), (8, .pointer (some ⟨b1_7, 0, none⟩)), (10, .pointer (some ⟨b5, 0, none⟩)), (11, .pointer (some ⟨b6, 0, none⟩)), (12, .pointer (some ⟨b7, 0, none⟩)), (13, .int .i64 (1 + (MkT.cntT g : Nat)))] ⟨rfl, rfl, rfl, rfl, rfl, rfl, rfl, rfl, rfl, trivial⟩ fun σ => ?_
        refine CW.seq (CW.reg ?_)
        refine WL.ev rfl rfl (Ev.lda rfl ag65 sz65 rfl (At.blk hT48) (Rep.len (Sep.own_rd hT47))) (WL.ev rfl rfl (Ev.mv rfl rfl) ?_)
        refine WL.call rfl rfl rfl rfl rfl ok34 rfl (markRule_spec _ L6 r hT47 hN6 (1 + (MkT.cntT g : Nat)) (by omega) (by have := cnt_anyT r (by omega); omega)) ?_
        rintro _ w26 hEw26 ⟨rfl, hO_2⟩
        have hT53 := Blk.chgL hT41 hEw26 (fun hq => by have := hBb1.lt; have := hF6 _ hq; have := hEb2.size; have := hEb3.size; have := hEw4.size; have := hEw5.size; have := hEw6.size; have := hEw7.size; have := hCw8.size; have := hEw9.size; have := hEb4.size; have := hCw11.size; omega)
        have hT54 := Blk.chgL hT42 hEw26 (fun hq => by have := hBb2.lt; have := hF6 _ hq; have := hEb3.size; have := hEw4.size; have := hEw5.size; have := hEw6.size; have := hEw7.size; have := hCw8.size; have := hEw9.size; have := hEb4.size; have := hCw11.size; omega)
        have hT55 := Blk.chgL hT43 hEw26 (fun hq => by have := hBb3.lt; have := hF6 _ hq; have := hEw4.size; have := hEw5.size; have := hEw6.size; have := hEw7.size; have := hCw8.size; have := hEw9.size; have := hEb4.size; have := hCw11.size; omega)
        have hT56 := rd_chgL hT44 hEw26 (fun q hq _ h2 => by have := (hs_1_6 _ hq).2; have := hF6 _ h2; have := hCw8.size; have := hEw9.size; have := hEb4.size; have := hCw11.size; omega)
        have hT57 := Blk.chgL hT45 hEw26 (fun hq => by have := (hs_1_7 _ hS1_7).2; have := hF6 _ hq; have := hCw8.size; have := hEw9.size; have := hEb4.size; have := hCw11.size; omega)
        have hT58 := own_chgL hO_1 hEw26 (fun q hq h2 => by have := Sep.own_lt hO5 _ hq; have := hF6 _ h2; have := hEb4.size; have := hCw11.size; omega)
        have hT59 := Blk.chgL hT46 hEw26 (fun hq => by have := hBb4.lt; have := hF6 _ hq; have := hCw11.size; omega)
        have hT60 := Blk.chgL hT48 hEw26 (fun hq => by have := Sep.own_lt hO6 _ hq; have := hbb5; omega)
        have hT61 := own_chgL hT49 hEw26 (fun q hq h2 => by have := Sep.own_lt hO6 _ h2; have := hF7 _ hq; have := hEb5.size; have := hCw14.size; omega)
        have hT62 := Blk.chgL hT50 hEw26 (fun hq => by have := Sep.own_lt hO6 _ hq; have := hbb6; have := hEb5.size; have := hCw14.size; have := hEw15.size; omega)
        have hT63 := own_chgL hT51 hEw26 (fun q hq h2 => by have := Sep.own_lt hO6 _ h2; have := hF8 _ hq; have := hEb5.size; have := hCw14.size; have := hEw15.size; have := hEb6.size; have := hCw17.size; omega)
        have hT64 := Blk.chgL hT52 hEw26 (fun hq => by have := Sep.own_lt hO6 _ hq; have := hbb7; have := hEb5.size; have := hCw14.size; have := hEw15.size; have := hEb6.size; have := hCw17.size; have := hEw18.size; omega)
        have hX7 := Ext.chgL hX6 hEw26 (fun q hq => by have := hF6 _ hq; have := hEb1.size; have := hEb2.size; have := hEb3.size; have := hEw4.size; have := hEw5.size; have := hEw6.size; have := hEw7.size; have := hCw8.size; have := hEw9.size; have := hEb4.size; have := hCw11.size; omega)
        have := cnt_anyT r (by omega)
        refine WL.ev rfl rfl (Ev.as rfl rfl) (WL.nil ?_)
        refine CW.fresh [(3, .pointer (some ⟨b1, 0, none⟩)), (4, .pointer (some ⟨b2, 0, none⟩)), (5, .pointer (some ⟨b3, 0, none⟩)), (6, .bool false), (8, .pointer (some ⟨b1_7, 0, none⟩)), (11, .pointer (some ⟨b6, 0, none⟩)), (12, .pointer (some ⟨b7, 0, none⟩)), (13, .int .i64 (1 + (MkT.cntT g : Nat) + (MkT.cntT r : Nat)))] ⟨rfl, rfl, rfl, rfl, rfl, rfl, rfl, rfl, trivial⟩ fun σ => ?_
        refine CW.seq (CW.reg ?_)
        refine WL.ev rfl rfl (Ev.lda rfl ag79 sz79 rfl (At.blk hT62) (Rep.len (Sep.own_rd hT61))) (WL.ev rfl rfl (Ev.mv rfl rfl) ?_)
        refine WL.call rfl rfl rfl rfl rfl ok49 rfl (markRelation_spec _ L7 c hT61 hN7 (1 + (MkT.cntT g : Nat) + (MkT.cntT r : Nat)) (by omega) (by have := cnt_anyT c (by omega); omega)) ?_
        rintro _ w27 hEw27 ⟨rfl, hO_3⟩
        have hT65 := Blk.chgL hT53 hEw27 (fun hq => by have := hBb1.lt; have := hF7 _ hq; have := hEb2.size; have := hEb3.size; have := hEw4.size; have := hEw5.size; have := hEw6.size; have := hEw7.size; have := hCw8.size; have := hEw9.size; have := hEb4.size; have := hCw11.size; have := hEw12.size; have := hEb5.size; have := hCw14.size; omega)
        have hT66 := Blk.chgL hT54 hEw27 (fun hq => by have := hBb2.lt; have := hF7 _ hq; have := hEb3.size; have := hEw4.size; have := hEw5.size; have := hEw6.size; have := hEw7.size; have := hCw8.size; have := hEw9.size; have := hEb4.size; have := hCw11.size; have := hEw12.size; have := hEb5.size; have := hCw14.size; omega)
        have hT67 := Blk.chgL hT55 hEw27 (fun hq => by have := hBb3.lt; have := hF7 _ hq; have := hEw4.size; have := hEw5.size; have := hEw6.size; have := hEw7.size; have := hCw8.size; have := hEw9.size; have := hEb4.size; have := hCw11.size; have := hEw12.size; have := hEb5.size; have := hCw14.size; omega)
        have hT68 := rd_chgL hT56 hEw27 (fun q hq _ h2 => by have := (hs_1_6 _ hq).2; have := hF7 _ h2; have := hCw8.size; have := hEw9.size; have := hEb4.size; have := hCw11.size; have := hEw12.size; have := hEb5.size; have := hCw14.size; omega)
        have hT69 := Blk.chgL hT57 hEw27 (fun hq => by have := (hs_1_7 _ hS1_7).2; have := hF7 _ hq; have := hCw8.size; have := hEw9.size; have := hEb4.size; have := hCw11.size; have := hEw12.size; have := hEb5.size; have := hCw14.size; omega)
        have hT70 := own_chgL hT58 hEw27 (fun q hq h2 => by have := Sep.own_lt hO5 _ hq; have := hF7 _ h2; have := hEb4.size; have := hCw11.size; have := hEw12.size; have := hEb5.size; have := hCw14.size; omega)
        have hT71 := Blk.chgL hT59 hEw27 (fun hq => by have := hBb4.lt; have := hF7 _ hq; have := hCw11.size; have := hEw12.size; have := hEb5.size; have := hCw14.size; omega)
        have hT72 := own_chgL hO_2 hEw27 (fun q hq h2 => by have := Sep.own_lt hO6 _ hq; have := hF7 _ h2; have := hEb5.size; have := hCw14.size; omega)
        have hT73 := Blk.chgL hT60 hEw27 (fun hq => by have := hBb5.lt; have := hF7 _ hq; have := hCw14.size; omega)
        have hT74 := Blk.chgL hT62 hEw27 (fun hq => by have := Sep.own_lt hO7 _ hq; have := hbb6; omega)
        have hT75 := own_chgL hT63 hEw27 (fun q hq h2 => by have := Sep.own_lt hO7 _ h2; have := hF8 _ hq; have := hEb6.size; have := hCw17.size; omega)
        have hT76 := Blk.chgL hT64 hEw27 (fun hq => by have := Sep.own_lt hO7 _ hq; have := hbb7; have := hEb6.size; have := hCw17.size; have := hEw18.size; omega)
        have hX8 := Ext.chgL hX7 hEw27 (fun q hq => by have := hF7 _ hq; have := hEb1.size; have := hEb2.size; have := hEb3.size; have := hEw4.size; have := hEw5.size; have := hEw6.size; have := hEw7.size; have := hCw8.size; have := hEw9.size; have := hEb4.size; have := hCw11.size; have := hEw12.size; have := hEb5.size; have := hCw14.size; omega)
        have := cnt_anyT c (by omega)
        refine WL.ev rfl rfl (Ev.as rfl rfl) (WL.nil ?_)
        refine CW.fresh [(3, .pointer (some ⟨b1, 0, none⟩)), (4, .pointer (some ⟨b2, 0, none⟩)), (5, .pointer (some ⟨b3, 0, none⟩)), (6, .bool false), (8, .pointer (some ⟨b1_7, 0, none⟩)), (12, .pointer (some ⟨b7, 0, none⟩)), (13, .int .i64 (1 + (MkT.cntT g : Nat) + (MkT.cntT r : Nat) + (MkT.cntT c : Nat)))] ⟨rfl, rfl, rfl, rfl, rfl, rfl, rfl, trivial⟩ fun σ => ?_
        refine CW.seq (CW.seq (CW.reg ?_))
        refine WL.ev rfl rfl (Ev.mv rfl rfl) (WL.ev rfl rfl (Ev.bin rfl rfl rfl (Bin.no (by omega))) (WL.ev rfl rfl (Ev.mv rfl rfl) (WL.on rfl rfl (WL.ev rfl rfl (Ev.lda rfl ag79 sz79 rfl (At.blk hT76) (Rep.len (Sep.own_rd hT75))) (WL.on rfl rfl (WL.ev rfl rfl (Ev.lda rfl ag79 sz79 rfl (At.blk hT69) (Rep.len hT68)) (WL.on rfl rfl ?_)))))))
        refine WL.call rfl rfl rfl rfl rfl ok48 rfl ((eqRelation_spec _ ((sSummaryOf_m g r c).getD ⟨0, []⟩) ((sSummaryOf_m g r c).getD ⟨0, []⟩) (Sep.own_rd hT75) hT68).yes rfl) ?_
        rintro _ w28 hEw28 rfl
        refine WL.on rfl rfl (WL.ev rfl rfl (Ev.not rfl rfl) (WL.ev rfl rfl (Ev.pickF rfl rfl rfl) (WL.nil ?_)))
        refine CW.condF rfl ?_
        refine CW.skip ?_
        refine CW.fresh [(3, .pointer (some ⟨b1, 0, none⟩)), (4, .pointer (some ⟨b2, 0, none⟩)), (5, .pointer (some ⟨b3, 0, none⟩)), (6, .bool false), (8, .pointer (some ⟨b1_7, 0, none⟩)), (12, .pointer (some ⟨b7, 0, none⟩))] ⟨rfl, rfl, rfl, rfl, rfl, rfl, trivial⟩ fun σ => ?_
        refine CW.seq (CW.reg ?_)
        refine WL.ev rfl rfl (Ev.as rfl rfl) (WL.nil ?_)
        refine CW.fresh [(3, .pointer (some ⟨b1, 0, none⟩)), (4, .pointer (some ⟨b2, 0, none⟩)), (5, .pointer (some ⟨b3, 0, none⟩)), (6, .bool false), (8, .pointer (some ⟨b1_7, 0, none⟩)), (12, .pointer (some ⟨b7, 0, none⟩)), (14, .int .i64 (1))] ⟨rfl, rfl, rfl, rfl, rfl, rfl, rfl, trivial⟩ fun σ => ?_
        refine CW.seq (CW.reg ?_)
        refine WL.ev rfl rfl (Ev.lda rfl ag79 sz79 rfl (At.blk (hT76.ext hEw28)) (Rep.len (Sep.own_rd (own_ext hT75 hEw28)))) (WL.ev rfl rfl (Ev.mv rfl rfl) ?_)
        refine WL.call rfl rfl rfl rfl rfl ok49 rfl (markRelation_spec _ L8 ((sSummaryOf_m g r c).getD ⟨0, []⟩) (own_ext hT75 hEw28) hN8 1 (by omega) (by have := cnt_summary g r c (by omega) (by omega); omega)) ?_
        rintro _ w29 hEw29 ⟨rfl, hO_4⟩
        have hT77 := Blk.chgL (hT65.ext hEw28) hEw29 (fun hq => by have := hBb1.lt; have := hF8 _ hq; have := hEb2.size; have := hEb3.size; have := hEw4.size; have := hEw5.size; have := hEw6.size; have := hEw7.size; have := hCw8.size; have := hEw9.size; have := hEb4.size; have := hCw11.size; have := hEw12.size; have := hEb5.size; have := hCw14.size; have := hEw15.size; have := hEb6.size; have := hCw17.size; omega)
        have hT78 := Blk.chgL (hT66.ext hEw28) hEw29 (fun hq => by have := hBb2.lt; have := hF8 _ hq; have := hEb3.size; have := hEw4.size; have := hEw5.size; have := hEw6.size; have := hEw7.size; have := hCw8.size; have := hEw9.size; have := hEb4.size; have := hCw11.size; have := hEw12.size; have := hEb5.size; have := hCw14.size; have := hEw15.size; have := hEb6.size; have := hCw17.size; omega)
        have hT79 := Blk.chgL (hT67.ext hEw28) hEw29 (fun hq => by have := hBb3.lt; have := hF8 _ hq; have := hEw4.size; have := hEw5.size; have := hEw6.size; have := hEw7.size; have := hCw8.size; have := hEw9.size; have := hEb4.size; have := hCw11.size; have := hEw12.size; have := hEb5.size; have := hCw14.size; have := hEw15.size; have := hEb6.size; have := hCw17.size; omega)
        have hT80 := rd_chgL (rd_ext hT68 hEw28) hEw29 (fun q hq _ h2 => by have := (hs_1_6 _ hq).2; have := hF8 _ h2; have := hCw8.size; have := hEw9.size; have := hEb4.size; have := hCw11.size; have := hEw12.size; have := hEb5.size; have := hCw14.size; have := hEw15.size; have := hEb6.size; have := hCw17.size; omega)
        have hT81 := Blk.chgL (hT69.ext hEw28) hEw29 (fun hq => by have := (hs_1_7 _ hS1_7).2; have := hF8 _ hq; have := hCw8.size; have := hEw9.size; have := hEb4.size; have := hCw11.size; have := hEw12.size; have := hEb5.size; have := hCw14.size; have := hEw15.size; have := hEb6.size; have := hCw17.size; omega)
        have hT82 := own_chgL (own_ext hT70 hEw28) hEw29 (fun q hq h2 => by have := Sep.own_lt hO5 _ hq; have := hF8 _ h2; have := hEb4.size; have := hCw11.size; have := hEw12.size; have := hEb5.size; have := hCw14.size; have := hEw15.size; have := hEb6.size; have := hCw17.size; omega)
        have hT83 := Blk.chgL (hT71.ext hEw28) hEw29 (fun hq => by have := hBb4.lt; have := hF8 _ hq; have := hCw11.size; have := hEw12.size; have := hEb5.size; have := hCw14.size; have := hEw15.size; have := hEb6.size; have := hCw17.size; omega)
        have hT84 := own_chgL (own_ext hT72 hEw28) hEw29 (fun q hq h2 => by have := Sep.own_lt hO6 _ hq; have := hF8 _ h2; have := hEb5.size; have := hCw14.size; have := hEw15.size; have := hEb6.size; have := hCw17.size; omega)
        have hT85 := Blk.chgL (hT73.ext hEw28) hEw29 (fun hq => by have := hBb5.lt; have := hF8 _ hq; have := hCw14.size; have := hEw15.size; have := hEb6.size; have := hCw17.size; omega)
        have hT86 := own_chgL (own_ext hO_3 hEw28) hEw29 (fun q hq h2 => by have := Sep.own_lt hO7 _ hq; have := hF8 _ h2; have := hEb6.size; have := hCw17.size; omega)
        have hT87 := Blk.chgL (hT74.ext hEw28) hEw29 (fun hq => by have := hBb6.lt; have := hF8 _ hq; have := hCw17.size; omega)
        have hT88 := Blk.chgL (hT76.ext hEw28) hEw29 (fun hq => by have := Sep.own_lt hO8 _ hq; have := hbb7; omega)
        have hX9 := Ext.chgL (hX8.trans hEw28) hEw29 (fun q hq => by have := hF8 _ hq; have := hEb1.size; have := hEb2.size; have := hEb3.size; have := hEw4.size; have := hEw5.size; have := hEw6.size; have := hEw7.size; have := hCw8.size; have := hEw9.size; have := hEb4.size; have := hCw11.size; have := hEw12.size; have := hEb5.size; have := hCw14.size; have := hEw15.size; have := hEb6.size; have := hCw17.size; omega)
        have := cnt_summary g r c (by omega) (by omega)
        refine WL.ev rfl rfl (Ev.as rfl rfl) (WL.nil ?_)
        refine CW.fresh [(3, .pointer (some ⟨b1, 0, none⟩)), (4, .pointer (some ⟨b2, 0, none⟩)), (5, .pointer (some ⟨b3, 0, none⟩)), (6, .bool false), (8, .pointer (some ⟨b1_7, 0, none⟩)), (12, .pointer (some ⟨b7, 0, none⟩)), (14, .int .i64 (1 + (MkT.cntT ((sSummaryOf_m g r c).getD ⟨0, []⟩) : Nat)))] ⟨rfl, rfl, rfl, rfl, rfl, rfl, rfl, trivial⟩ fun σ => ?_
        refine CW.seq (CW.reg ?_)
        refine WL.ev rfl rfl (Ev.as rfl rfl) (WL.nil ?_)
        refine CW.fresh [(3, .pointer (some ⟨b1, 0, none⟩)), (4, .pointer (some ⟨b2, 0, none⟩)), (5, .pointer (some ⟨b3, 0, none⟩)), (6, .bool false), (8, .pointer (some ⟨b1_7, 0, none⟩)), (12, .pointer (some ⟨b7, 0, none⟩)), (14, .int .i64 (1 + (MkT.cntT ((sSummaryOf_m g r c).getD ⟨0, []⟩) : Nat))), (15, .int .i64 (1))] ⟨rfl, rfl, rfl, rfl, rfl, rfl, rfl, rfl, trivial⟩ fun σ => ?_
        refine CW.seq (CW.reg ?_)
        refine WL.ev rfl rfl (Ev.lda rfl ag79 sz79 rfl (At.blk hT88) (Rep.len (Sep.own_rd hO_4))) (WL.ev rfl rfl (Ev.mv rfl rfl) ?_)
        refine WL.call rfl rfl rfl rfl rfl ok50 rfl (heldRelation_spec _ (MkT.mrkT ((sSummaryOf_m g r c).getD ⟨0, []⟩) 1) (Sep.own_rd hO_4) 1 (by omega) (by rw [MkT.cmT]; have := cnt_summary g r c (by omega) (by omega); omega)) ?_
        rintro _ w30 hEw30 ⟨r4, rfl, hr7⟩
        rw [MkT.lawT] at hr7
        have := hr7.is
        refine WL.ev rfl rfl (Ev.as rfl rfl) (WL.nil ?_)
        refine CW.fresh [(3, .pointer (some ⟨b1, 0, none⟩)), (4, .pointer (some ⟨b2, 0, none⟩)), (5, .pointer (some ⟨b3, 0, none⟩)), (6, .bool false), (8, .pointer (some ⟨b1_7, 0, none⟩)), (12, .pointer (some ⟨b7, 0, none⟩)), (14, .int .i64 (1 + (MkT.cntT ((sSummaryOf_m g r c).getD ⟨0, []⟩) : Nat))), (15, .int .i64 (r4))] ⟨rfl, rfl, rfl, rfl, rfl, rfl, rfl, rfl, trivial⟩ fun σ => ?_
        refine CW.seq (CW.seq (CW.reg ?_))
        refine WL.ev rfl rfl (Ev.mv rfl rfl) (WL.ev rfl rfl (Ev.bin rfl rfl rfl (Bin.no (by omega))) (WL.nil ?_))
        refine CW.condF rfl ?_
        refine CW.skip ?_
        refine CW.fresh [(3, .pointer (some ⟨b1, 0, none⟩)), (4, .pointer (some ⟨b2, 0, none⟩)), (5, .pointer (some ⟨b3, 0, none⟩)), (6, .bool false), (8, .pointer (some ⟨b1_7, 0, none⟩)), (12, .pointer (some ⟨b7, 0, none⟩)), (14, .int .i64 (1 + (MkT.cntT ((sSummaryOf_m g r c).getD ⟨0, []⟩) : Nat))), (15, .int .i64 (r4))] ⟨rfl, rfl, rfl, rfl, rfl, rfl, rfl, rfl, trivial⟩ fun σ => ?_
        refine CW.seq (CW.seq (CW.reg ?_))
        refine WL.ev rfl rfl (Ev.mv rfl rfl) (WL.ev rfl rfl (Ev.mv rfl rfl) (WL.ev rfl rfl (Ev.bin rfl rfl rfl (Bin.neqSame (by omega))) (WL.nil ?_)))
        refine CW.condF rfl ?_
        refine CW.skip ?_
        refine CW.fresh [(3, .pointer (some ⟨b1, 0, none⟩)), (4, .pointer (some ⟨b2, 0, none⟩)), (5, .pointer (some ⟨b3, 0, none⟩)), (6, .bool false), (8, .pointer (some ⟨b1_7, 0, none⟩)), (12, .pointer (some ⟨b7, 0, none⟩)), (14, .int .i64 (1 + (MkT.cntT ((sSummaryOf_m g r c).getD ⟨0, []⟩) : Nat))), (15, .int .i64 (r4))] ⟨rfl, rfl, rfl, rfl, rfl, rfl, rfl, rfl, trivial⟩ fun σ => ?_
        refine CW.seq (CW.anyE 8 (fun ρ => [.inl (.agg #[.slice A1 g.Symbols.length c1, .slice A2 g.Rules.length c2]), .inr (fun S v w => ∃ cs : List Value, v = .agg cs.toArray ∧ rd S w (g) cs), .inl (.agg #[.string (r.Name), .string (r.Left), .slice A3 r.Right.length c3, .bool (r.Literal), .slice A4 r.Equations.length c4, .slice A5 r.Contributions.length c5]), .inr (fun S v w => ∃ cs : List Value, v = .agg cs.toArray ∧ rd S w (r) cs), .inl (.agg #[.int .i64 (c.N), .slice A6 c.Rows.length c6]), .inr (fun S v w => ∃ cs : List Value, v = .agg cs.toArray ∧ rd S w (c) cs), .inr (fun S v w => ∃ cs : List Value, v = .agg cs.toArray ∧ rd S w ((sSummaryOf_m g r c).getD ⟨0, []⟩) cs), .inr (fun S v w => ∃ b : Nat, v = .pointer (some ⟨b, 0, none⟩) ∧ S b ∧ Blk w b 79 [.int .i64 0, .slice none 0 0])]) hmix (by kernel_rfl) ⟨trivial, fun _ _ _ _ ⟨cs, e, h⟩ hE => ⟨cs, e, rd_ext h hE⟩, trivial, fun _ _ _ _ ⟨cs, e, h⟩ hE => ⟨cs, e, rd_ext h hE⟩, trivial, fun _ _ _ _ ⟨cs, e, h⟩ hE => ⟨cs, e, rd_ext h hE⟩, fun _ _ _ _ ⟨cs, e, h⟩ hE => ⟨cs, e, rd_ext h hE⟩, fun _ _ _ _ ⟨b, e, hS, h⟩ hE => ⟨b, e, hS, h.ext hE⟩, trivial⟩ ?_)
        refine LL.fx rfl rfl rfl (fun _ hq hK => Ev.lda rfl ag41 sz41 rfl (At.blk (hT77.ext (hEw30.trans hq))) rfl) ?_
        refine LL.free rfl rfl (fun wq hq hK => ?_) (fun v_5_1 S_5_1 => ?_)
        · skip
          refine OpX.call rfl rfl rfl rfl ok22 rfl (toGrammar_spec _ g (rd_ext hK1 ((hX9.trans hEw30).trans hq)) (by omega)) ?_
          rintro v w' hE ⟨cs, rfl, h⟩
          exact ⟨hE, cs, rfl, New.rd h⟩
        refine LL.fx rfl rfl rfl (fun _ hq hK => Ev.lda rfl ag59 sz59 rfl (At.blk (hT78.ext (hEw30.trans hq))) rfl) ?_
        refine LL.free rfl rfl (fun wq hq hK => ?_) (fun v_5_3 S_5_3 => ?_)
        · skip
          refine OpX.call rfl rfl rfl rfl ok31 rfl (toRule_spec _ r (rd_ext hK2 ((hX9.trans hEw30).trans hq)) (by omega)) ?_
          rintro v w' hE ⟨cs, rfl, h⟩
          exact ⟨hE, cs, rfl, New.rd h⟩
        refine LL.fx rfl rfl rfl (fun _ hq hK => Ev.lda rfl ag77 sz77 rfl (At.blk (hT79.ext (hEw30.trans hq))) rfl) ?_
        refine LL.free rfl rfl (fun wq hq hK => ?_) (fun v_5_5 S_5_5 => ?_)
        · skip
          refine OpX.call rfl rfl rfl rfl ok46 rfl (toRelation_spec _ c (rd_ext hK3 ((hX9.trans hEw30).trans hq)) (by omega)) ?_
          rintro v w' hE ⟨cs, rfl, h⟩
          exact ⟨hE, cs, rfl, New.rd h⟩
        refine LL.free rfl rfl (fun wq hq hK => ?_) (fun v_5_6 S_5_6 => ?_)
        · skip
          obtain ⟨cs1, e1, hd1⟩ : ∃ cs : List Value, v_5_1 = .agg cs.toArray ∧ rd S_5_1 wq (g) cs := hK 1 rfl
          subst e1
          obtain ⟨cs3, e3, hd3⟩ : ∃ cs : List Value, v_5_3 = .agg cs.toArray ∧ rd S_5_3 wq (r) cs := hK 3 rfl
          subst e3
          obtain ⟨cs5, e5, hd5⟩ : ∃ cs : List Value, v_5_5 = .agg cs.toArray ∧ rd S_5_5 wq (c) cs := hK 5 rfl
          subst e5
          refine OpX.call rfl rfl rfl rfl ok47 rfl (iSummaryOf_spec _ g hd1 (by omega) r hd3 (by omega) c hd5 (by omega)) ?_
          rintro v w' hE ⟨cs, rfl, h⟩
          exact ⟨hE, cs, rfl, New.rd h⟩
        refine LL.free rfl rfl (fun wq hq hK => OpX.alloc rfl rfl ze79) (fun v_5_7 S_5_7 => ?_)
        intro w31 hEw31 hKr5 hap5 hbd5
        have hs_5_1 : ∀ q, S_5_1 q → w30.heap.size ≤ q ∧ q < w31.heap.size := fun q hq => hbd5 1 q hq
        have hs_5_3 : ∀ q, S_5_3 q → w30.heap.size ≤ q ∧ q < w31.heap.size := fun q hq => hbd5 3 q hq
        have hs_5_5 : ∀ q, S_5_5 q → w30.heap.size ≤ q ∧ q < w31.heap.size := fun q hq => hbd5 5 q hq
        have hs_5_6 : ∀ q, S_5_6 q → w30.heap.size ≤ q ∧ q < w31.heap.size := fun q hq => hbd5 6 q hq
        obtain ⟨cs5_6, e5_6, hd5_6⟩ : ∃ cs : List Value, v_5_6 = .agg cs.toArray ∧ rd S_5_6 w31 ((sSummaryOf_m g r c).getD ⟨0, []⟩) cs := hKr5 6 (by decide)
        subst e5_6
        have hs_5_7 : ∀ q, S_5_7 q → w30.heap.size ≤ q ∧ q < w31.heap.size := fun q hq => hbd5 7 q hq
        obtain ⟨b5_7, e5_7, hS5_7, hB5_7⟩ : ∃ b : Nat, v_5_7 = .pointer (some ⟨b, 0, none⟩) ∧ S_5_7 b ∧ Blk w31 b 79 [.int .i64 0, .slice none 0 0] := hKr5 7 (by decide)
        subst e5_7
        refine WL.stW rfl rfl rfl sz79 rfl rfl rfl (Rep.len hd5_6) (Rep.one hd5_6) hB5_7 rfl fun w32 hCw32 hB_6 => ?_
        have hT89 := Blk.chg1 (hT77.ext (hEw30.trans hEw31)) hCw32 (by have := hBb1.lt; have := (hs_5_7 _ hS5_7).1; have := hEb2.size; have := hEb3.size; have := hEw4.size; have := hEw5.size; have := hEw6.size; have := hEw7.size; have := hCw8.size; have := hEw9.size; have := hEb4.size; have := hCw11.size; have := hEw12.size; have := hEb5.size; have := hCw14.size; have := hEw15.size; have := hEb6.size; have := hCw17.size; have := hEw18.size; have := hEb7.size; have := hCw20.size; have := hEw21.size; have := hEw22.size; have := hEw23.size; have := hEw24.size; have := hEw25.size; have := hEw26.size; have := hEw27.size; have := hEw28.size; have := hEw29.size; have := hEw30.size; omega)
        have hT90 := Blk.chg1 (hT78.ext (hEw30.trans hEw31)) hCw32 (by have := hBb2.lt; have := (hs_5_7 _ hS5_7).1; have := hEb3.size; have := hEw4.size; have := hEw5.size; have := hEw6.size; have := hEw7.size; have := hCw8.size; have := hEw9.size; have := hEb4.size; have := hCw11.size; have := hEw12.size; have := hEb5.size; have := hCw14.size; have := hEw15.size; have := hEb6.size; have := hCw17.size; have := hEw18.size; have := hEb7.size; have := hCw20.size; have := hEw21.size; have := hEw22.size; have := hEw23.size; have := hEw24.size; have := hEw25.size; have := hEw26.size; have := hEw27.size; have := hEw28.size; have := hEw29.size; have := hEw30.size; omega)
        have hT91 := Blk.chg1 (hT79.ext (hEw30.trans hEw31)) hCw32 (by have := hBb3.lt; have := (hs_5_7 _ hS5_7).1; have := hEw4.size; have := hEw5.size; have := hEw6.size; have := hEw7.size; have := hCw8.size; have := hEw9.size; have := hEb4.size; have := hCw11.size; have := hEw12.size; have := hEb5.size; have := hCw14.size; have := hEw15.size; have := hEb6.size; have := hCw17.size; have := hEw18.size; have := hEb7.size; have := hCw20.size; have := hEw21.size; have := hEw22.size; have := hEw23.size; have := hEw24.size; have := hEw25.size; have := hEw26.size; have := hEw27.size; have := hEw28.size; have := hEw29.size; have := hEw30.size; omega)
        have hT92 := rd_chg1 (rd_ext hT80 (hEw30.trans hEw31)) hCw32 (fun q hq _ e => by subst e; have := (hs_1_6 _ hq).2; have := (hs_5_7 _ hS5_7).1; have := hCw8.size; have := hEw9.size; have := hEb4.size; have := hCw11.size; have := hEw12.size; have := hEb5.size; have := hCw14.size; have := hEw15.size; have := hEb6.size; have := hCw17.size; have := hEw18.size; have := hEb7.size; have := hCw20.size; have := hEw21.size; have := hEw22.size; have := hEw23.size; have := hEw24.size; have := hEw25.size; have := hEw26.size; have := hEw27.size; have := hEw28.size; have := hEw29.size; have := hEw30.size; omega)
        have hT93 := Blk.chg1 (hT81.ext (hEw30.trans hEw31)) hCw32 (by have := (hs_1_7 _ hS1_7).2; have := (hs_5_7 _ hS5_7).1; have := hCw8.size; have := hEw9.size; have := hEb4.size; have := hCw11.size; have := hEw12.size; have := hEb5.size; have := hCw14.size; have := hEw15.size; have := hEb6.size; have := hCw17.size; have := hEw18.size; have := hEb7.size; have := hCw20.size; have := hEw21.size; have := hEw22.size; have := hEw23.size; have := hEw24.size; have := hEw25.size; have := hEw26.size; have := hEw27.size; have := hEw28.size; have := hEw29.size; have := hEw30.size; omega)
        have hT94 := own_chg1 (own_ext hT82 (hEw30.trans hEw31)) hCw32 (fun q hq e => by subst e; have := Sep.own_lt hO5 _ hq; have := (hs_5_7 _ hS5_7).1; have := hEb4.size; have := hCw11.size; have := hEw12.size; have := hEb5.size; have := hCw14.size; have := hEw15.size; have := hEb6.size; have := hCw17.size; have := hEw18.size; have := hEb7.size; have := hCw20.size; have := hEw21.size; have := hEw22.size; have := hEw23.size; have := hEw24.size; have := hEw25.size; have := hEw26.size; have := hEw27.size; have := hEw28.size; have := hEw29.size; have := hEw30.size; omega)
        have hT95 := Blk.chg1 (hT83.ext (hEw30.trans hEw31)) hCw32 (by have := hBb4.lt; have := (hs_5_7 _ hS5_7).1; have := hCw11.size; have := hEw12.size; have := hEb5.size; have := hCw14.size; have := hEw15.size; have := hEb6.size; have := hCw17.size; have := hEw18.size; have := hEb7.size; have := hCw20.size; have := hEw21.size; have := hEw22.size; have := hEw23.size; have := hEw24.size; have := hEw25.size; have := hEw26.size; have := hEw27.size; have := hEw28.size; have := hEw29.size; have := hEw30.size; omega)
        have hT96 := own_chg1 (own_ext hT84 (hEw30.trans hEw31)) hCw32 (fun q hq e => by subst e; have := Sep.own_lt hO6 _ hq; have := (hs_5_7 _ hS5_7).1; have := hEb5.size; have := hCw14.size; have := hEw15.size; have := hEb6.size; have := hCw17.size; have := hEw18.size; have := hEb7.size; have := hCw20.size; have := hEw21.size; have := hEw22.size; have := hEw23.size; have := hEw24.size; have := hEw25.size; have := hEw26.size; have := hEw27.size; have := hEw28.size; have := hEw29.size; have := hEw30.size; omega)
        have hT97 := Blk.chg1 (hT85.ext (hEw30.trans hEw31)) hCw32 (by have := hBb5.lt; have := (hs_5_7 _ hS5_7).1; have := hCw14.size; have := hEw15.size; have := hEb6.size; have := hCw17.size; have := hEw18.size; have := hEb7.size; have := hCw20.size; have := hEw21.size; have := hEw22.size; have := hEw23.size; have := hEw24.size; have := hEw25.size; have := hEw26.size; have := hEw27.size; have := hEw28.size; have := hEw29.size; have := hEw30.size; omega)
        have hT98 := own_chg1 (own_ext hT86 (hEw30.trans hEw31)) hCw32 (fun q hq e => by subst e; have := Sep.own_lt hO7 _ hq; have := (hs_5_7 _ hS5_7).1; have := hEb6.size; have := hCw17.size; have := hEw18.size; have := hEb7.size; have := hCw20.size; have := hEw21.size; have := hEw22.size; have := hEw23.size; have := hEw24.size; have := hEw25.size; have := hEw26.size; have := hEw27.size; have := hEw28.size; have := hEw29.size; have := hEw30.size; omega)
        have hT99 := Blk.chg1 (hT87.ext (hEw30.trans hEw31)) hCw32 (by have := hBb6.lt; have := (hs_5_7 _ hS5_7).1; have := hCw17.size; have := hEw18.size; have := hEb7.size; have := hCw20.size; have := hEw21.size; have := hEw22.size; have := hEw23.size; have := hEw24.size; have := hEw25.size; have := hEw26.size; have := hEw27.size; have := hEw28.size; have := hEw29.size; have := hEw30.size; omega)
        have hT100 := own_chg1 (own_ext hO_4 (hEw30.trans hEw31)) hCw32 (fun q hq e => by subst e; have := Sep.own_lt hO8 _ hq; have := (hs_5_7 _ hS5_7).1; have := hEb7.size; have := hCw20.size; have := hEw21.size; have := hEw22.size; have := hEw23.size; have := hEw24.size; have := hEw25.size; have := hEw26.size; have := hEw27.size; have := hEw28.size; have := hEw29.size; have := hEw30.size; omega)
        have hT101 := Blk.chg1 (hT88.ext (hEw30.trans hEw31)) hCw32 (by have := hBb7.lt; have := (hs_5_7 _ hS5_7).1; have := hCw20.size; have := hEw21.size; have := hEw22.size; have := hEw23.size; have := hEw24.size; have := hEw25.size; have := hEw26.size; have := hEw27.size; have := hEw28.size; have := hEw29.size; have := hEw30.size; omega)
        have hT102 := rd_chg1 hd5_6 hCw32 (fun q hq _ e => by subst e; exact absurd (hap5 7 6 _ hS5_7 hq) (by decide))
        have hX10 := Ext.chg1 ((hX9.trans hEw30).trans hEw31) hCw32 (by have := (hs_5_7 _ hS5_7).1; have := hEb1.size; have := hEb2.size; have := hEb3.size; have := hEw4.size; have := hEw5.size; have := hEw6.size; have := hEw7.size; have := hCw8.size; have := hEw9.size; have := hEb4.size; have := hCw11.size; have := hEw12.size; have := hEb5.size; have := hCw14.size; have := hEw15.size; have := hEb6.size; have := hCw17.size; have := hEw18.size; have := hEb7.size; have := hCw20.size; have := hEw21.size; have := hEw22.size; have := hEw23.size; have := hEw24.size; have := hEw25.size; have := hEw26.size; have := hEw27.size; have := hEw28.size; have := hEw29.size; have := hEw30.size; omega)
        refine WL.nil ?_
        refine CW.fresh [(6, .bool false), (8, .pointer (some ⟨b1_7, 0, none⟩)), (12, .pointer (some ⟨b7, 0, none⟩)), (14, .int .i64 (1 + (MkT.cntT ((sSummaryOf_m g r c).getD ⟨0, []⟩) : Nat))), (15, .int .i64 (r4)), (16, .pointer (some ⟨b5_7, 0, none⟩))] ⟨rfl, rfl, rfl, rfl, rfl, rfl, trivial⟩ fun σ => ?_
        refine CW.seq (CW.seq (CW.reg ?_))
        refine WL.ev rfl rfl (Ev.lda rfl ag79 sz79 rfl (At.blk hB_6) (Rep.len hT102)) (WL.ev rfl rfl (Ev.lda rfl ag79 sz79 rfl (At.blk hT93) (Rep.len hT92)) ?_)
        refine WL.call rfl rfl rfl rfl rfl ok48 rfl ((eqRelation_spec _ ((sSummaryOf_m g r c).getD ⟨0, []⟩) ((sSummaryOf_m g r c).getD ⟨0, []⟩) hT102 hT92).yes rfl) ?_
        rintro _ w33 hEw33 rfl
        refine WL.ev rfl rfl (Ev.not rfl rfl) (WL.nil ?_)
        refine CW.condF rfl ?_
        refine CW.skip ?_
        refine CW.fresh [(6, .bool false), (12, .pointer (some ⟨b7, 0, none⟩)), (14, .int .i64 (1 + (MkT.cntT ((sSummaryOf_m g r c).getD ⟨0, []⟩) : Nat))), (15, .int .i64 (r4))] ⟨rfl, rfl, rfl, rfl, trivial⟩ fun σ => ?_
        refine CW.seq (CW.reg ?_)
        refine WL.ev rfl rfl (Ev.as rfl rfl) (WL.nil ?_)
        refine CW.fresh [(6, .bool false), (12, .pointer (some ⟨b7, 0, none⟩)), (14, .int .i64 (1 + (MkT.cntT ((sSummaryOf_m g r c).getD ⟨0, []⟩) : Nat))), (15, .int .i64 (1))] ⟨rfl, rfl, rfl, rfl, trivial⟩ fun σ => ?_
        refine CW.seq (CW.reg ?_)
        refine WL.ev rfl rfl (Ev.lda rfl ag79 sz79 rfl (At.blk (hT101.ext hEw33)) (Rep.len (Sep.own_rd (own_ext hT100 hEw33)))) (WL.ev rfl rfl (Ev.mv rfl rfl) ?_)
        refine WL.call rfl rfl rfl rfl rfl ok50 rfl (heldRelation_spec _ (MkT.mrkT ((sSummaryOf_m g r c).getD ⟨0, []⟩) 1) (Sep.own_rd (own_ext hT100 hEw33)) 1 (by omega) (by rw [MkT.cmT]; have := cnt_summary g r c (by omega) (by omega); omega)) ?_
        rintro _ w34 hEw34 ⟨r5, rfl, hr8⟩
        rw [MkT.lawT] at hr8
        have := hr8.is
        refine WL.ev rfl rfl (Ev.as rfl rfl) (WL.nil ?_)
        refine CW.fresh [(6, .bool false), (14, .int .i64 (1 + (MkT.cntT ((sSummaryOf_m g r c).getD ⟨0, []⟩) : Nat))), (15, .int .i64 (r5))] ⟨rfl, rfl, rfl, trivial⟩ fun σ => ?_
        refine CW.seq (CW.seq (CW.reg ?_))
        refine WL.ev rfl rfl (Ev.mv rfl rfl) (WL.ev rfl rfl (Ev.bin rfl rfl rfl (Bin.no (by omega))) (WL.nil ?_))
        refine CW.condF rfl ?_
        refine CW.skip ?_
        refine CW.fresh [(6, .bool false), (14, .int .i64 (1 + (MkT.cntT ((sSummaryOf_m g r c).getD ⟨0, []⟩) : Nat))), (15, .int .i64 (r5))] ⟨rfl, rfl, rfl, trivial⟩ fun σ => ?_
        refine CW.seq (CW.seq (CW.reg ?_))
        refine WL.ev rfl rfl (Ev.mv rfl rfl) (WL.ev rfl rfl (Ev.mv rfl rfl) (WL.ev rfl rfl (Ev.bin rfl rfl rfl (Bin.neqSame (by omega))) (WL.nil ?_)))
        refine CW.condF rfl ?_
        refine CW.skip ?_
        refine CW.fresh [(6, .bool false)] ⟨rfl, trivial⟩ fun σ => ?_
        refine CW.seq (CW.reg ?_)
        refine WL.ev rfl rfl (Ev.as rfl rfl) (WL.nil ?_)
        refine CW.ret ?_
        exact ⟨_, res1 rfl rfl rfl, ((hX10.trans hEw33).trans hEw34), rfl⟩

section
open Go.ChangeShapes Go.WideShapes Go.ChangeAt Go.RowKit
theorem own_knob : ownKnob Try.prog.godebug = none := by kernel_rfl
theorem laid_out : laidOutB Try.prog = true := by kernel_rfl
set_option maxRecDepth 100000 in
theorem fnExactSummaryOf_lifted (os : Os) (started : os.Started) (H : Type) (enc : TypeId × Value → H) :
    ReturnsInHanded {} Try.checked os 9 .any (Rows.fnExactSummaryOfSpec.pre6 enc Try.prog Try.f9 Rows.fnExactSummaryOfRow.domain false) (Rows.fnExactSummaryOfSpec.post enc Try.prog Try.f9 false true false false) := by
  refine returnsInHanded_of_change (C := Try.checked) own_knob started (by kernel_rfl) Try.func9
    (ChangeSpec.witness6 (enc := enc) (C := Try.checked) false ⟨#[], #[.agg #[.slice none 0 0, .slice none 0 0], .agg #[.string ⟨#[]⟩, .string ⟨#[]⟩, .slice none 0 0, .bool false, .slice none 0 0, .slice none 0 0], .agg #[.int .i64 0, .slice none 0 0]], []⟩ 8 (by kernel_rfl) (by kernel_rfl) (by kernel_rfl) (by kernel_rfl)) ?_
  intro W base args ds gs before hval0 hW hcnd _
  have hval : ∀ (j : Nat) t v, Try.f9.params[j]? = some t → args[j]? = some v → Value.okWide Try.prog W .any base t v := hval0
  have hW' := hW
  obtain ⟨p, q, hA0, hV, rfl, hfz, hnd⟩ := hW
  have hA : DataW.TrodAll enc Try.prog W 0 (fun _ => true) true Try.f9.params.toList args.toList ds p := hA0
  rw [Try.params9] at hA hval
  obtain ⟨v0, vs0, d0, ds0, p0, q0, hargs, rfl, rfl, t0, r0⟩ := trodAll_cons hA
  obtain ⟨v1, vs1, d1, ds1, p1, q1, rfl, rfl, rfl, t1, r1⟩ := trodAll_cons r0
  obtain ⟨v2, vs2, d2, ds2, p2, q2, rfl, rfl, rfl, t2, r2⟩ := trodAll_cons r1
  obtain ⟨rfl, rfl, rfl⟩ := trodAll_nil r2
  obtain rfl : args = #[v0, v1, v2] := by cases args; simp_all
  obtain ⟨rfl, rfl⟩ := trodVars_none hV
  have k0 := t0
  have lt0 : ∀ x ∈ p0, x.block < W.heap.size := by obtain ⟨m, hm⟩ := k0; exact DataW.trod_lt m _ _ _ hm
  obtain ⟨m0, hm0⟩ := t0
  obtain ⟨a0, ha0⟩ := open41.2 _ _ _ _ _ _ _ _ _ hm0
  obtain ⟨⟨c0⟩, rfl, _⟩ := okWide_struct Try.underlying41 (hval 0 41 v0 rfl rfl)
  have k1 := t1
  have lt1 : ∀ x ∈ p1, x.block < W.heap.size := by obtain ⟨m, hm⟩ := k1; exact DataW.trod_lt m _ _ _ hm
  obtain ⟨m1, hm1⟩ := t1
  obtain ⟨a1, ha1⟩ := open59.2 _ _ _ _ _ _ _ _ _ hm1
  obtain ⟨⟨c1⟩, rfl, _⟩ := okWide_struct Try.underlying59 (hval 1 59 v1 rfl rfl)
  have k2 := t2
  have lt2 : ∀ x ∈ p2, x.block < W.heap.size := by obtain ⟨m, hm⟩ := k2; exact DataW.trod_lt m _ _ _ hm
  obtain ⟨m2, hm2⟩ := t2
  obtain ⟨a2, ha2⟩ := open77.2 _ _ _ _ _ _ _ _ _ hm2
  obtain ⟨⟨c2⟩, rfl, _⟩ := okWide_struct Try.underlying77 (hval 2 77 v2 rfl rfl)
  clear hA0 hval0
  refine Calls.mono (FnExactSummaryOf_law W a0 ha0 a1 ha1 a2 ha2) fun e W' ⟨v, he, hch, hv⟩ => ?_
  subst he; subst hv
  have bel := Ext.below hch
  exact ⟨_, rfl, _, _, _, [], _, [], hW', trodAll_mk1 (shut_bool Try.underlying4 _), (trodAll_cons_mk (Below.trod laid_out (by kernel_rfl) (of_decide_eq_true (by kernel_rfl)) k0 bel lt0) (trodAll_cons_mk (Below.trod laid_out (by kernel_rfl) (of_decide_eq_true (by kernel_rfl)) k1 bel lt1) (trodAll_cons_mk (Below.trod laid_out (by kernel_rfl) (of_decide_eq_true (by kernel_rfl)) k2 bel lt2) trodAll_mk0))), rfl, bel.frame _, fun h => by cases h⟩
theorem fnExactSummaryOf_holds : Rows.FnExactSummaryOfSaid :=
  OpenClaim.holds_of_wide 9 Try.f9 rfl rfl rfl rfl rfl rfl rfl ⟨rfl, rfl, rfl, rfl, rfl⟩ rfl rfl rfl rfl rfl (by kernel_rfl) Try.func9 (by kernel_rfl)
    (of_decide_eq_true (by kernel_rfl)) (by unfold Func.isWrapper; first | (rw [if_pos (by decide +kernel)]; kernel_rfl) | (rw [if_neg (by decide +kernel)]; exact ⟨rfl, rfl⟩))
    (fun os started H enc _ => fnExactSummaryOf_lifted os started H enc)
end
end Go.Proofs.Ytfnnadlahlkkoaa
