/- The law FnExactCheckRulePlan returns true for all arguments and leaves them as they were; there is no condition. -/
import Derived.Test.YtonnooljidombaaGreatRows
import Derived.Test.YtonnooljidombaaGreatMathMTz
import Derived.Test.YtonnooljidombaaGreatHelpb
set_option linter.unusedVariables false
set_option linter.unusedSimpArgs false
set_option linter.ambiguousOpen false
set_option linter.unusedSectionVars false
set_option linter.unnecessarySimpa false
set_option linter.unusedVariables false
set_option linter.unusedSimpArgs false
set_option maxRecDepth 100000
set_option maxHeartbeats 1000000
namespace Go.Proofs.YtonnooljidombaaGreat
open Go Go.E
open Go.E.Rep (rd)
open Go.E.Sep (own)
theorem ag25 : aggT Tryz.prog 25 = some true := by kernel_rfl
theorem sz25 : szT Tryz.prog 25 = some 2 := by kernel_rfl
theorem ok7 : callable Tryz.prog 7 = true := by kernel_rfl
theorem ok10 : callable Tryz.prog 10 = true := by kernel_rfl
theorem ok14 : callable Tryz.prog 14 = true := by kernel_rfl
theorem ok20 : callable Tryz.prog 20 = true := by kernel_rfl
theorem ok21 : callable Tryz.prog 21 = true := by kernel_rfl
theorem ok22 : callable Tryz.prog 22 = true := by kernel_rfl
theorem ok23 : callable Tryz.prog 23 = true := by kernel_rfl
theorem ok24 : callable Tryz.prog 24 = true := by kernel_rfl
theorem ok25 : callable Tryz.prog 25 = true := by kernel_rfl
theorem ok26 : callable Tryz.prog 26 = true := by kernel_rfl
theorem ok27 : callable Tryz.prog 27 = true := by kernel_rfl
theorem sCheckRulePlan_spec (w : World) {S1 : Nat → Prop} {S2 : Nat → Prop} {S3 : Nat → Prop} {S4 : Nat → Prop} (g : Grammar) {cg : List Value} (hg : rd S1 w g cg) (bg : Sz.szd g ≤ 1048576) (p : List (List Phase)) {zp : Value} (hp : rdS S2 w p zp) (bp : szL p ≤ 1048576) (r : Rule) {cr : List Value} (hr : rd S3 w r cr) (br : Sz.szd r ≤ 1048576) (t : List Step) {zt : Value} (ht : rdS S4 w t zt) (bt : szL t ≤ 1048576) :
    Ret Tryz.prog 22 #[.agg cg.toArray, zp, .agg cr.toArray, zt] w (fun _ => False) fun v w' => v = .bool ((sCheckRulePlan_m g p r t).getD false) := by
  obtain ⟨b, h1, h2⟩ := plan_both (g := g) (ph := p) (r := r) (st := t) bg bp br (by have := szL_length t; omega)
  have hx : (sCheckRulePlan_m g p r t).getD false = b := by rw [h1]; rfl
  rw [hx]
  exact sCheckRulePlan_ok h1 (F0 := fun _ => True) (Rep.mono hg fun _ _ => trivial) (hp.mono fun _ _ => trivial) (Rep.mono hr fun _ _ => trivial) (ht.mono fun _ _ => trivial)

theorem iCheckRulePlan_spec (w : World) {S1 : Nat → Prop} {S2 : Nat → Prop} {S3 : Nat → Prop} {S4 : Nat → Prop} (g : Grammar) {cg : List Value} (hg : rd S1 w g cg) (bg : Sz.szd g ≤ 1048576) (p : List (List Phase)) {zp : Value} (hp : rdS S2 w p zp) (bp : szL p ≤ 1048576) (r : Rule) {cr : List Value} (hr : rd S3 w r cr) (br : Sz.szd r ≤ 1048576) (t : List Step) {zt : Value} (ht : rdS S4 w t zt) (bt : szL t ≤ 1048576) :
    Ret Tryz.prog 25 #[.agg cg.toArray, zp, .agg cr.toArray, zt] w (fun _ => False) fun v w' => v = .bool ((sCheckRulePlan_m g p r t).getD false) := by
  obtain ⟨b, h1, h2⟩ := plan_both (g := g) (ph := p) (r := r) (st := t) bg bp br (by have := szL_length t; omega)
  have hx : (sCheckRulePlan_m g p r t).getD false = b := by rw [h1]; rfl
  rw [hx]
  exact iCheckRulePlan_ok h2 (F0 := fun _ => True) (Rep.mono hg fun _ _ => trivial) (hp.mono fun _ _ => trivial) (Rep.mono hr fun _ _ => trivial) (ht.mono fun _ _ => trivial)

theorem FnExactCheckRulePlan_law (w : World) {Sg : Nat → Prop} (g : Grammar) {cg : List Value} (hg : rd Sg w g cg) {Sp : Nat → Prop} (p : List (List Phase)) {zp : Value} (hp : rdS Sp w p zp) {Sr : Nat → Prop} (r : Rule) {cr : List Value} (hr : rd Sr w r cr) {St : Nat → Prop} (t : List Step) {zt : Value} (ht : rdS St w t zt) :
    Ret Tryz.prog 4 #[.agg cg.toArray, zp, .agg cr.toArray, zt] w (fun _ => False) fun v _ => v = .bool true := by
  refine enter Tryz.func4 rfl rfl rfl ?_
  have hK1 := hg
  obtain ⟨v1, v2, rfl, hs1, hs2⟩ := hg
  obtain ⟨A1, c1, rfl, hc1, hm1⟩ := hs1.form
  obtain ⟨A2, c2, rfl, hc2, hm2⟩ := hs2.form
  have qg := Grammar_szd g
  obtain ⟨A3, c3, rfl, hc3, hm3⟩ := hp.form
  have hl1 : p.length ≤ 9223372036854775807 := Nat.le_trans hc3 hm3
  have np := szL_length p
  have qp := szfold p
  have hK2 := hr
  obtain ⟨v3, v4, v5, rfl, hr1, hr2, hs3, hs4, hs5⟩ := hr
  obtain ⟨A4, c4, rfl, hc4, hm4⟩ := hs3.form
  obtain ⟨A5, c5, rfl, hc5, hm5⟩ := hs4.form
  obtain ⟨A6, c6, rfl, hc6, hm6⟩ := hs5.form
  have qr := Rule_szd r
  obtain ⟨A7, c7, rfl, hc7, hm7⟩ := ht.form
  have hl2 : t.length ≤ 9223372036854775807 := Nat.le_trans hc7 hm7
  have nt := szL_length t
  have qt := szfold t
  refine Sreg ?_
  refine WL.box rfl rfl rfl rfl rfl fun b1 w1 hEb1 hbb1 hBb1 => ?_
  refine WL.box rfl rfl rfl rfl rfl fun b2 w2 hEb2 hbb2 hBb2 => ?_
  refine Wsn rfl rfl rfl rfl ?_
  refine Sreg ?_
  refine Wsn rfl rfl rfl rfl ?_
  refine Sreg ?_
  refine WL.ev rfl rfl (Ev.lda rfl ag25 sz25 rfl (At.blk (hBb1.ext hEb2)) rfl) (Wmv rfl rfl rfl rfl ?_)
  refine WL.call rfl rfl rfl rfl rfl ok7 rfl (szGrammar_spec _ g (rd_ext hK1 (hEb1.trans hEb2)) _ (by omega) (by omega)) ?_
  rintro _ w3 hEw3 ⟨r1, rfl, hr3⟩
  have hq1 := Grammar_szd g
  refine Wsn rfl rfl rfl rfl ?_
  refine CW.fresh [(1, .slice A3 p.length c3), (3, .slice A7 t.length c7), (4, .pointer (some ⟨b1, 0, none⟩)), (6, .pointer (some ⟨b2, 0, none⟩)), (8, .bool false), (9, .int .i64 (r1))] ⟨rfl, rfl, rfl, rfl, rfl, rfl, trivial⟩ fun σ => ?_
  refine SSr ?_
  refine Wmv rfl rfl rfl rfl (WL.ev rfl rfl (Ev.bin rfl rfl rfl Bin.lss) (WL.nil ?_))
  refine CW.condD rfl (fun h1 => ?_) (fun h1 => ?_)
  · refine CW.fresh [(1, .slice A3 p.length c3), (3, .slice A7 t.length c7), (4, .pointer (some ⟨b1, 0, none⟩)), (6, .pointer (some ⟨b2, 0, none⟩)), (8, .bool false), (9, .int .i64 (r1))] ⟨rfl, rfl, rfl, rfl, rfl, rfl, trivial⟩ fun σ => ?_
    refine Sreg ?_
    refine Wsn rfl rfl rfl rfl ?_
    refine CW.ret ?_
    exact ⟨_, res1 rfl rfl rfl, ((hEb1.trans hEb2).trans hEw3), rfl⟩
  · refine CW.skip ?_
    refine CW.fresh [(1, .slice A3 p.length c3), (3, .slice A7 t.length c7), (4, .pointer (some ⟨b1, 0, none⟩)), (6, .pointer (some ⟨b2, 0, none⟩)), (8, .bool false), (9, .int .i64 (r1))] ⟨rfl, rfl, rfl, rfl, rfl, rfl, trivial⟩ fun σ => ?_
    refine Sreg ?_
    refine Wmv rfl rfl rfl rfl (Wmv rfl rfl rfl rfl ?_)
    refine WL.call rfl rfl rfl rfl rfl ok20 rfl (szPhaseSS_spec _ p (hp.ext ((hEb1.trans hEb2).trans hEw3)) _ (by omega) (by omega)) ?_
    rintro _ w4 hEw4 ⟨r2, rfl, hr4⟩
    have hq2 := szfold p
    refine Wsn rfl rfl rfl rfl ?_
    refine CW.fresh [(1, .slice A3 p.length c3), (3, .slice A7 t.length c7), (4, .pointer (some ⟨b1, 0, none⟩)), (6, .pointer (some ⟨b2, 0, none⟩)), (8, .bool false), (9, .int .i64 (r2))] ⟨rfl, rfl, rfl, rfl, rfl, rfl, trivial⟩ fun σ => ?_
    refine SSr ?_
    refine Wmv rfl rfl rfl rfl (WL.ev rfl rfl (Ev.bin rfl rfl rfl Bin.lss) (WL.nil ?_))
    refine CW.condD rfl (fun h2 => ?_) (fun h2 => ?_)
    · refine CW.fresh [(1, .slice A3 p.length c3), (3, .slice A7 t.length c7), (4, .pointer (some ⟨b1, 0, none⟩)), (6, .pointer (some ⟨b2, 0, none⟩)), (8, .bool false), (9, .int .i64 (r2))] ⟨rfl, rfl, rfl, rfl, rfl, rfl, trivial⟩ fun σ => ?_
      refine Sreg ?_
      refine Wsn rfl rfl rfl rfl ?_
      refine CW.ret ?_
      exact ⟨_, res1 rfl rfl rfl, (((hEb1.trans hEb2).trans hEw3).trans hEw4), rfl⟩
    · refine CW.skip ?_
      refine CW.fresh [(1, .slice A3 p.length c3), (3, .slice A7 t.length c7), (4, .pointer (some ⟨b1, 0, none⟩)), (6, .pointer (some ⟨b2, 0, none⟩)), (8, .bool false), (9, .int .i64 (r2))] ⟨rfl, rfl, rfl, rfl, rfl, rfl, trivial⟩ fun σ => ?_
      refine Sreg ?_
      refine WL.ev rfl rfl (Ev.lda rfl ag30 sz30 rfl (At.blk (hBb2.ext (hEw3.trans hEw4))) rfl) (Wmv rfl rfl rfl rfl ?_)
      refine WL.call rfl rfl rfl rfl rfl ok8 rfl (szRule_spec _ r (rd_ext hK2 (((hEb1.trans hEb2).trans hEw3).trans hEw4)) _ (by omega) (by omega)) ?_
      rintro _ w5 hEw5 ⟨r3, rfl, hr5⟩
      have hq3 := Rule_szd r
      refine Wsn rfl rfl rfl rfl ?_
      refine CW.fresh [(1, .slice A3 p.length c3), (3, .slice A7 t.length c7), (4, .pointer (some ⟨b1, 0, none⟩)), (6, .pointer (some ⟨b2, 0, none⟩)), (8, .bool false), (9, .int .i64 (r3))] ⟨rfl, rfl, rfl, rfl, rfl, rfl, trivial⟩ fun σ => ?_
      refine SSr ?_
      refine Wmv rfl rfl rfl rfl (WL.ev rfl rfl (Ev.bin rfl rfl rfl Bin.lss) (WL.nil ?_))
      refine CW.condD rfl (fun h3 => ?_) (fun h3 => ?_)
      · refine CW.fresh [(1, .slice A3 p.length c3), (3, .slice A7 t.length c7), (4, .pointer (some ⟨b1, 0, none⟩)), (6, .pointer (some ⟨b2, 0, none⟩)), (8, .bool false), (9, .int .i64 (r3))] ⟨rfl, rfl, rfl, rfl, rfl, rfl, trivial⟩ fun σ => ?_
        refine Sreg ?_
        refine Wsn rfl rfl rfl rfl ?_
        refine CW.ret ?_
        exact ⟨_, res1 rfl rfl rfl, ((((hEb1.trans hEb2).trans hEw3).trans hEw4).trans hEw5), rfl⟩
      · refine CW.skip ?_
        refine CW.fresh [(1, .slice A3 p.length c3), (3, .slice A7 t.length c7), (4, .pointer (some ⟨b1, 0, none⟩)), (6, .pointer (some ⟨b2, 0, none⟩)), (8, .bool false), (9, .int .i64 (r3))] ⟨rfl, rfl, rfl, rfl, rfl, rfl, trivial⟩ fun σ => ?_
        refine Sreg ?_
        refine Wmv rfl rfl rfl rfl (Wmv rfl rfl rfl rfl ?_)
        refine WL.call rfl rfl rfl rfl rfl ok21 rfl (szStepS_spec _ t (ht.ext ((((hEb1.trans hEb2).trans hEw3).trans hEw4).trans hEw5)) _ (by omega) (by omega)) ?_
        rintro _ w6 hEw6 ⟨r4, rfl, hr6⟩
        have hq4 := szfold t
        refine Wsn rfl rfl rfl rfl ?_
        refine CW.fresh [(1, .slice A3 p.length c3), (3, .slice A7 t.length c7), (4, .pointer (some ⟨b1, 0, none⟩)), (6, .pointer (some ⟨b2, 0, none⟩)), (8, .bool false), (9, .int .i64 (r4))] ⟨rfl, rfl, rfl, rfl, rfl, rfl, trivial⟩ fun σ => ?_
        refine SSr ?_
        refine Wmv rfl rfl rfl rfl (WL.ev rfl rfl (Ev.bin rfl rfl rfl Bin.lss) (WL.nil ?_))
        refine CW.condD rfl (fun h4 => ?_) (fun h4 => ?_)
        · refine CW.fresh [(1, .slice A3 p.length c3), (3, .slice A7 t.length c7), (4, .pointer (some ⟨b1, 0, none⟩)), (6, .pointer (some ⟨b2, 0, none⟩)), (8, .bool false)] ⟨rfl, rfl, rfl, rfl, rfl, trivial⟩ fun σ => ?_
          refine Sreg ?_
          refine Wsn rfl rfl rfl rfl ?_
          refine CW.ret ?_
          exact ⟨_, res1 rfl rfl rfl, (((((hEb1.trans hEb2).trans hEw3).trans hEw4).trans hEw5).trans hEw6), rfl⟩
        · refine CW.skip ?_
          refine CW.fresh [(1, .slice A3 p.length c3), (3, .slice A7 t.length c7), (4, .pointer (some ⟨b1, 0, none⟩)), (6, .pointer (some ⟨b2, 0, none⟩)), (8, .bool false)] ⟨rfl, rfl, rfl, rfl, rfl, trivial⟩ fun σ => ?_
          refine CW.seq (CW.anyE 9 (fun ρ => [.inl (.agg #[.slice A1 g.Symbols.length c1, .slice A2 g.Rules.length c2]), .inr (fun S v w => ∃ cs : List Value, v = .agg cs.toArray ∧ rd S w (g) cs), .inl (ρ 1), .inr (fun S v w => rdS S w (p) v), .inl (.agg #[.string (r.Name), .string (r.Left), .slice A4 r.Right.length c4, .bool (r.Literal), .slice A5 r.Equations.length c5, .slice A6 r.Contributions.length c6]), .inr (fun S v w => ∃ cs : List Value, v = .agg cs.toArray ∧ rd S w (r) cs), .inl (ρ 3), .inr (fun S v w => rdS S w (t) v), .inl (.bool ((sCheckRulePlan_m g p r t).getD false))]) hmix (by kernel_rfl) ⟨trivial, fun _ _ _ _ ⟨cs, e, h⟩ hE => ⟨cs, e, rd_ext h hE⟩, trivial, fun _ _ _ _ h hE => h.ext hE, trivial, fun _ _ _ _ ⟨cs, e, h⟩ hE => ⟨cs, e, rd_ext h hE⟩, trivial, fun _ _ _ _ h hE => h.ext hE, trivial, trivial⟩ ?_)
          refine LL.fx rfl rfl rfl (fun _ hq hK => Ev.lda rfl ag25 sz25 rfl (At.blk (hBb1.ext (((((hEb2.trans hEw3).trans hEw4).trans hEw5).trans hEw6).trans hq))) rfl) ?_
          refine LL.free rfl rfl (fun wq hq hK => ?_) (fun v_1_1 S_1_1 => ?_)
          · refine OpX.call rfl rfl rfl rfl ok10 rfl (toGrammar_spec _ g (rd_ext hK1 ((((((hEb1.trans hEb2).trans hEw3).trans hEw4).trans hEw5).trans hEw6).trans hq)) (by omega)) ?_
            rintro v w' hE ⟨cs, rfl, h⟩
            exact ⟨hE, cs, rfl, New.rd h⟩
          refine LL.fx rfl rfl rfl (fun _ hq hK => Ev.mv rfl rfl) ?_
          refine LL.free rfl rfl (fun wq hq hK => ?_) (fun v_1_3 S_1_3 => ?_)
          · refine OpX.call rfl rfl rfl rfl ok23 rfl (toPhaseSS_spec _ p (hp.ext ((((((hEb1.trans hEb2).trans hEw3).trans hEw4).trans hEw5).trans hEw6).trans hq)) (by omega)) ?_
            intro v w' hE h
            exact ⟨hE, NewS.rd h⟩
          refine LL.fx rfl rfl rfl (fun _ hq hK => Ev.lda rfl ag30 sz30 rfl (At.blk (hBb2.ext ((((hEw3.trans hEw4).trans hEw5).trans hEw6).trans hq))) rfl) ?_
          refine LL.free rfl rfl (fun wq hq hK => ?_) (fun v_1_5 S_1_5 => ?_)
          · refine OpX.call rfl rfl rfl rfl ok11 rfl (toRule_spec _ r (rd_ext hK2 ((((((hEb1.trans hEb2).trans hEw3).trans hEw4).trans hEw5).trans hEw6).trans hq)) (by omega)) ?_
            rintro v w' hE ⟨cs, rfl, h⟩
            exact ⟨hE, cs, rfl, New.rd h⟩
          refine LL.fx rfl rfl rfl (fun _ hq hK => Ev.mv rfl rfl) ?_
          refine LL.free rfl rfl (fun wq hq hK => ?_) (fun v_1_7 S_1_7 => ?_)
          · refine OpX.call rfl rfl rfl rfl ok24 rfl (toStepS_spec _ t (ht.ext ((((((hEb1.trans hEb2).trans hEw3).trans hEw4).trans hEw5).trans hEw6).trans hq)) (by omega)) ?_
            intro v w' hE h
            exact ⟨hE, NewS.rd h⟩
          refine LL.fixed rfl rfl (fun wq hq hK => ?_) ?_
          · obtain ⟨cs1, e1, hd1⟩ : ∃ cs : List Value, v_1_1 = .agg cs.toArray ∧ rd S_1_1 wq (g) cs := hK 1 rfl
            subst e1
            have hd3 : rdS S_1_3 wq (p) v_1_3 := hK 3 rfl
            obtain ⟨cs5, e5, hd5⟩ : ∃ cs : List Value, v_1_5 = .agg cs.toArray ∧ rd S_1_5 wq (r) cs := hK 5 rfl
            subst e5
            have hd7 : rdS S_1_7 wq (t) v_1_7 := hK 7 rfl
            refine OpX.call rfl rfl rfl rfl ok22 rfl (sCheckRulePlan_spec _ g hd1 (by omega) p hd3 (by omega) r hd5 (by omega) t hd7 (by omega)) ?_
            rintro v w' hE rfl
            exact ⟨hE, rfl⟩
          intro w7 hEw7 hKr1 hap1 hbd1
          have hs_1_1 : ∀ q, S_1_1 q → w6.heap.size ≤ q ∧ q < w7.heap.size := fun q hq => hbd1 1 q hq
          have hs_1_3 : ∀ q, S_1_3 q → w6.heap.size ≤ q ∧ q < w7.heap.size := fun q hq => hbd1 3 q hq
          have hs_1_5 : ∀ q, S_1_5 q → w6.heap.size ≤ q ∧ q < w7.heap.size := fun q hq => hbd1 5 q hq
          have hs_1_7 : ∀ q, S_1_7 q → w6.heap.size ≤ q ∧ q < w7.heap.size := fun q hq => hbd1 7 q hq
          refine Wsn rfl rfl rfl rfl ?_
          refine CW.fresh [(1, .slice A3 p.length c3), (3, .slice A7 t.length c7), (4, .pointer (some ⟨b1, 0, none⟩)), (6, .pointer (some ⟨b2, 0, none⟩)), (8, .bool false), (10, .bool ((sCheckRulePlan_m g p r t).getD false))] ⟨rfl, rfl, rfl, rfl, rfl, rfl, trivial⟩ fun σ => ?_
          refine Sreg ?_
          refine WL.ev rfl rfl (Ev.lda rfl ag25 sz25 rfl (At.blk (hBb1.ext (((((hEb2.trans hEw3).trans hEw4).trans hEw5).trans hEw6).trans hEw7))) rfl) ?_
          refine WL.call rfl rfl rfl rfl rfl ok10 rfl (toGrammar_spec _ g (rd_ext hK1 ((((((hEb1.trans hEb2).trans hEw3).trans hEw4).trans hEw5).trans hEw6).trans hEw7)) (by omega)) ?_
          rintro _ w8 hEw8 ⟨cs3, rfl, L5, hO5, hN5, hF5⟩
          refine WL.alloc rfl rfl rfl ze40 fun b3 w9 hEb3 hbb3 hBb3 => ?_
          refine WL.stW rfl rfl rfl sz40 rfl rfl rfl (Rep.len (Sep.own_rd (own_ext hO5 hEb3))) (Rep.one (Sep.own_rd (own_ext hO5 hEb3))) hBb3 rfl fun w10 hCw10 hB_1 => ?_
          have hT1 := Blk.chg1 (hBb1.ext (((((((hEb2.trans hEw3).trans hEw4).trans hEw5).trans hEw6).trans hEw7).trans hEw8).trans hEb3)) hCw10 (by have := hBb1.lt; have := hbb3; have := hEb2.size; have := hEw3.size; have := hEw4.size; have := hEw5.size; have := hEw6.size; have := hEw7.size; have := hEw8.size; omega)
          have hT2 := Blk.chg1 (hBb2.ext ((((((hEw3.trans hEw4).trans hEw5).trans hEw6).trans hEw7).trans hEw8).trans hEb3)) hCw10 (by have := hBb2.lt; have := hbb3; have := hEw3.size; have := hEw4.size; have := hEw5.size; have := hEw6.size; have := hEw7.size; have := hEw8.size; omega)
          have hT3 := own_chg1 (own_ext hO5 hEb3) hCw10 (fun q hq e => by subst e; have := Sep.own_lt hO5 _ hq; have := hbb3; omega)
          have hX1 := Ext.chg1 ((((((((hEb1.trans hEb2).trans hEw3).trans hEw4).trans hEw5).trans hEw6).trans hEw7).trans hEw8).trans hEb3) hCw10 (by have := hbb3; have := hEb1.size; have := hEb2.size; have := hEw3.size; have := hEw4.size; have := hEw5.size; have := hEw6.size; have := hEw7.size; have := hEw8.size; omega)
          refine WL.nil ?_
          refine CW.fresh [(1, .slice A3 p.length c3), (3, .slice A7 t.length c7), (4, .pointer (some ⟨b1, 0, none⟩)), (6, .pointer (some ⟨b2, 0, none⟩)), (8, .bool false), (10, .bool ((sCheckRulePlan_m g p r t).getD false)), (11, .pointer (some ⟨b3, 0, none⟩))] ⟨rfl, rfl, rfl, rfl, rfl, rfl, rfl, trivial⟩ fun σ => ?_
          refine Sreg ?_
          refine Wmv rfl rfl rfl rfl ?_
          refine WL.call rfl rfl rfl rfl rfl ok23 rfl (toPhaseSS_spec _ p (hp.ext hX1) (by omega)) ?_
          rintro v8 w11 hEw11 ⟨L6, hO6, hN6, hF6⟩
          obtain ⟨A10, c10, rfl, hc10, hm10⟩ := hO6.form
          refine Wsn rfl rfl rfl rfl ?_
          refine CW.fresh [(1, .slice A3 p.length c3), (3, .slice A7 t.length c7), (4, .pointer (some ⟨b1, 0, none⟩)), (6, .pointer (some ⟨b2, 0, none⟩)), (8, .bool false), (10, .bool ((sCheckRulePlan_m g p r t).getD false)), (11, .pointer (some ⟨b3, 0, none⟩)), (12, .slice A10 (p).length c10)] ⟨rfl, rfl, rfl, rfl, rfl, rfl, rfl, rfl, trivial⟩ fun σ => ?_
          refine Sreg ?_
          refine WL.ev rfl rfl (Ev.lda rfl ag30 sz30 rfl (At.blk (hT2.ext hEw11)) rfl) ?_
          refine WL.call rfl rfl rfl rfl rfl ok11 rfl (toRule_spec _ r (rd_ext hK2 (hX1.trans hEw11)) (by omega)) ?_
          rintro _ w12 hEw12 ⟨cs4, rfl, L7, hO7, hN7, hF7⟩
          refine WL.alloc rfl rfl rfl ze45 fun b4 w13 hEb4 hbb4 hBb4 => ?_
          refine WL.stW rfl rfl rfl sz45 rfl rfl rfl (Rep.len (Sep.own_rd (own_ext hO7 hEb4))) (Rep.one (Sep.own_rd (own_ext hO7 hEb4))) hBb4 rfl fun w14 hCw14 hB_2 => ?_
          have hT4 := Blk.chg1 (hT1.ext ((hEw11.trans hEw12).trans hEb4)) hCw14 (by have := hBb1.lt; have := hbb4; have := hEb2.size; have := hEw3.size; have := hEw4.size; have := hEw5.size; have := hEw6.size; have := hEw7.size; have := hEw8.size; have := hEb3.size; have := hCw10.size; have := hEw11.size; have := hEw12.size; omega)
          have hT5 := Blk.chg1 (hT2.ext ((hEw11.trans hEw12).trans hEb4)) hCw14 (by have := hBb2.lt; have := hbb4; have := hEw3.size; have := hEw4.size; have := hEw5.size; have := hEw6.size; have := hEw7.size; have := hEw8.size; have := hEb3.size; have := hCw10.size; have := hEw11.size; have := hEw12.size; omega)
          have hT6 := own_chg1 (own_ext hT3 ((hEw11.trans hEw12).trans hEb4)) hCw14 (fun q hq e => by subst e; have := Sep.own_lt hO5 _ hq; have := hbb4; have := hEb3.size; have := hCw10.size; have := hEw11.size; have := hEw12.size; omega)
          have hT7 := Blk.chg1 (hB_1.ext ((hEw11.trans hEw12).trans hEb4)) hCw14 (by have := hBb3.lt; have := hbb4; have := hCw10.size; have := hEw11.size; have := hEw12.size; omega)
          have hT8 := ownS.chg1 (hO6.ext (hEw12.trans hEb4)) hCw14 (fun q hq e => by subst e; have := hO6.lt _ hq; have := hbb4; have := hEw12.size; omega)
          have hT9 := own_chg1 (own_ext hO7 hEb4) hCw14 (fun q hq e => by subst e; have := Sep.own_lt hO7 _ hq; have := hbb4; omega)
          have hX2 := Ext.chg1 (((hX1.trans hEw11).trans hEw12).trans hEb4) hCw14 (by have := hbb4; have := hEb1.size; have := hEb2.size; have := hEw3.size; have := hEw4.size; have := hEw5.size; have := hEw6.size; have := hEw7.size; have := hEw8.size; have := hEb3.size; have := hCw10.size; have := hEw11.size; have := hEw12.size; omega)
          refine WL.nil ?_
          refine CW.fresh [(1, .slice A3 p.length c3), (3, .slice A7 t.length c7), (4, .pointer (some ⟨b1, 0, none⟩)), (6, .pointer (some ⟨b2, 0, none⟩)), (8, .bool false), (10, .bool ((sCheckRulePlan_m g p r t).getD false)), (11, .pointer (some ⟨b3, 0, none⟩)), (12, .slice A10 (p).length c10), (13, .pointer (some ⟨b4, 0, none⟩))] ⟨rfl, rfl, rfl, rfl, rfl, rfl, rfl, rfl, rfl, trivial⟩ fun σ => ?_
          refine Sreg ?_
          refine Wmv rfl rfl rfl rfl ?_
          refine WL.call rfl rfl rfl rfl rfl ok24 rfl (toStepS_spec _ t (ht.ext hX2) (by omega)) ?_
          rintro v9 w15 hEw15 ⟨L8, hO8, hN8, hF8⟩
          obtain ⟨A11, c11, rfl, hc11, hm11⟩ := hO8.form
          refine Wsn rfl rfl rfl rfl ?_
          refine CW.fresh [(1, .slice A3 p.length c3), (3, .slice A7 t.length c7), (4, .pointer (some ⟨b1, 0, none⟩)), (6, .pointer (some ⟨b2, 0, none⟩)), (8, .bool false), (10, .bool ((sCheckRulePlan_m g p r t).getD false)), (11, .pointer (some ⟨b3, 0, none⟩)), (12, .slice A10 (p).length c10), (13, .pointer (some ⟨b4, 0, none⟩)), (14, .slice A11 (t).length c11)] ⟨rfl, rfl, rfl, rfl, rfl, rfl, rfl, rfl, rfl, rfl, trivial⟩ fun σ => ?_
          refine Sreg ?_
          refine WL.ev rfl rfl (Ev.lda rfl ag40 sz40 rfl (At.blk (hT7.ext hEw15)) (Rep.len (Sep.own_rd (own_ext hT6 hEw15)))) (Wmv rfl rfl rfl rfl (WL.ev rfl rfl (Ev.lda rfl ag45 sz45 rfl (At.blk (hB_2.ext hEw15)) (Rep.len (Sep.own_rd (own_ext hT9 hEw15)))) (Wmv rfl rfl rfl rfl ?_)))
          refine WL.call rfl rfl rfl rfl rfl ok25 rfl (iCheckRulePlan_spec _ g (Sep.own_rd (own_ext hT6 hEw15)) (by omega) p (hT8.ext hEw15).rd (by omega) r (Sep.own_rd (own_ext hT9 hEw15)) (by omega) t hO8.rd (by omega)) ?_
          rintro _ w16 hEw16 rfl
          refine Wsn rfl rfl rfl rfl ?_
          refine CW.fresh [(1, .slice A3 p.length c3), (3, .slice A7 t.length c7), (4, .pointer (some ⟨b1, 0, none⟩)), (6, .pointer (some ⟨b2, 0, none⟩)), (8, .bool false), (10, .bool ((sCheckRulePlan_m g p r t).getD false)), (11, .pointer (some ⟨b3, 0, none⟩)), (12, .slice A10 (p).length c10), (13, .pointer (some ⟨b4, 0, none⟩)), (14, .slice A11 (t).length c11), (15, .bool ((sCheckRulePlan_m g p r t).getD false))] ⟨rfl, rfl, rfl, rfl, rfl, rfl, rfl, rfl, rfl, rfl, rfl, trivial⟩ fun σ => ?_
          refine SSr ?_
          refine Wmv rfl rfl rfl rfl (Wmv rfl rfl rfl rfl (WL.ev rfl rfl (Ev.bin rfl rfl rfl (Bin.neqSameB Tryz.underlying4 rfl)) (WL.nil ?_)))
          refine CW.condF rfl ?_
          refine CW.skip ?_
          refine CW.fresh [(1, .slice A3 p.length c3), (3, .slice A7 t.length c7), (4, .pointer (some ⟨b1, 0, none⟩)), (6, .pointer (some ⟨b2, 0, none⟩)), (8, .bool false), (11, .pointer (some ⟨b3, 0, none⟩)), (12, .slice A10 (p).length c10), (13, .pointer (some ⟨b4, 0, none⟩)), (14, .slice A11 (t).length c11)] ⟨rfl, rfl, rfl, rfl, rfl, rfl, rfl, rfl, rfl, trivial⟩ fun σ => ?_
          refine CW.seq (CW.seq (CW.anyE 5 (fun ρ => [.inl (.agg cs3.toArray), .inl (.agg #[.slice A1 g.Symbols.length c1, .slice A2 g.Rules.length c2]), .inr (fun S v w => ∃ cs : List Value, v = .agg cs.toArray ∧ rd S w (g) cs), .inl (.bool true), .inl (.bool (!true))]) hmix (by kernel_rfl) ⟨trivial, trivial, fun _ _ _ _ ⟨cs, e, h⟩ hE => ⟨cs, e, rd_ext h hE⟩, trivial, trivial, trivial⟩ ?_))
          refine LL.fx rfl rfl rfl (fun _ hq hK => Ev.lda rfl ag40 sz40 rfl (At.blk (hT7.ext ((hEw15.trans hEw16).trans hq))) (Rep.len (Sep.own_rd (own_ext hT6 ((hEw15.trans hEw16).trans hq))))) ?_
          refine LL.fx rfl rfl rfl (fun _ hq hK => Ev.lda rfl ag25 sz25 rfl (At.blk (hT4.ext ((hEw15.trans hEw16).trans hq))) rfl) ?_
          refine LL.free rfl rfl (fun wq hq hK => ?_) (fun v_2_2 S_2_2 => ?_)
          · refine OpX.call rfl rfl rfl rfl ok10 rfl (toGrammar_spec _ g (rd_ext hK1 (((hX2.trans hEw15).trans hEw16).trans hq)) (by omega)) ?_
            rintro v w' hE ⟨cs, rfl, h⟩
            exact ⟨hE, cs, rfl, New.rd h⟩
          refine LL.fixed rfl rfl (fun wq hq hK => ?_) ?_
          · obtain ⟨cs2, e2, hd2⟩ : ∃ cs : List Value, v_2_2 = .agg cs.toArray ∧ rd S_2_2 wq (g) cs := hK 2 rfl
            subst e2
            refine OpX.call rfl rfl rfl rfl ok14 rfl ((eqGrammar_spec _ g g (Sep.own_rd (own_ext hT6 ((hEw15.trans hEw16).trans hq))) hd2).yes rfl) ?_
            rintro v w' hE rfl
            exact ⟨hE, rfl⟩
          refine LL.fx rfl rfl rfl (fun _ hq hK => Ev.not rfl rfl) ?_
          intro w17 hEw17 hKr2 hap2 hbd2
          have hs_2_2 : ∀ q, S_2_2 q → w16.heap.size ≤ q ∧ q < w17.heap.size := fun q hq => hbd2 2 q hq
          refine WL.nil ?_
          refine CW.condF rfl ?_
          refine CW.skip ?_
          refine CW.fresh [(1, .slice A3 p.length c3), (3, .slice A7 t.length c7), (6, .pointer (some ⟨b2, 0, none⟩)), (8, .bool false), (12, .slice A10 (p).length c10), (13, .pointer (some ⟨b4, 0, none⟩)), (14, .slice A11 (t).length c11)] ⟨rfl, rfl, rfl, rfl, rfl, rfl, rfl, trivial⟩ fun σ => ?_
          refine SSr ?_
          refine Wmv rfl rfl rfl rfl (Wmv rfl rfl rfl rfl ?_)
          refine WL.call rfl rfl rfl rfl rfl ok23 rfl (toPhaseSS_spec _ p (hp.ext (((hX2.trans hEw15).trans hEw16).trans hEw17)) (by omega)) ?_
          rintro v10 w18 hEw18 ⟨L10, hO10, hN10, hF10⟩
          obtain ⟨A12, c12, rfl, hc12, hm12⟩ := hO10.form
          refine WL.call rfl rfl rfl rfl rfl ok26 rfl ((eqPhaseSS_spec _ p p (hT8.ext (((hEw15.trans hEw16).trans hEw17).trans hEw18)).rd hO10.rd).yes rfl) ?_
          rintro _ w19 hEw19 rfl
          refine WL.ev rfl rfl (Ev.not rfl rfl) (WL.nil ?_)
          refine CW.condF rfl ?_
          refine CW.skip ?_
          refine CW.fresh [(3, .slice A7 t.length c7), (6, .pointer (some ⟨b2, 0, none⟩)), (8, .bool false), (13, .pointer (some ⟨b4, 0, none⟩)), (14, .slice A11 (t).length c11)] ⟨rfl, rfl, rfl, rfl, rfl, trivial⟩ fun σ => ?_
          refine CW.seq (CW.seq (CW.anyE 5 (fun ρ => [.inl (.agg cs4.toArray), .inl (.agg #[.string (r.Name), .string (r.Left), .slice A4 r.Right.length c4, .bool (r.Literal), .slice A5 r.Equations.length c5, .slice A6 r.Contributions.length c6]), .inr (fun S v w => ∃ cs : List Value, v = .agg cs.toArray ∧ rd S w (r) cs), .inl (.bool true), .inl (.bool (!true))]) hmix (by kernel_rfl) ⟨trivial, trivial, fun _ _ _ _ ⟨cs, e, h⟩ hE => ⟨cs, e, rd_ext h hE⟩, trivial, trivial, trivial⟩ ?_))
          refine LL.fx rfl rfl rfl (fun _ hq hK => Ev.lda rfl ag45 sz45 rfl (At.blk (hB_2.ext (((((hEw15.trans hEw16).trans hEw17).trans hEw18).trans hEw19).trans hq))) (Rep.len (Sep.own_rd (own_ext hT9 (((((hEw15.trans hEw16).trans hEw17).trans hEw18).trans hEw19).trans hq))))) ?_
          refine LL.fx rfl rfl rfl (fun _ hq hK => Ev.lda rfl ag30 sz30 rfl (At.blk (hT5.ext (((((hEw15.trans hEw16).trans hEw17).trans hEw18).trans hEw19).trans hq))) rfl) ?_
          refine LL.free rfl rfl (fun wq hq hK => ?_) (fun v_3_2 S_3_2 => ?_)
          · refine OpX.call rfl rfl rfl rfl ok11 rfl (toRule_spec _ r (rd_ext hK2 ((((((hX2.trans hEw15).trans hEw16).trans hEw17).trans hEw18).trans hEw19).trans hq)) (by omega)) ?_
            rintro v w' hE ⟨cs, rfl, h⟩
            exact ⟨hE, cs, rfl, New.rd h⟩
          refine LL.fixed rfl rfl (fun wq hq hK => ?_) ?_
          · obtain ⟨cs2, e2, hd2⟩ : ∃ cs : List Value, v_3_2 = .agg cs.toArray ∧ rd S_3_2 wq (r) cs := hK 2 rfl
            subst e2
            refine OpX.call rfl rfl rfl rfl ok15 rfl ((eqRule_spec _ r r (Sep.own_rd (own_ext hT9 (((((hEw15.trans hEw16).trans hEw17).trans hEw18).trans hEw19).trans hq))) hd2).yes rfl) ?_
            rintro v w' hE rfl
            exact ⟨hE, rfl⟩
          refine LL.fx rfl rfl rfl (fun _ hq hK => Ev.not rfl rfl) ?_
          intro w20 hEw20 hKr3 hap3 hbd3
          have hs_3_2 : ∀ q, S_3_2 q → w19.heap.size ≤ q ∧ q < w20.heap.size := fun q hq => hbd3 2 q hq
          refine WL.nil ?_
          refine CW.condF rfl ?_
          refine CW.skip ?_
          refine CW.fresh [(3, .slice A7 t.length c7), (8, .bool false), (14, .slice A11 (t).length c11)] ⟨rfl, rfl, rfl, trivial⟩ fun σ => ?_
          refine SSr ?_
          refine Wmv rfl rfl rfl rfl (Wmv rfl rfl rfl rfl ?_)
          refine WL.call rfl rfl rfl rfl rfl ok24 rfl (toStepS_spec _ t (ht.ext ((((((hX2.trans hEw15).trans hEw16).trans hEw17).trans hEw18).trans hEw19).trans hEw20)) (by omega)) ?_
          rintro v11 w21 hEw21 ⟨L12, hO12, hN12, hF12⟩
          obtain ⟨A13, c13, rfl, hc13, hm13⟩ := hO12.form
          refine WL.call rfl rfl rfl rfl rfl ok27 rfl ((eqStepS_spec _ t t (hO8.ext (((((hEw16.trans hEw17).trans hEw18).trans hEw19).trans hEw20).trans hEw21)).rd hO12.rd).yes rfl) ?_
          rintro _ w22 hEw22 rfl
          refine WL.ev rfl rfl (Ev.not rfl rfl) (WL.nil ?_)
          refine CW.condF rfl ?_
          refine CW.skip ?_
          refine CW.fresh [(8, .bool false)] ⟨rfl, trivial⟩ fun σ => ?_
          refine Sreg ?_
          refine Wsn rfl rfl rfl rfl ?_
          refine CW.ret ?_
          exact ⟨_, res1 rfl rfl rfl, ((((((((hX2.trans hEw15).trans hEw16).trans hEw17).trans hEw18).trans hEw19).trans hEw20).trans hEw21).trans hEw22), rfl⟩

section
open Go.ChangeShapes Go.WideShapes Go.ChangeAt Go.RowKit
theorem own_knob : ownKnob Tryz.prog.godebug = none := by kernel_rfl
theorem laid_out : laidOutB Tryz.prog = true := by kernel_rfl
set_option maxRecDepth 100000 in
theorem fnExactCheckRulePlan_lifted (os : Os) (started : os.Started) (H : Type) (enc : TypeId × Value → H) :
    ReturnsInHanded {} Tryz.checked os 4 .any (Rows.fnExactCheckRulePlanSpec.pre6 enc Tryz.prog Tryz.f4 Rows.fnExactCheckRulePlanRow.domain false) (Rows.fnExactCheckRulePlanSpec.post enc Tryz.prog Tryz.f4 false true false false) := by
  refine returnsInHanded_of_change (C := Tryz.checked) own_knob started (by kernel_rfl) Tryz.func4
    (ChangeSpec.witness6 (enc := enc) (C := Tryz.checked) false ⟨#[], #[.agg #[.slice none 0 0, .slice none 0 0], .slice none 0 0, .agg #[.string ⟨#[]⟩, .string ⟨#[]⟩, .slice none 0 0, .bool false, .slice none 0 0, .slice none 0 0], .slice none 0 0], []⟩ 8 (by kernel_rfl) (by kernel_rfl) (by kernel_rfl) (by kernel_rfl)) ?_
  intro W base args ds gs before hval0 hW hcnd _
  have hval : ∀ (j : Nat) t v, Tryz.f4.params[j]? = some t → args[j]? = some v → Value.okWide Tryz.prog W .any base t v := hval0
  have hW' := hW
  obtain ⟨p, q, hA0, hV, rfl, hfz, hnd⟩ := hW
  have hA : DataW.TrodAll enc Tryz.prog W 0 (fun _ => true) true Tryz.f4.params.toList args.toList ds p := hA0
  rw [Tryz.params4] at hA hval
  obtain ⟨v0, vs0, d0, ds0, p0, q0, hargs, rfl, rfl, t0, r0⟩ := trodAll_cons hA
  obtain ⟨v1, vs1, d1, ds1, p1, q1, rfl, rfl, rfl, t1, r1⟩ := trodAll_cons r0
  obtain ⟨v2, vs2, d2, ds2, p2, q2, rfl, rfl, rfl, t2, r2⟩ := trodAll_cons r1
  obtain ⟨v3, vs3, d3, ds3, p3, q3, rfl, rfl, rfl, t3, r3⟩ := trodAll_cons r2
  obtain ⟨rfl, rfl, rfl⟩ := trodAll_nil r3
  obtain rfl : args = #[v0, v1, v2, v3] := by cases args; simp_all
  obtain ⟨rfl, rfl⟩ := trodVars_none hV
  have k0 := t0
  have lt0 : ∀ x ∈ p0, x.block < W.heap.size := by obtain ⟨m, hm⟩ := k0; exact DataW.trod_lt m _ _ _ hm
  obtain ⟨m0, hm0⟩ := t0
  obtain ⟨a0, ha0⟩ := open25.2 _ _ _ _ _ _ _ _ _ hm0
  obtain ⟨⟨c0⟩, rfl, _⟩ := okWide_struct Tryz.underlying25 (hval 0 25 v0 rfl rfl)
  have k1 := t1
  have lt1 : ∀ x ∈ p1, x.block < W.heap.size := by obtain ⟨m, hm⟩ := k1; exact DataW.trod_lt m _ _ _ hm
  obtain ⟨m1, hm1⟩ := t1
  obtain ⟨a1, ha1⟩ := open54.2 _ _ _ _ _ _ _ _ _ hm1
  obtain ⟨x1, l1, c1, rfl⟩ := okWide_slice Tryz.underlying54 (hval 1 54 v1 rfl rfl)
  obtain ⟨z1, e1, ha1⟩ := ha1
  obtain rfl : Value.slice x1 l1 c1 = z1 := by injection e1
  have k2 := t2
  have lt2 : ∀ x ∈ p2, x.block < W.heap.size := by obtain ⟨m, hm⟩ := k2; exact DataW.trod_lt m _ _ _ hm
  obtain ⟨m2, hm2⟩ := t2
  obtain ⟨a2, ha2⟩ := open30.2 _ _ _ _ _ _ _ _ _ hm2
  obtain ⟨⟨c2⟩, rfl, _⟩ := okWide_struct Tryz.underlying30 (hval 2 30 v2 rfl rfl)
  have k3 := t3
  have lt3 : ∀ x ∈ p3, x.block < W.heap.size := by obtain ⟨m, hm⟩ := k3; exact DataW.trod_lt m _ _ _ hm
  obtain ⟨m3, hm3⟩ := t3
  obtain ⟨a3, ha3⟩ := open55.2 _ _ _ _ _ _ _ _ _ hm3
  obtain ⟨x3, l3, c3, rfl⟩ := okWide_slice Tryz.underlying55 (hval 3 55 v3 rfl rfl)
  obtain ⟨z3, e3, ha3⟩ := ha3
  obtain rfl : Value.slice x3 l3 c3 = z3 := by injection e3
  clear hA0 hval0
  refine Calls.mono (FnExactCheckRulePlan_law W a0 ha0 a1 ha1 a2 ha2 a3 ha3) fun e W' ⟨v, he, hch, hv⟩ => ?_
  subst he; subst hv
  have bel := Ext.below hch
  exact ⟨_, rfl, _, _, _, [], _, [], hW', trodAll_mk1 (shut_bool Tryz.underlying4 _), (trodAll_cons_mk (Below.trod laid_out (by kernel_rfl) (of_decide_eq_true (by kernel_rfl)) k0 bel lt0) (trodAll_cons_mk (Below.trod laid_out (by kernel_rfl) (of_decide_eq_true (by kernel_rfl)) k1 bel lt1) (trodAll_cons_mk (Below.trod laid_out (by kernel_rfl) (of_decide_eq_true (by kernel_rfl)) k2 bel lt2) (trodAll_cons_mk (Below.trod laid_out (by kernel_rfl) (of_decide_eq_true (by kernel_rfl)) k3 bel lt3) trodAll_mk0)))), rfl, bel.frame _, fun h => by cases h⟩
theorem fnExactCheckRulePlan_holds : Rows.FnExactCheckRulePlanSaid :=
  OpenClaim.holds_of_wide 4 Tryz.f4 rfl rfl rfl rfl rfl rfl rfl ⟨rfl, rfl, rfl, rfl, rfl⟩ rfl rfl rfl rfl rfl (by kernel_rfl) Tryz.func4 (by kernel_rfl)
    (of_decide_eq_true (by kernel_rfl)) (by unfold Func.isWrapper; first | (rw [if_pos (by decide +kernel)]; kernel_rfl) | (rw [if_neg (by decide +kernel)]; exact ⟨rfl, rfl⟩))
    (fun os started H enc _ => fnExactCheckRulePlan_lifted os started H enc)
end
end Go.Proofs.YtonnooljidombaaGreat

