/- The law FnExactIsMonotone returns true for all arguments and leaves them as they were; there is no condition. -/
import Derived.Test.YtonnooljidombaaRows
import Derived.Test.YtonnooljidombaaMathM6
import Derived.Test.YtonnooljidombaaMathM8
import Derived.Test.YtonnooljidombaaHelpa
set_option linter.unusedVariables false
set_option linter.unusedSimpArgs false
set_option linter.ambiguousOpen false
set_option linter.unusedSectionVars false
set_option linter.unnecessarySimpa false
set_option linter.unusedVariables false
set_option linter.unusedSimpArgs false
set_option maxRecDepth 100000
set_option maxHeartbeats 1000000
namespace Go.Proofs.Ytonnooljidombaa
open Go Go.E
open Go.E.Rep (rd)
open Go.E.Sep (own)
theorem ok12 : callable Try.prog 12 = true := by kernel_rfl
theorem ok15 : callable Try.prog 15 = true := by kernel_rfl
theorem ok18 : callable Try.prog 18 = true := by kernel_rfl
theorem sIsMonotone_spec (w : World) {S1 : Nat → Prop} {S2 : Nat → Prop} (e : Expr) {ce : List Value} (he : rd S1 w e ce) (be : Sz.szd e ≤ 1048576) (l : List Occurrence) {zl : Value} (hl : rdS S2 w l zl) (bl : szL l ≤ 1048576) :
    Ret Try.prog 19 #[.agg ce.toArray, zl] w (fun _ => False) fun v w' => v = .bool ((sIsMonotone_m e l).getD false) := by
  obtain ⟨b, h1, h2⟩ := mono_eq (list := l) be
  have ht : (sIsMonotone_m e l).getD false = b := by rw [h1]; rfl
  rw [ht]
  exact sIsMonotone_ok h1 (F0 := fun _ => True) (Rep.mono he fun _ _ => trivial) (hl.mono fun _ _ => trivial)

theorem iIsMonotone_spec (w : World) {S1 : Nat → Prop} {S2 : Nat → Prop} (e : Expr) {ce : List Value} (he : rd S1 w e ce) (be : Sz.szd e ≤ 1048576) (l : List Occurrence) {zl : Value} (hl : rdS S2 w l zl) (bl : szL l ≤ 1048576) :
    Ret Try.prog 20 #[.agg ce.toArray, zl] w (fun _ => False) fun v w' => v = .bool ((sIsMonotone_m e l).getD false) := by
  obtain ⟨b, h1, h2⟩ := mono_eq (list := l) be
  have ht : (sIsMonotone_m e l).getD false = b := by rw [h1]; rfl
  rw [ht]
  exact iIsMonotone_ok h2 (F0 := fun _ => True) (Rep.mono he fun _ _ => trivial) (hl.mono fun _ _ => trivial)

theorem FnExactIsMonotone_law (w : World) {Se : Nat → Prop} (e : Expr) {ce : List Value} (he : rd Se w e ce) {Sl : Nat → Prop} (l : List Occurrence) {zl : Value} (hl : rdS Sl w l zl) :
    Ret Try.prog 4 #[.agg ce.toArray, zl] w (fun _ => False) fun v _ => v = .bool true := by
  refine enter Try.func4 rfl rfl rfl ?_
  have hK1 := he
  obtain ⟨v1, rfl, hr1, hr2, hr3, hr4, hr5, hr6, hs1⟩ := Expr_rd.1 he
  obtain ⟨A1, c1, rfl, hc1, hm1⟩ := hs1.form
  have qe := Expr_szd e
  obtain ⟨A2, c2, rfl, hc2, hm2⟩ := hl.form
  have hl1 : l.length ≤ 9223372036854775807 := Nat.le_trans hc2 hm2
  have nl := szL_length l
  have ql := szfold l
  refine CW.seq (CW.reg ?_)
  refine WL.box rfl rfl rfl rfl rfl fun b1 w1 hEb1 hbb1 hBb1 => ?_
  refine WL.ev rfl rfl (Ev.as rfl rfl) (WL.nil ?_)
  refine CW.seq (CW.reg ?_)
  refine WL.ev rfl rfl (Ev.as rfl rfl) (WL.nil ?_)
  refine CW.seq (CW.reg ?_)
  refine WL.ev rfl rfl (Ev.lda rfl ag24 sz24 rfl (At.blk hBb1) rfl) (WL.ev rfl rfl (Ev.mv rfl rfl) ?_)
  refine WL.call rfl rfl rfl rfl rfl ok11 rfl (szExpr_spec _ e (rd_ext hK1 hEb1) _ (by omega) (by omega)) ?_
  rintro _ w2 hEw2 ⟨r1, rfl, hr7⟩
  have hq1 := Expr_szd e
  refine WL.ev rfl rfl (Ev.as rfl rfl) (WL.nil ?_)
  refine CW.fresh [(1, .slice A2 l.length c2), (2, .pointer (some ⟨b1, 0, none⟩)), (4, .bool false), (5, .int .i64 (r1))] ⟨rfl, rfl, rfl, rfl, trivial⟩ fun σ => ?_
  refine CW.seq (CW.seq (CW.reg ?_))
  refine WL.ev rfl rfl (Ev.mv rfl rfl) (WL.ev rfl rfl (Ev.bin rfl rfl rfl Bin.lss) (WL.nil ?_))
  refine CW.condD rfl (fun h1 => ?_) (fun h1 => ?_)
  · skip
    refine CW.fresh [(1, .slice A2 l.length c2), (2, .pointer (some ⟨b1, 0, none⟩)), (4, .bool false), (5, .int .i64 (r1))] ⟨rfl, rfl, rfl, rfl, trivial⟩ fun σ => ?_
    refine CW.seq (CW.reg ?_)
    refine WL.ev rfl rfl (Ev.as rfl rfl) (WL.nil ?_)
    refine CW.ret ?_
    exact ⟨_, res1 rfl rfl rfl, (hEb1.trans hEw2), rfl⟩
  · skip
    refine CW.skip ?_
    refine CW.fresh [(1, .slice A2 l.length c2), (2, .pointer (some ⟨b1, 0, none⟩)), (4, .bool false), (5, .int .i64 (r1))] ⟨rfl, rfl, rfl, rfl, trivial⟩ fun σ => ?_
    refine CW.seq (CW.reg ?_)
    refine WL.ev rfl rfl (Ev.mv rfl rfl) (WL.ev rfl rfl (Ev.mv rfl rfl) ?_)
    refine WL.call rfl rfl rfl rfl rfl ok12 rfl (szOccurrenceS_spec _ l (hl.ext (hEb1.trans hEw2)) _ (by omega) (by omega)) ?_
    rintro _ w3 hEw3 ⟨r2, rfl, hr8⟩
    have hq2 := szfold l
    refine WL.ev rfl rfl (Ev.as rfl rfl) (WL.nil ?_)
    refine CW.fresh [(1, .slice A2 l.length c2), (2, .pointer (some ⟨b1, 0, none⟩)), (4, .bool false), (5, .int .i64 (r2))] ⟨rfl, rfl, rfl, rfl, trivial⟩ fun σ => ?_
    refine CW.seq (CW.seq (CW.reg ?_))
    refine WL.ev rfl rfl (Ev.mv rfl rfl) (WL.ev rfl rfl (Ev.bin rfl rfl rfl Bin.lss) (WL.nil ?_))
    refine CW.condD rfl (fun h2 => ?_) (fun h2 => ?_)
    · skip
      refine CW.fresh [(1, .slice A2 l.length c2), (2, .pointer (some ⟨b1, 0, none⟩)), (4, .bool false)] ⟨rfl, rfl, rfl, trivial⟩ fun σ => ?_
      refine CW.seq (CW.reg ?_)
      refine WL.ev rfl rfl (Ev.as rfl rfl) (WL.nil ?_)
      refine CW.ret ?_
      exact ⟨_, res1 rfl rfl rfl, ((hEb1.trans hEw2).trans hEw3), rfl⟩
    · skip
      refine CW.skip ?_
      refine CW.fresh [(1, .slice A2 l.length c2), (2, .pointer (some ⟨b1, 0, none⟩)), (4, .bool false)] ⟨rfl, rfl, rfl, trivial⟩ fun σ => ?_
      refine CW.seq (CW.reg ?_)
      refine WL.ev rfl rfl (Ev.lda rfl ag24 sz24 rfl (At.blk (hBb1.ext (hEw2.trans hEw3))) rfl) ?_
      refine WL.call rfl rfl rfl rfl rfl ok14 rfl (toExpr_spec _ e (rd_ext hK1 ((hEb1.trans hEw2).trans hEw3)) (by omega)) ?_
      rintro _ w4 hEw4 ⟨cs1, rfl, L1, hO1, hN1, hF1⟩
      refine WL.ev rfl rfl (Ev.mv rfl rfl) ?_
      refine WL.call rfl rfl rfl rfl rfl ok15 rfl (toOccurrenceS_spec _ l (hl.ext (((hEb1.trans hEw2).trans hEw3).trans hEw4)) (by omega)) ?_
      rintro v2 w5 hEw5 ⟨L2, hO2, hN2, hF2⟩
      obtain ⟨A3, c3, rfl, hc3, hm3⟩ := hO2.form
      refine WL.call rfl rfl rfl rfl rfl ok19 rfl (sIsMonotone_spec _ e (Sep.own_rd (own_ext hO1 hEw5)) (by omega) l hO2.rd (by omega)) ?_
      rintro _ w6 hEw6 rfl
      refine WL.ev rfl rfl (Ev.as rfl rfl) (WL.nil ?_)
      refine CW.fresh [(1, .slice A2 l.length c2), (2, .pointer (some ⟨b1, 0, none⟩)), (4, .bool false), (6, .bool ((sIsMonotone_m e l).getD false))] ⟨rfl, rfl, rfl, rfl, trivial⟩ fun σ => ?_
      refine CW.seq (CW.reg ?_)
      refine WL.ev rfl rfl (Ev.lda rfl ag24 sz24 rfl (At.blk (hBb1.ext ((((hEw2.trans hEw3).trans hEw4).trans hEw5).trans hEw6))) rfl) ?_
      refine WL.call rfl rfl rfl rfl rfl ok14 rfl (toExpr_spec _ e (rd_ext hK1 (((((hEb1.trans hEw2).trans hEw3).trans hEw4).trans hEw5).trans hEw6)) (by omega)) ?_
      rintro _ w7 hEw7 ⟨cs2, rfl, L3, hO3, hN3, hF3⟩
      refine WL.alloc rfl rfl rfl ze31 fun b2 w8 hEb2 hbb2 hBb2 => ?_
      refine WL.stW rfl rfl rfl sz31 rfl rfl rfl (Rep.len (Sep.own_rd (own_ext hO3 hEb2))) (Rep.one (Sep.own_rd (own_ext hO3 hEb2))) hBb2 rfl fun w9 hCw9 hB_1 => ?_
      have hT1 := Blk.chg1 (hBb1.ext ((((((hEw2.trans hEw3).trans hEw4).trans hEw5).trans hEw6).trans hEw7).trans hEb2)) hCw9 (by have := hBb1.lt; have := hbb2; have := hEw2.size; have := hEw3.size; have := hEw4.size; have := hEw5.size; have := hEw6.size; have := hEw7.size; omega)
      have hT2 := own_chg1 (own_ext hO1 (((hEw5.trans hEw6).trans hEw7).trans hEb2)) hCw9 (fun q hq e => by subst e; have := Sep.own_lt hO1 _ hq; have := hbb2; have := hEw5.size; have := hEw6.size; have := hEw7.size; omega)
      have hT3 := ownS.chg1 (hO2.ext ((hEw6.trans hEw7).trans hEb2)) hCw9 (fun q hq e => by subst e; have := hO2.lt _ hq; have := hbb2; have := hEw6.size; have := hEw7.size; omega)
      have hT4 := own_chg1 (own_ext hO3 hEb2) hCw9 (fun q hq e => by subst e; have := Sep.own_lt hO3 _ hq; have := hbb2; omega)
      have hX1 := Ext.chg1 (((((((hEb1.trans hEw2).trans hEw3).trans hEw4).trans hEw5).trans hEw6).trans hEw7).trans hEb2) hCw9 (by have := hbb2; have := hEb1.size; have := hEw2.size; have := hEw3.size; have := hEw4.size; have := hEw5.size; have := hEw6.size; have := hEw7.size; omega)
      refine WL.nil ?_
      refine CW.fresh [(1, .slice A2 l.length c2), (2, .pointer (some ⟨b1, 0, none⟩)), (4, .bool false), (6, .bool ((sIsMonotone_m e l).getD false)), (7, .pointer (some ⟨b2, 0, none⟩))] ⟨rfl, rfl, rfl, rfl, rfl, trivial⟩ fun σ => ?_
      refine CW.seq (CW.reg ?_)
      refine WL.ev rfl rfl (Ev.mv rfl rfl) ?_
      refine WL.call rfl rfl rfl rfl rfl ok15 rfl (toOccurrenceS_spec _ l (hl.ext hX1) (by omega)) ?_
      rintro v3 w10 hEw10 ⟨L4, hO4, hN4, hF4⟩
      obtain ⟨A4, c4, rfl, hc4, hm4⟩ := hO4.form
      refine WL.ev rfl rfl (Ev.as rfl rfl) (WL.nil ?_)
      refine CW.fresh [(1, .slice A2 l.length c2), (2, .pointer (some ⟨b1, 0, none⟩)), (4, .bool false), (6, .bool ((sIsMonotone_m e l).getD false)), (7, .pointer (some ⟨b2, 0, none⟩)), (8, .slice A4 (l).length c4)] ⟨rfl, rfl, rfl, rfl, rfl, rfl, trivial⟩ fun σ => ?_
      refine CW.seq (CW.reg ?_)
      refine WL.ev rfl rfl (Ev.lda rfl ag31 sz31 rfl (At.blk (hB_1.ext hEw10)) (Rep.len (Sep.own_rd (own_ext hT4 hEw10)))) (WL.ev rfl rfl (Ev.mv rfl rfl) ?_)
      refine WL.call rfl rfl rfl rfl rfl ok20 rfl (iIsMonotone_spec _ e (Sep.own_rd (own_ext hT4 hEw10)) (by omega) l hO4.rd (by omega)) ?_
      rintro _ w11 hEw11 rfl
      refine WL.ev rfl rfl (Ev.as rfl rfl) (WL.nil ?_)
      refine CW.fresh [(1, .slice A2 l.length c2), (2, .pointer (some ⟨b1, 0, none⟩)), (4, .bool false), (6, .bool ((sIsMonotone_m e l).getD false)), (7, .pointer (some ⟨b2, 0, none⟩)), (8, .slice A4 (l).length c4), (9, .bool ((sIsMonotone_m e l).getD false))] ⟨rfl, rfl, rfl, rfl, rfl, rfl, rfl, trivial⟩ fun σ => ?_
      refine CW.seq (CW.seq (CW.reg ?_))
      refine WL.ev rfl rfl (Ev.mv rfl rfl) (WL.ev rfl rfl (Ev.mv rfl rfl) (WL.ev rfl rfl (Ev.bin rfl rfl rfl (Bin.neqSameB Try.underlying4 rfl)) (WL.nil ?_)))
      refine CW.condF rfl ?_
      refine CW.skip ?_
      refine CW.fresh [(1, .slice A2 l.length c2), (2, .pointer (some ⟨b1, 0, none⟩)), (4, .bool false), (7, .pointer (some ⟨b2, 0, none⟩)), (8, .slice A4 (l).length c4)] ⟨rfl, rfl, rfl, rfl, rfl, trivial⟩ fun σ => ?_
      refine CW.seq (CW.seq (CW.anyE 5 (fun ρ => [.inl (.agg cs2.toArray), .inl (.agg #[.int .i64 (e.Kind), .int .i64 (e.N), .int .i64 (e.Pos), .int .i64 (e.Type_), .string (e.Symbol), .string (e.Name), .slice A1 e.Args.length c1]), .inr (fun S v w => ∃ cs : List Value, v = .agg cs.toArray ∧ rd S w (e) cs), .inl (.bool true), .inl (.bool (!true))]) hmix (by kernel_rfl) ⟨trivial, trivial, fun _ _ _ _ ⟨cs, e, h⟩ hE => ⟨cs, e, rd_ext h hE⟩, trivial, trivial, trivial⟩ ?_))
      refine LL.fx rfl rfl rfl (fun _ hq hK => Ev.lda rfl ag31 sz31 rfl (At.blk (hB_1.ext ((hEw10.trans hEw11).trans hq))) (Rep.len (Sep.own_rd (own_ext hT4 ((hEw10.trans hEw11).trans hq))))) ?_
      refine LL.fx rfl rfl rfl (fun _ hq hK => Ev.lda rfl ag24 sz24 rfl (At.blk (hT1.ext ((hEw10.trans hEw11).trans hq))) rfl) ?_
      refine LL.free rfl rfl (fun wq hq hK => ?_) (fun v_1_2 S_1_2 => ?_)
      · skip
        refine OpX.call rfl rfl rfl rfl ok14 rfl (toExpr_spec _ e (rd_ext hK1 (((hX1.trans hEw10).trans hEw11).trans hq)) (by omega)) ?_
        rintro v w' hE ⟨cs, rfl, h⟩
        exact ⟨hE, cs, rfl, New.rd h⟩
      refine LL.fixed rfl rfl (fun wq hq hK => ?_) ?_
      · skip
        obtain ⟨cs2, e2, hd2⟩ : ∃ cs : List Value, v_1_2 = .agg cs.toArray ∧ rd S_1_2 wq (e) cs := hK 2 rfl
        subst e2
        refine OpX.call rfl rfl rfl rfl ok17 rfl ((eqExpr_spec _ e e (Sep.own_rd (own_ext hT4 ((hEw10.trans hEw11).trans hq))) hd2).yes rfl) ?_
        rintro v w' hE rfl
        exact ⟨hE, rfl⟩
      refine LL.fx rfl rfl rfl (fun _ hq hK => Ev.not rfl rfl) ?_
      intro w12 hEw12 hKr1 hap1 hbd1
      have hs_1_2 : ∀ q, S_1_2 q → w11.heap.size ≤ q ∧ q < w12.heap.size := fun q hq => hbd1 2 q hq
      refine WL.nil ?_
      refine CW.condF rfl ?_
      refine CW.skip ?_
      refine CW.fresh [(1, .slice A2 l.length c2), (4, .bool false), (8, .slice A4 (l).length c4)] ⟨rfl, rfl, rfl, trivial⟩ fun σ => ?_
      refine CW.seq (CW.seq (CW.reg ?_))
      refine WL.ev rfl rfl (Ev.mv rfl rfl) (WL.ev rfl rfl (Ev.mv rfl rfl) ?_)
      refine WL.call rfl rfl rfl rfl rfl ok15 rfl (toOccurrenceS_spec _ l (hl.ext (((hX1.trans hEw10).trans hEw11).trans hEw12)) (by omega)) ?_
      rintro v4 w13 hEw13 ⟨L6, hO6, hN6, hF6⟩
      obtain ⟨A5, c5, rfl, hc5, hm5⟩ := hO6.form
      refine WL.call rfl rfl rfl rfl rfl ok18 rfl ((eqOccurrenceS_spec _ l l (hO4.ext ((hEw11.trans hEw12).trans hEw13)).rd hO6.rd).yes rfl) ?_
      rintro _ w14 hEw14 rfl
      refine WL.ev rfl rfl (Ev.not rfl rfl) (WL.nil ?_)
      refine CW.condF rfl ?_
      refine CW.skip ?_
      refine CW.fresh [(4, .bool false)] ⟨rfl, trivial⟩ fun σ => ?_
      refine CW.seq (CW.reg ?_)
      refine WL.ev rfl rfl (Ev.as rfl rfl) (WL.nil ?_)
      refine CW.ret ?_
      exact ⟨_, res1 rfl rfl rfl, (((((hX1.trans hEw10).trans hEw11).trans hEw12).trans hEw13).trans hEw14), rfl⟩

section
open Go.ChangeShapes Go.WideShapes Go.ChangeAt Go.RowKit
theorem own_knob : ownKnob Try.prog.godebug = none := by kernel_rfl
theorem laid_out : laidOutB Try.prog = true := by kernel_rfl
set_option maxRecDepth 100000 in
theorem fnExactIsMonotone_lifted (os : Os) (started : os.Started) (H : Type) (enc : TypeId × Value → H) :
    ReturnsInHanded {} Try.checked os 4 .any (Rows.fnExactIsMonotoneSpec.pre6 enc Try.prog Try.f4 Rows.fnExactIsMonotoneRow.domain false) (Rows.fnExactIsMonotoneSpec.post enc Try.prog Try.f4 false true false false) := by
  refine returnsInHanded_of_change (C := Try.checked) own_knob started (by kernel_rfl) Try.func4
    (ChangeSpec.witness6 (enc := enc) (C := Try.checked) false ⟨#[], #[.agg #[.int .i64 0, .int .i64 0, .int .i64 0, .int .i64 0, .string ⟨#[]⟩, .string ⟨#[]⟩, .slice none 0 0], .slice none 0 0], []⟩ 8 (by kernel_rfl) (by kernel_rfl) (by kernel_rfl) (by kernel_rfl)) ?_
  intro W base args ds gs before hval0 hW hcnd _
  have hval : ∀ (j : Nat) t v, Try.f4.params[j]? = some t → args[j]? = some v → Value.okWide Try.prog W .any base t v := hval0
  have hW' := hW
  obtain ⟨p, q, hA0, hV, rfl, hfz, hnd⟩ := hW
  have hA : DataW.TrodAll enc Try.prog W 0 (fun _ => true) true Try.f4.params.toList args.toList ds p := hA0
  rw [Try.params4] at hA hval
  obtain ⟨v0, vs0, d0, ds0, p0, q0, hargs, rfl, rfl, t0, r0⟩ := trodAll_cons hA
  obtain ⟨v1, vs1, d1, ds1, p1, q1, rfl, rfl, rfl, t1, r1⟩ := trodAll_cons r0
  obtain ⟨rfl, rfl, rfl⟩ := trodAll_nil r1
  obtain rfl : args = #[v0, v1] := by cases args; simp_all
  obtain ⟨rfl, rfl⟩ := trodVars_none hV
  have k0 := t0
  have lt0 : ∀ x ∈ p0, x.block < W.heap.size := by obtain ⟨m, hm⟩ := k0; exact DataW.trod_lt m _ _ _ hm
  obtain ⟨m0, hm0⟩ := t0
  obtain ⟨a0, ha0⟩ := open24.2 _ _ _ _ _ _ _ _ _ hm0
  obtain ⟨⟨c0⟩, rfl, _⟩ := okWide_struct Try.underlying24 (hval 0 24 v0 rfl rfl)
  have k1 := t1
  have lt1 : ∀ x ∈ p1, x.block < W.heap.size := by obtain ⟨m, hm⟩ := k1; exact DataW.trod_lt m _ _ _ hm
  obtain ⟨m1, hm1⟩ := t1
  obtain ⟨a1, ha1⟩ := open25.2 _ _ _ _ _ _ _ _ _ hm1
  obtain ⟨x1, l1, c1, rfl⟩ := okWide_slice Try.underlying25 (hval 1 25 v1 rfl rfl)
  obtain ⟨z1, e1, ha1⟩ := ha1
  obtain rfl : Value.slice x1 l1 c1 = z1 := by injection e1
  clear hA0 hval0
  refine Calls.mono (FnExactIsMonotone_law W a0 ha0 a1 ha1) fun e W' ⟨v, he, hch, hv⟩ => ?_
  subst he; subst hv
  have bel := Ext.below hch
  exact ⟨_, rfl, _, _, _, [], _, [], hW', trodAll_mk1 (shut_bool Try.underlying4 _), (trodAll_cons_mk (Below.trod laid_out (by kernel_rfl) (of_decide_eq_true (by kernel_rfl)) k0 bel lt0) (trodAll_cons_mk (Below.trod laid_out (by kernel_rfl) (of_decide_eq_true (by kernel_rfl)) k1 bel lt1) trodAll_mk0)), rfl, bel.frame _, fun h => by cases h⟩
theorem fnExactIsMonotone_holds : Rows.FnExactIsMonotoneSaid :=
  OpenClaim.holds_of_wide 4 Try.f4 rfl rfl rfl rfl rfl rfl rfl ⟨rfl, rfl, rfl, rfl, rfl⟩ rfl rfl rfl rfl rfl (by kernel_rfl) Try.func4 (by kernel_rfl)
    (of_decide_eq_true (by kernel_rfl)) (by unfold Func.isWrapper; first | (rw [if_pos (by decide +kernel)]; kernel_rfl) | (rw [if_neg (by decide +kernel)]; exact ⟨rfl, rfl⟩))
    (fun os started H enc _ => fnExactIsMonotone_lifted os started H enc)
end
end Go.Proofs.Ytonnooljidombaa
