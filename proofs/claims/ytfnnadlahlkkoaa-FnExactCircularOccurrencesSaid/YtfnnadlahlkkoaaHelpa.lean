/- What the helpers of the laws do (sizes, copies, tests, marks): each lemma bears its conditions in its statement. -/
import Derived.Test.YtfnnadlahlkkoaaRows
import Derived.Test.YtfnnadlahlkkoaaEngC
import Derived.Test.YtfnnadlahlkkoaaLift
set_option linter.unusedVariables false
set_option linter.unusedSimpArgs false
set_option linter.ambiguousOpen false
set_option linter.unusedSectionVars false
set_option linter.unnecessarySimpa false
set_option linter.unusedVariables false
set_option linter.unusedSimpArgs false
set_option maxRecDepth 100000
set_option maxHeartbeats 1000000
namespace Go.Proofs.Ytfnnadlahlkkoaa
open Go Go.E
open Go.E.Rep (rd)
open Go.E.Sep (own)
theorem ag22 : aggT Try.prog 22 = some false := by kernel_rfl
theorem ag24 : aggT Try.prog 24 = some true := by kernel_rfl
theorem ag29 : aggT Try.prog 29 = some false := by kernel_rfl
theorem ag31 : aggT Try.prog 31 = some true := by kernel_rfl
theorem ag38 : aggT Try.prog 38 = some false := by kernel_rfl
theorem ag39 : aggT Try.prog 39 = some false := by kernel_rfl
theorem ag56 : aggT Try.prog 56 = some false := by kernel_rfl
theorem ag57 : aggT Try.prog 57 = some false := by kernel_rfl
theorem ag59 : aggT Try.prog 59 = some true := by kernel_rfl
theorem ag62 : aggT Try.prog 62 = some false := by kernel_rfl
theorem ag63 : aggT Try.prog 63 = some false := by kernel_rfl
theorem ag88 : aggT Try.prog 88 = some true := by kernel_rfl
theorem ag142 : aggT Try.prog 142 = some false := by kernel_rfl
theorem ag144 : aggT Try.prog 144 = some true := by kernel_rfl
theorem ag151 : aggT Try.prog 151 = some true := by kernel_rfl
theorem ag154 : aggT Try.prog 154 = some true := by kernel_rfl
theorem ag157 : aggT Try.prog 157 = some true := by kernel_rfl
theorem ag160 : aggT Try.prog 160 = some true := by kernel_rfl
theorem ag193 : aggT Try.prog 193 = some true := by kernel_rfl
theorem sz4 : szT Try.prog 4 = some 1 := by kernel_rfl
theorem sz24 : szT Try.prog 24 = some 7 := by kernel_rfl
theorem sz29 : szT Try.prog 29 = some 1 := by kernel_rfl
theorem sz31 : szT Try.prog 31 = some 7 := by kernel_rfl
theorem sz43 : szT Try.prog 43 = some 1 := by kernel_rfl
theorem sz45 : szT Try.prog 45 = some 1 := by kernel_rfl
theorem sz46 : szT Try.prog 46 = some 1 := by kernel_rfl
theorem sz55 : szT Try.prog 55 = some 1 := by kernel_rfl
theorem sz59 : szT Try.prog 59 = some 6 := by kernel_rfl
theorem sz62 : szT Try.prog 62 = some 1 := by kernel_rfl
theorem sz63 : szT Try.prog 63 = some 1 := by kernel_rfl
theorem sz88 : szT Try.prog 88 = some 2 := by kernel_rfl
theorem sz144 : szT Try.prog 144 = some 2 := by kernel_rfl
theorem sz151 : szT Try.prog 151 = some 9 := by kernel_rfl
theorem sz154 : szT Try.prog 154 = some 16 := by kernel_rfl
theorem sz157 : szT Try.prog 157 = some 9 := by kernel_rfl
theorem sz160 : szT Try.prog 160 = some 16 := by kernel_rfl
theorem sz193 : szT Try.prog 193 = some 4 := by kernel_rfl
theorem by9 : byT Try.prog 9 = some 16 := by kernel_rfl
theorem by31 : byT Try.prog 31 = some 88 := by kernel_rfl
theorem by65 : byT Try.prog 65 = some 112 := by kernel_rfl
theorem by101 : byT Try.prog 101 = some 40 := by kernel_rfl
theorem by157 : byT Try.prog 157 = some 112 := by kernel_rfl
theorem by160 : byT Try.prog 160 = some 208 := by kernel_rfl
theorem ze9 : zeroT Try.prog 9 = some [.string ⟨#[]⟩] := by kernel_rfl
theorem ze31 : zeroT Try.prog 31 = some [.int .i64 0, .int .i64 0, .int .i64 0, .int .i64 0, .string ⟨#[]⟩, .string ⟨#[]⟩, .slice none 0 0] := by kernel_rfl
theorem ze48 : zeroT Try.prog 48 = some [.slice none 0 0, .slice none 0 0] := by kernel_rfl
theorem ze65 : zeroT Try.prog 65 = some [.string ⟨#[]⟩, .string ⟨#[]⟩, .slice none 0 0, .bool false, .slice none 0 0, .slice none 0 0] := by kernel_rfl
theorem ze157 : zeroT Try.prog 157 = some [.int .i64 0, .string ⟨#[]⟩, .int .i64 0, .int .i64 0, .int .i64 0, .int .i64 0, .string ⟨#[]⟩, .string ⟨#[]⟩, .slice none 0 0] := by kernel_rfl
theorem ze160 : zeroT Try.prog 160 = some [.string ⟨#[]⟩, .string ⟨#[]⟩, .int .i64 0, .int .i64 0, .int .i64 0, .int .i64 0, .string ⟨#[]⟩, .string ⟨#[]⟩, .slice none 0 0, .int .i64 0, .int .i64 0, .int .i64 0, .int .i64 0, .string ⟨#[]⟩, .string ⟨#[]⟩, .slice none 0 0] := by kernel_rfl
theorem el22 : elemT Try.prog 22 = some 24 := by kernel_rfl
theorem el25 : elemT Try.prog 25 = some 88 := by kernel_rfl
theorem el29 : elemT Try.prog 29 = some 31 := by kernel_rfl
theorem el38 : elemT Try.prog 38 = some 144 := by kernel_rfl
theorem el39 : elemT Try.prog 39 = some 59 := by kernel_rfl
theorem el46 : elemT Try.prog 46 = some 65 := by kernel_rfl
theorem el56 : elemT Try.prog 56 = some 151 := by kernel_rfl
theorem el57 : elemT Try.prog 57 = some 154 := by kernel_rfl
theorem el62 : elemT Try.prog 62 = some 157 := by kernel_rfl
theorem el63 : elemT Try.prog 63 = some 160 := by kernel_rfl
theorem el142 : elemT Try.prog 142 = some 193 := by kernel_rfl
theorem fo24_0 : fieldT Try.prog 24 0 = some 0 := by kernel_rfl
theorem fo24_1 : fieldT Try.prog 24 1 = some 1 := by kernel_rfl
theorem fo24_2 : fieldT Try.prog 24 2 = some 2 := by kernel_rfl
theorem fo24_3 : fieldT Try.prog 24 3 = some 3 := by kernel_rfl
theorem fo24_4 : fieldT Try.prog 24 4 = some 4 := by kernel_rfl
theorem fo24_5 : fieldT Try.prog 24 5 = some 5 := by kernel_rfl
theorem fo24_6 : fieldT Try.prog 24 6 = some 6 := by kernel_rfl
theorem fo31_0 : fieldT Try.prog 31 0 = some 0 := by kernel_rfl
theorem fo31_1 : fieldT Try.prog 31 1 = some 1 := by kernel_rfl
theorem fo31_2 : fieldT Try.prog 31 2 = some 2 := by kernel_rfl
theorem fo31_3 : fieldT Try.prog 31 3 = some 3 := by kernel_rfl
theorem fo31_4 : fieldT Try.prog 31 4 = some 4 := by kernel_rfl
theorem fo31_5 : fieldT Try.prog 31 5 = some 5 := by kernel_rfl
theorem fo31_6 : fieldT Try.prog 31 6 = some 6 := by kernel_rfl
theorem fo41_0 : fieldT Try.prog 41 0 = some 0 := by kernel_rfl
theorem fo41_1 : fieldT Try.prog 41 1 = some 1 := by kernel_rfl
theorem fo48_1 : fieldT Try.prog 48 1 = some 1 := by kernel_rfl
theorem fo59_0 : fieldT Try.prog 59 0 = some 0 := by kernel_rfl
theorem fo59_1 : fieldT Try.prog 59 1 = some 1 := by kernel_rfl
theorem fo59_2 : fieldT Try.prog 59 2 = some 2 := by kernel_rfl
theorem fo59_3 : fieldT Try.prog 59 3 = some 3 := by kernel_rfl
theorem fo59_4 : fieldT Try.prog 59 4 = some 4 := by kernel_rfl
theorem fo59_5 : fieldT Try.prog 59 5 = some 5 := by kernel_rfl
theorem fo65_0 : fieldT Try.prog 65 0 = some 0 := by kernel_rfl
theorem fo65_3 : fieldT Try.prog 65 3 = some 3 := by kernel_rfl
theorem fo65_4 : fieldT Try.prog 65 4 = some 4 := by kernel_rfl
theorem fo65_5 : fieldT Try.prog 65 5 = some 5 := by kernel_rfl
theorem fo88_0 : fieldT Try.prog 88 0 = some 0 := by kernel_rfl
theorem fo88_1 : fieldT Try.prog 88 1 = some 1 := by kernel_rfl
theorem fo105_1 : fieldT Try.prog 105 1 = some 1 := by kernel_rfl
theorem fo144_0 : fieldT Try.prog 144 0 = some 0 := by kernel_rfl
theorem fo144_1 : fieldT Try.prog 144 1 = some 1 := by kernel_rfl
theorem fo151_0 : fieldT Try.prog 151 0 = some 0 := by kernel_rfl
theorem fo151_1 : fieldT Try.prog 151 1 = some 2 := by kernel_rfl
theorem fo154_0 : fieldT Try.prog 154 0 = some 0 := by kernel_rfl
theorem fo154_1 : fieldT Try.prog 154 1 = some 1 := by kernel_rfl
theorem fo154_2 : fieldT Try.prog 154 2 = some 2 := by kernel_rfl
theorem fo154_3 : fieldT Try.prog 154 3 = some 9 := by kernel_rfl
theorem fo157_0 : fieldT Try.prog 157 0 = some 0 := by kernel_rfl
theorem fo157_1 : fieldT Try.prog 157 1 = some 2 := by kernel_rfl
theorem fo160_0 : fieldT Try.prog 160 0 = some 0 := by kernel_rfl
theorem fo160_1 : fieldT Try.prog 160 1 = some 1 := by kernel_rfl
theorem fo160_2 : fieldT Try.prog 160 2 = some 2 := by kernel_rfl
theorem fo160_3 : fieldT Try.prog 160 3 = some 9 := by kernel_rfl
theorem fo193_0 : fieldT Try.prog 193 0 = some 0 := by kernel_rfl
theorem fo193_1 : fieldT Try.prog 193 1 = some 1 := by kernel_rfl
theorem fo193_2 : fieldT Try.prog 193 2 = some 2 := by kernel_rfl
theorem fo193_3 : fieldT Try.prog 193 3 = some 3 := by kernel_rfl
theorem ok10 : callable Try.prog 10 = true := by kernel_rfl
theorem ok13 : callable Try.prog 13 = true := by kernel_rfl
theorem ok16 : callable Try.prog 16 = true := by kernel_rfl
theorem ok24 : callable Try.prog 24 = true := by kernel_rfl
theorem ok29 : callable Try.prog 29 = true := by kernel_rfl
theorem ok31 : callable Try.prog 31 = true := by kernel_rfl
theorem ok33 : callable Try.prog 33 = true := by kernel_rfl
theorem ok51 : callable Try.prog 51 = true := by kernel_rfl
theorem ok52 : callable Try.prog 52 = true := by kernel_rfl
theorem ok54 : callable Try.prog 54 = true := by kernel_rfl
theorem ok55 : callable Try.prog 55 = true := by kernel_rfl
theorem ok60 : callable Try.prog 60 = true := by kernel_rfl
theorem ok61 : callable Try.prog 61 = true := by kernel_rfl
theorem ok62 : callable Try.prog 62 = true := by kernel_rfl
theorem ok63 : callable Try.prog 63 = true := by kernel_rfl
theorem ok65 : callable Try.prog 65 = true := by kernel_rfl
theorem ok66 : callable Try.prog 66 = true := by kernel_rfl
theorem ok68 : callable Try.prog 68 = true := by kernel_rfl
theorem ok74 : callable Try.prog 74 = true := by kernel_rfl
theorem ok75 : callable Try.prog 75 = true := by kernel_rfl
theorem ok76 : callable Try.prog 76 = true := by kernel_rfl
theorem ok78 : callable Try.prog 78 = true := by kernel_rfl
theorem ok79 : callable Try.prog 79 = true := by kernel_rfl
theorem ok80 : callable Try.prog 80 = true := by kernel_rfl
theorem ok82 : callable Try.prog 82 = true := by kernel_rfl
theorem ok83 : callable Try.prog 83 = true := by kernel_rfl
theorem ok84 : callable Try.prog 84 = true := by kernel_rfl
theorem ok107 : callable Try.prog 107 = true := by kernel_rfl
theorem ok109 : callable Try.prog 109 = true := by kernel_rfl
theorem ok110 : callable Try.prog 110 = true := by kernel_rfl
theorem ok111 : callable Try.prog 111 = true := by kernel_rfl
theorem ok112 : callable Try.prog 112 = true := by kernel_rfl
theorem ok114 : callable Try.prog 114 = true := by kernel_rfl
theorem ok115 : callable Try.prog 115 = true := by kernel_rfl
theorem ok117 : callable Try.prog 117 = true := by kernel_rfl
theorem ok118 : callable Try.prog 118 = true := by kernel_rfl
theorem ok132 : callable Try.prog 132 = true := by kernel_rfl
theorem ok133 : callable Try.prog 133 = true := by kernel_rfl
theorem ok150 : callable Try.prog 150 = true := by kernel_rfl
theorem ok151 : callable Try.prog 151 = true := by kernel_rfl
theorem szExprS_step (w : World) {S : Nat → Prop} (x : List Expr) {z : Value} (hx : rdS S w x z) (left : Int) (h0 : 0 ≤ left) (h1 : left ≤ 1048576) (ih : ∀ x0 ∈ x, ∀ (w : World) {S : Nat → Prop} {cs : List Value} (hx : rd S w x0 cs) (left : Int) (h0 : 0 ≤ left) (h1 : left ≤ 1048576), Ret Try.prog 10 #[.agg cs.toArray, .int .i64 left] w (fun _ => False) fun v _ => ∃ r, v = .int .i64 r ∧ (((Sz.szd x0 : Nat) : Int) ≤ left ∧ r = left - (Sz.szd x0 : Nat) ∨ left < (Sz.szd x0 : Nat) ∧ r = -1)) :
    Ret Try.prog 51 #[z, .int .i64 left] w (fun _ => False) fun v _ => ∃ r, v = .int .i64 r ∧ (((Sz.szd x : Nat) : Int) ≤ left ∧ r = left - (Sz.szd x : Nat) ∨ left < (Sz.szd x : Nat) ∧ r = -1) := by
  refine enter Try.func51 rfl rfl rfl ?_
  obtain ⟨A1, c1, rfl, hc1, hm1⟩ := hx.form
  have hl1 : x.length ≤ 9223372036854775807 := Nat.le_trans hc1 hm1
  have hsz : Sz.szd x = szL x := rfl
  have hlen := szL_length x
  refine CW.seq (CW.reg ?_)
  refine WL.ev rfl rfl (Ev.as rfl rfl) (WL.nil ?_)
  refine CW.seq (CW.reg ?_)
  refine WL.ev rfl rfl (Ev.mv rfl rfl) (WL.ev rfl rfl (Ev.mv rfl rfl) (WL.ev rfl rfl (Ev.lenS rfl el22 rfl) (WL.ev rfl rfl (Ev.bin rfl rfl rfl (Bin.sub (by omega))) (WL.ev rfl rfl (Ev.as rfl rfl) (WL.nil ?_)))))
  refine CW.seq (CW.seq (CW.reg ?_))
  refine WL.ev rfl rfl (Ev.mv rfl rfl) (WL.ev rfl rfl (Ev.bin rfl rfl rfl Bin.lss) (WL.nil ?_))
  refine CW.condD rfl (fun h1 => ?_) (fun h1 => ?_)
  · skip
    refine CW.seq (CW.reg ?_)
    refine WL.ev rfl rfl (Ev.as rfl rfl) (WL.nil ?_)
    refine CW.ret ?_
    refine ⟨_, res1 rfl rfl rfl, (Ext.refl _), _, rfl, ?_⟩
    try have hall := szL_take_all (x := x) (k := k) (by omega)
    try simp only [szfold] at *
    first | omega | (right; exact ⟨by omega, by first | rfl | trivial⟩)
  · skip
    refine CW.skip ?_
    refine CW.seq (CW.seq (CW.reg ?_))
    refine WL.ev rfl rfl (Ev.as rfl rfl) (WL.nil ?_)
    refine CW.block (CW.loop (α := Nat × Int) (fun q => [(0, .slice A1 x.length c1), (1, .int .i64 q.2), (5, .int .i64 (q.1 : Int))]) (fun q wr => Ext w wr ∧ q.1 ≤ x.length ∧ 0 ≤ q.2 ∧ q.2 + x.length + szL (x.take q.1) = left + q.1) (fun q => x.length - q.1) (0, left - x.length) ⟨rfl, rfl, rfl, trivial⟩ ⟨Ext.refl _, by simp, by simp only; omega, by simp [szL]⟩ ?_)
    rintro ⟨k, l⟩ σ wr1 ⟨hEwr1, hk, hl0, hle⟩
    simp only at hk hl0 hle
    have hmn0 := szL_take_le x k
    refine CW.seq (CW.seq (CW.reg ?_))
    refine WL.ev rfl rfl (Ev.mv rfl rfl) (WL.ev rfl rfl (Ev.mv rfl rfl) (WL.ev rfl rfl (Ev.lenS rfl el22 rfl) (WL.ev rfl rfl (Ev.bin rfl rfl rfl Bin.lss) (WL.nil ?_))))
    refine CW.condD rfl (fun h2 => ?_) (fun h2 => ?_)
    · skip
      refine CW.skip ?_
      refine CW.seq (CW.block (CW.seq (CW.reg ?_)))
      refine WL.ev rfl rfl (Ev.mv rfl rfl) (WL.ev rfl rfl (Ev.mv rfl rfl) ?_)
      obtain ⟨xe1, be1, oe1, cse1, hxe1, hAe1, hSe1, hre1, hAte1⟩ := rdS.el hx (i := k) (by omega)
      have hK1 := hre1
      obtain ⟨v1, rfl, hr1, hr2, hr3, hr4, hr5, hr6, hs1⟩ := Expr_rd.1 hre1
      obtain ⟨A2, c2, rfl, hc2, hm2⟩ := hs1.form
      refine WL.ev rfl rfl (Ev.ixA rfl el22 sz24 rfl hAe1 rfl (by omega)) (WL.ev rfl rfl (Ev.lda rfl ag24 sz24 rfl (hAte1.ext hEwr1) rfl) (WL.ev rfl rfl (Ev.mv rfl rfl) ?_))
      refine WL.call rfl rfl rfl rfl rfl ok10 rfl (ih xe1 (List.mem_of_getElem? hxe1) _ (rd_ext hK1 hEwr1) _ (by omega) (by omega)) ?_
      rintro _ w1 hEw1 ⟨r1, rfl, hr7⟩
      have hq1 := Expr_szd xe1
      refine WL.ev rfl rfl (Ev.as rfl rfl) (WL.nil ?_)
      refine CW.seq (CW.reg ?_)
      refine WL.ev rfl rfl (Ev.mv rfl rfl) (WL.ev rfl rfl (Ev.bin rfl rfl rfl Bin.lss) (WL.nil ?_))
      refine CW.condD rfl (fun h3 => ?_) (fun h3 => ?_)
      · skip
        refine CW.seq (CW.reg ?_)
        refine WL.ev rfl rfl (Ev.as rfl rfl) (WL.nil ?_)
        refine CW.ret ?_
        refine ⟨_, res1 rfl rfl rfl, (hEwr1.trans hEw1), _, rfl, ?_⟩
        have htk := szL_take_succ hxe1
        have hmn := szL_take_le x (k + 1)
        try simp only [szfold] at *
        first | omega | (right; exact ⟨by omega, by first | rfl | trivial⟩)
      · skip
        refine CW.skip ?_
        refine CW.reg ?_
        refine WL.ev rfl rfl (Ev.mv rfl rfl) (WL.ev rfl rfl (Ev.bin rfl rfl rfl (Bin.add (by omega))) (WL.ev rfl rfl (Ev.as rfl rfl) (WL.nil ?_)))
        have htk := szL_take_succ hxe1
        have hmn := szL_take_le x (k + 1)
        exact ⟨(k + 1, r1), ⟨rfl, rfl, rfl, trivial⟩, ⟨(hEwr1.trans hEw1), by simp only; omega, by simp only; omega, by simp only; omega⟩, by simp only; omega⟩
    · skip
      refine CW.exit ?_
      refine CW.seq (CW.reg ?_)
      refine WL.ev rfl rfl (Ev.mv rfl rfl) (WL.ev rfl rfl (Ev.as rfl rfl) (WL.nil ?_))
      refine CW.ret ?_
      refine ⟨_, res1 rfl rfl rfl, hEwr1, _, rfl, ?_⟩
      try have hall := szL_take_all (x := x) (k := k) (by omega)
      try simp only [szfold] at *
      first | omega | (right; exact ⟨by omega, by first | rfl | trivial⟩)

theorem szExpr_step (w : World) {S : Nat → Prop} (x : Expr) {cs : List Value} (hx : rd S w x cs) (left : Int) (h0 : 0 ≤ left) (h1 : left ≤ 1048576) (ih : ∀ x0 ∈ x.Args, ∀ (w : World) {S : Nat → Prop} {cs : List Value} (hx : rd S w x0 cs) (left : Int) (h0 : 0 ≤ left) (h1 : left ≤ 1048576), Ret Try.prog 10 #[.agg cs.toArray, .int .i64 left] w (fun _ => False) fun v _ => ∃ r, v = .int .i64 r ∧ (((Sz.szd x0 : Nat) : Int) ≤ left ∧ r = left - (Sz.szd x0 : Nat) ∨ left < (Sz.szd x0 : Nat) ∧ r = -1)) :
    Ret Try.prog 10 #[.agg cs.toArray, .int .i64 left] w (fun _ => False) fun v _ => ∃ r, v = .int .i64 r ∧ (((Sz.szd x : Nat) : Int) ≤ left ∧ r = left - (Sz.szd x : Nat) ∨ left < (Sz.szd x : Nat) ∧ r = -1) := by
  refine enter Try.func10 rfl rfl rfl ?_
  have hK1 := hx
  obtain ⟨v1, rfl, hr1, hr2, hr3, hr4, hr5, hr6, hs1⟩ := Expr_rd.1 hx
  obtain ⟨A1, c1, rfl, hc1, hm1⟩ := hs1.form
  have hsz := Expr_szd x
  refine CW.seq (CW.reg ?_)
  refine WL.box rfl rfl rfl rfl rfl fun b1 w1 hEb1 hbb1 hBb1 => ?_
  refine WL.ev rfl rfl (Ev.as rfl rfl) (WL.nil ?_)
  refine CW.seq (CW.reg ?_)
  refine WL.ev rfl rfl (Ev.mv rfl rfl) (WL.ev rfl rfl (Ev.fa rfl fo24_4 rfl) (WL.ev rfl rfl (Ev.ld rfl ag9 rfl (hBb1.cell rfl)) (WL.ev rfl rfl (Ev.lenB rfl Try.underlying9 rfl) (WL.ev rfl rfl (Ev.bin rfl rfl rfl (Bin.sub (by omega))) (WL.ev rfl rfl (Ev.as rfl rfl) (WL.nil ?_))))))
  refine CW.seq (CW.seq (CW.reg ?_))
  refine WL.ev rfl rfl (Ev.mv rfl rfl) (WL.ev rfl rfl (Ev.bin rfl rfl rfl Bin.lss) (WL.nil ?_))
  refine CW.condD rfl (fun h1 => ?_) (fun h1 => ?_)
  · skip
    refine CW.seq (CW.reg ?_)
    refine WL.ev rfl rfl (Ev.as rfl rfl) (WL.nil ?_)
    refine CW.ret ?_
    refine ⟨_, res1 rfl rfl rfl, hEb1, _, rfl, ?_⟩
    try simp only [szfold] at *
    first | omega | (right; exact ⟨by omega, by first | rfl | trivial⟩)
  · skip
    refine CW.skip ?_
    refine CW.seq (CW.reg ?_)
    refine WL.ev rfl rfl (Ev.mv rfl rfl) (WL.ev rfl rfl (Ev.fa rfl fo24_5 rfl) (WL.ev rfl rfl (Ev.ld rfl ag9 rfl (hBb1.cell rfl)) (WL.ev rfl rfl (Ev.lenB rfl Try.underlying9 rfl) (WL.ev rfl rfl (Ev.bin rfl rfl rfl (Bin.sub (by omega))) (WL.ev rfl rfl (Ev.as rfl rfl) (WL.nil ?_))))))
    refine CW.seq (CW.seq (CW.reg ?_))
    refine WL.ev rfl rfl (Ev.mv rfl rfl) (WL.ev rfl rfl (Ev.bin rfl rfl rfl Bin.lss) (WL.nil ?_))
    refine CW.condD rfl (fun h2 => ?_) (fun h2 => ?_)
    · skip
      refine CW.seq (CW.reg ?_)
      refine WL.ev rfl rfl (Ev.as rfl rfl) (WL.nil ?_)
      refine CW.ret ?_
      refine ⟨_, res1 rfl rfl rfl, hEb1, _, rfl, ?_⟩
      try simp only [szfold] at *
      first | omega | (right; exact ⟨by omega, by first | rfl | trivial⟩)
    · skip
      refine CW.skip ?_
      refine CW.seq (CW.reg ?_)
      refine WL.ev rfl rfl (Ev.fa rfl fo24_6 rfl) (WL.ev rfl rfl (Ev.ld rfl ag22 rfl (hBb1.cell rfl)) (WL.ev rfl rfl (Ev.mv rfl rfl) ?_))
      refine WL.call rfl rfl rfl rfl rfl ok51 rfl (szExprS_step _ x.Args (hs1.ext hEb1) _ (by omega) (by omega) ih) ?_
      rintro _ w2 hEw2 ⟨r1, rfl, hr7⟩
      have hq1 := szfold x.Args
      refine WL.ev rfl rfl (Ev.as rfl rfl) (WL.nil ?_)
      refine CW.seq (CW.seq (CW.reg ?_))
      refine WL.ev rfl rfl (Ev.mv rfl rfl) (WL.ev rfl rfl (Ev.bin rfl rfl rfl Bin.lss) (WL.nil ?_))
      refine CW.condD rfl (fun h3 => ?_) (fun h3 => ?_)
      · skip
        refine CW.seq (CW.reg ?_)
        refine WL.ev rfl rfl (Ev.as rfl rfl) (WL.nil ?_)
        refine CW.ret ?_
        refine ⟨_, res1 rfl rfl rfl, (hEb1.trans hEw2), _, rfl, ?_⟩
        try simp only [szfold] at *
        first | omega | (right; exact ⟨by omega, by first | rfl | trivial⟩)
      · skip
        refine CW.skip ?_
        refine CW.seq (CW.reg ?_)
        refine WL.ev rfl rfl (Ev.mv rfl rfl) (WL.ev rfl rfl (Ev.as rfl rfl) (WL.nil ?_))
        refine CW.ret ?_
        refine ⟨_, res1 rfl rfl rfl, (hEb1.trans hEw2), _, rfl, ?_⟩
        try simp only [szfold] at *
        first | omega | (right; exact ⟨by omega, by first | rfl | trivial⟩)

theorem szExpr_spec (w : World) {S : Nat → Prop} (x : Expr) {cs : List Value} (hx : rd S w x cs) (left : Int) (h0 : 0 ≤ left) (h1 : left ≤ 1048576) :
    Ret Try.prog 10 #[.agg cs.toArray, .int .i64 left] w (fun _ => False) fun v _ => ∃ r, v = .int .i64 r ∧ (((Sz.szd x : Nat) : Int) ≤ left ∧ r = left - (Sz.szd x : Nat) ∨ left < (Sz.szd x : Nat) ∧ r = -1) :=
  Expr_ind (P := fun x => ∀ (w : World) {S : Nat → Prop} {cs : List Value} (hx : rd S w x cs) (left : Int) (h0 : 0 ≤ left) (h1 : left ≤ 1048576), Ret Try.prog 10 #[.agg cs.toArray, .int .i64 left] w (fun _ => False) fun v _ => ∃ r, v = .int .i64 r ∧ (((Sz.szd x : Nat) : Int) ≤ left ∧ r = left - (Sz.szd x : Nat) ∨ left < (Sz.szd x : Nat) ∧ r = -1)) (fun x ih => by intros; exact szExpr_step _ x (by assumption) _ (by assumption) (by assumption) ih) x w hx left h0 h1

theorem szExprS_spec (w : World) {S : Nat → Prop} (x : List Expr) {z : Value} (hx : rdS S w x z) (left : Int) (h0 : 0 ≤ left) (h1 : left ≤ 1048576) :
    Ret Try.prog 51 #[z, .int .i64 left] w (fun _ => False) fun v _ => ∃ r, v = .int .i64 r ∧ (((Sz.szd x : Nat) : Int) ≤ left ∧ r = left - (Sz.szd x : Nat) ∨ left < (Sz.szd x : Nat) ∧ r = -1) := szExprS_step w x hx left h0 h1 fun x0 _ => by intros; exact szExpr_spec _ x0 (by assumption) _ (by assumption) (by assumption)

theorem szOccurrence_spec (w : World) {S : Nat → Prop} (x : Occurrence) {cs : List Value} (hx : rd S w x cs) (left : Int) (h0 : 0 ≤ left) (h1 : left ≤ 1048576) :
    Ret Try.prog 52 #[.agg cs.toArray, .int .i64 left] w (fun _ => False) fun v _ => ∃ r, v = .int .i64 r ∧ (((Sz.szd x : Nat) : Int) ≤ left ∧ r = left - (Sz.szd x : Nat) ∨ left < (Sz.szd x : Nat) ∧ r = -1) := by
  refine enter Try.func52 rfl rfl rfl ?_
  have hK1 := hx
  obtain ⟨rfl, hr1, hr2⟩ := hx
  have hsz := Occurrence_szd x
  refine CW.seq (CW.reg ?_)
  refine WL.box rfl rfl rfl rfl rfl fun b1 w1 hEb1 hbb1 hBb1 => ?_
  refine WL.ev rfl rfl (Ev.as rfl rfl) (WL.nil ?_)
  refine CW.seq (CW.reg ?_)
  refine WL.ev rfl rfl (Ev.mv rfl rfl) (WL.ev rfl rfl (Ev.fa rfl fo88_1 rfl) (WL.ev rfl rfl (Ev.ld rfl ag9 rfl (hBb1.cell rfl)) (WL.ev rfl rfl (Ev.lenB rfl Try.underlying9 rfl) (WL.ev rfl rfl (Ev.bin rfl rfl rfl (Bin.sub (by omega))) (WL.ev rfl rfl (Ev.as rfl rfl) (WL.nil ?_))))))
  refine CW.seq (CW.seq (CW.reg ?_))
  refine WL.ev rfl rfl (Ev.mv rfl rfl) (WL.ev rfl rfl (Ev.bin rfl rfl rfl Bin.lss) (WL.nil ?_))
  refine CW.condD rfl (fun h1 => ?_) (fun h1 => ?_)
  · skip
    refine CW.seq (CW.reg ?_)
    refine WL.ev rfl rfl (Ev.as rfl rfl) (WL.nil ?_)
    refine CW.ret ?_
    refine ⟨_, res1 rfl rfl rfl, hEb1, _, rfl, ?_⟩
    try simp only [szfold] at *
    first | omega | (right; exact ⟨by omega, by first | rfl | trivial⟩)
  · skip
    refine CW.skip ?_
    refine CW.seq (CW.reg ?_)
    refine WL.ev rfl rfl (Ev.mv rfl rfl) (WL.ev rfl rfl (Ev.as rfl rfl) (WL.nil ?_))
    refine CW.ret ?_
    refine ⟨_, res1 rfl rfl rfl, hEb1, _, rfl, ?_⟩
    try simp only [szfold] at *
    first | omega | (right; exact ⟨by omega, by first | rfl | trivial⟩)

theorem szOccurrenceS_spec (w : World) {S : Nat → Prop} (x : List Occurrence) {z : Value} (hx : rdS S w x z) (left : Int) (h0 : 0 ≤ left) (h1 : left ≤ 1048576) :
    Ret Try.prog 11 #[z, .int .i64 left] w (fun _ => False) fun v _ => ∃ r, v = .int .i64 r ∧ (((Sz.szd x : Nat) : Int) ≤ left ∧ r = left - (Sz.szd x : Nat) ∨ left < (Sz.szd x : Nat) ∧ r = -1) := by
  refine enter Try.func11 rfl rfl rfl ?_
  obtain ⟨A1, c1, rfl, hc1, hm1⟩ := hx.form
  have hl1 : x.length ≤ 9223372036854775807 := Nat.le_trans hc1 hm1
  have hsz : Sz.szd x = szL x := rfl
  have hlen := szL_length x
  refine CW.seq (CW.reg ?_)
  refine WL.ev rfl rfl (Ev.as rfl rfl) (WL.nil ?_)
  refine CW.seq (CW.reg ?_)
  refine WL.ev rfl rfl (Ev.mv rfl rfl) (WL.ev rfl rfl (Ev.mv rfl rfl) (WL.ev rfl rfl (Ev.lenS rfl el25 rfl) (WL.ev rfl rfl (Ev.bin rfl rfl rfl (Bin.sub (by omega))) (WL.ev rfl rfl (Ev.as rfl rfl) (WL.nil ?_)))))
  refine CW.seq (CW.seq (CW.reg ?_))
  refine WL.ev rfl rfl (Ev.mv rfl rfl) (WL.ev rfl rfl (Ev.bin rfl rfl rfl Bin.lss) (WL.nil ?_))
  refine CW.condD rfl (fun h1 => ?_) (fun h1 => ?_)
  · skip
    refine CW.seq (CW.reg ?_)
    refine WL.ev rfl rfl (Ev.as rfl rfl) (WL.nil ?_)
    refine CW.ret ?_
    refine ⟨_, res1 rfl rfl rfl, (Ext.refl _), _, rfl, ?_⟩
    try have hall := szL_take_all (x := x) (k := k) (by omega)
    try simp only [szfold] at *
    first | omega | (right; exact ⟨by omega, by first | rfl | trivial⟩)
  · skip
    refine CW.skip ?_
    refine CW.seq (CW.seq (CW.reg ?_))
    refine WL.ev rfl rfl (Ev.as rfl rfl) (WL.nil ?_)
    refine CW.block (CW.loop (α := Nat × Int) (fun q => [(0, .slice A1 x.length c1), (1, .int .i64 q.2), (5, .int .i64 (q.1 : Int))]) (fun q wr => Ext w wr ∧ q.1 ≤ x.length ∧ 0 ≤ q.2 ∧ q.2 + x.length + szL (x.take q.1) = left + q.1) (fun q => x.length - q.1) (0, left - x.length) ⟨rfl, rfl, rfl, trivial⟩ ⟨Ext.refl _, by simp, by simp only; omega, by simp [szL]⟩ ?_)
    rintro ⟨k, l⟩ σ wr1 ⟨hEwr1, hk, hl0, hle⟩
    simp only at hk hl0 hle
    have hmn0 := szL_take_le x k
    refine CW.seq (CW.seq (CW.reg ?_))
    refine WL.ev rfl rfl (Ev.mv rfl rfl) (WL.ev rfl rfl (Ev.mv rfl rfl) (WL.ev rfl rfl (Ev.lenS rfl el25 rfl) (WL.ev rfl rfl (Ev.bin rfl rfl rfl Bin.lss) (WL.nil ?_))))
    refine CW.condD rfl (fun h2 => ?_) (fun h2 => ?_)
    · skip
      refine CW.skip ?_
      refine CW.seq (CW.block (CW.seq (CW.reg ?_)))
      refine WL.ev rfl rfl (Ev.mv rfl rfl) (WL.ev rfl rfl (Ev.mv rfl rfl) ?_)
      obtain ⟨xe1, be1, oe1, cse1, hxe1, hAe1, hSe1, hre1, hAte1⟩ := rdS.el hx (i := k) (by omega)
      have hK1 := hre1
      obtain ⟨rfl, hr1, hr2⟩ := hre1
      refine WL.ev rfl rfl (Ev.ixA rfl el25 sz88 rfl hAe1 rfl (by omega)) (WL.ev rfl rfl (Ev.lda rfl ag88 sz88 rfl (hAte1.ext hEwr1) rfl) (WL.ev rfl rfl (Ev.mv rfl rfl) ?_))
      refine WL.call rfl rfl rfl rfl rfl ok52 rfl (szOccurrence_spec _ xe1 (rd_ext hK1 hEwr1) _ (by omega) (by omega)) ?_
      rintro _ w1 hEw1 ⟨r1, rfl, hr3⟩
      have hq1 := Occurrence_szd xe1
      refine WL.ev rfl rfl (Ev.as rfl rfl) (WL.nil ?_)
      refine CW.seq (CW.reg ?_)
      refine WL.ev rfl rfl (Ev.mv rfl rfl) (WL.ev rfl rfl (Ev.bin rfl rfl rfl Bin.lss) (WL.nil ?_))
      refine CW.condD rfl (fun h3 => ?_) (fun h3 => ?_)
      · skip
        refine CW.seq (CW.reg ?_)
        refine WL.ev rfl rfl (Ev.as rfl rfl) (WL.nil ?_)
        refine CW.ret ?_
        refine ⟨_, res1 rfl rfl rfl, (hEwr1.trans hEw1), _, rfl, ?_⟩
        have htk := szL_take_succ hxe1
        have hmn := szL_take_le x (k + 1)
        try simp only [szfold] at *
        first | omega | (right; exact ⟨by omega, by first | rfl | trivial⟩)
      · skip
        refine CW.skip ?_
        refine CW.reg ?_
        refine WL.ev rfl rfl (Ev.mv rfl rfl) (WL.ev rfl rfl (Ev.bin rfl rfl rfl (Bin.add (by omega))) (WL.ev rfl rfl (Ev.as rfl rfl) (WL.nil ?_)))
        have htk := szL_take_succ hxe1
        have hmn := szL_take_le x (k + 1)
        exact ⟨(k + 1, r1), ⟨rfl, rfl, rfl, trivial⟩, ⟨(hEwr1.trans hEw1), by simp only; omega, by simp only; omega, by simp only; omega⟩, by simp only; omega⟩
    · skip
      refine CW.exit ?_
      refine CW.seq (CW.reg ?_)
      refine WL.ev rfl rfl (Ev.mv rfl rfl) (WL.ev rfl rfl (Ev.as rfl rfl) (WL.nil ?_))
      refine CW.ret ?_
      refine ⟨_, res1 rfl rfl rfl, hEwr1, _, rfl, ?_⟩
      try have hall := szL_take_all (x := x) (k := k) (by omega)
      try simp only [szfold] at *
      first | omega | (right; exact ⟨by omega, by first | rfl | trivial⟩)

theorem toExprS_step (w : World) {S : Nat → Prop} (x : List Expr) {z : Value} (hx : rdS S w x z) (hlen : szL x ≤ 1048576) (ih : ∀ x0 ∈ x, ∀ (w : World) {S : Nat → Prop} {cs : List Value} (hx : rd S w x0 cs) (hlen : Sz.szd x0 ≤ 1048576), Ret Try.prog 13 #[.agg cs.toArray] w (fun _ => False) fun v w' => ∃ cs, v = .agg cs.toArray ∧ New w w' x0 cs) :
    Ret Try.prog 54 #[z] w (fun _ => False) fun v w' => NewS w w' x v := by
  refine enter Try.func54 rfl rfl rfl ?_
  obtain ⟨A1, c1, rfl, hc1, hm1⟩ := hx.form
  have hl1 : x.length ≤ 9223372036854775807 := Nat.le_trans hc1 hm1
  have hln := szL_length x
  refine CW.seq (CW.reg ?_)
  refine WL.ev rfl rfl (Ev.as rfl rfl) (WL.nil ?_)
  refine CW.seq (CW.reg ?_)
  refine WL.ev rfl rfl (Ev.mv rfl rfl) (WL.ev rfl rfl (Ev.lenS rfl el22 rfl) ?_)
  refine WL.mk rfl rfl rfl el29 sz31 by31 ze31 rfl rfl rfl (by omega) (by omega) fun g w1 hE1 hg hBg => ?_
  refine WL.ev rfl rfl (Ev.as rfl rfl) (WL.nil ?_)
  refine CW.seq (CW.seq (CW.reg ?_))
  refine WL.ev rfl rfl (Ev.as rfl rfl) (WL.nil ?_)
  refine CW.block (CW.loop (α := Nat × List Value × List Nat) (fun q => [(0, .slice A1 x.length c1), (3, .slice (some ⟨g, 0, none⟩) x.length x.length), (4, .int .i64 (q.1 : Int))]) (fun q wr => Ext w wr ∧ ToInv wr g 31 [.int .i64 0, .int .i64 0, .int .i64 0, .int .i64 0, .string ⟨#[]⟩, .string ⟨#[]⟩, .slice none 0 0] x q.1 q.2.1 q.2.2) (fun q => x.length - q.1) (0, [], []) ⟨rfl, rfl, rfl, trivial⟩ ⟨hE1, ToInv.init hBg⟩ ?_)
  rintro ⟨k, cs, L⟩ σ wr1 ⟨hEwr1, hI⟩
  simp only at hI
  have hk := hI.le
  refine CW.seq (CW.seq (CW.reg ?_))
  refine WL.ev rfl rfl (Ev.mv rfl rfl) (WL.ev rfl rfl (Ev.mv rfl rfl) (WL.ev rfl rfl (Ev.lenS rfl el22 rfl) (WL.ev rfl rfl (Ev.bin rfl rfl rfl Bin.lss) (WL.nil ?_))))
  refine CW.condD rfl (fun h1 => ?_) (fun h1 => ?_)
  · skip
    refine CW.skip ?_
    refine CW.seq (CW.block (CW.reg ?_))
    refine WL.ev rfl rfl (Ev.mv rfl rfl) (WL.ev rfl rfl (Ev.mv rfl rfl) (WL.ev rfl rfl (Ev.mv rfl rfl) (WL.ev rfl rfl (Ev.mv rfl rfl) ?_)))
    obtain ⟨xe1, be1, oe1, cse1, hxe1, hAe1, hSe1, hre1, hAte1⟩ := rdS.el hx (i := k) (by omega)
    have hK1 := hre1
    obtain ⟨v1, rfl, hr1, hr2, hr3, hr4, hr5, hr6, hs1⟩ := Expr_rd.1 hre1
    obtain ⟨A2, c2, rfl, hc2, hm2⟩ := hs1.form
    refine WL.ev rfl rfl (Ev.ixA rfl el22 sz24 rfl hAe1 rfl (by omega)) (WL.ev rfl rfl (Ev.lda rfl ag24 sz24 rfl (hAte1.ext hEwr1) rfl) ?_)
    refine WL.call rfl rfl rfl rfl rfl ok13 rfl (ih xe1 (List.mem_of_getElem? hxe1) _ (rd_ext hK1 hEwr1) (by have := szL_get hxe1; (try simp only [szfold] at *); omega)) ?_
    rintro _ w1 hEw1 ⟨cs1, rfl, L1, hO1, hN1, hF1⟩
    refine WL.ev rfl rfl (Ev.ix rfl el29 sz31 rfl rfl (by omega)) ?_
    refine WL.stTo rfl rfl rfl sz31 rfl rfl rfl (hI.ext hEw1) hxe1 hO1 hN1 (hI.fresh hF1) rfl fun w2 hCw2 hI2 => ?_
    have hX1 := Ext.chg1 (hEwr1.trans hEw1) hCw2 (by have := hE1.size; omega)
    refine WL.nil ?_
    refine CW.reg ?_
    refine WL.ev rfl rfl (Ev.mv rfl rfl) (WL.ev rfl rfl (Ev.bin rfl rfl rfl (Bin.add (by omega))) (WL.ev rfl rfl (Ev.as rfl rfl) (WL.nil ?_)))
    exact ⟨(k + 1, _, _), ⟨rfl, rfl, rfl, trivial⟩, ⟨hX1, hI2⟩, by simp only; omega⟩
  · skip
    refine CW.exit ?_
    refine CW.seq (CW.reg ?_)
    refine WL.ev rfl rfl (Ev.mv rfl rfl) (WL.ev rfl rfl (Ev.as rfl rfl) (WL.nil ?_))
    refine CW.ret ?_
    exact ⟨_, res1 rfl rfl rfl, hEwr1, hI.new (by omega) (by unfold maxLen; omega) hg⟩

theorem toExpr_step (w : World) {S : Nat → Prop} (x : Expr) {cs : List Value} (hx : rd S w x cs) (hlen : Sz.szd x ≤ 1048576) (ih : ∀ x0 ∈ x.Args, ∀ (w : World) {S : Nat → Prop} {cs : List Value} (hx : rd S w x0 cs) (hlen : Sz.szd x0 ≤ 1048576), Ret Try.prog 13 #[.agg cs.toArray] w (fun _ => False) fun v w' => ∃ cs, v = .agg cs.toArray ∧ New w w' x0 cs) :
    Ret Try.prog 13 #[.agg cs.toArray] w (fun _ => False) fun v w' => ∃ cs, v = .agg cs.toArray ∧ New w w' x cs := by
  refine enter Try.func13 rfl rfl rfl ?_
  have hK1 := hx
  obtain ⟨v1, rfl, hr1, hr2, hr3, hr4, hr5, hr6, hs1⟩ := Expr_rd.1 hx
  obtain ⟨A1, c1, rfl, hc1, hm1⟩ := hs1.form
  rw [Expr_szd] at hlen
  refine CW.seq (CW.reg ?_)
  refine WL.box rfl rfl rfl rfl rfl fun b1 w1 hEb1 hbb1 hBb1 => ?_
  refine WL.alloc rfl rfl rfl ze31 fun b2 w2 hEb2 hbb2 hBb2 => ?_
  refine WL.nil ?_
  refine CW.seq (CW.reg ?_)
  refine WL.alloc rfl rfl rfl ze31 fun b3 w3 hEb3 hbb3 hBb3 => ?_
  refine WL.nil ?_
  refine CW.seq (CW.reg ?_)
  refine WL.ev rfl rfl (Ev.fa rfl fo24_0 rfl) (WL.ev rfl rfl (Ev.ld rfl ag3 rfl ((hBb1.ext (hEb2.trans hEb3)).cell rfl)) (WL.ev rfl rfl (Ev.fa rfl fo31_0 rfl) ?_))
  refine WL.st rfl rfl rfl sz3 rfl rfl rfl rfl (all1 rfl all0) hBb3 (Nat.le_of_ble_eq_true rfl) fun w4 hCw4 hB_1 => ?_
  have hB_1 : Blk _ _ _ [_, _, _, _, _, _, _] := hB_1
  have hz1 := hBb3.lt
  have hB_2 := Blk.chg1 (hBb1.ext (hEb2.trans hEb3)) hCw4 (by have := hBb1.lt; have := hbb3; have := hEb2.size; omega)
  have hB_3 := Blk.chg1 (hBb2.ext hEb3) hCw4 (by have := hBb2.lt; have := hbb3; omega)
  have hX1 := Ext.chg1 ((hEb1.trans hEb2).trans hEb3) hCw4 (by have := hbb3; have := hEb1.size; have := hEb2.size; omega)
  refine WL.nil ?_
  refine CW.fresh [(1, .pointer (some ⟨b1, 0, none⟩)), (2, .pointer (some ⟨b2, 0, none⟩)), (3, .pointer (some ⟨b3, 0, none⟩))] ⟨rfl, rfl, rfl, trivial⟩ fun σ => ?_
  refine CW.seq (CW.reg ?_)
  refine WL.ev rfl rfl (Ev.fa rfl fo24_1 rfl) (WL.ev rfl rfl (Ev.ld rfl ag3 rfl (hB_2.cell rfl)) (WL.ev rfl rfl (Ev.fa rfl fo31_1 rfl) ?_))
  refine WL.st rfl rfl rfl sz3 rfl rfl rfl rfl (all1 rfl all0) hB_1 (Nat.le_of_ble_eq_true rfl) fun w5 hCw5 hB_4 => ?_
  have hB_4 : Blk _ _ _ [_, _, _, _, _, _, _] := hB_4
  have hz2 := hB_1.lt
  have hB_5 := Blk.chg1 hB_2 hCw5 (by have := hBb1.lt; have := hbb3; have := hEb2.size; omega)
  have hB_6 := Blk.chg1 hB_3 hCw5 (by have := hBb2.lt; have := hbb3; omega)
  have hX2 := Ext.chg1 hX1 hCw5 (by have := hbb3; have := hEb1.size; have := hEb2.size; omega)
  refine WL.nil ?_
  refine CW.fresh [(1, .pointer (some ⟨b1, 0, none⟩)), (2, .pointer (some ⟨b2, 0, none⟩)), (3, .pointer (some ⟨b3, 0, none⟩))] ⟨rfl, rfl, rfl, trivial⟩ fun σ => ?_
  refine CW.seq (CW.reg ?_)
  refine WL.ev rfl rfl (Ev.fa rfl fo24_2 rfl) (WL.ev rfl rfl (Ev.ld rfl ag3 rfl (hB_5.cell rfl)) (WL.ev rfl rfl (Ev.fa rfl fo31_2 rfl) ?_))
  refine WL.st rfl rfl rfl sz3 rfl rfl rfl rfl (all1 rfl all0) hB_4 (Nat.le_of_ble_eq_true rfl) fun w6 hCw6 hB_7 => ?_
  have hB_7 : Blk _ _ _ [_, _, _, _, _, _, _] := hB_7
  have hz3 := hB_4.lt
  have hB_8 := Blk.chg1 hB_5 hCw6 (by have := hBb1.lt; have := hbb3; have := hEb2.size; omega)
  have hB_9 := Blk.chg1 hB_6 hCw6 (by have := hBb2.lt; have := hbb3; omega)
  have hX3 := Ext.chg1 hX2 hCw6 (by have := hbb3; have := hEb1.size; have := hEb2.size; omega)
  refine WL.nil ?_
  refine CW.fresh [(1, .pointer (some ⟨b1, 0, none⟩)), (2, .pointer (some ⟨b2, 0, none⟩)), (3, .pointer (some ⟨b3, 0, none⟩))] ⟨rfl, rfl, rfl, trivial⟩ fun σ => ?_
  refine CW.seq (CW.reg ?_)
  refine WL.ev rfl rfl (Ev.fa rfl fo24_3 rfl) (WL.ev rfl rfl (Ev.ld rfl ag3 rfl (hB_8.cell rfl)) (WL.ev rfl rfl (Ev.fa rfl fo31_3 rfl) ?_))
  refine WL.st rfl rfl rfl sz3 rfl rfl rfl rfl (all1 rfl all0) hB_7 (Nat.le_of_ble_eq_true rfl) fun w7 hCw7 hB_10 => ?_
  have hB_10 : Blk _ _ _ [_, _, _, _, _, _, _] := hB_10
  have hz4 := hB_7.lt
  have hB_11 := Blk.chg1 hB_8 hCw7 (by have := hBb1.lt; have := hbb3; have := hEb2.size; omega)
  have hB_12 := Blk.chg1 hB_9 hCw7 (by have := hBb2.lt; have := hbb3; omega)
  have hX4 := Ext.chg1 hX3 hCw7 (by have := hbb3; have := hEb1.size; have := hEb2.size; omega)
  refine WL.nil ?_
  refine CW.fresh [(1, .pointer (some ⟨b1, 0, none⟩)), (2, .pointer (some ⟨b2, 0, none⟩)), (3, .pointer (some ⟨b3, 0, none⟩))] ⟨rfl, rfl, rfl, trivial⟩ fun σ => ?_
  refine CW.seq (CW.reg ?_)
  refine WL.ev rfl rfl (Ev.fa rfl fo24_4 rfl) (WL.ev rfl rfl (Ev.ld rfl ag9 rfl (hB_11.cell rfl)) (WL.ev rfl rfl (Ev.fa rfl fo31_4 rfl) ?_))
  refine WL.st rfl rfl rfl sz9 rfl rfl rfl rfl (all1 rfl all0) hB_10 (Nat.le_of_ble_eq_true rfl) fun w8 hCw8 hB_13 => ?_
  have hB_13 : Blk _ _ _ [_, _, _, _, _, _, _] := hB_13
  have hz5 := hB_10.lt
  have hB_14 := Blk.chg1 hB_11 hCw8 (by have := hBb1.lt; have := hbb3; have := hEb2.size; omega)
  have hB_15 := Blk.chg1 hB_12 hCw8 (by have := hBb2.lt; have := hbb3; omega)
  have hX5 := Ext.chg1 hX4 hCw8 (by have := hbb3; have := hEb1.size; have := hEb2.size; omega)
  refine WL.nil ?_
  refine CW.fresh [(1, .pointer (some ⟨b1, 0, none⟩)), (2, .pointer (some ⟨b2, 0, none⟩)), (3, .pointer (some ⟨b3, 0, none⟩))] ⟨rfl, rfl, rfl, trivial⟩ fun σ => ?_
  refine CW.seq (CW.reg ?_)
  refine WL.ev rfl rfl (Ev.fa rfl fo24_5 rfl) (WL.ev rfl rfl (Ev.ld rfl ag9 rfl (hB_14.cell rfl)) (WL.ev rfl rfl (Ev.fa rfl fo31_5 rfl) ?_))
  refine WL.st rfl rfl rfl sz9 rfl rfl rfl rfl (all1 rfl all0) hB_13 (Nat.le_of_ble_eq_true rfl) fun w9 hCw9 hB_16 => ?_
  have hB_16 : Blk _ _ _ [_, _, _, _, _, _, _] := hB_16
  have hz6 := hB_13.lt
  have hB_17 := Blk.chg1 hB_14 hCw9 (by have := hBb1.lt; have := hbb3; have := hEb2.size; omega)
  have hB_18 := Blk.chg1 hB_15 hCw9 (by have := hBb2.lt; have := hbb3; omega)
  have hX6 := Ext.chg1 hX5 hCw9 (by have := hbb3; have := hEb1.size; have := hEb2.size; omega)
  refine WL.nil ?_
  refine CW.fresh [(1, .pointer (some ⟨b1, 0, none⟩)), (2, .pointer (some ⟨b2, 0, none⟩)), (3, .pointer (some ⟨b3, 0, none⟩))] ⟨rfl, rfl, rfl, trivial⟩ fun σ => ?_
  refine CW.seq (CW.reg ?_)
  refine WL.ev rfl rfl (Ev.fa rfl fo24_6 rfl) (WL.ev rfl rfl (Ev.ld rfl ag22 rfl (hB_17.cell rfl)) ?_)
  refine WL.call rfl rfl rfl rfl rfl ok54 rfl (toExprS_step _ x.Args (hs1.ext hX6) (by omega) ih) ?_
  rintro v2 w10 hEw10 ⟨L1, hO1, hN1, hF1⟩
  obtain ⟨A2, c2, rfl, hc2, hm2⟩ := hO1.form
  refine WL.ev rfl rfl (Ev.fa rfl fo31_6 rfl) ?_
  refine WL.st rfl rfl rfl sz29 rfl rfl rfl rfl (all1 rfl all0) (hB_16.ext hEw10) (Nat.le_of_ble_eq_true rfl) fun w11 hCw11 hB_19 => ?_
  have hB_19 : Blk _ _ _ [_, _, _, _, _, _, _] := hB_19
  have hz7 := (hB_16.ext hEw10).lt
  have hB_20 := Blk.chg1 (hB_17.ext hEw10) hCw11 (by have := hBb1.lt; have := hbb3; have := hEb2.size; omega)
  have hB_21 := Blk.chg1 (hB_18.ext hEw10) hCw11 (by have := hBb2.lt; have := hbb3; omega)
  have hO_1 := ownS.chg1 hO1 hCw11 (fun q hq e => by subst e; have := hF1 _ hq; have := hBb3.lt; have := hCw4.size; have := hCw5.size; have := hCw6.size; have := hCw7.size; have := hCw8.size; have := hCw9.size; omega)
  have hX7 := Ext.chg1 (hX6.trans hEw10) hCw11 (by have := hbb3; have := hEb1.size; have := hEb2.size; omega)
  refine WL.nil ?_
  refine CW.fresh [(2, .pointer (some ⟨b2, 0, none⟩)), (3, .pointer (some ⟨b3, 0, none⟩))] ⟨rfl, rfl, trivial⟩ fun σ => ?_
  refine CW.seq (CW.reg ?_)
  refine WL.ev rfl rfl (Ev.lda rfl ag31 sz31 rfl (At.blk hB_19) rfl) ?_
  refine WL.st rfl rfl rfl sz31 rfl rfl rfl rfl (all1 rfl (all1 rfl (all1 rfl (all1 rfl (all1 rfl (all1 rfl (all1 rfl all0))))))) hB_21 (Nat.le_of_ble_eq_true rfl) fun w12 hCw12 hB_22 => ?_
  have hB_22 : Blk _ _ _ [_, _, _, _, _, _, _] := hB_22
  have hz8 := hB_21.lt
  have hB_23 := Blk.chg1 hB_20 hCw12 (by have := hBb1.lt; have := hbb2; omega)
  have hB_24 := Blk.chg1 hB_19 hCw12 (by have := hBb2.lt; have := hbb3; omega)
  have hO_2 := ownS.chg1 hO_1 hCw12 (fun q hq e => by subst e; have := hF1 _ hq; have := hBb2.lt; have := hEb3.size; have := hCw4.size; have := hCw5.size; have := hCw6.size; have := hCw7.size; have := hCw8.size; have := hCw9.size; omega)
  have hX8 := Ext.chg1 hX7 hCw12 (by have := hbb2; have := hEb1.size; omega)
  refine WL.nil ?_
  refine CW.ret ?_
  exact ⟨_, resC rfl ag31 sz31 rfl rfl (At.blk hB_22) rfl, hX8, _, rfl, _, Expr_own.2 ⟨_, _, rfl, by first | assumption | omega, by first | assumption | omega, by first | assumption | omega, by first | assumption | omega, by first | assumption | omega, by first | assumption | omega, rfl, hO_2⟩, hN1, fun q hq => by first | (have := hF1 _ hq; have := hEb1.size; have := hEb2.size; have := hEb3.size; have := hCw4.size; have := hCw5.size; have := hCw6.size; have := hCw7.size; have := hCw8.size; have := hCw9.size; omega)⟩

theorem toExpr_spec (w : World) {S : Nat → Prop} (x : Expr) {cs : List Value} (hx : rd S w x cs) (hlen : Sz.szd x ≤ 1048576) :
    Ret Try.prog 13 #[.agg cs.toArray] w (fun _ => False) fun v w' => ∃ cs, v = .agg cs.toArray ∧ New w w' x cs :=
  Expr_ind (P := fun x => ∀ (w : World) {S : Nat → Prop} {cs : List Value} (hx : rd S w x cs) (hlen : Sz.szd x ≤ 1048576), Ret Try.prog 13 #[.agg cs.toArray] w (fun _ => False) fun v w' => ∃ cs, v = .agg cs.toArray ∧ New w w' x cs) (fun x ih => by intros; exact toExpr_step _ x (by assumption) (by assumption) ih) x w hx hlen

theorem toExprS_spec (w : World) {S : Nat → Prop} (x : List Expr) {z : Value} (hx : rdS S w x z) (hlen : szL x ≤ 1048576) :
    Ret Try.prog 54 #[z] w (fun _ => False) fun v w' => NewS w w' x v := toExprS_step w x hx hlen fun x0 _ => by intros; exact toExpr_spec _ x0 (by assumption) (by assumption)

theorem toOccurrence_spec (w : World) {S : Nat → Prop} (x : Occurrence) {cs : List Value} (hx : rd S w x cs) (hlen : Sz.szd x ≤ 1048576) :
    Ret Try.prog 55 #[.agg cs.toArray] w (fun _ => False) fun v w' => ∃ cs, v = .agg cs.toArray ∧ New w w' x cs := by
  refine enter Try.func55 rfl rfl rfl ?_
  have hK1 := hx
  obtain ⟨rfl, hr1, hr2⟩ := hx
  rw [Occurrence_szd] at hlen
  refine CW.seq (CW.reg ?_)
  refine WL.box rfl rfl rfl rfl rfl fun b1 w1 hEb1 hbb1 hBb1 => ?_
  refine WL.alloc rfl rfl rfl ze90 fun b2 w2 hEb2 hbb2 hBb2 => ?_
  refine WL.nil ?_
  refine CW.seq (CW.reg ?_)
  refine WL.alloc rfl rfl rfl ze90 fun b3 w3 hEb3 hbb3 hBb3 => ?_
  refine WL.nil ?_
  refine CW.seq (CW.reg ?_)
  refine WL.ev rfl rfl (Ev.fa rfl fo88_0 rfl) (WL.ev rfl rfl (Ev.ld rfl ag3 rfl ((hBb1.ext (hEb2.trans hEb3)).cell rfl)) (WL.ev rfl rfl (Ev.fa rfl fo90_0 rfl) ?_))
  refine WL.st rfl rfl rfl sz3 rfl rfl rfl rfl (all1 rfl all0) hBb3 (Nat.le_of_ble_eq_true rfl) fun w4 hCw4 hB_1 => ?_
  have hB_1 : Blk _ _ _ [_, _] := hB_1
  have hz1 := hBb3.lt
  have hB_2 := Blk.chg1 (hBb1.ext (hEb2.trans hEb3)) hCw4 (by have := hBb1.lt; have := hbb3; have := hEb2.size; omega)
  have hB_3 := Blk.chg1 (hBb2.ext hEb3) hCw4 (by have := hBb2.lt; have := hbb3; omega)
  have hX1 := Ext.chg1 ((hEb1.trans hEb2).trans hEb3) hCw4 (by have := hbb3; have := hEb1.size; have := hEb2.size; omega)
  refine WL.nil ?_
  refine CW.fresh [(1, .pointer (some ⟨b1, 0, none⟩)), (2, .pointer (some ⟨b2, 0, none⟩)), (3, .pointer (some ⟨b3, 0, none⟩))] ⟨rfl, rfl, rfl, trivial⟩ fun σ => ?_
  refine CW.seq (CW.reg ?_)
  refine WL.ev rfl rfl (Ev.fa rfl fo88_1 rfl) (WL.ev rfl rfl (Ev.ld rfl ag9 rfl (hB_2.cell rfl)) (WL.ev rfl rfl (Ev.fa rfl fo90_1 rfl) ?_))
  refine WL.st rfl rfl rfl sz9 rfl rfl rfl rfl (all1 rfl all0) hB_1 (Nat.le_of_ble_eq_true rfl) fun w5 hCw5 hB_4 => ?_
  have hB_4 : Blk _ _ _ [_, _] := hB_4
  have hz2 := hB_1.lt
  have hB_5 := Blk.chg1 hB_2 hCw5 (by have := hBb1.lt; have := hbb3; have := hEb2.size; omega)
  have hB_6 := Blk.chg1 hB_3 hCw5 (by have := hBb2.lt; have := hbb3; omega)
  have hX2 := Ext.chg1 hX1 hCw5 (by have := hbb3; have := hEb1.size; have := hEb2.size; omega)
  refine WL.nil ?_
  refine CW.fresh [(2, .pointer (some ⟨b2, 0, none⟩)), (3, .pointer (some ⟨b3, 0, none⟩))] ⟨rfl, rfl, trivial⟩ fun σ => ?_
  refine CW.seq (CW.reg ?_)
  refine WL.ev rfl rfl (Ev.lda rfl ag90 sz90 rfl (At.blk hB_4) rfl) ?_
  refine WL.st rfl rfl rfl sz90 rfl rfl rfl rfl (all1 rfl (all1 rfl all0)) hB_6 (Nat.le_of_ble_eq_true rfl) fun w6 hCw6 hB_7 => ?_
  have hB_7 : Blk _ _ _ [_, _] := hB_7
  have hz3 := hB_6.lt
  have hB_8 := Blk.chg1 hB_5 hCw6 (by have := hBb1.lt; have := hbb2; omega)
  have hB_9 := Blk.chg1 hB_4 hCw6 (by have := hBb2.lt; have := hbb3; omega)
  have hX3 := Ext.chg1 hX2 hCw6 (by have := hbb2; have := hEb1.size; omega)
  refine WL.nil ?_
  refine CW.ret ?_
  exact ⟨_, resC rfl ag90 sz90 rfl rfl (At.blk hB_7) rfl, hX3, _, rfl, _, ⟨rfl, by first | assumption | omega, by first | assumption | omega, rfl⟩, List.nodup_nil, by simp⟩

theorem toOccurrenceS_spec (w : World) {S : Nat → Prop} (x : List Occurrence) {z : Value} (hx : rdS S w x z) (hlen : szL x ≤ 1048576) :
    Ret Try.prog 14 #[z] w (fun _ => False) fun v w' => NewS w w' x v := by
  refine enter Try.func14 rfl rfl rfl ?_
  obtain ⟨A1, c1, rfl, hc1, hm1⟩ := hx.form
  have hl1 : x.length ≤ 9223372036854775807 := Nat.le_trans hc1 hm1
  have hln := szL_length x
  refine CW.seq (CW.reg ?_)
  refine WL.ev rfl rfl (Ev.as rfl rfl) (WL.nil ?_)
  refine CW.seq (CW.reg ?_)
  refine WL.ev rfl rfl (Ev.mv rfl rfl) (WL.ev rfl rfl (Ev.lenS rfl el25 rfl) ?_)
  refine WL.mk rfl rfl rfl el33 sz90 by90 ze90 rfl rfl rfl (by omega) (by omega) fun g w1 hE1 hg hBg => ?_
  refine WL.ev rfl rfl (Ev.as rfl rfl) (WL.nil ?_)
  refine CW.seq (CW.seq (CW.reg ?_))
  refine WL.ev rfl rfl (Ev.as rfl rfl) (WL.nil ?_)
  refine CW.block (CW.loop (α := Nat × List Value × List Nat) (fun q => [(0, .slice A1 x.length c1), (3, .slice (some ⟨g, 0, none⟩) x.length x.length), (4, .int .i64 (q.1 : Int))]) (fun q wr => Ext w wr ∧ ToInv wr g 90 [.int .i64 0, .string ⟨#[]⟩] x q.1 q.2.1 q.2.2) (fun q => x.length - q.1) (0, [], []) ⟨rfl, rfl, rfl, trivial⟩ ⟨hE1, ToInv.init hBg⟩ ?_)
  rintro ⟨k, cs, L⟩ σ wr1 ⟨hEwr1, hI⟩
  simp only at hI
  have hk := hI.le
  refine CW.seq (CW.seq (CW.reg ?_))
  refine WL.ev rfl rfl (Ev.mv rfl rfl) (WL.ev rfl rfl (Ev.mv rfl rfl) (WL.ev rfl rfl (Ev.lenS rfl el25 rfl) (WL.ev rfl rfl (Ev.bin rfl rfl rfl Bin.lss) (WL.nil ?_))))
  refine CW.condD rfl (fun h1 => ?_) (fun h1 => ?_)
  · skip
    refine CW.skip ?_
    refine CW.seq (CW.block (CW.reg ?_))
    refine WL.ev rfl rfl (Ev.mv rfl rfl) (WL.ev rfl rfl (Ev.mv rfl rfl) (WL.ev rfl rfl (Ev.mv rfl rfl) (WL.ev rfl rfl (Ev.mv rfl rfl) ?_)))
    obtain ⟨xe1, be1, oe1, cse1, hxe1, hAe1, hSe1, hre1, hAte1⟩ := rdS.el hx (i := k) (by omega)
    have hK1 := hre1
    obtain ⟨rfl, hr1, hr2⟩ := hre1
    refine WL.ev rfl rfl (Ev.ixA rfl el25 sz88 rfl hAe1 rfl (by omega)) (WL.ev rfl rfl (Ev.lda rfl ag88 sz88 rfl (hAte1.ext hEwr1) rfl) ?_)
    refine WL.call rfl rfl rfl rfl rfl ok55 rfl (toOccurrence_spec _ xe1 (rd_ext hK1 hEwr1) (by have := szL_get hxe1; (try simp only [szfold] at *); omega)) ?_
    rintro _ w1 hEw1 ⟨cs1, rfl, L1, hO1, hN1, hF1⟩
    refine WL.ev rfl rfl (Ev.ix rfl el33 sz90 rfl rfl (by omega)) ?_
    refine WL.stTo rfl rfl rfl sz90 rfl rfl rfl (hI.ext hEw1) hxe1 hO1 hN1 (hI.fresh hF1) rfl fun w2 hCw2 hI2 => ?_
    have hX1 := Ext.chg1 (hEwr1.trans hEw1) hCw2 (by have := hE1.size; omega)
    refine WL.nil ?_
    refine CW.reg ?_
    refine WL.ev rfl rfl (Ev.mv rfl rfl) (WL.ev rfl rfl (Ev.bin rfl rfl rfl (Bin.add (by omega))) (WL.ev rfl rfl (Ev.as rfl rfl) (WL.nil ?_)))
    exact ⟨(k + 1, _, _), ⟨rfl, rfl, rfl, trivial⟩, ⟨hX1, hI2⟩, by simp only; omega⟩
  · skip
    refine CW.exit ?_
    refine CW.seq (CW.reg ?_)
    refine WL.ev rfl rfl (Ev.mv rfl rfl) (WL.ev rfl rfl (Ev.as rfl rfl) (WL.nil ?_))
    refine CW.ret ?_
    exact ⟨_, res1 rfl rfl rfl, hEwr1, hI.new (by omega) (by unfold maxLen; omega) hg⟩

theorem eqExprS_step (w : World) {S S2 : Nat → Prop} (x y : List Expr) {z z2 : Value} (hx : rdS S w x z) (hy : rdS S2 w y z2) (ih : ∀ x0 ∈ x, ∀ (w : World) {S S2 : Nat → Prop} (y : Expr) {cs ds : List Value} (hx : rd S w x0 cs) (hy : rd S2 w y ds), Ret Try.prog 16 #[.agg cs.toArray, .agg ds.toArray] w (fun _ => False) fun v _ => v = .bool (decide (x0 = y))) :
    Ret Try.prog 60 #[z, z2] w (fun _ => False) fun v _ => v = .bool (decide (x = y)) := by
  refine enter Try.func60 rfl rfl rfl ?_
  obtain ⟨A1, c1, rfl, hc1, hm1⟩ := hx.form
  have hl1 : x.length ≤ 9223372036854775807 := Nat.le_trans hc1 hm1
  obtain ⟨A2, c2, rfl, hc2, hm2⟩ := hy.form
  have hl2 : y.length ≤ 9223372036854775807 := Nat.le_trans hc2 hm2
  refine CW.seq (CW.reg ?_)
  refine WL.ev rfl rfl (Ev.as rfl rfl) (WL.nil ?_)
  refine CW.seq (CW.seq (CW.reg ?_))
  refine WL.ev rfl rfl (Ev.mv rfl rfl) (WL.ev rfl rfl (Ev.lenS rfl el29 rfl) (WL.ev rfl rfl (Ev.mv rfl rfl) (WL.ev rfl rfl (Ev.lenS rfl el29 rfl) (WL.ev rfl rfl (Ev.bin rfl rfl rfl Bin.neq) (WL.nil ?_)))))
  refine CW.condN rfl (fun h1 => ?_) (fun h1 => ?_)
  · skip
    refine CW.seq (CW.reg ?_)
    refine WL.ev rfl rfl (Ev.as rfl rfl) (WL.nil ?_)
    refine CW.ret ?_
    have e : x ≠ y := fun e => h1 (by rw [e])
    exact ⟨_, res1 rfl rfl rfl, (Ext.refl _), vB (by simp [e])⟩
  · skip
    refine CW.skip ?_
    refine CW.seq (CW.seq (CW.reg ?_))
    refine WL.ev rfl rfl (Ev.as rfl rfl) (WL.nil ?_)
    refine CW.block (CW.loop (α := Nat) (fun q => [(0, .slice A1 x.length c1), (1, .slice A2 y.length c2), (5, .int .i64 (q : Int))]) (fun q wr => Ext w wr ∧ q ≤ x.length ∧ x.take q = y.take q) (fun q => x.length - q) 0 ⟨rfl, rfl, rfl, trivial⟩ ⟨Ext.refl _, by omega, rfl⟩ ?_)
    rintro k σ wr1 ⟨hEwr1, hk, hpre⟩
    refine CW.seq (CW.seq (CW.reg ?_))
    refine WL.ev rfl rfl (Ev.mv rfl rfl) (WL.ev rfl rfl (Ev.mv rfl rfl) (WL.ev rfl rfl (Ev.lenS rfl el29 rfl) (WL.ev rfl rfl (Ev.bin rfl rfl rfl Bin.lss) (WL.nil ?_))))
    refine CW.condD rfl (fun h2 => ?_) (fun h2 => ?_)
    · skip
      refine CW.skip ?_
      refine CW.seq (CW.block (CW.seq (CW.quiet hmix (by kernel_rfl) ?_)))
      refine QL.ev rfl rfl (fun _ _ => Ev.mv rfl rfl) (QL.ev rfl rfl (fun _ _ => Ev.mv rfl rfl) ?_)
      obtain ⟨xe1, be1, oe1, cse1, hxe1, hAe1, hSe1, hre1, hAte1⟩ := rdS.el hx (i := k) (by omega)
      have hK1 := hre1
      obtain ⟨v1, rfl, hr1, hr2, hr3, hr4, hr5, hr6, hs1⟩ := Expr_rd.1 hre1
      obtain ⟨A3, c3, rfl, hc3, hm3⟩ := hs1.form
      refine QL.ev rfl rfl (fun _ _ => Ev.ixA rfl el29 sz31 rfl hAe1 rfl (by omega)) (QL.ev rfl rfl (fun _ hq => Ev.lda rfl ag31 sz31 rfl (hAte1.ext (hEwr1.trans hq)) rfl) (QL.ev rfl rfl (fun _ _ => Ev.mv rfl rfl) (QL.ev rfl rfl (fun _ _ => Ev.mv rfl rfl) ?_)))
      obtain ⟨xe2, be2, oe2, cse2, hxe2, hAe2, hSe2, hre2, hAte2⟩ := rdS.el hy (i := k) (by omega)
      have hK2 := hre2
      obtain ⟨v2, rfl, hr7, hr8, hr9, hr10, hr11, hr12, hs2⟩ := Expr_rd.1 hre2
      obtain ⟨A4, c4, rfl, hc4, hm4⟩ := hs2.form
      refine QL.ev rfl rfl (fun _ _ => Ev.ixA rfl el29 sz31 rfl hAe2 rfl (by omega)) (QL.ev rfl rfl (fun _ hq => Ev.lda rfl ag31 sz31 rfl (hAte2.ext (hEwr1.trans hq)) rfl) (QL.call rfl rfl rfl rfl rfl ok16 rfl (fun _ hq => ih xe1 (List.mem_of_getElem? hxe1) _ xe2 (rd_ext hK1 (hEwr1.trans hq)) (rd_ext hK2 (hEwr1.trans hq))) (QL.ev rfl rfl (fun _ _ => Ev.not rfl rfl) (QL.nil (fun w1 hEw1 => ?_)))))
      refine CW.condN rfl (fun h3 => ?_) (fun h3 => ?_)
      · skip
        refine CW.seq (CW.reg ?_)
        refine WL.ev rfl rfl (Ev.as rfl rfl) (WL.nil ?_)
        refine CW.ret ?_
        have e : x ≠ y := ne_of_at hxe1 hxe2 h3
        exact ⟨_, res1 rfl rfl rfl, (hEwr1.trans hEw1), vB (by simp [e])⟩
      · skip
        refine CW.skip ?_
        refine CW.reg ?_
        refine WL.ev rfl rfl (Ev.mv rfl rfl) (WL.ev rfl rfl (Ev.bin rfl rfl rfl (Bin.add (by omega))) (WL.ev rfl rfl (Ev.as rfl rfl) (WL.nil ?_)))
        exact ⟨k + 1, ⟨rfl, rfl, rfl, trivial⟩, ⟨(hEwr1.trans hEw1), by omega, take_succ_eq hpre hxe1 hxe2 h3⟩, by omega⟩
    · skip
      refine CW.exit ?_
      refine CW.seq (CW.reg ?_)
      refine WL.ev rfl rfl (Ev.as rfl rfl) (WL.nil ?_)
      refine CW.ret ?_
      have e : x = y := eq_of_take (by omega) (by omega) hpre
      exact ⟨_, res1 rfl rfl rfl, hEwr1, vB (by simp [e])⟩

theorem eqExpr_step (w : World) {S S2 : Nat → Prop} (x y : Expr) {cs ds : List Value} (hx : rd S w x cs) (hy : rd S2 w y ds) (ih : ∀ x0 ∈ x.Args, ∀ (w : World) {S S2 : Nat → Prop} (y : Expr) {cs ds : List Value} (hx : rd S w x0 cs) (hy : rd S2 w y ds), Ret Try.prog 16 #[.agg cs.toArray, .agg ds.toArray] w (fun _ => False) fun v _ => v = .bool (decide (x0 = y))) :
    Ret Try.prog 16 #[.agg cs.toArray, .agg ds.toArray] w (fun _ => False) fun v _ => v = .bool (decide (x = y)) := by
  refine enter Try.func16 rfl rfl rfl ?_
  have hK1 := hx
  obtain ⟨v1, rfl, hr1, hr2, hr3, hr4, hr5, hr6, hs1⟩ := Expr_rd.1 hx
  obtain ⟨A1, c1, rfl, hc1, hm1⟩ := hs1.form
  have hK2 := hy
  obtain ⟨v2, rfl, hr7, hr8, hr9, hr10, hr11, hr12, hs2⟩ := Expr_rd.1 hy
  obtain ⟨A2, c2, rfl, hc2, hm2⟩ := hs2.form
  refine CW.seq (CW.reg ?_)
  refine WL.box rfl rfl rfl rfl rfl fun b1 w1 hEb1 hbb1 hBb1 => ?_
  refine WL.box rfl rfl rfl rfl rfl fun b2 w2 hEb2 hbb2 hBb2 => ?_
  refine WL.ev rfl rfl (Ev.as rfl rfl) (WL.nil ?_)
  refine CW.seq (CW.seq (CW.reg ?_))
  refine WL.ev rfl rfl (Ev.fa rfl fo31_0 rfl) (WL.ev rfl rfl (Ev.ld rfl ag3 rfl ((hBb1.ext hEb2).cell rfl)) (WL.ev rfl rfl (Ev.fa rfl fo31_0 rfl) (WL.ev rfl rfl (Ev.ld rfl ag3 rfl (hBb2.cell rfl)) (WL.ev rfl rfl (Ev.bin rfl rfl rfl Bin.neq) (WL.nil ?_)))))
  refine CW.condN rfl (fun h1 => ?_) (fun h1 => ?_)
  · skip
    refine CW.seq (CW.reg ?_)
    refine WL.ev rfl rfl (Ev.as rfl rfl) (WL.nil ?_)
    refine CW.ret ?_
    have e : x ≠ y := by rintro rfl; exact h1 rfl
    exact ⟨_, res1 rfl rfl rfl, (hEb1.trans hEb2), vB (by simp [e])⟩
  · skip
    refine CW.skip ?_
    refine CW.seq (CW.seq (CW.reg ?_))
    refine WL.ev rfl rfl (Ev.fa rfl fo31_1 rfl) (WL.ev rfl rfl (Ev.ld rfl ag3 rfl ((hBb1.ext hEb2).cell rfl)) (WL.ev rfl rfl (Ev.fa rfl fo31_1 rfl) (WL.ev rfl rfl (Ev.ld rfl ag3 rfl (hBb2.cell rfl)) (WL.ev rfl rfl (Ev.bin rfl rfl rfl Bin.neq) (WL.nil ?_)))))
    refine CW.condN rfl (fun h2 => ?_) (fun h2 => ?_)
    · skip
      refine CW.seq (CW.reg ?_)
      refine WL.ev rfl rfl (Ev.as rfl rfl) (WL.nil ?_)
      refine CW.ret ?_
      have e : x ≠ y := by rintro rfl; exact h2 rfl
      exact ⟨_, res1 rfl rfl rfl, (hEb1.trans hEb2), vB (by simp [e])⟩
    · skip
      refine CW.skip ?_
      refine CW.seq (CW.seq (CW.reg ?_))
      refine WL.ev rfl rfl (Ev.fa rfl fo31_2 rfl) (WL.ev rfl rfl (Ev.ld rfl ag3 rfl ((hBb1.ext hEb2).cell rfl)) (WL.ev rfl rfl (Ev.fa rfl fo31_2 rfl) (WL.ev rfl rfl (Ev.ld rfl ag3 rfl (hBb2.cell rfl)) (WL.ev rfl rfl (Ev.bin rfl rfl rfl Bin.neq) (WL.nil ?_)))))
      refine CW.condN rfl (fun h3 => ?_) (fun h3 => ?_)
      · skip
        refine CW.seq (CW.reg ?_)
        refine WL.ev rfl rfl (Ev.as rfl rfl) (WL.nil ?_)
        refine CW.ret ?_
        have e : x ≠ y := by rintro rfl; exact h3 rfl
        exact ⟨_, res1 rfl rfl rfl, (hEb1.trans hEb2), vB (by simp [e])⟩
      · skip
        refine CW.skip ?_
        refine CW.seq (CW.seq (CW.reg ?_))
        refine WL.ev rfl rfl (Ev.fa rfl fo31_3 rfl) (WL.ev rfl rfl (Ev.ld rfl ag3 rfl ((hBb1.ext hEb2).cell rfl)) (WL.ev rfl rfl (Ev.fa rfl fo31_3 rfl) (WL.ev rfl rfl (Ev.ld rfl ag3 rfl (hBb2.cell rfl)) (WL.ev rfl rfl (Ev.bin rfl rfl rfl Bin.neq) (WL.nil ?_)))))
        refine CW.condN rfl (fun h4 => ?_) (fun h4 => ?_)
        · skip
          refine CW.seq (CW.reg ?_)
          refine WL.ev rfl rfl (Ev.as rfl rfl) (WL.nil ?_)
          refine CW.ret ?_
          have e : x ≠ y := by rintro rfl; exact h4 rfl
          exact ⟨_, res1 rfl rfl rfl, (hEb1.trans hEb2), vB (by simp [e])⟩
        · skip
          refine CW.skip ?_
          refine CW.seq (CW.seq (CW.reg ?_))
          refine WL.ev rfl rfl (Ev.fa rfl fo31_4 rfl) (WL.ev rfl rfl (Ev.ld rfl ag9 rfl ((hBb1.ext hEb2).cell rfl)) (WL.ev rfl rfl (Ev.fa rfl fo31_4 rfl) (WL.ev rfl rfl (Ev.ld rfl ag9 rfl (hBb2.cell rfl)) (WL.ev rfl rfl (Ev.bin rfl rfl rfl Bin.neqS) (WL.nil ?_)))))
          refine CW.condN rfl (fun h5 => ?_) (fun h5 => ?_)
          · skip
            refine CW.seq (CW.reg ?_)
            refine WL.ev rfl rfl (Ev.as rfl rfl) (WL.nil ?_)
            refine CW.ret ?_
            have e : x ≠ y := by rintro rfl; exact h5 rfl
            exact ⟨_, res1 rfl rfl rfl, (hEb1.trans hEb2), vB (by simp [e])⟩
          · skip
            refine CW.skip ?_
            refine CW.seq (CW.seq (CW.reg ?_))
            refine WL.ev rfl rfl (Ev.fa rfl fo31_5 rfl) (WL.ev rfl rfl (Ev.ld rfl ag9 rfl ((hBb1.ext hEb2).cell rfl)) (WL.ev rfl rfl (Ev.fa rfl fo31_5 rfl) (WL.ev rfl rfl (Ev.ld rfl ag9 rfl (hBb2.cell rfl)) (WL.ev rfl rfl (Ev.bin rfl rfl rfl Bin.neqS) (WL.nil ?_)))))
            refine CW.condN rfl (fun h6 => ?_) (fun h6 => ?_)
            · skip
              refine CW.seq (CW.reg ?_)
              refine WL.ev rfl rfl (Ev.as rfl rfl) (WL.nil ?_)
              refine CW.ret ?_
              have e : x ≠ y := by rintro rfl; exact h6 rfl
              exact ⟨_, res1 rfl rfl rfl, (hEb1.trans hEb2), vB (by simp [e])⟩
            · skip
              refine CW.skip ?_
              refine CW.seq (CW.seq (CW.reg ?_))
              refine WL.ev rfl rfl (Ev.fa rfl fo31_6 rfl) (WL.ev rfl rfl (Ev.ld rfl ag29 rfl ((hBb1.ext hEb2).cell rfl)) (WL.ev rfl rfl (Ev.fa rfl fo31_6 rfl) (WL.ev rfl rfl (Ev.ld rfl ag29 rfl (hBb2.cell rfl)) ?_)))
              refine WL.call rfl rfl rfl rfl rfl ok60 rfl (eqExprS_step _ x.Args y.Args (hs1.ext (hEb1.trans hEb2)) (hs2.ext (hEb1.trans hEb2)) ih) ?_
              rintro _ w3 hEw3 rfl
              refine WL.ev rfl rfl (Ev.not rfl rfl) (WL.nil ?_)
              refine CW.condN rfl (fun h7 => ?_) (fun h7 => ?_)
              · skip
                refine CW.seq (CW.reg ?_)
                refine WL.ev rfl rfl (Ev.as rfl rfl) (WL.nil ?_)
                refine CW.ret ?_
                have e : x ≠ y := by rintro rfl; exact h7 rfl
                exact ⟨_, res1 rfl rfl rfl, ((hEb1.trans hEb2).trans hEw3), vB (by simp [e])⟩
              · skip
                refine CW.skip ?_
                refine CW.seq (CW.reg ?_)
                refine WL.ev rfl rfl (Ev.as rfl rfl) (WL.nil ?_)
                refine CW.ret ?_
                have e : x = y := by cases x; cases y; simp_all
                exact ⟨_, res1 rfl rfl rfl, ((hEb1.trans hEb2).trans hEw3), vB (by simp [e])⟩

theorem eqExpr_spec (w : World) {S S2 : Nat → Prop} (x y : Expr) {cs ds : List Value} (hx : rd S w x cs) (hy : rd S2 w y ds) :
    Ret Try.prog 16 #[.agg cs.toArray, .agg ds.toArray] w (fun _ => False) fun v _ => v = .bool (decide (x = y)) :=
  Expr_ind (P := fun x => ∀ (w : World) {S S2 : Nat → Prop} (y : Expr) {cs ds : List Value} (hx : rd S w x cs) (hy : rd S2 w y ds), Ret Try.prog 16 #[.agg cs.toArray, .agg ds.toArray] w (fun _ => False) fun v _ => v = .bool (decide (x = y))) (fun x ih => by intros; exact eqExpr_step _ x _ (by assumption) (by assumption) ih) x w y hx hy

theorem eqExprS_spec (w : World) {S S2 : Nat → Prop} (x y : List Expr) {z z2 : Value} (hx : rdS S w x z) (hy : rdS S2 w y z2) :
    Ret Try.prog 60 #[z, z2] w (fun _ => False) fun v _ => v = .bool (decide (x = y)) := eqExprS_step w x y hx hy fun x0 _ => by intros; exact eqExpr_spec _ x0 _ (by assumption) (by assumption)

theorem eqOccurrence_spec (w : World) {S S2 : Nat → Prop} (x y : Occurrence) {cs ds : List Value} (hx : rd S w x cs) (hy : rd S2 w y ds) :
    Ret Try.prog 61 #[.agg cs.toArray, .agg ds.toArray] w (fun _ => False) fun v _ => v = .bool (decide (x = y)) := by
  refine enter Try.func61 rfl rfl rfl ?_
  have hK1 := hx
  obtain ⟨rfl, hr1, hr2⟩ := hx
  have hK2 := hy
  obtain ⟨rfl, hr3, hr4⟩ := hy
  refine CW.seq (CW.reg ?_)
  refine WL.box rfl rfl rfl rfl rfl fun b1 w1 hEb1 hbb1 hBb1 => ?_
  refine WL.box rfl rfl rfl rfl rfl fun b2 w2 hEb2 hbb2 hBb2 => ?_
  refine WL.ev rfl rfl (Ev.as rfl rfl) (WL.nil ?_)
  refine CW.seq (CW.seq (CW.reg ?_))
  refine WL.ev rfl rfl (Ev.fa rfl fo90_0 rfl) (WL.ev rfl rfl (Ev.ld rfl ag3 rfl ((hBb1.ext hEb2).cell rfl)) (WL.ev rfl rfl (Ev.fa rfl fo90_0 rfl) (WL.ev rfl rfl (Ev.ld rfl ag3 rfl (hBb2.cell rfl)) (WL.ev rfl rfl (Ev.bin rfl rfl rfl Bin.neq) (WL.nil ?_)))))
  refine CW.condN rfl (fun h1 => ?_) (fun h1 => ?_)
  · skip
    refine CW.seq (CW.reg ?_)
    refine WL.ev rfl rfl (Ev.as rfl rfl) (WL.nil ?_)
    refine CW.ret ?_
    have e : x ≠ y := by rintro rfl; exact h1 rfl
    exact ⟨_, res1 rfl rfl rfl, (hEb1.trans hEb2), vB (by simp [e])⟩
  · skip
    refine CW.skip ?_
    refine CW.seq (CW.seq (CW.reg ?_))
    refine WL.ev rfl rfl (Ev.fa rfl fo90_1 rfl) (WL.ev rfl rfl (Ev.ld rfl ag9 rfl ((hBb1.ext hEb2).cell rfl)) (WL.ev rfl rfl (Ev.fa rfl fo90_1 rfl) (WL.ev rfl rfl (Ev.ld rfl ag9 rfl (hBb2.cell rfl)) (WL.ev rfl rfl (Ev.bin rfl rfl rfl Bin.neqS) (WL.nil ?_)))))
    refine CW.condN rfl (fun h2 => ?_) (fun h2 => ?_)
    · skip
      refine CW.seq (CW.reg ?_)
      refine WL.ev rfl rfl (Ev.as rfl rfl) (WL.nil ?_)
      refine CW.ret ?_
      have e : x ≠ y := by rintro rfl; exact h2 rfl
      exact ⟨_, res1 rfl rfl rfl, (hEb1.trans hEb2), vB (by simp [e])⟩
    · skip
      refine CW.skip ?_
      refine CW.seq (CW.reg ?_)
      refine WL.ev rfl rfl (Ev.as rfl rfl) (WL.nil ?_)
      refine CW.ret ?_
      have e : x = y := by cases x; cases y; simp_all
      exact ⟨_, res1 rfl rfl rfl, (hEb1.trans hEb2), vB (by simp [e])⟩

theorem eqOccurrenceS_spec (w : World) {S S2 : Nat → Prop} (x y : List Occurrence) {z z2 : Value} (hx : rdS S w x z) (hy : rdS S2 w y z2) :
    Ret Try.prog 17 #[z, z2] w (fun _ => False) fun v _ => v = .bool (decide (x = y)) := by
  refine enter Try.func17 rfl rfl rfl ?_
  obtain ⟨A1, c1, rfl, hc1, hm1⟩ := hx.form
  have hl1 : x.length ≤ 9223372036854775807 := Nat.le_trans hc1 hm1
  obtain ⟨A2, c2, rfl, hc2, hm2⟩ := hy.form
  have hl2 : y.length ≤ 9223372036854775807 := Nat.le_trans hc2 hm2
  refine CW.seq (CW.reg ?_)
  refine WL.ev rfl rfl (Ev.as rfl rfl) (WL.nil ?_)
  refine CW.seq (CW.seq (CW.reg ?_))
  refine WL.ev rfl rfl (Ev.mv rfl rfl) (WL.ev rfl rfl (Ev.lenS rfl el33 rfl) (WL.ev rfl rfl (Ev.mv rfl rfl) (WL.ev rfl rfl (Ev.lenS rfl el33 rfl) (WL.ev rfl rfl (Ev.bin rfl rfl rfl Bin.neq) (WL.nil ?_)))))
  refine CW.condN rfl (fun h1 => ?_) (fun h1 => ?_)
  · skip
    refine CW.seq (CW.reg ?_)
    refine WL.ev rfl rfl (Ev.as rfl rfl) (WL.nil ?_)
    refine CW.ret ?_
    have e : x ≠ y := fun e => h1 (by rw [e])
    exact ⟨_, res1 rfl rfl rfl, (Ext.refl _), vB (by simp [e])⟩
  · skip
    refine CW.skip ?_
    refine CW.seq (CW.seq (CW.reg ?_))
    refine WL.ev rfl rfl (Ev.as rfl rfl) (WL.nil ?_)
    refine CW.block (CW.loop (α := Nat) (fun q => [(0, .slice A1 x.length c1), (1, .slice A2 y.length c2), (5, .int .i64 (q : Int))]) (fun q wr => Ext w wr ∧ q ≤ x.length ∧ x.take q = y.take q) (fun q => x.length - q) 0 ⟨rfl, rfl, rfl, trivial⟩ ⟨Ext.refl _, by omega, rfl⟩ ?_)
    rintro k σ wr1 ⟨hEwr1, hk, hpre⟩
    refine CW.seq (CW.seq (CW.reg ?_))
    refine WL.ev rfl rfl (Ev.mv rfl rfl) (WL.ev rfl rfl (Ev.mv rfl rfl) (WL.ev rfl rfl (Ev.lenS rfl el33 rfl) (WL.ev rfl rfl (Ev.bin rfl rfl rfl Bin.lss) (WL.nil ?_))))
    refine CW.condD rfl (fun h2 => ?_) (fun h2 => ?_)
    · skip
      refine CW.skip ?_
      refine CW.seq (CW.block (CW.seq (CW.quiet hmix (by kernel_rfl) ?_)))
      refine QL.ev rfl rfl (fun _ _ => Ev.mv rfl rfl) (QL.ev rfl rfl (fun _ _ => Ev.mv rfl rfl) ?_)
      obtain ⟨xe1, be1, oe1, cse1, hxe1, hAe1, hSe1, hre1, hAte1⟩ := rdS.el hx (i := k) (by omega)
      have hK1 := hre1
      obtain ⟨rfl, hr1, hr2⟩ := hre1
      refine QL.ev rfl rfl (fun _ _ => Ev.ixA rfl el33 sz90 rfl hAe1 rfl (by omega)) (QL.ev rfl rfl (fun _ hq => Ev.lda rfl ag90 sz90 rfl (hAte1.ext (hEwr1.trans hq)) rfl) (QL.ev rfl rfl (fun _ _ => Ev.mv rfl rfl) (QL.ev rfl rfl (fun _ _ => Ev.mv rfl rfl) ?_)))
      obtain ⟨xe2, be2, oe2, cse2, hxe2, hAe2, hSe2, hre2, hAte2⟩ := rdS.el hy (i := k) (by omega)
      have hK2 := hre2
      obtain ⟨rfl, hr3, hr4⟩ := hre2
      refine QL.ev rfl rfl (fun _ _ => Ev.ixA rfl el33 sz90 rfl hAe2 rfl (by omega)) (QL.ev rfl rfl (fun _ hq => Ev.lda rfl ag90 sz90 rfl (hAte2.ext (hEwr1.trans hq)) rfl) (QL.call rfl rfl rfl rfl rfl ok61 rfl (fun _ hq => eqOccurrence_spec _ xe1 xe2 (rd_ext hK1 (hEwr1.trans hq)) (rd_ext hK2 (hEwr1.trans hq))) (QL.ev rfl rfl (fun _ _ => Ev.not rfl rfl) (QL.nil (fun w1 hEw1 => ?_)))))
      refine CW.condN rfl (fun h3 => ?_) (fun h3 => ?_)
      · skip
        refine CW.seq (CW.reg ?_)
        refine WL.ev rfl rfl (Ev.as rfl rfl) (WL.nil ?_)
        refine CW.ret ?_
        have e : x ≠ y := ne_of_at hxe1 hxe2 h3
        exact ⟨_, res1 rfl rfl rfl, (hEwr1.trans hEw1), vB (by simp [e])⟩
      · skip
        refine CW.skip ?_
        refine CW.reg ?_
        refine WL.ev rfl rfl (Ev.mv rfl rfl) (WL.ev rfl rfl (Ev.bin rfl rfl rfl (Bin.add (by omega))) (WL.ev rfl rfl (Ev.as rfl rfl) (WL.nil ?_)))
        exact ⟨k + 1, ⟨rfl, rfl, rfl, trivial⟩, ⟨(hEwr1.trans hEw1), by omega, take_succ_eq hpre hxe1 hxe2 h3⟩, by omega⟩
    · skip
      refine CW.exit ?_
      refine CW.seq (CW.reg ?_)
      refine WL.ev rfl rfl (Ev.as rfl rfl) (WL.nil ?_)
      refine CW.ret ?_
      have e : x = y := eq_of_take (by omega) (by omega) hpre
      exact ⟨_, res1 rfl rfl rfl, hEwr1, vB (by simp [e])⟩

theorem szAttribute_spec (w : World) {S : Nat → Prop} (x : Attribute) {cs : List Value} (hx : rd S w x cs) (left : Int) (h0 : 0 ≤ left) (h1 : left ≤ 1048576) :
    Ret Try.prog 150 #[.agg cs.toArray, .int .i64 left] w (fun _ => False) fun v _ => ∃ r, v = .int .i64 r ∧ (((Sz.szd x : Nat) : Int) ≤ left ∧ r = left - (Sz.szd x : Nat) ∨ left < (Sz.szd x : Nat) ∧ r = -1) := by
  refine enter Try.func150 rfl rfl rfl ?_
  have hK1 := hx
  obtain ⟨rfl, hr1, hr2, hr3⟩ := hx
  have hsz := Attribute_szd x
  refine CW.seq (CW.reg ?_)
  refine WL.box rfl rfl rfl rfl rfl fun b1 w1 hEb1 hbb1 hBb1 => ?_
  refine WL.ev rfl rfl (Ev.as rfl rfl) (WL.nil ?_)
  refine CW.seq (CW.reg ?_)
  refine WL.ev rfl rfl (Ev.mv rfl rfl) (WL.ev rfl rfl (Ev.fa rfl fo193_0 rfl) (WL.ev rfl rfl (Ev.ld rfl ag9 rfl (hBb1.cell rfl)) (WL.ev rfl rfl (Ev.lenB rfl Try.underlying9 rfl) (WL.ev rfl rfl (Ev.bin rfl rfl rfl (Bin.sub (by omega))) (WL.ev rfl rfl (Ev.as rfl rfl) (WL.nil ?_))))))
  refine CW.seq (CW.seq (CW.reg ?_))
  refine WL.ev rfl rfl (Ev.mv rfl rfl) (WL.ev rfl rfl (Ev.bin rfl rfl rfl Bin.lss) (WL.nil ?_))
  refine CW.condD rfl (fun h1 => ?_) (fun h1 => ?_)
  · skip
    refine CW.seq (CW.reg ?_)
    refine WL.ev rfl rfl (Ev.as rfl rfl) (WL.nil ?_)
    refine CW.ret ?_
    refine ⟨_, res1 rfl rfl rfl, hEb1, _, rfl, ?_⟩
    try simp only [szfold] at *
    first | omega | (right; exact ⟨by omega, by first | rfl | trivial⟩)
  · skip
    refine CW.skip ?_
    refine CW.seq (CW.reg ?_)
    refine WL.ev rfl rfl (Ev.mv rfl rfl) (WL.ev rfl rfl (Ev.as rfl rfl) (WL.nil ?_))
    refine CW.ret ?_
    refine ⟨_, res1 rfl rfl rfl, hEb1, _, rfl, ?_⟩
    try simp only [szfold] at *
    first | omega | (right; exact ⟨by omega, by first | rfl | trivial⟩)

theorem szAttributeS_spec (w : World) {S : Nat → Prop} (x : List Attribute) {z : Value} (hx : rdS S w x z) (left : Int) (h0 : 0 ≤ left) (h1 : left ≤ 1048576) :
    Ret Try.prog 132 #[z, .int .i64 left] w (fun _ => False) fun v _ => ∃ r, v = .int .i64 r ∧ (((Sz.szd x : Nat) : Int) ≤ left ∧ r = left - (Sz.szd x : Nat) ∨ left < (Sz.szd x : Nat) ∧ r = -1) := by
  refine enter Try.func132 rfl rfl rfl ?_
  obtain ⟨A1, c1, rfl, hc1, hm1⟩ := hx.form
  have hl1 : x.length ≤ 9223372036854775807 := Nat.le_trans hc1 hm1
  have hsz : Sz.szd x = szL x := rfl
  have hlen := szL_length x
  refine CW.seq (CW.reg ?_)
  refine WL.ev rfl rfl (Ev.as rfl rfl) (WL.nil ?_)
  refine CW.seq (CW.reg ?_)
  refine WL.ev rfl rfl (Ev.mv rfl rfl) (WL.ev rfl rfl (Ev.mv rfl rfl) (WL.ev rfl rfl (Ev.lenS rfl el142 rfl) (WL.ev rfl rfl (Ev.bin rfl rfl rfl (Bin.sub (by omega))) (WL.ev rfl rfl (Ev.as rfl rfl) (WL.nil ?_)))))
  refine CW.seq (CW.seq (CW.reg ?_))
  refine WL.ev rfl rfl (Ev.mv rfl rfl) (WL.ev rfl rfl (Ev.bin rfl rfl rfl Bin.lss) (WL.nil ?_))
  refine CW.condD rfl (fun h1 => ?_) (fun h1 => ?_)
  · skip
    refine CW.seq (CW.reg ?_)
    refine WL.ev rfl rfl (Ev.as rfl rfl) (WL.nil ?_)
    refine CW.ret ?_
    refine ⟨_, res1 rfl rfl rfl, (Ext.refl _), _, rfl, ?_⟩
    try have hall := szL_take_all (x := x) (k := k) (by omega)
    try simp only [szfold] at *
    first | omega | (right; exact ⟨by omega, by first | rfl | trivial⟩)
  · skip
    refine CW.skip ?_
    refine CW.seq (CW.seq (CW.reg ?_))
    refine WL.ev rfl rfl (Ev.as rfl rfl) (WL.nil ?_)
    refine CW.block (CW.loop (α := Nat × Int) (fun q => [(0, .slice A1 x.length c1), (1, .int .i64 q.2), (5, .int .i64 (q.1 : Int))]) (fun q wr => Ext w wr ∧ q.1 ≤ x.length ∧ 0 ≤ q.2 ∧ q.2 + x.length + szL (x.take q.1) = left + q.1) (fun q => x.length - q.1) (0, left - x.length) ⟨rfl, rfl, rfl, trivial⟩ ⟨Ext.refl _, by simp, by simp only; omega, by simp [szL]⟩ ?_)
    rintro ⟨k, l⟩ σ wr1 ⟨hEwr1, hk, hl0, hle⟩
    simp only at hk hl0 hle
    have hmn0 := szL_take_le x k
    refine CW.seq (CW.seq (CW.reg ?_))
    refine WL.ev rfl rfl (Ev.mv rfl rfl) (WL.ev rfl rfl (Ev.mv rfl rfl) (WL.ev rfl rfl (Ev.lenS rfl el142 rfl) (WL.ev rfl rfl (Ev.bin rfl rfl rfl Bin.lss) (WL.nil ?_))))
    refine CW.condD rfl (fun h2 => ?_) (fun h2 => ?_)
    · skip
      refine CW.skip ?_
      refine CW.seq (CW.block (CW.seq (CW.reg ?_)))
      refine WL.ev rfl rfl (Ev.mv rfl rfl) (WL.ev rfl rfl (Ev.mv rfl rfl) ?_)
      obtain ⟨xe1, be1, oe1, cse1, hxe1, hAe1, hSe1, hre1, hAte1⟩ := rdS.el hx (i := k) (by omega)
      have hK1 := hre1
      obtain ⟨rfl, hr1, hr2, hr3⟩ := hre1
      refine WL.ev rfl rfl (Ev.ixA rfl el142 sz193 rfl hAe1 rfl (by omega)) (WL.ev rfl rfl (Ev.lda rfl ag193 sz193 rfl (hAte1.ext hEwr1) rfl) (WL.ev rfl rfl (Ev.mv rfl rfl) ?_))
      refine WL.call rfl rfl rfl rfl rfl ok150 rfl (szAttribute_spec _ xe1 (rd_ext hK1 hEwr1) _ (by omega) (by omega)) ?_
      rintro _ w1 hEw1 ⟨r1, rfl, hr4⟩
      have hq1 := Attribute_szd xe1
      refine WL.ev rfl rfl (Ev.as rfl rfl) (WL.nil ?_)
      refine CW.seq (CW.reg ?_)
      refine WL.ev rfl rfl (Ev.mv rfl rfl) (WL.ev rfl rfl (Ev.bin rfl rfl rfl Bin.lss) (WL.nil ?_))
      refine CW.condD rfl (fun h3 => ?_) (fun h3 => ?_)
      · skip
        refine CW.seq (CW.reg ?_)
        refine WL.ev rfl rfl (Ev.as rfl rfl) (WL.nil ?_)
        refine CW.ret ?_
        refine ⟨_, res1 rfl rfl rfl, (hEwr1.trans hEw1), _, rfl, ?_⟩
        have htk := szL_take_succ hxe1
        have hmn := szL_take_le x (k + 1)
        try simp only [szfold] at *
        first | omega | (right; exact ⟨by omega, by first | rfl | trivial⟩)
      · skip
        refine CW.skip ?_
        refine CW.reg ?_
        refine WL.ev rfl rfl (Ev.mv rfl rfl) (WL.ev rfl rfl (Ev.bin rfl rfl rfl (Bin.add (by omega))) (WL.ev rfl rfl (Ev.as rfl rfl) (WL.nil ?_)))
        have htk := szL_take_succ hxe1
        have hmn := szL_take_le x (k + 1)
        exact ⟨(k + 1, r1), ⟨rfl, rfl, rfl, trivial⟩, ⟨(hEwr1.trans hEw1), by simp only; omega, by simp only; omega, by simp only; omega⟩, by simp only; omega⟩
    · skip
      refine CW.exit ?_
      refine CW.seq (CW.reg ?_)
      refine WL.ev rfl rfl (Ev.mv rfl rfl) (WL.ev rfl rfl (Ev.as rfl rfl) (WL.nil ?_))
      refine CW.ret ?_
      refine ⟨_, res1 rfl rfl rfl, hEwr1, _, rfl, ?_⟩
      try have hall := szL_take_all (x := x) (k := k) (by omega)
      try simp only [szfold] at *
      first | omega | (right; exact ⟨by omega, by first | rfl | trivial⟩)

theorem szSymbol_spec (w : World) {S : Nat → Prop} (x : Symbol) {cs : List Value} (hx : rd S w x cs) (left : Int) (h0 : 0 ≤ left) (h1 : left ≤ 1048576) :
    Ret Try.prog 107 #[.agg cs.toArray, .int .i64 left] w (fun _ => False) fun v _ => ∃ r, v = .int .i64 r ∧ (((Sz.szd x : Nat) : Int) ≤ left ∧ r = left - (Sz.szd x : Nat) ∨ left < (Sz.szd x : Nat) ∧ r = -1) := by
  refine enter Try.func107 rfl rfl rfl ?_
  have hK1 := hx
  obtain ⟨v1, rfl, hr1, hs1⟩ := hx
  obtain ⟨A1, c1, rfl, hc1, hm1⟩ := hs1.form
  have hsz := Symbol_szd x
  refine CW.seq (CW.reg ?_)
  refine WL.box rfl rfl rfl rfl rfl fun b1 w1 hEb1 hbb1 hBb1 => ?_
  refine WL.ev rfl rfl (Ev.as rfl rfl) (WL.nil ?_)
  refine CW.seq (CW.reg ?_)
  refine WL.ev rfl rfl (Ev.mv rfl rfl) (WL.ev rfl rfl (Ev.fa rfl fo144_0 rfl) (WL.ev rfl rfl (Ev.ld rfl ag9 rfl (hBb1.cell rfl)) (WL.ev rfl rfl (Ev.lenB rfl Try.underlying9 rfl) (WL.ev rfl rfl (Ev.bin rfl rfl rfl (Bin.sub (by omega))) (WL.ev rfl rfl (Ev.as rfl rfl) (WL.nil ?_))))))
  refine CW.seq (CW.seq (CW.reg ?_))
  refine WL.ev rfl rfl (Ev.mv rfl rfl) (WL.ev rfl rfl (Ev.bin rfl rfl rfl Bin.lss) (WL.nil ?_))
  refine CW.condD rfl (fun h1 => ?_) (fun h1 => ?_)
  · skip
    refine CW.seq (CW.reg ?_)
    refine WL.ev rfl rfl (Ev.as rfl rfl) (WL.nil ?_)
    refine CW.ret ?_
    refine ⟨_, res1 rfl rfl rfl, hEb1, _, rfl, ?_⟩
    try simp only [szfold] at *
    first | omega | (right; exact ⟨by omega, by first | rfl | trivial⟩)
  · skip
    refine CW.skip ?_
    refine CW.seq (CW.reg ?_)
    refine WL.ev rfl rfl (Ev.fa rfl fo144_1 rfl) (WL.ev rfl rfl (Ev.ld rfl ag142 rfl (hBb1.cell rfl)) (WL.ev rfl rfl (Ev.mv rfl rfl) ?_))
    refine WL.call rfl rfl rfl rfl rfl ok132 rfl (szAttributeS_spec _ x.Attributes (hs1.ext hEb1) _ (by omega) (by omega)) ?_
    rintro _ w2 hEw2 ⟨r1, rfl, hr2⟩
    have hq1 := szfold x.Attributes
    refine WL.ev rfl rfl (Ev.as rfl rfl) (WL.nil ?_)
    refine CW.seq (CW.seq (CW.reg ?_))
    refine WL.ev rfl rfl (Ev.mv rfl rfl) (WL.ev rfl rfl (Ev.bin rfl rfl rfl Bin.lss) (WL.nil ?_))
    refine CW.condD rfl (fun h2 => ?_) (fun h2 => ?_)
    · skip
      refine CW.seq (CW.reg ?_)
      refine WL.ev rfl rfl (Ev.as rfl rfl) (WL.nil ?_)
      refine CW.ret ?_
      refine ⟨_, res1 rfl rfl rfl, (hEb1.trans hEw2), _, rfl, ?_⟩
      try simp only [szfold] at *
      first | omega | (right; exact ⟨by omega, by first | rfl | trivial⟩)
    · skip
      refine CW.skip ?_
      refine CW.seq (CW.reg ?_)
      refine WL.ev rfl rfl (Ev.mv rfl rfl) (WL.ev rfl rfl (Ev.as rfl rfl) (WL.nil ?_))
      refine CW.ret ?_
      refine ⟨_, res1 rfl rfl rfl, (hEb1.trans hEw2), _, rfl, ?_⟩
      try simp only [szfold] at *
      first | omega | (right; exact ⟨by omega, by first | rfl | trivial⟩)

theorem szSymbolS_spec (w : World) {S : Nat → Prop} (x : List Symbol) {z : Value} (hx : rdS S w x z) (left : Int) (h0 : 0 ≤ left) (h1 : left ≤ 1048576) :
    Ret Try.prog 62 #[z, .int .i64 left] w (fun _ => False) fun v _ => ∃ r, v = .int .i64 r ∧ (((Sz.szd x : Nat) : Int) ≤ left ∧ r = left - (Sz.szd x : Nat) ∨ left < (Sz.szd x : Nat) ∧ r = -1) := by
  refine enter Try.func62 rfl rfl rfl ?_
  obtain ⟨A1, c1, rfl, hc1, hm1⟩ := hx.form
  have hl1 : x.length ≤ 9223372036854775807 := Nat.le_trans hc1 hm1
  have hsz : Sz.szd x = szL x := rfl
  have hlen := szL_length x
  refine CW.seq (CW.reg ?_)
  refine WL.ev rfl rfl (Ev.as rfl rfl) (WL.nil ?_)
  refine CW.seq (CW.reg ?_)
  refine WL.ev rfl rfl (Ev.mv rfl rfl) (WL.ev rfl rfl (Ev.mv rfl rfl) (WL.ev rfl rfl (Ev.lenS rfl el38 rfl) (WL.ev rfl rfl (Ev.bin rfl rfl rfl (Bin.sub (by omega))) (WL.ev rfl rfl (Ev.as rfl rfl) (WL.nil ?_)))))
  refine CW.seq (CW.seq (CW.reg ?_))
  refine WL.ev rfl rfl (Ev.mv rfl rfl) (WL.ev rfl rfl (Ev.bin rfl rfl rfl Bin.lss) (WL.nil ?_))
  refine CW.condD rfl (fun h1 => ?_) (fun h1 => ?_)
  · skip
    refine CW.seq (CW.reg ?_)
    refine WL.ev rfl rfl (Ev.as rfl rfl) (WL.nil ?_)
    refine CW.ret ?_
    refine ⟨_, res1 rfl rfl rfl, (Ext.refl _), _, rfl, ?_⟩
    try have hall := szL_take_all (x := x) (k := k) (by omega)
    try simp only [szfold] at *
    first | omega | (right; exact ⟨by omega, by first | rfl | trivial⟩)
  · skip
    refine CW.skip ?_
    refine CW.seq (CW.seq (CW.reg ?_))
    refine WL.ev rfl rfl (Ev.as rfl rfl) (WL.nil ?_)
    refine CW.block (CW.loop (α := Nat × Int) (fun q => [(0, .slice A1 x.length c1), (1, .int .i64 q.2), (5, .int .i64 (q.1 : Int))]) (fun q wr => Ext w wr ∧ q.1 ≤ x.length ∧ 0 ≤ q.2 ∧ q.2 + x.length + szL (x.take q.1) = left + q.1) (fun q => x.length - q.1) (0, left - x.length) ⟨rfl, rfl, rfl, trivial⟩ ⟨Ext.refl _, by simp, by simp only; omega, by simp [szL]⟩ ?_)
    rintro ⟨k, l⟩ σ wr1 ⟨hEwr1, hk, hl0, hle⟩
    simp only at hk hl0 hle
    have hmn0 := szL_take_le x k
    refine CW.seq (CW.seq (CW.reg ?_))
    refine WL.ev rfl rfl (Ev.mv rfl rfl) (WL.ev rfl rfl (Ev.mv rfl rfl) (WL.ev rfl rfl (Ev.lenS rfl el38 rfl) (WL.ev rfl rfl (Ev.bin rfl rfl rfl Bin.lss) (WL.nil ?_))))
    refine CW.condD rfl (fun h2 => ?_) (fun h2 => ?_)
    · skip
      refine CW.skip ?_
      refine CW.seq (CW.block (CW.seq (CW.reg ?_)))
      refine WL.ev rfl rfl (Ev.mv rfl rfl) (WL.ev rfl rfl (Ev.mv rfl rfl) ?_)
      obtain ⟨xe1, be1, oe1, cse1, hxe1, hAe1, hSe1, hre1, hAte1⟩ := rdS.el hx (i := k) (by omega)
      have hK1 := hre1
      obtain ⟨v1, rfl, hr1, hs1⟩ := hre1
      obtain ⟨A2, c2, rfl, hc2, hm2⟩ := hs1.form
      refine WL.ev rfl rfl (Ev.ixA rfl el38 sz144 rfl hAe1 rfl (by omega)) (WL.ev rfl rfl (Ev.lda rfl ag144 sz144 rfl (hAte1.ext hEwr1) rfl) (WL.ev rfl rfl (Ev.mv rfl rfl) ?_))
      refine WL.call rfl rfl rfl rfl rfl ok107 rfl (szSymbol_spec _ xe1 (rd_ext hK1 hEwr1) _ (by omega) (by omega)) ?_
      rintro _ w1 hEw1 ⟨r1, rfl, hr2⟩
      have hq1 := Symbol_szd xe1
      refine WL.ev rfl rfl (Ev.as rfl rfl) (WL.nil ?_)
      refine CW.seq (CW.reg ?_)
      refine WL.ev rfl rfl (Ev.mv rfl rfl) (WL.ev rfl rfl (Ev.bin rfl rfl rfl Bin.lss) (WL.nil ?_))
      refine CW.condD rfl (fun h3 => ?_) (fun h3 => ?_)
      · skip
        refine CW.seq (CW.reg ?_)
        refine WL.ev rfl rfl (Ev.as rfl rfl) (WL.nil ?_)
        refine CW.ret ?_
        refine ⟨_, res1 rfl rfl rfl, (hEwr1.trans hEw1), _, rfl, ?_⟩
        have htk := szL_take_succ hxe1
        have hmn := szL_take_le x (k + 1)
        try simp only [szfold] at *
        first | omega | (right; exact ⟨by omega, by first | rfl | trivial⟩)
      · skip
        refine CW.skip ?_
        refine CW.reg ?_
        refine WL.ev rfl rfl (Ev.mv rfl rfl) (WL.ev rfl rfl (Ev.bin rfl rfl rfl (Bin.add (by omega))) (WL.ev rfl rfl (Ev.as rfl rfl) (WL.nil ?_)))
        have htk := szL_take_succ hxe1
        have hmn := szL_take_le x (k + 1)
        exact ⟨(k + 1, r1), ⟨rfl, rfl, rfl, trivial⟩, ⟨(hEwr1.trans hEw1), by simp only; omega, by simp only; omega, by simp only; omega⟩, by simp only; omega⟩
    · skip
      refine CW.exit ?_
      refine CW.seq (CW.reg ?_)
      refine WL.ev rfl rfl (Ev.mv rfl rfl) (WL.ev rfl rfl (Ev.as rfl rfl) (WL.nil ?_))
      refine CW.ret ?_
      refine ⟨_, res1 rfl rfl rfl, hEwr1, _, rfl, ?_⟩
      try have hall := szL_take_all (x := x) (k := k) (by omega)
      try simp only [szfold] at *
      first | omega | (right; exact ⟨by omega, by first | rfl | trivial⟩)

theorem szStringS_spec (w : World) {S : Nat → Prop} (x : List ByteArray) {z : Value} (hx : rdS S w x z) (left : Int) (h0 : 0 ≤ left) (h1 : left ≤ 1048576) :
    Ret Try.prog 74 #[z, .int .i64 left] w (fun _ => False) fun v _ => ∃ r, v = .int .i64 r ∧ (((Sz.szd x : Nat) : Int) ≤ left ∧ r = left - (Sz.szd x : Nat) ∨ left < (Sz.szd x : Nat) ∧ r = -1) := by
  refine enter Try.func74 rfl rfl rfl ?_
  obtain ⟨A1, c1, rfl, hc1, hm1⟩ := hx.form
  have hl1 : x.length ≤ 9223372036854775807 := Nat.le_trans hc1 hm1
  have hsz : Sz.szd x = szL x := rfl
  have hlen := szL_length x
  refine CW.seq (CW.reg ?_)
  refine WL.ev rfl rfl (Ev.as rfl rfl) (WL.nil ?_)
  refine CW.seq (CW.reg ?_)
  refine WL.ev rfl rfl (Ev.mv rfl rfl) (WL.ev rfl rfl (Ev.mv rfl rfl) (WL.ev rfl rfl (Ev.lenS rfl el55 rfl) (WL.ev rfl rfl (Ev.bin rfl rfl rfl (Bin.sub (by omega))) (WL.ev rfl rfl (Ev.as rfl rfl) (WL.nil ?_)))))
  refine CW.seq (CW.seq (CW.reg ?_))
  refine WL.ev rfl rfl (Ev.mv rfl rfl) (WL.ev rfl rfl (Ev.bin rfl rfl rfl Bin.lss) (WL.nil ?_))
  refine CW.condD rfl (fun h1 => ?_) (fun h1 => ?_)
  · skip
    refine CW.seq (CW.reg ?_)
    refine WL.ev rfl rfl (Ev.as rfl rfl) (WL.nil ?_)
    refine CW.ret ?_
    refine ⟨_, res1 rfl rfl rfl, (Ext.refl _), _, rfl, ?_⟩
    try have hall := szL_take_all (x := x) (k := k) (by omega)
    try simp only [szfold] at *
    first | omega | (right; exact ⟨by omega, by first | rfl | trivial⟩)
  · skip
    refine CW.skip ?_
    refine CW.seq (CW.seq (CW.reg ?_))
    refine WL.ev rfl rfl (Ev.as rfl rfl) (WL.nil ?_)
    refine CW.block (CW.loop (α := Nat × Int) (fun q => [(0, .slice A1 x.length c1), (1, .int .i64 q.2), (5, .int .i64 (q.1 : Int))]) (fun q wr => Ext w wr ∧ q.1 ≤ x.length ∧ 0 ≤ q.2 ∧ q.2 + x.length + szL (x.take q.1) = left + q.1) (fun q => x.length - q.1) (0, left - x.length) ⟨rfl, rfl, rfl, trivial⟩ ⟨Ext.refl _, by simp, by simp only; omega, by simp [szL]⟩ ?_)
    rintro ⟨k, l⟩ σ wr1 ⟨hEwr1, hk, hl0, hle⟩
    simp only at hk hl0 hle
    have hmn0 := szL_take_le x k
    refine CW.seq (CW.seq (CW.reg ?_))
    refine WL.ev rfl rfl (Ev.mv rfl rfl) (WL.ev rfl rfl (Ev.mv rfl rfl) (WL.ev rfl rfl (Ev.lenS rfl el55 rfl) (WL.ev rfl rfl (Ev.bin rfl rfl rfl Bin.lss) (WL.nil ?_))))
    refine CW.condD rfl (fun h2 => ?_) (fun h2 => ?_)
    · skip
      refine CW.skip ?_
      refine CW.seq (CW.block (CW.seq (CW.reg ?_)))
      refine WL.ev rfl rfl (Ev.mv rfl rfl) (WL.ev rfl rfl (Ev.mv rfl rfl) (WL.ev rfl rfl (Ev.mv rfl rfl) ?_))
      obtain ⟨xe1, be1, oe1, cse1, hxe1, hAe1, hSe1, hre1, hAte1⟩ := rdS.el hx (i := k) (by omega)
      have hK1 := hre1
      obtain ⟨rfl, hr1⟩ := hre1
      refine WL.ev rfl rfl (Ev.ixA rfl el55 sz9 rfl hAe1 rfl (by omega)) (WL.ev rfl rfl (Ev.ld rfl ag9 rfl ((hAte1.ext hEwr1).cell0 rfl)) (WL.ev rfl rfl (Ev.lenB rfl Try.underlying9 rfl) (WL.ev rfl rfl (Ev.bin rfl rfl rfl (Bin.sub (by omega))) (WL.ev rfl rfl (Ev.as rfl rfl) (WL.nil ?_)))))
      refine CW.seq (CW.reg ?_)
      refine WL.ev rfl rfl (Ev.mv rfl rfl) (WL.ev rfl rfl (Ev.bin rfl rfl rfl Bin.lss) (WL.nil ?_))
      refine CW.condD rfl (fun h3 => ?_) (fun h3 => ?_)
      · skip
        refine CW.seq (CW.reg ?_)
        refine WL.ev rfl rfl (Ev.as rfl rfl) (WL.nil ?_)
        refine CW.ret ?_
        refine ⟨_, res1 rfl rfl rfl, hEwr1, _, rfl, ?_⟩
        have htk := szL_take_succ hxe1
        have hmn := szL_take_le x (k + 1)
        have hsd : Sz.szd xe1 = xe1.size := rfl
        try simp only [szfold] at *
        first | omega | (right; exact ⟨by omega, by first | rfl | trivial⟩)
      · skip
        refine CW.skip ?_
        refine CW.reg ?_
        refine WL.ev rfl rfl (Ev.mv rfl rfl) (WL.ev rfl rfl (Ev.bin rfl rfl rfl (Bin.add (by omega))) (WL.ev rfl rfl (Ev.as rfl rfl) (WL.nil ?_)))
        have htk := szL_take_succ hxe1
        have hmn := szL_take_le x (k + 1)
        have hsd : Sz.szd xe1 = xe1.size := rfl
        exact ⟨(k + 1, l - xe1.size), ⟨rfl, rfl, rfl, trivial⟩, ⟨hEwr1, by simp only; omega, by simp only; omega, by simp only; omega⟩, by simp only; omega⟩
    · skip
      refine CW.exit ?_
      refine CW.seq (CW.reg ?_)
      refine WL.ev rfl rfl (Ev.mv rfl rfl) (WL.ev rfl rfl (Ev.as rfl rfl) (WL.nil ?_))
      refine CW.ret ?_
      refine ⟨_, res1 rfl rfl rfl, hEwr1, _, rfl, ?_⟩
      try have hall := szL_take_all (x := x) (k := k) (by omega)
      try simp only [szfold] at *
      first | omega | (right; exact ⟨by omega, by first | rfl | trivial⟩)

theorem szEquation_spec (w : World) {S : Nat → Prop} (x : Equation) {cs : List Value} (hx : rd S w x cs) (left : Int) (h0 : 0 ≤ left) (h1 : left ≤ 1048576) :
    Ret Try.prog 111 #[.agg cs.toArray, .int .i64 left] w (fun _ => False) fun v _ => ∃ r, v = .int .i64 r ∧ (((Sz.szd x : Nat) : Int) ≤ left ∧ r = left - (Sz.szd x : Nat) ∨ left < (Sz.szd x : Nat) ∧ r = -1) := by
  refine enter Try.func111 rfl rfl rfl ?_
  have hK1 := hx
  obtain ⟨v1, rfl, hr1, hr2, hr3, hr4, hr5, hr6, hr7, hr8, hs1⟩ := hx
  obtain ⟨A1, c1, rfl, hc1, hm1⟩ := hs1.form
  have hsz := Equation_szd x
  refine CW.seq (CW.reg ?_)
  refine WL.box rfl rfl rfl rfl rfl fun b1 w1 hEb1 hbb1 hBb1 => ?_
  refine WL.ev rfl rfl (Ev.as rfl rfl) (WL.nil ?_)
  refine CW.seq (CW.reg ?_)
  refine WL.ev rfl rfl (Ev.fa rfl fo151_0 rfl) (WL.ev rfl rfl (Ev.lda rfl ag88 sz88 rfl (Blk.part hBb1 0 2) rfl) (WL.ev rfl rfl (Ev.mv rfl rfl) ?_))
  refine WL.call rfl rfl rfl rfl rfl ok52 rfl (szOccurrence_spec _ x.At (rd_ext (Equation_rd_At hK1) hEb1) _ (by omega) (by omega)) ?_
  rintro _ w2 hEw2 ⟨r1, rfl, hr9⟩
  have hq1 := Occurrence_szd x.At
  refine WL.ev rfl rfl (Ev.as rfl rfl) (WL.nil ?_)
  refine CW.seq (CW.seq (CW.reg ?_))
  refine WL.ev rfl rfl (Ev.mv rfl rfl) (WL.ev rfl rfl (Ev.bin rfl rfl rfl Bin.lss) (WL.nil ?_))
  refine CW.condD rfl (fun h1 => ?_) (fun h1 => ?_)
  · skip
    refine CW.seq (CW.reg ?_)
    refine WL.ev rfl rfl (Ev.as rfl rfl) (WL.nil ?_)
    refine CW.ret ?_
    refine ⟨_, res1 rfl rfl rfl, (hEb1.trans hEw2), _, rfl, ?_⟩
    try simp only [szfold] at *
    first | omega | (right; exact ⟨by omega, by first | rfl | trivial⟩)
  · skip
    refine CW.skip ?_
    refine CW.seq (CW.reg ?_)
    refine WL.ev rfl rfl (Ev.fa rfl fo151_1 rfl) (WL.ev rfl rfl (Ev.lda rfl ag24 sz24 rfl (Blk.part (hBb1.ext hEw2) 2 7) rfl) (WL.ev rfl rfl (Ev.mv rfl rfl) ?_))
    refine WL.call rfl rfl rfl rfl rfl ok10 rfl (szExpr_spec _ x.Expr (rd_ext (Equation_rd_Expr hK1) (hEb1.trans hEw2)) _ (by omega) (by omega)) ?_
    rintro _ w3 hEw3 ⟨r2, rfl, hr10⟩
    have hq2 := Expr_szd x.Expr
    refine WL.ev rfl rfl (Ev.as rfl rfl) (WL.nil ?_)
    refine CW.seq (CW.seq (CW.reg ?_))
    refine WL.ev rfl rfl (Ev.mv rfl rfl) (WL.ev rfl rfl (Ev.bin rfl rfl rfl Bin.lss) (WL.nil ?_))
    refine CW.condD rfl (fun h2 => ?_) (fun h2 => ?_)
    · skip
      refine CW.seq (CW.reg ?_)
      refine WL.ev rfl rfl (Ev.as rfl rfl) (WL.nil ?_)
      refine CW.ret ?_
      refine ⟨_, res1 rfl rfl rfl, ((hEb1.trans hEw2).trans hEw3), _, rfl, ?_⟩
      try simp only [szfold] at *
      first | omega | (right; exact ⟨by omega, by first | rfl | trivial⟩)
    · skip
      refine CW.skip ?_
      refine CW.seq (CW.reg ?_)
      refine WL.ev rfl rfl (Ev.mv rfl rfl) (WL.ev rfl rfl (Ev.as rfl rfl) (WL.nil ?_))
      refine CW.ret ?_
      refine ⟨_, res1 rfl rfl rfl, ((hEb1.trans hEw2).trans hEw3), _, rfl, ?_⟩
      try simp only [szfold] at *
      first | omega | (right; exact ⟨by omega, by first | rfl | trivial⟩)

theorem szEquationS_spec (w : World) {S : Nat → Prop} (x : List Equation) {z : Value} (hx : rdS S w x z) (left : Int) (h0 : 0 ≤ left) (h1 : left ≤ 1048576) :
    Ret Try.prog 75 #[z, .int .i64 left] w (fun _ => False) fun v _ => ∃ r, v = .int .i64 r ∧ (((Sz.szd x : Nat) : Int) ≤ left ∧ r = left - (Sz.szd x : Nat) ∨ left < (Sz.szd x : Nat) ∧ r = -1) := by
  refine enter Try.func75 rfl rfl rfl ?_
  obtain ⟨A1, c1, rfl, hc1, hm1⟩ := hx.form
  have hl1 : x.length ≤ 9223372036854775807 := Nat.le_trans hc1 hm1
  have hsz : Sz.szd x = szL x := rfl
  have hlen := szL_length x
  refine CW.seq (CW.reg ?_)
  refine WL.ev rfl rfl (Ev.as rfl rfl) (WL.nil ?_)
  refine CW.seq (CW.reg ?_)
  refine WL.ev rfl rfl (Ev.mv rfl rfl) (WL.ev rfl rfl (Ev.mv rfl rfl) (WL.ev rfl rfl (Ev.lenS rfl el56 rfl) (WL.ev rfl rfl (Ev.bin rfl rfl rfl (Bin.sub (by omega))) (WL.ev rfl rfl (Ev.as rfl rfl) (WL.nil ?_)))))
  refine CW.seq (CW.seq (CW.reg ?_))
  refine WL.ev rfl rfl (Ev.mv rfl rfl) (WL.ev rfl rfl (Ev.bin rfl rfl rfl Bin.lss) (WL.nil ?_))
  refine CW.condD rfl (fun h1 => ?_) (fun h1 => ?_)
  · skip
    refine CW.seq (CW.reg ?_)
    refine WL.ev rfl rfl (Ev.as rfl rfl) (WL.nil ?_)
    refine CW.ret ?_
    refine ⟨_, res1 rfl rfl rfl, (Ext.refl _), _, rfl, ?_⟩
    try have hall := szL_take_all (x := x) (k := k) (by omega)
    try simp only [szfold] at *
    first | omega | (right; exact ⟨by omega, by first | rfl | trivial⟩)
  · skip
    refine CW.skip ?_
    refine CW.seq (CW.seq (CW.reg ?_))
    refine WL.ev rfl rfl (Ev.as rfl rfl) (WL.nil ?_)
    refine CW.block (CW.loop (α := Nat × Int) (fun q => [(0, .slice A1 x.length c1), (1, .int .i64 q.2), (5, .int .i64 (q.1 : Int))]) (fun q wr => Ext w wr ∧ q.1 ≤ x.length ∧ 0 ≤ q.2 ∧ q.2 + x.length + szL (x.take q.1) = left + q.1) (fun q => x.length - q.1) (0, left - x.length) ⟨rfl, rfl, rfl, trivial⟩ ⟨Ext.refl _, by simp, by simp only; omega, by simp [szL]⟩ ?_)
    rintro ⟨k, l⟩ σ wr1 ⟨hEwr1, hk, hl0, hle⟩
    simp only at hk hl0 hle
    have hmn0 := szL_take_le x k
    refine CW.seq (CW.seq (CW.reg ?_))
    refine WL.ev rfl rfl (Ev.mv rfl rfl) (WL.ev rfl rfl (Ev.mv rfl rfl) (WL.ev rfl rfl (Ev.lenS rfl el56 rfl) (WL.ev rfl rfl (Ev.bin rfl rfl rfl Bin.lss) (WL.nil ?_))))
    refine CW.condD rfl (fun h2 => ?_) (fun h2 => ?_)
    · skip
      refine CW.skip ?_
      refine CW.seq (CW.block (CW.seq (CW.reg ?_)))
      refine WL.ev rfl rfl (Ev.mv rfl rfl) (WL.ev rfl rfl (Ev.mv rfl rfl) ?_)
      obtain ⟨xe1, be1, oe1, cse1, hxe1, hAe1, hSe1, hre1, hAte1⟩ := rdS.el hx (i := k) (by omega)
      have hK1 := hre1
      obtain ⟨v1, rfl, hr1, hr2, hr3, hr4, hr5, hr6, hr7, hr8, hs1⟩ := hre1
      obtain ⟨A2, c2, rfl, hc2, hm2⟩ := hs1.form
      refine WL.ev rfl rfl (Ev.ixA rfl el56 sz151 rfl hAe1 rfl (by omega)) (WL.ev rfl rfl (Ev.lda rfl ag151 sz151 rfl (hAte1.ext hEwr1) rfl) (WL.ev rfl rfl (Ev.mv rfl rfl) ?_))
      refine WL.call rfl rfl rfl rfl rfl ok111 rfl (szEquation_spec _ xe1 (rd_ext hK1 hEwr1) _ (by omega) (by omega)) ?_
      rintro _ w1 hEw1 ⟨r1, rfl, hr9⟩
      have hq1 := Equation_szd xe1
      refine WL.ev rfl rfl (Ev.as rfl rfl) (WL.nil ?_)
      refine CW.seq (CW.reg ?_)
      refine WL.ev rfl rfl (Ev.mv rfl rfl) (WL.ev rfl rfl (Ev.bin rfl rfl rfl Bin.lss) (WL.nil ?_))
      refine CW.condD rfl (fun h3 => ?_) (fun h3 => ?_)
      · skip
        refine CW.seq (CW.reg ?_)
        refine WL.ev rfl rfl (Ev.as rfl rfl) (WL.nil ?_)
        refine CW.ret ?_
        refine ⟨_, res1 rfl rfl rfl, (hEwr1.trans hEw1), _, rfl, ?_⟩
        have htk := szL_take_succ hxe1
        have hmn := szL_take_le x (k + 1)
        try simp only [szfold] at *
        first | omega | (right; exact ⟨by omega, by first | rfl | trivial⟩)
      · skip
        refine CW.skip ?_
        refine CW.reg ?_
        refine WL.ev rfl rfl (Ev.mv rfl rfl) (WL.ev rfl rfl (Ev.bin rfl rfl rfl (Bin.add (by omega))) (WL.ev rfl rfl (Ev.as rfl rfl) (WL.nil ?_)))
        have htk := szL_take_succ hxe1
        have hmn := szL_take_le x (k + 1)
        exact ⟨(k + 1, r1), ⟨rfl, rfl, rfl, trivial⟩, ⟨(hEwr1.trans hEw1), by simp only; omega, by simp only; omega, by simp only; omega⟩, by simp only; omega⟩
    · skip
      refine CW.exit ?_
      refine CW.seq (CW.reg ?_)
      refine WL.ev rfl rfl (Ev.mv rfl rfl) (WL.ev rfl rfl (Ev.as rfl rfl) (WL.nil ?_))
      refine CW.ret ?_
      refine ⟨_, res1 rfl rfl rfl, hEwr1, _, rfl, ?_⟩
      try have hall := szL_take_all (x := x) (k := k) (by omega)
      try simp only [szfold] at *
      first | omega | (right; exact ⟨by omega, by first | rfl | trivial⟩)

theorem szContribution_spec (w : World) {S : Nat → Prop} (x : Contribution) {cs : List Value} (hx : rd S w x cs) (left : Int) (h0 : 0 ≤ left) (h1 : left ≤ 1048576) :
    Ret Try.prog 112 #[.agg cs.toArray, .int .i64 left] w (fun _ => False) fun v _ => ∃ r, v = .int .i64 r ∧ (((Sz.szd x : Nat) : Int) ≤ left ∧ r = left - (Sz.szd x : Nat) ∨ left < (Sz.szd x : Nat) ∧ r = -1) := by
  refine enter Try.func112 rfl rfl rfl ?_
  have hK1 := hx
  obtain ⟨v1, v2, rfl, hr1, hr2, hr3, hr4, hr5, hr6, hr7, hr8, hr9, hr10, hr11, hr12, hr13, hr14, hs1, hs2⟩ := hx
  obtain ⟨A1, c1, rfl, hc1, hm1⟩ := hs1.form
  obtain ⟨A2, c2, rfl, hc2, hm2⟩ := hs2.form
  have hsz := Contribution_szd x
  refine CW.seq (CW.reg ?_)
  refine WL.box rfl rfl rfl rfl rfl fun b1 w1 hEb1 hbb1 hBb1 => ?_
  refine WL.ev rfl rfl (Ev.as rfl rfl) (WL.nil ?_)
  refine CW.seq (CW.reg ?_)
  refine WL.ev rfl rfl (Ev.mv rfl rfl) (WL.ev rfl rfl (Ev.fa rfl fo154_0 rfl) (WL.ev rfl rfl (Ev.ld rfl ag9 rfl (hBb1.cell rfl)) (WL.ev rfl rfl (Ev.lenB rfl Try.underlying9 rfl) (WL.ev rfl rfl (Ev.bin rfl rfl rfl (Bin.sub (by omega))) (WL.ev rfl rfl (Ev.as rfl rfl) (WL.nil ?_))))))
  refine CW.seq (CW.seq (CW.reg ?_))
  refine WL.ev rfl rfl (Ev.mv rfl rfl) (WL.ev rfl rfl (Ev.bin rfl rfl rfl Bin.lss) (WL.nil ?_))
  refine CW.condD rfl (fun h1 => ?_) (fun h1 => ?_)
  · skip
    refine CW.seq (CW.reg ?_)
    refine WL.ev rfl rfl (Ev.as rfl rfl) (WL.nil ?_)
    refine CW.ret ?_
    refine ⟨_, res1 rfl rfl rfl, hEb1, _, rfl, ?_⟩
    try simp only [szfold] at *
    first | omega | (right; exact ⟨by omega, by first | rfl | trivial⟩)
  · skip
    refine CW.skip ?_
    refine CW.seq (CW.reg ?_)
    refine WL.ev rfl rfl (Ev.mv rfl rfl) (WL.ev rfl rfl (Ev.fa rfl fo154_1 rfl) (WL.ev rfl rfl (Ev.ld rfl ag9 rfl (hBb1.cell rfl)) (WL.ev rfl rfl (Ev.lenB rfl Try.underlying9 rfl) (WL.ev rfl rfl (Ev.bin rfl rfl rfl (Bin.sub (by omega))) (WL.ev rfl rfl (Ev.as rfl rfl) (WL.nil ?_))))))
    refine CW.seq (CW.seq (CW.reg ?_))
    refine WL.ev rfl rfl (Ev.mv rfl rfl) (WL.ev rfl rfl (Ev.bin rfl rfl rfl Bin.lss) (WL.nil ?_))
    refine CW.condD rfl (fun h2 => ?_) (fun h2 => ?_)
    · skip
      refine CW.seq (CW.reg ?_)
      refine WL.ev rfl rfl (Ev.as rfl rfl) (WL.nil ?_)
      refine CW.ret ?_
      refine ⟨_, res1 rfl rfl rfl, hEb1, _, rfl, ?_⟩
      try simp only [szfold] at *
      first | omega | (right; exact ⟨by omega, by first | rfl | trivial⟩)
    · skip
      refine CW.skip ?_
      refine CW.seq (CW.reg ?_)
      refine WL.ev rfl rfl (Ev.fa rfl fo154_2 rfl) (WL.ev rfl rfl (Ev.lda rfl ag24 sz24 rfl (Blk.part hBb1 2 7) rfl) (WL.ev rfl rfl (Ev.mv rfl rfl) ?_))
      refine WL.call rfl rfl rfl rfl rfl ok10 rfl (szExpr_spec _ x.Target (rd_ext (Contribution_rd_Target hK1) hEb1) _ (by omega) (by omega)) ?_
      rintro _ w2 hEw2 ⟨r1, rfl, hr15⟩
      have hq1 := Expr_szd x.Target
      refine WL.ev rfl rfl (Ev.as rfl rfl) (WL.nil ?_)
      refine CW.seq (CW.seq (CW.reg ?_))
      refine WL.ev rfl rfl (Ev.mv rfl rfl) (WL.ev rfl rfl (Ev.bin rfl rfl rfl Bin.lss) (WL.nil ?_))
      refine CW.condD rfl (fun h3 => ?_) (fun h3 => ?_)
      · skip
        refine CW.seq (CW.reg ?_)
        refine WL.ev rfl rfl (Ev.as rfl rfl) (WL.nil ?_)
        refine CW.ret ?_
        refine ⟨_, res1 rfl rfl rfl, (hEb1.trans hEw2), _, rfl, ?_⟩
        try simp only [szfold] at *
        first | omega | (right; exact ⟨by omega, by first | rfl | trivial⟩)
      · skip
        refine CW.skip ?_
        refine CW.seq (CW.reg ?_)
        refine WL.ev rfl rfl (Ev.fa rfl fo154_3 rfl) (WL.ev rfl rfl (Ev.lda rfl ag24 sz24 rfl (Blk.part (hBb1.ext hEw2) 9 7) rfl) (WL.ev rfl rfl (Ev.mv rfl rfl) ?_))
        refine WL.call rfl rfl rfl rfl rfl ok10 rfl (szExpr_spec _ x.Value (rd_ext (Contribution_rd_Value hK1) (hEb1.trans hEw2)) _ (by omega) (by omega)) ?_
        rintro _ w3 hEw3 ⟨r2, rfl, hr16⟩
        have hq2 := Expr_szd x.Value
        refine WL.ev rfl rfl (Ev.as rfl rfl) (WL.nil ?_)
        refine CW.seq (CW.seq (CW.reg ?_))
        refine WL.ev rfl rfl (Ev.mv rfl rfl) (WL.ev rfl rfl (Ev.bin rfl rfl rfl Bin.lss) (WL.nil ?_))
        refine CW.condD rfl (fun h4 => ?_) (fun h4 => ?_)
        · skip
          refine CW.seq (CW.reg ?_)
          refine WL.ev rfl rfl (Ev.as rfl rfl) (WL.nil ?_)
          refine CW.ret ?_
          refine ⟨_, res1 rfl rfl rfl, ((hEb1.trans hEw2).trans hEw3), _, rfl, ?_⟩
          try simp only [szfold] at *
          first | omega | (right; exact ⟨by omega, by first | rfl | trivial⟩)
        · skip
          refine CW.skip ?_
          refine CW.seq (CW.reg ?_)
          refine WL.ev rfl rfl (Ev.mv rfl rfl) (WL.ev rfl rfl (Ev.as rfl rfl) (WL.nil ?_))
          refine CW.ret ?_
          refine ⟨_, res1 rfl rfl rfl, ((hEb1.trans hEw2).trans hEw3), _, rfl, ?_⟩
          try simp only [szfold] at *
          first | omega | (right; exact ⟨by omega, by first | rfl | trivial⟩)

theorem szContributionS_spec (w : World) {S : Nat → Prop} (x : List Contribution) {z : Value} (hx : rdS S w x z) (left : Int) (h0 : 0 ≤ left) (h1 : left ≤ 1048576) :
    Ret Try.prog 76 #[z, .int .i64 left] w (fun _ => False) fun v _ => ∃ r, v = .int .i64 r ∧ (((Sz.szd x : Nat) : Int) ≤ left ∧ r = left - (Sz.szd x : Nat) ∨ left < (Sz.szd x : Nat) ∧ r = -1) := by
  refine enter Try.func76 rfl rfl rfl ?_
  obtain ⟨A1, c1, rfl, hc1, hm1⟩ := hx.form
  have hl1 : x.length ≤ 9223372036854775807 := Nat.le_trans hc1 hm1
  have hsz : Sz.szd x = szL x := rfl
  have hlen := szL_length x
  refine CW.seq (CW.reg ?_)
  refine WL.ev rfl rfl (Ev.as rfl rfl) (WL.nil ?_)
  refine CW.seq (CW.reg ?_)
  refine WL.ev rfl rfl (Ev.mv rfl rfl) (WL.ev rfl rfl (Ev.mv rfl rfl) (WL.ev rfl rfl (Ev.lenS rfl el57 rfl) (WL.ev rfl rfl (Ev.bin rfl rfl rfl (Bin.sub (by omega))) (WL.ev rfl rfl (Ev.as rfl rfl) (WL.nil ?_)))))
  refine CW.seq (CW.seq (CW.reg ?_))
  refine WL.ev rfl rfl (Ev.mv rfl rfl) (WL.ev rfl rfl (Ev.bin rfl rfl rfl Bin.lss) (WL.nil ?_))
  refine CW.condD rfl (fun h1 => ?_) (fun h1 => ?_)
  · skip
    refine CW.seq (CW.reg ?_)
    refine WL.ev rfl rfl (Ev.as rfl rfl) (WL.nil ?_)
    refine CW.ret ?_
    refine ⟨_, res1 rfl rfl rfl, (Ext.refl _), _, rfl, ?_⟩
    try have hall := szL_take_all (x := x) (k := k) (by omega)
    try simp only [szfold] at *
    first | omega | (right; exact ⟨by omega, by first | rfl | trivial⟩)
  · skip
    refine CW.skip ?_
    refine CW.seq (CW.seq (CW.reg ?_))
    refine WL.ev rfl rfl (Ev.as rfl rfl) (WL.nil ?_)
    refine CW.block (CW.loop (α := Nat × Int) (fun q => [(0, .slice A1 x.length c1), (1, .int .i64 q.2), (5, .int .i64 (q.1 : Int))]) (fun q wr => Ext w wr ∧ q.1 ≤ x.length ∧ 0 ≤ q.2 ∧ q.2 + x.length + szL (x.take q.1) = left + q.1) (fun q => x.length - q.1) (0, left - x.length) ⟨rfl, rfl, rfl, trivial⟩ ⟨Ext.refl _, by simp, by simp only; omega, by simp [szL]⟩ ?_)
    rintro ⟨k, l⟩ σ wr1 ⟨hEwr1, hk, hl0, hle⟩
    simp only at hk hl0 hle
    have hmn0 := szL_take_le x k
    refine CW.seq (CW.seq (CW.reg ?_))
    refine WL.ev rfl rfl (Ev.mv rfl rfl) (WL.ev rfl rfl (Ev.mv rfl rfl) (WL.ev rfl rfl (Ev.lenS rfl el57 rfl) (WL.ev rfl rfl (Ev.bin rfl rfl rfl Bin.lss) (WL.nil ?_))))
    refine CW.condD rfl (fun h2 => ?_) (fun h2 => ?_)
    · skip
      refine CW.skip ?_
      refine CW.seq (CW.block (CW.seq (CW.reg ?_)))
      refine WL.ev rfl rfl (Ev.mv rfl rfl) (WL.ev rfl rfl (Ev.mv rfl rfl) ?_)
      obtain ⟨xe1, be1, oe1, cse1, hxe1, hAe1, hSe1, hre1, hAte1⟩ := rdS.el hx (i := k) (by omega)
      have hK1 := hre1
      obtain ⟨v1, v2, rfl, hr1, hr2, hr3, hr4, hr5, hr6, hr7, hr8, hr9, hr10, hr11, hr12, hr13, hr14, hs1, hs2⟩ := hre1
      obtain ⟨A2, c2, rfl, hc2, hm2⟩ := hs1.form
      obtain ⟨A3, c3, rfl, hc3, hm3⟩ := hs2.form
      refine WL.ev rfl rfl (Ev.ixA rfl el57 sz154 rfl hAe1 rfl (by omega)) (WL.ev rfl rfl (Ev.lda rfl ag154 sz154 rfl (hAte1.ext hEwr1) rfl) (WL.ev rfl rfl (Ev.mv rfl rfl) ?_))
      refine WL.call rfl rfl rfl rfl rfl ok112 rfl (szContribution_spec _ xe1 (rd_ext hK1 hEwr1) _ (by omega) (by omega)) ?_
      rintro _ w1 hEw1 ⟨r1, rfl, hr15⟩
      have hq1 := Contribution_szd xe1
      refine WL.ev rfl rfl (Ev.as rfl rfl) (WL.nil ?_)
      refine CW.seq (CW.reg ?_)
      refine WL.ev rfl rfl (Ev.mv rfl rfl) (WL.ev rfl rfl (Ev.bin rfl rfl rfl Bin.lss) (WL.nil ?_))
      refine CW.condD rfl (fun h3 => ?_) (fun h3 => ?_)
      · skip
        refine CW.seq (CW.reg ?_)
        refine WL.ev rfl rfl (Ev.as rfl rfl) (WL.nil ?_)
        refine CW.ret ?_
        refine ⟨_, res1 rfl rfl rfl, (hEwr1.trans hEw1), _, rfl, ?_⟩
        have htk := szL_take_succ hxe1
        have hmn := szL_take_le x (k + 1)
        try simp only [szfold] at *
        first | omega | (right; exact ⟨by omega, by first | rfl | trivial⟩)
      · skip
        refine CW.skip ?_
        refine CW.reg ?_
        refine WL.ev rfl rfl (Ev.mv rfl rfl) (WL.ev rfl rfl (Ev.bin rfl rfl rfl (Bin.add (by omega))) (WL.ev rfl rfl (Ev.as rfl rfl) (WL.nil ?_)))
        have htk := szL_take_succ hxe1
        have hmn := szL_take_le x (k + 1)
        exact ⟨(k + 1, r1), ⟨rfl, rfl, rfl, trivial⟩, ⟨(hEwr1.trans hEw1), by simp only; omega, by simp only; omega, by simp only; omega⟩, by simp only; omega⟩
    · skip
      refine CW.exit ?_
      refine CW.seq (CW.reg ?_)
      refine WL.ev rfl rfl (Ev.mv rfl rfl) (WL.ev rfl rfl (Ev.as rfl rfl) (WL.nil ?_))
      refine CW.ret ?_
      refine ⟨_, res1 rfl rfl rfl, hEwr1, _, rfl, ?_⟩
      try have hall := szL_take_all (x := x) (k := k) (by omega)
      try simp only [szfold] at *
      first | omega | (right; exact ⟨by omega, by first | rfl | trivial⟩)

theorem szRule_spec (w : World) {S : Nat → Prop} (x : Rule) {cs : List Value} (hx : rd S w x cs) (left : Int) (h0 : 0 ≤ left) (h1 : left ≤ 1048576) :
    Ret Try.prog 29 #[.agg cs.toArray, .int .i64 left] w (fun _ => False) fun v _ => ∃ r, v = .int .i64 r ∧ (((Sz.szd x : Nat) : Int) ≤ left ∧ r = left - (Sz.szd x : Nat) ∨ left < (Sz.szd x : Nat) ∧ r = -1) := by
  refine enter Try.func29 rfl rfl rfl ?_
  have hK1 := hx
  obtain ⟨v1, v2, v3, rfl, hr1, hr2, hs1, hs2, hs3⟩ := hx
  obtain ⟨A1, c1, rfl, hc1, hm1⟩ := hs1.form
  obtain ⟨A2, c2, rfl, hc2, hm2⟩ := hs2.form
  obtain ⟨A3, c3, rfl, hc3, hm3⟩ := hs3.form
  have hsz := Rule_szd x
  refine CW.seq (CW.reg ?_)
  refine WL.box rfl rfl rfl rfl rfl fun b1 w1 hEb1 hbb1 hBb1 => ?_
  refine WL.ev rfl rfl (Ev.as rfl rfl) (WL.nil ?_)
  refine CW.seq (CW.reg ?_)
  refine WL.ev rfl rfl (Ev.mv rfl rfl) (WL.ev rfl rfl (Ev.fa rfl fo59_0 rfl) (WL.ev rfl rfl (Ev.ld rfl ag9 rfl (hBb1.cell rfl)) (WL.ev rfl rfl (Ev.lenB rfl Try.underlying9 rfl) (WL.ev rfl rfl (Ev.bin rfl rfl rfl (Bin.sub (by omega))) (WL.ev rfl rfl (Ev.as rfl rfl) (WL.nil ?_))))))
  refine CW.seq (CW.seq (CW.reg ?_))
  refine WL.ev rfl rfl (Ev.mv rfl rfl) (WL.ev rfl rfl (Ev.bin rfl rfl rfl Bin.lss) (WL.nil ?_))
  refine CW.condD rfl (fun h1 => ?_) (fun h1 => ?_)
  · skip
    refine CW.seq (CW.reg ?_)
    refine WL.ev rfl rfl (Ev.as rfl rfl) (WL.nil ?_)
    refine CW.ret ?_
    refine ⟨_, res1 rfl rfl rfl, hEb1, _, rfl, ?_⟩
    try simp only [szfold] at *
    first | omega | (right; exact ⟨by omega, by first | rfl | trivial⟩)
  · skip
    refine CW.skip ?_
    refine CW.seq (CW.reg ?_)
    refine WL.ev rfl rfl (Ev.mv rfl rfl) (WL.ev rfl rfl (Ev.fa rfl fo59_1 rfl) (WL.ev rfl rfl (Ev.ld rfl ag9 rfl (hBb1.cell rfl)) (WL.ev rfl rfl (Ev.lenB rfl Try.underlying9 rfl) (WL.ev rfl rfl (Ev.bin rfl rfl rfl (Bin.sub (by omega))) (WL.ev rfl rfl (Ev.as rfl rfl) (WL.nil ?_))))))
    refine CW.seq (CW.seq (CW.reg ?_))
    refine WL.ev rfl rfl (Ev.mv rfl rfl) (WL.ev rfl rfl (Ev.bin rfl rfl rfl Bin.lss) (WL.nil ?_))
    refine CW.condD rfl (fun h2 => ?_) (fun h2 => ?_)
    · skip
      refine CW.seq (CW.reg ?_)
      refine WL.ev rfl rfl (Ev.as rfl rfl) (WL.nil ?_)
      refine CW.ret ?_
      refine ⟨_, res1 rfl rfl rfl, hEb1, _, rfl, ?_⟩
      try simp only [szfold] at *
      first | omega | (right; exact ⟨by omega, by first | rfl | trivial⟩)
    · skip
      refine CW.skip ?_
      refine CW.seq (CW.reg ?_)
      refine WL.ev rfl rfl (Ev.fa rfl fo59_2 rfl) (WL.ev rfl rfl (Ev.ld rfl ag55 rfl (hBb1.cell rfl)) (WL.ev rfl rfl (Ev.mv rfl rfl) ?_))
      refine WL.call rfl rfl rfl rfl rfl ok74 rfl (szStringS_spec _ x.Right (hs1.ext hEb1) _ (by omega) (by omega)) ?_
      rintro _ w2 hEw2 ⟨r1, rfl, hr3⟩
      have hq1 := szfold x.Right
      refine WL.ev rfl rfl (Ev.as rfl rfl) (WL.nil ?_)
      refine CW.seq (CW.seq (CW.reg ?_))
      refine WL.ev rfl rfl (Ev.mv rfl rfl) (WL.ev rfl rfl (Ev.bin rfl rfl rfl Bin.lss) (WL.nil ?_))
      refine CW.condD rfl (fun h3 => ?_) (fun h3 => ?_)
      · skip
        refine CW.seq (CW.reg ?_)
        refine WL.ev rfl rfl (Ev.as rfl rfl) (WL.nil ?_)
        refine CW.ret ?_
        refine ⟨_, res1 rfl rfl rfl, (hEb1.trans hEw2), _, rfl, ?_⟩
        try simp only [szfold] at *
        first | omega | (right; exact ⟨by omega, by first | rfl | trivial⟩)
      · skip
        refine CW.skip ?_
        refine CW.seq (CW.reg ?_)
        refine WL.ev rfl rfl (Ev.fa rfl fo59_4 rfl) (WL.ev rfl rfl (Ev.ld rfl ag56 rfl ((hBb1.ext hEw2).cell rfl)) (WL.ev rfl rfl (Ev.mv rfl rfl) ?_))
        refine WL.call rfl rfl rfl rfl rfl ok75 rfl (szEquationS_spec _ x.Equations (hs2.ext (hEb1.trans hEw2)) _ (by omega) (by omega)) ?_
        rintro _ w3 hEw3 ⟨r2, rfl, hr4⟩
        have hq2 := szfold x.Equations
        refine WL.ev rfl rfl (Ev.as rfl rfl) (WL.nil ?_)
        refine CW.seq (CW.seq (CW.reg ?_))
        refine WL.ev rfl rfl (Ev.mv rfl rfl) (WL.ev rfl rfl (Ev.bin rfl rfl rfl Bin.lss) (WL.nil ?_))
        refine CW.condD rfl (fun h4 => ?_) (fun h4 => ?_)
        · skip
          refine CW.seq (CW.reg ?_)
          refine WL.ev rfl rfl (Ev.as rfl rfl) (WL.nil ?_)
          refine CW.ret ?_
          refine ⟨_, res1 rfl rfl rfl, ((hEb1.trans hEw2).trans hEw3), _, rfl, ?_⟩
          try simp only [szfold] at *
          first | omega | (right; exact ⟨by omega, by first | rfl | trivial⟩)
        · skip
          refine CW.skip ?_
          refine CW.seq (CW.reg ?_)
          refine WL.ev rfl rfl (Ev.fa rfl fo59_5 rfl) (WL.ev rfl rfl (Ev.ld rfl ag57 rfl ((hBb1.ext (hEw2.trans hEw3)).cell rfl)) (WL.ev rfl rfl (Ev.mv rfl rfl) ?_))
          refine WL.call rfl rfl rfl rfl rfl ok76 rfl (szContributionS_spec _ x.Contributions (hs3.ext ((hEb1.trans hEw2).trans hEw3)) _ (by omega) (by omega)) ?_
          rintro _ w4 hEw4 ⟨r3, rfl, hr5⟩
          have hq3 := szfold x.Contributions
          refine WL.ev rfl rfl (Ev.as rfl rfl) (WL.nil ?_)
          refine CW.seq (CW.seq (CW.reg ?_))
          refine WL.ev rfl rfl (Ev.mv rfl rfl) (WL.ev rfl rfl (Ev.bin rfl rfl rfl Bin.lss) (WL.nil ?_))
          refine CW.condD rfl (fun h5 => ?_) (fun h5 => ?_)
          · skip
            refine CW.seq (CW.reg ?_)
            refine WL.ev rfl rfl (Ev.as rfl rfl) (WL.nil ?_)
            refine CW.ret ?_
            refine ⟨_, res1 rfl rfl rfl, (((hEb1.trans hEw2).trans hEw3).trans hEw4), _, rfl, ?_⟩
            try simp only [szfold] at *
            first | omega | (right; exact ⟨by omega, by first | rfl | trivial⟩)
          · skip
            refine CW.skip ?_
            refine CW.seq (CW.reg ?_)
            refine WL.ev rfl rfl (Ev.mv rfl rfl) (WL.ev rfl rfl (Ev.as rfl rfl) (WL.nil ?_))
            refine CW.ret ?_
            refine ⟨_, res1 rfl rfl rfl, (((hEb1.trans hEw2).trans hEw3).trans hEw4), _, rfl, ?_⟩
            try simp only [szfold] at *
            first | omega | (right; exact ⟨by omega, by first | rfl | trivial⟩)

theorem szRuleS_spec (w : World) {S : Nat → Prop} (x : List Rule) {z : Value} (hx : rdS S w x z) (left : Int) (h0 : 0 ≤ left) (h1 : left ≤ 1048576) :
    Ret Try.prog 63 #[z, .int .i64 left] w (fun _ => False) fun v _ => ∃ r, v = .int .i64 r ∧ (((Sz.szd x : Nat) : Int) ≤ left ∧ r = left - (Sz.szd x : Nat) ∨ left < (Sz.szd x : Nat) ∧ r = -1) := by
  refine enter Try.func63 rfl rfl rfl ?_
  obtain ⟨A1, c1, rfl, hc1, hm1⟩ := hx.form
  have hl1 : x.length ≤ 9223372036854775807 := Nat.le_trans hc1 hm1
  have hsz : Sz.szd x = szL x := rfl
  have hlen := szL_length x
  refine CW.seq (CW.reg ?_)
  refine WL.ev rfl rfl (Ev.as rfl rfl) (WL.nil ?_)
  refine CW.seq (CW.reg ?_)
  refine WL.ev rfl rfl (Ev.mv rfl rfl) (WL.ev rfl rfl (Ev.mv rfl rfl) (WL.ev rfl rfl (Ev.lenS rfl el39 rfl) (WL.ev rfl rfl (Ev.bin rfl rfl rfl (Bin.sub (by omega))) (WL.ev rfl rfl (Ev.as rfl rfl) (WL.nil ?_)))))
  refine CW.seq (CW.seq (CW.reg ?_))
  refine WL.ev rfl rfl (Ev.mv rfl rfl) (WL.ev rfl rfl (Ev.bin rfl rfl rfl Bin.lss) (WL.nil ?_))
  refine CW.condD rfl (fun h1 => ?_) (fun h1 => ?_)
  · skip
    refine CW.seq (CW.reg ?_)
    refine WL.ev rfl rfl (Ev.as rfl rfl) (WL.nil ?_)
    refine CW.ret ?_
    refine ⟨_, res1 rfl rfl rfl, (Ext.refl _), _, rfl, ?_⟩
    try have hall := szL_take_all (x := x) (k := k) (by omega)
    try simp only [szfold] at *
    first | omega | (right; exact ⟨by omega, by first | rfl | trivial⟩)
  · skip
    refine CW.skip ?_
    refine CW.seq (CW.seq (CW.reg ?_))
    refine WL.ev rfl rfl (Ev.as rfl rfl) (WL.nil ?_)
    refine CW.block (CW.loop (α := Nat × Int) (fun q => [(0, .slice A1 x.length c1), (1, .int .i64 q.2), (5, .int .i64 (q.1 : Int))]) (fun q wr => Ext w wr ∧ q.1 ≤ x.length ∧ 0 ≤ q.2 ∧ q.2 + x.length + szL (x.take q.1) = left + q.1) (fun q => x.length - q.1) (0, left - x.length) ⟨rfl, rfl, rfl, trivial⟩ ⟨Ext.refl _, by simp, by simp only; omega, by simp [szL]⟩ ?_)
    rintro ⟨k, l⟩ σ wr1 ⟨hEwr1, hk, hl0, hle⟩
    simp only at hk hl0 hle
    have hmn0 := szL_take_le x k
    refine CW.seq (CW.seq (CW.reg ?_))
    refine WL.ev rfl rfl (Ev.mv rfl rfl) (WL.ev rfl rfl (Ev.mv rfl rfl) (WL.ev rfl rfl (Ev.lenS rfl el39 rfl) (WL.ev rfl rfl (Ev.bin rfl rfl rfl Bin.lss) (WL.nil ?_))))
    refine CW.condD rfl (fun h2 => ?_) (fun h2 => ?_)
    · skip
      refine CW.skip ?_
      refine CW.seq (CW.block (CW.seq (CW.reg ?_)))
      refine WL.ev rfl rfl (Ev.mv rfl rfl) (WL.ev rfl rfl (Ev.mv rfl rfl) ?_)
      obtain ⟨xe1, be1, oe1, cse1, hxe1, hAe1, hSe1, hre1, hAte1⟩ := rdS.el hx (i := k) (by omega)
      have hK1 := hre1
      obtain ⟨v1, v2, v3, rfl, hr1, hr2, hs1, hs2, hs3⟩ := hre1
      obtain ⟨A2, c2, rfl, hc2, hm2⟩ := hs1.form
      obtain ⟨A3, c3, rfl, hc3, hm3⟩ := hs2.form
      obtain ⟨A4, c4, rfl, hc4, hm4⟩ := hs3.form
      refine WL.ev rfl rfl (Ev.ixA rfl el39 sz59 rfl hAe1 rfl (by omega)) (WL.ev rfl rfl (Ev.lda rfl ag59 sz59 rfl (hAte1.ext hEwr1) rfl) (WL.ev rfl rfl (Ev.mv rfl rfl) ?_))
      refine WL.call rfl rfl rfl rfl rfl ok29 rfl (szRule_spec _ xe1 (rd_ext hK1 hEwr1) _ (by omega) (by omega)) ?_
      rintro _ w1 hEw1 ⟨r1, rfl, hr3⟩
      have hq1 := Rule_szd xe1
      refine WL.ev rfl rfl (Ev.as rfl rfl) (WL.nil ?_)
      refine CW.seq (CW.reg ?_)
      refine WL.ev rfl rfl (Ev.mv rfl rfl) (WL.ev rfl rfl (Ev.bin rfl rfl rfl Bin.lss) (WL.nil ?_))
      refine CW.condD rfl (fun h3 => ?_) (fun h3 => ?_)
      · skip
        refine CW.seq (CW.reg ?_)
        refine WL.ev rfl rfl (Ev.as rfl rfl) (WL.nil ?_)
        refine CW.ret ?_
        refine ⟨_, res1 rfl rfl rfl, (hEwr1.trans hEw1), _, rfl, ?_⟩
        have htk := szL_take_succ hxe1
        have hmn := szL_take_le x (k + 1)
        try simp only [szfold] at *
        first | omega | (right; exact ⟨by omega, by first | rfl | trivial⟩)
      · skip
        refine CW.skip ?_
        refine CW.reg ?_
        refine WL.ev rfl rfl (Ev.mv rfl rfl) (WL.ev rfl rfl (Ev.bin rfl rfl rfl (Bin.add (by omega))) (WL.ev rfl rfl (Ev.as rfl rfl) (WL.nil ?_)))
        have htk := szL_take_succ hxe1
        have hmn := szL_take_le x (k + 1)
        exact ⟨(k + 1, r1), ⟨rfl, rfl, rfl, trivial⟩, ⟨(hEwr1.trans hEw1), by simp only; omega, by simp only; omega, by simp only; omega⟩, by simp only; omega⟩
    · skip
      refine CW.exit ?_
      refine CW.seq (CW.reg ?_)
      refine WL.ev rfl rfl (Ev.mv rfl rfl) (WL.ev rfl rfl (Ev.as rfl rfl) (WL.nil ?_))
      refine CW.ret ?_
      refine ⟨_, res1 rfl rfl rfl, hEwr1, _, rfl, ?_⟩
      try have hall := szL_take_all (x := x) (k := k) (by omega)
      try simp only [szfold] at *
      first | omega | (right; exact ⟨by omega, by first | rfl | trivial⟩)

theorem szGrammar_spec (w : World) {S : Nat → Prop} (x : Grammar) {cs : List Value} (hx : rd S w x cs) (left : Int) (h0 : 0 ≤ left) (h1 : left ≤ 1048576) :
    Ret Try.prog 20 #[.agg cs.toArray, .int .i64 left] w (fun _ => False) fun v _ => ∃ r, v = .int .i64 r ∧ (((Sz.szd x : Nat) : Int) ≤ left ∧ r = left - (Sz.szd x : Nat) ∨ left < (Sz.szd x : Nat) ∧ r = -1) := by
  refine enter Try.func20 rfl rfl rfl ?_
  have hK1 := hx
  obtain ⟨v1, v2, rfl, hs1, hs2⟩ := hx
  obtain ⟨A1, c1, rfl, hc1, hm1⟩ := hs1.form
  obtain ⟨A2, c2, rfl, hc2, hm2⟩ := hs2.form
  have hsz := Grammar_szd x
  refine CW.seq (CW.reg ?_)
  refine WL.box rfl rfl rfl rfl rfl fun b1 w1 hEb1 hbb1 hBb1 => ?_
  refine WL.ev rfl rfl (Ev.as rfl rfl) (WL.nil ?_)
  refine CW.seq (CW.reg ?_)
  refine WL.ev rfl rfl (Ev.fa rfl fo41_0 rfl) (WL.ev rfl rfl (Ev.ld rfl ag38 rfl (hBb1.cell rfl)) (WL.ev rfl rfl (Ev.mv rfl rfl) ?_))
  refine WL.call rfl rfl rfl rfl rfl ok62 rfl (szSymbolS_spec _ x.Symbols (hs1.ext hEb1) _ (by omega) (by omega)) ?_
  rintro _ w2 hEw2 ⟨r1, rfl, hr1⟩
  have hq1 := szfold x.Symbols
  refine WL.ev rfl rfl (Ev.as rfl rfl) (WL.nil ?_)
  refine CW.seq (CW.seq (CW.reg ?_))
  refine WL.ev rfl rfl (Ev.mv rfl rfl) (WL.ev rfl rfl (Ev.bin rfl rfl rfl Bin.lss) (WL.nil ?_))
  refine CW.condD rfl (fun h1 => ?_) (fun h1 => ?_)
  · skip
    refine CW.seq (CW.reg ?_)
    refine WL.ev rfl rfl (Ev.as rfl rfl) (WL.nil ?_)
    refine CW.ret ?_
    refine ⟨_, res1 rfl rfl rfl, (hEb1.trans hEw2), _, rfl, ?_⟩
    try simp only [szfold] at *
    first | omega | (right; exact ⟨by omega, by first | rfl | trivial⟩)
  · skip
    refine CW.skip ?_
    refine CW.seq (CW.reg ?_)
    refine WL.ev rfl rfl (Ev.fa rfl fo41_1 rfl) (WL.ev rfl rfl (Ev.ld rfl ag39 rfl ((hBb1.ext hEw2).cell rfl)) (WL.ev rfl rfl (Ev.mv rfl rfl) ?_))
    refine WL.call rfl rfl rfl rfl rfl ok63 rfl (szRuleS_spec _ x.Rules (hs2.ext (hEb1.trans hEw2)) _ (by omega) (by omega)) ?_
    rintro _ w3 hEw3 ⟨r2, rfl, hr2⟩
    have hq2 := szfold x.Rules
    refine WL.ev rfl rfl (Ev.as rfl rfl) (WL.nil ?_)
    refine CW.seq (CW.seq (CW.reg ?_))
    refine WL.ev rfl rfl (Ev.mv rfl rfl) (WL.ev rfl rfl (Ev.bin rfl rfl rfl Bin.lss) (WL.nil ?_))
    refine CW.condD rfl (fun h2 => ?_) (fun h2 => ?_)
    · skip
      refine CW.seq (CW.reg ?_)
      refine WL.ev rfl rfl (Ev.as rfl rfl) (WL.nil ?_)
      refine CW.ret ?_
      refine ⟨_, res1 rfl rfl rfl, ((hEb1.trans hEw2).trans hEw3), _, rfl, ?_⟩
      try simp only [szfold] at *
      first | omega | (right; exact ⟨by omega, by first | rfl | trivial⟩)
    · skip
      refine CW.skip ?_
      refine CW.seq (CW.reg ?_)
      refine WL.ev rfl rfl (Ev.mv rfl rfl) (WL.ev rfl rfl (Ev.as rfl rfl) (WL.nil ?_))
      refine CW.ret ?_
      refine ⟨_, res1 rfl rfl rfl, ((hEb1.trans hEw2).trans hEw3), _, rfl, ?_⟩
      try simp only [szfold] at *
      first | omega | (right; exact ⟨by omega, by first | rfl | trivial⟩)

theorem toAttribute_spec (w : World) {S : Nat → Prop} (x : Attribute) {cs : List Value} (hx : rd S w x cs) (hlen : Sz.szd x ≤ 1048576) :
    Ret Try.prog 151 #[.agg cs.toArray] w (fun _ => False) fun v w' => ∃ cs, v = .agg cs.toArray ∧ New w w' x cs := by
  refine enter Try.func151 rfl rfl rfl ?_
  have hK1 := hx
  obtain ⟨rfl, hr1, hr2, hr3⟩ := hx
  rw [Attribute_szd] at hlen
  refine CW.seq (CW.reg ?_)
  refine WL.box rfl rfl rfl rfl rfl fun b1 w1 hEb1 hbb1 hBb1 => ?_
  refine WL.alloc rfl rfl rfl ze105 fun b2 w2 hEb2 hbb2 hBb2 => ?_
  refine WL.nil ?_
  refine CW.seq (CW.reg ?_)
  refine WL.alloc rfl rfl rfl ze105 fun b3 w3 hEb3 hbb3 hBb3 => ?_
  refine WL.nil ?_
  refine CW.seq (CW.reg ?_)
  refine WL.ev rfl rfl (Ev.fa rfl fo193_0 rfl) (WL.ev rfl rfl (Ev.ld rfl ag9 rfl ((hBb1.ext (hEb2.trans hEb3)).cell rfl)) (WL.ev rfl rfl (Ev.fa rfl fo105_0 rfl) ?_))
  refine WL.st rfl rfl rfl sz9 rfl rfl rfl rfl (all1 rfl all0) hBb3 (Nat.le_of_ble_eq_true rfl) fun w4 hCw4 hB_1 => ?_
  have hB_1 : Blk _ _ _ [_, _, _, _] := hB_1
  have hz1 := hBb3.lt
  have hB_2 := Blk.chg1 (hBb1.ext (hEb2.trans hEb3)) hCw4 (by have := hBb1.lt; have := hbb3; have := hEb2.size; omega)
  have hB_3 := Blk.chg1 (hBb2.ext hEb3) hCw4 (by have := hBb2.lt; have := hbb3; omega)
  have hX1 := Ext.chg1 ((hEb1.trans hEb2).trans hEb3) hCw4 (by have := hbb3; have := hEb1.size; have := hEb2.size; omega)
  refine WL.nil ?_
  refine CW.fresh [(1, .pointer (some ⟨b1, 0, none⟩)), (2, .pointer (some ⟨b2, 0, none⟩)), (3, .pointer (some ⟨b3, 0, none⟩))] ⟨rfl, rfl, rfl, trivial⟩ fun σ => ?_
  refine CW.seq (CW.reg ?_)
  refine WL.ev rfl rfl (Ev.fa rfl fo193_1 rfl) (WL.ev rfl rfl (Ev.ld rfl ag3 rfl (hB_2.cell rfl)) (WL.ev rfl rfl (Ev.fa rfl fo105_1 rfl) ?_))
  refine WL.st rfl rfl rfl sz3 rfl rfl rfl rfl (all1 rfl all0) hB_1 (Nat.le_of_ble_eq_true rfl) fun w5 hCw5 hB_4 => ?_
  have hB_4 : Blk _ _ _ [_, _, _, _] := hB_4
  have hz2 := hB_1.lt
  have hB_5 := Blk.chg1 hB_2 hCw5 (by have := hBb1.lt; have := hbb3; have := hEb2.size; omega)
  have hB_6 := Blk.chg1 hB_3 hCw5 (by have := hBb2.lt; have := hbb3; omega)
  have hX2 := Ext.chg1 hX1 hCw5 (by have := hbb3; have := hEb1.size; have := hEb2.size; omega)
  refine WL.nil ?_
  refine CW.fresh [(1, .pointer (some ⟨b1, 0, none⟩)), (2, .pointer (some ⟨b2, 0, none⟩)), (3, .pointer (some ⟨b3, 0, none⟩))] ⟨rfl, rfl, rfl, trivial⟩ fun σ => ?_
  refine CW.seq (CW.reg ?_)
  refine WL.ev rfl rfl (Ev.fa rfl fo193_2 rfl) (WL.ev rfl rfl (Ev.ld rfl ag3 rfl (hB_5.cell rfl)) (WL.ev rfl rfl (Ev.fa rfl fo105_2 rfl) ?_))
  refine WL.st rfl rfl rfl sz3 rfl rfl rfl rfl (all1 rfl all0) hB_4 (Nat.le_of_ble_eq_true rfl) fun w6 hCw6 hB_7 => ?_
  have hB_7 : Blk _ _ _ [_, _, _, _] := hB_7
  have hz3 := hB_4.lt
  have hB_8 := Blk.chg1 hB_5 hCw6 (by have := hBb1.lt; have := hbb3; have := hEb2.size; omega)
  have hB_9 := Blk.chg1 hB_6 hCw6 (by have := hBb2.lt; have := hbb3; omega)
  have hX3 := Ext.chg1 hX2 hCw6 (by have := hbb3; have := hEb1.size; have := hEb2.size; omega)
  refine WL.nil ?_
  refine CW.fresh [(1, .pointer (some ⟨b1, 0, none⟩)), (2, .pointer (some ⟨b2, 0, none⟩)), (3, .pointer (some ⟨b3, 0, none⟩))] ⟨rfl, rfl, rfl, trivial⟩ fun σ => ?_
  refine CW.seq (CW.reg ?_)
  refine WL.ev rfl rfl (Ev.fa rfl fo193_3 rfl) (WL.ev rfl rfl (Ev.ld rfl ag4 rfl (hB_8.cell rfl)) (WL.ev rfl rfl (Ev.fa rfl fo105_3 rfl) ?_))
  refine WL.st rfl rfl rfl sz4 rfl rfl rfl rfl (all1 rfl all0) hB_7 (Nat.le_of_ble_eq_true rfl) fun w7 hCw7 hB_10 => ?_
  have hB_10 : Blk _ _ _ [_, _, _, _] := hB_10
  have hz4 := hB_7.lt
  have hB_11 := Blk.chg1 hB_8 hCw7 (by have := hBb1.lt; have := hbb3; have := hEb2.size; omega)
  have hB_12 := Blk.chg1 hB_9 hCw7 (by have := hBb2.lt; have := hbb3; omega)
  have hX4 := Ext.chg1 hX3 hCw7 (by have := hbb3; have := hEb1.size; have := hEb2.size; omega)
  refine WL.nil ?_
  refine CW.fresh [(2, .pointer (some ⟨b2, 0, none⟩)), (3, .pointer (some ⟨b3, 0, none⟩))] ⟨rfl, rfl, trivial⟩ fun σ => ?_
  refine CW.seq (CW.reg ?_)
  refine WL.ev rfl rfl (Ev.lda rfl ag105 sz105 rfl (At.blk hB_10) rfl) ?_
  refine WL.st rfl rfl rfl sz105 rfl rfl rfl rfl (all1 rfl (all1 rfl (all1 rfl (all1 rfl all0)))) hB_12 (Nat.le_of_ble_eq_true rfl) fun w8 hCw8 hB_13 => ?_
  have hB_13 : Blk _ _ _ [_, _, _, _] := hB_13
  have hz5 := hB_12.lt
  have hB_14 := Blk.chg1 hB_11 hCw8 (by have := hBb1.lt; have := hbb2; omega)
  have hB_15 := Blk.chg1 hB_10 hCw8 (by have := hBb2.lt; have := hbb3; omega)
  have hX5 := Ext.chg1 hX4 hCw8 (by have := hbb2; have := hEb1.size; omega)
  refine WL.nil ?_
  refine CW.ret ?_
  exact ⟨_, resC rfl ag105 sz105 rfl rfl (At.blk hB_13) rfl, hX5, _, rfl, _, ⟨rfl, by first | assumption | omega, by first | assumption | omega, by first | assumption | omega, rfl⟩, List.nodup_nil, by simp⟩

theorem toAttributeS_spec (w : World) {S : Nat → Prop} (x : List Attribute) {z : Value} (hx : rdS S w x z) (hlen : szL x ≤ 1048576) :
    Ret Try.prog 133 #[z] w (fun _ => False) fun v w' => NewS w w' x v := by
  refine enter Try.func133 rfl rfl rfl ?_
  obtain ⟨A1, c1, rfl, hc1, hm1⟩ := hx.form
  have hl1 : x.length ≤ 9223372036854775807 := Nat.le_trans hc1 hm1
  have hln := szL_length x
  refine CW.seq (CW.reg ?_)
  refine WL.ev rfl rfl (Ev.as rfl rfl) (WL.nil ?_)
  refine CW.seq (CW.reg ?_)
  refine WL.ev rfl rfl (Ev.mv rfl rfl) (WL.ev rfl rfl (Ev.lenS rfl el142 rfl) ?_)
  refine WL.mk rfl rfl rfl el43 sz105 by105 ze105 rfl rfl rfl (by omega) (by omega) fun g w1 hE1 hg hBg => ?_
  refine WL.ev rfl rfl (Ev.as rfl rfl) (WL.nil ?_)
  refine CW.seq (CW.seq (CW.reg ?_))
  refine WL.ev rfl rfl (Ev.as rfl rfl) (WL.nil ?_)
  refine CW.block (CW.loop (α := Nat × List Value × List Nat) (fun q => [(0, .slice A1 x.length c1), (3, .slice (some ⟨g, 0, none⟩) x.length x.length), (4, .int .i64 (q.1 : Int))]) (fun q wr => Ext w wr ∧ ToInv wr g 105 [.string ⟨#[]⟩, .int .i64 0, .int .i64 0, .bool false] x q.1 q.2.1 q.2.2) (fun q => x.length - q.1) (0, [], []) ⟨rfl, rfl, rfl, trivial⟩ ⟨hE1, ToInv.init hBg⟩ ?_)
  rintro ⟨k, cs, L⟩ σ wr1 ⟨hEwr1, hI⟩
  simp only at hI
  have hk := hI.le
  refine CW.seq (CW.seq (CW.reg ?_))
  refine WL.ev rfl rfl (Ev.mv rfl rfl) (WL.ev rfl rfl (Ev.mv rfl rfl) (WL.ev rfl rfl (Ev.lenS rfl el142 rfl) (WL.ev rfl rfl (Ev.bin rfl rfl rfl Bin.lss) (WL.nil ?_))))
  refine CW.condD rfl (fun h1 => ?_) (fun h1 => ?_)
  · skip
    refine CW.skip ?_
    refine CW.seq (CW.block (CW.reg ?_))
    refine WL.ev rfl rfl (Ev.mv rfl rfl) (WL.ev rfl rfl (Ev.mv rfl rfl) (WL.ev rfl rfl (Ev.mv rfl rfl) (WL.ev rfl rfl (Ev.mv rfl rfl) ?_)))
    obtain ⟨xe1, be1, oe1, cse1, hxe1, hAe1, hSe1, hre1, hAte1⟩ := rdS.el hx (i := k) (by omega)
    have hK1 := hre1
    obtain ⟨rfl, hr1, hr2, hr3⟩ := hre1
    refine WL.ev rfl rfl (Ev.ixA rfl el142 sz193 rfl hAe1 rfl (by omega)) (WL.ev rfl rfl (Ev.lda rfl ag193 sz193 rfl (hAte1.ext hEwr1) rfl) ?_)
    refine WL.call rfl rfl rfl rfl rfl ok151 rfl (toAttribute_spec _ xe1 (rd_ext hK1 hEwr1) (by have := szL_get hxe1; (try simp only [szfold] at *); omega)) ?_
    rintro _ w1 hEw1 ⟨cs1, rfl, L1, hO1, hN1, hF1⟩
    refine WL.ev rfl rfl (Ev.ix rfl el43 sz105 rfl rfl (by omega)) ?_
    refine WL.stTo rfl rfl rfl sz105 rfl rfl rfl (hI.ext hEw1) hxe1 hO1 hN1 (hI.fresh hF1) rfl fun w2 hCw2 hI2 => ?_
    have hX1 := Ext.chg1 (hEwr1.trans hEw1) hCw2 (by have := hE1.size; omega)
    refine WL.nil ?_
    refine CW.reg ?_
    refine WL.ev rfl rfl (Ev.mv rfl rfl) (WL.ev rfl rfl (Ev.bin rfl rfl rfl (Bin.add (by omega))) (WL.ev rfl rfl (Ev.as rfl rfl) (WL.nil ?_)))
    exact ⟨(k + 1, _, _), ⟨rfl, rfl, rfl, trivial⟩, ⟨hX1, hI2⟩, by simp only; omega⟩
  · skip
    refine CW.exit ?_
    refine CW.seq (CW.reg ?_)
    refine WL.ev rfl rfl (Ev.mv rfl rfl) (WL.ev rfl rfl (Ev.as rfl rfl) (WL.nil ?_))
    refine CW.ret ?_
    exact ⟨_, res1 rfl rfl rfl, hEwr1, hI.new (by omega) (by unfold maxLen; omega) hg⟩

theorem toSymbol_spec (w : World) {S : Nat → Prop} (x : Symbol) {cs : List Value} (hx : rd S w x cs) (hlen : Sz.szd x ≤ 1048576) :
    Ret Try.prog 109 #[.agg cs.toArray] w (fun _ => False) fun v w' => ∃ cs, v = .agg cs.toArray ∧ New w w' x cs := by
  refine enter Try.func109 rfl rfl rfl ?_
  have hK1 := hx
  obtain ⟨v1, rfl, hr1, hs1⟩ := hx
  obtain ⟨A1, c1, rfl, hc1, hm1⟩ := hs1.form
  rw [Symbol_szd] at hlen
  refine CW.seq (CW.reg ?_)
  refine WL.box rfl rfl rfl rfl rfl fun b1 w1 hEb1 hbb1 hBb1 => ?_
  refine WL.alloc rfl rfl rfl ze101 fun b2 w2 hEb2 hbb2 hBb2 => ?_
  refine WL.nil ?_
  refine CW.seq (CW.reg ?_)
  refine WL.alloc rfl rfl rfl ze101 fun b3 w3 hEb3 hbb3 hBb3 => ?_
  refine WL.nil ?_
  refine CW.seq (CW.reg ?_)
  refine WL.ev rfl rfl (Ev.fa rfl fo144_0 rfl) (WL.ev rfl rfl (Ev.ld rfl ag9 rfl ((hBb1.ext (hEb2.trans hEb3)).cell rfl)) (WL.ev rfl rfl (Ev.fa rfl fo101_0 rfl) ?_))
  refine WL.st rfl rfl rfl sz9 rfl rfl rfl rfl (all1 rfl all0) hBb3 (Nat.le_of_ble_eq_true rfl) fun w4 hCw4 hB_1 => ?_
  have hB_1 : Blk _ _ _ [_, _] := hB_1
  have hz1 := hBb3.lt
  have hB_2 := Blk.chg1 (hBb1.ext (hEb2.trans hEb3)) hCw4 (by have := hBb1.lt; have := hbb3; have := hEb2.size; omega)
  have hB_3 := Blk.chg1 (hBb2.ext hEb3) hCw4 (by have := hBb2.lt; have := hbb3; omega)
  have hX1 := Ext.chg1 ((hEb1.trans hEb2).trans hEb3) hCw4 (by have := hbb3; have := hEb1.size; have := hEb2.size; omega)
  refine WL.nil ?_
  refine CW.fresh [(1, .pointer (some ⟨b1, 0, none⟩)), (2, .pointer (some ⟨b2, 0, none⟩)), (3, .pointer (some ⟨b3, 0, none⟩))] ⟨rfl, rfl, rfl, trivial⟩ fun σ => ?_
  refine CW.seq (CW.reg ?_)
  refine WL.ev rfl rfl (Ev.fa rfl fo144_1 rfl) (WL.ev rfl rfl (Ev.ld rfl ag142 rfl (hB_2.cell rfl)) ?_)
  refine WL.call rfl rfl rfl rfl rfl ok133 rfl (toAttributeS_spec _ x.Attributes (hs1.ext hX1) (by omega)) ?_
  rintro v2 w5 hEw5 ⟨L1, hO1, hN1, hF1⟩
  obtain ⟨A2, c2, rfl, hc2, hm2⟩ := hO1.form
  refine WL.ev rfl rfl (Ev.fa rfl fo101_1 rfl) ?_
  refine WL.st rfl rfl rfl sz43 rfl rfl rfl rfl (all1 rfl all0) (hB_1.ext hEw5) (Nat.le_of_ble_eq_true rfl) fun w6 hCw6 hB_4 => ?_
  have hB_4 : Blk _ _ _ [_, _] := hB_4
  have hz2 := (hB_1.ext hEw5).lt
  have hB_5 := Blk.chg1 (hB_2.ext hEw5) hCw6 (by have := hBb1.lt; have := hbb3; have := hEb2.size; omega)
  have hB_6 := Blk.chg1 (hB_3.ext hEw5) hCw6 (by have := hBb2.lt; have := hbb3; omega)
  have hO_1 := ownS.chg1 hO1 hCw6 (fun q hq e => by subst e; have := hF1 _ hq; have := hBb3.lt; have := hCw4.size; omega)
  have hX2 := Ext.chg1 (hX1.trans hEw5) hCw6 (by have := hbb3; have := hEb1.size; have := hEb2.size; omega)
  refine WL.nil ?_
  refine CW.fresh [(2, .pointer (some ⟨b2, 0, none⟩)), (3, .pointer (some ⟨b3, 0, none⟩))] ⟨rfl, rfl, trivial⟩ fun σ => ?_
  refine CW.seq (CW.reg ?_)
  refine WL.ev rfl rfl (Ev.lda rfl ag101 sz101 rfl (At.blk hB_4) rfl) ?_
  refine WL.st rfl rfl rfl sz101 rfl rfl rfl rfl (all1 rfl (all1 rfl all0)) hB_6 (Nat.le_of_ble_eq_true rfl) fun w7 hCw7 hB_7 => ?_
  have hB_7 : Blk _ _ _ [_, _] := hB_7
  have hz3 := hB_6.lt
  have hB_8 := Blk.chg1 hB_5 hCw7 (by have := hBb1.lt; have := hbb2; omega)
  have hB_9 := Blk.chg1 hB_4 hCw7 (by have := hBb2.lt; have := hbb3; omega)
  have hO_2 := ownS.chg1 hO_1 hCw7 (fun q hq e => by subst e; have := hF1 _ hq; have := hBb2.lt; have := hEb3.size; have := hCw4.size; omega)
  have hX3 := Ext.chg1 hX2 hCw7 (by have := hbb2; have := hEb1.size; omega)
  refine WL.nil ?_
  refine CW.ret ?_
  exact ⟨_, resC rfl ag101 sz101 rfl rfl (At.blk hB_7) rfl, hX3, _, rfl, _, ⟨_, _, rfl, by first | assumption | omega, rfl, hO_2⟩, hN1, fun q hq => by first | (have := hF1 _ hq; have := hEb1.size; have := hEb2.size; have := hEb3.size; have := hCw4.size; omega)⟩

theorem toSymbolS_spec (w : World) {S : Nat → Prop} (x : List Symbol) {z : Value} (hx : rdS S w x z) (hlen : szL x ≤ 1048576) :
    Ret Try.prog 65 #[z] w (fun _ => False) fun v w' => NewS w w' x v := by
  refine enter Try.func65 rfl rfl rfl ?_
  obtain ⟨A1, c1, rfl, hc1, hm1⟩ := hx.form
  have hl1 : x.length ≤ 9223372036854775807 := Nat.le_trans hc1 hm1
  have hln := szL_length x
  refine CW.seq (CW.reg ?_)
  refine WL.ev rfl rfl (Ev.as rfl rfl) (WL.nil ?_)
  refine CW.seq (CW.reg ?_)
  refine WL.ev rfl rfl (Ev.mv rfl rfl) (WL.ev rfl rfl (Ev.lenS rfl el38 rfl) ?_)
  refine WL.mk rfl rfl rfl el45 sz101 by101 ze101 rfl rfl rfl (by omega) (by omega) fun g w1 hE1 hg hBg => ?_
  refine WL.ev rfl rfl (Ev.as rfl rfl) (WL.nil ?_)
  refine CW.seq (CW.seq (CW.reg ?_))
  refine WL.ev rfl rfl (Ev.as rfl rfl) (WL.nil ?_)
  refine CW.block (CW.loop (α := Nat × List Value × List Nat) (fun q => [(0, .slice A1 x.length c1), (3, .slice (some ⟨g, 0, none⟩) x.length x.length), (4, .int .i64 (q.1 : Int))]) (fun q wr => Ext w wr ∧ ToInv wr g 101 [.string ⟨#[]⟩, .slice none 0 0] x q.1 q.2.1 q.2.2) (fun q => x.length - q.1) (0, [], []) ⟨rfl, rfl, rfl, trivial⟩ ⟨hE1, ToInv.init hBg⟩ ?_)
  rintro ⟨k, cs, L⟩ σ wr1 ⟨hEwr1, hI⟩
  simp only at hI
  have hk := hI.le
  refine CW.seq (CW.seq (CW.reg ?_))
  refine WL.ev rfl rfl (Ev.mv rfl rfl) (WL.ev rfl rfl (Ev.mv rfl rfl) (WL.ev rfl rfl (Ev.lenS rfl el38 rfl) (WL.ev rfl rfl (Ev.bin rfl rfl rfl Bin.lss) (WL.nil ?_))))
  refine CW.condD rfl (fun h1 => ?_) (fun h1 => ?_)
  · skip
    refine CW.skip ?_
    refine CW.seq (CW.block (CW.reg ?_))
    refine WL.ev rfl rfl (Ev.mv rfl rfl) (WL.ev rfl rfl (Ev.mv rfl rfl) (WL.ev rfl rfl (Ev.mv rfl rfl) (WL.ev rfl rfl (Ev.mv rfl rfl) ?_)))
    obtain ⟨xe1, be1, oe1, cse1, hxe1, hAe1, hSe1, hre1, hAte1⟩ := rdS.el hx (i := k) (by omega)
    have hK1 := hre1
    obtain ⟨v1, rfl, hr1, hs1⟩ := hre1
    obtain ⟨A2, c2, rfl, hc2, hm2⟩ := hs1.form
    refine WL.ev rfl rfl (Ev.ixA rfl el38 sz144 rfl hAe1 rfl (by omega)) (WL.ev rfl rfl (Ev.lda rfl ag144 sz144 rfl (hAte1.ext hEwr1) rfl) ?_)
    refine WL.call rfl rfl rfl rfl rfl ok109 rfl (toSymbol_spec _ xe1 (rd_ext hK1 hEwr1) (by have := szL_get hxe1; (try simp only [szfold] at *); omega)) ?_
    rintro _ w1 hEw1 ⟨cs1, rfl, L1, hO1, hN1, hF1⟩
    refine WL.ev rfl rfl (Ev.ix rfl el45 sz101 rfl rfl (by omega)) ?_
    refine WL.stTo rfl rfl rfl sz101 rfl rfl rfl (hI.ext hEw1) hxe1 hO1 hN1 (hI.fresh hF1) rfl fun w2 hCw2 hI2 => ?_
    have hX1 := Ext.chg1 (hEwr1.trans hEw1) hCw2 (by have := hE1.size; omega)
    refine WL.nil ?_
    refine CW.reg ?_
    refine WL.ev rfl rfl (Ev.mv rfl rfl) (WL.ev rfl rfl (Ev.bin rfl rfl rfl (Bin.add (by omega))) (WL.ev rfl rfl (Ev.as rfl rfl) (WL.nil ?_)))
    exact ⟨(k + 1, _, _), ⟨rfl, rfl, rfl, trivial⟩, ⟨hX1, hI2⟩, by simp only; omega⟩
  · skip
    refine CW.exit ?_
    refine CW.seq (CW.reg ?_)
    refine WL.ev rfl rfl (Ev.mv rfl rfl) (WL.ev rfl rfl (Ev.as rfl rfl) (WL.nil ?_))
    refine CW.ret ?_
    exact ⟨_, res1 rfl rfl rfl, hEwr1, hI.new (by omega) (by unfold maxLen; omega) hg⟩

theorem toStringS_spec (w : World) {S : Nat → Prop} (x : List ByteArray) {z : Value} (hx : rdS S w x z) (hlen : szL x ≤ 1048576) :
    Ret Try.prog 78 #[z] w (fun _ => False) fun v w' => NewS w w' x v := by
  refine enter Try.func78 rfl rfl rfl ?_
  obtain ⟨A1, c1, rfl, hc1, hm1⟩ := hx.form
  have hl1 : x.length ≤ 9223372036854775807 := Nat.le_trans hc1 hm1
  have hln := szL_length x
  refine CW.seq (CW.reg ?_)
  refine WL.ev rfl rfl (Ev.as rfl rfl) (WL.nil ?_)
  refine CW.seq (CW.reg ?_)
  refine WL.ev rfl rfl (Ev.mv rfl rfl) (WL.ev rfl rfl (Ev.lenS rfl el55 rfl) ?_)
  refine WL.mk rfl rfl rfl el55 sz9 by9 ze9 rfl rfl rfl (by omega) (by omega) fun g w1 hE1 hg hBg => ?_
  refine WL.ev rfl rfl (Ev.as rfl rfl) (WL.nil ?_)
  refine CW.seq (CW.seq (CW.reg ?_))
  refine WL.ev rfl rfl (Ev.as rfl rfl) (WL.nil ?_)
  refine CW.block (CW.loop (α := Nat × List Value × List Nat) (fun q => [(0, .slice A1 x.length c1), (3, .slice (some ⟨g, 0, none⟩) x.length x.length), (4, .int .i64 (q.1 : Int))]) (fun q wr => Ext w wr ∧ ToInv wr g 9 [.string ⟨#[]⟩] x q.1 q.2.1 q.2.2) (fun q => x.length - q.1) (0, [], []) ⟨rfl, rfl, rfl, trivial⟩ ⟨hE1, ToInv.init hBg⟩ ?_)
  rintro ⟨k, cs, L⟩ σ wr1 ⟨hEwr1, hI⟩
  simp only at hI
  have hk := hI.le
  refine CW.seq (CW.seq (CW.reg ?_))
  refine WL.ev rfl rfl (Ev.mv rfl rfl) (WL.ev rfl rfl (Ev.mv rfl rfl) (WL.ev rfl rfl (Ev.lenS rfl el55 rfl) (WL.ev rfl rfl (Ev.bin rfl rfl rfl Bin.lss) (WL.nil ?_))))
  refine CW.condD rfl (fun h1 => ?_) (fun h1 => ?_)
  · skip
    refine CW.skip ?_
    refine CW.seq (CW.block (CW.reg ?_))
    refine WL.ev rfl rfl (Ev.mv rfl rfl) (WL.ev rfl rfl (Ev.mv rfl rfl) (WL.ev rfl rfl (Ev.mv rfl rfl) (WL.ev rfl rfl (Ev.mv rfl rfl) ?_)))
    obtain ⟨xe1, be1, oe1, cse1, hxe1, hAe1, hSe1, hre1, hAte1⟩ := rdS.el hx (i := k) (by omega)
    have hK1 := hre1
    obtain ⟨rfl, hr1⟩ := hre1
    refine WL.ev rfl rfl (Ev.ixA rfl el55 sz9 rfl hAe1 rfl (by omega)) (WL.ev rfl rfl (Ev.ld rfl ag9 rfl ((hAte1.ext hEwr1).cell0 rfl)) (WL.ev rfl rfl (Ev.ix rfl el55 sz9 rfl rfl (by omega)) ?_))
    refine WL.stTo rfl rfl rfl sz9 rfl rfl rfl hI hxe1 (New.str hr1) List.nodup_nil (by simp) rfl fun w1 hCw1 hI2 => ?_
    have hX1 := Ext.chg1 hEwr1 hCw1 (by have := hE1.size; omega)
    refine WL.nil ?_
    refine CW.reg ?_
    refine WL.ev rfl rfl (Ev.mv rfl rfl) (WL.ev rfl rfl (Ev.bin rfl rfl rfl (Bin.add (by omega))) (WL.ev rfl rfl (Ev.as rfl rfl) (WL.nil ?_)))
    exact ⟨(k + 1, _, _), ⟨rfl, rfl, rfl, trivial⟩, ⟨hX1, hI2⟩, by simp only; omega⟩
  · skip
    refine CW.exit ?_
    refine CW.seq (CW.reg ?_)
    refine WL.ev rfl rfl (Ev.mv rfl rfl) (WL.ev rfl rfl (Ev.as rfl rfl) (WL.nil ?_))
    refine CW.ret ?_
    exact ⟨_, res1 rfl rfl rfl, hEwr1, hI.new (by omega) (by unfold maxLen; omega) hg⟩

theorem toEquation_spec (w : World) {S : Nat → Prop} (x : Equation) {cs : List Value} (hx : rd S w x cs) (hlen : Sz.szd x ≤ 1048576) :
    Ret Try.prog 114 #[.agg cs.toArray] w (fun _ => False) fun v w' => ∃ cs, v = .agg cs.toArray ∧ New w w' x cs := by
  refine enter Try.func114 rfl rfl rfl ?_
  have hK1 := hx
  obtain ⟨v1, rfl, hr1, hr2, hr3, hr4, hr5, hr6, hr7, hr8, hs1⟩ := hx
  obtain ⟨A1, c1, rfl, hc1, hm1⟩ := hs1.form
  rw [Equation_szd] at hlen
  refine CW.seq (CW.reg ?_)
  refine WL.box rfl rfl rfl rfl rfl fun b1 w1 hEb1 hbb1 hBb1 => ?_
  refine WL.alloc rfl rfl rfl ze157 fun b2 w2 hEb2 hbb2 hBb2 => ?_
  refine WL.nil ?_
  refine CW.seq (CW.reg ?_)
  refine WL.alloc rfl rfl rfl ze157 fun b3 w3 hEb3 hbb3 hBb3 => ?_
  refine WL.nil ?_
  refine CW.seq (CW.reg ?_)
  refine WL.ev rfl rfl (Ev.fa rfl fo151_0 rfl) (WL.ev rfl rfl (Ev.lda rfl ag88 sz88 rfl (Blk.part (hBb1.ext (hEb2.trans hEb3)) 0 2) rfl) ?_)
  refine WL.call rfl rfl rfl rfl rfl ok55 rfl (toOccurrence_spec _ x.At (rd_ext (Equation_rd_At hK1) ((hEb1.trans hEb2).trans hEb3)) (by (try simp only [szfold] at *); (try simp only [Occurrence_szd, Expr_szd] at *); omega)) ?_
  rintro _ w4 hEw4 ⟨_, rfl, _, ⟨rfl, hr9, hr10, rfl⟩, hN1, hF1⟩
  refine WL.ev rfl rfl (Ev.fa rfl fo157_0 rfl) ?_
  refine WL.st rfl rfl rfl sz90 rfl rfl rfl rfl (all1 rfl (all1 rfl all0)) (hBb3.ext hEw4) (Nat.le_of_ble_eq_true rfl) fun w5 hCw5 hB_1 => ?_
  have hB_1 : Blk _ _ _ [_, _, _, _, _, _, _, _, _] := hB_1
  have hz1 := (hBb3.ext hEw4).lt
  have hB_2 := Blk.chg1 (hBb1.ext ((hEb2.trans hEb3).trans hEw4)) hCw5 (by have := hBb1.lt; have := hbb3; have := hEb2.size; omega)
  have hB_3 := Blk.chg1 (hBb2.ext (hEb3.trans hEw4)) hCw5 (by have := hBb2.lt; have := hbb3; omega)
  have hX1 := Ext.chg1 (((hEb1.trans hEb2).trans hEb3).trans hEw4) hCw5 (by have := hbb3; have := hEb1.size; have := hEb2.size; omega)
  refine WL.nil ?_
  refine CW.fresh [(1, .pointer (some ⟨b1, 0, none⟩)), (2, .pointer (some ⟨b2, 0, none⟩)), (3, .pointer (some ⟨b3, 0, none⟩))] ⟨rfl, rfl, rfl, trivial⟩ fun σ => ?_
  refine CW.seq (CW.reg ?_)
  refine WL.ev rfl rfl (Ev.fa rfl fo151_1 rfl) (WL.ev rfl rfl (Ev.lda rfl ag24 sz24 rfl (Blk.part hB_2 2 7) rfl) ?_)
  refine WL.call rfl rfl rfl rfl rfl ok13 rfl (toExpr_spec _ x.Expr (rd_ext (Equation_rd_Expr hK1) hX1) (by (try simp only [szfold] at *); (try simp only [Occurrence_szd, Expr_szd] at *); omega)) ?_
  rintro _ w6 hEw6 ⟨_, rfl, _, hE02, hN2, hF2⟩
  obtain ⟨v2, L3, rfl, hr11, hr12, hr13, hr14, hr15, hr16, rfl, hO3⟩ := Expr_own.1 hE02
  obtain ⟨A2, c2, rfl, hc2, hm2⟩ := hO3.form
  refine WL.ev rfl rfl (Ev.fa rfl fo157_1 rfl) ?_
  refine WL.st rfl rfl rfl sz31 rfl rfl rfl rfl (all1 rfl (all1 rfl (all1 rfl (all1 rfl (all1 rfl (all1 rfl (all1 rfl all0))))))) (hB_1.ext hEw6) (Nat.le_of_ble_eq_true rfl) fun w7 hCw7 hB_4 => ?_
  have hB_4 : Blk _ _ _ [_, _, _, _, _, _, _, _, _] := hB_4
  have hz2 := (hB_1.ext hEw6).lt
  have hB_5 := Blk.chg1 (hB_2.ext hEw6) hCw7 (by have := hBb1.lt; have := hbb3; have := hEb2.size; omega)
  have hB_6 := Blk.chg1 (hB_3.ext hEw6) hCw7 (by have := hBb2.lt; have := hbb3; omega)
  have hO_1 := ownS.chg1 hO3 hCw7 (fun q hq e => by subst e; have := hF2 _ hq; have := hBb3.lt; have := hEw4.size; have := hCw5.size; omega)
  have hX2 := Ext.chg1 (hX1.trans hEw6) hCw7 (by have := hbb3; have := hEb1.size; have := hEb2.size; omega)
  refine WL.nil ?_
  refine CW.fresh [(2, .pointer (some ⟨b2, 0, none⟩)), (3, .pointer (some ⟨b3, 0, none⟩))] ⟨rfl, rfl, trivial⟩ fun σ => ?_
  refine CW.seq (CW.reg ?_)
  refine WL.ev rfl rfl (Ev.lda rfl ag157 sz157 rfl (At.blk hB_4) rfl) ?_
  refine WL.st rfl rfl rfl sz157 rfl rfl rfl rfl (all1 rfl (all1 rfl (all1 rfl (all1 rfl (all1 rfl (all1 rfl (all1 rfl (all1 rfl (all1 rfl all0))))))))) hB_6 (Nat.le_of_ble_eq_true rfl) fun w8 hCw8 hB_7 => ?_
  have hB_7 : Blk _ _ _ [_, _, _, _, _, _, _, _, _] := hB_7
  have hz3 := hB_6.lt
  have hB_8 := Blk.chg1 hB_5 hCw8 (by have := hBb1.lt; have := hbb2; omega)
  have hB_9 := Blk.chg1 hB_4 hCw8 (by have := hBb2.lt; have := hbb3; omega)
  have hO_2 := ownS.chg1 hO_1 hCw8 (fun q hq e => by subst e; have := hF2 _ hq; have := hBb2.lt; have := hEb3.size; have := hEw4.size; have := hCw5.size; omega)
  have hX3 := Ext.chg1 hX2 hCw8 (by have := hbb2; have := hEb1.size; omega)
  refine WL.nil ?_
  refine CW.ret ?_
  exact ⟨_, resC rfl ag157 sz157 rfl rfl (At.blk hB_7) rfl, hX3, _, rfl, _, ⟨_, _, rfl, by first | assumption | omega, by first | assumption | omega, by first | assumption | omega, by first | assumption | omega, by first | assumption | omega, by first | assumption | omega, by first | assumption | omega, by first | assumption | omega, rfl, hO_2⟩, hN2, fun q hq => by first | (have := hF2 _ hq; have := hEb1.size; have := hEb2.size; have := hEb3.size; have := hEw4.size; have := hCw5.size; omega)⟩

theorem toEquationS_spec (w : World) {S : Nat → Prop} (x : List Equation) {z : Value} (hx : rdS S w x z) (hlen : szL x ≤ 1048576) :
    Ret Try.prog 79 #[z] w (fun _ => False) fun v w' => NewS w w' x v := by
  refine enter Try.func79 rfl rfl rfl ?_
  obtain ⟨A1, c1, rfl, hc1, hm1⟩ := hx.form
  have hl1 : x.length ≤ 9223372036854775807 := Nat.le_trans hc1 hm1
  have hln := szL_length x
  refine CW.seq (CW.reg ?_)
  refine WL.ev rfl rfl (Ev.as rfl rfl) (WL.nil ?_)
  refine CW.seq (CW.reg ?_)
  refine WL.ev rfl rfl (Ev.mv rfl rfl) (WL.ev rfl rfl (Ev.lenS rfl el56 rfl) ?_)
  refine WL.mk rfl rfl rfl el62 sz157 by157 ze157 rfl rfl rfl (by omega) (by omega) fun g w1 hE1 hg hBg => ?_
  refine WL.ev rfl rfl (Ev.as rfl rfl) (WL.nil ?_)
  refine CW.seq (CW.seq (CW.reg ?_))
  refine WL.ev rfl rfl (Ev.as rfl rfl) (WL.nil ?_)
  refine CW.block (CW.loop (α := Nat × List Value × List Nat) (fun q => [(0, .slice A1 x.length c1), (3, .slice (some ⟨g, 0, none⟩) x.length x.length), (4, .int .i64 (q.1 : Int))]) (fun q wr => Ext w wr ∧ ToInv wr g 157 [.int .i64 0, .string ⟨#[]⟩, .int .i64 0, .int .i64 0, .int .i64 0, .int .i64 0, .string ⟨#[]⟩, .string ⟨#[]⟩, .slice none 0 0] x q.1 q.2.1 q.2.2) (fun q => x.length - q.1) (0, [], []) ⟨rfl, rfl, rfl, trivial⟩ ⟨hE1, ToInv.init hBg⟩ ?_)
  rintro ⟨k, cs, L⟩ σ wr1 ⟨hEwr1, hI⟩
  simp only at hI
  have hk := hI.le
  refine CW.seq (CW.seq (CW.reg ?_))
  refine WL.ev rfl rfl (Ev.mv rfl rfl) (WL.ev rfl rfl (Ev.mv rfl rfl) (WL.ev rfl rfl (Ev.lenS rfl el56 rfl) (WL.ev rfl rfl (Ev.bin rfl rfl rfl Bin.lss) (WL.nil ?_))))
  refine CW.condD rfl (fun h1 => ?_) (fun h1 => ?_)
  · skip
    refine CW.skip ?_
    refine CW.seq (CW.block (CW.reg ?_))
    refine WL.ev rfl rfl (Ev.mv rfl rfl) (WL.ev rfl rfl (Ev.mv rfl rfl) (WL.ev rfl rfl (Ev.mv rfl rfl) (WL.ev rfl rfl (Ev.mv rfl rfl) ?_)))
    obtain ⟨xe1, be1, oe1, cse1, hxe1, hAe1, hSe1, hre1, hAte1⟩ := rdS.el hx (i := k) (by omega)
    have hK1 := hre1
    obtain ⟨v1, rfl, hr1, hr2, hr3, hr4, hr5, hr6, hr7, hr8, hs1⟩ := hre1
    obtain ⟨A2, c2, rfl, hc2, hm2⟩ := hs1.form
    refine WL.ev rfl rfl (Ev.ixA rfl el56 sz151 rfl hAe1 rfl (by omega)) (WL.ev rfl rfl (Ev.lda rfl ag151 sz151 rfl (hAte1.ext hEwr1) rfl) ?_)
    refine WL.call rfl rfl rfl rfl rfl ok114 rfl (toEquation_spec _ xe1 (rd_ext hK1 hEwr1) (by have := szL_get hxe1; (try simp only [szfold] at *); omega)) ?_
    rintro _ w1 hEw1 ⟨cs1, rfl, L1, hO1, hN1, hF1⟩
    refine WL.ev rfl rfl (Ev.ix rfl el62 sz157 rfl rfl (by omega)) ?_
    refine WL.stTo rfl rfl rfl sz157 rfl rfl rfl (hI.ext hEw1) hxe1 hO1 hN1 (hI.fresh hF1) rfl fun w2 hCw2 hI2 => ?_
    have hX1 := Ext.chg1 (hEwr1.trans hEw1) hCw2 (by have := hE1.size; omega)
    refine WL.nil ?_
    refine CW.reg ?_
    refine WL.ev rfl rfl (Ev.mv rfl rfl) (WL.ev rfl rfl (Ev.bin rfl rfl rfl (Bin.add (by omega))) (WL.ev rfl rfl (Ev.as rfl rfl) (WL.nil ?_)))
    exact ⟨(k + 1, _, _), ⟨rfl, rfl, rfl, trivial⟩, ⟨hX1, hI2⟩, by simp only; omega⟩
  · skip
    refine CW.exit ?_
    refine CW.seq (CW.reg ?_)
    refine WL.ev rfl rfl (Ev.mv rfl rfl) (WL.ev rfl rfl (Ev.as rfl rfl) (WL.nil ?_))
    refine CW.ret ?_
    exact ⟨_, res1 rfl rfl rfl, hEwr1, hI.new (by omega) (by unfold maxLen; omega) hg⟩

theorem toContribution_spec (w : World) {S : Nat → Prop} (x : Contribution) {cs : List Value} (hx : rd S w x cs) (hlen : Sz.szd x ≤ 1048576) :
    Ret Try.prog 115 #[.agg cs.toArray] w (fun _ => False) fun v w' => ∃ cs, v = .agg cs.toArray ∧ New w w' x cs := by
  refine enter Try.func115 rfl rfl rfl ?_
  have hK1 := hx
  obtain ⟨v1, v2, rfl, hr1, hr2, hr3, hr4, hr5, hr6, hr7, hr8, hr9, hr10, hr11, hr12, hr13, hr14, hs1, hs2⟩ := hx
  obtain ⟨A1, c1, rfl, hc1, hm1⟩ := hs1.form
  obtain ⟨A2, c2, rfl, hc2, hm2⟩ := hs2.form
  rw [Contribution_szd] at hlen
  refine CW.seq (CW.reg ?_)
  refine WL.box rfl rfl rfl rfl rfl fun b1 w1 hEb1 hbb1 hBb1 => ?_
  refine WL.alloc rfl rfl rfl ze160 fun b2 w2 hEb2 hbb2 hBb2 => ?_
  refine WL.nil ?_
  refine CW.seq (CW.reg ?_)
  refine WL.alloc rfl rfl rfl ze160 fun b3 w3 hEb3 hbb3 hBb3 => ?_
  refine WL.nil ?_
  refine CW.seq (CW.reg ?_)
  refine WL.ev rfl rfl (Ev.fa rfl fo154_0 rfl) (WL.ev rfl rfl (Ev.ld rfl ag9 rfl ((hBb1.ext (hEb2.trans hEb3)).cell rfl)) (WL.ev rfl rfl (Ev.fa rfl fo160_0 rfl) ?_))
  refine WL.st rfl rfl rfl sz9 rfl rfl rfl rfl (all1 rfl all0) hBb3 (Nat.le_of_ble_eq_true rfl) fun w4 hCw4 hB_1 => ?_
  have hB_1 : Blk _ _ _ [_, _, _, _, _, _, _, _, _, _, _, _, _, _, _, _] := hB_1
  have hz1 := hBb3.lt
  have hB_2 := Blk.chg1 (hBb1.ext (hEb2.trans hEb3)) hCw4 (by have := hBb1.lt; have := hbb3; have := hEb2.size; omega)
  have hB_3 := Blk.chg1 (hBb2.ext hEb3) hCw4 (by have := hBb2.lt; have := hbb3; omega)
  have hX1 := Ext.chg1 ((hEb1.trans hEb2).trans hEb3) hCw4 (by have := hbb3; have := hEb1.size; have := hEb2.size; omega)
  refine WL.nil ?_
  refine CW.fresh [(1, .pointer (some ⟨b1, 0, none⟩)), (2, .pointer (some ⟨b2, 0, none⟩)), (3, .pointer (some ⟨b3, 0, none⟩))] ⟨rfl, rfl, rfl, trivial⟩ fun σ => ?_
  refine CW.seq (CW.reg ?_)
  refine WL.ev rfl rfl (Ev.fa rfl fo154_1 rfl) (WL.ev rfl rfl (Ev.ld rfl ag9 rfl (hB_2.cell rfl)) (WL.ev rfl rfl (Ev.fa rfl fo160_1 rfl) ?_))
  refine WL.st rfl rfl rfl sz9 rfl rfl rfl rfl (all1 rfl all0) hB_1 (Nat.le_of_ble_eq_true rfl) fun w5 hCw5 hB_4 => ?_
  have hB_4 : Blk _ _ _ [_, _, _, _, _, _, _, _, _, _, _, _, _, _, _, _] := hB_4
  have hz2 := hB_1.lt
  have hB_5 := Blk.chg1 hB_2 hCw5 (by have := hBb1.lt; have := hbb3; have := hEb2.size; omega)
  have hB_6 := Blk.chg1 hB_3 hCw5 (by have := hBb2.lt; have := hbb3; omega)
  have hX2 := Ext.chg1 hX1 hCw5 (by have := hbb3; have := hEb1.size; have := hEb2.size; omega)
  refine WL.nil ?_
  refine CW.fresh [(1, .pointer (some ⟨b1, 0, none⟩)), (2, .pointer (some ⟨b2, 0, none⟩)), (3, .pointer (some ⟨b3, 0, none⟩))] ⟨rfl, rfl, rfl, trivial⟩ fun σ => ?_
  refine CW.seq (CW.reg ?_)
  refine WL.ev rfl rfl (Ev.fa rfl fo154_2 rfl) (WL.ev rfl rfl (Ev.lda rfl ag24 sz24 rfl (Blk.part hB_5 2 7) rfl) ?_)
  refine WL.call rfl rfl rfl rfl rfl ok13 rfl (toExpr_spec _ x.Target (rd_ext (Contribution_rd_Target hK1) hX2) (by (try simp only [szfold] at *); (try simp only [Expr_szd, Expr_szd] at *); omega)) ?_
  rintro _ w6 hEw6 ⟨_, rfl, _, hE01, hN1, hF1⟩
  obtain ⟨v3, L2, rfl, hr15, hr16, hr17, hr18, hr19, hr20, rfl, hO2⟩ := Expr_own.1 hE01
  obtain ⟨A3, c3, rfl, hc3, hm3⟩ := hO2.form
  refine WL.ev rfl rfl (Ev.fa rfl fo160_2 rfl) ?_
  refine WL.st rfl rfl rfl sz31 rfl rfl rfl rfl (all1 rfl (all1 rfl (all1 rfl (all1 rfl (all1 rfl (all1 rfl (all1 rfl all0))))))) (hB_4.ext hEw6) (Nat.le_of_ble_eq_true rfl) fun w7 hCw7 hB_7 => ?_
  have hB_7 : Blk _ _ _ [_, _, _, _, _, _, _, _, _, _, _, _, _, _, _, _] := hB_7
  have hz3 := (hB_4.ext hEw6).lt
  have hB_8 := Blk.chg1 (hB_5.ext hEw6) hCw7 (by have := hBb1.lt; have := hbb3; have := hEb2.size; omega)
  have hB_9 := Blk.chg1 (hB_6.ext hEw6) hCw7 (by have := hBb2.lt; have := hbb3; omega)
  have hO_1 := ownS.chg1 hO2 hCw7 (fun q hq e => by subst e; have := hF1 _ hq; have := hBb3.lt; have := hCw4.size; have := hCw5.size; omega)
  have hX3 := Ext.chg1 (hX2.trans hEw6) hCw7 (by have := hbb3; have := hEb1.size; have := hEb2.size; omega)
  refine WL.nil ?_
  refine CW.fresh [(1, .pointer (some ⟨b1, 0, none⟩)), (2, .pointer (some ⟨b2, 0, none⟩)), (3, .pointer (some ⟨b3, 0, none⟩))] ⟨rfl, rfl, rfl, trivial⟩ fun σ => ?_
  refine CW.seq (CW.reg ?_)
  refine WL.ev rfl rfl (Ev.fa rfl fo154_3 rfl) (WL.ev rfl rfl (Ev.lda rfl ag24 sz24 rfl (Blk.part hB_8 9 7) rfl) ?_)
  refine WL.call rfl rfl rfl rfl rfl ok13 rfl (toExpr_spec _ x.Value (rd_ext (Contribution_rd_Value hK1) hX3) (by (try simp only [szfold] at *); (try simp only [Expr_szd, Expr_szd] at *); omega)) ?_
  rintro _ w8 hEw8 ⟨_, rfl, _, hE02, hN2, hF2⟩
  obtain ⟨v4, L4, rfl, hr21, hr22, hr23, hr24, hr25, hr26, rfl, hO4⟩ := Expr_own.1 hE02
  obtain ⟨A4, c4, rfl, hc4, hm4⟩ := hO4.form
  refine WL.ev rfl rfl (Ev.fa rfl fo160_3 rfl) ?_
  refine WL.st rfl rfl rfl sz31 rfl rfl rfl rfl (all1 rfl (all1 rfl (all1 rfl (all1 rfl (all1 rfl (all1 rfl (all1 rfl all0))))))) (hB_7.ext hEw8) (Nat.le_of_ble_eq_true rfl) fun w9 hCw9 hB_10 => ?_
  have hB_10 : Blk _ _ _ [_, _, _, _, _, _, _, _, _, _, _, _, _, _, _, _] := hB_10
  have hz4 := (hB_7.ext hEw8).lt
  have hB_11 := Blk.chg1 (hB_8.ext hEw8) hCw9 (by have := hBb1.lt; have := hbb3; have := hEb2.size; omega)
  have hB_12 := Blk.chg1 (hB_9.ext hEw8) hCw9 (by have := hBb2.lt; have := hbb3; omega)
  have hO_2 := ownS.chg1 (hO_1.ext hEw8) hCw9 (fun q hq e => by subst e; have := hF1 _ hq; have := hBb3.lt; have := hCw4.size; have := hCw5.size; omega)
  have hO_3 := ownS.chg1 hO4 hCw9 (fun q hq e => by subst e; have := hF2 _ hq; have := hBb3.lt; have := hCw4.size; have := hCw5.size; have := hEw6.size; have := hCw7.size; omega)
  have hX4 := Ext.chg1 (hX3.trans hEw8) hCw9 (by have := hbb3; have := hEb1.size; have := hEb2.size; omega)
  refine WL.nil ?_
  refine CW.fresh [(2, .pointer (some ⟨b2, 0, none⟩)), (3, .pointer (some ⟨b3, 0, none⟩))] ⟨rfl, rfl, trivial⟩ fun σ => ?_
  refine CW.seq (CW.reg ?_)
  refine WL.ev rfl rfl (Ev.lda rfl ag160 sz160 rfl (At.blk hB_10) rfl) ?_
  refine WL.st rfl rfl rfl sz160 rfl rfl rfl rfl (all1 rfl (all1 rfl (all1 rfl (all1 rfl (all1 rfl (all1 rfl (all1 rfl (all1 rfl (all1 rfl (all1 rfl (all1 rfl (all1 rfl (all1 rfl (all1 rfl (all1 rfl (all1 rfl all0)))))))))))))))) hB_12 (Nat.le_of_ble_eq_true rfl) fun w10 hCw10 hB_13 => ?_
  have hB_13 : Blk _ _ _ [_, _, _, _, _, _, _, _, _, _, _, _, _, _, _, _] := hB_13
  have hz5 := hB_12.lt
  have hB_14 := Blk.chg1 hB_11 hCw10 (by have := hBb1.lt; have := hbb2; omega)
  have hB_15 := Blk.chg1 hB_10 hCw10 (by have := hBb2.lt; have := hbb3; omega)
  have hO_4 := ownS.chg1 hO_2 hCw10 (fun q hq e => by subst e; have := hF1 _ hq; have := hBb2.lt; have := hEb3.size; have := hCw4.size; have := hCw5.size; omega)
  have hO_5 := ownS.chg1 hO_3 hCw10 (fun q hq e => by subst e; have := hF2 _ hq; have := hBb2.lt; have := hEb3.size; have := hCw4.size; have := hCw5.size; have := hEw6.size; have := hCw7.size; omega)
  have hX5 := Ext.chg1 hX4 hCw10 (by have := hbb2; have := hEb1.size; omega)
  refine WL.nil ?_
  refine CW.ret ?_
  exact ⟨_, resC rfl ag160 sz160 rfl rfl (At.blk hB_13) rfl, hX5, _, rfl, _, ⟨_, _, _, _, rfl, by first | assumption | omega, by first | assumption | omega, by first | assumption | omega, by first | assumption | omega, by first | assumption | omega, by first | assumption | omega, by first | assumption | omega, by first | assumption | omega, by first | assumption | omega, by first | assumption | omega, by first | assumption | omega, by first | assumption | omega, by first | assumption | omega, by first | assumption | omega, rfl, hO_4, hO_5⟩, (nodup_app hN1 hN2 (k := w7.heap.size) (fun q hq => by first | (have := hO2.lt _ hq; have := hCw7.size; omega)) hF2), fun q hq => by simp only [List.mem_append] at hq; rcases hq with hq | hq <;> first | (have := hF1 _ hq; have := hEb1.size; have := hEb2.size; have := hEb3.size; have := hCw4.size; have := hCw5.size; omega) | (have := hF2 _ hq; have := hEb1.size; have := hEb2.size; have := hEb3.size; have := hCw4.size; have := hCw5.size; have := hEw6.size; have := hCw7.size; omega)⟩

theorem toContributionS_spec (w : World) {S : Nat → Prop} (x : List Contribution) {z : Value} (hx : rdS S w x z) (hlen : szL x ≤ 1048576) :
    Ret Try.prog 80 #[z] w (fun _ => False) fun v w' => NewS w w' x v := by
  refine enter Try.func80 rfl rfl rfl ?_
  obtain ⟨A1, c1, rfl, hc1, hm1⟩ := hx.form
  have hl1 : x.length ≤ 9223372036854775807 := Nat.le_trans hc1 hm1
  have hln := szL_length x
  refine CW.seq (CW.reg ?_)
  refine WL.ev rfl rfl (Ev.as rfl rfl) (WL.nil ?_)
  refine CW.seq (CW.reg ?_)
  refine WL.ev rfl rfl (Ev.mv rfl rfl) (WL.ev rfl rfl (Ev.lenS rfl el57 rfl) ?_)
  refine WL.mk rfl rfl rfl el63 sz160 by160 ze160 rfl rfl rfl (by omega) (by omega) fun g w1 hE1 hg hBg => ?_
  refine WL.ev rfl rfl (Ev.as rfl rfl) (WL.nil ?_)
  refine CW.seq (CW.seq (CW.reg ?_))
  refine WL.ev rfl rfl (Ev.as rfl rfl) (WL.nil ?_)
  refine CW.block (CW.loop (α := Nat × List Value × List Nat) (fun q => [(0, .slice A1 x.length c1), (3, .slice (some ⟨g, 0, none⟩) x.length x.length), (4, .int .i64 (q.1 : Int))]) (fun q wr => Ext w wr ∧ ToInv wr g 160 [.string ⟨#[]⟩, .string ⟨#[]⟩, .int .i64 0, .int .i64 0, .int .i64 0, .int .i64 0, .string ⟨#[]⟩, .string ⟨#[]⟩, .slice none 0 0, .int .i64 0, .int .i64 0, .int .i64 0, .int .i64 0, .string ⟨#[]⟩, .string ⟨#[]⟩, .slice none 0 0] x q.1 q.2.1 q.2.2) (fun q => x.length - q.1) (0, [], []) ⟨rfl, rfl, rfl, trivial⟩ ⟨hE1, ToInv.init hBg⟩ ?_)
  rintro ⟨k, cs, L⟩ σ wr1 ⟨hEwr1, hI⟩
  simp only at hI
  have hk := hI.le
  refine CW.seq (CW.seq (CW.reg ?_))
  refine WL.ev rfl rfl (Ev.mv rfl rfl) (WL.ev rfl rfl (Ev.mv rfl rfl) (WL.ev rfl rfl (Ev.lenS rfl el57 rfl) (WL.ev rfl rfl (Ev.bin rfl rfl rfl Bin.lss) (WL.nil ?_))))
  refine CW.condD rfl (fun h1 => ?_) (fun h1 => ?_)
  · skip
    refine CW.skip ?_
    refine CW.seq (CW.block (CW.reg ?_))
    refine WL.ev rfl rfl (Ev.mv rfl rfl) (WL.ev rfl rfl (Ev.mv rfl rfl) (WL.ev rfl rfl (Ev.mv rfl rfl) (WL.ev rfl rfl (Ev.mv rfl rfl) ?_)))
    obtain ⟨xe1, be1, oe1, cse1, hxe1, hAe1, hSe1, hre1, hAte1⟩ := rdS.el hx (i := k) (by omega)
    have hK1 := hre1
    obtain ⟨v1, v2, rfl, hr1, hr2, hr3, hr4, hr5, hr6, hr7, hr8, hr9, hr10, hr11, hr12, hr13, hr14, hs1, hs2⟩ := hre1
    obtain ⟨A2, c2, rfl, hc2, hm2⟩ := hs1.form
    obtain ⟨A3, c3, rfl, hc3, hm3⟩ := hs2.form
    refine WL.ev rfl rfl (Ev.ixA rfl el57 sz154 rfl hAe1 rfl (by omega)) (WL.ev rfl rfl (Ev.lda rfl ag154 sz154 rfl (hAte1.ext hEwr1) rfl) ?_)
    refine WL.call rfl rfl rfl rfl rfl ok115 rfl (toContribution_spec _ xe1 (rd_ext hK1 hEwr1) (by have := szL_get hxe1; (try simp only [szfold] at *); omega)) ?_
    rintro _ w1 hEw1 ⟨cs1, rfl, L1, hO1, hN1, hF1⟩
    refine WL.ev rfl rfl (Ev.ix rfl el63 sz160 rfl rfl (by omega)) ?_
    refine WL.stTo rfl rfl rfl sz160 rfl rfl rfl (hI.ext hEw1) hxe1 hO1 hN1 (hI.fresh hF1) rfl fun w2 hCw2 hI2 => ?_
    have hX1 := Ext.chg1 (hEwr1.trans hEw1) hCw2 (by have := hE1.size; omega)
    refine WL.nil ?_
    refine CW.reg ?_
    refine WL.ev rfl rfl (Ev.mv rfl rfl) (WL.ev rfl rfl (Ev.bin rfl rfl rfl (Bin.add (by omega))) (WL.ev rfl rfl (Ev.as rfl rfl) (WL.nil ?_)))
    exact ⟨(k + 1, _, _), ⟨rfl, rfl, rfl, trivial⟩, ⟨hX1, hI2⟩, by simp only; omega⟩
  · skip
    refine CW.exit ?_
    refine CW.seq (CW.reg ?_)
    refine WL.ev rfl rfl (Ev.mv rfl rfl) (WL.ev rfl rfl (Ev.as rfl rfl) (WL.nil ?_))
    refine CW.ret ?_
    exact ⟨_, res1 rfl rfl rfl, hEwr1, hI.new (by omega) (by unfold maxLen; omega) hg⟩

theorem toRule_spec (w : World) {S : Nat → Prop} (x : Rule) {cs : List Value} (hx : rd S w x cs) (hlen : Sz.szd x ≤ 1048576) :
    Ret Try.prog 31 #[.agg cs.toArray] w (fun _ => False) fun v w' => ∃ cs, v = .agg cs.toArray ∧ New w w' x cs := by
  refine enter Try.func31 rfl rfl rfl ?_
  have hK1 := hx
  obtain ⟨v1, v2, v3, rfl, hr1, hr2, hs1, hs2, hs3⟩ := hx
  obtain ⟨A1, c1, rfl, hc1, hm1⟩ := hs1.form
  obtain ⟨A2, c2, rfl, hc2, hm2⟩ := hs2.form
  obtain ⟨A3, c3, rfl, hc3, hm3⟩ := hs3.form
  rw [Rule_szd] at hlen
  refine CW.seq (CW.reg ?_)
  refine WL.box rfl rfl rfl rfl rfl fun b1 w1 hEb1 hbb1 hBb1 => ?_
  refine WL.alloc rfl rfl rfl ze65 fun b2 w2 hEb2 hbb2 hBb2 => ?_
  refine WL.nil ?_
  refine CW.seq (CW.reg ?_)
  refine WL.alloc rfl rfl rfl ze65 fun b3 w3 hEb3 hbb3 hBb3 => ?_
  refine WL.nil ?_
  refine CW.seq (CW.reg ?_)
  refine WL.ev rfl rfl (Ev.fa rfl fo59_0 rfl) (WL.ev rfl rfl (Ev.ld rfl ag9 rfl ((hBb1.ext (hEb2.trans hEb3)).cell rfl)) (WL.ev rfl rfl (Ev.fa rfl fo65_0 rfl) ?_))
  refine WL.st rfl rfl rfl sz9 rfl rfl rfl rfl (all1 rfl all0) hBb3 (Nat.le_of_ble_eq_true rfl) fun w4 hCw4 hB_1 => ?_
  have hB_1 : Blk _ _ _ [_, _, _, _, _, _] := hB_1
  have hz1 := hBb3.lt
  have hB_2 := Blk.chg1 (hBb1.ext (hEb2.trans hEb3)) hCw4 (by have := hBb1.lt; have := hbb3; have := hEb2.size; omega)
  have hB_3 := Blk.chg1 (hBb2.ext hEb3) hCw4 (by have := hBb2.lt; have := hbb3; omega)
  have hX1 := Ext.chg1 ((hEb1.trans hEb2).trans hEb3) hCw4 (by have := hbb3; have := hEb1.size; have := hEb2.size; omega)
  refine WL.nil ?_
  refine CW.fresh [(1, .pointer (some ⟨b1, 0, none⟩)), (2, .pointer (some ⟨b2, 0, none⟩)), (3, .pointer (some ⟨b3, 0, none⟩))] ⟨rfl, rfl, rfl, trivial⟩ fun σ => ?_
  refine CW.seq (CW.reg ?_)
  refine WL.ev rfl rfl (Ev.fa rfl fo59_1 rfl) (WL.ev rfl rfl (Ev.ld rfl ag9 rfl (hB_2.cell rfl)) (WL.ev rfl rfl (Ev.fa rfl fo65_1 rfl) ?_))
  refine WL.st rfl rfl rfl sz9 rfl rfl rfl rfl (all1 rfl all0) hB_1 (Nat.le_of_ble_eq_true rfl) fun w5 hCw5 hB_4 => ?_
  have hB_4 : Blk _ _ _ [_, _, _, _, _, _] := hB_4
  have hz2 := hB_1.lt
  have hB_5 := Blk.chg1 hB_2 hCw5 (by have := hBb1.lt; have := hbb3; have := hEb2.size; omega)
  have hB_6 := Blk.chg1 hB_3 hCw5 (by have := hBb2.lt; have := hbb3; omega)
  have hX2 := Ext.chg1 hX1 hCw5 (by have := hbb3; have := hEb1.size; have := hEb2.size; omega)
  refine WL.nil ?_
  refine CW.fresh [(1, .pointer (some ⟨b1, 0, none⟩)), (2, .pointer (some ⟨b2, 0, none⟩)), (3, .pointer (some ⟨b3, 0, none⟩))] ⟨rfl, rfl, rfl, trivial⟩ fun σ => ?_
  refine CW.seq (CW.reg ?_)
  refine WL.ev rfl rfl (Ev.fa rfl fo59_2 rfl) (WL.ev rfl rfl (Ev.ld rfl ag55 rfl (hB_5.cell rfl)) ?_)
  refine WL.call rfl rfl rfl rfl rfl ok78 rfl (toStringS_spec _ x.Right (hs1.ext hX2) (by omega)) ?_
  rintro v4 w6 hEw6 ⟨L1, hO1, hN1, hF1⟩
  obtain ⟨A4, c4, rfl, hc4, hm4⟩ := hO1.form
  refine WL.ev rfl rfl (Ev.fa rfl fo65_2 rfl) ?_
  refine WL.st rfl rfl rfl sz55 rfl rfl rfl rfl (all1 rfl all0) (hB_4.ext hEw6) (Nat.le_of_ble_eq_true rfl) fun w7 hCw7 hB_7 => ?_
  have hB_7 : Blk _ _ _ [_, _, _, _, _, _] := hB_7
  have hz3 := (hB_4.ext hEw6).lt
  have hB_8 := Blk.chg1 (hB_5.ext hEw6) hCw7 (by have := hBb1.lt; have := hbb3; have := hEb2.size; omega)
  have hB_9 := Blk.chg1 (hB_6.ext hEw6) hCw7 (by have := hBb2.lt; have := hbb3; omega)
  have hO_1 := ownS.chg1 hO1 hCw7 (fun q hq e => by subst e; have := hF1 _ hq; have := hBb3.lt; have := hCw4.size; have := hCw5.size; omega)
  have hX3 := Ext.chg1 (hX2.trans hEw6) hCw7 (by have := hbb3; have := hEb1.size; have := hEb2.size; omega)
  refine WL.nil ?_
  refine CW.fresh [(1, .pointer (some ⟨b1, 0, none⟩)), (2, .pointer (some ⟨b2, 0, none⟩)), (3, .pointer (some ⟨b3, 0, none⟩))] ⟨rfl, rfl, rfl, trivial⟩ fun σ => ?_
  refine CW.seq (CW.reg ?_)
  refine WL.ev rfl rfl (Ev.fa rfl fo59_3 rfl) (WL.ev rfl rfl (Ev.ld rfl ag4 rfl (hB_8.cell rfl)) (WL.ev rfl rfl (Ev.fa rfl fo65_3 rfl) ?_))
  refine WL.st rfl rfl rfl sz4 rfl rfl rfl rfl (all1 rfl all0) hB_7 (Nat.le_of_ble_eq_true rfl) fun w8 hCw8 hB_10 => ?_
  have hB_10 : Blk _ _ _ [_, _, _, _, _, _] := hB_10
  have hz4 := hB_7.lt
  have hB_11 := Blk.chg1 hB_8 hCw8 (by have := hBb1.lt; have := hbb3; have := hEb2.size; omega)
  have hB_12 := Blk.chg1 hB_9 hCw8 (by have := hBb2.lt; have := hbb3; omega)
  have hO_2 := ownS.chg1 hO_1 hCw8 (fun q hq e => by subst e; have := hF1 _ hq; have := hBb3.lt; have := hCw4.size; have := hCw5.size; omega)
  have hX4 := Ext.chg1 hX3 hCw8 (by have := hbb3; have := hEb1.size; have := hEb2.size; omega)
  refine WL.nil ?_
  refine CW.fresh [(1, .pointer (some ⟨b1, 0, none⟩)), (2, .pointer (some ⟨b2, 0, none⟩)), (3, .pointer (some ⟨b3, 0, none⟩))] ⟨rfl, rfl, rfl, trivial⟩ fun σ => ?_
  refine CW.seq (CW.reg ?_)
  refine WL.ev rfl rfl (Ev.fa rfl fo59_4 rfl) (WL.ev rfl rfl (Ev.ld rfl ag56 rfl (hB_11.cell rfl)) ?_)
  refine WL.call rfl rfl rfl rfl rfl ok79 rfl (toEquationS_spec _ x.Equations (hs2.ext hX4) (by omega)) ?_
  rintro v5 w9 hEw9 ⟨L2, hO2, hN2, hF2⟩
  obtain ⟨A5, c5, rfl, hc5, hm5⟩ := hO2.form
  refine WL.ev rfl rfl (Ev.fa rfl fo65_4 rfl) ?_
  refine WL.st rfl rfl rfl sz62 rfl rfl rfl rfl (all1 rfl all0) (hB_10.ext hEw9) (Nat.le_of_ble_eq_true rfl) fun w10 hCw10 hB_13 => ?_
  have hB_13 : Blk _ _ _ [_, _, _, _, _, _] := hB_13
  have hz5 := (hB_10.ext hEw9).lt
  have hB_14 := Blk.chg1 (hB_11.ext hEw9) hCw10 (by have := hBb1.lt; have := hbb3; have := hEb2.size; omega)
  have hB_15 := Blk.chg1 (hB_12.ext hEw9) hCw10 (by have := hBb2.lt; have := hbb3; omega)
  have hO_3 := ownS.chg1 (hO_2.ext hEw9) hCw10 (fun q hq e => by subst e; have := hF1 _ hq; have := hBb3.lt; have := hCw4.size; have := hCw5.size; omega)
  have hO_4 := ownS.chg1 hO2 hCw10 (fun q hq e => by subst e; have := hF2 _ hq; have := hBb3.lt; have := hCw4.size; have := hCw5.size; have := hEw6.size; have := hCw7.size; have := hCw8.size; omega)
  have hX5 := Ext.chg1 (hX4.trans hEw9) hCw10 (by have := hbb3; have := hEb1.size; have := hEb2.size; omega)
  refine WL.nil ?_
  refine CW.fresh [(1, .pointer (some ⟨b1, 0, none⟩)), (2, .pointer (some ⟨b2, 0, none⟩)), (3, .pointer (some ⟨b3, 0, none⟩))] ⟨rfl, rfl, rfl, trivial⟩ fun σ => ?_
  refine CW.seq (CW.reg ?_)
  refine WL.ev rfl rfl (Ev.fa rfl fo59_5 rfl) (WL.ev rfl rfl (Ev.ld rfl ag57 rfl (hB_14.cell rfl)) ?_)
  refine WL.call rfl rfl rfl rfl rfl ok80 rfl (toContributionS_spec _ x.Contributions (hs3.ext hX5) (by omega)) ?_
  rintro v6 w11 hEw11 ⟨L3, hO3, hN3, hF3⟩
  obtain ⟨A6, c6, rfl, hc6, hm6⟩ := hO3.form
  refine WL.ev rfl rfl (Ev.fa rfl fo65_5 rfl) ?_
  refine WL.st rfl rfl rfl sz63 rfl rfl rfl rfl (all1 rfl all0) (hB_13.ext hEw11) (Nat.le_of_ble_eq_true rfl) fun w12 hCw12 hB_16 => ?_
  have hB_16 : Blk _ _ _ [_, _, _, _, _, _] := hB_16
  have hz6 := (hB_13.ext hEw11).lt
  have hB_17 := Blk.chg1 (hB_14.ext hEw11) hCw12 (by have := hBb1.lt; have := hbb3; have := hEb2.size; omega)
  have hB_18 := Blk.chg1 (hB_15.ext hEw11) hCw12 (by have := hBb2.lt; have := hbb3; omega)
  have hO_5 := ownS.chg1 (hO_3.ext hEw11) hCw12 (fun q hq e => by subst e; have := hF1 _ hq; have := hBb3.lt; have := hCw4.size; have := hCw5.size; omega)
  have hO_6 := ownS.chg1 (hO_4.ext hEw11) hCw12 (fun q hq e => by subst e; have := hF2 _ hq; have := hBb3.lt; have := hCw4.size; have := hCw5.size; have := hEw6.size; have := hCw7.size; have := hCw8.size; omega)
  have hO_7 := ownS.chg1 hO3 hCw12 (fun q hq e => by subst e; have := hF3 _ hq; have := hBb3.lt; have := hCw4.size; have := hCw5.size; have := hEw6.size; have := hCw7.size; have := hCw8.size; have := hEw9.size; have := hCw10.size; omega)
  have hX6 := Ext.chg1 (hX5.trans hEw11) hCw12 (by have := hbb3; have := hEb1.size; have := hEb2.size; omega)
  refine WL.nil ?_
  refine CW.fresh [(2, .pointer (some ⟨b2, 0, none⟩)), (3, .pointer (some ⟨b3, 0, none⟩))] ⟨rfl, rfl, trivial⟩ fun σ => ?_
  refine CW.seq (CW.reg ?_)
  refine WL.ev rfl rfl (Ev.lda rfl ag65 sz65 rfl (At.blk hB_16) rfl) ?_
  refine WL.st rfl rfl rfl sz65 rfl rfl rfl rfl (all1 rfl (all1 rfl (all1 rfl (all1 rfl (all1 rfl (all1 rfl all0)))))) hB_18 (Nat.le_of_ble_eq_true rfl) fun w13 hCw13 hB_19 => ?_
  have hB_19 : Blk _ _ _ [_, _, _, _, _, _] := hB_19
  have hz7 := hB_18.lt
  have hB_20 := Blk.chg1 hB_17 hCw13 (by have := hBb1.lt; have := hbb2; omega)
  have hB_21 := Blk.chg1 hB_16 hCw13 (by have := hBb2.lt; have := hbb3; omega)
  have hO_8 := ownS.chg1 hO_5 hCw13 (fun q hq e => by subst e; have := hF1 _ hq; have := hBb2.lt; have := hEb3.size; have := hCw4.size; have := hCw5.size; omega)
  have hO_9 := ownS.chg1 hO_6 hCw13 (fun q hq e => by subst e; have := hF2 _ hq; have := hBb2.lt; have := hEb3.size; have := hCw4.size; have := hCw5.size; have := hEw6.size; have := hCw7.size; have := hCw8.size; omega)
  have hO_10 := ownS.chg1 hO_7 hCw13 (fun q hq e => by subst e; have := hF3 _ hq; have := hBb2.lt; have := hEb3.size; have := hCw4.size; have := hCw5.size; have := hEw6.size; have := hCw7.size; have := hCw8.size; have := hEw9.size; have := hCw10.size; omega)
  have hX7 := Ext.chg1 hX6 hCw13 (by have := hbb2; have := hEb1.size; omega)
  refine WL.nil ?_
  refine CW.ret ?_
  exact ⟨_, resC rfl ag65 sz65 rfl rfl (At.blk hB_19) rfl, hX7, _, rfl, _, ⟨_, _, _, _, _, _, rfl, by first | assumption | omega, by first | assumption | omega, rfl, hO_8, hO_9, hO_10⟩, (nodup_app (nodup_app hN1 hN2 (k := w8.heap.size) (fun q hq => by first | (have := hO1.lt _ hq; have := hCw7.size; have := hCw8.size; omega)) hF2) hN3 (k := w10.heap.size) (fun q hq => by simp only [List.mem_append] at hq; rcases hq with hq | hq <;> first | (have := hO1.lt _ hq; have := hCw7.size; have := hCw8.size; have := hEw9.size; have := hCw10.size; omega) | (have := hO2.lt _ hq; have := hCw10.size; omega)) hF3), fun q hq => by simp only [List.mem_append] at hq; rcases hq with (hq | hq) | hq <;> first | (have := hF1 _ hq; have := hEb1.size; have := hEb2.size; have := hEb3.size; have := hCw4.size; have := hCw5.size; omega) | (have := hF2 _ hq; have := hEb1.size; have := hEb2.size; have := hEb3.size; have := hCw4.size; have := hCw5.size; have := hEw6.size; have := hCw7.size; have := hCw8.size; omega) | (have := hF3 _ hq; have := hEb1.size; have := hEb2.size; have := hEb3.size; have := hCw4.size; have := hCw5.size; have := hEw6.size; have := hCw7.size; have := hCw8.size; have := hEw9.size; have := hCw10.size; omega)⟩

theorem toRuleS_spec (w : World) {S : Nat → Prop} (x : List Rule) {z : Value} (hx : rdS S w x z) (hlen : szL x ≤ 1048576) :
    Ret Try.prog 66 #[z] w (fun _ => False) fun v w' => NewS w w' x v := by
  refine enter Try.func66 rfl rfl rfl ?_
  obtain ⟨A1, c1, rfl, hc1, hm1⟩ := hx.form
  have hl1 : x.length ≤ 9223372036854775807 := Nat.le_trans hc1 hm1
  have hln := szL_length x
  refine CW.seq (CW.reg ?_)
  refine WL.ev rfl rfl (Ev.as rfl rfl) (WL.nil ?_)
  refine CW.seq (CW.reg ?_)
  refine WL.ev rfl rfl (Ev.mv rfl rfl) (WL.ev rfl rfl (Ev.lenS rfl el39 rfl) ?_)
  refine WL.mk rfl rfl rfl el46 sz65 by65 ze65 rfl rfl rfl (by omega) (by omega) fun g w1 hE1 hg hBg => ?_
  refine WL.ev rfl rfl (Ev.as rfl rfl) (WL.nil ?_)
  refine CW.seq (CW.seq (CW.reg ?_))
  refine WL.ev rfl rfl (Ev.as rfl rfl) (WL.nil ?_)
  refine CW.block (CW.loop (α := Nat × List Value × List Nat) (fun q => [(0, .slice A1 x.length c1), (3, .slice (some ⟨g, 0, none⟩) x.length x.length), (4, .int .i64 (q.1 : Int))]) (fun q wr => Ext w wr ∧ ToInv wr g 65 [.string ⟨#[]⟩, .string ⟨#[]⟩, .slice none 0 0, .bool false, .slice none 0 0, .slice none 0 0] x q.1 q.2.1 q.2.2) (fun q => x.length - q.1) (0, [], []) ⟨rfl, rfl, rfl, trivial⟩ ⟨hE1, ToInv.init hBg⟩ ?_)
  rintro ⟨k, cs, L⟩ σ wr1 ⟨hEwr1, hI⟩
  simp only at hI
  have hk := hI.le
  refine CW.seq (CW.seq (CW.reg ?_))
  refine WL.ev rfl rfl (Ev.mv rfl rfl) (WL.ev rfl rfl (Ev.mv rfl rfl) (WL.ev rfl rfl (Ev.lenS rfl el39 rfl) (WL.ev rfl rfl (Ev.bin rfl rfl rfl Bin.lss) (WL.nil ?_))))
  refine CW.condD rfl (fun h1 => ?_) (fun h1 => ?_)
  · skip
    refine CW.skip ?_
    refine CW.seq (CW.block (CW.reg ?_))
    refine WL.ev rfl rfl (Ev.mv rfl rfl) (WL.ev rfl rfl (Ev.mv rfl rfl) (WL.ev rfl rfl (Ev.mv rfl rfl) (WL.ev rfl rfl (Ev.mv rfl rfl) ?_)))
    obtain ⟨xe1, be1, oe1, cse1, hxe1, hAe1, hSe1, hre1, hAte1⟩ := rdS.el hx (i := k) (by omega)
    have hK1 := hre1
    obtain ⟨v1, v2, v3, rfl, hr1, hr2, hs1, hs2, hs3⟩ := hre1
    obtain ⟨A2, c2, rfl, hc2, hm2⟩ := hs1.form
    obtain ⟨A3, c3, rfl, hc3, hm3⟩ := hs2.form
    obtain ⟨A4, c4, rfl, hc4, hm4⟩ := hs3.form
    refine WL.ev rfl rfl (Ev.ixA rfl el39 sz59 rfl hAe1 rfl (by omega)) (WL.ev rfl rfl (Ev.lda rfl ag59 sz59 rfl (hAte1.ext hEwr1) rfl) ?_)
    refine WL.call rfl rfl rfl rfl rfl ok31 rfl (toRule_spec _ xe1 (rd_ext hK1 hEwr1) (by have := szL_get hxe1; (try simp only [szfold] at *); omega)) ?_
    rintro _ w1 hEw1 ⟨cs1, rfl, L1, hO1, hN1, hF1⟩
    refine WL.ev rfl rfl (Ev.ix rfl el46 sz65 rfl rfl (by omega)) ?_
    refine WL.stTo rfl rfl rfl sz65 rfl rfl rfl (hI.ext hEw1) hxe1 hO1 hN1 (hI.fresh hF1) rfl fun w2 hCw2 hI2 => ?_
    have hX1 := Ext.chg1 (hEwr1.trans hEw1) hCw2 (by have := hE1.size; omega)
    refine WL.nil ?_
    refine CW.reg ?_
    refine WL.ev rfl rfl (Ev.mv rfl rfl) (WL.ev rfl rfl (Ev.bin rfl rfl rfl (Bin.add (by omega))) (WL.ev rfl rfl (Ev.as rfl rfl) (WL.nil ?_)))
    exact ⟨(k + 1, _, _), ⟨rfl, rfl, rfl, trivial⟩, ⟨hX1, hI2⟩, by simp only; omega⟩
  · skip
    refine CW.exit ?_
    refine CW.seq (CW.reg ?_)
    refine WL.ev rfl rfl (Ev.mv rfl rfl) (WL.ev rfl rfl (Ev.as rfl rfl) (WL.nil ?_))
    refine CW.ret ?_
    exact ⟨_, res1 rfl rfl rfl, hEwr1, hI.new (by omega) (by unfold maxLen; omega) hg⟩

theorem toGrammar_spec (w : World) {S : Nat → Prop} (x : Grammar) {cs : List Value} (hx : rd S w x cs) (hlen : Sz.szd x ≤ 1048576) :
    Ret Try.prog 22 #[.agg cs.toArray] w (fun _ => False) fun v w' => ∃ cs, v = .agg cs.toArray ∧ New w w' x cs := by
  refine enter Try.func22 rfl rfl rfl ?_
  have hK1 := hx
  obtain ⟨v1, v2, rfl, hs1, hs2⟩ := hx
  obtain ⟨A1, c1, rfl, hc1, hm1⟩ := hs1.form
  obtain ⟨A2, c2, rfl, hc2, hm2⟩ := hs2.form
  rw [Grammar_szd] at hlen
  refine CW.seq (CW.reg ?_)
  refine WL.box rfl rfl rfl rfl rfl fun b1 w1 hEb1 hbb1 hBb1 => ?_
  refine WL.alloc rfl rfl rfl ze48 fun b2 w2 hEb2 hbb2 hBb2 => ?_
  refine WL.nil ?_
  refine CW.seq (CW.reg ?_)
  refine WL.alloc rfl rfl rfl ze48 fun b3 w3 hEb3 hbb3 hBb3 => ?_
  refine WL.nil ?_
  refine CW.seq (CW.reg ?_)
  refine WL.ev rfl rfl (Ev.fa rfl fo41_0 rfl) (WL.ev rfl rfl (Ev.ld rfl ag38 rfl ((hBb1.ext (hEb2.trans hEb3)).cell rfl)) ?_)
  refine WL.call rfl rfl rfl rfl rfl ok65 rfl (toSymbolS_spec _ x.Symbols (hs1.ext ((hEb1.trans hEb2).trans hEb3)) (by omega)) ?_
  rintro v3 w4 hEw4 ⟨L1, hO1, hN1, hF1⟩
  obtain ⟨A3, c3, rfl, hc3, hm3⟩ := hO1.form
  refine WL.ev rfl rfl (Ev.fa rfl fo48_0 rfl) ?_
  refine WL.st rfl rfl rfl sz45 rfl rfl rfl rfl (all1 rfl all0) (hBb3.ext hEw4) (Nat.le_of_ble_eq_true rfl) fun w5 hCw5 hB_1 => ?_
  have hB_1 : Blk _ _ _ [_, _] := hB_1
  have hz1 := (hBb3.ext hEw4).lt
  have hB_2 := Blk.chg1 (hBb1.ext ((hEb2.trans hEb3).trans hEw4)) hCw5 (by have := hBb1.lt; have := hbb3; have := hEb2.size; omega)
  have hB_3 := Blk.chg1 (hBb2.ext (hEb3.trans hEw4)) hCw5 (by have := hBb2.lt; have := hbb3; omega)
  have hO_1 := ownS.chg1 hO1 hCw5 (fun q hq e => by subst e; have := hF1 _ hq; have := hBb3.lt; omega)
  have hX1 := Ext.chg1 (((hEb1.trans hEb2).trans hEb3).trans hEw4) hCw5 (by have := hbb3; have := hEb1.size; have := hEb2.size; omega)
  refine WL.nil ?_
  refine CW.fresh [(1, .pointer (some ⟨b1, 0, none⟩)), (2, .pointer (some ⟨b2, 0, none⟩)), (3, .pointer (some ⟨b3, 0, none⟩))] ⟨rfl, rfl, rfl, trivial⟩ fun σ => ?_
  refine CW.seq (CW.reg ?_)
  refine WL.ev rfl rfl (Ev.fa rfl fo41_1 rfl) (WL.ev rfl rfl (Ev.ld rfl ag39 rfl (hB_2.cell rfl)) ?_)
  refine WL.call rfl rfl rfl rfl rfl ok66 rfl (toRuleS_spec _ x.Rules (hs2.ext hX1) (by omega)) ?_
  rintro v4 w6 hEw6 ⟨L2, hO2, hN2, hF2⟩
  obtain ⟨A4, c4, rfl, hc4, hm4⟩ := hO2.form
  refine WL.ev rfl rfl (Ev.fa rfl fo48_1 rfl) ?_
  refine WL.st rfl rfl rfl sz46 rfl rfl rfl rfl (all1 rfl all0) (hB_1.ext hEw6) (Nat.le_of_ble_eq_true rfl) fun w7 hCw7 hB_4 => ?_
  have hB_4 : Blk _ _ _ [_, _] := hB_4
  have hz2 := (hB_1.ext hEw6).lt
  have hB_5 := Blk.chg1 (hB_2.ext hEw6) hCw7 (by have := hBb1.lt; have := hbb3; have := hEb2.size; omega)
  have hB_6 := Blk.chg1 (hB_3.ext hEw6) hCw7 (by have := hBb2.lt; have := hbb3; omega)
  have hO_2 := ownS.chg1 (hO_1.ext hEw6) hCw7 (fun q hq e => by subst e; have := hF1 _ hq; have := hBb3.lt; omega)
  have hO_3 := ownS.chg1 hO2 hCw7 (fun q hq e => by subst e; have := hF2 _ hq; have := hBb3.lt; have := hEw4.size; have := hCw5.size; omega)
  have hX2 := Ext.chg1 (hX1.trans hEw6) hCw7 (by have := hbb3; have := hEb1.size; have := hEb2.size; omega)
  refine WL.nil ?_
  refine CW.fresh [(2, .pointer (some ⟨b2, 0, none⟩)), (3, .pointer (some ⟨b3, 0, none⟩))] ⟨rfl, rfl, trivial⟩ fun σ => ?_
  refine CW.seq (CW.reg ?_)
  refine WL.ev rfl rfl (Ev.lda rfl ag48 sz48 rfl (At.blk hB_4) rfl) ?_
  refine WL.st rfl rfl rfl sz48 rfl rfl rfl rfl (all1 rfl (all1 rfl all0)) hB_6 (Nat.le_of_ble_eq_true rfl) fun w8 hCw8 hB_7 => ?_
  have hB_7 : Blk _ _ _ [_, _] := hB_7
  have hz3 := hB_6.lt
  have hB_8 := Blk.chg1 hB_5 hCw8 (by have := hBb1.lt; have := hbb2; omega)
  have hB_9 := Blk.chg1 hB_4 hCw8 (by have := hBb2.lt; have := hbb3; omega)
  have hO_4 := ownS.chg1 hO_2 hCw8 (fun q hq e => by subst e; have := hF1 _ hq; have := hBb2.lt; have := hEb3.size; omega)
  have hO_5 := ownS.chg1 hO_3 hCw8 (fun q hq e => by subst e; have := hF2 _ hq; have := hBb2.lt; have := hEb3.size; have := hEw4.size; have := hCw5.size; omega)
  have hX3 := Ext.chg1 hX2 hCw8 (by have := hbb2; have := hEb1.size; omega)
  refine WL.nil ?_
  refine CW.ret ?_
  exact ⟨_, resC rfl ag48 sz48 rfl rfl (At.blk hB_7) rfl, hX3, _, rfl, _, ⟨_, _, _, _, rfl, rfl, hO_4, hO_5⟩, (nodup_app hN1 hN2 (k := w5.heap.size) (fun q hq => by first | (have := hO1.lt _ hq; have := hCw5.size; omega)) hF2), fun q hq => by simp only [List.mem_append] at hq; rcases hq with hq | hq <;> first | (have := hF1 _ hq; have := hEb1.size; have := hEb2.size; have := hEb3.size; omega) | (have := hF2 _ hq; have := hEb1.size; have := hEb2.size; have := hEb3.size; have := hEw4.size; have := hCw5.size; omega)⟩

theorem eqAttribute_spec (w : World) {S S2 : Nat → Prop} (x y : Attribute) {cs ds : List Value} (hx : rd S w x cs) (hy : rd S2 w y ds) :
    Ret Try.prog 68 #[.agg cs.toArray, .agg ds.toArray] w (fun _ => False) fun v _ => v = .bool (decide (x = y)) := by
  refine enter Try.func68 rfl rfl rfl ?_
  have hK1 := hx
  obtain ⟨rfl, hr1, hr2, hr3⟩ := hx
  have hK2 := hy
  obtain ⟨rfl, hr4, hr5, hr6⟩ := hy
  refine CW.seq (CW.reg ?_)
  refine WL.box rfl rfl rfl rfl rfl fun b1 w1 hEb1 hbb1 hBb1 => ?_
  refine WL.box rfl rfl rfl rfl rfl fun b2 w2 hEb2 hbb2 hBb2 => ?_
  refine WL.ev rfl rfl (Ev.as rfl rfl) (WL.nil ?_)
  refine CW.seq (CW.seq (CW.reg ?_))
  refine WL.ev rfl rfl (Ev.fa rfl fo105_0 rfl) (WL.ev rfl rfl (Ev.ld rfl ag9 rfl ((hBb1.ext hEb2).cell rfl)) (WL.ev rfl rfl (Ev.fa rfl fo105_0 rfl) (WL.ev rfl rfl (Ev.ld rfl ag9 rfl (hBb2.cell rfl)) (WL.ev rfl rfl (Ev.bin rfl rfl rfl Bin.neqS) (WL.nil ?_)))))
  refine CW.condN rfl (fun h1 => ?_) (fun h1 => ?_)
  · skip
    refine CW.seq (CW.reg ?_)
    refine WL.ev rfl rfl (Ev.as rfl rfl) (WL.nil ?_)
    refine CW.ret ?_
    have e : x ≠ y := by rintro rfl; exact h1 rfl
    exact ⟨_, res1 rfl rfl rfl, (hEb1.trans hEb2), vB (by simp [e])⟩
  · skip
    refine CW.skip ?_
    refine CW.seq (CW.seq (CW.reg ?_))
    refine WL.ev rfl rfl (Ev.fa rfl fo105_1 rfl) (WL.ev rfl rfl (Ev.ld rfl ag3 rfl ((hBb1.ext hEb2).cell rfl)) (WL.ev rfl rfl (Ev.fa rfl fo105_1 rfl) (WL.ev rfl rfl (Ev.ld rfl ag3 rfl (hBb2.cell rfl)) (WL.ev rfl rfl (Ev.bin rfl rfl rfl Bin.neq) (WL.nil ?_)))))
    refine CW.condN rfl (fun h2 => ?_) (fun h2 => ?_)
    · skip
      refine CW.seq (CW.reg ?_)
      refine WL.ev rfl rfl (Ev.as rfl rfl) (WL.nil ?_)
      refine CW.ret ?_
      have e : x ≠ y := by rintro rfl; exact h2 rfl
      exact ⟨_, res1 rfl rfl rfl, (hEb1.trans hEb2), vB (by simp [e])⟩
    · skip
      refine CW.skip ?_
      refine CW.seq (CW.seq (CW.reg ?_))
      refine WL.ev rfl rfl (Ev.fa rfl fo105_2 rfl) (WL.ev rfl rfl (Ev.ld rfl ag3 rfl ((hBb1.ext hEb2).cell rfl)) (WL.ev rfl rfl (Ev.fa rfl fo105_2 rfl) (WL.ev rfl rfl (Ev.ld rfl ag3 rfl (hBb2.cell rfl)) (WL.ev rfl rfl (Ev.bin rfl rfl rfl Bin.neq) (WL.nil ?_)))))
      refine CW.condN rfl (fun h3 => ?_) (fun h3 => ?_)
      · skip
        refine CW.seq (CW.reg ?_)
        refine WL.ev rfl rfl (Ev.as rfl rfl) (WL.nil ?_)
        refine CW.ret ?_
        have e : x ≠ y := by rintro rfl; exact h3 rfl
        exact ⟨_, res1 rfl rfl rfl, (hEb1.trans hEb2), vB (by simp [e])⟩
      · skip
        refine CW.skip ?_
        refine CW.seq (CW.seq (CW.reg ?_))
        refine WL.ev rfl rfl (Ev.fa rfl fo105_3 rfl) (WL.ev rfl rfl (Ev.ld rfl ag4 rfl ((hBb1.ext hEb2).cell rfl)) (WL.ev rfl rfl (Ev.fa rfl fo105_3 rfl) (WL.ev rfl rfl (Ev.ld rfl ag4 rfl (hBb2.cell rfl)) (WL.ev rfl rfl (Ev.bin rfl rfl rfl (Bin.neqBo Try.underlying4)) (WL.nil ?_)))))
        refine CW.condN rfl (fun h4 => ?_) (fun h4 => ?_)
        · skip
          refine CW.seq (CW.reg ?_)
          refine WL.ev rfl rfl (Ev.as rfl rfl) (WL.nil ?_)
          refine CW.ret ?_
          have e : x ≠ y := by rintro rfl; exact h4 rfl
          exact ⟨_, res1 rfl rfl rfl, (hEb1.trans hEb2), vB (by simp [e])⟩
        · skip
          refine CW.skip ?_
          refine CW.seq (CW.reg ?_)
          refine WL.ev rfl rfl (Ev.as rfl rfl) (WL.nil ?_)
          refine CW.ret ?_
          have e : x = y := by cases x; cases y; simp_all
          exact ⟨_, res1 rfl rfl rfl, (hEb1.trans hEb2), vB (by simp [e])⟩

theorem eqAttributeS_spec (w : World) {S S2 : Nat → Prop} (x y : List Attribute) {z z2 : Value} (hx : rdS S w x z) (hy : rdS S2 w y z2) :
    Ret Try.prog 24 #[z, z2] w (fun _ => False) fun v _ => v = .bool (decide (x = y)) := by
  refine enter Try.func24 rfl rfl rfl ?_
  obtain ⟨A1, c1, rfl, hc1, hm1⟩ := hx.form
  have hl1 : x.length ≤ 9223372036854775807 := Nat.le_trans hc1 hm1
  obtain ⟨A2, c2, rfl, hc2, hm2⟩ := hy.form
  have hl2 : y.length ≤ 9223372036854775807 := Nat.le_trans hc2 hm2
  refine CW.seq (CW.reg ?_)
  refine WL.ev rfl rfl (Ev.as rfl rfl) (WL.nil ?_)
  refine CW.seq (CW.seq (CW.reg ?_))
  refine WL.ev rfl rfl (Ev.mv rfl rfl) (WL.ev rfl rfl (Ev.lenS rfl el43 rfl) (WL.ev rfl rfl (Ev.mv rfl rfl) (WL.ev rfl rfl (Ev.lenS rfl el43 rfl) (WL.ev rfl rfl (Ev.bin rfl rfl rfl Bin.neq) (WL.nil ?_)))))
  refine CW.condN rfl (fun h1 => ?_) (fun h1 => ?_)
  · skip
    refine CW.seq (CW.reg ?_)
    refine WL.ev rfl rfl (Ev.as rfl rfl) (WL.nil ?_)
    refine CW.ret ?_
    have e : x ≠ y := fun e => h1 (by rw [e])
    exact ⟨_, res1 rfl rfl rfl, (Ext.refl _), vB (by simp [e])⟩
  · skip
    refine CW.skip ?_
    refine CW.seq (CW.seq (CW.reg ?_))
    refine WL.ev rfl rfl (Ev.as rfl rfl) (WL.nil ?_)
    refine CW.block (CW.loop (α := Nat) (fun q => [(0, .slice A1 x.length c1), (1, .slice A2 y.length c2), (5, .int .i64 (q : Int))]) (fun q wr => Ext w wr ∧ q ≤ x.length ∧ x.take q = y.take q) (fun q => x.length - q) 0 ⟨rfl, rfl, rfl, trivial⟩ ⟨Ext.refl _, by omega, rfl⟩ ?_)
    rintro k σ wr1 ⟨hEwr1, hk, hpre⟩
    refine CW.seq (CW.seq (CW.reg ?_))
    refine WL.ev rfl rfl (Ev.mv rfl rfl) (WL.ev rfl rfl (Ev.mv rfl rfl) (WL.ev rfl rfl (Ev.lenS rfl el43 rfl) (WL.ev rfl rfl (Ev.bin rfl rfl rfl Bin.lss) (WL.nil ?_))))
    refine CW.condD rfl (fun h2 => ?_) (fun h2 => ?_)
    · skip
      refine CW.skip ?_
      refine CW.seq (CW.block (CW.seq (CW.quiet hmix (by kernel_rfl) ?_)))
      refine QL.ev rfl rfl (fun _ _ => Ev.mv rfl rfl) (QL.ev rfl rfl (fun _ _ => Ev.mv rfl rfl) ?_)
      obtain ⟨xe1, be1, oe1, cse1, hxe1, hAe1, hSe1, hre1, hAte1⟩ := rdS.el hx (i := k) (by omega)
      have hK1 := hre1
      obtain ⟨rfl, hr1, hr2, hr3⟩ := hre1
      refine QL.ev rfl rfl (fun _ _ => Ev.ixA rfl el43 sz105 rfl hAe1 rfl (by omega)) (QL.ev rfl rfl (fun _ hq => Ev.lda rfl ag105 sz105 rfl (hAte1.ext (hEwr1.trans hq)) rfl) (QL.ev rfl rfl (fun _ _ => Ev.mv rfl rfl) (QL.ev rfl rfl (fun _ _ => Ev.mv rfl rfl) ?_)))
      obtain ⟨xe2, be2, oe2, cse2, hxe2, hAe2, hSe2, hre2, hAte2⟩ := rdS.el hy (i := k) (by omega)
      have hK2 := hre2
      obtain ⟨rfl, hr4, hr5, hr6⟩ := hre2
      refine QL.ev rfl rfl (fun _ _ => Ev.ixA rfl el43 sz105 rfl hAe2 rfl (by omega)) (QL.ev rfl rfl (fun _ hq => Ev.lda rfl ag105 sz105 rfl (hAte2.ext (hEwr1.trans hq)) rfl) (QL.call rfl rfl rfl rfl rfl ok68 rfl (fun _ hq => eqAttribute_spec _ xe1 xe2 (rd_ext hK1 (hEwr1.trans hq)) (rd_ext hK2 (hEwr1.trans hq))) (QL.ev rfl rfl (fun _ _ => Ev.not rfl rfl) (QL.nil (fun w1 hEw1 => ?_)))))
      refine CW.condN rfl (fun h3 => ?_) (fun h3 => ?_)
      · skip
        refine CW.seq (CW.reg ?_)
        refine WL.ev rfl rfl (Ev.as rfl rfl) (WL.nil ?_)
        refine CW.ret ?_
        have e : x ≠ y := ne_of_at hxe1 hxe2 h3
        exact ⟨_, res1 rfl rfl rfl, (hEwr1.trans hEw1), vB (by simp [e])⟩
      · skip
        refine CW.skip ?_
        refine CW.reg ?_
        refine WL.ev rfl rfl (Ev.mv rfl rfl) (WL.ev rfl rfl (Ev.bin rfl rfl rfl (Bin.add (by omega))) (WL.ev rfl rfl (Ev.as rfl rfl) (WL.nil ?_)))
        exact ⟨k + 1, ⟨rfl, rfl, rfl, trivial⟩, ⟨(hEwr1.trans hEw1), by omega, take_succ_eq hpre hxe1 hxe2 h3⟩, by omega⟩
    · skip
      refine CW.exit ?_
      refine CW.seq (CW.reg ?_)
      refine WL.ev rfl rfl (Ev.as rfl rfl) (WL.nil ?_)
      refine CW.ret ?_
      have e : x = y := eq_of_take (by omega) (by omega) hpre
      exact ⟨_, res1 rfl rfl rfl, hEwr1, vB (by simp [e])⟩

theorem eqSymbol_spec (w : World) {S S2 : Nat → Prop} (x y : Symbol) {cs ds : List Value} (hx : rd S w x cs) (hy : rd S2 w y ds) :
    Ret Try.prog 110 #[.agg cs.toArray, .agg ds.toArray] w (fun _ => False) fun v _ => v = .bool (decide (x = y)) := by
  refine enter Try.func110 rfl rfl rfl ?_
  have hK1 := hx
  obtain ⟨v1, rfl, hr1, hs1⟩ := hx
  obtain ⟨A1, c1, rfl, hc1, hm1⟩ := hs1.form
  have hK2 := hy
  obtain ⟨v2, rfl, hr2, hs2⟩ := hy
  obtain ⟨A2, c2, rfl, hc2, hm2⟩ := hs2.form
  refine CW.seq (CW.reg ?_)
  refine WL.box rfl rfl rfl rfl rfl fun b1 w1 hEb1 hbb1 hBb1 => ?_
  refine WL.box rfl rfl rfl rfl rfl fun b2 w2 hEb2 hbb2 hBb2 => ?_
  refine WL.ev rfl rfl (Ev.as rfl rfl) (WL.nil ?_)
  refine CW.seq (CW.seq (CW.reg ?_))
  refine WL.ev rfl rfl (Ev.fa rfl fo101_0 rfl) (WL.ev rfl rfl (Ev.ld rfl ag9 rfl ((hBb1.ext hEb2).cell rfl)) (WL.ev rfl rfl (Ev.fa rfl fo101_0 rfl) (WL.ev rfl rfl (Ev.ld rfl ag9 rfl (hBb2.cell rfl)) (WL.ev rfl rfl (Ev.bin rfl rfl rfl Bin.neqS) (WL.nil ?_)))))
  refine CW.condN rfl (fun h1 => ?_) (fun h1 => ?_)
  · skip
    refine CW.seq (CW.reg ?_)
    refine WL.ev rfl rfl (Ev.as rfl rfl) (WL.nil ?_)
    refine CW.ret ?_
    have e : x ≠ y := by rintro rfl; exact h1 rfl
    exact ⟨_, res1 rfl rfl rfl, (hEb1.trans hEb2), vB (by simp [e])⟩
  · skip
    refine CW.skip ?_
    refine CW.seq (CW.seq (CW.reg ?_))
    refine WL.ev rfl rfl (Ev.fa rfl fo101_1 rfl) (WL.ev rfl rfl (Ev.ld rfl ag43 rfl ((hBb1.ext hEb2).cell rfl)) (WL.ev rfl rfl (Ev.fa rfl fo101_1 rfl) (WL.ev rfl rfl (Ev.ld rfl ag43 rfl (hBb2.cell rfl)) ?_)))
    refine WL.call rfl rfl rfl rfl rfl ok24 rfl (eqAttributeS_spec _ x.Attributes y.Attributes (hs1.ext (hEb1.trans hEb2)) (hs2.ext (hEb1.trans hEb2))) ?_
    rintro _ w3 hEw3 rfl
    refine WL.ev rfl rfl (Ev.not rfl rfl) (WL.nil ?_)
    refine CW.condN rfl (fun h2 => ?_) (fun h2 => ?_)
    · skip
      refine CW.seq (CW.reg ?_)
      refine WL.ev rfl rfl (Ev.as rfl rfl) (WL.nil ?_)
      refine CW.ret ?_
      have e : x ≠ y := by rintro rfl; exact h2 rfl
      exact ⟨_, res1 rfl rfl rfl, ((hEb1.trans hEb2).trans hEw3), vB (by simp [e])⟩
    · skip
      refine CW.skip ?_
      refine CW.seq (CW.reg ?_)
      refine WL.ev rfl rfl (Ev.as rfl rfl) (WL.nil ?_)
      refine CW.ret ?_
      have e : x = y := by cases x; cases y; simp_all
      exact ⟨_, res1 rfl rfl rfl, ((hEb1.trans hEb2).trans hEw3), vB (by simp [e])⟩

theorem eqSymbolS_spec (w : World) {S S2 : Nat → Prop} (x y : List Symbol) {z z2 : Value} (hx : rdS S w x z) (hy : rdS S2 w y z2) :
    Ret Try.prog 69 #[z, z2] w (fun _ => False) fun v _ => v = .bool (decide (x = y)) := by
  refine enter Try.func69 rfl rfl rfl ?_
  obtain ⟨A1, c1, rfl, hc1, hm1⟩ := hx.form
  have hl1 : x.length ≤ 9223372036854775807 := Nat.le_trans hc1 hm1
  obtain ⟨A2, c2, rfl, hc2, hm2⟩ := hy.form
  have hl2 : y.length ≤ 9223372036854775807 := Nat.le_trans hc2 hm2
  refine CW.seq (CW.reg ?_)
  refine WL.ev rfl rfl (Ev.as rfl rfl) (WL.nil ?_)
  refine CW.seq (CW.seq (CW.reg ?_))
  refine WL.ev rfl rfl (Ev.mv rfl rfl) (WL.ev rfl rfl (Ev.lenS rfl el45 rfl) (WL.ev rfl rfl (Ev.mv rfl rfl) (WL.ev rfl rfl (Ev.lenS rfl el45 rfl) (WL.ev rfl rfl (Ev.bin rfl rfl rfl Bin.neq) (WL.nil ?_)))))
  refine CW.condN rfl (fun h1 => ?_) (fun h1 => ?_)
  · skip
    refine CW.seq (CW.reg ?_)
    refine WL.ev rfl rfl (Ev.as rfl rfl) (WL.nil ?_)
    refine CW.ret ?_
    have e : x ≠ y := fun e => h1 (by rw [e])
    exact ⟨_, res1 rfl rfl rfl, (Ext.refl _), vB (by simp [e])⟩
  · skip
    refine CW.skip ?_
    refine CW.seq (CW.seq (CW.reg ?_))
    refine WL.ev rfl rfl (Ev.as rfl rfl) (WL.nil ?_)
    refine CW.block (CW.loop (α := Nat) (fun q => [(0, .slice A1 x.length c1), (1, .slice A2 y.length c2), (5, .int .i64 (q : Int))]) (fun q wr => Ext w wr ∧ q ≤ x.length ∧ x.take q = y.take q) (fun q => x.length - q) 0 ⟨rfl, rfl, rfl, trivial⟩ ⟨Ext.refl _, by omega, rfl⟩ ?_)
    rintro k σ wr1 ⟨hEwr1, hk, hpre⟩
    refine CW.seq (CW.seq (CW.reg ?_))
    refine WL.ev rfl rfl (Ev.mv rfl rfl) (WL.ev rfl rfl (Ev.mv rfl rfl) (WL.ev rfl rfl (Ev.lenS rfl el45 rfl) (WL.ev rfl rfl (Ev.bin rfl rfl rfl Bin.lss) (WL.nil ?_))))
    refine CW.condD rfl (fun h2 => ?_) (fun h2 => ?_)
    · skip
      refine CW.skip ?_
      refine CW.seq (CW.block (CW.seq (CW.quiet hmix (by kernel_rfl) ?_)))
      refine QL.ev rfl rfl (fun _ _ => Ev.mv rfl rfl) (QL.ev rfl rfl (fun _ _ => Ev.mv rfl rfl) ?_)
      obtain ⟨xe1, be1, oe1, cse1, hxe1, hAe1, hSe1, hre1, hAte1⟩ := rdS.el hx (i := k) (by omega)
      have hK1 := hre1
      obtain ⟨v1, rfl, hr1, hs1⟩ := hre1
      obtain ⟨A3, c3, rfl, hc3, hm3⟩ := hs1.form
      refine QL.ev rfl rfl (fun _ _ => Ev.ixA rfl el45 sz101 rfl hAe1 rfl (by omega)) (QL.ev rfl rfl (fun _ hq => Ev.lda rfl ag101 sz101 rfl (hAte1.ext (hEwr1.trans hq)) rfl) (QL.ev rfl rfl (fun _ _ => Ev.mv rfl rfl) (QL.ev rfl rfl (fun _ _ => Ev.mv rfl rfl) ?_)))
      obtain ⟨xe2, be2, oe2, cse2, hxe2, hAe2, hSe2, hre2, hAte2⟩ := rdS.el hy (i := k) (by omega)
      have hK2 := hre2
      obtain ⟨v2, rfl, hr2, hs2⟩ := hre2
      obtain ⟨A4, c4, rfl, hc4, hm4⟩ := hs2.form
      refine QL.ev rfl rfl (fun _ _ => Ev.ixA rfl el45 sz101 rfl hAe2 rfl (by omega)) (QL.ev rfl rfl (fun _ hq => Ev.lda rfl ag101 sz101 rfl (hAte2.ext (hEwr1.trans hq)) rfl) (QL.call rfl rfl rfl rfl rfl ok110 rfl (fun _ hq => eqSymbol_spec _ xe1 xe2 (rd_ext hK1 (hEwr1.trans hq)) (rd_ext hK2 (hEwr1.trans hq))) (QL.ev rfl rfl (fun _ _ => Ev.not rfl rfl) (QL.nil (fun w1 hEw1 => ?_)))))
      refine CW.condN rfl (fun h3 => ?_) (fun h3 => ?_)
      · skip
        refine CW.seq (CW.reg ?_)
        refine WL.ev rfl rfl (Ev.as rfl rfl) (WL.nil ?_)
        refine CW.ret ?_
        have e : x ≠ y := ne_of_at hxe1 hxe2 h3
        exact ⟨_, res1 rfl rfl rfl, (hEwr1.trans hEw1), vB (by simp [e])⟩
      · skip
        refine CW.skip ?_
        refine CW.reg ?_
        refine WL.ev rfl rfl (Ev.mv rfl rfl) (WL.ev rfl rfl (Ev.bin rfl rfl rfl (Bin.add (by omega))) (WL.ev rfl rfl (Ev.as rfl rfl) (WL.nil ?_)))
        exact ⟨k + 1, ⟨rfl, rfl, rfl, trivial⟩, ⟨(hEwr1.trans hEw1), by omega, take_succ_eq hpre hxe1 hxe2 h3⟩, by omega⟩
    · skip
      refine CW.exit ?_
      refine CW.seq (CW.reg ?_)
      refine WL.ev rfl rfl (Ev.as rfl rfl) (WL.nil ?_)
      refine CW.ret ?_
      have e : x = y := eq_of_take (by omega) (by omega) hpre
      exact ⟨_, res1 rfl rfl rfl, hEwr1, vB (by simp [e])⟩

theorem eqStringS_spec (w : World) {S S2 : Nat → Prop} (x y : List ByteArray) {z z2 : Value} (hx : rdS S w x z) (hy : rdS S2 w y z2) :
    Ret Try.prog 82 #[z, z2] w (fun _ => False) fun v _ => v = .bool (decide (x = y)) := by
  refine enter Try.func82 rfl rfl rfl ?_
  obtain ⟨A1, c1, rfl, hc1, hm1⟩ := hx.form
  have hl1 : x.length ≤ 9223372036854775807 := Nat.le_trans hc1 hm1
  obtain ⟨A2, c2, rfl, hc2, hm2⟩ := hy.form
  have hl2 : y.length ≤ 9223372036854775807 := Nat.le_trans hc2 hm2
  refine CW.seq (CW.reg ?_)
  refine WL.ev rfl rfl (Ev.as rfl rfl) (WL.nil ?_)
  refine CW.seq (CW.seq (CW.reg ?_))
  refine WL.ev rfl rfl (Ev.mv rfl rfl) (WL.ev rfl rfl (Ev.lenS rfl el55 rfl) (WL.ev rfl rfl (Ev.mv rfl rfl) (WL.ev rfl rfl (Ev.lenS rfl el55 rfl) (WL.ev rfl rfl (Ev.bin rfl rfl rfl Bin.neq) (WL.nil ?_)))))
  refine CW.condN rfl (fun h1 => ?_) (fun h1 => ?_)
  · skip
    refine CW.seq (CW.reg ?_)
    refine WL.ev rfl rfl (Ev.as rfl rfl) (WL.nil ?_)
    refine CW.ret ?_
    have e : x ≠ y := fun e => h1 (by rw [e])
    exact ⟨_, res1 rfl rfl rfl, (Ext.refl _), vB (by simp [e])⟩
  · skip
    refine CW.skip ?_
    refine CW.seq (CW.seq (CW.reg ?_))
    refine WL.ev rfl rfl (Ev.as rfl rfl) (WL.nil ?_)
    refine CW.block (CW.loop (α := Nat) (fun q => [(0, .slice A1 x.length c1), (1, .slice A2 y.length c2), (5, .int .i64 (q : Int))]) (fun q wr => Ext w wr ∧ q ≤ x.length ∧ x.take q = y.take q) (fun q => x.length - q) 0 ⟨rfl, rfl, rfl, trivial⟩ ⟨Ext.refl _, by omega, rfl⟩ ?_)
    rintro k σ wr1 ⟨hEwr1, hk, hpre⟩
    refine CW.seq (CW.seq (CW.reg ?_))
    refine WL.ev rfl rfl (Ev.mv rfl rfl) (WL.ev rfl rfl (Ev.mv rfl rfl) (WL.ev rfl rfl (Ev.lenS rfl el55 rfl) (WL.ev rfl rfl (Ev.bin rfl rfl rfl Bin.lss) (WL.nil ?_))))
    refine CW.condD rfl (fun h2 => ?_) (fun h2 => ?_)
    · skip
      refine CW.skip ?_
      refine CW.seq (CW.block (CW.seq (CW.quiet hmix (by kernel_rfl) ?_)))
      refine QL.ev rfl rfl (fun _ _ => Ev.mv rfl rfl) (QL.ev rfl rfl (fun _ _ => Ev.mv rfl rfl) ?_)
      obtain ⟨xe1, be1, oe1, cse1, hxe1, hAe1, hSe1, hre1, hAte1⟩ := rdS.el hx (i := k) (by omega)
      have hK1 := hre1
      obtain ⟨rfl, hr1⟩ := hre1
      refine QL.ev rfl rfl (fun _ _ => Ev.ixA rfl el55 sz9 rfl hAe1 rfl (by omega)) (QL.ev rfl rfl (fun _ hq => Ev.ld rfl ag9 rfl ((hAte1.ext (hEwr1.trans hq)).cell0 rfl)) (QL.ev rfl rfl (fun _ _ => Ev.mv rfl rfl) (QL.ev rfl rfl (fun _ _ => Ev.mv rfl rfl) ?_)))
      obtain ⟨xe2, be2, oe2, cse2, hxe2, hAe2, hSe2, hre2, hAte2⟩ := rdS.el hy (i := k) (by omega)
      have hK2 := hre2
      obtain ⟨rfl, hr2⟩ := hre2
      refine QL.ev rfl rfl (fun _ _ => Ev.ixA rfl el55 sz9 rfl hAe2 rfl (by omega)) (QL.ev rfl rfl (fun _ hq => Ev.ld rfl ag9 rfl ((hAte2.ext (hEwr1.trans hq)).cell0 rfl)) (QL.ev rfl rfl (fun _ _ => Ev.bin rfl rfl rfl Bin.neqS) (QL.nil (fun w1 hEw1 => ?_))))
      refine CW.condN rfl (fun h3 => ?_) (fun h3 => ?_)
      · skip
        refine CW.seq (CW.reg ?_)
        refine WL.ev rfl rfl (Ev.as rfl rfl) (WL.nil ?_)
        refine CW.ret ?_
        have e : x ≠ y := ne_of_at hxe1 hxe2 h3
        exact ⟨_, res1 rfl rfl rfl, (hEwr1.trans hEw1), vB (by simp [e])⟩
      · skip
        refine CW.skip ?_
        refine CW.reg ?_
        refine WL.ev rfl rfl (Ev.mv rfl rfl) (WL.ev rfl rfl (Ev.bin rfl rfl rfl (Bin.add (by omega))) (WL.ev rfl rfl (Ev.as rfl rfl) (WL.nil ?_)))
        exact ⟨k + 1, ⟨rfl, rfl, rfl, trivial⟩, ⟨(hEwr1.trans hEw1), by omega, take_succ_eq hpre hxe1 hxe2 h3⟩, by omega⟩
    · skip
      refine CW.exit ?_
      refine CW.seq (CW.reg ?_)
      refine WL.ev rfl rfl (Ev.as rfl rfl) (WL.nil ?_)
      refine CW.ret ?_
      have e : x = y := eq_of_take (by omega) (by omega) hpre
      exact ⟨_, res1 rfl rfl rfl, hEwr1, vB (by simp [e])⟩

theorem eqEquation_spec (w : World) {S S2 : Nat → Prop} (x y : Equation) {cs ds : List Value} (hx : rd S w x cs) (hy : rd S2 w y ds) :
    Ret Try.prog 117 #[.agg cs.toArray, .agg ds.toArray] w (fun _ => False) fun v _ => v = .bool (decide (x = y)) := by
  refine enter Try.func117 rfl rfl rfl ?_
  have hK1 := hx
  obtain ⟨v1, rfl, hr1, hr2, hr3, hr4, hr5, hr6, hr7, hr8, hs1⟩ := hx
  obtain ⟨A1, c1, rfl, hc1, hm1⟩ := hs1.form
  have hK2 := hy
  obtain ⟨v2, rfl, hr9, hr10, hr11, hr12, hr13, hr14, hr15, hr16, hs2⟩ := hy
  obtain ⟨A2, c2, rfl, hc2, hm2⟩ := hs2.form
  refine CW.seq (CW.reg ?_)
  refine WL.box rfl rfl rfl rfl rfl fun b1 w1 hEb1 hbb1 hBb1 => ?_
  refine WL.box rfl rfl rfl rfl rfl fun b2 w2 hEb2 hbb2 hBb2 => ?_
  refine WL.ev rfl rfl (Ev.as rfl rfl) (WL.nil ?_)
  refine CW.seq (CW.seq (CW.reg ?_))
  refine WL.ev rfl rfl (Ev.fa rfl fo157_0 rfl) (WL.ev rfl rfl (Ev.lda rfl ag90 sz90 rfl (Blk.part (hBb1.ext hEb2) 0 2) rfl) (WL.ev rfl rfl (Ev.fa rfl fo157_0 rfl) (WL.ev rfl rfl (Ev.lda rfl ag90 sz90 rfl (Blk.part hBb2 0 2) rfl) ?_)))
  refine WL.call rfl rfl rfl rfl rfl ok61 rfl (eqOccurrence_spec _ x.At y.At (rd_ext (Equation_rd_At hK1) (hEb1.trans hEb2)) (rd_ext (Equation_rd_At hK2) (hEb1.trans hEb2))) ?_
  rintro _ w3 hEw3 rfl
  refine WL.ev rfl rfl (Ev.not rfl rfl) (WL.nil ?_)
  refine CW.condN rfl (fun h1 => ?_) (fun h1 => ?_)
  · skip
    refine CW.seq (CW.reg ?_)
    refine WL.ev rfl rfl (Ev.as rfl rfl) (WL.nil ?_)
    refine CW.ret ?_
    have e : x ≠ y := by rintro rfl; exact h1 rfl
    exact ⟨_, res1 rfl rfl rfl, ((hEb1.trans hEb2).trans hEw3), vB (by simp [e])⟩
  · skip
    refine CW.skip ?_
    refine CW.seq (CW.seq (CW.reg ?_))
    refine WL.ev rfl rfl (Ev.fa rfl fo157_1 rfl) (WL.ev rfl rfl (Ev.lda rfl ag31 sz31 rfl (Blk.part (hBb1.ext (hEb2.trans hEw3)) 2 7) rfl) (WL.ev rfl rfl (Ev.fa rfl fo157_1 rfl) (WL.ev rfl rfl (Ev.lda rfl ag31 sz31 rfl (Blk.part (hBb2.ext hEw3) 2 7) rfl) ?_)))
    refine WL.call rfl rfl rfl rfl rfl ok16 rfl (eqExpr_spec _ x.Expr y.Expr (rd_ext (Equation_rd_Expr hK1) ((hEb1.trans hEb2).trans hEw3)) (rd_ext (Equation_rd_Expr hK2) ((hEb1.trans hEb2).trans hEw3))) ?_
    rintro _ w4 hEw4 rfl
    refine WL.ev rfl rfl (Ev.not rfl rfl) (WL.nil ?_)
    refine CW.condN rfl (fun h2 => ?_) (fun h2 => ?_)
    · skip
      refine CW.seq (CW.reg ?_)
      refine WL.ev rfl rfl (Ev.as rfl rfl) (WL.nil ?_)
      refine CW.ret ?_
      have e : x ≠ y := by rintro rfl; exact h2 rfl
      exact ⟨_, res1 rfl rfl rfl, (((hEb1.trans hEb2).trans hEw3).trans hEw4), vB (by simp [e])⟩
    · skip
      refine CW.skip ?_
      refine CW.seq (CW.reg ?_)
      refine WL.ev rfl rfl (Ev.as rfl rfl) (WL.nil ?_)
      refine CW.ret ?_
      have e : x = y := by cases x; cases y; simp_all
      exact ⟨_, res1 rfl rfl rfl, (((hEb1.trans hEb2).trans hEw3).trans hEw4), vB (by simp [e])⟩

theorem eqEquationS_spec (w : World) {S S2 : Nat → Prop} (x y : List Equation) {z z2 : Value} (hx : rdS S w x z) (hy : rdS S2 w y z2) :
    Ret Try.prog 83 #[z, z2] w (fun _ => False) fun v _ => v = .bool (decide (x = y)) := by
  refine enter Try.func83 rfl rfl rfl ?_
  obtain ⟨A1, c1, rfl, hc1, hm1⟩ := hx.form
  have hl1 : x.length ≤ 9223372036854775807 := Nat.le_trans hc1 hm1
  obtain ⟨A2, c2, rfl, hc2, hm2⟩ := hy.form
  have hl2 : y.length ≤ 9223372036854775807 := Nat.le_trans hc2 hm2
  refine CW.seq (CW.reg ?_)
  refine WL.ev rfl rfl (Ev.as rfl rfl) (WL.nil ?_)
  refine CW.seq (CW.seq (CW.reg ?_))
  refine WL.ev rfl rfl (Ev.mv rfl rfl) (WL.ev rfl rfl (Ev.lenS rfl el62 rfl) (WL.ev rfl rfl (Ev.mv rfl rfl) (WL.ev rfl rfl (Ev.lenS rfl el62 rfl) (WL.ev rfl rfl (Ev.bin rfl rfl rfl Bin.neq) (WL.nil ?_)))))
  refine CW.condN rfl (fun h1 => ?_) (fun h1 => ?_)
  · skip
    refine CW.seq (CW.reg ?_)
    refine WL.ev rfl rfl (Ev.as rfl rfl) (WL.nil ?_)
    refine CW.ret ?_
    have e : x ≠ y := fun e => h1 (by rw [e])
    exact ⟨_, res1 rfl rfl rfl, (Ext.refl _), vB (by simp [e])⟩
  · skip
    refine CW.skip ?_
    refine CW.seq (CW.seq (CW.reg ?_))
    refine WL.ev rfl rfl (Ev.as rfl rfl) (WL.nil ?_)
    refine CW.block (CW.loop (α := Nat) (fun q => [(0, .slice A1 x.length c1), (1, .slice A2 y.length c2), (5, .int .i64 (q : Int))]) (fun q wr => Ext w wr ∧ q ≤ x.length ∧ x.take q = y.take q) (fun q => x.length - q) 0 ⟨rfl, rfl, rfl, trivial⟩ ⟨Ext.refl _, by omega, rfl⟩ ?_)
    rintro k σ wr1 ⟨hEwr1, hk, hpre⟩
    refine CW.seq (CW.seq (CW.reg ?_))
    refine WL.ev rfl rfl (Ev.mv rfl rfl) (WL.ev rfl rfl (Ev.mv rfl rfl) (WL.ev rfl rfl (Ev.lenS rfl el62 rfl) (WL.ev rfl rfl (Ev.bin rfl rfl rfl Bin.lss) (WL.nil ?_))))
    refine CW.condD rfl (fun h2 => ?_) (fun h2 => ?_)
    · skip
      refine CW.skip ?_
      refine CW.seq (CW.block (CW.seq (CW.quiet hmix (by kernel_rfl) ?_)))
      refine QL.ev rfl rfl (fun _ _ => Ev.mv rfl rfl) (QL.ev rfl rfl (fun _ _ => Ev.mv rfl rfl) ?_)
      obtain ⟨xe1, be1, oe1, cse1, hxe1, hAe1, hSe1, hre1, hAte1⟩ := rdS.el hx (i := k) (by omega)
      have hK1 := hre1
      obtain ⟨v1, rfl, hr1, hr2, hr3, hr4, hr5, hr6, hr7, hr8, hs1⟩ := hre1
      obtain ⟨A3, c3, rfl, hc3, hm3⟩ := hs1.form
      refine QL.ev rfl rfl (fun _ _ => Ev.ixA rfl el62 sz157 rfl hAe1 rfl (by omega)) (QL.ev rfl rfl (fun _ hq => Ev.lda rfl ag157 sz157 rfl (hAte1.ext (hEwr1.trans hq)) rfl) (QL.ev rfl rfl (fun _ _ => Ev.mv rfl rfl) (QL.ev rfl rfl (fun _ _ => Ev.mv rfl rfl) ?_)))
      obtain ⟨xe2, be2, oe2, cse2, hxe2, hAe2, hSe2, hre2, hAte2⟩ := rdS.el hy (i := k) (by omega)
      have hK2 := hre2
      obtain ⟨v2, rfl, hr9, hr10, hr11, hr12, hr13, hr14, hr15, hr16, hs2⟩ := hre2
      obtain ⟨A4, c4, rfl, hc4, hm4⟩ := hs2.form
      refine QL.ev rfl rfl (fun _ _ => Ev.ixA rfl el62 sz157 rfl hAe2 rfl (by omega)) (QL.ev rfl rfl (fun _ hq => Ev.lda rfl ag157 sz157 rfl (hAte2.ext (hEwr1.trans hq)) rfl) (QL.call rfl rfl rfl rfl rfl ok117 rfl (fun _ hq => eqEquation_spec _ xe1 xe2 (rd_ext hK1 (hEwr1.trans hq)) (rd_ext hK2 (hEwr1.trans hq))) (QL.ev rfl rfl (fun _ _ => Ev.not rfl rfl) (QL.nil (fun w1 hEw1 => ?_)))))
      refine CW.condN rfl (fun h3 => ?_) (fun h3 => ?_)
      · skip
        refine CW.seq (CW.reg ?_)
        refine WL.ev rfl rfl (Ev.as rfl rfl) (WL.nil ?_)
        refine CW.ret ?_
        have e : x ≠ y := ne_of_at hxe1 hxe2 h3
        exact ⟨_, res1 rfl rfl rfl, (hEwr1.trans hEw1), vB (by simp [e])⟩
      · skip
        refine CW.skip ?_
        refine CW.reg ?_
        refine WL.ev rfl rfl (Ev.mv rfl rfl) (WL.ev rfl rfl (Ev.bin rfl rfl rfl (Bin.add (by omega))) (WL.ev rfl rfl (Ev.as rfl rfl) (WL.nil ?_)))
        exact ⟨k + 1, ⟨rfl, rfl, rfl, trivial⟩, ⟨(hEwr1.trans hEw1), by omega, take_succ_eq hpre hxe1 hxe2 h3⟩, by omega⟩
    · skip
      refine CW.exit ?_
      refine CW.seq (CW.reg ?_)
      refine WL.ev rfl rfl (Ev.as rfl rfl) (WL.nil ?_)
      refine CW.ret ?_
      have e : x = y := eq_of_take (by omega) (by omega) hpre
      exact ⟨_, res1 rfl rfl rfl, hEwr1, vB (by simp [e])⟩

theorem eqContribution_spec (w : World) {S S2 : Nat → Prop} (x y : Contribution) {cs ds : List Value} (hx : rd S w x cs) (hy : rd S2 w y ds) :
    Ret Try.prog 118 #[.agg cs.toArray, .agg ds.toArray] w (fun _ => False) fun v _ => v = .bool (decide (x = y)) := by
  refine enter Try.func118 rfl rfl rfl ?_
  have hK1 := hx
  obtain ⟨v1, v2, rfl, hr1, hr2, hr3, hr4, hr5, hr6, hr7, hr8, hr9, hr10, hr11, hr12, hr13, hr14, hs1, hs2⟩ := hx
  obtain ⟨A1, c1, rfl, hc1, hm1⟩ := hs1.form
  obtain ⟨A2, c2, rfl, hc2, hm2⟩ := hs2.form
  have hK2 := hy
  obtain ⟨v3, v4, rfl, hr15, hr16, hr17, hr18, hr19, hr20, hr21, hr22, hr23, hr24, hr25, hr26, hr27, hr28, hs3, hs4⟩ := hy
  obtain ⟨A3, c3, rfl, hc3, hm3⟩ := hs3.form
  obtain ⟨A4, c4, rfl, hc4, hm4⟩ := hs4.form
  refine CW.seq (CW.reg ?_)
  refine WL.box rfl rfl rfl rfl rfl fun b1 w1 hEb1 hbb1 hBb1 => ?_
  refine WL.box rfl rfl rfl rfl rfl fun b2 w2 hEb2 hbb2 hBb2 => ?_
  refine WL.ev rfl rfl (Ev.as rfl rfl) (WL.nil ?_)
  refine CW.seq (CW.seq (CW.reg ?_))
  refine WL.ev rfl rfl (Ev.fa rfl fo160_0 rfl) (WL.ev rfl rfl (Ev.ld rfl ag9 rfl ((hBb1.ext hEb2).cell rfl)) (WL.ev rfl rfl (Ev.fa rfl fo160_0 rfl) (WL.ev rfl rfl (Ev.ld rfl ag9 rfl (hBb2.cell rfl)) (WL.ev rfl rfl (Ev.bin rfl rfl rfl Bin.neqS) (WL.nil ?_)))))
  refine CW.condN rfl (fun h1 => ?_) (fun h1 => ?_)
  · skip
    refine CW.seq (CW.reg ?_)
    refine WL.ev rfl rfl (Ev.as rfl rfl) (WL.nil ?_)
    refine CW.ret ?_
    have e : x ≠ y := by rintro rfl; exact h1 rfl
    exact ⟨_, res1 rfl rfl rfl, (hEb1.trans hEb2), vB (by simp [e])⟩
  · skip
    refine CW.skip ?_
    refine CW.seq (CW.seq (CW.reg ?_))
    refine WL.ev rfl rfl (Ev.fa rfl fo160_1 rfl) (WL.ev rfl rfl (Ev.ld rfl ag9 rfl ((hBb1.ext hEb2).cell rfl)) (WL.ev rfl rfl (Ev.fa rfl fo160_1 rfl) (WL.ev rfl rfl (Ev.ld rfl ag9 rfl (hBb2.cell rfl)) (WL.ev rfl rfl (Ev.bin rfl rfl rfl Bin.neqS) (WL.nil ?_)))))
    refine CW.condN rfl (fun h2 => ?_) (fun h2 => ?_)
    · skip
      refine CW.seq (CW.reg ?_)
      refine WL.ev rfl rfl (Ev.as rfl rfl) (WL.nil ?_)
      refine CW.ret ?_
      have e : x ≠ y := by rintro rfl; exact h2 rfl
      exact ⟨_, res1 rfl rfl rfl, (hEb1.trans hEb2), vB (by simp [e])⟩
    · skip
      refine CW.skip ?_
      refine CW.seq (CW.seq (CW.reg ?_))
      refine WL.ev rfl rfl (Ev.fa rfl fo160_2 rfl) (WL.ev rfl rfl (Ev.lda rfl ag31 sz31 rfl (Blk.part (hBb1.ext hEb2) 2 7) rfl) (WL.ev rfl rfl (Ev.fa rfl fo160_2 rfl) (WL.ev rfl rfl (Ev.lda rfl ag31 sz31 rfl (Blk.part hBb2 2 7) rfl) ?_)))
      refine WL.call rfl rfl rfl rfl rfl ok16 rfl (eqExpr_spec _ x.Target y.Target (rd_ext (Contribution_rd_Target hK1) (hEb1.trans hEb2)) (rd_ext (Contribution_rd_Target hK2) (hEb1.trans hEb2))) ?_
      rintro _ w3 hEw3 rfl
      refine WL.ev rfl rfl (Ev.not rfl rfl) (WL.nil ?_)
      refine CW.condN rfl (fun h3 => ?_) (fun h3 => ?_)
      · skip
        refine CW.seq (CW.reg ?_)
        refine WL.ev rfl rfl (Ev.as rfl rfl) (WL.nil ?_)
        refine CW.ret ?_
        have e : x ≠ y := by rintro rfl; exact h3 rfl
        exact ⟨_, res1 rfl rfl rfl, ((hEb1.trans hEb2).trans hEw3), vB (by simp [e])⟩
      · skip
        refine CW.skip ?_
        refine CW.seq (CW.seq (CW.reg ?_))
        refine WL.ev rfl rfl (Ev.fa rfl fo160_3 rfl) (WL.ev rfl rfl (Ev.lda rfl ag31 sz31 rfl (Blk.part (hBb1.ext (hEb2.trans hEw3)) 9 7) rfl) (WL.ev rfl rfl (Ev.fa rfl fo160_3 rfl) (WL.ev rfl rfl (Ev.lda rfl ag31 sz31 rfl (Blk.part (hBb2.ext hEw3) 9 7) rfl) ?_)))
        refine WL.call rfl rfl rfl rfl rfl ok16 rfl (eqExpr_spec _ x.Value y.Value (rd_ext (Contribution_rd_Value hK1) ((hEb1.trans hEb2).trans hEw3)) (rd_ext (Contribution_rd_Value hK2) ((hEb1.trans hEb2).trans hEw3))) ?_
        rintro _ w4 hEw4 rfl
        refine WL.ev rfl rfl (Ev.not rfl rfl) (WL.nil ?_)
        refine CW.condN rfl (fun h4 => ?_) (fun h4 => ?_)
        · skip
          refine CW.seq (CW.reg ?_)
          refine WL.ev rfl rfl (Ev.as rfl rfl) (WL.nil ?_)
          refine CW.ret ?_
          have e : x ≠ y := by rintro rfl; exact h4 rfl
          exact ⟨_, res1 rfl rfl rfl, (((hEb1.trans hEb2).trans hEw3).trans hEw4), vB (by simp [e])⟩
        · skip
          refine CW.skip ?_
          refine CW.seq (CW.reg ?_)
          refine WL.ev rfl rfl (Ev.as rfl rfl) (WL.nil ?_)
          refine CW.ret ?_
          have e : x = y := by cases x; cases y; simp_all
          exact ⟨_, res1 rfl rfl rfl, (((hEb1.trans hEb2).trans hEw3).trans hEw4), vB (by simp [e])⟩

theorem eqContributionS_spec (w : World) {S S2 : Nat → Prop} (x y : List Contribution) {z z2 : Value} (hx : rdS S w x z) (hy : rdS S2 w y z2) :
    Ret Try.prog 84 #[z, z2] w (fun _ => False) fun v _ => v = .bool (decide (x = y)) := by
  refine enter Try.func84 rfl rfl rfl ?_
  obtain ⟨A1, c1, rfl, hc1, hm1⟩ := hx.form
  have hl1 : x.length ≤ 9223372036854775807 := Nat.le_trans hc1 hm1
  obtain ⟨A2, c2, rfl, hc2, hm2⟩ := hy.form
  have hl2 : y.length ≤ 9223372036854775807 := Nat.le_trans hc2 hm2
  refine CW.seq (CW.reg ?_)
  refine WL.ev rfl rfl (Ev.as rfl rfl) (WL.nil ?_)
  refine CW.seq (CW.seq (CW.reg ?_))
  refine WL.ev rfl rfl (Ev.mv rfl rfl) (WL.ev rfl rfl (Ev.lenS rfl el63 rfl) (WL.ev rfl rfl (Ev.mv rfl rfl) (WL.ev rfl rfl (Ev.lenS rfl el63 rfl) (WL.ev rfl rfl (Ev.bin rfl rfl rfl Bin.neq) (WL.nil ?_)))))
  refine CW.condN rfl (fun h1 => ?_) (fun h1 => ?_)
  · skip
    refine CW.seq (CW.reg ?_)
    refine WL.ev rfl rfl (Ev.as rfl rfl) (WL.nil ?_)
    refine CW.ret ?_
    have e : x ≠ y := fun e => h1 (by rw [e])
    exact ⟨_, res1 rfl rfl rfl, (Ext.refl _), vB (by simp [e])⟩
  · skip
    refine CW.skip ?_
    refine CW.seq (CW.seq (CW.reg ?_))
    refine WL.ev rfl rfl (Ev.as rfl rfl) (WL.nil ?_)
    refine CW.block (CW.loop (α := Nat) (fun q => [(0, .slice A1 x.length c1), (1, .slice A2 y.length c2), (5, .int .i64 (q : Int))]) (fun q wr => Ext w wr ∧ q ≤ x.length ∧ x.take q = y.take q) (fun q => x.length - q) 0 ⟨rfl, rfl, rfl, trivial⟩ ⟨Ext.refl _, by omega, rfl⟩ ?_)
    rintro k σ wr1 ⟨hEwr1, hk, hpre⟩
    refine CW.seq (CW.seq (CW.reg ?_))
    refine WL.ev rfl rfl (Ev.mv rfl rfl) (WL.ev rfl rfl (Ev.mv rfl rfl) (WL.ev rfl rfl (Ev.lenS rfl el63 rfl) (WL.ev rfl rfl (Ev.bin rfl rfl rfl Bin.lss) (WL.nil ?_))))
    refine CW.condD rfl (fun h2 => ?_) (fun h2 => ?_)
    · skip
      refine CW.skip ?_
      refine CW.seq (CW.block (CW.seq (CW.quiet hmix (by kernel_rfl) ?_)))
      refine QL.ev rfl rfl (fun _ _ => Ev.mv rfl rfl) (QL.ev rfl rfl (fun _ _ => Ev.mv rfl rfl) ?_)
      obtain ⟨xe1, be1, oe1, cse1, hxe1, hAe1, hSe1, hre1, hAte1⟩ := rdS.el hx (i := k) (by omega)
      have hK1 := hre1
      obtain ⟨v1, v2, rfl, hr1, hr2, hr3, hr4, hr5, hr6, hr7, hr8, hr9, hr10, hr11, hr12, hr13, hr14, hs1, hs2⟩ := hre1
      obtain ⟨A3, c3, rfl, hc3, hm3⟩ := hs1.form
      obtain ⟨A4, c4, rfl, hc4, hm4⟩ := hs2.form
      refine QL.ev rfl rfl (fun _ _ => Ev.ixA rfl el63 sz160 rfl hAe1 rfl (by omega)) (QL.ev rfl rfl (fun _ hq => Ev.lda rfl ag160 sz160 rfl (hAte1.ext (hEwr1.trans hq)) rfl) (QL.ev rfl rfl (fun _ _ => Ev.mv rfl rfl) (QL.ev rfl rfl (fun _ _ => Ev.mv rfl rfl) ?_)))
      obtain ⟨xe2, be2, oe2, cse2, hxe2, hAe2, hSe2, hre2, hAte2⟩ := rdS.el hy (i := k) (by omega)
      have hK2 := hre2
      obtain ⟨v3, v4, rfl, hr15, hr16, hr17, hr18, hr19, hr20, hr21, hr22, hr23, hr24, hr25, hr26, hr27, hr28, hs3, hs4⟩ := hre2
      obtain ⟨A5, c5, rfl, hc5, hm5⟩ := hs3.form
      obtain ⟨A6, c6, rfl, hc6, hm6⟩ := hs4.form
      refine QL.ev rfl rfl (fun _ _ => Ev.ixA rfl el63 sz160 rfl hAe2 rfl (by omega)) (QL.ev rfl rfl (fun _ hq => Ev.lda rfl ag160 sz160 rfl (hAte2.ext (hEwr1.trans hq)) rfl) (QL.call rfl rfl rfl rfl rfl ok118 rfl (fun _ hq => eqContribution_spec _ xe1 xe2 (rd_ext hK1 (hEwr1.trans hq)) (rd_ext hK2 (hEwr1.trans hq))) (QL.ev rfl rfl (fun _ _ => Ev.not rfl rfl) (QL.nil (fun w1 hEw1 => ?_)))))
      refine CW.condN rfl (fun h3 => ?_) (fun h3 => ?_)
      · skip
        refine CW.seq (CW.reg ?_)
        refine WL.ev rfl rfl (Ev.as rfl rfl) (WL.nil ?_)
        refine CW.ret ?_
        have e : x ≠ y := ne_of_at hxe1 hxe2 h3
        exact ⟨_, res1 rfl rfl rfl, (hEwr1.trans hEw1), vB (by simp [e])⟩
      · skip
        refine CW.skip ?_
        refine CW.reg ?_
        refine WL.ev rfl rfl (Ev.mv rfl rfl) (WL.ev rfl rfl (Ev.bin rfl rfl rfl (Bin.add (by omega))) (WL.ev rfl rfl (Ev.as rfl rfl) (WL.nil ?_)))
        exact ⟨k + 1, ⟨rfl, rfl, rfl, trivial⟩, ⟨(hEwr1.trans hEw1), by omega, take_succ_eq hpre hxe1 hxe2 h3⟩, by omega⟩
    · skip
      refine CW.exit ?_
      refine CW.seq (CW.reg ?_)
      refine WL.ev rfl rfl (Ev.as rfl rfl) (WL.nil ?_)
      refine CW.ret ?_
      have e : x = y := eq_of_take (by omega) (by omega) hpre
      exact ⟨_, res1 rfl rfl rfl, hEwr1, vB (by simp [e])⟩

theorem eqRule_spec (w : World) {S S2 : Nat → Prop} (x y : Rule) {cs ds : List Value} (hx : rd S w x cs) (hy : rd S2 w y ds) :
    Ret Try.prog 33 #[.agg cs.toArray, .agg ds.toArray] w (fun _ => False) fun v _ => v = .bool (decide (x = y)) := by
  refine enter Try.func33 rfl rfl rfl ?_
  have hK1 := hx
  obtain ⟨v1, v2, v3, rfl, hr1, hr2, hs1, hs2, hs3⟩ := hx
  obtain ⟨A1, c1, rfl, hc1, hm1⟩ := hs1.form
  obtain ⟨A2, c2, rfl, hc2, hm2⟩ := hs2.form
  obtain ⟨A3, c3, rfl, hc3, hm3⟩ := hs3.form
  have hK2 := hy
  obtain ⟨v4, v5, v6, rfl, hr3, hr4, hs4, hs5, hs6⟩ := hy
  obtain ⟨A4, c4, rfl, hc4, hm4⟩ := hs4.form
  obtain ⟨A5, c5, rfl, hc5, hm5⟩ := hs5.form
  obtain ⟨A6, c6, rfl, hc6, hm6⟩ := hs6.form
  refine CW.seq (CW.reg ?_)
  refine WL.box rfl rfl rfl rfl rfl fun b1 w1 hEb1 hbb1 hBb1 => ?_
  refine WL.box rfl rfl rfl rfl rfl fun b2 w2 hEb2 hbb2 hBb2 => ?_
  refine WL.ev rfl rfl (Ev.as rfl rfl) (WL.nil ?_)
  refine CW.seq (CW.seq (CW.reg ?_))
  refine WL.ev rfl rfl (Ev.fa rfl fo65_0 rfl) (WL.ev rfl rfl (Ev.ld rfl ag9 rfl ((hBb1.ext hEb2).cell rfl)) (WL.ev rfl rfl (Ev.fa rfl fo65_0 rfl) (WL.ev rfl rfl (Ev.ld rfl ag9 rfl (hBb2.cell rfl)) (WL.ev rfl rfl (Ev.bin rfl rfl rfl Bin.neqS) (WL.nil ?_)))))
  refine CW.condN rfl (fun h1 => ?_) (fun h1 => ?_)
  · skip
    refine CW.seq (CW.reg ?_)
    refine WL.ev rfl rfl (Ev.as rfl rfl) (WL.nil ?_)
    refine CW.ret ?_
    have e : x ≠ y := by rintro rfl; exact h1 rfl
    exact ⟨_, res1 rfl rfl rfl, (hEb1.trans hEb2), vB (by simp [e])⟩
  · skip
    refine CW.skip ?_
    refine CW.seq (CW.seq (CW.reg ?_))
    refine WL.ev rfl rfl (Ev.fa rfl fo65_1 rfl) (WL.ev rfl rfl (Ev.ld rfl ag9 rfl ((hBb1.ext hEb2).cell rfl)) (WL.ev rfl rfl (Ev.fa rfl fo65_1 rfl) (WL.ev rfl rfl (Ev.ld rfl ag9 rfl (hBb2.cell rfl)) (WL.ev rfl rfl (Ev.bin rfl rfl rfl Bin.neqS) (WL.nil ?_)))))
    refine CW.condN rfl (fun h2 => ?_) (fun h2 => ?_)
    · skip
      refine CW.seq (CW.reg ?_)
      refine WL.ev rfl rfl (Ev.as rfl rfl) (WL.nil ?_)
      refine CW.ret ?_
      have e : x ≠ y := by rintro rfl; exact h2 rfl
      exact ⟨_, res1 rfl rfl rfl, (hEb1.trans hEb2), vB (by simp [e])⟩
    · skip
      refine CW.skip ?_
      refine CW.seq (CW.seq (CW.reg ?_))
      refine WL.ev rfl rfl (Ev.fa rfl fo65_2 rfl) (WL.ev rfl rfl (Ev.ld rfl ag55 rfl ((hBb1.ext hEb2).cell rfl)) (WL.ev rfl rfl (Ev.fa rfl fo65_2 rfl) (WL.ev rfl rfl (Ev.ld rfl ag55 rfl (hBb2.cell rfl)) ?_)))
      refine WL.call rfl rfl rfl rfl rfl ok82 rfl (eqStringS_spec _ x.Right y.Right (hs1.ext (hEb1.trans hEb2)) (hs4.ext (hEb1.trans hEb2))) ?_
      rintro _ w3 hEw3 rfl
      refine WL.ev rfl rfl (Ev.not rfl rfl) (WL.nil ?_)
      refine CW.condN rfl (fun h3 => ?_) (fun h3 => ?_)
      · skip
        refine CW.seq (CW.reg ?_)
        refine WL.ev rfl rfl (Ev.as rfl rfl) (WL.nil ?_)
        refine CW.ret ?_
        have e : x ≠ y := by rintro rfl; exact h3 rfl
        exact ⟨_, res1 rfl rfl rfl, ((hEb1.trans hEb2).trans hEw3), vB (by simp [e])⟩
      · skip
        refine CW.skip ?_
        refine CW.seq (CW.seq (CW.reg ?_))
        refine WL.ev rfl rfl (Ev.fa rfl fo65_3 rfl) (WL.ev rfl rfl (Ev.ld rfl ag4 rfl ((hBb1.ext (hEb2.trans hEw3)).cell rfl)) (WL.ev rfl rfl (Ev.fa rfl fo65_3 rfl) (WL.ev rfl rfl (Ev.ld rfl ag4 rfl ((hBb2.ext hEw3).cell rfl)) (WL.ev rfl rfl (Ev.bin rfl rfl rfl (Bin.neqBo Try.underlying4)) (WL.nil ?_)))))
        refine CW.condN rfl (fun h4 => ?_) (fun h4 => ?_)
        · skip
          refine CW.seq (CW.reg ?_)
          refine WL.ev rfl rfl (Ev.as rfl rfl) (WL.nil ?_)
          refine CW.ret ?_
          have e : x ≠ y := by rintro rfl; exact h4 rfl
          exact ⟨_, res1 rfl rfl rfl, ((hEb1.trans hEb2).trans hEw3), vB (by simp [e])⟩
        · skip
          refine CW.skip ?_
          refine CW.seq (CW.seq (CW.reg ?_))
          refine WL.ev rfl rfl (Ev.fa rfl fo65_4 rfl) (WL.ev rfl rfl (Ev.ld rfl ag62 rfl ((hBb1.ext (hEb2.trans hEw3)).cell rfl)) (WL.ev rfl rfl (Ev.fa rfl fo65_4 rfl) (WL.ev rfl rfl (Ev.ld rfl ag62 rfl ((hBb2.ext hEw3).cell rfl)) ?_)))
          refine WL.call rfl rfl rfl rfl rfl ok83 rfl (eqEquationS_spec _ x.Equations y.Equations (hs2.ext ((hEb1.trans hEb2).trans hEw3)) (hs5.ext ((hEb1.trans hEb2).trans hEw3))) ?_
          rintro _ w4 hEw4 rfl
          refine WL.ev rfl rfl (Ev.not rfl rfl) (WL.nil ?_)
          refine CW.condN rfl (fun h5 => ?_) (fun h5 => ?_)
          · skip
            refine CW.seq (CW.reg ?_)
            refine WL.ev rfl rfl (Ev.as rfl rfl) (WL.nil ?_)
            refine CW.ret ?_
            have e : x ≠ y := by rintro rfl; exact h5 rfl
            exact ⟨_, res1 rfl rfl rfl, (((hEb1.trans hEb2).trans hEw3).trans hEw4), vB (by simp [e])⟩
          · skip
            refine CW.skip ?_
            refine CW.seq (CW.seq (CW.reg ?_))
            refine WL.ev rfl rfl (Ev.fa rfl fo65_5 rfl) (WL.ev rfl rfl (Ev.ld rfl ag63 rfl ((hBb1.ext ((hEb2.trans hEw3).trans hEw4)).cell rfl)) (WL.ev rfl rfl (Ev.fa rfl fo65_5 rfl) (WL.ev rfl rfl (Ev.ld rfl ag63 rfl ((hBb2.ext (hEw3.trans hEw4)).cell rfl)) ?_)))
            refine WL.call rfl rfl rfl rfl rfl ok84 rfl (eqContributionS_spec _ x.Contributions y.Contributions (hs3.ext (((hEb1.trans hEb2).trans hEw3).trans hEw4)) (hs6.ext (((hEb1.trans hEb2).trans hEw3).trans hEw4))) ?_
            rintro _ w5 hEw5 rfl
            refine WL.ev rfl rfl (Ev.not rfl rfl) (WL.nil ?_)
            refine CW.condN rfl (fun h6 => ?_) (fun h6 => ?_)
            · skip
              refine CW.seq (CW.reg ?_)
              refine WL.ev rfl rfl (Ev.as rfl rfl) (WL.nil ?_)
              refine CW.ret ?_
              have e : x ≠ y := by rintro rfl; exact h6 rfl
              exact ⟨_, res1 rfl rfl rfl, ((((hEb1.trans hEb2).trans hEw3).trans hEw4).trans hEw5), vB (by simp [e])⟩
            · skip
              refine CW.skip ?_
              refine CW.seq (CW.reg ?_)
              refine WL.ev rfl rfl (Ev.as rfl rfl) (WL.nil ?_)
              refine CW.ret ?_
              have e : x = y := by cases x; cases y; simp_all
              exact ⟨_, res1 rfl rfl rfl, ((((hEb1.trans hEb2).trans hEw3).trans hEw4).trans hEw5), vB (by simp [e])⟩

theorem eqRuleS_spec (w : World) {S S2 : Nat → Prop} (x y : List Rule) {z z2 : Value} (hx : rdS S w x z) (hy : rdS S2 w y z2) :
    Ret Try.prog 70 #[z, z2] w (fun _ => False) fun v _ => v = .bool (decide (x = y)) := by
  refine enter Try.func70 rfl rfl rfl ?_
  obtain ⟨A1, c1, rfl, hc1, hm1⟩ := hx.form
  have hl1 : x.length ≤ 9223372036854775807 := Nat.le_trans hc1 hm1
  obtain ⟨A2, c2, rfl, hc2, hm2⟩ := hy.form
  have hl2 : y.length ≤ 9223372036854775807 := Nat.le_trans hc2 hm2
  refine CW.seq (CW.reg ?_)
  refine WL.ev rfl rfl (Ev.as rfl rfl) (WL.nil ?_)
  refine CW.seq (CW.seq (CW.reg ?_))
  refine WL.ev rfl rfl (Ev.mv rfl rfl) (WL.ev rfl rfl (Ev.lenS rfl el46 rfl) (WL.ev rfl rfl (Ev.mv rfl rfl) (WL.ev rfl rfl (Ev.lenS rfl el46 rfl) (WL.ev rfl rfl (Ev.bin rfl rfl rfl Bin.neq) (WL.nil ?_)))))
  refine CW.condN rfl (fun h1 => ?_) (fun h1 => ?_)
  · skip
    refine CW.seq (CW.reg ?_)
    refine WL.ev rfl rfl (Ev.as rfl rfl) (WL.nil ?_)
    refine CW.ret ?_
    have e : x ≠ y := fun e => h1 (by rw [e])
    exact ⟨_, res1 rfl rfl rfl, (Ext.refl _), vB (by simp [e])⟩
  · skip
    refine CW.skip ?_
    refine CW.seq (CW.seq (CW.reg ?_))
    refine WL.ev rfl rfl (Ev.as rfl rfl) (WL.nil ?_)
    refine CW.block (CW.loop (α := Nat) (fun q => [(0, .slice A1 x.length c1), (1, .slice A2 y.length c2), (5, .int .i64 (q : Int))]) (fun q wr => Ext w wr ∧ q ≤ x.length ∧ x.take q = y.take q) (fun q => x.length - q) 0 ⟨rfl, rfl, rfl, trivial⟩ ⟨Ext.refl _, by omega, rfl⟩ ?_)
    rintro k σ wr1 ⟨hEwr1, hk, hpre⟩
    refine CW.seq (CW.seq (CW.reg ?_))
    refine WL.ev rfl rfl (Ev.mv rfl rfl) (WL.ev rfl rfl (Ev.mv rfl rfl) (WL.ev rfl rfl (Ev.lenS rfl el46 rfl) (WL.ev rfl rfl (Ev.bin rfl rfl rfl Bin.lss) (WL.nil ?_))))
    refine CW.condD rfl (fun h2 => ?_) (fun h2 => ?_)
    · skip
      refine CW.skip ?_
      refine CW.seq (CW.block (CW.seq (CW.quiet hmix (by kernel_rfl) ?_)))
      refine QL.ev rfl rfl (fun _ _ => Ev.mv rfl rfl) (QL.ev rfl rfl (fun _ _ => Ev.mv rfl rfl) ?_)
      obtain ⟨xe1, be1, oe1, cse1, hxe1, hAe1, hSe1, hre1, hAte1⟩ := rdS.el hx (i := k) (by omega)
      have hK1 := hre1
      obtain ⟨v1, v2, v3, rfl, hr1, hr2, hs1, hs2, hs3⟩ := hre1
      obtain ⟨A3, c3, rfl, hc3, hm3⟩ := hs1.form
      obtain ⟨A4, c4, rfl, hc4, hm4⟩ := hs2.form
      obtain ⟨A5, c5, rfl, hc5, hm5⟩ := hs3.form
      refine QL.ev rfl rfl (fun _ _ => Ev.ixA rfl el46 sz65 rfl hAe1 rfl (by omega)) (QL.ev rfl rfl (fun _ hq => Ev.lda rfl ag65 sz65 rfl (hAte1.ext (hEwr1.trans hq)) rfl) (QL.ev rfl rfl (fun _ _ => Ev.mv rfl rfl) (QL.ev rfl rfl (fun _ _ => Ev.mv rfl rfl) ?_)))
      obtain ⟨xe2, be2, oe2, cse2, hxe2, hAe2, hSe2, hre2, hAte2⟩ := rdS.el hy (i := k) (by omega)
      have hK2 := hre2
      obtain ⟨v4, v5, v6, rfl, hr3, hr4, hs4, hs5, hs6⟩ := hre2
      obtain ⟨A6, c6, rfl, hc6, hm6⟩ := hs4.form
      obtain ⟨A7, c7, rfl, hc7, hm7⟩ := hs5.form
      obtain ⟨A8, c8, rfl, hc8, hm8⟩ := hs6.form
      refine QL.ev rfl rfl (fun _ _ => Ev.ixA rfl el46 sz65 rfl hAe2 rfl (by omega)) (QL.ev rfl rfl (fun _ hq => Ev.lda rfl ag65 sz65 rfl (hAte2.ext (hEwr1.trans hq)) rfl) (QL.call rfl rfl rfl rfl rfl ok33 rfl (fun _ hq => eqRule_spec _ xe1 xe2 (rd_ext hK1 (hEwr1.trans hq)) (rd_ext hK2 (hEwr1.trans hq))) (QL.ev rfl rfl (fun _ _ => Ev.not rfl rfl) (QL.nil (fun w1 hEw1 => ?_)))))
      refine CW.condN rfl (fun h3 => ?_) (fun h3 => ?_)
      · skip
        refine CW.seq (CW.reg ?_)
        refine WL.ev rfl rfl (Ev.as rfl rfl) (WL.nil ?_)
        refine CW.ret ?_
        have e : x ≠ y := ne_of_at hxe1 hxe2 h3
        exact ⟨_, res1 rfl rfl rfl, (hEwr1.trans hEw1), vB (by simp [e])⟩
      · skip
        refine CW.skip ?_
        refine CW.reg ?_
        refine WL.ev rfl rfl (Ev.mv rfl rfl) (WL.ev rfl rfl (Ev.bin rfl rfl rfl (Bin.add (by omega))) (WL.ev rfl rfl (Ev.as rfl rfl) (WL.nil ?_)))
        exact ⟨k + 1, ⟨rfl, rfl, rfl, trivial⟩, ⟨(hEwr1.trans hEw1), by omega, take_succ_eq hpre hxe1 hxe2 h3⟩, by omega⟩
    · skip
      refine CW.exit ?_
      refine CW.seq (CW.reg ?_)
      refine WL.ev rfl rfl (Ev.as rfl rfl) (WL.nil ?_)
      refine CW.ret ?_
      have e : x = y := eq_of_take (by omega) (by omega) hpre
      exact ⟨_, res1 rfl rfl rfl, hEwr1, vB (by simp [e])⟩

end Go.Proofs.Ytfnnadlahlkkoaa
