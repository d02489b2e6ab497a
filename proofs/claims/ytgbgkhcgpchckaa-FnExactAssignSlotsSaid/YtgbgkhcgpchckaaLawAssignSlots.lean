/- The law FnExactAssignSlots returns true for all arguments and leaves them as they were; there is no condition. -/
import Derived.Test.YtgbgkhcgpchckaaRows
import Derived.Test.YtgbgkhcgpchckaaEngB
import Derived.Test.YtgbgkhcgpchckaaMathM2
set_option linter.unusedVariables false
set_option linter.unusedSimpArgs false
set_option linter.ambiguousOpen false
set_option linter.unusedSectionVars false
set_option linter.unnecessarySimpa false
set_option linter.unusedVariables false
set_option linter.unusedSimpArgs false
set_option maxRecDepth 100000
namespace Go.Proofs.Ytgbgkhcgpchckaa
open Go Go.E
open Go.E.Rep (rd)
open Go.E.Sep (own)
theorem ag9 : aggT Try.prog 9 = some false := by kernel_rfl
theorem ag23 : aggT Try.prog 23 = some false := by kernel_rfl
theorem ag87 : aggT Try.prog 87 = some true := by kernel_rfl
theorem ag89 : aggT Try.prog 89 = some true := by kernel_rfl
theorem sz5 : szT Try.prog 5 = some 1 := by kernel_rfl
theorem sz9 : szT Try.prog 9 = some 1 := by kernel_rfl
theorem sz31 : szT Try.prog 31 = some 1 := by kernel_rfl
theorem sz87 : szT Try.prog 87 = some 2 := by kernel_rfl
theorem sz89 : szT Try.prog 89 = some 3 := by kernel_rfl
theorem by93 : byT Try.prog 93 = some 24 := by kernel_rfl
theorem by95 : byT Try.prog 95 = some 48 := by kernel_rfl
theorem ze5 : zeroT Try.prog 5 = some [.int .u8 0] := by kernel_rfl
theorem ze93 : zeroT Try.prog 93 = some [.int .i64 0, .string ⟨#[]⟩] := by kernel_rfl
theorem el22 : elemT Try.prog 22 = some 89 := by kernel_rfl
theorem el23 : elemT Try.prog 23 = some 87 := by kernel_rfl
theorem el59 : elemT Try.prog 59 = some 5 := by kernel_rfl
theorem it5 : intT Try.prog 5 = some .u8 := by kernel_rfl
theorem fo87_0 : fieldT Try.prog 87 0 = some 0 := by kernel_rfl
theorem fo87_1 : fieldT Try.prog 87 1 = some 1 := by kernel_rfl
theorem fo89_0 : fieldT Try.prog 89 0 = some 0 := by kernel_rfl
theorem fo89_1 : fieldT Try.prog 89 1 = some 2 := by kernel_rfl
theorem fo93_0 : fieldT Try.prog 93 0 = some 0 := by kernel_rfl
theorem fo93_1 : fieldT Try.prog 93 1 = some 1 := by kernel_rfl
theorem ok8 : callable Try.prog 8 = true := by kernel_rfl
theorem ok9 : callable Try.prog 9 = true := by kernel_rfl
theorem ok10 : callable Try.prog 10 = true := by kernel_rfl
theorem ok11 : callable Try.prog 11 = true := by kernel_rfl
theorem ok12 : callable Try.prog 12 = true := by kernel_rfl
theorem ok13 : callable Try.prog 13 = true := by kernel_rfl
theorem ok14 : callable Try.prog 14 = true := by kernel_rfl
theorem ok15 : callable Try.prog 15 = true := by kernel_rfl
theorem ok16 : callable Try.prog 16 = true := by kernel_rfl
theorem ok17 : callable Try.prog 17 = true := by kernel_rfl
theorem ok18 : callable Try.prog 18 = true := by kernel_rfl
theorem ok19 : callable Try.prog 19 = true := by kernel_rfl
theorem ok20 : callable Try.prog 20 = true := by kernel_rfl
theorem ok59 : callable Try.prog 59 = true := by kernel_rfl
theorem ok60 : callable Try.prog 60 = true := by kernel_rfl
theorem ok64 : callable Try.prog 64 = true := by kernel_rfl
theorem ok65 : callable Try.prog 65 = true := by kernel_rfl
theorem ok70 : callable Try.prog 70 = true := by kernel_rfl
theorem ok71 : callable Try.prog 71 = true := by kernel_rfl
theorem ok72 : callable Try.prog 72 = true := by kernel_rfl
theorem szInstance_spec (w : World) {S : Nat → Prop} (x : Instance) {cs : List Value} (hx : rd S w x cs) (left : Int) (h0 : 0 ≤ left) (h1 : left ≤ 1048576) :
    Ret Try.prog 60 #[.agg cs.toArray, .int .i64 left] w (fun _ => False) fun v _ => ∃ r, v = .int .i64 r ∧ (((Sz.szd x : Nat) : Int) ≤ left ∧ r = left - (Sz.szd x : Nat) ∨ left < (Sz.szd x : Nat) ∧ r = -1) := by
  refine enter Try.func60 rfl rfl rfl ?_
  have hK1 := hx
  obtain ⟨rfl, hr1, hr2⟩ := hx
  have hsz := Instance_szd x
  refine CW.seq (CW.reg ?_)
  refine WL.box rfl rfl rfl rfl rfl fun b1 w1 hEb1 hbb1 hBb1 => ?_
  refine WL.ev rfl rfl (Ev.as rfl rfl) (WL.nil ?_)
  refine CW.seq (CW.reg ?_)
  refine WL.ev rfl rfl (Ev.mv rfl rfl) (WL.ev rfl rfl (Ev.fa rfl fo87_1 rfl) (WL.ev rfl rfl (Ev.ld rfl ag9 rfl (hBb1.cell rfl)) (WL.ev rfl rfl (Ev.lenB rfl Try.underlying9 rfl) (WL.ev rfl rfl (Ev.bin rfl rfl rfl (Bin.sub (by omega))) (WL.ev rfl rfl (Ev.as rfl rfl) (WL.nil ?_))))))
  refine CW.seq (CW.seq (CW.reg ?_))
  refine WL.ev rfl rfl (Ev.mv rfl rfl) (WL.ev rfl rfl (Ev.bin rfl rfl rfl Bin.lss) (WL.nil ?_))
  refine CW.condD rfl (fun h1 => ?_) (fun h1 => ?_)
  · skip
    refine CW.seq (CW.reg ?_)
    refine WL.ev rfl rfl (Ev.as rfl rfl) (WL.nil ?_)
    refine CW.ret ?_
    refine ⟨_, res1 rfl rfl rfl, hEb1, _, rfl, ?_⟩
    try simp only [szfold] at *
    first | omega | (right; exact ⟨by omega, by first | rfl | trivial⟩)
  · skip
    refine CW.skip ?_
    refine CW.seq (CW.reg ?_)
    refine WL.ev rfl rfl (Ev.mv rfl rfl) (WL.ev rfl rfl (Ev.as rfl rfl) (WL.nil ?_))
    refine CW.ret ?_
    refine ⟨_, res1 rfl rfl rfl, hEb1, _, rfl, ?_⟩
    try simp only [szfold] at *
    first | omega | (right; exact ⟨by omega, by first | rfl | trivial⟩)

theorem szInstanceS_spec (w : World) {S : Nat → Prop} (x : List Instance) {z : Value} (hx : rdS S w x z) (left : Int) (h0 : 0 ≤ left) (h1 : left ≤ 1048576) :
    Ret Try.prog 9 #[z, .int .i64 left] w (fun _ => False) fun v _ => ∃ r, v = .int .i64 r ∧ (((Sz.szd x : Nat) : Int) ≤ left ∧ r = left - (Sz.szd x : Nat) ∨ left < (Sz.szd x : Nat) ∧ r = -1) := by
  refine enter Try.func9 rfl rfl rfl ?_
  obtain ⟨A1, c1, rfl, hc1, hm1⟩ := hx.form
  have hl1 : x.length ≤ 9223372036854775807 := Nat.le_trans hc1 hm1
  have hsz : Sz.szd x = szL x := rfl
  have hlen := szL_length x
  refine CW.seq (CW.reg ?_)
  refine WL.ev rfl rfl (Ev.as rfl rfl) (WL.nil ?_)
  refine CW.seq (CW.reg ?_)
  refine WL.ev rfl rfl (Ev.mv rfl rfl) (WL.ev rfl rfl (Ev.mv rfl rfl) (WL.ev rfl rfl (Ev.lenS rfl el23 rfl) (WL.ev rfl rfl (Ev.bin rfl rfl rfl (Bin.sub (by omega))) (WL.ev rfl rfl (Ev.as rfl rfl) (WL.nil ?_)))))
  refine CW.seq (CW.seq (CW.reg ?_))
  refine WL.ev rfl rfl (Ev.mv rfl rfl) (WL.ev rfl rfl (Ev.bin rfl rfl rfl Bin.lss) (WL.nil ?_))
  refine CW.condD rfl (fun h1 => ?_) (fun h1 => ?_)
  · skip
    refine CW.seq (CW.reg ?_)
    refine WL.ev rfl rfl (Ev.as rfl rfl) (WL.nil ?_)
    refine CW.ret ?_
    refine ⟨_, res1 rfl rfl rfl, (Ext.refl _), _, rfl, ?_⟩
    try have hall := szL_take_all (x := x) (k := k) (by omega)
    try simp only [szfold] at *
    first | omega | (right; exact ⟨by omega, by first | rfl | trivial⟩)
  · skip
    refine CW.skip ?_
    refine CW.seq (CW.seq (CW.reg ?_))
    refine WL.ev rfl rfl (Ev.as rfl rfl) (WL.nil ?_)
    refine CW.block (CW.loop (α := Nat × Int) (fun q => [(0, .slice A1 x.length c1), (1, .int .i64 q.2), (5, .int .i64 (q.1 : Int))]) (fun q wr => Ext w wr ∧ q.1 ≤ x.length ∧ 0 ≤ q.2 ∧ q.2 + x.length + szL (x.take q.1) = left + q.1) (fun q => x.length - q.1) (0, left - x.length) ⟨rfl, rfl, rfl, trivial⟩ ⟨Ext.refl _, by simp, by simp only; omega, by simp [szL]⟩ ?_)
    rintro ⟨k, l⟩ σ wr1 ⟨hEwr1, hk, hl0, hle⟩
    simp only at hk hl0 hle
    have hmn0 := szL_take_le x k
    refine CW.seq (CW.seq (CW.reg ?_))
    refine WL.ev rfl rfl (Ev.mv rfl rfl) (WL.ev rfl rfl (Ev.mv rfl rfl) (WL.ev rfl rfl (Ev.lenS rfl el23 rfl) (WL.ev rfl rfl (Ev.bin rfl rfl rfl Bin.lss) (WL.nil ?_))))
    refine CW.condD rfl (fun h2 => ?_) (fun h2 => ?_)
    · skip
      refine CW.skip ?_
      refine CW.seq (CW.block (CW.seq (CW.reg ?_)))
      refine WL.ev rfl rfl (Ev.mv rfl rfl) (WL.ev rfl rfl (Ev.mv rfl rfl) ?_)
      obtain ⟨xe1, be1, oe1, cse1, hxe1, hAe1, hSe1, hre1, hAte1⟩ := rdS.el hx (i := k) (by omega)
      have hK1 := hre1
      obtain ⟨rfl, hr1, hr2⟩ := hre1
      refine WL.ev rfl rfl (Ev.ixA rfl el23 sz87 rfl hAe1 rfl (by omega)) (WL.ev rfl rfl (Ev.lda rfl ag87 sz87 rfl (hAte1.ext hEwr1) rfl) (WL.ev rfl rfl (Ev.mv rfl rfl) ?_))
      refine WL.call rfl rfl rfl rfl rfl ok60 rfl (szInstance_spec _ xe1 (rd_ext hK1 hEwr1) _ (by omega) (by omega)) ?_
      rintro _ w1 hEw1 ⟨r1, rfl, hr3⟩
      have hq1 := Instance_szd xe1
      refine WL.ev rfl rfl (Ev.as rfl rfl) (WL.nil ?_)
      refine CW.seq (CW.reg ?_)
      refine WL.ev rfl rfl (Ev.mv rfl rfl) (WL.ev rfl rfl (Ev.bin rfl rfl rfl Bin.lss) (WL.nil ?_))
      refine CW.condD rfl (fun h3 => ?_) (fun h3 => ?_)
      · skip
        refine CW.seq (CW.reg ?_)
        refine WL.ev rfl rfl (Ev.as rfl rfl) (WL.nil ?_)
        refine CW.ret ?_
        refine ⟨_, res1 rfl rfl rfl, (hEwr1.trans hEw1), _, rfl, ?_⟩
        have htk := szL_take_succ hxe1
        have hmn := szL_take_le x (k + 1)
        try simp only [szfold] at *
        first | omega | (right; exact ⟨by omega, by first | rfl | trivial⟩)
      · skip
        refine CW.skip ?_
        refine CW.reg ?_
        refine WL.ev rfl rfl (Ev.mv rfl rfl) (WL.ev rfl rfl (Ev.bin rfl rfl rfl (Bin.add (by omega))) (WL.ev rfl rfl (Ev.as rfl rfl) (WL.nil ?_)))
        have htk := szL_take_succ hxe1
        have hmn := szL_take_le x (k + 1)
        exact ⟨(k + 1, r1), ⟨rfl, rfl, rfl, trivial⟩, ⟨(hEwr1.trans hEw1), by simp only; omega, by simp only; omega, by simp only; omega⟩, by simp only; omega⟩
    · skip
      refine CW.exit ?_
      refine CW.seq (CW.reg ?_)
      refine WL.ev rfl rfl (Ev.mv rfl rfl) (WL.ev rfl rfl (Ev.as rfl rfl) (WL.nil ?_))
      refine CW.ret ?_
      refine ⟨_, res1 rfl rfl rfl, hEwr1, _, rfl, ?_⟩
      try have hall := szL_take_all (x := x) (k := k) (by omega)
      try simp only [szfold] at *
      first | omega | (right; exact ⟨by omega, by first | rfl | trivial⟩)

theorem szTraceStep_spec (w : World) {S : Nat → Prop} (x : TraceStep) {cs : List Value} (hx : rd S w x cs) (left : Int) (h0 : 0 ≤ left) (h1 : left ≤ 1048576) :
    Ret Try.prog 59 #[.agg cs.toArray, .int .i64 left] w (fun _ => False) fun v _ => ∃ r, v = .int .i64 r ∧ (((Sz.szd x : Nat) : Int) ≤ left ∧ r = left - (Sz.szd x : Nat) ∨ left < (Sz.szd x : Nat) ∧ r = -1) := by
  refine enter Try.func59 rfl rfl rfl ?_
  have hK1 := hx
  obtain ⟨v1, rfl, hr1, hr2, hs1⟩ := hx
  obtain ⟨A1, c1, rfl, hc1, hm1⟩ := hs1.form
  have hsz := TraceStep_szd x
  refine CW.seq (CW.reg ?_)
  refine WL.box rfl rfl rfl rfl rfl fun b1 w1 hEb1 hbb1 hBb1 => ?_
  refine WL.ev rfl rfl (Ev.as rfl rfl) (WL.nil ?_)
  refine CW.seq (CW.reg ?_)
  refine WL.ev rfl rfl (Ev.fa rfl fo89_0 rfl) (WL.ev rfl rfl (Ev.lda rfl ag87 sz87 rfl (Blk.part hBb1 0 2) rfl) (WL.ev rfl rfl (Ev.mv rfl rfl) ?_))
  refine WL.call rfl rfl rfl rfl rfl ok60 rfl (szInstance_spec _ x.At (rd_ext (TraceStep_rd_At hK1) hEb1) _ (by omega) (by omega)) ?_
  rintro _ w2 hEw2 ⟨r1, rfl, hr3⟩
  have hq1 := Instance_szd x.At
  refine WL.ev rfl rfl (Ev.as rfl rfl) (WL.nil ?_)
  refine CW.seq (CW.seq (CW.reg ?_))
  refine WL.ev rfl rfl (Ev.mv rfl rfl) (WL.ev rfl rfl (Ev.bin rfl rfl rfl Bin.lss) (WL.nil ?_))
  refine CW.condD rfl (fun h1 => ?_) (fun h1 => ?_)
  · skip
    refine CW.seq (CW.reg ?_)
    refine WL.ev rfl rfl (Ev.as rfl rfl) (WL.nil ?_)
    refine CW.ret ?_
    refine ⟨_, res1 rfl rfl rfl, (hEb1.trans hEw2), _, rfl, ?_⟩
    try simp only [szfold] at *
    first | omega | (right; exact ⟨by omega, by first | rfl | trivial⟩)
  · skip
    refine CW.skip ?_
    refine CW.seq (CW.reg ?_)
    refine WL.ev rfl rfl (Ev.fa rfl fo89_1 rfl) (WL.ev rfl rfl (Ev.ld rfl ag23 rfl ((hBb1.ext hEw2).cell rfl)) (WL.ev rfl rfl (Ev.mv rfl rfl) ?_))
    refine WL.call rfl rfl rfl rfl rfl ok9 rfl (szInstanceS_spec _ x.Inputs (hs1.ext (hEb1.trans hEw2)) _ (by omega) (by omega)) ?_
    rintro _ w3 hEw3 ⟨r2, rfl, hr4⟩
    have hq2 := szfold x.Inputs
    refine WL.ev rfl rfl (Ev.as rfl rfl) (WL.nil ?_)
    refine CW.seq (CW.seq (CW.reg ?_))
    refine WL.ev rfl rfl (Ev.mv rfl rfl) (WL.ev rfl rfl (Ev.bin rfl rfl rfl Bin.lss) (WL.nil ?_))
    refine CW.condD rfl (fun h2 => ?_) (fun h2 => ?_)
    · skip
      refine CW.seq (CW.reg ?_)
      refine WL.ev rfl rfl (Ev.as rfl rfl) (WL.nil ?_)
      refine CW.ret ?_
      refine ⟨_, res1 rfl rfl rfl, ((hEb1.trans hEw2).trans hEw3), _, rfl, ?_⟩
      try simp only [szfold] at *
      first | omega | (right; exact ⟨by omega, by first | rfl | trivial⟩)
    · skip
      refine CW.skip ?_
      refine CW.seq (CW.reg ?_)
      refine WL.ev rfl rfl (Ev.mv rfl rfl) (WL.ev rfl rfl (Ev.as rfl rfl) (WL.nil ?_))
      refine CW.ret ?_
      refine ⟨_, res1 rfl rfl rfl, ((hEb1.trans hEw2).trans hEw3), _, rfl, ?_⟩
      try simp only [szfold] at *
      first | omega | (right; exact ⟨by omega, by first | rfl | trivial⟩)

theorem szTraceStepS_spec (w : World) {S : Nat → Prop} (x : List TraceStep) {z : Value} (hx : rdS S w x z) (left : Int) (h0 : 0 ≤ left) (h1 : left ≤ 1048576) :
    Ret Try.prog 8 #[z, .int .i64 left] w (fun _ => False) fun v _ => ∃ r, v = .int .i64 r ∧ (((Sz.szd x : Nat) : Int) ≤ left ∧ r = left - (Sz.szd x : Nat) ∨ left < (Sz.szd x : Nat) ∧ r = -1) := by
  refine enter Try.func8 rfl rfl rfl ?_
  obtain ⟨A1, c1, rfl, hc1, hm1⟩ := hx.form
  have hl1 : x.length ≤ 9223372036854775807 := Nat.le_trans hc1 hm1
  have hsz : Sz.szd x = szL x := rfl
  have hlen := szL_length x
  refine CW.seq (CW.reg ?_)
  refine WL.ev rfl rfl (Ev.as rfl rfl) (WL.nil ?_)
  refine CW.seq (CW.reg ?_)
  refine WL.ev rfl rfl (Ev.mv rfl rfl) (WL.ev rfl rfl (Ev.mv rfl rfl) (WL.ev rfl rfl (Ev.lenS rfl el22 rfl) (WL.ev rfl rfl (Ev.bin rfl rfl rfl (Bin.sub (by omega))) (WL.ev rfl rfl (Ev.as rfl rfl) (WL.nil ?_)))))
  refine CW.seq (CW.seq (CW.reg ?_))
  refine WL.ev rfl rfl (Ev.mv rfl rfl) (WL.ev rfl rfl (Ev.bin rfl rfl rfl Bin.lss) (WL.nil ?_))
  refine CW.condD rfl (fun h1 => ?_) (fun h1 => ?_)
  · skip
    refine CW.seq (CW.reg ?_)
    refine WL.ev rfl rfl (Ev.as rfl rfl) (WL.nil ?_)
    refine CW.ret ?_
    refine ⟨_, res1 rfl rfl rfl, (Ext.refl _), _, rfl, ?_⟩
    try have hall := szL_take_all (x := x) (k := k) (by omega)
    try simp only [szfold] at *
    first | omega | (right; exact ⟨by omega, by first | rfl | trivial⟩)
  · skip
    refine CW.skip ?_
    refine CW.seq (CW.seq (CW.reg ?_))
    refine WL.ev rfl rfl (Ev.as rfl rfl) (WL.nil ?_)
    refine CW.block (CW.loop (α := Nat × Int) (fun q => [(0, .slice A1 x.length c1), (1, .int .i64 q.2), (5, .int .i64 (q.1 : Int))]) (fun q wr => Ext w wr ∧ q.1 ≤ x.length ∧ 0 ≤ q.2 ∧ q.2 + x.length + szL (x.take q.1) = left + q.1) (fun q => x.length - q.1) (0, left - x.length) ⟨rfl, rfl, rfl, trivial⟩ ⟨Ext.refl _, by simp, by simp only; omega, by simp [szL]⟩ ?_)
    rintro ⟨k, l⟩ σ wr1 ⟨hEwr1, hk, hl0, hle⟩
    simp only at hk hl0 hle
    have hmn0 := szL_take_le x k
    refine CW.seq (CW.seq (CW.reg ?_))
    refine WL.ev rfl rfl (Ev.mv rfl rfl) (WL.ev rfl rfl (Ev.mv rfl rfl) (WL.ev rfl rfl (Ev.lenS rfl el22 rfl) (WL.ev rfl rfl (Ev.bin rfl rfl rfl Bin.lss) (WL.nil ?_))))
    refine CW.condD rfl (fun h2 => ?_) (fun h2 => ?_)
    · skip
      refine CW.skip ?_
      refine CW.seq (CW.block (CW.seq (CW.reg ?_)))
      refine WL.ev rfl rfl (Ev.mv rfl rfl) (WL.ev rfl rfl (Ev.mv rfl rfl) ?_)
      obtain ⟨xe1, be1, oe1, cse1, hxe1, hAe1, hSe1, hre1, hAte1⟩ := rdS.el hx (i := k) (by omega)
      have hK1 := hre1
      obtain ⟨v1, rfl, hr1, hr2, hs1⟩ := hre1
      obtain ⟨A2, c2, rfl, hc2, hm2⟩ := hs1.form
      refine WL.ev rfl rfl (Ev.ixA rfl el22 sz89 rfl hAe1 rfl (by omega)) (WL.ev rfl rfl (Ev.lda rfl ag89 sz89 rfl (hAte1.ext hEwr1) rfl) (WL.ev rfl rfl (Ev.mv rfl rfl) ?_))
      refine WL.call rfl rfl rfl rfl rfl ok59 rfl (szTraceStep_spec _ xe1 (rd_ext hK1 hEwr1) _ (by omega) (by omega)) ?_
      rintro _ w1 hEw1 ⟨r1, rfl, hr3⟩
      have hq1 := TraceStep_szd xe1
      refine WL.ev rfl rfl (Ev.as rfl rfl) (WL.nil ?_)
      refine CW.seq (CW.reg ?_)
      refine WL.ev rfl rfl (Ev.mv rfl rfl) (WL.ev rfl rfl (Ev.bin rfl rfl rfl Bin.lss) (WL.nil ?_))
      refine CW.condD rfl (fun h3 => ?_) (fun h3 => ?_)
      · skip
        refine CW.seq (CW.reg ?_)
        refine WL.ev rfl rfl (Ev.as rfl rfl) (WL.nil ?_)
        refine CW.ret ?_
        refine ⟨_, res1 rfl rfl rfl, (hEwr1.trans hEw1), _, rfl, ?_⟩
        have htk := szL_take_succ hxe1
        have hmn := szL_take_le x (k + 1)
        try simp only [szfold] at *
        first | omega | (right; exact ⟨by omega, by first | rfl | trivial⟩)
      · skip
        refine CW.skip ?_
        refine CW.reg ?_
        refine WL.ev rfl rfl (Ev.mv rfl rfl) (WL.ev rfl rfl (Ev.bin rfl rfl rfl (Bin.add (by omega))) (WL.ev rfl rfl (Ev.as rfl rfl) (WL.nil ?_)))
        have htk := szL_take_succ hxe1
        have hmn := szL_take_le x (k + 1)
        exact ⟨(k + 1, r1), ⟨rfl, rfl, rfl, trivial⟩, ⟨(hEwr1.trans hEw1), by simp only; omega, by simp only; omega, by simp only; omega⟩, by simp only; omega⟩
    · skip
      refine CW.exit ?_
      refine CW.seq (CW.reg ?_)
      refine WL.ev rfl rfl (Ev.mv rfl rfl) (WL.ev rfl rfl (Ev.as rfl rfl) (WL.nil ?_))
      refine CW.ret ?_
      refine ⟨_, res1 rfl rfl rfl, hEwr1, _, rfl, ?_⟩
      try have hall := szL_take_all (x := x) (k := k) (by omega)
      try simp only [szfold] at *
      first | omega | (right; exact ⟨by omega, by first | rfl | trivial⟩)

theorem toInstance_spec (w : World) {S : Nat → Prop} (x : Instance) {cs : List Value} (hx : rd S w x cs) (hlen : Sz.szd x ≤ 1048576) :
    Ret Try.prog 65 #[.agg cs.toArray] w (fun _ => False) fun v w' => ∃ cs, v = .agg cs.toArray ∧ New w w' x cs := by
  refine enter Try.func65 rfl rfl rfl ?_
  have hK1 := hx
  obtain ⟨rfl, hr1, hr2⟩ := hx
  rw [Instance_szd] at hlen
  refine CW.seq (CW.reg ?_)
  refine WL.box rfl rfl rfl rfl rfl fun b1 w1 hEb1 hbb1 hBb1 => ?_
  refine WL.alloc rfl rfl rfl ze93 fun b2 w2 hEb2 hbb2 hBb2 => ?_
  refine WL.nil ?_
  refine CW.seq (CW.reg ?_)
  refine WL.alloc rfl rfl rfl ze93 fun b3 w3 hEb3 hbb3 hBb3 => ?_
  refine WL.nil ?_
  refine CW.seq (CW.reg ?_)
  refine WL.ev rfl rfl (Ev.fa rfl fo87_0 rfl) (WL.ev rfl rfl (Ev.ld rfl ag3 rfl ((hBb1.ext (hEb2.trans hEb3)).cell rfl)) (WL.ev rfl rfl (Ev.fa rfl fo93_0 rfl) ?_))
  refine WL.st rfl rfl rfl sz3 rfl rfl rfl rfl (all1 rfl all0) hBb3 (Nat.le_of_ble_eq_true rfl) fun w4 hCw4 hB_1 => ?_
  have hz1 := hBb3.lt
  have hB_2 := Blk.chg1 (hBb1.ext (hEb2.trans hEb3)) hCw4 (by have := hBb1.lt; have := hbb3; have := hEb2.size; omega)
  have hB_3 := Blk.chg1 (hBb2.ext hEb3) hCw4 (by have := hBb2.lt; have := hbb3; omega)
  have hX1 := Ext.chg1 ((hEb1.trans hEb2).trans hEb3) hCw4 (by have := hbb3; have := hEb1.size; have := hEb2.size; omega)
  refine WL.nil ?_
  refine CW.seq (CW.reg ?_)
  refine WL.ev rfl rfl (Ev.fa rfl fo87_1 rfl) (WL.ev rfl rfl (Ev.ld rfl ag9 rfl (hB_2.cell rfl)) (WL.ev rfl rfl (Ev.fa rfl fo93_1 rfl) ?_))
  refine WL.st rfl rfl rfl sz9 rfl rfl rfl rfl (all1 rfl all0) hB_1 (Nat.le_of_ble_eq_true rfl) fun w5 hCw5 hB_4 => ?_
  have hz2 := hB_1.lt
  have hB_5 := Blk.chg1 hB_2 hCw5 (by have := hBb1.lt; have := hbb3; have := hEb2.size; omega)
  have hB_6 := Blk.chg1 hB_3 hCw5 (by have := hBb2.lt; have := hbb3; omega)
  have hX2 := Ext.chg1 hX1 hCw5 (by have := hbb3; have := hEb1.size; have := hEb2.size; omega)
  refine WL.nil ?_
  refine CW.seq (CW.reg ?_)
  refine WL.ev rfl rfl (Ev.lda rfl ag93 sz93 rfl (At.blk hB_4) rfl) ?_
  refine WL.st rfl rfl rfl sz93 rfl rfl rfl rfl (all1 rfl (all1 rfl all0)) hB_6 (Nat.le_of_ble_eq_true rfl) fun w6 hCw6 hB_7 => ?_
  have hz3 := hB_6.lt
  have hB_8 := Blk.chg1 hB_5 hCw6 (by have := hBb1.lt; have := hbb2; omega)
  have hB_9 := Blk.chg1 hB_4 hCw6 (by have := hBb2.lt; have := hbb3; omega)
  have hX3 := Ext.chg1 hX2 hCw6 (by have := hbb2; have := hEb1.size; omega)
  refine WL.nil ?_
  refine CW.ret ?_
  exact ⟨_, resC rfl ag93 sz93 rfl rfl (At.blk hB_7) rfl, hX3, _, rfl, _, ⟨rfl, by first | assumption | omega, by first | assumption | omega, rfl⟩, List.nodup_nil, by simp⟩

theorem toInstanceS_spec (w : World) {S : Nat → Prop} (x : List Instance) {z : Value} (hx : rdS S w x z) (hlen : szL x ≤ 1048576) :
    Ret Try.prog 12 #[z] w (fun _ => False) fun v w' => NewS w w' x v := by
  refine enter Try.func12 rfl rfl rfl ?_
  obtain ⟨A1, c1, rfl, hc1, hm1⟩ := hx.form
  have hl1 : x.length ≤ 9223372036854775807 := Nat.le_trans hc1 hm1
  have hln := szL_length x
  refine CW.seq (CW.reg ?_)
  refine WL.ev rfl rfl (Ev.as rfl rfl) (WL.nil ?_)
  refine CW.seq (CW.reg ?_)
  refine WL.ev rfl rfl (Ev.mv rfl rfl) (WL.ev rfl rfl (Ev.lenS rfl el23 rfl) ?_)
  refine WL.mk rfl rfl rfl el31 sz93 by93 ze93 rfl rfl rfl (by omega) (by omega) fun g w1 hE1 hg hBg => ?_
  refine WL.ev rfl rfl (Ev.as rfl rfl) (WL.nil ?_)
  refine CW.seq (CW.seq (CW.reg ?_))
  refine WL.ev rfl rfl (Ev.as rfl rfl) (WL.nil ?_)
  refine CW.block (CW.loop (α := Nat × List Value × List Nat) (fun q => [(0, .slice A1 x.length c1), (3, .slice (some ⟨g, 0, none⟩) x.length x.length), (4, .int .i64 (q.1 : Int))]) (fun q wr => Ext w wr ∧ ToInv wr g 93 [.int .i64 0, .string ⟨#[]⟩] x q.1 q.2.1 q.2.2) (fun q => x.length - q.1) (0, [], []) ⟨rfl, rfl, rfl, trivial⟩ ⟨hE1, ToInv.init hBg⟩ ?_)
  rintro ⟨k, cs, L⟩ σ wr1 ⟨hEwr1, hI⟩
  simp only at hI
  have hk := hI.le
  refine CW.seq (CW.seq (CW.reg ?_))
  refine WL.ev rfl rfl (Ev.mv rfl rfl) (WL.ev rfl rfl (Ev.mv rfl rfl) (WL.ev rfl rfl (Ev.lenS rfl el23 rfl) (WL.ev rfl rfl (Ev.bin rfl rfl rfl Bin.lss) (WL.nil ?_))))
  refine CW.condD rfl (fun h1 => ?_) (fun h1 => ?_)
  · skip
    refine CW.skip ?_
    refine CW.seq (CW.block (CW.reg ?_))
    refine WL.ev rfl rfl (Ev.mv rfl rfl) (WL.ev rfl rfl (Ev.mv rfl rfl) (WL.ev rfl rfl (Ev.mv rfl rfl) (WL.ev rfl rfl (Ev.mv rfl rfl) ?_)))
    obtain ⟨xe1, be1, oe1, cse1, hxe1, hAe1, hSe1, hre1, hAte1⟩ := rdS.el hx (i := k) (by omega)
    have hK1 := hre1
    obtain ⟨rfl, hr1, hr2⟩ := hre1
    refine WL.ev rfl rfl (Ev.ixA rfl el23 sz87 rfl hAe1 rfl (by omega)) (WL.ev rfl rfl (Ev.lda rfl ag87 sz87 rfl (hAte1.ext hEwr1) rfl) ?_)
    refine WL.call rfl rfl rfl rfl rfl ok65 rfl (toInstance_spec _ xe1 (rd_ext hK1 hEwr1) (by have := szL_get hxe1; (try simp only [szfold] at *); omega)) ?_
    rintro _ w1 hEw1 ⟨cs1, rfl, L1, hO1, hN1, hF1⟩
    refine WL.ev rfl rfl (Ev.ix rfl el31 sz93 rfl rfl (by omega)) ?_
    refine WL.stTo rfl rfl rfl sz93 rfl rfl rfl (hI.ext hEw1) hxe1 hO1 hN1 (hI.fresh hF1) rfl fun w2 hCw2 hI2 => ?_
    have hX1 := Ext.chg1 (hEwr1.trans hEw1) hCw2 (by have := hE1.size; omega)
    refine WL.nil ?_
    refine CW.reg ?_
    refine WL.ev rfl rfl (Ev.mv rfl rfl) (WL.ev rfl rfl (Ev.bin rfl rfl rfl (Bin.add (by omega))) (WL.ev rfl rfl (Ev.as rfl rfl) (WL.nil ?_)))
    exact ⟨(k + 1, _, _), ⟨rfl, rfl, rfl, trivial⟩, ⟨hX1, hI2⟩, by simp only; omega⟩
  · skip
    refine CW.exit ?_
    refine CW.seq (CW.reg ?_)
    refine WL.ev rfl rfl (Ev.mv rfl rfl) (WL.ev rfl rfl (Ev.as rfl rfl) (WL.nil ?_))
    refine CW.ret ?_
    exact ⟨_, res1 rfl rfl rfl, hEwr1, hI.new (by omega) (by unfold maxLen; omega) hg⟩

theorem toTraceStep_spec (w : World) {S : Nat → Prop} (x : TraceStep) {cs : List Value} (hx : rd S w x cs) (hlen : Sz.szd x ≤ 1048576) :
    Ret Try.prog 64 #[.agg cs.toArray] w (fun _ => False) fun v w' => ∃ cs, v = .agg cs.toArray ∧ New w w' x cs := by
  refine enter Try.func64 rfl rfl rfl ?_
  have hK1 := hx
  obtain ⟨v1, rfl, hr1, hr2, hs1⟩ := hx
  obtain ⟨A1, c1, rfl, hc1, hm1⟩ := hs1.form
  rw [TraceStep_szd] at hlen
  refine CW.seq (CW.reg ?_)
  refine WL.box rfl rfl rfl rfl rfl fun b1 w1 hEb1 hbb1 hBb1 => ?_
  refine WL.alloc rfl rfl rfl ze95 fun b2 w2 hEb2 hbb2 hBb2 => ?_
  refine WL.nil ?_
  refine CW.seq (CW.reg ?_)
  refine WL.alloc rfl rfl rfl ze95 fun b3 w3 hEb3 hbb3 hBb3 => ?_
  refine WL.nil ?_
  refine CW.seq (CW.reg ?_)
  refine WL.ev rfl rfl (Ev.fa rfl fo89_0 rfl) (WL.ev rfl rfl (Ev.lda rfl ag87 sz87 rfl (Blk.part (hBb1.ext (hEb2.trans hEb3)) 0 2) rfl) ?_)
  refine WL.call rfl rfl rfl rfl rfl ok65 rfl (toInstance_spec _ x.At (rd_ext (TraceStep_rd_At hK1) ((hEb1.trans hEb2).trans hEb3)) (by (try simp only [szfold] at *); (try simp only [Instance_szd] at *); omega)) ?_
  rintro _ w4 hEw4 ⟨_, rfl, _, ⟨rfl, hr3, hr4, rfl⟩, hN1, hF1⟩
  refine WL.ev rfl rfl (Ev.fa rfl fo95_0 rfl) ?_
  refine WL.st rfl rfl rfl sz93 rfl rfl rfl rfl (all1 rfl (all1 rfl all0)) (hBb3.ext hEw4) (Nat.le_of_ble_eq_true rfl) fun w5 hCw5 hB_1 => ?_
  have hz1 := (hBb3.ext hEw4).lt
  have hB_2 := Blk.chg1 (hBb1.ext ((hEb2.trans hEb3).trans hEw4)) hCw5 (by have := hBb1.lt; have := hbb3; have := hEb2.size; omega)
  have hB_3 := Blk.chg1 (hBb2.ext (hEb3.trans hEw4)) hCw5 (by have := hBb2.lt; have := hbb3; omega)
  have hX1 := Ext.chg1 (((hEb1.trans hEb2).trans hEb3).trans hEw4) hCw5 (by have := hbb3; have := hEb1.size; have := hEb2.size; omega)
  refine WL.nil ?_
  refine CW.seq (CW.reg ?_)
  refine WL.ev rfl rfl (Ev.fa rfl fo89_1 rfl) (WL.ev rfl rfl (Ev.ld rfl ag23 rfl (hB_2.cell rfl)) ?_)
  refine WL.call rfl rfl rfl rfl rfl ok12 rfl (toInstanceS_spec _ x.Inputs (hs1.ext hX1) (by (try simp only [szfold] at *); (try simp only [Instance_szd] at *); omega)) ?_
  rintro v2 w6 hEw6 ⟨L2, hO2, hN2, hF2⟩
  obtain ⟨A2, c2, rfl, hc2, hm2⟩ := hO2.form
  refine WL.ev rfl rfl (Ev.fa rfl fo95_1 rfl) ?_
  refine WL.st rfl rfl rfl sz31 rfl rfl rfl rfl (all1 rfl all0) (hB_1.ext hEw6) (Nat.le_of_ble_eq_true rfl) fun w7 hCw7 hB_4 => ?_
  have hz2 := (hB_1.ext hEw6).lt
  have hB_5 := Blk.chg1 (hB_2.ext hEw6) hCw7 (by have := hBb1.lt; have := hbb3; have := hEb2.size; omega)
  have hB_6 := Blk.chg1 (hB_3.ext hEw6) hCw7 (by have := hBb2.lt; have := hbb3; omega)
  have hO_1 := ownS.chg1 hO2 hCw7 (fun q hq e => by subst e; have := hF2 _ hq; have := hBb3.lt; have := hEw4.size; have := hCw5.size; omega)
  have hX2 := Ext.chg1 (hX1.trans hEw6) hCw7 (by have := hbb3; have := hEb1.size; have := hEb2.size; omega)
  refine WL.nil ?_
  refine CW.seq (CW.reg ?_)
  refine WL.ev rfl rfl (Ev.lda rfl ag95 sz95 rfl (At.blk hB_4) rfl) ?_
  refine WL.st rfl rfl rfl sz95 rfl rfl rfl rfl (all1 rfl (all1 rfl (all1 rfl all0))) hB_6 (Nat.le_of_ble_eq_true rfl) fun w8 hCw8 hB_7 => ?_
  have hz3 := hB_6.lt
  have hB_8 := Blk.chg1 hB_5 hCw8 (by have := hBb1.lt; have := hbb2; omega)
  have hB_9 := Blk.chg1 hB_4 hCw8 (by have := hBb2.lt; have := hbb3; omega)
  have hO_2 := ownS.chg1 hO_1 hCw8 (fun q hq e => by subst e; have := hF2 _ hq; have := hBb2.lt; have := hEb3.size; have := hEw4.size; have := hCw5.size; omega)
  have hX3 := Ext.chg1 hX2 hCw8 (by have := hbb2; have := hEb1.size; omega)
  refine WL.nil ?_
  refine CW.ret ?_
  exact ⟨_, resC rfl ag95 sz95 rfl rfl (At.blk hB_7) rfl, hX3, _, rfl, _, ⟨_, _, rfl, by first | assumption | omega, by first | assumption | omega, rfl, hO_2⟩, hN2, fun q hq => by first | (have := hF2 _ hq; have := hEb1.size; have := hEb2.size; have := hEb3.size; have := hEw4.size; have := hCw5.size; omega)⟩

theorem toTraceStepS_spec (w : World) {S : Nat → Prop} (x : List TraceStep) {z : Value} (hx : rdS S w x z) (hlen : szL x ≤ 1048576) :
    Ret Try.prog 11 #[z] w (fun _ => False) fun v w' => NewS w w' x v := by
  refine enter Try.func11 rfl rfl rfl ?_
  obtain ⟨A1, c1, rfl, hc1, hm1⟩ := hx.form
  have hl1 : x.length ≤ 9223372036854775807 := Nat.le_trans hc1 hm1
  have hln := szL_length x
  refine CW.seq (CW.reg ?_)
  refine WL.ev rfl rfl (Ev.as rfl rfl) (WL.nil ?_)
  refine CW.seq (CW.reg ?_)
  refine WL.ev rfl rfl (Ev.mv rfl rfl) (WL.ev rfl rfl (Ev.lenS rfl el22 rfl) ?_)
  refine WL.mk rfl rfl rfl el29 sz95 by95 ze95 rfl rfl rfl (by omega) (by omega) fun g w1 hE1 hg hBg => ?_
  refine WL.ev rfl rfl (Ev.as rfl rfl) (WL.nil ?_)
  refine CW.seq (CW.seq (CW.reg ?_))
  refine WL.ev rfl rfl (Ev.as rfl rfl) (WL.nil ?_)
  refine CW.block (CW.loop (α := Nat × List Value × List Nat) (fun q => [(0, .slice A1 x.length c1), (3, .slice (some ⟨g, 0, none⟩) x.length x.length), (4, .int .i64 (q.1 : Int))]) (fun q wr => Ext w wr ∧ ToInv wr g 95 [.int .i64 0, .string ⟨#[]⟩, .slice none 0 0] x q.1 q.2.1 q.2.2) (fun q => x.length - q.1) (0, [], []) ⟨rfl, rfl, rfl, trivial⟩ ⟨hE1, ToInv.init hBg⟩ ?_)
  rintro ⟨k, cs, L⟩ σ wr1 ⟨hEwr1, hI⟩
  simp only at hI
  have hk := hI.le
  refine CW.seq (CW.seq (CW.reg ?_))
  refine WL.ev rfl rfl (Ev.mv rfl rfl) (WL.ev rfl rfl (Ev.mv rfl rfl) (WL.ev rfl rfl (Ev.lenS rfl el22 rfl) (WL.ev rfl rfl (Ev.bin rfl rfl rfl Bin.lss) (WL.nil ?_))))
  refine CW.condD rfl (fun h1 => ?_) (fun h1 => ?_)
  · skip
    refine CW.skip ?_
    refine CW.seq (CW.block (CW.reg ?_))
    refine WL.ev rfl rfl (Ev.mv rfl rfl) (WL.ev rfl rfl (Ev.mv rfl rfl) (WL.ev rfl rfl (Ev.mv rfl rfl) (WL.ev rfl rfl (Ev.mv rfl rfl) ?_)))
    obtain ⟨xe1, be1, oe1, cse1, hxe1, hAe1, hSe1, hre1, hAte1⟩ := rdS.el hx (i := k) (by omega)
    have hK1 := hre1
    obtain ⟨v1, rfl, hr1, hr2, hs1⟩ := hre1
    obtain ⟨A2, c2, rfl, hc2, hm2⟩ := hs1.form
    refine WL.ev rfl rfl (Ev.ixA rfl el22 sz89 rfl hAe1 rfl (by omega)) (WL.ev rfl rfl (Ev.lda rfl ag89 sz89 rfl (hAte1.ext hEwr1) rfl) ?_)
    refine WL.call rfl rfl rfl rfl rfl ok64 rfl (toTraceStep_spec _ xe1 (rd_ext hK1 hEwr1) (by have := szL_get hxe1; (try simp only [szfold] at *); omega)) ?_
    rintro _ w1 hEw1 ⟨cs1, rfl, L1, hO1, hN1, hF1⟩
    refine WL.ev rfl rfl (Ev.ix rfl el29 sz95 rfl rfl (by omega)) ?_
    refine WL.stTo rfl rfl rfl sz95 rfl rfl rfl (hI.ext hEw1) hxe1 hO1 hN1 (hI.fresh hF1) rfl fun w2 hCw2 hI2 => ?_
    have hX1 := Ext.chg1 (hEwr1.trans hEw1) hCw2 (by have := hE1.size; omega)
    refine WL.nil ?_
    refine CW.reg ?_
    refine WL.ev rfl rfl (Ev.mv rfl rfl) (WL.ev rfl rfl (Ev.bin rfl rfl rfl (Bin.add (by omega))) (WL.ev rfl rfl (Ev.as rfl rfl) (WL.nil ?_)))
    exact ⟨(k + 1, _, _), ⟨rfl, rfl, rfl, trivial⟩, ⟨hX1, hI2⟩, by simp only; omega⟩
  · skip
    refine CW.exit ?_
    refine CW.seq (CW.reg ?_)
    refine WL.ev rfl rfl (Ev.mv rfl rfl) (WL.ev rfl rfl (Ev.as rfl rfl) (WL.nil ?_))
    refine CW.ret ?_
    exact ⟨_, res1 rfl rfl rfl, hEwr1, hI.new (by omega) (by unfold maxLen; omega) hg⟩

theorem sAssignSlots_spec (w : World) {S1 : Nat → Prop} {S2 : Nat → Prop} (t : List TraceStep) {zt : Value} (ht : rdS S1 w t zt) (bt : szL t ≤ 1048576) (k : List Instance) {zk : Value} (hk : rdS S2 w k zk) (bk : szL k ≤ 1048576) :
    Ret Try.prog 10 #[zt, zk] w (fun _ => False) fun v w' => ∃ v0, v = .tuple #[v0, .int .i64 (((sAssignSlots_m t k).getD ([], 0)).2)] ∧ NewS w w' (((sAssignSlots_m t k).getD ([], 0)).1) v0 := by
  have nt := szL_length t
  obtain ⟨x, h1, h2, _⟩ := assign_same t k (by omega)
  have hx : (sAssignSlots_m t k).getD ([], 0) = x := by rw [h1]; rfl
  rw [hx]
  exact (sAssignSlots_ok h1 (F0 := fun _ => True) (ht.mono fun _ _ => trivial) (hk.mono fun _ _ => trivial)).mono fun v w' _ ⟨A, n, c, hv, hI, H⟩ => ⟨_, hv, NewS.of H⟩

theorem iAssignSlots_spec (w : World) {S1 : Nat → Prop} {S2 : Nat → Prop} (t : List TraceStep) {zt : Value} (ht : rdS S1 w t zt) (bt : szL t ≤ 1048576) (k : List Instance) {zk : Value} (hk : rdS S2 w k zk) (bk : szL k ≤ 1048576) :
    Ret Try.prog 13 #[zt, zk] w (fun _ => False) fun v w' => ∃ v0, v = .tuple #[v0, .int .i64 (((sAssignSlots_m t k).getD ([], 0)).2)] ∧ NewS w w' (((sAssignSlots_m t k).getD ([], 0)).1) v0 := by
  have nt := szL_length t
  obtain ⟨x, h1, h2, _⟩ := assign_same t k (by omega)
  have hx : (sAssignSlots_m t k).getD ([], 0) = x := by rw [h1]; rfl
  rw [hx]
  exact (iAssignSlots_ok h2 (F0 := fun _ => True) (ht.mono fun _ _ => trivial) (hk.mono fun _ _ => trivial)).mono fun v w' _ ⟨A, n, c, hv, hI, H⟩ => ⟨_, hv, NewS.of H⟩

theorem eqIntS_spec (w : World) {S S2 : Nat → Prop} (x y : List Int) {z z2 : Value} (hx : rdS S w x z) (hy : rdS S2 w y z2) :
    Ret Try.prog 14 #[z, z2] w (fun _ => False) fun v _ => v = .bool (decide (x = y)) := by
  refine enter Try.func14 rfl rfl rfl ?_
  obtain ⟨A1, c1, rfl, hc1, hm1⟩ := hx.form
  have hl1 : x.length ≤ 9223372036854775807 := Nat.le_trans hc1 hm1
  obtain ⟨A2, c2, rfl, hc2, hm2⟩ := hy.form
  have hl2 : y.length ≤ 9223372036854775807 := Nat.le_trans hc2 hm2
  refine CW.seq (CW.reg ?_)
  refine WL.ev rfl rfl (Ev.as rfl rfl) (WL.nil ?_)
  refine CW.seq (CW.seq (CW.reg ?_))
  refine WL.ev rfl rfl (Ev.mv rfl rfl) (WL.ev rfl rfl (Ev.lenS rfl el26 rfl) (WL.ev rfl rfl (Ev.mv rfl rfl) (WL.ev rfl rfl (Ev.lenS rfl el26 rfl) (WL.ev rfl rfl (Ev.bin rfl rfl rfl Bin.neq) (WL.nil ?_)))))
  refine CW.condN rfl (fun h1 => ?_) (fun h1 => ?_)
  · skip
    refine CW.seq (CW.reg ?_)
    refine WL.ev rfl rfl (Ev.as rfl rfl) (WL.nil ?_)
    refine CW.ret ?_
    have e : x ≠ y := fun e => h1 (by rw [e])
    exact ⟨_, res1 rfl rfl rfl, (Ext.refl _), vB (by simp [e])⟩
  · skip
    refine CW.skip ?_
    refine CW.seq (CW.seq (CW.reg ?_))
    refine WL.ev rfl rfl (Ev.as rfl rfl) (WL.nil ?_)
    refine CW.block (CW.loop (α := Nat) (fun q => [(0, .slice A1 x.length c1), (1, .slice A2 y.length c2), (5, .int .i64 (q : Int))]) (fun q wr => Ext w wr ∧ q ≤ x.length ∧ x.take q = y.take q) (fun q => x.length - q) 0 ⟨rfl, rfl, rfl, trivial⟩ ⟨Ext.refl _, by omega, rfl⟩ ?_)
    rintro k σ wr1 ⟨hEwr1, hk, hpre⟩
    refine CW.seq (CW.seq (CW.reg ?_))
    refine WL.ev rfl rfl (Ev.mv rfl rfl) (WL.ev rfl rfl (Ev.mv rfl rfl) (WL.ev rfl rfl (Ev.lenS rfl el26 rfl) (WL.ev rfl rfl (Ev.bin rfl rfl rfl Bin.lss) (WL.nil ?_))))
    refine CW.condD rfl (fun h2 => ?_) (fun h2 => ?_)
    · skip
      refine CW.skip ?_
      refine CW.seq (CW.block (CW.seq (CW.quiet hmix (by kernel_rfl) ?_)))
      refine QL.ev rfl rfl (fun _ _ => Ev.mv rfl rfl) (QL.ev rfl rfl (fun _ _ => Ev.mv rfl rfl) ?_)
      obtain ⟨xe1, be1, oe1, cse1, hxe1, hAe1, hSe1, hre1, hAte1⟩ := rdS.el hx (i := k) (by omega)
      have hK1 := hre1
      obtain ⟨rfl, hr1⟩ := hre1
      refine QL.ev rfl rfl (fun _ _ => Ev.ixA rfl el26 sz3 rfl hAe1 rfl (by omega)) (QL.ev rfl rfl (fun _ hq => Ev.ld rfl ag3 rfl ((hAte1.ext (hEwr1.trans hq)).cell0 rfl)) (QL.ev rfl rfl (fun _ _ => Ev.mv rfl rfl) (QL.ev rfl rfl (fun _ _ => Ev.mv rfl rfl) ?_)))
      obtain ⟨xe2, be2, oe2, cse2, hxe2, hAe2, hSe2, hre2, hAte2⟩ := rdS.el hy (i := k) (by omega)
      have hK2 := hre2
      obtain ⟨rfl, hr2⟩ := hre2
      refine QL.ev rfl rfl (fun _ _ => Ev.ixA rfl el26 sz3 rfl hAe2 rfl (by omega)) (QL.ev rfl rfl (fun _ hq => Ev.ld rfl ag3 rfl ((hAte2.ext (hEwr1.trans hq)).cell0 rfl)) (QL.ev rfl rfl (fun _ _ => Ev.bin rfl rfl rfl Bin.neq) (QL.nil (fun w1 hEw1 => ?_))))
      refine CW.condN rfl (fun h3 => ?_) (fun h3 => ?_)
      · skip
        refine CW.seq (CW.reg ?_)
        refine WL.ev rfl rfl (Ev.as rfl rfl) (WL.nil ?_)
        refine CW.ret ?_
        have e : x ≠ y := ne_of_at hxe1 hxe2 h3
        exact ⟨_, res1 rfl rfl rfl, (hEwr1.trans hEw1), vB (by simp [e])⟩
      · skip
        refine CW.skip ?_
        refine CW.reg ?_
        refine WL.ev rfl rfl (Ev.mv rfl rfl) (WL.ev rfl rfl (Ev.bin rfl rfl rfl (Bin.add (by omega))) (WL.ev rfl rfl (Ev.as rfl rfl) (WL.nil ?_)))
        exact ⟨k + 1, ⟨rfl, rfl, rfl, trivial⟩, ⟨(hEwr1.trans hEw1), by omega, take_succ_eq hpre hxe1 hxe2 h3⟩, by omega⟩
    · skip
      refine CW.exit ?_
      refine CW.seq (CW.reg ?_)
      refine WL.ev rfl rfl (Ev.as rfl rfl) (WL.nil ?_)
      refine CW.ret ?_
      have e : x = y := eq_of_take (by omega) (by omega) hpre
      exact ⟨_, res1 rfl rfl rfl, hEwr1, vB (by simp [e])⟩

theorem eqInstance_spec (w : World) {S S2 : Nat → Prop} (x y : Instance) {cs ds : List Value} (hx : rd S w x cs) (hy : rd S2 w y ds) :
    Ret Try.prog 71 #[.agg cs.toArray, .agg ds.toArray] w (fun _ => False) fun v _ => v = .bool (decide (x = y)) := by
  refine enter Try.func71 rfl rfl rfl ?_
  have hK1 := hx
  obtain ⟨rfl, hr1, hr2⟩ := hx
  have hK2 := hy
  obtain ⟨rfl, hr3, hr4⟩ := hy
  refine CW.seq (CW.reg ?_)
  refine WL.box rfl rfl rfl rfl rfl fun b1 w1 hEb1 hbb1 hBb1 => ?_
  refine WL.box rfl rfl rfl rfl rfl fun b2 w2 hEb2 hbb2 hBb2 => ?_
  refine WL.ev rfl rfl (Ev.as rfl rfl) (WL.nil ?_)
  refine CW.seq (CW.seq (CW.reg ?_))
  refine WL.ev rfl rfl (Ev.fa rfl fo93_0 rfl) (WL.ev rfl rfl (Ev.ld rfl ag3 rfl ((hBb1.ext hEb2).cell rfl)) (WL.ev rfl rfl (Ev.fa rfl fo93_0 rfl) (WL.ev rfl rfl (Ev.ld rfl ag3 rfl (hBb2.cell rfl)) (WL.ev rfl rfl (Ev.bin rfl rfl rfl Bin.neq) (WL.nil ?_)))))
  refine CW.condN rfl (fun h1 => ?_) (fun h1 => ?_)
  · skip
    refine CW.seq (CW.reg ?_)
    refine WL.ev rfl rfl (Ev.as rfl rfl) (WL.nil ?_)
    refine CW.ret ?_
    have e : x ≠ y := by rintro rfl; exact h1 rfl
    exact ⟨_, res1 rfl rfl rfl, (hEb1.trans hEb2), vB (by simp [e])⟩
  · skip
    refine CW.skip ?_
    refine CW.seq (CW.seq (CW.reg ?_))
    refine WL.ev rfl rfl (Ev.fa rfl fo93_1 rfl) (WL.ev rfl rfl (Ev.ld rfl ag9 rfl ((hBb1.ext hEb2).cell rfl)) (WL.ev rfl rfl (Ev.fa rfl fo93_1 rfl) (WL.ev rfl rfl (Ev.ld rfl ag9 rfl (hBb2.cell rfl)) (WL.ev rfl rfl (Ev.bin rfl rfl rfl Bin.neqS) (WL.nil ?_)))))
    refine CW.condN rfl (fun h2 => ?_) (fun h2 => ?_)
    · skip
      refine CW.seq (CW.reg ?_)
      refine WL.ev rfl rfl (Ev.as rfl rfl) (WL.nil ?_)
      refine CW.ret ?_
      have e : x ≠ y := by rintro rfl; exact h2 rfl
      exact ⟨_, res1 rfl rfl rfl, (hEb1.trans hEb2), vB (by simp [e])⟩
    · skip
      refine CW.skip ?_
      refine CW.seq (CW.reg ?_)
      refine WL.ev rfl rfl (Ev.as rfl rfl) (WL.nil ?_)
      refine CW.ret ?_
      have e : x = y := by cases x; cases y; simp_all
      exact ⟨_, res1 rfl rfl rfl, (hEb1.trans hEb2), vB (by simp [e])⟩

theorem eqInstanceS_spec (w : World) {S S2 : Nat → Prop} (x y : List Instance) {z z2 : Value} (hx : rdS S w x z) (hy : rdS S2 w y z2) :
    Ret Try.prog 16 #[z, z2] w (fun _ => False) fun v _ => v = .bool (decide (x = y)) := by
  refine enter Try.func16 rfl rfl rfl ?_
  obtain ⟨A1, c1, rfl, hc1, hm1⟩ := hx.form
  have hl1 : x.length ≤ 9223372036854775807 := Nat.le_trans hc1 hm1
  obtain ⟨A2, c2, rfl, hc2, hm2⟩ := hy.form
  have hl2 : y.length ≤ 9223372036854775807 := Nat.le_trans hc2 hm2
  refine CW.seq (CW.reg ?_)
  refine WL.ev rfl rfl (Ev.as rfl rfl) (WL.nil ?_)
  refine CW.seq (CW.seq (CW.reg ?_))
  refine WL.ev rfl rfl (Ev.mv rfl rfl) (WL.ev rfl rfl (Ev.lenS rfl el31 rfl) (WL.ev rfl rfl (Ev.mv rfl rfl) (WL.ev rfl rfl (Ev.lenS rfl el31 rfl) (WL.ev rfl rfl (Ev.bin rfl rfl rfl Bin.neq) (WL.nil ?_)))))
  refine CW.condN rfl (fun h1 => ?_) (fun h1 => ?_)
  · skip
    refine CW.seq (CW.reg ?_)
    refine WL.ev rfl rfl (Ev.as rfl rfl) (WL.nil ?_)
    refine CW.ret ?_
    have e : x ≠ y := fun e => h1 (by rw [e])
    exact ⟨_, res1 rfl rfl rfl, (Ext.refl _), vB (by simp [e])⟩
  · skip
    refine CW.skip ?_
    refine CW.seq (CW.seq (CW.reg ?_))
    refine WL.ev rfl rfl (Ev.as rfl rfl) (WL.nil ?_)
    refine CW.block (CW.loop (α := Nat) (fun q => [(0, .slice A1 x.length c1), (1, .slice A2 y.length c2), (5, .int .i64 (q : Int))]) (fun q wr => Ext w wr ∧ q ≤ x.length ∧ x.take q = y.take q) (fun q => x.length - q) 0 ⟨rfl, rfl, rfl, trivial⟩ ⟨Ext.refl _, by omega, rfl⟩ ?_)
    rintro k σ wr1 ⟨hEwr1, hk, hpre⟩
    refine CW.seq (CW.seq (CW.reg ?_))
    refine WL.ev rfl rfl (Ev.mv rfl rfl) (WL.ev rfl rfl (Ev.mv rfl rfl) (WL.ev rfl rfl (Ev.lenS rfl el31 rfl) (WL.ev rfl rfl (Ev.bin rfl rfl rfl Bin.lss) (WL.nil ?_))))
    refine CW.condD rfl (fun h2 => ?_) (fun h2 => ?_)
    · skip
      refine CW.skip ?_
      refine CW.seq (CW.block (CW.seq (CW.quiet hmix (by kernel_rfl) ?_)))
      refine QL.ev rfl rfl (fun _ _ => Ev.mv rfl rfl) (QL.ev rfl rfl (fun _ _ => Ev.mv rfl rfl) ?_)
      obtain ⟨xe1, be1, oe1, cse1, hxe1, hAe1, hSe1, hre1, hAte1⟩ := rdS.el hx (i := k) (by omega)
      have hK1 := hre1
      obtain ⟨rfl, hr1, hr2⟩ := hre1
      refine QL.ev rfl rfl (fun _ _ => Ev.ixA rfl el31 sz93 rfl hAe1 rfl (by omega)) (QL.ev rfl rfl (fun _ hq => Ev.lda rfl ag93 sz93 rfl (hAte1.ext (hEwr1.trans hq)) rfl) (QL.ev rfl rfl (fun _ _ => Ev.mv rfl rfl) (QL.ev rfl rfl (fun _ _ => Ev.mv rfl rfl) ?_)))
      obtain ⟨xe2, be2, oe2, cse2, hxe2, hAe2, hSe2, hre2, hAte2⟩ := rdS.el hy (i := k) (by omega)
      have hK2 := hre2
      obtain ⟨rfl, hr3, hr4⟩ := hre2
      refine QL.ev rfl rfl (fun _ _ => Ev.ixA rfl el31 sz93 rfl hAe2 rfl (by omega)) (QL.ev rfl rfl (fun _ hq => Ev.lda rfl ag93 sz93 rfl (hAte2.ext (hEwr1.trans hq)) rfl) (QL.call rfl rfl rfl rfl rfl ok71 rfl (fun _ hq => eqInstance_spec _ xe1 xe2 (rd_ext hK1 (hEwr1.trans hq)) (rd_ext hK2 (hEwr1.trans hq))) (QL.ev rfl rfl (fun _ _ => Ev.not rfl rfl) (QL.nil (fun w1 hEw1 => ?_)))))
      refine CW.condN rfl (fun h3 => ?_) (fun h3 => ?_)
      · skip
        refine CW.seq (CW.reg ?_)
        refine WL.ev rfl rfl (Ev.as rfl rfl) (WL.nil ?_)
        refine CW.ret ?_
        have e : x ≠ y := ne_of_at hxe1 hxe2 h3
        exact ⟨_, res1 rfl rfl rfl, (hEwr1.trans hEw1), vB (by simp [e])⟩
      · skip
        refine CW.skip ?_
        refine CW.reg ?_
        refine WL.ev rfl rfl (Ev.mv rfl rfl) (WL.ev rfl rfl (Ev.bin rfl rfl rfl (Bin.add (by omega))) (WL.ev rfl rfl (Ev.as rfl rfl) (WL.nil ?_)))
        exact ⟨k + 1, ⟨rfl, rfl, rfl, trivial⟩, ⟨(hEwr1.trans hEw1), by omega, take_succ_eq hpre hxe1 hxe2 h3⟩, by omega⟩
    · skip
      refine CW.exit ?_
      refine CW.seq (CW.reg ?_)
      refine WL.ev rfl rfl (Ev.as rfl rfl) (WL.nil ?_)
      refine CW.ret ?_
      have e : x = y := eq_of_take (by omega) (by omega) hpre
      exact ⟨_, res1 rfl rfl rfl, hEwr1, vB (by simp [e])⟩

theorem eqTraceStep_spec (w : World) {S S2 : Nat → Prop} (x y : TraceStep) {cs ds : List Value} (hx : rd S w x cs) (hy : rd S2 w y ds) :
    Ret Try.prog 70 #[.agg cs.toArray, .agg ds.toArray] w (fun _ => False) fun v _ => v = .bool (decide (x = y)) := by
  refine enter Try.func70 rfl rfl rfl ?_
  have hK1 := hx
  obtain ⟨v1, rfl, hr1, hr2, hs1⟩ := hx
  obtain ⟨A1, c1, rfl, hc1, hm1⟩ := hs1.form
  have hK2 := hy
  obtain ⟨v2, rfl, hr3, hr4, hs2⟩ := hy
  obtain ⟨A2, c2, rfl, hc2, hm2⟩ := hs2.form
  refine CW.seq (CW.reg ?_)
  refine WL.box rfl rfl rfl rfl rfl fun b1 w1 hEb1 hbb1 hBb1 => ?_
  refine WL.box rfl rfl rfl rfl rfl fun b2 w2 hEb2 hbb2 hBb2 => ?_
  refine WL.ev rfl rfl (Ev.as rfl rfl) (WL.nil ?_)
  refine CW.seq (CW.seq (CW.reg ?_))
  refine WL.ev rfl rfl (Ev.fa rfl fo95_0 rfl) (WL.ev rfl rfl (Ev.lda rfl ag93 sz93 rfl (Blk.part (hBb1.ext hEb2) 0 2) rfl) (WL.ev rfl rfl (Ev.fa rfl fo95_0 rfl) (WL.ev rfl rfl (Ev.lda rfl ag93 sz93 rfl (Blk.part hBb2 0 2) rfl) ?_)))
  refine WL.call rfl rfl rfl rfl rfl ok71 rfl (eqInstance_spec _ x.At y.At (rd_ext (TraceStep_rd_At hK1) (hEb1.trans hEb2)) (rd_ext (TraceStep_rd_At hK2) (hEb1.trans hEb2))) ?_
  rintro _ w3 hEw3 rfl
  refine WL.ev rfl rfl (Ev.not rfl rfl) (WL.nil ?_)
  refine CW.condN rfl (fun h1 => ?_) (fun h1 => ?_)
  · skip
    refine CW.seq (CW.reg ?_)
    refine WL.ev rfl rfl (Ev.as rfl rfl) (WL.nil ?_)
    refine CW.ret ?_
    have e : x ≠ y := by rintro rfl; exact h1 rfl
    exact ⟨_, res1 rfl rfl rfl, ((hEb1.trans hEb2).trans hEw3), vB (by simp [e])⟩
  · skip
    refine CW.skip ?_
    refine CW.seq (CW.seq (CW.reg ?_))
    refine WL.ev rfl rfl (Ev.fa rfl fo95_1 rfl) (WL.ev rfl rfl (Ev.ld rfl ag31 rfl ((hBb1.ext (hEb2.trans hEw3)).cell rfl)) (WL.ev rfl rfl (Ev.fa rfl fo95_1 rfl) (WL.ev rfl rfl (Ev.ld rfl ag31 rfl ((hBb2.ext hEw3).cell rfl)) ?_)))
    refine WL.call rfl rfl rfl rfl rfl ok16 rfl (eqInstanceS_spec _ x.Inputs y.Inputs (hs1.ext ((hEb1.trans hEb2).trans hEw3)) (hs2.ext ((hEb1.trans hEb2).trans hEw3))) ?_
    rintro _ w4 hEw4 rfl
    refine WL.ev rfl rfl (Ev.not rfl rfl) (WL.nil ?_)
    refine CW.condN rfl (fun h2 => ?_) (fun h2 => ?_)
    · skip
      refine CW.seq (CW.reg ?_)
      refine WL.ev rfl rfl (Ev.as rfl rfl) (WL.nil ?_)
      refine CW.ret ?_
      have e : x ≠ y := by rintro rfl; exact h2 rfl
      exact ⟨_, res1 rfl rfl rfl, (((hEb1.trans hEb2).trans hEw3).trans hEw4), vB (by simp [e])⟩
    · skip
      refine CW.skip ?_
      refine CW.seq (CW.reg ?_)
      refine WL.ev rfl rfl (Ev.as rfl rfl) (WL.nil ?_)
      refine CW.ret ?_
      have e : x = y := by cases x; cases y; simp_all
      exact ⟨_, res1 rfl rfl rfl, (((hEb1.trans hEb2).trans hEw3).trans hEw4), vB (by simp [e])⟩

theorem eqTraceStepS_spec (w : World) {S S2 : Nat → Prop} (x y : List TraceStep) {z z2 : Value} (hx : rdS S w x z) (hy : rdS S2 w y z2) :
    Ret Try.prog 15 #[z, z2] w (fun _ => False) fun v _ => v = .bool (decide (x = y)) := by
  refine enter Try.func15 rfl rfl rfl ?_
  obtain ⟨A1, c1, rfl, hc1, hm1⟩ := hx.form
  have hl1 : x.length ≤ 9223372036854775807 := Nat.le_trans hc1 hm1
  obtain ⟨A2, c2, rfl, hc2, hm2⟩ := hy.form
  have hl2 : y.length ≤ 9223372036854775807 := Nat.le_trans hc2 hm2
  refine CW.seq (CW.reg ?_)
  refine WL.ev rfl rfl (Ev.as rfl rfl) (WL.nil ?_)
  refine CW.seq (CW.seq (CW.reg ?_))
  refine WL.ev rfl rfl (Ev.mv rfl rfl) (WL.ev rfl rfl (Ev.lenS rfl el29 rfl) (WL.ev rfl rfl (Ev.mv rfl rfl) (WL.ev rfl rfl (Ev.lenS rfl el29 rfl) (WL.ev rfl rfl (Ev.bin rfl rfl rfl Bin.neq) (WL.nil ?_)))))
  refine CW.condN rfl (fun h1 => ?_) (fun h1 => ?_)
  · skip
    refine CW.seq (CW.reg ?_)
    refine WL.ev rfl rfl (Ev.as rfl rfl) (WL.nil ?_)
    refine CW.ret ?_
    have e : x ≠ y := fun e => h1 (by rw [e])
    exact ⟨_, res1 rfl rfl rfl, (Ext.refl _), vB (by simp [e])⟩
  · skip
    refine CW.skip ?_
    refine CW.seq (CW.seq (CW.reg ?_))
    refine WL.ev rfl rfl (Ev.as rfl rfl) (WL.nil ?_)
    refine CW.block (CW.loop (α := Nat) (fun q => [(0, .slice A1 x.length c1), (1, .slice A2 y.length c2), (5, .int .i64 (q : Int))]) (fun q wr => Ext w wr ∧ q ≤ x.length ∧ x.take q = y.take q) (fun q => x.length - q) 0 ⟨rfl, rfl, rfl, trivial⟩ ⟨Ext.refl _, by omega, rfl⟩ ?_)
    rintro k σ wr1 ⟨hEwr1, hk, hpre⟩
    refine CW.seq (CW.seq (CW.reg ?_))
    refine WL.ev rfl rfl (Ev.mv rfl rfl) (WL.ev rfl rfl (Ev.mv rfl rfl) (WL.ev rfl rfl (Ev.lenS rfl el29 rfl) (WL.ev rfl rfl (Ev.bin rfl rfl rfl Bin.lss) (WL.nil ?_))))
    refine CW.condD rfl (fun h2 => ?_) (fun h2 => ?_)
    · skip
      refine CW.skip ?_
      refine CW.seq (CW.block (CW.seq (CW.quiet hmix (by kernel_rfl) ?_)))
      refine QL.ev rfl rfl (fun _ _ => Ev.mv rfl rfl) (QL.ev rfl rfl (fun _ _ => Ev.mv rfl rfl) ?_)
      obtain ⟨xe1, be1, oe1, cse1, hxe1, hAe1, hSe1, hre1, hAte1⟩ := rdS.el hx (i := k) (by omega)
      have hK1 := hre1
      obtain ⟨v1, rfl, hr1, hr2, hs1⟩ := hre1
      obtain ⟨A3, c3, rfl, hc3, hm3⟩ := hs1.form
      refine QL.ev rfl rfl (fun _ _ => Ev.ixA rfl el29 sz95 rfl hAe1 rfl (by omega)) (QL.ev rfl rfl (fun _ hq => Ev.lda rfl ag95 sz95 rfl (hAte1.ext (hEwr1.trans hq)) rfl) (QL.ev rfl rfl (fun _ _ => Ev.mv rfl rfl) (QL.ev rfl rfl (fun _ _ => Ev.mv rfl rfl) ?_)))
      obtain ⟨xe2, be2, oe2, cse2, hxe2, hAe2, hSe2, hre2, hAte2⟩ := rdS.el hy (i := k) (by omega)
      have hK2 := hre2
      obtain ⟨v2, rfl, hr3, hr4, hs2⟩ := hre2
      obtain ⟨A4, c4, rfl, hc4, hm4⟩ := hs2.form
      refine QL.ev rfl rfl (fun _ _ => Ev.ixA rfl el29 sz95 rfl hAe2 rfl (by omega)) (QL.ev rfl rfl (fun _ hq => Ev.lda rfl ag95 sz95 rfl (hAte2.ext (hEwr1.trans hq)) rfl) (QL.call rfl rfl rfl rfl rfl ok70 rfl (fun _ hq => eqTraceStep_spec _ xe1 xe2 (rd_ext hK1 (hEwr1.trans hq)) (rd_ext hK2 (hEwr1.trans hq))) (QL.ev rfl rfl (fun _ _ => Ev.not rfl rfl) (QL.nil (fun w1 hEw1 => ?_)))))
      refine CW.condN rfl (fun h3 => ?_) (fun h3 => ?_)
      · skip
        refine CW.seq (CW.reg ?_)
        refine WL.ev rfl rfl (Ev.as rfl rfl) (WL.nil ?_)
        refine CW.ret ?_
        have e : x ≠ y := ne_of_at hxe1 hxe2 h3
        exact ⟨_, res1 rfl rfl rfl, (hEwr1.trans hEw1), vB (by simp [e])⟩
      · skip
        refine CW.skip ?_
        refine CW.reg ?_
        refine WL.ev rfl rfl (Ev.mv rfl rfl) (WL.ev rfl rfl (Ev.bin rfl rfl rfl (Bin.add (by omega))) (WL.ev rfl rfl (Ev.as rfl rfl) (WL.nil ?_)))
        exact ⟨k + 1, ⟨rfl, rfl, rfl, trivial⟩, ⟨(hEwr1.trans hEw1), by omega, take_succ_eq hpre hxe1 hxe2 h3⟩, by omega⟩
    · skip
      refine CW.exit ?_
      refine CW.seq (CW.reg ?_)
      refine WL.ev rfl rfl (Ev.as rfl rfl) (WL.nil ?_)
      refine CW.ret ?_
      have e : x = y := eq_of_take (by omega) (by omega) hpre
      exact ⟨_, res1 rfl rfl rfl, hEwr1, vB (by simp [e])⟩

theorem markText_spec (w : World) (k : Int) (hk0 : 0 ≤ k) (hk1 : k ≤ 4611686018427387904) :
    Ret Try.prog 72 #[.int .i64 k] w (fun _ => False) fun v _ => v = .string (mtext k) := by
  refine enter Try.func72 rfl rfl rfl ?_
  refine CW.seq (CW.reg ?_)
  refine WL.ev rfl rfl (Ev.as rfl rfl) (WL.nil ?_)
  refine CW.seq (CW.seq (CW.reg ?_))
  refine WL.ev rfl rfl (Ev.mv rfl rfl) (WL.ev rfl rfl (Ev.bin rfl rfl rfl Bin.leq) (WL.nil ?_))
  refine CW.condD rfl (fun h1 => ?_) (fun h1 => ?_)
  · skip
    refine CW.seq (CW.reg ?_)
    refine WL.ev rfl rfl (Ev.as rfl rfl) (WL.nil ?_)
    refine CW.ret ?_
    exact ⟨_, res1 rfl rfl rfl, (Ext.refl _), vS (by simp only [mtext]; rw [if_pos (by omega)])⟩
  · skip
    refine CW.skip ?_
    refine CW.seq (CW.reg ?_)
    refine WL.ev rfl rfl (Ev.as rfl rfl) (WL.nil ?_)
    refine CW.seq (CW.block (CW.loop (α := Nat × ByteArray) (fun q => [(0, .int .i64 (q.1 : Int)), (3, .string q.2)]) (fun q wr => Ext w wr ∧ q.1 ≤ k.toNat ∧ digs q.1 q.1 q.2 = digs k.toNat k.toNat ⟨#[]⟩ ∧ q.2.size + q.1 ≤ k.toNat) (fun q => q.1) (k.toNat, ⟨#[]⟩) ⟨by rw [Int.toNat_of_nonneg (by omega)]; rfl, rfl, trivial⟩ ⟨Ext.refl _, Nat.le_refl _, rfl, by show 0 + _ ≤ _; omega⟩ ?_))
    rintro ⟨m, s⟩ σ wr1 ⟨hEwr1, hm, hds, hsz⟩
    simp only at hm hds hsz
    have hdg : UInt8.ofNat (IntKind.u8.wrap (48 + ((m % 10 : Nat) : Int))).toNat = (48 + m % 10).toUInt8 := digit_byte m
    have hadd := add_bound (b := (48 + m % 10).toUInt8) m s hsz hk1
    refine CW.seq (CW.seq (CW.reg ?_))
    refine WL.ev rfl rfl (Ev.mv rfl rfl) (WL.ev rfl rfl (Ev.bin rfl rfl rfl Bin.gtr) (WL.nil ?_))
    refine CW.condD rfl (fun h2 => ?_) (fun h2 => ?_)
    · skip
      refine CW.skip ?_
      refine CW.block (CW.seq (CW.reg ?_))
      refine WL.ev rfl rfl (Ev.mv rfl rfl) (WL.ev rfl rfl (Ev.bin rfl rfl rfl (Bin.rem (x := m) (y := 10) (by omega))) (WL.ev rfl rfl (Ev.bin rfl rfl rfl (Bin.add (by omega))) (WL.ev rfl rfl (Ev.conv rfl Try.underlying3 it5 rfl) ?_)))
      refine WL.lit1 rfl rfl rfl el59 sz5 ze5 rfl rfl rfl rfl rfl rfl fun bl w1 hE1 hbl hBl => ?_
      refine WL.ev rfl rfl (Ev.convB1 rfl el59 it5 Try.underlying9 rfl hBl (Nat.le_refl _)) (WL.ev rfl rfl (Ev.mv rfl rfl) (WL.ev rfl rfl (Ev.bin rfl rfl rfl (Bin.addS hadd)) (WL.ev rfl rfl (Ev.as rfl rfl) (WL.nil ?_))))
      refine CW.reg ?_
      refine WL.ev rfl rfl (Ev.mv rfl rfl) (WL.ev rfl rfl (Ev.bin rfl rfl rfl (Bin.quo (x := m) (y := 10) (by omega) (by omega))) (WL.ev rfl rfl (Ev.as rfl rfl) (WL.nil ?_)))
      exact ⟨(m / 10, ⟨#[(48 + m % 10).toUInt8]⟩ ++ s), ⟨rfl, by rw [hdg]; rfl, trivial⟩, ⟨(hEwr1.trans hE1), by simp only; omega, ((digs_fuel _ _ _ _ (Nat.le_refl _) (by omega)).trans (digs_step (m := m) (s := s) (by omega)).symm).trans hds, by simp only; have := size_one_append (48 + m % 10).toUInt8 s; omega⟩, by simp only; omega⟩
    · skip
      refine CW.exit ?_
      refine CW.seq (CW.reg ?_)
      refine WL.ev rfl rfl (Ev.mv rfl rfl) (WL.ev rfl rfl (Ev.bin rfl rfl rfl (Bin.addS hadd)) (WL.ev rfl rfl (Ev.as rfl rfl) (WL.nil ?_)))
      refine CW.ret ?_
      have hm0 : m = 0 := by omega
      subst hm0
      exact ⟨_, res1 rfl rfl rfl, hEwr1, vS (by simp only [mtext]; rw [if_neg (by omega), ← hds]; simp [digs])⟩

theorem markInstanceS_spec (w : World) (L : List Nat) (x : List Instance) {z : Value} (hx : ownS L w x z) (hN : L.Nodup) (k0 : Int) (hk0 : 0 ≤ k0) (hk1 : k0 + cntL x ≤ 4611686018427387904) :
    Ret Try.prog 18 #[z, .int .i64 k0] w (· ∈ L) fun v w' => v = .int .i64 (k0 + cntL x) ∧ ownS L w' (mkL x k0) z := by
  refine enter Try.func18 rfl rfl rfl ?_
  obtain ⟨A1, c1, rfl, hc1, hm1⟩ := hx.form
  have hl1 : x.length ≤ 9223372036854775807 := Nat.le_trans hc1 hm1
  refine CW.seq (CW.reg ?_)
  refine WL.ev rfl rfl (Ev.as rfl rfl) (WL.nil ?_)
  refine CW.seq (CW.seq (CW.reg ?_))
  refine WL.ev rfl rfl (Ev.as rfl rfl) (WL.nil ?_)
  refine CW.block (CW.loop (α := Nat × Int) (fun q => [(0, .slice A1 x.length c1), (1, .int .i64 q.2), (5, .int .i64 (q.1 : Int))]) (fun q wr => Chg (· ∈ L) w wr ∧ q.1 ≤ x.length ∧ ownS L wr (mixL x k0 q.1) (.slice A1 x.length c1) ∧ q.2 = k0 + cntL (x.take q.1)) (fun q => x.length - q.1) (0, k0) ⟨rfl, rfl, rfl, trivial⟩ ⟨Chg.refl _, by simp, by rw [mixL_zero]; exact hx, by simp [cntL]⟩ ?_)
  rintro ⟨k, l⟩ σ wr1 ⟨hEwr1, hk, hO, hl⟩
  simp only at hk hO hl
  subst hl
  have hcl0 := cntL_take_le x k
  refine CW.seq (CW.seq (CW.reg ?_))
  refine WL.ev rfl rfl (Ev.mv rfl rfl) (WL.ev rfl rfl (Ev.mv rfl rfl) (WL.ev rfl rfl (Ev.lenS rfl el31 rfl) (WL.ev rfl rfl (Ev.bin rfl rfl rfl Bin.lss) (WL.nil ?_))))
  refine CW.condD rfl (fun h1 => ?_) (fun h1 => ?_)
  · skip
    refine CW.skip ?_
    refine CW.seq (CW.block (CW.seq (CW.reg ?_)))
    refine WL.ev rfl rfl (Ev.mv rfl rfl) (WL.ev rfl rfl (Ev.mv rfl rfl) (WL.ev rfl rfl (Ev.mv rfl rfl) ?_))
    obtain ⟨y, hy⟩ : ∃ y, x[k]? = some y := ⟨_, List.getElem?_eq_getElem (by omega)⟩
    have hct := cntL_take_succ hy
    have hcl := cntL_take_le x (k + 1)
    have hcn : Mk.cnt y = 1 + 1 := rfl
    obtain ⟨b, o, e, cur, Li, ci, hA, hbL, hbN, hLN, hLL, hBf, hfit, how, hplug⟩ := hO.mark1 hN hy
    obtain ⟨rfl, hr1, hr2, rfl⟩ := how
    have hM0 := Chg.refl (M := (· ∈ b :: [])) wr1
    refine WL.ev rfl rfl (Ev.ixA rfl el31 sz93 rfl hA rfl (by omega)) (WL.ev rfl rfl (Ev.fa rfl fo93_0 rfl) ?_)
    refine WL.stE rfl rfl rfl sz3 rfl rfl rfl rfl (all1 rfl all0) hBf rfl hfit rfl fun w1 hCw1 hB_1 => ?_
    have hM1 := hM0.tr1 hCw1 List.mem_cons_self
    refine WL.nil ?_
    refine CW.seq (CW.reg ?_)
    refine WL.ev rfl rfl (Ev.mv rfl rfl) (WL.ev rfl rfl (Ev.bin rfl rfl rfl (Bin.add (by omega))) (WL.ev rfl rfl (Ev.as rfl rfl) (WL.nil ?_)))
    refine CW.seq (CW.reg ?_)
    refine WL.ev rfl rfl (Ev.mv rfl rfl) (WL.ev rfl rfl (Ev.mv rfl rfl) (WL.ev rfl rfl (Ev.mv rfl rfl) ?_))
    refine WL.call rfl rfl rfl rfl rfl ok72 rfl (markText_spec _ _ (by omega) (by omega)) ?_
    rintro _ w2 hEw2 rfl
    have hM2 := hM1.trans_ext hEw2
    refine WL.ev rfl rfl (Ev.ixA rfl el31 sz93 rfl hA rfl (by omega)) (WL.ev rfl rfl (Ev.fa rfl fo93_1 rfl) ?_)
    refine WL.stE rfl rfl rfl sz9 rfl rfl rfl rfl (all1 rfl all0) (hB_1.ext hEw2) rfl hfit rfl fun w3 hCw3 hB_2 => ?_
    have hM3 := hM2.tr1 hCw3 List.mem_cons_self
    refine WL.nil ?_
    refine CW.reg ?_
    refine WL.ev rfl rfl (Ev.mv rfl rfl) (WL.ev rfl rfl (Ev.bin rfl rfl rfl (Bin.add (by omega))) (WL.ev rfl rfl (Ev.as rfl rfl) (WL.nil ?_)))
    refine CW.reg ?_
    refine WL.ev rfl rfl (Ev.mv rfl rfl) (WL.ev rfl rfl (Ev.bin rfl rfl rfl (Bin.add (by omega))) (WL.ev rfl rfl (Ev.as rfl rfl) (WL.nil ?_)))
    exact ⟨(k + 1, _), ⟨rfl, rfl, rfl, trivial⟩, ⟨hEwr1.trL hM3 (List.forall_mem_cons.2 ⟨hbL, hLL⟩), by simp only; omega, hplug hM3 ⟨rfl, rI (by omega) (by omega), rS (by omega), rfl⟩ hB_2, by simp only; omega⟩, by simp only; omega⟩
  · skip
    refine CW.exit ?_
    refine CW.seq (CW.reg ?_)
    refine WL.ev rfl rfl (Ev.mv rfl rfl) (WL.ev rfl rfl (Ev.as rfl rfl) (WL.nil ?_))
    refine CW.ret ?_
    exact ⟨_, res1 rfl rfl rfl, hEwr1, vI (by simp only [cntL_full (xs := x) (i := k) (by omega)]), by rw [← mixL_all x k0 (i := k) (by omega)]; exact hO⟩

theorem markTraceStepS_spec (w : World) (L : List Nat) (x : List TraceStep) {z : Value} (hx : ownS L w x z) (hN : L.Nodup) (k0 : Int) (hk0 : 0 ≤ k0) (hk1 : k0 + cntL x ≤ 4611686018427387904) :
    Ret Try.prog 17 #[z, .int .i64 k0] w (· ∈ L) fun v w' => v = .int .i64 (k0 + cntL x) ∧ ownS L w' (mkL x k0) z := by
  refine enter Try.func17 rfl rfl rfl ?_
  obtain ⟨A1, c1, rfl, hc1, hm1⟩ := hx.form
  have hl1 : x.length ≤ 9223372036854775807 := Nat.le_trans hc1 hm1
  refine CW.seq (CW.reg ?_)
  refine WL.ev rfl rfl (Ev.as rfl rfl) (WL.nil ?_)
  refine CW.seq (CW.seq (CW.reg ?_))
  refine WL.ev rfl rfl (Ev.as rfl rfl) (WL.nil ?_)
  refine CW.block (CW.loop (α := Nat × Int) (fun q => [(0, .slice A1 x.length c1), (1, .int .i64 q.2), (5, .int .i64 (q.1 : Int))]) (fun q wr => Chg (· ∈ L) w wr ∧ q.1 ≤ x.length ∧ ownS L wr (mixL x k0 q.1) (.slice A1 x.length c1) ∧ q.2 = k0 + cntL (x.take q.1)) (fun q => x.length - q.1) (0, k0) ⟨rfl, rfl, rfl, trivial⟩ ⟨Chg.refl _, by simp, by rw [mixL_zero]; exact hx, by simp [cntL]⟩ ?_)
  rintro ⟨k, l⟩ σ wr1 ⟨hEwr1, hk, hO, hl⟩
  simp only at hk hO hl
  subst hl
  have hcl0 := cntL_take_le x k
  refine CW.seq (CW.seq (CW.reg ?_))
  refine WL.ev rfl rfl (Ev.mv rfl rfl) (WL.ev rfl rfl (Ev.mv rfl rfl) (WL.ev rfl rfl (Ev.lenS rfl el29 rfl) (WL.ev rfl rfl (Ev.bin rfl rfl rfl Bin.lss) (WL.nil ?_))))
  refine CW.condD rfl (fun h1 => ?_) (fun h1 => ?_)
  · skip
    refine CW.skip ?_
    refine CW.seq (CW.block (CW.seq (CW.reg ?_)))
    refine WL.ev rfl rfl (Ev.mv rfl rfl) (WL.ev rfl rfl (Ev.mv rfl rfl) (WL.ev rfl rfl (Ev.mv rfl rfl) ?_))
    obtain ⟨y, hy⟩ : ∃ y, x[k]? = some y := ⟨_, List.getElem?_eq_getElem (by omega)⟩
    have hct := cntL_take_succ hy
    have hcl := cntL_take_le x (k + 1)
    have hcn : Mk.cnt y = 1 + 1 + cntL y.Inputs := rfl
    obtain ⟨b, o, e, cur, Li, ci, hA, hbL, hbN, hLN, hLL, hBf, hfit, how, hplug⟩ := hO.mark1 hN hy
    obtain ⟨v1, L1, rfl, hr1, hr2, rfl, hO1⟩ := how
    obtain ⟨A2, c2, rfl, hc1, hm1⟩ := hO1.form
    have hM0 := Chg.refl (M := (· ∈ b :: Li)) wr1
    refine WL.ev rfl rfl (Ev.ixA rfl el29 sz95 rfl hA rfl (by omega)) (WL.ev rfl rfl (Ev.fa rfl fo95_0 rfl) (WL.ev rfl rfl (Ev.fa rfl fo93_0 rfl) ?_))
    refine WL.stE rfl rfl rfl sz3 rfl rfl rfl rfl (all1 rfl all0) hBf rfl hfit rfl fun w1 hCw1 hB_1 => ?_
    have hM1 := hM0.tr1 hCw1 List.mem_cons_self
    have hO_1 := ownS.chg1 hO1 hCw1 (fun q hq e => hbN (by subst e; simp [hq]))
    refine WL.nil ?_
    refine CW.seq (CW.reg ?_)
    refine WL.ev rfl rfl (Ev.mv rfl rfl) (WL.ev rfl rfl (Ev.bin rfl rfl rfl (Bin.add (by omega))) (WL.ev rfl rfl (Ev.as rfl rfl) (WL.nil ?_)))
    refine CW.seq (CW.reg ?_)
    refine WL.ev rfl rfl (Ev.mv rfl rfl) (WL.ev rfl rfl (Ev.mv rfl rfl) (WL.ev rfl rfl (Ev.mv rfl rfl) ?_))
    refine WL.call rfl rfl rfl rfl rfl ok72 rfl (markText_spec _ _ (by omega) (by omega)) ?_
    rintro _ w2 hEw2 rfl
    have hM2 := hM1.trans_ext hEw2
    refine WL.ev rfl rfl (Ev.ixA rfl el29 sz95 rfl hA rfl (by omega)) (WL.ev rfl rfl (Ev.fa rfl fo95_0 rfl) (WL.ev rfl rfl (Ev.fa rfl fo93_1 rfl) ?_))
    refine WL.stE rfl rfl rfl sz9 rfl rfl rfl rfl (all1 rfl all0) (hB_1.ext hEw2) rfl hfit rfl fun w3 hCw3 hB_2 => ?_
    have hM3 := hM2.tr1 hCw3 List.mem_cons_self
    have hO_2 := ownS.chg1 (hO_1.ext hEw2) hCw3 (fun q hq e => hbN (by subst e; simp [hq]))
    refine WL.nil ?_
    refine CW.seq (CW.reg ?_)
    refine WL.ev rfl rfl (Ev.mv rfl rfl) (WL.ev rfl rfl (Ev.bin rfl rfl rfl (Bin.add (by omega))) (WL.ev rfl rfl (Ev.as rfl rfl) (WL.nil ?_)))
    refine CW.reg ?_
    refine WL.ev rfl rfl (Ev.mv rfl rfl) (WL.ev rfl rfl (Ev.mv rfl rfl) (WL.ev rfl rfl (Ev.ixA rfl el29 sz95 rfl hA rfl (by omega)) (WL.ev rfl rfl (Ev.fa rfl fo95_1 rfl) (WL.ev rfl rfl (Ev.ld rfl ag31 rfl ((hB_2.foc (s := 3) rfl hfit).cell rfl)) (WL.ev rfl rfl (Ev.mv rfl rfl) ?_)))))
    refine WL.call rfl rfl rfl rfl rfl ok18 rfl (markInstanceS_spec _ _ y.Inputs hO_2 hLN _ (by omega) (by omega)) ?_
    rintro _ w4 hEw4 ⟨rfl, hO_3⟩
    have hM4 := hM3.trL hEw4 (fun q hq => by simp [hq])
    have hB_3 := Blk.chgL hB_2 hEw4 (fun hq => hbN (by simp [hq]))
    refine WL.ev rfl rfl (Ev.as rfl rfl) (WL.nil ?_)
    refine CW.reg ?_
    refine WL.ev rfl rfl (Ev.mv rfl rfl) (WL.ev rfl rfl (Ev.bin rfl rfl rfl (Bin.add (by omega))) (WL.ev rfl rfl (Ev.as rfl rfl) (WL.nil ?_)))
    exact ⟨(k + 1, _), ⟨rfl, rfl, rfl, trivial⟩, ⟨hEwr1.trL hM4 (List.forall_mem_cons.2 ⟨hbL, hLL⟩), by simp only; omega, hplug hM4 ⟨_, _, rfl, rI (by omega) (by omega), rS (by omega), rfl, hO_3⟩ hB_3, by simp only; omega⟩, by simp only; omega⟩
  · skip
    refine CW.exit ?_
    refine CW.seq (CW.reg ?_)
    refine WL.ev rfl rfl (Ev.mv rfl rfl) (WL.ev rfl rfl (Ev.as rfl rfl) (WL.nil ?_))
    refine CW.ret ?_
    exact ⟨_, res1 rfl rfl rfl, hEwr1, vI (by simp only [cntL_full (xs := x) (i := k) (by omega)]), by rw [← mixL_all x k0 (i := k) (by omega)]; exact hO⟩

theorem markIntS_spec (w : World) (L : List Nat) (x : List Int) {z : Value} (hx : ownS L w x z) (hN : L.Nodup) (k0 : Int) (hk0 : 0 ≤ k0) (hk1 : k0 + cntL x ≤ 4611686018427387904) :
    Ret Try.prog 19 #[z, .int .i64 k0] w (· ∈ L) fun v w' => v = .int .i64 (k0 + cntL x) ∧ ownS L w' (mkL x k0) z := by
  refine enter Try.func19 rfl rfl rfl ?_
  obtain ⟨A1, c1, rfl, hc1, hm1⟩ := hx.form
  have hl1 : x.length ≤ 9223372036854775807 := Nat.le_trans hc1 hm1
  refine CW.seq (CW.reg ?_)
  refine WL.ev rfl rfl (Ev.as rfl rfl) (WL.nil ?_)
  refine CW.seq (CW.seq (CW.reg ?_))
  refine WL.ev rfl rfl (Ev.as rfl rfl) (WL.nil ?_)
  refine CW.block (CW.loop (α := Nat × Int) (fun q => [(0, .slice A1 x.length c1), (1, .int .i64 q.2), (5, .int .i64 (q.1 : Int))]) (fun q wr => Chg (· ∈ L) w wr ∧ q.1 ≤ x.length ∧ ownS L wr (mixL x k0 q.1) (.slice A1 x.length c1) ∧ q.2 = k0 + cntL (x.take q.1)) (fun q => x.length - q.1) (0, k0) ⟨rfl, rfl, rfl, trivial⟩ ⟨Chg.refl _, by simp, by rw [mixL_zero]; exact hx, by simp [cntL]⟩ ?_)
  rintro ⟨k, l⟩ σ wr1 ⟨hEwr1, hk, hO, hl⟩
  simp only at hk hO hl
  subst hl
  have hcl0 := cntL_take_le x k
  refine CW.seq (CW.seq (CW.reg ?_))
  refine WL.ev rfl rfl (Ev.mv rfl rfl) (WL.ev rfl rfl (Ev.mv rfl rfl) (WL.ev rfl rfl (Ev.lenS rfl el26 rfl) (WL.ev rfl rfl (Ev.bin rfl rfl rfl Bin.lss) (WL.nil ?_))))
  refine CW.condD rfl (fun h1 => ?_) (fun h1 => ?_)
  · skip
    refine CW.skip ?_
    refine CW.seq (CW.block (CW.seq (CW.reg ?_)))
    refine WL.ev rfl rfl (Ev.mv rfl rfl) (WL.ev rfl rfl (Ev.mv rfl rfl) (WL.ev rfl rfl (Ev.mv rfl rfl) ?_))
    obtain ⟨y, hy⟩ : ∃ y, x[k]? = some y := ⟨_, List.getElem?_eq_getElem (by omega)⟩
    have hct := cntL_take_succ hy
    have hcl := cntL_take_le x (k + 1)
    have hcn : Mk.cnt y = 1 := rfl
    obtain ⟨b, o, e, cur, Li, ci, hA, hbL, hbN, hLN, hLL, hBf, hfit, how, hplug⟩ := hO.mark1 hN hy
    obtain ⟨rfl, rfl, hr1⟩ := how
    have hM0 := Chg.refl (M := (· ∈ b :: [])) wr1
    refine WL.ev rfl rfl (Ev.ixA rfl el26 sz3 rfl hA rfl (by omega)) ?_
    refine WL.stE0 rfl rfl rfl sz3 rfl rfl rfl rfl (all1 rfl all0) hBf rfl hfit rfl fun w1 hCw1 hB_1 => ?_
    have hM1 := hM0.tr1 hCw1 List.mem_cons_self
    refine WL.nil ?_
    refine CW.reg ?_
    refine WL.ev rfl rfl (Ev.mv rfl rfl) (WL.ev rfl rfl (Ev.bin rfl rfl rfl (Bin.add (by omega))) (WL.ev rfl rfl (Ev.as rfl rfl) (WL.nil ?_)))
    refine CW.reg ?_
    refine WL.ev rfl rfl (Ev.mv rfl rfl) (WL.ev rfl rfl (Ev.bin rfl rfl rfl (Bin.add (by omega))) (WL.ev rfl rfl (Ev.as rfl rfl) (WL.nil ?_)))
    exact ⟨(k + 1, _), ⟨rfl, rfl, rfl, trivial⟩, ⟨hEwr1.trL hM1 (List.forall_mem_cons.2 ⟨hbL, hLL⟩), by simp only; omega, hplug hM1 ⟨rfl, rfl, rI (by omega) (by omega)⟩ hB_1, by simp only; omega⟩, by simp only; omega⟩
  · skip
    refine CW.exit ?_
    refine CW.seq (CW.reg ?_)
    refine WL.ev rfl rfl (Ev.mv rfl rfl) (WL.ev rfl rfl (Ev.as rfl rfl) (WL.nil ?_))
    refine CW.ret ?_
    exact ⟨_, res1 rfl rfl rfl, hEwr1, vI (by simp only [cntL_full (xs := x) (i := k) (by omega)]), by rw [← mixL_all x k0 (i := k) (by omega)]; exact hO⟩

theorem heldIntS_spec (w : World) {S : Nat → Prop} (x : List Int) {z : Value} (hx : rdS S w x z) (k0 : Int) (hk0 : 0 ≤ k0) (hk1 : k0 + cntL x ≤ 4611686018427387904) :
    Ret Try.prog 20 #[z, .int .i64 k0] w (fun _ => False) fun v _ => ∃ r, v = .int .i64 r ∧ Held (hdL x k0) k0 (cntL x) r := by
  refine enter Try.func20 rfl rfl rfl ?_
  obtain ⟨A1, c1, rfl, hc1, hm1⟩ := hx.form
  have hl1 : x.length ≤ 9223372036854775807 := Nat.le_trans hc1 hm1
  refine CW.seq (CW.reg ?_)
  refine WL.ev rfl rfl (Ev.as rfl rfl) (WL.nil ?_)
  refine CW.seq (CW.seq (CW.reg ?_))
  refine WL.ev rfl rfl (Ev.as rfl rfl) (WL.nil ?_)
  refine CW.block (CW.loop (α := Nat × Int) (fun q => [(0, .slice A1 x.length c1), (1, .int .i64 q.2), (5, .int .i64 (q.1 : Int))]) (fun q wr => Ext w wr ∧ q.1 ≤ x.length ∧ hdL (x.take q.1) k0 = some q.2 ∧ q.2 = k0 + cntL (x.take q.1)) (fun q => x.length - q.1) (0, k0) ⟨rfl, rfl, rfl, trivial⟩ ⟨Ext.refl _, by simp, rfl, by simp [cntL]⟩ ?_)
  rintro ⟨k, l⟩ σ wr1 ⟨hEwr1, hk, hh, hl⟩
  simp only at hk hh hl
  have hcl0 := cntL_take_le x k
  refine CW.seq (CW.seq (CW.reg ?_))
  refine WL.ev rfl rfl (Ev.mv rfl rfl) (WL.ev rfl rfl (Ev.mv rfl rfl) (WL.ev rfl rfl (Ev.lenS rfl el26 rfl) (WL.ev rfl rfl (Ev.bin rfl rfl rfl Bin.lss) (WL.nil ?_))))
  refine CW.condD rfl (fun h1 => ?_) (fun h1 => ?_)
  · skip
    refine CW.skip ?_
    refine CW.seq (CW.block (CW.seq (CW.seq (CW.reg ?_))))
    refine WL.ev rfl rfl (Ev.mv rfl rfl) (WL.ev rfl rfl (Ev.mv rfl rfl) ?_)
    obtain ⟨xe1, be1, oe1, cse1, hxe1, hAe1, hSe1, hre1, hAte1⟩ := rdS.el hx (i := k) (by omega)
    have hK1 := hre1
    obtain ⟨rfl, hr1⟩ := hre1
    have hct := cntL_take_succ hxe1
    have hcl := cntL_take_le x (k + 1)
    have hcn : Mk.cnt xe1 = 1 := rfl
    refine WL.ev rfl rfl (Ev.ixA rfl el26 sz3 rfl hAe1 rfl (by omega)) (WL.ev rfl rfl (Ev.ld rfl ag3 rfl ((hAte1.ext hEwr1).cell0 rfl)) (WL.ev rfl rfl (Ev.mv rfl rfl) (WL.ev rfl rfl (Ev.bin rfl rfl rfl Bin.neq) (WL.nil ?_))))
    refine CW.condN rfl (fun h2 => ?_) (fun h2 => ?_)
    · skip
      refine CW.seq (CW.reg ?_)
      refine WL.ev rfl rfl (Ev.as rfl rfl) (WL.nil ?_)
      refine CW.ret ?_
      exact ⟨_, res1 rfl rfl rfl, hEwr1, _, rfl, .inr ⟨hdL_none hxe1 hh (hdI_neg h2), rfl⟩⟩
    · skip
      refine CW.skip ?_
      refine CW.reg ?_
      refine WL.ev rfl rfl (Ev.mv rfl rfl) (WL.ev rfl rfl (Ev.bin rfl rfl rfl (Bin.add (by omega))) (WL.ev rfl rfl (Ev.as rfl rfl) (WL.nil ?_)))
      refine CW.reg ?_
      refine WL.ev rfl rfl (Ev.mv rfl rfl) (WL.ev rfl rfl (Ev.bin rfl rfl rfl (Bin.add (by omega))) (WL.ev rfl rfl (Ev.as rfl rfl) (WL.nil ?_)))
      exact ⟨(k + 1, _), ⟨rfl, rfl, rfl, trivial⟩, ⟨hEwr1, by simp only; omega, hdL_step hxe1 hh (hdI_pos h2), by simp only; omega⟩, by simp only; omega⟩
  · skip
    refine CW.exit ?_
    refine CW.seq (CW.reg ?_)
    refine WL.ev rfl rfl (Ev.mv rfl rfl) (WL.ev rfl rfl (Ev.as rfl rfl) (WL.nil ?_))
    refine CW.ret ?_
    exact ⟨_, res1 rfl rfl rfl, hEwr1, _, rfl, .inl ⟨hdL_full hh (by omega), by rw [hl, cntL_full (by omega)]⟩⟩

theorem FnExactAssignSlots_law (w : World) {St : Nat → Prop} (t : List TraceStep) {zt : Value} (ht : rdS St w t zt) {Sk : Nat → Prop} (k : List Instance) {zk : Value} (hk : rdS Sk w k zk) :
    Ret Try.prog 3 #[zt, zk] w (fun _ => False) fun v _ => v = .bool true := by
  refine enter Try.func3 rfl rfl rfl ?_
  obtain ⟨A1, c1, rfl, hc1, hm1⟩ := ht.form
  have hl1 : t.length ≤ 9223372036854775807 := Nat.le_trans hc1 hm1
  have nt := szL_length t
  have qt := szfold t
  obtain ⟨A2, c2, rfl, hc2, hm2⟩ := hk.form
  have hl2 : k.length ≤ 9223372036854775807 := Nat.le_trans hc2 hm2
  have nk := szL_length k
  have qk := szfold k
  refine CW.seq (CW.reg ?_)
  refine WL.ev rfl rfl (Ev.as rfl rfl) (WL.nil ?_)
  refine CW.seq (CW.reg ?_)
  refine WL.ev rfl rfl (Ev.as rfl rfl) (WL.nil ?_)
  refine CW.seq (CW.reg ?_)
  refine WL.ev rfl rfl (Ev.mv rfl rfl) (WL.ev rfl rfl (Ev.mv rfl rfl) ?_)
  refine WL.call rfl rfl rfl rfl rfl ok8 rfl (szTraceStepS_spec _ t ht _ (by omega) (by omega)) ?_
  rintro _ w1 hEw1 ⟨r1, rfl, hr1⟩
  have hq1 := szfold t
  refine WL.ev rfl rfl (Ev.as rfl rfl) (WL.nil ?_)
  refine CW.fresh [(0, .slice A1 t.length c1), (1, .slice A2 k.length c2), (4, .bool false), (5, .int .i64 (r1))] ⟨rfl, rfl, rfl, rfl, trivial⟩ fun σ => ?_
  refine CW.seq (CW.seq (CW.reg ?_))
  refine WL.ev rfl rfl (Ev.mv rfl rfl) (WL.ev rfl rfl (Ev.bin rfl rfl rfl Bin.lss) (WL.nil ?_))
  refine CW.condD rfl (fun h1 => ?_) (fun h1 => ?_)
  · skip
    refine CW.fresh [(0, .slice A1 t.length c1), (1, .slice A2 k.length c2), (4, .bool false), (5, .int .i64 (r1))] ⟨rfl, rfl, rfl, rfl, trivial⟩ fun σ => ?_
    refine CW.seq (CW.reg ?_)
    refine WL.ev rfl rfl (Ev.as rfl rfl) (WL.nil ?_)
    refine CW.ret ?_
    exact ⟨_, res1 rfl rfl rfl, hEw1, rfl⟩
  · skip
    refine CW.skip ?_
    refine CW.fresh [(0, .slice A1 t.length c1), (1, .slice A2 k.length c2), (4, .bool false), (5, .int .i64 (r1))] ⟨rfl, rfl, rfl, rfl, trivial⟩ fun σ => ?_
    refine CW.seq (CW.reg ?_)
    refine WL.ev rfl rfl (Ev.mv rfl rfl) (WL.ev rfl rfl (Ev.mv rfl rfl) ?_)
    refine WL.call rfl rfl rfl rfl rfl ok9 rfl (szInstanceS_spec _ k (hk.ext hEw1) _ (by omega) (by omega)) ?_
    rintro _ w2 hEw2 ⟨r2, rfl, hr2⟩
    have hq2 := szfold k
    refine WL.ev rfl rfl (Ev.as rfl rfl) (WL.nil ?_)
    refine CW.fresh [(0, .slice A1 t.length c1), (1, .slice A2 k.length c2), (4, .bool false), (5, .int .i64 (r2))] ⟨rfl, rfl, rfl, rfl, trivial⟩ fun σ => ?_
    refine CW.seq (CW.seq (CW.reg ?_))
    refine WL.ev rfl rfl (Ev.mv rfl rfl) (WL.ev rfl rfl (Ev.bin rfl rfl rfl Bin.lss) (WL.nil ?_))
    refine CW.condD rfl (fun h2 => ?_) (fun h2 => ?_)
    · skip
      refine CW.fresh [(0, .slice A1 t.length c1), (1, .slice A2 k.length c2), (4, .bool false)] ⟨rfl, rfl, rfl, trivial⟩ fun σ => ?_
      refine CW.seq (CW.reg ?_)
      refine WL.ev rfl rfl (Ev.as rfl rfl) (WL.nil ?_)
      refine CW.ret ?_
      exact ⟨_, res1 rfl rfl rfl, (hEw1.trans hEw2), rfl⟩
    · skip
      refine CW.skip ?_
      refine CW.fresh [(0, .slice A1 t.length c1), (1, .slice A2 k.length c2), (4, .bool false)] ⟨rfl, rfl, rfl, trivial⟩ fun σ => ?_
      refine CW.seq (CW.reg ?_)
      refine WL.ev rfl rfl (Ev.mv rfl rfl) ?_
      refine WL.call rfl rfl rfl rfl rfl ok11 rfl (toTraceStepS_spec _ t (ht.ext (hEw1.trans hEw2)) (by omega)) ?_
      rintro v1 w3 hEw3 ⟨L1, hO1, hN1, hF1⟩
      obtain ⟨A3, c3, rfl, hc3, hm3⟩ := hO1.form
      refine WL.ev rfl rfl (Ev.mv rfl rfl) ?_
      refine WL.call rfl rfl rfl rfl rfl ok12 rfl (toInstanceS_spec _ k (hk.ext ((hEw1.trans hEw2).trans hEw3)) (by omega)) ?_
      rintro v2 w4 hEw4 ⟨L2, hO2, hN2, hF2⟩
      obtain ⟨A4, c4, rfl, hc4, hm4⟩ := hO2.form
      refine WL.call rfl rfl rfl rfl rfl ok10 rfl (sAssignSlots_spec _ t (hO1.ext hEw4).rd (by omega) k hO2.rd (by omega)) ?_
      rintro _ w5 hEw5 ⟨v3, rfl, L3, hO3, hN3, hF3⟩
      obtain ⟨A5, c5, rfl, hc5, hm5⟩ := hO3.form
      refine WL.ev rfl rfl (Ev.mv rfl rfl) (WL.ev rfl rfl (Ev.ex rfl rfl rfl) (WL.ev rfl rfl (Ev.ex rfl rfl rfl) (WL.ev rfl rfl (Ev.as rfl rfl) (WL.ev rfl rfl (Ev.as rfl rfl) (WL.nil ?_)))))
      refine CW.fresh [(0, .slice A1 t.length c1), (1, .slice A2 k.length c2), (4, .bool false), (6, .slice A5 (((sAssignSlots_m t k).getD ([], 0)).1).length c5), (7, .int .i64 (((sAssignSlots_m t k).getD ([], 0)).2))] ⟨rfl, rfl, rfl, rfl, rfl, trivial⟩ fun σ => ?_
      refine CW.seq (CW.reg ?_)
      refine WL.ev rfl rfl (Ev.mv rfl rfl) ?_
      refine WL.call rfl rfl rfl rfl rfl ok11 rfl (toTraceStepS_spec _ t (ht.ext ((((hEw1.trans hEw2).trans hEw3).trans hEw4).trans hEw5)) (by omega)) ?_
      rintro v4 w6 hEw6 ⟨L4, hO4, hN4, hF4⟩
      obtain ⟨A6, c6, rfl, hc6, hm6⟩ := hO4.form
      refine WL.ev rfl rfl (Ev.as rfl rfl) (WL.nil ?_)
      refine CW.fresh [(0, .slice A1 t.length c1), (1, .slice A2 k.length c2), (4, .bool false), (6, .slice A5 (((sAssignSlots_m t k).getD ([], 0)).1).length c5), (7, .int .i64 (((sAssignSlots_m t k).getD ([], 0)).2)), (8, .slice A6 (t).length c6)] ⟨rfl, rfl, rfl, rfl, rfl, rfl, trivial⟩ fun σ => ?_
      refine CW.seq (CW.reg ?_)
      refine WL.ev rfl rfl (Ev.mv rfl rfl) ?_
      refine WL.call rfl rfl rfl rfl rfl ok12 rfl (toInstanceS_spec _ k (hk.ext (((((hEw1.trans hEw2).trans hEw3).trans hEw4).trans hEw5).trans hEw6)) (by omega)) ?_
      rintro v5 w7 hEw7 ⟨L5, hO5, hN5, hF5⟩
      obtain ⟨A7, c7, rfl, hc7, hm7⟩ := hO5.form
      refine WL.ev rfl rfl (Ev.as rfl rfl) (WL.nil ?_)
      refine CW.fresh [(0, .slice A1 t.length c1), (1, .slice A2 k.length c2), (4, .bool false), (6, .slice A5 (((sAssignSlots_m t k).getD ([], 0)).1).length c5), (7, .int .i64 (((sAssignSlots_m t k).getD ([], 0)).2)), (8, .slice A6 (t).length c6), (9, .slice A7 (k).length c7)] ⟨rfl, rfl, rfl, rfl, rfl, rfl, rfl, trivial⟩ fun σ => ?_
      refine CW.seq (CW.reg ?_)
      refine WL.ev rfl rfl (Ev.mv rfl rfl) (WL.ev rfl rfl (Ev.mv rfl rfl) ?_)
      refine WL.call rfl rfl rfl rfl rfl ok13 rfl (iAssignSlots_spec _ t (hO4.ext hEw7).rd (by omega) k hO5.rd (by omega)) ?_
      rintro _ w8 hEw8 ⟨v6, rfl, L6, hO6, hN6, hF6⟩
      obtain ⟨A8, c8, rfl, hc8, hm8⟩ := hO6.form
      refine WL.ev rfl rfl (Ev.mv rfl rfl) (WL.ev rfl rfl (Ev.ex rfl rfl rfl) (WL.ev rfl rfl (Ev.ex rfl rfl rfl) (WL.ev rfl rfl (Ev.as rfl rfl) (WL.ev rfl rfl (Ev.as rfl rfl) (WL.nil ?_)))))
      refine CW.fresh [(0, .slice A1 t.length c1), (1, .slice A2 k.length c2), (4, .bool false), (6, .slice A5 (((sAssignSlots_m t k).getD ([], 0)).1).length c5), (7, .int .i64 (((sAssignSlots_m t k).getD ([], 0)).2)), (8, .slice A6 (t).length c6), (9, .slice A7 (k).length c7), (10, .slice A8 (((sAssignSlots_m t k).getD ([], 0)).1).length c8), (11, .int .i64 (((sAssignSlots_m t k).getD ([], 0)).2))] ⟨rfl, rfl, rfl, rfl, rfl, rfl, rfl, rfl, rfl, trivial⟩ fun σ => ?_
      refine CW.seq (CW.seq (CW.reg ?_))
      refine WL.ev rfl rfl (Ev.mv rfl rfl) (WL.ev rfl rfl (Ev.mv rfl rfl) ?_)
      refine WL.call rfl rfl rfl rfl rfl ok14 rfl ((eqIntS_spec _ (((sAssignSlots_m t k).getD ([], 0)).1) (((sAssignSlots_m t k).getD ([], 0)).1) hO6.rd (hO3.ext ((hEw6.trans hEw7).trans hEw8)).rd).yes rfl) ?_
      rintro _ w9 hEw9 rfl
      refine WL.ev rfl rfl (Ev.not rfl rfl) (WL.ev rfl rfl (Ev.mv rfl rfl) (WL.on rfl rfl (WL.ev rfl rfl (Ev.mv rfl rfl) (WL.on rfl rfl (WL.ev rfl rfl (Ev.mv rfl rfl) (WL.on rfl rfl (WL.ev rfl rfl (Ev.bin rfl rfl rfl (Bin.neqSame rfl)) (WL.ev rfl rfl (Ev.pickF rfl rfl rfl) (WL.nil ?_)))))))))
      refine CW.condF rfl ?_
      refine CW.skip ?_
      refine CW.fresh [(0, .slice A1 t.length c1), (1, .slice A2 k.length c2), (4, .bool false), (6, .slice A5 (((sAssignSlots_m t k).getD ([], 0)).1).length c5), (7, .int .i64 (((sAssignSlots_m t k).getD ([], 0)).2)), (8, .slice A6 (t).length c6), (9, .slice A7 (k).length c7), (10, .slice A8 (((sAssignSlots_m t k).getD ([], 0)).1).length c8), (11, .int .i64 (((sAssignSlots_m t k).getD ([], 0)).2))] ⟨rfl, rfl, rfl, rfl, rfl, rfl, rfl, rfl, rfl, trivial⟩ fun σ => ?_
      refine CW.seq (CW.seq (CW.reg ?_))
      refine WL.ev rfl rfl (Ev.mv rfl rfl) (WL.ev rfl rfl (Ev.mv rfl rfl) ?_)
      refine WL.call rfl rfl rfl rfl rfl ok11 rfl (toTraceStepS_spec _ t (ht.ext ((((((((hEw1.trans hEw2).trans hEw3).trans hEw4).trans hEw5).trans hEw6).trans hEw7).trans hEw8).trans hEw9)) (by omega)) ?_
      rintro v7 w10 hEw10 ⟨L7, hO7, hN7, hF7⟩
      obtain ⟨A9, c9, rfl, hc9, hm9⟩ := hO7.form
      refine WL.call rfl rfl rfl rfl rfl ok15 rfl ((eqTraceStepS_spec _ t t (hO4.ext (((hEw7.trans hEw8).trans hEw9).trans hEw10)).rd hO7.rd).yes rfl) ?_
      rintro _ w11 hEw11 rfl
      refine WL.ev rfl rfl (Ev.not rfl rfl) (WL.nil ?_)
      refine CW.condF rfl ?_
      refine CW.skip ?_
      refine CW.fresh [(0, .slice A1 t.length c1), (1, .slice A2 k.length c2), (4, .bool false), (6, .slice A5 (((sAssignSlots_m t k).getD ([], 0)).1).length c5), (7, .int .i64 (((sAssignSlots_m t k).getD ([], 0)).2)), (8, .slice A6 (t).length c6), (9, .slice A7 (k).length c7), (10, .slice A8 (((sAssignSlots_m t k).getD ([], 0)).1).length c8), (11, .int .i64 (((sAssignSlots_m t k).getD ([], 0)).2))] ⟨rfl, rfl, rfl, rfl, rfl, rfl, rfl, rfl, rfl, trivial⟩ fun σ => ?_
      refine CW.seq (CW.seq (CW.reg ?_))
      refine WL.ev rfl rfl (Ev.mv rfl rfl) (WL.ev rfl rfl (Ev.mv rfl rfl) ?_)
      refine WL.call rfl rfl rfl rfl rfl ok12 rfl (toInstanceS_spec _ k (hk.ext ((((((((((hEw1.trans hEw2).trans hEw3).trans hEw4).trans hEw5).trans hEw6).trans hEw7).trans hEw8).trans hEw9).trans hEw10).trans hEw11)) (by omega)) ?_
      rintro v8 w12 hEw12 ⟨L8, hO8, hN8, hF8⟩
      obtain ⟨A10, c10, rfl, hc10, hm10⟩ := hO8.form
      refine WL.call rfl rfl rfl rfl rfl ok16 rfl ((eqInstanceS_spec _ k k (hO5.ext ((((hEw8.trans hEw9).trans hEw10).trans hEw11).trans hEw12)).rd hO8.rd).yes rfl) ?_
      rintro _ w13 hEw13 rfl
      refine WL.ev rfl rfl (Ev.not rfl rfl) (WL.nil ?_)
      refine CW.condF rfl ?_
      refine CW.skip ?_
      refine CW.fresh [(0, .slice A1 t.length c1), (1, .slice A2 k.length c2), (4, .bool false), (6, .slice A5 (((sAssignSlots_m t k).getD ([], 0)).1).length c5), (7, .int .i64 (((sAssignSlots_m t k).getD ([], 0)).2)), (8, .slice A6 (t).length c6), (9, .slice A7 (k).length c7), (10, .slice A8 (((sAssignSlots_m t k).getD ([], 0)).1).length c8), (11, .int .i64 (((sAssignSlots_m t k).getD ([], 0)).2))] ⟨rfl, rfl, rfl, rfl, rfl, rfl, rfl, rfl, rfl, trivial⟩ fun σ => ?_
      refine CW.seq (CW.reg ?_)
      refine WL.ev rfl rfl (Ev.as rfl rfl) (WL.nil ?_)
      refine CW.fresh [(0, .slice A1 t.length c1), (1, .slice A2 k.length c2), (4, .bool false), (6, .slice A5 (((sAssignSlots_m t k).getD ([], 0)).1).length c5), (7, .int .i64 (((sAssignSlots_m t k).getD ([], 0)).2)), (8, .slice A6 (t).length c6), (9, .slice A7 (k).length c7), (10, .slice A8 (((sAssignSlots_m t k).getD ([], 0)).1).length c8), (11, .int .i64 (((sAssignSlots_m t k).getD ([], 0)).2)), (12, .int .i64 (1))] ⟨rfl, rfl, rfl, rfl, rfl, rfl, rfl, rfl, rfl, rfl, trivial⟩ fun σ => ?_
      refine CW.seq (CW.reg ?_)
      refine WL.ev rfl rfl (Ev.mv rfl rfl) (WL.ev rfl rfl (Ev.mv rfl rfl) ?_)
      refine WL.call rfl rfl rfl rfl rfl ok17 rfl (markTraceStepS_spec _ L4 t (hO4.ext ((((((hEw7.trans hEw8).trans hEw9).trans hEw10).trans hEw11).trans hEw12).trans hEw13)) hN4 1 (by omega) (by have := cnt_any t (by omega); omega)) ?_
      rintro _ w14 hEw14 ⟨rfl, hO_1⟩
      have hT1 := ownS.chgL (hO1.ext (((((((((hEw4.trans hEw5).trans hEw6).trans hEw7).trans hEw8).trans hEw9).trans hEw10).trans hEw11).trans hEw12).trans hEw13)) hEw14 (fun q hq h2 => by have := hO1.lt _ hq; have := hF4 _ h2; have := hEw4.size; have := hEw5.size; omega)
      have hT2 := ownS.chgL (hO2.ext ((((((((hEw5.trans hEw6).trans hEw7).trans hEw8).trans hEw9).trans hEw10).trans hEw11).trans hEw12).trans hEw13)) hEw14 (fun q hq h2 => by have := hO2.lt _ hq; have := hF4 _ h2; have := hEw5.size; omega)
      have hT3 := ownS.chgL (hO3.ext (((((((hEw6.trans hEw7).trans hEw8).trans hEw9).trans hEw10).trans hEw11).trans hEw12).trans hEw13)) hEw14 (fun q hq h2 => by have := hO3.lt _ hq; have := hF4 _ h2; omega)
      have hT4 := ownS.chgL (hO5.ext (((((hEw8.trans hEw9).trans hEw10).trans hEw11).trans hEw12).trans hEw13)) hEw14 (fun q hq h2 => by have := hO4.lt _ h2; have := hF5 _ hq; omega)
      have hT5 := ownS.chgL (hO6.ext ((((hEw9.trans hEw10).trans hEw11).trans hEw12).trans hEw13)) hEw14 (fun q hq h2 => by have := hO4.lt _ h2; have := hF6 _ hq; have := hEw7.size; omega)
      have hT6 := ownS.chgL (hO7.ext ((hEw11.trans hEw12).trans hEw13)) hEw14 (fun q hq h2 => by have := hO4.lt _ h2; have := hF7 _ hq; have := hEw7.size; have := hEw8.size; have := hEw9.size; omega)
      have hT7 := ownS.chgL (hO8.ext hEw13) hEw14 (fun q hq h2 => by have := hO4.lt _ h2; have := hF8 _ hq; have := hEw7.size; have := hEw8.size; have := hEw9.size; have := hEw10.size; have := hEw11.size; omega)
      have hX1 := Ext.chgL ((((((((((((hEw1.trans hEw2).trans hEw3).trans hEw4).trans hEw5).trans hEw6).trans hEw7).trans hEw8).trans hEw9).trans hEw10).trans hEw11).trans hEw12).trans hEw13) hEw14 (fun q hq => by have := hF4 _ hq; have := hEw1.size; have := hEw2.size; have := hEw3.size; have := hEw4.size; have := hEw5.size; omega)
      have := cnt_any t (by omega)
      refine WL.ev rfl rfl (Ev.as rfl rfl) (WL.nil ?_)
      refine CW.fresh [(0, .slice A1 t.length c1), (1, .slice A2 k.length c2), (4, .bool false), (6, .slice A5 (((sAssignSlots_m t k).getD ([], 0)).1).length c5), (7, .int .i64 (((sAssignSlots_m t k).getD ([], 0)).2)), (9, .slice A7 (k).length c7), (10, .slice A8 (((sAssignSlots_m t k).getD ([], 0)).1).length c8), (11, .int .i64 (((sAssignSlots_m t k).getD ([], 0)).2)), (12, .int .i64 (1 + (cntL t : Nat)))] ⟨rfl, rfl, rfl, rfl, rfl, rfl, rfl, rfl, rfl, trivial⟩ fun σ => ?_
      refine CW.seq (CW.reg ?_)
      refine WL.ev rfl rfl (Ev.mv rfl rfl) (WL.ev rfl rfl (Ev.mv rfl rfl) ?_)
      refine WL.call rfl rfl rfl rfl rfl ok18 rfl (markInstanceS_spec _ L5 k hT4 hN5 (1 + (cntL t : Nat)) (by omega) (by have := cnt_any k (by omega); omega)) ?_
      rintro _ w15 hEw15 ⟨rfl, hO_2⟩
      have hT8 := ownS.chgL hT1 hEw15 (fun q hq h2 => by have := hO1.lt _ hq; have := hF5 _ h2; have := hEw4.size; have := hEw5.size; have := hEw6.size; omega)
      have hT9 := ownS.chgL hT2 hEw15 (fun q hq h2 => by have := hO2.lt _ hq; have := hF5 _ h2; have := hEw5.size; have := hEw6.size; omega)
      have hT10 := ownS.chgL hT3 hEw15 (fun q hq h2 => by have := hO3.lt _ hq; have := hF5 _ h2; have := hEw6.size; omega)
      have hT11 := ownS.chgL hO_1 hEw15 (fun q hq h2 => by have := hO4.lt _ hq; have := hF5 _ h2; omega)
      have hT12 := ownS.chgL hT5 hEw15 (fun q hq h2 => by have := hO5.lt _ h2; have := hF6 _ hq; omega)
      have hT13 := ownS.chgL hT6 hEw15 (fun q hq h2 => by have := hO5.lt _ h2; have := hF7 _ hq; have := hEw8.size; have := hEw9.size; omega)
      have hT14 := ownS.chgL hT7 hEw15 (fun q hq h2 => by have := hO5.lt _ h2; have := hF8 _ hq; have := hEw8.size; have := hEw9.size; have := hEw10.size; have := hEw11.size; omega)
      have hX2 := Ext.chgL hX1 hEw15 (fun q hq => by have := hF5 _ hq; have := hEw1.size; have := hEw2.size; have := hEw3.size; have := hEw4.size; have := hEw5.size; have := hEw6.size; omega)
      have := cnt_any k (by omega)
      refine WL.ev rfl rfl (Ev.as rfl rfl) (WL.nil ?_)
      refine CW.fresh [(0, .slice A1 t.length c1), (1, .slice A2 k.length c2), (4, .bool false), (6, .slice A5 (((sAssignSlots_m t k).getD ([], 0)).1).length c5), (7, .int .i64 (((sAssignSlots_m t k).getD ([], 0)).2)), (10, .slice A8 (((sAssignSlots_m t k).getD ([], 0)).1).length c8), (11, .int .i64 (((sAssignSlots_m t k).getD ([], 0)).2)), (12, .int .i64 (1 + (cntL t : Nat) + (cntL k : Nat)))] ⟨rfl, rfl, rfl, rfl, rfl, rfl, rfl, rfl, trivial⟩ fun σ => ?_
      refine CW.seq (CW.seq (CW.reg ?_))
      refine WL.ev rfl rfl (Ev.mv rfl rfl) (WL.ev rfl rfl (Ev.bin rfl rfl rfl (Bin.no (by omega))) (WL.ev rfl rfl (Ev.mv rfl rfl) (WL.on rfl rfl (WL.ev rfl rfl (Ev.mv rfl rfl) (WL.on rfl rfl (WL.ev rfl rfl (Ev.mv rfl rfl) (WL.on rfl rfl ?_)))))))
      refine WL.call rfl rfl rfl rfl rfl ok14 rfl ((eqIntS_spec _ (((sAssignSlots_m t k).getD ([], 0)).1) (((sAssignSlots_m t k).getD ([], 0)).1) hT12.rd hT10.rd).yes rfl) ?_
      rintro _ w16 hEw16 rfl
      refine WL.on rfl rfl (WL.ev rfl rfl (Ev.not rfl rfl) (WL.ev rfl rfl (Ev.pickF rfl rfl rfl) (WL.ev rfl rfl (Ev.mv rfl rfl) (WL.on rfl rfl (WL.ev rfl rfl (Ev.mv rfl rfl) (WL.on rfl rfl (WL.ev rfl rfl (Ev.mv rfl rfl) (WL.on rfl rfl (WL.ev rfl rfl (Ev.bin rfl rfl rfl (Bin.neqSame rfl)) (WL.ev rfl rfl (Ev.pickF rfl rfl rfl) (WL.nil ?_)))))))))))
      refine CW.condF rfl ?_
      refine CW.skip ?_
      refine CW.fresh [(0, .slice A1 t.length c1), (1, .slice A2 k.length c2), (4, .bool false), (6, .slice A5 (((sAssignSlots_m t k).getD ([], 0)).1).length c5), (7, .int .i64 (((sAssignSlots_m t k).getD ([], 0)).2)), (10, .slice A8 (((sAssignSlots_m t k).getD ([], 0)).1).length c8)] ⟨rfl, rfl, rfl, rfl, rfl, rfl, trivial⟩ fun σ => ?_
      refine CW.seq (CW.reg ?_)
      refine WL.ev rfl rfl (Ev.as rfl rfl) (WL.nil ?_)
      refine CW.fresh [(0, .slice A1 t.length c1), (1, .slice A2 k.length c2), (4, .bool false), (6, .slice A5 (((sAssignSlots_m t k).getD ([], 0)).1).length c5), (7, .int .i64 (((sAssignSlots_m t k).getD ([], 0)).2)), (10, .slice A8 (((sAssignSlots_m t k).getD ([], 0)).1).length c8), (13, .int .i64 (1))] ⟨rfl, rfl, rfl, rfl, rfl, rfl, rfl, trivial⟩ fun σ => ?_
      refine CW.seq (CW.reg ?_)
      refine WL.ev rfl rfl (Ev.mv rfl rfl) (WL.ev rfl rfl (Ev.mv rfl rfl) ?_)
      refine WL.call rfl rfl rfl rfl rfl ok19 rfl (markIntS_spec _ L6 (((sAssignSlots_m t k).getD ([], 0)).1) (hT12.ext hEw16) hN6 1 (by omega) (by have := cnt_assign t k (by omega); omega)) ?_
      rintro _ w17 hEw17 ⟨rfl, hO_3⟩
      have hT15 := ownS.chgL (hT8.ext hEw16) hEw17 (fun q hq h2 => by have := hO1.lt _ hq; have := hF6 _ h2; have := hEw4.size; have := hEw5.size; have := hEw6.size; have := hEw7.size; omega)
      have hT16 := ownS.chgL (hT9.ext hEw16) hEw17 (fun q hq h2 => by have := hO2.lt _ hq; have := hF6 _ h2; have := hEw5.size; have := hEw6.size; have := hEw7.size; omega)
      have hT17 := ownS.chgL (hT10.ext hEw16) hEw17 (fun q hq h2 => by have := hO3.lt _ hq; have := hF6 _ h2; have := hEw6.size; have := hEw7.size; omega)
      have hT18 := ownS.chgL (hT11.ext hEw16) hEw17 (fun q hq h2 => by have := hO4.lt _ hq; have := hF6 _ h2; have := hEw7.size; omega)
      have hT19 := ownS.chgL (hO_2.ext hEw16) hEw17 (fun q hq h2 => by have := hO5.lt _ hq; have := hF6 _ h2; omega)
      have hT20 := ownS.chgL (hT13.ext hEw16) hEw17 (fun q hq h2 => by have := hO6.lt _ h2; have := hF7 _ hq; have := hEw9.size; omega)
      have hT21 := ownS.chgL (hT14.ext hEw16) hEw17 (fun q hq h2 => by have := hO6.lt _ h2; have := hF8 _ hq; have := hEw9.size; have := hEw10.size; have := hEw11.size; omega)
      have hX3 := Ext.chgL (hX2.trans hEw16) hEw17 (fun q hq => by have := hF6 _ hq; have := hEw1.size; have := hEw2.size; have := hEw3.size; have := hEw4.size; have := hEw5.size; have := hEw6.size; have := hEw7.size; omega)
      have := cnt_assign t k (by omega)
      refine WL.ev rfl rfl (Ev.as rfl rfl) (WL.nil ?_)
      refine CW.fresh [(0, .slice A1 t.length c1), (1, .slice A2 k.length c2), (4, .bool false), (6, .slice A5 (((sAssignSlots_m t k).getD ([], 0)).1).length c5), (7, .int .i64 (((sAssignSlots_m t k).getD ([], 0)).2)), (10, .slice A8 (((sAssignSlots_m t k).getD ([], 0)).1).length c8), (13, .int .i64 (1 + (cntL (((sAssignSlots_m t k).getD ([], 0)).1) : Nat)))] ⟨rfl, rfl, rfl, rfl, rfl, rfl, rfl, trivial⟩ fun σ => ?_
      refine CW.seq (CW.reg ?_)
      refine WL.ev rfl rfl (Ev.as rfl rfl) (WL.nil ?_)
      refine CW.fresh [(0, .slice A1 t.length c1), (1, .slice A2 k.length c2), (4, .bool false), (6, .slice A5 (((sAssignSlots_m t k).getD ([], 0)).1).length c5), (7, .int .i64 (((sAssignSlots_m t k).getD ([], 0)).2)), (10, .slice A8 (((sAssignSlots_m t k).getD ([], 0)).1).length c8), (13, .int .i64 (1 + (cntL (((sAssignSlots_m t k).getD ([], 0)).1) : Nat))), (14, .int .i64 (1))] ⟨rfl, rfl, rfl, rfl, rfl, rfl, rfl, rfl, trivial⟩ fun σ => ?_
      refine CW.seq (CW.reg ?_)
      refine WL.ev rfl rfl (Ev.mv rfl rfl) (WL.ev rfl rfl (Ev.mv rfl rfl) ?_)
      refine WL.call rfl rfl rfl rfl rfl ok20 rfl (heldIntS_spec _ (mkL (((sAssignSlots_m t k).getD ([], 0)).1) 1) hO_3.rd 1 (by omega) (by rw [cntL_mkL]; have := cnt_assign t k (by omega); omega)) ?_
      rintro _ w18 hEw18 ⟨r3, rfl, hr3⟩
      rw [hdL_mkL] at hr3
      have := hr3.is
      refine WL.ev rfl rfl (Ev.as rfl rfl) (WL.nil ?_)
      refine CW.fresh [(0, .slice A1 t.length c1), (1, .slice A2 k.length c2), (4, .bool false), (6, .slice A5 (((sAssignSlots_m t k).getD ([], 0)).1).length c5), (7, .int .i64 (((sAssignSlots_m t k).getD ([], 0)).2)), (10, .slice A8 (((sAssignSlots_m t k).getD ([], 0)).1).length c8), (13, .int .i64 (1 + (cntL (((sAssignSlots_m t k).getD ([], 0)).1) : Nat))), (14, .int .i64 (r3))] ⟨rfl, rfl, rfl, rfl, rfl, rfl, rfl, rfl, trivial⟩ fun σ => ?_
      refine CW.seq (CW.seq (CW.reg ?_))
      refine WL.ev rfl rfl (Ev.mv rfl rfl) (WL.ev rfl rfl (Ev.bin rfl rfl rfl (Bin.no (by omega))) (WL.nil ?_))
      refine CW.condF rfl ?_
      refine CW.skip ?_
      refine CW.fresh [(0, .slice A1 t.length c1), (1, .slice A2 k.length c2), (4, .bool false), (6, .slice A5 (((sAssignSlots_m t k).getD ([], 0)).1).length c5), (7, .int .i64 (((sAssignSlots_m t k).getD ([], 0)).2)), (10, .slice A8 (((sAssignSlots_m t k).getD ([], 0)).1).length c8), (13, .int .i64 (1 + (cntL (((sAssignSlots_m t k).getD ([], 0)).1) : Nat))), (14, .int .i64 (r3))] ⟨rfl, rfl, rfl, rfl, rfl, rfl, rfl, rfl, trivial⟩ fun σ => ?_
      refine CW.seq (CW.seq (CW.reg ?_))
      refine WL.ev rfl rfl (Ev.mv rfl rfl) (WL.ev rfl rfl (Ev.mv rfl rfl) (WL.ev rfl rfl (Ev.bin rfl rfl rfl (Bin.neqSame (by omega))) (WL.nil ?_)))
      refine CW.condF rfl ?_
      refine CW.skip ?_
      refine CW.fresh [(0, .slice A1 t.length c1), (1, .slice A2 k.length c2), (4, .bool false), (6, .slice A5 (((sAssignSlots_m t k).getD ([], 0)).1).length c5), (7, .int .i64 (((sAssignSlots_m t k).getD ([], 0)).2)), (10, .slice A8 (((sAssignSlots_m t k).getD ([], 0)).1).length c8), (13, .int .i64 (1 + (cntL (((sAssignSlots_m t k).getD ([], 0)).1) : Nat))), (14, .int .i64 (r3))] ⟨rfl, rfl, rfl, rfl, rfl, rfl, rfl, rfl, trivial⟩ fun σ => ?_
      refine CW.seq (CW.reg ?_)
      refine WL.ev rfl rfl (Ev.mv rfl rfl) ?_
      refine WL.call rfl rfl rfl rfl rfl ok11 rfl (toTraceStepS_spec _ t (ht.ext (hX3.trans hEw18)) (by omega)) ?_
      rintro v9 w19 hEw19 ⟨L9, hO9, hN9, hF9⟩
      obtain ⟨A11, c11, rfl, hc11, hm11⟩ := hO9.form
      refine WL.ev rfl rfl (Ev.mv rfl rfl) ?_
      refine WL.call rfl rfl rfl rfl rfl ok12 rfl (toInstanceS_spec _ k (hk.ext ((hX3.trans hEw18).trans hEw19)) (by omega)) ?_
      rintro v10 w20 hEw20 ⟨L10, hO10, hN10, hF10⟩
      obtain ⟨A12, c12, rfl, hc12, hm12⟩ := hO10.form
      refine WL.call rfl rfl rfl rfl rfl ok13 rfl (iAssignSlots_spec _ t (hO9.ext hEw20).rd (by omega) k hO10.rd (by omega)) ?_
      rintro _ w21 hEw21 ⟨v11, rfl, L11, hO11, hN11, hF11⟩
      obtain ⟨A13, c13, rfl, hc13, hm13⟩ := hO11.form
      refine WL.ev rfl rfl (Ev.mv rfl rfl) (WL.ev rfl rfl (Ev.ex rfl rfl rfl) (WL.ev rfl rfl (Ev.ex rfl rfl rfl) (WL.ev rfl rfl (Ev.as rfl rfl) (WL.ev rfl rfl (Ev.as rfl rfl) (WL.nil ?_)))))
      refine CW.fresh [(4, .bool false), (6, .slice A5 (((sAssignSlots_m t k).getD ([], 0)).1).length c5), (7, .int .i64 (((sAssignSlots_m t k).getD ([], 0)).2)), (10, .slice A8 (((sAssignSlots_m t k).getD ([], 0)).1).length c8), (13, .int .i64 (1 + (cntL (((sAssignSlots_m t k).getD ([], 0)).1) : Nat))), (14, .int .i64 (r3)), (15, .slice A13 (((sAssignSlots_m t k).getD ([], 0)).1).length c13), (16, .int .i64 (((sAssignSlots_m t k).getD ([], 0)).2))] ⟨rfl, rfl, rfl, rfl, rfl, rfl, rfl, rfl, trivial⟩ fun σ => ?_
      refine CW.seq (CW.seq (CW.reg ?_))
      refine WL.ev rfl rfl (Ev.mv rfl rfl) (WL.ev rfl rfl (Ev.mv rfl rfl) ?_)
      refine WL.call rfl rfl rfl rfl rfl ok14 rfl ((eqIntS_spec _ (((sAssignSlots_m t k).getD ([], 0)).1) (((sAssignSlots_m t k).getD ([], 0)).1) hO11.rd (hT17.ext (((hEw18.trans hEw19).trans hEw20).trans hEw21)).rd).yes rfl) ?_
      rintro _ w22 hEw22 rfl
      refine WL.ev rfl rfl (Ev.not rfl rfl) (WL.ev rfl rfl (Ev.mv rfl rfl) (WL.on rfl rfl (WL.ev rfl rfl (Ev.mv rfl rfl) (WL.on rfl rfl (WL.ev rfl rfl (Ev.mv rfl rfl) (WL.on rfl rfl (WL.ev rfl rfl (Ev.bin rfl rfl rfl (Bin.neqSame rfl)) (WL.ev rfl rfl (Ev.pickF rfl rfl rfl) (WL.nil ?_)))))))))
      refine CW.condF rfl ?_
      refine CW.skip ?_
      refine CW.fresh [(4, .bool false), (10, .slice A8 (((sAssignSlots_m t k).getD ([], 0)).1).length c8), (13, .int .i64 (1 + (cntL (((sAssignSlots_m t k).getD ([], 0)).1) : Nat))), (14, .int .i64 (r3))] ⟨rfl, rfl, rfl, rfl, trivial⟩ fun σ => ?_
      refine CW.seq (CW.reg ?_)
      refine WL.ev rfl rfl (Ev.as rfl rfl) (WL.nil ?_)
      refine CW.fresh [(4, .bool false), (10, .slice A8 (((sAssignSlots_m t k).getD ([], 0)).1).length c8), (13, .int .i64 (1 + (cntL (((sAssignSlots_m t k).getD ([], 0)).1) : Nat))), (14, .int .i64 (1))] ⟨rfl, rfl, rfl, rfl, trivial⟩ fun σ => ?_
      refine CW.seq (CW.reg ?_)
      refine WL.ev rfl rfl (Ev.mv rfl rfl) (WL.ev rfl rfl (Ev.mv rfl rfl) ?_)
      refine WL.call rfl rfl rfl rfl rfl ok20 rfl (heldIntS_spec _ (mkL (((sAssignSlots_m t k).getD ([], 0)).1) 1) (hO_3.ext ((((hEw18.trans hEw19).trans hEw20).trans hEw21).trans hEw22)).rd 1 (by omega) (by rw [cntL_mkL]; have := cnt_assign t k (by omega); omega)) ?_
      rintro _ w23 hEw23 ⟨r4, rfl, hr4⟩
      rw [hdL_mkL] at hr4
      have := hr4.is
      refine WL.ev rfl rfl (Ev.as rfl rfl) (WL.nil ?_)
      refine CW.fresh [(4, .bool false), (13, .int .i64 (1 + (cntL (((sAssignSlots_m t k).getD ([], 0)).1) : Nat))), (14, .int .i64 (r4))] ⟨rfl, rfl, rfl, trivial⟩ fun σ => ?_
      refine CW.seq (CW.seq (CW.reg ?_))
      refine WL.ev rfl rfl (Ev.mv rfl rfl) (WL.ev rfl rfl (Ev.bin rfl rfl rfl (Bin.no (by omega))) (WL.nil ?_))
      refine CW.condF rfl ?_
      refine CW.skip ?_
      refine CW.fresh [(4, .bool false), (13, .int .i64 (1 + (cntL (((sAssignSlots_m t k).getD ([], 0)).1) : Nat))), (14, .int .i64 (r4))] ⟨rfl, rfl, rfl, trivial⟩ fun σ => ?_
      refine CW.seq (CW.seq (CW.reg ?_))
      refine WL.ev rfl rfl (Ev.mv rfl rfl) (WL.ev rfl rfl (Ev.mv rfl rfl) (WL.ev rfl rfl (Ev.bin rfl rfl rfl (Bin.neqSame (by omega))) (WL.nil ?_)))
      refine CW.condF rfl ?_
      refine CW.skip ?_
      refine CW.fresh [(4, .bool false)] ⟨rfl, trivial⟩ fun σ => ?_
      refine CW.seq (CW.reg ?_)
      refine WL.ev rfl rfl (Ev.as rfl rfl) (WL.nil ?_)
      refine CW.ret ?_
      exact ⟨_, res1 rfl rfl rfl, ((((((hX3.trans hEw18).trans hEw19).trans hEw20).trans hEw21).trans hEw22).trans hEw23), rfl⟩

theorem open3 : Opens Try.prog 3 Int := Opens.int (by kernel_rfl) Try.underlying3
theorem open9 : Opens Try.prog 9 ByteArray := Opens.str (by kernel_rfl) Try.underlying9
theorem open87 : Opens Try.prog 87 Instance := by
  refine Opens.struct (k := 2) (by kernel_rfl) rfl Try.underlying87 fun H enc w base spare held n cs xs hl hx hf => ?_
  obtain ⟨c0, t0, rfl, hl0⟩ := lenS hl
  obtain ⟨c1, t1, rfl, hl1⟩ := lenS hl0
  obtain rfl := len0 hl1
  obtain ⟨a0, r0⟩ := Opens.fld (i := 0) (t := 3) (off := 0) (k := 1) open3 hf hx rfl rfl rfl rfl
  have q0 : rd (fun _ => True) w a0 [c0] := r0
  obtain ⟨e0, h0_0⟩ := q0
  simp only [List.cons.injEq, and_true] at e0
  obtain rfl := e0
  obtain ⟨a1, r1⟩ := Opens.fld (i := 1) (t := 9) (off := 1) (k := 1) open9 hf hx rfl rfl rfl rfl
  have q1 : rd (fun _ => True) w a1 [c1] := r1
  obtain ⟨e1, h1_0⟩ := q1
  simp only [List.cons.injEq, and_true] at e1
  obtain rfl := e1
  exact ⟨⟨a0, a1⟩, rfl, h0_0, h1_0⟩
theorem open23 : Opens Try.prog 23 (List Instance) := Opens.slice (by kernel_rfl) Try.underlying23 open87
theorem open89 : Opens Try.prog 89 TraceStep := by
  refine Opens.struct (k := 3) (by kernel_rfl) rfl Try.underlying89 fun H enc w base spare held n cs xs hl hx hf => ?_
  obtain ⟨c0, t0, rfl, hl0⟩ := lenS hl
  obtain ⟨c1, t1, rfl, hl1⟩ := lenS hl0
  obtain ⟨c2, t2, rfl, hl2⟩ := lenS hl1
  obtain rfl := len0 hl2
  obtain ⟨a0, r0⟩ := Opens.fld (i := 0) (t := 87) (off := 0) (k := 2) open87 hf hx rfl rfl rfl rfl
  have q0 : rd (fun _ => True) w a0 [c0, c1] := r0
  obtain ⟨e0, h0_0, h0_1⟩ := q0
  simp only [List.cons.injEq, and_true] at e0
  obtain ⟨rfl, rfl⟩ := e0
  obtain ⟨a1, r1⟩ := Opens.fld (i := 1) (t := 23) (off := 2) (k := 1) open23 hf hx rfl rfl rfl rfl
  have q1 : rd (fun _ => True) w a1 [c2] := r1
  obtain ⟨v1_0, e1, s1_0⟩ := q1
  simp only [List.cons.injEq, and_true] at e1
  obtain rfl := e1
  exact ⟨⟨a0, a1⟩, _, rfl, h0_0, h0_1, s1_0⟩
theorem open22 : Opens Try.prog 22 (List TraceStep) := Opens.slice (by kernel_rfl) Try.underlying22 open89
section
open Go.ChangeShapes Go.WideShapes Go.ChangeAt Go.RowKit
theorem own_knob : ownKnob Try.prog.godebug = none := by kernel_rfl
theorem laid_out : laidOutB Try.prog = true := by kernel_rfl
set_option maxRecDepth 100000 in
theorem fnExactAssignSlots_lifted (os : Os) (started : os.Started) (H : Type) (enc : TypeId × Value → H) :
    ReturnsInHanded {} Try.checked os 3 .any (Rows.fnExactAssignSlotsSpec.pre6 enc Try.prog Try.f3 Rows.fnExactAssignSlotsRow.domain false) (Rows.fnExactAssignSlotsSpec.post enc Try.prog Try.f3 false true false false) := by
  refine returnsInHanded_of_change (C := Try.checked) own_knob started (by kernel_rfl) Try.func3
    (ChangeSpec.witness6 (enc := enc) (C := Try.checked) false ⟨#[], #[.slice none 0 0, .slice none 0 0], []⟩ 8 (by kernel_rfl) (by kernel_rfl) (by kernel_rfl) (by kernel_rfl)) ?_
  intro W base args ds gs before hval0 hW hcnd _
  have hval : ∀ (j : Nat) t v, Try.f3.params[j]? = some t → args[j]? = some v → Value.okWide Try.prog W .any base t v := hval0
  have hW' := hW
  obtain ⟨p, q, hA0, hV, rfl, hfz, hnd⟩ := hW
  have hA : DataW.TrodAll enc Try.prog W 0 (fun _ => true) true Try.f3.params.toList args.toList ds p := hA0
  rw [Try.params3] at hA hval
  obtain ⟨v0, vs0, d0, ds0, p0, q0, hargs, rfl, rfl, t0, r0⟩ := trodAll_cons hA
  obtain ⟨v1, vs1, d1, ds1, p1, q1, rfl, rfl, rfl, t1, r1⟩ := trodAll_cons r0
  obtain ⟨rfl, rfl, rfl⟩ := trodAll_nil r1
  obtain rfl : args = #[v0, v1] := by cases args; simp_all
  obtain ⟨rfl, rfl⟩ := trodVars_none hV
  have k0 := t0
  have lt0 : ∀ x ∈ p0, x.block < W.heap.size := by obtain ⟨m, hm⟩ := k0; exact DataW.trod_lt m _ _ _ hm
  obtain ⟨m0, hm0⟩ := t0
  obtain ⟨a0, ha0⟩ := open22.2 _ _ _ _ _ _ _ _ _ hm0
  obtain ⟨x0, l0, c0, rfl⟩ := okWide_slice Try.underlying22 (hval 0 22 v0 rfl rfl)
  obtain ⟨z0, e0, ha0⟩ := ha0
  obtain rfl : Value.slice x0 l0 c0 = z0 := by injection e0
  have k1 := t1
  have lt1 : ∀ x ∈ p1, x.block < W.heap.size := by obtain ⟨m, hm⟩ := k1; exact DataW.trod_lt m _ _ _ hm
  obtain ⟨m1, hm1⟩ := t1
  obtain ⟨a1, ha1⟩ := open23.2 _ _ _ _ _ _ _ _ _ hm1
  obtain ⟨x1, l1, c1, rfl⟩ := okWide_slice Try.underlying23 (hval 1 23 v1 rfl rfl)
  obtain ⟨z1, e1, ha1⟩ := ha1
  obtain rfl : Value.slice x1 l1 c1 = z1 := by injection e1
  clear hA0 hval0
  refine Calls.mono (FnExactAssignSlots_law W a0 ha0 a1 ha1) fun e W' ⟨v, he, hch, hv⟩ => ?_
  subst he; subst hv
  have bel := Ext.below hch
  exact ⟨_, rfl, _, _, _, [], _, [], hW', trodAll_mk1 (shut_bool Try.underlying4 _), (trodAll_cons_mk (Below.trod laid_out (by kernel_rfl) (of_decide_eq_true (by kernel_rfl)) k0 bel lt0) (trodAll_cons_mk (Below.trod laid_out (by kernel_rfl) (of_decide_eq_true (by kernel_rfl)) k1 bel lt1) trodAll_mk0)), rfl, bel.frame _, fun h => by cases h⟩
theorem fnExactAssignSlots_holds : Rows.FnExactAssignSlotsSaid :=
  OpenClaim.holds_of_wide 3 Try.f3 rfl rfl rfl rfl rfl rfl rfl ⟨rfl, rfl, rfl, rfl, rfl⟩ rfl rfl rfl rfl rfl (by kernel_rfl) Try.func3 (by kernel_rfl)
    (of_decide_eq_true (by kernel_rfl)) (by unfold Func.isWrapper; first | (rw [if_pos (by decide +kernel)]; kernel_rfl) | (rw [if_neg (by decide +kernel)]; exact ⟨rfl, rfl⟩))
    (fun os started H enc _ => fnExactAssignSlots_lifted os started H enc)
end
end Go.Proofs.Ytgbgkhcgpchckaa
