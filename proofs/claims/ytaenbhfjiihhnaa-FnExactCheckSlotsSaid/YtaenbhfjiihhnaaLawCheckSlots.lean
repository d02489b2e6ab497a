/- The law FnExactCheckSlots returns true for all arguments and leaves them as they were; there is no condition. -/
import Derived.Test.YtaenbhfjiihhnaaRows
import Derived.Test.YtaenbhfjiihhnaaEngB
import Derived.Test.YtaenbhfjiihhnaaMath
set_option linter.unusedVariables false
set_option linter.unusedSimpArgs false
set_option linter.ambiguousOpen false
set_option linter.unusedSectionVars false
set_option linter.unusedVariables false
set_option linter.unusedSimpArgs false
set_option maxRecDepth 100000
namespace Go.Proofs.Ytaenbhfjiihhnaa
open Go Go.E
open Go.E.Rep (rd)
open Go.E.Sep (own)
theorem ag9 : aggT Try.prog 9 = some false := by kernel_rfl
theorem ag74 : aggT Try.prog 74 = some false := by kernel_rfl
theorem ag99 : aggT Try.prog 99 = some true := by kernel_rfl
theorem ag101 : aggT Try.prog 101 = some true := by kernel_rfl
theorem ag105 : aggT Try.prog 105 = some true := by kernel_rfl
theorem sz9 : szT Try.prog 9 = some 1 := by kernel_rfl
theorem sz77 : szT Try.prog 77 = some 1 := by kernel_rfl
theorem sz99 : szT Try.prog 99 = some 2 := by kernel_rfl
theorem sz101 : szT Try.prog 101 = some 3 := by kernel_rfl
theorem by103 : byT Try.prog 103 = some 24 := by kernel_rfl
theorem by105 : byT Try.prog 105 = some 48 := by kernel_rfl
theorem ze103 : zeroT Try.prog 103 = some [.int .i64 0, .string ⟨#[]⟩] := by kernel_rfl
theorem ze105 : zeroT Try.prog 105 = some [.int .i64 0, .string ⟨#[]⟩, .slice none 0 0] := by kernel_rfl
theorem el62 : elemT Try.prog 62 = some 101 := by kernel_rfl
theorem el74 : elemT Try.prog 74 = some 99 := by kernel_rfl
theorem fo99_0 : fieldT Try.prog 99 0 = some 0 := by kernel_rfl
theorem fo99_1 : fieldT Try.prog 99 1 = some 1 := by kernel_rfl
theorem fo101_0 : fieldT Try.prog 101 0 = some 0 := by kernel_rfl
theorem fo101_1 : fieldT Try.prog 101 1 = some 2 := by kernel_rfl
theorem fo103_0 : fieldT Try.prog 103 0 = some 0 := by kernel_rfl
theorem fo103_1 : fieldT Try.prog 103 1 = some 1 := by kernel_rfl
theorem ok45 : callable Try.prog 45 = true := by kernel_rfl
theorem ok47 : callable Try.prog 47 = true := by kernel_rfl
theorem ok49 : callable Try.prog 49 = true := by kernel_rfl
theorem ok51 : callable Try.prog 51 = true := by kernel_rfl
theorem ok53 : callable Try.prog 53 = true := by kernel_rfl
theorem ok60 : callable Try.prog 60 = true := by kernel_rfl
theorem ok61 : callable Try.prog 61 = true := by kernel_rfl
theorem ok62 : callable Try.prog 62 = true := by kernel_rfl
theorem ok63 : callable Try.prog 63 = true := by kernel_rfl
theorem ok64 : callable Try.prog 64 = true := by kernel_rfl
theorem ok80 : callable Try.prog 80 = true := by kernel_rfl
theorem ok82 : callable Try.prog 82 = true := by kernel_rfl
theorem ok84 : callable Try.prog 84 = true := by kernel_rfl
theorem ok89 : callable Try.prog 89 = true := by kernel_rfl
theorem ok90 : callable Try.prog 90 = true := by kernel_rfl
theorem ok94 : callable Try.prog 94 = true := by kernel_rfl
theorem szInstance_spec (w : World) {S : Nat → Prop} (x : Instance) {cs : List Value} (hx : rd S w x cs) (left : Int) (h0 : 0 ≤ left) (h1 : left ≤ 1048576) :
    Ret Try.prog 89 #[.agg cs.toArray, .int .i64 left] w (fun _ => False) fun v _ => ∃ r, v = .int .i64 r ∧ (((Sz.szd x : Nat) : Int) ≤ left ∧ r = left - (Sz.szd x : Nat) ∨ left < (Sz.szd x : Nat) ∧ r = -1) := by
  refine enter Try.func89 rfl rfl rfl ?_
  have hK1 := hx
  obtain ⟨rfl, hr1, hr2⟩ := hx
  have hsz := Instance_szd x
  refine CW.seq (CW.reg ?_)
  refine WL.box rfl rfl rfl rfl rfl fun b1 w1 hEb1 hbb1 hBb1 => ?_
  refine WL.ev rfl rfl (Ev.as rfl rfl) (WL.nil ?_)
  refine CW.seq (CW.reg ?_)
  refine WL.ev rfl rfl (Ev.mv rfl rfl) (WL.ev rfl rfl (Ev.fa rfl fo99_1 rfl) (WL.ev rfl rfl (Ev.ld rfl ag9 rfl (hBb1.cell rfl)) (WL.ev rfl rfl (Ev.lenB rfl Try.underlying9 rfl) (WL.ev rfl rfl (Ev.bin rfl rfl rfl (Bin.sub (by omega))) (WL.ev rfl rfl (Ev.as rfl rfl) (WL.nil ?_))))))
  refine CW.seq (CW.seq (CW.reg ?_))
  refine WL.ev rfl rfl (Ev.mv rfl rfl) (WL.ev rfl rfl (Ev.bin rfl rfl rfl Bin.lss) (WL.nil ?_))
  refine CW.condD rfl (fun h1 => ?_) (fun h1 => ?_)
  · skip
    refine CW.seq (CW.reg ?_)
    refine WL.ev rfl rfl (Ev.as rfl rfl) (WL.nil ?_)
    refine CW.ret ?_
    refine ⟨_, res1 rfl rfl rfl, hEb1, _, rfl, ?_⟩
    try simp only [szfold] at *
    first | omega | (right; exact ⟨by omega, by first | rfl | trivial⟩)
  · skip
    refine CW.skip ?_
    refine CW.seq (CW.reg ?_)
    refine WL.ev rfl rfl (Ev.mv rfl rfl) (WL.ev rfl rfl (Ev.as rfl rfl) (WL.nil ?_))
    refine CW.ret ?_
    refine ⟨_, res1 rfl rfl rfl, hEb1, _, rfl, ?_⟩
    try simp only [szfold] at *
    first | omega | (right; exact ⟨by omega, by first | rfl | trivial⟩)

theorem szInstanceS_spec (w : World) {S : Nat → Prop} (x : List Instance) {z : Value} (hx : rdS S w x z) (left : Int) (h0 : 0 ≤ left) (h1 : left ≤ 1048576) :
    Ret Try.prog 60 #[z, .int .i64 left] w (fun _ => False) fun v _ => ∃ r, v = .int .i64 r ∧ (((Sz.szd x : Nat) : Int) ≤ left ∧ r = left - (Sz.szd x : Nat) ∨ left < (Sz.szd x : Nat) ∧ r = -1) := by
  refine enter Try.func60 rfl rfl rfl ?_
  obtain ⟨A1, c1, rfl, hc1, hm1⟩ := hx.form
  have hl1 : x.length ≤ 9223372036854775807 := Nat.le_trans hc1 hm1
  have hsz : Sz.szd x = szL x := rfl
  have hlen := szL_length x
  refine CW.seq (CW.reg ?_)
  refine WL.ev rfl rfl (Ev.as rfl rfl) (WL.nil ?_)
  refine CW.seq (CW.reg ?_)
  refine WL.ev rfl rfl (Ev.mv rfl rfl) (WL.ev rfl rfl (Ev.mv rfl rfl) (WL.ev rfl rfl (Ev.lenS rfl el74 rfl) (WL.ev rfl rfl (Ev.bin rfl rfl rfl (Bin.sub (by omega))) (WL.ev rfl rfl (Ev.as rfl rfl) (WL.nil ?_)))))
  refine CW.seq (CW.seq (CW.reg ?_))
  refine WL.ev rfl rfl (Ev.mv rfl rfl) (WL.ev rfl rfl (Ev.bin rfl rfl rfl Bin.lss) (WL.nil ?_))
  refine CW.condD rfl (fun h1 => ?_) (fun h1 => ?_)
  · skip
    refine CW.seq (CW.reg ?_)
    refine WL.ev rfl rfl (Ev.as rfl rfl) (WL.nil ?_)
    refine CW.ret ?_
    refine ⟨_, res1 rfl rfl rfl, (Ext.refl _), _, rfl, ?_⟩
    try have hall := szL_take_all (x := x) (k := k) (by omega)
    try simp only [szfold] at *
    first | omega | (right; exact ⟨by omega, by first | rfl | trivial⟩)
  · skip
    refine CW.skip ?_
    refine CW.seq (CW.seq (CW.reg ?_))
    refine WL.ev rfl rfl (Ev.as rfl rfl) (WL.nil ?_)
    refine CW.block (CW.loop (α := Nat × Int) (fun q => [(0, .slice A1 x.length c1), (1, .int .i64 q.2), (5, .int .i64 (q.1 : Int))]) (fun q wr => Ext w wr ∧ q.1 ≤ x.length ∧ 0 ≤ q.2 ∧ q.2 + x.length + szL (x.take q.1) = left + q.1) (fun q => x.length - q.1) (0, left - x.length) ⟨rfl, rfl, rfl, trivial⟩ ⟨Ext.refl _, by simp, by simp only; omega, by simp [szL]⟩ ?_)
    rintro ⟨k, l⟩ σ wr1 ⟨hEwr1, hk, hl0, hle⟩
    simp only at hk hl0 hle
    have hmn0 := szL_take_le x k
    refine CW.seq (CW.seq (CW.reg ?_))
    refine WL.ev rfl rfl (Ev.mv rfl rfl) (WL.ev rfl rfl (Ev.mv rfl rfl) (WL.ev rfl rfl (Ev.lenS rfl el74 rfl) (WL.ev rfl rfl (Ev.bin rfl rfl rfl Bin.lss) (WL.nil ?_))))
    refine CW.condD rfl (fun h2 => ?_) (fun h2 => ?_)
    · skip
      refine CW.skip ?_
      refine CW.seq (CW.block (CW.seq (CW.reg ?_)))
      refine WL.ev rfl rfl (Ev.mv rfl rfl) (WL.ev rfl rfl (Ev.mv rfl rfl) ?_)
      obtain ⟨xe1, be1, oe1, cse1, hxe1, hAe1, hSe1, hre1, hAte1⟩ := rdS.el hx (i := k) (by omega)
      have hK1 := hre1
      obtain ⟨rfl, hr1, hr2⟩ := hre1
      refine WL.ev rfl rfl (Ev.ixA rfl el74 sz99 rfl hAe1 rfl (by omega)) (WL.ev rfl rfl (Ev.lda rfl ag99 sz99 rfl (hAte1.ext hEwr1) rfl) (WL.ev rfl rfl (Ev.mv rfl rfl) ?_))
      refine WL.call rfl rfl rfl rfl rfl ok89 rfl (szInstance_spec _ xe1 (rd_ext hK1 hEwr1) _ (by omega) (by omega)) ?_
      rintro _ w1 hEw1 ⟨r1, rfl, hr3⟩
      have hq1 := Instance_szd xe1
      refine WL.ev rfl rfl (Ev.as rfl rfl) (WL.nil ?_)
      refine CW.seq (CW.reg ?_)
      refine WL.ev rfl rfl (Ev.mv rfl rfl) (WL.ev rfl rfl (Ev.bin rfl rfl rfl Bin.lss) (WL.nil ?_))
      refine CW.condD rfl (fun h3 => ?_) (fun h3 => ?_)
      · skip
        refine CW.seq (CW.reg ?_)
        refine WL.ev rfl rfl (Ev.as rfl rfl) (WL.nil ?_)
        refine CW.ret ?_
        refine ⟨_, res1 rfl rfl rfl, (hEwr1.trans hEw1), _, rfl, ?_⟩
        have htk := szL_take_succ hxe1
        have hmn := szL_take_le x (k + 1)
        try simp only [szfold] at *
        first | omega | (right; exact ⟨by omega, by first | rfl | trivial⟩)
      · skip
        refine CW.skip ?_
        refine CW.reg ?_
        refine WL.ev rfl rfl (Ev.mv rfl rfl) (WL.ev rfl rfl (Ev.bin rfl rfl rfl (Bin.add (by omega))) (WL.ev rfl rfl (Ev.as rfl rfl) (WL.nil ?_)))
        have htk := szL_take_succ hxe1
        have hmn := szL_take_le x (k + 1)
        exact ⟨(k + 1, r1), ⟨rfl, rfl, rfl, trivial⟩, ⟨(hEwr1.trans hEw1), by simp only; omega, by simp only; omega, by simp only; omega⟩, by simp only; omega⟩
    · skip
      refine CW.exit ?_
      refine CW.seq (CW.reg ?_)
      refine WL.ev rfl rfl (Ev.mv rfl rfl) (WL.ev rfl rfl (Ev.as rfl rfl) (WL.nil ?_))
      refine CW.ret ?_
      refine ⟨_, res1 rfl rfl rfl, hEwr1, _, rfl, ?_⟩
      try have hall := szL_take_all (x := x) (k := k) (by omega)
      try simp only [szfold] at *
      first | omega | (right; exact ⟨by omega, by first | rfl | trivial⟩)

theorem szTraceStep_spec (w : World) {S : Nat → Prop} (x : TraceStep) {cs : List Value} (hx : rd S w x cs) (left : Int) (h0 : 0 ≤ left) (h1 : left ≤ 1048576) :
    Ret Try.prog 80 #[.agg cs.toArray, .int .i64 left] w (fun _ => False) fun v _ => ∃ r, v = .int .i64 r ∧ (((Sz.szd x : Nat) : Int) ≤ left ∧ r = left - (Sz.szd x : Nat) ∨ left < (Sz.szd x : Nat) ∧ r = -1) := by
  refine enter Try.func80 rfl rfl rfl ?_
  have hK1 := hx
  obtain ⟨v1, rfl, hr1, hr2, hs1⟩ := hx
  obtain ⟨A1, c1, rfl, hc1, hm1⟩ := hs1.form
  have hsz := TraceStep_szd x
  refine CW.seq (CW.reg ?_)
  refine WL.box rfl rfl rfl rfl rfl fun b1 w1 hEb1 hbb1 hBb1 => ?_
  refine WL.ev rfl rfl (Ev.as rfl rfl) (WL.nil ?_)
  refine CW.seq (CW.reg ?_)
  refine WL.ev rfl rfl (Ev.fa rfl fo101_0 rfl) (WL.ev rfl rfl (Ev.lda rfl ag99 sz99 rfl (Blk.part hBb1 0 2) rfl) (WL.ev rfl rfl (Ev.mv rfl rfl) ?_))
  refine WL.call rfl rfl rfl rfl rfl ok89 rfl (szInstance_spec _ x.At (rd_ext (TraceStep_rd_At hK1) hEb1) _ (by omega) (by omega)) ?_
  rintro _ w2 hEw2 ⟨r1, rfl, hr3⟩
  have hq1 := Instance_szd x.At
  refine WL.ev rfl rfl (Ev.as rfl rfl) (WL.nil ?_)
  refine CW.seq (CW.seq (CW.reg ?_))
  refine WL.ev rfl rfl (Ev.mv rfl rfl) (WL.ev rfl rfl (Ev.bin rfl rfl rfl Bin.lss) (WL.nil ?_))
  refine CW.condD rfl (fun h1 => ?_) (fun h1 => ?_)
  · skip
    refine CW.seq (CW.reg ?_)
    refine WL.ev rfl rfl (Ev.as rfl rfl) (WL.nil ?_)
    refine CW.ret ?_
    refine ⟨_, res1 rfl rfl rfl, (hEb1.trans hEw2), _, rfl, ?_⟩
    try simp only [szfold] at *
    first | omega | (right; exact ⟨by omega, by first | rfl | trivial⟩)
  · skip
    refine CW.skip ?_
    refine CW.seq (CW.reg ?_)
    refine WL.ev rfl rfl (Ev.fa rfl fo101_1 rfl) (WL.ev rfl rfl (Ev.ld rfl ag74 rfl ((hBb1.ext hEw2).cell rfl)) (WL.ev rfl rfl (Ev.mv rfl rfl) ?_))
    refine WL.call rfl rfl rfl rfl rfl ok60 rfl (szInstanceS_spec _ x.Inputs (hs1.ext (hEb1.trans hEw2)) _ (by omega) (by omega)) ?_
    rintro _ w3 hEw3 ⟨r2, rfl, hr4⟩
    have hq2 := szfold x.Inputs
    refine WL.ev rfl rfl (Ev.as rfl rfl) (WL.nil ?_)
    refine CW.seq (CW.seq (CW.reg ?_))
    refine WL.ev rfl rfl (Ev.mv rfl rfl) (WL.ev rfl rfl (Ev.bin rfl rfl rfl Bin.lss) (WL.nil ?_))
    refine CW.condD rfl (fun h2 => ?_) (fun h2 => ?_)
    · skip
      refine CW.seq (CW.reg ?_)
      refine WL.ev rfl rfl (Ev.as rfl rfl) (WL.nil ?_)
      refine CW.ret ?_
      refine ⟨_, res1 rfl rfl rfl, ((hEb1.trans hEw2).trans hEw3), _, rfl, ?_⟩
      try simp only [szfold] at *
      first | omega | (right; exact ⟨by omega, by first | rfl | trivial⟩)
    · skip
      refine CW.skip ?_
      refine CW.seq (CW.reg ?_)
      refine WL.ev rfl rfl (Ev.mv rfl rfl) (WL.ev rfl rfl (Ev.as rfl rfl) (WL.nil ?_))
      refine CW.ret ?_
      refine ⟨_, res1 rfl rfl rfl, ((hEb1.trans hEw2).trans hEw3), _, rfl, ?_⟩
      try simp only [szfold] at *
      first | omega | (right; exact ⟨by omega, by first | rfl | trivial⟩)

theorem szTraceStepS_spec (w : World) {S : Nat → Prop} (x : List TraceStep) {z : Value} (hx : rdS S w x z) (left : Int) (h0 : 0 ≤ left) (h1 : left ≤ 1048576) :
    Ret Try.prog 49 #[z, .int .i64 left] w (fun _ => False) fun v _ => ∃ r, v = .int .i64 r ∧ (((Sz.szd x : Nat) : Int) ≤ left ∧ r = left - (Sz.szd x : Nat) ∨ left < (Sz.szd x : Nat) ∧ r = -1) := by
  refine enter Try.func49 rfl rfl rfl ?_
  obtain ⟨A1, c1, rfl, hc1, hm1⟩ := hx.form
  have hl1 : x.length ≤ 9223372036854775807 := Nat.le_trans hc1 hm1
  have hsz : Sz.szd x = szL x := rfl
  have hlen := szL_length x
  refine CW.seq (CW.reg ?_)
  refine WL.ev rfl rfl (Ev.as rfl rfl) (WL.nil ?_)
  refine CW.seq (CW.reg ?_)
  refine WL.ev rfl rfl (Ev.mv rfl rfl) (WL.ev rfl rfl (Ev.mv rfl rfl) (WL.ev rfl rfl (Ev.lenS rfl el62 rfl) (WL.ev rfl rfl (Ev.bin rfl rfl rfl (Bin.sub (by omega))) (WL.ev rfl rfl (Ev.as rfl rfl) (WL.nil ?_)))))
  refine CW.seq (CW.seq (CW.reg ?_))
  refine WL.ev rfl rfl (Ev.mv rfl rfl) (WL.ev rfl rfl (Ev.bin rfl rfl rfl Bin.lss) (WL.nil ?_))
  refine CW.condD rfl (fun h1 => ?_) (fun h1 => ?_)
  · skip
    refine CW.seq (CW.reg ?_)
    refine WL.ev rfl rfl (Ev.as rfl rfl) (WL.nil ?_)
    refine CW.ret ?_
    refine ⟨_, res1 rfl rfl rfl, (Ext.refl _), _, rfl, ?_⟩
    try have hall := szL_take_all (x := x) (k := k) (by omega)
    try simp only [szfold] at *
    first | omega | (right; exact ⟨by omega, by first | rfl | trivial⟩)
  · skip
    refine CW.skip ?_
    refine CW.seq (CW.seq (CW.reg ?_))
    refine WL.ev rfl rfl (Ev.as rfl rfl) (WL.nil ?_)
    refine CW.block (CW.loop (α := Nat × Int) (fun q => [(0, .slice A1 x.length c1), (1, .int .i64 q.2), (5, .int .i64 (q.1 : Int))]) (fun q wr => Ext w wr ∧ q.1 ≤ x.length ∧ 0 ≤ q.2 ∧ q.2 + x.length + szL (x.take q.1) = left + q.1) (fun q => x.length - q.1) (0, left - x.length) ⟨rfl, rfl, rfl, trivial⟩ ⟨Ext.refl _, by simp, by simp only; omega, by simp [szL]⟩ ?_)
    rintro ⟨k, l⟩ σ wr1 ⟨hEwr1, hk, hl0, hle⟩
    simp only at hk hl0 hle
    have hmn0 := szL_take_le x k
    refine CW.seq (CW.seq (CW.reg ?_))
    refine WL.ev rfl rfl (Ev.mv rfl rfl) (WL.ev rfl rfl (Ev.mv rfl rfl) (WL.ev rfl rfl (Ev.lenS rfl el62 rfl) (WL.ev rfl rfl (Ev.bin rfl rfl rfl Bin.lss) (WL.nil ?_))))
    refine CW.condD rfl (fun h2 => ?_) (fun h2 => ?_)
    · skip
      refine CW.skip ?_
      refine CW.seq (CW.block (CW.seq (CW.reg ?_)))
      refine WL.ev rfl rfl (Ev.mv rfl rfl) (WL.ev rfl rfl (Ev.mv rfl rfl) ?_)
      obtain ⟨xe1, be1, oe1, cse1, hxe1, hAe1, hSe1, hre1, hAte1⟩ := rdS.el hx (i := k) (by omega)
      have hK1 := hre1
      obtain ⟨v1, rfl, hr1, hr2, hs1⟩ := hre1
      obtain ⟨A2, c2, rfl, hc2, hm2⟩ := hs1.form
      refine WL.ev rfl rfl (Ev.ixA rfl el62 sz101 rfl hAe1 rfl (by omega)) (WL.ev rfl rfl (Ev.lda rfl ag101 sz101 rfl (hAte1.ext hEwr1) rfl) (WL.ev rfl rfl (Ev.mv rfl rfl) ?_))
      refine WL.call rfl rfl rfl rfl rfl ok80 rfl (szTraceStep_spec _ xe1 (rd_ext hK1 hEwr1) _ (by omega) (by omega)) ?_
      rintro _ w1 hEw1 ⟨r1, rfl, hr3⟩
      have hq1 := TraceStep_szd xe1
      refine WL.ev rfl rfl (Ev.as rfl rfl) (WL.nil ?_)
      refine CW.seq (CW.reg ?_)
      refine WL.ev rfl rfl (Ev.mv rfl rfl) (WL.ev rfl rfl (Ev.bin rfl rfl rfl Bin.lss) (WL.nil ?_))
      refine CW.condD rfl (fun h3 => ?_) (fun h3 => ?_)
      · skip
        refine CW.seq (CW.reg ?_)
        refine WL.ev rfl rfl (Ev.as rfl rfl) (WL.nil ?_)
        refine CW.ret ?_
        refine ⟨_, res1 rfl rfl rfl, (hEwr1.trans hEw1), _, rfl, ?_⟩
        have htk := szL_take_succ hxe1
        have hmn := szL_take_le x (k + 1)
        try simp only [szfold] at *
        first | omega | (right; exact ⟨by omega, by first | rfl | trivial⟩)
      · skip
        refine CW.skip ?_
        refine CW.reg ?_
        refine WL.ev rfl rfl (Ev.mv rfl rfl) (WL.ev rfl rfl (Ev.bin rfl rfl rfl (Bin.add (by omega))) (WL.ev rfl rfl (Ev.as rfl rfl) (WL.nil ?_)))
        have htk := szL_take_succ hxe1
        have hmn := szL_take_le x (k + 1)
        exact ⟨(k + 1, r1), ⟨rfl, rfl, rfl, trivial⟩, ⟨(hEwr1.trans hEw1), by simp only; omega, by simp only; omega, by simp only; omega⟩, by simp only; omega⟩
    · skip
      refine CW.exit ?_
      refine CW.seq (CW.reg ?_)
      refine WL.ev rfl rfl (Ev.mv rfl rfl) (WL.ev rfl rfl (Ev.as rfl rfl) (WL.nil ?_))
      refine CW.ret ?_
      refine ⟨_, res1 rfl rfl rfl, hEwr1, _, rfl, ?_⟩
      try have hall := szL_take_all (x := x) (k := k) (by omega)
      try simp only [szfold] at *
      first | omega | (right; exact ⟨by omega, by first | rfl | trivial⟩)

theorem toInstance_spec (w : World) {S : Nat → Prop} (x : Instance) {cs : List Value} (hx : rd S w x cs) (hlen : Sz.szd x ≤ 1048576) :
    Ret Try.prog 90 #[.agg cs.toArray] w (fun _ => False) fun v w' => ∃ cs, v = .agg cs.toArray ∧ New w w' x cs := by
  refine enter Try.func90 rfl rfl rfl ?_
  have hK1 := hx
  obtain ⟨rfl, hr1, hr2⟩ := hx
  rw [Instance_szd] at hlen
  refine CW.seq (CW.reg ?_)
  refine WL.box rfl rfl rfl rfl rfl fun b1 w1 hEb1 hbb1 hBb1 => ?_
  refine WL.alloc rfl rfl rfl ze103 fun b2 w2 hEb2 hbb2 hBb2 => ?_
  refine WL.nil ?_
  refine CW.seq (CW.reg ?_)
  refine WL.alloc rfl rfl rfl ze103 fun b3 w3 hEb3 hbb3 hBb3 => ?_
  refine WL.nil ?_
  refine CW.seq (CW.reg ?_)
  refine WL.ev rfl rfl (Ev.fa rfl fo99_0 rfl) (WL.ev rfl rfl (Ev.ld rfl ag3 rfl ((hBb1.ext (hEb2.trans hEb3)).cell rfl)) (WL.ev rfl rfl (Ev.fa rfl fo103_0 rfl) ?_))
  refine WL.st rfl rfl rfl sz3 rfl rfl rfl rfl (all1 rfl all0) hBb3 (Nat.le_of_ble_eq_true rfl) fun w4 hCw4 hB_1 => ?_
  have hz1 := hBb3.lt
  have hB_2 := Blk.chg1 (hBb1.ext (hEb2.trans hEb3)) hCw4 (by have := hBb1.lt; have := hbb3; have := hEb2.size; omega)
  have hB_3 := Blk.chg1 (hBb2.ext hEb3) hCw4 (by have := hBb2.lt; have := hbb3; omega)
  have hX1 := Ext.chg1 ((hEb1.trans hEb2).trans hEb3) hCw4 (by have := hbb3; have := hEb1.size; have := hEb2.size; omega)
  refine WL.nil ?_
  refine CW.seq (CW.reg ?_)
  refine WL.ev rfl rfl (Ev.fa rfl fo99_1 rfl) (WL.ev rfl rfl (Ev.ld rfl ag9 rfl (hB_2.cell rfl)) (WL.ev rfl rfl (Ev.fa rfl fo103_1 rfl) ?_))
  refine WL.st rfl rfl rfl sz9 rfl rfl rfl rfl (all1 rfl all0) hB_1 (Nat.le_of_ble_eq_true rfl) fun w5 hCw5 hB_4 => ?_
  have hz2 := hB_1.lt
  have hB_5 := Blk.chg1 hB_2 hCw5 (by have := hBb1.lt; have := hbb3; have := hEb2.size; omega)
  have hB_6 := Blk.chg1 hB_3 hCw5 (by have := hBb2.lt; have := hbb3; omega)
  have hX2 := Ext.chg1 hX1 hCw5 (by have := hbb3; have := hEb1.size; have := hEb2.size; omega)
  refine WL.nil ?_
  refine CW.seq (CW.reg ?_)
  refine WL.ev rfl rfl (Ev.lda rfl ag103 sz103 rfl (At.blk hB_4) rfl) ?_
  refine WL.st rfl rfl rfl sz103 rfl rfl rfl rfl (all1 rfl (all1 rfl all0)) hB_6 (Nat.le_of_ble_eq_true rfl) fun w6 hCw6 hB_7 => ?_
  have hz3 := hB_6.lt
  have hB_8 := Blk.chg1 hB_5 hCw6 (by have := hBb1.lt; have := hbb2; omega)
  have hB_9 := Blk.chg1 hB_4 hCw6 (by have := hBb2.lt; have := hbb3; omega)
  have hX3 := Ext.chg1 hX2 hCw6 (by have := hbb2; have := hEb1.size; omega)
  refine WL.nil ?_
  refine CW.ret ?_
  exact ⟨_, resC rfl ag103 sz103 rfl rfl (At.blk hB_7) rfl, hX3, _, rfl, _, ⟨rfl, by first | assumption | omega, by first | assumption | omega, rfl⟩, List.nodup_nil, by simp⟩

theorem toInstanceS_spec (w : World) {S : Nat → Prop} (x : List Instance) {z : Value} (hx : rdS S w x z) (hlen : szL x ≤ 1048576) :
    Ret Try.prog 62 #[z] w (fun _ => False) fun v w' => NewS w w' x v := by
  refine enter Try.func62 rfl rfl rfl ?_
  obtain ⟨A1, c1, rfl, hc1, hm1⟩ := hx.form
  have hl1 : x.length ≤ 9223372036854775807 := Nat.le_trans hc1 hm1
  have hln := szL_length x
  refine CW.seq (CW.reg ?_)
  refine WL.ev rfl rfl (Ev.as rfl rfl) (WL.nil ?_)
  refine CW.seq (CW.reg ?_)
  refine WL.ev rfl rfl (Ev.mv rfl rfl) (WL.ev rfl rfl (Ev.lenS rfl el74 rfl) ?_)
  refine WL.mk rfl rfl rfl el77 sz103 by103 ze103 rfl rfl rfl (by omega) (by omega) fun g w1 hE1 hg hBg => ?_
  refine WL.ev rfl rfl (Ev.as rfl rfl) (WL.nil ?_)
  refine CW.seq (CW.seq (CW.reg ?_))
  refine WL.ev rfl rfl (Ev.as rfl rfl) (WL.nil ?_)
  refine CW.block (CW.loop (α := Nat × List Value × List Nat) (fun q => [(0, .slice A1 x.length c1), (3, .slice (some ⟨g, 0, none⟩) x.length x.length), (4, .int .i64 (q.1 : Int))]) (fun q wr => Ext w wr ∧ ToInv wr g 103 [.int .i64 0, .string ⟨#[]⟩] x q.1 q.2.1 q.2.2) (fun q => x.length - q.1) (0, [], []) ⟨rfl, rfl, rfl, trivial⟩ ⟨hE1, ToInv.init hBg⟩ ?_)
  rintro ⟨k, cs, L⟩ σ wr1 ⟨hEwr1, hI⟩
  simp only at hI
  have hk := hI.le
  refine CW.seq (CW.seq (CW.reg ?_))
  refine WL.ev rfl rfl (Ev.mv rfl rfl) (WL.ev rfl rfl (Ev.mv rfl rfl) (WL.ev rfl rfl (Ev.lenS rfl el74 rfl) (WL.ev rfl rfl (Ev.bin rfl rfl rfl Bin.lss) (WL.nil ?_))))
  refine CW.condD rfl (fun h1 => ?_) (fun h1 => ?_)
  · skip
    refine CW.skip ?_
    refine CW.seq (CW.block (CW.reg ?_))
    refine WL.ev rfl rfl (Ev.mv rfl rfl) (WL.ev rfl rfl (Ev.mv rfl rfl) (WL.ev rfl rfl (Ev.mv rfl rfl) (WL.ev rfl rfl (Ev.mv rfl rfl) ?_)))
    obtain ⟨xe1, be1, oe1, cse1, hxe1, hAe1, hSe1, hre1, hAte1⟩ := rdS.el hx (i := k) (by omega)
    have hK1 := hre1
    obtain ⟨rfl, hr1, hr2⟩ := hre1
    refine WL.ev rfl rfl (Ev.ixA rfl el74 sz99 rfl hAe1 rfl (by omega)) (WL.ev rfl rfl (Ev.lda rfl ag99 sz99 rfl (hAte1.ext hEwr1) rfl) ?_)
    refine WL.call rfl rfl rfl rfl rfl ok90 rfl (toInstance_spec _ xe1 (rd_ext hK1 hEwr1) (by have := szL_get hxe1; (try simp only [szfold] at *); omega)) ?_
    rintro _ w1 hEw1 ⟨cs1, rfl, L1, hO1, hN1, hF1⟩
    refine WL.ev rfl rfl (Ev.ix rfl el77 sz103 rfl rfl (by omega)) ?_
    refine WL.stTo rfl rfl rfl sz103 rfl rfl rfl (hI.ext hEw1) hxe1 hO1 hN1 (hI.fresh hF1) rfl fun w2 hCw2 hI2 => ?_
    have hX1 := Ext.chg1 (hEwr1.trans hEw1) hCw2 (by have := hE1.size; omega)
    refine WL.nil ?_
    refine CW.reg ?_
    refine WL.ev rfl rfl (Ev.mv rfl rfl) (WL.ev rfl rfl (Ev.bin rfl rfl rfl (Bin.add (by omega))) (WL.ev rfl rfl (Ev.as rfl rfl) (WL.nil ?_)))
    exact ⟨(k + 1, _, _), ⟨rfl, rfl, rfl, trivial⟩, ⟨hX1, hI2⟩, by simp only; omega⟩
  · skip
    refine CW.exit ?_
    refine CW.seq (CW.reg ?_)
    refine WL.ev rfl rfl (Ev.mv rfl rfl) (WL.ev rfl rfl (Ev.as rfl rfl) (WL.nil ?_))
    refine CW.ret ?_
    exact ⟨_, res1 rfl rfl rfl, hEwr1, hI.new (by omega) (by unfold maxLen; omega) hg⟩

theorem toTraceStep_spec (w : World) {S : Nat → Prop} (x : TraceStep) {cs : List Value} (hx : rd S w x cs) (hlen : Sz.szd x ≤ 1048576) :
    Ret Try.prog 82 #[.agg cs.toArray] w (fun _ => False) fun v w' => ∃ cs, v = .agg cs.toArray ∧ New w w' x cs := by
  refine enter Try.func82 rfl rfl rfl ?_
  have hK1 := hx
  obtain ⟨v1, rfl, hr1, hr2, hs1⟩ := hx
  obtain ⟨A1, c1, rfl, hc1, hm1⟩ := hs1.form
  rw [TraceStep_szd] at hlen
  refine CW.seq (CW.reg ?_)
  refine WL.box rfl rfl rfl rfl rfl fun b1 w1 hEb1 hbb1 hBb1 => ?_
  refine WL.alloc rfl rfl rfl ze105 fun b2 w2 hEb2 hbb2 hBb2 => ?_
  refine WL.nil ?_
  refine CW.seq (CW.reg ?_)
  refine WL.alloc rfl rfl rfl ze105 fun b3 w3 hEb3 hbb3 hBb3 => ?_
  refine WL.nil ?_
  refine CW.seq (CW.reg ?_)
  refine WL.ev rfl rfl (Ev.fa rfl fo101_0 rfl) (WL.ev rfl rfl (Ev.lda rfl ag99 sz99 rfl (Blk.part (hBb1.ext (hEb2.trans hEb3)) 0 2) rfl) ?_)
  refine WL.call rfl rfl rfl rfl rfl ok90 rfl (toInstance_spec _ x.At (rd_ext (TraceStep_rd_At hK1) ((hEb1.trans hEb2).trans hEb3)) (by (try simp only [szfold] at *); (try simp only [Instance_szd] at *); omega)) ?_
  rintro _ w4 hEw4 ⟨_, rfl, _, ⟨rfl, hr3, hr4, rfl⟩, hN1, hF1⟩
  refine WL.ev rfl rfl (Ev.fa rfl fo105_0 rfl) ?_
  refine WL.st rfl rfl rfl sz103 rfl rfl rfl rfl (all1 rfl (all1 rfl all0)) (hBb3.ext hEw4) (Nat.le_of_ble_eq_true rfl) fun w5 hCw5 hB_1 => ?_
  have hz1 := (hBb3.ext hEw4).lt
  have hB_2 := Blk.chg1 (hBb1.ext ((hEb2.trans hEb3).trans hEw4)) hCw5 (by have := hBb1.lt; have := hbb3; have := hEb2.size; omega)
  have hB_3 := Blk.chg1 (hBb2.ext (hEb3.trans hEw4)) hCw5 (by have := hBb2.lt; have := hbb3; omega)
  have hX1 := Ext.chg1 (((hEb1.trans hEb2).trans hEb3).trans hEw4) hCw5 (by have := hbb3; have := hEb1.size; have := hEb2.size; omega)
  refine WL.nil ?_
  refine CW.seq (CW.reg ?_)
  refine WL.ev rfl rfl (Ev.fa rfl fo101_1 rfl) (WL.ev rfl rfl (Ev.ld rfl ag74 rfl (hB_2.cell rfl)) ?_)
  refine WL.call rfl rfl rfl rfl rfl ok62 rfl (toInstanceS_spec _ x.Inputs (hs1.ext hX1) (by (try simp only [szfold] at *); (try simp only [Instance_szd] at *); omega)) ?_
  rintro v2 w6 hEw6 ⟨L2, hO2, hN2, hF2⟩
  obtain ⟨A2, c2, rfl, hc2, hm2⟩ := hO2.form
  refine WL.ev rfl rfl (Ev.fa rfl fo105_1 rfl) ?_
  refine WL.st rfl rfl rfl sz77 rfl rfl rfl rfl (all1 rfl all0) (hB_1.ext hEw6) (Nat.le_of_ble_eq_true rfl) fun w7 hCw7 hB_4 => ?_
  have hz2 := (hB_1.ext hEw6).lt
  have hB_5 := Blk.chg1 (hB_2.ext hEw6) hCw7 (by have := hBb1.lt; have := hbb3; have := hEb2.size; omega)
  have hB_6 := Blk.chg1 (hB_3.ext hEw6) hCw7 (by have := hBb2.lt; have := hbb3; omega)
  have hO_1 := ownS.chg1 hO2 hCw7 (fun q hq e => by subst e; have := hF2 _ hq; have := hBb3.lt; have := hEw4.size; have := hCw5.size; omega)
  have hX2 := Ext.chg1 (hX1.trans hEw6) hCw7 (by have := hbb3; have := hEb1.size; have := hEb2.size; omega)
  refine WL.nil ?_
  refine CW.seq (CW.reg ?_)
  refine WL.ev rfl rfl (Ev.lda rfl ag105 sz105 rfl (At.blk hB_4) rfl) ?_
  refine WL.st rfl rfl rfl sz105 rfl rfl rfl rfl (all1 rfl (all1 rfl (all1 rfl all0))) hB_6 (Nat.le_of_ble_eq_true rfl) fun w8 hCw8 hB_7 => ?_
  have hz3 := hB_6.lt
  have hB_8 := Blk.chg1 hB_5 hCw8 (by have := hBb1.lt; have := hbb2; omega)
  have hB_9 := Blk.chg1 hB_4 hCw8 (by have := hBb2.lt; have := hbb3; omega)
  have hO_2 := ownS.chg1 hO_1 hCw8 (fun q hq e => by subst e; have := hF2 _ hq; have := hBb2.lt; have := hEb3.size; have := hEw4.size; have := hCw5.size; omega)
  have hX3 := Ext.chg1 hX2 hCw8 (by have := hbb2; have := hEb1.size; omega)
  refine WL.nil ?_
  refine CW.ret ?_
  exact ⟨_, resC rfl ag105 sz105 rfl rfl (At.blk hB_7) rfl, hX3, _, rfl, _, ⟨_, _, rfl, by first | assumption | omega, by first | assumption | omega, rfl, hO_2⟩, hN2, fun q hq => by first | (have := hF2 _ hq; have := hEb1.size; have := hEb2.size; have := hEb3.size; have := hEw4.size; have := hCw5.size; omega)⟩

theorem toTraceStepS_spec (w : World) {S : Nat → Prop} (x : List TraceStep) {z : Value} (hx : rdS S w x z) (hlen : szL x ≤ 1048576) :
    Ret Try.prog 51 #[z] w (fun _ => False) fun v w' => NewS w w' x v := by
  refine enter Try.func51 rfl rfl rfl ?_
  obtain ⟨A1, c1, rfl, hc1, hm1⟩ := hx.form
  have hl1 : x.length ≤ 9223372036854775807 := Nat.le_trans hc1 hm1
  have hln := szL_length x
  refine CW.seq (CW.reg ?_)
  refine WL.ev rfl rfl (Ev.as rfl rfl) (WL.nil ?_)
  refine CW.seq (CW.reg ?_)
  refine WL.ev rfl rfl (Ev.mv rfl rfl) (WL.ev rfl rfl (Ev.lenS rfl el62 rfl) ?_)
  refine WL.mk rfl rfl rfl el65 sz105 by105 ze105 rfl rfl rfl (by omega) (by omega) fun g w1 hE1 hg hBg => ?_
  refine WL.ev rfl rfl (Ev.as rfl rfl) (WL.nil ?_)
  refine CW.seq (CW.seq (CW.reg ?_))
  refine WL.ev rfl rfl (Ev.as rfl rfl) (WL.nil ?_)
  refine CW.block (CW.loop (α := Nat × List Value × List Nat) (fun q => [(0, .slice A1 x.length c1), (3, .slice (some ⟨g, 0, none⟩) x.length x.length), (4, .int .i64 (q.1 : Int))]) (fun q wr => Ext w wr ∧ ToInv wr g 105 [.int .i64 0, .string ⟨#[]⟩, .slice none 0 0] x q.1 q.2.1 q.2.2) (fun q => x.length - q.1) (0, [], []) ⟨rfl, rfl, rfl, trivial⟩ ⟨hE1, ToInv.init hBg⟩ ?_)
  rintro ⟨k, cs, L⟩ σ wr1 ⟨hEwr1, hI⟩
  simp only at hI
  have hk := hI.le
  refine CW.seq (CW.seq (CW.reg ?_))
  refine WL.ev rfl rfl (Ev.mv rfl rfl) (WL.ev rfl rfl (Ev.mv rfl rfl) (WL.ev rfl rfl (Ev.lenS rfl el62 rfl) (WL.ev rfl rfl (Ev.bin rfl rfl rfl Bin.lss) (WL.nil ?_))))
  refine CW.condD rfl (fun h1 => ?_) (fun h1 => ?_)
  · skip
    refine CW.skip ?_
    refine CW.seq (CW.block (CW.reg ?_))
    refine WL.ev rfl rfl (Ev.mv rfl rfl) (WL.ev rfl rfl (Ev.mv rfl rfl) (WL.ev rfl rfl (Ev.mv rfl rfl) (WL.ev rfl rfl (Ev.mv rfl rfl) ?_)))
    obtain ⟨xe1, be1, oe1, cse1, hxe1, hAe1, hSe1, hre1, hAte1⟩ := rdS.el hx (i := k) (by omega)
    have hK1 := hre1
    obtain ⟨v1, rfl, hr1, hr2, hs1⟩ := hre1
    obtain ⟨A2, c2, rfl, hc2, hm2⟩ := hs1.form
    refine WL.ev rfl rfl (Ev.ixA rfl el62 sz101 rfl hAe1 rfl (by omega)) (WL.ev rfl rfl (Ev.lda rfl ag101 sz101 rfl (hAte1.ext hEwr1) rfl) ?_)
    refine WL.call rfl rfl rfl rfl rfl ok82 rfl (toTraceStep_spec _ xe1 (rd_ext hK1 hEwr1) (by have := szL_get hxe1; (try simp only [szfold] at *); omega)) ?_
    rintro _ w1 hEw1 ⟨cs1, rfl, L1, hO1, hN1, hF1⟩
    refine WL.ev rfl rfl (Ev.ix rfl el65 sz105 rfl rfl (by omega)) ?_
    refine WL.stTo rfl rfl rfl sz105 rfl rfl rfl (hI.ext hEw1) hxe1 hO1 hN1 (hI.fresh hF1) rfl fun w2 hCw2 hI2 => ?_
    have hX1 := Ext.chg1 (hEwr1.trans hEw1) hCw2 (by have := hE1.size; omega)
    refine WL.nil ?_
    refine CW.reg ?_
    refine WL.ev rfl rfl (Ev.mv rfl rfl) (WL.ev rfl rfl (Ev.bin rfl rfl rfl (Bin.add (by omega))) (WL.ev rfl rfl (Ev.as rfl rfl) (WL.nil ?_)))
    exact ⟨(k + 1, _, _), ⟨rfl, rfl, rfl, trivial⟩, ⟨hX1, hI2⟩, by simp only; omega⟩
  · skip
    refine CW.exit ?_
    refine CW.seq (CW.reg ?_)
    refine WL.ev rfl rfl (Ev.mv rfl rfl) (WL.ev rfl rfl (Ev.as rfl rfl) (WL.nil ?_))
    refine CW.ret ?_
    exact ⟨_, res1 rfl rfl rfl, hEwr1, hI.new (by omega) (by unfold maxLen; omega) hg⟩

theorem toIntS_spec (w : World) {S : Nat → Prop} (x : List Int) {z : Value} (hx : rdS S w x z) (hlen : szL x ≤ 1048576) :
    Ret Try.prog 45 #[z] w (fun _ => False) fun v w' => NewS w w' x v := by
  refine enter Try.func45 rfl rfl rfl ?_
  obtain ⟨A1, c1, rfl, hc1, hm1⟩ := hx.form
  have hl1 : x.length ≤ 9223372036854775807 := Nat.le_trans hc1 hm1
  have hln := szL_length x
  refine CW.seq (CW.reg ?_)
  refine WL.ev rfl rfl (Ev.as rfl rfl) (WL.nil ?_)
  refine CW.seq (CW.reg ?_)
  refine WL.ev rfl rfl (Ev.mv rfl rfl) (WL.ev rfl rfl (Ev.lenS rfl el34 rfl) ?_)
  refine WL.mk rfl rfl rfl el34 sz3 by3 ze3 rfl rfl rfl (by omega) (by omega) fun g w1 hE1 hg hBg => ?_
  refine WL.ev rfl rfl (Ev.as rfl rfl) (WL.nil ?_)
  refine CW.seq (CW.seq (CW.reg ?_))
  refine WL.ev rfl rfl (Ev.as rfl rfl) (WL.nil ?_)
  refine CW.block (CW.loop (α := Nat × List Value × List Nat) (fun q => [(0, .slice A1 x.length c1), (3, .slice (some ⟨g, 0, none⟩) x.length x.length), (4, .int .i64 (q.1 : Int))]) (fun q wr => Ext w wr ∧ ToInv wr g 3 [.int .i64 0] x q.1 q.2.1 q.2.2) (fun q => x.length - q.1) (0, [], []) ⟨rfl, rfl, rfl, trivial⟩ ⟨hE1, ToInv.init hBg⟩ ?_)
  rintro ⟨k, cs, L⟩ σ wr1 ⟨hEwr1, hI⟩
  simp only at hI
  have hk := hI.le
  refine CW.seq (CW.seq (CW.reg ?_))
  refine WL.ev rfl rfl (Ev.mv rfl rfl) (WL.ev rfl rfl (Ev.mv rfl rfl) (WL.ev rfl rfl (Ev.lenS rfl el34 rfl) (WL.ev rfl rfl (Ev.bin rfl rfl rfl Bin.lss) (WL.nil ?_))))
  refine CW.condD rfl (fun h1 => ?_) (fun h1 => ?_)
  · skip
    refine CW.skip ?_
    refine CW.seq (CW.block (CW.reg ?_))
    refine WL.ev rfl rfl (Ev.mv rfl rfl) (WL.ev rfl rfl (Ev.mv rfl rfl) (WL.ev rfl rfl (Ev.mv rfl rfl) (WL.ev rfl rfl (Ev.mv rfl rfl) ?_)))
    obtain ⟨xe1, be1, oe1, cse1, hxe1, hAe1, hSe1, hre1, hAte1⟩ := rdS.el hx (i := k) (by omega)
    have hK1 := hre1
    obtain ⟨rfl, hr1⟩ := hre1
    refine WL.ev rfl rfl (Ev.ixA rfl el34 sz3 rfl hAe1 rfl (by omega)) (WL.ev rfl rfl (Ev.ld rfl ag3 rfl ((hAte1.ext hEwr1).cell0 rfl)) (WL.ev rfl rfl (Ev.ix rfl el34 sz3 rfl rfl (by omega)) ?_))
    refine WL.stTo rfl rfl rfl sz3 rfl rfl rfl hI hxe1 (New.int hr1) List.nodup_nil (by simp) rfl fun w1 hCw1 hI2 => ?_
    have hX1 := Ext.chg1 hEwr1 hCw1 (by have := hE1.size; omega)
    refine WL.nil ?_
    refine CW.reg ?_
    refine WL.ev rfl rfl (Ev.mv rfl rfl) (WL.ev rfl rfl (Ev.bin rfl rfl rfl (Bin.add (by omega))) (WL.ev rfl rfl (Ev.as rfl rfl) (WL.nil ?_)))
    exact ⟨(k + 1, _, _), ⟨rfl, rfl, rfl, trivial⟩, ⟨hX1, hI2⟩, by simp only; omega⟩
  · skip
    refine CW.exit ?_
    refine CW.seq (CW.reg ?_)
    refine WL.ev rfl rfl (Ev.mv rfl rfl) (WL.ev rfl rfl (Ev.as rfl rfl) (WL.nil ?_))
    refine CW.ret ?_
    exact ⟨_, res1 rfl rfl rfl, hEwr1, hI.new (by omega) (by unfold maxLen; omega) hg⟩

theorem sCheckSlots_spec (w : World) {S1 : Nat → Prop} {S2 : Nat → Prop} {S3 : Nat → Prop} (t : List TraceStep) {zt : Value} (ht : rdS S1 w t zt) (bt : szL t ≤ 1048576) (k : List Instance) {zk : Value} (hk : rdS S2 w k zk) (bk : szL k ≤ 1048576) (c : List Int) {zc : Value} (hc : rdS S3 w c zc) (bc : szL c ≤ 1048576) :
    Ret Try.prog 61 #[zt, zk, zc] w (fun _ => False) fun v w' => v = .bool ((sCheckSlots_m t k c).getD false) := by
  have ht0 := ht
  have nt := szL_length t
  obtain ⟨b, h1, h2⟩ := check_same t k c (by omega)
  have ht : (sCheckSlots_m t k c).getD false = b := by rw [h1]; rfl
  rw [ht]
  exact sCheckSlots_ok h1 (F0 := fun _ => True) (ht0.mono fun _ _ => trivial) (hk.mono fun _ _ => trivial) (hc.mono fun _ _ => trivial)

theorem iCheckSlots_spec (w : World) {S1 : Nat → Prop} {S2 : Nat → Prop} {S3 : Nat → Prop} (t : List TraceStep) {zt : Value} (ht : rdS S1 w t zt) (bt : szL t ≤ 1048576) (k : List Instance) {zk : Value} (hk : rdS S2 w k zk) (bk : szL k ≤ 1048576) (c : List Int) {zc : Value} (hc : rdS S3 w c zc) (bc : szL c ≤ 1048576) :
    Ret Try.prog 63 #[zt, zk, zc] w (fun _ => False) fun v w' => v = .bool ((sCheckSlots_m t k c).getD false) := by
  have ht0 := ht
  have nt := szL_length t
  obtain ⟨b, h1, h2⟩ := check_same t k c (by omega)
  have ht : (sCheckSlots_m t k c).getD false = b := by rw [h1]; rfl
  rw [ht]
  exact iCheckSlots_ok h2 (F0 := fun _ => True) (ht0.mono fun _ _ => trivial) (hk.mono fun _ _ => trivial) (hc.mono fun _ _ => trivial)

theorem eqInstance_spec (w : World) {S S2 : Nat → Prop} (x y : Instance) {cs ds : List Value} (hx : rd S w x cs) (hy : rd S2 w y ds) :
    Ret Try.prog 94 #[.agg cs.toArray, .agg ds.toArray] w (fun _ => False) fun v _ => v = .bool (decide (x = y)) := by
  refine enter Try.func94 rfl rfl rfl ?_
  have hK1 := hx
  obtain ⟨rfl, hr1, hr2⟩ := hx
  have hK2 := hy
  obtain ⟨rfl, hr3, hr4⟩ := hy
  refine CW.seq (CW.reg ?_)
  refine WL.box rfl rfl rfl rfl rfl fun b1 w1 hEb1 hbb1 hBb1 => ?_
  refine WL.box rfl rfl rfl rfl rfl fun b2 w2 hEb2 hbb2 hBb2 => ?_
  refine WL.ev rfl rfl (Ev.as rfl rfl) (WL.nil ?_)
  refine CW.seq (CW.seq (CW.reg ?_))
  refine WL.ev rfl rfl (Ev.fa rfl fo103_0 rfl) (WL.ev rfl rfl (Ev.ld rfl ag3 rfl ((hBb1.ext hEb2).cell rfl)) (WL.ev rfl rfl (Ev.fa rfl fo103_0 rfl) (WL.ev rfl rfl (Ev.ld rfl ag3 rfl (hBb2.cell rfl)) (WL.ev rfl rfl (Ev.bin rfl rfl rfl Bin.neq) (WL.nil ?_)))))
  refine CW.condN rfl (fun h1 => ?_) (fun h1 => ?_)
  · skip
    refine CW.seq (CW.reg ?_)
    refine WL.ev rfl rfl (Ev.as rfl rfl) (WL.nil ?_)
    refine CW.ret ?_
    have e : x ≠ y := by rintro rfl; exact h1 rfl
    exact ⟨_, res1 rfl rfl rfl, (hEb1.trans hEb2), vB (by simp [e])⟩
  · skip
    refine CW.skip ?_
    refine CW.seq (CW.seq (CW.reg ?_))
    refine WL.ev rfl rfl (Ev.fa rfl fo103_1 rfl) (WL.ev rfl rfl (Ev.ld rfl ag9 rfl ((hBb1.ext hEb2).cell rfl)) (WL.ev rfl rfl (Ev.fa rfl fo103_1 rfl) (WL.ev rfl rfl (Ev.ld rfl ag9 rfl (hBb2.cell rfl)) (WL.ev rfl rfl (Ev.bin rfl rfl rfl Bin.neqS) (WL.nil ?_)))))
    refine CW.condN rfl (fun h2 => ?_) (fun h2 => ?_)
    · skip
      refine CW.seq (CW.reg ?_)
      refine WL.ev rfl rfl (Ev.as rfl rfl) (WL.nil ?_)
      refine CW.ret ?_
      have e : x ≠ y := by rintro rfl; exact h2 rfl
      exact ⟨_, res1 rfl rfl rfl, (hEb1.trans hEb2), vB (by simp [e])⟩
    · skip
      refine CW.skip ?_
      refine CW.seq (CW.reg ?_)
      refine WL.ev rfl rfl (Ev.as rfl rfl) (WL.nil ?_)
      refine CW.ret ?_
      have e : x = y := by cases x; cases y; simp_all
      exact ⟨_, res1 rfl rfl rfl, (hEb1.trans hEb2), vB (by simp [e])⟩

theorem eqInstanceS_spec (w : World) {S S2 : Nat → Prop} (x y : List Instance) {z z2 : Value} (hx : rdS S w x z) (hy : rdS S2 w y z2) :
    Ret Try.prog 64 #[z, z2] w (fun _ => False) fun v _ => v = .bool (decide (x = y)) := by
  refine enter Try.func64 rfl rfl rfl ?_
  obtain ⟨A1, c1, rfl, hc1, hm1⟩ := hx.form
  have hl1 : x.length ≤ 9223372036854775807 := Nat.le_trans hc1 hm1
  obtain ⟨A2, c2, rfl, hc2, hm2⟩ := hy.form
  have hl2 : y.length ≤ 9223372036854775807 := Nat.le_trans hc2 hm2
  refine CW.seq (CW.reg ?_)
  refine WL.ev rfl rfl (Ev.as rfl rfl) (WL.nil ?_)
  refine CW.seq (CW.seq (CW.reg ?_))
  refine WL.ev rfl rfl (Ev.mv rfl rfl) (WL.ev rfl rfl (Ev.lenS rfl el77 rfl) (WL.ev rfl rfl (Ev.mv rfl rfl) (WL.ev rfl rfl (Ev.lenS rfl el77 rfl) (WL.ev rfl rfl (Ev.bin rfl rfl rfl Bin.neq) (WL.nil ?_)))))
  refine CW.condN rfl (fun h1 => ?_) (fun h1 => ?_)
  · skip
    refine CW.seq (CW.reg ?_)
    refine WL.ev rfl rfl (Ev.as rfl rfl) (WL.nil ?_)
    refine CW.ret ?_
    have e : x ≠ y := fun e => h1 (by rw [e])
    exact ⟨_, res1 rfl rfl rfl, (Ext.refl _), vB (by simp [e])⟩
  · skip
    refine CW.skip ?_
    refine CW.seq (CW.seq (CW.reg ?_))
    refine WL.ev rfl rfl (Ev.as rfl rfl) (WL.nil ?_)
    refine CW.block (CW.loop (α := Nat) (fun q => [(0, .slice A1 x.length c1), (1, .slice A2 y.length c2), (5, .int .i64 (q : Int))]) (fun q wr => Ext w wr ∧ q ≤ x.length ∧ x.take q = y.take q) (fun q => x.length - q) 0 ⟨rfl, rfl, rfl, trivial⟩ ⟨Ext.refl _, by omega, rfl⟩ ?_)
    rintro k σ wr1 ⟨hEwr1, hk, hpre⟩
    refine CW.seq (CW.seq (CW.reg ?_))
    refine WL.ev rfl rfl (Ev.mv rfl rfl) (WL.ev rfl rfl (Ev.mv rfl rfl) (WL.ev rfl rfl (Ev.lenS rfl el77 rfl) (WL.ev rfl rfl (Ev.bin rfl rfl rfl Bin.lss) (WL.nil ?_))))
    refine CW.condD rfl (fun h2 => ?_) (fun h2 => ?_)
    · skip
      refine CW.skip ?_
      refine CW.seq (CW.block (CW.seq (CW.quiet hmix (by kernel_rfl) ?_)))
      refine QL.ev rfl rfl (fun _ _ => Ev.mv rfl rfl) (QL.ev rfl rfl (fun _ _ => Ev.mv rfl rfl) ?_)
      obtain ⟨xe1, be1, oe1, cse1, hxe1, hAe1, hSe1, hre1, hAte1⟩ := rdS.el hx (i := k) (by omega)
      have hK1 := hre1
      obtain ⟨rfl, hr1, hr2⟩ := hre1
      refine QL.ev rfl rfl (fun _ _ => Ev.ixA rfl el77 sz103 rfl hAe1 rfl (by omega)) (QL.ev rfl rfl (fun _ hq => Ev.lda rfl ag103 sz103 rfl (hAte1.ext (hEwr1.trans hq)) rfl) (QL.ev rfl rfl (fun _ _ => Ev.mv rfl rfl) (QL.ev rfl rfl (fun _ _ => Ev.mv rfl rfl) ?_)))
      obtain ⟨xe2, be2, oe2, cse2, hxe2, hAe2, hSe2, hre2, hAte2⟩ := rdS.el hy (i := k) (by omega)
      have hK2 := hre2
      obtain ⟨rfl, hr3, hr4⟩ := hre2
      refine QL.ev rfl rfl (fun _ _ => Ev.ixA rfl el77 sz103 rfl hAe2 rfl (by omega)) (QL.ev rfl rfl (fun _ hq => Ev.lda rfl ag103 sz103 rfl (hAte2.ext (hEwr1.trans hq)) rfl) (QL.call rfl rfl rfl rfl rfl ok94 rfl (fun _ hq => eqInstance_spec _ xe1 xe2 (rd_ext hK1 (hEwr1.trans hq)) (rd_ext hK2 (hEwr1.trans hq))) (QL.ev rfl rfl (fun _ _ => Ev.not rfl rfl) (QL.nil (fun w1 hEw1 => ?_)))))
      refine CW.condN rfl (fun h3 => ?_) (fun h3 => ?_)
      · skip
        refine CW.seq (CW.reg ?_)
        refine WL.ev rfl rfl (Ev.as rfl rfl) (WL.nil ?_)
        refine CW.ret ?_
        have e : x ≠ y := ne_of_at hxe1 hxe2 h3
        exact ⟨_, res1 rfl rfl rfl, (hEwr1.trans hEw1), vB (by simp [e])⟩
      · skip
        refine CW.skip ?_
        refine CW.reg ?_
        refine WL.ev rfl rfl (Ev.mv rfl rfl) (WL.ev rfl rfl (Ev.bin rfl rfl rfl (Bin.add (by omega))) (WL.ev rfl rfl (Ev.as rfl rfl) (WL.nil ?_)))
        exact ⟨k + 1, ⟨rfl, rfl, rfl, trivial⟩, ⟨(hEwr1.trans hEw1), by omega, take_succ_eq hpre hxe1 hxe2 h3⟩, by omega⟩
    · skip
      refine CW.exit ?_
      refine CW.seq (CW.reg ?_)
      refine WL.ev rfl rfl (Ev.as rfl rfl) (WL.nil ?_)
      refine CW.ret ?_
      have e : x = y := eq_of_take (by omega) (by omega) hpre
      exact ⟨_, res1 rfl rfl rfl, hEwr1, vB (by simp [e])⟩

theorem eqTraceStep_spec (w : World) {S S2 : Nat → Prop} (x y : TraceStep) {cs ds : List Value} (hx : rd S w x cs) (hy : rd S2 w y ds) :
    Ret Try.prog 84 #[.agg cs.toArray, .agg ds.toArray] w (fun _ => False) fun v _ => v = .bool (decide (x = y)) := by
  refine enter Try.func84 rfl rfl rfl ?_
  have hK1 := hx
  obtain ⟨v1, rfl, hr1, hr2, hs1⟩ := hx
  obtain ⟨A1, c1, rfl, hc1, hm1⟩ := hs1.form
  have hK2 := hy
  obtain ⟨v2, rfl, hr3, hr4, hs2⟩ := hy
  obtain ⟨A2, c2, rfl, hc2, hm2⟩ := hs2.form
  refine CW.seq (CW.reg ?_)
  refine WL.box rfl rfl rfl rfl rfl fun b1 w1 hEb1 hbb1 hBb1 => ?_
  refine WL.box rfl rfl rfl rfl rfl fun b2 w2 hEb2 hbb2 hBb2 => ?_
  refine WL.ev rfl rfl (Ev.as rfl rfl) (WL.nil ?_)
  refine CW.seq (CW.seq (CW.reg ?_))
  refine WL.ev rfl rfl (Ev.fa rfl fo105_0 rfl) (WL.ev rfl rfl (Ev.lda rfl ag103 sz103 rfl (Blk.part (hBb1.ext hEb2) 0 2) rfl) (WL.ev rfl rfl (Ev.fa rfl fo105_0 rfl) (WL.ev rfl rfl (Ev.lda rfl ag103 sz103 rfl (Blk.part hBb2 0 2) rfl) ?_)))
  refine WL.call rfl rfl rfl rfl rfl ok94 rfl (eqInstance_spec _ x.At y.At (rd_ext (TraceStep_rd_At hK1) (hEb1.trans hEb2)) (rd_ext (TraceStep_rd_At hK2) (hEb1.trans hEb2))) ?_
  rintro _ w3 hEw3 rfl
  refine WL.ev rfl rfl (Ev.not rfl rfl) (WL.nil ?_)
  refine CW.condN rfl (fun h1 => ?_) (fun h1 => ?_)
  · skip
    refine CW.seq (CW.reg ?_)
    refine WL.ev rfl rfl (Ev.as rfl rfl) (WL.nil ?_)
    refine CW.ret ?_
    have e : x ≠ y := by rintro rfl; exact h1 rfl
    exact ⟨_, res1 rfl rfl rfl, ((hEb1.trans hEb2).trans hEw3), vB (by simp [e])⟩
  · skip
    refine CW.skip ?_
    refine CW.seq (CW.seq (CW.reg ?_))
    refine WL.ev rfl rfl (Ev.fa rfl fo105_1 rfl) (WL.ev rfl rfl (Ev.ld rfl ag77 rfl ((hBb1.ext (hEb2.trans hEw3)).cell rfl)) (WL.ev rfl rfl (Ev.fa rfl fo105_1 rfl) (WL.ev rfl rfl (Ev.ld rfl ag77 rfl ((hBb2.ext hEw3).cell rfl)) ?_)))
    refine WL.call rfl rfl rfl rfl rfl ok64 rfl (eqInstanceS_spec _ x.Inputs y.Inputs (hs1.ext ((hEb1.trans hEb2).trans hEw3)) (hs2.ext ((hEb1.trans hEb2).trans hEw3))) ?_
    rintro _ w4 hEw4 rfl
    refine WL.ev rfl rfl (Ev.not rfl rfl) (WL.nil ?_)
    refine CW.condN rfl (fun h2 => ?_) (fun h2 => ?_)
    · skip
      refine CW.seq (CW.reg ?_)
      refine WL.ev rfl rfl (Ev.as rfl rfl) (WL.nil ?_)
      refine CW.ret ?_
      have e : x ≠ y := by rintro rfl; exact h2 rfl
      exact ⟨_, res1 rfl rfl rfl, (((hEb1.trans hEb2).trans hEw3).trans hEw4), vB (by simp [e])⟩
    · skip
      refine CW.skip ?_
      refine CW.seq (CW.reg ?_)
      refine WL.ev rfl rfl (Ev.as rfl rfl) (WL.nil ?_)
      refine CW.ret ?_
      have e : x = y := by cases x; cases y; simp_all
      exact ⟨_, res1 rfl rfl rfl, (((hEb1.trans hEb2).trans hEw3).trans hEw4), vB (by simp [e])⟩

theorem eqTraceStepS_spec (w : World) {S S2 : Nat → Prop} (x y : List TraceStep) {z z2 : Value} (hx : rdS S w x z) (hy : rdS S2 w y z2) :
    Ret Try.prog 53 #[z, z2] w (fun _ => False) fun v _ => v = .bool (decide (x = y)) := by
  refine enter Try.func53 rfl rfl rfl ?_
  obtain ⟨A1, c1, rfl, hc1, hm1⟩ := hx.form
  have hl1 : x.length ≤ 9223372036854775807 := Nat.le_trans hc1 hm1
  obtain ⟨A2, c2, rfl, hc2, hm2⟩ := hy.form
  have hl2 : y.length ≤ 9223372036854775807 := Nat.le_trans hc2 hm2
  refine CW.seq (CW.reg ?_)
  refine WL.ev rfl rfl (Ev.as rfl rfl) (WL.nil ?_)
  refine CW.seq (CW.seq (CW.reg ?_))
  refine WL.ev rfl rfl (Ev.mv rfl rfl) (WL.ev rfl rfl (Ev.lenS rfl el65 rfl) (WL.ev rfl rfl (Ev.mv rfl rfl) (WL.ev rfl rfl (Ev.lenS rfl el65 rfl) (WL.ev rfl rfl (Ev.bin rfl rfl rfl Bin.neq) (WL.nil ?_)))))
  refine CW.condN rfl (fun h1 => ?_) (fun h1 => ?_)
  · skip
    refine CW.seq (CW.reg ?_)
    refine WL.ev rfl rfl (Ev.as rfl rfl) (WL.nil ?_)
    refine CW.ret ?_
    have e : x ≠ y := fun e => h1 (by rw [e])
    exact ⟨_, res1 rfl rfl rfl, (Ext.refl _), vB (by simp [e])⟩
  · skip
    refine CW.skip ?_
    refine CW.seq (CW.seq (CW.reg ?_))
    refine WL.ev rfl rfl (Ev.as rfl rfl) (WL.nil ?_)
    refine CW.block (CW.loop (α := Nat) (fun q => [(0, .slice A1 x.length c1), (1, .slice A2 y.length c2), (5, .int .i64 (q : Int))]) (fun q wr => Ext w wr ∧ q ≤ x.length ∧ x.take q = y.take q) (fun q => x.length - q) 0 ⟨rfl, rfl, rfl, trivial⟩ ⟨Ext.refl _, by omega, rfl⟩ ?_)
    rintro k σ wr1 ⟨hEwr1, hk, hpre⟩
    refine CW.seq (CW.seq (CW.reg ?_))
    refine WL.ev rfl rfl (Ev.mv rfl rfl) (WL.ev rfl rfl (Ev.mv rfl rfl) (WL.ev rfl rfl (Ev.lenS rfl el65 rfl) (WL.ev rfl rfl (Ev.bin rfl rfl rfl Bin.lss) (WL.nil ?_))))
    refine CW.condD rfl (fun h2 => ?_) (fun h2 => ?_)
    · skip
      refine CW.skip ?_
      refine CW.seq (CW.block (CW.seq (CW.quiet hmix (by kernel_rfl) ?_)))
      refine QL.ev rfl rfl (fun _ _ => Ev.mv rfl rfl) (QL.ev rfl rfl (fun _ _ => Ev.mv rfl rfl) ?_)
      obtain ⟨xe1, be1, oe1, cse1, hxe1, hAe1, hSe1, hre1, hAte1⟩ := rdS.el hx (i := k) (by omega)
      have hK1 := hre1
      obtain ⟨v1, rfl, hr1, hr2, hs1⟩ := hre1
      obtain ⟨A3, c3, rfl, hc3, hm3⟩ := hs1.form
      refine QL.ev rfl rfl (fun _ _ => Ev.ixA rfl el65 sz105 rfl hAe1 rfl (by omega)) (QL.ev rfl rfl (fun _ hq => Ev.lda rfl ag105 sz105 rfl (hAte1.ext (hEwr1.trans hq)) rfl) (QL.ev rfl rfl (fun _ _ => Ev.mv rfl rfl) (QL.ev rfl rfl (fun _ _ => Ev.mv rfl rfl) ?_)))
      obtain ⟨xe2, be2, oe2, cse2, hxe2, hAe2, hSe2, hre2, hAte2⟩ := rdS.el hy (i := k) (by omega)
      have hK2 := hre2
      obtain ⟨v2, rfl, hr3, hr4, hs2⟩ := hre2
      obtain ⟨A4, c4, rfl, hc4, hm4⟩ := hs2.form
      refine QL.ev rfl rfl (fun _ _ => Ev.ixA rfl el65 sz105 rfl hAe2 rfl (by omega)) (QL.ev rfl rfl (fun _ hq => Ev.lda rfl ag105 sz105 rfl (hAte2.ext (hEwr1.trans hq)) rfl) (QL.call rfl rfl rfl rfl rfl ok84 rfl (fun _ hq => eqTraceStep_spec _ xe1 xe2 (rd_ext hK1 (hEwr1.trans hq)) (rd_ext hK2 (hEwr1.trans hq))) (QL.ev rfl rfl (fun _ _ => Ev.not rfl rfl) (QL.nil (fun w1 hEw1 => ?_)))))
      refine CW.condN rfl (fun h3 => ?_) (fun h3 => ?_)
      · skip
        refine CW.seq (CW.reg ?_)
        refine WL.ev rfl rfl (Ev.as rfl rfl) (WL.nil ?_)
        refine CW.ret ?_
        have e : x ≠ y := ne_of_at hxe1 hxe2 h3
        exact ⟨_, res1 rfl rfl rfl, (hEwr1.trans hEw1), vB (by simp [e])⟩
      · skip
        refine CW.skip ?_
        refine CW.reg ?_
        refine WL.ev rfl rfl (Ev.mv rfl rfl) (WL.ev rfl rfl (Ev.bin rfl rfl rfl (Bin.add (by omega))) (WL.ev rfl rfl (Ev.as rfl rfl) (WL.nil ?_)))
        exact ⟨k + 1, ⟨rfl, rfl, rfl, trivial⟩, ⟨(hEwr1.trans hEw1), by omega, take_succ_eq hpre hxe1 hxe2 h3⟩, by omega⟩
    · skip
      refine CW.exit ?_
      refine CW.seq (CW.reg ?_)
      refine WL.ev rfl rfl (Ev.as rfl rfl) (WL.nil ?_)
      refine CW.ret ?_
      have e : x = y := eq_of_take (by omega) (by omega) hpre
      exact ⟨_, res1 rfl rfl rfl, hEwr1, vB (by simp [e])⟩

theorem eqIntS_spec (w : World) {S S2 : Nat → Prop} (x y : List Int) {z z2 : Value} (hx : rdS S w x z) (hy : rdS S2 w y z2) :
    Ret Try.prog 47 #[z, z2] w (fun _ => False) fun v _ => v = .bool (decide (x = y)) := by
  refine enter Try.func47 rfl rfl rfl ?_
  obtain ⟨A1, c1, rfl, hc1, hm1⟩ := hx.form
  have hl1 : x.length ≤ 9223372036854775807 := Nat.le_trans hc1 hm1
  obtain ⟨A2, c2, rfl, hc2, hm2⟩ := hy.form
  have hl2 : y.length ≤ 9223372036854775807 := Nat.le_trans hc2 hm2
  refine CW.seq (CW.reg ?_)
  refine WL.ev rfl rfl (Ev.as rfl rfl) (WL.nil ?_)
  refine CW.seq (CW.seq (CW.reg ?_))
  refine WL.ev rfl rfl (Ev.mv rfl rfl) (WL.ev rfl rfl (Ev.lenS rfl el34 rfl) (WL.ev rfl rfl (Ev.mv rfl rfl) (WL.ev rfl rfl (Ev.lenS rfl el34 rfl) (WL.ev rfl rfl (Ev.bin rfl rfl rfl Bin.neq) (WL.nil ?_)))))
  refine CW.condN rfl (fun h1 => ?_) (fun h1 => ?_)
  · skip
    refine CW.seq (CW.reg ?_)
    refine WL.ev rfl rfl (Ev.as rfl rfl) (WL.nil ?_)
    refine CW.ret ?_
    have e : x ≠ y := fun e => h1 (by rw [e])
    exact ⟨_, res1 rfl rfl rfl, (Ext.refl _), vB (by simp [e])⟩
  · skip
    refine CW.skip ?_
    refine CW.seq (CW.seq (CW.reg ?_))
    refine WL.ev rfl rfl (Ev.as rfl rfl) (WL.nil ?_)
    refine CW.block (CW.loop (α := Nat) (fun q => [(0, .slice A1 x.length c1), (1, .slice A2 y.length c2), (5, .int .i64 (q : Int))]) (fun q wr => Ext w wr ∧ q ≤ x.length ∧ x.take q = y.take q) (fun q => x.length - q) 0 ⟨rfl, rfl, rfl, trivial⟩ ⟨Ext.refl _, by omega, rfl⟩ ?_)
    rintro k σ wr1 ⟨hEwr1, hk, hpre⟩
    refine CW.seq (CW.seq (CW.reg ?_))
    refine WL.ev rfl rfl (Ev.mv rfl rfl) (WL.ev rfl rfl (Ev.mv rfl rfl) (WL.ev rfl rfl (Ev.lenS rfl el34 rfl) (WL.ev rfl rfl (Ev.bin rfl rfl rfl Bin.lss) (WL.nil ?_))))
    refine CW.condD rfl (fun h2 => ?_) (fun h2 => ?_)
    · skip
      refine CW.skip ?_
      refine CW.seq (CW.block (CW.seq (CW.quiet hmix (by kernel_rfl) ?_)))
      refine QL.ev rfl rfl (fun _ _ => Ev.mv rfl rfl) (QL.ev rfl rfl (fun _ _ => Ev.mv rfl rfl) ?_)
      obtain ⟨xe1, be1, oe1, cse1, hxe1, hAe1, hSe1, hre1, hAte1⟩ := rdS.el hx (i := k) (by omega)
      have hK1 := hre1
      obtain ⟨rfl, hr1⟩ := hre1
      refine QL.ev rfl rfl (fun _ _ => Ev.ixA rfl el34 sz3 rfl hAe1 rfl (by omega)) (QL.ev rfl rfl (fun _ hq => Ev.ld rfl ag3 rfl ((hAte1.ext (hEwr1.trans hq)).cell0 rfl)) (QL.ev rfl rfl (fun _ _ => Ev.mv rfl rfl) (QL.ev rfl rfl (fun _ _ => Ev.mv rfl rfl) ?_)))
      obtain ⟨xe2, be2, oe2, cse2, hxe2, hAe2, hSe2, hre2, hAte2⟩ := rdS.el hy (i := k) (by omega)
      have hK2 := hre2
      obtain ⟨rfl, hr2⟩ := hre2
      refine QL.ev rfl rfl (fun _ _ => Ev.ixA rfl el34 sz3 rfl hAe2 rfl (by omega)) (QL.ev rfl rfl (fun _ hq => Ev.ld rfl ag3 rfl ((hAte2.ext (hEwr1.trans hq)).cell0 rfl)) (QL.ev rfl rfl (fun _ _ => Ev.bin rfl rfl rfl Bin.neq) (QL.nil (fun w1 hEw1 => ?_))))
      refine CW.condN rfl (fun h3 => ?_) (fun h3 => ?_)
      · skip
        refine CW.seq (CW.reg ?_)
        refine WL.ev rfl rfl (Ev.as rfl rfl) (WL.nil ?_)
        refine CW.ret ?_
        have e : x ≠ y := ne_of_at hxe1 hxe2 h3
        exact ⟨_, res1 rfl rfl rfl, (hEwr1.trans hEw1), vB (by simp [e])⟩
      · skip
        refine CW.skip ?_
        refine CW.reg ?_
        refine WL.ev rfl rfl (Ev.mv rfl rfl) (WL.ev rfl rfl (Ev.bin rfl rfl rfl (Bin.add (by omega))) (WL.ev rfl rfl (Ev.as rfl rfl) (WL.nil ?_)))
        exact ⟨k + 1, ⟨rfl, rfl, rfl, trivial⟩, ⟨(hEwr1.trans hEw1), by omega, take_succ_eq hpre hxe1 hxe2 h3⟩, by omega⟩
    · skip
      refine CW.exit ?_
      refine CW.seq (CW.reg ?_)
      refine WL.ev rfl rfl (Ev.as rfl rfl) (WL.nil ?_)
      refine CW.ret ?_
      have e : x = y := eq_of_take (by omega) (by omega) hpre
      exact ⟨_, res1 rfl rfl rfl, hEwr1, vB (by simp [e])⟩

theorem FnExactCheckSlots_law (w : World) {St : Nat → Prop} (t : List TraceStep) {zt : Value} (ht : rdS St w t zt) {Sk : Nat → Prop} (k : List Instance) {zk : Value} (hk : rdS Sk w k zk) {Sc : Nat → Prop} (c : List Int) {zc : Value} (hc : rdS Sc w c zc) :
    Ret Try.prog 14 #[zt, zk, zc] w (fun _ => False) fun v _ => v = .bool true := by
  refine enter Try.func14 rfl rfl rfl ?_
  obtain ⟨A1, c1, rfl, hc1, hm1⟩ := ht.form
  have hl1 : t.length ≤ 9223372036854775807 := Nat.le_trans hc1 hm1
  have nt := szL_length t
  have qt := szfold t
  obtain ⟨A2, c2, rfl, hc2, hm2⟩ := hk.form
  have hl2 : k.length ≤ 9223372036854775807 := Nat.le_trans hc2 hm2
  have nk := szL_length k
  have qk := szfold k
  obtain ⟨A3, c3, rfl, hc3, hm3⟩ := hc.form
  have hl3 : c.length ≤ 9223372036854775807 := Nat.le_trans hc3 hm3
  have nc := szL_length c
  have qc := szfold c
  have zc := szL_int c
  refine CW.seq (CW.reg ?_)
  refine WL.ev rfl rfl (Ev.as rfl rfl) (WL.nil ?_)
  refine CW.seq (CW.seq (CW.reg ?_))
  refine WL.ev rfl rfl (Ev.mv rfl rfl) (WL.ev rfl rfl (Ev.lenS rfl el34 rfl) (WL.ev rfl rfl (Ev.bin rfl rfl rfl Bin.gtr) (WL.nil ?_)))
  refine CW.condD rfl (fun h1 => ?_) (fun h1 => ?_)
  · skip
    refine CW.seq (CW.reg ?_)
    refine WL.ev rfl rfl (Ev.as rfl rfl) (WL.nil ?_)
    refine CW.ret ?_
    exact ⟨_, res1 rfl rfl rfl, (Ext.refl _), rfl⟩
  · skip
    refine CW.skip ?_
    refine CW.fresh [(0, .slice A1 t.length c1), (1, .slice A2 k.length c2), (2, .slice A3 c.length c3), (6, .bool false)] ⟨rfl, rfl, rfl, rfl, trivial⟩ fun σ => ?_
    refine CW.seq (CW.reg ?_)
    refine WL.ev rfl rfl (Ev.as rfl rfl) (WL.nil ?_)
    refine CW.fresh [(0, .slice A1 t.length c1), (1, .slice A2 k.length c2), (2, .slice A3 c.length c3), (6, .bool false), (7, .int .i64 (1048576))] ⟨rfl, rfl, rfl, rfl, rfl, trivial⟩ fun σ => ?_
    refine CW.seq (CW.reg ?_)
    refine WL.ev rfl rfl (Ev.mv rfl rfl) (WL.ev rfl rfl (Ev.mv rfl rfl) ?_)
    refine WL.call rfl rfl rfl rfl rfl ok49 rfl (szTraceStepS_spec _ t ht _ (by omega) (by omega)) ?_
    rintro _ w1 hEw1 ⟨r1, rfl, hr1⟩
    have hq1 := szfold t
    refine WL.ev rfl rfl (Ev.as rfl rfl) (WL.nil ?_)
    refine CW.fresh [(0, .slice A1 t.length c1), (1, .slice A2 k.length c2), (2, .slice A3 c.length c3), (6, .bool false), (7, .int .i64 (r1))] ⟨rfl, rfl, rfl, rfl, rfl, trivial⟩ fun σ => ?_
    refine CW.seq (CW.seq (CW.reg ?_))
    refine WL.ev rfl rfl (Ev.mv rfl rfl) (WL.ev rfl rfl (Ev.bin rfl rfl rfl Bin.lss) (WL.nil ?_))
    refine CW.condD rfl (fun h2 => ?_) (fun h2 => ?_)
    · skip
      refine CW.fresh [(0, .slice A1 t.length c1), (1, .slice A2 k.length c2), (2, .slice A3 c.length c3), (6, .bool false), (7, .int .i64 (r1))] ⟨rfl, rfl, rfl, rfl, rfl, trivial⟩ fun σ => ?_
      refine CW.seq (CW.reg ?_)
      refine WL.ev rfl rfl (Ev.as rfl rfl) (WL.nil ?_)
      refine CW.ret ?_
      exact ⟨_, res1 rfl rfl rfl, hEw1, rfl⟩
    · skip
      refine CW.skip ?_
      refine CW.fresh [(0, .slice A1 t.length c1), (1, .slice A2 k.length c2), (2, .slice A3 c.length c3), (6, .bool false), (7, .int .i64 (r1))] ⟨rfl, rfl, rfl, rfl, rfl, trivial⟩ fun σ => ?_
      refine CW.seq (CW.reg ?_)
      refine WL.ev rfl rfl (Ev.mv rfl rfl) (WL.ev rfl rfl (Ev.mv rfl rfl) ?_)
      refine WL.call rfl rfl rfl rfl rfl ok60 rfl (szInstanceS_spec _ k (hk.ext hEw1) _ (by omega) (by omega)) ?_
      rintro _ w2 hEw2 ⟨r2, rfl, hr2⟩
      have hq2 := szfold k
      refine WL.ev rfl rfl (Ev.as rfl rfl) (WL.nil ?_)
      refine CW.fresh [(0, .slice A1 t.length c1), (1, .slice A2 k.length c2), (2, .slice A3 c.length c3), (6, .bool false), (7, .int .i64 (r2))] ⟨rfl, rfl, rfl, rfl, rfl, trivial⟩ fun σ => ?_
      refine CW.seq (CW.seq (CW.reg ?_))
      refine WL.ev rfl rfl (Ev.mv rfl rfl) (WL.ev rfl rfl (Ev.bin rfl rfl rfl Bin.lss) (WL.nil ?_))
      refine CW.condD rfl (fun h3 => ?_) (fun h3 => ?_)
      · skip
        refine CW.fresh [(0, .slice A1 t.length c1), (1, .slice A2 k.length c2), (2, .slice A3 c.length c3), (6, .bool false)] ⟨rfl, rfl, rfl, rfl, trivial⟩ fun σ => ?_
        refine CW.seq (CW.reg ?_)
        refine WL.ev rfl rfl (Ev.as rfl rfl) (WL.nil ?_)
        refine CW.ret ?_
        exact ⟨_, res1 rfl rfl rfl, (hEw1.trans hEw2), rfl⟩
      · skip
        refine CW.skip ?_
        refine CW.fresh [(0, .slice A1 t.length c1), (1, .slice A2 k.length c2), (2, .slice A3 c.length c3), (6, .bool false)] ⟨rfl, rfl, rfl, rfl, trivial⟩ fun σ => ?_
        refine CW.seq (CW.reg ?_)
        refine WL.ev rfl rfl (Ev.mv rfl rfl) ?_
        refine WL.call rfl rfl rfl rfl rfl ok51 rfl (toTraceStepS_spec _ t (ht.ext (hEw1.trans hEw2)) (by omega)) ?_
        rintro v1 w3 hEw3 ⟨L1, hO1, hN1, hF1⟩
        obtain ⟨A4, c4, rfl, hc4, hm4⟩ := hO1.form
        refine WL.ev rfl rfl (Ev.mv rfl rfl) ?_
        refine WL.call rfl rfl rfl rfl rfl ok62 rfl (toInstanceS_spec _ k (hk.ext ((hEw1.trans hEw2).trans hEw3)) (by omega)) ?_
        rintro v2 w4 hEw4 ⟨L2, hO2, hN2, hF2⟩
        obtain ⟨A5, c5, rfl, hc5, hm5⟩ := hO2.form
        refine WL.ev rfl rfl (Ev.mv rfl rfl) ?_
        refine WL.call rfl rfl rfl rfl rfl ok45 rfl (toIntS_spec _ c (hc.ext (((hEw1.trans hEw2).trans hEw3).trans hEw4)) (by omega)) ?_
        rintro v3 w5 hEw5 ⟨L3, hO3, hN3, hF3⟩
        obtain ⟨A6, c6, rfl, hc6, hm6⟩ := hO3.form
        refine WL.call rfl rfl rfl rfl rfl ok61 rfl (sCheckSlots_spec _ t (hO1.ext (hEw4.trans hEw5)).rd (by omega) k (hO2.ext hEw5).rd (by omega) c hO3.rd (by omega)) ?_
        rintro _ w6 hEw6 rfl
        refine WL.ev rfl rfl (Ev.as rfl rfl) (WL.nil ?_)
        refine CW.fresh [(0, .slice A1 t.length c1), (1, .slice A2 k.length c2), (2, .slice A3 c.length c3), (6, .bool false), (8, .bool ((sCheckSlots_m t k c).getD false))] ⟨rfl, rfl, rfl, rfl, rfl, trivial⟩ fun σ => ?_
        refine CW.seq (CW.reg ?_)
        refine WL.ev rfl rfl (Ev.mv rfl rfl) ?_
        refine WL.call rfl rfl rfl rfl rfl ok51 rfl (toTraceStepS_spec _ t (ht.ext (((((hEw1.trans hEw2).trans hEw3).trans hEw4).trans hEw5).trans hEw6)) (by omega)) ?_
        rintro v4 w7 hEw7 ⟨L4, hO4, hN4, hF4⟩
        obtain ⟨A7, c7, rfl, hc7, hm7⟩ := hO4.form
        refine WL.ev rfl rfl (Ev.as rfl rfl) (WL.nil ?_)
        refine CW.fresh [(0, .slice A1 t.length c1), (1, .slice A2 k.length c2), (2, .slice A3 c.length c3), (6, .bool false), (8, .bool ((sCheckSlots_m t k c).getD false)), (9, .slice A7 (t).length c7)] ⟨rfl, rfl, rfl, rfl, rfl, rfl, trivial⟩ fun σ => ?_
        refine CW.seq (CW.reg ?_)
        refine WL.ev rfl rfl (Ev.mv rfl rfl) ?_
        refine WL.call rfl rfl rfl rfl rfl ok62 rfl (toInstanceS_spec _ k (hk.ext ((((((hEw1.trans hEw2).trans hEw3).trans hEw4).trans hEw5).trans hEw6).trans hEw7)) (by omega)) ?_
        rintro v5 w8 hEw8 ⟨L5, hO5, hN5, hF5⟩
        obtain ⟨A8, c8, rfl, hc8, hm8⟩ := hO5.form
        refine WL.ev rfl rfl (Ev.as rfl rfl) (WL.nil ?_)
        refine CW.fresh [(0, .slice A1 t.length c1), (1, .slice A2 k.length c2), (2, .slice A3 c.length c3), (6, .bool false), (8, .bool ((sCheckSlots_m t k c).getD false)), (9, .slice A7 (t).length c7), (10, .slice A8 (k).length c8)] ⟨rfl, rfl, rfl, rfl, rfl, rfl, rfl, trivial⟩ fun σ => ?_
        refine CW.seq (CW.reg ?_)
        refine WL.ev rfl rfl (Ev.mv rfl rfl) ?_
        refine WL.call rfl rfl rfl rfl rfl ok45 rfl (toIntS_spec _ c (hc.ext (((((((hEw1.trans hEw2).trans hEw3).trans hEw4).trans hEw5).trans hEw6).trans hEw7).trans hEw8)) (by omega)) ?_
        rintro v6 w9 hEw9 ⟨L6, hO6, hN6, hF6⟩
        obtain ⟨A9, c9, rfl, hc9, hm9⟩ := hO6.form
        refine WL.ev rfl rfl (Ev.as rfl rfl) (WL.nil ?_)
        refine CW.fresh [(0, .slice A1 t.length c1), (1, .slice A2 k.length c2), (2, .slice A3 c.length c3), (6, .bool false), (8, .bool ((sCheckSlots_m t k c).getD false)), (9, .slice A7 (t).length c7), (10, .slice A8 (k).length c8), (11, .slice A9 (c).length c9)] ⟨rfl, rfl, rfl, rfl, rfl, rfl, rfl, rfl, trivial⟩ fun σ => ?_
        refine CW.seq (CW.reg ?_)
        refine WL.ev rfl rfl (Ev.mv rfl rfl) (WL.ev rfl rfl (Ev.mv rfl rfl) (WL.ev rfl rfl (Ev.mv rfl rfl) ?_))
        refine WL.call rfl rfl rfl rfl rfl ok63 rfl (iCheckSlots_spec _ t (hO4.ext (hEw8.trans hEw9)).rd (by omega) k (hO5.ext hEw9).rd (by omega) c hO6.rd (by omega)) ?_
        rintro _ w10 hEw10 rfl
        refine WL.ev rfl rfl (Ev.as rfl rfl) (WL.nil ?_)
        refine CW.fresh [(0, .slice A1 t.length c1), (1, .slice A2 k.length c2), (2, .slice A3 c.length c3), (6, .bool false), (8, .bool ((sCheckSlots_m t k c).getD false)), (9, .slice A7 (t).length c7), (10, .slice A8 (k).length c8), (11, .slice A9 (c).length c9), (12, .bool ((sCheckSlots_m t k c).getD false))] ⟨rfl, rfl, rfl, rfl, rfl, rfl, rfl, rfl, rfl, trivial⟩ fun σ => ?_
        refine CW.seq (CW.seq (CW.reg ?_))
        refine WL.ev rfl rfl (Ev.mv rfl rfl) (WL.ev rfl rfl (Ev.mv rfl rfl) (WL.ev rfl rfl (Ev.bin rfl rfl rfl (Bin.neqSameB Try.underlying4 rfl)) (WL.nil ?_)))
        refine CW.condF rfl ?_
        refine CW.skip ?_
        refine CW.fresh [(0, .slice A1 t.length c1), (1, .slice A2 k.length c2), (2, .slice A3 c.length c3), (6, .bool false), (9, .slice A7 (t).length c7), (10, .slice A8 (k).length c8), (11, .slice A9 (c).length c9)] ⟨rfl, rfl, rfl, rfl, rfl, rfl, rfl, trivial⟩ fun σ => ?_
        refine CW.seq (CW.seq (CW.reg ?_))
        refine WL.ev rfl rfl (Ev.mv rfl rfl) (WL.ev rfl rfl (Ev.mv rfl rfl) ?_)
        refine WL.call rfl rfl rfl rfl rfl ok51 rfl (toTraceStepS_spec _ t (ht.ext (((((((((hEw1.trans hEw2).trans hEw3).trans hEw4).trans hEw5).trans hEw6).trans hEw7).trans hEw8).trans hEw9).trans hEw10)) (by omega)) ?_
        rintro v7 w11 hEw11 ⟨L7, hO7, hN7, hF7⟩
        obtain ⟨A10, c10, rfl, hc10, hm10⟩ := hO7.form
        refine WL.call rfl rfl rfl rfl rfl ok53 rfl ((eqTraceStepS_spec _ t t (hO4.ext (((hEw8.trans hEw9).trans hEw10).trans hEw11)).rd hO7.rd).yes rfl) ?_
        rintro _ w12 hEw12 rfl
        refine WL.ev rfl rfl (Ev.not rfl rfl) (WL.nil ?_)
        refine CW.condF rfl ?_
        refine CW.skip ?_
        refine CW.fresh [(1, .slice A2 k.length c2), (2, .slice A3 c.length c3), (6, .bool false), (10, .slice A8 (k).length c8), (11, .slice A9 (c).length c9)] ⟨rfl, rfl, rfl, rfl, rfl, trivial⟩ fun σ => ?_
        refine CW.seq (CW.seq (CW.reg ?_))
        refine WL.ev rfl rfl (Ev.mv rfl rfl) (WL.ev rfl rfl (Ev.mv rfl rfl) ?_)
        refine WL.call rfl rfl rfl rfl rfl ok62 rfl (toInstanceS_spec _ k (hk.ext (((((((((((hEw1.trans hEw2).trans hEw3).trans hEw4).trans hEw5).trans hEw6).trans hEw7).trans hEw8).trans hEw9).trans hEw10).trans hEw11).trans hEw12)) (by omega)) ?_
        rintro v8 w13 hEw13 ⟨L8, hO8, hN8, hF8⟩
        obtain ⟨A11, c11, rfl, hc11, hm11⟩ := hO8.form
        refine WL.call rfl rfl rfl rfl rfl ok64 rfl ((eqInstanceS_spec _ k k (hO5.ext ((((hEw9.trans hEw10).trans hEw11).trans hEw12).trans hEw13)).rd hO8.rd).yes rfl) ?_
        rintro _ w14 hEw14 rfl
        refine WL.ev rfl rfl (Ev.not rfl rfl) (WL.nil ?_)
        refine CW.condF rfl ?_
        refine CW.skip ?_
        refine CW.fresh [(2, .slice A3 c.length c3), (6, .bool false), (11, .slice A9 (c).length c9)] ⟨rfl, rfl, rfl, trivial⟩ fun σ => ?_
        refine CW.seq (CW.seq (CW.reg ?_))
        refine WL.ev rfl rfl (Ev.mv rfl rfl) (WL.ev rfl rfl (Ev.mv rfl rfl) ?_)
        refine WL.call rfl rfl rfl rfl rfl ok45 rfl (toIntS_spec _ c (hc.ext (((((((((((((hEw1.trans hEw2).trans hEw3).trans hEw4).trans hEw5).trans hEw6).trans hEw7).trans hEw8).trans hEw9).trans hEw10).trans hEw11).trans hEw12).trans hEw13).trans hEw14)) (by omega)) ?_
        rintro v9 w15 hEw15 ⟨L9, hO9, hN9, hF9⟩
        obtain ⟨A12, c12, rfl, hc12, hm12⟩ := hO9.form
        refine WL.call rfl rfl rfl rfl rfl ok47 rfl ((eqIntS_spec _ c c (hO6.ext (((((hEw10.trans hEw11).trans hEw12).trans hEw13).trans hEw14).trans hEw15)).rd hO9.rd).yes rfl) ?_
        rintro _ w16 hEw16 rfl
        refine WL.ev rfl rfl (Ev.not rfl rfl) (WL.nil ?_)
        refine CW.condF rfl ?_
        refine CW.skip ?_
        refine CW.fresh [(6, .bool false)] ⟨rfl, trivial⟩ fun σ => ?_
        refine CW.seq (CW.reg ?_)
        refine WL.ev rfl rfl (Ev.as rfl rfl) (WL.nil ?_)
        refine CW.ret ?_
        exact ⟨_, res1 rfl rfl rfl, (((((((((((((((hEw1.trans hEw2).trans hEw3).trans hEw4).trans hEw5).trans hEw6).trans hEw7).trans hEw8).trans hEw9).trans hEw10).trans hEw11).trans hEw12).trans hEw13).trans hEw14).trans hEw15).trans hEw16), rfl⟩

theorem open3 : Opens Try.prog 3 Int := Opens.int (by kernel_rfl) Try.underlying3
theorem open9 : Opens Try.prog 9 ByteArray := Opens.str (by kernel_rfl) Try.underlying9
theorem open99 : Opens Try.prog 99 Instance := by
  refine Opens.struct (k := 2) (by kernel_rfl) rfl Try.underlying99 fun H enc w base spare held n cs xs hl hx hf => ?_
  obtain ⟨c0, t0, rfl, hl0⟩ := lenS hl
  obtain ⟨c1, t1, rfl, hl1⟩ := lenS hl0
  obtain rfl := len0 hl1
  obtain ⟨a0, r0⟩ := Opens.fld (i := 0) (t := 3) (off := 0) (k := 1) open3 hf hx rfl rfl rfl rfl
  have q0 : rd (fun _ => True) w a0 [c0] := r0
  obtain ⟨e0, h0_0⟩ := q0
  simp only [List.cons.injEq, and_true] at e0
  obtain rfl := e0
  obtain ⟨a1, r1⟩ := Opens.fld (i := 1) (t := 9) (off := 1) (k := 1) open9 hf hx rfl rfl rfl rfl
  have q1 : rd (fun _ => True) w a1 [c1] := r1
  obtain ⟨e1, h1_0⟩ := q1
  simp only [List.cons.injEq, and_true] at e1
  obtain rfl := e1
  exact ⟨⟨a0, a1⟩, rfl, h0_0, h1_0⟩
theorem open74 : Opens Try.prog 74 (List Instance) := Opens.slice (by kernel_rfl) Try.underlying74 open99
theorem open101 : Opens Try.prog 101 TraceStep := by
  refine Opens.struct (k := 3) (by kernel_rfl) rfl Try.underlying101 fun H enc w base spare held n cs xs hl hx hf => ?_
  obtain ⟨c0, t0, rfl, hl0⟩ := lenS hl
  obtain ⟨c1, t1, rfl, hl1⟩ := lenS hl0
  obtain ⟨c2, t2, rfl, hl2⟩ := lenS hl1
  obtain rfl := len0 hl2
  obtain ⟨a0, r0⟩ := Opens.fld (i := 0) (t := 99) (off := 0) (k := 2) open99 hf hx rfl rfl rfl rfl
  have q0 : rd (fun _ => True) w a0 [c0, c1] := r0
  obtain ⟨e0, h0_0, h0_1⟩ := q0
  simp only [List.cons.injEq, and_true] at e0
  obtain ⟨rfl, rfl⟩ := e0
  obtain ⟨a1, r1⟩ := Opens.fld (i := 1) (t := 74) (off := 2) (k := 1) open74 hf hx rfl rfl rfl rfl
  have q1 : rd (fun _ => True) w a1 [c2] := r1
  obtain ⟨v1_0, e1, s1_0⟩ := q1
  simp only [List.cons.injEq, and_true] at e1
  obtain rfl := e1
  exact ⟨⟨a0, a1⟩, _, rfl, h0_0, h0_1, s1_0⟩
theorem open62 : Opens Try.prog 62 (List TraceStep) := Opens.slice (by kernel_rfl) Try.underlying62 open101
theorem open34 : Opens Try.prog 34 (List Int) := Opens.slice (by kernel_rfl) Try.underlying34 open3
section
open Go.ChangeShapes Go.WideShapes Go.ChangeAt Go.RowKit
theorem own_knob : ownKnob Try.prog.godebug = none := by kernel_rfl
theorem laid_out : laidOutB Try.prog = true := by kernel_rfl
set_option maxRecDepth 100000 in
theorem fnExactCheckSlots_lifted (os : Os) (started : os.Started) (H : Type) (enc : TypeId × Value → H) :
    ReturnsInHanded {} Try.checked os 14 .any (Rows.fnExactCheckSlotsSpec.pre6 enc Try.prog Try.f14 Rows.fnExactCheckSlotsRow.domain false) (Rows.fnExactCheckSlotsSpec.post enc Try.prog Try.f14 false true false false) := by
  refine returnsInHanded_of_change (C := Try.checked) own_knob started (by kernel_rfl) Try.func14
    (ChangeSpec.witness6 (enc := enc) (C := Try.checked) false ⟨#[], #[.slice none 0 0, .slice none 0 0, .slice none 0 0], []⟩ 8 (by kernel_rfl) (by kernel_rfl) (by kernel_rfl) (by kernel_rfl)) ?_
  intro W base args ds gs before hval0 hW hcnd _
  have hval : ∀ (j : Nat) t v, Try.f14.params[j]? = some t → args[j]? = some v → Value.okWide Try.prog W .any base t v := hval0
  have hW' := hW
  obtain ⟨p, q, hA0, hV, rfl, hfz, hnd⟩ := hW
  have hA : DataW.TrodAll enc Try.prog W 0 (fun _ => true) true Try.f14.params.toList args.toList ds p := hA0
  rw [Try.params14] at hA hval
  obtain ⟨v0, vs0, d0, ds0, p0, q0, hargs, rfl, rfl, t0, r0⟩ := trodAll_cons hA
  obtain ⟨v1, vs1, d1, ds1, p1, q1, rfl, rfl, rfl, t1, r1⟩ := trodAll_cons r0
  obtain ⟨v2, vs2, d2, ds2, p2, q2, rfl, rfl, rfl, t2, r2⟩ := trodAll_cons r1
  obtain ⟨rfl, rfl, rfl⟩ := trodAll_nil r2
  obtain rfl : args = #[v0, v1, v2] := by cases args; simp_all
  obtain ⟨rfl, rfl⟩ := trodVars_none hV
  have k0 := t0
  have lt0 : ∀ x ∈ p0, x.block < W.heap.size := by obtain ⟨m, hm⟩ := k0; exact DataW.trod_lt m _ _ _ hm
  obtain ⟨m0, hm0⟩ := t0
  obtain ⟨a0, ha0⟩ := open62.2 _ _ _ _ _ _ _ _ _ hm0
  obtain ⟨x0, l0, c0, rfl⟩ := okWide_slice Try.underlying62 (hval 0 62 v0 rfl rfl)
  obtain ⟨z0, e0, ha0⟩ := ha0
  obtain rfl : Value.slice x0 l0 c0 = z0 := by injection e0
  have k1 := t1
  have lt1 : ∀ x ∈ p1, x.block < W.heap.size := by obtain ⟨m, hm⟩ := k1; exact DataW.trod_lt m _ _ _ hm
  obtain ⟨m1, hm1⟩ := t1
  obtain ⟨a1, ha1⟩ := open74.2 _ _ _ _ _ _ _ _ _ hm1
  obtain ⟨x1, l1, c1, rfl⟩ := okWide_slice Try.underlying74 (hval 1 74 v1 rfl rfl)
  obtain ⟨z1, e1, ha1⟩ := ha1
  obtain rfl : Value.slice x1 l1 c1 = z1 := by injection e1
  have k2 := t2
  have lt2 : ∀ x ∈ p2, x.block < W.heap.size := by obtain ⟨m, hm⟩ := k2; exact DataW.trod_lt m _ _ _ hm
  obtain ⟨m2, hm2⟩ := t2
  obtain ⟨a2, ha2⟩ := open34.2 _ _ _ _ _ _ _ _ _ hm2
  obtain ⟨x2, l2, c2, rfl⟩ := okWide_slice Try.underlying34 (hval 2 34 v2 rfl rfl)
  obtain ⟨z2, e2, ha2⟩ := ha2
  obtain rfl : Value.slice x2 l2 c2 = z2 := by injection e2
  clear hA0 hval0
  refine Calls.mono (FnExactCheckSlots_law W a0 ha0 a1 ha1 a2 ha2) fun e W' ⟨v, he, hch, hv⟩ => ?_
  subst he; subst hv
  have bel := Ext.below hch
  exact ⟨_, rfl, _, _, _, [], _, [], hW', trodAll_mk1 (shut_bool Try.underlying4 _), (trodAll_cons_mk (Below.trod laid_out (by kernel_rfl) (of_decide_eq_true (by kernel_rfl)) k0 bel lt0) (trodAll_cons_mk (Below.trod laid_out (by kernel_rfl) (of_decide_eq_true (by kernel_rfl)) k1 bel lt1) (trodAll_cons_mk (Below.trod laid_out (by kernel_rfl) (of_decide_eq_true (by kernel_rfl)) k2 bel lt2) trodAll_mk0))), rfl, bel.frame _, fun h => by cases h⟩
theorem fnExactCheckSlots_holds : Rows.FnExactCheckSlotsSaid :=
  OpenClaim.holds_of_wide 14 Try.f14 rfl rfl rfl rfl rfl rfl rfl ⟨rfl, rfl, rfl, rfl, rfl⟩ rfl rfl rfl rfl rfl (by kernel_rfl) Try.func14 (by kernel_rfl)
    (of_decide_eq_true (by kernel_rfl)) (by unfold Func.isWrapper; first | (rw [if_pos (by decide +kernel)]; kernel_rfl) | (rw [if_neg (by decide +kernel)]; exact ⟨rfl, rfl⟩))
    (fun os started H enc _ => fnExactCheckSlots_lifted os started H enc)
end
end Go.Proofs.Ytaenbhfjiihhnaa
