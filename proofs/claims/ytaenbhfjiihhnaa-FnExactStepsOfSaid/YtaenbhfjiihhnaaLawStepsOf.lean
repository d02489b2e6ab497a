/- The law FnExactStepsOf returns true for all arguments and leaves them as they were; there is no condition. -/
import Derived.Test.YtaenbhfjiihhnaaRows
import Derived.Test.YtaenbhfjiihhnaaEngB
import Derived.Test.YtaenbhfjiihhnaaRel
set_option linter.unusedVariables false
set_option linter.unusedSimpArgs false
set_option linter.ambiguousOpen false
set_option linter.unusedSectionVars false
set_option linter.unusedVariables false
set_option linter.unusedSimpArgs false
set_option maxRecDepth 100000
namespace Go.Proofs.Ytaenbhfjiihhnaa
open Go Go.E
open Go.E.Rep (rd)
open Go.E.Sep (own)
theorem ag3 : aggT Try.prog 3 = some false := by kernel_rfl
theorem ag9 : aggT Try.prog 9 = some false := by kernel_rfl
theorem ag69 : aggT Try.prog 69 = some false := by kernel_rfl
theorem ag87 : aggT Try.prog 87 = some false := by kernel_rfl
theorem ag89 : aggT Try.prog 89 = some true := by kernel_rfl
theorem ag91 : aggT Try.prog 91 = some true := by kernel_rfl
theorem ag93 : aggT Try.prog 93 = some true := by kernel_rfl
theorem ag120 : aggT Try.prog 120 = some true := by kernel_rfl
theorem sz3 : szT Try.prog 3 = some 1 := by kernel_rfl
theorem sz5 : szT Try.prog 5 = some 1 := by kernel_rfl
theorem sz9 : szT Try.prog 9 = some 1 := by kernel_rfl
theorem sz69 : szT Try.prog 69 = some 1 := by kernel_rfl
theorem sz89 : szT Try.prog 89 = some 2 := by kernel_rfl
theorem sz91 : szT Try.prog 91 = some 2 := by kernel_rfl
theorem sz93 : szT Try.prog 93 = some 4 := by kernel_rfl
theorem sz120 : szT Try.prog 120 = some 4 := by kernel_rfl
theorem by91 : byT Try.prog 91 = some 40 := by kernel_rfl
theorem by93 : byT Try.prog 93 = some 40 := by kernel_rfl
theorem ze5 : zeroT Try.prog 5 = some [.int .u8 0] := by kernel_rfl
theorem ze91 : zeroT Try.prog 91 = some [.string ⟨#[]⟩, .slice none 0 0] := by kernel_rfl
theorem ze93 : zeroT Try.prog 93 = some [.int .i64 0, .int .i64 0, .int .i64 0, .string ⟨#[]⟩] := by kernel_rfl
theorem el49 : elemT Try.prog 49 = some 89 := by kernel_rfl
theorem el52 : elemT Try.prog 52 = some 91 := by kernel_rfl
theorem el69 : elemT Try.prog 69 = some 93 := by kernel_rfl
theorem el87 : elemT Try.prog 87 = some 120 := by kernel_rfl
theorem el118 : elemT Try.prog 118 = some 5 := by kernel_rfl
theorem it5 : intT Try.prog 5 = some .u8 := by kernel_rfl
theorem fo89_0 : fieldT Try.prog 89 0 = some 0 := by kernel_rfl
theorem fo89_1 : fieldT Try.prog 89 1 = some 1 := by kernel_rfl
theorem fo91_0 : fieldT Try.prog 91 0 = some 0 := by kernel_rfl
theorem fo91_1 : fieldT Try.prog 91 1 = some 1 := by kernel_rfl
theorem fo93_0 : fieldT Try.prog 93 0 = some 0 := by kernel_rfl
theorem fo93_1 : fieldT Try.prog 93 1 = some 1 := by kernel_rfl
theorem fo93_2 : fieldT Try.prog 93 2 = some 2 := by kernel_rfl
theorem fo93_3 : fieldT Try.prog 93 3 = some 3 := by kernel_rfl
theorem fo120_0 : fieldT Try.prog 120 0 = some 0 := by kernel_rfl
theorem fo120_1 : fieldT Try.prog 120 1 = some 1 := by kernel_rfl
theorem fo120_2 : fieldT Try.prog 120 2 = some 2 := by kernel_rfl
theorem fo120_3 : fieldT Try.prog 120 3 = some 3 := by kernel_rfl
theorem ok35 : callable Try.prog 35 = true := by kernel_rfl
theorem ok37 : callable Try.prog 37 = true := by kernel_rfl
theorem ok39 : callable Try.prog 39 = true := by kernel_rfl
theorem ok54 : callable Try.prog 54 = true := by kernel_rfl
theorem ok55 : callable Try.prog 55 = true := by kernel_rfl
theorem ok56 : callable Try.prog 56 = true := by kernel_rfl
theorem ok57 : callable Try.prog 57 = true := by kernel_rfl
theorem ok58 : callable Try.prog 58 = true := by kernel_rfl
theorem ok59 : callable Try.prog 59 = true := by kernel_rfl
theorem ok75 : callable Try.prog 75 = true := by kernel_rfl
theorem ok76 : callable Try.prog 76 = true := by kernel_rfl
theorem ok77 : callable Try.prog 77 = true := by kernel_rfl
theorem ok85 : callable Try.prog 85 = true := by kernel_rfl
theorem ok86 : callable Try.prog 86 = true := by kernel_rfl
theorem ok87 : callable Try.prog 87 = true := by kernel_rfl
theorem ok88 : callable Try.prog 88 = true := by kernel_rfl
theorem ok97 : callable Try.prog 97 = true := by kernel_rfl
theorem ok98 : callable Try.prog 98 = true := by kernel_rfl
theorem ok101 : callable Try.prog 101 = true := by kernel_rfl
theorem ok102 : callable Try.prog 102 = true := by kernel_rfl
theorem hmix : Try.prog.follows .mixedOrders = true := by kernel_rfl
theorem szStep_spec (w : World) {S : Nat → Prop} (x : Step) {cs : List Value} (hx : rd S w x cs) (left : Int) (h0 : 0 ≤ left) (h1 : left ≤ 1048576) :
    Ret Try.prog 101 #[.agg cs.toArray, .int .i64 left] w (fun _ => False) fun v _ => ∃ r, v = .int .i64 r ∧ (((Sz.szd x : Nat) : Int) ≤ left ∧ r = left - (Sz.szd x : Nat) ∨ left < (Sz.szd x : Nat) ∧ r = -1) := by
  refine enter Try.func101 rfl rfl rfl ?_
  have hK1 := hx
  obtain ⟨rfl, hr1, hr2, hr3, hr4⟩ := hx
  have hsz := Step_szd x
  refine CW.seq (CW.reg ?_)
  refine WL.box rfl rfl rfl rfl rfl fun b1 w1 hEb1 hbb1 hBb1 => ?_
  refine WL.ev rfl rfl (Ev.as rfl rfl) (WL.nil ?_)
  refine CW.seq (CW.reg ?_)
  refine WL.ev rfl rfl (Ev.mv rfl rfl) (WL.ev rfl rfl (Ev.fa rfl fo120_3 rfl) (WL.ev rfl rfl (Ev.ld rfl ag9 rfl (hBb1.cell rfl)) (WL.ev rfl rfl (Ev.lenB rfl Try.underlying9 rfl) (WL.ev rfl rfl (Ev.bin rfl rfl rfl (Bin.sub (by omega))) (WL.ev rfl rfl (Ev.as rfl rfl) (WL.nil ?_))))))
  refine CW.seq (CW.seq (CW.reg ?_))
  refine WL.ev rfl rfl (Ev.mv rfl rfl) (WL.ev rfl rfl (Ev.bin rfl rfl rfl Bin.lss) (WL.nil ?_))
  refine CW.condD rfl (fun h1 => ?_) (fun h1 => ?_)
  · skip
    refine CW.seq (CW.reg ?_)
    refine WL.ev rfl rfl (Ev.as rfl rfl) (WL.nil ?_)
    refine CW.ret ?_
    refine ⟨_, res1 rfl rfl rfl, hEb1, _, rfl, ?_⟩
    try simp only [szfold] at *
    first | omega | (right; exact ⟨by omega, by first | rfl | trivial⟩)
  · skip
    refine CW.skip ?_
    refine CW.seq (CW.reg ?_)
    refine WL.ev rfl rfl (Ev.mv rfl rfl) (WL.ev rfl rfl (Ev.as rfl rfl) (WL.nil ?_))
    refine CW.ret ?_
    refine ⟨_, res1 rfl rfl rfl, hEb1, _, rfl, ?_⟩
    try simp only [szfold] at *
    first | omega | (right; exact ⟨by omega, by first | rfl | trivial⟩)

theorem szStepS_spec (w : World) {S : Nat → Prop} (x : List Step) {z : Value} (hx : rdS S w x z) (left : Int) (h0 : 0 ≤ left) (h1 : left ≤ 1048576) :
    Ret Try.prog 97 #[z, .int .i64 left] w (fun _ => False) fun v _ => ∃ r, v = .int .i64 r ∧ (((Sz.szd x : Nat) : Int) ≤ left ∧ r = left - (Sz.szd x : Nat) ∨ left < (Sz.szd x : Nat) ∧ r = -1) := by
  refine enter Try.func97 rfl rfl rfl ?_
  obtain ⟨A1, c1, rfl, hc1, hm1⟩ := hx.form
  have hl1 : x.length ≤ 9223372036854775807 := Nat.le_trans hc1 hm1
  have hsz : Sz.szd x = szL x := rfl
  have hlen := szL_length x
  refine CW.seq (CW.reg ?_)
  refine WL.ev rfl rfl (Ev.as rfl rfl) (WL.nil ?_)
  refine CW.seq (CW.reg ?_)
  refine WL.ev rfl rfl (Ev.mv rfl rfl) (WL.ev rfl rfl (Ev.mv rfl rfl) (WL.ev rfl rfl (Ev.lenS rfl el87 rfl) (WL.ev rfl rfl (Ev.bin rfl rfl rfl (Bin.sub (by omega))) (WL.ev rfl rfl (Ev.as rfl rfl) (WL.nil ?_)))))
  refine CW.seq (CW.seq (CW.reg ?_))
  refine WL.ev rfl rfl (Ev.mv rfl rfl) (WL.ev rfl rfl (Ev.bin rfl rfl rfl Bin.lss) (WL.nil ?_))
  refine CW.condD rfl (fun h1 => ?_) (fun h1 => ?_)
  · skip
    refine CW.seq (CW.reg ?_)
    refine WL.ev rfl rfl (Ev.as rfl rfl) (WL.nil ?_)
    refine CW.ret ?_
    refine ⟨_, res1 rfl rfl rfl, (Ext.refl _), _, rfl, ?_⟩
    try have hall := szL_take_all (x := x) (k := k) (by omega)
    try simp only [szfold] at *
    first | omega | (right; exact ⟨by omega, by first | rfl | trivial⟩)
  · skip
    refine CW.skip ?_
    refine CW.seq (CW.seq (CW.reg ?_))
    refine WL.ev rfl rfl (Ev.as rfl rfl) (WL.nil ?_)
    refine CW.block (CW.loop (α := Nat × Int) (fun q => [(0, .slice A1 x.length c1), (1, .int .i64 q.2), (5, .int .i64 (q.1 : Int))]) (fun q wr => Ext w wr ∧ q.1 ≤ x.length ∧ 0 ≤ q.2 ∧ q.2 + x.length + szL (x.take q.1) = left + q.1) (fun q => x.length - q.1) (0, left - x.length) ⟨rfl, rfl, rfl, trivial⟩ ⟨Ext.refl _, by simp, by simp only; omega, by simp [szL]⟩ ?_)
    rintro ⟨k, l⟩ σ wr1 ⟨hEwr1, hk, hl0, hle⟩
    simp only at hk hl0 hle
    have hmn0 := szL_take_le x k
    refine CW.seq (CW.seq (CW.reg ?_))
    refine WL.ev rfl rfl (Ev.mv rfl rfl) (WL.ev rfl rfl (Ev.mv rfl rfl) (WL.ev rfl rfl (Ev.lenS rfl el87 rfl) (WL.ev rfl rfl (Ev.bin rfl rfl rfl Bin.lss) (WL.nil ?_))))
    refine CW.condD rfl (fun h2 => ?_) (fun h2 => ?_)
    · skip
      refine CW.skip ?_
      refine CW.seq (CW.block (CW.seq (CW.reg ?_)))
      refine WL.ev rfl rfl (Ev.mv rfl rfl) (WL.ev rfl rfl (Ev.mv rfl rfl) ?_)
      obtain ⟨xe1, be1, oe1, cse1, hxe1, hAe1, hSe1, hre1, hAte1⟩ := rdS.el hx (i := k) (by omega)
      have hK1 := hre1
      obtain ⟨rfl, hr1, hr2, hr3, hr4⟩ := hre1
      refine WL.ev rfl rfl (Ev.ixA rfl el87 sz120 rfl hAe1 rfl (by omega)) (WL.ev rfl rfl (Ev.lda rfl ag120 sz120 rfl (hAte1.ext hEwr1) rfl) (WL.ev rfl rfl (Ev.mv rfl rfl) ?_))
      refine WL.call rfl rfl rfl rfl rfl ok101 rfl (szStep_spec _ xe1 (rd_ext hK1 hEwr1) _ (by omega) (by omega)) ?_
      rintro _ w1 hEw1 ⟨r1, rfl, hr5⟩
      have hq1 := Step_szd xe1
      refine WL.ev rfl rfl (Ev.as rfl rfl) (WL.nil ?_)
      refine CW.seq (CW.reg ?_)
      refine WL.ev rfl rfl (Ev.mv rfl rfl) (WL.ev rfl rfl (Ev.bin rfl rfl rfl Bin.lss) (WL.nil ?_))
      refine CW.condD rfl (fun h3 => ?_) (fun h3 => ?_)
      · skip
        refine CW.seq (CW.reg ?_)
        refine WL.ev rfl rfl (Ev.as rfl rfl) (WL.nil ?_)
        refine CW.ret ?_
        refine ⟨_, res1 rfl rfl rfl, (hEwr1.trans hEw1), _, rfl, ?_⟩
        have htk := szL_take_succ hxe1
        have hmn := szL_take_le x (k + 1)
        try simp only [szfold] at *
        first | omega | (right; exact ⟨by omega, by first | rfl | trivial⟩)
      · skip
        refine CW.skip ?_
        refine CW.reg ?_
        refine WL.ev rfl rfl (Ev.mv rfl rfl) (WL.ev rfl rfl (Ev.bin rfl rfl rfl (Bin.add (by omega))) (WL.ev rfl rfl (Ev.as rfl rfl) (WL.nil ?_)))
        have htk := szL_take_succ hxe1
        have hmn := szL_take_le x (k + 1)
        exact ⟨(k + 1, r1), ⟨rfl, rfl, rfl, trivial⟩, ⟨(hEwr1.trans hEw1), by simp only; omega, by simp only; omega, by simp only; omega⟩, by simp only; omega⟩
    · skip
      refine CW.exit ?_
      refine CW.seq (CW.reg ?_)
      refine WL.ev rfl rfl (Ev.mv rfl rfl) (WL.ev rfl rfl (Ev.as rfl rfl) (WL.nil ?_))
      refine CW.ret ?_
      refine ⟨_, res1 rfl rfl rfl, hEwr1, _, rfl, ?_⟩
      try have hall := szL_take_all (x := x) (k := k) (by omega)
      try simp only [szfold] at *
      first | omega | (right; exact ⟨by omega, by first | rfl | trivial⟩)

theorem szRulePlan_spec (w : World) {S : Nat → Prop} (x : RulePlan) {cs : List Value} (hx : rd S w x cs) (left : Int) (h0 : 0 ≤ left) (h1 : left ≤ 1048576) :
    Ret Try.prog 75 #[.agg cs.toArray, .int .i64 left] w (fun _ => False) fun v _ => ∃ r, v = .int .i64 r ∧ (((Sz.szd x : Nat) : Int) ≤ left ∧ r = left - (Sz.szd x : Nat) ∨ left < (Sz.szd x : Nat) ∧ r = -1) := by
  refine enter Try.func75 rfl rfl rfl ?_
  have hK1 := hx
  obtain ⟨v1, rfl, hr1, hs1⟩ := hx
  obtain ⟨A1, c1, rfl, hc1, hm1⟩ := hs1.form
  have hsz := RulePlan_szd x
  refine CW.seq (CW.reg ?_)
  refine WL.box rfl rfl rfl rfl rfl fun b1 w1 hEb1 hbb1 hBb1 => ?_
  refine WL.ev rfl rfl (Ev.as rfl rfl) (WL.nil ?_)
  refine CW.seq (CW.reg ?_)
  refine WL.ev rfl rfl (Ev.mv rfl rfl) (WL.ev rfl rfl (Ev.fa rfl fo89_0 rfl) (WL.ev rfl rfl (Ev.ld rfl ag9 rfl (hBb1.cell rfl)) (WL.ev rfl rfl (Ev.lenB rfl Try.underlying9 rfl) (WL.ev rfl rfl (Ev.bin rfl rfl rfl (Bin.sub (by omega))) (WL.ev rfl rfl (Ev.as rfl rfl) (WL.nil ?_))))))
  refine CW.seq (CW.seq (CW.reg ?_))
  refine WL.ev rfl rfl (Ev.mv rfl rfl) (WL.ev rfl rfl (Ev.bin rfl rfl rfl Bin.lss) (WL.nil ?_))
  refine CW.condD rfl (fun h1 => ?_) (fun h1 => ?_)
  · skip
    refine CW.seq (CW.reg ?_)
    refine WL.ev rfl rfl (Ev.as rfl rfl) (WL.nil ?_)
    refine CW.ret ?_
    refine ⟨_, res1 rfl rfl rfl, hEb1, _, rfl, ?_⟩
    try simp only [szfold] at *
    first | omega | (right; exact ⟨by omega, by first | rfl | trivial⟩)
  · skip
    refine CW.skip ?_
    refine CW.seq (CW.reg ?_)
    refine WL.ev rfl rfl (Ev.fa rfl fo89_1 rfl) (WL.ev rfl rfl (Ev.ld rfl ag87 rfl (hBb1.cell rfl)) (WL.ev rfl rfl (Ev.mv rfl rfl) ?_))
    refine WL.call rfl rfl rfl rfl rfl ok97 rfl (szStepS_spec _ x.Steps (hs1.ext hEb1) _ (by omega) (by omega)) ?_
    rintro _ w2 hEw2 ⟨r1, rfl, hr2⟩
    have hq1 := szfold x.Steps
    refine WL.ev rfl rfl (Ev.as rfl rfl) (WL.nil ?_)
    refine CW.seq (CW.seq (CW.reg ?_))
    refine WL.ev rfl rfl (Ev.mv rfl rfl) (WL.ev rfl rfl (Ev.bin rfl rfl rfl Bin.lss) (WL.nil ?_))
    refine CW.condD rfl (fun h2 => ?_) (fun h2 => ?_)
    · skip
      refine CW.seq (CW.reg ?_)
      refine WL.ev rfl rfl (Ev.as rfl rfl) (WL.nil ?_)
      refine CW.ret ?_
      refine ⟨_, res1 rfl rfl rfl, (hEb1.trans hEw2), _, rfl, ?_⟩
      try simp only [szfold] at *
      first | omega | (right; exact ⟨by omega, by first | rfl | trivial⟩)
    · skip
      refine CW.skip ?_
      refine CW.seq (CW.reg ?_)
      refine WL.ev rfl rfl (Ev.mv rfl rfl) (WL.ev rfl rfl (Ev.as rfl rfl) (WL.nil ?_))
      refine CW.ret ?_
      refine ⟨_, res1 rfl rfl rfl, (hEb1.trans hEw2), _, rfl, ?_⟩
      try simp only [szfold] at *
      first | omega | (right; exact ⟨by omega, by first | rfl | trivial⟩)

theorem szRulePlanS_spec (w : World) {S : Nat → Prop} (x : List RulePlan) {z : Value} (hx : rdS S w x z) (left : Int) (h0 : 0 ≤ left) (h1 : left ≤ 1048576) :
    Ret Try.prog 35 #[z, .int .i64 left] w (fun _ => False) fun v _ => ∃ r, v = .int .i64 r ∧ (((Sz.szd x : Nat) : Int) ≤ left ∧ r = left - (Sz.szd x : Nat) ∨ left < (Sz.szd x : Nat) ∧ r = -1) := by
  refine enter Try.func35 rfl rfl rfl ?_
  obtain ⟨A1, c1, rfl, hc1, hm1⟩ := hx.form
  have hl1 : x.length ≤ 9223372036854775807 := Nat.le_trans hc1 hm1
  have hsz : Sz.szd x = szL x := rfl
  have hlen := szL_length x
  refine CW.seq (CW.reg ?_)
  refine WL.ev rfl rfl (Ev.as rfl rfl) (WL.nil ?_)
  refine CW.seq (CW.reg ?_)
  refine WL.ev rfl rfl (Ev.mv rfl rfl) (WL.ev rfl rfl (Ev.mv rfl rfl) (WL.ev rfl rfl (Ev.lenS rfl el49 rfl) (WL.ev rfl rfl (Ev.bin rfl rfl rfl (Bin.sub (by omega))) (WL.ev rfl rfl (Ev.as rfl rfl) (WL.nil ?_)))))
  refine CW.seq (CW.seq (CW.reg ?_))
  refine WL.ev rfl rfl (Ev.mv rfl rfl) (WL.ev rfl rfl (Ev.bin rfl rfl rfl Bin.lss) (WL.nil ?_))
  refine CW.condD rfl (fun h1 => ?_) (fun h1 => ?_)
  · skip
    refine CW.seq (CW.reg ?_)
    refine WL.ev rfl rfl (Ev.as rfl rfl) (WL.nil ?_)
    refine CW.ret ?_
    refine ⟨_, res1 rfl rfl rfl, (Ext.refl _), _, rfl, ?_⟩
    try have hall := szL_take_all (x := x) (k := k) (by omega)
    try simp only [szfold] at *
    first | omega | (right; exact ⟨by omega, by first | rfl | trivial⟩)
  · skip
    refine CW.skip ?_
    refine CW.seq (CW.seq (CW.reg ?_))
    refine WL.ev rfl rfl (Ev.as rfl rfl) (WL.nil ?_)
    refine CW.block (CW.loop (α := Nat × Int) (fun q => [(0, .slice A1 x.length c1), (1, .int .i64 q.2), (5, .int .i64 (q.1 : Int))]) (fun q wr => Ext w wr ∧ q.1 ≤ x.length ∧ 0 ≤ q.2 ∧ q.2 + x.length + szL (x.take q.1) = left + q.1) (fun q => x.length - q.1) (0, left - x.length) ⟨rfl, rfl, rfl, trivial⟩ ⟨Ext.refl _, by simp, by simp only; omega, by simp [szL]⟩ ?_)
    rintro ⟨k, l⟩ σ wr1 ⟨hEwr1, hk, hl0, hle⟩
    simp only at hk hl0 hle
    have hmn0 := szL_take_le x k
    refine CW.seq (CW.seq (CW.reg ?_))
    refine WL.ev rfl rfl (Ev.mv rfl rfl) (WL.ev rfl rfl (Ev.mv rfl rfl) (WL.ev rfl rfl (Ev.lenS rfl el49 rfl) (WL.ev rfl rfl (Ev.bin rfl rfl rfl Bin.lss) (WL.nil ?_))))
    refine CW.condD rfl (fun h2 => ?_) (fun h2 => ?_)
    · skip
      refine CW.skip ?_
      refine CW.seq (CW.block (CW.seq (CW.reg ?_)))
      refine WL.ev rfl rfl (Ev.mv rfl rfl) (WL.ev rfl rfl (Ev.mv rfl rfl) ?_)
      obtain ⟨xe1, be1, oe1, cse1, hxe1, hAe1, hSe1, hre1, hAte1⟩ := rdS.el hx (i := k) (by omega)
      have hK1 := hre1
      obtain ⟨v1, rfl, hr1, hs1⟩ := hre1
      obtain ⟨A2, c2, rfl, hc2, hm2⟩ := hs1.form
      refine WL.ev rfl rfl (Ev.ixA rfl el49 sz89 rfl hAe1 rfl (by omega)) (WL.ev rfl rfl (Ev.lda rfl ag89 sz89 rfl (hAte1.ext hEwr1) rfl) (WL.ev rfl rfl (Ev.mv rfl rfl) ?_))
      refine WL.call rfl rfl rfl rfl rfl ok75 rfl (szRulePlan_spec _ xe1 (rd_ext hK1 hEwr1) _ (by omega) (by omega)) ?_
      rintro _ w1 hEw1 ⟨r1, rfl, hr2⟩
      have hq1 := RulePlan_szd xe1
      refine WL.ev rfl rfl (Ev.as rfl rfl) (WL.nil ?_)
      refine CW.seq (CW.reg ?_)
      refine WL.ev rfl rfl (Ev.mv rfl rfl) (WL.ev rfl rfl (Ev.bin rfl rfl rfl Bin.lss) (WL.nil ?_))
      refine CW.condD rfl (fun h3 => ?_) (fun h3 => ?_)
      · skip
        refine CW.seq (CW.reg ?_)
        refine WL.ev rfl rfl (Ev.as rfl rfl) (WL.nil ?_)
        refine CW.ret ?_
        refine ⟨_, res1 rfl rfl rfl, (hEwr1.trans hEw1), _, rfl, ?_⟩
        have htk := szL_take_succ hxe1
        have hmn := szL_take_le x (k + 1)
        try simp only [szfold] at *
        first | omega | (right; exact ⟨by omega, by first | rfl | trivial⟩)
      · skip
        refine CW.skip ?_
        refine CW.reg ?_
        refine WL.ev rfl rfl (Ev.mv rfl rfl) (WL.ev rfl rfl (Ev.bin rfl rfl rfl (Bin.add (by omega))) (WL.ev rfl rfl (Ev.as rfl rfl) (WL.nil ?_)))
        have htk := szL_take_succ hxe1
        have hmn := szL_take_le x (k + 1)
        exact ⟨(k + 1, r1), ⟨rfl, rfl, rfl, trivial⟩, ⟨(hEwr1.trans hEw1), by simp only; omega, by simp only; omega, by simp only; omega⟩, by simp only; omega⟩
    · skip
      refine CW.exit ?_
      refine CW.seq (CW.reg ?_)
      refine WL.ev rfl rfl (Ev.mv rfl rfl) (WL.ev rfl rfl (Ev.as rfl rfl) (WL.nil ?_))
      refine CW.ret ?_
      refine ⟨_, res1 rfl rfl rfl, hEwr1, _, rfl, ?_⟩
      try have hall := szL_take_all (x := x) (k := k) (by omega)
      try simp only [szfold] at *
      first | omega | (right; exact ⟨by omega, by first | rfl | trivial⟩)

theorem toStep_spec (w : World) {S : Nat → Prop} (x : Step) {cs : List Value} (hx : rd S w x cs) (hlen : Sz.szd x ≤ 1048576) :
    Ret Try.prog 102 #[.agg cs.toArray] w (fun _ => False) fun v w' => ∃ cs, v = .agg cs.toArray ∧ New w w' x cs := by
  refine enter Try.func102 rfl rfl rfl ?_
  have hK1 := hx
  obtain ⟨rfl, hr1, hr2, hr3, hr4⟩ := hx
  rw [Step_szd] at hlen
  refine CW.seq (CW.reg ?_)
  refine WL.box rfl rfl rfl rfl rfl fun b1 w1 hEb1 hbb1 hBb1 => ?_
  refine WL.alloc rfl rfl rfl ze93 fun b2 w2 hEb2 hbb2 hBb2 => ?_
  refine WL.nil ?_
  refine CW.seq (CW.reg ?_)
  refine WL.alloc rfl rfl rfl ze93 fun b3 w3 hEb3 hbb3 hBb3 => ?_
  refine WL.nil ?_
  refine CW.seq (CW.reg ?_)
  refine WL.ev rfl rfl (Ev.fa rfl fo120_0 rfl) (WL.ev rfl rfl (Ev.ld rfl ag3 rfl ((hBb1.ext (hEb2.trans hEb3)).cell rfl)) (WL.ev rfl rfl (Ev.fa rfl fo93_0 rfl) ?_))
  refine WL.st rfl rfl rfl sz3 rfl rfl rfl rfl (all1 rfl all0) hBb3 (Nat.le_of_ble_eq_true rfl) fun w4 hCw4 hB_1 => ?_
  have hz1 := hBb3.lt
  have hB_2 := Blk.chg1 (hBb1.ext (hEb2.trans hEb3)) hCw4 (by have := hBb1.lt; have := hbb3; have := hEb2.size; omega)
  have hB_3 := Blk.chg1 (hBb2.ext hEb3) hCw4 (by have := hBb2.lt; have := hbb3; omega)
  have hX1 := Ext.chg1 ((hEb1.trans hEb2).trans hEb3) hCw4 (by have := hbb3; have := hEb1.size; have := hEb2.size; omega)
  refine WL.nil ?_
  refine CW.seq (CW.reg ?_)
  refine WL.ev rfl rfl (Ev.fa rfl fo120_1 rfl) (WL.ev rfl rfl (Ev.ld rfl ag3 rfl (hB_2.cell rfl)) (WL.ev rfl rfl (Ev.fa rfl fo93_1 rfl) ?_))
  refine WL.st rfl rfl rfl sz3 rfl rfl rfl rfl (all1 rfl all0) hB_1 (Nat.le_of_ble_eq_true rfl) fun w5 hCw5 hB_4 => ?_
  have hz2 := hB_1.lt
  have hB_5 := Blk.chg1 hB_2 hCw5 (by have := hBb1.lt; have := hbb3; have := hEb2.size; omega)
  have hB_6 := Blk.chg1 hB_3 hCw5 (by have := hBb2.lt; have := hbb3; omega)
  have hX2 := Ext.chg1 hX1 hCw5 (by have := hbb3; have := hEb1.size; have := hEb2.size; omega)
  refine WL.nil ?_
  refine CW.seq (CW.reg ?_)
  refine WL.ev rfl rfl (Ev.fa rfl fo120_2 rfl) (WL.ev rfl rfl (Ev.ld rfl ag3 rfl (hB_5.cell rfl)) (WL.ev rfl rfl (Ev.fa rfl fo93_2 rfl) ?_))
  refine WL.st rfl rfl rfl sz3 rfl rfl rfl rfl (all1 rfl all0) hB_4 (Nat.le_of_ble_eq_true rfl) fun w6 hCw6 hB_7 => ?_
  have hz3 := hB_4.lt
  have hB_8 := Blk.chg1 hB_5 hCw6 (by have := hBb1.lt; have := hbb3; have := hEb2.size; omega)
  have hB_9 := Blk.chg1 hB_6 hCw6 (by have := hBb2.lt; have := hbb3; omega)
  have hX3 := Ext.chg1 hX2 hCw6 (by have := hbb3; have := hEb1.size; have := hEb2.size; omega)
  refine WL.nil ?_
  refine CW.seq (CW.reg ?_)
  refine WL.ev rfl rfl (Ev.fa rfl fo120_3 rfl) (WL.ev rfl rfl (Ev.ld rfl ag9 rfl (hB_8.cell rfl)) (WL.ev rfl rfl (Ev.fa rfl fo93_3 rfl) ?_))
  refine WL.st rfl rfl rfl sz9 rfl rfl rfl rfl (all1 rfl all0) hB_7 (Nat.le_of_ble_eq_true rfl) fun w7 hCw7 hB_10 => ?_
  have hz4 := hB_7.lt
  have hB_11 := Blk.chg1 hB_8 hCw7 (by have := hBb1.lt; have := hbb3; have := hEb2.size; omega)
  have hB_12 := Blk.chg1 hB_9 hCw7 (by have := hBb2.lt; have := hbb3; omega)
  have hX4 := Ext.chg1 hX3 hCw7 (by have := hbb3; have := hEb1.size; have := hEb2.size; omega)
  refine WL.nil ?_
  refine CW.seq (CW.reg ?_)
  refine WL.ev rfl rfl (Ev.lda rfl ag93 sz93 rfl (At.blk hB_10) rfl) ?_
  refine WL.st rfl rfl rfl sz93 rfl rfl rfl rfl (all1 rfl (all1 rfl (all1 rfl (all1 rfl all0)))) hB_12 (Nat.le_of_ble_eq_true rfl) fun w8 hCw8 hB_13 => ?_
  have hz5 := hB_12.lt
  have hB_14 := Blk.chg1 hB_11 hCw8 (by have := hBb1.lt; have := hbb2; omega)
  have hB_15 := Blk.chg1 hB_10 hCw8 (by have := hBb2.lt; have := hbb3; omega)
  have hX5 := Ext.chg1 hX4 hCw8 (by have := hbb2; have := hEb1.size; omega)
  refine WL.nil ?_
  refine CW.ret ?_
  exact ⟨_, resC rfl ag93 sz93 rfl rfl (At.blk hB_13) rfl, hX5, _, rfl, _, ⟨rfl, by first | assumption | omega, by first | assumption | omega, by first | assumption | omega, by first | assumption | omega, rfl⟩, List.nodup_nil, by simp⟩

theorem toStepS_spec (w : World) {S : Nat → Prop} (x : List Step) {z : Value} (hx : rdS S w x z) (hlen : szL x ≤ 1048576) :
    Ret Try.prog 98 #[z] w (fun _ => False) fun v w' => NewS w w' x v := by
  refine enter Try.func98 rfl rfl rfl ?_
  obtain ⟨A1, c1, rfl, hc1, hm1⟩ := hx.form
  have hl1 : x.length ≤ 9223372036854775807 := Nat.le_trans hc1 hm1
  have hln := szL_length x
  refine CW.seq (CW.reg ?_)
  refine WL.ev rfl rfl (Ev.as rfl rfl) (WL.nil ?_)
  refine CW.seq (CW.reg ?_)
  refine WL.ev rfl rfl (Ev.mv rfl rfl) (WL.ev rfl rfl (Ev.lenS rfl el87 rfl) ?_)
  refine WL.mk rfl rfl rfl el69 sz93 by93 ze93 rfl rfl rfl (by omega) (by omega) fun g w1 hE1 hg hBg => ?_
  refine WL.ev rfl rfl (Ev.as rfl rfl) (WL.nil ?_)
  refine CW.seq (CW.seq (CW.reg ?_))
  refine WL.ev rfl rfl (Ev.as rfl rfl) (WL.nil ?_)
  refine CW.block (CW.loop (α := Nat × List Value × List Nat) (fun q => [(0, .slice A1 x.length c1), (3, .slice (some ⟨g, 0, none⟩) x.length x.length), (4, .int .i64 (q.1 : Int))]) (fun q wr => Ext w wr ∧ ToInv wr g 93 [.int .i64 0, .int .i64 0, .int .i64 0, .string ⟨#[]⟩] x q.1 q.2.1 q.2.2) (fun q => x.length - q.1) (0, [], []) ⟨rfl, rfl, rfl, trivial⟩ ⟨hE1, ToInv.init hBg⟩ ?_)
  rintro ⟨k, cs, L⟩ σ wr1 ⟨hEwr1, hI⟩
  simp only at hI
  have hk := hI.le
  refine CW.seq (CW.seq (CW.reg ?_))
  refine WL.ev rfl rfl (Ev.mv rfl rfl) (WL.ev rfl rfl (Ev.mv rfl rfl) (WL.ev rfl rfl (Ev.lenS rfl el87 rfl) (WL.ev rfl rfl (Ev.bin rfl rfl rfl Bin.lss) (WL.nil ?_))))
  refine CW.condD rfl (fun h1 => ?_) (fun h1 => ?_)
  · skip
    refine CW.skip ?_
    refine CW.seq (CW.block (CW.reg ?_))
    refine WL.ev rfl rfl (Ev.mv rfl rfl) (WL.ev rfl rfl (Ev.mv rfl rfl) (WL.ev rfl rfl (Ev.mv rfl rfl) (WL.ev rfl rfl (Ev.mv rfl rfl) ?_)))
    obtain ⟨xe1, be1, oe1, cse1, hxe1, hAe1, hSe1, hre1, hAte1⟩ := rdS.el hx (i := k) (by omega)
    have hK1 := hre1
    obtain ⟨rfl, hr1, hr2, hr3, hr4⟩ := hre1
    refine WL.ev rfl rfl (Ev.ixA rfl el87 sz120 rfl hAe1 rfl (by omega)) (WL.ev rfl rfl (Ev.lda rfl ag120 sz120 rfl (hAte1.ext hEwr1) rfl) ?_)
    refine WL.call rfl rfl rfl rfl rfl ok102 rfl (toStep_spec _ xe1 (rd_ext hK1 hEwr1) (by have := szL_get hxe1; (try simp only [szfold] at *); omega)) ?_
    rintro _ w1 hEw1 ⟨cs1, rfl, L1, hO1, hN1, hF1⟩
    refine WL.ev rfl rfl (Ev.ix rfl el69 sz93 rfl rfl (by omega)) ?_
    refine WL.stTo rfl rfl rfl sz93 rfl rfl rfl (hI.ext hEw1) hxe1 hO1 hN1 (hI.fresh hF1) rfl fun w2 hCw2 hI2 => ?_
    have hX1 := Ext.chg1 (hEwr1.trans hEw1) hCw2 (by have := hE1.size; omega)
    refine WL.nil ?_
    refine CW.reg ?_
    refine WL.ev rfl rfl (Ev.mv rfl rfl) (WL.ev rfl rfl (Ev.bin rfl rfl rfl (Bin.add (by omega))) (WL.ev rfl rfl (Ev.as rfl rfl) (WL.nil ?_)))
    exact ⟨(k + 1, _, _), ⟨rfl, rfl, rfl, trivial⟩, ⟨hX1, hI2⟩, by simp only; omega⟩
  · skip
    refine CW.exit ?_
    refine CW.seq (CW.reg ?_)
    refine WL.ev rfl rfl (Ev.mv rfl rfl) (WL.ev rfl rfl (Ev.as rfl rfl) (WL.nil ?_))
    refine CW.ret ?_
    exact ⟨_, res1 rfl rfl rfl, hEwr1, hI.new (by omega) (by unfold maxLen; omega) hg⟩

theorem toRulePlan_spec (w : World) {S : Nat → Prop} (x : RulePlan) {cs : List Value} (hx : rd S w x cs) (hlen : Sz.szd x ≤ 1048576) :
    Ret Try.prog 76 #[.agg cs.toArray] w (fun _ => False) fun v w' => ∃ cs, v = .agg cs.toArray ∧ New w w' x cs := by
  refine enter Try.func76 rfl rfl rfl ?_
  have hK1 := hx
  obtain ⟨v1, rfl, hr1, hs1⟩ := hx
  obtain ⟨A1, c1, rfl, hc1, hm1⟩ := hs1.form
  rw [RulePlan_szd] at hlen
  refine CW.seq (CW.reg ?_)
  refine WL.box rfl rfl rfl rfl rfl fun b1 w1 hEb1 hbb1 hBb1 => ?_
  refine WL.alloc rfl rfl rfl ze91 fun b2 w2 hEb2 hbb2 hBb2 => ?_
  refine WL.nil ?_
  refine CW.seq (CW.reg ?_)
  refine WL.alloc rfl rfl rfl ze91 fun b3 w3 hEb3 hbb3 hBb3 => ?_
  refine WL.nil ?_
  refine CW.seq (CW.reg ?_)
  refine WL.ev rfl rfl (Ev.fa rfl fo89_0 rfl) (WL.ev rfl rfl (Ev.ld rfl ag9 rfl ((hBb1.ext (hEb2.trans hEb3)).cell rfl)) (WL.ev rfl rfl (Ev.fa rfl fo91_0 rfl) ?_))
  refine WL.st rfl rfl rfl sz9 rfl rfl rfl rfl (all1 rfl all0) hBb3 (Nat.le_of_ble_eq_true rfl) fun w4 hCw4 hB_1 => ?_
  have hz1 := hBb3.lt
  have hB_2 := Blk.chg1 (hBb1.ext (hEb2.trans hEb3)) hCw4 (by have := hBb1.lt; have := hbb3; have := hEb2.size; omega)
  have hB_3 := Blk.chg1 (hBb2.ext hEb3) hCw4 (by have := hBb2.lt; have := hbb3; omega)
  have hX1 := Ext.chg1 ((hEb1.trans hEb2).trans hEb3) hCw4 (by have := hbb3; have := hEb1.size; have := hEb2.size; omega)
  refine WL.nil ?_
  refine CW.seq (CW.reg ?_)
  refine WL.ev rfl rfl (Ev.fa rfl fo89_1 rfl) (WL.ev rfl rfl (Ev.ld rfl ag87 rfl (hB_2.cell rfl)) ?_)
  refine WL.call rfl rfl rfl rfl rfl ok98 rfl (toStepS_spec _ x.Steps (hs1.ext hX1) (by omega)) ?_
  rintro v2 w5 hEw5 ⟨L1, hO1, hN1, hF1⟩
  obtain ⟨A2, c2, rfl, hc2, hm2⟩ := hO1.form
  refine WL.ev rfl rfl (Ev.fa rfl fo91_1 rfl) ?_
  refine WL.st rfl rfl rfl sz69 rfl rfl rfl rfl (all1 rfl all0) (hB_1.ext hEw5) (Nat.le_of_ble_eq_true rfl) fun w6 hCw6 hB_4 => ?_
  have hz2 := (hB_1.ext hEw5).lt
  have hB_5 := Blk.chg1 (hB_2.ext hEw5) hCw6 (by have := hBb1.lt; have := hbb3; have := hEb2.size; omega)
  have hB_6 := Blk.chg1 (hB_3.ext hEw5) hCw6 (by have := hBb2.lt; have := hbb3; omega)
  have hO_1 := ownS.chg1 hO1 hCw6 (fun q hq e => by subst e; have := hF1 _ hq; have := hBb3.lt; have := hCw4.size; omega)
  have hX2 := Ext.chg1 (hX1.trans hEw5) hCw6 (by have := hbb3; have := hEb1.size; have := hEb2.size; omega)
  refine WL.nil ?_
  refine CW.seq (CW.reg ?_)
  refine WL.ev rfl rfl (Ev.lda rfl ag91 sz91 rfl (At.blk hB_4) rfl) ?_
  refine WL.st rfl rfl rfl sz91 rfl rfl rfl rfl (all1 rfl (all1 rfl all0)) hB_6 (Nat.le_of_ble_eq_true rfl) fun w7 hCw7 hB_7 => ?_
  have hz3 := hB_6.lt
  have hB_8 := Blk.chg1 hB_5 hCw7 (by have := hBb1.lt; have := hbb2; omega)
  have hB_9 := Blk.chg1 hB_4 hCw7 (by have := hBb2.lt; have := hbb3; omega)
  have hO_2 := ownS.chg1 hO_1 hCw7 (fun q hq e => by subst e; have := hF1 _ hq; have := hBb2.lt; have := hEb3.size; have := hCw4.size; omega)
  have hX3 := Ext.chg1 hX2 hCw7 (by have := hbb2; have := hEb1.size; omega)
  refine WL.nil ?_
  refine CW.ret ?_
  exact ⟨_, resC rfl ag91 sz91 rfl rfl (At.blk hB_7) rfl, hX3, _, rfl, _, ⟨_, _, rfl, by first | assumption | omega, rfl, hO_2⟩, hN1, fun q hq => by first | (have := hF1 _ hq; have := hEb1.size; have := hEb2.size; have := hEb3.size; have := hCw4.size; omega)⟩

theorem toRulePlanS_spec (w : World) {S : Nat → Prop} (x : List RulePlan) {z : Value} (hx : rdS S w x z) (hlen : szL x ≤ 1048576) :
    Ret Try.prog 37 #[z] w (fun _ => False) fun v w' => NewS w w' x v := by
  refine enter Try.func37 rfl rfl rfl ?_
  obtain ⟨A1, c1, rfl, hc1, hm1⟩ := hx.form
  have hl1 : x.length ≤ 9223372036854775807 := Nat.le_trans hc1 hm1
  have hln := szL_length x
  refine CW.seq (CW.reg ?_)
  refine WL.ev rfl rfl (Ev.as rfl rfl) (WL.nil ?_)
  refine CW.seq (CW.reg ?_)
  refine WL.ev rfl rfl (Ev.mv rfl rfl) (WL.ev rfl rfl (Ev.lenS rfl el49 rfl) ?_)
  refine WL.mk rfl rfl rfl el52 sz91 by91 ze91 rfl rfl rfl (by omega) (by omega) fun g w1 hE1 hg hBg => ?_
  refine WL.ev rfl rfl (Ev.as rfl rfl) (WL.nil ?_)
  refine CW.seq (CW.seq (CW.reg ?_))
  refine WL.ev rfl rfl (Ev.as rfl rfl) (WL.nil ?_)
  refine CW.block (CW.loop (α := Nat × List Value × List Nat) (fun q => [(0, .slice A1 x.length c1), (3, .slice (some ⟨g, 0, none⟩) x.length x.length), (4, .int .i64 (q.1 : Int))]) (fun q wr => Ext w wr ∧ ToInv wr g 91 [.string ⟨#[]⟩, .slice none 0 0] x q.1 q.2.1 q.2.2) (fun q => x.length - q.1) (0, [], []) ⟨rfl, rfl, rfl, trivial⟩ ⟨hE1, ToInv.init hBg⟩ ?_)
  rintro ⟨k, cs, L⟩ σ wr1 ⟨hEwr1, hI⟩
  simp only at hI
  have hk := hI.le
  refine CW.seq (CW.seq (CW.reg ?_))
  refine WL.ev rfl rfl (Ev.mv rfl rfl) (WL.ev rfl rfl (Ev.mv rfl rfl) (WL.ev rfl rfl (Ev.lenS rfl el49 rfl) (WL.ev rfl rfl (Ev.bin rfl rfl rfl Bin.lss) (WL.nil ?_))))
  refine CW.condD rfl (fun h1 => ?_) (fun h1 => ?_)
  · skip
    refine CW.skip ?_
    refine CW.seq (CW.block (CW.reg ?_))
    refine WL.ev rfl rfl (Ev.mv rfl rfl) (WL.ev rfl rfl (Ev.mv rfl rfl) (WL.ev rfl rfl (Ev.mv rfl rfl) (WL.ev rfl rfl (Ev.mv rfl rfl) ?_)))
    obtain ⟨xe1, be1, oe1, cse1, hxe1, hAe1, hSe1, hre1, hAte1⟩ := rdS.el hx (i := k) (by omega)
    have hK1 := hre1
    obtain ⟨v1, rfl, hr1, hs1⟩ := hre1
    obtain ⟨A2, c2, rfl, hc2, hm2⟩ := hs1.form
    refine WL.ev rfl rfl (Ev.ixA rfl el49 sz89 rfl hAe1 rfl (by omega)) (WL.ev rfl rfl (Ev.lda rfl ag89 sz89 rfl (hAte1.ext hEwr1) rfl) ?_)
    refine WL.call rfl rfl rfl rfl rfl ok76 rfl (toRulePlan_spec _ xe1 (rd_ext hK1 hEwr1) (by have := szL_get hxe1; (try simp only [szfold] at *); omega)) ?_
    rintro _ w1 hEw1 ⟨cs1, rfl, L1, hO1, hN1, hF1⟩
    refine WL.ev rfl rfl (Ev.ix rfl el52 sz91 rfl rfl (by omega)) ?_
    refine WL.stTo rfl rfl rfl sz91 rfl rfl rfl (hI.ext hEw1) hxe1 hO1 hN1 (hI.fresh hF1) rfl fun w2 hCw2 hI2 => ?_
    have hX1 := Ext.chg1 (hEwr1.trans hEw1) hCw2 (by have := hE1.size; omega)
    refine WL.nil ?_
    refine CW.reg ?_
    refine WL.ev rfl rfl (Ev.mv rfl rfl) (WL.ev rfl rfl (Ev.bin rfl rfl rfl (Bin.add (by omega))) (WL.ev rfl rfl (Ev.as rfl rfl) (WL.nil ?_)))
    exact ⟨(k + 1, _, _), ⟨rfl, rfl, rfl, trivial⟩, ⟨hX1, hI2⟩, by simp only; omega⟩
  · skip
    refine CW.exit ?_
    refine CW.seq (CW.reg ?_)
    refine WL.ev rfl rfl (Ev.mv rfl rfl) (WL.ev rfl rfl (Ev.as rfl rfl) (WL.nil ?_))
    refine CW.ret ?_
    exact ⟨_, res1 rfl rfl rfl, hEwr1, hI.new (by omega) (by unfold maxLen; omega) hg⟩

theorem sStepsOf_spec (w : World) {S1 : Nat → Prop} (l : List RulePlan) {zl : Value} (hl : rdS S1 w l zl) (bl : szL l ≤ 1048576) (rule : ByteArray) (hrule : rule.size ≤ 9223372036854775807) :
    Ret Try.prog 54 #[zl, .string rule] w (fun _ => False) fun v w' => NewS w w' (stepsR l rule) v := by
  refine enter Try.func54 rfl rfl rfl ?_
  obtain ⟨A1, c1, rfl, hc1, hm1⟩ := hl.form
  have hl1 : l.length ≤ 9223372036854775807 := Nat.le_trans hc1 hm1
  have nl := szL_length l
  refine CW.seq (CW.reg ?_)
  refine WL.ev rfl rfl (Ev.as rfl rfl) (WL.nil ?_)
  refine CW.seq (CW.seq (CW.reg ?_))
  refine WL.ev rfl rfl (Ev.as rfl rfl) (WL.nil ?_)
  refine CW.block (CW.loop (α := Nat) (fun q => [(0, .slice A1 l.length c1), (1, .string rule), (5, .int .i64 (q : Int))]) (fun q wr => Chg (fun z => w.heap.size ≤ z) w wr ∧ q ≤ l.length ∧ (∀ p ∈ l.take q, ¬ p.Rule = rule)) (fun q => l.length - q) 0 ⟨rfl, rfl, rfl, trivial⟩ ⟨Chg.refl _, by omega, by simp⟩ ?_)
  rintro k σ wr1 ⟨hEwr1, hk, hno⟩
  
  have hX1 : Ext w wr1 := Ext.trans_chg (Ext.refl _) hEwr1 fun _ h => h
  refine CW.seq (CW.seq (CW.reg ?_))
  refine WL.ev rfl rfl (Ev.mv rfl rfl) (WL.ev rfl rfl (Ev.mv rfl rfl) (WL.ev rfl rfl (Ev.lenS rfl el52 rfl) (WL.ev rfl rfl (Ev.bin rfl rfl rfl Bin.lss) (WL.nil ?_))))
  refine CW.condD rfl (fun h1 => ?_) (fun h1 => ?_)
  · skip
    refine CW.skip ?_
    refine CW.seq (CW.block (CW.seq (CW.reg ?_)))
    refine WL.ev rfl rfl (Ev.mv rfl rfl) (WL.ev rfl rfl (Ev.mv rfl rfl) ?_)
    obtain ⟨xe1, be1, oe1, cse1, hxe1, hAe1, hSe1, hre1, hAte1⟩ := rdS.el hl (i := k) (by omega)
    have hK1 := hre1
    obtain ⟨v1, rfl, hr1, hs1⟩ := hre1
    obtain ⟨A2, c2, rfl, hc2, hm2⟩ := hs1.form
    refine WL.ev rfl rfl (Ev.ixA rfl el52 sz91 rfl hAe1 rfl (by omega)) (WL.ev rfl rfl (Ev.fa rfl fo91_0 rfl) (WL.ev rfl rfl (Ev.ld rfl ag9 rfl ((hAte1.ext hX1).cell rfl)) (WL.ev rfl rfl (Ev.mv rfl rfl) (WL.ev rfl rfl (Ev.bin rfl rfl rfl Bin.eqlS) (WL.nil ?_)))))
    refine CW.condD rfl (fun h2 => ?_) (fun h2 => ?_)
    · skip
      refine CW.seq (CW.reg ?_)
      refine WL.lit0 rfl rfl rfl el69 sz93 fun g w1 hEw1 hg hBg => ?_
      refine WL.ev rfl rfl (Ev.mv rfl rfl) (WL.ev rfl rfl (Ev.mv rfl rfl) (WL.ev rfl rfl (Ev.ixA rfl el52 sz91 rfl hAe1 rfl (by omega)) (WL.ev rfl rfl (Ev.fa rfl fo91_1 rfl) (WL.ev rfl rfl (Ev.ld rfl ag69 rfl ((hAte1.ext (hX1.trans hEw1)).cell rfl)) ?_))))
      have hp1 := szL_get hxe1
      have hp2 := RulePlan_szd xe1
      have hp3 := szL_length xe1.Steps
      refine WL.app0 rfl rfl rfl el69 sz93 by93 ze93 rfl rfl rfl (hs1.ext (hX1.trans hEw1)) (by omega) fun v2 w2 hEw2 hn => ?_
      refine WL.ev rfl rfl (Ev.as rfl rfl) (WL.nil ?_)
      refine CW.ret ?_
      obtain ⟨L, n1, n2, n3⟩ := hn
      refine ⟨_, res1 rfl rfl rfl, ((hX1.trans hEw1).trans hEw2), ?_⟩
      rw [stepsR_found hno hxe1 h2]
      exact ⟨L, n1, n2, fun q hq => by have := n3 q hq; have := ((hX1.trans hEw1)).size; omega⟩
    · skip
      refine CW.skip ?_
      refine CW.reg ?_
      refine WL.ev rfl rfl (Ev.mv rfl rfl) (WL.ev rfl rfl (Ev.bin rfl rfl rfl (Bin.add (by omega))) (WL.ev rfl rfl (Ev.as rfl rfl) (WL.nil ?_)))
      exact ⟨k + 1, ⟨rfl, rfl, rfl, trivial⟩, ⟨hEwr1, by omega, take_ne_step hno hxe1 h2⟩, by omega⟩
  · skip
    refine CW.exit ?_
    refine CW.seq (CW.reg ?_)
    refine WL.lit0 rfl rfl rfl el69 sz93 fun g w3 hEw3 hg hBg => ?_
    refine WL.ev rfl rfl (Ev.as rfl rfl) (WL.nil ?_)
    refine CW.ret ?_
    refine ⟨_, res1 rfl rfl rfl, (hX1.trans hEw3), ?_⟩
    rw [stepsR_none hno (by omega)]
    exact ⟨[], ownS.nil (by decide), List.nodup_nil, by simp⟩

theorem istepsOf_spec (w : World) {S1 : Nat → Prop} (l : List RulePlan) {zl : Value} (hl : rdS S1 w l zl) (rule : ByteArray) (hrule : rule.size ≤ 9223372036854775807) :
    Ret Try.prog 86 #[zl, .string rule] w (fun _ => False) fun v w' => rdS S1 w' (stepsR l rule) v := by
  refine enter Try.func86 rfl rfl rfl ?_
  obtain ⟨A1, c1, rfl, hc1, hm1⟩ := hl.form
  have hl1 : l.length ≤ 9223372036854775807 := Nat.le_trans hc1 hm1
  refine CW.seq (CW.reg ?_)
  refine WL.ev rfl rfl (Ev.as rfl rfl) (WL.nil ?_)
  refine CW.seq (CW.seq (CW.reg ?_))
  refine WL.ev rfl rfl (Ev.mv rfl rfl) (WL.ev rfl rfl (Ev.lenS rfl el52 rfl) (WL.ev rfl rfl (Ev.mv rfl rfl) (WL.nil ?_)))
  refine CW.block (CW.loop (α := Nat) (fun q => [(0, .slice A1 l.length c1), (1, .string rule), (7, .slice A1 l.length c1), (8, .int .i64 (l.length : Int)), (9, .int .i64 (q : Int))]) (fun q wr => Chg (fun z => w.heap.size ≤ z) w wr ∧ q ≤ l.length ∧ (∀ p ∈ l.take q, ¬ p.Rule = rule)) (fun q => l.length - q) 0 ⟨rfl, rfl, rfl, rfl, rfl, trivial⟩ ⟨Chg.refl _, by omega, by simp⟩ ?_)
  rintro k σ wr1 ⟨hEwr1, hk, hno⟩
  
  have hX1 : Ext w wr1 := Ext.trans_chg (Ext.refl _) hEwr1 fun _ h => h
  refine CW.seq (CW.reg ?_)
  refine WL.ev rfl rfl (Ev.bin rfl rfl rfl Bin.lss) (WL.nil ?_)
  refine CW.seq (CW.condD rfl (fun h1 => ?_) (fun h1 => ?_))
  · skip
    refine CW.skip ?_
    refine CW.seq (CW.block (CW.seq (CW.reg ?_)))
    obtain ⟨xe1, be1, oe1, cse1, hxe1, hAe1, hSe1, hre1, hAte1⟩ := rdS.el hl (i := k) (by omega)
    have hK1 := hre1
    obtain ⟨v1, rfl, hr1, hs1⟩ := hre1
    obtain ⟨A2, c2, rfl, hc2, hm2⟩ := hs1.form
    refine WL.ev rfl rfl (Ev.ixA rfl el52 sz91 rfl hAe1 rfl (by omega)) (WL.ev rfl rfl (Ev.lda rfl ag91 sz91 rfl (hAte1.ext hX1) rfl) ?_)
    refine WL.alloc rfl rfl rfl ze91 fun b1 w1 hEb1 hbb1 hBb1 => ?_
    refine WL.st rfl rfl rfl sz91 rfl rfl rfl rfl (all1 rfl (all1 rfl all0)) hBb1 (Nat.le_of_ble_eq_true rfl) fun w2 hCw2 hB_1 => ?_
    have hX2 := Ext.chg1 (hX1.trans hEb1) hCw2 (by have := hbb1; have := hEwr1.size; omega)
    refine WL.nil ?_
    refine CW.seq (CW.reg ?_)
    refine WL.ev rfl rfl (Ev.fa rfl fo91_0 rfl) (WL.ev rfl rfl (Ev.ld rfl ag9 rfl (hB_1.cell rfl)) (WL.ev rfl rfl (Ev.mv rfl rfl) (WL.ev rfl rfl (Ev.bin rfl rfl rfl Bin.eqlS) (WL.nil ?_))))
    refine CW.condD rfl (fun h2 => ?_) (fun h2 => ?_)
    · skip
      refine CW.seq (CW.reg ?_)
      refine WL.ev rfl rfl (Ev.fa rfl fo91_1 rfl) (WL.ev rfl rfl (Ev.ld rfl ag69 rfl (hB_1.cell rfl)) (WL.ev rfl rfl (Ev.as rfl rfl) (WL.nil ?_)))
      refine CW.ret ?_
      refine ⟨_, res1 rfl rfl rfl, hX2, ?_⟩
      rw [stepsR_found hno hxe1 h2]
      exact (hs1.ext hX2)
    · skip
      refine CW.skip ?_
      refine CW.reg ?_
      refine WL.ev rfl rfl (Ev.bin rfl rfl rfl (Bin.add (by omega))) (WL.ev rfl rfl (Ev.mv rfl rfl) (WL.nil ?_))
      exact ⟨k + 1, ⟨rfl, rfl, rfl, rfl, rfl, trivial⟩, ⟨((hEwr1.trans_ext hEb1).tr1 hCw2 (by have := hbb1; have := hEwr1.size; omega)), by omega, take_ne_step hno hxe1 h2⟩, by omega⟩
  · skip
    refine CW.exit ?_
    refine CW.seq (CW.reg ?_)
    refine WL.ev rfl rfl (Ev.as rfl rfl) (WL.nil ?_)
    refine CW.ret ?_
    refine ⟨_, res1 rfl rfl rfl, hX1, ?_⟩
    rw [stepsR_none hno (by omega)]
    exact rdS.nil (by decide)

theorem CloneStep_spec (w : World) {S1 : Nat → Prop} (l : List Step) {zl : Value} (hl : rdS S1 w l zl) (bl : szL l ≤ 1048576) :
    Ret Try.prog 85 #[zl] w (fun _ => False) fun v w' => NewS w w' (l) v := by
  refine enter Try.func85 rfl rfl rfl ?_
  obtain ⟨A1, c1, rfl, hc1, hm1⟩ := hl.form
  have hl1 : l.length ≤ 9223372036854775807 := Nat.le_trans hc1 hm1
  have nl := szL_length l
  refine CW.seq (CW.reg ?_)
  refine WL.ev rfl rfl (Ev.as rfl rfl) (WL.nil ?_)
  refine CW.seq (CW.seq (CW.reg ?_))
  refine WL.ev rfl rfl (Ev.mv rfl rfl) (WL.ev rfl rfl (Ev.bin rfl rfl rfl (Bin.eqlNil el69)) (WL.nil ?_))
  refine CW.condD rfl (fun h1 => ?_) (fun h1 => ?_)
  · skip
    refine CW.seq (CW.reg ?_)
    refine WL.ev rfl rfl (Ev.as rfl rfl) (WL.nil ?_)
    refine CW.ret ?_
    have e0 : l = [] := rdS.nil_of hl h1
    subst e0
    exact ⟨_, res1 rfl rfl rfl, (Ext.refl _), [], ownS.nil (by decide), List.nodup_nil, by simp⟩
  · skip
    refine CW.skip ?_
    refine CW.seq (CW.reg ?_)
    refine WL.lit0 rfl rfl rfl el69 sz93 fun g w1 hE1 hg hBg => ?_
    refine WL.ev rfl rfl (Ev.mv rfl rfl) ?_
    refine WL.app0 rfl rfl rfl el69 sz93 by93 ze93 rfl rfl rfl (hl.ext hE1) (by omega) fun v2 w2 hE2 hn => ?_
    refine WL.ev rfl rfl (Ev.as rfl rfl) (WL.nil ?_)
    refine CW.ret ?_
    obtain ⟨L, h1, h2, h3⟩ := hn
    exact ⟨_, res1 rfl rfl rfl, (hE1.trans hE2), L, h1, h2, fun q hq => by have := h3 q hq; have := hE1.size; omega⟩

theorem iStepsOf_spec (w : World) {S1 : Nat → Prop} (l : List RulePlan) {zl : Value} (hl : rdS S1 w l zl) (bl : szL l ≤ 1048576) (rule : ByteArray) (hrule : rule.size ≤ 9223372036854775807) :
    Ret Try.prog 55 #[zl, .string rule] w (fun _ => False) fun v w' => NewS w w' (stepsR l rule) v := by
  refine enter Try.func55 rfl rfl rfl ?_
  obtain ⟨A1, c1, rfl, hc1, hm1⟩ := hl.form
  have hl1 : l.length ≤ 9223372036854775807 := Nat.le_trans hc1 hm1
  have nl := szL_length l
  refine CW.seq (CW.reg ?_)
  refine WL.ev rfl rfl (Ev.as rfl rfl) (WL.nil ?_)
  refine CW.seq (CW.reg ?_)
  refine WL.ev rfl rfl (Ev.mv rfl rfl) (WL.ev rfl rfl (Ev.mv rfl rfl) ?_)
  refine WL.call rfl rfl rfl rfl rfl ok86 rfl (istepsOf_spec _ l hl _ (by omega)) ?_
  rintro vt w1 hEw1 hSt
  obtain ⟨At, ct, rfl, _, _⟩ := hSt.form
  have hsz := stepsR_szL l rule
  refine WL.call rfl rfl rfl rfl rfl ok85 rfl (CloneStep_spec _ ((stepsR l rule)) hSt (by omega)) ?_
  rintro v2 w2 hEw2 ⟨L2, hO2, hN2, hF2⟩
  obtain ⟨A3, c3, rfl, hc3, hm3⟩ := hO2.form
  refine WL.ev rfl rfl (Ev.as rfl rfl) (WL.nil ?_)
  refine CW.ret ?_
  exact ⟨_, res1 rfl rfl rfl, (hEw1.trans hEw2), L2, hO2, hN2, fun q hq => by have := hF2 _ hq; have := hEw1.size; omega⟩

theorem eqStep_spec (w : World) {S S2 : Nat → Prop} (x y : Step) {cs ds : List Value} (hx : rd S w x cs) (hy : rd S2 w y ds) :
    Ret Try.prog 87 #[.agg cs.toArray, .agg ds.toArray] w (fun _ => False) fun v _ => v = .bool (decide (x = y)) := by
  refine enter Try.func87 rfl rfl rfl ?_
  have hK1 := hx
  obtain ⟨rfl, hr1, hr2, hr3, hr4⟩ := hx
  have hK2 := hy
  obtain ⟨rfl, hr5, hr6, hr7, hr8⟩ := hy
  refine CW.seq (CW.reg ?_)
  refine WL.box rfl rfl rfl rfl rfl fun b1 w1 hEb1 hbb1 hBb1 => ?_
  refine WL.box rfl rfl rfl rfl rfl fun b2 w2 hEb2 hbb2 hBb2 => ?_
  refine WL.ev rfl rfl (Ev.as rfl rfl) (WL.nil ?_)
  refine CW.seq (CW.seq (CW.reg ?_))
  refine WL.ev rfl rfl (Ev.fa rfl fo93_0 rfl) (WL.ev rfl rfl (Ev.ld rfl ag3 rfl ((hBb1.ext hEb2).cell rfl)) (WL.ev rfl rfl (Ev.fa rfl fo93_0 rfl) (WL.ev rfl rfl (Ev.ld rfl ag3 rfl (hBb2.cell rfl)) (WL.ev rfl rfl (Ev.bin rfl rfl rfl Bin.neq) (WL.nil ?_)))))
  refine CW.condN rfl (fun h1 => ?_) (fun h1 => ?_)
  · skip
    refine CW.seq (CW.reg ?_)
    refine WL.ev rfl rfl (Ev.as rfl rfl) (WL.nil ?_)
    refine CW.ret ?_
    have e : x ≠ y := by rintro rfl; exact h1 rfl
    exact ⟨_, res1 rfl rfl rfl, (hEb1.trans hEb2), vB (by simp [e])⟩
  · skip
    refine CW.skip ?_
    refine CW.seq (CW.seq (CW.reg ?_))
    refine WL.ev rfl rfl (Ev.fa rfl fo93_1 rfl) (WL.ev rfl rfl (Ev.ld rfl ag3 rfl ((hBb1.ext hEb2).cell rfl)) (WL.ev rfl rfl (Ev.fa rfl fo93_1 rfl) (WL.ev rfl rfl (Ev.ld rfl ag3 rfl (hBb2.cell rfl)) (WL.ev rfl rfl (Ev.bin rfl rfl rfl Bin.neq) (WL.nil ?_)))))
    refine CW.condN rfl (fun h2 => ?_) (fun h2 => ?_)
    · skip
      refine CW.seq (CW.reg ?_)
      refine WL.ev rfl rfl (Ev.as rfl rfl) (WL.nil ?_)
      refine CW.ret ?_
      have e : x ≠ y := by rintro rfl; exact h2 rfl
      exact ⟨_, res1 rfl rfl rfl, (hEb1.trans hEb2), vB (by simp [e])⟩
    · skip
      refine CW.skip ?_
      refine CW.seq (CW.seq (CW.reg ?_))
      refine WL.ev rfl rfl (Ev.fa rfl fo93_2 rfl) (WL.ev rfl rfl (Ev.ld rfl ag3 rfl ((hBb1.ext hEb2).cell rfl)) (WL.ev rfl rfl (Ev.fa rfl fo93_2 rfl) (WL.ev rfl rfl (Ev.ld rfl ag3 rfl (hBb2.cell rfl)) (WL.ev rfl rfl (Ev.bin rfl rfl rfl Bin.neq) (WL.nil ?_)))))
      refine CW.condN rfl (fun h3 => ?_) (fun h3 => ?_)
      · skip
        refine CW.seq (CW.reg ?_)
        refine WL.ev rfl rfl (Ev.as rfl rfl) (WL.nil ?_)
        refine CW.ret ?_
        have e : x ≠ y := by rintro rfl; exact h3 rfl
        exact ⟨_, res1 rfl rfl rfl, (hEb1.trans hEb2), vB (by simp [e])⟩
      · skip
        refine CW.skip ?_
        refine CW.seq (CW.seq (CW.reg ?_))
        refine WL.ev rfl rfl (Ev.fa rfl fo93_3 rfl) (WL.ev rfl rfl (Ev.ld rfl ag9 rfl ((hBb1.ext hEb2).cell rfl)) (WL.ev rfl rfl (Ev.fa rfl fo93_3 rfl) (WL.ev rfl rfl (Ev.ld rfl ag9 rfl (hBb2.cell rfl)) (WL.ev rfl rfl (Ev.bin rfl rfl rfl Bin.neqS) (WL.nil ?_)))))
        refine CW.condN rfl (fun h4 => ?_) (fun h4 => ?_)
        · skip
          refine CW.seq (CW.reg ?_)
          refine WL.ev rfl rfl (Ev.as rfl rfl) (WL.nil ?_)
          refine CW.ret ?_
          have e : x ≠ y := by rintro rfl; exact h4 rfl
          exact ⟨_, res1 rfl rfl rfl, (hEb1.trans hEb2), vB (by simp [e])⟩
        · skip
          refine CW.skip ?_
          refine CW.seq (CW.reg ?_)
          refine WL.ev rfl rfl (Ev.as rfl rfl) (WL.nil ?_)
          refine CW.ret ?_
          have e : x = y := by cases x; cases y; simp_all
          exact ⟨_, res1 rfl rfl rfl, (hEb1.trans hEb2), vB (by simp [e])⟩

theorem eqStepS_spec (w : World) {S S2 : Nat → Prop} (x y : List Step) {z z2 : Value} (hx : rdS S w x z) (hy : rdS S2 w y z2) :
    Ret Try.prog 56 #[z, z2] w (fun _ => False) fun v _ => v = .bool (decide (x = y)) := by
  refine enter Try.func56 rfl rfl rfl ?_
  obtain ⟨A1, c1, rfl, hc1, hm1⟩ := hx.form
  have hl1 : x.length ≤ 9223372036854775807 := Nat.le_trans hc1 hm1
  obtain ⟨A2, c2, rfl, hc2, hm2⟩ := hy.form
  have hl2 : y.length ≤ 9223372036854775807 := Nat.le_trans hc2 hm2
  refine CW.seq (CW.reg ?_)
  refine WL.ev rfl rfl (Ev.as rfl rfl) (WL.nil ?_)
  refine CW.seq (CW.seq (CW.reg ?_))
  refine WL.ev rfl rfl (Ev.mv rfl rfl) (WL.ev rfl rfl (Ev.lenS rfl el69 rfl) (WL.ev rfl rfl (Ev.mv rfl rfl) (WL.ev rfl rfl (Ev.lenS rfl el69 rfl) (WL.ev rfl rfl (Ev.bin rfl rfl rfl Bin.neq) (WL.nil ?_)))))
  refine CW.condN rfl (fun h1 => ?_) (fun h1 => ?_)
  · skip
    refine CW.seq (CW.reg ?_)
    refine WL.ev rfl rfl (Ev.as rfl rfl) (WL.nil ?_)
    refine CW.ret ?_
    have e : x ≠ y := fun e => h1 (by rw [e])
    exact ⟨_, res1 rfl rfl rfl, (Ext.refl _), vB (by simp [e])⟩
  · skip
    refine CW.skip ?_
    refine CW.seq (CW.seq (CW.reg ?_))
    refine WL.ev rfl rfl (Ev.as rfl rfl) (WL.nil ?_)
    refine CW.block (CW.loop (α := Nat) (fun q => [(0, .slice A1 x.length c1), (1, .slice A2 y.length c2), (5, .int .i64 (q : Int))]) (fun q wr => Ext w wr ∧ q ≤ x.length ∧ x.take q = y.take q) (fun q => x.length - q) 0 ⟨rfl, rfl, rfl, trivial⟩ ⟨Ext.refl _, by omega, rfl⟩ ?_)
    rintro k σ wr1 ⟨hEwr1, hk, hpre⟩
    refine CW.seq (CW.seq (CW.reg ?_))
    refine WL.ev rfl rfl (Ev.mv rfl rfl) (WL.ev rfl rfl (Ev.mv rfl rfl) (WL.ev rfl rfl (Ev.lenS rfl el69 rfl) (WL.ev rfl rfl (Ev.bin rfl rfl rfl Bin.lss) (WL.nil ?_))))
    refine CW.condD rfl (fun h2 => ?_) (fun h2 => ?_)
    · skip
      refine CW.skip ?_
      refine CW.seq (CW.block (CW.seq (CW.quiet hmix (by kernel_rfl) ?_)))
      refine QL.ev rfl rfl (fun _ _ => Ev.mv rfl rfl) (QL.ev rfl rfl (fun _ _ => Ev.mv rfl rfl) ?_)
      obtain ⟨xe1, be1, oe1, cse1, hxe1, hAe1, hSe1, hre1, hAte1⟩ := rdS.el hx (i := k) (by omega)
      have hK1 := hre1
      obtain ⟨rfl, hr1, hr2, hr3, hr4⟩ := hre1
      refine QL.ev rfl rfl (fun _ _ => Ev.ixA rfl el69 sz93 rfl hAe1 rfl (by omega)) (QL.ev rfl rfl (fun _ hq => Ev.lda rfl ag93 sz93 rfl (hAte1.ext (hEwr1.trans hq)) rfl) (QL.ev rfl rfl (fun _ _ => Ev.mv rfl rfl) (QL.ev rfl rfl (fun _ _ => Ev.mv rfl rfl) ?_)))
      obtain ⟨xe2, be2, oe2, cse2, hxe2, hAe2, hSe2, hre2, hAte2⟩ := rdS.el hy (i := k) (by omega)
      have hK2 := hre2
      obtain ⟨rfl, hr5, hr6, hr7, hr8⟩ := hre2
      refine QL.ev rfl rfl (fun _ _ => Ev.ixA rfl el69 sz93 rfl hAe2 rfl (by omega)) (QL.ev rfl rfl (fun _ hq => Ev.lda rfl ag93 sz93 rfl (hAte2.ext (hEwr1.trans hq)) rfl) (QL.call rfl rfl rfl rfl rfl ok87 rfl (fun _ hq => eqStep_spec _ xe1 xe2 (rd_ext hK1 (hEwr1.trans hq)) (rd_ext hK2 (hEwr1.trans hq))) (QL.ev rfl rfl (fun _ _ => Ev.not rfl rfl) (QL.nil (fun w1 hEw1 => ?_)))))
      refine CW.condN rfl (fun h3 => ?_) (fun h3 => ?_)
      · skip
        refine CW.seq (CW.reg ?_)
        refine WL.ev rfl rfl (Ev.as rfl rfl) (WL.nil ?_)
        refine CW.ret ?_
        have e : x ≠ y := ne_of_at hxe1 hxe2 h3
        exact ⟨_, res1 rfl rfl rfl, (hEwr1.trans hEw1), vB (by simp [e])⟩
      · skip
        refine CW.skip ?_
        refine CW.reg ?_
        refine WL.ev rfl rfl (Ev.mv rfl rfl) (WL.ev rfl rfl (Ev.bin rfl rfl rfl (Bin.add (by omega))) (WL.ev rfl rfl (Ev.as rfl rfl) (WL.nil ?_)))
        exact ⟨k + 1, ⟨rfl, rfl, rfl, trivial⟩, ⟨(hEwr1.trans hEw1), by omega, take_succ_eq hpre hxe1 hxe2 h3⟩, by omega⟩
    · skip
      refine CW.exit ?_
      refine CW.seq (CW.reg ?_)
      refine WL.ev rfl rfl (Ev.as rfl rfl) (WL.nil ?_)
      refine CW.ret ?_
      have e : x = y := eq_of_take (by omega) (by omega) hpre
      exact ⟨_, res1 rfl rfl rfl, hEwr1, vB (by simp [e])⟩

theorem eqRulePlan_spec (w : World) {S S2 : Nat → Prop} (x y : RulePlan) {cs ds : List Value} (hx : rd S w x cs) (hy : rd S2 w y ds) :
    Ret Try.prog 77 #[.agg cs.toArray, .agg ds.toArray] w (fun _ => False) fun v _ => v = .bool (decide (x = y)) := by
  refine enter Try.func77 rfl rfl rfl ?_
  have hK1 := hx
  obtain ⟨v1, rfl, hr1, hs1⟩ := hx
  obtain ⟨A1, c1, rfl, hc1, hm1⟩ := hs1.form
  have hK2 := hy
  obtain ⟨v2, rfl, hr2, hs2⟩ := hy
  obtain ⟨A2, c2, rfl, hc2, hm2⟩ := hs2.form
  refine CW.seq (CW.reg ?_)
  refine WL.box rfl rfl rfl rfl rfl fun b1 w1 hEb1 hbb1 hBb1 => ?_
  refine WL.box rfl rfl rfl rfl rfl fun b2 w2 hEb2 hbb2 hBb2 => ?_
  refine WL.ev rfl rfl (Ev.as rfl rfl) (WL.nil ?_)
  refine CW.seq (CW.seq (CW.reg ?_))
  refine WL.ev rfl rfl (Ev.fa rfl fo91_0 rfl) (WL.ev rfl rfl (Ev.ld rfl ag9 rfl ((hBb1.ext hEb2).cell rfl)) (WL.ev rfl rfl (Ev.fa rfl fo91_0 rfl) (WL.ev rfl rfl (Ev.ld rfl ag9 rfl (hBb2.cell rfl)) (WL.ev rfl rfl (Ev.bin rfl rfl rfl Bin.neqS) (WL.nil ?_)))))
  refine CW.condN rfl (fun h1 => ?_) (fun h1 => ?_)
  · skip
    refine CW.seq (CW.reg ?_)
    refine WL.ev rfl rfl (Ev.as rfl rfl) (WL.nil ?_)
    refine CW.ret ?_
    have e : x ≠ y := by rintro rfl; exact h1 rfl
    exact ⟨_, res1 rfl rfl rfl, (hEb1.trans hEb2), vB (by simp [e])⟩
  · skip
    refine CW.skip ?_
    refine CW.seq (CW.seq (CW.reg ?_))
    refine WL.ev rfl rfl (Ev.fa rfl fo91_1 rfl) (WL.ev rfl rfl (Ev.ld rfl ag69 rfl ((hBb1.ext hEb2).cell rfl)) (WL.ev rfl rfl (Ev.fa rfl fo91_1 rfl) (WL.ev rfl rfl (Ev.ld rfl ag69 rfl (hBb2.cell rfl)) ?_)))
    refine WL.call rfl rfl rfl rfl rfl ok56 rfl (eqStepS_spec _ x.Steps y.Steps (hs1.ext (hEb1.trans hEb2)) (hs2.ext (hEb1.trans hEb2))) ?_
    rintro _ w3 hEw3 rfl
    refine WL.ev rfl rfl (Ev.not rfl rfl) (WL.nil ?_)
    refine CW.condN rfl (fun h2 => ?_) (fun h2 => ?_)
    · skip
      refine CW.seq (CW.reg ?_)
      refine WL.ev rfl rfl (Ev.as rfl rfl) (WL.nil ?_)
      refine CW.ret ?_
      have e : x ≠ y := by rintro rfl; exact h2 rfl
      exact ⟨_, res1 rfl rfl rfl, ((hEb1.trans hEb2).trans hEw3), vB (by simp [e])⟩
    · skip
      refine CW.skip ?_
      refine CW.seq (CW.reg ?_)
      refine WL.ev rfl rfl (Ev.as rfl rfl) (WL.nil ?_)
      refine CW.ret ?_
      have e : x = y := by cases x; cases y; simp_all
      exact ⟨_, res1 rfl rfl rfl, ((hEb1.trans hEb2).trans hEw3), vB (by simp [e])⟩

theorem eqRulePlanS_spec (w : World) {S S2 : Nat → Prop} (x y : List RulePlan) {z z2 : Value} (hx : rdS S w x z) (hy : rdS S2 w y z2) :
    Ret Try.prog 39 #[z, z2] w (fun _ => False) fun v _ => v = .bool (decide (x = y)) := by
  refine enter Try.func39 rfl rfl rfl ?_
  obtain ⟨A1, c1, rfl, hc1, hm1⟩ := hx.form
  have hl1 : x.length ≤ 9223372036854775807 := Nat.le_trans hc1 hm1
  obtain ⟨A2, c2, rfl, hc2, hm2⟩ := hy.form
  have hl2 : y.length ≤ 9223372036854775807 := Nat.le_trans hc2 hm2
  refine CW.seq (CW.reg ?_)
  refine WL.ev rfl rfl (Ev.as rfl rfl) (WL.nil ?_)
  refine CW.seq (CW.seq (CW.reg ?_))
  refine WL.ev rfl rfl (Ev.mv rfl rfl) (WL.ev rfl rfl (Ev.lenS rfl el52 rfl) (WL.ev rfl rfl (Ev.mv rfl rfl) (WL.ev rfl rfl (Ev.lenS rfl el52 rfl) (WL.ev rfl rfl (Ev.bin rfl rfl rfl Bin.neq) (WL.nil ?_)))))
  refine CW.condN rfl (fun h1 => ?_) (fun h1 => ?_)
  · skip
    refine CW.seq (CW.reg ?_)
    refine WL.ev rfl rfl (Ev.as rfl rfl) (WL.nil ?_)
    refine CW.ret ?_
    have e : x ≠ y := fun e => h1 (by rw [e])
    exact ⟨_, res1 rfl rfl rfl, (Ext.refl _), vB (by simp [e])⟩
  · skip
    refine CW.skip ?_
    refine CW.seq (CW.seq (CW.reg ?_))
    refine WL.ev rfl rfl (Ev.as rfl rfl) (WL.nil ?_)
    refine CW.block (CW.loop (α := Nat) (fun q => [(0, .slice A1 x.length c1), (1, .slice A2 y.length c2), (5, .int .i64 (q : Int))]) (fun q wr => Ext w wr ∧ q ≤ x.length ∧ x.take q = y.take q) (fun q => x.length - q) 0 ⟨rfl, rfl, rfl, trivial⟩ ⟨Ext.refl _, by omega, rfl⟩ ?_)
    rintro k σ wr1 ⟨hEwr1, hk, hpre⟩
    refine CW.seq (CW.seq (CW.reg ?_))
    refine WL.ev rfl rfl (Ev.mv rfl rfl) (WL.ev rfl rfl (Ev.mv rfl rfl) (WL.ev rfl rfl (Ev.lenS rfl el52 rfl) (WL.ev rfl rfl (Ev.bin rfl rfl rfl Bin.lss) (WL.nil ?_))))
    refine CW.condD rfl (fun h2 => ?_) (fun h2 => ?_)
    · skip
      refine CW.skip ?_
      refine CW.seq (CW.block (CW.seq (CW.quiet hmix (by kernel_rfl) ?_)))
      refine QL.ev rfl rfl (fun _ _ => Ev.mv rfl rfl) (QL.ev rfl rfl (fun _ _ => Ev.mv rfl rfl) ?_)
      obtain ⟨xe1, be1, oe1, cse1, hxe1, hAe1, hSe1, hre1, hAte1⟩ := rdS.el hx (i := k) (by omega)
      have hK1 := hre1
      obtain ⟨v1, rfl, hr1, hs1⟩ := hre1
      obtain ⟨A3, c3, rfl, hc3, hm3⟩ := hs1.form
      refine QL.ev rfl rfl (fun _ _ => Ev.ixA rfl el52 sz91 rfl hAe1 rfl (by omega)) (QL.ev rfl rfl (fun _ hq => Ev.lda rfl ag91 sz91 rfl (hAte1.ext (hEwr1.trans hq)) rfl) (QL.ev rfl rfl (fun _ _ => Ev.mv rfl rfl) (QL.ev rfl rfl (fun _ _ => Ev.mv rfl rfl) ?_)))
      obtain ⟨xe2, be2, oe2, cse2, hxe2, hAe2, hSe2, hre2, hAte2⟩ := rdS.el hy (i := k) (by omega)
      have hK2 := hre2
      obtain ⟨v2, rfl, hr2, hs2⟩ := hre2
      obtain ⟨A4, c4, rfl, hc4, hm4⟩ := hs2.form
      refine QL.ev rfl rfl (fun _ _ => Ev.ixA rfl el52 sz91 rfl hAe2 rfl (by omega)) (QL.ev rfl rfl (fun _ hq => Ev.lda rfl ag91 sz91 rfl (hAte2.ext (hEwr1.trans hq)) rfl) (QL.call rfl rfl rfl rfl rfl ok77 rfl (fun _ hq => eqRulePlan_spec _ xe1 xe2 (rd_ext hK1 (hEwr1.trans hq)) (rd_ext hK2 (hEwr1.trans hq))) (QL.ev rfl rfl (fun _ _ => Ev.not rfl rfl) (QL.nil (fun w1 hEw1 => ?_)))))
      refine CW.condN rfl (fun h3 => ?_) (fun h3 => ?_)
      · skip
        refine CW.seq (CW.reg ?_)
        refine WL.ev rfl rfl (Ev.as rfl rfl) (WL.nil ?_)
        refine CW.ret ?_
        have e : x ≠ y := ne_of_at hxe1 hxe2 h3
        exact ⟨_, res1 rfl rfl rfl, (hEwr1.trans hEw1), vB (by simp [e])⟩
      · skip
        refine CW.skip ?_
        refine CW.reg ?_
        refine WL.ev rfl rfl (Ev.mv rfl rfl) (WL.ev rfl rfl (Ev.bin rfl rfl rfl (Bin.add (by omega))) (WL.ev rfl rfl (Ev.as rfl rfl) (WL.nil ?_)))
        exact ⟨k + 1, ⟨rfl, rfl, rfl, trivial⟩, ⟨(hEwr1.trans hEw1), by omega, take_succ_eq hpre hxe1 hxe2 h3⟩, by omega⟩
    · skip
      refine CW.exit ?_
      refine CW.seq (CW.reg ?_)
      refine WL.ev rfl rfl (Ev.as rfl rfl) (WL.nil ?_)
      refine CW.ret ?_
      have e : x = y := eq_of_take (by omega) (by omega) hpre
      exact ⟨_, res1 rfl rfl rfl, hEwr1, vB (by simp [e])⟩

theorem markText_spec (w : World) (k : Int) (hk0 : 0 ≤ k) (hk1 : k ≤ 4611686018427387904) :
    Ret Try.prog 88 #[.int .i64 k] w (fun _ => False) fun v _ => v = .string (mtext k) := by
  refine enter Try.func88 rfl rfl rfl ?_
  refine CW.seq (CW.reg ?_)
  refine WL.ev rfl rfl (Ev.as rfl rfl) (WL.nil ?_)
  refine CW.seq (CW.seq (CW.reg ?_))
  refine WL.ev rfl rfl (Ev.mv rfl rfl) (WL.ev rfl rfl (Ev.bin rfl rfl rfl Bin.leq) (WL.nil ?_))
  refine CW.condD rfl (fun h1 => ?_) (fun h1 => ?_)
  · skip
    refine CW.seq (CW.reg ?_)
    refine WL.ev rfl rfl (Ev.as rfl rfl) (WL.nil ?_)
    refine CW.ret ?_
    exact ⟨_, res1 rfl rfl rfl, (Ext.refl _), vS (by simp only [mtext]; rw [if_pos (by omega)])⟩
  · skip
    refine CW.skip ?_
    refine CW.seq (CW.reg ?_)
    refine WL.ev rfl rfl (Ev.as rfl rfl) (WL.nil ?_)
    refine CW.seq (CW.block (CW.loop (α := Nat × ByteArray) (fun q => [(0, .int .i64 (q.1 : Int)), (3, .string q.2)]) (fun q wr => Ext w wr ∧ q.1 ≤ k.toNat ∧ digs q.1 q.1 q.2 = digs k.toNat k.toNat ⟨#[]⟩ ∧ q.2.size + q.1 ≤ k.toNat) (fun q => q.1) (k.toNat, ⟨#[]⟩) ⟨by rw [Int.toNat_of_nonneg (by omega)]; rfl, rfl, trivial⟩ ⟨Ext.refl _, Nat.le_refl _, rfl, by show 0 + _ ≤ _; omega⟩ ?_))
    rintro ⟨m, s⟩ σ wr1 ⟨hEwr1, hm, hds, hsz⟩
    simp only at hm hds hsz
    have hdg : UInt8.ofNat (IntKind.u8.wrap (48 + ((m % 10 : Nat) : Int))).toNat = (48 + m % 10).toUInt8 := digit_byte m
    have hadd := add_bound (b := (48 + m % 10).toUInt8) m s hsz hk1
    refine CW.seq (CW.seq (CW.reg ?_))
    refine WL.ev rfl rfl (Ev.mv rfl rfl) (WL.ev rfl rfl (Ev.bin rfl rfl rfl Bin.gtr) (WL.nil ?_))
    refine CW.condD rfl (fun h2 => ?_) (fun h2 => ?_)
    · skip
      refine CW.skip ?_
      refine CW.block (CW.seq (CW.reg ?_))
      refine WL.ev rfl rfl (Ev.mv rfl rfl) (WL.ev rfl rfl (Ev.bin rfl rfl rfl (Bin.rem (x := m) (y := 10) (by omega))) (WL.ev rfl rfl (Ev.bin rfl rfl rfl (Bin.add (by omega))) (WL.ev rfl rfl (Ev.conv rfl Try.underlying3 it5 rfl) ?_)))
      refine WL.lit1 rfl rfl rfl el118 sz5 ze5 rfl rfl rfl rfl rfl rfl fun bl w1 hE1 hbl hBl => ?_
      refine WL.ev rfl rfl (Ev.convB1 rfl el118 it5 Try.underlying9 rfl hBl (Nat.le_refl _)) (WL.ev rfl rfl (Ev.mv rfl rfl) (WL.ev rfl rfl (Ev.bin rfl rfl rfl (Bin.addS hadd)) (WL.ev rfl rfl (Ev.as rfl rfl) (WL.nil ?_))))
      refine CW.reg ?_
      refine WL.ev rfl rfl (Ev.mv rfl rfl) (WL.ev rfl rfl (Ev.bin rfl rfl rfl (Bin.quo (x := m) (y := 10) (by omega) (by omega))) (WL.ev rfl rfl (Ev.as rfl rfl) (WL.nil ?_)))
      exact ⟨(m / 10, ⟨#[(48 + m % 10).toUInt8]⟩ ++ s), ⟨rfl, by rw [hdg]; rfl, trivial⟩, ⟨(hEwr1.trans hE1), by simp only; omega, ((digs_fuel _ _ _ _ (Nat.le_refl _) (by omega)).trans (digs_step (m := m) (s := s) (by omega)).symm).trans hds, by simp only; have := size_one_append (48 + m % 10).toUInt8 s; omega⟩, by simp only; omega⟩
    · skip
      refine CW.exit ?_
      refine CW.seq (CW.reg ?_)
      refine WL.ev rfl rfl (Ev.mv rfl rfl) (WL.ev rfl rfl (Ev.bin rfl rfl rfl (Bin.addS hadd)) (WL.ev rfl rfl (Ev.as rfl rfl) (WL.nil ?_)))
      refine CW.ret ?_
      have hm0 : m = 0 := by omega
      subst hm0
      exact ⟨_, res1 rfl rfl rfl, hEwr1, vS (by simp only [mtext]; rw [if_neg (by omega), ← hds]; simp [digs])⟩

theorem markStepS_spec (w : World) (L : List Nat) (x : List Step) {z : Value} (hx : ownS L w x z) (hN : L.Nodup) (k0 : Int) (hk0 : 0 ≤ k0) (hk1 : k0 + cntL x ≤ 4611686018427387904) :
    Ret Try.prog 58 #[z, .int .i64 k0] w (· ∈ L) fun v w' => v = .int .i64 (k0 + cntL x) ∧ ownS L w' (mkL x k0) z := by
  refine enter Try.func58 rfl rfl rfl ?_
  obtain ⟨A1, c1, rfl, hc1, hm1⟩ := hx.form
  have hl1 : x.length ≤ 9223372036854775807 := Nat.le_trans hc1 hm1
  refine CW.seq (CW.reg ?_)
  refine WL.ev rfl rfl (Ev.as rfl rfl) (WL.nil ?_)
  refine CW.seq (CW.seq (CW.reg ?_))
  refine WL.ev rfl rfl (Ev.as rfl rfl) (WL.nil ?_)
  refine CW.block (CW.loop (α := Nat × Int) (fun q => [(0, .slice A1 x.length c1), (1, .int .i64 q.2), (5, .int .i64 (q.1 : Int))]) (fun q wr => Chg (· ∈ L) w wr ∧ q.1 ≤ x.length ∧ ownS L wr (mixL x k0 q.1) (.slice A1 x.length c1) ∧ q.2 = k0 + cntL (x.take q.1)) (fun q => x.length - q.1) (0, k0) ⟨rfl, rfl, rfl, trivial⟩ ⟨Chg.refl _, by simp, by rw [mixL_zero]; exact hx, by simp [cntL]⟩ ?_)
  rintro ⟨k, l⟩ σ wr1 ⟨hEwr1, hk, hO, hl⟩
  simp only at hk hO hl
  subst hl
  have hcl0 := cntL_take_le x k
  refine CW.seq (CW.seq (CW.reg ?_))
  refine WL.ev rfl rfl (Ev.mv rfl rfl) (WL.ev rfl rfl (Ev.mv rfl rfl) (WL.ev rfl rfl (Ev.lenS rfl el69 rfl) (WL.ev rfl rfl (Ev.bin rfl rfl rfl Bin.lss) (WL.nil ?_))))
  refine CW.condD rfl (fun h1 => ?_) (fun h1 => ?_)
  · skip
    refine CW.skip ?_
    refine CW.seq (CW.block (CW.seq (CW.reg ?_)))
    refine WL.ev rfl rfl (Ev.mv rfl rfl) (WL.ev rfl rfl (Ev.mv rfl rfl) (WL.ev rfl rfl (Ev.mv rfl rfl) ?_))
    obtain ⟨y, hy⟩ : ∃ y, x[k]? = some y := ⟨_, List.getElem?_eq_getElem (by omega)⟩
    have hct := cntL_take_succ hy
    have hcl := cntL_take_le x (k + 1)
    have hcn : Mk.cnt y = 1 + 1 + 1 + 1 := rfl
    obtain ⟨b, o, e, cur, Li, ci, hA, hbL, hbN, hLN, hLL, hBf, hfit, how, hplug⟩ := hO.mark1 hN hy
    obtain ⟨rfl, hr1, hr2, hr3, hr4, rfl⟩ := how
    have hM0 := Chg.refl (M := (· ∈ b :: [])) wr1
    refine WL.ev rfl rfl (Ev.ixA rfl el69 sz93 rfl hA rfl (by omega)) (WL.ev rfl rfl (Ev.fa rfl fo93_0 rfl) ?_)
    refine WL.stE rfl rfl rfl sz3 rfl rfl rfl rfl (all1 rfl all0) hBf rfl hfit rfl fun w1 hCw1 hB_1 => ?_
    have hM1 := hM0.tr1 hCw1 List.mem_cons_self
    refine WL.nil ?_
    refine CW.seq (CW.reg ?_)
    refine WL.ev rfl rfl (Ev.mv rfl rfl) (WL.ev rfl rfl (Ev.bin rfl rfl rfl (Bin.add (by omega))) (WL.ev rfl rfl (Ev.as rfl rfl) (WL.nil ?_)))
    refine CW.seq (CW.reg ?_)
    refine WL.ev rfl rfl (Ev.mv rfl rfl) (WL.ev rfl rfl (Ev.mv rfl rfl) (WL.ev rfl rfl (Ev.mv rfl rfl) (WL.ev rfl rfl (Ev.ixA rfl el69 sz93 rfl hA rfl (by omega)) (WL.ev rfl rfl (Ev.fa rfl fo93_1 rfl) ?_))))
    refine WL.stE rfl rfl rfl sz3 rfl rfl rfl rfl (all1 rfl all0) hB_1 rfl hfit rfl fun w2 hCw2 hB_2 => ?_
    have hM2 := hM1.tr1 hCw2 List.mem_cons_self
    refine WL.nil ?_
    refine CW.seq (CW.reg ?_)
    refine WL.ev rfl rfl (Ev.mv rfl rfl) (WL.ev rfl rfl (Ev.bin rfl rfl rfl (Bin.add (by omega))) (WL.ev rfl rfl (Ev.as rfl rfl) (WL.nil ?_)))
    refine CW.seq (CW.reg ?_)
    refine WL.ev rfl rfl (Ev.mv rfl rfl) (WL.ev rfl rfl (Ev.mv rfl rfl) (WL.ev rfl rfl (Ev.mv rfl rfl) (WL.ev rfl rfl (Ev.ixA rfl el69 sz93 rfl hA rfl (by omega)) (WL.ev rfl rfl (Ev.fa rfl fo93_2 rfl) ?_))))
    refine WL.stE rfl rfl rfl sz3 rfl rfl rfl rfl (all1 rfl all0) hB_2 rfl hfit rfl fun w3 hCw3 hB_3 => ?_
    have hM3 := hM2.tr1 hCw3 List.mem_cons_self
    refine WL.nil ?_
    refine CW.seq (CW.reg ?_)
    refine WL.ev rfl rfl (Ev.mv rfl rfl) (WL.ev rfl rfl (Ev.bin rfl rfl rfl (Bin.add (by omega))) (WL.ev rfl rfl (Ev.as rfl rfl) (WL.nil ?_)))
    refine CW.seq (CW.reg ?_)
    refine WL.ev rfl rfl (Ev.mv rfl rfl) (WL.ev rfl rfl (Ev.mv rfl rfl) (WL.ev rfl rfl (Ev.mv rfl rfl) ?_))
    refine WL.call rfl rfl rfl rfl rfl ok88 rfl (markText_spec _ _ (by omega) (by omega)) ?_
    rintro _ w4 hEw4 rfl
    have hM4 := hM3.trans_ext hEw4
    refine WL.ev rfl rfl (Ev.ixA rfl el69 sz93 rfl hA rfl (by omega)) (WL.ev rfl rfl (Ev.fa rfl fo93_3 rfl) ?_)
    refine WL.stE rfl rfl rfl sz9 rfl rfl rfl rfl (all1 rfl all0) (hB_3.ext hEw4) rfl hfit rfl fun w5 hCw5 hB_4 => ?_
    have hM5 := hM4.tr1 hCw5 List.mem_cons_self
    refine WL.nil ?_
    refine CW.reg ?_
    refine WL.ev rfl rfl (Ev.mv rfl rfl) (WL.ev rfl rfl (Ev.bin rfl rfl rfl (Bin.add (by omega))) (WL.ev rfl rfl (Ev.as rfl rfl) (WL.nil ?_)))
    refine CW.reg ?_
    refine WL.ev rfl rfl (Ev.mv rfl rfl) (WL.ev rfl rfl (Ev.bin rfl rfl rfl (Bin.add (by omega))) (WL.ev rfl rfl (Ev.as rfl rfl) (WL.nil ?_)))
    exact ⟨(k + 1, _), ⟨rfl, rfl, rfl, trivial⟩, ⟨hEwr1.trL hM5 (List.forall_mem_cons.2 ⟨hbL, hLL⟩), by simp only; omega, hplug hM5 ⟨rfl, rI (by omega) (by omega), rI (by omega) (by omega), rI (by omega) (by omega), rS (by omega), rfl⟩ hB_4, by simp only; omega⟩, by simp only; omega⟩
  · skip
    refine CW.exit ?_
    refine CW.seq (CW.reg ?_)
    refine WL.ev rfl rfl (Ev.mv rfl rfl) (WL.ev rfl rfl (Ev.as rfl rfl) (WL.nil ?_))
    refine CW.ret ?_
    exact ⟨_, res1 rfl rfl rfl, hEwr1, vI (by simp only [cntL_full (xs := x) (i := k) (by omega)]), by rw [← mixL_all x k0 (i := k) (by omega)]; exact hO⟩

theorem markRulePlanS_spec (w : World) (L : List Nat) (x : List RulePlan) {z : Value} (hx : ownS L w x z) (hN : L.Nodup) (k0 : Int) (hk0 : 0 ≤ k0) (hk1 : k0 + cntL x ≤ 4611686018427387904) :
    Ret Try.prog 57 #[z, .int .i64 k0] w (· ∈ L) fun v w' => v = .int .i64 (k0 + cntL x) ∧ ownS L w' (mkL x k0) z := by
  refine enter Try.func57 rfl rfl rfl ?_
  obtain ⟨A1, c1, rfl, hc1, hm1⟩ := hx.form
  have hl1 : x.length ≤ 9223372036854775807 := Nat.le_trans hc1 hm1
  refine CW.seq (CW.reg ?_)
  refine WL.ev rfl rfl (Ev.as rfl rfl) (WL.nil ?_)
  refine CW.seq (CW.seq (CW.reg ?_))
  refine WL.ev rfl rfl (Ev.as rfl rfl) (WL.nil ?_)
  refine CW.block (CW.loop (α := Nat × Int) (fun q => [(0, .slice A1 x.length c1), (1, .int .i64 q.2), (5, .int .i64 (q.1 : Int))]) (fun q wr => Chg (· ∈ L) w wr ∧ q.1 ≤ x.length ∧ ownS L wr (mixL x k0 q.1) (.slice A1 x.length c1) ∧ q.2 = k0 + cntL (x.take q.1)) (fun q => x.length - q.1) (0, k0) ⟨rfl, rfl, rfl, trivial⟩ ⟨Chg.refl _, by simp, by rw [mixL_zero]; exact hx, by simp [cntL]⟩ ?_)
  rintro ⟨k, l⟩ σ wr1 ⟨hEwr1, hk, hO, hl⟩
  simp only at hk hO hl
  subst hl
  have hcl0 := cntL_take_le x k
  refine CW.seq (CW.seq (CW.reg ?_))
  refine WL.ev rfl rfl (Ev.mv rfl rfl) (WL.ev rfl rfl (Ev.mv rfl rfl) (WL.ev rfl rfl (Ev.lenS rfl el52 rfl) (WL.ev rfl rfl (Ev.bin rfl rfl rfl Bin.lss) (WL.nil ?_))))
  refine CW.condD rfl (fun h1 => ?_) (fun h1 => ?_)
  · skip
    refine CW.skip ?_
    refine CW.seq (CW.block (CW.seq (CW.reg ?_)))
    refine WL.ev rfl rfl (Ev.mv rfl rfl) (WL.ev rfl rfl (Ev.mv rfl rfl) (WL.ev rfl rfl (Ev.mv rfl rfl) ?_))
    obtain ⟨y, hy⟩ : ∃ y, x[k]? = some y := ⟨_, List.getElem?_eq_getElem (by omega)⟩
    have hct := cntL_take_succ hy
    have hcl := cntL_take_le x (k + 1)
    have hcn : Mk.cnt y = 1 + cntL y.Steps := rfl
    obtain ⟨b, o, e, cur, Li, ci, hA, hbL, hbN, hLN, hLL, hBf, hfit, how, hplug⟩ := hO.mark1 hN hy
    obtain ⟨v1, L1, rfl, hr1, rfl, hO1⟩ := how
    obtain ⟨A2, c2, rfl, hc1, hm1⟩ := hO1.form
    have hM0 := Chg.refl (M := (· ∈ b :: Li)) wr1
    refine WL.call rfl rfl rfl rfl rfl ok88 rfl (markText_spec _ _ (by omega) (by omega)) ?_
    rintro _ w1 hEw1 rfl
    have hM1 := hM0.trans_ext hEw1
    refine WL.ev rfl rfl (Ev.ixA rfl el52 sz91 rfl hA rfl (by omega)) (WL.ev rfl rfl (Ev.fa rfl fo91_0 rfl) ?_)
    refine WL.stE rfl rfl rfl sz9 rfl rfl rfl rfl (all1 rfl all0) (hBf.ext hEw1) rfl hfit rfl fun w2 hCw2 hB_1 => ?_
    have hM2 := hM1.tr1 hCw2 List.mem_cons_self
    have hO_1 := ownS.chg1 (hO1.ext hEw1) hCw2 (fun q hq e => hbN (by subst e; simp [hq]))
    refine WL.nil ?_
    refine CW.seq (CW.reg ?_)
    refine WL.ev rfl rfl (Ev.mv rfl rfl) (WL.ev rfl rfl (Ev.bin rfl rfl rfl (Bin.add (by omega))) (WL.ev rfl rfl (Ev.as rfl rfl) (WL.nil ?_)))
    refine CW.reg ?_
    refine WL.ev rfl rfl (Ev.mv rfl rfl) (WL.ev rfl rfl (Ev.mv rfl rfl) (WL.ev rfl rfl (Ev.ixA rfl el52 sz91 rfl hA rfl (by omega)) (WL.ev rfl rfl (Ev.fa rfl fo91_1 rfl) (WL.ev rfl rfl (Ev.ld rfl ag69 rfl ((hB_1.foc (s := 2) rfl hfit).cell rfl)) (WL.ev rfl rfl (Ev.mv rfl rfl) ?_)))))
    refine WL.call rfl rfl rfl rfl rfl ok58 rfl (markStepS_spec _ _ y.Steps hO_1 hLN _ (by omega) (by omega)) ?_
    rintro _ w3 hEw3 ⟨rfl, hO_2⟩
    have hM3 := hM2.trL hEw3 (fun q hq => by simp [hq])
    have hB_2 := Blk.chgL hB_1 hEw3 (fun hq => hbN (by simp [hq]))
    refine WL.ev rfl rfl (Ev.as rfl rfl) (WL.nil ?_)
    refine CW.reg ?_
    refine WL.ev rfl rfl (Ev.mv rfl rfl) (WL.ev rfl rfl (Ev.bin rfl rfl rfl (Bin.add (by omega))) (WL.ev rfl rfl (Ev.as rfl rfl) (WL.nil ?_)))
    exact ⟨(k + 1, _), ⟨rfl, rfl, rfl, trivial⟩, ⟨hEwr1.trL hM3 (List.forall_mem_cons.2 ⟨hbL, hLL⟩), by simp only; omega, hplug hM3 ⟨_, _, rfl, rS (by omega), rfl, hO_2⟩ hB_2, by simp only; omega⟩, by simp only; omega⟩
  · skip
    refine CW.exit ?_
    refine CW.seq (CW.reg ?_)
    refine WL.ev rfl rfl (Ev.mv rfl rfl) (WL.ev rfl rfl (Ev.as rfl rfl) (WL.nil ?_))
    refine CW.ret ?_
    exact ⟨_, res1 rfl rfl rfl, hEwr1, vI (by simp only [cntL_full (xs := x) (i := k) (by omega)]), by rw [← mixL_all x k0 (i := k) (by omega)]; exact hO⟩

theorem heldStepS_spec (w : World) {S : Nat → Prop} (x : List Step) {z : Value} (hx : rdS S w x z) (k0 : Int) (hk0 : 0 ≤ k0) (hk1 : k0 + cntL x ≤ 4611686018427387904) :
    Ret Try.prog 59 #[z, .int .i64 k0] w (fun _ => False) fun v _ => ∃ r, v = .int .i64 r ∧ Held (hdL x k0) k0 (cntL x) r := by
  refine enter Try.func59 rfl rfl rfl ?_
  obtain ⟨A1, c1, rfl, hc1, hm1⟩ := hx.form
  have hl1 : x.length ≤ 9223372036854775807 := Nat.le_trans hc1 hm1
  refine CW.seq (CW.reg ?_)
  refine WL.ev rfl rfl (Ev.as rfl rfl) (WL.nil ?_)
  refine CW.seq (CW.seq (CW.reg ?_))
  refine WL.ev rfl rfl (Ev.as rfl rfl) (WL.nil ?_)
  refine CW.block (CW.loop (α := Nat × Int) (fun q => [(0, .slice A1 x.length c1), (1, .int .i64 q.2), (5, .int .i64 (q.1 : Int))]) (fun q wr => Ext w wr ∧ q.1 ≤ x.length ∧ hdL (x.take q.1) k0 = some q.2 ∧ q.2 = k0 + cntL (x.take q.1)) (fun q => x.length - q.1) (0, k0) ⟨rfl, rfl, rfl, trivial⟩ ⟨Ext.refl _, by simp, rfl, by simp [cntL]⟩ ?_)
  rintro ⟨k, l⟩ σ wr1 ⟨hEwr1, hk, hh, hl⟩
  simp only at hk hh hl
  have hcl0 := cntL_take_le x k
  refine CW.seq (CW.seq (CW.reg ?_))
  refine WL.ev rfl rfl (Ev.mv rfl rfl) (WL.ev rfl rfl (Ev.mv rfl rfl) (WL.ev rfl rfl (Ev.lenS rfl el69 rfl) (WL.ev rfl rfl (Ev.bin rfl rfl rfl Bin.lss) (WL.nil ?_))))
  refine CW.condD rfl (fun h1 => ?_) (fun h1 => ?_)
  · skip
    refine CW.skip ?_
    refine CW.seq (CW.block (CW.seq (CW.seq (CW.reg ?_))))
    refine WL.ev rfl rfl (Ev.mv rfl rfl) (WL.ev rfl rfl (Ev.mv rfl rfl) ?_)
    obtain ⟨xe1, be1, oe1, cse1, hxe1, hAe1, hSe1, hre1, hAte1⟩ := rdS.el hx (i := k) (by omega)
    have hK1 := hre1
    obtain ⟨rfl, hr1, hr2, hr3, hr4⟩ := hre1
    have hct := cntL_take_succ hxe1
    have hcl := cntL_take_le x (k + 1)
    have hcn : Mk.cnt xe1 = 1 + 1 + 1 + 1 := rfl
    refine WL.ev rfl rfl (Ev.ixA rfl el69 sz93 rfl hAe1 rfl (by omega)) (WL.ev rfl rfl (Ev.fa rfl fo93_0 rfl) (WL.ev rfl rfl (Ev.ld rfl ag3 rfl ((hAte1.ext hEwr1).cell rfl)) (WL.ev rfl rfl (Ev.mv rfl rfl) (WL.ev rfl rfl (Ev.bin rfl rfl rfl Bin.neq) (WL.nil ?_)))))
    refine CW.condN rfl (fun h2 => ?_) (fun h2 => ?_)
    · skip
      refine CW.seq (CW.reg ?_)
      refine WL.ev rfl rfl (Ev.as rfl rfl) (WL.nil ?_)
      refine CW.ret ?_
      exact ⟨_, res1 rfl rfl rfl, hEwr1, _, rfl, .inr ⟨hdL_none hxe1 hh (bindN (bindN (bindN (bindS rfl (hdI_neg h2))))), rfl⟩⟩
    · skip
      refine CW.skip ?_
      refine CW.seq (CW.reg ?_)
      refine WL.ev rfl rfl (Ev.mv rfl rfl) (WL.ev rfl rfl (Ev.bin rfl rfl rfl (Bin.add (by omega))) (WL.ev rfl rfl (Ev.as rfl rfl) (WL.nil ?_)))
      refine CW.seq (CW.seq (CW.reg ?_))
      refine WL.ev rfl rfl (Ev.mv rfl rfl) (WL.ev rfl rfl (Ev.mv rfl rfl) (WL.ev rfl rfl (Ev.ixA rfl el69 sz93 rfl hAe1 rfl (by omega)) (WL.ev rfl rfl (Ev.fa rfl fo93_1 rfl) (WL.ev rfl rfl (Ev.ld rfl ag3 rfl ((hAte1.ext hEwr1).cell rfl)) (WL.ev rfl rfl (Ev.mv rfl rfl) (WL.ev rfl rfl (Ev.bin rfl rfl rfl Bin.neq) (WL.nil ?_)))))))
      refine CW.condN rfl (fun h3 => ?_) (fun h3 => ?_)
      · skip
        refine CW.seq (CW.reg ?_)
        refine WL.ev rfl rfl (Ev.as rfl rfl) (WL.nil ?_)
        refine CW.ret ?_
        exact ⟨_, res1 rfl rfl rfl, hEwr1, _, rfl, .inr ⟨hdL_none hxe1 hh (bindN (bindN (bindS (bindS rfl (hdI_pos h2)) (hdI_neg h3)))), rfl⟩⟩
      · skip
        refine CW.skip ?_
        refine CW.seq (CW.reg ?_)
        refine WL.ev rfl rfl (Ev.mv rfl rfl) (WL.ev rfl rfl (Ev.bin rfl rfl rfl (Bin.add (by omega))) (WL.ev rfl rfl (Ev.as rfl rfl) (WL.nil ?_)))
        refine CW.seq (CW.seq (CW.reg ?_))
        refine WL.ev rfl rfl (Ev.mv rfl rfl) (WL.ev rfl rfl (Ev.mv rfl rfl) (WL.ev rfl rfl (Ev.ixA rfl el69 sz93 rfl hAe1 rfl (by omega)) (WL.ev rfl rfl (Ev.fa rfl fo93_2 rfl) (WL.ev rfl rfl (Ev.ld rfl ag3 rfl ((hAte1.ext hEwr1).cell rfl)) (WL.ev rfl rfl (Ev.mv rfl rfl) (WL.ev rfl rfl (Ev.bin rfl rfl rfl Bin.neq) (WL.nil ?_)))))))
        refine CW.condN rfl (fun h4 => ?_) (fun h4 => ?_)
        · skip
          refine CW.seq (CW.reg ?_)
          refine WL.ev rfl rfl (Ev.as rfl rfl) (WL.nil ?_)
          refine CW.ret ?_
          exact ⟨_, res1 rfl rfl rfl, hEwr1, _, rfl, .inr ⟨hdL_none hxe1 hh (bindN (bindS (bindS (bindS rfl (hdI_pos h2)) (hdI_pos h3)) (hdI_neg h4))), rfl⟩⟩
        · skip
          refine CW.skip ?_
          refine CW.seq (CW.reg ?_)
          refine WL.ev rfl rfl (Ev.mv rfl rfl) (WL.ev rfl rfl (Ev.bin rfl rfl rfl (Bin.add (by omega))) (WL.ev rfl rfl (Ev.as rfl rfl) (WL.nil ?_)))
          refine CW.seq (CW.seq (CW.quiet hmix (by kernel_rfl) ?_))
          refine QL.ev rfl rfl (fun _ _ => Ev.mv rfl rfl) (QL.ev rfl rfl (fun _ _ => Ev.mv rfl rfl) (QL.ev rfl rfl (fun _ _ => Ev.ixA rfl el69 sz93 rfl hAe1 rfl (by omega)) (QL.ev rfl rfl (fun _ _ => Ev.fa rfl fo93_3 rfl) (QL.ev rfl rfl (fun _ hq => Ev.ld rfl ag9 rfl ((hAte1.ext (hEwr1.trans hq)).cell rfl)) (QL.ev rfl rfl (fun _ _ => Ev.mv rfl rfl) (QL.call rfl rfl rfl rfl rfl ok88 rfl (fun _ hq => markText_spec _ _ (by omega) (by omega)) (QL.ev rfl rfl (fun _ _ => Ev.bin rfl rfl rfl Bin.neqS) (QL.nil (fun w1 hEw1 => ?_)))))))))
          refine CW.condN rfl (fun h5 => ?_) (fun h5 => ?_)
          · skip
            refine CW.seq (CW.reg ?_)
            refine WL.ev rfl rfl (Ev.as rfl rfl) (WL.nil ?_)
            refine CW.ret ?_
            exact ⟨_, res1 rfl rfl rfl, (hEwr1.trans hEw1), _, rfl, .inr ⟨hdL_none hxe1 hh (bindS (bindS (bindS (bindS rfl (hdI_pos h2)) (hdI_pos h3)) (hdI_pos h4)) (hdS_neg h5)), rfl⟩⟩
          · skip
            refine CW.skip ?_
            refine CW.reg ?_
            refine WL.ev rfl rfl (Ev.mv rfl rfl) (WL.ev rfl rfl (Ev.bin rfl rfl rfl (Bin.add (by omega))) (WL.ev rfl rfl (Ev.as rfl rfl) (WL.nil ?_)))
            refine CW.reg ?_
            refine WL.ev rfl rfl (Ev.mv rfl rfl) (WL.ev rfl rfl (Ev.bin rfl rfl rfl (Bin.add (by omega))) (WL.ev rfl rfl (Ev.as rfl rfl) (WL.nil ?_)))
            exact ⟨(k + 1, _), ⟨rfl, rfl, rfl, trivial⟩, ⟨(hEwr1.trans hEw1), by simp only; omega, hdL_step hxe1 hh (bindS (bindS (bindS (bindS rfl (hdI_pos h2)) (hdI_pos h3)) (hdI_pos h4)) (hdS_pos h5)), by simp only; omega⟩, by simp only; omega⟩
  · skip
    refine CW.exit ?_
    refine CW.seq (CW.reg ?_)
    refine WL.ev rfl rfl (Ev.mv rfl rfl) (WL.ev rfl rfl (Ev.as rfl rfl) (WL.nil ?_))
    refine CW.ret ?_
    exact ⟨_, res1 rfl rfl rfl, hEwr1, _, rfl, .inl ⟨hdL_full hh (by omega), by rw [hl, cntL_full (by omega)]⟩⟩

theorem FnExactStepsOf_law (w : World) {Sl : Nat → Prop} (l : List RulePlan) {zl : Value} (hl : rdS Sl w l zl) (rule : ByteArray) (hrule : rule.size ≤ 9223372036854775807) :
    Ret Try.prog 13 #[zl, .string rule] w (fun _ => False) fun v _ => v = .bool true := by
  refine enter Try.func13 rfl rfl rfl ?_
  obtain ⟨A1, c1, rfl, hc1, hm1⟩ := hl.form
  have hl1 : l.length ≤ 9223372036854775807 := Nat.le_trans hc1 hm1
  have nl := szL_length l
  have ql := szfold l
  refine CW.seq (CW.reg ?_)
  refine WL.ev rfl rfl (Ev.as rfl rfl) (WL.nil ?_)
  refine CW.seq (CW.seq (CW.reg ?_))
  refine WL.ev rfl rfl (Ev.mv rfl rfl) (WL.ev rfl rfl (Ev.lenB rfl Try.underlying9 rfl) (WL.ev rfl rfl (Ev.bin rfl rfl rfl Bin.gtr) (WL.nil ?_)))
  refine CW.condD rfl (fun h1 => ?_) (fun h1 => ?_)
  · skip
    refine CW.seq (CW.reg ?_)
    refine WL.ev rfl rfl (Ev.as rfl rfl) (WL.nil ?_)
    refine CW.ret ?_
    exact ⟨_, res1 rfl rfl rfl, (Ext.refl _), rfl⟩
  · skip
    refine CW.skip ?_
    refine CW.fresh [(0, .slice A1 l.length c1), (1, .string (rule)), (4, .bool false)] ⟨rfl, rfl, rfl, trivial⟩ fun σ => ?_
    refine CW.seq (CW.reg ?_)
    refine WL.ev rfl rfl (Ev.as rfl rfl) (WL.nil ?_)
    refine CW.fresh [(0, .slice A1 l.length c1), (1, .string (rule)), (4, .bool false), (5, .int .i64 (1048576))] ⟨rfl, rfl, rfl, rfl, trivial⟩ fun σ => ?_
    refine CW.seq (CW.reg ?_)
    refine WL.ev rfl rfl (Ev.mv rfl rfl) (WL.ev rfl rfl (Ev.mv rfl rfl) ?_)
    refine WL.call rfl rfl rfl rfl rfl ok35 rfl (szRulePlanS_spec _ l hl _ (by omega) (by omega)) ?_
    rintro _ w1 hEw1 ⟨r1, rfl, hr1⟩
    have hq1 := szfold l
    refine WL.ev rfl rfl (Ev.as rfl rfl) (WL.nil ?_)
    refine CW.fresh [(0, .slice A1 l.length c1), (1, .string (rule)), (4, .bool false), (5, .int .i64 (r1))] ⟨rfl, rfl, rfl, rfl, trivial⟩ fun σ => ?_
    refine CW.seq (CW.seq (CW.reg ?_))
    refine WL.ev rfl rfl (Ev.mv rfl rfl) (WL.ev rfl rfl (Ev.bin rfl rfl rfl Bin.lss) (WL.nil ?_))
    refine CW.condD rfl (fun h2 => ?_) (fun h2 => ?_)
    · skip
      refine CW.fresh [(0, .slice A1 l.length c1), (1, .string (rule)), (4, .bool false)] ⟨rfl, rfl, rfl, trivial⟩ fun σ => ?_
      refine CW.seq (CW.reg ?_)
      refine WL.ev rfl rfl (Ev.as rfl rfl) (WL.nil ?_)
      refine CW.ret ?_
      exact ⟨_, res1 rfl rfl rfl, hEw1, rfl⟩
    · skip
      refine CW.skip ?_
      refine CW.fresh [(0, .slice A1 l.length c1), (1, .string (rule)), (4, .bool false)] ⟨rfl, rfl, rfl, trivial⟩ fun σ => ?_
      refine CW.seq (CW.reg ?_)
      refine WL.ev rfl rfl (Ev.mv rfl rfl) ?_
      refine WL.call rfl rfl rfl rfl rfl ok37 rfl (toRulePlanS_spec _ l (hl.ext hEw1) (by omega)) ?_
      rintro v1 w2 hEw2 ⟨L1, hO1, hN1, hF1⟩
      obtain ⟨A2, c2, rfl, hc2, hm2⟩ := hO1.form
      refine WL.ev rfl rfl (Ev.mv rfl rfl) ?_
      refine WL.call rfl rfl rfl rfl rfl ok54 rfl (sStepsOf_spec _ l hO1.rd (by omega) rule (by omega)) ?_
      rintro v2 w3 hEw3 ⟨L2, hO2, hN2, hF2⟩
      obtain ⟨A3, c3, rfl, hc3, hm3⟩ := hO2.form
      refine WL.ev rfl rfl (Ev.as rfl rfl) (WL.nil ?_)
      refine CW.fresh [(0, .slice A1 l.length c1), (1, .string (rule)), (4, .bool false), (6, .slice A3 (stepsR l rule).length c3)] ⟨rfl, rfl, rfl, rfl, trivial⟩ fun σ => ?_
      refine CW.seq (CW.reg ?_)
      refine WL.ev rfl rfl (Ev.mv rfl rfl) ?_
      refine WL.call rfl rfl rfl rfl rfl ok37 rfl (toRulePlanS_spec _ l (hl.ext ((hEw1.trans hEw2).trans hEw3)) (by omega)) ?_
      rintro v3 w4 hEw4 ⟨L3, hO3, hN3, hF3⟩
      obtain ⟨A4, c4, rfl, hc4, hm4⟩ := hO3.form
      refine WL.ev rfl rfl (Ev.as rfl rfl) (WL.nil ?_)
      refine CW.fresh [(0, .slice A1 l.length c1), (1, .string (rule)), (4, .bool false), (6, .slice A3 (stepsR l rule).length c3), (7, .slice A4 (l).length c4)] ⟨rfl, rfl, rfl, rfl, rfl, trivial⟩ fun σ => ?_
      refine CW.seq (CW.reg ?_)
      refine WL.ev rfl rfl (Ev.mv rfl rfl) (WL.ev rfl rfl (Ev.mv rfl rfl) ?_)
      refine WL.call rfl rfl rfl rfl rfl ok55 rfl (iStepsOf_spec _ l hO3.rd (by omega) rule (by omega)) ?_
      rintro v4 w5 hEw5 ⟨L4, hO4, hN4, hF4⟩
      obtain ⟨A5, c5, rfl, hc5, hm5⟩ := hO4.form
      refine WL.ev rfl rfl (Ev.as rfl rfl) (WL.nil ?_)
      refine CW.fresh [(0, .slice A1 l.length c1), (1, .string (rule)), (4, .bool false), (6, .slice A3 (stepsR l rule).length c3), (7, .slice A4 (l).length c4), (8, .slice A5 (stepsR l rule).length c5)] ⟨rfl, rfl, rfl, rfl, rfl, rfl, trivial⟩ fun σ => ?_
      refine CW.seq (CW.seq (CW.reg ?_))
      refine WL.ev rfl rfl (Ev.mv rfl rfl) (WL.ev rfl rfl (Ev.mv rfl rfl) ?_)
      refine WL.call rfl rfl rfl rfl rfl ok56 rfl ((eqStepS_spec _ (stepsR l rule) (stepsR l rule) hO4.rd (hO2.ext (hEw4.trans hEw5)).rd).yes rfl) ?_
      rintro _ w6 hEw6 rfl
      refine WL.ev rfl rfl (Ev.not rfl rfl) (WL.nil ?_)
      refine CW.condF rfl ?_
      refine CW.skip ?_
      refine CW.fresh [(0, .slice A1 l.length c1), (1, .string (rule)), (4, .bool false), (6, .slice A3 (stepsR l rule).length c3), (7, .slice A4 (l).length c4), (8, .slice A5 (stepsR l rule).length c5)] ⟨rfl, rfl, rfl, rfl, rfl, rfl, trivial⟩ fun σ => ?_
      refine CW.seq (CW.seq (CW.reg ?_))
      refine WL.ev rfl rfl (Ev.mv rfl rfl) (WL.ev rfl rfl (Ev.mv rfl rfl) ?_)
      refine WL.call rfl rfl rfl rfl rfl ok37 rfl (toRulePlanS_spec _ l (hl.ext (((((hEw1.trans hEw2).trans hEw3).trans hEw4).trans hEw5).trans hEw6)) (by omega)) ?_
      rintro v5 w7 hEw7 ⟨L5, hO5, hN5, hF5⟩
      obtain ⟨A6, c6, rfl, hc6, hm6⟩ := hO5.form
      refine WL.call rfl rfl rfl rfl rfl ok39 rfl ((eqRulePlanS_spec _ l l (hO3.ext ((hEw5.trans hEw6).trans hEw7)).rd hO5.rd).yes rfl) ?_
      rintro _ w8 hEw8 rfl
      refine WL.ev rfl rfl (Ev.not rfl rfl) (WL.nil ?_)
      refine CW.condF rfl ?_
      refine CW.skip ?_
      refine CW.fresh [(0, .slice A1 l.length c1), (1, .string (rule)), (4, .bool false), (6, .slice A3 (stepsR l rule).length c3), (7, .slice A4 (l).length c4), (8, .slice A5 (stepsR l rule).length c5)] ⟨rfl, rfl, rfl, rfl, rfl, rfl, trivial⟩ fun σ => ?_
      refine CW.seq (CW.reg ?_)
      refine WL.ev rfl rfl (Ev.as rfl rfl) (WL.nil ?_)
      refine CW.fresh [(0, .slice A1 l.length c1), (1, .string (rule)), (4, .bool false), (6, .slice A3 (stepsR l rule).length c3), (7, .slice A4 (l).length c4), (8, .slice A5 (stepsR l rule).length c5), (9, .int .i64 (1))] ⟨rfl, rfl, rfl, rfl, rfl, rfl, rfl, trivial⟩ fun σ => ?_
      refine CW.seq (CW.reg ?_)
      refine WL.ev rfl rfl (Ev.mv rfl rfl) (WL.ev rfl rfl (Ev.mv rfl rfl) ?_)
      refine WL.call rfl rfl rfl rfl rfl ok57 rfl (markRulePlanS_spec _ L3 l (hO3.ext (((hEw5.trans hEw6).trans hEw7).trans hEw8)) hN3 1 (by omega) (by have := cnt_plans l (by omega); omega)) ?_
      rintro _ w9 hEw9 ⟨rfl, hO_1⟩
      have hT1 := ownS.chgL (hO1.ext (((((hEw3.trans hEw4).trans hEw5).trans hEw6).trans hEw7).trans hEw8)) hEw9 (fun q hq h2 => by have := hO1.lt _ hq; have := hF3 _ h2; have := hEw3.size; omega)
      have hT2 := ownS.chgL (hO2.ext ((((hEw4.trans hEw5).trans hEw6).trans hEw7).trans hEw8)) hEw9 (fun q hq h2 => by have := hO2.lt _ hq; have := hF3 _ h2; omega)
      have hT3 := ownS.chgL (hO4.ext ((hEw6.trans hEw7).trans hEw8)) hEw9 (fun q hq h2 => by have := hO3.lt _ h2; have := hF4 _ hq; omega)
      have hT4 := ownS.chgL (hO5.ext hEw8) hEw9 (fun q hq h2 => by have := hO3.lt _ h2; have := hF5 _ hq; have := hEw5.size; have := hEw6.size; omega)
      have hX1 := Ext.chgL (((((((hEw1.trans hEw2).trans hEw3).trans hEw4).trans hEw5).trans hEw6).trans hEw7).trans hEw8) hEw9 (fun q hq => by have := hF3 _ hq; have := hEw1.size; have := hEw2.size; have := hEw3.size; omega)
      have := cnt_plans l (by omega)
      refine WL.ev rfl rfl (Ev.as rfl rfl) (WL.nil ?_)
      refine CW.fresh [(0, .slice A1 l.length c1), (1, .string (rule)), (4, .bool false), (6, .slice A3 (stepsR l rule).length c3), (8, .slice A5 (stepsR l rule).length c5), (9, .int .i64 (1 + (cntL l : Nat)))] ⟨rfl, rfl, rfl, rfl, rfl, rfl, trivial⟩ fun σ => ?_
      refine CW.seq (CW.seq (CW.reg ?_))
      refine WL.ev rfl rfl (Ev.mv rfl rfl) (WL.ev rfl rfl (Ev.bin rfl rfl rfl (Bin.no (by omega))) (WL.ev rfl rfl (Ev.mv rfl rfl) (WL.on rfl rfl (WL.ev rfl rfl (Ev.mv rfl rfl) (WL.on rfl rfl (WL.ev rfl rfl (Ev.mv rfl rfl) (WL.on rfl rfl ?_)))))))
      refine WL.call rfl rfl rfl rfl rfl ok56 rfl ((eqStepS_spec _ (stepsR l rule) (stepsR l rule) hT3.rd hT2.rd).yes rfl) ?_
      rintro _ w10 hEw10 rfl
      refine WL.on rfl rfl (WL.ev rfl rfl (Ev.not rfl rfl) (WL.ev rfl rfl (Ev.pickF rfl rfl rfl) (WL.nil ?_)))
      refine CW.condF rfl ?_
      refine CW.skip ?_
      refine CW.fresh [(0, .slice A1 l.length c1), (1, .string (rule)), (4, .bool false), (6, .slice A3 (stepsR l rule).length c3), (8, .slice A5 (stepsR l rule).length c5)] ⟨rfl, rfl, rfl, rfl, rfl, trivial⟩ fun σ => ?_
      refine CW.seq (CW.reg ?_)
      refine WL.ev rfl rfl (Ev.as rfl rfl) (WL.nil ?_)
      refine CW.fresh [(0, .slice A1 l.length c1), (1, .string (rule)), (4, .bool false), (6, .slice A3 (stepsR l rule).length c3), (8, .slice A5 (stepsR l rule).length c5), (10, .int .i64 (1))] ⟨rfl, rfl, rfl, rfl, rfl, rfl, trivial⟩ fun σ => ?_
      refine CW.seq (CW.reg ?_)
      refine WL.ev rfl rfl (Ev.mv rfl rfl) (WL.ev rfl rfl (Ev.mv rfl rfl) ?_)
      refine WL.call rfl rfl rfl rfl rfl ok58 rfl (markStepS_spec _ L4 (stepsR l rule) (hT3.ext hEw10) hN4 1 (by omega) (by have := cnt_steps l rule (by omega); omega)) ?_
      rintro _ w11 hEw11 ⟨rfl, hO_2⟩
      have hT5 := ownS.chgL (hT1.ext hEw10) hEw11 (fun q hq h2 => by have := hO1.lt _ hq; have := hF4 _ h2; have := hEw3.size; have := hEw4.size; omega)
      have hT6 := ownS.chgL (hT2.ext hEw10) hEw11 (fun q hq h2 => by have := hO2.lt _ hq; have := hF4 _ h2; have := hEw4.size; omega)
      have hT7 := ownS.chgL (hO_1.ext hEw10) hEw11 (fun q hq h2 => by have := hO3.lt _ hq; have := hF4 _ h2; omega)
      have hT8 := ownS.chgL (hT4.ext hEw10) hEw11 (fun q hq h2 => by have := hO4.lt _ h2; have := hF5 _ hq; have := hEw6.size; omega)
      have hX2 := Ext.chgL (hX1.trans hEw10) hEw11 (fun q hq => by have := hF4 _ hq; have := hEw1.size; have := hEw2.size; have := hEw3.size; have := hEw4.size; omega)
      have := cnt_steps l rule (by omega)
      refine WL.ev rfl rfl (Ev.as rfl rfl) (WL.nil ?_)
      refine CW.fresh [(0, .slice A1 l.length c1), (1, .string (rule)), (4, .bool false), (6, .slice A3 (stepsR l rule).length c3), (8, .slice A5 (stepsR l rule).length c5), (10, .int .i64 (1 + (cntL (stepsR l rule) : Nat)))] ⟨rfl, rfl, rfl, rfl, rfl, rfl, trivial⟩ fun σ => ?_
      refine CW.seq (CW.reg ?_)
      refine WL.ev rfl rfl (Ev.as rfl rfl) (WL.nil ?_)
      refine CW.fresh [(0, .slice A1 l.length c1), (1, .string (rule)), (4, .bool false), (6, .slice A3 (stepsR l rule).length c3), (8, .slice A5 (stepsR l rule).length c5), (10, .int .i64 (1 + (cntL (stepsR l rule) : Nat))), (11, .int .i64 (1))] ⟨rfl, rfl, rfl, rfl, rfl, rfl, rfl, trivial⟩ fun σ => ?_
      refine CW.seq (CW.reg ?_)
      refine WL.ev rfl rfl (Ev.mv rfl rfl) (WL.ev rfl rfl (Ev.mv rfl rfl) ?_)
      refine WL.call rfl rfl rfl rfl rfl ok59 rfl (heldStepS_spec _ (mkL (stepsR l rule) 1) hO_2.rd 1 (by omega) (by rw [cntL_mkL]; have := cnt_steps l rule (by omega); omega)) ?_
      rintro _ w12 hEw12 ⟨r2, rfl, hr2⟩
      rw [hdL_mkL] at hr2
      have := hr2.is
      refine WL.ev rfl rfl (Ev.as rfl rfl) (WL.nil ?_)
      refine CW.fresh [(0, .slice A1 l.length c1), (1, .string (rule)), (4, .bool false), (6, .slice A3 (stepsR l rule).length c3), (8, .slice A5 (stepsR l rule).length c5), (10, .int .i64 (1 + (cntL (stepsR l rule) : Nat))), (11, .int .i64 (r2))] ⟨rfl, rfl, rfl, rfl, rfl, rfl, rfl, trivial⟩ fun σ => ?_
      refine CW.seq (CW.seq (CW.reg ?_))
      refine WL.ev rfl rfl (Ev.mv rfl rfl) (WL.ev rfl rfl (Ev.bin rfl rfl rfl (Bin.no (by omega))) (WL.nil ?_))
      refine CW.condF rfl ?_
      refine CW.skip ?_
      refine CW.fresh [(0, .slice A1 l.length c1), (1, .string (rule)), (4, .bool false), (6, .slice A3 (stepsR l rule).length c3), (8, .slice A5 (stepsR l rule).length c5), (10, .int .i64 (1 + (cntL (stepsR l rule) : Nat))), (11, .int .i64 (r2))] ⟨rfl, rfl, rfl, rfl, rfl, rfl, rfl, trivial⟩ fun σ => ?_
      refine CW.seq (CW.seq (CW.reg ?_))
      refine WL.ev rfl rfl (Ev.mv rfl rfl) (WL.ev rfl rfl (Ev.mv rfl rfl) (WL.ev rfl rfl (Ev.bin rfl rfl rfl (Bin.neqSame (by omega))) (WL.nil ?_)))
      refine CW.condF rfl ?_
      refine CW.skip ?_
      refine CW.fresh [(0, .slice A1 l.length c1), (1, .string (rule)), (4, .bool false), (6, .slice A3 (stepsR l rule).length c3), (8, .slice A5 (stepsR l rule).length c5), (10, .int .i64 (1 + (cntL (stepsR l rule) : Nat))), (11, .int .i64 (r2))] ⟨rfl, rfl, rfl, rfl, rfl, rfl, rfl, trivial⟩ fun σ => ?_
      refine CW.seq (CW.reg ?_)
      refine WL.ev rfl rfl (Ev.mv rfl rfl) ?_
      refine WL.call rfl rfl rfl rfl rfl ok37 rfl (toRulePlanS_spec _ l (hl.ext (hX2.trans hEw12)) (by omega)) ?_
      rintro v6 w13 hEw13 ⟨L6, hO6, hN6, hF6⟩
      obtain ⟨A7, c7, rfl, hc7, hm7⟩ := hO6.form
      refine WL.ev rfl rfl (Ev.mv rfl rfl) ?_
      refine WL.call rfl rfl rfl rfl rfl ok55 rfl (iStepsOf_spec _ l hO6.rd (by omega) rule (by omega)) ?_
      rintro v7 w14 hEw14 ⟨L7, hO7, hN7, hF7⟩
      obtain ⟨A8, c8, rfl, hc8, hm8⟩ := hO7.form
      refine WL.ev rfl rfl (Ev.as rfl rfl) (WL.nil ?_)
      refine CW.fresh [(4, .bool false), (6, .slice A3 (stepsR l rule).length c3), (8, .slice A5 (stepsR l rule).length c5), (10, .int .i64 (1 + (cntL (stepsR l rule) : Nat))), (11, .int .i64 (r2)), (12, .slice A8 (stepsR l rule).length c8)] ⟨rfl, rfl, rfl, rfl, rfl, rfl, trivial⟩ fun σ => ?_
      refine CW.seq (CW.seq (CW.reg ?_))
      refine WL.ev rfl rfl (Ev.mv rfl rfl) (WL.ev rfl rfl (Ev.mv rfl rfl) ?_)
      refine WL.call rfl rfl rfl rfl rfl ok56 rfl ((eqStepS_spec _ (stepsR l rule) (stepsR l rule) hO7.rd (hT6.ext ((hEw12.trans hEw13).trans hEw14)).rd).yes rfl) ?_
      rintro _ w15 hEw15 rfl
      refine WL.ev rfl rfl (Ev.not rfl rfl) (WL.nil ?_)
      refine CW.condF rfl ?_
      refine CW.skip ?_
      refine CW.fresh [(4, .bool false), (8, .slice A5 (stepsR l rule).length c5), (10, .int .i64 (1 + (cntL (stepsR l rule) : Nat))), (11, .int .i64 (r2))] ⟨rfl, rfl, rfl, rfl, trivial⟩ fun σ => ?_
      refine CW.seq (CW.reg ?_)
      refine WL.ev rfl rfl (Ev.as rfl rfl) (WL.nil ?_)
      refine CW.fresh [(4, .bool false), (8, .slice A5 (stepsR l rule).length c5), (10, .int .i64 (1 + (cntL (stepsR l rule) : Nat))), (11, .int .i64 (1))] ⟨rfl, rfl, rfl, rfl, trivial⟩ fun σ => ?_
      refine CW.seq (CW.reg ?_)
      refine WL.ev rfl rfl (Ev.mv rfl rfl) (WL.ev rfl rfl (Ev.mv rfl rfl) ?_)
      refine WL.call rfl rfl rfl rfl rfl ok59 rfl (heldStepS_spec _ (mkL (stepsR l rule) 1) (hO_2.ext (((hEw12.trans hEw13).trans hEw14).trans hEw15)).rd 1 (by omega) (by rw [cntL_mkL]; have := cnt_steps l rule (by omega); omega)) ?_
      rintro _ w16 hEw16 ⟨r3, rfl, hr3⟩
      rw [hdL_mkL] at hr3
      have := hr3.is
      refine WL.ev rfl rfl (Ev.as rfl rfl) (WL.nil ?_)
      refine CW.fresh [(4, .bool false), (10, .int .i64 (1 + (cntL (stepsR l rule) : Nat))), (11, .int .i64 (r3))] ⟨rfl, rfl, rfl, trivial⟩ fun σ => ?_
      refine CW.seq (CW.seq (CW.reg ?_))
      refine WL.ev rfl rfl (Ev.mv rfl rfl) (WL.ev rfl rfl (Ev.bin rfl rfl rfl (Bin.no (by omega))) (WL.nil ?_))
      refine CW.condF rfl ?_
      refine CW.skip ?_
      refine CW.fresh [(4, .bool false), (10, .int .i64 (1 + (cntL (stepsR l rule) : Nat))), (11, .int .i64 (r3))] ⟨rfl, rfl, rfl, trivial⟩ fun σ => ?_
      refine CW.seq (CW.seq (CW.reg ?_))
      refine WL.ev rfl rfl (Ev.mv rfl rfl) (WL.ev rfl rfl (Ev.mv rfl rfl) (WL.ev rfl rfl (Ev.bin rfl rfl rfl (Bin.neqSame (by omega))) (WL.nil ?_)))
      refine CW.condF rfl ?_
      refine CW.skip ?_
      refine CW.fresh [(4, .bool false)] ⟨rfl, trivial⟩ fun σ => ?_
      refine CW.seq (CW.reg ?_)
      refine WL.ev rfl rfl (Ev.as rfl rfl) (WL.nil ?_)
      refine CW.ret ?_
      exact ⟨_, res1 rfl rfl rfl, (((((hX2.trans hEw12).trans hEw13).trans hEw14).trans hEw15).trans hEw16), rfl⟩

theorem open9 : Opens Try.prog 9 ByteArray := Opens.str (by kernel_rfl) Try.underlying9
theorem open3 : Opens Try.prog 3 Int := Opens.int (by kernel_rfl) Try.underlying3
theorem open120 : Opens Try.prog 120 Step := by
  refine Opens.struct (k := 4) (by kernel_rfl) rfl Try.underlying120 fun H enc w base spare held n cs xs hl hx hf => ?_
  obtain ⟨c0, t0, rfl, hl0⟩ := lenS hl
  obtain ⟨c1, t1, rfl, hl1⟩ := lenS hl0
  obtain ⟨c2, t2, rfl, hl2⟩ := lenS hl1
  obtain ⟨c3, t3, rfl, hl3⟩ := lenS hl2
  obtain rfl := len0 hl3
  obtain ⟨a0, r0⟩ := Opens.fld (i := 0) (t := 3) (off := 0) (k := 1) open3 hf hx rfl rfl rfl rfl
  have q0 : rd (fun _ => True) w a0 [c0] := r0
  obtain ⟨e0, h0_0⟩ := q0
  simp only [List.cons.injEq, and_true] at e0
  obtain rfl := e0
  obtain ⟨a1, r1⟩ := Opens.fld (i := 1) (t := 3) (off := 1) (k := 1) open3 hf hx rfl rfl rfl rfl
  have q1 : rd (fun _ => True) w a1 [c1] := r1
  obtain ⟨e1, h1_0⟩ := q1
  simp only [List.cons.injEq, and_true] at e1
  obtain rfl := e1
  obtain ⟨a2, r2⟩ := Opens.fld (i := 2) (t := 3) (off := 2) (k := 1) open3 hf hx rfl rfl rfl rfl
  have q2 : rd (fun _ => True) w a2 [c2] := r2
  obtain ⟨e2, h2_0⟩ := q2
  simp only [List.cons.injEq, and_true] at e2
  obtain rfl := e2
  obtain ⟨a3, r3⟩ := Opens.fld (i := 3) (t := 9) (off := 3) (k := 1) open9 hf hx rfl rfl rfl rfl
  have q3 : rd (fun _ => True) w a3 [c3] := r3
  obtain ⟨e3, h3_0⟩ := q3
  simp only [List.cons.injEq, and_true] at e3
  obtain rfl := e3
  exact ⟨⟨a0, a1, a2, a3⟩, rfl, h0_0, h1_0, h2_0, h3_0⟩
theorem open87 : Opens Try.prog 87 (List Step) := Opens.slice (by kernel_rfl) Try.underlying87 open120
theorem open89 : Opens Try.prog 89 RulePlan := by
  refine Opens.struct (k := 2) (by kernel_rfl) rfl Try.underlying89 fun H enc w base spare held n cs xs hl hx hf => ?_
  obtain ⟨c0, t0, rfl, hl0⟩ := lenS hl
  obtain ⟨c1, t1, rfl, hl1⟩ := lenS hl0
  obtain rfl := len0 hl1
  obtain ⟨a0, r0⟩ := Opens.fld (i := 0) (t := 9) (off := 0) (k := 1) open9 hf hx rfl rfl rfl rfl
  have q0 : rd (fun _ => True) w a0 [c0] := r0
  obtain ⟨e0, h0_0⟩ := q0
  simp only [List.cons.injEq, and_true] at e0
  obtain rfl := e0
  obtain ⟨a1, r1⟩ := Opens.fld (i := 1) (t := 87) (off := 1) (k := 1) open87 hf hx rfl rfl rfl rfl
  have q1 : rd (fun _ => True) w a1 [c1] := r1
  obtain ⟨v1_0, e1, s1_0⟩ := q1
  simp only [List.cons.injEq, and_true] at e1
  obtain rfl := e1
  exact ⟨⟨a0, a1⟩, _, rfl, h0_0, s1_0⟩
theorem open49 : Opens Try.prog 49 (List RulePlan) := Opens.slice (by kernel_rfl) Try.underlying49 open89
section
open Go.ChangeShapes Go.WideShapes Go.ChangeAt Go.RowKit
theorem own_knob : ownKnob Try.prog.godebug = none := by kernel_rfl
theorem laid_out : laidOutB Try.prog = true := by kernel_rfl
set_option maxRecDepth 100000 in
theorem fnExactStepsOf_lifted (os : Os) (started : os.Started) (H : Type) (enc : TypeId × Value → H) :
    ReturnsInHanded {} Try.checked os 13 .any (Rows.fnExactStepsOfSpec.pre6 enc Try.prog Try.f13 Rows.fnExactStepsOfRow.domain false) (Rows.fnExactStepsOfSpec.post enc Try.prog Try.f13 false true false false) := by
  refine returnsInHanded_of_change (C := Try.checked) own_knob started (by kernel_rfl) Try.func13
    (ChangeSpec.witness6 (enc := enc) (C := Try.checked) false ⟨#[], #[.slice none 0 0, .string ⟨#[]⟩], []⟩ 8 (by kernel_rfl) (by kernel_rfl) (by kernel_rfl) (by kernel_rfl)) ?_
  intro W base args ds gs before hval0 hW hcnd _
  have hval : ∀ (j : Nat) t v, Try.f13.params[j]? = some t → args[j]? = some v → Value.okWide Try.prog W .any base t v := hval0
  have hW' := hW
  obtain ⟨p, q, hA0, hV, rfl, hfz, hnd⟩ := hW
  have hA : DataW.TrodAll enc Try.prog W 0 (fun _ => true) true Try.f13.params.toList args.toList ds p := hA0
  rw [Try.params13] at hA hval
  obtain ⟨v0, vs0, d0, ds0, p0, q0, hargs, rfl, rfl, t0, r0⟩ := trodAll_cons hA
  obtain ⟨v1, vs1, d1, ds1, p1, q1, rfl, rfl, rfl, t1, r1⟩ := trodAll_cons r0
  obtain ⟨rfl, rfl, rfl⟩ := trodAll_nil r1
  obtain rfl : args = #[v0, v1] := by cases args; simp_all
  obtain ⟨rfl, rfl⟩ := trodVars_none hV
  have k0 := t0
  have lt0 : ∀ x ∈ p0, x.block < W.heap.size := by obtain ⟨m, hm⟩ := k0; exact DataW.trod_lt m _ _ _ hm
  obtain ⟨m0, hm0⟩ := t0
  obtain ⟨a0, ha0⟩ := open49.2 _ _ _ _ _ _ _ _ _ hm0
  obtain ⟨x0, l0, c0, rfl⟩ := okWide_slice Try.underlying49 (hval 0 49 v0 rfl rfl)
  obtain ⟨z0, e0, ha0⟩ := ha0
  obtain rfl : Value.slice x0 l0 c0 = z0 := by injection e0
  have k1 := t1
  have lt1 : ∀ x ∈ p1, x.block < W.heap.size := by obtain ⟨m, hm⟩ := k1; exact DataW.trod_lt m _ _ _ hm
  obtain ⟨m1, hm1⟩ := t1
  obtain ⟨a1, ha1⟩ := open9.2 _ _ _ _ _ _ _ _ _ hm1
  obtain ⟨y1, rfl⟩ := okWide_string Try.underlying9 (hval 1 9 v1 rfl rfl)
  obtain ⟨e1, ha1⟩ := ha1
  obtain rfl : y1 = a1 := by injection e1 with e; injection e
  clear hA0 hval0
  refine Calls.mono (FnExactStepsOf_law W a0 ha0 _ ha1) fun e W' ⟨v, he, hch, hv⟩ => ?_
  subst he; subst hv
  have bel := Ext.below hch
  exact ⟨_, rfl, _, _, _, [], _, [], hW', trodAll_mk1 (shut_bool Try.underlying4 _), (trodAll_cons_mk (Below.trod laid_out (by kernel_rfl) (of_decide_eq_true (by kernel_rfl)) k0 bel lt0) (trodAll_cons_mk (Below.trod laid_out (by kernel_rfl) (of_decide_eq_true (by kernel_rfl)) k1 bel lt1) trodAll_mk0)), rfl, bel.frame _, fun h => by cases h⟩
theorem fnExactStepsOf_holds : Rows.FnExactStepsOfSaid :=
  OpenClaim.holds_of_wide 13 Try.f13 rfl rfl rfl rfl rfl rfl rfl ⟨rfl, rfl, rfl, rfl, rfl⟩ rfl rfl rfl rfl rfl (by kernel_rfl) Try.func13 (by kernel_rfl)
    (of_decide_eq_true (by kernel_rfl)) (by unfold Func.isWrapper; first | (rw [if_pos (by decide +kernel)]; kernel_rfl) | (rw [if_neg (by decide +kernel)]; exact ⟨rfl, rfl⟩))
    (fun os started H enc _ => fnExactStepsOf_lifted os started H enc)
end
end Go.Proofs.Ytaenbhfjiihhnaa
