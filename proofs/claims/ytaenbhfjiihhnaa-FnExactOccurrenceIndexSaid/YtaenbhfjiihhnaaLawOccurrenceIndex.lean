/- The law FnExactOccurrenceIndex returns true for all arguments and leaves them as they were; there is no condition. -/
import Derived.Test.YtaenbhfjiihhnaaRows
import Derived.Test.YtaenbhfjiihhnaaEngB
import Derived.Test.YtaenbhfjiihhnaaDat
set_option linter.unusedVariables false
set_option linter.unusedSimpArgs false
set_option linter.ambiguousOpen false
set_option linter.unusedSectionVars false
set_option linter.unusedVariables false
set_option linter.unusedSimpArgs false
namespace Go.Proofs.Ytaenbhfjiihhnaa
open Go Go.E
open Go.E.Rep (rd)
open Go.E.Sep (own)
theorem ag3 : aggT Try.prog 3 = some false := by kernel_rfl
theorem ag9 : aggT Try.prog 9 = some false := by kernel_rfl
theorem ag24 : aggT Try.prog 24 = some true := by kernel_rfl
theorem ag30 : aggT Try.prog 30 = some true := by kernel_rfl
theorem sz3 : szT Try.prog 3 = some 1 := by kernel_rfl
theorem sz9 : szT Try.prog 9 = some 1 := by kernel_rfl
theorem sz24 : szT Try.prog 24 = some 2 := by kernel_rfl
theorem sz30 : szT Try.prog 30 = some 2 := by kernel_rfl
theorem by30 : byT Try.prog 30 = some 24 := by kernel_rfl
theorem ze30 : zeroT Try.prog 30 = some [.int .i64 0, .string ⟨#[]⟩] := by kernel_rfl
theorem el22 : elemT Try.prog 22 = some 24 := by kernel_rfl
theorem el28 : elemT Try.prog 28 = some 30 := by kernel_rfl
theorem fl30 : flatT Try.prog 30 = some [.int, .str] := by kernel_rfl
theorem fo24_0 : fieldT Try.prog 24 0 = some 0 := by kernel_rfl
theorem fo24_1 : fieldT Try.prog 24 1 = some 1 := by kernel_rfl
theorem fo30_0 : fieldT Try.prog 30 0 = some 0 := by kernel_rfl
theorem fo30_1 : fieldT Try.prog 30 1 = some 1 := by kernel_rfl
theorem ok15 : callable Try.prog 15 = true := by kernel_rfl
theorem ok16 : callable Try.prog 16 = true := by kernel_rfl
theorem ok17 : callable Try.prog 17 = true := by kernel_rfl
theorem ok18 : callable Try.prog 18 = true := by kernel_rfl
theorem ok19 : callable Try.prog 19 = true := by kernel_rfl
theorem ok20 : callable Try.prog 20 = true := by kernel_rfl
theorem ok21 : callable Try.prog 21 = true := by kernel_rfl
theorem ok65 : callable Try.prog 65 = true := by kernel_rfl
theorem ok66 : callable Try.prog 66 = true := by kernel_rfl
theorem hmix : Try.prog.follows .mixedOrders = true := by kernel_rfl
theorem szOccurrence_spec (w : World) {S : Nat → Prop} (x : Occurrence) {cs : List Value} (hx : rd S w x cs) (left : Int) (h0 : 0 ≤ left) (h1 : left ≤ 1048576) :
    Ret Try.prog 16 #[.agg cs.toArray, .int .i64 left] w (fun _ => False) fun v _ => ∃ r, v = .int .i64 r ∧ (((Sz.szd x : Nat) : Int) ≤ left ∧ r = left - (Sz.szd x : Nat) ∨ left < (Sz.szd x : Nat) ∧ r = -1) := by
  refine enter Try.func16 rfl rfl rfl ?_
  have hK1 := hx
  obtain ⟨rfl, hr1, hr2⟩ := hx
  have hsz := Occurrence_szd x
  refine CW.seq (CW.reg ?_)
  refine WL.box rfl rfl rfl rfl rfl fun b1 w1 hEb1 hbb1 hBb1 => ?_
  refine WL.ev rfl rfl (Ev.as rfl rfl) (WL.nil ?_)
  refine CW.seq (CW.reg ?_)
  refine WL.ev rfl rfl (Ev.mv rfl rfl) (WL.ev rfl rfl (Ev.fa rfl fo24_1 rfl) (WL.ev rfl rfl (Ev.ld rfl ag9 rfl (hBb1.cell rfl)) (WL.ev rfl rfl (Ev.lenB rfl Try.underlying9 rfl) (WL.ev rfl rfl (Ev.bin rfl rfl rfl (Bin.sub (by omega))) (WL.ev rfl rfl (Ev.as rfl rfl) (WL.nil ?_))))))
  refine CW.seq (CW.seq (CW.reg ?_))
  refine WL.ev rfl rfl (Ev.mv rfl rfl) (WL.ev rfl rfl (Ev.bin rfl rfl rfl Bin.lss) (WL.nil ?_))
  refine CW.condD rfl (fun h1 => ?_) (fun h1 => ?_)
  · skip
    refine CW.seq (CW.reg ?_)
    refine WL.ev rfl rfl (Ev.as rfl rfl) (WL.nil ?_)
    refine CW.ret ?_
    refine ⟨_, res1 rfl rfl rfl, hEb1, _, rfl, ?_⟩
    try simp only [szfold] at *
    first | omega | (right; exact ⟨by omega, by first | rfl | trivial⟩)
  · skip
    refine CW.skip ?_
    refine CW.seq (CW.reg ?_)
    refine WL.ev rfl rfl (Ev.mv rfl rfl) (WL.ev rfl rfl (Ev.as rfl rfl) (WL.nil ?_))
    refine CW.ret ?_
    refine ⟨_, res1 rfl rfl rfl, hEb1, _, rfl, ?_⟩
    try simp only [szfold] at *
    first | omega | (right; exact ⟨by omega, by first | rfl | trivial⟩)

theorem szOccurrenceS_spec (w : World) {S : Nat → Prop} (x : List Occurrence) {z : Value} (hx : rdS S w x z) (left : Int) (h0 : 0 ≤ left) (h1 : left ≤ 1048576) :
    Ret Try.prog 15 #[z, .int .i64 left] w (fun _ => False) fun v _ => ∃ r, v = .int .i64 r ∧ (((Sz.szd x : Nat) : Int) ≤ left ∧ r = left - (Sz.szd x : Nat) ∨ left < (Sz.szd x : Nat) ∧ r = -1) := by
  refine enter Try.func15 rfl rfl rfl ?_
  obtain ⟨A1, c1, rfl, hc1, hm1⟩ := hx.form
  have hl1 : x.length ≤ 9223372036854775807 := Nat.le_trans hc1 hm1
  have hsz : Sz.szd x = szL x := rfl
  have hlen := szL_length x
  refine CW.seq (CW.reg ?_)
  refine WL.ev rfl rfl (Ev.as rfl rfl) (WL.nil ?_)
  refine CW.seq (CW.reg ?_)
  refine WL.ev rfl rfl (Ev.mv rfl rfl) (WL.ev rfl rfl (Ev.mv rfl rfl) (WL.ev rfl rfl (Ev.lenS rfl el22 rfl) (WL.ev rfl rfl (Ev.bin rfl rfl rfl (Bin.sub (by omega))) (WL.ev rfl rfl (Ev.as rfl rfl) (WL.nil ?_)))))
  refine CW.seq (CW.seq (CW.reg ?_))
  refine WL.ev rfl rfl (Ev.mv rfl rfl) (WL.ev rfl rfl (Ev.bin rfl rfl rfl Bin.lss) (WL.nil ?_))
  refine CW.condD rfl (fun h1 => ?_) (fun h1 => ?_)
  · skip
    refine CW.seq (CW.reg ?_)
    refine WL.ev rfl rfl (Ev.as rfl rfl) (WL.nil ?_)
    refine CW.ret ?_
    refine ⟨_, res1 rfl rfl rfl, (Ext.refl _), _, rfl, ?_⟩
    try have hall := szL_take_all (x := x) (k := k) (by omega)
    try simp only [szfold] at *
    first | omega | (right; exact ⟨by omega, by first | rfl | trivial⟩)
  · skip
    refine CW.skip ?_
    refine CW.seq (CW.seq (CW.reg ?_))
    refine WL.ev rfl rfl (Ev.as rfl rfl) (WL.nil ?_)
    refine CW.block (CW.loop (α := Nat × Int) (fun q => [(0, .slice A1 x.length c1), (1, .int .i64 q.2), (5, .int .i64 (q.1 : Int))]) (fun q wr => Ext w wr ∧ q.1 ≤ x.length ∧ 0 ≤ q.2 ∧ q.2 + x.length + szL (x.take q.1) = left + q.1) (fun q => x.length - q.1) (0, left - x.length) ⟨rfl, rfl, rfl, trivial⟩ ⟨Ext.refl _, by simp, by simp only; omega, by simp [szL]⟩ ?_)
    rintro ⟨k, l⟩ σ wr1 ⟨hEwr1, hk, hl0, hle⟩
    simp only at hk hl0 hle
    have hmn0 := szL_take_le x k
    refine CW.seq (CW.seq (CW.reg ?_))
    refine WL.ev rfl rfl (Ev.mv rfl rfl) (WL.ev rfl rfl (Ev.mv rfl rfl) (WL.ev rfl rfl (Ev.lenS rfl el22 rfl) (WL.ev rfl rfl (Ev.bin rfl rfl rfl Bin.lss) (WL.nil ?_))))
    refine CW.condD rfl (fun h2 => ?_) (fun h2 => ?_)
    · skip
      refine CW.skip ?_
      refine CW.seq (CW.block (CW.seq (CW.reg ?_)))
      refine WL.ev rfl rfl (Ev.mv rfl rfl) (WL.ev rfl rfl (Ev.mv rfl rfl) ?_)
      obtain ⟨xe1, be1, oe1, cse1, hxe1, hAe1, hSe1, hre1, hAte1⟩ := rdS.el (hx.ext hEwr1) (i := k) (by omega)
      have hK1 := hre1
      obtain ⟨rfl, hr1, hr2⟩ := hre1
      refine WL.ev rfl rfl (Ev.ixA rfl el22 sz24 rfl hAe1 rfl (by omega)) (WL.ev rfl rfl (Ev.lda rfl ag24 sz24 rfl hAte1 rfl) (WL.ev rfl rfl (Ev.mv rfl rfl) ?_))
      refine WL.call rfl rfl rfl rfl rfl ok16 rfl (szOccurrence_spec _ xe1 hK1 _ (by omega) (by omega)) ?_
      rintro _ w1 hEw1 ⟨r1, rfl, hr3⟩
      have hq1 := Occurrence_szd xe1
      refine WL.ev rfl rfl (Ev.as rfl rfl) (WL.nil ?_)
      refine CW.seq (CW.reg ?_)
      refine WL.ev rfl rfl (Ev.mv rfl rfl) (WL.ev rfl rfl (Ev.bin rfl rfl rfl Bin.lss) (WL.nil ?_))
      refine CW.condD rfl (fun h3 => ?_) (fun h3 => ?_)
      · skip
        refine CW.seq (CW.reg ?_)
        refine WL.ev rfl rfl (Ev.as rfl rfl) (WL.nil ?_)
        refine CW.ret ?_
        refine ⟨_, res1 rfl rfl rfl, (hEwr1.trans hEw1), _, rfl, ?_⟩
        have htk := szL_take_succ hxe1
        have hmn := szL_take_le x (k + 1)
        try simp only [szfold] at *
        first | omega | (right; exact ⟨by omega, by first | rfl | trivial⟩)
      · skip
        refine CW.skip ?_
        refine CW.reg ?_
        refine WL.ev rfl rfl (Ev.mv rfl rfl) (WL.ev rfl rfl (Ev.bin rfl rfl rfl (Bin.add (by omega))) (WL.ev rfl rfl (Ev.as rfl rfl) (WL.nil ?_)))
        have htk := szL_take_succ hxe1
        have hmn := szL_take_le x (k + 1)
        exact ⟨(k + 1, r1), ⟨rfl, rfl, rfl, trivial⟩, ⟨(hEwr1.trans hEw1), by simp only; omega, by simp only; omega, by simp only; omega⟩, by simp only; omega⟩
    · skip
      refine CW.exit ?_
      refine CW.seq (CW.reg ?_)
      refine WL.ev rfl rfl (Ev.mv rfl rfl) (WL.ev rfl rfl (Ev.as rfl rfl) (WL.nil ?_))
      refine CW.ret ?_
      refine ⟨_, res1 rfl rfl rfl, hEwr1, _, rfl, ?_⟩
      try have hall := szL_take_all (x := x) (k := k) (by omega)
      try simp only [szfold] at *
      first | omega | (right; exact ⟨by omega, by first | rfl | trivial⟩)

theorem toOccurrence_spec (w : World) {S : Nat → Prop} (x : Occurrence) {cs : List Value} (hx : rd S w x cs) (hlen : Sz.szd x ≤ 1048576) :
    Ret Try.prog 19 #[.agg cs.toArray] w (fun _ => False) fun v w' => ∃ cs, v = .agg cs.toArray ∧ New w w' x cs := by
  refine enter Try.func19 rfl rfl rfl ?_
  have hK1 := hx
  obtain ⟨rfl, hr1, hr2⟩ := hx
  rw [Occurrence_szd] at hlen
  refine CW.seq (CW.reg ?_)
  refine WL.box rfl rfl rfl rfl rfl fun b1 w1 hEb1 hbb1 hBb1 => ?_
  refine WL.alloc rfl rfl rfl ze30 fun b2 w2 hEb2 hbb2 hBb2 => ?_
  refine WL.nil ?_
  refine CW.seq (CW.reg ?_)
  refine WL.alloc rfl rfl rfl ze30 fun b3 w3 hEb3 hbb3 hBb3 => ?_
  refine WL.nil ?_
  refine CW.seq (CW.reg ?_)
  refine WL.ev rfl rfl (Ev.fa rfl fo24_0 rfl) (WL.ev rfl rfl (Ev.ld rfl ag3 rfl ((hBb1.ext (hEb2.trans hEb3)).cell rfl)) (WL.ev rfl rfl (Ev.fa rfl fo30_0 rfl) ?_))
  refine WL.st rfl rfl rfl sz3 rfl rfl rfl rfl (all1 rfl all0) hBb3 (Nat.le_of_ble_eq_true rfl) fun w4 hCw4 hB_1 => ?_
  have hz1 := hBb3.lt
  have hB_2 := Blk.chg1 (hBb1.ext (hEb2.trans hEb3)) hCw4 (by have := hBb1.lt; have := hbb3; have := hEb2.size; omega)
  have hB_3 := Blk.chg1 (hBb2.ext hEb3) hCw4 (by have := hBb2.lt; have := hbb3; omega)
  have hX1 := Ext.chg1 ((hEb1.trans hEb2).trans hEb3) hCw4 (by have := hbb3; have := hEb1.size; have := hEb2.size; omega)
  refine WL.nil ?_
  refine CW.seq (CW.reg ?_)
  refine WL.ev rfl rfl (Ev.fa rfl fo24_1 rfl) (WL.ev rfl rfl (Ev.ld rfl ag9 rfl (hB_2.cell rfl)) (WL.ev rfl rfl (Ev.fa rfl fo30_1 rfl) ?_))
  refine WL.st rfl rfl rfl sz9 rfl rfl rfl rfl (all1 rfl all0) hB_1 (Nat.le_of_ble_eq_true rfl) fun w5 hCw5 hB_4 => ?_
  have hz2 := hB_1.lt
  have hB_5 := Blk.chg1 hB_2 hCw5 (by have := hBb1.lt; have := hbb3; have := hEb2.size; omega)
  have hB_6 := Blk.chg1 hB_3 hCw5 (by have := hBb2.lt; have := hbb3; omega)
  have hX2 := Ext.chg1 hX1 hCw5 (by have := hbb3; have := hEb1.size; have := hEb2.size; omega)
  refine WL.nil ?_
  refine CW.seq (CW.reg ?_)
  refine WL.ev rfl rfl (Ev.lda rfl ag30 sz30 rfl (At.blk hB_4) rfl) ?_
  refine WL.st rfl rfl rfl sz30 rfl rfl rfl rfl (all1 rfl (all1 rfl all0)) hB_6 (Nat.le_of_ble_eq_true rfl) fun w6 hCw6 hB_7 => ?_
  have hz3 := hB_6.lt
  have hB_8 := Blk.chg1 hB_5 hCw6 (by have := hBb1.lt; have := hbb2; omega)
  have hB_9 := Blk.chg1 hB_4 hCw6 (by have := hBb2.lt; have := hbb3; omega)
  have hX3 := Ext.chg1 hX2 hCw6 (by have := hbb2; have := hEb1.size; omega)
  refine WL.nil ?_
  refine CW.ret ?_
  exact ⟨_, resC rfl ag30 sz30 rfl rfl (At.blk hB_7) rfl, hX3, _, rfl, _, ⟨rfl, by first | assumption | omega, by first | assumption | omega, rfl⟩, List.nodup_nil, by simp⟩

theorem toOccurrenceS_spec (w : World) {S : Nat → Prop} (x : List Occurrence) {z : Value} (hx : rdS S w x z) (hlen : szL x ≤ 1048576) :
    Ret Try.prog 18 #[z] w (fun _ => False) fun v w' => NewS w w' x v := by
  refine enter Try.func18 rfl rfl rfl ?_
  obtain ⟨A1, c1, rfl, hc1, hm1⟩ := hx.form
  have hl1 : x.length ≤ 9223372036854775807 := Nat.le_trans hc1 hm1
  have hln := szL_length x
  refine CW.seq (CW.reg ?_)
  refine WL.ev rfl rfl (Ev.as rfl rfl) (WL.nil ?_)
  refine CW.seq (CW.reg ?_)
  refine WL.ev rfl rfl (Ev.mv rfl rfl) (WL.ev rfl rfl (Ev.lenS rfl el22 rfl) ?_)
  refine WL.mk rfl rfl rfl el28 sz30 by30 ze30 rfl rfl rfl (by omega) (by omega) fun g w1 hE1 hg hBg => ?_
  refine WL.ev rfl rfl (Ev.as rfl rfl) (WL.nil ?_)
  refine CW.seq (CW.seq (CW.reg ?_))
  refine WL.ev rfl rfl (Ev.as rfl rfl) (WL.nil ?_)
  refine CW.block (CW.loop (α := Nat × List Value × List Nat) (fun q => [(0, .slice A1 x.length c1), (3, .slice (some ⟨g, 0, none⟩) x.length x.length), (4, .int .i64 (q.1 : Int))]) (fun q wr => Ext w wr ∧ ToInv wr g 30 [.int .i64 0, .string ⟨#[]⟩] x q.1 q.2.1 q.2.2) (fun q => x.length - q.1) (0, [], []) ⟨rfl, rfl, rfl, trivial⟩ ⟨hE1, ToInv.init hBg⟩ ?_)
  rintro ⟨k, cs, L⟩ σ wr1 ⟨hEwr1, hI⟩
  simp only at hI
  have hk := hI.le
  refine CW.seq (CW.seq (CW.reg ?_))
  refine WL.ev rfl rfl (Ev.mv rfl rfl) (WL.ev rfl rfl (Ev.mv rfl rfl) (WL.ev rfl rfl (Ev.lenS rfl el22 rfl) (WL.ev rfl rfl (Ev.bin rfl rfl rfl Bin.lss) (WL.nil ?_))))
  refine CW.condD rfl (fun h1 => ?_) (fun h1 => ?_)
  · skip
    refine CW.skip ?_
    refine CW.seq (CW.block (CW.reg ?_))
    refine WL.ev rfl rfl (Ev.mv rfl rfl) (WL.ev rfl rfl (Ev.mv rfl rfl) (WL.ev rfl rfl (Ev.mv rfl rfl) (WL.ev rfl rfl (Ev.mv rfl rfl) ?_)))
    obtain ⟨xe1, be1, oe1, cse1, hxe1, hAe1, hSe1, hre1, hAte1⟩ := rdS.el (hx.ext hEwr1) (i := k) (by omega)
    have hK1 := hre1
    obtain ⟨rfl, hr1, hr2⟩ := hre1
    refine WL.ev rfl rfl (Ev.ixA rfl el22 sz24 rfl hAe1 rfl (by omega)) (WL.ev rfl rfl (Ev.lda rfl ag24 sz24 rfl hAte1 rfl) ?_)
    refine WL.call rfl rfl rfl rfl rfl ok19 rfl (toOccurrence_spec _ xe1 hK1 (by have := szL_get hxe1; (try simp only [szfold] at *); omega)) ?_
    rintro _ w1 hEw1 ⟨cs1, rfl, L1, hO1, hN1, hF1⟩
    refine WL.ev rfl rfl (Ev.ix rfl el28 sz30 rfl rfl (by omega)) ?_
    refine WL.stTo rfl rfl rfl sz30 rfl rfl rfl (hI.ext hEw1) hxe1 hO1 hN1 (hI.fresh hF1) rfl fun w2 hCw2 hI2 => ?_
    have hX1 := Ext.chg1 (hEwr1.trans hEw1) hCw2 (by have := hE1.size; omega)
    refine WL.nil ?_
    refine CW.reg ?_
    refine WL.ev rfl rfl (Ev.mv rfl rfl) (WL.ev rfl rfl (Ev.bin rfl rfl rfl (Bin.add (by omega))) (WL.ev rfl rfl (Ev.as rfl rfl) (WL.nil ?_)))
    exact ⟨(k + 1, _, _), ⟨rfl, rfl, rfl, trivial⟩, ⟨hX1, hI2⟩, by simp only; omega⟩
  · skip
    refine CW.exit ?_
    refine CW.seq (CW.reg ?_)
    refine WL.ev rfl rfl (Ev.mv rfl rfl) (WL.ev rfl rfl (Ev.as rfl rfl) (WL.nil ?_))
    refine CW.ret ?_
    exact ⟨_, res1 rfl rfl rfl, hEwr1, hI.new (by omega) (by unfold maxLen; omega) hg⟩

theorem sOccurrenceIndex_spec (w : World) {S1 : Nat → Prop} {S2 : Nat → Prop} (l : List Occurrence) {zl : Value} (hl : rdS S1 w l zl) (y : Occurrence) {cy : List Value} (hy : rd S2 w y cy) :
    Ret Try.prog 17 #[zl, .agg cy.toArray] w (fun _ => False) fun v w' => v = .int .i64 (ixF l y) := by
  refine enter Try.func17 rfl rfl rfl ?_
  obtain ⟨A1, c1, rfl, hc1, hm1⟩ := hl.form
  have hl1 : l.length ≤ 9223372036854775807 := Nat.le_trans hc1 hm1
  have hK1 := hy
  obtain ⟨rfl, hr1, hr2⟩ := hy
  refine CW.seq (CW.reg ?_)
  refine WL.box rfl rfl rfl rfl rfl fun b1 w1 hEb1 hbb1 hBb1 => ?_
  refine WL.ev rfl rfl (Ev.as rfl rfl) (WL.nil ?_)
  refine CW.seq (CW.seq (CW.reg ?_))
  refine WL.ev rfl rfl (Ev.as rfl rfl) (WL.nil ?_)
  refine CW.block (CW.loop (α := Nat) (fun q => [(0, .slice A1 l.length c1), (3, .pointer (some ⟨b1, 0, none⟩)), (5, .int .i64 (q : Int))]) (fun q wr => Ext w1 wr ∧ q ≤ l.length ∧ y ∉ l.take q) (fun q => l.length - q) 0 ⟨rfl, rfl, rfl, trivial⟩ ⟨Ext.refl _, by omega, by simp⟩ ?_)
  rintro k σ wr1 ⟨hEwr1, hk, hpre⟩
  refine CW.seq (CW.seq (CW.reg ?_))
  refine WL.ev rfl rfl (Ev.mv rfl rfl) (WL.ev rfl rfl (Ev.mv rfl rfl) (WL.ev rfl rfl (Ev.lenS rfl el28 rfl) (WL.ev rfl rfl (Ev.bin rfl rfl rfl Bin.lss) (WL.nil ?_))))
  refine CW.condD rfl (fun h1 => ?_) (fun h1 => ?_)
  · skip
    refine CW.skip ?_
    refine CW.seq (CW.block (CW.seq (CW.quiet hmix (by kernel_rfl) ?_)))
    refine QL.ev rfl rfl (fun _ _ => Ev.mv rfl rfl) (QL.ev rfl rfl (fun _ _ => Ev.mv rfl rfl) ?_)
    obtain ⟨xe1, be1, oe1, cse1, hxe1, hAe1, hSe1, hre1, hAte1⟩ := rdS.el (hl.ext (hEb1.trans hEwr1)) (i := k) (by omega)
    have hK2 := hre1
    obtain ⟨rfl, hr3, hr4⟩ := hre1
    refine QL.ev rfl rfl (fun _ _ => Ev.ixA rfl el28 sz30 rfl hAe1 rfl (by omega)) (QL.ev rfl rfl (fun _ hq => Ev.lda rfl ag30 sz30 rfl (hAte1.ext hq) rfl) (QL.ev rfl rfl (fun _ hq => Ev.lda rfl ag30 sz30 rfl (At.blk (hBb1.ext (hEwr1.trans hq))) rfl) (QL.ev rfl rfl (fun _ _ => Ev.bin rfl rfl rfl (Bin.eqlF fl30 (Occurrence_eqF xe1 y))) (QL.nil (fun w2 hEw2 => ?_)))))
    refine CW.condD rfl (fun h2 => ?_) (fun h2 => ?_)
    · skip
      refine CW.seq (CW.reg ?_)
      refine WL.ev rfl rfl (Ev.mv rfl rfl) (WL.ev rfl rfl (Ev.as rfl rfl) (WL.nil ?_))
      refine CW.ret ?_
      exact ⟨_, res1 rfl rfl rfl, ((hEb1.trans hEwr1).trans hEw2), vI (ixF_found hpre hxe1 h2).symm⟩
    · skip
      refine CW.skip ?_
      refine CW.reg ?_
      refine WL.ev rfl rfl (Ev.mv rfl rfl) (WL.ev rfl rfl (Ev.bin rfl rfl rfl (Bin.add (by omega))) (WL.ev rfl rfl (Ev.as rfl rfl) (WL.nil ?_)))
      exact ⟨k + 1, ⟨rfl, rfl, rfl, trivial⟩, ⟨(hEwr1.trans hEw2), by omega, ixF_step hpre hxe1 h2⟩, by omega⟩
  · skip
    refine CW.exit ?_
    refine CW.seq (CW.reg ?_)
    refine WL.ev rfl rfl (Ev.as rfl rfl) (WL.nil ?_)
    refine CW.ret ?_
    exact ⟨_, res1 rfl rfl rfl, (hEb1.trans hEwr1), vI (ixF_none hpre (by omega)).symm⟩

theorem IndexOccurrence_spec (w : World) {S1 : Nat → Prop} {S2 : Nat → Prop} (l : List Occurrence) {zl : Value} (hl : rdS S1 w l zl) (y : Occurrence) {cy : List Value} (hy : rd S2 w y cy) :
    Ret Try.prog 65 #[zl, .agg cy.toArray] w (fun _ => False) fun v w' => v = .int .i64 (ixF l y) := by
  refine enter Try.func65 rfl rfl rfl ?_
  obtain ⟨A1, c1, rfl, hc1, hm1⟩ := hl.form
  have hl1 : l.length ≤ 9223372036854775807 := Nat.le_trans hc1 hm1
  have hK1 := hy
  obtain ⟨rfl, hr1, hr2⟩ := hy
  refine CW.seq (CW.reg ?_)
  refine WL.box rfl rfl rfl rfl rfl fun b1 w1 hEb1 hbb1 hBb1 => ?_
  refine WL.ev rfl rfl (Ev.as rfl rfl) (WL.nil ?_)
  refine CW.seq (CW.seq (CW.reg ?_))
  refine WL.ev rfl rfl (Ev.mv rfl rfl) (WL.ev rfl rfl (Ev.lenS rfl el28 rfl) (WL.ev rfl rfl (Ev.mv rfl rfl) (WL.nil ?_)))
  refine CW.block (CW.loop (α := Nat) (fun q => [(0, .slice A1 l.length c1), (3, .pointer (some ⟨b1, 0, none⟩)), (7, .int .i64 (l.length : Int)), (8, .int .i64 (q : Int))]) (fun q wr => Ext w1 wr ∧ q ≤ l.length ∧ y ∉ l.take q) (fun q => l.length - q) 0 ⟨rfl, rfl, rfl, rfl, trivial⟩ ⟨Ext.refl _, by omega, by simp⟩ ?_)
  rintro k σ wr1 ⟨hEwr1, hk, hpre⟩
  refine CW.seq (CW.reg ?_)
  refine WL.ev rfl rfl (Ev.bin rfl rfl rfl Bin.lss) (WL.nil ?_)
  refine CW.seq (CW.condD rfl (fun h1 => ?_) (fun h1 => ?_))
  · skip
    refine CW.skip ?_
    refine CW.seq (CW.block (CW.seq (CW.reg ?_)))
    refine WL.ev rfl rfl (Ev.mv rfl rfl) (WL.ev rfl rfl (Ev.as rfl rfl) (WL.nil ?_))
    refine CW.seq (CW.quiet hmix (by kernel_rfl) ?_)
    refine QL.ev rfl rfl (fun _ hq => Ev.lda rfl ag30 sz30 rfl (At.blk (hBb1.ext (hEwr1.trans hq))) rfl) (QL.ev rfl rfl (fun _ _ => Ev.mv rfl rfl) (QL.ev rfl rfl (fun _ _ => Ev.mv rfl rfl) ?_))
    obtain ⟨xe1, be1, oe1, cse1, hxe1, hAe1, hSe1, hre1, hAte1⟩ := rdS.el (hl.ext (hEb1.trans hEwr1)) (i := k) (by omega)
    have hK2 := hre1
    obtain ⟨rfl, hr3, hr4⟩ := hre1
    refine QL.ev rfl rfl (fun _ _ => Ev.ixA rfl el28 sz30 rfl hAe1 rfl (by omega)) (QL.ev rfl rfl (fun _ hq => Ev.lda rfl ag30 sz30 rfl (hAte1.ext hq) rfl) (QL.ev rfl rfl (fun _ _ => Ev.bin rfl rfl rfl (Bin.eqlF fl30 (Occurrence_eqF y xe1))) (QL.nil (fun w2 hEw2 => ?_))))
    refine CW.condD rfl (fun h2 => ?_) (fun h2 => ?_)
    · skip
      refine CW.seq (CW.reg ?_)
      refine WL.ev rfl rfl (Ev.mv rfl rfl) (WL.ev rfl rfl (Ev.as rfl rfl) (WL.nil ?_))
      refine CW.ret ?_
      exact ⟨_, res1 rfl rfl rfl, ((hEb1.trans hEwr1).trans hEw2), vI (ixF_found hpre hxe1 h2.symm).symm⟩
    · skip
      refine CW.skip ?_
      refine CW.reg ?_
      refine WL.ev rfl rfl (Ev.bin rfl rfl rfl (Bin.add (by omega))) (WL.ev rfl rfl (Ev.mv rfl rfl) (WL.nil ?_))
      exact ⟨k + 1, ⟨rfl, rfl, rfl, rfl, trivial⟩, ⟨(hEwr1.trans hEw2), by omega, ixF_step hpre hxe1 (fun e => h2 e.symm)⟩, by omega⟩
  · skip
    refine CW.exit ?_
    refine CW.seq (CW.reg ?_)
    refine WL.ev rfl rfl (Ev.as rfl rfl) (WL.nil ?_)
    refine CW.ret ?_
    exact ⟨_, res1 rfl rfl rfl, (hEb1.trans hEwr1), vI (ixF_none hpre (by omega)).symm⟩

theorem iOccurrenceIndex_spec (w : World) {S1 : Nat → Prop} {S2 : Nat → Prop} (l : List Occurrence) {zl : Value} (hl : rdS S1 w l zl) (y : Occurrence) {cy : List Value} (hy : rd S2 w y cy) :
    Ret Try.prog 20 #[zl, .agg cy.toArray] w (fun _ => False) fun v w' => v = .int .i64 (ixF l y) := by
  refine enter Try.func20 rfl rfl rfl ?_
  obtain ⟨A1, c1, rfl, hc1, hm1⟩ := hl.form
  have hl1 : l.length ≤ 9223372036854775807 := Nat.le_trans hc1 hm1
  have hK1 := hy
  obtain ⟨rfl, hr1, hr2⟩ := hy
  refine CW.seq (CW.reg ?_)
  refine WL.box rfl rfl rfl rfl rfl fun b1 w1 hEb1 hbb1 hBb1 => ?_
  refine WL.ev rfl rfl (Ev.as rfl rfl) (WL.nil ?_)
  refine CW.seq (CW.reg ?_)
  refine WL.ev rfl rfl (Ev.mv rfl rfl) (WL.ev rfl rfl (Ev.lda rfl ag30 sz30 rfl (At.blk hBb1) rfl) ?_)
  refine WL.call rfl rfl rfl rfl rfl ok65 rfl (IndexOccurrence_spec _ l (hl.ext hEb1) y (rd_ext hK1 hEb1)) ?_
  rintro _ w2 hEw2 rfl
  have hix1 := ixF_range (xs := l) (y := y) (by omega)
  refine WL.ev rfl rfl (Ev.as rfl rfl) (WL.nil ?_)
  refine CW.ret ?_
  refine ⟨_, res1 rfl rfl rfl, (hEb1.trans hEw2), ?_⟩
  rfl

theorem eqOccurrence_spec (w : World) {S S2 : Nat → Prop} (x y : Occurrence) {cs ds : List Value} (hx : rd S w x cs) (hy : rd S2 w y ds) :
    Ret Try.prog 66 #[.agg cs.toArray, .agg ds.toArray] w (fun _ => False) fun v _ => v = .bool (decide (x = y)) := by
  refine enter Try.func66 rfl rfl rfl ?_
  have hK1 := hx
  obtain ⟨rfl, hr1, hr2⟩ := hx
  have hK2 := hy
  obtain ⟨rfl, hr3, hr4⟩ := hy
  refine CW.seq (CW.reg ?_)
  refine WL.box rfl rfl rfl rfl rfl fun b1 w1 hEb1 hbb1 hBb1 => ?_
  refine WL.box rfl rfl rfl rfl rfl fun b2 w2 hEb2 hbb2 hBb2 => ?_
  refine WL.ev rfl rfl (Ev.as rfl rfl) (WL.nil ?_)
  refine CW.seq (CW.seq (CW.reg ?_))
  refine WL.ev rfl rfl (Ev.fa rfl fo30_0 rfl) (WL.ev rfl rfl (Ev.ld rfl ag3 rfl ((hBb1.ext hEb2).cell rfl)) (WL.ev rfl rfl (Ev.fa rfl fo30_0 rfl) (WL.ev rfl rfl (Ev.ld rfl ag3 rfl (hBb2.cell rfl)) (WL.ev rfl rfl (Ev.bin rfl rfl rfl Bin.neq) (WL.nil ?_)))))
  refine CW.condN rfl (fun h1 => ?_) (fun h1 => ?_)
  · skip
    refine CW.seq (CW.reg ?_)
    refine WL.ev rfl rfl (Ev.as rfl rfl) (WL.nil ?_)
    refine CW.ret ?_
    have e : x ≠ y := by rintro rfl; exact h1 rfl
    exact ⟨_, res1 rfl rfl rfl, (hEb1.trans hEb2), vB (by simp [e])⟩
  · skip
    refine CW.skip ?_
    refine CW.seq (CW.seq (CW.reg ?_))
    refine WL.ev rfl rfl (Ev.fa rfl fo30_1 rfl) (WL.ev rfl rfl (Ev.ld rfl ag9 rfl ((hBb1.ext hEb2).cell rfl)) (WL.ev rfl rfl (Ev.fa rfl fo30_1 rfl) (WL.ev rfl rfl (Ev.ld rfl ag9 rfl (hBb2.cell rfl)) (WL.ev rfl rfl (Ev.bin rfl rfl rfl Bin.neqS) (WL.nil ?_)))))
    refine CW.condN rfl (fun h2 => ?_) (fun h2 => ?_)
    · skip
      refine CW.seq (CW.reg ?_)
      refine WL.ev rfl rfl (Ev.as rfl rfl) (WL.nil ?_)
      refine CW.ret ?_
      have e : x ≠ y := by rintro rfl; exact h2 rfl
      exact ⟨_, res1 rfl rfl rfl, (hEb1.trans hEb2), vB (by simp [e])⟩
    · skip
      refine CW.skip ?_
      refine CW.seq (CW.reg ?_)
      refine WL.ev rfl rfl (Ev.as rfl rfl) (WL.nil ?_)
      refine CW.ret ?_
      have e : x = y := by cases x; cases y; simp_all
      exact ⟨_, res1 rfl rfl rfl, (hEb1.trans hEb2), vB (by simp [e])⟩

theorem eqOccurrenceS_spec (w : World) {S S2 : Nat → Prop} (x y : List Occurrence) {z z2 : Value} (hx : rdS S w x z) (hy : rdS S2 w y z2) :
    Ret Try.prog 21 #[z, z2] w (fun _ => False) fun v _ => v = .bool (decide (x = y)) := by
  refine enter Try.func21 rfl rfl rfl ?_
  obtain ⟨A1, c1, rfl, hc1, hm1⟩ := hx.form
  have hl1 : x.length ≤ 9223372036854775807 := Nat.le_trans hc1 hm1
  obtain ⟨A2, c2, rfl, hc2, hm2⟩ := hy.form
  have hl2 : y.length ≤ 9223372036854775807 := Nat.le_trans hc2 hm2
  refine CW.seq (CW.reg ?_)
  refine WL.ev rfl rfl (Ev.as rfl rfl) (WL.nil ?_)
  refine CW.seq (CW.seq (CW.reg ?_))
  refine WL.ev rfl rfl (Ev.mv rfl rfl) (WL.ev rfl rfl (Ev.lenS rfl el28 rfl) (WL.ev rfl rfl (Ev.mv rfl rfl) (WL.ev rfl rfl (Ev.lenS rfl el28 rfl) (WL.ev rfl rfl (Ev.bin rfl rfl rfl Bin.neq) (WL.nil ?_)))))
  refine CW.condN rfl (fun h1 => ?_) (fun h1 => ?_)
  · skip
    refine CW.seq (CW.reg ?_)
    refine WL.ev rfl rfl (Ev.as rfl rfl) (WL.nil ?_)
    refine CW.ret ?_
    have e : x ≠ y := fun e => h1 (by rw [e])
    exact ⟨_, res1 rfl rfl rfl, (Ext.refl _), vB (by simp [e])⟩
  · skip
    refine CW.skip ?_
    refine CW.seq (CW.seq (CW.reg ?_))
    refine WL.ev rfl rfl (Ev.as rfl rfl) (WL.nil ?_)
    refine CW.block (CW.loop (α := Nat) (fun q => [(0, .slice A1 x.length c1), (1, .slice A2 y.length c2), (5, .int .i64 (q : Int))]) (fun q wr => Ext w wr ∧ q ≤ x.length ∧ x.take q = y.take q) (fun q => x.length - q) 0 ⟨rfl, rfl, rfl, trivial⟩ ⟨Ext.refl _, by omega, rfl⟩ ?_)
    rintro k σ wr1 ⟨hEwr1, hk, hpre⟩
    refine CW.seq (CW.seq (CW.reg ?_))
    refine WL.ev rfl rfl (Ev.mv rfl rfl) (WL.ev rfl rfl (Ev.mv rfl rfl) (WL.ev rfl rfl (Ev.lenS rfl el28 rfl) (WL.ev rfl rfl (Ev.bin rfl rfl rfl Bin.lss) (WL.nil ?_))))
    refine CW.condD rfl (fun h2 => ?_) (fun h2 => ?_)
    · skip
      refine CW.skip ?_
      refine CW.seq (CW.block (CW.seq (CW.quiet hmix (by kernel_rfl) ?_)))
      refine QL.ev rfl rfl (fun _ _ => Ev.mv rfl rfl) (QL.ev rfl rfl (fun _ _ => Ev.mv rfl rfl) ?_)
      obtain ⟨xe1, be1, oe1, cse1, hxe1, hAe1, hSe1, hre1, hAte1⟩ := rdS.el (hx.ext hEwr1) (i := k) (by omega)
      have hK1 := hre1
      obtain ⟨rfl, hr1, hr2⟩ := hre1
      refine QL.ev rfl rfl (fun _ _ => Ev.ixA rfl el28 sz30 rfl hAe1 rfl (by omega)) (QL.ev rfl rfl (fun _ hq => Ev.lda rfl ag30 sz30 rfl (hAte1.ext hq) rfl) (QL.ev rfl rfl (fun _ _ => Ev.mv rfl rfl) (QL.ev rfl rfl (fun _ _ => Ev.mv rfl rfl) ?_)))
      obtain ⟨xe2, be2, oe2, cse2, hxe2, hAe2, hSe2, hre2, hAte2⟩ := rdS.el (hy.ext hEwr1) (i := k) (by omega)
      have hK2 := hre2
      obtain ⟨rfl, hr3, hr4⟩ := hre2
      refine QL.ev rfl rfl (fun _ _ => Ev.ixA rfl el28 sz30 rfl hAe2 rfl (by omega)) (QL.ev rfl rfl (fun _ hq => Ev.lda rfl ag30 sz30 rfl (hAte2.ext hq) rfl) (QL.call rfl rfl rfl rfl rfl ok66 rfl (fun _ hq => eqOccurrence_spec _ xe1 xe2 (rd_ext hK1 hq) (rd_ext hK2 hq)) (QL.ev rfl rfl (fun _ _ => Ev.not rfl rfl) (QL.nil (fun w1 hEw1 => ?_)))))
      refine CW.condN rfl (fun h3 => ?_) (fun h3 => ?_)
      · skip
        refine CW.seq (CW.reg ?_)
        refine WL.ev rfl rfl (Ev.as rfl rfl) (WL.nil ?_)
        refine CW.ret ?_
        have e : x ≠ y := ne_of_at hxe1 hxe2 h3
        exact ⟨_, res1 rfl rfl rfl, (hEwr1.trans hEw1), vB (by simp [e])⟩
      · skip
        refine CW.skip ?_
        refine CW.reg ?_
        refine WL.ev rfl rfl (Ev.mv rfl rfl) (WL.ev rfl rfl (Ev.bin rfl rfl rfl (Bin.add (by omega))) (WL.ev rfl rfl (Ev.as rfl rfl) (WL.nil ?_)))
        exact ⟨k + 1, ⟨rfl, rfl, rfl, trivial⟩, ⟨(hEwr1.trans hEw1), by omega, take_succ_eq hpre hxe1 hxe2 h3⟩, by omega⟩
    · skip
      refine CW.exit ?_
      refine CW.seq (CW.reg ?_)
      refine WL.ev rfl rfl (Ev.as rfl rfl) (WL.nil ?_)
      refine CW.ret ?_
      have e : x = y := eq_of_take (by omega) (by omega) hpre
      exact ⟨_, res1 rfl rfl rfl, hEwr1, vB (by simp [e])⟩

theorem FnExactOccurrenceIndex_law (w : World) {Sa : Nat → Prop} (a : List Occurrence) {za : Value} (ha : rdS Sa w a za) {So : Nat → Prop} (o : Occurrence) {co : List Value} (ho : rd So w o co) :
    Ret Try.prog 3 #[za, .agg co.toArray] w (fun _ => False) fun v _ => v = .bool true := by
  refine enter Try.func3 rfl rfl rfl ?_
  obtain ⟨A1, c1, rfl, hc1, hm1⟩ := ha.form
  have hl1 : a.length ≤ 9223372036854775807 := Nat.le_trans hc1 hm1
  have na := szL_length a
  have qa := szfold a
  have hK1 := ho
  obtain ⟨rfl, hr1, hr2⟩ := ho
  have qo := Occurrence_szd o
  refine CW.seq (CW.reg ?_)
  refine WL.box rfl rfl rfl rfl rfl fun b1 w1 hEb1 hbb1 hBb1 => ?_
  refine WL.ev rfl rfl (Ev.as rfl rfl) (WL.nil ?_)
  refine CW.seq (CW.reg ?_)
  refine WL.ev rfl rfl (Ev.as rfl rfl) (WL.nil ?_)
  refine CW.seq (CW.reg ?_)
  refine WL.ev rfl rfl (Ev.mv rfl rfl) (WL.ev rfl rfl (Ev.mv rfl rfl) ?_)
  refine WL.call rfl rfl rfl rfl rfl ok15 rfl (szOccurrenceS_spec _ a (ha.ext hEb1) _ (by omega) (by omega)) ?_
  rintro _ w2 hEw2 ⟨r1, rfl, hr3⟩
  have hq1 := szfold a
  refine WL.ev rfl rfl (Ev.as rfl rfl) (WL.nil ?_)
  refine CW.seq (CW.seq (CW.reg ?_))
  refine WL.ev rfl rfl (Ev.mv rfl rfl) (WL.ev rfl rfl (Ev.bin rfl rfl rfl Bin.lss) (WL.nil ?_))
  refine CW.condD rfl (fun h1 => ?_) (fun h1 => ?_)
  · skip
    refine CW.seq (CW.reg ?_)
    refine WL.ev rfl rfl (Ev.as rfl rfl) (WL.nil ?_)
    refine CW.ret ?_
    exact ⟨_, res1 rfl rfl rfl, (hEb1.trans hEw2), rfl⟩
  · skip
    refine CW.skip ?_
    refine CW.seq (CW.reg ?_)
    refine WL.ev rfl rfl (Ev.lda rfl ag24 sz24 rfl (At.blk (hBb1.ext hEw2)) rfl) (WL.ev rfl rfl (Ev.mv rfl rfl) ?_)
    refine WL.call rfl rfl rfl rfl rfl ok16 rfl (szOccurrence_spec _ o (rd_ext hK1 (hEb1.trans hEw2)) _ (by omega) (by omega)) ?_
    rintro _ w3 hEw3 ⟨r2, rfl, hr4⟩
    have hq2 := Occurrence_szd o
    refine WL.ev rfl rfl (Ev.as rfl rfl) (WL.nil ?_)
    refine CW.seq (CW.seq (CW.reg ?_))
    refine WL.ev rfl rfl (Ev.mv rfl rfl) (WL.ev rfl rfl (Ev.bin rfl rfl rfl Bin.lss) (WL.nil ?_))
    refine CW.condD rfl (fun h2 => ?_) (fun h2 => ?_)
    · skip
      refine CW.seq (CW.reg ?_)
      refine WL.ev rfl rfl (Ev.as rfl rfl) (WL.nil ?_)
      refine CW.ret ?_
      exact ⟨_, res1 rfl rfl rfl, ((hEb1.trans hEw2).trans hEw3), rfl⟩
    · skip
      refine CW.skip ?_
      refine CW.seq (CW.anyE 6 (fun ρ => [.inl (ρ 0), .inr (fun S v w => rdS S w (a) v), .inl (ρ 1), .inr (fun S v w => ∃ cs : List Value, v = .agg cs.toArray ∧ rd S w (o) cs), .inl (.int .i64 (ixF a o)), .inl (.int .i64 (ixF a o))]) hmix (by kernel_rfl) ⟨trivial, fun _ _ _ _ h hE => h.ext hE, trivial, fun _ _ _ _ ⟨cs, e, h⟩ hE => ⟨cs, e, rd_ext h hE⟩, trivial, trivial, trivial⟩ ?_)
      refine LL.fx rfl rfl rfl (fun _ hq hK => Ev.mv rfl rfl) ?_
      refine LL.free rfl rfl (fun wq hq hK => ?_) (fun v_1_1 S_1_1 => ?_)
      · skip
        refine OpX.call rfl rfl rfl rfl ok18 rfl (toOccurrenceS_spec _ a (ha.ext (((hEb1.trans hEw2).trans hEw3).trans hq)) (by omega)) ?_
        intro v w' hE h
        exact ⟨hE, NewS.rd h⟩
      refine LL.fx rfl rfl rfl (fun _ hq hK => Ev.lda rfl ag24 sz24 rfl (At.blk (hBb1.ext ((hEw2.trans hEw3).trans hq))) rfl) ?_
      refine LL.free rfl rfl (fun wq hq hK => ?_) (fun v_1_3 S_1_3 => ?_)
      · skip
        refine OpX.call rfl rfl rfl rfl ok19 rfl (toOccurrence_spec _ o (rd_ext hK1 (((hEb1.trans hEw2).trans hEw3).trans hq)) (by omega)) ?_
        rintro v w' hE ⟨cs, rfl, h⟩
        exact ⟨hE, cs, rfl, New.rd h⟩
      refine LL.fixed rfl rfl (fun wq hq hK => ?_) ?_
      · skip
        have hd1 : rdS S_1_1 wq (a) v_1_1 := hK 1 rfl
        obtain ⟨cs3, e3, hd3⟩ : ∃ cs : List Value, v_1_3 = .agg cs.toArray ∧ rd S_1_3 wq (o) cs := hK 3 rfl
        subst e3
        refine OpX.call rfl rfl rfl rfl ok17 rfl (sOccurrenceIndex_spec _ a hd1 o hd3) ?_
        rintro v w' hE rfl
        exact ⟨hE, rfl⟩
      refine LL.fx rfl rfl rfl (fun _ hq hK => Ev.as rfl rfl) ?_
      intro w4 hEw4 hKr1 hap1 hbd1
      have hs_1_1 : ∀ q, S_1_1 q → w3.heap.size ≤ q ∧ q < w4.heap.size := fun q hq => hbd1 1 q hq
      have hs_1_3 : ∀ q, S_1_3 q → w3.heap.size ≤ q ∧ q < w4.heap.size := fun q hq => hbd1 3 q hq
      refine WL.nil ?_
      refine CW.seq (CW.reg ?_)
      refine WL.ev rfl rfl (Ev.mv rfl rfl) ?_
      refine WL.call rfl rfl rfl rfl rfl ok18 rfl (toOccurrenceS_spec _ a (ha.ext (((hEb1.trans hEw2).trans hEw3).trans hEw4)) (by omega)) ?_
      rintro v2 w5 hEw5 ⟨L3, hO3, hN3, hF3⟩
      obtain ⟨A3, c3, rfl, hc3, hm3⟩ := hO3.form
      refine WL.ev rfl rfl (Ev.as rfl rfl) (WL.nil ?_)
      refine CW.seq (CW.reg ?_)
      refine WL.ev rfl rfl (Ev.mv rfl rfl) (WL.ev rfl rfl (Ev.lda rfl ag24 sz24 rfl (At.blk (hBb1.ext (((hEw2.trans hEw3).trans hEw4).trans hEw5))) rfl) ?_)
      refine WL.call rfl rfl rfl rfl rfl ok19 rfl (toOccurrence_spec _ o (rd_ext hK1 ((((hEb1.trans hEw2).trans hEw3).trans hEw4).trans hEw5)) (by omega)) ?_
      rintro _ w6 hEw6 ⟨cs2, rfl, L4, hO4, hN4, hF4⟩
      refine WL.call rfl rfl rfl rfl rfl ok20 rfl (iOccurrenceIndex_spec _ a (hO3.ext hEw6).rd o (Sep.own_rd hO4)) ?_
      rintro _ w7 hEw7 rfl
      refine WL.ev rfl rfl (Ev.as rfl rfl) (WL.nil ?_)
      refine CW.seq (CW.seq (CW.reg ?_))
      refine WL.ev rfl rfl (Ev.mv rfl rfl) (WL.ev rfl rfl (Ev.mv rfl rfl) (WL.ev rfl rfl (Ev.bin rfl rfl rfl (Bin.neqSame rfl)) (WL.nil ?_)))
      refine CW.condF rfl ?_
      refine CW.skip ?_
      refine CW.seq (CW.seq (CW.reg ?_))
      refine WL.ev rfl rfl (Ev.mv rfl rfl) (WL.ev rfl rfl (Ev.mv rfl rfl) ?_)
      refine WL.call rfl rfl rfl rfl rfl ok18 rfl (toOccurrenceS_spec _ a (ha.ext ((((((hEb1.trans hEw2).trans hEw3).trans hEw4).trans hEw5).trans hEw6).trans hEw7)) (by omega)) ?_
      rintro v3 w8 hEw8 ⟨L5, hO5, hN5, hF5⟩
      obtain ⟨A4, c4, rfl, hc4, hm4⟩ := hO5.form
      refine WL.call rfl rfl rfl rfl rfl ok21 rfl ((eqOccurrenceS_spec _ a a (hO3.ext ((hEw6.trans hEw7).trans hEw8)).rd hO5.rd).yes rfl) ?_
      rintro _ w9 hEw9 rfl
      refine WL.ev rfl rfl (Ev.not rfl rfl) (WL.nil ?_)
      refine CW.condF rfl ?_
      refine CW.skip ?_
      refine CW.seq (CW.reg ?_)
      refine WL.ev rfl rfl (Ev.as rfl rfl) (WL.nil ?_)
      refine CW.ret ?_
      exact ⟨_, res1 rfl rfl rfl, ((((((((hEb1.trans hEw2).trans hEw3).trans hEw4).trans hEw5).trans hEw6).trans hEw7).trans hEw8).trans hEw9), rfl⟩

theorem open3 : Opens Try.prog 3 Int := Opens.int (by kernel_rfl) Try.underlying3
theorem open9 : Opens Try.prog 9 ByteArray := Opens.str (by kernel_rfl) Try.underlying9
theorem open24 : Opens Try.prog 24 Occurrence := by
  refine Opens.struct (k := 2) (by kernel_rfl) rfl Try.underlying24 fun H enc w base spare held n cs xs hl hx hf => ?_
  obtain ⟨c0, t0, rfl, hl0⟩ := lenS hl
  obtain ⟨c1, t1, rfl, hl1⟩ := lenS hl0
  obtain rfl := len0 hl1
  obtain ⟨a0, r0⟩ := Opens.fld (i := 0) (t := 3) (off := 0) (k := 1) open3 hf hx rfl rfl rfl rfl
  have q0 : rd (fun _ => True) w a0 [c0] := r0
  obtain ⟨e0, h0_0⟩ := q0
  simp only [List.cons.injEq, and_true] at e0
  obtain rfl := e0
  obtain ⟨a1, r1⟩ := Opens.fld (i := 1) (t := 9) (off := 1) (k := 1) open9 hf hx rfl rfl rfl rfl
  have q1 : rd (fun _ => True) w a1 [c1] := r1
  obtain ⟨e1, h1_0⟩ := q1
  simp only [List.cons.injEq, and_true] at e1
  obtain rfl := e1
  exact ⟨⟨a0, a1⟩, rfl, h0_0, h1_0⟩
theorem open22 : Opens Try.prog 22 (List Occurrence) := Opens.slice (by kernel_rfl) Try.underlying22 open24
section
open Go.ChangeShapes Go.WideShapes Go.ChangeAt Go.RowKit
theorem own_knob : ownKnob Try.prog.godebug = none := by kernel_rfl
theorem laid_out : laidOutB Try.prog = true := by kernel_rfl
set_option maxRecDepth 100000 in
theorem fnExactOccurrenceIndex_lifted (os : Os) (started : os.Started) (H : Type) (enc : TypeId × Value → H) :
    ReturnsInHanded {} Try.checked os 3 .any (Rows.fnExactOccurrenceIndexSpec.pre6 enc Try.prog Try.f3 Rows.fnExactOccurrenceIndexRow.domain false) (Rows.fnExactOccurrenceIndexSpec.post enc Try.prog Try.f3 false true false false) := by
  refine returnsInHanded_of_change (C := Try.checked) own_knob started (by kernel_rfl) Try.func3
    (ChangeSpec.witness6 (enc := enc) (C := Try.checked) false ⟨#[], #[.slice none 0 0, .agg #[.int .i64 0, .string ⟨#[]⟩]], []⟩ 8 (by kernel_rfl) (by kernel_rfl) (by kernel_rfl) (by kernel_rfl)) ?_
  intro W base args ds gs before hval0 hW hcnd _
  have hval : ∀ (j : Nat) t v, Try.f3.params[j]? = some t → args[j]? = some v → Value.okWide Try.prog W .any base t v := hval0
  have hW' := hW
  obtain ⟨p, q, hA0, hV, rfl, hfz, hnd⟩ := hW
  have hA : DataW.TrodAll enc Try.prog W 0 (fun _ => true) true Try.f3.params.toList args.toList ds p := hA0
  rw [Try.params3] at hA hval
  obtain ⟨v0, vs0, d0, ds0, p0, q0, hargs, rfl, rfl, t0, r0⟩ := trodAll_cons hA
  obtain ⟨v1, vs1, d1, ds1, p1, q1, rfl, rfl, rfl, t1, r1⟩ := trodAll_cons r0
  obtain ⟨rfl, rfl, rfl⟩ := trodAll_nil r1
  obtain rfl : args = #[v0, v1] := by cases args; simp_all
  obtain ⟨rfl, rfl⟩ := trodVars_none hV
  have k0 := t0
  have lt0 : ∀ x ∈ p0, x.block < W.heap.size := by obtain ⟨m, hm⟩ := k0; exact DataW.trod_lt m _ _ _ hm
  obtain ⟨m0, hm0⟩ := t0
  obtain ⟨a0, ha0⟩ := open22.2 _ _ _ _ _ _ _ _ _ hm0
  obtain ⟨x0, l0, c0, rfl⟩ := okWide_slice Try.underlying22 (hval 0 22 v0 rfl rfl)
  obtain ⟨z0, e0, ha0⟩ := ha0
  obtain rfl : Value.slice x0 l0 c0 = z0 := by injection e0
  have k1 := t1
  have lt1 : ∀ x ∈ p1, x.block < W.heap.size := by obtain ⟨m, hm⟩ := k1; exact DataW.trod_lt m _ _ _ hm
  obtain ⟨m1, hm1⟩ := t1
  obtain ⟨a1, ha1⟩ := open24.2 _ _ _ _ _ _ _ _ _ hm1
  obtain ⟨⟨c1⟩, rfl, _⟩ := okWide_struct Try.underlying24 (hval 1 24 v1 rfl rfl)
  clear hA0 hval0
  refine Calls.mono (FnExactOccurrenceIndex_law W a0 ha0 a1 ha1) fun e W' ⟨v, he, hch, hv⟩ => ?_
  subst he; subst hv
  have bel := Ext.below hch
  exact ⟨_, rfl, _, _, _, [], _, [], hW', trodAll_mk1 (shut_bool Try.underlying4 _), (trodAll_cons_mk (Below.trod laid_out (by kernel_rfl) (of_decide_eq_true (by kernel_rfl)) k0 bel lt0) (trodAll_cons_mk (Below.trod laid_out (by kernel_rfl) (of_decide_eq_true (by kernel_rfl)) k1 bel lt1) trodAll_mk0)), rfl, bel.frame _, fun h => by cases h⟩
theorem fnExactOccurrenceIndex_holds : Rows.FnExactOccurrenceIndexSaid :=
  OpenClaim.holds_of_wide 3 Try.f3 rfl rfl rfl rfl rfl rfl rfl ⟨rfl, rfl, rfl, rfl, rfl⟩ rfl rfl rfl rfl rfl (by kernel_rfl) Try.func3 (by kernel_rfl)
    (of_decide_eq_true (by kernel_rfl)) (by unfold Func.isWrapper; first | (rw [if_pos (by decide +kernel)]; kernel_rfl) | (rw [if_neg (by decide +kernel)]; exact ⟨rfl, rfl⟩))
    (fun os started H enc _ => fnExactOccurrenceIndex_lifted os started H enc)
end
end Go.Proofs.Ytaenbhfjiihhnaa
