/- The law FnExactHasPair returns true for all arguments and leaves them as they were; there is no condition. -/
import Derived.Test.YtaenbhfjiihhnaaRows
import Derived.Test.YtaenbhfjiihhnaaEngB
import Derived.Test.YtaenbhfjiihhnaaRel
set_option linter.unusedVariables false
set_option linter.unusedSimpArgs false
set_option linter.ambiguousOpen false
set_option linter.unusedSectionVars false
set_option linter.unusedVariables false
set_option linter.unusedSimpArgs false
set_option maxRecDepth 100000
namespace Go.Proofs.Ytaenbhfjiihhnaa
open Go Go.E
open Go.E.Rep (rd)
open Go.E.Sep (own)
theorem ag3 : aggT Try.prog 3 = some false := by kernel_rfl
theorem ag34 : aggT Try.prog 34 = some false := by kernel_rfl
theorem ag36 : aggT Try.prog 36 = some true := by kernel_rfl
theorem ag39 : aggT Try.prog 39 = some true := by kernel_rfl
theorem sz3 : szT Try.prog 3 = some 1 := by kernel_rfl
theorem sz34 : szT Try.prog 34 = some 1 := by kernel_rfl
theorem sz36 : szT Try.prog 36 = some 2 := by kernel_rfl
theorem sz39 : szT Try.prog 39 = some 2 := by kernel_rfl
theorem by3 : byT Try.prog 3 = some 8 := by kernel_rfl
theorem ze3 : zeroT Try.prog 3 = some [.int .i64 0] := by kernel_rfl
theorem ze39 : zeroT Try.prog 39 = some [.int .i64 0, .slice none 0 0] := by kernel_rfl
theorem el34 : elemT Try.prog 34 = some 3 := by kernel_rfl
theorem it83 : intT Try.prog 83 = some .u64 := by kernel_rfl
theorem fo36_0 : fieldT Try.prog 36 0 = some 0 := by kernel_rfl
theorem fo36_1 : fieldT Try.prog 36 1 = some 1 := by kernel_rfl
theorem fo39_0 : fieldT Try.prog 39 0 = some 0 := by kernel_rfl
theorem fo39_1 : fieldT Try.prog 39 1 = some 1 := by kernel_rfl
theorem ok22 : callable Try.prog 22 = true := by kernel_rfl
theorem ok23 : callable Try.prog 23 = true := by kernel_rfl
theorem ok24 : callable Try.prog 24 = true := by kernel_rfl
theorem ok25 : callable Try.prog 25 = true := by kernel_rfl
theorem ok26 : callable Try.prog 26 = true := by kernel_rfl
theorem ok27 : callable Try.prog 27 = true := by kernel_rfl
theorem ok28 : callable Try.prog 28 = true := by kernel_rfl
theorem ok45 : callable Try.prog 45 = true := by kernel_rfl
theorem ok47 : callable Try.prog 47 = true := by kernel_rfl
theorem ok67 : callable Try.prog 67 = true := by kernel_rfl
theorem ok68 : callable Try.prog 68 = true := by kernel_rfl
theorem ok69 : callable Try.prog 69 = true := by kernel_rfl
theorem ok70 : callable Try.prog 70 = true := by kernel_rfl
theorem ok71 : callable Try.prog 71 = true := by kernel_rfl
theorem ok95 : callable Try.prog 95 = true := by kernel_rfl
theorem hmix : Try.prog.follows .mixedOrders = true := by kernel_rfl
theorem szIntS_spec (w : World) {S : Nat → Prop} (x : List Int) {z : Value} (hx : rdS S w x z) (left : Int) (h0 : 0 ≤ left) (h1 : left ≤ 1048576) :
    Ret Try.prog 67 #[z, .int .i64 left] w (fun _ => False) fun v _ => ∃ r, v = .int .i64 r ∧ (((Sz.szd x : Nat) : Int) ≤ left ∧ r = left - (Sz.szd x : Nat) ∨ left < (Sz.szd x : Nat) ∧ r = -1) := by
  refine enter Try.func67 rfl rfl rfl ?_
  obtain ⟨A1, c1, rfl, hc1, hm1⟩ := hx.form
  have hl1 : x.length ≤ 9223372036854775807 := Nat.le_trans hc1 hm1
  have hsz : Sz.szd x = szL x := rfl
  rw [szL_int] at hsz
  refine CW.seq (CW.reg ?_)
  refine WL.ev rfl rfl (Ev.as rfl rfl) (WL.nil ?_)
  refine CW.seq (CW.reg ?_)
  refine WL.ev rfl rfl (Ev.mv rfl rfl) (WL.ev rfl rfl (Ev.mv rfl rfl) (WL.ev rfl rfl (Ev.lenS rfl el34 rfl) (WL.ev rfl rfl (Ev.bin rfl rfl rfl (Bin.sub (by omega))) (WL.ev rfl rfl (Ev.as rfl rfl) (WL.nil ?_)))))
  refine CW.seq (CW.seq (CW.reg ?_))
  refine WL.ev rfl rfl (Ev.mv rfl rfl) (WL.ev rfl rfl (Ev.bin rfl rfl rfl Bin.lss) (WL.nil ?_))
  refine CW.condD rfl (fun h1 => ?_) (fun h1 => ?_)
  · skip
    refine CW.seq (CW.reg ?_)
    refine WL.ev rfl rfl (Ev.as rfl rfl) (WL.nil ?_)
    refine CW.ret ?_
    refine ⟨_, res1 rfl rfl rfl, (Ext.refl _), _, rfl, ?_⟩
    try simp only [szfold] at *
    first | omega | (right; exact ⟨by omega, by first | rfl | trivial⟩)
  · skip
    refine CW.skip ?_
    refine CW.seq (CW.reg ?_)
    refine WL.ev rfl rfl (Ev.mv rfl rfl) (WL.ev rfl rfl (Ev.as rfl rfl) (WL.nil ?_))
    refine CW.ret ?_
    refine ⟨_, res1 rfl rfl rfl, (Ext.refl _), _, rfl, ?_⟩
    try simp only [szfold] at *
    first | omega | (right; exact ⟨by omega, by first | rfl | trivial⟩)

theorem szRelation_spec (w : World) {S : Nat → Prop} (x : Relation) {cs : List Value} (hx : rd S w x cs) (left : Int) (h0 : 0 ≤ left) (h1 : left ≤ 1048576) :
    Ret Try.prog 22 #[.agg cs.toArray, .int .i64 left] w (fun _ => False) fun v _ => ∃ r, v = .int .i64 r ∧ (((Sz.szd x : Nat) : Int) ≤ left ∧ r = left - (Sz.szd x : Nat) ∨ left < (Sz.szd x : Nat) ∧ r = -1) := by
  refine enter Try.func22 rfl rfl rfl ?_
  have hK1 := hx
  obtain ⟨v1, rfl, hr1, hs1⟩ := hx
  obtain ⟨A1, c1, rfl, hc1, hm1⟩ := hs1.form
  have hsz := Relation_szd x
  refine CW.seq (CW.reg ?_)
  refine WL.box rfl rfl rfl rfl rfl fun b1 w1 hEb1 hbb1 hBb1 => ?_
  refine WL.ev rfl rfl (Ev.as rfl rfl) (WL.nil ?_)
  refine CW.seq (CW.reg ?_)
  refine WL.ev rfl rfl (Ev.fa rfl fo36_1 rfl) (WL.ev rfl rfl (Ev.ld rfl ag34 rfl (hBb1.cell rfl)) (WL.ev rfl rfl (Ev.mv rfl rfl) ?_))
  refine WL.call rfl rfl rfl rfl rfl ok67 rfl (szIntS_spec _ x.Rows (hs1.ext hEb1) _ (by omega) (by omega)) ?_
  rintro _ w2 hEw2 ⟨r1, rfl, hr2⟩
  have hq1 := szfold x.Rows
  refine WL.ev rfl rfl (Ev.as rfl rfl) (WL.nil ?_)
  refine CW.seq (CW.seq (CW.reg ?_))
  refine WL.ev rfl rfl (Ev.mv rfl rfl) (WL.ev rfl rfl (Ev.bin rfl rfl rfl Bin.lss) (WL.nil ?_))
  refine CW.condD rfl (fun h1 => ?_) (fun h1 => ?_)
  · skip
    refine CW.seq (CW.reg ?_)
    refine WL.ev rfl rfl (Ev.as rfl rfl) (WL.nil ?_)
    refine CW.ret ?_
    refine ⟨_, res1 rfl rfl rfl, (hEb1.trans hEw2), _, rfl, ?_⟩
    try simp only [szfold] at *
    first | omega | (right; exact ⟨by omega, by first | rfl | trivial⟩)
  · skip
    refine CW.skip ?_
    refine CW.seq (CW.reg ?_)
    refine WL.ev rfl rfl (Ev.mv rfl rfl) (WL.ev rfl rfl (Ev.as rfl rfl) (WL.nil ?_))
    refine CW.ret ?_
    refine ⟨_, res1 rfl rfl rfl, (hEb1.trans hEw2), _, rfl, ?_⟩
    try simp only [szfold] at *
    first | omega | (right; exact ⟨by omega, by first | rfl | trivial⟩)

theorem toIntS_spec (w : World) {S : Nat → Prop} (x : List Int) {z : Value} (hx : rdS S w x z) (hlen : szL x ≤ 1048576) :
    Ret Try.prog 45 #[z] w (fun _ => False) fun v w' => NewS w w' x v := by
  refine enter Try.func45 rfl rfl rfl ?_
  obtain ⟨A1, c1, rfl, hc1, hm1⟩ := hx.form
  have hl1 : x.length ≤ 9223372036854775807 := Nat.le_trans hc1 hm1
  have hln := szL_length x
  refine CW.seq (CW.reg ?_)
  refine WL.ev rfl rfl (Ev.as rfl rfl) (WL.nil ?_)
  refine CW.seq (CW.reg ?_)
  refine WL.ev rfl rfl (Ev.mv rfl rfl) (WL.ev rfl rfl (Ev.lenS rfl el34 rfl) ?_)
  refine WL.mk rfl rfl rfl el34 sz3 by3 ze3 rfl rfl rfl (by omega) (by omega) fun g w1 hE1 hg hBg => ?_
  refine WL.ev rfl rfl (Ev.as rfl rfl) (WL.nil ?_)
  refine CW.seq (CW.seq (CW.reg ?_))
  refine WL.ev rfl rfl (Ev.as rfl rfl) (WL.nil ?_)
  refine CW.block (CW.loop (α := Nat × List Value × List Nat) (fun q => [(0, .slice A1 x.length c1), (3, .slice (some ⟨g, 0, none⟩) x.length x.length), (4, .int .i64 (q.1 : Int))]) (fun q wr => Ext w wr ∧ ToInv wr g 3 [.int .i64 0] x q.1 q.2.1 q.2.2) (fun q => x.length - q.1) (0, [], []) ⟨rfl, rfl, rfl, trivial⟩ ⟨hE1, ToInv.init hBg⟩ ?_)
  rintro ⟨k, cs, L⟩ σ wr1 ⟨hEwr1, hI⟩
  simp only at hI
  have hk := hI.le
  refine CW.seq (CW.seq (CW.reg ?_))
  refine WL.ev rfl rfl (Ev.mv rfl rfl) (WL.ev rfl rfl (Ev.mv rfl rfl) (WL.ev rfl rfl (Ev.lenS rfl el34 rfl) (WL.ev rfl rfl (Ev.bin rfl rfl rfl Bin.lss) (WL.nil ?_))))
  refine CW.condD rfl (fun h1 => ?_) (fun h1 => ?_)
  · skip
    refine CW.skip ?_
    refine CW.seq (CW.block (CW.reg ?_))
    refine WL.ev rfl rfl (Ev.mv rfl rfl) (WL.ev rfl rfl (Ev.mv rfl rfl) (WL.ev rfl rfl (Ev.mv rfl rfl) (WL.ev rfl rfl (Ev.mv rfl rfl) ?_)))
    obtain ⟨xe1, be1, oe1, cse1, hxe1, hAe1, hSe1, hre1, hAte1⟩ := rdS.el (hx.ext hEwr1) (i := k) (by omega)
    have hK1 := hre1
    obtain ⟨rfl, hr1⟩ := hre1
    refine WL.ev rfl rfl (Ev.ixA rfl el34 sz3 rfl hAe1 rfl (by omega)) (WL.ev rfl rfl (Ev.ld rfl ag3 rfl (hAte1.cell0 rfl)) (WL.ev rfl rfl (Ev.ix rfl el34 sz3 rfl rfl (by omega)) ?_))
    refine WL.stTo rfl rfl rfl sz3 rfl rfl rfl hI hxe1 (New.int hr1) List.nodup_nil (by simp) rfl fun w1 hCw1 hI2 => ?_
    have hX1 := Ext.chg1 hEwr1 hCw1 (by have := hE1.size; omega)
    refine WL.nil ?_
    refine CW.reg ?_
    refine WL.ev rfl rfl (Ev.mv rfl rfl) (WL.ev rfl rfl (Ev.bin rfl rfl rfl (Bin.add (by omega))) (WL.ev rfl rfl (Ev.as rfl rfl) (WL.nil ?_)))
    exact ⟨(k + 1, _, _), ⟨rfl, rfl, rfl, trivial⟩, ⟨hX1, hI2⟩, by simp only; omega⟩
  · skip
    refine CW.exit ?_
    refine CW.seq (CW.reg ?_)
    refine WL.ev rfl rfl (Ev.mv rfl rfl) (WL.ev rfl rfl (Ev.as rfl rfl) (WL.nil ?_))
    refine CW.ret ?_
    exact ⟨_, res1 rfl rfl rfl, hEwr1, hI.new (by omega) (by unfold maxLen; omega) hg⟩

theorem toRelation_spec (w : World) {S : Nat → Prop} (x : Relation) {cs : List Value} (hx : rd S w x cs) (hlen : Sz.szd x ≤ 1048576) :
    Ret Try.prog 24 #[.agg cs.toArray] w (fun _ => False) fun v w' => ∃ cs, v = .agg cs.toArray ∧ New w w' x cs := by
  refine enter Try.func24 rfl rfl rfl ?_
  have hK1 := hx
  obtain ⟨v1, rfl, hr1, hs1⟩ := hx
  obtain ⟨A1, c1, rfl, hc1, hm1⟩ := hs1.form
  rw [Relation_szd] at hlen
  refine CW.seq (CW.reg ?_)
  refine WL.box rfl rfl rfl rfl rfl fun b1 w1 hEb1 hbb1 hBb1 => ?_
  refine WL.alloc rfl rfl rfl ze39 fun b2 w2 hEb2 hbb2 hBb2 => ?_
  refine WL.nil ?_
  refine CW.seq (CW.reg ?_)
  refine WL.alloc rfl rfl rfl ze39 fun b3 w3 hEb3 hbb3 hBb3 => ?_
  refine WL.nil ?_
  refine CW.seq (CW.reg ?_)
  refine WL.ev rfl rfl (Ev.fa rfl fo36_0 rfl) (WL.ev rfl rfl (Ev.ld rfl ag3 rfl ((hBb1.ext (hEb2.trans hEb3)).cell rfl)) (WL.ev rfl rfl (Ev.fa rfl fo39_0 rfl) ?_))
  refine WL.st rfl rfl rfl sz3 rfl rfl rfl rfl (all1 rfl all0) hBb3 (Nat.le_of_ble_eq_true rfl) fun w4 hCw4 hB_1 => ?_
  have hz1 := hBb3.lt
  have hB_2 := Blk.chg1 (hBb1.ext (hEb2.trans hEb3)) hCw4 (by have := hBb1.lt; have := hbb3; have := hEb2.size; omega)
  have hB_3 := Blk.chg1 (hBb2.ext hEb3) hCw4 (by have := hBb2.lt; have := hbb3; omega)
  have hX1 := Ext.chg1 ((hEb1.trans hEb2).trans hEb3) hCw4 (by have := hbb3; have := hEb1.size; have := hEb2.size; omega)
  refine WL.nil ?_
  refine CW.seq (CW.reg ?_)
  refine WL.ev rfl rfl (Ev.fa rfl fo36_1 rfl) (WL.ev rfl rfl (Ev.ld rfl ag34 rfl (hB_2.cell rfl)) ?_)
  refine WL.call rfl rfl rfl rfl rfl ok45 rfl (toIntS_spec _ x.Rows (hs1.ext hX1) (by omega)) ?_
  rintro v2 w5 hEw5 ⟨L1, hO1, hN1, hF1⟩
  obtain ⟨A2, c2, rfl, hc2, hm2⟩ := hO1.form
  refine WL.ev rfl rfl (Ev.fa rfl fo39_1 rfl) ?_
  refine WL.st rfl rfl rfl sz34 rfl rfl rfl rfl (all1 rfl all0) (hB_1.ext hEw5) (Nat.le_of_ble_eq_true rfl) fun w6 hCw6 hB_4 => ?_
  have hz2 := (hB_1.ext hEw5).lt
  have hB_5 := Blk.chg1 (hB_2.ext hEw5) hCw6 (by have := hBb1.lt; have := hbb3; have := hEb2.size; omega)
  have hB_6 := Blk.chg1 (hB_3.ext hEw5) hCw6 (by have := hBb2.lt; have := hbb3; omega)
  have hO_1 := ownS.chg1 hO1 hCw6 (fun q hq e => by subst e; have := hF1 _ hq; have := hBb3.lt; have := hCw4.size; omega)
  have hX2 := Ext.chg1 (hX1.trans hEw5) hCw6 (by have := hbb3; have := hEb1.size; have := hEb2.size; omega)
  refine WL.nil ?_
  refine CW.seq (CW.reg ?_)
  refine WL.ev rfl rfl (Ev.lda rfl ag39 sz39 rfl (At.blk hB_4) rfl) ?_
  refine WL.st rfl rfl rfl sz39 rfl rfl rfl rfl (all1 rfl (all1 rfl all0)) hB_6 (Nat.le_of_ble_eq_true rfl) fun w7 hCw7 hB_7 => ?_
  have hz3 := hB_6.lt
  have hB_8 := Blk.chg1 hB_5 hCw7 (by have := hBb1.lt; have := hbb2; omega)
  have hB_9 := Blk.chg1 hB_4 hCw7 (by have := hBb2.lt; have := hbb3; omega)
  have hO_2 := ownS.chg1 hO_1 hCw7 (fun q hq e => by subst e; have := hF1 _ hq; have := hBb2.lt; have := hEb3.size; have := hCw4.size; omega)
  have hX3 := Ext.chg1 hX2 hCw7 (by have := hbb2; have := hEb1.size; omega)
  refine WL.nil ?_
  refine CW.ret ?_
  exact ⟨_, resC rfl ag39 sz39 rfl rfl (At.blk hB_7) rfl, hX3, _, rfl, _, ⟨_, _, rfl, by first | assumption | omega, rfl, hO_2⟩, hN1, fun q hq => by first | (have := hF1 _ hq; have := hEb1.size; have := hEb2.size; have := hEb3.size; have := hCw4.size; omega)⟩

theorem l1In_spec (w : World) (x : Int) (hx : I64 x) (lo : Int) (hlo : I64 lo) (hi : Int) (hhi : I64 hi) :
    Ret Try.prog 68 #[.int .i64 x, .int .i64 lo, .int .i64 hi] w (fun _ => False) fun v w' => v = .bool (decide (lo ≤ x ∧ x ≤ hi)) := by
  refine enter Try.func68 rfl rfl rfl ?_
  refine CW.seq (CW.reg ?_)
  refine WL.ev rfl rfl (Ev.as rfl rfl) (WL.nil ?_)
  refine CW.seq (CW.reg ?_)
  refine WL.ev rfl rfl (Ev.mv rfl rfl) (WL.ev rfl rfl (Ev.mv rfl rfl) (WL.ev rfl rfl (Ev.bin rfl rfl rfl Bin.geq) ?_))
  refine WL.mvD rfl rfl rfl rfl (fun h1 => ?_) (fun h1 => ?_)
  · skip
    refine WL.on rfl rfl (WL.ev rfl rfl (Ev.mv rfl rfl) (WL.on rfl rfl (WL.ev rfl rfl (Ev.mv rfl rfl) (WL.on rfl rfl (WL.ev rfl rfl (Ev.bin rfl rfl rfl Bin.leq) (WL.ev rfl rfl (Ev.pickT rfl rfl rfl) (WL.ev rfl rfl (Ev.as rfl rfl) (WL.nil ?_))))))))
    refine CW.ret ?_
    exact ⟨_, res1 rfl rfl rfl, (Ext.refl _), bD (by omega)⟩
  · skip
    refine WL.off rfl rfl rfl (WL.off rfl rfl rfl (WL.off rfl rfl rfl (WL.ev rfl rfl (Ev.pickF rfl rfl rfl) (WL.ev rfl rfl (Ev.as rfl rfl) (WL.nil ?_)))))
    refine CW.ret ?_
    exact ⟨_, res1 rfl rfl rfl, (Ext.refl _), bF (by omega)⟩

theorem sIsValidRelation_spec (w : World) {S1 : Nat → Prop} (r : Relation) {cr : List Value} (hr : rd S1 w r cr) :
    Ret Try.prog 23 #[.agg cr.toArray] w (fun _ => False) fun v w' => v = .bool (decide (Valid r)) := by
  refine enter Try.func23 rfl rfl rfl ?_
  have hK1 := hr
  obtain ⟨v1, rfl, hr1, hs1⟩ := hr
  obtain ⟨A1, c1, rfl, hc1, hm1⟩ := hs1.form
  refine CW.seq (CW.reg ?_)
  refine WL.box rfl rfl rfl rfl rfl fun b1 w1 hEb1 hbb1 hBb1 => ?_
  refine WL.ev rfl rfl (Ev.as rfl rfl) (WL.nil ?_)
  refine CW.seq (CW.seq (CW.reg ?_))
  refine WL.ev rfl rfl (Ev.fa rfl fo39_0 rfl) (WL.ev rfl rfl (Ev.ld rfl ag3 rfl (hBb1.cell rfl)) ?_)
  refine WL.call rfl rfl rfl rfl rfl ok68 rfl (l1In_spec _ _ (by constructor <;> omega) _ (by constructor <;> omega) _ (by constructor <;> omega)) ?_
  rintro _ w2 hEw2 rfl
  refine WL.ev rfl rfl (Ev.not rfl rfl) ?_
  refine WL.mvN rfl rfl rfl rfl (fun h1 => ?_) (fun h1 => ?_)
  · skip
    refine WL.off rfl rfl rfl (WL.off rfl rfl rfl (WL.off rfl rfl rfl (WL.off rfl rfl rfl (WL.off rfl rfl rfl (WL.off rfl rfl rfl (WL.ev rfl rfl (Ev.pickT rfl rfl rfl) (WL.nil ?_)))))))
    refine CW.condT rfl ?_
    refine CW.seq (CW.reg ?_)
    refine WL.ev rfl rfl (Ev.as rfl rfl) (WL.nil ?_)
    refine CW.ret ?_
    exact ⟨_, res1 rfl rfl rfl, (hEb1.trans hEw2), bF (fun hv => by have := hv.1; have := hv.2.1; have := hv.2.2.1; omega)⟩
  · skip
    refine WL.on rfl rfl (WL.ev rfl rfl (Ev.fa rfl fo39_1 rfl) (WL.on rfl rfl (WL.ev rfl rfl (Ev.ld rfl ag34 rfl ((hBb1.ext hEw2).cell rfl)) (WL.on rfl rfl (WL.ev rfl rfl (Ev.lenS rfl el34 rfl) (WL.on rfl rfl (WL.ev rfl rfl (Ev.fa rfl fo39_0 rfl) (WL.on rfl rfl (WL.ev rfl rfl (Ev.ld rfl ag3 rfl ((hBb1.ext hEw2).cell rfl)) (WL.on rfl rfl (WL.ev rfl rfl (Ev.bin rfl rfl rfl Bin.neq) (WL.ev rfl rfl (Ev.pickF rfl rfl rfl) (WL.nil ?_)))))))))))))
    refine CW.condN rfl (fun h2 => ?_) (fun h2 => ?_)
    · skip
      refine CW.seq (CW.reg ?_)
      refine WL.ev rfl rfl (Ev.as rfl rfl) (WL.nil ?_)
      refine CW.ret ?_
      exact ⟨_, res1 rfl rfl rfl, (hEb1.trans hEw2), bF (fun hv => by have := hv.1; have := hv.2.1; have := hv.2.2.1; omega)⟩
    · skip
      refine CW.skip ?_
      refine CW.seq (CW.seq (CW.reg ?_))
      refine WL.ev rfl rfl (Ev.as rfl rfl) (WL.nil ?_)
      refine CW.block (CW.loop (α := Nat) (fun q => [(1, .pointer (some ⟨b1, 0, none⟩)), (3, .int .i64 (q : Int))]) (fun q wr => Ext w2 wr ∧ q ≤ r.Rows.length ∧ ∀ x ∈ r.Rows.take q, 0 ≤ x ∧ x ≤ ((2 ^ r.N.toNat : Nat) : Int) - 1) (fun q => r.Rows.length - q) 0 ⟨rfl, rfl, trivial⟩ ⟨Ext.refl _, by omega, by simp⟩ ?_)
      rintro k σ wr1 ⟨hEwr1, hk, hpre⟩
      have hpw := pow16 (n := r.N) (by omega)
      have hpp := pow_pos' r.N
      refine CW.seq (CW.seq (CW.reg ?_))
      refine WL.ev rfl rfl (Ev.mv rfl rfl) (WL.ev rfl rfl (Ev.fa rfl fo39_0 rfl) (WL.ev rfl rfl (Ev.ld rfl ag3 rfl ((hBb1.ext (hEw2.trans hEwr1)).cell rfl)) (WL.ev rfl rfl (Ev.bin rfl rfl rfl Bin.lss) (WL.nil ?_))))
      refine CW.condD rfl (fun h3 => ?_) (fun h3 => ?_)
      · skip
        refine CW.skip ?_
        refine CW.seq (CW.block (CW.seq (CW.quiet hmix (by kernel_rfl) ?_)))
        refine QL.ev rfl rfl (fun _ _ => Ev.fa rfl fo39_1 rfl) (QL.ev rfl rfl (fun _ hq => Ev.ld rfl ag34 rfl ((hBb1.ext ((hEw2.trans hEwr1).trans hq)).cell rfl)) (QL.ev rfl rfl (fun _ _ => Ev.mv rfl rfl) ?_))
        obtain ⟨xe1, be1, oe1, cse1, hxe1, hAe1, hSe1, hre1, hAte1⟩ := rdS.el (hs1.ext ((hEb1.trans hEw2).trans hEwr1)) (i := k) (by omega)
        have hK2 := hre1
        obtain ⟨rfl, hr2⟩ := hre1
        refine QL.ev rfl rfl (fun _ _ => Ev.ixA rfl el34 sz3 rfl hAe1 rfl (by omega)) (QL.ev rfl rfl (fun _ hq => Ev.ld rfl ag3 rfl ((hAte1.ext hq).cell0 rfl)) (QL.ev rfl rfl (fun _ _ => Ev.fa rfl fo39_0 rfl) (QL.ev rfl rfl (fun _ hq => Ev.ld rfl ag3 rfl ((hBb1.ext ((hEw2.trans hEwr1).trans hq)).cell rfl)) (QL.ev rfl rfl (fun _ _ => Ev.convUI rfl Try.underlying3 it83 rfl (by omega) (by omega)) (QL.ev rfl rfl (fun _ _ => Ev.bin rfl rfl rfl (Bin.shlI (by omega) (by omega))) ?_)))))
        have hbd1 := shl_bd r.N (by omega)
        refine QL.ev rfl rfl (fun _ _ => Ev.bin rfl rfl rfl (Bin.sub (by omega))) (QL.call rfl rfl rfl rfl rfl ok68 rfl (fun _ hq => l1In_spec _ _ (by constructor <;> omega) _ (by constructor <;> omega) _ (by constructor <;> omega)) (QL.ev rfl rfl (fun _ _ => Ev.not rfl rfl) (QL.nil (fun w3 hEw3 => ?_))))
        refine CW.condN rfl (fun h4 => ?_) (fun h4 => ?_)
        · skip
          refine CW.seq (CW.reg ?_)
          refine WL.ev rfl rfl (Ev.as rfl rfl) (WL.nil ?_)
          refine CW.ret ?_
          exact ⟨_, res1 rfl rfl rfl, (((hEb1.trans hEw2).trans hEwr1).trans hEw3), bF (fun hv => h4 (hv.2.2.2 _ (List.mem_of_getElem? hxe1)))⟩
        · skip
          refine CW.skip ?_
          refine CW.reg ?_
          refine WL.ev rfl rfl (Ev.mv rfl rfl) (WL.ev rfl rfl (Ev.bin rfl rfl rfl (Bin.add (by omega))) (WL.ev rfl rfl (Ev.as rfl rfl) (WL.nil ?_)))
          refine ⟨k + 1, ⟨rfl, rfl, trivial⟩, ⟨(hEwr1.trans hEw3), by omega, ?_⟩, by omega⟩
          rw [take_snoc hxe1]
          intro y hy
          rcases List.mem_append.1 hy with hy | hy
          · exact hpre y hy
          · simp at hy; subst hy; exact h4
      · skip
        refine CW.exit ?_
        refine CW.seq (CW.reg ?_)
        refine WL.ev rfl rfl (Ev.as rfl rfl) (WL.nil ?_)
        refine CW.ret ?_
        refine ⟨_, res1 rfl rfl rfl, ((hEb1.trans hEw2).trans hEwr1), bT ⟨by omega, by omega, by omega, ?_⟩⟩
        rwa [List.take_of_length_le (by omega)] at hpre

theorem sHasPair_spec (w : World) {S1 : Nat → Prop} (r : Relation) {cr : List Value} (hr : rd S1 w r cr) (i : Int) (hi : I64 i) (k : Int) (hk : I64 k) :
    Ret Try.prog 27 #[.agg cr.toArray, .int .i64 i, .int .i64 k] w (fun _ => False) fun v w' => v = .bool (decide (hasP r i k)) := by
  refine enter Try.func27 rfl rfl rfl ?_
  have hK1 := hr
  obtain ⟨v1, rfl, hr1, hs1⟩ := hr
  obtain ⟨A1, c1, rfl, hc1, hm1⟩ := hs1.form
  refine CW.seq (CW.reg ?_)
  refine WL.box rfl rfl rfl rfl rfl fun b1 w1 hEb1 hbb1 hBb1 => ?_
  refine WL.ev rfl rfl (Ev.as rfl rfl) (WL.nil ?_)
  refine CW.seq (CW.reg ?_)
  refine WL.ev rfl rfl (Ev.lda rfl ag39 sz39 rfl (At.blk hBb1) rfl) ?_
  refine WL.call rfl rfl rfl rfl rfl ok23 rfl (sIsValidRelation_spec _ r (rd_ext hK1 hEb1)) ?_
  rintro _ w2 hEw2 rfl
  refine WL.mvD rfl rfl rfl rfl (fun h1 => ?_) (fun h1 => ?_)
  · skip
    have hv1 := h1.1
    have hv2 := h1.2.1
    have hv3 := h1.2.2.1
    refine WL.on rfl rfl (WL.ev rfl rfl (Ev.mv rfl rfl) (WL.on rfl rfl (WL.ev rfl rfl (Ev.fa rfl fo39_0 rfl) (WL.on rfl rfl (WL.ev rfl rfl (Ev.ld rfl ag3 rfl ((hBb1.ext hEw2).cell rfl)) (WL.on rfl rfl (WL.ev rfl rfl (Ev.bin rfl rfl rfl (Bin.sub (by omega))) (WL.on rfl rfl ?_))))))))
    refine WL.call rfl rfl rfl rfl rfl ok68 rfl (l1In_spec _ _ (by constructor <;> omega) _ (by constructor <;> omega) _ (by constructor <;> omega)) ?_
    rintro _ w3 hEw3 rfl
    refine WL.ev rfl rfl (Ev.pickT rfl rfl rfl) ?_
    refine WL.mvD rfl rfl rfl rfl (fun h2 => ?_) (fun h2 => ?_)
    · skip
      refine WL.on rfl rfl (WL.ev rfl rfl (Ev.mv rfl rfl) (WL.on rfl rfl (WL.ev rfl rfl (Ev.fa rfl fo39_0 rfl) (WL.on rfl rfl (WL.ev rfl rfl (Ev.ld rfl ag3 rfl ((hBb1.ext (hEw2.trans hEw3)).cell rfl)) (WL.on rfl rfl (WL.ev rfl rfl (Ev.bin rfl rfl rfl (Bin.sub (by omega))) (WL.on rfl rfl ?_))))))))
      refine WL.call rfl rfl rfl rfl rfl ok68 rfl (l1In_spec _ _ (by constructor <;> omega) _ (by constructor <;> omega) _ (by constructor <;> omega)) ?_
      rintro _ w4 hEw4 rfl
      refine WL.ev rfl rfl (Ev.pickT rfl rfl rfl) ?_
      refine WL.mvD rfl rfl rfl rfl (fun h3 => ?_) (fun h3 => ?_)
      · skip
        refine WL.on rfl rfl (WL.ev rfl rfl (Ev.fa rfl fo39_1 rfl) (WL.on rfl rfl (WL.ev rfl rfl (Ev.ld rfl ag34 rfl ((hBb1.ext ((hEw2.trans hEw3).trans hEw4)).cell rfl)) (WL.on rfl rfl (WL.ev rfl rfl (Ev.mv rfl rfl) (WL.on rfl rfl ?_))))))
        obtain ⟨xe1, be1, oe1, cse1, hxe1, hAe1, hSe1, hre1, hAte1⟩ := rdS.el (hs1.ext (((hEb1.trans hEw2).trans hEw3).trans hEw4)) (i := i.toNat) (by omega)
        have hK2 := hre1
        obtain ⟨rfl, hr2⟩ := hre1
        have hrow := h1.row (i := i) h2 hxe1
        refine WL.ev rfl rfl (Ev.ixAI rfl el34 sz3 rfl hAe1 rfl (by omega) (by omega)) (WL.on rfl rfl (WL.ev rfl rfl (Ev.ld rfl ag3 rfl (hAte1.cell0 rfl)) (WL.on rfl rfl (WL.ev rfl rfl (Ev.mv rfl rfl) (WL.on rfl rfl (WL.ev rfl rfl (Ev.convUI rfl Try.underlying3 it83 rfl (by omega) (by omega)) (WL.on rfl rfl (WL.ev rfl rfl (Ev.bin rfl rfl rfl (Bin.shrI (by omega) (by omega) (by omega))) (WL.on rfl rfl ?_)))))))))
        have hbd1 := shr_bd xe1 k
        refine WL.ev rfl rfl (Ev.bin rfl rfl rfl (Bin.andI (by omega) (by omega) (by omega) (by omega))) (WL.on rfl rfl (WL.ev rfl rfl (Ev.bin rfl rfl rfl Bin.eql) (WL.ev rfl rfl (Ev.pickT rfl rfl rfl) (WL.ev rfl rfl (Ev.as rfl rfl) (WL.nil ?_)))))
        refine CW.ret ?_
        refine ⟨_, res1 rfl rfl rfl, (((hEb1.trans hEw2).trans hEw3).trans hEw4), bD ⟨fun hb => ⟨h1, h2, h3, ?_⟩, fun hb => ?_⟩⟩
        · unfold bit; rw [hrow.1]; exact bit_of hb
        · have := hb.2.2.2; unfold bit at this; rw [hrow.1] at this; exact of_bit this
      · skip
        refine WL.off rfl rfl rfl (WL.off rfl rfl rfl (WL.off rfl rfl rfl (WL.off rfl rfl rfl (WL.off rfl rfl rfl (WL.off rfl rfl rfl (WL.off rfl rfl rfl (WL.off rfl rfl rfl (WL.off rfl rfl rfl (WL.off rfl rfl rfl (WL.ev rfl rfl (Ev.pickF rfl rfl rfl) (WL.ev rfl rfl (Ev.as rfl rfl) (WL.nil ?_))))))))))))
        refine CW.ret ?_
        exact ⟨_, res1 rfl rfl rfl, (((hEb1.trans hEw2).trans hEw3).trans hEw4), bF (fun hb => h3 hb.2.2.1)⟩
    · skip
      refine WL.off rfl rfl rfl (WL.off rfl rfl rfl (WL.off rfl rfl rfl (WL.off rfl rfl rfl (WL.off rfl rfl rfl (WL.ev rfl rfl (Ev.pickF rfl rfl rfl) (WL.ev rfl rfl (Ev.mv rfl rfl) (WL.off rfl rfl rfl (WL.off rfl rfl rfl (WL.off rfl rfl rfl (WL.off rfl rfl rfl (WL.off rfl rfl rfl (WL.off rfl rfl rfl (WL.off rfl rfl rfl (WL.off rfl rfl rfl (WL.off rfl rfl rfl (WL.off rfl rfl rfl (WL.ev rfl rfl (Ev.pickF rfl rfl rfl) (WL.ev rfl rfl (Ev.as rfl rfl) (WL.nil ?_)))))))))))))))))))
      refine CW.ret ?_
      exact ⟨_, res1 rfl rfl rfl, ((hEb1.trans hEw2).trans hEw3), bF (fun hb => h2 hb.2.1)⟩
  · skip
    refine WL.off rfl rfl rfl (WL.off rfl rfl rfl (WL.off rfl rfl rfl (WL.off rfl rfl rfl (WL.off rfl rfl rfl (WL.ev rfl rfl (Ev.pickF rfl rfl rfl) (WL.ev rfl rfl (Ev.mv rfl rfl) (WL.off rfl rfl rfl (WL.off rfl rfl rfl (WL.off rfl rfl rfl (WL.off rfl rfl rfl (WL.off rfl rfl rfl (WL.ev rfl rfl (Ev.pickF rfl rfl rfl) (WL.ev rfl rfl (Ev.mv rfl rfl) (WL.off rfl rfl rfl (WL.off rfl rfl rfl (WL.off rfl rfl rfl (WL.off rfl rfl rfl (WL.off rfl rfl rfl (WL.off rfl rfl rfl (WL.off rfl rfl rfl (WL.off rfl rfl rfl (WL.off rfl rfl rfl (WL.off rfl rfl rfl (WL.ev rfl rfl (Ev.pickF rfl rfl rfl) (WL.ev rfl rfl (Ev.as rfl rfl) (WL.nil ?_))))))))))))))))))))))))))
    refine CW.ret ?_
    exact ⟨_, res1 rfl rfl rfl, (hEb1.trans hEw2), bF (fun hb => h1 hb.1)⟩

theorem IndexFuncInt_spec (w : World) {S : Nat → Prop} (l : List Int) {zl : Value} (hl : rdS S w l zl) {f : FuncId} {caps : Array Value} {p : Int → Bool} (hok : callable Try.prog f = true) (hf : ∀ w2, Ext w w2 → ∀ x, x ∈ l → Ret Try.prog f ([Value.int .i64 x] ++ caps.toList).toArray w2 (fun _ => False) fun v _ => v = .bool (p x)) :
    Ret Try.prog 95 #[zl, .func (.func f) #[] caps] w (fun _ => False) fun v w' => v = .int .i64 (ixP l p) := by
  refine enter Try.func95 rfl rfl rfl ?_
  obtain ⟨A1, c1, rfl, hc1, hm1⟩ := hl.form
  have hl1 : l.length ≤ 9223372036854775807 := Nat.le_trans hc1 hm1
  refine CW.seq (CW.reg ?_)
  refine WL.ev rfl rfl (Ev.as rfl rfl) (WL.nil ?_)
  refine CW.seq (CW.seq (CW.reg ?_))
  refine WL.ev rfl rfl (Ev.mv rfl rfl) (WL.ev rfl rfl (Ev.lenS rfl el34 rfl) (WL.ev rfl rfl (Ev.mv rfl rfl) (WL.nil ?_)))
  refine CW.block (CW.loop (α := Nat) (fun q => [(0, .slice A1 l.length c1), (1, .func (.func f) #[] caps), (7, .int .i64 (l.length : Int)), (8, .int .i64 (q : Int))]) (fun q wr => Ext w wr ∧ q ≤ l.length ∧ ∀ x ∈ l.take q, p x = false) (fun q => l.length - q) 0 ⟨rfl, rfl, rfl, rfl, trivial⟩ ⟨Ext.refl _, by omega, by simp⟩ ?_)
  rintro k σ wr1 ⟨hEwr1, hk, hpre⟩
  refine CW.seq (CW.reg ?_)
  refine WL.ev rfl rfl (Ev.bin rfl rfl rfl Bin.lss) (WL.nil ?_)
  refine CW.seq (CW.condD rfl (fun h1 => ?_) (fun h1 => ?_))
  · skip
    refine CW.skip ?_
    refine CW.seq (CW.block (CW.seq (CW.reg ?_)))
    refine WL.ev rfl rfl (Ev.mv rfl rfl) (WL.ev rfl rfl (Ev.as rfl rfl) (WL.nil ?_))
    refine CW.seq (CW.reg ?_)
    refine WL.ev rfl rfl (Ev.mv rfl rfl) (WL.ev rfl rfl (Ev.mv rfl rfl) (WL.ev rfl rfl (Ev.mv rfl rfl) ?_))
    obtain ⟨xe1, be1, oe1, cse1, hxe1, hAe1, hSe1, hre1, hAte1⟩ := rdS.el (hl.ext hEwr1) (i := k) (by omega)
    have hK1 := hre1
    obtain ⟨rfl, hr1⟩ := hre1
    refine WL.ev rfl rfl (Ev.ixA rfl el34 sz3 rfl hAe1 rfl (by omega)) (WL.ev rfl rfl (Ev.ld rfl ag3 rfl (hAte1.cell0 rfl)) ?_)
    refine WL.call rfl rfl rfl rfl rfl hok rfl (hf _ hEwr1 _ (List.mem_of_getElem? hxe1)) ?_
    rintro _ w1 hEw1 rfl
    refine WL.nil ?_
    refine CW.cond rfl (fun h2 => ?_) (fun h2 => ?_)
    · skip
      refine CW.seq (CW.reg ?_)
      refine WL.ev rfl rfl (Ev.mv rfl rfl) (WL.ev rfl rfl (Ev.as rfl rfl) (WL.nil ?_))
      refine CW.ret ?_
      exact ⟨_, res1 rfl rfl rfl, (hEwr1.trans hEw1), vI (ixP_found hpre hxe1 h2).symm⟩
    · skip
      refine CW.skip ?_
      refine CW.reg ?_
      refine WL.ev rfl rfl (Ev.bin rfl rfl rfl (Bin.add (by omega))) (WL.ev rfl rfl (Ev.mv rfl rfl) (WL.nil ?_))
      exact ⟨k + 1, ⟨rfl, rfl, rfl, rfl, trivial⟩, ⟨(hEwr1.trans hEw1), by omega, ixP_step hpre hxe1 h2⟩, by omega⟩
  · skip
    refine CW.exit ?_
    refine CW.seq (CW.reg ?_)
    refine WL.ev rfl rfl (Ev.as rfl rfl) (WL.nil ?_)
    refine CW.ret ?_
    exact ⟨_, res1 rfl rfl rfl, hEwr1, vI (ixP_none hpre (by omega)).symm⟩

theorem ContainsFuncInt_spec (w : World) {S : Nat → Prop} (l : List Int) {zl : Value} (hl : rdS S w l zl) {f : FuncId} {caps : Array Value} {p : Int → Bool} (hok : callable Try.prog f = true) (hf : ∀ w2, Ext w w2 → ∀ x, x ∈ l → Ret Try.prog f ([Value.int .i64 x] ++ caps.toList).toArray w2 (fun _ => False) fun v _ => v = .bool (p x)) :
    Ret Try.prog 70 #[zl, .func (.func f) #[] caps] w (fun _ => False) fun v w' => v = .bool (l.any p) := by
  refine enter Try.func70 rfl rfl rfl ?_
  obtain ⟨A1, c1, rfl, hc1, hm1⟩ := hl.form
  have hl1 : l.length ≤ 9223372036854775807 := Nat.le_trans hc1 hm1
  refine CW.seq (CW.reg ?_)
  refine WL.ev rfl rfl (Ev.as rfl rfl) (WL.nil ?_)
  refine CW.seq (CW.reg ?_)
  refine WL.ev rfl rfl (Ev.mv rfl rfl) (WL.ev rfl rfl (Ev.mv rfl rfl) ?_)
  refine WL.call rfl rfl rfl rfl rfl ok95 rfl (IndexFuncInt_spec _ l hl hok hf) ?_
  rintro _ w1 hEw1 rfl
  refine WL.ev rfl rfl (Ev.bin rfl rfl rfl Bin.geq) (WL.ev rfl rfl (Ev.as rfl rfl) (WL.nil ?_))
  refine CW.ret ?_
  refine ⟨_, res1 rfl rfl rfl, hEw1, ?_⟩
  exact congrArg Value.bool ixP_nonneg

theorem within_spec (w : World) (x : Int) (hx : I64 x) (lo : Int) (hlo : I64 lo) (hi : Int) (hhi : I64 hi) :
    Ret Try.prog 69 #[.int .i64 x, .int .i64 lo, .int .i64 hi] w (fun _ => False) fun v w' => v = .bool (decide (lo ≤ x ∧ x ≤ hi)) := by
  refine enter Try.func69 rfl rfl rfl ?_
  refine CW.seq (CW.reg ?_)
  refine WL.ev rfl rfl (Ev.as rfl rfl) (WL.nil ?_)
  refine CW.seq (CW.reg ?_)
  refine WL.ev rfl rfl (Ev.mv rfl rfl) (WL.ev rfl rfl (Ev.mv rfl rfl) (WL.ev rfl rfl (Ev.bin rfl rfl rfl Bin.geq) ?_))
  refine WL.mvD rfl rfl rfl rfl (fun h1 => ?_) (fun h1 => ?_)
  · skip
    refine WL.on rfl rfl (WL.ev rfl rfl (Ev.mv rfl rfl) (WL.on rfl rfl (WL.ev rfl rfl (Ev.mv rfl rfl) (WL.on rfl rfl (WL.ev rfl rfl (Ev.bin rfl rfl rfl Bin.leq) (WL.ev rfl rfl (Ev.pickT rfl rfl rfl) (WL.ev rfl rfl (Ev.as rfl rfl) (WL.nil ?_))))))))
    refine CW.ret ?_
    exact ⟨_, res1 rfl rfl rfl, (Ext.refl _), bD (by omega)⟩
  · skip
    refine WL.off rfl rfl rfl (WL.off rfl rfl rfl (WL.off rfl rfl rfl (WL.ev rfl rfl (Ev.pickF rfl rfl rfl) (WL.ev rfl rfl (Ev.as rfl rfl) (WL.nil ?_)))))
    refine CW.ret ?_
    exact ⟨_, res1 rfl rfl rfl, (Ext.refl _), bF (by omega)⟩

theorem IsValid1_spec (w : World) (x : Int) (hx : I64 x) {b : Nat} {r : Relation} {z : Value} (h0 : 0 ≤ r.N) (h1 : r.N ≤ 16) (hB : Blk w b 39 [.int .i64 r.N, z]) :
    Ret Try.prog 71 #[.int .i64 x, .pointer (some ⟨b, 0, none⟩)] w (fun _ => False) fun v w' => v = .bool (!decide (0 ≤ x ∧ x ≤ ((2 ^ r.N.toNat : Nat) : Int) - 1)) := by
  refine enter Try.func71 rfl rfl rfl ?_
  have hpw := pow16 (n := r.N) (by omega)
  have hpp := pow_pos' r.N
  refine CW.seq (CW.reg ?_)
  refine WL.ev rfl rfl (Ev.as rfl rfl) (WL.nil ?_)
  refine CW.seq (CW.reg ?_)
  refine WL.ev rfl rfl (Ev.mv rfl rfl) (WL.ev rfl rfl (Ev.fa rfl fo39_0 rfl) (WL.ev rfl rfl (Ev.ld rfl ag3 rfl (hB.cell rfl)) (WL.ev rfl rfl (Ev.convUI rfl Try.underlying3 it83 rfl (by omega) (by omega)) (WL.ev rfl rfl (Ev.bin rfl rfl rfl (Bin.shlI (by omega) (by omega))) ?_))))
  have hbd1 := shl_bd r.N (by omega)
  refine WL.ev rfl rfl (Ev.bin rfl rfl rfl (Bin.sub (by omega))) ?_
  refine WL.call rfl rfl rfl rfl rfl ok69 rfl (within_spec _ _ (by constructor <;> omega) _ (by constructor <;> omega) _ (by constructor <;> omega)) ?_
  rintro _ w1 hEw1 rfl
  refine WL.ev rfl rfl (Ev.not rfl rfl) (WL.ev rfl rfl (Ev.as rfl rfl) (WL.nil ?_))
  refine CW.ret ?_
  exact ⟨_, res1 rfl rfl rfl, hEw1, rfl⟩

theorem iIsValidRelation_spec (w : World) {S1 : Nat → Prop} (r : Relation) {cr : List Value} (hr : rd S1 w r cr) :
    Ret Try.prog 25 #[.agg cr.toArray] w (fun _ => False) fun v w' => v = .bool (decide (Valid r)) := by
  refine enter Try.func25 rfl rfl rfl ?_
  have hK1 := hr
  obtain ⟨v1, rfl, hr1, hs1⟩ := hr
  obtain ⟨A1, c1, rfl, hc1, hm1⟩ := hs1.form
  refine CW.seq (CW.reg ?_)
  refine WL.box rfl rfl rfl rfl rfl fun b1 w1 hEb1 hbb1 hBb1 => ?_
  refine WL.ev rfl rfl (Ev.as rfl rfl) (WL.nil ?_)
  refine CW.seq (CW.reg ?_)
  refine WL.ev rfl rfl (Ev.fa rfl fo39_0 rfl) (WL.ev rfl rfl (Ev.ld rfl ag3 rfl (hBb1.cell rfl)) ?_)
  refine WL.call rfl rfl rfl rfl rfl ok69 rfl (within_spec _ _ (by constructor <;> omega) _ (by constructor <;> omega) _ (by constructor <;> omega)) ?_
  rintro _ w2 hEw2 rfl
  refine WL.mvD rfl rfl rfl rfl (fun h1 => ?_) (fun h1 => ?_)
  · skip
    refine WL.on rfl rfl (WL.ev rfl rfl (Ev.fa rfl fo39_1 rfl) (WL.on rfl rfl (WL.ev rfl rfl (Ev.ld rfl ag34 rfl ((hBb1.ext hEw2).cell rfl)) (WL.on rfl rfl (WL.ev rfl rfl (Ev.lenS rfl el34 rfl) (WL.on rfl rfl (WL.ev rfl rfl (Ev.fa rfl fo39_0 rfl) (WL.on rfl rfl (WL.ev rfl rfl (Ev.ld rfl ag3 rfl ((hBb1.ext hEw2).cell rfl)) (WL.on rfl rfl (WL.ev rfl rfl (Ev.bin rfl rfl rfl Bin.eql) (WL.ev rfl rfl (Ev.pickT rfl rfl rfl) ?_))))))))))))
    refine WL.mvD rfl rfl rfl rfl (fun h2 => ?_) (fun h2 => ?_)
    · skip
      refine WL.on rfl rfl (WL.ev rfl rfl (Ev.fa rfl fo39_1 rfl) (WL.on rfl rfl (WL.ev rfl rfl (Ev.ld rfl ag34 rfl ((hBb1.ext hEw2).cell rfl)) (WL.on rfl rfl (WL.ev rfl rfl (Ev.mkfL rfl rfl rfl) (WL.on rfl rfl ?_))))))
      have hrng := rdS_i64 (hs1.ext (hEb1.trans hEw2))
      refine WL.call rfl rfl rfl rfl rfl ok70 rfl (ContainsFuncInt_spec (f := 71) (caps := #[.pointer (some ⟨b1, 0, none⟩)]) _ r.Rows (hs1.ext (hEb1.trans hEw2)) ok71 (fun w2 hx x hm => IsValid1_spec w2 x (hrng x hm) (r := r) (by omega) (by omega) ((hBb1.ext hEw2).ext hx))) ?_
      rintro _ w3 hEw3 rfl
      refine WL.on rfl rfl (WL.ev rfl rfl (Ev.not rfl rfl) (WL.ev rfl rfl (Ev.pickT rfl rfl rfl) (WL.ev rfl rfl (Ev.as rfl rfl) (WL.nil ?_))))
      refine CW.ret ?_
      refine ⟨_, res1 rfl rfl rfl, ((hEb1.trans hEw2).trans hEw3), congrArg Value.bool ?_⟩
      rw [valid_any (by omega) (by omega) (by omega)]
    · skip
      refine WL.off rfl rfl rfl (WL.off rfl rfl rfl (WL.off rfl rfl rfl (WL.off rfl rfl rfl (WL.off rfl rfl rfl (WL.ev rfl rfl (Ev.pickF rfl rfl rfl) (WL.ev rfl rfl (Ev.as rfl rfl) (WL.nil ?_)))))))
      refine CW.ret ?_
      exact ⟨_, res1 rfl rfl rfl, (hEb1.trans hEw2), bF (fun hv => by have := hv.1; have := hv.2.1; have := hv.2.2.1; omega)⟩
  · skip
    refine WL.off rfl rfl rfl (WL.off rfl rfl rfl (WL.off rfl rfl rfl (WL.off rfl rfl rfl (WL.off rfl rfl rfl (WL.off rfl rfl rfl (WL.ev rfl rfl (Ev.pickF rfl rfl rfl) (WL.ev rfl rfl (Ev.mv rfl rfl) (WL.off rfl rfl rfl (WL.off rfl rfl rfl (WL.off rfl rfl rfl (WL.off rfl rfl rfl (WL.off rfl rfl rfl (WL.ev rfl rfl (Ev.pickF rfl rfl rfl) (WL.ev rfl rfl (Ev.as rfl rfl) (WL.nil ?_)))))))))))))))
    refine CW.ret ?_
    exact ⟨_, res1 rfl rfl rfl, (hEb1.trans hEw2), bF (fun hv => by have := hv.1; have := hv.2.1; have := hv.2.2.1; omega)⟩

theorem iHasPair_spec (w : World) {S1 : Nat → Prop} (r : Relation) {cr : List Value} (hr : rd S1 w r cr) (i : Int) (hi : I64 i) (k : Int) (hk : I64 k) :
    Ret Try.prog 28 #[.agg cr.toArray, .int .i64 i, .int .i64 k] w (fun _ => False) fun v w' => v = .bool (decide (hasP r i k)) := by
  refine enter Try.func28 rfl rfl rfl ?_
  have hK1 := hr
  obtain ⟨v1, rfl, hr1, hs1⟩ := hr
  obtain ⟨A1, c1, rfl, hc1, hm1⟩ := hs1.form
  refine CW.seq (CW.reg ?_)
  refine WL.box rfl rfl rfl rfl rfl fun b1 w1 hEb1 hbb1 hBb1 => ?_
  refine WL.ev rfl rfl (Ev.as rfl rfl) (WL.nil ?_)
  refine CW.seq (CW.reg ?_)
  refine WL.ev rfl rfl (Ev.lda rfl ag39 sz39 rfl (At.blk hBb1) rfl) ?_
  refine WL.call rfl rfl rfl rfl rfl ok25 rfl (iIsValidRelation_spec _ r (rd_ext hK1 hEb1)) ?_
  rintro _ w2 hEw2 rfl
  refine WL.mvD rfl rfl rfl rfl (fun h1 => ?_) (fun h1 => ?_)
  · skip
    have hv1 := h1.1
    have hv2 := h1.2.1
    have hv3 := h1.2.2.1
    refine WL.on rfl rfl (WL.ev rfl rfl (Ev.mv rfl rfl) (WL.on rfl rfl (WL.ev rfl rfl (Ev.fa rfl fo39_0 rfl) (WL.on rfl rfl (WL.ev rfl rfl (Ev.ld rfl ag3 rfl ((hBb1.ext hEw2).cell rfl)) (WL.on rfl rfl (WL.ev rfl rfl (Ev.bin rfl rfl rfl (Bin.sub (by omega))) (WL.on rfl rfl ?_))))))))
    refine WL.call rfl rfl rfl rfl rfl ok69 rfl (within_spec _ _ (by constructor <;> omega) _ (by constructor <;> omega) _ (by constructor <;> omega)) ?_
    rintro _ w3 hEw3 rfl
    refine WL.ev rfl rfl (Ev.pickT rfl rfl rfl) ?_
    refine WL.mvD rfl rfl rfl rfl (fun h2 => ?_) (fun h2 => ?_)
    · skip
      refine WL.on rfl rfl (WL.ev rfl rfl (Ev.mv rfl rfl) (WL.on rfl rfl (WL.ev rfl rfl (Ev.fa rfl fo39_0 rfl) (WL.on rfl rfl (WL.ev rfl rfl (Ev.ld rfl ag3 rfl ((hBb1.ext (hEw2.trans hEw3)).cell rfl)) (WL.on rfl rfl (WL.ev rfl rfl (Ev.bin rfl rfl rfl (Bin.sub (by omega))) (WL.on rfl rfl ?_))))))))
      refine WL.call rfl rfl rfl rfl rfl ok69 rfl (within_spec _ _ (by constructor <;> omega) _ (by constructor <;> omega) _ (by constructor <;> omega)) ?_
      rintro _ w4 hEw4 rfl
      refine WL.ev rfl rfl (Ev.pickT rfl rfl rfl) ?_
      refine WL.mvD rfl rfl rfl rfl (fun h3 => ?_) (fun h3 => ?_)
      · skip
        refine WL.on rfl rfl (WL.ev rfl rfl (Ev.fa rfl fo39_1 rfl) (WL.on rfl rfl (WL.ev rfl rfl (Ev.ld rfl ag34 rfl ((hBb1.ext ((hEw2.trans hEw3).trans hEw4)).cell rfl)) (WL.on rfl rfl (WL.ev rfl rfl (Ev.mv rfl rfl) (WL.on rfl rfl ?_))))))
        obtain ⟨xe1, be1, oe1, cse1, hxe1, hAe1, hSe1, hre1, hAte1⟩ := rdS.el (hs1.ext (((hEb1.trans hEw2).trans hEw3).trans hEw4)) (i := i.toNat) (by omega)
        have hK2 := hre1
        obtain ⟨rfl, hr2⟩ := hre1
        have hrow := h1.row (i := i) h2 hxe1
        refine WL.ev rfl rfl (Ev.ixAI rfl el34 sz3 rfl hAe1 rfl (by omega) (by omega)) (WL.on rfl rfl (WL.ev rfl rfl (Ev.ld rfl ag3 rfl (hAte1.cell0 rfl)) (WL.on rfl rfl (WL.ev rfl rfl (Ev.mv rfl rfl) (WL.on rfl rfl (WL.ev rfl rfl (Ev.convUI rfl Try.underlying3 it83 rfl (by omega) (by omega)) (WL.on rfl rfl (WL.ev rfl rfl (Ev.bin rfl rfl rfl (Bin.shrI (by omega) (by omega) (by omega))) (WL.on rfl rfl ?_)))))))))
        have hbd1 := shr_bd xe1 k
        refine WL.ev rfl rfl (Ev.bin rfl rfl rfl (Bin.andI (by omega) (by omega) (by omega) (by omega))) (WL.on rfl rfl (WL.ev rfl rfl (Ev.bin rfl rfl rfl Bin.eql) (WL.ev rfl rfl (Ev.pickT rfl rfl rfl) (WL.ev rfl rfl (Ev.as rfl rfl) (WL.nil ?_)))))
        refine CW.ret ?_
        refine ⟨_, res1 rfl rfl rfl, (((hEb1.trans hEw2).trans hEw3).trans hEw4), bD ⟨fun hb => ⟨h1, h2, h3, ?_⟩, fun hb => ?_⟩⟩
        · unfold bit; rw [hrow.1]; exact bit_of hb
        · have := hb.2.2.2; unfold bit at this; rw [hrow.1] at this; exact of_bit this
      · skip
        refine WL.off rfl rfl rfl (WL.off rfl rfl rfl (WL.off rfl rfl rfl (WL.off rfl rfl rfl (WL.off rfl rfl rfl (WL.off rfl rfl rfl (WL.off rfl rfl rfl (WL.off rfl rfl rfl (WL.off rfl rfl rfl (WL.off rfl rfl rfl (WL.ev rfl rfl (Ev.pickF rfl rfl rfl) (WL.ev rfl rfl (Ev.as rfl rfl) (WL.nil ?_))))))))))))
        refine CW.ret ?_
        exact ⟨_, res1 rfl rfl rfl, (((hEb1.trans hEw2).trans hEw3).trans hEw4), bF (fun hb => h3 hb.2.2.1)⟩
    · skip
      refine WL.off rfl rfl rfl (WL.off rfl rfl rfl (WL.off rfl rfl rfl (WL.off rfl rfl rfl (WL.off rfl rfl rfl (WL.ev rfl rfl (Ev.pickF rfl rfl rfl) (WL.ev rfl rfl (Ev.mv rfl rfl) (WL.off rfl rfl rfl (WL.off rfl rfl rfl (WL.off rfl rfl rfl (WL.off rfl rfl rfl (WL.off rfl rfl rfl (WL.off rfl rfl rfl (WL.off rfl rfl rfl (WL.off rfl rfl rfl (WL.off rfl rfl rfl (WL.off rfl rfl rfl (WL.ev rfl rfl (Ev.pickF rfl rfl rfl) (WL.ev rfl rfl (Ev.as rfl rfl) (WL.nil ?_)))))))))))))))))))
      refine CW.ret ?_
      exact ⟨_, res1 rfl rfl rfl, ((hEb1.trans hEw2).trans hEw3), bF (fun hb => h2 hb.2.1)⟩
  · skip
    refine WL.off rfl rfl rfl (WL.off rfl rfl rfl (WL.off rfl rfl rfl (WL.off rfl rfl rfl (WL.off rfl rfl rfl (WL.ev rfl rfl (Ev.pickF rfl rfl rfl) (WL.ev rfl rfl (Ev.mv rfl rfl) (WL.off rfl rfl rfl (WL.off rfl rfl rfl (WL.off rfl rfl rfl (WL.off rfl rfl rfl (WL.off rfl rfl rfl (WL.ev rfl rfl (Ev.pickF rfl rfl rfl) (WL.ev rfl rfl (Ev.mv rfl rfl) (WL.off rfl rfl rfl (WL.off rfl rfl rfl (WL.off rfl rfl rfl (WL.off rfl rfl rfl (WL.off rfl rfl rfl (WL.off rfl rfl rfl (WL.off rfl rfl rfl (WL.off rfl rfl rfl (WL.off rfl rfl rfl (WL.off rfl rfl rfl (WL.ev rfl rfl (Ev.pickF rfl rfl rfl) (WL.ev rfl rfl (Ev.as rfl rfl) (WL.nil ?_))))))))))))))))))))))))))
    refine CW.ret ?_
    exact ⟨_, res1 rfl rfl rfl, (hEb1.trans hEw2), bF (fun hb => h1 hb.1)⟩

theorem eqIntS_spec (w : World) {S S2 : Nat → Prop} (x y : List Int) {z z2 : Value} (hx : rdS S w x z) (hy : rdS S2 w y z2) :
    Ret Try.prog 47 #[z, z2] w (fun _ => False) fun v _ => v = .bool (decide (x = y)) := by
  refine enter Try.func47 rfl rfl rfl ?_
  obtain ⟨A1, c1, rfl, hc1, hm1⟩ := hx.form
  have hl1 : x.length ≤ 9223372036854775807 := Nat.le_trans hc1 hm1
  obtain ⟨A2, c2, rfl, hc2, hm2⟩ := hy.form
  have hl2 : y.length ≤ 9223372036854775807 := Nat.le_trans hc2 hm2
  refine CW.seq (CW.reg ?_)
  refine WL.ev rfl rfl (Ev.as rfl rfl) (WL.nil ?_)
  refine CW.seq (CW.seq (CW.reg ?_))
  refine WL.ev rfl rfl (Ev.mv rfl rfl) (WL.ev rfl rfl (Ev.lenS rfl el34 rfl) (WL.ev rfl rfl (Ev.mv rfl rfl) (WL.ev rfl rfl (Ev.lenS rfl el34 rfl) (WL.ev rfl rfl (Ev.bin rfl rfl rfl Bin.neq) (WL.nil ?_)))))
  refine CW.condN rfl (fun h1 => ?_) (fun h1 => ?_)
  · skip
    refine CW.seq (CW.reg ?_)
    refine WL.ev rfl rfl (Ev.as rfl rfl) (WL.nil ?_)
    refine CW.ret ?_
    have e : x ≠ y := fun e => h1 (by rw [e])
    exact ⟨_, res1 rfl rfl rfl, (Ext.refl _), vB (by simp [e])⟩
  · skip
    refine CW.skip ?_
    refine CW.seq (CW.seq (CW.reg ?_))
    refine WL.ev rfl rfl (Ev.as rfl rfl) (WL.nil ?_)
    refine CW.block (CW.loop (α := Nat) (fun q => [(0, .slice A1 x.length c1), (1, .slice A2 y.length c2), (5, .int .i64 (q : Int))]) (fun q wr => Ext w wr ∧ q ≤ x.length ∧ x.take q = y.take q) (fun q => x.length - q) 0 ⟨rfl, rfl, rfl, trivial⟩ ⟨Ext.refl _, by omega, rfl⟩ ?_)
    rintro k σ wr1 ⟨hEwr1, hk, hpre⟩
    refine CW.seq (CW.seq (CW.reg ?_))
    refine WL.ev rfl rfl (Ev.mv rfl rfl) (WL.ev rfl rfl (Ev.mv rfl rfl) (WL.ev rfl rfl (Ev.lenS rfl el34 rfl) (WL.ev rfl rfl (Ev.bin rfl rfl rfl Bin.lss) (WL.nil ?_))))
    refine CW.condD rfl (fun h2 => ?_) (fun h2 => ?_)
    · skip
      refine CW.skip ?_
      refine CW.seq (CW.block (CW.seq (CW.quiet hmix (by kernel_rfl) ?_)))
      refine QL.ev rfl rfl (fun _ _ => Ev.mv rfl rfl) (QL.ev rfl rfl (fun _ _ => Ev.mv rfl rfl) ?_)
      obtain ⟨xe1, be1, oe1, cse1, hxe1, hAe1, hSe1, hre1, hAte1⟩ := rdS.el (hx.ext hEwr1) (i := k) (by omega)
      have hK1 := hre1
      obtain ⟨rfl, hr1⟩ := hre1
      refine QL.ev rfl rfl (fun _ _ => Ev.ixA rfl el34 sz3 rfl hAe1 rfl (by omega)) (QL.ev rfl rfl (fun _ hq => Ev.ld rfl ag3 rfl ((hAte1.ext hq).cell0 rfl)) (QL.ev rfl rfl (fun _ _ => Ev.mv rfl rfl) (QL.ev rfl rfl (fun _ _ => Ev.mv rfl rfl) ?_)))
      obtain ⟨xe2, be2, oe2, cse2, hxe2, hAe2, hSe2, hre2, hAte2⟩ := rdS.el (hy.ext hEwr1) (i := k) (by omega)
      have hK2 := hre2
      obtain ⟨rfl, hr2⟩ := hre2
      refine QL.ev rfl rfl (fun _ _ => Ev.ixA rfl el34 sz3 rfl hAe2 rfl (by omega)) (QL.ev rfl rfl (fun _ hq => Ev.ld rfl ag3 rfl ((hAte2.ext hq).cell0 rfl)) (QL.ev rfl rfl (fun _ _ => Ev.bin rfl rfl rfl Bin.neq) (QL.nil (fun w1 hEw1 => ?_))))
      refine CW.condN rfl (fun h3 => ?_) (fun h3 => ?_)
      · skip
        refine CW.seq (CW.reg ?_)
        refine WL.ev rfl rfl (Ev.as rfl rfl) (WL.nil ?_)
        refine CW.ret ?_
        have e : x ≠ y := ne_of_at hxe1 hxe2 h3
        exact ⟨_, res1 rfl rfl rfl, (hEwr1.trans hEw1), vB (by simp [e])⟩
      · skip
        refine CW.skip ?_
        refine CW.reg ?_
        refine WL.ev rfl rfl (Ev.mv rfl rfl) (WL.ev rfl rfl (Ev.bin rfl rfl rfl (Bin.add (by omega))) (WL.ev rfl rfl (Ev.as rfl rfl) (WL.nil ?_)))
        exact ⟨k + 1, ⟨rfl, rfl, rfl, trivial⟩, ⟨(hEwr1.trans hEw1), by omega, take_succ_eq hpre hxe1 hxe2 h3⟩, by omega⟩
    · skip
      refine CW.exit ?_
      refine CW.seq (CW.reg ?_)
      refine WL.ev rfl rfl (Ev.as rfl rfl) (WL.nil ?_)
      refine CW.ret ?_
      have e : x = y := eq_of_take (by omega) (by omega) hpre
      exact ⟨_, res1 rfl rfl rfl, hEwr1, vB (by simp [e])⟩

theorem eqRelation_spec (w : World) {S S2 : Nat → Prop} (x y : Relation) {cs ds : List Value} (hx : rd S w x cs) (hy : rd S2 w y ds) :
    Ret Try.prog 26 #[.agg cs.toArray, .agg ds.toArray] w (fun _ => False) fun v _ => v = .bool (decide (x = y)) := by
  refine enter Try.func26 rfl rfl rfl ?_
  have hK1 := hx
  obtain ⟨v1, rfl, hr1, hs1⟩ := hx
  obtain ⟨A1, c1, rfl, hc1, hm1⟩ := hs1.form
  have hK2 := hy
  obtain ⟨v2, rfl, hr2, hs2⟩ := hy
  obtain ⟨A2, c2, rfl, hc2, hm2⟩ := hs2.form
  refine CW.seq (CW.reg ?_)
  refine WL.box rfl rfl rfl rfl rfl fun b1 w1 hEb1 hbb1 hBb1 => ?_
  refine WL.box rfl rfl rfl rfl rfl fun b2 w2 hEb2 hbb2 hBb2 => ?_
  refine WL.ev rfl rfl (Ev.as rfl rfl) (WL.nil ?_)
  refine CW.seq (CW.seq (CW.reg ?_))
  refine WL.ev rfl rfl (Ev.fa rfl fo39_0 rfl) (WL.ev rfl rfl (Ev.ld rfl ag3 rfl ((hBb1.ext hEb2).cell rfl)) (WL.ev rfl rfl (Ev.fa rfl fo39_0 rfl) (WL.ev rfl rfl (Ev.ld rfl ag3 rfl (hBb2.cell rfl)) (WL.ev rfl rfl (Ev.bin rfl rfl rfl Bin.neq) (WL.nil ?_)))))
  refine CW.condN rfl (fun h1 => ?_) (fun h1 => ?_)
  · skip
    refine CW.seq (CW.reg ?_)
    refine WL.ev rfl rfl (Ev.as rfl rfl) (WL.nil ?_)
    refine CW.ret ?_
    have e : x ≠ y := by rintro rfl; exact h1 rfl
    exact ⟨_, res1 rfl rfl rfl, (hEb1.trans hEb2), vB (by simp [e])⟩
  · skip
    refine CW.skip ?_
    refine CW.seq (CW.seq (CW.reg ?_))
    refine WL.ev rfl rfl (Ev.fa rfl fo39_1 rfl) (WL.ev rfl rfl (Ev.ld rfl ag34 rfl ((hBb1.ext hEb2).cell rfl)) (WL.ev rfl rfl (Ev.fa rfl fo39_1 rfl) (WL.ev rfl rfl (Ev.ld rfl ag34 rfl (hBb2.cell rfl)) ?_)))
    refine WL.call rfl rfl rfl rfl rfl ok47 rfl (eqIntS_spec _ x.Rows y.Rows (hs1.ext (hEb1.trans hEb2)) (hs2.ext (hEb1.trans hEb2))) ?_
    rintro _ w3 hEw3 rfl
    refine WL.ev rfl rfl (Ev.not rfl rfl) (WL.nil ?_)
    refine CW.condN rfl (fun h2 => ?_) (fun h2 => ?_)
    · skip
      refine CW.seq (CW.reg ?_)
      refine WL.ev rfl rfl (Ev.as rfl rfl) (WL.nil ?_)
      refine CW.ret ?_
      have e : x ≠ y := by rintro rfl; exact h2 rfl
      exact ⟨_, res1 rfl rfl rfl, ((hEb1.trans hEb2).trans hEw3), vB (by simp [e])⟩
    · skip
      refine CW.skip ?_
      refine CW.seq (CW.reg ?_)
      refine WL.ev rfl rfl (Ev.as rfl rfl) (WL.nil ?_)
      refine CW.ret ?_
      have e : x = y := by cases x; cases y; simp_all
      exact ⟨_, res1 rfl rfl rfl, ((hEb1.trans hEb2).trans hEw3), vB (by simp [e])⟩

theorem FnExactHasPair_law (w : World) {Sr : Nat → Prop} (r : Relation) {cr : List Value} (hr : rd Sr w r cr) (i : Int) (hi : I64 i) (k : Int) (hk : I64 k) :
    Ret Try.prog 5 #[.agg cr.toArray, .int .i64 i, .int .i64 k] w (fun _ => False) fun v _ => v = .bool true := by
  refine enter Try.func5 rfl rfl rfl ?_
  have hK1 := hr
  obtain ⟨v1, rfl, hr1, hs1⟩ := hr
  obtain ⟨A1, c1, rfl, hc1, hm1⟩ := hs1.form
  have qr := Relation_szd r
  refine CW.seq (CW.reg ?_)
  refine WL.box rfl rfl rfl rfl rfl fun b1 w1 hEb1 hbb1 hBb1 => ?_
  refine WL.ev rfl rfl (Ev.as rfl rfl) (WL.nil ?_)
  refine CW.seq (CW.reg ?_)
  refine WL.ev rfl rfl (Ev.as rfl rfl) (WL.nil ?_)
  refine CW.seq (CW.reg ?_)
  refine WL.ev rfl rfl (Ev.lda rfl ag36 sz36 rfl (At.blk hBb1) rfl) (WL.ev rfl rfl (Ev.mv rfl rfl) ?_)
  refine WL.call rfl rfl rfl rfl rfl ok22 rfl (szRelation_spec _ r (rd_ext hK1 hEb1) _ (by omega) (by omega)) ?_
  rintro _ w2 hEw2 ⟨r1, rfl, hr2⟩
  have hq1 := Relation_szd r
  refine WL.ev rfl rfl (Ev.as rfl rfl) (WL.nil ?_)
  refine CW.seq (CW.seq (CW.reg ?_))
  refine WL.ev rfl rfl (Ev.mv rfl rfl) (WL.ev rfl rfl (Ev.bin rfl rfl rfl Bin.lss) (WL.nil ?_))
  refine CW.condD rfl (fun h1 => ?_) (fun h1 => ?_)
  · skip
    refine CW.seq (CW.reg ?_)
    refine WL.ev rfl rfl (Ev.as rfl rfl) (WL.nil ?_)
    refine CW.ret ?_
    exact ⟨_, res1 rfl rfl rfl, (hEb1.trans hEw2), rfl⟩
  · skip
    refine CW.skip ?_
    refine CW.seq (CW.reg ?_)
    refine WL.ev rfl rfl (Ev.lda rfl ag36 sz36 rfl (At.blk (hBb1.ext hEw2)) rfl) ?_
    refine WL.call rfl rfl rfl rfl rfl ok24 rfl (toRelation_spec _ r (rd_ext hK1 (hEb1.trans hEw2)) (by omega)) ?_
    rintro _ w3 hEw3 ⟨cs1, rfl, L1, hO1, hN1, hF1⟩
    refine WL.ev rfl rfl (Ev.mv rfl rfl) (WL.ev rfl rfl (Ev.mv rfl rfl) ?_)
    refine WL.call rfl rfl rfl rfl rfl ok27 rfl (sHasPair_spec _ r (Sep.own_rd hO1) i (by constructor <;> omega) k (by constructor <;> omega)) ?_
    rintro _ w4 hEw4 rfl
    refine WL.ev rfl rfl (Ev.as rfl rfl) (WL.nil ?_)
    refine CW.seq (CW.reg ?_)
    refine WL.ev rfl rfl (Ev.lda rfl ag36 sz36 rfl (At.blk (hBb1.ext ((hEw2.trans hEw3).trans hEw4))) rfl) ?_
    refine WL.call rfl rfl rfl rfl rfl ok24 rfl (toRelation_spec _ r (rd_ext hK1 (((hEb1.trans hEw2).trans hEw3).trans hEw4)) (by omega)) ?_
    rintro _ w5 hEw5 ⟨cs2, rfl, L2, hO2, hN2, hF2⟩
    refine WL.alloc rfl rfl rfl ze39 fun b2 w6 hEb2 hbb2 hBb2 => ?_
    refine WL.stW rfl rfl rfl sz39 rfl rfl rfl (Rep.len (Sep.own_rd (own_ext hO2 hEb2))) (Rep.one (Sep.own_rd (own_ext hO2 hEb2))) hBb2 rfl fun w7 hCw7 hB_1 => ?_
    have hT1 := Blk.chg1 (hBb1.ext ((((hEw2.trans hEw3).trans hEw4).trans hEw5).trans hEb2)) hCw7 (by have := hBb1.lt; have := hbb2; have := hEw2.size; have := hEw3.size; have := hEw4.size; have := hEw5.size; omega)
    have hT2 := own.chg1 (own_ext hO1 ((hEw4.trans hEw5).trans hEb2)) hCw7 (fun q hq e => by subst e; have := Sep.own_lt hO1 _ hq; have := hbb2; have := hEw4.size; have := hEw5.size; omega)
    have hT3 := own.chg1 (own_ext hO2 hEb2) hCw7 (fun q hq e => by subst e; have := Sep.own_lt hO2 _ hq; have := hbb2; omega)
    have hX1 := Ext.chg1 (((((hEb1.trans hEw2).trans hEw3).trans hEw4).trans hEw5).trans hEb2) hCw7 (by have := hbb2; have := hEb1.size; have := hEw2.size; have := hEw3.size; have := hEw4.size; have := hEw5.size; omega)
    refine WL.nil ?_
    refine CW.seq (CW.reg ?_)
    refine WL.ev rfl rfl (Ev.lda rfl ag39 sz39 rfl (At.blk hB_1) (Rep.len (Sep.own_rd hT3))) (WL.ev rfl rfl (Ev.mv rfl rfl) (WL.ev rfl rfl (Ev.mv rfl rfl) ?_))
    refine WL.call rfl rfl rfl rfl rfl ok28 rfl (iHasPair_spec _ r (Sep.own_rd hT3) i (by constructor <;> omega) k (by constructor <;> omega)) ?_
    rintro _ w8 hEw8 rfl
    refine WL.ev rfl rfl (Ev.as rfl rfl) (WL.nil ?_)
    refine CW.seq (CW.seq (CW.reg ?_))
    refine WL.ev rfl rfl (Ev.mv rfl rfl) (WL.ev rfl rfl (Ev.mv rfl rfl) (WL.ev rfl rfl (Ev.bin rfl rfl rfl (Bin.neqSameB Try.underlying4 rfl)) (WL.nil ?_)))
    refine CW.condF rfl ?_
    refine CW.skip ?_
    refine CW.seq (CW.seq (CW.anyE 5 (fun ρ => [.inl (ρ 22), .inl (ρ 0), .inr (fun S v w => ∃ cs : List Value, v = .agg cs.toArray ∧ rd S w (r) cs), .inl (.bool true), .inl (.bool (!true))]) hmix (by kernel_rfl) ⟨trivial, trivial, fun _ _ _ _ ⟨cs, e, h⟩ hE => ⟨cs, e, rd_ext h hE⟩, trivial, trivial, trivial⟩ ?_))
    refine LL.fx rfl rfl rfl (fun _ hq hK => Ev.lda rfl ag39 sz39 rfl (At.blk (hB_1.ext (hEw8.trans hq))) (Rep.len (Sep.own_rd (own_ext hT3 (hEw8.trans hq))))) ?_
    refine LL.fx rfl rfl rfl (fun _ hq hK => Ev.lda rfl ag36 sz36 rfl (At.blk (hT1.ext (hEw8.trans hq))) rfl) ?_
    refine LL.free rfl rfl (fun wq hq hK => ?_) (fun v_1_2 S_1_2 => ?_)
    · skip
      refine OpX.call rfl rfl rfl rfl ok24 rfl (toRelation_spec _ r (rd_ext hK1 ((hX1.trans hEw8).trans hq)) (by omega)) ?_
      rintro v w' hE ⟨cs, rfl, h⟩
      exact ⟨hE, cs, rfl, New.rd h⟩
    refine LL.fixed rfl rfl (fun wq hq hK => ?_) ?_
    · skip
      obtain ⟨cs2, e2, hd2⟩ : ∃ cs : List Value, v_1_2 = .agg cs.toArray ∧ rd S_1_2 wq (r) cs := hK 2 rfl
      subst e2
      refine OpX.call rfl rfl rfl rfl ok26 rfl ((eqRelation_spec _ r r (Sep.own_rd (own_ext hT3 (hEw8.trans hq))) hd2).yes rfl) ?_
      rintro v w' hE rfl
      exact ⟨hE, rfl⟩
    refine LL.fx rfl rfl rfl (fun _ hq hK => Ev.not rfl rfl) ?_
    intro w9 hEw9 hKr1 hap1 hbd1
    have hs_1_2 : ∀ q, S_1_2 q → w8.heap.size ≤ q ∧ q < w9.heap.size := fun q hq => hbd1 2 q hq
    refine WL.nil ?_
    refine CW.condF rfl ?_
    refine CW.skip ?_
    refine CW.seq (CW.reg ?_)
    refine WL.ev rfl rfl (Ev.as rfl rfl) (WL.nil ?_)
    refine CW.ret ?_
    exact ⟨_, res1 rfl rfl rfl, ((hX1.trans hEw8).trans hEw9), rfl⟩

theorem open3 : Opens Try.prog 3 Int := Opens.int (by kernel_rfl) Try.underlying3
theorem open34 : Opens Try.prog 34 (List Int) := Opens.slice (by kernel_rfl) Try.underlying34 open3
theorem open36 : Opens Try.prog 36 Relation := by
  refine Opens.struct (k := 2) (by kernel_rfl) rfl Try.underlying36 fun H enc w base spare held n cs xs hl hx hf => ?_
  obtain ⟨c0, t0, rfl, hl0⟩ := lenS hl
  obtain ⟨c1, t1, rfl, hl1⟩ := lenS hl0
  obtain rfl := len0 hl1
  obtain ⟨a0, r0⟩ := Opens.fld (i := 0) (t := 3) (off := 0) (k := 1) open3 hf hx rfl rfl rfl rfl
  have q0 : rd (fun _ => True) w a0 [c0] := r0
  obtain ⟨e0, h0_0⟩ := q0
  simp only [List.cons.injEq, and_true] at e0
  obtain rfl := e0
  obtain ⟨a1, r1⟩ := Opens.fld (i := 1) (t := 34) (off := 1) (k := 1) open34 hf hx rfl rfl rfl rfl
  have q1 : rd (fun _ => True) w a1 [c1] := r1
  obtain ⟨v1_0, e1, s1_0⟩ := q1
  simp only [List.cons.injEq, and_true] at e1
  obtain rfl := e1
  exact ⟨⟨a0, a1⟩, _, rfl, h0_0, s1_0⟩
section
open Go.ChangeShapes Go.WideShapes Go.ChangeAt Go.RowKit
theorem own_knob : ownKnob Try.prog.godebug = none := by kernel_rfl
theorem laid_out : laidOutB Try.prog = true := by kernel_rfl
set_option maxRecDepth 100000 in
theorem fnExactHasPair_lifted (os : Os) (started : os.Started) (H : Type) (enc : TypeId × Value → H) :
    ReturnsInHanded {} Try.checked os 5 .any (Rows.fnExactHasPairSpec.pre6 enc Try.prog Try.f5 Rows.fnExactHasPairRow.domain false) (Rows.fnExactHasPairSpec.post enc Try.prog Try.f5 false true false false) := by
  refine returnsInHanded_of_change (C := Try.checked) own_knob started (by kernel_rfl) Try.func5
    (ChangeSpec.witness6 (enc := enc) (C := Try.checked) false ⟨#[], #[.agg #[.int .i64 0, .slice none 0 0], .int .i64 0, .int .i64 0], []⟩ 8 (by kernel_rfl) (by kernel_rfl) (by kernel_rfl) (by kernel_rfl)) ?_
  intro W base args ds gs before hval0 hW hcnd _
  have hval : ∀ (j : Nat) t v, Try.f5.params[j]? = some t → args[j]? = some v → Value.okWide Try.prog W .any base t v := hval0
  have hW' := hW
  obtain ⟨p, q, hA0, hV, rfl, hfz, hnd⟩ := hW
  have hA : DataW.TrodAll enc Try.prog W 0 (fun _ => true) true Try.f5.params.toList args.toList ds p := hA0
  rw [Try.params5] at hA hval
  obtain ⟨v0, vs0, d0, ds0, p0, q0, hargs, rfl, rfl, t0, r0⟩ := trodAll_cons hA
  obtain ⟨v1, vs1, d1, ds1, p1, q1, rfl, rfl, rfl, t1, r1⟩ := trodAll_cons r0
  obtain ⟨v2, vs2, d2, ds2, p2, q2, rfl, rfl, rfl, t2, r2⟩ := trodAll_cons r1
  obtain ⟨rfl, rfl, rfl⟩ := trodAll_nil r2
  obtain rfl : args = #[v0, v1, v2] := by cases args; simp_all
  obtain ⟨rfl, rfl⟩ := trodVars_none hV
  have k0 := t0
  have lt0 : ∀ x ∈ p0, x.block < W.heap.size := by obtain ⟨m, hm⟩ := k0; exact DataW.trod_lt m _ _ _ hm
  obtain ⟨m0, hm0⟩ := t0
  obtain ⟨a0, ha0⟩ := open36.2 _ _ _ _ _ _ _ _ _ hm0
  obtain ⟨⟨c0⟩, rfl, _⟩ := okWide_struct Try.underlying36 (hval 0 36 v0 rfl rfl)
  have k1 := t1
  have lt1 : ∀ x ∈ p1, x.block < W.heap.size := by obtain ⟨m, hm⟩ := k1; exact DataW.trod_lt m _ _ _ hm
  obtain ⟨m1, hm1⟩ := t1
  obtain ⟨a1, ha1⟩ := open3.2 _ _ _ _ _ _ _ _ _ hm1
  obtain ⟨y1, rfl⟩ := okWide_int Try.underlying3 (hval 1 3 v1 rfl rfl)
  obtain ⟨e1, ha1⟩ := ha1
  obtain rfl : y1 = a1 := by injection e1 with e; injection e
  have k2 := t2
  have lt2 : ∀ x ∈ p2, x.block < W.heap.size := by obtain ⟨m, hm⟩ := k2; exact DataW.trod_lt m _ _ _ hm
  obtain ⟨m2, hm2⟩ := t2
  obtain ⟨a2, ha2⟩ := open3.2 _ _ _ _ _ _ _ _ _ hm2
  obtain ⟨y2, rfl⟩ := okWide_int Try.underlying3 (hval 2 3 v2 rfl rfl)
  obtain ⟨e2, ha2⟩ := ha2
  obtain rfl : y2 = a2 := by injection e2 with e; injection e
  clear hA0 hval0
  refine Calls.mono (FnExactHasPair_law W a0 ha0 _ ha1 _ ha2) fun e W' ⟨v, he, hch, hv⟩ => ?_
  subst he; subst hv
  have bel := Ext.below hch
  exact ⟨_, rfl, _, _, _, [], _, [], hW', trodAll_mk1 (shut_bool Try.underlying4 _), (trodAll_cons_mk (Below.trod laid_out (by kernel_rfl) (of_decide_eq_true (by kernel_rfl)) k0 bel lt0) (trodAll_cons_mk (Below.trod laid_out (by kernel_rfl) (of_decide_eq_true (by kernel_rfl)) k1 bel lt1) (trodAll_cons_mk (Below.trod laid_out (by kernel_rfl) (of_decide_eq_true (by kernel_rfl)) k2 bel lt2) trodAll_mk0))), rfl, bel.frame _, fun h => by cases h⟩
theorem fnExactHasPair_holds : Rows.FnExactHasPairSaid :=
  OpenClaim.holds_of_wide 5 Try.f5 rfl rfl rfl rfl rfl rfl rfl ⟨rfl, rfl, rfl, rfl, rfl⟩ rfl rfl rfl rfl rfl (by kernel_rfl) Try.func5 (by kernel_rfl)
    (of_decide_eq_true (by kernel_rfl)) (by unfold Func.isWrapper; first | (rw [if_pos (by decide +kernel)]; kernel_rfl) | (rw [if_neg (by decide +kernel)]; exact ⟨rfl, rfl⟩))
    (fun os started H enc _ => fnExactHasPair_lifted os started H enc)
end
end Go.Proofs.Ytaenbhfjiihhnaa
