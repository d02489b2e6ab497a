/- The law FnExactHasLoop returns true for all arguments and leaves them as they were; there is no condition. -/
import Derived.Test.YtaenbhfjiihhnaaRows
import Derived.Test.YtaenbhfjiihhnaaEngB
import Derived.Test.YtaenbhfjiihhnaaRel
set_option linter.unusedVariables false
set_option linter.unusedSimpArgs false
set_option linter.ambiguousOpen false
set_option linter.unusedSectionVars false
set_option linter.unusedVariables false
set_option linter.unusedSimpArgs false
set_option maxRecDepth 100000
namespace Go.Proofs.Ytaenbhfjiihhnaa
open Go Go.E
open Go.E.Rep (rd)
open Go.E.Sep (own)
theorem ag3 : aggT Try.prog 3 = some false := by kernel_rfl
theorem ag34 : aggT Try.prog 34 = some false := by kernel_rfl
theorem ag36 : aggT Try.prog 36 = some true := by kernel_rfl
theorem ag39 : aggT Try.prog 39 = some true := by kernel_rfl
theorem sz3 : szT Try.prog 3 = some 1 := by kernel_rfl
theorem sz34 : szT Try.prog 34 = some 1 := by kernel_rfl
theorem sz36 : szT Try.prog 36 = some 2 := by kernel_rfl
theorem sz39 : szT Try.prog 39 = some 2 := by kernel_rfl
theorem by3 : byT Try.prog 3 = some 8 := by kernel_rfl
theorem ze3 : zeroT Try.prog 3 = some [.int .i64 0] := by kernel_rfl
theorem ze39 : zeroT Try.prog 39 = some [.int .i64 0, .slice none 0 0] := by kernel_rfl
theorem el34 : elemT Try.prog 34 = some 3 := by kernel_rfl
theorem it83 : intT Try.prog 83 = some .u64 := by kernel_rfl
theorem pl39 : placesT Try.prog 39 = some [(0, 1), (1, 1)] := by kernel_rfl
theorem fo36_0 : fieldT Try.prog 36 0 = some 0 := by kernel_rfl
theorem fo36_1 : fieldT Try.prog 36 1 = some 1 := by kernel_rfl
theorem fo39_0 : fieldT Try.prog 39 0 = some 0 := by kernel_rfl
theorem fo39_1 : fieldT Try.prog 39 1 = some 1 := by kernel_rfl
theorem ok22 : callable Try.prog 22 = true := by kernel_rfl
theorem ok23 : callable Try.prog 23 = true := by kernel_rfl
theorem ok24 : callable Try.prog 24 = true := by kernel_rfl
theorem ok25 : callable Try.prog 25 = true := by kernel_rfl
theorem ok26 : callable Try.prog 26 = true := by kernel_rfl
theorem ok27 : callable Try.prog 27 = true := by kernel_rfl
theorem ok28 : callable Try.prog 28 = true := by kernel_rfl
theorem ok40 : callable Try.prog 40 = true := by kernel_rfl
theorem ok41 : callable Try.prog 41 = true := by kernel_rfl
theorem ok42 : callable Try.prog 42 = true := by kernel_rfl
theorem ok43 : callable Try.prog 43 = true := by kernel_rfl
theorem ok45 : callable Try.prog 45 = true := by kernel_rfl
theorem ok47 : callable Try.prog 47 = true := by kernel_rfl
theorem ok67 : callable Try.prog 67 = true := by kernel_rfl
theorem ok68 : callable Try.prog 68 = true := by kernel_rfl
theorem ok69 : callable Try.prog 69 = true := by kernel_rfl
theorem ok70 : callable Try.prog 70 = true := by kernel_rfl
theorem ok71 : callable Try.prog 71 = true := by kernel_rfl
theorem ok72 : callable Try.prog 72 = true := by kernel_rfl
theorem ok73 : callable Try.prog 73 = true := by kernel_rfl
theorem ok95 : callable Try.prog 95 = true := by kernel_rfl
theorem ok96 : callable Try.prog 96 = true := by kernel_rfl
theorem hmix : Try.prog.follows .mixedOrders = true := by kernel_rfl
theorem szIntS_spec (w : World) {S : Nat → Prop} (x : List Int) {z : Value} (hx : rdS S w x z) (left : Int) (h0 : 0 ≤ left) (h1 : left ≤ 1048576) :
    Ret Try.prog 67 #[z, .int .i64 left] w (fun _ => False) fun v _ => ∃ r, v = .int .i64 r ∧ (((Sz.szd x : Nat) : Int) ≤ left ∧ r = left - (Sz.szd x : Nat) ∨ left < (Sz.szd x : Nat) ∧ r = -1) := by
  refine enter Try.func67 rfl rfl rfl ?_
  obtain ⟨A1, c1, rfl, hc1, hm1⟩ := hx.form
  have hl1 : x.length ≤ 9223372036854775807 := Nat.le_trans hc1 hm1
  have hsz : Sz.szd x = szL x := rfl
  rw [szL_int] at hsz
  refine CW.seq (CW.reg ?_)
  refine WL.ev rfl rfl (Ev.as rfl rfl) (WL.nil ?_)
  refine CW.seq (CW.reg ?_)
  refine WL.ev rfl rfl (Ev.mv rfl rfl) (WL.ev rfl rfl (Ev.mv rfl rfl) (WL.ev rfl rfl (Ev.lenS rfl el34 rfl) (WL.ev rfl rfl (Ev.bin rfl rfl rfl (Bin.sub (by omega))) (WL.ev rfl rfl (Ev.as rfl rfl) (WL.nil ?_)))))
  refine CW.seq (CW.seq (CW.reg ?_))
  refine WL.ev rfl rfl (Ev.mv rfl rfl) (WL.ev rfl rfl (Ev.bin rfl rfl rfl Bin.lss) (WL.nil ?_))
  refine CW.condD rfl (fun h1 => ?_) (fun h1 => ?_)
  · skip
    refine CW.seq (CW.reg ?_)
    refine WL.ev rfl rfl (Ev.as rfl rfl) (WL.nil ?_)
    refine CW.ret ?_
    refine ⟨_, res1 rfl rfl rfl, (Ext.refl _), _, rfl, ?_⟩
    try simp only [szfold] at *
    first | omega | (right; exact ⟨by omega, by first | rfl | trivial⟩)
  · skip
    refine CW.skip ?_
    refine CW.seq (CW.reg ?_)
    refine WL.ev rfl rfl (Ev.mv rfl rfl) (WL.ev rfl rfl (Ev.as rfl rfl) (WL.nil ?_))
    refine CW.ret ?_
    refine ⟨_, res1 rfl rfl rfl, (Ext.refl _), _, rfl, ?_⟩
    try simp only [szfold] at *
    first | omega | (right; exact ⟨by omega, by first | rfl | trivial⟩)

theorem szRelation_spec (w : World) {S : Nat → Prop} (x : Relation) {cs : List Value} (hx : rd S w x cs) (left : Int) (h0 : 0 ≤ left) (h1 : left ≤ 1048576) :
    Ret Try.prog 22 #[.agg cs.toArray, .int .i64 left] w (fun _ => False) fun v _ => ∃ r, v = .int .i64 r ∧ (((Sz.szd x : Nat) : Int) ≤ left ∧ r = left - (Sz.szd x : Nat) ∨ left < (Sz.szd x : Nat) ∧ r = -1) := by
  refine enter Try.func22 rfl rfl rfl ?_
  have hK1 := hx
  obtain ⟨v1, rfl, hr1, hs1⟩ := hx
  obtain ⟨A1, c1, rfl, hc1, hm1⟩ := hs1.form
  have hsz := Relation_szd x
  refine CW.seq (CW.reg ?_)
  refine WL.box rfl rfl rfl rfl rfl fun b1 w1 hEb1 hbb1 hBb1 => ?_
  refine WL.ev rfl rfl (Ev.as rfl rfl) (WL.nil ?_)
  refine CW.seq (CW.reg ?_)
  refine WL.ev rfl rfl (Ev.fa rfl fo36_1 rfl) (WL.ev rfl rfl (Ev.ld rfl ag34 rfl (hBb1.cell rfl)) (WL.ev rfl rfl (Ev.mv rfl rfl) ?_))
  refine WL.call rfl rfl rfl rfl rfl ok67 rfl (szIntS_spec _ x.Rows (hs1.ext hEb1) _ (by omega) (by omega)) ?_
  rintro _ w2 hEw2 ⟨r1, rfl, hr2⟩
  have hq1 := szfold x.Rows
  refine WL.ev rfl rfl (Ev.as rfl rfl) (WL.nil ?_)
  refine CW.seq (CW.seq (CW.reg ?_))
  refine WL.ev rfl rfl (Ev.mv rfl rfl) (WL.ev rfl rfl (Ev.bin rfl rfl rfl Bin.lss) (WL.nil ?_))
  refine CW.condD rfl (fun h1 => ?_) (fun h1 => ?_)
  · skip
    refine CW.seq (CW.reg ?_)
    refine WL.ev rfl rfl (Ev.as rfl rfl) (WL.nil ?_)
    refine CW.ret ?_
    refine ⟨_, res1 rfl rfl rfl, (hEb1.trans hEw2), _, rfl, ?_⟩
    try simp only [szfold] at *
    first | omega | (right; exact ⟨by omega, by first | rfl | trivial⟩)
  · skip
    refine CW.skip ?_
    refine CW.seq (CW.reg ?_)
    refine WL.ev rfl rfl (Ev.mv rfl rfl) (WL.ev rfl rfl (Ev.as rfl rfl) (WL.nil ?_))
    refine CW.ret ?_
    refine ⟨_, res1 rfl rfl rfl, (hEb1.trans hEw2), _, rfl, ?_⟩
    try simp only [szfold] at *
    first | omega | (right; exact ⟨by omega, by first | rfl | trivial⟩)

theorem toIntS_spec (w : World) {S : Nat → Prop} (x : List Int) {z : Value} (hx : rdS S w x z) (hlen : szL x ≤ 1048576) :
    Ret Try.prog 45 #[z] w (fun _ => False) fun v w' => NewS w w' x v := by
  refine enter Try.func45 rfl rfl rfl ?_
  obtain ⟨A1, c1, rfl, hc1, hm1⟩ := hx.form
  have hl1 : x.length ≤ 9223372036854775807 := Nat.le_trans hc1 hm1
  have hln := szL_length x
  refine CW.seq (CW.reg ?_)
  refine WL.ev rfl rfl (Ev.as rfl rfl) (WL.nil ?_)
  refine CW.seq (CW.reg ?_)
  refine WL.ev rfl rfl (Ev.mv rfl rfl) (WL.ev rfl rfl (Ev.lenS rfl el34 rfl) ?_)
  refine WL.mk rfl rfl rfl el34 sz3 by3 ze3 rfl rfl rfl (by omega) (by omega) fun g w1 hE1 hg hBg => ?_
  refine WL.ev rfl rfl (Ev.as rfl rfl) (WL.nil ?_)
  refine CW.seq (CW.seq (CW.reg ?_))
  refine WL.ev rfl rfl (Ev.as rfl rfl) (WL.nil ?_)
  refine CW.block (CW.loop (α := Nat × List Value × List Nat) (fun q => [(0, .slice A1 x.length c1), (3, .slice (some ⟨g, 0, none⟩) x.length x.length), (4, .int .i64 (q.1 : Int))]) (fun q wr => Ext w wr ∧ ToInv wr g 3 [.int .i64 0] x q.1 q.2.1 q.2.2) (fun q => x.length - q.1) (0, [], []) ⟨rfl, rfl, rfl, trivial⟩ ⟨hE1, ToInv.init hBg⟩ ?_)
  rintro ⟨k, cs, L⟩ σ wr1 ⟨hEwr1, hI⟩
  simp only at hI
  have hk := hI.le
  refine CW.seq (CW.seq (CW.reg ?_))
  refine WL.ev rfl rfl (Ev.mv rfl rfl) (WL.ev rfl rfl (Ev.mv rfl rfl) (WL.ev rfl rfl (Ev.lenS rfl el34 rfl) (WL.ev rfl rfl (Ev.bin rfl rfl rfl Bin.lss) (WL.nil ?_))))
  refine CW.condD rfl (fun h1 => ?_) (fun h1 => ?_)
  · skip
    refine CW.skip ?_
    refine CW.seq (CW.block (CW.reg ?_))
    refine WL.ev rfl rfl (Ev.mv rfl rfl) (WL.ev rfl rfl (Ev.mv rfl rfl) (WL.ev rfl rfl (Ev.mv rfl rfl) (WL.ev rfl rfl (Ev.mv rfl rfl) ?_)))
    obtain ⟨xe1, be1, oe1, cse1, hxe1, hAe1, hSe1, hre1, hAte1⟩ := rdS.el (hx.ext hEwr1) (i := k) (by omega)
    have hK1 := hre1
    obtain ⟨rfl, hr1⟩ := hre1
    refine WL.ev rfl rfl (Ev.ixA rfl el34 sz3 rfl hAe1 rfl (by omega)) (WL.ev rfl rfl (Ev.ld rfl ag3 rfl (hAte1.cell0 rfl)) (WL.ev rfl rfl (Ev.ix rfl el34 sz3 rfl rfl (by omega)) ?_))
    refine WL.stTo rfl rfl rfl sz3 rfl rfl rfl hI hxe1 (New.int hr1) List.nodup_nil (by simp) rfl fun w1 hCw1 hI2 => ?_
    have hX1 := Ext.chg1 hEwr1 hCw1 (by have := hE1.size; omega)
    refine WL.nil ?_
    refine CW.reg ?_
    refine WL.ev rfl rfl (Ev.mv rfl rfl) (WL.ev rfl rfl (Ev.bin rfl rfl rfl (Bin.add (by omega))) (WL.ev rfl rfl (Ev.as rfl rfl) (WL.nil ?_)))
    exact ⟨(k + 1, _, _), ⟨rfl, rfl, rfl, trivial⟩, ⟨hX1, hI2⟩, by simp only; omega⟩
  · skip
    refine CW.exit ?_
    refine CW.seq (CW.reg ?_)
    refine WL.ev rfl rfl (Ev.mv rfl rfl) (WL.ev rfl rfl (Ev.as rfl rfl) (WL.nil ?_))
    refine CW.ret ?_
    exact ⟨_, res1 rfl rfl rfl, hEwr1, hI.new (by omega) (by unfold maxLen; omega) hg⟩

theorem toRelation_spec (w : World) {S : Nat → Prop} (x : Relation) {cs : List Value} (hx : rd S w x cs) (hlen : Sz.szd x ≤ 1048576) :
    Ret Try.prog 24 #[.agg cs.toArray] w (fun _ => False) fun v w' => ∃ cs, v = .agg cs.toArray ∧ New w w' x cs := by
  refine enter Try.func24 rfl rfl rfl ?_
  have hK1 := hx
  obtain ⟨v1, rfl, hr1, hs1⟩ := hx
  obtain ⟨A1, c1, rfl, hc1, hm1⟩ := hs1.form
  rw [Relation_szd] at hlen
  refine CW.seq (CW.reg ?_)
  refine WL.box rfl rfl rfl rfl rfl fun b1 w1 hEb1 hbb1 hBb1 => ?_
  refine WL.alloc rfl rfl rfl ze39 fun b2 w2 hEb2 hbb2 hBb2 => ?_
  refine WL.nil ?_
  refine CW.seq (CW.reg ?_)
  refine WL.alloc rfl rfl rfl ze39 fun b3 w3 hEb3 hbb3 hBb3 => ?_
  refine WL.nil ?_
  refine CW.seq (CW.reg ?_)
  refine WL.ev rfl rfl (Ev.fa rfl fo36_0 rfl) (WL.ev rfl rfl (Ev.ld rfl ag3 rfl ((hBb1.ext (hEb2.trans hEb3)).cell rfl)) (WL.ev rfl rfl (Ev.fa rfl fo39_0 rfl) ?_))
  refine WL.st rfl rfl rfl sz3 rfl rfl rfl rfl (all1 rfl all0) hBb3 (Nat.le_of_ble_eq_true rfl) fun w4 hCw4 hB_1 => ?_
  have hz1 := hBb3.lt
  have hB_2 := Blk.chg1 (hBb1.ext (hEb2.trans hEb3)) hCw4 (by have := hBb1.lt; have := hbb3; have := hEb2.size; omega)
  have hB_3 := Blk.chg1 (hBb2.ext hEb3) hCw4 (by have := hBb2.lt; have := hbb3; omega)
  have hX1 := Ext.chg1 ((hEb1.trans hEb2).trans hEb3) hCw4 (by have := hbb3; have := hEb1.size; have := hEb2.size; omega)
  refine WL.nil ?_
  refine CW.seq (CW.reg ?_)
  refine WL.ev rfl rfl (Ev.fa rfl fo36_1 rfl) (WL.ev rfl rfl (Ev.ld rfl ag34 rfl (hB_2.cell rfl)) ?_)
  refine WL.call rfl rfl rfl rfl rfl ok45 rfl (toIntS_spec _ x.Rows (hs1.ext hX1) (by omega)) ?_
  rintro v2 w5 hEw5 ⟨L1, hO1, hN1, hF1⟩
  obtain ⟨A2, c2, rfl, hc2, hm2⟩ := hO1.form
  refine WL.ev rfl rfl (Ev.fa rfl fo39_1 rfl) ?_
  refine WL.st rfl rfl rfl sz34 rfl rfl rfl rfl (all1 rfl all0) (hB_1.ext hEw5) (Nat.le_of_ble_eq_true rfl) fun w6 hCw6 hB_4 => ?_
  have hz2 := (hB_1.ext hEw5).lt
  have hB_5 := Blk.chg1 (hB_2.ext hEw5) hCw6 (by have := hBb1.lt; have := hbb3; have := hEb2.size; omega)
  have hB_6 := Blk.chg1 (hB_3.ext hEw5) hCw6 (by have := hBb2.lt; have := hbb3; omega)
  have hO_1 := ownS.chg1 hO1 hCw6 (fun q hq e => by subst e; have := hF1 _ hq; have := hBb3.lt; have := hCw4.size; omega)
  have hX2 := Ext.chg1 (hX1.trans hEw5) hCw6 (by have := hbb3; have := hEb1.size; have := hEb2.size; omega)
  refine WL.nil ?_
  refine CW.seq (CW.reg ?_)
  refine WL.ev rfl rfl (Ev.lda rfl ag39 sz39 rfl (At.blk hB_4) rfl) ?_
  refine WL.st rfl rfl rfl sz39 rfl rfl rfl rfl (all1 rfl (all1 rfl all0)) hB_6 (Nat.le_of_ble_eq_true rfl) fun w7 hCw7 hB_7 => ?_
  have hz3 := hB_6.lt
  have hB_8 := Blk.chg1 hB_5 hCw7 (by have := hBb1.lt; have := hbb2; omega)
  have hB_9 := Blk.chg1 hB_4 hCw7 (by have := hBb2.lt; have := hbb3; omega)
  have hO_2 := ownS.chg1 hO_1 hCw7 (fun q hq e => by subst e; have := hF1 _ hq; have := hBb2.lt; have := hEb3.size; have := hCw4.size; omega)
  have hX3 := Ext.chg1 hX2 hCw7 (by have := hbb2; have := hEb1.size; omega)
  refine WL.nil ?_
  refine CW.ret ?_
  exact ⟨_, resC rfl ag39 sz39 rfl rfl (At.blk hB_7) rfl, hX3, _, rfl, _, ⟨_, _, rfl, by first | assumption | omega, rfl, hO_2⟩, hN1, fun q hq => by first | (have := hF1 _ hq; have := hEb1.size; have := hEb2.size; have := hEb3.size; have := hCw4.size; omega)⟩

theorem l1In_spec (w : World) (x : Int) (hx : I64 x) (lo : Int) (hlo : I64 lo) (hi : Int) (hhi : I64 hi) :
    Ret Try.prog 68 #[.int .i64 x, .int .i64 lo, .int .i64 hi] w (fun _ => False) fun v w' => v = .bool (decide (lo ≤ x ∧ x ≤ hi)) := by
  refine enter Try.func68 rfl rfl rfl ?_
  refine CW.seq (CW.reg ?_)
  refine WL.ev rfl rfl (Ev.as rfl rfl) (WL.nil ?_)
  refine CW.seq (CW.reg ?_)
  refine WL.ev rfl rfl (Ev.mv rfl rfl) (WL.ev rfl rfl (Ev.mv rfl rfl) (WL.ev rfl rfl (Ev.bin rfl rfl rfl Bin.geq) ?_))
  refine WL.mvD rfl rfl rfl rfl (fun h1 => ?_) (fun h1 => ?_)
  · skip
    refine WL.on rfl rfl (WL.ev rfl rfl (Ev.mv rfl rfl) (WL.on rfl rfl (WL.ev rfl rfl (Ev.mv rfl rfl) (WL.on rfl rfl (WL.ev rfl rfl (Ev.bin rfl rfl rfl Bin.leq) (WL.ev rfl rfl (Ev.pickT rfl rfl rfl) (WL.ev rfl rfl (Ev.as rfl rfl) (WL.nil ?_))))))))
    refine CW.ret ?_
    exact ⟨_, res1 rfl rfl rfl, (Ext.refl _), bD (by omega)⟩
  · skip
    refine WL.off rfl rfl rfl (WL.off rfl rfl rfl (WL.off rfl rfl rfl (WL.ev rfl rfl (Ev.pickF rfl rfl rfl) (WL.ev rfl rfl (Ev.as rfl rfl) (WL.nil ?_)))))
    refine CW.ret ?_
    exact ⟨_, res1 rfl rfl rfl, (Ext.refl _), bF (by omega)⟩

theorem sIsValidRelation_spec (w : World) {S1 : Nat → Prop} (r : Relation) {cr : List Value} (hr : rd S1 w r cr) :
    Ret Try.prog 23 #[.agg cr.toArray] w (fun _ => False) fun v w' => v = .bool (decide (Valid r)) := by
  refine enter Try.func23 rfl rfl rfl ?_
  have hK1 := hr
  obtain ⟨v1, rfl, hr1, hs1⟩ := hr
  obtain ⟨A1, c1, rfl, hc1, hm1⟩ := hs1.form
  refine CW.seq (CW.reg ?_)
  refine WL.box rfl rfl rfl rfl rfl fun b1 w1 hEb1 hbb1 hBb1 => ?_
  refine WL.ev rfl rfl (Ev.as rfl rfl) (WL.nil ?_)
  refine CW.seq (CW.seq (CW.reg ?_))
  refine WL.ev rfl rfl (Ev.fa rfl fo39_0 rfl) (WL.ev rfl rfl (Ev.ld rfl ag3 rfl (hBb1.cell rfl)) ?_)
  refine WL.call rfl rfl rfl rfl rfl ok68 rfl (l1In_spec _ _ (by constructor <;> omega) _ (by constructor <;> omega) _ (by constructor <;> omega)) ?_
  rintro _ w2 hEw2 rfl
  refine WL.ev rfl rfl (Ev.not rfl rfl) ?_
  refine WL.mvN rfl rfl rfl rfl (fun h1 => ?_) (fun h1 => ?_)
  · skip
    refine WL.off rfl rfl rfl (WL.off rfl rfl rfl (WL.off rfl rfl rfl (WL.off rfl rfl rfl (WL.off rfl rfl rfl (WL.off rfl rfl rfl (WL.ev rfl rfl (Ev.pickT rfl rfl rfl) (WL.nil ?_)))))))
    refine CW.condT rfl ?_
    refine CW.seq (CW.reg ?_)
    refine WL.ev rfl rfl (Ev.as rfl rfl) (WL.nil ?_)
    refine CW.ret ?_
    exact ⟨_, res1 rfl rfl rfl, (hEb1.trans hEw2), bF (fun hv => by have := hv.1; have := hv.2.1; have := hv.2.2.1; omega)⟩
  · skip
    refine WL.on rfl rfl (WL.ev rfl rfl (Ev.fa rfl fo39_1 rfl) (WL.on rfl rfl (WL.ev rfl rfl (Ev.ld rfl ag34 rfl ((hBb1.ext hEw2).cell rfl)) (WL.on rfl rfl (WL.ev rfl rfl (Ev.lenS rfl el34 rfl) (WL.on rfl rfl (WL.ev rfl rfl (Ev.fa rfl fo39_0 rfl) (WL.on rfl rfl (WL.ev rfl rfl (Ev.ld rfl ag3 rfl ((hBb1.ext hEw2).cell rfl)) (WL.on rfl rfl (WL.ev rfl rfl (Ev.bin rfl rfl rfl Bin.neq) (WL.ev rfl rfl (Ev.pickF rfl rfl rfl) (WL.nil ?_)))))))))))))
    refine CW.condN rfl (fun h2 => ?_) (fun h2 => ?_)
    · skip
      refine CW.seq (CW.reg ?_)
      refine WL.ev rfl rfl (Ev.as rfl rfl) (WL.nil ?_)
      refine CW.ret ?_
      exact ⟨_, res1 rfl rfl rfl, (hEb1.trans hEw2), bF (fun hv => by have := hv.1; have := hv.2.1; have := hv.2.2.1; omega)⟩
    · skip
      refine CW.skip ?_
      refine CW.seq (CW.seq (CW.reg ?_))
      refine WL.ev rfl rfl (Ev.as rfl rfl) (WL.nil ?_)
      refine CW.block (CW.loop (α := Nat) (fun q => [(1, .pointer (some ⟨b1, 0, none⟩)), (3, .int .i64 (q : Int))]) (fun q wr => Ext w2 wr ∧ q ≤ r.Rows.length ∧ ∀ x ∈ r.Rows.take q, 0 ≤ x ∧ x ≤ ((2 ^ r.N.toNat : Nat) : Int) - 1) (fun q => r.Rows.length - q) 0 ⟨rfl, rfl, trivial⟩ ⟨Ext.refl _, by omega, by simp⟩ ?_)
      rintro k σ wr1 ⟨hEwr1, hk, hpre⟩
      have hpw := pow16 (n := r.N) (by omega)
      have hpp := pow_pos' r.N
      refine CW.seq (CW.seq (CW.reg ?_))
      refine WL.ev rfl rfl (Ev.mv rfl rfl) (WL.ev rfl rfl (Ev.fa rfl fo39_0 rfl) (WL.ev rfl rfl (Ev.ld rfl ag3 rfl ((hBb1.ext (hEw2.trans hEwr1)).cell rfl)) (WL.ev rfl rfl (Ev.bin rfl rfl rfl Bin.lss) (WL.nil ?_))))
      refine CW.condD rfl (fun h3 => ?_) (fun h3 => ?_)
      · skip
        refine CW.skip ?_
        refine CW.seq (CW.block (CW.seq (CW.quiet hmix (by kernel_rfl) ?_)))
        refine QL.ev rfl rfl (fun _ _ => Ev.fa rfl fo39_1 rfl) (QL.ev rfl rfl (fun _ hq => Ev.ld rfl ag34 rfl ((hBb1.ext ((hEw2.trans hEwr1).trans hq)).cell rfl)) (QL.ev rfl rfl (fun _ _ => Ev.mv rfl rfl) ?_))
        obtain ⟨xe1, be1, oe1, cse1, hxe1, hAe1, hSe1, hre1, hAte1⟩ := rdS.el (hs1.ext ((hEb1.trans hEw2).trans hEwr1)) (i := k) (by omega)
        have hK2 := hre1
        obtain ⟨rfl, hr2⟩ := hre1
        refine QL.ev rfl rfl (fun _ _ => Ev.ixA rfl el34 sz3 rfl hAe1 rfl (by omega)) (QL.ev rfl rfl (fun _ hq => Ev.ld rfl ag3 rfl ((hAte1.ext hq).cell0 rfl)) (QL.ev rfl rfl (fun _ _ => Ev.fa rfl fo39_0 rfl) (QL.ev rfl rfl (fun _ hq => Ev.ld rfl ag3 rfl ((hBb1.ext ((hEw2.trans hEwr1).trans hq)).cell rfl)) (QL.ev rfl rfl (fun _ _ => Ev.convUI rfl Try.underlying3 it83 rfl (by omega) (by omega)) (QL.ev rfl rfl (fun _ _ => Ev.bin rfl rfl rfl (Bin.shlI (by omega) (by omega))) ?_)))))
        have hbd1 := shl_bd r.N (by omega)
        refine QL.ev rfl rfl (fun _ _ => Ev.bin rfl rfl rfl (Bin.sub (by omega))) (QL.call rfl rfl rfl rfl rfl ok68 rfl (fun _ hq => l1In_spec _ _ (by constructor <;> omega) _ (by constructor <;> omega) _ (by constructor <;> omega)) (QL.ev rfl rfl (fun _ _ => Ev.not rfl rfl) (QL.nil (fun w3 hEw3 => ?_))))
        refine CW.condN rfl (fun h4 => ?_) (fun h4 => ?_)
        · skip
          refine CW.seq (CW.reg ?_)
          refine WL.ev rfl rfl (Ev.as rfl rfl) (WL.nil ?_)
          refine CW.ret ?_
          exact ⟨_, res1 rfl rfl rfl, (((hEb1.trans hEw2).trans hEwr1).trans hEw3), bF (fun hv => h4 (hv.2.2.2 _ (List.mem_of_getElem? hxe1)))⟩
        · skip
          refine CW.skip ?_
          refine CW.reg ?_
          refine WL.ev rfl rfl (Ev.mv rfl rfl) (WL.ev rfl rfl (Ev.bin rfl rfl rfl (Bin.add (by omega))) (WL.ev rfl rfl (Ev.as rfl rfl) (WL.nil ?_)))
          refine ⟨k + 1, ⟨rfl, rfl, trivial⟩, ⟨(hEwr1.trans hEw3), by omega, ?_⟩, by omega⟩
          rw [take_snoc hxe1]
          intro y hy
          rcases List.mem_append.1 hy with hy | hy
          · exact hpre y hy
          · simp at hy; subst hy; exact h4
      · skip
        refine CW.exit ?_
        refine CW.seq (CW.reg ?_)
        refine WL.ev rfl rfl (Ev.as rfl rfl) (WL.nil ?_)
        refine CW.ret ?_
        refine ⟨_, res1 rfl rfl rfl, ((hEb1.trans hEw2).trans hEwr1), bT ⟨by omega, by omega, by omega, ?_⟩⟩
        rwa [List.take_of_length_le (by omega)] at hpre

theorem l22Copy_spec (w : World) {S1 : Nat → Prop} (r : Relation) {cr : List Value} (hr : rd S1 w r cr) (br : Sz.szd r ≤ 1048576) :
    Ret Try.prog 72 #[.agg cr.toArray] w (fun _ => False) fun v w' => ∃ cs, v = .agg cs.toArray ∧ New w w' (r) cs := by
  refine enter Try.func72 rfl rfl rfl ?_
  have hK1 := hr
  obtain ⟨v1, rfl, hr1, hs1⟩ := hr
  obtain ⟨A1, c1, rfl, hc1, hm1⟩ := hs1.form
  rw [Relation_szd] at br
  have := szL_length r.Rows
  refine CW.seq (CW.reg ?_)
  refine WL.box rfl rfl rfl rfl rfl fun b1 w1 hEb1 hbb1 hBb1 => ?_
  refine WL.alloc rfl rfl rfl ze39 fun b2 w2 hEb2 hbb2 hBb2 => ?_
  refine WL.nil ?_
  refine CW.seq (CW.anyE 6 (fun ρ => [.inl (.pointer (some ⟨b1, 0 + 0, none⟩)), .inl (.int .i64 (r.N)), .inr (fun _ v _ => ∃ g : Nat, v = .slice (some ⟨g, 0, none⟩) 0 0), .inl (.pointer (some ⟨b1, 0 + 1, none⟩)), .inl (.slice A1 r.Rows.length c1), .inr (fun S v w => ∃ L, ownS L w (r.Rows) v ∧ L.Nodup ∧ ∀ q ∈ L, S q)]) hmix (by kernel_rfl) ⟨trivial, trivial, fun _ _ _ _ h _ => h, trivial, trivial, fun _ _ _ _ ⟨L, h, h1, h2⟩ hE => ⟨L, h.ext hE, h1, h2⟩, trivial⟩ ?_)
  refine LL.fx rfl rfl rfl (fun _ hq hK => Ev.fa rfl fo39_0 rfl) ?_
  refine LL.fx rfl rfl rfl (fun _ hq hK => Ev.ld rfl ag3 rfl ((hBb1.ext (hEb2.trans hq)).cell rfl)) ?_
  refine LL.free rfl rfl (fun wq hq hK => OpX.lit0 rfl rfl el34 sz3) (fun v_1_2 S_1_2 => ?_)
  refine LL.fx rfl rfl rfl (fun _ hq hK => Ev.fa rfl fo39_1 rfl) ?_
  refine LL.fx rfl rfl rfl (fun _ hq hK => Ev.ld rfl ag34 rfl ((hBb1.ext (hEb2.trans hq)).cell rfl)) ?_
  refine LL.free rfl rfl (fun wq hq hK => ?_) (fun v_1_5 S_1_5 => ?_)
  · obtain ⟨g2, e2⟩ : ∃ g : Nat, v_1_2 = .slice (some ⟨g, 0, none⟩) 0 0 := hK 2 rfl
    subst e2
    refine OpX.app0 rfl rfl el34 sz3 by3 ze3 rfl rfl rfl (hs1.ext ((hEb1.trans hEb2).trans hq)) (by omega) fun v w' hE hn => ⟨hE, ?_⟩
    obtain ⟨L, h1, h2, h3⟩ := hn
    exact ⟨L, h1, h2, fun q hq => ⟨h3 q hq, h1.lt q hq⟩⟩
  intro w3 hEw3 hKr1 hap1 hbd1
  obtain ⟨L1, hO1, hN1, hS1⟩ : ∃ L, ownS L w3 (r.Rows) v_1_5 ∧ L.Nodup ∧ ∀ q ∈ L, S_1_5 q := hKr1 5 (by decide)
  have hF1 : ∀ q ∈ L1, w2.heap.size ≤ q := fun q hq => (hbd1 5 q (hS1 q hq)).1
  obtain ⟨A2, c2, rfl, hc2, hm2⟩ := hO1.form
  refine WL.ev rfl rfl (Ev.build rfl pl39 ze39 rfl rfl rfl rfl) ?_
  refine WL.st rfl rfl rfl sz39 rfl rfl rfl rfl (all1 rfl (all1 rfl all0)) (hBb2.ext hEw3) (Nat.le_of_ble_eq_true rfl) fun w4 hCw4 hB_1 => ?_
  have hT1 := Blk.chg1 (hBb1.ext (hEb2.trans hEw3)) hCw4 (by have := hBb1.lt; have := hbb2; omega)
  have hT2 := ownS.chg1 hO1 hCw4 (fun q hq e => by subst e; have := hBb2.lt; have := hF1 _ hq; omega)
  have hX1 := Ext.chg1 ((hEb1.trans hEb2).trans hEw3) hCw4 (by have := hbb2; have := hEb1.size; omega)
  refine WL.nil ?_
  refine CW.ret ?_
  refine ⟨_, resC rfl ag39 sz39 rfl rfl (At.blk hB_1) rfl, hX1, _, rfl, ?_⟩
  exact ⟨_, ⟨_, _, rfl, by first | assumption | (constructor <;> omega) | omega, rfl, hT2⟩, hN1, fun q hq => by have := hF1 _ hq; have := hEb1.size; have := hEb2.size; omega⟩

theorem sClose_spec (w : World) {S1 : Nat → Prop} (r : Relation) {cr : List Value} (hr : rd S1 w r cr) (br : Sz.szd r ≤ 1048576) :
    Ret Try.prog 40 #[.agg cr.toArray] w (fun _ => False) fun v w' => ∃ cs, v = .agg cs.toArray ∧ New w w' (closeR r) cs := by
  refine enter Try.func40 rfl rfl rfl ?_
  have hK1 := hr
  obtain ⟨v1, rfl, hr1, hs1⟩ := hr
  obtain ⟨A1, c1, rfl, hc1, hm1⟩ := hs1.form
  rw [Relation_szd] at br
  have := szL_length r.Rows
  refine CW.seq (CW.reg ?_)
  refine WL.box rfl rfl rfl rfl rfl fun b1 w1 hEb1 hbb1 hBb1 => ?_
  refine WL.alloc rfl rfl rfl ze39 fun b2 w2 hEb2 hbb2 hBb2 => ?_
  refine WL.nil ?_
  refine CW.seq (CW.reg ?_)
  refine WL.ev rfl rfl (Ev.lda rfl ag39 sz39 rfl (At.blk (hBb1.ext hEb2)) rfl) ?_
  refine WL.call rfl rfl rfl rfl rfl ok72 rfl (l22Copy_spec _ r (rd_ext hK1 (hEb1.trans hEb2)) (by omega)) ?_
  rintro _ w3 hEw3 ⟨_, rfl, L2, ⟨v2, _, rfl, hr2, rfl, hO2⟩, hN2, hF2⟩
  obtain ⟨A2, c2, rfl, hc2, hm2⟩ := hO2.form
  refine WL.alloc rfl rfl rfl ze39 fun b3 w4 hEb3 hbb3 hBb3 => ?_
  refine WL.st rfl rfl rfl sz39 rfl rfl rfl rfl (all1 rfl (all1 rfl all0)) hBb3 (Nat.le_of_ble_eq_true rfl) fun w5 hCw5 hB_1 => ?_
  have hT1 := Blk.chg1 (hBb1.ext ((hEb2.trans hEw3).trans hEb3)) hCw5 (by have := hBb1.lt; have := hbb3; have := hEb2.size; have := hEw3.size; omega)
  have hT2 := Blk.chg1 (hBb2.ext (hEw3.trans hEb3)) hCw5 (by have := hBb2.lt; have := hbb3; have := hEw3.size; omega)
  have hT3 := ownS.chg1 (hO2.ext hEb3) hCw5 (fun q hq e => by subst e; have := hO2.lt _ hq; have := hbb3; omega)
  have hX1 := Ext.chg1 (((hEb1.trans hEb2).trans hEw3).trans hEb3) hCw5 (by have := hbb3; have := hEb1.size; have := hEb2.size; have := hEw3.size; omega)
  refine WL.nil ?_
  refine CW.seq (CW.seq (CW.reg ?_))
  refine WL.ev rfl rfl (Ev.lda rfl ag39 sz39 rfl (At.blk hT1) rfl) ?_
  refine WL.call rfl rfl rfl rfl rfl ok23 rfl (sIsValidRelation_spec _ r (rd_ext hK1 hX1)) ?_
  rintro _ w6 hEw6 rfl
  refine WL.ev rfl rfl (Ev.not rfl rfl) (WL.nil ?_)
  refine CW.condN rfl (fun h1 => ?_) (fun h1 => ?_)
  · skip
    refine CW.seq (CW.reg ?_)
    refine WL.ev rfl rfl (Ev.lda rfl ag39 sz39 rfl (At.blk (hB_1.ext hEw6)) rfl) ?_
    refine WL.st rfl rfl rfl sz39 rfl rfl rfl rfl (all1 rfl (all1 rfl all0)) (hT2.ext hEw6) (Nat.le_of_ble_eq_true rfl) fun w7 hCw7 hB_2 => ?_
    have hT4 := Blk.chg1 (hT1.ext hEw6) hCw7 (by have := hBb1.lt; have := hbb2; omega)
    have hT5 := ownS.chg1 (hT3.ext hEw6) hCw7 (fun q hq e => by subst e; have := hBb2.lt; have := hF2 _ hq; omega)
    have hT6 := Blk.chg1 (hB_1.ext hEw6) hCw7 (by have := hBb2.lt; have := hbb3; have := hEw3.size; omega)
    have hX2 := Ext.chg1 (hX1.trans hEw6) hCw7 (by have := hbb2; have := hEb1.size; omega)
    refine WL.nil ?_
    refine CW.ret ?_
    refine ⟨_, resC rfl ag39 sz39 rfl rfl (At.blk hB_2) rfl, hX2, _, rfl, ?_⟩
    rw [show closeR r = r from if_neg h1]
    exact ⟨_, ⟨_, _, rfl, by first | assumption | (constructor <;> omega) | omega, rfl, hT5⟩, hN2, fun q hq => by have := hF2 _ hq; have := hEb1.size; have := hEb2.size; omega⟩
  · skip
    have hv1 := h1.1
    have hv2 := h1.2.1
    have hv3 := h1.2.2.1
    have hv0 := h1
    refine CW.skip ?_
    refine CW.seq (CW.seq (CW.reg ?_))
    refine WL.ev rfl rfl (Ev.as rfl rfl) (WL.nil ?_)
    refine CW.block (CW.loop (α := Nat) (fun q => [(1, .pointer (some ⟨b1, 0, none⟩)), (2, .pointer (some ⟨b2, 0, none⟩)), (3, .pointer (some ⟨b3, 0, none⟩)), (4, .int .i64 (q : Int))]) (fun q wr => Chg (fun z => w.heap.size ≤ z) w6 wr ∧ q ≤ r.Rows.length ∧ Blk wr b1 39 [.int .i64 r.N, .slice A1 r.Rows.length c1] ∧ Blk wr b2 39 [.int .i64 0, .slice none 0 0] ∧ Blk wr b3 39 [.int .i64 r.N, .slice A2 r.Rows.length c2] ∧ ownS L2 wr (closeTo r.Rows q) (.slice A2 r.Rows.length c2)) (fun q => r.Rows.length - q) 0 ⟨rfl, rfl, rfl, rfl, trivial⟩ ⟨Chg.refl _, by omega, (hT1.ext hEw6), (hT2.ext hEw6), (hB_1.ext hEw6), (hT3.ext hEw6)⟩ ?_)
    rintro k σ wr1 ⟨hEwr1, hk, hLB1, hLB2, hLB3, hLO1⟩
    
    have hX3 : Ext w wr1 := Ext.trans_chg (hX1.trans hEw6) hEwr1 fun _ h => h
    refine CW.seq (CW.seq (CW.reg ?_))
    refine WL.ev rfl rfl (Ev.mv rfl rfl) (WL.ev rfl rfl (Ev.fa rfl fo39_0 rfl) (WL.ev rfl rfl (Ev.ld rfl ag3 rfl (hLB1.cell rfl)) (WL.ev rfl rfl (Ev.bin rfl rfl rfl Bin.lss) (WL.nil ?_))))
    refine CW.condD rfl (fun h2 => ?_) (fun h2 => ?_)
    · skip
      refine CW.skip ?_
      refine CW.seq (CW.block (CW.seq (CW.reg ?_)))
      refine WL.ev rfl rfl (Ev.as rfl rfl) (WL.nil ?_)
      refine CW.block (CW.loop (α := Nat) (fun q => [(1, .pointer (some ⟨b1, 0, none⟩)), (2, .pointer (some ⟨b2, 0, none⟩)), (3, .pointer (some ⟨b3, 0, none⟩)), (4, .int .i64 (k : Int)), (5, .int .i64 (q : Int))]) (fun q wr => Chg (fun z => w.heap.size ≤ z) wr1 wr ∧ q ≤ r.Rows.length ∧ Blk wr b1 39 [.int .i64 r.N, .slice A1 r.Rows.length c1] ∧ Blk wr b2 39 [.int .i64 0, .slice none 0 0] ∧ Blk wr b3 39 [.int .i64 r.N, .slice A2 r.Rows.length c2] ∧ ownS L2 wr (closeRow (closeTo r.Rows k) k q) (.slice A2 r.Rows.length c2)) (fun q => r.Rows.length - q) 0 ⟨rfl, rfl, rfl, rfl, rfl, trivial⟩ ⟨Chg.refl _, by omega, hLB1, hLB2, hLB3, hLO1⟩ ?_)
      rintro j σ wr2 ⟨hEwr2, hj, hLB4, hLB5, hLB6, hLO2⟩
      
      have hX4 : Ext w wr2 := Ext.trans_chg hX3 hEwr2 fun _ h => h
      refine CW.seq (CW.seq (CW.reg ?_))
      refine WL.ev rfl rfl (Ev.mv rfl rfl) (WL.ev rfl rfl (Ev.fa rfl fo39_0 rfl) (WL.ev rfl rfl (Ev.ld rfl ag3 rfl (hLB4.cell rfl)) (WL.ev rfl rfl (Ev.bin rfl rfl rfl Bin.lss) (WL.nil ?_))))
      refine CW.condD rfl (fun h3 => ?_) (fun h3 => ?_)
      · skip
        refine CW.skip ?_
        refine CW.seq (CW.block (CW.seq (CW.reg ?_)))
        refine WL.ev rfl rfl (Ev.fa rfl fo39_1 rfl) (WL.ev rfl rfl (Ev.ld rfl ag34 rfl (hLB6.cell rfl)) (WL.ev rfl rfl (Ev.mv rfl rfl) ?_))
        obtain ⟨xe1, be1, oe1, cse1, hxe1, hAe1, hSe1, hre1, hAte1⟩ := rdS.el hLO2.rd (i := j) (by omega)
        have hK2 := hre1
        obtain ⟨rfl, hr3⟩ := hre1
        have hbxe1 := close_el hv0 hxe1
        refine WL.ev rfl rfl (Ev.ixA rfl el34 sz3 rfl hAe1 rfl (by omega)) (WL.ev rfl rfl (Ev.ld rfl ag3 rfl (hAte1.cell0 rfl)) (WL.ev rfl rfl (Ev.mv rfl rfl) (WL.ev rfl rfl (Ev.convUI rfl Try.underlying3 it83 rfl (by omega) (by omega)) (WL.ev rfl rfl (Ev.bin rfl rfl rfl (Bin.shrI (by omega) (by omega) (by omega))) ?_))))
        have hbd1 := shr_bd xe1 ((k : Int))
        refine WL.ev rfl rfl (Ev.bin rfl rfl rfl (Bin.andI (by omega) (by omega) (by omega) (by omega))) (WL.ev rfl rfl (Ev.bin rfl rfl rfl Bin.eql) (WL.nil ?_))
        refine CW.condD rfl (fun h4 => ?_) (fun h4 => ?_)
        · skip
          refine CW.quietT 15 hmix (by kernel_rfl) ?_
          refine QL.ev rfl rfl (fun _ _ => Ev.fa rfl fo39_1 rfl) (QL.ev rfl rfl (fun _ hq => Ev.ld rfl ag34 rfl ((hLB6.ext hq).cell rfl)) (QL.ev rfl rfl (fun _ _ => Ev.mv rfl rfl) (QL.ev rfl rfl (fun _ _ => Ev.fa rfl fo39_1 rfl) (QL.ev rfl rfl (fun _ hq => Ev.ld rfl ag34 rfl ((hLB6.ext hq).cell rfl)) (QL.ev rfl rfl (fun _ _ => Ev.mv rfl rfl) (QL.ev rfl rfl (fun _ _ => Ev.ixA rfl el34 sz3 rfl hAe1 rfl (by omega)) (QL.ev rfl rfl (fun _ hq => Ev.ld rfl ag3 rfl ((hAte1.ext hq).cell0 rfl)) (QL.ev rfl rfl (fun _ _ => Ev.fa rfl fo39_1 rfl) (QL.ev rfl rfl (fun _ hq => Ev.ld rfl ag34 rfl ((hLB6.ext hq).cell rfl)) (QL.ev rfl rfl (fun _ _ => Ev.mv rfl rfl) ?_))))))))))
          obtain ⟨xe2, be2, oe2, cse2, hxe2, hAe2, hSe2, hre2, hAte2⟩ := rdS.el hLO2.rd (i := k) (by omega)
          have hK3 := hre2
          obtain ⟨rfl, hr4⟩ := hre2
          have hbxe2 := close_el hv0 hxe2
          refine QL.ev rfl rfl (fun _ _ => Ev.ixA rfl el34 sz3 rfl hAe2 rfl (by omega)) (QL.ev rfl rfl (fun _ hq => Ev.ld rfl ag3 rfl ((hAte2.ext hq).cell0 rfl)) (QL.ev rfl rfl (fun _ _ => Ev.bin rfl rfl rfl (Bin.orI (by omega) (by omega) (by omega) (by omega))) (QL.ev rfl rfl (fun _ _ => Ev.ixA rfl el34 sz3 rfl hAe1 rfl (by omega)) (QL.nil (fun w8 hEw8 => ?_)))))
          have hbd2 := or_bd xe1 xe2 (by omega) (by omega)
          refine WL.stO rfl rfl rfl sz3 rfl rfl (by constructor <;> omega) (hLO2.ext hEw8) hN2 hAe1 (by (try simp only [List.length_set, closeRow_length, closeTo_length]); omega) fun w9 hCw9 hO_1 => ?_
          have hT7 := Blk.chgL (hLB4.ext hEw8) hCw9 (fun hq => by have := hBb1.lt; have := hF2 _ hq; have := hEb2.size; omega)
          have hT8 := Blk.chgL (hLB5.ext hEw8) hCw9 (fun hq => by have := hBb2.lt; have := hF2 _ hq; omega)
          have hT9 := Blk.chgL (hLB6.ext hEw8) hCw9 (fun hq => by have := hO2.lt _ hq; have := hbb3; omega)
          have hX5 := Ext.chgL (hX4.trans hEw8) hCw9 (fun q hq => by have := hF2 _ hq; have := hEb1.size; have := hEb2.size; omega)
          refine WL.nil ?_
          refine CW.reg ?_
          refine WL.ev rfl rfl (Ev.mv rfl rfl) (WL.ev rfl rfl (Ev.bin rfl rfl rfl (Bin.add (by omega))) (WL.ev rfl rfl (Ev.as rfl rfl) (WL.nil ?_)))
          refine ⟨j + 1, ⟨rfl, rfl, rfl, rfl, rfl, trivial⟩, ⟨((hEwr2.trans_ext hEw8).trL hCw9 (fun q hq => by have := hF2 _ hq; have := hEb1.size; have := hEb2.size; omega)), by omega, hT7, hT8, hT9, ?_⟩, by omega⟩
          rw [closeRow_succ, close_yes hxe1 hxe2 h4]
          exact hO_1
        · skip
          refine CW.skip ?_
          refine CW.reg ?_
          refine WL.ev rfl rfl (Ev.mv rfl rfl) (WL.ev rfl rfl (Ev.bin rfl rfl rfl (Bin.add (by omega))) (WL.ev rfl rfl (Ev.as rfl rfl) (WL.nil ?_)))
          refine ⟨j + 1, ⟨rfl, rfl, rfl, rfl, rfl, trivial⟩, ⟨hEwr2, by omega, hLB4, hLB5, hLB6, ?_⟩, by omega⟩
          rw [closeRow_succ, close_no hxe1 h4]
          exact hLO2
      · skip
        refine CW.exit ?_
        refine CW.reg ?_
        refine WL.ev rfl rfl (Ev.mv rfl rfl) (WL.ev rfl rfl (Ev.bin rfl rfl rfl (Bin.add (by omega))) (WL.ev rfl rfl (Ev.as rfl rfl) (WL.nil ?_)))
        refine ⟨k + 1, ⟨rfl, rfl, rfl, rfl, trivial⟩, ⟨(hEwr1.trans hEwr2), by omega, hLB4, hLB5, hLB6, ?_⟩, by omega⟩
        obtain rfl : j = r.Rows.length := by omega
        rw [closeTo_succ]
        exact hLO2
    · skip
      refine CW.exit ?_
      refine CW.seq (CW.reg ?_)
      refine WL.ev rfl rfl (Ev.lda rfl ag39 sz39 rfl (At.blk hLB3) rfl) ?_
      refine WL.st rfl rfl rfl sz39 rfl rfl rfl rfl (all1 rfl (all1 rfl all0)) hLB2 (Nat.le_of_ble_eq_true rfl) fun w10 hCw10 hB_3 => ?_
      have hT10 := Blk.chg1 hLB1 hCw10 (by have := hBb1.lt; have := hbb2; omega)
      have hT11 := ownS.chg1 hLO1 hCw10 (fun q hq e => by subst e; have := hBb2.lt; have := hF2 _ hq; omega)
      have hT12 := Blk.chg1 hLB3 hCw10 (by have := hBb2.lt; have := hbb3; have := hEw3.size; omega)
      have hX6 := Ext.chg1 hX3 hCw10 (by have := hbb2; have := hEb1.size; omega)
      refine WL.nil ?_
      refine CW.ret ?_
      obtain rfl : k = r.Rows.length := by omega
      refine ⟨_, resC rfl ag39 sz39 rfl rfl (At.blk hB_3) rfl, hX6, _, rfl, ?_⟩
      rw [show closeR r = ⟨r.N, closeTo r.Rows r.Rows.length⟩ from if_pos h1]
      exact ⟨_, ⟨_, _, rfl, by first | assumption | (constructor <;> omega) | omega, rfl, hT11⟩, hN2, fun q hq => by have := hF2 _ hq; have := hEb1.size; have := hEb2.size; omega⟩

theorem sHasPair_spec (w : World) {S1 : Nat → Prop} (r : Relation) {cr : List Value} (hr : rd S1 w r cr) (i : Int) (hi : I64 i) (k : Int) (hk : I64 k) :
    Ret Try.prog 27 #[.agg cr.toArray, .int .i64 i, .int .i64 k] w (fun _ => False) fun v w' => v = .bool (decide (hasP r i k)) := by
  refine enter Try.func27 rfl rfl rfl ?_
  have hK1 := hr
  obtain ⟨v1, rfl, hr1, hs1⟩ := hr
  obtain ⟨A1, c1, rfl, hc1, hm1⟩ := hs1.form
  refine CW.seq (CW.reg ?_)
  refine WL.box rfl rfl rfl rfl rfl fun b1 w1 hEb1 hbb1 hBb1 => ?_
  refine WL.ev rfl rfl (Ev.as rfl rfl) (WL.nil ?_)
  refine CW.seq (CW.reg ?_)
  refine WL.ev rfl rfl (Ev.lda rfl ag39 sz39 rfl (At.blk hBb1) rfl) ?_
  refine WL.call rfl rfl rfl rfl rfl ok23 rfl (sIsValidRelation_spec _ r (rd_ext hK1 hEb1)) ?_
  rintro _ w2 hEw2 rfl
  refine WL.mvD rfl rfl rfl rfl (fun h1 => ?_) (fun h1 => ?_)
  · skip
    have hv1 := h1.1
    have hv2 := h1.2.1
    have hv3 := h1.2.2.1
    refine WL.on rfl rfl (WL.ev rfl rfl (Ev.mv rfl rfl) (WL.on rfl rfl (WL.ev rfl rfl (Ev.fa rfl fo39_0 rfl) (WL.on rfl rfl (WL.ev rfl rfl (Ev.ld rfl ag3 rfl ((hBb1.ext hEw2).cell rfl)) (WL.on rfl rfl (WL.ev rfl rfl (Ev.bin rfl rfl rfl (Bin.sub (by omega))) (WL.on rfl rfl ?_))))))))
    refine WL.call rfl rfl rfl rfl rfl ok68 rfl (l1In_spec _ _ (by constructor <;> omega) _ (by constructor <;> omega) _ (by constructor <;> omega)) ?_
    rintro _ w3 hEw3 rfl
    refine WL.ev rfl rfl (Ev.pickT rfl rfl rfl) ?_
    refine WL.mvD rfl rfl rfl rfl (fun h2 => ?_) (fun h2 => ?_)
    · skip
      refine WL.on rfl rfl (WL.ev rfl rfl (Ev.mv rfl rfl) (WL.on rfl rfl (WL.ev rfl rfl (Ev.fa rfl fo39_0 rfl) (WL.on rfl rfl (WL.ev rfl rfl (Ev.ld rfl ag3 rfl ((hBb1.ext (hEw2.trans hEw3)).cell rfl)) (WL.on rfl rfl (WL.ev rfl rfl (Ev.bin rfl rfl rfl (Bin.sub (by omega))) (WL.on rfl rfl ?_))))))))
      refine WL.call rfl rfl rfl rfl rfl ok68 rfl (l1In_spec _ _ (by constructor <;> omega) _ (by constructor <;> omega) _ (by constructor <;> omega)) ?_
      rintro _ w4 hEw4 rfl
      refine WL.ev rfl rfl (Ev.pickT rfl rfl rfl) ?_
      refine WL.mvD rfl rfl rfl rfl (fun h3 => ?_) (fun h3 => ?_)
      · skip
        refine WL.on rfl rfl (WL.ev rfl rfl (Ev.fa rfl fo39_1 rfl) (WL.on rfl rfl (WL.ev rfl rfl (Ev.ld rfl ag34 rfl ((hBb1.ext ((hEw2.trans hEw3).trans hEw4)).cell rfl)) (WL.on rfl rfl (WL.ev rfl rfl (Ev.mv rfl rfl) (WL.on rfl rfl ?_))))))
        obtain ⟨xe1, be1, oe1, cse1, hxe1, hAe1, hSe1, hre1, hAte1⟩ := rdS.el (hs1.ext (((hEb1.trans hEw2).trans hEw3).trans hEw4)) (i := i.toNat) (by omega)
        have hK2 := hre1
        obtain ⟨rfl, hr2⟩ := hre1
        have hrow := h1.row (i := i) h2 hxe1
        refine WL.ev rfl rfl (Ev.ixAI rfl el34 sz3 rfl hAe1 rfl (by omega) (by omega)) (WL.on rfl rfl (WL.ev rfl rfl (Ev.ld rfl ag3 rfl (hAte1.cell0 rfl)) (WL.on rfl rfl (WL.ev rfl rfl (Ev.mv rfl rfl) (WL.on rfl rfl (WL.ev rfl rfl (Ev.convUI rfl Try.underlying3 it83 rfl (by omega) (by omega)) (WL.on rfl rfl (WL.ev rfl rfl (Ev.bin rfl rfl rfl (Bin.shrI (by omega) (by omega) (by omega))) (WL.on rfl rfl ?_)))))))))
        have hbd1 := shr_bd xe1 k
        refine WL.ev rfl rfl (Ev.bin rfl rfl rfl (Bin.andI (by omega) (by omega) (by omega) (by omega))) (WL.on rfl rfl (WL.ev rfl rfl (Ev.bin rfl rfl rfl Bin.eql) (WL.ev rfl rfl (Ev.pickT rfl rfl rfl) (WL.ev rfl rfl (Ev.as rfl rfl) (WL.nil ?_)))))
        refine CW.ret ?_
        refine ⟨_, res1 rfl rfl rfl, (((hEb1.trans hEw2).trans hEw3).trans hEw4), bD ⟨fun hb => ⟨h1, h2, h3, ?_⟩, fun hb => ?_⟩⟩
        · unfold bit; rw [hrow.1]; exact bit_of hb
        · have := hb.2.2.2; unfold bit at this; rw [hrow.1] at this; exact of_bit this
      · skip
        refine WL.off rfl rfl rfl (WL.off rfl rfl rfl (WL.off rfl rfl rfl (WL.off rfl rfl rfl (WL.off rfl rfl rfl (WL.off rfl rfl rfl (WL.off rfl rfl rfl (WL.off rfl rfl rfl (WL.off rfl rfl rfl (WL.off rfl rfl rfl (WL.ev rfl rfl (Ev.pickF rfl rfl rfl) (WL.ev rfl rfl (Ev.as rfl rfl) (WL.nil ?_))))))))))))
        refine CW.ret ?_
        exact ⟨_, res1 rfl rfl rfl, (((hEb1.trans hEw2).trans hEw3).trans hEw4), bF (fun hb => h3 hb.2.2.1)⟩
    · skip
      refine WL.off rfl rfl rfl (WL.off rfl rfl rfl (WL.off rfl rfl rfl (WL.off rfl rfl rfl (WL.off rfl rfl rfl (WL.ev rfl rfl (Ev.pickF rfl rfl rfl) (WL.ev rfl rfl (Ev.mv rfl rfl) (WL.off rfl rfl rfl (WL.off rfl rfl rfl (WL.off rfl rfl rfl (WL.off rfl rfl rfl (WL.off rfl rfl rfl (WL.off rfl rfl rfl (WL.off rfl rfl rfl (WL.off rfl rfl rfl (WL.off rfl rfl rfl (WL.off rfl rfl rfl (WL.ev rfl rfl (Ev.pickF rfl rfl rfl) (WL.ev rfl rfl (Ev.as rfl rfl) (WL.nil ?_)))))))))))))))))))
      refine CW.ret ?_
      exact ⟨_, res1 rfl rfl rfl, ((hEb1.trans hEw2).trans hEw3), bF (fun hb => h2 hb.2.1)⟩
  · skip
    refine WL.off rfl rfl rfl (WL.off rfl rfl rfl (WL.off rfl rfl rfl (WL.off rfl rfl rfl (WL.off rfl rfl rfl (WL.ev rfl rfl (Ev.pickF rfl rfl rfl) (WL.ev rfl rfl (Ev.mv rfl rfl) (WL.off rfl rfl rfl (WL.off rfl rfl rfl (WL.off rfl rfl rfl (WL.off rfl rfl rfl (WL.off rfl rfl rfl (WL.ev rfl rfl (Ev.pickF rfl rfl rfl) (WL.ev rfl rfl (Ev.mv rfl rfl) (WL.off rfl rfl rfl (WL.off rfl rfl rfl (WL.off rfl rfl rfl (WL.off rfl rfl rfl (WL.off rfl rfl rfl (WL.off rfl rfl rfl (WL.off rfl rfl rfl (WL.off rfl rfl rfl (WL.off rfl rfl rfl (WL.off rfl rfl rfl (WL.ev rfl rfl (Ev.pickF rfl rfl rfl) (WL.ev rfl rfl (Ev.as rfl rfl) (WL.nil ?_))))))))))))))))))))))))))
    refine CW.ret ?_
    exact ⟨_, res1 rfl rfl rfl, (hEb1.trans hEw2), bF (fun hb => h1 hb.1)⟩

theorem sHasLoop_spec (w : World) {S1 : Nat → Prop} (r : Relation) {cr : List Value} (hr : rd S1 w r cr) (br : Sz.szd r ≤ 1048576) :
    Ret Try.prog 42 #[.agg cr.toArray] w (fun _ => False) fun v w' => v = .bool (loopR r) := by
  refine enter Try.func42 rfl rfl rfl ?_
  have hK1 := hr
  obtain ⟨v1, rfl, hr1, hs1⟩ := hr
  obtain ⟨A1, c1, rfl, hc1, hm1⟩ := hs1.form
  rw [Relation_szd] at br
  have := szL_length r.Rows
  have hcl := closeR_length r
  have hcN := closeR_N r
  refine CW.seq (CW.reg ?_)
  refine WL.box rfl rfl rfl rfl rfl fun b1 w1 hEb1 hbb1 hBb1 => ?_
  refine WL.ev rfl rfl (Ev.as rfl rfl) (WL.nil ?_)
  refine CW.seq (CW.seq (CW.reg ?_))
  refine WL.ev rfl rfl (Ev.lda rfl ag39 sz39 rfl (At.blk hBb1) rfl) ?_
  refine WL.call rfl rfl rfl rfl rfl ok23 rfl (sIsValidRelation_spec _ r (rd_ext hK1 hEb1)) ?_
  rintro _ w2 hEw2 rfl
  refine WL.ev rfl rfl (Ev.not rfl rfl) (WL.nil ?_)
  refine CW.condN rfl (fun h1 => ?_) (fun h1 => ?_)
  · skip
    refine CW.seq (CW.reg ?_)
    refine WL.ev rfl rfl (Ev.as rfl rfl) (WL.nil ?_)
    refine CW.ret ?_
    exact ⟨_, res1 rfl rfl rfl, (hEb1.trans hEw2), congrArg Value.bool (loopR_bad h1).symm⟩
  · skip
    have hv1 := h1.1
    have hv2 := h1.2.1
    have hv3 := h1.2.2.1
    have hv0 := h1
    refine CW.skip ?_
    refine CW.seq (CW.reg ?_)
    refine WL.ev rfl rfl (Ev.lda rfl ag39 sz39 rfl (At.blk (hBb1.ext hEw2)) rfl) ?_
    refine WL.call rfl rfl rfl rfl rfl ok40 rfl (sClose_spec _ r (rd_ext hK1 (hEb1.trans hEw2)) (by omega)) ?_
    rintro _ w3 hEw3 ⟨_, rfl, L2, ⟨v2, _, rfl, hr2, rfl, hO2⟩, hN2, hF2⟩
    obtain ⟨A2, c2, rfl, hc2, hm2⟩ := hO2.form
    refine WL.alloc rfl rfl rfl ze39 fun b2 w4 hEb2 hbb2 hBb2 => ?_
    refine WL.st rfl rfl rfl sz39 rfl rfl rfl rfl (all1 rfl (all1 rfl all0)) hBb2 (Nat.le_of_ble_eq_true rfl) fun w5 hCw5 hB_1 => ?_
    have hT1 := Blk.chg1 (hBb1.ext ((hEw2.trans hEw3).trans hEb2)) hCw5 (by have := hBb1.lt; have := hbb2; have := hEw2.size; have := hEw3.size; omega)
    have hT2 := ownS.chg1 (hO2.ext hEb2) hCw5 (fun q hq e => by subst e; have := hO2.lt _ hq; have := hbb2; omega)
    have hX1 := Ext.chg1 (((hEb1.trans hEw2).trans hEw3).trans hEb2) hCw5 (by have := hbb2; have := hEb1.size; have := hEw2.size; have := hEw3.size; omega)
    refine WL.nil ?_
    refine CW.seq (CW.seq (CW.reg ?_))
    refine WL.ev rfl rfl (Ev.as rfl rfl) (WL.nil ?_)
    refine CW.block (CW.loop (α := Nat) (fun q => [(1, .pointer (some ⟨b1, 0, none⟩)), (3, .pointer (some ⟨b2, 0, none⟩)), (4, .int .i64 (q : Int))]) (fun q wr => Chg (fun z => w.heap.size ≤ z) w5 wr ∧ q ≤ r.Rows.length ∧ (∀ i : Nat, i < q → ¬ hasP (closeR r) (i : Int) (i : Int)) ∧ Blk wr b1 39 [.int .i64 r.N, .slice A1 r.Rows.length c1] ∧ Blk wr b2 39 [.int .i64 ((closeR r).N), .slice A2 (closeR r).Rows.length c2] ∧ ownS L2 wr ((closeR r).Rows) (.slice A2 (closeR r).Rows.length c2)) (fun q => r.Rows.length - q) 0 ⟨rfl, rfl, rfl, trivial⟩ ⟨Chg.refl _, by omega, fun i hi => absurd hi (Nat.not_lt_zero _), hT1, hB_1, hT2⟩ ?_)
    rintro k σ wr1 ⟨hEwr1, hk, hno, hLB1, hLB2, hLO1⟩
    
    have hX2 : Ext w wr1 := Ext.trans_chg hX1 hEwr1 fun _ h => h
    refine CW.seq (CW.seq (CW.reg ?_))
    refine WL.ev rfl rfl (Ev.mv rfl rfl) (WL.ev rfl rfl (Ev.fa rfl fo39_0 rfl) (WL.ev rfl rfl (Ev.ld rfl ag3 rfl (hLB1.cell rfl)) (WL.ev rfl rfl (Ev.bin rfl rfl rfl Bin.lss) (WL.nil ?_))))
    refine CW.condD rfl (fun h2 => ?_) (fun h2 => ?_)
    · skip
      refine CW.skip ?_
      refine CW.seq (CW.block (CW.seq (CW.reg ?_)))
      refine WL.ev rfl rfl (Ev.lda rfl ag39 sz39 rfl (At.blk hLB2) rfl) (WL.ev rfl rfl (Ev.mv rfl rfl) (WL.ev rfl rfl (Ev.mv rfl rfl) ?_))
      refine WL.call rfl rfl rfl rfl rfl ok27 rfl (sHasPair_spec _ (closeR r) (show rd _ _ (closeR r) _ from ⟨_, rfl, hr2, hLO1.rd⟩) _ (by constructor <;> omega) _ (by constructor <;> omega)) ?_
      rintro _ w6 hEw6 rfl
      refine WL.nil ?_
      refine CW.condD rfl (fun h3 => ?_) (fun h3 => ?_)
      · skip
        refine CW.seq (CW.reg ?_)
        refine WL.ev rfl rfl (Ev.as rfl rfl) (WL.nil ?_)
        refine CW.ret ?_
        exact ⟨_, res1 rfl rfl rfl, (hX2.trans hEw6), congrArg Value.bool (loopR_yes (by omega) h3).symm⟩
      · skip
        refine CW.skip ?_
        refine CW.reg ?_
        refine WL.ev rfl rfl (Ev.mv rfl rfl) (WL.ev rfl rfl (Ev.bin rfl rfl rfl (Bin.add (by omega))) (WL.ev rfl rfl (Ev.as rfl rfl) (WL.nil ?_)))
        exact ⟨k + 1, ⟨rfl, rfl, rfl, trivial⟩, ⟨(hEwr1.trans_ext hEw6), by omega, no_step (p := fun i => hasP (closeR r) (i : Int) (i : Int)) hno h3, (hLB1.ext hEw6), (hLB2.ext hEw6), (hLO1.ext hEw6)⟩, by omega⟩
    · skip
      refine CW.exit ?_
      refine CW.seq (CW.reg ?_)
      refine WL.ev rfl rfl (Ev.as rfl rfl) (WL.nil ?_)
      refine CW.ret ?_
      exact ⟨_, res1 rfl rfl rfl, hX2, congrArg Value.bool (loopR_no (by omega) hno).symm⟩

theorem CloneInt_spec (w : World) {S1 : Nat → Prop} (l : List Int) {zl : Value} (hl : rdS S1 w l zl) (bl : szL l ≤ 1048576) :
    Ret Try.prog 96 #[zl] w (fun _ => False) fun v w' => NewS w w' (l) v := by
  refine enter Try.func96 rfl rfl rfl ?_
  obtain ⟨A1, c1, rfl, hc1, hm1⟩ := hl.form
  have hl1 : l.length ≤ 9223372036854775807 := Nat.le_trans hc1 hm1
  have nl := szL_length l
  refine CW.seq (CW.reg ?_)
  refine WL.ev rfl rfl (Ev.as rfl rfl) (WL.nil ?_)
  refine CW.seq (CW.seq (CW.reg ?_))
  refine WL.ev rfl rfl (Ev.mv rfl rfl) (WL.ev rfl rfl (Ev.bin rfl rfl rfl (Bin.eqlNil el34)) (WL.nil ?_))
  refine CW.condD rfl (fun h1 => ?_) (fun h1 => ?_)
  · skip
    refine CW.seq (CW.reg ?_)
    refine WL.ev rfl rfl (Ev.as rfl rfl) (WL.nil ?_)
    refine CW.ret ?_
    have e0 : l = [] := rdS.nil_of hl h1
    subst e0
    exact ⟨_, res1 rfl rfl rfl, (Ext.refl _), [], ownS.nil (by decide), List.nodup_nil, by simp⟩
  · skip
    refine CW.skip ?_
    refine CW.seq (CW.reg ?_)
    refine WL.lit0 rfl rfl rfl el34 sz3 fun g w1 hE1 hg hBg => ?_
    refine WL.ev rfl rfl (Ev.mv rfl rfl) ?_
    refine WL.app0 rfl rfl rfl el34 sz3 by3 ze3 rfl rfl rfl (hl.ext hE1) (by omega) fun v2 w2 hE2 hn => ?_
    refine WL.ev rfl rfl (Ev.as rfl rfl) (WL.nil ?_)
    refine CW.ret ?_
    obtain ⟨L, h1, h2, h3⟩ := hn
    exact ⟨_, res1 rfl rfl rfl, (hE1.trans hE2), L, h1, h2, fun q hq => by have := h3 q hq; have := hE1.size; omega⟩

theorem copyRelation_spec (w : World) {S1 : Nat → Prop} (r : Relation) {cr : List Value} (hr : rd S1 w r cr) (br : Sz.szd r ≤ 1048576) :
    Ret Try.prog 73 #[.agg cr.toArray] w (fun _ => False) fun v w' => ∃ cs, v = .agg cs.toArray ∧ New w w' (r) cs := by
  refine enter Try.func73 rfl rfl rfl ?_
  have hK1 := hr
  obtain ⟨v1, rfl, hr1, hs1⟩ := hr
  obtain ⟨A1, c1, rfl, hc1, hm1⟩ := hs1.form
  rw [Relation_szd] at br
  have := szL_length r.Rows
  refine CW.seq (CW.reg ?_)
  refine WL.box rfl rfl rfl rfl rfl fun b1 w1 hEb1 hbb1 hBb1 => ?_
  refine WL.alloc rfl rfl rfl ze39 fun b2 w2 hEb2 hbb2 hBb2 => ?_
  refine WL.nil ?_
  refine CW.seq (CW.anyE 5 (fun ρ => [.inl (.pointer (some ⟨b1, 0 + 0, none⟩)), .inl (.int .i64 (r.N)), .inl (.pointer (some ⟨b1, 0 + 1, none⟩)), .inl (.slice A1 r.Rows.length c1), .inr (fun S v w => ∃ L, ownS L w (r.Rows) v ∧ L.Nodup ∧ ∀ q ∈ L, S q)]) hmix (by kernel_rfl) ⟨trivial, trivial, trivial, trivial, fun _ _ _ _ ⟨L, h, h1, h2⟩ hE => ⟨L, h.ext hE, h1, h2⟩, trivial⟩ ?_)
  refine LL.fx rfl rfl rfl (fun _ hq hK => Ev.fa rfl fo39_0 rfl) ?_
  refine LL.fx rfl rfl rfl (fun _ hq hK => Ev.ld rfl ag3 rfl ((hBb1.ext (hEb2.trans hq)).cell rfl)) ?_
  refine LL.fx rfl rfl rfl (fun _ hq hK => Ev.fa rfl fo39_1 rfl) ?_
  refine LL.fx rfl rfl rfl (fun _ hq hK => Ev.ld rfl ag34 rfl ((hBb1.ext (hEb2.trans hq)).cell rfl)) ?_
  refine LL.free rfl rfl (fun wq hq hK => ?_) (fun v_1_4 S_1_4 => ?_)
  · refine OpX.call rfl rfl rfl rfl ok96 rfl (CloneInt_spec _ r.Rows (hs1.ext ((hEb1.trans hEb2).trans hq)) (by omega)) ?_
    rintro v w' hE ⟨L, h1, h2, h3⟩
    exact ⟨hE, L, h1, h2, fun q hq => ⟨h3 q hq, h1.lt q hq⟩⟩
  intro w3 hEw3 hKr1 hap1 hbd1
  obtain ⟨L3, hO3, hN3, hS1⟩ : ∃ L, ownS L w3 (r.Rows) v_1_4 ∧ L.Nodup ∧ ∀ q ∈ L, S_1_4 q := hKr1 4 (by decide)
  have hF3 : ∀ q ∈ L3, w2.heap.size ≤ q := fun q hq => (hbd1 4 q (hS1 q hq)).1
  obtain ⟨A4, c4, rfl, hc4, hm4⟩ := hO3.form
  refine WL.ev rfl rfl (Ev.build rfl pl39 ze39 rfl rfl rfl rfl) ?_
  refine WL.st rfl rfl rfl sz39 rfl rfl rfl rfl (all1 rfl (all1 rfl all0)) (hBb2.ext hEw3) (Nat.le_of_ble_eq_true rfl) fun w4 hCw4 hB_1 => ?_
  have hT1 := Blk.chg1 (hBb1.ext (hEb2.trans hEw3)) hCw4 (by have := hBb1.lt; have := hbb2; omega)
  have hT2 := ownS.chg1 hO3 hCw4 (fun q hq e => by subst e; have := hBb2.lt; have := hF3 _ hq; omega)
  have hX1 := Ext.chg1 ((hEb1.trans hEb2).trans hEw3) hCw4 (by have := hbb2; have := hEb1.size; omega)
  refine WL.nil ?_
  refine CW.ret ?_
  refine ⟨_, resC rfl ag39 sz39 rfl rfl (At.blk hB_1) rfl, hX1, _, rfl, ?_⟩
  exact ⟨_, ⟨_, _, rfl, by first | assumption | (constructor <;> omega) | omega, rfl, hT2⟩, hN3, fun q hq => by have := hF3 _ hq; have := hEb1.size; have := hEb2.size; omega⟩

theorem IndexFuncInt_spec (w : World) {S : Nat → Prop} (l : List Int) {zl : Value} (hl : rdS S w l zl) {f : FuncId} {caps : Array Value} {p : Int → Bool} (hok : callable Try.prog f = true) (hf : ∀ w2, Ext w w2 → ∀ x, x ∈ l → Ret Try.prog f ([Value.int .i64 x] ++ caps.toList).toArray w2 (fun _ => False) fun v _ => v = .bool (p x)) :
    Ret Try.prog 95 #[zl, .func (.func f) #[] caps] w (fun _ => False) fun v w' => v = .int .i64 (ixP l p) := by
  refine enter Try.func95 rfl rfl rfl ?_
  obtain ⟨A1, c1, rfl, hc1, hm1⟩ := hl.form
  have hl1 : l.length ≤ 9223372036854775807 := Nat.le_trans hc1 hm1
  refine CW.seq (CW.reg ?_)
  refine WL.ev rfl rfl (Ev.as rfl rfl) (WL.nil ?_)
  refine CW.seq (CW.seq (CW.reg ?_))
  refine WL.ev rfl rfl (Ev.mv rfl rfl) (WL.ev rfl rfl (Ev.lenS rfl el34 rfl) (WL.ev rfl rfl (Ev.mv rfl rfl) (WL.nil ?_)))
  refine CW.block (CW.loop (α := Nat) (fun q => [(0, .slice A1 l.length c1), (1, .func (.func f) #[] caps), (7, .int .i64 (l.length : Int)), (8, .int .i64 (q : Int))]) (fun q wr => Ext w wr ∧ q ≤ l.length ∧ ∀ x ∈ l.take q, p x = false) (fun q => l.length - q) 0 ⟨rfl, rfl, rfl, rfl, trivial⟩ ⟨Ext.refl _, by omega, by simp⟩ ?_)
  rintro k σ wr1 ⟨hEwr1, hk, hpre⟩
  refine CW.seq (CW.reg ?_)
  refine WL.ev rfl rfl (Ev.bin rfl rfl rfl Bin.lss) (WL.nil ?_)
  refine CW.seq (CW.condD rfl (fun h1 => ?_) (fun h1 => ?_))
  · skip
    refine CW.skip ?_
    refine CW.seq (CW.block (CW.seq (CW.reg ?_)))
    refine WL.ev rfl rfl (Ev.mv rfl rfl) (WL.ev rfl rfl (Ev.as rfl rfl) (WL.nil ?_))
    refine CW.seq (CW.reg ?_)
    refine WL.ev rfl rfl (Ev.mv rfl rfl) (WL.ev rfl rfl (Ev.mv rfl rfl) (WL.ev rfl rfl (Ev.mv rfl rfl) ?_))
    obtain ⟨xe1, be1, oe1, cse1, hxe1, hAe1, hSe1, hre1, hAte1⟩ := rdS.el (hl.ext hEwr1) (i := k) (by omega)
    have hK1 := hre1
    obtain ⟨rfl, hr1⟩ := hre1
    refine WL.ev rfl rfl (Ev.ixA rfl el34 sz3 rfl hAe1 rfl (by omega)) (WL.ev rfl rfl (Ev.ld rfl ag3 rfl (hAte1.cell0 rfl)) ?_)
    refine WL.call rfl rfl rfl rfl rfl hok rfl (hf _ hEwr1 _ (List.mem_of_getElem? hxe1)) ?_
    rintro _ w1 hEw1 rfl
    refine WL.nil ?_
    refine CW.cond rfl (fun h2 => ?_) (fun h2 => ?_)
    · skip
      refine CW.seq (CW.reg ?_)
      refine WL.ev rfl rfl (Ev.mv rfl rfl) (WL.ev rfl rfl (Ev.as rfl rfl) (WL.nil ?_))
      refine CW.ret ?_
      exact ⟨_, res1 rfl rfl rfl, (hEwr1.trans hEw1), vI (ixP_found hpre hxe1 h2).symm⟩
    · skip
      refine CW.skip ?_
      refine CW.reg ?_
      refine WL.ev rfl rfl (Ev.bin rfl rfl rfl (Bin.add (by omega))) (WL.ev rfl rfl (Ev.mv rfl rfl) (WL.nil ?_))
      exact ⟨k + 1, ⟨rfl, rfl, rfl, rfl, trivial⟩, ⟨(hEwr1.trans hEw1), by omega, ixP_step hpre hxe1 h2⟩, by omega⟩
  · skip
    refine CW.exit ?_
    refine CW.seq (CW.reg ?_)
    refine WL.ev rfl rfl (Ev.as rfl rfl) (WL.nil ?_)
    refine CW.ret ?_
    exact ⟨_, res1 rfl rfl rfl, hEwr1, vI (ixP_none hpre (by omega)).symm⟩

theorem ContainsFuncInt_spec (w : World) {S : Nat → Prop} (l : List Int) {zl : Value} (hl : rdS S w l zl) {f : FuncId} {caps : Array Value} {p : Int → Bool} (hok : callable Try.prog f = true) (hf : ∀ w2, Ext w w2 → ∀ x, x ∈ l → Ret Try.prog f ([Value.int .i64 x] ++ caps.toList).toArray w2 (fun _ => False) fun v _ => v = .bool (p x)) :
    Ret Try.prog 70 #[zl, .func (.func f) #[] caps] w (fun _ => False) fun v w' => v = .bool (l.any p) := by
  refine enter Try.func70 rfl rfl rfl ?_
  obtain ⟨A1, c1, rfl, hc1, hm1⟩ := hl.form
  have hl1 : l.length ≤ 9223372036854775807 := Nat.le_trans hc1 hm1
  refine CW.seq (CW.reg ?_)
  refine WL.ev rfl rfl (Ev.as rfl rfl) (WL.nil ?_)
  refine CW.seq (CW.reg ?_)
  refine WL.ev rfl rfl (Ev.mv rfl rfl) (WL.ev rfl rfl (Ev.mv rfl rfl) ?_)
  refine WL.call rfl rfl rfl rfl rfl ok95 rfl (IndexFuncInt_spec _ l hl hok hf) ?_
  rintro _ w1 hEw1 rfl
  refine WL.ev rfl rfl (Ev.bin rfl rfl rfl Bin.geq) (WL.ev rfl rfl (Ev.as rfl rfl) (WL.nil ?_))
  refine CW.ret ?_
  refine ⟨_, res1 rfl rfl rfl, hEw1, ?_⟩
  exact congrArg Value.bool ixP_nonneg

theorem within_spec (w : World) (x : Int) (hx : I64 x) (lo : Int) (hlo : I64 lo) (hi : Int) (hhi : I64 hi) :
    Ret Try.prog 69 #[.int .i64 x, .int .i64 lo, .int .i64 hi] w (fun _ => False) fun v w' => v = .bool (decide (lo ≤ x ∧ x ≤ hi)) := by
  refine enter Try.func69 rfl rfl rfl ?_
  refine CW.seq (CW.reg ?_)
  refine WL.ev rfl rfl (Ev.as rfl rfl) (WL.nil ?_)
  refine CW.seq (CW.reg ?_)
  refine WL.ev rfl rfl (Ev.mv rfl rfl) (WL.ev rfl rfl (Ev.mv rfl rfl) (WL.ev rfl rfl (Ev.bin rfl rfl rfl Bin.geq) ?_))
  refine WL.mvD rfl rfl rfl rfl (fun h1 => ?_) (fun h1 => ?_)
  · skip
    refine WL.on rfl rfl (WL.ev rfl rfl (Ev.mv rfl rfl) (WL.on rfl rfl (WL.ev rfl rfl (Ev.mv rfl rfl) (WL.on rfl rfl (WL.ev rfl rfl (Ev.bin rfl rfl rfl Bin.leq) (WL.ev rfl rfl (Ev.pickT rfl rfl rfl) (WL.ev rfl rfl (Ev.as rfl rfl) (WL.nil ?_))))))))
    refine CW.ret ?_
    exact ⟨_, res1 rfl rfl rfl, (Ext.refl _), bD (by omega)⟩
  · skip
    refine WL.off rfl rfl rfl (WL.off rfl rfl rfl (WL.off rfl rfl rfl (WL.ev rfl rfl (Ev.pickF rfl rfl rfl) (WL.ev rfl rfl (Ev.as rfl rfl) (WL.nil ?_)))))
    refine CW.ret ?_
    exact ⟨_, res1 rfl rfl rfl, (Ext.refl _), bF (by omega)⟩

theorem IsValid1_spec (w : World) (x : Int) (hx : I64 x) {b : Nat} {r : Relation} {z : Value} (h0 : 0 ≤ r.N) (h1 : r.N ≤ 16) (hB : Blk w b 39 [.int .i64 r.N, z]) :
    Ret Try.prog 71 #[.int .i64 x, .pointer (some ⟨b, 0, none⟩)] w (fun _ => False) fun v w' => v = .bool (!decide (0 ≤ x ∧ x ≤ ((2 ^ r.N.toNat : Nat) : Int) - 1)) := by
  refine enter Try.func71 rfl rfl rfl ?_
  have hpw := pow16 (n := r.N) (by omega)
  have hpp := pow_pos' r.N
  refine CW.seq (CW.reg ?_)
  refine WL.ev rfl rfl (Ev.as rfl rfl) (WL.nil ?_)
  refine CW.seq (CW.reg ?_)
  refine WL.ev rfl rfl (Ev.mv rfl rfl) (WL.ev rfl rfl (Ev.fa rfl fo39_0 rfl) (WL.ev rfl rfl (Ev.ld rfl ag3 rfl (hB.cell rfl)) (WL.ev rfl rfl (Ev.convUI rfl Try.underlying3 it83 rfl (by omega) (by omega)) (WL.ev rfl rfl (Ev.bin rfl rfl rfl (Bin.shlI (by omega) (by omega))) ?_))))
  have hbd1 := shl_bd r.N (by omega)
  refine WL.ev rfl rfl (Ev.bin rfl rfl rfl (Bin.sub (by omega))) ?_
  refine WL.call rfl rfl rfl rfl rfl ok69 rfl (within_spec _ _ (by constructor <;> omega) _ (by constructor <;> omega) _ (by constructor <;> omega)) ?_
  rintro _ w1 hEw1 rfl
  refine WL.ev rfl rfl (Ev.not rfl rfl) (WL.ev rfl rfl (Ev.as rfl rfl) (WL.nil ?_))
  refine CW.ret ?_
  exact ⟨_, res1 rfl rfl rfl, hEw1, rfl⟩

theorem iIsValidRelation_spec (w : World) {S1 : Nat → Prop} (r : Relation) {cr : List Value} (hr : rd S1 w r cr) :
    Ret Try.prog 25 #[.agg cr.toArray] w (fun _ => False) fun v w' => v = .bool (decide (Valid r)) := by
  refine enter Try.func25 rfl rfl rfl ?_
  have hK1 := hr
  obtain ⟨v1, rfl, hr1, hs1⟩ := hr
  obtain ⟨A1, c1, rfl, hc1, hm1⟩ := hs1.form
  refine CW.seq (CW.reg ?_)
  refine WL.box rfl rfl rfl rfl rfl fun b1 w1 hEb1 hbb1 hBb1 => ?_
  refine WL.ev rfl rfl (Ev.as rfl rfl) (WL.nil ?_)
  refine CW.seq (CW.reg ?_)
  refine WL.ev rfl rfl (Ev.fa rfl fo39_0 rfl) (WL.ev rfl rfl (Ev.ld rfl ag3 rfl (hBb1.cell rfl)) ?_)
  refine WL.call rfl rfl rfl rfl rfl ok69 rfl (within_spec _ _ (by constructor <;> omega) _ (by constructor <;> omega) _ (by constructor <;> omega)) ?_
  rintro _ w2 hEw2 rfl
  refine WL.mvD rfl rfl rfl rfl (fun h1 => ?_) (fun h1 => ?_)
  · skip
    refine WL.on rfl rfl (WL.ev rfl rfl (Ev.fa rfl fo39_1 rfl) (WL.on rfl rfl (WL.ev rfl rfl (Ev.ld rfl ag34 rfl ((hBb1.ext hEw2).cell rfl)) (WL.on rfl rfl (WL.ev rfl rfl (Ev.lenS rfl el34 rfl) (WL.on rfl rfl (WL.ev rfl rfl (Ev.fa rfl fo39_0 rfl) (WL.on rfl rfl (WL.ev rfl rfl (Ev.ld rfl ag3 rfl ((hBb1.ext hEw2).cell rfl)) (WL.on rfl rfl (WL.ev rfl rfl (Ev.bin rfl rfl rfl Bin.eql) (WL.ev rfl rfl (Ev.pickT rfl rfl rfl) ?_))))))))))))
    refine WL.mvD rfl rfl rfl rfl (fun h2 => ?_) (fun h2 => ?_)
    · skip
      refine WL.on rfl rfl (WL.ev rfl rfl (Ev.fa rfl fo39_1 rfl) (WL.on rfl rfl (WL.ev rfl rfl (Ev.ld rfl ag34 rfl ((hBb1.ext hEw2).cell rfl)) (WL.on rfl rfl (WL.ev rfl rfl (Ev.mkfL rfl rfl rfl) (WL.on rfl rfl ?_))))))
      have hrng := rdS_i64 (hs1.ext (hEb1.trans hEw2))
      refine WL.call rfl rfl rfl rfl rfl ok70 rfl (ContainsFuncInt_spec (f := 71) (caps := #[.pointer (some ⟨b1, 0, none⟩)]) _ r.Rows (hs1.ext (hEb1.trans hEw2)) ok71 (fun w2 hx x hm => IsValid1_spec w2 x (hrng x hm) (r := r) (by omega) (by omega) ((hBb1.ext hEw2).ext hx))) ?_
      rintro _ w3 hEw3 rfl
      refine WL.on rfl rfl (WL.ev rfl rfl (Ev.not rfl rfl) (WL.ev rfl rfl (Ev.pickT rfl rfl rfl) (WL.ev rfl rfl (Ev.as rfl rfl) (WL.nil ?_))))
      refine CW.ret ?_
      refine ⟨_, res1 rfl rfl rfl, ((hEb1.trans hEw2).trans hEw3), congrArg Value.bool ?_⟩
      rw [valid_any (by omega) (by omega) (by omega)]
    · skip
      refine WL.off rfl rfl rfl (WL.off rfl rfl rfl (WL.off rfl rfl rfl (WL.off rfl rfl rfl (WL.off rfl rfl rfl (WL.ev rfl rfl (Ev.pickF rfl rfl rfl) (WL.ev rfl rfl (Ev.as rfl rfl) (WL.nil ?_)))))))
      refine CW.ret ?_
      exact ⟨_, res1 rfl rfl rfl, (hEb1.trans hEw2), bF (fun hv => by have := hv.1; have := hv.2.1; have := hv.2.2.1; omega)⟩
  · skip
    refine WL.off rfl rfl rfl (WL.off rfl rfl rfl (WL.off rfl rfl rfl (WL.off rfl rfl rfl (WL.off rfl rfl rfl (WL.off rfl rfl rfl (WL.ev rfl rfl (Ev.pickF rfl rfl rfl) (WL.ev rfl rfl (Ev.mv rfl rfl) (WL.off rfl rfl rfl (WL.off rfl rfl rfl (WL.off rfl rfl rfl (WL.off rfl rfl rfl (WL.off rfl rfl rfl (WL.ev rfl rfl (Ev.pickF rfl rfl rfl) (WL.ev rfl rfl (Ev.as rfl rfl) (WL.nil ?_)))))))))))))))
    refine CW.ret ?_
    exact ⟨_, res1 rfl rfl rfl, (hEb1.trans hEw2), bF (fun hv => by have := hv.1; have := hv.2.1; have := hv.2.2.1; omega)⟩

theorem iClose_spec (w : World) {S1 : Nat → Prop} (r : Relation) {cr : List Value} (hr : rd S1 w r cr) (br : Sz.szd r ≤ 1048576) :
    Ret Try.prog 41 #[.agg cr.toArray] w (fun _ => False) fun v w' => ∃ cs, v = .agg cs.toArray ∧ New w w' (closeR r) cs := by
  refine enter Try.func41 rfl rfl rfl ?_
  have hK1 := hr
  obtain ⟨v1, rfl, hr1, hs1⟩ := hr
  obtain ⟨A1, c1, rfl, hc1, hm1⟩ := hs1.form
  rw [Relation_szd] at br
  have := szL_length r.Rows
  refine CW.seq (CW.reg ?_)
  refine WL.box rfl rfl rfl rfl rfl fun b1 w1 hEb1 hbb1 hBb1 => ?_
  refine WL.alloc rfl rfl rfl ze39 fun b2 w2 hEb2 hbb2 hBb2 => ?_
  refine WL.nil ?_
  refine CW.seq (CW.reg ?_)
  refine WL.ev rfl rfl (Ev.lda rfl ag39 sz39 rfl (At.blk (hBb1.ext hEb2)) rfl) ?_
  refine WL.call rfl rfl rfl rfl rfl ok73 rfl (copyRelation_spec _ r (rd_ext hK1 (hEb1.trans hEb2)) (by omega)) ?_
  rintro _ w3 hEw3 ⟨_, rfl, L2, ⟨v2, _, rfl, hr2, rfl, hO2⟩, hN2, hF2⟩
  obtain ⟨A2, c2, rfl, hc2, hm2⟩ := hO2.form
  refine WL.alloc rfl rfl rfl ze39 fun b3 w4 hEb3 hbb3 hBb3 => ?_
  refine WL.st rfl rfl rfl sz39 rfl rfl rfl rfl (all1 rfl (all1 rfl all0)) hBb3 (Nat.le_of_ble_eq_true rfl) fun w5 hCw5 hB_1 => ?_
  have hT1 := Blk.chg1 (hBb1.ext ((hEb2.trans hEw3).trans hEb3)) hCw5 (by have := hBb1.lt; have := hbb3; have := hEb2.size; have := hEw3.size; omega)
  have hT2 := Blk.chg1 (hBb2.ext (hEw3.trans hEb3)) hCw5 (by have := hBb2.lt; have := hbb3; have := hEw3.size; omega)
  have hT3 := ownS.chg1 (hO2.ext hEb3) hCw5 (fun q hq e => by subst e; have := hO2.lt _ hq; have := hbb3; omega)
  have hX1 := Ext.chg1 (((hEb1.trans hEb2).trans hEw3).trans hEb3) hCw5 (by have := hbb3; have := hEb1.size; have := hEb2.size; have := hEw3.size; omega)
  refine WL.nil ?_
  refine CW.seq (CW.seq (CW.reg ?_))
  refine WL.ev rfl rfl (Ev.lda rfl ag39 sz39 rfl (At.blk hT1) rfl) ?_
  refine WL.call rfl rfl rfl rfl rfl ok25 rfl (iIsValidRelation_spec _ r (rd_ext hK1 hX1)) ?_
  rintro _ w6 hEw6 rfl
  refine WL.ev rfl rfl (Ev.not rfl rfl) (WL.nil ?_)
  refine CW.condN rfl (fun h1 => ?_) (fun h1 => ?_)
  · skip
    refine CW.seq (CW.reg ?_)
    refine WL.ev rfl rfl (Ev.lda rfl ag39 sz39 rfl (At.blk (hB_1.ext hEw6)) rfl) ?_
    refine WL.st rfl rfl rfl sz39 rfl rfl rfl rfl (all1 rfl (all1 rfl all0)) (hT2.ext hEw6) (Nat.le_of_ble_eq_true rfl) fun w7 hCw7 hB_2 => ?_
    have hT4 := Blk.chg1 (hT1.ext hEw6) hCw7 (by have := hBb1.lt; have := hbb2; omega)
    have hT5 := ownS.chg1 (hT3.ext hEw6) hCw7 (fun q hq e => by subst e; have := hBb2.lt; have := hF2 _ hq; omega)
    have hT6 := Blk.chg1 (hB_1.ext hEw6) hCw7 (by have := hBb2.lt; have := hbb3; have := hEw3.size; omega)
    have hX2 := Ext.chg1 (hX1.trans hEw6) hCw7 (by have := hbb2; have := hEb1.size; omega)
    refine WL.nil ?_
    refine CW.ret ?_
    refine ⟨_, resC rfl ag39 sz39 rfl rfl (At.blk hB_2) rfl, hX2, _, rfl, ?_⟩
    rw [show closeR r = r from if_neg h1]
    exact ⟨_, ⟨_, _, rfl, by first | assumption | (constructor <;> omega) | omega, rfl, hT5⟩, hN2, fun q hq => by have := hF2 _ hq; have := hEb1.size; have := hEb2.size; omega⟩
  · skip
    have hv1 := h1.1
    have hv2 := h1.2.1
    have hv3 := h1.2.2.1
    have hv0 := h1
    refine CW.skip ?_
    refine CW.seq (CW.seq (CW.reg ?_))
    refine WL.ev rfl rfl (Ev.fa rfl fo39_1 rfl) (WL.ev rfl rfl (Ev.ld rfl ag34 rfl ((hB_1.ext hEw6).cell rfl)) (WL.ev rfl rfl (Ev.lenS rfl el34 rfl) (WL.ev rfl rfl (Ev.mv rfl rfl) (WL.nil ?_))))
    refine CW.block (CW.loop (α := Nat) (fun q => [(1, .pointer (some ⟨b1, 0, none⟩)), (2, .pointer (some ⟨b2, 0, none⟩)), (3, .pointer (some ⟨b3, 0, none⟩)), (14, .int .i64 (r.Rows.length : Int)), (15, .int .i64 (q : Int))]) (fun q wr => Chg (fun z => w.heap.size ≤ z) w6 wr ∧ q ≤ r.Rows.length ∧ Blk wr b1 39 [.int .i64 r.N, .slice A1 r.Rows.length c1] ∧ Blk wr b2 39 [.int .i64 0, .slice none 0 0] ∧ Blk wr b3 39 [.int .i64 r.N, .slice A2 r.Rows.length c2] ∧ ownS L2 wr (closeTo r.Rows q) (.slice A2 r.Rows.length c2)) (fun q => r.Rows.length - q) 0 ⟨rfl, rfl, rfl, rfl, rfl, trivial⟩ ⟨Chg.refl _, by omega, (hT1.ext hEw6), (hT2.ext hEw6), (hB_1.ext hEw6), (hT3.ext hEw6)⟩ ?_)
    rintro k σ wr1 ⟨hEwr1, hk, hLB1, hLB2, hLB3, hLO1⟩
    
    have hX3 : Ext w wr1 := Ext.trans_chg (hX1.trans hEw6) hEwr1 fun _ h => h
    refine CW.seq (CW.reg ?_)
    refine WL.ev rfl rfl (Ev.bin rfl rfl rfl Bin.lss) (WL.nil ?_)
    refine CW.seq (CW.condD rfl (fun h2 => ?_) (fun h2 => ?_))
    · skip
      refine CW.skip ?_
      refine CW.seq (CW.block (CW.seq (CW.reg ?_)))
      refine WL.ev rfl rfl (Ev.mv rfl rfl) (WL.ev rfl rfl (Ev.as rfl rfl) (WL.nil ?_))
      refine CW.seq (CW.reg ?_)
      refine WL.ev rfl rfl (Ev.fa rfl fo39_1 rfl) (WL.ev rfl rfl (Ev.ld rfl ag34 rfl (hLB3.cell rfl)) (WL.ev rfl rfl (Ev.lenS rfl el34 rfl) (WL.ev rfl rfl (Ev.mv rfl rfl) (WL.nil ?_))))
      refine CW.block (CW.loop (α := Nat) (fun q => [(1, .pointer (some ⟨b1, 0, none⟩)), (2, .pointer (some ⟨b2, 0, none⟩)), (3, .pointer (some ⟨b3, 0, none⟩)), (4, .int .i64 (k : Int)), (14, .int .i64 (r.Rows.length : Int)), (15, .int .i64 (k : Int)), (20, .int .i64 (r.Rows.length : Int)), (21, .int .i64 (q : Int))]) (fun q wr => Chg (fun z => w.heap.size ≤ z) wr1 wr ∧ q ≤ r.Rows.length ∧ Blk wr b1 39 [.int .i64 r.N, .slice A1 r.Rows.length c1] ∧ Blk wr b2 39 [.int .i64 0, .slice none 0 0] ∧ Blk wr b3 39 [.int .i64 r.N, .slice A2 r.Rows.length c2] ∧ ownS L2 wr (closeRow (closeTo r.Rows k) k q) (.slice A2 r.Rows.length c2)) (fun q => r.Rows.length - q) 0 ⟨rfl, rfl, rfl, rfl, rfl, rfl, rfl, rfl, trivial⟩ ⟨Chg.refl _, by omega, hLB1, hLB2, hLB3, hLO1⟩ ?_)
      rintro j σ wr2 ⟨hEwr2, hj, hLB4, hLB5, hLB6, hLO2⟩
      
      have hX4 : Ext w wr2 := Ext.trans_chg hX3 hEwr2 fun _ h => h
      refine CW.seq (CW.reg ?_)
      refine WL.ev rfl rfl (Ev.bin rfl rfl rfl Bin.lss) (WL.nil ?_)
      refine CW.seq (CW.condD rfl (fun h3 => ?_) (fun h3 => ?_))
      · skip
        refine CW.skip ?_
        refine CW.seq (CW.block (CW.seq (CW.reg ?_)))
        refine WL.ev rfl rfl (Ev.mv rfl rfl) (WL.ev rfl rfl (Ev.as rfl rfl) (WL.nil ?_))
        refine CW.seq (CW.reg ?_)
        refine WL.ev rfl rfl (Ev.fa rfl fo39_1 rfl) (WL.ev rfl rfl (Ev.ld rfl ag34 rfl (hLB6.cell rfl)) (WL.ev rfl rfl (Ev.mv rfl rfl) ?_))
        obtain ⟨xe1, be1, oe1, cse1, hxe1, hAe1, hSe1, hre1, hAte1⟩ := rdS.el hLO2.rd (i := j) (by omega)
        have hK2 := hre1
        obtain ⟨rfl, hr3⟩ := hre1
        have hbxe1 := close_el hv0 hxe1
        refine WL.ev rfl rfl (Ev.ixA rfl el34 sz3 rfl hAe1 rfl (by omega)) (WL.ev rfl rfl (Ev.ld rfl ag3 rfl (hAte1.cell0 rfl)) (WL.ev rfl rfl (Ev.mv rfl rfl) (WL.ev rfl rfl (Ev.convUI rfl Try.underlying3 it83 rfl (by omega) (by omega)) (WL.ev rfl rfl (Ev.bin rfl rfl rfl (Bin.shrI (by omega) (by omega) (by omega))) ?_))))
        have hbd1 := shr_bd xe1 ((k : Int))
        refine WL.ev rfl rfl (Ev.bin rfl rfl rfl (Bin.andI (by omega) (by omega) (by omega) (by omega))) (WL.ev rfl rfl (Ev.bin rfl rfl rfl Bin.eql) (WL.nil ?_))
        refine CW.condD rfl (fun h4 => ?_) (fun h4 => ?_)
        · skip
          refine CW.quietT 12 hmix (by kernel_rfl) ?_
          refine QL.ev rfl rfl (fun _ _ => Ev.fa rfl fo39_1 rfl) (QL.ev rfl rfl (fun _ hq => Ev.ld rfl ag34 rfl ((hLB6.ext hq).cell rfl)) (QL.ev rfl rfl (fun _ _ => Ev.mv rfl rfl) (QL.ev rfl rfl (fun _ _ => Ev.ixA rfl el34 sz3 rfl hAe1 rfl (by omega)) (QL.ev rfl rfl (fun _ hq => Ev.ld rfl ag3 rfl ((hAte1.ext hq).cell0 rfl)) (QL.ev rfl rfl (fun _ _ => Ev.fa rfl fo39_1 rfl) (QL.ev rfl rfl (fun _ hq => Ev.ld rfl ag34 rfl ((hLB6.ext hq).cell rfl)) (QL.ev rfl rfl (fun _ _ => Ev.mv rfl rfl) ?_)))))))
          obtain ⟨xe2, be2, oe2, cse2, hxe2, hAe2, hSe2, hre2, hAte2⟩ := rdS.el hLO2.rd (i := k) (by omega)
          have hK3 := hre2
          obtain ⟨rfl, hr4⟩ := hre2
          have hbxe2 := close_el hv0 hxe2
          refine QL.ev rfl rfl (fun _ _ => Ev.ixA rfl el34 sz3 rfl hAe2 rfl (by omega)) (QL.ev rfl rfl (fun _ hq => Ev.ld rfl ag3 rfl ((hAte2.ext hq).cell0 rfl)) (QL.ev rfl rfl (fun _ _ => Ev.bin rfl rfl rfl (Bin.orI (by omega) (by omega) (by omega) (by omega))) (QL.ev rfl rfl (fun _ _ => Ev.ixA rfl el34 sz3 rfl hAe1 rfl (by omega)) (QL.nil (fun w8 hEw8 => ?_)))))
          have hbd2 := or_bd xe1 xe2 (by omega) (by omega)
          refine WL.stO rfl rfl rfl sz3 rfl rfl (by constructor <;> omega) (hLO2.ext hEw8) hN2 hAe1 (by (try simp only [List.length_set, closeRow_length, closeTo_length]); omega) fun w9 hCw9 hO_1 => ?_
          have hT7 := Blk.chgL (hLB4.ext hEw8) hCw9 (fun hq => by have := hBb1.lt; have := hF2 _ hq; have := hEb2.size; omega)
          have hT8 := Blk.chgL (hLB5.ext hEw8) hCw9 (fun hq => by have := hBb2.lt; have := hF2 _ hq; omega)
          have hT9 := Blk.chgL (hLB6.ext hEw8) hCw9 (fun hq => by have := hO2.lt _ hq; have := hbb3; omega)
          have hX5 := Ext.chgL (hX4.trans hEw8) hCw9 (fun q hq => by have := hF2 _ hq; have := hEb1.size; have := hEb2.size; omega)
          refine WL.nil ?_
          refine CW.reg ?_
          refine WL.ev rfl rfl (Ev.bin rfl rfl rfl (Bin.add (by omega))) (WL.ev rfl rfl (Ev.mv rfl rfl) (WL.nil ?_))
          refine ⟨j + 1, ⟨rfl, rfl, rfl, rfl, rfl, rfl, rfl, rfl, trivial⟩, ⟨((hEwr2.trans_ext hEw8).trL hCw9 (fun q hq => by have := hF2 _ hq; have := hEb1.size; have := hEb2.size; omega)), by omega, hT7, hT8, hT9, ?_⟩, by omega⟩
          rw [closeRow_succ, close_yes hxe1 hxe2 h4]
          exact hO_1
        · skip
          refine CW.skip ?_
          refine CW.reg ?_
          refine WL.ev rfl rfl (Ev.bin rfl rfl rfl (Bin.add (by omega))) (WL.ev rfl rfl (Ev.mv rfl rfl) (WL.nil ?_))
          refine ⟨j + 1, ⟨rfl, rfl, rfl, rfl, rfl, rfl, rfl, rfl, trivial⟩, ⟨hEwr2, by omega, hLB4, hLB5, hLB6, ?_⟩, by omega⟩
          rw [closeRow_succ, close_no hxe1 h4]
          exact hLO2
      · skip
        refine CW.exit ?_
        refine CW.reg ?_
        refine WL.ev rfl rfl (Ev.bin rfl rfl rfl (Bin.add (by omega))) (WL.ev rfl rfl (Ev.mv rfl rfl) (WL.nil ?_))
        refine ⟨k + 1, ⟨rfl, rfl, rfl, rfl, rfl, trivial⟩, ⟨(hEwr1.trans hEwr2), by omega, hLB4, hLB5, hLB6, ?_⟩, by omega⟩
        obtain rfl : j = r.Rows.length := by omega
        rw [closeTo_succ]
        exact hLO2
    · skip
      refine CW.exit ?_
      refine CW.seq (CW.reg ?_)
      refine WL.ev rfl rfl (Ev.lda rfl ag39 sz39 rfl (At.blk hLB3) rfl) ?_
      refine WL.st rfl rfl rfl sz39 rfl rfl rfl rfl (all1 rfl (all1 rfl all0)) hLB2 (Nat.le_of_ble_eq_true rfl) fun w10 hCw10 hB_3 => ?_
      have hT10 := Blk.chg1 hLB1 hCw10 (by have := hBb1.lt; have := hbb2; omega)
      have hT11 := ownS.chg1 hLO1 hCw10 (fun q hq e => by subst e; have := hBb2.lt; have := hF2 _ hq; omega)
      have hT12 := Blk.chg1 hLB3 hCw10 (by have := hBb2.lt; have := hbb3; have := hEw3.size; omega)
      have hX6 := Ext.chg1 hX3 hCw10 (by have := hbb2; have := hEb1.size; omega)
      refine WL.nil ?_
      refine CW.ret ?_
      obtain rfl : k = r.Rows.length := by omega
      refine ⟨_, resC rfl ag39 sz39 rfl rfl (At.blk hB_3) rfl, hX6, _, rfl, ?_⟩
      rw [show closeR r = ⟨r.N, closeTo r.Rows r.Rows.length⟩ from if_pos h1]
      exact ⟨_, ⟨_, _, rfl, by first | assumption | (constructor <;> omega) | omega, rfl, hT11⟩, hN2, fun q hq => by have := hF2 _ hq; have := hEb1.size; have := hEb2.size; omega⟩

theorem iHasPair_spec (w : World) {S1 : Nat → Prop} (r : Relation) {cr : List Value} (hr : rd S1 w r cr) (i : Int) (hi : I64 i) (k : Int) (hk : I64 k) :
    Ret Try.prog 28 #[.agg cr.toArray, .int .i64 i, .int .i64 k] w (fun _ => False) fun v w' => v = .bool (decide (hasP r i k)) := by
  refine enter Try.func28 rfl rfl rfl ?_
  have hK1 := hr
  obtain ⟨v1, rfl, hr1, hs1⟩ := hr
  obtain ⟨A1, c1, rfl, hc1, hm1⟩ := hs1.form
  refine CW.seq (CW.reg ?_)
  refine WL.box rfl rfl rfl rfl rfl fun b1 w1 hEb1 hbb1 hBb1 => ?_
  refine WL.ev rfl rfl (Ev.as rfl rfl) (WL.nil ?_)
  refine CW.seq (CW.reg ?_)
  refine WL.ev rfl rfl (Ev.lda rfl ag39 sz39 rfl (At.blk hBb1) rfl) ?_
  refine WL.call rfl rfl rfl rfl rfl ok25 rfl (iIsValidRelation_spec _ r (rd_ext hK1 hEb1)) ?_
  rintro _ w2 hEw2 rfl
  refine WL.mvD rfl rfl rfl rfl (fun h1 => ?_) (fun h1 => ?_)
  · skip
    have hv1 := h1.1
    have hv2 := h1.2.1
    have hv3 := h1.2.2.1
    refine WL.on rfl rfl (WL.ev rfl rfl (Ev.mv rfl rfl) (WL.on rfl rfl (WL.ev rfl rfl (Ev.fa rfl fo39_0 rfl) (WL.on rfl rfl (WL.ev rfl rfl (Ev.ld rfl ag3 rfl ((hBb1.ext hEw2).cell rfl)) (WL.on rfl rfl (WL.ev rfl rfl (Ev.bin rfl rfl rfl (Bin.sub (by omega))) (WL.on rfl rfl ?_))))))))
    refine WL.call rfl rfl rfl rfl rfl ok69 rfl (within_spec _ _ (by constructor <;> omega) _ (by constructor <;> omega) _ (by constructor <;> omega)) ?_
    rintro _ w3 hEw3 rfl
    refine WL.ev rfl rfl (Ev.pickT rfl rfl rfl) ?_
    refine WL.mvD rfl rfl rfl rfl (fun h2 => ?_) (fun h2 => ?_)
    · skip
      refine WL.on rfl rfl (WL.ev rfl rfl (Ev.mv rfl rfl) (WL.on rfl rfl (WL.ev rfl rfl (Ev.fa rfl fo39_0 rfl) (WL.on rfl rfl (WL.ev rfl rfl (Ev.ld rfl ag3 rfl ((hBb1.ext (hEw2.trans hEw3)).cell rfl)) (WL.on rfl rfl (WL.ev rfl rfl (Ev.bin rfl rfl rfl (Bin.sub (by omega))) (WL.on rfl rfl ?_))))))))
      refine WL.call rfl rfl rfl rfl rfl ok69 rfl (within_spec _ _ (by constructor <;> omega) _ (by constructor <;> omega) _ (by constructor <;> omega)) ?_
      rintro _ w4 hEw4 rfl
      refine WL.ev rfl rfl (Ev.pickT rfl rfl rfl) ?_
      refine WL.mvD rfl rfl rfl rfl (fun h3 => ?_) (fun h3 => ?_)
      · skip
        refine WL.on rfl rfl (WL.ev rfl rfl (Ev.fa rfl fo39_1 rfl) (WL.on rfl rfl (WL.ev rfl rfl (Ev.ld rfl ag34 rfl ((hBb1.ext ((hEw2.trans hEw3).trans hEw4)).cell rfl)) (WL.on rfl rfl (WL.ev rfl rfl (Ev.mv rfl rfl) (WL.on rfl rfl ?_))))))
        obtain ⟨xe1, be1, oe1, cse1, hxe1, hAe1, hSe1, hre1, hAte1⟩ := rdS.el (hs1.ext (((hEb1.trans hEw2).trans hEw3).trans hEw4)) (i := i.toNat) (by omega)
        have hK2 := hre1
        obtain ⟨rfl, hr2⟩ := hre1
        have hrow := h1.row (i := i) h2 hxe1
        refine WL.ev rfl rfl (Ev.ixAI rfl el34 sz3 rfl hAe1 rfl (by omega) (by omega)) (WL.on rfl rfl (WL.ev rfl rfl (Ev.ld rfl ag3 rfl (hAte1.cell0 rfl)) (WL.on rfl rfl (WL.ev rfl rfl (Ev.mv rfl rfl) (WL.on rfl rfl (WL.ev rfl rfl (Ev.convUI rfl Try.underlying3 it83 rfl (by omega) (by omega)) (WL.on rfl rfl (WL.ev rfl rfl (Ev.bin rfl rfl rfl (Bin.shrI (by omega) (by omega) (by omega))) (WL.on rfl rfl ?_)))))))))
        have hbd1 := shr_bd xe1 k
        refine WL.ev rfl rfl (Ev.bin rfl rfl rfl (Bin.andI (by omega) (by omega) (by omega) (by omega))) (WL.on rfl rfl (WL.ev rfl rfl (Ev.bin rfl rfl rfl Bin.eql) (WL.ev rfl rfl (Ev.pickT rfl rfl rfl) (WL.ev rfl rfl (Ev.as rfl rfl) (WL.nil ?_)))))
        refine CW.ret ?_
        refine ⟨_, res1 rfl rfl rfl, (((hEb1.trans hEw2).trans hEw3).trans hEw4), bD ⟨fun hb => ⟨h1, h2, h3, ?_⟩, fun hb => ?_⟩⟩
        · unfold bit; rw [hrow.1]; exact bit_of hb
        · have := hb.2.2.2; unfold bit at this; rw [hrow.1] at this; exact of_bit this
      · skip
        refine WL.off rfl rfl rfl (WL.off rfl rfl rfl (WL.off rfl rfl rfl (WL.off rfl rfl rfl (WL.off rfl rfl rfl (WL.off rfl rfl rfl (WL.off rfl rfl rfl (WL.off rfl rfl rfl (WL.off rfl rfl rfl (WL.off rfl rfl rfl (WL.ev rfl rfl (Ev.pickF rfl rfl rfl) (WL.ev rfl rfl (Ev.as rfl rfl) (WL.nil ?_))))))))))))
        refine CW.ret ?_
        exact ⟨_, res1 rfl rfl rfl, (((hEb1.trans hEw2).trans hEw3).trans hEw4), bF (fun hb => h3 hb.2.2.1)⟩
    · skip
      refine WL.off rfl rfl rfl (WL.off rfl rfl rfl (WL.off rfl rfl rfl (WL.off rfl rfl rfl (WL.off rfl rfl rfl (WL.ev rfl rfl (Ev.pickF rfl rfl rfl) (WL.ev rfl rfl (Ev.mv rfl rfl) (WL.off rfl rfl rfl (WL.off rfl rfl rfl (WL.off rfl rfl rfl (WL.off rfl rfl rfl (WL.off rfl rfl rfl (WL.off rfl rfl rfl (WL.off rfl rfl rfl (WL.off rfl rfl rfl (WL.off rfl rfl rfl (WL.off rfl rfl rfl (WL.ev rfl rfl (Ev.pickF rfl rfl rfl) (WL.ev rfl rfl (Ev.as rfl rfl) (WL.nil ?_)))))))))))))))))))
      refine CW.ret ?_
      exact ⟨_, res1 rfl rfl rfl, ((hEb1.trans hEw2).trans hEw3), bF (fun hb => h2 hb.2.1)⟩
  · skip
    refine WL.off rfl rfl rfl (WL.off rfl rfl rfl (WL.off rfl rfl rfl (WL.off rfl rfl rfl (WL.off rfl rfl rfl (WL.ev rfl rfl (Ev.pickF rfl rfl rfl) (WL.ev rfl rfl (Ev.mv rfl rfl) (WL.off rfl rfl rfl (WL.off rfl rfl rfl (WL.off rfl rfl rfl (WL.off rfl rfl rfl (WL.off rfl rfl rfl (WL.ev rfl rfl (Ev.pickF rfl rfl rfl) (WL.ev rfl rfl (Ev.mv rfl rfl) (WL.off rfl rfl rfl (WL.off rfl rfl rfl (WL.off rfl rfl rfl (WL.off rfl rfl rfl (WL.off rfl rfl rfl (WL.off rfl rfl rfl (WL.off rfl rfl rfl (WL.off rfl rfl rfl (WL.off rfl rfl rfl (WL.off rfl rfl rfl (WL.ev rfl rfl (Ev.pickF rfl rfl rfl) (WL.ev rfl rfl (Ev.as rfl rfl) (WL.nil ?_))))))))))))))))))))))))))
    refine CW.ret ?_
    exact ⟨_, res1 rfl rfl rfl, (hEb1.trans hEw2), bF (fun hb => h1 hb.1)⟩

theorem iHasLoop_spec (w : World) {S1 : Nat → Prop} (r : Relation) {cr : List Value} (hr : rd S1 w r cr) (br : Sz.szd r ≤ 1048576) :
    Ret Try.prog 43 #[.agg cr.toArray] w (fun _ => False) fun v w' => v = .bool (loopR r) := by
  refine enter Try.func43 rfl rfl rfl ?_
  have hK1 := hr
  obtain ⟨v1, rfl, hr1, hs1⟩ := hr
  obtain ⟨A1, c1, rfl, hc1, hm1⟩ := hs1.form
  rw [Relation_szd] at br
  have := szL_length r.Rows
  have hcl := closeR_length r
  have hcN := closeR_N r
  refine CW.seq (CW.reg ?_)
  refine WL.box rfl rfl rfl rfl rfl fun b1 w1 hEb1 hbb1 hBb1 => ?_
  refine WL.ev rfl rfl (Ev.as rfl rfl) (WL.nil ?_)
  refine CW.seq (CW.reg ?_)
  refine WL.ev rfl rfl (Ev.lda rfl ag39 sz39 rfl (At.blk hBb1) rfl) ?_
  refine WL.call rfl rfl rfl rfl rfl ok41 rfl (iClose_spec _ r (rd_ext hK1 hEb1) (by omega)) ?_
  rintro _ w2 hEw2 ⟨_, rfl, L2, ⟨v2, _, rfl, hr2, rfl, hO2⟩, hN2, hF2⟩
  obtain ⟨A2, c2, rfl, hc2, hm2⟩ := hO2.form
  refine WL.alloc rfl rfl rfl ze39 fun b2 w3 hEb2 hbb2 hBb2 => ?_
  refine WL.st rfl rfl rfl sz39 rfl rfl rfl rfl (all1 rfl (all1 rfl all0)) hBb2 (Nat.le_of_ble_eq_true rfl) fun w4 hCw4 hB_1 => ?_
  have hT1 := Blk.chg1 (hBb1.ext (hEw2.trans hEb2)) hCw4 (by have := hBb1.lt; have := hbb2; have := hEw2.size; omega)
  have hT2 := ownS.chg1 (hO2.ext hEb2) hCw4 (fun q hq e => by subst e; have := hO2.lt _ hq; have := hbb2; omega)
  have hX1 := Ext.chg1 ((hEb1.trans hEw2).trans hEb2) hCw4 (by have := hbb2; have := hEb1.size; have := hEw2.size; omega)
  refine WL.nil ?_
  refine CW.seq (CW.seq (CW.reg ?_))
  refine WL.ev rfl rfl (Ev.fa rfl fo39_1 rfl) (WL.ev rfl rfl (Ev.ld rfl ag34 rfl (hB_1.cell rfl)) (WL.ev rfl rfl (Ev.lenS rfl el34 rfl) (WL.ev rfl rfl (Ev.mv rfl rfl) (WL.nil ?_))))
  refine CW.block (CW.loop (α := Nat) (fun q => [(1, .pointer (some ⟨b1, 0, none⟩)), (3, .pointer (some ⟨b2, 0, none⟩)), (9, .int .i64 ((closeR r).Rows.length : Int)), (10, .int .i64 (q : Int))]) (fun q wr => Chg (fun z => w.heap.size ≤ z) w4 wr ∧ q ≤ r.Rows.length ∧ (∀ i : Nat, i < q → ¬ hasP (closeR r) (i : Int) (i : Int)) ∧ Blk wr b1 39 [.int .i64 r.N, .slice A1 r.Rows.length c1] ∧ Blk wr b2 39 [.int .i64 ((closeR r).N), .slice A2 (closeR r).Rows.length c2] ∧ ownS L2 wr ((closeR r).Rows) (.slice A2 (closeR r).Rows.length c2)) (fun q => r.Rows.length - q) 0 ⟨rfl, rfl, rfl, rfl, trivial⟩ ⟨Chg.refl _, by omega, fun i hi => absurd hi (Nat.not_lt_zero _), hT1, hB_1, hT2⟩ ?_)
  rintro k σ wr1 ⟨hEwr1, hk, hno, hLB1, hLB2, hLO1⟩
  
  have hX2 : Ext w wr1 := Ext.trans_chg hX1 hEwr1 fun _ h => h
  refine CW.seq (CW.reg ?_)
  refine WL.ev rfl rfl (Ev.bin rfl rfl rfl Bin.lss) (WL.nil ?_)
  refine CW.seq (CW.condD rfl (fun h1 => ?_) (fun h1 => ?_))
  · skip
    refine CW.skip ?_
    refine CW.seq (CW.block (CW.seq (CW.reg ?_)))
    refine WL.ev rfl rfl (Ev.mv rfl rfl) (WL.ev rfl rfl (Ev.as rfl rfl) (WL.nil ?_))
    refine CW.seq (CW.reg ?_)
    refine WL.ev rfl rfl (Ev.lda rfl ag39 sz39 rfl (At.blk hLB2) rfl) (WL.ev rfl rfl (Ev.mv rfl rfl) (WL.ev rfl rfl (Ev.mv rfl rfl) ?_))
    refine WL.call rfl rfl rfl rfl rfl ok28 rfl (iHasPair_spec _ (closeR r) (show rd _ _ (closeR r) _ from ⟨_, rfl, hr2, hLO1.rd⟩) _ (by constructor <;> omega) _ (by constructor <;> omega)) ?_
    rintro _ w5 hEw5 rfl
    refine WL.nil ?_
    refine CW.condD rfl (fun h2 => ?_) (fun h2 => ?_)
    · skip
      refine CW.seq (CW.reg ?_)
      refine WL.ev rfl rfl (Ev.as rfl rfl) (WL.nil ?_)
      refine CW.ret ?_
      exact ⟨_, res1 rfl rfl rfl, (hX2.trans hEw5), congrArg Value.bool (loopR_yes (by omega) h2).symm⟩
    · skip
      refine CW.skip ?_
      refine CW.reg ?_
      refine WL.ev rfl rfl (Ev.bin rfl rfl rfl (Bin.add (by omega))) (WL.ev rfl rfl (Ev.mv rfl rfl) (WL.nil ?_))
      exact ⟨k + 1, ⟨rfl, rfl, rfl, rfl, trivial⟩, ⟨(hEwr1.trans_ext hEw5), by omega, no_step (p := fun i => hasP (closeR r) (i : Int) (i : Int)) hno h2, (hLB1.ext hEw5), (hLB2.ext hEw5), (hLO1.ext hEw5)⟩, by omega⟩
  · skip
    refine CW.exit ?_
    refine CW.seq (CW.reg ?_)
    refine WL.ev rfl rfl (Ev.as rfl rfl) (WL.nil ?_)
    refine CW.ret ?_
    exact ⟨_, res1 rfl rfl rfl, hX2, congrArg Value.bool (loopR_no (by omega) hno).symm⟩

theorem eqIntS_spec (w : World) {S S2 : Nat → Prop} (x y : List Int) {z z2 : Value} (hx : rdS S w x z) (hy : rdS S2 w y z2) :
    Ret Try.prog 47 #[z, z2] w (fun _ => False) fun v _ => v = .bool (decide (x = y)) := by
  refine enter Try.func47 rfl rfl rfl ?_
  obtain ⟨A1, c1, rfl, hc1, hm1⟩ := hx.form
  have hl1 : x.length ≤ 9223372036854775807 := Nat.le_trans hc1 hm1
  obtain ⟨A2, c2, rfl, hc2, hm2⟩ := hy.form
  have hl2 : y.length ≤ 9223372036854775807 := Nat.le_trans hc2 hm2
  refine CW.seq (CW.reg ?_)
  refine WL.ev rfl rfl (Ev.as rfl rfl) (WL.nil ?_)
  refine CW.seq (CW.seq (CW.reg ?_))
  refine WL.ev rfl rfl (Ev.mv rfl rfl) (WL.ev rfl rfl (Ev.lenS rfl el34 rfl) (WL.ev rfl rfl (Ev.mv rfl rfl) (WL.ev rfl rfl (Ev.lenS rfl el34 rfl) (WL.ev rfl rfl (Ev.bin rfl rfl rfl Bin.neq) (WL.nil ?_)))))
  refine CW.condN rfl (fun h1 => ?_) (fun h1 => ?_)
  · skip
    refine CW.seq (CW.reg ?_)
    refine WL.ev rfl rfl (Ev.as rfl rfl) (WL.nil ?_)
    refine CW.ret ?_
    have e : x ≠ y := fun e => h1 (by rw [e])
    exact ⟨_, res1 rfl rfl rfl, (Ext.refl _), vB (by simp [e])⟩
  · skip
    refine CW.skip ?_
    refine CW.seq (CW.seq (CW.reg ?_))
    refine WL.ev rfl rfl (Ev.as rfl rfl) (WL.nil ?_)
    refine CW.block (CW.loop (α := Nat) (fun q => [(0, .slice A1 x.length c1), (1, .slice A2 y.length c2), (5, .int .i64 (q : Int))]) (fun q wr => Ext w wr ∧ q ≤ x.length ∧ x.take q = y.take q) (fun q => x.length - q) 0 ⟨rfl, rfl, rfl, trivial⟩ ⟨Ext.refl _, by omega, rfl⟩ ?_)
    rintro k σ wr1 ⟨hEwr1, hk, hpre⟩
    refine CW.seq (CW.seq (CW.reg ?_))
    refine WL.ev rfl rfl (Ev.mv rfl rfl) (WL.ev rfl rfl (Ev.mv rfl rfl) (WL.ev rfl rfl (Ev.lenS rfl el34 rfl) (WL.ev rfl rfl (Ev.bin rfl rfl rfl Bin.lss) (WL.nil ?_))))
    refine CW.condD rfl (fun h2 => ?_) (fun h2 => ?_)
    · skip
      refine CW.skip ?_
      refine CW.seq (CW.block (CW.seq (CW.quiet hmix (by kernel_rfl) ?_)))
      refine QL.ev rfl rfl (fun _ _ => Ev.mv rfl rfl) (QL.ev rfl rfl (fun _ _ => Ev.mv rfl rfl) ?_)
      obtain ⟨xe1, be1, oe1, cse1, hxe1, hAe1, hSe1, hre1, hAte1⟩ := rdS.el (hx.ext hEwr1) (i := k) (by omega)
      have hK1 := hre1
      obtain ⟨rfl, hr1⟩ := hre1
      refine QL.ev rfl rfl (fun _ _ => Ev.ixA rfl el34 sz3 rfl hAe1 rfl (by omega)) (QL.ev rfl rfl (fun _ hq => Ev.ld rfl ag3 rfl ((hAte1.ext hq).cell0 rfl)) (QL.ev rfl rfl (fun _ _ => Ev.mv rfl rfl) (QL.ev rfl rfl (fun _ _ => Ev.mv rfl rfl) ?_)))
      obtain ⟨xe2, be2, oe2, cse2, hxe2, hAe2, hSe2, hre2, hAte2⟩ := rdS.el (hy.ext hEwr1) (i := k) (by omega)
      have hK2 := hre2
      obtain ⟨rfl, hr2⟩ := hre2
      refine QL.ev rfl rfl (fun _ _ => Ev.ixA rfl el34 sz3 rfl hAe2 rfl (by omega)) (QL.ev rfl rfl (fun _ hq => Ev.ld rfl ag3 rfl ((hAte2.ext hq).cell0 rfl)) (QL.ev rfl rfl (fun _ _ => Ev.bin rfl rfl rfl Bin.neq) (QL.nil (fun w1 hEw1 => ?_))))
      refine CW.condN rfl (fun h3 => ?_) (fun h3 => ?_)
      · skip
        refine CW.seq (CW.reg ?_)
        refine WL.ev rfl rfl (Ev.as rfl rfl) (WL.nil ?_)
        refine CW.ret ?_
        have e : x ≠ y := ne_of_at hxe1 hxe2 h3
        exact ⟨_, res1 rfl rfl rfl, (hEwr1.trans hEw1), vB (by simp [e])⟩
      · skip
        refine CW.skip ?_
        refine CW.reg ?_
        refine WL.ev rfl rfl (Ev.mv rfl rfl) (WL.ev rfl rfl (Ev.bin rfl rfl rfl (Bin.add (by omega))) (WL.ev rfl rfl (Ev.as rfl rfl) (WL.nil ?_)))
        exact ⟨k + 1, ⟨rfl, rfl, rfl, trivial⟩, ⟨(hEwr1.trans hEw1), by omega, take_succ_eq hpre hxe1 hxe2 h3⟩, by omega⟩
    · skip
      refine CW.exit ?_
      refine CW.seq (CW.reg ?_)
      refine WL.ev rfl rfl (Ev.as rfl rfl) (WL.nil ?_)
      refine CW.ret ?_
      have e : x = y := eq_of_take (by omega) (by omega) hpre
      exact ⟨_, res1 rfl rfl rfl, hEwr1, vB (by simp [e])⟩

theorem eqRelation_spec (w : World) {S S2 : Nat → Prop} (x y : Relation) {cs ds : List Value} (hx : rd S w x cs) (hy : rd S2 w y ds) :
    Ret Try.prog 26 #[.agg cs.toArray, .agg ds.toArray] w (fun _ => False) fun v _ => v = .bool (decide (x = y)) := by
  refine enter Try.func26 rfl rfl rfl ?_
  have hK1 := hx
  obtain ⟨v1, rfl, hr1, hs1⟩ := hx
  obtain ⟨A1, c1, rfl, hc1, hm1⟩ := hs1.form
  have hK2 := hy
  obtain ⟨v2, rfl, hr2, hs2⟩ := hy
  obtain ⟨A2, c2, rfl, hc2, hm2⟩ := hs2.form
  refine CW.seq (CW.reg ?_)
  refine WL.box rfl rfl rfl rfl rfl fun b1 w1 hEb1 hbb1 hBb1 => ?_
  refine WL.box rfl rfl rfl rfl rfl fun b2 w2 hEb2 hbb2 hBb2 => ?_
  refine WL.ev rfl rfl (Ev.as rfl rfl) (WL.nil ?_)
  refine CW.seq (CW.seq (CW.reg ?_))
  refine WL.ev rfl rfl (Ev.fa rfl fo39_0 rfl) (WL.ev rfl rfl (Ev.ld rfl ag3 rfl ((hBb1.ext hEb2).cell rfl)) (WL.ev rfl rfl (Ev.fa rfl fo39_0 rfl) (WL.ev rfl rfl (Ev.ld rfl ag3 rfl (hBb2.cell rfl)) (WL.ev rfl rfl (Ev.bin rfl rfl rfl Bin.neq) (WL.nil ?_)))))
  refine CW.condN rfl (fun h1 => ?_) (fun h1 => ?_)
  · skip
    refine CW.seq (CW.reg ?_)
    refine WL.ev rfl rfl (Ev.as rfl rfl) (WL.nil ?_)
    refine CW.ret ?_
    have e : x ≠ y := by rintro rfl; exact h1 rfl
    exact ⟨_, res1 rfl rfl rfl, (hEb1.trans hEb2), vB (by simp [e])⟩
  · skip
    refine CW.skip ?_
    refine CW.seq (CW.seq (CW.reg ?_))
    refine WL.ev rfl rfl (Ev.fa rfl fo39_1 rfl) (WL.ev rfl rfl (Ev.ld rfl ag34 rfl ((hBb1.ext hEb2).cell rfl)) (WL.ev rfl rfl (Ev.fa rfl fo39_1 rfl) (WL.ev rfl rfl (Ev.ld rfl ag34 rfl (hBb2.cell rfl)) ?_)))
    refine WL.call rfl rfl rfl rfl rfl ok47 rfl (eqIntS_spec _ x.Rows y.Rows (hs1.ext (hEb1.trans hEb2)) (hs2.ext (hEb1.trans hEb2))) ?_
    rintro _ w3 hEw3 rfl
    refine WL.ev rfl rfl (Ev.not rfl rfl) (WL.nil ?_)
    refine CW.condN rfl (fun h2 => ?_) (fun h2 => ?_)
    · skip
      refine CW.seq (CW.reg ?_)
      refine WL.ev rfl rfl (Ev.as rfl rfl) (WL.nil ?_)
      refine CW.ret ?_
      have e : x ≠ y := by rintro rfl; exact h2 rfl
      exact ⟨_, res1 rfl rfl rfl, ((hEb1.trans hEb2).trans hEw3), vB (by simp [e])⟩
    · skip
      refine CW.skip ?_
      refine CW.seq (CW.reg ?_)
      refine WL.ev rfl rfl (Ev.as rfl rfl) (WL.nil ?_)
      refine CW.ret ?_
      have e : x = y := by cases x; cases y; simp_all
      exact ⟨_, res1 rfl rfl rfl, ((hEb1.trans hEb2).trans hEw3), vB (by simp [e])⟩

theorem FnExactHasLoop_law (w : World) {Sr : Nat → Prop} (r : Relation) {cr : List Value} (hr : rd Sr w r cr) :
    Ret Try.prog 10 #[.agg cr.toArray] w (fun _ => False) fun v _ => v = .bool true := by
  refine enter Try.func10 rfl rfl rfl ?_
  have hK1 := hr
  obtain ⟨v1, rfl, hr1, hs1⟩ := hr
  obtain ⟨A1, c1, rfl, hc1, hm1⟩ := hs1.form
  have qr := Relation_szd r
  refine CW.seq (CW.reg ?_)
  refine WL.box rfl rfl rfl rfl rfl fun b1 w1 hEb1 hbb1 hBb1 => ?_
  refine WL.ev rfl rfl (Ev.as rfl rfl) (WL.nil ?_)
  refine CW.seq (CW.reg ?_)
  refine WL.ev rfl rfl (Ev.as rfl rfl) (WL.nil ?_)
  refine CW.seq (CW.reg ?_)
  refine WL.ev rfl rfl (Ev.lda rfl ag36 sz36 rfl (At.blk hBb1) rfl) (WL.ev rfl rfl (Ev.mv rfl rfl) ?_)
  refine WL.call rfl rfl rfl rfl rfl ok22 rfl (szRelation_spec _ r (rd_ext hK1 hEb1) _ (by omega) (by omega)) ?_
  rintro _ w2 hEw2 ⟨r1, rfl, hr2⟩
  have hq1 := Relation_szd r
  refine WL.ev rfl rfl (Ev.as rfl rfl) (WL.nil ?_)
  refine CW.fresh [(1, .pointer (some ⟨b1, 0, none⟩)), (2, .bool false), (3, .int .i64 (r1))] ⟨rfl, rfl, rfl, trivial⟩ fun σ => ?_
  refine CW.seq (CW.seq (CW.reg ?_))
  refine WL.ev rfl rfl (Ev.mv rfl rfl) (WL.ev rfl rfl (Ev.bin rfl rfl rfl Bin.lss) (WL.nil ?_))
  refine CW.condD rfl (fun h1 => ?_) (fun h1 => ?_)
  · skip
    refine CW.fresh [(1, .pointer (some ⟨b1, 0, none⟩)), (2, .bool false)] ⟨rfl, rfl, trivial⟩ fun σ => ?_
    refine CW.seq (CW.reg ?_)
    refine WL.ev rfl rfl (Ev.as rfl rfl) (WL.nil ?_)
    refine CW.ret ?_
    exact ⟨_, res1 rfl rfl rfl, (hEb1.trans hEw2), rfl⟩
  · skip
    refine CW.skip ?_
    refine CW.fresh [(1, .pointer (some ⟨b1, 0, none⟩)), (2, .bool false)] ⟨rfl, rfl, trivial⟩ fun σ => ?_
    refine CW.seq (CW.reg ?_)
    refine WL.ev rfl rfl (Ev.lda rfl ag36 sz36 rfl (At.blk (hBb1.ext hEw2)) rfl) ?_
    refine WL.call rfl rfl rfl rfl rfl ok24 rfl (toRelation_spec _ r (rd_ext hK1 (hEb1.trans hEw2)) (by omega)) ?_
    rintro _ w3 hEw3 ⟨cs1, rfl, L1, hO1, hN1, hF1⟩
    refine WL.call rfl rfl rfl rfl rfl ok42 rfl (sHasLoop_spec _ r (Sep.own_rd hO1) (by omega)) ?_
    rintro _ w4 hEw4 rfl
    refine WL.ev rfl rfl (Ev.as rfl rfl) (WL.nil ?_)
    refine CW.fresh [(1, .pointer (some ⟨b1, 0, none⟩)), (2, .bool false), (4, .bool (loopR r))] ⟨rfl, rfl, rfl, trivial⟩ fun σ => ?_
    refine CW.seq (CW.reg ?_)
    refine WL.ev rfl rfl (Ev.lda rfl ag36 sz36 rfl (At.blk (hBb1.ext ((hEw2.trans hEw3).trans hEw4))) rfl) ?_
    refine WL.call rfl rfl rfl rfl rfl ok24 rfl (toRelation_spec _ r (rd_ext hK1 (((hEb1.trans hEw2).trans hEw3).trans hEw4)) (by omega)) ?_
    rintro _ w5 hEw5 ⟨cs2, rfl, L2, hO2, hN2, hF2⟩
    refine WL.alloc rfl rfl rfl ze39 fun b2 w6 hEb2 hbb2 hBb2 => ?_
    refine WL.stW rfl rfl rfl sz39 rfl rfl rfl (Rep.len (Sep.own_rd (own_ext hO2 hEb2))) (Rep.one (Sep.own_rd (own_ext hO2 hEb2))) hBb2 rfl fun w7 hCw7 hB_1 => ?_
    have hT1 := Blk.chg1 (hBb1.ext ((((hEw2.trans hEw3).trans hEw4).trans hEw5).trans hEb2)) hCw7 (by have := hBb1.lt; have := hbb2; have := hEw2.size; have := hEw3.size; have := hEw4.size; have := hEw5.size; omega)
    have hT2 := own_chg1 (own_ext hO1 ((hEw4.trans hEw5).trans hEb2)) hCw7 (fun q hq e => by subst e; have := Sep.own_lt hO1 _ hq; have := hbb2; have := hEw4.size; have := hEw5.size; omega)
    have hT3 := own_chg1 (own_ext hO2 hEb2) hCw7 (fun q hq e => by subst e; have := Sep.own_lt hO2 _ hq; have := hbb2; omega)
    have hX1 := Ext.chg1 (((((hEb1.trans hEw2).trans hEw3).trans hEw4).trans hEw5).trans hEb2) hCw7 (by have := hbb2; have := hEb1.size; have := hEw2.size; have := hEw3.size; have := hEw4.size; have := hEw5.size; omega)
    refine WL.nil ?_
    refine CW.fresh [(1, .pointer (some ⟨b1, 0, none⟩)), (2, .bool false), (4, .bool (loopR r)), (5, .pointer (some ⟨b2, 0, none⟩))] ⟨rfl, rfl, rfl, rfl, trivial⟩ fun σ => ?_
    refine CW.seq (CW.reg ?_)
    refine WL.ev rfl rfl (Ev.lda rfl ag39 sz39 rfl (At.blk hB_1) (Rep.len (Sep.own_rd hT3))) ?_
    refine WL.call rfl rfl rfl rfl rfl ok43 rfl (iHasLoop_spec _ r (Sep.own_rd hT3) (by omega)) ?_
    rintro _ w8 hEw8 rfl
    refine WL.ev rfl rfl (Ev.as rfl rfl) (WL.nil ?_)
    refine CW.fresh [(1, .pointer (some ⟨b1, 0, none⟩)), (2, .bool false), (4, .bool (loopR r)), (5, .pointer (some ⟨b2, 0, none⟩)), (6, .bool (loopR r))] ⟨rfl, rfl, rfl, rfl, rfl, trivial⟩ fun σ => ?_
    refine CW.seq (CW.seq (CW.reg ?_))
    refine WL.ev rfl rfl (Ev.mv rfl rfl) (WL.ev rfl rfl (Ev.mv rfl rfl) (WL.ev rfl rfl (Ev.bin rfl rfl rfl (Bin.neqSameB Try.underlying4 rfl)) (WL.nil ?_)))
    refine CW.condF rfl ?_
    refine CW.skip ?_
    refine CW.fresh [(1, .pointer (some ⟨b1, 0, none⟩)), (2, .bool false), (5, .pointer (some ⟨b2, 0, none⟩))] ⟨rfl, rfl, rfl, trivial⟩ fun σ => ?_
    refine CW.seq (CW.seq (CW.anyE 5 (fun ρ => [.inl (.agg cs2.toArray), .inl (.agg #[.int .i64 (r.N), .slice A1 r.Rows.length c1]), .inr (fun S v w => ∃ cs : List Value, v = .agg cs.toArray ∧ rd S w (r) cs), .inl (.bool true), .inl (.bool (!true))]) hmix (by kernel_rfl) ⟨trivial, trivial, fun _ _ _ _ ⟨cs, e, h⟩ hE => ⟨cs, e, rd_ext h hE⟩, trivial, trivial, trivial⟩ ?_))
    refine LL.fx rfl rfl rfl (fun _ hq hK => Ev.lda rfl ag39 sz39 rfl (At.blk (hB_1.ext (hEw8.trans hq))) (Rep.len (Sep.own_rd (own_ext hT3 (hEw8.trans hq))))) ?_
    refine LL.fx rfl rfl rfl (fun _ hq hK => Ev.lda rfl ag36 sz36 rfl (At.blk (hT1.ext (hEw8.trans hq))) rfl) ?_
    refine LL.free rfl rfl (fun wq hq hK => ?_) (fun v_1_2 S_1_2 => ?_)
    · skip
      refine OpX.call rfl rfl rfl rfl ok24 rfl (toRelation_spec _ r (rd_ext hK1 ((hX1.trans hEw8).trans hq)) (by omega)) ?_
      rintro v w' hE ⟨cs, rfl, h⟩
      exact ⟨hE, cs, rfl, New.rd h⟩
    refine LL.fixed rfl rfl (fun wq hq hK => ?_) ?_
    · skip
      obtain ⟨cs2, e2, hd2⟩ : ∃ cs : List Value, v_1_2 = .agg cs.toArray ∧ rd S_1_2 wq (r) cs := hK 2 rfl
      subst e2
      refine OpX.call rfl rfl rfl rfl ok26 rfl ((eqRelation_spec _ r r (Sep.own_rd (own_ext hT3 (hEw8.trans hq))) hd2).yes rfl) ?_
      rintro v w' hE rfl
      exact ⟨hE, rfl⟩
    refine LL.fx rfl rfl rfl (fun _ hq hK => Ev.not rfl rfl) ?_
    intro w9 hEw9 hKr1 hap1 hbd1
    have hs_1_2 : ∀ q, S_1_2 q → w8.heap.size ≤ q ∧ q < w9.heap.size := fun q hq => hbd1 2 q hq
    refine WL.nil ?_
    refine CW.condF rfl ?_
    refine CW.skip ?_
    refine CW.fresh [(2, .bool false)] ⟨rfl, trivial⟩ fun σ => ?_
    refine CW.seq (CW.reg ?_)
    refine WL.ev rfl rfl (Ev.as rfl rfl) (WL.nil ?_)
    refine CW.ret ?_
    exact ⟨_, res1 rfl rfl rfl, ((hX1.trans hEw8).trans hEw9), rfl⟩

theorem open3 : Opens Try.prog 3 Int := Opens.int (by kernel_rfl) Try.underlying3
theorem open34 : Opens Try.prog 34 (List Int) := Opens.slice (by kernel_rfl) Try.underlying34 open3
theorem open36 : Opens Try.prog 36 Relation := by
  refine Opens.struct (k := 2) (by kernel_rfl) rfl Try.underlying36 fun H enc w base spare held n cs xs hl hx hf => ?_
  obtain ⟨c0, t0, rfl, hl0⟩ := lenS hl
  obtain ⟨c1, t1, rfl, hl1⟩ := lenS hl0
  obtain rfl := len0 hl1
  obtain ⟨a0, r0⟩ := Opens.fld (i := 0) (t := 3) (off := 0) (k := 1) open3 hf hx rfl rfl rfl rfl
  have q0 : rd (fun _ => True) w a0 [c0] := r0
  obtain ⟨e0, h0_0⟩ := q0
  simp only [List.cons.injEq, and_true] at e0
  obtain rfl := e0
  obtain ⟨a1, r1⟩ := Opens.fld (i := 1) (t := 34) (off := 1) (k := 1) open34 hf hx rfl rfl rfl rfl
  have q1 : rd (fun _ => True) w a1 [c1] := r1
  obtain ⟨v1_0, e1, s1_0⟩ := q1
  simp only [List.cons.injEq, and_true] at e1
  obtain rfl := e1
  exact ⟨⟨a0, a1⟩, _, rfl, h0_0, s1_0⟩
section
open Go.ChangeShapes Go.WideShapes Go.ChangeAt Go.RowKit
theorem own_knob : ownKnob Try.prog.godebug = none := by kernel_rfl
theorem laid_out : laidOutB Try.prog = true := by kernel_rfl
set_option maxRecDepth 100000 in
theorem fnExactHasLoop_lifted (os : Os) (started : os.Started) (H : Type) (enc : TypeId × Value → H) :
    ReturnsInHanded {} Try.checked os 10 .any (Rows.fnExactHasLoopSpec.pre6 enc Try.prog Try.f10 Rows.fnExactHasLoopRow.domain false) (Rows.fnExactHasLoopSpec.post enc Try.prog Try.f10 false true false false) := by
  refine returnsInHanded_of_change (C := Try.checked) own_knob started (by kernel_rfl) Try.func10
    (ChangeSpec.witness6 (enc := enc) (C := Try.checked) false ⟨#[], #[.agg #[.int .i64 0, .slice none 0 0]], []⟩ 8 (by kernel_rfl) (by kernel_rfl) (by kernel_rfl) (by kernel_rfl)) ?_
  intro W base args ds gs before hval0 hW hcnd _
  have hval : ∀ (j : Nat) t v, Try.f10.params[j]? = some t → args[j]? = some v → Value.okWide Try.prog W .any base t v := hval0
  have hW' := hW
  obtain ⟨p, q, hA0, hV, rfl, hfz, hnd⟩ := hW
  have hA : DataW.TrodAll enc Try.prog W 0 (fun _ => true) true Try.f10.params.toList args.toList ds p := hA0
  rw [Try.params10] at hA hval
  obtain ⟨v0, vs0, d0, ds0, p0, q0, hargs, rfl, rfl, t0, r0⟩ := trodAll_cons hA
  obtain ⟨rfl, rfl, rfl⟩ := trodAll_nil r0
  obtain rfl : args = #[v0] := by cases args; simp_all
  obtain ⟨rfl, rfl⟩ := trodVars_none hV
  have k0 := t0
  have lt0 : ∀ x ∈ p0, x.block < W.heap.size := by obtain ⟨m, hm⟩ := k0; exact DataW.trod_lt m _ _ _ hm
  obtain ⟨m0, hm0⟩ := t0
  obtain ⟨a0, ha0⟩ := open36.2 _ _ _ _ _ _ _ _ _ hm0
  obtain ⟨⟨c0⟩, rfl, _⟩ := okWide_struct Try.underlying36 (hval 0 36 v0 rfl rfl)
  clear hA0 hval0
  refine Calls.mono (FnExactHasLoop_law W a0 ha0) fun e W' ⟨v, he, hch, hv⟩ => ?_
  subst he; subst hv
  have bel := Ext.below hch
  exact ⟨_, rfl, _, _, _, [], _, [], hW', trodAll_mk1 (shut_bool Try.underlying4 _), (trodAll_cons_mk (Below.trod laid_out (by kernel_rfl) (of_decide_eq_true (by kernel_rfl)) k0 bel lt0) trodAll_mk0), rfl, bel.frame _, fun h => by cases h⟩
theorem fnExactHasLoop_holds : Rows.FnExactHasLoopSaid :=
  OpenClaim.holds_of_wide 10 Try.f10 rfl rfl rfl rfl rfl rfl rfl ⟨rfl, rfl, rfl, rfl, rfl⟩ rfl rfl rfl rfl rfl (by kernel_rfl) Try.func10 (by kernel_rfl)
    (of_decide_eq_true (by kernel_rfl)) (by unfold Func.isWrapper; first | (rw [if_pos (by decide +kernel)]; kernel_rfl) | (rw [if_neg (by decide +kernel)]; exact ⟨rfl, rfl⟩))
    (fun os started H enc _ => fnExactHasLoop_lifted os started H enc)
end
end Go.Proofs.Ytaenbhfjiihhnaa
