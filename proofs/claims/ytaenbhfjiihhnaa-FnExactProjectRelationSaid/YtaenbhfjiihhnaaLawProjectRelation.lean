/- The law FnExactProjectRelation returns true for all arguments and leaves them as they were; there is no condition. -/
import Derived.Test.YtaenbhfjiihhnaaRows
import Derived.Test.YtaenbhfjiihhnaaEngB
import Derived.Test.YtaenbhfjiihhnaaMath
set_option linter.unusedVariables false
set_option linter.unusedSimpArgs false
set_option linter.ambiguousOpen false
set_option linter.unusedSectionVars false
set_option linter.unusedVariables false
set_option linter.unusedSimpArgs false
set_option maxRecDepth 100000
namespace Go.Proofs.Ytaenbhfjiihhnaa
open Go Go.E
open Go.E.Rep (rd)
open Go.E.Sep (own)
theorem ag36 : aggT Try.prog 36 = some true := by kernel_rfl
theorem sz34 : szT Try.prog 34 = some 1 := by kernel_rfl
theorem sz36 : szT Try.prog 36 = some 2 := by kernel_rfl
theorem fo36_0 : fieldT Try.prog 36 0 = some 0 := by kernel_rfl
theorem fo36_1 : fieldT Try.prog 36 1 = some 1 := by kernel_rfl
theorem ok22 : callable Try.prog 22 = true := by kernel_rfl
theorem ok24 : callable Try.prog 24 = true := by kernel_rfl
theorem ok26 : callable Try.prog 26 = true := by kernel_rfl
theorem ok31 : callable Try.prog 31 = true := by kernel_rfl
theorem ok32 : callable Try.prog 32 = true := by kernel_rfl
theorem ok44 : callable Try.prog 44 = true := by kernel_rfl
theorem ok45 : callable Try.prog 45 = true := by kernel_rfl
theorem ok46 : callable Try.prog 46 = true := by kernel_rfl
theorem ok47 : callable Try.prog 47 = true := by kernel_rfl
theorem ok48 : callable Try.prog 48 = true := by kernel_rfl
theorem ok67 : callable Try.prog 67 = true := by kernel_rfl
theorem ok74 : callable Try.prog 74 = true := by kernel_rfl
theorem szIntS_spec (w : World) {S : Nat → Prop} (x : List Int) {z : Value} (hx : rdS S w x z) (left : Int) (h0 : 0 ≤ left) (h1 : left ≤ 1048576) :
    Ret Try.prog 67 #[z, .int .i64 left] w (fun _ => False) fun v _ => ∃ r, v = .int .i64 r ∧ (((Sz.szd x : Nat) : Int) ≤ left ∧ r = left - (Sz.szd x : Nat) ∨ left < (Sz.szd x : Nat) ∧ r = -1) := by
  refine enter Try.func67 rfl rfl rfl ?_
  obtain ⟨A1, c1, rfl, hc1, hm1⟩ := hx.form
  have hl1 : x.length ≤ 9223372036854775807 := Nat.le_trans hc1 hm1
  have hsz : Sz.szd x = szL x := rfl
  rw [szL_int] at hsz
  refine CW.seq (CW.reg ?_)
  refine WL.ev rfl rfl (Ev.as rfl rfl) (WL.nil ?_)
  refine CW.seq (CW.reg ?_)
  refine WL.ev rfl rfl (Ev.mv rfl rfl) (WL.ev rfl rfl (Ev.mv rfl rfl) (WL.ev rfl rfl (Ev.lenS rfl el34 rfl) (WL.ev rfl rfl (Ev.bin rfl rfl rfl (Bin.sub (by omega))) (WL.ev rfl rfl (Ev.as rfl rfl) (WL.nil ?_)))))
  refine CW.seq (CW.seq (CW.reg ?_))
  refine WL.ev rfl rfl (Ev.mv rfl rfl) (WL.ev rfl rfl (Ev.bin rfl rfl rfl Bin.lss) (WL.nil ?_))
  refine CW.condD rfl (fun h1 => ?_) (fun h1 => ?_)
  · skip
    refine CW.seq (CW.reg ?_)
    refine WL.ev rfl rfl (Ev.as rfl rfl) (WL.nil ?_)
    refine CW.ret ?_
    refine ⟨_, res1 rfl rfl rfl, (Ext.refl _), _, rfl, ?_⟩
    try simp only [szfold] at *
    first | omega | (right; exact ⟨by omega, by first | rfl | trivial⟩)
  · skip
    refine CW.skip ?_
    refine CW.seq (CW.reg ?_)
    refine WL.ev rfl rfl (Ev.mv rfl rfl) (WL.ev rfl rfl (Ev.as rfl rfl) (WL.nil ?_))
    refine CW.ret ?_
    refine ⟨_, res1 rfl rfl rfl, (Ext.refl _), _, rfl, ?_⟩
    try simp only [szfold] at *
    first | omega | (right; exact ⟨by omega, by first | rfl | trivial⟩)

theorem szRelation_spec (w : World) {S : Nat → Prop} (x : Relation) {cs : List Value} (hx : rd S w x cs) (left : Int) (h0 : 0 ≤ left) (h1 : left ≤ 1048576) :
    Ret Try.prog 22 #[.agg cs.toArray, .int .i64 left] w (fun _ => False) fun v _ => ∃ r, v = .int .i64 r ∧ (((Sz.szd x : Nat) : Int) ≤ left ∧ r = left - (Sz.szd x : Nat) ∨ left < (Sz.szd x : Nat) ∧ r = -1) := by
  refine enter Try.func22 rfl rfl rfl ?_
  have hK1 := hx
  obtain ⟨v1, rfl, hr1, hs1⟩ := hx
  obtain ⟨A1, c1, rfl, hc1, hm1⟩ := hs1.form
  have hsz := Relation_szd x
  refine CW.seq (CW.reg ?_)
  refine WL.box rfl rfl rfl rfl rfl fun b1 w1 hEb1 hbb1 hBb1 => ?_
  refine WL.ev rfl rfl (Ev.as rfl rfl) (WL.nil ?_)
  refine CW.seq (CW.reg ?_)
  refine WL.ev rfl rfl (Ev.fa rfl fo36_1 rfl) (WL.ev rfl rfl (Ev.ld rfl ag34 rfl (hBb1.cell rfl)) (WL.ev rfl rfl (Ev.mv rfl rfl) ?_))
  refine WL.call rfl rfl rfl rfl rfl ok67 rfl (szIntS_spec _ x.Rows (hs1.ext hEb1) _ (by omega) (by omega)) ?_
  rintro _ w2 hEw2 ⟨r1, rfl, hr2⟩
  have hq1 := szfold x.Rows
  refine WL.ev rfl rfl (Ev.as rfl rfl) (WL.nil ?_)
  refine CW.seq (CW.seq (CW.reg ?_))
  refine WL.ev rfl rfl (Ev.mv rfl rfl) (WL.ev rfl rfl (Ev.bin rfl rfl rfl Bin.lss) (WL.nil ?_))
  refine CW.condD rfl (fun h1 => ?_) (fun h1 => ?_)
  · skip
    refine CW.seq (CW.reg ?_)
    refine WL.ev rfl rfl (Ev.as rfl rfl) (WL.nil ?_)
    refine CW.ret ?_
    refine ⟨_, res1 rfl rfl rfl, (hEb1.trans hEw2), _, rfl, ?_⟩
    try simp only [szfold] at *
    first | omega | (right; exact ⟨by omega, by first | rfl | trivial⟩)
  · skip
    refine CW.skip ?_
    refine CW.seq (CW.reg ?_)
    refine WL.ev rfl rfl (Ev.mv rfl rfl) (WL.ev rfl rfl (Ev.as rfl rfl) (WL.nil ?_))
    refine CW.ret ?_
    refine ⟨_, res1 rfl rfl rfl, (hEb1.trans hEw2), _, rfl, ?_⟩
    try simp only [szfold] at *
    first | omega | (right; exact ⟨by omega, by first | rfl | trivial⟩)

theorem toIntS_spec (w : World) {S : Nat → Prop} (x : List Int) {z : Value} (hx : rdS S w x z) (hlen : szL x ≤ 1048576) :
    Ret Try.prog 45 #[z] w (fun _ => False) fun v w' => NewS w w' x v := by
  refine enter Try.func45 rfl rfl rfl ?_
  obtain ⟨A1, c1, rfl, hc1, hm1⟩ := hx.form
  have hl1 : x.length ≤ 9223372036854775807 := Nat.le_trans hc1 hm1
  have hln := szL_length x
  refine CW.seq (CW.reg ?_)
  refine WL.ev rfl rfl (Ev.as rfl rfl) (WL.nil ?_)
  refine CW.seq (CW.reg ?_)
  refine WL.ev rfl rfl (Ev.mv rfl rfl) (WL.ev rfl rfl (Ev.lenS rfl el34 rfl) ?_)
  refine WL.mk rfl rfl rfl el34 sz3 by3 ze3 rfl rfl rfl (by omega) (by omega) fun g w1 hE1 hg hBg => ?_
  refine WL.ev rfl rfl (Ev.as rfl rfl) (WL.nil ?_)
  refine CW.seq (CW.seq (CW.reg ?_))
  refine WL.ev rfl rfl (Ev.as rfl rfl) (WL.nil ?_)
  refine CW.block (CW.loop (α := Nat × List Value × List Nat) (fun q => [(0, .slice A1 x.length c1), (3, .slice (some ⟨g, 0, none⟩) x.length x.length), (4, .int .i64 (q.1 : Int))]) (fun q wr => Ext w wr ∧ ToInv wr g 3 [.int .i64 0] x q.1 q.2.1 q.2.2) (fun q => x.length - q.1) (0, [], []) ⟨rfl, rfl, rfl, trivial⟩ ⟨hE1, ToInv.init hBg⟩ ?_)
  rintro ⟨k, cs, L⟩ σ wr1 ⟨hEwr1, hI⟩
  simp only at hI
  have hk := hI.le
  refine CW.seq (CW.seq (CW.reg ?_))
  refine WL.ev rfl rfl (Ev.mv rfl rfl) (WL.ev rfl rfl (Ev.mv rfl rfl) (WL.ev rfl rfl (Ev.lenS rfl el34 rfl) (WL.ev rfl rfl (Ev.bin rfl rfl rfl Bin.lss) (WL.nil ?_))))
  refine CW.condD rfl (fun h1 => ?_) (fun h1 => ?_)
  · skip
    refine CW.skip ?_
    refine CW.seq (CW.block (CW.reg ?_))
    refine WL.ev rfl rfl (Ev.mv rfl rfl) (WL.ev rfl rfl (Ev.mv rfl rfl) (WL.ev rfl rfl (Ev.mv rfl rfl) (WL.ev rfl rfl (Ev.mv rfl rfl) ?_)))
    obtain ⟨xe1, be1, oe1, cse1, hxe1, hAe1, hSe1, hre1, hAte1⟩ := rdS.el hx (i := k) (by omega)
    have hK1 := hre1
    obtain ⟨rfl, hr1⟩ := hre1
    refine WL.ev rfl rfl (Ev.ixA rfl el34 sz3 rfl hAe1 rfl (by omega)) (WL.ev rfl rfl (Ev.ld rfl ag3 rfl ((hAte1.ext hEwr1).cell0 rfl)) (WL.ev rfl rfl (Ev.ix rfl el34 sz3 rfl rfl (by omega)) ?_))
    refine WL.stTo rfl rfl rfl sz3 rfl rfl rfl hI hxe1 (New.int hr1) List.nodup_nil (by simp) rfl fun w1 hCw1 hI2 => ?_
    have hX1 := Ext.chg1 hEwr1 hCw1 (by have := hE1.size; omega)
    refine WL.nil ?_
    refine CW.reg ?_
    refine WL.ev rfl rfl (Ev.mv rfl rfl) (WL.ev rfl rfl (Ev.bin rfl rfl rfl (Bin.add (by omega))) (WL.ev rfl rfl (Ev.as rfl rfl) (WL.nil ?_)))
    exact ⟨(k + 1, _, _), ⟨rfl, rfl, rfl, trivial⟩, ⟨hX1, hI2⟩, by simp only; omega⟩
  · skip
    refine CW.exit ?_
    refine CW.seq (CW.reg ?_)
    refine WL.ev rfl rfl (Ev.mv rfl rfl) (WL.ev rfl rfl (Ev.as rfl rfl) (WL.nil ?_))
    refine CW.ret ?_
    exact ⟨_, res1 rfl rfl rfl, hEwr1, hI.new (by omega) (by unfold maxLen; omega) hg⟩

theorem toRelation_spec (w : World) {S : Nat → Prop} (x : Relation) {cs : List Value} (hx : rd S w x cs) (hlen : Sz.szd x ≤ 1048576) :
    Ret Try.prog 24 #[.agg cs.toArray] w (fun _ => False) fun v w' => ∃ cs, v = .agg cs.toArray ∧ New w w' x cs := by
  refine enter Try.func24 rfl rfl rfl ?_
  have hK1 := hx
  obtain ⟨v1, rfl, hr1, hs1⟩ := hx
  obtain ⟨A1, c1, rfl, hc1, hm1⟩ := hs1.form
  rw [Relation_szd] at hlen
  refine CW.seq (CW.reg ?_)
  refine WL.box rfl rfl rfl rfl rfl fun b1 w1 hEb1 hbb1 hBb1 => ?_
  refine WL.alloc rfl rfl rfl ze39 fun b2 w2 hEb2 hbb2 hBb2 => ?_
  refine WL.nil ?_
  refine CW.seq (CW.reg ?_)
  refine WL.alloc rfl rfl rfl ze39 fun b3 w3 hEb3 hbb3 hBb3 => ?_
  refine WL.nil ?_
  refine CW.seq (CW.reg ?_)
  refine WL.ev rfl rfl (Ev.fa rfl fo36_0 rfl) (WL.ev rfl rfl (Ev.ld rfl ag3 rfl ((hBb1.ext (hEb2.trans hEb3)).cell rfl)) (WL.ev rfl rfl (Ev.fa rfl fo39_0 rfl) ?_))
  refine WL.st rfl rfl rfl sz3 rfl rfl rfl rfl (all1 rfl all0) hBb3 (Nat.le_of_ble_eq_true rfl) fun w4 hCw4 hB_1 => ?_
  have hz1 := hBb3.lt
  have hB_2 := Blk.chg1 (hBb1.ext (hEb2.trans hEb3)) hCw4 (by have := hBb1.lt; have := hbb3; have := hEb2.size; omega)
  have hB_3 := Blk.chg1 (hBb2.ext hEb3) hCw4 (by have := hBb2.lt; have := hbb3; omega)
  have hX1 := Ext.chg1 ((hEb1.trans hEb2).trans hEb3) hCw4 (by have := hbb3; have := hEb1.size; have := hEb2.size; omega)
  refine WL.nil ?_
  refine CW.seq (CW.reg ?_)
  refine WL.ev rfl rfl (Ev.fa rfl fo36_1 rfl) (WL.ev rfl rfl (Ev.ld rfl ag34 rfl (hB_2.cell rfl)) ?_)
  refine WL.call rfl rfl rfl rfl rfl ok45 rfl (toIntS_spec _ x.Rows (hs1.ext hX1) (by omega)) ?_
  rintro v2 w5 hEw5 ⟨L1, hO1, hN1, hF1⟩
  obtain ⟨A2, c2, rfl, hc2, hm2⟩ := hO1.form
  refine WL.ev rfl rfl (Ev.fa rfl fo39_1 rfl) ?_
  refine WL.st rfl rfl rfl sz34 rfl rfl rfl rfl (all1 rfl all0) (hB_1.ext hEw5) (Nat.le_of_ble_eq_true rfl) fun w6 hCw6 hB_4 => ?_
  have hz2 := (hB_1.ext hEw5).lt
  have hB_5 := Blk.chg1 (hB_2.ext hEw5) hCw6 (by have := hBb1.lt; have := hbb3; have := hEb2.size; omega)
  have hB_6 := Blk.chg1 (hB_3.ext hEw5) hCw6 (by have := hBb2.lt; have := hbb3; omega)
  have hO_1 := ownS.chg1 hO1 hCw6 (fun q hq e => by subst e; have := hF1 _ hq; have := hBb3.lt; have := hCw4.size; omega)
  have hX2 := Ext.chg1 (hX1.trans hEw5) hCw6 (by have := hbb3; have := hEb1.size; have := hEb2.size; omega)
  refine WL.nil ?_
  refine CW.seq (CW.reg ?_)
  refine WL.ev rfl rfl (Ev.lda rfl ag39 sz39 rfl (At.blk hB_4) rfl) ?_
  refine WL.st rfl rfl rfl sz39 rfl rfl rfl rfl (all1 rfl (all1 rfl all0)) hB_6 (Nat.le_of_ble_eq_true rfl) fun w7 hCw7 hB_7 => ?_
  have hz3 := hB_6.lt
  have hB_8 := Blk.chg1 hB_5 hCw7 (by have := hBb1.lt; have := hbb2; omega)
  have hB_9 := Blk.chg1 hB_4 hCw7 (by have := hBb2.lt; have := hbb3; omega)
  have hO_2 := ownS.chg1 hO_1 hCw7 (fun q hq e => by subst e; have := hF1 _ hq; have := hBb2.lt; have := hEb3.size; have := hCw4.size; omega)
  have hX3 := Ext.chg1 hX2 hCw7 (by have := hbb2; have := hEb1.size; omega)
  refine WL.nil ?_
  refine CW.ret ?_
  exact ⟨_, resC rfl ag39 sz39 rfl rfl (At.blk hB_7) rfl, hX3, _, rfl, _, ⟨_, _, rfl, by first | assumption | omega, rfl, hO_2⟩, hN1, fun q hq => by first | (have := hF1 _ hq; have := hEb1.size; have := hEb2.size; have := hEb3.size; have := hCw4.size; omega)⟩

theorem sProjectRelation_spec (w : World) {S1 : Nat → Prop} {S2 : Nat → Prop} (r : Relation) {cr : List Value} (hr : rd S1 w r cr) (br : Sz.szd r ≤ 1048576) (l : List Int) {zl : Value} (hl : rdS S2 w l zl) (bl : szL l ≤ 1048576) :
    Ret Try.prog 44 #[.agg cr.toArray, zl] w (fun _ => False) fun v w' => ∃ cs, v = .agg cs.toArray ∧ New w w' ((sProjectRelation_m r l).getD ⟨0, []⟩) cs := by
  obtain ⟨x, hx, _⟩ := sProject_some r l
  have ht : (sProjectRelation_m r l).getD ⟨0, []⟩ = x := by rw [hx]; rfl
  rw [ht]
  refine (sProjectRelation_ok hx (F0 := fun _ => True) (Rep.mono hr fun _ _ => trivial) (hl.mono fun _ _ => trivial)).mono fun v w' _ ⟨A, n, c, hv, hI, H⟩ => ?_
  obtain ⟨L, h1, h2, h3⟩ := NewS.of H
  exact ⟨_, hv, L, ⟨_, L, rfl, hI, rfl, h1⟩, h2, h3⟩

theorem iProjectRelation_spec (w : World) {S1 : Nat → Prop} {S2 : Nat → Prop} (r : Relation) {cr : List Value} (hr : rd S1 w r cr) (br : Sz.szd r ≤ 1048576) (l : List Int) {zl : Value} (hl : rdS S2 w l zl) (bl : szL l ≤ 1048576) :
    Ret Try.prog 46 #[.agg cr.toArray, zl] w (fun _ => False) fun v w' => ∃ cs, v = .agg cs.toArray ∧ New w w' ((sProjectRelation_m r l).getD ⟨0, []⟩) cs := by
  obtain ⟨x, hx, _⟩ := sProject_some r l
  have ht : (sProjectRelation_m r l).getD ⟨0, []⟩ = x := by rw [hx]; rfl
  rw [ht]
  refine (iProjectRelation_ok ((iProject_eq r l).trans hx) (F0 := fun _ => True) (Rep.mono hr fun _ _ => trivial) (hl.mono fun _ _ => trivial)).mono fun v w' _ ⟨A, n, c, hv, hI, H⟩ => ?_
  obtain ⟨L, h1, h2, h3⟩ := NewS.of H
  exact ⟨_, hv, L, ⟨_, L, rfl, hI, rfl, h1⟩, h2, h3⟩

theorem eqIntS_spec (w : World) {S S2 : Nat → Prop} (x y : List Int) {z z2 : Value} (hx : rdS S w x z) (hy : rdS S2 w y z2) :
    Ret Try.prog 47 #[z, z2] w (fun _ => False) fun v _ => v = .bool (decide (x = y)) := by
  refine enter Try.func47 rfl rfl rfl ?_
  obtain ⟨A1, c1, rfl, hc1, hm1⟩ := hx.form
  have hl1 : x.length ≤ 9223372036854775807 := Nat.le_trans hc1 hm1
  obtain ⟨A2, c2, rfl, hc2, hm2⟩ := hy.form
  have hl2 : y.length ≤ 9223372036854775807 := Nat.le_trans hc2 hm2
  refine CW.seq (CW.reg ?_)
  refine WL.ev rfl rfl (Ev.as rfl rfl) (WL.nil ?_)
  refine CW.seq (CW.seq (CW.reg ?_))
  refine WL.ev rfl rfl (Ev.mv rfl rfl) (WL.ev rfl rfl (Ev.lenS rfl el34 rfl) (WL.ev rfl rfl (Ev.mv rfl rfl) (WL.ev rfl rfl (Ev.lenS rfl el34 rfl) (WL.ev rfl rfl (Ev.bin rfl rfl rfl Bin.neq) (WL.nil ?_)))))
  refine CW.condN rfl (fun h1 => ?_) (fun h1 => ?_)
  · skip
    refine CW.seq (CW.reg ?_)
    refine WL.ev rfl rfl (Ev.as rfl rfl) (WL.nil ?_)
    refine CW.ret ?_
    have e : x ≠ y := fun e => h1 (by rw [e])
    exact ⟨_, res1 rfl rfl rfl, (Ext.refl _), vB (by simp [e])⟩
  · skip
    refine CW.skip ?_
    refine CW.seq (CW.seq (CW.reg ?_))
    refine WL.ev rfl rfl (Ev.as rfl rfl) (WL.nil ?_)
    refine CW.block (CW.loop (α := Nat) (fun q => [(0, .slice A1 x.length c1), (1, .slice A2 y.length c2), (5, .int .i64 (q : Int))]) (fun q wr => Ext w wr ∧ q ≤ x.length ∧ x.take q = y.take q) (fun q => x.length - q) 0 ⟨rfl, rfl, rfl, trivial⟩ ⟨Ext.refl _, by omega, rfl⟩ ?_)
    rintro k σ wr1 ⟨hEwr1, hk, hpre⟩
    refine CW.seq (CW.seq (CW.reg ?_))
    refine WL.ev rfl rfl (Ev.mv rfl rfl) (WL.ev rfl rfl (Ev.mv rfl rfl) (WL.ev rfl rfl (Ev.lenS rfl el34 rfl) (WL.ev rfl rfl (Ev.bin rfl rfl rfl Bin.lss) (WL.nil ?_))))
    refine CW.condD rfl (fun h2 => ?_) (fun h2 => ?_)
    · skip
      refine CW.skip ?_
      refine CW.seq (CW.block (CW.seq (CW.quiet hmix (by kernel_rfl) ?_)))
      refine QL.ev rfl rfl (fun _ _ => Ev.mv rfl rfl) (QL.ev rfl rfl (fun _ _ => Ev.mv rfl rfl) ?_)
      obtain ⟨xe1, be1, oe1, cse1, hxe1, hAe1, hSe1, hre1, hAte1⟩ := rdS.el hx (i := k) (by omega)
      have hK1 := hre1
      obtain ⟨rfl, hr1⟩ := hre1
      refine QL.ev rfl rfl (fun _ _ => Ev.ixA rfl el34 sz3 rfl hAe1 rfl (by omega)) (QL.ev rfl rfl (fun _ hq => Ev.ld rfl ag3 rfl ((hAte1.ext (hEwr1.trans hq)).cell0 rfl)) (QL.ev rfl rfl (fun _ _ => Ev.mv rfl rfl) (QL.ev rfl rfl (fun _ _ => Ev.mv rfl rfl) ?_)))
      obtain ⟨xe2, be2, oe2, cse2, hxe2, hAe2, hSe2, hre2, hAte2⟩ := rdS.el hy (i := k) (by omega)
      have hK2 := hre2
      obtain ⟨rfl, hr2⟩ := hre2
      refine QL.ev rfl rfl (fun _ _ => Ev.ixA rfl el34 sz3 rfl hAe2 rfl (by omega)) (QL.ev rfl rfl (fun _ hq => Ev.ld rfl ag3 rfl ((hAte2.ext (hEwr1.trans hq)).cell0 rfl)) (QL.ev rfl rfl (fun _ _ => Ev.bin rfl rfl rfl Bin.neq) (QL.nil (fun w1 hEw1 => ?_))))
      refine CW.condN rfl (fun h3 => ?_) (fun h3 => ?_)
      · skip
        refine CW.seq (CW.reg ?_)
        refine WL.ev rfl rfl (Ev.as rfl rfl) (WL.nil ?_)
        refine CW.ret ?_
        have e : x ≠ y := ne_of_at hxe1 hxe2 h3
        exact ⟨_, res1 rfl rfl rfl, (hEwr1.trans hEw1), vB (by simp [e])⟩
      · skip
        refine CW.skip ?_
        refine CW.reg ?_
        refine WL.ev rfl rfl (Ev.mv rfl rfl) (WL.ev rfl rfl (Ev.bin rfl rfl rfl (Bin.add (by omega))) (WL.ev rfl rfl (Ev.as rfl rfl) (WL.nil ?_)))
        exact ⟨k + 1, ⟨rfl, rfl, rfl, trivial⟩, ⟨(hEwr1.trans hEw1), by omega, take_succ_eq hpre hxe1 hxe2 h3⟩, by omega⟩
    · skip
      refine CW.exit ?_
      refine CW.seq (CW.reg ?_)
      refine WL.ev rfl rfl (Ev.as rfl rfl) (WL.nil ?_)
      refine CW.ret ?_
      have e : x = y := eq_of_take (by omega) (by omega) hpre
      exact ⟨_, res1 rfl rfl rfl, hEwr1, vB (by simp [e])⟩

theorem eqRelation_spec (w : World) {S S2 : Nat → Prop} (x y : Relation) {cs ds : List Value} (hx : rd S w x cs) (hy : rd S2 w y ds) :
    Ret Try.prog 26 #[.agg cs.toArray, .agg ds.toArray] w (fun _ => False) fun v _ => v = .bool (decide (x = y)) := by
  refine enter Try.func26 rfl rfl rfl ?_
  have hK1 := hx
  obtain ⟨v1, rfl, hr1, hs1⟩ := hx
  obtain ⟨A1, c1, rfl, hc1, hm1⟩ := hs1.form
  have hK2 := hy
  obtain ⟨v2, rfl, hr2, hs2⟩ := hy
  obtain ⟨A2, c2, rfl, hc2, hm2⟩ := hs2.form
  refine CW.seq (CW.reg ?_)
  refine WL.box rfl rfl rfl rfl rfl fun b1 w1 hEb1 hbb1 hBb1 => ?_
  refine WL.box rfl rfl rfl rfl rfl fun b2 w2 hEb2 hbb2 hBb2 => ?_
  refine WL.ev rfl rfl (Ev.as rfl rfl) (WL.nil ?_)
  refine CW.seq (CW.seq (CW.reg ?_))
  refine WL.ev rfl rfl (Ev.fa rfl fo39_0 rfl) (WL.ev rfl rfl (Ev.ld rfl ag3 rfl ((hBb1.ext hEb2).cell rfl)) (WL.ev rfl rfl (Ev.fa rfl fo39_0 rfl) (WL.ev rfl rfl (Ev.ld rfl ag3 rfl (hBb2.cell rfl)) (WL.ev rfl rfl (Ev.bin rfl rfl rfl Bin.neq) (WL.nil ?_)))))
  refine CW.condN rfl (fun h1 => ?_) (fun h1 => ?_)
  · skip
    refine CW.seq (CW.reg ?_)
    refine WL.ev rfl rfl (Ev.as rfl rfl) (WL.nil ?_)
    refine CW.ret ?_
    have e : x ≠ y := by rintro rfl; exact h1 rfl
    exact ⟨_, res1 rfl rfl rfl, (hEb1.trans hEb2), vB (by simp [e])⟩
  · skip
    refine CW.skip ?_
    refine CW.seq (CW.seq (CW.reg ?_))
    refine WL.ev rfl rfl (Ev.fa rfl fo39_1 rfl) (WL.ev rfl rfl (Ev.ld rfl ag34 rfl ((hBb1.ext hEb2).cell rfl)) (WL.ev rfl rfl (Ev.fa rfl fo39_1 rfl) (WL.ev rfl rfl (Ev.ld rfl ag34 rfl (hBb2.cell rfl)) ?_)))
    refine WL.call rfl rfl rfl rfl rfl ok47 rfl (eqIntS_spec _ x.Rows y.Rows (hs1.ext (hEb1.trans hEb2)) (hs2.ext (hEb1.trans hEb2))) ?_
    rintro _ w3 hEw3 rfl
    refine WL.ev rfl rfl (Ev.not rfl rfl) (WL.nil ?_)
    refine CW.condN rfl (fun h2 => ?_) (fun h2 => ?_)
    · skip
      refine CW.seq (CW.reg ?_)
      refine WL.ev rfl rfl (Ev.as rfl rfl) (WL.nil ?_)
      refine CW.ret ?_
      have e : x ≠ y := by rintro rfl; exact h2 rfl
      exact ⟨_, res1 rfl rfl rfl, ((hEb1.trans hEb2).trans hEw3), vB (by simp [e])⟩
    · skip
      refine CW.skip ?_
      refine CW.seq (CW.reg ?_)
      refine WL.ev rfl rfl (Ev.as rfl rfl) (WL.nil ?_)
      refine CW.ret ?_
      have e : x = y := by cases x; cases y; simp_all
      exact ⟨_, res1 rfl rfl rfl, ((hEb1.trans hEb2).trans hEw3), vB (by simp [e])⟩

theorem markIntS_spec (w : World) (L : List Nat) (x : List Int) {z : Value} (hx : ownS L w x z) (hN : L.Nodup) (k0 : Int) (hk0 : 0 ≤ k0) (hk1 : k0 + cntL x ≤ 4611686018427387904) :
    Ret Try.prog 48 #[z, .int .i64 k0] w (· ∈ L) fun v w' => v = .int .i64 (k0 + cntL x) ∧ ownS L w' (mkL x k0) z := by
  refine enter Try.func48 rfl rfl rfl ?_
  obtain ⟨A1, c1, rfl, hc1, hm1⟩ := hx.form
  have hl1 : x.length ≤ 9223372036854775807 := Nat.le_trans hc1 hm1
  refine CW.seq (CW.reg ?_)
  refine WL.ev rfl rfl (Ev.as rfl rfl) (WL.nil ?_)
  refine CW.seq (CW.seq (CW.reg ?_))
  refine WL.ev rfl rfl (Ev.as rfl rfl) (WL.nil ?_)
  refine CW.block (CW.loop (α := Nat × Int) (fun q => [(0, .slice A1 x.length c1), (1, .int .i64 q.2), (5, .int .i64 (q.1 : Int))]) (fun q wr => Chg (· ∈ L) w wr ∧ q.1 ≤ x.length ∧ ownS L wr (mixL x k0 q.1) (.slice A1 x.length c1) ∧ q.2 = k0 + cntL (x.take q.1)) (fun q => x.length - q.1) (0, k0) ⟨rfl, rfl, rfl, trivial⟩ ⟨Chg.refl _, by simp, by rw [mixL_zero]; exact hx, by simp [cntL]⟩ ?_)
  rintro ⟨k, l⟩ σ wr1 ⟨hEwr1, hk, hO, hl⟩
  simp only at hk hO hl
  subst hl
  have hcl0 := cntL_take_le x k
  refine CW.seq (CW.seq (CW.reg ?_))
  refine WL.ev rfl rfl (Ev.mv rfl rfl) (WL.ev rfl rfl (Ev.mv rfl rfl) (WL.ev rfl rfl (Ev.lenS rfl el34 rfl) (WL.ev rfl rfl (Ev.bin rfl rfl rfl Bin.lss) (WL.nil ?_))))
  refine CW.condD rfl (fun h1 => ?_) (fun h1 => ?_)
  · skip
    refine CW.skip ?_
    refine CW.seq (CW.block (CW.seq (CW.reg ?_)))
    refine WL.ev rfl rfl (Ev.mv rfl rfl) (WL.ev rfl rfl (Ev.mv rfl rfl) (WL.ev rfl rfl (Ev.mv rfl rfl) ?_))
    obtain ⟨y, hy⟩ : ∃ y, x[k]? = some y := ⟨_, List.getElem?_eq_getElem (by omega)⟩
    have hct := cntL_take_succ hy
    have hcl := cntL_take_le x (k + 1)
    have hcn : Mk.cnt y = 1 := rfl
    obtain ⟨b, o, e, cur, Li, ci, hA, hbL, hbN, hLN, hLL, hBf, hfit, how, hplug⟩ := hO.mark1 hN hy
    obtain ⟨rfl, rfl, hr1⟩ := how
    have hM0 := Chg.refl (M := (· ∈ b :: [])) wr1
    refine WL.ev rfl rfl (Ev.ixA rfl el34 sz3 rfl hA rfl (by omega)) ?_
    refine WL.stE0 rfl rfl rfl sz3 rfl rfl rfl rfl (all1 rfl all0) hBf rfl hfit rfl fun w1 hCw1 hB_1 => ?_
    have hM1 := hM0.tr1 hCw1 List.mem_cons_self
    refine WL.nil ?_
    refine CW.reg ?_
    refine WL.ev rfl rfl (Ev.mv rfl rfl) (WL.ev rfl rfl (Ev.bin rfl rfl rfl (Bin.add (by omega))) (WL.ev rfl rfl (Ev.as rfl rfl) (WL.nil ?_)))
    refine CW.reg ?_
    refine WL.ev rfl rfl (Ev.mv rfl rfl) (WL.ev rfl rfl (Ev.bin rfl rfl rfl (Bin.add (by omega))) (WL.ev rfl rfl (Ev.as rfl rfl) (WL.nil ?_)))
    exact ⟨(k + 1, _), ⟨rfl, rfl, rfl, trivial⟩, ⟨hEwr1.trL hM1 (List.forall_mem_cons.2 ⟨hbL, hLL⟩), by simp only; omega, hplug hM1 ⟨rfl, rfl, rI (by omega) (by omega)⟩ hB_1, by simp only; omega⟩, by simp only; omega⟩
  · skip
    refine CW.exit ?_
    refine CW.seq (CW.reg ?_)
    refine WL.ev rfl rfl (Ev.mv rfl rfl) (WL.ev rfl rfl (Ev.as rfl rfl) (WL.nil ?_))
    refine CW.ret ?_
    exact ⟨_, res1 rfl rfl rfl, hEwr1, vI (by simp only [cntL_full (xs := x) (i := k) (by omega)]), by rw [← mixL_all x k0 (i := k) (by omega)]; exact hO⟩

theorem markRelation_spec (w : World) (L : List Nat) (x : Relation) {cs : List Value} (hx : own L w x cs) (hN : L.Nodup) (k0 : Int) (hk0 : 0 ≤ k0) (hk1 : k0 + MkT.cntT x ≤ 4611686018427387904) :
    Ret Try.prog 31 #[.agg cs.toArray, .int .i64 k0] w (· ∈ L) fun v w' => v = .int .i64 (k0 + MkT.cntT x) ∧ own L w' (MkT.mrkT x k0) cs := by
  refine enter Try.func31 rfl rfl rfl ?_
  obtain ⟨v1, L1, rfl, hr1, rfl, hO1⟩ := hx
  obtain ⟨A1, c1, rfl, hc1, hm1⟩ := hO1.form
  have hcn : MkT.cntT x = cntL x.Rows := rfl
  have hM0 := Chg.refl (M := (· ∈ L)) w
  refine CW.seq (CW.reg ?_)
  refine WL.box rfl rfl rfl rfl rfl fun b1 w1 hEb1 hbb1 hBb1 => ?_
  have hM1 := hM0.trans_ext hEb1
  refine WL.ev rfl rfl (Ev.as rfl rfl) (WL.nil ?_)
  refine CW.seq (CW.reg ?_)
  refine WL.ev rfl rfl (Ev.fa rfl fo39_1 rfl) (WL.ev rfl rfl (Ev.ld rfl ag34 rfl (hBb1.cell rfl)) (WL.ev rfl rfl (Ev.mv rfl rfl) ?_))
  refine WL.call rfl rfl rfl rfl rfl ok48 rfl (markIntS_spec _ _ x.Rows (hO1.ext hEb1) hN _ (by omega) (by omega)) ?_
  rintro _ w2 hEw2 ⟨rfl, hO_1⟩
  have hM2 := hM1.trL hEw2 (fun q hq => by simp [hq])
  have hB_1 := Blk.chgL hBb1 hEw2 (fun hq => by have := hO1.lt _ hq; have := hbb1; omega)
  refine WL.ev rfl rfl (Ev.as rfl rfl) (WL.nil ?_)
  refine CW.seq (CW.reg ?_)
  refine WL.ev rfl rfl (Ev.mv rfl rfl) (WL.ev rfl rfl (Ev.as rfl rfl) (WL.nil ?_))
  refine CW.ret ?_
  exact ⟨_, res1 rfl rfl rfl, hM2, congrArg (Value.int .i64) (by omega), ⟨_, _, rfl, by first | assumption | omega, rfl, hO_1⟩⟩

theorem heldIntS_spec (w : World) {S : Nat → Prop} (x : List Int) {z : Value} (hx : rdS S w x z) (k0 : Int) (hk0 : 0 ≤ k0) (hk1 : k0 + cntL x ≤ 4611686018427387904) :
    Ret Try.prog 74 #[z, .int .i64 k0] w (fun _ => False) fun v _ => ∃ r, v = .int .i64 r ∧ Held (hdL x k0) k0 (cntL x) r := by
  refine enter Try.func74 rfl rfl rfl ?_
  obtain ⟨A1, c1, rfl, hc1, hm1⟩ := hx.form
  have hl1 : x.length ≤ 9223372036854775807 := Nat.le_trans hc1 hm1
  refine CW.seq (CW.reg ?_)
  refine WL.ev rfl rfl (Ev.as rfl rfl) (WL.nil ?_)
  refine CW.seq (CW.seq (CW.reg ?_))
  refine WL.ev rfl rfl (Ev.as rfl rfl) (WL.nil ?_)
  refine CW.block (CW.loop (α := Nat × Int) (fun q => [(0, .slice A1 x.length c1), (1, .int .i64 q.2), (5, .int .i64 (q.1 : Int))]) (fun q wr => Ext w wr ∧ q.1 ≤ x.length ∧ hdL (x.take q.1) k0 = some q.2 ∧ q.2 = k0 + cntL (x.take q.1)) (fun q => x.length - q.1) (0, k0) ⟨rfl, rfl, rfl, trivial⟩ ⟨Ext.refl _, by simp, rfl, by simp [cntL]⟩ ?_)
  rintro ⟨k, l⟩ σ wr1 ⟨hEwr1, hk, hh, hl⟩
  simp only at hk hh hl
  have hcl0 := cntL_take_le x k
  refine CW.seq (CW.seq (CW.reg ?_))
  refine WL.ev rfl rfl (Ev.mv rfl rfl) (WL.ev rfl rfl (Ev.mv rfl rfl) (WL.ev rfl rfl (Ev.lenS rfl el34 rfl) (WL.ev rfl rfl (Ev.bin rfl rfl rfl Bin.lss) (WL.nil ?_))))
  refine CW.condD rfl (fun h1 => ?_) (fun h1 => ?_)
  · skip
    refine CW.skip ?_
    refine CW.seq (CW.block (CW.seq (CW.seq (CW.reg ?_))))
    refine WL.ev rfl rfl (Ev.mv rfl rfl) (WL.ev rfl rfl (Ev.mv rfl rfl) ?_)
    obtain ⟨xe1, be1, oe1, cse1, hxe1, hAe1, hSe1, hre1, hAte1⟩ := rdS.el hx (i := k) (by omega)
    have hK1 := hre1
    obtain ⟨rfl, hr1⟩ := hre1
    have hct := cntL_take_succ hxe1
    have hcl := cntL_take_le x (k + 1)
    have hcn : Mk.cnt xe1 = 1 := rfl
    refine WL.ev rfl rfl (Ev.ixA rfl el34 sz3 rfl hAe1 rfl (by omega)) (WL.ev rfl rfl (Ev.ld rfl ag3 rfl ((hAte1.ext hEwr1).cell0 rfl)) (WL.ev rfl rfl (Ev.mv rfl rfl) (WL.ev rfl rfl (Ev.bin rfl rfl rfl Bin.neq) (WL.nil ?_))))
    refine CW.condN rfl (fun h2 => ?_) (fun h2 => ?_)
    · skip
      refine CW.seq (CW.reg ?_)
      refine WL.ev rfl rfl (Ev.as rfl rfl) (WL.nil ?_)
      refine CW.ret ?_
      exact ⟨_, res1 rfl rfl rfl, hEwr1, _, rfl, .inr ⟨hdL_none hxe1 hh (hdI_neg h2), rfl⟩⟩
    · skip
      refine CW.skip ?_
      refine CW.reg ?_
      refine WL.ev rfl rfl (Ev.mv rfl rfl) (WL.ev rfl rfl (Ev.bin rfl rfl rfl (Bin.add (by omega))) (WL.ev rfl rfl (Ev.as rfl rfl) (WL.nil ?_)))
      refine CW.reg ?_
      refine WL.ev rfl rfl (Ev.mv rfl rfl) (WL.ev rfl rfl (Ev.bin rfl rfl rfl (Bin.add (by omega))) (WL.ev rfl rfl (Ev.as rfl rfl) (WL.nil ?_)))
      exact ⟨(k + 1, _), ⟨rfl, rfl, rfl, trivial⟩, ⟨hEwr1, by simp only; omega, hdL_step hxe1 hh (hdI_pos h2), by simp only; omega⟩, by simp only; omega⟩
  · skip
    refine CW.exit ?_
    refine CW.seq (CW.reg ?_)
    refine WL.ev rfl rfl (Ev.mv rfl rfl) (WL.ev rfl rfl (Ev.as rfl rfl) (WL.nil ?_))
    refine CW.ret ?_
    exact ⟨_, res1 rfl rfl rfl, hEwr1, _, rfl, .inl ⟨hdL_full hh (by omega), by rw [hl, cntL_full (by omega)]⟩⟩

theorem heldRelation_spec (w : World) {S : Nat → Prop} (x : Relation) {cs : List Value} (hx : rd S w x cs) (k0 : Int) (hk0 : 0 ≤ k0) (hk1 : k0 + MkT.cntT x ≤ 4611686018427387904) :
    Ret Try.prog 32 #[.agg cs.toArray, .int .i64 k0] w (fun _ => False) fun v _ => ∃ r, v = .int .i64 r ∧ Held (MkT.hdT x k0) k0 (MkT.cntT x) r := by
  refine enter Try.func32 rfl rfl rfl ?_
  have hK1 := hx
  obtain ⟨v1, rfl, hr1, hs1⟩ := hx
  obtain ⟨A1, c1, rfl, hc1, hm1⟩ := hs1.form
  have hcn : MkT.cntT x = cntL x.Rows := rfl
  refine CW.seq (CW.reg ?_)
  refine WL.box rfl rfl rfl rfl rfl fun b1 w1 hEb1 hbb1 hBb1 => ?_
  refine WL.ev rfl rfl (Ev.as rfl rfl) (WL.nil ?_)
  refine CW.seq (CW.reg ?_)
  refine WL.ev rfl rfl (Ev.fa rfl fo39_1 rfl) (WL.ev rfl rfl (Ev.ld rfl ag34 rfl (hBb1.cell rfl)) (WL.ev rfl rfl (Ev.mv rfl rfl) ?_))
  refine WL.call rfl rfl rfl rfl rfl ok74 rfl (heldIntS_spec _ x.Rows (hs1.ext hEb1) _ (by omega) (by omega)) ?_
  rintro _ w2 hEw2 ⟨r1, rfl, hr2⟩
  have := hr2.ge (by omega)
  refine WL.ev rfl rfl (Ev.as rfl rfl) (WL.nil ?_)
  refine CW.seq (CW.seq (CW.reg ?_))
  refine WL.ev rfl rfl (Ev.mv rfl rfl) (WL.ev rfl rfl (Ev.bin rfl rfl rfl Bin.lss) (WL.nil ?_))
  refine CW.condD rfl (fun h1 => ?_) (fun h1 => ?_)
  · skip
    refine CW.seq (CW.reg ?_)
    refine WL.ev rfl rfl (Ev.as rfl rfl) (WL.nil ?_)
    refine CW.ret ?_
    exact ⟨_, res1 rfl rfl rfl, (hEb1.trans hEw2), _, rfl, .inr ⟨(bindS rfl (Held.neg hr2 h1 (by omega))), rfl⟩⟩
  · skip
    refine CW.skip ?_
    refine CW.seq (CW.reg ?_)
    refine WL.ev rfl rfl (Ev.mv rfl rfl) (WL.ev rfl rfl (Ev.as rfl rfl) (WL.nil ?_))
    refine CW.ret ?_
    exact ⟨_, res1 rfl rfl rfl, (hEb1.trans hEw2), _, rfl, .inl ⟨(bindS rfl (Held.pos hr2 h1)), by have := Held.num hr2 h1; omega⟩⟩

theorem FnExactProjectRelation_law (w : World) {Sr : Nat → Prop} (r : Relation) {cr : List Value} (hr : rd Sr w r cr) {Sl : Nat → Prop} (l : List Int) {zl : Value} (hl : rdS Sl w l zl) :
    Ret Try.prog 11 #[.agg cr.toArray, zl] w (fun _ => False) fun v _ => v = .bool true := by
  refine enter Try.func11 rfl rfl rfl ?_
  have hK1 := hr
  obtain ⟨v1, rfl, hr1, hs1⟩ := hr
  obtain ⟨A1, c1, rfl, hc1, hm1⟩ := hs1.form
  have qr := Relation_szd r
  obtain ⟨A2, c2, rfl, hc2, hm2⟩ := hl.form
  have hl1 : l.length ≤ 9223372036854775807 := Nat.le_trans hc2 hm2
  have nl := szL_length l
  have ql := szfold l
  have zl := szL_int l
  refine CW.seq (CW.reg ?_)
  refine WL.box rfl rfl rfl rfl rfl fun b1 w1 hEb1 hbb1 hBb1 => ?_
  refine WL.ev rfl rfl (Ev.as rfl rfl) (WL.nil ?_)
  refine CW.seq (CW.seq (CW.reg ?_))
  refine WL.ev rfl rfl (Ev.mv rfl rfl) (WL.ev rfl rfl (Ev.lenS rfl el34 rfl) (WL.ev rfl rfl (Ev.bin rfl rfl rfl Bin.gtr) (WL.nil ?_)))
  refine CW.condD rfl (fun h1 => ?_) (fun h1 => ?_)
  · skip
    refine CW.seq (CW.reg ?_)
    refine WL.ev rfl rfl (Ev.as rfl rfl) (WL.nil ?_)
    refine CW.ret ?_
    exact ⟨_, res1 rfl rfl rfl, hEb1, rfl⟩
  · skip
    refine CW.skip ?_
    refine CW.fresh [(1, .slice A2 l.length c2), (2, .pointer (some ⟨b1, 0, none⟩)), (4, .bool false)] ⟨rfl, rfl, rfl, trivial⟩ fun σ => ?_
    refine CW.seq (CW.reg ?_)
    refine WL.ev rfl rfl (Ev.as rfl rfl) (WL.nil ?_)
    refine CW.fresh [(1, .slice A2 l.length c2), (2, .pointer (some ⟨b1, 0, none⟩)), (4, .bool false), (5, .int .i64 (1048576))] ⟨rfl, rfl, rfl, rfl, trivial⟩ fun σ => ?_
    refine CW.seq (CW.reg ?_)
    refine WL.ev rfl rfl (Ev.lda rfl ag36 sz36 rfl (At.blk hBb1) rfl) (WL.ev rfl rfl (Ev.mv rfl rfl) ?_)
    refine WL.call rfl rfl rfl rfl rfl ok22 rfl (szRelation_spec _ r (rd_ext hK1 hEb1) _ (by omega) (by omega)) ?_
    rintro _ w2 hEw2 ⟨r1, rfl, hr2⟩
    have hq1 := Relation_szd r
    refine WL.ev rfl rfl (Ev.as rfl rfl) (WL.nil ?_)
    refine CW.fresh [(1, .slice A2 l.length c2), (2, .pointer (some ⟨b1, 0, none⟩)), (4, .bool false), (5, .int .i64 (r1))] ⟨rfl, rfl, rfl, rfl, trivial⟩ fun σ => ?_
    refine CW.seq (CW.seq (CW.reg ?_))
    refine WL.ev rfl rfl (Ev.mv rfl rfl) (WL.ev rfl rfl (Ev.bin rfl rfl rfl Bin.lss) (WL.nil ?_))
    refine CW.condD rfl (fun h2 => ?_) (fun h2 => ?_)
    · skip
      refine CW.fresh [(1, .slice A2 l.length c2), (2, .pointer (some ⟨b1, 0, none⟩)), (4, .bool false)] ⟨rfl, rfl, rfl, trivial⟩ fun σ => ?_
      refine CW.seq (CW.reg ?_)
      refine WL.ev rfl rfl (Ev.as rfl rfl) (WL.nil ?_)
      refine CW.ret ?_
      exact ⟨_, res1 rfl rfl rfl, (hEb1.trans hEw2), rfl⟩
    · skip
      refine CW.skip ?_
      refine CW.fresh [(1, .slice A2 l.length c2), (2, .pointer (some ⟨b1, 0, none⟩)), (4, .bool false)] ⟨rfl, rfl, rfl, trivial⟩ fun σ => ?_
      refine CW.seq (CW.reg ?_)
      refine WL.ev rfl rfl (Ev.lda rfl ag36 sz36 rfl (At.blk (hBb1.ext hEw2)) rfl) ?_
      refine WL.call rfl rfl rfl rfl rfl ok24 rfl (toRelation_spec _ r (rd_ext hK1 (hEb1.trans hEw2)) (by omega)) ?_
      rintro _ w3 hEw3 ⟨cs1, rfl, L1, hO1, hN1, hF1⟩
      refine WL.ev rfl rfl (Ev.mv rfl rfl) ?_
      refine WL.call rfl rfl rfl rfl rfl ok45 rfl (toIntS_spec _ l (hl.ext ((hEb1.trans hEw2).trans hEw3)) (by omega)) ?_
      rintro v2 w4 hEw4 ⟨L2, hO2, hN2, hF2⟩
      obtain ⟨A3, c3, rfl, hc3, hm3⟩ := hO2.form
      refine WL.call rfl rfl rfl rfl rfl ok44 rfl (sProjectRelation_spec _ r (Sep.own_rd (own_ext hO1 hEw4)) (by omega) l hO2.rd (by omega)) ?_
      rintro _ w5 hEw5 ⟨cs2, rfl, L3, hO3, hN3, hF3⟩
      refine WL.alloc rfl rfl rfl ze39 fun b2 w6 hEb2 hbb2 hBb2 => ?_
      refine WL.stW rfl rfl rfl sz39 rfl rfl rfl (Rep.len (Sep.own_rd (own_ext hO3 hEb2))) (Rep.one (Sep.own_rd (own_ext hO3 hEb2))) hBb2 rfl fun w7 hCw7 hB_1 => ?_
      have hT1 := Blk.chg1 (hBb1.ext ((((hEw2.trans hEw3).trans hEw4).trans hEw5).trans hEb2)) hCw7 (by have := hBb1.lt; have := hbb2; have := hEw2.size; have := hEw3.size; have := hEw4.size; have := hEw5.size; omega)
      have hT2 := own_chg1 (own_ext hO1 ((hEw4.trans hEw5).trans hEb2)) hCw7 (fun q hq e => by subst e; have := Sep.own_lt hO1 _ hq; have := hbb2; have := hEw4.size; have := hEw5.size; omega)
      have hT3 := ownS.chg1 (hO2.ext (hEw5.trans hEb2)) hCw7 (fun q hq e => by subst e; have := hO2.lt _ hq; have := hbb2; have := hEw5.size; omega)
      have hT4 := own_chg1 (own_ext hO3 hEb2) hCw7 (fun q hq e => by subst e; have := Sep.own_lt hO3 _ hq; have := hbb2; omega)
      have hX1 := Ext.chg1 (((((hEb1.trans hEw2).trans hEw3).trans hEw4).trans hEw5).trans hEb2) hCw7 (by have := hbb2; have := hEb1.size; have := hEw2.size; have := hEw3.size; have := hEw4.size; have := hEw5.size; omega)
      refine WL.nil ?_
      refine CW.fresh [(1, .slice A2 l.length c2), (2, .pointer (some ⟨b1, 0, none⟩)), (4, .bool false), (6, .pointer (some ⟨b2, 0, none⟩))] ⟨rfl, rfl, rfl, rfl, trivial⟩ fun σ => ?_
      refine CW.seq (CW.reg ?_)
      refine WL.ev rfl rfl (Ev.lda rfl ag36 sz36 rfl (At.blk hT1) rfl) ?_
      refine WL.call rfl rfl rfl rfl rfl ok24 rfl (toRelation_spec _ r (rd_ext hK1 hX1) (by omega)) ?_
      rintro _ w8 hEw8 ⟨cs3, rfl, L4, hO4, hN4, hF4⟩
      refine WL.alloc rfl rfl rfl ze39 fun b3 w9 hEb3 hbb3 hBb3 => ?_
      refine WL.stW rfl rfl rfl sz39 rfl rfl rfl (Rep.len (Sep.own_rd (own_ext hO4 hEb3))) (Rep.one (Sep.own_rd (own_ext hO4 hEb3))) hBb3 rfl fun w10 hCw10 hB_2 => ?_
      have hT5 := Blk.chg1 (hT1.ext (hEw8.trans hEb3)) hCw10 (by have := hBb1.lt; have := hbb3; have := hEw2.size; have := hEw3.size; have := hEw4.size; have := hEw5.size; have := hEb2.size; have := hCw7.size; have := hEw8.size; omega)
      have hT6 := own_chg1 (own_ext hT2 (hEw8.trans hEb3)) hCw10 (fun q hq e => by subst e; have := Sep.own_lt hO1 _ hq; have := hbb3; have := hEw4.size; have := hEw5.size; have := hEb2.size; have := hCw7.size; have := hEw8.size; omega)
      have hT7 := ownS.chg1 (hT3.ext (hEw8.trans hEb3)) hCw10 (fun q hq e => by subst e; have := hO2.lt _ hq; have := hbb3; have := hEw5.size; have := hEb2.size; have := hCw7.size; have := hEw8.size; omega)
      have hT8 := own_chg1 (own_ext hT4 (hEw8.trans hEb3)) hCw10 (fun q hq e => by subst e; have := Sep.own_lt hO3 _ hq; have := hbb3; have := hEb2.size; have := hCw7.size; have := hEw8.size; omega)
      have hT9 := Blk.chg1 (hB_1.ext (hEw8.trans hEb3)) hCw10 (by have := hBb2.lt; have := hbb3; have := hCw7.size; have := hEw8.size; omega)
      have hT10 := own_chg1 (own_ext hO4 hEb3) hCw10 (fun q hq e => by subst e; have := Sep.own_lt hO4 _ hq; have := hbb3; omega)
      have hX2 := Ext.chg1 ((hX1.trans hEw8).trans hEb3) hCw10 (by have := hbb3; have := hEb1.size; have := hEw2.size; have := hEw3.size; have := hEw4.size; have := hEw5.size; have := hEb2.size; have := hCw7.size; have := hEw8.size; omega)
      refine WL.nil ?_
      refine CW.fresh [(1, .slice A2 l.length c2), (2, .pointer (some ⟨b1, 0, none⟩)), (4, .bool false), (6, .pointer (some ⟨b2, 0, none⟩)), (7, .pointer (some ⟨b3, 0, none⟩))] ⟨rfl, rfl, rfl, rfl, rfl, trivial⟩ fun σ => ?_
      refine CW.seq (CW.reg ?_)
      refine WL.ev rfl rfl (Ev.mv rfl rfl) ?_
      refine WL.call rfl rfl rfl rfl rfl ok45 rfl (toIntS_spec _ l (hl.ext hX2) (by omega)) ?_
      rintro v3 w11 hEw11 ⟨L5, hO5, hN5, hF5⟩
      obtain ⟨A4, c4, rfl, hc4, hm4⟩ := hO5.form
      refine WL.ev rfl rfl (Ev.as rfl rfl) (WL.nil ?_)
      refine CW.fresh [(1, .slice A2 l.length c2), (2, .pointer (some ⟨b1, 0, none⟩)), (4, .bool false), (6, .pointer (some ⟨b2, 0, none⟩)), (7, .pointer (some ⟨b3, 0, none⟩)), (8, .slice A4 (l).length c4)] ⟨rfl, rfl, rfl, rfl, rfl, rfl, trivial⟩ fun σ => ?_
      refine CW.seq (CW.reg ?_)
      refine WL.ev rfl rfl (Ev.lda rfl ag39 sz39 rfl (At.blk (hB_2.ext hEw11)) (Rep.len (Sep.own_rd (own_ext hT10 hEw11)))) (WL.ev rfl rfl (Ev.mv rfl rfl) ?_)
      refine WL.call rfl rfl rfl rfl rfl ok46 rfl (iProjectRelation_spec _ r (Sep.own_rd (own_ext hT10 hEw11)) (by omega) l hO5.rd (by omega)) ?_
      rintro _ w12 hEw12 ⟨cs4, rfl, L6, hO6, hN6, hF6⟩
      refine WL.alloc rfl rfl rfl ze39 fun b4 w13 hEb4 hbb4 hBb4 => ?_
      refine WL.stW rfl rfl rfl sz39 rfl rfl rfl (Rep.len (Sep.own_rd (own_ext hO6 hEb4))) (Rep.one (Sep.own_rd (own_ext hO6 hEb4))) hBb4 rfl fun w14 hCw14 hB_3 => ?_
      have hT11 := Blk.chg1 (hT5.ext ((hEw11.trans hEw12).trans hEb4)) hCw14 (by have := hBb1.lt; have := hbb4; have := hEw2.size; have := hEw3.size; have := hEw4.size; have := hEw5.size; have := hEb2.size; have := hCw7.size; have := hEw8.size; have := hEb3.size; have := hCw10.size; have := hEw11.size; have := hEw12.size; omega)
      have hT12 := own_chg1 (own_ext hT6 ((hEw11.trans hEw12).trans hEb4)) hCw14 (fun q hq e => by subst e; have := Sep.own_lt hO1 _ hq; have := hbb4; have := hEw4.size; have := hEw5.size; have := hEb2.size; have := hCw7.size; have := hEw8.size; have := hEb3.size; have := hCw10.size; have := hEw11.size; have := hEw12.size; omega)
      have hT13 := ownS.chg1 (hT7.ext ((hEw11.trans hEw12).trans hEb4)) hCw14 (fun q hq e => by subst e; have := hO2.lt _ hq; have := hbb4; have := hEw5.size; have := hEb2.size; have := hCw7.size; have := hEw8.size; have := hEb3.size; have := hCw10.size; have := hEw11.size; have := hEw12.size; omega)
      have hT14 := own_chg1 (own_ext hT8 ((hEw11.trans hEw12).trans hEb4)) hCw14 (fun q hq e => by subst e; have := Sep.own_lt hO3 _ hq; have := hbb4; have := hEb2.size; have := hCw7.size; have := hEw8.size; have := hEb3.size; have := hCw10.size; have := hEw11.size; have := hEw12.size; omega)
      have hT15 := Blk.chg1 (hT9.ext ((hEw11.trans hEw12).trans hEb4)) hCw14 (by have := hBb2.lt; have := hbb4; have := hCw7.size; have := hEw8.size; have := hEb3.size; have := hCw10.size; have := hEw11.size; have := hEw12.size; omega)
      have hT16 := own_chg1 (own_ext hT10 ((hEw11.trans hEw12).trans hEb4)) hCw14 (fun q hq e => by subst e; have := Sep.own_lt hO4 _ hq; have := hbb4; have := hEb3.size; have := hCw10.size; have := hEw11.size; have := hEw12.size; omega)
      have hT17 := Blk.chg1 (hB_2.ext ((hEw11.trans hEw12).trans hEb4)) hCw14 (by have := hBb3.lt; have := hbb4; have := hCw10.size; have := hEw11.size; have := hEw12.size; omega)
      have hT18 := ownS.chg1 (hO5.ext (hEw12.trans hEb4)) hCw14 (fun q hq e => by subst e; have := hO5.lt _ hq; have := hbb4; have := hEw12.size; omega)
      have hT19 := own_chg1 (own_ext hO6 hEb4) hCw14 (fun q hq e => by subst e; have := Sep.own_lt hO6 _ hq; have := hbb4; omega)
      have hX3 := Ext.chg1 (((hX2.trans hEw11).trans hEw12).trans hEb4) hCw14 (by have := hbb4; have := hEb1.size; have := hEw2.size; have := hEw3.size; have := hEw4.size; have := hEw5.size; have := hEb2.size; have := hCw7.size; have := hEw8.size; have := hEb3.size; have := hCw10.size; have := hEw11.size; have := hEw12.size; omega)
      refine WL.nil ?_
      refine CW.fresh [(1, .slice A2 l.length c2), (2, .pointer (some ⟨b1, 0, none⟩)), (4, .bool false), (6, .pointer (some ⟨b2, 0, none⟩)), (7, .pointer (some ⟨b3, 0, none⟩)), (8, .slice A4 (l).length c4), (9, .pointer (some ⟨b4, 0, none⟩))] ⟨rfl, rfl, rfl, rfl, rfl, rfl, rfl, trivial⟩ fun σ => ?_
      refine CW.seq (CW.seq (CW.reg ?_))
      refine WL.ev rfl rfl (Ev.lda rfl ag39 sz39 rfl (At.blk hB_3) (Rep.len (Sep.own_rd hT19))) (WL.ev rfl rfl (Ev.lda rfl ag39 sz39 rfl (At.blk hT15) (Rep.len (Sep.own_rd hT14))) ?_)
      refine WL.call rfl rfl rfl rfl rfl ok26 rfl ((eqRelation_spec _ ((sProjectRelation_m r l).getD ⟨0, []⟩) ((sProjectRelation_m r l).getD ⟨0, []⟩) (Sep.own_rd hT19) (Sep.own_rd hT14)).yes rfl) ?_
      rintro _ w15 hEw15 rfl
      refine WL.ev rfl rfl (Ev.not rfl rfl) (WL.nil ?_)
      refine CW.condF rfl ?_
      refine CW.skip ?_
      refine CW.fresh [(1, .slice A2 l.length c2), (2, .pointer (some ⟨b1, 0, none⟩)), (4, .bool false), (6, .pointer (some ⟨b2, 0, none⟩)), (7, .pointer (some ⟨b3, 0, none⟩)), (8, .slice A4 (l).length c4), (9, .pointer (some ⟨b4, 0, none⟩))] ⟨rfl, rfl, rfl, rfl, rfl, rfl, rfl, trivial⟩ fun σ => ?_
      refine CW.seq (CW.seq (CW.anyE 5 (fun ρ => [.inl (.agg cs3.toArray), .inl (.agg #[.int .i64 (r.N), .slice A1 r.Rows.length c1]), .inr (fun S v w => ∃ cs : List Value, v = .agg cs.toArray ∧ rd S w (r) cs), .inl (.bool true), .inl (.bool (!true))]) hmix (by kernel_rfl) ⟨trivial, trivial, fun _ _ _ _ ⟨cs, e, h⟩ hE => ⟨cs, e, rd_ext h hE⟩, trivial, trivial, trivial⟩ ?_))
      refine LL.fx rfl rfl rfl (fun _ hq hK => Ev.lda rfl ag39 sz39 rfl (At.blk (hT17.ext (hEw15.trans hq))) (Rep.len (Sep.own_rd (own_ext hT16 (hEw15.trans hq))))) ?_
      refine LL.fx rfl rfl rfl (fun _ hq hK => Ev.lda rfl ag36 sz36 rfl (At.blk (hT11.ext (hEw15.trans hq))) rfl) ?_
      refine LL.free rfl rfl (fun wq hq hK => ?_) (fun v_1_2 S_1_2 => ?_)
      · skip
        refine OpX.call rfl rfl rfl rfl ok24 rfl (toRelation_spec _ r (rd_ext hK1 ((hX3.trans hEw15).trans hq)) (by omega)) ?_
        rintro v w' hE ⟨cs, rfl, h⟩
        exact ⟨hE, cs, rfl, New.rd h⟩
      refine LL.fixed rfl rfl (fun wq hq hK => ?_) ?_
      · skip
        obtain ⟨cs2, e2, hd2⟩ : ∃ cs : List Value, v_1_2 = .agg cs.toArray ∧ rd S_1_2 wq (r) cs := hK 2 rfl
        subst e2
        refine OpX.call rfl rfl rfl rfl ok26 rfl ((eqRelation_spec _ r r (Sep.own_rd (own_ext hT16 (hEw15.trans hq))) hd2).yes rfl) ?_
        rintro v w' hE rfl
        exact ⟨hE, rfl⟩
      refine LL.fx rfl rfl rfl (fun _ hq hK => Ev.not rfl rfl) ?_
      intro w16 hEw16 hKr1 hap1 hbd1
      have hs_1_2 : ∀ q, S_1_2 q → w15.heap.size ≤ q ∧ q < w16.heap.size := fun q hq => hbd1 2 q hq
      refine WL.nil ?_
      refine CW.condF rfl ?_
      refine CW.skip ?_
      refine CW.fresh [(1, .slice A2 l.length c2), (2, .pointer (some ⟨b1, 0, none⟩)), (4, .bool false), (6, .pointer (some ⟨b2, 0, none⟩)), (7, .pointer (some ⟨b3, 0, none⟩)), (8, .slice A4 (l).length c4), (9, .pointer (some ⟨b4, 0, none⟩))] ⟨rfl, rfl, rfl, rfl, rfl, rfl, rfl, trivial⟩ fun σ => ?_
      refine CW.seq (CW.seq (CW.reg ?_))
      refine WL.ev rfl rfl (Ev.mv rfl rfl) (WL.ev rfl rfl (Ev.mv rfl rfl) ?_)
      refine WL.call rfl rfl rfl rfl rfl ok45 rfl (toIntS_spec _ l (hl.ext ((hX3.trans hEw15).trans hEw16)) (by omega)) ?_
      rintro v4 w17 hEw17 ⟨L8, hO8, hN8, hF8⟩
      obtain ⟨A5, c5, rfl, hc5, hm5⟩ := hO8.form
      refine WL.call rfl rfl rfl rfl rfl ok47 rfl ((eqIntS_spec _ l l (hT18.ext ((hEw15.trans hEw16).trans hEw17)).rd hO8.rd).yes rfl) ?_
      rintro _ w18 hEw18 rfl
      refine WL.ev rfl rfl (Ev.not rfl rfl) (WL.nil ?_)
      refine CW.condF rfl ?_
      refine CW.skip ?_
      refine CW.fresh [(1, .slice A2 l.length c2), (2, .pointer (some ⟨b1, 0, none⟩)), (4, .bool false), (6, .pointer (some ⟨b2, 0, none⟩)), (7, .pointer (some ⟨b3, 0, none⟩)), (8, .slice A4 (l).length c4), (9, .pointer (some ⟨b4, 0, none⟩))] ⟨rfl, rfl, rfl, rfl, rfl, rfl, rfl, trivial⟩ fun σ => ?_
      refine CW.seq (CW.reg ?_)
      refine WL.ev rfl rfl (Ev.as rfl rfl) (WL.nil ?_)
      refine CW.fresh [(1, .slice A2 l.length c2), (2, .pointer (some ⟨b1, 0, none⟩)), (4, .bool false), (6, .pointer (some ⟨b2, 0, none⟩)), (7, .pointer (some ⟨b3, 0, none⟩)), (8, .slice A4 (l).length c4), (9, .pointer (some ⟨b4, 0, none⟩)), (10, .int .i64 (1))] ⟨rfl, rfl, rfl, rfl, rfl, rfl, rfl, rfl, trivial⟩ fun σ => ?_
      refine CW.seq (CW.reg ?_)
      refine WL.ev rfl rfl (Ev.lda rfl ag39 sz39 rfl (At.blk (hT17.ext (((hEw15.trans hEw16).trans hEw17).trans hEw18))) (Rep.len (Sep.own_rd (own_ext hT16 (((hEw15.trans hEw16).trans hEw17).trans hEw18))))) (WL.ev rfl rfl (Ev.mv rfl rfl) ?_)
      refine WL.call rfl rfl rfl rfl rfl ok31 rfl (markRelation_spec _ L4 r (own_ext hT16 (((hEw15.trans hEw16).trans hEw17).trans hEw18)) hN4 1 (by omega) (by have := cnt_r r (by omega); omega)) ?_
      rintro _ w19 hEw19 ⟨rfl, hO_1⟩
      have hT20 := Blk.chgL (hT11.ext (((hEw15.trans hEw16).trans hEw17).trans hEw18)) hEw19 (fun hq => by have := hBb1.lt; have := hF4 _ hq; have := hEw2.size; have := hEw3.size; have := hEw4.size; have := hEw5.size; have := hEb2.size; have := hCw7.size; omega)
      have hT21 := own_chgL (own_ext hT12 (((hEw15.trans hEw16).trans hEw17).trans hEw18)) hEw19 (fun q hq h2 => by have := Sep.own_lt hO1 _ hq; have := hF4 _ h2; have := hEw4.size; have := hEw5.size; have := hEb2.size; have := hCw7.size; omega)
      have hT22 := ownS.chgL (hT13.ext (((hEw15.trans hEw16).trans hEw17).trans hEw18)) hEw19 (fun q hq h2 => by have := hO2.lt _ hq; have := hF4 _ h2; have := hEw5.size; have := hEb2.size; have := hCw7.size; omega)
      have hT23 := own_chgL (own_ext hT14 (((hEw15.trans hEw16).trans hEw17).trans hEw18)) hEw19 (fun q hq h2 => by have := Sep.own_lt hO3 _ hq; have := hF4 _ h2; have := hEb2.size; have := hCw7.size; omega)
      have hT24 := Blk.chgL (hT15.ext (((hEw15.trans hEw16).trans hEw17).trans hEw18)) hEw19 (fun hq => by have := hBb2.lt; have := hF4 _ hq; have := hCw7.size; omega)
      have hT25 := Blk.chgL (hT17.ext (((hEw15.trans hEw16).trans hEw17).trans hEw18)) hEw19 (fun hq => by have := Sep.own_lt hO4 _ hq; have := hbb3; omega)
      have hT26 := ownS.chgL (hT18.ext (((hEw15.trans hEw16).trans hEw17).trans hEw18)) hEw19 (fun q hq h2 => by have := Sep.own_lt hO4 _ h2; have := hF5 _ hq; have := hEb3.size; have := hCw10.size; omega)
      have hT27 := own_chgL (own_ext hT19 (((hEw15.trans hEw16).trans hEw17).trans hEw18)) hEw19 (fun q hq h2 => by have := Sep.own_lt hO4 _ h2; have := hF6 _ hq; have := hEb3.size; have := hCw10.size; have := hEw11.size; omega)
      have hT28 := Blk.chgL (hB_3.ext (((hEw15.trans hEw16).trans hEw17).trans hEw18)) hEw19 (fun hq => by have := Sep.own_lt hO4 _ hq; have := hbb4; have := hEb3.size; have := hCw10.size; have := hEw11.size; have := hEw12.size; omega)
      have hT29 := ownS.chgL (hO8.ext hEw18) hEw19 (fun q hq h2 => by have := Sep.own_lt hO4 _ h2; have := hF8 _ hq; have := hEb3.size; have := hCw10.size; have := hEw11.size; have := hEw12.size; have := hEb4.size; have := hCw14.size; have := hEw15.size; have := hEw16.size; omega)
      have hX4 := Ext.chgL ((((hX3.trans hEw15).trans hEw16).trans hEw17).trans hEw18) hEw19 (fun q hq => by have := hF4 _ hq; have := hEb1.size; have := hEw2.size; have := hEw3.size; have := hEw4.size; have := hEw5.size; have := hEb2.size; have := hCw7.size; omega)
      have := cnt_r r (by omega)
      refine WL.ev rfl rfl (Ev.as rfl rfl) (WL.nil ?_)
      refine CW.fresh [(1, .slice A2 l.length c2), (2, .pointer (some ⟨b1, 0, none⟩)), (4, .bool false), (6, .pointer (some ⟨b2, 0, none⟩)), (8, .slice A4 (l).length c4), (9, .pointer (some ⟨b4, 0, none⟩)), (10, .int .i64 (1 + (MkT.cntT r : Nat)))] ⟨rfl, rfl, rfl, rfl, rfl, rfl, rfl, trivial⟩ fun σ => ?_
      refine CW.seq (CW.reg ?_)
      refine WL.ev rfl rfl (Ev.mv rfl rfl) (WL.ev rfl rfl (Ev.mv rfl rfl) ?_)
      refine WL.call rfl rfl rfl rfl rfl ok48 rfl (markIntS_spec _ L5 l hT26 hN5 (1 + (MkT.cntT r : Nat)) (by omega) (by have := cnt_ints l (by omega); omega)) ?_
      rintro _ w20 hEw20 ⟨rfl, hO_2⟩
      have hT30 := Blk.chgL hT20 hEw20 (fun hq => by have := hBb1.lt; have := hF5 _ hq; have := hEw2.size; have := hEw3.size; have := hEw4.size; have := hEw5.size; have := hEb2.size; have := hCw7.size; have := hEw8.size; have := hEb3.size; have := hCw10.size; omega)
      have hT31 := own_chgL hT21 hEw20 (fun q hq h2 => by have := Sep.own_lt hO1 _ hq; have := hF5 _ h2; have := hEw4.size; have := hEw5.size; have := hEb2.size; have := hCw7.size; have := hEw8.size; have := hEb3.size; have := hCw10.size; omega)
      have hT32 := ownS.chgL hT22 hEw20 (fun q hq h2 => by have := hO2.lt _ hq; have := hF5 _ h2; have := hEw5.size; have := hEb2.size; have := hCw7.size; have := hEw8.size; have := hEb3.size; have := hCw10.size; omega)
      have hT33 := own_chgL hT23 hEw20 (fun q hq h2 => by have := Sep.own_lt hO3 _ hq; have := hF5 _ h2; have := hEb2.size; have := hCw7.size; have := hEw8.size; have := hEb3.size; have := hCw10.size; omega)
      have hT34 := Blk.chgL hT24 hEw20 (fun hq => by have := hBb2.lt; have := hF5 _ hq; have := hCw7.size; have := hEw8.size; have := hEb3.size; have := hCw10.size; omega)
      have hT35 := own_chgL hO_1 hEw20 (fun q hq h2 => by have := Sep.own_lt hO4 _ hq; have := hF5 _ h2; have := hEb3.size; have := hCw10.size; omega)
      have hT36 := Blk.chgL hT25 hEw20 (fun hq => by have := hBb3.lt; have := hF5 _ hq; have := hCw10.size; omega)
      have hT37 := own_chgL hT27 hEw20 (fun q hq h2 => by have := hO5.lt _ h2; have := hF6 _ hq; omega)
      have hT38 := Blk.chgL hT28 hEw20 (fun hq => by have := hO5.lt _ hq; have := hbb4; have := hEw12.size; omega)
      have hT39 := ownS.chgL hT29 hEw20 (fun q hq h2 => by have := hO5.lt _ h2; have := hF8 _ hq; have := hEw12.size; have := hEb4.size; have := hCw14.size; have := hEw15.size; have := hEw16.size; omega)
      have hX5 := Ext.chgL hX4 hEw20 (fun q hq => by have := hF5 _ hq; have := hEb1.size; have := hEw2.size; have := hEw3.size; have := hEw4.size; have := hEw5.size; have := hEb2.size; have := hCw7.size; have := hEw8.size; have := hEb3.size; have := hCw10.size; omega)
      have := cnt_ints l (by omega)
      refine WL.ev rfl rfl (Ev.as rfl rfl) (WL.nil ?_)
      refine CW.fresh [(1, .slice A2 l.length c2), (2, .pointer (some ⟨b1, 0, none⟩)), (4, .bool false), (6, .pointer (some ⟨b2, 0, none⟩)), (9, .pointer (some ⟨b4, 0, none⟩)), (10, .int .i64 (1 + (MkT.cntT r : Nat) + (cntL l : Nat)))] ⟨rfl, rfl, rfl, rfl, rfl, rfl, trivial⟩ fun σ => ?_
      refine CW.seq (CW.seq (CW.reg ?_))
      refine WL.ev rfl rfl (Ev.mv rfl rfl) (WL.ev rfl rfl (Ev.bin rfl rfl rfl (Bin.no (by omega))) (WL.ev rfl rfl (Ev.mv rfl rfl) (WL.on rfl rfl (WL.ev rfl rfl (Ev.lda rfl ag39 sz39 rfl (At.blk hT38) (Rep.len (Sep.own_rd hT37))) (WL.on rfl rfl (WL.ev rfl rfl (Ev.lda rfl ag39 sz39 rfl (At.blk hT34) (Rep.len (Sep.own_rd hT33))) (WL.on rfl rfl ?_)))))))
      refine WL.call rfl rfl rfl rfl rfl ok26 rfl ((eqRelation_spec _ ((sProjectRelation_m r l).getD ⟨0, []⟩) ((sProjectRelation_m r l).getD ⟨0, []⟩) (Sep.own_rd hT37) (Sep.own_rd hT33)).yes rfl) ?_
      rintro _ w21 hEw21 rfl
      refine WL.on rfl rfl (WL.ev rfl rfl (Ev.not rfl rfl) (WL.ev rfl rfl (Ev.pickF rfl rfl rfl) (WL.nil ?_)))
      refine CW.condF rfl ?_
      refine CW.skip ?_
      refine CW.fresh [(1, .slice A2 l.length c2), (2, .pointer (some ⟨b1, 0, none⟩)), (4, .bool false), (6, .pointer (some ⟨b2, 0, none⟩)), (9, .pointer (some ⟨b4, 0, none⟩))] ⟨rfl, rfl, rfl, rfl, rfl, trivial⟩ fun σ => ?_
      refine CW.seq (CW.reg ?_)
      refine WL.ev rfl rfl (Ev.as rfl rfl) (WL.nil ?_)
      refine CW.fresh [(1, .slice A2 l.length c2), (2, .pointer (some ⟨b1, 0, none⟩)), (4, .bool false), (6, .pointer (some ⟨b2, 0, none⟩)), (9, .pointer (some ⟨b4, 0, none⟩)), (11, .int .i64 (1))] ⟨rfl, rfl, rfl, rfl, rfl, rfl, trivial⟩ fun σ => ?_
      refine CW.seq (CW.reg ?_)
      refine WL.ev rfl rfl (Ev.lda rfl ag39 sz39 rfl (At.blk (hT38.ext hEw21)) (Rep.len (Sep.own_rd (own_ext hT37 hEw21)))) (WL.ev rfl rfl (Ev.mv rfl rfl) ?_)
      refine WL.call rfl rfl rfl rfl rfl ok31 rfl (markRelation_spec _ L6 ((sProjectRelation_m r l).getD ⟨0, []⟩) (own_ext hT37 hEw21) hN6 1 (by omega) (by have := cnt_project r l; omega)) ?_
      rintro _ w22 hEw22 ⟨rfl, hO_3⟩
      have hT40 := Blk.chgL (hT30.ext hEw21) hEw22 (fun hq => by have := hBb1.lt; have := hF6 _ hq; have := hEw2.size; have := hEw3.size; have := hEw4.size; have := hEw5.size; have := hEb2.size; have := hCw7.size; have := hEw8.size; have := hEb3.size; have := hCw10.size; have := hEw11.size; omega)
      have hT41 := own_chgL (own_ext hT31 hEw21) hEw22 (fun q hq h2 => by have := Sep.own_lt hO1 _ hq; have := hF6 _ h2; have := hEw4.size; have := hEw5.size; have := hEb2.size; have := hCw7.size; have := hEw8.size; have := hEb3.size; have := hCw10.size; have := hEw11.size; omega)
      have hT42 := ownS.chgL (hT32.ext hEw21) hEw22 (fun q hq h2 => by have := hO2.lt _ hq; have := hF6 _ h2; have := hEw5.size; have := hEb2.size; have := hCw7.size; have := hEw8.size; have := hEb3.size; have := hCw10.size; have := hEw11.size; omega)
      have hT43 := own_chgL (own_ext hT33 hEw21) hEw22 (fun q hq h2 => by have := Sep.own_lt hO3 _ hq; have := hF6 _ h2; have := hEb2.size; have := hCw7.size; have := hEw8.size; have := hEb3.size; have := hCw10.size; have := hEw11.size; omega)
      have hT44 := Blk.chgL (hT34.ext hEw21) hEw22 (fun hq => by have := hBb2.lt; have := hF6 _ hq; have := hCw7.size; have := hEw8.size; have := hEb3.size; have := hCw10.size; have := hEw11.size; omega)
      have hT45 := own_chgL (own_ext hT35 hEw21) hEw22 (fun q hq h2 => by have := Sep.own_lt hO4 _ hq; have := hF6 _ h2; have := hEb3.size; have := hCw10.size; have := hEw11.size; omega)
      have hT46 := Blk.chgL (hT36.ext hEw21) hEw22 (fun hq => by have := hBb3.lt; have := hF6 _ hq; have := hCw10.size; have := hEw11.size; omega)
      have hT47 := ownS.chgL (hO_2.ext hEw21) hEw22 (fun q hq h2 => by have := hO5.lt _ hq; have := hF6 _ h2; omega)
      have hT48 := Blk.chgL (hT38.ext hEw21) hEw22 (fun hq => by have := Sep.own_lt hO6 _ hq; have := hbb4; omega)
      have hT49 := ownS.chgL (hT39.ext hEw21) hEw22 (fun q hq h2 => by have := Sep.own_lt hO6 _ h2; have := hF8 _ hq; have := hEb4.size; have := hCw14.size; have := hEw15.size; have := hEw16.size; omega)
      have hX6 := Ext.chgL (hX5.trans hEw21) hEw22 (fun q hq => by have := hF6 _ hq; have := hEb1.size; have := hEw2.size; have := hEw3.size; have := hEw4.size; have := hEw5.size; have := hEb2.size; have := hCw7.size; have := hEw8.size; have := hEb3.size; have := hCw10.size; have := hEw11.size; omega)
      have := cnt_project r l
      refine WL.ev rfl rfl (Ev.as rfl rfl) (WL.nil ?_)
      refine CW.fresh [(1, .slice A2 l.length c2), (2, .pointer (some ⟨b1, 0, none⟩)), (4, .bool false), (6, .pointer (some ⟨b2, 0, none⟩)), (9, .pointer (some ⟨b4, 0, none⟩)), (11, .int .i64 (1 + (MkT.cntT ((sProjectRelation_m r l).getD ⟨0, []⟩) : Nat)))] ⟨rfl, rfl, rfl, rfl, rfl, rfl, trivial⟩ fun σ => ?_
      refine CW.seq (CW.reg ?_)
      refine WL.ev rfl rfl (Ev.as rfl rfl) (WL.nil ?_)
      refine CW.fresh [(1, .slice A2 l.length c2), (2, .pointer (some ⟨b1, 0, none⟩)), (4, .bool false), (6, .pointer (some ⟨b2, 0, none⟩)), (9, .pointer (some ⟨b4, 0, none⟩)), (11, .int .i64 (1 + (MkT.cntT ((sProjectRelation_m r l).getD ⟨0, []⟩) : Nat))), (12, .int .i64 (1))] ⟨rfl, rfl, rfl, rfl, rfl, rfl, rfl, trivial⟩ fun σ => ?_
      refine CW.seq (CW.reg ?_)
      refine WL.ev rfl rfl (Ev.lda rfl ag39 sz39 rfl (At.blk hT48) (Rep.len (Sep.own_rd hO_3))) (WL.ev rfl rfl (Ev.mv rfl rfl) ?_)
      refine WL.call rfl rfl rfl rfl rfl ok32 rfl (heldRelation_spec _ (MkT.mrkT ((sProjectRelation_m r l).getD ⟨0, []⟩) 1) (Sep.own_rd hO_3) 1 (by omega) (by rw [MkT.cmT]; have := cnt_project r l; omega)) ?_
      rintro _ w23 hEw23 ⟨r2, rfl, hr3⟩
      rw [MkT.lawT] at hr3
      have := hr3.is
      refine WL.ev rfl rfl (Ev.as rfl rfl) (WL.nil ?_)
      refine CW.fresh [(1, .slice A2 l.length c2), (2, .pointer (some ⟨b1, 0, none⟩)), (4, .bool false), (6, .pointer (some ⟨b2, 0, none⟩)), (9, .pointer (some ⟨b4, 0, none⟩)), (11, .int .i64 (1 + (MkT.cntT ((sProjectRelation_m r l).getD ⟨0, []⟩) : Nat))), (12, .int .i64 (r2))] ⟨rfl, rfl, rfl, rfl, rfl, rfl, rfl, trivial⟩ fun σ => ?_
      refine CW.seq (CW.seq (CW.reg ?_))
      refine WL.ev rfl rfl (Ev.mv rfl rfl) (WL.ev rfl rfl (Ev.bin rfl rfl rfl (Bin.no (by omega))) (WL.nil ?_))
      refine CW.condF rfl ?_
      refine CW.skip ?_
      refine CW.fresh [(1, .slice A2 l.length c2), (2, .pointer (some ⟨b1, 0, none⟩)), (4, .bool false), (6, .pointer (some ⟨b2, 0, none⟩)), (9, .pointer (some ⟨b4, 0, none⟩)), (11, .int .i64 (1 + (MkT.cntT ((sProjectRelation_m r l).getD ⟨0, []⟩) : Nat))), (12, .int .i64 (r2))] ⟨rfl, rfl, rfl, rfl, rfl, rfl, rfl, trivial⟩ fun σ => ?_
      refine CW.seq (CW.seq (CW.reg ?_))
      refine WL.ev rfl rfl (Ev.mv rfl rfl) (WL.ev rfl rfl (Ev.mv rfl rfl) (WL.ev rfl rfl (Ev.bin rfl rfl rfl (Bin.neqSame (by omega))) (WL.nil ?_)))
      refine CW.condF rfl ?_
      refine CW.skip ?_
      refine CW.fresh [(1, .slice A2 l.length c2), (2, .pointer (some ⟨b1, 0, none⟩)), (4, .bool false), (6, .pointer (some ⟨b2, 0, none⟩)), (9, .pointer (some ⟨b4, 0, none⟩)), (11, .int .i64 (1 + (MkT.cntT ((sProjectRelation_m r l).getD ⟨0, []⟩) : Nat))), (12, .int .i64 (r2))] ⟨rfl, rfl, rfl, rfl, rfl, rfl, rfl, trivial⟩ fun σ => ?_
      refine CW.seq (CW.reg ?_)
      refine WL.ev rfl rfl (Ev.lda rfl ag36 sz36 rfl (At.blk (hT40.ext hEw23)) rfl) ?_
      refine WL.call rfl rfl rfl rfl rfl ok24 rfl (toRelation_spec _ r (rd_ext hK1 (hX6.trans hEw23)) (by omega)) ?_
      rintro _ w24 hEw24 ⟨cs6, rfl, L9, hO9, hN9, hF9⟩
      refine WL.ev rfl rfl (Ev.mv rfl rfl) ?_
      refine WL.call rfl rfl rfl rfl rfl ok45 rfl (toIntS_spec _ l (hl.ext ((hX6.trans hEw23).trans hEw24)) (by omega)) ?_
      rintro v5 w25 hEw25 ⟨L10, hO10, hN10, hF10⟩
      obtain ⟨A6, c6, rfl, hc6, hm6⟩ := hO10.form
      refine WL.call rfl rfl rfl rfl rfl ok46 rfl (iProjectRelation_spec _ r (Sep.own_rd (own_ext hO9 hEw25)) (by omega) l hO10.rd (by omega)) ?_
      rintro _ w26 hEw26 ⟨cs7, rfl, L11, hO11, hN11, hF11⟩
      refine WL.alloc rfl rfl rfl ze39 fun b5 w27 hEb5 hbb5 hBb5 => ?_
      refine WL.stW rfl rfl rfl sz39 rfl rfl rfl (Rep.len (Sep.own_rd (own_ext hO11 hEb5))) (Rep.one (Sep.own_rd (own_ext hO11 hEb5))) hBb5 rfl fun w28 hCw28 hB_4 => ?_
      have hT50 := Blk.chg1 (hT40.ext ((((hEw23.trans hEw24).trans hEw25).trans hEw26).trans hEb5)) hCw28 (by have := hBb1.lt; have := hbb5; have := hEw2.size; have := hEw3.size; have := hEw4.size; have := hEw5.size; have := hEb2.size; have := hCw7.size; have := hEw8.size; have := hEb3.size; have := hCw10.size; have := hEw11.size; have := hEw12.size; have := hEb4.size; have := hCw14.size; have := hEw15.size; have := hEw16.size; have := hEw17.size; have := hEw18.size; have := hEw19.size; have := hEw20.size; have := hEw21.size; have := hEw22.size; have := hEw23.size; have := hEw24.size; have := hEw25.size; have := hEw26.size; omega)
      have hT51 := own_chg1 (own_ext hT41 ((((hEw23.trans hEw24).trans hEw25).trans hEw26).trans hEb5)) hCw28 (fun q hq e => by subst e; have := Sep.own_lt hO1 _ hq; have := hbb5; have := hEw4.size; have := hEw5.size; have := hEb2.size; have := hCw7.size; have := hEw8.size; have := hEb3.size; have := hCw10.size; have := hEw11.size; have := hEw12.size; have := hEb4.size; have := hCw14.size; have := hEw15.size; have := hEw16.size; have := hEw17.size; have := hEw18.size; have := hEw19.size; have := hEw20.size; have := hEw21.size; have := hEw22.size; have := hEw23.size; have := hEw24.size; have := hEw25.size; have := hEw26.size; omega)
      have hT52 := ownS.chg1 (hT42.ext ((((hEw23.trans hEw24).trans hEw25).trans hEw26).trans hEb5)) hCw28 (fun q hq e => by subst e; have := hO2.lt _ hq; have := hbb5; have := hEw5.size; have := hEb2.size; have := hCw7.size; have := hEw8.size; have := hEb3.size; have := hCw10.size; have := hEw11.size; have := hEw12.size; have := hEb4.size; have := hCw14.size; have := hEw15.size; have := hEw16.size; have := hEw17.size; have := hEw18.size; have := hEw19.size; have := hEw20.size; have := hEw21.size; have := hEw22.size; have := hEw23.size; have := hEw24.size; have := hEw25.size; have := hEw26.size; omega)
      have hT53 := own_chg1 (own_ext hT43 ((((hEw23.trans hEw24).trans hEw25).trans hEw26).trans hEb5)) hCw28 (fun q hq e => by subst e; have := Sep.own_lt hO3 _ hq; have := hbb5; have := hEb2.size; have := hCw7.size; have := hEw8.size; have := hEb3.size; have := hCw10.size; have := hEw11.size; have := hEw12.size; have := hEb4.size; have := hCw14.size; have := hEw15.size; have := hEw16.size; have := hEw17.size; have := hEw18.size; have := hEw19.size; have := hEw20.size; have := hEw21.size; have := hEw22.size; have := hEw23.size; have := hEw24.size; have := hEw25.size; have := hEw26.size; omega)
      have hT54 := Blk.chg1 (hT44.ext ((((hEw23.trans hEw24).trans hEw25).trans hEw26).trans hEb5)) hCw28 (by have := hBb2.lt; have := hbb5; have := hCw7.size; have := hEw8.size; have := hEb3.size; have := hCw10.size; have := hEw11.size; have := hEw12.size; have := hEb4.size; have := hCw14.size; have := hEw15.size; have := hEw16.size; have := hEw17.size; have := hEw18.size; have := hEw19.size; have := hEw20.size; have := hEw21.size; have := hEw22.size; have := hEw23.size; have := hEw24.size; have := hEw25.size; have := hEw26.size; omega)
      have hT55 := own_chg1 (own_ext hT45 ((((hEw23.trans hEw24).trans hEw25).trans hEw26).trans hEb5)) hCw28 (fun q hq e => by subst e; have := Sep.own_lt hO4 _ hq; have := hbb5; have := hEb3.size; have := hCw10.size; have := hEw11.size; have := hEw12.size; have := hEb4.size; have := hCw14.size; have := hEw15.size; have := hEw16.size; have := hEw17.size; have := hEw18.size; have := hEw19.size; have := hEw20.size; have := hEw21.size; have := hEw22.size; have := hEw23.size; have := hEw24.size; have := hEw25.size; have := hEw26.size; omega)
      have hT56 := Blk.chg1 (hT46.ext ((((hEw23.trans hEw24).trans hEw25).trans hEw26).trans hEb5)) hCw28 (by have := hBb3.lt; have := hbb5; have := hCw10.size; have := hEw11.size; have := hEw12.size; have := hEb4.size; have := hCw14.size; have := hEw15.size; have := hEw16.size; have := hEw17.size; have := hEw18.size; have := hEw19.size; have := hEw20.size; have := hEw21.size; have := hEw22.size; have := hEw23.size; have := hEw24.size; have := hEw25.size; have := hEw26.size; omega)
      have hT57 := ownS.chg1 (hT47.ext ((((hEw23.trans hEw24).trans hEw25).trans hEw26).trans hEb5)) hCw28 (fun q hq e => by subst e; have := hO5.lt _ hq; have := hbb5; have := hEw12.size; have := hEb4.size; have := hCw14.size; have := hEw15.size; have := hEw16.size; have := hEw17.size; have := hEw18.size; have := hEw19.size; have := hEw20.size; have := hEw21.size; have := hEw22.size; have := hEw23.size; have := hEw24.size; have := hEw25.size; have := hEw26.size; omega)
      have hT58 := own_chg1 (own_ext hO_3 ((((hEw23.trans hEw24).trans hEw25).trans hEw26).trans hEb5)) hCw28 (fun q hq e => by subst e; have := Sep.own_lt hO6 _ hq; have := hbb5; have := hEb4.size; have := hCw14.size; have := hEw15.size; have := hEw16.size; have := hEw17.size; have := hEw18.size; have := hEw19.size; have := hEw20.size; have := hEw21.size; have := hEw22.size; have := hEw23.size; have := hEw24.size; have := hEw25.size; have := hEw26.size; omega)
      have hT59 := Blk.chg1 (hT48.ext ((((hEw23.trans hEw24).trans hEw25).trans hEw26).trans hEb5)) hCw28 (by have := hBb4.lt; have := hbb5; have := hCw14.size; have := hEw15.size; have := hEw16.size; have := hEw17.size; have := hEw18.size; have := hEw19.size; have := hEw20.size; have := hEw21.size; have := hEw22.size; have := hEw23.size; have := hEw24.size; have := hEw25.size; have := hEw26.size; omega)
      have hT60 := ownS.chg1 (hT49.ext ((((hEw23.trans hEw24).trans hEw25).trans hEw26).trans hEb5)) hCw28 (fun q hq e => by subst e; have := hO8.lt _ hq; have := hbb5; have := hEw18.size; have := hEw19.size; have := hEw20.size; have := hEw21.size; have := hEw22.size; have := hEw23.size; have := hEw24.size; have := hEw25.size; have := hEw26.size; omega)
      have hT61 := own_chg1 (own_ext hO9 ((hEw25.trans hEw26).trans hEb5)) hCw28 (fun q hq e => by subst e; have := Sep.own_lt hO9 _ hq; have := hbb5; have := hEw25.size; have := hEw26.size; omega)
      have hT62 := ownS.chg1 (hO10.ext (hEw26.trans hEb5)) hCw28 (fun q hq e => by subst e; have := hO10.lt _ hq; have := hbb5; have := hEw26.size; omega)
      have hT63 := own_chg1 (own_ext hO11 hEb5) hCw28 (fun q hq e => by subst e; have := Sep.own_lt hO11 _ hq; have := hbb5; omega)
      have hX7 := Ext.chg1 (((((hX6.trans hEw23).trans hEw24).trans hEw25).trans hEw26).trans hEb5) hCw28 (by have := hbb5; have := hEb1.size; have := hEw2.size; have := hEw3.size; have := hEw4.size; have := hEw5.size; have := hEb2.size; have := hCw7.size; have := hEw8.size; have := hEb3.size; have := hCw10.size; have := hEw11.size; have := hEw12.size; have := hEb4.size; have := hCw14.size; have := hEw15.size; have := hEw16.size; have := hEw17.size; have := hEw18.size; have := hEw19.size; have := hEw20.size; have := hEw21.size; have := hEw22.size; have := hEw23.size; have := hEw24.size; have := hEw25.size; have := hEw26.size; omega)
      refine WL.nil ?_
      refine CW.fresh [(4, .bool false), (6, .pointer (some ⟨b2, 0, none⟩)), (9, .pointer (some ⟨b4, 0, none⟩)), (11, .int .i64 (1 + (MkT.cntT ((sProjectRelation_m r l).getD ⟨0, []⟩) : Nat))), (12, .int .i64 (r2)), (13, .pointer (some ⟨b5, 0, none⟩))] ⟨rfl, rfl, rfl, rfl, rfl, rfl, trivial⟩ fun σ => ?_
      refine CW.seq (CW.seq (CW.reg ?_))
      refine WL.ev rfl rfl (Ev.lda rfl ag39 sz39 rfl (At.blk hB_4) (Rep.len (Sep.own_rd hT63))) (WL.ev rfl rfl (Ev.lda rfl ag39 sz39 rfl (At.blk hT54) (Rep.len (Sep.own_rd hT53))) ?_)
      refine WL.call rfl rfl rfl rfl rfl ok26 rfl ((eqRelation_spec _ ((sProjectRelation_m r l).getD ⟨0, []⟩) ((sProjectRelation_m r l).getD ⟨0, []⟩) (Sep.own_rd hT63) (Sep.own_rd hT53)).yes rfl) ?_
      rintro _ w29 hEw29 rfl
      refine WL.ev rfl rfl (Ev.not rfl rfl) (WL.nil ?_)
      refine CW.condF rfl ?_
      refine CW.skip ?_
      refine CW.fresh [(4, .bool false), (9, .pointer (some ⟨b4, 0, none⟩)), (11, .int .i64 (1 + (MkT.cntT ((sProjectRelation_m r l).getD ⟨0, []⟩) : Nat))), (12, .int .i64 (r2))] ⟨rfl, rfl, rfl, rfl, trivial⟩ fun σ => ?_
      refine CW.seq (CW.reg ?_)
      refine WL.ev rfl rfl (Ev.as rfl rfl) (WL.nil ?_)
      refine CW.fresh [(4, .bool false), (9, .pointer (some ⟨b4, 0, none⟩)), (11, .int .i64 (1 + (MkT.cntT ((sProjectRelation_m r l).getD ⟨0, []⟩) : Nat))), (12, .int .i64 (1))] ⟨rfl, rfl, rfl, rfl, trivial⟩ fun σ => ?_
      refine CW.seq (CW.reg ?_)
      refine WL.ev rfl rfl (Ev.lda rfl ag39 sz39 rfl (At.blk (hT59.ext hEw29)) (Rep.len (Sep.own_rd (own_ext hT58 hEw29)))) (WL.ev rfl rfl (Ev.mv rfl rfl) ?_)
      refine WL.call rfl rfl rfl rfl rfl ok32 rfl (heldRelation_spec _ (MkT.mrkT ((sProjectRelation_m r l).getD ⟨0, []⟩) 1) (Sep.own_rd (own_ext hT58 hEw29)) 1 (by omega) (by rw [MkT.cmT]; have := cnt_project r l; omega)) ?_
      rintro _ w30 hEw30 ⟨r3, rfl, hr4⟩
      rw [MkT.lawT] at hr4
      have := hr4.is
      refine WL.ev rfl rfl (Ev.as rfl rfl) (WL.nil ?_)
      refine CW.fresh [(4, .bool false), (11, .int .i64 (1 + (MkT.cntT ((sProjectRelation_m r l).getD ⟨0, []⟩) : Nat))), (12, .int .i64 (r3))] ⟨rfl, rfl, rfl, trivial⟩ fun σ => ?_
      refine CW.seq (CW.seq (CW.reg ?_))
      refine WL.ev rfl rfl (Ev.mv rfl rfl) (WL.ev rfl rfl (Ev.bin rfl rfl rfl (Bin.no (by omega))) (WL.nil ?_))
      refine CW.condF rfl ?_
      refine CW.skip ?_
      refine CW.fresh [(4, .bool false), (11, .int .i64 (1 + (MkT.cntT ((sProjectRelation_m r l).getD ⟨0, []⟩) : Nat))), (12, .int .i64 (r3))] ⟨rfl, rfl, rfl, trivial⟩ fun σ => ?_
      refine CW.seq (CW.seq (CW.reg ?_))
      refine WL.ev rfl rfl (Ev.mv rfl rfl) (WL.ev rfl rfl (Ev.mv rfl rfl) (WL.ev rfl rfl (Ev.bin rfl rfl rfl (Bin.neqSame (by omega))) (WL.nil ?_)))
      refine CW.condF rfl ?_
      refine CW.skip ?_
      refine CW.fresh [(4, .bool false)] ⟨rfl, trivial⟩ fun σ => ?_
      refine CW.seq (CW.reg ?_)
      refine WL.ev rfl rfl (Ev.as rfl rfl) (WL.nil ?_)
      refine CW.ret ?_
      exact ⟨_, res1 rfl rfl rfl, ((hX7.trans hEw29).trans hEw30), rfl⟩

theorem open3 : Opens Try.prog 3 Int := Opens.int (by kernel_rfl) Try.underlying3
theorem open34 : Opens Try.prog 34 (List Int) := Opens.slice (by kernel_rfl) Try.underlying34 open3
theorem open36 : Opens Try.prog 36 Relation := by
  refine Opens.struct (k := 2) (by kernel_rfl) rfl Try.underlying36 fun H enc w base spare held n cs xs hl hx hf => ?_
  obtain ⟨c0, t0, rfl, hl0⟩ := lenS hl
  obtain ⟨c1, t1, rfl, hl1⟩ := lenS hl0
  obtain rfl := len0 hl1
  obtain ⟨a0, r0⟩ := Opens.fld (i := 0) (t := 3) (off := 0) (k := 1) open3 hf hx rfl rfl rfl rfl
  have q0 : rd (fun _ => True) w a0 [c0] := r0
  obtain ⟨e0, h0_0⟩ := q0
  simp only [List.cons.injEq, and_true] at e0
  obtain rfl := e0
  obtain ⟨a1, r1⟩ := Opens.fld (i := 1) (t := 34) (off := 1) (k := 1) open34 hf hx rfl rfl rfl rfl
  have q1 : rd (fun _ => True) w a1 [c1] := r1
  obtain ⟨v1_0, e1, s1_0⟩ := q1
  simp only [List.cons.injEq, and_true] at e1
  obtain rfl := e1
  exact ⟨⟨a0, a1⟩, _, rfl, h0_0, s1_0⟩
section
open Go.ChangeShapes Go.WideShapes Go.ChangeAt Go.RowKit
theorem own_knob : ownKnob Try.prog.godebug = none := by kernel_rfl
theorem laid_out : laidOutB Try.prog = true := by kernel_rfl
set_option maxRecDepth 100000 in
theorem fnExactProjectRelation_lifted (os : Os) (started : os.Started) (H : Type) (enc : TypeId × Value → H) :
    ReturnsInHanded {} Try.checked os 11 .any (Rows.fnExactProjectRelationSpec.pre6 enc Try.prog Try.f11 Rows.fnExactProjectRelationRow.domain false) (Rows.fnExactProjectRelationSpec.post enc Try.prog Try.f11 false true false false) := by
  refine returnsInHanded_of_change (C := Try.checked) own_knob started (by kernel_rfl) Try.func11
    (ChangeSpec.witness6 (enc := enc) (C := Try.checked) false ⟨#[], #[.agg #[.int .i64 0, .slice none 0 0], .slice none 0 0], []⟩ 8 (by kernel_rfl) (by kernel_rfl) (by kernel_rfl) (by kernel_rfl)) ?_
  intro W base args ds gs before hval0 hW hcnd _
  have hval : ∀ (j : Nat) t v, Try.f11.params[j]? = some t → args[j]? = some v → Value.okWide Try.prog W .any base t v := hval0
  have hW' := hW
  obtain ⟨p, q, hA0, hV, rfl, hfz, hnd⟩ := hW
  have hA : DataW.TrodAll enc Try.prog W 0 (fun _ => true) true Try.f11.params.toList args.toList ds p := hA0
  rw [Try.params11] at hA hval
  obtain ⟨v0, vs0, d0, ds0, p0, q0, hargs, rfl, rfl, t0, r0⟩ := trodAll_cons hA
  obtain ⟨v1, vs1, d1, ds1, p1, q1, rfl, rfl, rfl, t1, r1⟩ := trodAll_cons r0
  obtain ⟨rfl, rfl, rfl⟩ := trodAll_nil r1
  obtain rfl : args = #[v0, v1] := by cases args; simp_all
  obtain ⟨rfl, rfl⟩ := trodVars_none hV
  have k0 := t0
  have lt0 : ∀ x ∈ p0, x.block < W.heap.size := by obtain ⟨m, hm⟩ := k0; exact DataW.trod_lt m _ _ _ hm
  obtain ⟨m0, hm0⟩ := t0
  obtain ⟨a0, ha0⟩ := open36.2 _ _ _ _ _ _ _ _ _ hm0
  obtain ⟨⟨c0⟩, rfl, _⟩ := okWide_struct Try.underlying36 (hval 0 36 v0 rfl rfl)
  have k1 := t1
  have lt1 : ∀ x ∈ p1, x.block < W.heap.size := by obtain ⟨m, hm⟩ := k1; exact DataW.trod_lt m _ _ _ hm
  obtain ⟨m1, hm1⟩ := t1
  obtain ⟨a1, ha1⟩ := open34.2 _ _ _ _ _ _ _ _ _ hm1
  obtain ⟨x1, l1, c1, rfl⟩ := okWide_slice Try.underlying34 (hval 1 34 v1 rfl rfl)
  obtain ⟨z1, e1, ha1⟩ := ha1
  obtain rfl : Value.slice x1 l1 c1 = z1 := by injection e1
  clear hA0 hval0
  refine Calls.mono (FnExactProjectRelation_law W a0 ha0 a1 ha1) fun e W' ⟨v, he, hch, hv⟩ => ?_
  subst he; subst hv
  have bel := Ext.below hch
  exact ⟨_, rfl, _, _, _, [], _, [], hW', trodAll_mk1 (shut_bool Try.underlying4 _), (trodAll_cons_mk (Below.trod laid_out (by kernel_rfl) (of_decide_eq_true (by kernel_rfl)) k0 bel lt0) (trodAll_cons_mk (Below.trod laid_out (by kernel_rfl) (of_decide_eq_true (by kernel_rfl)) k1 bel lt1) trodAll_mk0)), rfl, bel.frame _, fun h => by cases h⟩
theorem fnExactProjectRelation_holds : Rows.FnExactProjectRelationSaid :=
  OpenClaim.holds_of_wide 11 Try.f11 rfl rfl rfl rfl rfl rfl rfl ⟨rfl, rfl, rfl, rfl, rfl⟩ rfl rfl rfl rfl rfl (by kernel_rfl) Try.func11 (by kernel_rfl)
    (of_decide_eq_true (by kernel_rfl)) (by unfold Func.isWrapper; first | (rw [if_pos (by decide +kernel)]; kernel_rfl) | (rw [if_neg (by decide +kernel)]; exact ⟨rfl, rfl⟩))
    (fun os started H enc _ => fnExactProjectRelation_lifted os started H enc)
end
end Go.Proofs.Ytaenbhfjiihhnaa
