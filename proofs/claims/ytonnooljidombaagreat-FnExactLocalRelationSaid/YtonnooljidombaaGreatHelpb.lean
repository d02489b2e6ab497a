/- What the helpers of the laws do (sizes, copies, tests, marks): each lemma bears its conditions in its statement. -/
import Derived.Test.YtonnooljidombaaGreatRows
import Derived.Test.YtonnooljidombaaGreatEngD
import Derived.Test.YtonnooljidombaaGreatHelpa
set_option linter.unusedVariables false
set_option linter.unusedSimpArgs false
set_option linter.ambiguousOpen false
set_option linter.unusedSectionVars false
set_option linter.unnecessarySimpa false
set_option linter.unusedVariables false
set_option linter.unusedSimpArgs false
set_option maxRecDepth 100000
set_option maxHeartbeats 1000000
namespace Go.Proofs.YtonnooljidombaaGreat
open Go Go.E
open Go.E.Rep (rd)
open Go.E.Sep (own)
theorem sz5 : szT Tryz.prog 5 = some 1 := by kernel_rfl
theorem ze5 : zeroT Tryz.prog 5 = some [.int .u8 0] := by kernel_rfl
theorem el66 : elemT Tryz.prog 66 = some 5 := by kernel_rfl
theorem it5 : intT Tryz.prog 5 = some .u8 := by kernel_rfl
theorem ok72 : callable Tryz.prog 72 = true := by kernel_rfl
theorem ok73 : callable Tryz.prog 73 = true := by kernel_rfl
theorem ok74 : callable Tryz.prog 74 = true := by kernel_rfl
theorem ok75 : callable Tryz.prog 75 = true := by kernel_rfl
theorem ok76 : callable Tryz.prog 76 = true := by kernel_rfl
theorem ok77 : callable Tryz.prog 77 = true := by kernel_rfl
theorem ok78 : callable Tryz.prog 78 = true := by kernel_rfl
theorem ok136 : callable Tryz.prog 136 = true := by kernel_rfl
theorem ok137 : callable Tryz.prog 137 = true := by kernel_rfl
theorem ok138 : callable Tryz.prog 138 = true := by kernel_rfl
theorem markText_spec (w : World) (k : Int) (hk0 : 0 ≤ k) (hk1 : k ≤ 4611686018427387904) :
    Ret Tryz.prog 136 #[.int .i64 k] w (fun _ => False) fun v _ => v = .string (mtext k) := by
  refine enter Tryz.func136 rfl rfl rfl ?_
  refine CW.seq (CW.reg ?_)
  refine WL.ev rfl rfl (Ev.as rfl rfl) (WL.nil ?_)
  refine CW.seq (CW.seq (CW.reg ?_))
  refine WL.ev rfl rfl (Ev.mv rfl rfl) (WL.ev rfl rfl (Ev.bin rfl rfl rfl Bin.leq) (WL.nil ?_))
  refine CW.condD rfl (fun h1 => ?_) (fun h1 => ?_)
  · skip
    refine CW.seq (CW.reg ?_)
    refine WL.ev rfl rfl (Ev.as rfl rfl) (WL.nil ?_)
    refine CW.ret ?_
    exact ⟨_, res1 rfl rfl rfl, (Ext.refl _), vS (by simp only [mtext]; rw [if_pos (by omega)])⟩
  · skip
    refine CW.skip ?_
    refine CW.seq (CW.reg ?_)
    refine WL.ev rfl rfl (Ev.as rfl rfl) (WL.nil ?_)
    refine CW.seq (CW.block (CW.loop (α := Nat × ByteArray) (fun q => [(0, .int .i64 (q.1 : Int)), (3, .string q.2)]) (fun q wr => Ext w wr ∧ q.1 ≤ k.toNat ∧ digs q.1 q.1 q.2 = digs k.toNat k.toNat ⟨#[]⟩ ∧ q.2.size + q.1 ≤ k.toNat) (fun q => q.1) (k.toNat, ⟨#[]⟩) ⟨by rw [Int.toNat_of_nonneg (by omega)]; rfl, rfl, trivial⟩ ⟨Ext.refl _, Nat.le_refl _, rfl, by show 0 + _ ≤ _; omega⟩ ?_))
    rintro ⟨m, s⟩ σ wr1 ⟨hEwr1, hm, hds, hsz⟩
    simp only at hm hds hsz
    have hdg : UInt8.ofNat (IntKind.u8.wrap (48 + ((m % 10 : Nat) : Int))).toNat = (48 + m % 10).toUInt8 := digit_byte m
    have hadd := add_bound (b := (48 + m % 10).toUInt8) m s hsz hk1
    refine CW.seq (CW.seq (CW.reg ?_))
    refine WL.ev rfl rfl (Ev.mv rfl rfl) (WL.ev rfl rfl (Ev.bin rfl rfl rfl Bin.gtr) (WL.nil ?_))
    refine CW.condD rfl (fun h2 => ?_) (fun h2 => ?_)
    · skip
      refine CW.skip ?_
      refine CW.block (CW.seq (CW.reg ?_))
      refine WL.ev rfl rfl (Ev.mv rfl rfl) (WL.ev rfl rfl (Ev.bin rfl rfl rfl (Bin.rem (x := m) (y := 10) (by omega))) (WL.ev rfl rfl (Ev.bin rfl rfl rfl (Bin.add (by omega))) (WL.ev rfl rfl (Ev.conv rfl Tryz.underlying3 it5 rfl) ?_)))
      refine WL.lit1 rfl rfl rfl el66 sz5 ze5 rfl rfl rfl rfl rfl rfl fun bl w1 hE1 hbl hBl => ?_
      refine WL.ev rfl rfl (Ev.convB1 rfl el66 it5 Tryz.underlying9 rfl hBl (Nat.le_refl _)) (WL.ev rfl rfl (Ev.mv rfl rfl) (WL.ev rfl rfl (Ev.bin rfl rfl rfl (Bin.addS hadd)) (WL.ev rfl rfl (Ev.as rfl rfl) (WL.nil ?_))))
      refine CW.reg ?_
      refine WL.ev rfl rfl (Ev.mv rfl rfl) (WL.ev rfl rfl (Ev.bin rfl rfl rfl (Bin.quo (x := m) (y := 10) (by omega) (by omega))) (WL.ev rfl rfl (Ev.as rfl rfl) (WL.nil ?_)))
      exact ⟨(m / 10, ⟨#[(48 + m % 10).toUInt8]⟩ ++ s), ⟨rfl, by rw [hdg]; rfl, trivial⟩, ⟨(hEwr1.trans hE1), by simp only; omega, ((digs_fuel _ _ _ _ (Nat.le_refl _) (by omega)).trans (digs_step (m := m) (s := s) (by omega)).symm).trans hds, by simp only; have := size_one_append (48 + m % 10).toUInt8 s; omega⟩, by simp only; omega⟩
    · skip
      refine CW.exit ?_
      refine CW.seq (CW.reg ?_)
      refine WL.ev rfl rfl (Ev.mv rfl rfl) (WL.ev rfl rfl (Ev.bin rfl rfl rfl (Bin.addS hadd)) (WL.ev rfl rfl (Ev.as rfl rfl) (WL.nil ?_)))
      refine CW.ret ?_
      have hm0 : m = 0 := by omega
      subst hm0
      exact ⟨_, res1 rfl rfl rfl, hEwr1, vS (by simp only [mtext]; rw [if_neg (by omega), ← hds]; simp [digs])⟩

theorem markAttributeS_spec (w : World) (L : List Nat) (x : List Attribute) {z : Value} (hx : ownS L w x z) (hN : L.Nodup) (k0 : Int) (hk0 : 0 ≤ k0) (hk1 : k0 + cntL x ≤ 4611686018427387904) :
    Ret Tryz.prog 137 #[z, .int .i64 k0] w (· ∈ L) fun v w' => v = .int .i64 (k0 + cntL x) ∧ ownS L w' (mkL x k0) z := by
  refine enter Tryz.func137 rfl rfl rfl ?_
  obtain ⟨A1, c1, rfl, hc1, hm1⟩ := hx.form
  have hl1 : x.length ≤ 9223372036854775807 := Nat.le_trans hc1 hm1
  refine CW.seq (CW.reg ?_)
  refine WL.ev rfl rfl (Ev.as rfl rfl) (WL.nil ?_)
  refine CW.seq (CW.seq (CW.reg ?_))
  refine WL.ev rfl rfl (Ev.as rfl rfl) (WL.nil ?_)
  refine CW.block (CW.loop (α := Nat × Int) (fun q => [(0, .slice A1 x.length c1), (1, .int .i64 q.2), (5, .int .i64 (q.1 : Int))]) (fun q wr => Chg (· ∈ L) w wr ∧ q.1 ≤ x.length ∧ ownS L wr (mixL x k0 q.1) (.slice A1 x.length c1) ∧ q.2 = k0 + cntL (x.take q.1)) (fun q => x.length - q.1) (0, k0) ⟨rfl, rfl, rfl, trivial⟩ ⟨Chg.refl _, by simp, by rw [mixL_zero]; exact hx, by simp [cntL]⟩ ?_)
  rintro ⟨k, l⟩ σ wr1 ⟨hEwr1, hk, hO, hl⟩
  simp only at hk hO hl
  subst hl
  have hcl0 := cntL_take_le x k
  refine CW.fresh [(0, .slice A1 x.length c1), (1, .int .i64 ((k0 + (cntL (x.take k) : Nat)))), (5, .int .i64 ((k : Int)))] ⟨rfl, rfl, rfl, trivial⟩ fun σ => ?_
  refine CW.seq (CW.seq (CW.reg ?_))
  refine WL.ev rfl rfl (Ev.mv rfl rfl) (WL.ev rfl rfl (Ev.mv rfl rfl) (WL.ev rfl rfl (Ev.lenS rfl el81 rfl) (WL.ev rfl rfl (Ev.bin rfl rfl rfl Bin.lss) (WL.nil ?_))))
  refine CW.condD rfl (fun h1 => ?_) (fun h1 => ?_)
  · skip
    refine CW.skip ?_
    refine CW.fresh [(0, .slice A1 x.length c1), (1, .int .i64 ((k0 + (cntL (x.take k) : Nat)))), (5, .int .i64 ((k : Int)))] ⟨rfl, rfl, rfl, trivial⟩ fun σ => ?_
    refine CW.seq (CW.block (CW.seq (CW.reg ?_)))
    refine WL.ev rfl rfl (Ev.mv rfl rfl) (WL.ev rfl rfl (Ev.mv rfl rfl) (WL.ev rfl rfl (Ev.mv rfl rfl) ?_))
    obtain ⟨y, hy⟩ : ∃ y, x[k]? = some y := ⟨_, List.getElem?_eq_getElem (by omega)⟩
    have hct := cntL_take_succ hy
    have hcl := cntL_take_le x (k + 1)
    have hcn : Mk.cnt y = 1 + 1 + 1 + 1 := rfl
    obtain ⟨b, o, e, cur, Li, ci, hA, hbL, hbN, hLN, hLL, hBf, hfit, how, hplug⟩ := hO.mark1 hN hy
    obtain ⟨rfl, hr1, hr2, hr3, rfl⟩ := how
    have hM0 := Chg.refl (M := (· ∈ b :: [])) wr1
    refine WL.call rfl rfl rfl rfl rfl ok136 rfl (markText_spec _ _ (by omega) (by omega)) ?_
    rintro _ w1 hEw1 rfl
    have hM1 := hM0.trans_ext hEw1
    refine WL.ev rfl rfl (Ev.ixA rfl el81 sz156 rfl hA rfl (by omega)) (WL.ev rfl rfl (Ev.fa rfl fo156_0 rfl) ?_)
    refine WL.stE (O := o + k * 4) (j := 0) rfl rfl rfl sz9 rfl rfl rfl rfl (all1 rfl all0) (hBf.ext hEw1) rfl hfit rfl fun w2 hCw2 hB_1 => ?_
    have hB_1 : Blk _ _ _ (splice _ _ [_, _, _, _]) := hB_1
    have hM2 := hM1.tr1 hCw2 List.mem_cons_self
    refine WL.nil ?_
    refine CW.fresh [(0, .slice A1 x.length c1), (1, .int .i64 ((k0 + (cntL (x.take k) : Nat)))), (5, .int .i64 ((k : Int)))] ⟨rfl, rfl, rfl, trivial⟩ fun σ => ?_
    refine CW.seq (CW.reg ?_)
    refine WL.ev rfl rfl (Ev.mv rfl rfl) (WL.ev rfl rfl (Ev.bin rfl rfl rfl (Bin.add (by omega))) (WL.ev rfl rfl (Ev.as rfl rfl) (WL.nil ?_)))
    refine CW.fresh [(0, .slice A1 x.length c1), (1, .int .i64 ((((k0 + (cntL (x.take k) : Nat))) + 1))), (5, .int .i64 ((k : Int)))] ⟨rfl, rfl, rfl, trivial⟩ fun σ => ?_
    refine CW.seq (CW.reg ?_)
    refine WL.ev rfl rfl (Ev.mv rfl rfl) (WL.ev rfl rfl (Ev.mv rfl rfl) (WL.ev rfl rfl (Ev.mv rfl rfl) (WL.ev rfl rfl (Ev.ixA rfl el81 sz156 rfl hA rfl (by omega)) (WL.ev rfl rfl (Ev.fa rfl fo156_1 rfl) ?_))))
    refine WL.stE (O := o + k * 4) (j := 1) rfl rfl rfl sz3 rfl rfl rfl rfl (all1 rfl all0) hB_1 rfl hfit rfl fun w3 hCw3 hB_2 => ?_
    have hB_2 : Blk _ _ _ (splice _ _ [_, _, _, _]) := hB_2
    have hM3 := hM2.tr1 hCw3 List.mem_cons_self
    refine WL.nil ?_
    refine CW.fresh [(0, .slice A1 x.length c1), (1, .int .i64 ((((k0 + (cntL (x.take k) : Nat))) + 1))), (5, .int .i64 ((k : Int)))] ⟨rfl, rfl, rfl, trivial⟩ fun σ => ?_
    refine CW.seq (CW.reg ?_)
    refine WL.ev rfl rfl (Ev.mv rfl rfl) (WL.ev rfl rfl (Ev.bin rfl rfl rfl (Bin.add (by omega))) (WL.ev rfl rfl (Ev.as rfl rfl) (WL.nil ?_)))
    refine CW.fresh [(0, .slice A1 x.length c1), (1, .int .i64 ((((((k0 + (cntL (x.take k) : Nat))) + 1)) + 1))), (5, .int .i64 ((k : Int)))] ⟨rfl, rfl, rfl, trivial⟩ fun σ => ?_
    refine CW.seq (CW.reg ?_)
    refine WL.ev rfl rfl (Ev.mv rfl rfl) (WL.ev rfl rfl (Ev.mv rfl rfl) (WL.ev rfl rfl (Ev.mv rfl rfl) (WL.ev rfl rfl (Ev.ixA rfl el81 sz156 rfl hA rfl (by omega)) (WL.ev rfl rfl (Ev.fa rfl fo156_2 rfl) ?_))))
    refine WL.stE (O := o + k * 4) (j := 2) rfl rfl rfl sz3 rfl rfl rfl rfl (all1 rfl all0) hB_2 rfl hfit rfl fun w4 hCw4 hB_3 => ?_
    have hB_3 : Blk _ _ _ (splice _ _ [_, _, _, _]) := hB_3
    have hM4 := hM3.tr1 hCw4 List.mem_cons_self
    refine WL.nil ?_
    refine CW.fresh [(0, .slice A1 x.length c1), (1, .int .i64 ((((((k0 + (cntL (x.take k) : Nat))) + 1)) + 1))), (5, .int .i64 ((k : Int)))] ⟨rfl, rfl, rfl, trivial⟩ fun σ => ?_
    refine CW.seq (CW.reg ?_)
    refine WL.ev rfl rfl (Ev.mv rfl rfl) (WL.ev rfl rfl (Ev.bin rfl rfl rfl (Bin.add (by omega))) (WL.ev rfl rfl (Ev.as rfl rfl) (WL.nil ?_)))
    refine CW.fresh [(0, .slice A1 x.length c1), (1, .int .i64 ((((((((k0 + (cntL (x.take k) : Nat))) + 1)) + 1)) + 1))), (5, .int .i64 ((k : Int)))] ⟨rfl, rfl, rfl, trivial⟩ fun σ => ?_
    refine CW.seq (CW.reg ?_)
    refine WL.ev rfl rfl (Ev.mv rfl rfl) (WL.ev rfl rfl (Ev.mv rfl rfl) (WL.ev rfl rfl (Ev.mv rfl rfl) (WL.ev rfl rfl (Ev.bin rfl rfl rfl (Bin.rem3 (by omega))) (WL.ev rfl rfl (Ev.bin rfl rfl rfl Bin.eql) (WL.ev rfl rfl (Ev.ixA rfl el81 sz156 rfl hA rfl (by omega)) (WL.ev rfl rfl (Ev.fa rfl fo156_3 rfl) ?_))))))
    refine WL.stE (O := o + k * 4) (j := 3) rfl rfl rfl sz4 rfl rfl rfl rfl (all1 rfl all0) hB_3 rfl hfit rfl fun w5 hCw5 hB_4 => ?_
    have hB_4 : Blk _ _ _ (splice _ _ [_, _, _, _]) := hB_4
    have hM5 := hM4.tr1 hCw5 List.mem_cons_self
    refine WL.nil ?_
    refine CW.fresh [(0, .slice A1 x.length c1), (1, .int .i64 ((((((((k0 + (cntL (x.take k) : Nat))) + 1)) + 1)) + 1))), (5, .int .i64 ((k : Int)))] ⟨rfl, rfl, rfl, trivial⟩ fun σ => ?_
    refine CW.reg ?_
    refine WL.ev rfl rfl (Ev.mv rfl rfl) (WL.ev rfl rfl (Ev.bin rfl rfl rfl (Bin.add (by omega))) (WL.ev rfl rfl (Ev.as rfl rfl) (WL.nil ?_)))
    refine CW.fresh [(0, .slice A1 x.length c1), (1, .int .i64 ((((((((((k0 + (cntL (x.take k) : Nat))) + 1)) + 1)) + 1)) + 1))), (5, .int .i64 ((k : Int)))] ⟨rfl, rfl, rfl, trivial⟩ fun σ => ?_
    refine CW.reg ?_
    refine WL.ev rfl rfl (Ev.mv rfl rfl) (WL.ev rfl rfl (Ev.bin rfl rfl rfl (Bin.add (by omega))) (WL.ev rfl rfl (Ev.as rfl rfl) (WL.nil ?_)))
    exact ⟨(k + 1, _), ⟨rfl, rfl, rfl, trivial⟩, ⟨hEwr1.trL hM5 (List.forall_mem_cons.2 ⟨hbL, hLL⟩), by simp only; omega, hplug hM5 ⟨rfl, rS (by omega), rI (by omega) (by omega), rI (by omega) (by omega), rfl⟩ hB_4, by simp only; omega⟩, by simp only; omega⟩
  · skip
    refine CW.exit ?_
    refine CW.seq (CW.reg ?_)
    refine WL.ev rfl rfl (Ev.mv rfl rfl) (WL.ev rfl rfl (Ev.as rfl rfl) (WL.nil ?_))
    refine CW.ret ?_
    exact ⟨_, res1 rfl rfl rfl, hEwr1, vI (by simp only [cntL_full (xs := x) (i := k) (by omega)]), by rw [← mixL_all x k0 (i := k) (by omega)]; exact hO⟩

theorem markSymbolS_spec (w : World) (L : List Nat) (x : List Symbol) {z : Value} (hx : ownS L w x z) (hN : L.Nodup) (k0 : Int) (hk0 : 0 ≤ k0) (hk1 : k0 + cntL x ≤ 4611686018427387904) :
    Ret Tryz.prog 72 #[z, .int .i64 k0] w (· ∈ L) fun v w' => v = .int .i64 (k0 + cntL x) ∧ ownS L w' (mkL x k0) z := by
  refine enter Tryz.func72 rfl rfl rfl ?_
  obtain ⟨A1, c1, rfl, hc1, hm1⟩ := hx.form
  have hl1 : x.length ≤ 9223372036854775807 := Nat.le_trans hc1 hm1
  refine CW.seq (CW.reg ?_)
  refine WL.ev rfl rfl (Ev.as rfl rfl) (WL.nil ?_)
  refine CW.seq (CW.seq (CW.reg ?_))
  refine WL.ev rfl rfl (Ev.as rfl rfl) (WL.nil ?_)
  refine CW.block (CW.loop (α := Nat × Int) (fun q => [(0, .slice A1 x.length c1), (1, .int .i64 q.2), (5, .int .i64 (q.1 : Int))]) (fun q wr => Chg (· ∈ L) w wr ∧ q.1 ≤ x.length ∧ ownS L wr (mixL x k0 q.1) (.slice A1 x.length c1) ∧ q.2 = k0 + cntL (x.take q.1)) (fun q => x.length - q.1) (0, k0) ⟨rfl, rfl, rfl, trivial⟩ ⟨Chg.refl _, by simp, by rw [mixL_zero]; exact hx, by simp [cntL]⟩ ?_)
  rintro ⟨k, l⟩ σ wr1 ⟨hEwr1, hk, hO, hl⟩
  simp only at hk hO hl
  subst hl
  have hcl0 := cntL_take_le x k
  refine CW.fresh [(0, .slice A1 x.length c1), (1, .int .i64 ((k0 + (cntL (x.take k) : Nat)))), (5, .int .i64 ((k : Int)))] ⟨rfl, rfl, rfl, trivial⟩ fun σ => ?_
  refine CW.seq (CW.seq (CW.reg ?_))
  refine WL.ev rfl rfl (Ev.mv rfl rfl) (WL.ev rfl rfl (Ev.mv rfl rfl) (WL.ev rfl rfl (Ev.lenS rfl el37 rfl) (WL.ev rfl rfl (Ev.bin rfl rfl rfl Bin.lss) (WL.nil ?_))))
  refine CW.condD rfl (fun h1 => ?_) (fun h1 => ?_)
  · skip
    refine CW.skip ?_
    refine CW.fresh [(0, .slice A1 x.length c1), (1, .int .i64 ((k0 + (cntL (x.take k) : Nat)))), (5, .int .i64 ((k : Int)))] ⟨rfl, rfl, rfl, trivial⟩ fun σ => ?_
    refine CW.seq (CW.block (CW.seq (CW.reg ?_)))
    refine WL.ev rfl rfl (Ev.mv rfl rfl) (WL.ev rfl rfl (Ev.mv rfl rfl) (WL.ev rfl rfl (Ev.mv rfl rfl) ?_))
    obtain ⟨y, hy⟩ : ∃ y, x[k]? = some y := ⟨_, List.getElem?_eq_getElem (by omega)⟩
    have hct := cntL_take_succ hy
    have hcl := cntL_take_le x (k + 1)
    have hcn : Mk.cnt y = 1 + cntL y.Attributes := rfl
    obtain ⟨b, o, e, cur, Li, ci, hA, hbL, hbN, hLN, hLL, hBf, hfit, how, hplug⟩ := hO.mark1 hN hy
    obtain ⟨v1, L1, rfl, hr1, rfl, hO1⟩ := how
    obtain ⟨A2, c2, rfl, hc1, hm1⟩ := hO1.form
    have hM0 := Chg.refl (M := (· ∈ b :: Li)) wr1
    refine WL.call rfl rfl rfl rfl rfl ok136 rfl (markText_spec _ _ (by omega) (by omega)) ?_
    rintro _ w1 hEw1 rfl
    have hM1 := hM0.trans_ext hEw1
    refine WL.ev rfl rfl (Ev.ixA rfl el37 sz161 rfl hA rfl (by omega)) (WL.ev rfl rfl (Ev.fa rfl fo161_0 rfl) ?_)
    refine WL.stE (O := o + k * 2) (j := 0) rfl rfl rfl sz9 rfl rfl rfl rfl (all1 rfl all0) (hBf.ext hEw1) rfl hfit rfl fun w2 hCw2 hB_1 => ?_
    have hB_1 : Blk _ _ _ (splice _ _ [_, _]) := hB_1
    have hM2 := hM1.tr1 hCw2 List.mem_cons_self
    have hO_1 := ownS.chg1 (hO1.ext hEw1) hCw2 (fun q hq e => hbN (by subst e; simp [hq]))
    refine WL.nil ?_
    refine CW.fresh [(0, .slice A1 x.length c1), (1, .int .i64 ((k0 + (cntL (x.take k) : Nat)))), (5, .int .i64 ((k : Int)))] ⟨rfl, rfl, rfl, trivial⟩ fun σ => ?_
    refine CW.seq (CW.reg ?_)
    refine WL.ev rfl rfl (Ev.mv rfl rfl) (WL.ev rfl rfl (Ev.bin rfl rfl rfl (Bin.add (by omega))) (WL.ev rfl rfl (Ev.as rfl rfl) (WL.nil ?_)))
    refine CW.fresh [(0, .slice A1 x.length c1), (1, .int .i64 ((((k0 + (cntL (x.take k) : Nat))) + 1))), (5, .int .i64 ((k : Int)))] ⟨rfl, rfl, rfl, trivial⟩ fun σ => ?_
    refine CW.reg ?_
    refine WL.ev rfl rfl (Ev.mv rfl rfl) (WL.ev rfl rfl (Ev.mv rfl rfl) (WL.ev rfl rfl (Ev.ixA rfl el37 sz161 rfl hA rfl (by omega)) (WL.ev rfl rfl (Ev.fa rfl fo161_1 rfl) (WL.ev rfl rfl (Ev.ld rfl ag81 rfl ((hB_1.foc (s := 2) rfl hfit).cell (j := 1) rfl)) (WL.ev rfl rfl (Ev.mv rfl rfl) ?_)))))
    refine WL.call rfl rfl rfl rfl rfl ok137 rfl (markAttributeS_spec _ _ y.Attributes hO_1 hLN _ (by omega) (by omega)) ?_
    rintro _ w3 hEw3 ⟨rfl, hO_2⟩
    have hM3 := hM2.trL hEw3 (fun q hq => by simp [hq])
    have hB_2 := Blk.chgL hB_1 hEw3 (fun hq => hbN (by simp [hq]))
    refine WL.ev rfl rfl (Ev.as rfl rfl) (WL.nil ?_)
    refine CW.fresh [(0, .slice A1 x.length c1), (1, .int .i64 (((((k0 + (cntL (x.take k) : Nat))) + 1) + (cntL y.Attributes : Nat)))), (5, .int .i64 ((k : Int)))] ⟨rfl, rfl, rfl, trivial⟩ fun σ => ?_
    refine CW.reg ?_
    refine WL.ev rfl rfl (Ev.mv rfl rfl) (WL.ev rfl rfl (Ev.bin rfl rfl rfl (Bin.add (by omega))) (WL.ev rfl rfl (Ev.as rfl rfl) (WL.nil ?_)))
    exact ⟨(k + 1, _), ⟨rfl, rfl, rfl, trivial⟩, ⟨hEwr1.trL hM3 (List.forall_mem_cons.2 ⟨hbL, hLL⟩), by simp only; omega, hplug hM3 ⟨_, _, rfl, rS (by omega), rfl, hO_2⟩ hB_2, by simp only; omega⟩, by simp only; omega⟩
  · skip
    refine CW.exit ?_
    refine CW.seq (CW.reg ?_)
    refine WL.ev rfl rfl (Ev.mv rfl rfl) (WL.ev rfl rfl (Ev.as rfl rfl) (WL.nil ?_))
    refine CW.ret ?_
    exact ⟨_, res1 rfl rfl rfl, hEwr1, vI (by simp only [cntL_full (xs := x) (i := k) (by omega)]), by rw [← mixL_all x k0 (i := k) (by omega)]; exact hO⟩

theorem markStringS_spec (w : World) (L : List Nat) (x : List ByteArray) {z : Value} (hx : ownS L w x z) (hN : L.Nodup) (k0 : Int) (hk0 : 0 ≤ k0) (hk1 : k0 + cntL x ≤ 4611686018427387904) :
    Ret Tryz.prog 74 #[z, .int .i64 k0] w (· ∈ L) fun v w' => v = .int .i64 (k0 + cntL x) ∧ ownS L w' (mkL x k0) z := by
  refine enter Tryz.func74 rfl rfl rfl ?_
  obtain ⟨A1, c1, rfl, hc1, hm1⟩ := hx.form
  have hl1 : x.length ≤ 9223372036854775807 := Nat.le_trans hc1 hm1
  refine CW.seq (CW.reg ?_)
  refine WL.ev rfl rfl (Ev.as rfl rfl) (WL.nil ?_)
  refine CW.seq (CW.seq (CW.reg ?_))
  refine WL.ev rfl rfl (Ev.as rfl rfl) (WL.nil ?_)
  refine CW.block (CW.loop (α := Nat × Int) (fun q => [(0, .slice A1 x.length c1), (1, .int .i64 q.2), (5, .int .i64 (q.1 : Int))]) (fun q wr => Chg (· ∈ L) w wr ∧ q.1 ≤ x.length ∧ ownS L wr (mixL x k0 q.1) (.slice A1 x.length c1) ∧ q.2 = k0 + cntL (x.take q.1)) (fun q => x.length - q.1) (0, k0) ⟨rfl, rfl, rfl, trivial⟩ ⟨Chg.refl _, by simp, by rw [mixL_zero]; exact hx, by simp [cntL]⟩ ?_)
  rintro ⟨k, l⟩ σ wr1 ⟨hEwr1, hk, hO, hl⟩
  simp only at hk hO hl
  subst hl
  have hcl0 := cntL_take_le x k
  refine CW.fresh [(0, .slice A1 x.length c1), (1, .int .i64 ((k0 + (cntL (x.take k) : Nat)))), (5, .int .i64 ((k : Int)))] ⟨rfl, rfl, rfl, trivial⟩ fun σ => ?_
  refine CW.seq (CW.seq (CW.reg ?_))
  refine WL.ev rfl rfl (Ev.mv rfl rfl) (WL.ev rfl rfl (Ev.mv rfl rfl) (WL.ev rfl rfl (Ev.lenS rfl el26 rfl) (WL.ev rfl rfl (Ev.bin rfl rfl rfl Bin.lss) (WL.nil ?_))))
  refine CW.condD rfl (fun h1 => ?_) (fun h1 => ?_)
  · skip
    refine CW.skip ?_
    refine CW.fresh [(0, .slice A1 x.length c1), (1, .int .i64 ((k0 + (cntL (x.take k) : Nat)))), (5, .int .i64 ((k : Int)))] ⟨rfl, rfl, rfl, trivial⟩ fun σ => ?_
    refine CW.seq (CW.block (CW.seq (CW.reg ?_)))
    refine WL.ev rfl rfl (Ev.mv rfl rfl) (WL.ev rfl rfl (Ev.mv rfl rfl) (WL.ev rfl rfl (Ev.mv rfl rfl) ?_))
    obtain ⟨y, hy⟩ : ∃ y, x[k]? = some y := ⟨_, List.getElem?_eq_getElem (by omega)⟩
    have hct := cntL_take_succ hy
    have hcl := cntL_take_le x (k + 1)
    have hcn : Mk.cnt y = 1 := rfl
    obtain ⟨b, o, e, cur, Li, ci, hA, hbL, hbN, hLN, hLL, hBf, hfit, how, hplug⟩ := hO.mark1 hN hy
    obtain ⟨rfl, rfl, hr1⟩ := how
    have hM0 := Chg.refl (M := (· ∈ b :: [])) wr1
    refine WL.call rfl rfl rfl rfl rfl ok136 rfl (markText_spec _ _ (by omega) (by omega)) ?_
    rintro _ w1 hEw1 rfl
    have hM1 := hM0.trans_ext hEw1
    refine WL.ev rfl rfl (Ev.ixA rfl el26 sz9 rfl hA rfl (by omega)) ?_
    refine WL.stE0 rfl rfl rfl sz9 rfl rfl rfl rfl (all1 rfl all0) (hBf.ext hEw1) rfl hfit rfl fun w2 hCw2 hB_1 => ?_
    have hM2 := hM1.tr1 hCw2 List.mem_cons_self
    refine WL.nil ?_
    refine CW.fresh [(0, .slice A1 x.length c1), (1, .int .i64 ((k0 + (cntL (x.take k) : Nat)))), (5, .int .i64 ((k : Int)))] ⟨rfl, rfl, rfl, trivial⟩ fun σ => ?_
    refine CW.reg ?_
    refine WL.ev rfl rfl (Ev.mv rfl rfl) (WL.ev rfl rfl (Ev.bin rfl rfl rfl (Bin.add (by omega))) (WL.ev rfl rfl (Ev.as rfl rfl) (WL.nil ?_)))
    refine CW.fresh [(0, .slice A1 x.length c1), (1, .int .i64 ((((k0 + (cntL (x.take k) : Nat))) + 1))), (5, .int .i64 ((k : Int)))] ⟨rfl, rfl, rfl, trivial⟩ fun σ => ?_
    refine CW.reg ?_
    refine WL.ev rfl rfl (Ev.mv rfl rfl) (WL.ev rfl rfl (Ev.bin rfl rfl rfl (Bin.add (by omega))) (WL.ev rfl rfl (Ev.as rfl rfl) (WL.nil ?_)))
    exact ⟨(k + 1, _), ⟨rfl, rfl, rfl, trivial⟩, ⟨hEwr1.trL hM2 (List.forall_mem_cons.2 ⟨hbL, hLL⟩), by simp only; omega, hplug hM2 ⟨rfl, rfl, rS (by omega)⟩ hB_1, by simp only; omega⟩, by simp only; omega⟩
  · skip
    refine CW.exit ?_
    refine CW.seq (CW.reg ?_)
    refine WL.ev rfl rfl (Ev.mv rfl rfl) (WL.ev rfl rfl (Ev.as rfl rfl) (WL.nil ?_))
    refine CW.ret ?_
    exact ⟨_, res1 rfl rfl rfl, hEwr1, vI (by simp only [cntL_full (xs := x) (i := k) (by omega)]), by rw [← mixL_all x k0 (i := k) (by omega)]; exact hO⟩

theorem markExprS_step (w : World) (L : List Nat) (x : List Expr) {z : Value} (hx : ownS L w x z) (hN : L.Nodup) (k0 : Int) (hk0 : 0 ≤ k0) (hk1 : k0 + cntL x ≤ 4611686018427387904) (ih : ∀ y ∈ x, ∀ (w : World) (L : List Nat) {z : Value} (hx : ownS L w y.Args z) (hN : L.Nodup) (k0 : Int) (hk0 : 0 ≤ k0) (hk1 : k0 + cntL y.Args ≤ 4611686018427387904), Ret Tryz.prog 138 #[z, .int .i64 k0] w (· ∈ L) fun v w' => v = .int .i64 (k0 + cntL y.Args) ∧ ownS L w' (mkL y.Args k0) z) :
    Ret Tryz.prog 138 #[z, .int .i64 k0] w (· ∈ L) fun v w' => v = .int .i64 (k0 + cntL x) ∧ ownS L w' (mkL x k0) z := by
  refine enter Tryz.func138 rfl rfl rfl ?_
  obtain ⟨A1, c1, rfl, hc1, hm1⟩ := hx.form
  have hl1 : x.length ≤ 9223372036854775807 := Nat.le_trans hc1 hm1
  refine CW.seq (CW.reg ?_)
  refine WL.ev rfl rfl (Ev.as rfl rfl) (WL.nil ?_)
  refine CW.seq (CW.seq (CW.reg ?_))
  refine WL.ev rfl rfl (Ev.as rfl rfl) (WL.nil ?_)
  refine CW.block (CW.loop (α := Nat × Int) (fun q => [(0, .slice A1 x.length c1), (1, .int .i64 q.2), (5, .int .i64 (q.1 : Int))]) (fun q wr => Chg (· ∈ L) w wr ∧ q.1 ≤ x.length ∧ ownS L wr (mixL x k0 q.1) (.slice A1 x.length c1) ∧ q.2 = k0 + cntL (x.take q.1)) (fun q => x.length - q.1) (0, k0) ⟨rfl, rfl, rfl, trivial⟩ ⟨Chg.refl _, by simp, by rw [mixL_zero]; exact hx, by simp [cntL]⟩ ?_)
  rintro ⟨k, l⟩ σ wr1 ⟨hEwr1, hk, hO, hl⟩
  simp only at hk hO hl
  subst hl
  have hcl0 := cntL_take_le x k
  refine CW.fresh [(0, .slice A1 x.length c1), (1, .int .i64 ((k0 + (cntL (x.take k) : Nat)))), (5, .int .i64 ((k : Int)))] ⟨rfl, rfl, rfl, trivial⟩ fun σ => ?_
  refine CW.seq (CW.seq (CW.reg ?_))
  refine WL.ev rfl rfl (Ev.mv rfl rfl) (WL.ev rfl rfl (Ev.mv rfl rfl) (WL.ev rfl rfl (Ev.lenS rfl el84 rfl) (WL.ev rfl rfl (Ev.bin rfl rfl rfl Bin.lss) (WL.nil ?_))))
  refine CW.condD rfl (fun h1 => ?_) (fun h1 => ?_)
  · skip
    refine CW.skip ?_
    refine CW.fresh [(0, .slice A1 x.length c1), (1, .int .i64 ((k0 + (cntL (x.take k) : Nat)))), (5, .int .i64 ((k : Int)))] ⟨rfl, rfl, rfl, trivial⟩ fun σ => ?_
    refine CW.seq (CW.block (CW.seq (CW.reg ?_)))
    refine WL.ev rfl rfl (Ev.mv rfl rfl) (WL.ev rfl rfl (Ev.mv rfl rfl) (WL.ev rfl rfl (Ev.mv rfl rfl) ?_))
    obtain ⟨y, hy⟩ : ∃ y, x[k]? = some y := ⟨_, List.getElem?_eq_getElem (by omega)⟩
    have hct := cntL_take_succ hy
    have hcl := cntL_take_le x (k + 1)
    have hcn := Expr_cnt y
    obtain ⟨b, o, e, cur, Li, ci, hA, hbL, hbN, hLN, hLL, hBf, hfit, how, hplug⟩ := hO.mark1 hN hy
    obtain ⟨v1, L1, rfl, hr1, hr2, hr3, hr4, hr5, hr6, rfl, hO1⟩ := Expr_own.1 how
    obtain ⟨A2, c2, rfl, hc1, hm1⟩ := hO1.form
    have hM0 := Chg.refl (M := (· ∈ b :: Li)) wr1
    refine WL.ev rfl rfl (Ev.ixA rfl el84 sz86 rfl hA rfl (by omega)) (WL.ev rfl rfl (Ev.fa rfl fo86_0 rfl) ?_)
    refine WL.stE (O := o + k * 7) (j := 0) rfl rfl rfl sz3 rfl rfl rfl rfl (all1 rfl all0) hBf rfl hfit rfl fun w1 hCw1 hB_1 => ?_
    have hB_1 : Blk _ _ _ (splice _ _ [_, _, _, _, _, _, _]) := hB_1
    have hM1 := hM0.tr1 hCw1 List.mem_cons_self
    have hO_1 := ownS.chg1 hO1 hCw1 (fun q hq e => hbN (by subst e; simp [hq]))
    refine WL.nil ?_
    refine CW.fresh [(0, .slice A1 x.length c1), (1, .int .i64 ((k0 + (cntL (x.take k) : Nat)))), (5, .int .i64 ((k : Int)))] ⟨rfl, rfl, rfl, trivial⟩ fun σ => ?_
    refine CW.seq (CW.reg ?_)
    refine WL.ev rfl rfl (Ev.mv rfl rfl) (WL.ev rfl rfl (Ev.bin rfl rfl rfl (Bin.add (by omega))) (WL.ev rfl rfl (Ev.as rfl rfl) (WL.nil ?_)))
    refine CW.fresh [(0, .slice A1 x.length c1), (1, .int .i64 ((((k0 + (cntL (x.take k) : Nat))) + 1))), (5, .int .i64 ((k : Int)))] ⟨rfl, rfl, rfl, trivial⟩ fun σ => ?_
    refine CW.seq (CW.reg ?_)
    refine WL.ev rfl rfl (Ev.mv rfl rfl) (WL.ev rfl rfl (Ev.mv rfl rfl) (WL.ev rfl rfl (Ev.mv rfl rfl) (WL.ev rfl rfl (Ev.ixA rfl el84 sz86 rfl hA rfl (by omega)) (WL.ev rfl rfl (Ev.fa rfl fo86_1 rfl) ?_))))
    refine WL.stE (O := o + k * 7) (j := 1) rfl rfl rfl sz3 rfl rfl rfl rfl (all1 rfl all0) hB_1 rfl hfit rfl fun w2 hCw2 hB_2 => ?_
    have hB_2 : Blk _ _ _ (splice _ _ [_, _, _, _, _, _, _]) := hB_2
    have hM2 := hM1.tr1 hCw2 List.mem_cons_self
    have hO_2 := ownS.chg1 hO_1 hCw2 (fun q hq e => hbN (by subst e; simp [hq]))
    refine WL.nil ?_
    refine CW.fresh [(0, .slice A1 x.length c1), (1, .int .i64 ((((k0 + (cntL (x.take k) : Nat))) + 1))), (5, .int .i64 ((k : Int)))] ⟨rfl, rfl, rfl, trivial⟩ fun σ => ?_
    refine CW.seq (CW.reg ?_)
    refine WL.ev rfl rfl (Ev.mv rfl rfl) (WL.ev rfl rfl (Ev.bin rfl rfl rfl (Bin.add (by omega))) (WL.ev rfl rfl (Ev.as rfl rfl) (WL.nil ?_)))
    refine CW.fresh [(0, .slice A1 x.length c1), (1, .int .i64 ((((((k0 + (cntL (x.take k) : Nat))) + 1)) + 1))), (5, .int .i64 ((k : Int)))] ⟨rfl, rfl, rfl, trivial⟩ fun σ => ?_
    refine CW.seq (CW.reg ?_)
    refine WL.ev rfl rfl (Ev.mv rfl rfl) (WL.ev rfl rfl (Ev.mv rfl rfl) (WL.ev rfl rfl (Ev.mv rfl rfl) (WL.ev rfl rfl (Ev.ixA rfl el84 sz86 rfl hA rfl (by omega)) (WL.ev rfl rfl (Ev.fa rfl fo86_2 rfl) ?_))))
    refine WL.stE (O := o + k * 7) (j := 2) rfl rfl rfl sz3 rfl rfl rfl rfl (all1 rfl all0) hB_2 rfl hfit rfl fun w3 hCw3 hB_3 => ?_
    have hB_3 : Blk _ _ _ (splice _ _ [_, _, _, _, _, _, _]) := hB_3
    have hM3 := hM2.tr1 hCw3 List.mem_cons_self
    have hO_3 := ownS.chg1 hO_2 hCw3 (fun q hq e => hbN (by subst e; simp [hq]))
    refine WL.nil ?_
    refine CW.fresh [(0, .slice A1 x.length c1), (1, .int .i64 ((((((k0 + (cntL (x.take k) : Nat))) + 1)) + 1))), (5, .int .i64 ((k : Int)))] ⟨rfl, rfl, rfl, trivial⟩ fun σ => ?_
    refine CW.seq (CW.reg ?_)
    refine WL.ev rfl rfl (Ev.mv rfl rfl) (WL.ev rfl rfl (Ev.bin rfl rfl rfl (Bin.add (by omega))) (WL.ev rfl rfl (Ev.as rfl rfl) (WL.nil ?_)))
    refine CW.fresh [(0, .slice A1 x.length c1), (1, .int .i64 ((((((((k0 + (cntL (x.take k) : Nat))) + 1)) + 1)) + 1))), (5, .int .i64 ((k : Int)))] ⟨rfl, rfl, rfl, trivial⟩ fun σ => ?_
    refine CW.seq (CW.reg ?_)
    refine WL.ev rfl rfl (Ev.mv rfl rfl) (WL.ev rfl rfl (Ev.mv rfl rfl) (WL.ev rfl rfl (Ev.mv rfl rfl) (WL.ev rfl rfl (Ev.ixA rfl el84 sz86 rfl hA rfl (by omega)) (WL.ev rfl rfl (Ev.fa rfl fo86_3 rfl) ?_))))
    refine WL.stE (O := o + k * 7) (j := 3) rfl rfl rfl sz3 rfl rfl rfl rfl (all1 rfl all0) hB_3 rfl hfit rfl fun w4 hCw4 hB_4 => ?_
    have hB_4 : Blk _ _ _ (splice _ _ [_, _, _, _, _, _, _]) := hB_4
    have hM4 := hM3.tr1 hCw4 List.mem_cons_self
    have hO_4 := ownS.chg1 hO_3 hCw4 (fun q hq e => hbN (by subst e; simp [hq]))
    refine WL.nil ?_
    refine CW.fresh [(0, .slice A1 x.length c1), (1, .int .i64 ((((((((k0 + (cntL (x.take k) : Nat))) + 1)) + 1)) + 1))), (5, .int .i64 ((k : Int)))] ⟨rfl, rfl, rfl, trivial⟩ fun σ => ?_
    refine CW.seq (CW.reg ?_)
    refine WL.ev rfl rfl (Ev.mv rfl rfl) (WL.ev rfl rfl (Ev.bin rfl rfl rfl (Bin.add (by omega))) (WL.ev rfl rfl (Ev.as rfl rfl) (WL.nil ?_)))
    refine CW.fresh [(0, .slice A1 x.length c1), (1, .int .i64 ((((((((((k0 + (cntL (x.take k) : Nat))) + 1)) + 1)) + 1)) + 1))), (5, .int .i64 ((k : Int)))] ⟨rfl, rfl, rfl, trivial⟩ fun σ => ?_
    refine CW.seq (CW.reg ?_)
    refine WL.ev rfl rfl (Ev.mv rfl rfl) (WL.ev rfl rfl (Ev.mv rfl rfl) (WL.ev rfl rfl (Ev.mv rfl rfl) ?_))
    refine WL.call rfl rfl rfl rfl rfl ok136 rfl (markText_spec _ _ (by omega) (by omega)) ?_
    rintro _ w5 hEw5 rfl
    have hM5 := hM4.trans_ext hEw5
    refine WL.ev rfl rfl (Ev.ixA rfl el84 sz86 rfl hA rfl (by omega)) (WL.ev rfl rfl (Ev.fa rfl fo86_4 rfl) ?_)
    refine WL.stE (O := o + k * 7) (j := 4) rfl rfl rfl sz9 rfl rfl rfl rfl (all1 rfl all0) (hB_4.ext hEw5) rfl hfit rfl fun w6 hCw6 hB_5 => ?_
    have hB_5 : Blk _ _ _ (splice _ _ [_, _, _, _, _, _, _]) := hB_5
    have hM6 := hM5.tr1 hCw6 List.mem_cons_self
    have hO_5 := ownS.chg1 (hO_4.ext hEw5) hCw6 (fun q hq e => hbN (by subst e; simp [hq]))
    refine WL.nil ?_
    refine CW.fresh [(0, .slice A1 x.length c1), (1, .int .i64 ((((((((((k0 + (cntL (x.take k) : Nat))) + 1)) + 1)) + 1)) + 1))), (5, .int .i64 ((k : Int)))] ⟨rfl, rfl, rfl, trivial⟩ fun σ => ?_
    refine CW.seq (CW.reg ?_)
    refine WL.ev rfl rfl (Ev.mv rfl rfl) (WL.ev rfl rfl (Ev.bin rfl rfl rfl (Bin.add (by omega))) (WL.ev rfl rfl (Ev.as rfl rfl) (WL.nil ?_)))
    refine CW.fresh [(0, .slice A1 x.length c1), (1, .int .i64 ((((((((((((k0 + (cntL (x.take k) : Nat))) + 1)) + 1)) + 1)) + 1)) + 1))), (5, .int .i64 ((k : Int)))] ⟨rfl, rfl, rfl, trivial⟩ fun σ => ?_
    refine CW.seq (CW.reg ?_)
    refine WL.ev rfl rfl (Ev.mv rfl rfl) (WL.ev rfl rfl (Ev.mv rfl rfl) (WL.ev rfl rfl (Ev.mv rfl rfl) ?_))
    refine WL.call rfl rfl rfl rfl rfl ok136 rfl (markText_spec _ _ (by omega) (by omega)) ?_
    rintro _ w7 hEw7 rfl
    have hM7 := hM6.trans_ext hEw7
    refine WL.ev rfl rfl (Ev.ixA rfl el84 sz86 rfl hA rfl (by omega)) (WL.ev rfl rfl (Ev.fa rfl fo86_5 rfl) ?_)
    refine WL.stE (O := o + k * 7) (j := 5) rfl rfl rfl sz9 rfl rfl rfl rfl (all1 rfl all0) (hB_5.ext hEw7) rfl hfit rfl fun w8 hCw8 hB_6 => ?_
    have hB_6 : Blk _ _ _ (splice _ _ [_, _, _, _, _, _, _]) := hB_6
    have hM8 := hM7.tr1 hCw8 List.mem_cons_self
    have hO_6 := ownS.chg1 (hO_5.ext hEw7) hCw8 (fun q hq e => hbN (by subst e; simp [hq]))
    refine WL.nil ?_
    refine CW.fresh [(0, .slice A1 x.length c1), (1, .int .i64 ((((((((((((k0 + (cntL (x.take k) : Nat))) + 1)) + 1)) + 1)) + 1)) + 1))), (5, .int .i64 ((k : Int)))] ⟨rfl, rfl, rfl, trivial⟩ fun σ => ?_
    refine CW.seq (CW.reg ?_)
    refine WL.ev rfl rfl (Ev.mv rfl rfl) (WL.ev rfl rfl (Ev.bin rfl rfl rfl (Bin.add (by omega))) (WL.ev rfl rfl (Ev.as rfl rfl) (WL.nil ?_)))
    refine CW.fresh [(0, .slice A1 x.length c1), (1, .int .i64 ((((((((((((((k0 + (cntL (x.take k) : Nat))) + 1)) + 1)) + 1)) + 1)) + 1)) + 1))), (5, .int .i64 ((k : Int)))] ⟨rfl, rfl, rfl, trivial⟩ fun σ => ?_
    refine CW.reg ?_
    refine WL.ev rfl rfl (Ev.mv rfl rfl) (WL.ev rfl rfl (Ev.mv rfl rfl) (WL.ev rfl rfl (Ev.ixA rfl el84 sz86 rfl hA rfl (by omega)) (WL.ev rfl rfl (Ev.fa rfl fo86_6 rfl) (WL.ev rfl rfl (Ev.ld rfl ag84 rfl ((hB_6.foc (s := 7) rfl hfit).cell (j := 6) rfl)) (WL.ev rfl rfl (Ev.mv rfl rfl) ?_)))))
    refine WL.call rfl rfl rfl rfl rfl ok138 rfl (ih y (List.mem_of_getElem? hy) _ _ hO_6 hLN _ (by omega) (by omega)) ?_
    rintro _ w9 hEw9 ⟨rfl, hO_7⟩
    have hM9 := hM8.trL hEw9 (fun q hq => by simp [hq])
    have hB_7 := Blk.chgL hB_6 hEw9 (fun hq => hbN (by simp [hq]))
    refine WL.ev rfl rfl (Ev.as rfl rfl) (WL.nil ?_)
    refine CW.fresh [(0, .slice A1 x.length c1), (1, .int .i64 (((((((((((((((k0 + (cntL (x.take k) : Nat))) + 1)) + 1)) + 1)) + 1)) + 1)) + 1) + (cntL y.Args : Nat)))), (5, .int .i64 ((k : Int)))] ⟨rfl, rfl, rfl, trivial⟩ fun σ => ?_
    refine CW.reg ?_
    refine WL.ev rfl rfl (Ev.mv rfl rfl) (WL.ev rfl rfl (Ev.bin rfl rfl rfl (Bin.add (by omega))) (WL.ev rfl rfl (Ev.as rfl rfl) (WL.nil ?_)))
    exact ⟨(k + 1, _), ⟨rfl, rfl, rfl, trivial⟩, ⟨hEwr1.trL hM9 (List.forall_mem_cons.2 ⟨hbL, hLL⟩), by simp only; omega, hplug hM9 (by rw [Expr_mrk]; exact Expr_own.2 ⟨_, _, rfl, rI (by omega) (by omega), rI (by omega) (by omega), rI (by omega) (by omega), rI (by omega) (by omega), rS (by omega), rS (by omega), rfl, hO_7⟩) hB_7, by simp only; omega⟩, by simp only; omega⟩
  · skip
    refine CW.exit ?_
    refine CW.seq (CW.reg ?_)
    refine WL.ev rfl rfl (Ev.mv rfl rfl) (WL.ev rfl rfl (Ev.as rfl rfl) (WL.nil ?_))
    refine CW.ret ?_
    exact ⟨_, res1 rfl rfl rfl, hEwr1, vI (by simp only [cntL_full (xs := x) (i := k) (by omega)]), by rw [← mixL_all x k0 (i := k) (by omega)]; exact hO⟩

theorem markExprS_spec (w : World) (L : List Nat) (x : List Expr) {z : Value} (hx : ownS L w x z) (hN : L.Nodup) (k0 : Int) (hk0 : 0 ≤ k0) (hk1 : k0 + cntL x ≤ 4611686018427387904) :
    Ret Tryz.prog 138 #[z, .int .i64 k0] w (· ∈ L) fun v w' => v = .int .i64 (k0 + cntL x) ∧ ownS L w' (mkL x k0) z := by
  have key : ∀ y : Expr, ∀ (w : World) (L : List Nat) {z : Value} (hx : ownS L w y.Args z) (hN : L.Nodup) (k0 : Int) (hk0 : 0 ≤ k0) (hk1 : k0 + cntL y.Args ≤ 4611686018427387904), Ret Tryz.prog 138 #[z, .int .i64 k0] w (· ∈ L) fun v w' => v = .int .i64 (k0 + cntL y.Args) ∧ ownS L w' (mkL y.Args k0) z := fun y => Expr_ind (P := fun y => ∀ (w : World) (L : List Nat) {z : Value} (hx : ownS L w y.Args z) (hN : L.Nodup) (k0 : Int) (hk0 : 0 ≤ k0) (hk1 : k0 + cntL y.Args ≤ 4611686018427387904), Ret Tryz.prog 138 #[z, .int .i64 k0] w (· ∈ L) fun v w' => v = .int .i64 (k0 + cntL y.Args) ∧ ownS L w' (mkL y.Args k0) z) (fun y ih w L z hx hN k0 hk0 hk1 => markExprS_step w L y.Args hx hN k0 hk0 hk1 ih) y
  exact markExprS_step w L x hx hN k0 hk0 hk1 fun y _ => key y

theorem markEquationS_spec (w : World) (L : List Nat) (x : List Equation) {z : Value} (hx : ownS L w x z) (hN : L.Nodup) (k0 : Int) (hk0 : 0 ≤ k0) (hk1 : k0 + cntL x ≤ 4611686018427387904) :
    Ret Tryz.prog 75 #[z, .int .i64 k0] w (· ∈ L) fun v w' => v = .int .i64 (k0 + cntL x) ∧ ownS L w' (mkL x k0) z := by
  refine enter Tryz.func75 rfl rfl rfl ?_
  obtain ⟨A1, c1, rfl, hc1, hm1⟩ := hx.form
  have hl1 : x.length ≤ 9223372036854775807 := Nat.le_trans hc1 hm1
  refine CW.seq (CW.reg ?_)
  refine WL.ev rfl rfl (Ev.as rfl rfl) (WL.nil ?_)
  refine CW.seq (CW.seq (CW.reg ?_))
  refine WL.ev rfl rfl (Ev.as rfl rfl) (WL.nil ?_)
  refine CW.block (CW.loop (α := Nat × Int) (fun q => [(0, .slice A1 x.length c1), (1, .int .i64 q.2), (5, .int .i64 (q.1 : Int))]) (fun q wr => Chg (· ∈ L) w wr ∧ q.1 ≤ x.length ∧ ownS L wr (mixL x k0 q.1) (.slice A1 x.length c1) ∧ q.2 = k0 + cntL (x.take q.1)) (fun q => x.length - q.1) (0, k0) ⟨rfl, rfl, rfl, trivial⟩ ⟨Chg.refl _, by simp, by rw [mixL_zero]; exact hx, by simp [cntL]⟩ ?_)
  rintro ⟨k, l⟩ σ wr1 ⟨hEwr1, hk, hO, hl⟩
  simp only at hk hO hl
  subst hl
  have hcl0 := cntL_take_le x k
  refine CW.fresh [(0, .slice A1 x.length c1), (1, .int .i64 ((k0 + (cntL (x.take k) : Nat)))), (5, .int .i64 ((k : Int)))] ⟨rfl, rfl, rfl, trivial⟩ fun σ => ?_
  refine CW.seq (CW.seq (CW.reg ?_))
  refine WL.ev rfl rfl (Ev.mv rfl rfl) (WL.ev rfl rfl (Ev.mv rfl rfl) (WL.ev rfl rfl (Ev.lenS rfl el42 rfl) (WL.ev rfl rfl (Ev.bin rfl rfl rfl Bin.lss) (WL.nil ?_))))
  refine CW.condD rfl (fun h1 => ?_) (fun h1 => ?_)
  · skip
    refine CW.skip ?_
    refine CW.fresh [(0, .slice A1 x.length c1), (1, .int .i64 ((k0 + (cntL (x.take k) : Nat)))), (5, .int .i64 ((k : Int)))] ⟨rfl, rfl, rfl, trivial⟩ fun σ => ?_
    refine CW.seq (CW.block (CW.seq (CW.reg ?_)))
    refine WL.ev rfl rfl (Ev.mv rfl rfl) (WL.ev rfl rfl (Ev.mv rfl rfl) (WL.ev rfl rfl (Ev.mv rfl rfl) ?_))
    obtain ⟨y, hy⟩ : ∃ y, x[k]? = some y := ⟨_, List.getElem?_eq_getElem (by omega)⟩
    have hct := cntL_take_succ hy
    have hcl := cntL_take_le x (k + 1)
    have hcn : Mk.cnt y = 1 + 1 + 1 + 1 + 1 + 1 + 1 + 1 + cntL y.Expr.Args := rfl
    obtain ⟨b, o, e, cur, Li, ci, hA, hbL, hbN, hLN, hLL, hBf, hfit, how, hplug⟩ := hO.mark1 hN hy
    obtain ⟨v1, L1, rfl, hr1, hr2, hr3, hr4, hr5, hr6, hr7, hr8, rfl, hO1⟩ := how
    obtain ⟨A2, c2, rfl, hc1, hm1⟩ := hO1.form
    have hM0 := Chg.refl (M := (· ∈ b :: Li)) wr1
    refine WL.ev rfl rfl (Ev.ixA rfl el42 sz165 rfl hA rfl (by omega)) (WL.ev rfl rfl (Ev.fa rfl fo165_0 rfl) (WL.ev rfl rfl (Ev.fa rfl fo90_0 rfl) ?_))
    refine WL.stE (O := o + k * 9) (j := 0) rfl rfl rfl sz3 rfl rfl rfl rfl (all1 rfl all0) hBf rfl hfit rfl fun w1 hCw1 hB_1 => ?_
    have hB_1 : Blk _ _ _ (splice _ _ [_, _, _, _, _, _, _, _, _]) := hB_1
    have hM1 := hM0.tr1 hCw1 List.mem_cons_self
    have hO_1 := ownS.chg1 hO1 hCw1 (fun q hq e => hbN (by subst e; simp [hq]))
    refine WL.nil ?_
    refine CW.fresh [(0, .slice A1 x.length c1), (1, .int .i64 ((k0 + (cntL (x.take k) : Nat)))), (5, .int .i64 ((k : Int)))] ⟨rfl, rfl, rfl, trivial⟩ fun σ => ?_
    refine CW.seq (CW.reg ?_)
    refine WL.ev rfl rfl (Ev.mv rfl rfl) (WL.ev rfl rfl (Ev.bin rfl rfl rfl (Bin.add (by omega))) (WL.ev rfl rfl (Ev.as rfl rfl) (WL.nil ?_)))
    refine CW.fresh [(0, .slice A1 x.length c1), (1, .int .i64 ((((k0 + (cntL (x.take k) : Nat))) + 1))), (5, .int .i64 ((k : Int)))] ⟨rfl, rfl, rfl, trivial⟩ fun σ => ?_
    refine CW.seq (CW.reg ?_)
    refine WL.ev rfl rfl (Ev.mv rfl rfl) (WL.ev rfl rfl (Ev.mv rfl rfl) (WL.ev rfl rfl (Ev.mv rfl rfl) ?_))
    refine WL.call rfl rfl rfl rfl rfl ok136 rfl (markText_spec _ _ (by omega) (by omega)) ?_
    rintro _ w2 hEw2 rfl
    have hM2 := hM1.trans_ext hEw2
    refine WL.ev rfl rfl (Ev.ixA rfl el42 sz165 rfl hA rfl (by omega)) (WL.ev rfl rfl (Ev.fa rfl fo165_0 rfl) (WL.ev rfl rfl (Ev.fa rfl fo90_1 rfl) ?_))
    refine WL.stE (O := o + k * 9) (j := 1) rfl rfl rfl sz9 rfl rfl rfl rfl (all1 rfl all0) (hB_1.ext hEw2) rfl hfit rfl fun w3 hCw3 hB_2 => ?_
    have hB_2 : Blk _ _ _ (splice _ _ [_, _, _, _, _, _, _, _, _]) := hB_2
    have hM3 := hM2.tr1 hCw3 List.mem_cons_self
    have hO_2 := ownS.chg1 (hO_1.ext hEw2) hCw3 (fun q hq e => hbN (by subst e; simp [hq]))
    refine WL.nil ?_
    refine CW.fresh [(0, .slice A1 x.length c1), (1, .int .i64 ((((k0 + (cntL (x.take k) : Nat))) + 1))), (5, .int .i64 ((k : Int)))] ⟨rfl, rfl, rfl, trivial⟩ fun σ => ?_
    refine CW.seq (CW.reg ?_)
    refine WL.ev rfl rfl (Ev.mv rfl rfl) (WL.ev rfl rfl (Ev.bin rfl rfl rfl (Bin.add (by omega))) (WL.ev rfl rfl (Ev.as rfl rfl) (WL.nil ?_)))
    refine CW.fresh [(0, .slice A1 x.length c1), (1, .int .i64 ((((((k0 + (cntL (x.take k) : Nat))) + 1)) + 1))), (5, .int .i64 ((k : Int)))] ⟨rfl, rfl, rfl, trivial⟩ fun σ => ?_
    refine CW.seq (CW.reg ?_)
    refine WL.ev rfl rfl (Ev.mv rfl rfl) (WL.ev rfl rfl (Ev.mv rfl rfl) (WL.ev rfl rfl (Ev.mv rfl rfl) (WL.ev rfl rfl (Ev.ixA rfl el42 sz165 rfl hA rfl (by omega)) (WL.ev rfl rfl (Ev.fa rfl fo165_1 rfl) (WL.ev rfl rfl (Ev.fa rfl fo86_0 rfl) ?_)))))
    refine WL.stE (O := o + k * 9) (j := 2) rfl rfl rfl sz3 rfl rfl rfl rfl (all1 rfl all0) hB_2 rfl hfit rfl fun w4 hCw4 hB_3 => ?_
    have hB_3 : Blk _ _ _ (splice _ _ [_, _, _, _, _, _, _, _, _]) := hB_3
    have hM4 := hM3.tr1 hCw4 List.mem_cons_self
    have hO_3 := ownS.chg1 hO_2 hCw4 (fun q hq e => hbN (by subst e; simp [hq]))
    refine WL.nil ?_
    refine CW.fresh [(0, .slice A1 x.length c1), (1, .int .i64 ((((((k0 + (cntL (x.take k) : Nat))) + 1)) + 1))), (5, .int .i64 ((k : Int)))] ⟨rfl, rfl, rfl, trivial⟩ fun σ => ?_
    refine CW.seq (CW.reg ?_)
    refine WL.ev rfl rfl (Ev.mv rfl rfl) (WL.ev rfl rfl (Ev.bin rfl rfl rfl (Bin.add (by omega))) (WL.ev rfl rfl (Ev.as rfl rfl) (WL.nil ?_)))
    refine CW.fresh [(0, .slice A1 x.length c1), (1, .int .i64 ((((((((k0 + (cntL (x.take k) : Nat))) + 1)) + 1)) + 1))), (5, .int .i64 ((k : Int)))] ⟨rfl, rfl, rfl, trivial⟩ fun σ => ?_
    refine CW.seq (CW.reg ?_)
    refine WL.ev rfl rfl (Ev.mv rfl rfl) (WL.ev rfl rfl (Ev.mv rfl rfl) (WL.ev rfl rfl (Ev.mv rfl rfl) (WL.ev rfl rfl (Ev.ixA rfl el42 sz165 rfl hA rfl (by omega)) (WL.ev rfl rfl (Ev.fa rfl fo165_1 rfl) (WL.ev rfl rfl (Ev.fa rfl fo86_1 rfl) ?_)))))
    refine WL.stE (O := o + k * 9) (j := 3) rfl rfl rfl sz3 rfl rfl rfl rfl (all1 rfl all0) hB_3 rfl hfit rfl fun w5 hCw5 hB_4 => ?_
    have hB_4 : Blk _ _ _ (splice _ _ [_, _, _, _, _, _, _, _, _]) := hB_4
    have hM5 := hM4.tr1 hCw5 List.mem_cons_self
    have hO_4 := ownS.chg1 hO_3 hCw5 (fun q hq e => hbN (by subst e; simp [hq]))
    refine WL.nil ?_
    refine CW.fresh [(0, .slice A1 x.length c1), (1, .int .i64 ((((((((k0 + (cntL (x.take k) : Nat))) + 1)) + 1)) + 1))), (5, .int .i64 ((k : Int)))] ⟨rfl, rfl, rfl, trivial⟩ fun σ => ?_
    refine CW.seq (CW.reg ?_)
    refine WL.ev rfl rfl (Ev.mv rfl rfl) (WL.ev rfl rfl (Ev.bin rfl rfl rfl (Bin.add (by omega))) (WL.ev rfl rfl (Ev.as rfl rfl) (WL.nil ?_)))
    refine CW.fresh [(0, .slice A1 x.length c1), (1, .int .i64 ((((((((((k0 + (cntL (x.take k) : Nat))) + 1)) + 1)) + 1)) + 1))), (5, .int .i64 ((k : Int)))] ⟨rfl, rfl, rfl, trivial⟩ fun σ => ?_
    refine CW.seq (CW.reg ?_)
    refine WL.ev rfl rfl (Ev.mv rfl rfl) (WL.ev rfl rfl (Ev.mv rfl rfl) (WL.ev rfl rfl (Ev.mv rfl rfl) (WL.ev rfl rfl (Ev.ixA rfl el42 sz165 rfl hA rfl (by omega)) (WL.ev rfl rfl (Ev.fa rfl fo165_1 rfl) (WL.ev rfl rfl (Ev.fa rfl fo86_2 rfl) ?_)))))
    refine WL.stE (O := o + k * 9) (j := 4) rfl rfl rfl sz3 rfl rfl rfl rfl (all1 rfl all0) hB_4 rfl hfit rfl fun w6 hCw6 hB_5 => ?_
    have hB_5 : Blk _ _ _ (splice _ _ [_, _, _, _, _, _, _, _, _]) := hB_5
    have hM6 := hM5.tr1 hCw6 List.mem_cons_self
    have hO_5 := ownS.chg1 hO_4 hCw6 (fun q hq e => hbN (by subst e; simp [hq]))
    refine WL.nil ?_
    refine CW.fresh [(0, .slice A1 x.length c1), (1, .int .i64 ((((((((((k0 + (cntL (x.take k) : Nat))) + 1)) + 1)) + 1)) + 1))), (5, .int .i64 ((k : Int)))] ⟨rfl, rfl, rfl, trivial⟩ fun σ => ?_
    refine CW.seq (CW.reg ?_)
    refine WL.ev rfl rfl (Ev.mv rfl rfl) (WL.ev rfl rfl (Ev.bin rfl rfl rfl (Bin.add (by omega))) (WL.ev rfl rfl (Ev.as rfl rfl) (WL.nil ?_)))
    refine CW.fresh [(0, .slice A1 x.length c1), (1, .int .i64 ((((((((((((k0 + (cntL (x.take k) : Nat))) + 1)) + 1)) + 1)) + 1)) + 1))), (5, .int .i64 ((k : Int)))] ⟨rfl, rfl, rfl, trivial⟩ fun σ => ?_
    refine CW.seq (CW.reg ?_)
    refine WL.ev rfl rfl (Ev.mv rfl rfl) (WL.ev rfl rfl (Ev.mv rfl rfl) (WL.ev rfl rfl (Ev.mv rfl rfl) (WL.ev rfl rfl (Ev.ixA rfl el42 sz165 rfl hA rfl (by omega)) (WL.ev rfl rfl (Ev.fa rfl fo165_1 rfl) (WL.ev rfl rfl (Ev.fa rfl fo86_3 rfl) ?_)))))
    refine WL.stE (O := o + k * 9) (j := 5) rfl rfl rfl sz3 rfl rfl rfl rfl (all1 rfl all0) hB_5 rfl hfit rfl fun w7 hCw7 hB_6 => ?_
    have hB_6 : Blk _ _ _ (splice _ _ [_, _, _, _, _, _, _, _, _]) := hB_6
    have hM7 := hM6.tr1 hCw7 List.mem_cons_self
    have hO_6 := ownS.chg1 hO_5 hCw7 (fun q hq e => hbN (by subst e; simp [hq]))
    refine WL.nil ?_
    refine CW.fresh [(0, .slice A1 x.length c1), (1, .int .i64 ((((((((((((k0 + (cntL (x.take k) : Nat))) + 1)) + 1)) + 1)) + 1)) + 1))), (5, .int .i64 ((k : Int)))] ⟨rfl, rfl, rfl, trivial⟩ fun σ => ?_
    refine CW.seq (CW.reg ?_)
    refine WL.ev rfl rfl (Ev.mv rfl rfl) (WL.ev rfl rfl (Ev.bin rfl rfl rfl (Bin.add (by omega))) (WL.ev rfl rfl (Ev.as rfl rfl) (WL.nil ?_)))
    refine CW.fresh [(0, .slice A1 x.length c1), (1, .int .i64 ((((((((((((((k0 + (cntL (x.take k) : Nat))) + 1)) + 1)) + 1)) + 1)) + 1)) + 1))), (5, .int .i64 ((k : Int)))] ⟨rfl, rfl, rfl, trivial⟩ fun σ => ?_
    refine CW.seq (CW.reg ?_)
    refine WL.ev rfl rfl (Ev.mv rfl rfl) (WL.ev rfl rfl (Ev.mv rfl rfl) (WL.ev rfl rfl (Ev.mv rfl rfl) ?_))
    refine WL.call rfl rfl rfl rfl rfl ok136 rfl (markText_spec _ _ (by omega) (by omega)) ?_
    rintro _ w8 hEw8 rfl
    have hM8 := hM7.trans_ext hEw8
    refine WL.ev rfl rfl (Ev.ixA rfl el42 sz165 rfl hA rfl (by omega)) (WL.ev rfl rfl (Ev.fa rfl fo165_1 rfl) (WL.ev rfl rfl (Ev.fa rfl fo86_4 rfl) ?_))
    refine WL.stE (O := o + k * 9) (j := 6) rfl rfl rfl sz9 rfl rfl rfl rfl (all1 rfl all0) (hB_6.ext hEw8) rfl hfit rfl fun w9 hCw9 hB_7 => ?_
    have hB_7 : Blk _ _ _ (splice _ _ [_, _, _, _, _, _, _, _, _]) := hB_7
    have hM9 := hM8.tr1 hCw9 List.mem_cons_self
    have hO_7 := ownS.chg1 (hO_6.ext hEw8) hCw9 (fun q hq e => hbN (by subst e; simp [hq]))
    refine WL.nil ?_
    refine CW.fresh [(0, .slice A1 x.length c1), (1, .int .i64 ((((((((((((((k0 + (cntL (x.take k) : Nat))) + 1)) + 1)) + 1)) + 1)) + 1)) + 1))), (5, .int .i64 ((k : Int)))] ⟨rfl, rfl, rfl, trivial⟩ fun σ => ?_
    refine CW.seq (CW.reg ?_)
    refine WL.ev rfl rfl (Ev.mv rfl rfl) (WL.ev rfl rfl (Ev.bin rfl rfl rfl (Bin.add (by omega))) (WL.ev rfl rfl (Ev.as rfl rfl) (WL.nil ?_)))
    refine CW.fresh [(0, .slice A1 x.length c1), (1, .int .i64 ((((((((((((((((k0 + (cntL (x.take k) : Nat))) + 1)) + 1)) + 1)) + 1)) + 1)) + 1)) + 1))), (5, .int .i64 ((k : Int)))] ⟨rfl, rfl, rfl, trivial⟩ fun σ => ?_
    refine CW.seq (CW.reg ?_)
    refine WL.ev rfl rfl (Ev.mv rfl rfl) (WL.ev rfl rfl (Ev.mv rfl rfl) (WL.ev rfl rfl (Ev.mv rfl rfl) ?_))
    refine WL.call rfl rfl rfl rfl rfl ok136 rfl (markText_spec _ _ (by omega) (by omega)) ?_
    rintro _ w10 hEw10 rfl
    have hM10 := hM9.trans_ext hEw10
    refine WL.ev rfl rfl (Ev.ixA rfl el42 sz165 rfl hA rfl (by omega)) (WL.ev rfl rfl (Ev.fa rfl fo165_1 rfl) (WL.ev rfl rfl (Ev.fa rfl fo86_5 rfl) ?_))
    refine WL.stE (O := o + k * 9) (j := 7) rfl rfl rfl sz9 rfl rfl rfl rfl (all1 rfl all0) (hB_7.ext hEw10) rfl hfit rfl fun w11 hCw11 hB_8 => ?_
    have hB_8 : Blk _ _ _ (splice _ _ [_, _, _, _, _, _, _, _, _]) := hB_8
    have hM11 := hM10.tr1 hCw11 List.mem_cons_self
    have hO_8 := ownS.chg1 (hO_7.ext hEw10) hCw11 (fun q hq e => hbN (by subst e; simp [hq]))
    refine WL.nil ?_
    refine CW.fresh [(0, .slice A1 x.length c1), (1, .int .i64 ((((((((((((((((k0 + (cntL (x.take k) : Nat))) + 1)) + 1)) + 1)) + 1)) + 1)) + 1)) + 1))), (5, .int .i64 ((k : Int)))] ⟨rfl, rfl, rfl, trivial⟩ fun σ => ?_
    refine CW.seq (CW.reg ?_)
    refine WL.ev rfl rfl (Ev.mv rfl rfl) (WL.ev rfl rfl (Ev.bin rfl rfl rfl (Bin.add (by omega))) (WL.ev rfl rfl (Ev.as rfl rfl) (WL.nil ?_)))
    refine CW.fresh [(0, .slice A1 x.length c1), (1, .int .i64 ((((((((((((((((((k0 + (cntL (x.take k) : Nat))) + 1)) + 1)) + 1)) + 1)) + 1)) + 1)) + 1)) + 1))), (5, .int .i64 ((k : Int)))] ⟨rfl, rfl, rfl, trivial⟩ fun σ => ?_
    refine CW.reg ?_
    refine WL.ev rfl rfl (Ev.mv rfl rfl) (WL.ev rfl rfl (Ev.mv rfl rfl) (WL.ev rfl rfl (Ev.ixA rfl el42 sz165 rfl hA rfl (by omega)) (WL.ev rfl rfl (Ev.fa rfl fo165_1 rfl) (WL.ev rfl rfl (Ev.fa rfl fo86_6 rfl) (WL.ev rfl rfl (Ev.ld rfl ag84 rfl ((hB_8.foc (s := 9) rfl hfit).cell (j := 8) rfl)) (WL.ev rfl rfl (Ev.mv rfl rfl) ?_))))))
    refine WL.call rfl rfl rfl rfl rfl ok138 rfl (markExprS_spec _ _ y.Expr.Args hO_8 hLN _ (by omega) (by omega)) ?_
    rintro _ w12 hEw12 ⟨rfl, hO_9⟩
    have hM12 := hM11.trL hEw12 (fun q hq => by simp [hq])
    have hB_9 := Blk.chgL hB_8 hEw12 (fun hq => hbN (by simp [hq]))
    refine WL.ev rfl rfl (Ev.as rfl rfl) (WL.nil ?_)
    refine CW.fresh [(0, .slice A1 x.length c1), (1, .int .i64 (((((((((((((((((((k0 + (cntL (x.take k) : Nat))) + 1)) + 1)) + 1)) + 1)) + 1)) + 1)) + 1)) + 1) + (cntL y.Expr.Args : Nat)))), (5, .int .i64 ((k : Int)))] ⟨rfl, rfl, rfl, trivial⟩ fun σ => ?_
    refine CW.reg ?_
    refine WL.ev rfl rfl (Ev.mv rfl rfl) (WL.ev rfl rfl (Ev.bin rfl rfl rfl (Bin.add (by omega))) (WL.ev rfl rfl (Ev.as rfl rfl) (WL.nil ?_)))
    exact ⟨(k + 1, _), ⟨rfl, rfl, rfl, trivial⟩, ⟨hEwr1.trL hM12 (List.forall_mem_cons.2 ⟨hbL, hLL⟩), by simp only; omega, hplug hM12 ⟨_, _, rfl, rI (by omega) (by omega), rS (by omega), rI (by omega) (by omega), rI (by omega) (by omega), rI (by omega) (by omega), rI (by omega) (by omega), rS (by omega), rS (by omega), rfl, hO_9⟩ hB_9, by simp only; omega⟩, by simp only; omega⟩
  · skip
    refine CW.exit ?_
    refine CW.seq (CW.reg ?_)
    refine WL.ev rfl rfl (Ev.mv rfl rfl) (WL.ev rfl rfl (Ev.as rfl rfl) (WL.nil ?_))
    refine CW.ret ?_
    exact ⟨_, res1 rfl rfl rfl, hEwr1, vI (by simp only [cntL_full (xs := x) (i := k) (by omega)]), by rw [← mixL_all x k0 (i := k) (by omega)]; exact hO⟩

theorem markContributionS_spec (w : World) (L : List Nat) (x : List Contribution) {z : Value} (hx : ownS L w x z) (hN : L.Nodup) (k0 : Int) (hk0 : 0 ≤ k0) (hk1 : k0 + cntL x ≤ 4611686018427387904) :
    Ret Tryz.prog 76 #[z, .int .i64 k0] w (· ∈ L) fun v w' => v = .int .i64 (k0 + cntL x) ∧ ownS L w' (mkL x k0) z := by
  refine enter Tryz.func76 rfl rfl rfl ?_
  obtain ⟨A1, c1, rfl, hc1, hm1⟩ := hx.form
  have hl1 : x.length ≤ 9223372036854775807 := Nat.le_trans hc1 hm1
  refine CW.seq (CW.reg ?_)
  refine WL.ev rfl rfl (Ev.as rfl rfl) (WL.nil ?_)
  refine CW.seq (CW.seq (CW.reg ?_))
  refine WL.ev rfl rfl (Ev.as rfl rfl) (WL.nil ?_)
  refine CW.block (CW.loop (α := Nat × Int) (fun q => [(0, .slice A1 x.length c1), (1, .int .i64 q.2), (5, .int .i64 (q.1 : Int))]) (fun q wr => Chg (· ∈ L) w wr ∧ q.1 ≤ x.length ∧ ownS L wr (mixL x k0 q.1) (.slice A1 x.length c1) ∧ q.2 = k0 + cntL (x.take q.1)) (fun q => x.length - q.1) (0, k0) ⟨rfl, rfl, rfl, trivial⟩ ⟨Chg.refl _, by simp, by rw [mixL_zero]; exact hx, by simp [cntL]⟩ ?_)
  rintro ⟨k, l⟩ σ wr1 ⟨hEwr1, hk, hO, hl⟩
  simp only at hk hO hl
  subst hl
  have hcl0 := cntL_take_le x k
  refine CW.fresh [(0, .slice A1 x.length c1), (1, .int .i64 ((k0 + (cntL (x.take k) : Nat)))), (5, .int .i64 ((k : Int)))] ⟨rfl, rfl, rfl, trivial⟩ fun σ => ?_
  refine CW.seq (CW.seq (CW.reg ?_))
  refine WL.ev rfl rfl (Ev.mv rfl rfl) (WL.ev rfl rfl (Ev.mv rfl rfl) (WL.ev rfl rfl (Ev.lenS rfl el43 rfl) (WL.ev rfl rfl (Ev.bin rfl rfl rfl Bin.lss) (WL.nil ?_))))
  refine CW.condD rfl (fun h1 => ?_) (fun h1 => ?_)
  · skip
    refine CW.skip ?_
    refine CW.fresh [(0, .slice A1 x.length c1), (1, .int .i64 ((k0 + (cntL (x.take k) : Nat)))), (5, .int .i64 ((k : Int)))] ⟨rfl, rfl, rfl, trivial⟩ fun σ => ?_
    refine CW.seq (CW.block (CW.seq (CW.reg ?_)))
    refine WL.ev rfl rfl (Ev.mv rfl rfl) (WL.ev rfl rfl (Ev.mv rfl rfl) (WL.ev rfl rfl (Ev.mv rfl rfl) ?_))
    obtain ⟨y, hy⟩ : ∃ y, x[k]? = some y := ⟨_, List.getElem?_eq_getElem (by omega)⟩
    have hct := cntL_take_succ hy
    have hcl := cntL_take_le x (k + 1)
    have hcn : Mk.cnt y = 1 + 1 + 1 + 1 + 1 + 1 + 1 + 1 + cntL y.Target.Args + 1 + 1 + 1 + 1 + 1 + 1 + cntL y.Value.Args := rfl
    obtain ⟨b, o, e, cur, Li, ci, hA, hbL, hbN, hLN, hLL, hBf, hfit, how, hplug⟩ := hO.mark1 hN hy
    obtain ⟨v1, v2, L1, L2, rfl, hr1, hr2, hr3, hr4, hr5, hr6, hr7, hr8, hr9, hr10, hr11, hr12, hr13, hr14, rfl, hO1, hO2⟩ := how
    obtain ⟨A2, c2, rfl, hc1, hm1⟩ := hO1.form
    obtain ⟨A3, c3, rfl, hc2, hm2⟩ := hO2.form
    have hM0 := Chg.refl (M := (· ∈ b :: (L1 ++ L2))) wr1
    refine WL.call rfl rfl rfl rfl rfl ok136 rfl (markText_spec _ _ (by omega) (by omega)) ?_
    rintro _ w1 hEw1 rfl
    have hM1 := hM0.trans_ext hEw1
    refine WL.ev rfl rfl (Ev.ixA rfl el43 sz186 rfl hA rfl (by omega)) (WL.ev rfl rfl (Ev.fa rfl fo186_0 rfl) ?_)
    refine WL.stE (O := o + k * 16) (j := 0) rfl rfl rfl sz9 rfl rfl rfl rfl (all1 rfl all0) (hBf.ext hEw1) rfl hfit rfl fun w2 hCw2 hB_1 => ?_
    have hB_1 : Blk _ _ _ (splice _ _ [_, _, _, _, _, _, _, _, _, _, _, _, _, _, _, _]) := hB_1
    have hM2 := hM1.tr1 hCw2 List.mem_cons_self
    have hO_1 := ownS.chg1 (hO1.ext hEw1) hCw2 (fun q hq e => hbN (by subst e; simp [hq]))
    have hO_2 := ownS.chg1 (hO2.ext hEw1) hCw2 (fun q hq e => hbN (by subst e; simp [hq]))
    refine WL.nil ?_
    refine CW.fresh [(0, .slice A1 x.length c1), (1, .int .i64 ((k0 + (cntL (x.take k) : Nat)))), (5, .int .i64 ((k : Int)))] ⟨rfl, rfl, rfl, trivial⟩ fun σ => ?_
    refine CW.seq (CW.reg ?_)
    refine WL.ev rfl rfl (Ev.mv rfl rfl) (WL.ev rfl rfl (Ev.bin rfl rfl rfl (Bin.add (by omega))) (WL.ev rfl rfl (Ev.as rfl rfl) (WL.nil ?_)))
    refine CW.fresh [(0, .slice A1 x.length c1), (1, .int .i64 ((((k0 + (cntL (x.take k) : Nat))) + 1))), (5, .int .i64 ((k : Int)))] ⟨rfl, rfl, rfl, trivial⟩ fun σ => ?_
    refine CW.seq (CW.reg ?_)
    refine WL.ev rfl rfl (Ev.mv rfl rfl) (WL.ev rfl rfl (Ev.mv rfl rfl) (WL.ev rfl rfl (Ev.mv rfl rfl) ?_))
    refine WL.call rfl rfl rfl rfl rfl ok136 rfl (markText_spec _ _ (by omega) (by omega)) ?_
    rintro _ w3 hEw3 rfl
    have hM3 := hM2.trans_ext hEw3
    refine WL.ev rfl rfl (Ev.ixA rfl el43 sz186 rfl hA rfl (by omega)) (WL.ev rfl rfl (Ev.fa rfl fo186_1 rfl) ?_)
    refine WL.stE (O := o + k * 16) (j := 1) rfl rfl rfl sz9 rfl rfl rfl rfl (all1 rfl all0) (hB_1.ext hEw3) rfl hfit rfl fun w4 hCw4 hB_2 => ?_
    have hB_2 : Blk _ _ _ (splice _ _ [_, _, _, _, _, _, _, _, _, _, _, _, _, _, _, _]) := hB_2
    have hM4 := hM3.tr1 hCw4 List.mem_cons_self
    have hO_3 := ownS.chg1 (hO_1.ext hEw3) hCw4 (fun q hq e => hbN (by subst e; simp [hq]))
    have hO_4 := ownS.chg1 (hO_2.ext hEw3) hCw4 (fun q hq e => hbN (by subst e; simp [hq]))
    refine WL.nil ?_
    refine CW.fresh [(0, .slice A1 x.length c1), (1, .int .i64 ((((k0 + (cntL (x.take k) : Nat))) + 1))), (5, .int .i64 ((k : Int)))] ⟨rfl, rfl, rfl, trivial⟩ fun σ => ?_
    refine CW.seq (CW.reg ?_)
    refine WL.ev rfl rfl (Ev.mv rfl rfl) (WL.ev rfl rfl (Ev.bin rfl rfl rfl (Bin.add (by omega))) (WL.ev rfl rfl (Ev.as rfl rfl) (WL.nil ?_)))
    refine CW.fresh [(0, .slice A1 x.length c1), (1, .int .i64 ((((((k0 + (cntL (x.take k) : Nat))) + 1)) + 1))), (5, .int .i64 ((k : Int)))] ⟨rfl, rfl, rfl, trivial⟩ fun σ => ?_
    refine CW.seq (CW.reg ?_)
    refine WL.ev rfl rfl (Ev.mv rfl rfl) (WL.ev rfl rfl (Ev.mv rfl rfl) (WL.ev rfl rfl (Ev.mv rfl rfl) (WL.ev rfl rfl (Ev.ixA rfl el43 sz186 rfl hA rfl (by omega)) (WL.ev rfl rfl (Ev.fa rfl fo186_2 rfl) (WL.ev rfl rfl (Ev.fa rfl fo86_0 rfl) ?_)))))
    refine WL.stE (O := o + k * 16) (j := 2) rfl rfl rfl sz3 rfl rfl rfl rfl (all1 rfl all0) hB_2 rfl hfit rfl fun w5 hCw5 hB_3 => ?_
    have hB_3 : Blk _ _ _ (splice _ _ [_, _, _, _, _, _, _, _, _, _, _, _, _, _, _, _]) := hB_3
    have hM5 := hM4.tr1 hCw5 List.mem_cons_self
    have hO_5 := ownS.chg1 hO_3 hCw5 (fun q hq e => hbN (by subst e; simp [hq]))
    have hO_6 := ownS.chg1 hO_4 hCw5 (fun q hq e => hbN (by subst e; simp [hq]))
    refine WL.nil ?_
    refine CW.fresh [(0, .slice A1 x.length c1), (1, .int .i64 ((((((k0 + (cntL (x.take k) : Nat))) + 1)) + 1))), (5, .int .i64 ((k : Int)))] ⟨rfl, rfl, rfl, trivial⟩ fun σ => ?_
    refine CW.seq (CW.reg ?_)
    refine WL.ev rfl rfl (Ev.mv rfl rfl) (WL.ev rfl rfl (Ev.bin rfl rfl rfl (Bin.add (by omega))) (WL.ev rfl rfl (Ev.as rfl rfl) (WL.nil ?_)))
    refine CW.fresh [(0, .slice A1 x.length c1), (1, .int .i64 ((((((((k0 + (cntL (x.take k) : Nat))) + 1)) + 1)) + 1))), (5, .int .i64 ((k : Int)))] ⟨rfl, rfl, rfl, trivial⟩ fun σ => ?_
    refine CW.seq (CW.reg ?_)
    refine WL.ev rfl rfl (Ev.mv rfl rfl) (WL.ev rfl rfl (Ev.mv rfl rfl) (WL.ev rfl rfl (Ev.mv rfl rfl) (WL.ev rfl rfl (Ev.ixA rfl el43 sz186 rfl hA rfl (by omega)) (WL.ev rfl rfl (Ev.fa rfl fo186_2 rfl) (WL.ev rfl rfl (Ev.fa rfl fo86_1 rfl) ?_)))))
    refine WL.stE (O := o + k * 16) (j := 3) rfl rfl rfl sz3 rfl rfl rfl rfl (all1 rfl all0) hB_3 rfl hfit rfl fun w6 hCw6 hB_4 => ?_
    have hB_4 : Blk _ _ _ (splice _ _ [_, _, _, _, _, _, _, _, _, _, _, _, _, _, _, _]) := hB_4
    have hM6 := hM5.tr1 hCw6 List.mem_cons_self
    have hO_7 := ownS.chg1 hO_5 hCw6 (fun q hq e => hbN (by subst e; simp [hq]))
    have hO_8 := ownS.chg1 hO_6 hCw6 (fun q hq e => hbN (by subst e; simp [hq]))
    refine WL.nil ?_
    refine CW.fresh [(0, .slice A1 x.length c1), (1, .int .i64 ((((((((k0 + (cntL (x.take k) : Nat))) + 1)) + 1)) + 1))), (5, .int .i64 ((k : Int)))] ⟨rfl, rfl, rfl, trivial⟩ fun σ => ?_
    refine CW.seq (CW.reg ?_)
    refine WL.ev rfl rfl (Ev.mv rfl rfl) (WL.ev rfl rfl (Ev.bin rfl rfl rfl (Bin.add (by omega))) (WL.ev rfl rfl (Ev.as rfl rfl) (WL.nil ?_)))
    refine CW.fresh [(0, .slice A1 x.length c1), (1, .int .i64 ((((((((((k0 + (cntL (x.take k) : Nat))) + 1)) + 1)) + 1)) + 1))), (5, .int .i64 ((k : Int)))] ⟨rfl, rfl, rfl, trivial⟩ fun σ => ?_
    refine CW.seq (CW.reg ?_)
    refine WL.ev rfl rfl (Ev.mv rfl rfl) (WL.ev rfl rfl (Ev.mv rfl rfl) (WL.ev rfl rfl (Ev.mv rfl rfl) (WL.ev rfl rfl (Ev.ixA rfl el43 sz186 rfl hA rfl (by omega)) (WL.ev rfl rfl (Ev.fa rfl fo186_2 rfl) (WL.ev rfl rfl (Ev.fa rfl fo86_2 rfl) ?_)))))
    refine WL.stE (O := o + k * 16) (j := 4) rfl rfl rfl sz3 rfl rfl rfl rfl (all1 rfl all0) hB_4 rfl hfit rfl fun w7 hCw7 hB_5 => ?_
    have hB_5 : Blk _ _ _ (splice _ _ [_, _, _, _, _, _, _, _, _, _, _, _, _, _, _, _]) := hB_5
    have hM7 := hM6.tr1 hCw7 List.mem_cons_self
    have hO_9 := ownS.chg1 hO_7 hCw7 (fun q hq e => hbN (by subst e; simp [hq]))
    have hO_10 := ownS.chg1 hO_8 hCw7 (fun q hq e => hbN (by subst e; simp [hq]))
    refine WL.nil ?_
    refine CW.fresh [(0, .slice A1 x.length c1), (1, .int .i64 ((((((((((k0 + (cntL (x.take k) : Nat))) + 1)) + 1)) + 1)) + 1))), (5, .int .i64 ((k : Int)))] ⟨rfl, rfl, rfl, trivial⟩ fun σ => ?_
    refine CW.seq (CW.reg ?_)
    refine WL.ev rfl rfl (Ev.mv rfl rfl) (WL.ev rfl rfl (Ev.bin rfl rfl rfl (Bin.add (by omega))) (WL.ev rfl rfl (Ev.as rfl rfl) (WL.nil ?_)))
    refine CW.fresh [(0, .slice A1 x.length c1), (1, .int .i64 ((((((((((((k0 + (cntL (x.take k) : Nat))) + 1)) + 1)) + 1)) + 1)) + 1))), (5, .int .i64 ((k : Int)))] ⟨rfl, rfl, rfl, trivial⟩ fun σ => ?_
    refine CW.seq (CW.reg ?_)
    refine WL.ev rfl rfl (Ev.mv rfl rfl) (WL.ev rfl rfl (Ev.mv rfl rfl) (WL.ev rfl rfl (Ev.mv rfl rfl) (WL.ev rfl rfl (Ev.ixA rfl el43 sz186 rfl hA rfl (by omega)) (WL.ev rfl rfl (Ev.fa rfl fo186_2 rfl) (WL.ev rfl rfl (Ev.fa rfl fo86_3 rfl) ?_)))))
    refine WL.stE (O := o + k * 16) (j := 5) rfl rfl rfl sz3 rfl rfl rfl rfl (all1 rfl all0) hB_5 rfl hfit rfl fun w8 hCw8 hB_6 => ?_
    have hB_6 : Blk _ _ _ (splice _ _ [_, _, _, _, _, _, _, _, _, _, _, _, _, _, _, _]) := hB_6
    have hM8 := hM7.tr1 hCw8 List.mem_cons_self
    have hO_11 := ownS.chg1 hO_9 hCw8 (fun q hq e => hbN (by subst e; simp [hq]))
    have hO_12 := ownS.chg1 hO_10 hCw8 (fun q hq e => hbN (by subst e; simp [hq]))
    refine WL.nil ?_
    refine CW.fresh [(0, .slice A1 x.length c1), (1, .int .i64 ((((((((((((k0 + (cntL (x.take k) : Nat))) + 1)) + 1)) + 1)) + 1)) + 1))), (5, .int .i64 ((k : Int)))] ⟨rfl, rfl, rfl, trivial⟩ fun σ => ?_
    refine CW.seq (CW.reg ?_)
    refine WL.ev rfl rfl (Ev.mv rfl rfl) (WL.ev rfl rfl (Ev.bin rfl rfl rfl (Bin.add (by omega))) (WL.ev rfl rfl (Ev.as rfl rfl) (WL.nil ?_)))
    refine CW.fresh [(0, .slice A1 x.length c1), (1, .int .i64 ((((((((((((((k0 + (cntL (x.take k) : Nat))) + 1)) + 1)) + 1)) + 1)) + 1)) + 1))), (5, .int .i64 ((k : Int)))] ⟨rfl, rfl, rfl, trivial⟩ fun σ => ?_
    refine CW.seq (CW.reg ?_)
    refine WL.ev rfl rfl (Ev.mv rfl rfl) (WL.ev rfl rfl (Ev.mv rfl rfl) (WL.ev rfl rfl (Ev.mv rfl rfl) ?_))
    refine WL.call rfl rfl rfl rfl rfl ok136 rfl (markText_spec _ _ (by omega) (by omega)) ?_
    rintro _ w9 hEw9 rfl
    have hM9 := hM8.trans_ext hEw9
    refine WL.ev rfl rfl (Ev.ixA rfl el43 sz186 rfl hA rfl (by omega)) (WL.ev rfl rfl (Ev.fa rfl fo186_2 rfl) (WL.ev rfl rfl (Ev.fa rfl fo86_4 rfl) ?_))
    refine WL.stE (O := o + k * 16) (j := 6) rfl rfl rfl sz9 rfl rfl rfl rfl (all1 rfl all0) (hB_6.ext hEw9) rfl hfit rfl fun w10 hCw10 hB_7 => ?_
    have hB_7 : Blk _ _ _ (splice _ _ [_, _, _, _, _, _, _, _, _, _, _, _, _, _, _, _]) := hB_7
    have hM10 := hM9.tr1 hCw10 List.mem_cons_self
    have hO_13 := ownS.chg1 (hO_11.ext hEw9) hCw10 (fun q hq e => hbN (by subst e; simp [hq]))
    have hO_14 := ownS.chg1 (hO_12.ext hEw9) hCw10 (fun q hq e => hbN (by subst e; simp [hq]))
    refine WL.nil ?_
    refine CW.fresh [(0, .slice A1 x.length c1), (1, .int .i64 ((((((((((((((k0 + (cntL (x.take k) : Nat))) + 1)) + 1)) + 1)) + 1)) + 1)) + 1))), (5, .int .i64 ((k : Int)))] ⟨rfl, rfl, rfl, trivial⟩ fun σ => ?_
    refine CW.seq (CW.reg ?_)
    refine WL.ev rfl rfl (Ev.mv rfl rfl) (WL.ev rfl rfl (Ev.bin rfl rfl rfl (Bin.add (by omega))) (WL.ev rfl rfl (Ev.as rfl rfl) (WL.nil ?_)))
    refine CW.fresh [(0, .slice A1 x.length c1), (1, .int .i64 ((((((((((((((((k0 + (cntL (x.take k) : Nat))) + 1)) + 1)) + 1)) + 1)) + 1)) + 1)) + 1))), (5, .int .i64 ((k : Int)))] ⟨rfl, rfl, rfl, trivial⟩ fun σ => ?_
    refine CW.seq (CW.reg ?_)
    refine WL.ev rfl rfl (Ev.mv rfl rfl) (WL.ev rfl rfl (Ev.mv rfl rfl) (WL.ev rfl rfl (Ev.mv rfl rfl) ?_))
    refine WL.call rfl rfl rfl rfl rfl ok136 rfl (markText_spec _ _ (by omega) (by omega)) ?_
    rintro _ w11 hEw11 rfl
    have hM11 := hM10.trans_ext hEw11
    refine WL.ev rfl rfl (Ev.ixA rfl el43 sz186 rfl hA rfl (by omega)) (WL.ev rfl rfl (Ev.fa rfl fo186_2 rfl) (WL.ev rfl rfl (Ev.fa rfl fo86_5 rfl) ?_))
    refine WL.stE (O := o + k * 16) (j := 7) rfl rfl rfl sz9 rfl rfl rfl rfl (all1 rfl all0) (hB_7.ext hEw11) rfl hfit rfl fun w12 hCw12 hB_8 => ?_
    have hB_8 : Blk _ _ _ (splice _ _ [_, _, _, _, _, _, _, _, _, _, _, _, _, _, _, _]) := hB_8
    have hM12 := hM11.tr1 hCw12 List.mem_cons_self
    have hO_15 := ownS.chg1 (hO_13.ext hEw11) hCw12 (fun q hq e => hbN (by subst e; simp [hq]))
    have hO_16 := ownS.chg1 (hO_14.ext hEw11) hCw12 (fun q hq e => hbN (by subst e; simp [hq]))
    refine WL.nil ?_
    refine CW.fresh [(0, .slice A1 x.length c1), (1, .int .i64 ((((((((((((((((k0 + (cntL (x.take k) : Nat))) + 1)) + 1)) + 1)) + 1)) + 1)) + 1)) + 1))), (5, .int .i64 ((k : Int)))] ⟨rfl, rfl, rfl, trivial⟩ fun σ => ?_
    refine CW.seq (CW.reg ?_)
    refine WL.ev rfl rfl (Ev.mv rfl rfl) (WL.ev rfl rfl (Ev.bin rfl rfl rfl (Bin.add (by omega))) (WL.ev rfl rfl (Ev.as rfl rfl) (WL.nil ?_)))
    refine CW.fresh [(0, .slice A1 x.length c1), (1, .int .i64 ((((((((((((((((((k0 + (cntL (x.take k) : Nat))) + 1)) + 1)) + 1)) + 1)) + 1)) + 1)) + 1)) + 1))), (5, .int .i64 ((k : Int)))] ⟨rfl, rfl, rfl, trivial⟩ fun σ => ?_
    refine CW.seq (CW.reg ?_)
    refine WL.ev rfl rfl (Ev.mv rfl rfl) (WL.ev rfl rfl (Ev.mv rfl rfl) (WL.ev rfl rfl (Ev.ixA rfl el43 sz186 rfl hA rfl (by omega)) (WL.ev rfl rfl (Ev.fa rfl fo186_2 rfl) (WL.ev rfl rfl (Ev.fa rfl fo86_6 rfl) (WL.ev rfl rfl (Ev.ld rfl ag84 rfl ((hB_8.foc (s := 16) rfl hfit).cell (j := 8) rfl)) (WL.ev rfl rfl (Ev.mv rfl rfl) ?_))))))
    refine WL.call rfl rfl rfl rfl rfl ok138 rfl (markExprS_spec _ _ y.Target.Args hO_15 (by have := hLN; simp only [List.nodup_append] at this; grind) _ (by omega) (by omega)) ?_
    rintro _ w13 hEw13 ⟨rfl, hO_17⟩
    have hM13 := hM12.trL hEw13 (fun q hq => by simp [hq])
    have hB_9 := Blk.chgL hB_8 hEw13 (fun hq => hbN (by simp [hq]))
    have hO_18 := ownS.chgL hO_16 hEw13 (fun z hz => by have := hLN; simp only [List.nodup_append, List.mem_append] at this; grind)
    refine WL.ev rfl rfl (Ev.as rfl rfl) (WL.nil ?_)
    refine CW.fresh [(0, .slice A1 x.length c1), (1, .int .i64 (((((((((((((((((((k0 + (cntL (x.take k) : Nat))) + 1)) + 1)) + 1)) + 1)) + 1)) + 1)) + 1)) + 1) + (cntL y.Target.Args : Nat)))), (5, .int .i64 ((k : Int)))] ⟨rfl, rfl, rfl, trivial⟩ fun σ => ?_
    refine CW.seq (CW.reg ?_)
    refine WL.ev rfl rfl (Ev.mv rfl rfl) (WL.ev rfl rfl (Ev.mv rfl rfl) (WL.ev rfl rfl (Ev.mv rfl rfl) (WL.ev rfl rfl (Ev.ixA rfl el43 sz186 rfl hA rfl (by omega)) (WL.ev rfl rfl (Ev.fa rfl fo186_3 rfl) (WL.ev rfl rfl (Ev.fa rfl fo86_0 rfl) ?_)))))
    refine WL.stE (O := o + k * 16) (j := 9) rfl rfl rfl sz3 rfl rfl rfl rfl (all1 rfl all0) hB_9 rfl hfit rfl fun w14 hCw14 hB_10 => ?_
    have hB_10 : Blk _ _ _ (splice _ _ [_, _, _, _, _, _, _, _, _, _, _, _, _, _, _, _]) := hB_10
    have hM14 := hM13.tr1 hCw14 List.mem_cons_self
    have hO_19 := ownS.chg1 hO_17 hCw14 (fun q hq e => hbN (by subst e; simp [hq]))
    have hO_20 := ownS.chg1 hO_18 hCw14 (fun q hq e => hbN (by subst e; simp [hq]))
    refine WL.nil ?_
    refine CW.fresh [(0, .slice A1 x.length c1), (1, .int .i64 (((((((((((((((((((k0 + (cntL (x.take k) : Nat))) + 1)) + 1)) + 1)) + 1)) + 1)) + 1)) + 1)) + 1) + (cntL y.Target.Args : Nat)))), (5, .int .i64 ((k : Int)))] ⟨rfl, rfl, rfl, trivial⟩ fun σ => ?_
    refine CW.seq (CW.reg ?_)
    refine WL.ev rfl rfl (Ev.mv rfl rfl) (WL.ev rfl rfl (Ev.bin rfl rfl rfl (Bin.add (by omega))) (WL.ev rfl rfl (Ev.as rfl rfl) (WL.nil ?_)))
    refine CW.fresh [(0, .slice A1 x.length c1), (1, .int .i64 (((((((((((((((((((((k0 + (cntL (x.take k) : Nat))) + 1)) + 1)) + 1)) + 1)) + 1)) + 1)) + 1)) + 1) + (cntL y.Target.Args : Nat))) + 1))), (5, .int .i64 ((k : Int)))] ⟨rfl, rfl, rfl, trivial⟩ fun σ => ?_
    refine CW.seq (CW.reg ?_)
    refine WL.ev rfl rfl (Ev.mv rfl rfl) (WL.ev rfl rfl (Ev.mv rfl rfl) (WL.ev rfl rfl (Ev.mv rfl rfl) (WL.ev rfl rfl (Ev.ixA rfl el43 sz186 rfl hA rfl (by omega)) (WL.ev rfl rfl (Ev.fa rfl fo186_3 rfl) (WL.ev rfl rfl (Ev.fa rfl fo86_1 rfl) ?_)))))
    refine WL.stE (O := o + k * 16) (j := 10) rfl rfl rfl sz3 rfl rfl rfl rfl (all1 rfl all0) hB_10 rfl hfit rfl fun w15 hCw15 hB_11 => ?_
    have hB_11 : Blk _ _ _ (splice _ _ [_, _, _, _, _, _, _, _, _, _, _, _, _, _, _, _]) := hB_11
    have hM15 := hM14.tr1 hCw15 List.mem_cons_self
    have hO_21 := ownS.chg1 hO_19 hCw15 (fun q hq e => hbN (by subst e; simp [hq]))
    have hO_22 := ownS.chg1 hO_20 hCw15 (fun q hq e => hbN (by subst e; simp [hq]))
    refine WL.nil ?_
    refine CW.fresh [(0, .slice A1 x.length c1), (1, .int .i64 (((((((((((((((((((((k0 + (cntL (x.take k) : Nat))) + 1)) + 1)) + 1)) + 1)) + 1)) + 1)) + 1)) + 1) + (cntL y.Target.Args : Nat))) + 1))), (5, .int .i64 ((k : Int)))] ⟨rfl, rfl, rfl, trivial⟩ fun σ => ?_
    refine CW.seq (CW.reg ?_)
    refine WL.ev rfl rfl (Ev.mv rfl rfl) (WL.ev rfl rfl (Ev.bin rfl rfl rfl (Bin.add (by omega))) (WL.ev rfl rfl (Ev.as rfl rfl) (WL.nil ?_)))
    refine CW.fresh [(0, .slice A1 x.length c1), (1, .int .i64 (((((((((((((((((((((((k0 + (cntL (x.take k) : Nat))) + 1)) + 1)) + 1)) + 1)) + 1)) + 1)) + 1)) + 1) + (cntL y.Target.Args : Nat))) + 1)) + 1))), (5, .int .i64 ((k : Int)))] ⟨rfl, rfl, rfl, trivial⟩ fun σ => ?_
    refine CW.seq (CW.reg ?_)
    refine WL.ev rfl rfl (Ev.mv rfl rfl) (WL.ev rfl rfl (Ev.mv rfl rfl) (WL.ev rfl rfl (Ev.mv rfl rfl) (WL.ev rfl rfl (Ev.ixA rfl el43 sz186 rfl hA rfl (by omega)) (WL.ev rfl rfl (Ev.fa rfl fo186_3 rfl) (WL.ev rfl rfl (Ev.fa rfl fo86_2 rfl) ?_)))))
    refine WL.stE (O := o + k * 16) (j := 11) rfl rfl rfl sz3 rfl rfl rfl rfl (all1 rfl all0) hB_11 rfl hfit rfl fun w16 hCw16 hB_12 => ?_
    have hB_12 : Blk _ _ _ (splice _ _ [_, _, _, _, _, _, _, _, _, _, _, _, _, _, _, _]) := hB_12
    have hM16 := hM15.tr1 hCw16 List.mem_cons_self
    have hO_23 := ownS.chg1 hO_21 hCw16 (fun q hq e => hbN (by subst e; simp [hq]))
    have hO_24 := ownS.chg1 hO_22 hCw16 (fun q hq e => hbN (by subst e; simp [hq]))
    refine WL.nil ?_
    refine CW.fresh [(0, .slice A1 x.length c1), (1, .int .i64 (((((((((((((((((((((((k0 + (cntL (x.take k) : Nat))) + 1)) + 1)) + 1)) + 1)) + 1)) + 1)) + 1)) + 1) + (cntL y.Target.Args : Nat))) + 1)) + 1))), (5, .int .i64 ((k : Int)))] ⟨rfl, rfl, rfl, trivial⟩ fun σ => ?_
    refine CW.seq (CW.reg ?_)
    refine WL.ev rfl rfl (Ev.mv rfl rfl) (WL.ev rfl rfl (Ev.bin rfl rfl rfl (Bin.add (by omega))) (WL.ev rfl rfl (Ev.as rfl rfl) (WL.nil ?_)))
    refine CW.fresh [(0, .slice A1 x.length c1), (1, .int .i64 (((((((((((((((((((((((((k0 + (cntL (x.take k) : Nat))) + 1)) + 1)) + 1)) + 1)) + 1)) + 1)) + 1)) + 1) + (cntL y.Target.Args : Nat))) + 1)) + 1)) + 1))), (5, .int .i64 ((k : Int)))] ⟨rfl, rfl, rfl, trivial⟩ fun σ => ?_
    refine CW.seq (CW.reg ?_)
    refine WL.ev rfl rfl (Ev.mv rfl rfl) (WL.ev rfl rfl (Ev.mv rfl rfl) (WL.ev rfl rfl (Ev.mv rfl rfl) (WL.ev rfl rfl (Ev.ixA rfl el43 sz186 rfl hA rfl (by omega)) (WL.ev rfl rfl (Ev.fa rfl fo186_3 rfl) (WL.ev rfl rfl (Ev.fa rfl fo86_3 rfl) ?_)))))
    refine WL.stE (O := o + k * 16) (j := 12) rfl rfl rfl sz3 rfl rfl rfl rfl (all1 rfl all0) hB_12 rfl hfit rfl fun w17 hCw17 hB_13 => ?_
    have hB_13 : Blk _ _ _ (splice _ _ [_, _, _, _, _, _, _, _, _, _, _, _, _, _, _, _]) := hB_13
    have hM17 := hM16.tr1 hCw17 List.mem_cons_self
    have hO_25 := ownS.chg1 hO_23 hCw17 (fun q hq e => hbN (by subst e; simp [hq]))
    have hO_26 := ownS.chg1 hO_24 hCw17 (fun q hq e => hbN (by subst e; simp [hq]))
    refine WL.nil ?_
    refine CW.fresh [(0, .slice A1 x.length c1), (1, .int .i64 (((((((((((((((((((((((((k0 + (cntL (x.take k) : Nat))) + 1)) + 1)) + 1)) + 1)) + 1)) + 1)) + 1)) + 1) + (cntL y.Target.Args : Nat))) + 1)) + 1)) + 1))), (5, .int .i64 ((k : Int)))] ⟨rfl, rfl, rfl, trivial⟩ fun σ => ?_
    refine CW.seq (CW.reg ?_)
    refine WL.ev rfl rfl (Ev.mv rfl rfl) (WL.ev rfl rfl (Ev.bin rfl rfl rfl (Bin.add (by omega))) (WL.ev rfl rfl (Ev.as rfl rfl) (WL.nil ?_)))
    refine CW.fresh [(0, .slice A1 x.length c1), (1, .int .i64 (((((((((((((((((((((((((((k0 + (cntL (x.take k) : Nat))) + 1)) + 1)) + 1)) + 1)) + 1)) + 1)) + 1)) + 1) + (cntL y.Target.Args : Nat))) + 1)) + 1)) + 1)) + 1))), (5, .int .i64 ((k : Int)))] ⟨rfl, rfl, rfl, trivial⟩ fun σ => ?_
    refine CW.seq (CW.reg ?_)
    refine WL.ev rfl rfl (Ev.mv rfl rfl) (WL.ev rfl rfl (Ev.mv rfl rfl) (WL.ev rfl rfl (Ev.mv rfl rfl) ?_))
    refine WL.call rfl rfl rfl rfl rfl ok136 rfl (markText_spec _ _ (by omega) (by omega)) ?_
    rintro _ w18 hEw18 rfl
    have hM18 := hM17.trans_ext hEw18
    refine WL.ev rfl rfl (Ev.ixA rfl el43 sz186 rfl hA rfl (by omega)) (WL.ev rfl rfl (Ev.fa rfl fo186_3 rfl) (WL.ev rfl rfl (Ev.fa rfl fo86_4 rfl) ?_))
    refine WL.stE (O := o + k * 16) (j := 13) rfl rfl rfl sz9 rfl rfl rfl rfl (all1 rfl all0) (hB_13.ext hEw18) rfl hfit rfl fun w19 hCw19 hB_14 => ?_
    have hB_14 : Blk _ _ _ (splice _ _ [_, _, _, _, _, _, _, _, _, _, _, _, _, _, _, _]) := hB_14
    have hM19 := hM18.tr1 hCw19 List.mem_cons_self
    have hO_27 := ownS.chg1 (hO_25.ext hEw18) hCw19 (fun q hq e => hbN (by subst e; simp [hq]))
    have hO_28 := ownS.chg1 (hO_26.ext hEw18) hCw19 (fun q hq e => hbN (by subst e; simp [hq]))
    refine WL.nil ?_
    refine CW.fresh [(0, .slice A1 x.length c1), (1, .int .i64 (((((((((((((((((((((((((((k0 + (cntL (x.take k) : Nat))) + 1)) + 1)) + 1)) + 1)) + 1)) + 1)) + 1)) + 1) + (cntL y.Target.Args : Nat))) + 1)) + 1)) + 1)) + 1))), (5, .int .i64 ((k : Int)))] ⟨rfl, rfl, rfl, trivial⟩ fun σ => ?_
    refine CW.seq (CW.reg ?_)
    refine WL.ev rfl rfl (Ev.mv rfl rfl) (WL.ev rfl rfl (Ev.bin rfl rfl rfl (Bin.add (by omega))) (WL.ev rfl rfl (Ev.as rfl rfl) (WL.nil ?_)))
    refine CW.fresh [(0, .slice A1 x.length c1), (1, .int .i64 (((((((((((((((((((((((((((((k0 + (cntL (x.take k) : Nat))) + 1)) + 1)) + 1)) + 1)) + 1)) + 1)) + 1)) + 1) + (cntL y.Target.Args : Nat))) + 1)) + 1)) + 1)) + 1)) + 1))), (5, .int .i64 ((k : Int)))] ⟨rfl, rfl, rfl, trivial⟩ fun σ => ?_
    refine CW.seq (CW.reg ?_)
    refine WL.ev rfl rfl (Ev.mv rfl rfl) (WL.ev rfl rfl (Ev.mv rfl rfl) (WL.ev rfl rfl (Ev.mv rfl rfl) ?_))
    refine WL.call rfl rfl rfl rfl rfl ok136 rfl (markText_spec _ _ (by omega) (by omega)) ?_
    rintro _ w20 hEw20 rfl
    have hM20 := hM19.trans_ext hEw20
    refine WL.ev rfl rfl (Ev.ixA rfl el43 sz186 rfl hA rfl (by omega)) (WL.ev rfl rfl (Ev.fa rfl fo186_3 rfl) (WL.ev rfl rfl (Ev.fa rfl fo86_5 rfl) ?_))
    refine WL.stE (O := o + k * 16) (j := 14) rfl rfl rfl sz9 rfl rfl rfl rfl (all1 rfl all0) (hB_14.ext hEw20) rfl hfit rfl fun w21 hCw21 hB_15 => ?_
    have hB_15 : Blk _ _ _ (splice _ _ [_, _, _, _, _, _, _, _, _, _, _, _, _, _, _, _]) := hB_15
    have hM21 := hM20.tr1 hCw21 List.mem_cons_self
    have hO_29 := ownS.chg1 (hO_27.ext hEw20) hCw21 (fun q hq e => hbN (by subst e; simp [hq]))
    have hO_30 := ownS.chg1 (hO_28.ext hEw20) hCw21 (fun q hq e => hbN (by subst e; simp [hq]))
    refine WL.nil ?_
    refine CW.fresh [(0, .slice A1 x.length c1), (1, .int .i64 (((((((((((((((((((((((((((((k0 + (cntL (x.take k) : Nat))) + 1)) + 1)) + 1)) + 1)) + 1)) + 1)) + 1)) + 1) + (cntL y.Target.Args : Nat))) + 1)) + 1)) + 1)) + 1)) + 1))), (5, .int .i64 ((k : Int)))] ⟨rfl, rfl, rfl, trivial⟩ fun σ => ?_
    refine CW.seq (CW.reg ?_)
    refine WL.ev rfl rfl (Ev.mv rfl rfl) (WL.ev rfl rfl (Ev.bin rfl rfl rfl (Bin.add (by omega))) (WL.ev rfl rfl (Ev.as rfl rfl) (WL.nil ?_)))
    refine CW.fresh [(0, .slice A1 x.length c1), (1, .int .i64 (((((((((((((((((((((((((((((((k0 + (cntL (x.take k) : Nat))) + 1)) + 1)) + 1)) + 1)) + 1)) + 1)) + 1)) + 1) + (cntL y.Target.Args : Nat))) + 1)) + 1)) + 1)) + 1)) + 1)) + 1))), (5, .int .i64 ((k : Int)))] ⟨rfl, rfl, rfl, trivial⟩ fun σ => ?_
    refine CW.reg ?_
    refine WL.ev rfl rfl (Ev.mv rfl rfl) (WL.ev rfl rfl (Ev.mv rfl rfl) (WL.ev rfl rfl (Ev.ixA rfl el43 sz186 rfl hA rfl (by omega)) (WL.ev rfl rfl (Ev.fa rfl fo186_3 rfl) (WL.ev rfl rfl (Ev.fa rfl fo86_6 rfl) (WL.ev rfl rfl (Ev.ld rfl ag84 rfl ((hB_15.foc (s := 16) rfl hfit).cell (j := 15) rfl)) (WL.ev rfl rfl (Ev.mv rfl rfl) ?_))))))
    refine WL.call rfl rfl rfl rfl rfl ok138 rfl (markExprS_spec _ _ y.Value.Args hO_30 (by have := hLN; simp only [List.nodup_append] at this; grind) _ (by omega) (by omega)) ?_
    rintro _ w22 hEw22 ⟨rfl, hO_31⟩
    have hM22 := hM21.trL hEw22 (fun q hq => by simp [hq])
    have hB_16 := Blk.chgL hB_15 hEw22 (fun hq => hbN (by simp [hq]))
    have hO_32 := ownS.chgL hO_29 hEw22 (fun z hz => by have := hLN; simp only [List.nodup_append, List.mem_append] at this; grind)
    refine WL.ev rfl rfl (Ev.as rfl rfl) (WL.nil ?_)
    refine CW.fresh [(0, .slice A1 x.length c1), (1, .int .i64 ((((((((((((((((((((((((((((((((k0 + (cntL (x.take k) : Nat))) + 1)) + 1)) + 1)) + 1)) + 1)) + 1)) + 1)) + 1) + (cntL y.Target.Args : Nat))) + 1)) + 1)) + 1)) + 1)) + 1)) + 1) + (cntL y.Value.Args : Nat)))), (5, .int .i64 ((k : Int)))] ⟨rfl, rfl, rfl, trivial⟩ fun σ => ?_
    refine CW.reg ?_
    refine WL.ev rfl rfl (Ev.mv rfl rfl) (WL.ev rfl rfl (Ev.bin rfl rfl rfl (Bin.add (by omega))) (WL.ev rfl rfl (Ev.as rfl rfl) (WL.nil ?_)))
    exact ⟨(k + 1, _), ⟨rfl, rfl, rfl, trivial⟩, ⟨hEwr1.trL hM22 (List.forall_mem_cons.2 ⟨hbL, hLL⟩), by simp only; omega, hplug hM22 ⟨_, _, _, _, rfl, rS (by omega), rS (by omega), rI (by omega) (by omega), rI (by omega) (by omega), rI (by omega) (by omega), rI (by omega) (by omega), rS (by omega), rS (by omega), rI (by omega) (by omega), rI (by omega) (by omega), rI (by omega) (by omega), rI (by omega) (by omega), rS (by omega), rS (by omega), rfl, hO_32, hO_31⟩ hB_16, by simp only; omega⟩, by simp only; omega⟩
  · skip
    refine CW.exit ?_
    refine CW.seq (CW.reg ?_)
    refine WL.ev rfl rfl (Ev.mv rfl rfl) (WL.ev rfl rfl (Ev.as rfl rfl) (WL.nil ?_))
    refine CW.ret ?_
    exact ⟨_, res1 rfl rfl rfl, hEwr1, vI (by simp only [cntL_full (xs := x) (i := k) (by omega)]), by rw [← mixL_all x k0 (i := k) (by omega)]; exact hO⟩

theorem markRuleS_spec (w : World) (L : List Nat) (x : List Rule) {z : Value} (hx : ownS L w x z) (hN : L.Nodup) (k0 : Int) (hk0 : 0 ≤ k0) (hk1 : k0 + cntL x ≤ 4611686018427387904) :
    Ret Tryz.prog 73 #[z, .int .i64 k0] w (· ∈ L) fun v w' => v = .int .i64 (k0 + cntL x) ∧ ownS L w' (mkL x k0) z := by
  refine enter Tryz.func73 rfl rfl rfl ?_
  obtain ⟨A1, c1, rfl, hc1, hm1⟩ := hx.form
  have hl1 : x.length ≤ 9223372036854775807 := Nat.le_trans hc1 hm1
  refine CW.seq (CW.reg ?_)
  refine WL.ev rfl rfl (Ev.as rfl rfl) (WL.nil ?_)
  refine CW.seq (CW.seq (CW.reg ?_))
  refine WL.ev rfl rfl (Ev.as rfl rfl) (WL.nil ?_)
  refine CW.block (CW.loop (α := Nat × Int) (fun q => [(0, .slice A1 x.length c1), (1, .int .i64 q.2), (5, .int .i64 (q.1 : Int))]) (fun q wr => Chg (· ∈ L) w wr ∧ q.1 ≤ x.length ∧ ownS L wr (mixL x k0 q.1) (.slice A1 x.length c1) ∧ q.2 = k0 + cntL (x.take q.1)) (fun q => x.length - q.1) (0, k0) ⟨rfl, rfl, rfl, trivial⟩ ⟨Chg.refl _, by simp, by rw [mixL_zero]; exact hx, by simp [cntL]⟩ ?_)
  rintro ⟨k, l⟩ σ wr1 ⟨hEwr1, hk, hO, hl⟩
  simp only at hk hO hl
  subst hl
  have hcl0 := cntL_take_le x k
  refine CW.fresh [(0, .slice A1 x.length c1), (1, .int .i64 ((k0 + (cntL (x.take k) : Nat)))), (5, .int .i64 ((k : Int)))] ⟨rfl, rfl, rfl, trivial⟩ fun σ => ?_
  refine CW.seq (CW.seq (CW.reg ?_))
  refine WL.ev rfl rfl (Ev.mv rfl rfl) (WL.ev rfl rfl (Ev.mv rfl rfl) (WL.ev rfl rfl (Ev.lenS rfl el38 rfl) (WL.ev rfl rfl (Ev.bin rfl rfl rfl Bin.lss) (WL.nil ?_))))
  refine CW.condD rfl (fun h1 => ?_) (fun h1 => ?_)
  · skip
    refine CW.skip ?_
    refine CW.fresh [(0, .slice A1 x.length c1), (1, .int .i64 ((k0 + (cntL (x.take k) : Nat)))), (5, .int .i64 ((k : Int)))] ⟨rfl, rfl, rfl, trivial⟩ fun σ => ?_
    refine CW.seq (CW.block (CW.seq (CW.reg ?_)))
    refine WL.ev rfl rfl (Ev.mv rfl rfl) (WL.ev rfl rfl (Ev.mv rfl rfl) (WL.ev rfl rfl (Ev.mv rfl rfl) ?_))
    obtain ⟨y, hy⟩ : ∃ y, x[k]? = some y := ⟨_, List.getElem?_eq_getElem (by omega)⟩
    have hct := cntL_take_succ hy
    have hcl := cntL_take_le x (k + 1)
    have hcn : Mk.cnt y = 1 + 1 + cntL y.Right + 1 + cntL y.Equations + cntL y.Contributions := rfl
    obtain ⟨b, o, e, cur, Li, ci, hA, hbL, hbN, hLN, hLL, hBf, hfit, how, hplug⟩ := hO.mark1 hN hy
    obtain ⟨v1, v2, v3, L1, L2, L3, rfl, hr1, hr2, rfl, hO1, hO2, hO3⟩ := how
    obtain ⟨A2, c2, rfl, hc1, hm1⟩ := hO1.form
    obtain ⟨A3, c3, rfl, hc2, hm2⟩ := hO2.form
    obtain ⟨A4, c4, rfl, hc3, hm3⟩ := hO3.form
    have hM0 := Chg.refl (M := (· ∈ b :: (L1 ++ L2 ++ L3))) wr1
    refine WL.call rfl rfl rfl rfl rfl ok136 rfl (markText_spec _ _ (by omega) (by omega)) ?_
    rintro _ w1 hEw1 rfl
    have hM1 := hM0.trans_ext hEw1
    refine WL.ev rfl rfl (Ev.ixA rfl el38 sz45 rfl hA rfl (by omega)) (WL.ev rfl rfl (Ev.fa rfl fo45_0 rfl) ?_)
    refine WL.stE (O := o + k * 6) (j := 0) rfl rfl rfl sz9 rfl rfl rfl rfl (all1 rfl all0) (hBf.ext hEw1) rfl hfit rfl fun w2 hCw2 hB_1 => ?_
    have hB_1 : Blk _ _ _ (splice _ _ [_, _, _, _, _, _]) := hB_1
    have hM2 := hM1.tr1 hCw2 List.mem_cons_self
    have hO_1 := ownS.chg1 (hO1.ext hEw1) hCw2 (fun q hq e => hbN (by subst e; simp [hq]))
    have hO_2 := ownS.chg1 (hO2.ext hEw1) hCw2 (fun q hq e => hbN (by subst e; simp [hq]))
    have hO_3 := ownS.chg1 (hO3.ext hEw1) hCw2 (fun q hq e => hbN (by subst e; simp [hq]))
    refine WL.nil ?_
    refine CW.fresh [(0, .slice A1 x.length c1), (1, .int .i64 ((k0 + (cntL (x.take k) : Nat)))), (5, .int .i64 ((k : Int)))] ⟨rfl, rfl, rfl, trivial⟩ fun σ => ?_
    refine CW.seq (CW.reg ?_)
    refine WL.ev rfl rfl (Ev.mv rfl rfl) (WL.ev rfl rfl (Ev.bin rfl rfl rfl (Bin.add (by omega))) (WL.ev rfl rfl (Ev.as rfl rfl) (WL.nil ?_)))
    refine CW.fresh [(0, .slice A1 x.length c1), (1, .int .i64 ((((k0 + (cntL (x.take k) : Nat))) + 1))), (5, .int .i64 ((k : Int)))] ⟨rfl, rfl, rfl, trivial⟩ fun σ => ?_
    refine CW.seq (CW.reg ?_)
    refine WL.ev rfl rfl (Ev.mv rfl rfl) (WL.ev rfl rfl (Ev.mv rfl rfl) (WL.ev rfl rfl (Ev.mv rfl rfl) ?_))
    refine WL.call rfl rfl rfl rfl rfl ok136 rfl (markText_spec _ _ (by omega) (by omega)) ?_
    rintro _ w3 hEw3 rfl
    have hM3 := hM2.trans_ext hEw3
    refine WL.ev rfl rfl (Ev.ixA rfl el38 sz45 rfl hA rfl (by omega)) (WL.ev rfl rfl (Ev.fa rfl fo45_1 rfl) ?_)
    refine WL.stE (O := o + k * 6) (j := 1) rfl rfl rfl sz9 rfl rfl rfl rfl (all1 rfl all0) (hB_1.ext hEw3) rfl hfit rfl fun w4 hCw4 hB_2 => ?_
    have hB_2 : Blk _ _ _ (splice _ _ [_, _, _, _, _, _]) := hB_2
    have hM4 := hM3.tr1 hCw4 List.mem_cons_self
    have hO_4 := ownS.chg1 (hO_1.ext hEw3) hCw4 (fun q hq e => hbN (by subst e; simp [hq]))
    have hO_5 := ownS.chg1 (hO_2.ext hEw3) hCw4 (fun q hq e => hbN (by subst e; simp [hq]))
    have hO_6 := ownS.chg1 (hO_3.ext hEw3) hCw4 (fun q hq e => hbN (by subst e; simp [hq]))
    refine WL.nil ?_
    refine CW.fresh [(0, .slice A1 x.length c1), (1, .int .i64 ((((k0 + (cntL (x.take k) : Nat))) + 1))), (5, .int .i64 ((k : Int)))] ⟨rfl, rfl, rfl, trivial⟩ fun σ => ?_
    refine CW.seq (CW.reg ?_)
    refine WL.ev rfl rfl (Ev.mv rfl rfl) (WL.ev rfl rfl (Ev.bin rfl rfl rfl (Bin.add (by omega))) (WL.ev rfl rfl (Ev.as rfl rfl) (WL.nil ?_)))
    refine CW.fresh [(0, .slice A1 x.length c1), (1, .int .i64 ((((((k0 + (cntL (x.take k) : Nat))) + 1)) + 1))), (5, .int .i64 ((k : Int)))] ⟨rfl, rfl, rfl, trivial⟩ fun σ => ?_
    refine CW.seq (CW.reg ?_)
    refine WL.ev rfl rfl (Ev.mv rfl rfl) (WL.ev rfl rfl (Ev.mv rfl rfl) (WL.ev rfl rfl (Ev.ixA rfl el38 sz45 rfl hA rfl (by omega)) (WL.ev rfl rfl (Ev.fa rfl fo45_2 rfl) (WL.ev rfl rfl (Ev.ld rfl ag26 rfl ((hB_2.foc (s := 6) rfl hfit).cell (j := 2) rfl)) (WL.ev rfl rfl (Ev.mv rfl rfl) ?_)))))
    refine WL.call rfl rfl rfl rfl rfl ok74 rfl (markStringS_spec _ _ y.Right hO_4 (by have := hLN; simp only [List.nodup_append] at this; grind) _ (by omega) (by omega)) ?_
    rintro _ w5 hEw5 ⟨rfl, hO_7⟩
    have hM5 := hM4.trL hEw5 (fun q hq => by simp [hq])
    have hB_3 := Blk.chgL hB_2 hEw5 (fun hq => hbN (by simp [hq]))
    have hO_8 := ownS.chgL hO_5 hEw5 (fun z hz => by have := hLN; simp only [List.nodup_append, List.mem_append] at this; grind)
    have hO_9 := ownS.chgL hO_6 hEw5 (fun z hz => by have := hLN; simp only [List.nodup_append, List.mem_append] at this; grind)
    refine WL.ev rfl rfl (Ev.as rfl rfl) (WL.nil ?_)
    refine CW.fresh [(0, .slice A1 x.length c1), (1, .int .i64 (((((((k0 + (cntL (x.take k) : Nat))) + 1)) + 1) + (cntL y.Right : Nat)))), (5, .int .i64 ((k : Int)))] ⟨rfl, rfl, rfl, trivial⟩ fun σ => ?_
    refine CW.seq (CW.reg ?_)
    refine WL.ev rfl rfl (Ev.mv rfl rfl) (WL.ev rfl rfl (Ev.mv rfl rfl) (WL.ev rfl rfl (Ev.mv rfl rfl) (WL.ev rfl rfl (Ev.bin rfl rfl rfl (Bin.rem3 (by omega))) (WL.ev rfl rfl (Ev.bin rfl rfl rfl Bin.eql) (WL.ev rfl rfl (Ev.ixA rfl el38 sz45 rfl hA rfl (by omega)) (WL.ev rfl rfl (Ev.fa rfl fo45_3 rfl) ?_))))))
    refine WL.stE (O := o + k * 6) (j := 3) rfl rfl rfl sz4 rfl rfl rfl rfl (all1 rfl all0) hB_3 rfl hfit rfl fun w6 hCw6 hB_4 => ?_
    have hB_4 : Blk _ _ _ (splice _ _ [_, _, _, _, _, _]) := hB_4
    have hM6 := hM5.tr1 hCw6 List.mem_cons_self
    have hO_10 := ownS.chg1 hO_7 hCw6 (fun q hq e => hbN (by subst e; simp [hq]))
    have hO_11 := ownS.chg1 hO_8 hCw6 (fun q hq e => hbN (by subst e; simp [hq]))
    have hO_12 := ownS.chg1 hO_9 hCw6 (fun q hq e => hbN (by subst e; simp [hq]))
    refine WL.nil ?_
    refine CW.fresh [(0, .slice A1 x.length c1), (1, .int .i64 (((((((k0 + (cntL (x.take k) : Nat))) + 1)) + 1) + (cntL y.Right : Nat)))), (5, .int .i64 ((k : Int)))] ⟨rfl, rfl, rfl, trivial⟩ fun σ => ?_
    refine CW.seq (CW.reg ?_)
    refine WL.ev rfl rfl (Ev.mv rfl rfl) (WL.ev rfl rfl (Ev.bin rfl rfl rfl (Bin.add (by omega))) (WL.ev rfl rfl (Ev.as rfl rfl) (WL.nil ?_)))
    refine CW.fresh [(0, .slice A1 x.length c1), (1, .int .i64 (((((((((k0 + (cntL (x.take k) : Nat))) + 1)) + 1) + (cntL y.Right : Nat))) + 1))), (5, .int .i64 ((k : Int)))] ⟨rfl, rfl, rfl, trivial⟩ fun σ => ?_
    refine CW.seq (CW.reg ?_)
    refine WL.ev rfl rfl (Ev.mv rfl rfl) (WL.ev rfl rfl (Ev.mv rfl rfl) (WL.ev rfl rfl (Ev.ixA rfl el38 sz45 rfl hA rfl (by omega)) (WL.ev rfl rfl (Ev.fa rfl fo45_4 rfl) (WL.ev rfl rfl (Ev.ld rfl ag42 rfl ((hB_4.foc (s := 6) rfl hfit).cell (j := 4) rfl)) (WL.ev rfl rfl (Ev.mv rfl rfl) ?_)))))
    refine WL.call rfl rfl rfl rfl rfl ok75 rfl (markEquationS_spec _ _ y.Equations hO_11 (by have := hLN; simp only [List.nodup_append] at this; grind) _ (by omega) (by omega)) ?_
    rintro _ w7 hEw7 ⟨rfl, hO_13⟩
    have hM7 := hM6.trL hEw7 (fun q hq => by simp [hq])
    have hB_5 := Blk.chgL hB_4 hEw7 (fun hq => hbN (by simp [hq]))
    have hO_14 := ownS.chgL hO_10 hEw7 (fun z hz => by have := hLN; simp only [List.nodup_append, List.mem_append] at this; grind)
    have hO_15 := ownS.chgL hO_12 hEw7 (fun z hz => by have := hLN; simp only [List.nodup_append, List.mem_append] at this; grind)
    refine WL.ev rfl rfl (Ev.as rfl rfl) (WL.nil ?_)
    refine CW.fresh [(0, .slice A1 x.length c1), (1, .int .i64 ((((((((((k0 + (cntL (x.take k) : Nat))) + 1)) + 1) + (cntL y.Right : Nat))) + 1) + (cntL y.Equations : Nat)))), (5, .int .i64 ((k : Int)))] ⟨rfl, rfl, rfl, trivial⟩ fun σ => ?_
    refine CW.reg ?_
    refine WL.ev rfl rfl (Ev.mv rfl rfl) (WL.ev rfl rfl (Ev.mv rfl rfl) (WL.ev rfl rfl (Ev.ixA rfl el38 sz45 rfl hA rfl (by omega)) (WL.ev rfl rfl (Ev.fa rfl fo45_5 rfl) (WL.ev rfl rfl (Ev.ld rfl ag43 rfl ((hB_5.foc (s := 6) rfl hfit).cell (j := 5) rfl)) (WL.ev rfl rfl (Ev.mv rfl rfl) ?_)))))
    refine WL.call rfl rfl rfl rfl rfl ok76 rfl (markContributionS_spec _ _ y.Contributions hO_15 (by have := hLN; simp only [List.nodup_append] at this; grind) _ (by omega) (by omega)) ?_
    rintro _ w8 hEw8 ⟨rfl, hO_16⟩
    have hM8 := hM7.trL hEw8 (fun q hq => by simp [hq])
    have hB_6 := Blk.chgL hB_5 hEw8 (fun hq => hbN (by simp [hq]))
    have hO_17 := ownS.chgL hO_14 hEw8 (fun z hz => by have := hLN; simp only [List.nodup_append, List.mem_append] at this; grind)
    have hO_18 := ownS.chgL hO_13 hEw8 (fun z hz => by have := hLN; simp only [List.nodup_append, List.mem_append] at this; grind)
    refine WL.ev rfl rfl (Ev.as rfl rfl) (WL.nil ?_)
    refine CW.fresh [(0, .slice A1 x.length c1), (1, .int .i64 (((((((((((k0 + (cntL (x.take k) : Nat))) + 1)) + 1) + (cntL y.Right : Nat))) + 1) + (cntL y.Equations : Nat)) + (cntL y.Contributions : Nat)))), (5, .int .i64 ((k : Int)))] ⟨rfl, rfl, rfl, trivial⟩ fun σ => ?_
    refine CW.reg ?_
    refine WL.ev rfl rfl (Ev.mv rfl rfl) (WL.ev rfl rfl (Ev.bin rfl rfl rfl (Bin.add (by omega))) (WL.ev rfl rfl (Ev.as rfl rfl) (WL.nil ?_)))
    exact ⟨(k + 1, _), ⟨rfl, rfl, rfl, trivial⟩, ⟨hEwr1.trL hM8 (List.forall_mem_cons.2 ⟨hbL, hLL⟩), by simp only; omega, hplug hM8 ⟨_, _, _, _, _, _, rfl, rS (by omega), rS (by omega), rfl, hO_17, hO_18, hO_16⟩ hB_6, by simp only; omega⟩, by simp only; omega⟩
  · skip
    refine CW.exit ?_
    refine CW.seq (CW.reg ?_)
    refine WL.ev rfl rfl (Ev.mv rfl rfl) (WL.ev rfl rfl (Ev.as rfl rfl) (WL.nil ?_))
    refine CW.ret ?_
    exact ⟨_, res1 rfl rfl rfl, hEwr1, vI (by simp only [cntL_full (xs := x) (i := k) (by omega)]), by rw [← mixL_all x k0 (i := k) (by omega)]; exact hO⟩

theorem markGrammar_spec (w : World) (L : List Nat) (x : Grammar) {cs : List Value} (hx : own L w x cs) (hN : L.Nodup) (k0 : Int) (hk0 : 0 ≤ k0) (hk1 : k0 + MkT.cntT x ≤ 4611686018427387904) :
    Ret Tryz.prog 16 #[.agg cs.toArray, .int .i64 k0] w (· ∈ L) fun v w' => v = .int .i64 (k0 + MkT.cntT x) ∧ own L w' (MkT.mrkT x k0) cs := by
  refine enter Tryz.func16 rfl rfl rfl ?_
  obtain ⟨v1, v2, L1, L2, rfl, rfl, hO1, hO2⟩ := hx
  obtain ⟨A1, c1, rfl, hc1, hm1⟩ := hO1.form
  obtain ⟨A2, c2, rfl, hc2, hm2⟩ := hO2.form
  have hcn : MkT.cntT x = cntL x.Symbols + cntL x.Rules := rfl
  have hM0 := Chg.refl (M := (· ∈ (L1 ++ L2))) w
  refine CW.seq (CW.reg ?_)
  refine WL.box rfl rfl rfl rfl rfl fun b1 w1 hEb1 hbb1 hBb1 => ?_
  have hM1 := hM0.trans_ext hEb1
  refine WL.ev rfl rfl (Ev.as rfl rfl) (WL.nil ?_)
  refine CW.seq (CW.reg ?_)
  refine WL.ev rfl rfl (Ev.fa rfl fo40_0 rfl) (WL.ev rfl rfl (Ev.ld rfl ag37 rfl (hBb1.cell rfl)) (WL.ev rfl rfl (Ev.mv rfl rfl) ?_))
  refine WL.call rfl rfl rfl rfl rfl ok72 rfl (markSymbolS_spec _ _ x.Symbols (hO1.ext hEb1) (by have := hN; simp only [List.nodup_append] at this; grind) _ (by omega) (by omega)) ?_
  rintro _ w2 hEw2 ⟨rfl, hO_1⟩
  have hM2 := hM1.trL hEw2 (fun q hq => by simp [hq])
  have hB_1 := Blk.chgL hBb1 hEw2 (fun hq => by have := hO1.lt _ hq; have := hbb1; omega)
  have hO_2 := ownS.chgL (hO2.ext hEb1) hEw2 (fun z hz => by have := hN; simp only [List.nodup_append, List.mem_append] at this; grind)
  refine WL.ev rfl rfl (Ev.as rfl rfl) (WL.nil ?_)
  refine CW.seq (CW.reg ?_)
  refine WL.ev rfl rfl (Ev.fa rfl fo40_1 rfl) (WL.ev rfl rfl (Ev.ld rfl ag38 rfl (hB_1.cell rfl)) (WL.ev rfl rfl (Ev.mv rfl rfl) ?_))
  refine WL.call rfl rfl rfl rfl rfl ok73 rfl (markRuleS_spec _ _ x.Rules hO_2 (by have := hN; simp only [List.nodup_append] at this; grind) _ (by omega) (by omega)) ?_
  rintro _ w3 hEw3 ⟨rfl, hO_3⟩
  have hM3 := hM2.trL hEw3 (fun q hq => by simp [hq])
  have hB_2 := Blk.chgL hB_1 hEw3 (fun hq => by have := hO2.lt _ hq; have := hbb1; omega)
  have hO_4 := ownS.chgL hO_1 hEw3 (fun z hz => by have := hN; simp only [List.nodup_append, List.mem_append] at this; grind)
  refine WL.ev rfl rfl (Ev.as rfl rfl) (WL.nil ?_)
  refine CW.seq (CW.reg ?_)
  refine WL.ev rfl rfl (Ev.mv rfl rfl) (WL.ev rfl rfl (Ev.as rfl rfl) (WL.nil ?_))
  refine CW.ret ?_
  exact ⟨_, res1 rfl rfl rfl, hM3, congrArg (Value.int .i64) (by omega), ⟨_, _, _, _, rfl, rfl, hO_4, hO_3⟩⟩

theorem markRule_spec (w : World) (L : List Nat) (x : Rule) {cs : List Value} (hx : own L w x cs) (hN : L.Nodup) (k0 : Int) (hk0 : 0 ≤ k0) (hk1 : k0 + MkT.cntT x ≤ 4611686018427387904) :
    Ret Tryz.prog 17 #[.agg cs.toArray, .int .i64 k0] w (· ∈ L) fun v w' => v = .int .i64 (k0 + MkT.cntT x) ∧ own L w' (MkT.mrkT x k0) cs := by
  refine enter Tryz.func17 rfl rfl rfl ?_
  obtain ⟨v1, v2, v3, L1, L2, L3, rfl, hr1, hr2, rfl, hO1, hO2, hO3⟩ := hx
  obtain ⟨A1, c1, rfl, hc1, hm1⟩ := hO1.form
  obtain ⟨A2, c2, rfl, hc2, hm2⟩ := hO2.form
  obtain ⟨A3, c3, rfl, hc3, hm3⟩ := hO3.form
  have hcn : MkT.cntT x = cntL x.Right + cntL x.Equations + cntL x.Contributions := rfl
  have hM0 := Chg.refl (M := (· ∈ (L1 ++ L2 ++ L3))) w
  refine CW.seq (CW.reg ?_)
  refine WL.box rfl rfl rfl rfl rfl fun b1 w1 hEb1 hbb1 hBb1 => ?_
  have hM1 := hM0.trans_ext hEb1
  refine WL.ev rfl rfl (Ev.as rfl rfl) (WL.nil ?_)
  refine CW.seq (CW.reg ?_)
  refine WL.ev rfl rfl (Ev.fa rfl fo45_2 rfl) (WL.ev rfl rfl (Ev.ld rfl ag26 rfl (hBb1.cell rfl)) (WL.ev rfl rfl (Ev.mv rfl rfl) ?_))
  refine WL.call rfl rfl rfl rfl rfl ok74 rfl (markStringS_spec _ _ x.Right (hO1.ext hEb1) (by have := hN; simp only [List.nodup_append] at this; grind) _ (by omega) (by omega)) ?_
  rintro _ w2 hEw2 ⟨rfl, hO_1⟩
  have hM2 := hM1.trL hEw2 (fun q hq => by simp [hq])
  have hB_1 := Blk.chgL hBb1 hEw2 (fun hq => by have := hO1.lt _ hq; have := hbb1; omega)
  have hO_2 := ownS.chgL (hO2.ext hEb1) hEw2 (fun z hz => by have := hN; simp only [List.nodup_append, List.mem_append] at this; grind)
  have hO_3 := ownS.chgL (hO3.ext hEb1) hEw2 (fun z hz => by have := hN; simp only [List.nodup_append, List.mem_append] at this; grind)
  refine WL.ev rfl rfl (Ev.as rfl rfl) (WL.nil ?_)
  refine CW.seq (CW.reg ?_)
  refine WL.ev rfl rfl (Ev.fa rfl fo45_4 rfl) (WL.ev rfl rfl (Ev.ld rfl ag42 rfl (hB_1.cell rfl)) (WL.ev rfl rfl (Ev.mv rfl rfl) ?_))
  refine WL.call rfl rfl rfl rfl rfl ok75 rfl (markEquationS_spec _ _ x.Equations hO_2 (by have := hN; simp only [List.nodup_append] at this; grind) _ (by omega) (by omega)) ?_
  rintro _ w3 hEw3 ⟨rfl, hO_4⟩
  have hM3 := hM2.trL hEw3 (fun q hq => by simp [hq])
  have hB_2 := Blk.chgL hB_1 hEw3 (fun hq => by have := hO2.lt _ hq; have := hbb1; omega)
  have hO_5 := ownS.chgL hO_1 hEw3 (fun z hz => by have := hN; simp only [List.nodup_append, List.mem_append] at this; grind)
  have hO_6 := ownS.chgL hO_3 hEw3 (fun z hz => by have := hN; simp only [List.nodup_append, List.mem_append] at this; grind)
  refine WL.ev rfl rfl (Ev.as rfl rfl) (WL.nil ?_)
  refine CW.seq (CW.reg ?_)
  refine WL.ev rfl rfl (Ev.fa rfl fo45_5 rfl) (WL.ev rfl rfl (Ev.ld rfl ag43 rfl (hB_2.cell rfl)) (WL.ev rfl rfl (Ev.mv rfl rfl) ?_))
  refine WL.call rfl rfl rfl rfl rfl ok76 rfl (markContributionS_spec _ _ x.Contributions hO_6 (by have := hN; simp only [List.nodup_append] at this; grind) _ (by omega) (by omega)) ?_
  rintro _ w4 hEw4 ⟨rfl, hO_7⟩
  have hM4 := hM3.trL hEw4 (fun q hq => by simp [hq])
  have hB_3 := Blk.chgL hB_2 hEw4 (fun hq => by have := hO3.lt _ hq; have := hbb1; omega)
  have hO_8 := ownS.chgL hO_5 hEw4 (fun z hz => by have := hN; simp only [List.nodup_append, List.mem_append] at this; grind)
  have hO_9 := ownS.chgL hO_4 hEw4 (fun z hz => by have := hN; simp only [List.nodup_append, List.mem_append] at this; grind)
  refine WL.ev rfl rfl (Ev.as rfl rfl) (WL.nil ?_)
  refine CW.seq (CW.reg ?_)
  refine WL.ev rfl rfl (Ev.mv rfl rfl) (WL.ev rfl rfl (Ev.as rfl rfl) (WL.nil ?_))
  refine CW.ret ?_
  exact ⟨_, res1 rfl rfl rfl, hM4, congrArg (Value.int .i64) (by omega), ⟨_, _, _, _, _, _, rfl, by first | assumption | omega, by first | assumption | omega, rfl, hO_8, hO_9, hO_7⟩⟩

theorem markIntS_spec (w : World) (L : List Nat) (x : List Int) {z : Value} (hx : ownS L w x z) (hN : L.Nodup) (k0 : Int) (hk0 : 0 ≤ k0) (hk1 : k0 + cntL x ≤ 4611686018427387904) :
    Ret Tryz.prog 77 #[z, .int .i64 k0] w (· ∈ L) fun v w' => v = .int .i64 (k0 + cntL x) ∧ ownS L w' (mkL x k0) z := by
  refine enter Tryz.func77 rfl rfl rfl ?_
  obtain ⟨A1, c1, rfl, hc1, hm1⟩ := hx.form
  have hl1 : x.length ≤ 9223372036854775807 := Nat.le_trans hc1 hm1
  refine CW.seq (CW.reg ?_)
  refine WL.ev rfl rfl (Ev.as rfl rfl) (WL.nil ?_)
  refine CW.seq (CW.seq (CW.reg ?_))
  refine WL.ev rfl rfl (Ev.as rfl rfl) (WL.nil ?_)
  refine CW.block (CW.loop (α := Nat × Int) (fun q => [(0, .slice A1 x.length c1), (1, .int .i64 q.2), (5, .int .i64 (q.1 : Int))]) (fun q wr => Chg (· ∈ L) w wr ∧ q.1 ≤ x.length ∧ ownS L wr (mixL x k0 q.1) (.slice A1 x.length c1) ∧ q.2 = k0 + cntL (x.take q.1)) (fun q => x.length - q.1) (0, k0) ⟨rfl, rfl, rfl, trivial⟩ ⟨Chg.refl _, by simp, by rw [mixL_zero]; exact hx, by simp [cntL]⟩ ?_)
  rintro ⟨k, l⟩ σ wr1 ⟨hEwr1, hk, hO, hl⟩
  simp only at hk hO hl
  subst hl
  have hcl0 := cntL_take_le x k
  refine CW.fresh [(0, .slice A1 x.length c1), (1, .int .i64 ((k0 + (cntL (x.take k) : Nat)))), (5, .int .i64 ((k : Int)))] ⟨rfl, rfl, rfl, trivial⟩ fun σ => ?_
  refine CW.seq (CW.seq (CW.reg ?_))
  refine WL.ev rfl rfl (Ev.mv rfl rfl) (WL.ev rfl rfl (Ev.mv rfl rfl) (WL.ev rfl rfl (Ev.lenS rfl el33 rfl) (WL.ev rfl rfl (Ev.bin rfl rfl rfl Bin.lss) (WL.nil ?_))))
  refine CW.condD rfl (fun h1 => ?_) (fun h1 => ?_)
  · skip
    refine CW.skip ?_
    refine CW.fresh [(0, .slice A1 x.length c1), (1, .int .i64 ((k0 + (cntL (x.take k) : Nat)))), (5, .int .i64 ((k : Int)))] ⟨rfl, rfl, rfl, trivial⟩ fun σ => ?_
    refine CW.seq (CW.block (CW.seq (CW.reg ?_)))
    refine WL.ev rfl rfl (Ev.mv rfl rfl) (WL.ev rfl rfl (Ev.mv rfl rfl) (WL.ev rfl rfl (Ev.mv rfl rfl) ?_))
    obtain ⟨y, hy⟩ : ∃ y, x[k]? = some y := ⟨_, List.getElem?_eq_getElem (by omega)⟩
    have hct := cntL_take_succ hy
    have hcl := cntL_take_le x (k + 1)
    have hcn : Mk.cnt y = 1 := rfl
    obtain ⟨b, o, e, cur, Li, ci, hA, hbL, hbN, hLN, hLL, hBf, hfit, how, hplug⟩ := hO.mark1 hN hy
    obtain ⟨rfl, rfl, hr1⟩ := how
    have hM0 := Chg.refl (M := (· ∈ b :: [])) wr1
    refine WL.ev rfl rfl (Ev.ixA rfl el33 sz3 rfl hA rfl (by omega)) ?_
    refine WL.stE0 rfl rfl rfl sz3 rfl rfl rfl rfl (all1 rfl all0) hBf rfl hfit rfl fun w1 hCw1 hB_1 => ?_
    have hM1 := hM0.tr1 hCw1 List.mem_cons_self
    refine WL.nil ?_
    refine CW.fresh [(0, .slice A1 x.length c1), (1, .int .i64 ((k0 + (cntL (x.take k) : Nat)))), (5, .int .i64 ((k : Int)))] ⟨rfl, rfl, rfl, trivial⟩ fun σ => ?_
    refine CW.reg ?_
    refine WL.ev rfl rfl (Ev.mv rfl rfl) (WL.ev rfl rfl (Ev.bin rfl rfl rfl (Bin.add (by omega))) (WL.ev rfl rfl (Ev.as rfl rfl) (WL.nil ?_)))
    refine CW.fresh [(0, .slice A1 x.length c1), (1, .int .i64 ((((k0 + (cntL (x.take k) : Nat))) + 1))), (5, .int .i64 ((k : Int)))] ⟨rfl, rfl, rfl, trivial⟩ fun σ => ?_
    refine CW.reg ?_
    refine WL.ev rfl rfl (Ev.mv rfl rfl) (WL.ev rfl rfl (Ev.bin rfl rfl rfl (Bin.add (by omega))) (WL.ev rfl rfl (Ev.as rfl rfl) (WL.nil ?_)))
    exact ⟨(k + 1, _), ⟨rfl, rfl, rfl, trivial⟩, ⟨hEwr1.trL hM1 (List.forall_mem_cons.2 ⟨hbL, hLL⟩), by simp only; omega, hplug hM1 ⟨rfl, rfl, rI (by omega) (by omega)⟩ hB_1, by simp only; omega⟩, by simp only; omega⟩
  · skip
    refine CW.exit ?_
    refine CW.seq (CW.reg ?_)
    refine WL.ev rfl rfl (Ev.mv rfl rfl) (WL.ev rfl rfl (Ev.as rfl rfl) (WL.nil ?_))
    refine CW.ret ?_
    exact ⟨_, res1 rfl rfl rfl, hEwr1, vI (by simp only [cntL_full (xs := x) (i := k) (by omega)]), by rw [← mixL_all x k0 (i := k) (by omega)]; exact hO⟩

theorem markRelation_spec (w : World) (L : List Nat) (x : Relation) {cs : List Value} (hx : own L w x cs) (hN : L.Nodup) (k0 : Int) (hk0 : 0 ≤ k0) (hk1 : k0 + MkT.cntT x ≤ 4611686018427387904) :
    Ret Tryz.prog 18 #[.agg cs.toArray, .int .i64 k0] w (· ∈ L) fun v w' => v = .int .i64 (k0 + MkT.cntT x) ∧ own L w' (MkT.mrkT x k0) cs := by
  refine enter Tryz.func18 rfl rfl rfl ?_
  obtain ⟨v1, L1, rfl, hr1, rfl, hO1⟩ := hx
  obtain ⟨A1, c1, rfl, hc1, hm1⟩ := hO1.form
  have hcn : MkT.cntT x = cntL x.Rows := rfl
  have hM0 := Chg.refl (M := (· ∈ L)) w
  refine CW.seq (CW.reg ?_)
  refine WL.box rfl rfl rfl rfl rfl fun b1 w1 hEb1 hbb1 hBb1 => ?_
  have hM1 := hM0.trans_ext hEb1
  refine WL.ev rfl rfl (Ev.as rfl rfl) (WL.nil ?_)
  refine CW.seq (CW.reg ?_)
  refine WL.ev rfl rfl (Ev.fa rfl fo35_1 rfl) (WL.ev rfl rfl (Ev.ld rfl ag33 rfl (hBb1.cell rfl)) (WL.ev rfl rfl (Ev.mv rfl rfl) ?_))
  refine WL.call rfl rfl rfl rfl rfl ok77 rfl (markIntS_spec _ _ x.Rows (hO1.ext hEb1) hN _ (by omega) (by omega)) ?_
  rintro _ w2 hEw2 ⟨rfl, hO_1⟩
  have hM2 := hM1.trL hEw2 (fun q hq => by simp [hq])
  have hB_1 := Blk.chgL hBb1 hEw2 (fun hq => by have := hO1.lt _ hq; have := hbb1; omega)
  refine WL.ev rfl rfl (Ev.as rfl rfl) (WL.nil ?_)
  refine CW.seq (CW.reg ?_)
  refine WL.ev rfl rfl (Ev.mv rfl rfl) (WL.ev rfl rfl (Ev.as rfl rfl) (WL.nil ?_))
  refine CW.ret ?_
  exact ⟨_, res1 rfl rfl rfl, hM2, congrArg (Value.int .i64) (by omega), ⟨_, _, rfl, by first | assumption | omega, rfl, hO_1⟩⟩

theorem heldIntS_spec (w : World) {S : Nat → Prop} (x : List Int) {z : Value} (hx : rdS S w x z) (k0 : Int) (hk0 : 0 ≤ k0) (hk1 : k0 + cntL x ≤ 4611686018427387904) :
    Ret Tryz.prog 78 #[z, .int .i64 k0] w (fun _ => False) fun v _ => ∃ r, v = .int .i64 r ∧ Held (hdL x k0) k0 (cntL x) r := by
  refine enter Tryz.func78 rfl rfl rfl ?_
  obtain ⟨A1, c1, rfl, hc1, hm1⟩ := hx.form
  have hl1 : x.length ≤ 9223372036854775807 := Nat.le_trans hc1 hm1
  refine CW.seq (CW.reg ?_)
  refine WL.ev rfl rfl (Ev.as rfl rfl) (WL.nil ?_)
  refine CW.seq (CW.seq (CW.reg ?_))
  refine WL.ev rfl rfl (Ev.as rfl rfl) (WL.nil ?_)
  refine CW.block (CW.loop (α := Nat × Int) (fun q => [(0, .slice A1 x.length c1), (1, .int .i64 q.2), (5, .int .i64 (q.1 : Int))]) (fun q wr => Ext w wr ∧ q.1 ≤ x.length ∧ hdL (x.take q.1) k0 = some q.2 ∧ q.2 = k0 + cntL (x.take q.1)) (fun q => x.length - q.1) (0, k0) ⟨rfl, rfl, rfl, trivial⟩ ⟨Ext.refl _, by simp, rfl, by simp [cntL]⟩ ?_)
  rintro ⟨k, l⟩ σ wr1 ⟨hEwr1, hk, hh, hl⟩
  simp only at hk hh hl
  have hcl0 := cntL_take_le x k
  refine CW.seq (CW.seq (CW.reg ?_))
  refine WL.ev rfl rfl (Ev.mv rfl rfl) (WL.ev rfl rfl (Ev.mv rfl rfl) (WL.ev rfl rfl (Ev.lenS rfl el33 rfl) (WL.ev rfl rfl (Ev.bin rfl rfl rfl Bin.lss) (WL.nil ?_))))
  refine CW.condD rfl (fun h1 => ?_) (fun h1 => ?_)
  · skip
    refine CW.skip ?_
    refine CW.seq (CW.block (CW.seq (CW.seq (CW.reg ?_))))
    refine WL.ev rfl rfl (Ev.mv rfl rfl) (WL.ev rfl rfl (Ev.mv rfl rfl) ?_)
    obtain ⟨xe1, be1, oe1, cse1, hxe1, hAe1, hSe1, hre1, hAte1⟩ := rdS.el hx (i := k) (by omega)
    have hK1 := hre1
    obtain ⟨rfl, hr1⟩ := hre1
    have hct := cntL_take_succ hxe1
    have hcl := cntL_take_le x (k + 1)
    have hcn : Mk.cnt xe1 = 1 := rfl
    refine WL.ev rfl rfl (Ev.ixA rfl el33 sz3 rfl hAe1 rfl (by omega)) (WL.ev rfl rfl (Ev.ld rfl ag3 rfl ((hAte1.ext hEwr1).cell0 rfl)) (WL.ev rfl rfl (Ev.mv rfl rfl) (WL.ev rfl rfl (Ev.bin rfl rfl rfl Bin.neq) (WL.nil ?_))))
    refine CW.condN rfl (fun h2 => ?_) (fun h2 => ?_)
    · skip
      refine CW.seq (CW.reg ?_)
      refine WL.ev rfl rfl (Ev.as rfl rfl) (WL.nil ?_)
      refine CW.ret ?_
      exact ⟨_, res1 rfl rfl rfl, hEwr1, _, rfl, .inr ⟨hdL_none hxe1 hh (hdI_neg h2), rfl⟩⟩
    · skip
      refine CW.skip ?_
      refine CW.reg ?_
      refine WL.ev rfl rfl (Ev.mv rfl rfl) (WL.ev rfl rfl (Ev.bin rfl rfl rfl (Bin.add (by omega))) (WL.ev rfl rfl (Ev.as rfl rfl) (WL.nil ?_)))
      refine CW.reg ?_
      refine WL.ev rfl rfl (Ev.mv rfl rfl) (WL.ev rfl rfl (Ev.bin rfl rfl rfl (Bin.add (by omega))) (WL.ev rfl rfl (Ev.as rfl rfl) (WL.nil ?_)))
      exact ⟨(k + 1, _), ⟨rfl, rfl, rfl, trivial⟩, ⟨hEwr1, by simp only; omega, hdL_step hxe1 hh (hdI_pos h2), by simp only; omega⟩, by simp only; omega⟩
  · skip
    refine CW.exit ?_
    refine CW.seq (CW.reg ?_)
    refine WL.ev rfl rfl (Ev.mv rfl rfl) (WL.ev rfl rfl (Ev.as rfl rfl) (WL.nil ?_))
    refine CW.ret ?_
    exact ⟨_, res1 rfl rfl rfl, hEwr1, _, rfl, .inl ⟨hdL_full hh (by omega), by rw [hl, cntL_full (by omega)]⟩⟩

theorem heldRelation_spec (w : World) {S : Nat → Prop} (x : Relation) {cs : List Value} (hx : rd S w x cs) (k0 : Int) (hk0 : 0 ≤ k0) (hk1 : k0 + MkT.cntT x ≤ 4611686018427387904) :
    Ret Tryz.prog 19 #[.agg cs.toArray, .int .i64 k0] w (fun _ => False) fun v _ => ∃ r, v = .int .i64 r ∧ Held (MkT.hdT x k0) k0 (MkT.cntT x) r := by
  refine enter Tryz.func19 rfl rfl rfl ?_
  have hK1 := hx
  obtain ⟨v1, rfl, hr1, hs1⟩ := hx
  obtain ⟨A1, c1, rfl, hc1, hm1⟩ := hs1.form
  have hcn : MkT.cntT x = cntL x.Rows := rfl
  refine CW.seq (CW.reg ?_)
  refine WL.box rfl rfl rfl rfl rfl fun b1 w1 hEb1 hbb1 hBb1 => ?_
  refine WL.ev rfl rfl (Ev.as rfl rfl) (WL.nil ?_)
  refine CW.seq (CW.reg ?_)
  refine WL.ev rfl rfl (Ev.fa rfl fo35_1 rfl) (WL.ev rfl rfl (Ev.ld rfl ag33 rfl (hBb1.cell rfl)) (WL.ev rfl rfl (Ev.mv rfl rfl) ?_))
  refine WL.call rfl rfl rfl rfl rfl ok78 rfl (heldIntS_spec _ x.Rows (hs1.ext hEb1) _ (by omega) (by omega)) ?_
  rintro _ w2 hEw2 ⟨r1, rfl, hr2⟩
  have := hr2.ge (by omega)
  refine WL.ev rfl rfl (Ev.as rfl rfl) (WL.nil ?_)
  refine CW.seq (CW.seq (CW.reg ?_))
  refine WL.ev rfl rfl (Ev.mv rfl rfl) (WL.ev rfl rfl (Ev.bin rfl rfl rfl Bin.lss) (WL.nil ?_))
  refine CW.condD rfl (fun h1 => ?_) (fun h1 => ?_)
  · skip
    refine CW.seq (CW.reg ?_)
    refine WL.ev rfl rfl (Ev.as rfl rfl) (WL.nil ?_)
    refine CW.ret ?_
    exact ⟨_, res1 rfl rfl rfl, (hEb1.trans hEw2), _, rfl, .inr ⟨(bindS rfl (Held.neg hr2 h1 (by omega))), rfl⟩⟩
  · skip
    refine CW.skip ?_
    refine CW.seq (CW.reg ?_)
    refine WL.ev rfl rfl (Ev.mv rfl rfl) (WL.ev rfl rfl (Ev.as rfl rfl) (WL.nil ?_))
    refine CW.ret ?_
    exact ⟨_, res1 rfl rfl rfl, (hEb1.trans hEw2), _, rfl, .inl ⟨(bindS rfl (Held.pos hr2 h1)), by have := Held.num hr2 h1; omega⟩⟩

theorem open9 : Opens Tryz.prog 9 ByteArray := Opens.str (by kernel_rfl) Tryz.underlying9
theorem open3 : Opens Tryz.prog 3 Int := Opens.int (by kernel_rfl) Tryz.underlying3
theorem open4 : Opens Tryz.prog 4 Bool := Opens.bool (by kernel_rfl) Tryz.underlying4
theorem open255 : Opens Tryz.prog 255 Attribute := by
  refine Opens.struct (k := 4) (by kernel_rfl) rfl Tryz.underlying255 fun H enc w base spare held n cs xs hl hx hf => ?_
  obtain ⟨c0, t0, rfl, hl0⟩ := lenS hl
  obtain ⟨c1, t1, rfl, hl1⟩ := lenS hl0
  obtain ⟨c2, t2, rfl, hl2⟩ := lenS hl1
  obtain ⟨c3, t3, rfl, hl3⟩ := lenS hl2
  obtain rfl := len0 hl3
  obtain ⟨a0, r0⟩ := Opens.fld (i := 0) (t := 9) (off := 0) (k := 1) open9 hf hx rfl rfl rfl rfl
  have q0 : rd (fun _ => True) w a0 [c0] := r0
  obtain ⟨e0, h0_0⟩ := q0
  simp only [List.cons.injEq, and_true] at e0
  obtain rfl := e0
  obtain ⟨a1, r1⟩ := Opens.fld (i := 1) (t := 3) (off := 1) (k := 1) open3 hf hx rfl rfl rfl rfl
  have q1 : rd (fun _ => True) w a1 [c1] := r1
  obtain ⟨e1, h1_0⟩ := q1
  simp only [List.cons.injEq, and_true] at e1
  obtain rfl := e1
  obtain ⟨a2, r2⟩ := Opens.fld (i := 2) (t := 3) (off := 2) (k := 1) open3 hf hx rfl rfl rfl rfl
  have q2 : rd (fun _ => True) w a2 [c2] := r2
  obtain ⟨e2, h2_0⟩ := q2
  simp only [List.cons.injEq, and_true] at e2
  obtain rfl := e2
  obtain ⟨a3, r3⟩ := Opens.fld (i := 3) (t := 4) (off := 3) (k := 1) open4 hf hx rfl rfl rfl rfl
  have q3 : rd (fun _ => True) w a3 [c3] := r3
  have e3 : [c3] = [.bool a3] := q3
  simp only [List.cons.injEq, and_true] at e3
  obtain rfl := e3
  exact ⟨⟨a0, a1, a2, a3⟩, rfl, h0_0, h1_0, h2_0⟩
theorem open170 : Opens Tryz.prog 170 (List Attribute) := Opens.slice (by kernel_rfl) Tryz.underlying170 open255
theorem open172 : Opens Tryz.prog 172 Symbol := by
  refine Opens.struct (k := 2) (by kernel_rfl) rfl Tryz.underlying172 fun H enc w base spare held n cs xs hl hx hf => ?_
  obtain ⟨c0, t0, rfl, hl0⟩ := lenS hl
  obtain ⟨c1, t1, rfl, hl1⟩ := lenS hl0
  obtain rfl := len0 hl1
  obtain ⟨a0, r0⟩ := Opens.fld (i := 0) (t := 9) (off := 0) (k := 1) open9 hf hx rfl rfl rfl rfl
  have q0 : rd (fun _ => True) w a0 [c0] := r0
  obtain ⟨e0, h0_0⟩ := q0
  simp only [List.cons.injEq, and_true] at e0
  obtain rfl := e0
  obtain ⟨a1, r1⟩ := Opens.fld (i := 1) (t := 170) (off := 1) (k := 1) open170 hf hx rfl rfl rfl rfl
  have q1 : rd (fun _ => True) w a1 [c1] := r1
  obtain ⟨v1_0, e1, s1_0⟩ := q1
  simp only [List.cons.injEq, and_true] at e1
  obtain rfl := e1
  exact ⟨⟨a0, a1⟩, _, rfl, h0_0, s1_0⟩
theorem open22 : Opens Tryz.prog 22 (List Symbol) := Opens.slice (by kernel_rfl) Tryz.underlying22 open172
theorem open26 : Opens Tryz.prog 26 (List ByteArray) := Opens.slice (by kernel_rfl) Tryz.underlying26 open9
theorem open174 : Opens Tryz.prog 174 Occurrence := by
  refine Opens.struct (k := 2) (by kernel_rfl) rfl Tryz.underlying174 fun H enc w base spare held n cs xs hl hx hf => ?_
  obtain ⟨c0, t0, rfl, hl0⟩ := lenS hl
  obtain ⟨c1, t1, rfl, hl1⟩ := lenS hl0
  obtain rfl := len0 hl1
  obtain ⟨a0, r0⟩ := Opens.fld (i := 0) (t := 3) (off := 0) (k := 1) open3 hf hx rfl rfl rfl rfl
  have q0 : rd (fun _ => True) w a0 [c0] := r0
  obtain ⟨e0, h0_0⟩ := q0
  simp only [List.cons.injEq, and_true] at e0
  obtain rfl := e0
  obtain ⟨a1, r1⟩ := Opens.fld (i := 1) (t := 9) (off := 1) (k := 1) open9 hf hx rfl rfl rfl rfl
  have q1 : rd (fun _ => True) w a1 [c1] := r1
  obtain ⟨e1, h1_0⟩ := q1
  simp only [List.cons.injEq, and_true] at e1
  obtain rfl := e1
  exact ⟨⟨a0, a1⟩, rfl, h0_0, h1_0⟩
theorem openN177 : ∀ N, OpensF Tryz.prog 177 Expr N
  | 0 => OpensF.zero (k := 7) (by kernel_rfl) rfl
  | N + 1 => by
    have o175 : OpensF Tryz.prog 175 (List Expr) N := OpensF.slice (by kernel_rfl) Tryz.underlying175 (openN177 N)
    refine OpensF.struct (k := 7) (by kernel_rfl) rfl Tryz.underlying177 fun H enc w base spare held n cs xs hN hl hx hf => ?_
    obtain ⟨c0, t0, rfl, hl0⟩ := lenS hl
    obtain ⟨c1, t1, rfl, hl1⟩ := lenS hl0
    obtain ⟨c2, t2, rfl, hl2⟩ := lenS hl1
    obtain ⟨c3, t3, rfl, hl3⟩ := lenS hl2
    obtain ⟨c4, t4, rfl, hl4⟩ := lenS hl3
    obtain ⟨c5, t5, rfl, hl5⟩ := lenS hl4
    obtain ⟨c6, t6, rfl, hl6⟩ := lenS hl5
    obtain rfl := len0 hl6
    obtain ⟨a0, r0⟩ := OpensF.fld (i := 0) (t := 3) (off := 0) (k := 1) open3.toF hN hf hx rfl rfl rfl rfl
    have q0 : rd (fun _ => True) w a0 [c0] := r0
    obtain ⟨e0, h0_0⟩ := q0
    simp only [List.cons.injEq, and_true] at e0
    obtain rfl := e0
    obtain ⟨a1, r1⟩ := OpensF.fld (i := 1) (t := 3) (off := 1) (k := 1) open3.toF hN hf hx rfl rfl rfl rfl
    have q1 : rd (fun _ => True) w a1 [c1] := r1
    obtain ⟨e1, h1_0⟩ := q1
    simp only [List.cons.injEq, and_true] at e1
    obtain rfl := e1
    obtain ⟨a2, r2⟩ := OpensF.fld (i := 2) (t := 3) (off := 2) (k := 1) open3.toF hN hf hx rfl rfl rfl rfl
    have q2 : rd (fun _ => True) w a2 [c2] := r2
    obtain ⟨e2, h2_0⟩ := q2
    simp only [List.cons.injEq, and_true] at e2
    obtain rfl := e2
    obtain ⟨a3, r3⟩ := OpensF.fld (i := 3) (t := 3) (off := 3) (k := 1) open3.toF hN hf hx rfl rfl rfl rfl
    have q3 : rd (fun _ => True) w a3 [c3] := r3
    obtain ⟨e3, h3_0⟩ := q3
    simp only [List.cons.injEq, and_true] at e3
    obtain rfl := e3
    obtain ⟨a4, r4⟩ := OpensF.fld (i := 4) (t := 9) (off := 4) (k := 1) open9.toF hN hf hx rfl rfl rfl rfl
    have q4 : rd (fun _ => True) w a4 [c4] := r4
    obtain ⟨e4, h4_0⟩ := q4
    simp only [List.cons.injEq, and_true] at e4
    obtain rfl := e4
    obtain ⟨a5, r5⟩ := OpensF.fld (i := 5) (t := 9) (off := 5) (k := 1) open9.toF hN hf hx rfl rfl rfl rfl
    have q5 : rd (fun _ => True) w a5 [c5] := r5
    obtain ⟨e5, h5_0⟩ := q5
    simp only [List.cons.injEq, and_true] at e5
    obtain rfl := e5
    obtain ⟨a6, r6⟩ := OpensF.fld (i := 6) (t := 175) (off := 6) (k := 1) o175 hN hf hx rfl rfl rfl rfl
    have q6 : rd (fun _ => True) w a6 [c6] := r6
    obtain ⟨v6_0, e6, s6_0⟩ := q6
    simp only [List.cons.injEq, and_true] at e6
    obtain rfl := e6
    exact ⟨⟨a0, a1, a2, a3, a4, a5, a6⟩, Expr_rd.2 ⟨_, rfl, h0_0, h1_0, h2_0, h3_0, h4_0, h5_0, s6_0⟩⟩
theorem open177 : Opens Tryz.prog 177 Expr := Opens.ofF openN177
theorem open179 : Opens Tryz.prog 179 Equation := by
  refine Opens.struct (k := 9) (by kernel_rfl) rfl Tryz.underlying179 fun H enc w base spare held n cs xs hl hx hf => ?_
  obtain ⟨c0, t0, rfl, hl0⟩ := lenS hl
  obtain ⟨c1, t1, rfl, hl1⟩ := lenS hl0
  obtain ⟨c2, t2, rfl, hl2⟩ := lenS hl1
  obtain ⟨c3, t3, rfl, hl3⟩ := lenS hl2
  obtain ⟨c4, t4, rfl, hl4⟩ := lenS hl3
  obtain ⟨c5, t5, rfl, hl5⟩ := lenS hl4
  obtain ⟨c6, t6, rfl, hl6⟩ := lenS hl5
  obtain ⟨c7, t7, rfl, hl7⟩ := lenS hl6
  obtain ⟨c8, t8, rfl, hl8⟩ := lenS hl7
  obtain rfl := len0 hl8
  obtain ⟨a0, r0⟩ := Opens.fld (i := 0) (t := 174) (off := 0) (k := 2) open174 hf hx rfl rfl rfl rfl
  have q0 : rd (fun _ => True) w a0 [c0, c1] := r0
  obtain ⟨e0, h0_0, h0_1⟩ := q0
  simp only [List.cons.injEq, and_true] at e0
  obtain ⟨rfl, rfl⟩ := e0
  obtain ⟨a1, r1⟩ := Opens.fld (i := 1) (t := 177) (off := 2) (k := 7) open177 hf hx rfl rfl rfl rfl
  have q1 : rd (fun _ => True) w a1 [c2, c3, c4, c5, c6, c7, c8] := r1
  obtain ⟨v1_6, e1, h1_0, h1_1, h1_2, h1_3, h1_4, h1_5, s1_6⟩ := Expr_rd.1 q1
  simp only [List.cons.injEq, and_true] at e1
  obtain ⟨rfl, rfl, rfl, rfl, rfl, rfl, rfl⟩ := e1
  exact ⟨⟨a0, a1⟩, _, rfl, h0_0, h0_1, h1_0, h1_1, h1_2, h1_3, h1_4, h1_5, s1_6⟩
theorem open27 : Opens Tryz.prog 27 (List Equation) := Opens.slice (by kernel_rfl) Tryz.underlying27 open179
theorem open182 : Opens Tryz.prog 182 Contribution := by
  refine Opens.struct (k := 16) (by kernel_rfl) rfl Tryz.underlying182 fun H enc w base spare held n cs xs hl hx hf => ?_
  obtain ⟨c0, t0, rfl, hl0⟩ := lenS hl
  obtain ⟨c1, t1, rfl, hl1⟩ := lenS hl0
  obtain ⟨c2, t2, rfl, hl2⟩ := lenS hl1
  obtain ⟨c3, t3, rfl, hl3⟩ := lenS hl2
  obtain ⟨c4, t4, rfl, hl4⟩ := lenS hl3
  obtain ⟨c5, t5, rfl, hl5⟩ := lenS hl4
  obtain ⟨c6, t6, rfl, hl6⟩ := lenS hl5
  obtain ⟨c7, t7, rfl, hl7⟩ := lenS hl6
  obtain ⟨c8, t8, rfl, hl8⟩ := lenS hl7
  obtain ⟨c9, t9, rfl, hl9⟩ := lenS hl8
  obtain ⟨c10, t10, rfl, hl10⟩ := lenS hl9
  obtain ⟨c11, t11, rfl, hl11⟩ := lenS hl10
  obtain ⟨c12, t12, rfl, hl12⟩ := lenS hl11
  obtain ⟨c13, t13, rfl, hl13⟩ := lenS hl12
  obtain ⟨c14, t14, rfl, hl14⟩ := lenS hl13
  obtain ⟨c15, t15, rfl, hl15⟩ := lenS hl14
  obtain rfl := len0 hl15
  obtain ⟨a0, r0⟩ := Opens.fld (i := 0) (t := 9) (off := 0) (k := 1) open9 hf hx rfl rfl rfl rfl
  have q0 : rd (fun _ => True) w a0 [c0] := r0
  obtain ⟨e0, h0_0⟩ := q0
  simp only [List.cons.injEq, and_true] at e0
  obtain rfl := e0
  obtain ⟨a1, r1⟩ := Opens.fld (i := 1) (t := 9) (off := 1) (k := 1) open9 hf hx rfl rfl rfl rfl
  have q1 : rd (fun _ => True) w a1 [c1] := r1
  obtain ⟨e1, h1_0⟩ := q1
  simp only [List.cons.injEq, and_true] at e1
  obtain rfl := e1
  obtain ⟨a2, r2⟩ := Opens.fld (i := 2) (t := 177) (off := 2) (k := 7) open177 hf hx rfl rfl rfl rfl
  have q2 : rd (fun _ => True) w a2 [c2, c3, c4, c5, c6, c7, c8] := r2
  obtain ⟨v2_6, e2, h2_0, h2_1, h2_2, h2_3, h2_4, h2_5, s2_6⟩ := Expr_rd.1 q2
  simp only [List.cons.injEq, and_true] at e2
  obtain ⟨rfl, rfl, rfl, rfl, rfl, rfl, rfl⟩ := e2
  obtain ⟨a3, r3⟩ := Opens.fld (i := 3) (t := 177) (off := 9) (k := 7) open177 hf hx rfl rfl rfl rfl
  have q3 : rd (fun _ => True) w a3 [c9, c10, c11, c12, c13, c14, c15] := r3
  obtain ⟨v3_6, e3, h3_0, h3_1, h3_2, h3_3, h3_4, h3_5, s3_6⟩ := Expr_rd.1 q3
  simp only [List.cons.injEq, and_true] at e3
  obtain ⟨rfl, rfl, rfl, rfl, rfl, rfl, rfl⟩ := e3
  exact ⟨⟨a0, a1, a2, a3⟩, _, _, rfl, h0_0, h1_0, h2_0, h2_1, h2_2, h2_3, h2_4, h2_5, h3_0, h3_1, h3_2, h3_3, h3_4, h3_5, s2_6, s3_6⟩
theorem open28 : Opens Tryz.prog 28 (List Contribution) := Opens.slice (by kernel_rfl) Tryz.underlying28 open182
theorem open30 : Opens Tryz.prog 30 Rule := by
  refine Opens.struct (k := 6) (by kernel_rfl) rfl Tryz.underlying30 fun H enc w base spare held n cs xs hl hx hf => ?_
  obtain ⟨c0, t0, rfl, hl0⟩ := lenS hl
  obtain ⟨c1, t1, rfl, hl1⟩ := lenS hl0
  obtain ⟨c2, t2, rfl, hl2⟩ := lenS hl1
  obtain ⟨c3, t3, rfl, hl3⟩ := lenS hl2
  obtain ⟨c4, t4, rfl, hl4⟩ := lenS hl3
  obtain ⟨c5, t5, rfl, hl5⟩ := lenS hl4
  obtain rfl := len0 hl5
  obtain ⟨a0, r0⟩ := Opens.fld (i := 0) (t := 9) (off := 0) (k := 1) open9 hf hx rfl rfl rfl rfl
  have q0 : rd (fun _ => True) w a0 [c0] := r0
  obtain ⟨e0, h0_0⟩ := q0
  simp only [List.cons.injEq, and_true] at e0
  obtain rfl := e0
  obtain ⟨a1, r1⟩ := Opens.fld (i := 1) (t := 9) (off := 1) (k := 1) open9 hf hx rfl rfl rfl rfl
  have q1 : rd (fun _ => True) w a1 [c1] := r1
  obtain ⟨e1, h1_0⟩ := q1
  simp only [List.cons.injEq, and_true] at e1
  obtain rfl := e1
  obtain ⟨a2, r2⟩ := Opens.fld (i := 2) (t := 26) (off := 2) (k := 1) open26 hf hx rfl rfl rfl rfl
  have q2 : rd (fun _ => True) w a2 [c2] := r2
  obtain ⟨v2_0, e2, s2_0⟩ := q2
  simp only [List.cons.injEq, and_true] at e2
  obtain rfl := e2
  obtain ⟨a3, r3⟩ := Opens.fld (i := 3) (t := 4) (off := 3) (k := 1) open4 hf hx rfl rfl rfl rfl
  have q3 : rd (fun _ => True) w a3 [c3] := r3
  have e3 : [c3] = [.bool a3] := q3
  simp only [List.cons.injEq, and_true] at e3
  obtain rfl := e3
  obtain ⟨a4, r4⟩ := Opens.fld (i := 4) (t := 27) (off := 4) (k := 1) open27 hf hx rfl rfl rfl rfl
  have q4 : rd (fun _ => True) w a4 [c4] := r4
  obtain ⟨v4_0, e4, s4_0⟩ := q4
  simp only [List.cons.injEq, and_true] at e4
  obtain rfl := e4
  obtain ⟨a5, r5⟩ := Opens.fld (i := 5) (t := 28) (off := 5) (k := 1) open28 hf hx rfl rfl rfl rfl
  have q5 : rd (fun _ => True) w a5 [c5] := r5
  obtain ⟨v5_0, e5, s5_0⟩ := q5
  simp only [List.cons.injEq, and_true] at e5
  obtain rfl := e5
  exact ⟨⟨a0, a1, a2, a3, a4, a5⟩, _, _, _, rfl, h0_0, h1_0, s2_0, s4_0, s5_0⟩
theorem open23 : Opens Tryz.prog 23 (List Rule) := Opens.slice (by kernel_rfl) Tryz.underlying23 open30
theorem open25 : Opens Tryz.prog 25 Grammar := by
  refine Opens.struct (k := 2) (by kernel_rfl) rfl Tryz.underlying25 fun H enc w base spare held n cs xs hl hx hf => ?_
  obtain ⟨c0, t0, rfl, hl0⟩ := lenS hl
  obtain ⟨c1, t1, rfl, hl1⟩ := lenS hl0
  obtain rfl := len0 hl1
  obtain ⟨a0, r0⟩ := Opens.fld (i := 0) (t := 22) (off := 0) (k := 1) open22 hf hx rfl rfl rfl rfl
  have q0 : rd (fun _ => True) w a0 [c0] := r0
  obtain ⟨v0_0, e0, s0_0⟩ := q0
  simp only [List.cons.injEq, and_true] at e0
  obtain rfl := e0
  obtain ⟨a1, r1⟩ := Opens.fld (i := 1) (t := 23) (off := 1) (k := 1) open23 hf hx rfl rfl rfl rfl
  have q1 : rd (fun _ => True) w a1 [c1] := r1
  obtain ⟨v1_0, e1, s1_0⟩ := q1
  simp only [List.cons.injEq, and_true] at e1
  obtain rfl := e1
  exact ⟨⟨a0, a1⟩, _, _, rfl, s0_0, s1_0⟩
end Go.Proofs.YtonnooljidombaaGreat

