/- What the helpers of the laws do (sizes, copies, tests, marks): each lemma bears its conditions in its statement. -/
import Derived.Test.YtonnooljidombaaGreatRows
import Derived.Test.YtonnooljidombaaGreatEngD
import Derived.Test.YtonnooljidombaaGreatLift
set_option linter.unusedVariables false
set_option linter.unusedSimpArgs false
set_option linter.ambiguousOpen false
set_option linter.unusedSectionVars false
set_option linter.unnecessarySimpa false
set_option linter.unusedVariables false
set_option linter.unusedSimpArgs false
set_option maxRecDepth 100000
set_option maxHeartbeats 1000000
namespace Go.Proofs.YtonnooljidombaaGreat
open Go Go.E
open Go.E.Rep (rd)
open Go.E.Sep (own)
theorem ag4 : aggT Tryz.prog 4 = some false := by kernel_rfl
theorem ag22 : aggT Tryz.prog 22 = some false := by kernel_rfl
theorem ag23 : aggT Tryz.prog 23 = some false := by kernel_rfl
theorem ag27 : aggT Tryz.prog 27 = some false := by kernel_rfl
theorem ag28 : aggT Tryz.prog 28 = some false := by kernel_rfl
theorem ag30 : aggT Tryz.prog 30 = some true := by kernel_rfl
theorem ag118 : aggT Tryz.prog 118 = some false := by kernel_rfl
theorem ag121 : aggT Tryz.prog 121 = some true := by kernel_rfl
theorem ag129 : aggT Tryz.prog 129 = some true := by kernel_rfl
theorem ag170 : aggT Tryz.prog 170 = some false := by kernel_rfl
theorem ag172 : aggT Tryz.prog 172 = some true := by kernel_rfl
theorem ag174 : aggT Tryz.prog 174 = some true := by kernel_rfl
theorem ag175 : aggT Tryz.prog 175 = some false := by kernel_rfl
theorem ag177 : aggT Tryz.prog 177 = some true := by kernel_rfl
theorem ag179 : aggT Tryz.prog 179 = some true := by kernel_rfl
theorem ag182 : aggT Tryz.prog 182 = some true := by kernel_rfl
theorem ag186 : aggT Tryz.prog 186 = some true := by kernel_rfl
theorem ag200 : aggT Tryz.prog 200 = some true := by kernel_rfl
theorem ag255 : aggT Tryz.prog 255 = some true := by kernel_rfl
theorem sz4 : szT Tryz.prog 4 = some 1 := by kernel_rfl
theorem sz26 : szT Tryz.prog 26 = some 1 := by kernel_rfl
theorem sz30 : szT Tryz.prog 30 = some 6 := by kernel_rfl
theorem sz37 : szT Tryz.prog 37 = some 1 := by kernel_rfl
theorem sz38 : szT Tryz.prog 38 = some 1 := by kernel_rfl
theorem sz42 : szT Tryz.prog 42 = some 1 := by kernel_rfl
theorem sz43 : szT Tryz.prog 43 = some 1 := by kernel_rfl
theorem sz81 : szT Tryz.prog 81 = some 1 := by kernel_rfl
theorem sz118 : szT Tryz.prog 118 = some 1 := by kernel_rfl
theorem sz121 : szT Tryz.prog 121 = some 4 := by kernel_rfl
theorem sz172 : szT Tryz.prog 172 = some 2 := by kernel_rfl
theorem sz174 : szT Tryz.prog 174 = some 2 := by kernel_rfl
theorem sz177 : szT Tryz.prog 177 = some 7 := by kernel_rfl
theorem sz179 : szT Tryz.prog 179 = some 9 := by kernel_rfl
theorem sz182 : szT Tryz.prog 182 = some 16 := by kernel_rfl
theorem sz186 : szT Tryz.prog 186 = some 16 := by kernel_rfl
theorem sz200 : szT Tryz.prog 200 = some 2 := by kernel_rfl
theorem sz255 : szT Tryz.prog 255 = some 4 := by kernel_rfl
theorem by9 : byT Tryz.prog 9 = some 16 := by kernel_rfl
theorem by45 : byT Tryz.prog 45 = some 112 := by kernel_rfl
theorem by125 : byT Tryz.prog 125 = some 24 := by kernel_rfl
theorem by129 : byT Tryz.prog 129 = some 48 := by kernel_rfl
theorem by130 : byT Tryz.prog 130 = some 40 := by kernel_rfl
theorem by161 : byT Tryz.prog 161 = some 40 := by kernel_rfl
theorem by165 : byT Tryz.prog 165 = some 112 := by kernel_rfl
theorem by186 : byT Tryz.prog 186 = some 208 := by kernel_rfl
theorem ze9 : zeroT Tryz.prog 9 = some [.string ⟨#[]⟩] := by kernel_rfl
theorem ze40 : zeroT Tryz.prog 40 = some [.slice none 0 0, .slice none 0 0] := by kernel_rfl
theorem ze45 : zeroT Tryz.prog 45 = some [.string ⟨#[]⟩, .string ⟨#[]⟩, .slice none 0 0, .bool false, .slice none 0 0, .slice none 0 0] := by kernel_rfl
theorem ze125 : zeroT Tryz.prog 125 = some [.slice none 0 0] := by kernel_rfl
theorem ze129 : zeroT Tryz.prog 129 = some [.slice none 0 0, .slice none 0 0] := by kernel_rfl
theorem ze186 : zeroT Tryz.prog 186 = some [.string ⟨#[]⟩, .string ⟨#[]⟩, .int .i64 0, .int .i64 0, .int .i64 0, .int .i64 0, .string ⟨#[]⟩, .string ⟨#[]⟩, .slice none 0 0, .int .i64 0, .int .i64 0, .int .i64 0, .int .i64 0, .string ⟨#[]⟩, .string ⟨#[]⟩, .slice none 0 0] := by kernel_rfl
theorem el22 : elemT Tryz.prog 22 = some 172 := by kernel_rfl
theorem el23 : elemT Tryz.prog 23 = some 30 := by kernel_rfl
theorem el27 : elemT Tryz.prog 27 = some 179 := by kernel_rfl
theorem el28 : elemT Tryz.prog 28 = some 182 := by kernel_rfl
theorem el38 : elemT Tryz.prog 38 = some 45 := by kernel_rfl
theorem el43 : elemT Tryz.prog 43 = some 186 := by kernel_rfl
theorem el54 : elemT Tryz.prog 54 = some 118 := by kernel_rfl
theorem el55 : elemT Tryz.prog 55 = some 121 := by kernel_rfl
theorem el118 : elemT Tryz.prog 118 = some 200 := by kernel_rfl
theorem el170 : elemT Tryz.prog 170 = some 255 := by kernel_rfl
theorem el175 : elemT Tryz.prog 175 = some 177 := by kernel_rfl
theorem fo25_0 : fieldT Tryz.prog 25 0 = some 0 := by kernel_rfl
theorem fo25_1 : fieldT Tryz.prog 25 1 = some 1 := by kernel_rfl
theorem fo30_0 : fieldT Tryz.prog 30 0 = some 0 := by kernel_rfl
theorem fo30_1 : fieldT Tryz.prog 30 1 = some 1 := by kernel_rfl
theorem fo30_2 : fieldT Tryz.prog 30 2 = some 2 := by kernel_rfl
theorem fo30_3 : fieldT Tryz.prog 30 3 = some 3 := by kernel_rfl
theorem fo30_4 : fieldT Tryz.prog 30 4 = some 4 := by kernel_rfl
theorem fo30_5 : fieldT Tryz.prog 30 5 = some 5 := by kernel_rfl
theorem fo40_1 : fieldT Tryz.prog 40 1 = some 1 := by kernel_rfl
theorem fo45_0 : fieldT Tryz.prog 45 0 = some 0 := by kernel_rfl
theorem fo45_3 : fieldT Tryz.prog 45 3 = some 3 := by kernel_rfl
theorem fo45_5 : fieldT Tryz.prog 45 5 = some 5 := by kernel_rfl
theorem fo86_1 : fieldT Tryz.prog 86 1 = some 1 := by kernel_rfl
theorem fo86_3 : fieldT Tryz.prog 86 3 = some 3 := by kernel_rfl
theorem fo86_4 : fieldT Tryz.prog 86 4 = some 4 := by kernel_rfl
theorem fo121_0 : fieldT Tryz.prog 121 0 = some 0 := by kernel_rfl
theorem fo121_1 : fieldT Tryz.prog 121 1 = some 1 := by kernel_rfl
theorem fo121_2 : fieldT Tryz.prog 121 2 = some 2 := by kernel_rfl
theorem fo121_3 : fieldT Tryz.prog 121 3 = some 3 := by kernel_rfl
theorem fo156_1 : fieldT Tryz.prog 156 1 = some 1 := by kernel_rfl
theorem fo156_3 : fieldT Tryz.prog 156 3 = some 3 := by kernel_rfl
theorem fo172_0 : fieldT Tryz.prog 172 0 = some 0 := by kernel_rfl
theorem fo172_1 : fieldT Tryz.prog 172 1 = some 1 := by kernel_rfl
theorem fo174_0 : fieldT Tryz.prog 174 0 = some 0 := by kernel_rfl
theorem fo174_1 : fieldT Tryz.prog 174 1 = some 1 := by kernel_rfl
theorem fo177_0 : fieldT Tryz.prog 177 0 = some 0 := by kernel_rfl
theorem fo177_1 : fieldT Tryz.prog 177 1 = some 1 := by kernel_rfl
theorem fo177_2 : fieldT Tryz.prog 177 2 = some 2 := by kernel_rfl
theorem fo177_3 : fieldT Tryz.prog 177 3 = some 3 := by kernel_rfl
theorem fo177_4 : fieldT Tryz.prog 177 4 = some 4 := by kernel_rfl
theorem fo177_5 : fieldT Tryz.prog 177 5 = some 5 := by kernel_rfl
theorem fo177_6 : fieldT Tryz.prog 177 6 = some 6 := by kernel_rfl
theorem fo179_0 : fieldT Tryz.prog 179 0 = some 0 := by kernel_rfl
theorem fo179_1 : fieldT Tryz.prog 179 1 = some 2 := by kernel_rfl
theorem fo182_0 : fieldT Tryz.prog 182 0 = some 0 := by kernel_rfl
theorem fo182_1 : fieldT Tryz.prog 182 1 = some 1 := by kernel_rfl
theorem fo182_2 : fieldT Tryz.prog 182 2 = some 2 := by kernel_rfl
theorem fo182_3 : fieldT Tryz.prog 182 3 = some 9 := by kernel_rfl
theorem fo186_0 : fieldT Tryz.prog 186 0 = some 0 := by kernel_rfl
theorem fo186_1 : fieldT Tryz.prog 186 1 = some 1 := by kernel_rfl
theorem fo186_2 : fieldT Tryz.prog 186 2 = some 2 := by kernel_rfl
theorem fo186_3 : fieldT Tryz.prog 186 3 = some 9 := by kernel_rfl
theorem fo200_0 : fieldT Tryz.prog 200 0 = some 0 := by kernel_rfl
theorem fo200_1 : fieldT Tryz.prog 200 1 = some 1 := by kernel_rfl
theorem fo255_0 : fieldT Tryz.prog 255 0 = some 0 := by kernel_rfl
theorem fo255_1 : fieldT Tryz.prog 255 1 = some 1 := by kernel_rfl
theorem fo255_2 : fieldT Tryz.prog 255 2 = some 2 := by kernel_rfl
theorem fo255_3 : fieldT Tryz.prog 255 3 = some 3 := by kernel_rfl
theorem ok8 : callable Tryz.prog 8 = true := by kernel_rfl
theorem ok11 : callable Tryz.prog 11 = true := by kernel_rfl
theorem ok49 : callable Tryz.prog 49 = true := by kernel_rfl
theorem ok50 : callable Tryz.prog 50 = true := by kernel_rfl
theorem ok51 : callable Tryz.prog 51 = true := by kernel_rfl
theorem ok52 : callable Tryz.prog 52 = true := by kernel_rfl
theorem ok53 : callable Tryz.prog 53 = true := by kernel_rfl
theorem ok56 : callable Tryz.prog 56 = true := by kernel_rfl
theorem ok57 : callable Tryz.prog 57 = true := by kernel_rfl
theorem ok58 : callable Tryz.prog 58 = true := by kernel_rfl
theorem ok59 : callable Tryz.prog 59 = true := by kernel_rfl
theorem ok60 : callable Tryz.prog 60 = true := by kernel_rfl
theorem ok79 : callable Tryz.prog 79 = true := by kernel_rfl
theorem ok80 : callable Tryz.prog 80 = true := by kernel_rfl
theorem ok87 : callable Tryz.prog 87 = true := by kernel_rfl
theorem ok88 : callable Tryz.prog 88 = true := by kernel_rfl
theorem ok118 : callable Tryz.prog 118 = true := by kernel_rfl
theorem ok119 : callable Tryz.prog 119 = true := by kernel_rfl
theorem ok120 : callable Tryz.prog 120 = true := by kernel_rfl
theorem ok122 : callable Tryz.prog 122 = true := by kernel_rfl
theorem ok123 : callable Tryz.prog 123 = true := by kernel_rfl
theorem ok124 : callable Tryz.prog 124 = true := by kernel_rfl
theorem ok133 : callable Tryz.prog 133 = true := by kernel_rfl
theorem ok139 : callable Tryz.prog 139 = true := by kernel_rfl
theorem ok144 : callable Tryz.prog 144 = true := by kernel_rfl
theorem ok166 : callable Tryz.prog 166 = true := by kernel_rfl
theorem ok167 : callable Tryz.prog 167 = true := by kernel_rfl
theorem ok168 : callable Tryz.prog 168 = true := by kernel_rfl
theorem ok169 : callable Tryz.prog 169 = true := by kernel_rfl
theorem ok170 : callable Tryz.prog 170 = true := by kernel_rfl
theorem ok171 : callable Tryz.prog 171 = true := by kernel_rfl
theorem ok180 : callable Tryz.prog 180 = true := by kernel_rfl
theorem ok182 : callable Tryz.prog 182 = true := by kernel_rfl
theorem ok205 : callable Tryz.prog 205 = true := by kernel_rfl
theorem ok206 : callable Tryz.prog 206 = true := by kernel_rfl
theorem ok207 : callable Tryz.prog 207 = true := by kernel_rfl
theorem ok208 : callable Tryz.prog 208 = true := by kernel_rfl
theorem ok222 : callable Tryz.prog 222 = true := by kernel_rfl
theorem ok223 : callable Tryz.prog 223 = true := by kernel_rfl
theorem szAttribute_spec (w : World) {S : Nat → Prop} (x : Attribute) {cs : List Value} (hx : rd S w x cs) (left : Int) (h0 : 0 ≤ left) (h1 : left ≤ 1048576) :
    Ret Tryz.prog 205 #[.agg cs.toArray, .int .i64 left] w (fun _ => False) fun v _ => ∃ r, v = .int .i64 r ∧ (((Sz.szd x : Nat) : Int) ≤ left ∧ r = left - (Sz.szd x : Nat) ∨ left < (Sz.szd x : Nat) ∧ r = -1) := by
  refine enter Tryz.func205 rfl rfl rfl ?_
  have hK1 := hx
  obtain ⟨rfl, hr1, hr2, hr3⟩ := hx
  have hsz := Attribute_szd x
  refine Sreg ?_
  refine WL.box rfl rfl rfl rfl rfl fun b1 w1 hEb1 hbb1 hBb1 => ?_
  refine Wsn rfl rfl rfl rfl ?_
  refine Sreg ?_
  refine Wmv rfl rfl rfl rfl (Wfa rfl rfl rfl fo255_0 rfl (WL.ev rfl rfl (Ev.ld rfl ag9 rfl (hBb1.cell rfl)) (WL.ev rfl rfl (Ev.lenB rfl Tryz.underlying9 rfl) (WL.ev rfl rfl (Ev.bin rfl rfl rfl (Bin.sub (by omega))) (Wsn rfl rfl rfl rfl ?_)))))
  refine SSr ?_
  refine Wmv rfl rfl rfl rfl (WL.ev rfl rfl (Ev.bin rfl rfl rfl Bin.lss) (WL.nil ?_))
  refine CW.condD rfl (fun h1 => ?_) (fun h1 => ?_)
  · refine Sreg ?_
    refine Wsn rfl rfl rfl rfl ?_
    refine CW.ret ?_
    refine ⟨_, res1 rfl rfl rfl, hEb1, _, rfl, ?_⟩
    try simp only [szfold] at *
    first | omega | (right; exact ⟨by omega, by first | rfl | trivial⟩)
  · refine CW.skip ?_
    refine Sreg ?_
    refine Wmv rfl rfl rfl rfl (Wsn rfl rfl rfl rfl ?_)
    refine CW.ret ?_
    refine ⟨_, res1 rfl rfl rfl, hEb1, _, rfl, ?_⟩
    try simp only [szfold] at *
    first | omega | (right; exact ⟨by omega, by first | rfl | trivial⟩)

theorem szAttributeS_spec (w : World) {S : Nat → Prop} (x : List Attribute) {z : Value} (hx : rdS S w x z) (left : Int) (h0 : 0 ≤ left) (h1 : left ≤ 1048576) :
    Ret Tryz.prog 166 #[z, .int .i64 left] w (fun _ => False) fun v _ => ∃ r, v = .int .i64 r ∧ (((Sz.szd x : Nat) : Int) ≤ left ∧ r = left - (Sz.szd x : Nat) ∨ left < (Sz.szd x : Nat) ∧ r = -1) := by
  refine enter Tryz.func166 rfl rfl rfl ?_
  obtain ⟨A1, c1, rfl, hc1, hm1⟩ := hx.form
  have hl1 : x.length ≤ 9223372036854775807 := Nat.le_trans hc1 hm1
  have hsz : Sz.szd x = szL x := rfl
  have hlen := szL_length x
  refine Sreg ?_
  refine Wsn rfl rfl rfl rfl ?_
  refine Sreg ?_
  refine Wmv rfl rfl rfl rfl (Wmv rfl rfl rfl rfl (WL.ev rfl rfl (Ev.lenS rfl el170 rfl) (WL.ev rfl rfl (Ev.bin rfl rfl rfl (Bin.sub (by omega))) (Wsn rfl rfl rfl rfl ?_))))
  refine SSr ?_
  refine Wmv rfl rfl rfl rfl (WL.ev rfl rfl (Ev.bin rfl rfl rfl Bin.lss) (WL.nil ?_))
  refine CW.condD rfl (fun h1 => ?_) (fun h1 => ?_)
  · refine Sreg ?_
    refine Wsn rfl rfl rfl rfl ?_
    refine CW.ret ?_
    refine ⟨_, res1 rfl rfl rfl, (Ext.refl _), _, rfl, ?_⟩
    try have hall := szL_take_all (x := x) (k := k) (by omega)
    try simp only [szfold] at *
    first | omega | (right; exact ⟨by omega, by first | rfl | trivial⟩)
  · refine CW.skip ?_
    refine SSr ?_
    refine Wsn rfl rfl rfl rfl ?_
    refine CW.block (CW.loop (α := Nat × Int) (fun q => [(0, .slice A1 x.length c1), (1, .int .i64 q.2), (5, .int .i64 (q.1 : Int))]) (fun q wr => Ext w wr ∧ q.1 ≤ x.length ∧ 0 ≤ q.2 ∧ q.2 + x.length + szL (x.take q.1) = left + q.1) (fun q => x.length - q.1) (0, left - x.length) ⟨rfl, rfl, rfl, trivial⟩ ⟨Ext.refl _, by simp, by simp only; omega, by simp [szL]⟩ ?_)
    rintro ⟨k, l⟩ σ wr1 ⟨hEwr1, hk, hl0, hle⟩
    simp only at hk hl0 hle
    have hmn0 := szL_take_le x k
    refine SSr ?_
    refine Wmv rfl rfl rfl rfl (Wmv rfl rfl rfl rfl (WL.ev rfl rfl (Ev.lenS rfl el170 rfl) (WL.ev rfl rfl (Ev.bin rfl rfl rfl Bin.lss) (WL.nil ?_))))
    refine CW.condD rfl (fun h2 => ?_) (fun h2 => ?_)
    · refine CW.skip ?_
      refine CW.seq (CW.block (Sreg ?_))
      refine Wmv rfl rfl rfl rfl (Wmv rfl rfl rfl rfl ?_)
      obtain ⟨xe1, be1, oe1, cse1, hxe1, hAe1, hSe1, hre1, hAte1⟩ := rdS.el hx (i := k) (by omega)
      have hK1 := hre1
      obtain ⟨rfl, hr1, hr2, hr3⟩ := hre1
      refine WL.ev rfl rfl (Ev.ixA rfl el170 sz255 rfl hAe1 rfl (by omega)) (WL.ev rfl rfl (Ev.lda rfl ag255 sz255 rfl (hAte1.ext hEwr1) rfl) (Wmv rfl rfl rfl rfl ?_))
      refine WL.call rfl rfl rfl rfl rfl ok205 rfl (szAttribute_spec _ xe1 (rd_ext hK1 hEwr1) _ (by omega) (by omega)) ?_
      rintro _ w1 hEw1 ⟨r1, rfl, hr4⟩
      have hq1 := Attribute_szd xe1
      refine Wsn rfl rfl rfl rfl ?_
      refine Sreg ?_
      refine Wmv rfl rfl rfl rfl (WL.ev rfl rfl (Ev.bin rfl rfl rfl Bin.lss) (WL.nil ?_))
      refine CW.condD rfl (fun h3 => ?_) (fun h3 => ?_)
      · refine Sreg ?_
        refine Wsn rfl rfl rfl rfl ?_
        refine CW.ret ?_
        refine ⟨_, res1 rfl rfl rfl, (hEwr1.trans hEw1), _, rfl, ?_⟩
        have htk := szL_take_succ hxe1
        have hmn := szL_take_le x (k + 1)
        try simp only [szfold] at *
        first | omega | (right; exact ⟨by omega, by first | rfl | trivial⟩)
      · refine CW.skip ?_
        refine CW.reg ?_
        refine Wmv rfl rfl rfl rfl (WL.ev rfl rfl (Ev.bin rfl rfl rfl (Bin.add (by omega))) (Wsn rfl rfl rfl rfl ?_))
        have htk := szL_take_succ hxe1
        have hmn := szL_take_le x (k + 1)
        exact ⟨(k + 1, r1), ⟨rfl, rfl, rfl, trivial⟩, ⟨(hEwr1.trans hEw1), by simp only; omega, by simp only; omega, by simp only; omega⟩, by simp only; omega⟩
    · refine CW.exit ?_
      refine Sreg ?_
      refine Wmv rfl rfl rfl rfl (Wsn rfl rfl rfl rfl ?_)
      refine CW.ret ?_
      refine ⟨_, res1 rfl rfl rfl, hEwr1, _, rfl, ?_⟩
      try have hall := szL_take_all (x := x) (k := k) (by omega)
      try simp only [szfold] at *
      first | omega | (right; exact ⟨by omega, by first | rfl | trivial⟩)

theorem szSymbol_spec (w : World) {S : Nat → Prop} (x : Symbol) {cs : List Value} (hx : rd S w x cs) (left : Int) (h0 : 0 ≤ left) (h1 : left ≤ 1048576) :
    Ret Tryz.prog 118 #[.agg cs.toArray, .int .i64 left] w (fun _ => False) fun v _ => ∃ r, v = .int .i64 r ∧ (((Sz.szd x : Nat) : Int) ≤ left ∧ r = left - (Sz.szd x : Nat) ∨ left < (Sz.szd x : Nat) ∧ r = -1) := by
  refine enter Tryz.func118 rfl rfl rfl ?_
  have hK1 := hx
  obtain ⟨v1, rfl, hr1, hs1⟩ := hx
  obtain ⟨A1, c1, rfl, hc1, hm1⟩ := hs1.form
  have hsz := Symbol_szd x
  refine Sreg ?_
  refine WL.box rfl rfl rfl rfl rfl fun b1 w1 hEb1 hbb1 hBb1 => ?_
  refine Wsn rfl rfl rfl rfl ?_
  refine Sreg ?_
  refine Wmv rfl rfl rfl rfl (Wfa rfl rfl rfl fo172_0 rfl (WL.ev rfl rfl (Ev.ld rfl ag9 rfl (hBb1.cell rfl)) (WL.ev rfl rfl (Ev.lenB rfl Tryz.underlying9 rfl) (WL.ev rfl rfl (Ev.bin rfl rfl rfl (Bin.sub (by omega))) (Wsn rfl rfl rfl rfl ?_)))))
  refine SSr ?_
  refine Wmv rfl rfl rfl rfl (WL.ev rfl rfl (Ev.bin rfl rfl rfl Bin.lss) (WL.nil ?_))
  refine CW.condD rfl (fun h1 => ?_) (fun h1 => ?_)
  · refine Sreg ?_
    refine Wsn rfl rfl rfl rfl ?_
    refine CW.ret ?_
    refine ⟨_, res1 rfl rfl rfl, hEb1, _, rfl, ?_⟩
    try simp only [szfold] at *
    first | omega | (right; exact ⟨by omega, by first | rfl | trivial⟩)
  · refine CW.skip ?_
    refine Sreg ?_
    refine Wfa rfl rfl rfl fo172_1 rfl (WL.ev rfl rfl (Ev.ld rfl ag170 rfl (hBb1.cell rfl)) (Wmv rfl rfl rfl rfl ?_))
    refine WL.call rfl rfl rfl rfl rfl ok166 rfl (szAttributeS_spec _ x.Attributes (hs1.ext hEb1) _ (by omega) (by omega)) ?_
    rintro _ w2 hEw2 ⟨r1, rfl, hr2⟩
    have hq1 := szfold x.Attributes
    refine Wsn rfl rfl rfl rfl ?_
    refine SSr ?_
    refine Wmv rfl rfl rfl rfl (WL.ev rfl rfl (Ev.bin rfl rfl rfl Bin.lss) (WL.nil ?_))
    refine CW.condD rfl (fun h2 => ?_) (fun h2 => ?_)
    · refine Sreg ?_
      refine Wsn rfl rfl rfl rfl ?_
      refine CW.ret ?_
      refine ⟨_, res1 rfl rfl rfl, (hEb1.trans hEw2), _, rfl, ?_⟩
      try simp only [szfold] at *
      first | omega | (right; exact ⟨by omega, by first | rfl | trivial⟩)
    · refine CW.skip ?_
      refine Sreg ?_
      refine Wmv rfl rfl rfl rfl (Wsn rfl rfl rfl rfl ?_)
      refine CW.ret ?_
      refine ⟨_, res1 rfl rfl rfl, (hEb1.trans hEw2), _, rfl, ?_⟩
      try simp only [szfold] at *
      first | omega | (right; exact ⟨by omega, by first | rfl | trivial⟩)

theorem szSymbolS_spec (w : World) {S : Nat → Prop} (x : List Symbol) {z : Value} (hx : rdS S w x z) (left : Int) (h0 : 0 ≤ left) (h1 : left ≤ 1048576) :
    Ret Tryz.prog 49 #[z, .int .i64 left] w (fun _ => False) fun v _ => ∃ r, v = .int .i64 r ∧ (((Sz.szd x : Nat) : Int) ≤ left ∧ r = left - (Sz.szd x : Nat) ∨ left < (Sz.szd x : Nat) ∧ r = -1) := by
  refine enter Tryz.func49 rfl rfl rfl ?_
  obtain ⟨A1, c1, rfl, hc1, hm1⟩ := hx.form
  have hl1 : x.length ≤ 9223372036854775807 := Nat.le_trans hc1 hm1
  have hsz : Sz.szd x = szL x := rfl
  have hlen := szL_length x
  refine Sreg ?_
  refine Wsn rfl rfl rfl rfl ?_
  refine Sreg ?_
  refine Wmv rfl rfl rfl rfl (Wmv rfl rfl rfl rfl (WL.ev rfl rfl (Ev.lenS rfl el22 rfl) (WL.ev rfl rfl (Ev.bin rfl rfl rfl (Bin.sub (by omega))) (Wsn rfl rfl rfl rfl ?_))))
  refine SSr ?_
  refine Wmv rfl rfl rfl rfl (WL.ev rfl rfl (Ev.bin rfl rfl rfl Bin.lss) (WL.nil ?_))
  refine CW.condD rfl (fun h1 => ?_) (fun h1 => ?_)
  · refine Sreg ?_
    refine Wsn rfl rfl rfl rfl ?_
    refine CW.ret ?_
    refine ⟨_, res1 rfl rfl rfl, (Ext.refl _), _, rfl, ?_⟩
    try have hall := szL_take_all (x := x) (k := k) (by omega)
    try simp only [szfold] at *
    first | omega | (right; exact ⟨by omega, by first | rfl | trivial⟩)
  · refine CW.skip ?_
    refine SSr ?_
    refine Wsn rfl rfl rfl rfl ?_
    refine CW.block (CW.loop (α := Nat × Int) (fun q => [(0, .slice A1 x.length c1), (1, .int .i64 q.2), (5, .int .i64 (q.1 : Int))]) (fun q wr => Ext w wr ∧ q.1 ≤ x.length ∧ 0 ≤ q.2 ∧ q.2 + x.length + szL (x.take q.1) = left + q.1) (fun q => x.length - q.1) (0, left - x.length) ⟨rfl, rfl, rfl, trivial⟩ ⟨Ext.refl _, by simp, by simp only; omega, by simp [szL]⟩ ?_)
    rintro ⟨k, l⟩ σ wr1 ⟨hEwr1, hk, hl0, hle⟩
    simp only at hk hl0 hle
    have hmn0 := szL_take_le x k
    refine SSr ?_
    refine Wmv rfl rfl rfl rfl (Wmv rfl rfl rfl rfl (WL.ev rfl rfl (Ev.lenS rfl el22 rfl) (WL.ev rfl rfl (Ev.bin rfl rfl rfl Bin.lss) (WL.nil ?_))))
    refine CW.condD rfl (fun h2 => ?_) (fun h2 => ?_)
    · refine CW.skip ?_
      refine CW.seq (CW.block (Sreg ?_))
      refine Wmv rfl rfl rfl rfl (Wmv rfl rfl rfl rfl ?_)
      obtain ⟨xe1, be1, oe1, cse1, hxe1, hAe1, hSe1, hre1, hAte1⟩ := rdS.el hx (i := k) (by omega)
      have hK1 := hre1
      obtain ⟨v1, rfl, hr1, hs1⟩ := hre1
      obtain ⟨A2, c2, rfl, hc2, hm2⟩ := hs1.form
      refine WL.ev rfl rfl (Ev.ixA rfl el22 sz172 rfl hAe1 rfl (by omega)) (WL.ev rfl rfl (Ev.lda rfl ag172 sz172 rfl (hAte1.ext hEwr1) rfl) (Wmv rfl rfl rfl rfl ?_))
      refine WL.call rfl rfl rfl rfl rfl ok118 rfl (szSymbol_spec _ xe1 (rd_ext hK1 hEwr1) _ (by omega) (by omega)) ?_
      rintro _ w1 hEw1 ⟨r1, rfl, hr2⟩
      have hq1 := Symbol_szd xe1
      refine Wsn rfl rfl rfl rfl ?_
      refine Sreg ?_
      refine Wmv rfl rfl rfl rfl (WL.ev rfl rfl (Ev.bin rfl rfl rfl Bin.lss) (WL.nil ?_))
      refine CW.condD rfl (fun h3 => ?_) (fun h3 => ?_)
      · refine Sreg ?_
        refine Wsn rfl rfl rfl rfl ?_
        refine CW.ret ?_
        refine ⟨_, res1 rfl rfl rfl, (hEwr1.trans hEw1), _, rfl, ?_⟩
        have htk := szL_take_succ hxe1
        have hmn := szL_take_le x (k + 1)
        try simp only [szfold] at *
        first | omega | (right; exact ⟨by omega, by first | rfl | trivial⟩)
      · refine CW.skip ?_
        refine CW.reg ?_
        refine Wmv rfl rfl rfl rfl (WL.ev rfl rfl (Ev.bin rfl rfl rfl (Bin.add (by omega))) (Wsn rfl rfl rfl rfl ?_))
        have htk := szL_take_succ hxe1
        have hmn := szL_take_le x (k + 1)
        exact ⟨(k + 1, r1), ⟨rfl, rfl, rfl, trivial⟩, ⟨(hEwr1.trans hEw1), by simp only; omega, by simp only; omega, by simp only; omega⟩, by simp only; omega⟩
    · refine CW.exit ?_
      refine Sreg ?_
      refine Wmv rfl rfl rfl rfl (Wsn rfl rfl rfl rfl ?_)
      refine CW.ret ?_
      refine ⟨_, res1 rfl rfl rfl, hEwr1, _, rfl, ?_⟩
      try have hall := szL_take_all (x := x) (k := k) (by omega)
      try simp only [szfold] at *
      first | omega | (right; exact ⟨by omega, by first | rfl | trivial⟩)

theorem szStringS_spec (w : World) {S : Nat → Prop} (x : List ByteArray) {z : Value} (hx : rdS S w x z) (left : Int) (h0 : 0 ≤ left) (h1 : left ≤ 1048576) :
    Ret Tryz.prog 51 #[z, .int .i64 left] w (fun _ => False) fun v _ => ∃ r, v = .int .i64 r ∧ (((Sz.szd x : Nat) : Int) ≤ left ∧ r = left - (Sz.szd x : Nat) ∨ left < (Sz.szd x : Nat) ∧ r = -1) := by
  refine enter Tryz.func51 rfl rfl rfl ?_
  obtain ⟨A1, c1, rfl, hc1, hm1⟩ := hx.form
  have hl1 : x.length ≤ 9223372036854775807 := Nat.le_trans hc1 hm1
  have hsz : Sz.szd x = szL x := rfl
  have hlen := szL_length x
  refine Sreg ?_
  refine Wsn rfl rfl rfl rfl ?_
  refine Sreg ?_
  refine Wmv rfl rfl rfl rfl (Wmv rfl rfl rfl rfl (WL.ev rfl rfl (Ev.lenS rfl el26 rfl) (WL.ev rfl rfl (Ev.bin rfl rfl rfl (Bin.sub (by omega))) (Wsn rfl rfl rfl rfl ?_))))
  refine SSr ?_
  refine Wmv rfl rfl rfl rfl (WL.ev rfl rfl (Ev.bin rfl rfl rfl Bin.lss) (WL.nil ?_))
  refine CW.condD rfl (fun h1 => ?_) (fun h1 => ?_)
  · refine Sreg ?_
    refine Wsn rfl rfl rfl rfl ?_
    refine CW.ret ?_
    refine ⟨_, res1 rfl rfl rfl, (Ext.refl _), _, rfl, ?_⟩
    try have hall := szL_take_all (x := x) (k := k) (by omega)
    try simp only [szfold] at *
    first | omega | (right; exact ⟨by omega, by first | rfl | trivial⟩)
  · refine CW.skip ?_
    refine SSr ?_
    refine Wsn rfl rfl rfl rfl ?_
    refine CW.block (CW.loop (α := Nat × Int) (fun q => [(0, .slice A1 x.length c1), (1, .int .i64 q.2), (5, .int .i64 (q.1 : Int))]) (fun q wr => Ext w wr ∧ q.1 ≤ x.length ∧ 0 ≤ q.2 ∧ q.2 + x.length + szL (x.take q.1) = left + q.1) (fun q => x.length - q.1) (0, left - x.length) ⟨rfl, rfl, rfl, trivial⟩ ⟨Ext.refl _, by simp, by simp only; omega, by simp [szL]⟩ ?_)
    rintro ⟨k, l⟩ σ wr1 ⟨hEwr1, hk, hl0, hle⟩
    simp only at hk hl0 hle
    have hmn0 := szL_take_le x k
    refine SSr ?_
    refine Wmv rfl rfl rfl rfl (Wmv rfl rfl rfl rfl (WL.ev rfl rfl (Ev.lenS rfl el26 rfl) (WL.ev rfl rfl (Ev.bin rfl rfl rfl Bin.lss) (WL.nil ?_))))
    refine CW.condD rfl (fun h2 => ?_) (fun h2 => ?_)
    · refine CW.skip ?_
      refine CW.seq (CW.block (Sreg ?_))
      refine Wmv rfl rfl rfl rfl (Wmv rfl rfl rfl rfl (Wmv rfl rfl rfl rfl ?_))
      obtain ⟨xe1, be1, oe1, cse1, hxe1, hAe1, hSe1, hre1, hAte1⟩ := rdS.el hx (i := k) (by omega)
      have hK1 := hre1
      obtain ⟨rfl, hr1⟩ := hre1
      refine WL.ev rfl rfl (Ev.ixA rfl el26 sz9 rfl hAe1 rfl (by omega)) (WL.ev rfl rfl (Ev.ld rfl ag9 rfl ((hAte1.ext hEwr1).cell0 rfl)) (WL.ev rfl rfl (Ev.lenB rfl Tryz.underlying9 rfl) (WL.ev rfl rfl (Ev.bin rfl rfl rfl (Bin.sub (by omega))) (Wsn rfl rfl rfl rfl ?_))))
      refine Sreg ?_
      refine Wmv rfl rfl rfl rfl (WL.ev rfl rfl (Ev.bin rfl rfl rfl Bin.lss) (WL.nil ?_))
      refine CW.condD rfl (fun h3 => ?_) (fun h3 => ?_)
      · refine Sreg ?_
        refine Wsn rfl rfl rfl rfl ?_
        refine CW.ret ?_
        refine ⟨_, res1 rfl rfl rfl, hEwr1, _, rfl, ?_⟩
        have htk := szL_take_succ hxe1
        have hmn := szL_take_le x (k + 1)
        have hsd : Sz.szd xe1 = xe1.size := rfl
        try simp only [szfold] at *
        first | omega | (right; exact ⟨by omega, by first | rfl | trivial⟩)
      · refine CW.skip ?_
        refine CW.reg ?_
        refine Wmv rfl rfl rfl rfl (WL.ev rfl rfl (Ev.bin rfl rfl rfl (Bin.add (by omega))) (Wsn rfl rfl rfl rfl ?_))
        have htk := szL_take_succ hxe1
        have hmn := szL_take_le x (k + 1)
        have hsd : Sz.szd xe1 = xe1.size := rfl
        exact ⟨(k + 1, l - xe1.size), ⟨rfl, rfl, rfl, trivial⟩, ⟨hEwr1, by simp only; omega, by simp only; omega, by simp only; omega⟩, by simp only; omega⟩
    · refine CW.exit ?_
      refine Sreg ?_
      refine Wmv rfl rfl rfl rfl (Wsn rfl rfl rfl rfl ?_)
      refine CW.ret ?_
      refine ⟨_, res1 rfl rfl rfl, hEwr1, _, rfl, ?_⟩
      try have hall := szL_take_all (x := x) (k := k) (by omega)
      try simp only [szfold] at *
      first | omega | (right; exact ⟨by omega, by first | rfl | trivial⟩)

theorem szOccurrence_spec (w : World) {S : Nat → Prop} (x : Occurrence) {cs : List Value} (hx : rd S w x cs) (left : Int) (h0 : 0 ≤ left) (h1 : left ≤ 1048576) :
    Ret Tryz.prog 167 #[.agg cs.toArray, .int .i64 left] w (fun _ => False) fun v _ => ∃ r, v = .int .i64 r ∧ (((Sz.szd x : Nat) : Int) ≤ left ∧ r = left - (Sz.szd x : Nat) ∨ left < (Sz.szd x : Nat) ∧ r = -1) := by
  refine enter Tryz.func167 rfl rfl rfl ?_
  have hK1 := hx
  obtain ⟨rfl, hr1, hr2⟩ := hx
  have hsz := Occurrence_szd x
  refine Sreg ?_
  refine WL.box rfl rfl rfl rfl rfl fun b1 w1 hEb1 hbb1 hBb1 => ?_
  refine Wsn rfl rfl rfl rfl ?_
  refine Sreg ?_
  refine Wmv rfl rfl rfl rfl (Wfa rfl rfl rfl fo174_1 rfl (WL.ev rfl rfl (Ev.ld rfl ag9 rfl (hBb1.cell rfl)) (WL.ev rfl rfl (Ev.lenB rfl Tryz.underlying9 rfl) (WL.ev rfl rfl (Ev.bin rfl rfl rfl (Bin.sub (by omega))) (Wsn rfl rfl rfl rfl ?_)))))
  refine SSr ?_
  refine Wmv rfl rfl rfl rfl (WL.ev rfl rfl (Ev.bin rfl rfl rfl Bin.lss) (WL.nil ?_))
  refine CW.condD rfl (fun h1 => ?_) (fun h1 => ?_)
  · refine Sreg ?_
    refine Wsn rfl rfl rfl rfl ?_
    refine CW.ret ?_
    refine ⟨_, res1 rfl rfl rfl, hEb1, _, rfl, ?_⟩
    try simp only [szfold] at *
    first | omega | (right; exact ⟨by omega, by first | rfl | trivial⟩)
  · refine CW.skip ?_
    refine Sreg ?_
    refine Wmv rfl rfl rfl rfl (Wsn rfl rfl rfl rfl ?_)
    refine CW.ret ?_
    refine ⟨_, res1 rfl rfl rfl, hEb1, _, rfl, ?_⟩
    try simp only [szfold] at *
    first | omega | (right; exact ⟨by omega, by first | rfl | trivial⟩)

theorem szExprS_step (w : World) {S : Nat → Prop} (x : List Expr) {z : Value} (hx : rdS S w x z) (left : Int) (h0 : 0 ≤ left) (h1 : left ≤ 1048576) (ih : ∀ x0 ∈ x, ∀ (w : World) {S : Nat → Prop} {cs : List Value} (hx : rd S w x0 cs) (left : Int) (h0 : 0 ≤ left) (h1 : left ≤ 1048576), Ret Tryz.prog 168 #[.agg cs.toArray, .int .i64 left] w (fun _ => False) fun v _ => ∃ r, v = .int .i64 r ∧ (((Sz.szd x0 : Nat) : Int) ≤ left ∧ r = left - (Sz.szd x0 : Nat) ∨ left < (Sz.szd x0 : Nat) ∧ r = -1)) :
    Ret Tryz.prog 206 #[z, .int .i64 left] w (fun _ => False) fun v _ => ∃ r, v = .int .i64 r ∧ (((Sz.szd x : Nat) : Int) ≤ left ∧ r = left - (Sz.szd x : Nat) ∨ left < (Sz.szd x : Nat) ∧ r = -1) := by
  refine enter Tryz.func206 rfl rfl rfl ?_
  obtain ⟨A1, c1, rfl, hc1, hm1⟩ := hx.form
  have hl1 : x.length ≤ 9223372036854775807 := Nat.le_trans hc1 hm1
  have hsz : Sz.szd x = szL x := rfl
  have hlen := szL_length x
  refine Sreg ?_
  refine Wsn rfl rfl rfl rfl ?_
  refine Sreg ?_
  refine Wmv rfl rfl rfl rfl (Wmv rfl rfl rfl rfl (WL.ev rfl rfl (Ev.lenS rfl el175 rfl) (WL.ev rfl rfl (Ev.bin rfl rfl rfl (Bin.sub (by omega))) (Wsn rfl rfl rfl rfl ?_))))
  refine SSr ?_
  refine Wmv rfl rfl rfl rfl (WL.ev rfl rfl (Ev.bin rfl rfl rfl Bin.lss) (WL.nil ?_))
  refine CW.condD rfl (fun h1 => ?_) (fun h1 => ?_)
  · refine Sreg ?_
    refine Wsn rfl rfl rfl rfl ?_
    refine CW.ret ?_
    refine ⟨_, res1 rfl rfl rfl, (Ext.refl _), _, rfl, ?_⟩
    try have hall := szL_take_all (x := x) (k := k) (by omega)
    try simp only [szfold] at *
    first | omega | (right; exact ⟨by omega, by first | rfl | trivial⟩)
  · refine CW.skip ?_
    refine SSr ?_
    refine Wsn rfl rfl rfl rfl ?_
    refine CW.block (CW.loop (α := Nat × Int) (fun q => [(0, .slice A1 x.length c1), (1, .int .i64 q.2), (5, .int .i64 (q.1 : Int))]) (fun q wr => Ext w wr ∧ q.1 ≤ x.length ∧ 0 ≤ q.2 ∧ q.2 + x.length + szL (x.take q.1) = left + q.1) (fun q => x.length - q.1) (0, left - x.length) ⟨rfl, rfl, rfl, trivial⟩ ⟨Ext.refl _, by simp, by simp only; omega, by simp [szL]⟩ ?_)
    rintro ⟨k, l⟩ σ wr1 ⟨hEwr1, hk, hl0, hle⟩
    simp only at hk hl0 hle
    have hmn0 := szL_take_le x k
    refine SSr ?_
    refine Wmv rfl rfl rfl rfl (Wmv rfl rfl rfl rfl (WL.ev rfl rfl (Ev.lenS rfl el175 rfl) (WL.ev rfl rfl (Ev.bin rfl rfl rfl Bin.lss) (WL.nil ?_))))
    refine CW.condD rfl (fun h2 => ?_) (fun h2 => ?_)
    · refine CW.skip ?_
      refine CW.seq (CW.block (Sreg ?_))
      refine Wmv rfl rfl rfl rfl (Wmv rfl rfl rfl rfl ?_)
      obtain ⟨xe1, be1, oe1, cse1, hxe1, hAe1, hSe1, hre1, hAte1⟩ := rdS.el hx (i := k) (by omega)
      have hK1 := hre1
      obtain ⟨v1, rfl, hr1, hr2, hr3, hr4, hr5, hr6, hs1⟩ := Expr_rd.1 hre1
      obtain ⟨A2, c2, rfl, hc2, hm2⟩ := hs1.form
      refine WL.ev rfl rfl (Ev.ixA rfl el175 sz177 rfl hAe1 rfl (by omega)) (WL.ev rfl rfl (Ev.lda rfl ag177 sz177 rfl (hAte1.ext hEwr1) rfl) (Wmv rfl rfl rfl rfl ?_))
      refine WL.call rfl rfl rfl rfl rfl ok168 rfl (ih xe1 (List.mem_of_getElem? hxe1) _ (rd_ext hK1 hEwr1) _ (by omega) (by omega)) ?_
      rintro _ w1 hEw1 ⟨r1, rfl, hr7⟩
      have hq1 := Expr_szd xe1
      refine Wsn rfl rfl rfl rfl ?_
      refine Sreg ?_
      refine Wmv rfl rfl rfl rfl (WL.ev rfl rfl (Ev.bin rfl rfl rfl Bin.lss) (WL.nil ?_))
      refine CW.condD rfl (fun h3 => ?_) (fun h3 => ?_)
      · refine Sreg ?_
        refine Wsn rfl rfl rfl rfl ?_
        refine CW.ret ?_
        refine ⟨_, res1 rfl rfl rfl, (hEwr1.trans hEw1), _, rfl, ?_⟩
        have htk := szL_take_succ hxe1
        have hmn := szL_take_le x (k + 1)
        try simp only [szfold] at *
        first | omega | (right; exact ⟨by omega, by first | rfl | trivial⟩)
      · refine CW.skip ?_
        refine CW.reg ?_
        refine Wmv rfl rfl rfl rfl (WL.ev rfl rfl (Ev.bin rfl rfl rfl (Bin.add (by omega))) (Wsn rfl rfl rfl rfl ?_))
        have htk := szL_take_succ hxe1
        have hmn := szL_take_le x (k + 1)
        exact ⟨(k + 1, r1), ⟨rfl, rfl, rfl, trivial⟩, ⟨(hEwr1.trans hEw1), by simp only; omega, by simp only; omega, by simp only; omega⟩, by simp only; omega⟩
    · refine CW.exit ?_
      refine Sreg ?_
      refine Wmv rfl rfl rfl rfl (Wsn rfl rfl rfl rfl ?_)
      refine CW.ret ?_
      refine ⟨_, res1 rfl rfl rfl, hEwr1, _, rfl, ?_⟩
      try have hall := szL_take_all (x := x) (k := k) (by omega)
      try simp only [szfold] at *
      first | omega | (right; exact ⟨by omega, by first | rfl | trivial⟩)

theorem szExpr_step (w : World) {S : Nat → Prop} (x : Expr) {cs : List Value} (hx : rd S w x cs) (left : Int) (h0 : 0 ≤ left) (h1 : left ≤ 1048576) (ih : ∀ x0 ∈ x.Args, ∀ (w : World) {S : Nat → Prop} {cs : List Value} (hx : rd S w x0 cs) (left : Int) (h0 : 0 ≤ left) (h1 : left ≤ 1048576), Ret Tryz.prog 168 #[.agg cs.toArray, .int .i64 left] w (fun _ => False) fun v _ => ∃ r, v = .int .i64 r ∧ (((Sz.szd x0 : Nat) : Int) ≤ left ∧ r = left - (Sz.szd x0 : Nat) ∨ left < (Sz.szd x0 : Nat) ∧ r = -1)) :
    Ret Tryz.prog 168 #[.agg cs.toArray, .int .i64 left] w (fun _ => False) fun v _ => ∃ r, v = .int .i64 r ∧ (((Sz.szd x : Nat) : Int) ≤ left ∧ r = left - (Sz.szd x : Nat) ∨ left < (Sz.szd x : Nat) ∧ r = -1) := by
  refine enter Tryz.func168 rfl rfl rfl ?_
  have hK1 := hx
  obtain ⟨v1, rfl, hr1, hr2, hr3, hr4, hr5, hr6, hs1⟩ := Expr_rd.1 hx
  obtain ⟨A1, c1, rfl, hc1, hm1⟩ := hs1.form
  have hsz := Expr_szd x
  refine Sreg ?_
  refine WL.box rfl rfl rfl rfl rfl fun b1 w1 hEb1 hbb1 hBb1 => ?_
  refine Wsn rfl rfl rfl rfl ?_
  refine Sreg ?_
  refine Wmv rfl rfl rfl rfl (Wfa rfl rfl rfl fo177_4 rfl (WL.ev rfl rfl (Ev.ld rfl ag9 rfl (hBb1.cell rfl)) (WL.ev rfl rfl (Ev.lenB rfl Tryz.underlying9 rfl) (WL.ev rfl rfl (Ev.bin rfl rfl rfl (Bin.sub (by omega))) (Wsn rfl rfl rfl rfl ?_)))))
  refine SSr ?_
  refine Wmv rfl rfl rfl rfl (WL.ev rfl rfl (Ev.bin rfl rfl rfl Bin.lss) (WL.nil ?_))
  refine CW.condD rfl (fun h1 => ?_) (fun h1 => ?_)
  · refine Sreg ?_
    refine Wsn rfl rfl rfl rfl ?_
    refine CW.ret ?_
    refine ⟨_, res1 rfl rfl rfl, hEb1, _, rfl, ?_⟩
    try simp only [szfold] at *
    first | omega | (right; exact ⟨by omega, by first | rfl | trivial⟩)
  · refine CW.skip ?_
    refine Sreg ?_
    refine Wmv rfl rfl rfl rfl (Wfa rfl rfl rfl fo177_5 rfl (WL.ev rfl rfl (Ev.ld rfl ag9 rfl (hBb1.cell rfl)) (WL.ev rfl rfl (Ev.lenB rfl Tryz.underlying9 rfl) (WL.ev rfl rfl (Ev.bin rfl rfl rfl (Bin.sub (by omega))) (Wsn rfl rfl rfl rfl ?_)))))
    refine SSr ?_
    refine Wmv rfl rfl rfl rfl (WL.ev rfl rfl (Ev.bin rfl rfl rfl Bin.lss) (WL.nil ?_))
    refine CW.condD rfl (fun h2 => ?_) (fun h2 => ?_)
    · refine Sreg ?_
      refine Wsn rfl rfl rfl rfl ?_
      refine CW.ret ?_
      refine ⟨_, res1 rfl rfl rfl, hEb1, _, rfl, ?_⟩
      try simp only [szfold] at *
      first | omega | (right; exact ⟨by omega, by first | rfl | trivial⟩)
    · refine CW.skip ?_
      refine Sreg ?_
      refine Wfa rfl rfl rfl fo177_6 rfl (WL.ev rfl rfl (Ev.ld rfl ag175 rfl (hBb1.cell rfl)) (Wmv rfl rfl rfl rfl ?_))
      refine WL.call rfl rfl rfl rfl rfl ok206 rfl (szExprS_step _ x.Args (hs1.ext hEb1) _ (by omega) (by omega) ih) ?_
      rintro _ w2 hEw2 ⟨r1, rfl, hr7⟩
      have hq1 := szfold x.Args
      refine Wsn rfl rfl rfl rfl ?_
      refine SSr ?_
      refine Wmv rfl rfl rfl rfl (WL.ev rfl rfl (Ev.bin rfl rfl rfl Bin.lss) (WL.nil ?_))
      refine CW.condD rfl (fun h3 => ?_) (fun h3 => ?_)
      · refine Sreg ?_
        refine Wsn rfl rfl rfl rfl ?_
        refine CW.ret ?_
        refine ⟨_, res1 rfl rfl rfl, (hEb1.trans hEw2), _, rfl, ?_⟩
        try simp only [szfold] at *
        first | omega | (right; exact ⟨by omega, by first | rfl | trivial⟩)
      · refine CW.skip ?_
        refine Sreg ?_
        refine Wmv rfl rfl rfl rfl (Wsn rfl rfl rfl rfl ?_)
        refine CW.ret ?_
        refine ⟨_, res1 rfl rfl rfl, (hEb1.trans hEw2), _, rfl, ?_⟩
        try simp only [szfold] at *
        first | omega | (right; exact ⟨by omega, by first | rfl | trivial⟩)

theorem szExpr_spec (w : World) {S : Nat → Prop} (x : Expr) {cs : List Value} (hx : rd S w x cs) (left : Int) (h0 : 0 ≤ left) (h1 : left ≤ 1048576) :
    Ret Tryz.prog 168 #[.agg cs.toArray, .int .i64 left] w (fun _ => False) fun v _ => ∃ r, v = .int .i64 r ∧ (((Sz.szd x : Nat) : Int) ≤ left ∧ r = left - (Sz.szd x : Nat) ∨ left < (Sz.szd x : Nat) ∧ r = -1) :=
  Expr_ind (P := fun x => ∀ (w : World) {S : Nat → Prop} {cs : List Value} (hx : rd S w x cs) (left : Int) (h0 : 0 ≤ left) (h1 : left ≤ 1048576), Ret Tryz.prog 168 #[.agg cs.toArray, .int .i64 left] w (fun _ => False) fun v _ => ∃ r, v = .int .i64 r ∧ (((Sz.szd x : Nat) : Int) ≤ left ∧ r = left - (Sz.szd x : Nat) ∨ left < (Sz.szd x : Nat) ∧ r = -1)) (fun x ih => by intros; exact szExpr_step _ x (by assumption) _ (by assumption) (by assumption) ih) x w hx left h0 h1

theorem szEquation_spec (w : World) {S : Nat → Prop} (x : Equation) {cs : List Value} (hx : rd S w x cs) (left : Int) (h0 : 0 ≤ left) (h1 : left ≤ 1048576) :
    Ret Tryz.prog 119 #[.agg cs.toArray, .int .i64 left] w (fun _ => False) fun v _ => ∃ r, v = .int .i64 r ∧ (((Sz.szd x : Nat) : Int) ≤ left ∧ r = left - (Sz.szd x : Nat) ∨ left < (Sz.szd x : Nat) ∧ r = -1) := by
  refine enter Tryz.func119 rfl rfl rfl ?_
  have hK1 := hx
  obtain ⟨v1, rfl, hr1, hr2, hr3, hr4, hr5, hr6, hr7, hr8, hs1⟩ := hx
  obtain ⟨A1, c1, rfl, hc1, hm1⟩ := hs1.form
  have hsz := Equation_szd x
  refine Sreg ?_
  refine WL.box rfl rfl rfl rfl rfl fun b1 w1 hEb1 hbb1 hBb1 => ?_
  refine Wsn rfl rfl rfl rfl ?_
  refine Sreg ?_
  refine Wfa rfl rfl rfl fo179_0 rfl (WL.ev rfl rfl (Ev.lda rfl ag174 sz174 rfl (Blk.part hBb1 0 2) rfl) (Wmv rfl rfl rfl rfl ?_))
  refine WL.call rfl rfl rfl rfl rfl ok167 rfl (szOccurrence_spec _ x.At (rd_ext (Equation_rd_At hK1) hEb1) _ (by omega) (by omega)) ?_
  rintro _ w2 hEw2 ⟨r1, rfl, hr9⟩
  have hq1 := Occurrence_szd x.At
  refine Wsn rfl rfl rfl rfl ?_
  refine SSr ?_
  refine Wmv rfl rfl rfl rfl (WL.ev rfl rfl (Ev.bin rfl rfl rfl Bin.lss) (WL.nil ?_))
  refine CW.condD rfl (fun h1 => ?_) (fun h1 => ?_)
  · refine Sreg ?_
    refine Wsn rfl rfl rfl rfl ?_
    refine CW.ret ?_
    refine ⟨_, res1 rfl rfl rfl, (hEb1.trans hEw2), _, rfl, ?_⟩
    try simp only [szfold] at *
    first | omega | (right; exact ⟨by omega, by first | rfl | trivial⟩)
  · refine CW.skip ?_
    refine Sreg ?_
    refine Wfa rfl rfl rfl fo179_1 rfl (WL.ev rfl rfl (Ev.lda rfl ag177 sz177 rfl (Blk.part (hBb1.ext hEw2) 2 7) rfl) (Wmv rfl rfl rfl rfl ?_))
    refine WL.call rfl rfl rfl rfl rfl ok168 rfl (szExpr_spec _ x.Expr (rd_ext (Equation_rd_Expr hK1) (hEb1.trans hEw2)) _ (by omega) (by omega)) ?_
    rintro _ w3 hEw3 ⟨r2, rfl, hr10⟩
    have hq2 := Expr_szd x.Expr
    refine Wsn rfl rfl rfl rfl ?_
    refine SSr ?_
    refine Wmv rfl rfl rfl rfl (WL.ev rfl rfl (Ev.bin rfl rfl rfl Bin.lss) (WL.nil ?_))
    refine CW.condD rfl (fun h2 => ?_) (fun h2 => ?_)
    · refine Sreg ?_
      refine Wsn rfl rfl rfl rfl ?_
      refine CW.ret ?_
      refine ⟨_, res1 rfl rfl rfl, ((hEb1.trans hEw2).trans hEw3), _, rfl, ?_⟩
      try simp only [szfold] at *
      first | omega | (right; exact ⟨by omega, by first | rfl | trivial⟩)
    · refine CW.skip ?_
      refine Sreg ?_
      refine Wmv rfl rfl rfl rfl (Wsn rfl rfl rfl rfl ?_)
      refine CW.ret ?_
      refine ⟨_, res1 rfl rfl rfl, ((hEb1.trans hEw2).trans hEw3), _, rfl, ?_⟩
      try simp only [szfold] at *
      first | omega | (right; exact ⟨by omega, by first | rfl | trivial⟩)

theorem szEquationS_spec (w : World) {S : Nat → Prop} (x : List Equation) {z : Value} (hx : rdS S w x z) (left : Int) (h0 : 0 ≤ left) (h1 : left ≤ 1048576) :
    Ret Tryz.prog 52 #[z, .int .i64 left] w (fun _ => False) fun v _ => ∃ r, v = .int .i64 r ∧ (((Sz.szd x : Nat) : Int) ≤ left ∧ r = left - (Sz.szd x : Nat) ∨ left < (Sz.szd x : Nat) ∧ r = -1) := by
  refine enter Tryz.func52 rfl rfl rfl ?_
  obtain ⟨A1, c1, rfl, hc1, hm1⟩ := hx.form
  have hl1 : x.length ≤ 9223372036854775807 := Nat.le_trans hc1 hm1
  have hsz : Sz.szd x = szL x := rfl
  have hlen := szL_length x
  refine Sreg ?_
  refine Wsn rfl rfl rfl rfl ?_
  refine Sreg ?_
  refine Wmv rfl rfl rfl rfl (Wmv rfl rfl rfl rfl (WL.ev rfl rfl (Ev.lenS rfl el27 rfl) (WL.ev rfl rfl (Ev.bin rfl rfl rfl (Bin.sub (by omega))) (Wsn rfl rfl rfl rfl ?_))))
  refine SSr ?_
  refine Wmv rfl rfl rfl rfl (WL.ev rfl rfl (Ev.bin rfl rfl rfl Bin.lss) (WL.nil ?_))
  refine CW.condD rfl (fun h1 => ?_) (fun h1 => ?_)
  · refine Sreg ?_
    refine Wsn rfl rfl rfl rfl ?_
    refine CW.ret ?_
    refine ⟨_, res1 rfl rfl rfl, (Ext.refl _), _, rfl, ?_⟩
    try have hall := szL_take_all (x := x) (k := k) (by omega)
    try simp only [szfold] at *
    first | omega | (right; exact ⟨by omega, by first | rfl | trivial⟩)
  · refine CW.skip ?_
    refine SSr ?_
    refine Wsn rfl rfl rfl rfl ?_
    refine CW.block (CW.loop (α := Nat × Int) (fun q => [(0, .slice A1 x.length c1), (1, .int .i64 q.2), (5, .int .i64 (q.1 : Int))]) (fun q wr => Ext w wr ∧ q.1 ≤ x.length ∧ 0 ≤ q.2 ∧ q.2 + x.length + szL (x.take q.1) = left + q.1) (fun q => x.length - q.1) (0, left - x.length) ⟨rfl, rfl, rfl, trivial⟩ ⟨Ext.refl _, by simp, by simp only; omega, by simp [szL]⟩ ?_)
    rintro ⟨k, l⟩ σ wr1 ⟨hEwr1, hk, hl0, hle⟩
    simp only at hk hl0 hle
    have hmn0 := szL_take_le x k
    refine SSr ?_
    refine Wmv rfl rfl rfl rfl (Wmv rfl rfl rfl rfl (WL.ev rfl rfl (Ev.lenS rfl el27 rfl) (WL.ev rfl rfl (Ev.bin rfl rfl rfl Bin.lss) (WL.nil ?_))))
    refine CW.condD rfl (fun h2 => ?_) (fun h2 => ?_)
    · refine CW.skip ?_
      refine CW.seq (CW.block (Sreg ?_))
      refine Wmv rfl rfl rfl rfl (Wmv rfl rfl rfl rfl ?_)
      obtain ⟨xe1, be1, oe1, cse1, hxe1, hAe1, hSe1, hre1, hAte1⟩ := rdS.el hx (i := k) (by omega)
      have hK1 := hre1
      obtain ⟨v1, rfl, hr1, hr2, hr3, hr4, hr5, hr6, hr7, hr8, hs1⟩ := hre1
      obtain ⟨A2, c2, rfl, hc2, hm2⟩ := hs1.form
      refine WL.ev rfl rfl (Ev.ixA rfl el27 sz179 rfl hAe1 rfl (by omega)) (WL.ev rfl rfl (Ev.lda rfl ag179 sz179 rfl (hAte1.ext hEwr1) rfl) (Wmv rfl rfl rfl rfl ?_))
      refine WL.call rfl rfl rfl rfl rfl ok119 rfl (szEquation_spec _ xe1 (rd_ext hK1 hEwr1) _ (by omega) (by omega)) ?_
      rintro _ w1 hEw1 ⟨r1, rfl, hr9⟩
      have hq1 := Equation_szd xe1
      refine Wsn rfl rfl rfl rfl ?_
      refine Sreg ?_
      refine Wmv rfl rfl rfl rfl (WL.ev rfl rfl (Ev.bin rfl rfl rfl Bin.lss) (WL.nil ?_))
      refine CW.condD rfl (fun h3 => ?_) (fun h3 => ?_)
      · refine Sreg ?_
        refine Wsn rfl rfl rfl rfl ?_
        refine CW.ret ?_
        refine ⟨_, res1 rfl rfl rfl, (hEwr1.trans hEw1), _, rfl, ?_⟩
        have htk := szL_take_succ hxe1
        have hmn := szL_take_le x (k + 1)
        try simp only [szfold] at *
        first | omega | (right; exact ⟨by omega, by first | rfl | trivial⟩)
      · refine CW.skip ?_
        refine CW.reg ?_
        refine Wmv rfl rfl rfl rfl (WL.ev rfl rfl (Ev.bin rfl rfl rfl (Bin.add (by omega))) (Wsn rfl rfl rfl rfl ?_))
        have htk := szL_take_succ hxe1
        have hmn := szL_take_le x (k + 1)
        exact ⟨(k + 1, r1), ⟨rfl, rfl, rfl, trivial⟩, ⟨(hEwr1.trans hEw1), by simp only; omega, by simp only; omega, by simp only; omega⟩, by simp only; omega⟩
    · refine CW.exit ?_
      refine Sreg ?_
      refine Wmv rfl rfl rfl rfl (Wsn rfl rfl rfl rfl ?_)
      refine CW.ret ?_
      refine ⟨_, res1 rfl rfl rfl, hEwr1, _, rfl, ?_⟩
      try have hall := szL_take_all (x := x) (k := k) (by omega)
      try simp only [szfold] at *
      first | omega | (right; exact ⟨by omega, by first | rfl | trivial⟩)

theorem szContribution_spec (w : World) {S : Nat → Prop} (x : Contribution) {cs : List Value} (hx : rd S w x cs) (left : Int) (h0 : 0 ≤ left) (h1 : left ≤ 1048576) :
    Ret Tryz.prog 120 #[.agg cs.toArray, .int .i64 left] w (fun _ => False) fun v _ => ∃ r, v = .int .i64 r ∧ (((Sz.szd x : Nat) : Int) ≤ left ∧ r = left - (Sz.szd x : Nat) ∨ left < (Sz.szd x : Nat) ∧ r = -1) := by
  refine enter Tryz.func120 rfl rfl rfl ?_
  have hK1 := hx
  obtain ⟨v1, v2, rfl, hr1, hr2, hr3, hr4, hr5, hr6, hr7, hr8, hr9, hr10, hr11, hr12, hr13, hr14, hs1, hs2⟩ := hx
  obtain ⟨A1, c1, rfl, hc1, hm1⟩ := hs1.form
  obtain ⟨A2, c2, rfl, hc2, hm2⟩ := hs2.form
  have hsz := Contribution_szd x
  refine Sreg ?_
  refine WL.box rfl rfl rfl rfl rfl fun b1 w1 hEb1 hbb1 hBb1 => ?_
  refine Wsn rfl rfl rfl rfl ?_
  refine Sreg ?_
  refine Wmv rfl rfl rfl rfl (Wfa rfl rfl rfl fo182_0 rfl (WL.ev rfl rfl (Ev.ld rfl ag9 rfl (hBb1.cell rfl)) (WL.ev rfl rfl (Ev.lenB rfl Tryz.underlying9 rfl) (WL.ev rfl rfl (Ev.bin rfl rfl rfl (Bin.sub (by omega))) (Wsn rfl rfl rfl rfl ?_)))))
  refine SSr ?_
  refine Wmv rfl rfl rfl rfl (WL.ev rfl rfl (Ev.bin rfl rfl rfl Bin.lss) (WL.nil ?_))
  refine CW.condD rfl (fun h1 => ?_) (fun h1 => ?_)
  · refine Sreg ?_
    refine Wsn rfl rfl rfl rfl ?_
    refine CW.ret ?_
    refine ⟨_, res1 rfl rfl rfl, hEb1, _, rfl, ?_⟩
    try simp only [szfold] at *
    first | omega | (right; exact ⟨by omega, by first | rfl | trivial⟩)
  · refine CW.skip ?_
    refine Sreg ?_
    refine Wmv rfl rfl rfl rfl (Wfa rfl rfl rfl fo182_1 rfl (WL.ev rfl rfl (Ev.ld rfl ag9 rfl (hBb1.cell rfl)) (WL.ev rfl rfl (Ev.lenB rfl Tryz.underlying9 rfl) (WL.ev rfl rfl (Ev.bin rfl rfl rfl (Bin.sub (by omega))) (Wsn rfl rfl rfl rfl ?_)))))
    refine SSr ?_
    refine Wmv rfl rfl rfl rfl (WL.ev rfl rfl (Ev.bin rfl rfl rfl Bin.lss) (WL.nil ?_))
    refine CW.condD rfl (fun h2 => ?_) (fun h2 => ?_)
    · refine Sreg ?_
      refine Wsn rfl rfl rfl rfl ?_
      refine CW.ret ?_
      refine ⟨_, res1 rfl rfl rfl, hEb1, _, rfl, ?_⟩
      try simp only [szfold] at *
      first | omega | (right; exact ⟨by omega, by first | rfl | trivial⟩)
    · refine CW.skip ?_
      refine Sreg ?_
      refine Wfa rfl rfl rfl fo182_2 rfl (WL.ev rfl rfl (Ev.lda rfl ag177 sz177 rfl (Blk.part hBb1 2 7) rfl) (Wmv rfl rfl rfl rfl ?_))
      refine WL.call rfl rfl rfl rfl rfl ok168 rfl (szExpr_spec _ x.Target (rd_ext (Contribution_rd_Target hK1) hEb1) _ (by omega) (by omega)) ?_
      rintro _ w2 hEw2 ⟨r1, rfl, hr15⟩
      have hq1 := Expr_szd x.Target
      refine Wsn rfl rfl rfl rfl ?_
      refine SSr ?_
      refine Wmv rfl rfl rfl rfl (WL.ev rfl rfl (Ev.bin rfl rfl rfl Bin.lss) (WL.nil ?_))
      refine CW.condD rfl (fun h3 => ?_) (fun h3 => ?_)
      · refine Sreg ?_
        refine Wsn rfl rfl rfl rfl ?_
        refine CW.ret ?_
        refine ⟨_, res1 rfl rfl rfl, (hEb1.trans hEw2), _, rfl, ?_⟩
        try simp only [szfold] at *
        first | omega | (right; exact ⟨by omega, by first | rfl | trivial⟩)
      · refine CW.skip ?_
        refine Sreg ?_
        refine Wfa rfl rfl rfl fo182_3 rfl (WL.ev rfl rfl (Ev.lda rfl ag177 sz177 rfl (Blk.part (hBb1.ext hEw2) 9 7) rfl) (Wmv rfl rfl rfl rfl ?_))
        refine WL.call rfl rfl rfl rfl rfl ok168 rfl (szExpr_spec _ x.Value (rd_ext (Contribution_rd_Value hK1) (hEb1.trans hEw2)) _ (by omega) (by omega)) ?_
        rintro _ w3 hEw3 ⟨r2, rfl, hr16⟩
        have hq2 := Expr_szd x.Value
        refine Wsn rfl rfl rfl rfl ?_
        refine SSr ?_
        refine Wmv rfl rfl rfl rfl (WL.ev rfl rfl (Ev.bin rfl rfl rfl Bin.lss) (WL.nil ?_))
        refine CW.condD rfl (fun h4 => ?_) (fun h4 => ?_)
        · refine Sreg ?_
          refine Wsn rfl rfl rfl rfl ?_
          refine CW.ret ?_
          refine ⟨_, res1 rfl rfl rfl, ((hEb1.trans hEw2).trans hEw3), _, rfl, ?_⟩
          try simp only [szfold] at *
          first | omega | (right; exact ⟨by omega, by first | rfl | trivial⟩)
        · refine CW.skip ?_
          refine Sreg ?_
          refine Wmv rfl rfl rfl rfl (Wsn rfl rfl rfl rfl ?_)
          refine CW.ret ?_
          refine ⟨_, res1 rfl rfl rfl, ((hEb1.trans hEw2).trans hEw3), _, rfl, ?_⟩
          try simp only [szfold] at *
          first | omega | (right; exact ⟨by omega, by first | rfl | trivial⟩)

theorem szContributionS_spec (w : World) {S : Nat → Prop} (x : List Contribution) {z : Value} (hx : rdS S w x z) (left : Int) (h0 : 0 ≤ left) (h1 : left ≤ 1048576) :
    Ret Tryz.prog 53 #[z, .int .i64 left] w (fun _ => False) fun v _ => ∃ r, v = .int .i64 r ∧ (((Sz.szd x : Nat) : Int) ≤ left ∧ r = left - (Sz.szd x : Nat) ∨ left < (Sz.szd x : Nat) ∧ r = -1) := by
  refine enter Tryz.func53 rfl rfl rfl ?_
  obtain ⟨A1, c1, rfl, hc1, hm1⟩ := hx.form
  have hl1 : x.length ≤ 9223372036854775807 := Nat.le_trans hc1 hm1
  have hsz : Sz.szd x = szL x := rfl
  have hlen := szL_length x
  refine Sreg ?_
  refine Wsn rfl rfl rfl rfl ?_
  refine Sreg ?_
  refine Wmv rfl rfl rfl rfl (Wmv rfl rfl rfl rfl (WL.ev rfl rfl (Ev.lenS rfl el28 rfl) (WL.ev rfl rfl (Ev.bin rfl rfl rfl (Bin.sub (by omega))) (Wsn rfl rfl rfl rfl ?_))))
  refine SSr ?_
  refine Wmv rfl rfl rfl rfl (WL.ev rfl rfl (Ev.bin rfl rfl rfl Bin.lss) (WL.nil ?_))
  refine CW.condD rfl (fun h1 => ?_) (fun h1 => ?_)
  · refine Sreg ?_
    refine Wsn rfl rfl rfl rfl ?_
    refine CW.ret ?_
    refine ⟨_, res1 rfl rfl rfl, (Ext.refl _), _, rfl, ?_⟩
    try have hall := szL_take_all (x := x) (k := k) (by omega)
    try simp only [szfold] at *
    first | omega | (right; exact ⟨by omega, by first | rfl | trivial⟩)
  · refine CW.skip ?_
    refine SSr ?_
    refine Wsn rfl rfl rfl rfl ?_
    refine CW.block (CW.loop (α := Nat × Int) (fun q => [(0, .slice A1 x.length c1), (1, .int .i64 q.2), (5, .int .i64 (q.1 : Int))]) (fun q wr => Ext w wr ∧ q.1 ≤ x.length ∧ 0 ≤ q.2 ∧ q.2 + x.length + szL (x.take q.1) = left + q.1) (fun q => x.length - q.1) (0, left - x.length) ⟨rfl, rfl, rfl, trivial⟩ ⟨Ext.refl _, by simp, by simp only; omega, by simp [szL]⟩ ?_)
    rintro ⟨k, l⟩ σ wr1 ⟨hEwr1, hk, hl0, hle⟩
    simp only at hk hl0 hle
    have hmn0 := szL_take_le x k
    refine SSr ?_
    refine Wmv rfl rfl rfl rfl (Wmv rfl rfl rfl rfl (WL.ev rfl rfl (Ev.lenS rfl el28 rfl) (WL.ev rfl rfl (Ev.bin rfl rfl rfl Bin.lss) (WL.nil ?_))))
    refine CW.condD rfl (fun h2 => ?_) (fun h2 => ?_)
    · refine CW.skip ?_
      refine CW.seq (CW.block (Sreg ?_))
      refine Wmv rfl rfl rfl rfl (Wmv rfl rfl rfl rfl ?_)
      obtain ⟨xe1, be1, oe1, cse1, hxe1, hAe1, hSe1, hre1, hAte1⟩ := rdS.el hx (i := k) (by omega)
      have hK1 := hre1
      obtain ⟨v1, v2, rfl, hr1, hr2, hr3, hr4, hr5, hr6, hr7, hr8, hr9, hr10, hr11, hr12, hr13, hr14, hs1, hs2⟩ := hre1
      obtain ⟨A2, c2, rfl, hc2, hm2⟩ := hs1.form
      obtain ⟨A3, c3, rfl, hc3, hm3⟩ := hs2.form
      refine WL.ev rfl rfl (Ev.ixA rfl el28 sz182 rfl hAe1 rfl (by omega)) (WL.ev rfl rfl (Ev.lda rfl ag182 sz182 rfl (hAte1.ext hEwr1) rfl) (Wmv rfl rfl rfl rfl ?_))
      refine WL.call rfl rfl rfl rfl rfl ok120 rfl (szContribution_spec _ xe1 (rd_ext hK1 hEwr1) _ (by omega) (by omega)) ?_
      rintro _ w1 hEw1 ⟨r1, rfl, hr15⟩
      have hq1 := Contribution_szd xe1
      refine Wsn rfl rfl rfl rfl ?_
      refine Sreg ?_
      refine Wmv rfl rfl rfl rfl (WL.ev rfl rfl (Ev.bin rfl rfl rfl Bin.lss) (WL.nil ?_))
      refine CW.condD rfl (fun h3 => ?_) (fun h3 => ?_)
      · refine Sreg ?_
        refine Wsn rfl rfl rfl rfl ?_
        refine CW.ret ?_
        refine ⟨_, res1 rfl rfl rfl, (hEwr1.trans hEw1), _, rfl, ?_⟩
        have htk := szL_take_succ hxe1
        have hmn := szL_take_le x (k + 1)
        try simp only [szfold] at *
        first | omega | (right; exact ⟨by omega, by first | rfl | trivial⟩)
      · refine CW.skip ?_
        refine CW.reg ?_
        refine Wmv rfl rfl rfl rfl (WL.ev rfl rfl (Ev.bin rfl rfl rfl (Bin.add (by omega))) (Wsn rfl rfl rfl rfl ?_))
        have htk := szL_take_succ hxe1
        have hmn := szL_take_le x (k + 1)
        exact ⟨(k + 1, r1), ⟨rfl, rfl, rfl, trivial⟩, ⟨(hEwr1.trans hEw1), by simp only; omega, by simp only; omega, by simp only; omega⟩, by simp only; omega⟩
    · refine CW.exit ?_
      refine Sreg ?_
      refine Wmv rfl rfl rfl rfl (Wsn rfl rfl rfl rfl ?_)
      refine CW.ret ?_
      refine ⟨_, res1 rfl rfl rfl, hEwr1, _, rfl, ?_⟩
      try have hall := szL_take_all (x := x) (k := k) (by omega)
      try simp only [szfold] at *
      first | omega | (right; exact ⟨by omega, by first | rfl | trivial⟩)

theorem szRule_spec (w : World) {S : Nat → Prop} (x : Rule) {cs : List Value} (hx : rd S w x cs) (left : Int) (h0 : 0 ≤ left) (h1 : left ≤ 1048576) :
    Ret Tryz.prog 8 #[.agg cs.toArray, .int .i64 left] w (fun _ => False) fun v _ => ∃ r, v = .int .i64 r ∧ (((Sz.szd x : Nat) : Int) ≤ left ∧ r = left - (Sz.szd x : Nat) ∨ left < (Sz.szd x : Nat) ∧ r = -1) := by
  refine enter Tryz.func8 rfl rfl rfl ?_
  have hK1 := hx
  obtain ⟨v1, v2, v3, rfl, hr1, hr2, hs1, hs2, hs3⟩ := hx
  obtain ⟨A1, c1, rfl, hc1, hm1⟩ := hs1.form
  obtain ⟨A2, c2, rfl, hc2, hm2⟩ := hs2.form
  obtain ⟨A3, c3, rfl, hc3, hm3⟩ := hs3.form
  have hsz := Rule_szd x
  refine Sreg ?_
  refine WL.box rfl rfl rfl rfl rfl fun b1 w1 hEb1 hbb1 hBb1 => ?_
  refine Wsn rfl rfl rfl rfl ?_
  refine Sreg ?_
  refine Wmv rfl rfl rfl rfl (Wfa rfl rfl rfl fo30_0 rfl (WL.ev rfl rfl (Ev.ld rfl ag9 rfl (hBb1.cell rfl)) (WL.ev rfl rfl (Ev.lenB rfl Tryz.underlying9 rfl) (WL.ev rfl rfl (Ev.bin rfl rfl rfl (Bin.sub (by omega))) (Wsn rfl rfl rfl rfl ?_)))))
  refine SSr ?_
  refine Wmv rfl rfl rfl rfl (WL.ev rfl rfl (Ev.bin rfl rfl rfl Bin.lss) (WL.nil ?_))
  refine CW.condD rfl (fun h1 => ?_) (fun h1 => ?_)
  · refine Sreg ?_
    refine Wsn rfl rfl rfl rfl ?_
    refine CW.ret ?_
    refine ⟨_, res1 rfl rfl rfl, hEb1, _, rfl, ?_⟩
    try simp only [szfold] at *
    first | omega | (right; exact ⟨by omega, by first | rfl | trivial⟩)
  · refine CW.skip ?_
    refine Sreg ?_
    refine Wmv rfl rfl rfl rfl (Wfa rfl rfl rfl fo30_1 rfl (WL.ev rfl rfl (Ev.ld rfl ag9 rfl (hBb1.cell rfl)) (WL.ev rfl rfl (Ev.lenB rfl Tryz.underlying9 rfl) (WL.ev rfl rfl (Ev.bin rfl rfl rfl (Bin.sub (by omega))) (Wsn rfl rfl rfl rfl ?_)))))
    refine SSr ?_
    refine Wmv rfl rfl rfl rfl (WL.ev rfl rfl (Ev.bin rfl rfl rfl Bin.lss) (WL.nil ?_))
    refine CW.condD rfl (fun h2 => ?_) (fun h2 => ?_)
    · refine Sreg ?_
      refine Wsn rfl rfl rfl rfl ?_
      refine CW.ret ?_
      refine ⟨_, res1 rfl rfl rfl, hEb1, _, rfl, ?_⟩
      try simp only [szfold] at *
      first | omega | (right; exact ⟨by omega, by first | rfl | trivial⟩)
    · refine CW.skip ?_
      refine Sreg ?_
      refine Wfa rfl rfl rfl fo30_2 rfl (WL.ev rfl rfl (Ev.ld rfl ag26 rfl (hBb1.cell rfl)) (Wmv rfl rfl rfl rfl ?_))
      refine WL.call rfl rfl rfl rfl rfl ok51 rfl (szStringS_spec _ x.Right (hs1.ext hEb1) _ (by omega) (by omega)) ?_
      rintro _ w2 hEw2 ⟨r1, rfl, hr3⟩
      have hq1 := szfold x.Right
      refine Wsn rfl rfl rfl rfl ?_
      refine SSr ?_
      refine Wmv rfl rfl rfl rfl (WL.ev rfl rfl (Ev.bin rfl rfl rfl Bin.lss) (WL.nil ?_))
      refine CW.condD rfl (fun h3 => ?_) (fun h3 => ?_)
      · refine Sreg ?_
        refine Wsn rfl rfl rfl rfl ?_
        refine CW.ret ?_
        refine ⟨_, res1 rfl rfl rfl, (hEb1.trans hEw2), _, rfl, ?_⟩
        try simp only [szfold] at *
        first | omega | (right; exact ⟨by omega, by first | rfl | trivial⟩)
      · refine CW.skip ?_
        refine Sreg ?_
        refine Wfa rfl rfl rfl fo30_4 rfl (WL.ev rfl rfl (Ev.ld rfl ag27 rfl ((hBb1.ext hEw2).cell rfl)) (Wmv rfl rfl rfl rfl ?_))
        refine WL.call rfl rfl rfl rfl rfl ok52 rfl (szEquationS_spec _ x.Equations (hs2.ext (hEb1.trans hEw2)) _ (by omega) (by omega)) ?_
        rintro _ w3 hEw3 ⟨r2, rfl, hr4⟩
        have hq2 := szfold x.Equations
        refine Wsn rfl rfl rfl rfl ?_
        refine SSr ?_
        refine Wmv rfl rfl rfl rfl (WL.ev rfl rfl (Ev.bin rfl rfl rfl Bin.lss) (WL.nil ?_))
        refine CW.condD rfl (fun h4 => ?_) (fun h4 => ?_)
        · refine Sreg ?_
          refine Wsn rfl rfl rfl rfl ?_
          refine CW.ret ?_
          refine ⟨_, res1 rfl rfl rfl, ((hEb1.trans hEw2).trans hEw3), _, rfl, ?_⟩
          try simp only [szfold] at *
          first | omega | (right; exact ⟨by omega, by first | rfl | trivial⟩)
        · refine CW.skip ?_
          refine Sreg ?_
          refine Wfa rfl rfl rfl fo30_5 rfl (WL.ev rfl rfl (Ev.ld rfl ag28 rfl ((hBb1.ext (hEw2.trans hEw3)).cell rfl)) (Wmv rfl rfl rfl rfl ?_))
          refine WL.call rfl rfl rfl rfl rfl ok53 rfl (szContributionS_spec _ x.Contributions (hs3.ext ((hEb1.trans hEw2).trans hEw3)) _ (by omega) (by omega)) ?_
          rintro _ w4 hEw4 ⟨r3, rfl, hr5⟩
          have hq3 := szfold x.Contributions
          refine Wsn rfl rfl rfl rfl ?_
          refine SSr ?_
          refine Wmv rfl rfl rfl rfl (WL.ev rfl rfl (Ev.bin rfl rfl rfl Bin.lss) (WL.nil ?_))
          refine CW.condD rfl (fun h5 => ?_) (fun h5 => ?_)
          · refine Sreg ?_
            refine Wsn rfl rfl rfl rfl ?_
            refine CW.ret ?_
            refine ⟨_, res1 rfl rfl rfl, (((hEb1.trans hEw2).trans hEw3).trans hEw4), _, rfl, ?_⟩
            try simp only [szfold] at *
            first | omega | (right; exact ⟨by omega, by first | rfl | trivial⟩)
          · refine CW.skip ?_
            refine Sreg ?_
            refine Wmv rfl rfl rfl rfl (Wsn rfl rfl rfl rfl ?_)
            refine CW.ret ?_
            refine ⟨_, res1 rfl rfl rfl, (((hEb1.trans hEw2).trans hEw3).trans hEw4), _, rfl, ?_⟩
            try simp only [szfold] at *
            first | omega | (right; exact ⟨by omega, by first | rfl | trivial⟩)

theorem szRuleS_spec (w : World) {S : Nat → Prop} (x : List Rule) {z : Value} (hx : rdS S w x z) (left : Int) (h0 : 0 ≤ left) (h1 : left ≤ 1048576) :
    Ret Tryz.prog 50 #[z, .int .i64 left] w (fun _ => False) fun v _ => ∃ r, v = .int .i64 r ∧ (((Sz.szd x : Nat) : Int) ≤ left ∧ r = left - (Sz.szd x : Nat) ∨ left < (Sz.szd x : Nat) ∧ r = -1) := by
  refine enter Tryz.func50 rfl rfl rfl ?_
  obtain ⟨A1, c1, rfl, hc1, hm1⟩ := hx.form
  have hl1 : x.length ≤ 9223372036854775807 := Nat.le_trans hc1 hm1
  have hsz : Sz.szd x = szL x := rfl
  have hlen := szL_length x
  refine Sreg ?_
  refine Wsn rfl rfl rfl rfl ?_
  refine Sreg ?_
  refine Wmv rfl rfl rfl rfl (Wmv rfl rfl rfl rfl (WL.ev rfl rfl (Ev.lenS rfl el23 rfl) (WL.ev rfl rfl (Ev.bin rfl rfl rfl (Bin.sub (by omega))) (Wsn rfl rfl rfl rfl ?_))))
  refine SSr ?_
  refine Wmv rfl rfl rfl rfl (WL.ev rfl rfl (Ev.bin rfl rfl rfl Bin.lss) (WL.nil ?_))
  refine CW.condD rfl (fun h1 => ?_) (fun h1 => ?_)
  · refine Sreg ?_
    refine Wsn rfl rfl rfl rfl ?_
    refine CW.ret ?_
    refine ⟨_, res1 rfl rfl rfl, (Ext.refl _), _, rfl, ?_⟩
    try have hall := szL_take_all (x := x) (k := k) (by omega)
    try simp only [szfold] at *
    first | omega | (right; exact ⟨by omega, by first | rfl | trivial⟩)
  · refine CW.skip ?_
    refine SSr ?_
    refine Wsn rfl rfl rfl rfl ?_
    refine CW.block (CW.loop (α := Nat × Int) (fun q => [(0, .slice A1 x.length c1), (1, .int .i64 q.2), (5, .int .i64 (q.1 : Int))]) (fun q wr => Ext w wr ∧ q.1 ≤ x.length ∧ 0 ≤ q.2 ∧ q.2 + x.length + szL (x.take q.1) = left + q.1) (fun q => x.length - q.1) (0, left - x.length) ⟨rfl, rfl, rfl, trivial⟩ ⟨Ext.refl _, by simp, by simp only; omega, by simp [szL]⟩ ?_)
    rintro ⟨k, l⟩ σ wr1 ⟨hEwr1, hk, hl0, hle⟩
    simp only at hk hl0 hle
    have hmn0 := szL_take_le x k
    refine SSr ?_
    refine Wmv rfl rfl rfl rfl (Wmv rfl rfl rfl rfl (WL.ev rfl rfl (Ev.lenS rfl el23 rfl) (WL.ev rfl rfl (Ev.bin rfl rfl rfl Bin.lss) (WL.nil ?_))))
    refine CW.condD rfl (fun h2 => ?_) (fun h2 => ?_)
    · refine CW.skip ?_
      refine CW.seq (CW.block (Sreg ?_))
      refine Wmv rfl rfl rfl rfl (Wmv rfl rfl rfl rfl ?_)
      obtain ⟨xe1, be1, oe1, cse1, hxe1, hAe1, hSe1, hre1, hAte1⟩ := rdS.el hx (i := k) (by omega)
      have hK1 := hre1
      obtain ⟨v1, v2, v3, rfl, hr1, hr2, hs1, hs2, hs3⟩ := hre1
      obtain ⟨A2, c2, rfl, hc2, hm2⟩ := hs1.form
      obtain ⟨A3, c3, rfl, hc3, hm3⟩ := hs2.form
      obtain ⟨A4, c4, rfl, hc4, hm4⟩ := hs3.form
      refine WL.ev rfl rfl (Ev.ixA rfl el23 sz30 rfl hAe1 rfl (by omega)) (WL.ev rfl rfl (Ev.lda rfl ag30 sz30 rfl (hAte1.ext hEwr1) rfl) (Wmv rfl rfl rfl rfl ?_))
      refine WL.call rfl rfl rfl rfl rfl ok8 rfl (szRule_spec _ xe1 (rd_ext hK1 hEwr1) _ (by omega) (by omega)) ?_
      rintro _ w1 hEw1 ⟨r1, rfl, hr3⟩
      have hq1 := Rule_szd xe1
      refine Wsn rfl rfl rfl rfl ?_
      refine Sreg ?_
      refine Wmv rfl rfl rfl rfl (WL.ev rfl rfl (Ev.bin rfl rfl rfl Bin.lss) (WL.nil ?_))
      refine CW.condD rfl (fun h3 => ?_) (fun h3 => ?_)
      · refine Sreg ?_
        refine Wsn rfl rfl rfl rfl ?_
        refine CW.ret ?_
        refine ⟨_, res1 rfl rfl rfl, (hEwr1.trans hEw1), _, rfl, ?_⟩
        have htk := szL_take_succ hxe1
        have hmn := szL_take_le x (k + 1)
        try simp only [szfold] at *
        first | omega | (right; exact ⟨by omega, by first | rfl | trivial⟩)
      · refine CW.skip ?_
        refine CW.reg ?_
        refine Wmv rfl rfl rfl rfl (WL.ev rfl rfl (Ev.bin rfl rfl rfl (Bin.add (by omega))) (Wsn rfl rfl rfl rfl ?_))
        have htk := szL_take_succ hxe1
        have hmn := szL_take_le x (k + 1)
        exact ⟨(k + 1, r1), ⟨rfl, rfl, rfl, trivial⟩, ⟨(hEwr1.trans hEw1), by simp only; omega, by simp only; omega, by simp only; omega⟩, by simp only; omega⟩
    · refine CW.exit ?_
      refine Sreg ?_
      refine Wmv rfl rfl rfl rfl (Wsn rfl rfl rfl rfl ?_)
      refine CW.ret ?_
      refine ⟨_, res1 rfl rfl rfl, hEwr1, _, rfl, ?_⟩
      try have hall := szL_take_all (x := x) (k := k) (by omega)
      try simp only [szfold] at *
      first | omega | (right; exact ⟨by omega, by first | rfl | trivial⟩)

theorem szGrammar_spec (w : World) {S : Nat → Prop} (x : Grammar) {cs : List Value} (hx : rd S w x cs) (left : Int) (h0 : 0 ≤ left) (h1 : left ≤ 1048576) :
    Ret Tryz.prog 7 #[.agg cs.toArray, .int .i64 left] w (fun _ => False) fun v _ => ∃ r, v = .int .i64 r ∧ (((Sz.szd x : Nat) : Int) ≤ left ∧ r = left - (Sz.szd x : Nat) ∨ left < (Sz.szd x : Nat) ∧ r = -1) := by
  refine enter Tryz.func7 rfl rfl rfl ?_
  have hK1 := hx
  obtain ⟨v1, v2, rfl, hs1, hs2⟩ := hx
  obtain ⟨A1, c1, rfl, hc1, hm1⟩ := hs1.form
  obtain ⟨A2, c2, rfl, hc2, hm2⟩ := hs2.form
  have hsz := Grammar_szd x
  refine Sreg ?_
  refine WL.box rfl rfl rfl rfl rfl fun b1 w1 hEb1 hbb1 hBb1 => ?_
  refine Wsn rfl rfl rfl rfl ?_
  refine Sreg ?_
  refine Wfa rfl rfl rfl fo25_0 rfl (WL.ev rfl rfl (Ev.ld rfl ag22 rfl (hBb1.cell rfl)) (Wmv rfl rfl rfl rfl ?_))
  refine WL.call rfl rfl rfl rfl rfl ok49 rfl (szSymbolS_spec _ x.Symbols (hs1.ext hEb1) _ (by omega) (by omega)) ?_
  rintro _ w2 hEw2 ⟨r1, rfl, hr1⟩
  have hq1 := szfold x.Symbols
  refine Wsn rfl rfl rfl rfl ?_
  refine SSr ?_
  refine Wmv rfl rfl rfl rfl (WL.ev rfl rfl (Ev.bin rfl rfl rfl Bin.lss) (WL.nil ?_))
  refine CW.condD rfl (fun h1 => ?_) (fun h1 => ?_)
  · refine Sreg ?_
    refine Wsn rfl rfl rfl rfl ?_
    refine CW.ret ?_
    refine ⟨_, res1 rfl rfl rfl, (hEb1.trans hEw2), _, rfl, ?_⟩
    try simp only [szfold] at *
    first | omega | (right; exact ⟨by omega, by first | rfl | trivial⟩)
  · refine CW.skip ?_
    refine Sreg ?_
    refine Wfa rfl rfl rfl fo25_1 rfl (WL.ev rfl rfl (Ev.ld rfl ag23 rfl ((hBb1.ext hEw2).cell rfl)) (Wmv rfl rfl rfl rfl ?_))
    refine WL.call rfl rfl rfl rfl rfl ok50 rfl (szRuleS_spec _ x.Rules (hs2.ext (hEb1.trans hEw2)) _ (by omega) (by omega)) ?_
    rintro _ w3 hEw3 ⟨r2, rfl, hr2⟩
    have hq2 := szfold x.Rules
    refine Wsn rfl rfl rfl rfl ?_
    refine SSr ?_
    refine Wmv rfl rfl rfl rfl (WL.ev rfl rfl (Ev.bin rfl rfl rfl Bin.lss) (WL.nil ?_))
    refine CW.condD rfl (fun h2 => ?_) (fun h2 => ?_)
    · refine Sreg ?_
      refine Wsn rfl rfl rfl rfl ?_
      refine CW.ret ?_
      refine ⟨_, res1 rfl rfl rfl, ((hEb1.trans hEw2).trans hEw3), _, rfl, ?_⟩
      try simp only [szfold] at *
      first | omega | (right; exact ⟨by omega, by first | rfl | trivial⟩)
    · refine CW.skip ?_
      refine Sreg ?_
      refine Wmv rfl rfl rfl rfl (Wsn rfl rfl rfl rfl ?_)
      refine CW.ret ?_
      refine ⟨_, res1 rfl rfl rfl, ((hEb1.trans hEw2).trans hEw3), _, rfl, ?_⟩
      try simp only [szfold] at *
      first | omega | (right; exact ⟨by omega, by first | rfl | trivial⟩)

theorem szPhase_spec (w : World) {S : Nat → Prop} (x : Phase) {cs : List Value} (hx : rd S w x cs) (left : Int) (h0 : 0 ≤ left) (h1 : left ≤ 1048576) :
    Ret Tryz.prog 139 #[.agg cs.toArray, .int .i64 left] w (fun _ => False) fun v _ => ∃ r, v = .int .i64 r ∧ (((Sz.szd x : Nat) : Int) ≤ left ∧ r = left - (Sz.szd x : Nat) ∨ left < (Sz.szd x : Nat) ∧ r = -1) := by
  refine enter Tryz.func139 rfl rfl rfl ?_
  have hK1 := hx
  obtain ⟨v1, v2, rfl, hs1, hs2⟩ := hx
  obtain ⟨A1, c1, rfl, hc1, hm1⟩ := hs1.form
  obtain ⟨A2, c2, rfl, hc2, hm2⟩ := hs2.form
  have hsz := Phase_szd x
  refine Sreg ?_
  refine WL.box rfl rfl rfl rfl rfl fun b1 w1 hEb1 hbb1 hBb1 => ?_
  refine Wsn rfl rfl rfl rfl ?_
  refine Sreg ?_
  refine Wfa rfl rfl rfl fo200_0 rfl (WL.ev rfl rfl (Ev.ld rfl ag26 rfl (hBb1.cell rfl)) (Wmv rfl rfl rfl rfl ?_))
  refine WL.call rfl rfl rfl rfl rfl ok51 rfl (szStringS_spec _ x.Inherited (hs1.ext hEb1) _ (by omega) (by omega)) ?_
  rintro _ w2 hEw2 ⟨r1, rfl, hr1⟩
  have hq1 := szfold x.Inherited
  refine Wsn rfl rfl rfl rfl ?_
  refine SSr ?_
  refine Wmv rfl rfl rfl rfl (WL.ev rfl rfl (Ev.bin rfl rfl rfl Bin.lss) (WL.nil ?_))
  refine CW.condD rfl (fun h1 => ?_) (fun h1 => ?_)
  · refine Sreg ?_
    refine Wsn rfl rfl rfl rfl ?_
    refine CW.ret ?_
    refine ⟨_, res1 rfl rfl rfl, (hEb1.trans hEw2), _, rfl, ?_⟩
    try simp only [szfold] at *
    first | omega | (right; exact ⟨by omega, by first | rfl | trivial⟩)
  · refine CW.skip ?_
    refine Sreg ?_
    refine Wfa rfl rfl rfl fo200_1 rfl (WL.ev rfl rfl (Ev.ld rfl ag26 rfl ((hBb1.ext hEw2).cell rfl)) (Wmv rfl rfl rfl rfl ?_))
    refine WL.call rfl rfl rfl rfl rfl ok51 rfl (szStringS_spec _ x.Synthesized (hs2.ext (hEb1.trans hEw2)) _ (by omega) (by omega)) ?_
    rintro _ w3 hEw3 ⟨r2, rfl, hr2⟩
    have hq2 := szfold x.Synthesized
    refine Wsn rfl rfl rfl rfl ?_
    refine SSr ?_
    refine Wmv rfl rfl rfl rfl (WL.ev rfl rfl (Ev.bin rfl rfl rfl Bin.lss) (WL.nil ?_))
    refine CW.condD rfl (fun h2 => ?_) (fun h2 => ?_)
    · refine Sreg ?_
      refine Wsn rfl rfl rfl rfl ?_
      refine CW.ret ?_
      refine ⟨_, res1 rfl rfl rfl, ((hEb1.trans hEw2).trans hEw3), _, rfl, ?_⟩
      try simp only [szfold] at *
      first | omega | (right; exact ⟨by omega, by first | rfl | trivial⟩)
    · refine CW.skip ?_
      refine Sreg ?_
      refine Wmv rfl rfl rfl rfl (Wsn rfl rfl rfl rfl ?_)
      refine CW.ret ?_
      refine ⟨_, res1 rfl rfl rfl, ((hEb1.trans hEw2).trans hEw3), _, rfl, ?_⟩
      try simp only [szfold] at *
      first | omega | (right; exact ⟨by omega, by first | rfl | trivial⟩)

theorem szPhaseS_spec (w : World) {S : Nat → Prop} (x : List Phase) {z : Value} (hx : rdS S w x z) (left : Int) (h0 : 0 ≤ left) (h1 : left ≤ 1048576) :
    Ret Tryz.prog 79 #[z, .int .i64 left] w (fun _ => False) fun v _ => ∃ r, v = .int .i64 r ∧ (((Sz.szd x : Nat) : Int) ≤ left ∧ r = left - (Sz.szd x : Nat) ∨ left < (Sz.szd x : Nat) ∧ r = -1) := by
  refine enter Tryz.func79 rfl rfl rfl ?_
  obtain ⟨A1, c1, rfl, hc1, hm1⟩ := hx.form
  have hl1 : x.length ≤ 9223372036854775807 := Nat.le_trans hc1 hm1
  have hsz : Sz.szd x = szL x := rfl
  have hlen := szL_length x
  refine Sreg ?_
  refine Wsn rfl rfl rfl rfl ?_
  refine Sreg ?_
  refine Wmv rfl rfl rfl rfl (Wmv rfl rfl rfl rfl (WL.ev rfl rfl (Ev.lenS rfl el118 rfl) (WL.ev rfl rfl (Ev.bin rfl rfl rfl (Bin.sub (by omega))) (Wsn rfl rfl rfl rfl ?_))))
  refine SSr ?_
  refine Wmv rfl rfl rfl rfl (WL.ev rfl rfl (Ev.bin rfl rfl rfl Bin.lss) (WL.nil ?_))
  refine CW.condD rfl (fun h1 => ?_) (fun h1 => ?_)
  · refine Sreg ?_
    refine Wsn rfl rfl rfl rfl ?_
    refine CW.ret ?_
    refine ⟨_, res1 rfl rfl rfl, (Ext.refl _), _, rfl, ?_⟩
    try have hall := szL_take_all (x := x) (k := k) (by omega)
    try simp only [szfold] at *
    first | omega | (right; exact ⟨by omega, by first | rfl | trivial⟩)
  · refine CW.skip ?_
    refine SSr ?_
    refine Wsn rfl rfl rfl rfl ?_
    refine CW.block (CW.loop (α := Nat × Int) (fun q => [(0, .slice A1 x.length c1), (1, .int .i64 q.2), (5, .int .i64 (q.1 : Int))]) (fun q wr => Ext w wr ∧ q.1 ≤ x.length ∧ 0 ≤ q.2 ∧ q.2 + x.length + szL (x.take q.1) = left + q.1) (fun q => x.length - q.1) (0, left - x.length) ⟨rfl, rfl, rfl, trivial⟩ ⟨Ext.refl _, by simp, by simp only; omega, by simp [szL]⟩ ?_)
    rintro ⟨k, l⟩ σ wr1 ⟨hEwr1, hk, hl0, hle⟩
    simp only at hk hl0 hle
    have hmn0 := szL_take_le x k
    refine SSr ?_
    refine Wmv rfl rfl rfl rfl (Wmv rfl rfl rfl rfl (WL.ev rfl rfl (Ev.lenS rfl el118 rfl) (WL.ev rfl rfl (Ev.bin rfl rfl rfl Bin.lss) (WL.nil ?_))))
    refine CW.condD rfl (fun h2 => ?_) (fun h2 => ?_)
    · refine CW.skip ?_
      refine CW.seq (CW.block (Sreg ?_))
      refine Wmv rfl rfl rfl rfl (Wmv rfl rfl rfl rfl ?_)
      obtain ⟨xe1, be1, oe1, cse1, hxe1, hAe1, hSe1, hre1, hAte1⟩ := rdS.el hx (i := k) (by omega)
      have hK1 := hre1
      obtain ⟨v1, v2, rfl, hs1, hs2⟩ := hre1
      obtain ⟨A2, c2, rfl, hc2, hm2⟩ := hs1.form
      obtain ⟨A3, c3, rfl, hc3, hm3⟩ := hs2.form
      refine WL.ev rfl rfl (Ev.ixA rfl el118 sz200 rfl hAe1 rfl (by omega)) (WL.ev rfl rfl (Ev.lda rfl ag200 sz200 rfl (hAte1.ext hEwr1) rfl) (Wmv rfl rfl rfl rfl ?_))
      refine WL.call rfl rfl rfl rfl rfl ok139 rfl (szPhase_spec _ xe1 (rd_ext hK1 hEwr1) _ (by omega) (by omega)) ?_
      rintro _ w1 hEw1 ⟨r1, rfl, hr1⟩
      have hq1 := Phase_szd xe1
      refine Wsn rfl rfl rfl rfl ?_
      refine Sreg ?_
      refine Wmv rfl rfl rfl rfl (WL.ev rfl rfl (Ev.bin rfl rfl rfl Bin.lss) (WL.nil ?_))
      refine CW.condD rfl (fun h3 => ?_) (fun h3 => ?_)
      · refine Sreg ?_
        refine Wsn rfl rfl rfl rfl ?_
        refine CW.ret ?_
        refine ⟨_, res1 rfl rfl rfl, (hEwr1.trans hEw1), _, rfl, ?_⟩
        have htk := szL_take_succ hxe1
        have hmn := szL_take_le x (k + 1)
        try simp only [szfold] at *
        first | omega | (right; exact ⟨by omega, by first | rfl | trivial⟩)
      · refine CW.skip ?_
        refine CW.reg ?_
        refine Wmv rfl rfl rfl rfl (WL.ev rfl rfl (Ev.bin rfl rfl rfl (Bin.add (by omega))) (Wsn rfl rfl rfl rfl ?_))
        have htk := szL_take_succ hxe1
        have hmn := szL_take_le x (k + 1)
        exact ⟨(k + 1, r1), ⟨rfl, rfl, rfl, trivial⟩, ⟨(hEwr1.trans hEw1), by simp only; omega, by simp only; omega, by simp only; omega⟩, by simp only; omega⟩
    · refine CW.exit ?_
      refine Sreg ?_
      refine Wmv rfl rfl rfl rfl (Wsn rfl rfl rfl rfl ?_)
      refine CW.ret ?_
      refine ⟨_, res1 rfl rfl rfl, hEwr1, _, rfl, ?_⟩
      try have hall := szL_take_all (x := x) (k := k) (by omega)
      try simp only [szfold] at *
      first | omega | (right; exact ⟨by omega, by first | rfl | trivial⟩)

theorem szPhaseSS_spec (w : World) {S : Nat → Prop} (x : List (List Phase)) {z : Value} (hx : rdS S w x z) (left : Int) (h0 : 0 ≤ left) (h1 : left ≤ 1048576) :
    Ret Tryz.prog 20 #[z, .int .i64 left] w (fun _ => False) fun v _ => ∃ r, v = .int .i64 r ∧ (((Sz.szd x : Nat) : Int) ≤ left ∧ r = left - (Sz.szd x : Nat) ∨ left < (Sz.szd x : Nat) ∧ r = -1) := by
  refine enter Tryz.func20 rfl rfl rfl ?_
  obtain ⟨A1, c1, rfl, hc1, hm1⟩ := hx.form
  have hl1 : x.length ≤ 9223372036854775807 := Nat.le_trans hc1 hm1
  have hsz : Sz.szd x = szL x := rfl
  have hlen := szL_length x
  refine Sreg ?_
  refine Wsn rfl rfl rfl rfl ?_
  refine Sreg ?_
  refine Wmv rfl rfl rfl rfl (Wmv rfl rfl rfl rfl (WL.ev rfl rfl (Ev.lenS rfl el54 rfl) (WL.ev rfl rfl (Ev.bin rfl rfl rfl (Bin.sub (by omega))) (Wsn rfl rfl rfl rfl ?_))))
  refine SSr ?_
  refine Wmv rfl rfl rfl rfl (WL.ev rfl rfl (Ev.bin rfl rfl rfl Bin.lss) (WL.nil ?_))
  refine CW.condD rfl (fun h1 => ?_) (fun h1 => ?_)
  · refine Sreg ?_
    refine Wsn rfl rfl rfl rfl ?_
    refine CW.ret ?_
    refine ⟨_, res1 rfl rfl rfl, (Ext.refl _), _, rfl, ?_⟩
    try have hall := szL_take_all (x := x) (k := k) (by omega)
    try simp only [szfold] at *
    first | omega | (right; exact ⟨by omega, by first | rfl | trivial⟩)
  · refine CW.skip ?_
    refine SSr ?_
    refine Wsn rfl rfl rfl rfl ?_
    refine CW.block (CW.loop (α := Nat × Int) (fun q => [(0, .slice A1 x.length c1), (1, .int .i64 q.2), (5, .int .i64 (q.1 : Int))]) (fun q wr => Ext w wr ∧ q.1 ≤ x.length ∧ 0 ≤ q.2 ∧ q.2 + x.length + szL (x.take q.1) = left + q.1) (fun q => x.length - q.1) (0, left - x.length) ⟨rfl, rfl, rfl, trivial⟩ ⟨Ext.refl _, by simp, by simp only; omega, by simp [szL]⟩ ?_)
    rintro ⟨k, l⟩ σ wr1 ⟨hEwr1, hk, hl0, hle⟩
    simp only at hk hl0 hle
    have hmn0 := szL_take_le x k
    refine SSr ?_
    refine Wmv rfl rfl rfl rfl (Wmv rfl rfl rfl rfl (WL.ev rfl rfl (Ev.lenS rfl el54 rfl) (WL.ev rfl rfl (Ev.bin rfl rfl rfl Bin.lss) (WL.nil ?_))))
    refine CW.condD rfl (fun h2 => ?_) (fun h2 => ?_)
    · refine CW.skip ?_
      refine CW.seq (CW.block (Sreg ?_))
      refine Wmv rfl rfl rfl rfl (Wmv rfl rfl rfl rfl ?_)
      obtain ⟨xe1, be1, oe1, cse1, hxe1, hAe1, hSe1, hre1, hAte1⟩ := rdS.el hx (i := k) (by omega)
      have hK1 := hre1
      obtain ⟨v1, rfl, hs1⟩ := hre1
      obtain ⟨A2, c2, rfl, hc2, hm2⟩ := hs1.form
      refine WL.ev rfl rfl (Ev.ixA rfl el54 sz118 rfl hAe1 rfl (by omega)) (WL.ev rfl rfl (Ev.ld rfl ag118 rfl ((hAte1.ext hEwr1).cell0 rfl)) (Wmv rfl rfl rfl rfl ?_))
      refine WL.call rfl rfl rfl rfl rfl ok79 rfl (szPhaseS_spec _ xe1 (hs1.ext hEwr1) _ (by omega) (by omega)) ?_
      rintro _ w1 hEw1 ⟨r1, rfl, hr1⟩
      have hq1 := szfold xe1
      refine Wsn rfl rfl rfl rfl ?_
      refine Sreg ?_
      refine Wmv rfl rfl rfl rfl (WL.ev rfl rfl (Ev.bin rfl rfl rfl Bin.lss) (WL.nil ?_))
      refine CW.condD rfl (fun h3 => ?_) (fun h3 => ?_)
      · refine Sreg ?_
        refine Wsn rfl rfl rfl rfl ?_
        refine CW.ret ?_
        refine ⟨_, res1 rfl rfl rfl, (hEwr1.trans hEw1), _, rfl, ?_⟩
        have htk := szL_take_succ hxe1
        have hmn := szL_take_le x (k + 1)
        have hsd : Sz.szd xe1 = szL xe1 := rfl
        try simp only [szfold] at *
        first | omega | (right; exact ⟨by omega, by first | rfl | trivial⟩)
      · refine CW.skip ?_
        refine CW.reg ?_
        refine Wmv rfl rfl rfl rfl (WL.ev rfl rfl (Ev.bin rfl rfl rfl (Bin.add (by omega))) (Wsn rfl rfl rfl rfl ?_))
        have htk := szL_take_succ hxe1
        have hmn := szL_take_le x (k + 1)
        have hsd : Sz.szd xe1 = szL xe1 := rfl
        exact ⟨(k + 1, r1), ⟨rfl, rfl, rfl, trivial⟩, ⟨(hEwr1.trans hEw1), by simp only; omega, by simp only; omega, by simp only; omega⟩, by simp only; omega⟩
    · refine CW.exit ?_
      refine Sreg ?_
      refine Wmv rfl rfl rfl rfl (Wsn rfl rfl rfl rfl ?_)
      refine CW.ret ?_
      refine ⟨_, res1 rfl rfl rfl, hEwr1, _, rfl, ?_⟩
      try have hall := szL_take_all (x := x) (k := k) (by omega)
      try simp only [szfold] at *
      first | omega | (right; exact ⟨by omega, by first | rfl | trivial⟩)

theorem szStep_spec (w : World) {S : Nat → Prop} (x : Step) {cs : List Value} (hx : rd S w x cs) (left : Int) (h0 : 0 ≤ left) (h1 : left ≤ 1048576) :
    Ret Tryz.prog 80 #[.agg cs.toArray, .int .i64 left] w (fun _ => False) fun v _ => ∃ r, v = .int .i64 r ∧ (((Sz.szd x : Nat) : Int) ≤ left ∧ r = left - (Sz.szd x : Nat) ∨ left < (Sz.szd x : Nat) ∧ r = -1) := by
  refine enter Tryz.func80 rfl rfl rfl ?_
  have hK1 := hx
  obtain ⟨rfl, hr1, hr2, hr3, hr4⟩ := hx
  have hsz := Step_szd x
  refine Sreg ?_
  refine WL.box rfl rfl rfl rfl rfl fun b1 w1 hEb1 hbb1 hBb1 => ?_
  refine Wsn rfl rfl rfl rfl ?_
  refine Sreg ?_
  refine Wmv rfl rfl rfl rfl (Wfa rfl rfl rfl fo121_3 rfl (WL.ev rfl rfl (Ev.ld rfl ag9 rfl (hBb1.cell rfl)) (WL.ev rfl rfl (Ev.lenB rfl Tryz.underlying9 rfl) (WL.ev rfl rfl (Ev.bin rfl rfl rfl (Bin.sub (by omega))) (Wsn rfl rfl rfl rfl ?_)))))
  refine SSr ?_
  refine Wmv rfl rfl rfl rfl (WL.ev rfl rfl (Ev.bin rfl rfl rfl Bin.lss) (WL.nil ?_))
  refine CW.condD rfl (fun h1 => ?_) (fun h1 => ?_)
  · refine Sreg ?_
    refine Wsn rfl rfl rfl rfl ?_
    refine CW.ret ?_
    refine ⟨_, res1 rfl rfl rfl, hEb1, _, rfl, ?_⟩
    try simp only [szfold] at *
    first | omega | (right; exact ⟨by omega, by first | rfl | trivial⟩)
  · refine CW.skip ?_
    refine Sreg ?_
    refine Wmv rfl rfl rfl rfl (Wsn rfl rfl rfl rfl ?_)
    refine CW.ret ?_
    refine ⟨_, res1 rfl rfl rfl, hEb1, _, rfl, ?_⟩
    try simp only [szfold] at *
    first | omega | (right; exact ⟨by omega, by first | rfl | trivial⟩)

theorem szStepS_spec (w : World) {S : Nat → Prop} (x : List Step) {z : Value} (hx : rdS S w x z) (left : Int) (h0 : 0 ≤ left) (h1 : left ≤ 1048576) :
    Ret Tryz.prog 21 #[z, .int .i64 left] w (fun _ => False) fun v _ => ∃ r, v = .int .i64 r ∧ (((Sz.szd x : Nat) : Int) ≤ left ∧ r = left - (Sz.szd x : Nat) ∨ left < (Sz.szd x : Nat) ∧ r = -1) := by
  refine enter Tryz.func21 rfl rfl rfl ?_
  obtain ⟨A1, c1, rfl, hc1, hm1⟩ := hx.form
  have hl1 : x.length ≤ 9223372036854775807 := Nat.le_trans hc1 hm1
  have hsz : Sz.szd x = szL x := rfl
  have hlen := szL_length x
  refine Sreg ?_
  refine Wsn rfl rfl rfl rfl ?_
  refine Sreg ?_
  refine Wmv rfl rfl rfl rfl (Wmv rfl rfl rfl rfl (WL.ev rfl rfl (Ev.lenS rfl el55 rfl) (WL.ev rfl rfl (Ev.bin rfl rfl rfl (Bin.sub (by omega))) (Wsn rfl rfl rfl rfl ?_))))
  refine SSr ?_
  refine Wmv rfl rfl rfl rfl (WL.ev rfl rfl (Ev.bin rfl rfl rfl Bin.lss) (WL.nil ?_))
  refine CW.condD rfl (fun h1 => ?_) (fun h1 => ?_)
  · refine Sreg ?_
    refine Wsn rfl rfl rfl rfl ?_
    refine CW.ret ?_
    refine ⟨_, res1 rfl rfl rfl, (Ext.refl _), _, rfl, ?_⟩
    try have hall := szL_take_all (x := x) (k := k) (by omega)
    try simp only [szfold] at *
    first | omega | (right; exact ⟨by omega, by first | rfl | trivial⟩)
  · refine CW.skip ?_
    refine SSr ?_
    refine Wsn rfl rfl rfl rfl ?_
    refine CW.block (CW.loop (α := Nat × Int) (fun q => [(0, .slice A1 x.length c1), (1, .int .i64 q.2), (5, .int .i64 (q.1 : Int))]) (fun q wr => Ext w wr ∧ q.1 ≤ x.length ∧ 0 ≤ q.2 ∧ q.2 + x.length + szL (x.take q.1) = left + q.1) (fun q => x.length - q.1) (0, left - x.length) ⟨rfl, rfl, rfl, trivial⟩ ⟨Ext.refl _, by simp, by simp only; omega, by simp [szL]⟩ ?_)
    rintro ⟨k, l⟩ σ wr1 ⟨hEwr1, hk, hl0, hle⟩
    simp only at hk hl0 hle
    have hmn0 := szL_take_le x k
    refine SSr ?_
    refine Wmv rfl rfl rfl rfl (Wmv rfl rfl rfl rfl (WL.ev rfl rfl (Ev.lenS rfl el55 rfl) (WL.ev rfl rfl (Ev.bin rfl rfl rfl Bin.lss) (WL.nil ?_))))
    refine CW.condD rfl (fun h2 => ?_) (fun h2 => ?_)
    · refine CW.skip ?_
      refine CW.seq (CW.block (Sreg ?_))
      refine Wmv rfl rfl rfl rfl (Wmv rfl rfl rfl rfl ?_)
      obtain ⟨xe1, be1, oe1, cse1, hxe1, hAe1, hSe1, hre1, hAte1⟩ := rdS.el hx (i := k) (by omega)
      have hK1 := hre1
      obtain ⟨rfl, hr1, hr2, hr3, hr4⟩ := hre1
      refine WL.ev rfl rfl (Ev.ixA rfl el55 sz121 rfl hAe1 rfl (by omega)) (WL.ev rfl rfl (Ev.lda rfl ag121 sz121 rfl (hAte1.ext hEwr1) rfl) (Wmv rfl rfl rfl rfl ?_))
      refine WL.call rfl rfl rfl rfl rfl ok80 rfl (szStep_spec _ xe1 (rd_ext hK1 hEwr1) _ (by omega) (by omega)) ?_
      rintro _ w1 hEw1 ⟨r1, rfl, hr5⟩
      have hq1 := Step_szd xe1
      refine Wsn rfl rfl rfl rfl ?_
      refine Sreg ?_
      refine Wmv rfl rfl rfl rfl (WL.ev rfl rfl (Ev.bin rfl rfl rfl Bin.lss) (WL.nil ?_))
      refine CW.condD rfl (fun h3 => ?_) (fun h3 => ?_)
      · refine Sreg ?_
        refine Wsn rfl rfl rfl rfl ?_
        refine CW.ret ?_
        refine ⟨_, res1 rfl rfl rfl, (hEwr1.trans hEw1), _, rfl, ?_⟩
        have htk := szL_take_succ hxe1
        have hmn := szL_take_le x (k + 1)
        try simp only [szfold] at *
        first | omega | (right; exact ⟨by omega, by first | rfl | trivial⟩)
      · refine CW.skip ?_
        refine CW.reg ?_
        refine Wmv rfl rfl rfl rfl (WL.ev rfl rfl (Ev.bin rfl rfl rfl (Bin.add (by omega))) (Wsn rfl rfl rfl rfl ?_))
        have htk := szL_take_succ hxe1
        have hmn := szL_take_le x (k + 1)
        exact ⟨(k + 1, r1), ⟨rfl, rfl, rfl, trivial⟩, ⟨(hEwr1.trans hEw1), by simp only; omega, by simp only; omega, by simp only; omega⟩, by simp only; omega⟩
    · refine CW.exit ?_
      refine Sreg ?_
      refine Wmv rfl rfl rfl rfl (Wsn rfl rfl rfl rfl ?_)
      refine CW.ret ?_
      refine ⟨_, res1 rfl rfl rfl, hEwr1, _, rfl, ?_⟩
      try have hall := szL_take_all (x := x) (k := k) (by omega)
      try simp only [szfold] at *
      first | omega | (right; exact ⟨by omega, by first | rfl | trivial⟩)

theorem toAttribute_spec (w : World) {S : Nat → Prop} (x : Attribute) {cs : List Value} (hx : rd S w x cs) (hlen : Sz.szd x ≤ 1048576) :
    Ret Tryz.prog 207 #[.agg cs.toArray] w (fun _ => False) fun v w' => ∃ cs, v = .agg cs.toArray ∧ New w w' x cs := by
  refine enter Tryz.func207 rfl rfl rfl ?_
  have hK1 := hx
  obtain ⟨rfl, hr1, hr2, hr3⟩ := hx
  rw [Attribute_szd] at hlen
  refine Sreg ?_
  refine WL.box rfl rfl rfl rfl rfl fun b1 w1 hEb1 hbb1 hBb1 => ?_
  refine WL.alloc rfl rfl rfl ze156 fun b2 w2 hEb2 hbb2 hBb2 => ?_
  refine WL.nil ?_
  refine Sreg ?_
  refine WL.alloc rfl rfl rfl ze156 fun b3 w3 hEb3 hbb3 hBb3 => ?_
  refine WL.nil ?_
  refine Sreg ?_
  refine Wfa rfl rfl rfl fo255_0 rfl (WL.ev rfl rfl (Ev.ld rfl ag9 rfl ((hBb1.ext (hEb2.trans hEb3)).cell rfl)) (Wfa rfl rfl rfl fo156_0 rfl ?_))
  refine WL.st rfl rfl rfl sz9 rfl rfl rfl rfl (all1 rfl all0) hBb3 (Nat.le_of_ble_eq_true rfl) fun w4 hCw4 hB_1 => ?_
  have hB_1 : Blk _ _ _ [_, _, _, _] := hB_1
  have hz1 := hBb3.lt
  have hB_2 := Blk.chg1 (hBb1.ext (hEb2.trans hEb3)) hCw4 (by have := hBb1.lt; have := hbb3; have := hEb2.size; omega)
  have hB_3 := Blk.chg1 (hBb2.ext hEb3) hCw4 (by have := hBb2.lt; have := hbb3; omega)
  have hX1 := Ext.chg1 ((hEb1.trans hEb2).trans hEb3) hCw4 (by have := hbb3; have := hEb1.size; have := hEb2.size; omega)
  refine WL.nil ?_
  refine CW.fresh [(1, .pointer (some ⟨b1, 0, none⟩)), (2, .pointer (some ⟨b2, 0, none⟩)), (3, .pointer (some ⟨b3, 0, none⟩))] ⟨rfl, rfl, rfl, trivial⟩ fun σ => ?_
  refine Sreg ?_
  refine Wfa rfl rfl rfl fo255_1 rfl (WL.ev rfl rfl (Ev.ld rfl ag3 rfl (hB_2.cell rfl)) (Wfa rfl rfl rfl fo156_1 rfl ?_))
  refine WL.st rfl rfl rfl sz3 rfl rfl rfl rfl (all1 rfl all0) hB_1 (Nat.le_of_ble_eq_true rfl) fun w5 hCw5 hB_4 => ?_
  have hB_4 : Blk _ _ _ [_, _, _, _] := hB_4
  have hz2 := hB_1.lt
  have hB_5 := Blk.chg1 hB_2 hCw5 (by have := hBb1.lt; have := hbb3; have := hEb2.size; omega)
  have hB_6 := Blk.chg1 hB_3 hCw5 (by have := hBb2.lt; have := hbb3; omega)
  have hX2 := Ext.chg1 hX1 hCw5 (by have := hbb3; have := hEb1.size; have := hEb2.size; omega)
  refine WL.nil ?_
  refine CW.fresh [(1, .pointer (some ⟨b1, 0, none⟩)), (2, .pointer (some ⟨b2, 0, none⟩)), (3, .pointer (some ⟨b3, 0, none⟩))] ⟨rfl, rfl, rfl, trivial⟩ fun σ => ?_
  refine Sreg ?_
  refine Wfa rfl rfl rfl fo255_2 rfl (WL.ev rfl rfl (Ev.ld rfl ag3 rfl (hB_5.cell rfl)) (Wfa rfl rfl rfl fo156_2 rfl ?_))
  refine WL.st rfl rfl rfl sz3 rfl rfl rfl rfl (all1 rfl all0) hB_4 (Nat.le_of_ble_eq_true rfl) fun w6 hCw6 hB_7 => ?_
  have hB_7 : Blk _ _ _ [_, _, _, _] := hB_7
  have hz3 := hB_4.lt
  have hB_8 := Blk.chg1 hB_5 hCw6 (by have := hBb1.lt; have := hbb3; have := hEb2.size; omega)
  have hB_9 := Blk.chg1 hB_6 hCw6 (by have := hBb2.lt; have := hbb3; omega)
  have hX3 := Ext.chg1 hX2 hCw6 (by have := hbb3; have := hEb1.size; have := hEb2.size; omega)
  refine WL.nil ?_
  refine CW.fresh [(1, .pointer (some ⟨b1, 0, none⟩)), (2, .pointer (some ⟨b2, 0, none⟩)), (3, .pointer (some ⟨b3, 0, none⟩))] ⟨rfl, rfl, rfl, trivial⟩ fun σ => ?_
  refine Sreg ?_
  refine Wfa rfl rfl rfl fo255_3 rfl (WL.ev rfl rfl (Ev.ld rfl ag4 rfl (hB_8.cell rfl)) (Wfa rfl rfl rfl fo156_3 rfl ?_))
  refine WL.st rfl rfl rfl sz4 rfl rfl rfl rfl (all1 rfl all0) hB_7 (Nat.le_of_ble_eq_true rfl) fun w7 hCw7 hB_10 => ?_
  have hB_10 : Blk _ _ _ [_, _, _, _] := hB_10
  have hz4 := hB_7.lt
  have hB_11 := Blk.chg1 hB_8 hCw7 (by have := hBb1.lt; have := hbb3; have := hEb2.size; omega)
  have hB_12 := Blk.chg1 hB_9 hCw7 (by have := hBb2.lt; have := hbb3; omega)
  have hX4 := Ext.chg1 hX3 hCw7 (by have := hbb3; have := hEb1.size; have := hEb2.size; omega)
  refine WL.nil ?_
  refine CW.fresh [(2, .pointer (some ⟨b2, 0, none⟩)), (3, .pointer (some ⟨b3, 0, none⟩))] ⟨rfl, rfl, trivial⟩ fun σ => ?_
  refine Sreg ?_
  refine WL.ev rfl rfl (Ev.lda rfl ag156 sz156 rfl (At.blk hB_10) rfl) ?_
  refine WL.st rfl rfl rfl sz156 rfl rfl rfl rfl (all1 rfl (all1 rfl (all1 rfl (all1 rfl all0)))) hB_12 (Nat.le_of_ble_eq_true rfl) fun w8 hCw8 hB_13 => ?_
  have hB_13 : Blk _ _ _ [_, _, _, _] := hB_13
  have hz5 := hB_12.lt
  have hB_14 := Blk.chg1 hB_11 hCw8 (by have := hBb1.lt; have := hbb2; omega)
  have hB_15 := Blk.chg1 hB_10 hCw8 (by have := hBb2.lt; have := hbb3; omega)
  have hX5 := Ext.chg1 hX4 hCw8 (by have := hbb2; have := hEb1.size; omega)
  refine WL.nil ?_
  refine CW.ret ?_
  exact ⟨_, resC rfl ag156 sz156 rfl rfl (At.blk hB_13) rfl, hX5, _, rfl, _, ⟨rfl, by first | assumption | omega, by first | assumption | omega, by first | assumption | omega, rfl⟩, List.nodup_nil, by simp⟩

theorem toAttributeS_spec (w : World) {S : Nat → Prop} (x : List Attribute) {z : Value} (hx : rdS S w x z) (hlen : szL x ≤ 1048576) :
    Ret Tryz.prog 169 #[z] w (fun _ => False) fun v w' => NewS w w' x v := by
  refine enter Tryz.func169 rfl rfl rfl ?_
  obtain ⟨A1, c1, rfl, hc1, hm1⟩ := hx.form
  have hl1 : x.length ≤ 9223372036854775807 := Nat.le_trans hc1 hm1
  have hln := szL_length x
  refine Sreg ?_
  refine Wsn rfl rfl rfl rfl ?_
  refine Sreg ?_
  refine Wmv rfl rfl rfl rfl (WL.ev rfl rfl (Ev.lenS rfl el170 rfl) ?_)
  refine WL.mk rfl rfl rfl el81 sz156 by156 ze156 rfl rfl rfl (by omega) (by omega) fun g w1 hE1 hg hBg => ?_
  refine Wsn rfl rfl rfl rfl ?_
  refine SSr ?_
  refine Wsn rfl rfl rfl rfl ?_
  refine CW.block (CW.loop (α := Nat × List Value × List Nat) (fun q => [(0, .slice A1 x.length c1), (3, .slice (some ⟨g, 0, none⟩) x.length x.length), (4, .int .i64 (q.1 : Int))]) (fun q wr => Ext w wr ∧ ToInv wr g 156 [.string ⟨#[]⟩, .int .i64 0, .int .i64 0, .bool false] x q.1 q.2.1 q.2.2) (fun q => x.length - q.1) (0, [], []) ⟨rfl, rfl, rfl, trivial⟩ ⟨hE1, ToInv.init hBg⟩ ?_)
  rintro ⟨k, cs, L⟩ σ wr1 ⟨hEwr1, hI⟩
  simp only at hI
  have hk := hI.le
  refine SSr ?_
  refine Wmv rfl rfl rfl rfl (Wmv rfl rfl rfl rfl (WL.ev rfl rfl (Ev.lenS rfl el170 rfl) (WL.ev rfl rfl (Ev.bin rfl rfl rfl Bin.lss) (WL.nil ?_))))
  refine CW.condD rfl (fun h1 => ?_) (fun h1 => ?_)
  · refine CW.skip ?_
    refine CW.seq (CW.block (CW.reg ?_))
    refine Wmv rfl rfl rfl rfl (Wmv rfl rfl rfl rfl (Wmv rfl rfl rfl rfl (Wmv rfl rfl rfl rfl ?_)))
    obtain ⟨xe1, be1, oe1, cse1, hxe1, hAe1, hSe1, hre1, hAte1⟩ := rdS.el hx (i := k) (by omega)
    have hK1 := hre1
    obtain ⟨rfl, hr1, hr2, hr3⟩ := hre1
    refine WL.ev rfl rfl (Ev.ixA rfl el170 sz255 rfl hAe1 rfl (by omega)) (WL.ev rfl rfl (Ev.lda rfl ag255 sz255 rfl (hAte1.ext hEwr1) rfl) ?_)
    refine WL.call rfl rfl rfl rfl rfl ok207 rfl (toAttribute_spec _ xe1 (rd_ext hK1 hEwr1) (by have := szL_get hxe1; (try simp only [szfold] at *); omega)) ?_
    rintro _ w1 hEw1 ⟨cs1, rfl, L1, hO1, hN1, hF1⟩
    refine WL.ev rfl rfl (Ev.ix rfl el81 sz156 rfl rfl (by omega)) ?_
    refine WL.stTo rfl rfl rfl sz156 rfl rfl rfl (hI.ext hEw1) hxe1 hO1 hN1 (hI.fresh hF1) rfl fun w2 hCw2 hI2 => ?_
    have hX1 := Ext.chg1 (hEwr1.trans hEw1) hCw2 (by have := hE1.size; omega)
    refine WL.nil ?_
    refine CW.reg ?_
    refine Wmv rfl rfl rfl rfl (WL.ev rfl rfl (Ev.bin rfl rfl rfl (Bin.add (by omega))) (Wsn rfl rfl rfl rfl ?_))
    exact ⟨(k + 1, _, _), ⟨rfl, rfl, rfl, trivial⟩, ⟨hX1, hI2⟩, by simp only; omega⟩
  · refine CW.exit ?_
    refine Sreg ?_
    refine Wmv rfl rfl rfl rfl (Wsn rfl rfl rfl rfl ?_)
    refine CW.ret ?_
    exact ⟨_, res1 rfl rfl rfl, hEwr1, hI.new (by omega) (by unfold maxLen; omega) hg⟩

theorem toSymbol_spec (w : World) {S : Nat → Prop} (x : Symbol) {cs : List Value} (hx : rd S w x cs) (hlen : Sz.szd x ≤ 1048576) :
    Ret Tryz.prog 122 #[.agg cs.toArray] w (fun _ => False) fun v w' => ∃ cs, v = .agg cs.toArray ∧ New w w' x cs := by
  refine enter Tryz.func122 rfl rfl rfl ?_
  have hK1 := hx
  obtain ⟨v1, rfl, hr1, hs1⟩ := hx
  obtain ⟨A1, c1, rfl, hc1, hm1⟩ := hs1.form
  rw [Symbol_szd] at hlen
  refine Sreg ?_
  refine WL.box rfl rfl rfl rfl rfl fun b1 w1 hEb1 hbb1 hBb1 => ?_
  refine WL.alloc rfl rfl rfl ze161 fun b2 w2 hEb2 hbb2 hBb2 => ?_
  refine WL.nil ?_
  refine Sreg ?_
  refine WL.alloc rfl rfl rfl ze161 fun b3 w3 hEb3 hbb3 hBb3 => ?_
  refine WL.nil ?_
  refine Sreg ?_
  refine Wfa rfl rfl rfl fo172_0 rfl (WL.ev rfl rfl (Ev.ld rfl ag9 rfl ((hBb1.ext (hEb2.trans hEb3)).cell rfl)) (Wfa rfl rfl rfl fo161_0 rfl ?_))
  refine WL.st rfl rfl rfl sz9 rfl rfl rfl rfl (all1 rfl all0) hBb3 (Nat.le_of_ble_eq_true rfl) fun w4 hCw4 hB_1 => ?_
  have hB_1 : Blk _ _ _ [_, _] := hB_1
  have hz1 := hBb3.lt
  have hB_2 := Blk.chg1 (hBb1.ext (hEb2.trans hEb3)) hCw4 (by have := hBb1.lt; have := hbb3; have := hEb2.size; omega)
  have hB_3 := Blk.chg1 (hBb2.ext hEb3) hCw4 (by have := hBb2.lt; have := hbb3; omega)
  have hX1 := Ext.chg1 ((hEb1.trans hEb2).trans hEb3) hCw4 (by have := hbb3; have := hEb1.size; have := hEb2.size; omega)
  refine WL.nil ?_
  refine CW.fresh [(1, .pointer (some ⟨b1, 0, none⟩)), (2, .pointer (some ⟨b2, 0, none⟩)), (3, .pointer (some ⟨b3, 0, none⟩))] ⟨rfl, rfl, rfl, trivial⟩ fun σ => ?_
  refine Sreg ?_
  refine Wfa rfl rfl rfl fo172_1 rfl (WL.ev rfl rfl (Ev.ld rfl ag170 rfl (hB_2.cell rfl)) ?_)
  refine WL.call rfl rfl rfl rfl rfl ok169 rfl (toAttributeS_spec _ x.Attributes (hs1.ext hX1) (by omega)) ?_
  rintro v2 w5 hEw5 ⟨L1, hO1, hN1, hF1⟩
  obtain ⟨A2, c2, rfl, hc2, hm2⟩ := hO1.form
  refine Wfa rfl rfl rfl fo161_1 rfl ?_
  refine WL.st rfl rfl rfl sz81 rfl rfl rfl rfl (all1 rfl all0) (hB_1.ext hEw5) (Nat.le_of_ble_eq_true rfl) fun w6 hCw6 hB_4 => ?_
  have hB_4 : Blk _ _ _ [_, _] := hB_4
  have hz2 := (hB_1.ext hEw5).lt
  have hB_5 := Blk.chg1 (hB_2.ext hEw5) hCw6 (by have := hBb1.lt; have := hbb3; have := hEb2.size; omega)
  have hB_6 := Blk.chg1 (hB_3.ext hEw5) hCw6 (by have := hBb2.lt; have := hbb3; omega)
  have hO_1 := ownS.chg1 hO1 hCw6 (fun q hq e => by subst e; have := hF1 _ hq; have := hBb3.lt; have := hCw4.size; omega)
  have hX2 := Ext.chg1 (hX1.trans hEw5) hCw6 (by have := hbb3; have := hEb1.size; have := hEb2.size; omega)
  refine WL.nil ?_
  refine CW.fresh [(2, .pointer (some ⟨b2, 0, none⟩)), (3, .pointer (some ⟨b3, 0, none⟩))] ⟨rfl, rfl, trivial⟩ fun σ => ?_
  refine Sreg ?_
  refine WL.ev rfl rfl (Ev.lda rfl ag161 sz161 rfl (At.blk hB_4) rfl) ?_
  refine WL.st rfl rfl rfl sz161 rfl rfl rfl rfl (all1 rfl (all1 rfl all0)) hB_6 (Nat.le_of_ble_eq_true rfl) fun w7 hCw7 hB_7 => ?_
  have hB_7 : Blk _ _ _ [_, _] := hB_7
  have hz3 := hB_6.lt
  have hB_8 := Blk.chg1 hB_5 hCw7 (by have := hBb1.lt; have := hbb2; omega)
  have hB_9 := Blk.chg1 hB_4 hCw7 (by have := hBb2.lt; have := hbb3; omega)
  have hO_2 := ownS.chg1 hO_1 hCw7 (fun q hq e => by subst e; have := hF1 _ hq; have := hBb2.lt; have := hEb3.size; have := hCw4.size; omega)
  have hX3 := Ext.chg1 hX2 hCw7 (by have := hbb2; have := hEb1.size; omega)
  refine WL.nil ?_
  refine CW.ret ?_
  exact ⟨_, resC rfl ag161 sz161 rfl rfl (At.blk hB_7) rfl, hX3, _, rfl, _, ⟨_, _, rfl, by first | assumption | omega, rfl, hO_2⟩, hN1, fun q hq => by first | (have := hF1 _ hq; have := hEb1.size; have := hEb2.size; have := hEb3.size; have := hCw4.size; omega)⟩

theorem toSymbolS_spec (w : World) {S : Nat → Prop} (x : List Symbol) {z : Value} (hx : rdS S w x z) (hlen : szL x ≤ 1048576) :
    Ret Tryz.prog 56 #[z] w (fun _ => False) fun v w' => NewS w w' x v := by
  refine enter Tryz.func56 rfl rfl rfl ?_
  obtain ⟨A1, c1, rfl, hc1, hm1⟩ := hx.form
  have hl1 : x.length ≤ 9223372036854775807 := Nat.le_trans hc1 hm1
  have hln := szL_length x
  refine Sreg ?_
  refine Wsn rfl rfl rfl rfl ?_
  refine Sreg ?_
  refine Wmv rfl rfl rfl rfl (WL.ev rfl rfl (Ev.lenS rfl el22 rfl) ?_)
  refine WL.mk rfl rfl rfl el37 sz161 by161 ze161 rfl rfl rfl (by omega) (by omega) fun g w1 hE1 hg hBg => ?_
  refine Wsn rfl rfl rfl rfl ?_
  refine SSr ?_
  refine Wsn rfl rfl rfl rfl ?_
  refine CW.block (CW.loop (α := Nat × List Value × List Nat) (fun q => [(0, .slice A1 x.length c1), (3, .slice (some ⟨g, 0, none⟩) x.length x.length), (4, .int .i64 (q.1 : Int))]) (fun q wr => Ext w wr ∧ ToInv wr g 161 [.string ⟨#[]⟩, .slice none 0 0] x q.1 q.2.1 q.2.2) (fun q => x.length - q.1) (0, [], []) ⟨rfl, rfl, rfl, trivial⟩ ⟨hE1, ToInv.init hBg⟩ ?_)
  rintro ⟨k, cs, L⟩ σ wr1 ⟨hEwr1, hI⟩
  simp only at hI
  have hk := hI.le
  refine SSr ?_
  refine Wmv rfl rfl rfl rfl (Wmv rfl rfl rfl rfl (WL.ev rfl rfl (Ev.lenS rfl el22 rfl) (WL.ev rfl rfl (Ev.bin rfl rfl rfl Bin.lss) (WL.nil ?_))))
  refine CW.condD rfl (fun h1 => ?_) (fun h1 => ?_)
  · refine CW.skip ?_
    refine CW.seq (CW.block (CW.reg ?_))
    refine Wmv rfl rfl rfl rfl (Wmv rfl rfl rfl rfl (Wmv rfl rfl rfl rfl (Wmv rfl rfl rfl rfl ?_)))
    obtain ⟨xe1, be1, oe1, cse1, hxe1, hAe1, hSe1, hre1, hAte1⟩ := rdS.el hx (i := k) (by omega)
    have hK1 := hre1
    obtain ⟨v1, rfl, hr1, hs1⟩ := hre1
    obtain ⟨A2, c2, rfl, hc2, hm2⟩ := hs1.form
    refine WL.ev rfl rfl (Ev.ixA rfl el22 sz172 rfl hAe1 rfl (by omega)) (WL.ev rfl rfl (Ev.lda rfl ag172 sz172 rfl (hAte1.ext hEwr1) rfl) ?_)
    refine WL.call rfl rfl rfl rfl rfl ok122 rfl (toSymbol_spec _ xe1 (rd_ext hK1 hEwr1) (by have := szL_get hxe1; (try simp only [szfold] at *); omega)) ?_
    rintro _ w1 hEw1 ⟨cs1, rfl, L1, hO1, hN1, hF1⟩
    refine WL.ev rfl rfl (Ev.ix rfl el37 sz161 rfl rfl (by omega)) ?_
    refine WL.stTo rfl rfl rfl sz161 rfl rfl rfl (hI.ext hEw1) hxe1 hO1 hN1 (hI.fresh hF1) rfl fun w2 hCw2 hI2 => ?_
    have hX1 := Ext.chg1 (hEwr1.trans hEw1) hCw2 (by have := hE1.size; omega)
    refine WL.nil ?_
    refine CW.reg ?_
    refine Wmv rfl rfl rfl rfl (WL.ev rfl rfl (Ev.bin rfl rfl rfl (Bin.add (by omega))) (Wsn rfl rfl rfl rfl ?_))
    exact ⟨(k + 1, _, _), ⟨rfl, rfl, rfl, trivial⟩, ⟨hX1, hI2⟩, by simp only; omega⟩
  · refine CW.exit ?_
    refine Sreg ?_
    refine Wmv rfl rfl rfl rfl (Wsn rfl rfl rfl rfl ?_)
    refine CW.ret ?_
    exact ⟨_, res1 rfl rfl rfl, hEwr1, hI.new (by omega) (by unfold maxLen; omega) hg⟩

theorem toStringS_spec (w : World) {S : Nat → Prop} (x : List ByteArray) {z : Value} (hx : rdS S w x z) (hlen : szL x ≤ 1048576) :
    Ret Tryz.prog 58 #[z] w (fun _ => False) fun v w' => NewS w w' x v := by
  refine enter Tryz.func58 rfl rfl rfl ?_
  obtain ⟨A1, c1, rfl, hc1, hm1⟩ := hx.form
  have hl1 : x.length ≤ 9223372036854775807 := Nat.le_trans hc1 hm1
  have hln := szL_length x
  refine Sreg ?_
  refine Wsn rfl rfl rfl rfl ?_
  refine Sreg ?_
  refine Wmv rfl rfl rfl rfl (WL.ev rfl rfl (Ev.lenS rfl el26 rfl) ?_)
  refine WL.mk rfl rfl rfl el26 sz9 by9 ze9 rfl rfl rfl (by omega) (by omega) fun g w1 hE1 hg hBg => ?_
  refine Wsn rfl rfl rfl rfl ?_
  refine SSr ?_
  refine Wsn rfl rfl rfl rfl ?_
  refine CW.block (CW.loop (α := Nat × List Value × List Nat) (fun q => [(0, .slice A1 x.length c1), (3, .slice (some ⟨g, 0, none⟩) x.length x.length), (4, .int .i64 (q.1 : Int))]) (fun q wr => Ext w wr ∧ ToInv wr g 9 [.string ⟨#[]⟩] x q.1 q.2.1 q.2.2) (fun q => x.length - q.1) (0, [], []) ⟨rfl, rfl, rfl, trivial⟩ ⟨hE1, ToInv.init hBg⟩ ?_)
  rintro ⟨k, cs, L⟩ σ wr1 ⟨hEwr1, hI⟩
  simp only at hI
  have hk := hI.le
  refine SSr ?_
  refine Wmv rfl rfl rfl rfl (Wmv rfl rfl rfl rfl (WL.ev rfl rfl (Ev.lenS rfl el26 rfl) (WL.ev rfl rfl (Ev.bin rfl rfl rfl Bin.lss) (WL.nil ?_))))
  refine CW.condD rfl (fun h1 => ?_) (fun h1 => ?_)
  · refine CW.skip ?_
    refine CW.seq (CW.block (CW.reg ?_))
    refine Wmv rfl rfl rfl rfl (Wmv rfl rfl rfl rfl (Wmv rfl rfl rfl rfl (Wmv rfl rfl rfl rfl ?_)))
    obtain ⟨xe1, be1, oe1, cse1, hxe1, hAe1, hSe1, hre1, hAte1⟩ := rdS.el hx (i := k) (by omega)
    have hK1 := hre1
    obtain ⟨rfl, hr1⟩ := hre1
    refine WL.ev rfl rfl (Ev.ixA rfl el26 sz9 rfl hAe1 rfl (by omega)) (WL.ev rfl rfl (Ev.ld rfl ag9 rfl ((hAte1.ext hEwr1).cell0 rfl)) (WL.ev rfl rfl (Ev.ix rfl el26 sz9 rfl rfl (by omega)) ?_))
    refine WL.stTo rfl rfl rfl sz9 rfl rfl rfl hI hxe1 (New.str hr1) List.nodup_nil (by simp) rfl fun w1 hCw1 hI2 => ?_
    have hX1 := Ext.chg1 hEwr1 hCw1 (by have := hE1.size; omega)
    refine WL.nil ?_
    refine CW.reg ?_
    refine Wmv rfl rfl rfl rfl (WL.ev rfl rfl (Ev.bin rfl rfl rfl (Bin.add (by omega))) (Wsn rfl rfl rfl rfl ?_))
    exact ⟨(k + 1, _, _), ⟨rfl, rfl, rfl, trivial⟩, ⟨hX1, hI2⟩, by simp only; omega⟩
  · refine CW.exit ?_
    refine Sreg ?_
    refine Wmv rfl rfl rfl rfl (Wsn rfl rfl rfl rfl ?_)
    refine CW.ret ?_
    exact ⟨_, res1 rfl rfl rfl, hEwr1, hI.new (by omega) (by unfold maxLen; omega) hg⟩

theorem toOccurrence_spec (w : World) {S : Nat → Prop} (x : Occurrence) {cs : List Value} (hx : rd S w x cs) (hlen : Sz.szd x ≤ 1048576) :
    Ret Tryz.prog 170 #[.agg cs.toArray] w (fun _ => False) fun v w' => ∃ cs, v = .agg cs.toArray ∧ New w w' x cs := by
  refine enter Tryz.func170 rfl rfl rfl ?_
  have hK1 := hx
  obtain ⟨rfl, hr1, hr2⟩ := hx
  rw [Occurrence_szd] at hlen
  refine Sreg ?_
  refine WL.box rfl rfl rfl rfl rfl fun b1 w1 hEb1 hbb1 hBb1 => ?_
  refine WL.alloc rfl rfl rfl ze90 fun b2 w2 hEb2 hbb2 hBb2 => ?_
  refine WL.nil ?_
  refine Sreg ?_
  refine WL.alloc rfl rfl rfl ze90 fun b3 w3 hEb3 hbb3 hBb3 => ?_
  refine WL.nil ?_
  refine Sreg ?_
  refine Wfa rfl rfl rfl fo174_0 rfl (WL.ev rfl rfl (Ev.ld rfl ag3 rfl ((hBb1.ext (hEb2.trans hEb3)).cell rfl)) (Wfa rfl rfl rfl fo90_0 rfl ?_))
  refine WL.st rfl rfl rfl sz3 rfl rfl rfl rfl (all1 rfl all0) hBb3 (Nat.le_of_ble_eq_true rfl) fun w4 hCw4 hB_1 => ?_
  have hB_1 : Blk _ _ _ [_, _] := hB_1
  have hz1 := hBb3.lt
  have hB_2 := Blk.chg1 (hBb1.ext (hEb2.trans hEb3)) hCw4 (by have := hBb1.lt; have := hbb3; have := hEb2.size; omega)
  have hB_3 := Blk.chg1 (hBb2.ext hEb3) hCw4 (by have := hBb2.lt; have := hbb3; omega)
  have hX1 := Ext.chg1 ((hEb1.trans hEb2).trans hEb3) hCw4 (by have := hbb3; have := hEb1.size; have := hEb2.size; omega)
  refine WL.nil ?_
  refine CW.fresh [(1, .pointer (some ⟨b1, 0, none⟩)), (2, .pointer (some ⟨b2, 0, none⟩)), (3, .pointer (some ⟨b3, 0, none⟩))] ⟨rfl, rfl, rfl, trivial⟩ fun σ => ?_
  refine Sreg ?_
  refine Wfa rfl rfl rfl fo174_1 rfl (WL.ev rfl rfl (Ev.ld rfl ag9 rfl (hB_2.cell rfl)) (Wfa rfl rfl rfl fo90_1 rfl ?_))
  refine WL.st rfl rfl rfl sz9 rfl rfl rfl rfl (all1 rfl all0) hB_1 (Nat.le_of_ble_eq_true rfl) fun w5 hCw5 hB_4 => ?_
  have hB_4 : Blk _ _ _ [_, _] := hB_4
  have hz2 := hB_1.lt
  have hB_5 := Blk.chg1 hB_2 hCw5 (by have := hBb1.lt; have := hbb3; have := hEb2.size; omega)
  have hB_6 := Blk.chg1 hB_3 hCw5 (by have := hBb2.lt; have := hbb3; omega)
  have hX2 := Ext.chg1 hX1 hCw5 (by have := hbb3; have := hEb1.size; have := hEb2.size; omega)
  refine WL.nil ?_
  refine CW.fresh [(2, .pointer (some ⟨b2, 0, none⟩)), (3, .pointer (some ⟨b3, 0, none⟩))] ⟨rfl, rfl, trivial⟩ fun σ => ?_
  refine Sreg ?_
  refine WL.ev rfl rfl (Ev.lda rfl ag90 sz90 rfl (At.blk hB_4) rfl) ?_
  refine WL.st rfl rfl rfl sz90 rfl rfl rfl rfl (all1 rfl (all1 rfl all0)) hB_6 (Nat.le_of_ble_eq_true rfl) fun w6 hCw6 hB_7 => ?_
  have hB_7 : Blk _ _ _ [_, _] := hB_7
  have hz3 := hB_6.lt
  have hB_8 := Blk.chg1 hB_5 hCw6 (by have := hBb1.lt; have := hbb2; omega)
  have hB_9 := Blk.chg1 hB_4 hCw6 (by have := hBb2.lt; have := hbb3; omega)
  have hX3 := Ext.chg1 hX2 hCw6 (by have := hbb2; have := hEb1.size; omega)
  refine WL.nil ?_
  refine CW.ret ?_
  exact ⟨_, resC rfl ag90 sz90 rfl rfl (At.blk hB_7) rfl, hX3, _, rfl, _, ⟨rfl, by first | assumption | omega, by first | assumption | omega, rfl⟩, List.nodup_nil, by simp⟩

theorem toExprS_step (w : World) {S : Nat → Prop} (x : List Expr) {z : Value} (hx : rdS S w x z) (hlen : szL x ≤ 1048576) (ih : ∀ x0 ∈ x, ∀ (w : World) {S : Nat → Prop} {cs : List Value} (hx : rd S w x0 cs) (hlen : Sz.szd x0 ≤ 1048576), Ret Tryz.prog 171 #[.agg cs.toArray] w (fun _ => False) fun v w' => ∃ cs, v = .agg cs.toArray ∧ New w w' x0 cs) :
    Ret Tryz.prog 208 #[z] w (fun _ => False) fun v w' => NewS w w' x v := by
  refine enter Tryz.func208 rfl rfl rfl ?_
  obtain ⟨A1, c1, rfl, hc1, hm1⟩ := hx.form
  have hl1 : x.length ≤ 9223372036854775807 := Nat.le_trans hc1 hm1
  have hln := szL_length x
  refine Sreg ?_
  refine Wsn rfl rfl rfl rfl ?_
  refine Sreg ?_
  refine Wmv rfl rfl rfl rfl (WL.ev rfl rfl (Ev.lenS rfl el175 rfl) ?_)
  refine WL.mk rfl rfl rfl el84 sz86 by86 ze86 rfl rfl rfl (by omega) (by omega) fun g w1 hE1 hg hBg => ?_
  refine Wsn rfl rfl rfl rfl ?_
  refine SSr ?_
  refine Wsn rfl rfl rfl rfl ?_
  refine CW.block (CW.loop (α := Nat × List Value × List Nat) (fun q => [(0, .slice A1 x.length c1), (3, .slice (some ⟨g, 0, none⟩) x.length x.length), (4, .int .i64 (q.1 : Int))]) (fun q wr => Ext w wr ∧ ToInv wr g 86 [.int .i64 0, .int .i64 0, .int .i64 0, .int .i64 0, .string ⟨#[]⟩, .string ⟨#[]⟩, .slice none 0 0] x q.1 q.2.1 q.2.2) (fun q => x.length - q.1) (0, [], []) ⟨rfl, rfl, rfl, trivial⟩ ⟨hE1, ToInv.init hBg⟩ ?_)
  rintro ⟨k, cs, L⟩ σ wr1 ⟨hEwr1, hI⟩
  simp only at hI
  have hk := hI.le
  refine SSr ?_
  refine Wmv rfl rfl rfl rfl (Wmv rfl rfl rfl rfl (WL.ev rfl rfl (Ev.lenS rfl el175 rfl) (WL.ev rfl rfl (Ev.bin rfl rfl rfl Bin.lss) (WL.nil ?_))))
  refine CW.condD rfl (fun h1 => ?_) (fun h1 => ?_)
  · refine CW.skip ?_
    refine CW.seq (CW.block (CW.reg ?_))
    refine Wmv rfl rfl rfl rfl (Wmv rfl rfl rfl rfl (Wmv rfl rfl rfl rfl (Wmv rfl rfl rfl rfl ?_)))
    obtain ⟨xe1, be1, oe1, cse1, hxe1, hAe1, hSe1, hre1, hAte1⟩ := rdS.el hx (i := k) (by omega)
    have hK1 := hre1
    obtain ⟨v1, rfl, hr1, hr2, hr3, hr4, hr5, hr6, hs1⟩ := Expr_rd.1 hre1
    obtain ⟨A2, c2, rfl, hc2, hm2⟩ := hs1.form
    refine WL.ev rfl rfl (Ev.ixA rfl el175 sz177 rfl hAe1 rfl (by omega)) (WL.ev rfl rfl (Ev.lda rfl ag177 sz177 rfl (hAte1.ext hEwr1) rfl) ?_)
    refine WL.call rfl rfl rfl rfl rfl ok171 rfl (ih xe1 (List.mem_of_getElem? hxe1) _ (rd_ext hK1 hEwr1) (by have := szL_get hxe1; (try simp only [szfold] at *); omega)) ?_
    rintro _ w1 hEw1 ⟨cs1, rfl, L1, hO1, hN1, hF1⟩
    refine WL.ev rfl rfl (Ev.ix rfl el84 sz86 rfl rfl (by omega)) ?_
    refine WL.stTo rfl rfl rfl sz86 rfl rfl rfl (hI.ext hEw1) hxe1 hO1 hN1 (hI.fresh hF1) rfl fun w2 hCw2 hI2 => ?_
    have hX1 := Ext.chg1 (hEwr1.trans hEw1) hCw2 (by have := hE1.size; omega)
    refine WL.nil ?_
    refine CW.reg ?_
    refine Wmv rfl rfl rfl rfl (WL.ev rfl rfl (Ev.bin rfl rfl rfl (Bin.add (by omega))) (Wsn rfl rfl rfl rfl ?_))
    exact ⟨(k + 1, _, _), ⟨rfl, rfl, rfl, trivial⟩, ⟨hX1, hI2⟩, by simp only; omega⟩
  · refine CW.exit ?_
    refine Sreg ?_
    refine Wmv rfl rfl rfl rfl (Wsn rfl rfl rfl rfl ?_)
    refine CW.ret ?_
    exact ⟨_, res1 rfl rfl rfl, hEwr1, hI.new (by omega) (by unfold maxLen; omega) hg⟩

theorem toExpr_step (w : World) {S : Nat → Prop} (x : Expr) {cs : List Value} (hx : rd S w x cs) (hlen : Sz.szd x ≤ 1048576) (ih : ∀ x0 ∈ x.Args, ∀ (w : World) {S : Nat → Prop} {cs : List Value} (hx : rd S w x0 cs) (hlen : Sz.szd x0 ≤ 1048576), Ret Tryz.prog 171 #[.agg cs.toArray] w (fun _ => False) fun v w' => ∃ cs, v = .agg cs.toArray ∧ New w w' x0 cs) :
    Ret Tryz.prog 171 #[.agg cs.toArray] w (fun _ => False) fun v w' => ∃ cs, v = .agg cs.toArray ∧ New w w' x cs := by
  refine enter Tryz.func171 rfl rfl rfl ?_
  have hK1 := hx
  obtain ⟨v1, rfl, hr1, hr2, hr3, hr4, hr5, hr6, hs1⟩ := Expr_rd.1 hx
  obtain ⟨A1, c1, rfl, hc1, hm1⟩ := hs1.form
  rw [Expr_szd] at hlen
  refine Sreg ?_
  refine WL.box rfl rfl rfl rfl rfl fun b1 w1 hEb1 hbb1 hBb1 => ?_
  refine WL.alloc rfl rfl rfl ze86 fun b2 w2 hEb2 hbb2 hBb2 => ?_
  refine WL.nil ?_
  refine Sreg ?_
  refine WL.alloc rfl rfl rfl ze86 fun b3 w3 hEb3 hbb3 hBb3 => ?_
  refine WL.nil ?_
  refine Sreg ?_
  refine Wfa rfl rfl rfl fo177_0 rfl (WL.ev rfl rfl (Ev.ld rfl ag3 rfl ((hBb1.ext (hEb2.trans hEb3)).cell rfl)) (Wfa rfl rfl rfl fo86_0 rfl ?_))
  refine WL.st rfl rfl rfl sz3 rfl rfl rfl rfl (all1 rfl all0) hBb3 (Nat.le_of_ble_eq_true rfl) fun w4 hCw4 hB_1 => ?_
  have hB_1 : Blk _ _ _ [_, _, _, _, _, _, _] := hB_1
  have hz1 := hBb3.lt
  have hB_2 := Blk.chg1 (hBb1.ext (hEb2.trans hEb3)) hCw4 (by have := hBb1.lt; have := hbb3; have := hEb2.size; omega)
  have hB_3 := Blk.chg1 (hBb2.ext hEb3) hCw4 (by have := hBb2.lt; have := hbb3; omega)
  have hX1 := Ext.chg1 ((hEb1.trans hEb2).trans hEb3) hCw4 (by have := hbb3; have := hEb1.size; have := hEb2.size; omega)
  refine WL.nil ?_
  refine CW.fresh [(1, .pointer (some ⟨b1, 0, none⟩)), (2, .pointer (some ⟨b2, 0, none⟩)), (3, .pointer (some ⟨b3, 0, none⟩))] ⟨rfl, rfl, rfl, trivial⟩ fun σ => ?_
  refine Sreg ?_
  refine Wfa rfl rfl rfl fo177_1 rfl (WL.ev rfl rfl (Ev.ld rfl ag3 rfl (hB_2.cell rfl)) (Wfa rfl rfl rfl fo86_1 rfl ?_))
  refine WL.st rfl rfl rfl sz3 rfl rfl rfl rfl (all1 rfl all0) hB_1 (Nat.le_of_ble_eq_true rfl) fun w5 hCw5 hB_4 => ?_
  have hB_4 : Blk _ _ _ [_, _, _, _, _, _, _] := hB_4
  have hz2 := hB_1.lt
  have hB_5 := Blk.chg1 hB_2 hCw5 (by have := hBb1.lt; have := hbb3; have := hEb2.size; omega)
  have hB_6 := Blk.chg1 hB_3 hCw5 (by have := hBb2.lt; have := hbb3; omega)
  have hX2 := Ext.chg1 hX1 hCw5 (by have := hbb3; have := hEb1.size; have := hEb2.size; omega)
  refine WL.nil ?_
  refine CW.fresh [(1, .pointer (some ⟨b1, 0, none⟩)), (2, .pointer (some ⟨b2, 0, none⟩)), (3, .pointer (some ⟨b3, 0, none⟩))] ⟨rfl, rfl, rfl, trivial⟩ fun σ => ?_
  refine Sreg ?_
  refine Wfa rfl rfl rfl fo177_2 rfl (WL.ev rfl rfl (Ev.ld rfl ag3 rfl (hB_5.cell rfl)) (Wfa rfl rfl rfl fo86_2 rfl ?_))
  refine WL.st rfl rfl rfl sz3 rfl rfl rfl rfl (all1 rfl all0) hB_4 (Nat.le_of_ble_eq_true rfl) fun w6 hCw6 hB_7 => ?_
  have hB_7 : Blk _ _ _ [_, _, _, _, _, _, _] := hB_7
  have hz3 := hB_4.lt
  have hB_8 := Blk.chg1 hB_5 hCw6 (by have := hBb1.lt; have := hbb3; have := hEb2.size; omega)
  have hB_9 := Blk.chg1 hB_6 hCw6 (by have := hBb2.lt; have := hbb3; omega)
  have hX3 := Ext.chg1 hX2 hCw6 (by have := hbb3; have := hEb1.size; have := hEb2.size; omega)
  refine WL.nil ?_
  refine CW.fresh [(1, .pointer (some ⟨b1, 0, none⟩)), (2, .pointer (some ⟨b2, 0, none⟩)), (3, .pointer (some ⟨b3, 0, none⟩))] ⟨rfl, rfl, rfl, trivial⟩ fun σ => ?_
  refine Sreg ?_
  refine Wfa rfl rfl rfl fo177_3 rfl (WL.ev rfl rfl (Ev.ld rfl ag3 rfl (hB_8.cell rfl)) (Wfa rfl rfl rfl fo86_3 rfl ?_))
  refine WL.st rfl rfl rfl sz3 rfl rfl rfl rfl (all1 rfl all0) hB_7 (Nat.le_of_ble_eq_true rfl) fun w7 hCw7 hB_10 => ?_
  have hB_10 : Blk _ _ _ [_, _, _, _, _, _, _] := hB_10
  have hz4 := hB_7.lt
  have hB_11 := Blk.chg1 hB_8 hCw7 (by have := hBb1.lt; have := hbb3; have := hEb2.size; omega)
  have hB_12 := Blk.chg1 hB_9 hCw7 (by have := hBb2.lt; have := hbb3; omega)
  have hX4 := Ext.chg1 hX3 hCw7 (by have := hbb3; have := hEb1.size; have := hEb2.size; omega)
  refine WL.nil ?_
  refine CW.fresh [(1, .pointer (some ⟨b1, 0, none⟩)), (2, .pointer (some ⟨b2, 0, none⟩)), (3, .pointer (some ⟨b3, 0, none⟩))] ⟨rfl, rfl, rfl, trivial⟩ fun σ => ?_
  refine Sreg ?_
  refine Wfa rfl rfl rfl fo177_4 rfl (WL.ev rfl rfl (Ev.ld rfl ag9 rfl (hB_11.cell rfl)) (Wfa rfl rfl rfl fo86_4 rfl ?_))
  refine WL.st rfl rfl rfl sz9 rfl rfl rfl rfl (all1 rfl all0) hB_10 (Nat.le_of_ble_eq_true rfl) fun w8 hCw8 hB_13 => ?_
  have hB_13 : Blk _ _ _ [_, _, _, _, _, _, _] := hB_13
  have hz5 := hB_10.lt
  have hB_14 := Blk.chg1 hB_11 hCw8 (by have := hBb1.lt; have := hbb3; have := hEb2.size; omega)
  have hB_15 := Blk.chg1 hB_12 hCw8 (by have := hBb2.lt; have := hbb3; omega)
  have hX5 := Ext.chg1 hX4 hCw8 (by have := hbb3; have := hEb1.size; have := hEb2.size; omega)
  refine WL.nil ?_
  refine CW.fresh [(1, .pointer (some ⟨b1, 0, none⟩)), (2, .pointer (some ⟨b2, 0, none⟩)), (3, .pointer (some ⟨b3, 0, none⟩))] ⟨rfl, rfl, rfl, trivial⟩ fun σ => ?_
  refine Sreg ?_
  refine Wfa rfl rfl rfl fo177_5 rfl (WL.ev rfl rfl (Ev.ld rfl ag9 rfl (hB_14.cell rfl)) (Wfa rfl rfl rfl fo86_5 rfl ?_))
  refine WL.st rfl rfl rfl sz9 rfl rfl rfl rfl (all1 rfl all0) hB_13 (Nat.le_of_ble_eq_true rfl) fun w9 hCw9 hB_16 => ?_
  have hB_16 : Blk _ _ _ [_, _, _, _, _, _, _] := hB_16
  have hz6 := hB_13.lt
  have hB_17 := Blk.chg1 hB_14 hCw9 (by have := hBb1.lt; have := hbb3; have := hEb2.size; omega)
  have hB_18 := Blk.chg1 hB_15 hCw9 (by have := hBb2.lt; have := hbb3; omega)
  have hX6 := Ext.chg1 hX5 hCw9 (by have := hbb3; have := hEb1.size; have := hEb2.size; omega)
  refine WL.nil ?_
  refine CW.fresh [(1, .pointer (some ⟨b1, 0, none⟩)), (2, .pointer (some ⟨b2, 0, none⟩)), (3, .pointer (some ⟨b3, 0, none⟩))] ⟨rfl, rfl, rfl, trivial⟩ fun σ => ?_
  refine Sreg ?_
  refine Wfa rfl rfl rfl fo177_6 rfl (WL.ev rfl rfl (Ev.ld rfl ag175 rfl (hB_17.cell rfl)) ?_)
  refine WL.call rfl rfl rfl rfl rfl ok208 rfl (toExprS_step _ x.Args (hs1.ext hX6) (by omega) ih) ?_
  rintro v2 w10 hEw10 ⟨L1, hO1, hN1, hF1⟩
  obtain ⟨A2, c2, rfl, hc2, hm2⟩ := hO1.form
  refine Wfa rfl rfl rfl fo86_6 rfl ?_
  refine WL.st rfl rfl rfl sz84 rfl rfl rfl rfl (all1 rfl all0) (hB_16.ext hEw10) (Nat.le_of_ble_eq_true rfl) fun w11 hCw11 hB_19 => ?_
  have hB_19 : Blk _ _ _ [_, _, _, _, _, _, _] := hB_19
  have hz7 := (hB_16.ext hEw10).lt
  have hB_20 := Blk.chg1 (hB_17.ext hEw10) hCw11 (by have := hBb1.lt; have := hbb3; have := hEb2.size; omega)
  have hB_21 := Blk.chg1 (hB_18.ext hEw10) hCw11 (by have := hBb2.lt; have := hbb3; omega)
  have hO_1 := ownS.chg1 hO1 hCw11 (fun q hq e => by subst e; have := hF1 _ hq; have := hBb3.lt; have := hCw4.size; have := hCw5.size; have := hCw6.size; have := hCw7.size; have := hCw8.size; have := hCw9.size; omega)
  have hX7 := Ext.chg1 (hX6.trans hEw10) hCw11 (by have := hbb3; have := hEb1.size; have := hEb2.size; omega)
  refine WL.nil ?_
  refine CW.fresh [(2, .pointer (some ⟨b2, 0, none⟩)), (3, .pointer (some ⟨b3, 0, none⟩))] ⟨rfl, rfl, trivial⟩ fun σ => ?_
  refine Sreg ?_
  refine WL.ev rfl rfl (Ev.lda rfl ag86 sz86 rfl (At.blk hB_19) rfl) ?_
  refine WL.st rfl rfl rfl sz86 rfl rfl rfl rfl (all1 rfl (all1 rfl (all1 rfl (all1 rfl (all1 rfl (all1 rfl (all1 rfl all0))))))) hB_21 (Nat.le_of_ble_eq_true rfl) fun w12 hCw12 hB_22 => ?_
  have hB_22 : Blk _ _ _ [_, _, _, _, _, _, _] := hB_22
  have hz8 := hB_21.lt
  have hB_23 := Blk.chg1 hB_20 hCw12 (by have := hBb1.lt; have := hbb2; omega)
  have hB_24 := Blk.chg1 hB_19 hCw12 (by have := hBb2.lt; have := hbb3; omega)
  have hO_2 := ownS.chg1 hO_1 hCw12 (fun q hq e => by subst e; have := hF1 _ hq; have := hBb2.lt; have := hEb3.size; have := hCw4.size; have := hCw5.size; have := hCw6.size; have := hCw7.size; have := hCw8.size; have := hCw9.size; omega)
  have hX8 := Ext.chg1 hX7 hCw12 (by have := hbb2; have := hEb1.size; omega)
  refine WL.nil ?_
  refine CW.ret ?_
  exact ⟨_, resC rfl ag86 sz86 rfl rfl (At.blk hB_22) rfl, hX8, _, rfl, _, Expr_own.2 ⟨_, _, rfl, by first | assumption | omega, by first | assumption | omega, by first | assumption | omega, by first | assumption | omega, by first | assumption | omega, by first | assumption | omega, rfl, hO_2⟩, hN1, fun q hq => by first | (have := hF1 _ hq; have := hEb1.size; have := hEb2.size; have := hEb3.size; have := hCw4.size; have := hCw5.size; have := hCw6.size; have := hCw7.size; have := hCw8.size; have := hCw9.size; omega)⟩

theorem toExpr_spec (w : World) {S : Nat → Prop} (x : Expr) {cs : List Value} (hx : rd S w x cs) (hlen : Sz.szd x ≤ 1048576) :
    Ret Tryz.prog 171 #[.agg cs.toArray] w (fun _ => False) fun v w' => ∃ cs, v = .agg cs.toArray ∧ New w w' x cs :=
  Expr_ind (P := fun x => ∀ (w : World) {S : Nat → Prop} {cs : List Value} (hx : rd S w x cs) (hlen : Sz.szd x ≤ 1048576), Ret Tryz.prog 171 #[.agg cs.toArray] w (fun _ => False) fun v w' => ∃ cs, v = .agg cs.toArray ∧ New w w' x cs) (fun x ih => by intros; exact toExpr_step _ x (by assumption) (by assumption) ih) x w hx hlen

theorem toEquation_spec (w : World) {S : Nat → Prop} (x : Equation) {cs : List Value} (hx : rd S w x cs) (hlen : Sz.szd x ≤ 1048576) :
    Ret Tryz.prog 123 #[.agg cs.toArray] w (fun _ => False) fun v w' => ∃ cs, v = .agg cs.toArray ∧ New w w' x cs := by
  refine enter Tryz.func123 rfl rfl rfl ?_
  have hK1 := hx
  obtain ⟨v1, rfl, hr1, hr2, hr3, hr4, hr5, hr6, hr7, hr8, hs1⟩ := hx
  obtain ⟨A1, c1, rfl, hc1, hm1⟩ := hs1.form
  rw [Equation_szd] at hlen
  refine Sreg ?_
  refine WL.box rfl rfl rfl rfl rfl fun b1 w1 hEb1 hbb1 hBb1 => ?_
  refine WL.alloc rfl rfl rfl ze165 fun b2 w2 hEb2 hbb2 hBb2 => ?_
  refine WL.nil ?_
  refine Sreg ?_
  refine WL.alloc rfl rfl rfl ze165 fun b3 w3 hEb3 hbb3 hBb3 => ?_
  refine WL.nil ?_
  refine Sreg ?_
  refine Wfa rfl rfl rfl fo179_0 rfl (WL.ev rfl rfl (Ev.lda rfl ag174 sz174 rfl (Blk.part (hBb1.ext (hEb2.trans hEb3)) 0 2) rfl) ?_)
  refine WL.call rfl rfl rfl rfl rfl ok170 rfl (toOccurrence_spec _ x.At (rd_ext (Equation_rd_At hK1) ((hEb1.trans hEb2).trans hEb3)) (by (try simp only [szfold] at *); (try simp only [Occurrence_szd, Expr_szd] at *); omega)) ?_
  rintro _ w4 hEw4 ⟨_, rfl, _, ⟨rfl, hr9, hr10, rfl⟩, hN1, hF1⟩
  refine Wfa rfl rfl rfl fo165_0 rfl ?_
  refine WL.st rfl rfl rfl sz90 rfl rfl rfl rfl (all1 rfl (all1 rfl all0)) (hBb3.ext hEw4) (Nat.le_of_ble_eq_true rfl) fun w5 hCw5 hB_1 => ?_
  have hB_1 : Blk _ _ _ [_, _, _, _, _, _, _, _, _] := hB_1
  have hz1 := (hBb3.ext hEw4).lt
  have hB_2 := Blk.chg1 (hBb1.ext ((hEb2.trans hEb3).trans hEw4)) hCw5 (by have := hBb1.lt; have := hbb3; have := hEb2.size; omega)
  have hB_3 := Blk.chg1 (hBb2.ext (hEb3.trans hEw4)) hCw5 (by have := hBb2.lt; have := hbb3; omega)
  have hX1 := Ext.chg1 (((hEb1.trans hEb2).trans hEb3).trans hEw4) hCw5 (by have := hbb3; have := hEb1.size; have := hEb2.size; omega)
  refine WL.nil ?_
  refine CW.fresh [(1, .pointer (some ⟨b1, 0, none⟩)), (2, .pointer (some ⟨b2, 0, none⟩)), (3, .pointer (some ⟨b3, 0, none⟩))] ⟨rfl, rfl, rfl, trivial⟩ fun σ => ?_
  refine Sreg ?_
  refine Wfa rfl rfl rfl fo179_1 rfl (WL.ev rfl rfl (Ev.lda rfl ag177 sz177 rfl (Blk.part hB_2 2 7) rfl) ?_)
  refine WL.call rfl rfl rfl rfl rfl ok171 rfl (toExpr_spec _ x.Expr (rd_ext (Equation_rd_Expr hK1) hX1) (by (try simp only [szfold] at *); (try simp only [Occurrence_szd, Expr_szd] at *); omega)) ?_
  rintro _ w6 hEw6 ⟨_, rfl, _, hE02, hN2, hF2⟩
  obtain ⟨v2, L3, rfl, hr11, hr12, hr13, hr14, hr15, hr16, rfl, hO3⟩ := Expr_own.1 hE02
  obtain ⟨A2, c2, rfl, hc2, hm2⟩ := hO3.form
  refine Wfa rfl rfl rfl fo165_1 rfl ?_
  refine WL.st rfl rfl rfl sz86 rfl rfl rfl rfl (all1 rfl (all1 rfl (all1 rfl (all1 rfl (all1 rfl (all1 rfl (all1 rfl all0))))))) (hB_1.ext hEw6) (Nat.le_of_ble_eq_true rfl) fun w7 hCw7 hB_4 => ?_
  have hB_4 : Blk _ _ _ [_, _, _, _, _, _, _, _, _] := hB_4
  have hz2 := (hB_1.ext hEw6).lt
  have hB_5 := Blk.chg1 (hB_2.ext hEw6) hCw7 (by have := hBb1.lt; have := hbb3; have := hEb2.size; omega)
  have hB_6 := Blk.chg1 (hB_3.ext hEw6) hCw7 (by have := hBb2.lt; have := hbb3; omega)
  have hO_1 := ownS.chg1 hO3 hCw7 (fun q hq e => by subst e; have := hF2 _ hq; have := hBb3.lt; have := hEw4.size; have := hCw5.size; omega)
  have hX2 := Ext.chg1 (hX1.trans hEw6) hCw7 (by have := hbb3; have := hEb1.size; have := hEb2.size; omega)
  refine WL.nil ?_
  refine CW.fresh [(2, .pointer (some ⟨b2, 0, none⟩)), (3, .pointer (some ⟨b3, 0, none⟩))] ⟨rfl, rfl, trivial⟩ fun σ => ?_
  refine Sreg ?_
  refine WL.ev rfl rfl (Ev.lda rfl ag165 sz165 rfl (At.blk hB_4) rfl) ?_
  refine WL.st rfl rfl rfl sz165 rfl rfl rfl rfl (all1 rfl (all1 rfl (all1 rfl (all1 rfl (all1 rfl (all1 rfl (all1 rfl (all1 rfl (all1 rfl all0))))))))) hB_6 (Nat.le_of_ble_eq_true rfl) fun w8 hCw8 hB_7 => ?_
  have hB_7 : Blk _ _ _ [_, _, _, _, _, _, _, _, _] := hB_7
  have hz3 := hB_6.lt
  have hB_8 := Blk.chg1 hB_5 hCw8 (by have := hBb1.lt; have := hbb2; omega)
  have hB_9 := Blk.chg1 hB_4 hCw8 (by have := hBb2.lt; have := hbb3; omega)
  have hO_2 := ownS.chg1 hO_1 hCw8 (fun q hq e => by subst e; have := hF2 _ hq; have := hBb2.lt; have := hEb3.size; have := hEw4.size; have := hCw5.size; omega)
  have hX3 := Ext.chg1 hX2 hCw8 (by have := hbb2; have := hEb1.size; omega)
  refine WL.nil ?_
  refine CW.ret ?_
  exact ⟨_, resC rfl ag165 sz165 rfl rfl (At.blk hB_7) rfl, hX3, _, rfl, _, ⟨_, _, rfl, by first | assumption | omega, by first | assumption | omega, by first | assumption | omega, by first | assumption | omega, by first | assumption | omega, by first | assumption | omega, by first | assumption | omega, by first | assumption | omega, rfl, hO_2⟩, hN2, fun q hq => by first | (have := hF2 _ hq; have := hEb1.size; have := hEb2.size; have := hEb3.size; have := hEw4.size; have := hCw5.size; omega)⟩

theorem toEquationS_spec (w : World) {S : Nat → Prop} (x : List Equation) {z : Value} (hx : rdS S w x z) (hlen : szL x ≤ 1048576) :
    Ret Tryz.prog 59 #[z] w (fun _ => False) fun v w' => NewS w w' x v := by
  refine enter Tryz.func59 rfl rfl rfl ?_
  obtain ⟨A1, c1, rfl, hc1, hm1⟩ := hx.form
  have hl1 : x.length ≤ 9223372036854775807 := Nat.le_trans hc1 hm1
  have hln := szL_length x
  refine Sreg ?_
  refine Wsn rfl rfl rfl rfl ?_
  refine Sreg ?_
  refine Wmv rfl rfl rfl rfl (WL.ev rfl rfl (Ev.lenS rfl el27 rfl) ?_)
  refine WL.mk rfl rfl rfl el42 sz165 by165 ze165 rfl rfl rfl (by omega) (by omega) fun g w1 hE1 hg hBg => ?_
  refine Wsn rfl rfl rfl rfl ?_
  refine SSr ?_
  refine Wsn rfl rfl rfl rfl ?_
  refine CW.block (CW.loop (α := Nat × List Value × List Nat) (fun q => [(0, .slice A1 x.length c1), (3, .slice (some ⟨g, 0, none⟩) x.length x.length), (4, .int .i64 (q.1 : Int))]) (fun q wr => Ext w wr ∧ ToInv wr g 165 [.int .i64 0, .string ⟨#[]⟩, .int .i64 0, .int .i64 0, .int .i64 0, .int .i64 0, .string ⟨#[]⟩, .string ⟨#[]⟩, .slice none 0 0] x q.1 q.2.1 q.2.2) (fun q => x.length - q.1) (0, [], []) ⟨rfl, rfl, rfl, trivial⟩ ⟨hE1, ToInv.init hBg⟩ ?_)
  rintro ⟨k, cs, L⟩ σ wr1 ⟨hEwr1, hI⟩
  simp only at hI
  have hk := hI.le
  refine SSr ?_
  refine Wmv rfl rfl rfl rfl (Wmv rfl rfl rfl rfl (WL.ev rfl rfl (Ev.lenS rfl el27 rfl) (WL.ev rfl rfl (Ev.bin rfl rfl rfl Bin.lss) (WL.nil ?_))))
  refine CW.condD rfl (fun h1 => ?_) (fun h1 => ?_)
  · refine CW.skip ?_
    refine CW.seq (CW.block (CW.reg ?_))
    refine Wmv rfl rfl rfl rfl (Wmv rfl rfl rfl rfl (Wmv rfl rfl rfl rfl (Wmv rfl rfl rfl rfl ?_)))
    obtain ⟨xe1, be1, oe1, cse1, hxe1, hAe1, hSe1, hre1, hAte1⟩ := rdS.el hx (i := k) (by omega)
    have hK1 := hre1
    obtain ⟨v1, rfl, hr1, hr2, hr3, hr4, hr5, hr6, hr7, hr8, hs1⟩ := hre1
    obtain ⟨A2, c2, rfl, hc2, hm2⟩ := hs1.form
    refine WL.ev rfl rfl (Ev.ixA rfl el27 sz179 rfl hAe1 rfl (by omega)) (WL.ev rfl rfl (Ev.lda rfl ag179 sz179 rfl (hAte1.ext hEwr1) rfl) ?_)
    refine WL.call rfl rfl rfl rfl rfl ok123 rfl (toEquation_spec _ xe1 (rd_ext hK1 hEwr1) (by have := szL_get hxe1; (try simp only [szfold] at *); omega)) ?_
    rintro _ w1 hEw1 ⟨cs1, rfl, L1, hO1, hN1, hF1⟩
    refine WL.ev rfl rfl (Ev.ix rfl el42 sz165 rfl rfl (by omega)) ?_
    refine WL.stTo rfl rfl rfl sz165 rfl rfl rfl (hI.ext hEw1) hxe1 hO1 hN1 (hI.fresh hF1) rfl fun w2 hCw2 hI2 => ?_
    have hX1 := Ext.chg1 (hEwr1.trans hEw1) hCw2 (by have := hE1.size; omega)
    refine WL.nil ?_
    refine CW.reg ?_
    refine Wmv rfl rfl rfl rfl (WL.ev rfl rfl (Ev.bin rfl rfl rfl (Bin.add (by omega))) (Wsn rfl rfl rfl rfl ?_))
    exact ⟨(k + 1, _, _), ⟨rfl, rfl, rfl, trivial⟩, ⟨hX1, hI2⟩, by simp only; omega⟩
  · refine CW.exit ?_
    refine Sreg ?_
    refine Wmv rfl rfl rfl rfl (Wsn rfl rfl rfl rfl ?_)
    refine CW.ret ?_
    exact ⟨_, res1 rfl rfl rfl, hEwr1, hI.new (by omega) (by unfold maxLen; omega) hg⟩

theorem toContribution_spec (w : World) {S : Nat → Prop} (x : Contribution) {cs : List Value} (hx : rd S w x cs) (hlen : Sz.szd x ≤ 1048576) :
    Ret Tryz.prog 124 #[.agg cs.toArray] w (fun _ => False) fun v w' => ∃ cs, v = .agg cs.toArray ∧ New w w' x cs := by
  refine enter Tryz.func124 rfl rfl rfl ?_
  have hK1 := hx
  obtain ⟨v1, v2, rfl, hr1, hr2, hr3, hr4, hr5, hr6, hr7, hr8, hr9, hr10, hr11, hr12, hr13, hr14, hs1, hs2⟩ := hx
  obtain ⟨A1, c1, rfl, hc1, hm1⟩ := hs1.form
  obtain ⟨A2, c2, rfl, hc2, hm2⟩ := hs2.form
  rw [Contribution_szd] at hlen
  refine Sreg ?_
  refine WL.box rfl rfl rfl rfl rfl fun b1 w1 hEb1 hbb1 hBb1 => ?_
  refine WL.alloc rfl rfl rfl ze186 fun b2 w2 hEb2 hbb2 hBb2 => ?_
  refine WL.nil ?_
  refine Sreg ?_
  refine WL.alloc rfl rfl rfl ze186 fun b3 w3 hEb3 hbb3 hBb3 => ?_
  refine WL.nil ?_
  refine Sreg ?_
  refine Wfa rfl rfl rfl fo182_0 rfl (WL.ev rfl rfl (Ev.ld rfl ag9 rfl ((hBb1.ext (hEb2.trans hEb3)).cell rfl)) (Wfa rfl rfl rfl fo186_0 rfl ?_))
  refine WL.st rfl rfl rfl sz9 rfl rfl rfl rfl (all1 rfl all0) hBb3 (Nat.le_of_ble_eq_true rfl) fun w4 hCw4 hB_1 => ?_
  have hB_1 : Blk _ _ _ [_, _, _, _, _, _, _, _, _, _, _, _, _, _, _, _] := hB_1
  have hz1 := hBb3.lt
  have hB_2 := Blk.chg1 (hBb1.ext (hEb2.trans hEb3)) hCw4 (by have := hBb1.lt; have := hbb3; have := hEb2.size; omega)
  have hB_3 := Blk.chg1 (hBb2.ext hEb3) hCw4 (by have := hBb2.lt; have := hbb3; omega)
  have hX1 := Ext.chg1 ((hEb1.trans hEb2).trans hEb3) hCw4 (by have := hbb3; have := hEb1.size; have := hEb2.size; omega)
  refine WL.nil ?_
  refine CW.fresh [(1, .pointer (some ⟨b1, 0, none⟩)), (2, .pointer (some ⟨b2, 0, none⟩)), (3, .pointer (some ⟨b3, 0, none⟩))] ⟨rfl, rfl, rfl, trivial⟩ fun σ => ?_
  refine Sreg ?_
  refine Wfa rfl rfl rfl fo182_1 rfl (WL.ev rfl rfl (Ev.ld rfl ag9 rfl (hB_2.cell rfl)) (Wfa rfl rfl rfl fo186_1 rfl ?_))
  refine WL.st rfl rfl rfl sz9 rfl rfl rfl rfl (all1 rfl all0) hB_1 (Nat.le_of_ble_eq_true rfl) fun w5 hCw5 hB_4 => ?_
  have hB_4 : Blk _ _ _ [_, _, _, _, _, _, _, _, _, _, _, _, _, _, _, _] := hB_4
  have hz2 := hB_1.lt
  have hB_5 := Blk.chg1 hB_2 hCw5 (by have := hBb1.lt; have := hbb3; have := hEb2.size; omega)
  have hB_6 := Blk.chg1 hB_3 hCw5 (by have := hBb2.lt; have := hbb3; omega)
  have hX2 := Ext.chg1 hX1 hCw5 (by have := hbb3; have := hEb1.size; have := hEb2.size; omega)
  refine WL.nil ?_
  refine CW.fresh [(1, .pointer (some ⟨b1, 0, none⟩)), (2, .pointer (some ⟨b2, 0, none⟩)), (3, .pointer (some ⟨b3, 0, none⟩))] ⟨rfl, rfl, rfl, trivial⟩ fun σ => ?_
  refine Sreg ?_
  refine Wfa rfl rfl rfl fo182_2 rfl (WL.ev rfl rfl (Ev.lda rfl ag177 sz177 rfl (Blk.part hB_5 2 7) rfl) ?_)
  refine WL.call rfl rfl rfl rfl rfl ok171 rfl (toExpr_spec _ x.Target (rd_ext (Contribution_rd_Target hK1) hX2) (by (try simp only [szfold] at *); (try simp only [Expr_szd, Expr_szd] at *); omega)) ?_
  rintro _ w6 hEw6 ⟨_, rfl, _, hE01, hN1, hF1⟩
  obtain ⟨v3, L2, rfl, hr15, hr16, hr17, hr18, hr19, hr20, rfl, hO2⟩ := Expr_own.1 hE01
  obtain ⟨A3, c3, rfl, hc3, hm3⟩ := hO2.form
  refine Wfa rfl rfl rfl fo186_2 rfl ?_
  refine WL.st rfl rfl rfl sz86 rfl rfl rfl rfl (all1 rfl (all1 rfl (all1 rfl (all1 rfl (all1 rfl (all1 rfl (all1 rfl all0))))))) (hB_4.ext hEw6) (Nat.le_of_ble_eq_true rfl) fun w7 hCw7 hB_7 => ?_
  have hB_7 : Blk _ _ _ [_, _, _, _, _, _, _, _, _, _, _, _, _, _, _, _] := hB_7
  have hz3 := (hB_4.ext hEw6).lt
  have hB_8 := Blk.chg1 (hB_5.ext hEw6) hCw7 (by have := hBb1.lt; have := hbb3; have := hEb2.size; omega)
  have hB_9 := Blk.chg1 (hB_6.ext hEw6) hCw7 (by have := hBb2.lt; have := hbb3; omega)
  have hO_1 := ownS.chg1 hO2 hCw7 (fun q hq e => by subst e; have := hF1 _ hq; have := hBb3.lt; have := hCw4.size; have := hCw5.size; omega)
  have hX3 := Ext.chg1 (hX2.trans hEw6) hCw7 (by have := hbb3; have := hEb1.size; have := hEb2.size; omega)
  refine WL.nil ?_
  refine CW.fresh [(1, .pointer (some ⟨b1, 0, none⟩)), (2, .pointer (some ⟨b2, 0, none⟩)), (3, .pointer (some ⟨b3, 0, none⟩))] ⟨rfl, rfl, rfl, trivial⟩ fun σ => ?_
  refine Sreg ?_
  refine Wfa rfl rfl rfl fo182_3 rfl (WL.ev rfl rfl (Ev.lda rfl ag177 sz177 rfl (Blk.part hB_8 9 7) rfl) ?_)
  refine WL.call rfl rfl rfl rfl rfl ok171 rfl (toExpr_spec _ x.Value (rd_ext (Contribution_rd_Value hK1) hX3) (by (try simp only [szfold] at *); (try simp only [Expr_szd, Expr_szd] at *); omega)) ?_
  rintro _ w8 hEw8 ⟨_, rfl, _, hE02, hN2, hF2⟩
  obtain ⟨v4, L4, rfl, hr21, hr22, hr23, hr24, hr25, hr26, rfl, hO4⟩ := Expr_own.1 hE02
  obtain ⟨A4, c4, rfl, hc4, hm4⟩ := hO4.form
  refine Wfa rfl rfl rfl fo186_3 rfl ?_
  refine WL.st rfl rfl rfl sz86 rfl rfl rfl rfl (all1 rfl (all1 rfl (all1 rfl (all1 rfl (all1 rfl (all1 rfl (all1 rfl all0))))))) (hB_7.ext hEw8) (Nat.le_of_ble_eq_true rfl) fun w9 hCw9 hB_10 => ?_
  have hB_10 : Blk _ _ _ [_, _, _, _, _, _, _, _, _, _, _, _, _, _, _, _] := hB_10
  have hz4 := (hB_7.ext hEw8).lt
  have hB_11 := Blk.chg1 (hB_8.ext hEw8) hCw9 (by have := hBb1.lt; have := hbb3; have := hEb2.size; omega)
  have hB_12 := Blk.chg1 (hB_9.ext hEw8) hCw9 (by have := hBb2.lt; have := hbb3; omega)
  have hO_2 := ownS.chg1 (hO_1.ext hEw8) hCw9 (fun q hq e => by subst e; have := hF1 _ hq; have := hBb3.lt; have := hCw4.size; have := hCw5.size; omega)
  have hO_3 := ownS.chg1 hO4 hCw9 (fun q hq e => by subst e; have := hF2 _ hq; have := hBb3.lt; have := hCw4.size; have := hCw5.size; have := hEw6.size; have := hCw7.size; omega)
  have hX4 := Ext.chg1 (hX3.trans hEw8) hCw9 (by have := hbb3; have := hEb1.size; have := hEb2.size; omega)
  refine WL.nil ?_
  refine CW.fresh [(2, .pointer (some ⟨b2, 0, none⟩)), (3, .pointer (some ⟨b3, 0, none⟩))] ⟨rfl, rfl, trivial⟩ fun σ => ?_
  refine Sreg ?_
  refine WL.ev rfl rfl (Ev.lda rfl ag186 sz186 rfl (At.blk hB_10) rfl) ?_
  refine WL.st rfl rfl rfl sz186 rfl rfl rfl rfl (all1 rfl (all1 rfl (all1 rfl (all1 rfl (all1 rfl (all1 rfl (all1 rfl (all1 rfl (all1 rfl (all1 rfl (all1 rfl (all1 rfl (all1 rfl (all1 rfl (all1 rfl (all1 rfl all0)))))))))))))))) hB_12 (Nat.le_of_ble_eq_true rfl) fun w10 hCw10 hB_13 => ?_
  have hB_13 : Blk _ _ _ [_, _, _, _, _, _, _, _, _, _, _, _, _, _, _, _] := hB_13
  have hz5 := hB_12.lt
  have hB_14 := Blk.chg1 hB_11 hCw10 (by have := hBb1.lt; have := hbb2; omega)
  have hB_15 := Blk.chg1 hB_10 hCw10 (by have := hBb2.lt; have := hbb3; omega)
  have hO_4 := ownS.chg1 hO_2 hCw10 (fun q hq e => by subst e; have := hF1 _ hq; have := hBb2.lt; have := hEb3.size; have := hCw4.size; have := hCw5.size; omega)
  have hO_5 := ownS.chg1 hO_3 hCw10 (fun q hq e => by subst e; have := hF2 _ hq; have := hBb2.lt; have := hEb3.size; have := hCw4.size; have := hCw5.size; have := hEw6.size; have := hCw7.size; omega)
  have hX5 := Ext.chg1 hX4 hCw10 (by have := hbb2; have := hEb1.size; omega)
  refine WL.nil ?_
  refine CW.ret ?_
  exact ⟨_, resC rfl ag186 sz186 rfl rfl (At.blk hB_13) rfl, hX5, _, rfl, _, ⟨_, _, _, _, rfl, by first | assumption | omega, by first | assumption | omega, by first | assumption | omega, by first | assumption | omega, by first | assumption | omega, by first | assumption | omega, by first | assumption | omega, by first | assumption | omega, by first | assumption | omega, by first | assumption | omega, by first | assumption | omega, by first | assumption | omega, by first | assumption | omega, by first | assumption | omega, rfl, hO_4, hO_5⟩, (nodup_app hN1 hN2 (k := w7.heap.size) (fun q hq => by first | (have := hO2.lt _ hq; have := hCw7.size; omega)) hF2), fun q hq => by simp only [List.mem_append] at hq; rcases hq with hq | hq <;> first | (have := hF1 _ hq; have := hEb1.size; have := hEb2.size; have := hEb3.size; have := hCw4.size; have := hCw5.size; omega) | (have := hF2 _ hq; have := hEb1.size; have := hEb2.size; have := hEb3.size; have := hCw4.size; have := hCw5.size; have := hEw6.size; have := hCw7.size; omega)⟩

theorem toContributionS_spec (w : World) {S : Nat → Prop} (x : List Contribution) {z : Value} (hx : rdS S w x z) (hlen : szL x ≤ 1048576) :
    Ret Tryz.prog 60 #[z] w (fun _ => False) fun v w' => NewS w w' x v := by
  refine enter Tryz.func60 rfl rfl rfl ?_
  obtain ⟨A1, c1, rfl, hc1, hm1⟩ := hx.form
  have hl1 : x.length ≤ 9223372036854775807 := Nat.le_trans hc1 hm1
  have hln := szL_length x
  refine Sreg ?_
  refine Wsn rfl rfl rfl rfl ?_
  refine Sreg ?_
  refine Wmv rfl rfl rfl rfl (WL.ev rfl rfl (Ev.lenS rfl el28 rfl) ?_)
  refine WL.mk rfl rfl rfl el43 sz186 by186 ze186 rfl rfl rfl (by omega) (by omega) fun g w1 hE1 hg hBg => ?_
  refine Wsn rfl rfl rfl rfl ?_
  refine SSr ?_
  refine Wsn rfl rfl rfl rfl ?_
  refine CW.block (CW.loop (α := Nat × List Value × List Nat) (fun q => [(0, .slice A1 x.length c1), (3, .slice (some ⟨g, 0, none⟩) x.length x.length), (4, .int .i64 (q.1 : Int))]) (fun q wr => Ext w wr ∧ ToInv wr g 186 [.string ⟨#[]⟩, .string ⟨#[]⟩, .int .i64 0, .int .i64 0, .int .i64 0, .int .i64 0, .string ⟨#[]⟩, .string ⟨#[]⟩, .slice none 0 0, .int .i64 0, .int .i64 0, .int .i64 0, .int .i64 0, .string ⟨#[]⟩, .string ⟨#[]⟩, .slice none 0 0] x q.1 q.2.1 q.2.2) (fun q => x.length - q.1) (0, [], []) ⟨rfl, rfl, rfl, trivial⟩ ⟨hE1, ToInv.init hBg⟩ ?_)
  rintro ⟨k, cs, L⟩ σ wr1 ⟨hEwr1, hI⟩
  simp only at hI
  have hk := hI.le
  refine SSr ?_
  refine Wmv rfl rfl rfl rfl (Wmv rfl rfl rfl rfl (WL.ev rfl rfl (Ev.lenS rfl el28 rfl) (WL.ev rfl rfl (Ev.bin rfl rfl rfl Bin.lss) (WL.nil ?_))))
  refine CW.condD rfl (fun h1 => ?_) (fun h1 => ?_)
  · refine CW.skip ?_
    refine CW.seq (CW.block (CW.reg ?_))
    refine Wmv rfl rfl rfl rfl (Wmv rfl rfl rfl rfl (Wmv rfl rfl rfl rfl (Wmv rfl rfl rfl rfl ?_)))
    obtain ⟨xe1, be1, oe1, cse1, hxe1, hAe1, hSe1, hre1, hAte1⟩ := rdS.el hx (i := k) (by omega)
    have hK1 := hre1
    obtain ⟨v1, v2, rfl, hr1, hr2, hr3, hr4, hr5, hr6, hr7, hr8, hr9, hr10, hr11, hr12, hr13, hr14, hs1, hs2⟩ := hre1
    obtain ⟨A2, c2, rfl, hc2, hm2⟩ := hs1.form
    obtain ⟨A3, c3, rfl, hc3, hm3⟩ := hs2.form
    refine WL.ev rfl rfl (Ev.ixA rfl el28 sz182 rfl hAe1 rfl (by omega)) (WL.ev rfl rfl (Ev.lda rfl ag182 sz182 rfl (hAte1.ext hEwr1) rfl) ?_)
    refine WL.call rfl rfl rfl rfl rfl ok124 rfl (toContribution_spec _ xe1 (rd_ext hK1 hEwr1) (by have := szL_get hxe1; (try simp only [szfold] at *); omega)) ?_
    rintro _ w1 hEw1 ⟨cs1, rfl, L1, hO1, hN1, hF1⟩
    refine WL.ev rfl rfl (Ev.ix rfl el43 sz186 rfl rfl (by omega)) ?_
    refine WL.stTo rfl rfl rfl sz186 rfl rfl rfl (hI.ext hEw1) hxe1 hO1 hN1 (hI.fresh hF1) rfl fun w2 hCw2 hI2 => ?_
    have hX1 := Ext.chg1 (hEwr1.trans hEw1) hCw2 (by have := hE1.size; omega)
    refine WL.nil ?_
    refine CW.reg ?_
    refine Wmv rfl rfl rfl rfl (WL.ev rfl rfl (Ev.bin rfl rfl rfl (Bin.add (by omega))) (Wsn rfl rfl rfl rfl ?_))
    exact ⟨(k + 1, _, _), ⟨rfl, rfl, rfl, trivial⟩, ⟨hX1, hI2⟩, by simp only; omega⟩
  · refine CW.exit ?_
    refine Sreg ?_
    refine Wmv rfl rfl rfl rfl (Wsn rfl rfl rfl rfl ?_)
    refine CW.ret ?_
    exact ⟨_, res1 rfl rfl rfl, hEwr1, hI.new (by omega) (by unfold maxLen; omega) hg⟩

theorem toRule_spec (w : World) {S : Nat → Prop} (x : Rule) {cs : List Value} (hx : rd S w x cs) (hlen : Sz.szd x ≤ 1048576) :
    Ret Tryz.prog 11 #[.agg cs.toArray] w (fun _ => False) fun v w' => ∃ cs, v = .agg cs.toArray ∧ New w w' x cs := by
  refine enter Tryz.func11 rfl rfl rfl ?_
  have hK1 := hx
  obtain ⟨v1, v2, v3, rfl, hr1, hr2, hs1, hs2, hs3⟩ := hx
  obtain ⟨A1, c1, rfl, hc1, hm1⟩ := hs1.form
  obtain ⟨A2, c2, rfl, hc2, hm2⟩ := hs2.form
  obtain ⟨A3, c3, rfl, hc3, hm3⟩ := hs3.form
  rw [Rule_szd] at hlen
  refine Sreg ?_
  refine WL.box rfl rfl rfl rfl rfl fun b1 w1 hEb1 hbb1 hBb1 => ?_
  refine WL.alloc rfl rfl rfl ze45 fun b2 w2 hEb2 hbb2 hBb2 => ?_
  refine WL.nil ?_
  refine Sreg ?_
  refine WL.alloc rfl rfl rfl ze45 fun b3 w3 hEb3 hbb3 hBb3 => ?_
  refine WL.nil ?_
  refine Sreg ?_
  refine Wfa rfl rfl rfl fo30_0 rfl (WL.ev rfl rfl (Ev.ld rfl ag9 rfl ((hBb1.ext (hEb2.trans hEb3)).cell rfl)) (Wfa rfl rfl rfl fo45_0 rfl ?_))
  refine WL.st rfl rfl rfl sz9 rfl rfl rfl rfl (all1 rfl all0) hBb3 (Nat.le_of_ble_eq_true rfl) fun w4 hCw4 hB_1 => ?_
  have hB_1 : Blk _ _ _ [_, _, _, _, _, _] := hB_1
  have hz1 := hBb3.lt
  have hB_2 := Blk.chg1 (hBb1.ext (hEb2.trans hEb3)) hCw4 (by have := hBb1.lt; have := hbb3; have := hEb2.size; omega)
  have hB_3 := Blk.chg1 (hBb2.ext hEb3) hCw4 (by have := hBb2.lt; have := hbb3; omega)
  have hX1 := Ext.chg1 ((hEb1.trans hEb2).trans hEb3) hCw4 (by have := hbb3; have := hEb1.size; have := hEb2.size; omega)
  refine WL.nil ?_
  refine CW.fresh [(1, .pointer (some ⟨b1, 0, none⟩)), (2, .pointer (some ⟨b2, 0, none⟩)), (3, .pointer (some ⟨b3, 0, none⟩))] ⟨rfl, rfl, rfl, trivial⟩ fun σ => ?_
  refine Sreg ?_
  refine Wfa rfl rfl rfl fo30_1 rfl (WL.ev rfl rfl (Ev.ld rfl ag9 rfl (hB_2.cell rfl)) (Wfa rfl rfl rfl fo45_1 rfl ?_))
  refine WL.st rfl rfl rfl sz9 rfl rfl rfl rfl (all1 rfl all0) hB_1 (Nat.le_of_ble_eq_true rfl) fun w5 hCw5 hB_4 => ?_
  have hB_4 : Blk _ _ _ [_, _, _, _, _, _] := hB_4
  have hz2 := hB_1.lt
  have hB_5 := Blk.chg1 hB_2 hCw5 (by have := hBb1.lt; have := hbb3; have := hEb2.size; omega)
  have hB_6 := Blk.chg1 hB_3 hCw5 (by have := hBb2.lt; have := hbb3; omega)
  have hX2 := Ext.chg1 hX1 hCw5 (by have := hbb3; have := hEb1.size; have := hEb2.size; omega)
  refine WL.nil ?_
  refine CW.fresh [(1, .pointer (some ⟨b1, 0, none⟩)), (2, .pointer (some ⟨b2, 0, none⟩)), (3, .pointer (some ⟨b3, 0, none⟩))] ⟨rfl, rfl, rfl, trivial⟩ fun σ => ?_
  refine Sreg ?_
  refine Wfa rfl rfl rfl fo30_2 rfl (WL.ev rfl rfl (Ev.ld rfl ag26 rfl (hB_5.cell rfl)) ?_)
  refine WL.call rfl rfl rfl rfl rfl ok58 rfl (toStringS_spec _ x.Right (hs1.ext hX2) (by omega)) ?_
  rintro v4 w6 hEw6 ⟨L1, hO1, hN1, hF1⟩
  obtain ⟨A4, c4, rfl, hc4, hm4⟩ := hO1.form
  refine Wfa rfl rfl rfl fo45_2 rfl ?_
  refine WL.st rfl rfl rfl sz26 rfl rfl rfl rfl (all1 rfl all0) (hB_4.ext hEw6) (Nat.le_of_ble_eq_true rfl) fun w7 hCw7 hB_7 => ?_
  have hB_7 : Blk _ _ _ [_, _, _, _, _, _] := hB_7
  have hz3 := (hB_4.ext hEw6).lt
  have hB_8 := Blk.chg1 (hB_5.ext hEw6) hCw7 (by have := hBb1.lt; have := hbb3; have := hEb2.size; omega)
  have hB_9 := Blk.chg1 (hB_6.ext hEw6) hCw7 (by have := hBb2.lt; have := hbb3; omega)
  have hO_1 := ownS.chg1 hO1 hCw7 (fun q hq e => by subst e; have := hF1 _ hq; have := hBb3.lt; have := hCw4.size; have := hCw5.size; omega)
  have hX3 := Ext.chg1 (hX2.trans hEw6) hCw7 (by have := hbb3; have := hEb1.size; have := hEb2.size; omega)
  refine WL.nil ?_
  refine CW.fresh [(1, .pointer (some ⟨b1, 0, none⟩)), (2, .pointer (some ⟨b2, 0, none⟩)), (3, .pointer (some ⟨b3, 0, none⟩))] ⟨rfl, rfl, rfl, trivial⟩ fun σ => ?_
  refine Sreg ?_
  refine Wfa rfl rfl rfl fo30_3 rfl (WL.ev rfl rfl (Ev.ld rfl ag4 rfl (hB_8.cell rfl)) (Wfa rfl rfl rfl fo45_3 rfl ?_))
  refine WL.st rfl rfl rfl sz4 rfl rfl rfl rfl (all1 rfl all0) hB_7 (Nat.le_of_ble_eq_true rfl) fun w8 hCw8 hB_10 => ?_
  have hB_10 : Blk _ _ _ [_, _, _, _, _, _] := hB_10
  have hz4 := hB_7.lt
  have hB_11 := Blk.chg1 hB_8 hCw8 (by have := hBb1.lt; have := hbb3; have := hEb2.size; omega)
  have hB_12 := Blk.chg1 hB_9 hCw8 (by have := hBb2.lt; have := hbb3; omega)
  have hO_2 := ownS.chg1 hO_1 hCw8 (fun q hq e => by subst e; have := hF1 _ hq; have := hBb3.lt; have := hCw4.size; have := hCw5.size; omega)
  have hX4 := Ext.chg1 hX3 hCw8 (by have := hbb3; have := hEb1.size; have := hEb2.size; omega)
  refine WL.nil ?_
  refine CW.fresh [(1, .pointer (some ⟨b1, 0, none⟩)), (2, .pointer (some ⟨b2, 0, none⟩)), (3, .pointer (some ⟨b3, 0, none⟩))] ⟨rfl, rfl, rfl, trivial⟩ fun σ => ?_
  refine Sreg ?_
  refine Wfa rfl rfl rfl fo30_4 rfl (WL.ev rfl rfl (Ev.ld rfl ag27 rfl (hB_11.cell rfl)) ?_)
  refine WL.call rfl rfl rfl rfl rfl ok59 rfl (toEquationS_spec _ x.Equations (hs2.ext hX4) (by omega)) ?_
  rintro v5 w9 hEw9 ⟨L2, hO2, hN2, hF2⟩
  obtain ⟨A5, c5, rfl, hc5, hm5⟩ := hO2.form
  refine Wfa rfl rfl rfl fo45_4 rfl ?_
  refine WL.st rfl rfl rfl sz42 rfl rfl rfl rfl (all1 rfl all0) (hB_10.ext hEw9) (Nat.le_of_ble_eq_true rfl) fun w10 hCw10 hB_13 => ?_
  have hB_13 : Blk _ _ _ [_, _, _, _, _, _] := hB_13
  have hz5 := (hB_10.ext hEw9).lt
  have hB_14 := Blk.chg1 (hB_11.ext hEw9) hCw10 (by have := hBb1.lt; have := hbb3; have := hEb2.size; omega)
  have hB_15 := Blk.chg1 (hB_12.ext hEw9) hCw10 (by have := hBb2.lt; have := hbb3; omega)
  have hO_3 := ownS.chg1 (hO_2.ext hEw9) hCw10 (fun q hq e => by subst e; have := hF1 _ hq; have := hBb3.lt; have := hCw4.size; have := hCw5.size; omega)
  have hO_4 := ownS.chg1 hO2 hCw10 (fun q hq e => by subst e; have := hF2 _ hq; have := hBb3.lt; have := hCw4.size; have := hCw5.size; have := hEw6.size; have := hCw7.size; have := hCw8.size; omega)
  have hX5 := Ext.chg1 (hX4.trans hEw9) hCw10 (by have := hbb3; have := hEb1.size; have := hEb2.size; omega)
  refine WL.nil ?_
  refine CW.fresh [(1, .pointer (some ⟨b1, 0, none⟩)), (2, .pointer (some ⟨b2, 0, none⟩)), (3, .pointer (some ⟨b3, 0, none⟩))] ⟨rfl, rfl, rfl, trivial⟩ fun σ => ?_
  refine Sreg ?_
  refine Wfa rfl rfl rfl fo30_5 rfl (WL.ev rfl rfl (Ev.ld rfl ag28 rfl (hB_14.cell rfl)) ?_)
  refine WL.call rfl rfl rfl rfl rfl ok60 rfl (toContributionS_spec _ x.Contributions (hs3.ext hX5) (by omega)) ?_
  rintro v6 w11 hEw11 ⟨L3, hO3, hN3, hF3⟩
  obtain ⟨A6, c6, rfl, hc6, hm6⟩ := hO3.form
  refine Wfa rfl rfl rfl fo45_5 rfl ?_
  refine WL.st rfl rfl rfl sz43 rfl rfl rfl rfl (all1 rfl all0) (hB_13.ext hEw11) (Nat.le_of_ble_eq_true rfl) fun w12 hCw12 hB_16 => ?_
  have hB_16 : Blk _ _ _ [_, _, _, _, _, _] := hB_16
  have hz6 := (hB_13.ext hEw11).lt
  have hB_17 := Blk.chg1 (hB_14.ext hEw11) hCw12 (by have := hBb1.lt; have := hbb3; have := hEb2.size; omega)
  have hB_18 := Blk.chg1 (hB_15.ext hEw11) hCw12 (by have := hBb2.lt; have := hbb3; omega)
  have hO_5 := ownS.chg1 (hO_3.ext hEw11) hCw12 (fun q hq e => by subst e; have := hF1 _ hq; have := hBb3.lt; have := hCw4.size; have := hCw5.size; omega)
  have hO_6 := ownS.chg1 (hO_4.ext hEw11) hCw12 (fun q hq e => by subst e; have := hF2 _ hq; have := hBb3.lt; have := hCw4.size; have := hCw5.size; have := hEw6.size; have := hCw7.size; have := hCw8.size; omega)
  have hO_7 := ownS.chg1 hO3 hCw12 (fun q hq e => by subst e; have := hF3 _ hq; have := hBb3.lt; have := hCw4.size; have := hCw5.size; have := hEw6.size; have := hCw7.size; have := hCw8.size; have := hEw9.size; have := hCw10.size; omega)
  have hX6 := Ext.chg1 (hX5.trans hEw11) hCw12 (by have := hbb3; have := hEb1.size; have := hEb2.size; omega)
  refine WL.nil ?_
  refine CW.fresh [(2, .pointer (some ⟨b2, 0, none⟩)), (3, .pointer (some ⟨b3, 0, none⟩))] ⟨rfl, rfl, trivial⟩ fun σ => ?_
  refine Sreg ?_
  refine WL.ev rfl rfl (Ev.lda rfl ag45 sz45 rfl (At.blk hB_16) rfl) ?_
  refine WL.st rfl rfl rfl sz45 rfl rfl rfl rfl (all1 rfl (all1 rfl (all1 rfl (all1 rfl (all1 rfl (all1 rfl all0)))))) hB_18 (Nat.le_of_ble_eq_true rfl) fun w13 hCw13 hB_19 => ?_
  have hB_19 : Blk _ _ _ [_, _, _, _, _, _] := hB_19
  have hz7 := hB_18.lt
  have hB_20 := Blk.chg1 hB_17 hCw13 (by have := hBb1.lt; have := hbb2; omega)
  have hB_21 := Blk.chg1 hB_16 hCw13 (by have := hBb2.lt; have := hbb3; omega)
  have hO_8 := ownS.chg1 hO_5 hCw13 (fun q hq e => by subst e; have := hF1 _ hq; have := hBb2.lt; have := hEb3.size; have := hCw4.size; have := hCw5.size; omega)
  have hO_9 := ownS.chg1 hO_6 hCw13 (fun q hq e => by subst e; have := hF2 _ hq; have := hBb2.lt; have := hEb3.size; have := hCw4.size; have := hCw5.size; have := hEw6.size; have := hCw7.size; have := hCw8.size; omega)
  have hO_10 := ownS.chg1 hO_7 hCw13 (fun q hq e => by subst e; have := hF3 _ hq; have := hBb2.lt; have := hEb3.size; have := hCw4.size; have := hCw5.size; have := hEw6.size; have := hCw7.size; have := hCw8.size; have := hEw9.size; have := hCw10.size; omega)
  have hX7 := Ext.chg1 hX6 hCw13 (by have := hbb2; have := hEb1.size; omega)
  refine WL.nil ?_
  refine CW.ret ?_
  exact ⟨_, resC rfl ag45 sz45 rfl rfl (At.blk hB_19) rfl, hX7, _, rfl, _, ⟨_, _, _, _, _, _, rfl, by first | assumption | omega, by first | assumption | omega, rfl, hO_8, hO_9, hO_10⟩, (nodup_app (nodup_app hN1 hN2 (k := w8.heap.size) (fun q hq => by first | (have := hO1.lt _ hq; have := hCw7.size; have := hCw8.size; omega)) hF2) hN3 (k := w10.heap.size) (fun q hq => by simp only [List.mem_append] at hq; rcases hq with hq | hq <;> first | (have := hO1.lt _ hq; have := hCw7.size; have := hCw8.size; have := hEw9.size; have := hCw10.size; omega) | (have := hO2.lt _ hq; have := hCw10.size; omega)) hF3), fun q hq => by simp only [List.mem_append] at hq; rcases hq with (hq | hq) | hq <;> first | (have := hF1 _ hq; have := hEb1.size; have := hEb2.size; have := hEb3.size; have := hCw4.size; have := hCw5.size; omega) | (have := hF2 _ hq; have := hEb1.size; have := hEb2.size; have := hEb3.size; have := hCw4.size; have := hCw5.size; have := hEw6.size; have := hCw7.size; have := hCw8.size; omega) | (have := hF3 _ hq; have := hEb1.size; have := hEb2.size; have := hEb3.size; have := hCw4.size; have := hCw5.size; have := hEw6.size; have := hCw7.size; have := hCw8.size; have := hEw9.size; have := hCw10.size; omega)⟩

theorem toRuleS_spec (w : World) {S : Nat → Prop} (x : List Rule) {z : Value} (hx : rdS S w x z) (hlen : szL x ≤ 1048576) :
    Ret Tryz.prog 57 #[z] w (fun _ => False) fun v w' => NewS w w' x v := by
  refine enter Tryz.func57 rfl rfl rfl ?_
  obtain ⟨A1, c1, rfl, hc1, hm1⟩ := hx.form
  have hl1 : x.length ≤ 9223372036854775807 := Nat.le_trans hc1 hm1
  have hln := szL_length x
  refine Sreg ?_
  refine Wsn rfl rfl rfl rfl ?_
  refine Sreg ?_
  refine Wmv rfl rfl rfl rfl (WL.ev rfl rfl (Ev.lenS rfl el23 rfl) ?_)
  refine WL.mk rfl rfl rfl el38 sz45 by45 ze45 rfl rfl rfl (by omega) (by omega) fun g w1 hE1 hg hBg => ?_
  refine Wsn rfl rfl rfl rfl ?_
  refine SSr ?_
  refine Wsn rfl rfl rfl rfl ?_
  refine CW.block (CW.loop (α := Nat × List Value × List Nat) (fun q => [(0, .slice A1 x.length c1), (3, .slice (some ⟨g, 0, none⟩) x.length x.length), (4, .int .i64 (q.1 : Int))]) (fun q wr => Ext w wr ∧ ToInv wr g 45 [.string ⟨#[]⟩, .string ⟨#[]⟩, .slice none 0 0, .bool false, .slice none 0 0, .slice none 0 0] x q.1 q.2.1 q.2.2) (fun q => x.length - q.1) (0, [], []) ⟨rfl, rfl, rfl, trivial⟩ ⟨hE1, ToInv.init hBg⟩ ?_)
  rintro ⟨k, cs, L⟩ σ wr1 ⟨hEwr1, hI⟩
  simp only at hI
  have hk := hI.le
  refine SSr ?_
  refine Wmv rfl rfl rfl rfl (Wmv rfl rfl rfl rfl (WL.ev rfl rfl (Ev.lenS rfl el23 rfl) (WL.ev rfl rfl (Ev.bin rfl rfl rfl Bin.lss) (WL.nil ?_))))
  refine CW.condD rfl (fun h1 => ?_) (fun h1 => ?_)
  · refine CW.skip ?_
    refine CW.seq (CW.block (CW.reg ?_))
    refine Wmv rfl rfl rfl rfl (Wmv rfl rfl rfl rfl (Wmv rfl rfl rfl rfl (Wmv rfl rfl rfl rfl ?_)))
    obtain ⟨xe1, be1, oe1, cse1, hxe1, hAe1, hSe1, hre1, hAte1⟩ := rdS.el hx (i := k) (by omega)
    have hK1 := hre1
    obtain ⟨v1, v2, v3, rfl, hr1, hr2, hs1, hs2, hs3⟩ := hre1
    obtain ⟨A2, c2, rfl, hc2, hm2⟩ := hs1.form
    obtain ⟨A3, c3, rfl, hc3, hm3⟩ := hs2.form
    obtain ⟨A4, c4, rfl, hc4, hm4⟩ := hs3.form
    refine WL.ev rfl rfl (Ev.ixA rfl el23 sz30 rfl hAe1 rfl (by omega)) (WL.ev rfl rfl (Ev.lda rfl ag30 sz30 rfl (hAte1.ext hEwr1) rfl) ?_)
    refine WL.call rfl rfl rfl rfl rfl ok11 rfl (toRule_spec _ xe1 (rd_ext hK1 hEwr1) (by have := szL_get hxe1; (try simp only [szfold] at *); omega)) ?_
    rintro _ w1 hEw1 ⟨cs1, rfl, L1, hO1, hN1, hF1⟩
    refine WL.ev rfl rfl (Ev.ix rfl el38 sz45 rfl rfl (by omega)) ?_
    refine WL.stTo rfl rfl rfl sz45 rfl rfl rfl (hI.ext hEw1) hxe1 hO1 hN1 (hI.fresh hF1) rfl fun w2 hCw2 hI2 => ?_
    have hX1 := Ext.chg1 (hEwr1.trans hEw1) hCw2 (by have := hE1.size; omega)
    refine WL.nil ?_
    refine CW.reg ?_
    refine Wmv rfl rfl rfl rfl (WL.ev rfl rfl (Ev.bin rfl rfl rfl (Bin.add (by omega))) (Wsn rfl rfl rfl rfl ?_))
    exact ⟨(k + 1, _, _), ⟨rfl, rfl, rfl, trivial⟩, ⟨hX1, hI2⟩, by simp only; omega⟩
  · refine CW.exit ?_
    refine Sreg ?_
    refine Wmv rfl rfl rfl rfl (Wsn rfl rfl rfl rfl ?_)
    refine CW.ret ?_
    exact ⟨_, res1 rfl rfl rfl, hEwr1, hI.new (by omega) (by unfold maxLen; omega) hg⟩

theorem toGrammar_spec (w : World) {S : Nat → Prop} (x : Grammar) {cs : List Value} (hx : rd S w x cs) (hlen : Sz.szd x ≤ 1048576) :
    Ret Tryz.prog 10 #[.agg cs.toArray] w (fun _ => False) fun v w' => ∃ cs, v = .agg cs.toArray ∧ New w w' x cs := by
  refine enter Tryz.func10 rfl rfl rfl ?_
  have hK1 := hx
  obtain ⟨v1, v2, rfl, hs1, hs2⟩ := hx
  obtain ⟨A1, c1, rfl, hc1, hm1⟩ := hs1.form
  obtain ⟨A2, c2, rfl, hc2, hm2⟩ := hs2.form
  rw [Grammar_szd] at hlen
  refine Sreg ?_
  refine WL.box rfl rfl rfl rfl rfl fun b1 w1 hEb1 hbb1 hBb1 => ?_
  refine WL.alloc rfl rfl rfl ze40 fun b2 w2 hEb2 hbb2 hBb2 => ?_
  refine WL.nil ?_
  refine Sreg ?_
  refine WL.alloc rfl rfl rfl ze40 fun b3 w3 hEb3 hbb3 hBb3 => ?_
  refine WL.nil ?_
  refine Sreg ?_
  refine Wfa rfl rfl rfl fo25_0 rfl (WL.ev rfl rfl (Ev.ld rfl ag22 rfl ((hBb1.ext (hEb2.trans hEb3)).cell rfl)) ?_)
  refine WL.call rfl rfl rfl rfl rfl ok56 rfl (toSymbolS_spec _ x.Symbols (hs1.ext ((hEb1.trans hEb2).trans hEb3)) (by omega)) ?_
  rintro v3 w4 hEw4 ⟨L1, hO1, hN1, hF1⟩
  obtain ⟨A3, c3, rfl, hc3, hm3⟩ := hO1.form
  refine Wfa rfl rfl rfl fo40_0 rfl ?_
  refine WL.st rfl rfl rfl sz37 rfl rfl rfl rfl (all1 rfl all0) (hBb3.ext hEw4) (Nat.le_of_ble_eq_true rfl) fun w5 hCw5 hB_1 => ?_
  have hB_1 : Blk _ _ _ [_, _] := hB_1
  have hz1 := (hBb3.ext hEw4).lt
  have hB_2 := Blk.chg1 (hBb1.ext ((hEb2.trans hEb3).trans hEw4)) hCw5 (by have := hBb1.lt; have := hbb3; have := hEb2.size; omega)
  have hB_3 := Blk.chg1 (hBb2.ext (hEb3.trans hEw4)) hCw5 (by have := hBb2.lt; have := hbb3; omega)
  have hO_1 := ownS.chg1 hO1 hCw5 (fun q hq e => by subst e; have := hF1 _ hq; have := hBb3.lt; omega)
  have hX1 := Ext.chg1 (((hEb1.trans hEb2).trans hEb3).trans hEw4) hCw5 (by have := hbb3; have := hEb1.size; have := hEb2.size; omega)
  refine WL.nil ?_
  refine CW.fresh [(1, .pointer (some ⟨b1, 0, none⟩)), (2, .pointer (some ⟨b2, 0, none⟩)), (3, .pointer (some ⟨b3, 0, none⟩))] ⟨rfl, rfl, rfl, trivial⟩ fun σ => ?_
  refine Sreg ?_
  refine Wfa rfl rfl rfl fo25_1 rfl (WL.ev rfl rfl (Ev.ld rfl ag23 rfl (hB_2.cell rfl)) ?_)
  refine WL.call rfl rfl rfl rfl rfl ok57 rfl (toRuleS_spec _ x.Rules (hs2.ext hX1) (by omega)) ?_
  rintro v4 w6 hEw6 ⟨L2, hO2, hN2, hF2⟩
  obtain ⟨A4, c4, rfl, hc4, hm4⟩ := hO2.form
  refine Wfa rfl rfl rfl fo40_1 rfl ?_
  refine WL.st rfl rfl rfl sz38 rfl rfl rfl rfl (all1 rfl all0) (hB_1.ext hEw6) (Nat.le_of_ble_eq_true rfl) fun w7 hCw7 hB_4 => ?_
  have hB_4 : Blk _ _ _ [_, _] := hB_4
  have hz2 := (hB_1.ext hEw6).lt
  have hB_5 := Blk.chg1 (hB_2.ext hEw6) hCw7 (by have := hBb1.lt; have := hbb3; have := hEb2.size; omega)
  have hB_6 := Blk.chg1 (hB_3.ext hEw6) hCw7 (by have := hBb2.lt; have := hbb3; omega)
  have hO_2 := ownS.chg1 (hO_1.ext hEw6) hCw7 (fun q hq e => by subst e; have := hF1 _ hq; have := hBb3.lt; omega)
  have hO_3 := ownS.chg1 hO2 hCw7 (fun q hq e => by subst e; have := hF2 _ hq; have := hBb3.lt; have := hEw4.size; have := hCw5.size; omega)
  have hX2 := Ext.chg1 (hX1.trans hEw6) hCw7 (by have := hbb3; have := hEb1.size; have := hEb2.size; omega)
  refine WL.nil ?_
  refine CW.fresh [(2, .pointer (some ⟨b2, 0, none⟩)), (3, .pointer (some ⟨b3, 0, none⟩))] ⟨rfl, rfl, trivial⟩ fun σ => ?_
  refine Sreg ?_
  refine WL.ev rfl rfl (Ev.lda rfl ag40 sz40 rfl (At.blk hB_4) rfl) ?_
  refine WL.st rfl rfl rfl sz40 rfl rfl rfl rfl (all1 rfl (all1 rfl all0)) hB_6 (Nat.le_of_ble_eq_true rfl) fun w8 hCw8 hB_7 => ?_
  have hB_7 : Blk _ _ _ [_, _] := hB_7
  have hz3 := hB_6.lt
  have hB_8 := Blk.chg1 hB_5 hCw8 (by have := hBb1.lt; have := hbb2; omega)
  have hB_9 := Blk.chg1 hB_4 hCw8 (by have := hBb2.lt; have := hbb3; omega)
  have hO_4 := ownS.chg1 hO_2 hCw8 (fun q hq e => by subst e; have := hF1 _ hq; have := hBb2.lt; have := hEb3.size; omega)
  have hO_5 := ownS.chg1 hO_3 hCw8 (fun q hq e => by subst e; have := hF2 _ hq; have := hBb2.lt; have := hEb3.size; have := hEw4.size; have := hCw5.size; omega)
  have hX3 := Ext.chg1 hX2 hCw8 (by have := hbb2; have := hEb1.size; omega)
  refine WL.nil ?_
  refine CW.ret ?_
  exact ⟨_, resC rfl ag40 sz40 rfl rfl (At.blk hB_7) rfl, hX3, _, rfl, _, ⟨_, _, _, _, rfl, rfl, hO_4, hO_5⟩, (nodup_app hN1 hN2 (k := w5.heap.size) (fun q hq => by first | (have := hO1.lt _ hq; have := hCw5.size; omega)) hF2), fun q hq => by simp only [List.mem_append] at hq; rcases hq with hq | hq <;> first | (have := hF1 _ hq; have := hEb1.size; have := hEb2.size; have := hEb3.size; omega) | (have := hF2 _ hq; have := hEb1.size; have := hEb2.size; have := hEb3.size; have := hEw4.size; have := hCw5.size; omega)⟩

theorem toPhase_spec (w : World) {S : Nat → Prop} (x : Phase) {cs : List Value} (hx : rd S w x cs) (hlen : Sz.szd x ≤ 1048576) :
    Ret Tryz.prog 144 #[.agg cs.toArray] w (fun _ => False) fun v w' => ∃ cs, v = .agg cs.toArray ∧ New w w' x cs := by
  refine enter Tryz.func144 rfl rfl rfl ?_
  have hK1 := hx
  obtain ⟨v1, v2, rfl, hs1, hs2⟩ := hx
  obtain ⟨A1, c1, rfl, hc1, hm1⟩ := hs1.form
  obtain ⟨A2, c2, rfl, hc2, hm2⟩ := hs2.form
  rw [Phase_szd] at hlen
  refine Sreg ?_
  refine WL.box rfl rfl rfl rfl rfl fun b1 w1 hEb1 hbb1 hBb1 => ?_
  refine WL.alloc rfl rfl rfl ze129 fun b2 w2 hEb2 hbb2 hBb2 => ?_
  refine WL.nil ?_
  refine Sreg ?_
  refine WL.alloc rfl rfl rfl ze129 fun b3 w3 hEb3 hbb3 hBb3 => ?_
  refine WL.nil ?_
  refine Sreg ?_
  refine Wfa rfl rfl rfl fo200_0 rfl (WL.ev rfl rfl (Ev.ld rfl ag26 rfl ((hBb1.ext (hEb2.trans hEb3)).cell rfl)) ?_)
  refine WL.call rfl rfl rfl rfl rfl ok58 rfl (toStringS_spec _ x.Inherited (hs1.ext ((hEb1.trans hEb2).trans hEb3)) (by omega)) ?_
  rintro v3 w4 hEw4 ⟨L1, hO1, hN1, hF1⟩
  obtain ⟨A3, c3, rfl, hc3, hm3⟩ := hO1.form
  refine Wfa rfl rfl rfl fo129_0 rfl ?_
  refine WL.st rfl rfl rfl sz26 rfl rfl rfl rfl (all1 rfl all0) (hBb3.ext hEw4) (Nat.le_of_ble_eq_true rfl) fun w5 hCw5 hB_1 => ?_
  have hB_1 : Blk _ _ _ [_, _] := hB_1
  have hz1 := (hBb3.ext hEw4).lt
  have hB_2 := Blk.chg1 (hBb1.ext ((hEb2.trans hEb3).trans hEw4)) hCw5 (by have := hBb1.lt; have := hbb3; have := hEb2.size; omega)
  have hB_3 := Blk.chg1 (hBb2.ext (hEb3.trans hEw4)) hCw5 (by have := hBb2.lt; have := hbb3; omega)
  have hO_1 := ownS.chg1 hO1 hCw5 (fun q hq e => by subst e; have := hF1 _ hq; have := hBb3.lt; omega)
  have hX1 := Ext.chg1 (((hEb1.trans hEb2).trans hEb3).trans hEw4) hCw5 (by have := hbb3; have := hEb1.size; have := hEb2.size; omega)
  refine WL.nil ?_
  refine CW.fresh [(1, .pointer (some ⟨b1, 0, none⟩)), (2, .pointer (some ⟨b2, 0, none⟩)), (3, .pointer (some ⟨b3, 0, none⟩))] ⟨rfl, rfl, rfl, trivial⟩ fun σ => ?_
  refine Sreg ?_
  refine Wfa rfl rfl rfl fo200_1 rfl (WL.ev rfl rfl (Ev.ld rfl ag26 rfl (hB_2.cell rfl)) ?_)
  refine WL.call rfl rfl rfl rfl rfl ok58 rfl (toStringS_spec _ x.Synthesized (hs2.ext hX1) (by omega)) ?_
  rintro v4 w6 hEw6 ⟨L2, hO2, hN2, hF2⟩
  obtain ⟨A4, c4, rfl, hc4, hm4⟩ := hO2.form
  refine Wfa rfl rfl rfl fo129_1 rfl ?_
  refine WL.st rfl rfl rfl sz26 rfl rfl rfl rfl (all1 rfl all0) (hB_1.ext hEw6) (Nat.le_of_ble_eq_true rfl) fun w7 hCw7 hB_4 => ?_
  have hB_4 : Blk _ _ _ [_, _] := hB_4
  have hz2 := (hB_1.ext hEw6).lt
  have hB_5 := Blk.chg1 (hB_2.ext hEw6) hCw7 (by have := hBb1.lt; have := hbb3; have := hEb2.size; omega)
  have hB_6 := Blk.chg1 (hB_3.ext hEw6) hCw7 (by have := hBb2.lt; have := hbb3; omega)
  have hO_2 := ownS.chg1 (hO_1.ext hEw6) hCw7 (fun q hq e => by subst e; have := hF1 _ hq; have := hBb3.lt; omega)
  have hO_3 := ownS.chg1 hO2 hCw7 (fun q hq e => by subst e; have := hF2 _ hq; have := hBb3.lt; have := hEw4.size; have := hCw5.size; omega)
  have hX2 := Ext.chg1 (hX1.trans hEw6) hCw7 (by have := hbb3; have := hEb1.size; have := hEb2.size; omega)
  refine WL.nil ?_
  refine CW.fresh [(2, .pointer (some ⟨b2, 0, none⟩)), (3, .pointer (some ⟨b3, 0, none⟩))] ⟨rfl, rfl, trivial⟩ fun σ => ?_
  refine Sreg ?_
  refine WL.ev rfl rfl (Ev.lda rfl ag129 sz129 rfl (At.blk hB_4) rfl) ?_
  refine WL.st rfl rfl rfl sz129 rfl rfl rfl rfl (all1 rfl (all1 rfl all0)) hB_6 (Nat.le_of_ble_eq_true rfl) fun w8 hCw8 hB_7 => ?_
  have hB_7 : Blk _ _ _ [_, _] := hB_7
  have hz3 := hB_6.lt
  have hB_8 := Blk.chg1 hB_5 hCw8 (by have := hBb1.lt; have := hbb2; omega)
  have hB_9 := Blk.chg1 hB_4 hCw8 (by have := hBb2.lt; have := hbb3; omega)
  have hO_4 := ownS.chg1 hO_2 hCw8 (fun q hq e => by subst e; have := hF1 _ hq; have := hBb2.lt; have := hEb3.size; omega)
  have hO_5 := ownS.chg1 hO_3 hCw8 (fun q hq e => by subst e; have := hF2 _ hq; have := hBb2.lt; have := hEb3.size; have := hEw4.size; have := hCw5.size; omega)
  have hX3 := Ext.chg1 hX2 hCw8 (by have := hbb2; have := hEb1.size; omega)
  refine WL.nil ?_
  refine CW.ret ?_
  exact ⟨_, resC rfl ag129 sz129 rfl rfl (At.blk hB_7) rfl, hX3, _, rfl, _, ⟨_, _, _, _, rfl, rfl, hO_4, hO_5⟩, (nodup_app hN1 hN2 (k := w5.heap.size) (fun q hq => by first | (have := hO1.lt _ hq; have := hCw5.size; omega)) hF2), fun q hq => by simp only [List.mem_append] at hq; rcases hq with hq | hq <;> first | (have := hF1 _ hq; have := hEb1.size; have := hEb2.size; have := hEb3.size; omega) | (have := hF2 _ hq; have := hEb1.size; have := hEb2.size; have := hEb3.size; have := hEw4.size; have := hCw5.size; omega)⟩

theorem toPhaseS_spec (w : World) {S : Nat → Prop} (x : List Phase) {z : Value} (hx : rdS S w x z) (hlen : szL x ≤ 1048576) :
    Ret Tryz.prog 87 #[z] w (fun _ => False) fun v w' => NewS w w' x v := by
  refine enter Tryz.func87 rfl rfl rfl ?_
  obtain ⟨A1, c1, rfl, hc1, hm1⟩ := hx.form
  have hl1 : x.length ≤ 9223372036854775807 := Nat.le_trans hc1 hm1
  have hln := szL_length x
  refine Sreg ?_
  refine Wsn rfl rfl rfl rfl ?_
  refine Sreg ?_
  refine Wmv rfl rfl rfl rfl (WL.ev rfl rfl (Ev.lenS rfl el118 rfl) ?_)
  refine WL.mk rfl rfl rfl el125 sz129 by129 ze129 rfl rfl rfl (by omega) (by omega) fun g w1 hE1 hg hBg => ?_
  refine Wsn rfl rfl rfl rfl ?_
  refine SSr ?_
  refine Wsn rfl rfl rfl rfl ?_
  refine CW.block (CW.loop (α := Nat × List Value × List Nat) (fun q => [(0, .slice A1 x.length c1), (3, .slice (some ⟨g, 0, none⟩) x.length x.length), (4, .int .i64 (q.1 : Int))]) (fun q wr => Ext w wr ∧ ToInv wr g 129 [.slice none 0 0, .slice none 0 0] x q.1 q.2.1 q.2.2) (fun q => x.length - q.1) (0, [], []) ⟨rfl, rfl, rfl, trivial⟩ ⟨hE1, ToInv.init hBg⟩ ?_)
  rintro ⟨k, cs, L⟩ σ wr1 ⟨hEwr1, hI⟩
  simp only at hI
  have hk := hI.le
  refine SSr ?_
  refine Wmv rfl rfl rfl rfl (Wmv rfl rfl rfl rfl (WL.ev rfl rfl (Ev.lenS rfl el118 rfl) (WL.ev rfl rfl (Ev.bin rfl rfl rfl Bin.lss) (WL.nil ?_))))
  refine CW.condD rfl (fun h1 => ?_) (fun h1 => ?_)
  · refine CW.skip ?_
    refine CW.seq (CW.block (CW.reg ?_))
    refine Wmv rfl rfl rfl rfl (Wmv rfl rfl rfl rfl (Wmv rfl rfl rfl rfl (Wmv rfl rfl rfl rfl ?_)))
    obtain ⟨xe1, be1, oe1, cse1, hxe1, hAe1, hSe1, hre1, hAte1⟩ := rdS.el hx (i := k) (by omega)
    have hK1 := hre1
    obtain ⟨v1, v2, rfl, hs1, hs2⟩ := hre1
    obtain ⟨A2, c2, rfl, hc2, hm2⟩ := hs1.form
    obtain ⟨A3, c3, rfl, hc3, hm3⟩ := hs2.form
    refine WL.ev rfl rfl (Ev.ixA rfl el118 sz200 rfl hAe1 rfl (by omega)) (WL.ev rfl rfl (Ev.lda rfl ag200 sz200 rfl (hAte1.ext hEwr1) rfl) ?_)
    refine WL.call rfl rfl rfl rfl rfl ok144 rfl (toPhase_spec _ xe1 (rd_ext hK1 hEwr1) (by have := szL_get hxe1; (try simp only [szfold] at *); omega)) ?_
    rintro _ w1 hEw1 ⟨cs1, rfl, L1, hO1, hN1, hF1⟩
    refine WL.ev rfl rfl (Ev.ix rfl el125 sz129 rfl rfl (by omega)) ?_
    refine WL.stTo rfl rfl rfl sz129 rfl rfl rfl (hI.ext hEw1) hxe1 hO1 hN1 (hI.fresh hF1) rfl fun w2 hCw2 hI2 => ?_
    have hX1 := Ext.chg1 (hEwr1.trans hEw1) hCw2 (by have := hE1.size; omega)
    refine WL.nil ?_
    refine CW.reg ?_
    refine Wmv rfl rfl rfl rfl (WL.ev rfl rfl (Ev.bin rfl rfl rfl (Bin.add (by omega))) (Wsn rfl rfl rfl rfl ?_))
    exact ⟨(k + 1, _, _), ⟨rfl, rfl, rfl, trivial⟩, ⟨hX1, hI2⟩, by simp only; omega⟩
  · refine CW.exit ?_
    refine Sreg ?_
    refine Wmv rfl rfl rfl rfl (Wsn rfl rfl rfl rfl ?_)
    refine CW.ret ?_
    exact ⟨_, res1 rfl rfl rfl, hEwr1, hI.new (by omega) (by unfold maxLen; omega) hg⟩

theorem toPhaseSS_spec (w : World) {S : Nat → Prop} (x : List (List Phase)) {z : Value} (hx : rdS S w x z) (hlen : szL x ≤ 1048576) :
    Ret Tryz.prog 23 #[z] w (fun _ => False) fun v w' => NewS w w' x v := by
  refine enter Tryz.func23 rfl rfl rfl ?_
  obtain ⟨A1, c1, rfl, hc1, hm1⟩ := hx.form
  have hl1 : x.length ≤ 9223372036854775807 := Nat.le_trans hc1 hm1
  have hln := szL_length x
  refine Sreg ?_
  refine Wsn rfl rfl rfl rfl ?_
  refine Sreg ?_
  refine Wmv rfl rfl rfl rfl (WL.ev rfl rfl (Ev.lenS rfl el54 rfl) ?_)
  refine WL.mk rfl rfl rfl el59 sz125 by125 ze125 rfl rfl rfl (by omega) (by omega) fun g w1 hE1 hg hBg => ?_
  refine Wsn rfl rfl rfl rfl ?_
  refine SSr ?_
  refine Wsn rfl rfl rfl rfl ?_
  refine CW.block (CW.loop (α := Nat × List Value × List Nat) (fun q => [(0, .slice A1 x.length c1), (3, .slice (some ⟨g, 0, none⟩) x.length x.length), (4, .int .i64 (q.1 : Int))]) (fun q wr => Ext w wr ∧ ToInv wr g 125 [.slice none 0 0] x q.1 q.2.1 q.2.2) (fun q => x.length - q.1) (0, [], []) ⟨rfl, rfl, rfl, trivial⟩ ⟨hE1, ToInv.init hBg⟩ ?_)
  rintro ⟨k, cs, L⟩ σ wr1 ⟨hEwr1, hI⟩
  simp only at hI
  have hk := hI.le
  refine SSr ?_
  refine Wmv rfl rfl rfl rfl (Wmv rfl rfl rfl rfl (WL.ev rfl rfl (Ev.lenS rfl el54 rfl) (WL.ev rfl rfl (Ev.bin rfl rfl rfl Bin.lss) (WL.nil ?_))))
  refine CW.condD rfl (fun h1 => ?_) (fun h1 => ?_)
  · refine CW.skip ?_
    refine CW.seq (CW.block (CW.reg ?_))
    refine Wmv rfl rfl rfl rfl (Wmv rfl rfl rfl rfl (Wmv rfl rfl rfl rfl (Wmv rfl rfl rfl rfl ?_)))
    obtain ⟨xe1, be1, oe1, cse1, hxe1, hAe1, hSe1, hre1, hAte1⟩ := rdS.el hx (i := k) (by omega)
    have hK1 := hre1
    obtain ⟨v1, rfl, hs1⟩ := hre1
    obtain ⟨A2, c2, rfl, hc2, hm2⟩ := hs1.form
    refine WL.ev rfl rfl (Ev.ixA rfl el54 sz118 rfl hAe1 rfl (by omega)) (WL.ev rfl rfl (Ev.ld rfl ag118 rfl ((hAte1.ext hEwr1).cell0 rfl)) ?_)
    refine WL.call rfl rfl rfl rfl rfl ok87 rfl (toPhaseS_spec _ xe1 (hs1.ext hEwr1) (by have := szL_get hxe1; (try simp only [szfold] at *); omega)) ?_
    rintro v2 w1 hEw1 ⟨L1, hO1, hN1, hF1⟩
    obtain ⟨A3, c3, rfl, hc3, hm3⟩ := hO1.form
    refine WL.ev rfl rfl (Ev.ix rfl el59 sz125 rfl rfl (by omega)) ?_
    refine WL.stTo rfl rfl rfl sz125 rfl rfl rfl (hI.ext hEw1) hxe1 (New.slice hO1) hN1 (hI.fresh hF1) rfl fun w2 hCw2 hI2 => ?_
    have hX1 := Ext.chg1 (hEwr1.trans hEw1) hCw2 (by have := hE1.size; omega)
    refine WL.nil ?_
    refine CW.reg ?_
    refine Wmv rfl rfl rfl rfl (WL.ev rfl rfl (Ev.bin rfl rfl rfl (Bin.add (by omega))) (Wsn rfl rfl rfl rfl ?_))
    exact ⟨(k + 1, _, _), ⟨rfl, rfl, rfl, trivial⟩, ⟨hX1, hI2⟩, by simp only; omega⟩
  · refine CW.exit ?_
    refine Sreg ?_
    refine Wmv rfl rfl rfl rfl (Wsn rfl rfl rfl rfl ?_)
    refine CW.ret ?_
    exact ⟨_, res1 rfl rfl rfl, hEwr1, hI.new (by omega) (by unfold maxLen; omega) hg⟩

theorem toStep_spec (w : World) {S : Nat → Prop} (x : Step) {cs : List Value} (hx : rd S w x cs) (hlen : Sz.szd x ≤ 1048576) :
    Ret Tryz.prog 88 #[.agg cs.toArray] w (fun _ => False) fun v w' => ∃ cs, v = .agg cs.toArray ∧ New w w' x cs := by
  refine enter Tryz.func88 rfl rfl rfl ?_
  have hK1 := hx
  obtain ⟨rfl, hr1, hr2, hr3, hr4⟩ := hx
  rw [Step_szd] at hlen
  refine Sreg ?_
  refine WL.box rfl rfl rfl rfl rfl fun b1 w1 hEb1 hbb1 hBb1 => ?_
  refine WL.alloc rfl rfl rfl ze130 fun b2 w2 hEb2 hbb2 hBb2 => ?_
  refine WL.nil ?_
  refine Sreg ?_
  refine WL.alloc rfl rfl rfl ze130 fun b3 w3 hEb3 hbb3 hBb3 => ?_
  refine WL.nil ?_
  refine Sreg ?_
  refine Wfa rfl rfl rfl fo121_0 rfl (WL.ev rfl rfl (Ev.ld rfl ag3 rfl ((hBb1.ext (hEb2.trans hEb3)).cell rfl)) (Wfa rfl rfl rfl fo130_0 rfl ?_))
  refine WL.st rfl rfl rfl sz3 rfl rfl rfl rfl (all1 rfl all0) hBb3 (Nat.le_of_ble_eq_true rfl) fun w4 hCw4 hB_1 => ?_
  have hB_1 : Blk _ _ _ [_, _, _, _] := hB_1
  have hz1 := hBb3.lt
  have hB_2 := Blk.chg1 (hBb1.ext (hEb2.trans hEb3)) hCw4 (by have := hBb1.lt; have := hbb3; have := hEb2.size; omega)
  have hB_3 := Blk.chg1 (hBb2.ext hEb3) hCw4 (by have := hBb2.lt; have := hbb3; omega)
  have hX1 := Ext.chg1 ((hEb1.trans hEb2).trans hEb3) hCw4 (by have := hbb3; have := hEb1.size; have := hEb2.size; omega)
  refine WL.nil ?_
  refine CW.fresh [(1, .pointer (some ⟨b1, 0, none⟩)), (2, .pointer (some ⟨b2, 0, none⟩)), (3, .pointer (some ⟨b3, 0, none⟩))] ⟨rfl, rfl, rfl, trivial⟩ fun σ => ?_
  refine Sreg ?_
  refine Wfa rfl rfl rfl fo121_1 rfl (WL.ev rfl rfl (Ev.ld rfl ag3 rfl (hB_2.cell rfl)) (Wfa rfl rfl rfl fo130_1 rfl ?_))
  refine WL.st rfl rfl rfl sz3 rfl rfl rfl rfl (all1 rfl all0) hB_1 (Nat.le_of_ble_eq_true rfl) fun w5 hCw5 hB_4 => ?_
  have hB_4 : Blk _ _ _ [_, _, _, _] := hB_4
  have hz2 := hB_1.lt
  have hB_5 := Blk.chg1 hB_2 hCw5 (by have := hBb1.lt; have := hbb3; have := hEb2.size; omega)
  have hB_6 := Blk.chg1 hB_3 hCw5 (by have := hBb2.lt; have := hbb3; omega)
  have hX2 := Ext.chg1 hX1 hCw5 (by have := hbb3; have := hEb1.size; have := hEb2.size; omega)
  refine WL.nil ?_
  refine CW.fresh [(1, .pointer (some ⟨b1, 0, none⟩)), (2, .pointer (some ⟨b2, 0, none⟩)), (3, .pointer (some ⟨b3, 0, none⟩))] ⟨rfl, rfl, rfl, trivial⟩ fun σ => ?_
  refine Sreg ?_
  refine Wfa rfl rfl rfl fo121_2 rfl (WL.ev rfl rfl (Ev.ld rfl ag3 rfl (hB_5.cell rfl)) (Wfa rfl rfl rfl fo130_2 rfl ?_))
  refine WL.st rfl rfl rfl sz3 rfl rfl rfl rfl (all1 rfl all0) hB_4 (Nat.le_of_ble_eq_true rfl) fun w6 hCw6 hB_7 => ?_
  have hB_7 : Blk _ _ _ [_, _, _, _] := hB_7
  have hz3 := hB_4.lt
  have hB_8 := Blk.chg1 hB_5 hCw6 (by have := hBb1.lt; have := hbb3; have := hEb2.size; omega)
  have hB_9 := Blk.chg1 hB_6 hCw6 (by have := hBb2.lt; have := hbb3; omega)
  have hX3 := Ext.chg1 hX2 hCw6 (by have := hbb3; have := hEb1.size; have := hEb2.size; omega)
  refine WL.nil ?_
  refine CW.fresh [(1, .pointer (some ⟨b1, 0, none⟩)), (2, .pointer (some ⟨b2, 0, none⟩)), (3, .pointer (some ⟨b3, 0, none⟩))] ⟨rfl, rfl, rfl, trivial⟩ fun σ => ?_
  refine Sreg ?_
  refine Wfa rfl rfl rfl fo121_3 rfl (WL.ev rfl rfl (Ev.ld rfl ag9 rfl (hB_8.cell rfl)) (Wfa rfl rfl rfl fo130_3 rfl ?_))
  refine WL.st rfl rfl rfl sz9 rfl rfl rfl rfl (all1 rfl all0) hB_7 (Nat.le_of_ble_eq_true rfl) fun w7 hCw7 hB_10 => ?_
  have hB_10 : Blk _ _ _ [_, _, _, _] := hB_10
  have hz4 := hB_7.lt
  have hB_11 := Blk.chg1 hB_8 hCw7 (by have := hBb1.lt; have := hbb3; have := hEb2.size; omega)
  have hB_12 := Blk.chg1 hB_9 hCw7 (by have := hBb2.lt; have := hbb3; omega)
  have hX4 := Ext.chg1 hX3 hCw7 (by have := hbb3; have := hEb1.size; have := hEb2.size; omega)
  refine WL.nil ?_
  refine CW.fresh [(2, .pointer (some ⟨b2, 0, none⟩)), (3, .pointer (some ⟨b3, 0, none⟩))] ⟨rfl, rfl, trivial⟩ fun σ => ?_
  refine Sreg ?_
  refine WL.ev rfl rfl (Ev.lda rfl ag130 sz130 rfl (At.blk hB_10) rfl) ?_
  refine WL.st rfl rfl rfl sz130 rfl rfl rfl rfl (all1 rfl (all1 rfl (all1 rfl (all1 rfl all0)))) hB_12 (Nat.le_of_ble_eq_true rfl) fun w8 hCw8 hB_13 => ?_
  have hB_13 : Blk _ _ _ [_, _, _, _] := hB_13
  have hz5 := hB_12.lt
  have hB_14 := Blk.chg1 hB_11 hCw8 (by have := hBb1.lt; have := hbb2; omega)
  have hB_15 := Blk.chg1 hB_10 hCw8 (by have := hBb2.lt; have := hbb3; omega)
  have hX5 := Ext.chg1 hX4 hCw8 (by have := hbb2; have := hEb1.size; omega)
  refine WL.nil ?_
  refine CW.ret ?_
  exact ⟨_, resC rfl ag130 sz130 rfl rfl (At.blk hB_13) rfl, hX5, _, rfl, _, ⟨rfl, by first | assumption | omega, by first | assumption | omega, by first | assumption | omega, by first | assumption | omega, rfl⟩, List.nodup_nil, by simp⟩

theorem toStepS_spec (w : World) {S : Nat → Prop} (x : List Step) {z : Value} (hx : rdS S w x z) (hlen : szL x ≤ 1048576) :
    Ret Tryz.prog 24 #[z] w (fun _ => False) fun v w' => NewS w w' x v := by
  refine enter Tryz.func24 rfl rfl rfl ?_
  obtain ⟨A1, c1, rfl, hc1, hm1⟩ := hx.form
  have hl1 : x.length ≤ 9223372036854775807 := Nat.le_trans hc1 hm1
  have hln := szL_length x
  refine Sreg ?_
  refine Wsn rfl rfl rfl rfl ?_
  refine Sreg ?_
  refine Wmv rfl rfl rfl rfl (WL.ev rfl rfl (Ev.lenS rfl el55 rfl) ?_)
  refine WL.mk rfl rfl rfl el61 sz130 by130 ze130 rfl rfl rfl (by omega) (by omega) fun g w1 hE1 hg hBg => ?_
  refine Wsn rfl rfl rfl rfl ?_
  refine SSr ?_
  refine Wsn rfl rfl rfl rfl ?_
  refine CW.block (CW.loop (α := Nat × List Value × List Nat) (fun q => [(0, .slice A1 x.length c1), (3, .slice (some ⟨g, 0, none⟩) x.length x.length), (4, .int .i64 (q.1 : Int))]) (fun q wr => Ext w wr ∧ ToInv wr g 130 [.int .i64 0, .int .i64 0, .int .i64 0, .string ⟨#[]⟩] x q.1 q.2.1 q.2.2) (fun q => x.length - q.1) (0, [], []) ⟨rfl, rfl, rfl, trivial⟩ ⟨hE1, ToInv.init hBg⟩ ?_)
  rintro ⟨k, cs, L⟩ σ wr1 ⟨hEwr1, hI⟩
  simp only at hI
  have hk := hI.le
  refine SSr ?_
  refine Wmv rfl rfl rfl rfl (Wmv rfl rfl rfl rfl (WL.ev rfl rfl (Ev.lenS rfl el55 rfl) (WL.ev rfl rfl (Ev.bin rfl rfl rfl Bin.lss) (WL.nil ?_))))
  refine CW.condD rfl (fun h1 => ?_) (fun h1 => ?_)
  · refine CW.skip ?_
    refine CW.seq (CW.block (CW.reg ?_))
    refine Wmv rfl rfl rfl rfl (Wmv rfl rfl rfl rfl (Wmv rfl rfl rfl rfl (Wmv rfl rfl rfl rfl ?_)))
    obtain ⟨xe1, be1, oe1, cse1, hxe1, hAe1, hSe1, hre1, hAte1⟩ := rdS.el hx (i := k) (by omega)
    have hK1 := hre1
    obtain ⟨rfl, hr1, hr2, hr3, hr4⟩ := hre1
    refine WL.ev rfl rfl (Ev.ixA rfl el55 sz121 rfl hAe1 rfl (by omega)) (WL.ev rfl rfl (Ev.lda rfl ag121 sz121 rfl (hAte1.ext hEwr1) rfl) ?_)
    refine WL.call rfl rfl rfl rfl rfl ok88 rfl (toStep_spec _ xe1 (rd_ext hK1 hEwr1) (by have := szL_get hxe1; (try simp only [szfold] at *); omega)) ?_
    rintro _ w1 hEw1 ⟨cs1, rfl, L1, hO1, hN1, hF1⟩
    refine WL.ev rfl rfl (Ev.ix rfl el61 sz130 rfl rfl (by omega)) ?_
    refine WL.stTo rfl rfl rfl sz130 rfl rfl rfl (hI.ext hEw1) hxe1 hO1 hN1 (hI.fresh hF1) rfl fun w2 hCw2 hI2 => ?_
    have hX1 := Ext.chg1 (hEwr1.trans hEw1) hCw2 (by have := hE1.size; omega)
    refine WL.nil ?_
    refine CW.reg ?_
    refine Wmv rfl rfl rfl rfl (WL.ev rfl rfl (Ev.bin rfl rfl rfl (Bin.add (by omega))) (Wsn rfl rfl rfl rfl ?_))
    exact ⟨(k + 1, _, _), ⟨rfl, rfl, rfl, trivial⟩, ⟨hX1, hI2⟩, by simp only; omega⟩
  · refine CW.exit ?_
    refine Sreg ?_
    refine Wmv rfl rfl rfl rfl (Wsn rfl rfl rfl rfl ?_)
    refine CW.ret ?_
    exact ⟨_, res1 rfl rfl rfl, hEwr1, hI.new (by omega) (by unfold maxLen; omega) hg⟩

theorem eqAttribute_spec (w : World) {S S2 : Nat → Prop} (x y : Attribute) {cs ds : List Value} (hx : rd S w x cs) (hy : rd S2 w y ds) :
    Ret Tryz.prog 222 #[.agg cs.toArray, .agg ds.toArray] w (fun _ => False) fun v _ => v = .bool (decide (x = y)) := by
  refine enter Tryz.func222 rfl rfl rfl ?_
  have hK1 := hx
  obtain ⟨rfl, hr1, hr2, hr3⟩ := hx
  have hK2 := hy
  obtain ⟨rfl, hr4, hr5, hr6⟩ := hy
  refine Sreg ?_
  refine WL.box rfl rfl rfl rfl rfl fun b1 w1 hEb1 hbb1 hBb1 => ?_
  refine WL.box rfl rfl rfl rfl rfl fun b2 w2 hEb2 hbb2 hBb2 => ?_
  refine Wsn rfl rfl rfl rfl ?_
  refine SSr ?_
  refine Wfa rfl rfl rfl fo156_0 rfl (WL.ev rfl rfl (Ev.ld rfl ag9 rfl ((hBb1.ext hEb2).cell rfl)) (Wfa rfl rfl rfl fo156_0 rfl (WL.ev rfl rfl (Ev.ld rfl ag9 rfl (hBb2.cell rfl)) (WL.ev rfl rfl (Ev.bin rfl rfl rfl Bin.neqS) (WL.nil ?_)))))
  refine CW.condN rfl (fun h1 => ?_) (fun h1 => ?_)
  · refine Sreg ?_
    refine Wsn rfl rfl rfl rfl ?_
    refine CW.ret ?_
    have e : x ≠ y := by rintro rfl; exact h1 rfl
    exact ⟨_, res1 rfl rfl rfl, (hEb1.trans hEb2), vB (by simp [e])⟩
  · refine CW.skip ?_
    refine SSr ?_
    refine Wfa rfl rfl rfl fo156_1 rfl (WL.ev rfl rfl (Ev.ld rfl ag3 rfl ((hBb1.ext hEb2).cell rfl)) (Wfa rfl rfl rfl fo156_1 rfl (WL.ev rfl rfl (Ev.ld rfl ag3 rfl (hBb2.cell rfl)) (WL.ev rfl rfl (Ev.bin rfl rfl rfl Bin.neq) (WL.nil ?_)))))
    refine CW.condN rfl (fun h2 => ?_) (fun h2 => ?_)
    · refine Sreg ?_
      refine Wsn rfl rfl rfl rfl ?_
      refine CW.ret ?_
      have e : x ≠ y := by rintro rfl; exact h2 rfl
      exact ⟨_, res1 rfl rfl rfl, (hEb1.trans hEb2), vB (by simp [e])⟩
    · refine CW.skip ?_
      refine SSr ?_
      refine Wfa rfl rfl rfl fo156_2 rfl (WL.ev rfl rfl (Ev.ld rfl ag3 rfl ((hBb1.ext hEb2).cell rfl)) (Wfa rfl rfl rfl fo156_2 rfl (WL.ev rfl rfl (Ev.ld rfl ag3 rfl (hBb2.cell rfl)) (WL.ev rfl rfl (Ev.bin rfl rfl rfl Bin.neq) (WL.nil ?_)))))
      refine CW.condN rfl (fun h3 => ?_) (fun h3 => ?_)
      · refine Sreg ?_
        refine Wsn rfl rfl rfl rfl ?_
        refine CW.ret ?_
        have e : x ≠ y := by rintro rfl; exact h3 rfl
        exact ⟨_, res1 rfl rfl rfl, (hEb1.trans hEb2), vB (by simp [e])⟩
      · refine CW.skip ?_
        refine SSr ?_
        refine Wfa rfl rfl rfl fo156_3 rfl (WL.ev rfl rfl (Ev.ld rfl ag4 rfl ((hBb1.ext hEb2).cell rfl)) (Wfa rfl rfl rfl fo156_3 rfl (WL.ev rfl rfl (Ev.ld rfl ag4 rfl (hBb2.cell rfl)) (WL.ev rfl rfl (Ev.bin rfl rfl rfl (Bin.neqBo Tryz.underlying4)) (WL.nil ?_)))))
        refine CW.condN rfl (fun h4 => ?_) (fun h4 => ?_)
        · refine Sreg ?_
          refine Wsn rfl rfl rfl rfl ?_
          refine CW.ret ?_
          have e : x ≠ y := by rintro rfl; exact h4 rfl
          exact ⟨_, res1 rfl rfl rfl, (hEb1.trans hEb2), vB (by simp [e])⟩
        · refine CW.skip ?_
          refine Sreg ?_
          refine Wsn rfl rfl rfl rfl ?_
          refine CW.ret ?_
          have e : x = y := by cases x; cases y; simp_all
          exact ⟨_, res1 rfl rfl rfl, (hEb1.trans hEb2), vB (by simp [e])⟩

theorem eqAttributeS_spec (w : World) {S S2 : Nat → Prop} (x y : List Attribute) {z z2 : Value} (hx : rdS S w x z) (hy : rdS S2 w y z2) :
    Ret Tryz.prog 180 #[z, z2] w (fun _ => False) fun v _ => v = .bool (decide (x = y)) := by
  refine enter Tryz.func180 rfl rfl rfl ?_
  obtain ⟨A1, c1, rfl, hc1, hm1⟩ := hx.form
  have hl1 : x.length ≤ 9223372036854775807 := Nat.le_trans hc1 hm1
  obtain ⟨A2, c2, rfl, hc2, hm2⟩ := hy.form
  have hl2 : y.length ≤ 9223372036854775807 := Nat.le_trans hc2 hm2
  refine Sreg ?_
  refine Wsn rfl rfl rfl rfl ?_
  refine SSr ?_
  refine Wmv rfl rfl rfl rfl (WL.ev rfl rfl (Ev.lenS rfl el81 rfl) (Wmv rfl rfl rfl rfl (WL.ev rfl rfl (Ev.lenS rfl el81 rfl) (WL.ev rfl rfl (Ev.bin rfl rfl rfl Bin.neq) (WL.nil ?_)))))
  refine CW.condN rfl (fun h1 => ?_) (fun h1 => ?_)
  · refine Sreg ?_
    refine Wsn rfl rfl rfl rfl ?_
    refine CW.ret ?_
    have e : x ≠ y := fun e => h1 (by rw [e])
    exact ⟨_, res1 rfl rfl rfl, (Ext.refl _), vB (by simp [e])⟩
  · refine CW.skip ?_
    refine SSr ?_
    refine Wsn rfl rfl rfl rfl ?_
    refine CW.block (CW.loop (α := Nat) (fun q => [(0, .slice A1 x.length c1), (1, .slice A2 y.length c2), (5, .int .i64 (q : Int))]) (fun q wr => Ext w wr ∧ q ≤ x.length ∧ x.take q = y.take q) (fun q => x.length - q) 0 ⟨rfl, rfl, rfl, trivial⟩ ⟨Ext.refl _, by omega, rfl⟩ ?_)
    rintro k σ wr1 ⟨hEwr1, hk, hpre⟩
    refine SSr ?_
    refine Wmv rfl rfl rfl rfl (Wmv rfl rfl rfl rfl (WL.ev rfl rfl (Ev.lenS rfl el81 rfl) (WL.ev rfl rfl (Ev.bin rfl rfl rfl Bin.lss) (WL.nil ?_))))
    refine CW.condD rfl (fun h2 => ?_) (fun h2 => ?_)
    · refine CW.skip ?_
      refine CW.seq (CW.block (CW.seq (CW.quiet hmix (by kernel_rfl) ?_)))
      refine QL.ev rfl rfl (fun _ _ => Ev.mv rfl rfl) (QL.ev rfl rfl (fun _ _ => Ev.mv rfl rfl) ?_)
      obtain ⟨xe1, be1, oe1, cse1, hxe1, hAe1, hSe1, hre1, hAte1⟩ := rdS.el hx (i := k) (by omega)
      have hK1 := hre1
      obtain ⟨rfl, hr1, hr2, hr3⟩ := hre1
      refine QL.ev rfl rfl (fun _ _ => Ev.ixA rfl el81 sz156 rfl hAe1 rfl (by omega)) (QL.ev rfl rfl (fun _ hq => Ev.lda rfl ag156 sz156 rfl (hAte1.ext (hEwr1.trans hq)) rfl) (QL.ev rfl rfl (fun _ _ => Ev.mv rfl rfl) (QL.ev rfl rfl (fun _ _ => Ev.mv rfl rfl) ?_)))
      obtain ⟨xe2, be2, oe2, cse2, hxe2, hAe2, hSe2, hre2, hAte2⟩ := rdS.el hy (i := k) (by omega)
      have hK2 := hre2
      obtain ⟨rfl, hr4, hr5, hr6⟩ := hre2
      refine QL.ev rfl rfl (fun _ _ => Ev.ixA rfl el81 sz156 rfl hAe2 rfl (by omega)) (QL.ev rfl rfl (fun _ hq => Ev.lda rfl ag156 sz156 rfl (hAte2.ext (hEwr1.trans hq)) rfl) (QL.call rfl rfl rfl rfl rfl ok222 rfl (fun _ hq => eqAttribute_spec _ xe1 xe2 (rd_ext hK1 (hEwr1.trans hq)) (rd_ext hK2 (hEwr1.trans hq))) (QL.ev rfl rfl (fun _ _ => Ev.not rfl rfl) (QL.nil (fun w1 hEw1 => ?_)))))
      refine CW.condN rfl (fun h3 => ?_) (fun h3 => ?_)
      · refine Sreg ?_
        refine Wsn rfl rfl rfl rfl ?_
        refine CW.ret ?_
        have e : x ≠ y := ne_of_at hxe1 hxe2 h3
        exact ⟨_, res1 rfl rfl rfl, (hEwr1.trans hEw1), vB (by simp [e])⟩
      · refine CW.skip ?_
        refine CW.reg ?_
        refine Wmv rfl rfl rfl rfl (WL.ev rfl rfl (Ev.bin rfl rfl rfl (Bin.add (by omega))) (Wsn rfl rfl rfl rfl ?_))
        exact ⟨k + 1, ⟨rfl, rfl, rfl, trivial⟩, ⟨(hEwr1.trans hEw1), by omega, take_succ_eq hpre hxe1 hxe2 h3⟩, by omega⟩
    · refine CW.exit ?_
      refine Sreg ?_
      refine Wsn rfl rfl rfl rfl ?_
      refine CW.ret ?_
      have e : x = y := eq_of_take (by omega) (by omega) hpre
      exact ⟨_, res1 rfl rfl rfl, hEwr1, vB (by simp [e])⟩

theorem eqSymbol_spec (w : World) {S S2 : Nat → Prop} (x y : Symbol) {cs ds : List Value} (hx : rd S w x cs) (hy : rd S2 w y ds) :
    Ret Tryz.prog 133 #[.agg cs.toArray, .agg ds.toArray] w (fun _ => False) fun v _ => v = .bool (decide (x = y)) := by
  refine enter Tryz.func133 rfl rfl rfl ?_
  have hK1 := hx
  obtain ⟨v1, rfl, hr1, hs1⟩ := hx
  obtain ⟨A1, c1, rfl, hc1, hm1⟩ := hs1.form
  have hK2 := hy
  obtain ⟨v2, rfl, hr2, hs2⟩ := hy
  obtain ⟨A2, c2, rfl, hc2, hm2⟩ := hs2.form
  refine Sreg ?_
  refine WL.box rfl rfl rfl rfl rfl fun b1 w1 hEb1 hbb1 hBb1 => ?_
  refine WL.box rfl rfl rfl rfl rfl fun b2 w2 hEb2 hbb2 hBb2 => ?_
  refine Wsn rfl rfl rfl rfl ?_
  refine SSr ?_
  refine Wfa rfl rfl rfl fo161_0 rfl (WL.ev rfl rfl (Ev.ld rfl ag9 rfl ((hBb1.ext hEb2).cell rfl)) (Wfa rfl rfl rfl fo161_0 rfl (WL.ev rfl rfl (Ev.ld rfl ag9 rfl (hBb2.cell rfl)) (WL.ev rfl rfl (Ev.bin rfl rfl rfl Bin.neqS) (WL.nil ?_)))))
  refine CW.condN rfl (fun h1 => ?_) (fun h1 => ?_)
  · refine Sreg ?_
    refine Wsn rfl rfl rfl rfl ?_
    refine CW.ret ?_
    have e : x ≠ y := by rintro rfl; exact h1 rfl
    exact ⟨_, res1 rfl rfl rfl, (hEb1.trans hEb2), vB (by simp [e])⟩
  · refine CW.skip ?_
    refine SSr ?_
    refine Wfa rfl rfl rfl fo161_1 rfl (WL.ev rfl rfl (Ev.ld rfl ag81 rfl ((hBb1.ext hEb2).cell rfl)) (Wfa rfl rfl rfl fo161_1 rfl (WL.ev rfl rfl (Ev.ld rfl ag81 rfl (hBb2.cell rfl)) ?_)))
    refine WL.call rfl rfl rfl rfl rfl ok180 rfl (eqAttributeS_spec _ x.Attributes y.Attributes (hs1.ext (hEb1.trans hEb2)) (hs2.ext (hEb1.trans hEb2))) ?_
    rintro _ w3 hEw3 rfl
    refine WL.ev rfl rfl (Ev.not rfl rfl) (WL.nil ?_)
    refine CW.condN rfl (fun h2 => ?_) (fun h2 => ?_)
    · refine Sreg ?_
      refine Wsn rfl rfl rfl rfl ?_
      refine CW.ret ?_
      have e : x ≠ y := by rintro rfl; exact h2 rfl
      exact ⟨_, res1 rfl rfl rfl, ((hEb1.trans hEb2).trans hEw3), vB (by simp [e])⟩
    · refine CW.skip ?_
      refine Sreg ?_
      refine Wsn rfl rfl rfl rfl ?_
      refine CW.ret ?_
      have e : x = y := by cases x; cases y; simp_all
      exact ⟨_, res1 rfl rfl rfl, ((hEb1.trans hEb2).trans hEw3), vB (by simp [e])⟩

theorem eqSymbolS_spec (w : World) {S S2 : Nat → Prop} (x y : List Symbol) {z z2 : Value} (hx : rdS S w x z) (hy : rdS S2 w y z2) :
    Ret Tryz.prog 67 #[z, z2] w (fun _ => False) fun v _ => v = .bool (decide (x = y)) := by
  refine enter Tryz.func67 rfl rfl rfl ?_
  obtain ⟨A1, c1, rfl, hc1, hm1⟩ := hx.form
  have hl1 : x.length ≤ 9223372036854775807 := Nat.le_trans hc1 hm1
  obtain ⟨A2, c2, rfl, hc2, hm2⟩ := hy.form
  have hl2 : y.length ≤ 9223372036854775807 := Nat.le_trans hc2 hm2
  refine Sreg ?_
  refine Wsn rfl rfl rfl rfl ?_
  refine SSr ?_
  refine Wmv rfl rfl rfl rfl (WL.ev rfl rfl (Ev.lenS rfl el37 rfl) (Wmv rfl rfl rfl rfl (WL.ev rfl rfl (Ev.lenS rfl el37 rfl) (WL.ev rfl rfl (Ev.bin rfl rfl rfl Bin.neq) (WL.nil ?_)))))
  refine CW.condN rfl (fun h1 => ?_) (fun h1 => ?_)
  · refine Sreg ?_
    refine Wsn rfl rfl rfl rfl ?_
    refine CW.ret ?_
    have e : x ≠ y := fun e => h1 (by rw [e])
    exact ⟨_, res1 rfl rfl rfl, (Ext.refl _), vB (by simp [e])⟩
  · refine CW.skip ?_
    refine SSr ?_
    refine Wsn rfl rfl rfl rfl ?_
    refine CW.block (CW.loop (α := Nat) (fun q => [(0, .slice A1 x.length c1), (1, .slice A2 y.length c2), (5, .int .i64 (q : Int))]) (fun q wr => Ext w wr ∧ q ≤ x.length ∧ x.take q = y.take q) (fun q => x.length - q) 0 ⟨rfl, rfl, rfl, trivial⟩ ⟨Ext.refl _, by omega, rfl⟩ ?_)
    rintro k σ wr1 ⟨hEwr1, hk, hpre⟩
    refine SSr ?_
    refine Wmv rfl rfl rfl rfl (Wmv rfl rfl rfl rfl (WL.ev rfl rfl (Ev.lenS rfl el37 rfl) (WL.ev rfl rfl (Ev.bin rfl rfl rfl Bin.lss) (WL.nil ?_))))
    refine CW.condD rfl (fun h2 => ?_) (fun h2 => ?_)
    · refine CW.skip ?_
      refine CW.seq (CW.block (CW.seq (CW.quiet hmix (by kernel_rfl) ?_)))
      refine QL.ev rfl rfl (fun _ _ => Ev.mv rfl rfl) (QL.ev rfl rfl (fun _ _ => Ev.mv rfl rfl) ?_)
      obtain ⟨xe1, be1, oe1, cse1, hxe1, hAe1, hSe1, hre1, hAte1⟩ := rdS.el hx (i := k) (by omega)
      have hK1 := hre1
      obtain ⟨v1, rfl, hr1, hs1⟩ := hre1
      obtain ⟨A3, c3, rfl, hc3, hm3⟩ := hs1.form
      refine QL.ev rfl rfl (fun _ _ => Ev.ixA rfl el37 sz161 rfl hAe1 rfl (by omega)) (QL.ev rfl rfl (fun _ hq => Ev.lda rfl ag161 sz161 rfl (hAte1.ext (hEwr1.trans hq)) rfl) (QL.ev rfl rfl (fun _ _ => Ev.mv rfl rfl) (QL.ev rfl rfl (fun _ _ => Ev.mv rfl rfl) ?_)))
      obtain ⟨xe2, be2, oe2, cse2, hxe2, hAe2, hSe2, hre2, hAte2⟩ := rdS.el hy (i := k) (by omega)
      have hK2 := hre2
      obtain ⟨v2, rfl, hr2, hs2⟩ := hre2
      obtain ⟨A4, c4, rfl, hc4, hm4⟩ := hs2.form
      refine QL.ev rfl rfl (fun _ _ => Ev.ixA rfl el37 sz161 rfl hAe2 rfl (by omega)) (QL.ev rfl rfl (fun _ hq => Ev.lda rfl ag161 sz161 rfl (hAte2.ext (hEwr1.trans hq)) rfl) (QL.call rfl rfl rfl rfl rfl ok133 rfl (fun _ hq => eqSymbol_spec _ xe1 xe2 (rd_ext hK1 (hEwr1.trans hq)) (rd_ext hK2 (hEwr1.trans hq))) (QL.ev rfl rfl (fun _ _ => Ev.not rfl rfl) (QL.nil (fun w1 hEw1 => ?_)))))
      refine CW.condN rfl (fun h3 => ?_) (fun h3 => ?_)
      · refine Sreg ?_
        refine Wsn rfl rfl rfl rfl ?_
        refine CW.ret ?_
        have e : x ≠ y := ne_of_at hxe1 hxe2 h3
        exact ⟨_, res1 rfl rfl rfl, (hEwr1.trans hEw1), vB (by simp [e])⟩
      · refine CW.skip ?_
        refine CW.reg ?_
        refine Wmv rfl rfl rfl rfl (WL.ev rfl rfl (Ev.bin rfl rfl rfl (Bin.add (by omega))) (Wsn rfl rfl rfl rfl ?_))
        exact ⟨k + 1, ⟨rfl, rfl, rfl, trivial⟩, ⟨(hEwr1.trans hEw1), by omega, take_succ_eq hpre hxe1 hxe2 h3⟩, by omega⟩
    · refine CW.exit ?_
      refine Sreg ?_
      refine Wsn rfl rfl rfl rfl ?_
      refine CW.ret ?_
      have e : x = y := eq_of_take (by omega) (by omega) hpre
      exact ⟨_, res1 rfl rfl rfl, hEwr1, vB (by simp [e])⟩

theorem eqStringS_spec (w : World) {S S2 : Nat → Prop} (x y : List ByteArray) {z z2 : Value} (hx : rdS S w x z) (hy : rdS S2 w y z2) :
    Ret Tryz.prog 69 #[z, z2] w (fun _ => False) fun v _ => v = .bool (decide (x = y)) := by
  refine enter Tryz.func69 rfl rfl rfl ?_
  obtain ⟨A1, c1, rfl, hc1, hm1⟩ := hx.form
  have hl1 : x.length ≤ 9223372036854775807 := Nat.le_trans hc1 hm1
  obtain ⟨A2, c2, rfl, hc2, hm2⟩ := hy.form
  have hl2 : y.length ≤ 9223372036854775807 := Nat.le_trans hc2 hm2
  refine Sreg ?_
  refine Wsn rfl rfl rfl rfl ?_
  refine SSr ?_
  refine Wmv rfl rfl rfl rfl (WL.ev rfl rfl (Ev.lenS rfl el26 rfl) (Wmv rfl rfl rfl rfl (WL.ev rfl rfl (Ev.lenS rfl el26 rfl) (WL.ev rfl rfl (Ev.bin rfl rfl rfl Bin.neq) (WL.nil ?_)))))
  refine CW.condN rfl (fun h1 => ?_) (fun h1 => ?_)
  · refine Sreg ?_
    refine Wsn rfl rfl rfl rfl ?_
    refine CW.ret ?_
    have e : x ≠ y := fun e => h1 (by rw [e])
    exact ⟨_, res1 rfl rfl rfl, (Ext.refl _), vB (by simp [e])⟩
  · refine CW.skip ?_
    refine SSr ?_
    refine Wsn rfl rfl rfl rfl ?_
    refine CW.block (CW.loop (α := Nat) (fun q => [(0, .slice A1 x.length c1), (1, .slice A2 y.length c2), (5, .int .i64 (q : Int))]) (fun q wr => Ext w wr ∧ q ≤ x.length ∧ x.take q = y.take q) (fun q => x.length - q) 0 ⟨rfl, rfl, rfl, trivial⟩ ⟨Ext.refl _, by omega, rfl⟩ ?_)
    rintro k σ wr1 ⟨hEwr1, hk, hpre⟩
    refine SSr ?_
    refine Wmv rfl rfl rfl rfl (Wmv rfl rfl rfl rfl (WL.ev rfl rfl (Ev.lenS rfl el26 rfl) (WL.ev rfl rfl (Ev.bin rfl rfl rfl Bin.lss) (WL.nil ?_))))
    refine CW.condD rfl (fun h2 => ?_) (fun h2 => ?_)
    · refine CW.skip ?_
      refine CW.seq (CW.block (CW.seq (CW.quiet hmix (by kernel_rfl) ?_)))
      refine QL.ev rfl rfl (fun _ _ => Ev.mv rfl rfl) (QL.ev rfl rfl (fun _ _ => Ev.mv rfl rfl) ?_)
      obtain ⟨xe1, be1, oe1, cse1, hxe1, hAe1, hSe1, hre1, hAte1⟩ := rdS.el hx (i := k) (by omega)
      have hK1 := hre1
      obtain ⟨rfl, hr1⟩ := hre1
      refine QL.ev rfl rfl (fun _ _ => Ev.ixA rfl el26 sz9 rfl hAe1 rfl (by omega)) (QL.ev rfl rfl (fun _ hq => Ev.ld rfl ag9 rfl ((hAte1.ext (hEwr1.trans hq)).cell0 rfl)) (QL.ev rfl rfl (fun _ _ => Ev.mv rfl rfl) (QL.ev rfl rfl (fun _ _ => Ev.mv rfl rfl) ?_)))
      obtain ⟨xe2, be2, oe2, cse2, hxe2, hAe2, hSe2, hre2, hAte2⟩ := rdS.el hy (i := k) (by omega)
      have hK2 := hre2
      obtain ⟨rfl, hr2⟩ := hre2
      refine QL.ev rfl rfl (fun _ _ => Ev.ixA rfl el26 sz9 rfl hAe2 rfl (by omega)) (QL.ev rfl rfl (fun _ hq => Ev.ld rfl ag9 rfl ((hAte2.ext (hEwr1.trans hq)).cell0 rfl)) (QL.ev rfl rfl (fun _ _ => Ev.bin rfl rfl rfl Bin.neqS) (QL.nil (fun w1 hEw1 => ?_))))
      refine CW.condN rfl (fun h3 => ?_) (fun h3 => ?_)
      · refine Sreg ?_
        refine Wsn rfl rfl rfl rfl ?_
        refine CW.ret ?_
        have e : x ≠ y := ne_of_at hxe1 hxe2 h3
        exact ⟨_, res1 rfl rfl rfl, (hEwr1.trans hEw1), vB (by simp [e])⟩
      · refine CW.skip ?_
        refine CW.reg ?_
        refine Wmv rfl rfl rfl rfl (WL.ev rfl rfl (Ev.bin rfl rfl rfl (Bin.add (by omega))) (Wsn rfl rfl rfl rfl ?_))
        exact ⟨k + 1, ⟨rfl, rfl, rfl, trivial⟩, ⟨(hEwr1.trans hEw1), by omega, take_succ_eq hpre hxe1 hxe2 h3⟩, by omega⟩
    · refine CW.exit ?_
      refine Sreg ?_
      refine Wsn rfl rfl rfl rfl ?_
      refine CW.ret ?_
      have e : x = y := eq_of_take (by omega) (by omega) hpre
      exact ⟨_, res1 rfl rfl rfl, hEwr1, vB (by simp [e])⟩

theorem eqOccurrence_spec (w : World) {S S2 : Nat → Prop} (x y : Occurrence) {cs ds : List Value} (hx : rd S w x cs) (hy : rd S2 w y ds) :
    Ret Tryz.prog 181 #[.agg cs.toArray, .agg ds.toArray] w (fun _ => False) fun v _ => v = .bool (decide (x = y)) := by
  refine enter Tryz.func181 rfl rfl rfl ?_
  have hK1 := hx
  obtain ⟨rfl, hr1, hr2⟩ := hx
  have hK2 := hy
  obtain ⟨rfl, hr3, hr4⟩ := hy
  refine Sreg ?_
  refine WL.box rfl rfl rfl rfl rfl fun b1 w1 hEb1 hbb1 hBb1 => ?_
  refine WL.box rfl rfl rfl rfl rfl fun b2 w2 hEb2 hbb2 hBb2 => ?_
  refine Wsn rfl rfl rfl rfl ?_
  refine SSr ?_
  refine Wfa rfl rfl rfl fo90_0 rfl (WL.ev rfl rfl (Ev.ld rfl ag3 rfl ((hBb1.ext hEb2).cell rfl)) (Wfa rfl rfl rfl fo90_0 rfl (WL.ev rfl rfl (Ev.ld rfl ag3 rfl (hBb2.cell rfl)) (WL.ev rfl rfl (Ev.bin rfl rfl rfl Bin.neq) (WL.nil ?_)))))
  refine CW.condN rfl (fun h1 => ?_) (fun h1 => ?_)
  · refine Sreg ?_
    refine Wsn rfl rfl rfl rfl ?_
    refine CW.ret ?_
    have e : x ≠ y := by rintro rfl; exact h1 rfl
    exact ⟨_, res1 rfl rfl rfl, (hEb1.trans hEb2), vB (by simp [e])⟩
  · refine CW.skip ?_
    refine SSr ?_
    refine Wfa rfl rfl rfl fo90_1 rfl (WL.ev rfl rfl (Ev.ld rfl ag9 rfl ((hBb1.ext hEb2).cell rfl)) (Wfa rfl rfl rfl fo90_1 rfl (WL.ev rfl rfl (Ev.ld rfl ag9 rfl (hBb2.cell rfl)) (WL.ev rfl rfl (Ev.bin rfl rfl rfl Bin.neqS) (WL.nil ?_)))))
    refine CW.condN rfl (fun h2 => ?_) (fun h2 => ?_)
    · refine Sreg ?_
      refine Wsn rfl rfl rfl rfl ?_
      refine CW.ret ?_
      have e : x ≠ y := by rintro rfl; exact h2 rfl
      exact ⟨_, res1 rfl rfl rfl, (hEb1.trans hEb2), vB (by simp [e])⟩
    · refine CW.skip ?_
      refine Sreg ?_
      refine Wsn rfl rfl rfl rfl ?_
      refine CW.ret ?_
      have e : x = y := by cases x; cases y; simp_all
      exact ⟨_, res1 rfl rfl rfl, (hEb1.trans hEb2), vB (by simp [e])⟩

theorem eqExprS_step (w : World) {S S2 : Nat → Prop} (x y : List Expr) {z z2 : Value} (hx : rdS S w x z) (hy : rdS S2 w y z2) (ih : ∀ x0 ∈ x, ∀ (w : World) {S S2 : Nat → Prop} (y : Expr) {cs ds : List Value} (hx : rd S w x0 cs) (hy : rd S2 w y ds), Ret Tryz.prog 182 #[.agg cs.toArray, .agg ds.toArray] w (fun _ => False) fun v _ => v = .bool (decide (x0 = y))) :
    Ret Tryz.prog 223 #[z, z2] w (fun _ => False) fun v _ => v = .bool (decide (x = y)) := by
  refine enter Tryz.func223 rfl rfl rfl ?_
  obtain ⟨A1, c1, rfl, hc1, hm1⟩ := hx.form
  have hl1 : x.length ≤ 9223372036854775807 := Nat.le_trans hc1 hm1
  obtain ⟨A2, c2, rfl, hc2, hm2⟩ := hy.form
  have hl2 : y.length ≤ 9223372036854775807 := Nat.le_trans hc2 hm2
  refine Sreg ?_
  refine Wsn rfl rfl rfl rfl ?_
  refine SSr ?_
  refine Wmv rfl rfl rfl rfl (WL.ev rfl rfl (Ev.lenS rfl el84 rfl) (Wmv rfl rfl rfl rfl (WL.ev rfl rfl (Ev.lenS rfl el84 rfl) (WL.ev rfl rfl (Ev.bin rfl rfl rfl Bin.neq) (WL.nil ?_)))))
  refine CW.condN rfl (fun h1 => ?_) (fun h1 => ?_)
  · refine Sreg ?_
    refine Wsn rfl rfl rfl rfl ?_
    refine CW.ret ?_
    have e : x ≠ y := fun e => h1 (by rw [e])
    exact ⟨_, res1 rfl rfl rfl, (Ext.refl _), vB (by simp [e])⟩
  · refine CW.skip ?_
    refine SSr ?_
    refine Wsn rfl rfl rfl rfl ?_
    refine CW.block (CW.loop (α := Nat) (fun q => [(0, .slice A1 x.length c1), (1, .slice A2 y.length c2), (5, .int .i64 (q : Int))]) (fun q wr => Ext w wr ∧ q ≤ x.length ∧ x.take q = y.take q) (fun q => x.length - q) 0 ⟨rfl, rfl, rfl, trivial⟩ ⟨Ext.refl _, by omega, rfl⟩ ?_)
    rintro k σ wr1 ⟨hEwr1, hk, hpre⟩
    refine SSr ?_
    refine Wmv rfl rfl rfl rfl (Wmv rfl rfl rfl rfl (WL.ev rfl rfl (Ev.lenS rfl el84 rfl) (WL.ev rfl rfl (Ev.bin rfl rfl rfl Bin.lss) (WL.nil ?_))))
    refine CW.condD rfl (fun h2 => ?_) (fun h2 => ?_)
    · refine CW.skip ?_
      refine CW.seq (CW.block (CW.seq (CW.quiet hmix (by kernel_rfl) ?_)))
      refine QL.ev rfl rfl (fun _ _ => Ev.mv rfl rfl) (QL.ev rfl rfl (fun _ _ => Ev.mv rfl rfl) ?_)
      obtain ⟨xe1, be1, oe1, cse1, hxe1, hAe1, hSe1, hre1, hAte1⟩ := rdS.el hx (i := k) (by omega)
      have hK1 := hre1
      obtain ⟨v1, rfl, hr1, hr2, hr3, hr4, hr5, hr6, hs1⟩ := Expr_rd.1 hre1
      obtain ⟨A3, c3, rfl, hc3, hm3⟩ := hs1.form
      refine QL.ev rfl rfl (fun _ _ => Ev.ixA rfl el84 sz86 rfl hAe1 rfl (by omega)) (QL.ev rfl rfl (fun _ hq => Ev.lda rfl ag86 sz86 rfl (hAte1.ext (hEwr1.trans hq)) rfl) (QL.ev rfl rfl (fun _ _ => Ev.mv rfl rfl) (QL.ev rfl rfl (fun _ _ => Ev.mv rfl rfl) ?_)))
      obtain ⟨xe2, be2, oe2, cse2, hxe2, hAe2, hSe2, hre2, hAte2⟩ := rdS.el hy (i := k) (by omega)
      have hK2 := hre2
      obtain ⟨v2, rfl, hr7, hr8, hr9, hr10, hr11, hr12, hs2⟩ := Expr_rd.1 hre2
      obtain ⟨A4, c4, rfl, hc4, hm4⟩ := hs2.form
      refine QL.ev rfl rfl (fun _ _ => Ev.ixA rfl el84 sz86 rfl hAe2 rfl (by omega)) (QL.ev rfl rfl (fun _ hq => Ev.lda rfl ag86 sz86 rfl (hAte2.ext (hEwr1.trans hq)) rfl) (QL.call rfl rfl rfl rfl rfl ok182 rfl (fun _ hq => ih xe1 (List.mem_of_getElem? hxe1) _ xe2 (rd_ext hK1 (hEwr1.trans hq)) (rd_ext hK2 (hEwr1.trans hq))) (QL.ev rfl rfl (fun _ _ => Ev.not rfl rfl) (QL.nil (fun w1 hEw1 => ?_)))))
      refine CW.condN rfl (fun h3 => ?_) (fun h3 => ?_)
      · refine Sreg ?_
        refine Wsn rfl rfl rfl rfl ?_
        refine CW.ret ?_
        have e : x ≠ y := ne_of_at hxe1 hxe2 h3
        exact ⟨_, res1 rfl rfl rfl, (hEwr1.trans hEw1), vB (by simp [e])⟩
      · refine CW.skip ?_
        refine CW.reg ?_
        refine Wmv rfl rfl rfl rfl (WL.ev rfl rfl (Ev.bin rfl rfl rfl (Bin.add (by omega))) (Wsn rfl rfl rfl rfl ?_))
        exact ⟨k + 1, ⟨rfl, rfl, rfl, trivial⟩, ⟨(hEwr1.trans hEw1), by omega, take_succ_eq hpre hxe1 hxe2 h3⟩, by omega⟩
    · refine CW.exit ?_
      refine Sreg ?_
      refine Wsn rfl rfl rfl rfl ?_
      refine CW.ret ?_
      have e : x = y := eq_of_take (by omega) (by omega) hpre
      exact ⟨_, res1 rfl rfl rfl, hEwr1, vB (by simp [e])⟩

theorem eqExpr_step (w : World) {S S2 : Nat → Prop} (x y : Expr) {cs ds : List Value} (hx : rd S w x cs) (hy : rd S2 w y ds) (ih : ∀ x0 ∈ x.Args, ∀ (w : World) {S S2 : Nat → Prop} (y : Expr) {cs ds : List Value} (hx : rd S w x0 cs) (hy : rd S2 w y ds), Ret Tryz.prog 182 #[.agg cs.toArray, .agg ds.toArray] w (fun _ => False) fun v _ => v = .bool (decide (x0 = y))) :
    Ret Tryz.prog 182 #[.agg cs.toArray, .agg ds.toArray] w (fun _ => False) fun v _ => v = .bool (decide (x = y)) := by
  refine enter Tryz.func182 rfl rfl rfl ?_
  have hK1 := hx
  obtain ⟨v1, rfl, hr1, hr2, hr3, hr4, hr5, hr6, hs1⟩ := Expr_rd.1 hx
  obtain ⟨A1, c1, rfl, hc1, hm1⟩ := hs1.form
  have hK2 := hy
  obtain ⟨v2, rfl, hr7, hr8, hr9, hr10, hr11, hr12, hs2⟩ := Expr_rd.1 hy
  obtain ⟨A2, c2, rfl, hc2, hm2⟩ := hs2.form
  refine Sreg ?_
  refine WL.box rfl rfl rfl rfl rfl fun b1 w1 hEb1 hbb1 hBb1 => ?_
  refine WL.box rfl rfl rfl rfl rfl fun b2 w2 hEb2 hbb2 hBb2 => ?_
  refine Wsn rfl rfl rfl rfl ?_
  refine SSr ?_
  refine Wfa rfl rfl rfl fo86_0 rfl (WL.ev rfl rfl (Ev.ld rfl ag3 rfl ((hBb1.ext hEb2).cell rfl)) (Wfa rfl rfl rfl fo86_0 rfl (WL.ev rfl rfl (Ev.ld rfl ag3 rfl (hBb2.cell rfl)) (WL.ev rfl rfl (Ev.bin rfl rfl rfl Bin.neq) (WL.nil ?_)))))
  refine CW.condN rfl (fun h1 => ?_) (fun h1 => ?_)
  · refine Sreg ?_
    refine Wsn rfl rfl rfl rfl ?_
    refine CW.ret ?_
    have e : x ≠ y := by rintro rfl; exact h1 rfl
    exact ⟨_, res1 rfl rfl rfl, (hEb1.trans hEb2), vB (by simp [e])⟩
  · refine CW.skip ?_
    refine SSr ?_
    refine Wfa rfl rfl rfl fo86_1 rfl (WL.ev rfl rfl (Ev.ld rfl ag3 rfl ((hBb1.ext hEb2).cell rfl)) (Wfa rfl rfl rfl fo86_1 rfl (WL.ev rfl rfl (Ev.ld rfl ag3 rfl (hBb2.cell rfl)) (WL.ev rfl rfl (Ev.bin rfl rfl rfl Bin.neq) (WL.nil ?_)))))
    refine CW.condN rfl (fun h2 => ?_) (fun h2 => ?_)
    · refine Sreg ?_
      refine Wsn rfl rfl rfl rfl ?_
      refine CW.ret ?_
      have e : x ≠ y := by rintro rfl; exact h2 rfl
      exact ⟨_, res1 rfl rfl rfl, (hEb1.trans hEb2), vB (by simp [e])⟩
    · refine CW.skip ?_
      refine SSr ?_
      refine Wfa rfl rfl rfl fo86_2 rfl (WL.ev rfl rfl (Ev.ld rfl ag3 rfl ((hBb1.ext hEb2).cell rfl)) (Wfa rfl rfl rfl fo86_2 rfl (WL.ev rfl rfl (Ev.ld rfl ag3 rfl (hBb2.cell rfl)) (WL.ev rfl rfl (Ev.bin rfl rfl rfl Bin.neq) (WL.nil ?_)))))
      refine CW.condN rfl (fun h3 => ?_) (fun h3 => ?_)
      · refine Sreg ?_
        refine Wsn rfl rfl rfl rfl ?_
        refine CW.ret ?_
        have e : x ≠ y := by rintro rfl; exact h3 rfl
        exact ⟨_, res1 rfl rfl rfl, (hEb1.trans hEb2), vB (by simp [e])⟩
      · refine CW.skip ?_
        refine SSr ?_
        refine Wfa rfl rfl rfl fo86_3 rfl (WL.ev rfl rfl (Ev.ld rfl ag3 rfl ((hBb1.ext hEb2).cell rfl)) (Wfa rfl rfl rfl fo86_3 rfl (WL.ev rfl rfl (Ev.ld rfl ag3 rfl (hBb2.cell rfl)) (WL.ev rfl rfl (Ev.bin rfl rfl rfl Bin.neq) (WL.nil ?_)))))
        refine CW.condN rfl (fun h4 => ?_) (fun h4 => ?_)
        · refine Sreg ?_
          refine Wsn rfl rfl rfl rfl ?_
          refine CW.ret ?_
          have e : x ≠ y := by rintro rfl; exact h4 rfl
          exact ⟨_, res1 rfl rfl rfl, (hEb1.trans hEb2), vB (by simp [e])⟩
        · refine CW.skip ?_
          refine SSr ?_
          refine Wfa rfl rfl rfl fo86_4 rfl (WL.ev rfl rfl (Ev.ld rfl ag9 rfl ((hBb1.ext hEb2).cell rfl)) (Wfa rfl rfl rfl fo86_4 rfl (WL.ev rfl rfl (Ev.ld rfl ag9 rfl (hBb2.cell rfl)) (WL.ev rfl rfl (Ev.bin rfl rfl rfl Bin.neqS) (WL.nil ?_)))))
          refine CW.condN rfl (fun h5 => ?_) (fun h5 => ?_)
          · refine Sreg ?_
            refine Wsn rfl rfl rfl rfl ?_
            refine CW.ret ?_
            have e : x ≠ y := by rintro rfl; exact h5 rfl
            exact ⟨_, res1 rfl rfl rfl, (hEb1.trans hEb2), vB (by simp [e])⟩
          · refine CW.skip ?_
            refine SSr ?_
            refine Wfa rfl rfl rfl fo86_5 rfl (WL.ev rfl rfl (Ev.ld rfl ag9 rfl ((hBb1.ext hEb2).cell rfl)) (Wfa rfl rfl rfl fo86_5 rfl (WL.ev rfl rfl (Ev.ld rfl ag9 rfl (hBb2.cell rfl)) (WL.ev rfl rfl (Ev.bin rfl rfl rfl Bin.neqS) (WL.nil ?_)))))
            refine CW.condN rfl (fun h6 => ?_) (fun h6 => ?_)
            · refine Sreg ?_
              refine Wsn rfl rfl rfl rfl ?_
              refine CW.ret ?_
              have e : x ≠ y := by rintro rfl; exact h6 rfl
              exact ⟨_, res1 rfl rfl rfl, (hEb1.trans hEb2), vB (by simp [e])⟩
            · refine CW.skip ?_
              refine SSr ?_
              refine Wfa rfl rfl rfl fo86_6 rfl (WL.ev rfl rfl (Ev.ld rfl ag84 rfl ((hBb1.ext hEb2).cell rfl)) (Wfa rfl rfl rfl fo86_6 rfl (WL.ev rfl rfl (Ev.ld rfl ag84 rfl (hBb2.cell rfl)) ?_)))
              refine WL.call rfl rfl rfl rfl rfl ok223 rfl (eqExprS_step _ x.Args y.Args (hs1.ext (hEb1.trans hEb2)) (hs2.ext (hEb1.trans hEb2)) ih) ?_
              rintro _ w3 hEw3 rfl
              refine WL.ev rfl rfl (Ev.not rfl rfl) (WL.nil ?_)
              refine CW.condN rfl (fun h7 => ?_) (fun h7 => ?_)
              · refine Sreg ?_
                refine Wsn rfl rfl rfl rfl ?_
                refine CW.ret ?_
                have e : x ≠ y := by rintro rfl; exact h7 rfl
                exact ⟨_, res1 rfl rfl rfl, ((hEb1.trans hEb2).trans hEw3), vB (by simp [e])⟩
              · refine CW.skip ?_
                refine Sreg ?_
                refine Wsn rfl rfl rfl rfl ?_
                refine CW.ret ?_
                have e : x = y := by cases x; cases y; simp_all
                exact ⟨_, res1 rfl rfl rfl, ((hEb1.trans hEb2).trans hEw3), vB (by simp [e])⟩

theorem eqExpr_spec (w : World) {S S2 : Nat → Prop} (x y : Expr) {cs ds : List Value} (hx : rd S w x cs) (hy : rd S2 w y ds) :
    Ret Tryz.prog 182 #[.agg cs.toArray, .agg ds.toArray] w (fun _ => False) fun v _ => v = .bool (decide (x = y)) :=
  Expr_ind (P := fun x => ∀ (w : World) {S S2 : Nat → Prop} (y : Expr) {cs ds : List Value} (hx : rd S w x cs) (hy : rd S2 w y ds), Ret Tryz.prog 182 #[.agg cs.toArray, .agg ds.toArray] w (fun _ => False) fun v _ => v = .bool (decide (x = y))) (fun x ih => by intros; exact eqExpr_step _ x _ (by assumption) (by assumption) ih) x w y hx hy

end Go.Proofs.YtonnooljidombaaGreat

