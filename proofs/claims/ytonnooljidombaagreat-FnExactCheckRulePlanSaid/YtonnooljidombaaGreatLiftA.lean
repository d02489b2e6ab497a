/- What some functions of the program compute, as partial functions on plain data, and that they do; each lemma bears its conditions in its statement. -/
import Derived.Test.YtonnooljidombaaGreatRows
import Derived.Test.YtonnooljidombaaGreatRd
import Derived.Test.YtonnooljidombaaGreatEngD
import Derived.Test.YtonnooljidombaaGreatSort
set_option linter.unusedVariables false
set_option linter.unusedSimpArgs false
set_option linter.ambiguousOpen false
set_option linter.unusedSectionVars false
set_option linter.unnecessarySimpa false
set_option linter.unusedVariables false
set_option linter.unusedSimpArgs false
set_option maxRecDepth 100000
set_option maxHeartbeats 1000000
namespace Go.Proofs.YtonnooljidombaaGreat
open Go Go.E
open Go.E.Rep (rd)
open Go.E.Sep (own)
open Go.E.Sz (szd)
theorem ag26 : aggT Tryz.prog 26 = some false := by kernel_rfl
theorem ag33 : aggT Tryz.prog 33 = some false := by kernel_rfl
theorem ag37 : aggT Tryz.prog 37 = some false := by kernel_rfl
theorem ag40 : aggT Tryz.prog 40 = some true := by kernel_rfl
theorem ag42 : aggT Tryz.prog 42 = some false := by kernel_rfl
theorem ag45 : aggT Tryz.prog 45 = some true := by kernel_rfl
theorem ag59 : aggT Tryz.prog 59 = some false := by kernel_rfl
theorem ag76 : aggT Tryz.prog 76 = some false := by kernel_rfl
theorem ag81 : aggT Tryz.prog 81 = some false := by kernel_rfl
theorem ag84 : aggT Tryz.prog 84 = some false := by kernel_rfl
theorem ag86 : aggT Tryz.prog 86 = some true := by kernel_rfl
theorem ag90 : aggT Tryz.prog 90 = some true := by kernel_rfl
theorem ag125 : aggT Tryz.prog 125 = some false := by kernel_rfl
theorem ag130 : aggT Tryz.prog 130 = some true := by kernel_rfl
theorem ag136 : aggT Tryz.prog 136 = some false := by kernel_rfl
theorem ag156 : aggT Tryz.prog 156 = some true := by kernel_rfl
theorem ag161 : aggT Tryz.prog 161 = some true := by kernel_rfl
theorem ag165 : aggT Tryz.prog 165 = some true := by kernel_rfl
theorem ag189 : aggT Tryz.prog 189 = some false := by kernel_rfl
theorem sz9 : szT Tryz.prog 9 = some 1 := by kernel_rfl
theorem sz40 : szT Tryz.prog 40 = some 2 := by kernel_rfl
theorem sz45 : szT Tryz.prog 45 = some 6 := by kernel_rfl
theorem sz76 : szT Tryz.prog 76 = some 1 := by kernel_rfl
theorem sz84 : szT Tryz.prog 84 = some 1 := by kernel_rfl
theorem sz86 : szT Tryz.prog 86 = some 7 := by kernel_rfl
theorem sz90 : szT Tryz.prog 90 = some 2 := by kernel_rfl
theorem sz125 : szT Tryz.prog 125 = some 1 := by kernel_rfl
theorem sz129 : szT Tryz.prog 129 = some 2 := by kernel_rfl
theorem sz130 : szT Tryz.prog 130 = some 4 := by kernel_rfl
theorem sz156 : szT Tryz.prog 156 = some 4 := by kernel_rfl
theorem sz161 : szT Tryz.prog 161 = some 2 := by kernel_rfl
theorem sz165 : szT Tryz.prog 165 = some 9 := by kernel_rfl
theorem by3 : byT Tryz.prog 3 = some 8 := by kernel_rfl
theorem by86 : byT Tryz.prog 86 = some 88 := by kernel_rfl
theorem by90 : byT Tryz.prog 90 = some 24 := by kernel_rfl
theorem by156 : byT Tryz.prog 156 = some 40 := by kernel_rfl
theorem ze76 : zeroT Tryz.prog 76 = some [.slice none 0 0] := by kernel_rfl
theorem ze86 : zeroT Tryz.prog 86 = some [.int .i64 0, .int .i64 0, .int .i64 0, .int .i64 0, .string ⟨#[]⟩, .string ⟨#[]⟩, .slice none 0 0] := by kernel_rfl
theorem ze90 : zeroT Tryz.prog 90 = some [.int .i64 0, .string ⟨#[]⟩] := by kernel_rfl
theorem ze124 : zeroT Tryz.prog 124 = some [.slice none 0 0, .slice none 0 0, .string ⟨#[]⟩, .string ⟨#[]⟩, .slice none 0 0, .bool false, .slice none 0 0, .slice none 0 0, .slice none 0 0, .slice none 0 0, .slice none 0 0, .slice none 0 0] := by kernel_rfl
theorem ze130 : zeroT Tryz.prog 130 = some [.int .i64 0, .int .i64 0, .int .i64 0, .string ⟨#[]⟩] := by kernel_rfl
theorem ze142 : zeroT Tryz.prog 142 = some [.slice none 0 0, .slice none 0 0, .slice none 0 0, .string ⟨#[]⟩, .string ⟨#[]⟩, .slice none 0 0, .bool false, .slice none 0 0, .slice none 0 0, .slice none 0 0, .slice none 0 0, .slice none 0 0] := by kernel_rfl
theorem ze156 : zeroT Tryz.prog 156 = some [.string ⟨#[]⟩, .int .i64 0, .int .i64 0, .bool false] := by kernel_rfl
theorem ze161 : zeroT Tryz.prog 161 = some [.string ⟨#[]⟩, .slice none 0 0] := by kernel_rfl
theorem ze165 : zeroT Tryz.prog 165 = some [.int .i64 0, .string ⟨#[]⟩, .int .i64 0, .int .i64 0, .int .i64 0, .int .i64 0, .string ⟨#[]⟩, .string ⟨#[]⟩, .slice none 0 0] := by kernel_rfl
theorem el26 : elemT Tryz.prog 26 = some 9 := by kernel_rfl
theorem el37 : elemT Tryz.prog 37 = some 161 := by kernel_rfl
theorem el42 : elemT Tryz.prog 42 = some 165 := by kernel_rfl
theorem el59 : elemT Tryz.prog 59 = some 125 := by kernel_rfl
theorem el61 : elemT Tryz.prog 61 = some 130 := by kernel_rfl
theorem el76 : elemT Tryz.prog 76 = some 90 := by kernel_rfl
theorem el81 : elemT Tryz.prog 81 = some 156 := by kernel_rfl
theorem el84 : elemT Tryz.prog 84 = some 86 := by kernel_rfl
theorem el125 : elemT Tryz.prog 125 = some 129 := by kernel_rfl
theorem pl86 : placesT Tryz.prog 86 = some [(0, 1), (1, 1), (2, 1), (3, 1), (4, 1), (5, 1), (6, 1)] := by kernel_rfl
theorem pl90 : placesT Tryz.prog 90 = some [(0, 1), (1, 1)] := by kernel_rfl
theorem pl124 : placesT Tryz.prog 124 = some [(0, 2), (2, 6), (8, 1), (9, 1), (10, 1), (11, 1)] := by kernel_rfl
theorem pl142 : placesT Tryz.prog 142 = some [(0, 2), (2, 1), (3, 6), (9, 1), (10, 1), (11, 1)] := by kernel_rfl
theorem pl161 : placesT Tryz.prog 161 = some [(0, 1), (1, 1)] := by kernel_rfl
theorem fl90 : flatT Tryz.prog 90 = some [.int, .str] := by kernel_rfl
theorem fo40_0 : fieldT Tryz.prog 40 0 = some 0 := by kernel_rfl
theorem fo45_1 : fieldT Tryz.prog 45 1 = some 1 := by kernel_rfl
theorem fo45_2 : fieldT Tryz.prog 45 2 = some 2 := by kernel_rfl
theorem fo45_4 : fieldT Tryz.prog 45 4 = some 4 := by kernel_rfl
theorem fo86_0 : fieldT Tryz.prog 86 0 = some 0 := by kernel_rfl
theorem fo86_2 : fieldT Tryz.prog 86 2 = some 2 := by kernel_rfl
theorem fo86_5 : fieldT Tryz.prog 86 5 = some 5 := by kernel_rfl
theorem fo86_6 : fieldT Tryz.prog 86 6 = some 6 := by kernel_rfl
theorem fo124_0 : fieldT Tryz.prog 124 0 = some 0 := by kernel_rfl
theorem fo124_1 : fieldT Tryz.prog 124 1 = some 2 := by kernel_rfl
theorem fo124_2 : fieldT Tryz.prog 124 2 = some 8 := by kernel_rfl
theorem fo124_3 : fieldT Tryz.prog 124 3 = some 9 := by kernel_rfl
theorem fo124_4 : fieldT Tryz.prog 124 4 = some 10 := by kernel_rfl
theorem fo129_0 : fieldT Tryz.prog 129 0 = some 0 := by kernel_rfl
theorem fo129_1 : fieldT Tryz.prog 129 1 = some 1 := by kernel_rfl
theorem fo130_0 : fieldT Tryz.prog 130 0 = some 0 := by kernel_rfl
theorem fo130_1 : fieldT Tryz.prog 130 1 = some 1 := by kernel_rfl
theorem fo130_2 : fieldT Tryz.prog 130 2 = some 2 := by kernel_rfl
theorem fo130_3 : fieldT Tryz.prog 130 3 = some 3 := by kernel_rfl
theorem fo142_0 : fieldT Tryz.prog 142 0 = some 0 := by kernel_rfl
theorem fo142_1 : fieldT Tryz.prog 142 1 = some 2 := by kernel_rfl
theorem fo142_2 : fieldT Tryz.prog 142 2 = some 3 := by kernel_rfl
theorem fo142_3 : fieldT Tryz.prog 142 3 = some 9 := by kernel_rfl
theorem fo142_4 : fieldT Tryz.prog 142 4 = some 10 := by kernel_rfl
theorem fo142_5 : fieldT Tryz.prog 142 5 = some 11 := by kernel_rfl
theorem fo156_0 : fieldT Tryz.prog 156 0 = some 0 := by kernel_rfl
theorem fo156_2 : fieldT Tryz.prog 156 2 = some 2 := by kernel_rfl
theorem fo161_0 : fieldT Tryz.prog 161 0 = some 0 := by kernel_rfl
theorem fo161_1 : fieldT Tryz.prog 161 1 = some 1 := by kernel_rfl
theorem fo165_0 : fieldT Tryz.prog 165 0 = some 0 := by kernel_rfl
theorem fo165_1 : fieldT Tryz.prog 165 1 = some 2 := by kernel_rfl
theorem ok44 : callable Tryz.prog 44 = true := by kernel_rfl
theorem ok45 : callable Tryz.prog 45 = true := by kernel_rfl
theorem ok46 : callable Tryz.prog 46 = true := by kernel_rfl
theorem ok62 : callable Tryz.prog 62 = true := by kernel_rfl
theorem ok63 : callable Tryz.prog 63 = true := by kernel_rfl
theorem ok81 : callable Tryz.prog 81 = true := by kernel_rfl
theorem ok82 : callable Tryz.prog 82 = true := by kernel_rfl
theorem ok83 : callable Tryz.prog 83 = true := by kernel_rfl
theorem ok84 : callable Tryz.prog 84 = true := by kernel_rfl
theorem ok85 : callable Tryz.prog 85 = true := by kernel_rfl
theorem ok86 : callable Tryz.prog 86 = true := by kernel_rfl
theorem ok89 : callable Tryz.prog 89 = true := by kernel_rfl
theorem ok90 : callable Tryz.prog 90 = true := by kernel_rfl
theorem ok91 : callable Tryz.prog 91 = true := by kernel_rfl
theorem ok92 : callable Tryz.prog 92 = true := by kernel_rfl
theorem ok93 : callable Tryz.prog 93 = true := by kernel_rfl
theorem ok108 : callable Tryz.prog 108 = true := by kernel_rfl
theorem ok111 : callable Tryz.prog 111 = true := by kernel_rfl
theorem ok113 : callable Tryz.prog 113 = true := by kernel_rfl
theorem ok114 : callable Tryz.prog 114 = true := by kernel_rfl
theorem ok115 : callable Tryz.prog 115 = true := by kernel_rfl
theorem ok117 : callable Tryz.prog 117 = true := by kernel_rfl
theorem ok125 : callable Tryz.prog 125 = true := by kernel_rfl
theorem ok126 : callable Tryz.prog 126 = true := by kernel_rfl
theorem ok127 : callable Tryz.prog 127 = true := by kernel_rfl
theorem ok128 : callable Tryz.prog 128 = true := by kernel_rfl
theorem ok130 : callable Tryz.prog 130 = true := by kernel_rfl
theorem ok132 : callable Tryz.prog 132 = true := by kernel_rfl
theorem ok140 : callable Tryz.prog 140 = true := by kernel_rfl
theorem ok141 : callable Tryz.prog 141 = true := by kernel_rfl
theorem ok142 : callable Tryz.prog 142 = true := by kernel_rfl
theorem ok143 : callable Tryz.prog 143 = true := by kernel_rfl
theorem ok145 : callable Tryz.prog 145 = true := by kernel_rfl
theorem ok146 : callable Tryz.prog 146 = true := by kernel_rfl
theorem ok147 : callable Tryz.prog 147 = true := by kernel_rfl
theorem ok148 : callable Tryz.prog 148 = true := by kernel_rfl
theorem ok149 : callable Tryz.prog 149 = true := by kernel_rfl
theorem ok150 : callable Tryz.prog 150 = true := by kernel_rfl
theorem ok151 : callable Tryz.prog 151 = true := by kernel_rfl
theorem ok152 : callable Tryz.prog 152 = true := by kernel_rfl
theorem ok153 : callable Tryz.prog 153 = true := by kernel_rfl
theorem ok159 : callable Tryz.prog 159 = true := by kernel_rfl
theorem ok163 : callable Tryz.prog 163 = true := by kernel_rfl
theorem ok172 : callable Tryz.prog 172 = true := by kernel_rfl
theorem ok173 : callable Tryz.prog 173 = true := by kernel_rfl
theorem ok183 : callable Tryz.prog 183 = true := by kernel_rfl
theorem ok184 : callable Tryz.prog 184 = true := by kernel_rfl
theorem ok185 : callable Tryz.prog 185 = true := by kernel_rfl
theorem ok186 : callable Tryz.prog 186 = true := by kernel_rfl
theorem ok187 : callable Tryz.prog 187 = true := by kernel_rfl
theorem ok188 : callable Tryz.prog 188 = true := by kernel_rfl
theorem ok196 : callable Tryz.prog 196 = true := by kernel_rfl
theorem ok203 : callable Tryz.prog 203 = true := by kernel_rfl
theorem ok209 : callable Tryz.prog 209 = true := by kernel_rfl
theorem ok224 : callable Tryz.prog 224 = true := by kernel_rfl
noncomputable def sl1In_m (a0 : Int) (a1 : Int) (a2 : Int) : Option Bool :=
  if a1 ≤ a0 then (
  some (decide (a0 ≤ a2))
  ) else (
  some false
  )
theorem sl1In_ok {a0 : Int} {a1 : Int} {a2 : Int} {r : Bool} (hr : sl1In_m a0 a1 a2 = some r) {F0 : Nat → Prop} {w0 : World} (ha0 : I64 a0) (ha1 : I64 a1) (ha2 : I64 a2) :
    Ret Tryz.prog 108 #[.int .i64 a0, .int .i64 a1, .int .i64 a2] w0 (fun _ => False) fun v w => v = .bool r := by
  have H := HL.start F0 w0
  refine enter Tryz.func108 rfl rfl rfl ?_
  refine Sreg ?_
  refine Wsn rfl rfl rfl rfl ?_
  refine Sreg ?_
  refine Wmv rfl rfl rfl rfl (Wmv rfl rfl rfl rfl (WL.ev rfl rfl (Ev.bin rfl rfl rfl Bin.geq) ?_))
  refine WL.mvD rfl rfl rfl rfl (fun h1 => ?_) (fun h1 => ?_)
  · have hr := ifp h1 hr
    refine WL.on rfl rfl (Wmv rfl rfl rfl rfl (WL.on rfl rfl (Wmv rfl rfl rfl rfl (WL.on rfl rfl (WL.ev rfl rfl (Ev.bin rfl rfl rfl Bin.leq) (WL.ev rfl rfl (Ev.pickT rfl rfl rfl) (Wsn rfl rfl rfl rfl ?_)))))))
    refine CW.ret ?_
    obtain rfl := sm hr
    exact ⟨_, res1 rfl rfl rfl, H.ext0, rfl⟩
  · have hr := ifn h1 hr
    refine WL.off rfl rfl rfl (WL.off rfl rfl rfl (WL.off rfl rfl rfl (WL.ev rfl rfl (Ev.pickF rfl rfl rfl) (Wsn rfl rfl rfl rfl ?_))))
    refine CW.ret ?_
    obtain rfl := sm hr
    exact ⟨_, res1 rfl rfl rfl, H.ext0, rfl⟩

noncomputable def sSymbolAt_m (a0 : Rule) (a1 : Int) : Option ByteArray :=
  if a1 = 0 then (
  some a0.Left
  ) else (
  (sl1In_m a1 1 (a0.Right.length : Int)).bind fun y1 =>
  if y1 = true then (
  grd (I64 (a1 - 1)) <|
  grd (0 ≤ (a1 - 1)) <|
  (a0.Right[(a1 - 1).toNat]?).bind fun x1 =>
  some x1
  ) else (
  some (⟨#[]⟩ : ByteArray)
  )
  )
theorem sSymbolAt_ok {a0 : Rule} {a1 : Int} {r : ByteArray} (hr : sSymbolAt_m a0 a1 = some r) {F0 : Nat → Prop} {w0 : World} {ca0 : List Value} (ha0 : rd F0 w0 a0 ca0) (ha1 : I64 a1) :
    Ret Tryz.prog 44 #[.agg ca0.toArray, .int .i64 a1] w0 (fun _ => False) fun v w => v = .string r ∧ r.size ≤ 9223372036854775807 := by
  have H := (HL.start F0 w0).argR ha0
  obtain ⟨A1, n1, c1, A2, n2, c2, A3, n3, c3, rfl, hS1, hS2, H⟩ := op_Rule H (i := 0) rfl
  refine enter Tryz.func44 rfl rfl rfl ?_
  refine Sreg ?_
  refine WL.boxH rfl rfl rfl rfl rfl H fun b1 w1 H => ?_
  refine Wsn rfl rfl rfl rfl ?_
  refine SSr ?_
  refine Wmv rfl rfl rfl rfl (WL.ev rfl rfl (Ev.bin rfl rfl rfl Bin.eql) (WL.nil ?_))
  refine CW.condD rfl (fun h1 => ?_) (fun h1 => ?_)
  · have hr := ifp h1 hr
    refine Sreg ?_
    refine Wfa rfl rfl rfl fo45_1 rfl (WL.ev rfl rfl (Ev.ld rfl ag9 rfl ((H.rB (i := 0) rfl).cell rfl)) (Wsn rfl rfl rfl rfl ?_))
    refine CW.ret ?_
    obtain rfl := sm hr
    exact ⟨_, res1 rfl rfl rfl, H.ext0, rfl, hS2⟩
  · have hr := ifn h1 hr
    refine CW.skip ?_
    refine SSr ?_
    refine Wmv rfl rfl rfl rfl (Wfa rfl rfl rfl fo45_2 rfl (WL.ev rfl rfl (Ev.ld rfl ag26 rfl ((H.rB (i := 0) rfl).cell rfl)) ?_))
    have hl1 := (H.rS (i := 1) rfl).I
    refine WL.ev rfl rfl (Ev.lenV rfl el26 rfl (H.rS (i := 1) rfl)) ?_
    obtain ⟨y1, hy1, hr⟩ := bd hr
    refine WL.call rfl rfl rfl rfl rfl ok108 rfl (sl1In_ok hy1 (F0 := fun _ => False) ha1 (by decide : I64 1) hl1) ?_
    rintro _ w2 hE rfl
    have H := H.ext hE
    refine WL.ev rfl rfl (Ev.not rfl rfl) (WL.nil ?_)
    refine CW.condBN rfl (fun h2 => ?_) (fun h2 => ?_)
    · have hr := ifn h2 hr
      refine Sreg ?_
      refine Wsn rfl rfl rfl rfl ?_
      refine CW.ret ?_
      obtain rfl := sm hr
      exact ⟨_, res1 rfl rfl rfl, H.ext0, rfl, (by decide)⟩
    · have hr := ifp h2 hr
      refine CW.skip ?_
      refine Sreg ?_
      refine Wfa rfl rfl rfl fo45_2 rfl (WL.ev rfl rfl (Ev.ld rfl ag26 rfl ((H.rB (i := 0) rfl).cell rfl)) (Wmv rfl rfl rfl rfl ?_))
      obtain ⟨hg1, hr⟩ := grd_some hr
      refine WL.ev rfl rfl (Ev.bin rfl rfl rfl (Bin.sub hg1)) ?_
      obtain ⟨hg2, hr⟩ := grd_some hr
      obtain ⟨x1, hx1, hr⟩ := bd hr
      obtain ⟨b2, ob2, cb2, hvb2, hS3, H⟩ := ixS_Str H (i := 1) rfl hx1
      refine WL.ev rfl rfl (Ev.ixV rfl el26 sz9 rfl hvb2 rfl hg2 (lt_of hx1)) (WL.ev rfl rfl (Ev.ld rfl ag9 rfl ((H.rA (i := 4) rfl).cell0 rfl)) (Wsn rfl rfl rfl rfl ?_))
      refine CW.ret ?_
      obtain rfl := sm hr
      exact ⟨_, res1 rfl rfl rfl, H.ext0, rfl, hS3⟩

noncomputable def sl10Symbol_m (a0 : Symbol) : Option Symbol :=
  grd (((([] : List Attribute).length : Int) + (a0.Attributes.length : Int)) * 40 ≤ 140737488355328 ∧ (([] : List Attribute).length : Int) + (a0.Attributes.length : Int) ≤ 9223372036854775807) <|
  some a0
theorem sl10Symbol_ok {a0 : Symbol} {r : Symbol} (hr : sl10Symbol_m a0 = some r) {F0 : Nat → Prop} {w0 : World} {ca0 : List Value} (ha0 : rd F0 w0 a0 ca0) :
    Ret Tryz.prog 196 #[.agg ca0.toArray] w0 (fun _ => False) fun v w => ∃ A0 : Option Addr, ∃ n0 c0 : Nat, v = .agg #[.string r.Name, (.slice A0 n0 c0)] ∧ r.Name.size ≤ 9223372036854775807 ∧ HL F0 [] w0 w [] [It.O 156 r.Attributes (.slice A0 n0 c0)] := by
  have H := (HL.start F0 w0).argR ha0
  obtain ⟨A1, n1, c1, rfl, hS1, H⟩ := op_Symbol H (i := 0) rfl
  refine enter Tryz.func196 rfl rfl rfl ?_
  refine Sreg ?_
  refine WL.boxH rfl rfl rfl rfl rfl H fun b1 w1 H => ?_
  refine WL.allocH rfl rfl rfl ze161 H fun b2 w2 H => ?_
  refine WL.nil ?_
  refine CW.seq (CW.held (fun w => ∃ v1_0_ : Value, ∃ v1_1_ : Value, HL F0 [] w0 w [Pr.R a0 [.string a0.Name, .slice A1 n1 c1], Pr.S a0.Attributes (.slice A1 n1 c1)] [It.B b1 161 [.string a0.Name, .slice A1 n1 c1], It.B b2 161 [v1_0_, v1_1_]]) hmix (fun w3 hE => ?_))
  have H := H.ext hE
  refine HW.take 0 ⟨_, _, H.keep 2 2⟩ rfl (by kernel_rfl) rfl rfl (fun _ _ => Ev.fa rfl fo161_0 rfl) ?_
  refine HW.take 1 ⟨_, _, H.keep 2 2⟩ rfl (by kernel_rfl) rfl rfl (fun _ ⟨_, _, hq⟩ => Ev.ld rfl ag9 rfl ((hq.rB (i := 0) rfl).cell rfl)) ?_
  refine HW.take 3 ⟨_, _, H.keep 2 2⟩ rfl (by kernel_rfl) rfl rfl (fun _ _ => Ev.fa rfl fo161_1 rfl) ?_
  refine HW.take 4 ⟨_, _, H.keep 2 2⟩ rfl (by kernel_rfl) rfl rfl (fun _ ⟨_, _, hq⟩ => Ev.ld rfl ag81 rfl ((hq.rB (i := 0) rfl).cell rfl)) ?_
  refine HW.eff 2 rfl (by kernel_rfl) ?_
  refine WL.lit0H (α := Attribute) rfl rfl rfl el81 sz156 H fun A2 n2 c2 w4 H => ?_
  refine HW.next ⟨_, _, H.keep 2 2⟩ ?_
  refine HW.eff 5 rfl (by kernel_rfl) ?_
  obtain ⟨hg1, hr⟩ := grd_some hr
  refine WL.appS (i := 2) rfl rfl rfl el81 sz156 by156 ze156 rfl rfl rfl H rfl (H.rS (i := 1) rfl) hg1 fun A3 n3 c3 w5 H => ?_
  refine HW.next ⟨_, _, H.keep 2 2⟩ ?_
  refine HW.take 6 ⟨_, _, H.keep 2 2⟩ rfl (by kernel_rfl) rfl rfl (fun _ _ => Ev.build rfl pl161 ze161 rfl rfl rfl rfl) ?_
  refine HW.eff 7 rfl (by kernel_rfl) ?_
  refine WL.stB (i := 1) rfl rfl rfl sz161 rfl rfl rfl rfl (all1 rfl (all1 rfl all0)) H rfl rfl rfl fun w6 H => ?_
  refine HW.next ⟨_, _, H.keep 2 2⟩ ?_
  refine HW.done (by kernel_rfl) ?_
  refine CW.ret ?_
  obtain rfl := sm hr
  exact ⟨_, resC rfl ag161 sz161 rfl rfl (At.blk (H.rB (i := 1) rfl)) rfl, H.ext0, _, _, _, rfl, hS1, H.outM (fr' := []) [false, false, true] fun _ _ => trivial⟩

noncomputable def sFindSymbol_L1 (a1 : ByteArray) : Nat → Symbol → Unit → Option (Unit ⊕ (Symbol × Bool)) := fun k1 x1 _ => 
  if x1.Name = a1 then (
  (sl10Symbol_m x1).bind fun y1 =>
  some (.inr (y1, true))
  ) else (
  some (.inl ())
  )
noncomputable def sFindSymbol_m (a0 : Grammar) (a1 : ByteArray) : Option (Symbol × Bool) :=
  (findL (sFindSymbol_L1 a1) 0 a0.Symbols ()).bind <| onr (fun r1 => some r1) fun _ =>
  some ((⟨(⟨#[]⟩ : ByteArray), []⟩ : Symbol), false)
theorem sFindSymbol_ok {a0 : Grammar} {a1 : ByteArray} {r : (Symbol × Bool)} (hr : sFindSymbol_m a0 a1 = some r) {F0 : Nat → Prop} {w0 : World} {ca0 : List Value} (ha0 : rd F0 w0 a0 ca0) (ha1 : a1.size ≤ 9223372036854775807) :
    Ret Tryz.prog 159 #[.agg ca0.toArray, .string a1] w0 (fun _ => False) fun v w => ∃ A0 : Option Addr, ∃ n0 c0 : Nat, v = .tuple #[.agg #[.string r.1.Name, (.slice A0 n0 c0)], .bool r.2] ∧ r.1.Name.size ≤ 9223372036854775807 ∧ HL F0 [] w0 w [] [It.O 156 r.1.Attributes (.slice A0 n0 c0)] := by
  have H := (HL.start F0 w0).argR ha0
  obtain ⟨A1, n1, c1, A2, n2, c2, rfl, H⟩ := op_Grammar H (i := 0) rfl
  refine enter Tryz.func159 rfl rfl rfl ?_
  refine Sreg ?_
  refine WL.boxH rfl rfl rfl rfl rfl H fun b1 w1 H => ?_
  refine WL.allocH rfl rfl rfl ze161 H fun b2 w2 H => ?_
  refine Wsn rfl rfl rfl rfl ?_
  refine SSr ?_
  refine Wsn rfl rfl rfl rfl ?_
  obtain ⟨q1, hq1, hr⟩ := bd hr
  refine CW.block (CW.loop (α := Nat) (fun k1 => [(1, .string a1), (2, .pointer (some ⟨b1, 0, none⟩)), (4, .pointer (some ⟨b2, 0, none⟩)), (6, .int .i64 (k1 : Int))]) (fun k1 w => k1 ≤ a0.Symbols.length ∧ findL (sFindSymbol_L1 a1) k1 (a0.Symbols.drop k1) () = some q1 ∧ HL F0 [] w0 w [Pr.R a0 [.slice A1 n1 c1, .slice A2 n2 c2], Pr.S a0.Symbols (.slice A1 n1 c1), Pr.S a0.Rules (.slice A2 n2 c2)] [It.B b1 40 [.slice A1 n1 c1, .slice A2 n2 c2], It.B b2 161 [.string (⟨#[]⟩ : ByteArray), .slice none 0 0]]) (fun k1 => a0.Symbols.length - k1) 0 ⟨rfl, rfl, rfl, rfl, trivial⟩ ⟨Nat.zero_le _, hq1, H.keep 3 2⟩ ?_)
  rintro k1 σ w3 ⟨hk1, hq1, H⟩
  refine SSr ?_
  refine Wmv rfl rfl rfl rfl (Wfa rfl rfl rfl fo40_0 rfl (WL.ev rfl rfl (Ev.ld rfl ag37 rfl ((H.rB (i := 0) rfl).cell rfl)) ?_))
  have hl1 := (H.rS (i := 1) rfl).I
  refine WL.ev rfl rfl (Ev.lenV rfl el37 rfl (H.rS (i := 1) rfl)) (WL.ev rfl rfl (Ev.bin rfl rfl rfl Bin.lss) (WL.nil ?_))
  refine CW.condD rfl (fun h1 => ?_) (fun h1 => ?_)
  · have hk2 := cast_lt h1
    obtain ⟨x1, z1, hx1, hb1, hs1, ht1⟩ := findL_go hq1 hk2
    refine CW.skip ?_
    refine CW.seq (CW.block (Sreg ?_))
    refine Wfa rfl rfl rfl fo40_0 rfl (WL.ev rfl rfl (Ev.ld rfl ag37 rfl ((H.rB (i := 0) rfl).cell rfl)) (Wmv rfl rfl rfl rfl ?_))
    obtain ⟨b3, ob3, cb3, A3, n3, c3, hvb3, hS1, H⟩ := ixS_Symbol H (i := 1) rfl hx1
    refine WL.ev rfl rfl (Ev.ixVN rfl el37 sz161 rfl hvb3 rfl (lt_of hx1)) (Wfa rfl rfl rfl fo161_0 rfl (WL.ev rfl rfl (Ev.ld rfl ag9 rfl ((H.rA (i := 3) rfl).cell rfl)) (Wmv rfl rfl rfl rfl (WL.ev rfl rfl (Ev.bin rfl rfl rfl Bin.eqlS) (WL.nil ?_)))))
    refine CW.condD rfl (fun h2 => ?_) (fun h2 => ?_)
    · have hb1 := ifp h2 hb1
      refine Sreg ?_
      refine Wfa rfl rfl rfl fo40_0 rfl (WL.ev rfl rfl (Ev.ld rfl ag37 rfl ((H.rB (i := 0) rfl).cell rfl)) (Wmv rfl rfl rfl rfl (WL.ev rfl rfl (Ev.ixVN rfl el37 sz161 rfl hvb3 rfl (lt_of hx1)) (WL.ev rfl rfl (Ev.lda rfl ag161 sz161 rfl (H.rA (i := 3) rfl) rfl) ?_))))
      obtain ⟨y1, hy1, hb1⟩ := bd hb1
      refine WL.call rfl rfl rfl rfl rfl ok196 rfl (sl10Symbol_ok hy1 ⟨_, rfl, hS1, (H.rS (i := 5) rfl)⟩) ?_
      rintro _ w4 hE ⟨A4, n4, c4, rfl, hS2, H'⟩
      have H := H.callA H' ⟨fun _ _ _ _ _ h => h, trivial⟩
      refine WL.stB (i := 1) rfl rfl rfl sz161 rfl rfl rfl rfl (all1 rfl (all1 rfl all0)) H rfl rfl rfl fun w5 H => ?_
      refine Wsn rfl rfl rfl rfl ?_
      refine CW.ret ?_
      obtain rfl := sm hb1
      obtain rfl := ht1 _ rfl
      obtain rfl := sm hr
      exact ⟨_, resC1 rfl ag161 sz161 rfl rfl rfl rfl (At.blk (H.rB (i := 1) rfl)) rfl, H.ext0, _, _, _, rfl, hS2, H.outM (fr' := []) [false, false, true] fun _ _ => trivial⟩
    · have hb1 := ifn h2 hb1
      refine CW.skip ?_
      refine CW.reg ?_
      refine Wmv rfl rfl rfl rfl (WL.ev rfl rfl (Ev.bin rfl rfl rfl (Bin.addN (a := k1) (b := 1) rfl (i64_succN hk2 hl1.2))) (Wsn rfl rfl rfl rfl ?_))
      obtain rfl := sm hb1
      have hq1 := hs1 _ rfl
      exact ⟨(k1 + 1), ⟨rfl, rfl, rfl, rfl, trivial⟩, ⟨hk2, hq1, H.keep 3 2⟩, Nat.sub_lt_sub_left hk2 (Nat.lt_succ_self _)⟩
  · obtain rfl := findL_end hq1 (not_cast_lt h1)
    have hr := (onr_inl _ _ _).symm.trans hr
    refine CW.exit ?_
    refine Sreg ?_
    refine WL.ev rfl rfl (Ev.build rfl pl161 ze161 rfl rfl rfl rfl) ?_
    refine WL.stB (i := 1) rfl rfl rfl sz161 rfl rfl rfl rfl (all1 rfl (all1 rfl all0)) H rfl rfl rfl fun w6 H => ?_
    refine Wsn rfl rfl rfl rfl ?_
    refine CW.ret ?_
    have H := H.nil (α := Attribute) 156
    obtain rfl := sm hr
    exact ⟨_, resC1 rfl ag161 sz161 rfl rfl rfl rfl (At.blk (H.rB (i := 1) rfl)) rfl, H.ext0, _, _, _, rfl, (by decide), H.outM (fr' := []) [false, false, true] fun _ _ => trivial⟩

noncomputable def sl4Copy_L1 (rec_sl4Copy : Expr → Option Expr) : Nat → Expr → (List Expr) → Option (List Expr) := fun k1 x1 s1 => 
  (rec_sl4Copy x1).bind fun y1 =>
  grd (((s1.length : Int) + 1) * 88 ≤ 140737488355328 ∧ (s1.length : Int) + 1 ≤ 9223372036854775807) <|
  some (s1 ++ [y1])
noncomputable def sl4Copy_B (rec_sl4Copy : Expr → Option Expr) (a0 : Expr) : Option Expr :=
  (eachL (sl4Copy_L1 rec_sl4Copy) 0 a0.Args ([] : List Expr)).bind fun s1 =>
  some (⟨a0.Kind, a0.N, a0.Pos, a0.Type_, a0.Symbol, a0.Name, s1⟩ : Expr)
theorem sl4Copy_okB {rec_sl4Copy : Expr → Option Expr} (ih_sl4Copy : ∀ {a0 : Expr} {r : Expr}, rec_sl4Copy a0 = some r → ∀ {F0 : Nat → Prop} {w0 : World} {ca0 : List Value} (ha0 : rd F0 w0 a0 ca0), Ret Tryz.prog 114 #[.agg ca0.toArray] w0 (fun _ => False) fun v w => ∃ A0 : Option Addr, ∃ n0 c0 : Nat, v = .agg #[.int .i64 r.Kind, .int .i64 r.N, .int .i64 r.Pos, .int .i64 r.Type_, .string r.Symbol, .string r.Name, (.slice A0 n0 c0)] ∧ I64 r.Kind ∧ I64 r.N ∧ I64 r.Pos ∧ I64 r.Type_ ∧ r.Symbol.size ≤ 9223372036854775807 ∧ r.Name.size ≤ 9223372036854775807 ∧ HL F0 [] w0 w [Pr.S r.Args (.slice A0 n0 c0)] []) {a0 : Expr} {r : Expr} (hr : sl4Copy_B rec_sl4Copy a0 = some r) {F0 : Nat → Prop} {w0 : World} {ca0 : List Value} (ha0 : rd F0 w0 a0 ca0) :
    Ret Tryz.prog 114 #[.agg ca0.toArray] w0 (fun _ => False) fun v w => ∃ A0 : Option Addr, ∃ n0 c0 : Nat, v = .agg #[.int .i64 r.Kind, .int .i64 r.N, .int .i64 r.Pos, .int .i64 r.Type_, .string r.Symbol, .string r.Name, (.slice A0 n0 c0)] ∧ I64 r.Kind ∧ I64 r.N ∧ I64 r.Pos ∧ I64 r.Type_ ∧ r.Symbol.size ≤ 9223372036854775807 ∧ r.Name.size ≤ 9223372036854775807 ∧ HL F0 [] w0 w [Pr.S r.Args (.slice A0 n0 c0)] [] := by
  have H := (HL.start F0 w0).argR ha0
  obtain ⟨A1, n1, c1, rfl, hI1, hI2, hI3, hI4, hS1, hS2, H⟩ := op_Expr H (i := 0) rfl
  refine enter Tryz.func114 rfl rfl rfl ?_
  refine Sreg ?_
  refine WL.boxH rfl rfl rfl rfl rfl H fun b1 w1 H => ?_
  refine WL.allocH rfl rfl rfl ze86 H fun b2 w2 H => ?_
  refine WL.nil ?_
  refine Sreg ?_
  refine WL.lit0H (α := Expr) rfl rfl rfl el84 sz86 H fun A2 n2 c2 w3 H => ?_
  have H := H.toG (i := 2) rfl
  refine Wsn rfl rfl rfl rfl ?_
  refine SSr ?_
  refine Wsn rfl rfl rfl rfl ?_
  obtain ⟨q1, hq1, hr⟩ := bd hr
  refine CW.block (CW.loop (α := Nat × (List Expr) × Value) (fun ⟨k1, s1, v1⟩ => [(1, .pointer (some ⟨b1, 0, none⟩)), (2, .pointer (some ⟨b2, 0, none⟩)), (3, v1), (4, .int .i64 (k1 : Int))]) (fun ⟨k1, s1, v1⟩ w => k1 ≤ a0.Args.length ∧ eachL (sl4Copy_L1 rec_sl4Copy) k1 (a0.Args.drop k1) s1 = some q1 ∧ HL F0 [] w0 w [Pr.R a0 [.int .i64 a0.Kind, .int .i64 a0.N, .int .i64 a0.Pos, .int .i64 a0.Type_, .string a0.Symbol, .string a0.Name, .slice A1 n1 c1], Pr.S a0.Args (.slice A1 n1 c1)] [It.B b1 86 [.int .i64 a0.Kind, .int .i64 a0.N, .int .i64 a0.Pos, .int .i64 a0.Type_, .string a0.Symbol, .string a0.Name, .slice A1 n1 c1], It.B b2 86 [.int .i64 0, .int .i64 0, .int .i64 0, .int .i64 0, .string (⟨#[]⟩ : ByteArray), .string (⟨#[]⟩ : ByteArray), .slice none 0 0], It.G 86 s1 v1]) (fun ⟨k1, s1, v1⟩ => a0.Args.length - k1) ⟨0, ([] : List Expr), (.slice A2 n2 c2)⟩ ⟨rfl, rfl, rfl, rfl, trivial⟩ ⟨Nat.zero_le _, hq1, H.keep 2 3⟩ ?_)
  rintro ⟨k1, s1, v1⟩ σ w4 ⟨hk1, hq1, H⟩
  obtain ⟨A3, n3, c3, rfl⟩ := (H.rG (i := 2) rfl).form3
  refine SSr ?_
  refine Wmv rfl rfl rfl rfl (Wfa rfl rfl rfl fo86_6 rfl (WL.ev rfl rfl (Ev.ld rfl ag84 rfl ((H.rB (i := 0) rfl).cell rfl)) ?_))
  have hl1 := (H.rS (i := 1) rfl).I
  refine WL.ev rfl rfl (Ev.lenV rfl el84 rfl (H.rS (i := 1) rfl)) (WL.ev rfl rfl (Ev.bin rfl rfl rfl Bin.lss) (WL.nil ?_))
  refine CW.condD rfl (fun h1 => ?_) (fun h1 => ?_)
  · have hk2 := cast_lt h1
    obtain ⟨x1, z1, hx1, hb1, hq1⟩ := eachL_go hq1 hk2
    refine CW.skip ?_
    refine CW.seq (CW.block (CW.reg ?_))
    refine Wmv rfl rfl rfl rfl (Wfa rfl rfl rfl fo86_6 rfl (WL.ev rfl rfl (Ev.ld rfl ag84 rfl ((H.rB (i := 0) rfl).cell rfl)) (Wmv rfl rfl rfl rfl ?_)))
    obtain ⟨b3, ob3, cb3, A4, n4, c4, hvb3, hI5, hI6, hI7, hI8, hS3, hS4, H⟩ := ixS_Expr H (i := 1) rfl hx1
    refine WL.ev rfl rfl (Ev.ixVN rfl el84 sz86 rfl hvb3 rfl (lt_of hx1)) (WL.ev rfl rfl (Ev.lda rfl ag86 sz86 rfl (H.rA (i := 2) rfl) rfl) ?_)
    obtain ⟨y1, hy1, hb1⟩ := bd hb1
    obtain ⟨F, hF, hcl⟩ := H.call
    refine WL.call rfl rfl rfl rfl rfl ok114 rfl (ih_sl4Copy hy1 (Expr_rd.2 ⟨_, rfl, hI5, hI6, hI7, hI8, hS3, hS4, (hF.get (i := 4) rfl)⟩)) ?_
    rintro _ w5 hE ⟨A5, n5, c5, rfl, hI9, hI10, hI11, hI12, hS5, hS6, H'⟩
    have H := hcl H'
    refine WL.lit1 rfl rfl rfl el84 sz86 ze86 rfl rfl rfl rfl rfl rfl fun b4 w6 hE hb hB => ?_
    have H := H.newB hE hb hB
    obtain ⟨hg1, hb1⟩ := grd_some hb1
    refine WL.appG (i := 2) (ys := [y1]) rfl rfl rfl el84 sz86 by86 ze86 rfl rfl rfl H rfl (fun F hF => rdL.single (Expr_rd.2 ⟨_, rfl, hI9, hI10, hI11, hI12, hS5, hS6, (hF.get (i := 5) rfl)⟩)) (.inr ⟨_, _, rfl, At.blk (H.rB (i := 3) rfl)⟩) hg1 fun A6 n6 c6 w7 H => ?_
    refine Wsn rfl rfl rfl rfl ?_
    refine CW.reg ?_
    refine Wmv rfl rfl rfl rfl (WL.ev rfl rfl (Ev.bin rfl rfl rfl (Bin.addN (a := k1) (b := 1) rfl (i64_succN hk2 hl1.2))) (Wsn rfl rfl rfl rfl ?_))
    obtain rfl := sm hb1
    exact ⟨⟨k1 + 1, (s1 ++ [y1]), (.slice A6 n6 c6)⟩, ⟨rfl, rfl, rfl, rfl, trivial⟩, ⟨hk2, hq1, H.keep 2 3⟩, Nat.sub_lt_sub_left hk2 (Nat.lt_succ_self _)⟩
  · obtain rfl := eachL_end hq1 (not_cast_lt h1)
    refine CW.exit ?_
    refine Sreg ?_
    refine Wmv rfl rfl rfl rfl (Wfa rfl rfl rfl fo86_6 rfl ?_)
    refine WL.stB (i := 0) rfl rfl rfl sz84 rfl rfl rfl rfl (all1 rfl all0) H rfl rfl rfl fun w8 H => ?_
    refine WL.nil ?_
    refine Sreg ?_
    refine WL.ev rfl rfl (Ev.lda rfl ag86 sz86 rfl (At.blk (H.rB (i := 0) rfl)) rfl) ?_
    refine WL.stB (i := 1) rfl rfl rfl sz86 rfl rfl rfl rfl (all1 rfl (all1 rfl (all1 rfl (all1 rfl (all1 rfl (all1 rfl (all1 rfl all0))))))) H rfl rfl rfl fun w9 H => ?_
    refine WL.nil ?_
    refine CW.ret ?_
    have H := H.frzG (i := 2) rfl
    obtain rfl := sm hr
    exact ⟨_, resC rfl ag86 sz86 rfl rfl (At.blk (H.rB (i := 1) rfl)) rfl, H.ext0, _, _, _, rfl, hI1, hI2, hI3, hI4, hS1, hS2, H.outM (fr' := [Pr.S s1 (.slice A3 n3 c3)]) [false, false, false] fun _ h => ⟨h.get (i := 2) rfl, trivial⟩⟩
noncomputable def sl4Copy_n : Nat → Expr → Option Expr
  | 0, _ => none
  | n + 1, a0 => sl4Copy_B (sl4Copy_n n) a0
noncomputable def sl4Copy_m (a0 : Expr) : Option Expr := recO fun n => sl4Copy_n n a0
theorem sl4Copy_okn (n : Nat) : ∀ {a0 : Expr} {r : Expr}, sl4Copy_n n a0 = some r → ∀ {F0 : Nat → Prop} {w0 : World} {ca0 : List Value} (ha0 : rd F0 w0 a0 ca0), Ret Tryz.prog 114 #[.agg ca0.toArray] w0 (fun _ => False) fun v w => ∃ A0 : Option Addr, ∃ n0 c0 : Nat, v = .agg #[.int .i64 r.Kind, .int .i64 r.N, .int .i64 r.Pos, .int .i64 r.Type_, .string r.Symbol, .string r.Name, (.slice A0 n0 c0)] ∧ I64 r.Kind ∧ I64 r.N ∧ I64 r.Pos ∧ I64 r.Type_ ∧ r.Symbol.size ≤ 9223372036854775807 ∧ r.Name.size ≤ 9223372036854775807 ∧ HL F0 [] w0 w [Pr.S r.Args (.slice A0 n0 c0)] [] := by
  induction n with
  | zero => intro a0 r hr; exact nomatch (show (none : Option Expr) = some r from hr)
  | succ n ih => intro a0 r hr; exact sl4Copy_okB ih hr
theorem sl4Copy_ok {a0 : Expr} {r : Expr} (hr : sl4Copy_m a0 = some r) {F0 : Nat → Prop} {w0 : World} {ca0 : List Value} (ha0 : rd F0 w0 a0 ca0) :
    Ret Tryz.prog 114 #[.agg ca0.toArray] w0 (fun _ => False) fun v w => ∃ A0 : Option Addr, ∃ n0 c0 : Nat, v = .agg #[.int .i64 r.Kind, .int .i64 r.N, .int .i64 r.Pos, .int .i64 r.Type_, .string r.Symbol, .string r.Name, (.slice A0 n0 c0)] ∧ I64 r.Kind ∧ I64 r.N ∧ I64 r.Pos ∧ I64 r.Type_ ∧ r.Symbol.size ≤ 9223372036854775807 ∧ r.Name.size ≤ 9223372036854775807 ∧ HL F0 [] w0 w [Pr.S r.Args (.slice A0 n0 c0)] [] := by
  obtain ⟨n, hn⟩ := recO_some hr
  exact sl4Copy_okn n hn ha0

noncomputable def sFindEquation_L1 (a1 : Occurrence) : Nat → Equation → Unit → Option (Unit ⊕ (Expr × Bool)) := fun k1 x1 _ => 
  if x1.At = a1 then (
  (sl4Copy_m x1.Expr).bind fun y1 =>
  some (.inr (y1, true))
  ) else (
  some (.inl ())
  )
noncomputable def sFindEquation_m (a0 : Rule) (a1 : Occurrence) : Option (Expr × Bool) :=
  (findL (sFindEquation_L1 a1) 0 a0.Equations ()).bind <| onr (fun r1 => some r1) fun _ =>
  some ((⟨0, 0, 0, 0, (⟨#[]⟩ : ByteArray), (⟨#[]⟩ : ByteArray), []⟩ : Expr), false)
theorem sFindEquation_ok {a0 : Rule} {a1 : Occurrence} {r : (Expr × Bool)} (hr : sFindEquation_m a0 a1 = some r) {F0 : Nat → Prop} {w0 : World} {ca0 : List Value} (ha0 : rd F0 w0 a0 ca0) {ca1 : List Value} (ha1 : rd F0 w0 a1 ca1) :
    Ret Tryz.prog 45 #[.agg ca0.toArray, .agg ca1.toArray] w0 (fun _ => False) fun v w => ∃ A0 : Option Addr, ∃ n0 c0 : Nat, v = .tuple #[.agg #[.int .i64 r.1.Kind, .int .i64 r.1.N, .int .i64 r.1.Pos, .int .i64 r.1.Type_, .string r.1.Symbol, .string r.1.Name, (.slice A0 n0 c0)], .bool r.2] ∧ I64 r.1.Kind ∧ I64 r.1.N ∧ I64 r.1.Pos ∧ I64 r.1.Type_ ∧ r.1.Symbol.size ≤ 9223372036854775807 ∧ r.1.Name.size ≤ 9223372036854775807 ∧ HL F0 [] w0 w [Pr.S r.1.Args (.slice A0 n0 c0)] [] := by
  have H := ((HL.start F0 w0).argR ha0).argR ha1
  obtain ⟨A1, n1, c1, A2, n2, c2, A3, n3, c3, rfl, hS1, hS2, H⟩ := op_Rule H (i := 0) rfl
  obtain ⟨rfl, hI1, hS3, H⟩ := op_Occurrence H (i := 1) rfl
  refine enter Tryz.func45 rfl rfl rfl ?_
  refine Sreg ?_
  refine WL.boxH rfl rfl rfl rfl rfl H fun b1 w1 H => ?_
  refine WL.boxH rfl rfl rfl rfl rfl H fun b2 w2 H => ?_
  refine WL.allocH rfl rfl rfl ze86 H fun b3 w3 H => ?_
  refine Wsn rfl rfl rfl rfl ?_
  refine SSr ?_
  refine Wsn rfl rfl rfl rfl ?_
  obtain ⟨q1, hq1, hr⟩ := bd hr
  refine CW.block (CW.loop (α := Nat) (fun k1 => [(2, .pointer (some ⟨b1, 0, none⟩)), (3, .pointer (some ⟨b2, 0, none⟩)), (4, .pointer (some ⟨b3, 0, none⟩)), (6, .int .i64 (k1 : Int))]) (fun k1 w => k1 ≤ a0.Equations.length ∧ findL (sFindEquation_L1 a1) k1 (a0.Equations.drop k1) () = some q1 ∧ HL F0 [] w0 w [Pr.R a0 [.string a0.Name, .string a0.Left, .slice A1 n1 c1, .bool a0.Literal, .slice A2 n2 c2, .slice A3 n3 c3], Pr.R a1 [.int .i64 a1.Pos, .string a1.Name], Pr.S a0.Right (.slice A1 n1 c1), Pr.S a0.Equations (.slice A2 n2 c2), Pr.S a0.Contributions (.slice A3 n3 c3)] [It.B b1 45 [.string a0.Name, .string a0.Left, .slice A1 n1 c1, .bool a0.Literal, .slice A2 n2 c2, .slice A3 n3 c3], It.B b2 90 [.int .i64 a1.Pos, .string a1.Name], It.B b3 86 [.int .i64 0, .int .i64 0, .int .i64 0, .int .i64 0, .string (⟨#[]⟩ : ByteArray), .string (⟨#[]⟩ : ByteArray), .slice none 0 0]]) (fun k1 => a0.Equations.length - k1) 0 ⟨rfl, rfl, rfl, rfl, trivial⟩ ⟨Nat.zero_le _, hq1, H.keep 5 3⟩ ?_)
  rintro k1 σ w4 ⟨hk1, hq1, H⟩
  refine SSr ?_
  refine Wmv rfl rfl rfl rfl (Wfa rfl rfl rfl fo45_4 rfl (WL.ev rfl rfl (Ev.ld rfl ag42 rfl ((H.rB (i := 0) rfl).cell rfl)) ?_))
  have hl1 := (H.rS (i := 3) rfl).I
  refine WL.ev rfl rfl (Ev.lenV rfl el42 rfl (H.rS (i := 3) rfl)) (WL.ev rfl rfl (Ev.bin rfl rfl rfl Bin.lss) (WL.nil ?_))
  refine CW.condD rfl (fun h1 => ?_) (fun h1 => ?_)
  · have hk2 := cast_lt h1
    obtain ⟨x1, z1, hx1, hb1, hs1, ht1⟩ := findL_go hq1 hk2
    refine CW.skip ?_
    refine CW.seq (CW.block (CW.seq (CW.quiet hmix (by kernel_rfl) ?_)))
    refine QL.ev rfl rfl (fun _ _ => Ev.fa rfl fo45_4 rfl) (QL.ev rfl rfl (fun _ hq => Ev.ld rfl ag42 rfl (((H.ext hq).rB (i := 0) rfl).cell rfl)) (QL.ev rfl rfl (fun _ _ => Ev.mv rfl rfl) ?_))
    obtain ⟨b4, ob4, cb4, A4, n4, c4, hvb4, hI2, hS4, hI3, hI4, hI5, hI6, hS5, hS6, H⟩ := ixS_Equation H (i := 3) rfl hx1
    refine QL.ev rfl rfl (fun _ _ => Ev.ixVN rfl el42 sz165 rfl hvb4 rfl (lt_of hx1)) (QL.ev rfl rfl (fun _ _ => Ev.fa rfl fo165_0 rfl) (QL.ev rfl rfl (fun _ hq => Ev.lda rfl ag90 sz90 rfl (((H.ext hq).rA (i := 5) rfl).part 0 2) rfl) (QL.ev rfl rfl (fun _ hq => Ev.lda rfl ag90 sz90 rfl (At.blk ((H.ext hq).rB (i := 1) rfl)) rfl) (QL.ev rfl rfl (fun _ _ => Ev.bin rfl rfl rfl (Bin.eqlF fl90 (Occurrence_eqF x1.At a1))) (QL.nil (fun w5 hE => ?_))))))
    have H := H.ext hE
    refine CW.condD rfl (fun h2 => ?_) (fun h2 => ?_)
    · have hb1 := ifp h2 hb1
      refine Sreg ?_
      refine Wfa rfl rfl rfl fo45_4 rfl (WL.ev rfl rfl (Ev.ld rfl ag42 rfl ((H.rB (i := 0) rfl).cell rfl)) (Wmv rfl rfl rfl rfl (WL.ev rfl rfl (Ev.ixVN rfl el42 sz165 rfl hvb4 rfl (lt_of hx1)) (Wfa rfl rfl rfl fo165_1 rfl (WL.ev rfl rfl (Ev.lda rfl ag86 sz86 rfl ((H.rA (i := 5) rfl).part 2 7) rfl) ?_)))))
      obtain ⟨y1, hy1, hb1⟩ := bd hb1
      obtain ⟨F, hF, hcl⟩ := H.call
      refine WL.call rfl rfl rfl rfl rfl ok114 rfl (sl4Copy_ok hy1 (Expr_rd.2 ⟨_, rfl, hI3, hI4, hI5, hI6, hS5, hS6, (hF.get (i := 7) rfl)⟩)) ?_
      rintro _ w6 hE ⟨A5, n5, c5, rfl, hI7, hI8, hI9, hI10, hS7, hS8, H'⟩
      have H := hcl H'
      refine WL.stB (i := 2) rfl rfl rfl sz86 rfl rfl rfl rfl (all1 rfl (all1 rfl (all1 rfl (all1 rfl (all1 rfl (all1 rfl (all1 rfl all0))))))) H rfl rfl rfl fun w7 H => ?_
      refine Wsn rfl rfl rfl rfl ?_
      refine CW.ret ?_
      obtain rfl := sm hb1
      obtain rfl := ht1 _ rfl
      obtain rfl := sm hr
      exact ⟨_, resC1 rfl ag86 sz86 rfl rfl rfl rfl (At.blk (H.rB (i := 2) rfl)) rfl, H.ext0, _, _, _, rfl, hI7, hI8, hI9, hI10, hS7, hS8, H.outM (fr' := [Pr.S y1.Args (.slice A5 n5 c5)]) [false, false, false] fun _ h => ⟨h.get (i := 8) rfl, trivial⟩⟩
    · have hb1 := ifn h2 hb1
      refine CW.skip ?_
      refine CW.reg ?_
      refine Wmv rfl rfl rfl rfl (WL.ev rfl rfl (Ev.bin rfl rfl rfl (Bin.addN (a := k1) (b := 1) rfl (i64_succN hk2 hl1.2))) (Wsn rfl rfl rfl rfl ?_))
      obtain rfl := sm hb1
      have hq1 := hs1 _ rfl
      exact ⟨(k1 + 1), ⟨rfl, rfl, rfl, rfl, trivial⟩, ⟨hk2, hq1, H.keep 5 3⟩, Nat.sub_lt_sub_left hk2 (Nat.lt_succ_self _)⟩
  · obtain rfl := findL_end hq1 (not_cast_lt h1)
    have hr := (onr_inl _ _ _).symm.trans hr
    refine CW.exit ?_
    refine Sreg ?_
    refine WL.ev rfl rfl (Ev.build rfl pl86 ze86 rfl rfl rfl rfl) ?_
    refine WL.stB (i := 2) rfl rfl rfl sz86 rfl rfl rfl rfl (all1 rfl (all1 rfl (all1 rfl (all1 rfl (all1 rfl (all1 rfl (all1 rfl all0))))))) H rfl rfl rfl fun w8 H => ?_
    refine Wsn rfl rfl rfl rfl ?_
    refine CW.ret ?_
    have H := H.nilS (α := Expr)
    obtain rfl := sm hr
    exact ⟨_, resC1 rfl ag86 sz86 rfl rfl rfl rfl (At.blk (H.rB (i := 2) rfl)) rfl, H.ext0, _, _, _, rfl, (by decide : I64 0), (by decide : I64 0), (by decide : I64 0), (by decide : I64 0), (by decide), (by decide), H.outM (fr' := [Pr.S ([] : List Expr) (.slice none 0 0)]) [false, false, false] fun _ h => ⟨h.get (i := 5) rfl, trivial⟩⟩

noncomputable def sl4Before_m (a0 : Occurrence) (a1 : Occurrence) : Option Bool :=
  (
  if a0.Pos < a1.Pos then (
  some true
  ) else (
  (
  if a0.Pos = a1.Pos then (
  some (Op.bytesLess a0.Name.toList a1.Name.toList)
  ) else (
  some false
  )
  ).bind fun s2 =>
  some s2
  )
  ).bind fun s1 =>
  some s1
theorem sl4Before_ok {a0 : Occurrence} {a1 : Occurrence} {r : Bool} (hr : sl4Before_m a0 a1 = some r) {F0 : Nat → Prop} {w0 : World} {ca0 : List Value} (ha0 : rd F0 w0 a0 ca0) {ca1 : List Value} (ha1 : rd F0 w0 a1 ca1) :
    Ret Tryz.prog 203 #[.agg ca0.toArray, .agg ca1.toArray] w0 (fun _ => False) fun v w => v = .bool r := by
  have H := ((HL.start F0 w0).argR ha0).argR ha1
  obtain ⟨rfl, hI1, hS1, H⟩ := op_Occurrence H (i := 0) rfl
  obtain ⟨rfl, hI2, hS2, H⟩ := op_Occurrence H (i := 1) rfl
  refine enter Tryz.func203 rfl rfl rfl ?_
  refine Sreg ?_
  refine WL.boxH rfl rfl rfl rfl rfl H fun b1 w1 H => ?_
  refine WL.boxH rfl rfl rfl rfl rfl H fun b2 w2 H => ?_
  refine Wsn rfl rfl rfl rfl ?_
  refine Sreg ?_
  refine Wfa rfl rfl rfl fo90_0 rfl (WL.ev rfl rfl (Ev.ld rfl ag3 rfl ((H.rB (i := 0) rfl).cell rfl)) (Wfa rfl rfl rfl fo90_0 rfl (WL.ev rfl rfl (Ev.ld rfl ag3 rfl ((H.rB (i := 1) rfl).cell rfl)) (WL.ev rfl rfl (Ev.bin rfl rfl rfl Bin.lss) ?_))))
  obtain ⟨q1, hm1, hr⟩ := bd hr
  refine WL.cut 14 (fun ρ' w => ∃ (s1 : Bool), s1 = q1 ∧ agree ρ' [(4, .bool false), (23, .bool s1)] ∧ HL F0 [] w0 w [Pr.R a0 [.int .i64 a0.Pos, .string a0.Name], Pr.R a1 [.int .i64 a1.Pos, .string a1.Name]] [It.B b1 90 [.int .i64 a0.Pos, .string a0.Name], It.B b2 90 [.int .i64 a1.Pos, .string a1.Name]]) ?_ ?_
  · refine WL.mvD rfl rfl rfl rfl (fun h1 => ?_) (fun h1 => ?_)
    · have hm1 := ifp h1 hm1
      refine WL.off rfl rfl rfl (WL.off rfl rfl rfl (WL.off rfl rfl rfl (WL.off rfl rfl rfl (WL.off rfl rfl rfl (WL.off rfl rfl rfl (WL.off rfl rfl rfl (WL.off rfl rfl rfl (WL.off rfl rfl rfl (WL.off rfl rfl rfl (WL.off rfl rfl rfl (WL.off rfl rfl rfl (WL.ev rfl rfl (Ev.pickT rfl rfl rfl) (WL.nil ?_)))))))))))))
      obtain rfl := sm hm1
      exact ⟨true, rfl, ⟨rfl, rfl, trivial⟩, H.keep 2 2⟩
    · have hm1 := ifn h1 hm1
      refine WL.on rfl rfl (Wfa rfl rfl rfl fo90_0 rfl (WL.on rfl rfl (WL.ev rfl rfl (Ev.ld rfl ag3 rfl ((H.rB (i := 0) rfl).cell rfl)) (WL.on rfl rfl (Wfa rfl rfl rfl fo90_0 rfl (WL.on rfl rfl (WL.ev rfl rfl (Ev.ld rfl ag3 rfl ((H.rB (i := 1) rfl).cell rfl)) (WL.on rfl rfl (WL.ev rfl rfl (Ev.bin rfl rfl rfl Bin.eql) (WL.on rfl rfl ?_))))))))))
      obtain ⟨q2, hm2, hm1⟩ := bd hm1
      refine WL.cut 7 (fun ρ' w => ∃ (s2 : Bool), s2 = q2 ∧ agree ρ' [(4, .bool false), (10, .bool false), (22, .bool s2)] ∧ HL F0 [] w0 w [Pr.R a0 [.int .i64 a0.Pos, .string a0.Name], Pr.R a1 [.int .i64 a1.Pos, .string a1.Name]] [It.B b1 90 [.int .i64 a0.Pos, .string a0.Name], It.B b2 90 [.int .i64 a1.Pos, .string a1.Name]]) ?_ ?_
      · refine WL.on rfl rfl ?_
        refine WL.mvD rfl rfl rfl rfl (fun h2 => ?_) (fun h2 => ?_)
        · have hm2 := ifp h2 hm2
          refine WL.on rfl rfl (Wfa rfl rfl rfl fo90_1 rfl (WL.on rfl rfl (WL.ev rfl rfl (Ev.ld rfl ag9 rfl ((H.rB (i := 0) rfl).cell rfl)) (WL.on rfl rfl (Wfa rfl rfl rfl fo90_1 rfl (WL.on rfl rfl (WL.ev rfl rfl (Ev.ld rfl ag9 rfl ((H.rB (i := 1) rfl).cell rfl)) (WL.on rfl rfl (WL.ev rfl rfl (Ev.bin rfl rfl rfl Bin.lssS) (WL.on rfl rfl (WL.ev rfl rfl (Ev.pickT rfl rfl rfl) (WL.nil ?_))))))))))))
          obtain rfl := sm hm2
          exact ⟨(Op.bytesLess a0.Name.toList a1.Name.toList), rfl, ⟨rfl, rfl, rfl, trivial⟩, H.keep 2 2⟩
        · have hm2 := ifn h2 hm2
          refine WL.off rfl rfl rfl (WL.off rfl rfl rfl (WL.off rfl rfl rfl (WL.off rfl rfl rfl (WL.off rfl rfl rfl (WL.on rfl rfl (WL.ev rfl rfl (Ev.pickF rfl rfl rfl) (WL.nil ?_)))))))
          obtain rfl := sm hm2
          exact ⟨false, rfl, ⟨rfl, rfl, rfl, trivial⟩, H.keep 2 2⟩
      · rintro ρ' w3 ⟨s2, rfl, hag, H⟩
        obtain ⟨σ, rfl⟩ := ofL_ex hag
        refine WL.ev rfl rfl (Ev.pickF rfl rfl rfl) (WL.nil ?_)
        obtain rfl := sm hm1
        exact ⟨s2, rfl, ⟨rfl, rfl, trivial⟩, H.keep 2 2⟩
  · rintro ρ' w4 ⟨s1, rfl, hag, H⟩
    obtain ⟨σ, rfl⟩ := ofL_ex hag
    refine Wsn rfl rfl rfl rfl ?_
    refine CW.ret ?_
    obtain rfl := sm hr
    exact ⟨_, res1 rfl rfl rfl, H.ext0, rfl⟩

noncomputable def sl4Put_L1 (a0 : (List Occurrence)) (a1 : Occurrence) : Int → Option (Int ⊕ Int) := fun s2 => 
  if s2 < (a0.length : Int) then (
  grd (0 ≤ s2) <|
  (a0[s2.toNat]?).bind fun x1 =>
  (sl4Before_m x1 a1).bind fun y1 =>
  if y1 = true then (
  grd (I64 (s2 + 1)) <|
  some (.inl (s2 + 1))
  ) else (
  some (.inr s2)
  )
  ) else (
  some (.inr s2)
  )
noncomputable def sl4Put_m (a0 : (List Occurrence)) (a1 : Occurrence) : Option (List Occurrence) :=
  (
  iterO (sl4Put_L1 a0 a1) 0
  ).bind fun s1 =>
  if s1 < (a0.length : Int) then (
  grd (0 ≤ s1) <|
  (a0[s1.toNat]?).bind fun x2 =>
  if x2 = a1 then (
  some a0
  ) else (
  grd (0 ≤ s1) <|
  grd (s1.toNat ≤ a0.length) <|
  grd (((([] : List Occurrence).length : Int) + ((a0.take s1.toNat).length : Int)) * 24 ≤ 140737488355328 ∧ (([] : List Occurrence).length : Int) + ((a0.take s1.toNat).length : Int) ≤ 9223372036854775807) <|
  grd ((((a0.take s1.toNat).length : Int) + 1) * 24 ≤ 140737488355328 ∧ ((a0.take s1.toNat).length : Int) + 1 ≤ 9223372036854775807) <|
  grd (0 ≤ s1) <|
  grd (s1.toNat ≤ a0.length) <|
  grd (((((a0.take s1.toNat) ++ [a1]).length : Int) + ((a0.drop s1.toNat).length : Int)) * 24 ≤ 140737488355328 ∧ (((a0.take s1.toNat) ++ [a1]).length : Int) + ((a0.drop s1.toNat).length : Int) ≤ 9223372036854775807) <|
  some (((a0.take s1.toNat) ++ [a1]) ++ (a0.drop s1.toNat))
  )
  ) else (
  grd (0 ≤ s1) <|
  grd (s1.toNat ≤ a0.length) <|
  grd (((([] : List Occurrence).length : Int) + ((a0.take s1.toNat).length : Int)) * 24 ≤ 140737488355328 ∧ (([] : List Occurrence).length : Int) + ((a0.take s1.toNat).length : Int) ≤ 9223372036854775807) <|
  grd ((((a0.take s1.toNat).length : Int) + 1) * 24 ≤ 140737488355328 ∧ ((a0.take s1.toNat).length : Int) + 1 ≤ 9223372036854775807) <|
  grd (0 ≤ s1) <|
  grd (s1.toNat ≤ a0.length) <|
  grd (((((a0.take s1.toNat) ++ [a1]).length : Int) + ((a0.drop s1.toNat).length : Int)) * 24 ≤ 140737488355328 ∧ (((a0.take s1.toNat) ++ [a1]).length : Int) + ((a0.drop s1.toNat).length : Int) ≤ 9223372036854775807) <|
  some (((a0.take s1.toNat) ++ [a1]) ++ (a0.drop s1.toNat))
  )
theorem sl4Put_ok {a0 : (List Occurrence)} {a1 : Occurrence} {r : (List Occurrence)} (hr : sl4Put_m a0 a1 = some r) {F0 : Nat → Prop} {w0 : World} {z0 : Value} (ha0 : rdS F0 w0 a0 z0) {ca1 : List Value} (ha1 : rd F0 w0 a1 ca1) :
    Ret Tryz.prog 163 #[z0, .agg ca1.toArray] w0 (fun _ => False) fun v w => ∃ A0 : Option Addr, ∃ n0 c0 : Nat, v = (.slice A0 n0 c0) ∧ HL F0 [] w0 w [Pr.S r (.slice A0 n0 c0)] [] := by
  obtain ⟨A0', n0', c0', rfl⟩ := ha0.form3
  have H := ((HL.start F0 w0).argS ha0).argR ha1
  obtain ⟨rfl, hI1, hS1, H⟩ := op_Occurrence H (i := 1) rfl
  refine enter Tryz.func163 rfl rfl rfl ?_
  refine Sreg ?_
  refine WL.boxH rfl rfl rfl rfl rfl H fun b1 w1 H => ?_
  refine Wsn rfl rfl rfl rfl ?_
  refine Sreg ?_
  refine Wsn rfl rfl rfl rfl ?_
  obtain ⟨q1, hm1, hr⟩ := bd hr
  refine CW.seq (CW.mid (fun ρ' w => ∃ (s1 : Int), s1 = q1 ∧ agree ρ' [(0, .slice A0' n0' c0'), (3, .pointer (some ⟨b1, 0, none⟩)), (5, .int .i64 s1)] ∧ I64 s1 ∧ HL F0 [] w0 w [Pr.S a0 (.slice A0' n0' c0'), Pr.R a1 [.int .i64 a1.Pos, .string a1.Name]] [It.B b1 90 [.int .i64 a1.Pos, .string a1.Name]]) ?_ ?_)
  · obtain ⟨m1, hq1⟩ := iterO_some.1 hm1
    refine CW.block (CW.loop (α := Nat × Int) (fun ⟨m1, s2⟩ => [(0, .slice A0' n0' c0'), (3, .pointer (some ⟨b1, 0, none⟩)), (5, .int .i64 s2)]) (fun ⟨m1, s2⟩ w => iterN (sl4Put_L1 a0 a1) m1 s2 = some q1 ∧ I64 s2 ∧ HL F0 [] w0 w [Pr.S a0 (.slice A0' n0' c0'), Pr.R a1 [.int .i64 a1.Pos, .string a1.Name]] [It.B b1 90 [.int .i64 a1.Pos, .string a1.Name]]) (fun ⟨m1, s2⟩ => m1) ⟨m1, 0⟩ ⟨rfl, rfl, rfl, trivial⟩ ⟨hq1, (by decide : I64 0), H.keep 2 1⟩ ?_)
    rintro ⟨m1, s2⟩ σ w2 ⟨hq1, hI3, H⟩
    obtain ⟨m2, z1, rfl, hb1, hs1, ht1⟩ := iterN_go hq1
    refine CW.seq (CW.seq (CW.quiet hmix (by kernel_rfl) ?_))
    refine QL.ev rfl rfl (fun _ _ => Ev.mv rfl rfl) (QL.ev rfl rfl (fun _ _ => Ev.mv rfl rfl) ?_)
    have hl1 := (H.rS (i := 0) rfl).I
    refine QL.ev rfl rfl (fun _ _ => Ev.lenV rfl el76 rfl (H.rS (i := 0) rfl)) (QL.ev rfl rfl (fun _ _ => Ev.bin rfl rfl rfl Bin.lss) ?_)
    refine QL.mvD rfl rfl rfl rfl (fun h1 => ?_) (fun h1 => ?_)
    · have hb1 := ifp h1 hb1
      refine QL.on rfl rfl (QL.ev rfl rfl (fun _ _ => Ev.mv rfl rfl) (QL.on rfl rfl (QL.ev rfl rfl (fun _ _ => Ev.mv rfl rfl) (QL.on rfl rfl ?_))))
      obtain ⟨hg1, hb1⟩ := grd_some hb1
      obtain ⟨x1, hx1, hb1⟩ := bd hb1
      obtain ⟨b2, ob2, cb2, hvb2, hI4, hS2, H⟩ := ixS_Occurrence H (i := 0) rfl hx1
      refine QL.ev rfl rfl (fun _ _ => Ev.ixV rfl el76 sz90 rfl hvb2 rfl hg1 (lt_of hx1)) (QL.on rfl rfl (QL.ev rfl rfl (fun _ hq => Ev.lda rfl ag90 sz90 rfl ((H.ext hq).rA (i := 2) rfl) rfl) (QL.on rfl rfl (QL.ev rfl rfl (fun _ hq => Ev.lda rfl ag90 sz90 rfl (At.blk ((H.ext hq).rB (i := 0) rfl)) rfl) (QL.on rfl rfl ?_)))))
      obtain ⟨y1, hy1, hb1⟩ := bd hb1
      refine QL.call rfl rfl rfl rfl rfl ok203 rfl (fun _ hq => sl4Before_ok hy1 (F0 := fun _ => False) ⟨rfl, hI4, hS2⟩ ⟨rfl, hI1, hS1⟩) ?_
      refine QL.ev rfl rfl (fun _ _ => Ev.pickT rfl rfl rfl) (QL.nil (fun w3 hE => ?_))
      have H := H.ext hE
      refine CW.condB rfl (fun h2 => ?_) (fun h2 => ?_)
      · have hb1 := ifp h2 hb1
        refine CW.skip ?_
        refine CW.block (CW.reg ?_)
        refine Wmv rfl rfl rfl rfl ?_
        obtain ⟨hg2, hb1⟩ := grd_some hb1
        refine WL.ev rfl rfl (Ev.bin rfl rfl rfl (Bin.add hg2)) (Wsn rfl rfl rfl rfl ?_)
        obtain rfl := sm hb1
        exact ⟨⟨m2, (s2 + 1)⟩, ⟨rfl, rfl, rfl, trivial⟩, ⟨hs1 _ rfl, hg2, H.keep 2 1⟩, Nat.lt_succ_self _⟩
      · have hb1 := ifn h2 hb1
        refine CW.exit ?_
        obtain rfl := sm hb1
        obtain rfl := ht1 _ rfl
        exact ⟨s2, rfl, ⟨rfl, rfl, rfl, trivial⟩, hI3, H.keep 2 1⟩
    · have hb1 := ifn h1 hb1
      refine QL.off rfl rfl rfl (QL.off rfl rfl rfl (QL.off rfl rfl rfl (QL.off rfl rfl rfl (QL.off rfl rfl rfl (QL.off rfl rfl rfl (QL.ev rfl rfl (fun _ _ => Ev.pickF rfl rfl rfl) (QL.nil (fun w4 hE => ?_))))))))
      have H := H.ext hE
      refine CW.condF rfl ?_
      refine CW.exit ?_
      obtain rfl := sm hb1
      obtain rfl := ht1 _ rfl
      exact ⟨s2, rfl, ⟨rfl, rfl, rfl, trivial⟩, hI3, H.keep 2 1⟩
  · rintro ρ' w5 ⟨s1, rfl, hag, hI2, H⟩
    obtain ⟨σ, rfl⟩ := ofL_ex hag
    refine CW.seq (CW.seq (CW.quiet hmix (by kernel_rfl) ?_))
    refine QL.ev rfl rfl (fun _ _ => Ev.mv rfl rfl) (QL.ev rfl rfl (fun _ _ => Ev.mv rfl rfl) ?_)
    have hl2 := (H.rS (i := 0) rfl).I
    refine QL.ev rfl rfl (fun _ _ => Ev.lenV rfl el76 rfl (H.rS (i := 0) rfl)) (QL.ev rfl rfl (fun _ _ => Ev.bin rfl rfl rfl Bin.lss) ?_)
    refine QL.mvD rfl rfl rfl rfl (fun h3 => ?_) (fun h3 => ?_)
    · have hr := ifp h3 hr
      refine QL.on rfl rfl (QL.ev rfl rfl (fun _ _ => Ev.mv rfl rfl) (QL.on rfl rfl (QL.ev rfl rfl (fun _ _ => Ev.mv rfl rfl) (QL.on rfl rfl ?_))))
      obtain ⟨hg3, hr⟩ := grd_some hr
      obtain ⟨x2, hx2, hr⟩ := bd hr
      obtain ⟨b3, ob3, cb3, hvb3, hI5, hS3, H⟩ := ixS_Occurrence H (i := 0) rfl hx2
      refine QL.ev rfl rfl (fun _ _ => Ev.ixV rfl el76 sz90 rfl hvb3 rfl hg3 (lt_of hx2)) (QL.on rfl rfl (QL.ev rfl rfl (fun _ hq => Ev.lda rfl ag90 sz90 rfl ((H.ext hq).rA (i := 2) rfl) rfl) (QL.on rfl rfl (QL.ev rfl rfl (fun _ hq => Ev.lda rfl ag90 sz90 rfl (At.blk ((H.ext hq).rB (i := 0) rfl)) rfl) (QL.on rfl rfl (QL.ev rfl rfl (fun _ _ => Ev.bin rfl rfl rfl (Bin.eqlF fl90 (Occurrence_eqF x2 a1))) (QL.ev rfl rfl (fun _ _ => Ev.pickT rfl rfl rfl) (QL.nil (fun w6 hE => ?_)))))))))
      have H := H.ext hE
      refine CW.condD rfl (fun h4 => ?_) (fun h4 => ?_)
      · have hr := ifp h4 hr
        refine Sreg ?_
        refine Wmv rfl rfl rfl rfl (Wsn rfl rfl rfl rfl ?_)
        refine CW.ret ?_
        obtain rfl := sm hr
        exact ⟨_, res1 rfl rfl rfl, H.ext0, _, _, _, rfl, H.outM (fr' := [Pr.S a0 (.slice A0' n0' c0')]) [false] fun _ h => ⟨h.get (i := 0) rfl, trivial⟩⟩
      · have hr := ifn h4 hr
        refine CW.skip ?_
        refine Sreg ?_
        refine WL.lit0H (α := Occurrence) rfl rfl rfl el76 sz90 H fun A1 n1 c1 w7 H => ?_
        refine Wmv rfl rfl rfl rfl (Wmv rfl rfl rfl rfl ?_)
        obtain ⟨hg4, hr⟩ := grd_some hr
        obtain ⟨hg5, hr⟩ := grd_some hr
        obtain ⟨A2, n2, c2, e2, hc1, H⟩ := H.slH (i := 0) rfl hg5
        refine WL.ev rfl rfl (Ev.slHV rfl el76 sz90 rfl rfl ((Int.toNat_of_nonneg hg4).symm) hc1 e2) ?_
        obtain ⟨hg6, hr⟩ := grd_some hr
        refine WL.appS (i := 1) rfl rfl rfl el76 sz90 by90 ze90 rfl rfl rfl H rfl (H.rS (i := 4) rfl) hg6 fun A3 n3 c3 w8 H => ?_
        refine Wsn rfl rfl rfl rfl ?_
        refine Sreg ?_
        refine Wmv rfl rfl rfl rfl (WL.ev rfl rfl (Ev.lda rfl ag90 sz90 rfl (At.blk (H.rB (i := 0) rfl)) rfl) ?_)
        refine WL.lit1 rfl rfl rfl el76 sz90 ze90 rfl rfl rfl rfl rfl rfl fun b4 w9 hE hb hB => ?_
        have H := H.newB hE hb hB
        obtain ⟨hg7, hr⟩ := grd_some hr
        refine WL.appO (i := 1) (ys := [a1]) rfl rfl rfl el76 sz90 by90 ze90 rfl rfl rfl H rfl (fun _ => ownL.single ⟨rfl, hI1, hS1, rfl⟩) (.inr ⟨_, _, rfl, At.blk (H.rB (i := 2) rfl)⟩) hg7 fun A4 n4 c4 w10 H => ?_
        refine Wsn rfl rfl rfl rfl ?_
        refine Sreg ?_
        refine Wmv rfl rfl rfl rfl (Wmv rfl rfl rfl rfl (Wmv rfl rfl rfl rfl ?_))
        obtain ⟨hg8, hr⟩ := grd_some hr
        obtain ⟨hg9, hr⟩ := grd_some hr
        obtain ⟨A5, n5, c5, e3, hc2, H⟩ := H.slL (i := 0) rfl hg9
        refine WL.ev rfl rfl (Ev.slLV rfl el76 sz90 rfl rfl ((Int.toNat_of_nonneg hg8).symm) hc2 e3) ?_
        obtain ⟨hg10, hr⟩ := grd_some hr
        refine WL.appS (i := 1) rfl rfl rfl el76 sz90 by90 ze90 rfl rfl rfl H rfl (H.rS (i := 5) rfl) hg10 fun A6 n6 c6 w11 H => ?_
        refine Wsn rfl rfl rfl rfl ?_
        refine CW.ret ?_
        have H := H.frzO (i := 1) rfl
        obtain rfl := sm hr
        exact ⟨_, res1 rfl rfl rfl, H.ext0, _, _, _, rfl, H.outM (fr' := [Pr.S (((a0.take s1.toNat) ++ [a1]) ++ (a0.drop s1.toNat)) (.slice A6 n6 c6)]) [false, false, false] fun _ h => ⟨h.get (i := 6) rfl, trivial⟩⟩
    · have hr := ifn h3 hr
      refine QL.off rfl rfl rfl (QL.off rfl rfl rfl (QL.off rfl rfl rfl (QL.off rfl rfl rfl (QL.off rfl rfl rfl (QL.off rfl rfl rfl (QL.ev rfl rfl (fun _ _ => Ev.pickF rfl rfl rfl) (QL.nil (fun w12 hE => ?_))))))))
      have H := H.ext hE
      refine CW.condF rfl ?_
      refine CW.skip ?_
      refine Sreg ?_
      refine WL.lit0H (α := Occurrence) rfl rfl rfl el76 sz90 H fun A7 n7 c7 w13 H => ?_
      refine Wmv rfl rfl rfl rfl (Wmv rfl rfl rfl rfl ?_)
      obtain ⟨hg11, hr⟩ := grd_some hr
      obtain ⟨hg12, hr⟩ := grd_some hr
      obtain ⟨A8, n8, c8, e4, hc3, H⟩ := H.slH (i := 0) rfl hg12
      refine WL.ev rfl rfl (Ev.slHV rfl el76 sz90 rfl rfl ((Int.toNat_of_nonneg hg11).symm) hc3 e4) ?_
      obtain ⟨hg13, hr⟩ := grd_some hr
      refine WL.appS (i := 1) rfl rfl rfl el76 sz90 by90 ze90 rfl rfl rfl H rfl (H.rS (i := 2) rfl) hg13 fun A9 n9 c9 w14 H => ?_
      refine Wsn rfl rfl rfl rfl ?_
      refine Sreg ?_
      refine Wmv rfl rfl rfl rfl (WL.ev rfl rfl (Ev.lda rfl ag90 sz90 rfl (At.blk (H.rB (i := 0) rfl)) rfl) ?_)
      refine WL.lit1 rfl rfl rfl el76 sz90 ze90 rfl rfl rfl rfl rfl rfl fun b5 w15 hE hb hB => ?_
      have H := H.newB hE hb hB
      obtain ⟨hg14, hr⟩ := grd_some hr
      refine WL.appO (i := 1) (ys := [a1]) rfl rfl rfl el76 sz90 by90 ze90 rfl rfl rfl H rfl (fun _ => ownL.single ⟨rfl, hI1, hS1, rfl⟩) (.inr ⟨_, _, rfl, At.blk (H.rB (i := 2) rfl)⟩) hg14 fun A10 n10 c10 w16 H => ?_
      refine Wsn rfl rfl rfl rfl ?_
      refine Sreg ?_
      refine Wmv rfl rfl rfl rfl (Wmv rfl rfl rfl rfl (Wmv rfl rfl rfl rfl ?_))
      obtain ⟨hg15, hr⟩ := grd_some hr
      obtain ⟨hg16, hr⟩ := grd_some hr
      obtain ⟨A11, n11, c11, e5, hc4, H⟩ := H.slL (i := 0) rfl hg16
      refine WL.ev rfl rfl (Ev.slLV rfl el76 sz90 rfl rfl ((Int.toNat_of_nonneg hg15).symm) hc4 e5) ?_
      obtain ⟨hg17, hr⟩ := grd_some hr
      refine WL.appS (i := 1) rfl rfl rfl el76 sz90 by90 ze90 rfl rfl rfl H rfl (H.rS (i := 3) rfl) hg17 fun A12 n12 c12 w17 H => ?_
      refine Wsn rfl rfl rfl rfl ?_
      refine CW.ret ?_
      have H := H.frzO (i := 1) rfl
      obtain rfl := sm hr
      exact ⟨_, res1 rfl rfl rfl, H.ext0, _, _, _, rfl, H.outM (fr' := [Pr.S (((a0.take s1.toNat) ++ [a1]) ++ (a0.drop s1.toNat)) (.slice A12 n12 c12)]) [false, false, false] fun _ h => ⟨h.get (i := 4) rfl, trivial⟩⟩

noncomputable def sl4Uses_L1 (rec_sl4Uses : Expr → (List Occurrence) → Option (List Occurrence)) : Nat → Expr → (List Occurrence) → Option (List Occurrence) := fun k1 x1 s1 => 
  (rec_sl4Uses x1 s1).bind fun y2 =>
  some y2
noncomputable def sl4Uses_L2 (rec_sl4Uses : Expr → (List Occurrence) → Option (List Occurrence)) : Nat → Expr → (List Occurrence) → Option (List Occurrence) := fun k2 x2 s2 => 
  (rec_sl4Uses x2 s2).bind fun y3 =>
  some y3
noncomputable def sl4Uses_B (rec_sl4Uses : Expr → (List Occurrence) → Option (List Occurrence)) (a0 : Expr) (a1 : (List Occurrence)) : Option (List Occurrence) :=
  if a0.Kind = 3 then (
  (sl4Put_m a1 (⟨a0.Pos, a0.Name⟩ : Occurrence)).bind fun y1 =>
  (eachL (sl4Uses_L1 rec_sl4Uses) 0 a0.Args y1).bind fun s1 =>
  some s1
  ) else (
  (eachL (sl4Uses_L2 rec_sl4Uses) 0 a0.Args a1).bind fun s2 =>
  some s2
  )
theorem sl4Uses_okB {rec_sl4Uses : Expr → (List Occurrence) → Option (List Occurrence)} (ih_sl4Uses : ∀ {a0 : Expr} {a1 : (List Occurrence)} {r : (List Occurrence)}, rec_sl4Uses a0 a1 = some r → ∀ {F0 : Nat → Prop} {w0 : World} {ca0 : List Value} (ha0 : rd F0 w0 a0 ca0) {z1 : Value} (ha1 : rdS F0 w0 a1 z1), Ret Tryz.prog 115 #[.agg ca0.toArray, z1] w0 (fun _ => False) fun v w => ∃ A0 : Option Addr, ∃ n0 c0 : Nat, v = (.slice A0 n0 c0) ∧ HL F0 [] w0 w [Pr.S r (.slice A0 n0 c0)] []) {a0 : Expr} {a1 : (List Occurrence)} {r : (List Occurrence)} (hr : sl4Uses_B rec_sl4Uses a0 a1 = some r) {F0 : Nat → Prop} {w0 : World} {ca0 : List Value} (ha0 : rd F0 w0 a0 ca0) {z1 : Value} (ha1 : rdS F0 w0 a1 z1) :
    Ret Tryz.prog 115 #[.agg ca0.toArray, z1] w0 (fun _ => False) fun v w => ∃ A0 : Option Addr, ∃ n0 c0 : Nat, v = (.slice A0 n0 c0) ∧ HL F0 [] w0 w [Pr.S r (.slice A0 n0 c0)] [] := by
  obtain ⟨A1', n1', c1', rfl⟩ := ha1.form3
  have H := ((HL.start F0 w0).argR ha0).argS ha1
  obtain ⟨A1, n1, c1, rfl, hI1, hI2, hI3, hI4, hS1, hS2, H⟩ := op_Expr H (i := 0) rfl
  refine enter Tryz.func115 rfl rfl rfl ?_
  refine Sreg ?_
  refine WL.boxH rfl rfl rfl rfl rfl H fun b1 w1 H => ?_
  refine Wsn rfl rfl rfl rfl ?_
  refine SSr ?_
  refine Wfa rfl rfl rfl fo86_0 rfl (WL.ev rfl rfl (Ev.ld rfl ag3 rfl ((H.rB (i := 0) rfl).cell rfl)) (WL.ev rfl rfl (Ev.bin rfl rfl rfl Bin.eql) (WL.nil ?_)))
  refine CW.condD rfl (fun h1 => ?_) (fun h1 => ?_)
  · have hr := ifp h1 hr
    refine CW.reg ?_
    refine Wmv rfl rfl rfl rfl (Wfa rfl rfl rfl fo86_2 rfl (WL.ev rfl rfl (Ev.ld rfl ag3 rfl ((H.rB (i := 0) rfl).cell rfl)) (Wfa rfl rfl rfl fo86_5 rfl (WL.ev rfl rfl (Ev.ld rfl ag9 rfl ((H.rB (i := 0) rfl).cell rfl)) (WL.ev rfl rfl (Ev.build rfl pl90 ze90 rfl rfl rfl rfl) ?_)))))
    obtain ⟨y1, hy1, hr⟩ := bd hr
    obtain ⟨F, hF, hcl⟩ := H.call
    refine WL.call rfl rfl rfl rfl rfl ok163 rfl (sl4Put_ok hy1 (hF.get (i := 1) rfl) ⟨rfl, hI3, hS2⟩) ?_
    rintro _ w2 hE ⟨A2, n2, c2, rfl, H'⟩
    have H := hcl H'
    refine Wsn rfl rfl rfl rfl ?_
    refine SSr ?_
    refine Wsn rfl rfl rfl rfl ?_
    obtain ⟨q1, hq1, hr⟩ := bd hr
    refine CW.block (CW.loop (α := Nat × (List Occurrence) × Value) (fun ⟨k1, s1, v1⟩ => [(1, v1), (2, .pointer (some ⟨b1, 0, none⟩)), (5, .int .i64 (k1 : Int))]) (fun ⟨k1, s1, v1⟩ w => k1 ≤ a0.Args.length ∧ eachL (sl4Uses_L1 rec_sl4Uses) k1 (a0.Args.drop k1) s1 = some q1 ∧ HL F0 [] w0 w [Pr.R a0 [.int .i64 a0.Kind, .int .i64 a0.N, .int .i64 a0.Pos, .int .i64 a0.Type_, .string a0.Symbol, .string a0.Name, .slice A1 n1 c1], Pr.S a1 (.slice A1' n1' c1'), Pr.S a0.Args (.slice A1 n1 c1), Pr.S y1 (.slice A2 n2 c2), Pr.S s1 v1] [It.B b1 86 [.int .i64 a0.Kind, .int .i64 a0.N, .int .i64 a0.Pos, .int .i64 a0.Type_, .string a0.Symbol, .string a0.Name, .slice A1 n1 c1]]) (fun ⟨k1, s1, v1⟩ => a0.Args.length - k1) ⟨0, y1, (.slice A2 n2 c2)⟩ ⟨rfl, rfl, rfl, trivial⟩ ⟨Nat.zero_le _, hq1, H.out (fun _ h => (h.keep 4).app ⟨h.get (i := 3) rfl, trivial⟩) (List.take_sublist 1 [It.B b1 86 [.int .i64 a0.Kind, .int .i64 a0.N, .int .i64 a0.Pos, .int .i64 a0.Type_, .string a0.Symbol, .string a0.Name, .slice A1 n1 c1]])⟩ ?_)
    rintro ⟨k1, s1, v1⟩ σ w3 ⟨hk1, hq1, H⟩
    obtain ⟨A3, n3, c3, rfl⟩ := (H.rS (i := 4) rfl).form3
    refine SSr ?_
    refine Wmv rfl rfl rfl rfl (Wfa rfl rfl rfl fo86_6 rfl (WL.ev rfl rfl (Ev.ld rfl ag84 rfl ((H.rB (i := 0) rfl).cell rfl)) ?_))
    have hl1 := (H.rS (i := 2) rfl).I
    refine WL.ev rfl rfl (Ev.lenV rfl el84 rfl (H.rS (i := 2) rfl)) (WL.ev rfl rfl (Ev.bin rfl rfl rfl Bin.lss) (WL.nil ?_))
    refine CW.condD rfl (fun h2 => ?_) (fun h2 => ?_)
    · have hk2 := cast_lt h2
      obtain ⟨x1, z1, hx1, hb1, hq1⟩ := eachL_go hq1 hk2
      refine CW.skip ?_
      refine CW.seq (CW.block (CW.reg ?_))
      refine Wfa rfl rfl rfl fo86_6 rfl (WL.ev rfl rfl (Ev.ld rfl ag84 rfl ((H.rB (i := 0) rfl).cell rfl)) (Wmv rfl rfl rfl rfl ?_))
      obtain ⟨b2, ob2, cb2, A4, n4, c4, hvb2, hI5, hI6, hI7, hI8, hS3, hS4, H⟩ := ixS_Expr H (i := 2) rfl hx1
      refine WL.ev rfl rfl (Ev.ixVN rfl el84 sz86 rfl hvb2 rfl (lt_of hx1)) (WL.ev rfl rfl (Ev.lda rfl ag86 sz86 rfl (H.rA (i := 5) rfl) rfl) (Wmv rfl rfl rfl rfl ?_))
      obtain ⟨y2, hy2, hb1⟩ := bd hb1
      obtain ⟨F, hF, hcl⟩ := H.call
      refine WL.call rfl rfl rfl rfl rfl ok115 rfl (ih_sl4Uses hy2 (Expr_rd.2 ⟨_, rfl, hI5, hI6, hI7, hI8, hS3, hS4, (hF.get (i := 7) rfl)⟩) (hF.get (i := 4) rfl)) ?_
      rintro _ w4 hE ⟨A5, n5, c5, rfl, H'⟩
      have H := hcl H'
      refine Wsn rfl rfl rfl rfl ?_
      refine CW.reg ?_
      refine Wmv rfl rfl rfl rfl (WL.ev rfl rfl (Ev.bin rfl rfl rfl (Bin.addN (a := k1) (b := 1) rfl (i64_succN hk2 hl1.2))) (Wsn rfl rfl rfl rfl ?_))
      obtain rfl := sm hb1
      exact ⟨⟨k1 + 1, y2, (.slice A5 n5 c5)⟩, ⟨rfl, rfl, rfl, trivial⟩, ⟨hk2, hq1, H.out (fun _ h => (h.keep 4).app ⟨h.get (i := 8) rfl, trivial⟩) (List.take_sublist 1 [It.B b1 86 [.int .i64 a0.Kind, .int .i64 a0.N, .int .i64 a0.Pos, .int .i64 a0.Type_, .string a0.Symbol, .string a0.Name, .slice A1 n1 c1]])⟩, Nat.sub_lt_sub_left hk2 (Nat.lt_succ_self _)⟩
    · obtain rfl := eachL_end hq1 (not_cast_lt h2)
      refine CW.exit ?_
      refine Sreg ?_
      refine Wmv rfl rfl rfl rfl (Wsn rfl rfl rfl rfl ?_)
      refine CW.ret ?_
      obtain rfl := sm hr
      exact ⟨_, res1 rfl rfl rfl, H.ext0, _, _, _, rfl, H.outM (fr' := [Pr.S s1 (.slice A3 n3 c3)]) [false] fun _ h => ⟨h.get (i := 4) rfl, trivial⟩⟩
  · have hr := ifn h1 hr
    refine CW.skip ?_
    refine SSr ?_
    refine Wsn rfl rfl rfl rfl ?_
    obtain ⟨q2, hq2, hr⟩ := bd hr
    refine CW.block (CW.loop (α := Nat × (List Occurrence) × Value) (fun ⟨k2, s2, v2⟩ => [(1, v2), (2, .pointer (some ⟨b1, 0, none⟩)), (5, .int .i64 (k2 : Int))]) (fun ⟨k2, s2, v2⟩ w => k2 ≤ a0.Args.length ∧ eachL (sl4Uses_L2 rec_sl4Uses) k2 (a0.Args.drop k2) s2 = some q2 ∧ HL F0 [] w0 w [Pr.R a0 [.int .i64 a0.Kind, .int .i64 a0.N, .int .i64 a0.Pos, .int .i64 a0.Type_, .string a0.Symbol, .string a0.Name, .slice A1 n1 c1], Pr.S a1 (.slice A1' n1' c1'), Pr.S a0.Args (.slice A1 n1 c1), Pr.S s2 v2] [It.B b1 86 [.int .i64 a0.Kind, .int .i64 a0.N, .int .i64 a0.Pos, .int .i64 a0.Type_, .string a0.Symbol, .string a0.Name, .slice A1 n1 c1]]) (fun ⟨k2, s2, v2⟩ => a0.Args.length - k2) ⟨0, a1, (.slice A1' n1' c1')⟩ ⟨rfl, rfl, rfl, trivial⟩ ⟨Nat.zero_le _, hq2, H.out (fun _ h => (h.keep 3).app ⟨h.get (i := 1) rfl, trivial⟩) (List.take_sublist 1 [It.B b1 86 [.int .i64 a0.Kind, .int .i64 a0.N, .int .i64 a0.Pos, .int .i64 a0.Type_, .string a0.Symbol, .string a0.Name, .slice A1 n1 c1]])⟩ ?_)
    rintro ⟨k2, s2, v2⟩ σ w5 ⟨hk3, hq2, H⟩
    obtain ⟨A6, n6, c6, rfl⟩ := (H.rS (i := 3) rfl).form3
    refine SSr ?_
    refine Wmv rfl rfl rfl rfl (Wfa rfl rfl rfl fo86_6 rfl (WL.ev rfl rfl (Ev.ld rfl ag84 rfl ((H.rB (i := 0) rfl).cell rfl)) ?_))
    have hl2 := (H.rS (i := 2) rfl).I
    refine WL.ev rfl rfl (Ev.lenV rfl el84 rfl (H.rS (i := 2) rfl)) (WL.ev rfl rfl (Ev.bin rfl rfl rfl Bin.lss) (WL.nil ?_))
    refine CW.condD rfl (fun h3 => ?_) (fun h3 => ?_)
    · have hk4 := cast_lt h3
      obtain ⟨x2, z2, hx2, hb2, hq2⟩ := eachL_go hq2 hk4
      refine CW.skip ?_
      refine CW.seq (CW.block (CW.reg ?_))
      refine Wfa rfl rfl rfl fo86_6 rfl (WL.ev rfl rfl (Ev.ld rfl ag84 rfl ((H.rB (i := 0) rfl).cell rfl)) (Wmv rfl rfl rfl rfl ?_))
      obtain ⟨b3, ob3, cb3, A7, n7, c7, hvb3, hI9, hI10, hI11, hI12, hS5, hS6, H⟩ := ixS_Expr H (i := 2) rfl hx2
      refine WL.ev rfl rfl (Ev.ixVN rfl el84 sz86 rfl hvb3 rfl (lt_of hx2)) (WL.ev rfl rfl (Ev.lda rfl ag86 sz86 rfl (H.rA (i := 4) rfl) rfl) (Wmv rfl rfl rfl rfl ?_))
      obtain ⟨y3, hy3, hb2⟩ := bd hb2
      obtain ⟨F, hF, hcl⟩ := H.call
      refine WL.call rfl rfl rfl rfl rfl ok115 rfl (ih_sl4Uses hy3 (Expr_rd.2 ⟨_, rfl, hI9, hI10, hI11, hI12, hS5, hS6, (hF.get (i := 6) rfl)⟩) (hF.get (i := 3) rfl)) ?_
      rintro _ w6 hE ⟨A8, n8, c8, rfl, H'⟩
      have H := hcl H'
      refine Wsn rfl rfl rfl rfl ?_
      refine CW.reg ?_
      refine Wmv rfl rfl rfl rfl (WL.ev rfl rfl (Ev.bin rfl rfl rfl (Bin.addN (a := k2) (b := 1) rfl (i64_succN hk4 hl2.2))) (Wsn rfl rfl rfl rfl ?_))
      obtain rfl := sm hb2
      exact ⟨⟨k2 + 1, y3, (.slice A8 n8 c8)⟩, ⟨rfl, rfl, rfl, trivial⟩, ⟨hk4, hq2, H.out (fun _ h => (h.keep 3).app ⟨h.get (i := 7) rfl, trivial⟩) (List.take_sublist 1 [It.B b1 86 [.int .i64 a0.Kind, .int .i64 a0.N, .int .i64 a0.Pos, .int .i64 a0.Type_, .string a0.Symbol, .string a0.Name, .slice A1 n1 c1]])⟩, Nat.sub_lt_sub_left hk4 (Nat.lt_succ_self _)⟩
    · obtain rfl := eachL_end hq2 (not_cast_lt h3)
      refine CW.exit ?_
      refine Sreg ?_
      refine Wmv rfl rfl rfl rfl (Wsn rfl rfl rfl rfl ?_)
      refine CW.ret ?_
      obtain rfl := sm hr
      exact ⟨_, res1 rfl rfl rfl, H.ext0, _, _, _, rfl, H.outM (fr' := [Pr.S s2 (.slice A6 n6 c6)]) [false] fun _ h => ⟨h.get (i := 3) rfl, trivial⟩⟩
noncomputable def sl4Uses_n : Nat → Expr → (List Occurrence) → Option (List Occurrence)
  | 0, _, _ => none
  | n + 1, a0, a1 => sl4Uses_B (sl4Uses_n n) a0 a1
noncomputable def sl4Uses_m (a0 : Expr) (a1 : (List Occurrence)) : Option (List Occurrence) := recO fun n => sl4Uses_n n a0 a1
theorem sl4Uses_okn (n : Nat) : ∀ {a0 : Expr} {a1 : (List Occurrence)} {r : (List Occurrence)}, sl4Uses_n n a0 a1 = some r → ∀ {F0 : Nat → Prop} {w0 : World} {ca0 : List Value} (ha0 : rd F0 w0 a0 ca0) {z1 : Value} (ha1 : rdS F0 w0 a1 z1), Ret Tryz.prog 115 #[.agg ca0.toArray, z1] w0 (fun _ => False) fun v w => ∃ A0 : Option Addr, ∃ n0 c0 : Nat, v = (.slice A0 n0 c0) ∧ HL F0 [] w0 w [Pr.S r (.slice A0 n0 c0)] [] := by
  induction n with
  | zero => intro a0 a1 r hr; exact nomatch (show (none : Option (List Occurrence)) = some r from hr)
  | succ n ih => intro a0 a1 r hr; exact sl4Uses_okB ih hr
theorem sl4Uses_ok {a0 : Expr} {a1 : (List Occurrence)} {r : (List Occurrence)} (hr : sl4Uses_m a0 a1 = some r) {F0 : Nat → Prop} {w0 : World} {ca0 : List Value} (ha0 : rd F0 w0 a0 ca0) {z1 : Value} (ha1 : rdS F0 w0 a1 z1) :
    Ret Tryz.prog 115 #[.agg ca0.toArray, z1] w0 (fun _ => False) fun v w => ∃ A0 : Option Addr, ∃ n0 c0 : Nat, v = (.slice A0 n0 c0) ∧ HL F0 [] w0 w [Pr.S r (.slice A0 n0 c0)] [] := by
  obtain ⟨n, hn⟩ := recO_some hr
  exact sl4Uses_okn n hn ha0 ha1

noncomputable def sAttributeUses_m (a0 : Expr) : Option (List Occurrence) :=
  (sl4Uses_m a0 []).bind fun y1 =>
  some y1
theorem sAttributeUses_ok {a0 : Expr} {r : (List Occurrence)} (hr : sAttributeUses_m a0 = some r) {F0 : Nat → Prop} {w0 : World} {ca0 : List Value} (ha0 : rd F0 w0 a0 ca0) :
    Ret Tryz.prog 46 #[.agg ca0.toArray] w0 (fun _ => False) fun v w => ∃ A0 : Option Addr, ∃ n0 c0 : Nat, v = (.slice A0 n0 c0) ∧ HL F0 [] w0 w [Pr.S r (.slice A0 n0 c0)] [] := by
  have H := (HL.start F0 w0).argR ha0
  obtain ⟨A1, n1, c1, rfl, hI1, hI2, hI3, hI4, hS1, hS2, H⟩ := op_Expr H (i := 0) rfl
  refine enter Tryz.func46 rfl rfl rfl ?_
  refine Sreg ?_
  refine WL.boxH rfl rfl rfl rfl rfl H fun b1 w1 H => ?_
  refine Wsn rfl rfl rfl rfl ?_
  refine Sreg ?_
  refine WL.ev rfl rfl (Ev.lda rfl ag86 sz86 rfl (At.blk (H.rB (i := 0) rfl)) rfl) ?_
  refine WL.lit0H (α := Occurrence) rfl rfl rfl el76 sz90 H fun A2 n2 c2 w2 H => ?_
  have H := H.frzO (i := 1) rfl
  obtain ⟨y1, hy1, hr⟩ := bd hr
  obtain ⟨F, hF, hcl⟩ := H.call
  refine WL.call rfl rfl rfl rfl rfl ok115 rfl (sl4Uses_ok hy1 (Expr_rd.2 ⟨_, rfl, hI1, hI2, hI3, hI4, hS1, hS2, (hF.get (i := 1) rfl)⟩) (hF.get (i := 2) rfl)) ?_
  rintro _ w3 hE ⟨A3, n3, c3, rfl, H'⟩
  have H := hcl H'
  refine Wsn rfl rfl rfl rfl ?_
  refine CW.ret ?_
  obtain rfl := sm hr
  exact ⟨_, res1 rfl rfl rfl, H.ext0, _, _, _, rfl, H.outM (fr' := [Pr.S y1 (.slice A3 n3 c3)]) [false, false] fun _ h => ⟨h.get (i := 3) rfl, trivial⟩⟩

noncomputable def iwithin_m (a0 : Int) (a1 : Int) (a2 : Int) : Option Bool :=
  if a1 ≤ a0 then (
  some (decide (a0 ≤ a2))
  ) else (
  some false
  )
theorem iwithin_ok {a0 : Int} {a1 : Int} {a2 : Int} {r : Bool} (hr : iwithin_m a0 a1 a2 = some r) {F0 : Nat → Prop} {w0 : World} (ha0 : I64 a0) (ha1 : I64 a1) (ha2 : I64 a2) :
    Ret Tryz.prog 117 #[.int .i64 a0, .int .i64 a1, .int .i64 a2] w0 (fun _ => False) fun v w => v = .bool r := by
  have H := HL.start F0 w0
  refine enter Tryz.func117 rfl rfl rfl ?_
  refine Sreg ?_
  refine Wsn rfl rfl rfl rfl ?_
  refine Sreg ?_
  refine Wmv rfl rfl rfl rfl (Wmv rfl rfl rfl rfl (WL.ev rfl rfl (Ev.bin rfl rfl rfl Bin.geq) ?_))
  refine WL.mvD rfl rfl rfl rfl (fun h1 => ?_) (fun h1 => ?_)
  · have hr := ifp h1 hr
    refine WL.on rfl rfl (Wmv rfl rfl rfl rfl (WL.on rfl rfl (Wmv rfl rfl rfl rfl (WL.on rfl rfl (WL.ev rfl rfl (Ev.bin rfl rfl rfl Bin.leq) (WL.ev rfl rfl (Ev.pickT rfl rfl rfl) (Wsn rfl rfl rfl rfl ?_)))))))
    refine CW.ret ?_
    obtain rfl := sm hr
    exact ⟨_, res1 rfl rfl rfl, H.ext0, rfl⟩
  · have hr := ifn h1 hr
    refine WL.off rfl rfl rfl (WL.off rfl rfl rfl (WL.off rfl rfl rfl (WL.ev rfl rfl (Ev.pickF rfl rfl rfl) (Wsn rfl rfl rfl rfl ?_))))
    refine CW.ret ?_
    obtain rfl := sm hr
    exact ⟨_, res1 rfl rfl rfl, H.ext0, rfl⟩

noncomputable def iSymbolAt_m (a0 : Rule) (a1 : Int) : Option ByteArray :=
  if a1 = 0 then (
  some a0.Left
  ) else (
  (iwithin_m a1 1 (a0.Right.length : Int)).bind fun y1 =>
  if y1 = true then (
  grd (I64 (a1 - 1)) <|
  grd (0 ≤ (a1 - 1)) <|
  (a0.Right[(a1 - 1).toNat]?).bind fun x1 =>
  some x1
  ) else (
  some (⟨#[]⟩ : ByteArray)
  )
  )
theorem iSymbolAt_ok {a0 : Rule} {a1 : Int} {r : ByteArray} (hr : iSymbolAt_m a0 a1 = some r) {F0 : Nat → Prop} {w0 : World} {ca0 : List Value} (ha0 : rd F0 w0 a0 ca0) (ha1 : I64 a1) :
    Ret Tryz.prog 111 #[.agg ca0.toArray, .int .i64 a1] w0 (fun _ => False) fun v w => v = .string r ∧ r.size ≤ 9223372036854775807 := by
  have H := (HL.start F0 w0).argR ha0
  obtain ⟨A1, n1, c1, A2, n2, c2, A3, n3, c3, rfl, hS1, hS2, H⟩ := op_Rule H (i := 0) rfl
  refine enter Tryz.func111 rfl rfl rfl ?_
  refine Sreg ?_
  refine WL.boxH rfl rfl rfl rfl rfl H fun b1 w1 H => ?_
  refine Wsn rfl rfl rfl rfl ?_
  refine CW.seq (CW.block (Sreg ?_))
  refine Wmv rfl rfl rfl rfl (WL.ev rfl rfl (Ev.bin rfl rfl rfl Bin.eql) (Wsn rfl rfl rfl rfl ?_))
  refine CW.condD rfl (fun h1 => ?_) (fun h1 => ?_)
  · have hr := ifp h1 hr
    refine Sreg ?_
    refine Wfa rfl rfl rfl fo45_1 rfl (WL.ev rfl rfl (Ev.ld rfl ag9 rfl ((H.rB (i := 0) rfl).cell rfl)) (Wsn rfl rfl rfl rfl ?_))
    refine CW.ret ?_
    obtain rfl := sm hr
    exact ⟨_, res1 rfl rfl rfl, H.ext0, rfl, hS2⟩
  · have hr := ifn h1 hr
    refine Sreg ?_
    refine Wmv rfl rfl rfl rfl (Wfa rfl rfl rfl fo45_2 rfl (WL.ev rfl rfl (Ev.ld rfl ag26 rfl ((H.rB (i := 0) rfl).cell rfl)) ?_))
    have hl1 := (H.rS (i := 1) rfl).I
    refine WL.ev rfl rfl (Ev.lenV rfl el26 rfl (H.rS (i := 1) rfl)) ?_
    obtain ⟨y1, hy1, hr⟩ := bd hr
    refine WL.call rfl rfl rfl rfl rfl ok117 rfl (iwithin_ok hy1 (F0 := fun _ => False) ha1 (by decide : I64 1) hl1) ?_
    rintro _ w2 hE rfl
    have H := H.ext hE
    refine Wsn rfl rfl rfl rfl ?_
    refine CW.condB rfl (fun h2 => ?_) (fun h2 => ?_)
    · have hr := ifp h2 hr
      refine Sreg ?_
      refine Wfa rfl rfl rfl fo45_2 rfl (WL.ev rfl rfl (Ev.ld rfl ag26 rfl ((H.rB (i := 0) rfl).cell rfl)) (Wmv rfl rfl rfl rfl ?_))
      obtain ⟨hg1, hr⟩ := grd_some hr
      refine WL.ev rfl rfl (Ev.bin rfl rfl rfl (Bin.sub hg1)) ?_
      obtain ⟨hg2, hr⟩ := grd_some hr
      obtain ⟨x1, hx1, hr⟩ := bd hr
      obtain ⟨b2, ob2, cb2, hvb2, hS3, H⟩ := ixS_Str H (i := 1) rfl hx1
      refine WL.ev rfl rfl (Ev.ixV rfl el26 sz9 rfl hvb2 rfl hg2 (lt_of hx1)) (WL.ev rfl rfl (Ev.ld rfl ag9 rfl ((H.rA (i := 4) rfl).cell0 rfl)) (Wsn rfl rfl rfl rfl ?_))
      refine CW.ret ?_
      obtain rfl := sm hr
      exact ⟨_, res1 rfl rfl rfl, H.ext0, rfl, hS3⟩
    · have hr := ifn h2 hr
      refine CW.skip ?_
      refine Sreg ?_
      refine Wsn rfl rfl rfl rfl ?_
      refine CW.ret ?_
      obtain rfl := sm hr
      exact ⟨_, res1 rfl rfl rfl, H.ext0, rfl, (by decide)⟩

noncomputable def ifindSymbol_L1 (a1 : ByteArray) : Nat → Symbol → Unit → Option (Unit ⊕ (Symbol × Bool)) := fun k1 x1 _ => 
  if x1.Name = a1 then (
  some (.inr (x1, true))
  ) else (
  some (.inl ())
  )
noncomputable def ifindSymbol_m (a0 : Grammar) (a1 : ByteArray) : Option (Symbol × Bool) :=
  (findL (ifindSymbol_L1 a1) 0 a0.Symbols ()).bind <| onr (fun r1 => some r1) fun _ =>
  some ((⟨(⟨#[]⟩ : ByteArray), []⟩ : Symbol), false)
theorem ifindSymbol_ok {a0 : Grammar} {a1 : ByteArray} {r : (Symbol × Bool)} (hr : ifindSymbol_m a0 a1 = some r) {F0 : Nat → Prop} {w0 : World} {ca0 : List Value} (ha0 : rd F0 w0 a0 ca0) (ha1 : a1.size ≤ 9223372036854775807) :
    Ret Tryz.prog 113 #[.agg ca0.toArray, .string a1] w0 (fun _ => False) fun v w => ∃ A0 : Option Addr, ∃ n0 c0 : Nat, v = .tuple #[.agg #[.string r.1.Name, (.slice A0 n0 c0)], .bool r.2] ∧ r.1.Name.size ≤ 9223372036854775807 ∧ HL F0 [] w0 w [Pr.S r.1.Attributes (.slice A0 n0 c0)] [] := by
  have H := (HL.start F0 w0).argR ha0
  obtain ⟨A1, n1, c1, A2, n2, c2, rfl, H⟩ := op_Grammar H (i := 0) rfl
  refine enter Tryz.func113 rfl rfl rfl ?_
  refine Sreg ?_
  refine WL.boxH rfl rfl rfl rfl rfl H fun b1 w1 H => ?_
  refine WL.allocH rfl rfl rfl ze161 H fun b2 w2 H => ?_
  refine Wsn rfl rfl rfl rfl ?_
  refine SSr ?_
  refine Wfa rfl rfl rfl fo40_0 rfl (WL.ev rfl rfl (Ev.ld rfl ag37 rfl ((H.rB (i := 0) rfl).cell rfl)) ?_)
  have hl1 := (H.rS (i := 1) rfl).I
  refine WL.ev rfl rfl (Ev.lenV rfl el37 rfl (H.rS (i := 1) rfl)) (Wmv rfl rfl rfl rfl (WL.nil ?_))
  obtain ⟨q1, hq1, hr⟩ := bd hr
  refine CW.block (CW.loop (α := Nat) (fun k1 => [(1, .string a1), (4, .pointer (some ⟨b2, 0, none⟩)), (9, .slice A1 n1 c1), (10, .int .i64 (a0.Symbols.length : Int)), (11, .int .i64 (k1 : Int))]) (fun k1 w => k1 ≤ a0.Symbols.length ∧ findL (ifindSymbol_L1 a1) k1 (a0.Symbols.drop k1) () = some q1 ∧ HL F0 [] w0 w [Pr.R a0 [.slice A1 n1 c1, .slice A2 n2 c2], Pr.S a0.Symbols (.slice A1 n1 c1), Pr.S a0.Rules (.slice A2 n2 c2)] [It.B b1 40 [.slice A1 n1 c1, .slice A2 n2 c2], It.B b2 161 [.string (⟨#[]⟩ : ByteArray), .slice none 0 0]]) (fun k1 => a0.Symbols.length - k1) 0 ⟨rfl, rfl, rfl, rfl, rfl, trivial⟩ ⟨Nat.zero_le _, hq1, H.keep 3 2⟩ ?_)
  rintro k1 σ w3 ⟨hk1, hq1, H⟩
  refine Sreg ?_
  refine WL.ev rfl rfl (Ev.bin rfl rfl rfl Bin.lss) (WL.nil ?_)
  refine CW.seq (CW.condD rfl (fun h1 => ?_) (fun h1 => ?_))
  · have hk2 := cast_lt h1
    obtain ⟨x1, z1, hx1, hb1, hs1, ht1⟩ := findL_go hq1 hk2
    refine CW.skip ?_
    refine CW.seq (CW.block (Sreg ?_))
    obtain ⟨b3, ob3, cb3, A3, n3, c3, hvb3, hS1, H⟩ := ixS_Symbol H (i := 1) rfl hx1
    refine WL.ev rfl rfl (Ev.ixVN rfl el37 sz161 rfl hvb3 rfl (lt_of hx1)) (WL.ev rfl rfl (Ev.lda rfl ag161 sz161 rfl (H.rA (i := 3) rfl) rfl) ?_)
    refine WL.allocH rfl rfl rfl ze161 H fun b4 w4 H => ?_
    refine WL.stB (i := 2) rfl rfl rfl sz161 rfl rfl rfl rfl (all1 rfl (all1 rfl all0)) H rfl rfl rfl fun w5 H => ?_
    refine WL.nil ?_
    refine Sreg ?_
    refine Wfa rfl rfl rfl fo161_0 rfl (WL.ev rfl rfl (Ev.ld rfl ag9 rfl ((H.rB (i := 2) rfl).cell rfl)) (Wmv rfl rfl rfl rfl (WL.ev rfl rfl (Ev.bin rfl rfl rfl Bin.eqlS) (WL.nil ?_))))
    refine CW.condD rfl (fun h2 => ?_) (fun h2 => ?_)
    · have hb1 := ifp h2 hb1
      refine Sreg ?_
      refine WL.ev rfl rfl (Ev.lda rfl ag161 sz161 rfl (At.blk (H.rB (i := 2) rfl)) rfl) ?_
      refine WL.stB (i := 1) rfl rfl rfl sz161 rfl rfl rfl rfl (all1 rfl (all1 rfl all0)) H rfl rfl rfl fun w6 H => ?_
      refine Wsn rfl rfl rfl rfl ?_
      refine CW.ret ?_
      obtain rfl := sm hb1
      obtain rfl := ht1 _ rfl
      obtain rfl := sm hr
      exact ⟨_, resC1 rfl ag161 sz161 rfl rfl rfl rfl (At.blk (H.rB (i := 1) rfl)) rfl, H.ext0, _, _, _, rfl, hS1, H.outM (fr' := [Pr.S x1.Attributes (.slice A3 n3 c3)]) [false, false, false] fun _ h => ⟨h.get (i := 5) rfl, trivial⟩⟩
    · have hb1 := ifn h2 hb1
      refine CW.skip ?_
      refine CW.reg ?_
      refine WL.ev rfl rfl (Ev.bin rfl rfl rfl (Bin.addN (a := k1) (b := 1) rfl (i64_succN hk2 hl1.2))) (Wmv rfl rfl rfl rfl (WL.nil ?_))
      obtain rfl := sm hb1
      have hq1 := hs1 _ rfl
      exact ⟨(k1 + 1), ⟨rfl, rfl, rfl, rfl, rfl, trivial⟩, ⟨hk2, hq1, H.keep 3 2⟩, Nat.sub_lt_sub_left hk2 (Nat.lt_succ_self _)⟩
  · obtain rfl := findL_end hq1 (not_cast_lt h1)
    have hr := (onr_inl _ _ _).symm.trans hr
    refine CW.exit ?_
    refine Sreg ?_
    refine WL.ev rfl rfl (Ev.build rfl pl161 ze161 rfl rfl rfl rfl) ?_
    refine WL.stB (i := 1) rfl rfl rfl sz161 rfl rfl rfl rfl (all1 rfl (all1 rfl all0)) H rfl rfl rfl fun w7 H => ?_
    refine Wsn rfl rfl rfl rfl ?_
    refine CW.ret ?_
    have H := H.nilS (α := Attribute)
    obtain rfl := sm hr
    exact ⟨_, resC1 rfl ag161 sz161 rfl rfl rfl rfl (At.blk (H.rB (i := 1) rfl)) rfl, H.ext0, _, _, _, rfl, (by decide), H.outM (fr' := [Pr.S ([] : List Attribute) (.slice none 0 0)]) [false, false] fun _ h => ⟨h.get (i := 3) rfl, trivial⟩⟩

noncomputable def icopyExpr_L1 (rec_icopyExpr : Expr → Option Expr) : Nat → Expr → (List Expr) → Option (List Expr) := fun k1 x1 s1 => 
  (rec_icopyExpr x1).bind fun y1 =>
  grd (((s1.length : Int) + 1) * 88 ≤ 140737488355328 ∧ (s1.length : Int) + 1 ≤ 9223372036854775807) <|
  some (s1 ++ [y1])
noncomputable def icopyExpr_B (rec_icopyExpr : Expr → Option Expr) (a0 : Expr) : Option Expr :=
  (eachL (icopyExpr_L1 rec_icopyExpr) 0 a0.Args ([] : List Expr)).bind fun s1 =>
  some (⟨a0.Kind, a0.N, a0.Pos, a0.Type_, a0.Symbol, a0.Name, s1⟩ : Expr)
theorem icopyExpr_okB {rec_icopyExpr : Expr → Option Expr} (ih_icopyExpr : ∀ {a0 : Expr} {r : Expr}, rec_icopyExpr a0 = some r → ∀ {F0 : Nat → Prop} {w0 : World} {ca0 : List Value} (ha0 : rd F0 w0 a0 ca0), Ret Tryz.prog 125 #[.agg ca0.toArray] w0 (fun _ => False) fun v w => ∃ A0 : Option Addr, ∃ n0 c0 : Nat, v = .agg #[.int .i64 r.Kind, .int .i64 r.N, .int .i64 r.Pos, .int .i64 r.Type_, .string r.Symbol, .string r.Name, (.slice A0 n0 c0)] ∧ I64 r.Kind ∧ I64 r.N ∧ I64 r.Pos ∧ I64 r.Type_ ∧ r.Symbol.size ≤ 9223372036854775807 ∧ r.Name.size ≤ 9223372036854775807 ∧ HL F0 [] w0 w [Pr.S r.Args (.slice A0 n0 c0)] []) {a0 : Expr} {r : Expr} (hr : icopyExpr_B rec_icopyExpr a0 = some r) {F0 : Nat → Prop} {w0 : World} {ca0 : List Value} (ha0 : rd F0 w0 a0 ca0) :
    Ret Tryz.prog 125 #[.agg ca0.toArray] w0 (fun _ => False) fun v w => ∃ A0 : Option Addr, ∃ n0 c0 : Nat, v = .agg #[.int .i64 r.Kind, .int .i64 r.N, .int .i64 r.Pos, .int .i64 r.Type_, .string r.Symbol, .string r.Name, (.slice A0 n0 c0)] ∧ I64 r.Kind ∧ I64 r.N ∧ I64 r.Pos ∧ I64 r.Type_ ∧ r.Symbol.size ≤ 9223372036854775807 ∧ r.Name.size ≤ 9223372036854775807 ∧ HL F0 [] w0 w [Pr.S r.Args (.slice A0 n0 c0)] [] := by
  have H := (HL.start F0 w0).argR ha0
  obtain ⟨A1, n1, c1, rfl, hI1, hI2, hI3, hI4, hS1, hS2, H⟩ := op_Expr H (i := 0) rfl
  refine enter Tryz.func125 rfl rfl rfl ?_
  refine Sreg ?_
  refine WL.boxH rfl rfl rfl rfl rfl H fun b1 w1 H => ?_
  refine WL.allocH rfl rfl rfl ze86 H fun b2 w2 H => ?_
  refine WL.nil ?_
  refine Sreg ?_
  refine Wsn rfl rfl rfl rfl ?_
  refine SSr ?_
  refine Wfa rfl rfl rfl fo86_6 rfl (WL.ev rfl rfl (Ev.ld rfl ag84 rfl ((H.rB (i := 0) rfl).cell rfl)) ?_)
  have hl1 := (H.rS (i := 1) rfl).I
  refine WL.ev rfl rfl (Ev.lenV rfl el84 rfl (H.rS (i := 1) rfl)) (Wmv rfl rfl rfl rfl (WL.nil ?_))
  have H := H.nilG (α := Expr) 86
  obtain ⟨q1, hq1, hr⟩ := bd hr
  refine CW.block (CW.loop (α := Nat × (List Expr) × Value) (fun ⟨k1, s1, v1⟩ => [(1, .pointer (some ⟨b1, 0, none⟩)), (2, .pointer (some ⟨b2, 0, none⟩)), (3, v1), (7, .slice A1 n1 c1), (8, .int .i64 (a0.Args.length : Int)), (9, .int .i64 (k1 : Int))]) (fun ⟨k1, s1, v1⟩ w => k1 ≤ a0.Args.length ∧ eachL (icopyExpr_L1 rec_icopyExpr) k1 (a0.Args.drop k1) s1 = some q1 ∧ HL F0 [] w0 w [Pr.R a0 [.int .i64 a0.Kind, .int .i64 a0.N, .int .i64 a0.Pos, .int .i64 a0.Type_, .string a0.Symbol, .string a0.Name, .slice A1 n1 c1], Pr.S a0.Args (.slice A1 n1 c1)] [It.B b1 86 [.int .i64 a0.Kind, .int .i64 a0.N, .int .i64 a0.Pos, .int .i64 a0.Type_, .string a0.Symbol, .string a0.Name, .slice A1 n1 c1], It.B b2 86 [.int .i64 0, .int .i64 0, .int .i64 0, .int .i64 0, .string (⟨#[]⟩ : ByteArray), .string (⟨#[]⟩ : ByteArray), .slice none 0 0], It.G 86 s1 v1]) (fun ⟨k1, s1, v1⟩ => a0.Args.length - k1) ⟨0, ([] : List Expr), (.slice none 0 0)⟩ ⟨rfl, rfl, rfl, rfl, rfl, rfl, trivial⟩ ⟨Nat.zero_le _, hq1, H.keep 2 3⟩ ?_)
  rintro ⟨k1, s1, v1⟩ σ w3 ⟨hk1, hq1, H⟩
  obtain ⟨A2, n2, c2, rfl⟩ := (H.rG (i := 2) rfl).form3
  refine Sreg ?_
  refine WL.ev rfl rfl (Ev.bin rfl rfl rfl Bin.lss) (WL.nil ?_)
  refine CW.seq (CW.condD rfl (fun h1 => ?_) (fun h1 => ?_))
  · have hk2 := cast_lt h1
    obtain ⟨x1, z1, hx1, hb1, hq1⟩ := eachL_go hq1 hk2
    refine CW.skip ?_
    refine CW.seq (CW.block (Sreg ?_))
    obtain ⟨b3, ob3, cb3, A3, n3, c3, hvb3, hI5, hI6, hI7, hI8, hS3, hS4, H⟩ := ixS_Expr H (i := 1) rfl hx1
    refine WL.ev rfl rfl (Ev.ixVN rfl el84 sz86 rfl hvb3 rfl (lt_of hx1)) (WL.ev rfl rfl (Ev.lda rfl ag86 sz86 rfl (H.rA (i := 2) rfl) rfl) ?_)
    refine WL.allocH rfl rfl rfl ze86 H fun b4 w4 H => ?_
    refine WL.stB (i := 3) rfl rfl rfl sz86 rfl rfl rfl rfl (all1 rfl (all1 rfl (all1 rfl (all1 rfl (all1 rfl (all1 rfl (all1 rfl all0))))))) H rfl rfl rfl fun w5 H => ?_
    refine WL.nil ?_
    refine CW.reg ?_
    refine Wmv rfl rfl rfl rfl (WL.ev rfl rfl (Ev.lda rfl ag86 sz86 rfl (At.blk (H.rB (i := 3) rfl)) rfl) ?_)
    obtain ⟨y1, hy1, hb1⟩ := bd hb1
    obtain ⟨F, hF, hcl⟩ := H.call
    refine WL.call rfl rfl rfl rfl rfl ok125 rfl (ih_icopyExpr hy1 (Expr_rd.2 ⟨_, rfl, hI5, hI6, hI7, hI8, hS3, hS4, (hF.get (i := 4) rfl)⟩)) ?_
    rintro _ w6 hE ⟨A4, n4, c4, rfl, hI9, hI10, hI11, hI12, hS5, hS6, H'⟩
    have H := hcl H'
    refine WL.lit1 rfl rfl rfl el84 sz86 ze86 rfl rfl rfl rfl rfl rfl fun b5 w7 hE hb hB => ?_
    have H := H.newB hE hb hB
    obtain ⟨hg1, hb1⟩ := grd_some hb1
    refine WL.appG (i := 2) (ys := [y1]) rfl rfl rfl el84 sz86 by86 ze86 rfl rfl rfl H rfl (fun F hF => rdL.single (Expr_rd.2 ⟨_, rfl, hI9, hI10, hI11, hI12, hS5, hS6, (hF.get (i := 5) rfl)⟩)) (.inr ⟨_, _, rfl, At.blk (H.rB (i := 4) rfl)⟩) hg1 fun A5 n5 c5 w8 H => ?_
    refine Wsn rfl rfl rfl rfl ?_
    refine CW.reg ?_
    refine WL.ev rfl rfl (Ev.bin rfl rfl rfl (Bin.addN (a := k1) (b := 1) rfl (i64_succN hk2 hl1.2))) (Wmv rfl rfl rfl rfl (WL.nil ?_))
    obtain rfl := sm hb1
    exact ⟨⟨k1 + 1, (s1 ++ [y1]), (.slice A5 n5 c5)⟩, ⟨rfl, rfl, rfl, rfl, rfl, rfl, trivial⟩, ⟨hk2, hq1, H.keep 2 3⟩, Nat.sub_lt_sub_left hk2 (Nat.lt_succ_self _)⟩
  · obtain rfl := eachL_end hq1 (not_cast_lt h1)
    refine CW.exit ?_
    refine Sreg ?_
    refine Wmv rfl rfl rfl rfl (Wfa rfl rfl rfl fo86_6 rfl ?_)
    refine WL.stB (i := 0) rfl rfl rfl sz84 rfl rfl rfl rfl (all1 rfl all0) H rfl rfl rfl fun w9 H => ?_
    refine WL.nil ?_
    refine Sreg ?_
    refine WL.ev rfl rfl (Ev.lda rfl ag86 sz86 rfl (At.blk (H.rB (i := 0) rfl)) rfl) ?_
    refine WL.stB (i := 1) rfl rfl rfl sz86 rfl rfl rfl rfl (all1 rfl (all1 rfl (all1 rfl (all1 rfl (all1 rfl (all1 rfl (all1 rfl all0))))))) H rfl rfl rfl fun w10 H => ?_
    refine WL.nil ?_
    refine CW.ret ?_
    have H := H.frzG (i := 2) rfl
    obtain rfl := sm hr
    exact ⟨_, resC rfl ag86 sz86 rfl rfl (At.blk (H.rB (i := 1) rfl)) rfl, H.ext0, _, _, _, rfl, hI1, hI2, hI3, hI4, hS1, hS2, H.outM (fr' := [Pr.S s1 (.slice A2 n2 c2)]) [false, false, false] fun _ h => ⟨h.get (i := 2) rfl, trivial⟩⟩
noncomputable def icopyExpr_n : Nat → Expr → Option Expr
  | 0, _ => none
  | n + 1, a0 => icopyExpr_B (icopyExpr_n n) a0
noncomputable def icopyExpr_m (a0 : Expr) : Option Expr := recO fun n => icopyExpr_n n a0
theorem icopyExpr_okn (n : Nat) : ∀ {a0 : Expr} {r : Expr}, icopyExpr_n n a0 = some r → ∀ {F0 : Nat → Prop} {w0 : World} {ca0 : List Value} (ha0 : rd F0 w0 a0 ca0), Ret Tryz.prog 125 #[.agg ca0.toArray] w0 (fun _ => False) fun v w => ∃ A0 : Option Addr, ∃ n0 c0 : Nat, v = .agg #[.int .i64 r.Kind, .int .i64 r.N, .int .i64 r.Pos, .int .i64 r.Type_, .string r.Symbol, .string r.Name, (.slice A0 n0 c0)] ∧ I64 r.Kind ∧ I64 r.N ∧ I64 r.Pos ∧ I64 r.Type_ ∧ r.Symbol.size ≤ 9223372036854775807 ∧ r.Name.size ≤ 9223372036854775807 ∧ HL F0 [] w0 w [Pr.S r.Args (.slice A0 n0 c0)] [] := by
  induction n with
  | zero => intro a0 r hr; exact nomatch (show (none : Option Expr) = some r from hr)
  | succ n ih => intro a0 r hr; exact icopyExpr_okB ih hr
theorem icopyExpr_ok {a0 : Expr} {r : Expr} (hr : icopyExpr_m a0 = some r) {F0 : Nat → Prop} {w0 : World} {ca0 : List Value} (ha0 : rd F0 w0 a0 ca0) :
    Ret Tryz.prog 125 #[.agg ca0.toArray] w0 (fun _ => False) fun v w => ∃ A0 : Option Addr, ∃ n0 c0 : Nat, v = .agg #[.int .i64 r.Kind, .int .i64 r.N, .int .i64 r.Pos, .int .i64 r.Type_, .string r.Symbol, .string r.Name, (.slice A0 n0 c0)] ∧ I64 r.Kind ∧ I64 r.N ∧ I64 r.Pos ∧ I64 r.Type_ ∧ r.Symbol.size ≤ 9223372036854775807 ∧ r.Name.size ≤ 9223372036854775807 ∧ HL F0 [] w0 w [Pr.S r.Args (.slice A0 n0 c0)] [] := by
  obtain ⟨n, hn⟩ := recO_some hr
  exact icopyExpr_okn n hn ha0

noncomputable def iFindEquation_L1 (a1 : Occurrence) : Nat → Equation → Unit → Option (Unit ⊕ (Expr × Bool)) := fun k1 x1 _ => 
  if x1.At = a1 then (
  (icopyExpr_m x1.Expr).bind fun y1 =>
  some (.inr (y1, true))
  ) else (
  some (.inl ())
  )
noncomputable def iFindEquation_m (a0 : Rule) (a1 : Occurrence) : Option (Expr × Bool) :=
  (findL (iFindEquation_L1 a1) 0 a0.Equations ()).bind <| onr (fun r1 => some r1) fun _ =>
  some ((⟨0, 0, 0, 0, (⟨#[]⟩ : ByteArray), (⟨#[]⟩ : ByteArray), []⟩ : Expr), false)
theorem iFindEquation_ok {a0 : Rule} {a1 : Occurrence} {r : (Expr × Bool)} (hr : iFindEquation_m a0 a1 = some r) {F0 : Nat → Prop} {w0 : World} {ca0 : List Value} (ha0 : rd F0 w0 a0 ca0) {ca1 : List Value} (ha1 : rd F0 w0 a1 ca1) :
    Ret Tryz.prog 62 #[.agg ca0.toArray, .agg ca1.toArray] w0 (fun _ => False) fun v w => ∃ A0 : Option Addr, ∃ n0 c0 : Nat, v = .tuple #[.agg #[.int .i64 r.1.Kind, .int .i64 r.1.N, .int .i64 r.1.Pos, .int .i64 r.1.Type_, .string r.1.Symbol, .string r.1.Name, (.slice A0 n0 c0)], .bool r.2] ∧ I64 r.1.Kind ∧ I64 r.1.N ∧ I64 r.1.Pos ∧ I64 r.1.Type_ ∧ r.1.Symbol.size ≤ 9223372036854775807 ∧ r.1.Name.size ≤ 9223372036854775807 ∧ HL F0 [] w0 w [Pr.S r.1.Args (.slice A0 n0 c0)] [] := by
  have H := ((HL.start F0 w0).argR ha0).argR ha1
  obtain ⟨A1, n1, c1, A2, n2, c2, A3, n3, c3, rfl, hS1, hS2, H⟩ := op_Rule H (i := 0) rfl
  obtain ⟨rfl, hI1, hS3, H⟩ := op_Occurrence H (i := 1) rfl
  refine enter Tryz.func62 rfl rfl rfl ?_
  refine Sreg ?_
  refine WL.boxH rfl rfl rfl rfl rfl H fun b1 w1 H => ?_
  refine WL.boxH rfl rfl rfl rfl rfl H fun b2 w2 H => ?_
  refine WL.allocH rfl rfl rfl ze86 H fun b3 w3 H => ?_
  refine Wsn rfl rfl rfl rfl ?_
  refine SSr ?_
  refine Wfa rfl rfl rfl fo45_4 rfl (WL.ev rfl rfl (Ev.ld rfl ag42 rfl ((H.rB (i := 0) rfl).cell rfl)) ?_)
  have hl1 := (H.rS (i := 3) rfl).I
  refine WL.ev rfl rfl (Ev.lenV rfl el42 rfl (H.rS (i := 3) rfl)) (Wmv rfl rfl rfl rfl (WL.nil ?_))
  obtain ⟨q1, hq1, hr⟩ := bd hr
  refine CW.block (CW.loop (α := Nat) (fun k1 => [(3, .pointer (some ⟨b2, 0, none⟩)), (4, .pointer (some ⟨b3, 0, none⟩)), (9, .slice A2 n2 c2), (10, .int .i64 (a0.Equations.length : Int)), (11, .int .i64 (k1 : Int))]) (fun k1 w => k1 ≤ a0.Equations.length ∧ findL (iFindEquation_L1 a1) k1 (a0.Equations.drop k1) () = some q1 ∧ HL F0 [] w0 w [Pr.R a0 [.string a0.Name, .string a0.Left, .slice A1 n1 c1, .bool a0.Literal, .slice A2 n2 c2, .slice A3 n3 c3], Pr.R a1 [.int .i64 a1.Pos, .string a1.Name], Pr.S a0.Right (.slice A1 n1 c1), Pr.S a0.Equations (.slice A2 n2 c2), Pr.S a0.Contributions (.slice A3 n3 c3)] [It.B b1 45 [.string a0.Name, .string a0.Left, .slice A1 n1 c1, .bool a0.Literal, .slice A2 n2 c2, .slice A3 n3 c3], It.B b2 90 [.int .i64 a1.Pos, .string a1.Name], It.B b3 86 [.int .i64 0, .int .i64 0, .int .i64 0, .int .i64 0, .string (⟨#[]⟩ : ByteArray), .string (⟨#[]⟩ : ByteArray), .slice none 0 0]]) (fun k1 => a0.Equations.length - k1) 0 ⟨rfl, rfl, rfl, rfl, rfl, trivial⟩ ⟨Nat.zero_le _, hq1, H.keep 5 3⟩ ?_)
  rintro k1 σ w4 ⟨hk1, hq1, H⟩
  refine Sreg ?_
  refine WL.ev rfl rfl (Ev.bin rfl rfl rfl Bin.lss) (WL.nil ?_)
  refine CW.seq (CW.condD rfl (fun h1 => ?_) (fun h1 => ?_))
  · have hk2 := cast_lt h1
    obtain ⟨x1, z1, hx1, hb1, hs1, ht1⟩ := findL_go hq1 hk2
    refine CW.skip ?_
    refine CW.seq (CW.block (Sreg ?_))
    obtain ⟨b4, ob4, cb4, A4, n4, c4, hvb4, hI2, hS4, hI3, hI4, hI5, hI6, hS5, hS6, H⟩ := ixS_Equation H (i := 3) rfl hx1
    refine WL.ev rfl rfl (Ev.ixVN rfl el42 sz165 rfl hvb4 rfl (lt_of hx1)) (WL.ev rfl rfl (Ev.lda rfl ag165 sz165 rfl (H.rA (i := 5) rfl) rfl) ?_)
    refine WL.allocH rfl rfl rfl ze165 H fun b5 w5 H => ?_
    refine WL.stB (i := 3) rfl rfl rfl sz165 rfl rfl rfl rfl (all1 rfl (all1 rfl (all1 rfl (all1 rfl (all1 rfl (all1 rfl (all1 rfl (all1 rfl (all1 rfl all0))))))))) H rfl rfl rfl fun w6 H => ?_
    refine WL.nil ?_
    refine Sreg ?_
    refine Wfa rfl rfl rfl fo165_0 rfl (WL.ev rfl rfl (Ev.lda rfl ag90 sz90 rfl (Blk.part (H.rB (i := 3) rfl) 0 2) rfl) (WL.ev rfl rfl (Ev.lda rfl ag90 sz90 rfl (At.blk (H.rB (i := 1) rfl)) rfl) (WL.ev rfl rfl (Ev.bin rfl rfl rfl (Bin.eqlF fl90 (Occurrence_eqF x1.At a1))) (WL.nil ?_))))
    refine CW.condD rfl (fun h2 => ?_) (fun h2 => ?_)
    · have hb1 := ifp h2 hb1
      refine Sreg ?_
      refine Wfa rfl rfl rfl fo165_1 rfl (WL.ev rfl rfl (Ev.lda rfl ag86 sz86 rfl (Blk.part (H.rB (i := 3) rfl) 2 7) rfl) ?_)
      obtain ⟨y1, hy1, hb1⟩ := bd hb1
      obtain ⟨F, hF, hcl⟩ := H.call
      refine WL.call rfl rfl rfl rfl rfl ok125 rfl (icopyExpr_ok hy1 (Expr_rd.2 ⟨_, rfl, hI3, hI4, hI5, hI6, hS5, hS6, (hF.get (i := 7) rfl)⟩)) ?_
      rintro _ w7 hE ⟨A5, n5, c5, rfl, hI7, hI8, hI9, hI10, hS7, hS8, H'⟩
      have H := hcl H'
      refine WL.stB (i := 2) rfl rfl rfl sz86 rfl rfl rfl rfl (all1 rfl (all1 rfl (all1 rfl (all1 rfl (all1 rfl (all1 rfl (all1 rfl all0))))))) H rfl rfl rfl fun w8 H => ?_
      refine Wsn rfl rfl rfl rfl ?_
      refine CW.ret ?_
      obtain rfl := sm hb1
      obtain rfl := ht1 _ rfl
      obtain rfl := sm hr
      exact ⟨_, resC1 rfl ag86 sz86 rfl rfl rfl rfl (At.blk (H.rB (i := 2) rfl)) rfl, H.ext0, _, _, _, rfl, hI7, hI8, hI9, hI10, hS7, hS8, H.outM (fr' := [Pr.S y1.Args (.slice A5 n5 c5)]) [false, false, false, false] fun _ h => ⟨h.get (i := 8) rfl, trivial⟩⟩
    · have hb1 := ifn h2 hb1
      refine CW.skip ?_
      refine CW.reg ?_
      refine WL.ev rfl rfl (Ev.bin rfl rfl rfl (Bin.addN (a := k1) (b := 1) rfl (i64_succN hk2 hl1.2))) (Wmv rfl rfl rfl rfl (WL.nil ?_))
      obtain rfl := sm hb1
      have hq1 := hs1 _ rfl
      exact ⟨(k1 + 1), ⟨rfl, rfl, rfl, rfl, rfl, trivial⟩, ⟨hk2, hq1, H.keep 5 3⟩, Nat.sub_lt_sub_left hk2 (Nat.lt_succ_self _)⟩
  · obtain rfl := findL_end hq1 (not_cast_lt h1)
    have hr := (onr_inl _ _ _).symm.trans hr
    refine CW.exit ?_
    refine Sreg ?_
    refine WL.ev rfl rfl (Ev.build rfl pl86 ze86 rfl rfl rfl rfl) ?_
    refine WL.stB (i := 2) rfl rfl rfl sz86 rfl rfl rfl rfl (all1 rfl (all1 rfl (all1 rfl (all1 rfl (all1 rfl (all1 rfl (all1 rfl all0))))))) H rfl rfl rfl fun w9 H => ?_
    refine Wsn rfl rfl rfl rfl ?_
    refine CW.ret ?_
    have H := H.nilS (α := Expr)
    obtain rfl := sm hr
    exact ⟨_, resC1 rfl ag86 sz86 rfl rfl rfl rfl (At.blk (H.rB (i := 2) rfl)) rfl, H.ext0, _, _, _, rfl, (by decide : I64 0), (by decide : I64 0), (by decide : I64 0), (by decide : I64 0), (by decide), (by decide), H.outM (fr' := [Pr.S ([] : List Expr) (.slice none 0 0)]) [false, false, false] fun _ h => ⟨h.get (i := 5) rfl, trivial⟩⟩

noncomputable def iAttributeUses_1_m (a0 : Expr) (o1 : (List Occurrence)) : Option (Bool × (List Occurrence)) :=
  if a0.Kind = 3 then (
  grd (((o1.length : Int) + 1) * 24 ≤ 140737488355328 ∧ (o1.length : Int) + 1 ≤ 9223372036854775807) <|
  some (true, (o1 ++ [(⟨a0.Pos, a0.Name⟩ : Occurrence)]))
  ) else (
  some (true, o1)
  )
theorem iAttributeUses_1_ok {a0 : Expr} {o1 : (List Occurrence)} {r : (Bool × (List Occurrence))} (hr : iAttributeUses_1_m a0 o1 = some r) {F0 : Nat → Prop} {M : List Nat} {w0 : World} {bo1 : Nat} {Aa0_6 : Option Addr} {na0_6 ca0_6 : Nat} {Ao1_0 : Option Addr} {no1_0 co1_0 : Nat} (hIa0_0 : I64 a0.Kind) (hIa0_1 : I64 a0.N) (hIa0_2 : I64 a0.Pos) (hIa0_3 : I64 a0.Type_) (hIa0_4 : a0.Symbol.size ≤ 9223372036854775807) (hIa0_5 : a0.Name.size ≤ 9223372036854775807) (H : HL F0 M w0 w0 [Pr.S a0.Args (.slice Aa0_6 na0_6 ca0_6)] [It.O 90 o1 (.slice Ao1_0 no1_0 co1_0), It.B bo1 76 [.slice Ao1_0 no1_0 co1_0]]) :
    Ret Tryz.prog 127 #[.agg #[.int .i64 a0.Kind, .int .i64 a0.N, .int .i64 a0.Pos, .int .i64 a0.Type_, .string a0.Symbol, .string a0.Name, .slice Aa0_6 na0_6 ca0_6], .pointer (some ⟨bo1, 0, none⟩)] w0 (· ∈ M) fun v w => ∃ A0 : Option Addr, ∃ n0 c0 : Nat, v = .bool r.1 ∧ HL F0 M w0 w [] [It.O 90 r.2 (.slice A0 n0 c0), It.B bo1 76 [(.slice A0 n0 c0)]] := by
  refine enter Tryz.func127 rfl rfl rfl ?_
  refine Sreg ?_
  refine WL.boxH rfl rfl rfl rfl rfl H fun b1 w1 H => ?_
  refine Wsn rfl rfl rfl rfl ?_
  refine SSr ?_
  refine Wfa rfl rfl rfl fo86_0 rfl (WL.ev rfl rfl (Ev.ld rfl ag3 rfl ((H.rB (i := 2) rfl).cell rfl)) (WL.ev rfl rfl (Ev.bin rfl rfl rfl Bin.eql) (WL.nil ?_)))
  refine CW.condD rfl (fun h1 => ?_) (fun h1 => ?_)
  · have hr := ifp h1 hr
    refine CW.reg ?_
    refine WL.ev rfl rfl (Ev.ld rfl ag76 rfl ((H.rB (i := 1) rfl).cell rfl)) (Wfa rfl rfl rfl fo86_2 rfl (WL.ev rfl rfl (Ev.ld rfl ag3 rfl ((H.rB (i := 2) rfl).cell rfl)) (Wfa rfl rfl rfl fo86_5 rfl (WL.ev rfl rfl (Ev.ld rfl ag9 rfl ((H.rB (i := 2) rfl).cell rfl)) (WL.ev rfl rfl (Ev.build rfl pl90 ze90 rfl rfl rfl rfl) ?_)))))
    refine WL.lit1 rfl rfl rfl el76 sz90 ze90 rfl rfl rfl rfl rfl rfl fun b2 w2 hE hb hB => ?_
    have H := H.newB hE hb hB
    obtain ⟨hg1, hr⟩ := grd_some hr
    refine WL.appO (i := 0) (ys := [(⟨a0.Pos, a0.Name⟩ : Occurrence)]) rfl rfl rfl el76 sz90 by90 ze90 rfl rfl rfl H rfl (fun _ => ownL.single ⟨rfl, hIa0_2, hIa0_5, rfl⟩) (.inr ⟨_, _, rfl, At.blk (H.rB (i := 3) rfl)⟩) hg1 fun A1 n1 c1 w3 H => ?_
    refine WL.stB (i := 1) rfl rfl rfl sz76 rfl rfl rfl rfl (all1 rfl all0) H rfl rfl rfl fun w4 H => ?_
    refine WL.nil ?_
    refine Sreg ?_
    refine Wsn rfl rfl rfl rfl ?_
    refine CW.ret ?_
    obtain rfl := sm hr
    exact ⟨_, res1 rfl rfl rfl, H.chg, _, _, _, rfl, H.outM (fr' := []) [true, true, false, false] fun _ _ => trivial⟩
  · have hr := ifn h1 hr
    refine CW.skip ?_
    refine Sreg ?_
    refine Wsn rfl rfl rfl rfl ?_
    refine CW.ret ?_
    obtain rfl := sm hr
    exact ⟨_, res1 rfl rfl rfl, H.chg, _, _, _, rfl, H.outM (fr' := []) [true, true, false] fun _ _ => trivial⟩

noncomputable def ieveryNode_1_m (rec_ieveryNode_iAttributeUses_1 : Expr → (List Occurrence) → Option (Bool × (List Occurrence))) (a0 : Expr) (o1 : (List Occurrence)) : Option (Bool × (List Occurrence)) :=
  (rec_ieveryNode_iAttributeUses_1 a0 o1).bind fun (y1, z1) =>
  some (!y1, z1)
theorem ieveryNode_1_ok {rec_ieveryNode_iAttributeUses_1 : Expr → (List Occurrence) → Option (Bool × (List Occurrence))} (ih_ieveryNode_iAttributeUses_1 : ∀ {a0 : Expr} {o1 : (List Occurrence)} {r : (Bool × (List Occurrence))}, rec_ieveryNode_iAttributeUses_1 a0 o1 = some r → ∀ {F0 : Nat → Prop} {M : List Nat} {w0 : World} {bo1 : Nat} {Aa0_6 : Option Addr} {na0_6 ca0_6 : Nat} {Ao1_0 : Option Addr} {no1_0 co1_0 : Nat} (hIa0_0 : I64 a0.Kind) (hIa0_1 : I64 a0.N) (hIa0_2 : I64 a0.Pos) (hIa0_3 : I64 a0.Type_) (hIa0_4 : a0.Symbol.size ≤ 9223372036854775807) (hIa0_5 : a0.Name.size ≤ 9223372036854775807) (H : HL F0 M w0 w0 [Pr.S a0.Args (.slice Aa0_6 na0_6 ca0_6)] [It.O 90 o1 (.slice Ao1_0 no1_0 co1_0), It.B bo1 76 [.slice Ao1_0 no1_0 co1_0]]), Ret Tryz.prog 126 #[.agg #[.int .i64 a0.Kind, .int .i64 a0.N, .int .i64 a0.Pos, .int .i64 a0.Type_, .string a0.Symbol, .string a0.Name, .slice Aa0_6 na0_6 ca0_6], .func (.func 127) #[] #[.pointer (some ⟨bo1, 0, none⟩)]] w0 (· ∈ M) fun v w => ∃ A0 : Option Addr, ∃ n0 c0 : Nat, v = .bool r.1 ∧ HL F0 M w0 w [] [It.O 90 r.2 (.slice A0 n0 c0), It.B bo1 76 [(.slice A0 n0 c0)]]) {a0 : Expr} {o1 : (List Occurrence)} {r : (Bool × (List Occurrence))} (hr : ieveryNode_1_m rec_ieveryNode_iAttributeUses_1 a0 o1 = some r) {F0 : Nat → Prop} {M : List Nat} {w0 : World} {bo1 : Nat} {bo2 : Nat} {Aa0_6 : Option Addr} {na0_6 ca0_6 : Nat} {Ao1_0 : Option Addr} {no1_0 co1_0 : Nat} (hIa0_0 : I64 a0.Kind) (hIa0_1 : I64 a0.N) (hIa0_2 : I64 a0.Pos) (hIa0_3 : I64 a0.Type_) (hIa0_4 : a0.Symbol.size ≤ 9223372036854775807) (hIa0_5 : a0.Name.size ≤ 9223372036854775807) (H : HL F0 M w0 w0 [Pr.S a0.Args (.slice Aa0_6 na0_6 ca0_6)] [It.O 90 o1 (.slice Ao1_0 no1_0 co1_0), It.B bo1 76 [.slice Ao1_0 no1_0 co1_0], It.B bo2 189 [.func (.func 127) #[] #[.pointer (some ⟨bo1, 0, none⟩)]]]) :
    Ret Tryz.prog 173 #[.agg #[.int .i64 a0.Kind, .int .i64 a0.N, .int .i64 a0.Pos, .int .i64 a0.Type_, .string a0.Symbol, .string a0.Name, .slice Aa0_6 na0_6 ca0_6], .pointer (some ⟨bo2, 0, none⟩)] w0 (· ∈ M) fun v w => ∃ A0 : Option Addr, ∃ n0 c0 : Nat, v = .bool r.1 ∧ HL F0 M w0 w [] [It.O 90 r.2 (.slice A0 n0 c0), It.B bo1 76 [(.slice A0 n0 c0)], It.B bo2 189 [.func (.func 127) #[] #[.pointer (some ⟨bo1, 0, none⟩)]]] := by
  refine enter Tryz.func173 rfl rfl rfl ?_
  refine Sreg ?_
  refine WL.boxH rfl rfl rfl rfl rfl H fun b1 w1 H => ?_
  refine Wsn rfl rfl rfl rfl ?_
  refine Sreg ?_
  refine WL.ev rfl rfl (Ev.lda rfl ag86 sz86 rfl (At.blk (H.rB (i := 3) rfl)) rfl) (WL.ev rfl rfl (Ev.ld rfl ag189 rfl ((H.rB (i := 2) rfl).cell rfl)) ?_)
  obtain ⟨⟨y1, z1⟩, hy1, hr⟩ := bd hr
  obtain ⟨F', M', hfF, hoF, hcM⟩ := H.callN [true, true, false, false] ⟨noO, noB, trivial⟩
  obtain ⟨H', hcN⟩ := hcM (ps := [Pr.S a0.Args (.slice Aa0_6 na0_6 ca0_6)]) ⟨hfF.get (i := 0) rfl, trivial⟩
  refine WL.call rfl rfl rfl rfl rfl ok126 rfl (ih_ieveryNode_iAttributeUses_1 hy1 hIa0_0 hIa0_1 hIa0_2 hIa0_3 hIa0_4 hIa0_5 H') ?_
  rintro _ w2 hE ⟨A1, n1, c1, rfl, H'⟩
  have H := hcN 2 H' rfl ⟨fun _ _ _ _ _ h => h, ⟨fun _ _ _ _ _ h => h, trivial⟩⟩
  refine WL.ev rfl rfl (Ev.not rfl rfl) (Wsn rfl rfl rfl rfl ?_)
  refine CW.ret ?_
  obtain rfl := sm hr
  exact ⟨_, res1 rfl rfl rfl, H.chg, _, _, _, rfl, H.outM (fr' := []) [true, true, true, false] fun _ _ => trivial⟩

noncomputable def slices_IndexFunc_Expr_ieveryNode_1_L1 (rec_ieveryNode_iAttributeUses_1 : Expr → (List Occurrence) → Option (Bool × (List Occurrence))) : Nat → Expr → (List Occurrence) → Option (((List Occurrence)) ⊕ (Int × (List Occurrence))) := fun k1 x1 s1 => 
  (ieveryNode_1_m rec_ieveryNode_iAttributeUses_1 x1 s1).bind fun (y1, z2) =>
  if y1 = true then (
  some (.inr ((k1 : Int), z2))
  ) else (
  some (.inl z2)
  )
noncomputable def slices_IndexFunc_Expr_ieveryNode_1_m (rec_ieveryNode_iAttributeUses_1 : Expr → (List Occurrence) → Option (Bool × (List Occurrence))) (a0 : (List Expr)) (o1 : (List Occurrence)) : Option (Int × (List Occurrence)) :=
  (findL (slices_IndexFunc_Expr_ieveryNode_1_L1 rec_ieveryNode_iAttributeUses_1) 0 a0 o1).bind <| onr (fun r1 => some r1) fun s1 =>
  some ((-1), s1)
theorem slices_IndexFunc_Expr_ieveryNode_1_ok {rec_ieveryNode_iAttributeUses_1 : Expr → (List Occurrence) → Option (Bool × (List Occurrence))} (ih_ieveryNode_iAttributeUses_1 : ∀ {a0 : Expr} {o1 : (List Occurrence)} {r : (Bool × (List Occurrence))}, rec_ieveryNode_iAttributeUses_1 a0 o1 = some r → ∀ {F0 : Nat → Prop} {M : List Nat} {w0 : World} {bo1 : Nat} {Aa0_6 : Option Addr} {na0_6 ca0_6 : Nat} {Ao1_0 : Option Addr} {no1_0 co1_0 : Nat} (hIa0_0 : I64 a0.Kind) (hIa0_1 : I64 a0.N) (hIa0_2 : I64 a0.Pos) (hIa0_3 : I64 a0.Type_) (hIa0_4 : a0.Symbol.size ≤ 9223372036854775807) (hIa0_5 : a0.Name.size ≤ 9223372036854775807) (H : HL F0 M w0 w0 [Pr.S a0.Args (.slice Aa0_6 na0_6 ca0_6)] [It.O 90 o1 (.slice Ao1_0 no1_0 co1_0), It.B bo1 76 [.slice Ao1_0 no1_0 co1_0]]), Ret Tryz.prog 126 #[.agg #[.int .i64 a0.Kind, .int .i64 a0.N, .int .i64 a0.Pos, .int .i64 a0.Type_, .string a0.Symbol, .string a0.Name, .slice Aa0_6 na0_6 ca0_6], .func (.func 127) #[] #[.pointer (some ⟨bo1, 0, none⟩)]] w0 (· ∈ M) fun v w => ∃ A0 : Option Addr, ∃ n0 c0 : Nat, v = .bool r.1 ∧ HL F0 M w0 w [] [It.O 90 r.2 (.slice A0 n0 c0), It.B bo1 76 [(.slice A0 n0 c0)]]) {a0 : (List Expr)} {o1 : (List Occurrence)} {r : (Int × (List Occurrence))} (hr : slices_IndexFunc_Expr_ieveryNode_1_m rec_ieveryNode_iAttributeUses_1 a0 o1 = some r) {F0 : Nat → Prop} {M : List Nat} {w0 : World} {bo1 : Nat} {bo2 : Nat} {Aa0 : Option Addr} {na0 ca0 : Nat} {Ao1_0 : Option Addr} {no1_0 co1_0 : Nat} (H : HL F0 M w0 w0 [Pr.S a0 (.slice Aa0 na0 ca0)] [It.O 90 o1 (.slice Ao1_0 no1_0 co1_0), It.B bo1 76 [.slice Ao1_0 no1_0 co1_0], It.B bo2 189 [.func (.func 127) #[] #[.pointer (some ⟨bo1, 0, none⟩)]]]) :
    Ret Tryz.prog 209 #[.slice Aa0 na0 ca0, .func (.func 173) #[] #[.pointer (some ⟨bo2, 0, none⟩)]] w0 (· ∈ M) fun v w => ∃ A0 : Option Addr, ∃ n0 c0 : Nat, v = .int .i64 r.1 ∧ I64 r.1 ∧ HL F0 M w0 w [] [It.O 90 r.2 (.slice A0 n0 c0), It.B bo1 76 [(.slice A0 n0 c0)], It.B bo2 189 [.func (.func 127) #[] #[.pointer (some ⟨bo1, 0, none⟩)]]] := by
  refine enter Tryz.func209 rfl rfl rfl ?_
  refine Sreg ?_
  refine Wsn rfl rfl rfl rfl ?_
  refine SSr ?_
  refine Wmv rfl rfl rfl rfl ?_
  have hl1 := (H.rS (i := 0) rfl).I
  refine WL.ev rfl rfl (Ev.lenV rfl el84 rfl (H.rS (i := 0) rfl)) (Wmv rfl rfl rfl rfl (WL.nil ?_))
  obtain ⟨q1, hq1, hr⟩ := bd hr
  refine CW.block (CW.loop (α := Nat × (List Occurrence) × Value) (fun ⟨k1, s1, v1⟩ => [(0, .slice Aa0 na0 ca0), (1, .func (.func 173) #[] #[.pointer (some ⟨bo2, 0, none⟩)]), (7, .int .i64 (a0.length : Int)), (8, .int .i64 (k1 : Int))]) (fun ⟨k1, s1, v1⟩ w => k1 ≤ a0.length ∧ findL (slices_IndexFunc_Expr_ieveryNode_1_L1 rec_ieveryNode_iAttributeUses_1) k1 (a0.drop k1) s1 = some q1 ∧ HL F0 M w0 w [Pr.S a0 (.slice Aa0 na0 ca0)] [It.O 90 s1 v1, It.B bo1 76 [v1], It.B bo2 189 [.func (.func 127) #[] #[.pointer (some ⟨bo1, 0, none⟩)]]]) (fun ⟨k1, s1, v1⟩ => a0.length - k1) ⟨0, o1, (.slice Ao1_0 no1_0 co1_0)⟩ ⟨rfl, rfl, rfl, rfl, trivial⟩ ⟨Nat.zero_le _, hq1, H.keep 1 3⟩ ?_)
  rintro ⟨k1, s1, v1⟩ σ w1 ⟨hk1, hq1, H⟩
  obtain ⟨A1, n1, c1, rfl⟩ := (H.rO (i := 0) rfl).form3
  refine Sreg ?_
  refine WL.ev rfl rfl (Ev.bin rfl rfl rfl Bin.lss) (WL.nil ?_)
  refine CW.seq (CW.condD rfl (fun h1 => ?_) (fun h1 => ?_))
  · have hk2 := cast_lt h1
    obtain ⟨x1, z1, hx1, hb1, hs1, ht1⟩ := findL_go hq1 hk2
    refine CW.skip ?_
    refine CW.seq (CW.block (Sreg ?_))
    refine Wmv rfl rfl rfl rfl (Wsn rfl rfl rfl rfl ?_)
    refine Sreg ?_
    refine Wmv rfl rfl rfl rfl (Wmv rfl rfl rfl rfl (Wmv rfl rfl rfl rfl ?_))
    obtain ⟨b1, ob1, cb1, A2, n2, c2, hvb1, hI1, hI2, hI3, hI4, hS1, hS2, H⟩ := ixS_Expr H (i := 0) rfl hx1
    refine WL.ev rfl rfl (Ev.ixVN rfl el84 sz86 rfl hvb1 rfl (lt_of hx1)) (WL.ev rfl rfl (Ev.lda rfl ag86 sz86 rfl (H.rA (i := 1) rfl) rfl) ?_)
    obtain ⟨⟨y1, z2⟩, hy1, hb1⟩ := bd hb1
    obtain ⟨F', M', hfF, hoF, hcM⟩ := H.callN [true, true, true] ⟨noO, noB, noB, trivial⟩
    obtain ⟨H', hcN⟩ := hcM (ps := [Pr.S x1.Args (.slice A2 n2 c2)]) ⟨hfF.get (i := 3) rfl, trivial⟩
    refine WL.call rfl rfl rfl rfl rfl ok173 rfl (ieveryNode_1_ok ih_ieveryNode_iAttributeUses_1 hy1 hI1 hI2 hI3 hI4 hS1 hS2 H') ?_
    rintro _ w2 hE ⟨A3, n3, c3, rfl, H'⟩
    have H := hcN 3 H' rfl ⟨fun _ _ _ _ _ h => h, ⟨fun _ _ _ _ _ h => h, ⟨fun _ _ _ _ _ h => h, trivial⟩⟩⟩
    refine WL.nil ?_
    refine CW.condB rfl (fun h2 => ?_) (fun h2 => ?_)
    · have hb1 := ifp h2 hb1
      refine Sreg ?_
      refine Wmv rfl rfl rfl rfl (Wsn rfl rfl rfl rfl ?_)
      refine CW.ret ?_
      obtain rfl := sm hb1
      obtain rfl := ht1 _ rfl
      obtain rfl := sm hr
      exact ⟨_, res1 rfl rfl rfl, H.chg, _, _, _, rfl, (i64_nat hk2 hl1), H.outM (fr' := []) [true, true, true] fun _ _ => trivial⟩
    · have hb1 := ifn h2 hb1
      refine CW.skip ?_
      refine CW.reg ?_
      refine WL.ev rfl rfl (Ev.bin rfl rfl rfl (Bin.addN (a := k1) (b := 1) rfl (i64_succN hk2 hl1.2))) (Wmv rfl rfl rfl rfl (WL.nil ?_))
      obtain rfl := sm hb1
      have hq1 := hs1 _ rfl
      exact ⟨⟨k1 + 1, z2, (.slice A3 n3 c3)⟩, ⟨rfl, rfl, rfl, rfl, trivial⟩, ⟨hk2, hq1, H.keep 1 3⟩, Nat.sub_lt_sub_left hk2 (Nat.lt_succ_self _)⟩
  · obtain rfl := findL_end hq1 (not_cast_lt h1)
    have hr := (onr_inl _ _ _).symm.trans hr
    refine CW.exit ?_
    refine Sreg ?_
    refine Wsn rfl rfl rfl rfl ?_
    refine CW.ret ?_
    obtain rfl := sm hr
    exact ⟨_, res1 rfl rfl rfl, H.chg, _, _, _, rfl, (by decide : I64 (-1)), H.outM (fr' := []) [true, true, true] fun _ _ => trivial⟩

noncomputable def slices_ContainsFunc_Expr_ieveryNode_1_m (rec_ieveryNode_iAttributeUses_1 : Expr → (List Occurrence) → Option (Bool × (List Occurrence))) (a0 : (List Expr)) (o1 : (List Occurrence)) : Option (Bool × (List Occurrence)) :=
  (slices_IndexFunc_Expr_ieveryNode_1_m rec_ieveryNode_iAttributeUses_1 a0 o1).bind fun (y1, z1) =>
  some (decide (0 ≤ y1), z1)
theorem slices_ContainsFunc_Expr_ieveryNode_1_ok {rec_ieveryNode_iAttributeUses_1 : Expr → (List Occurrence) → Option (Bool × (List Occurrence))} (ih_ieveryNode_iAttributeUses_1 : ∀ {a0 : Expr} {o1 : (List Occurrence)} {r : (Bool × (List Occurrence))}, rec_ieveryNode_iAttributeUses_1 a0 o1 = some r → ∀ {F0 : Nat → Prop} {M : List Nat} {w0 : World} {bo1 : Nat} {Aa0_6 : Option Addr} {na0_6 ca0_6 : Nat} {Ao1_0 : Option Addr} {no1_0 co1_0 : Nat} (hIa0_0 : I64 a0.Kind) (hIa0_1 : I64 a0.N) (hIa0_2 : I64 a0.Pos) (hIa0_3 : I64 a0.Type_) (hIa0_4 : a0.Symbol.size ≤ 9223372036854775807) (hIa0_5 : a0.Name.size ≤ 9223372036854775807) (H : HL F0 M w0 w0 [Pr.S a0.Args (.slice Aa0_6 na0_6 ca0_6)] [It.O 90 o1 (.slice Ao1_0 no1_0 co1_0), It.B bo1 76 [.slice Ao1_0 no1_0 co1_0]]), Ret Tryz.prog 126 #[.agg #[.int .i64 a0.Kind, .int .i64 a0.N, .int .i64 a0.Pos, .int .i64 a0.Type_, .string a0.Symbol, .string a0.Name, .slice Aa0_6 na0_6 ca0_6], .func (.func 127) #[] #[.pointer (some ⟨bo1, 0, none⟩)]] w0 (· ∈ M) fun v w => ∃ A0 : Option Addr, ∃ n0 c0 : Nat, v = .bool r.1 ∧ HL F0 M w0 w [] [It.O 90 r.2 (.slice A0 n0 c0), It.B bo1 76 [(.slice A0 n0 c0)]]) {a0 : (List Expr)} {o1 : (List Occurrence)} {r : (Bool × (List Occurrence))} (hr : slices_ContainsFunc_Expr_ieveryNode_1_m rec_ieveryNode_iAttributeUses_1 a0 o1 = some r) {F0 : Nat → Prop} {M : List Nat} {w0 : World} {bo1 : Nat} {bo2 : Nat} {Aa0 : Option Addr} {na0 ca0 : Nat} {Ao1_0 : Option Addr} {no1_0 co1_0 : Nat} (H : HL F0 M w0 w0 [Pr.S a0 (.slice Aa0 na0 ca0)] [It.O 90 o1 (.slice Ao1_0 no1_0 co1_0), It.B bo1 76 [.slice Ao1_0 no1_0 co1_0], It.B bo2 189 [.func (.func 127) #[] #[.pointer (some ⟨bo1, 0, none⟩)]]]) :
    Ret Tryz.prog 172 #[.slice Aa0 na0 ca0, .func (.func 173) #[] #[.pointer (some ⟨bo2, 0, none⟩)]] w0 (· ∈ M) fun v w => ∃ A0 : Option Addr, ∃ n0 c0 : Nat, v = .bool r.1 ∧ HL F0 M w0 w [] [It.O 90 r.2 (.slice A0 n0 c0), It.B bo1 76 [(.slice A0 n0 c0)], It.B bo2 189 [.func (.func 127) #[] #[.pointer (some ⟨bo1, 0, none⟩)]]] := by
  refine enter Tryz.func172 rfl rfl rfl ?_
  refine Sreg ?_
  refine Wsn rfl rfl rfl rfl ?_
  refine Sreg ?_
  refine Wmv rfl rfl rfl rfl (Wmv rfl rfl rfl rfl ?_)
  obtain ⟨⟨y1, z1⟩, hy1, hr⟩ := bd hr
  obtain ⟨F', M', hfF, hoF, hcM⟩ := H.callN [true, true, true] ⟨noO, noB, noB, trivial⟩
  obtain ⟨H', hcN⟩ := hcM (ps := [Pr.S a0 (.slice Aa0 na0 ca0)]) ⟨hfF.get (i := 0) rfl, trivial⟩
  refine WL.call rfl rfl rfl rfl rfl ok209 rfl (slices_IndexFunc_Expr_ieveryNode_1_ok ih_ieveryNode_iAttributeUses_1 hy1 H') ?_
  rintro _ w1 hE ⟨A1, n1, c1, rfl, hI1, H'⟩
  have H := hcN 3 H' rfl ⟨fun _ _ _ _ _ h => h, ⟨fun _ _ _ _ _ h => h, ⟨fun _ _ _ _ _ h => h, trivial⟩⟩⟩
  refine WL.ev rfl rfl (Ev.bin rfl rfl rfl Bin.geq) (Wsn rfl rfl rfl rfl ?_)
  refine CW.ret ?_
  obtain rfl := sm hr
  exact ⟨_, res1 rfl rfl rfl, H.chg, _, _, _, rfl, H.outM (fr' := []) [true, true, true] fun _ _ => trivial⟩

noncomputable def ieveryNode_iAttributeUses_1_B (rec_ieveryNode_iAttributeUses_1 : Expr → (List Occurrence) → Option (Bool × (List Occurrence))) (a0 : Expr) (o1 : (List Occurrence)) : Option (Bool × (List Occurrence)) :=
  (iAttributeUses_1_m a0 o1).bind fun (y1, z1) =>
  if y1 = true then (
  (slices_ContainsFunc_Expr_ieveryNode_1_m rec_ieveryNode_iAttributeUses_1 a0.Args z1).bind fun (y2, z2) =>
  some (!y2, z2)
  ) else (
  some (false, z1)
  )
theorem ieveryNode_iAttributeUses_1_okB {rec_ieveryNode_iAttributeUses_1 : Expr → (List Occurrence) → Option (Bool × (List Occurrence))} (ih_ieveryNode_iAttributeUses_1 : ∀ {a0 : Expr} {o1 : (List Occurrence)} {r : (Bool × (List Occurrence))}, rec_ieveryNode_iAttributeUses_1 a0 o1 = some r → ∀ {F0 : Nat → Prop} {M : List Nat} {w0 : World} {bo1 : Nat} {Aa0_6 : Option Addr} {na0_6 ca0_6 : Nat} {Ao1_0 : Option Addr} {no1_0 co1_0 : Nat} (hIa0_0 : I64 a0.Kind) (hIa0_1 : I64 a0.N) (hIa0_2 : I64 a0.Pos) (hIa0_3 : I64 a0.Type_) (hIa0_4 : a0.Symbol.size ≤ 9223372036854775807) (hIa0_5 : a0.Name.size ≤ 9223372036854775807) (H : HL F0 M w0 w0 [Pr.S a0.Args (.slice Aa0_6 na0_6 ca0_6)] [It.O 90 o1 (.slice Ao1_0 no1_0 co1_0), It.B bo1 76 [.slice Ao1_0 no1_0 co1_0]]), Ret Tryz.prog 126 #[.agg #[.int .i64 a0.Kind, .int .i64 a0.N, .int .i64 a0.Pos, .int .i64 a0.Type_, .string a0.Symbol, .string a0.Name, .slice Aa0_6 na0_6 ca0_6], .func (.func 127) #[] #[.pointer (some ⟨bo1, 0, none⟩)]] w0 (· ∈ M) fun v w => ∃ A0 : Option Addr, ∃ n0 c0 : Nat, v = .bool r.1 ∧ HL F0 M w0 w [] [It.O 90 r.2 (.slice A0 n0 c0), It.B bo1 76 [(.slice A0 n0 c0)]]) {a0 : Expr} {o1 : (List Occurrence)} {r : (Bool × (List Occurrence))} (hr : ieveryNode_iAttributeUses_1_B rec_ieveryNode_iAttributeUses_1 a0 o1 = some r) {F0 : Nat → Prop} {M : List Nat} {w0 : World} {bo1 : Nat} {Aa0_6 : Option Addr} {na0_6 ca0_6 : Nat} {Ao1_0 : Option Addr} {no1_0 co1_0 : Nat} (hIa0_0 : I64 a0.Kind) (hIa0_1 : I64 a0.N) (hIa0_2 : I64 a0.Pos) (hIa0_3 : I64 a0.Type_) (hIa0_4 : a0.Symbol.size ≤ 9223372036854775807) (hIa0_5 : a0.Name.size ≤ 9223372036854775807) (H : HL F0 M w0 w0 [Pr.S a0.Args (.slice Aa0_6 na0_6 ca0_6)] [It.O 90 o1 (.slice Ao1_0 no1_0 co1_0), It.B bo1 76 [.slice Ao1_0 no1_0 co1_0]]) :
    Ret Tryz.prog 126 #[.agg #[.int .i64 a0.Kind, .int .i64 a0.N, .int .i64 a0.Pos, .int .i64 a0.Type_, .string a0.Symbol, .string a0.Name, .slice Aa0_6 na0_6 ca0_6], .func (.func 127) #[] #[.pointer (some ⟨bo1, 0, none⟩)]] w0 (· ∈ M) fun v w => ∃ A0 : Option Addr, ∃ n0 c0 : Nat, v = .bool r.1 ∧ HL F0 M w0 w [] [It.O 90 r.2 (.slice A0 n0 c0), It.B bo1 76 [(.slice A0 n0 c0)]] := by
  refine enter Tryz.func126 rfl rfl rfl ?_
  refine Sreg ?_
  refine WL.boxH rfl rfl rfl rfl rfl H fun b1 w1 H => ?_
  refine WL.boxH rfl rfl rfl rfl rfl H fun b2 w2 H => ?_
  refine Wsn rfl rfl rfl rfl ?_
  refine Sreg ?_
  refine WL.ev rfl rfl (Ev.ld rfl ag189 rfl ((H.rB (i := 3) rfl).cell rfl)) (WL.ev rfl rfl (Ev.lda rfl ag86 sz86 rfl (At.blk (H.rB (i := 2) rfl)) rfl) ?_)
  obtain ⟨⟨y1, z1⟩, hy1, hr⟩ := bd hr
  obtain ⟨F', M', hfF, hoF, hcM⟩ := H.callN [true, true, false, false] ⟨noO, noB, trivial⟩
  obtain ⟨H', hcN⟩ := hcM (ps := [Pr.S a0.Args (.slice Aa0_6 na0_6 ca0_6)]) ⟨hfF.get (i := 0) rfl, trivial⟩
  refine WL.call rfl rfl rfl rfl rfl ok127 rfl (iAttributeUses_1_ok hy1 hIa0_0 hIa0_1 hIa0_2 hIa0_3 hIa0_4 hIa0_5 H') ?_
  rintro _ w3 hE ⟨A1, n1, c1, rfl, H'⟩
  have H := hcN 2 H' rfl ⟨fun _ _ _ _ _ h => h, ⟨fun _ _ _ _ _ h => h, trivial⟩⟩
  refine WL.mvB rfl rfl rfl rfl (fun h1 => ?_) (fun h1 => ?_)
  · have hr := ifp h1 hr
    refine WL.on rfl rfl (Wfa rfl rfl rfl fo86_6 rfl (WL.on rfl rfl (WL.ev rfl rfl (Ev.ld rfl ag84 rfl ((H.rB (i := 2) rfl).cell rfl)) (WL.on rfl rfl (WL.ev rfl rfl (Ev.mkfL rfl rfl rfl) (WL.on rfl rfl ?_))))))
    obtain ⟨⟨y2, z2⟩, hy2, hr⟩ := bd hr
    obtain ⟨F', M', hfF, hoF, hcM⟩ := H.callN [true, true, false, true] ⟨noO, noB, noB, trivial⟩
    obtain ⟨H', hcN⟩ := hcM (ps := [Pr.S a0.Args (.slice Aa0_6 na0_6 ca0_6)]) ⟨hfF.get (i := 0) rfl, trivial⟩
    refine WL.call rfl rfl rfl rfl rfl ok172 rfl (slices_ContainsFunc_Expr_ieveryNode_1_ok ih_ieveryNode_iAttributeUses_1 hy2 H') ?_
    rintro _ w4 hE ⟨A2, n2, c2, rfl, H'⟩
    have H := hcN 3 H' rfl ⟨fun _ _ _ _ _ h => h, ⟨fun _ _ _ _ _ h => h, ⟨fun _ _ _ _ _ h => h, trivial⟩⟩⟩
    refine WL.on rfl rfl (WL.ev rfl rfl (Ev.not rfl rfl) (WL.ev rfl rfl (Ev.pickT rfl rfl rfl) (Wsn rfl rfl rfl rfl ?_)))
    refine CW.ret ?_
    obtain rfl := sm hr
    exact ⟨_, res1 rfl rfl rfl, H.chg, _, _, _, rfl, H.outM (fr' := []) [true, true, false, false] fun _ _ => trivial⟩
  · have hr := ifn h1 hr
    refine WL.off rfl rfl rfl (WL.off rfl rfl rfl (WL.off rfl rfl rfl (WL.off rfl rfl rfl (WL.off rfl rfl rfl (WL.ev rfl rfl (Ev.pickF rfl rfl rfl) (Wsn rfl rfl rfl rfl ?_))))))
    refine CW.ret ?_
    obtain rfl := sm hr
    exact ⟨_, res1 rfl rfl rfl, H.chg, _, _, _, rfl, H.outM (fr' := []) [true, true, false, false] fun _ _ => trivial⟩
noncomputable def ieveryNode_iAttributeUses_1_n : Nat → Expr → (List Occurrence) → Option (Bool × (List Occurrence))
  | 0, _, _ => none
  | n + 1, a0, o1 => ieveryNode_iAttributeUses_1_B (ieveryNode_iAttributeUses_1_n n) a0 o1
noncomputable def ieveryNode_iAttributeUses_1_m (a0 : Expr) (o1 : (List Occurrence)) : Option (Bool × (List Occurrence)) := recO fun n => ieveryNode_iAttributeUses_1_n n a0 o1
theorem ieveryNode_iAttributeUses_1_okn (n : Nat) : ∀ {a0 : Expr} {o1 : (List Occurrence)} {r : (Bool × (List Occurrence))}, ieveryNode_iAttributeUses_1_n n a0 o1 = some r → ∀ {F0 : Nat → Prop} {M : List Nat} {w0 : World} {bo1 : Nat} {Aa0_6 : Option Addr} {na0_6 ca0_6 : Nat} {Ao1_0 : Option Addr} {no1_0 co1_0 : Nat} (hIa0_0 : I64 a0.Kind) (hIa0_1 : I64 a0.N) (hIa0_2 : I64 a0.Pos) (hIa0_3 : I64 a0.Type_) (hIa0_4 : a0.Symbol.size ≤ 9223372036854775807) (hIa0_5 : a0.Name.size ≤ 9223372036854775807) (H : HL F0 M w0 w0 [Pr.S a0.Args (.slice Aa0_6 na0_6 ca0_6)] [It.O 90 o1 (.slice Ao1_0 no1_0 co1_0), It.B bo1 76 [.slice Ao1_0 no1_0 co1_0]]), Ret Tryz.prog 126 #[.agg #[.int .i64 a0.Kind, .int .i64 a0.N, .int .i64 a0.Pos, .int .i64 a0.Type_, .string a0.Symbol, .string a0.Name, .slice Aa0_6 na0_6 ca0_6], .func (.func 127) #[] #[.pointer (some ⟨bo1, 0, none⟩)]] w0 (· ∈ M) fun v w => ∃ A0 : Option Addr, ∃ n0 c0 : Nat, v = .bool r.1 ∧ HL F0 M w0 w [] [It.O 90 r.2 (.slice A0 n0 c0), It.B bo1 76 [(.slice A0 n0 c0)]] := by
  induction n with
  | zero => intro a0 o1 r hr; exact nomatch (show (none : Option (Bool × (List Occurrence))) = some r from hr)
  | succ n ih => intro a0 o1 r hr; exact ieveryNode_iAttributeUses_1_okB ih hr
theorem ieveryNode_iAttributeUses_1_ok {a0 : Expr} {o1 : (List Occurrence)} {r : (Bool × (List Occurrence))} (hr : ieveryNode_iAttributeUses_1_m a0 o1 = some r) {F0 : Nat → Prop} {M : List Nat} {w0 : World} {bo1 : Nat} {Aa0_6 : Option Addr} {na0_6 ca0_6 : Nat} {Ao1_0 : Option Addr} {no1_0 co1_0 : Nat} (hIa0_0 : I64 a0.Kind) (hIa0_1 : I64 a0.N) (hIa0_2 : I64 a0.Pos) (hIa0_3 : I64 a0.Type_) (hIa0_4 : a0.Symbol.size ≤ 9223372036854775807) (hIa0_5 : a0.Name.size ≤ 9223372036854775807) (H : HL F0 M w0 w0 [Pr.S a0.Args (.slice Aa0_6 na0_6 ca0_6)] [It.O 90 o1 (.slice Ao1_0 no1_0 co1_0), It.B bo1 76 [.slice Ao1_0 no1_0 co1_0]]) :
    Ret Tryz.prog 126 #[.agg #[.int .i64 a0.Kind, .int .i64 a0.N, .int .i64 a0.Pos, .int .i64 a0.Type_, .string a0.Symbol, .string a0.Name, .slice Aa0_6 na0_6 ca0_6], .func (.func 127) #[] #[.pointer (some ⟨bo1, 0, none⟩)]] w0 (· ∈ M) fun v w => ∃ A0 : Option Addr, ∃ n0 c0 : Nat, v = .bool r.1 ∧ HL F0 M w0 w [] [It.O 90 r.2 (.slice A0 n0 c0), It.B bo1 76 [(.slice A0 n0 c0)]] := by
  obtain ⟨n, hn⟩ := recO_some hr
  exact ieveryNode_iAttributeUses_1_okn n hn hIa0_0 hIa0_1 hIa0_2 hIa0_3 hIa0_4 hIa0_5 H

noncomputable def slices_SortFunc_Occurrence_m (a0 : (List Occurrence)) : Option (List Occurrence) :=
  grd (a0.length < 4611686018427387904) <|
  some (sortO a0)
theorem slices_SortFunc_Occurrence_ok {a0 : (List Occurrence)} {r : (List Occurrence)} (hr : slices_SortFunc_Occurrence_m a0 = some r) {F0 : Nat → Prop} {M : List Nat} {w0 : World} {A0 : Option Addr} {n0 c0 : Nat} (H : HL F0 M w0 w0 [] [It.O 90 a0 (.slice A0 n0 c0)]) :
    Ret Tryz.prog 128 #[.slice A0 n0 c0, .func (.func 129) #[] #[]] w0 (· ∈ M) fun v w => v = .tuple #[] ∧ HL F0 M w0 w [] [It.O 90 r (.slice A0 n0 c0)] := by
  obtain ⟨hg, hr⟩ := grd_some hr
  obtain rfl := sm hr
  exact sort_row hg H

noncomputable def slices_Compact_Occurrence_L2 (s1 : Int) : ((List Occurrence) × Int × Int) → Option (((List Occurrence) × Int × Int) ⊕ ((List Occurrence) × Int)) := fun (s4, s5, s6) => 
  if s6 < ((s4.drop s1.toNat).length : Int) then (
  (
  grd (0 ≤ s6) <|
  (s4[(s1.toNat + s6.toNat)]?).bind fun x3 =>
  grd (I64 (s6 - 1)) <|
  grd (0 ≤ (s6 - 1)) <|
  (s4[(s1.toNat + ((s6 - 1).toNat))]?).bind fun x4 =>
  if x3 = x4 then (
  some (s5, s4)
  ) else (
  grd (0 ≤ s6) <|
  grd (0 ≤ s5) <|
  (s4[s5.toNat]?).bind fun x5 =>
  grd (I64 (s5 + 1)) <|
  some ((s5 + 1), (List.set s4 s5.toNat x3))
  )
  ).bind fun (s7, s8) =>
  grd (I64 (s6 + 1)) <|
  some (.inl (s8, s7, (s6 + 1)))
  ) else (
  some (.inr (s4, s5))
  )
noncomputable def slices_Compact_Occurrence_L1 (a0 : (List Occurrence)) : Int → Option (Int ⊕ (Unit ⊕ (List Occurrence))) := fun s1 => 
  if s1 < (a0.length : Int) then (
  grd (0 ≤ s1) <|
  (a0[s1.toNat]?).bind fun x1 =>
  grd (I64 (s1 - 1)) <|
  grd (0 ≤ (s1 - 1)) <|
  (a0[(s1 - 1).toNat]?).bind fun x2 =>
  if x1 = x2 then (
  grd (0 ≤ s1) <|
  grd (s1.toNat ≤ a0.length) <|
  (
  iterO (slices_Compact_Occurrence_L2 s1) (a0, s1, 1)
  ).bind fun (s2, s3) =>
  grd (0 ≤ s3) <|
  grd (s3.toNat ≤ s2.length) <|
  grd (0 ≤ s3) <|
  grd (s3.toNat ≤ (s2.take s3.toNat ++ List.replicate (s2.length - s3.toNat) (⟨(0 : Int), (⟨#[]⟩ : ByteArray)⟩ : Occurrence)).length) <|
  some (.inr (.inr ((s2.take s3.toNat ++ List.replicate (s2.length - s3.toNat) (⟨(0 : Int), (⟨#[]⟩ : ByteArray)⟩ : Occurrence)).take s3.toNat)))
  ) else (
  grd (I64 (s1 + 1)) <|
  some (.inl (s1 + 1))
  )
  ) else (
  some (.inr (.inl ()))
  )
noncomputable def slices_Compact_Occurrence_m (a0 : (List Occurrence)) : Option (List Occurrence) :=
  if (a0.length : Int) < 2 then (
  some a0
  ) else (
  (
  iterO (slices_Compact_Occurrence_L1 a0) 1
  ).bind <| onr (fun r1 => some r1) fun () =>
  some a0
  )
theorem slices_Compact_Occurrence_ok {a0 : (List Occurrence)} {r : (List Occurrence)} (hr : slices_Compact_Occurrence_m a0 = some r) {F0 : Nat → Prop} {M : List Nat} {w0 : World} {Aa0 : Option Addr} {na0 ca0 : Nat} (H : HL F0 M w0 w0 [] [It.O 90 a0 (.slice Aa0 na0 ca0)]) :
    Ret Tryz.prog 130 #[.slice Aa0 na0 ca0] w0 (· ∈ M) fun v w => ∃ A0 : Option Addr, ∃ n0 c0 : Nat, v = (.slice A0 n0 c0) ∧ HL F0 M w0 w [] [It.O 90 r (.slice A0 n0 c0)] := by
  refine enter Tryz.func130 rfl rfl rfl ?_
  refine Sreg ?_
  refine Wsn rfl rfl rfl rfl ?_
  refine SSr ?_
  refine Wmv rfl rfl rfl rfl ?_
  have hl1 := (H.rO (i := 0) rfl).I
  refine WL.ev rfl rfl (Ev.lenV rfl el76 rfl (H.rO (i := 0) rfl)) (WL.ev rfl rfl (Ev.bin rfl rfl rfl Bin.lss) (WL.nil ?_))
  refine CW.condD rfl (fun h1 => ?_) (fun h1 => ?_)
  · have hr := ifp h1 hr
    refine Sreg ?_
    refine Wmv rfl rfl rfl rfl (Wsn rfl rfl rfl rfl ?_)
    refine CW.ret ?_
    obtain rfl := sm hr
    exact ⟨_, res1 rfl rfl rfl, H.chg, _, _, _, rfl, H.outM (fr' := []) [true] fun _ _ => trivial⟩
  · have hr := ifn h1 hr
    refine CW.skip ?_
    refine SSr ?_
    refine Wsn rfl rfl rfl rfl ?_
    obtain ⟨q1, hm1, hr⟩ := bd hr
    refine CW.mid (fun ρ' w => q1 = .inl () ∧ agree ρ' [(0, .slice Aa0 na0 ca0)] ∧ HL F0 M w0 w [] [It.O 90 a0 (.slice Aa0 na0 ca0)]) ?_ ?_
    · obtain ⟨m1, hq1⟩ := iterO_some.1 hm1
      refine CW.block (CW.loop (α := Nat × Int) (fun ⟨m1, s1⟩ => [(0, .slice Aa0 na0 ca0), (3, .int .i64 s1)]) (fun ⟨m1, s1⟩ w => iterN (slices_Compact_Occurrence_L1 a0) m1 s1 = some q1 ∧ I64 s1 ∧ HL F0 M w0 w [] [It.O 90 a0 (.slice Aa0 na0 ca0)]) (fun ⟨m1, s1⟩ => m1) ⟨m1, 1⟩ ⟨rfl, rfl, trivial⟩ ⟨hq1, (by decide : I64 1), H.keep 0 1⟩ ?_)
      rintro ⟨m1, s1⟩ σ w1 ⟨hq1, hI1, H⟩
      obtain ⟨m2, z1, rfl, hb1, hs1, ht1⟩ := iterN_go hq1
      refine SSr ?_
      refine Wmv rfl rfl rfl rfl (Wmv rfl rfl rfl rfl (WL.ev rfl rfl (Ev.lenV rfl el76 rfl (H.rO (i := 0) rfl)) (WL.ev rfl rfl (Ev.bin rfl rfl rfl Bin.lss) (WL.nil ?_))))
      refine CW.condD rfl (fun h2 => ?_) (fun h2 => ?_)
      · have hb1 := ifp h2 hb1
        refine CW.skip ?_
        refine CW.seq (CW.block (CW.seq (CW.quiet hmix (by kernel_rfl) ?_)))
        refine QL.ev rfl rfl (fun _ _ => Ev.mv rfl rfl) (QL.ev rfl rfl (fun _ _ => Ev.mv rfl rfl) ?_)
        obtain ⟨hg1, hb1⟩ := grd_some hb1
        obtain ⟨x1, hx1, hb1⟩ := bd hb1
        obtain ⟨b1, cb1, hvb1, hbb1⟩ := H.ptO (i := 0) rfl hx1
        refine QL.ev rfl rfl (fun _ _ => Ev.ixV rfl el76 sz90 rfl hvb1 rfl hg1 (lt_of hx1)) ?_
        obtain ⟨hA1, hI2, hS1, H⟩ := elO_Occurrence H (i := 0) rfl hx1 hbb1
        refine QL.ev rfl rfl (fun _ hq => Ev.lda rfl ag90 sz90 rfl (hA1.ext hq) rfl) (QL.ev rfl rfl (fun _ _ => Ev.mv rfl rfl) (QL.ev rfl rfl (fun _ _ => Ev.mv rfl rfl) ?_))
        obtain ⟨hg2, hb1⟩ := grd_some hb1
        refine QL.ev rfl rfl (fun _ _ => Ev.bin rfl rfl rfl (Bin.sub hg2)) ?_
        obtain ⟨hg3, hb1⟩ := grd_some hb1
        obtain ⟨x2, hx2, hb1⟩ := bd hb1
        obtain ⟨b2, cb2, hvb2, hbb2⟩ := H.ptO (i := 0) rfl hx2
        refine QL.ev rfl rfl (fun _ _ => Ev.ixV rfl el76 sz90 rfl hvb2 rfl hg3 (lt_of hx2)) ?_
        obtain ⟨hA2, hI3, hS2, H⟩ := elO_Occurrence H (i := 0) rfl hx2 hbb2
        refine QL.ev rfl rfl (fun _ hq => Ev.lda rfl ag90 sz90 rfl (hA2.ext hq) rfl) (QL.ev rfl rfl (fun _ _ => Ev.bin rfl rfl rfl (Bin.eqlF fl90 (Occurrence_eqF x1 x2))) (QL.nil (fun w2 hE => ?_)))
        have H := H.ext hE
        refine CW.condD rfl (fun h3 => ?_) (fun h3 => ?_)
        · have hb1 := ifp h3 hb1
          refine Sreg ?_
          refine Wmv rfl rfl rfl rfl (Wmv rfl rfl rfl rfl ?_)
          obtain ⟨hg4, hb1⟩ := grd_some hb1
          obtain ⟨hg5, hb1⟩ := grd_some hb1
          obtain ⟨A1, n1, c1, e2, hc1⟩ := H.subO (i := 0) rfl hg5
          refine WL.ev rfl rfl (Ev.slLV rfl el76 sz90 rfl rfl ((Int.toNat_of_nonneg hg4).symm) hc1 e2) (Wsn rfl rfl rfl rfl ?_)
          refine SSr ?_
          refine Wsn rfl rfl rfl rfl ?_
          obtain ⟨q2, hm2, hb1⟩ := bd hb1
          refine CW.mid (fun ρ' w => ∃ (s2 : List Occurrence) (s3 : Int), q2 = (s2, s3) ∧ agree ρ' [(0, .slice Aa0 na0 ca0), (3, .int .i64 s3)] ∧ I64 s3 ∧ HL F0 M w0 w [Pr.R x1 [.int .i64 x1.Pos, .string x1.Name], Pr.R x2 [.int .i64 x2.Pos, .string x2.Name]] [It.O 90 s2 (.slice Aa0 na0 ca0)]) ?_ ?_
          · obtain ⟨m3, hq2⟩ := iterO_some.1 hm2
            refine CW.block (CW.loop (α := Nat × (List Occurrence) × Int × Int) (fun ⟨m3, s4, s5, s6⟩ => [(0, .slice Aa0 na0 ca0), (3, .int .i64 s5), (4, .slice A1 n1 c1), (5, .int .i64 s6)]) (fun ⟨m3, s4, s5, s6⟩ w => iterN (slices_Compact_Occurrence_L2 s1) m3 (s4, s5, s6) = some q2 ∧ I64 s5 ∧ I64 s6 ∧ HL F0 M w0 w [Pr.R x1 [.int .i64 x1.Pos, .string x1.Name], Pr.R x2 [.int .i64 x2.Pos, .string x2.Name]] [It.O 90 s4 (.slice Aa0 na0 ca0)]) (fun ⟨m3, s4, s5, s6⟩ => m3) ⟨m3, a0, s1, 1⟩ ⟨rfl, rfl, rfl, rfl, trivial⟩ ⟨hq2, hI1, (by decide : I64 1), H.keep 2 1⟩ ?_)
            rintro ⟨m3, s4, s5, s6⟩ σ w3 ⟨hq2, hI5, hI6, H⟩
            obtain ⟨m4, z2, rfl, hb2, hs2, ht2⟩ := iterN_go hq2
            refine SSr ?_
            refine Wmv rfl rfl rfl rfl (Wmv rfl rfl rfl rfl ?_)
            have hl2 := ((H.rO (i := 0) rfl).dropV hc1 e2).I
            refine WL.ev rfl rfl (Ev.lenV rfl el76 rfl ((H.rO (i := 0) rfl).dropV hc1 e2)) (WL.ev rfl rfl (Ev.bin rfl rfl rfl Bin.lss) (WL.nil ?_))
            refine CW.condD rfl (fun h4 => ?_) (fun h4 => ?_)
            · have hb2 := ifp h4 hb2
              refine CW.skip ?_
              obtain ⟨q3, hm3, hb2⟩ := bd hb2
              refine CW.seq (CW.mid (fun ρ' w => ∃ (s7 : Int) (s8 : List Occurrence), q3 = (s7, s8) ∧ agree ρ' [(0, .slice Aa0 na0 ca0), (3, .int .i64 s7), (4, .slice A1 n1 c1), (5, .int .i64 s6)] ∧ I64 s7 ∧ HL F0 M w0 w [Pr.R x1 [.int .i64 x1.Pos, .string x1.Name], Pr.R x2 [.int .i64 x2.Pos, .string x2.Name]] [It.O 90 s8 (.slice Aa0 na0 ca0)]) ?_ ?_)
              · refine CW.block (CW.seq (CW.quiet hmix (by kernel_rfl) ?_))
                refine QL.ev rfl rfl (fun _ _ => Ev.mv rfl rfl) (QL.ev rfl rfl (fun _ _ => Ev.mv rfl rfl) ?_)
                obtain ⟨hg6, hm3⟩ := grd_some hm3
                obtain ⟨x3, hx3, hm3⟩ := bd hm3
                obtain ⟨b3, mb3, cb3, hvb3, hmb3, hbb3⟩ := H.ptSub (i := 0) rfl e2 hx3
                refine QL.ev rfl rfl (fun _ _ => Ev.ixSub rfl el76 sz90 rfl hvb3 rfl hg6 hmb3) ?_
                obtain ⟨hA3, hI8, hS3, H⟩ := elO_Occurrence H (i := 0) rfl hx3 hbb3
                refine QL.ev rfl rfl (fun _ hq => Ev.lda rfl ag90 sz90 rfl (hA3.ext hq) rfl) (QL.ev rfl rfl (fun _ _ => Ev.mv rfl rfl) (QL.ev rfl rfl (fun _ _ => Ev.mv rfl rfl) ?_))
                obtain ⟨hg7, hm3⟩ := grd_some hm3
                refine QL.ev rfl rfl (fun _ _ => Ev.bin rfl rfl rfl (Bin.sub hg7)) ?_
                obtain ⟨hg8, hm3⟩ := grd_some hm3
                obtain ⟨x4, hx4, hm3⟩ := bd hm3
                obtain ⟨b4, mb4, cb4, hvb4, hmb4, hbb4⟩ := H.ptSub (i := 0) rfl e2 hx4
                refine QL.ev rfl rfl (fun _ _ => Ev.ixSub rfl el76 sz90 rfl hvb4 rfl hg8 hmb4) ?_
                obtain ⟨hA4, hI9, hS4, H⟩ := elO_Occurrence H (i := 0) rfl hx4 hbb4
                refine QL.ev rfl rfl (fun _ hq => Ev.lda rfl ag90 sz90 rfl (hA4.ext hq) rfl) (QL.ev rfl rfl (fun _ _ => Ev.bin rfl rfl rfl (Bin.neqF fl90 (Occurrence_eqF x3 x4))) (QL.nil (fun w4 hE => ?_)))
                have H := H.ext hE
                refine CW.condN rfl (fun h5 => ?_) (fun h5 => ?_)
                · have hm3 := ifn h5 hm3
                  refine Sreg ?_
                  refine Wmv rfl rfl rfl rfl (Wmv rfl rfl rfl rfl (Wmv rfl rfl rfl rfl (Wmv rfl rfl rfl rfl ?_)))
                  obtain ⟨hg9, hm3⟩ := grd_some hm3
                  obtain ⟨b5, mb5, cb5, hvb5, hmb5, hbb5⟩ := H.ptSub (i := 0) rfl e2 hx3
                  refine WL.ev rfl rfl (Ev.ixSub rfl el76 sz90 rfl hvb5 rfl hg9 hmb5) ?_
                  obtain ⟨hA5, hI10, hS5, H⟩ := elO_Occurrence H (i := 0) rfl hx3 hbb5
                  refine WL.ev rfl rfl (Ev.lda rfl ag90 sz90 rfl hA5 rfl) ?_
                  obtain ⟨hg10, hm3⟩ := grd_some hm3
                  obtain ⟨x5, hx5, hm3⟩ := bd hm3
                  obtain ⟨b6, cb6, hvb6, hbb6⟩ := H.ptO (i := 0) rfl hx5
                  refine WL.ev rfl rfl (Ev.ixV rfl el76 sz90 rfl hvb6 rfl hg10 (lt_of hx5)) ?_
                  refine WL.stOf (i := 0) (z := x3) rfl rfl rfl sz90 rfl rfl rfl (fun _ => ⟨rfl, hI10, hS5, rfl⟩) H rfl hbb6 (by simpa using lt_of hx5) fun w5 H => ?_
                  refine WL.nil ?_
                  refine CW.reg ?_
                  refine Wmv rfl rfl rfl rfl ?_
                  obtain ⟨hg11, hm3⟩ := grd_some hm3
                  refine WL.ev rfl rfl (Ev.bin rfl rfl rfl (Bin.add hg11)) (Wsn rfl rfl rfl rfl ?_)
                  obtain rfl := sm hm3
                  exact ⟨(s5 + 1), (List.set s4 s5.toNat x3), rfl, ⟨rfl, rfl, rfl, rfl, trivial⟩, hg11, H.keep 2 1⟩
                · have hm3 := ifp h5 hm3
                  refine CW.skip ?_
                  obtain rfl := sm hm3
                  exact ⟨s5, s4, rfl, ⟨rfl, rfl, rfl, rfl, trivial⟩, hI5, H.keep 2 1⟩
              · rintro ρ' w6 ⟨s7, s8, rfl, hag, hI7, H⟩
                obtain ⟨σ, rfl⟩ := ofL_ex hag
                refine CW.reg ?_
                refine Wmv rfl rfl rfl rfl ?_
                obtain ⟨hg12, hb2⟩ := grd_some hb2
                refine WL.ev rfl rfl (Ev.bin rfl rfl rfl (Bin.add hg12)) (Wsn rfl rfl rfl rfl ?_)
                obtain rfl := sm hb2
                exact ⟨⟨m4, s8, s7, (s6 + 1)⟩, ⟨rfl, rfl, rfl, rfl, trivial⟩, ⟨hs2 _ rfl, hI7, hg12, H.keep 2 1⟩, Nat.lt_succ_self _⟩
            · have hb2 := ifn h4 hb2
              refine CW.exit ?_
              obtain rfl := sm hb2
              obtain rfl := ht2 _ rfl
              exact ⟨s4, s5, rfl, ⟨rfl, rfl, trivial⟩, hI5, H.keep 2 1⟩
          · rintro ρ' w7 ⟨s2, s3, rfl, hag, hI4, H⟩
            obtain ⟨σ, rfl⟩ := ofL_ex hag
            refine Sreg ?_
            refine Wmv rfl rfl rfl rfl (Wmv rfl rfl rfl rfl ?_)
            obtain ⟨hg13, hb1⟩ := grd_some hb1
            obtain ⟨hg14, hb1⟩ := grd_some hb1
            obtain ⟨A2, n2, c2, e4, hc2⟩ := H.subO (i := 0) rfl hg14
            refine WL.ev rfl rfl (Ev.slLV rfl el76 sz90 rfl rfl ((Int.toNat_of_nonneg hg13).symm) hc2 e4) ?_
            refine WL.clrO (i := 0) (x0 := (⟨(0 : Int), (⟨#[]⟩ : ByteArray)⟩ : Occurrence)) rfl rfl rfl el76 sz90 ze90 (fun _ => ⟨rfl, (by decide : I64 0), (by decide), rfl⟩) rfl H rfl hc2 e4 fun w8 H => ?_
            refine WL.nil ?_
            refine Sreg ?_
            refine Wmv rfl rfl rfl rfl (Wmv rfl rfl rfl rfl ?_)
            obtain ⟨hg15, hb1⟩ := grd_some hb1
            obtain ⟨hg16, hb1⟩ := grd_some hb1
            obtain ⟨A3, n3, c3, e5, hc3, H⟩ := H.cutO (i := 0) rfl hg16
            refine WL.ev rfl rfl (Ev.slHV rfl el76 sz90 rfl rfl ((Int.toNat_of_nonneg hg15).symm) hc3 e5) (Wsn rfl rfl rfl rfl ?_)
            refine CW.ret ?_
            obtain rfl := sm hb1
            obtain rfl := ht1 _ rfl
            obtain rfl := sm hr
            exact ⟨_, res1 rfl rfl rfl, H.chg, _, _, _, rfl, H.outM (fr' := []) [true] fun _ _ => trivial⟩
        · have hb1 := ifn h3 hb1
          refine CW.skip ?_
          refine CW.reg ?_
          refine Wmv rfl rfl rfl rfl ?_
          obtain ⟨hg17, hb1⟩ := grd_some hb1
          refine WL.ev rfl rfl (Ev.bin rfl rfl rfl (Bin.add hg17)) (Wsn rfl rfl rfl rfl ?_)
          obtain rfl := sm hb1
          exact ⟨⟨m2, (s1 + 1)⟩, ⟨rfl, rfl, trivial⟩, ⟨hs1 _ rfl, hg17, H.keep 0 1⟩, Nat.lt_succ_self _⟩
      · have hb1 := ifn h2 hb1
        refine CW.exit ?_
        obtain rfl := sm hb1
        obtain rfl := ht1 _ rfl
        exact ⟨rfl, ⟨rfl, trivial⟩, H.keep 0 1⟩
    · rintro ρ' w9 ⟨rfl, hag, H⟩
      obtain ⟨σ, rfl⟩ := ofL_ex hag
      refine Sreg ?_
      refine Wmv rfl rfl rfl rfl (Wsn rfl rfl rfl rfl ?_)
      refine CW.ret ?_
      obtain rfl := sm hr
      exact ⟨_, res1 rfl rfl rfl, H.chg, _, _, _, rfl, H.outM (fr' := []) [true] fun _ _ => trivial⟩

noncomputable def iAttributeUses_m (a0 : Expr) : Option (List Occurrence) :=
  (ieveryNode_iAttributeUses_1_m a0 []).bind fun (y1, z1) =>
  (slices_SortFunc_Occurrence_m z1).bind fun z2 =>
  (slices_Compact_Occurrence_m z2).bind fun y2 =>
  some y2
theorem iAttributeUses_ok {a0 : Expr} {r : (List Occurrence)} (hr : iAttributeUses_m a0 = some r) {F0 : Nat → Prop} {w0 : World} {ca0 : List Value} (ha0 : rd F0 w0 a0 ca0) :
    Ret Tryz.prog 63 #[.agg ca0.toArray] w0 (fun _ => False) fun v w => ∃ A0 : Option Addr, ∃ n0 c0 : Nat, v = (.slice A0 n0 c0) ∧ HL F0 [] w0 w [] [It.O 90 r (.slice A0 n0 c0)] := by
  have H := (HL.start F0 w0).argR ha0
  obtain ⟨A1, n1, c1, rfl, hI1, hI2, hI3, hI4, hS1, hS2, H⟩ := op_Expr H (i := 0) rfl
  refine enter Tryz.func63 rfl rfl rfl ?_
  refine Sreg ?_
  refine WL.boxH rfl rfl rfl rfl rfl H fun b1 w1 H => ?_
  refine Wsn rfl rfl rfl rfl ?_
  refine Sreg ?_
  refine WL.lit0H (α := Occurrence) rfl rfl rfl el76 sz90 H fun A2 n2 c2 w2 H => ?_
  refine WL.allocH rfl rfl rfl ze76 H fun b2 w3 H => ?_
  refine WL.stB (i := 2) rfl rfl rfl sz76 rfl rfl rfl rfl (all1 rfl all0) H rfl rfl rfl fun w4 H => ?_
  refine WL.nil ?_
  refine Sreg ?_
  refine WL.ev rfl rfl (Ev.lda rfl ag86 sz86 rfl (At.blk (H.rB (i := 0) rfl)) rfl) (WL.ev rfl rfl (Ev.mkfL rfl rfl rfl) ?_)
  obtain ⟨⟨y1, z1⟩, hy1, hr⟩ := bd hr
  obtain ⟨F', M', hfF, hoF, hcM⟩ := H.callN [false, true, true] ⟨noO, noB, trivial⟩
  obtain ⟨H', hcN⟩ := hcM (ps := [Pr.S a0.Args (.slice A1 n1 c1)]) ⟨hfF.get (i := 1) rfl, trivial⟩
  refine WL.call rfl rfl rfl rfl rfl ok126 rfl (ieveryNode_iAttributeUses_1_ok hy1 hI1 hI2 hI3 hI4 hS1 hS2 H') ?_
  rintro _ w5 hE ⟨A3, n3, c3, rfl, H'⟩
  have H := hcN 2 H' rfl ⟨fun _ _ _ _ _ h => h, ⟨fun _ _ _ _ _ h => h, trivial⟩⟩
  refine WL.nil ?_
  refine Sreg ?_
  refine WL.ev rfl rfl (Ev.ld rfl ag76 rfl ((H.rB (i := 2) rfl).cell rfl)) ?_
  obtain ⟨z2, hy2, hr⟩ := bd hr
  obtain ⟨F', M', hfF, hoF, hcM⟩ := H.callN [false, true, false] ⟨noO, trivial⟩
  obtain ⟨H', hcN⟩ := hcM (ps := []) trivial
  refine WL.call rfl rfl rfl rfl rfl ok128 rfl (slices_SortFunc_Occurrence_ok hy2 H') ?_
  rintro _ w6 hE ⟨rfl, H'⟩
  have H := hcN 1 H' rfl ⟨fun _ _ _ _ _ h => h, trivial⟩
  refine WL.nil ?_
  refine Sreg ?_
  refine WL.ev rfl rfl (Ev.ld rfl ag76 rfl ((H.rB (i := 2) rfl).cell rfl)) ?_
  obtain ⟨y2, hy3, hr⟩ := bd hr
  obtain ⟨F', M', hfF, hoF, hcM⟩ := H.callN [false, true, false] ⟨noO, trivial⟩
  obtain ⟨H', hcN⟩ := hcM (ps := []) trivial
  refine WL.call rfl rfl rfl rfl rfl ok130 rfl (slices_Compact_Occurrence_ok hy3 H') ?_
  rintro _ w7 hE ⟨A4, n4, c4, rfl, H'⟩
  have H := hcN 1 H' rfl ⟨fun _ _ _ _ _ h => h, trivial⟩
  refine Wsn rfl rfl rfl rfl ?_
  refine CW.ret ?_
  obtain rfl := sm hr
  exact ⟨_, res1 rfl rfl rfl, H.ext0, _, _, _, rfl, H.outM (fr' := []) [false, true, false] fun _ _ => trivial⟩

noncomputable def slices_Index_Occurrence_L1 (a1 : Occurrence) : Nat → Occurrence → Unit → Option (Unit ⊕ Int) := fun k1 x1 _ => 
  if a1 = x1 then (
  some (.inr (k1 : Int))
  ) else (
  some (.inl ())
  )
noncomputable def slices_Index_Occurrence_m (a0 : (List Occurrence)) (a1 : Occurrence) : Option Int :=
  (findL (slices_Index_Occurrence_L1 a1) 0 a0 ()).bind <| onr (fun r1 => some r1) fun _ =>
  some (-1)
theorem slices_Index_Occurrence_ok {a0 : (List Occurrence)} {a1 : Occurrence} {r : Int} (hr : slices_Index_Occurrence_m a0 a1 = some r) {F0 : Nat → Prop} {w0 : World} {z0 : Value} (ha0 : rdS F0 w0 a0 z0) {ca1 : List Value} (ha1 : rd F0 w0 a1 ca1) :
    Ret Tryz.prog 132 #[z0, .agg ca1.toArray] w0 (fun _ => False) fun v w => v = .int .i64 r ∧ I64 r := by
  obtain ⟨A0', n0', c0', rfl⟩ := ha0.form3
  have H := ((HL.start F0 w0).argS ha0).argR ha1
  obtain ⟨rfl, hI1, hS1, H⟩ := op_Occurrence H (i := 1) rfl
  refine enter Tryz.func132 rfl rfl rfl ?_
  refine Sreg ?_
  refine WL.boxH rfl rfl rfl rfl rfl H fun b1 w1 H => ?_
  refine Wsn rfl rfl rfl rfl ?_
  refine SSr ?_
  refine Wmv rfl rfl rfl rfl ?_
  have hl1 := (H.rS (i := 0) rfl).I
  refine WL.ev rfl rfl (Ev.lenV rfl el76 rfl (H.rS (i := 0) rfl)) (Wmv rfl rfl rfl rfl (WL.nil ?_))
  obtain ⟨q1, hq1, hr⟩ := bd hr
  refine CW.block (CW.loop (α := Nat) (fun k1 => [(0, .slice A0' n0' c0'), (3, .pointer (some ⟨b1, 0, none⟩)), (7, .int .i64 (a0.length : Int)), (8, .int .i64 (k1 : Int))]) (fun k1 w => k1 ≤ a0.length ∧ findL (slices_Index_Occurrence_L1 a1) k1 (a0.drop k1) () = some q1 ∧ HL F0 [] w0 w [Pr.S a0 (.slice A0' n0' c0'), Pr.R a1 [.int .i64 a1.Pos, .string a1.Name]] [It.B b1 90 [.int .i64 a1.Pos, .string a1.Name]]) (fun k1 => a0.length - k1) 0 ⟨rfl, rfl, rfl, rfl, trivial⟩ ⟨Nat.zero_le _, hq1, H.keep 2 1⟩ ?_)
  rintro k1 σ w2 ⟨hk1, hq1, H⟩
  refine Sreg ?_
  refine WL.ev rfl rfl (Ev.bin rfl rfl rfl Bin.lss) (WL.nil ?_)
  refine CW.seq (CW.condD rfl (fun h1 => ?_) (fun h1 => ?_))
  · have hk2 := cast_lt h1
    obtain ⟨x1, z1, hx1, hb1, hs1, ht1⟩ := findL_go hq1 hk2
    refine CW.skip ?_
    refine CW.seq (CW.block (Sreg ?_))
    refine Wmv rfl rfl rfl rfl (Wsn rfl rfl rfl rfl ?_)
    refine CW.seq (CW.quiet hmix (by kernel_rfl) ?_)
    refine QL.ev rfl rfl (fun _ hq => Ev.lda rfl ag90 sz90 rfl (At.blk ((H.ext hq).rB (i := 0) rfl)) rfl) (QL.ev rfl rfl (fun _ _ => Ev.mv rfl rfl) (QL.ev rfl rfl (fun _ _ => Ev.mv rfl rfl) ?_))
    obtain ⟨b2, ob2, cb2, hvb2, hI2, hS2, H⟩ := ixS_Occurrence H (i := 0) rfl hx1
    refine QL.ev rfl rfl (fun _ _ => Ev.ixVN rfl el76 sz90 rfl hvb2 rfl (lt_of hx1)) (QL.ev rfl rfl (fun _ hq => Ev.lda rfl ag90 sz90 rfl ((H.ext hq).rA (i := 2) rfl) rfl) (QL.ev rfl rfl (fun _ _ => Ev.bin rfl rfl rfl (Bin.eqlF fl90 (Occurrence_eqF a1 x1))) (QL.nil (fun w3 hE => ?_))))
    have H := H.ext hE
    refine CW.condD rfl (fun h2 => ?_) (fun h2 => ?_)
    · have hb1 := ifp h2 hb1
      refine Sreg ?_
      refine Wmv rfl rfl rfl rfl (Wsn rfl rfl rfl rfl ?_)
      refine CW.ret ?_
      obtain rfl := sm hb1
      obtain rfl := ht1 _ rfl
      obtain rfl := sm hr
      exact ⟨_, res1 rfl rfl rfl, H.ext0, rfl, (i64_nat hk2 hl1)⟩
    · have hb1 := ifn h2 hb1
      refine CW.skip ?_
      refine CW.reg ?_
      refine WL.ev rfl rfl (Ev.bin rfl rfl rfl (Bin.addN (a := k1) (b := 1) rfl (i64_succN hk2 hl1.2))) (Wmv rfl rfl rfl rfl (WL.nil ?_))
      obtain rfl := sm hb1
      have hq1 := hs1 _ rfl
      exact ⟨(k1 + 1), ⟨rfl, rfl, rfl, rfl, trivial⟩, ⟨hk2, hq1, H.keep 2 1⟩, Nat.sub_lt_sub_left hk2 (Nat.lt_succ_self _)⟩
  · obtain rfl := findL_end hq1 (not_cast_lt h1)
    have hr := (onr_inl _ _ _).symm.trans hr
    refine CW.exit ?_
    refine Sreg ?_
    refine Wsn rfl rfl rfl rfl ?_
    refine CW.ret ?_
    obtain rfl := sm hr
    exact ⟨_, res1 rfl rfl rfl, H.ext0, rfl, (by decide : I64 (-1))⟩

noncomputable def sl12At_L1 (a1 : ByteArray) : Nat → Symbol → Unit → Option (Unit ⊕ Int) := fun k1 x1 _ => 
  if x1.Name = a1 then (
  some (.inr (k1 : Int))
  ) else (
  some (.inl ())
  )
noncomputable def sl12At_m (a0 : Grammar) (a1 : ByteArray) : Option Int :=
  (findL (sl12At_L1 a1) 0 a0.Symbols ()).bind <| onr (fun r1 => some r1) fun _ =>
  some (-1)
theorem sl12At_ok {a0 : Grammar} {a1 : ByteArray} {r : Int} (hr : sl12At_m a0 a1 = some r) {F0 : Nat → Prop} {w0 : World} {ca0 : List Value} (ha0 : rd F0 w0 a0 ca0) (ha1 : a1.size ≤ 9223372036854775807) :
    Ret Tryz.prog 140 #[.agg ca0.toArray, .string a1] w0 (fun _ => False) fun v w => v = .int .i64 r ∧ I64 r := by
  have H := (HL.start F0 w0).argR ha0
  obtain ⟨A1, n1, c1, A2, n2, c2, rfl, H⟩ := op_Grammar H (i := 0) rfl
  refine enter Tryz.func140 rfl rfl rfl ?_
  refine Sreg ?_
  refine WL.boxH rfl rfl rfl rfl rfl H fun b1 w1 H => ?_
  refine Wsn rfl rfl rfl rfl ?_
  refine SSr ?_
  refine Wsn rfl rfl rfl rfl ?_
  obtain ⟨q1, hq1, hr⟩ := bd hr
  refine CW.block (CW.loop (α := Nat) (fun k1 => [(1, .string a1), (2, .pointer (some ⟨b1, 0, none⟩)), (5, .int .i64 (k1 : Int))]) (fun k1 w => k1 ≤ a0.Symbols.length ∧ findL (sl12At_L1 a1) k1 (a0.Symbols.drop k1) () = some q1 ∧ HL F0 [] w0 w [Pr.R a0 [.slice A1 n1 c1, .slice A2 n2 c2], Pr.S a0.Symbols (.slice A1 n1 c1), Pr.S a0.Rules (.slice A2 n2 c2)] [It.B b1 40 [.slice A1 n1 c1, .slice A2 n2 c2]]) (fun k1 => a0.Symbols.length - k1) 0 ⟨rfl, rfl, rfl, trivial⟩ ⟨Nat.zero_le _, hq1, H.keep 3 1⟩ ?_)
  rintro k1 σ w2 ⟨hk1, hq1, H⟩
  refine SSr ?_
  refine Wmv rfl rfl rfl rfl (Wfa rfl rfl rfl fo40_0 rfl (WL.ev rfl rfl (Ev.ld rfl ag37 rfl ((H.rB (i := 0) rfl).cell rfl)) ?_))
  have hl1 := (H.rS (i := 1) rfl).I
  refine WL.ev rfl rfl (Ev.lenV rfl el37 rfl (H.rS (i := 1) rfl)) (WL.ev rfl rfl (Ev.bin rfl rfl rfl Bin.lss) (WL.nil ?_))
  refine CW.condD rfl (fun h1 => ?_) (fun h1 => ?_)
  · have hk2 := cast_lt h1
    obtain ⟨x1, z1, hx1, hb1, hs1, ht1⟩ := findL_go hq1 hk2
    refine CW.skip ?_
    refine CW.seq (CW.block (Sreg ?_))
    refine Wfa rfl rfl rfl fo40_0 rfl (WL.ev rfl rfl (Ev.ld rfl ag37 rfl ((H.rB (i := 0) rfl).cell rfl)) (Wmv rfl rfl rfl rfl ?_))
    obtain ⟨b2, ob2, cb2, A3, n3, c3, hvb2, hS1, H⟩ := ixS_Symbol H (i := 1) rfl hx1
    refine WL.ev rfl rfl (Ev.ixVN rfl el37 sz161 rfl hvb2 rfl (lt_of hx1)) (Wfa rfl rfl rfl fo161_0 rfl (WL.ev rfl rfl (Ev.ld rfl ag9 rfl ((H.rA (i := 3) rfl).cell rfl)) (Wmv rfl rfl rfl rfl (WL.ev rfl rfl (Ev.bin rfl rfl rfl Bin.eqlS) (WL.nil ?_)))))
    refine CW.condD rfl (fun h2 => ?_) (fun h2 => ?_)
    · have hb1 := ifp h2 hb1
      refine Sreg ?_
      refine Wmv rfl rfl rfl rfl (Wsn rfl rfl rfl rfl ?_)
      refine CW.ret ?_
      obtain rfl := sm hb1
      obtain rfl := ht1 _ rfl
      obtain rfl := sm hr
      exact ⟨_, res1 rfl rfl rfl, H.ext0, rfl, (i64_nat hk2 hl1)⟩
    · have hb1 := ifn h2 hb1
      refine CW.skip ?_
      refine CW.reg ?_
      refine Wmv rfl rfl rfl rfl (WL.ev rfl rfl (Ev.bin rfl rfl rfl (Bin.addN (a := k1) (b := 1) rfl (i64_succN hk2 hl1.2))) (Wsn rfl rfl rfl rfl ?_))
      obtain rfl := sm hb1
      have hq1 := hs1 _ rfl
      exact ⟨(k1 + 1), ⟨rfl, rfl, rfl, trivial⟩, ⟨hk2, hq1, H.keep 3 1⟩, Nat.sub_lt_sub_left hk2 (Nat.lt_succ_self _)⟩
  · obtain rfl := findL_end hq1 (not_cast_lt h1)
    have hr := (onr_inl _ _ _).symm.trans hr
    refine CW.exit ?_
    refine Sreg ?_
    refine Wsn rfl rfl rfl rfl ?_
    refine CW.ret ?_
    obtain rfl := sm hr
    exact ⟨_, res1 rfl rfl rfl, H.ext0, rfl, (by decide : I64 (-1))⟩

noncomputable def sl28Phases_m (a0 : Grammar) (a1 : (List (List Phase))) (a2 : ByteArray) : Option (List Phase) :=
  (sl12At_m a0 a2).bind fun y1 =>
  (sl1In_m y1 0 ((a1.length : Int) - 1)).bind fun y2 =>
  if y2 = true then (
  grd (0 ≤ y1) <|
  (a1[y1.toNat]?).bind fun x1 =>
  some x1
  ) else (
  some []
  )
theorem sl28Phases_ok {a0 : Grammar} {a1 : (List (List Phase))} {a2 : ByteArray} {r : (List Phase)} (hr : sl28Phases_m a0 a1 a2 = some r) {F0 : Nat → Prop} {w0 : World} {ca0 : List Value} (ha0 : rd F0 w0 a0 ca0) {z1 : Value} (ha1 : rdS F0 w0 a1 z1) (ha2 : a2.size ≤ 9223372036854775807) :
    Ret Tryz.prog 81 #[.agg ca0.toArray, z1, .string a2] w0 (fun _ => False) fun v w => ∃ A0 : Option Addr, ∃ n0 c0 : Nat, v = (.slice A0 n0 c0) ∧ HL F0 [] w0 w [Pr.S r (.slice A0 n0 c0)] [] := by
  obtain ⟨A1', n1', c1', rfl⟩ := ha1.form3
  have H := ((HL.start F0 w0).argR ha0).argS ha1
  obtain ⟨A1, n1, c1, A2, n2, c2, rfl, H⟩ := op_Grammar H (i := 0) rfl
  refine enter Tryz.func81 rfl rfl rfl ?_
  refine Sreg ?_
  refine WL.boxH rfl rfl rfl rfl rfl H fun b1 w1 H => ?_
  refine Wsn rfl rfl rfl rfl ?_
  refine Sreg ?_
  refine WL.ev rfl rfl (Ev.lda rfl ag40 sz40 rfl (At.blk (H.rB (i := 0) rfl)) rfl) (Wmv rfl rfl rfl rfl ?_)
  obtain ⟨y1, hy1, hr⟩ := bd hr
  refine WL.call rfl rfl rfl rfl rfl ok140 rfl (sl12At_ok hy1 ⟨_, _, rfl, (H.rS (i := 2) rfl), (H.rS (i := 3) rfl)⟩ ha2) ?_
  rintro _ w2 hE ⟨rfl, hI1⟩
  have H := H.ext hE
  refine Wsn rfl rfl rfl rfl ?_
  refine SSr ?_
  refine Wmv rfl rfl rfl rfl (Wmv rfl rfl rfl rfl ?_)
  have hl1 := (H.rS (i := 1) rfl).I
  refine WL.ev rfl rfl (Ev.lenV rfl el59 rfl (H.rS (i := 1) rfl)) (WL.ev rfl rfl (Ev.bin rfl rfl rfl (Bin.sub (i64_sub (k := 1) hl1 (by decide)))) ?_)
  obtain ⟨y2, hy2, hr⟩ := bd hr
  refine WL.call rfl rfl rfl rfl rfl ok108 rfl (sl1In_ok hy2 (F0 := fun _ => False) hI1 (by decide : I64 0) (i64_sub (k := 1) hl1 (by decide))) ?_
  rintro _ w3 hE rfl
  have H := H.ext hE
  refine WL.ev rfl rfl (Ev.not rfl rfl) (WL.nil ?_)
  refine CW.condBN rfl (fun h1 => ?_) (fun h1 => ?_)
  · have hr := ifn h1 hr
    refine Sreg ?_
    refine WL.lit0H (α := Phase) rfl rfl rfl el125 sz129 H fun A3 n3 c3 w4 H => ?_
    have H := H.toG (i := 1) rfl
    refine Wsn rfl rfl rfl rfl ?_
    refine CW.ret ?_
    have H := H.frzG (i := 1) rfl
    obtain rfl := sm hr
    exact ⟨_, res1 rfl rfl rfl, H.ext0, _, _, _, rfl, H.outM (fr' := [Pr.S ([] : List Phase) (.slice A3 n3 c3)]) [false, false] fun _ h => ⟨h.get (i := 4) rfl, trivial⟩⟩
  · have hr := ifp h1 hr
    refine CW.skip ?_
    refine Sreg ?_
    refine Wmv rfl rfl rfl rfl (Wmv rfl rfl rfl rfl ?_)
    obtain ⟨hg1, hr⟩ := grd_some hr
    obtain ⟨x1, hx1, hr⟩ := bd hr
    obtain ⟨b2, ob2, cb2, A4, n4, c4, hvb2, H⟩ := ixS_Sl H (i := 1) rfl hx1
    refine WL.ev rfl rfl (Ev.ixV rfl el59 sz125 rfl hvb2 rfl hg1 (lt_of hx1)) (WL.ev rfl rfl (Ev.ld rfl ag125 rfl ((H.rA (i := 4) rfl).cell0 rfl)) (Wsn rfl rfl rfl rfl ?_))
    refine CW.ret ?_
    obtain rfl := sm hr
    exact ⟨_, res1 rfl rfl rfl, H.ext0, _, _, _, rfl, H.outM (fr' := [Pr.S x1 (.slice A4 n4 c4)]) [false] fun _ h => ⟨h.get (i := 6) rfl, trivial⟩⟩

noncomputable def sl28Learn_L1 (a1 : Int) : Nat → ByteArray → (List Occurrence) → Option (List Occurrence) := fun k1 x1 s1 => 
  (
  grd (((s1.length : Int) + 1) * 24 ≤ 140737488355328 ∧ (s1.length : Int) + 1 ≤ 9223372036854775807) <|
  some (s1 ++ [(⟨a1, x1⟩ : Occurrence)])
  ).bind fun s2 =>
  some s2
noncomputable def sl28Learn_m (a1 : Int) (a2 : (List ByteArray)) (o1 : l28Work) : Option l28Work :=
  (eachL (sl28Learn_L1 a1) 0 a2 o1.known).bind fun s1 =>
  some (⟨o1.g, o1.r, o1.phases, s1, o1.visits, o1.steps⟩ : l28Work)
theorem sl28Learn_ok {a1 : Int} {a2 : (List ByteArray)} {o1 : l28Work} {r : l28Work} (hr : sl28Learn_m a1 a2 o1 = some r) {F0 : Nat → Prop} {M : List Nat} {w0 : World} {bo1 : Nat} {Aa2 : Option Addr} {na2 ca2 : Nat} {Ao1_0 : Option Addr} {no1_0 co1_0 : Nat} {Ao1_1 : Option Addr} {no1_1 co1_1 : Nat} {Ao1_4 : Option Addr} {no1_4 co1_4 : Nat} {Ao1_6 : Option Addr} {no1_6 co1_6 : Nat} {Ao1_7 : Option Addr} {no1_7 co1_7 : Nat} {Ao1_8 : Option Addr} {no1_8 co1_8 : Nat} {Ao1_9 : Option Addr} {no1_9 co1_9 : Nat} {Ao1_10 : Option Addr} {no1_10 co1_10 : Nat} {Ao1_11 : Option Addr} {no1_11 co1_11 : Nat} (hIa1 : I64 a1) (hIo1_2 : o1.r.Name.size ≤ 9223372036854775807) (hIo1_3 : o1.r.Left.size ≤ 9223372036854775807) (H : HL F0 M w0 w0 [Pr.S a2 (.slice Aa2 na2 ca2), Pr.S o1.g.Symbols (.slice Ao1_0 no1_0 co1_0), Pr.S o1.g.Rules (.slice Ao1_1 no1_1 co1_1), Pr.S o1.r.Right (.slice Ao1_4 no1_4 co1_4), Pr.S o1.r.Equations (.slice Ao1_6 no1_6 co1_6), Pr.S o1.r.Contributions (.slice Ao1_7 no1_7 co1_7), Pr.S o1.phases (.slice Ao1_8 no1_8 co1_8)] [It.O 3 o1.visits (.slice Ao1_10 no1_10 co1_10), It.B bo1 124 [.slice Ao1_0 no1_0 co1_0, .slice Ao1_1 no1_1 co1_1, .string o1.r.Name, .string o1.r.Left, .slice Ao1_4 no1_4 co1_4, .bool o1.r.Literal, .slice Ao1_6 no1_6 co1_6, .slice Ao1_7 no1_7 co1_7, .slice Ao1_8 no1_8 co1_8, .slice Ao1_9 no1_9 co1_9, .slice Ao1_10 no1_10 co1_10, .slice Ao1_11 no1_11 co1_11], It.O 90 o1.known (.slice Ao1_9 no1_9 co1_9), It.O 130 o1.steps (.slice Ao1_11 no1_11 co1_11)]) :
    Ret Tryz.prog 82 #[.pointer (some ⟨bo1, 0, none⟩), .int .i64 a1, .slice Aa2 na2 ca2] w0 (· ∈ M) fun v w => ∃ A0 : Option Addr, ∃ n0 c0 : Nat, ∃ A1 : Option Addr, ∃ n1 c1 : Nat, ∃ A2 : Option Addr, ∃ n2 c2 : Nat, v = .tuple #[] ∧ r.r.Name.size ≤ 9223372036854775807 ∧ r.r.Left.size ≤ 9223372036854775807 ∧ HL F0 M w0 w [] [It.O 3 r.visits (.slice A1 n1 c1), It.B bo1 124 [.slice Ao1_0 no1_0 co1_0, .slice Ao1_1 no1_1 co1_1, .string r.r.Name, .string r.r.Left, .slice Ao1_4 no1_4 co1_4, .bool r.r.Literal, .slice Ao1_6 no1_6 co1_6, .slice Ao1_7 no1_7 co1_7, .slice Ao1_8 no1_8 co1_8, (.slice A0 n0 c0), (.slice A1 n1 c1), (.slice A2 n2 c2)], It.O 90 r.known (.slice A0 n0 c0), It.O 130 r.steps (.slice A2 n2 c2)] := by
  refine enter Tryz.func82 rfl rfl rfl ?_
  refine Sreg ?_
  refine Wsn rfl rfl rfl rfl ?_
  obtain ⟨q1, hq1, hr⟩ := bd hr
  refine CW.block (CW.loop (α := Nat × (List Occurrence) × Value) (fun ⟨k1, s1, v1⟩ => [(0, .pointer (some ⟨bo1, 0, none⟩)), (1, .int .i64 a1), (2, .slice Aa2 na2 ca2), (6, .int .i64 (k1 : Int))]) (fun ⟨k1, s1, v1⟩ w => k1 ≤ a2.length ∧ eachL (sl28Learn_L1 a1) k1 (a2.drop k1) s1 = some q1 ∧ HL F0 M w0 w [Pr.S a2 (.slice Aa2 na2 ca2), Pr.S o1.g.Symbols (.slice Ao1_0 no1_0 co1_0), Pr.S o1.g.Rules (.slice Ao1_1 no1_1 co1_1), Pr.S o1.r.Right (.slice Ao1_4 no1_4 co1_4), Pr.S o1.r.Equations (.slice Ao1_6 no1_6 co1_6), Pr.S o1.r.Contributions (.slice Ao1_7 no1_7 co1_7), Pr.S o1.phases (.slice Ao1_8 no1_8 co1_8)] [It.O 3 o1.visits (.slice Ao1_10 no1_10 co1_10), It.B bo1 124 [.slice Ao1_0 no1_0 co1_0, .slice Ao1_1 no1_1 co1_1, .string o1.r.Name, .string o1.r.Left, .slice Ao1_4 no1_4 co1_4, .bool o1.r.Literal, .slice Ao1_6 no1_6 co1_6, .slice Ao1_7 no1_7 co1_7, .slice Ao1_8 no1_8 co1_8, v1, .slice Ao1_10 no1_10 co1_10, .slice Ao1_11 no1_11 co1_11], It.O 90 s1 v1, It.O 130 o1.steps (.slice Ao1_11 no1_11 co1_11)]) (fun ⟨k1, s1, v1⟩ => a2.length - k1) ⟨0, o1.known, (.slice Ao1_9 no1_9 co1_9)⟩ ⟨rfl, rfl, rfl, rfl, trivial⟩ ⟨Nat.zero_le _, hq1, H.keep 7 4⟩ ?_)
  rintro ⟨k1, s1, v1⟩ σ w1 ⟨hk1, hq1, H⟩
  obtain ⟨A1, n1, c1, rfl⟩ := (H.rO (i := 2) rfl).form3
  refine SSr ?_
  refine Wmv rfl rfl rfl rfl (Wmv rfl rfl rfl rfl ?_)
  have hl1 := (H.rS (i := 0) rfl).I
  refine WL.ev rfl rfl (Ev.lenV rfl el26 rfl (H.rS (i := 0) rfl)) (WL.ev rfl rfl (Ev.bin rfl rfl rfl Bin.lss) (WL.nil ?_))
  refine CW.condD rfl (fun h1 => ?_) (fun h1 => ?_)
  · have hk2 := cast_lt h1
    obtain ⟨x1, z1, hx1, hb1, hq1⟩ := eachL_go hq1 hk2
    refine CW.skip ?_
    obtain ⟨q2, hm1, hb1⟩ := bd hb1
    refine CW.seq (CW.block (CW.mid (fun ρ' w => ∃ (s2 : List Occurrence) (v2 : Value), s2 = q2 ∧ agree ρ' [(0, .pointer (some ⟨bo1, 0, none⟩)), (1, .int .i64 a1), (2, .slice Aa2 na2 ca2), (6, .int .i64 (k1 : Int))] ∧ HL F0 M w0 w [Pr.S a2 (.slice Aa2 na2 ca2), Pr.S o1.g.Symbols (.slice Ao1_0 no1_0 co1_0), Pr.S o1.g.Rules (.slice Ao1_1 no1_1 co1_1), Pr.S o1.r.Right (.slice Ao1_4 no1_4 co1_4), Pr.S o1.r.Equations (.slice Ao1_6 no1_6 co1_6), Pr.S o1.r.Contributions (.slice Ao1_7 no1_7 co1_7), Pr.S o1.phases (.slice Ao1_8 no1_8 co1_8)] [It.O 3 o1.visits (.slice Ao1_10 no1_10 co1_10), It.B bo1 124 [.slice Ao1_0 no1_0 co1_0, .slice Ao1_1 no1_1 co1_1, .string o1.r.Name, .string o1.r.Left, .slice Ao1_4 no1_4 co1_4, .bool o1.r.Literal, .slice Ao1_6 no1_6 co1_6, .slice Ao1_7 no1_7 co1_7, .slice Ao1_8 no1_8 co1_8, v2, .slice Ao1_10 no1_10 co1_10, .slice Ao1_11 no1_11 co1_11], It.O 90 s2 v2, It.O 130 o1.steps (.slice Ao1_11 no1_11 co1_11)]) ?_ ?_))
    · obtain ⟨b1, ob1, cb1, hvb1, hS1, H⟩ := ixS_Str H (i := 0) rfl hx1
      refine CW.held (fun w => ∃ v1_9_ : Value, ∃ o2_ : It, HL F0 M w0 w [Pr.S a2 (.slice Aa2 na2 ca2), Pr.S o1.g.Symbols (.slice Ao1_0 no1_0 co1_0), Pr.S o1.g.Rules (.slice Ao1_1 no1_1 co1_1), Pr.S o1.r.Right (.slice Ao1_4 no1_4 co1_4), Pr.S o1.r.Equations (.slice Ao1_6 no1_6 co1_6), Pr.S o1.r.Contributions (.slice Ao1_7 no1_7 co1_7), Pr.S o1.phases (.slice Ao1_8 no1_8 co1_8), Pr.A b1 (ob1 + k1 * 1) [.string x1], Pr.R x1 [.string x1]] [It.O 3 o1.visits (.slice Ao1_10 no1_10 co1_10), It.B bo1 124 [.slice Ao1_0 no1_0 co1_0, .slice Ao1_1 no1_1 co1_1, .string o1.r.Name, .string o1.r.Left, .slice Ao1_4 no1_4 co1_4, .bool o1.r.Literal, .slice Ao1_6 no1_6 co1_6, .slice Ao1_7 no1_7 co1_7, .slice Ao1_8 no1_8 co1_8, v1_9_, .slice Ao1_10 no1_10 co1_10, .slice Ao1_11 no1_11 co1_11], o2_, It.O 130 o1.steps (.slice Ao1_11 no1_11 co1_11)]) hmix (fun w2 hE => ?_)
      have H := H.ext hE
      refine HW.take 0 ⟨_, _, H.keep 9 4⟩ rfl (by kernel_rfl) rfl rfl (fun _ _ => Ev.mv rfl rfl) ?_
      refine HW.take 1 ⟨_, _, H.keep 9 4⟩ rfl (by kernel_rfl) rfl rfl (fun _ _ => Ev.mv rfl rfl) ?_
      refine HW.take 2 ⟨_, _, H.keep 9 4⟩ rfl (by kernel_rfl) rfl rfl (fun _ _ => Ev.nilc rfl rfl) ?_
      refine HW.take 3 ⟨_, _, H.keep 9 4⟩ rfl (by kernel_rfl) rfl rfl (fun _ _ => Ev.fa rfl fo124_3 rfl) ?_
      refine HW.take 5 ⟨_, _, H.keep 9 4⟩ rfl (by kernel_rfl) rfl rfl (fun _ _ => Ev.mv rfl rfl) ?_
      refine HW.take 6 ⟨_, _, H.keep 9 4⟩ rfl (by kernel_rfl) rfl rfl (fun _ _ => Ev.mv rfl rfl) ?_
      refine HW.take 7 ⟨_, _, H.keep 9 4⟩ rfl (by kernel_rfl) rfl rfl (fun _ _ => Ev.mv rfl rfl) ?_
      refine HW.take 8 ⟨_, _, H.keep 9 4⟩ rfl (by kernel_rfl) rfl rfl (fun _ _ => Ev.ixVN rfl el26 sz9 rfl hvb1 rfl (lt_of hx1)) ?_
      refine HW.take 9 ⟨_, _, H.keep 9 4⟩ rfl (by kernel_rfl) rfl rfl (fun _ ⟨_, _, hq⟩ => Ev.ld rfl ag9 rfl ((hq.rA (i := 7) rfl).cell0 rfl)) ?_
      refine HW.take 10 ⟨_, _, H.keep 9 4⟩ rfl (by kernel_rfl) rfl rfl (fun _ _ => Ev.build rfl pl90 ze90 rfl rfl rfl rfl) ?_
      refine HW.some [4, 11] (by kernel_rfl) rfl ⟨HW.do1 rfl ?_, HW.do1 rfl ?_, trivial⟩
      · refine WL.ev rfl rfl (Ev.ld rfl ag76 rfl ((H.rB (i := 1) rfl).cell rfl)) ?_
        refine HW.next ⟨_, _, H.keep 9 4⟩ ?_
        refine HW.eff 11 rfl (by kernel_rfl) ?_
        refine WL.lit1 rfl rfl rfl el76 sz90 ze90 rfl rfl rfl rfl rfl rfl fun b2 w3 hE hb hB => ?_
        have H := H.newB hE hb hB
        refine HW.next ⟨_, _, H.keep 9 4⟩ ?_
        refine HW.eff 12 rfl (by kernel_rfl) ?_
        obtain ⟨hg1, hm1⟩ := grd_some hm1
        refine WL.appO (i := 2) (ys := [(⟨a1, x1⟩ : Occurrence)]) rfl rfl rfl el76 sz90 by90 ze90 rfl rfl rfl H rfl (fun _ => ownL.single ⟨rfl, hIa1, hS1, rfl⟩) (.inr ⟨_, _, rfl, At.blk (H.rB (i := 4) rfl)⟩) hg1 fun A2 n2 c2 w4 H => ?_
        refine HW.next ⟨_, _, H.keep 9 4⟩ ?_
        refine HW.take 13 ⟨_, _, H.keep 9 4⟩ rfl (by kernel_rfl) rfl rfl (fun _ _ => Ev.nilc rfl rfl) ?_
        refine HW.take 14 ⟨_, _, H.keep 9 4⟩ rfl (by kernel_rfl) rfl rfl (fun _ _ => Ev.fa rfl fo124_3 rfl) ?_
        refine HW.eff 15 rfl (by kernel_rfl) ?_
        refine WL.stB (i := 1) rfl rfl rfl sz76 rfl rfl rfl rfl (all1 rfl all0) H rfl rfl rfl fun w5 H => ?_
        refine HW.next ⟨_, _, H.keep 9 4⟩ ?_
        refine HW.done (by kernel_rfl) ?_
        obtain rfl := sm hm1
        exact ⟨(s1 ++ [(⟨a1, x1⟩ : Occurrence)]), _, rfl, ⟨rfl, rfl, rfl, rfl, trivial⟩, H.keep 7 4⟩
      · obtain ⟨hg1, hm1⟩ := grd_some hm1
        refine WL.lit1 rfl rfl rfl el76 sz90 ze90 rfl rfl rfl rfl rfl rfl fun b2 w3 hE hb hB => ?_
        have H := H.newB hE hb hB
        refine HW.next ⟨_, _, H.keep 9 4⟩ ?_
        refine HW.eff 4 rfl (by kernel_rfl) ?_
        refine WL.ev rfl rfl (Ev.ld rfl ag76 rfl ((H.rB (i := 1) rfl).cell rfl)) ?_
        refine HW.next ⟨_, _, H.keep 9 4⟩ ?_
        refine HW.eff 12 rfl (by kernel_rfl) ?_
        refine WL.appO (i := 2) (ys := [(⟨a1, x1⟩ : Occurrence)]) rfl rfl rfl el76 sz90 by90 ze90 rfl rfl rfl H rfl (fun _ => ownL.single ⟨rfl, hIa1, hS1, rfl⟩) (.inr ⟨_, _, rfl, At.blk (H.rB (i := 4) rfl)⟩) hg1 fun A2 n2 c2 w4 H => ?_
        refine HW.next ⟨_, _, H.keep 9 4⟩ ?_
        refine HW.take 13 ⟨_, _, H.keep 9 4⟩ rfl (by kernel_rfl) rfl rfl (fun _ _ => Ev.nilc rfl rfl) ?_
        refine HW.take 14 ⟨_, _, H.keep 9 4⟩ rfl (by kernel_rfl) rfl rfl (fun _ _ => Ev.fa rfl fo124_3 rfl) ?_
        refine HW.eff 15 rfl (by kernel_rfl) ?_
        refine WL.stB (i := 1) rfl rfl rfl sz76 rfl rfl rfl rfl (all1 rfl all0) H rfl rfl rfl fun w5 H => ?_
        refine HW.next ⟨_, _, H.keep 9 4⟩ ?_
        refine HW.done (by kernel_rfl) ?_
        obtain rfl := sm hm1
        exact ⟨(s1 ++ [(⟨a1, x1⟩ : Occurrence)]), _, rfl, ⟨rfl, rfl, rfl, rfl, trivial⟩, H.keep 7 4⟩
    · rintro ρ' w6 ⟨s2, v2, rfl, hag, H⟩
      obtain ⟨σ, rfl⟩ := ofL_ex hag
      obtain ⟨A3, n3, c3, rfl⟩ := (H.rO (i := 2) rfl).form3
      refine CW.reg ?_
      refine Wmv rfl rfl rfl rfl (WL.ev rfl rfl (Ev.bin rfl rfl rfl (Bin.addN (a := k1) (b := 1) rfl (i64_succN hk2 hl1.2))) (Wsn rfl rfl rfl rfl ?_))
      obtain rfl := sm hb1
      exact ⟨⟨k1 + 1, s2, (.slice A3 n3 c3)⟩, ⟨rfl, rfl, rfl, rfl, trivial⟩, ⟨hk2, hq1, H.keep 7 4⟩, Nat.sub_lt_sub_left hk2 (Nat.lt_succ_self _)⟩
  · obtain rfl := eachL_end hq1 (not_cast_lt h1)
    refine CW.exit ?_
    obtain rfl := sm hr
    exact ⟨_, res0 rfl, H.chg, _, _, _, _, _, _, _, _, _, rfl, hIo1_2, hIo1_3, H.outM (fr' := []) [true, true, true, true] fun _ _ => trivial⟩

noncomputable def sRequiredOccurrences_L2 (s3 : Int) : Nat → Attribute → (List Occurrence) → Option (List Occurrence) := fun k1 x1 s5 => 
  (
  if x1.Mode = 2 then (
  grd (((s5.length : Int) + 1) * 24 ≤ 140737488355328 ∧ (s5.length : Int) + 1 ≤ 9223372036854775807) <|
  some (s5 ++ [(⟨s3, x1.Name⟩ : Occurrence)])
  ) else (
  some s5
  )
  ).bind fun s6 =>
  some s6
noncomputable def sRequiredOccurrences_L3 (s3 : Int) : Nat → Attribute → (List Occurrence) → Option (List Occurrence) := fun k2 x2 s7 => 
  (
  if x2.Mode = 1 then (
  grd (((s7.length : Int) + 1) * 24 ≤ 140737488355328 ∧ (s7.length : Int) + 1 ≤ 9223372036854775807) <|
  some (s7 ++ [(⟨s3, x2.Name⟩ : Occurrence)])
  ) else (
  some s7
  )
  ).bind fun s8 =>
  some s8
noncomputable def sRequiredOccurrences_L1 (a0 : Grammar) (a1 : Rule) : ((List Occurrence) × Int) → Option (((List Occurrence) × Int) ⊕ (List Occurrence)) := fun (s2, s3) => 
  if s3 ≤ (a1.Right.length : Int) then (
  (
  (sSymbolAt_m a1 s3).bind fun y1 =>
  (sFindSymbol_m a0 y1).bind fun (y2, y3) =>
  if s3 = 0 then (
  (eachL (sRequiredOccurrences_L2 s3) 0 y2.Attributes s2).bind fun s5 =>
  some s5
  ) else (
  (eachL (sRequiredOccurrences_L3 s3) 0 y2.Attributes s2).bind fun s7 =>
  some s7
  )
  ).bind fun s4 =>
  grd (I64 (s3 + 1)) <|
  some (.inl (s4, (s3 + 1)))
  ) else (
  some (.inr s2)
  )
noncomputable def sRequiredOccurrences_m (a0 : Grammar) (a1 : Rule) : Option (List Occurrence) :=
  (
  iterO (sRequiredOccurrences_L1 a0 a1) (([] : List Occurrence), 0)
  ).bind fun s1 =>
  some s1
theorem sRequiredOccurrences_ok {a0 : Grammar} {a1 : Rule} {r : (List Occurrence)} (hr : sRequiredOccurrences_m a0 a1 = some r) {F0 : Nat → Prop} {w0 : World} {ca0 : List Value} (ha0 : rd F0 w0 a0 ca0) {ca1 : List Value} (ha1 : rd F0 w0 a1 ca1) :
    Ret Tryz.prog 142 #[.agg ca0.toArray, .agg ca1.toArray] w0 (fun _ => False) fun v w => ∃ A0 : Option Addr, ∃ n0 c0 : Nat, v = (.slice A0 n0 c0) ∧ HL F0 [] w0 w [] [It.O 90 r (.slice A0 n0 c0)] := by
  have H := ((HL.start F0 w0).argR ha0).argR ha1
  obtain ⟨A1, n1, c1, A2, n2, c2, rfl, H⟩ := op_Grammar H (i := 0) rfl
  obtain ⟨A3, n3, c3, A4, n4, c4, A5, n5, c5, rfl, hS1, hS2, H⟩ := op_Rule H (i := 1) rfl
  refine enter Tryz.func142 rfl rfl rfl ?_
  refine Sreg ?_
  refine WL.boxH rfl rfl rfl rfl rfl H fun b1 w1 H => ?_
  refine WL.boxH rfl rfl rfl rfl rfl H fun b2 w2 H => ?_
  refine Wsn rfl rfl rfl rfl ?_
  refine Sreg ?_
  refine WL.lit0H (α := Occurrence) rfl rfl rfl el76 sz90 H fun A6 n6 c6 w3 H => ?_
  refine Wsn rfl rfl rfl rfl ?_
  refine SSr ?_
  refine Wsn rfl rfl rfl rfl ?_
  obtain ⟨q1, hm1, hr⟩ := bd hr
  refine CW.mid (fun ρ' w => ∃ (s1 : List Occurrence) (v1 : Value), s1 = q1 ∧ agree ρ' [(5, v1)] ∧ HL F0 [] w0 w [Pr.R a0 [.slice A1 n1 c1, .slice A2 n2 c2], Pr.R a1 [.string a1.Name, .string a1.Left, .slice A3 n3 c3, .bool a1.Literal, .slice A4 n4 c4, .slice A5 n5 c5], Pr.S a0.Symbols (.slice A1 n1 c1), Pr.S a0.Rules (.slice A2 n2 c2), Pr.S a1.Right (.slice A3 n3 c3), Pr.S a1.Equations (.slice A4 n4 c4), Pr.S a1.Contributions (.slice A5 n5 c5)] [It.B b1 40 [.slice A1 n1 c1, .slice A2 n2 c2], It.B b2 45 [.string a1.Name, .string a1.Left, .slice A3 n3 c3, .bool a1.Literal, .slice A4 n4 c4, .slice A5 n5 c5], It.O 90 s1 v1]) ?_ ?_
  · obtain ⟨m1, hq1⟩ := iterO_some.1 hm1
    refine CW.block (CW.loop (α := Nat × (List Occurrence) × Int × Value) (fun ⟨m1, s2, s3, v2⟩ => [(2, .pointer (some ⟨b1, 0, none⟩)), (3, .pointer (some ⟨b2, 0, none⟩)), (5, v2), (6, .int .i64 s3)]) (fun ⟨m1, s2, s3, v2⟩ w => iterN (sRequiredOccurrences_L1 a0 a1) m1 (s2, s3) = some q1 ∧ I64 s3 ∧ HL F0 [] w0 w [Pr.R a0 [.slice A1 n1 c1, .slice A2 n2 c2], Pr.R a1 [.string a1.Name, .string a1.Left, .slice A3 n3 c3, .bool a1.Literal, .slice A4 n4 c4, .slice A5 n5 c5], Pr.S a0.Symbols (.slice A1 n1 c1), Pr.S a0.Rules (.slice A2 n2 c2), Pr.S a1.Right (.slice A3 n3 c3), Pr.S a1.Equations (.slice A4 n4 c4), Pr.S a1.Contributions (.slice A5 n5 c5)] [It.B b1 40 [.slice A1 n1 c1, .slice A2 n2 c2], It.B b2 45 [.string a1.Name, .string a1.Left, .slice A3 n3 c3, .bool a1.Literal, .slice A4 n4 c4, .slice A5 n5 c5], It.O 90 s2 v2]) (fun ⟨m1, s2, s3, v2⟩ => m1) ⟨m1, ([] : List Occurrence), 0, (.slice A6 n6 c6)⟩ ⟨rfl, rfl, rfl, rfl, trivial⟩ ⟨hq1, (by decide : I64 0), H.keep 7 3⟩ ?_)
    rintro ⟨m1, s2, s3, v2⟩ σ w4 ⟨hq1, hI1, H⟩
    obtain ⟨A7, n7, c7, rfl⟩ := (H.rO (i := 2) rfl).form3
    obtain ⟨m2, z1, rfl, hb1, hs1, ht1⟩ := iterN_go hq1
    refine SSr ?_
    refine Wmv rfl rfl rfl rfl (Wfa rfl rfl rfl fo45_2 rfl (WL.ev rfl rfl (Ev.ld rfl ag26 rfl ((H.rB (i := 1) rfl).cell rfl)) ?_))
    have hl1 := (H.rS (i := 4) rfl).I
    refine WL.ev rfl rfl (Ev.lenV rfl el26 rfl (H.rS (i := 4) rfl)) (WL.ev rfl rfl (Ev.bin rfl rfl rfl Bin.leq) (WL.nil ?_))
    refine CW.condD rfl (fun h1 => ?_) (fun h1 => ?_)
    · have hb1 := ifp h1 hb1
      refine CW.skip ?_
      obtain ⟨q2, hm2, hb1⟩ := bd hb1
      refine CW.seq (CW.mid (fun ρ' w => ∃ (s4 : List Occurrence) (v3 : Value), s4 = q2 ∧ agree ρ' [(2, .pointer (some ⟨b1, 0, none⟩)), (3, .pointer (some ⟨b2, 0, none⟩)), (5, v3), (6, .int .i64 s3)] ∧ HL F0 [] w0 w [Pr.R a0 [.slice A1 n1 c1, .slice A2 n2 c2], Pr.R a1 [.string a1.Name, .string a1.Left, .slice A3 n3 c3, .bool a1.Literal, .slice A4 n4 c4, .slice A5 n5 c5], Pr.S a0.Symbols (.slice A1 n1 c1), Pr.S a0.Rules (.slice A2 n2 c2), Pr.S a1.Right (.slice A3 n3 c3), Pr.S a1.Equations (.slice A4 n4 c4), Pr.S a1.Contributions (.slice A5 n5 c5)] [It.B b1 40 [.slice A1 n1 c1, .slice A2 n2 c2], It.B b2 45 [.string a1.Name, .string a1.Left, .slice A3 n3 c3, .bool a1.Literal, .slice A4 n4 c4, .slice A5 n5 c5], It.O 90 s4 v3]) ?_ ?_)
      · obtain ⟨y1, hy1, hm2⟩ := bd hm2
        obtain ⟨_, _, _, hS3⟩ := (sSymbolAt_ok hy1 ⟨_, _, _, rfl, hS1, hS2, (H.rS (i := 4) rfl), (H.rS (i := 5) rfl), (H.rS (i := 6) rfl)⟩ hI1).get
        obtain ⟨⟨y2, y3⟩, hy2, hm2⟩ := bd hm2
        refine CW.block (CW.seq (CW.any2 10 (fun ρ => [.fix (.agg #[.slice A1 n1 c1, .slice A2 n2 c2]), .fix (.agg #[.string a1.Name, .string a1.Left, .slice A3 n3 c3, .bool a1.Literal, .slice A4 n4 c4, .slice A5 n5 c5]), .fix (.int .i64 s3), .fix (.string y1), .free (fun S v w => ∃ A8 : Option Addr, ∃ n8 : Nat, ∃ c8 : Nat, v = .tuple #[.agg #[.string y2.Name, .slice A8 n8 c8], .bool y3] ∧ y2.Name.size ≤ 9223372036854775807 ∧ NewI S w [It.O 156 y2.Attributes (.slice A8 n8 c8)]), .dep 24 id, .dep 19 (tupAt 0), .dep 19 (tupAt 1), .free (VarB 161 2), .wr 7 25 (WrB 161)]) [[], [], [], [], [], [24], [19], [19], [], [7, 25]] NoM (fun _ _ => True) [] [none, none, none, none, none, none, none, none, none, some 8] (noM _) hmix (by kernel_rfl) rfl ⟨trivial, trivial, trivial, trivial, fun _ _ _ _ _ ⟨A8, n8, c8, hv, h0, hh⟩ hc hS hT => ⟨A8, n8, c8, hv, h0, hh.chgT hc hS⟩, trivial, trivial, trivial, fun _ _ _ _ _ h hc hS _ => h.chgT hc hS, fun _ _ _ _ _ _ h hc hS _ => h.chgT hc hS, trivial⟩ trivial (fun _ _ _ _ _ _ _ => trivial) ?_))
        refine LL2.fx rfl rfl rfl rfl rfl (fun _ hq hK => Ev.lda rfl ag40 sz40 rfl (At.blk ((H.ext hq).rB (i := 0) rfl)) rfl) ?_
        refine LL2.fx rfl rfl rfl rfl rfl (fun _ hq hK => Ev.lda rfl ag45 sz45 rfl (At.blk ((H.ext hq).rB (i := 1) rfl)) rfl) ?_
        refine LL2.fx rfl rfl rfl rfl rfl (fun _ hq hK => Ev.mv rfl rfl) ?_
        refine LL2.fixed rfl rfl rfl rfl (fun _ hq hK => OpX.call rfl rfl rfl rfl ok44 rfl (sSymbolAt_ok hy1 ⟨_, _, _, rfl, hS1, hS2, ((H.ext hq).rS (i := 4) rfl), ((H.ext hq).rS (i := 5) rfl), ((H.ext hq).rS (i := 6) rfl)⟩ hI1) fun _ _ hE h => ⟨hE, h.1⟩) ?_
        refine LL2.free rfl rfl rfl rfl (fun wq hq hK => ?_) (fun v_G1_4 S_G1_4 => ?_)
        · refine OpX.call rfl rfl rfl rfl ok159 rfl (sFindSymbol_ok hy2 ⟨_, _, rfl, ((H.ext hq).rS (i := 2) rfl), ((H.ext hq).rS (i := 3) rfl)⟩ hS3) ?_
          rintro _ w hE ⟨A8, n8, c8, rfl, h0, hh⟩
          exact ⟨hE, A8, n8, c8, rfl, h0, NewI.of hh ⟨fun _ _ _ _ _ h => h, trivial⟩⟩
        refine LL2.mv rfl rfl rfl rfl rfl (.inl rfl) rfl ?_
        refine LL2.ex rfl rfl rfl rfl rfl rfl rfl (fun wq hq hK => ?_) ?_
        · have hK : ∀ j' (_ : (directs _).contains j' = true), _ := hK 5 rfl
          obtain ⟨A8, n8, c8, rfl, _, _⟩ := hK 4 rfl
          exact ⟨_, _, rfl, rfl⟩
        refine LL2.ex rfl rfl rfl rfl rfl rfl rfl (fun wq hq hK => ?_) ?_
        · have hK : ∀ j' (_ : (directs _).contains j' = true), _ := hK 5 rfl
          obtain ⟨A8, n8, c8, rfl, _, _⟩ := hK 4 rfl
          exact ⟨_, _, rfl, rfl⟩
        refine LL2.free rfl rfl rfl rfl (fun wq hq hK => OpX.allocV rfl rfl ze161 rfl) (fun v_G1_8 S_G1_8 => ?_)
        refine LL2.st (k := 2) rfl rfl rfl (by decide) rfl rfl rfl rfl sz161 rfl rfl (fun wq hq hK => hK 8 rfl) (fun wq hq hK => ?_) ?_
        · obtain ⟨A8, n8, c8, rfl, _, _⟩ := hK 4 rfl
          exact ⟨_, rfl, rfl, (all1 rfl (all1 rfl all0))⟩
        intro w5 hE _ hK hap hbd
        have hE := chgNew hE
        obtain ⟨A8, n8, c8, rfl, hS4, hN1⟩ := hK 4 (by decide)
        obtain ⟨b3, rfl, hN2⟩ := wrNew (cells := [.string y2.Name, .slice A8 n8 c8]) (hK 8 (by decide)) (hK 9 (by decide)) rfl
        have H := H.add hE (hN1.app hN2 fun q h1 h2 => absurd (hap 4 8 q h1 h2) (by decide)) ⟨fun _ _ _ _ _ h => h, ⟨fun _ _ _ _ _ h => h, trivial⟩⟩ (fun q hq => hq.elim (fun h => (hbd 4 q h).1) fun h => (hbd 8 q h).1)
        refine Wsn rfl rfl rfl rfl ?_
        refine Sreg ?_
        refine Wsn rfl rfl rfl rfl ?_
        refine SSr ?_
        refine Wmv rfl rfl rfl rfl (WL.ev rfl rfl (Ev.bin rfl rfl rfl Bin.eql) (WL.nil ?_))
        refine CW.condD rfl (fun h2 => ?_) (fun h2 => ?_)
        · have hm2 := ifp h2 hm2
          refine CW.reg ?_
          refine Wsn rfl rfl rfl rfl ?_
          refine Sreg ?_
          refine Wsn rfl rfl rfl rfl ?_
          obtain ⟨q3, hq2, hm2⟩ := bd hm2
          refine CW.block (CW.loop (α := Nat × (List Occurrence) × Value) (fun ⟨k1, s5, v4⟩ => [(2, .pointer (some ⟨b1, 0, none⟩)), (3, .pointer (some ⟨b2, 0, none⟩)), (5, v4), (6, .int .i64 s3), (7, .pointer (some ⟨b3, 0, none⟩)), (9, .int .i64 2), (10, .int .i64 (k1 : Int))]) (fun ⟨k1, s5, v4⟩ w => k1 ≤ y2.Attributes.length ∧ eachL (sRequiredOccurrences_L2 s3) k1 (y2.Attributes.drop k1) s5 = some q3 ∧ HL F0 [] w0 w [Pr.R a0 [.slice A1 n1 c1, .slice A2 n2 c2], Pr.R a1 [.string a1.Name, .string a1.Left, .slice A3 n3 c3, .bool a1.Literal, .slice A4 n4 c4, .slice A5 n5 c5], Pr.S a0.Symbols (.slice A1 n1 c1), Pr.S a0.Rules (.slice A2 n2 c2), Pr.S a1.Right (.slice A3 n3 c3), Pr.S a1.Equations (.slice A4 n4 c4), Pr.S a1.Contributions (.slice A5 n5 c5)] [It.B b1 40 [.slice A1 n1 c1, .slice A2 n2 c2], It.B b2 45 [.string a1.Name, .string a1.Left, .slice A3 n3 c3, .bool a1.Literal, .slice A4 n4 c4, .slice A5 n5 c5], It.O 90 s5 v4, It.O 156 y2.Attributes (.slice A8 n8 c8), It.B b3 161 [.string y2.Name, .slice A8 n8 c8]]) (fun ⟨k1, s5, v4⟩ => y2.Attributes.length - k1) ⟨0, s2, (.slice A7 n7 c7)⟩ ⟨rfl, rfl, rfl, rfl, rfl, rfl, rfl, trivial⟩ ⟨Nat.zero_le _, hq2, H.keep 7 5⟩ ?_)
          rintro ⟨k1, s5, v4⟩ σ w6 ⟨hk1, hq2, H⟩
          obtain ⟨A9, n9, c9, rfl⟩ := (H.rO (i := 2) rfl).form3
          refine SSr ?_
          refine Wmv rfl rfl rfl rfl (Wfa rfl rfl rfl fo161_1 rfl (WL.ev rfl rfl (Ev.ld rfl ag81 rfl ((H.rB (i := 4) rfl).cell rfl)) ?_))
          have hl2 := (H.rO (i := 3) rfl).I
          refine WL.ev rfl rfl (Ev.lenV rfl el81 rfl (H.rO (i := 3) rfl)) (WL.ev rfl rfl (Ev.bin rfl rfl rfl Bin.lss) (WL.nil ?_))
          refine CW.condD rfl (fun h3 => ?_) (fun h3 => ?_)
          · have hk2 := cast_lt h3
            obtain ⟨x1, z2, hx1, hb2, hq2⟩ := eachL_go hq2 hk2
            refine CW.skip ?_
            obtain ⟨q4, hm3, hb2⟩ := bd hb2
            refine CW.seq (CW.mid (fun ρ' w => ∃ (s6 : List Occurrence) (v5 : Value), s6 = q4 ∧ agree ρ' [(2, .pointer (some ⟨b1, 0, none⟩)), (3, .pointer (some ⟨b2, 0, none⟩)), (5, v5), (6, .int .i64 s3), (7, .pointer (some ⟨b3, 0, none⟩)), (9, .int .i64 2), (10, .int .i64 (k1 : Int))] ∧ HL F0 [] w0 w [Pr.R a0 [.slice A1 n1 c1, .slice A2 n2 c2], Pr.R a1 [.string a1.Name, .string a1.Left, .slice A3 n3 c3, .bool a1.Literal, .slice A4 n4 c4, .slice A5 n5 c5], Pr.S a0.Symbols (.slice A1 n1 c1), Pr.S a0.Rules (.slice A2 n2 c2), Pr.S a1.Right (.slice A3 n3 c3), Pr.S a1.Equations (.slice A4 n4 c4), Pr.S a1.Contributions (.slice A5 n5 c5)] [It.B b1 40 [.slice A1 n1 c1, .slice A2 n2 c2], It.B b2 45 [.string a1.Name, .string a1.Left, .slice A3 n3 c3, .bool a1.Literal, .slice A4 n4 c4, .slice A5 n5 c5], It.O 90 s6 v5, It.O 156 y2.Attributes (.slice A8 n8 c8), It.B b3 161 [.string y2.Name, .slice A8 n8 c8]]) ?_ ?_)
            · refine CW.block (Sreg ?_)
              refine Wfa rfl rfl rfl fo161_1 rfl (WL.ev rfl rfl (Ev.ld rfl ag81 rfl ((H.rB (i := 4) rfl).cell rfl)) (Wmv rfl rfl rfl rfl ?_))
              obtain ⟨b4, cb4, hvb4, hbb4⟩ := H.ptO (i := 3) rfl hx1
              refine WL.ev rfl rfl (Ev.ixVN rfl el81 sz156 rfl hvb4 rfl (lt_of hx1)) (Wfa rfl rfl rfl fo156_2 rfl ?_)
              obtain ⟨hA1, hS5, hI2, hI3, H⟩ := elO_Attribute H (i := 3) rfl hx1 hbb4
              refine WL.ev rfl rfl (Ev.ld rfl ag3 rfl (hA1.cell rfl)) (Wmv rfl rfl rfl rfl (WL.ev rfl rfl (Ev.bin rfl rfl rfl Bin.eql) (WL.nil ?_)))
              refine CW.condD rfl (fun h4 => ?_) (fun h4 => ?_)
              · have hm3 := ifp h4 hm3
                refine CW.reg ?_
                refine Wmv rfl rfl rfl rfl (Wmv rfl rfl rfl rfl (Wfa rfl rfl rfl fo161_1 rfl (WL.ev rfl rfl (Ev.ld rfl ag81 rfl ((H.rB (i := 4) rfl).cell rfl)) (Wmv rfl rfl rfl rfl ?_))))
                obtain ⟨b5, cb5, hvb5, hbb5⟩ := H.ptO (i := 3) rfl hx1
                refine WL.ev rfl rfl (Ev.ixVN rfl el81 sz156 rfl hvb5 rfl (lt_of hx1)) (Wfa rfl rfl rfl fo156_0 rfl ?_)
                obtain ⟨hA2, hS6, hI4, hI5, H⟩ := elO_Attribute H (i := 3) rfl hx1 hbb5
                refine WL.ev rfl rfl (Ev.ld rfl ag9 rfl (hA2.cell rfl)) (WL.ev rfl rfl (Ev.build rfl pl90 ze90 rfl rfl rfl rfl) ?_)
                refine WL.lit1 rfl rfl rfl el76 sz90 ze90 rfl rfl rfl rfl rfl rfl fun b6 w7 hE hb hB => ?_
                have H := H.newB hE hb hB
                obtain ⟨hg1, hm3⟩ := grd_some hm3
                refine WL.appO (i := 2) (ys := [(⟨s3, x1.Name⟩ : Occurrence)]) rfl rfl rfl el76 sz90 by90 ze90 rfl rfl rfl H rfl (fun _ => ownL.single ⟨rfl, hI1, hS6, rfl⟩) (.inr ⟨_, _, rfl, At.blk (H.rB (i := 5) rfl)⟩) hg1 fun A10 n10 c10 w8 H => ?_
                refine Wsn rfl rfl rfl rfl ?_
                obtain rfl := sm hm3
                exact ⟨(s5 ++ [(⟨s3, x1.Name⟩ : Occurrence)]), _, rfl, ⟨rfl, rfl, rfl, rfl, rfl, rfl, rfl, trivial⟩, H.keep 7 5⟩
              · have hm3 := ifn h4 hm3
                refine CW.skip ?_
                obtain rfl := sm hm3
                exact ⟨s5, _, rfl, ⟨rfl, rfl, rfl, rfl, rfl, rfl, rfl, trivial⟩, H.keep 7 5⟩
            · rintro ρ' w9 ⟨s6, v5, rfl, hag, H⟩
              obtain ⟨σ, rfl⟩ := ofL_ex hag
              obtain ⟨A11, n11, c11, rfl⟩ := (H.rO (i := 2) rfl).form3
              refine CW.reg ?_
              refine Wmv rfl rfl rfl rfl (WL.ev rfl rfl (Ev.bin rfl rfl rfl (Bin.addN (a := k1) (b := 1) rfl (i64_succN hk2 hl2.2))) (Wsn rfl rfl rfl rfl ?_))
              obtain rfl := sm hb2
              exact ⟨⟨k1 + 1, s6, (.slice A11 n11 c11)⟩, ⟨rfl, rfl, rfl, rfl, rfl, rfl, rfl, trivial⟩, ⟨hk2, hq2, H.keep 7 5⟩, Nat.sub_lt_sub_left hk2 (Nat.lt_succ_self _)⟩
          · obtain rfl := eachL_end hq2 (not_cast_lt h3)
            refine CW.exit ?_
            obtain rfl := sm hm2
            exact ⟨s5, _, rfl, ⟨rfl, rfl, rfl, rfl, trivial⟩, H.keep 7 3⟩
        · have hm2 := ifn h2 hm2
          refine CW.skip ?_
          refine Sreg ?_
          refine Wsn rfl rfl rfl rfl ?_
          obtain ⟨q5, hq3, hm2⟩ := bd hm2
          refine CW.block (CW.loop (α := Nat × (List Occurrence) × Value) (fun ⟨k2, s7, v6⟩ => [(2, .pointer (some ⟨b1, 0, none⟩)), (3, .pointer (some ⟨b2, 0, none⟩)), (5, v6), (6, .int .i64 s3), (7, .pointer (some ⟨b3, 0, none⟩)), (9, .int .i64 1), (10, .int .i64 (k2 : Int))]) (fun ⟨k2, s7, v6⟩ w => k2 ≤ y2.Attributes.length ∧ eachL (sRequiredOccurrences_L3 s3) k2 (y2.Attributes.drop k2) s7 = some q5 ∧ HL F0 [] w0 w [Pr.R a0 [.slice A1 n1 c1, .slice A2 n2 c2], Pr.R a1 [.string a1.Name, .string a1.Left, .slice A3 n3 c3, .bool a1.Literal, .slice A4 n4 c4, .slice A5 n5 c5], Pr.S a0.Symbols (.slice A1 n1 c1), Pr.S a0.Rules (.slice A2 n2 c2), Pr.S a1.Right (.slice A3 n3 c3), Pr.S a1.Equations (.slice A4 n4 c4), Pr.S a1.Contributions (.slice A5 n5 c5)] [It.B b1 40 [.slice A1 n1 c1, .slice A2 n2 c2], It.B b2 45 [.string a1.Name, .string a1.Left, .slice A3 n3 c3, .bool a1.Literal, .slice A4 n4 c4, .slice A5 n5 c5], It.O 90 s7 v6, It.O 156 y2.Attributes (.slice A8 n8 c8), It.B b3 161 [.string y2.Name, .slice A8 n8 c8]]) (fun ⟨k2, s7, v6⟩ => y2.Attributes.length - k2) ⟨0, s2, (.slice A7 n7 c7)⟩ ⟨rfl, rfl, rfl, rfl, rfl, rfl, rfl, trivial⟩ ⟨Nat.zero_le _, hq3, H.keep 7 5⟩ ?_)
          rintro ⟨k2, s7, v6⟩ σ w10 ⟨hk3, hq3, H⟩
          obtain ⟨A12, n12, c12, rfl⟩ := (H.rO (i := 2) rfl).form3
          refine SSr ?_
          refine Wmv rfl rfl rfl rfl (Wfa rfl rfl rfl fo161_1 rfl (WL.ev rfl rfl (Ev.ld rfl ag81 rfl ((H.rB (i := 4) rfl).cell rfl)) ?_))
          have hl3 := (H.rO (i := 3) rfl).I
          refine WL.ev rfl rfl (Ev.lenV rfl el81 rfl (H.rO (i := 3) rfl)) (WL.ev rfl rfl (Ev.bin rfl rfl rfl Bin.lss) (WL.nil ?_))
          refine CW.condD rfl (fun h5 => ?_) (fun h5 => ?_)
          · have hk4 := cast_lt h5
            obtain ⟨x2, z3, hx2, hb3, hq3⟩ := eachL_go hq3 hk4
            refine CW.skip ?_
            obtain ⟨q6, hm4, hb3⟩ := bd hb3
            refine CW.seq (CW.mid (fun ρ' w => ∃ (s8 : List Occurrence) (v7 : Value), s8 = q6 ∧ agree ρ' [(2, .pointer (some ⟨b1, 0, none⟩)), (3, .pointer (some ⟨b2, 0, none⟩)), (5, v7), (6, .int .i64 s3), (7, .pointer (some ⟨b3, 0, none⟩)), (9, .int .i64 1), (10, .int .i64 (k2 : Int))] ∧ HL F0 [] w0 w [Pr.R a0 [.slice A1 n1 c1, .slice A2 n2 c2], Pr.R a1 [.string a1.Name, .string a1.Left, .slice A3 n3 c3, .bool a1.Literal, .slice A4 n4 c4, .slice A5 n5 c5], Pr.S a0.Symbols (.slice A1 n1 c1), Pr.S a0.Rules (.slice A2 n2 c2), Pr.S a1.Right (.slice A3 n3 c3), Pr.S a1.Equations (.slice A4 n4 c4), Pr.S a1.Contributions (.slice A5 n5 c5)] [It.B b1 40 [.slice A1 n1 c1, .slice A2 n2 c2], It.B b2 45 [.string a1.Name, .string a1.Left, .slice A3 n3 c3, .bool a1.Literal, .slice A4 n4 c4, .slice A5 n5 c5], It.O 90 s8 v7, It.O 156 y2.Attributes (.slice A8 n8 c8), It.B b3 161 [.string y2.Name, .slice A8 n8 c8]]) ?_ ?_)
            · refine CW.block (Sreg ?_)
              refine Wfa rfl rfl rfl fo161_1 rfl (WL.ev rfl rfl (Ev.ld rfl ag81 rfl ((H.rB (i := 4) rfl).cell rfl)) (Wmv rfl rfl rfl rfl ?_))
              obtain ⟨b7, cb7, hvb7, hbb7⟩ := H.ptO (i := 3) rfl hx2
              refine WL.ev rfl rfl (Ev.ixVN rfl el81 sz156 rfl hvb7 rfl (lt_of hx2)) (Wfa rfl rfl rfl fo156_2 rfl ?_)
              obtain ⟨hA3, hS7, hI6, hI7, H⟩ := elO_Attribute H (i := 3) rfl hx2 hbb7
              refine WL.ev rfl rfl (Ev.ld rfl ag3 rfl (hA3.cell rfl)) (Wmv rfl rfl rfl rfl (WL.ev rfl rfl (Ev.bin rfl rfl rfl Bin.eql) (WL.nil ?_)))
              refine CW.condD rfl (fun h6 => ?_) (fun h6 => ?_)
              · have hm4 := ifp h6 hm4
                refine CW.reg ?_
                refine Wmv rfl rfl rfl rfl (Wmv rfl rfl rfl rfl (Wfa rfl rfl rfl fo161_1 rfl (WL.ev rfl rfl (Ev.ld rfl ag81 rfl ((H.rB (i := 4) rfl).cell rfl)) (Wmv rfl rfl rfl rfl ?_))))
                obtain ⟨b8, cb8, hvb8, hbb8⟩ := H.ptO (i := 3) rfl hx2
                refine WL.ev rfl rfl (Ev.ixVN rfl el81 sz156 rfl hvb8 rfl (lt_of hx2)) (Wfa rfl rfl rfl fo156_0 rfl ?_)
                obtain ⟨hA4, hS8, hI8, hI9, H⟩ := elO_Attribute H (i := 3) rfl hx2 hbb8
                refine WL.ev rfl rfl (Ev.ld rfl ag9 rfl (hA4.cell rfl)) (WL.ev rfl rfl (Ev.build rfl pl90 ze90 rfl rfl rfl rfl) ?_)
                refine WL.lit1 rfl rfl rfl el76 sz90 ze90 rfl rfl rfl rfl rfl rfl fun b9 w11 hE hb hB => ?_
                have H := H.newB hE hb hB
                obtain ⟨hg2, hm4⟩ := grd_some hm4
                refine WL.appO (i := 2) (ys := [(⟨s3, x2.Name⟩ : Occurrence)]) rfl rfl rfl el76 sz90 by90 ze90 rfl rfl rfl H rfl (fun _ => ownL.single ⟨rfl, hI1, hS8, rfl⟩) (.inr ⟨_, _, rfl, At.blk (H.rB (i := 5) rfl)⟩) hg2 fun A13 n13 c13 w12 H => ?_
                refine Wsn rfl rfl rfl rfl ?_
                obtain rfl := sm hm4
                exact ⟨(s7 ++ [(⟨s3, x2.Name⟩ : Occurrence)]), _, rfl, ⟨rfl, rfl, rfl, rfl, rfl, rfl, rfl, trivial⟩, H.keep 7 5⟩
              · have hm4 := ifn h6 hm4
                refine CW.skip ?_
                obtain rfl := sm hm4
                exact ⟨s7, _, rfl, ⟨rfl, rfl, rfl, rfl, rfl, rfl, rfl, trivial⟩, H.keep 7 5⟩
            · rintro ρ' w13 ⟨s8, v7, rfl, hag, H⟩
              obtain ⟨σ, rfl⟩ := ofL_ex hag
              obtain ⟨A14, n14, c14, rfl⟩ := (H.rO (i := 2) rfl).form3
              refine CW.reg ?_
              refine Wmv rfl rfl rfl rfl (WL.ev rfl rfl (Ev.bin rfl rfl rfl (Bin.addN (a := k2) (b := 1) rfl (i64_succN hk4 hl3.2))) (Wsn rfl rfl rfl rfl ?_))
              obtain rfl := sm hb3
              exact ⟨⟨k2 + 1, s8, (.slice A14 n14 c14)⟩, ⟨rfl, rfl, rfl, rfl, rfl, rfl, rfl, trivial⟩, ⟨hk4, hq3, H.keep 7 5⟩, Nat.sub_lt_sub_left hk4 (Nat.lt_succ_self _)⟩
          · obtain rfl := eachL_end hq3 (not_cast_lt h5)
            refine CW.exit ?_
            obtain rfl := sm hm2
            exact ⟨s7, _, rfl, ⟨rfl, rfl, rfl, rfl, trivial⟩, H.keep 7 3⟩
      · rintro ρ' w14 ⟨s4, v3, rfl, hag, H⟩
        obtain ⟨σ, rfl⟩ := ofL_ex hag
        obtain ⟨A15, n15, c15, rfl⟩ := (H.rO (i := 2) rfl).form3
        refine CW.reg ?_
        refine Wmv rfl rfl rfl rfl ?_
        obtain ⟨hg3, hb1⟩ := grd_some hb1
        refine WL.ev rfl rfl (Ev.bin rfl rfl rfl (Bin.add hg3)) (Wsn rfl rfl rfl rfl ?_)
        obtain rfl := sm hb1
        exact ⟨⟨m2, s4, (s3 + 1), (.slice A15 n15 c15)⟩, ⟨rfl, rfl, rfl, rfl, trivial⟩, ⟨hs1 _ rfl, hg3, H.keep 7 3⟩, Nat.lt_succ_self _⟩
    · have hb1 := ifn h1 hb1
      refine CW.exit ?_
      obtain rfl := sm hb1
      obtain rfl := ht1 _ rfl
      exact ⟨s2, _, rfl, ⟨rfl, trivial⟩, H.keep 7 3⟩
  · rintro ρ' w15 ⟨s1, v1, rfl, hag, H⟩
    obtain ⟨σ, rfl⟩ := ofL_ex hag
    obtain ⟨A16, n16, c16, rfl⟩ := (H.rO (i := 2) rfl).form3
    refine Sreg ?_
    refine Wmv rfl rfl rfl rfl (Wsn rfl rfl rfl rfl ?_)
    refine CW.ret ?_
    obtain rfl := sm hr
    exact ⟨_, res1 rfl rfl rfl, H.ext0, _, _, _, rfl, H.outM (fr' := []) [false, false, true] fun _ _ => trivial⟩

noncomputable def sl11HasAt_L1 (a1 : Occurrence) : Nat → Occurrence → Unit → Option (Unit ⊕ Bool) := fun k1 x1 _ => 
  if x1 = a1 then (
  some (.inr true)
  ) else (
  some (.inl ())
  )
noncomputable def sl11HasAt_m (a0 : (List Occurrence)) (a1 : Occurrence) : Option Bool :=
  (findL (sl11HasAt_L1 a1) 0 a0 ()).bind <| onr (fun r1 => some r1) fun _ =>
  some false
theorem sl11HasAt_ok {a0 : (List Occurrence)} {a1 : Occurrence} {r : Bool} (hr : sl11HasAt_m a0 a1 = some r) {F0 : Nat → Prop} {w0 : World} {z0 : Value} (ha0 : rdS F0 w0 a0 z0) {ca1 : List Value} (ha1 : rd F0 w0 a1 ca1) :
    Ret Tryz.prog 141 #[z0, .agg ca1.toArray] w0 (fun _ => False) fun v w => v = .bool r := by
  obtain ⟨A0', n0', c0', rfl⟩ := ha0.form3
  have H := ((HL.start F0 w0).argS ha0).argR ha1
  obtain ⟨rfl, hI1, hS1, H⟩ := op_Occurrence H (i := 1) rfl
  refine enter Tryz.func141 rfl rfl rfl ?_
  refine Sreg ?_
  refine WL.boxH rfl rfl rfl rfl rfl H fun b1 w1 H => ?_
  refine Wsn rfl rfl rfl rfl ?_
  refine SSr ?_
  refine Wsn rfl rfl rfl rfl ?_
  obtain ⟨q1, hq1, hr⟩ := bd hr
  refine CW.block (CW.loop (α := Nat) (fun k1 => [(0, .slice A0' n0' c0'), (3, .pointer (some ⟨b1, 0, none⟩)), (5, .int .i64 (k1 : Int))]) (fun k1 w => k1 ≤ a0.length ∧ findL (sl11HasAt_L1 a1) k1 (a0.drop k1) () = some q1 ∧ HL F0 [] w0 w [Pr.S a0 (.slice A0' n0' c0'), Pr.R a1 [.int .i64 a1.Pos, .string a1.Name]] [It.B b1 90 [.int .i64 a1.Pos, .string a1.Name]]) (fun k1 => a0.length - k1) 0 ⟨rfl, rfl, rfl, trivial⟩ ⟨Nat.zero_le _, hq1, H.keep 2 1⟩ ?_)
  rintro k1 σ w2 ⟨hk1, hq1, H⟩
  refine SSr ?_
  refine Wmv rfl rfl rfl rfl (Wmv rfl rfl rfl rfl ?_)
  have hl1 := (H.rS (i := 0) rfl).I
  refine WL.ev rfl rfl (Ev.lenV rfl el76 rfl (H.rS (i := 0) rfl)) (WL.ev rfl rfl (Ev.bin rfl rfl rfl Bin.lss) (WL.nil ?_))
  refine CW.condD rfl (fun h1 => ?_) (fun h1 => ?_)
  · have hk2 := cast_lt h1
    obtain ⟨x1, z1, hx1, hb1, hs1, ht1⟩ := findL_go hq1 hk2
    refine CW.skip ?_
    refine CW.seq (CW.block (CW.seq (CW.quiet hmix (by kernel_rfl) ?_)))
    refine QL.ev rfl rfl (fun _ _ => Ev.mv rfl rfl) (QL.ev rfl rfl (fun _ _ => Ev.mv rfl rfl) ?_)
    obtain ⟨b2, ob2, cb2, hvb2, hI2, hS2, H⟩ := ixS_Occurrence H (i := 0) rfl hx1
    refine QL.ev rfl rfl (fun _ _ => Ev.ixVN rfl el76 sz90 rfl hvb2 rfl (lt_of hx1)) (QL.ev rfl rfl (fun _ hq => Ev.lda rfl ag90 sz90 rfl ((H.ext hq).rA (i := 2) rfl) rfl) (QL.ev rfl rfl (fun _ hq => Ev.lda rfl ag90 sz90 rfl (At.blk ((H.ext hq).rB (i := 0) rfl)) rfl) (QL.ev rfl rfl (fun _ _ => Ev.bin rfl rfl rfl (Bin.eqlF fl90 (Occurrence_eqF x1 a1))) (QL.nil (fun w3 hE => ?_)))))
    have H := H.ext hE
    refine CW.condD rfl (fun h2 => ?_) (fun h2 => ?_)
    · have hb1 := ifp h2 hb1
      refine Sreg ?_
      refine Wsn rfl rfl rfl rfl ?_
      refine CW.ret ?_
      obtain rfl := sm hb1
      obtain rfl := ht1 _ rfl
      obtain rfl := sm hr
      exact ⟨_, res1 rfl rfl rfl, H.ext0, rfl⟩
    · have hb1 := ifn h2 hb1
      refine CW.skip ?_
      refine CW.reg ?_
      refine Wmv rfl rfl rfl rfl (WL.ev rfl rfl (Ev.bin rfl rfl rfl (Bin.addN (a := k1) (b := 1) rfl (i64_succN hk2 hl1.2))) (Wsn rfl rfl rfl rfl ?_))
      obtain rfl := sm hb1
      have hq1 := hs1 _ rfl
      exact ⟨(k1 + 1), ⟨rfl, rfl, rfl, trivial⟩, ⟨hk2, hq1, H.keep 2 1⟩, Nat.sub_lt_sub_left hk2 (Nat.lt_succ_self _)⟩
  · obtain rfl := findL_end hq1 (not_cast_lt h1)
    have hr := (onr_inl _ _ _).symm.trans hr
    refine CW.exit ?_
    refine Sreg ?_
    refine Wsn rfl rfl rfl rfl ?_
    refine CW.ret ?_
    obtain rfl := sm hr
    exact ⟨_, res1 rfl rfl rfl, H.ext0, rfl⟩

noncomputable def sl28Inputs_L1 (a0 : l28Work) : Nat → Occurrence → Unit → Option (Unit ⊕ Bool) := fun k1 x1 _ => 
  (sl11HasAt_m a0.known x1).bind fun y4 =>
  if y4 = true then (
  some (.inl ())
  ) else (
  some (.inr false)
  )
noncomputable def sl28Inputs_m (a0 : l28Work) (a1 : Occurrence) : Option Bool :=
  (sFindEquation_m a0.r a1).bind fun (y1, y2) =>
  (sAttributeUses_m y1).bind fun y3 =>
  (findL (sl28Inputs_L1 a0) 0 y3 ()).bind <| onr (fun r1 => some r1) fun _ =>
  some y2
theorem sl28Inputs_ok {a0 : l28Work} {a1 : Occurrence} {r : Bool} (hr : sl28Inputs_m a0 a1 = some r) {F0 : Nat → Prop} {w0 : World} {b0p : Nat} (ha0 : CapP F0 w0 b0p a0) {ca1 : List Value} (ha1 : rd F0 w0 a1 ca1) :
    Ret Tryz.prog 143 #[.pointer (some ⟨b0p, 0, none⟩), .agg ca1.toArray] w0 (fun _ => False) fun v w => v = .bool r := by
  have H := (HL.start F0 w0).argR ha1
  obtain ⟨rfl, hI1, hS1, H⟩ := op_Occurrence H (i := 0) rfl
  obtain ⟨cpa0, H⟩ := H.argP ha0
  obtain ⟨A1, n1, c1, A2, n2, c2, A3, n3, c3, A4, n4, c4, A5, n5, c5, A6, n6, c6, A7, n7, c7, A8, n8, c8, A9, n9, c9, rfl, hS2, hS3, H⟩ := op_l28Work H (i := 2) rfl
  refine enter Tryz.func143 rfl rfl rfl ?_
  refine Sreg ?_
  refine WL.boxH rfl rfl rfl rfl rfl H fun b1 w1 H => ?_
  refine Wsn rfl rfl rfl rfl ?_
  obtain ⟨⟨y1, y2⟩, hy1, hr⟩ := bd hr
  obtain ⟨F_G1, hFl_G1, hF_G1, hcl_G1⟩ := H.callL
  refine CW.seq (CW.any2 11 (fun ρ => [.fix (.pointer (some ⟨b0p, 0, none⟩)), .fix (.pointer (some ⟨b0p, 0, none⟩)), .fix (.pointer (some ⟨b0p, 0 + 2, none⟩)), .fix (.agg #[.string a0.r.Name, .string a0.r.Left, .slice A3 n3 c3, .bool a0.r.Literal, .slice A4 n4 c4, .slice A5 n5 c5]), .fix (.agg #[.int .i64 a1.Pos, .string a1.Name]), .free (fun S v w => ∃ A10 : Option Addr, ∃ n10 : Nat, ∃ c10 : Nat, v = .tuple #[.agg #[.int .i64 y1.Kind, .int .i64 y1.N, .int .i64 y1.Pos, .int .i64 y1.Type_, .string y1.Symbol, .string y1.Name, .slice A10 n10 c10], .bool y2] ∧ I64 y1.Kind ∧ I64 y1.N ∧ I64 y1.Pos ∧ I64 y1.Type_ ∧ y1.Symbol.size ≤ 9223372036854775807 ∧ y1.Name.size ≤ 9223372036854775807 ∧ NewV F_G1 w1 S w [Pr.S y1.Args (.slice A10 n10 c10)] []), .dep 15 id, .dep 9 (tupAt 0), .dep 9 (tupAt 1), .free (VarB 86 7), .wr 5 16 (WrB 86)]) [[], [], [], [], [], [], [15], [9], [9], [], [5, 16]] NoM (fun _ _ => True) [] [none, none, none, none, none, none, none, none, none, none, some 9] (noM _) hmix (by kernel_rfl) rfl ⟨trivial, trivial, trivial, trivial, trivial, fun _ _ _ _ _ ⟨A10, n10, c10, hv, h0, h1, h2, h3, h4, h5, hh⟩ hc hS hT => ⟨A10, n10, c10, hv, h0, h1, h2, h3, h4, h5, hh.chgT hc hS hT hFl_G1⟩, trivial, trivial, trivial, fun _ _ _ _ _ h hc hS _ => h.chgT hc hS, fun _ _ _ _ _ _ h hc hS _ => h.chgT hc hS, trivial⟩ trivial (fun _ _ _ _ _ _ _ => trivial) ?_)
  refine LL2.fx rfl rfl rfl rfl rfl (fun _ hq hK => Ev.mv rfl rfl) ?_
  refine LL2.fx rfl rfl rfl rfl rfl (fun _ hq hK => Ev.nilc rfl rfl) ?_
  refine LL2.fx rfl rfl rfl rfl rfl (fun _ hq hK => Ev.fa rfl fo124_1 rfl) ?_
  refine LL2.fx rfl rfl rfl rfl rfl (fun _ hq hK => Ev.lda rfl ag45 sz45 rfl (((H.ext hq).rA (i := 1) rfl).part 2 6) rfl) ?_
  refine LL2.fx rfl rfl rfl rfl rfl (fun _ hq hK => Ev.lda rfl ag90 sz90 rfl (At.blk ((H.ext hq).rB (i := 0) rfl)) rfl) ?_
  refine LL2.free rfl rfl rfl rfl (fun wq hq hK => ?_) (fun v_G1_5 S_G1_5 => ?_)
  · have hF := hF_G1.ext hq
    refine OpX.call rfl rfl rfl rfl ok45 rfl (sFindEquation_ok hy1 ⟨_, _, _, rfl, hS2, hS3, (hF.get (i := 5) rfl), (hF.get (i := 6) rfl), (hF.get (i := 7) rfl)⟩ ⟨rfl, hI1, hS1⟩) ?_
    rintro _ w hE ⟨A10, n10, c10, rfl, h0, h1, h2, h3, h4, h5, hh⟩
    exact ⟨hE, A10, n10, c10, rfl, h0, h1, h2, h3, h4, h5, NewV.of hFl_G1 hq hh⟩
  refine LL2.mv rfl rfl rfl rfl rfl (.inl rfl) rfl ?_
  refine LL2.ex rfl rfl rfl rfl rfl rfl rfl (fun wq hq hK => ?_) ?_
  · have hK : ∀ j' (_ : (directs _).contains j' = true), _ := hK 6 rfl
    obtain ⟨A10, n10, c10, rfl, _, _, _, _, _, _, _⟩ := hK 5 rfl
    exact ⟨_, _, rfl, rfl⟩
  refine LL2.ex rfl rfl rfl rfl rfl rfl rfl (fun wq hq hK => ?_) ?_
  · have hK : ∀ j' (_ : (directs _).contains j' = true), _ := hK 6 rfl
    obtain ⟨A10, n10, c10, rfl, _, _, _, _, _, _, _⟩ := hK 5 rfl
    exact ⟨_, _, rfl, rfl⟩
  refine LL2.free rfl rfl rfl rfl (fun wq hq hK => OpX.allocV rfl rfl ze86 rfl) (fun v_G1_9 S_G1_9 => ?_)
  refine LL2.st (k := 7) rfl rfl rfl (by decide) rfl rfl rfl rfl sz86 rfl rfl (fun wq hq hK => hK 9 rfl) (fun wq hq hK => ?_) ?_
  · obtain ⟨A10, n10, c10, rfl, _, _, _, _, _, _, _⟩ := hK 5 rfl
    exact ⟨_, rfl, rfl, (all1 rfl (all1 rfl (all1 rfl (all1 rfl (all1 rfl (all1 rfl (all1 rfl all0)))))))⟩
  intro w2 hE _ hK hap hbd
  have hE := chgNew hE
  obtain ⟨A10, n10, c10, rfl, hI2, hI3, hI4, hI5, hS4, hS5, hN1⟩ := hK 5 (by decide)
  obtain ⟨b2, rfl, hN2⟩ := wrNew (cells := [.int .i64 y1.Kind, .int .i64 y1.N, .int .i64 y1.Pos, .int .i64 y1.Type_, .string y1.Symbol, .string y1.Name, .slice A10 n10 c10]) (hK 9 (by decide)) (hK 10 (by decide)) rfl
  have H := hcl_G1 (NewV.hl (hN1.app (hN2.V ⟨fun _ _ _ _ _ h => h, trivial⟩) fun q h1 h2 => absurd (hap 5 9 q h1 h2) (by decide)) hE fun q hq => hq.elim (fun h => (hbd 5 q h).1) fun h => (hbd 9 q h).1)
  refine Wsn rfl rfl rfl rfl ?_
  refine Sreg ?_
  refine WL.ev rfl rfl (Ev.lda rfl ag86 sz86 rfl (At.blk (H.rB (i := 1) rfl)) rfl) ?_
  obtain ⟨y3, hy2, hr⟩ := bd hr
  obtain ⟨F, hF, hcl⟩ := H.call
  refine WL.call rfl rfl rfl rfl rfl ok46 rfl (sAttributeUses_ok hy2 (Expr_rd.2 ⟨_, rfl, hI2, hI3, hI4, hI5, hS4, hS5, (hF.get (i := 12) rfl)⟩)) ?_
  rintro _ w3 hE ⟨A11, n11, c11, rfl, H'⟩
  have H := hcl H'
  refine Wsn rfl rfl rfl rfl ?_
  refine SSr ?_
  refine Wsn rfl rfl rfl rfl ?_
  obtain ⟨q1, hq1, hr⟩ := bd hr
  refine CW.block (CW.loop (α := Nat) (fun k1 => [(0, .pointer (some ⟨b0p, 0, none⟩)), (6, .bool y2), (7, .slice A11 n11 c11), (8, .int .i64 (k1 : Int))]) (fun k1 w => k1 ≤ y3.length ∧ findL (sl28Inputs_L1 a0) k1 (y3.drop k1) () = some q1 ∧ HL F0 [] w0 w [Pr.R a1 [.int .i64 a1.Pos, .string a1.Name], Pr.A b0p 0 [.slice A1 n1 c1, .slice A2 n2 c2, .string a0.r.Name, .string a0.r.Left, .slice A3 n3 c3, .bool a0.r.Literal, .slice A4 n4 c4, .slice A5 n5 c5, .slice A6 n6 c6, .slice A7 n7 c7, .slice A8 n8 c8, .slice A9 n9 c9], Pr.R a0 [.slice A1 n1 c1, .slice A2 n2 c2, .string a0.r.Name, .string a0.r.Left, .slice A3 n3 c3, .bool a0.r.Literal, .slice A4 n4 c4, .slice A5 n5 c5, .slice A6 n6 c6, .slice A7 n7 c7, .slice A8 n8 c8, .slice A9 n9 c9], Pr.S a0.g.Symbols (.slice A1 n1 c1), Pr.S a0.g.Rules (.slice A2 n2 c2), Pr.S a0.r.Right (.slice A3 n3 c3), Pr.S a0.r.Equations (.slice A4 n4 c4), Pr.S a0.r.Contributions (.slice A5 n5 c5), Pr.S a0.phases (.slice A6 n6 c6), Pr.S a0.known (.slice A7 n7 c7), Pr.S a0.visits (.slice A8 n8 c8), Pr.S a0.steps (.slice A9 n9 c9), Pr.S y1.Args (.slice A10 n10 c10), Pr.S y3 (.slice A11 n11 c11)] [It.B b1 90 [.int .i64 a1.Pos, .string a1.Name], It.B b2 86 [.int .i64 y1.Kind, .int .i64 y1.N, .int .i64 y1.Pos, .int .i64 y1.Type_, .string y1.Symbol, .string y1.Name, .slice A10 n10 c10]]) (fun k1 => y3.length - k1) 0 ⟨rfl, rfl, rfl, rfl, trivial⟩ ⟨Nat.zero_le _, hq1, H.keep 14 2⟩ ?_)
  rintro k1 σ w4 ⟨hk1, hq1, H⟩
  refine SSr ?_
  refine Wmv rfl rfl rfl rfl (Wmv rfl rfl rfl rfl ?_)
  have hl1 := (H.rS (i := 13) rfl).I
  refine WL.ev rfl rfl (Ev.lenV rfl el76 rfl (H.rS (i := 13) rfl)) (WL.ev rfl rfl (Ev.bin rfl rfl rfl Bin.lss) (WL.nil ?_))
  refine CW.condD rfl (fun h1 => ?_) (fun h1 => ?_)
  · have hk2 := cast_lt h1
    obtain ⟨x1, z1, hx1, hb1, hs1, ht1⟩ := findL_go hq1 hk2
    refine CW.skip ?_
    refine CW.seq (CW.block (CW.seq (CW.quiet hmix (by kernel_rfl) ?_)))
    refine QL.ev rfl rfl (fun _ _ => Ev.mv rfl rfl) (QL.ev rfl rfl (fun _ _ => Ev.nilc rfl rfl) (QL.ev rfl rfl (fun _ _ => Ev.fa rfl fo124_3 rfl) (QL.ev rfl rfl (fun _ hq => Ev.ld rfl ag76 rfl (((H.ext hq).rA (i := 1) rfl).cell rfl)) (QL.ev rfl rfl (fun _ _ => Ev.mv rfl rfl) (QL.ev rfl rfl (fun _ _ => Ev.mv rfl rfl) ?_)))))
    obtain ⟨b3, ob3, cb3, hvb3, hI6, hS6, H⟩ := ixS_Occurrence H (i := 13) rfl hx1
    refine QL.ev rfl rfl (fun _ _ => Ev.ixVN rfl el76 sz90 rfl hvb3 rfl (lt_of hx1)) (QL.ev rfl rfl (fun _ hq => Ev.lda rfl ag90 sz90 rfl ((H.ext hq).rA (i := 14) rfl) rfl) ?_)
    obtain ⟨y4, hy3, hb1⟩ := bd hb1
    refine QL.call rfl rfl rfl rfl rfl ok141 rfl (fun _ hq => sl11HasAt_ok hy3 ((H.ext hq).rS (i := 9) rfl) ⟨rfl, hI6, hS6⟩) ?_
    refine QL.ev rfl rfl (fun _ _ => Ev.not rfl rfl) (QL.nil (fun w5 hE => ?_))
    have H := H.ext hE
    refine CW.condBN rfl (fun h2 => ?_) (fun h2 => ?_)
    · have hb1 := ifn h2 hb1
      refine Sreg ?_
      refine Wsn rfl rfl rfl rfl ?_
      refine CW.ret ?_
      obtain rfl := sm hb1
      obtain rfl := ht1 _ rfl
      obtain rfl := sm hr
      exact ⟨_, res1 rfl rfl rfl, H.ext0, rfl⟩
    · have hb1 := ifp h2 hb1
      refine CW.skip ?_
      refine CW.reg ?_
      refine Wmv rfl rfl rfl rfl (WL.ev rfl rfl (Ev.bin rfl rfl rfl (Bin.addN (a := k1) (b := 1) rfl (i64_succN hk2 hl1.2))) (Wsn rfl rfl rfl rfl ?_))
      obtain rfl := sm hb1
      have hq1 := hs1 _ rfl
      exact ⟨(k1 + 1), ⟨rfl, rfl, rfl, rfl, trivial⟩, ⟨hk2, hq1, H.keep 14 2⟩, Nat.sub_lt_sub_left hk2 (Nat.lt_succ_self _)⟩
  · obtain rfl := findL_end hq1 (not_cast_lt h1)
    have hr := (onr_inl _ _ _).symm.trans hr
    refine CW.exit ?_
    refine Sreg ?_
    refine Wmv rfl rfl rfl rfl (Wsn rfl rfl rfl rfl ?_)
    refine CW.ret ?_
    obtain rfl := sm hr
    exact ⟨_, res1 rfl rfl rfl, H.ext0, rfl⟩

noncomputable def sl29Eval_m (a1 : Step) (o1 : l28Work) : Option (Bool × l28Work) :=
  (
  if a1.Visit = 0 then (
  (sRequiredOccurrences_m o1.g o1.r).bind fun y1 =>
  (sl11HasAt_m y1 (⟨a1.Pos, a1.Name⟩ : Occurrence)).bind fun y2 =>
  if y2 = true then (
  (sl11HasAt_m o1.known (⟨a1.Pos, a1.Name⟩ : Occurrence)).bind fun y3 =>
  if y3 = true then (
  some true
  ) else (
  (sl28Inputs_m o1 (⟨a1.Pos, a1.Name⟩ : Occurrence)).bind fun y4 =>
  some (!y4)
  )
  ) else (
  some true
  )
  ) else (
  some true
  )
  ).bind fun s1 =>
  if s1 = true then (
  some (false, o1)
  ) else (
  (
  grd (((o1.known.length : Int) + 1) * 24 ≤ 140737488355328 ∧ (o1.known.length : Int) + 1 ≤ 9223372036854775807) <|
  some (o1.known ++ [(⟨a1.Pos, a1.Name⟩ : Occurrence)])
  ).bind fun s2 =>
  some (true, (⟨o1.g, o1.r, o1.phases, s2, o1.visits, o1.steps⟩ : l28Work))
  )
theorem sl29Eval_ok {a1 : Step} {o1 : l28Work} {r : (Bool × l28Work)} (hr : sl29Eval_m a1 o1 = some r) {F0 : Nat → Prop} {M : List Nat} {w0 : World} {bo1 : Nat} {Ao1_0 : Option Addr} {no1_0 co1_0 : Nat} {Ao1_1 : Option Addr} {no1_1 co1_1 : Nat} {Ao1_4 : Option Addr} {no1_4 co1_4 : Nat} {Ao1_6 : Option Addr} {no1_6 co1_6 : Nat} {Ao1_7 : Option Addr} {no1_7 co1_7 : Nat} {Ao1_8 : Option Addr} {no1_8 co1_8 : Nat} {Ao1_9 : Option Addr} {no1_9 co1_9 : Nat} {Ao1_10 : Option Addr} {no1_10 co1_10 : Nat} {Ao1_11 : Option Addr} {no1_11 co1_11 : Nat} (hIa1_0 : I64 a1.Kind) (hIa1_1 : I64 a1.Pos) (hIa1_2 : I64 a1.Visit) (hIa1_3 : a1.Name.size ≤ 9223372036854775807) (hIo1_2 : o1.r.Name.size ≤ 9223372036854775807) (hIo1_3 : o1.r.Left.size ≤ 9223372036854775807) (H : HL F0 M w0 w0 [Pr.S o1.g.Symbols (.slice Ao1_0 no1_0 co1_0), Pr.S o1.g.Rules (.slice Ao1_1 no1_1 co1_1), Pr.S o1.r.Right (.slice Ao1_4 no1_4 co1_4), Pr.S o1.r.Equations (.slice Ao1_6 no1_6 co1_6), Pr.S o1.r.Contributions (.slice Ao1_7 no1_7 co1_7), Pr.S o1.phases (.slice Ao1_8 no1_8 co1_8)] [It.O 3 o1.visits (.slice Ao1_10 no1_10 co1_10), It.B bo1 124 [.slice Ao1_0 no1_0 co1_0, .slice Ao1_1 no1_1 co1_1, .string o1.r.Name, .string o1.r.Left, .slice Ao1_4 no1_4 co1_4, .bool o1.r.Literal, .slice Ao1_6 no1_6 co1_6, .slice Ao1_7 no1_7 co1_7, .slice Ao1_8 no1_8 co1_8, .slice Ao1_9 no1_9 co1_9, .slice Ao1_10 no1_10 co1_10, .slice Ao1_11 no1_11 co1_11], It.O 90 o1.known (.slice Ao1_9 no1_9 co1_9), It.O 130 o1.steps (.slice Ao1_11 no1_11 co1_11)]) :
    Ret Tryz.prog 83 #[.pointer (some ⟨bo1, 0, none⟩), .agg #[.int .i64 a1.Kind, .int .i64 a1.Pos, .int .i64 a1.Visit, .string a1.Name]] w0 (· ∈ M) fun v w => ∃ A0 : Option Addr, ∃ n0 c0 : Nat, ∃ A1 : Option Addr, ∃ n1 c1 : Nat, ∃ A2 : Option Addr, ∃ n2 c2 : Nat, v = .bool r.1 ∧ r.2.r.Name.size ≤ 9223372036854775807 ∧ r.2.r.Left.size ≤ 9223372036854775807 ∧ HL F0 M w0 w [] [It.O 3 r.2.visits (.slice A1 n1 c1), It.B bo1 124 [.slice Ao1_0 no1_0 co1_0, .slice Ao1_1 no1_1 co1_1, .string r.2.r.Name, .string r.2.r.Left, .slice Ao1_4 no1_4 co1_4, .bool r.2.r.Literal, .slice Ao1_6 no1_6 co1_6, .slice Ao1_7 no1_7 co1_7, .slice Ao1_8 no1_8 co1_8, (.slice A0 n0 c0), (.slice A1 n1 c1), (.slice A2 n2 c2)], It.O 90 r.2.known (.slice A0 n0 c0), It.O 130 r.2.steps (.slice A2 n2 c2)] := by
  refine enter Tryz.func83 rfl rfl rfl ?_
  refine Sreg ?_
  refine WL.boxH rfl rfl rfl rfl rfl H fun b1 w1 H => ?_
  refine Wsn rfl rfl rfl rfl ?_
  refine Sreg ?_
  refine Wfa rfl rfl rfl fo130_1 rfl (WL.ev rfl rfl (Ev.ld rfl ag3 rfl ((H.rB (i := 4) rfl).cell rfl)) (Wfa rfl rfl rfl fo130_3 rfl (WL.ev rfl rfl (Ev.ld rfl ag9 rfl ((H.rB (i := 4) rfl).cell rfl)) (WL.ev rfl rfl (Ev.build rfl pl90 ze90 rfl rfl rfl rfl) ?_))))
  refine WL.allocH rfl rfl rfl ze90 H fun b2 w2 H => ?_
  refine WL.stB (i := 5) rfl rfl rfl sz90 rfl rfl rfl rfl (all1 rfl (all1 rfl all0)) H rfl rfl rfl fun w3 H => ?_
  refine WL.nil ?_
  obtain ⟨q1, hm1, hr⟩ := bd hr
  refine CW.seq (CW.seq (CW.mid (fun ρ' w => ∃ (s1 : Bool), s1 = q1 ∧ agree ρ' [(0, .pointer (some ⟨bo1, 0, none⟩)), (5, .pointer (some ⟨b2, 0, none⟩)), (41, .bool s1)] ∧ HL F0 M w0 w [Pr.S o1.g.Symbols (.slice Ao1_0 no1_0 co1_0), Pr.S o1.g.Rules (.slice Ao1_1 no1_1 co1_1), Pr.S o1.r.Right (.slice Ao1_4 no1_4 co1_4), Pr.S o1.r.Equations (.slice Ao1_6 no1_6 co1_6), Pr.S o1.r.Contributions (.slice Ao1_7 no1_7 co1_7), Pr.S o1.phases (.slice Ao1_8 no1_8 co1_8)] [It.O 3 o1.visits (.slice Ao1_10 no1_10 co1_10), It.B bo1 124 [.slice Ao1_0 no1_0 co1_0, .slice Ao1_1 no1_1 co1_1, .string o1.r.Name, .string o1.r.Left, .slice Ao1_4 no1_4 co1_4, .bool o1.r.Literal, .slice Ao1_6 no1_6 co1_6, .slice Ao1_7 no1_7 co1_7, .slice Ao1_8 no1_8 co1_8, .slice Ao1_9 no1_9 co1_9, .slice Ao1_10 no1_10 co1_10, .slice Ao1_11 no1_11 co1_11], It.O 90 o1.known (.slice Ao1_9 no1_9 co1_9), It.O 130 o1.steps (.slice Ao1_11 no1_11 co1_11), It.B b1 130 [.int .i64 a1.Kind, .int .i64 a1.Pos, .int .i64 a1.Visit, .string a1.Name], It.B b2 90 [.int .i64 a1.Pos, .string a1.Name]]) ?_ ?_))
  · by_cases h1 : a1.Visit = 0
    · have hm1 := ifp h1 hm1
      refine CW.held (fun w => HL F0 M w0 w [Pr.S o1.g.Symbols (.slice Ao1_0 no1_0 co1_0), Pr.S o1.g.Rules (.slice Ao1_1 no1_1 co1_1), Pr.S o1.r.Right (.slice Ao1_4 no1_4 co1_4), Pr.S o1.r.Equations (.slice Ao1_6 no1_6 co1_6), Pr.S o1.r.Contributions (.slice Ao1_7 no1_7 co1_7), Pr.S o1.phases (.slice Ao1_8 no1_8 co1_8)] [It.O 3 o1.visits (.slice Ao1_10 no1_10 co1_10), It.B bo1 124 [.slice Ao1_0 no1_0 co1_0, .slice Ao1_1 no1_1 co1_1, .string o1.r.Name, .string o1.r.Left, .slice Ao1_4 no1_4 co1_4, .bool o1.r.Literal, .slice Ao1_6 no1_6 co1_6, .slice Ao1_7 no1_7 co1_7, .slice Ao1_8 no1_8 co1_8, .slice Ao1_9 no1_9 co1_9, .slice Ao1_10 no1_10 co1_10, .slice Ao1_11 no1_11 co1_11], It.O 90 o1.known (.slice Ao1_9 no1_9 co1_9), It.O 130 o1.steps (.slice Ao1_11 no1_11 co1_11), It.B b1 130 [.int .i64 a1.Kind, .int .i64 a1.Pos, .int .i64 a1.Visit, .string a1.Name], It.B b2 90 [.int .i64 a1.Pos, .string a1.Name]]) hmix (fun w4 hE => ?_)
      have H := H.ext hE
      refine HW.take 0 (H.keep 6 6) rfl (by kernel_rfl) rfl rfl (fun _ _ => Ev.fa rfl fo130_2 rfl) ?_
      refine HW.take 1 (H.keep 6 6) rfl (by kernel_rfl) rfl rfl (fun _ hq => Ev.ld rfl ag3 rfl ((hq.rB (i := 4) rfl).cell rfl)) ?_
      refine HW.take 2 (H.keep 6 6) rfl (by kernel_rfl) rfl rfl (fun _ _ => Ev.bin rfl rfl rfl Bin.neq) ?_
      refine HW.take 3 (H.keep 6 6) rfl (by kernel_rfl) rfl rfl (fun _ _ => Ev.mv rfl (congrArg (fun b => Value.bool (!b)) (decide_eq_true h1))) ?_
      refine HW.takeG 4 (H.keep 6 6) rfl (by kernel_rfl) rfl rfl (fun _ _ => Ev.mv rfl rfl) ?_
      refine HW.takeG 5 (H.keep 6 6) rfl (by kernel_rfl) rfl rfl (fun _ _ => Ev.nilc rfl rfl) ?_
      refine HW.takeG 6 (H.keep 6 6) rfl (by kernel_rfl) rfl rfl (fun _ _ => Ev.fa rfl fo124_0 rfl) ?_
      refine HW.takeG 7 (H.keep 6 6) rfl (by kernel_rfl) rfl rfl (fun _ hq => Ev.lda rfl ag40 sz40 rfl (Blk.part (hq.rB (i := 1) rfl) 0 2) rfl) ?_
      refine HW.takeG 8 (H.keep 6 6) rfl (by kernel_rfl) rfl rfl (fun _ _ => Ev.mv rfl rfl) ?_
      refine HW.takeG 9 (H.keep 6 6) rfl (by kernel_rfl) rfl rfl (fun _ _ => Ev.nilc rfl rfl) ?_
      refine HW.takeG 10 (H.keep 6 6) rfl (by kernel_rfl) rfl rfl (fun _ _ => Ev.fa rfl fo124_1 rfl) ?_
      refine HW.takeG 11 (H.keep 6 6) rfl (by kernel_rfl) rfl rfl (fun _ hq => Ev.lda rfl ag45 sz45 rfl (Blk.part (hq.rB (i := 1) rfl) 2 6) rfl) ?_
      refine HW.takeG 13 (H.keep 6 6) rfl (by kernel_rfl) rfl rfl (fun _ hq => Ev.lda rfl ag90 sz90 rfl (At.blk (hq.rB (i := 5) rfl)) rfl) ?_
      refine HW.eff 12 rfl (by kernel_rfl) ?_
      refine WL.on rfl rfl ?_
      obtain ⟨y1, hy1, hm1⟩ := bd hm1
      refine WL.call rfl rfl rfl rfl rfl ok142 rfl (sRequiredOccurrences_ok hy1 ⟨_, _, rfl, (H.rS (i := 0) rfl), (H.rS (i := 1) rfl)⟩ ⟨_, _, _, rfl, hIo1_2, hIo1_3, (H.rS (i := 2) rfl), (H.rS (i := 3) rfl), (H.rS (i := 4) rfl)⟩) ?_
      rintro _ w5 hE ⟨A1, n1, c1, rfl, H'⟩
      have H := H.callA H' ⟨fun _ _ _ _ _ h => h, trivial⟩
      refine HW.next (H.keep 6 6) ?_
      refine HW.eff 14 rfl (by kernel_rfl) ?_
      refine WL.on rfl rfl ?_
      obtain ⟨y2, hy2, hm1⟩ := bd hm1
      refine WL.call rfl rfl rfl rfl rfl ok141 rfl (sl11HasAt_ok hy2 (H.rO (i := 6) rfl) ⟨rfl, hIa1_1, hIa1_3⟩) ?_
      rintro _ w6 hE rfl
      have H := H.ext hE
      refine HW.next (H.keep 6 6) ?_
      refine HW.takeG 15 (H.keep 6 6) rfl (by kernel_rfl) rfl rfl (fun _ _ => Ev.not rfl rfl) ?_
      refine HW.take 16 (H.keep 6 6) rfl (by kernel_rfl) rfl rfl (fun _ _ => Ev.pickF rfl rfl rfl) ?_
      by_cases h2 : y2 = true
      · have hm1 := ifp h2 hm1
        refine HW.take 17 (H.keep 6 6) rfl (by kernel_rfl) rfl rfl (fun _ _ => Ev.mv rfl (congrArg (fun b => Value.bool (!b)) (h2))) ?_
        refine HW.takeG 18 (H.keep 6 6) rfl (by kernel_rfl) rfl rfl (fun _ _ => Ev.mv rfl rfl) ?_
        refine HW.takeG 19 (H.keep 6 6) rfl (by kernel_rfl) rfl rfl (fun _ _ => Ev.nilc rfl rfl) ?_
        refine HW.takeG 20 (H.keep 6 6) rfl (by kernel_rfl) rfl rfl (fun _ _ => Ev.fa rfl fo124_3 rfl) ?_
        refine HW.takeG 21 (H.keep 6 6) rfl (by kernel_rfl) rfl rfl (fun _ hq => Ev.ld rfl ag76 rfl ((hq.rB (i := 1) rfl).cell rfl)) ?_
        refine HW.takeG 22 (H.keep 6 6) rfl (by kernel_rfl) rfl rfl (fun _ hq => Ev.lda rfl ag90 sz90 rfl (At.blk (hq.rB (i := 5) rfl)) rfl) ?_
        refine HW.eff 23 rfl (by kernel_rfl) ?_
        refine WL.on rfl rfl ?_
        obtain ⟨y3, hy3, hm1⟩ := bd hm1
        refine WL.call rfl rfl rfl rfl rfl ok141 rfl (sl11HasAt_ok hy3 (H.rO (i := 2) rfl) ⟨rfl, hIa1_1, hIa1_3⟩) ?_
        rintro _ w7 hE rfl
        have H := H.ext hE
        refine HW.next (H.keep 6 6) ?_
        refine HW.take 24 (H.keep 6 6) rfl (by kernel_rfl) rfl rfl (fun _ _ => Ev.pickF rfl rfl rfl) ?_
        by_cases h3 : y3 = true
        · have hm1 := ifp h3 hm1
          refine HW.take 25 (H.keep 6 6) rfl (by kernel_rfl) rfl rfl (fun _ _ => Ev.mv rfl (congrArg (fun b => Value.bool (b)) (h3))) ?_
          refine HW.off 26 (H.keep 6 6) rfl (by kernel_rfl) rfl rfl ?_
          refine HW.off 27 (H.keep 6 6) rfl (by kernel_rfl) rfl rfl ?_
          refine HW.off 28 (H.keep 6 6) rfl (by kernel_rfl) rfl rfl ?_
          refine HW.off 29 (H.keep 6 6) rfl (by kernel_rfl) rfl rfl ?_
          refine HW.take 30 (H.keep 6 6) rfl (by kernel_rfl) rfl rfl (fun _ _ => Ev.pickT rfl rfl rfl) ?_
          refine HW.done (by kernel_rfl) ?_
          obtain rfl := sm hm1
          exact ⟨true, rfl, ⟨rfl, rfl, rfl, trivial⟩, H.keep 6 6⟩
        · have hm1 := ifn h3 hm1
          refine HW.take 25 (H.keep 6 6) rfl (by kernel_rfl) rfl rfl (fun _ _ => Ev.mv rfl (congrArg (fun b => Value.bool (b)) (eq_false_of_ne_true h3))) ?_
          refine HW.takeG 26 (H.keep 6 6) rfl (by kernel_rfl) rfl rfl (fun _ _ => Ev.mv rfl rfl) ?_
          refine HW.takeG 27 (H.keep 6 6) rfl (by kernel_rfl) rfl rfl (fun _ hq => Ev.lda rfl ag90 sz90 rfl (At.blk (hq.rB (i := 5) rfl)) rfl) ?_
          refine HW.eff 28 rfl (by kernel_rfl) ?_
          refine WL.on rfl rfl ?_
          obtain ⟨y4, hy4, hm1⟩ := bd hm1
          refine WL.call rfl rfl rfl rfl rfl ok143 rfl (sl28Inputs_ok hy4 (F0 := fun q => q < _) ⟨(H.rB (i := 1) rfl).lt, _, At.blk (H.rB (i := 1) rfl), ⟨_, _, _, _, _, _, _, _, _, rfl, hIo1_2, hIo1_3, (H.rS (i := 0) rfl), (H.rS (i := 1) rfl), (H.rS (i := 2) rfl), (H.rS (i := 3) rfl), (H.rS (i := 4) rfl), (H.rS (i := 5) rfl), (H.rO (i := 2) rfl), (H.rO (i := 0) rfl), (H.rO (i := 3) rfl)⟩⟩ ⟨rfl, hIa1_1, hIa1_3⟩) ?_
          rintro _ w8 hE rfl
          have H := H.ext hE
          refine HW.next (H.keep 6 6) ?_
          refine HW.takeG 29 (H.keep 6 6) rfl (by kernel_rfl) rfl rfl (fun _ _ => Ev.not rfl rfl) ?_
          refine HW.take 30 (H.keep 6 6) rfl (by kernel_rfl) rfl rfl (fun _ _ => Ev.pickF rfl rfl rfl) ?_
          refine HW.done (by kernel_rfl) ?_
          obtain rfl := sm hm1
          exact ⟨(!y4), rfl, ⟨rfl, rfl, rfl, trivial⟩, H.keep 6 6⟩
      · have hm1 := ifn h2 hm1
        refine HW.take 17 (H.keep 6 6) rfl (by kernel_rfl) rfl rfl (fun _ _ => Ev.mv rfl (congrArg (fun b => Value.bool (!b)) (eq_false_of_ne_true h2))) ?_
        refine HW.off 18 (H.keep 6 6) rfl (by kernel_rfl) rfl rfl ?_
        refine HW.off 19 (H.keep 6 6) rfl (by kernel_rfl) rfl rfl ?_
        refine HW.off 20 (H.keep 6 6) rfl (by kernel_rfl) rfl rfl ?_
        refine HW.off 21 (H.keep 6 6) rfl (by kernel_rfl) rfl rfl ?_
        refine HW.off 22 (H.keep 6 6) rfl (by kernel_rfl) rfl rfl ?_
        refine HW.off 23 (H.keep 6 6) rfl (by kernel_rfl) rfl rfl ?_
        refine HW.take 24 (H.keep 6 6) rfl (by kernel_rfl) rfl rfl (fun _ _ => Ev.pickT rfl rfl rfl) ?_
        refine HW.take 25 (H.keep 6 6) rfl (by kernel_rfl) rfl rfl (fun _ _ => Ev.mv rfl rfl) ?_
        refine HW.off 26 (H.keep 6 6) rfl (by kernel_rfl) rfl rfl ?_
        refine HW.off 27 (H.keep 6 6) rfl (by kernel_rfl) rfl rfl ?_
        refine HW.off 28 (H.keep 6 6) rfl (by kernel_rfl) rfl rfl ?_
        refine HW.off 29 (H.keep 6 6) rfl (by kernel_rfl) rfl rfl ?_
        refine HW.take 30 (H.keep 6 6) rfl (by kernel_rfl) rfl rfl (fun _ _ => Ev.pickT rfl rfl rfl) ?_
        refine HW.done (by kernel_rfl) ?_
        obtain rfl := sm hm1
        exact ⟨true, rfl, ⟨rfl, rfl, rfl, trivial⟩, H.keep 6 6⟩
    · have hm1 := ifn h1 hm1
      refine CW.held (fun w => HL F0 M w0 w [Pr.S o1.g.Symbols (.slice Ao1_0 no1_0 co1_0), Pr.S o1.g.Rules (.slice Ao1_1 no1_1 co1_1), Pr.S o1.r.Right (.slice Ao1_4 no1_4 co1_4), Pr.S o1.r.Equations (.slice Ao1_6 no1_6 co1_6), Pr.S o1.r.Contributions (.slice Ao1_7 no1_7 co1_7), Pr.S o1.phases (.slice Ao1_8 no1_8 co1_8)] [It.O 3 o1.visits (.slice Ao1_10 no1_10 co1_10), It.B bo1 124 [.slice Ao1_0 no1_0 co1_0, .slice Ao1_1 no1_1 co1_1, .string o1.r.Name, .string o1.r.Left, .slice Ao1_4 no1_4 co1_4, .bool o1.r.Literal, .slice Ao1_6 no1_6 co1_6, .slice Ao1_7 no1_7 co1_7, .slice Ao1_8 no1_8 co1_8, .slice Ao1_9 no1_9 co1_9, .slice Ao1_10 no1_10 co1_10, .slice Ao1_11 no1_11 co1_11], It.O 90 o1.known (.slice Ao1_9 no1_9 co1_9), It.O 130 o1.steps (.slice Ao1_11 no1_11 co1_11), It.B b1 130 [.int .i64 a1.Kind, .int .i64 a1.Pos, .int .i64 a1.Visit, .string a1.Name], It.B b2 90 [.int .i64 a1.Pos, .string a1.Name]]) hmix (fun w9 hE => ?_)
      have H := H.ext hE
      refine HW.take 0 (H.keep 6 6) rfl (by kernel_rfl) rfl rfl (fun _ _ => Ev.fa rfl fo130_2 rfl) ?_
      refine HW.take 1 (H.keep 6 6) rfl (by kernel_rfl) rfl rfl (fun _ hq => Ev.ld rfl ag3 rfl ((hq.rB (i := 4) rfl).cell rfl)) ?_
      refine HW.take 2 (H.keep 6 6) rfl (by kernel_rfl) rfl rfl (fun _ _ => Ev.bin rfl rfl rfl Bin.neq) ?_
      refine HW.take 3 (H.keep 6 6) rfl (by kernel_rfl) rfl rfl (fun _ _ => Ev.mv rfl (congrArg (fun b => Value.bool (!b)) (decide_eq_false h1))) ?_
      refine HW.off 4 (H.keep 6 6) rfl (by kernel_rfl) rfl rfl ?_
      refine HW.off 5 (H.keep 6 6) rfl (by kernel_rfl) rfl rfl ?_
      refine HW.off 6 (H.keep 6 6) rfl (by kernel_rfl) rfl rfl ?_
      refine HW.off 7 (H.keep 6 6) rfl (by kernel_rfl) rfl rfl ?_
      refine HW.off 8 (H.keep 6 6) rfl (by kernel_rfl) rfl rfl ?_
      refine HW.off 9 (H.keep 6 6) rfl (by kernel_rfl) rfl rfl ?_
      refine HW.off 10 (H.keep 6 6) rfl (by kernel_rfl) rfl rfl ?_
      refine HW.off 11 (H.keep 6 6) rfl (by kernel_rfl) rfl rfl ?_
      refine HW.off 13 (H.keep 6 6) rfl (by kernel_rfl) rfl rfl ?_
      refine HW.off 12 (H.keep 6 6) rfl (by kernel_rfl) rfl rfl ?_
      refine HW.off 14 (H.keep 6 6) rfl (by kernel_rfl) rfl rfl ?_
      refine HW.off 15 (H.keep 6 6) rfl (by kernel_rfl) rfl rfl ?_
      refine HW.take 16 (H.keep 6 6) rfl (by kernel_rfl) rfl rfl (fun _ _ => Ev.pickT rfl rfl rfl) ?_
      refine HW.take 17 (H.keep 6 6) rfl (by kernel_rfl) rfl rfl (fun _ _ => Ev.mv rfl rfl) ?_
      refine HW.off 18 (H.keep 6 6) rfl (by kernel_rfl) rfl rfl ?_
      refine HW.off 19 (H.keep 6 6) rfl (by kernel_rfl) rfl rfl ?_
      refine HW.off 20 (H.keep 6 6) rfl (by kernel_rfl) rfl rfl ?_
      refine HW.off 21 (H.keep 6 6) rfl (by kernel_rfl) rfl rfl ?_
      refine HW.off 22 (H.keep 6 6) rfl (by kernel_rfl) rfl rfl ?_
      refine HW.off 23 (H.keep 6 6) rfl (by kernel_rfl) rfl rfl ?_
      refine HW.take 24 (H.keep 6 6) rfl (by kernel_rfl) rfl rfl (fun _ _ => Ev.pickT rfl rfl rfl) ?_
      refine HW.take 25 (H.keep 6 6) rfl (by kernel_rfl) rfl rfl (fun _ _ => Ev.mv rfl rfl) ?_
      refine HW.off 26 (H.keep 6 6) rfl (by kernel_rfl) rfl rfl ?_
      refine HW.off 27 (H.keep 6 6) rfl (by kernel_rfl) rfl rfl ?_
      refine HW.off 28 (H.keep 6 6) rfl (by kernel_rfl) rfl rfl ?_
      refine HW.off 29 (H.keep 6 6) rfl (by kernel_rfl) rfl rfl ?_
      refine HW.take 30 (H.keep 6 6) rfl (by kernel_rfl) rfl rfl (fun _ _ => Ev.pickT rfl rfl rfl) ?_
      refine HW.done (by kernel_rfl) ?_
      obtain rfl := sm hm1
      exact ⟨true, rfl, ⟨rfl, rfl, rfl, trivial⟩, H.keep 6 6⟩
  · rintro ρ' w10 ⟨s1, rfl, hag, H⟩
    obtain ⟨σ, rfl⟩ := ofL_ex hag
    refine CW.condB rfl (fun h4 => ?_) (fun h4 => ?_)
    · have hr := ifp h4 hr
      refine Sreg ?_
      refine Wsn rfl rfl rfl rfl ?_
      refine CW.ret ?_
      obtain rfl := sm hr
      exact ⟨_, res1 rfl rfl rfl, H.chg, _, _, _, _, _, _, _, _, _, rfl, hIo1_2, hIo1_3, H.outM (fr' := []) [true, true, true, true, false, false] fun _ _ => trivial⟩
    · have hr := ifn h4 hr
      refine CW.skip ?_
      obtain ⟨q2, hm2, hr⟩ := bd hr
      refine CW.seq (CW.mid (fun ρ' w => ∃ (s2 : List Occurrence) (v1 : Value), s2 = q2 ∧ agree ρ' [] ∧ HL F0 M w0 w [Pr.S o1.g.Symbols (.slice Ao1_0 no1_0 co1_0), Pr.S o1.g.Rules (.slice Ao1_1 no1_1 co1_1), Pr.S o1.r.Right (.slice Ao1_4 no1_4 co1_4), Pr.S o1.r.Equations (.slice Ao1_6 no1_6 co1_6), Pr.S o1.r.Contributions (.slice Ao1_7 no1_7 co1_7), Pr.S o1.phases (.slice Ao1_8 no1_8 co1_8)] [It.O 3 o1.visits (.slice Ao1_10 no1_10 co1_10), It.B bo1 124 [.slice Ao1_0 no1_0 co1_0, .slice Ao1_1 no1_1 co1_1, .string o1.r.Name, .string o1.r.Left, .slice Ao1_4 no1_4 co1_4, .bool o1.r.Literal, .slice Ao1_6 no1_6 co1_6, .slice Ao1_7 no1_7 co1_7, .slice Ao1_8 no1_8 co1_8, v1, .slice Ao1_10 no1_10 co1_10, .slice Ao1_11 no1_11 co1_11], It.O 90 s2 v1, It.O 130 o1.steps (.slice Ao1_11 no1_11 co1_11), It.B b1 130 [.int .i64 a1.Kind, .int .i64 a1.Pos, .int .i64 a1.Visit, .string a1.Name], It.B b2 90 [.int .i64 a1.Pos, .string a1.Name]]) ?_ ?_)
      · refine CW.held (fun w => ∃ v1_9_ : Value, ∃ o2_ : It, HL F0 M w0 w [Pr.S o1.g.Symbols (.slice Ao1_0 no1_0 co1_0), Pr.S o1.g.Rules (.slice Ao1_1 no1_1 co1_1), Pr.S o1.r.Right (.slice Ao1_4 no1_4 co1_4), Pr.S o1.r.Equations (.slice Ao1_6 no1_6 co1_6), Pr.S o1.r.Contributions (.slice Ao1_7 no1_7 co1_7), Pr.S o1.phases (.slice Ao1_8 no1_8 co1_8)] [It.O 3 o1.visits (.slice Ao1_10 no1_10 co1_10), It.B bo1 124 [.slice Ao1_0 no1_0 co1_0, .slice Ao1_1 no1_1 co1_1, .string o1.r.Name, .string o1.r.Left, .slice Ao1_4 no1_4 co1_4, .bool o1.r.Literal, .slice Ao1_6 no1_6 co1_6, .slice Ao1_7 no1_7 co1_7, .slice Ao1_8 no1_8 co1_8, v1_9_, .slice Ao1_10 no1_10 co1_10, .slice Ao1_11 no1_11 co1_11], o2_, It.O 130 o1.steps (.slice Ao1_11 no1_11 co1_11), It.B b1 130 [.int .i64 a1.Kind, .int .i64 a1.Pos, .int .i64 a1.Visit, .string a1.Name], It.B b2 90 [.int .i64 a1.Pos, .string a1.Name]]) hmix (fun w11 hE => ?_)
        have H := H.ext hE
        refine HW.take 0 ⟨_, _, H.keep 6 6⟩ rfl (by kernel_rfl) rfl rfl (fun _ _ => Ev.mv rfl rfl) ?_
        refine HW.take 1 ⟨_, _, H.keep 6 6⟩ rfl (by kernel_rfl) rfl rfl (fun _ _ => Ev.mv rfl rfl) ?_
        refine HW.take 2 ⟨_, _, H.keep 6 6⟩ rfl (by kernel_rfl) rfl rfl (fun _ _ => Ev.nilc rfl rfl) ?_
        refine HW.take 3 ⟨_, _, H.keep 6 6⟩ rfl (by kernel_rfl) rfl rfl (fun _ _ => Ev.fa rfl fo124_3 rfl) ?_
        refine HW.take 5 ⟨_, _, H.keep 6 6⟩ rfl (by kernel_rfl) rfl rfl (fun _ ⟨_, _, hq⟩ => Ev.lda rfl ag90 sz90 rfl (At.blk (hq.rB (i := 5) rfl)) rfl) ?_
        refine HW.some [4, 6] (by kernel_rfl) rfl ⟨HW.do1 rfl ?_, HW.do1 rfl ?_, trivial⟩
        · refine WL.ev rfl rfl (Ev.ld rfl ag76 rfl ((H.rB (i := 1) rfl).cell rfl)) ?_
          refine HW.next ⟨_, _, H.keep 6 6⟩ ?_
          refine HW.eff 6 rfl (by kernel_rfl) ?_
          refine WL.lit1 rfl rfl rfl el76 sz90 ze90 rfl rfl rfl rfl rfl rfl fun b3 w12 hE hb hB => ?_
          have H := H.newB hE hb hB
          refine HW.next ⟨_, _, H.keep 6 6⟩ ?_
          refine HW.eff 7 rfl (by kernel_rfl) ?_
          obtain ⟨hg1, hm2⟩ := grd_some hm2
          refine WL.appO (i := 2) (ys := [(⟨a1.Pos, a1.Name⟩ : Occurrence)]) rfl rfl rfl el76 sz90 by90 ze90 rfl rfl rfl H rfl (fun _ => ownL.single ⟨rfl, hIa1_1, hIa1_3, rfl⟩) (.inr ⟨_, _, rfl, At.blk (H.rB (i := 6) rfl)⟩) hg1 fun A2 n2 c2 w13 H => ?_
          refine HW.next ⟨_, _, H.keep 6 6⟩ ?_
          refine HW.take 8 ⟨_, _, H.keep 6 6⟩ rfl (by kernel_rfl) rfl rfl (fun _ _ => Ev.nilc rfl rfl) ?_
          refine HW.take 9 ⟨_, _, H.keep 6 6⟩ rfl (by kernel_rfl) rfl rfl (fun _ _ => Ev.fa rfl fo124_3 rfl) ?_
          refine HW.eff 10 rfl (by kernel_rfl) ?_
          refine WL.stB (i := 1) rfl rfl rfl sz76 rfl rfl rfl rfl (all1 rfl all0) H rfl rfl rfl fun w14 H => ?_
          refine HW.next ⟨_, _, H.keep 6 6⟩ ?_
          refine HW.done (by kernel_rfl) ?_
          obtain rfl := sm hm2
          exact ⟨(o1.known ++ [(⟨a1.Pos, a1.Name⟩ : Occurrence)]), _, rfl, trivial, H.keep 6 6⟩
        · obtain ⟨hg1, hm2⟩ := grd_some hm2
          refine WL.lit1 rfl rfl rfl el76 sz90 ze90 rfl rfl rfl rfl rfl rfl fun b3 w12 hE hb hB => ?_
          have H := H.newB hE hb hB
          refine HW.next ⟨_, _, H.keep 6 6⟩ ?_
          refine HW.eff 4 rfl (by kernel_rfl) ?_
          refine WL.ev rfl rfl (Ev.ld rfl ag76 rfl ((H.rB (i := 1) rfl).cell rfl)) ?_
          refine HW.next ⟨_, _, H.keep 6 6⟩ ?_
          refine HW.eff 7 rfl (by kernel_rfl) ?_
          refine WL.appO (i := 2) (ys := [(⟨a1.Pos, a1.Name⟩ : Occurrence)]) rfl rfl rfl el76 sz90 by90 ze90 rfl rfl rfl H rfl (fun _ => ownL.single ⟨rfl, hIa1_1, hIa1_3, rfl⟩) (.inr ⟨_, _, rfl, At.blk (H.rB (i := 6) rfl)⟩) hg1 fun A2 n2 c2 w13 H => ?_
          refine HW.next ⟨_, _, H.keep 6 6⟩ ?_
          refine HW.take 8 ⟨_, _, H.keep 6 6⟩ rfl (by kernel_rfl) rfl rfl (fun _ _ => Ev.nilc rfl rfl) ?_
          refine HW.take 9 ⟨_, _, H.keep 6 6⟩ rfl (by kernel_rfl) rfl rfl (fun _ _ => Ev.fa rfl fo124_3 rfl) ?_
          refine HW.eff 10 rfl (by kernel_rfl) ?_
          refine WL.stB (i := 1) rfl rfl rfl sz76 rfl rfl rfl rfl (all1 rfl all0) H rfl rfl rfl fun w14 H => ?_
          refine HW.next ⟨_, _, H.keep 6 6⟩ ?_
          refine HW.done (by kernel_rfl) ?_
          obtain rfl := sm hm2
          exact ⟨(o1.known ++ [(⟨a1.Pos, a1.Name⟩ : Occurrence)]), _, rfl, trivial, H.keep 6 6⟩
      · rintro ρ' w15 ⟨s2, v1, rfl, hag, H⟩
        obtain ⟨σ, rfl⟩ := ofL_ex hag
        obtain ⟨A3, n3, c3, rfl⟩ := (H.rO (i := 2) rfl).form3
        refine Sreg ?_
        refine Wsn rfl rfl rfl rfl ?_
        refine CW.ret ?_
        obtain rfl := sm hr
        exact ⟨_, res1 rfl rfl rfl, H.chg, _, _, _, _, _, _, _, _, _, rfl, hIo1_2, hIo1_3, H.outM (fr' := []) [true, true, true, true, false, false] fun _ _ => trivial⟩

noncomputable def sl28Knows_L1 (a0 : l28Work) (a1 : Int) : Nat → ByteArray → Unit → Option (Unit ⊕ Bool) := fun k1 x1 _ => 
  (sl11HasAt_m a0.known (⟨a1, x1⟩ : Occurrence)).bind fun y1 =>
  if y1 = true then (
  some (.inl ())
  ) else (
  some (.inr false)
  )
noncomputable def sl28Knows_m (a0 : l28Work) (a1 : Int) (a2 : (List ByteArray)) : Option Bool :=
  (findL (sl28Knows_L1 a0 a1) 0 a2 ()).bind <| onr (fun r1 => some r1) fun _ =>
  some true
theorem sl28Knows_ok {a0 : l28Work} {a1 : Int} {a2 : (List ByteArray)} {r : Bool} (hr : sl28Knows_m a0 a1 a2 = some r) {F0 : Nat → Prop} {w0 : World} {b0p : Nat} (ha0 : CapP F0 w0 b0p a0) (ha1 : I64 a1) {z2 : Value} (ha2 : rdS F0 w0 a2 z2) :
    Ret Tryz.prog 85 #[.pointer (some ⟨b0p, 0, none⟩), .int .i64 a1, z2] w0 (fun _ => False) fun v w => v = .bool r := by
  obtain ⟨A2', n2', c2', rfl⟩ := ha2.form3
  have H := (HL.start F0 w0).argS ha2
  obtain ⟨cpa0, H⟩ := H.argP ha0
  obtain ⟨A1, n1, c1, A2, n2, c2, A3, n3, c3, A4, n4, c4, A5, n5, c5, A6, n6, c6, A7, n7, c7, A8, n8, c8, A9, n9, c9, rfl, hS1, hS2, H⟩ := op_l28Work H (i := 2) rfl
  refine enter Tryz.func85 rfl rfl rfl ?_
  refine Sreg ?_
  refine Wsn rfl rfl rfl rfl ?_
  refine SSr ?_
  refine Wsn rfl rfl rfl rfl ?_
  obtain ⟨q1, hq1, hr⟩ := bd hr
  refine CW.block (CW.loop (α := Nat) (fun k1 => [(0, .pointer (some ⟨b0p, 0, none⟩)), (1, .int .i64 a1), (2, .slice A2' n2' c2'), (7, .int .i64 (k1 : Int))]) (fun k1 w => k1 ≤ a2.length ∧ findL (sl28Knows_L1 a0 a1) k1 (a2.drop k1) () = some q1 ∧ HL F0 [] w0 w [Pr.S a2 (.slice A2' n2' c2'), Pr.A b0p 0 [.slice A1 n1 c1, .slice A2 n2 c2, .string a0.r.Name, .string a0.r.Left, .slice A3 n3 c3, .bool a0.r.Literal, .slice A4 n4 c4, .slice A5 n5 c5, .slice A6 n6 c6, .slice A7 n7 c7, .slice A8 n8 c8, .slice A9 n9 c9], Pr.R a0 [.slice A1 n1 c1, .slice A2 n2 c2, .string a0.r.Name, .string a0.r.Left, .slice A3 n3 c3, .bool a0.r.Literal, .slice A4 n4 c4, .slice A5 n5 c5, .slice A6 n6 c6, .slice A7 n7 c7, .slice A8 n8 c8, .slice A9 n9 c9], Pr.S a0.g.Symbols (.slice A1 n1 c1), Pr.S a0.g.Rules (.slice A2 n2 c2), Pr.S a0.r.Right (.slice A3 n3 c3), Pr.S a0.r.Equations (.slice A4 n4 c4), Pr.S a0.r.Contributions (.slice A5 n5 c5), Pr.S a0.phases (.slice A6 n6 c6), Pr.S a0.known (.slice A7 n7 c7), Pr.S a0.visits (.slice A8 n8 c8), Pr.S a0.steps (.slice A9 n9 c9)] []) (fun k1 => a2.length - k1) 0 ⟨rfl, rfl, rfl, rfl, trivial⟩ ⟨Nat.zero_le _, hq1, H.keep 12 0⟩ ?_)
  rintro k1 σ w1 ⟨hk1, hq1, H⟩
  refine SSr ?_
  refine Wmv rfl rfl rfl rfl (Wmv rfl rfl rfl rfl ?_)
  have hl1 := (H.rS (i := 0) rfl).I
  refine WL.ev rfl rfl (Ev.lenV rfl el26 rfl (H.rS (i := 0) rfl)) (WL.ev rfl rfl (Ev.bin rfl rfl rfl Bin.lss) (WL.nil ?_))
  refine CW.condD rfl (fun h1 => ?_) (fun h1 => ?_)
  · have hk2 := cast_lt h1
    obtain ⟨x1, z1, hx1, hb1, hs1, ht1⟩ := findL_go hq1 hk2
    refine CW.skip ?_
    refine CW.seq (CW.block (CW.seq (CW.quiet hmix (by kernel_rfl) ?_)))
    refine QL.ev rfl rfl (fun _ _ => Ev.mv rfl rfl) (QL.ev rfl rfl (fun _ _ => Ev.nilc rfl rfl) (QL.ev rfl rfl (fun _ _ => Ev.fa rfl fo124_3 rfl) (QL.ev rfl rfl (fun _ hq => Ev.ld rfl ag76 rfl (((H.ext hq).rA (i := 1) rfl).cell rfl)) (QL.ev rfl rfl (fun _ _ => Ev.mv rfl rfl) (QL.ev rfl rfl (fun _ _ => Ev.mv rfl rfl) (QL.ev rfl rfl (fun _ _ => Ev.mv rfl rfl) ?_))))))
    obtain ⟨b1, ob1, cb1, hvb1, hS3, H⟩ := ixS_Str H (i := 0) rfl hx1
    refine QL.ev rfl rfl (fun _ _ => Ev.ixVN rfl el26 sz9 rfl hvb1 rfl (lt_of hx1)) (QL.ev rfl rfl (fun _ hq => Ev.ld rfl ag9 rfl (((H.ext hq).rA (i := 12) rfl).cell0 rfl)) (QL.ev rfl rfl (fun _ _ => Ev.build rfl pl90 ze90 rfl rfl rfl rfl) ?_))
    obtain ⟨y1, hy1, hb1⟩ := bd hb1
    refine QL.call rfl rfl rfl rfl rfl ok141 rfl (fun _ hq => sl11HasAt_ok hy1 ((H.ext hq).rS (i := 9) rfl) ⟨rfl, ha1, hS3⟩) ?_
    refine QL.ev rfl rfl (fun _ _ => Ev.not rfl rfl) (QL.nil (fun w2 hE => ?_))
    have H := H.ext hE
    refine CW.condBN rfl (fun h2 => ?_) (fun h2 => ?_)
    · have hb1 := ifn h2 hb1
      refine Sreg ?_
      refine Wsn rfl rfl rfl rfl ?_
      refine CW.ret ?_
      obtain rfl := sm hb1
      obtain rfl := ht1 _ rfl
      obtain rfl := sm hr
      exact ⟨_, res1 rfl rfl rfl, H.ext0, rfl⟩
    · have hb1 := ifp h2 hb1
      refine CW.skip ?_
      refine CW.reg ?_
      refine Wmv rfl rfl rfl rfl (WL.ev rfl rfl (Ev.bin rfl rfl rfl (Bin.addN (a := k1) (b := 1) rfl (i64_succN hk2 hl1.2))) (Wsn rfl rfl rfl rfl ?_))
      obtain rfl := sm hb1
      have hq1 := hs1 _ rfl
      exact ⟨(k1 + 1), ⟨rfl, rfl, rfl, rfl, trivial⟩, ⟨hk2, hq1, H.keep 12 0⟩, Nat.sub_lt_sub_left hk2 (Nat.lt_succ_self _)⟩
  · obtain rfl := findL_end hq1 (not_cast_lt h1)
    have hr := (onr_inl _ _ _).symm.trans hr
    refine CW.exit ?_
    refine Sreg ?_
    refine Wsn rfl rfl rfl rfl ?_
    refine CW.ret ?_
    obtain rfl := sm hr
    exact ⟨_, res1 rfl rfl rfl, H.ext0, rfl⟩

noncomputable def sl29Visit_m (a1 : Step) (o1 : l28Work) : Option (Bool × l28Work) :=
  (sl1In_m a1.Pos 1 (o1.r.Right.length : Int)).bind fun y1 =>
  if y1 = true then (
  if a1.Name = (⟨#[]⟩ : ByteArray) then (
  grd (I64 (a1.Pos - 1)) <|
  grd (0 ≤ (a1.Pos - 1)) <|
  (o1.r.Right[(a1.Pos - 1).toNat]?).bind fun x1 =>
  (sl28Phases_m o1.g o1.phases x1).bind fun y2 =>
  grd (I64 (a1.Pos - 1)) <|
  grd (0 ≤ (a1.Pos - 1)) <|
  (o1.visits[(a1.Pos - 1).toNat]?).bind fun x2 =>
  grd (I64 (x2 + 1)) <|
  if a1.Visit = (x2 + 1) then (
  if (y2.length : Int) ≤ x2 then (
  some (false, o1)
  ) else (
  grd (0 ≤ x2) <|
  (y2[x2.toNat]?).bind fun x3 =>
  (sl28Knows_m o1 a1.Pos x3.Inherited).bind fun y3 =>
  if y3 = true then (
  grd (I64 (a1.Pos - 1)) <|
  grd (I64 (x2 + 1)) <|
  (sl28Learn_m a1.Pos x3.Synthesized (⟨o1.g, o1.r, o1.phases, o1.known, (List.set o1.visits ((a1.Pos - 1).toNat) (x2 + 1)), o1.steps⟩ : l28Work)).bind fun z1 =>
  some (true, (⟨o1.g, (⟨z1.r.Name, z1.r.Left, o1.r.Right, z1.r.Literal, o1.r.Equations, o1.r.Contributions⟩ : Rule), o1.phases, z1.known, z1.visits, z1.steps⟩ : l28Work))
  ) else (
  some (false, o1)
  )
  )
  ) else (
  some (false, o1)
  )
  ) else (
  some (false, o1)
  )
  ) else (
  some (false, o1)
  )
theorem sl29Visit_ok {a1 : Step} {o1 : l28Work} {r : (Bool × l28Work)} (hr : sl29Visit_m a1 o1 = some r) {F0 : Nat → Prop} {M : List Nat} {w0 : World} {bo1 : Nat} {Ao1_0 : Option Addr} {no1_0 co1_0 : Nat} {Ao1_1 : Option Addr} {no1_1 co1_1 : Nat} {Ao1_4 : Option Addr} {no1_4 co1_4 : Nat} {Ao1_6 : Option Addr} {no1_6 co1_6 : Nat} {Ao1_7 : Option Addr} {no1_7 co1_7 : Nat} {Ao1_8 : Option Addr} {no1_8 co1_8 : Nat} {Ao1_9 : Option Addr} {no1_9 co1_9 : Nat} {Ao1_10 : Option Addr} {no1_10 co1_10 : Nat} {Ao1_11 : Option Addr} {no1_11 co1_11 : Nat} (hIa1_0 : I64 a1.Kind) (hIa1_1 : I64 a1.Pos) (hIa1_2 : I64 a1.Visit) (hIa1_3 : a1.Name.size ≤ 9223372036854775807) (hIo1_2 : o1.r.Name.size ≤ 9223372036854775807) (hIo1_3 : o1.r.Left.size ≤ 9223372036854775807) (H : HL F0 M w0 w0 [Pr.S o1.g.Symbols (.slice Ao1_0 no1_0 co1_0), Pr.S o1.g.Rules (.slice Ao1_1 no1_1 co1_1), Pr.S o1.r.Right (.slice Ao1_4 no1_4 co1_4), Pr.S o1.r.Equations (.slice Ao1_6 no1_6 co1_6), Pr.S o1.r.Contributions (.slice Ao1_7 no1_7 co1_7), Pr.S o1.phases (.slice Ao1_8 no1_8 co1_8)] [It.O 3 o1.visits (.slice Ao1_10 no1_10 co1_10), It.B bo1 124 [.slice Ao1_0 no1_0 co1_0, .slice Ao1_1 no1_1 co1_1, .string o1.r.Name, .string o1.r.Left, .slice Ao1_4 no1_4 co1_4, .bool o1.r.Literal, .slice Ao1_6 no1_6 co1_6, .slice Ao1_7 no1_7 co1_7, .slice Ao1_8 no1_8 co1_8, .slice Ao1_9 no1_9 co1_9, .slice Ao1_10 no1_10 co1_10, .slice Ao1_11 no1_11 co1_11], It.O 90 o1.known (.slice Ao1_9 no1_9 co1_9), It.O 130 o1.steps (.slice Ao1_11 no1_11 co1_11)]) :
    Ret Tryz.prog 84 #[.pointer (some ⟨bo1, 0, none⟩), .agg #[.int .i64 a1.Kind, .int .i64 a1.Pos, .int .i64 a1.Visit, .string a1.Name]] w0 (· ∈ M) fun v w => ∃ A0 : Option Addr, ∃ n0 c0 : Nat, ∃ A1 : Option Addr, ∃ n1 c1 : Nat, ∃ A2 : Option Addr, ∃ n2 c2 : Nat, v = .bool r.1 ∧ r.2.r.Name.size ≤ 9223372036854775807 ∧ r.2.r.Left.size ≤ 9223372036854775807 ∧ HL F0 M w0 w [] [It.O 3 r.2.visits (.slice A1 n1 c1), It.B bo1 124 [.slice Ao1_0 no1_0 co1_0, .slice Ao1_1 no1_1 co1_1, .string r.2.r.Name, .string r.2.r.Left, .slice Ao1_4 no1_4 co1_4, .bool r.2.r.Literal, .slice Ao1_6 no1_6 co1_6, .slice Ao1_7 no1_7 co1_7, .slice Ao1_8 no1_8 co1_8, (.slice A0 n0 c0), (.slice A1 n1 c1), (.slice A2 n2 c2)], It.O 90 r.2.known (.slice A0 n0 c0), It.O 130 r.2.steps (.slice A2 n2 c2)] := by
  refine enter Tryz.func84 rfl rfl rfl ?_
  refine Sreg ?_
  refine WL.boxH rfl rfl rfl rfl rfl H fun b1 w1 H => ?_
  refine Wsn rfl rfl rfl rfl ?_
  refine CW.seq (CW.seq (CW.quiet hmix (by kernel_rfl) ?_))
  refine QL.ev rfl rfl (fun _ _ => Ev.fa rfl fo130_1 rfl) (QL.ev rfl rfl (fun _ hq => Ev.ld rfl ag3 rfl (((H.ext hq).rB (i := 4) rfl).cell rfl)) (QL.ev rfl rfl (fun _ _ => Ev.mv rfl rfl) (QL.ev rfl rfl (fun _ _ => Ev.nilc rfl rfl) (QL.ev rfl rfl (fun _ _ => Ev.fa rfl fo124_1 rfl) (QL.ev rfl rfl (fun _ _ => Ev.fa rfl fo45_2 rfl) (QL.ev rfl rfl (fun _ hq => Ev.ld rfl ag26 rfl (((H.ext hq).rB (i := 1) rfl).cell rfl)) ?_))))))
  have hl1 := (H.rS (i := 2) rfl).I
  refine QL.ev rfl rfl (fun _ _ => Ev.lenV rfl el26 rfl (H.rS (i := 2) rfl)) ?_
  obtain ⟨y1, hy1, hr⟩ := bd hr
  refine QL.call rfl rfl rfl rfl rfl ok108 rfl (fun _ hq => sl1In_ok hy1 (F0 := fun _ => False) hIa1_1 (by decide : I64 1) hl1) ?_
  refine QL.ev rfl rfl (fun _ _ => Ev.not rfl rfl) ?_
  refine QL.mvBN rfl rfl rfl rfl (fun h1 => ?_) (fun h1 => ?_)
  · have hr := ifn h1 hr
    refine QL.off rfl rfl rfl (QL.off rfl rfl rfl (QL.off rfl rfl rfl (QL.ev rfl rfl (fun _ _ => Ev.pickT rfl rfl rfl) (QL.nil (fun w2 hE => ?_)))))
    have H := H.ext hE
    refine CW.condT rfl ?_
    refine Sreg ?_
    refine Wsn rfl rfl rfl rfl ?_
    refine CW.ret ?_
    obtain rfl := sm hr
    exact ⟨_, res1 rfl rfl rfl, H.chg, _, _, _, _, _, _, _, _, _, rfl, hIo1_2, hIo1_3, H.outM (fr' := []) [true, true, true, true, false] fun _ _ => trivial⟩
  · have hr := ifp h1 hr
    refine QL.on rfl rfl (QL.ev rfl rfl (fun _ _ => Ev.fa rfl fo130_3 rfl) (QL.on rfl rfl (QL.ev rfl rfl (fun _ hq => Ev.ld rfl ag9 rfl (((H.ext hq).rB (i := 4) rfl).cell rfl)) (QL.on rfl rfl (QL.ev rfl rfl (fun _ _ => Ev.bin rfl rfl rfl Bin.neqS) (QL.ev rfl rfl (fun _ _ => Ev.pickF rfl rfl rfl) (QL.nil (fun w3 hE => ?_))))))))
    have H := H.ext hE
    refine CW.condN rfl (fun h2 => ?_) (fun h2 => ?_)
    · have hr := ifn h2 hr
      refine Sreg ?_
      refine Wsn rfl rfl rfl rfl ?_
      refine CW.ret ?_
      obtain rfl := sm hr
      exact ⟨_, res1 rfl rfl rfl, H.chg, _, _, _, _, _, _, _, _, _, rfl, hIo1_2, hIo1_3, H.outM (fr' := []) [true, true, true, true, false] fun _ _ => trivial⟩
    · have hr := ifp h2 hr
      refine CW.skip ?_
      refine CW.seq (CW.quietT 18 hmix (by kernel_rfl) ?_)
      refine QL.ev rfl rfl (fun _ _ => Ev.mv rfl rfl) (QL.ev rfl rfl (fun _ _ => Ev.nilc rfl rfl) (QL.ev rfl rfl (fun _ _ => Ev.fa rfl fo124_0 rfl) (QL.ev rfl rfl (fun _ hq => Ev.lda rfl ag40 sz40 rfl (Blk.part ((H.ext hq).rB (i := 1) rfl) 0 2) rfl) (QL.ev rfl rfl (fun _ _ => Ev.mv rfl rfl) (QL.ev rfl rfl (fun _ _ => Ev.nilc rfl rfl) (QL.ev rfl rfl (fun _ _ => Ev.fa rfl fo124_2 rfl) (QL.ev rfl rfl (fun _ hq => Ev.ld rfl ag59 rfl (((H.ext hq).rB (i := 1) rfl).cell rfl)) (QL.ev rfl rfl (fun _ _ => Ev.mv rfl rfl) (QL.ev rfl rfl (fun _ _ => Ev.nilc rfl rfl) (QL.ev rfl rfl (fun _ _ => Ev.fa rfl fo124_1 rfl) (QL.ev rfl rfl (fun _ _ => Ev.fa rfl fo45_2 rfl) (QL.ev rfl rfl (fun _ hq => Ev.ld rfl ag26 rfl (((H.ext hq).rB (i := 1) rfl).cell rfl)) (QL.ev rfl rfl (fun _ _ => Ev.fa rfl fo130_1 rfl) (QL.ev rfl rfl (fun _ hq => Ev.ld rfl ag3 rfl (((H.ext hq).rB (i := 4) rfl).cell rfl)) ?_))))))))))))))
      obtain ⟨hg1, hr⟩ := grd_some hr
      refine QL.ev rfl rfl (fun _ _ => Ev.bin rfl rfl rfl (Bin.sub hg1)) ?_
      obtain ⟨hg2, hr⟩ := grd_some hr
      obtain ⟨x1, hx1, hr⟩ := bd hr
      obtain ⟨b2, ob2, cb2, hvb2, hS1, H⟩ := ixS_Str H (i := 2) rfl hx1
      refine QL.ev rfl rfl (fun _ _ => Ev.ixV rfl el26 sz9 rfl hvb2 rfl hg2 (lt_of hx1)) (QL.ev rfl rfl (fun _ hq => Ev.ld rfl ag9 rfl (((H.ext hq).rA (i := 6) rfl).cell0 rfl)) (QL.nil (fun w4 hE => ?_)))
      have H := H.ext hE
      obtain ⟨y2, hy2, hr⟩ := bd hr
      obtain ⟨F, hF, hcl⟩ := H.call
      refine WL.call rfl rfl rfl rfl rfl ok81 rfl (sl28Phases_ok hy2 ⟨_, _, rfl, (hF.get (i := 0) rfl), (hF.get (i := 1) rfl)⟩ (hF.get (i := 5) rfl) hS1) ?_
      rintro _ w5 hE ⟨A1, n1, c1, rfl, H'⟩
      have H := hcl H'
      refine Wsn rfl rfl rfl rfl ?_
      refine CW.seq ?_
      refine CW.fresh [(0, .pointer (some ⟨bo1, 0, none⟩)), (3, .pointer (some ⟨b1, 0, none⟩)), (5, .slice A1 n1 c1)] ⟨rfl, rfl, rfl, trivial⟩ fun σ => ?_
      have H : HL F0 M w0 w5 [Pr.S o1.g.Symbols (.slice Ao1_0 no1_0 co1_0), Pr.S o1.g.Rules (.slice Ao1_1 no1_1 co1_1), Pr.S o1.r.Right (.slice Ao1_4 no1_4 co1_4), Pr.S o1.r.Equations (.slice Ao1_6 no1_6 co1_6), Pr.S o1.r.Contributions (.slice Ao1_7 no1_7 co1_7), Pr.S o1.phases (.slice Ao1_8 no1_8 co1_8), Pr.A b2 (ob2 + ((a1.Pos - 1).toNat) * 1) [.string x1], Pr.R x1 [.string x1], Pr.S y2 (.slice A1 n1 c1)] [It.O 3 o1.visits (.slice Ao1_10 no1_10 co1_10), It.B bo1 124 [.slice Ao1_0 no1_0 co1_0, .slice Ao1_1 no1_1 co1_1, .string o1.r.Name, .string o1.r.Left, .slice Ao1_4 no1_4 co1_4, .bool o1.r.Literal, .slice Ao1_6 no1_6 co1_6, .slice Ao1_7 no1_7 co1_7, .slice Ao1_8 no1_8 co1_8, .slice Ao1_9 no1_9 co1_9, .slice Ao1_10 no1_10 co1_10, .slice Ao1_11 no1_11 co1_11], It.O 90 o1.known (.slice Ao1_9 no1_9 co1_9), It.O 130 o1.steps (.slice Ao1_11 no1_11 co1_11), It.B b1 130 [.int .i64 a1.Kind, .int .i64 a1.Pos, .int .i64 a1.Visit, .string a1.Name]] := H
      refine CW.quiet hmix (by kernel_rfl) ?_
      refine QL.ev rfl rfl (fun _ _ => Ev.mv rfl rfl) (QL.ev rfl rfl (fun _ _ => Ev.nilc rfl rfl) (QL.ev rfl rfl (fun _ _ => Ev.fa rfl fo124_4 rfl) (QL.ev rfl rfl (fun _ hq => Ev.ld rfl ag33 rfl (((H.ext hq).rB (i := 1) rfl).cell rfl)) (QL.ev rfl rfl (fun _ _ => Ev.fa rfl fo130_1 rfl) (QL.ev rfl rfl (fun _ hq => Ev.ld rfl ag3 rfl (((H.ext hq).rB (i := 4) rfl).cell rfl)) ?_)))))
      obtain ⟨hg3, hr⟩ := grd_some hr
      refine QL.ev rfl rfl (fun _ _ => Ev.bin rfl rfl rfl (Bin.sub hg3)) ?_
      obtain ⟨hg4, hr⟩ := grd_some hr
      obtain ⟨x2, hx2, hr⟩ := bd hr
      obtain ⟨b3, cb3, hvb3, hbb3⟩ := H.ptO (i := 0) rfl hx2
      refine QL.ev rfl rfl (fun _ _ => Ev.ixV rfl el33 sz3 rfl hvb3 rfl hg4 (lt_of hx2)) ?_
      obtain ⟨hA1, hI1, H⟩ := elO_Int H (i := 0) rfl hx2 hbb3
      refine QL.ev rfl rfl (fun _ hq => Ev.ld rfl ag3 rfl ((hA1.ext hq).cell0 rfl)) (QL.ev rfl rfl (fun _ _ => Ev.as rfl rfl) (QL.nil (fun w6 hE => ?_)))
      have H := H.ext hE
      refine CW.seq (CW.seq (CW.quiet hmix (by kernel_rfl) ?_))
      refine QL.ev rfl rfl (fun _ _ => Ev.fa rfl fo130_2 rfl) (QL.ev rfl rfl (fun _ hq => Ev.ld rfl ag3 rfl (((H.ext hq).rB (i := 4) rfl).cell rfl)) (QL.ev rfl rfl (fun _ _ => Ev.mv rfl rfl) ?_))
      obtain ⟨hg5, hr⟩ := grd_some hr
      refine QL.ev rfl rfl (fun _ _ => Ev.bin rfl rfl rfl (Bin.add hg5)) (QL.ev rfl rfl (fun _ _ => Ev.bin rfl rfl rfl Bin.neq) ?_)
      refine QL.mvN rfl rfl rfl rfl (fun h3 => ?_) (fun h3 => ?_)
      · have hr := ifn h3 hr
        refine QL.off rfl rfl rfl (QL.off rfl rfl rfl (QL.off rfl rfl rfl (QL.off rfl rfl rfl (QL.ev rfl rfl (fun _ _ => Ev.pickT rfl rfl rfl) (QL.ev rfl rfl (fun _ _ => Ev.mv rfl rfl) (QL.off rfl rfl rfl (QL.off rfl rfl rfl (QL.off rfl rfl rfl (QL.off rfl rfl rfl (QL.off rfl rfl rfl (QL.off rfl rfl rfl (QL.off rfl rfl rfl (QL.off rfl rfl rfl (QL.off rfl rfl rfl (QL.off rfl rfl rfl (QL.ev rfl rfl (fun _ _ => Ev.pickT rfl rfl rfl) (QL.nil (fun w7 hE => ?_))))))))))))))))))
        have H := H.ext hE
        refine CW.condT rfl ?_
        refine Sreg ?_
        refine Wsn rfl rfl rfl rfl ?_
        refine CW.ret ?_
        obtain rfl := sm hr
        exact ⟨_, res1 rfl rfl rfl, H.chg, _, _, _, _, _, _, _, _, _, rfl, hIo1_2, hIo1_3, H.outM (fr' := []) [true, true, true, true, false] fun _ _ => trivial⟩
      · have hr := ifp h3 hr
        refine QL.on rfl rfl (QL.ev rfl rfl (fun _ _ => Ev.mv rfl rfl) (QL.on rfl rfl (QL.ev rfl rfl (fun _ _ => Ev.mv rfl rfl) (QL.on rfl rfl ?_))))
        have hl2 := (H.rS (i := 8) rfl).I
        refine QL.ev rfl rfl (fun _ _ => Ev.lenV rfl el125 rfl (H.rS (i := 8) rfl)) (QL.on rfl rfl (QL.ev rfl rfl (fun _ _ => Ev.bin rfl rfl rfl Bin.geq) (QL.ev rfl rfl (fun _ _ => Ev.pickF rfl rfl rfl) ?_)))
        refine QL.mvD rfl rfl rfl rfl (fun h4 => ?_) (fun h4 => ?_)
        · have hr := ifp h4 hr
          refine QL.off rfl rfl rfl (QL.off rfl rfl rfl (QL.off rfl rfl rfl (QL.off rfl rfl rfl (QL.off rfl rfl rfl (QL.off rfl rfl rfl (QL.off rfl rfl rfl (QL.off rfl rfl rfl (QL.off rfl rfl rfl (QL.off rfl rfl rfl (QL.ev rfl rfl (fun _ _ => Ev.pickT rfl rfl rfl) (QL.nil (fun w8 hE => ?_))))))))))))
          have H := H.ext hE
          refine CW.condT rfl ?_
          refine Sreg ?_
          refine Wsn rfl rfl rfl rfl ?_
          refine CW.ret ?_
          obtain rfl := sm hr
          exact ⟨_, res1 rfl rfl rfl, H.chg, _, _, _, _, _, _, _, _, _, rfl, hIo1_2, hIo1_3, H.outM (fr' := []) [true, true, true, true, false] fun _ _ => trivial⟩
        · have hr := ifn h4 hr
          refine QL.on rfl rfl (QL.ev rfl rfl (fun _ _ => Ev.mv rfl rfl) (QL.on rfl rfl (QL.ev rfl rfl (fun _ _ => Ev.fa rfl fo130_1 rfl) (QL.on rfl rfl (QL.ev rfl rfl (fun _ hq => Ev.ld rfl ag3 rfl (((H.ext hq).rB (i := 4) rfl).cell rfl)) (QL.on rfl rfl (QL.ev rfl rfl (fun _ _ => Ev.mv rfl rfl) (QL.on rfl rfl (QL.ev rfl rfl (fun _ _ => Ev.mv rfl rfl) (QL.on rfl rfl ?_))))))))))
          obtain ⟨hg6, hr⟩ := grd_some hr
          obtain ⟨x3, hx3, hr⟩ := bd hr
          obtain ⟨b4, ob4, cb4, A2, n2, c2, A3, n3, c3, hvb4, H⟩ := ixS_Phase H (i := 8) rfl hx3
          refine QL.ev rfl rfl (fun _ _ => Ev.ixV rfl el125 sz129 rfl hvb4 rfl hg6 (lt_of hx3)) (QL.on rfl rfl (QL.ev rfl rfl (fun _ _ => Ev.fa rfl fo129_0 rfl) (QL.on rfl rfl (QL.ev rfl rfl (fun _ hq => Ev.ld rfl ag26 rfl (((H.ext hq).rA (i := 10) rfl).cell rfl)) (QL.on rfl rfl ?_)))))
          obtain ⟨y3, hy3, hr⟩ := bd hr
          refine QL.call rfl rfl rfl rfl rfl ok85 rfl (fun _ hq => sl28Knows_ok hy3 (F0 := fun q => q < _) ⟨((H.ext hq).rB (i := 1) rfl).lt, _, At.blk ((H.ext hq).rB (i := 1) rfl), ⟨_, _, _, _, _, _, _, _, _, rfl, hIo1_2, hIo1_3, ((H.ext hq).rS (i := 0) rfl), ((H.ext hq).rS (i := 1) rfl), ((H.ext hq).rS (i := 2) rfl), ((H.ext hq).rS (i := 3) rfl), ((H.ext hq).rS (i := 4) rfl), ((H.ext hq).rS (i := 5) rfl), ((H.ext hq).rO (i := 2) rfl), ((H.ext hq).rO (i := 0) rfl), ((H.ext hq).rO (i := 3) rfl)⟩⟩ hIa1_1 ((H.ext hq).rS (i := 12) rfl)) ?_
          refine QL.on rfl rfl (QL.ev rfl rfl (fun _ _ => Ev.not rfl rfl) (QL.ev rfl rfl (fun _ _ => Ev.pickF rfl rfl rfl) (QL.nil (fun w9 hE => ?_))))
          have H := H.ext hE
          refine CW.condBN rfl (fun h5 => ?_) (fun h5 => ?_)
          · have hr := ifn h5 hr
            refine Sreg ?_
            refine Wsn rfl rfl rfl rfl ?_
            refine CW.ret ?_
            obtain rfl := sm hr
            exact ⟨_, res1 rfl rfl rfl, H.chg, _, _, _, _, _, _, _, _, _, rfl, hIo1_2, hIo1_3, H.outM (fr' := []) [true, true, true, true, false] fun _ _ => trivial⟩
          · have hr := ifp h5 hr
            refine CW.skip ?_
            refine CW.seq (CW.quietT 10 hmix (by kernel_rfl) ?_)
            refine QL.ev rfl rfl (fun _ _ => Ev.mv rfl rfl) (QL.ev rfl rfl (fun _ _ => Ev.nilc rfl rfl) (QL.ev rfl rfl (fun _ _ => Ev.fa rfl fo124_4 rfl) (QL.ev rfl rfl (fun _ hq => Ev.ld rfl ag33 rfl (((H.ext hq).rB (i := 1) rfl).cell rfl)) (QL.ev rfl rfl (fun _ _ => Ev.fa rfl fo130_1 rfl) (QL.ev rfl rfl (fun _ hq => Ev.ld rfl ag3 rfl (((H.ext hq).rB (i := 4) rfl).cell rfl)) ?_)))))
            obtain ⟨hg7, hr⟩ := grd_some hr
            refine QL.ev rfl rfl (fun _ _ => Ev.bin rfl rfl rfl (Bin.sub hg7)) (QL.ev rfl rfl (fun _ _ => Ev.mv rfl rfl) ?_)
            obtain ⟨hg8, hr⟩ := grd_some hr
            refine QL.ev rfl rfl (fun _ _ => Ev.bin rfl rfl rfl (Bin.add hg8)) ?_
            obtain ⟨b5, cb5, hvb5, hbb5⟩ := H.ptO (i := 0) rfl hx2
            refine QL.ev rfl rfl (fun _ _ => Ev.ixV rfl el33 sz3 rfl hvb5 rfl hg4 (lt_of hx2)) (QL.nil (fun w10 hE => ?_))
            have H := H.ext hE
            refine WL.stOf (i := 0) (z := (x2 + 1)) rfl rfl rfl sz3 rfl rfl rfl (fun _ => ⟨rfl, rfl, hg8⟩) H rfl hbb5 (by simpa using lt_of hx2) fun w11 H => ?_
            refine WL.nil ?_
            refine CW.seq ?_
            refine CW.fresh [(0, .pointer (some ⟨bo1, 0, none⟩)), (3, .pointer (some ⟨b1, 0, none⟩)), (5, .slice A1 n1 c1), (6, .int .i64 x2)] ⟨rfl, rfl, rfl, rfl, trivial⟩ fun σ => ?_
            have H : HL F0 M w0 w11 [Pr.S o1.g.Symbols (.slice Ao1_0 no1_0 co1_0), Pr.S o1.g.Rules (.slice Ao1_1 no1_1 co1_1), Pr.S o1.r.Right (.slice Ao1_4 no1_4 co1_4), Pr.S o1.r.Equations (.slice Ao1_6 no1_6 co1_6), Pr.S o1.r.Contributions (.slice Ao1_7 no1_7 co1_7), Pr.S o1.phases (.slice Ao1_8 no1_8 co1_8), Pr.A b2 (ob2 + ((a1.Pos - 1).toNat) * 1) [.string x1], Pr.R x1 [.string x1], Pr.S y2 (.slice A1 n1 c1), Pr.R x2 [.int .i64 x2], Pr.A b4 (ob4 + x2.toNat * 2) [.slice A2 n2 c2, .slice A3 n3 c3], Pr.R x3 [.slice A2 n2 c2, .slice A3 n3 c3], Pr.S x3.Inherited (.slice A2 n2 c2), Pr.S x3.Synthesized (.slice A3 n3 c3)] [It.O 3 (List.set o1.visits ((a1.Pos - 1).toNat) (x2 + 1)) (.slice Ao1_10 no1_10 co1_10), It.B bo1 124 [.slice Ao1_0 no1_0 co1_0, .slice Ao1_1 no1_1 co1_1, .string o1.r.Name, .string o1.r.Left, .slice Ao1_4 no1_4 co1_4, .bool o1.r.Literal, .slice Ao1_6 no1_6 co1_6, .slice Ao1_7 no1_7 co1_7, .slice Ao1_8 no1_8 co1_8, .slice Ao1_9 no1_9 co1_9, .slice Ao1_10 no1_10 co1_10, .slice Ao1_11 no1_11 co1_11], It.O 90 o1.known (.slice Ao1_9 no1_9 co1_9), It.O 130 o1.steps (.slice Ao1_11 no1_11 co1_11), It.B b1 130 [.int .i64 a1.Kind, .int .i64 a1.Pos, .int .i64 a1.Visit, .string a1.Name]] := H
            refine CW.quietT 8 hmix (by kernel_rfl) ?_
            refine QL.ev rfl rfl (fun _ _ => Ev.mv rfl rfl) (QL.ev rfl rfl (fun _ _ => Ev.fa rfl fo130_1 rfl) (QL.ev rfl rfl (fun _ hq => Ev.ld rfl ag3 rfl (((H.ext hq).rB (i := 4) rfl).cell rfl)) (QL.ev rfl rfl (fun _ _ => Ev.mv rfl rfl) (QL.ev rfl rfl (fun _ _ => Ev.mv rfl rfl) (QL.ev rfl rfl (fun _ _ => Ev.ixV rfl el125 sz129 rfl hvb4 rfl hg6 (lt_of hx3)) (QL.ev rfl rfl (fun _ _ => Ev.fa rfl fo129_1 rfl) (QL.ev rfl rfl (fun _ hq => Ev.ld rfl ag26 rfl (((H.ext hq).rA (i := 10) rfl).cell rfl)) (QL.nil (fun w12 hE => ?_)))))))))
            have H := H.ext hE
            obtain ⟨z1, hy4, hr⟩ := bd hr
            obtain ⟨F', M', hfF, hoF, hcM⟩ := H.callN [true, true, true, true, false] ⟨noO, noB, noO, noO, trivial⟩
            obtain ⟨H', hcN⟩ := hcM (ps := [Pr.S x3.Synthesized (.slice A3 n3 c3), Pr.S o1.g.Symbols (.slice Ao1_0 no1_0 co1_0), Pr.S o1.g.Rules (.slice Ao1_1 no1_1 co1_1), Pr.S o1.r.Right (.slice Ao1_4 no1_4 co1_4), Pr.S o1.r.Equations (.slice Ao1_6 no1_6 co1_6), Pr.S o1.r.Contributions (.slice Ao1_7 no1_7 co1_7), Pr.S o1.phases (.slice Ao1_8 no1_8 co1_8)]) ⟨hfF.get (i := 13) rfl, hfF.get (i := 0) rfl, hfF.get (i := 1) rfl, hfF.get (i := 2) rfl, hfF.get (i := 3) rfl, hfF.get (i := 4) rfl, hfF.get (i := 5) rfl, trivial⟩
            refine WL.call rfl rfl rfl rfl rfl ok82 rfl (sl28Learn_ok hy4 hIa1_1 hIo1_2 hIo1_3 H') ?_
            rintro _ w13 hE ⟨A4, n4, c4, A5, n5, c5, A6, n6, c6, rfl, hS2, hS3, H'⟩
            have H := hcN 4 H' rfl ⟨fun _ _ _ _ _ h => h, ⟨fun _ _ _ _ _ h => h, ⟨fun _ _ _ _ _ h => h, ⟨fun _ _ _ _ _ h => h, trivial⟩⟩⟩⟩
            refine WL.nil ?_
            refine Sreg ?_
            refine Wsn rfl rfl rfl rfl ?_
            refine CW.ret ?_
            obtain rfl := sm hr
            exact ⟨_, res1 rfl rfl rfl, H.chg, _, _, _, _, _, _, _, _, _, rfl, hS2, hS3, H.outM (fr' := []) [true, true, true, true, false] fun _ _ => trivial⟩

noncomputable def sl28Whole_L1 (a0 : l28Work) : Nat → Occurrence → Unit → Option (Unit ⊕ Bool) := fun k1 x1 _ => 
  (sl11HasAt_m a0.known x1).bind fun y2 =>
  if y2 = true then (
  some (.inl ())
  ) else (
  some (.inr false)
  )
noncomputable def sl28Whole_L2 (a0 : l28Work) : Nat → ByteArray → Unit → Option (Unit ⊕ Bool) := fun k2 x2 _ => 
  (a0.visits[k2]?).bind fun x3 =>
  (sl28Phases_m a0.g a0.phases x2).bind fun y3 =>
  if x3 = (y3.length : Int) then (
  some (.inl ())
  ) else (
  some (.inr false)
  )
noncomputable def sl28Whole_m (a0 : l28Work) : Option Bool :=
  (sRequiredOccurrences_m a0.g a0.r).bind fun y1 =>
  (findL (sl28Whole_L1 a0) 0 y1 ()).bind <| onr (fun r1 => some r1) fun _ =>
  (findL (sl28Whole_L2 a0) 0 a0.r.Right ()).bind <| onr (fun r2 => some r2) fun _ =>
  some true
theorem sl28Whole_ok {a0 : l28Work} {r : Bool} (hr : sl28Whole_m a0 = some r) {F0 : Nat → Prop} {w0 : World} {b0p : Nat} (ha0 : CapP F0 w0 b0p a0) :
    Ret Tryz.prog 86 #[.pointer (some ⟨b0p, 0, none⟩)] w0 (fun _ => False) fun v w => v = .bool r := by
  have H := HL.start F0 w0
  obtain ⟨cpa0, H⟩ := H.argP ha0
  obtain ⟨A1, n1, c1, A2, n2, c2, A3, n3, c3, A4, n4, c4, A5, n5, c5, A6, n6, c6, A7, n7, c7, A8, n8, c8, A9, n9, c9, rfl, hS1, hS2, H⟩ := op_l28Work H (i := 1) rfl
  refine enter Tryz.func86 rfl rfl rfl ?_
  refine Sreg ?_
  refine Wsn rfl rfl rfl rfl ?_
  refine CW.seq (CW.quietT 8 hmix (by kernel_rfl) ?_)
  refine QL.ev rfl rfl (fun _ _ => Ev.mv rfl rfl) (QL.ev rfl rfl (fun _ _ => Ev.nilc rfl rfl) (QL.ev rfl rfl (fun _ _ => Ev.fa rfl fo124_0 rfl) (QL.ev rfl rfl (fun _ hq => Ev.lda rfl ag40 sz40 rfl (((H.ext hq).rA (i := 0) rfl).part 0 2) rfl) (QL.ev rfl rfl (fun _ _ => Ev.mv rfl rfl) (QL.ev rfl rfl (fun _ _ => Ev.nilc rfl rfl) (QL.ev rfl rfl (fun _ _ => Ev.fa rfl fo124_1 rfl) (QL.ev rfl rfl (fun _ hq => Ev.lda rfl ag45 sz45 rfl (((H.ext hq).rA (i := 0) rfl).part 2 6) rfl) (QL.nil (fun w1 hE => ?_)))))))))
  have H := H.ext hE
  obtain ⟨y1, hy1, hr⟩ := bd hr
  refine WL.call rfl rfl rfl rfl rfl ok142 rfl (sRequiredOccurrences_ok hy1 ⟨_, _, rfl, (H.rS (i := 2) rfl), (H.rS (i := 3) rfl)⟩ ⟨_, _, _, rfl, hS1, hS2, (H.rS (i := 4) rfl), (H.rS (i := 5) rfl), (H.rS (i := 6) rfl)⟩) ?_
  rintro _ w2 hE ⟨A10, n10, c10, rfl, H'⟩
  have H := H.callA H' ⟨fun _ _ _ _ _ h => h, trivial⟩
  refine Wsn rfl rfl rfl rfl ?_
  refine SSr ?_
  refine Wsn rfl rfl rfl rfl ?_
  obtain ⟨q1, hq1, hr⟩ := bd hr
  refine CW.block (CW.loop (α := Nat) (fun k1 => [(0, .pointer (some ⟨b0p, 0, none⟩)), (3, .slice A10 n10 c10), (4, .int .i64 (k1 : Int))]) (fun k1 w => k1 ≤ y1.length ∧ findL (sl28Whole_L1 a0) k1 (y1.drop k1) () = some q1 ∧ HL F0 [] w0 w [Pr.A b0p 0 [.slice A1 n1 c1, .slice A2 n2 c2, .string a0.r.Name, .string a0.r.Left, .slice A3 n3 c3, .bool a0.r.Literal, .slice A4 n4 c4, .slice A5 n5 c5, .slice A6 n6 c6, .slice A7 n7 c7, .slice A8 n8 c8, .slice A9 n9 c9], Pr.R a0 [.slice A1 n1 c1, .slice A2 n2 c2, .string a0.r.Name, .string a0.r.Left, .slice A3 n3 c3, .bool a0.r.Literal, .slice A4 n4 c4, .slice A5 n5 c5, .slice A6 n6 c6, .slice A7 n7 c7, .slice A8 n8 c8, .slice A9 n9 c9], Pr.S a0.g.Symbols (.slice A1 n1 c1), Pr.S a0.g.Rules (.slice A2 n2 c2), Pr.S a0.r.Right (.slice A3 n3 c3), Pr.S a0.r.Equations (.slice A4 n4 c4), Pr.S a0.r.Contributions (.slice A5 n5 c5), Pr.S a0.phases (.slice A6 n6 c6), Pr.S a0.known (.slice A7 n7 c7), Pr.S a0.visits (.slice A8 n8 c8), Pr.S a0.steps (.slice A9 n9 c9)] [It.O 90 y1 (.slice A10 n10 c10)]) (fun k1 => y1.length - k1) 0 ⟨rfl, rfl, rfl, trivial⟩ ⟨Nat.zero_le _, hq1, H.keep 11 1⟩ ?_)
  rintro k1 σ w3 ⟨hk1, hq1, H⟩
  refine SSr ?_
  refine Wmv rfl rfl rfl rfl (Wmv rfl rfl rfl rfl ?_)
  have hl1 := (H.rO (i := 0) rfl).I
  refine WL.ev rfl rfl (Ev.lenV rfl el76 rfl (H.rO (i := 0) rfl)) (WL.ev rfl rfl (Ev.bin rfl rfl rfl Bin.lss) (WL.nil ?_))
  refine CW.condD rfl (fun h1 => ?_) (fun h1 => ?_)
  · have hk2 := cast_lt h1
    obtain ⟨x1, z1, hx1, hb1, hs1, ht1⟩ := findL_go hq1 hk2
    refine CW.skip ?_
    refine CW.seq (CW.block (CW.seq (CW.quiet hmix (by kernel_rfl) ?_)))
    refine QL.ev rfl rfl (fun _ _ => Ev.mv rfl rfl) (QL.ev rfl rfl (fun _ _ => Ev.nilc rfl rfl) (QL.ev rfl rfl (fun _ _ => Ev.fa rfl fo124_3 rfl) (QL.ev rfl rfl (fun _ hq => Ev.ld rfl ag76 rfl (((H.ext hq).rA (i := 0) rfl).cell rfl)) (QL.ev rfl rfl (fun _ _ => Ev.mv rfl rfl) (QL.ev rfl rfl (fun _ _ => Ev.mv rfl rfl) ?_)))))
    obtain ⟨b1, cb1, hvb1, hbb1⟩ := H.ptO (i := 0) rfl hx1
    refine QL.ev rfl rfl (fun _ _ => Ev.ixVN rfl el76 sz90 rfl hvb1 rfl (lt_of hx1)) ?_
    obtain ⟨hA1, hI1, hS3, H⟩ := elO_Occurrence H (i := 0) rfl hx1 hbb1
    refine QL.ev rfl rfl (fun _ hq => Ev.lda rfl ag90 sz90 rfl (hA1.ext hq) rfl) ?_
    obtain ⟨y2, hy2, hb1⟩ := bd hb1
    refine QL.call rfl rfl rfl rfl rfl ok141 rfl (fun _ hq => sl11HasAt_ok hy2 ((H.ext hq).rS (i := 8) rfl) ⟨rfl, hI1, hS3⟩) ?_
    refine QL.ev rfl rfl (fun _ _ => Ev.not rfl rfl) (QL.nil (fun w4 hE => ?_))
    have H := H.ext hE
    refine CW.condBN rfl (fun h2 => ?_) (fun h2 => ?_)
    · have hb1 := ifn h2 hb1
      refine Sreg ?_
      refine Wsn rfl rfl rfl rfl ?_
      refine CW.ret ?_
      obtain rfl := sm hb1
      obtain rfl := ht1 _ rfl
      obtain rfl := sm hr
      exact ⟨_, res1 rfl rfl rfl, H.ext0, rfl⟩
    · have hb1 := ifp h2 hb1
      refine CW.skip ?_
      refine CW.reg ?_
      refine Wmv rfl rfl rfl rfl (WL.ev rfl rfl (Ev.bin rfl rfl rfl (Bin.addN (a := k1) (b := 1) rfl (i64_succN hk2 hl1.2))) (Wsn rfl rfl rfl rfl ?_))
      obtain rfl := sm hb1
      have hq1 := hs1 _ rfl
      exact ⟨(k1 + 1), ⟨rfl, rfl, rfl, trivial⟩, ⟨hk2, hq1, H.keep 11 1⟩, Nat.sub_lt_sub_left hk2 (Nat.lt_succ_self _)⟩
  · obtain rfl := findL_end hq1 (not_cast_lt h1)
    have hr := (onr_inl _ _ _).symm.trans hr
    refine CW.exit ?_
    refine SSr ?_
    refine Wsn rfl rfl rfl rfl ?_
    obtain ⟨q2, hq2, hr⟩ := bd hr
    refine CW.block (CW.loop (α := Nat) (fun k2 => [(0, .pointer (some ⟨b0p, 0, none⟩)), (5, .int .i64 (k2 : Int))]) (fun k2 w => k2 ≤ a0.r.Right.length ∧ findL (sl28Whole_L2 a0) k2 (a0.r.Right.drop k2) () = some q2 ∧ HL F0 [] w0 w [Pr.A b0p 0 [.slice A1 n1 c1, .slice A2 n2 c2, .string a0.r.Name, .string a0.r.Left, .slice A3 n3 c3, .bool a0.r.Literal, .slice A4 n4 c4, .slice A5 n5 c5, .slice A6 n6 c6, .slice A7 n7 c7, .slice A8 n8 c8, .slice A9 n9 c9], Pr.R a0 [.slice A1 n1 c1, .slice A2 n2 c2, .string a0.r.Name, .string a0.r.Left, .slice A3 n3 c3, .bool a0.r.Literal, .slice A4 n4 c4, .slice A5 n5 c5, .slice A6 n6 c6, .slice A7 n7 c7, .slice A8 n8 c8, .slice A9 n9 c9], Pr.S a0.g.Symbols (.slice A1 n1 c1), Pr.S a0.g.Rules (.slice A2 n2 c2), Pr.S a0.r.Right (.slice A3 n3 c3), Pr.S a0.r.Equations (.slice A4 n4 c4), Pr.S a0.r.Contributions (.slice A5 n5 c5), Pr.S a0.phases (.slice A6 n6 c6), Pr.S a0.known (.slice A7 n7 c7), Pr.S a0.visits (.slice A8 n8 c8), Pr.S a0.steps (.slice A9 n9 c9)] [It.O 90 y1 (.slice A10 n10 c10)]) (fun k2 => a0.r.Right.length - k2) 0 ⟨rfl, rfl, trivial⟩ ⟨Nat.zero_le _, hq2, H.keep 11 1⟩ ?_)
    rintro k2 σ w5 ⟨hk3, hq2, H⟩
    refine SSr ?_
    refine Wmv rfl rfl rfl rfl (Wmv rfl rfl rfl rfl (WL.ev rfl rfl (Ev.nilc rfl rfl) (Wfa rfl rfl rfl fo124_1 rfl (Wfa rfl rfl rfl fo45_2 rfl (WL.ev rfl rfl (Ev.ld rfl ag26 rfl ((H.rA (i := 0) rfl).cellK (k := 4) rfl rfl)) ?_)))))
    have hl2 := (H.rS (i := 4) rfl).I
    refine WL.ev rfl rfl (Ev.lenV rfl el26 rfl (H.rS (i := 4) rfl)) (WL.ev rfl rfl (Ev.bin rfl rfl rfl Bin.lss) (WL.nil ?_))
    refine CW.condD rfl (fun h3 => ?_) (fun h3 => ?_)
    · have hk4 := cast_lt h3
      obtain ⟨x2, z2, hx2, hb2, hs2, ht2⟩ := findL_go hq2 hk4
      refine CW.skip ?_
      obtain ⟨x3, hx3, hb2⟩ := bd hb2
      obtain ⟨b2, ob2, cb2, hvb2, hI2, H⟩ := ixS_Int H (i := 9) rfl hx3
      obtain ⟨b3, ob3, cb3, hvb3, hS4, H⟩ := ixS_Str H (i := 4) rfl hx2
      refine CW.seq (CW.block (CW.seq (CW.held (fun w => HL F0 [] w0 w [Pr.A b0p 0 [.slice A1 n1 c1, .slice A2 n2 c2, .string a0.r.Name, .string a0.r.Left, .slice A3 n3 c3, .bool a0.r.Literal, .slice A4 n4 c4, .slice A5 n5 c5, .slice A6 n6 c6, .slice A7 n7 c7, .slice A8 n8 c8, .slice A9 n9 c9], Pr.R a0 [.slice A1 n1 c1, .slice A2 n2 c2, .string a0.r.Name, .string a0.r.Left, .slice A3 n3 c3, .bool a0.r.Literal, .slice A4 n4 c4, .slice A5 n5 c5, .slice A6 n6 c6, .slice A7 n7 c7, .slice A8 n8 c8, .slice A9 n9 c9], Pr.S a0.g.Symbols (.slice A1 n1 c1), Pr.S a0.g.Rules (.slice A2 n2 c2), Pr.S a0.r.Right (.slice A3 n3 c3), Pr.S a0.r.Equations (.slice A4 n4 c4), Pr.S a0.r.Contributions (.slice A5 n5 c5), Pr.S a0.phases (.slice A6 n6 c6), Pr.S a0.known (.slice A7 n7 c7), Pr.S a0.visits (.slice A8 n8 c8), Pr.S a0.steps (.slice A9 n9 c9), Pr.A b2 (ob2 + k2 * 1) [.int .i64 x3], Pr.R x3 [.int .i64 x3], Pr.A b3 (ob3 + k2 * 1) [.string x2], Pr.R x2 [.string x2]] [It.O 90 y1 (.slice A10 n10 c10)]) hmix (fun w6 hE => ?_))))
      have H := H.ext hE
      refine HW.take 0 (H.keep 15 1) rfl (by kernel_rfl) rfl rfl (fun _ _ => Ev.mv rfl rfl) ?_
      refine HW.take 1 (H.keep 15 1) rfl (by kernel_rfl) rfl rfl (fun _ _ => Ev.nilc rfl rfl) ?_
      refine HW.take 2 (H.keep 15 1) rfl (by kernel_rfl) rfl rfl (fun _ _ => Ev.fa rfl fo124_4 rfl) ?_
      refine HW.take 3 (H.keep 15 1) rfl (by kernel_rfl) rfl rfl (fun _ hq => Ev.ld rfl ag33 rfl ((hq.rA (i := 0) rfl).cell rfl)) ?_
      refine HW.take 4 (H.keep 15 1) rfl (by kernel_rfl) rfl rfl (fun _ _ => Ev.mv rfl rfl) ?_
      refine HW.take 5 (H.keep 15 1) rfl (by kernel_rfl) rfl rfl (fun _ _ => Ev.ixVN rfl el33 sz3 rfl hvb2 rfl (lt_of hx3)) ?_
      refine HW.take 6 (H.keep 15 1) rfl (by kernel_rfl) rfl rfl (fun _ hq => Ev.ld rfl ag3 rfl ((hq.rA (i := 11) rfl).cell0 rfl)) ?_
      refine HW.take 7 (H.keep 15 1) rfl (by kernel_rfl) rfl rfl (fun _ _ => Ev.mv rfl rfl) ?_
      refine HW.take 8 (H.keep 15 1) rfl (by kernel_rfl) rfl rfl (fun _ _ => Ev.nilc rfl rfl) ?_
      refine HW.take 9 (H.keep 15 1) rfl (by kernel_rfl) rfl rfl (fun _ _ => Ev.fa rfl fo124_0 rfl) ?_
      refine HW.take 10 (H.keep 15 1) rfl (by kernel_rfl) rfl rfl (fun _ hq => Ev.lda rfl ag40 sz40 rfl ((hq.rA (i := 0) rfl).part 0 2) rfl) ?_
      refine HW.take 11 (H.keep 15 1) rfl (by kernel_rfl) rfl rfl (fun _ _ => Ev.mv rfl rfl) ?_
      refine HW.take 12 (H.keep 15 1) rfl (by kernel_rfl) rfl rfl (fun _ _ => Ev.nilc rfl rfl) ?_
      refine HW.take 13 (H.keep 15 1) rfl (by kernel_rfl) rfl rfl (fun _ _ => Ev.fa rfl fo124_2 rfl) ?_
      refine HW.take 14 (H.keep 15 1) rfl (by kernel_rfl) rfl rfl (fun _ hq => Ev.ld rfl ag59 rfl ((hq.rA (i := 0) rfl).cell rfl)) ?_
      refine HW.take 15 (H.keep 15 1) rfl (by kernel_rfl) rfl rfl (fun _ _ => Ev.mv rfl rfl) ?_
      refine HW.take 16 (H.keep 15 1) rfl (by kernel_rfl) rfl rfl (fun _ _ => Ev.nilc rfl rfl) ?_
      refine HW.take 17 (H.keep 15 1) rfl (by kernel_rfl) rfl rfl (fun _ _ => Ev.fa rfl fo124_1 rfl) ?_
      refine HW.take 18 (H.keep 15 1) rfl (by kernel_rfl) rfl rfl (fun _ _ => Ev.fa rfl fo45_2 rfl) ?_
      refine HW.take 19 (H.keep 15 1) rfl (by kernel_rfl) rfl rfl (fun _ hq => Ev.ld rfl ag26 rfl ((hq.rA (i := 0) rfl).cellK (k := 4) rfl rfl)) ?_
      refine HW.take 20 (H.keep 15 1) rfl (by kernel_rfl) rfl rfl (fun _ _ => Ev.mv rfl rfl) ?_
      refine HW.take 21 (H.keep 15 1) rfl (by kernel_rfl) rfl rfl (fun _ _ => Ev.ixVN rfl el26 sz9 rfl hvb3 rfl (lt_of hx2)) ?_
      refine HW.take 22 (H.keep 15 1) rfl (by kernel_rfl) rfl rfl (fun _ hq => Ev.ld rfl ag9 rfl ((hq.rA (i := 13) rfl).cell0 rfl)) ?_
      refine HW.eff 23 rfl (by kernel_rfl) ?_
      obtain ⟨y3, hy3, hb2⟩ := bd hb2
      obtain ⟨F, hF, hcl⟩ := H.call
      refine WL.call rfl rfl rfl rfl rfl ok81 rfl (sl28Phases_ok hy3 ⟨_, _, rfl, (hF.get (i := 2) rfl), (hF.get (i := 3) rfl)⟩ (hF.get (i := 7) rfl) hS4) ?_
      rintro _ w7 hE ⟨A11, n11, c11, rfl, H'⟩
      have H := hcl H'
      refine HW.next (H.keep 15 1) ?_
      have hl3 := (H.rS (i := 15) rfl).I
      refine HW.take 24 (H.keep 15 1) rfl (by kernel_rfl) rfl rfl (fun _ _ => Ev.lenV rfl el125 rfl (H.rS (i := 15) rfl)) ?_
      refine HW.take 25 (H.keep 15 1) rfl (by kernel_rfl) rfl rfl (fun _ _ => Ev.bin rfl rfl rfl Bin.neq) ?_
      refine HW.done (by kernel_rfl) ?_
      refine CW.condN rfl (fun h4 => ?_) (fun h4 => ?_)
      · have hb2 := ifn h4 hb2
        refine Sreg ?_
        refine Wsn rfl rfl rfl rfl ?_
        refine CW.ret ?_
        obtain rfl := sm hb2
        obtain rfl := ht2 _ rfl
        obtain rfl := sm hr
        exact ⟨_, res1 rfl rfl rfl, H.ext0, rfl⟩
      · have hb2 := ifp h4 hb2
        refine CW.skip ?_
        refine CW.reg ?_
        refine Wmv rfl rfl rfl rfl (WL.ev rfl rfl (Ev.bin rfl rfl rfl (Bin.addN (a := k2) (b := 1) rfl (i64_succN hk4 hl2.2))) (Wsn rfl rfl rfl rfl ?_))
        obtain rfl := sm hb2
        have hq2 := hs2 _ rfl
        exact ⟨(k2 + 1), ⟨rfl, rfl, trivial⟩, ⟨hk4, hq2, H.keep 11 1⟩, Nat.sub_lt_sub_left hk4 (Nat.lt_succ_self _)⟩
    · obtain rfl := findL_end hq2 (not_cast_lt h3)
      have hr := (onr_inl _ _ _).symm.trans hr
      refine CW.exit ?_
      refine Sreg ?_
      refine Wsn rfl rfl rfl rfl ?_
      refine CW.ret ?_
      obtain rfl := sm hr
      exact ⟨_, res1 rfl rfl rfl, H.ext0, rfl⟩

noncomputable def sCheckRulePlan_L1 (a0 : Grammar) (a1 : (List (List Phase))) (a2 : Rule) (y1 : (List Phase)) : Nat → Step → ((List Int) × ByteArray × ByteArray × Bool × (List Occurrence) × (List Step) × Int) → Option (((List Int) × ByteArray × ByteArray × Bool × (List Occurrence) × (List Step) × Int) ⊕ Bool) := fun k1 x2 (s1, s2, s3, s4, s5, s6, s7) => 
  if x2.Kind = 1 then (
  (
  if s7 < (y1.length : Int) then (
  (sl29Eval_m x2 (⟨a0, (⟨s2, s3, a2.Right, s4, a2.Equations, a2.Contributions⟩ : Rule), a1, s5, s1, s6⟩ : l28Work)).bind fun (y2, z3) =>
  some (y2, z3.visits, z3.r.Name, z3.r.Left, z3.r.Literal, z3.known, z3.steps)
  ) else (
  some (false, s1, s2, s3, s4, s5, s6)
  )
  ).bind fun (s8, s9, s10, s11, s12, s13, s14) =>
  if s8 = true then (
  some (.inl (s9, s10, s11, s12, s13, s14, s7))
  ) else (
  some (.inr false)
  )
  ) else (
  if x2.Kind = 2 then (
  (
  if s7 < (y1.length : Int) then (
  (sl29Visit_m x2 (⟨a0, (⟨s2, s3, a2.Right, s4, a2.Equations, a2.Contributions⟩ : Rule), a1, s5, s1, s6⟩ : l28Work)).bind fun (y3, z4) =>
  some (y3, z4.visits, z4.r.Name, z4.r.Left, z4.r.Literal, z4.known, z4.steps)
  ) else (
  some (false, s1, s2, s3, s4, s5, s6)
  )
  ).bind fun (s15, s16, s17, s18, s19, s20, s21) =>
  if s15 = true then (
  some (.inl (s16, s17, s18, s19, s20, s21, s7))
  ) else (
  some (.inr false)
  )
  ) else (
  if x2.Kind = 3 then (
  (
  if s7 < (y1.length : Int) then (
  some (decide (x2.Pos = 0))
  ) else (
  some false
  )
  ).bind fun s22 =>
  (
  if s22 = true then (
  some (decide (x2.Name = (⟨#[]⟩ : ByteArray)))
  ) else (
  some false
  )
  ).bind fun s23 =>
  (
  if s23 = true then (
  grd (I64 (s7 + 1)) <|
  some (decide (x2.Visit = (s7 + 1)))
  ) else (
  some false
  )
  ).bind fun s24 =>
  (
  if s24 = true then (
  grd (0 ≤ s7) <|
  (y1[s7.toNat]?).bind fun x3 =>
  (sl28Knows_m (⟨a0, (⟨s2, s3, a2.Right, s4, a2.Equations, a2.Contributions⟩ : Rule), a1, s5, s1, s6⟩ : l28Work) 0 x3.Synthesized).bind fun y4 =>
  some y4
  ) else (
  some false
  )
  ).bind fun s25 =>
  grd (I64 (s7 + 1)) <|
  (
  if s25 = true then (
  some (decide ((s7 + 1) < (y1.length : Int)))
  ) else (
  some false
  )
  ).bind fun s26 =>
  if s26 = true then (
  grd (0 ≤ (s7 + 1)) <|
  (y1[(s7 + 1).toNat]?).bind fun x4 =>
  (sl28Learn_m 0 x4.Inherited (⟨a0, (⟨s2, s3, a2.Right, s4, a2.Equations, a2.Contributions⟩ : Rule), a1, s5, s1, s6⟩ : l28Work)).bind fun z5 =>
  if s25 = true then (
  some (.inl (z5.visits, z5.r.Name, z5.r.Left, z5.r.Literal, z5.known, z5.steps, (s7 + 1)))
  ) else (
  some (.inr false)
  )
  ) else (
  if s25 = true then (
  some (.inl (s1, s2, s3, s4, s5, s6, (s7 + 1)))
  ) else (
  some (.inr false)
  )
  )
  ) else (
  some (.inr false)
  )
  )
  )
noncomputable def sCheckRulePlan_m (a0 : Grammar) (a1 : (List (List Phase))) (a2 : Rule) (a3 : (List Step)) : Option Bool :=
  grd (0 ≤ (a2.Right.length : Int) ∧ (a2.Right.length : Int) * 8 ≤ 281474976710656 ∧ (a2.Right.length : Int) ≤ 9223372036854775807) <|
  (sl28Phases_m a0 a1 a2.Left).bind fun y1 =>
  if (y1.length : Int) = 0 then (
  some false
  ) else (
  (y1[0]?).bind fun x1 =>
  (sl28Learn_m 0 x1.Inherited (⟨a0, a2, a1, [], (List.replicate a2.Right.length (0 : Int)), []⟩ : l28Work)).bind fun z1 =>
  (findL (sCheckRulePlan_L1 a0 a1 a2 y1) 0 a3 (z1.visits, z1.r.Name, z1.r.Left, z1.r.Literal, z1.known, z1.steps, 0)).bind <| onr (fun r1 => some r1) fun (s1, s2, s3, s4, s5, s6, s7) =>
  (
  if s7 = (y1.length : Int) then (
  (sl28Whole_m (⟨a0, (⟨s2, s3, a2.Right, s4, a2.Equations, a2.Contributions⟩ : Rule), a1, s5, s1, s6⟩ : l28Work)).bind fun y5 =>
  some y5
  ) else (
  some false
  )
  ).bind fun s27 =>
  some s27
  )
end Go.Proofs.YtonnooljidombaaGreat

