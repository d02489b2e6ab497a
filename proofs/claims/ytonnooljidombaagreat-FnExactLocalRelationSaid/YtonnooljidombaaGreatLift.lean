/- What some functions of the program compute, as partial functions on plain data, and that they do; each lemma bears its conditions in its statement. -/
import Derived.Test.YtonnooljidombaaGreatRows
import Derived.Test.YtonnooljidombaaGreatRd
import Derived.Test.YtonnooljidombaaGreatEngD
import Derived.Test.YtonnooljidombaaGreatSort
set_option linter.unusedVariables false
set_option linter.unusedSimpArgs false
set_option linter.ambiguousOpen false
set_option linter.unusedSectionVars false
set_option linter.unnecessarySimpa false
set_option linter.unusedVariables false
set_option linter.unusedSimpArgs false
set_option maxRecDepth 100000
set_option maxHeartbeats 1000000
namespace Go.Proofs.YtonnooljidombaaGreat
open Go Go.E
open Go.E.Rep (rd)
open Go.E.Sep (own)
open Go.E.Sz (szd)
theorem ag26 : aggT Tryz.prog 26 = some false := by kernel_rfl
theorem ag33 : aggT Tryz.prog 33 = some false := by kernel_rfl
theorem ag35 : aggT Tryz.prog 35 = some true := by kernel_rfl
theorem ag37 : aggT Tryz.prog 37 = some false := by kernel_rfl
theorem ag40 : aggT Tryz.prog 40 = some true := by kernel_rfl
theorem ag42 : aggT Tryz.prog 42 = some false := by kernel_rfl
theorem ag45 : aggT Tryz.prog 45 = some true := by kernel_rfl
theorem ag76 : aggT Tryz.prog 76 = some false := by kernel_rfl
theorem ag81 : aggT Tryz.prog 81 = some false := by kernel_rfl
theorem ag84 : aggT Tryz.prog 84 = some false := by kernel_rfl
theorem ag86 : aggT Tryz.prog 86 = some true := by kernel_rfl
theorem ag90 : aggT Tryz.prog 90 = some true := by kernel_rfl
theorem ag156 : aggT Tryz.prog 156 = some true := by kernel_rfl
theorem ag161 : aggT Tryz.prog 161 = some true := by kernel_rfl
theorem ag165 : aggT Tryz.prog 165 = some true := by kernel_rfl
theorem ag189 : aggT Tryz.prog 189 = some false := by kernel_rfl
theorem sz9 : szT Tryz.prog 9 = some 1 := by kernel_rfl
theorem sz35 : szT Tryz.prog 35 = some 2 := by kernel_rfl
theorem sz40 : szT Tryz.prog 40 = some 2 := by kernel_rfl
theorem sz45 : szT Tryz.prog 45 = some 6 := by kernel_rfl
theorem sz76 : szT Tryz.prog 76 = some 1 := by kernel_rfl
theorem sz84 : szT Tryz.prog 84 = some 1 := by kernel_rfl
theorem sz86 : szT Tryz.prog 86 = some 7 := by kernel_rfl
theorem sz90 : szT Tryz.prog 90 = some 2 := by kernel_rfl
theorem sz156 : szT Tryz.prog 156 = some 4 := by kernel_rfl
theorem sz161 : szT Tryz.prog 161 = some 2 := by kernel_rfl
theorem sz165 : szT Tryz.prog 165 = some 9 := by kernel_rfl
theorem by3 : byT Tryz.prog 3 = some 8 := by kernel_rfl
theorem by86 : byT Tryz.prog 86 = some 88 := by kernel_rfl
theorem by90 : byT Tryz.prog 90 = some 24 := by kernel_rfl
theorem by156 : byT Tryz.prog 156 = some 40 := by kernel_rfl
theorem ze35 : zeroT Tryz.prog 35 = some [.int .i64 0, .slice none 0 0] := by kernel_rfl
theorem ze76 : zeroT Tryz.prog 76 = some [.slice none 0 0] := by kernel_rfl
theorem ze86 : zeroT Tryz.prog 86 = some [.int .i64 0, .int .i64 0, .int .i64 0, .int .i64 0, .string ⟨#[]⟩, .string ⟨#[]⟩, .slice none 0 0] := by kernel_rfl
theorem ze90 : zeroT Tryz.prog 90 = some [.int .i64 0, .string ⟨#[]⟩] := by kernel_rfl
theorem ze156 : zeroT Tryz.prog 156 = some [.string ⟨#[]⟩, .int .i64 0, .int .i64 0, .bool false] := by kernel_rfl
theorem ze161 : zeroT Tryz.prog 161 = some [.string ⟨#[]⟩, .slice none 0 0] := by kernel_rfl
theorem ze165 : zeroT Tryz.prog 165 = some [.int .i64 0, .string ⟨#[]⟩, .int .i64 0, .int .i64 0, .int .i64 0, .int .i64 0, .string ⟨#[]⟩, .string ⟨#[]⟩, .slice none 0 0] := by kernel_rfl
theorem el26 : elemT Tryz.prog 26 = some 9 := by kernel_rfl
theorem el37 : elemT Tryz.prog 37 = some 161 := by kernel_rfl
theorem el42 : elemT Tryz.prog 42 = some 165 := by kernel_rfl
theorem el76 : elemT Tryz.prog 76 = some 90 := by kernel_rfl
theorem el81 : elemT Tryz.prog 81 = some 156 := by kernel_rfl
theorem el84 : elemT Tryz.prog 84 = some 86 := by kernel_rfl
theorem it168 : intT Tryz.prog 168 = some .u64 := by kernel_rfl
theorem pl35 : placesT Tryz.prog 35 = some [(0, 1), (1, 1)] := by kernel_rfl
theorem pl86 : placesT Tryz.prog 86 = some [(0, 1), (1, 1), (2, 1), (3, 1), (4, 1), (5, 1), (6, 1)] := by kernel_rfl
theorem pl90 : placesT Tryz.prog 90 = some [(0, 1), (1, 1)] := by kernel_rfl
theorem pl161 : placesT Tryz.prog 161 = some [(0, 1), (1, 1)] := by kernel_rfl
theorem fl90 : flatT Tryz.prog 90 = some [.int, .str] := by kernel_rfl
theorem fo35_0 : fieldT Tryz.prog 35 0 = some 0 := by kernel_rfl
theorem fo35_1 : fieldT Tryz.prog 35 1 = some 1 := by kernel_rfl
theorem fo40_0 : fieldT Tryz.prog 40 0 = some 0 := by kernel_rfl
theorem fo45_1 : fieldT Tryz.prog 45 1 = some 1 := by kernel_rfl
theorem fo45_2 : fieldT Tryz.prog 45 2 = some 2 := by kernel_rfl
theorem fo45_4 : fieldT Tryz.prog 45 4 = some 4 := by kernel_rfl
theorem fo86_0 : fieldT Tryz.prog 86 0 = some 0 := by kernel_rfl
theorem fo86_2 : fieldT Tryz.prog 86 2 = some 2 := by kernel_rfl
theorem fo86_5 : fieldT Tryz.prog 86 5 = some 5 := by kernel_rfl
theorem fo86_6 : fieldT Tryz.prog 86 6 = some 6 := by kernel_rfl
theorem fo156_0 : fieldT Tryz.prog 156 0 = some 0 := by kernel_rfl
theorem fo156_2 : fieldT Tryz.prog 156 2 = some 2 := by kernel_rfl
theorem fo161_0 : fieldT Tryz.prog 161 0 = some 0 := by kernel_rfl
theorem fo161_1 : fieldT Tryz.prog 161 1 = some 1 := by kernel_rfl
theorem fo165_0 : fieldT Tryz.prog 165 0 = some 0 := by kernel_rfl
theorem fo165_1 : fieldT Tryz.prog 165 1 = some 2 := by kernel_rfl
theorem ok33 : callable Tryz.prog 33 = true := by kernel_rfl
theorem ok38 : callable Tryz.prog 38 = true := by kernel_rfl
theorem ok40 : callable Tryz.prog 40 = true := by kernel_rfl
theorem ok43 : callable Tryz.prog 43 = true := by kernel_rfl
theorem ok44 : callable Tryz.prog 44 = true := by kernel_rfl
theorem ok45 : callable Tryz.prog 45 = true := by kernel_rfl
theorem ok46 : callable Tryz.prog 46 = true := by kernel_rfl
theorem ok54 : callable Tryz.prog 54 = true := by kernel_rfl
theorem ok55 : callable Tryz.prog 55 = true := by kernel_rfl
theorem ok61 : callable Tryz.prog 61 = true := by kernel_rfl
theorem ok62 : callable Tryz.prog 62 = true := by kernel_rfl
theorem ok63 : callable Tryz.prog 63 = true := by kernel_rfl
theorem ok64 : callable Tryz.prog 64 = true := by kernel_rfl
theorem ok65 : callable Tryz.prog 65 = true := by kernel_rfl
theorem ok105 : callable Tryz.prog 105 = true := by kernel_rfl
theorem ok108 : callable Tryz.prog 108 = true := by kernel_rfl
theorem ok110 : callable Tryz.prog 110 = true := by kernel_rfl
theorem ok111 : callable Tryz.prog 111 = true := by kernel_rfl
theorem ok113 : callable Tryz.prog 113 = true := by kernel_rfl
theorem ok114 : callable Tryz.prog 114 = true := by kernel_rfl
theorem ok115 : callable Tryz.prog 115 = true := by kernel_rfl
theorem ok116 : callable Tryz.prog 116 = true := by kernel_rfl
theorem ok117 : callable Tryz.prog 117 = true := by kernel_rfl
theorem ok121 : callable Tryz.prog 121 = true := by kernel_rfl
theorem ok125 : callable Tryz.prog 125 = true := by kernel_rfl
theorem ok126 : callable Tryz.prog 126 = true := by kernel_rfl
theorem ok127 : callable Tryz.prog 127 = true := by kernel_rfl
theorem ok128 : callable Tryz.prog 128 = true := by kernel_rfl
theorem ok130 : callable Tryz.prog 130 = true := by kernel_rfl
theorem ok131 : callable Tryz.prog 131 = true := by kernel_rfl
theorem ok132 : callable Tryz.prog 132 = true := by kernel_rfl
theorem ok159 : callable Tryz.prog 159 = true := by kernel_rfl
theorem ok163 : callable Tryz.prog 163 = true := by kernel_rfl
theorem ok164 : callable Tryz.prog 164 = true := by kernel_rfl
theorem ok165 : callable Tryz.prog 165 = true := by kernel_rfl
theorem ok172 : callable Tryz.prog 172 = true := by kernel_rfl
theorem ok173 : callable Tryz.prog 173 = true := by kernel_rfl
theorem ok179 : callable Tryz.prog 179 = true := by kernel_rfl
theorem ok196 : callable Tryz.prog 196 = true := by kernel_rfl
theorem ok203 : callable Tryz.prog 203 = true := by kernel_rfl
theorem ok204 : callable Tryz.prog 204 = true := by kernel_rfl
theorem ok209 : callable Tryz.prog 209 = true := by kernel_rfl
noncomputable def sl1In_m (a0 : Int) (a1 : Int) (a2 : Int) : Option Bool :=
  if a1 ≤ a0 then (
  some (decide (a0 ≤ a2))
  ) else (
  some false
  )
theorem sl1In_ok {a0 : Int} {a1 : Int} {a2 : Int} {r : Bool} (hr : sl1In_m a0 a1 a2 = some r) {F0 : Nat → Prop} {w0 : World} (ha0 : I64 a0) (ha1 : I64 a1) (ha2 : I64 a2) :
    Ret Tryz.prog 108 #[.int .i64 a0, .int .i64 a1, .int .i64 a2] w0 (fun _ => False) fun v w => v = .bool r := by
  have H := HL.start F0 w0
  refine enter Tryz.func108 rfl rfl rfl ?_
  refine CW.seq (CW.reg ?_)
  refine WL.ev rfl rfl (Ev.as rfl rfl) (WL.nil ?_)
  refine CW.seq (CW.reg ?_)
  refine WL.ev rfl rfl (Ev.mv rfl rfl) (WL.ev rfl rfl (Ev.mv rfl rfl) (WL.ev rfl rfl (Ev.bin rfl rfl rfl Bin.geq) ?_))
  refine WL.mvD rfl rfl rfl rfl (fun h1 => ?_) (fun h1 => ?_)
  · skip
    have hr := ifp h1 hr
    refine WL.on rfl rfl (WL.ev rfl rfl (Ev.mv rfl rfl) (WL.on rfl rfl (WL.ev rfl rfl (Ev.mv rfl rfl) (WL.on rfl rfl (WL.ev rfl rfl (Ev.bin rfl rfl rfl Bin.leq) (WL.ev rfl rfl (Ev.pickT rfl rfl rfl) (WL.ev rfl rfl (Ev.as rfl rfl) (WL.nil ?_))))))))
    refine CW.ret ?_
    obtain rfl := sm hr
    exact ⟨_, res1 rfl rfl rfl, H.ext0, rfl⟩
  · skip
    have hr := ifn h1 hr
    refine WL.off rfl rfl rfl (WL.off rfl rfl rfl (WL.off rfl rfl rfl (WL.ev rfl rfl (Ev.pickF rfl rfl rfl) (WL.ev rfl rfl (Ev.as rfl rfl) (WL.nil ?_)))))
    refine CW.ret ?_
    obtain rfl := sm hr
    exact ⟨_, res1 rfl rfl rfl, H.ext0, rfl⟩

noncomputable def sSymbolAt_m (a0 : Rule) (a1 : Int) : Option ByteArray :=
  if a1 = 0 then (
  some a0.Left
  ) else (
  (sl1In_m a1 1 (a0.Right.length : Int)).bind fun y1 =>
  if y1 = true then (
  grd (I64 (a1 - 1)) <|
  grd (0 ≤ (a1 - 1)) <|
  (a0.Right[(a1 - 1).toNat]?).bind fun x1 =>
  some x1
  ) else (
  some (⟨#[]⟩ : ByteArray)
  )
  )
theorem sSymbolAt_ok {a0 : Rule} {a1 : Int} {r : ByteArray} (hr : sSymbolAt_m a0 a1 = some r) {F0 : Nat → Prop} {w0 : World} {ca0 : List Value} (ha0 : rd F0 w0 a0 ca0) (ha1 : I64 a1) :
    Ret Tryz.prog 44 #[.agg ca0.toArray, .int .i64 a1] w0 (fun _ => False) fun v w => v = .string r ∧ r.size ≤ 9223372036854775807 := by
  have H := (HL.start F0 w0).argR ha0
  obtain ⟨A1, n1, c1, A2, n2, c2, A3, n3, c3, rfl, hS1, hS2, H⟩ := op_Rule H (i := 0) rfl
  refine enter Tryz.func44 rfl rfl rfl ?_
  refine CW.seq (CW.reg ?_)
  refine WL.boxH rfl rfl rfl rfl rfl H fun b1 w1 H => ?_
  refine WL.ev rfl rfl (Ev.as rfl rfl) (WL.nil ?_)
  refine CW.seq (CW.seq (CW.reg ?_))
  refine WL.ev rfl rfl (Ev.mv rfl rfl) (WL.ev rfl rfl (Ev.bin rfl rfl rfl Bin.eql) (WL.nil ?_))
  refine CW.condD rfl (fun h1 => ?_) (fun h1 => ?_)
  · skip
    have hr := ifp h1 hr
    refine CW.seq (CW.reg ?_)
    refine WL.ev rfl rfl (Ev.fa rfl fo45_1 rfl) (WL.ev rfl rfl (Ev.ld rfl ag9 rfl ((H.rB (i := 0) rfl).cell rfl)) (WL.ev rfl rfl (Ev.as rfl rfl) (WL.nil ?_)))
    refine CW.ret ?_
    obtain rfl := sm hr
    exact ⟨_, res1 rfl rfl rfl, H.ext0, rfl, hS2⟩
  · skip
    have hr := ifn h1 hr
    refine CW.skip ?_
    refine CW.seq (CW.seq (CW.reg ?_))
    refine WL.ev rfl rfl (Ev.mv rfl rfl) (WL.ev rfl rfl (Ev.fa rfl fo45_2 rfl) (WL.ev rfl rfl (Ev.ld rfl ag26 rfl ((H.rB (i := 0) rfl).cell rfl)) ?_))
    have hl1 := (H.rS (i := 1) rfl).I
    refine WL.ev rfl rfl (Ev.lenV rfl el26 rfl (H.rS (i := 1) rfl)) ?_
    obtain ⟨y1, hy1, hr⟩ := bd hr
    refine WL.call rfl rfl rfl rfl rfl ok108 rfl (sl1In_ok hy1 (F0 := fun _ => False) ha1 (by decide : I64 1) hl1) ?_
    rintro _ w2 hE rfl
    have H := H.ext hE
    refine WL.ev rfl rfl (Ev.not rfl rfl) (WL.nil ?_)
    refine CW.condBN rfl (fun h2 => ?_) (fun h2 => ?_)
    · skip
      have hr := ifn h2 hr
      refine CW.seq (CW.reg ?_)
      refine WL.ev rfl rfl (Ev.as rfl rfl) (WL.nil ?_)
      refine CW.ret ?_
      obtain rfl := sm hr
      exact ⟨_, res1 rfl rfl rfl, H.ext0, rfl, (by decide)⟩
    · skip
      have hr := ifp h2 hr
      refine CW.skip ?_
      refine CW.seq (CW.reg ?_)
      refine WL.ev rfl rfl (Ev.fa rfl fo45_2 rfl) (WL.ev rfl rfl (Ev.ld rfl ag26 rfl ((H.rB (i := 0) rfl).cell rfl)) (WL.ev rfl rfl (Ev.mv rfl rfl) ?_))
      obtain ⟨hg1, hr⟩ := grd_some hr
      refine WL.ev rfl rfl (Ev.bin rfl rfl rfl (Bin.sub hg1)) ?_
      obtain ⟨hg2, hr⟩ := grd_some hr
      obtain ⟨x1, hx1, hr⟩ := bd hr
      obtain ⟨b2, ob2, cb2, hvb2, hS3, H⟩ := ixS_Str H (i := 1) rfl hx1
      refine WL.ev rfl rfl (Ev.ixV rfl el26 sz9 rfl hvb2 rfl hg2 (lt_of hx1)) (WL.ev rfl rfl (Ev.ld rfl ag9 rfl ((H.rA (i := 4) rfl).cell0 rfl)) (WL.ev rfl rfl (Ev.as rfl rfl) (WL.nil ?_)))
      refine CW.ret ?_
      obtain rfl := sm hr
      exact ⟨_, res1 rfl rfl rfl, H.ext0, rfl, hS3⟩

noncomputable def sl10Symbol_m (a0 : Symbol) : Option Symbol :=
  grd (((([] : List Attribute).length : Int) + (a0.Attributes.length : Int)) * 40 ≤ 140737488355328 ∧ (([] : List Attribute).length : Int) + (a0.Attributes.length : Int) ≤ 9223372036854775807) <|
  some a0
theorem sl10Symbol_ok {a0 : Symbol} {r : Symbol} (hr : sl10Symbol_m a0 = some r) {F0 : Nat → Prop} {w0 : World} {ca0 : List Value} (ha0 : rd F0 w0 a0 ca0) :
    Ret Tryz.prog 196 #[.agg ca0.toArray] w0 (fun _ => False) fun v w => ∃ A0 : Option Addr, ∃ n0 c0 : Nat, v = .agg #[.string r.Name, (.slice A0 n0 c0)] ∧ r.Name.size ≤ 9223372036854775807 ∧ HL F0 [] w0 w [] [It.O 156 r.Attributes (.slice A0 n0 c0)] := by
  have H := (HL.start F0 w0).argR ha0
  obtain ⟨A1, n1, c1, rfl, hS1, H⟩ := op_Symbol H (i := 0) rfl
  refine enter Tryz.func196 rfl rfl rfl ?_
  refine CW.seq (CW.reg ?_)
  refine WL.boxH rfl rfl rfl rfl rfl H fun b1 w1 H => ?_
  refine WL.allocH rfl rfl rfl ze161 H fun b2 w2 H => ?_
  refine WL.nil ?_
  obtain ⟨hg1, hr⟩ := grd_some hr
  refine CW.seq (CW.any2 6 (fun ρ => [.fix (.pointer (some ⟨b1, 0 + 0, none⟩)), .fix (.string a0.Name), .free (fun _ v _ => ∃ g : Nat, v = .slice (some ⟨g, 0, none⟩) 0 0), .fix (.pointer (some ⟨b1, 0 + 1, none⟩)), .fix (.slice A1 n1 c1), .free (fun S v w => ∃ A : Option Addr, ∃ m c : Nat, v = .slice A m c ∧ NewI S w [It.O 156 a0.Attributes (.slice A m c)])]) [[], [], [], [], [], []] NoM (fun _ _ => True) [] [] (noM _) hmix (by kernel_rfl) rfl ⟨trivial, trivial, fun _ _ _ _ _ h _ _ _ => h, trivial, trivial, fun _ _ _ _ _ ⟨A, m, c, h1, h2⟩ hc hS _ => ⟨A, m, c, h1, h2.chgT hc hS⟩, trivial⟩ trivial (fun _ _ _ _ _ _ _ => trivial) ?_)
  refine LL2.fx rfl rfl rfl rfl rfl (fun _ hq hK => Ev.fa rfl fo161_0 rfl) ?_
  refine LL2.fx rfl rfl rfl rfl rfl (fun _ hq hK => Ev.ld rfl ag9 rfl (((H.ext hq).rB (i := 0) rfl).cell rfl)) ?_
  refine LL2.free rfl rfl rfl rfl (fun wq hq hK => OpX.lit0N rfl rfl el81 sz156 fun g w hE => ⟨hE, g, rfl⟩) (fun v_G1_2 S_G1_2 => ?_)
  refine LL2.fx rfl rfl rfl rfl rfl (fun _ hq hK => Ev.fa rfl fo161_1 rfl) ?_
  refine LL2.fx rfl rfl rfl rfl rfl (fun _ hq hK => Ev.ld rfl ag81 rfl (((H.ext hq).rB (i := 0) rfl).cell rfl)) ?_
  refine LL2.free rfl rfl rfl rfl (fun wq hq hK => ?_) (fun v_G1_5 S_G1_5 => ?_)
  · obtain ⟨g, e⟩ : ∃ g : Nat, v_G1_2 = .slice (some ⟨g, 0, none⟩) 0 0 := hK 2 rfl
    subst e
    exact OpX.appN rfl rfl el81 sz156 by156 ze156 rfl rfl rfl ((H.ext hq).rS (i := 1) rfl) hg1 fun A m c w hE h => ⟨hE, A, m, c, rfl, h⟩
  intro w3 hE _ hK hap hbd
  have hE := chgNew hE
  obtain ⟨g1, rfl⟩ := hK 2 (by decide)
  obtain ⟨A2, n2, c2, rfl, hN1⟩ := hK 5 (by decide)
  have H := H.add hE hN1 ⟨fun _ _ _ _ _ h => h, trivial⟩ (fun q hq => (hbd 5 q hq).1)
  have H := H.lit0 (α := Attribute) 156 (some ⟨g1, 0, none⟩)
  refine WL.ev rfl rfl (Ev.build rfl pl161 ze161 rfl rfl rfl rfl) ?_
  refine WL.stB (i := 1) rfl rfl rfl sz161 rfl rfl rfl rfl (all1 rfl (all1 rfl all0)) H rfl rfl rfl fun w4 H => ?_
  refine WL.nil ?_
  refine CW.ret ?_
  obtain rfl := sm hr
  exact ⟨_, resC rfl ag161 sz161 rfl rfl (At.blk (H.rB (i := 1) rfl)) rfl, H.ext0, _, _, _, rfl, hS1, H.outM (fr' := []) [false, false, true, false] fun _ _ => trivial⟩

noncomputable def sFindSymbol_L1 (a1 : ByteArray) : Nat → Symbol → Unit → Option (Unit ⊕ (Symbol × Bool)) := fun k1 x1 _ => 
  if x1.Name = a1 then (
  (sl10Symbol_m x1).bind fun y1 =>
  some (.inr (y1, true))
  ) else (
  some (.inl ())
  )
noncomputable def sFindSymbol_m (a0 : Grammar) (a1 : ByteArray) : Option (Symbol × Bool) :=
  (findL (sFindSymbol_L1 a1) 0 a0.Symbols ()).bind <| onr (fun r1 => some r1) fun _ =>
  some ((⟨(⟨#[]⟩ : ByteArray), []⟩ : Symbol), false)
theorem sFindSymbol_ok {a0 : Grammar} {a1 : ByteArray} {r : (Symbol × Bool)} (hr : sFindSymbol_m a0 a1 = some r) {F0 : Nat → Prop} {w0 : World} {ca0 : List Value} (ha0 : rd F0 w0 a0 ca0) (ha1 : a1.size ≤ 9223372036854775807) :
    Ret Tryz.prog 159 #[.agg ca0.toArray, .string a1] w0 (fun _ => False) fun v w => ∃ A0 : Option Addr, ∃ n0 c0 : Nat, v = .tuple #[.agg #[.string r.1.Name, (.slice A0 n0 c0)], .bool r.2] ∧ r.1.Name.size ≤ 9223372036854775807 ∧ HL F0 [] w0 w [] [It.O 156 r.1.Attributes (.slice A0 n0 c0)] := by
  have H := (HL.start F0 w0).argR ha0
  obtain ⟨A1, n1, c1, A2, n2, c2, rfl, H⟩ := op_Grammar H (i := 0) rfl
  refine enter Tryz.func159 rfl rfl rfl ?_
  refine CW.seq (CW.reg ?_)
  refine WL.boxH rfl rfl rfl rfl rfl H fun b1 w1 H => ?_
  refine WL.allocH rfl rfl rfl ze161 H fun b2 w2 H => ?_
  refine WL.ev rfl rfl (Ev.as rfl rfl) (WL.nil ?_)
  refine CW.seq (CW.seq (CW.reg ?_))
  refine WL.ev rfl rfl (Ev.as rfl rfl) (WL.nil ?_)
  obtain ⟨q1, hq1, hr⟩ := bd hr
  refine CW.block (CW.loop (α := Nat) (fun k1 => [(1, .string a1), (2, .pointer (some ⟨b1, 0, none⟩)), (4, .pointer (some ⟨b2, 0, none⟩)), (6, .int .i64 (k1 : Int))]) (fun k1 w => k1 ≤ a0.Symbols.length ∧ findL (sFindSymbol_L1 a1) k1 (a0.Symbols.drop k1) () = some q1 ∧ HL F0 [] w0 w [Pr.R a0 [.slice A1 n1 c1, .slice A2 n2 c2], Pr.S a0.Symbols (.slice A1 n1 c1), Pr.S a0.Rules (.slice A2 n2 c2)] [It.B b1 40 [.slice A1 n1 c1, .slice A2 n2 c2], It.B b2 161 [.string (⟨#[]⟩ : ByteArray), .slice none 0 0]]) (fun k1 => a0.Symbols.length - k1) 0 ⟨rfl, rfl, rfl, rfl, trivial⟩ ⟨Nat.zero_le _, hq1, H.keep 3 2⟩ ?_)
  rintro k1 σ w3 ⟨hk1, hq1, H⟩
  refine CW.seq (CW.seq (CW.reg ?_))
  refine WL.ev rfl rfl (Ev.mv rfl rfl) (WL.ev rfl rfl (Ev.fa rfl fo40_0 rfl) (WL.ev rfl rfl (Ev.ld rfl ag37 rfl ((H.rB (i := 0) rfl).cell rfl)) ?_))
  have hl1 := (H.rS (i := 1) rfl).I
  refine WL.ev rfl rfl (Ev.lenV rfl el37 rfl (H.rS (i := 1) rfl)) (WL.ev rfl rfl (Ev.bin rfl rfl rfl Bin.lss) (WL.nil ?_))
  refine CW.condD rfl (fun h1 => ?_) (fun h1 => ?_)
  · skip
    have hk2 := cast_lt h1
    obtain ⟨x1, z1, hx1, hb1, hs1, ht1⟩ := findL_go hq1 hk2
    refine CW.skip ?_
    refine CW.seq (CW.block (CW.seq (CW.reg ?_)))
    refine WL.ev rfl rfl (Ev.fa rfl fo40_0 rfl) (WL.ev rfl rfl (Ev.ld rfl ag37 rfl ((H.rB (i := 0) rfl).cell rfl)) (WL.ev rfl rfl (Ev.mv rfl rfl) ?_))
    obtain ⟨b3, ob3, cb3, A3, n3, c3, hvb3, hS1, H⟩ := ixS_Symbol H (i := 1) rfl hx1
    refine WL.ev rfl rfl (Ev.ixVN rfl el37 sz161 rfl hvb3 rfl (lt_of hx1)) (WL.ev rfl rfl (Ev.fa rfl fo161_0 rfl) (WL.ev rfl rfl (Ev.ld rfl ag9 rfl ((H.rA (i := 3) rfl).cell rfl)) (WL.ev rfl rfl (Ev.mv rfl rfl) (WL.ev rfl rfl (Ev.bin rfl rfl rfl Bin.eqlS) (WL.nil ?_)))))
    refine CW.condD rfl (fun h2 => ?_) (fun h2 => ?_)
    · skip
      have hb1 := ifp h2 hb1
      refine CW.seq (CW.reg ?_)
      refine WL.ev rfl rfl (Ev.fa rfl fo40_0 rfl) (WL.ev rfl rfl (Ev.ld rfl ag37 rfl ((H.rB (i := 0) rfl).cell rfl)) (WL.ev rfl rfl (Ev.mv rfl rfl) (WL.ev rfl rfl (Ev.ixVN rfl el37 sz161 rfl hvb3 rfl (lt_of hx1)) (WL.ev rfl rfl (Ev.lda rfl ag161 sz161 rfl (H.rA (i := 3) rfl) rfl) ?_))))
      obtain ⟨y1, hy1, hb1⟩ := bd hb1
      refine WL.call rfl rfl rfl rfl rfl ok196 rfl (sl10Symbol_ok hy1 ⟨_, rfl, hS1, (H.rS (i := 5) rfl)⟩) ?_
      rintro _ w4 hE ⟨A4, n4, c4, rfl, hS2, H'⟩
      have H := H.callA H' ⟨fun _ _ _ _ _ h => h, trivial⟩
      refine WL.stB (i := 1) rfl rfl rfl sz161 rfl rfl rfl rfl (all1 rfl (all1 rfl all0)) H rfl rfl rfl fun w5 H => ?_
      refine WL.ev rfl rfl (Ev.as rfl rfl) (WL.nil ?_)
      refine CW.ret ?_
      obtain rfl := sm hb1
      obtain rfl := ht1 _ rfl
      obtain rfl := sm hr
      exact ⟨_, resC1 rfl ag161 sz161 rfl rfl rfl rfl (At.blk (H.rB (i := 1) rfl)) rfl, H.ext0, _, _, _, rfl, hS2, H.outM (fr' := []) [false, false, true] fun _ _ => trivial⟩
    · skip
      have hb1 := ifn h2 hb1
      refine CW.skip ?_
      refine CW.reg ?_
      refine WL.ev rfl rfl (Ev.mv rfl rfl) (WL.ev rfl rfl (Ev.bin rfl rfl rfl (Bin.addN (a := k1) (b := 1) rfl (i64_succN hk2 hl1.2))) (WL.ev rfl rfl (Ev.as rfl rfl) (WL.nil ?_)))
      obtain rfl := sm hb1
      have hq1 := hs1 _ rfl
      exact ⟨(k1 + 1), ⟨rfl, rfl, rfl, rfl, trivial⟩, ⟨hk2, hq1, H.keep 3 2⟩, Nat.sub_lt_sub_left hk2 (Nat.lt_succ_self _)⟩
  · skip
    obtain rfl := findL_end hq1 (not_cast_lt h1)
    refine CW.exit ?_
    refine CW.seq (CW.reg ?_)
    refine WL.ev rfl rfl (Ev.build rfl pl161 ze161 rfl rfl rfl rfl) ?_
    refine WL.stB (i := 1) rfl rfl rfl sz161 rfl rfl rfl rfl (all1 rfl (all1 rfl all0)) H rfl rfl rfl fun w6 H => ?_
    refine WL.ev rfl rfl (Ev.as rfl rfl) (WL.nil ?_)
    refine CW.ret ?_
    have H := H.nil (α := Attribute) 156
    obtain rfl := sm hr
    exact ⟨_, resC1 rfl ag161 sz161 rfl rfl rfl rfl (At.blk (H.rB (i := 1) rfl)) rfl, H.ext0, _, _, _, rfl, (by decide), H.outM (fr' := []) [false, false, true] fun _ _ => trivial⟩

noncomputable def sPlainAttributes_L1 : Nat → Attribute → (List Attribute) → Option (List Attribute) := fun k1 x1 s1 => 
  (
  if x1.Mode = 1 then (
  grd (((s1.length : Int) + 1) * 40 ≤ 140737488355328 ∧ (s1.length : Int) + 1 ≤ 9223372036854775807) <|
  some (s1 ++ [x1])
  ) else (
  if x1.Mode = 2 then (
  grd (((s1.length : Int) + 1) * 40 ≤ 140737488355328 ∧ (s1.length : Int) + 1 ≤ 9223372036854775807) <|
  some (s1 ++ [x1])
  ) else (
  some s1
  )
  )
  ).bind fun s2 =>
  some s2
noncomputable def sPlainAttributes_m (a0 : Grammar) (a1 : ByteArray) : Option (List Attribute) :=
  (sFindSymbol_m a0 a1).bind fun (y1, y2) =>
  (eachL sPlainAttributes_L1 0 y1.Attributes ([] : List Attribute)).bind fun s1 =>
  some s1
theorem sPlainAttributes_ok {a0 : Grammar} {a1 : ByteArray} {r : (List Attribute)} (hr : sPlainAttributes_m a0 a1 = some r) {F0 : Nat → Prop} {w0 : World} {ca0 : List Value} (ha0 : rd F0 w0 a0 ca0) (ha1 : a1.size ≤ 9223372036854775807) :
    Ret Tryz.prog 110 #[.agg ca0.toArray, .string a1] w0 (fun _ => False) fun v w => ∃ A0 : Option Addr, ∃ n0 c0 : Nat, v = (.slice A0 n0 c0) ∧ HL F0 [] w0 w [] [It.O 156 r (.slice A0 n0 c0)] := by
  have H := (HL.start F0 w0).argR ha0
  obtain ⟨A1, n1, c1, A2, n2, c2, rfl, H⟩ := op_Grammar H (i := 0) rfl
  refine enter Tryz.func110 rfl rfl rfl ?_
  refine CW.seq (CW.reg ?_)
  refine WL.boxH rfl rfl rfl rfl rfl H fun b1 w1 H => ?_
  refine WL.ev rfl rfl (Ev.as rfl rfl) (WL.nil ?_)
  refine CW.seq (CW.reg ?_)
  refine WL.lit0H (α := Attribute) rfl rfl rfl el81 sz156 H fun A3 n3 c3 w2 H => ?_
  refine WL.ev rfl rfl (Ev.as rfl rfl) (WL.nil ?_)
  refine CW.seq (CW.reg ?_)
  refine WL.ev rfl rfl (Ev.lda rfl ag40 sz40 rfl (At.blk (H.rB (i := 0) rfl)) rfl) (WL.ev rfl rfl (Ev.mv rfl rfl) ?_)
  obtain ⟨⟨y1, y2⟩, hy1, hr⟩ := bd hr
  refine WL.call rfl rfl rfl rfl rfl ok159 rfl (sFindSymbol_ok hy1 ⟨_, _, rfl, (H.rS (i := 1) rfl), (H.rS (i := 2) rfl)⟩ ha1) ?_
  rintro _ w3 hE ⟨A4, n4, c4, rfl, hS1, H'⟩
  have H := H.callA H' ⟨fun _ _ _ _ _ h => h, trivial⟩
  refine WL.ev rfl rfl (Ev.mv rfl rfl) (WL.ev rfl rfl (Ev.ex rfl rfl rfl) (WL.ev rfl rfl (Ev.ex rfl rfl rfl) ?_))
  refine WL.allocH rfl rfl rfl ze161 H fun b2 w4 H => ?_
  refine WL.stB (i := 3) rfl rfl rfl sz161 rfl rfl rfl rfl (all1 rfl (all1 rfl all0)) H rfl rfl rfl fun w5 H => ?_
  refine WL.ev rfl rfl (Ev.as rfl rfl) (WL.nil ?_)
  refine CW.seq (CW.seq (CW.reg ?_))
  refine WL.ev rfl rfl (Ev.as rfl rfl) (WL.nil ?_)
  obtain ⟨q1, hq1, hr⟩ := bd hr
  refine CW.block (CW.loop (α := Nat × (List Attribute) × Value) (fun ⟨k1, s1, v1⟩ => [(5, v1), (6, .pointer (some ⟨b2, 0, none⟩)), (8, .int .i64 (k1 : Int))]) (fun ⟨k1, s1, v1⟩ w => k1 ≤ y1.Attributes.length ∧ eachL sPlainAttributes_L1 k1 (y1.Attributes.drop k1) s1 = some q1 ∧ HL F0 [] w0 w [Pr.R a0 [.slice A1 n1 c1, .slice A2 n2 c2], Pr.S a0.Symbols (.slice A1 n1 c1), Pr.S a0.Rules (.slice A2 n2 c2)] [It.B b1 40 [.slice A1 n1 c1, .slice A2 n2 c2], It.O 156 s1 v1, It.O 156 y1.Attributes (.slice A4 n4 c4), It.B b2 161 [.string y1.Name, .slice A4 n4 c4]]) (fun ⟨k1, s1, v1⟩ => y1.Attributes.length - k1) ⟨0, ([] : List Attribute), (.slice A3 n3 c3)⟩ ⟨rfl, rfl, rfl, trivial⟩ ⟨Nat.zero_le _, hq1, H.keep 3 4⟩ ?_)
  rintro ⟨k1, s1, v1⟩ σ w6 ⟨hk1, hq1, H⟩
  obtain ⟨A5, n5, c5, rfl⟩ := (H.rO (i := 1) rfl).form3
  refine CW.seq (CW.seq (CW.reg ?_))
  refine WL.ev rfl rfl (Ev.mv rfl rfl) (WL.ev rfl rfl (Ev.fa rfl fo161_1 rfl) (WL.ev rfl rfl (Ev.ld rfl ag81 rfl ((H.rB (i := 3) rfl).cell rfl)) ?_))
  have hl1 := (H.rO (i := 2) rfl).I
  refine WL.ev rfl rfl (Ev.lenV rfl el81 rfl (H.rO (i := 2) rfl)) (WL.ev rfl rfl (Ev.bin rfl rfl rfl Bin.lss) (WL.nil ?_))
  refine CW.condD rfl (fun h1 => ?_) (fun h1 => ?_)
  · skip
    have hk2 := cast_lt h1
    obtain ⟨x1, z1, hx1, hb1, hq1⟩ := eachL_go hq1 hk2
    refine CW.skip ?_
    obtain ⟨q2, hm1, hb1⟩ := bd hb1
    refine CW.seq (CW.mid (fun ρ' w => ∃ (s2 : List Attribute) (v2 : Value), s2 = q2 ∧ agree ρ' [(5, v2), (6, .pointer (some ⟨b2, 0, none⟩)), (8, .int .i64 (k1 : Int))] ∧ HL F0 [] w0 w [Pr.R a0 [.slice A1 n1 c1, .slice A2 n2 c2], Pr.S a0.Symbols (.slice A1 n1 c1), Pr.S a0.Rules (.slice A2 n2 c2)] [It.B b1 40 [.slice A1 n1 c1, .slice A2 n2 c2], It.O 156 s2 v2, It.O 156 y1.Attributes (.slice A4 n4 c4), It.B b2 161 [.string y1.Name, .slice A4 n4 c4]]) ?_ ?_)
    · skip
      refine CW.block (CW.seq (CW.reg ?_))
      refine WL.ev rfl rfl (Ev.fa rfl fo161_1 rfl) (WL.ev rfl rfl (Ev.ld rfl ag81 rfl ((H.rB (i := 3) rfl).cell rfl)) (WL.ev rfl rfl (Ev.mv rfl rfl) ?_))
      obtain ⟨b3, cb3, hvb3, hbb3⟩ := H.ptO (i := 2) rfl hx1
      refine WL.ev rfl rfl (Ev.ixVN rfl el81 sz156 rfl hvb3 rfl (lt_of hx1)) (WL.ev rfl rfl (Ev.fa rfl fo156_2 rfl) ?_)
      obtain ⟨hA1, hS2, hI1, hI2, H⟩ := elO_Attribute H (i := 2) rfl hx1 hbb3
      refine WL.ev rfl rfl (Ev.ld rfl ag3 rfl (hA1.cell rfl)) (WL.ev rfl rfl (Ev.bin rfl rfl rfl Bin.eql) ?_)
      refine WL.mvD rfl rfl rfl rfl (fun h2 => ?_) (fun h2 => ?_)
      · skip
        have hm1 := ifp h2 hm1
        refine WL.off rfl rfl rfl (WL.off rfl rfl rfl (WL.off rfl rfl rfl (WL.off rfl rfl rfl (WL.off rfl rfl rfl (WL.off rfl rfl rfl (WL.off rfl rfl rfl (WL.ev rfl rfl (Ev.pickT rfl rfl rfl) (WL.nil ?_))))))))
        refine CW.condT rfl ?_
        refine CW.reg ?_
        refine WL.ev rfl rfl (Ev.mv rfl rfl) (WL.ev rfl rfl (Ev.fa rfl fo161_1 rfl) (WL.ev rfl rfl (Ev.ld rfl ag81 rfl ((H.rB (i := 3) rfl).cell rfl)) (WL.ev rfl rfl (Ev.mv rfl rfl) ?_)))
        obtain ⟨b4, cb4, hvb4, hbb4⟩ := H.ptO (i := 2) rfl hx1
        refine WL.ev rfl rfl (Ev.ixVN rfl el81 sz156 rfl hvb4 rfl (lt_of hx1)) ?_
        obtain ⟨hA2, hS3, hI3, hI4, H⟩ := elO_Attribute H (i := 2) rfl hx1 hbb4
        refine WL.ev rfl rfl (Ev.lda rfl ag156 sz156 rfl hA2 rfl) ?_
        refine WL.lit1 rfl rfl rfl el81 sz156 ze156 rfl rfl rfl rfl rfl rfl fun b5 w7 hE hb hB => ?_
        have H := H.newB hE hb hB
        obtain ⟨hg1, hm1⟩ := grd_some hm1
        refine WL.appO (i := 1) (ys := [x1]) rfl rfl rfl el81 sz156 by156 ze156 rfl rfl rfl H rfl (fun _ => ownL.single ⟨rfl, hS3, hI3, hI4, rfl⟩) (.inr ⟨_, _, rfl, At.blk (H.rB (i := 4) rfl)⟩) hg1 fun A6 n6 c6 w8 H => ?_
        refine WL.ev rfl rfl (Ev.as rfl rfl) (WL.nil ?_)
        obtain rfl := sm hm1
        exact ⟨(s1 ++ [x1]), _, rfl, ⟨rfl, rfl, rfl, trivial⟩, H.keep 3 4⟩
      · skip
        have hm1 := ifn h2 hm1
        refine WL.on rfl rfl (WL.ev rfl rfl (Ev.fa rfl fo161_1 rfl) (WL.on rfl rfl (WL.ev rfl rfl (Ev.ld rfl ag81 rfl ((H.rB (i := 3) rfl).cell rfl)) (WL.on rfl rfl (WL.ev rfl rfl (Ev.mv rfl rfl) (WL.on rfl rfl ?_))))))
        obtain ⟨b6, cb6, hvb6, hbb6⟩ := H.ptO (i := 2) rfl hx1
        refine WL.ev rfl rfl (Ev.ixVN rfl el81 sz156 rfl hvb6 rfl (lt_of hx1)) (WL.on rfl rfl (WL.ev rfl rfl (Ev.fa rfl fo156_2 rfl) (WL.on rfl rfl ?_)))
        obtain ⟨hA3, hS4, hI5, hI6, H⟩ := elO_Attribute H (i := 2) rfl hx1 hbb6
        refine WL.ev rfl rfl (Ev.ld rfl ag3 rfl (hA3.cell rfl)) (WL.on rfl rfl (WL.ev rfl rfl (Ev.bin rfl rfl rfl Bin.eql) (WL.ev rfl rfl (Ev.pickF rfl rfl rfl) (WL.nil ?_))))
        refine CW.condD rfl (fun h3 => ?_) (fun h3 => ?_)
        · skip
          have hm1 := ifp h3 hm1
          refine CW.fresh [(5, .slice A5 n5 c5), (6, .pointer (some ⟨b2, 0, none⟩)), (8, .int .i64 (k1 : Int)), (31, .pointer (some ⟨b2, 0 + 1, none⟩)), (32, .slice A4 n4 c4), (33, .int .i64 (k1 : Int)), (34, .pointer (some ⟨b6, 0 + k1 * 4, none⟩)), (35, .pointer (some ⟨b6, 0 + k1 * 4 + 2, none⟩)), (36, .int .i64 x1.Mode), (37, .bool (decide (x1.Mode = 2)))] ⟨rfl, rfl, rfl, rfl, rfl, rfl, rfl, rfl, rfl, rfl, trivial⟩ fun σ => ?_
          have H : HL F0 [] w0 w6 [Pr.R a0 [.slice A1 n1 c1, .slice A2 n2 c2], Pr.S a0.Symbols (.slice A1 n1 c1), Pr.S a0.Rules (.slice A2 n2 c2), Pr.R x1 [.string x1.Name, .int .i64 x1.Type_, .int .i64 x1.Mode, .bool x1.Circular], Pr.R x1 [.string x1.Name, .int .i64 x1.Type_, .int .i64 x1.Mode, .bool x1.Circular]] [It.B b1 40 [.slice A1 n1 c1, .slice A2 n2 c2], It.O 156 s1 (.slice A5 n5 c5), It.O 156 y1.Attributes (.slice A4 n4 c4), It.B b2 161 [.string y1.Name, .slice A4 n4 c4]] := H
          refine CW.reg ?_
          refine WL.ev rfl rfl (Ev.mv rfl rfl) (WL.ev rfl rfl (Ev.fa rfl fo161_1 rfl) (WL.ev rfl rfl (Ev.ld rfl ag81 rfl ((H.rB (i := 3) rfl).cell rfl)) (WL.ev rfl rfl (Ev.mv rfl rfl) ?_)))
          obtain ⟨b7, cb7, hvb7, hbb7⟩ := H.ptO (i := 2) rfl hx1
          refine WL.ev rfl rfl (Ev.ixVN rfl el81 sz156 rfl hvb7 rfl (lt_of hx1)) ?_
          obtain ⟨hA4, hS5, hI7, hI8, H⟩ := elO_Attribute H (i := 2) rfl hx1 hbb7
          refine WL.ev rfl rfl (Ev.lda rfl ag156 sz156 rfl hA4 rfl) ?_
          refine WL.lit1 rfl rfl rfl el81 sz156 ze156 rfl rfl rfl rfl rfl rfl fun b8 w9 hE hb hB => ?_
          have H := H.newB hE hb hB
          obtain ⟨hg2, hm1⟩ := grd_some hm1
          refine WL.appO (i := 1) (ys := [x1]) rfl rfl rfl el81 sz156 by156 ze156 rfl rfl rfl H rfl (fun _ => ownL.single ⟨rfl, hS5, hI7, hI8, rfl⟩) (.inr ⟨_, _, rfl, At.blk (H.rB (i := 4) rfl)⟩) hg2 fun A7 n7 c7 w10 H => ?_
          refine WL.ev rfl rfl (Ev.as rfl rfl) (WL.nil ?_)
          obtain rfl := sm hm1
          exact ⟨(s1 ++ [x1]), _, rfl, ⟨rfl, rfl, rfl, trivial⟩, H.keep 3 4⟩
        · skip
          have hm1 := ifn h3 hm1
          refine CW.skip ?_
          obtain rfl := sm hm1
          exact ⟨s1, _, rfl, ⟨rfl, rfl, rfl, trivial⟩, H.keep 3 4⟩
    · rintro ρ' w11 ⟨s2, v2, rfl, hag, H⟩
      obtain ⟨σ, rfl⟩ := ofL_ex hag
      obtain ⟨A8, n8, c8, rfl⟩ := (H.rO (i := 1) rfl).form3
      refine CW.reg ?_
      refine WL.ev rfl rfl (Ev.mv rfl rfl) (WL.ev rfl rfl (Ev.bin rfl rfl rfl (Bin.addN (a := k1) (b := 1) rfl (i64_succN hk2 hl1.2))) (WL.ev rfl rfl (Ev.as rfl rfl) (WL.nil ?_)))
      obtain rfl := sm hb1
      exact ⟨⟨k1 + 1, s2, (.slice A8 n8 c8)⟩, ⟨rfl, rfl, rfl, trivial⟩, ⟨hk2, hq1, H.keep 3 4⟩, Nat.sub_lt_sub_left hk2 (Nat.lt_succ_self _)⟩
  · skip
    obtain rfl := eachL_end hq1 (not_cast_lt h1)
    refine CW.exit ?_
    refine CW.seq (CW.reg ?_)
    refine WL.ev rfl rfl (Ev.mv rfl rfl) (WL.ev rfl rfl (Ev.as rfl rfl) (WL.nil ?_))
    refine CW.ret ?_
    obtain rfl := sm hr
    exact ⟨_, res1 rfl rfl rfl, H.ext0, _, _, _, rfl, H.outM (fr' := []) [false, true, false, false] fun _ _ => trivial⟩

noncomputable def sOccurrencesOf_L2 (s3 : Int) : Nat → Attribute → (List Occurrence) → Option (List Occurrence) := fun k1 x1 s4 => 
  grd (((s4.length : Int) + 1) * 24 ≤ 140737488355328 ∧ (s4.length : Int) + 1 ≤ 9223372036854775807) <|
  some (s4 ++ [(⟨s3, x1.Name⟩ : Occurrence)])
noncomputable def sOccurrencesOf_L1 (a0 : Grammar) (a1 : Rule) : ((List Occurrence) × Int) → Option (((List Occurrence) × Int) ⊕ (List Occurrence)) := fun (s2, s3) => 
  if s3 ≤ (a1.Right.length : Int) then (
  (sSymbolAt_m a1 s3).bind fun y1 =>
  (sPlainAttributes_m a0 y1).bind fun y2 =>
  (eachL (sOccurrencesOf_L2 s3) 0 y2 s2).bind fun s4 =>
  grd (I64 (s3 + 1)) <|
  some (.inl (s4, (s3 + 1)))
  ) else (
  some (.inr s2)
  )
noncomputable def sOccurrencesOf_m (a0 : Grammar) (a1 : Rule) : Option (List Occurrence) :=
  (
  iterO (sOccurrencesOf_L1 a0 a1) (([] : List Occurrence), 0)
  ).bind fun s1 =>
  some s1
theorem sOccurrencesOf_ok {a0 : Grammar} {a1 : Rule} {r : (List Occurrence)} (hr : sOccurrencesOf_m a0 a1 = some r) {F0 : Nat → Prop} {w0 : World} {ca0 : List Value} (ha0 : rd F0 w0 a0 ca0) {ca1 : List Value} (ha1 : rd F0 w0 a1 ca1) :
    Ret Tryz.prog 40 #[.agg ca0.toArray, .agg ca1.toArray] w0 (fun _ => False) fun v w => ∃ A0 : Option Addr, ∃ n0 c0 : Nat, v = (.slice A0 n0 c0) ∧ HL F0 [] w0 w [] [It.O 90 r (.slice A0 n0 c0)] := by
  have H := ((HL.start F0 w0).argR ha0).argR ha1
  obtain ⟨A1, n1, c1, A2, n2, c2, rfl, H⟩ := op_Grammar H (i := 0) rfl
  obtain ⟨A3, n3, c3, A4, n4, c4, A5, n5, c5, rfl, hS1, hS2, H⟩ := op_Rule H (i := 1) rfl
  refine enter Tryz.func40 rfl rfl rfl ?_
  refine CW.seq (CW.reg ?_)
  refine WL.boxH rfl rfl rfl rfl rfl H fun b1 w1 H => ?_
  refine WL.boxH rfl rfl rfl rfl rfl H fun b2 w2 H => ?_
  refine WL.ev rfl rfl (Ev.as rfl rfl) (WL.nil ?_)
  refine CW.seq (CW.reg ?_)
  refine WL.lit0H (α := Occurrence) rfl rfl rfl el76 sz90 H fun A6 n6 c6 w3 H => ?_
  refine WL.ev rfl rfl (Ev.as rfl rfl) (WL.nil ?_)
  refine CW.seq (CW.seq (CW.reg ?_))
  refine WL.ev rfl rfl (Ev.as rfl rfl) (WL.nil ?_)
  obtain ⟨q1, hm1, hr⟩ := bd hr
  refine CW.mid (fun ρ' w => ∃ (s1 : List Occurrence) (v1 : Value), s1 = q1 ∧ agree ρ' [(5, v1)] ∧ HL F0 [] w0 w [Pr.R a0 [.slice A1 n1 c1, .slice A2 n2 c2], Pr.R a1 [.string a1.Name, .string a1.Left, .slice A3 n3 c3, .bool a1.Literal, .slice A4 n4 c4, .slice A5 n5 c5], Pr.S a0.Symbols (.slice A1 n1 c1), Pr.S a0.Rules (.slice A2 n2 c2), Pr.S a1.Right (.slice A3 n3 c3), Pr.S a1.Equations (.slice A4 n4 c4), Pr.S a1.Contributions (.slice A5 n5 c5)] [It.B b1 40 [.slice A1 n1 c1, .slice A2 n2 c2], It.B b2 45 [.string a1.Name, .string a1.Left, .slice A3 n3 c3, .bool a1.Literal, .slice A4 n4 c4, .slice A5 n5 c5], It.O 90 s1 v1]) ?_ ?_
  · skip
    obtain ⟨m1, hq1⟩ := iterO_some.1 hm1
    refine CW.block (CW.loop (α := Nat × (List Occurrence) × Int × Value) (fun ⟨m1, s2, s3, v2⟩ => [(2, .pointer (some ⟨b1, 0, none⟩)), (3, .pointer (some ⟨b2, 0, none⟩)), (5, v2), (6, .int .i64 s3)]) (fun ⟨m1, s2, s3, v2⟩ w => iterN (sOccurrencesOf_L1 a0 a1) m1 (s2, s3) = some q1 ∧ I64 s3 ∧ HL F0 [] w0 w [Pr.R a0 [.slice A1 n1 c1, .slice A2 n2 c2], Pr.R a1 [.string a1.Name, .string a1.Left, .slice A3 n3 c3, .bool a1.Literal, .slice A4 n4 c4, .slice A5 n5 c5], Pr.S a0.Symbols (.slice A1 n1 c1), Pr.S a0.Rules (.slice A2 n2 c2), Pr.S a1.Right (.slice A3 n3 c3), Pr.S a1.Equations (.slice A4 n4 c4), Pr.S a1.Contributions (.slice A5 n5 c5)] [It.B b1 40 [.slice A1 n1 c1, .slice A2 n2 c2], It.B b2 45 [.string a1.Name, .string a1.Left, .slice A3 n3 c3, .bool a1.Literal, .slice A4 n4 c4, .slice A5 n5 c5], It.O 90 s2 v2]) (fun ⟨m1, s2, s3, v2⟩ => m1) ⟨m1, ([] : List Occurrence), 0, (.slice A6 n6 c6)⟩ ⟨rfl, rfl, rfl, rfl, trivial⟩ ⟨hq1, (by decide : I64 0), H.keep 7 3⟩ ?_)
    rintro ⟨m1, s2, s3, v2⟩ σ w4 ⟨hq1, hI1, H⟩
    obtain ⟨A7, n7, c7, rfl⟩ := (H.rO (i := 2) rfl).form3
    obtain ⟨m2, z1, rfl, hb1, hs1, ht1⟩ := iterN_go hq1
    refine CW.seq (CW.seq (CW.reg ?_))
    refine WL.ev rfl rfl (Ev.mv rfl rfl) (WL.ev rfl rfl (Ev.fa rfl fo45_2 rfl) (WL.ev rfl rfl (Ev.ld rfl ag26 rfl ((H.rB (i := 1) rfl).cell rfl)) ?_))
    have hl1 := (H.rS (i := 4) rfl).I
    refine WL.ev rfl rfl (Ev.lenV rfl el26 rfl (H.rS (i := 4) rfl)) (WL.ev rfl rfl (Ev.bin rfl rfl rfl Bin.leq) (WL.nil ?_))
    refine CW.condD rfl (fun h1 => ?_) (fun h1 => ?_)
    · skip
      have hb1 := ifp h1 hb1
      refine CW.skip ?_
      refine CW.seq (CW.block (CW.seq (CW.quietT 4 hmix (by kernel_rfl) ?_)))
      refine QL.ev rfl rfl (fun _ hq => Ev.lda rfl ag40 sz40 rfl (At.blk ((H.ext hq).rB (i := 0) rfl)) rfl) (QL.ev rfl rfl (fun _ hq => Ev.lda rfl ag45 sz45 rfl (At.blk ((H.ext hq).rB (i := 1) rfl)) rfl) (QL.ev rfl rfl (fun _ _ => Ev.mv rfl rfl) ?_))
      obtain ⟨y1, hy1, hb1⟩ := bd hb1
      refine QL.call rfl rfl rfl rfl rfl ok44 rfl (fun _ hq => (sSymbolAt_ok hy1 ⟨_, _, _, rfl, hS1, hS2, ((H.ext hq).rS (i := 4) rfl), ((H.ext hq).rS (i := 5) rfl), ((H.ext hq).rS (i := 6) rfl)⟩ hI1).mono fun _ _ _ h => h.1) ?_
      obtain ⟨_, _, _, hS3⟩ := (sSymbolAt_ok hy1 ⟨_, _, _, rfl, hS1, hS2, (H.rS (i := 4) rfl), (H.rS (i := 5) rfl), (H.rS (i := 6) rfl)⟩ hI1).get
      refine QL.nil (fun w5 hE => ?_)
      have H := H.ext hE
      obtain ⟨y2, hy2, hb1⟩ := bd hb1
      refine WL.call rfl rfl rfl rfl rfl ok110 rfl (sPlainAttributes_ok hy2 ⟨_, _, rfl, (H.rS (i := 2) rfl), (H.rS (i := 3) rfl)⟩ hS3) ?_
      rintro _ w6 hE ⟨A8, n8, c8, rfl, H'⟩
      have H := H.callA H' ⟨fun _ _ _ _ _ h => h, trivial⟩
      refine WL.ev rfl rfl (Ev.as rfl rfl) (WL.nil ?_)
      refine CW.seq (CW.reg ?_)
      refine WL.ev rfl rfl (Ev.as rfl rfl) (WL.nil ?_)
      obtain ⟨q2, hq2, hb1⟩ := bd hb1
      refine CW.block (CW.loop (α := Nat × (List Occurrence) × Value) (fun ⟨k1, s4, v3⟩ => [(2, .pointer (some ⟨b1, 0, none⟩)), (3, .pointer (some ⟨b2, 0, none⟩)), (5, v3), (6, .int .i64 s3), (7, .slice A8 n8 c8), (8, .int .i64 (k1 : Int))]) (fun ⟨k1, s4, v3⟩ w => k1 ≤ y2.length ∧ eachL (sOccurrencesOf_L2 s3) k1 (y2.drop k1) s4 = some q2 ∧ HL F0 [] w0 w [Pr.R a0 [.slice A1 n1 c1, .slice A2 n2 c2], Pr.R a1 [.string a1.Name, .string a1.Left, .slice A3 n3 c3, .bool a1.Literal, .slice A4 n4 c4, .slice A5 n5 c5], Pr.S a0.Symbols (.slice A1 n1 c1), Pr.S a0.Rules (.slice A2 n2 c2), Pr.S a1.Right (.slice A3 n3 c3), Pr.S a1.Equations (.slice A4 n4 c4), Pr.S a1.Contributions (.slice A5 n5 c5)] [It.B b1 40 [.slice A1 n1 c1, .slice A2 n2 c2], It.B b2 45 [.string a1.Name, .string a1.Left, .slice A3 n3 c3, .bool a1.Literal, .slice A4 n4 c4, .slice A5 n5 c5], It.O 90 s4 v3, It.O 156 y2 (.slice A8 n8 c8)]) (fun ⟨k1, s4, v3⟩ => y2.length - k1) ⟨0, s2, (.slice A7 n7 c7)⟩ ⟨rfl, rfl, rfl, rfl, rfl, rfl, trivial⟩ ⟨Nat.zero_le _, hq2, H.keep 7 4⟩ ?_)
      rintro ⟨k1, s4, v3⟩ σ w7 ⟨hk1, hq2, H⟩
      obtain ⟨A9, n9, c9, rfl⟩ := (H.rO (i := 2) rfl).form3
      refine CW.seq (CW.seq (CW.reg ?_))
      refine WL.ev rfl rfl (Ev.mv rfl rfl) (WL.ev rfl rfl (Ev.mv rfl rfl) ?_)
      have hl2 := (H.rO (i := 3) rfl).I
      refine WL.ev rfl rfl (Ev.lenV rfl el81 rfl (H.rO (i := 3) rfl)) (WL.ev rfl rfl (Ev.bin rfl rfl rfl Bin.lss) (WL.nil ?_))
      refine CW.condD rfl (fun h2 => ?_) (fun h2 => ?_)
      · skip
        have hk2 := cast_lt h2
        obtain ⟨x1, z2, hx1, hb2, hq2⟩ := eachL_go hq2 hk2
        refine CW.skip ?_
        refine CW.seq (CW.block (CW.reg ?_))
        refine WL.ev rfl rfl (Ev.mv rfl rfl) (WL.ev rfl rfl (Ev.mv rfl rfl) (WL.ev rfl rfl (Ev.mv rfl rfl) (WL.ev rfl rfl (Ev.mv rfl rfl) ?_)))
        obtain ⟨b3, cb3, hvb3, hbb3⟩ := H.ptO (i := 3) rfl hx1
        refine WL.ev rfl rfl (Ev.ixVN rfl el81 sz156 rfl hvb3 rfl (lt_of hx1)) (WL.ev rfl rfl (Ev.fa rfl fo156_0 rfl) ?_)
        obtain ⟨hA1, hS4, hI2, hI3, H⟩ := elO_Attribute H (i := 3) rfl hx1 hbb3
        refine WL.ev rfl rfl (Ev.ld rfl ag9 rfl (hA1.cell rfl)) (WL.ev rfl rfl (Ev.build rfl pl90 ze90 rfl rfl rfl rfl) ?_)
        refine WL.lit1 rfl rfl rfl el76 sz90 ze90 rfl rfl rfl rfl rfl rfl fun b4 w8 hE hb hB => ?_
        have H := H.newB hE hb hB
        obtain ⟨hg1, hb2⟩ := grd_some hb2
        refine WL.appO (i := 2) (ys := [(⟨s3, x1.Name⟩ : Occurrence)]) rfl rfl rfl el76 sz90 by90 ze90 rfl rfl rfl H rfl (fun _ => ownL.single ⟨rfl, hI1, hS4, rfl⟩) (.inr ⟨_, _, rfl, At.blk (H.rB (i := 4) rfl)⟩) hg1 fun A10 n10 c10 w9 H => ?_
        refine WL.ev rfl rfl (Ev.as rfl rfl) (WL.nil ?_)
        refine CW.reg ?_
        refine WL.ev rfl rfl (Ev.mv rfl rfl) (WL.ev rfl rfl (Ev.bin rfl rfl rfl (Bin.addN (a := k1) (b := 1) rfl (i64_succN hk2 hl2.2))) (WL.ev rfl rfl (Ev.as rfl rfl) (WL.nil ?_)))
        obtain rfl := sm hb2
        exact ⟨⟨k1 + 1, (s4 ++ [(⟨s3, x1.Name⟩ : Occurrence)]), (.slice A10 n10 c10)⟩, ⟨rfl, rfl, rfl, rfl, rfl, rfl, trivial⟩, ⟨hk2, hq2, H.keep 7 4⟩, Nat.sub_lt_sub_left hk2 (Nat.lt_succ_self _)⟩
      · skip
        obtain rfl := eachL_end hq2 (not_cast_lt h2)
        refine CW.exit ?_
        refine CW.reg ?_
        refine WL.ev rfl rfl (Ev.mv rfl rfl) ?_
        obtain ⟨hg2, hb1⟩ := grd_some hb1
        refine WL.ev rfl rfl (Ev.bin rfl rfl rfl (Bin.add hg2)) (WL.ev rfl rfl (Ev.as rfl rfl) (WL.nil ?_))
        obtain rfl := sm hb1
        exact ⟨⟨m2, s4, (s3 + 1), (.slice A9 n9 c9)⟩, ⟨rfl, rfl, rfl, rfl, trivial⟩, ⟨hs1 _ rfl, hg2, H.keep 7 3⟩, Nat.lt_succ_self _⟩
    · skip
      have hb1 := ifn h1 hb1
      refine CW.exit ?_
      obtain rfl := sm hb1
      obtain rfl := ht1 _ rfl
      exact ⟨s2, _, rfl, ⟨rfl, trivial⟩, H.keep 7 3⟩
  · rintro ρ' w10 ⟨s1, v1, rfl, hag, H⟩
    obtain ⟨σ, rfl⟩ := ofL_ex hag
    obtain ⟨A11, n11, c11, rfl⟩ := (H.rO (i := 2) rfl).form3
    refine CW.seq (CW.reg ?_)
    refine WL.ev rfl rfl (Ev.mv rfl rfl) (WL.ev rfl rfl (Ev.as rfl rfl) (WL.nil ?_))
    refine CW.ret ?_
    obtain rfl := sm hr
    exact ⟨_, res1 rfl rfl rfl, H.ext0, _, _, _, rfl, H.outM (fr' := []) [false, false, true] fun _ _ => trivial⟩

noncomputable def sEmptyRelation_m (a0 : Int) : Option Relation :=
  (sl1In_m a0 0 16).bind fun y1 =>
  if y1 = true then (
  grd (0 ≤ a0 ∧ a0 * 8 ≤ 281474976710656 ∧ a0 ≤ 9223372036854775807) <|
  some (⟨a0, (List.replicate a0.toNat (0 : Int))⟩ : Relation)
  ) else (
  some (⟨0, []⟩ : Relation)
  )
theorem sEmptyRelation_ok {a0 : Int} {r : Relation} (hr : sEmptyRelation_m a0 = some r) {F0 : Nat → Prop} {w0 : World} (ha0 : I64 a0) :
    Ret Tryz.prog 33 #[.int .i64 a0] w0 (fun _ => False) fun v w => ∃ A0 : Option Addr, ∃ n0 c0 : Nat, v = .agg #[.int .i64 r.N, (.slice A0 n0 c0)] ∧ I64 r.N ∧ HL F0 [] w0 w [] [It.O 3 r.Rows (.slice A0 n0 c0)] := by
  have H := HL.start F0 w0
  refine enter Tryz.func33 rfl rfl rfl ?_
  refine CW.seq (CW.reg ?_)
  refine WL.allocH rfl rfl rfl ze35 H fun b1 w1 H => ?_
  refine WL.nil ?_
  refine CW.seq (CW.seq (CW.reg ?_))
  refine WL.ev rfl rfl (Ev.mv rfl rfl) ?_
  obtain ⟨y1, hy1, hr⟩ := bd hr
  refine WL.call rfl rfl rfl rfl rfl ok108 rfl (sl1In_ok hy1 (F0 := fun _ => False) ha0 (by decide : I64 0) (by decide : I64 16)) ?_
  rintro _ w2 hE rfl
  have H := H.ext hE
  refine WL.ev rfl rfl (Ev.not rfl rfl) (WL.nil ?_)
  refine CW.condBN rfl (fun h1 => ?_) (fun h1 => ?_)
  · skip
    have hr := ifn h1 hr
    refine CW.seq (CW.reg ?_)
    refine WL.ev rfl rfl (Ev.build rfl pl35 ze35 rfl rfl rfl rfl) ?_
    refine WL.stB (i := 0) rfl rfl rfl sz35 rfl rfl rfl rfl (all1 rfl (all1 rfl all0)) H rfl rfl rfl fun w3 H => ?_
    refine WL.nil ?_
    refine CW.ret ?_
    have H := H.nil (α := Int) 3
    obtain rfl := sm hr
    exact ⟨_, resC rfl ag35 sz35 rfl rfl (At.blk (H.rB (i := 0) rfl)) rfl, H.ext0, _, _, _, rfl, (by decide : I64 0), H.outM (fr' := []) [false, true] fun _ _ => trivial⟩
  · skip
    have hr := ifp h1 hr
    refine CW.skip ?_
    refine CW.seq (CW.reg ?_)
    refine WL.ev rfl rfl (Ev.mv rfl rfl) (WL.ev rfl rfl (Ev.mv rfl rfl) ?_)
    obtain ⟨hg1, hr⟩ := grd_some hr
    refine WL.mkH (x := (0 : Int)) rfl rfl rfl el33 sz3 by3 ze3 (fun _ => ⟨rfl, rfl, (by decide : I64 0)⟩) rfl rfl hg1 H fun A1 n1 c1 w4 H => ?_
    refine WL.ev rfl rfl (Ev.build rfl pl35 ze35 rfl rfl rfl rfl) ?_
    refine WL.stB (i := 0) rfl rfl rfl sz35 rfl rfl rfl rfl (all1 rfl (all1 rfl all0)) H rfl rfl rfl fun w5 H => ?_
    refine WL.nil ?_
    refine CW.ret ?_
    obtain rfl := sm hr
    exact ⟨_, resC rfl ag35 sz35 rfl rfl (At.blk (H.rB (i := 0) rfl)) rfl, H.ext0, _, _, _, rfl, ha0, H.outM (fr' := []) [false, true] fun _ _ => trivial⟩

noncomputable def sl4Copy_L1 (rec_sl4Copy : Expr → Option Expr) : Nat → Expr → (List Expr) → Option (List Expr) := fun k1 x1 s1 => 
  (rec_sl4Copy x1).bind fun y1 =>
  grd (((s1.length : Int) + 1) * 88 ≤ 140737488355328 ∧ (s1.length : Int) + 1 ≤ 9223372036854775807) <|
  some (s1 ++ [y1])
noncomputable def sl4Copy_B (rec_sl4Copy : Expr → Option Expr) (a0 : Expr) : Option Expr :=
  (eachL (sl4Copy_L1 rec_sl4Copy) 0 a0.Args ([] : List Expr)).bind fun s1 =>
  some (⟨a0.Kind, a0.N, a0.Pos, a0.Type_, a0.Symbol, a0.Name, s1⟩ : Expr)
theorem sl4Copy_okB {rec_sl4Copy : Expr → Option Expr} (ih_sl4Copy : ∀ {a0 : Expr} {r : Expr}, rec_sl4Copy a0 = some r → ∀ {F0 : Nat → Prop} {w0 : World} {ca0 : List Value} (ha0 : rd F0 w0 a0 ca0), Ret Tryz.prog 114 #[.agg ca0.toArray] w0 (fun _ => False) fun v w => ∃ A0 : Option Addr, ∃ n0 c0 : Nat, v = .agg #[.int .i64 r.Kind, .int .i64 r.N, .int .i64 r.Pos, .int .i64 r.Type_, .string r.Symbol, .string r.Name, (.slice A0 n0 c0)] ∧ I64 r.Kind ∧ I64 r.N ∧ I64 r.Pos ∧ I64 r.Type_ ∧ r.Symbol.size ≤ 9223372036854775807 ∧ r.Name.size ≤ 9223372036854775807 ∧ HL F0 [] w0 w [Pr.S r.Args (.slice A0 n0 c0)] []) {a0 : Expr} {r : Expr} (hr : sl4Copy_B rec_sl4Copy a0 = some r) {F0 : Nat → Prop} {w0 : World} {ca0 : List Value} (ha0 : rd F0 w0 a0 ca0) :
    Ret Tryz.prog 114 #[.agg ca0.toArray] w0 (fun _ => False) fun v w => ∃ A0 : Option Addr, ∃ n0 c0 : Nat, v = .agg #[.int .i64 r.Kind, .int .i64 r.N, .int .i64 r.Pos, .int .i64 r.Type_, .string r.Symbol, .string r.Name, (.slice A0 n0 c0)] ∧ I64 r.Kind ∧ I64 r.N ∧ I64 r.Pos ∧ I64 r.Type_ ∧ r.Symbol.size ≤ 9223372036854775807 ∧ r.Name.size ≤ 9223372036854775807 ∧ HL F0 [] w0 w [Pr.S r.Args (.slice A0 n0 c0)] [] := by
  have H := (HL.start F0 w0).argR ha0
  obtain ⟨A1, n1, c1, rfl, hI1, hI2, hI3, hI4, hS1, hS2, H⟩ := op_Expr H (i := 0) rfl
  refine enter Tryz.func114 rfl rfl rfl ?_
  refine CW.seq (CW.reg ?_)
  refine WL.boxH rfl rfl rfl rfl rfl H fun b1 w1 H => ?_
  refine WL.allocH rfl rfl rfl ze86 H fun b2 w2 H => ?_
  refine WL.nil ?_
  refine CW.seq (CW.reg ?_)
  refine WL.lit0H (α := Expr) rfl rfl rfl el84 sz86 H fun A2 n2 c2 w3 H => ?_
  have H := H.toG (i := 2) rfl
  refine WL.ev rfl rfl (Ev.as rfl rfl) (WL.nil ?_)
  refine CW.seq (CW.seq (CW.reg ?_))
  refine WL.ev rfl rfl (Ev.as rfl rfl) (WL.nil ?_)
  obtain ⟨q1, hq1, hr⟩ := bd hr
  refine CW.block (CW.loop (α := Nat × (List Expr) × Value) (fun ⟨k1, s1, v1⟩ => [(1, .pointer (some ⟨b1, 0, none⟩)), (2, .pointer (some ⟨b2, 0, none⟩)), (3, v1), (4, .int .i64 (k1 : Int))]) (fun ⟨k1, s1, v1⟩ w => k1 ≤ a0.Args.length ∧ eachL (sl4Copy_L1 rec_sl4Copy) k1 (a0.Args.drop k1) s1 = some q1 ∧ HL F0 [] w0 w [Pr.R a0 [.int .i64 a0.Kind, .int .i64 a0.N, .int .i64 a0.Pos, .int .i64 a0.Type_, .string a0.Symbol, .string a0.Name, .slice A1 n1 c1], Pr.S a0.Args (.slice A1 n1 c1)] [It.B b1 86 [.int .i64 a0.Kind, .int .i64 a0.N, .int .i64 a0.Pos, .int .i64 a0.Type_, .string a0.Symbol, .string a0.Name, .slice A1 n1 c1], It.B b2 86 [.int .i64 0, .int .i64 0, .int .i64 0, .int .i64 0, .string (⟨#[]⟩ : ByteArray), .string (⟨#[]⟩ : ByteArray), .slice none 0 0], It.G 86 s1 v1]) (fun ⟨k1, s1, v1⟩ => a0.Args.length - k1) ⟨0, ([] : List Expr), (.slice A2 n2 c2)⟩ ⟨rfl, rfl, rfl, rfl, trivial⟩ ⟨Nat.zero_le _, hq1, H.keep 2 3⟩ ?_)
  rintro ⟨k1, s1, v1⟩ σ w4 ⟨hk1, hq1, H⟩
  obtain ⟨A3, n3, c3, rfl⟩ := (H.rG (i := 2) rfl).form3
  refine CW.seq (CW.seq (CW.reg ?_))
  refine WL.ev rfl rfl (Ev.mv rfl rfl) (WL.ev rfl rfl (Ev.fa rfl fo86_6 rfl) (WL.ev rfl rfl (Ev.ld rfl ag84 rfl ((H.rB (i := 0) rfl).cell rfl)) ?_))
  have hl1 := (H.rS (i := 1) rfl).I
  refine WL.ev rfl rfl (Ev.lenV rfl el84 rfl (H.rS (i := 1) rfl)) (WL.ev rfl rfl (Ev.bin rfl rfl rfl Bin.lss) (WL.nil ?_))
  refine CW.condD rfl (fun h1 => ?_) (fun h1 => ?_)
  · skip
    have hk2 := cast_lt h1
    obtain ⟨x1, z1, hx1, hb1, hq1⟩ := eachL_go hq1 hk2
    refine CW.skip ?_
    refine CW.seq (CW.block (CW.reg ?_))
    refine WL.ev rfl rfl (Ev.mv rfl rfl) (WL.ev rfl rfl (Ev.fa rfl fo86_6 rfl) (WL.ev rfl rfl (Ev.ld rfl ag84 rfl ((H.rB (i := 0) rfl).cell rfl)) (WL.ev rfl rfl (Ev.mv rfl rfl) ?_)))
    obtain ⟨b3, ob3, cb3, A4, n4, c4, hvb3, hI5, hI6, hI7, hI8, hS3, hS4, H⟩ := ixS_Expr H (i := 1) rfl hx1
    refine WL.ev rfl rfl (Ev.ixVN rfl el84 sz86 rfl hvb3 rfl (lt_of hx1)) (WL.ev rfl rfl (Ev.lda rfl ag86 sz86 rfl (H.rA (i := 2) rfl) rfl) ?_)
    obtain ⟨y1, hy1, hb1⟩ := bd hb1
    obtain ⟨F, hF, hcl⟩ := H.call
    refine WL.call rfl rfl rfl rfl rfl ok114 rfl (ih_sl4Copy hy1 (Expr_rd.2 ⟨_, rfl, hI5, hI6, hI7, hI8, hS3, hS4, (hF.get (i := 4) rfl)⟩)) ?_
    rintro _ w5 hE ⟨A5, n5, c5, rfl, hI9, hI10, hI11, hI12, hS5, hS6, H'⟩
    have H : HL F0 [] w0 w5 [Pr.R a0 [.int .i64 a0.Kind, .int .i64 a0.N, .int .i64 a0.Pos, .int .i64 a0.Type_, .string a0.Symbol, .string a0.Name, .slice A1 n1 c1], Pr.S a0.Args (.slice A1 n1 c1), Pr.A b3 (ob3 + k1 * 7) [.int .i64 x1.Kind, .int .i64 x1.N, .int .i64 x1.Pos, .int .i64 x1.Type_, .string x1.Symbol, .string x1.Name, .slice A4 n4 c4], Pr.R x1 [.int .i64 x1.Kind, .int .i64 x1.N, .int .i64 x1.Pos, .int .i64 x1.Type_, .string x1.Symbol, .string x1.Name, .slice A4 n4 c4], Pr.S x1.Args (.slice A4 n4 c4), Pr.S y1.Args (.slice A5 n5 c5)] [It.B b1 86 [.int .i64 a0.Kind, .int .i64 a0.N, .int .i64 a0.Pos, .int .i64 a0.Type_, .string a0.Symbol, .string a0.Name, .slice A1 n1 c1], It.B b2 86 [.int .i64 0, .int .i64 0, .int .i64 0, .int .i64 0, .string (⟨#[]⟩ : ByteArray), .string (⟨#[]⟩ : ByteArray), .slice none 0 0], It.G 86 s1 (.slice A3 n3 c3)] := hcl H'
    refine WL.lit1 rfl rfl rfl el84 sz86 ze86 rfl rfl rfl rfl rfl rfl fun b4 w6 hE hb hB => ?_
    have H := H.newB hE hb hB
    obtain ⟨hg1, hb1⟩ := grd_some hb1
    refine WL.appG (i := 2) (ys := [y1]) rfl rfl rfl el84 sz86 by86 ze86 rfl rfl rfl H rfl (fun F hF => rdL.single (Expr_rd.2 ⟨_, rfl, hI9, hI10, hI11, hI12, hS5, hS6, (hF.get (i := 5) rfl)⟩)) (.inr ⟨_, _, rfl, At.blk (H.rB (i := 3) rfl)⟩) hg1 fun A6 n6 c6 w7 H => ?_
    refine WL.ev rfl rfl (Ev.as rfl rfl) (WL.nil ?_)
    refine CW.reg ?_
    refine WL.ev rfl rfl (Ev.mv rfl rfl) (WL.ev rfl rfl (Ev.bin rfl rfl rfl (Bin.addN (a := k1) (b := 1) rfl (i64_succN hk2 hl1.2))) (WL.ev rfl rfl (Ev.as rfl rfl) (WL.nil ?_)))
    obtain rfl := sm hb1
    exact ⟨⟨k1 + 1, (s1 ++ [y1]), (.slice A6 n6 c6)⟩, ⟨rfl, rfl, rfl, rfl, trivial⟩, ⟨hk2, hq1, H.keep 2 3⟩, Nat.sub_lt_sub_left hk2 (Nat.lt_succ_self _)⟩
  · skip
    obtain rfl := eachL_end hq1 (not_cast_lt h1)
    refine CW.exit ?_
    refine CW.seq (CW.reg ?_)
    refine WL.ev rfl rfl (Ev.mv rfl rfl) (WL.ev rfl rfl (Ev.fa rfl fo86_6 rfl) ?_)
    refine WL.stB (i := 0) rfl rfl rfl sz84 rfl rfl rfl rfl (all1 rfl all0) H rfl rfl rfl fun w8 H => ?_
    refine WL.nil ?_
    refine CW.seq (CW.reg ?_)
    refine WL.ev rfl rfl (Ev.lda rfl ag86 sz86 rfl (At.blk (H.rB (i := 0) rfl)) rfl) ?_
    refine WL.stB (i := 1) rfl rfl rfl sz86 rfl rfl rfl rfl (all1 rfl (all1 rfl (all1 rfl (all1 rfl (all1 rfl (all1 rfl (all1 rfl all0))))))) H rfl rfl rfl fun w9 H => ?_
    refine WL.nil ?_
    refine CW.ret ?_
    have H := H.frzG (i := 2) rfl
    obtain rfl := sm hr
    exact ⟨_, resC rfl ag86 sz86 rfl rfl (At.blk (H.rB (i := 1) rfl)) rfl, H.ext0, _, _, _, rfl, hI1, hI2, hI3, hI4, hS1, hS2, H.outM (fr' := [Pr.S s1 (.slice A3 n3 c3)]) [false, false, false] fun _ h => ⟨h.get (i := 2) rfl, trivial⟩⟩
noncomputable def sl4Copy_n : Nat → Expr → Option Expr
  | 0, _ => none
  | n + 1, a0 => sl4Copy_B (sl4Copy_n n) a0
noncomputable def sl4Copy_m (a0 : Expr) : Option Expr := recO fun n => sl4Copy_n n a0
theorem sl4Copy_okn (n : Nat) : ∀ {a0 : Expr} {r : Expr}, sl4Copy_n n a0 = some r → ∀ {F0 : Nat → Prop} {w0 : World} {ca0 : List Value} (ha0 : rd F0 w0 a0 ca0), Ret Tryz.prog 114 #[.agg ca0.toArray] w0 (fun _ => False) fun v w => ∃ A0 : Option Addr, ∃ n0 c0 : Nat, v = .agg #[.int .i64 r.Kind, .int .i64 r.N, .int .i64 r.Pos, .int .i64 r.Type_, .string r.Symbol, .string r.Name, (.slice A0 n0 c0)] ∧ I64 r.Kind ∧ I64 r.N ∧ I64 r.Pos ∧ I64 r.Type_ ∧ r.Symbol.size ≤ 9223372036854775807 ∧ r.Name.size ≤ 9223372036854775807 ∧ HL F0 [] w0 w [Pr.S r.Args (.slice A0 n0 c0)] [] := by
  induction n with
  | zero => intro a0 r hr; exact nomatch (show (none : Option Expr) = some r from hr)
  | succ n ih => intro a0 r hr; exact sl4Copy_okB ih hr
theorem sl4Copy_ok {a0 : Expr} {r : Expr} (hr : sl4Copy_m a0 = some r) {F0 : Nat → Prop} {w0 : World} {ca0 : List Value} (ha0 : rd F0 w0 a0 ca0) :
    Ret Tryz.prog 114 #[.agg ca0.toArray] w0 (fun _ => False) fun v w => ∃ A0 : Option Addr, ∃ n0 c0 : Nat, v = .agg #[.int .i64 r.Kind, .int .i64 r.N, .int .i64 r.Pos, .int .i64 r.Type_, .string r.Symbol, .string r.Name, (.slice A0 n0 c0)] ∧ I64 r.Kind ∧ I64 r.N ∧ I64 r.Pos ∧ I64 r.Type_ ∧ r.Symbol.size ≤ 9223372036854775807 ∧ r.Name.size ≤ 9223372036854775807 ∧ HL F0 [] w0 w [Pr.S r.Args (.slice A0 n0 c0)] [] := by
  obtain ⟨n, hn⟩ := recO_some hr
  exact sl4Copy_okn n hn ha0

noncomputable def sFindEquation_L1 (a1 : Occurrence) : Nat → Equation → Unit → Option (Unit ⊕ (Expr × Bool)) := fun k1 x1 _ => 
  if x1.At = a1 then (
  (sl4Copy_m x1.Expr).bind fun y1 =>
  some (.inr (y1, true))
  ) else (
  some (.inl ())
  )
noncomputable def sFindEquation_m (a0 : Rule) (a1 : Occurrence) : Option (Expr × Bool) :=
  (findL (sFindEquation_L1 a1) 0 a0.Equations ()).bind <| onr (fun r1 => some r1) fun _ =>
  some ((⟨0, 0, 0, 0, (⟨#[]⟩ : ByteArray), (⟨#[]⟩ : ByteArray), []⟩ : Expr), false)
theorem sFindEquation_ok {a0 : Rule} {a1 : Occurrence} {r : (Expr × Bool)} (hr : sFindEquation_m a0 a1 = some r) {F0 : Nat → Prop} {w0 : World} {ca0 : List Value} (ha0 : rd F0 w0 a0 ca0) {ca1 : List Value} (ha1 : rd F0 w0 a1 ca1) :
    Ret Tryz.prog 45 #[.agg ca0.toArray, .agg ca1.toArray] w0 (fun _ => False) fun v w => ∃ A0 : Option Addr, ∃ n0 c0 : Nat, v = .tuple #[.agg #[.int .i64 r.1.Kind, .int .i64 r.1.N, .int .i64 r.1.Pos, .int .i64 r.1.Type_, .string r.1.Symbol, .string r.1.Name, (.slice A0 n0 c0)], .bool r.2] ∧ I64 r.1.Kind ∧ I64 r.1.N ∧ I64 r.1.Pos ∧ I64 r.1.Type_ ∧ r.1.Symbol.size ≤ 9223372036854775807 ∧ r.1.Name.size ≤ 9223372036854775807 ∧ HL F0 [] w0 w [Pr.S r.1.Args (.slice A0 n0 c0)] [] := by
  have H := ((HL.start F0 w0).argR ha0).argR ha1
  obtain ⟨A1, n1, c1, A2, n2, c2, A3, n3, c3, rfl, hS1, hS2, H⟩ := op_Rule H (i := 0) rfl
  obtain ⟨rfl, hI1, hS3, H⟩ := op_Occurrence H (i := 1) rfl
  refine enter Tryz.func45 rfl rfl rfl ?_
  refine CW.seq (CW.reg ?_)
  refine WL.boxH rfl rfl rfl rfl rfl H fun b1 w1 H => ?_
  refine WL.boxH rfl rfl rfl rfl rfl H fun b2 w2 H => ?_
  refine WL.allocH rfl rfl rfl ze86 H fun b3 w3 H => ?_
  refine WL.ev rfl rfl (Ev.as rfl rfl) (WL.nil ?_)
  refine CW.seq (CW.seq (CW.reg ?_))
  refine WL.ev rfl rfl (Ev.as rfl rfl) (WL.nil ?_)
  obtain ⟨q1, hq1, hr⟩ := bd hr
  refine CW.block (CW.loop (α := Nat) (fun k1 => [(2, .pointer (some ⟨b1, 0, none⟩)), (3, .pointer (some ⟨b2, 0, none⟩)), (4, .pointer (some ⟨b3, 0, none⟩)), (6, .int .i64 (k1 : Int))]) (fun k1 w => k1 ≤ a0.Equations.length ∧ findL (sFindEquation_L1 a1) k1 (a0.Equations.drop k1) () = some q1 ∧ HL F0 [] w0 w [Pr.R a0 [.string a0.Name, .string a0.Left, .slice A1 n1 c1, .bool a0.Literal, .slice A2 n2 c2, .slice A3 n3 c3], Pr.R a1 [.int .i64 a1.Pos, .string a1.Name], Pr.S a0.Right (.slice A1 n1 c1), Pr.S a0.Equations (.slice A2 n2 c2), Pr.S a0.Contributions (.slice A3 n3 c3)] [It.B b1 45 [.string a0.Name, .string a0.Left, .slice A1 n1 c1, .bool a0.Literal, .slice A2 n2 c2, .slice A3 n3 c3], It.B b2 90 [.int .i64 a1.Pos, .string a1.Name], It.B b3 86 [.int .i64 0, .int .i64 0, .int .i64 0, .int .i64 0, .string (⟨#[]⟩ : ByteArray), .string (⟨#[]⟩ : ByteArray), .slice none 0 0]]) (fun k1 => a0.Equations.length - k1) 0 ⟨rfl, rfl, rfl, rfl, trivial⟩ ⟨Nat.zero_le _, hq1, H.keep 5 3⟩ ?_)
  rintro k1 σ w4 ⟨hk1, hq1, H⟩
  refine CW.seq (CW.seq (CW.reg ?_))
  refine WL.ev rfl rfl (Ev.mv rfl rfl) (WL.ev rfl rfl (Ev.fa rfl fo45_4 rfl) (WL.ev rfl rfl (Ev.ld rfl ag42 rfl ((H.rB (i := 0) rfl).cell rfl)) ?_))
  have hl1 := (H.rS (i := 3) rfl).I
  refine WL.ev rfl rfl (Ev.lenV rfl el42 rfl (H.rS (i := 3) rfl)) (WL.ev rfl rfl (Ev.bin rfl rfl rfl Bin.lss) (WL.nil ?_))
  refine CW.condD rfl (fun h1 => ?_) (fun h1 => ?_)
  · skip
    have hk2 := cast_lt h1
    obtain ⟨x1, z1, hx1, hb1, hs1, ht1⟩ := findL_go hq1 hk2
    refine CW.skip ?_
    refine CW.seq (CW.block (CW.seq (CW.quiet hmix (by kernel_rfl) ?_)))
    refine QL.ev rfl rfl (fun _ _ => Ev.fa rfl fo45_4 rfl) (QL.ev rfl rfl (fun _ hq => Ev.ld rfl ag42 rfl (((H.ext hq).rB (i := 0) rfl).cell rfl)) (QL.ev rfl rfl (fun _ _ => Ev.mv rfl rfl) ?_))
    obtain ⟨b4, ob4, cb4, A4, n4, c4, hvb4, hI2, hS4, hI3, hI4, hI5, hI6, hS5, hS6, H⟩ := ixS_Equation H (i := 3) rfl hx1
    refine QL.ev rfl rfl (fun _ _ => Ev.ixVN rfl el42 sz165 rfl hvb4 rfl (lt_of hx1)) (QL.ev rfl rfl (fun _ _ => Ev.fa rfl fo165_0 rfl) (QL.ev rfl rfl (fun _ hq => Ev.lda rfl ag90 sz90 rfl (((H.ext hq).rA (i := 5) rfl).part 0 2) rfl) (QL.ev rfl rfl (fun _ hq => Ev.lda rfl ag90 sz90 rfl (At.blk ((H.ext hq).rB (i := 1) rfl)) rfl) (QL.ev rfl rfl (fun _ _ => Ev.bin rfl rfl rfl (Bin.eqlF fl90 (Occurrence_eqF x1.At a1))) (QL.nil (fun w5 hE => ?_))))))
    have H := H.ext hE
    refine CW.condD rfl (fun h2 => ?_) (fun h2 => ?_)
    · skip
      have hb1 := ifp h2 hb1
      refine CW.seq (CW.reg ?_)
      refine WL.ev rfl rfl (Ev.fa rfl fo45_4 rfl) (WL.ev rfl rfl (Ev.ld rfl ag42 rfl ((H.rB (i := 0) rfl).cell rfl)) (WL.ev rfl rfl (Ev.mv rfl rfl) (WL.ev rfl rfl (Ev.ixVN rfl el42 sz165 rfl hvb4 rfl (lt_of hx1)) (WL.ev rfl rfl (Ev.fa rfl fo165_1 rfl) (WL.ev rfl rfl (Ev.lda rfl ag86 sz86 rfl ((H.rA (i := 5) rfl).part 2 7) rfl) ?_)))))
      obtain ⟨y1, hy1, hb1⟩ := bd hb1
      obtain ⟨F, hF, hcl⟩ := H.call
      refine WL.call rfl rfl rfl rfl rfl ok114 rfl (sl4Copy_ok hy1 (Expr_rd.2 ⟨_, rfl, hI3, hI4, hI5, hI6, hS5, hS6, (hF.get (i := 7) rfl)⟩)) ?_
      rintro _ w6 hE ⟨A5, n5, c5, rfl, hI7, hI8, hI9, hI10, hS7, hS8, H'⟩
      have H : HL F0 [] w0 w6 [Pr.R a0 [.string a0.Name, .string a0.Left, .slice A1 n1 c1, .bool a0.Literal, .slice A2 n2 c2, .slice A3 n3 c3], Pr.R a1 [.int .i64 a1.Pos, .string a1.Name], Pr.S a0.Right (.slice A1 n1 c1), Pr.S a0.Equations (.slice A2 n2 c2), Pr.S a0.Contributions (.slice A3 n3 c3), Pr.A b4 (ob4 + k1 * 9) [.int .i64 x1.At.Pos, .string x1.At.Name, .int .i64 x1.Expr.Kind, .int .i64 x1.Expr.N, .int .i64 x1.Expr.Pos, .int .i64 x1.Expr.Type_, .string x1.Expr.Symbol, .string x1.Expr.Name, .slice A4 n4 c4], Pr.R x1 [.int .i64 x1.At.Pos, .string x1.At.Name, .int .i64 x1.Expr.Kind, .int .i64 x1.Expr.N, .int .i64 x1.Expr.Pos, .int .i64 x1.Expr.Type_, .string x1.Expr.Symbol, .string x1.Expr.Name, .slice A4 n4 c4], Pr.S x1.Expr.Args (.slice A4 n4 c4), Pr.S y1.Args (.slice A5 n5 c5)] [It.B b1 45 [.string a0.Name, .string a0.Left, .slice A1 n1 c1, .bool a0.Literal, .slice A2 n2 c2, .slice A3 n3 c3], It.B b2 90 [.int .i64 a1.Pos, .string a1.Name], It.B b3 86 [.int .i64 0, .int .i64 0, .int .i64 0, .int .i64 0, .string (⟨#[]⟩ : ByteArray), .string (⟨#[]⟩ : ByteArray), .slice none 0 0]] := hcl H'
      refine WL.stB (i := 2) rfl rfl rfl sz86 rfl rfl rfl rfl (all1 rfl (all1 rfl (all1 rfl (all1 rfl (all1 rfl (all1 rfl (all1 rfl all0))))))) H rfl rfl rfl fun w7 H => ?_
      refine WL.ev rfl rfl (Ev.as rfl rfl) (WL.nil ?_)
      refine CW.ret ?_
      obtain rfl := sm hb1
      obtain rfl := ht1 _ rfl
      obtain rfl := sm hr
      exact ⟨_, resC1 rfl ag86 sz86 rfl rfl rfl rfl (At.blk (H.rB (i := 2) rfl)) rfl, H.ext0, _, _, _, rfl, hI7, hI8, hI9, hI10, hS7, hS8, H.outM (fr' := [Pr.S y1.Args (.slice A5 n5 c5)]) [false, false, false] fun _ h => ⟨h.get (i := 8) rfl, trivial⟩⟩
    · skip
      have hb1 := ifn h2 hb1
      refine CW.skip ?_
      refine CW.reg ?_
      refine WL.ev rfl rfl (Ev.mv rfl rfl) (WL.ev rfl rfl (Ev.bin rfl rfl rfl (Bin.addN (a := k1) (b := 1) rfl (i64_succN hk2 hl1.2))) (WL.ev rfl rfl (Ev.as rfl rfl) (WL.nil ?_)))
      obtain rfl := sm hb1
      have hq1 := hs1 _ rfl
      exact ⟨(k1 + 1), ⟨rfl, rfl, rfl, rfl, trivial⟩, ⟨hk2, hq1, H.keep 5 3⟩, Nat.sub_lt_sub_left hk2 (Nat.lt_succ_self _)⟩
  · skip
    obtain rfl := findL_end hq1 (not_cast_lt h1)
    refine CW.exit ?_
    refine CW.seq (CW.reg ?_)
    refine WL.ev rfl rfl (Ev.build rfl pl86 ze86 rfl rfl rfl rfl) ?_
    refine WL.stB (i := 2) rfl rfl rfl sz86 rfl rfl rfl rfl (all1 rfl (all1 rfl (all1 rfl (all1 rfl (all1 rfl (all1 rfl (all1 rfl all0))))))) H rfl rfl rfl fun w8 H => ?_
    refine WL.ev rfl rfl (Ev.as rfl rfl) (WL.nil ?_)
    refine CW.ret ?_
    have H := H.nilS (α := Expr)
    obtain rfl := sm hr
    exact ⟨_, resC1 rfl ag86 sz86 rfl rfl rfl rfl (At.blk (H.rB (i := 2) rfl)) rfl, H.ext0, _, _, _, rfl, (by decide : I64 0), (by decide : I64 0), (by decide : I64 0), (by decide : I64 0), (by decide), (by decide), H.outM (fr' := [Pr.S ([] : List Expr) (.slice none 0 0)]) [false, false, false] fun _ h => ⟨h.get (i := 5) rfl, trivial⟩⟩

noncomputable def sl4Before_m (a0 : Occurrence) (a1 : Occurrence) : Option Bool :=
  (
  if a0.Pos < a1.Pos then (
  some true
  ) else (
  (
  if a0.Pos = a1.Pos then (
  some (Op.bytesLess a0.Name.toList a1.Name.toList)
  ) else (
  some false
  )
  ).bind fun s2 =>
  some s2
  )
  ).bind fun s1 =>
  some s1
theorem sl4Before_ok {a0 : Occurrence} {a1 : Occurrence} {r : Bool} (hr : sl4Before_m a0 a1 = some r) {F0 : Nat → Prop} {w0 : World} {ca0 : List Value} (ha0 : rd F0 w0 a0 ca0) {ca1 : List Value} (ha1 : rd F0 w0 a1 ca1) :
    Ret Tryz.prog 203 #[.agg ca0.toArray, .agg ca1.toArray] w0 (fun _ => False) fun v w => v = .bool r := by
  have H := ((HL.start F0 w0).argR ha0).argR ha1
  obtain ⟨rfl, hI1, hS1, H⟩ := op_Occurrence H (i := 0) rfl
  obtain ⟨rfl, hI2, hS2, H⟩ := op_Occurrence H (i := 1) rfl
  refine enter Tryz.func203 rfl rfl rfl ?_
  refine CW.seq (CW.reg ?_)
  refine WL.boxH rfl rfl rfl rfl rfl H fun b1 w1 H => ?_
  refine WL.boxH rfl rfl rfl rfl rfl H fun b2 w2 H => ?_
  refine WL.ev rfl rfl (Ev.as rfl rfl) (WL.nil ?_)
  refine CW.seq (CW.reg ?_)
  refine WL.ev rfl rfl (Ev.fa rfl fo90_0 rfl) (WL.ev rfl rfl (Ev.ld rfl ag3 rfl ((H.rB (i := 0) rfl).cell rfl)) (WL.ev rfl rfl (Ev.fa rfl fo90_0 rfl) (WL.ev rfl rfl (Ev.ld rfl ag3 rfl ((H.rB (i := 1) rfl).cell rfl)) (WL.ev rfl rfl (Ev.bin rfl rfl rfl Bin.lss) ?_))))
  obtain ⟨q1, hm1, hr⟩ := bd hr
  refine WL.cut 14 (fun ρ' w => ∃ (s1 : Bool), s1 = q1 ∧ agree ρ' [(4, .bool false), (23, .bool s1)] ∧ HL F0 [] w0 w [Pr.R a0 [.int .i64 a0.Pos, .string a0.Name], Pr.R a1 [.int .i64 a1.Pos, .string a1.Name]] [It.B b1 90 [.int .i64 a0.Pos, .string a0.Name], It.B b2 90 [.int .i64 a1.Pos, .string a1.Name]]) ?_ ?_
  · skip
    refine WL.mvD rfl rfl rfl rfl (fun h1 => ?_) (fun h1 => ?_)
    · skip
      have hm1 := ifp h1 hm1
      refine WL.off rfl rfl rfl (WL.off rfl rfl rfl (WL.off rfl rfl rfl (WL.off rfl rfl rfl (WL.off rfl rfl rfl (WL.off rfl rfl rfl (WL.off rfl rfl rfl (WL.off rfl rfl rfl (WL.off rfl rfl rfl (WL.off rfl rfl rfl (WL.off rfl rfl rfl (WL.off rfl rfl rfl (WL.ev rfl rfl (Ev.pickT rfl rfl rfl) (WL.nil ?_)))))))))))))
      obtain rfl := sm hm1
      exact ⟨true, rfl, ⟨rfl, rfl, trivial⟩, H.keep 2 2⟩
    · skip
      have hm1 := ifn h1 hm1
      refine WL.on rfl rfl (WL.ev rfl rfl (Ev.fa rfl fo90_0 rfl) (WL.on rfl rfl (WL.ev rfl rfl (Ev.ld rfl ag3 rfl ((H.rB (i := 0) rfl).cell rfl)) (WL.on rfl rfl (WL.ev rfl rfl (Ev.fa rfl fo90_0 rfl) (WL.on rfl rfl (WL.ev rfl rfl (Ev.ld rfl ag3 rfl ((H.rB (i := 1) rfl).cell rfl)) (WL.on rfl rfl (WL.ev rfl rfl (Ev.bin rfl rfl rfl Bin.eql) (WL.on rfl rfl ?_))))))))))
      obtain ⟨q2, hm2, hm1⟩ := bd hm1
      refine WL.cut 7 (fun ρ' w => ∃ (s2 : Bool), s2 = q2 ∧ agree ρ' [(4, .bool false), (10, .bool false), (22, .bool s2)] ∧ HL F0 [] w0 w [Pr.R a0 [.int .i64 a0.Pos, .string a0.Name], Pr.R a1 [.int .i64 a1.Pos, .string a1.Name]] [It.B b1 90 [.int .i64 a0.Pos, .string a0.Name], It.B b2 90 [.int .i64 a1.Pos, .string a1.Name]]) ?_ ?_
      · skip
        refine WL.on rfl rfl ?_
        refine WL.mvD rfl rfl rfl rfl (fun h2 => ?_) (fun h2 => ?_)
        · skip
          have hm2 := ifp h2 hm2
          refine WL.on rfl rfl (WL.ev rfl rfl (Ev.fa rfl fo90_1 rfl) (WL.on rfl rfl (WL.ev rfl rfl (Ev.ld rfl ag9 rfl ((H.rB (i := 0) rfl).cell rfl)) (WL.on rfl rfl (WL.ev rfl rfl (Ev.fa rfl fo90_1 rfl) (WL.on rfl rfl (WL.ev rfl rfl (Ev.ld rfl ag9 rfl ((H.rB (i := 1) rfl).cell rfl)) (WL.on rfl rfl (WL.ev rfl rfl (Ev.bin rfl rfl rfl Bin.lssS) (WL.on rfl rfl (WL.ev rfl rfl (Ev.pickT rfl rfl rfl) (WL.nil ?_))))))))))))
          obtain rfl := sm hm2
          exact ⟨(Op.bytesLess a0.Name.toList a1.Name.toList), rfl, ⟨rfl, rfl, rfl, trivial⟩, H.keep 2 2⟩
        · skip
          have hm2 := ifn h2 hm2
          refine WL.off rfl rfl rfl (WL.off rfl rfl rfl (WL.off rfl rfl rfl (WL.off rfl rfl rfl (WL.off rfl rfl rfl (WL.on rfl rfl (WL.ev rfl rfl (Ev.pickF rfl rfl rfl) (WL.nil ?_)))))))
          obtain rfl := sm hm2
          exact ⟨false, rfl, ⟨rfl, rfl, rfl, trivial⟩, H.keep 2 2⟩
      · rintro ρ' w3 ⟨s2, rfl, hag, H⟩
        obtain ⟨σ, rfl⟩ := ofL_ex hag
        refine WL.ev rfl rfl (Ev.pickF rfl rfl rfl) (WL.nil ?_)
        obtain rfl := sm hm1
        exact ⟨s2, rfl, ⟨rfl, rfl, trivial⟩, H.keep 2 2⟩
  · rintro ρ' w4 ⟨s1, rfl, hag, H⟩
    obtain ⟨σ, rfl⟩ := ofL_ex hag
    refine WL.ev rfl rfl (Ev.as rfl rfl) (WL.nil ?_)
    refine CW.ret ?_
    obtain rfl := sm hr
    exact ⟨_, res1 rfl rfl rfl, H.ext0, rfl⟩

noncomputable def sl4Put_L1 (a0 : (List Occurrence)) (a1 : Occurrence) : Int → Option (Int ⊕ Int) := fun s2 => 
  if s2 < (a0.length : Int) then (
  grd (0 ≤ s2) <|
  (a0[s2.toNat]?).bind fun x1 =>
  (sl4Before_m x1 a1).bind fun y1 =>
  if y1 = true then (
  grd (I64 (s2 + 1)) <|
  some (.inl (s2 + 1))
  ) else (
  some (.inr s2)
  )
  ) else (
  some (.inr s2)
  )
noncomputable def sl4Put_m (a0 : (List Occurrence)) (a1 : Occurrence) : Option (List Occurrence) :=
  (
  iterO (sl4Put_L1 a0 a1) 0
  ).bind fun s1 =>
  if s1 < (a0.length : Int) then (
  grd (0 ≤ s1) <|
  (a0[s1.toNat]?).bind fun x2 =>
  if x2 = a1 then (
  some a0
  ) else (
  grd (0 ≤ s1) <|
  grd (s1.toNat ≤ a0.length) <|
  grd (((([] : List Occurrence).length : Int) + ((a0.take s1.toNat).length : Int)) * 24 ≤ 140737488355328 ∧ (([] : List Occurrence).length : Int) + ((a0.take s1.toNat).length : Int) ≤ 9223372036854775807) <|
  grd ((((a0.take s1.toNat).length : Int) + 1) * 24 ≤ 140737488355328 ∧ ((a0.take s1.toNat).length : Int) + 1 ≤ 9223372036854775807) <|
  grd (0 ≤ s1) <|
  grd (s1.toNat ≤ a0.length) <|
  grd (((((a0.take s1.toNat) ++ [a1]).length : Int) + ((a0.drop s1.toNat).length : Int)) * 24 ≤ 140737488355328 ∧ (((a0.take s1.toNat) ++ [a1]).length : Int) + ((a0.drop s1.toNat).length : Int) ≤ 9223372036854775807) <|
  some (((a0.take s1.toNat) ++ [a1]) ++ (a0.drop s1.toNat))
  )
  ) else (
  grd (0 ≤ s1) <|
  grd (s1.toNat ≤ a0.length) <|
  grd (((([] : List Occurrence).length : Int) + ((a0.take s1.toNat).length : Int)) * 24 ≤ 140737488355328 ∧ (([] : List Occurrence).length : Int) + ((a0.take s1.toNat).length : Int) ≤ 9223372036854775807) <|
  grd ((((a0.take s1.toNat).length : Int) + 1) * 24 ≤ 140737488355328 ∧ ((a0.take s1.toNat).length : Int) + 1 ≤ 9223372036854775807) <|
  grd (0 ≤ s1) <|
  grd (s1.toNat ≤ a0.length) <|
  grd (((((a0.take s1.toNat) ++ [a1]).length : Int) + ((a0.drop s1.toNat).length : Int)) * 24 ≤ 140737488355328 ∧ (((a0.take s1.toNat) ++ [a1]).length : Int) + ((a0.drop s1.toNat).length : Int) ≤ 9223372036854775807) <|
  some (((a0.take s1.toNat) ++ [a1]) ++ (a0.drop s1.toNat))
  )
theorem sl4Put_ok {a0 : (List Occurrence)} {a1 : Occurrence} {r : (List Occurrence)} (hr : sl4Put_m a0 a1 = some r) {F0 : Nat → Prop} {w0 : World} {z0 : Value} (ha0 : rdS F0 w0 a0 z0) {ca1 : List Value} (ha1 : rd F0 w0 a1 ca1) :
    Ret Tryz.prog 163 #[z0, .agg ca1.toArray] w0 (fun _ => False) fun v w => ∃ A0 : Option Addr, ∃ n0 c0 : Nat, v = (.slice A0 n0 c0) ∧ HL F0 [] w0 w [Pr.S r (.slice A0 n0 c0)] [] := by
  obtain ⟨A0', n0', c0', rfl⟩ := ha0.form3
  have H := ((HL.start F0 w0).argS ha0).argR ha1
  obtain ⟨rfl, hI1, hS1, H⟩ := op_Occurrence H (i := 1) rfl
  refine enter Tryz.func163 rfl rfl rfl ?_
  refine CW.seq (CW.reg ?_)
  refine WL.boxH rfl rfl rfl rfl rfl H fun b1 w1 H => ?_
  refine WL.ev rfl rfl (Ev.as rfl rfl) (WL.nil ?_)
  refine CW.seq (CW.reg ?_)
  refine WL.ev rfl rfl (Ev.as rfl rfl) (WL.nil ?_)
  obtain ⟨q1, hm1, hr⟩ := bd hr
  refine CW.seq (CW.mid (fun ρ' w => ∃ (s1 : Int), s1 = q1 ∧ agree ρ' [(0, .slice A0' n0' c0'), (3, .pointer (some ⟨b1, 0, none⟩)), (5, .int .i64 s1)] ∧ I64 s1 ∧ HL F0 [] w0 w [Pr.S a0 (.slice A0' n0' c0'), Pr.R a1 [.int .i64 a1.Pos, .string a1.Name]] [It.B b1 90 [.int .i64 a1.Pos, .string a1.Name]]) ?_ ?_)
  · skip
    obtain ⟨m1, hq1⟩ := iterO_some.1 hm1
    refine CW.block (CW.loop (α := Nat × Int) (fun ⟨m1, s2⟩ => [(0, .slice A0' n0' c0'), (3, .pointer (some ⟨b1, 0, none⟩)), (5, .int .i64 s2)]) (fun ⟨m1, s2⟩ w => iterN (sl4Put_L1 a0 a1) m1 s2 = some q1 ∧ I64 s2 ∧ HL F0 [] w0 w [Pr.S a0 (.slice A0' n0' c0'), Pr.R a1 [.int .i64 a1.Pos, .string a1.Name]] [It.B b1 90 [.int .i64 a1.Pos, .string a1.Name]]) (fun ⟨m1, s2⟩ => m1) ⟨m1, 0⟩ ⟨rfl, rfl, rfl, trivial⟩ ⟨hq1, (by decide : I64 0), H.keep 2 1⟩ ?_)
    rintro ⟨m1, s2⟩ σ w2 ⟨hq1, hI3, H⟩
    obtain ⟨m2, z1, rfl, hb1, hs1, ht1⟩ := iterN_go hq1
    refine CW.seq (CW.seq (CW.quiet hmix (by kernel_rfl) ?_))
    refine QL.ev rfl rfl (fun _ _ => Ev.mv rfl rfl) (QL.ev rfl rfl (fun _ _ => Ev.mv rfl rfl) ?_)
    have hl1 := (H.rS (i := 0) rfl).I
    refine QL.ev rfl rfl (fun _ _ => Ev.lenV rfl el76 rfl (H.rS (i := 0) rfl)) (QL.ev rfl rfl (fun _ _ => Ev.bin rfl rfl rfl Bin.lss) ?_)
    refine QL.mvD rfl rfl rfl rfl (fun h1 => ?_) (fun h1 => ?_)
    · skip
      have hb1 := ifp h1 hb1
      refine QL.on rfl rfl (QL.ev rfl rfl (fun _ _ => Ev.mv rfl rfl) (QL.on rfl rfl (QL.ev rfl rfl (fun _ _ => Ev.mv rfl rfl) (QL.on rfl rfl ?_))))
      obtain ⟨hg1, hb1⟩ := grd_some hb1
      obtain ⟨x1, hx1, hb1⟩ := bd hb1
      obtain ⟨b2, ob2, cb2, hvb2, hI4, hS2, H⟩ := ixS_Occurrence H (i := 0) rfl hx1
      refine QL.ev rfl rfl (fun _ _ => Ev.ixV rfl el76 sz90 rfl hvb2 rfl hg1 (lt_of hx1)) (QL.on rfl rfl (QL.ev rfl rfl (fun _ hq => Ev.lda rfl ag90 sz90 rfl ((H.ext hq).rA (i := 2) rfl) rfl) (QL.on rfl rfl (QL.ev rfl rfl (fun _ hq => Ev.lda rfl ag90 sz90 rfl (At.blk ((H.ext hq).rB (i := 0) rfl)) rfl) (QL.on rfl rfl ?_)))))
      obtain ⟨y1, hy1, hb1⟩ := bd hb1
      refine QL.call rfl rfl rfl rfl rfl ok203 rfl (fun _ hq => sl4Before_ok hy1 (F0 := fun _ => False) ⟨rfl, hI4, hS2⟩ ⟨rfl, hI1, hS1⟩) ?_
      refine QL.ev rfl rfl (fun _ _ => Ev.pickT rfl rfl rfl) (QL.nil (fun w3 hE => ?_))
      have H := H.ext hE
      refine CW.condB rfl (fun h2 => ?_) (fun h2 => ?_)
      · skip
        have hb1 := ifp h2 hb1
        refine CW.skip ?_
        refine CW.block (CW.reg ?_)
        refine WL.ev rfl rfl (Ev.mv rfl rfl) ?_
        obtain ⟨hg2, hb1⟩ := grd_some hb1
        refine WL.ev rfl rfl (Ev.bin rfl rfl rfl (Bin.add hg2)) (WL.ev rfl rfl (Ev.as rfl rfl) (WL.nil ?_))
        obtain rfl := sm hb1
        exact ⟨⟨m2, (s2 + 1)⟩, ⟨rfl, rfl, rfl, trivial⟩, ⟨hs1 _ rfl, hg2, H.keep 2 1⟩, Nat.lt_succ_self _⟩
      · skip
        have hb1 := ifn h2 hb1
        refine CW.exit ?_
        obtain rfl := sm hb1
        obtain rfl := ht1 _ rfl
        exact ⟨s2, rfl, ⟨rfl, rfl, rfl, trivial⟩, hI3, H.keep 2 1⟩
    · skip
      have hb1 := ifn h1 hb1
      refine QL.off rfl rfl rfl (QL.off rfl rfl rfl (QL.off rfl rfl rfl (QL.off rfl rfl rfl (QL.off rfl rfl rfl (QL.off rfl rfl rfl (QL.ev rfl rfl (fun _ _ => Ev.pickF rfl rfl rfl) (QL.nil (fun w4 hE => ?_))))))))
      have H := H.ext hE
      refine CW.condF rfl ?_
      refine CW.exit ?_
      obtain rfl := sm hb1
      obtain rfl := ht1 _ rfl
      exact ⟨s2, rfl, ⟨rfl, rfl, rfl, trivial⟩, hI3, H.keep 2 1⟩
  · rintro ρ' w5 ⟨s1, rfl, hag, hI2, H⟩
    obtain ⟨σ, rfl⟩ := ofL_ex hag
    refine CW.seq (CW.seq (CW.quiet hmix (by kernel_rfl) ?_))
    refine QL.ev rfl rfl (fun _ _ => Ev.mv rfl rfl) (QL.ev rfl rfl (fun _ _ => Ev.mv rfl rfl) ?_)
    have hl2 := (H.rS (i := 0) rfl).I
    refine QL.ev rfl rfl (fun _ _ => Ev.lenV rfl el76 rfl (H.rS (i := 0) rfl)) (QL.ev rfl rfl (fun _ _ => Ev.bin rfl rfl rfl Bin.lss) ?_)
    refine QL.mvD rfl rfl rfl rfl (fun h3 => ?_) (fun h3 => ?_)
    · skip
      have hr := ifp h3 hr
      refine QL.on rfl rfl (QL.ev rfl rfl (fun _ _ => Ev.mv rfl rfl) (QL.on rfl rfl (QL.ev rfl rfl (fun _ _ => Ev.mv rfl rfl) (QL.on rfl rfl ?_))))
      obtain ⟨hg3, hr⟩ := grd_some hr
      obtain ⟨x2, hx2, hr⟩ := bd hr
      obtain ⟨b3, ob3, cb3, hvb3, hI5, hS3, H⟩ := ixS_Occurrence H (i := 0) rfl hx2
      refine QL.ev rfl rfl (fun _ _ => Ev.ixV rfl el76 sz90 rfl hvb3 rfl hg3 (lt_of hx2)) (QL.on rfl rfl (QL.ev rfl rfl (fun _ hq => Ev.lda rfl ag90 sz90 rfl ((H.ext hq).rA (i := 2) rfl) rfl) (QL.on rfl rfl (QL.ev rfl rfl (fun _ hq => Ev.lda rfl ag90 sz90 rfl (At.blk ((H.ext hq).rB (i := 0) rfl)) rfl) (QL.on rfl rfl (QL.ev rfl rfl (fun _ _ => Ev.bin rfl rfl rfl (Bin.eqlF fl90 (Occurrence_eqF x2 a1))) (QL.ev rfl rfl (fun _ _ => Ev.pickT rfl rfl rfl) (QL.nil (fun w6 hE => ?_)))))))))
      have H := H.ext hE
      refine CW.condD rfl (fun h4 => ?_) (fun h4 => ?_)
      · skip
        have hr := ifp h4 hr
        refine CW.seq (CW.reg ?_)
        refine WL.ev rfl rfl (Ev.mv rfl rfl) (WL.ev rfl rfl (Ev.as rfl rfl) (WL.nil ?_))
        refine CW.ret ?_
        obtain rfl := sm hr
        exact ⟨_, res1 rfl rfl rfl, H.ext0, _, _, _, rfl, H.outM (fr' := [Pr.S a0 (.slice A0' n0' c0')]) [false] fun _ h => ⟨h.get (i := 0) rfl, trivial⟩⟩
      · skip
        have hr := ifn h4 hr
        refine CW.skip ?_
        refine CW.seq (CW.reg ?_)
        refine WL.lit0H (α := Occurrence) rfl rfl rfl el76 sz90 H fun A1 n1 c1 w7 H => ?_
        refine WL.ev rfl rfl (Ev.mv rfl rfl) (WL.ev rfl rfl (Ev.mv rfl rfl) ?_)
        obtain ⟨hg4, hr⟩ := grd_some hr
        obtain ⟨hg5, hr⟩ := grd_some hr
        obtain ⟨A2, n2, c2, e2, hc1, H⟩ := H.slH (i := 0) rfl hg5
        refine WL.ev rfl rfl (Ev.slHV rfl el76 sz90 rfl rfl ((Int.toNat_of_nonneg hg4).symm) hc1 e2) ?_
        obtain ⟨hg6, hr⟩ := grd_some hr
        refine WL.appS (i := 1) rfl rfl rfl el76 sz90 by90 ze90 rfl rfl rfl H rfl (H.rS (i := 4) rfl) hg6 fun A3 n3 c3 w8 H => ?_
        refine WL.ev rfl rfl (Ev.as rfl rfl) (WL.nil ?_)
        refine CW.seq (CW.reg ?_)
        refine WL.ev rfl rfl (Ev.mv rfl rfl) (WL.ev rfl rfl (Ev.lda rfl ag90 sz90 rfl (At.blk (H.rB (i := 0) rfl)) rfl) ?_)
        refine WL.lit1 rfl rfl rfl el76 sz90 ze90 rfl rfl rfl rfl rfl rfl fun b4 w9 hE hb hB => ?_
        have H := H.newB hE hb hB
        obtain ⟨hg7, hr⟩ := grd_some hr
        refine WL.appO (i := 1) (ys := [a1]) rfl rfl rfl el76 sz90 by90 ze90 rfl rfl rfl H rfl (fun _ => ownL.single ⟨rfl, hI1, hS1, rfl⟩) (.inr ⟨_, _, rfl, At.blk (H.rB (i := 2) rfl)⟩) hg7 fun A4 n4 c4 w10 H => ?_
        refine WL.ev rfl rfl (Ev.as rfl rfl) (WL.nil ?_)
        refine CW.seq ?_
        refine CW.fresh [(0, .slice A0' n0' c0'), (5, .int .i64 s1), (6, .slice A4 n4 c4)] ⟨rfl, rfl, rfl, trivial⟩ fun σ => ?_
        have H : HL F0 [] w0 w10 [Pr.S a0 (.slice A0' n0' c0'), Pr.R a1 [.int .i64 a1.Pos, .string a1.Name], Pr.A b3 (ob3 + s1.toNat * 2) [.int .i64 x2.Pos, .string x2.Name], Pr.R x2 [.int .i64 x2.Pos, .string x2.Name], Pr.S (a0.take s1.toNat) (.slice A2 n2 c2)] [It.B b1 90 [.int .i64 a1.Pos, .string a1.Name], It.O 90 ((a0.take s1.toNat) ++ [a1]) (.slice A4 n4 c4), It.B b4 90 [.int .i64 a1.Pos, .string a1.Name]] := H
        refine CW.reg ?_
        refine WL.ev rfl rfl (Ev.mv rfl rfl) (WL.ev rfl rfl (Ev.mv rfl rfl) (WL.ev rfl rfl (Ev.mv rfl rfl) ?_))
        obtain ⟨hg8, hr⟩ := grd_some hr
        obtain ⟨hg9, hr⟩ := grd_some hr
        obtain ⟨A5, n5, c5, e3, hc2, H⟩ := H.slL (i := 0) rfl hg9
        refine WL.ev rfl rfl (Ev.slLV rfl el76 sz90 rfl rfl ((Int.toNat_of_nonneg hg8).symm) hc2 e3) ?_
        obtain ⟨hg10, hr⟩ := grd_some hr
        refine WL.appS (i := 1) rfl rfl rfl el76 sz90 by90 ze90 rfl rfl rfl H rfl (H.rS (i := 5) rfl) hg10 fun A6 n6 c6 w11 H => ?_
        refine WL.ev rfl rfl (Ev.as rfl rfl) (WL.nil ?_)
        refine CW.ret ?_
        have H := H.frzO (i := 1) rfl
        obtain rfl := sm hr
        exact ⟨_, res1 rfl rfl rfl, H.ext0, _, _, _, rfl, H.outM (fr' := [Pr.S (((a0.take s1.toNat) ++ [a1]) ++ (a0.drop s1.toNat)) (.slice A6 n6 c6)]) [false, false, false] fun _ h => ⟨h.get (i := 6) rfl, trivial⟩⟩
    · skip
      have hr := ifn h3 hr
      refine QL.off rfl rfl rfl (QL.off rfl rfl rfl (QL.off rfl rfl rfl (QL.off rfl rfl rfl (QL.off rfl rfl rfl (QL.off rfl rfl rfl (QL.ev rfl rfl (fun _ _ => Ev.pickF rfl rfl rfl) (QL.nil (fun w12 hE => ?_))))))))
      have H := H.ext hE
      refine CW.condF rfl ?_
      refine CW.skip ?_
      refine CW.seq (CW.reg ?_)
      refine WL.lit0H (α := Occurrence) rfl rfl rfl el76 sz90 H fun A7 n7 c7 w13 H => ?_
      refine WL.ev rfl rfl (Ev.mv rfl rfl) (WL.ev rfl rfl (Ev.mv rfl rfl) ?_)
      obtain ⟨hg11, hr⟩ := grd_some hr
      obtain ⟨hg12, hr⟩ := grd_some hr
      obtain ⟨A8, n8, c8, e4, hc3, H⟩ := H.slH (i := 0) rfl hg12
      refine WL.ev rfl rfl (Ev.slHV rfl el76 sz90 rfl rfl ((Int.toNat_of_nonneg hg11).symm) hc3 e4) ?_
      obtain ⟨hg13, hr⟩ := grd_some hr
      refine WL.appS (i := 1) rfl rfl rfl el76 sz90 by90 ze90 rfl rfl rfl H rfl (H.rS (i := 2) rfl) hg13 fun A9 n9 c9 w14 H => ?_
      refine WL.ev rfl rfl (Ev.as rfl rfl) (WL.nil ?_)
      refine CW.seq (CW.reg ?_)
      refine WL.ev rfl rfl (Ev.mv rfl rfl) (WL.ev rfl rfl (Ev.lda rfl ag90 sz90 rfl (At.blk (H.rB (i := 0) rfl)) rfl) ?_)
      refine WL.lit1 rfl rfl rfl el76 sz90 ze90 rfl rfl rfl rfl rfl rfl fun b5 w15 hE hb hB => ?_
      have H := H.newB hE hb hB
      obtain ⟨hg14, hr⟩ := grd_some hr
      refine WL.appO (i := 1) (ys := [a1]) rfl rfl rfl el76 sz90 by90 ze90 rfl rfl rfl H rfl (fun _ => ownL.single ⟨rfl, hI1, hS1, rfl⟩) (.inr ⟨_, _, rfl, At.blk (H.rB (i := 2) rfl)⟩) hg14 fun A10 n10 c10 w16 H => ?_
      refine WL.ev rfl rfl (Ev.as rfl rfl) (WL.nil ?_)
      refine CW.seq (CW.reg ?_)
      refine WL.ev rfl rfl (Ev.mv rfl rfl) (WL.ev rfl rfl (Ev.mv rfl rfl) (WL.ev rfl rfl (Ev.mv rfl rfl) ?_))
      obtain ⟨hg15, hr⟩ := grd_some hr
      obtain ⟨hg16, hr⟩ := grd_some hr
      obtain ⟨A11, n11, c11, e5, hc4, H⟩ := H.slL (i := 0) rfl hg16
      refine WL.ev rfl rfl (Ev.slLV rfl el76 sz90 rfl rfl ((Int.toNat_of_nonneg hg15).symm) hc4 e5) ?_
      obtain ⟨hg17, hr⟩ := grd_some hr
      refine WL.appS (i := 1) rfl rfl rfl el76 sz90 by90 ze90 rfl rfl rfl H rfl (H.rS (i := 3) rfl) hg17 fun A12 n12 c12 w17 H => ?_
      refine WL.ev rfl rfl (Ev.as rfl rfl) (WL.nil ?_)
      refine CW.ret ?_
      have H := H.frzO (i := 1) rfl
      obtain rfl := sm hr
      exact ⟨_, res1 rfl rfl rfl, H.ext0, _, _, _, rfl, H.outM (fr' := [Pr.S (((a0.take s1.toNat) ++ [a1]) ++ (a0.drop s1.toNat)) (.slice A12 n12 c12)]) [false, false, false] fun _ h => ⟨h.get (i := 4) rfl, trivial⟩⟩

noncomputable def sl4Uses_L1 (rec_sl4Uses : Expr → (List Occurrence) → Option (List Occurrence)) : Nat → Expr → (List Occurrence) → Option (List Occurrence) := fun k1 x1 s1 => 
  (rec_sl4Uses x1 s1).bind fun y2 =>
  some y2
noncomputable def sl4Uses_L2 (rec_sl4Uses : Expr → (List Occurrence) → Option (List Occurrence)) : Nat → Expr → (List Occurrence) → Option (List Occurrence) := fun k2 x2 s2 => 
  (rec_sl4Uses x2 s2).bind fun y3 =>
  some y3
noncomputable def sl4Uses_B (rec_sl4Uses : Expr → (List Occurrence) → Option (List Occurrence)) (a0 : Expr) (a1 : (List Occurrence)) : Option (List Occurrence) :=
  if a0.Kind = 3 then (
  (sl4Put_m a1 (⟨a0.Pos, a0.Name⟩ : Occurrence)).bind fun y1 =>
  (eachL (sl4Uses_L1 rec_sl4Uses) 0 a0.Args y1).bind fun s1 =>
  some s1
  ) else (
  (eachL (sl4Uses_L2 rec_sl4Uses) 0 a0.Args a1).bind fun s2 =>
  some s2
  )
theorem sl4Uses_okB {rec_sl4Uses : Expr → (List Occurrence) → Option (List Occurrence)} (ih_sl4Uses : ∀ {a0 : Expr} {a1 : (List Occurrence)} {r : (List Occurrence)}, rec_sl4Uses a0 a1 = some r → ∀ {F0 : Nat → Prop} {w0 : World} {ca0 : List Value} (ha0 : rd F0 w0 a0 ca0) {z1 : Value} (ha1 : rdS F0 w0 a1 z1), Ret Tryz.prog 115 #[.agg ca0.toArray, z1] w0 (fun _ => False) fun v w => ∃ A0 : Option Addr, ∃ n0 c0 : Nat, v = (.slice A0 n0 c0) ∧ HL F0 [] w0 w [Pr.S r (.slice A0 n0 c0)] []) {a0 : Expr} {a1 : (List Occurrence)} {r : (List Occurrence)} (hr : sl4Uses_B rec_sl4Uses a0 a1 = some r) {F0 : Nat → Prop} {w0 : World} {ca0 : List Value} (ha0 : rd F0 w0 a0 ca0) {z1 : Value} (ha1 : rdS F0 w0 a1 z1) :
    Ret Tryz.prog 115 #[.agg ca0.toArray, z1] w0 (fun _ => False) fun v w => ∃ A0 : Option Addr, ∃ n0 c0 : Nat, v = (.slice A0 n0 c0) ∧ HL F0 [] w0 w [Pr.S r (.slice A0 n0 c0)] [] := by
  obtain ⟨A1', n1', c1', rfl⟩ := ha1.form3
  have H := ((HL.start F0 w0).argR ha0).argS ha1
  obtain ⟨A1, n1, c1, rfl, hI1, hI2, hI3, hI4, hS1, hS2, H⟩ := op_Expr H (i := 0) rfl
  refine enter Tryz.func115 rfl rfl rfl ?_
  refine CW.seq (CW.reg ?_)
  refine WL.boxH rfl rfl rfl rfl rfl H fun b1 w1 H => ?_
  refine WL.ev rfl rfl (Ev.as rfl rfl) (WL.nil ?_)
  refine CW.seq (CW.seq (CW.reg ?_))
  refine WL.ev rfl rfl (Ev.fa rfl fo86_0 rfl) (WL.ev rfl rfl (Ev.ld rfl ag3 rfl ((H.rB (i := 0) rfl).cell rfl)) (WL.ev rfl rfl (Ev.bin rfl rfl rfl Bin.eql) (WL.nil ?_)))
  refine CW.condD rfl (fun h1 => ?_) (fun h1 => ?_)
  · skip
    have hr := ifp h1 hr
    refine CW.reg ?_
    refine WL.ev rfl rfl (Ev.mv rfl rfl) (WL.ev rfl rfl (Ev.fa rfl fo86_2 rfl) (WL.ev rfl rfl (Ev.ld rfl ag3 rfl ((H.rB (i := 0) rfl).cell rfl)) (WL.ev rfl rfl (Ev.fa rfl fo86_5 rfl) (WL.ev rfl rfl (Ev.ld rfl ag9 rfl ((H.rB (i := 0) rfl).cell rfl)) (WL.ev rfl rfl (Ev.build rfl pl90 ze90 rfl rfl rfl rfl) ?_)))))
    obtain ⟨y1, hy1, hr⟩ := bd hr
    obtain ⟨F, hF, hcl⟩ := H.call
    refine WL.call rfl rfl rfl rfl rfl ok163 rfl (sl4Put_ok hy1 (hF.get (i := 1) rfl) ⟨rfl, hI3, hS2⟩) ?_
    rintro _ w2 hE ⟨A2, n2, c2, rfl, H'⟩
    have H : HL F0 [] w0 w2 [Pr.R a0 [.int .i64 a0.Kind, .int .i64 a0.N, .int .i64 a0.Pos, .int .i64 a0.Type_, .string a0.Symbol, .string a0.Name, .slice A1 n1 c1], Pr.S a1 (.slice A1' n1' c1'), Pr.S a0.Args (.slice A1 n1 c1), Pr.S y1 (.slice A2 n2 c2)] [It.B b1 86 [.int .i64 a0.Kind, .int .i64 a0.N, .int .i64 a0.Pos, .int .i64 a0.Type_, .string a0.Symbol, .string a0.Name, .slice A1 n1 c1]] := hcl H'
    refine WL.ev rfl rfl (Ev.as rfl rfl) (WL.nil ?_)
    refine CW.seq (CW.seq (CW.reg ?_))
    refine WL.ev rfl rfl (Ev.as rfl rfl) (WL.nil ?_)
    obtain ⟨q1, hq1, hr⟩ := bd hr
    refine CW.block (CW.loop (α := Nat × (List Occurrence) × Value) (fun ⟨k1, s1, v1⟩ => [(1, v1), (2, .pointer (some ⟨b1, 0, none⟩)), (5, .int .i64 (k1 : Int))]) (fun ⟨k1, s1, v1⟩ w => k1 ≤ a0.Args.length ∧ eachL (sl4Uses_L1 rec_sl4Uses) k1 (a0.Args.drop k1) s1 = some q1 ∧ HL F0 [] w0 w [Pr.R a0 [.int .i64 a0.Kind, .int .i64 a0.N, .int .i64 a0.Pos, .int .i64 a0.Type_, .string a0.Symbol, .string a0.Name, .slice A1 n1 c1], Pr.S a1 (.slice A1' n1' c1'), Pr.S a0.Args (.slice A1 n1 c1), Pr.S y1 (.slice A2 n2 c2), Pr.S s1 v1] [It.B b1 86 [.int .i64 a0.Kind, .int .i64 a0.N, .int .i64 a0.Pos, .int .i64 a0.Type_, .string a0.Symbol, .string a0.Name, .slice A1 n1 c1]]) (fun ⟨k1, s1, v1⟩ => a0.Args.length - k1) ⟨0, y1, (.slice A2 n2 c2)⟩ ⟨rfl, rfl, rfl, trivial⟩ ⟨Nat.zero_le _, hq1, H.out (fun _ h => (h.keep 4).app ⟨h.get (i := 3) rfl, trivial⟩) (List.take_sublist 1 [It.B b1 86 [.int .i64 a0.Kind, .int .i64 a0.N, .int .i64 a0.Pos, .int .i64 a0.Type_, .string a0.Symbol, .string a0.Name, .slice A1 n1 c1]])⟩ ?_)
    rintro ⟨k1, s1, v1⟩ σ w3 ⟨hk1, hq1, H⟩
    obtain ⟨A3, n3, c3, rfl⟩ := (H.rS (i := 4) rfl).form3
    refine CW.seq (CW.seq (CW.reg ?_))
    refine WL.ev rfl rfl (Ev.mv rfl rfl) (WL.ev rfl rfl (Ev.fa rfl fo86_6 rfl) (WL.ev rfl rfl (Ev.ld rfl ag84 rfl ((H.rB (i := 0) rfl).cell rfl)) ?_))
    have hl1 := (H.rS (i := 2) rfl).I
    refine WL.ev rfl rfl (Ev.lenV rfl el84 rfl (H.rS (i := 2) rfl)) (WL.ev rfl rfl (Ev.bin rfl rfl rfl Bin.lss) (WL.nil ?_))
    refine CW.condD rfl (fun h2 => ?_) (fun h2 => ?_)
    · skip
      have hk2 := cast_lt h2
      obtain ⟨x1, z1, hx1, hb1, hq1⟩ := eachL_go hq1 hk2
      refine CW.skip ?_
      refine CW.seq (CW.block (CW.reg ?_))
      refine WL.ev rfl rfl (Ev.fa rfl fo86_6 rfl) (WL.ev rfl rfl (Ev.ld rfl ag84 rfl ((H.rB (i := 0) rfl).cell rfl)) (WL.ev rfl rfl (Ev.mv rfl rfl) ?_))
      obtain ⟨b2, ob2, cb2, A4, n4, c4, hvb2, hI5, hI6, hI7, hI8, hS3, hS4, H⟩ := ixS_Expr H (i := 2) rfl hx1
      refine WL.ev rfl rfl (Ev.ixVN rfl el84 sz86 rfl hvb2 rfl (lt_of hx1)) (WL.ev rfl rfl (Ev.lda rfl ag86 sz86 rfl (H.rA (i := 5) rfl) rfl) (WL.ev rfl rfl (Ev.mv rfl rfl) ?_))
      obtain ⟨y2, hy2, hb1⟩ := bd hb1
      obtain ⟨F, hF, hcl⟩ := H.call
      refine WL.call rfl rfl rfl rfl rfl ok115 rfl (ih_sl4Uses hy2 (Expr_rd.2 ⟨_, rfl, hI5, hI6, hI7, hI8, hS3, hS4, (hF.get (i := 7) rfl)⟩) (hF.get (i := 4) rfl)) ?_
      rintro _ w4 hE ⟨A5, n5, c5, rfl, H'⟩
      have H : HL F0 [] w0 w4 [Pr.R a0 [.int .i64 a0.Kind, .int .i64 a0.N, .int .i64 a0.Pos, .int .i64 a0.Type_, .string a0.Symbol, .string a0.Name, .slice A1 n1 c1], Pr.S a1 (.slice A1' n1' c1'), Pr.S a0.Args (.slice A1 n1 c1), Pr.S y1 (.slice A2 n2 c2), Pr.S s1 (.slice A3 n3 c3), Pr.A b2 (ob2 + k1 * 7) [.int .i64 x1.Kind, .int .i64 x1.N, .int .i64 x1.Pos, .int .i64 x1.Type_, .string x1.Symbol, .string x1.Name, .slice A4 n4 c4], Pr.R x1 [.int .i64 x1.Kind, .int .i64 x1.N, .int .i64 x1.Pos, .int .i64 x1.Type_, .string x1.Symbol, .string x1.Name, .slice A4 n4 c4], Pr.S x1.Args (.slice A4 n4 c4), Pr.S y2 (.slice A5 n5 c5)] [It.B b1 86 [.int .i64 a0.Kind, .int .i64 a0.N, .int .i64 a0.Pos, .int .i64 a0.Type_, .string a0.Symbol, .string a0.Name, .slice A1 n1 c1]] := hcl H'
      refine WL.ev rfl rfl (Ev.as rfl rfl) (WL.nil ?_)
      refine CW.reg ?_
      refine WL.ev rfl rfl (Ev.mv rfl rfl) (WL.ev rfl rfl (Ev.bin rfl rfl rfl (Bin.addN (a := k1) (b := 1) rfl (i64_succN hk2 hl1.2))) (WL.ev rfl rfl (Ev.as rfl rfl) (WL.nil ?_)))
      obtain rfl := sm hb1
      exact ⟨⟨k1 + 1, y2, (.slice A5 n5 c5)⟩, ⟨rfl, rfl, rfl, trivial⟩, ⟨hk2, hq1, H.out (fun _ h => (h.keep 4).app ⟨h.get (i := 8) rfl, trivial⟩) (List.take_sublist 1 [It.B b1 86 [.int .i64 a0.Kind, .int .i64 a0.N, .int .i64 a0.Pos, .int .i64 a0.Type_, .string a0.Symbol, .string a0.Name, .slice A1 n1 c1]])⟩, Nat.sub_lt_sub_left hk2 (Nat.lt_succ_self _)⟩
    · skip
      obtain rfl := eachL_end hq1 (not_cast_lt h2)
      refine CW.exit ?_
      refine CW.seq (CW.reg ?_)
      refine WL.ev rfl rfl (Ev.mv rfl rfl) (WL.ev rfl rfl (Ev.as rfl rfl) (WL.nil ?_))
      refine CW.ret ?_
      obtain rfl := sm hr
      exact ⟨_, res1 rfl rfl rfl, H.ext0, _, _, _, rfl, H.outM (fr' := [Pr.S s1 (.slice A3 n3 c3)]) [false] fun _ h => ⟨h.get (i := 4) rfl, trivial⟩⟩
  · skip
    have hr := ifn h1 hr
    refine CW.skip ?_
    refine CW.seq (CW.seq (CW.reg ?_))
    refine WL.ev rfl rfl (Ev.as rfl rfl) (WL.nil ?_)
    obtain ⟨q2, hq2, hr⟩ := bd hr
    refine CW.block (CW.loop (α := Nat × (List Occurrence) × Value) (fun ⟨k2, s2, v2⟩ => [(1, v2), (2, .pointer (some ⟨b1, 0, none⟩)), (5, .int .i64 (k2 : Int))]) (fun ⟨k2, s2, v2⟩ w => k2 ≤ a0.Args.length ∧ eachL (sl4Uses_L2 rec_sl4Uses) k2 (a0.Args.drop k2) s2 = some q2 ∧ HL F0 [] w0 w [Pr.R a0 [.int .i64 a0.Kind, .int .i64 a0.N, .int .i64 a0.Pos, .int .i64 a0.Type_, .string a0.Symbol, .string a0.Name, .slice A1 n1 c1], Pr.S a1 (.slice A1' n1' c1'), Pr.S a0.Args (.slice A1 n1 c1), Pr.S s2 v2] [It.B b1 86 [.int .i64 a0.Kind, .int .i64 a0.N, .int .i64 a0.Pos, .int .i64 a0.Type_, .string a0.Symbol, .string a0.Name, .slice A1 n1 c1]]) (fun ⟨k2, s2, v2⟩ => a0.Args.length - k2) ⟨0, a1, (.slice A1' n1' c1')⟩ ⟨rfl, rfl, rfl, trivial⟩ ⟨Nat.zero_le _, hq2, H.out (fun _ h => (h.keep 3).app ⟨h.get (i := 1) rfl, trivial⟩) (List.take_sublist 1 [It.B b1 86 [.int .i64 a0.Kind, .int .i64 a0.N, .int .i64 a0.Pos, .int .i64 a0.Type_, .string a0.Symbol, .string a0.Name, .slice A1 n1 c1]])⟩ ?_)
    rintro ⟨k2, s2, v2⟩ σ w5 ⟨hk3, hq2, H⟩
    obtain ⟨A6, n6, c6, rfl⟩ := (H.rS (i := 3) rfl).form3
    refine CW.seq (CW.seq (CW.reg ?_))
    refine WL.ev rfl rfl (Ev.mv rfl rfl) (WL.ev rfl rfl (Ev.fa rfl fo86_6 rfl) (WL.ev rfl rfl (Ev.ld rfl ag84 rfl ((H.rB (i := 0) rfl).cell rfl)) ?_))
    have hl2 := (H.rS (i := 2) rfl).I
    refine WL.ev rfl rfl (Ev.lenV rfl el84 rfl (H.rS (i := 2) rfl)) (WL.ev rfl rfl (Ev.bin rfl rfl rfl Bin.lss) (WL.nil ?_))
    refine CW.condD rfl (fun h3 => ?_) (fun h3 => ?_)
    · skip
      have hk4 := cast_lt h3
      obtain ⟨x2, z2, hx2, hb2, hq2⟩ := eachL_go hq2 hk4
      refine CW.skip ?_
      refine CW.seq (CW.block (CW.reg ?_))
      refine WL.ev rfl rfl (Ev.fa rfl fo86_6 rfl) (WL.ev rfl rfl (Ev.ld rfl ag84 rfl ((H.rB (i := 0) rfl).cell rfl)) (WL.ev rfl rfl (Ev.mv rfl rfl) ?_))
      obtain ⟨b3, ob3, cb3, A7, n7, c7, hvb3, hI9, hI10, hI11, hI12, hS5, hS6, H⟩ := ixS_Expr H (i := 2) rfl hx2
      refine WL.ev rfl rfl (Ev.ixVN rfl el84 sz86 rfl hvb3 rfl (lt_of hx2)) (WL.ev rfl rfl (Ev.lda rfl ag86 sz86 rfl (H.rA (i := 4) rfl) rfl) (WL.ev rfl rfl (Ev.mv rfl rfl) ?_))
      obtain ⟨y3, hy3, hb2⟩ := bd hb2
      obtain ⟨F, hF, hcl⟩ := H.call
      refine WL.call rfl rfl rfl rfl rfl ok115 rfl (ih_sl4Uses hy3 (Expr_rd.2 ⟨_, rfl, hI9, hI10, hI11, hI12, hS5, hS6, (hF.get (i := 6) rfl)⟩) (hF.get (i := 3) rfl)) ?_
      rintro _ w6 hE ⟨A8, n8, c8, rfl, H'⟩
      have H : HL F0 [] w0 w6 [Pr.R a0 [.int .i64 a0.Kind, .int .i64 a0.N, .int .i64 a0.Pos, .int .i64 a0.Type_, .string a0.Symbol, .string a0.Name, .slice A1 n1 c1], Pr.S a1 (.slice A1' n1' c1'), Pr.S a0.Args (.slice A1 n1 c1), Pr.S s2 (.slice A6 n6 c6), Pr.A b3 (ob3 + k2 * 7) [.int .i64 x2.Kind, .int .i64 x2.N, .int .i64 x2.Pos, .int .i64 x2.Type_, .string x2.Symbol, .string x2.Name, .slice A7 n7 c7], Pr.R x2 [.int .i64 x2.Kind, .int .i64 x2.N, .int .i64 x2.Pos, .int .i64 x2.Type_, .string x2.Symbol, .string x2.Name, .slice A7 n7 c7], Pr.S x2.Args (.slice A7 n7 c7), Pr.S y3 (.slice A8 n8 c8)] [It.B b1 86 [.int .i64 a0.Kind, .int .i64 a0.N, .int .i64 a0.Pos, .int .i64 a0.Type_, .string a0.Symbol, .string a0.Name, .slice A1 n1 c1]] := hcl H'
      refine WL.ev rfl rfl (Ev.as rfl rfl) (WL.nil ?_)
      refine CW.reg ?_
      refine WL.ev rfl rfl (Ev.mv rfl rfl) (WL.ev rfl rfl (Ev.bin rfl rfl rfl (Bin.addN (a := k2) (b := 1) rfl (i64_succN hk4 hl2.2))) (WL.ev rfl rfl (Ev.as rfl rfl) (WL.nil ?_)))
      obtain rfl := sm hb2
      exact ⟨⟨k2 + 1, y3, (.slice A8 n8 c8)⟩, ⟨rfl, rfl, rfl, trivial⟩, ⟨hk4, hq2, H.out (fun _ h => (h.keep 3).app ⟨h.get (i := 7) rfl, trivial⟩) (List.take_sublist 1 [It.B b1 86 [.int .i64 a0.Kind, .int .i64 a0.N, .int .i64 a0.Pos, .int .i64 a0.Type_, .string a0.Symbol, .string a0.Name, .slice A1 n1 c1]])⟩, Nat.sub_lt_sub_left hk4 (Nat.lt_succ_self _)⟩
    · skip
      obtain rfl := eachL_end hq2 (not_cast_lt h3)
      refine CW.exit ?_
      refine CW.seq (CW.reg ?_)
      refine WL.ev rfl rfl (Ev.mv rfl rfl) (WL.ev rfl rfl (Ev.as rfl rfl) (WL.nil ?_))
      refine CW.ret ?_
      obtain rfl := sm hr
      exact ⟨_, res1 rfl rfl rfl, H.ext0, _, _, _, rfl, H.outM (fr' := [Pr.S s2 (.slice A6 n6 c6)]) [false] fun _ h => ⟨h.get (i := 3) rfl, trivial⟩⟩
noncomputable def sl4Uses_n : Nat → Expr → (List Occurrence) → Option (List Occurrence)
  | 0, _, _ => none
  | n + 1, a0, a1 => sl4Uses_B (sl4Uses_n n) a0 a1
noncomputable def sl4Uses_m (a0 : Expr) (a1 : (List Occurrence)) : Option (List Occurrence) := recO fun n => sl4Uses_n n a0 a1
theorem sl4Uses_okn (n : Nat) : ∀ {a0 : Expr} {a1 : (List Occurrence)} {r : (List Occurrence)}, sl4Uses_n n a0 a1 = some r → ∀ {F0 : Nat → Prop} {w0 : World} {ca0 : List Value} (ha0 : rd F0 w0 a0 ca0) {z1 : Value} (ha1 : rdS F0 w0 a1 z1), Ret Tryz.prog 115 #[.agg ca0.toArray, z1] w0 (fun _ => False) fun v w => ∃ A0 : Option Addr, ∃ n0 c0 : Nat, v = (.slice A0 n0 c0) ∧ HL F0 [] w0 w [Pr.S r (.slice A0 n0 c0)] [] := by
  induction n with
  | zero => intro a0 a1 r hr; exact nomatch (show (none : Option (List Occurrence)) = some r from hr)
  | succ n ih => intro a0 a1 r hr; exact sl4Uses_okB ih hr
theorem sl4Uses_ok {a0 : Expr} {a1 : (List Occurrence)} {r : (List Occurrence)} (hr : sl4Uses_m a0 a1 = some r) {F0 : Nat → Prop} {w0 : World} {ca0 : List Value} (ha0 : rd F0 w0 a0 ca0) {z1 : Value} (ha1 : rdS F0 w0 a1 z1) :
    Ret Tryz.prog 115 #[.agg ca0.toArray, z1] w0 (fun _ => False) fun v w => ∃ A0 : Option Addr, ∃ n0 c0 : Nat, v = (.slice A0 n0 c0) ∧ HL F0 [] w0 w [Pr.S r (.slice A0 n0 c0)] [] := by
  obtain ⟨n, hn⟩ := recO_some hr
  exact sl4Uses_okn n hn ha0 ha1

noncomputable def sAttributeUses_m (a0 : Expr) : Option (List Occurrence) :=
  (sl4Uses_m a0 []).bind fun y1 =>
  some y1
theorem sAttributeUses_ok {a0 : Expr} {r : (List Occurrence)} (hr : sAttributeUses_m a0 = some r) {F0 : Nat → Prop} {w0 : World} {ca0 : List Value} (ha0 : rd F0 w0 a0 ca0) :
    Ret Tryz.prog 46 #[.agg ca0.toArray] w0 (fun _ => False) fun v w => ∃ A0 : Option Addr, ∃ n0 c0 : Nat, v = (.slice A0 n0 c0) ∧ HL F0 [] w0 w [Pr.S r (.slice A0 n0 c0)] [] := by
  have H := (HL.start F0 w0).argR ha0
  obtain ⟨A1, n1, c1, rfl, hI1, hI2, hI3, hI4, hS1, hS2, H⟩ := op_Expr H (i := 0) rfl
  refine enter Tryz.func46 rfl rfl rfl ?_
  refine CW.seq (CW.reg ?_)
  refine WL.boxH rfl rfl rfl rfl rfl H fun b1 w1 H => ?_
  refine WL.ev rfl rfl (Ev.as rfl rfl) (WL.nil ?_)
  refine CW.seq (CW.reg ?_)
  refine WL.ev rfl rfl (Ev.lda rfl ag86 sz86 rfl (At.blk (H.rB (i := 0) rfl)) rfl) ?_
  refine WL.lit0H (α := Occurrence) rfl rfl rfl el76 sz90 H fun A2 n2 c2 w2 H => ?_
  have H := H.frzO (i := 1) rfl
  obtain ⟨y1, hy1, hr⟩ := bd hr
  obtain ⟨F, hF, hcl⟩ := H.call
  refine WL.call rfl rfl rfl rfl rfl ok115 rfl (sl4Uses_ok hy1 (Expr_rd.2 ⟨_, rfl, hI1, hI2, hI3, hI4, hS1, hS2, (hF.get (i := 1) rfl)⟩) (hF.get (i := 2) rfl)) ?_
  rintro _ w3 hE ⟨A3, n3, c3, rfl, H'⟩
  have H : HL F0 [] w0 w3 [Pr.R a0 [.int .i64 a0.Kind, .int .i64 a0.N, .int .i64 a0.Pos, .int .i64 a0.Type_, .string a0.Symbol, .string a0.Name, .slice A1 n1 c1], Pr.S a0.Args (.slice A1 n1 c1), Pr.S ([] : List Occurrence) (.slice A2 n2 c2), Pr.S y1 (.slice A3 n3 c3)] [It.B b1 86 [.int .i64 a0.Kind, .int .i64 a0.N, .int .i64 a0.Pos, .int .i64 a0.Type_, .string a0.Symbol, .string a0.Name, .slice A1 n1 c1], It.emp] := hcl H'
  refine WL.ev rfl rfl (Ev.as rfl rfl) (WL.nil ?_)
  refine CW.ret ?_
  obtain rfl := sm hr
  exact ⟨_, res1 rfl rfl rfl, H.ext0, _, _, _, rfl, H.outM (fr' := [Pr.S y1 (.slice A3 n3 c3)]) [false, false] fun _ h => ⟨h.get (i := 3) rfl, trivial⟩⟩

noncomputable def sOccurrenceIndex_L1 (a1 : Occurrence) : Nat → Occurrence → Unit → Option (Unit ⊕ Int) := fun k1 x1 _ => 
  if x1 = a1 then (
  some (.inr (k1 : Int))
  ) else (
  some (.inl ())
  )
noncomputable def sOccurrenceIndex_m (a0 : (List Occurrence)) (a1 : Occurrence) : Option Int :=
  (findL (sOccurrenceIndex_L1 a1) 0 a0 ()).bind <| onr (fun r1 => some r1) fun _ =>
  some (-1)
theorem sOccurrenceIndex_ok {a0 : (List Occurrence)} {a1 : Occurrence} {r : Int} (hr : sOccurrenceIndex_m a0 a1 = some r) {F0 : Nat → Prop} {w0 : World} {z0 : Value} (ha0 : rdS F0 w0 a0 z0) {ca1 : List Value} (ha1 : rd F0 w0 a1 ca1) :
    Ret Tryz.prog 55 #[z0, .agg ca1.toArray] w0 (fun _ => False) fun v w => v = .int .i64 r ∧ I64 r := by
  obtain ⟨A0', n0', c0', rfl⟩ := ha0.form3
  have H := ((HL.start F0 w0).argS ha0).argR ha1
  obtain ⟨rfl, hI1, hS1, H⟩ := op_Occurrence H (i := 1) rfl
  refine enter Tryz.func55 rfl rfl rfl ?_
  refine CW.seq (CW.reg ?_)
  refine WL.boxH rfl rfl rfl rfl rfl H fun b1 w1 H => ?_
  refine WL.ev rfl rfl (Ev.as rfl rfl) (WL.nil ?_)
  refine CW.seq (CW.seq (CW.reg ?_))
  refine WL.ev rfl rfl (Ev.as rfl rfl) (WL.nil ?_)
  obtain ⟨q1, hq1, hr⟩ := bd hr
  refine CW.block (CW.loop (α := Nat) (fun k1 => [(0, .slice A0' n0' c0'), (3, .pointer (some ⟨b1, 0, none⟩)), (5, .int .i64 (k1 : Int))]) (fun k1 w => k1 ≤ a0.length ∧ findL (sOccurrenceIndex_L1 a1) k1 (a0.drop k1) () = some q1 ∧ HL F0 [] w0 w [Pr.S a0 (.slice A0' n0' c0'), Pr.R a1 [.int .i64 a1.Pos, .string a1.Name]] [It.B b1 90 [.int .i64 a1.Pos, .string a1.Name]]) (fun k1 => a0.length - k1) 0 ⟨rfl, rfl, rfl, trivial⟩ ⟨Nat.zero_le _, hq1, H.keep 2 1⟩ ?_)
  rintro k1 σ w2 ⟨hk1, hq1, H⟩
  refine CW.seq (CW.seq (CW.reg ?_))
  refine WL.ev rfl rfl (Ev.mv rfl rfl) (WL.ev rfl rfl (Ev.mv rfl rfl) ?_)
  have hl1 := (H.rS (i := 0) rfl).I
  refine WL.ev rfl rfl (Ev.lenV rfl el76 rfl (H.rS (i := 0) rfl)) (WL.ev rfl rfl (Ev.bin rfl rfl rfl Bin.lss) (WL.nil ?_))
  refine CW.condD rfl (fun h1 => ?_) (fun h1 => ?_)
  · skip
    have hk2 := cast_lt h1
    obtain ⟨x1, z1, hx1, hb1, hs1, ht1⟩ := findL_go hq1 hk2
    refine CW.skip ?_
    refine CW.seq (CW.block (CW.seq (CW.quiet hmix (by kernel_rfl) ?_)))
    refine QL.ev rfl rfl (fun _ _ => Ev.mv rfl rfl) (QL.ev rfl rfl (fun _ _ => Ev.mv rfl rfl) ?_)
    obtain ⟨b2, ob2, cb2, hvb2, hI2, hS2, H⟩ := ixS_Occurrence H (i := 0) rfl hx1
    refine QL.ev rfl rfl (fun _ _ => Ev.ixVN rfl el76 sz90 rfl hvb2 rfl (lt_of hx1)) (QL.ev rfl rfl (fun _ hq => Ev.lda rfl ag90 sz90 rfl ((H.ext hq).rA (i := 2) rfl) rfl) (QL.ev rfl rfl (fun _ hq => Ev.lda rfl ag90 sz90 rfl (At.blk ((H.ext hq).rB (i := 0) rfl)) rfl) (QL.ev rfl rfl (fun _ _ => Ev.bin rfl rfl rfl (Bin.eqlF fl90 (Occurrence_eqF x1 a1))) (QL.nil (fun w3 hE => ?_)))))
    have H := H.ext hE
    refine CW.condD rfl (fun h2 => ?_) (fun h2 => ?_)
    · skip
      have hb1 := ifp h2 hb1
      refine CW.seq (CW.reg ?_)
      refine WL.ev rfl rfl (Ev.mv rfl rfl) (WL.ev rfl rfl (Ev.as rfl rfl) (WL.nil ?_))
      refine CW.ret ?_
      obtain rfl := sm hb1
      obtain rfl := ht1 _ rfl
      obtain rfl := sm hr
      exact ⟨_, res1 rfl rfl rfl, H.ext0, rfl, (i64_nat hk2 hl1)⟩
    · skip
      have hb1 := ifn h2 hb1
      refine CW.skip ?_
      refine CW.reg ?_
      refine WL.ev rfl rfl (Ev.mv rfl rfl) (WL.ev rfl rfl (Ev.bin rfl rfl rfl (Bin.addN (a := k1) (b := 1) rfl (i64_succN hk2 hl1.2))) (WL.ev rfl rfl (Ev.as rfl rfl) (WL.nil ?_)))
      obtain rfl := sm hb1
      have hq1 := hs1 _ rfl
      exact ⟨(k1 + 1), ⟨rfl, rfl, rfl, trivial⟩, ⟨hk2, hq1, H.keep 2 1⟩, Nat.sub_lt_sub_left hk2 (Nat.lt_succ_self _)⟩
  · skip
    obtain rfl := findL_end hq1 (not_cast_lt h1)
    refine CW.exit ?_
    refine CW.seq (CW.reg ?_)
    refine WL.ev rfl rfl (Ev.as rfl rfl) (WL.nil ?_)
    refine CW.ret ?_
    obtain rfl := sm hr
    exact ⟨_, res1 rfl rfl rfl, H.ext0, rfl, (by decide : I64 (-1))⟩

noncomputable def sl22Copy_m (a0 : Relation) : Option Relation :=
  grd (((([] : List Int).length : Int) + (a0.Rows.length : Int)) * 8 ≤ 140737488355328 ∧ (([] : List Int).length : Int) + (a0.Rows.length : Int) ≤ 9223372036854775807) <|
  some a0
theorem sl22Copy_ok {a0 : Relation} {r : Relation} (hr : sl22Copy_m a0 = some r) {F0 : Nat → Prop} {w0 : World} {ca0 : List Value} (ha0 : rd F0 w0 a0 ca0) :
    Ret Tryz.prog 121 #[.agg ca0.toArray] w0 (fun _ => False) fun v w => ∃ A0 : Option Addr, ∃ n0 c0 : Nat, v = .agg #[.int .i64 r.N, (.slice A0 n0 c0)] ∧ I64 r.N ∧ HL F0 [] w0 w [] [It.O 3 r.Rows (.slice A0 n0 c0)] := by
  have H := (HL.start F0 w0).argR ha0
  obtain ⟨A1, n1, c1, rfl, hI1, H⟩ := op_Relation H (i := 0) rfl
  refine enter Tryz.func121 rfl rfl rfl ?_
  refine CW.seq (CW.reg ?_)
  refine WL.boxH rfl rfl rfl rfl rfl H fun b1 w1 H => ?_
  refine WL.allocH rfl rfl rfl ze35 H fun b2 w2 H => ?_
  refine WL.nil ?_
  obtain ⟨hg1, hr⟩ := grd_some hr
  refine CW.seq (CW.any2 6 (fun ρ => [.fix (.pointer (some ⟨b1, 0 + 0, none⟩)), .fix (.int .i64 a0.N), .free (fun _ v _ => ∃ g : Nat, v = .slice (some ⟨g, 0, none⟩) 0 0), .fix (.pointer (some ⟨b1, 0 + 1, none⟩)), .fix (.slice A1 n1 c1), .free (fun S v w => ∃ A : Option Addr, ∃ m c : Nat, v = .slice A m c ∧ NewI S w [It.O 3 a0.Rows (.slice A m c)])]) [[], [], [], [], [], []] NoM (fun _ _ => True) [] [] (noM _) hmix (by kernel_rfl) rfl ⟨trivial, trivial, fun _ _ _ _ _ h _ _ _ => h, trivial, trivial, fun _ _ _ _ _ ⟨A, m, c, h1, h2⟩ hc hS _ => ⟨A, m, c, h1, h2.chgT hc hS⟩, trivial⟩ trivial (fun _ _ _ _ _ _ _ => trivial) ?_)
  refine LL2.fx rfl rfl rfl rfl rfl (fun _ hq hK => Ev.fa rfl fo35_0 rfl) ?_
  refine LL2.fx rfl rfl rfl rfl rfl (fun _ hq hK => Ev.ld rfl ag3 rfl (((H.ext hq).rB (i := 0) rfl).cell rfl)) ?_
  refine LL2.free rfl rfl rfl rfl (fun wq hq hK => OpX.lit0N rfl rfl el33 sz3 fun g w hE => ⟨hE, g, rfl⟩) (fun v_G1_2 S_G1_2 => ?_)
  refine LL2.fx rfl rfl rfl rfl rfl (fun _ hq hK => Ev.fa rfl fo35_1 rfl) ?_
  refine LL2.fx rfl rfl rfl rfl rfl (fun _ hq hK => Ev.ld rfl ag33 rfl (((H.ext hq).rB (i := 0) rfl).cell rfl)) ?_
  refine LL2.free rfl rfl rfl rfl (fun wq hq hK => ?_) (fun v_G1_5 S_G1_5 => ?_)
  · obtain ⟨g, e⟩ : ∃ g : Nat, v_G1_2 = .slice (some ⟨g, 0, none⟩) 0 0 := hK 2 rfl
    subst e
    exact OpX.appN rfl rfl el33 sz3 by3 ze3 rfl rfl rfl ((H.ext hq).rS (i := 1) rfl) hg1 fun A m c w hE h => ⟨hE, A, m, c, rfl, h⟩
  intro w3 hE _ hK hap hbd
  have hE := chgNew hE
  obtain ⟨g1, rfl⟩ := hK 2 (by decide)
  obtain ⟨A2, n2, c2, rfl, hN1⟩ := hK 5 (by decide)
  have H := H.add hE hN1 ⟨fun _ _ _ _ _ h => h, trivial⟩ (fun q hq => (hbd 5 q hq).1)
  have H := H.lit0 (α := Int) 3 (some ⟨g1, 0, none⟩)
  refine WL.ev rfl rfl (Ev.build rfl pl35 ze35 rfl rfl rfl rfl) ?_
  refine WL.stB (i := 1) rfl rfl rfl sz35 rfl rfl rfl rfl (all1 rfl (all1 rfl all0)) H rfl rfl rfl fun w4 H => ?_
  refine WL.nil ?_
  refine CW.ret ?_
  obtain rfl := sm hr
  exact ⟨_, resC rfl ag35 sz35 rfl rfl (At.blk (H.rB (i := 1) rfl)) rfl, H.ext0, _, _, _, rfl, hI1, H.outM (fr' := []) [false, false, true, false] fun _ _ => trivial⟩

noncomputable def sIsValidRelation_L1 (a0 : Relation) : Nat → Unit → Option (Unit ⊕ Bool) := fun k1 _ => 
  (a0.Rows[k1]?).bind fun x1 =>
  grd (0 ≤ a0.N) <|
  grd (0 ≤ a0.N ∧ a0.N < 63) <|
  (sl1In_m x1 0 (((2 ^ a0.N.toNat : Nat) : Int) - 1)).bind fun y2 =>
  if y2 = true then (
  some (.inl ())
  ) else (
  some (.inr false)
  )
noncomputable def sIsValidRelation_m (a0 : Relation) : Option Bool :=
  (sl1In_m a0.N 0 16).bind fun y1 =>
  if y1 = true then (
  if (a0.Rows.length : Int) = a0.N then (
  (findN (sIsValidRelation_L1 a0) 0 (a0.N.toNat) ()).bind <| onr (fun r1 => some r1) fun _ =>
  some true
  ) else (
  some false
  )
  ) else (
  some false
  )
theorem sIsValidRelation_ok {a0 : Relation} {r : Bool} (hr : sIsValidRelation_m a0 = some r) {F0 : Nat → Prop} {w0 : World} {ca0 : List Value} (ha0 : rd F0 w0 a0 ca0) :
    Ret Tryz.prog 105 #[.agg ca0.toArray] w0 (fun _ => False) fun v w => v = .bool r := by
  have H := (HL.start F0 w0).argR ha0
  obtain ⟨A1, n1, c1, rfl, hI1, H⟩ := op_Relation H (i := 0) rfl
  refine enter Tryz.func105 rfl rfl rfl ?_
  refine CW.seq (CW.reg ?_)
  refine WL.boxH rfl rfl rfl rfl rfl H fun b1 w1 H => ?_
  refine WL.ev rfl rfl (Ev.as rfl rfl) (WL.nil ?_)
  refine CW.seq (CW.seq (CW.reg ?_))
  refine WL.ev rfl rfl (Ev.fa rfl fo35_0 rfl) (WL.ev rfl rfl (Ev.ld rfl ag3 rfl ((H.rB (i := 0) rfl).cell rfl)) ?_)
  obtain ⟨y1, hy1, hr⟩ := bd hr
  refine WL.call rfl rfl rfl rfl rfl ok108 rfl (sl1In_ok hy1 (F0 := fun _ => False) hI1 (by decide : I64 0) (by decide : I64 16)) ?_
  rintro _ w2 hE rfl
  have H := H.ext hE
  refine WL.ev rfl rfl (Ev.not rfl rfl) ?_
  refine WL.mvBN rfl rfl rfl rfl (fun h1 => ?_) (fun h1 => ?_)
  · skip
    have hr := ifn h1 hr
    refine WL.off rfl rfl rfl (WL.off rfl rfl rfl (WL.off rfl rfl rfl (WL.off rfl rfl rfl (WL.off rfl rfl rfl (WL.off rfl rfl rfl (WL.ev rfl rfl (Ev.pickT rfl rfl rfl) (WL.nil ?_)))))))
    refine CW.condT rfl ?_
    refine CW.seq (CW.reg ?_)
    refine WL.ev rfl rfl (Ev.as rfl rfl) (WL.nil ?_)
    refine CW.ret ?_
    obtain rfl := sm hr
    exact ⟨_, res1 rfl rfl rfl, H.ext0, rfl⟩
  · skip
    have hr := ifp h1 hr
    refine WL.on rfl rfl (WL.ev rfl rfl (Ev.fa rfl fo35_1 rfl) (WL.on rfl rfl (WL.ev rfl rfl (Ev.ld rfl ag33 rfl ((H.rB (i := 0) rfl).cell rfl)) (WL.on rfl rfl ?_))))
    have hl1 := (H.rS (i := 1) rfl).I
    refine WL.ev rfl rfl (Ev.lenV rfl el33 rfl (H.rS (i := 1) rfl)) (WL.on rfl rfl (WL.ev rfl rfl (Ev.fa rfl fo35_0 rfl) (WL.on rfl rfl (WL.ev rfl rfl (Ev.ld rfl ag3 rfl ((H.rB (i := 0) rfl).cell rfl)) (WL.on rfl rfl (WL.ev rfl rfl (Ev.bin rfl rfl rfl Bin.neq) (WL.ev rfl rfl (Ev.pickF rfl rfl rfl) (WL.nil ?_))))))))
    refine CW.condN rfl (fun h2 => ?_) (fun h2 => ?_)
    · skip
      have hr := ifn h2 hr
      refine CW.seq (CW.reg ?_)
      refine WL.ev rfl rfl (Ev.as rfl rfl) (WL.nil ?_)
      refine CW.ret ?_
      obtain rfl := sm hr
      exact ⟨_, res1 rfl rfl rfl, H.ext0, rfl⟩
    · skip
      have hr := ifp h2 hr
      refine CW.skip ?_
      refine CW.seq (CW.seq (CW.reg ?_))
      refine WL.ev rfl rfl (Ev.as rfl rfl) (WL.nil ?_)
      obtain ⟨q1, hq1, hr⟩ := bd hr
      refine CW.block (CW.loop (α := Nat) (fun k1 => [(1, .pointer (some ⟨b1, 0, none⟩)), (3, .int .i64 (k1 : Int))]) (fun k1 w => k1 ≤ a0.N.toNat ∧ findN (sIsValidRelation_L1 a0) k1 (a0.N.toNat - k1) () = some q1 ∧ HL F0 [] w0 w [Pr.R a0 [.int .i64 a0.N, .slice A1 n1 c1], Pr.S a0.Rows (.slice A1 n1 c1)] [It.B b1 35 [.int .i64 a0.N, .slice A1 n1 c1]]) (fun k1 => a0.N.toNat - k1) 0 ⟨rfl, rfl, trivial⟩ ⟨Nat.zero_le _, hq1, H.keep 2 1⟩ ?_)
      rintro k1 σ w3 ⟨hk1, hq1, H⟩
      refine CW.seq (CW.seq (CW.reg ?_))
      refine WL.ev rfl rfl (Ev.mv rfl rfl) (WL.ev rfl rfl (Ev.fa rfl fo35_0 rfl) (WL.ev rfl rfl (Ev.ld rfl ag3 rfl ((H.rB (i := 0) rfl).cell rfl)) (WL.ev rfl rfl (Ev.bin rfl rfl rfl Bin.lss) (WL.nil ?_))))
      refine CW.condD rfl (fun h3 => ?_) (fun h3 => ?_)
      · skip
        have hk2 := toNat_lt h3
        obtain ⟨z1, hb1, hs1, ht1⟩ := findN_go hq1 hk2
        refine CW.skip ?_
        refine CW.seq (CW.block (CW.seq (CW.quiet hmix (by kernel_rfl) ?_)))
        refine QL.ev rfl rfl (fun _ _ => Ev.fa rfl fo35_1 rfl) (QL.ev rfl rfl (fun _ hq => Ev.ld rfl ag33 rfl (((H.ext hq).rB (i := 0) rfl).cell rfl)) (QL.ev rfl rfl (fun _ _ => Ev.mv rfl rfl) ?_))
        obtain ⟨x1, hx1, hb1⟩ := bd hb1
        obtain ⟨b2, ob2, cb2, hvb2, hI2, H⟩ := ixS_Int H (i := 1) rfl hx1
        refine QL.ev rfl rfl (fun _ _ => Ev.ixVN rfl el33 sz3 rfl hvb2 rfl (lt_of hx1)) (QL.ev rfl rfl (fun _ hq => Ev.ld rfl ag3 rfl (((H.ext hq).rA (i := 2) rfl).cell0 rfl)) (QL.ev rfl rfl (fun _ _ => Ev.fa rfl fo35_0 rfl) (QL.ev rfl rfl (fun _ hq => Ev.ld rfl ag3 rfl (((H.ext hq).rB (i := 0) rfl).cell rfl)) ?_)))
        obtain ⟨hg1, hb1⟩ := grd_some hb1
        refine QL.ev rfl rfl (fun _ _ => Ev.convUI rfl Tryz.underlying3 it168 rfl hg1 hI1.2) ?_
        obtain ⟨hg2, hb1⟩ := grd_some hb1
        refine QL.ev rfl rfl (fun _ _ => Ev.bin rfl rfl rfl (Bin.shlI hg2.1 hg2.2)) (QL.ev rfl rfl (fun _ _ => Ev.bin rfl rfl rfl (Bin.sub (i64_sub (k := 1) (i64_pow hg2.2) (by decide)))) ?_)
        obtain ⟨y2, hy2, hb1⟩ := bd hb1
        refine QL.call rfl rfl rfl rfl rfl ok108 rfl (fun _ hq => sl1In_ok hy2 (F0 := fun _ => False) hI2 (by decide : I64 0) (i64_sub (k := 1) (i64_pow hg2.2) (by decide))) ?_
        refine QL.ev rfl rfl (fun _ _ => Ev.not rfl rfl) (QL.nil (fun w4 hE => ?_))
        have H := H.ext hE
        refine CW.condBN rfl (fun h4 => ?_) (fun h4 => ?_)
        · skip
          have hb1 := ifn h4 hb1
          refine CW.seq (CW.reg ?_)
          refine WL.ev rfl rfl (Ev.as rfl rfl) (WL.nil ?_)
          refine CW.ret ?_
          obtain rfl := sm hb1
          obtain rfl := ht1 _ rfl
          obtain rfl := sm hr
          exact ⟨_, res1 rfl rfl rfl, H.ext0, rfl⟩
        · skip
          have hb1 := ifp h4 hb1
          refine CW.skip ?_
          refine CW.reg ?_
          refine WL.ev rfl rfl (Ev.mv rfl rfl) (WL.ev rfl rfl (Ev.bin rfl rfl rfl (Bin.addN (a := k1) (b := 1) rfl (i64_succNI h3 hI1.2))) (WL.ev rfl rfl (Ev.as rfl rfl) (WL.nil ?_)))
          obtain rfl := sm hb1
          have hq1 := hs1 _ rfl
          exact ⟨(k1 + 1), ⟨rfl, rfl, trivial⟩, ⟨hk2, hq1, H.keep 2 1⟩, Nat.sub_lt_sub_left hk2 (Nat.lt_succ_self _)⟩
      · skip
        obtain rfl := findN_end hq1 (not_toNat_lt h3)
        refine CW.exit ?_
        refine CW.seq (CW.reg ?_)
        refine WL.ev rfl rfl (Ev.as rfl rfl) (WL.nil ?_)
        refine CW.ret ?_
        obtain rfl := sm hr
        exact ⟨_, res1 rfl rfl rfl, H.ext0, rfl⟩

noncomputable def sAddPair_m (a0 : Relation) (a1 : Int) (a2 : Int) : Option Relation :=
  (sl22Copy_m a0).bind fun y1 =>
  (sIsValidRelation_m a0).bind fun y2 =>
  (
  if y2 = true then (
  grd (I64 (a0.N - 1)) <|
  (sl1In_m a1 0 (a0.N - 1)).bind fun y3 =>
  some y3
  ) else (
  some false
  )
  ).bind fun s1 =>
  (
  if s1 = true then (
  grd (I64 (a0.N - 1)) <|
  (sl1In_m a2 0 (a0.N - 1)).bind fun y4 =>
  some y4
  ) else (
  some false
  )
  ).bind fun s2 =>
  if s2 = true then (
  grd (0 ≤ a1) <|
  (y1.Rows[a1.toNat]?).bind fun x1 =>
  grd (0 ≤ a2) <|
  grd (0 ≤ a2 ∧ a2 < 63) <|
  grd (0 ≤ x1 ∧ 0 ≤ ((2 ^ a2.toNat : Nat) : Int)) <|
  some (⟨y1.N, (List.set y1.Rows a1.toNat ((x1.toNat ||| ((2 ^ a2.toNat : Nat) : Int).toNat : Nat) : Int))⟩ : Relation)
  ) else (
  some y1
  )
theorem sAddPair_ok {a0 : Relation} {a1 : Int} {a2 : Int} {r : Relation} (hr : sAddPair_m a0 a1 a2 = some r) {F0 : Nat → Prop} {w0 : World} {ca0 : List Value} (ha0 : rd F0 w0 a0 ca0) (ha1 : I64 a1) (ha2 : I64 a2) :
    Ret Tryz.prog 54 #[.agg ca0.toArray, .int .i64 a1, .int .i64 a2] w0 (fun _ => False) fun v w => ∃ A0 : Option Addr, ∃ n0 c0 : Nat, v = .agg #[.int .i64 r.N, (.slice A0 n0 c0)] ∧ I64 r.N ∧ HL F0 [] w0 w [] [It.O 3 r.Rows (.slice A0 n0 c0)] := by
  have H := (HL.start F0 w0).argR ha0
  obtain ⟨A1, n1, c1, rfl, hI1, H⟩ := op_Relation H (i := 0) rfl
  refine enter Tryz.func54 rfl rfl rfl ?_
  refine CW.seq (CW.reg ?_)
  refine WL.boxH rfl rfl rfl rfl rfl H fun b1 w1 H => ?_
  refine WL.allocH rfl rfl rfl ze35 H fun b2 w2 H => ?_
  refine WL.nil ?_
  refine CW.seq (CW.reg ?_)
  refine WL.ev rfl rfl (Ev.lda rfl ag35 sz35 rfl (At.blk (H.rB (i := 0) rfl)) rfl) ?_
  obtain ⟨y1, hy1, hr⟩ := bd hr
  refine WL.call rfl rfl rfl rfl rfl ok121 rfl (sl22Copy_ok hy1 ⟨_, rfl, hI1, (H.rS (i := 1) rfl)⟩) ?_
  rintro _ w3 hE ⟨A2, n2, c2, rfl, hI2, H'⟩
  have H := H.callA H' ⟨fun _ _ _ _ _ h => h, trivial⟩
  refine WL.allocH rfl rfl rfl ze35 H fun b3 w4 H => ?_
  refine WL.stB (i := 3) rfl rfl rfl sz35 rfl rfl rfl rfl (all1 rfl (all1 rfl all0)) H rfl rfl rfl fun w5 H => ?_
  refine WL.nil ?_
  refine CW.seq (CW.seq (CW.reg ?_))
  refine WL.ev rfl rfl (Ev.lda rfl ag35 sz35 rfl (At.blk (H.rB (i := 0) rfl)) rfl) ?_
  obtain ⟨y2, hy2, hr⟩ := bd hr
  refine WL.call rfl rfl rfl rfl rfl ok105 rfl (sIsValidRelation_ok hy2 ⟨_, rfl, hI1, (H.rS (i := 1) rfl)⟩) ?_
  rintro _ w6 hE rfl
  have H := H.ext hE
  obtain ⟨q1, hm1, hr⟩ := bd hr
  refine WL.cut 7 (fun ρ' w => ∃ (s1 : Bool), s1 = q1 ∧ agree ρ' [(1, .int .i64 a1), (2, .int .i64 a2), (3, .pointer (some ⟨b1, 0, none⟩)), (6, .pointer (some ⟨b2, 0, none⟩)), (7, .pointer (some ⟨b3, 0, none⟩)), (18, .bool s1)] ∧ HL F0 [] w0 w [Pr.R a0 [.int .i64 a0.N, .slice A1 n1 c1], Pr.S a0.Rows (.slice A1 n1 c1)] [It.B b1 35 [.int .i64 a0.N, .slice A1 n1 c1], It.B b2 35 [.int .i64 0, .slice none 0 0], It.O 3 y1.Rows (.slice A2 n2 c2), It.B b3 35 [.int .i64 y1.N, .slice A2 n2 c2]]) ?_ ?_
  · skip
    refine WL.mvB rfl rfl rfl rfl (fun h1 => ?_) (fun h1 => ?_)
    · skip
      have hm1 := ifp h1 hm1
      refine WL.on rfl rfl (WL.ev rfl rfl (Ev.mv rfl rfl) (WL.on rfl rfl (WL.ev rfl rfl (Ev.fa rfl fo35_0 rfl) (WL.on rfl rfl (WL.ev rfl rfl (Ev.ld rfl ag3 rfl ((H.rB (i := 0) rfl).cell rfl)) (WL.on rfl rfl ?_))))))
      obtain ⟨hg1, hm1⟩ := grd_some hm1
      refine WL.ev rfl rfl (Ev.bin rfl rfl rfl (Bin.sub hg1)) (WL.on rfl rfl ?_)
      obtain ⟨y3, hy3, hm1⟩ := bd hm1
      refine WL.call rfl rfl rfl rfl rfl ok108 rfl (sl1In_ok hy3 (F0 := fun _ => False) ha1 (by decide : I64 0) hg1) ?_
      rintro _ w7 hE rfl
      have H := H.ext hE
      refine WL.ev rfl rfl (Ev.pickT rfl rfl rfl) (WL.nil ?_)
      obtain rfl := sm hm1
      exact ⟨y3, rfl, ⟨rfl, rfl, rfl, rfl, rfl, rfl, trivial⟩, H.keep 2 4⟩
    · skip
      have hm1 := ifn h1 hm1
      refine WL.off rfl rfl rfl (WL.off rfl rfl rfl (WL.off rfl rfl rfl (WL.off rfl rfl rfl (WL.off rfl rfl rfl (WL.ev rfl rfl (Ev.pickF rfl rfl rfl) (WL.nil ?_))))))
      obtain rfl := sm hm1
      exact ⟨false, rfl, ⟨rfl, rfl, rfl, rfl, rfl, rfl, trivial⟩, H.keep 2 4⟩
  · rintro ρ' w8 ⟨s1, rfl, hag, H⟩
    obtain ⟨σ, rfl⟩ := ofL_ex hag
    obtain ⟨q2, hm2, hr⟩ := bd hr
    refine WL.cut 7 (fun ρ' w => ∃ (s2 : Bool), s2 = q2 ∧ agree ρ' [(1, .int .i64 a1), (2, .int .i64 a2), (6, .pointer (some ⟨b2, 0, none⟩)), (7, .pointer (some ⟨b3, 0, none⟩)), (25, .bool s2)] ∧ HL F0 [] w0 w [Pr.R a0 [.int .i64 a0.N, .slice A1 n1 c1], Pr.S a0.Rows (.slice A1 n1 c1)] [It.B b1 35 [.int .i64 a0.N, .slice A1 n1 c1], It.B b2 35 [.int .i64 0, .slice none 0 0], It.O 3 y1.Rows (.slice A2 n2 c2), It.B b3 35 [.int .i64 y1.N, .slice A2 n2 c2]]) ?_ ?_
    · skip
      refine WL.mvB rfl rfl rfl rfl (fun h2 => ?_) (fun h2 => ?_)
      · skip
        have hm2 := ifp h2 hm2
        refine WL.on rfl rfl (WL.ev rfl rfl (Ev.mv rfl rfl) (WL.on rfl rfl (WL.ev rfl rfl (Ev.fa rfl fo35_0 rfl) (WL.on rfl rfl (WL.ev rfl rfl (Ev.ld rfl ag3 rfl ((H.rB (i := 0) rfl).cell rfl)) (WL.on rfl rfl ?_))))))
        obtain ⟨hg2, hm2⟩ := grd_some hm2
        refine WL.ev rfl rfl (Ev.bin rfl rfl rfl (Bin.sub hg2)) (WL.on rfl rfl ?_)
        obtain ⟨y4, hy4, hm2⟩ := bd hm2
        refine WL.call rfl rfl rfl rfl rfl ok108 rfl (sl1In_ok hy4 (F0 := fun _ => False) ha2 (by decide : I64 0) hg2) ?_
        rintro _ w9 hE rfl
        have H := H.ext hE
        refine WL.ev rfl rfl (Ev.pickT rfl rfl rfl) (WL.nil ?_)
        obtain rfl := sm hm2
        exact ⟨y4, rfl, ⟨rfl, rfl, rfl, rfl, rfl, trivial⟩, H.keep 2 4⟩
      · skip
        have hm2 := ifn h2 hm2
        refine WL.off rfl rfl rfl (WL.off rfl rfl rfl (WL.off rfl rfl rfl (WL.off rfl rfl rfl (WL.off rfl rfl rfl (WL.ev rfl rfl (Ev.pickF rfl rfl rfl) (WL.nil ?_))))))
        obtain rfl := sm hm2
        exact ⟨false, rfl, ⟨rfl, rfl, rfl, rfl, rfl, trivial⟩, H.keep 2 4⟩
    · rintro ρ' w10 ⟨s2, rfl, hag, H⟩
      obtain ⟨σ, rfl⟩ := ofL_ex hag
      refine WL.nil ?_
      refine CW.condB rfl (fun h3 => ?_) (fun h3 => ?_)
      · skip
        have hr := ifp h3 hr
        refine CW.quietT 13 hmix (by kernel_rfl) ?_
        refine QL.ev rfl rfl (fun _ _ => Ev.fa rfl fo35_1 rfl) (QL.ev rfl rfl (fun _ hq => Ev.ld rfl ag33 rfl (((H.ext hq).rB (i := 3) rfl).cell rfl)) (QL.ev rfl rfl (fun _ _ => Ev.mv rfl rfl) (QL.ev rfl rfl (fun _ _ => Ev.fa rfl fo35_1 rfl) (QL.ev rfl rfl (fun _ hq => Ev.ld rfl ag33 rfl (((H.ext hq).rB (i := 3) rfl).cell rfl)) (QL.ev rfl rfl (fun _ _ => Ev.mv rfl rfl) ?_)))))
        obtain ⟨hg3, hr⟩ := grd_some hr
        obtain ⟨x1, hx1, hr⟩ := bd hr
        obtain ⟨b4, cb4, hvb4, hbb4⟩ := H.ptO (i := 2) rfl hx1
        refine QL.ev rfl rfl (fun _ _ => Ev.ixV rfl el33 sz3 rfl hvb4 rfl hg3 (lt_of hx1)) ?_
        obtain ⟨hA1, hI3, H⟩ := elO_Int H (i := 2) rfl hx1 hbb4
        refine QL.ev rfl rfl (fun _ hq => Ev.ld rfl ag3 rfl ((hA1.ext hq).cell0 rfl)) (QL.ev rfl rfl (fun _ _ => Ev.mv rfl rfl) ?_)
        obtain ⟨hg4, hr⟩ := grd_some hr
        refine QL.ev rfl rfl (fun _ _ => Ev.convUI rfl Tryz.underlying3 it168 rfl hg4 ha2.2) ?_
        obtain ⟨hg5, hr⟩ := grd_some hr
        refine QL.ev rfl rfl (fun _ _ => Ev.bin rfl rfl rfl (Bin.shlI hg5.1 hg5.2)) ?_
        obtain ⟨hg6, hr⟩ := grd_some hr
        refine QL.ev rfl rfl (fun _ _ => Ev.bin rfl rfl rfl (Bin.orI hg6.1 hI3.2 hg6.2 (i64_pow hg5.2).2)) ?_
        obtain ⟨b5, cb5, hvb5, hbb5⟩ := H.ptO (i := 2) rfl hx1
        refine QL.ev rfl rfl (fun _ _ => Ev.ixV rfl el33 sz3 rfl hvb5 rfl hg3 (lt_of hx1)) (QL.nil (fun w11 hE => ?_))
        have H := H.ext hE
        refine WL.stOf (i := 2) (z := ((x1.toNat ||| ((2 ^ a2.toNat : Nat) : Int).toNat : Nat) : Int)) rfl rfl rfl sz3 rfl rfl rfl (fun _ => ⟨rfl, rfl, (i64_or hg6 hI3 (i64_pow hg5.2))⟩) H rfl hbb5 (by simpa using lt_of hx1) fun w12 H => ?_
        refine WL.nil ?_
        refine CW.seq (CW.reg ?_)
        refine WL.ev rfl rfl (Ev.lda rfl ag35 sz35 rfl (At.blk (H.rB (i := 3) rfl)) rfl) ?_
        refine WL.stB (i := 1) rfl rfl rfl sz35 rfl rfl rfl rfl (all1 rfl (all1 rfl all0)) H rfl rfl rfl fun w13 H => ?_
        refine WL.nil ?_
        refine CW.ret ?_
        obtain rfl := sm hr
        exact ⟨_, resC rfl ag35 sz35 rfl rfl (At.blk (H.rB (i := 1) rfl)) rfl, H.ext0, _, _, _, rfl, hI2, H.outM (fr' := []) [false, false, true, false] fun _ _ => trivial⟩
      · skip
        have hr := ifn h3 hr
        refine CW.skip ?_
        refine CW.seq (CW.reg ?_)
        refine WL.ev rfl rfl (Ev.lda rfl ag35 sz35 rfl (At.blk (H.rB (i := 3) rfl)) rfl) ?_
        refine WL.stB (i := 1) rfl rfl rfl sz35 rfl rfl rfl rfl (all1 rfl (all1 rfl all0)) H rfl rfl rfl fun w14 H => ?_
        refine WL.nil ?_
        refine CW.ret ?_
        obtain rfl := sm hr
        exact ⟨_, resC rfl ag35 sz35 rfl rfl (At.blk (H.rB (i := 1) rfl)) rfl, H.ext0, _, _, _, rfl, hI2, H.outM (fr' := []) [false, false, true, false] fun _ _ => trivial⟩

noncomputable def sLocalRelation_L2 (y1 : (List Occurrence)) (s3 : Int) : Nat → Occurrence → ((List Int) × Int) → Option ((List Int) × Int) := fun k1 x2 (s8, s9) => 
  (sOccurrenceIndex_m y1 x2).bind fun y6 =>
  (sAddPair_m (⟨s9, s8⟩ : Relation) y6 s3).bind fun y7 =>
  some (y7.Rows, y7.N)
noncomputable def sLocalRelation_L1 (a1 : Rule) (y1 : (List Occurrence)) : (Int × (List Int) × Int) → Option ((Int × (List Int) × Int) ⊕ ((List Int) × Int)) := fun (s3, s4, s5) => 
  if s3 < (y1.length : Int) then (
  if 0 < s5 then (
  (
  grd (0 ≤ s3) <|
  (y1[s3.toNat]?).bind fun x1 =>
  (sFindEquation_m a1 x1).bind fun (y3, y4) =>
  if y4 = true then (
  (sAttributeUses_m y3).bind fun y5 =>
  (eachL (sLocalRelation_L2 y1 s3) 0 y5 (s4, s5)).bind fun (s8, s9) =>
  some (s8, s9)
  ) else (
  some (s4, s5)
  )
  ).bind fun (s6, s7) =>
  grd (I64 (s3 + 1)) <|
  some (.inl ((s3 + 1), s6, s7))
  ) else (
  some (.inr (s4, s5))
  )
  ) else (
  some (.inr (s4, s5))
  )
noncomputable def sLocalRelation_m (a0 : Grammar) (a1 : Rule) : Option Relation :=
  (sOccurrencesOf_m a0 a1).bind fun y1 =>
  (sEmptyRelation_m (y1.length : Int)).bind fun y2 =>
  (
  iterO (sLocalRelation_L1 a1 y1) (0, y2.Rows, y2.N)
  ).bind fun (s1, s2) =>
  some (⟨s2, s1⟩ : Relation)
theorem sLocalRelation_ok {a0 : Grammar} {a1 : Rule} {r : Relation} (hr : sLocalRelation_m a0 a1 = some r) {F0 : Nat → Prop} {w0 : World} {ca0 : List Value} (ha0 : rd F0 w0 a0 ca0) {ca1 : List Value} (ha1 : rd F0 w0 a1 ca1) :
    Ret Tryz.prog 9 #[.agg ca0.toArray, .agg ca1.toArray] w0 (fun _ => False) fun v w => ∃ A0 : Option Addr, ∃ n0 c0 : Nat, v = .agg #[.int .i64 r.N, (.slice A0 n0 c0)] ∧ I64 r.N ∧ HL F0 [] w0 w [] [It.O 3 r.Rows (.slice A0 n0 c0)] := by
  have H := ((HL.start F0 w0).argR ha0).argR ha1
  obtain ⟨A1, n1, c1, A2, n2, c2, rfl, H⟩ := op_Grammar H (i := 0) rfl
  obtain ⟨A3, n3, c3, A4, n4, c4, A5, n5, c5, rfl, hS1, hS2, H⟩ := op_Rule H (i := 1) rfl
  refine enter Tryz.func9 rfl rfl rfl ?_
  refine CW.seq (CW.reg ?_)
  refine WL.boxH rfl rfl rfl rfl rfl H fun b1 w1 H => ?_
  refine WL.boxH rfl rfl rfl rfl rfl H fun b2 w2 H => ?_
  refine WL.allocH rfl rfl rfl ze35 H fun b3 w3 H => ?_
  refine WL.nil ?_
  refine CW.seq (CW.reg ?_)
  refine WL.ev rfl rfl (Ev.lda rfl ag40 sz40 rfl (At.blk (H.rB (i := 0) rfl)) rfl) (WL.ev rfl rfl (Ev.lda rfl ag45 sz45 rfl (At.blk (H.rB (i := 1) rfl)) rfl) ?_)
  obtain ⟨y1, hy1, hr⟩ := bd hr
  refine WL.call rfl rfl rfl rfl rfl ok40 rfl (sOccurrencesOf_ok hy1 ⟨_, _, rfl, (H.rS (i := 2) rfl), (H.rS (i := 3) rfl)⟩ ⟨_, _, _, rfl, hS1, hS2, (H.rS (i := 4) rfl), (H.rS (i := 5) rfl), (H.rS (i := 6) rfl)⟩) ?_
  rintro _ w4 hE ⟨A6, n6, c6, rfl, H'⟩
  have H := H.callA H' ⟨fun _ _ _ _ _ h => h, trivial⟩
  refine WL.ev rfl rfl (Ev.as rfl rfl) (WL.nil ?_)
  refine CW.seq (CW.reg ?_)
  refine WL.ev rfl rfl (Ev.mv rfl rfl) ?_
  have hl1 := (H.rO (i := 3) rfl).I
  refine WL.ev rfl rfl (Ev.lenV rfl el76 rfl (H.rO (i := 3) rfl)) ?_
  obtain ⟨y2, hy2, hr⟩ := bd hr
  refine WL.call rfl rfl rfl rfl rfl ok33 rfl (sEmptyRelation_ok hy2 (F0 := fun _ => False) hl1) ?_
  rintro _ w5 hE ⟨A7, n7, c7, rfl, hI1, H'⟩
  have H := H.callA H' ⟨fun _ _ _ _ _ h => h, trivial⟩
  refine WL.allocH rfl rfl rfl ze35 H fun b4 w6 H => ?_
  refine WL.stB (i := 5) rfl rfl rfl sz35 rfl rfl rfl rfl (all1 rfl (all1 rfl all0)) H rfl rfl rfl fun w7 H => ?_
  refine WL.nil ?_
  refine CW.seq (CW.seq (CW.reg ?_))
  refine WL.ev rfl rfl (Ev.as rfl rfl) (WL.nil ?_)
  obtain ⟨q1, hm1, hr⟩ := bd hr
  refine CW.mid (fun ρ' w => ∃ (s1 : List Int) (s2 : Int) (v1 : Value), q1 = (s1, s2) ∧ agree ρ' [(4, .pointer (some ⟨b3, 0, none⟩)), (6, .pointer (some ⟨b4, 0, none⟩))] ∧ I64 s2 ∧ HL F0 [] w0 w [Pr.R a0 [.slice A1 n1 c1, .slice A2 n2 c2], Pr.R a1 [.string a1.Name, .string a1.Left, .slice A3 n3 c3, .bool a1.Literal, .slice A4 n4 c4, .slice A5 n5 c5], Pr.S a0.Symbols (.slice A1 n1 c1), Pr.S a0.Rules (.slice A2 n2 c2), Pr.S a1.Right (.slice A3 n3 c3), Pr.S a1.Equations (.slice A4 n4 c4), Pr.S a1.Contributions (.slice A5 n5 c5)] [It.B b1 40 [.slice A1 n1 c1, .slice A2 n2 c2], It.B b2 45 [.string a1.Name, .string a1.Left, .slice A3 n3 c3, .bool a1.Literal, .slice A4 n4 c4, .slice A5 n5 c5], It.B b3 35 [.int .i64 0, .slice none 0 0], It.O 90 y1 (.slice A6 n6 c6), It.O 3 s1 v1, It.B b4 35 [.int .i64 s2, v1]]) ?_ ?_
  · skip
    obtain ⟨m1, hq1⟩ := iterO_some.1 hm1
    refine CW.block (CW.loop (α := Nat × Int × (List Int) × Int × Value) (fun ⟨m1, s3, s4, s5, v2⟩ => [(3, .pointer (some ⟨b2, 0, none⟩)), (4, .pointer (some ⟨b3, 0, none⟩)), (5, .slice A6 n6 c6), (6, .pointer (some ⟨b4, 0, none⟩)), (7, .int .i64 s3)]) (fun ⟨m1, s3, s4, s5, v2⟩ w => iterN (sLocalRelation_L1 a1 y1) m1 (s3, s4, s5) = some q1 ∧ I64 s3 ∧ I64 s5 ∧ HL F0 [] w0 w [Pr.R a0 [.slice A1 n1 c1, .slice A2 n2 c2], Pr.R a1 [.string a1.Name, .string a1.Left, .slice A3 n3 c3, .bool a1.Literal, .slice A4 n4 c4, .slice A5 n5 c5], Pr.S a0.Symbols (.slice A1 n1 c1), Pr.S a0.Rules (.slice A2 n2 c2), Pr.S a1.Right (.slice A3 n3 c3), Pr.S a1.Equations (.slice A4 n4 c4), Pr.S a1.Contributions (.slice A5 n5 c5)] [It.B b1 40 [.slice A1 n1 c1, .slice A2 n2 c2], It.B b2 45 [.string a1.Name, .string a1.Left, .slice A3 n3 c3, .bool a1.Literal, .slice A4 n4 c4, .slice A5 n5 c5], It.B b3 35 [.int .i64 0, .slice none 0 0], It.O 90 y1 (.slice A6 n6 c6), It.O 3 s4 v2, It.B b4 35 [.int .i64 s5, v2]]) (fun ⟨m1, s3, s4, s5, v2⟩ => m1) ⟨m1, 0, y2.Rows, y2.N, (.slice A7 n7 c7)⟩ ⟨rfl, rfl, rfl, rfl, rfl, trivial⟩ ⟨hq1, (by decide : I64 0), hI1, H.keep 7 6⟩ ?_)
    rintro ⟨m1, s3, s4, s5, v2⟩ σ w8 ⟨hq1, hI3, hI4, H⟩
    obtain ⟨A8, n8, c8, rfl⟩ := (H.rO (i := 4) rfl).form3
    obtain ⟨m2, z1, rfl, hb1, hs1, ht1⟩ := iterN_go hq1
    refine CW.seq (CW.seq (CW.reg ?_))
    refine WL.ev rfl rfl (Ev.mv rfl rfl) (WL.ev rfl rfl (Ev.mv rfl rfl) (WL.ev rfl rfl (Ev.lenV rfl el76 rfl (H.rO (i := 3) rfl)) (WL.ev rfl rfl (Ev.bin rfl rfl rfl Bin.lss) ?_)))
    refine WL.mvD rfl rfl rfl rfl (fun h1 => ?_) (fun h1 => ?_)
    · skip
      have hb1 := ifp h1 hb1
      refine WL.on rfl rfl (WL.ev rfl rfl (Ev.fa rfl fo35_0 rfl) (WL.on rfl rfl (WL.ev rfl rfl (Ev.ld rfl ag3 rfl ((H.rB (i := 5) rfl).cell rfl)) (WL.on rfl rfl (WL.ev rfl rfl (Ev.bin rfl rfl rfl Bin.gtr) (WL.ev rfl rfl (Ev.pickT rfl rfl rfl) (WL.nil ?_)))))))
      refine CW.condD rfl (fun h2 => ?_) (fun h2 => ?_)
      · skip
        have hb1 := ifp h2 hb1
        refine CW.skip ?_
        obtain ⟨q2, hm2, hb1⟩ := bd hb1
        refine CW.seq (CW.mid (fun ρ' w => ∃ (s6 : List Int) (s7 : Int) (v3 : Value), q2 = (s6, s7) ∧ agree ρ' [(3, .pointer (some ⟨b2, 0, none⟩)), (4, .pointer (some ⟨b3, 0, none⟩)), (5, .slice A6 n6 c6), (6, .pointer (some ⟨b4, 0, none⟩)), (7, .int .i64 s3), (23, .pointer (some ⟨b4, 0 + 0, none⟩)), (24, .int .i64 s5), (25, .bool (decide (0 < s5)))] ∧ I64 s7 ∧ HL F0 [] w0 w [Pr.R a0 [.slice A1 n1 c1, .slice A2 n2 c2], Pr.R a1 [.string a1.Name, .string a1.Left, .slice A3 n3 c3, .bool a1.Literal, .slice A4 n4 c4, .slice A5 n5 c5], Pr.S a0.Symbols (.slice A1 n1 c1), Pr.S a0.Rules (.slice A2 n2 c2), Pr.S a1.Right (.slice A3 n3 c3), Pr.S a1.Equations (.slice A4 n4 c4), Pr.S a1.Contributions (.slice A5 n5 c5)] [It.B b1 40 [.slice A1 n1 c1, .slice A2 n2 c2], It.B b2 45 [.string a1.Name, .string a1.Left, .slice A3 n3 c3, .bool a1.Literal, .slice A4 n4 c4, .slice A5 n5 c5], It.B b3 35 [.int .i64 0, .slice none 0 0], It.O 90 y1 (.slice A6 n6 c6), It.O 3 s6 v3, It.B b4 35 [.int .i64 s7, v3]]) ?_ ?_)
        · skip
          obtain ⟨hg1, hm2⟩ := grd_some hm2
          obtain ⟨x1, hx1, hm2⟩ := bd hm2
          obtain ⟨b5, cb5, hvb5, hbb5⟩ := H.ptO (i := 3) rfl hx1
          obtain ⟨hA1, hI6, hS3, H⟩ := elO_Occurrence H (i := 3) rfl hx1 hbb5
          obtain ⟨⟨y3, y4⟩, hy3, hm2⟩ := bd hm2
          obtain ⟨F_G1, hFl_G1, hF_G1, hcl_G1⟩ := H.callL
          refine CW.block (CW.seq (CW.any2 11 (fun ρ => [.fix (.agg #[.string a1.Name, .string a1.Left, .slice A3 n3 c3, .bool a1.Literal, .slice A4 n4 c4, .slice A5 n5 c5]), .fix (.slice A6 n6 c6), .fix (.int .i64 s3), .fix (.pointer (some ⟨b5, 0 + s3.toNat * 2, none⟩)), .fix (.agg #[.int .i64 x1.Pos, .string x1.Name]), .free (fun S v w => ∃ A9 : Option Addr, ∃ n9 : Nat, ∃ c9 : Nat, v = .tuple #[.agg #[.int .i64 y3.Kind, .int .i64 y3.N, .int .i64 y3.Pos, .int .i64 y3.Type_, .string y3.Symbol, .string y3.Name, .slice A9 n9 c9], .bool y4] ∧ I64 y3.Kind ∧ I64 y3.N ∧ I64 y3.Pos ∧ I64 y3.Type_ ∧ y3.Symbol.size ≤ 9223372036854775807 ∧ y3.Name.size ≤ 9223372036854775807 ∧ NewV F_G1 w8 S w [Pr.S y3.Args (.slice A9 n9 c9)] []), .dep 35 id, .dep 29 (tupAt 0), .dep 29 (tupAt 1), .free (VarB 86 7), .wr 8 36 (WrB 86)]) [[], [], [], [], [], [], [35], [29], [29], [], [8, 36]] NoM (fun _ _ => True) [] [none, none, none, none, none, none, none, none, none, none, some 9] (noM _) hmix (by kernel_rfl) rfl ⟨trivial, trivial, trivial, trivial, trivial, fun _ _ _ _ _ ⟨A9, n9, c9, hv, h0, h1, h2, h3, h4, h5, hh⟩ hc hS hT => ⟨A9, n9, c9, hv, h0, h1, h2, h3, h4, h5, hh.chgT hc hS hT hFl_G1⟩, trivial, trivial, trivial, fun _ _ _ _ _ h hc hS _ => h.chgT hc hS, fun _ _ _ _ _ _ h hc hS _ => h.chgT hc hS, trivial⟩ trivial (fun _ _ _ _ _ _ _ => trivial) ?_))
          refine LL2.fx rfl rfl rfl rfl rfl (fun _ hq hK => Ev.lda rfl ag45 sz45 rfl (At.blk ((H.ext hq).rB (i := 1) rfl)) rfl) ?_
          refine LL2.fx rfl rfl rfl rfl rfl (fun _ hq hK => Ev.mv rfl rfl) ?_
          refine LL2.fx rfl rfl rfl rfl rfl (fun _ hq hK => Ev.mv rfl rfl) ?_
          refine LL2.fx rfl rfl rfl rfl rfl (fun _ hq hK => Ev.ixV rfl el76 sz90 rfl hvb5 rfl hg1 (lt_of hx1)) ?_
          refine LL2.fx rfl rfl rfl rfl rfl (fun _ hq hK => Ev.lda rfl ag90 sz90 rfl (hA1.ext hq) rfl) ?_
          refine LL2.free rfl rfl rfl rfl (fun wq hq hK => ?_) (fun v_G1_5 S_G1_5 => ?_)
          · have hF := hF_G1.ext hq
            refine OpX.call rfl rfl rfl rfl ok45 rfl (sFindEquation_ok hy3 ⟨_, _, _, rfl, hS1, hS2, (hF.get (i := 4) rfl), (hF.get (i := 5) rfl), (hF.get (i := 6) rfl)⟩ ⟨rfl, hI6, hS3⟩) ?_
            rintro _ w hE ⟨A9, n9, c9, rfl, h0, h1, h2, h3, h4, h5, hh⟩
            exact ⟨hE, A9, n9, c9, rfl, h0, h1, h2, h3, h4, h5, NewV.of hFl_G1 hq hh⟩
          refine LL2.mv rfl rfl rfl rfl rfl (.inl rfl) rfl ?_
          refine LL2.ex rfl rfl rfl rfl rfl rfl rfl (fun wq hq hK => ?_) ?_
          · skip
            have hK : ∀ j' (_ : (directs _).contains j' = true), _ := hK 6 rfl
            obtain ⟨A9, n9, c9, rfl, _, _, _, _, _, _, _⟩ := hK 5 rfl
            exact ⟨_, _, rfl, rfl⟩
          refine LL2.ex rfl rfl rfl rfl rfl rfl rfl (fun wq hq hK => ?_) ?_
          · skip
            have hK : ∀ j' (_ : (directs _).contains j' = true), _ := hK 6 rfl
            obtain ⟨A9, n9, c9, rfl, _, _, _, _, _, _, _⟩ := hK 5 rfl
            exact ⟨_, _, rfl, rfl⟩
          refine LL2.free rfl rfl rfl rfl (fun wq hq hK => OpX.allocV rfl rfl ze86 rfl) (fun v_G1_9 S_G1_9 => ?_)
          refine LL2.st (k := 7) rfl rfl rfl (by decide) rfl rfl rfl rfl sz86 rfl rfl (fun wq hq hK => hK 9 rfl) (fun wq hq hK => ?_) ?_
          · skip
            obtain ⟨A9, n9, c9, rfl, _, _, _, _, _, _, _⟩ := hK 5 rfl
            exact ⟨_, rfl, rfl, (all1 rfl (all1 rfl (all1 rfl (all1 rfl (all1 rfl (all1 rfl (all1 rfl all0)))))))⟩
          intro w9 hE _ hK hap hbd
          have hE := chgNew hE
          obtain ⟨A9, n9, c9, rfl, hI7, hI8, hI9, hI10, hS4, hS5, hN1⟩ := hK 5 (by decide)
          obtain ⟨b6, rfl, hN2⟩ := wrNew (cells := [.int .i64 y3.Kind, .int .i64 y3.N, .int .i64 y3.Pos, .int .i64 y3.Type_, .string y3.Symbol, .string y3.Name, .slice A9 n9 c9]) (hK 9 (by decide)) (hK 10 (by decide)) rfl
          have H := hcl_G1 (NewV.hl (hN1.app (hN2.V ⟨fun _ _ _ _ _ h => h, trivial⟩) fun q h1 h2 => absurd (hap 5 9 q h1 h2) (by decide)) hE fun q hq => hq.elim (fun h => (hbd 5 q h).1) fun h => (hbd 9 q h).1)
          refine WL.ev rfl rfl (Ev.as rfl rfl) (WL.nil ?_)
          refine CW.seq (CW.seq (CW.reg ?_))
          refine WL.ev rfl rfl (Ev.mv rfl rfl) (WL.ev rfl rfl (Ev.not rfl rfl) (WL.nil ?_))
          refine CW.condBN rfl (fun h3 => ?_) (fun h3 => ?_)
          · skip
            have hm2 := ifn h3 hm2
            refine CW.exit ?_
            obtain rfl := sm hm2
            exact ⟨s4, s5, _, rfl, ⟨rfl, rfl, rfl, rfl, rfl, rfl, rfl, rfl, trivial⟩, hI4, H.keep 7 6⟩
          · skip
            have hm2 := ifp h3 hm2
            refine CW.skip ?_
            refine CW.seq ?_
            refine CW.fresh [(3, .pointer (some ⟨b2, 0, none⟩)), (4, .pointer (some ⟨b3, 0, none⟩)), (5, .slice A6 n6 c6), (6, .pointer (some ⟨b4, 0, none⟩)), (7, .int .i64 s3), (8, .pointer (some ⟨b6, 0, none⟩)), (23, .pointer (some ⟨b4, 0 + 0, none⟩)), (24, .int .i64 s5), (25, .bool (decide (0 < s5)))] ⟨rfl, rfl, rfl, rfl, rfl, rfl, rfl, rfl, rfl, trivial⟩ fun σ => ?_
            have H : HL F0 [] w0 w9 [Pr.R a0 [.slice A1 n1 c1, .slice A2 n2 c2], Pr.R a1 [.string a1.Name, .string a1.Left, .slice A3 n3 c3, .bool a1.Literal, .slice A4 n4 c4, .slice A5 n5 c5], Pr.S a0.Symbols (.slice A1 n1 c1), Pr.S a0.Rules (.slice A2 n2 c2), Pr.S a1.Right (.slice A3 n3 c3), Pr.S a1.Equations (.slice A4 n4 c4), Pr.S a1.Contributions (.slice A5 n5 c5), Pr.R x1 [.int .i64 x1.Pos, .string x1.Name], Pr.S y3.Args (.slice A9 n9 c9)] [It.B b1 40 [.slice A1 n1 c1, .slice A2 n2 c2], It.B b2 45 [.string a1.Name, .string a1.Left, .slice A3 n3 c3, .bool a1.Literal, .slice A4 n4 c4, .slice A5 n5 c5], It.B b3 35 [.int .i64 0, .slice none 0 0], It.O 90 y1 (.slice A6 n6 c6), It.O 3 s4 (.slice A8 n8 c8), It.B b4 35 [.int .i64 s5, .slice A8 n8 c8], It.B b6 86 [.int .i64 y3.Kind, .int .i64 y3.N, .int .i64 y3.Pos, .int .i64 y3.Type_, .string y3.Symbol, .string y3.Name, .slice A9 n9 c9]] := H
            refine CW.reg ?_
            refine WL.ev rfl rfl (Ev.lda rfl ag86 sz86 rfl (At.blk (H.rB (i := 6) rfl)) rfl) ?_
            obtain ⟨y5, hy4, hm2⟩ := bd hm2
            obtain ⟨F, hF, hcl⟩ := H.call
            refine WL.call rfl rfl rfl rfl rfl ok46 rfl (sAttributeUses_ok hy4 (Expr_rd.2 ⟨_, rfl, hI7, hI8, hI9, hI10, hS4, hS5, (hF.get (i := 8) rfl)⟩)) ?_
            rintro _ w10 hE ⟨A10, n10, c10, rfl, H'⟩
            have H : HL F0 [] w0 w10 [Pr.R a0 [.slice A1 n1 c1, .slice A2 n2 c2], Pr.R a1 [.string a1.Name, .string a1.Left, .slice A3 n3 c3, .bool a1.Literal, .slice A4 n4 c4, .slice A5 n5 c5], Pr.S a0.Symbols (.slice A1 n1 c1), Pr.S a0.Rules (.slice A2 n2 c2), Pr.S a1.Right (.slice A3 n3 c3), Pr.S a1.Equations (.slice A4 n4 c4), Pr.S a1.Contributions (.slice A5 n5 c5), Pr.R x1 [.int .i64 x1.Pos, .string x1.Name], Pr.S y3.Args (.slice A9 n9 c9), Pr.S y5 (.slice A10 n10 c10)] [It.B b1 40 [.slice A1 n1 c1, .slice A2 n2 c2], It.B b2 45 [.string a1.Name, .string a1.Left, .slice A3 n3 c3, .bool a1.Literal, .slice A4 n4 c4, .slice A5 n5 c5], It.B b3 35 [.int .i64 0, .slice none 0 0], It.O 90 y1 (.slice A6 n6 c6), It.O 3 s4 (.slice A8 n8 c8), It.B b4 35 [.int .i64 s5, .slice A8 n8 c8], It.B b6 86 [.int .i64 y3.Kind, .int .i64 y3.N, .int .i64 y3.Pos, .int .i64 y3.Type_, .string y3.Symbol, .string y3.Name, .slice A9 n9 c9]] := hcl H'
            refine WL.ev rfl rfl (Ev.as rfl rfl) (WL.nil ?_)
            refine CW.seq (CW.reg ?_)
            refine WL.ev rfl rfl (Ev.as rfl rfl) (WL.nil ?_)
            obtain ⟨q3, hq2, hm2⟩ := bd hm2
            refine CW.block (CW.loop (α := Nat × (List Int) × Int × Value) (fun ⟨k1, s8, s9, v4⟩ => [(3, .pointer (some ⟨b2, 0, none⟩)), (4, .pointer (some ⟨b3, 0, none⟩)), (5, .slice A6 n6 c6), (6, .pointer (some ⟨b4, 0, none⟩)), (7, .int .i64 s3), (10, .slice A10 n10 c10), (11, .int .i64 (k1 : Int)), (23, .pointer (some ⟨b4, 0 + 0, none⟩)), (24, .int .i64 s5), (25, .bool (decide (0 < s5)))]) (fun ⟨k1, s8, s9, v4⟩ w => k1 ≤ y5.length ∧ eachL (sLocalRelation_L2 y1 s3) k1 (y5.drop k1) (s8, s9) = some q3 ∧ I64 s9 ∧ HL F0 [] w0 w [Pr.R a0 [.slice A1 n1 c1, .slice A2 n2 c2], Pr.R a1 [.string a1.Name, .string a1.Left, .slice A3 n3 c3, .bool a1.Literal, .slice A4 n4 c4, .slice A5 n5 c5], Pr.S a0.Symbols (.slice A1 n1 c1), Pr.S a0.Rules (.slice A2 n2 c2), Pr.S a1.Right (.slice A3 n3 c3), Pr.S a1.Equations (.slice A4 n4 c4), Pr.S a1.Contributions (.slice A5 n5 c5), Pr.R x1 [.int .i64 x1.Pos, .string x1.Name], Pr.S y3.Args (.slice A9 n9 c9), Pr.S y5 (.slice A10 n10 c10)] [It.B b1 40 [.slice A1 n1 c1, .slice A2 n2 c2], It.B b2 45 [.string a1.Name, .string a1.Left, .slice A3 n3 c3, .bool a1.Literal, .slice A4 n4 c4, .slice A5 n5 c5], It.B b3 35 [.int .i64 0, .slice none 0 0], It.O 90 y1 (.slice A6 n6 c6), It.O 3 s8 v4, It.B b4 35 [.int .i64 s9, v4], It.B b6 86 [.int .i64 y3.Kind, .int .i64 y3.N, .int .i64 y3.Pos, .int .i64 y3.Type_, .string y3.Symbol, .string y3.Name, .slice A9 n9 c9]]) (fun ⟨k1, s8, s9, v4⟩ => y5.length - k1) ⟨0, s4, s5, (.slice A8 n8 c8)⟩ ⟨rfl, rfl, rfl, rfl, rfl, rfl, rfl, rfl, rfl, rfl, trivial⟩ ⟨Nat.zero_le _, hq2, hI4, H.keep 10 7⟩ ?_)
            rintro ⟨k1, s8, s9, v4⟩ σ w11 ⟨hk1, hq2, hI11, H⟩
            obtain ⟨A11, n11, c11, rfl⟩ := (H.rO (i := 4) rfl).form3
            refine CW.seq (CW.seq (CW.reg ?_))
            refine WL.ev rfl rfl (Ev.mv rfl rfl) (WL.ev rfl rfl (Ev.mv rfl rfl) ?_)
            have hl2 := (H.rS (i := 9) rfl).I
            refine WL.ev rfl rfl (Ev.lenV rfl el76 rfl (H.rS (i := 9) rfl)) (WL.ev rfl rfl (Ev.bin rfl rfl rfl Bin.lss) (WL.nil ?_))
            refine CW.condD rfl (fun h4 => ?_) (fun h4 => ?_)
            · skip
              have hk2 := cast_lt h4
              obtain ⟨x2, z2, hx2, hb2, hq2⟩ := eachL_go hq2 hk2
              refine CW.skip ?_
              refine CW.seq (CW.block (CW.quietT 8 hmix (by kernel_rfl) ?_))
              refine QL.ev rfl rfl (fun _ hq => Ev.lda rfl ag35 sz35 rfl (At.blk ((H.ext hq).rB (i := 5) rfl)) rfl) (QL.ev rfl rfl (fun _ _ => Ev.mv rfl rfl) (QL.ev rfl rfl (fun _ _ => Ev.mv rfl rfl) (QL.ev rfl rfl (fun _ _ => Ev.mv rfl rfl) ?_)))
              obtain ⟨b7, ob7, cb7, hvb7, hI12, hS6, H⟩ := ixS_Occurrence H (i := 9) rfl hx2
              refine QL.ev rfl rfl (fun _ _ => Ev.ixVN rfl el76 sz90 rfl hvb7 rfl (lt_of hx2)) (QL.ev rfl rfl (fun _ hq => Ev.lda rfl ag90 sz90 rfl ((H.ext hq).rA (i := 10) rfl) rfl) ?_)
              obtain ⟨y6, hy5, hb2⟩ := bd hb2
              refine QL.call rfl rfl rfl rfl rfl ok55 rfl (fun _ hq => (sOccurrenceIndex_ok hy5 ((H.ext hq).rO (i := 3) rfl) ⟨rfl, hI12, hS6⟩).mono fun _ _ _ h => h.1) ?_
              obtain ⟨_, _, _, hI13⟩ := (sOccurrenceIndex_ok hy5 (H.rO (i := 3) rfl) ⟨rfl, hI12, hS6⟩).get
              refine QL.ev rfl rfl (fun _ _ => Ev.mv rfl rfl) (QL.nil (fun w12 hE => ?_))
              have H := H.ext hE
              obtain ⟨y7, hy6, hb2⟩ := bd hb2
              refine WL.call rfl rfl rfl rfl rfl ok54 rfl (sAddPair_ok hy6 ⟨_, rfl, hI11, (H.rO (i := 4) rfl)⟩ hI13 hI3) ?_
              rintro _ w13 hE ⟨A12, n12, c12, rfl, hI14, H'⟩
              have H := H.callA H' ⟨fun _ _ _ _ _ h => h, trivial⟩
              refine WL.stB (i := 5) rfl rfl rfl sz35 rfl rfl rfl rfl (all1 rfl (all1 rfl all0)) H rfl rfl rfl fun w14 H => ?_
              refine WL.nil ?_
              refine CW.reg ?_
              refine WL.ev rfl rfl (Ev.mv rfl rfl) (WL.ev rfl rfl (Ev.bin rfl rfl rfl (Bin.addN (a := k1) (b := 1) rfl (i64_succN hk2 hl2.2))) (WL.ev rfl rfl (Ev.as rfl rfl) (WL.nil ?_)))
              have H := H.swap 4 7
              obtain rfl := sm hb2
              exact ⟨⟨k1 + 1, y7.Rows, y7.N, (.slice A12 n12 c12)⟩, ⟨rfl, rfl, rfl, rfl, rfl, rfl, rfl, rfl, rfl, rfl, trivial⟩, ⟨hk2, hq2, hI14, H.keep 10 7⟩, Nat.sub_lt_sub_left hk2 (Nat.lt_succ_self _)⟩
            · skip
              obtain rfl := eachL_end hq2 (not_cast_lt h4)
              refine CW.exit ?_
              obtain rfl := sm hm2
              exact ⟨s8, s9, _, rfl, ⟨rfl, rfl, rfl, rfl, rfl, rfl, rfl, rfl, trivial⟩, hI11, H.keep 7 6⟩
        · rintro ρ' w15 ⟨s6, s7, v3, rfl, hag, hI5, H⟩
          obtain ⟨σ, rfl⟩ := ofL_ex hag
          obtain ⟨A13, n13, c13, rfl⟩ := (H.rO (i := 4) rfl).form3
          refine CW.reg ?_
          refine WL.ev rfl rfl (Ev.mv rfl rfl) ?_
          obtain ⟨hg2, hb1⟩ := grd_some hb1
          refine WL.ev rfl rfl (Ev.bin rfl rfl rfl (Bin.add hg2)) (WL.ev rfl rfl (Ev.as rfl rfl) (WL.nil ?_))
          obtain rfl := sm hb1
          exact ⟨⟨m2, (s3 + 1), s6, s7, (.slice A13 n13 c13)⟩, ⟨rfl, rfl, rfl, rfl, rfl, trivial⟩, ⟨hs1 _ rfl, hg2, hI5, H.keep 7 6⟩, Nat.lt_succ_self _⟩
      · skip
        have hb1 := ifn h2 hb1
        refine CW.exit ?_
        obtain rfl := sm hb1
        obtain rfl := ht1 _ rfl
        exact ⟨s4, s5, _, rfl, ⟨rfl, rfl, trivial⟩, hI4, H.keep 7 6⟩
    · skip
      have hb1 := ifn h1 hb1
      refine WL.off rfl rfl rfl (WL.off rfl rfl rfl (WL.off rfl rfl rfl (WL.ev rfl rfl (Ev.pickF rfl rfl rfl) (WL.nil ?_))))
      refine CW.condF rfl ?_
      refine CW.exit ?_
      obtain rfl := sm hb1
      obtain rfl := ht1 _ rfl
      exact ⟨s4, s5, _, rfl, ⟨rfl, rfl, trivial⟩, hI4, H.keep 7 6⟩
  · rintro ρ' w16 ⟨s1, s2, v1, rfl, hag, hI2, H⟩
    obtain ⟨σ, rfl⟩ := ofL_ex hag
    obtain ⟨A14, n14, c14, rfl⟩ := (H.rO (i := 4) rfl).form3
    refine CW.seq (CW.reg ?_)
    refine WL.ev rfl rfl (Ev.lda rfl ag35 sz35 rfl (At.blk (H.rB (i := 5) rfl)) rfl) ?_
    refine WL.stB (i := 2) rfl rfl rfl sz35 rfl rfl rfl rfl (all1 rfl (all1 rfl all0)) H rfl rfl rfl fun w17 H => ?_
    refine WL.nil ?_
    refine CW.ret ?_
    obtain rfl := sm hr
    exact ⟨_, resC rfl ag35 sz35 rfl rfl (At.blk (H.rB (i := 2) rfl)) rfl, H.ext0, _, _, _, rfl, hI2, H.outM (fr' := []) [false, false, false, false, true, false] fun _ _ => trivial⟩

noncomputable def iwithin_m (a0 : Int) (a1 : Int) (a2 : Int) : Option Bool :=
  if a1 ≤ a0 then (
  some (decide (a0 ≤ a2))
  ) else (
  some false
  )
theorem iwithin_ok {a0 : Int} {a1 : Int} {a2 : Int} {r : Bool} (hr : iwithin_m a0 a1 a2 = some r) {F0 : Nat → Prop} {w0 : World} (ha0 : I64 a0) (ha1 : I64 a1) (ha2 : I64 a2) :
    Ret Tryz.prog 117 #[.int .i64 a0, .int .i64 a1, .int .i64 a2] w0 (fun _ => False) fun v w => v = .bool r := by
  have H := HL.start F0 w0
  refine enter Tryz.func117 rfl rfl rfl ?_
  refine CW.seq (CW.reg ?_)
  refine WL.ev rfl rfl (Ev.as rfl rfl) (WL.nil ?_)
  refine CW.seq (CW.reg ?_)
  refine WL.ev rfl rfl (Ev.mv rfl rfl) (WL.ev rfl rfl (Ev.mv rfl rfl) (WL.ev rfl rfl (Ev.bin rfl rfl rfl Bin.geq) ?_))
  refine WL.mvD rfl rfl rfl rfl (fun h1 => ?_) (fun h1 => ?_)
  · skip
    have hr := ifp h1 hr
    refine WL.on rfl rfl (WL.ev rfl rfl (Ev.mv rfl rfl) (WL.on rfl rfl (WL.ev rfl rfl (Ev.mv rfl rfl) (WL.on rfl rfl (WL.ev rfl rfl (Ev.bin rfl rfl rfl Bin.leq) (WL.ev rfl rfl (Ev.pickT rfl rfl rfl) (WL.ev rfl rfl (Ev.as rfl rfl) (WL.nil ?_))))))))
    refine CW.ret ?_
    obtain rfl := sm hr
    exact ⟨_, res1 rfl rfl rfl, H.ext0, rfl⟩
  · skip
    have hr := ifn h1 hr
    refine WL.off rfl rfl rfl (WL.off rfl rfl rfl (WL.off rfl rfl rfl (WL.ev rfl rfl (Ev.pickF rfl rfl rfl) (WL.ev rfl rfl (Ev.as rfl rfl) (WL.nil ?_)))))
    refine CW.ret ?_
    obtain rfl := sm hr
    exact ⟨_, res1 rfl rfl rfl, H.ext0, rfl⟩

noncomputable def iSymbolAt_m (a0 : Rule) (a1 : Int) : Option ByteArray :=
  if a1 = 0 then (
  some a0.Left
  ) else (
  (iwithin_m a1 1 (a0.Right.length : Int)).bind fun y1 =>
  if y1 = true then (
  grd (I64 (a1 - 1)) <|
  grd (0 ≤ (a1 - 1)) <|
  (a0.Right[(a1 - 1).toNat]?).bind fun x1 =>
  some x1
  ) else (
  some (⟨#[]⟩ : ByteArray)
  )
  )
theorem iSymbolAt_ok {a0 : Rule} {a1 : Int} {r : ByteArray} (hr : iSymbolAt_m a0 a1 = some r) {F0 : Nat → Prop} {w0 : World} {ca0 : List Value} (ha0 : rd F0 w0 a0 ca0) (ha1 : I64 a1) :
    Ret Tryz.prog 111 #[.agg ca0.toArray, .int .i64 a1] w0 (fun _ => False) fun v w => v = .string r ∧ r.size ≤ 9223372036854775807 := by
  have H := (HL.start F0 w0).argR ha0
  obtain ⟨A1, n1, c1, A2, n2, c2, A3, n3, c3, rfl, hS1, hS2, H⟩ := op_Rule H (i := 0) rfl
  refine enter Tryz.func111 rfl rfl rfl ?_
  refine CW.seq (CW.reg ?_)
  refine WL.boxH rfl rfl rfl rfl rfl H fun b1 w1 H => ?_
  refine WL.ev rfl rfl (Ev.as rfl rfl) (WL.nil ?_)
  refine CW.seq (CW.block (CW.seq (CW.reg ?_)))
  refine WL.ev rfl rfl (Ev.mv rfl rfl) (WL.ev rfl rfl (Ev.bin rfl rfl rfl Bin.eql) (WL.ev rfl rfl (Ev.as rfl rfl) (WL.nil ?_)))
  refine CW.condD rfl (fun h1 => ?_) (fun h1 => ?_)
  · skip
    have hr := ifp h1 hr
    refine CW.seq (CW.reg ?_)
    refine WL.ev rfl rfl (Ev.fa rfl fo45_1 rfl) (WL.ev rfl rfl (Ev.ld rfl ag9 rfl ((H.rB (i := 0) rfl).cell rfl)) (WL.ev rfl rfl (Ev.as rfl rfl) (WL.nil ?_)))
    refine CW.ret ?_
    obtain rfl := sm hr
    exact ⟨_, res1 rfl rfl rfl, H.ext0, rfl, hS2⟩
  · skip
    have hr := ifn h1 hr
    refine CW.seq (CW.reg ?_)
    refine WL.ev rfl rfl (Ev.mv rfl rfl) (WL.ev rfl rfl (Ev.fa rfl fo45_2 rfl) (WL.ev rfl rfl (Ev.ld rfl ag26 rfl ((H.rB (i := 0) rfl).cell rfl)) ?_))
    have hl1 := (H.rS (i := 1) rfl).I
    refine WL.ev rfl rfl (Ev.lenV rfl el26 rfl (H.rS (i := 1) rfl)) ?_
    obtain ⟨y1, hy1, hr⟩ := bd hr
    refine WL.call rfl rfl rfl rfl rfl ok117 rfl (iwithin_ok hy1 (F0 := fun _ => False) ha1 (by decide : I64 1) hl1) ?_
    rintro _ w2 hE rfl
    have H := H.ext hE
    refine WL.ev rfl rfl (Ev.as rfl rfl) (WL.nil ?_)
    refine CW.condB rfl (fun h2 => ?_) (fun h2 => ?_)
    · skip
      have hr := ifp h2 hr
      refine CW.seq (CW.reg ?_)
      refine WL.ev rfl rfl (Ev.fa rfl fo45_2 rfl) (WL.ev rfl rfl (Ev.ld rfl ag26 rfl ((H.rB (i := 0) rfl).cell rfl)) (WL.ev rfl rfl (Ev.mv rfl rfl) ?_))
      obtain ⟨hg1, hr⟩ := grd_some hr
      refine WL.ev rfl rfl (Ev.bin rfl rfl rfl (Bin.sub hg1)) ?_
      obtain ⟨hg2, hr⟩ := grd_some hr
      obtain ⟨x1, hx1, hr⟩ := bd hr
      obtain ⟨b2, ob2, cb2, hvb2, hS3, H⟩ := ixS_Str H (i := 1) rfl hx1
      refine WL.ev rfl rfl (Ev.ixV rfl el26 sz9 rfl hvb2 rfl hg2 (lt_of hx1)) (WL.ev rfl rfl (Ev.ld rfl ag9 rfl ((H.rA (i := 4) rfl).cell0 rfl)) (WL.ev rfl rfl (Ev.as rfl rfl) (WL.nil ?_)))
      refine CW.ret ?_
      obtain rfl := sm hr
      exact ⟨_, res1 rfl rfl rfl, H.ext0, rfl, hS3⟩
    · skip
      have hr := ifn h2 hr
      refine CW.skip ?_
      refine CW.seq (CW.reg ?_)
      refine WL.ev rfl rfl (Ev.as rfl rfl) (WL.nil ?_)
      refine CW.ret ?_
      obtain rfl := sm hr
      exact ⟨_, res1 rfl rfl rfl, H.ext0, rfl, (by decide)⟩

noncomputable def ifindSymbol_L1 (a1 : ByteArray) : Nat → Symbol → Unit → Option (Unit ⊕ (Symbol × Bool)) := fun k1 x1 _ => 
  if x1.Name = a1 then (
  some (.inr (x1, true))
  ) else (
  some (.inl ())
  )
noncomputable def ifindSymbol_m (a0 : Grammar) (a1 : ByteArray) : Option (Symbol × Bool) :=
  (findL (ifindSymbol_L1 a1) 0 a0.Symbols ()).bind <| onr (fun r1 => some r1) fun _ =>
  some ((⟨(⟨#[]⟩ : ByteArray), []⟩ : Symbol), false)
theorem ifindSymbol_ok {a0 : Grammar} {a1 : ByteArray} {r : (Symbol × Bool)} (hr : ifindSymbol_m a0 a1 = some r) {F0 : Nat → Prop} {w0 : World} {ca0 : List Value} (ha0 : rd F0 w0 a0 ca0) (ha1 : a1.size ≤ 9223372036854775807) :
    Ret Tryz.prog 113 #[.agg ca0.toArray, .string a1] w0 (fun _ => False) fun v w => ∃ A0 : Option Addr, ∃ n0 c0 : Nat, v = .tuple #[.agg #[.string r.1.Name, (.slice A0 n0 c0)], .bool r.2] ∧ r.1.Name.size ≤ 9223372036854775807 ∧ HL F0 [] w0 w [Pr.S r.1.Attributes (.slice A0 n0 c0)] [] := by
  have H := (HL.start F0 w0).argR ha0
  obtain ⟨A1, n1, c1, A2, n2, c2, rfl, H⟩ := op_Grammar H (i := 0) rfl
  refine enter Tryz.func113 rfl rfl rfl ?_
  refine CW.seq (CW.reg ?_)
  refine WL.boxH rfl rfl rfl rfl rfl H fun b1 w1 H => ?_
  refine WL.allocH rfl rfl rfl ze161 H fun b2 w2 H => ?_
  refine WL.ev rfl rfl (Ev.as rfl rfl) (WL.nil ?_)
  refine CW.seq (CW.seq (CW.reg ?_))
  refine WL.ev rfl rfl (Ev.fa rfl fo40_0 rfl) (WL.ev rfl rfl (Ev.ld rfl ag37 rfl ((H.rB (i := 0) rfl).cell rfl)) ?_)
  have hl1 := (H.rS (i := 1) rfl).I
  refine WL.ev rfl rfl (Ev.lenV rfl el37 rfl (H.rS (i := 1) rfl)) (WL.ev rfl rfl (Ev.mv rfl rfl) (WL.nil ?_))
  obtain ⟨q1, hq1, hr⟩ := bd hr
  refine CW.block (CW.loop (α := Nat) (fun k1 => [(1, .string a1), (4, .pointer (some ⟨b2, 0, none⟩)), (9, .slice A1 n1 c1), (10, .int .i64 (a0.Symbols.length : Int)), (11, .int .i64 (k1 : Int))]) (fun k1 w => k1 ≤ a0.Symbols.length ∧ findL (ifindSymbol_L1 a1) k1 (a0.Symbols.drop k1) () = some q1 ∧ HL F0 [] w0 w [Pr.R a0 [.slice A1 n1 c1, .slice A2 n2 c2], Pr.S a0.Symbols (.slice A1 n1 c1), Pr.S a0.Rules (.slice A2 n2 c2)] [It.B b1 40 [.slice A1 n1 c1, .slice A2 n2 c2], It.B b2 161 [.string (⟨#[]⟩ : ByteArray), .slice none 0 0]]) (fun k1 => a0.Symbols.length - k1) 0 ⟨rfl, rfl, rfl, rfl, rfl, trivial⟩ ⟨Nat.zero_le _, hq1, H.keep 3 2⟩ ?_)
  rintro k1 σ w3 ⟨hk1, hq1, H⟩
  refine CW.seq (CW.reg ?_)
  refine WL.ev rfl rfl (Ev.bin rfl rfl rfl Bin.lss) (WL.nil ?_)
  refine CW.seq (CW.condD rfl (fun h1 => ?_) (fun h1 => ?_))
  · skip
    have hk2 := cast_lt h1
    obtain ⟨x1, z1, hx1, hb1, hs1, ht1⟩ := findL_go hq1 hk2
    refine CW.skip ?_
    refine CW.seq (CW.block (CW.seq (CW.reg ?_)))
    obtain ⟨b3, ob3, cb3, A3, n3, c3, hvb3, hS1, H⟩ := ixS_Symbol H (i := 1) rfl hx1
    refine WL.ev rfl rfl (Ev.ixVN rfl el37 sz161 rfl hvb3 rfl (lt_of hx1)) (WL.ev rfl rfl (Ev.lda rfl ag161 sz161 rfl (H.rA (i := 3) rfl) rfl) ?_)
    refine WL.allocH rfl rfl rfl ze161 H fun b4 w4 H => ?_
    refine WL.stB (i := 2) rfl rfl rfl sz161 rfl rfl rfl rfl (all1 rfl (all1 rfl all0)) H rfl rfl rfl fun w5 H => ?_
    refine WL.nil ?_
    refine CW.seq (CW.reg ?_)
    refine WL.ev rfl rfl (Ev.fa rfl fo161_0 rfl) (WL.ev rfl rfl (Ev.ld rfl ag9 rfl ((H.rB (i := 2) rfl).cell rfl)) (WL.ev rfl rfl (Ev.mv rfl rfl) (WL.ev rfl rfl (Ev.bin rfl rfl rfl Bin.eqlS) (WL.nil ?_))))
    refine CW.condD rfl (fun h2 => ?_) (fun h2 => ?_)
    · skip
      have hb1 := ifp h2 hb1
      refine CW.seq (CW.reg ?_)
      refine WL.ev rfl rfl (Ev.lda rfl ag161 sz161 rfl (At.blk (H.rB (i := 2) rfl)) rfl) ?_
      refine WL.stB (i := 1) rfl rfl rfl sz161 rfl rfl rfl rfl (all1 rfl (all1 rfl all0)) H rfl rfl rfl fun w6 H => ?_
      refine WL.ev rfl rfl (Ev.as rfl rfl) (WL.nil ?_)
      refine CW.ret ?_
      obtain rfl := sm hb1
      obtain rfl := ht1 _ rfl
      obtain rfl := sm hr
      exact ⟨_, resC1 rfl ag161 sz161 rfl rfl rfl rfl (At.blk (H.rB (i := 1) rfl)) rfl, H.ext0, _, _, _, rfl, hS1, H.outM (fr' := [Pr.S x1.Attributes (.slice A3 n3 c3)]) [false, false, false] fun _ h => ⟨h.get (i := 5) rfl, trivial⟩⟩
    · skip
      have hb1 := ifn h2 hb1
      refine CW.skip ?_
      refine CW.reg ?_
      refine WL.ev rfl rfl (Ev.bin rfl rfl rfl (Bin.addN (a := k1) (b := 1) rfl (i64_succN hk2 hl1.2))) (WL.ev rfl rfl (Ev.mv rfl rfl) (WL.nil ?_))
      obtain rfl := sm hb1
      have hq1 := hs1 _ rfl
      exact ⟨(k1 + 1), ⟨rfl, rfl, rfl, rfl, rfl, trivial⟩, ⟨hk2, hq1, H.keep 3 2⟩, Nat.sub_lt_sub_left hk2 (Nat.lt_succ_self _)⟩
  · skip
    obtain rfl := findL_end hq1 (not_cast_lt h1)
    refine CW.exit ?_
    refine CW.seq (CW.reg ?_)
    refine WL.ev rfl rfl (Ev.build rfl pl161 ze161 rfl rfl rfl rfl) ?_
    refine WL.stB (i := 1) rfl rfl rfl sz161 rfl rfl rfl rfl (all1 rfl (all1 rfl all0)) H rfl rfl rfl fun w7 H => ?_
    refine WL.ev rfl rfl (Ev.as rfl rfl) (WL.nil ?_)
    refine CW.ret ?_
    have H := H.nilS (α := Attribute)
    obtain rfl := sm hr
    exact ⟨_, resC1 rfl ag161 sz161 rfl rfl rfl rfl (At.blk (H.rB (i := 1) rfl)) rfl, H.ext0, _, _, _, rfl, (by decide), H.outM (fr' := [Pr.S ([] : List Attribute) (.slice none 0 0)]) [false, false] fun _ h => ⟨h.get (i := 3) rfl, trivial⟩⟩

noncomputable def iPlainAttributes_L1 : Nat → Attribute → (List Attribute) → Option (List Attribute) := fun k1 x1 s1 => 
  (
  if x1.Mode = 1 then (
  grd (((s1.length : Int) + 1) * 40 ≤ 140737488355328 ∧ (s1.length : Int) + 1 ≤ 9223372036854775807) <|
  some (s1 ++ [x1])
  ) else (
  if x1.Mode = 2 then (
  grd (((s1.length : Int) + 1) * 40 ≤ 140737488355328 ∧ (s1.length : Int) + 1 ≤ 9223372036854775807) <|
  some (s1 ++ [x1])
  ) else (
  some s1
  )
  )
  ).bind fun s2 =>
  some s2
noncomputable def iPlainAttributes_m (a0 : Grammar) (a1 : ByteArray) : Option (List Attribute) :=
  (ifindSymbol_m a0 a1).bind fun (y1, y2) =>
  (eachL iPlainAttributes_L1 0 y1.Attributes ([] : List Attribute)).bind fun s1 =>
  some s1
theorem iPlainAttributes_ok {a0 : Grammar} {a1 : ByteArray} {r : (List Attribute)} (hr : iPlainAttributes_m a0 a1 = some r) {F0 : Nat → Prop} {w0 : World} {ca0 : List Value} (ha0 : rd F0 w0 a0 ca0) (ha1 : a1.size ≤ 9223372036854775807) :
    Ret Tryz.prog 43 #[.agg ca0.toArray, .string a1] w0 (fun _ => False) fun v w => ∃ A0 : Option Addr, ∃ n0 c0 : Nat, v = (.slice A0 n0 c0) ∧ HL F0 [] w0 w [] [It.O 156 r (.slice A0 n0 c0)] := by
  have H := (HL.start F0 w0).argR ha0
  obtain ⟨A1, n1, c1, A2, n2, c2, rfl, H⟩ := op_Grammar H (i := 0) rfl
  refine enter Tryz.func43 rfl rfl rfl ?_
  refine CW.seq (CW.reg ?_)
  refine WL.boxH rfl rfl rfl rfl rfl H fun b1 w1 H => ?_
  refine WL.ev rfl rfl (Ev.as rfl rfl) (WL.nil ?_)
  refine CW.seq (CW.reg ?_)
  refine WL.lit0H (α := Attribute) rfl rfl rfl el81 sz156 H fun A3 n3 c3 w2 H => ?_
  refine WL.ev rfl rfl (Ev.as rfl rfl) (WL.nil ?_)
  refine CW.seq (CW.reg ?_)
  refine WL.ev rfl rfl (Ev.lda rfl ag40 sz40 rfl (At.blk (H.rB (i := 0) rfl)) rfl) (WL.ev rfl rfl (Ev.mv rfl rfl) ?_)
  obtain ⟨⟨y1, y2⟩, hy1, hr⟩ := bd hr
  obtain ⟨F, hF, hcl⟩ := H.call
  refine WL.call rfl rfl rfl rfl rfl ok113 rfl (ifindSymbol_ok hy1 ⟨_, _, rfl, (hF.get (i := 1) rfl), (hF.get (i := 2) rfl)⟩ ha1) ?_
  rintro _ w3 hE ⟨A4, n4, c4, rfl, hS1, H'⟩
  have H : HL F0 [] w0 w3 [Pr.R a0 [.slice A1 n1 c1, .slice A2 n2 c2], Pr.S a0.Symbols (.slice A1 n1 c1), Pr.S a0.Rules (.slice A2 n2 c2), Pr.S y1.Attributes (.slice A4 n4 c4)] [It.B b1 40 [.slice A1 n1 c1, .slice A2 n2 c2], It.O 156 ([] : List Attribute) (.slice A3 n3 c3)] := hcl H'
  refine WL.ev rfl rfl (Ev.mv rfl rfl) (WL.ev rfl rfl (Ev.ex rfl rfl rfl) (WL.ev rfl rfl (Ev.ex rfl rfl rfl) ?_))
  refine WL.allocH rfl rfl rfl ze161 H fun b2 w4 H => ?_
  refine WL.stB (i := 2) rfl rfl rfl sz161 rfl rfl rfl rfl (all1 rfl (all1 rfl all0)) H rfl rfl rfl fun w5 H => ?_
  refine WL.ev rfl rfl (Ev.as rfl rfl) (WL.nil ?_)
  refine CW.seq (CW.seq (CW.reg ?_))
  refine WL.ev rfl rfl (Ev.fa rfl fo161_1 rfl) (WL.ev rfl rfl (Ev.ld rfl ag81 rfl ((H.rB (i := 2) rfl).cell rfl)) ?_)
  have hl1 := (H.rS (i := 3) rfl).I
  refine WL.ev rfl rfl (Ev.lenV rfl el81 rfl (H.rS (i := 3) rfl)) (WL.ev rfl rfl (Ev.mv rfl rfl) (WL.nil ?_))
  obtain ⟨q1, hq1, hr⟩ := bd hr
  refine CW.block (CW.loop (α := Nat × (List Attribute) × Value) (fun ⟨k1, s1, v1⟩ => [(5, v1), (18, .slice A4 n4 c4), (19, .int .i64 (y1.Attributes.length : Int)), (20, .int .i64 (k1 : Int))]) (fun ⟨k1, s1, v1⟩ w => k1 ≤ y1.Attributes.length ∧ eachL iPlainAttributes_L1 k1 (y1.Attributes.drop k1) s1 = some q1 ∧ HL F0 [] w0 w [Pr.R a0 [.slice A1 n1 c1, .slice A2 n2 c2], Pr.S a0.Symbols (.slice A1 n1 c1), Pr.S a0.Rules (.slice A2 n2 c2), Pr.S y1.Attributes (.slice A4 n4 c4)] [It.B b1 40 [.slice A1 n1 c1, .slice A2 n2 c2], It.O 156 s1 v1, It.B b2 161 [.string y1.Name, .slice A4 n4 c4]]) (fun ⟨k1, s1, v1⟩ => y1.Attributes.length - k1) ⟨0, ([] : List Attribute), (.slice A3 n3 c3)⟩ ⟨rfl, rfl, rfl, rfl, trivial⟩ ⟨Nat.zero_le _, hq1, H.keep 4 3⟩ ?_)
  rintro ⟨k1, s1, v1⟩ σ w6 ⟨hk1, hq1, H⟩
  obtain ⟨A5, n5, c5, rfl⟩ := (H.rO (i := 1) rfl).form3
  refine CW.seq (CW.reg ?_)
  refine WL.ev rfl rfl (Ev.bin rfl rfl rfl Bin.lss) (WL.nil ?_)
  refine CW.seq (CW.condD rfl (fun h1 => ?_) (fun h1 => ?_))
  · skip
    have hk2 := cast_lt h1
    obtain ⟨x1, z1, hx1, hb1, hq1⟩ := eachL_go hq1 hk2
    refine CW.skip ?_
    obtain ⟨q2, hm1, hb1⟩ := bd hb1
    refine CW.seq (CW.mid (fun ρ' w => ∃ (s2 : List Attribute) (v2 : Value), s2 = q2 ∧ agree ρ' [(5, v2), (18, .slice A4 n4 c4), (19, .int .i64 (y1.Attributes.length : Int)), (20, .int .i64 (k1 : Int))] ∧ HL F0 [] w0 w [Pr.R a0 [.slice A1 n1 c1, .slice A2 n2 c2], Pr.S a0.Symbols (.slice A1 n1 c1), Pr.S a0.Rules (.slice A2 n2 c2), Pr.S y1.Attributes (.slice A4 n4 c4)] [It.B b1 40 [.slice A1 n1 c1, .slice A2 n2 c2], It.O 156 s2 v2, It.B b2 161 [.string y1.Name, .slice A4 n4 c4]]) ?_ ?_)
    · skip
      refine CW.block (CW.seq (CW.reg ?_))
      obtain ⟨b3, ob3, cb3, hvb3, hS2, hI1, hI2, H⟩ := ixS_Attribute H (i := 3) rfl hx1
      refine WL.ev rfl rfl (Ev.ixVN rfl el81 sz156 rfl hvb3 rfl (lt_of hx1)) (WL.ev rfl rfl (Ev.lda rfl ag156 sz156 rfl (H.rA (i := 4) rfl) rfl) ?_)
      refine WL.allocH rfl rfl rfl ze156 H fun b4 w7 H => ?_
      refine WL.stB (i := 3) rfl rfl rfl sz156 rfl rfl rfl rfl (all1 rfl (all1 rfl (all1 rfl (all1 rfl all0)))) H rfl rfl rfl fun w8 H => ?_
      refine WL.nil ?_
      refine CW.seq (CW.reg ?_)
      refine WL.ev rfl rfl (Ev.fa rfl fo156_2 rfl) (WL.ev rfl rfl (Ev.ld rfl ag3 rfl ((H.rB (i := 3) rfl).cell rfl)) (WL.ev rfl rfl (Ev.bin rfl rfl rfl Bin.eql) ?_))
      refine WL.mvD rfl rfl rfl rfl (fun h2 => ?_) (fun h2 => ?_)
      · skip
        have hm1 := ifp h2 hm1
        refine WL.off rfl rfl rfl (WL.off rfl rfl rfl (WL.off rfl rfl rfl (WL.ev rfl rfl (Ev.pickT rfl rfl rfl) (WL.nil ?_))))
        refine CW.condT rfl ?_
        refine CW.reg ?_
        refine WL.ev rfl rfl (Ev.mv rfl rfl) (WL.ev rfl rfl (Ev.lda rfl ag156 sz156 rfl (At.blk (H.rB (i := 3) rfl)) rfl) ?_)
        refine WL.lit1 rfl rfl rfl el81 sz156 ze156 rfl rfl rfl rfl rfl rfl fun b5 w9 hE hb hB => ?_
        have H := H.newB hE hb hB
        obtain ⟨hg1, hm1⟩ := grd_some hm1
        refine WL.appO (i := 1) (ys := [x1]) rfl rfl rfl el81 sz156 by156 ze156 rfl rfl rfl H rfl (fun _ => ownL.single ⟨rfl, hS2, hI1, hI2, rfl⟩) (.inr ⟨_, _, rfl, At.blk (H.rB (i := 4) rfl)⟩) hg1 fun A6 n6 c6 w10 H => ?_
        refine WL.ev rfl rfl (Ev.as rfl rfl) (WL.nil ?_)
        obtain rfl := sm hm1
        exact ⟨(s1 ++ [x1]), _, rfl, ⟨rfl, rfl, rfl, rfl, trivial⟩, H.keep 4 3⟩
      · skip
        have hm1 := ifn h2 hm1
        refine WL.on rfl rfl (WL.ev rfl rfl (Ev.fa rfl fo156_2 rfl) (WL.on rfl rfl (WL.ev rfl rfl (Ev.ld rfl ag3 rfl ((H.rB (i := 3) rfl).cell rfl)) (WL.on rfl rfl (WL.ev rfl rfl (Ev.bin rfl rfl rfl Bin.eql) (WL.ev rfl rfl (Ev.pickF rfl rfl rfl) (WL.nil ?_)))))))
        refine CW.condD rfl (fun h3 => ?_) (fun h3 => ?_)
        · skip
          have hm1 := ifp h3 hm1
          refine CW.reg ?_
          refine WL.ev rfl rfl (Ev.mv rfl rfl) (WL.ev rfl rfl (Ev.lda rfl ag156 sz156 rfl (At.blk (H.rB (i := 3) rfl)) rfl) ?_)
          refine WL.lit1 rfl rfl rfl el81 sz156 ze156 rfl rfl rfl rfl rfl rfl fun b6 w11 hE hb hB => ?_
          have H := H.newB hE hb hB
          obtain ⟨hg2, hm1⟩ := grd_some hm1
          refine WL.appO (i := 1) (ys := [x1]) rfl rfl rfl el81 sz156 by156 ze156 rfl rfl rfl H rfl (fun _ => ownL.single ⟨rfl, hS2, hI1, hI2, rfl⟩) (.inr ⟨_, _, rfl, At.blk (H.rB (i := 4) rfl)⟩) hg2 fun A7 n7 c7 w12 H => ?_
          refine WL.ev rfl rfl (Ev.as rfl rfl) (WL.nil ?_)
          obtain rfl := sm hm1
          exact ⟨(s1 ++ [x1]), _, rfl, ⟨rfl, rfl, rfl, rfl, trivial⟩, H.keep 4 3⟩
        · skip
          have hm1 := ifn h3 hm1
          refine CW.skip ?_
          obtain rfl := sm hm1
          exact ⟨s1, _, rfl, ⟨rfl, rfl, rfl, rfl, trivial⟩, H.keep 4 3⟩
    · rintro ρ' w13 ⟨s2, v2, rfl, hag, H⟩
      obtain ⟨σ, rfl⟩ := ofL_ex hag
      obtain ⟨A8, n8, c8, rfl⟩ := (H.rO (i := 1) rfl).form3
      refine CW.reg ?_
      refine WL.ev rfl rfl (Ev.bin rfl rfl rfl (Bin.addN (a := k1) (b := 1) rfl (i64_succN hk2 hl1.2))) (WL.ev rfl rfl (Ev.mv rfl rfl) (WL.nil ?_))
      obtain rfl := sm hb1
      exact ⟨⟨k1 + 1, s2, (.slice A8 n8 c8)⟩, ⟨rfl, rfl, rfl, rfl, trivial⟩, ⟨hk2, hq1, H.keep 4 3⟩, Nat.sub_lt_sub_left hk2 (Nat.lt_succ_self _)⟩
  · skip
    obtain rfl := eachL_end hq1 (not_cast_lt h1)
    refine CW.exit ?_
    refine CW.seq (CW.reg ?_)
    refine WL.ev rfl rfl (Ev.mv rfl rfl) (WL.ev rfl rfl (Ev.as rfl rfl) (WL.nil ?_))
    refine CW.ret ?_
    obtain rfl := sm hr
    exact ⟨_, res1 rfl rfl rfl, H.ext0, _, _, _, rfl, H.outM (fr' := []) [false, true, false] fun _ _ => trivial⟩

noncomputable def iOccurrencesOf_L2 (k1 : Nat) : Nat → Attribute → (List Occurrence) → Option (List Occurrence) := fun k2 x1 s2 => 
  grd (((s2.length : Int) + 1) * 24 ≤ 140737488355328 ∧ (s2.length : Int) + 1 ≤ 9223372036854775807) <|
  some (s2 ++ [(⟨(k1 : Int), x1.Name⟩ : Occurrence)])
noncomputable def iOccurrencesOf_L1 (a0 : Grammar) (a1 : Rule) : Nat → (List Occurrence) → Option (List Occurrence) := fun k1 s1 => 
  (iSymbolAt_m a1 (k1 : Int)).bind fun y1 =>
  (iPlainAttributes_m a0 y1).bind fun y2 =>
  (eachL (iOccurrencesOf_L2 k1) 0 y2 s1).bind fun s2 =>
  some s2
noncomputable def iOccurrencesOf_m (a0 : Grammar) (a1 : Rule) : Option (List Occurrence) :=
  grd (I64 ((a1.Right.length + 1 : Nat) : Int)) <|
  (eachN (iOccurrencesOf_L1 a0 a1) 0 ((a1.Right.length + 1)) ([] : List Occurrence)).bind fun s1 =>
  some s1
theorem iOccurrencesOf_ok {a0 : Grammar} {a1 : Rule} {r : (List Occurrence)} (hr : iOccurrencesOf_m a0 a1 = some r) {F0 : Nat → Prop} {w0 : World} {ca0 : List Value} (ha0 : rd F0 w0 a0 ca0) {ca1 : List Value} (ha1 : rd F0 w0 a1 ca1) :
    Ret Tryz.prog 38 #[.agg ca0.toArray, .agg ca1.toArray] w0 (fun _ => False) fun v w => ∃ A0 : Option Addr, ∃ n0 c0 : Nat, v = (.slice A0 n0 c0) ∧ HL F0 [] w0 w [] [It.O 90 r (.slice A0 n0 c0)] := by
  have H := ((HL.start F0 w0).argR ha0).argR ha1
  obtain ⟨A1, n1, c1, A2, n2, c2, rfl, H⟩ := op_Grammar H (i := 0) rfl
  obtain ⟨A3, n3, c3, A4, n4, c4, A5, n5, c5, rfl, hS1, hS2, H⟩ := op_Rule H (i := 1) rfl
  refine enter Tryz.func38 rfl rfl rfl ?_
  refine CW.seq (CW.reg ?_)
  refine WL.boxH rfl rfl rfl rfl rfl H fun b1 w1 H => ?_
  refine WL.boxH rfl rfl rfl rfl rfl H fun b2 w2 H => ?_
  refine WL.ev rfl rfl (Ev.as rfl rfl) (WL.nil ?_)
  refine CW.seq (CW.reg ?_)
  refine WL.lit0H (α := Occurrence) rfl rfl rfl el76 sz90 H fun A6 n6 c6 w3 H => ?_
  refine WL.ev rfl rfl (Ev.as rfl rfl) (WL.nil ?_)
  refine CW.seq (CW.seq (CW.reg ?_))
  refine WL.ev rfl rfl (Ev.fa rfl fo45_2 rfl) (WL.ev rfl rfl (Ev.ld rfl ag26 rfl ((H.rB (i := 1) rfl).cell rfl)) ?_)
  have hl1 := (H.rS (i := 4) rfl).I
  refine WL.ev rfl rfl (Ev.lenV rfl el26 rfl (H.rS (i := 4) rfl)) ?_
  obtain ⟨hg1, hr⟩ := grd_some hr
  refine WL.ev rfl rfl (Ev.bin rfl rfl rfl (Bin.addN (a := a1.Right.length) (b := 1) rfl hg1)) (WL.ev rfl rfl (Ev.mv rfl rfl) (WL.nil ?_))
  obtain ⟨q1, hq1, hr⟩ := bd hr
  refine CW.block (CW.loop (α := Nat × (List Occurrence) × Value) (fun ⟨k1, s1, v1⟩ => [(2, .pointer (some ⟨b1, 0, none⟩)), (3, .pointer (some ⟨b2, 0, none⟩)), (5, v1), (13, .int .i64 ((a1.Right.length + 1 : Nat) : Int)), (14, .int .i64 (k1 : Int))]) (fun ⟨k1, s1, v1⟩ w => k1 ≤ (a1.Right.length + 1) ∧ eachN (iOccurrencesOf_L1 a0 a1) k1 ((a1.Right.length + 1) - k1) s1 = some q1 ∧ HL F0 [] w0 w [Pr.R a0 [.slice A1 n1 c1, .slice A2 n2 c2], Pr.R a1 [.string a1.Name, .string a1.Left, .slice A3 n3 c3, .bool a1.Literal, .slice A4 n4 c4, .slice A5 n5 c5], Pr.S a0.Symbols (.slice A1 n1 c1), Pr.S a0.Rules (.slice A2 n2 c2), Pr.S a1.Right (.slice A3 n3 c3), Pr.S a1.Equations (.slice A4 n4 c4), Pr.S a1.Contributions (.slice A5 n5 c5)] [It.B b1 40 [.slice A1 n1 c1, .slice A2 n2 c2], It.B b2 45 [.string a1.Name, .string a1.Left, .slice A3 n3 c3, .bool a1.Literal, .slice A4 n4 c4, .slice A5 n5 c5], It.O 90 s1 v1]) (fun ⟨k1, s1, v1⟩ => (a1.Right.length + 1) - k1) ⟨0, ([] : List Occurrence), (.slice A6 n6 c6)⟩ ⟨rfl, rfl, rfl, rfl, rfl, trivial⟩ ⟨Nat.zero_le _, hq1, H.keep 7 3⟩ ?_)
  rintro ⟨k1, s1, v1⟩ σ w4 ⟨hk1, hq1, H⟩
  obtain ⟨A7, n7, c7, rfl⟩ := (H.rO (i := 2) rfl).form3
  refine CW.seq (CW.reg ?_)
  refine WL.ev rfl rfl (Ev.bin rfl rfl rfl Bin.lss) (WL.nil ?_)
  refine CW.seq (CW.condD rfl (fun h1 => ?_) (fun h1 => ?_))
  · skip
    have hk2 := cast_lt h1
    obtain ⟨z1, hb1, hq1⟩ := eachN_go hq1 hk2
    refine CW.skip ?_
    refine CW.seq (CW.block (CW.seq (CW.reg ?_)))
    refine WL.ev rfl rfl (Ev.mv rfl rfl) (WL.ev rfl rfl (Ev.as rfl rfl) (WL.nil ?_))
    obtain ⟨y1, hy1, hb1⟩ := bd hb1
    obtain ⟨_, _, _, hS3⟩ := (iSymbolAt_ok hy1 ⟨_, _, _, rfl, hS1, hS2, (H.rS (i := 4) rfl), (H.rS (i := 5) rfl), (H.rS (i := 6) rfl)⟩ (i64_nat hk2 hg1)).get
    obtain ⟨y2, hy2, hb1⟩ := bd hb1
    refine CW.seq (CW.any2 7 (fun ρ => [.fix (.agg #[.slice A1 n1 c1, .slice A2 n2 c2]), .fix (.agg #[.string a1.Name, .string a1.Left, .slice A3 n3 c3, .bool a1.Literal, .slice A4 n4 c4, .slice A5 n5 c5]), .fix (.int .i64 (k1 : Int)), .fix (.string y1), .free (fun S v w => ∃ A8 : Option Addr, ∃ n8 : Nat, ∃ c8 : Nat, v = .slice A8 n8 c8 ∧ NewI S w [It.O 156 y2 (.slice A8 n8 c8)]), .fix (.int .i64 (y2.length : Int)), .fix (.int .i64 0)]) [[], [], [], [], [], [], []] NoM (fun _ _ => True) [] [] (noM _) hmix (by kernel_rfl) rfl ⟨trivial, trivial, trivial, trivial, fun _ _ _ _ _ ⟨A8, n8, c8, hv, hh⟩ hc hS hT => ⟨A8, n8, c8, hv, hh.chgT hc hS⟩, trivial, trivial, trivial⟩ trivial (fun _ _ _ _ _ _ _ => trivial) ?_)
    refine LL2.fx rfl rfl rfl rfl rfl (fun _ hq hK => Ev.lda rfl ag40 sz40 rfl (At.blk ((H.ext hq).rB (i := 0) rfl)) rfl) ?_
    refine LL2.fx rfl rfl rfl rfl rfl (fun _ hq hK => Ev.lda rfl ag45 sz45 rfl (At.blk ((H.ext hq).rB (i := 1) rfl)) rfl) ?_
    refine LL2.fx rfl rfl rfl rfl rfl (fun _ hq hK => Ev.mv rfl rfl) ?_
    refine LL2.fixed rfl rfl rfl rfl (fun _ hq hK => OpX.call rfl rfl rfl rfl ok111 rfl (iSymbolAt_ok hy1 ⟨_, _, _, rfl, hS1, hS2, ((H.ext hq).rS (i := 4) rfl), ((H.ext hq).rS (i := 5) rfl), ((H.ext hq).rS (i := 6) rfl)⟩ (i64_nat hk2 hg1)) fun _ _ hE h => ⟨hE, h.1⟩) ?_
    refine LL2.free rfl rfl rfl rfl (fun wq hq hK => ?_) (fun v_G1_4 S_G1_4 => ?_)
    · refine OpX.call rfl rfl rfl rfl ok43 rfl (iPlainAttributes_ok hy2 ⟨_, _, rfl, ((H.ext hq).rS (i := 2) rfl), ((H.ext hq).rS (i := 3) rfl)⟩ hS3) ?_
      rintro _ w hE ⟨A8, n8, c8, rfl, hh⟩
      exact ⟨hE, A8, n8, c8, rfl, NewI.of hh ⟨fun _ _ _ _ _ h => h, trivial⟩⟩
    refine LL2.fx rfl rfl rfl rfl rfl (fun wq hq hK => ?_) ?_
    · obtain ⟨A, m, c, e0, hh⟩ : ∃ A : Option Addr, ∃ m c : Nat, v_G1_4 = .slice A m c ∧ NewI S_G1_4 wq [It.O 156 y2 (.slice A m c)] := hK 4 rfl
      subst e0
      exact Ev.lenV rfl el81 rfl hh.rdO
    refine LL2.fx rfl rfl rfl rfl rfl (fun _ hq hK => Ev.mv rfl rfl) ?_
    intro w5 hE _ hK hap hbd
    have hE := chgNew hE
    obtain ⟨A8, n8, c8, rfl, hN1⟩ := hK 4 (by decide)
    have H := H.add hE hN1 ⟨fun _ _ _ _ _ h => h, trivial⟩ (fun q hq => (hbd 4 q hq).1)
    have hl2 := (H.rO (i := 3) rfl).I
    refine WL.nil ?_
    obtain ⟨q2, hq2, hb1⟩ := bd hb1
    refine CW.block (CW.loop (α := Nat × (List Occurrence) × Value) (fun ⟨k2, s2, v2⟩ => [(2, .pointer (some ⟨b1, 0, none⟩)), (3, .pointer (some ⟨b2, 0, none⟩)), (5, v2), (6, .int .i64 (k1 : Int)), (13, .int .i64 ((a1.Right.length + 1 : Nat) : Int)), (14, .int .i64 (k1 : Int)), (21, .slice A8 n8 c8), (22, .int .i64 (y2.length : Int)), (23, .int .i64 (k2 : Int))]) (fun ⟨k2, s2, v2⟩ w => k2 ≤ y2.length ∧ eachL (iOccurrencesOf_L2 k1) k2 (y2.drop k2) s2 = some q2 ∧ HL F0 [] w0 w [Pr.R a0 [.slice A1 n1 c1, .slice A2 n2 c2], Pr.R a1 [.string a1.Name, .string a1.Left, .slice A3 n3 c3, .bool a1.Literal, .slice A4 n4 c4, .slice A5 n5 c5], Pr.S a0.Symbols (.slice A1 n1 c1), Pr.S a0.Rules (.slice A2 n2 c2), Pr.S a1.Right (.slice A3 n3 c3), Pr.S a1.Equations (.slice A4 n4 c4), Pr.S a1.Contributions (.slice A5 n5 c5)] [It.B b1 40 [.slice A1 n1 c1, .slice A2 n2 c2], It.B b2 45 [.string a1.Name, .string a1.Left, .slice A3 n3 c3, .bool a1.Literal, .slice A4 n4 c4, .slice A5 n5 c5], It.O 90 s2 v2, It.O 156 y2 (.slice A8 n8 c8)]) (fun ⟨k2, s2, v2⟩ => y2.length - k2) ⟨0, s1, (.slice A7 n7 c7)⟩ ⟨rfl, rfl, rfl, rfl, rfl, rfl, rfl, rfl, rfl, trivial⟩ ⟨Nat.zero_le _, hq2, H.keep 7 4⟩ ?_)
    rintro ⟨k2, s2, v2⟩ σ w6 ⟨hk3, hq2, H⟩
    obtain ⟨A9, n9, c9, rfl⟩ := (H.rO (i := 2) rfl).form3
    refine CW.seq (CW.reg ?_)
    refine WL.ev rfl rfl (Ev.bin rfl rfl rfl Bin.lss) (WL.nil ?_)
    refine CW.seq (CW.condD rfl (fun h2 => ?_) (fun h2 => ?_))
    · skip
      have hk4 := cast_lt h2
      obtain ⟨x1, z2, hx1, hb2, hq2⟩ := eachL_go hq2 hk4
      refine CW.skip ?_
      refine CW.seq (CW.block (CW.seq (CW.reg ?_)))
      obtain ⟨b3, cb3, hvb3, hbb3⟩ := H.ptO (i := 3) rfl hx1
      refine WL.ev rfl rfl (Ev.ixVN rfl el81 sz156 rfl hvb3 rfl (lt_of hx1)) ?_
      obtain ⟨hA1, hS4, hI1, hI2, H⟩ := elO_Attribute H (i := 3) rfl hx1 hbb3
      refine WL.ev rfl rfl (Ev.lda rfl ag156 sz156 rfl hA1 rfl) ?_
      refine WL.allocH rfl rfl rfl ze156 H fun b4 w7 H => ?_
      refine WL.stB (i := 4) rfl rfl rfl sz156 rfl rfl rfl rfl (all1 rfl (all1 rfl (all1 rfl (all1 rfl all0)))) H rfl rfl rfl fun w8 H => ?_
      refine WL.nil ?_
      refine CW.reg ?_
      refine WL.ev rfl rfl (Ev.mv rfl rfl) (WL.ev rfl rfl (Ev.mv rfl rfl) (WL.ev rfl rfl (Ev.fa rfl fo156_0 rfl) (WL.ev rfl rfl (Ev.ld rfl ag9 rfl ((H.rB (i := 4) rfl).cell rfl)) (WL.ev rfl rfl (Ev.build rfl pl90 ze90 rfl rfl rfl rfl) ?_))))
      refine WL.lit1 rfl rfl rfl el76 sz90 ze90 rfl rfl rfl rfl rfl rfl fun b5 w9 hE hb hB => ?_
      have H := H.newB hE hb hB
      obtain ⟨hg2, hb2⟩ := grd_some hb2
      refine WL.appO (i := 2) (ys := [(⟨(k1 : Int), x1.Name⟩ : Occurrence)]) rfl rfl rfl el76 sz90 by90 ze90 rfl rfl rfl H rfl (fun _ => ownL.single ⟨rfl, (i64_nat hk2 hg1), hS4, rfl⟩) (.inr ⟨_, _, rfl, At.blk (H.rB (i := 5) rfl)⟩) hg2 fun A10 n10 c10 w10 H => ?_
      refine WL.ev rfl rfl (Ev.as rfl rfl) (WL.nil ?_)
      refine CW.reg ?_
      refine WL.ev rfl rfl (Ev.bin rfl rfl rfl (Bin.addN (a := k2) (b := 1) rfl (i64_succN hk4 hl2.2))) (WL.ev rfl rfl (Ev.mv rfl rfl) (WL.nil ?_))
      obtain rfl := sm hb2
      exact ⟨⟨k2 + 1, (s2 ++ [(⟨(k1 : Int), x1.Name⟩ : Occurrence)]), (.slice A10 n10 c10)⟩, ⟨rfl, rfl, rfl, rfl, rfl, rfl, rfl, rfl, rfl, trivial⟩, ⟨hk4, hq2, H.keep 7 4⟩, Nat.sub_lt_sub_left hk4 (Nat.lt_succ_self _)⟩
    · skip
      obtain rfl := eachL_end hq2 (not_cast_lt h2)
      refine CW.exit ?_
      refine CW.reg ?_
      refine WL.ev rfl rfl (Ev.bin rfl rfl rfl (Bin.addN (a := k1) (b := 1) rfl (i64_succN hk2 hg1.2))) (WL.ev rfl rfl (Ev.mv rfl rfl) (WL.nil ?_))
      obtain rfl := sm hb1
      exact ⟨⟨k1 + 1, s2, (.slice A9 n9 c9)⟩, ⟨rfl, rfl, rfl, rfl, rfl, trivial⟩, ⟨hk2, hq1, H.keep 7 3⟩, Nat.sub_lt_sub_left hk2 (Nat.lt_succ_self _)⟩
  · skip
    obtain rfl := eachN_end hq1 (not_cast_lt h1)
    refine CW.exit ?_
    refine CW.seq (CW.reg ?_)
    refine WL.ev rfl rfl (Ev.mv rfl rfl) (WL.ev rfl rfl (Ev.as rfl rfl) (WL.nil ?_))
    refine CW.ret ?_
    obtain rfl := sm hr
    exact ⟨_, res1 rfl rfl rfl, H.ext0, _, _, _, rfl, H.outM (fr' := []) [false, false, true] fun _ _ => trivial⟩

noncomputable def iEmptyRelation_m (a0 : Int) : Option Relation :=
  (iwithin_m a0 0 16).bind fun y1 =>
  if y1 = true then (
  grd (0 ≤ a0 ∧ a0 * 8 ≤ 281474976710656 ∧ a0 ≤ 9223372036854775807) <|
  some (⟨a0, (List.replicate a0.toNat (0 : Int))⟩ : Relation)
  ) else (
  some (⟨0, []⟩ : Relation)
  )
theorem iEmptyRelation_ok {a0 : Int} {r : Relation} (hr : iEmptyRelation_m a0 = some r) {F0 : Nat → Prop} {w0 : World} (ha0 : I64 a0) :
    Ret Tryz.prog 61 #[.int .i64 a0] w0 (fun _ => False) fun v w => ∃ A0 : Option Addr, ∃ n0 c0 : Nat, v = .agg #[.int .i64 r.N, (.slice A0 n0 c0)] ∧ I64 r.N ∧ HL F0 [] w0 w [] [It.O 3 r.Rows (.slice A0 n0 c0)] := by
  have H := HL.start F0 w0
  refine enter Tryz.func61 rfl rfl rfl ?_
  refine CW.seq (CW.reg ?_)
  refine WL.allocH rfl rfl rfl ze35 H fun b1 w1 H => ?_
  refine WL.nil ?_
  refine CW.seq (CW.seq (CW.reg ?_))
  refine WL.ev rfl rfl (Ev.mv rfl rfl) ?_
  obtain ⟨y1, hy1, hr⟩ := bd hr
  refine WL.call rfl rfl rfl rfl rfl ok117 rfl (iwithin_ok hy1 (F0 := fun _ => False) ha0 (by decide : I64 0) (by decide : I64 16)) ?_
  rintro _ w2 hE rfl
  have H := H.ext hE
  refine WL.ev rfl rfl (Ev.not rfl rfl) (WL.nil ?_)
  refine CW.condBN rfl (fun h1 => ?_) (fun h1 => ?_)
  · skip
    have hr := ifn h1 hr
    refine CW.seq (CW.reg ?_)
    refine WL.ev rfl rfl (Ev.build rfl pl35 ze35 rfl rfl rfl rfl) ?_
    refine WL.stB (i := 0) rfl rfl rfl sz35 rfl rfl rfl rfl (all1 rfl (all1 rfl all0)) H rfl rfl rfl fun w3 H => ?_
    refine WL.nil ?_
    refine CW.ret ?_
    have H := H.nil (α := Int) 3
    obtain rfl := sm hr
    exact ⟨_, resC rfl ag35 sz35 rfl rfl (At.blk (H.rB (i := 0) rfl)) rfl, H.ext0, _, _, _, rfl, (by decide : I64 0), H.outM (fr' := []) [false, true] fun _ _ => trivial⟩
  · skip
    have hr := ifp h1 hr
    refine CW.skip ?_
    refine CW.seq (CW.reg ?_)
    refine WL.ev rfl rfl (Ev.mv rfl rfl) (WL.ev rfl rfl (Ev.mv rfl rfl) ?_)
    obtain ⟨hg1, hr⟩ := grd_some hr
    refine WL.mkH (x := (0 : Int)) rfl rfl rfl el33 sz3 by3 ze3 (fun _ => ⟨rfl, rfl, (by decide : I64 0)⟩) rfl rfl hg1 H fun A1 n1 c1 w4 H => ?_
    refine WL.ev rfl rfl (Ev.build rfl pl35 ze35 rfl rfl rfl rfl) ?_
    refine WL.stB (i := 0) rfl rfl rfl sz35 rfl rfl rfl rfl (all1 rfl (all1 rfl all0)) H rfl rfl rfl fun w5 H => ?_
    refine WL.nil ?_
    refine CW.ret ?_
    obtain rfl := sm hr
    exact ⟨_, resC rfl ag35 sz35 rfl rfl (At.blk (H.rB (i := 0) rfl)) rfl, H.ext0, _, _, _, rfl, ha0, H.outM (fr' := []) [false, true] fun _ _ => trivial⟩

noncomputable def icopyExpr_L1 (rec_icopyExpr : Expr → Option Expr) : Nat → Expr → (List Expr) → Option (List Expr) := fun k1 x1 s1 => 
  (rec_icopyExpr x1).bind fun y1 =>
  grd (((s1.length : Int) + 1) * 88 ≤ 140737488355328 ∧ (s1.length : Int) + 1 ≤ 9223372036854775807) <|
  some (s1 ++ [y1])
noncomputable def icopyExpr_B (rec_icopyExpr : Expr → Option Expr) (a0 : Expr) : Option Expr :=
  (eachL (icopyExpr_L1 rec_icopyExpr) 0 a0.Args ([] : List Expr)).bind fun s1 =>
  some (⟨a0.Kind, a0.N, a0.Pos, a0.Type_, a0.Symbol, a0.Name, s1⟩ : Expr)
theorem icopyExpr_okB {rec_icopyExpr : Expr → Option Expr} (ih_icopyExpr : ∀ {a0 : Expr} {r : Expr}, rec_icopyExpr a0 = some r → ∀ {F0 : Nat → Prop} {w0 : World} {ca0 : List Value} (ha0 : rd F0 w0 a0 ca0), Ret Tryz.prog 125 #[.agg ca0.toArray] w0 (fun _ => False) fun v w => ∃ A0 : Option Addr, ∃ n0 c0 : Nat, v = .agg #[.int .i64 r.Kind, .int .i64 r.N, .int .i64 r.Pos, .int .i64 r.Type_, .string r.Symbol, .string r.Name, (.slice A0 n0 c0)] ∧ I64 r.Kind ∧ I64 r.N ∧ I64 r.Pos ∧ I64 r.Type_ ∧ r.Symbol.size ≤ 9223372036854775807 ∧ r.Name.size ≤ 9223372036854775807 ∧ HL F0 [] w0 w [Pr.S r.Args (.slice A0 n0 c0)] []) {a0 : Expr} {r : Expr} (hr : icopyExpr_B rec_icopyExpr a0 = some r) {F0 : Nat → Prop} {w0 : World} {ca0 : List Value} (ha0 : rd F0 w0 a0 ca0) :
    Ret Tryz.prog 125 #[.agg ca0.toArray] w0 (fun _ => False) fun v w => ∃ A0 : Option Addr, ∃ n0 c0 : Nat, v = .agg #[.int .i64 r.Kind, .int .i64 r.N, .int .i64 r.Pos, .int .i64 r.Type_, .string r.Symbol, .string r.Name, (.slice A0 n0 c0)] ∧ I64 r.Kind ∧ I64 r.N ∧ I64 r.Pos ∧ I64 r.Type_ ∧ r.Symbol.size ≤ 9223372036854775807 ∧ r.Name.size ≤ 9223372036854775807 ∧ HL F0 [] w0 w [Pr.S r.Args (.slice A0 n0 c0)] [] := by
  have H := (HL.start F0 w0).argR ha0
  obtain ⟨A1, n1, c1, rfl, hI1, hI2, hI3, hI4, hS1, hS2, H⟩ := op_Expr H (i := 0) rfl
  refine enter Tryz.func125 rfl rfl rfl ?_
  refine CW.seq (CW.reg ?_)
  refine WL.boxH rfl rfl rfl rfl rfl H fun b1 w1 H => ?_
  refine WL.allocH rfl rfl rfl ze86 H fun b2 w2 H => ?_
  refine WL.nil ?_
  refine CW.seq (CW.reg ?_)
  refine WL.ev rfl rfl (Ev.as rfl rfl) (WL.nil ?_)
  refine CW.seq (CW.seq (CW.reg ?_))
  refine WL.ev rfl rfl (Ev.fa rfl fo86_6 rfl) (WL.ev rfl rfl (Ev.ld rfl ag84 rfl ((H.rB (i := 0) rfl).cell rfl)) ?_)
  have hl1 := (H.rS (i := 1) rfl).I
  refine WL.ev rfl rfl (Ev.lenV rfl el84 rfl (H.rS (i := 1) rfl)) (WL.ev rfl rfl (Ev.mv rfl rfl) (WL.nil ?_))
  have H := H.nilG (α := Expr) 86
  obtain ⟨q1, hq1, hr⟩ := bd hr
  refine CW.block (CW.loop (α := Nat × (List Expr) × Value) (fun ⟨k1, s1, v1⟩ => [(1, .pointer (some ⟨b1, 0, none⟩)), (2, .pointer (some ⟨b2, 0, none⟩)), (3, v1), (7, .slice A1 n1 c1), (8, .int .i64 (a0.Args.length : Int)), (9, .int .i64 (k1 : Int))]) (fun ⟨k1, s1, v1⟩ w => k1 ≤ a0.Args.length ∧ eachL (icopyExpr_L1 rec_icopyExpr) k1 (a0.Args.drop k1) s1 = some q1 ∧ HL F0 [] w0 w [Pr.R a0 [.int .i64 a0.Kind, .int .i64 a0.N, .int .i64 a0.Pos, .int .i64 a0.Type_, .string a0.Symbol, .string a0.Name, .slice A1 n1 c1], Pr.S a0.Args (.slice A1 n1 c1)] [It.B b1 86 [.int .i64 a0.Kind, .int .i64 a0.N, .int .i64 a0.Pos, .int .i64 a0.Type_, .string a0.Symbol, .string a0.Name, .slice A1 n1 c1], It.B b2 86 [.int .i64 0, .int .i64 0, .int .i64 0, .int .i64 0, .string (⟨#[]⟩ : ByteArray), .string (⟨#[]⟩ : ByteArray), .slice none 0 0], It.G 86 s1 v1]) (fun ⟨k1, s1, v1⟩ => a0.Args.length - k1) ⟨0, ([] : List Expr), (.slice none 0 0)⟩ ⟨rfl, rfl, rfl, rfl, rfl, rfl, trivial⟩ ⟨Nat.zero_le _, hq1, H.keep 2 3⟩ ?_)
  rintro ⟨k1, s1, v1⟩ σ w3 ⟨hk1, hq1, H⟩
  obtain ⟨A2, n2, c2, rfl⟩ := (H.rG (i := 2) rfl).form3
  refine CW.seq (CW.reg ?_)
  refine WL.ev rfl rfl (Ev.bin rfl rfl rfl Bin.lss) (WL.nil ?_)
  refine CW.seq (CW.condD rfl (fun h1 => ?_) (fun h1 => ?_))
  · skip
    have hk2 := cast_lt h1
    obtain ⟨x1, z1, hx1, hb1, hq1⟩ := eachL_go hq1 hk2
    refine CW.skip ?_
    refine CW.seq (CW.block (CW.seq (CW.reg ?_)))
    obtain ⟨b3, ob3, cb3, A3, n3, c3, hvb3, hI5, hI6, hI7, hI8, hS3, hS4, H⟩ := ixS_Expr H (i := 1) rfl hx1
    refine WL.ev rfl rfl (Ev.ixVN rfl el84 sz86 rfl hvb3 rfl (lt_of hx1)) (WL.ev rfl rfl (Ev.lda rfl ag86 sz86 rfl (H.rA (i := 2) rfl) rfl) ?_)
    refine WL.allocH rfl rfl rfl ze86 H fun b4 w4 H => ?_
    refine WL.stB (i := 3) rfl rfl rfl sz86 rfl rfl rfl rfl (all1 rfl (all1 rfl (all1 rfl (all1 rfl (all1 rfl (all1 rfl (all1 rfl all0))))))) H rfl rfl rfl fun w5 H => ?_
    refine WL.nil ?_
    refine CW.reg ?_
    refine WL.ev rfl rfl (Ev.mv rfl rfl) (WL.ev rfl rfl (Ev.lda rfl ag86 sz86 rfl (At.blk (H.rB (i := 3) rfl)) rfl) ?_)
    obtain ⟨y1, hy1, hb1⟩ := bd hb1
    obtain ⟨F, hF, hcl⟩ := H.call
    refine WL.call rfl rfl rfl rfl rfl ok125 rfl (ih_icopyExpr hy1 (Expr_rd.2 ⟨_, rfl, hI5, hI6, hI7, hI8, hS3, hS4, (hF.get (i := 4) rfl)⟩)) ?_
    rintro _ w6 hE ⟨A4, n4, c4, rfl, hI9, hI10, hI11, hI12, hS5, hS6, H'⟩
    have H : HL F0 [] w0 w6 [Pr.R a0 [.int .i64 a0.Kind, .int .i64 a0.N, .int .i64 a0.Pos, .int .i64 a0.Type_, .string a0.Symbol, .string a0.Name, .slice A1 n1 c1], Pr.S a0.Args (.slice A1 n1 c1), Pr.A b3 (ob3 + k1 * 7) [.int .i64 x1.Kind, .int .i64 x1.N, .int .i64 x1.Pos, .int .i64 x1.Type_, .string x1.Symbol, .string x1.Name, .slice A3 n3 c3], Pr.R x1 [.int .i64 x1.Kind, .int .i64 x1.N, .int .i64 x1.Pos, .int .i64 x1.Type_, .string x1.Symbol, .string x1.Name, .slice A3 n3 c3], Pr.S x1.Args (.slice A3 n3 c3), Pr.S y1.Args (.slice A4 n4 c4)] [It.B b1 86 [.int .i64 a0.Kind, .int .i64 a0.N, .int .i64 a0.Pos, .int .i64 a0.Type_, .string a0.Symbol, .string a0.Name, .slice A1 n1 c1], It.B b2 86 [.int .i64 0, .int .i64 0, .int .i64 0, .int .i64 0, .string (⟨#[]⟩ : ByteArray), .string (⟨#[]⟩ : ByteArray), .slice none 0 0], It.G 86 s1 (.slice A2 n2 c2), It.B b4 86 [.int .i64 x1.Kind, .int .i64 x1.N, .int .i64 x1.Pos, .int .i64 x1.Type_, .string x1.Symbol, .string x1.Name, .slice A3 n3 c3]] := hcl H'
    refine WL.lit1 rfl rfl rfl el84 sz86 ze86 rfl rfl rfl rfl rfl rfl fun b5 w7 hE hb hB => ?_
    have H := H.newB hE hb hB
    obtain ⟨hg1, hb1⟩ := grd_some hb1
    refine WL.appG (i := 2) (ys := [y1]) rfl rfl rfl el84 sz86 by86 ze86 rfl rfl rfl H rfl (fun F hF => rdL.single (Expr_rd.2 ⟨_, rfl, hI9, hI10, hI11, hI12, hS5, hS6, (hF.get (i := 5) rfl)⟩)) (.inr ⟨_, _, rfl, At.blk (H.rB (i := 4) rfl)⟩) hg1 fun A5 n5 c5 w8 H => ?_
    refine WL.ev rfl rfl (Ev.as rfl rfl) (WL.nil ?_)
    refine CW.reg ?_
    refine WL.ev rfl rfl (Ev.bin rfl rfl rfl (Bin.addN (a := k1) (b := 1) rfl (i64_succN hk2 hl1.2))) (WL.ev rfl rfl (Ev.mv rfl rfl) (WL.nil ?_))
    obtain rfl := sm hb1
    exact ⟨⟨k1 + 1, (s1 ++ [y1]), (.slice A5 n5 c5)⟩, ⟨rfl, rfl, rfl, rfl, rfl, rfl, trivial⟩, ⟨hk2, hq1, H.keep 2 3⟩, Nat.sub_lt_sub_left hk2 (Nat.lt_succ_self _)⟩
  · skip
    obtain rfl := eachL_end hq1 (not_cast_lt h1)
    refine CW.exit ?_
    refine CW.seq (CW.reg ?_)
    refine WL.ev rfl rfl (Ev.mv rfl rfl) (WL.ev rfl rfl (Ev.fa rfl fo86_6 rfl) ?_)
    refine WL.stB (i := 0) rfl rfl rfl sz84 rfl rfl rfl rfl (all1 rfl all0) H rfl rfl rfl fun w9 H => ?_
    refine WL.nil ?_
    refine CW.seq (CW.reg ?_)
    refine WL.ev rfl rfl (Ev.lda rfl ag86 sz86 rfl (At.blk (H.rB (i := 0) rfl)) rfl) ?_
    refine WL.stB (i := 1) rfl rfl rfl sz86 rfl rfl rfl rfl (all1 rfl (all1 rfl (all1 rfl (all1 rfl (all1 rfl (all1 rfl (all1 rfl all0))))))) H rfl rfl rfl fun w10 H => ?_
    refine WL.nil ?_
    refine CW.ret ?_
    have H := H.frzG (i := 2) rfl
    obtain rfl := sm hr
    exact ⟨_, resC rfl ag86 sz86 rfl rfl (At.blk (H.rB (i := 1) rfl)) rfl, H.ext0, _, _, _, rfl, hI1, hI2, hI3, hI4, hS1, hS2, H.outM (fr' := [Pr.S s1 (.slice A2 n2 c2)]) [false, false, false] fun _ h => ⟨h.get (i := 2) rfl, trivial⟩⟩
noncomputable def icopyExpr_n : Nat → Expr → Option Expr
  | 0, _ => none
  | n + 1, a0 => icopyExpr_B (icopyExpr_n n) a0
noncomputable def icopyExpr_m (a0 : Expr) : Option Expr := recO fun n => icopyExpr_n n a0
theorem icopyExpr_okn (n : Nat) : ∀ {a0 : Expr} {r : Expr}, icopyExpr_n n a0 = some r → ∀ {F0 : Nat → Prop} {w0 : World} {ca0 : List Value} (ha0 : rd F0 w0 a0 ca0), Ret Tryz.prog 125 #[.agg ca0.toArray] w0 (fun _ => False) fun v w => ∃ A0 : Option Addr, ∃ n0 c0 : Nat, v = .agg #[.int .i64 r.Kind, .int .i64 r.N, .int .i64 r.Pos, .int .i64 r.Type_, .string r.Symbol, .string r.Name, (.slice A0 n0 c0)] ∧ I64 r.Kind ∧ I64 r.N ∧ I64 r.Pos ∧ I64 r.Type_ ∧ r.Symbol.size ≤ 9223372036854775807 ∧ r.Name.size ≤ 9223372036854775807 ∧ HL F0 [] w0 w [Pr.S r.Args (.slice A0 n0 c0)] [] := by
  induction n with
  | zero => intro a0 r hr; exact nomatch (show (none : Option Expr) = some r from hr)
  | succ n ih => intro a0 r hr; exact icopyExpr_okB ih hr
theorem icopyExpr_ok {a0 : Expr} {r : Expr} (hr : icopyExpr_m a0 = some r) {F0 : Nat → Prop} {w0 : World} {ca0 : List Value} (ha0 : rd F0 w0 a0 ca0) :
    Ret Tryz.prog 125 #[.agg ca0.toArray] w0 (fun _ => False) fun v w => ∃ A0 : Option Addr, ∃ n0 c0 : Nat, v = .agg #[.int .i64 r.Kind, .int .i64 r.N, .int .i64 r.Pos, .int .i64 r.Type_, .string r.Symbol, .string r.Name, (.slice A0 n0 c0)] ∧ I64 r.Kind ∧ I64 r.N ∧ I64 r.Pos ∧ I64 r.Type_ ∧ r.Symbol.size ≤ 9223372036854775807 ∧ r.Name.size ≤ 9223372036854775807 ∧ HL F0 [] w0 w [Pr.S r.Args (.slice A0 n0 c0)] [] := by
  obtain ⟨n, hn⟩ := recO_some hr
  exact icopyExpr_okn n hn ha0

noncomputable def iFindEquation_L1 (a1 : Occurrence) : Nat → Equation → Unit → Option (Unit ⊕ (Expr × Bool)) := fun k1 x1 _ => 
  if x1.At = a1 then (
  (icopyExpr_m x1.Expr).bind fun y1 =>
  some (.inr (y1, true))
  ) else (
  some (.inl ())
  )
noncomputable def iFindEquation_m (a0 : Rule) (a1 : Occurrence) : Option (Expr × Bool) :=
  (findL (iFindEquation_L1 a1) 0 a0.Equations ()).bind <| onr (fun r1 => some r1) fun _ =>
  some ((⟨0, 0, 0, 0, (⟨#[]⟩ : ByteArray), (⟨#[]⟩ : ByteArray), []⟩ : Expr), false)
theorem iFindEquation_ok {a0 : Rule} {a1 : Occurrence} {r : (Expr × Bool)} (hr : iFindEquation_m a0 a1 = some r) {F0 : Nat → Prop} {w0 : World} {ca0 : List Value} (ha0 : rd F0 w0 a0 ca0) {ca1 : List Value} (ha1 : rd F0 w0 a1 ca1) :
    Ret Tryz.prog 62 #[.agg ca0.toArray, .agg ca1.toArray] w0 (fun _ => False) fun v w => ∃ A0 : Option Addr, ∃ n0 c0 : Nat, v = .tuple #[.agg #[.int .i64 r.1.Kind, .int .i64 r.1.N, .int .i64 r.1.Pos, .int .i64 r.1.Type_, .string r.1.Symbol, .string r.1.Name, (.slice A0 n0 c0)], .bool r.2] ∧ I64 r.1.Kind ∧ I64 r.1.N ∧ I64 r.1.Pos ∧ I64 r.1.Type_ ∧ r.1.Symbol.size ≤ 9223372036854775807 ∧ r.1.Name.size ≤ 9223372036854775807 ∧ HL F0 [] w0 w [Pr.S r.1.Args (.slice A0 n0 c0)] [] := by
  have H := ((HL.start F0 w0).argR ha0).argR ha1
  obtain ⟨A1, n1, c1, A2, n2, c2, A3, n3, c3, rfl, hS1, hS2, H⟩ := op_Rule H (i := 0) rfl
  obtain ⟨rfl, hI1, hS3, H⟩ := op_Occurrence H (i := 1) rfl
  refine enter Tryz.func62 rfl rfl rfl ?_
  refine CW.seq (CW.reg ?_)
  refine WL.boxH rfl rfl rfl rfl rfl H fun b1 w1 H => ?_
  refine WL.boxH rfl rfl rfl rfl rfl H fun b2 w2 H => ?_
  refine WL.allocH rfl rfl rfl ze86 H fun b3 w3 H => ?_
  refine WL.ev rfl rfl (Ev.as rfl rfl) (WL.nil ?_)
  refine CW.seq (CW.seq (CW.reg ?_))
  refine WL.ev rfl rfl (Ev.fa rfl fo45_4 rfl) (WL.ev rfl rfl (Ev.ld rfl ag42 rfl ((H.rB (i := 0) rfl).cell rfl)) ?_)
  have hl1 := (H.rS (i := 3) rfl).I
  refine WL.ev rfl rfl (Ev.lenV rfl el42 rfl (H.rS (i := 3) rfl)) (WL.ev rfl rfl (Ev.mv rfl rfl) (WL.nil ?_))
  obtain ⟨q1, hq1, hr⟩ := bd hr
  refine CW.block (CW.loop (α := Nat) (fun k1 => [(3, .pointer (some ⟨b2, 0, none⟩)), (4, .pointer (some ⟨b3, 0, none⟩)), (9, .slice A2 n2 c2), (10, .int .i64 (a0.Equations.length : Int)), (11, .int .i64 (k1 : Int))]) (fun k1 w => k1 ≤ a0.Equations.length ∧ findL (iFindEquation_L1 a1) k1 (a0.Equations.drop k1) () = some q1 ∧ HL F0 [] w0 w [Pr.R a0 [.string a0.Name, .string a0.Left, .slice A1 n1 c1, .bool a0.Literal, .slice A2 n2 c2, .slice A3 n3 c3], Pr.R a1 [.int .i64 a1.Pos, .string a1.Name], Pr.S a0.Right (.slice A1 n1 c1), Pr.S a0.Equations (.slice A2 n2 c2), Pr.S a0.Contributions (.slice A3 n3 c3)] [It.B b1 45 [.string a0.Name, .string a0.Left, .slice A1 n1 c1, .bool a0.Literal, .slice A2 n2 c2, .slice A3 n3 c3], It.B b2 90 [.int .i64 a1.Pos, .string a1.Name], It.B b3 86 [.int .i64 0, .int .i64 0, .int .i64 0, .int .i64 0, .string (⟨#[]⟩ : ByteArray), .string (⟨#[]⟩ : ByteArray), .slice none 0 0]]) (fun k1 => a0.Equations.length - k1) 0 ⟨rfl, rfl, rfl, rfl, rfl, trivial⟩ ⟨Nat.zero_le _, hq1, H.keep 5 3⟩ ?_)
  rintro k1 σ w4 ⟨hk1, hq1, H⟩
  refine CW.seq (CW.reg ?_)
  refine WL.ev rfl rfl (Ev.bin rfl rfl rfl Bin.lss) (WL.nil ?_)
  refine CW.seq (CW.condD rfl (fun h1 => ?_) (fun h1 => ?_))
  · skip
    have hk2 := cast_lt h1
    obtain ⟨x1, z1, hx1, hb1, hs1, ht1⟩ := findL_go hq1 hk2
    refine CW.skip ?_
    refine CW.seq (CW.block (CW.seq (CW.reg ?_)))
    obtain ⟨b4, ob4, cb4, A4, n4, c4, hvb4, hI2, hS4, hI3, hI4, hI5, hI6, hS5, hS6, H⟩ := ixS_Equation H (i := 3) rfl hx1
    refine WL.ev rfl rfl (Ev.ixVN rfl el42 sz165 rfl hvb4 rfl (lt_of hx1)) (WL.ev rfl rfl (Ev.lda rfl ag165 sz165 rfl (H.rA (i := 5) rfl) rfl) ?_)
    refine WL.allocH rfl rfl rfl ze165 H fun b5 w5 H => ?_
    refine WL.stB (i := 3) rfl rfl rfl sz165 rfl rfl rfl rfl (all1 rfl (all1 rfl (all1 rfl (all1 rfl (all1 rfl (all1 rfl (all1 rfl (all1 rfl (all1 rfl all0))))))))) H rfl rfl rfl fun w6 H => ?_
    refine WL.nil ?_
    refine CW.seq (CW.reg ?_)
    refine WL.ev rfl rfl (Ev.fa rfl fo165_0 rfl) (WL.ev rfl rfl (Ev.lda rfl ag90 sz90 rfl (Blk.part (H.rB (i := 3) rfl) 0 2) rfl) (WL.ev rfl rfl (Ev.lda rfl ag90 sz90 rfl (At.blk (H.rB (i := 1) rfl)) rfl) (WL.ev rfl rfl (Ev.bin rfl rfl rfl (Bin.eqlF fl90 (Occurrence_eqF x1.At a1))) (WL.nil ?_))))
    refine CW.condD rfl (fun h2 => ?_) (fun h2 => ?_)
    · skip
      have hb1 := ifp h2 hb1
      refine CW.seq (CW.reg ?_)
      refine WL.ev rfl rfl (Ev.fa rfl fo165_1 rfl) (WL.ev rfl rfl (Ev.lda rfl ag86 sz86 rfl (Blk.part (H.rB (i := 3) rfl) 2 7) rfl) ?_)
      obtain ⟨y1, hy1, hb1⟩ := bd hb1
      obtain ⟨F, hF, hcl⟩ := H.call
      refine WL.call rfl rfl rfl rfl rfl ok125 rfl (icopyExpr_ok hy1 (Expr_rd.2 ⟨_, rfl, hI3, hI4, hI5, hI6, hS5, hS6, (hF.get (i := 7) rfl)⟩)) ?_
      rintro _ w7 hE ⟨A5, n5, c5, rfl, hI7, hI8, hI9, hI10, hS7, hS8, H'⟩
      have H : HL F0 [] w0 w7 [Pr.R a0 [.string a0.Name, .string a0.Left, .slice A1 n1 c1, .bool a0.Literal, .slice A2 n2 c2, .slice A3 n3 c3], Pr.R a1 [.int .i64 a1.Pos, .string a1.Name], Pr.S a0.Right (.slice A1 n1 c1), Pr.S a0.Equations (.slice A2 n2 c2), Pr.S a0.Contributions (.slice A3 n3 c3), Pr.A b4 (ob4 + k1 * 9) [.int .i64 x1.At.Pos, .string x1.At.Name, .int .i64 x1.Expr.Kind, .int .i64 x1.Expr.N, .int .i64 x1.Expr.Pos, .int .i64 x1.Expr.Type_, .string x1.Expr.Symbol, .string x1.Expr.Name, .slice A4 n4 c4], Pr.R x1 [.int .i64 x1.At.Pos, .string x1.At.Name, .int .i64 x1.Expr.Kind, .int .i64 x1.Expr.N, .int .i64 x1.Expr.Pos, .int .i64 x1.Expr.Type_, .string x1.Expr.Symbol, .string x1.Expr.Name, .slice A4 n4 c4], Pr.S x1.Expr.Args (.slice A4 n4 c4), Pr.S y1.Args (.slice A5 n5 c5)] [It.B b1 45 [.string a0.Name, .string a0.Left, .slice A1 n1 c1, .bool a0.Literal, .slice A2 n2 c2, .slice A3 n3 c3], It.B b2 90 [.int .i64 a1.Pos, .string a1.Name], It.B b3 86 [.int .i64 0, .int .i64 0, .int .i64 0, .int .i64 0, .string (⟨#[]⟩ : ByteArray), .string (⟨#[]⟩ : ByteArray), .slice none 0 0], It.B b5 165 [.int .i64 x1.At.Pos, .string x1.At.Name, .int .i64 x1.Expr.Kind, .int .i64 x1.Expr.N, .int .i64 x1.Expr.Pos, .int .i64 x1.Expr.Type_, .string x1.Expr.Symbol, .string x1.Expr.Name, .slice A4 n4 c4]] := hcl H'
      refine WL.stB (i := 2) rfl rfl rfl sz86 rfl rfl rfl rfl (all1 rfl (all1 rfl (all1 rfl (all1 rfl (all1 rfl (all1 rfl (all1 rfl all0))))))) H rfl rfl rfl fun w8 H => ?_
      refine WL.ev rfl rfl (Ev.as rfl rfl) (WL.nil ?_)
      refine CW.ret ?_
      obtain rfl := sm hb1
      obtain rfl := ht1 _ rfl
      obtain rfl := sm hr
      exact ⟨_, resC1 rfl ag86 sz86 rfl rfl rfl rfl (At.blk (H.rB (i := 2) rfl)) rfl, H.ext0, _, _, _, rfl, hI7, hI8, hI9, hI10, hS7, hS8, H.outM (fr' := [Pr.S y1.Args (.slice A5 n5 c5)]) [false, false, false, false] fun _ h => ⟨h.get (i := 8) rfl, trivial⟩⟩
    · skip
      have hb1 := ifn h2 hb1
      refine CW.skip ?_
      refine CW.reg ?_
      refine WL.ev rfl rfl (Ev.bin rfl rfl rfl (Bin.addN (a := k1) (b := 1) rfl (i64_succN hk2 hl1.2))) (WL.ev rfl rfl (Ev.mv rfl rfl) (WL.nil ?_))
      obtain rfl := sm hb1
      have hq1 := hs1 _ rfl
      exact ⟨(k1 + 1), ⟨rfl, rfl, rfl, rfl, rfl, trivial⟩, ⟨hk2, hq1, H.keep 5 3⟩, Nat.sub_lt_sub_left hk2 (Nat.lt_succ_self _)⟩
  · skip
    obtain rfl := findL_end hq1 (not_cast_lt h1)
    refine CW.exit ?_
    refine CW.seq (CW.reg ?_)
    refine WL.ev rfl rfl (Ev.build rfl pl86 ze86 rfl rfl rfl rfl) ?_
    refine WL.stB (i := 2) rfl rfl rfl sz86 rfl rfl rfl rfl (all1 rfl (all1 rfl (all1 rfl (all1 rfl (all1 rfl (all1 rfl (all1 rfl all0))))))) H rfl rfl rfl fun w9 H => ?_
    refine WL.ev rfl rfl (Ev.as rfl rfl) (WL.nil ?_)
    refine CW.ret ?_
    have H := H.nilS (α := Expr)
    obtain rfl := sm hr
    exact ⟨_, resC1 rfl ag86 sz86 rfl rfl rfl rfl (At.blk (H.rB (i := 2) rfl)) rfl, H.ext0, _, _, _, rfl, (by decide : I64 0), (by decide : I64 0), (by decide : I64 0), (by decide : I64 0), (by decide), (by decide), H.outM (fr' := [Pr.S ([] : List Expr) (.slice none 0 0)]) [false, false, false] fun _ h => ⟨h.get (i := 5) rfl, trivial⟩⟩

noncomputable def iAttributeUses_1_m (a0 : Expr) (o1 : (List Occurrence)) : Option (Bool × (List Occurrence)) :=
  if a0.Kind = 3 then (
  grd (((o1.length : Int) + 1) * 24 ≤ 140737488355328 ∧ (o1.length : Int) + 1 ≤ 9223372036854775807) <|
  some (true, (o1 ++ [(⟨a0.Pos, a0.Name⟩ : Occurrence)]))
  ) else (
  some (true, o1)
  )
theorem iAttributeUses_1_ok {a0 : Expr} {o1 : (List Occurrence)} {r : (Bool × (List Occurrence))} (hr : iAttributeUses_1_m a0 o1 = some r) {F0 : Nat → Prop} {M : List Nat} {w0 : World} {bo1 : Nat} {Aa0_6 : Option Addr} {na0_6 ca0_6 : Nat} {Ao1_0 : Option Addr} {no1_0 co1_0 : Nat} (hIa0_0 : I64 a0.Kind) (hIa0_1 : I64 a0.N) (hIa0_2 : I64 a0.Pos) (hIa0_3 : I64 a0.Type_) (hIa0_4 : a0.Symbol.size ≤ 9223372036854775807) (hIa0_5 : a0.Name.size ≤ 9223372036854775807) (H : HL F0 M w0 w0 [Pr.S a0.Args (.slice Aa0_6 na0_6 ca0_6)] [It.O 90 o1 (.slice Ao1_0 no1_0 co1_0), It.B bo1 76 [.slice Ao1_0 no1_0 co1_0]]) :
    Ret Tryz.prog 127 #[.agg #[.int .i64 a0.Kind, .int .i64 a0.N, .int .i64 a0.Pos, .int .i64 a0.Type_, .string a0.Symbol, .string a0.Name, .slice Aa0_6 na0_6 ca0_6], .pointer (some ⟨bo1, 0, none⟩)] w0 (· ∈ M) fun v w => ∃ A0 : Option Addr, ∃ n0 c0 : Nat, v = .bool r.1 ∧ HL F0 M w0 w [] [It.O 90 r.2 (.slice A0 n0 c0), It.B bo1 76 [(.slice A0 n0 c0)]] := by
  refine enter Tryz.func127 rfl rfl rfl ?_
  refine CW.seq (CW.reg ?_)
  refine WL.boxH rfl rfl rfl rfl rfl H fun b1 w1 H => ?_
  refine WL.ev rfl rfl (Ev.as rfl rfl) (WL.nil ?_)
  refine CW.seq (CW.seq (CW.reg ?_))
  refine WL.ev rfl rfl (Ev.fa rfl fo86_0 rfl) (WL.ev rfl rfl (Ev.ld rfl ag3 rfl ((H.rB (i := 2) rfl).cell rfl)) (WL.ev rfl rfl (Ev.bin rfl rfl rfl Bin.eql) (WL.nil ?_)))
  refine CW.condD rfl (fun h1 => ?_) (fun h1 => ?_)
  · skip
    have hr := ifp h1 hr
    refine CW.reg ?_
    refine WL.ev rfl rfl (Ev.ld rfl ag76 rfl ((H.rB (i := 1) rfl).cell rfl)) (WL.ev rfl rfl (Ev.fa rfl fo86_2 rfl) (WL.ev rfl rfl (Ev.ld rfl ag3 rfl ((H.rB (i := 2) rfl).cell rfl)) (WL.ev rfl rfl (Ev.fa rfl fo86_5 rfl) (WL.ev rfl rfl (Ev.ld rfl ag9 rfl ((H.rB (i := 2) rfl).cell rfl)) (WL.ev rfl rfl (Ev.build rfl pl90 ze90 rfl rfl rfl rfl) ?_)))))
    refine WL.lit1 rfl rfl rfl el76 sz90 ze90 rfl rfl rfl rfl rfl rfl fun b2 w2 hE hb hB => ?_
    have H := H.newB hE hb hB
    obtain ⟨hg1, hr⟩ := grd_some hr
    refine WL.appO (i := 0) (ys := [(⟨a0.Pos, a0.Name⟩ : Occurrence)]) rfl rfl rfl el76 sz90 by90 ze90 rfl rfl rfl H rfl (fun _ => ownL.single ⟨rfl, hIa0_2, hIa0_5, rfl⟩) (.inr ⟨_, _, rfl, At.blk (H.rB (i := 3) rfl)⟩) hg1 fun A1 n1 c1 w3 H => ?_
    refine WL.stB (i := 1) rfl rfl rfl sz76 rfl rfl rfl rfl (all1 rfl all0) H rfl rfl rfl fun w4 H => ?_
    refine WL.nil ?_
    refine CW.seq (CW.reg ?_)
    refine WL.ev rfl rfl (Ev.as rfl rfl) (WL.nil ?_)
    refine CW.ret ?_
    obtain rfl := sm hr
    exact ⟨_, res1 rfl rfl rfl, H.chg, _, _, _, rfl, H.outM (fr' := []) [true, true, false, false] fun _ _ => trivial⟩
  · skip
    have hr := ifn h1 hr
    refine CW.skip ?_
    refine CW.seq (CW.reg ?_)
    refine WL.ev rfl rfl (Ev.as rfl rfl) (WL.nil ?_)
    refine CW.ret ?_
    obtain rfl := sm hr
    exact ⟨_, res1 rfl rfl rfl, H.chg, _, _, _, rfl, H.outM (fr' := []) [true, true, false] fun _ _ => trivial⟩

noncomputable def ieveryNode_1_m (rec_ieveryNode_iAttributeUses_1 : Expr → (List Occurrence) → Option (Bool × (List Occurrence))) (a0 : Expr) (o1 : (List Occurrence)) : Option (Bool × (List Occurrence)) :=
  (rec_ieveryNode_iAttributeUses_1 a0 o1).bind fun (y1, z1) =>
  some (!y1, z1)
theorem ieveryNode_1_ok {rec_ieveryNode_iAttributeUses_1 : Expr → (List Occurrence) → Option (Bool × (List Occurrence))} (ih_ieveryNode_iAttributeUses_1 : ∀ {a0 : Expr} {o1 : (List Occurrence)} {r : (Bool × (List Occurrence))}, rec_ieveryNode_iAttributeUses_1 a0 o1 = some r → ∀ {F0 : Nat → Prop} {M : List Nat} {w0 : World} {bo1 : Nat} {Aa0_6 : Option Addr} {na0_6 ca0_6 : Nat} {Ao1_0 : Option Addr} {no1_0 co1_0 : Nat} (hIa0_0 : I64 a0.Kind) (hIa0_1 : I64 a0.N) (hIa0_2 : I64 a0.Pos) (hIa0_3 : I64 a0.Type_) (hIa0_4 : a0.Symbol.size ≤ 9223372036854775807) (hIa0_5 : a0.Name.size ≤ 9223372036854775807) (H : HL F0 M w0 w0 [Pr.S a0.Args (.slice Aa0_6 na0_6 ca0_6)] [It.O 90 o1 (.slice Ao1_0 no1_0 co1_0), It.B bo1 76 [.slice Ao1_0 no1_0 co1_0]]), Ret Tryz.prog 126 #[.agg #[.int .i64 a0.Kind, .int .i64 a0.N, .int .i64 a0.Pos, .int .i64 a0.Type_, .string a0.Symbol, .string a0.Name, .slice Aa0_6 na0_6 ca0_6], .func (.func 127) #[] #[.pointer (some ⟨bo1, 0, none⟩)]] w0 (· ∈ M) fun v w => ∃ A0 : Option Addr, ∃ n0 c0 : Nat, v = .bool r.1 ∧ HL F0 M w0 w [] [It.O 90 r.2 (.slice A0 n0 c0), It.B bo1 76 [(.slice A0 n0 c0)]]) {a0 : Expr} {o1 : (List Occurrence)} {r : (Bool × (List Occurrence))} (hr : ieveryNode_1_m rec_ieveryNode_iAttributeUses_1 a0 o1 = some r) {F0 : Nat → Prop} {M : List Nat} {w0 : World} {bo1 : Nat} {bo2 : Nat} {Aa0_6 : Option Addr} {na0_6 ca0_6 : Nat} {Ao1_0 : Option Addr} {no1_0 co1_0 : Nat} (hIa0_0 : I64 a0.Kind) (hIa0_1 : I64 a0.N) (hIa0_2 : I64 a0.Pos) (hIa0_3 : I64 a0.Type_) (hIa0_4 : a0.Symbol.size ≤ 9223372036854775807) (hIa0_5 : a0.Name.size ≤ 9223372036854775807) (H : HL F0 M w0 w0 [Pr.S a0.Args (.slice Aa0_6 na0_6 ca0_6)] [It.O 90 o1 (.slice Ao1_0 no1_0 co1_0), It.B bo1 76 [.slice Ao1_0 no1_0 co1_0], It.B bo2 189 [.func (.func 127) #[] #[.pointer (some ⟨bo1, 0, none⟩)]]]) :
    Ret Tryz.prog 173 #[.agg #[.int .i64 a0.Kind, .int .i64 a0.N, .int .i64 a0.Pos, .int .i64 a0.Type_, .string a0.Symbol, .string a0.Name, .slice Aa0_6 na0_6 ca0_6], .pointer (some ⟨bo2, 0, none⟩)] w0 (· ∈ M) fun v w => ∃ A0 : Option Addr, ∃ n0 c0 : Nat, v = .bool r.1 ∧ HL F0 M w0 w [] [It.O 90 r.2 (.slice A0 n0 c0), It.B bo1 76 [(.slice A0 n0 c0)], It.B bo2 189 [.func (.func 127) #[] #[.pointer (some ⟨bo1, 0, none⟩)]]] := by
  refine enter Tryz.func173 rfl rfl rfl ?_
  refine CW.seq (CW.reg ?_)
  refine WL.boxH rfl rfl rfl rfl rfl H fun b1 w1 H => ?_
  refine WL.ev rfl rfl (Ev.as rfl rfl) (WL.nil ?_)
  refine CW.seq (CW.reg ?_)
  refine WL.ev rfl rfl (Ev.lda rfl ag86 sz86 rfl (At.blk (H.rB (i := 3) rfl)) rfl) (WL.ev rfl rfl (Ev.ld rfl ag189 rfl ((H.rB (i := 2) rfl).cell rfl)) ?_)
  obtain ⟨⟨y1, z1⟩, hy1, hr⟩ := bd hr
  obtain ⟨F', M', hfF, hoF, hcM⟩ := H.callN [true, true, false, false] ⟨noO, noB, trivial⟩
  obtain ⟨H', hcN⟩ := hcM (ps := [Pr.S a0.Args (.slice Aa0_6 na0_6 ca0_6)]) ⟨hfF.get (i := 0) rfl, trivial⟩
  refine WL.call rfl rfl rfl rfl rfl ok126 rfl (ih_ieveryNode_iAttributeUses_1 hy1 hIa0_0 hIa0_1 hIa0_2 hIa0_3 hIa0_4 hIa0_5 H') ?_
  rintro _ w2 hE ⟨A1, n1, c1, rfl, H'⟩
  have H := hcN 2 H' rfl ⟨fun _ _ _ _ _ h => h, ⟨fun _ _ _ _ _ h => h, trivial⟩⟩
  refine WL.ev rfl rfl (Ev.not rfl rfl) (WL.ev rfl rfl (Ev.as rfl rfl) (WL.nil ?_))
  refine CW.ret ?_
  obtain rfl := sm hr
  exact ⟨_, res1 rfl rfl rfl, H.chg, _, _, _, rfl, H.outM (fr' := []) [true, true, true, false] fun _ _ => trivial⟩

noncomputable def slices_IndexFunc_Expr_ieveryNode_1_L1 (rec_ieveryNode_iAttributeUses_1 : Expr → (List Occurrence) → Option (Bool × (List Occurrence))) : Nat → Expr → (List Occurrence) → Option (((List Occurrence)) ⊕ (Int × (List Occurrence))) := fun k1 x1 s1 => 
  (ieveryNode_1_m rec_ieveryNode_iAttributeUses_1 x1 s1).bind fun (y1, z2) =>
  if y1 = true then (
  some (.inr ((k1 : Int), z2))
  ) else (
  some (.inl z2)
  )
noncomputable def slices_IndexFunc_Expr_ieveryNode_1_m (rec_ieveryNode_iAttributeUses_1 : Expr → (List Occurrence) → Option (Bool × (List Occurrence))) (a0 : (List Expr)) (o1 : (List Occurrence)) : Option (Int × (List Occurrence)) :=
  (findL (slices_IndexFunc_Expr_ieveryNode_1_L1 rec_ieveryNode_iAttributeUses_1) 0 a0 o1).bind <| onr (fun r1 => some r1) fun s1 =>
  some ((-1), s1)
theorem slices_IndexFunc_Expr_ieveryNode_1_ok {rec_ieveryNode_iAttributeUses_1 : Expr → (List Occurrence) → Option (Bool × (List Occurrence))} (ih_ieveryNode_iAttributeUses_1 : ∀ {a0 : Expr} {o1 : (List Occurrence)} {r : (Bool × (List Occurrence))}, rec_ieveryNode_iAttributeUses_1 a0 o1 = some r → ∀ {F0 : Nat → Prop} {M : List Nat} {w0 : World} {bo1 : Nat} {Aa0_6 : Option Addr} {na0_6 ca0_6 : Nat} {Ao1_0 : Option Addr} {no1_0 co1_0 : Nat} (hIa0_0 : I64 a0.Kind) (hIa0_1 : I64 a0.N) (hIa0_2 : I64 a0.Pos) (hIa0_3 : I64 a0.Type_) (hIa0_4 : a0.Symbol.size ≤ 9223372036854775807) (hIa0_5 : a0.Name.size ≤ 9223372036854775807) (H : HL F0 M w0 w0 [Pr.S a0.Args (.slice Aa0_6 na0_6 ca0_6)] [It.O 90 o1 (.slice Ao1_0 no1_0 co1_0), It.B bo1 76 [.slice Ao1_0 no1_0 co1_0]]), Ret Tryz.prog 126 #[.agg #[.int .i64 a0.Kind, .int .i64 a0.N, .int .i64 a0.Pos, .int .i64 a0.Type_, .string a0.Symbol, .string a0.Name, .slice Aa0_6 na0_6 ca0_6], .func (.func 127) #[] #[.pointer (some ⟨bo1, 0, none⟩)]] w0 (· ∈ M) fun v w => ∃ A0 : Option Addr, ∃ n0 c0 : Nat, v = .bool r.1 ∧ HL F0 M w0 w [] [It.O 90 r.2 (.slice A0 n0 c0), It.B bo1 76 [(.slice A0 n0 c0)]]) {a0 : (List Expr)} {o1 : (List Occurrence)} {r : (Int × (List Occurrence))} (hr : slices_IndexFunc_Expr_ieveryNode_1_m rec_ieveryNode_iAttributeUses_1 a0 o1 = some r) {F0 : Nat → Prop} {M : List Nat} {w0 : World} {bo1 : Nat} {bo2 : Nat} {Aa0 : Option Addr} {na0 ca0 : Nat} {Ao1_0 : Option Addr} {no1_0 co1_0 : Nat} (H : HL F0 M w0 w0 [Pr.S a0 (.slice Aa0 na0 ca0)] [It.O 90 o1 (.slice Ao1_0 no1_0 co1_0), It.B bo1 76 [.slice Ao1_0 no1_0 co1_0], It.B bo2 189 [.func (.func 127) #[] #[.pointer (some ⟨bo1, 0, none⟩)]]]) :
    Ret Tryz.prog 209 #[.slice Aa0 na0 ca0, .func (.func 173) #[] #[.pointer (some ⟨bo2, 0, none⟩)]] w0 (· ∈ M) fun v w => ∃ A0 : Option Addr, ∃ n0 c0 : Nat, v = .int .i64 r.1 ∧ I64 r.1 ∧ HL F0 M w0 w [] [It.O 90 r.2 (.slice A0 n0 c0), It.B bo1 76 [(.slice A0 n0 c0)], It.B bo2 189 [.func (.func 127) #[] #[.pointer (some ⟨bo1, 0, none⟩)]]] := by
  refine enter Tryz.func209 rfl rfl rfl ?_
  refine CW.seq (CW.reg ?_)
  refine WL.ev rfl rfl (Ev.as rfl rfl) (WL.nil ?_)
  refine CW.seq (CW.seq (CW.reg ?_))
  refine WL.ev rfl rfl (Ev.mv rfl rfl) ?_
  have hl1 := (H.rS (i := 0) rfl).I
  refine WL.ev rfl rfl (Ev.lenV rfl el84 rfl (H.rS (i := 0) rfl)) (WL.ev rfl rfl (Ev.mv rfl rfl) (WL.nil ?_))
  obtain ⟨q1, hq1, hr⟩ := bd hr
  refine CW.block (CW.loop (α := Nat × (List Occurrence) × Value) (fun ⟨k1, s1, v1⟩ => [(0, .slice Aa0 na0 ca0), (1, .func (.func 173) #[] #[.pointer (some ⟨bo2, 0, none⟩)]), (7, .int .i64 (a0.length : Int)), (8, .int .i64 (k1 : Int))]) (fun ⟨k1, s1, v1⟩ w => k1 ≤ a0.length ∧ findL (slices_IndexFunc_Expr_ieveryNode_1_L1 rec_ieveryNode_iAttributeUses_1) k1 (a0.drop k1) s1 = some q1 ∧ HL F0 M w0 w [Pr.S a0 (.slice Aa0 na0 ca0)] [It.O 90 s1 v1, It.B bo1 76 [v1], It.B bo2 189 [.func (.func 127) #[] #[.pointer (some ⟨bo1, 0, none⟩)]]]) (fun ⟨k1, s1, v1⟩ => a0.length - k1) ⟨0, o1, (.slice Ao1_0 no1_0 co1_0)⟩ ⟨rfl, rfl, rfl, rfl, trivial⟩ ⟨Nat.zero_le _, hq1, H.keep 1 3⟩ ?_)
  rintro ⟨k1, s1, v1⟩ σ w1 ⟨hk1, hq1, H⟩
  obtain ⟨A1, n1, c1, rfl⟩ := (H.rO (i := 0) rfl).form3
  refine CW.seq (CW.reg ?_)
  refine WL.ev rfl rfl (Ev.bin rfl rfl rfl Bin.lss) (WL.nil ?_)
  refine CW.seq (CW.condD rfl (fun h1 => ?_) (fun h1 => ?_))
  · skip
    have hk2 := cast_lt h1
    obtain ⟨x1, z1, hx1, hb1, hs1, ht1⟩ := findL_go hq1 hk2
    refine CW.skip ?_
    refine CW.seq (CW.block (CW.seq (CW.reg ?_)))
    refine WL.ev rfl rfl (Ev.mv rfl rfl) (WL.ev rfl rfl (Ev.as rfl rfl) (WL.nil ?_))
    refine CW.seq (CW.reg ?_)
    refine WL.ev rfl rfl (Ev.mv rfl rfl) (WL.ev rfl rfl (Ev.mv rfl rfl) (WL.ev rfl rfl (Ev.mv rfl rfl) ?_))
    obtain ⟨b1, ob1, cb1, A2, n2, c2, hvb1, hI1, hI2, hI3, hI4, hS1, hS2, H⟩ := ixS_Expr H (i := 0) rfl hx1
    refine WL.ev rfl rfl (Ev.ixVN rfl el84 sz86 rfl hvb1 rfl (lt_of hx1)) (WL.ev rfl rfl (Ev.lda rfl ag86 sz86 rfl (H.rA (i := 1) rfl) rfl) ?_)
    obtain ⟨⟨y1, z2⟩, hy1, hb1⟩ := bd hb1
    obtain ⟨F', M', hfF, hoF, hcM⟩ := H.callN [true, true, true] ⟨noO, noB, noB, trivial⟩
    obtain ⟨H', hcN⟩ := hcM (ps := [Pr.S x1.Args (.slice A2 n2 c2)]) ⟨hfF.get (i := 3) rfl, trivial⟩
    refine WL.call rfl rfl rfl rfl rfl ok173 rfl (ieveryNode_1_ok ih_ieveryNode_iAttributeUses_1 hy1 hI1 hI2 hI3 hI4 hS1 hS2 H') ?_
    rintro _ w2 hE ⟨A3, n3, c3, rfl, H'⟩
    have H := hcN 3 H' rfl ⟨fun _ _ _ _ _ h => h, ⟨fun _ _ _ _ _ h => h, ⟨fun _ _ _ _ _ h => h, trivial⟩⟩⟩
    refine WL.nil ?_
    refine CW.condB rfl (fun h2 => ?_) (fun h2 => ?_)
    · skip
      have hb1 := ifp h2 hb1
      refine CW.seq (CW.reg ?_)
      refine WL.ev rfl rfl (Ev.mv rfl rfl) (WL.ev rfl rfl (Ev.as rfl rfl) (WL.nil ?_))
      refine CW.ret ?_
      obtain rfl := sm hb1
      obtain rfl := ht1 _ rfl
      obtain rfl := sm hr
      exact ⟨_, res1 rfl rfl rfl, H.chg, _, _, _, rfl, (i64_nat hk2 hl1), H.outM (fr' := []) [true, true, true] fun _ _ => trivial⟩
    · skip
      have hb1 := ifn h2 hb1
      refine CW.skip ?_
      refine CW.reg ?_
      refine WL.ev rfl rfl (Ev.bin rfl rfl rfl (Bin.addN (a := k1) (b := 1) rfl (i64_succN hk2 hl1.2))) (WL.ev rfl rfl (Ev.mv rfl rfl) (WL.nil ?_))
      obtain rfl := sm hb1
      have hq1 := hs1 _ rfl
      exact ⟨⟨k1 + 1, z2, (.slice A3 n3 c3)⟩, ⟨rfl, rfl, rfl, rfl, trivial⟩, ⟨hk2, hq1, H.keep 1 3⟩, Nat.sub_lt_sub_left hk2 (Nat.lt_succ_self _)⟩
  · skip
    obtain rfl := findL_end hq1 (not_cast_lt h1)
    refine CW.exit ?_
    refine CW.seq (CW.reg ?_)
    refine WL.ev rfl rfl (Ev.as rfl rfl) (WL.nil ?_)
    refine CW.ret ?_
    obtain rfl := sm hr
    exact ⟨_, res1 rfl rfl rfl, H.chg, _, _, _, rfl, (by decide : I64 (-1)), H.outM (fr' := []) [true, true, true] fun _ _ => trivial⟩

noncomputable def slices_ContainsFunc_Expr_ieveryNode_1_m (rec_ieveryNode_iAttributeUses_1 : Expr → (List Occurrence) → Option (Bool × (List Occurrence))) (a0 : (List Expr)) (o1 : (List Occurrence)) : Option (Bool × (List Occurrence)) :=
  (slices_IndexFunc_Expr_ieveryNode_1_m rec_ieveryNode_iAttributeUses_1 a0 o1).bind fun (y1, z1) =>
  some (decide (0 ≤ y1), z1)
theorem slices_ContainsFunc_Expr_ieveryNode_1_ok {rec_ieveryNode_iAttributeUses_1 : Expr → (List Occurrence) → Option (Bool × (List Occurrence))} (ih_ieveryNode_iAttributeUses_1 : ∀ {a0 : Expr} {o1 : (List Occurrence)} {r : (Bool × (List Occurrence))}, rec_ieveryNode_iAttributeUses_1 a0 o1 = some r → ∀ {F0 : Nat → Prop} {M : List Nat} {w0 : World} {bo1 : Nat} {Aa0_6 : Option Addr} {na0_6 ca0_6 : Nat} {Ao1_0 : Option Addr} {no1_0 co1_0 : Nat} (hIa0_0 : I64 a0.Kind) (hIa0_1 : I64 a0.N) (hIa0_2 : I64 a0.Pos) (hIa0_3 : I64 a0.Type_) (hIa0_4 : a0.Symbol.size ≤ 9223372036854775807) (hIa0_5 : a0.Name.size ≤ 9223372036854775807) (H : HL F0 M w0 w0 [Pr.S a0.Args (.slice Aa0_6 na0_6 ca0_6)] [It.O 90 o1 (.slice Ao1_0 no1_0 co1_0), It.B bo1 76 [.slice Ao1_0 no1_0 co1_0]]), Ret Tryz.prog 126 #[.agg #[.int .i64 a0.Kind, .int .i64 a0.N, .int .i64 a0.Pos, .int .i64 a0.Type_, .string a0.Symbol, .string a0.Name, .slice Aa0_6 na0_6 ca0_6], .func (.func 127) #[] #[.pointer (some ⟨bo1, 0, none⟩)]] w0 (· ∈ M) fun v w => ∃ A0 : Option Addr, ∃ n0 c0 : Nat, v = .bool r.1 ∧ HL F0 M w0 w [] [It.O 90 r.2 (.slice A0 n0 c0), It.B bo1 76 [(.slice A0 n0 c0)]]) {a0 : (List Expr)} {o1 : (List Occurrence)} {r : (Bool × (List Occurrence))} (hr : slices_ContainsFunc_Expr_ieveryNode_1_m rec_ieveryNode_iAttributeUses_1 a0 o1 = some r) {F0 : Nat → Prop} {M : List Nat} {w0 : World} {bo1 : Nat} {bo2 : Nat} {Aa0 : Option Addr} {na0 ca0 : Nat} {Ao1_0 : Option Addr} {no1_0 co1_0 : Nat} (H : HL F0 M w0 w0 [Pr.S a0 (.slice Aa0 na0 ca0)] [It.O 90 o1 (.slice Ao1_0 no1_0 co1_0), It.B bo1 76 [.slice Ao1_0 no1_0 co1_0], It.B bo2 189 [.func (.func 127) #[] #[.pointer (some ⟨bo1, 0, none⟩)]]]) :
    Ret Tryz.prog 172 #[.slice Aa0 na0 ca0, .func (.func 173) #[] #[.pointer (some ⟨bo2, 0, none⟩)]] w0 (· ∈ M) fun v w => ∃ A0 : Option Addr, ∃ n0 c0 : Nat, v = .bool r.1 ∧ HL F0 M w0 w [] [It.O 90 r.2 (.slice A0 n0 c0), It.B bo1 76 [(.slice A0 n0 c0)], It.B bo2 189 [.func (.func 127) #[] #[.pointer (some ⟨bo1, 0, none⟩)]]] := by
  refine enter Tryz.func172 rfl rfl rfl ?_
  refine CW.seq (CW.reg ?_)
  refine WL.ev rfl rfl (Ev.as rfl rfl) (WL.nil ?_)
  refine CW.seq (CW.reg ?_)
  refine WL.ev rfl rfl (Ev.mv rfl rfl) (WL.ev rfl rfl (Ev.mv rfl rfl) ?_)
  obtain ⟨⟨y1, z1⟩, hy1, hr⟩ := bd hr
  obtain ⟨F', M', hfF, hoF, hcM⟩ := H.callN [true, true, true] ⟨noO, noB, noB, trivial⟩
  obtain ⟨H', hcN⟩ := hcM (ps := [Pr.S a0 (.slice Aa0 na0 ca0)]) ⟨hfF.get (i := 0) rfl, trivial⟩
  refine WL.call rfl rfl rfl rfl rfl ok209 rfl (slices_IndexFunc_Expr_ieveryNode_1_ok ih_ieveryNode_iAttributeUses_1 hy1 H') ?_
  rintro _ w1 hE ⟨A1, n1, c1, rfl, hI1, H'⟩
  have H := hcN 3 H' rfl ⟨fun _ _ _ _ _ h => h, ⟨fun _ _ _ _ _ h => h, ⟨fun _ _ _ _ _ h => h, trivial⟩⟩⟩
  refine WL.ev rfl rfl (Ev.bin rfl rfl rfl Bin.geq) (WL.ev rfl rfl (Ev.as rfl rfl) (WL.nil ?_))
  refine CW.ret ?_
  obtain rfl := sm hr
  exact ⟨_, res1 rfl rfl rfl, H.chg, _, _, _, rfl, H.outM (fr' := []) [true, true, true] fun _ _ => trivial⟩

noncomputable def ieveryNode_iAttributeUses_1_B (rec_ieveryNode_iAttributeUses_1 : Expr → (List Occurrence) → Option (Bool × (List Occurrence))) (a0 : Expr) (o1 : (List Occurrence)) : Option (Bool × (List Occurrence)) :=
  (iAttributeUses_1_m a0 o1).bind fun (y1, z1) =>
  if y1 = true then (
  (slices_ContainsFunc_Expr_ieveryNode_1_m rec_ieveryNode_iAttributeUses_1 a0.Args z1).bind fun (y2, z2) =>
  some (!y2, z2)
  ) else (
  some (false, z1)
  )
theorem ieveryNode_iAttributeUses_1_okB {rec_ieveryNode_iAttributeUses_1 : Expr → (List Occurrence) → Option (Bool × (List Occurrence))} (ih_ieveryNode_iAttributeUses_1 : ∀ {a0 : Expr} {o1 : (List Occurrence)} {r : (Bool × (List Occurrence))}, rec_ieveryNode_iAttributeUses_1 a0 o1 = some r → ∀ {F0 : Nat → Prop} {M : List Nat} {w0 : World} {bo1 : Nat} {Aa0_6 : Option Addr} {na0_6 ca0_6 : Nat} {Ao1_0 : Option Addr} {no1_0 co1_0 : Nat} (hIa0_0 : I64 a0.Kind) (hIa0_1 : I64 a0.N) (hIa0_2 : I64 a0.Pos) (hIa0_3 : I64 a0.Type_) (hIa0_4 : a0.Symbol.size ≤ 9223372036854775807) (hIa0_5 : a0.Name.size ≤ 9223372036854775807) (H : HL F0 M w0 w0 [Pr.S a0.Args (.slice Aa0_6 na0_6 ca0_6)] [It.O 90 o1 (.slice Ao1_0 no1_0 co1_0), It.B bo1 76 [.slice Ao1_0 no1_0 co1_0]]), Ret Tryz.prog 126 #[.agg #[.int .i64 a0.Kind, .int .i64 a0.N, .int .i64 a0.Pos, .int .i64 a0.Type_, .string a0.Symbol, .string a0.Name, .slice Aa0_6 na0_6 ca0_6], .func (.func 127) #[] #[.pointer (some ⟨bo1, 0, none⟩)]] w0 (· ∈ M) fun v w => ∃ A0 : Option Addr, ∃ n0 c0 : Nat, v = .bool r.1 ∧ HL F0 M w0 w [] [It.O 90 r.2 (.slice A0 n0 c0), It.B bo1 76 [(.slice A0 n0 c0)]]) {a0 : Expr} {o1 : (List Occurrence)} {r : (Bool × (List Occurrence))} (hr : ieveryNode_iAttributeUses_1_B rec_ieveryNode_iAttributeUses_1 a0 o1 = some r) {F0 : Nat → Prop} {M : List Nat} {w0 : World} {bo1 : Nat} {Aa0_6 : Option Addr} {na0_6 ca0_6 : Nat} {Ao1_0 : Option Addr} {no1_0 co1_0 : Nat} (hIa0_0 : I64 a0.Kind) (hIa0_1 : I64 a0.N) (hIa0_2 : I64 a0.Pos) (hIa0_3 : I64 a0.Type_) (hIa0_4 : a0.Symbol.size ≤ 9223372036854775807) (hIa0_5 : a0.Name.size ≤ 9223372036854775807) (H : HL F0 M w0 w0 [Pr.S a0.Args (.slice Aa0_6 na0_6 ca0_6)] [It.O 90 o1 (.slice Ao1_0 no1_0 co1_0), It.B bo1 76 [.slice Ao1_0 no1_0 co1_0]]) :
    Ret Tryz.prog 126 #[.agg #[.int .i64 a0.Kind, .int .i64 a0.N, .int .i64 a0.Pos, .int .i64 a0.Type_, .string a0.Symbol, .string a0.Name, .slice Aa0_6 na0_6 ca0_6], .func (.func 127) #[] #[.pointer (some ⟨bo1, 0, none⟩)]] w0 (· ∈ M) fun v w => ∃ A0 : Option Addr, ∃ n0 c0 : Nat, v = .bool r.1 ∧ HL F0 M w0 w [] [It.O 90 r.2 (.slice A0 n0 c0), It.B bo1 76 [(.slice A0 n0 c0)]] := by
  refine enter Tryz.func126 rfl rfl rfl ?_
  refine CW.seq (CW.reg ?_)
  refine WL.boxH rfl rfl rfl rfl rfl H fun b1 w1 H => ?_
  refine WL.boxH rfl rfl rfl rfl rfl H fun b2 w2 H => ?_
  refine WL.ev rfl rfl (Ev.as rfl rfl) (WL.nil ?_)
  refine CW.seq (CW.reg ?_)
  refine WL.ev rfl rfl (Ev.ld rfl ag189 rfl ((H.rB (i := 3) rfl).cell rfl)) (WL.ev rfl rfl (Ev.lda rfl ag86 sz86 rfl (At.blk (H.rB (i := 2) rfl)) rfl) ?_)
  obtain ⟨⟨y1, z1⟩, hy1, hr⟩ := bd hr
  obtain ⟨F', M', hfF, hoF, hcM⟩ := H.callN [true, true, false, false] ⟨noO, noB, trivial⟩
  obtain ⟨H', hcN⟩ := hcM (ps := [Pr.S a0.Args (.slice Aa0_6 na0_6 ca0_6)]) ⟨hfF.get (i := 0) rfl, trivial⟩
  refine WL.call rfl rfl rfl rfl rfl ok127 rfl (iAttributeUses_1_ok hy1 hIa0_0 hIa0_1 hIa0_2 hIa0_3 hIa0_4 hIa0_5 H') ?_
  rintro _ w3 hE ⟨A1, n1, c1, rfl, H'⟩
  have H := hcN 2 H' rfl ⟨fun _ _ _ _ _ h => h, ⟨fun _ _ _ _ _ h => h, trivial⟩⟩
  refine WL.mvB rfl rfl rfl rfl (fun h1 => ?_) (fun h1 => ?_)
  · skip
    have hr := ifp h1 hr
    refine WL.on rfl rfl (WL.ev rfl rfl (Ev.fa rfl fo86_6 rfl) (WL.on rfl rfl (WL.ev rfl rfl (Ev.ld rfl ag84 rfl ((H.rB (i := 2) rfl).cell rfl)) (WL.on rfl rfl (WL.ev rfl rfl (Ev.mkfL rfl rfl rfl) (WL.on rfl rfl ?_))))))
    obtain ⟨⟨y2, z2⟩, hy2, hr⟩ := bd hr
    obtain ⟨F', M', hfF, hoF, hcM⟩ := H.callN [true, true, false, true] ⟨noO, noB, noB, trivial⟩
    obtain ⟨H', hcN⟩ := hcM (ps := [Pr.S a0.Args (.slice Aa0_6 na0_6 ca0_6)]) ⟨hfF.get (i := 0) rfl, trivial⟩
    refine WL.call rfl rfl rfl rfl rfl ok172 rfl (slices_ContainsFunc_Expr_ieveryNode_1_ok ih_ieveryNode_iAttributeUses_1 hy2 H') ?_
    rintro _ w4 hE ⟨A2, n2, c2, rfl, H'⟩
    have H := hcN 3 H' rfl ⟨fun _ _ _ _ _ h => h, ⟨fun _ _ _ _ _ h => h, ⟨fun _ _ _ _ _ h => h, trivial⟩⟩⟩
    refine WL.on rfl rfl (WL.ev rfl rfl (Ev.not rfl rfl) (WL.ev rfl rfl (Ev.pickT rfl rfl rfl) (WL.ev rfl rfl (Ev.as rfl rfl) (WL.nil ?_))))
    refine CW.ret ?_
    obtain rfl := sm hr
    exact ⟨_, res1 rfl rfl rfl, H.chg, _, _, _, rfl, H.outM (fr' := []) [true, true, false, false] fun _ _ => trivial⟩
  · skip
    have hr := ifn h1 hr
    refine WL.off rfl rfl rfl (WL.off rfl rfl rfl (WL.off rfl rfl rfl (WL.off rfl rfl rfl (WL.off rfl rfl rfl (WL.ev rfl rfl (Ev.pickF rfl rfl rfl) (WL.ev rfl rfl (Ev.as rfl rfl) (WL.nil ?_)))))))
    refine CW.ret ?_
    obtain rfl := sm hr
    exact ⟨_, res1 rfl rfl rfl, H.chg, _, _, _, rfl, H.outM (fr' := []) [true, true, false, false] fun _ _ => trivial⟩
noncomputable def ieveryNode_iAttributeUses_1_n : Nat → Expr → (List Occurrence) → Option (Bool × (List Occurrence))
  | 0, _, _ => none
  | n + 1, a0, o1 => ieveryNode_iAttributeUses_1_B (ieveryNode_iAttributeUses_1_n n) a0 o1
noncomputable def ieveryNode_iAttributeUses_1_m (a0 : Expr) (o1 : (List Occurrence)) : Option (Bool × (List Occurrence)) := recO fun n => ieveryNode_iAttributeUses_1_n n a0 o1
theorem ieveryNode_iAttributeUses_1_okn (n : Nat) : ∀ {a0 : Expr} {o1 : (List Occurrence)} {r : (Bool × (List Occurrence))}, ieveryNode_iAttributeUses_1_n n a0 o1 = some r → ∀ {F0 : Nat → Prop} {M : List Nat} {w0 : World} {bo1 : Nat} {Aa0_6 : Option Addr} {na0_6 ca0_6 : Nat} {Ao1_0 : Option Addr} {no1_0 co1_0 : Nat} (hIa0_0 : I64 a0.Kind) (hIa0_1 : I64 a0.N) (hIa0_2 : I64 a0.Pos) (hIa0_3 : I64 a0.Type_) (hIa0_4 : a0.Symbol.size ≤ 9223372036854775807) (hIa0_5 : a0.Name.size ≤ 9223372036854775807) (H : HL F0 M w0 w0 [Pr.S a0.Args (.slice Aa0_6 na0_6 ca0_6)] [It.O 90 o1 (.slice Ao1_0 no1_0 co1_0), It.B bo1 76 [.slice Ao1_0 no1_0 co1_0]]), Ret Tryz.prog 126 #[.agg #[.int .i64 a0.Kind, .int .i64 a0.N, .int .i64 a0.Pos, .int .i64 a0.Type_, .string a0.Symbol, .string a0.Name, .slice Aa0_6 na0_6 ca0_6], .func (.func 127) #[] #[.pointer (some ⟨bo1, 0, none⟩)]] w0 (· ∈ M) fun v w => ∃ A0 : Option Addr, ∃ n0 c0 : Nat, v = .bool r.1 ∧ HL F0 M w0 w [] [It.O 90 r.2 (.slice A0 n0 c0), It.B bo1 76 [(.slice A0 n0 c0)]] := by
  induction n with
  | zero => intro a0 o1 r hr; exact nomatch (show (none : Option (Bool × (List Occurrence))) = some r from hr)
  | succ n ih => intro a0 o1 r hr; exact ieveryNode_iAttributeUses_1_okB ih hr
theorem ieveryNode_iAttributeUses_1_ok {a0 : Expr} {o1 : (List Occurrence)} {r : (Bool × (List Occurrence))} (hr : ieveryNode_iAttributeUses_1_m a0 o1 = some r) {F0 : Nat → Prop} {M : List Nat} {w0 : World} {bo1 : Nat} {Aa0_6 : Option Addr} {na0_6 ca0_6 : Nat} {Ao1_0 : Option Addr} {no1_0 co1_0 : Nat} (hIa0_0 : I64 a0.Kind) (hIa0_1 : I64 a0.N) (hIa0_2 : I64 a0.Pos) (hIa0_3 : I64 a0.Type_) (hIa0_4 : a0.Symbol.size ≤ 9223372036854775807) (hIa0_5 : a0.Name.size ≤ 9223372036854775807) (H : HL F0 M w0 w0 [Pr.S a0.Args (.slice Aa0_6 na0_6 ca0_6)] [It.O 90 o1 (.slice Ao1_0 no1_0 co1_0), It.B bo1 76 [.slice Ao1_0 no1_0 co1_0]]) :
    Ret Tryz.prog 126 #[.agg #[.int .i64 a0.Kind, .int .i64 a0.N, .int .i64 a0.Pos, .int .i64 a0.Type_, .string a0.Symbol, .string a0.Name, .slice Aa0_6 na0_6 ca0_6], .func (.func 127) #[] #[.pointer (some ⟨bo1, 0, none⟩)]] w0 (· ∈ M) fun v w => ∃ A0 : Option Addr, ∃ n0 c0 : Nat, v = .bool r.1 ∧ HL F0 M w0 w [] [It.O 90 r.2 (.slice A0 n0 c0), It.B bo1 76 [(.slice A0 n0 c0)]] := by
  obtain ⟨n, hn⟩ := recO_some hr
  exact ieveryNode_iAttributeUses_1_okn n hn hIa0_0 hIa0_1 hIa0_2 hIa0_3 hIa0_4 hIa0_5 H

noncomputable def slices_SortFunc_Occurrence_m (a0 : (List Occurrence)) : Option (List Occurrence) :=
  grd (a0.length < 4611686018427387904) <|
  some (sortO a0)
theorem slices_SortFunc_Occurrence_ok {a0 : (List Occurrence)} {r : (List Occurrence)} (hr : slices_SortFunc_Occurrence_m a0 = some r) {F0 : Nat → Prop} {M : List Nat} {w0 : World} {A0 : Option Addr} {n0 c0 : Nat} (H : HL F0 M w0 w0 [] [It.O 90 a0 (.slice A0 n0 c0)]) :
    Ret Tryz.prog 128 #[.slice A0 n0 c0, .func (.func 129) #[] #[]] w0 (· ∈ M) fun v w => v = .tuple #[] ∧ HL F0 M w0 w [] [It.O 90 r (.slice A0 n0 c0)] := by
  obtain ⟨hg, hr⟩ := grd_some hr
  obtain rfl := sm hr
  exact sort_row hg H

noncomputable def slices_Compact_Occurrence_L2 (s1 : Int) : ((List Occurrence) × Int × Int) → Option (((List Occurrence) × Int × Int) ⊕ ((List Occurrence) × Int)) := fun (s4, s5, s6) => 
  if s6 < ((s4.drop s1.toNat).length : Int) then (
  (
  grd (0 ≤ s6) <|
  (s4[(s1.toNat + s6.toNat)]?).bind fun x3 =>
  grd (I64 (s6 - 1)) <|
  grd (0 ≤ (s6 - 1)) <|
  (s4[(s1.toNat + ((s6 - 1).toNat))]?).bind fun x4 =>
  if x3 = x4 then (
  some (s5, s4)
  ) else (
  grd (0 ≤ s6) <|
  grd (0 ≤ s5) <|
  (s4[s5.toNat]?).bind fun x5 =>
  grd (I64 (s5 + 1)) <|
  some ((s5 + 1), (List.set s4 s5.toNat x3))
  )
  ).bind fun (s7, s8) =>
  grd (I64 (s6 + 1)) <|
  some (.inl (s8, s7, (s6 + 1)))
  ) else (
  some (.inr (s4, s5))
  )
noncomputable def slices_Compact_Occurrence_L1 (a0 : (List Occurrence)) : Int → Option (Int ⊕ (Unit ⊕ (List Occurrence))) := fun s1 => 
  if s1 < (a0.length : Int) then (
  grd (0 ≤ s1) <|
  (a0[s1.toNat]?).bind fun x1 =>
  grd (I64 (s1 - 1)) <|
  grd (0 ≤ (s1 - 1)) <|
  (a0[(s1 - 1).toNat]?).bind fun x2 =>
  if x1 = x2 then (
  grd (0 ≤ s1) <|
  grd (s1.toNat ≤ a0.length) <|
  (
  iterO (slices_Compact_Occurrence_L2 s1) (a0, s1, 1)
  ).bind fun (s2, s3) =>
  grd (0 ≤ s3) <|
  grd (s3.toNat ≤ s2.length) <|
  grd (0 ≤ s3) <|
  grd (s3.toNat ≤ (s2.take s3.toNat ++ List.replicate (s2.length - s3.toNat) (⟨(0 : Int), (⟨#[]⟩ : ByteArray)⟩ : Occurrence)).length) <|
  some (.inr (.inr ((s2.take s3.toNat ++ List.replicate (s2.length - s3.toNat) (⟨(0 : Int), (⟨#[]⟩ : ByteArray)⟩ : Occurrence)).take s3.toNat)))
  ) else (
  grd (I64 (s1 + 1)) <|
  some (.inl (s1 + 1))
  )
  ) else (
  some (.inr (.inl ()))
  )
noncomputable def slices_Compact_Occurrence_m (a0 : (List Occurrence)) : Option (List Occurrence) :=
  if (a0.length : Int) < 2 then (
  some a0
  ) else (
  (
  iterO (slices_Compact_Occurrence_L1 a0) 1
  ).bind <| onr (fun r1 => some r1) fun () =>
  some a0
  )
theorem slices_Compact_Occurrence_ok {a0 : (List Occurrence)} {r : (List Occurrence)} (hr : slices_Compact_Occurrence_m a0 = some r) {F0 : Nat → Prop} {M : List Nat} {w0 : World} {Aa0 : Option Addr} {na0 ca0 : Nat} (H : HL F0 M w0 w0 [] [It.O 90 a0 (.slice Aa0 na0 ca0)]) :
    Ret Tryz.prog 130 #[.slice Aa0 na0 ca0] w0 (· ∈ M) fun v w => ∃ A0 : Option Addr, ∃ n0 c0 : Nat, v = (.slice A0 n0 c0) ∧ HL F0 M w0 w [] [It.O 90 r (.slice A0 n0 c0)] := by
  refine enter Tryz.func130 rfl rfl rfl ?_
  refine CW.seq (CW.reg ?_)
  refine WL.ev rfl rfl (Ev.as rfl rfl) (WL.nil ?_)
  refine CW.seq (CW.seq (CW.reg ?_))
  refine WL.ev rfl rfl (Ev.mv rfl rfl) ?_
  have hl1 := (H.rO (i := 0) rfl).I
  refine WL.ev rfl rfl (Ev.lenV rfl el76 rfl (H.rO (i := 0) rfl)) (WL.ev rfl rfl (Ev.bin rfl rfl rfl Bin.lss) (WL.nil ?_))
  refine CW.condD rfl (fun h1 => ?_) (fun h1 => ?_)
  · skip
    have hr := ifp h1 hr
    refine CW.seq (CW.reg ?_)
    refine WL.ev rfl rfl (Ev.mv rfl rfl) (WL.ev rfl rfl (Ev.as rfl rfl) (WL.nil ?_))
    refine CW.ret ?_
    obtain rfl := sm hr
    exact ⟨_, res1 rfl rfl rfl, H.chg, _, _, _, rfl, H.outM (fr' := []) [true] fun _ _ => trivial⟩
  · skip
    have hr := ifn h1 hr
    refine CW.skip ?_
    refine CW.seq (CW.seq (CW.reg ?_))
    refine WL.ev rfl rfl (Ev.as rfl rfl) (WL.nil ?_)
    obtain ⟨q1, hm1, hr⟩ := bd hr
    refine CW.mid (fun ρ' w => q1 = .inl () ∧ agree ρ' [(0, .slice Aa0 na0 ca0)] ∧ HL F0 M w0 w [] [It.O 90 a0 (.slice Aa0 na0 ca0)]) ?_ ?_
    · skip
      obtain ⟨m1, hq1⟩ := iterO_some.1 hm1
      refine CW.block (CW.loop (α := Nat × Int) (fun ⟨m1, s1⟩ => [(0, .slice Aa0 na0 ca0), (3, .int .i64 s1)]) (fun ⟨m1, s1⟩ w => iterN (slices_Compact_Occurrence_L1 a0) m1 s1 = some q1 ∧ I64 s1 ∧ HL F0 M w0 w [] [It.O 90 a0 (.slice Aa0 na0 ca0)]) (fun ⟨m1, s1⟩ => m1) ⟨m1, 1⟩ ⟨rfl, rfl, trivial⟩ ⟨hq1, (by decide : I64 1), H.keep 0 1⟩ ?_)
      rintro ⟨m1, s1⟩ σ w1 ⟨hq1, hI1, H⟩
      obtain ⟨m2, z1, rfl, hb1, hs1, ht1⟩ := iterN_go hq1
      refine CW.seq (CW.seq (CW.reg ?_))
      refine WL.ev rfl rfl (Ev.mv rfl rfl) (WL.ev rfl rfl (Ev.mv rfl rfl) (WL.ev rfl rfl (Ev.lenV rfl el76 rfl (H.rO (i := 0) rfl)) (WL.ev rfl rfl (Ev.bin rfl rfl rfl Bin.lss) (WL.nil ?_))))
      refine CW.condD rfl (fun h2 => ?_) (fun h2 => ?_)
      · skip
        have hb1 := ifp h2 hb1
        refine CW.skip ?_
        refine CW.seq (CW.block (CW.seq (CW.quiet hmix (by kernel_rfl) ?_)))
        refine QL.ev rfl rfl (fun _ _ => Ev.mv rfl rfl) (QL.ev rfl rfl (fun _ _ => Ev.mv rfl rfl) ?_)
        obtain ⟨hg1, hb1⟩ := grd_some hb1
        obtain ⟨x1, hx1, hb1⟩ := bd hb1
        obtain ⟨b1, cb1, hvb1, hbb1⟩ := H.ptO (i := 0) rfl hx1
        refine QL.ev rfl rfl (fun _ _ => Ev.ixV rfl el76 sz90 rfl hvb1 rfl hg1 (lt_of hx1)) ?_
        obtain ⟨hA1, hI2, hS1, H⟩ := elO_Occurrence H (i := 0) rfl hx1 hbb1
        refine QL.ev rfl rfl (fun _ hq => Ev.lda rfl ag90 sz90 rfl (hA1.ext hq) rfl) (QL.ev rfl rfl (fun _ _ => Ev.mv rfl rfl) (QL.ev rfl rfl (fun _ _ => Ev.mv rfl rfl) ?_))
        obtain ⟨hg2, hb1⟩ := grd_some hb1
        refine QL.ev rfl rfl (fun _ _ => Ev.bin rfl rfl rfl (Bin.sub hg2)) ?_
        obtain ⟨hg3, hb1⟩ := grd_some hb1
        obtain ⟨x2, hx2, hb1⟩ := bd hb1
        obtain ⟨b2, cb2, hvb2, hbb2⟩ := H.ptO (i := 0) rfl hx2
        refine QL.ev rfl rfl (fun _ _ => Ev.ixV rfl el76 sz90 rfl hvb2 rfl hg3 (lt_of hx2)) ?_
        obtain ⟨hA2, hI3, hS2, H⟩ := elO_Occurrence H (i := 0) rfl hx2 hbb2
        refine QL.ev rfl rfl (fun _ hq => Ev.lda rfl ag90 sz90 rfl (hA2.ext hq) rfl) (QL.ev rfl rfl (fun _ _ => Ev.bin rfl rfl rfl (Bin.eqlF fl90 (Occurrence_eqF x1 x2))) (QL.nil (fun w2 hE => ?_)))
        have H := H.ext hE
        refine CW.condD rfl (fun h3 => ?_) (fun h3 => ?_)
        · skip
          have hb1 := ifp h3 hb1
          refine CW.seq (CW.reg ?_)
          refine WL.ev rfl rfl (Ev.mv rfl rfl) (WL.ev rfl rfl (Ev.mv rfl rfl) ?_)
          obtain ⟨hg4, hb1⟩ := grd_some hb1
          obtain ⟨hg5, hb1⟩ := grd_some hb1
          obtain ⟨A1, n1, c1, e2, hc1⟩ := H.subO (i := 0) rfl hg5
          refine WL.ev rfl rfl (Ev.slLV rfl el76 sz90 rfl rfl ((Int.toNat_of_nonneg hg4).symm) hc1 e2) (WL.ev rfl rfl (Ev.as rfl rfl) (WL.nil ?_))
          refine CW.seq (CW.seq (CW.reg ?_))
          refine WL.ev rfl rfl (Ev.as rfl rfl) (WL.nil ?_)
          obtain ⟨q2, hm2, hb1⟩ := bd hb1
          refine CW.mid (fun ρ' w => ∃ (s2 : List Occurrence) (s3 : Int), q2 = (s2, s3) ∧ agree ρ' [(0, .slice Aa0 na0 ca0), (3, .int .i64 s3)] ∧ I64 s3 ∧ HL F0 M w0 w [Pr.R x1 [.int .i64 x1.Pos, .string x1.Name], Pr.R x2 [.int .i64 x2.Pos, .string x2.Name]] [It.O 90 s2 (.slice Aa0 na0 ca0)]) ?_ ?_
          · skip
            obtain ⟨m3, hq2⟩ := iterO_some.1 hm2
            refine CW.block (CW.loop (α := Nat × (List Occurrence) × Int × Int) (fun ⟨m3, s4, s5, s6⟩ => [(0, .slice Aa0 na0 ca0), (3, .int .i64 s5), (4, .slice A1 n1 c1), (5, .int .i64 s6)]) (fun ⟨m3, s4, s5, s6⟩ w => iterN (slices_Compact_Occurrence_L2 s1) m3 (s4, s5, s6) = some q2 ∧ I64 s5 ∧ I64 s6 ∧ HL F0 M w0 w [Pr.R x1 [.int .i64 x1.Pos, .string x1.Name], Pr.R x2 [.int .i64 x2.Pos, .string x2.Name]] [It.O 90 s4 (.slice Aa0 na0 ca0)]) (fun ⟨m3, s4, s5, s6⟩ => m3) ⟨m3, a0, s1, 1⟩ ⟨rfl, rfl, rfl, rfl, trivial⟩ ⟨hq2, hI1, (by decide : I64 1), H.keep 2 1⟩ ?_)
            rintro ⟨m3, s4, s5, s6⟩ σ w3 ⟨hq2, hI5, hI6, H⟩
            obtain ⟨m4, z2, rfl, hb2, hs2, ht2⟩ := iterN_go hq2
            refine CW.seq (CW.seq (CW.reg ?_))
            refine WL.ev rfl rfl (Ev.mv rfl rfl) (WL.ev rfl rfl (Ev.mv rfl rfl) ?_)
            have hl2 := ((H.rO (i := 0) rfl).dropV hc1 e2).I
            refine WL.ev rfl rfl (Ev.lenV rfl el76 rfl ((H.rO (i := 0) rfl).dropV hc1 e2)) (WL.ev rfl rfl (Ev.bin rfl rfl rfl Bin.lss) (WL.nil ?_))
            refine CW.condD rfl (fun h4 => ?_) (fun h4 => ?_)
            · skip
              have hb2 := ifp h4 hb2
              refine CW.skip ?_
              obtain ⟨q3, hm3, hb2⟩ := bd hb2
              refine CW.seq (CW.mid (fun ρ' w => ∃ (s7 : Int) (s8 : List Occurrence), q3 = (s7, s8) ∧ agree ρ' [(0, .slice Aa0 na0 ca0), (3, .int .i64 s7), (4, .slice A1 n1 c1), (5, .int .i64 s6)] ∧ I64 s7 ∧ HL F0 M w0 w [Pr.R x1 [.int .i64 x1.Pos, .string x1.Name], Pr.R x2 [.int .i64 x2.Pos, .string x2.Name]] [It.O 90 s8 (.slice Aa0 na0 ca0)]) ?_ ?_)
              · skip
                refine CW.block (CW.seq (CW.quiet hmix (by kernel_rfl) ?_))
                refine QL.ev rfl rfl (fun _ _ => Ev.mv rfl rfl) (QL.ev rfl rfl (fun _ _ => Ev.mv rfl rfl) ?_)
                obtain ⟨hg6, hm3⟩ := grd_some hm3
                obtain ⟨x3, hx3, hm3⟩ := bd hm3
                obtain ⟨b3, mb3, cb3, hvb3, hmb3, hbb3⟩ := H.ptSub (i := 0) rfl e2 hx3
                refine QL.ev rfl rfl (fun _ _ => Ev.ixSub rfl el76 sz90 rfl hvb3 rfl hg6 hmb3) ?_
                obtain ⟨hA3, hI8, hS3, H⟩ := elO_Occurrence H (i := 0) rfl hx3 hbb3
                refine QL.ev rfl rfl (fun _ hq => Ev.lda rfl ag90 sz90 rfl (hA3.ext hq) rfl) (QL.ev rfl rfl (fun _ _ => Ev.mv rfl rfl) (QL.ev rfl rfl (fun _ _ => Ev.mv rfl rfl) ?_))
                obtain ⟨hg7, hm3⟩ := grd_some hm3
                refine QL.ev rfl rfl (fun _ _ => Ev.bin rfl rfl rfl (Bin.sub hg7)) ?_
                obtain ⟨hg8, hm3⟩ := grd_some hm3
                obtain ⟨x4, hx4, hm3⟩ := bd hm3
                obtain ⟨b4, mb4, cb4, hvb4, hmb4, hbb4⟩ := H.ptSub (i := 0) rfl e2 hx4
                refine QL.ev rfl rfl (fun _ _ => Ev.ixSub rfl el76 sz90 rfl hvb4 rfl hg8 hmb4) ?_
                obtain ⟨hA4, hI9, hS4, H⟩ := elO_Occurrence H (i := 0) rfl hx4 hbb4
                refine QL.ev rfl rfl (fun _ hq => Ev.lda rfl ag90 sz90 rfl (hA4.ext hq) rfl) (QL.ev rfl rfl (fun _ _ => Ev.bin rfl rfl rfl (Bin.neqF fl90 (Occurrence_eqF x3 x4))) (QL.nil (fun w4 hE => ?_)))
                have H := H.ext hE
                refine CW.condN rfl (fun h5 => ?_) (fun h5 => ?_)
                · skip
                  have hm3 := ifn h5 hm3
                  refine CW.seq (CW.reg ?_)
                  refine WL.ev rfl rfl (Ev.mv rfl rfl) (WL.ev rfl rfl (Ev.mv rfl rfl) (WL.ev rfl rfl (Ev.mv rfl rfl) (WL.ev rfl rfl (Ev.mv rfl rfl) ?_)))
                  obtain ⟨hg9, hm3⟩ := grd_some hm3
                  obtain ⟨b5, mb5, cb5, hvb5, hmb5, hbb5⟩ := H.ptSub (i := 0) rfl e2 hx3
                  refine WL.ev rfl rfl (Ev.ixSub rfl el76 sz90 rfl hvb5 rfl hg9 hmb5) ?_
                  obtain ⟨hA5, hI10, hS5, H⟩ := elO_Occurrence H (i := 0) rfl hx3 hbb5
                  refine WL.ev rfl rfl (Ev.lda rfl ag90 sz90 rfl hA5 rfl) ?_
                  obtain ⟨hg10, hm3⟩ := grd_some hm3
                  obtain ⟨x5, hx5, hm3⟩ := bd hm3
                  obtain ⟨b6, cb6, hvb6, hbb6⟩ := H.ptO (i := 0) rfl hx5
                  refine WL.ev rfl rfl (Ev.ixV rfl el76 sz90 rfl hvb6 rfl hg10 (lt_of hx5)) ?_
                  refine WL.stOf (i := 0) (z := x3) rfl rfl rfl sz90 rfl rfl rfl (fun _ => ⟨rfl, hI10, hS5, rfl⟩) H rfl hbb6 (by simpa using lt_of hx5) fun w5 H => ?_
                  refine WL.nil ?_
                  refine CW.fresh [(0, .slice Aa0 na0 ca0), (3, .int .i64 s5), (4, .slice A1 n1 c1), (5, .int .i64 s6)] ⟨rfl, rfl, rfl, rfl, trivial⟩ fun σ => ?_
                  have H : HL F0 M w0 w5 [Pr.R x1 [.int .i64 x1.Pos, .string x1.Name], Pr.R x2 [.int .i64 x2.Pos, .string x2.Name], Pr.R x3 [.int .i64 x3.Pos, .string x3.Name], Pr.R x4 [.int .i64 x4.Pos, .string x4.Name], Pr.R x3 [.int .i64 x3.Pos, .string x3.Name]] [It.O 90 (List.set s4 s5.toNat x3) (.slice Aa0 na0 ca0)] := H
                  refine CW.reg ?_
                  refine WL.ev rfl rfl (Ev.mv rfl rfl) ?_
                  obtain ⟨hg11, hm3⟩ := grd_some hm3
                  refine WL.ev rfl rfl (Ev.bin rfl rfl rfl (Bin.add hg11)) (WL.ev rfl rfl (Ev.as rfl rfl) (WL.nil ?_))
                  obtain rfl := sm hm3
                  exact ⟨(s5 + 1), (List.set s4 s5.toNat x3), rfl, ⟨rfl, rfl, rfl, rfl, trivial⟩, hg11, H.keep 2 1⟩
                · skip
                  have hm3 := ifp h5 hm3
                  refine CW.skip ?_
                  obtain rfl := sm hm3
                  exact ⟨s5, s4, rfl, ⟨rfl, rfl, rfl, rfl, trivial⟩, hI5, H.keep 2 1⟩
              · rintro ρ' w6 ⟨s7, s8, rfl, hag, hI7, H⟩
                obtain ⟨σ, rfl⟩ := ofL_ex hag
                refine CW.reg ?_
                refine WL.ev rfl rfl (Ev.mv rfl rfl) ?_
                obtain ⟨hg12, hb2⟩ := grd_some hb2
                refine WL.ev rfl rfl (Ev.bin rfl rfl rfl (Bin.add hg12)) (WL.ev rfl rfl (Ev.as rfl rfl) (WL.nil ?_))
                obtain rfl := sm hb2
                exact ⟨⟨m4, s8, s7, (s6 + 1)⟩, ⟨rfl, rfl, rfl, rfl, trivial⟩, ⟨hs2 _ rfl, hI7, hg12, H.keep 2 1⟩, Nat.lt_succ_self _⟩
            · skip
              have hb2 := ifn h4 hb2
              refine CW.exit ?_
              obtain rfl := sm hb2
              obtain rfl := ht2 _ rfl
              exact ⟨s4, s5, rfl, ⟨rfl, rfl, trivial⟩, hI5, H.keep 2 1⟩
          · rintro ρ' w7 ⟨s2, s3, rfl, hag, hI4, H⟩
            obtain ⟨σ, rfl⟩ := ofL_ex hag
            refine CW.seq (CW.reg ?_)
            refine WL.ev rfl rfl (Ev.mv rfl rfl) (WL.ev rfl rfl (Ev.mv rfl rfl) ?_)
            obtain ⟨hg13, hb1⟩ := grd_some hb1
            obtain ⟨hg14, hb1⟩ := grd_some hb1
            obtain ⟨A2, n2, c2, e4, hc2⟩ := H.subO (i := 0) rfl hg14
            refine WL.ev rfl rfl (Ev.slLV rfl el76 sz90 rfl rfl ((Int.toNat_of_nonneg hg13).symm) hc2 e4) ?_
            refine WL.clrO (i := 0) (x0 := (⟨(0 : Int), (⟨#[]⟩ : ByteArray)⟩ : Occurrence)) rfl rfl rfl el76 sz90 ze90 (fun _ => ⟨rfl, (by decide : I64 0), (by decide), rfl⟩) rfl H rfl hc2 e4 fun w8 H => ?_
            refine WL.nil ?_
            refine CW.seq (CW.reg ?_)
            refine WL.ev rfl rfl (Ev.mv rfl rfl) (WL.ev rfl rfl (Ev.mv rfl rfl) ?_)
            obtain ⟨hg15, hb1⟩ := grd_some hb1
            obtain ⟨hg16, hb1⟩ := grd_some hb1
            obtain ⟨A3, n3, c3, e5, hc3, H⟩ := H.cutO (i := 0) rfl hg16
            refine WL.ev rfl rfl (Ev.slHV rfl el76 sz90 rfl rfl ((Int.toNat_of_nonneg hg15).symm) hc3 e5) (WL.ev rfl rfl (Ev.as rfl rfl) (WL.nil ?_))
            refine CW.ret ?_
            obtain rfl := sm hb1
            obtain rfl := ht1 _ rfl
            obtain rfl := sm hr
            exact ⟨_, res1 rfl rfl rfl, H.chg, _, _, _, rfl, H.outM (fr' := []) [true] fun _ _ => trivial⟩
        · skip
          have hb1 := ifn h3 hb1
          refine CW.skip ?_
          refine CW.reg ?_
          refine WL.ev rfl rfl (Ev.mv rfl rfl) ?_
          obtain ⟨hg17, hb1⟩ := grd_some hb1
          refine WL.ev rfl rfl (Ev.bin rfl rfl rfl (Bin.add hg17)) (WL.ev rfl rfl (Ev.as rfl rfl) (WL.nil ?_))
          obtain rfl := sm hb1
          exact ⟨⟨m2, (s1 + 1)⟩, ⟨rfl, rfl, trivial⟩, ⟨hs1 _ rfl, hg17, H.keep 0 1⟩, Nat.lt_succ_self _⟩
      · skip
        have hb1 := ifn h2 hb1
        refine CW.exit ?_
        obtain rfl := sm hb1
        obtain rfl := ht1 _ rfl
        exact ⟨rfl, ⟨rfl, trivial⟩, H.keep 0 1⟩
    · rintro ρ' w9 ⟨rfl, hag, H⟩
      obtain ⟨σ, rfl⟩ := ofL_ex hag
      refine CW.seq (CW.reg ?_)
      refine WL.ev rfl rfl (Ev.mv rfl rfl) (WL.ev rfl rfl (Ev.as rfl rfl) (WL.nil ?_))
      refine CW.ret ?_
      obtain rfl := sm hr
      exact ⟨_, res1 rfl rfl rfl, H.chg, _, _, _, rfl, H.outM (fr' := []) [true] fun _ _ => trivial⟩

noncomputable def iAttributeUses_m (a0 : Expr) : Option (List Occurrence) :=
  (ieveryNode_iAttributeUses_1_m a0 []).bind fun (y1, z1) =>
  (slices_SortFunc_Occurrence_m z1).bind fun z2 =>
  (slices_Compact_Occurrence_m z2).bind fun y2 =>
  some y2
theorem iAttributeUses_ok {a0 : Expr} {r : (List Occurrence)} (hr : iAttributeUses_m a0 = some r) {F0 : Nat → Prop} {w0 : World} {ca0 : List Value} (ha0 : rd F0 w0 a0 ca0) :
    Ret Tryz.prog 63 #[.agg ca0.toArray] w0 (fun _ => False) fun v w => ∃ A0 : Option Addr, ∃ n0 c0 : Nat, v = (.slice A0 n0 c0) ∧ HL F0 [] w0 w [] [It.O 90 r (.slice A0 n0 c0)] := by
  have H := (HL.start F0 w0).argR ha0
  obtain ⟨A1, n1, c1, rfl, hI1, hI2, hI3, hI4, hS1, hS2, H⟩ := op_Expr H (i := 0) rfl
  refine enter Tryz.func63 rfl rfl rfl ?_
  refine CW.seq (CW.reg ?_)
  refine WL.boxH rfl rfl rfl rfl rfl H fun b1 w1 H => ?_
  refine WL.ev rfl rfl (Ev.as rfl rfl) (WL.nil ?_)
  refine CW.seq (CW.reg ?_)
  refine WL.lit0H (α := Occurrence) rfl rfl rfl el76 sz90 H fun A2 n2 c2 w2 H => ?_
  refine WL.allocH rfl rfl rfl ze76 H fun b2 w3 H => ?_
  refine WL.stB (i := 2) rfl rfl rfl sz76 rfl rfl rfl rfl (all1 rfl all0) H rfl rfl rfl fun w4 H => ?_
  refine WL.nil ?_
  refine CW.seq (CW.reg ?_)
  refine WL.ev rfl rfl (Ev.lda rfl ag86 sz86 rfl (At.blk (H.rB (i := 0) rfl)) rfl) (WL.ev rfl rfl (Ev.mkfL rfl rfl rfl) ?_)
  obtain ⟨⟨y1, z1⟩, hy1, hr⟩ := bd hr
  obtain ⟨F', M', hfF, hoF, hcM⟩ := H.callN [false, true, true] ⟨noO, noB, trivial⟩
  obtain ⟨H', hcN⟩ := hcM (ps := [Pr.S a0.Args (.slice A1 n1 c1)]) ⟨hfF.get (i := 1) rfl, trivial⟩
  refine WL.call rfl rfl rfl rfl rfl ok126 rfl (ieveryNode_iAttributeUses_1_ok hy1 hI1 hI2 hI3 hI4 hS1 hS2 H') ?_
  rintro _ w5 hE ⟨A3, n3, c3, rfl, H'⟩
  have H := hcN 2 H' rfl ⟨fun _ _ _ _ _ h => h, ⟨fun _ _ _ _ _ h => h, trivial⟩⟩
  refine WL.nil ?_
  refine CW.seq (CW.reg ?_)
  refine WL.ev rfl rfl (Ev.ld rfl ag76 rfl ((H.rB (i := 2) rfl).cell rfl)) ?_
  obtain ⟨z2, hy2, hr⟩ := bd hr
  obtain ⟨F', M', hfF, hoF, hcM⟩ := H.callN [false, true, false] ⟨noO, trivial⟩
  obtain ⟨H', hcN⟩ := hcM (ps := []) trivial
  refine WL.call rfl rfl rfl rfl rfl ok128 rfl (slices_SortFunc_Occurrence_ok hy2 H') ?_
  rintro _ w6 hE ⟨rfl, H'⟩
  have H := hcN 1 H' rfl ⟨fun _ _ _ _ _ h => h, trivial⟩
  refine WL.nil ?_
  refine CW.seq (CW.reg ?_)
  refine WL.ev rfl rfl (Ev.ld rfl ag76 rfl ((H.rB (i := 2) rfl).cell rfl)) ?_
  obtain ⟨y2, hy3, hr⟩ := bd hr
  obtain ⟨F', M', hfF, hoF, hcM⟩ := H.callN [false, true, false] ⟨noO, trivial⟩
  obtain ⟨H', hcN⟩ := hcM (ps := []) trivial
  refine WL.call rfl rfl rfl rfl rfl ok130 rfl (slices_Compact_Occurrence_ok hy3 H') ?_
  rintro _ w7 hE ⟨A4, n4, c4, rfl, H'⟩
  have H := hcN 1 H' rfl ⟨fun _ _ _ _ _ h => h, trivial⟩
  refine WL.ev rfl rfl (Ev.as rfl rfl) (WL.nil ?_)
  refine CW.ret ?_
  obtain rfl := sm hr
  exact ⟨_, res1 rfl rfl rfl, H.ext0, _, _, _, rfl, H.outM (fr' := []) [false, true, false] fun _ _ => trivial⟩

noncomputable def slices_Index_Occurrence_L1 (a1 : Occurrence) : Nat → Occurrence → Unit → Option (Unit ⊕ Int) := fun k1 x1 _ => 
  if a1 = x1 then (
  some (.inr (k1 : Int))
  ) else (
  some (.inl ())
  )
noncomputable def slices_Index_Occurrence_m (a0 : (List Occurrence)) (a1 : Occurrence) : Option Int :=
  (findL (slices_Index_Occurrence_L1 a1) 0 a0 ()).bind <| onr (fun r1 => some r1) fun _ =>
  some (-1)
theorem slices_Index_Occurrence_ok {a0 : (List Occurrence)} {a1 : Occurrence} {r : Int} (hr : slices_Index_Occurrence_m a0 a1 = some r) {F0 : Nat → Prop} {w0 : World} {z0 : Value} (ha0 : rdS F0 w0 a0 z0) {ca1 : List Value} (ha1 : rd F0 w0 a1 ca1) :
    Ret Tryz.prog 132 #[z0, .agg ca1.toArray] w0 (fun _ => False) fun v w => v = .int .i64 r ∧ I64 r := by
  obtain ⟨A0', n0', c0', rfl⟩ := ha0.form3
  have H := ((HL.start F0 w0).argS ha0).argR ha1
  obtain ⟨rfl, hI1, hS1, H⟩ := op_Occurrence H (i := 1) rfl
  refine enter Tryz.func132 rfl rfl rfl ?_
  refine CW.seq (CW.reg ?_)
  refine WL.boxH rfl rfl rfl rfl rfl H fun b1 w1 H => ?_
  refine WL.ev rfl rfl (Ev.as rfl rfl) (WL.nil ?_)
  refine CW.seq (CW.seq (CW.reg ?_))
  refine WL.ev rfl rfl (Ev.mv rfl rfl) ?_
  have hl1 := (H.rS (i := 0) rfl).I
  refine WL.ev rfl rfl (Ev.lenV rfl el76 rfl (H.rS (i := 0) rfl)) (WL.ev rfl rfl (Ev.mv rfl rfl) (WL.nil ?_))
  obtain ⟨q1, hq1, hr⟩ := bd hr
  refine CW.block (CW.loop (α := Nat) (fun k1 => [(0, .slice A0' n0' c0'), (3, .pointer (some ⟨b1, 0, none⟩)), (7, .int .i64 (a0.length : Int)), (8, .int .i64 (k1 : Int))]) (fun k1 w => k1 ≤ a0.length ∧ findL (slices_Index_Occurrence_L1 a1) k1 (a0.drop k1) () = some q1 ∧ HL F0 [] w0 w [Pr.S a0 (.slice A0' n0' c0'), Pr.R a1 [.int .i64 a1.Pos, .string a1.Name]] [It.B b1 90 [.int .i64 a1.Pos, .string a1.Name]]) (fun k1 => a0.length - k1) 0 ⟨rfl, rfl, rfl, rfl, trivial⟩ ⟨Nat.zero_le _, hq1, H.keep 2 1⟩ ?_)
  rintro k1 σ w2 ⟨hk1, hq1, H⟩
  refine CW.seq (CW.reg ?_)
  refine WL.ev rfl rfl (Ev.bin rfl rfl rfl Bin.lss) (WL.nil ?_)
  refine CW.seq (CW.condD rfl (fun h1 => ?_) (fun h1 => ?_))
  · skip
    have hk2 := cast_lt h1
    obtain ⟨x1, z1, hx1, hb1, hs1, ht1⟩ := findL_go hq1 hk2
    refine CW.skip ?_
    refine CW.seq (CW.block (CW.seq (CW.reg ?_)))
    refine WL.ev rfl rfl (Ev.mv rfl rfl) (WL.ev rfl rfl (Ev.as rfl rfl) (WL.nil ?_))
    refine CW.seq (CW.quiet hmix (by kernel_rfl) ?_)
    refine QL.ev rfl rfl (fun _ hq => Ev.lda rfl ag90 sz90 rfl (At.blk ((H.ext hq).rB (i := 0) rfl)) rfl) (QL.ev rfl rfl (fun _ _ => Ev.mv rfl rfl) (QL.ev rfl rfl (fun _ _ => Ev.mv rfl rfl) ?_))
    obtain ⟨b2, ob2, cb2, hvb2, hI2, hS2, H⟩ := ixS_Occurrence H (i := 0) rfl hx1
    refine QL.ev rfl rfl (fun _ _ => Ev.ixVN rfl el76 sz90 rfl hvb2 rfl (lt_of hx1)) (QL.ev rfl rfl (fun _ hq => Ev.lda rfl ag90 sz90 rfl ((H.ext hq).rA (i := 2) rfl) rfl) (QL.ev rfl rfl (fun _ _ => Ev.bin rfl rfl rfl (Bin.eqlF fl90 (Occurrence_eqF a1 x1))) (QL.nil (fun w3 hE => ?_))))
    have H := H.ext hE
    refine CW.condD rfl (fun h2 => ?_) (fun h2 => ?_)
    · skip
      have hb1 := ifp h2 hb1
      refine CW.seq (CW.reg ?_)
      refine WL.ev rfl rfl (Ev.mv rfl rfl) (WL.ev rfl rfl (Ev.as rfl rfl) (WL.nil ?_))
      refine CW.ret ?_
      obtain rfl := sm hb1
      obtain rfl := ht1 _ rfl
      obtain rfl := sm hr
      exact ⟨_, res1 rfl rfl rfl, H.ext0, rfl, (i64_nat hk2 hl1)⟩
    · skip
      have hb1 := ifn h2 hb1
      refine CW.skip ?_
      refine CW.reg ?_
      refine WL.ev rfl rfl (Ev.bin rfl rfl rfl (Bin.addN (a := k1) (b := 1) rfl (i64_succN hk2 hl1.2))) (WL.ev rfl rfl (Ev.mv rfl rfl) (WL.nil ?_))
      obtain rfl := sm hb1
      have hq1 := hs1 _ rfl
      exact ⟨(k1 + 1), ⟨rfl, rfl, rfl, rfl, trivial⟩, ⟨hk2, hq1, H.keep 2 1⟩, Nat.sub_lt_sub_left hk2 (Nat.lt_succ_self _)⟩
  · skip
    obtain rfl := findL_end hq1 (not_cast_lt h1)
    refine CW.exit ?_
    refine CW.seq (CW.reg ?_)
    refine WL.ev rfl rfl (Ev.as rfl rfl) (WL.nil ?_)
    refine CW.ret ?_
    obtain rfl := sm hr
    exact ⟨_, res1 rfl rfl rfl, H.ext0, rfl, (by decide : I64 (-1))⟩

noncomputable def iOccurrenceIndex_m (a0 : (List Occurrence)) (a1 : Occurrence) : Option Int :=
  (slices_Index_Occurrence_m a0 a1).bind fun y1 =>
  some y1
theorem iOccurrenceIndex_ok {a0 : (List Occurrence)} {a1 : Occurrence} {r : Int} (hr : iOccurrenceIndex_m a0 a1 = some r) {F0 : Nat → Prop} {w0 : World} {z0 : Value} (ha0 : rdS F0 w0 a0 z0) {ca1 : List Value} (ha1 : rd F0 w0 a1 ca1) :
    Ret Tryz.prog 65 #[z0, .agg ca1.toArray] w0 (fun _ => False) fun v w => v = .int .i64 r ∧ I64 r := by
  obtain ⟨A0', n0', c0', rfl⟩ := ha0.form3
  have H := ((HL.start F0 w0).argS ha0).argR ha1
  obtain ⟨rfl, hI1, hS1, H⟩ := op_Occurrence H (i := 1) rfl
  refine enter Tryz.func65 rfl rfl rfl ?_
  refine CW.seq (CW.reg ?_)
  refine WL.boxH rfl rfl rfl rfl rfl H fun b1 w1 H => ?_
  refine WL.ev rfl rfl (Ev.as rfl rfl) (WL.nil ?_)
  refine CW.seq (CW.reg ?_)
  refine WL.ev rfl rfl (Ev.mv rfl rfl) (WL.ev rfl rfl (Ev.lda rfl ag90 sz90 rfl (At.blk (H.rB (i := 0) rfl)) rfl) ?_)
  obtain ⟨y1, hy1, hr⟩ := bd hr
  refine WL.call rfl rfl rfl rfl rfl ok132 rfl (slices_Index_Occurrence_ok hy1 (H.rS (i := 0) rfl) ⟨rfl, hI1, hS1⟩) ?_
  rintro _ w2 hE ⟨rfl, hI2⟩
  have H := H.ext hE
  refine WL.ev rfl rfl (Ev.as rfl rfl) (WL.nil ?_)
  refine CW.ret ?_
  obtain rfl := sm hr
  exact ⟨_, res1 rfl rfl rfl, H.ext0, rfl, hI2⟩

noncomputable def slices_Clone_int_m (a0 : (List Int)) : Option (List Int) :=
  grd (((([] : (List Int)).length : Int) + (a0.length : Int)) * 8 ≤ 140737488355328 ∧ (([] : (List Int)).length : Int) + (a0.length : Int) ≤ 9223372036854775807) <|
  some a0
theorem slices_Clone_int_ok {a0 : (List Int)} {r : (List Int)} (hr : slices_Clone_int_m a0 = some r) {F0 : Nat → Prop} {w0 : World} {z0 : Value} (ha0 : rdS F0 w0 a0 z0) :
    Ret Tryz.prog 179 #[z0] w0 (fun _ => False) fun v w => ∃ A0 : Option Addr, ∃ n0 c0 : Nat, v = (.slice A0 n0 c0) ∧ HL F0 [] w0 w [] [It.O 3 r (.slice A0 n0 c0)] := by
  obtain ⟨A0', n0', c0', rfl⟩ := ha0.form3
  have H := (HL.start F0 w0).argS ha0
  obtain ⟨hg1, hr⟩ := grd_some hr
  obtain rfl := sm hr
  refine enter Tryz.func179 rfl rfl rfl ?_
  refine CW.seq (CW.reg ?_)
  refine WL.ev rfl rfl (Ev.as rfl rfl) (WL.nil ?_)
  refine CW.seq (CW.seq (CW.reg ?_))
  refine WL.ev rfl rfl (Ev.mv rfl rfl) (WL.ev rfl rfl (Ev.bin rfl rfl rfl (Bin.eqlNil el33)) (WL.nil ?_))
  refine (CW.condD rfl (fun h1 => ?_) (fun h1 => ?_))
  · refine CW.seq (CW.reg ?_)
    refine WL.ev rfl rfl (Ev.as rfl rfl) (WL.nil ?_)
    refine CW.ret ?_
    have e0 : a0 = [] := rdS.nil_of ha0 h1
    subst e0
    have H := H.nil (α := Int) 3
    exact ⟨_, res1 rfl rfl rfl, H.ext0, _, _, _, rfl, H.outM (fr' := []) [true] fun _ _ => trivial⟩
  · refine CW.skip ?_
    refine CW.seq (CW.reg ?_)
    refine WL.lit0H (α := Int) rfl rfl rfl el33 sz3 H fun A2 n2 c2 w1 H => ?_
    refine WL.ev rfl rfl (Ev.mv rfl rfl) ?_
    refine WL.appS (i := 0) rfl rfl rfl el33 sz3 by3 ze3 rfl rfl rfl H rfl (H.rS (i := 0) rfl) hg1 fun A3 n3 c3 w2 H => ?_
    rw [List.nil_append] at H
    refine WL.ev rfl rfl (Ev.as rfl rfl) (WL.nil ?_)
    refine CW.ret ?_
    exact ⟨_, res1 rfl rfl rfl, H.ext0, _, _, _, rfl, H.outM (fr' := []) [true] fun _ _ => trivial⟩

noncomputable def icopyRelation_m (a0 : Relation) : Option Relation :=
  (slices_Clone_int_m a0.Rows).bind fun y1 =>
  some (⟨a0.N, y1⟩ : Relation)
theorem icopyRelation_ok {a0 : Relation} {r : Relation} (hr : icopyRelation_m a0 = some r) {F0 : Nat → Prop} {w0 : World} {ca0 : List Value} (ha0 : rd F0 w0 a0 ca0) :
    Ret Tryz.prog 131 #[.agg ca0.toArray] w0 (fun _ => False) fun v w => ∃ A0 : Option Addr, ∃ n0 c0 : Nat, v = .agg #[.int .i64 r.N, (.slice A0 n0 c0)] ∧ I64 r.N ∧ HL F0 [] w0 w [] [It.O 3 r.Rows (.slice A0 n0 c0)] := by
  have H := (HL.start F0 w0).argR ha0
  obtain ⟨A1, n1, c1, rfl, hI1, H⟩ := op_Relation H (i := 0) rfl
  refine enter Tryz.func131 rfl rfl rfl ?_
  refine CW.seq (CW.reg ?_)
  refine WL.boxH rfl rfl rfl rfl rfl H fun b1 w1 H => ?_
  refine WL.allocH rfl rfl rfl ze35 H fun b2 w2 H => ?_
  refine WL.nil ?_
  obtain ⟨y1, hy1, hr⟩ := bd hr
  refine CW.seq (CW.any2 5 (fun ρ => [.fix (.pointer (some ⟨b1, 0 + 0, none⟩)), .fix (.int .i64 a0.N), .fix (.pointer (some ⟨b1, 0 + 1, none⟩)), .fix (.slice A1 n1 c1), .free (fun S v w => ∃ A2 : Option Addr, ∃ n2 : Nat, ∃ c2 : Nat, v = .slice A2 n2 c2 ∧ NewI S w [It.O 3 y1 (.slice A2 n2 c2)])]) [[], [], [], [], []] NoM (fun _ _ => True) [] [] (noM _) hmix (by kernel_rfl) rfl ⟨trivial, trivial, trivial, trivial, fun _ _ _ _ _ ⟨A2, n2, c2, hv, hh⟩ hc hS hT => ⟨A2, n2, c2, hv, hh.chgT hc hS⟩, trivial⟩ trivial (fun _ _ _ _ _ _ _ => trivial) ?_)
  refine LL2.fx rfl rfl rfl rfl rfl (fun _ hq hK => Ev.fa rfl fo35_0 rfl) ?_
  refine LL2.fx rfl rfl rfl rfl rfl (fun _ hq hK => Ev.ld rfl ag3 rfl (((H.ext hq).rB (i := 0) rfl).cell rfl)) ?_
  refine LL2.fx rfl rfl rfl rfl rfl (fun _ hq hK => Ev.fa rfl fo35_1 rfl) ?_
  refine LL2.fx rfl rfl rfl rfl rfl (fun _ hq hK => Ev.ld rfl ag33 rfl (((H.ext hq).rB (i := 0) rfl).cell rfl)) ?_
  refine LL2.free rfl rfl rfl rfl (fun wq hq hK => ?_) (fun v_G1_4 S_G1_4 => ?_)
  · refine OpX.call rfl rfl rfl rfl ok179 rfl (slices_Clone_int_ok hy1 ((H.ext hq).rS (i := 1) rfl)) ?_
    rintro _ w hE ⟨A2, n2, c2, rfl, hh⟩
    exact ⟨hE, A2, n2, c2, rfl, NewI.of hh ⟨fun _ _ _ _ _ h => h, trivial⟩⟩
  intro w3 hE _ hK hap hbd
  have hE := chgNew hE
  obtain ⟨A2, n2, c2, rfl, hN1⟩ := hK 4 (by decide)
  have H := H.add hE hN1 ⟨fun _ _ _ _ _ h => h, trivial⟩ (fun q hq => (hbd 4 q hq).1)
  refine WL.ev rfl rfl (Ev.build rfl pl35 ze35 rfl rfl rfl rfl) ?_
  refine WL.stB (i := 1) rfl rfl rfl sz35 rfl rfl rfl rfl (all1 rfl (all1 rfl all0)) H rfl rfl rfl fun w4 H => ?_
  refine WL.nil ?_
  refine CW.ret ?_
  obtain rfl := sm hr
  exact ⟨_, resC rfl ag35 sz35 rfl rfl (At.blk (H.rB (i := 1) rfl)) rfl, H.ext0, _, _, _, rfl, hI1, H.outM (fr' := []) [false, false, true] fun _ _ => trivial⟩

noncomputable def iIsValidRelation_1_m (a0 : Int) (a1 : Relation) : Option Bool :=
  grd (0 ≤ a1.N) <|
  grd (0 ≤ a1.N ∧ a1.N < 63) <|
  (iwithin_m a0 0 (((2 ^ a1.N.toNat : Nat) : Int) - 1)).bind fun y1 =>
  some (!y1)
theorem iIsValidRelation_1_ok {a0 : Int} {a1 : Relation} {r : Bool} (hr : iIsValidRelation_1_m a0 a1 = some r) {F0 : Nat → Prop} {w0 : World} (ha0 : I64 a0) {b1p : Nat} (ha1 : CapP F0 w0 b1p a1) :
    Ret Tryz.prog 165 #[.int .i64 a0, .pointer (some ⟨b1p, 0, none⟩)] w0 (fun _ => False) fun v w => v = .bool r := by
  have H := HL.start F0 w0
  obtain ⟨cpa1, H⟩ := H.argP ha1
  obtain ⟨A1, n1, c1, rfl, hI1, H⟩ := op_Relation H (i := 1) rfl
  refine enter Tryz.func165 rfl rfl rfl ?_
  refine CW.seq (CW.reg ?_)
  refine WL.ev rfl rfl (Ev.as rfl rfl) (WL.nil ?_)
  refine CW.seq (CW.reg ?_)
  refine WL.ev rfl rfl (Ev.mv rfl rfl) (WL.ev rfl rfl (Ev.fa rfl fo35_0 rfl) (WL.ev rfl rfl (Ev.ld rfl ag3 rfl ((H.rA (i := 0) rfl).cell rfl)) ?_))
  obtain ⟨hg1, hr⟩ := grd_some hr
  refine WL.ev rfl rfl (Ev.convUI rfl Tryz.underlying3 it168 rfl hg1 hI1.2) ?_
  obtain ⟨hg2, hr⟩ := grd_some hr
  refine WL.ev rfl rfl (Ev.bin rfl rfl rfl (Bin.shlI hg2.1 hg2.2)) (WL.ev rfl rfl (Ev.bin rfl rfl rfl (Bin.sub (i64_sub (k := 1) (i64_pow hg2.2) (by decide)))) ?_)
  obtain ⟨y1, hy1, hr⟩ := bd hr
  refine WL.call rfl rfl rfl rfl rfl ok117 rfl (iwithin_ok hy1 (F0 := fun _ => False) ha0 (by decide : I64 0) (i64_sub (k := 1) (i64_pow hg2.2) (by decide))) ?_
  rintro _ w1 hE rfl
  have H := H.ext hE
  refine WL.ev rfl rfl (Ev.not rfl rfl) (WL.ev rfl rfl (Ev.as rfl rfl) (WL.nil ?_))
  refine CW.ret ?_
  obtain rfl := sm hr
  exact ⟨_, res1 rfl rfl rfl, H.ext0, rfl⟩

noncomputable def slices_IndexFunc_int_iIsValidRelation_1_L1 (a1_0 : Relation) : Nat → Int → Unit → Option (Unit ⊕ Int) := fun k1 x1 _ => 
  (iIsValidRelation_1_m x1 a1_0).bind fun y1 =>
  if y1 = true then (
  some (.inr (k1 : Int))
  ) else (
  some (.inl ())
  )
noncomputable def slices_IndexFunc_int_iIsValidRelation_1_m (a0 : (List Int)) (a1_0 : Relation) : Option Int :=
  (findL (slices_IndexFunc_int_iIsValidRelation_1_L1 a1_0) 0 a0 ()).bind <| onr (fun r1 => some r1) fun _ =>
  some (-1)
theorem slices_IndexFunc_int_iIsValidRelation_1_ok {a0 : (List Int)} {a1_0 : Relation} {r : Int} (hr : slices_IndexFunc_int_iIsValidRelation_1_m a0 a1_0 = some r) {F0 : Nat → Prop} {w0 : World} {z0 : Value} (ha0 : rdS F0 w0 a0 z0) {b1_0p : Nat} (ha1_0 : CapP F0 w0 b1_0p a1_0) :
    Ret Tryz.prog 204 #[z0, .func (.func 165) #[] #[.pointer (some ⟨b1_0p, 0, none⟩)]] w0 (fun _ => False) fun v w => v = .int .i64 r ∧ I64 r := by
  obtain ⟨A0', n0', c0', rfl⟩ := ha0.form3
  have H := (HL.start F0 w0).argS ha0
  obtain ⟨cpa1_0, H⟩ := H.argP ha1_0
  obtain ⟨A1, n1, c1, rfl, hI1, H⟩ := op_Relation H (i := 2) rfl
  refine enter Tryz.func204 rfl rfl rfl ?_
  refine CW.seq (CW.reg ?_)
  refine WL.ev rfl rfl (Ev.as rfl rfl) (WL.nil ?_)
  refine CW.seq (CW.seq (CW.reg ?_))
  refine WL.ev rfl rfl (Ev.mv rfl rfl) ?_
  have hl1 := (H.rS (i := 0) rfl).I
  refine WL.ev rfl rfl (Ev.lenV rfl el33 rfl (H.rS (i := 0) rfl)) (WL.ev rfl rfl (Ev.mv rfl rfl) (WL.nil ?_))
  obtain ⟨q1, hq1, hr⟩ := bd hr
  refine CW.block (CW.loop (α := Nat) (fun k1 => [(0, .slice A0' n0' c0'), (1, .func (.func 165) #[] #[.pointer (some ⟨b1_0p, 0, none⟩)]), (7, .int .i64 (a0.length : Int)), (8, .int .i64 (k1 : Int))]) (fun k1 w => k1 ≤ a0.length ∧ findL (slices_IndexFunc_int_iIsValidRelation_1_L1 a1_0) k1 (a0.drop k1) () = some q1 ∧ HL F0 [] w0 w [Pr.S a0 (.slice A0' n0' c0'), Pr.A b1_0p 0 [.int .i64 a1_0.N, .slice A1 n1 c1], Pr.R a1_0 [.int .i64 a1_0.N, .slice A1 n1 c1], Pr.S a1_0.Rows (.slice A1 n1 c1)] []) (fun k1 => a0.length - k1) 0 ⟨rfl, rfl, rfl, rfl, trivial⟩ ⟨Nat.zero_le _, hq1, H.keep 4 0⟩ ?_)
  rintro k1 σ w1 ⟨hk1, hq1, H⟩
  refine CW.seq (CW.reg ?_)
  refine WL.ev rfl rfl (Ev.bin rfl rfl rfl Bin.lss) (WL.nil ?_)
  refine CW.seq (CW.condD rfl (fun h1 => ?_) (fun h1 => ?_))
  · skip
    have hk2 := cast_lt h1
    obtain ⟨x1, z1, hx1, hb1, hs1, ht1⟩ := findL_go hq1 hk2
    refine CW.skip ?_
    refine CW.seq (CW.block (CW.seq (CW.reg ?_)))
    refine WL.ev rfl rfl (Ev.mv rfl rfl) (WL.ev rfl rfl (Ev.as rfl rfl) (WL.nil ?_))
    refine CW.seq (CW.reg ?_)
    refine WL.ev rfl rfl (Ev.mv rfl rfl) (WL.ev rfl rfl (Ev.mv rfl rfl) (WL.ev rfl rfl (Ev.mv rfl rfl) ?_))
    obtain ⟨b1, ob1, cb1, hvb1, hI2, H⟩ := ixS_Int H (i := 0) rfl hx1
    refine WL.ev rfl rfl (Ev.ixVN rfl el33 sz3 rfl hvb1 rfl (lt_of hx1)) (WL.ev rfl rfl (Ev.ld rfl ag3 rfl ((H.rA (i := 4) rfl).cell0 rfl)) ?_)
    obtain ⟨y1, hy1, hb1⟩ := bd hb1
    refine WL.call rfl rfl rfl rfl rfl ok165 rfl (iIsValidRelation_1_ok hy1 (F0 := fun q => q < _) hI2 ⟨H.rAl (i := 1) rfl, _, H.rA (i := 1) rfl, ⟨_, rfl, hI1, (H.rS (i := 3) rfl)⟩⟩) ?_
    rintro _ w2 hE rfl
    have H := H.ext hE
    refine WL.nil ?_
    refine CW.condB rfl (fun h2 => ?_) (fun h2 => ?_)
    · skip
      have hb1 := ifp h2 hb1
      refine CW.seq (CW.reg ?_)
      refine WL.ev rfl rfl (Ev.mv rfl rfl) (WL.ev rfl rfl (Ev.as rfl rfl) (WL.nil ?_))
      refine CW.ret ?_
      obtain rfl := sm hb1
      obtain rfl := ht1 _ rfl
      obtain rfl := sm hr
      exact ⟨_, res1 rfl rfl rfl, H.ext0, rfl, (i64_nat hk2 hl1)⟩
    · skip
      have hb1 := ifn h2 hb1
      refine CW.skip ?_
      refine CW.reg ?_
      refine WL.ev rfl rfl (Ev.bin rfl rfl rfl (Bin.addN (a := k1) (b := 1) rfl (i64_succN hk2 hl1.2))) (WL.ev rfl rfl (Ev.mv rfl rfl) (WL.nil ?_))
      obtain rfl := sm hb1
      have hq1 := hs1 _ rfl
      exact ⟨(k1 + 1), ⟨rfl, rfl, rfl, rfl, trivial⟩, ⟨hk2, hq1, H.keep 4 0⟩, Nat.sub_lt_sub_left hk2 (Nat.lt_succ_self _)⟩
  · skip
    obtain rfl := findL_end hq1 (not_cast_lt h1)
    refine CW.exit ?_
    refine CW.seq (CW.reg ?_)
    refine WL.ev rfl rfl (Ev.as rfl rfl) (WL.nil ?_)
    refine CW.ret ?_
    obtain rfl := sm hr
    exact ⟨_, res1 rfl rfl rfl, H.ext0, rfl, (by decide : I64 (-1))⟩

noncomputable def slices_ContainsFunc_int_iIsValidRelation_1_m (a0 : (List Int)) (a1_0 : Relation) : Option Bool :=
  (slices_IndexFunc_int_iIsValidRelation_1_m a0 a1_0).bind fun y1 =>
  some (decide (0 ≤ y1))
theorem slices_ContainsFunc_int_iIsValidRelation_1_ok {a0 : (List Int)} {a1_0 : Relation} {r : Bool} (hr : slices_ContainsFunc_int_iIsValidRelation_1_m a0 a1_0 = some r) {F0 : Nat → Prop} {w0 : World} {z0 : Value} (ha0 : rdS F0 w0 a0 z0) {b1_0p : Nat} (ha1_0 : CapP F0 w0 b1_0p a1_0) :
    Ret Tryz.prog 164 #[z0, .func (.func 165) #[] #[.pointer (some ⟨b1_0p, 0, none⟩)]] w0 (fun _ => False) fun v w => v = .bool r := by
  obtain ⟨A0', n0', c0', rfl⟩ := ha0.form3
  have H := (HL.start F0 w0).argS ha0
  obtain ⟨cpa1_0, H⟩ := H.argP ha1_0
  obtain ⟨A1, n1, c1, rfl, hI1, H⟩ := op_Relation H (i := 2) rfl
  refine enter Tryz.func164 rfl rfl rfl ?_
  refine CW.seq (CW.reg ?_)
  refine WL.ev rfl rfl (Ev.as rfl rfl) (WL.nil ?_)
  refine CW.seq (CW.reg ?_)
  refine WL.ev rfl rfl (Ev.mv rfl rfl) (WL.ev rfl rfl (Ev.mv rfl rfl) ?_)
  obtain ⟨y1, hy1, hr⟩ := bd hr
  refine WL.call rfl rfl rfl rfl rfl ok204 rfl (slices_IndexFunc_int_iIsValidRelation_1_ok hy1 (H.rS (i := 0) rfl) ⟨H.rAl (i := 1) rfl, _, H.rA (i := 1) rfl, ⟨_, rfl, hI1, (H.rS (i := 3) rfl)⟩⟩) ?_
  rintro _ w1 hE ⟨rfl, hI2⟩
  have H := H.ext hE
  refine WL.ev rfl rfl (Ev.bin rfl rfl rfl Bin.geq) (WL.ev rfl rfl (Ev.as rfl rfl) (WL.nil ?_))
  refine CW.ret ?_
  obtain rfl := sm hr
  exact ⟨_, res1 rfl rfl rfl, H.ext0, rfl⟩

noncomputable def iIsValidRelation_m (a0 : Relation) : Option Bool :=
  (iwithin_m a0.N 0 16).bind fun y1 =>
  (
  if y1 = true then (
  some (decide ((a0.Rows.length : Int) = a0.N))
  ) else (
  some false
  )
  ).bind fun s1 =>
  (
  if s1 = true then (
  (slices_ContainsFunc_int_iIsValidRelation_1_m a0.Rows a0).bind fun y2 =>
  some (!y2)
  ) else (
  some false
  )
  ).bind fun s2 =>
  some s2
theorem iIsValidRelation_ok {a0 : Relation} {r : Bool} (hr : iIsValidRelation_m a0 = some r) {F0 : Nat → Prop} {w0 : World} {ca0 : List Value} (ha0 : rd F0 w0 a0 ca0) :
    Ret Tryz.prog 116 #[.agg ca0.toArray] w0 (fun _ => False) fun v w => v = .bool r := by
  have H := (HL.start F0 w0).argR ha0
  obtain ⟨A1, n1, c1, rfl, hI1, H⟩ := op_Relation H (i := 0) rfl
  refine enter Tryz.func116 rfl rfl rfl ?_
  refine CW.seq (CW.reg ?_)
  refine WL.boxH rfl rfl rfl rfl rfl H fun b1 w1 H => ?_
  refine WL.ev rfl rfl (Ev.as rfl rfl) (WL.nil ?_)
  refine CW.seq (CW.reg ?_)
  refine WL.ev rfl rfl (Ev.fa rfl fo35_0 rfl) (WL.ev rfl rfl (Ev.ld rfl ag3 rfl ((H.rB (i := 0) rfl).cell rfl)) ?_)
  obtain ⟨y1, hy1, hr⟩ := bd hr
  refine WL.call rfl rfl rfl rfl rfl ok117 rfl (iwithin_ok hy1 (F0 := fun _ => False) hI1 (by decide : I64 0) (by decide : I64 16)) ?_
  rintro _ w2 hE rfl
  have H := H.ext hE
  obtain ⟨q1, hm1, hr⟩ := bd hr
  refine WL.cut 8 (fun ρ' w => ∃ (s1 : Bool), s1 = q1 ∧ agree ρ' [(1, .pointer (some ⟨b1, 0, none⟩)), (2, .bool false), (13, .bool s1)] ∧ HL F0 [] w0 w [Pr.R a0 [.int .i64 a0.N, .slice A1 n1 c1], Pr.S a0.Rows (.slice A1 n1 c1)] [It.B b1 35 [.int .i64 a0.N, .slice A1 n1 c1]]) ?_ ?_
  · skip
    refine WL.mvB rfl rfl rfl rfl (fun h1 => ?_) (fun h1 => ?_)
    · skip
      have hm1 := ifp h1 hm1
      refine WL.on rfl rfl (WL.ev rfl rfl (Ev.fa rfl fo35_1 rfl) (WL.on rfl rfl (WL.ev rfl rfl (Ev.ld rfl ag33 rfl ((H.rB (i := 0) rfl).cell rfl)) (WL.on rfl rfl ?_))))
      have hl1 := (H.rS (i := 1) rfl).I
      refine WL.ev rfl rfl (Ev.lenV rfl el33 rfl (H.rS (i := 1) rfl)) (WL.on rfl rfl (WL.ev rfl rfl (Ev.fa rfl fo35_0 rfl) (WL.on rfl rfl (WL.ev rfl rfl (Ev.ld rfl ag3 rfl ((H.rB (i := 0) rfl).cell rfl)) (WL.on rfl rfl (WL.ev rfl rfl (Ev.bin rfl rfl rfl Bin.eql) (WL.ev rfl rfl (Ev.pickT rfl rfl rfl) (WL.nil ?_))))))))
      obtain rfl := sm hm1
      exact ⟨(decide ((a0.Rows.length : Int) = a0.N)), rfl, ⟨rfl, rfl, rfl, trivial⟩, H.keep 2 1⟩
    · skip
      have hm1 := ifn h1 hm1
      refine WL.off rfl rfl rfl (WL.off rfl rfl rfl (WL.off rfl rfl rfl (WL.off rfl rfl rfl (WL.off rfl rfl rfl (WL.off rfl rfl rfl (WL.ev rfl rfl (Ev.pickF rfl rfl rfl) (WL.nil ?_)))))))
      obtain rfl := sm hm1
      exact ⟨false, rfl, ⟨rfl, rfl, rfl, trivial⟩, H.keep 2 1⟩
  · rintro ρ' w3 ⟨s1, rfl, hag, H⟩
    obtain ⟨σ, rfl⟩ := ofL_ex hag
    obtain ⟨q2, hm2, hr⟩ := bd hr
    refine WL.cut 7 (fun ρ' w => ∃ (s2 : Bool), s2 = q2 ∧ agree ρ' [(2, .bool false), (20, .bool s2)] ∧ HL F0 [] w0 w [Pr.R a0 [.int .i64 a0.N, .slice A1 n1 c1], Pr.S a0.Rows (.slice A1 n1 c1)] [It.B b1 35 [.int .i64 a0.N, .slice A1 n1 c1]]) ?_ ?_
    · skip
      refine WL.mvB rfl rfl rfl rfl (fun h2 => ?_) (fun h2 => ?_)
      · skip
        have hm2 := ifp h2 hm2
        refine WL.on rfl rfl (WL.ev rfl rfl (Ev.fa rfl fo35_1 rfl) (WL.on rfl rfl (WL.ev rfl rfl (Ev.ld rfl ag33 rfl ((H.rB (i := 0) rfl).cell rfl)) (WL.on rfl rfl (WL.ev rfl rfl (Ev.mkfL rfl rfl rfl) (WL.on rfl rfl ?_))))))
        obtain ⟨y2, hy2, hm2⟩ := bd hm2
        refine WL.call rfl rfl rfl rfl rfl ok164 rfl (slices_ContainsFunc_int_iIsValidRelation_1_ok hy2 (H.rS (i := 1) rfl) ⟨(H.rB (i := 0) rfl).lt, _, At.blk (H.rB (i := 0) rfl), ⟨_, rfl, hI1, (H.rS (i := 1) rfl)⟩⟩) ?_
        rintro _ w4 hE rfl
        have H := H.ext hE
        refine WL.on rfl rfl (WL.ev rfl rfl (Ev.not rfl rfl) (WL.ev rfl rfl (Ev.pickT rfl rfl rfl) (WL.nil ?_)))
        obtain rfl := sm hm2
        exact ⟨(!y2), rfl, ⟨rfl, rfl, trivial⟩, H.keep 2 1⟩
      · skip
        have hm2 := ifn h2 hm2
        refine WL.off rfl rfl rfl (WL.off rfl rfl rfl (WL.off rfl rfl rfl (WL.off rfl rfl rfl (WL.off rfl rfl rfl (WL.ev rfl rfl (Ev.pickF rfl rfl rfl) (WL.nil ?_))))))
        obtain rfl := sm hm2
        exact ⟨false, rfl, ⟨rfl, rfl, trivial⟩, H.keep 2 1⟩
    · rintro ρ' w5 ⟨s2, rfl, hag, H⟩
      obtain ⟨σ, rfl⟩ := ofL_ex hag
      refine WL.ev rfl rfl (Ev.as rfl rfl) (WL.nil ?_)
      refine CW.ret ?_
      obtain rfl := sm hr
      exact ⟨_, res1 rfl rfl rfl, H.ext0, rfl⟩

noncomputable def iAddPair_m (a0 : Relation) (a1 : Int) (a2 : Int) : Option Relation :=
  (icopyRelation_m a0).bind fun y1 =>
  (iIsValidRelation_m a0).bind fun y2 =>
  (
  if y2 = true then (
  grd (I64 (a0.N - 1)) <|
  (iwithin_m a1 0 (a0.N - 1)).bind fun y3 =>
  some y3
  ) else (
  some false
  )
  ).bind fun s1 =>
  (
  if s1 = true then (
  grd (I64 (a0.N - 1)) <|
  (iwithin_m a2 0 (a0.N - 1)).bind fun y4 =>
  some y4
  ) else (
  some false
  )
  ).bind fun s2 =>
  if s2 = true then (
  grd (0 ≤ a1) <|
  (y1.Rows[a1.toNat]?).bind fun x1 =>
  grd (0 ≤ a2) <|
  grd (0 ≤ a2 ∧ a2 < 63) <|
  grd (0 ≤ x1 ∧ 0 ≤ ((2 ^ a2.toNat : Nat) : Int)) <|
  some (⟨y1.N, (List.set y1.Rows a1.toNat ((x1.toNat ||| ((2 ^ a2.toNat : Nat) : Int).toNat : Nat) : Int))⟩ : Relation)
  ) else (
  some y1
  )
theorem iAddPair_ok {a0 : Relation} {a1 : Int} {a2 : Int} {r : Relation} (hr : iAddPair_m a0 a1 a2 = some r) {F0 : Nat → Prop} {w0 : World} {ca0 : List Value} (ha0 : rd F0 w0 a0 ca0) (ha1 : I64 a1) (ha2 : I64 a2) :
    Ret Tryz.prog 64 #[.agg ca0.toArray, .int .i64 a1, .int .i64 a2] w0 (fun _ => False) fun v w => ∃ A0 : Option Addr, ∃ n0 c0 : Nat, v = .agg #[.int .i64 r.N, (.slice A0 n0 c0)] ∧ I64 r.N ∧ HL F0 [] w0 w [] [It.O 3 r.Rows (.slice A0 n0 c0)] := by
  have H := (HL.start F0 w0).argR ha0
  obtain ⟨A1, n1, c1, rfl, hI1, H⟩ := op_Relation H (i := 0) rfl
  refine enter Tryz.func64 rfl rfl rfl ?_
  refine CW.seq (CW.reg ?_)
  refine WL.boxH rfl rfl rfl rfl rfl H fun b1 w1 H => ?_
  refine WL.allocH rfl rfl rfl ze35 H fun b2 w2 H => ?_
  refine WL.nil ?_
  refine CW.seq (CW.reg ?_)
  refine WL.ev rfl rfl (Ev.lda rfl ag35 sz35 rfl (At.blk (H.rB (i := 0) rfl)) rfl) ?_
  obtain ⟨y1, hy1, hr⟩ := bd hr
  refine WL.call rfl rfl rfl rfl rfl ok131 rfl (icopyRelation_ok hy1 ⟨_, rfl, hI1, (H.rS (i := 1) rfl)⟩) ?_
  rintro _ w3 hE ⟨A2, n2, c2, rfl, hI2, H'⟩
  have H := H.callA H' ⟨fun _ _ _ _ _ h => h, trivial⟩
  refine WL.allocH rfl rfl rfl ze35 H fun b3 w4 H => ?_
  refine WL.stB (i := 3) rfl rfl rfl sz35 rfl rfl rfl rfl (all1 rfl (all1 rfl all0)) H rfl rfl rfl fun w5 H => ?_
  refine WL.nil ?_
  refine CW.seq (CW.seq (CW.reg ?_))
  refine WL.ev rfl rfl (Ev.lda rfl ag35 sz35 rfl (At.blk (H.rB (i := 0) rfl)) rfl) ?_
  obtain ⟨y2, hy2, hr⟩ := bd hr
  refine WL.call rfl rfl rfl rfl rfl ok116 rfl (iIsValidRelation_ok hy2 ⟨_, rfl, hI1, (H.rS (i := 1) rfl)⟩) ?_
  rintro _ w6 hE rfl
  have H := H.ext hE
  obtain ⟨q1, hm1, hr⟩ := bd hr
  refine WL.cut 7 (fun ρ' w => ∃ (s1 : Bool), s1 = q1 ∧ agree ρ' [(1, .int .i64 a1), (2, .int .i64 a2), (3, .pointer (some ⟨b1, 0, none⟩)), (6, .pointer (some ⟨b2, 0, none⟩)), (7, .pointer (some ⟨b3, 0, none⟩)), (18, .bool s1)] ∧ HL F0 [] w0 w [Pr.R a0 [.int .i64 a0.N, .slice A1 n1 c1], Pr.S a0.Rows (.slice A1 n1 c1)] [It.B b1 35 [.int .i64 a0.N, .slice A1 n1 c1], It.B b2 35 [.int .i64 0, .slice none 0 0], It.O 3 y1.Rows (.slice A2 n2 c2), It.B b3 35 [.int .i64 y1.N, .slice A2 n2 c2]]) ?_ ?_
  · skip
    refine WL.mvB rfl rfl rfl rfl (fun h1 => ?_) (fun h1 => ?_)
    · skip
      have hm1 := ifp h1 hm1
      refine WL.on rfl rfl (WL.ev rfl rfl (Ev.mv rfl rfl) (WL.on rfl rfl (WL.ev rfl rfl (Ev.fa rfl fo35_0 rfl) (WL.on rfl rfl (WL.ev rfl rfl (Ev.ld rfl ag3 rfl ((H.rB (i := 0) rfl).cell rfl)) (WL.on rfl rfl ?_))))))
      obtain ⟨hg1, hm1⟩ := grd_some hm1
      refine WL.ev rfl rfl (Ev.bin rfl rfl rfl (Bin.sub hg1)) (WL.on rfl rfl ?_)
      obtain ⟨y3, hy3, hm1⟩ := bd hm1
      refine WL.call rfl rfl rfl rfl rfl ok117 rfl (iwithin_ok hy3 (F0 := fun _ => False) ha1 (by decide : I64 0) hg1) ?_
      rintro _ w7 hE rfl
      have H := H.ext hE
      refine WL.ev rfl rfl (Ev.pickT rfl rfl rfl) (WL.nil ?_)
      obtain rfl := sm hm1
      exact ⟨y3, rfl, ⟨rfl, rfl, rfl, rfl, rfl, rfl, trivial⟩, H.keep 2 4⟩
    · skip
      have hm1 := ifn h1 hm1
      refine WL.off rfl rfl rfl (WL.off rfl rfl rfl (WL.off rfl rfl rfl (WL.off rfl rfl rfl (WL.off rfl rfl rfl (WL.ev rfl rfl (Ev.pickF rfl rfl rfl) (WL.nil ?_))))))
      obtain rfl := sm hm1
      exact ⟨false, rfl, ⟨rfl, rfl, rfl, rfl, rfl, rfl, trivial⟩, H.keep 2 4⟩
  · rintro ρ' w8 ⟨s1, rfl, hag, H⟩
    obtain ⟨σ, rfl⟩ := ofL_ex hag
    obtain ⟨q2, hm2, hr⟩ := bd hr
    refine WL.cut 7 (fun ρ' w => ∃ (s2 : Bool), s2 = q2 ∧ agree ρ' [(1, .int .i64 a1), (2, .int .i64 a2), (6, .pointer (some ⟨b2, 0, none⟩)), (7, .pointer (some ⟨b3, 0, none⟩)), (25, .bool s2)] ∧ HL F0 [] w0 w [Pr.R a0 [.int .i64 a0.N, .slice A1 n1 c1], Pr.S a0.Rows (.slice A1 n1 c1)] [It.B b1 35 [.int .i64 a0.N, .slice A1 n1 c1], It.B b2 35 [.int .i64 0, .slice none 0 0], It.O 3 y1.Rows (.slice A2 n2 c2), It.B b3 35 [.int .i64 y1.N, .slice A2 n2 c2]]) ?_ ?_
    · skip
      refine WL.mvB rfl rfl rfl rfl (fun h2 => ?_) (fun h2 => ?_)
      · skip
        have hm2 := ifp h2 hm2
        refine WL.on rfl rfl (WL.ev rfl rfl (Ev.mv rfl rfl) (WL.on rfl rfl (WL.ev rfl rfl (Ev.fa rfl fo35_0 rfl) (WL.on rfl rfl (WL.ev rfl rfl (Ev.ld rfl ag3 rfl ((H.rB (i := 0) rfl).cell rfl)) (WL.on rfl rfl ?_))))))
        obtain ⟨hg2, hm2⟩ := grd_some hm2
        refine WL.ev rfl rfl (Ev.bin rfl rfl rfl (Bin.sub hg2)) (WL.on rfl rfl ?_)
        obtain ⟨y4, hy4, hm2⟩ := bd hm2
        refine WL.call rfl rfl rfl rfl rfl ok117 rfl (iwithin_ok hy4 (F0 := fun _ => False) ha2 (by decide : I64 0) hg2) ?_
        rintro _ w9 hE rfl
        have H := H.ext hE
        refine WL.ev rfl rfl (Ev.pickT rfl rfl rfl) (WL.nil ?_)
        obtain rfl := sm hm2
        exact ⟨y4, rfl, ⟨rfl, rfl, rfl, rfl, rfl, trivial⟩, H.keep 2 4⟩
      · skip
        have hm2 := ifn h2 hm2
        refine WL.off rfl rfl rfl (WL.off rfl rfl rfl (WL.off rfl rfl rfl (WL.off rfl rfl rfl (WL.off rfl rfl rfl (WL.ev rfl rfl (Ev.pickF rfl rfl rfl) (WL.nil ?_))))))
        obtain rfl := sm hm2
        exact ⟨false, rfl, ⟨rfl, rfl, rfl, rfl, rfl, trivial⟩, H.keep 2 4⟩
    · rintro ρ' w10 ⟨s2, rfl, hag, H⟩
      obtain ⟨σ, rfl⟩ := ofL_ex hag
      refine WL.nil ?_
      refine CW.condB rfl (fun h3 => ?_) (fun h3 => ?_)
      · skip
        have hr := ifp h3 hr
        refine CW.reg ?_
        refine WL.ev rfl rfl (Ev.fa rfl fo35_1 rfl) (WL.ev rfl rfl (Ev.ld rfl ag33 rfl ((H.rB (i := 3) rfl).cell rfl)) (WL.ev rfl rfl (Ev.mv rfl rfl) ?_))
        obtain ⟨hg3, hr⟩ := grd_some hr
        obtain ⟨x1, hx1, hr⟩ := bd hr
        obtain ⟨b4, cb4, hvb4, hbb4⟩ := H.ptO (i := 2) rfl hx1
        refine WL.ev rfl rfl (Ev.ixV rfl el33 sz3 rfl hvb4 rfl hg3 (lt_of hx1)) ?_
        obtain ⟨hA1, hI3, H⟩ := elO_Int H (i := 2) rfl hx1 hbb4
        refine WL.ev rfl rfl (Ev.ld rfl ag3 rfl (hA1.cell0 rfl)) (WL.ev rfl rfl (Ev.mv rfl rfl) ?_)
        obtain ⟨hg4, hr⟩ := grd_some hr
        refine WL.ev rfl rfl (Ev.convUI rfl Tryz.underlying3 it168 rfl hg4 ha2.2) ?_
        obtain ⟨hg5, hr⟩ := grd_some hr
        refine WL.ev rfl rfl (Ev.bin rfl rfl rfl (Bin.shlI hg5.1 hg5.2)) ?_
        obtain ⟨hg6, hr⟩ := grd_some hr
        refine WL.ev rfl rfl (Ev.bin rfl rfl rfl (Bin.orI hg6.1 hI3.2 hg6.2 (i64_pow hg5.2).2)) ?_
        obtain ⟨b5, cb5, hvb5, hbb5⟩ := H.ptO (i := 2) rfl hx1
        refine WL.ev rfl rfl (Ev.ixV rfl el33 sz3 rfl hvb5 rfl hg3 (lt_of hx1)) ?_
        refine WL.stOf (i := 2) (z := ((x1.toNat ||| ((2 ^ a2.toNat : Nat) : Int).toNat : Nat) : Int)) rfl rfl rfl sz3 rfl rfl rfl (fun _ => ⟨rfl, rfl, (i64_or hg6 hI3 (i64_pow hg5.2))⟩) H rfl hbb5 (by simpa using lt_of hx1) fun w11 H => ?_
        refine WL.nil ?_
        refine CW.seq (CW.reg ?_)
        refine WL.ev rfl rfl (Ev.lda rfl ag35 sz35 rfl (At.blk (H.rB (i := 3) rfl)) rfl) ?_
        refine WL.stB (i := 1) rfl rfl rfl sz35 rfl rfl rfl rfl (all1 rfl (all1 rfl all0)) H rfl rfl rfl fun w12 H => ?_
        refine WL.nil ?_
        refine CW.ret ?_
        obtain rfl := sm hr
        exact ⟨_, resC rfl ag35 sz35 rfl rfl (At.blk (H.rB (i := 1) rfl)) rfl, H.ext0, _, _, _, rfl, hI2, H.outM (fr' := []) [false, false, true, false] fun _ _ => trivial⟩
      · skip
        have hr := ifn h3 hr
        refine CW.skip ?_
        refine CW.seq (CW.reg ?_)
        refine WL.ev rfl rfl (Ev.lda rfl ag35 sz35 rfl (At.blk (H.rB (i := 3) rfl)) rfl) ?_
        refine WL.stB (i := 1) rfl rfl rfl sz35 rfl rfl rfl rfl (all1 rfl (all1 rfl all0)) H rfl rfl rfl fun w13 H => ?_
        refine WL.nil ?_
        refine CW.ret ?_
        obtain rfl := sm hr
        exact ⟨_, resC rfl ag35 sz35 rfl rfl (At.blk (H.rB (i := 1) rfl)) rfl, H.ext0, _, _, _, rfl, hI2, H.outM (fr' := []) [false, false, true, false] fun _ _ => trivial⟩

noncomputable def iLocalRelation_L2 (y1 : (List Occurrence)) (k1 : Nat) : Nat → Occurrence → ((List Int) × Int) → Option ((List Int) × Int) := fun k2 x2 (s3, s4) => 
  (iOccurrenceIndex_m y1 x2).bind fun y6 =>
  (iAddPair_m (⟨s4, s3⟩ : Relation) y6 (k1 : Int)).bind fun y7 =>
  some (y7.Rows, y7.N)
noncomputable def iLocalRelation_L1 (a1 : Rule) (y1 : (List Occurrence)) : Nat → Occurrence → ((List Int) × Int) → Option ((List Int) × Int) := fun k1 x1 (s1, s2) => 
  (iFindEquation_m a1 x1).bind fun (y3, y4) =>
  (iAttributeUses_m y3).bind fun y5 =>
  (eachL (iLocalRelation_L2 y1 k1) 0 y5 (s1, s2)).bind fun (s3, s4) =>
  some (s3, s4)
noncomputable def iLocalRelation_m (a0 : Grammar) (a1 : Rule) : Option Relation :=
  (iOccurrencesOf_m a0 a1).bind fun y1 =>
  (iEmptyRelation_m (y1.length : Int)).bind fun y2 =>
  if 16 < (y1.length : Int) then (
  some (⟨0, []⟩ : Relation)
  ) else (
  (eachL (iLocalRelation_L1 a1 y1) 0 y1 (y2.Rows, y2.N)).bind fun (s1, s2) =>
  some (⟨s2, s1⟩ : Relation)
  )
theorem iLocalRelation_ok {a0 : Grammar} {a1 : Rule} {r : Relation} (hr : iLocalRelation_m a0 a1 = some r) {F0 : Nat → Prop} {w0 : World} {ca0 : List Value} (ha0 : rd F0 w0 a0 ca0) {ca1 : List Value} (ha1 : rd F0 w0 a1 ca1) :
    Ret Tryz.prog 12 #[.agg ca0.toArray, .agg ca1.toArray] w0 (fun _ => False) fun v w => ∃ A0 : Option Addr, ∃ n0 c0 : Nat, v = .agg #[.int .i64 r.N, (.slice A0 n0 c0)] ∧ I64 r.N ∧ HL F0 [] w0 w [] [It.O 3 r.Rows (.slice A0 n0 c0)] := by
  have H := ((HL.start F0 w0).argR ha0).argR ha1
  obtain ⟨A1, n1, c1, A2, n2, c2, rfl, H⟩ := op_Grammar H (i := 0) rfl
  obtain ⟨A3, n3, c3, A4, n4, c4, A5, n5, c5, rfl, hS1, hS2, H⟩ := op_Rule H (i := 1) rfl
  refine enter Tryz.func12 rfl rfl rfl ?_
  refine CW.seq (CW.reg ?_)
  refine WL.boxH rfl rfl rfl rfl rfl H fun b1 w1 H => ?_
  refine WL.boxH rfl rfl rfl rfl rfl H fun b2 w2 H => ?_
  refine WL.allocH rfl rfl rfl ze35 H fun b3 w3 H => ?_
  refine WL.nil ?_
  refine CW.seq (CW.reg ?_)
  refine WL.ev rfl rfl (Ev.lda rfl ag40 sz40 rfl (At.blk (H.rB (i := 0) rfl)) rfl) (WL.ev rfl rfl (Ev.lda rfl ag45 sz45 rfl (At.blk (H.rB (i := 1) rfl)) rfl) ?_)
  obtain ⟨y1, hy1, hr⟩ := bd hr
  refine WL.call rfl rfl rfl rfl rfl ok38 rfl (iOccurrencesOf_ok hy1 ⟨_, _, rfl, (H.rS (i := 2) rfl), (H.rS (i := 3) rfl)⟩ ⟨_, _, _, rfl, hS1, hS2, (H.rS (i := 4) rfl), (H.rS (i := 5) rfl), (H.rS (i := 6) rfl)⟩) ?_
  rintro _ w4 hE ⟨A6, n6, c6, rfl, H'⟩
  have H := H.callA H' ⟨fun _ _ _ _ _ h => h, trivial⟩
  refine WL.ev rfl rfl (Ev.as rfl rfl) (WL.nil ?_)
  refine CW.seq (CW.reg ?_)
  refine WL.ev rfl rfl (Ev.mv rfl rfl) ?_
  have hl1 := (H.rO (i := 3) rfl).I
  refine WL.ev rfl rfl (Ev.lenV rfl el76 rfl (H.rO (i := 3) rfl)) ?_
  obtain ⟨y2, hy2, hr⟩ := bd hr
  refine WL.call rfl rfl rfl rfl rfl ok61 rfl (iEmptyRelation_ok hy2 (F0 := fun _ => False) hl1) ?_
  rintro _ w5 hE ⟨A7, n7, c7, rfl, hI1, H'⟩
  have H := H.callA H' ⟨fun _ _ _ _ _ h => h, trivial⟩
  refine WL.allocH rfl rfl rfl ze35 H fun b4 w6 H => ?_
  refine WL.stB (i := 5) rfl rfl rfl sz35 rfl rfl rfl rfl (all1 rfl (all1 rfl all0)) H rfl rfl rfl fun w7 H => ?_
  refine WL.nil ?_
  refine CW.seq (CW.seq (CW.reg ?_))
  refine WL.ev rfl rfl (Ev.mv rfl rfl) (WL.ev rfl rfl (Ev.lenV rfl el76 rfl (H.rO (i := 3) rfl)) (WL.ev rfl rfl (Ev.bin rfl rfl rfl Bin.gtr) (WL.nil ?_)))
  refine CW.condD rfl (fun h1 => ?_) (fun h1 => ?_)
  · skip
    have hr := ifp h1 hr
    refine CW.seq (CW.reg ?_)
    refine WL.ev rfl rfl (Ev.build rfl pl35 ze35 rfl rfl rfl rfl) ?_
    refine WL.stB (i := 2) rfl rfl rfl sz35 rfl rfl rfl rfl (all1 rfl (all1 rfl all0)) H rfl rfl rfl fun w8 H => ?_
    refine WL.nil ?_
    refine CW.ret ?_
    have H := H.nil (α := Int) 3
    obtain rfl := sm hr
    exact ⟨_, resC rfl ag35 sz35 rfl rfl (At.blk (H.rB (i := 2) rfl)) rfl, H.ext0, _, _, _, rfl, (by decide : I64 0), H.outM (fr' := []) [false, false, false, false, false, false, true] fun _ _ => trivial⟩
  · skip
    have hr := ifn h1 hr
    refine CW.skip ?_
    refine CW.seq (CW.seq (CW.reg ?_))
    refine WL.ev rfl rfl (Ev.mv rfl rfl) (WL.ev rfl rfl (Ev.lenV rfl el76 rfl (H.rO (i := 3) rfl)) (WL.ev rfl rfl (Ev.mv rfl rfl) (WL.nil ?_)))
    obtain ⟨q1, hq1, hr⟩ := bd hr
    refine CW.block (CW.loop (α := Nat × (List Int) × Int × Value) (fun ⟨k1, s1, s2, v1⟩ => [(3, .pointer (some ⟨b2, 0, none⟩)), (4, .pointer (some ⟨b3, 0, none⟩)), (5, .slice A6 n6 c6), (6, .pointer (some ⟨b4, 0, none⟩)), (23, .slice A6 n6 c6), (24, .int .i64 (y1.length : Int)), (25, .int .i64 (k1 : Int))]) (fun ⟨k1, s1, s2, v1⟩ w => k1 ≤ y1.length ∧ eachL (iLocalRelation_L1 a1 y1) k1 (y1.drop k1) (s1, s2) = some q1 ∧ I64 s2 ∧ HL F0 [] w0 w [Pr.R a0 [.slice A1 n1 c1, .slice A2 n2 c2], Pr.R a1 [.string a1.Name, .string a1.Left, .slice A3 n3 c3, .bool a1.Literal, .slice A4 n4 c4, .slice A5 n5 c5], Pr.S a0.Symbols (.slice A1 n1 c1), Pr.S a0.Rules (.slice A2 n2 c2), Pr.S a1.Right (.slice A3 n3 c3), Pr.S a1.Equations (.slice A4 n4 c4), Pr.S a1.Contributions (.slice A5 n5 c5)] [It.B b1 40 [.slice A1 n1 c1, .slice A2 n2 c2], It.B b2 45 [.string a1.Name, .string a1.Left, .slice A3 n3 c3, .bool a1.Literal, .slice A4 n4 c4, .slice A5 n5 c5], It.B b3 35 [.int .i64 0, .slice none 0 0], It.O 90 y1 (.slice A6 n6 c6), It.O 3 s1 v1, It.B b4 35 [.int .i64 s2, v1]]) (fun ⟨k1, s1, s2, v1⟩ => y1.length - k1) ⟨0, y2.Rows, y2.N, (.slice A7 n7 c7)⟩ ⟨rfl, rfl, rfl, rfl, rfl, rfl, rfl, trivial⟩ ⟨Nat.zero_le _, hq1, hI1, H.keep 7 6⟩ ?_)
    rintro ⟨k1, s1, s2, v1⟩ σ w9 ⟨hk1, hq1, hI2, H⟩
    obtain ⟨A8, n8, c8, rfl⟩ := (H.rO (i := 4) rfl).form3
    refine CW.seq (CW.reg ?_)
    refine WL.ev rfl rfl (Ev.bin rfl rfl rfl Bin.lss) (WL.nil ?_)
    refine CW.seq (CW.condD rfl (fun h2 => ?_) (fun h2 => ?_))
    · skip
      have hk2 := cast_lt h2
      obtain ⟨x1, z1, hx1, hb1, hq1⟩ := eachL_go hq1 hk2
      refine CW.skip ?_
      refine CW.seq (CW.block (CW.seq (CW.reg ?_)))
      refine WL.ev rfl rfl (Ev.mv rfl rfl) ?_
      obtain ⟨b5, cb5, hvb5, hbb5⟩ := H.ptO (i := 3) rfl hx1
      refine WL.ev rfl rfl (Ev.ixVN rfl el76 sz90 rfl hvb5 rfl (lt_of hx1)) ?_
      obtain ⟨hA1, hI3, hS3, H⟩ := elO_Occurrence H (i := 3) rfl hx1 hbb5
      refine WL.ev rfl rfl (Ev.lda rfl ag90 sz90 rfl hA1 rfl) ?_
      refine WL.allocH rfl rfl rfl ze90 H fun b6 w10 H => ?_
      refine WL.ev rfl rfl (Ev.as rfl rfl) ?_
      refine WL.stB (i := 6) rfl rfl rfl sz90 rfl rfl rfl rfl (all1 rfl (all1 rfl all0)) H rfl rfl rfl fun w11 H => ?_
      refine WL.nil ?_
      refine CW.seq (CW.reg ?_)
      refine WL.ev rfl rfl (Ev.lda rfl ag45 sz45 rfl (At.blk (H.rB (i := 1) rfl)) rfl) (WL.ev rfl rfl (Ev.lda rfl ag90 sz90 rfl (At.blk (H.rB (i := 6) rfl)) rfl) ?_)
      obtain ⟨⟨y3, y4⟩, hy3, hb1⟩ := bd hb1
      obtain ⟨F, hF, hcl⟩ := H.call
      refine WL.call rfl rfl rfl rfl rfl ok62 rfl (iFindEquation_ok hy3 ⟨_, _, _, rfl, hS1, hS2, (hF.get (i := 4) rfl), (hF.get (i := 5) rfl), (hF.get (i := 6) rfl)⟩ ⟨rfl, hI3, hS3⟩) ?_
      rintro _ w12 hE ⟨A9, n9, c9, rfl, hI4, hI5, hI6, hI7, hS4, hS5, H'⟩
      have H : HL F0 [] w0 w12 [Pr.R a0 [.slice A1 n1 c1, .slice A2 n2 c2], Pr.R a1 [.string a1.Name, .string a1.Left, .slice A3 n3 c3, .bool a1.Literal, .slice A4 n4 c4, .slice A5 n5 c5], Pr.S a0.Symbols (.slice A1 n1 c1), Pr.S a0.Rules (.slice A2 n2 c2), Pr.S a1.Right (.slice A3 n3 c3), Pr.S a1.Equations (.slice A4 n4 c4), Pr.S a1.Contributions (.slice A5 n5 c5), Pr.R x1 [.int .i64 x1.Pos, .string x1.Name], Pr.S y3.Args (.slice A9 n9 c9)] [It.B b1 40 [.slice A1 n1 c1, .slice A2 n2 c2], It.B b2 45 [.string a1.Name, .string a1.Left, .slice A3 n3 c3, .bool a1.Literal, .slice A4 n4 c4, .slice A5 n5 c5], It.B b3 35 [.int .i64 0, .slice none 0 0], It.O 90 y1 (.slice A6 n6 c6), It.O 3 s1 (.slice A8 n8 c8), It.B b4 35 [.int .i64 s2, .slice A8 n8 c8], It.B b6 90 [.int .i64 x1.Pos, .string x1.Name]] := hcl H'
      refine WL.ev rfl rfl (Ev.mv rfl rfl) (WL.ev rfl rfl (Ev.ex rfl rfl rfl) (WL.ev rfl rfl (Ev.ex rfl rfl rfl) ?_))
      refine WL.allocH rfl rfl rfl ze86 H fun b7 w13 H => ?_
      refine WL.stB (i := 7) rfl rfl rfl sz86 rfl rfl rfl rfl (all1 rfl (all1 rfl (all1 rfl (all1 rfl (all1 rfl (all1 rfl (all1 rfl all0))))))) H rfl rfl rfl fun w14 H => ?_
      refine WL.ev rfl rfl (Ev.as rfl rfl) (WL.nil ?_)
      refine CW.seq (CW.reg ?_)
      refine WL.ev rfl rfl (Ev.lda rfl ag86 sz86 rfl (At.blk (H.rB (i := 7) rfl)) rfl) ?_
      obtain ⟨y5, hy4, hb1⟩ := bd hb1
      refine WL.call rfl rfl rfl rfl rfl ok63 rfl (iAttributeUses_ok hy4 (Expr_rd.2 ⟨_, rfl, hI4, hI5, hI6, hI7, hS4, hS5, (H.rS (i := 8) rfl)⟩)) ?_
      rintro _ w15 hE ⟨A10, n10, c10, rfl, H'⟩
      have H := H.callA H' ⟨fun _ _ _ _ _ h => h, trivial⟩
      have hl2 := (H.rO (i := 8) rfl).I
      refine WL.ev rfl rfl (Ev.lenV rfl el76 rfl (H.rO (i := 8) rfl)) (WL.ev rfl rfl (Ev.mv rfl rfl) (WL.nil ?_))
      obtain ⟨q2, hq2, hb1⟩ := bd hb1
      refine CW.block (CW.loop (α := Nat × (List Int) × Int × Value) (fun ⟨k2, s3, s4, v2⟩ => [(3, .pointer (some ⟨b2, 0, none⟩)), (4, .pointer (some ⟨b3, 0, none⟩)), (5, .slice A6 n6 c6), (6, .pointer (some ⟨b4, 0, none⟩)), (7, .int .i64 (k1 : Int)), (23, .slice A6 n6 c6), (24, .int .i64 (y1.length : Int)), (25, .int .i64 (k1 : Int)), (37, .slice A10 n10 c10), (38, .int .i64 (y5.length : Int)), (39, .int .i64 (k2 : Int))]) (fun ⟨k2, s3, s4, v2⟩ w => k2 ≤ y5.length ∧ eachL (iLocalRelation_L2 y1 k1) k2 (y5.drop k2) (s3, s4) = some q2 ∧ I64 s4 ∧ HL F0 [] w0 w [Pr.R a0 [.slice A1 n1 c1, .slice A2 n2 c2], Pr.R a1 [.string a1.Name, .string a1.Left, .slice A3 n3 c3, .bool a1.Literal, .slice A4 n4 c4, .slice A5 n5 c5], Pr.S a0.Symbols (.slice A1 n1 c1), Pr.S a0.Rules (.slice A2 n2 c2), Pr.S a1.Right (.slice A3 n3 c3), Pr.S a1.Equations (.slice A4 n4 c4), Pr.S a1.Contributions (.slice A5 n5 c5), Pr.R x1 [.int .i64 x1.Pos, .string x1.Name], Pr.S y3.Args (.slice A9 n9 c9)] [It.B b1 40 [.slice A1 n1 c1, .slice A2 n2 c2], It.B b2 45 [.string a1.Name, .string a1.Left, .slice A3 n3 c3, .bool a1.Literal, .slice A4 n4 c4, .slice A5 n5 c5], It.B b3 35 [.int .i64 0, .slice none 0 0], It.O 90 y1 (.slice A6 n6 c6), It.O 3 s3 v2, It.B b4 35 [.int .i64 s4, v2], It.B b6 90 [.int .i64 x1.Pos, .string x1.Name], It.B b7 86 [.int .i64 y3.Kind, .int .i64 y3.N, .int .i64 y3.Pos, .int .i64 y3.Type_, .string y3.Symbol, .string y3.Name, .slice A9 n9 c9], It.O 90 y5 (.slice A10 n10 c10)]) (fun ⟨k2, s3, s4, v2⟩ => y5.length - k2) ⟨0, s1, s2, (.slice A8 n8 c8)⟩ ⟨rfl, rfl, rfl, rfl, rfl, rfl, rfl, rfl, rfl, rfl, rfl, trivial⟩ ⟨Nat.zero_le _, hq2, hI2, H.keep 9 9⟩ ?_)
      rintro ⟨k2, s3, s4, v2⟩ σ w16 ⟨hk3, hq2, hI8, H⟩
      obtain ⟨A11, n11, c11, rfl⟩ := (H.rO (i := 4) rfl).form3
      refine CW.seq (CW.reg ?_)
      refine WL.ev rfl rfl (Ev.bin rfl rfl rfl Bin.lss) (WL.nil ?_)
      refine CW.seq (CW.condD rfl (fun h3 => ?_) (fun h3 => ?_))
      · skip
        have hk4 := cast_lt h3
        obtain ⟨x2, z2, hx2, hb2, hq2⟩ := eachL_go hq2 hk4
        refine CW.skip ?_
        refine CW.seq (CW.block (CW.seq (CW.reg ?_)))
        obtain ⟨b8, cb8, hvb8, hbb8⟩ := H.ptO (i := 8) rfl hx2
        refine WL.ev rfl rfl (Ev.ixVN rfl el76 sz90 rfl hvb8 rfl (lt_of hx2)) ?_
        obtain ⟨hA2, hI9, hS6, H⟩ := elO_Occurrence H (i := 8) rfl hx2 hbb8
        refine WL.ev rfl rfl (Ev.lda rfl ag90 sz90 rfl hA2 rfl) ?_
        refine WL.allocH rfl rfl rfl ze90 H fun b9 w17 H => ?_
        refine WL.stB (i := 9) rfl rfl rfl sz90 rfl rfl rfl rfl (all1 rfl (all1 rfl all0)) H rfl rfl rfl fun w18 H => ?_
        refine WL.nil ?_
        refine CW.quietT 5 hmix (by kernel_rfl) ?_
        refine QL.ev rfl rfl (fun _ hq => Ev.lda rfl ag35 sz35 rfl (At.blk ((H.ext hq).rB (i := 5) rfl)) rfl) (QL.ev rfl rfl (fun _ _ => Ev.mv rfl rfl) (QL.ev rfl rfl (fun _ hq => Ev.lda rfl ag90 sz90 rfl (At.blk ((H.ext hq).rB (i := 9) rfl)) rfl) ?_))
        obtain ⟨y6, hy5, hb2⟩ := bd hb2
        refine QL.call rfl rfl rfl rfl rfl ok65 rfl (fun _ hq => (iOccurrenceIndex_ok hy5 ((H.ext hq).rO (i := 3) rfl) ⟨rfl, hI9, hS6⟩).mono fun _ _ _ h => h.1) ?_
        obtain ⟨_, _, _, hI10⟩ := (iOccurrenceIndex_ok hy5 (H.rO (i := 3) rfl) ⟨rfl, hI9, hS6⟩).get
        refine QL.ev rfl rfl (fun _ _ => Ev.mv rfl rfl) (QL.nil (fun w19 hE => ?_))
        have H := H.ext hE
        obtain ⟨y7, hy6, hb2⟩ := bd hb2
        refine WL.call rfl rfl rfl rfl rfl ok64 rfl (iAddPair_ok hy6 ⟨_, rfl, hI8, (H.rO (i := 4) rfl)⟩ hI10 (i64_nat hk2 hl1)) ?_
        rintro _ w20 hE ⟨A12, n12, c12, rfl, hI11, H'⟩
        have H := H.callA H' ⟨fun _ _ _ _ _ h => h, trivial⟩
        refine WL.stB (i := 5) rfl rfl rfl sz35 rfl rfl rfl rfl (all1 rfl (all1 rfl all0)) H rfl rfl rfl fun w21 H => ?_
        refine WL.nil ?_
        refine CW.reg ?_
        refine WL.ev rfl rfl (Ev.bin rfl rfl rfl (Bin.addN (a := k2) (b := 1) rfl (i64_succN hk4 hl2.2))) (WL.ev rfl rfl (Ev.mv rfl rfl) (WL.nil ?_))
        have H := H.swap 4 10
        obtain rfl := sm hb2
        exact ⟨⟨k2 + 1, y7.Rows, y7.N, (.slice A12 n12 c12)⟩, ⟨rfl, rfl, rfl, rfl, rfl, rfl, rfl, rfl, rfl, rfl, rfl, trivial⟩, ⟨hk4, hq2, hI11, H.keep 9 9⟩, Nat.sub_lt_sub_left hk4 (Nat.lt_succ_self _)⟩
      · skip
        obtain rfl := eachL_end hq2 (not_cast_lt h3)
        refine CW.exit ?_
        refine CW.reg ?_
        refine WL.ev rfl rfl (Ev.bin rfl rfl rfl (Bin.addN (a := k1) (b := 1) rfl (i64_succN hk2 hl1.2))) (WL.ev rfl rfl (Ev.mv rfl rfl) (WL.nil ?_))
        obtain rfl := sm hb1
        exact ⟨⟨k1 + 1, s3, s4, (.slice A11 n11 c11)⟩, ⟨rfl, rfl, rfl, rfl, rfl, rfl, rfl, trivial⟩, ⟨hk2, hq1, hI8, H.keep 7 6⟩, Nat.sub_lt_sub_left hk2 (Nat.lt_succ_self _)⟩
    · skip
      obtain rfl := eachL_end hq1 (not_cast_lt h2)
      refine CW.exit ?_
      refine CW.seq (CW.reg ?_)
      refine WL.ev rfl rfl (Ev.lda rfl ag35 sz35 rfl (At.blk (H.rB (i := 5) rfl)) rfl) ?_
      refine WL.stB (i := 2) rfl rfl rfl sz35 rfl rfl rfl rfl (all1 rfl (all1 rfl all0)) H rfl rfl rfl fun w22 H => ?_
      refine WL.nil ?_
      refine CW.ret ?_
      obtain rfl := sm hr
      exact ⟨_, resC rfl ag35 sz35 rfl rfl (At.blk (H.rB (i := 2) rfl)) rfl, H.ext0, _, _, _, rfl, hI2, H.outM (fr' := []) [false, false, false, false, true, false] fun _ _ => trivial⟩

end Go.Proofs.YtonnooljidombaaGreat

