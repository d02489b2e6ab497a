/- What some functions of the program compute, as partial functions on plain data, and that they do; each lemma bears its conditions in its statement. -/
import Derived.Test.YtfnnadlahlkkoaaRows
import Derived.Test.YtfnnadlahlkkoaaRd
set_option linter.unusedVariables false
set_option linter.unusedSimpArgs false
set_option linter.ambiguousOpen false
set_option linter.unusedSectionVars false
set_option linter.unnecessarySimpa false
set_option linter.unusedVariables false
set_option linter.unusedSimpArgs false
set_option maxRecDepth 100000
set_option maxHeartbeats 1000000
namespace Go.Proofs.Ytfnnadlahlkkoaa
open Go Go.E
open Go.E.Rep (rd)
open Go.E.Sep (own)
open Go.E.Sz (szd)
theorem ag3 : aggT Try.prog 3 = some false := by kernel_rfl
theorem ag4 : aggT Try.prog 4 = some false := by kernel_rfl
theorem ag9 : aggT Try.prog 9 = some false := by kernel_rfl
theorem ag43 : aggT Try.prog 43 = some false := by kernel_rfl
theorem ag45 : aggT Try.prog 45 = some false := by kernel_rfl
theorem ag48 : aggT Try.prog 48 = some true := by kernel_rfl
theorem ag55 : aggT Try.prog 55 = some false := by kernel_rfl
theorem ag65 : aggT Try.prog 65 = some true := by kernel_rfl
theorem ag71 : aggT Try.prog 71 = some false := by kernel_rfl
theorem ag79 : aggT Try.prog 79 = some true := by kernel_rfl
theorem ag90 : aggT Try.prog 90 = some true := by kernel_rfl
theorem ag101 : aggT Try.prog 101 = some true := by kernel_rfl
theorem ag105 : aggT Try.prog 105 = some true := by kernel_rfl
theorem sz3 : szT Try.prog 3 = some 1 := by kernel_rfl
theorem sz9 : szT Try.prog 9 = some 1 := by kernel_rfl
theorem sz48 : szT Try.prog 48 = some 2 := by kernel_rfl
theorem sz65 : szT Try.prog 65 = some 6 := by kernel_rfl
theorem sz79 : szT Try.prog 79 = some 2 := by kernel_rfl
theorem sz90 : szT Try.prog 90 = some 2 := by kernel_rfl
theorem sz101 : szT Try.prog 101 = some 2 := by kernel_rfl
theorem sz105 : szT Try.prog 105 = some 4 := by kernel_rfl
theorem by3 : byT Try.prog 3 = some 8 := by kernel_rfl
theorem by90 : byT Try.prog 90 = some 24 := by kernel_rfl
theorem by105 : byT Try.prog 105 = some 40 := by kernel_rfl
theorem ze3 : zeroT Try.prog 3 = some [.int .i64 0] := by kernel_rfl
theorem ze79 : zeroT Try.prog 79 = some [.int .i64 0, .slice none 0 0] := by kernel_rfl
theorem ze90 : zeroT Try.prog 90 = some [.int .i64 0, .string ⟨#[]⟩] := by kernel_rfl
theorem ze101 : zeroT Try.prog 101 = some [.string ⟨#[]⟩, .slice none 0 0] := by kernel_rfl
theorem ze105 : zeroT Try.prog 105 = some [.string ⟨#[]⟩, .int .i64 0, .int .i64 0, .bool false] := by kernel_rfl
theorem el33 : elemT Try.prog 33 = some 90 := by kernel_rfl
theorem el43 : elemT Try.prog 43 = some 105 := by kernel_rfl
theorem el45 : elemT Try.prog 45 = some 101 := by kernel_rfl
theorem el55 : elemT Try.prog 55 = some 9 := by kernel_rfl
theorem el71 : elemT Try.prog 71 = some 3 := by kernel_rfl
theorem it166 : intT Try.prog 166 = some .u64 := by kernel_rfl
theorem pl79 : placesT Try.prog 79 = some [(0, 1), (1, 1)] := by kernel_rfl
theorem pl90 : placesT Try.prog 90 = some [(0, 1), (1, 1)] := by kernel_rfl
theorem pl101 : placesT Try.prog 101 = some [(0, 1), (1, 1)] := by kernel_rfl
theorem pl105 : placesT Try.prog 105 = some [(0, 1), (1, 1), (2, 1), (3, 1)] := by kernel_rfl
theorem fo48_0 : fieldT Try.prog 48 0 = some 0 := by kernel_rfl
theorem fo65_1 : fieldT Try.prog 65 1 = some 1 := by kernel_rfl
theorem fo65_2 : fieldT Try.prog 65 2 = some 2 := by kernel_rfl
theorem fo79_0 : fieldT Try.prog 79 0 = some 0 := by kernel_rfl
theorem fo79_1 : fieldT Try.prog 79 1 = some 1 := by kernel_rfl
theorem fo90_0 : fieldT Try.prog 90 0 = some 0 := by kernel_rfl
theorem fo90_1 : fieldT Try.prog 90 1 = some 1 := by kernel_rfl
theorem fo101_0 : fieldT Try.prog 101 0 = some 0 := by kernel_rfl
theorem fo101_1 : fieldT Try.prog 101 1 = some 1 := by kernel_rfl
theorem fo105_0 : fieldT Try.prog 105 0 = some 0 := by kernel_rfl
theorem fo105_2 : fieldT Try.prog 105 2 = some 2 := by kernel_rfl
theorem fo105_3 : fieldT Try.prog 105 3 = some 3 := by kernel_rfl
theorem ok21 : callable Try.prog 21 = true := by kernel_rfl
theorem ok23 : callable Try.prog 23 = true := by kernel_rfl
theorem ok30 : callable Try.prog 30 = true := by kernel_rfl
theorem ok32 : callable Try.prog 32 = true := by kernel_rfl
theorem ok38 : callable Try.prog 38 = true := by kernel_rfl
theorem ok64 : callable Try.prog 64 = true := by kernel_rfl
theorem ok67 : callable Try.prog 67 = true := by kernel_rfl
theorem ok77 : callable Try.prog 77 = true := by kernel_rfl
theorem ok81 : callable Try.prog 81 = true := by kernel_rfl
theorem ok88 : callable Try.prog 88 = true := by kernel_rfl
theorem ok89 : callable Try.prog 89 = true := by kernel_rfl
theorem ok90 : callable Try.prog 90 = true := by kernel_rfl
theorem ok91 : callable Try.prog 91 = true := by kernel_rfl
theorem ok93 : callable Try.prog 93 = true := by kernel_rfl
theorem ok94 : callable Try.prog 94 = true := by kernel_rfl
theorem ok95 : callable Try.prog 95 = true := by kernel_rfl
theorem ok97 : callable Try.prog 97 = true := by kernel_rfl
theorem ok98 : callable Try.prog 98 = true := by kernel_rfl
theorem ok99 : callable Try.prog 99 = true := by kernel_rfl
theorem ok100 : callable Try.prog 100 = true := by kernel_rfl
theorem ok108 : callable Try.prog 108 = true := by kernel_rfl
theorem ok113 : callable Try.prog 113 = true := by kernel_rfl
theorem ok116 : callable Try.prog 116 = true := by kernel_rfl
theorem ok120 : callable Try.prog 120 = true := by kernel_rfl
theorem ok121 : callable Try.prog 121 = true := by kernel_rfl
theorem ok122 : callable Try.prog 122 = true := by kernel_rfl
theorem ok123 : callable Try.prog 123 = true := by kernel_rfl
theorem ok124 : callable Try.prog 124 = true := by kernel_rfl
theorem ok134 : callable Try.prog 134 = true := by kernel_rfl
theorem ok135 : callable Try.prog 135 = true := by kernel_rfl
theorem ok136 : callable Try.prog 136 = true := by kernel_rfl
theorem ok152 : callable Try.prog 152 = true := by kernel_rfl
theorem hmix : Try.prog.follows .mixedOrders = true := by kernel_rfl
noncomputable def sl10Symbol_m (a0 : Symbol) : Option Symbol :=
  grd (((([] : List Attribute).length : Int) + (a0.Attributes.length : Int)) * 40 ≤ 140737488355328 ∧ (([] : List Attribute).length : Int) + (a0.Attributes.length : Int) ≤ 9223372036854775807) <|
  some a0
theorem sl10Symbol_ok {a0 : Symbol} {r : Symbol} (hr : sl10Symbol_m a0 = some r) {F0 : Nat → Prop} {w0 : World} {ca0 : List Value} (ha0 : rd F0 w0 a0 ca0) :
    Ret Try.prog 108 #[.agg ca0.toArray] w0 (fun _ => False) fun v w => ∃ A0 : Option Addr, ∃ n0 c0 : Nat, v = .agg #[.string r.Name, (.slice A0 n0 c0)] ∧ r.Name.size ≤ 9223372036854775807 ∧ HL F0 [] w0 w [] [It.O 105 r.Attributes (.slice A0 n0 c0)] := by
  have H := (HL.start F0 w0).argR ha0
  obtain ⟨A1, n1, c1, rfl, hS1, H⟩ := op_Symbol H (i := 0) rfl
  refine enter Try.func108 rfl rfl rfl ?_
  refine CW.seq (CW.reg ?_)
  refine WL.boxH rfl rfl rfl rfl rfl H fun b1 w1 H => ?_
  refine WL.allocH rfl rfl rfl ze101 H fun b2 w2 H => ?_
  refine WL.nil ?_
  obtain ⟨hg1, hr⟩ := grd_some hr
  refine CW.seq (CW.any2 6 (fun ρ => [.fix (.pointer (some ⟨b1, 0 + 0, none⟩)), .fix (.string a0.Name), .free (fun _ v _ => ∃ g : Nat, v = .slice (some ⟨g, 0, none⟩) 0 0), .fix (.pointer (some ⟨b1, 0 + 1, none⟩)), .fix (.slice A1 n1 c1), .free (fun S v w => ∃ A : Option Addr, ∃ m c : Nat, v = .slice A m c ∧ NewI S w [It.O 105 a0.Attributes (.slice A m c)])]) [[], [], [], [], [], []] NoM (fun _ _ => True) [] [] (noM _) hmix (by kernel_rfl) rfl ⟨trivial, trivial, fun _ _ _ _ _ h _ _ _ => h, trivial, trivial, fun _ _ _ _ _ ⟨A, m, c, h1, h2⟩ hc hS _ => ⟨A, m, c, h1, h2.chgT hc hS⟩, trivial⟩ trivial (fun _ _ _ _ _ _ _ => trivial) ?_)
  refine LL2.fx rfl rfl rfl rfl rfl (fun _ hq hK => Ev.fa rfl fo101_0 rfl) ?_
  refine LL2.fx rfl rfl rfl rfl rfl (fun _ hq hK => Ev.ld rfl ag9 rfl (((H.ext hq).rB (i := 0) rfl).cell rfl)) ?_
  refine LL2.free rfl rfl rfl rfl (fun wq hq hK => OpX.lit0N rfl rfl el43 sz105 fun g w hE => ⟨hE, g, rfl⟩) (fun v_G1_2 S_G1_2 => ?_)
  refine LL2.fx rfl rfl rfl rfl rfl (fun _ hq hK => Ev.fa rfl fo101_1 rfl) ?_
  refine LL2.fx rfl rfl rfl rfl rfl (fun _ hq hK => Ev.ld rfl ag43 rfl (((H.ext hq).rB (i := 0) rfl).cell rfl)) ?_
  refine LL2.free rfl rfl rfl rfl (fun wq hq hK => ?_) (fun v_G1_5 S_G1_5 => ?_)
  · obtain ⟨g, e⟩ : ∃ g : Nat, v_G1_2 = .slice (some ⟨g, 0, none⟩) 0 0 := hK 2 rfl
    subst e
    exact OpX.appN rfl rfl el43 sz105 by105 ze105 rfl rfl rfl ((H.ext hq).rS (i := 1) rfl) hg1 fun A m c w hE h => ⟨hE, A, m, c, rfl, h⟩
  intro w3 hE _ hK hap hbd
  have hE := chgNew hE
  obtain ⟨g1, rfl⟩ := hK 2 (by decide)
  obtain ⟨A2, n2, c2, rfl, hN1⟩ := hK 5 (by decide)
  have H := H.add hE hN1 ⟨fun _ _ _ _ _ h => h, trivial⟩ (fun q hq => (hbd 5 q hq).1)
  have H := H.lit0 (α := Attribute) 105 (some ⟨g1, 0, none⟩)
  refine WL.ev rfl rfl (Ev.build rfl pl101 ze101 rfl rfl rfl rfl) ?_
  refine WL.stB (i := 1) rfl rfl rfl sz101 rfl rfl rfl rfl (all1 rfl (all1 rfl all0)) H rfl rfl rfl fun w4 H => ?_
  refine WL.nil ?_
  refine CW.ret ?_
  obtain rfl := sm hr
  exact ⟨_, resC rfl ag101 sz101 rfl rfl (At.blk (H.rB (i := 1) rfl)) rfl, H.ext0, _, _, _, rfl, hS1, H.outM (fr' := []) [false, false, true, false] fun _ _ => trivial⟩

noncomputable def sFindSymbol_L1 (a1 : ByteArray) : Nat → Symbol → Unit → Option (Unit ⊕ (Symbol × Bool)) := fun k1 x1 _ => 
  if x1.Name = a1 then (
  (sl10Symbol_m x1).bind fun y1 =>
  some (.inr (y1, true))
  ) else (
  some (.inl ())
  )
noncomputable def sFindSymbol_m (a0 : Grammar) (a1 : ByteArray) : Option (Symbol × Bool) :=
  (findL (sFindSymbol_L1 a1) 0 a0.Symbols ()).bind <| onr (fun r1 => some r1) fun _ =>
  some ((⟨(⟨#[]⟩ : ByteArray), []⟩ : Symbol), false)
theorem sFindSymbol_ok {a0 : Grammar} {a1 : ByteArray} {r : (Symbol × Bool)} (hr : sFindSymbol_m a0 a1 = some r) {F0 : Nat → Prop} {w0 : World} {ca0 : List Value} (ha0 : rd F0 w0 a0 ca0) (ha1 : a1.size ≤ 9223372036854775807) :
    Ret Try.prog 64 #[.agg ca0.toArray, .string a1] w0 (fun _ => False) fun v w => ∃ A0 : Option Addr, ∃ n0 c0 : Nat, v = .tuple #[.agg #[.string r.1.Name, (.slice A0 n0 c0)], .bool r.2] ∧ r.1.Name.size ≤ 9223372036854775807 ∧ HL F0 [] w0 w [] [It.O 105 r.1.Attributes (.slice A0 n0 c0)] := by
  have H := (HL.start F0 w0).argR ha0
  obtain ⟨A1, n1, c1, A2, n2, c2, rfl, H⟩ := op_Grammar H (i := 0) rfl
  refine enter Try.func64 rfl rfl rfl ?_
  refine CW.seq (CW.reg ?_)
  refine WL.boxH rfl rfl rfl rfl rfl H fun b1 w1 H => ?_
  refine WL.allocH rfl rfl rfl ze101 H fun b2 w2 H => ?_
  refine WL.ev rfl rfl (Ev.as rfl rfl) (WL.nil ?_)
  refine CW.seq (CW.seq (CW.reg ?_))
  refine WL.ev rfl rfl (Ev.as rfl rfl) (WL.nil ?_)
  obtain ⟨q1, hq1, hr⟩ := bd hr
  refine CW.block (CW.loop (α := Nat) (fun k1 => [(1, .string a1), (2, .pointer (some ⟨b1, 0, none⟩)), (4, .pointer (some ⟨b2, 0, none⟩)), (6, .int .i64 (k1 : Int))]) (fun k1 w => k1 ≤ a0.Symbols.length ∧ findL (sFindSymbol_L1 a1) k1 (a0.Symbols.drop k1) () = some q1 ∧ HL F0 [] w0 w [Pr.R a0 [.slice A1 n1 c1, .slice A2 n2 c2], Pr.S a0.Symbols (.slice A1 n1 c1), Pr.S a0.Rules (.slice A2 n2 c2)] [It.B b1 48 [.slice A1 n1 c1, .slice A2 n2 c2], It.B b2 101 [.string (⟨#[]⟩ : ByteArray), .slice none 0 0]]) (fun k1 => a0.Symbols.length - k1) 0 ⟨rfl, rfl, rfl, rfl, trivial⟩ ⟨Nat.zero_le _, hq1, H.keep 3 2⟩ ?_)
  rintro k1 σ w3 ⟨hk1, hq1, H⟩
  refine CW.seq (CW.seq (CW.reg ?_))
  refine WL.ev rfl rfl (Ev.mv rfl rfl) (WL.ev rfl rfl (Ev.fa rfl fo48_0 rfl) (WL.ev rfl rfl (Ev.ld rfl ag45 rfl ((H.rB (i := 0) rfl).cell rfl)) ?_))
  have hl1 := (H.rS (i := 1) rfl).I
  refine WL.ev rfl rfl (Ev.lenV rfl el45 rfl (H.rS (i := 1) rfl)) (WL.ev rfl rfl (Ev.bin rfl rfl rfl Bin.lss) (WL.nil ?_))
  refine CW.condD rfl (fun h1 => ?_) (fun h1 => ?_)
  · skip
    have hk2 := cast_lt h1
    obtain ⟨x1, z1, hx1, hb1, hs1, ht1⟩ := findL_go hq1 hk2
    refine CW.skip ?_
    refine CW.seq (CW.block (CW.seq (CW.reg ?_)))
    refine WL.ev rfl rfl (Ev.fa rfl fo48_0 rfl) (WL.ev rfl rfl (Ev.ld rfl ag45 rfl ((H.rB (i := 0) rfl).cell rfl)) (WL.ev rfl rfl (Ev.mv rfl rfl) ?_))
    obtain ⟨b3, ob3, cb3, A3, n3, c3, hvb3, hS1, H⟩ := ixS_Symbol H (i := 1) rfl hx1
    refine WL.ev rfl rfl (Ev.ixVN rfl el45 sz101 rfl hvb3 rfl (lt_of hx1)) (WL.ev rfl rfl (Ev.fa rfl fo101_0 rfl) (WL.ev rfl rfl (Ev.ld rfl ag9 rfl ((H.rA (i := 3) rfl).cell rfl)) (WL.ev rfl rfl (Ev.mv rfl rfl) (WL.ev rfl rfl (Ev.bin rfl rfl rfl Bin.eqlS) (WL.nil ?_)))))
    refine CW.condD rfl (fun h2 => ?_) (fun h2 => ?_)
    · skip
      have hb1 := ifp h2 hb1
      refine CW.seq (CW.reg ?_)
      refine WL.ev rfl rfl (Ev.fa rfl fo48_0 rfl) (WL.ev rfl rfl (Ev.ld rfl ag45 rfl ((H.rB (i := 0) rfl).cell rfl)) (WL.ev rfl rfl (Ev.mv rfl rfl) (WL.ev rfl rfl (Ev.ixVN rfl el45 sz101 rfl hvb3 rfl (lt_of hx1)) (WL.ev rfl rfl (Ev.lda rfl ag101 sz101 rfl (H.rA (i := 3) rfl) rfl) ?_))))
      obtain ⟨y1, hy1, hb1⟩ := bd hb1
      refine WL.call rfl rfl rfl rfl rfl ok108 rfl (sl10Symbol_ok hy1 ⟨_, rfl, hS1, (H.rS (i := 5) rfl)⟩) ?_
      rintro _ w4 hE ⟨A4, n4, c4, rfl, hS2, H'⟩
      have H := H.callA H' ⟨fun _ _ _ _ _ h => h, trivial⟩
      refine WL.stB (i := 1) rfl rfl rfl sz101 rfl rfl rfl rfl (all1 rfl (all1 rfl all0)) H rfl rfl rfl fun w5 H => ?_
      refine WL.ev rfl rfl (Ev.as rfl rfl) (WL.nil ?_)
      refine CW.ret ?_
      obtain rfl := sm hb1
      obtain rfl := ht1 _ rfl
      obtain rfl := sm hr
      exact ⟨_, resC1 rfl ag101 sz101 rfl rfl rfl rfl (At.blk (H.rB (i := 1) rfl)) rfl, H.ext0, _, _, _, rfl, hS2, H.outM (fr' := []) [false, false, true] fun _ _ => trivial⟩
    · skip
      have hb1 := ifn h2 hb1
      refine CW.skip ?_
      refine CW.reg ?_
      refine WL.ev rfl rfl (Ev.mv rfl rfl) (WL.ev rfl rfl (Ev.bin rfl rfl rfl (Bin.addN (a := k1) (b := 1) rfl (i64_succN hk2 hl1.2))) (WL.ev rfl rfl (Ev.as rfl rfl) (WL.nil ?_)))
      obtain rfl := sm hb1
      have hq1 := hs1 _ rfl
      exact ⟨(k1 + 1), ⟨rfl, rfl, rfl, rfl, trivial⟩, ⟨hk2, hq1, H.keep 3 2⟩, Nat.sub_lt_sub_left hk2 (Nat.lt_succ_self _)⟩
  · skip
    obtain rfl := findL_end hq1 (not_cast_lt h1)
    refine CW.exit ?_
    refine CW.seq (CW.reg ?_)
    refine WL.ev rfl rfl (Ev.build rfl pl101 ze101 rfl rfl rfl rfl) ?_
    refine WL.stB (i := 1) rfl rfl rfl sz101 rfl rfl rfl rfl (all1 rfl (all1 rfl all0)) H rfl rfl rfl fun w6 H => ?_
    refine WL.ev rfl rfl (Ev.as rfl rfl) (WL.nil ?_)
    refine CW.ret ?_
    have H := H.nil (α := Attribute) 105
    obtain rfl := sm hr
    exact ⟨_, resC1 rfl ag101 sz101 rfl rfl rfl rfl (At.blk (H.rB (i := 1) rfl)) rfl, H.ext0, _, _, _, rfl, (by decide), H.outM (fr' := []) [false, false, true] fun _ _ => trivial⟩

noncomputable def sPlainAttributes_L1 : Nat → Attribute → (List Attribute) → Option (List Attribute) := fun k1 x1 s1 => 
  (
  if x1.Mode = 1 then (
  grd (((s1.length : Int) + 1) * 40 ≤ 140737488355328 ∧ (s1.length : Int) + 1 ≤ 9223372036854775807) <|
  some (s1 ++ [x1])
  ) else (
  if x1.Mode = 2 then (
  grd (((s1.length : Int) + 1) * 40 ≤ 140737488355328 ∧ (s1.length : Int) + 1 ≤ 9223372036854775807) <|
  some (s1 ++ [x1])
  ) else (
  some s1
  )
  )
  ).bind fun s2 =>
  some s2
noncomputable def sPlainAttributes_m (a0 : Grammar) (a1 : ByteArray) : Option (List Attribute) :=
  (sFindSymbol_m a0 a1).bind fun (y1, y2) =>
  (eachL sPlainAttributes_L1 0 y1.Attributes ([] : List Attribute)).bind fun s1 =>
  some s1
theorem sPlainAttributes_ok {a0 : Grammar} {a1 : ByteArray} {r : (List Attribute)} (hr : sPlainAttributes_m a0 a1 = some r) {F0 : Nat → Prop} {w0 : World} {ca0 : List Value} (ha0 : rd F0 w0 a0 ca0) (ha1 : a1.size ≤ 9223372036854775807) :
    Ret Try.prog 21 #[.agg ca0.toArray, .string a1] w0 (fun _ => False) fun v w => ∃ A0 : Option Addr, ∃ n0 c0 : Nat, v = (.slice A0 n0 c0) ∧ HL F0 [] w0 w [] [It.O 105 r (.slice A0 n0 c0)] := by
  have H := (HL.start F0 w0).argR ha0
  obtain ⟨A1, n1, c1, A2, n2, c2, rfl, H⟩ := op_Grammar H (i := 0) rfl
  refine enter Try.func21 rfl rfl rfl ?_
  refine CW.seq (CW.reg ?_)
  refine WL.boxH rfl rfl rfl rfl rfl H fun b1 w1 H => ?_
  refine WL.ev rfl rfl (Ev.as rfl rfl) (WL.nil ?_)
  refine CW.seq (CW.reg ?_)
  refine WL.lit0H (α := Attribute) rfl rfl rfl el43 sz105 H fun A3 n3 c3 w2 H => ?_
  refine WL.ev rfl rfl (Ev.as rfl rfl) (WL.nil ?_)
  refine CW.seq (CW.reg ?_)
  refine WL.ev rfl rfl (Ev.lda rfl ag48 sz48 rfl (At.blk (H.rB (i := 0) rfl)) rfl) (WL.ev rfl rfl (Ev.mv rfl rfl) ?_)
  obtain ⟨⟨y1, y2⟩, hy1, hr⟩ := bd hr
  refine WL.call rfl rfl rfl rfl rfl ok64 rfl (sFindSymbol_ok hy1 ⟨_, _, rfl, (H.rS (i := 1) rfl), (H.rS (i := 2) rfl)⟩ ha1) ?_
  rintro _ w3 hE ⟨A4, n4, c4, rfl, hS1, H'⟩
  have H := H.callA H' ⟨fun _ _ _ _ _ h => h, trivial⟩
  refine WL.ev rfl rfl (Ev.mv rfl rfl) (WL.ev rfl rfl (Ev.ex rfl rfl rfl) (WL.ev rfl rfl (Ev.ex rfl rfl rfl) ?_))
  refine WL.allocH rfl rfl rfl ze101 H fun b2 w4 H => ?_
  refine WL.stB (i := 3) rfl rfl rfl sz101 rfl rfl rfl rfl (all1 rfl (all1 rfl all0)) H rfl rfl rfl fun w5 H => ?_
  refine WL.ev rfl rfl (Ev.as rfl rfl) (WL.nil ?_)
  refine CW.seq (CW.seq (CW.reg ?_))
  refine WL.ev rfl rfl (Ev.as rfl rfl) (WL.nil ?_)
  obtain ⟨q1, hq1, hr⟩ := bd hr
  refine CW.block (CW.loop (α := Nat × (List Attribute) × Value) (fun ⟨k1, s1, v1⟩ => [(5, v1), (6, .pointer (some ⟨b2, 0, none⟩)), (8, .int .i64 (k1 : Int))]) (fun ⟨k1, s1, v1⟩ w => k1 ≤ y1.Attributes.length ∧ eachL sPlainAttributes_L1 k1 (y1.Attributes.drop k1) s1 = some q1 ∧ HL F0 [] w0 w [Pr.R a0 [.slice A1 n1 c1, .slice A2 n2 c2], Pr.S a0.Symbols (.slice A1 n1 c1), Pr.S a0.Rules (.slice A2 n2 c2)] [It.B b1 48 [.slice A1 n1 c1, .slice A2 n2 c2], It.O 105 s1 v1, It.O 105 y1.Attributes (.slice A4 n4 c4), It.B b2 101 [.string y1.Name, .slice A4 n4 c4]]) (fun ⟨k1, s1, v1⟩ => y1.Attributes.length - k1) ⟨0, ([] : List Attribute), (.slice A3 n3 c3)⟩ ⟨rfl, rfl, rfl, trivial⟩ ⟨Nat.zero_le _, hq1, H.keep 3 4⟩ ?_)
  rintro ⟨k1, s1, v1⟩ σ w6 ⟨hk1, hq1, H⟩
  obtain ⟨A5, n5, c5, rfl⟩ := (H.rO (i := 1) rfl).form3
  refine CW.seq (CW.seq (CW.reg ?_))
  refine WL.ev rfl rfl (Ev.mv rfl rfl) (WL.ev rfl rfl (Ev.fa rfl fo101_1 rfl) (WL.ev rfl rfl (Ev.ld rfl ag43 rfl ((H.rB (i := 3) rfl).cell rfl)) ?_))
  have hl1 := (H.rO (i := 2) rfl).I
  refine WL.ev rfl rfl (Ev.lenV rfl el43 rfl (H.rO (i := 2) rfl)) (WL.ev rfl rfl (Ev.bin rfl rfl rfl Bin.lss) (WL.nil ?_))
  refine CW.condD rfl (fun h1 => ?_) (fun h1 => ?_)
  · skip
    have hk2 := cast_lt h1
    obtain ⟨x1, z1, hx1, hb1, hq1⟩ := eachL_go hq1 hk2
    refine CW.skip ?_
    obtain ⟨q2, hm1, hb1⟩ := bd hb1
    refine CW.seq (CW.mid (fun ρ' w => ∃ (s2 : List Attribute) (v2 : Value), s2 = q2 ∧ agree ρ' [(5, v2), (6, .pointer (some ⟨b2, 0, none⟩)), (8, .int .i64 (k1 : Int))] ∧ HL F0 [] w0 w [Pr.R a0 [.slice A1 n1 c1, .slice A2 n2 c2], Pr.S a0.Symbols (.slice A1 n1 c1), Pr.S a0.Rules (.slice A2 n2 c2)] [It.B b1 48 [.slice A1 n1 c1, .slice A2 n2 c2], It.O 105 s2 v2, It.O 105 y1.Attributes (.slice A4 n4 c4), It.B b2 101 [.string y1.Name, .slice A4 n4 c4]]) ?_ ?_)
    · skip
      refine CW.block (CW.seq (CW.reg ?_))
      refine WL.ev rfl rfl (Ev.fa rfl fo101_1 rfl) (WL.ev rfl rfl (Ev.ld rfl ag43 rfl ((H.rB (i := 3) rfl).cell rfl)) (WL.ev rfl rfl (Ev.mv rfl rfl) ?_))
      obtain ⟨b3, cb3, hvb3, hbb3⟩ := H.ptO (i := 2) rfl hx1
      refine WL.ev rfl rfl (Ev.ixVN rfl el43 sz105 rfl hvb3 rfl (lt_of hx1)) (WL.ev rfl rfl (Ev.fa rfl fo105_2 rfl) ?_)
      obtain ⟨hA1, hS2, hI1, hI2, H⟩ := elO_Attribute H (i := 2) rfl hx1 hbb3
      refine WL.ev rfl rfl (Ev.ld rfl ag3 rfl (hA1.cell rfl)) (WL.ev rfl rfl (Ev.bin rfl rfl rfl Bin.eql) ?_)
      refine WL.mvD rfl rfl rfl rfl (fun h2 => ?_) (fun h2 => ?_)
      · skip
        have hm1 := ifp h2 hm1
        refine WL.off rfl rfl rfl (WL.off rfl rfl rfl (WL.off rfl rfl rfl (WL.off rfl rfl rfl (WL.off rfl rfl rfl (WL.off rfl rfl rfl (WL.off rfl rfl rfl (WL.ev rfl rfl (Ev.pickT rfl rfl rfl) (WL.nil ?_))))))))
        refine CW.condT rfl ?_
        refine CW.reg ?_
        refine WL.ev rfl rfl (Ev.mv rfl rfl) (WL.ev rfl rfl (Ev.fa rfl fo101_1 rfl) (WL.ev rfl rfl (Ev.ld rfl ag43 rfl ((H.rB (i := 3) rfl).cell rfl)) (WL.ev rfl rfl (Ev.mv rfl rfl) ?_)))
        obtain ⟨b4, cb4, hvb4, hbb4⟩ := H.ptO (i := 2) rfl hx1
        refine WL.ev rfl rfl (Ev.ixVN rfl el43 sz105 rfl hvb4 rfl (lt_of hx1)) ?_
        obtain ⟨hA2, hS3, hI3, hI4, H⟩ := elO_Attribute H (i := 2) rfl hx1 hbb4
        refine WL.ev rfl rfl (Ev.lda rfl ag105 sz105 rfl hA2 rfl) ?_
        refine WL.lit1 rfl rfl rfl el43 sz105 ze105 rfl rfl rfl rfl rfl rfl fun b5 w7 hE hb hB => ?_
        have H := H.newB hE hb hB
        obtain ⟨hg1, hm1⟩ := grd_some hm1
        refine WL.appO (i := 1) (ys := [x1]) rfl rfl rfl el43 sz105 by105 ze105 rfl rfl rfl H rfl (fun _ => ownL.single ⟨rfl, hS3, hI3, hI4, rfl⟩) (.inr ⟨_, _, rfl, At.blk (H.rB (i := 4) rfl)⟩) hg1 fun A6 n6 c6 w8 H => ?_
        refine WL.ev rfl rfl (Ev.as rfl rfl) (WL.nil ?_)
        obtain rfl := sm hm1
        exact ⟨(s1 ++ [x1]), _, rfl, ⟨rfl, rfl, rfl, trivial⟩, H.keep 3 4⟩
      · skip
        have hm1 := ifn h2 hm1
        refine WL.on rfl rfl (WL.ev rfl rfl (Ev.fa rfl fo101_1 rfl) (WL.on rfl rfl (WL.ev rfl rfl (Ev.ld rfl ag43 rfl ((H.rB (i := 3) rfl).cell rfl)) (WL.on rfl rfl (WL.ev rfl rfl (Ev.mv rfl rfl) (WL.on rfl rfl ?_))))))
        obtain ⟨b6, cb6, hvb6, hbb6⟩ := H.ptO (i := 2) rfl hx1
        refine WL.ev rfl rfl (Ev.ixVN rfl el43 sz105 rfl hvb6 rfl (lt_of hx1)) (WL.on rfl rfl (WL.ev rfl rfl (Ev.fa rfl fo105_2 rfl) (WL.on rfl rfl ?_)))
        obtain ⟨hA3, hS4, hI5, hI6, H⟩ := elO_Attribute H (i := 2) rfl hx1 hbb6
        refine WL.ev rfl rfl (Ev.ld rfl ag3 rfl (hA3.cell rfl)) (WL.on rfl rfl (WL.ev rfl rfl (Ev.bin rfl rfl rfl Bin.eql) (WL.ev rfl rfl (Ev.pickF rfl rfl rfl) (WL.nil ?_))))
        refine CW.condD rfl (fun h3 => ?_) (fun h3 => ?_)
        · skip
          have hm1 := ifp h3 hm1
          refine CW.fresh [(5, .slice A5 n5 c5), (6, .pointer (some ⟨b2, 0, none⟩)), (8, .int .i64 (k1 : Int)), (31, .pointer (some ⟨b2, 0 + 1, none⟩)), (32, .slice A4 n4 c4), (33, .int .i64 (k1 : Int)), (34, .pointer (some ⟨b6, 0 + k1 * 4, none⟩)), (35, .pointer (some ⟨b6, 0 + k1 * 4 + 2, none⟩)), (36, .int .i64 x1.Mode), (37, .bool (decide (x1.Mode = 2)))] ⟨rfl, rfl, rfl, rfl, rfl, rfl, rfl, rfl, rfl, rfl, trivial⟩ fun σ => ?_
          have H : HL F0 [] w0 w6 [Pr.R a0 [.slice A1 n1 c1, .slice A2 n2 c2], Pr.S a0.Symbols (.slice A1 n1 c1), Pr.S a0.Rules (.slice A2 n2 c2), Pr.R x1 [.string x1.Name, .int .i64 x1.Type_, .int .i64 x1.Mode, .bool x1.Circular], Pr.R x1 [.string x1.Name, .int .i64 x1.Type_, .int .i64 x1.Mode, .bool x1.Circular]] [It.B b1 48 [.slice A1 n1 c1, .slice A2 n2 c2], It.O 105 s1 (.slice A5 n5 c5), It.O 105 y1.Attributes (.slice A4 n4 c4), It.B b2 101 [.string y1.Name, .slice A4 n4 c4]] := H
          refine CW.reg ?_
          refine WL.ev rfl rfl (Ev.mv rfl rfl) (WL.ev rfl rfl (Ev.fa rfl fo101_1 rfl) (WL.ev rfl rfl (Ev.ld rfl ag43 rfl ((H.rB (i := 3) rfl).cell rfl)) (WL.ev rfl rfl (Ev.mv rfl rfl) ?_)))
          obtain ⟨b7, cb7, hvb7, hbb7⟩ := H.ptO (i := 2) rfl hx1
          refine WL.ev rfl rfl (Ev.ixVN rfl el43 sz105 rfl hvb7 rfl (lt_of hx1)) ?_
          obtain ⟨hA4, hS5, hI7, hI8, H⟩ := elO_Attribute H (i := 2) rfl hx1 hbb7
          refine WL.ev rfl rfl (Ev.lda rfl ag105 sz105 rfl hA4 rfl) ?_
          refine WL.lit1 rfl rfl rfl el43 sz105 ze105 rfl rfl rfl rfl rfl rfl fun b8 w9 hE hb hB => ?_
          have H := H.newB hE hb hB
          obtain ⟨hg2, hm1⟩ := grd_some hm1
          refine WL.appO (i := 1) (ys := [x1]) rfl rfl rfl el43 sz105 by105 ze105 rfl rfl rfl H rfl (fun _ => ownL.single ⟨rfl, hS5, hI7, hI8, rfl⟩) (.inr ⟨_, _, rfl, At.blk (H.rB (i := 4) rfl)⟩) hg2 fun A7 n7 c7 w10 H => ?_
          refine WL.ev rfl rfl (Ev.as rfl rfl) (WL.nil ?_)
          obtain rfl := sm hm1
          exact ⟨(s1 ++ [x1]), _, rfl, ⟨rfl, rfl, rfl, trivial⟩, H.keep 3 4⟩
        · skip
          have hm1 := ifn h3 hm1
          refine CW.skip ?_
          obtain rfl := sm hm1
          exact ⟨s1, _, rfl, ⟨rfl, rfl, rfl, trivial⟩, H.keep 3 4⟩
    · rintro ρ' w11 ⟨s2, v2, rfl, hag, H⟩
      obtain ⟨σ, rfl⟩ := ofL_ex hag
      obtain ⟨A8, n8, c8, rfl⟩ := (H.rO (i := 1) rfl).form3
      refine CW.reg ?_
      refine WL.ev rfl rfl (Ev.mv rfl rfl) (WL.ev rfl rfl (Ev.bin rfl rfl rfl (Bin.addN (a := k1) (b := 1) rfl (i64_succN hk2 hl1.2))) (WL.ev rfl rfl (Ev.as rfl rfl) (WL.nil ?_)))
      obtain rfl := sm hb1
      exact ⟨⟨k1 + 1, s2, (.slice A8 n8 c8)⟩, ⟨rfl, rfl, rfl, trivial⟩, ⟨hk2, hq1, H.keep 3 4⟩, Nat.sub_lt_sub_left hk2 (Nat.lt_succ_self _)⟩
  · skip
    obtain rfl := eachL_end hq1 (not_cast_lt h1)
    refine CW.exit ?_
    refine CW.seq (CW.reg ?_)
    refine WL.ev rfl rfl (Ev.mv rfl rfl) (WL.ev rfl rfl (Ev.as rfl rfl) (WL.nil ?_))
    refine CW.ret ?_
    obtain rfl := sm hr
    exact ⟨_, res1 rfl rfl rfl, H.ext0, _, _, _, rfl, H.outM (fr' := []) [false, true, false, false] fun _ _ => trivial⟩

noncomputable def ifindSymbol_L1 (a1 : ByteArray) : Nat → Symbol → Unit → Option (Unit ⊕ (Symbol × Bool)) := fun k1 x1 _ => 
  if x1.Name = a1 then (
  some (.inr (x1, true))
  ) else (
  some (.inl ())
  )
noncomputable def ifindSymbol_m (a0 : Grammar) (a1 : ByteArray) : Option (Symbol × Bool) :=
  (findL (ifindSymbol_L1 a1) 0 a0.Symbols ()).bind <| onr (fun r1 => some r1) fun _ =>
  some ((⟨(⟨#[]⟩ : ByteArray), []⟩ : Symbol), false)
theorem ifindSymbol_ok {a0 : Grammar} {a1 : ByteArray} {r : (Symbol × Bool)} (hr : ifindSymbol_m a0 a1 = some r) {F0 : Nat → Prop} {w0 : World} {ca0 : List Value} (ha0 : rd F0 w0 a0 ca0) (ha1 : a1.size ≤ 9223372036854775807) :
    Ret Try.prog 67 #[.agg ca0.toArray, .string a1] w0 (fun _ => False) fun v w => ∃ A0 : Option Addr, ∃ n0 c0 : Nat, v = .tuple #[.agg #[.string r.1.Name, (.slice A0 n0 c0)], .bool r.2] ∧ r.1.Name.size ≤ 9223372036854775807 ∧ HL F0 [] w0 w [Pr.S r.1.Attributes (.slice A0 n0 c0)] [] := by
  have H := (HL.start F0 w0).argR ha0
  obtain ⟨A1, n1, c1, A2, n2, c2, rfl, H⟩ := op_Grammar H (i := 0) rfl
  refine enter Try.func67 rfl rfl rfl ?_
  refine CW.seq (CW.reg ?_)
  refine WL.boxH rfl rfl rfl rfl rfl H fun b1 w1 H => ?_
  refine WL.allocH rfl rfl rfl ze101 H fun b2 w2 H => ?_
  refine WL.ev rfl rfl (Ev.as rfl rfl) (WL.nil ?_)
  refine CW.seq (CW.seq (CW.reg ?_))
  refine WL.ev rfl rfl (Ev.fa rfl fo48_0 rfl) (WL.ev rfl rfl (Ev.ld rfl ag45 rfl ((H.rB (i := 0) rfl).cell rfl)) ?_)
  have hl1 := (H.rS (i := 1) rfl).I
  refine WL.ev rfl rfl (Ev.lenV rfl el45 rfl (H.rS (i := 1) rfl)) (WL.ev rfl rfl (Ev.mv rfl rfl) (WL.nil ?_))
  obtain ⟨q1, hq1, hr⟩ := bd hr
  refine CW.block (CW.loop (α := Nat) (fun k1 => [(1, .string a1), (4, .pointer (some ⟨b2, 0, none⟩)), (9, .slice A1 n1 c1), (10, .int .i64 (a0.Symbols.length : Int)), (11, .int .i64 (k1 : Int))]) (fun k1 w => k1 ≤ a0.Symbols.length ∧ findL (ifindSymbol_L1 a1) k1 (a0.Symbols.drop k1) () = some q1 ∧ HL F0 [] w0 w [Pr.R a0 [.slice A1 n1 c1, .slice A2 n2 c2], Pr.S a0.Symbols (.slice A1 n1 c1), Pr.S a0.Rules (.slice A2 n2 c2)] [It.B b1 48 [.slice A1 n1 c1, .slice A2 n2 c2], It.B b2 101 [.string (⟨#[]⟩ : ByteArray), .slice none 0 0]]) (fun k1 => a0.Symbols.length - k1) 0 ⟨rfl, rfl, rfl, rfl, rfl, trivial⟩ ⟨Nat.zero_le _, hq1, H.keep 3 2⟩ ?_)
  rintro k1 σ w3 ⟨hk1, hq1, H⟩
  refine CW.seq (CW.reg ?_)
  refine WL.ev rfl rfl (Ev.bin rfl rfl rfl Bin.lss) (WL.nil ?_)
  refine CW.seq (CW.condD rfl (fun h1 => ?_) (fun h1 => ?_))
  · skip
    have hk2 := cast_lt h1
    obtain ⟨x1, z1, hx1, hb1, hs1, ht1⟩ := findL_go hq1 hk2
    refine CW.skip ?_
    refine CW.seq (CW.block (CW.seq (CW.reg ?_)))
    obtain ⟨b3, ob3, cb3, A3, n3, c3, hvb3, hS1, H⟩ := ixS_Symbol H (i := 1) rfl hx1
    refine WL.ev rfl rfl (Ev.ixVN rfl el45 sz101 rfl hvb3 rfl (lt_of hx1)) (WL.ev rfl rfl (Ev.lda rfl ag101 sz101 rfl (H.rA (i := 3) rfl) rfl) ?_)
    refine WL.allocH rfl rfl rfl ze101 H fun b4 w4 H => ?_
    refine WL.stB (i := 2) rfl rfl rfl sz101 rfl rfl rfl rfl (all1 rfl (all1 rfl all0)) H rfl rfl rfl fun w5 H => ?_
    refine WL.nil ?_
    refine CW.seq (CW.reg ?_)
    refine WL.ev rfl rfl (Ev.fa rfl fo101_0 rfl) (WL.ev rfl rfl (Ev.ld rfl ag9 rfl ((H.rB (i := 2) rfl).cell rfl)) (WL.ev rfl rfl (Ev.mv rfl rfl) (WL.ev rfl rfl (Ev.bin rfl rfl rfl Bin.eqlS) (WL.nil ?_))))
    refine CW.condD rfl (fun h2 => ?_) (fun h2 => ?_)
    · skip
      have hb1 := ifp h2 hb1
      refine CW.seq (CW.reg ?_)
      refine WL.ev rfl rfl (Ev.lda rfl ag101 sz101 rfl (At.blk (H.rB (i := 2) rfl)) rfl) ?_
      refine WL.stB (i := 1) rfl rfl rfl sz101 rfl rfl rfl rfl (all1 rfl (all1 rfl all0)) H rfl rfl rfl fun w6 H => ?_
      refine WL.ev rfl rfl (Ev.as rfl rfl) (WL.nil ?_)
      refine CW.ret ?_
      obtain rfl := sm hb1
      obtain rfl := ht1 _ rfl
      obtain rfl := sm hr
      exact ⟨_, resC1 rfl ag101 sz101 rfl rfl rfl rfl (At.blk (H.rB (i := 1) rfl)) rfl, H.ext0, _, _, _, rfl, hS1, H.outM (fr' := [Pr.S x1.Attributes (.slice A3 n3 c3)]) [false, false, false] fun _ h => ⟨h.get (i := 5) rfl, trivial⟩⟩
    · skip
      have hb1 := ifn h2 hb1
      refine CW.skip ?_
      refine CW.reg ?_
      refine WL.ev rfl rfl (Ev.bin rfl rfl rfl (Bin.addN (a := k1) (b := 1) rfl (i64_succN hk2 hl1.2))) (WL.ev rfl rfl (Ev.mv rfl rfl) (WL.nil ?_))
      obtain rfl := sm hb1
      have hq1 := hs1 _ rfl
      exact ⟨(k1 + 1), ⟨rfl, rfl, rfl, rfl, rfl, trivial⟩, ⟨hk2, hq1, H.keep 3 2⟩, Nat.sub_lt_sub_left hk2 (Nat.lt_succ_self _)⟩
  · skip
    obtain rfl := findL_end hq1 (not_cast_lt h1)
    refine CW.exit ?_
    refine CW.seq (CW.reg ?_)
    refine WL.ev rfl rfl (Ev.build rfl pl101 ze101 rfl rfl rfl rfl) ?_
    refine WL.stB (i := 1) rfl rfl rfl sz101 rfl rfl rfl rfl (all1 rfl (all1 rfl all0)) H rfl rfl rfl fun w7 H => ?_
    refine WL.ev rfl rfl (Ev.as rfl rfl) (WL.nil ?_)
    refine CW.ret ?_
    have H := H.nilS (α := Attribute)
    obtain rfl := sm hr
    exact ⟨_, resC1 rfl ag101 sz101 rfl rfl rfl rfl (At.blk (H.rB (i := 1) rfl)) rfl, H.ext0, _, _, _, rfl, (by decide), H.outM (fr' := [Pr.S ([] : List Attribute) (.slice none 0 0)]) [false, false] fun _ h => ⟨h.get (i := 3) rfl, trivial⟩⟩

noncomputable def iPlainAttributes_L1 : Nat → Attribute → (List Attribute) → Option (List Attribute) := fun k1 x1 s1 => 
  (
  if x1.Mode = 1 then (
  grd (((s1.length : Int) + 1) * 40 ≤ 140737488355328 ∧ (s1.length : Int) + 1 ≤ 9223372036854775807) <|
  some (s1 ++ [x1])
  ) else (
  if x1.Mode = 2 then (
  grd (((s1.length : Int) + 1) * 40 ≤ 140737488355328 ∧ (s1.length : Int) + 1 ≤ 9223372036854775807) <|
  some (s1 ++ [x1])
  ) else (
  some s1
  )
  )
  ).bind fun s2 =>
  some s2
noncomputable def iPlainAttributes_m (a0 : Grammar) (a1 : ByteArray) : Option (List Attribute) :=
  (ifindSymbol_m a0 a1).bind fun (y1, y2) =>
  (eachL iPlainAttributes_L1 0 y1.Attributes ([] : List Attribute)).bind fun s1 =>
  some s1
theorem iPlainAttributes_ok {a0 : Grammar} {a1 : ByteArray} {r : (List Attribute)} (hr : iPlainAttributes_m a0 a1 = some r) {F0 : Nat → Prop} {w0 : World} {ca0 : List Value} (ha0 : rd F0 w0 a0 ca0) (ha1 : a1.size ≤ 9223372036854775807) :
    Ret Try.prog 23 #[.agg ca0.toArray, .string a1] w0 (fun _ => False) fun v w => ∃ A0 : Option Addr, ∃ n0 c0 : Nat, v = (.slice A0 n0 c0) ∧ HL F0 [] w0 w [] [It.O 105 r (.slice A0 n0 c0)] := by
  have H := (HL.start F0 w0).argR ha0
  obtain ⟨A1, n1, c1, A2, n2, c2, rfl, H⟩ := op_Grammar H (i := 0) rfl
  refine enter Try.func23 rfl rfl rfl ?_
  refine CW.seq (CW.reg ?_)
  refine WL.boxH rfl rfl rfl rfl rfl H fun b1 w1 H => ?_
  refine WL.ev rfl rfl (Ev.as rfl rfl) (WL.nil ?_)
  refine CW.seq (CW.reg ?_)
  refine WL.lit0H (α := Attribute) rfl rfl rfl el43 sz105 H fun A3 n3 c3 w2 H => ?_
  refine WL.ev rfl rfl (Ev.as rfl rfl) (WL.nil ?_)
  refine CW.seq (CW.reg ?_)
  refine WL.ev rfl rfl (Ev.lda rfl ag48 sz48 rfl (At.blk (H.rB (i := 0) rfl)) rfl) (WL.ev rfl rfl (Ev.mv rfl rfl) ?_)
  obtain ⟨⟨y1, y2⟩, hy1, hr⟩ := bd hr
  obtain ⟨F, hF, hcl⟩ := H.call
  refine WL.call rfl rfl rfl rfl rfl ok67 rfl (ifindSymbol_ok hy1 ⟨_, _, rfl, (hF.get (i := 1) rfl), (hF.get (i := 2) rfl)⟩ ha1) ?_
  rintro _ w3 hE ⟨A4, n4, c4, rfl, hS1, H'⟩
  have H := hcl H'
  refine WL.ev rfl rfl (Ev.mv rfl rfl) (WL.ev rfl rfl (Ev.ex rfl rfl rfl) (WL.ev rfl rfl (Ev.ex rfl rfl rfl) ?_))
  refine WL.allocH rfl rfl rfl ze101 H fun b2 w4 H => ?_
  refine WL.stB (i := 2) rfl rfl rfl sz101 rfl rfl rfl rfl (all1 rfl (all1 rfl all0)) H rfl rfl rfl fun w5 H => ?_
  refine WL.ev rfl rfl (Ev.as rfl rfl) (WL.nil ?_)
  refine CW.seq (CW.seq (CW.reg ?_))
  refine WL.ev rfl rfl (Ev.fa rfl fo101_1 rfl) (WL.ev rfl rfl (Ev.ld rfl ag43 rfl ((H.rB (i := 2) rfl).cell rfl)) ?_)
  have hl1 := (H.rS (i := 3) rfl).I
  refine WL.ev rfl rfl (Ev.lenV rfl el43 rfl (H.rS (i := 3) rfl)) (WL.ev rfl rfl (Ev.mv rfl rfl) (WL.nil ?_))
  obtain ⟨q1, hq1, hr⟩ := bd hr
  refine CW.block (CW.loop (α := Nat × (List Attribute) × Value) (fun ⟨k1, s1, v1⟩ => [(5, v1), (18, .slice A4 n4 c4), (19, .int .i64 (y1.Attributes.length : Int)), (20, .int .i64 (k1 : Int))]) (fun ⟨k1, s1, v1⟩ w => k1 ≤ y1.Attributes.length ∧ eachL iPlainAttributes_L1 k1 (y1.Attributes.drop k1) s1 = some q1 ∧ HL F0 [] w0 w [Pr.R a0 [.slice A1 n1 c1, .slice A2 n2 c2], Pr.S a0.Symbols (.slice A1 n1 c1), Pr.S a0.Rules (.slice A2 n2 c2), Pr.S y1.Attributes (.slice A4 n4 c4)] [It.B b1 48 [.slice A1 n1 c1, .slice A2 n2 c2], It.O 105 s1 v1, It.B b2 101 [.string y1.Name, .slice A4 n4 c4]]) (fun ⟨k1, s1, v1⟩ => y1.Attributes.length - k1) ⟨0, ([] : List Attribute), (.slice A3 n3 c3)⟩ ⟨rfl, rfl, rfl, rfl, trivial⟩ ⟨Nat.zero_le _, hq1, H.keep 4 3⟩ ?_)
  rintro ⟨k1, s1, v1⟩ σ w6 ⟨hk1, hq1, H⟩
  obtain ⟨A5, n5, c5, rfl⟩ := (H.rO (i := 1) rfl).form3
  refine CW.seq (CW.reg ?_)
  refine WL.ev rfl rfl (Ev.bin rfl rfl rfl Bin.lss) (WL.nil ?_)
  refine CW.seq (CW.condD rfl (fun h1 => ?_) (fun h1 => ?_))
  · skip
    have hk2 := cast_lt h1
    obtain ⟨x1, z1, hx1, hb1, hq1⟩ := eachL_go hq1 hk2
    refine CW.skip ?_
    obtain ⟨q2, hm1, hb1⟩ := bd hb1
    refine CW.seq (CW.mid (fun ρ' w => ∃ (s2 : List Attribute) (v2 : Value), s2 = q2 ∧ agree ρ' [(5, v2), (18, .slice A4 n4 c4), (19, .int .i64 (y1.Attributes.length : Int)), (20, .int .i64 (k1 : Int))] ∧ HL F0 [] w0 w [Pr.R a0 [.slice A1 n1 c1, .slice A2 n2 c2], Pr.S a0.Symbols (.slice A1 n1 c1), Pr.S a0.Rules (.slice A2 n2 c2), Pr.S y1.Attributes (.slice A4 n4 c4)] [It.B b1 48 [.slice A1 n1 c1, .slice A2 n2 c2], It.O 105 s2 v2, It.B b2 101 [.string y1.Name, .slice A4 n4 c4]]) ?_ ?_)
    · skip
      refine CW.block (CW.seq (CW.reg ?_))
      obtain ⟨b3, ob3, cb3, hvb3, hS2, hI1, hI2, H⟩ := ixS_Attribute H (i := 3) rfl hx1
      refine WL.ev rfl rfl (Ev.ixVN rfl el43 sz105 rfl hvb3 rfl (lt_of hx1)) (WL.ev rfl rfl (Ev.lda rfl ag105 sz105 rfl (H.rA (i := 4) rfl) rfl) ?_)
      refine WL.allocH rfl rfl rfl ze105 H fun b4 w7 H => ?_
      refine WL.stB (i := 3) rfl rfl rfl sz105 rfl rfl rfl rfl (all1 rfl (all1 rfl (all1 rfl (all1 rfl all0)))) H rfl rfl rfl fun w8 H => ?_
      refine WL.nil ?_
      refine CW.seq (CW.reg ?_)
      refine WL.ev rfl rfl (Ev.fa rfl fo105_2 rfl) (WL.ev rfl rfl (Ev.ld rfl ag3 rfl ((H.rB (i := 3) rfl).cell rfl)) (WL.ev rfl rfl (Ev.bin rfl rfl rfl Bin.eql) ?_))
      refine WL.mvD rfl rfl rfl rfl (fun h2 => ?_) (fun h2 => ?_)
      · skip
        have hm1 := ifp h2 hm1
        refine WL.off rfl rfl rfl (WL.off rfl rfl rfl (WL.off rfl rfl rfl (WL.ev rfl rfl (Ev.pickT rfl rfl rfl) (WL.nil ?_))))
        refine CW.condT rfl ?_
        refine CW.reg ?_
        refine WL.ev rfl rfl (Ev.mv rfl rfl) (WL.ev rfl rfl (Ev.lda rfl ag105 sz105 rfl (At.blk (H.rB (i := 3) rfl)) rfl) ?_)
        refine WL.lit1 rfl rfl rfl el43 sz105 ze105 rfl rfl rfl rfl rfl rfl fun b5 w9 hE hb hB => ?_
        have H := H.newB hE hb hB
        obtain ⟨hg1, hm1⟩ := grd_some hm1
        refine WL.appO (i := 1) (ys := [x1]) rfl rfl rfl el43 sz105 by105 ze105 rfl rfl rfl H rfl (fun _ => ownL.single ⟨rfl, hS2, hI1, hI2, rfl⟩) (.inr ⟨_, _, rfl, At.blk (H.rB (i := 4) rfl)⟩) hg1 fun A6 n6 c6 w10 H => ?_
        refine WL.ev rfl rfl (Ev.as rfl rfl) (WL.nil ?_)
        obtain rfl := sm hm1
        exact ⟨(s1 ++ [x1]), _, rfl, ⟨rfl, rfl, rfl, rfl, trivial⟩, H.keep 4 3⟩
      · skip
        have hm1 := ifn h2 hm1
        refine WL.on rfl rfl (WL.ev rfl rfl (Ev.fa rfl fo105_2 rfl) (WL.on rfl rfl (WL.ev rfl rfl (Ev.ld rfl ag3 rfl ((H.rB (i := 3) rfl).cell rfl)) (WL.on rfl rfl (WL.ev rfl rfl (Ev.bin rfl rfl rfl Bin.eql) (WL.ev rfl rfl (Ev.pickF rfl rfl rfl) (WL.nil ?_)))))))
        refine CW.condD rfl (fun h3 => ?_) (fun h3 => ?_)
        · skip
          have hm1 := ifp h3 hm1
          refine CW.reg ?_
          refine WL.ev rfl rfl (Ev.mv rfl rfl) (WL.ev rfl rfl (Ev.lda rfl ag105 sz105 rfl (At.blk (H.rB (i := 3) rfl)) rfl) ?_)
          refine WL.lit1 rfl rfl rfl el43 sz105 ze105 rfl rfl rfl rfl rfl rfl fun b6 w11 hE hb hB => ?_
          have H := H.newB hE hb hB
          obtain ⟨hg2, hm1⟩ := grd_some hm1
          refine WL.appO (i := 1) (ys := [x1]) rfl rfl rfl el43 sz105 by105 ze105 rfl rfl rfl H rfl (fun _ => ownL.single ⟨rfl, hS2, hI1, hI2, rfl⟩) (.inr ⟨_, _, rfl, At.blk (H.rB (i := 4) rfl)⟩) hg2 fun A7 n7 c7 w12 H => ?_
          refine WL.ev rfl rfl (Ev.as rfl rfl) (WL.nil ?_)
          obtain rfl := sm hm1
          exact ⟨(s1 ++ [x1]), _, rfl, ⟨rfl, rfl, rfl, rfl, trivial⟩, H.keep 4 3⟩
        · skip
          have hm1 := ifn h3 hm1
          refine CW.skip ?_
          obtain rfl := sm hm1
          exact ⟨s1, _, rfl, ⟨rfl, rfl, rfl, rfl, trivial⟩, H.keep 4 3⟩
    · rintro ρ' w13 ⟨s2, v2, rfl, hag, H⟩
      obtain ⟨σ, rfl⟩ := ofL_ex hag
      obtain ⟨A8, n8, c8, rfl⟩ := (H.rO (i := 1) rfl).form3
      refine CW.reg ?_
      refine WL.ev rfl rfl (Ev.bin rfl rfl rfl (Bin.addN (a := k1) (b := 1) rfl (i64_succN hk2 hl1.2))) (WL.ev rfl rfl (Ev.mv rfl rfl) (WL.nil ?_))
      obtain rfl := sm hb1
      exact ⟨⟨k1 + 1, s2, (.slice A8 n8 c8)⟩, ⟨rfl, rfl, rfl, rfl, trivial⟩, ⟨hk2, hq1, H.keep 4 3⟩, Nat.sub_lt_sub_left hk2 (Nat.lt_succ_self _)⟩
  · skip
    obtain rfl := eachL_end hq1 (not_cast_lt h1)
    refine CW.exit ?_
    refine CW.seq (CW.reg ?_)
    refine WL.ev rfl rfl (Ev.mv rfl rfl) (WL.ev rfl rfl (Ev.as rfl rfl) (WL.nil ?_))
    refine CW.ret ?_
    obtain rfl := sm hr
    exact ⟨_, res1 rfl rfl rfl, H.ext0, _, _, _, rfl, H.outM (fr' := []) [false, true, false] fun _ _ => trivial⟩

noncomputable def sl1In_m (a0 : Int) (a1 : Int) (a2 : Int) : Option Bool :=
  if a1 ≤ a0 then (
  some (decide (a0 ≤ a2))
  ) else (
  some false
  )
theorem sl1In_ok {a0 : Int} {a1 : Int} {a2 : Int} {r : Bool} (hr : sl1In_m a0 a1 a2 = some r) {F0 : Nat → Prop} {w0 : World} (ha0 : I64 a0) (ha1 : I64 a1) (ha2 : I64 a2) :
    Ret Try.prog 113 #[.int .i64 a0, .int .i64 a1, .int .i64 a2] w0 (fun _ => False) fun v w => v = .bool r := by
  have H := HL.start F0 w0
  refine enter Try.func113 rfl rfl rfl ?_
  refine CW.seq (CW.reg ?_)
  refine WL.ev rfl rfl (Ev.as rfl rfl) (WL.nil ?_)
  refine CW.seq (CW.reg ?_)
  refine WL.ev rfl rfl (Ev.mv rfl rfl) (WL.ev rfl rfl (Ev.mv rfl rfl) (WL.ev rfl rfl (Ev.bin rfl rfl rfl Bin.geq) ?_))
  refine WL.mvD rfl rfl rfl rfl (fun h1 => ?_) (fun h1 => ?_)
  · skip
    have hr := ifp h1 hr
    refine WL.on rfl rfl (WL.ev rfl rfl (Ev.mv rfl rfl) (WL.on rfl rfl (WL.ev rfl rfl (Ev.mv rfl rfl) (WL.on rfl rfl (WL.ev rfl rfl (Ev.bin rfl rfl rfl Bin.leq) (WL.ev rfl rfl (Ev.pickT rfl rfl rfl) (WL.ev rfl rfl (Ev.as rfl rfl) (WL.nil ?_))))))))
    refine CW.ret ?_
    obtain rfl := sm hr
    exact ⟨_, res1 rfl rfl rfl, H.ext0, rfl⟩
  · skip
    have hr := ifn h1 hr
    refine WL.off rfl rfl rfl (WL.off rfl rfl rfl (WL.off rfl rfl rfl (WL.ev rfl rfl (Ev.pickF rfl rfl rfl) (WL.ev rfl rfl (Ev.as rfl rfl) (WL.nil ?_)))))
    refine CW.ret ?_
    obtain rfl := sm hr
    exact ⟨_, res1 rfl rfl rfl, H.ext0, rfl⟩

noncomputable def sSymbolAt_m (a0 : Rule) (a1 : Int) : Option ByteArray :=
  if a1 = 0 then (
  some a0.Left
  ) else (
  (sl1In_m a1 1 (a0.Right.length : Int)).bind fun y1 =>
  if y1 = true then (
  grd (I64 (a1 - 1)) <|
  grd (0 ≤ (a1 - 1)) <|
  (a0.Right[(a1 - 1).toNat]?).bind fun x1 =>
  some x1
  ) else (
  some (⟨#[]⟩ : ByteArray)
  )
  )
theorem sSymbolAt_ok {a0 : Rule} {a1 : Int} {r : ByteArray} (hr : sSymbolAt_m a0 a1 = some r) {F0 : Nat → Prop} {w0 : World} {ca0 : List Value} (ha0 : rd F0 w0 a0 ca0) (ha1 : I64 a1) :
    Ret Try.prog 77 #[.agg ca0.toArray, .int .i64 a1] w0 (fun _ => False) fun v w => v = .string r ∧ r.size ≤ 9223372036854775807 := by
  have H := (HL.start F0 w0).argR ha0
  obtain ⟨A1, n1, c1, A2, n2, c2, A3, n3, c3, rfl, hS1, hS2, H⟩ := op_Rule H (i := 0) rfl
  refine enter Try.func77 rfl rfl rfl ?_
  refine CW.seq (CW.reg ?_)
  refine WL.boxH rfl rfl rfl rfl rfl H fun b1 w1 H => ?_
  refine WL.ev rfl rfl (Ev.as rfl rfl) (WL.nil ?_)
  refine CW.seq (CW.seq (CW.reg ?_))
  refine WL.ev rfl rfl (Ev.mv rfl rfl) (WL.ev rfl rfl (Ev.bin rfl rfl rfl Bin.eql) (WL.nil ?_))
  refine CW.condD rfl (fun h1 => ?_) (fun h1 => ?_)
  · skip
    have hr := ifp h1 hr
    refine CW.seq (CW.reg ?_)
    refine WL.ev rfl rfl (Ev.fa rfl fo65_1 rfl) (WL.ev rfl rfl (Ev.ld rfl ag9 rfl ((H.rB (i := 0) rfl).cell rfl)) (WL.ev rfl rfl (Ev.as rfl rfl) (WL.nil ?_)))
    refine CW.ret ?_
    obtain rfl := sm hr
    exact ⟨_, res1 rfl rfl rfl, H.ext0, rfl, hS2⟩
  · skip
    have hr := ifn h1 hr
    refine CW.skip ?_
    refine CW.seq (CW.seq (CW.reg ?_))
    refine WL.ev rfl rfl (Ev.mv rfl rfl) (WL.ev rfl rfl (Ev.fa rfl fo65_2 rfl) (WL.ev rfl rfl (Ev.ld rfl ag55 rfl ((H.rB (i := 0) rfl).cell rfl)) ?_))
    have hl1 := (H.rS (i := 1) rfl).I
    refine WL.ev rfl rfl (Ev.lenV rfl el55 rfl (H.rS (i := 1) rfl)) ?_
    obtain ⟨y1, hy1, hr⟩ := bd hr
    refine WL.call rfl rfl rfl rfl rfl ok113 rfl (sl1In_ok hy1 (F0 := fun _ => False) ha1 (by decide : I64 1) hl1) ?_
    rintro _ w2 hE rfl
    have H := H.ext hE
    refine WL.ev rfl rfl (Ev.not rfl rfl) (WL.nil ?_)
    refine CW.condBN rfl (fun h2 => ?_) (fun h2 => ?_)
    · skip
      have hr := ifn h2 hr
      refine CW.seq (CW.reg ?_)
      refine WL.ev rfl rfl (Ev.as rfl rfl) (WL.nil ?_)
      refine CW.ret ?_
      obtain rfl := sm hr
      exact ⟨_, res1 rfl rfl rfl, H.ext0, rfl, (by decide)⟩
    · skip
      have hr := ifp h2 hr
      refine CW.skip ?_
      refine CW.seq (CW.reg ?_)
      refine WL.ev rfl rfl (Ev.fa rfl fo65_2 rfl) (WL.ev rfl rfl (Ev.ld rfl ag55 rfl ((H.rB (i := 0) rfl).cell rfl)) (WL.ev rfl rfl (Ev.mv rfl rfl) ?_))
      obtain ⟨hg1, hr⟩ := grd_some hr
      refine WL.ev rfl rfl (Ev.bin rfl rfl rfl (Bin.sub hg1)) ?_
      obtain ⟨hg2, hr⟩ := grd_some hr
      obtain ⟨x1, hx1, hr⟩ := bd hr
      obtain ⟨b2, ob2, cb2, hvb2, hS3, H⟩ := ixS_Str H (i := 1) rfl hx1
      refine WL.ev rfl rfl (Ev.ixV rfl el55 sz9 rfl hvb2 rfl hg2 (lt_of hx1)) (WL.ev rfl rfl (Ev.ld rfl ag9 rfl ((H.rA (i := 4) rfl).cell0 rfl)) (WL.ev rfl rfl (Ev.as rfl rfl) (WL.nil ?_)))
      refine CW.ret ?_
      obtain rfl := sm hr
      exact ⟨_, res1 rfl rfl rfl, H.ext0, rfl, hS3⟩

noncomputable def sOccurrencesOf_L2 (s3 : Int) : Nat → Attribute → (List Occurrence) → Option (List Occurrence) := fun k1 x1 s4 => 
  grd (((s4.length : Int) + 1) * 24 ≤ 140737488355328 ∧ (s4.length : Int) + 1 ≤ 9223372036854775807) <|
  some (s4 ++ [(⟨s3, x1.Name⟩ : Occurrence)])
noncomputable def sOccurrencesOf_L1 (a0 : Grammar) (a1 : Rule) : ((List Occurrence) × Int) → Option (((List Occurrence) × Int) ⊕ (List Occurrence)) := fun (s2, s3) => 
  if s3 ≤ (a1.Right.length : Int) then (
  (sSymbolAt_m a1 s3).bind fun y1 =>
  (sPlainAttributes_m a0 y1).bind fun y2 =>
  (eachL (sOccurrencesOf_L2 s3) 0 y2 s2).bind fun s4 =>
  grd (I64 (s3 + 1)) <|
  some (.inl (s4, (s3 + 1)))
  ) else (
  some (.inr s2)
  )
noncomputable def sOccurrencesOf_m (a0 : Grammar) (a1 : Rule) : Option (List Occurrence) :=
  (
  iterO (sOccurrencesOf_L1 a0 a1) (([] : List Occurrence), 0)
  ).bind fun s1 =>
  some s1
theorem sOccurrencesOf_ok {a0 : Grammar} {a1 : Rule} {r : (List Occurrence)} (hr : sOccurrencesOf_m a0 a1 = some r) {F0 : Nat → Prop} {w0 : World} {ca0 : List Value} (ha0 : rd F0 w0 a0 ca0) {ca1 : List Value} (ha1 : rd F0 w0 a1 ca1) :
    Ret Try.prog 30 #[.agg ca0.toArray, .agg ca1.toArray] w0 (fun _ => False) fun v w => ∃ A0 : Option Addr, ∃ n0 c0 : Nat, v = (.slice A0 n0 c0) ∧ HL F0 [] w0 w [] [It.O 90 r (.slice A0 n0 c0)] := by
  have H := ((HL.start F0 w0).argR ha0).argR ha1
  obtain ⟨A1, n1, c1, A2, n2, c2, rfl, H⟩ := op_Grammar H (i := 0) rfl
  obtain ⟨A3, n3, c3, A4, n4, c4, A5, n5, c5, rfl, hS1, hS2, H⟩ := op_Rule H (i := 1) rfl
  refine enter Try.func30 rfl rfl rfl ?_
  refine CW.seq (CW.reg ?_)
  refine WL.boxH rfl rfl rfl rfl rfl H fun b1 w1 H => ?_
  refine WL.boxH rfl rfl rfl rfl rfl H fun b2 w2 H => ?_
  refine WL.ev rfl rfl (Ev.as rfl rfl) (WL.nil ?_)
  refine CW.seq (CW.reg ?_)
  refine WL.lit0H (α := Occurrence) rfl rfl rfl el33 sz90 H fun A6 n6 c6 w3 H => ?_
  refine WL.ev rfl rfl (Ev.as rfl rfl) (WL.nil ?_)
  refine CW.seq (CW.seq (CW.reg ?_))
  refine WL.ev rfl rfl (Ev.as rfl rfl) (WL.nil ?_)
  obtain ⟨q1, hm1, hr⟩ := bd hr
  refine CW.mid (fun ρ' w => ∃ (s1 : List Occurrence) (v1 : Value), s1 = q1 ∧ agree ρ' [(5, v1)] ∧ HL F0 [] w0 w [Pr.R a0 [.slice A1 n1 c1, .slice A2 n2 c2], Pr.R a1 [.string a1.Name, .string a1.Left, .slice A3 n3 c3, .bool a1.Literal, .slice A4 n4 c4, .slice A5 n5 c5], Pr.S a0.Symbols (.slice A1 n1 c1), Pr.S a0.Rules (.slice A2 n2 c2), Pr.S a1.Right (.slice A3 n3 c3), Pr.S a1.Equations (.slice A4 n4 c4), Pr.S a1.Contributions (.slice A5 n5 c5)] [It.B b1 48 [.slice A1 n1 c1, .slice A2 n2 c2], It.B b2 65 [.string a1.Name, .string a1.Left, .slice A3 n3 c3, .bool a1.Literal, .slice A4 n4 c4, .slice A5 n5 c5], It.O 90 s1 v1]) ?_ ?_
  · skip
    obtain ⟨m1, hq1⟩ := iterO_some.1 hm1
    refine CW.block (CW.loop (α := Nat × (List Occurrence) × Int × Value) (fun ⟨m1, s2, s3, v2⟩ => [(2, .pointer (some ⟨b1, 0, none⟩)), (3, .pointer (some ⟨b2, 0, none⟩)), (5, v2), (6, .int .i64 s3)]) (fun ⟨m1, s2, s3, v2⟩ w => iterN (sOccurrencesOf_L1 a0 a1) m1 (s2, s3) = some q1 ∧ I64 s3 ∧ HL F0 [] w0 w [Pr.R a0 [.slice A1 n1 c1, .slice A2 n2 c2], Pr.R a1 [.string a1.Name, .string a1.Left, .slice A3 n3 c3, .bool a1.Literal, .slice A4 n4 c4, .slice A5 n5 c5], Pr.S a0.Symbols (.slice A1 n1 c1), Pr.S a0.Rules (.slice A2 n2 c2), Pr.S a1.Right (.slice A3 n3 c3), Pr.S a1.Equations (.slice A4 n4 c4), Pr.S a1.Contributions (.slice A5 n5 c5)] [It.B b1 48 [.slice A1 n1 c1, .slice A2 n2 c2], It.B b2 65 [.string a1.Name, .string a1.Left, .slice A3 n3 c3, .bool a1.Literal, .slice A4 n4 c4, .slice A5 n5 c5], It.O 90 s2 v2]) (fun ⟨m1, s2, s3, v2⟩ => m1) ⟨m1, ([] : List Occurrence), 0, (.slice A6 n6 c6)⟩ ⟨rfl, rfl, rfl, rfl, trivial⟩ ⟨hq1, (by decide : I64 0), H.keep 7 3⟩ ?_)
    rintro ⟨m1, s2, s3, v2⟩ σ w4 ⟨hq1, hI1, H⟩
    obtain ⟨A7, n7, c7, rfl⟩ := (H.rO (i := 2) rfl).form3
    obtain ⟨m2, z1, rfl, hb1, hs1, ht1⟩ := iterN_go hq1
    refine CW.seq (CW.seq (CW.reg ?_))
    refine WL.ev rfl rfl (Ev.mv rfl rfl) (WL.ev rfl rfl (Ev.fa rfl fo65_2 rfl) (WL.ev rfl rfl (Ev.ld rfl ag55 rfl ((H.rB (i := 1) rfl).cell rfl)) ?_))
    have hl1 := (H.rS (i := 4) rfl).I
    refine WL.ev rfl rfl (Ev.lenV rfl el55 rfl (H.rS (i := 4) rfl)) (WL.ev rfl rfl (Ev.bin rfl rfl rfl Bin.leq) (WL.nil ?_))
    refine CW.condD rfl (fun h1 => ?_) (fun h1 => ?_)
    · skip
      have hb1 := ifp h1 hb1
      refine CW.skip ?_
      refine CW.seq (CW.block (CW.seq (CW.quietT 4 hmix (by kernel_rfl) ?_)))
      refine QL.ev rfl rfl (fun _ hq => Ev.lda rfl ag48 sz48 rfl (At.blk ((H.ext hq).rB (i := 0) rfl)) rfl) (QL.ev rfl rfl (fun _ hq => Ev.lda rfl ag65 sz65 rfl (At.blk ((H.ext hq).rB (i := 1) rfl)) rfl) (QL.ev rfl rfl (fun _ _ => Ev.mv rfl rfl) ?_))
      obtain ⟨y1, hy1, hb1⟩ := bd hb1
      refine QL.call rfl rfl rfl rfl rfl ok77 rfl (fun _ hq => (sSymbolAt_ok hy1 ⟨_, _, _, rfl, hS1, hS2, ((H.ext hq).rS (i := 4) rfl), ((H.ext hq).rS (i := 5) rfl), ((H.ext hq).rS (i := 6) rfl)⟩ hI1).mono fun _ _ _ h => h.1) ?_
      obtain ⟨_, _, _, hS3⟩ := (sSymbolAt_ok hy1 ⟨_, _, _, rfl, hS1, hS2, (H.rS (i := 4) rfl), (H.rS (i := 5) rfl), (H.rS (i := 6) rfl)⟩ hI1).get
      refine QL.nil (fun w5 hE => ?_)
      have H := H.ext hE
      obtain ⟨y2, hy2, hb1⟩ := bd hb1
      refine WL.call rfl rfl rfl rfl rfl ok21 rfl (sPlainAttributes_ok hy2 ⟨_, _, rfl, (H.rS (i := 2) rfl), (H.rS (i := 3) rfl)⟩ hS3) ?_
      rintro _ w6 hE ⟨A8, n8, c8, rfl, H'⟩
      have H := H.callA H' ⟨fun _ _ _ _ _ h => h, trivial⟩
      refine WL.ev rfl rfl (Ev.as rfl rfl) (WL.nil ?_)
      refine CW.seq (CW.reg ?_)
      refine WL.ev rfl rfl (Ev.as rfl rfl) (WL.nil ?_)
      obtain ⟨q2, hq2, hb1⟩ := bd hb1
      refine CW.block (CW.loop (α := Nat × (List Occurrence) × Value) (fun ⟨k1, s4, v3⟩ => [(2, .pointer (some ⟨b1, 0, none⟩)), (3, .pointer (some ⟨b2, 0, none⟩)), (5, v3), (6, .int .i64 s3), (7, .slice A8 n8 c8), (8, .int .i64 (k1 : Int))]) (fun ⟨k1, s4, v3⟩ w => k1 ≤ y2.length ∧ eachL (sOccurrencesOf_L2 s3) k1 (y2.drop k1) s4 = some q2 ∧ HL F0 [] w0 w [Pr.R a0 [.slice A1 n1 c1, .slice A2 n2 c2], Pr.R a1 [.string a1.Name, .string a1.Left, .slice A3 n3 c3, .bool a1.Literal, .slice A4 n4 c4, .slice A5 n5 c5], Pr.S a0.Symbols (.slice A1 n1 c1), Pr.S a0.Rules (.slice A2 n2 c2), Pr.S a1.Right (.slice A3 n3 c3), Pr.S a1.Equations (.slice A4 n4 c4), Pr.S a1.Contributions (.slice A5 n5 c5)] [It.B b1 48 [.slice A1 n1 c1, .slice A2 n2 c2], It.B b2 65 [.string a1.Name, .string a1.Left, .slice A3 n3 c3, .bool a1.Literal, .slice A4 n4 c4, .slice A5 n5 c5], It.O 90 s4 v3, It.O 105 y2 (.slice A8 n8 c8)]) (fun ⟨k1, s4, v3⟩ => y2.length - k1) ⟨0, s2, (.slice A7 n7 c7)⟩ ⟨rfl, rfl, rfl, rfl, rfl, rfl, trivial⟩ ⟨Nat.zero_le _, hq2, H.keep 7 4⟩ ?_)
      rintro ⟨k1, s4, v3⟩ σ w7 ⟨hk1, hq2, H⟩
      obtain ⟨A9, n9, c9, rfl⟩ := (H.rO (i := 2) rfl).form3
      refine CW.seq (CW.seq (CW.reg ?_))
      refine WL.ev rfl rfl (Ev.mv rfl rfl) (WL.ev rfl rfl (Ev.mv rfl rfl) ?_)
      have hl2 := (H.rO (i := 3) rfl).I
      refine WL.ev rfl rfl (Ev.lenV rfl el43 rfl (H.rO (i := 3) rfl)) (WL.ev rfl rfl (Ev.bin rfl rfl rfl Bin.lss) (WL.nil ?_))
      refine CW.condD rfl (fun h2 => ?_) (fun h2 => ?_)
      · skip
        have hk2 := cast_lt h2
        obtain ⟨x1, z2, hx1, hb2, hq2⟩ := eachL_go hq2 hk2
        refine CW.skip ?_
        refine CW.seq (CW.block (CW.reg ?_))
        refine WL.ev rfl rfl (Ev.mv rfl rfl) (WL.ev rfl rfl (Ev.mv rfl rfl) (WL.ev rfl rfl (Ev.mv rfl rfl) (WL.ev rfl rfl (Ev.mv rfl rfl) ?_)))
        obtain ⟨b3, cb3, hvb3, hbb3⟩ := H.ptO (i := 3) rfl hx1
        refine WL.ev rfl rfl (Ev.ixVN rfl el43 sz105 rfl hvb3 rfl (lt_of hx1)) (WL.ev rfl rfl (Ev.fa rfl fo105_0 rfl) ?_)
        obtain ⟨hA1, hS4, hI2, hI3, H⟩ := elO_Attribute H (i := 3) rfl hx1 hbb3
        refine WL.ev rfl rfl (Ev.ld rfl ag9 rfl (hA1.cell rfl)) (WL.ev rfl rfl (Ev.build rfl pl90 ze90 rfl rfl rfl rfl) ?_)
        refine WL.lit1 rfl rfl rfl el33 sz90 ze90 rfl rfl rfl rfl rfl rfl fun b4 w8 hE hb hB => ?_
        have H := H.newB hE hb hB
        obtain ⟨hg1, hb2⟩ := grd_some hb2
        refine WL.appO (i := 2) (ys := [(⟨s3, x1.Name⟩ : Occurrence)]) rfl rfl rfl el33 sz90 by90 ze90 rfl rfl rfl H rfl (fun _ => ownL.single ⟨rfl, hI1, hS4, rfl⟩) (.inr ⟨_, _, rfl, At.blk (H.rB (i := 4) rfl)⟩) hg1 fun A10 n10 c10 w9 H => ?_
        refine WL.ev rfl rfl (Ev.as rfl rfl) (WL.nil ?_)
        refine CW.reg ?_
        refine WL.ev rfl rfl (Ev.mv rfl rfl) (WL.ev rfl rfl (Ev.bin rfl rfl rfl (Bin.addN (a := k1) (b := 1) rfl (i64_succN hk2 hl2.2))) (WL.ev rfl rfl (Ev.as rfl rfl) (WL.nil ?_)))
        obtain rfl := sm hb2
        exact ⟨⟨k1 + 1, (s4 ++ [(⟨s3, x1.Name⟩ : Occurrence)]), (.slice A10 n10 c10)⟩, ⟨rfl, rfl, rfl, rfl, rfl, rfl, trivial⟩, ⟨hk2, hq2, H.keep 7 4⟩, Nat.sub_lt_sub_left hk2 (Nat.lt_succ_self _)⟩
      · skip
        obtain rfl := eachL_end hq2 (not_cast_lt h2)
        refine CW.exit ?_
        refine CW.reg ?_
        refine WL.ev rfl rfl (Ev.mv rfl rfl) ?_
        obtain ⟨hg2, hb1⟩ := grd_some hb1
        refine WL.ev rfl rfl (Ev.bin rfl rfl rfl (Bin.add hg2)) (WL.ev rfl rfl (Ev.as rfl rfl) (WL.nil ?_))
        obtain rfl := sm hb1
        exact ⟨⟨m2, s4, (s3 + 1), (.slice A9 n9 c9)⟩, ⟨rfl, rfl, rfl, rfl, trivial⟩, ⟨hs1 _ rfl, hg2, H.keep 7 3⟩, Nat.lt_succ_self _⟩
    · skip
      have hb1 := ifn h1 hb1
      refine CW.exit ?_
      obtain rfl := sm hb1
      obtain rfl := ht1 _ rfl
      exact ⟨s2, _, rfl, ⟨rfl, trivial⟩, H.keep 7 3⟩
  · rintro ρ' w10 ⟨s1, v1, rfl, hag, H⟩
    obtain ⟨σ, rfl⟩ := ofL_ex hag
    obtain ⟨A11, n11, c11, rfl⟩ := (H.rO (i := 2) rfl).form3
    refine CW.seq (CW.reg ?_)
    refine WL.ev rfl rfl (Ev.mv rfl rfl) (WL.ev rfl rfl (Ev.as rfl rfl) (WL.nil ?_))
    refine CW.ret ?_
    obtain rfl := sm hr
    exact ⟨_, res1 rfl rfl rfl, H.ext0, _, _, _, rfl, H.outM (fr' := []) [false, false, true] fun _ _ => trivial⟩

noncomputable def iwithin_m (a0 : Int) (a1 : Int) (a2 : Int) : Option Bool :=
  if a1 ≤ a0 then (
  some (decide (a0 ≤ a2))
  ) else (
  some false
  )
theorem iwithin_ok {a0 : Int} {a1 : Int} {a2 : Int} {r : Bool} (hr : iwithin_m a0 a1 a2 = some r) {F0 : Nat → Prop} {w0 : World} (ha0 : I64 a0) (ha1 : I64 a1) (ha2 : I64 a2) :
    Ret Try.prog 116 #[.int .i64 a0, .int .i64 a1, .int .i64 a2] w0 (fun _ => False) fun v w => v = .bool r := by
  have H := HL.start F0 w0
  refine enter Try.func116 rfl rfl rfl ?_
  refine CW.seq (CW.reg ?_)
  refine WL.ev rfl rfl (Ev.as rfl rfl) (WL.nil ?_)
  refine CW.seq (CW.reg ?_)
  refine WL.ev rfl rfl (Ev.mv rfl rfl) (WL.ev rfl rfl (Ev.mv rfl rfl) (WL.ev rfl rfl (Ev.bin rfl rfl rfl Bin.geq) ?_))
  refine WL.mvD rfl rfl rfl rfl (fun h1 => ?_) (fun h1 => ?_)
  · skip
    have hr := ifp h1 hr
    refine WL.on rfl rfl (WL.ev rfl rfl (Ev.mv rfl rfl) (WL.on rfl rfl (WL.ev rfl rfl (Ev.mv rfl rfl) (WL.on rfl rfl (WL.ev rfl rfl (Ev.bin rfl rfl rfl Bin.leq) (WL.ev rfl rfl (Ev.pickT rfl rfl rfl) (WL.ev rfl rfl (Ev.as rfl rfl) (WL.nil ?_))))))))
    refine CW.ret ?_
    obtain rfl := sm hr
    exact ⟨_, res1 rfl rfl rfl, H.ext0, rfl⟩
  · skip
    have hr := ifn h1 hr
    refine WL.off rfl rfl rfl (WL.off rfl rfl rfl (WL.off rfl rfl rfl (WL.ev rfl rfl (Ev.pickF rfl rfl rfl) (WL.ev rfl rfl (Ev.as rfl rfl) (WL.nil ?_)))))
    refine CW.ret ?_
    obtain rfl := sm hr
    exact ⟨_, res1 rfl rfl rfl, H.ext0, rfl⟩

noncomputable def iSymbolAt_m (a0 : Rule) (a1 : Int) : Option ByteArray :=
  if a1 = 0 then (
  some a0.Left
  ) else (
  (iwithin_m a1 1 (a0.Right.length : Int)).bind fun y1 =>
  if y1 = true then (
  grd (I64 (a1 - 1)) <|
  grd (0 ≤ (a1 - 1)) <|
  (a0.Right[(a1 - 1).toNat]?).bind fun x1 =>
  some x1
  ) else (
  some (⟨#[]⟩ : ByteArray)
  )
  )
theorem iSymbolAt_ok {a0 : Rule} {a1 : Int} {r : ByteArray} (hr : iSymbolAt_m a0 a1 = some r) {F0 : Nat → Prop} {w0 : World} {ca0 : List Value} (ha0 : rd F0 w0 a0 ca0) (ha1 : I64 a1) :
    Ret Try.prog 81 #[.agg ca0.toArray, .int .i64 a1] w0 (fun _ => False) fun v w => v = .string r ∧ r.size ≤ 9223372036854775807 := by
  have H := (HL.start F0 w0).argR ha0
  obtain ⟨A1, n1, c1, A2, n2, c2, A3, n3, c3, rfl, hS1, hS2, H⟩ := op_Rule H (i := 0) rfl
  refine enter Try.func81 rfl rfl rfl ?_
  refine CW.seq (CW.reg ?_)
  refine WL.boxH rfl rfl rfl rfl rfl H fun b1 w1 H => ?_
  refine WL.ev rfl rfl (Ev.as rfl rfl) (WL.nil ?_)
  refine CW.seq (CW.block (CW.seq (CW.reg ?_)))
  refine WL.ev rfl rfl (Ev.mv rfl rfl) (WL.ev rfl rfl (Ev.bin rfl rfl rfl Bin.eql) (WL.ev rfl rfl (Ev.as rfl rfl) (WL.nil ?_)))
  refine CW.condD rfl (fun h1 => ?_) (fun h1 => ?_)
  · skip
    have hr := ifp h1 hr
    refine CW.seq (CW.reg ?_)
    refine WL.ev rfl rfl (Ev.fa rfl fo65_1 rfl) (WL.ev rfl rfl (Ev.ld rfl ag9 rfl ((H.rB (i := 0) rfl).cell rfl)) (WL.ev rfl rfl (Ev.as rfl rfl) (WL.nil ?_)))
    refine CW.ret ?_
    obtain rfl := sm hr
    exact ⟨_, res1 rfl rfl rfl, H.ext0, rfl, hS2⟩
  · skip
    have hr := ifn h1 hr
    refine CW.seq (CW.reg ?_)
    refine WL.ev rfl rfl (Ev.mv rfl rfl) (WL.ev rfl rfl (Ev.fa rfl fo65_2 rfl) (WL.ev rfl rfl (Ev.ld rfl ag55 rfl ((H.rB (i := 0) rfl).cell rfl)) ?_))
    have hl1 := (H.rS (i := 1) rfl).I
    refine WL.ev rfl rfl (Ev.lenV rfl el55 rfl (H.rS (i := 1) rfl)) ?_
    obtain ⟨y1, hy1, hr⟩ := bd hr
    refine WL.call rfl rfl rfl rfl rfl ok116 rfl (iwithin_ok hy1 (F0 := fun _ => False) ha1 (by decide : I64 1) hl1) ?_
    rintro _ w2 hE rfl
    have H := H.ext hE
    refine WL.ev rfl rfl (Ev.as rfl rfl) (WL.nil ?_)
    refine CW.condB rfl (fun h2 => ?_) (fun h2 => ?_)
    · skip
      have hr := ifp h2 hr
      refine CW.seq (CW.reg ?_)
      refine WL.ev rfl rfl (Ev.fa rfl fo65_2 rfl) (WL.ev rfl rfl (Ev.ld rfl ag55 rfl ((H.rB (i := 0) rfl).cell rfl)) (WL.ev rfl rfl (Ev.mv rfl rfl) ?_))
      obtain ⟨hg1, hr⟩ := grd_some hr
      refine WL.ev rfl rfl (Ev.bin rfl rfl rfl (Bin.sub hg1)) ?_
      obtain ⟨hg2, hr⟩ := grd_some hr
      obtain ⟨x1, hx1, hr⟩ := bd hr
      obtain ⟨b2, ob2, cb2, hvb2, hS3, H⟩ := ixS_Str H (i := 1) rfl hx1
      refine WL.ev rfl rfl (Ev.ixV rfl el55 sz9 rfl hvb2 rfl hg2 (lt_of hx1)) (WL.ev rfl rfl (Ev.ld rfl ag9 rfl ((H.rA (i := 4) rfl).cell0 rfl)) (WL.ev rfl rfl (Ev.as rfl rfl) (WL.nil ?_)))
      refine CW.ret ?_
      obtain rfl := sm hr
      exact ⟨_, res1 rfl rfl rfl, H.ext0, rfl, hS3⟩
    · skip
      have hr := ifn h2 hr
      refine CW.skip ?_
      refine CW.seq (CW.reg ?_)
      refine WL.ev rfl rfl (Ev.as rfl rfl) (WL.nil ?_)
      refine CW.ret ?_
      obtain rfl := sm hr
      exact ⟨_, res1 rfl rfl rfl, H.ext0, rfl, (by decide)⟩

noncomputable def iOccurrencesOf_L2 (k1 : Nat) : Nat → Attribute → (List Occurrence) → Option (List Occurrence) := fun k2 x1 s2 => 
  grd (((s2.length : Int) + 1) * 24 ≤ 140737488355328 ∧ (s2.length : Int) + 1 ≤ 9223372036854775807) <|
  some (s2 ++ [(⟨(k1 : Int), x1.Name⟩ : Occurrence)])
noncomputable def iOccurrencesOf_L1 (a0 : Grammar) (a1 : Rule) : Nat → (List Occurrence) → Option (List Occurrence) := fun k1 s1 => 
  (iSymbolAt_m a1 (k1 : Int)).bind fun y1 =>
  (iPlainAttributes_m a0 y1).bind fun y2 =>
  (eachL (iOccurrencesOf_L2 k1) 0 y2 s1).bind fun s2 =>
  some s2
noncomputable def iOccurrencesOf_m (a0 : Grammar) (a1 : Rule) : Option (List Occurrence) :=
  grd (I64 ((a1.Right.length + 1 : Nat) : Int)) <|
  (eachN (iOccurrencesOf_L1 a0 a1) 0 ((a1.Right.length + 1)) ([] : List Occurrence)).bind fun s1 =>
  some s1
theorem iOccurrencesOf_ok {a0 : Grammar} {a1 : Rule} {r : (List Occurrence)} (hr : iOccurrencesOf_m a0 a1 = some r) {F0 : Nat → Prop} {w0 : World} {ca0 : List Value} (ha0 : rd F0 w0 a0 ca0) {ca1 : List Value} (ha1 : rd F0 w0 a1 ca1) :
    Ret Try.prog 32 #[.agg ca0.toArray, .agg ca1.toArray] w0 (fun _ => False) fun v w => ∃ A0 : Option Addr, ∃ n0 c0 : Nat, v = (.slice A0 n0 c0) ∧ HL F0 [] w0 w [] [It.O 90 r (.slice A0 n0 c0)] := by
  have H := ((HL.start F0 w0).argR ha0).argR ha1
  obtain ⟨A1, n1, c1, A2, n2, c2, rfl, H⟩ := op_Grammar H (i := 0) rfl
  obtain ⟨A3, n3, c3, A4, n4, c4, A5, n5, c5, rfl, hS1, hS2, H⟩ := op_Rule H (i := 1) rfl
  refine enter Try.func32 rfl rfl rfl ?_
  refine CW.seq (CW.reg ?_)
  refine WL.boxH rfl rfl rfl rfl rfl H fun b1 w1 H => ?_
  refine WL.boxH rfl rfl rfl rfl rfl H fun b2 w2 H => ?_
  refine WL.ev rfl rfl (Ev.as rfl rfl) (WL.nil ?_)
  refine CW.seq (CW.reg ?_)
  refine WL.lit0H (α := Occurrence) rfl rfl rfl el33 sz90 H fun A6 n6 c6 w3 H => ?_
  refine WL.ev rfl rfl (Ev.as rfl rfl) (WL.nil ?_)
  refine CW.seq (CW.seq (CW.reg ?_))
  refine WL.ev rfl rfl (Ev.fa rfl fo65_2 rfl) (WL.ev rfl rfl (Ev.ld rfl ag55 rfl ((H.rB (i := 1) rfl).cell rfl)) ?_)
  have hl1 := (H.rS (i := 4) rfl).I
  refine WL.ev rfl rfl (Ev.lenV rfl el55 rfl (H.rS (i := 4) rfl)) ?_
  obtain ⟨hg1, hr⟩ := grd_some hr
  refine WL.ev rfl rfl (Ev.bin rfl rfl rfl (Bin.addN (a := a1.Right.length) (b := 1) rfl hg1)) (WL.ev rfl rfl (Ev.mv rfl rfl) (WL.nil ?_))
  obtain ⟨q1, hq1, hr⟩ := bd hr
  refine CW.block (CW.loop (α := Nat × (List Occurrence) × Value) (fun ⟨k1, s1, v1⟩ => [(2, .pointer (some ⟨b1, 0, none⟩)), (3, .pointer (some ⟨b2, 0, none⟩)), (5, v1), (13, .int .i64 ((a1.Right.length + 1 : Nat) : Int)), (14, .int .i64 (k1 : Int))]) (fun ⟨k1, s1, v1⟩ w => k1 ≤ (a1.Right.length + 1) ∧ eachN (iOccurrencesOf_L1 a0 a1) k1 ((a1.Right.length + 1) - k1) s1 = some q1 ∧ HL F0 [] w0 w [Pr.R a0 [.slice A1 n1 c1, .slice A2 n2 c2], Pr.R a1 [.string a1.Name, .string a1.Left, .slice A3 n3 c3, .bool a1.Literal, .slice A4 n4 c4, .slice A5 n5 c5], Pr.S a0.Symbols (.slice A1 n1 c1), Pr.S a0.Rules (.slice A2 n2 c2), Pr.S a1.Right (.slice A3 n3 c3), Pr.S a1.Equations (.slice A4 n4 c4), Pr.S a1.Contributions (.slice A5 n5 c5)] [It.B b1 48 [.slice A1 n1 c1, .slice A2 n2 c2], It.B b2 65 [.string a1.Name, .string a1.Left, .slice A3 n3 c3, .bool a1.Literal, .slice A4 n4 c4, .slice A5 n5 c5], It.O 90 s1 v1]) (fun ⟨k1, s1, v1⟩ => (a1.Right.length + 1) - k1) ⟨0, ([] : List Occurrence), (.slice A6 n6 c6)⟩ ⟨rfl, rfl, rfl, rfl, rfl, trivial⟩ ⟨Nat.zero_le _, hq1, H.keep 7 3⟩ ?_)
  rintro ⟨k1, s1, v1⟩ σ w4 ⟨hk1, hq1, H⟩
  obtain ⟨A7, n7, c7, rfl⟩ := (H.rO (i := 2) rfl).form3
  refine CW.seq (CW.reg ?_)
  refine WL.ev rfl rfl (Ev.bin rfl rfl rfl Bin.lss) (WL.nil ?_)
  refine CW.seq (CW.condD rfl (fun h1 => ?_) (fun h1 => ?_))
  · skip
    have hk2 := cast_lt h1
    obtain ⟨z1, hb1, hq1⟩ := eachN_go hq1 hk2
    refine CW.skip ?_
    refine CW.seq (CW.block (CW.seq (CW.reg ?_)))
    refine WL.ev rfl rfl (Ev.mv rfl rfl) (WL.ev rfl rfl (Ev.as rfl rfl) (WL.nil ?_))
    obtain ⟨y1, hy1, hb1⟩ := bd hb1
    obtain ⟨_, _, _, hS3⟩ := (iSymbolAt_ok hy1 ⟨_, _, _, rfl, hS1, hS2, (H.rS (i := 4) rfl), (H.rS (i := 5) rfl), (H.rS (i := 6) rfl)⟩ (i64_nat hk2 hg1)).get
    obtain ⟨y2, hy2, hb1⟩ := bd hb1
    refine CW.seq (CW.any2 7 (fun ρ => [.fix (.agg #[.slice A1 n1 c1, .slice A2 n2 c2]), .fix (.agg #[.string a1.Name, .string a1.Left, .slice A3 n3 c3, .bool a1.Literal, .slice A4 n4 c4, .slice A5 n5 c5]), .fix (.int .i64 (k1 : Int)), .fix (.string y1), .free (fun S v w => ∃ A8 : Option Addr, ∃ n8 : Nat, ∃ c8 : Nat, v = .slice A8 n8 c8 ∧ NewI S w [It.O 105 y2 (.slice A8 n8 c8)]), .fix (.int .i64 (y2.length : Int)), .fix (.int .i64 0)]) [[], [], [], [], [], [], []] NoM (fun _ _ => True) [] [] (noM _) hmix (by kernel_rfl) rfl ⟨trivial, trivial, trivial, trivial, fun _ _ _ _ _ ⟨A8, n8, c8, hv, hh⟩ hc hS hT => ⟨A8, n8, c8, hv, hh.chgT hc hS⟩, trivial, trivial, trivial⟩ trivial (fun _ _ _ _ _ _ _ => trivial) ?_)
    refine LL2.fx rfl rfl rfl rfl rfl (fun _ hq hK => Ev.lda rfl ag48 sz48 rfl (At.blk ((H.ext hq).rB (i := 0) rfl)) rfl) ?_
    refine LL2.fx rfl rfl rfl rfl rfl (fun _ hq hK => Ev.lda rfl ag65 sz65 rfl (At.blk ((H.ext hq).rB (i := 1) rfl)) rfl) ?_
    refine LL2.fx rfl rfl rfl rfl rfl (fun _ hq hK => Ev.mv rfl rfl) ?_
    refine LL2.fixed rfl rfl rfl rfl (fun _ hq hK => OpX.call rfl rfl rfl rfl ok81 rfl (iSymbolAt_ok hy1 ⟨_, _, _, rfl, hS1, hS2, ((H.ext hq).rS (i := 4) rfl), ((H.ext hq).rS (i := 5) rfl), ((H.ext hq).rS (i := 6) rfl)⟩ (i64_nat hk2 hg1)) fun _ _ hE h => ⟨hE, h.1⟩) ?_
    refine LL2.free rfl rfl rfl rfl (fun wq hq hK => ?_) (fun v_G1_4 S_G1_4 => ?_)
    · refine OpX.call rfl rfl rfl rfl ok23 rfl (iPlainAttributes_ok hy2 ⟨_, _, rfl, ((H.ext hq).rS (i := 2) rfl), ((H.ext hq).rS (i := 3) rfl)⟩ hS3) ?_
      rintro _ w hE ⟨A8, n8, c8, rfl, hh⟩
      exact ⟨hE, A8, n8, c8, rfl, NewI.of hh ⟨fun _ _ _ _ _ h => h, trivial⟩⟩
    refine LL2.fx rfl rfl rfl rfl rfl (fun wq hq hK => ?_) ?_
    · obtain ⟨A, m, c, e0, hh⟩ : ∃ A : Option Addr, ∃ m c : Nat, v_G1_4 = .slice A m c ∧ NewI S_G1_4 wq [It.O 105 y2 (.slice A m c)] := hK 4 rfl
      subst e0
      exact Ev.lenV rfl el43 rfl hh.rdO
    refine LL2.fx rfl rfl rfl rfl rfl (fun _ hq hK => Ev.mv rfl rfl) ?_
    intro w5 hE _ hK hap hbd
    have hE := chgNew hE
    obtain ⟨A8, n8, c8, rfl, hN1⟩ := hK 4 (by decide)
    have H := H.add hE hN1 ⟨fun _ _ _ _ _ h => h, trivial⟩ (fun q hq => (hbd 4 q hq).1)
    have hl2 := (H.rO (i := 3) rfl).I
    refine WL.nil ?_
    obtain ⟨q2, hq2, hb1⟩ := bd hb1
    refine CW.block (CW.loop (α := Nat × (List Occurrence) × Value) (fun ⟨k2, s2, v2⟩ => [(2, .pointer (some ⟨b1, 0, none⟩)), (3, .pointer (some ⟨b2, 0, none⟩)), (5, v2), (6, .int .i64 (k1 : Int)), (13, .int .i64 ((a1.Right.length + 1 : Nat) : Int)), (14, .int .i64 (k1 : Int)), (21, .slice A8 n8 c8), (22, .int .i64 (y2.length : Int)), (23, .int .i64 (k2 : Int))]) (fun ⟨k2, s2, v2⟩ w => k2 ≤ y2.length ∧ eachL (iOccurrencesOf_L2 k1) k2 (y2.drop k2) s2 = some q2 ∧ HL F0 [] w0 w [Pr.R a0 [.slice A1 n1 c1, .slice A2 n2 c2], Pr.R a1 [.string a1.Name, .string a1.Left, .slice A3 n3 c3, .bool a1.Literal, .slice A4 n4 c4, .slice A5 n5 c5], Pr.S a0.Symbols (.slice A1 n1 c1), Pr.S a0.Rules (.slice A2 n2 c2), Pr.S a1.Right (.slice A3 n3 c3), Pr.S a1.Equations (.slice A4 n4 c4), Pr.S a1.Contributions (.slice A5 n5 c5)] [It.B b1 48 [.slice A1 n1 c1, .slice A2 n2 c2], It.B b2 65 [.string a1.Name, .string a1.Left, .slice A3 n3 c3, .bool a1.Literal, .slice A4 n4 c4, .slice A5 n5 c5], It.O 90 s2 v2, It.O 105 y2 (.slice A8 n8 c8)]) (fun ⟨k2, s2, v2⟩ => y2.length - k2) ⟨0, s1, (.slice A7 n7 c7)⟩ ⟨rfl, rfl, rfl, rfl, rfl, rfl, rfl, rfl, rfl, trivial⟩ ⟨Nat.zero_le _, hq2, H.keep 7 4⟩ ?_)
    rintro ⟨k2, s2, v2⟩ σ w6 ⟨hk3, hq2, H⟩
    obtain ⟨A9, n9, c9, rfl⟩ := (H.rO (i := 2) rfl).form3
    refine CW.seq (CW.reg ?_)
    refine WL.ev rfl rfl (Ev.bin rfl rfl rfl Bin.lss) (WL.nil ?_)
    refine CW.seq (CW.condD rfl (fun h2 => ?_) (fun h2 => ?_))
    · skip
      have hk4 := cast_lt h2
      obtain ⟨x1, z2, hx1, hb2, hq2⟩ := eachL_go hq2 hk4
      refine CW.skip ?_
      refine CW.seq (CW.block (CW.seq (CW.reg ?_)))
      obtain ⟨b3, cb3, hvb3, hbb3⟩ := H.ptO (i := 3) rfl hx1
      refine WL.ev rfl rfl (Ev.ixVN rfl el43 sz105 rfl hvb3 rfl (lt_of hx1)) ?_
      obtain ⟨hA1, hS4, hI1, hI2, H⟩ := elO_Attribute H (i := 3) rfl hx1 hbb3
      refine WL.ev rfl rfl (Ev.lda rfl ag105 sz105 rfl hA1 rfl) ?_
      refine WL.allocH rfl rfl rfl ze105 H fun b4 w7 H => ?_
      refine WL.stB (i := 4) rfl rfl rfl sz105 rfl rfl rfl rfl (all1 rfl (all1 rfl (all1 rfl (all1 rfl all0)))) H rfl rfl rfl fun w8 H => ?_
      refine WL.nil ?_
      refine CW.reg ?_
      refine WL.ev rfl rfl (Ev.mv rfl rfl) (WL.ev rfl rfl (Ev.mv rfl rfl) (WL.ev rfl rfl (Ev.fa rfl fo105_0 rfl) (WL.ev rfl rfl (Ev.ld rfl ag9 rfl ((H.rB (i := 4) rfl).cell rfl)) (WL.ev rfl rfl (Ev.build rfl pl90 ze90 rfl rfl rfl rfl) ?_))))
      refine WL.lit1 rfl rfl rfl el33 sz90 ze90 rfl rfl rfl rfl rfl rfl fun b5 w9 hE hb hB => ?_
      have H := H.newB hE hb hB
      obtain ⟨hg2, hb2⟩ := grd_some hb2
      refine WL.appO (i := 2) (ys := [(⟨(k1 : Int), x1.Name⟩ : Occurrence)]) rfl rfl rfl el33 sz90 by90 ze90 rfl rfl rfl H rfl (fun _ => ownL.single ⟨rfl, (i64_nat hk2 hg1), hS4, rfl⟩) (.inr ⟨_, _, rfl, At.blk (H.rB (i := 5) rfl)⟩) hg2 fun A10 n10 c10 w10 H => ?_
      refine WL.ev rfl rfl (Ev.as rfl rfl) (WL.nil ?_)
      refine CW.reg ?_
      refine WL.ev rfl rfl (Ev.bin rfl rfl rfl (Bin.addN (a := k2) (b := 1) rfl (i64_succN hk4 hl2.2))) (WL.ev rfl rfl (Ev.mv rfl rfl) (WL.nil ?_))
      obtain rfl := sm hb2
      exact ⟨⟨k2 + 1, (s2 ++ [(⟨(k1 : Int), x1.Name⟩ : Occurrence)]), (.slice A10 n10 c10)⟩, ⟨rfl, rfl, rfl, rfl, rfl, rfl, rfl, rfl, rfl, trivial⟩, ⟨hk4, hq2, H.keep 7 4⟩, Nat.sub_lt_sub_left hk4 (Nat.lt_succ_self _)⟩
    · skip
      obtain rfl := eachL_end hq2 (not_cast_lt h2)
      refine CW.exit ?_
      refine CW.reg ?_
      refine WL.ev rfl rfl (Ev.bin rfl rfl rfl (Bin.addN (a := k1) (b := 1) rfl (i64_succN hk2 hg1.2))) (WL.ev rfl rfl (Ev.mv rfl rfl) (WL.nil ?_))
      obtain rfl := sm hb1
      exact ⟨⟨k1 + 1, s2, (.slice A9 n9 c9)⟩, ⟨rfl, rfl, rfl, rfl, rfl, trivial⟩, ⟨hk2, hq1, H.keep 7 3⟩, Nat.sub_lt_sub_left hk2 (Nat.lt_succ_self _)⟩
  · skip
    obtain rfl := eachN_end hq1 (not_cast_lt h1)
    refine CW.exit ?_
    refine CW.seq (CW.reg ?_)
    refine WL.ev rfl rfl (Ev.mv rfl rfl) (WL.ev rfl rfl (Ev.as rfl rfl) (WL.nil ?_))
    refine CW.ret ?_
    obtain rfl := sm hr
    exact ⟨_, res1 rfl rfl rfl, H.ext0, _, _, _, rfl, H.outM (fr' := []) [false, false, true] fun _ _ => trivial⟩

noncomputable def sPositionIndices_L1 (a2 : Int) : Nat → Occurrence → (List Int) → Option (List Int) := fun k1 x1 s1 => 
  (
  if x1.Pos = a2 then (
  grd (((s1.length : Int) + 1) * 8 ≤ 140737488355328 ∧ (s1.length : Int) + 1 ≤ 9223372036854775807) <|
  some (s1 ++ [(k1 : Int)])
  ) else (
  some s1
  )
  ).bind fun s2 =>
  some s2
noncomputable def sPositionIndices_m (a0 : Grammar) (a1 : Rule) (a2 : Int) : Option (List Int) :=
  (sOccurrencesOf_m a0 a1).bind fun y1 =>
  (eachL (sPositionIndices_L1 a2) 0 y1 ([] : List Int)).bind fun s1 =>
  some s1
theorem sPositionIndices_ok {a0 : Grammar} {a1 : Rule} {a2 : Int} {r : (List Int)} (hr : sPositionIndices_m a0 a1 a2 = some r) {F0 : Nat → Prop} {w0 : World} {ca0 : List Value} (ha0 : rd F0 w0 a0 ca0) {ca1 : List Value} (ha1 : rd F0 w0 a1 ca1) (ha2 : I64 a2) :
    Ret Try.prog 37 #[.agg ca0.toArray, .agg ca1.toArray, .int .i64 a2] w0 (fun _ => False) fun v w => ∃ A0 : Option Addr, ∃ n0 c0 : Nat, v = (.slice A0 n0 c0) ∧ HL F0 [] w0 w [] [It.O 3 r (.slice A0 n0 c0)] := by
  have H := ((HL.start F0 w0).argR ha0).argR ha1
  obtain ⟨A1, n1, c1, A2, n2, c2, rfl, H⟩ := op_Grammar H (i := 0) rfl
  obtain ⟨A3, n3, c3, A4, n4, c4, A5, n5, c5, rfl, hS1, hS2, H⟩ := op_Rule H (i := 1) rfl
  refine enter Try.func37 rfl rfl rfl ?_
  refine CW.seq (CW.reg ?_)
  refine WL.boxH rfl rfl rfl rfl rfl H fun b1 w1 H => ?_
  refine WL.boxH rfl rfl rfl rfl rfl H fun b2 w2 H => ?_
  refine WL.ev rfl rfl (Ev.as rfl rfl) (WL.nil ?_)
  refine CW.seq (CW.reg ?_)
  refine WL.lit0H (α := Int) rfl rfl rfl el71 sz3 H fun A6 n6 c6 w3 H => ?_
  refine WL.ev rfl rfl (Ev.as rfl rfl) (WL.nil ?_)
  refine CW.seq (CW.reg ?_)
  refine WL.ev rfl rfl (Ev.lda rfl ag48 sz48 rfl (At.blk (H.rB (i := 0) rfl)) rfl) (WL.ev rfl rfl (Ev.lda rfl ag65 sz65 rfl (At.blk (H.rB (i := 1) rfl)) rfl) ?_)
  obtain ⟨y1, hy1, hr⟩ := bd hr
  refine WL.call rfl rfl rfl rfl rfl ok30 rfl (sOccurrencesOf_ok hy1 ⟨_, _, rfl, (H.rS (i := 2) rfl), (H.rS (i := 3) rfl)⟩ ⟨_, _, _, rfl, hS1, hS2, (H.rS (i := 4) rfl), (H.rS (i := 5) rfl), (H.rS (i := 6) rfl)⟩) ?_
  rintro _ w4 hE ⟨A7, n7, c7, rfl, H'⟩
  have H := H.callA H' ⟨fun _ _ _ _ _ h => h, trivial⟩
  refine WL.ev rfl rfl (Ev.as rfl rfl) (WL.nil ?_)
  refine CW.seq (CW.seq (CW.reg ?_))
  refine WL.ev rfl rfl (Ev.as rfl rfl) (WL.nil ?_)
  obtain ⟨q1, hq1, hr⟩ := bd hr
  refine CW.block (CW.loop (α := Nat × (List Int) × Value) (fun ⟨k1, s1, v1⟩ => [(2, .int .i64 a2), (7, v1), (8, .slice A7 n7 c7), (9, .int .i64 (k1 : Int))]) (fun ⟨k1, s1, v1⟩ w => k1 ≤ y1.length ∧ eachL (sPositionIndices_L1 a2) k1 (y1.drop k1) s1 = some q1 ∧ HL F0 [] w0 w [Pr.R a0 [.slice A1 n1 c1, .slice A2 n2 c2], Pr.R a1 [.string a1.Name, .string a1.Left, .slice A3 n3 c3, .bool a1.Literal, .slice A4 n4 c4, .slice A5 n5 c5], Pr.S a0.Symbols (.slice A1 n1 c1), Pr.S a0.Rules (.slice A2 n2 c2), Pr.S a1.Right (.slice A3 n3 c3), Pr.S a1.Equations (.slice A4 n4 c4), Pr.S a1.Contributions (.slice A5 n5 c5)] [It.B b1 48 [.slice A1 n1 c1, .slice A2 n2 c2], It.B b2 65 [.string a1.Name, .string a1.Left, .slice A3 n3 c3, .bool a1.Literal, .slice A4 n4 c4, .slice A5 n5 c5], It.O 3 s1 v1, It.O 90 y1 (.slice A7 n7 c7)]) (fun ⟨k1, s1, v1⟩ => y1.length - k1) ⟨0, ([] : List Int), (.slice A6 n6 c6)⟩ ⟨rfl, rfl, rfl, rfl, trivial⟩ ⟨Nat.zero_le _, hq1, H.keep 7 4⟩ ?_)
  rintro ⟨k1, s1, v1⟩ σ w5 ⟨hk1, hq1, H⟩
  obtain ⟨A8, n8, c8, rfl⟩ := (H.rO (i := 2) rfl).form3
  refine CW.seq (CW.seq (CW.reg ?_))
  refine WL.ev rfl rfl (Ev.mv rfl rfl) (WL.ev rfl rfl (Ev.mv rfl rfl) ?_)
  have hl1 := (H.rO (i := 3) rfl).I
  refine WL.ev rfl rfl (Ev.lenV rfl el33 rfl (H.rO (i := 3) rfl)) (WL.ev rfl rfl (Ev.bin rfl rfl rfl Bin.lss) (WL.nil ?_))
  refine CW.condD rfl (fun h1 => ?_) (fun h1 => ?_)
  · skip
    have hk2 := cast_lt h1
    obtain ⟨x1, z1, hx1, hb1, hq1⟩ := eachL_go hq1 hk2
    refine CW.skip ?_
    obtain ⟨q2, hm1, hb1⟩ := bd hb1
    refine CW.seq (CW.mid (fun ρ' w => ∃ (s2 : List Int) (v2 : Value), s2 = q2 ∧ agree ρ' [(2, .int .i64 a2), (7, v2), (8, .slice A7 n7 c7), (9, .int .i64 (k1 : Int))] ∧ HL F0 [] w0 w [Pr.R a0 [.slice A1 n1 c1, .slice A2 n2 c2], Pr.R a1 [.string a1.Name, .string a1.Left, .slice A3 n3 c3, .bool a1.Literal, .slice A4 n4 c4, .slice A5 n5 c5], Pr.S a0.Symbols (.slice A1 n1 c1), Pr.S a0.Rules (.slice A2 n2 c2), Pr.S a1.Right (.slice A3 n3 c3), Pr.S a1.Equations (.slice A4 n4 c4), Pr.S a1.Contributions (.slice A5 n5 c5)] [It.B b1 48 [.slice A1 n1 c1, .slice A2 n2 c2], It.B b2 65 [.string a1.Name, .string a1.Left, .slice A3 n3 c3, .bool a1.Literal, .slice A4 n4 c4, .slice A5 n5 c5], It.O 3 s2 v2, It.O 90 y1 (.slice A7 n7 c7)]) ?_ ?_)
    · skip
      refine CW.block (CW.seq (CW.reg ?_))
      refine WL.ev rfl rfl (Ev.mv rfl rfl) (WL.ev rfl rfl (Ev.mv rfl rfl) ?_)
      obtain ⟨b3, cb3, hvb3, hbb3⟩ := H.ptO (i := 3) rfl hx1
      refine WL.ev rfl rfl (Ev.ixVN rfl el33 sz90 rfl hvb3 rfl (lt_of hx1)) (WL.ev rfl rfl (Ev.fa rfl fo90_0 rfl) ?_)
      obtain ⟨hA1, hI1, hS3, H⟩ := elO_Occurrence H (i := 3) rfl hx1 hbb3
      refine WL.ev rfl rfl (Ev.ld rfl ag3 rfl (hA1.cell rfl)) (WL.ev rfl rfl (Ev.mv rfl rfl) (WL.ev rfl rfl (Ev.bin rfl rfl rfl Bin.eql) (WL.nil ?_)))
      refine CW.condD rfl (fun h2 => ?_) (fun h2 => ?_)
      · skip
        have hm1 := ifp h2 hm1
        refine CW.reg ?_
        refine WL.ev rfl rfl (Ev.mv rfl rfl) (WL.ev rfl rfl (Ev.mv rfl rfl) ?_)
        refine WL.lit1 rfl rfl rfl el71 sz3 ze3 rfl rfl rfl rfl rfl rfl fun b4 w6 hE hb hB => ?_
        have H := H.newB hE hb hB
        obtain ⟨hg1, hm1⟩ := grd_some hm1
        refine WL.appO (i := 2) (ys := [(k1 : Int)]) rfl rfl rfl el71 sz3 by3 ze3 rfl rfl rfl H rfl (fun _ => ownL.single ⟨rfl, rfl, (i64_nat hk2 hl1)⟩) (.inr ⟨_, _, rfl, At.blk (H.rB (i := 4) rfl)⟩) hg1 fun A9 n9 c9 w7 H => ?_
        refine WL.ev rfl rfl (Ev.as rfl rfl) (WL.nil ?_)
        obtain rfl := sm hm1
        exact ⟨(s1 ++ [(k1 : Int)]), _, rfl, ⟨rfl, rfl, rfl, rfl, trivial⟩, H.keep 7 4⟩
      · skip
        have hm1 := ifn h2 hm1
        refine CW.skip ?_
        obtain rfl := sm hm1
        exact ⟨s1, _, rfl, ⟨rfl, rfl, rfl, rfl, trivial⟩, H.keep 7 4⟩
    · rintro ρ' w8 ⟨s2, v2, rfl, hag, H⟩
      obtain ⟨σ, rfl⟩ := ofL_ex hag
      obtain ⟨A10, n10, c10, rfl⟩ := (H.rO (i := 2) rfl).form3
      refine CW.reg ?_
      refine WL.ev rfl rfl (Ev.mv rfl rfl) (WL.ev rfl rfl (Ev.bin rfl rfl rfl (Bin.addN (a := k1) (b := 1) rfl (i64_succN hk2 hl1.2))) (WL.ev rfl rfl (Ev.as rfl rfl) (WL.nil ?_)))
      obtain rfl := sm hb1
      exact ⟨⟨k1 + 1, s2, (.slice A10 n10 c10)⟩, ⟨rfl, rfl, rfl, rfl, trivial⟩, ⟨hk2, hq1, H.keep 7 4⟩, Nat.sub_lt_sub_left hk2 (Nat.lt_succ_self _)⟩
  · skip
    obtain rfl := eachL_end hq1 (not_cast_lt h1)
    refine CW.exit ?_
    refine CW.seq (CW.reg ?_)
    refine WL.ev rfl rfl (Ev.mv rfl rfl) (WL.ev rfl rfl (Ev.as rfl rfl) (WL.nil ?_))
    refine CW.ret ?_
    obtain rfl := sm hr
    exact ⟨_, res1 rfl rfl rfl, H.ext0, _, _, _, rfl, H.outM (fr' := []) [false, false, true, false] fun _ _ => trivial⟩

noncomputable def iPositionIndices_L1 (a2 : Int) : Nat → Occurrence → (List Int) → Option (List Int) := fun k1 x1 s1 => 
  (
  if x1.Pos = a2 then (
  grd (((s1.length : Int) + 1) * 8 ≤ 140737488355328 ∧ (s1.length : Int) + 1 ≤ 9223372036854775807) <|
  some (s1 ++ [(k1 : Int)])
  ) else (
  some s1
  )
  ).bind fun s2 =>
  some s2
noncomputable def iPositionIndices_m (a0 : Grammar) (a1 : Rule) (a2 : Int) : Option (List Int) :=
  (iOccurrencesOf_m a0 a1).bind fun y1 =>
  (eachL (iPositionIndices_L1 a2) 0 y1 ([] : List Int)).bind fun s1 =>
  some s1
theorem iPositionIndices_ok {a0 : Grammar} {a1 : Rule} {a2 : Int} {r : (List Int)} (hr : iPositionIndices_m a0 a1 a2 = some r) {F0 : Nat → Prop} {w0 : World} {ca0 : List Value} (ha0 : rd F0 w0 a0 ca0) {ca1 : List Value} (ha1 : rd F0 w0 a1 ca1) (ha2 : I64 a2) :
    Ret Try.prog 38 #[.agg ca0.toArray, .agg ca1.toArray, .int .i64 a2] w0 (fun _ => False) fun v w => ∃ A0 : Option Addr, ∃ n0 c0 : Nat, v = (.slice A0 n0 c0) ∧ HL F0 [] w0 w [] [It.O 3 r (.slice A0 n0 c0)] := by
  have H := ((HL.start F0 w0).argR ha0).argR ha1
  obtain ⟨A1, n1, c1, A2, n2, c2, rfl, H⟩ := op_Grammar H (i := 0) rfl
  obtain ⟨A3, n3, c3, A4, n4, c4, A5, n5, c5, rfl, hS1, hS2, H⟩ := op_Rule H (i := 1) rfl
  refine enter Try.func38 rfl rfl rfl ?_
  refine CW.seq (CW.reg ?_)
  refine WL.boxH rfl rfl rfl rfl rfl H fun b1 w1 H => ?_
  refine WL.boxH rfl rfl rfl rfl rfl H fun b2 w2 H => ?_
  refine WL.ev rfl rfl (Ev.as rfl rfl) (WL.nil ?_)
  refine CW.seq (CW.reg ?_)
  refine WL.lit0H (α := Int) rfl rfl rfl el71 sz3 H fun A6 n6 c6 w3 H => ?_
  refine WL.ev rfl rfl (Ev.as rfl rfl) (WL.nil ?_)
  refine CW.seq (CW.seq (CW.reg ?_))
  refine WL.ev rfl rfl (Ev.lda rfl ag48 sz48 rfl (At.blk (H.rB (i := 0) rfl)) rfl) (WL.ev rfl rfl (Ev.lda rfl ag65 sz65 rfl (At.blk (H.rB (i := 1) rfl)) rfl) ?_)
  obtain ⟨y1, hy1, hr⟩ := bd hr
  refine WL.call rfl rfl rfl rfl rfl ok32 rfl (iOccurrencesOf_ok hy1 ⟨_, _, rfl, (H.rS (i := 2) rfl), (H.rS (i := 3) rfl)⟩ ⟨_, _, _, rfl, hS1, hS2, (H.rS (i := 4) rfl), (H.rS (i := 5) rfl), (H.rS (i := 6) rfl)⟩) ?_
  rintro _ w4 hE ⟨A7, n7, c7, rfl, H'⟩
  have H := H.callA H' ⟨fun _ _ _ _ _ h => h, trivial⟩
  have hl1 := (H.rO (i := 3) rfl).I
  refine WL.ev rfl rfl (Ev.lenV rfl el33 rfl (H.rO (i := 3) rfl)) (WL.ev rfl rfl (Ev.mv rfl rfl) (WL.nil ?_))
  obtain ⟨q1, hq1, hr⟩ := bd hr
  refine CW.block (CW.loop (α := Nat × (List Int) × Value) (fun ⟨k1, s1, v1⟩ => [(2, .int .i64 a2), (7, v1), (13, .slice A7 n7 c7), (14, .int .i64 (y1.length : Int)), (15, .int .i64 (k1 : Int))]) (fun ⟨k1, s1, v1⟩ w => k1 ≤ y1.length ∧ eachL (iPositionIndices_L1 a2) k1 (y1.drop k1) s1 = some q1 ∧ HL F0 [] w0 w [Pr.R a0 [.slice A1 n1 c1, .slice A2 n2 c2], Pr.R a1 [.string a1.Name, .string a1.Left, .slice A3 n3 c3, .bool a1.Literal, .slice A4 n4 c4, .slice A5 n5 c5], Pr.S a0.Symbols (.slice A1 n1 c1), Pr.S a0.Rules (.slice A2 n2 c2), Pr.S a1.Right (.slice A3 n3 c3), Pr.S a1.Equations (.slice A4 n4 c4), Pr.S a1.Contributions (.slice A5 n5 c5)] [It.B b1 48 [.slice A1 n1 c1, .slice A2 n2 c2], It.B b2 65 [.string a1.Name, .string a1.Left, .slice A3 n3 c3, .bool a1.Literal, .slice A4 n4 c4, .slice A5 n5 c5], It.O 3 s1 v1, It.O 90 y1 (.slice A7 n7 c7)]) (fun ⟨k1, s1, v1⟩ => y1.length - k1) ⟨0, ([] : List Int), (.slice A6 n6 c6)⟩ ⟨rfl, rfl, rfl, rfl, rfl, trivial⟩ ⟨Nat.zero_le _, hq1, H.keep 7 4⟩ ?_)
  rintro ⟨k1, s1, v1⟩ σ w5 ⟨hk1, hq1, H⟩
  obtain ⟨A8, n8, c8, rfl⟩ := (H.rO (i := 2) rfl).form3
  refine CW.seq (CW.reg ?_)
  refine WL.ev rfl rfl (Ev.bin rfl rfl rfl Bin.lss) (WL.nil ?_)
  refine CW.seq (CW.condD rfl (fun h1 => ?_) (fun h1 => ?_))
  · skip
    have hk2 := cast_lt h1
    obtain ⟨x1, z1, hx1, hb1, hq1⟩ := eachL_go hq1 hk2
    refine CW.skip ?_
    obtain ⟨q2, hm1, hb1⟩ := bd hb1
    refine CW.seq (CW.mid (fun ρ' w => ∃ (s2 : List Int) (v2 : Value), s2 = q2 ∧ agree ρ' [(2, .int .i64 a2), (7, v2), (13, .slice A7 n7 c7), (14, .int .i64 (y1.length : Int)), (15, .int .i64 (k1 : Int))] ∧ HL F0 [] w0 w [Pr.R a0 [.slice A1 n1 c1, .slice A2 n2 c2], Pr.R a1 [.string a1.Name, .string a1.Left, .slice A3 n3 c3, .bool a1.Literal, .slice A4 n4 c4, .slice A5 n5 c5], Pr.S a0.Symbols (.slice A1 n1 c1), Pr.S a0.Rules (.slice A2 n2 c2), Pr.S a1.Right (.slice A3 n3 c3), Pr.S a1.Equations (.slice A4 n4 c4), Pr.S a1.Contributions (.slice A5 n5 c5)] [It.B b1 48 [.slice A1 n1 c1, .slice A2 n2 c2], It.B b2 65 [.string a1.Name, .string a1.Left, .slice A3 n3 c3, .bool a1.Literal, .slice A4 n4 c4, .slice A5 n5 c5], It.O 3 s2 v2, It.O 90 y1 (.slice A7 n7 c7)]) ?_ ?_)
    · skip
      refine CW.block (CW.seq (CW.reg ?_))
      refine WL.ev rfl rfl (Ev.mv rfl rfl) ?_
      obtain ⟨b3, cb3, hvb3, hbb3⟩ := H.ptO (i := 3) rfl hx1
      refine WL.ev rfl rfl (Ev.ixVN rfl el33 sz90 rfl hvb3 rfl (lt_of hx1)) ?_
      obtain ⟨hA1, hI1, hS3, H⟩ := elO_Occurrence H (i := 3) rfl hx1 hbb3
      refine WL.ev rfl rfl (Ev.lda rfl ag90 sz90 rfl hA1 rfl) ?_
      refine WL.allocH rfl rfl rfl ze90 H fun b4 w6 H => ?_
      refine WL.ev rfl rfl (Ev.as rfl rfl) ?_
      refine WL.stB (i := 4) rfl rfl rfl sz90 rfl rfl rfl rfl (all1 rfl (all1 rfl all0)) H rfl rfl rfl fun w7 H => ?_
      refine WL.nil ?_
      refine CW.seq (CW.reg ?_)
      refine WL.ev rfl rfl (Ev.fa rfl fo90_0 rfl) (WL.ev rfl rfl (Ev.ld rfl ag3 rfl ((H.rB (i := 4) rfl).cell rfl)) (WL.ev rfl rfl (Ev.mv rfl rfl) (WL.ev rfl rfl (Ev.bin rfl rfl rfl Bin.eql) (WL.nil ?_))))
      refine CW.condD rfl (fun h2 => ?_) (fun h2 => ?_)
      · skip
        have hm1 := ifp h2 hm1
        refine CW.reg ?_
        refine WL.ev rfl rfl (Ev.mv rfl rfl) (WL.ev rfl rfl (Ev.mv rfl rfl) ?_)
        refine WL.lit1 rfl rfl rfl el71 sz3 ze3 rfl rfl rfl rfl rfl rfl fun b5 w8 hE hb hB => ?_
        have H := H.newB hE hb hB
        obtain ⟨hg1, hm1⟩ := grd_some hm1
        refine WL.appO (i := 2) (ys := [(k1 : Int)]) rfl rfl rfl el71 sz3 by3 ze3 rfl rfl rfl H rfl (fun _ => ownL.single ⟨rfl, rfl, (i64_nat hk2 hl1)⟩) (.inr ⟨_, _, rfl, At.blk (H.rB (i := 5) rfl)⟩) hg1 fun A9 n9 c9 w9 H => ?_
        refine WL.ev rfl rfl (Ev.as rfl rfl) (WL.nil ?_)
        obtain rfl := sm hm1
        exact ⟨(s1 ++ [(k1 : Int)]), _, rfl, ⟨rfl, rfl, rfl, rfl, rfl, trivial⟩, H.keep 7 4⟩
      · skip
        have hm1 := ifn h2 hm1
        refine CW.skip ?_
        obtain rfl := sm hm1
        exact ⟨s1, _, rfl, ⟨rfl, rfl, rfl, rfl, rfl, trivial⟩, H.keep 7 4⟩
    · rintro ρ' w10 ⟨s2, v2, rfl, hag, H⟩
      obtain ⟨σ, rfl⟩ := ofL_ex hag
      obtain ⟨A10, n10, c10, rfl⟩ := (H.rO (i := 2) rfl).form3
      refine CW.reg ?_
      refine WL.ev rfl rfl (Ev.bin rfl rfl rfl (Bin.addN (a := k1) (b := 1) rfl (i64_succN hk2 hl1.2))) (WL.ev rfl rfl (Ev.mv rfl rfl) (WL.nil ?_))
      obtain rfl := sm hb1
      exact ⟨⟨k1 + 1, s2, (.slice A10 n10 c10)⟩, ⟨rfl, rfl, rfl, rfl, rfl, trivial⟩, ⟨hk2, hq1, H.keep 7 4⟩, Nat.sub_lt_sub_left hk2 (Nat.lt_succ_self _)⟩
  · skip
    obtain rfl := eachL_end hq1 (not_cast_lt h1)
    refine CW.exit ?_
    refine CW.seq (CW.reg ?_)
    refine WL.ev rfl rfl (Ev.mv rfl rfl) (WL.ev rfl rfl (Ev.as rfl rfl) (WL.nil ?_))
    refine CW.ret ?_
    obtain rfl := sm hr
    exact ⟨_, res1 rfl rfl rfl, H.ext0, _, _, _, rfl, H.outM (fr' := []) [false, false, true, false] fun _ _ => trivial⟩

noncomputable def sFindAttribute_L1 (a1 : ByteArray) : Nat → Attribute → Unit → Option (Unit ⊕ (Attribute × Bool)) := fun k1 x1 _ => 
  if x1.Name = a1 then (
  some (.inr (x1, true))
  ) else (
  some (.inl ())
  )
noncomputable def sFindAttribute_m (a0 : Symbol) (a1 : ByteArray) : Option (Attribute × Bool) :=
  (findL (sFindAttribute_L1 a1) 0 a0.Attributes ()).bind <| onr (fun r1 => some r1) fun _ =>
  some ((⟨(⟨#[]⟩ : ByteArray), 0, 0, false⟩ : Attribute), false)
theorem sFindAttribute_ok {a0 : Symbol} {a1 : ByteArray} {r : (Attribute × Bool)} (hr : sFindAttribute_m a0 a1 = some r) {F0 : Nat → Prop} {w0 : World} {ca0 : List Value} (ha0 : rd F0 w0 a0 ca0) (ha1 : a1.size ≤ 9223372036854775807) :
    Ret Try.prog 88 #[.agg ca0.toArray, .string a1] w0 (fun _ => False) fun v w => v = .tuple #[.agg #[.string r.1.Name, .int .i64 r.1.Type_, .int .i64 r.1.Mode, .bool r.1.Circular], .bool r.2] ∧ r.1.Name.size ≤ 9223372036854775807 ∧ I64 r.1.Type_ ∧ I64 r.1.Mode := by
  have H := (HL.start F0 w0).argR ha0
  obtain ⟨A1, n1, c1, rfl, hS1, H⟩ := op_Symbol H (i := 0) rfl
  refine enter Try.func88 rfl rfl rfl ?_
  refine CW.seq (CW.reg ?_)
  refine WL.boxH rfl rfl rfl rfl rfl H fun b1 w1 H => ?_
  refine WL.allocH rfl rfl rfl ze105 H fun b2 w2 H => ?_
  refine WL.ev rfl rfl (Ev.as rfl rfl) (WL.nil ?_)
  refine CW.seq (CW.seq (CW.reg ?_))
  refine WL.ev rfl rfl (Ev.as rfl rfl) (WL.nil ?_)
  obtain ⟨q1, hq1, hr⟩ := bd hr
  refine CW.block (CW.loop (α := Nat) (fun k1 => [(1, .string a1), (2, .pointer (some ⟨b1, 0, none⟩)), (4, .pointer (some ⟨b2, 0, none⟩)), (6, .int .i64 (k1 : Int))]) (fun k1 w => k1 ≤ a0.Attributes.length ∧ findL (sFindAttribute_L1 a1) k1 (a0.Attributes.drop k1) () = some q1 ∧ HL F0 [] w0 w [Pr.R a0 [.string a0.Name, .slice A1 n1 c1], Pr.S a0.Attributes (.slice A1 n1 c1)] [It.B b1 101 [.string a0.Name, .slice A1 n1 c1], It.B b2 105 [.string (⟨#[]⟩ : ByteArray), .int .i64 0, .int .i64 0, .bool false]]) (fun k1 => a0.Attributes.length - k1) 0 ⟨rfl, rfl, rfl, rfl, trivial⟩ ⟨Nat.zero_le _, hq1, H.keep 2 2⟩ ?_)
  rintro k1 σ w3 ⟨hk1, hq1, H⟩
  refine CW.seq (CW.seq (CW.reg ?_))
  refine WL.ev rfl rfl (Ev.mv rfl rfl) (WL.ev rfl rfl (Ev.fa rfl fo101_1 rfl) (WL.ev rfl rfl (Ev.ld rfl ag43 rfl ((H.rB (i := 0) rfl).cell rfl)) ?_))
  have hl1 := (H.rS (i := 1) rfl).I
  refine WL.ev rfl rfl (Ev.lenV rfl el43 rfl (H.rS (i := 1) rfl)) (WL.ev rfl rfl (Ev.bin rfl rfl rfl Bin.lss) (WL.nil ?_))
  refine CW.condD rfl (fun h1 => ?_) (fun h1 => ?_)
  · skip
    have hk2 := cast_lt h1
    obtain ⟨x1, z1, hx1, hb1, hs1, ht1⟩ := findL_go hq1 hk2
    refine CW.skip ?_
    refine CW.seq (CW.block (CW.seq (CW.reg ?_)))
    refine WL.ev rfl rfl (Ev.fa rfl fo101_1 rfl) (WL.ev rfl rfl (Ev.ld rfl ag43 rfl ((H.rB (i := 0) rfl).cell rfl)) (WL.ev rfl rfl (Ev.mv rfl rfl) ?_))
    obtain ⟨b3, ob3, cb3, hvb3, hS2, hI1, hI2, H⟩ := ixS_Attribute H (i := 1) rfl hx1
    refine WL.ev rfl rfl (Ev.ixVN rfl el43 sz105 rfl hvb3 rfl (lt_of hx1)) (WL.ev rfl rfl (Ev.fa rfl fo105_0 rfl) (WL.ev rfl rfl (Ev.ld rfl ag9 rfl ((H.rA (i := 2) rfl).cell rfl)) (WL.ev rfl rfl (Ev.mv rfl rfl) (WL.ev rfl rfl (Ev.bin rfl rfl rfl Bin.eqlS) (WL.nil ?_)))))
    refine CW.condD rfl (fun h2 => ?_) (fun h2 => ?_)
    · skip
      have hb1 := ifp h2 hb1
      refine CW.seq (CW.reg ?_)
      refine WL.ev rfl rfl (Ev.fa rfl fo101_1 rfl) (WL.ev rfl rfl (Ev.ld rfl ag43 rfl ((H.rB (i := 0) rfl).cell rfl)) (WL.ev rfl rfl (Ev.mv rfl rfl) (WL.ev rfl rfl (Ev.ixVN rfl el43 sz105 rfl hvb3 rfl (lt_of hx1)) (WL.ev rfl rfl (Ev.lda rfl ag105 sz105 rfl (H.rA (i := 2) rfl) rfl) ?_))))
      refine WL.stB (i := 1) rfl rfl rfl sz105 rfl rfl rfl rfl (all1 rfl (all1 rfl (all1 rfl (all1 rfl all0)))) H rfl rfl rfl fun w4 H => ?_
      refine WL.ev rfl rfl (Ev.as rfl rfl) (WL.nil ?_)
      refine CW.ret ?_
      obtain rfl := sm hb1
      obtain rfl := ht1 _ rfl
      obtain rfl := sm hr
      exact ⟨_, resC1 rfl ag105 sz105 rfl rfl rfl rfl (At.blk (H.rB (i := 1) rfl)) rfl, H.ext0, rfl, hS2, hI1, hI2⟩
    · skip
      have hb1 := ifn h2 hb1
      refine CW.skip ?_
      refine CW.reg ?_
      refine WL.ev rfl rfl (Ev.mv rfl rfl) (WL.ev rfl rfl (Ev.bin rfl rfl rfl (Bin.addN (a := k1) (b := 1) rfl (i64_succN hk2 hl1.2))) (WL.ev rfl rfl (Ev.as rfl rfl) (WL.nil ?_)))
      obtain rfl := sm hb1
      have hq1 := hs1 _ rfl
      exact ⟨(k1 + 1), ⟨rfl, rfl, rfl, rfl, trivial⟩, ⟨hk2, hq1, H.keep 2 2⟩, Nat.sub_lt_sub_left hk2 (Nat.lt_succ_self _)⟩
  · skip
    obtain rfl := findL_end hq1 (not_cast_lt h1)
    refine CW.exit ?_
    refine CW.seq (CW.reg ?_)
    refine WL.ev rfl rfl (Ev.build rfl pl105 ze105 rfl rfl rfl rfl) ?_
    refine WL.stB (i := 1) rfl rfl rfl sz105 rfl rfl rfl rfl (all1 rfl (all1 rfl (all1 rfl (all1 rfl all0)))) H rfl rfl rfl fun w5 H => ?_
    refine WL.ev rfl rfl (Ev.as rfl rfl) (WL.nil ?_)
    refine CW.ret ?_
    obtain rfl := sm hr
    exact ⟨_, resC1 rfl ag105 sz105 rfl rfl rfl rfl (At.blk (H.rB (i := 1) rfl)) rfl, H.ext0, rfl, (by decide), (by decide : I64 0), (by decide : I64 0)⟩

noncomputable def sCircularOccurrences_L1 (a0 : Grammar) (a1 : Rule) : Nat → Occurrence → (List Occurrence) → Option (List Occurrence) := fun k1 x1 s1 => 
  (
  (sSymbolAt_m a1 x1.Pos).bind fun y2 =>
  (sFindSymbol_m a0 y2).bind fun (y3, y4) =>
  (sFindAttribute_m y3 x1.Name).bind fun (y5, y6) =>
  if y5.Circular = true then (
  grd (((s1.length : Int) + 1) * 24 ≤ 140737488355328 ∧ (s1.length : Int) + 1 ≤ 9223372036854775807) <|
  some (s1 ++ [x1])
  ) else (
  some s1
  )
  ).bind fun s2 =>
  some s2
noncomputable def sCircularOccurrences_m (a0 : Grammar) (a1 : Rule) : Option (List Occurrence) :=
  (sOccurrencesOf_m a0 a1).bind fun y1 =>
  (eachL (sCircularOccurrences_L1 a0 a1) 0 y1 ([] : List Occurrence)).bind fun s1 =>
  some s1
theorem sCircularOccurrences_ok {a0 : Grammar} {a1 : Rule} {r : (List Occurrence)} (hr : sCircularOccurrences_m a0 a1 = some r) {F0 : Nat → Prop} {w0 : World} {ca0 : List Value} (ha0 : rd F0 w0 a0 ca0) {ca1 : List Value} (ha1 : rd F0 w0 a1 ca1) :
    Ret Try.prog 42 #[.agg ca0.toArray, .agg ca1.toArray] w0 (fun _ => False) fun v w => ∃ A0 : Option Addr, ∃ n0 c0 : Nat, v = (.slice A0 n0 c0) ∧ HL F0 [] w0 w [] [It.O 90 r (.slice A0 n0 c0)] := by
  have H := ((HL.start F0 w0).argR ha0).argR ha1
  obtain ⟨A1, n1, c1, A2, n2, c2, rfl, H⟩ := op_Grammar H (i := 0) rfl
  obtain ⟨A3, n3, c3, A4, n4, c4, A5, n5, c5, rfl, hS1, hS2, H⟩ := op_Rule H (i := 1) rfl
  refine enter Try.func42 rfl rfl rfl ?_
  refine CW.seq (CW.reg ?_)
  refine WL.boxH rfl rfl rfl rfl rfl H fun b1 w1 H => ?_
  refine WL.boxH rfl rfl rfl rfl rfl H fun b2 w2 H => ?_
  refine WL.ev rfl rfl (Ev.as rfl rfl) (WL.nil ?_)
  refine CW.seq (CW.reg ?_)
  refine WL.lit0H (α := Occurrence) rfl rfl rfl el33 sz90 H fun A6 n6 c6 w3 H => ?_
  refine WL.ev rfl rfl (Ev.as rfl rfl) (WL.nil ?_)
  refine CW.seq (CW.reg ?_)
  refine WL.ev rfl rfl (Ev.lda rfl ag48 sz48 rfl (At.blk (H.rB (i := 0) rfl)) rfl) (WL.ev rfl rfl (Ev.lda rfl ag65 sz65 rfl (At.blk (H.rB (i := 1) rfl)) rfl) ?_)
  obtain ⟨y1, hy1, hr⟩ := bd hr
  refine WL.call rfl rfl rfl rfl rfl ok30 rfl (sOccurrencesOf_ok hy1 ⟨_, _, rfl, (H.rS (i := 2) rfl), (H.rS (i := 3) rfl)⟩ ⟨_, _, _, rfl, hS1, hS2, (H.rS (i := 4) rfl), (H.rS (i := 5) rfl), (H.rS (i := 6) rfl)⟩) ?_
  rintro _ w4 hE ⟨A7, n7, c7, rfl, H'⟩
  have H := H.callA H' ⟨fun _ _ _ _ _ h => h, trivial⟩
  refine WL.ev rfl rfl (Ev.as rfl rfl) (WL.nil ?_)
  refine CW.seq (CW.seq (CW.reg ?_))
  refine WL.ev rfl rfl (Ev.as rfl rfl) (WL.nil ?_)
  obtain ⟨q1, hq1, hr⟩ := bd hr
  refine CW.block (CW.loop (α := Nat × (List Occurrence) × Value) (fun ⟨k1, s1, v1⟩ => [(2, .pointer (some ⟨b1, 0, none⟩)), (3, .pointer (some ⟨b2, 0, none⟩)), (5, v1), (6, .slice A7 n7 c7), (7, .int .i64 (k1 : Int))]) (fun ⟨k1, s1, v1⟩ w => k1 ≤ y1.length ∧ eachL (sCircularOccurrences_L1 a0 a1) k1 (y1.drop k1) s1 = some q1 ∧ HL F0 [] w0 w [Pr.R a0 [.slice A1 n1 c1, .slice A2 n2 c2], Pr.R a1 [.string a1.Name, .string a1.Left, .slice A3 n3 c3, .bool a1.Literal, .slice A4 n4 c4, .slice A5 n5 c5], Pr.S a0.Symbols (.slice A1 n1 c1), Pr.S a0.Rules (.slice A2 n2 c2), Pr.S a1.Right (.slice A3 n3 c3), Pr.S a1.Equations (.slice A4 n4 c4), Pr.S a1.Contributions (.slice A5 n5 c5)] [It.B b1 48 [.slice A1 n1 c1, .slice A2 n2 c2], It.B b2 65 [.string a1.Name, .string a1.Left, .slice A3 n3 c3, .bool a1.Literal, .slice A4 n4 c4, .slice A5 n5 c5], It.O 90 s1 v1, It.O 90 y1 (.slice A7 n7 c7)]) (fun ⟨k1, s1, v1⟩ => y1.length - k1) ⟨0, ([] : List Occurrence), (.slice A6 n6 c6)⟩ ⟨rfl, rfl, rfl, rfl, rfl, trivial⟩ ⟨Nat.zero_le _, hq1, H.keep 7 4⟩ ?_)
  rintro ⟨k1, s1, v1⟩ σ w5 ⟨hk1, hq1, H⟩
  obtain ⟨A8, n8, c8, rfl⟩ := (H.rO (i := 2) rfl).form3
  refine CW.seq (CW.seq (CW.reg ?_))
  refine WL.ev rfl rfl (Ev.mv rfl rfl) (WL.ev rfl rfl (Ev.mv rfl rfl) ?_)
  have hl1 := (H.rO (i := 3) rfl).I
  refine WL.ev rfl rfl (Ev.lenV rfl el33 rfl (H.rO (i := 3) rfl)) (WL.ev rfl rfl (Ev.bin rfl rfl rfl Bin.lss) (WL.nil ?_))
  refine CW.condD rfl (fun h1 => ?_) (fun h1 => ?_)
  · skip
    have hk2 := cast_lt h1
    obtain ⟨x1, z1, hx1, hb1, hq1⟩ := eachL_go hq1 hk2
    refine CW.skip ?_
    obtain ⟨q2, hm1, hb1⟩ := bd hb1
    refine CW.seq (CW.mid (fun ρ' w => ∃ (s2 : List Occurrence) (v2 : Value), s2 = q2 ∧ agree ρ' [(2, .pointer (some ⟨b1, 0, none⟩)), (3, .pointer (some ⟨b2, 0, none⟩)), (5, v2), (6, .slice A7 n7 c7), (7, .int .i64 (k1 : Int))] ∧ HL F0 [] w0 w [Pr.R a0 [.slice A1 n1 c1, .slice A2 n2 c2], Pr.R a1 [.string a1.Name, .string a1.Left, .slice A3 n3 c3, .bool a1.Literal, .slice A4 n4 c4, .slice A5 n5 c5], Pr.S a0.Symbols (.slice A1 n1 c1), Pr.S a0.Rules (.slice A2 n2 c2), Pr.S a1.Right (.slice A3 n3 c3), Pr.S a1.Equations (.slice A4 n4 c4), Pr.S a1.Contributions (.slice A5 n5 c5)] [It.B b1 48 [.slice A1 n1 c1, .slice A2 n2 c2], It.B b2 65 [.string a1.Name, .string a1.Left, .slice A3 n3 c3, .bool a1.Literal, .slice A4 n4 c4, .slice A5 n5 c5], It.O 90 s2 v2, It.O 90 y1 (.slice A7 n7 c7)]) ?_ ?_)
    · skip
      obtain ⟨b3, cb3, hvb3, hbb3⟩ := H.ptO (i := 3) rfl hx1
      obtain ⟨hA1, hI1, hS3, H⟩ := elO_Occurrence H (i := 3) rfl hx1 hbb3
      obtain ⟨y2, hy2, hm1⟩ := bd hm1
      obtain ⟨_, _, _, hS4⟩ := (sSymbolAt_ok hy2 ⟨_, _, _, rfl, hS1, hS2, (H.rS (i := 4) rfl), (H.rS (i := 5) rfl), (H.rS (i := 6) rfl)⟩ hI1).get
      obtain ⟨⟨y3, y4⟩, hy3, hm1⟩ := bd hm1
      refine CW.block (CW.seq (CW.any2 14 (fun ρ => [.fix (.agg #[.slice A1 n1 c1, .slice A2 n2 c2]), .fix (.agg #[.string a1.Name, .string a1.Left, .slice A3 n3 c3, .bool a1.Literal, .slice A4 n4 c4, .slice A5 n5 c5]), .fix (.slice A7 n7 c7), .fix (.int .i64 (k1 : Int)), .fix (.pointer (some ⟨b3, 0 + k1 * 2, none⟩)), .fix (.pointer (some ⟨b3, 0 + k1 * 2 + 0, none⟩)), .fix (.int .i64 x1.Pos), .fix (.string y2), .free (fun S v w => ∃ A9 : Option Addr, ∃ n9 : Nat, ∃ c9 : Nat, v = .tuple #[.agg #[.string y3.Name, .slice A9 n9 c9], .bool y4] ∧ y3.Name.size ≤ 9223372036854775807 ∧ NewI S w [It.O 105 y3.Attributes (.slice A9 n9 c9)]), .dep 31 id, .dep 22 (tupAt 0), .dep 22 (tupAt 1), .free (VarB 101 2), .wr 8 32 (WrB 101)]) [[], [], [], [], [], [], [], [], [], [31], [22], [22], [], [8, 32]] NoM (fun _ _ => True) [] [none, none, none, none, none, none, none, none, none, none, none, none, none, some 12] (noM _) hmix (by kernel_rfl) rfl ⟨trivial, trivial, trivial, trivial, trivial, trivial, trivial, trivial, fun _ _ _ _ _ ⟨A9, n9, c9, hv, h0, hh⟩ hc hS hT => ⟨A9, n9, c9, hv, h0, hh.chgT hc hS⟩, trivial, trivial, trivial, fun _ _ _ _ _ h hc hS _ => h.chgT hc hS, fun _ _ _ _ _ _ h hc hS _ => h.chgT hc hS, trivial⟩ trivial (fun _ _ _ _ _ _ _ => trivial) ?_))
      refine LL2.fx rfl rfl rfl rfl rfl (fun _ hq hK => Ev.lda rfl ag48 sz48 rfl (At.blk ((H.ext hq).rB (i := 0) rfl)) rfl) ?_
      refine LL2.fx rfl rfl rfl rfl rfl (fun _ hq hK => Ev.lda rfl ag65 sz65 rfl (At.blk ((H.ext hq).rB (i := 1) rfl)) rfl) ?_
      refine LL2.fx rfl rfl rfl rfl rfl (fun _ hq hK => Ev.mv rfl rfl) ?_
      refine LL2.fx rfl rfl rfl rfl rfl (fun _ hq hK => Ev.mv rfl rfl) ?_
      refine LL2.fx rfl rfl rfl rfl rfl (fun _ hq hK => Ev.ixVN rfl el33 sz90 rfl hvb3 rfl (lt_of hx1)) ?_
      refine LL2.fx rfl rfl rfl rfl rfl (fun _ hq hK => Ev.fa rfl fo90_0 rfl) ?_
      refine LL2.fx rfl rfl rfl rfl rfl (fun _ hq hK => Ev.ld rfl ag3 rfl ((hA1.ext hq).cell rfl)) ?_
      refine LL2.fixed rfl rfl rfl rfl (fun _ hq hK => OpX.call rfl rfl rfl rfl ok77 rfl (sSymbolAt_ok hy2 ⟨_, _, _, rfl, hS1, hS2, ((H.ext hq).rS (i := 4) rfl), ((H.ext hq).rS (i := 5) rfl), ((H.ext hq).rS (i := 6) rfl)⟩ hI1) fun _ _ hE h => ⟨hE, h.1⟩) ?_
      refine LL2.free rfl rfl rfl rfl (fun wq hq hK => ?_) (fun v_G1_8 S_G1_8 => ?_)
      · refine OpX.call rfl rfl rfl rfl ok64 rfl (sFindSymbol_ok hy3 ⟨_, _, rfl, ((H.ext hq).rS (i := 2) rfl), ((H.ext hq).rS (i := 3) rfl)⟩ hS4) ?_
        rintro _ w hE ⟨A9, n9, c9, rfl, h0, hh⟩
        exact ⟨hE, A9, n9, c9, rfl, h0, NewI.of hh ⟨fun _ _ _ _ _ h => h, trivial⟩⟩
      refine LL2.mv rfl rfl rfl rfl rfl (.inl rfl) rfl ?_
      refine LL2.ex rfl rfl rfl rfl rfl rfl rfl (fun wq hq hK => ?_) ?_
      · skip
        have hK : ∀ j' (_ : (directs _).contains j' = true), _ := hK 9 rfl
        obtain ⟨A9, n9, c9, rfl, _, _⟩ := hK 8 rfl
        exact ⟨_, _, rfl, rfl⟩
      refine LL2.ex rfl rfl rfl rfl rfl rfl rfl (fun wq hq hK => ?_) ?_
      · skip
        have hK : ∀ j' (_ : (directs _).contains j' = true), _ := hK 9 rfl
        obtain ⟨A9, n9, c9, rfl, _, _⟩ := hK 8 rfl
        exact ⟨_, _, rfl, rfl⟩
      refine LL2.free rfl rfl rfl rfl (fun wq hq hK => OpX.allocV rfl rfl ze101 rfl) (fun v_G1_12 S_G1_12 => ?_)
      refine LL2.st (k := 2) rfl rfl rfl (by decide) rfl rfl rfl rfl sz101 rfl rfl (fun wq hq hK => hK 12 rfl) (fun wq hq hK => ?_) ?_
      · skip
        obtain ⟨A9, n9, c9, rfl, _, _⟩ := hK 8 rfl
        exact ⟨_, rfl, rfl, (all1 rfl (all1 rfl all0))⟩
      intro w6 hE _ hK hap hbd
      have hE := chgNew hE
      obtain ⟨A9, n9, c9, rfl, hS5, hN1⟩ := hK 8 (by decide)
      obtain ⟨b4, rfl, hN2⟩ := wrNew (cells := [.string y3.Name, .slice A9 n9 c9]) (hK 12 (by decide)) (hK 13 (by decide)) rfl
      have H := H.add hE (hN1.app hN2 fun q h1 h2 => absurd (hap 8 12 q h1 h2) (by decide)) ⟨fun _ _ _ _ _ h => h, ⟨fun _ _ _ _ _ h => h, trivial⟩⟩ (fun q hq => hq.elim (fun h => (hbd 8 q h).1) fun h => (hbd 12 q h).1)
      refine WL.ev rfl rfl (Ev.as rfl rfl) (WL.nil ?_)
      obtain ⟨b5, cb5, hvb5, hbb5⟩ := H.ptO (i := 3) rfl hx1
      obtain ⟨hA2, hI2, hS6, H⟩ := elO_Occurrence H (i := 3) rfl hx1 hbb5
      obtain ⟨⟨y5, y6⟩, hy4, hm1⟩ := bd hm1
      obtain ⟨_, _, _, hS7, hI3, hI4⟩ := (sFindAttribute_ok hy4 ⟨_, rfl, hS5, (H.rO (i := 4) rfl)⟩ hS6).get
      refine CW.seq (CW.any2 12 (fun ρ => [.fix (.agg #[.string y3.Name, .slice A9 n9 c9]), .fix (.slice A7 n7 c7), .fix (.int .i64 (k1 : Int)), .fix (.pointer (some ⟨b5, 0 + k1 * 2, none⟩)), .fix (.pointer (some ⟨b5, 0 + k1 * 2 + 1, none⟩)), .fix (.string x1.Name), .fix (.tuple #[.agg #[.string y5.Name, .int .i64 y5.Type_, .int .i64 y5.Mode, .bool y5.Circular], .bool y6]), .fix (.tuple #[.agg #[.string y5.Name, .int .i64 y5.Type_, .int .i64 y5.Mode, .bool y5.Circular], .bool y6]), .fix (.agg #[.string y5.Name, .int .i64 y5.Type_, .int .i64 y5.Mode, .bool y5.Circular]), .fix (.bool y6), .free (VarB 105 4), .wr 10 42 (WrB 105)]) [[], [], [], [], [], [], [], [], [], [], [], [10, 42]] NoM (fun _ _ => True) [] [none, none, none, none, none, none, none, none, none, none, none, some 10] (noM _) hmix (by kernel_rfl) rfl ⟨trivial, trivial, trivial, trivial, trivial, trivial, trivial, trivial, trivial, trivial, fun _ _ _ _ _ h hc hS _ => h.chgT hc hS, fun _ _ _ _ _ _ h hc hS _ => h.chgT hc hS, trivial⟩ trivial (fun _ _ _ _ _ _ _ => trivial) ?_)
      refine LL2.fx rfl rfl rfl rfl rfl (fun _ hq hK => Ev.lda rfl ag101 sz101 rfl (At.blk ((H.ext hq).rB (i := 5) rfl)) rfl) ?_
      refine LL2.fx rfl rfl rfl rfl rfl (fun _ hq hK => Ev.mv rfl rfl) ?_
      refine LL2.fx rfl rfl rfl rfl rfl (fun _ hq hK => Ev.mv rfl rfl) ?_
      refine LL2.fx rfl rfl rfl rfl rfl (fun _ hq hK => Ev.ixVN rfl el33 sz90 rfl hvb5 rfl (lt_of hx1)) ?_
      refine LL2.fx rfl rfl rfl rfl rfl (fun _ hq hK => Ev.fa rfl fo90_1 rfl) ?_
      refine LL2.fx rfl rfl rfl rfl rfl (fun _ hq hK => Ev.ld rfl ag9 rfl ((hA2.ext hq).cell rfl)) ?_
      refine LL2.fixed rfl rfl rfl rfl (fun _ hq hK => OpX.call rfl rfl rfl rfl ok88 rfl (sFindAttribute_ok hy4 ⟨_, rfl, hS5, ((H.ext hq).rO (i := 4) rfl)⟩ hS6) fun _ _ hE h => ⟨hE, h.1⟩) ?_
      refine LL2.fx rfl rfl rfl rfl rfl (fun _ hq hK => Ev.mv rfl rfl) ?_
      refine LL2.fx rfl rfl rfl rfl rfl (fun _ hq hK => Ev.ex rfl rfl rfl) ?_
      refine LL2.fx rfl rfl rfl rfl rfl (fun _ hq hK => Ev.ex rfl rfl rfl) ?_
      refine LL2.free rfl rfl rfl rfl (fun wq hq hK => OpX.allocV rfl rfl ze105 rfl) (fun v_G2_10 S_G2_10 => ?_)
      refine LL2.st (k := 4) rfl rfl rfl (by decide) rfl rfl rfl rfl sz105 rfl rfl (fun wq hq hK => hK 10 rfl) (fun wq hq hK => ?_) ?_
      · skip
        exact ⟨_, rfl, rfl, (all1 rfl (all1 rfl (all1 rfl (all1 rfl all0))))⟩
      intro w7 hE _ hK hap hbd
      have hE := chgNew hE
      obtain ⟨b6, rfl, hN3⟩ := wrNew (cells := [.string y5.Name, .int .i64 y5.Type_, .int .i64 y5.Mode, .bool y5.Circular]) (hK 10 (by decide)) (hK 11 (by decide)) rfl
      have H := H.add hE hN3 ⟨fun _ _ _ _ _ h => h, trivial⟩ (fun q hq => (hbd 10 q hq).1)
      refine WL.ev rfl rfl (Ev.as rfl rfl) (WL.nil ?_)
      refine CW.seq ?_
      refine CW.fresh [(2, .pointer (some ⟨b1, 0, none⟩)), (3, .pointer (some ⟨b2, 0, none⟩)), (5, .slice A8 n8 c8), (6, .slice A7 n7 c7), (7, .int .i64 (k1 : Int)), (10, .pointer (some ⟨b6, 0, none⟩))] ⟨rfl, rfl, rfl, rfl, rfl, rfl, trivial⟩ fun σ => ?_
      have H : HL F0 [] w0 w7 [Pr.R a0 [.slice A1 n1 c1, .slice A2 n2 c2], Pr.R a1 [.string a1.Name, .string a1.Left, .slice A3 n3 c3, .bool a1.Literal, .slice A4 n4 c4, .slice A5 n5 c5], Pr.S a0.Symbols (.slice A1 n1 c1), Pr.S a0.Rules (.slice A2 n2 c2), Pr.S a1.Right (.slice A3 n3 c3), Pr.S a1.Equations (.slice A4 n4 c4), Pr.S a1.Contributions (.slice A5 n5 c5), Pr.R x1 [.int .i64 x1.Pos, .string x1.Name], Pr.R x1 [.int .i64 x1.Pos, .string x1.Name]] [It.B b1 48 [.slice A1 n1 c1, .slice A2 n2 c2], It.B b2 65 [.string a1.Name, .string a1.Left, .slice A3 n3 c3, .bool a1.Literal, .slice A4 n4 c4, .slice A5 n5 c5], It.O 90 s1 (.slice A8 n8 c8), It.O 90 y1 (.slice A7 n7 c7), It.O 105 y3.Attributes (.slice A9 n9 c9), It.B b4 101 [.string y3.Name, .slice A9 n9 c9], It.B b6 105 [.string y5.Name, .int .i64 y5.Type_, .int .i64 y5.Mode, .bool y5.Circular]] := H
      refine CW.reg ?_
      refine WL.ev rfl rfl (Ev.fa rfl fo105_3 rfl) (WL.ev rfl rfl (Ev.ld rfl ag4 rfl ((H.rB (i := 6) rfl).cell rfl)) (WL.nil ?_))
      refine CW.condB rfl (fun h2 => ?_) (fun h2 => ?_)
      · skip
        have hm1 := ifp h2 hm1
        refine CW.reg ?_
        refine WL.ev rfl rfl (Ev.mv rfl rfl) (WL.ev rfl rfl (Ev.mv rfl rfl) (WL.ev rfl rfl (Ev.mv rfl rfl) ?_))
        obtain ⟨b7, cb7, hvb7, hbb7⟩ := H.ptO (i := 3) rfl hx1
        refine WL.ev rfl rfl (Ev.ixVN rfl el33 sz90 rfl hvb7 rfl (lt_of hx1)) ?_
        obtain ⟨hA3, hI5, hS8, H⟩ := elO_Occurrence H (i := 3) rfl hx1 hbb7
        refine WL.ev rfl rfl (Ev.lda rfl ag90 sz90 rfl hA3 rfl) ?_
        refine WL.lit1 rfl rfl rfl el33 sz90 ze90 rfl rfl rfl rfl rfl rfl fun b8 w8 hE hb hB => ?_
        have H := H.newB hE hb hB
        obtain ⟨hg1, hm1⟩ := grd_some hm1
        refine WL.appO (i := 2) (ys := [x1]) rfl rfl rfl el33 sz90 by90 ze90 rfl rfl rfl H rfl (fun _ => ownL.single ⟨rfl, hI5, hS8, rfl⟩) (.inr ⟨_, _, rfl, At.blk (H.rB (i := 7) rfl)⟩) hg1 fun A10 n10 c10 w9 H => ?_
        refine WL.ev rfl rfl (Ev.as rfl rfl) (WL.nil ?_)
        obtain rfl := sm hm1
        exact ⟨(s1 ++ [x1]), _, rfl, ⟨rfl, rfl, rfl, rfl, rfl, trivial⟩, H.keep 7 4⟩
      · skip
        have hm1 := ifn h2 hm1
        refine CW.skip ?_
        obtain rfl := sm hm1
        exact ⟨s1, _, rfl, ⟨rfl, rfl, rfl, rfl, rfl, trivial⟩, H.keep 7 4⟩
    · rintro ρ' w10 ⟨s2, v2, rfl, hag, H⟩
      obtain ⟨σ, rfl⟩ := ofL_ex hag
      obtain ⟨A11, n11, c11, rfl⟩ := (H.rO (i := 2) rfl).form3
      refine CW.reg ?_
      refine WL.ev rfl rfl (Ev.mv rfl rfl) (WL.ev rfl rfl (Ev.bin rfl rfl rfl (Bin.addN (a := k1) (b := 1) rfl (i64_succN hk2 hl1.2))) (WL.ev rfl rfl (Ev.as rfl rfl) (WL.nil ?_)))
      obtain rfl := sm hb1
      exact ⟨⟨k1 + 1, s2, (.slice A11 n11 c11)⟩, ⟨rfl, rfl, rfl, rfl, rfl, trivial⟩, ⟨hk2, hq1, H.keep 7 4⟩, Nat.sub_lt_sub_left hk2 (Nat.lt_succ_self _)⟩
  · skip
    obtain rfl := eachL_end hq1 (not_cast_lt h1)
    refine CW.exit ?_
    refine CW.seq (CW.reg ?_)
    refine WL.ev rfl rfl (Ev.mv rfl rfl) (WL.ev rfl rfl (Ev.as rfl rfl) (WL.nil ?_))
    refine CW.ret ?_
    obtain rfl := sm hr
    exact ⟨_, res1 rfl rfl rfl, H.ext0, _, _, _, rfl, H.outM (fr' := []) [false, false, true, false] fun _ _ => trivial⟩

noncomputable def iFindAttribute_L1 (a1 : ByteArray) : Nat → Attribute → Unit → Option (Unit ⊕ (Attribute × Bool)) := fun k1 x1 _ => 
  if x1.Name = a1 then (
  some (.inr (x1, true))
  ) else (
  some (.inl ())
  )
noncomputable def iFindAttribute_m (a0 : Symbol) (a1 : ByteArray) : Option (Attribute × Bool) :=
  (findL (iFindAttribute_L1 a1) 0 a0.Attributes ()).bind <| onr (fun r1 => some r1) fun _ =>
  some ((⟨(⟨#[]⟩ : ByteArray), 0, 0, false⟩ : Attribute), false)
theorem iFindAttribute_ok {a0 : Symbol} {a1 : ByteArray} {r : (Attribute × Bool)} (hr : iFindAttribute_m a0 a1 = some r) {F0 : Nat → Prop} {w0 : World} {ca0 : List Value} (ha0 : rd F0 w0 a0 ca0) (ha1 : a1.size ≤ 9223372036854775807) :
    Ret Try.prog 120 #[.agg ca0.toArray, .string a1] w0 (fun _ => False) fun v w => v = .tuple #[.agg #[.string r.1.Name, .int .i64 r.1.Type_, .int .i64 r.1.Mode, .bool r.1.Circular], .bool r.2] ∧ r.1.Name.size ≤ 9223372036854775807 ∧ I64 r.1.Type_ ∧ I64 r.1.Mode := by
  have H := (HL.start F0 w0).argR ha0
  obtain ⟨A1, n1, c1, rfl, hS1, H⟩ := op_Symbol H (i := 0) rfl
  refine enter Try.func120 rfl rfl rfl ?_
  refine CW.seq (CW.reg ?_)
  refine WL.boxH rfl rfl rfl rfl rfl H fun b1 w1 H => ?_
  refine WL.allocH rfl rfl rfl ze105 H fun b2 w2 H => ?_
  refine WL.ev rfl rfl (Ev.as rfl rfl) (WL.nil ?_)
  refine CW.seq (CW.seq (CW.reg ?_))
  refine WL.ev rfl rfl (Ev.fa rfl fo101_1 rfl) (WL.ev rfl rfl (Ev.ld rfl ag43 rfl ((H.rB (i := 0) rfl).cell rfl)) ?_)
  have hl1 := (H.rS (i := 1) rfl).I
  refine WL.ev rfl rfl (Ev.lenV rfl el43 rfl (H.rS (i := 1) rfl)) (WL.ev rfl rfl (Ev.mv rfl rfl) (WL.nil ?_))
  obtain ⟨q1, hq1, hr⟩ := bd hr
  refine CW.block (CW.loop (α := Nat) (fun k1 => [(1, .string a1), (4, .pointer (some ⟨b2, 0, none⟩)), (9, .slice A1 n1 c1), (10, .int .i64 (a0.Attributes.length : Int)), (11, .int .i64 (k1 : Int))]) (fun k1 w => k1 ≤ a0.Attributes.length ∧ findL (iFindAttribute_L1 a1) k1 (a0.Attributes.drop k1) () = some q1 ∧ HL F0 [] w0 w [Pr.R a0 [.string a0.Name, .slice A1 n1 c1], Pr.S a0.Attributes (.slice A1 n1 c1)] [It.B b1 101 [.string a0.Name, .slice A1 n1 c1], It.B b2 105 [.string (⟨#[]⟩ : ByteArray), .int .i64 0, .int .i64 0, .bool false]]) (fun k1 => a0.Attributes.length - k1) 0 ⟨rfl, rfl, rfl, rfl, rfl, trivial⟩ ⟨Nat.zero_le _, hq1, H.keep 2 2⟩ ?_)
  rintro k1 σ w3 ⟨hk1, hq1, H⟩
  refine CW.seq (CW.reg ?_)
  refine WL.ev rfl rfl (Ev.bin rfl rfl rfl Bin.lss) (WL.nil ?_)
  refine CW.seq (CW.condD rfl (fun h1 => ?_) (fun h1 => ?_))
  · skip
    have hk2 := cast_lt h1
    obtain ⟨x1, z1, hx1, hb1, hs1, ht1⟩ := findL_go hq1 hk2
    refine CW.skip ?_
    refine CW.seq (CW.block (CW.seq (CW.reg ?_)))
    obtain ⟨b3, ob3, cb3, hvb3, hS2, hI1, hI2, H⟩ := ixS_Attribute H (i := 1) rfl hx1
    refine WL.ev rfl rfl (Ev.ixVN rfl el43 sz105 rfl hvb3 rfl (lt_of hx1)) (WL.ev rfl rfl (Ev.lda rfl ag105 sz105 rfl (H.rA (i := 2) rfl) rfl) ?_)
    refine WL.allocH rfl rfl rfl ze105 H fun b4 w4 H => ?_
    refine WL.stB (i := 2) rfl rfl rfl sz105 rfl rfl rfl rfl (all1 rfl (all1 rfl (all1 rfl (all1 rfl all0)))) H rfl rfl rfl fun w5 H => ?_
    refine WL.nil ?_
    refine CW.seq (CW.reg ?_)
    refine WL.ev rfl rfl (Ev.fa rfl fo105_0 rfl) (WL.ev rfl rfl (Ev.ld rfl ag9 rfl ((H.rB (i := 2) rfl).cell rfl)) (WL.ev rfl rfl (Ev.mv rfl rfl) (WL.ev rfl rfl (Ev.bin rfl rfl rfl Bin.eqlS) (WL.nil ?_))))
    refine CW.condD rfl (fun h2 => ?_) (fun h2 => ?_)
    · skip
      have hb1 := ifp h2 hb1
      refine CW.seq (CW.reg ?_)
      refine WL.ev rfl rfl (Ev.lda rfl ag105 sz105 rfl (At.blk (H.rB (i := 2) rfl)) rfl) ?_
      refine WL.stB (i := 1) rfl rfl rfl sz105 rfl rfl rfl rfl (all1 rfl (all1 rfl (all1 rfl (all1 rfl all0)))) H rfl rfl rfl fun w6 H => ?_
      refine WL.ev rfl rfl (Ev.as rfl rfl) (WL.nil ?_)
      refine CW.ret ?_
      obtain rfl := sm hb1
      obtain rfl := ht1 _ rfl
      obtain rfl := sm hr
      exact ⟨_, resC1 rfl ag105 sz105 rfl rfl rfl rfl (At.blk (H.rB (i := 1) rfl)) rfl, H.ext0, rfl, hS2, hI1, hI2⟩
    · skip
      have hb1 := ifn h2 hb1
      refine CW.skip ?_
      refine CW.reg ?_
      refine WL.ev rfl rfl (Ev.bin rfl rfl rfl (Bin.addN (a := k1) (b := 1) rfl (i64_succN hk2 hl1.2))) (WL.ev rfl rfl (Ev.mv rfl rfl) (WL.nil ?_))
      obtain rfl := sm hb1
      have hq1 := hs1 _ rfl
      exact ⟨(k1 + 1), ⟨rfl, rfl, rfl, rfl, rfl, trivial⟩, ⟨hk2, hq1, H.keep 2 2⟩, Nat.sub_lt_sub_left hk2 (Nat.lt_succ_self _)⟩
  · skip
    obtain rfl := findL_end hq1 (not_cast_lt h1)
    refine CW.exit ?_
    refine CW.seq (CW.reg ?_)
    refine WL.ev rfl rfl (Ev.build rfl pl105 ze105 rfl rfl rfl rfl) ?_
    refine WL.stB (i := 1) rfl rfl rfl sz105 rfl rfl rfl rfl (all1 rfl (all1 rfl (all1 rfl (all1 rfl all0)))) H rfl rfl rfl fun w7 H => ?_
    refine WL.ev rfl rfl (Ev.as rfl rfl) (WL.nil ?_)
    refine CW.ret ?_
    obtain rfl := sm hr
    exact ⟨_, resC1 rfl ag105 sz105 rfl rfl rfl rfl (At.blk (H.rB (i := 1) rfl)) rfl, H.ext0, rfl, (by decide), (by decide : I64 0), (by decide : I64 0)⟩

noncomputable def iattributeAt_m (a0 : Grammar) (a1 : Rule) (a2 : Occurrence) : Option (Attribute × Bool) :=
  (iwithin_m a2.Pos 0 (a1.Right.length : Int)).bind fun y1 =>
  if y1 = true then (
  (iSymbolAt_m a1 a2.Pos).bind fun y2 =>
  (ifindSymbol_m a0 y2).bind fun (y3, y4) =>
  (iFindAttribute_m y3 a2.Name).bind fun (y5, y6) =>
  some (y5, y6)
  ) else (
  some ((⟨(⟨#[]⟩ : ByteArray), 0, 0, false⟩ : Attribute), false)
  )
theorem iattributeAt_ok {a0 : Grammar} {a1 : Rule} {a2 : Occurrence} {r : (Attribute × Bool)} (hr : iattributeAt_m a0 a1 a2 = some r) {F0 : Nat → Prop} {w0 : World} {ca0 : List Value} (ha0 : rd F0 w0 a0 ca0) {ca1 : List Value} (ha1 : rd F0 w0 a1 ca1) {ca2 : List Value} (ha2 : rd F0 w0 a2 ca2) :
    Ret Try.prog 91 #[.agg ca0.toArray, .agg ca1.toArray, .agg ca2.toArray] w0 (fun _ => False) fun v w => v = .tuple #[.agg #[.string r.1.Name, .int .i64 r.1.Type_, .int .i64 r.1.Mode, .bool r.1.Circular], .bool r.2] ∧ r.1.Name.size ≤ 9223372036854775807 ∧ I64 r.1.Type_ ∧ I64 r.1.Mode := by
  have H := (((HL.start F0 w0).argR ha0).argR ha1).argR ha2
  obtain ⟨A1, n1, c1, A2, n2, c2, rfl, H⟩ := op_Grammar H (i := 0) rfl
  obtain ⟨A3, n3, c3, A4, n4, c4, A5, n5, c5, rfl, hS1, hS2, H⟩ := op_Rule H (i := 1) rfl
  obtain ⟨rfl, hI1, hS3, H⟩ := op_Occurrence H (i := 2) rfl
  refine enter Try.func91 rfl rfl rfl ?_
  refine CW.seq (CW.reg ?_)
  refine WL.boxH rfl rfl rfl rfl rfl H fun b1 w1 H => ?_
  refine WL.boxH rfl rfl rfl rfl rfl H fun b2 w2 H => ?_
  refine WL.boxH rfl rfl rfl rfl rfl H fun b3 w3 H => ?_
  refine WL.allocH rfl rfl rfl ze105 H fun b4 w4 H => ?_
  refine WL.ev rfl rfl (Ev.as rfl rfl) (WL.nil ?_)
  refine CW.seq (CW.seq (CW.reg ?_))
  refine WL.ev rfl rfl (Ev.fa rfl fo90_0 rfl) (WL.ev rfl rfl (Ev.ld rfl ag3 rfl ((H.rB (i := 2) rfl).cell rfl)) (WL.ev rfl rfl (Ev.fa rfl fo65_2 rfl) (WL.ev rfl rfl (Ev.ld rfl ag55 rfl ((H.rB (i := 1) rfl).cell rfl)) ?_)))
  have hl1 := (H.rS (i := 5) rfl).I
  refine WL.ev rfl rfl (Ev.lenV rfl el55 rfl (H.rS (i := 5) rfl)) ?_
  obtain ⟨y1, hy1, hr⟩ := bd hr
  refine WL.call rfl rfl rfl rfl rfl ok116 rfl (iwithin_ok hy1 (F0 := fun _ => False) hI1 (by decide : I64 0) hl1) ?_
  rintro _ w5 hE rfl
  have H := H.ext hE
  refine WL.ev rfl rfl (Ev.not rfl rfl) (WL.nil ?_)
  refine CW.condBN rfl (fun h1 => ?_) (fun h1 => ?_)
  · skip
    have hr := ifn h1 hr
    refine CW.seq (CW.reg ?_)
    refine WL.ev rfl rfl (Ev.build rfl pl105 ze105 rfl rfl rfl rfl) ?_
    refine WL.stB (i := 3) rfl rfl rfl sz105 rfl rfl rfl rfl (all1 rfl (all1 rfl (all1 rfl (all1 rfl all0)))) H rfl rfl rfl fun w6 H => ?_
    refine WL.ev rfl rfl (Ev.as rfl rfl) (WL.nil ?_)
    refine CW.ret ?_
    obtain rfl := sm hr
    exact ⟨_, resC1 rfl ag105 sz105 rfl rfl rfl rfl (At.blk (H.rB (i := 3) rfl)) rfl, H.ext0, rfl, (by decide), (by decide : I64 0), (by decide : I64 0)⟩
  · skip
    have hr := ifp h1 hr
    refine CW.skip ?_
    obtain ⟨y2, hy2, hr⟩ := bd hr
    obtain ⟨_, _, _, hS4⟩ := (iSymbolAt_ok hy2 ⟨_, _, _, rfl, hS1, hS2, (H.rS (i := 5) rfl), (H.rS (i := 6) rfl), (H.rS (i := 7) rfl)⟩ hI1).get
    obtain ⟨⟨y3, y4⟩, hy3, hr⟩ := bd hr
    obtain ⟨F_G1, hFl_G1, hF_G1, hcl_G1⟩ := H.callL
    refine CW.seq (CW.any2 11 (fun ρ => [.fix (.agg #[.slice A1 n1 c1, .slice A2 n2 c2]), .fix (.agg #[.string a1.Name, .string a1.Left, .slice A3 n3 c3, .bool a1.Literal, .slice A4 n4 c4, .slice A5 n5 c5]), .fix (.pointer (some ⟨b3, 0 + 0, none⟩)), .fix (.int .i64 a2.Pos), .fix (.string y2), .free (fun S v w => ∃ A6 : Option Addr, ∃ n6 : Nat, ∃ c6 : Nat, v = .tuple #[.agg #[.string y3.Name, .slice A6 n6 c6], .bool y4] ∧ y3.Name.size ≤ 9223372036854775807 ∧ NewV F_G1 w5 S w [Pr.S y3.Attributes (.slice A6 n6 c6)] []), .dep 24 id, .dep 18 (tupAt 0), .dep 18 (tupAt 1), .free (VarB 101 2), .wr 8 25 (WrB 101)]) [[], [], [], [], [], [], [24], [18], [18], [], [8, 25]] NoM (fun _ _ => True) [] [none, none, none, none, none, none, none, none, none, none, some 9] (noM _) hmix (by kernel_rfl) rfl ⟨trivial, trivial, trivial, trivial, trivial, fun _ _ _ _ _ ⟨A6, n6, c6, hv, h0, hh⟩ hc hS hT => ⟨A6, n6, c6, hv, h0, hh.chgT hc hS hT hFl_G1⟩, trivial, trivial, trivial, fun _ _ _ _ _ h hc hS _ => h.chgT hc hS, fun _ _ _ _ _ _ h hc hS _ => h.chgT hc hS, trivial⟩ trivial (fun _ _ _ _ _ _ _ => trivial) ?_)
    refine LL2.fx rfl rfl rfl rfl rfl (fun _ hq hK => Ev.lda rfl ag48 sz48 rfl (At.blk ((H.ext hq).rB (i := 0) rfl)) rfl) ?_
    refine LL2.fx rfl rfl rfl rfl rfl (fun _ hq hK => Ev.lda rfl ag65 sz65 rfl (At.blk ((H.ext hq).rB (i := 1) rfl)) rfl) ?_
    refine LL2.fx rfl rfl rfl rfl rfl (fun _ hq hK => Ev.fa rfl fo90_0 rfl) ?_
    refine LL2.fx rfl rfl rfl rfl rfl (fun _ hq hK => Ev.ld rfl ag3 rfl (((H.ext hq).rB (i := 2) rfl).cell rfl)) ?_
    refine LL2.fixed rfl rfl rfl rfl (fun _ hq hK => OpX.call rfl rfl rfl rfl ok81 rfl (iSymbolAt_ok hy2 ⟨_, _, _, rfl, hS1, hS2, ((H.ext hq).rS (i := 5) rfl), ((H.ext hq).rS (i := 6) rfl), ((H.ext hq).rS (i := 7) rfl)⟩ hI1) fun _ _ hE h => ⟨hE, h.1⟩) ?_
    refine LL2.free rfl rfl rfl rfl (fun wq hq hK => ?_) (fun v_G1_5 S_G1_5 => ?_)
    · have hF := hF_G1.ext hq
      refine OpX.call rfl rfl rfl rfl ok67 rfl (ifindSymbol_ok hy3 ⟨_, _, rfl, (hF.get (i := 3) rfl), (hF.get (i := 4) rfl)⟩ hS4) ?_
      rintro _ w hE ⟨A6, n6, c6, rfl, h0, hh⟩
      exact ⟨hE, A6, n6, c6, rfl, h0, NewV.of hFl_G1 hq hh⟩
    refine LL2.mv rfl rfl rfl rfl rfl (.inl rfl) rfl ?_
    refine LL2.ex rfl rfl rfl rfl rfl rfl rfl (fun wq hq hK => ?_) ?_
    · skip
      have hK : ∀ j' (_ : (directs _).contains j' = true), _ := hK 6 rfl
      obtain ⟨A6, n6, c6, rfl, _, _⟩ := hK 5 rfl
      exact ⟨_, _, rfl, rfl⟩
    refine LL2.ex rfl rfl rfl rfl rfl rfl rfl (fun wq hq hK => ?_) ?_
    · skip
      have hK : ∀ j' (_ : (directs _).contains j' = true), _ := hK 6 rfl
      obtain ⟨A6, n6, c6, rfl, _, _⟩ := hK 5 rfl
      exact ⟨_, _, rfl, rfl⟩
    refine LL2.free rfl rfl rfl rfl (fun wq hq hK => OpX.allocV rfl rfl ze101 rfl) (fun v_G1_9 S_G1_9 => ?_)
    refine LL2.st (k := 2) rfl rfl rfl (by decide) rfl rfl rfl rfl sz101 rfl rfl (fun wq hq hK => hK 9 rfl) (fun wq hq hK => ?_) ?_
    · skip
      obtain ⟨A6, n6, c6, rfl, _, _⟩ := hK 5 rfl
      exact ⟨_, rfl, rfl, (all1 rfl (all1 rfl all0))⟩
    intro w7 hE _ hK hap hbd
    have hE := chgNew hE
    obtain ⟨A6, n6, c6, rfl, hS5, hN1⟩ := hK 5 (by decide)
    obtain ⟨b5, rfl, hN2⟩ := wrNew (cells := [.string y3.Name, .slice A6 n6 c6]) (hK 9 (by decide)) (hK 10 (by decide)) rfl
    have H := hcl_G1 (NewV.hl (hN1.app (hN2.V ⟨fun _ _ _ _ _ h => h, trivial⟩) fun q h1 h2 => absurd (hap 5 9 q h1 h2) (by decide)) hE fun q hq => hq.elim (fun h => (hbd 5 q h).1) fun h => (hbd 9 q h).1)
    refine WL.ev rfl rfl (Ev.as rfl rfl) (WL.nil ?_)
    refine CW.seq ?_
    refine CW.fresh [(5, .pointer (some ⟨b3, 0, none⟩)), (6, .pointer (some ⟨b4, 0, none⟩)), (8, .pointer (some ⟨b5, 0, none⟩))] ⟨rfl, rfl, rfl, trivial⟩ fun σ => ?_
    have H : HL F0 [] w0 w7 [Pr.R a0 [.slice A1 n1 c1, .slice A2 n2 c2], Pr.R a1 [.string a1.Name, .string a1.Left, .slice A3 n3 c3, .bool a1.Literal, .slice A4 n4 c4, .slice A5 n5 c5], Pr.R a2 [.int .i64 a2.Pos, .string a2.Name], Pr.S a0.Symbols (.slice A1 n1 c1), Pr.S a0.Rules (.slice A2 n2 c2), Pr.S a1.Right (.slice A3 n3 c3), Pr.S a1.Equations (.slice A4 n4 c4), Pr.S a1.Contributions (.slice A5 n5 c5), Pr.S y3.Attributes (.slice A6 n6 c6)] [It.B b1 48 [.slice A1 n1 c1, .slice A2 n2 c2], It.B b2 65 [.string a1.Name, .string a1.Left, .slice A3 n3 c3, .bool a1.Literal, .slice A4 n4 c4, .slice A5 n5 c5], It.B b3 90 [.int .i64 a2.Pos, .string a2.Name], It.B b4 105 [.string (⟨#[]⟩ : ByteArray), .int .i64 0, .int .i64 0, .bool false], It.B b5 101 [.string y3.Name, .slice A6 n6 c6]] := H
    refine CW.reg ?_
    refine WL.ev rfl rfl (Ev.lda rfl ag101 sz101 rfl (At.blk (H.rB (i := 4) rfl)) rfl) (WL.ev rfl rfl (Ev.fa rfl fo90_1 rfl) (WL.ev rfl rfl (Ev.ld rfl ag9 rfl ((H.rB (i := 2) rfl).cell rfl)) ?_))
    obtain ⟨⟨y5, y6⟩, hy4, hr⟩ := bd hr
    refine WL.call rfl rfl rfl rfl rfl ok120 rfl (iFindAttribute_ok hy4 ⟨_, rfl, hS5, (H.rS (i := 8) rfl)⟩ hS3) ?_
    rintro _ w8 hE ⟨rfl, hS6, hI2, hI3⟩
    have H := H.ext hE
    refine WL.ev rfl rfl (Ev.ex rfl rfl rfl) (WL.ev rfl rfl (Ev.ex rfl rfl rfl) ?_)
    refine WL.stB (i := 3) rfl rfl rfl sz105 rfl rfl rfl rfl (all1 rfl (all1 rfl (all1 rfl (all1 rfl all0)))) H rfl rfl rfl fun w9 H => ?_
    refine WL.ev rfl rfl (Ev.as rfl rfl) (WL.nil ?_)
    refine CW.ret ?_
    obtain rfl := sm hr
    exact ⟨_, resC1 rfl ag105 sz105 rfl rfl rfl rfl (At.blk (H.rB (i := 3) rfl)) rfl, H.ext0, rfl, hS6, hI2, hI3⟩

noncomputable def iCircularOccurrences_1_m (a0 : Occurrence) (a1 : Grammar) (a2 : Rule) : Option Bool :=
  (iattributeAt_m a1 a2 a0).bind fun (y1, y2) =>
  some (!y1.Circular)
theorem iCircularOccurrences_1_ok {a0 : Occurrence} {a1 : Grammar} {a2 : Rule} {r : Bool} (hr : iCircularOccurrences_1_m a0 a1 a2 = some r) {F0 : Nat → Prop} {w0 : World} {ca0 : List Value} (ha0 : rd F0 w0 a0 ca0) {b1p : Nat} (ha1 : CapP F0 w0 b1p a1) {b2p : Nat} (ha2 : CapP F0 w0 b2p a2) :
    Ret Try.prog 90 #[.agg ca0.toArray, .pointer (some ⟨b1p, 0, none⟩), .pointer (some ⟨b2p, 0, none⟩)] w0 (fun _ => False) fun v w => v = .bool r := by
  have H := (HL.start F0 w0).argR ha0
  obtain ⟨rfl, hI1, hS1, H⟩ := op_Occurrence H (i := 0) rfl
  obtain ⟨cpa1, H⟩ := H.argP ha1
  obtain ⟨A1, n1, c1, A2, n2, c2, rfl, H⟩ := op_Grammar H (i := 2) rfl
  obtain ⟨cpa2, H⟩ := H.argP ha2
  obtain ⟨A3, n3, c3, A4, n4, c4, A5, n5, c5, rfl, hS2, hS3, H⟩ := op_Rule H (i := 6) rfl
  refine enter Try.func90 rfl rfl rfl ?_
  refine CW.seq (CW.reg ?_)
  refine WL.boxH rfl rfl rfl rfl rfl H fun b1 w1 H => ?_
  refine WL.ev rfl rfl (Ev.as rfl rfl) (WL.nil ?_)
  refine CW.seq (CW.reg ?_)
  refine WL.ev rfl rfl (Ev.lda rfl ag48 sz48 rfl (H.rA (i := 1) rfl) rfl) (WL.ev rfl rfl (Ev.lda rfl ag65 sz65 rfl (H.rA (i := 5) rfl) rfl) (WL.ev rfl rfl (Ev.lda rfl ag90 sz90 rfl (At.blk (H.rB (i := 0) rfl)) rfl) ?_))
  obtain ⟨⟨y1, y2⟩, hy1, hr⟩ := bd hr
  refine WL.call rfl rfl rfl rfl rfl ok91 rfl (iattributeAt_ok hy1 ⟨_, _, rfl, (H.rS (i := 3) rfl), (H.rS (i := 4) rfl)⟩ ⟨_, _, _, rfl, hS2, hS3, (H.rS (i := 7) rfl), (H.rS (i := 8) rfl), (H.rS (i := 9) rfl)⟩ ⟨rfl, hI1, hS1⟩) ?_
  rintro _ w2 hE ⟨rfl, hS4, hI2, hI3⟩
  have H := H.ext hE
  refine WL.ev rfl rfl (Ev.mv rfl rfl) (WL.ev rfl rfl (Ev.ex rfl rfl rfl) (WL.ev rfl rfl (Ev.ex rfl rfl rfl) ?_))
  refine WL.allocH rfl rfl rfl ze105 H fun b2 w3 H => ?_
  refine WL.stB (i := 1) rfl rfl rfl sz105 rfl rfl rfl rfl (all1 rfl (all1 rfl (all1 rfl (all1 rfl all0)))) H rfl rfl rfl fun w4 H => ?_
  refine WL.ev rfl rfl (Ev.as rfl rfl) (WL.nil ?_)
  refine CW.seq (CW.reg ?_)
  refine WL.ev rfl rfl (Ev.fa rfl fo105_3 rfl) (WL.ev rfl rfl (Ev.ld rfl ag4 rfl ((H.rB (i := 1) rfl).cell rfl)) (WL.ev rfl rfl (Ev.not rfl rfl) (WL.ev rfl rfl (Ev.as rfl rfl) (WL.nil ?_))))
  refine CW.ret ?_
  obtain rfl := sm hr
  exact ⟨_, res1 rfl rfl rfl, H.ext0, rfl⟩

noncomputable def slices_IndexFunc_Occurrence_iCircularOccurrences_1_L1 (a1_0 : Grammar) (a1_1 : Rule) : Nat → Occurrence → Unit → Option (Unit ⊕ Int) := fun k1 x1 _ => 
  (iCircularOccurrences_1_m x1 a1_0 a1_1).bind fun y1 =>
  if y1 = true then (
  some (.inr (k1 : Int))
  ) else (
  some (.inl ())
  )
noncomputable def slices_IndexFunc_Occurrence_iCircularOccurrences_1_m (a0 : (List Occurrence)) (a1_0 : Grammar) (a1_1 : Rule) : Option Int :=
  (findL (slices_IndexFunc_Occurrence_iCircularOccurrences_1_L1 a1_0 a1_1) 0 a0 ()).bind <| onr (fun r1 => some r1) fun _ =>
  some (-1)
theorem slices_IndexFunc_Occurrence_iCircularOccurrences_1_ok {a0 : (List Occurrence)} {a1_0 : Grammar} {a1_1 : Rule} {r : Int} (hr : slices_IndexFunc_Occurrence_iCircularOccurrences_1_m a0 a1_0 a1_1 = some r) {F0 : Nat → Prop} {w0 : World} {z0 : Value} (ha0 : rdS F0 w0 a0 z0) {b1_0p : Nat} (ha1_0 : CapP F0 w0 b1_0p a1_0) {b1_1p : Nat} (ha1_1 : CapP F0 w0 b1_1p a1_1) :
    Ret Try.prog 100 #[z0, .func (.func 90) #[] #[.pointer (some ⟨b1_0p, 0, none⟩), .pointer (some ⟨b1_1p, 0, none⟩)]] w0 (fun _ => False) fun v w => v = .int .i64 r ∧ I64 r := by
  obtain ⟨A0', n0', c0', rfl⟩ := ha0.form3
  have H := (HL.start F0 w0).argS ha0
  obtain ⟨cpa1_0, H⟩ := H.argP ha1_0
  obtain ⟨A1, n1, c1, A2, n2, c2, rfl, H⟩ := op_Grammar H (i := 2) rfl
  obtain ⟨cpa1_1, H⟩ := H.argP ha1_1
  obtain ⟨A3, n3, c3, A4, n4, c4, A5, n5, c5, rfl, hS1, hS2, H⟩ := op_Rule H (i := 6) rfl
  refine enter Try.func100 rfl rfl rfl ?_
  refine CW.seq (CW.reg ?_)
  refine WL.ev rfl rfl (Ev.as rfl rfl) (WL.nil ?_)
  refine CW.seq (CW.seq (CW.reg ?_))
  refine WL.ev rfl rfl (Ev.mv rfl rfl) ?_
  have hl1 := (H.rS (i := 0) rfl).I
  refine WL.ev rfl rfl (Ev.lenV rfl el33 rfl (H.rS (i := 0) rfl)) (WL.ev rfl rfl (Ev.mv rfl rfl) (WL.nil ?_))
  obtain ⟨q1, hq1, hr⟩ := bd hr
  refine CW.block (CW.loop (α := Nat) (fun k1 => [(0, .slice A0' n0' c0'), (1, .func (.func 90) #[] #[.pointer (some ⟨b1_0p, 0, none⟩), .pointer (some ⟨b1_1p, 0, none⟩)]), (7, .int .i64 (a0.length : Int)), (8, .int .i64 (k1 : Int))]) (fun k1 w => k1 ≤ a0.length ∧ findL (slices_IndexFunc_Occurrence_iCircularOccurrences_1_L1 a1_0 a1_1) k1 (a0.drop k1) () = some q1 ∧ HL F0 [] w0 w [Pr.S a0 (.slice A0' n0' c0'), Pr.A b1_0p 0 [.slice A1 n1 c1, .slice A2 n2 c2], Pr.R a1_0 [.slice A1 n1 c1, .slice A2 n2 c2], Pr.S a1_0.Symbols (.slice A1 n1 c1), Pr.S a1_0.Rules (.slice A2 n2 c2), Pr.A b1_1p 0 [.string a1_1.Name, .string a1_1.Left, .slice A3 n3 c3, .bool a1_1.Literal, .slice A4 n4 c4, .slice A5 n5 c5], Pr.R a1_1 [.string a1_1.Name, .string a1_1.Left, .slice A3 n3 c3, .bool a1_1.Literal, .slice A4 n4 c4, .slice A5 n5 c5], Pr.S a1_1.Right (.slice A3 n3 c3), Pr.S a1_1.Equations (.slice A4 n4 c4), Pr.S a1_1.Contributions (.slice A5 n5 c5)] []) (fun k1 => a0.length - k1) 0 ⟨rfl, rfl, rfl, rfl, trivial⟩ ⟨Nat.zero_le _, hq1, H.keep 10 0⟩ ?_)
  rintro k1 σ w1 ⟨hk1, hq1, H⟩
  refine CW.seq (CW.reg ?_)
  refine WL.ev rfl rfl (Ev.bin rfl rfl rfl Bin.lss) (WL.nil ?_)
  refine CW.seq (CW.condD rfl (fun h1 => ?_) (fun h1 => ?_))
  · skip
    have hk2 := cast_lt h1
    obtain ⟨x1, z1, hx1, hb1, hs1, ht1⟩ := findL_go hq1 hk2
    refine CW.skip ?_
    refine CW.seq (CW.block (CW.seq (CW.reg ?_)))
    refine WL.ev rfl rfl (Ev.mv rfl rfl) (WL.ev rfl rfl (Ev.as rfl rfl) (WL.nil ?_))
    refine CW.seq (CW.reg ?_)
    refine WL.ev rfl rfl (Ev.mv rfl rfl) (WL.ev rfl rfl (Ev.mv rfl rfl) (WL.ev rfl rfl (Ev.mv rfl rfl) ?_))
    obtain ⟨b1, ob1, cb1, hvb1, hI1, hS3, H⟩ := ixS_Occurrence H (i := 0) rfl hx1
    refine WL.ev rfl rfl (Ev.ixVN rfl el33 sz90 rfl hvb1 rfl (lt_of hx1)) (WL.ev rfl rfl (Ev.lda rfl ag90 sz90 rfl (H.rA (i := 10) rfl) rfl) ?_)
    obtain ⟨y1, hy1, hb1⟩ := bd hb1
    refine WL.call rfl rfl rfl rfl rfl ok90 rfl (iCircularOccurrences_1_ok hy1 (F0 := fun q => q < _) ⟨rfl, hI1, hS3⟩ ⟨H.rAl (i := 1) rfl, _, H.rA (i := 1) rfl, ⟨_, _, rfl, (H.rS (i := 3) rfl), (H.rS (i := 4) rfl)⟩⟩ ⟨H.rAl (i := 5) rfl, _, H.rA (i := 5) rfl, ⟨_, _, _, rfl, hS1, hS2, (H.rS (i := 7) rfl), (H.rS (i := 8) rfl), (H.rS (i := 9) rfl)⟩⟩) ?_
    rintro _ w2 hE rfl
    have H := H.ext hE
    refine WL.nil ?_
    refine CW.condB rfl (fun h2 => ?_) (fun h2 => ?_)
    · skip
      have hb1 := ifp h2 hb1
      refine CW.seq (CW.reg ?_)
      refine WL.ev rfl rfl (Ev.mv rfl rfl) (WL.ev rfl rfl (Ev.as rfl rfl) (WL.nil ?_))
      refine CW.ret ?_
      obtain rfl := sm hb1
      obtain rfl := ht1 _ rfl
      obtain rfl := sm hr
      exact ⟨_, res1 rfl rfl rfl, H.ext0, rfl, (i64_nat hk2 hl1)⟩
    · skip
      have hb1 := ifn h2 hb1
      refine CW.skip ?_
      refine CW.reg ?_
      refine WL.ev rfl rfl (Ev.bin rfl rfl rfl (Bin.addN (a := k1) (b := 1) rfl (i64_succN hk2 hl1.2))) (WL.ev rfl rfl (Ev.mv rfl rfl) (WL.nil ?_))
      obtain rfl := sm hb1
      have hq1 := hs1 _ rfl
      exact ⟨(k1 + 1), ⟨rfl, rfl, rfl, rfl, trivial⟩, ⟨hk2, hq1, H.keep 10 0⟩, Nat.sub_lt_sub_left hk2 (Nat.lt_succ_self _)⟩
  · skip
    obtain rfl := findL_end hq1 (not_cast_lt h1)
    refine CW.exit ?_
    refine CW.seq (CW.reg ?_)
    refine WL.ev rfl rfl (Ev.as rfl rfl) (WL.nil ?_)
    refine CW.ret ?_
    obtain rfl := sm hr
    exact ⟨_, res1 rfl rfl rfl, H.ext0, rfl, (by decide : I64 (-1))⟩

noncomputable def slices_DeleteFunc_Occurrence_iCircularOccurrences_1_L1 (o0 : Grammar) (o1 : Rule) : ((List Occurrence) × Int × Int) → Option (((List Occurrence) × Int × Int) ⊕ ((List Occurrence) × Int)) := fun (s3, s4, s5) => 
  if s5 < (s3.length : Int) then (
  (
  grd (0 ≤ s5) <|
  (s3[s5.toNat]?).bind fun x1 =>
  (iCircularOccurrences_1_m x1 o0 o1).bind fun y2 =>
  if y2 = true then (
  some (s4, s3)
  ) else (
  grd (0 ≤ s4) <|
  (s3[s4.toNat]?).bind fun x2 =>
  grd (I64 (s4 + 1)) <|
  some ((s4 + 1), (List.set s3 s4.toNat x1))
  )
  ).bind fun (s6, s7) =>
  grd (I64 (s5 + 1)) <|
  some (.inl (s7, s6, (s5 + 1)))
  ) else (
  some (.inr (s3, s4))
  )
noncomputable def slices_DeleteFunc_Occurrence_iCircularOccurrences_1_m (a0 : (List Occurrence)) (o0 : Grammar) (o1 : Rule) : Option (List Occurrence) :=
  (slices_IndexFunc_Occurrence_iCircularOccurrences_1_m a0 o0 o1).bind fun y1 =>
  if y1 = (-1) then (
  some a0
  ) else (
  grd (I64 (y1 + 1)) <|
  (
  iterO (slices_DeleteFunc_Occurrence_iCircularOccurrences_1_L1 o0 o1) (a0, y1, (y1 + 1))
  ).bind fun (s1, s2) =>
  grd (0 ≤ s2) <|
  grd (s2.toNat ≤ s1.length) <|
  grd (0 ≤ s2) <|
  grd (s2.toNat ≤ (s1.take s2.toNat ++ List.replicate (s1.length - s2.toNat) (⟨(0 : Int), (⟨#[]⟩ : ByteArray)⟩ : Occurrence)).length) <|
  some ((s1.take s2.toNat ++ List.replicate (s1.length - s2.toNat) (⟨(0 : Int), (⟨#[]⟩ : ByteArray)⟩ : Occurrence)).take s2.toNat)
  )
theorem slices_DeleteFunc_Occurrence_iCircularOccurrences_1_ok {a0 : (List Occurrence)} {o0 : Grammar} {o1 : Rule} {r : (List Occurrence)} (hr : slices_DeleteFunc_Occurrence_iCircularOccurrences_1_m a0 o0 o1 = some r) {F0 : Nat → Prop} {M : List Nat} {w0 : World} {bo0 : Nat} {bo1 : Nat} {Aa0 : Option Addr} {na0 ca0 : Nat} {Ao0_0 : Option Addr} {no0_0 co0_0 : Nat} {Ao0_1 : Option Addr} {no0_1 co0_1 : Nat} {Ao1_2 : Option Addr} {no1_2 co1_2 : Nat} {Ao1_4 : Option Addr} {no1_4 co1_4 : Nat} {Ao1_5 : Option Addr} {no1_5 co1_5 : Nat} (hIo1_0 : o1.Name.size ≤ 9223372036854775807) (hIo1_1 : o1.Left.size ≤ 9223372036854775807) (H : HL F0 M w0 w0 [Pr.S o0.Symbols (.slice Ao0_0 no0_0 co0_0), Pr.S o0.Rules (.slice Ao0_1 no0_1 co0_1), Pr.S o1.Right (.slice Ao1_2 no1_2 co1_2), Pr.S o1.Equations (.slice Ao1_4 no1_4 co1_4), Pr.S o1.Contributions (.slice Ao1_5 no1_5 co1_5)] [It.B bo0 48 [.slice Ao0_0 no0_0 co0_0, .slice Ao0_1 no0_1 co0_1], It.B bo1 65 [.string o1.Name, .string o1.Left, .slice Ao1_2 no1_2 co1_2, .bool o1.Literal, .slice Ao1_4 no1_4 co1_4, .slice Ao1_5 no1_5 co1_5], It.O 90 a0 (.slice Aa0 na0 ca0)]) :
    Ret Try.prog 89 #[.slice Aa0 na0 ca0, .func (.func 90) #[] #[.pointer (some ⟨bo0, 0, none⟩), .pointer (some ⟨bo1, 0, none⟩)]] w0 (· ∈ M) fun v w => ∃ A0 : Option Addr, ∃ n0 c0 : Nat, v = (.slice A0 n0 c0) ∧ HL F0 M w0 w [] [It.B bo0 48 [.slice Ao0_0 no0_0 co0_0, .slice Ao0_1 no0_1 co0_1], It.B bo1 65 [.string o1.Name, .string o1.Left, .slice Ao1_2 no1_2 co1_2, .bool o1.Literal, .slice Ao1_4 no1_4 co1_4, .slice Ao1_5 no1_5 co1_5], It.O 90 r (.slice A0 n0 c0)] := by
  refine enter Try.func89 rfl rfl rfl ?_
  refine CW.seq (CW.reg ?_)
  refine WL.ev rfl rfl (Ev.as rfl rfl) (WL.nil ?_)
  refine CW.seq (CW.reg ?_)
  refine WL.ev rfl rfl (Ev.mv rfl rfl) (WL.ev rfl rfl (Ev.mv rfl rfl) ?_)
  obtain ⟨y1, hy1, hr⟩ := bd hr
  refine WL.call rfl rfl rfl rfl rfl ok100 rfl (slices_IndexFunc_Occurrence_iCircularOccurrences_1_ok hy1 (H.rO (i := 2) rfl) ⟨(H.rB (i := 0) rfl).lt, _, At.blk (H.rB (i := 0) rfl), ⟨_, _, rfl, (H.rS (i := 0) rfl), (H.rS (i := 1) rfl)⟩⟩ ⟨(H.rB (i := 1) rfl).lt, _, At.blk (H.rB (i := 1) rfl), ⟨_, _, _, rfl, hIo1_0, hIo1_1, (H.rS (i := 2) rfl), (H.rS (i := 3) rfl), (H.rS (i := 4) rfl)⟩⟩) ?_
  rintro _ w1 hE ⟨rfl, hI1⟩
  have H := H.ext hE
  refine WL.ev rfl rfl (Ev.as rfl rfl) (WL.nil ?_)
  refine CW.seq (CW.seq (CW.reg ?_))
  refine WL.ev rfl rfl (Ev.mv rfl rfl) (WL.ev rfl rfl (Ev.bin rfl rfl rfl Bin.eql) (WL.nil ?_))
  refine CW.condD rfl (fun h1 => ?_) (fun h1 => ?_)
  · skip
    have hr := ifp h1 hr
    refine CW.seq (CW.reg ?_)
    refine WL.ev rfl rfl (Ev.mv rfl rfl) (WL.ev rfl rfl (Ev.as rfl rfl) (WL.nil ?_))
    refine CW.ret ?_
    obtain rfl := sm hr
    exact ⟨_, res1 rfl rfl rfl, H.chg, _, _, _, rfl, H.outM (fr' := []) [true, true, true] fun _ _ => trivial⟩
  · skip
    have hr := ifn h1 hr
    refine CW.skip ?_
    refine CW.seq (CW.seq (CW.reg ?_))
    refine WL.ev rfl rfl (Ev.mv rfl rfl) ?_
    obtain ⟨hg1, hr⟩ := grd_some hr
    refine WL.ev rfl rfl (Ev.bin rfl rfl rfl (Bin.add hg1)) (WL.ev rfl rfl (Ev.as rfl rfl) (WL.nil ?_))
    obtain ⟨q1, hm1, hr⟩ := bd hr
    refine CW.mid (fun ρ' w => ∃ (s1 : List Occurrence) (s2 : Int), q1 = (s1, s2) ∧ agree ρ' [(0, .slice Aa0 na0 ca0), (5, .int .i64 s2)] ∧ I64 s2 ∧ HL F0 M w0 w [Pr.S o0.Symbols (.slice Ao0_0 no0_0 co0_0), Pr.S o0.Rules (.slice Ao0_1 no0_1 co0_1), Pr.S o1.Right (.slice Ao1_2 no1_2 co1_2), Pr.S o1.Equations (.slice Ao1_4 no1_4 co1_4), Pr.S o1.Contributions (.slice Ao1_5 no1_5 co1_5)] [It.B bo0 48 [.slice Ao0_0 no0_0 co0_0, .slice Ao0_1 no0_1 co0_1], It.B bo1 65 [.string o1.Name, .string o1.Left, .slice Ao1_2 no1_2 co1_2, .bool o1.Literal, .slice Ao1_4 no1_4 co1_4, .slice Ao1_5 no1_5 co1_5], It.O 90 s1 (.slice Aa0 na0 ca0)]) ?_ ?_
    · skip
      obtain ⟨m1, hq1⟩ := iterO_some.1 hm1
      refine CW.block (CW.loop (α := Nat × (List Occurrence) × Int × Int) (fun ⟨m1, s3, s4, s5⟩ => [(0, .slice Aa0 na0 ca0), (1, .func (.func 90) #[] #[.pointer (some ⟨bo0, 0, none⟩), .pointer (some ⟨bo1, 0, none⟩)]), (5, .int .i64 s4), (6, .int .i64 s5)]) (fun ⟨m1, s3, s4, s5⟩ w => iterN (slices_DeleteFunc_Occurrence_iCircularOccurrences_1_L1 o0 o1) m1 (s3, s4, s5) = some q1 ∧ I64 s4 ∧ I64 s5 ∧ HL F0 M w0 w [Pr.S o0.Symbols (.slice Ao0_0 no0_0 co0_0), Pr.S o0.Rules (.slice Ao0_1 no0_1 co0_1), Pr.S o1.Right (.slice Ao1_2 no1_2 co1_2), Pr.S o1.Equations (.slice Ao1_4 no1_4 co1_4), Pr.S o1.Contributions (.slice Ao1_5 no1_5 co1_5)] [It.B bo0 48 [.slice Ao0_0 no0_0 co0_0, .slice Ao0_1 no0_1 co0_1], It.B bo1 65 [.string o1.Name, .string o1.Left, .slice Ao1_2 no1_2 co1_2, .bool o1.Literal, .slice Ao1_4 no1_4 co1_4, .slice Ao1_5 no1_5 co1_5], It.O 90 s3 (.slice Aa0 na0 ca0)]) (fun ⟨m1, s3, s4, s5⟩ => m1) ⟨m1, a0, y1, (y1 + 1)⟩ ⟨rfl, rfl, rfl, rfl, trivial⟩ ⟨hq1, hI1, hg1, H.keep 5 3⟩ ?_)
      rintro ⟨m1, s3, s4, s5⟩ σ w2 ⟨hq1, hI3, hI4, H⟩
      obtain ⟨m2, z1, rfl, hb1, hs1, ht1⟩ := iterN_go hq1
      refine CW.seq (CW.seq (CW.reg ?_))
      refine WL.ev rfl rfl (Ev.mv rfl rfl) (WL.ev rfl rfl (Ev.mv rfl rfl) ?_)
      have hl1 := (H.rO (i := 2) rfl).I
      refine WL.ev rfl rfl (Ev.lenV rfl el33 rfl (H.rO (i := 2) rfl)) (WL.ev rfl rfl (Ev.bin rfl rfl rfl Bin.lss) (WL.nil ?_))
      refine CW.condD rfl (fun h2 => ?_) (fun h2 => ?_)
      · skip
        have hb1 := ifp h2 hb1
        refine CW.skip ?_
        obtain ⟨q2, hm2, hb1⟩ := bd hb1
        refine CW.seq (CW.mid (fun ρ' w => ∃ (s6 : Int) (s7 : List Occurrence), q2 = (s6, s7) ∧ agree ρ' [(0, .slice Aa0 na0 ca0), (1, .func (.func 90) #[] #[.pointer (some ⟨bo0, 0, none⟩), .pointer (some ⟨bo1, 0, none⟩)]), (5, .int .i64 s6), (6, .int .i64 s5)] ∧ I64 s6 ∧ HL F0 M w0 w [Pr.S o0.Symbols (.slice Ao0_0 no0_0 co0_0), Pr.S o0.Rules (.slice Ao0_1 no0_1 co0_1), Pr.S o1.Right (.slice Ao1_2 no1_2 co1_2), Pr.S o1.Equations (.slice Ao1_4 no1_4 co1_4), Pr.S o1.Contributions (.slice Ao1_5 no1_5 co1_5)] [It.B bo0 48 [.slice Ao0_0 no0_0 co0_0, .slice Ao0_1 no0_1 co0_1], It.B bo1 65 [.string o1.Name, .string o1.Left, .slice Ao1_2 no1_2 co1_2, .bool o1.Literal, .slice Ao1_4 no1_4 co1_4, .slice Ao1_5 no1_5 co1_5], It.O 90 s7 (.slice Aa0 na0 ca0)]) ?_ ?_)
        · skip
          refine CW.block (CW.seq (CW.reg ?_))
          refine WL.ev rfl rfl (Ev.mv rfl rfl) (WL.ev rfl rfl (Ev.mv rfl rfl) ?_)
          obtain ⟨hg2, hm2⟩ := grd_some hm2
          obtain ⟨x1, hx1, hm2⟩ := bd hm2
          obtain ⟨b1, cb1, hvb1, hbb1⟩ := H.ptO (i := 2) rfl hx1
          refine WL.ev rfl rfl (Ev.ixV rfl el33 sz90 rfl hvb1 rfl hg2 (lt_of hx1)) ?_
          obtain ⟨hA1, hI6, hS1, H⟩ := elO_Occurrence H (i := 2) rfl hx1 hbb1
          refine WL.ev rfl rfl (Ev.lda rfl ag90 sz90 rfl hA1 rfl) ?_
          refine WL.allocH rfl rfl rfl ze90 H fun b2 w3 H => ?_
          refine WL.stB (i := 3) rfl rfl rfl sz90 rfl rfl rfl rfl (all1 rfl (all1 rfl all0)) H rfl rfl rfl fun w4 H => ?_
          refine WL.nil ?_
          refine CW.seq (CW.reg ?_)
          refine WL.ev rfl rfl (Ev.mv rfl rfl) (WL.ev rfl rfl (Ev.lda rfl ag90 sz90 rfl (At.blk (H.rB (i := 3) rfl)) rfl) ?_)
          obtain ⟨y2, hy2, hm2⟩ := bd hm2
          refine WL.call rfl rfl rfl rfl rfl ok90 rfl (iCircularOccurrences_1_ok hy2 (F0 := fun q => q < _) ⟨rfl, hI6, hS1⟩ ⟨(H.rB (i := 0) rfl).lt, _, At.blk (H.rB (i := 0) rfl), ⟨_, _, rfl, (H.rS (i := 0) rfl), (H.rS (i := 1) rfl)⟩⟩ ⟨(H.rB (i := 1) rfl).lt, _, At.blk (H.rB (i := 1) rfl), ⟨_, _, _, rfl, hIo1_0, hIo1_1, (H.rS (i := 2) rfl), (H.rS (i := 3) rfl), (H.rS (i := 4) rfl)⟩⟩) ?_
          rintro _ w5 hE rfl
          have H := H.ext hE
          refine WL.ev rfl rfl (Ev.not rfl rfl) (WL.nil ?_)
          refine CW.condBN rfl (fun h3 => ?_) (fun h3 => ?_)
          · skip
            have hm2 := ifn h3 hm2
            refine CW.seq (CW.reg ?_)
            refine WL.ev rfl rfl (Ev.mv rfl rfl) (WL.ev rfl rfl (Ev.mv rfl rfl) (WL.ev rfl rfl (Ev.lda rfl ag90 sz90 rfl (At.blk (H.rB (i := 3) rfl)) rfl) ?_))
            obtain ⟨hg3, hm2⟩ := grd_some hm2
            obtain ⟨x2, hx2, hm2⟩ := bd hm2
            obtain ⟨b3, cb3, hvb3, hbb3⟩ := H.ptO (i := 2) rfl hx2
            refine WL.ev rfl rfl (Ev.ixV rfl el33 sz90 rfl hvb3 rfl hg3 (lt_of hx2)) ?_
            refine WL.stOf (i := 2) (z := x1) rfl rfl rfl sz90 rfl rfl rfl (fun _ => ⟨rfl, hI6, hS1, rfl⟩) H rfl hbb3 (by simpa using lt_of hx2) fun w6 H => ?_
            refine WL.nil ?_
            refine CW.reg ?_
            refine WL.ev rfl rfl (Ev.mv rfl rfl) ?_
            obtain ⟨hg4, hm2⟩ := grd_some hm2
            refine WL.ev rfl rfl (Ev.bin rfl rfl rfl (Bin.add hg4)) (WL.ev rfl rfl (Ev.as rfl rfl) (WL.nil ?_))
            obtain rfl := sm hm2
            exact ⟨(s4 + 1), (List.set s3 s4.toNat x1), rfl, ⟨rfl, rfl, rfl, rfl, trivial⟩, hg4, H.keep 5 3⟩
          · skip
            have hm2 := ifp h3 hm2
            refine CW.skip ?_
            obtain rfl := sm hm2
            exact ⟨s4, s3, rfl, ⟨rfl, rfl, rfl, rfl, trivial⟩, hI3, H.keep 5 3⟩
        · rintro ρ' w7 ⟨s6, s7, rfl, hag, hI5, H⟩
          obtain ⟨σ, rfl⟩ := ofL_ex hag
          refine CW.reg ?_
          refine WL.ev rfl rfl (Ev.mv rfl rfl) ?_
          obtain ⟨hg5, hb1⟩ := grd_some hb1
          refine WL.ev rfl rfl (Ev.bin rfl rfl rfl (Bin.add hg5)) (WL.ev rfl rfl (Ev.as rfl rfl) (WL.nil ?_))
          obtain rfl := sm hb1
          exact ⟨⟨m2, s7, s6, (s5 + 1)⟩, ⟨rfl, rfl, rfl, rfl, trivial⟩, ⟨hs1 _ rfl, hI5, hg5, H.keep 5 3⟩, Nat.lt_succ_self _⟩
      · skip
        have hb1 := ifn h2 hb1
        refine CW.exit ?_
        obtain rfl := sm hb1
        obtain rfl := ht1 _ rfl
        exact ⟨s3, s4, rfl, ⟨rfl, rfl, trivial⟩, hI3, H.keep 5 3⟩
    · rintro ρ' w8 ⟨s1, s2, rfl, hag, hI2, H⟩
      obtain ⟨σ, rfl⟩ := ofL_ex hag
      refine CW.seq (CW.reg ?_)
      refine WL.ev rfl rfl (Ev.mv rfl rfl) (WL.ev rfl rfl (Ev.mv rfl rfl) ?_)
      obtain ⟨hg6, hr⟩ := grd_some hr
      obtain ⟨hg7, hr⟩ := grd_some hr
      obtain ⟨A1, n1, c1, e2, hc1⟩ := H.subO (i := 2) rfl hg7
      refine WL.ev rfl rfl (Ev.slLV rfl el33 sz90 rfl rfl ((Int.toNat_of_nonneg hg6).symm) hc1 e2) ?_
      refine WL.clrO (i := 2) (x0 := (⟨(0 : Int), (⟨#[]⟩ : ByteArray)⟩ : Occurrence)) rfl rfl rfl el33 sz90 ze90 (fun _ => ⟨rfl, (by decide : I64 0), (by decide), rfl⟩) rfl H rfl hc1 e2 fun w9 H => ?_
      refine WL.nil ?_
      refine CW.seq (CW.reg ?_)
      refine WL.ev rfl rfl (Ev.mv rfl rfl) (WL.ev rfl rfl (Ev.mv rfl rfl) ?_)
      obtain ⟨hg8, hr⟩ := grd_some hr
      obtain ⟨hg9, hr⟩ := grd_some hr
      obtain ⟨A2, n2, c2, e3, hc2, H⟩ := H.cutO (i := 2) rfl hg9
      refine WL.ev rfl rfl (Ev.slHV rfl el33 sz90 rfl rfl ((Int.toNat_of_nonneg hg8).symm) hc2 e3) (WL.ev rfl rfl (Ev.as rfl rfl) (WL.nil ?_))
      refine CW.ret ?_
      obtain rfl := sm hr
      exact ⟨_, res1 rfl rfl rfl, H.chg, _, _, _, rfl, H.outM (fr' := []) [true, true, true] fun _ _ => trivial⟩

noncomputable def iCircularOccurrences_m (a0 : Grammar) (a1 : Rule) : Option (List Occurrence) :=
  (iOccurrencesOf_m a0 a1).bind fun y1 =>
  (slices_DeleteFunc_Occurrence_iCircularOccurrences_1_m y1 a0 a1).bind fun y2 =>
  some y2
theorem iCircularOccurrences_ok {a0 : Grammar} {a1 : Rule} {r : (List Occurrence)} (hr : iCircularOccurrences_m a0 a1 = some r) {F0 : Nat → Prop} {w0 : World} {ca0 : List Value} (ha0 : rd F0 w0 a0 ca0) {ca1 : List Value} (ha1 : rd F0 w0 a1 ca1) :
    Ret Try.prog 43 #[.agg ca0.toArray, .agg ca1.toArray] w0 (fun _ => False) fun v w => ∃ A0 : Option Addr, ∃ n0 c0 : Nat, v = (.slice A0 n0 c0) ∧ HL F0 [] w0 w [] [It.O 90 r (.slice A0 n0 c0)] := by
  have H := ((HL.start F0 w0).argR ha0).argR ha1
  obtain ⟨A1, n1, c1, A2, n2, c2, rfl, H⟩ := op_Grammar H (i := 0) rfl
  obtain ⟨A3, n3, c3, A4, n4, c4, A5, n5, c5, rfl, hS1, hS2, H⟩ := op_Rule H (i := 1) rfl
  refine enter Try.func43 rfl rfl rfl ?_
  refine CW.seq (CW.reg ?_)
  refine WL.boxH rfl rfl rfl rfl rfl H fun b1 w1 H => ?_
  refine WL.boxH rfl rfl rfl rfl rfl H fun b2 w2 H => ?_
  refine WL.ev rfl rfl (Ev.as rfl rfl) (WL.nil ?_)
  refine CW.seq (CW.reg ?_)
  refine WL.ev rfl rfl (Ev.lda rfl ag48 sz48 rfl (At.blk (H.rB (i := 0) rfl)) rfl) (WL.ev rfl rfl (Ev.lda rfl ag65 sz65 rfl (At.blk (H.rB (i := 1) rfl)) rfl) ?_)
  obtain ⟨y1, hy1, hr⟩ := bd hr
  refine WL.call rfl rfl rfl rfl rfl ok32 rfl (iOccurrencesOf_ok hy1 ⟨_, _, rfl, (H.rS (i := 2) rfl), (H.rS (i := 3) rfl)⟩ ⟨_, _, _, rfl, hS1, hS2, (H.rS (i := 4) rfl), (H.rS (i := 5) rfl), (H.rS (i := 6) rfl)⟩) ?_
  rintro _ w3 hE ⟨A6, n6, c6, rfl, H'⟩
  have H := H.callA H' ⟨fun _ _ _ _ _ h => h, trivial⟩
  refine WL.ev rfl rfl (Ev.mkfL rfl rfl rfl) ?_
  obtain ⟨y2, hy2, hr⟩ := bd hr
  obtain ⟨F', M', hfF, hoF, hcM⟩ := H.callN [true, true, true] ⟨noB, noB, noO, trivial⟩
  obtain ⟨H', hcN⟩ := hcM (ps := [Pr.S a0.Symbols (.slice A1 n1 c1), Pr.S a0.Rules (.slice A2 n2 c2), Pr.S a1.Right (.slice A3 n3 c3), Pr.S a1.Equations (.slice A4 n4 c4), Pr.S a1.Contributions (.slice A5 n5 c5)]) ⟨hfF.get (i := 2) rfl, hfF.get (i := 3) rfl, hfF.get (i := 4) rfl, hfF.get (i := 5) rfl, hfF.get (i := 6) rfl, trivial⟩
  refine WL.call rfl rfl rfl rfl rfl ok89 rfl (slices_DeleteFunc_Occurrence_iCircularOccurrences_1_ok hy2 hS1 hS2 H') ?_
  rintro _ w4 hE ⟨A7, n7, c7, rfl, H'⟩
  have H := hcN 3 H' rfl ⟨fun _ _ _ _ _ h => h, ⟨fun _ _ _ _ _ h => h, ⟨fun _ _ _ _ _ h => h, trivial⟩⟩⟩
  refine WL.ev rfl rfl (Ev.as rfl rfl) (WL.nil ?_)
  refine CW.ret ?_
  obtain rfl := sm hr
  exact ⟨_, res1 rfl rfl rfl, H.ext0, _, _, _, rfl, H.outM (fr' := []) [false, false, true] fun _ _ => trivial⟩

noncomputable def sEmptyRelation_m (a0 : Int) : Option Relation :=
  (sl1In_m a0 0 16).bind fun y1 =>
  if y1 = true then (
  grd (0 ≤ a0 ∧ a0 * 8 ≤ 281474976710656 ∧ a0 ≤ 9223372036854775807) <|
  some (⟨a0, (List.replicate a0.toNat (0 : Int))⟩ : Relation)
  ) else (
  some (⟨0, []⟩ : Relation)
  )
theorem sEmptyRelation_ok {a0 : Int} {r : Relation} (hr : sEmptyRelation_m a0 = some r) {F0 : Nat → Prop} {w0 : World} (ha0 : I64 a0) :
    Ret Try.prog 93 #[.int .i64 a0] w0 (fun _ => False) fun v w => ∃ A0 : Option Addr, ∃ n0 c0 : Nat, v = .agg #[.int .i64 r.N, (.slice A0 n0 c0)] ∧ I64 r.N ∧ HL F0 [] w0 w [] [It.O 3 r.Rows (.slice A0 n0 c0)] := by
  have H := HL.start F0 w0
  refine enter Try.func93 rfl rfl rfl ?_
  refine CW.seq (CW.reg ?_)
  refine WL.allocH rfl rfl rfl ze79 H fun b1 w1 H => ?_
  refine WL.nil ?_
  refine CW.seq (CW.seq (CW.reg ?_))
  refine WL.ev rfl rfl (Ev.mv rfl rfl) ?_
  obtain ⟨y1, hy1, hr⟩ := bd hr
  refine WL.call rfl rfl rfl rfl rfl ok113 rfl (sl1In_ok hy1 (F0 := fun _ => False) ha0 (by decide : I64 0) (by decide : I64 16)) ?_
  rintro _ w2 hE rfl
  have H := H.ext hE
  refine WL.ev rfl rfl (Ev.not rfl rfl) (WL.nil ?_)
  refine CW.condBN rfl (fun h1 => ?_) (fun h1 => ?_)
  · skip
    have hr := ifn h1 hr
    refine CW.seq (CW.reg ?_)
    refine WL.ev rfl rfl (Ev.build rfl pl79 ze79 rfl rfl rfl rfl) ?_
    refine WL.stB (i := 0) rfl rfl rfl sz79 rfl rfl rfl rfl (all1 rfl (all1 rfl all0)) H rfl rfl rfl fun w3 H => ?_
    refine WL.nil ?_
    refine CW.ret ?_
    have H := H.nil (α := Int) 3
    obtain rfl := sm hr
    exact ⟨_, resC rfl ag79 sz79 rfl rfl (At.blk (H.rB (i := 0) rfl)) rfl, H.ext0, _, _, _, rfl, (by decide : I64 0), H.outM (fr' := []) [false, true] fun _ _ => trivial⟩
  · skip
    have hr := ifp h1 hr
    refine CW.skip ?_
    refine CW.seq (CW.reg ?_)
    refine WL.ev rfl rfl (Ev.mv rfl rfl) (WL.ev rfl rfl (Ev.mv rfl rfl) ?_)
    obtain ⟨hg1, hr⟩ := grd_some hr
    refine WL.mkH (x := (0 : Int)) rfl rfl rfl el71 sz3 by3 ze3 (fun _ => ⟨rfl, rfl, (by decide : I64 0)⟩) rfl rfl hg1 H fun A1 n1 c1 w4 H => ?_
    refine WL.ev rfl rfl (Ev.build rfl pl79 ze79 rfl rfl rfl rfl) ?_
    refine WL.stB (i := 0) rfl rfl rfl sz79 rfl rfl rfl rfl (all1 rfl (all1 rfl all0)) H rfl rfl rfl fun w5 H => ?_
    refine WL.nil ?_
    refine CW.ret ?_
    obtain rfl := sm hr
    exact ⟨_, resC rfl ag79 sz79 rfl rfl (At.blk (H.rB (i := 0) rfl)) rfl, H.ext0, _, _, _, rfl, ha0, H.outM (fr' := []) [false, true] fun _ _ => trivial⟩

noncomputable def sIsValidRelation_L1 (a0 : Relation) : Nat → Unit → Option (Unit ⊕ Bool) := fun k1 _ => 
  (a0.Rows[k1]?).bind fun x1 =>
  grd (0 ≤ a0.N) <|
  grd (0 ≤ a0.N ∧ a0.N < 63) <|
  (sl1In_m x1 0 (((2 ^ a0.N.toNat : Nat) : Int) - 1)).bind fun y2 =>
  if y2 = true then (
  some (.inl ())
  ) else (
  some (.inr false)
  )
noncomputable def sIsValidRelation_m (a0 : Relation) : Option Bool :=
  (sl1In_m a0.N 0 16).bind fun y1 =>
  if y1 = true then (
  if (a0.Rows.length : Int) = a0.N then (
  (findN (sIsValidRelation_L1 a0) 0 (a0.N.toNat) ()).bind <| onr (fun r1 => some r1) fun _ =>
  some true
  ) else (
  some false
  )
  ) else (
  some false
  )
theorem sIsValidRelation_ok {a0 : Relation} {r : Bool} (hr : sIsValidRelation_m a0 = some r) {F0 : Nat → Prop} {w0 : World} {ca0 : List Value} (ha0 : rd F0 w0 a0 ca0) :
    Ret Try.prog 121 #[.agg ca0.toArray] w0 (fun _ => False) fun v w => v = .bool r := by
  have H := (HL.start F0 w0).argR ha0
  obtain ⟨A1, n1, c1, rfl, hI1, H⟩ := op_Relation H (i := 0) rfl
  refine enter Try.func121 rfl rfl rfl ?_
  refine CW.seq (CW.reg ?_)
  refine WL.boxH rfl rfl rfl rfl rfl H fun b1 w1 H => ?_
  refine WL.ev rfl rfl (Ev.as rfl rfl) (WL.nil ?_)
  refine CW.seq (CW.seq (CW.reg ?_))
  refine WL.ev rfl rfl (Ev.fa rfl fo79_0 rfl) (WL.ev rfl rfl (Ev.ld rfl ag3 rfl ((H.rB (i := 0) rfl).cell rfl)) ?_)
  obtain ⟨y1, hy1, hr⟩ := bd hr
  refine WL.call rfl rfl rfl rfl rfl ok113 rfl (sl1In_ok hy1 (F0 := fun _ => False) hI1 (by decide : I64 0) (by decide : I64 16)) ?_
  rintro _ w2 hE rfl
  have H := H.ext hE
  refine WL.ev rfl rfl (Ev.not rfl rfl) ?_
  refine WL.mvBN rfl rfl rfl rfl (fun h1 => ?_) (fun h1 => ?_)
  · skip
    have hr := ifn h1 hr
    refine WL.off rfl rfl rfl (WL.off rfl rfl rfl (WL.off rfl rfl rfl (WL.off rfl rfl rfl (WL.off rfl rfl rfl (WL.off rfl rfl rfl (WL.ev rfl rfl (Ev.pickT rfl rfl rfl) (WL.nil ?_)))))))
    refine CW.condT rfl ?_
    refine CW.seq (CW.reg ?_)
    refine WL.ev rfl rfl (Ev.as rfl rfl) (WL.nil ?_)
    refine CW.ret ?_
    obtain rfl := sm hr
    exact ⟨_, res1 rfl rfl rfl, H.ext0, rfl⟩
  · skip
    have hr := ifp h1 hr
    refine WL.on rfl rfl (WL.ev rfl rfl (Ev.fa rfl fo79_1 rfl) (WL.on rfl rfl (WL.ev rfl rfl (Ev.ld rfl ag71 rfl ((H.rB (i := 0) rfl).cell rfl)) (WL.on rfl rfl ?_))))
    have hl1 := (H.rS (i := 1) rfl).I
    refine WL.ev rfl rfl (Ev.lenV rfl el71 rfl (H.rS (i := 1) rfl)) (WL.on rfl rfl (WL.ev rfl rfl (Ev.fa rfl fo79_0 rfl) (WL.on rfl rfl (WL.ev rfl rfl (Ev.ld rfl ag3 rfl ((H.rB (i := 0) rfl).cell rfl)) (WL.on rfl rfl (WL.ev rfl rfl (Ev.bin rfl rfl rfl Bin.neq) (WL.ev rfl rfl (Ev.pickF rfl rfl rfl) (WL.nil ?_))))))))
    refine CW.condN rfl (fun h2 => ?_) (fun h2 => ?_)
    · skip
      have hr := ifn h2 hr
      refine CW.seq (CW.reg ?_)
      refine WL.ev rfl rfl (Ev.as rfl rfl) (WL.nil ?_)
      refine CW.ret ?_
      obtain rfl := sm hr
      exact ⟨_, res1 rfl rfl rfl, H.ext0, rfl⟩
    · skip
      have hr := ifp h2 hr
      refine CW.skip ?_
      refine CW.seq (CW.seq (CW.reg ?_))
      refine WL.ev rfl rfl (Ev.as rfl rfl) (WL.nil ?_)
      obtain ⟨q1, hq1, hr⟩ := bd hr
      refine CW.block (CW.loop (α := Nat) (fun k1 => [(1, .pointer (some ⟨b1, 0, none⟩)), (3, .int .i64 (k1 : Int))]) (fun k1 w => k1 ≤ a0.N.toNat ∧ findN (sIsValidRelation_L1 a0) k1 (a0.N.toNat - k1) () = some q1 ∧ HL F0 [] w0 w [Pr.R a0 [.int .i64 a0.N, .slice A1 n1 c1], Pr.S a0.Rows (.slice A1 n1 c1)] [It.B b1 79 [.int .i64 a0.N, .slice A1 n1 c1]]) (fun k1 => a0.N.toNat - k1) 0 ⟨rfl, rfl, trivial⟩ ⟨Nat.zero_le _, hq1, H.keep 2 1⟩ ?_)
      rintro k1 σ w3 ⟨hk1, hq1, H⟩
      refine CW.seq (CW.seq (CW.reg ?_))
      refine WL.ev rfl rfl (Ev.mv rfl rfl) (WL.ev rfl rfl (Ev.fa rfl fo79_0 rfl) (WL.ev rfl rfl (Ev.ld rfl ag3 rfl ((H.rB (i := 0) rfl).cell rfl)) (WL.ev rfl rfl (Ev.bin rfl rfl rfl Bin.lss) (WL.nil ?_))))
      refine CW.condD rfl (fun h3 => ?_) (fun h3 => ?_)
      · skip
        have hk2 := toNat_lt h3
        obtain ⟨z1, hb1, hs1, ht1⟩ := findN_go hq1 hk2
        refine CW.skip ?_
        refine CW.seq (CW.block (CW.seq (CW.quiet hmix (by kernel_rfl) ?_)))
        refine QL.ev rfl rfl (fun _ _ => Ev.fa rfl fo79_1 rfl) (QL.ev rfl rfl (fun _ hq => Ev.ld rfl ag71 rfl (((H.ext hq).rB (i := 0) rfl).cell rfl)) (QL.ev rfl rfl (fun _ _ => Ev.mv rfl rfl) ?_))
        obtain ⟨x1, hx1, hb1⟩ := bd hb1
        obtain ⟨b2, ob2, cb2, hvb2, hI2, H⟩ := ixS_Int H (i := 1) rfl hx1
        refine QL.ev rfl rfl (fun _ _ => Ev.ixVN rfl el71 sz3 rfl hvb2 rfl (lt_of hx1)) (QL.ev rfl rfl (fun _ hq => Ev.ld rfl ag3 rfl (((H.ext hq).rA (i := 2) rfl).cell0 rfl)) (QL.ev rfl rfl (fun _ _ => Ev.fa rfl fo79_0 rfl) (QL.ev rfl rfl (fun _ hq => Ev.ld rfl ag3 rfl (((H.ext hq).rB (i := 0) rfl).cell rfl)) ?_)))
        obtain ⟨hg1, hb1⟩ := grd_some hb1
        refine QL.ev rfl rfl (fun _ _ => Ev.convUI rfl Try.underlying3 it166 rfl hg1 hI1.2) ?_
        obtain ⟨hg2, hb1⟩ := grd_some hb1
        refine QL.ev rfl rfl (fun _ _ => Ev.bin rfl rfl rfl (Bin.shlI hg2.1 hg2.2)) (QL.ev rfl rfl (fun _ _ => Ev.bin rfl rfl rfl (Bin.sub (i64_sub (k := 1) (i64_pow hg2.2) (by decide)))) ?_)
        obtain ⟨y2, hy2, hb1⟩ := bd hb1
        refine QL.call rfl rfl rfl rfl rfl ok113 rfl (fun _ hq => sl1In_ok hy2 (F0 := fun _ => False) hI2 (by decide : I64 0) (i64_sub (k := 1) (i64_pow hg2.2) (by decide))) ?_
        refine QL.ev rfl rfl (fun _ _ => Ev.not rfl rfl) (QL.nil (fun w4 hE => ?_))
        have H := H.ext hE
        refine CW.condBN rfl (fun h4 => ?_) (fun h4 => ?_)
        · skip
          have hb1 := ifn h4 hb1
          refine CW.seq (CW.reg ?_)
          refine WL.ev rfl rfl (Ev.as rfl rfl) (WL.nil ?_)
          refine CW.ret ?_
          obtain rfl := sm hb1
          obtain rfl := ht1 _ rfl
          obtain rfl := sm hr
          exact ⟨_, res1 rfl rfl rfl, H.ext0, rfl⟩
        · skip
          have hb1 := ifp h4 hb1
          refine CW.skip ?_
          refine CW.reg ?_
          refine WL.ev rfl rfl (Ev.mv rfl rfl) (WL.ev rfl rfl (Ev.bin rfl rfl rfl (Bin.addN (a := k1) (b := 1) rfl (i64_succNI h3 hI1.2))) (WL.ev rfl rfl (Ev.as rfl rfl) (WL.nil ?_)))
          obtain rfl := sm hb1
          have hq1 := hs1 _ rfl
          exact ⟨(k1 + 1), ⟨rfl, rfl, trivial⟩, ⟨hk2, hq1, H.keep 2 1⟩, Nat.sub_lt_sub_left hk2 (Nat.lt_succ_self _)⟩
      · skip
        obtain rfl := findN_end hq1 (not_toNat_lt h3)
        refine CW.exit ?_
        refine CW.seq (CW.reg ?_)
        refine WL.ev rfl rfl (Ev.as rfl rfl) (WL.nil ?_)
        refine CW.ret ?_
        obtain rfl := sm hr
        exact ⟨_, res1 rfl rfl rfl, H.ext0, rfl⟩

noncomputable def sHasPair_m (a0 : Relation) (a1 : Int) (a2 : Int) : Option Bool :=
  (sIsValidRelation_m a0).bind fun y1 =>
  (
  if y1 = true then (
  grd (I64 (a0.N - 1)) <|
  (sl1In_m a1 0 (a0.N - 1)).bind fun y2 =>
  some y2
  ) else (
  some false
  )
  ).bind fun s1 =>
  (
  if s1 = true then (
  grd (I64 (a0.N - 1)) <|
  (sl1In_m a2 0 (a0.N - 1)).bind fun y3 =>
  some y3
  ) else (
  some false
  )
  ).bind fun s2 =>
  (
  if s2 = true then (
  grd (0 ≤ a1) <|
  (a0.Rows[a1.toNat]?).bind fun x1 =>
  grd (0 ≤ a2) <|
  grd (0 ≤ x1 ∧ 0 ≤ a2 ∧ a2 < 64) <|
  grd (0 ≤ ((x1.toNat >>> a2.toNat : Nat) : Int) ∧ 0 ≤ (1 : Int)) <|
  some (decide (((((x1.toNat >>> a2.toNat : Nat) : Int).toNat &&& (1 : Int).toNat : Nat) : Int) = 1))
  ) else (
  some false
  )
  ).bind fun s3 =>
  some s3
theorem sHasPair_ok {a0 : Relation} {a1 : Int} {a2 : Int} {r : Bool} (hr : sHasPair_m a0 a1 a2 = some r) {F0 : Nat → Prop} {w0 : World} {ca0 : List Value} (ha0 : rd F0 w0 a0 ca0) (ha1 : I64 a1) (ha2 : I64 a2) :
    Ret Try.prog 94 #[.agg ca0.toArray, .int .i64 a1, .int .i64 a2] w0 (fun _ => False) fun v w => v = .bool r := by
  have H := (HL.start F0 w0).argR ha0
  obtain ⟨A1, n1, c1, rfl, hI1, H⟩ := op_Relation H (i := 0) rfl
  refine enter Try.func94 rfl rfl rfl ?_
  refine CW.seq (CW.reg ?_)
  refine WL.boxH rfl rfl rfl rfl rfl H fun b1 w1 H => ?_
  refine WL.ev rfl rfl (Ev.as rfl rfl) (WL.nil ?_)
  refine CW.seq (CW.reg ?_)
  refine WL.ev rfl rfl (Ev.lda rfl ag79 sz79 rfl (At.blk (H.rB (i := 0) rfl)) rfl) ?_
  obtain ⟨y1, hy1, hr⟩ := bd hr
  refine WL.call rfl rfl rfl rfl rfl ok121 rfl (sIsValidRelation_ok hy1 ⟨_, rfl, hI1, (H.rS (i := 1) rfl)⟩) ?_
  rintro _ w2 hE rfl
  have H := H.ext hE
  obtain ⟨q1, hm1, hr⟩ := bd hr
  refine WL.cut 7 (fun ρ' w => ∃ (s1 : Bool), s1 = q1 ∧ agree ρ' [(1, .int .i64 a1), (2, .int .i64 a2), (3, .pointer (some ⟨b1, 0, none⟩)), (6, .bool false), (15, .bool s1)] ∧ HL F0 [] w0 w [Pr.R a0 [.int .i64 a0.N, .slice A1 n1 c1], Pr.S a0.Rows (.slice A1 n1 c1)] [It.B b1 79 [.int .i64 a0.N, .slice A1 n1 c1]]) ?_ ?_
  · skip
    refine WL.mvB rfl rfl rfl rfl (fun h1 => ?_) (fun h1 => ?_)
    · skip
      have hm1 := ifp h1 hm1
      refine WL.on rfl rfl (WL.ev rfl rfl (Ev.mv rfl rfl) (WL.on rfl rfl (WL.ev rfl rfl (Ev.fa rfl fo79_0 rfl) (WL.on rfl rfl (WL.ev rfl rfl (Ev.ld rfl ag3 rfl ((H.rB (i := 0) rfl).cell rfl)) (WL.on rfl rfl ?_))))))
      obtain ⟨hg1, hm1⟩ := grd_some hm1
      refine WL.ev rfl rfl (Ev.bin rfl rfl rfl (Bin.sub hg1)) (WL.on rfl rfl ?_)
      obtain ⟨y2, hy2, hm1⟩ := bd hm1
      refine WL.call rfl rfl rfl rfl rfl ok113 rfl (sl1In_ok hy2 (F0 := fun _ => False) ha1 (by decide : I64 0) hg1) ?_
      rintro _ w3 hE rfl
      have H := H.ext hE
      refine WL.ev rfl rfl (Ev.pickT rfl rfl rfl) (WL.nil ?_)
      obtain rfl := sm hm1
      exact ⟨y2, rfl, ⟨rfl, rfl, rfl, rfl, rfl, trivial⟩, H.keep 2 1⟩
    · skip
      have hm1 := ifn h1 hm1
      refine WL.off rfl rfl rfl (WL.off rfl rfl rfl (WL.off rfl rfl rfl (WL.off rfl rfl rfl (WL.off rfl rfl rfl (WL.ev rfl rfl (Ev.pickF rfl rfl rfl) (WL.nil ?_))))))
      obtain rfl := sm hm1
      exact ⟨false, rfl, ⟨rfl, rfl, rfl, rfl, rfl, trivial⟩, H.keep 2 1⟩
  · rintro ρ' w4 ⟨s1, rfl, hag, H⟩
    obtain ⟨σ, rfl⟩ := ofL_ex hag
    obtain ⟨q2, hm2, hr⟩ := bd hr
    refine WL.cut 7 (fun ρ' w => ∃ (s2 : Bool), s2 = q2 ∧ agree ρ' [(1, .int .i64 a1), (2, .int .i64 a2), (3, .pointer (some ⟨b1, 0, none⟩)), (6, .bool false), (22, .bool s2)] ∧ HL F0 [] w0 w [Pr.R a0 [.int .i64 a0.N, .slice A1 n1 c1], Pr.S a0.Rows (.slice A1 n1 c1)] [It.B b1 79 [.int .i64 a0.N, .slice A1 n1 c1]]) ?_ ?_
    · skip
      refine WL.mvB rfl rfl rfl rfl (fun h2 => ?_) (fun h2 => ?_)
      · skip
        have hm2 := ifp h2 hm2
        refine WL.on rfl rfl (WL.ev rfl rfl (Ev.mv rfl rfl) (WL.on rfl rfl (WL.ev rfl rfl (Ev.fa rfl fo79_0 rfl) (WL.on rfl rfl (WL.ev rfl rfl (Ev.ld rfl ag3 rfl ((H.rB (i := 0) rfl).cell rfl)) (WL.on rfl rfl ?_))))))
        obtain ⟨hg2, hm2⟩ := grd_some hm2
        refine WL.ev rfl rfl (Ev.bin rfl rfl rfl (Bin.sub hg2)) (WL.on rfl rfl ?_)
        obtain ⟨y3, hy3, hm2⟩ := bd hm2
        refine WL.call rfl rfl rfl rfl rfl ok113 rfl (sl1In_ok hy3 (F0 := fun _ => False) ha2 (by decide : I64 0) hg2) ?_
        rintro _ w5 hE rfl
        have H := H.ext hE
        refine WL.ev rfl rfl (Ev.pickT rfl rfl rfl) (WL.nil ?_)
        obtain rfl := sm hm2
        exact ⟨y3, rfl, ⟨rfl, rfl, rfl, rfl, rfl, trivial⟩, H.keep 2 1⟩
      · skip
        have hm2 := ifn h2 hm2
        refine WL.off rfl rfl rfl (WL.off rfl rfl rfl (WL.off rfl rfl rfl (WL.off rfl rfl rfl (WL.off rfl rfl rfl (WL.ev rfl rfl (Ev.pickF rfl rfl rfl) (WL.nil ?_))))))
        obtain rfl := sm hm2
        exact ⟨false, rfl, ⟨rfl, rfl, rfl, rfl, rfl, trivial⟩, H.keep 2 1⟩
    · rintro ρ' w6 ⟨s2, rfl, hag, H⟩
      obtain ⟨σ, rfl⟩ := ofL_ex hag
      obtain ⟨q3, hm3, hr⟩ := bd hr
      refine WL.cut 12 (fun ρ' w => ∃ (s3 : Bool), s3 = q3 ∧ agree ρ' [(6, .bool false), (34, .bool s3)] ∧ HL F0 [] w0 w [Pr.R a0 [.int .i64 a0.N, .slice A1 n1 c1], Pr.S a0.Rows (.slice A1 n1 c1)] [It.B b1 79 [.int .i64 a0.N, .slice A1 n1 c1]]) ?_ ?_
      · skip
        refine WL.mvB rfl rfl rfl rfl (fun h3 => ?_) (fun h3 => ?_)
        · skip
          have hm3 := ifp h3 hm3
          refine WL.on rfl rfl (WL.ev rfl rfl (Ev.fa rfl fo79_1 rfl) (WL.on rfl rfl (WL.ev rfl rfl (Ev.ld rfl ag71 rfl ((H.rB (i := 0) rfl).cell rfl)) (WL.on rfl rfl (WL.ev rfl rfl (Ev.mv rfl rfl) (WL.on rfl rfl ?_))))))
          obtain ⟨hg3, hm3⟩ := grd_some hm3
          obtain ⟨x1, hx1, hm3⟩ := bd hm3
          obtain ⟨b2, ob2, cb2, hvb2, hI2, H⟩ := ixS_Int H (i := 1) rfl hx1
          refine WL.ev rfl rfl (Ev.ixV rfl el71 sz3 rfl hvb2 rfl hg3 (lt_of hx1)) (WL.on rfl rfl (WL.ev rfl rfl (Ev.ld rfl ag3 rfl ((H.rA (i := 2) rfl).cell0 rfl)) (WL.on rfl rfl (WL.ev rfl rfl (Ev.mv rfl rfl) (WL.on rfl rfl ?_)))))
          obtain ⟨hg4, hm3⟩ := grd_some hm3
          refine WL.ev rfl rfl (Ev.convUI rfl Try.underlying3 it166 rfl hg4 ha2.2) (WL.on rfl rfl ?_)
          obtain ⟨hg5, hm3⟩ := grd_some hm3
          refine WL.ev rfl rfl (Ev.bin rfl rfl rfl (Bin.shrI hg5.1 hg5.2.1 hg5.2.2)) (WL.on rfl rfl ?_)
          obtain ⟨hg6, hm3⟩ := grd_some hm3
          refine WL.ev rfl rfl (Ev.bin rfl rfl rfl (Bin.andI hg6.1 (i64_shr hI2).2 hg6.2 (by decide : I64 1).2)) (WL.on rfl rfl (WL.ev rfl rfl (Ev.bin rfl rfl rfl Bin.eql) (WL.ev rfl rfl (Ev.pickT rfl rfl rfl) (WL.nil ?_))))
          obtain rfl := sm hm3
          exact ⟨(decide (((((x1.toNat >>> a2.toNat : Nat) : Int).toNat &&& (1 : Int).toNat : Nat) : Int) = 1)), rfl, ⟨rfl, rfl, trivial⟩, H.keep 2 1⟩
        · skip
          have hm3 := ifn h3 hm3
          refine WL.off rfl rfl rfl (WL.off rfl rfl rfl (WL.off rfl rfl rfl (WL.off rfl rfl rfl (WL.off rfl rfl rfl (WL.off rfl rfl rfl (WL.off rfl rfl rfl (WL.off rfl rfl rfl (WL.off rfl rfl rfl (WL.off rfl rfl rfl (WL.ev rfl rfl (Ev.pickF rfl rfl rfl) (WL.nil ?_)))))))))))
          obtain rfl := sm hm3
          exact ⟨false, rfl, ⟨rfl, rfl, trivial⟩, H.keep 2 1⟩
      · rintro ρ' w7 ⟨s3, rfl, hag, H⟩
        obtain ⟨σ, rfl⟩ := ofL_ex hag
        refine WL.ev rfl rfl (Ev.as rfl rfl) (WL.nil ?_)
        refine CW.ret ?_
        obtain rfl := sm hr
        exact ⟨_, res1 rfl rfl rfl, H.ext0, rfl⟩

noncomputable def sl22Copy_m (a0 : Relation) : Option Relation :=
  grd (((([] : List Int).length : Int) + (a0.Rows.length : Int)) * 8 ≤ 140737488355328 ∧ (([] : List Int).length : Int) + (a0.Rows.length : Int) ≤ 9223372036854775807) <|
  some a0
theorem sl22Copy_ok {a0 : Relation} {r : Relation} (hr : sl22Copy_m a0 = some r) {F0 : Nat → Prop} {w0 : World} {ca0 : List Value} (ha0 : rd F0 w0 a0 ca0) :
    Ret Try.prog 122 #[.agg ca0.toArray] w0 (fun _ => False) fun v w => ∃ A0 : Option Addr, ∃ n0 c0 : Nat, v = .agg #[.int .i64 r.N, (.slice A0 n0 c0)] ∧ I64 r.N ∧ HL F0 [] w0 w [] [It.O 3 r.Rows (.slice A0 n0 c0)] := by
  have H := (HL.start F0 w0).argR ha0
  obtain ⟨A1, n1, c1, rfl, hI1, H⟩ := op_Relation H (i := 0) rfl
  refine enter Try.func122 rfl rfl rfl ?_
  refine CW.seq (CW.reg ?_)
  refine WL.boxH rfl rfl rfl rfl rfl H fun b1 w1 H => ?_
  refine WL.allocH rfl rfl rfl ze79 H fun b2 w2 H => ?_
  refine WL.nil ?_
  obtain ⟨hg1, hr⟩ := grd_some hr
  refine CW.seq (CW.any2 6 (fun ρ => [.fix (.pointer (some ⟨b1, 0 + 0, none⟩)), .fix (.int .i64 a0.N), .free (fun _ v _ => ∃ g : Nat, v = .slice (some ⟨g, 0, none⟩) 0 0), .fix (.pointer (some ⟨b1, 0 + 1, none⟩)), .fix (.slice A1 n1 c1), .free (fun S v w => ∃ A : Option Addr, ∃ m c : Nat, v = .slice A m c ∧ NewI S w [It.O 3 a0.Rows (.slice A m c)])]) [[], [], [], [], [], []] NoM (fun _ _ => True) [] [] (noM _) hmix (by kernel_rfl) rfl ⟨trivial, trivial, fun _ _ _ _ _ h _ _ _ => h, trivial, trivial, fun _ _ _ _ _ ⟨A, m, c, h1, h2⟩ hc hS _ => ⟨A, m, c, h1, h2.chgT hc hS⟩, trivial⟩ trivial (fun _ _ _ _ _ _ _ => trivial) ?_)
  refine LL2.fx rfl rfl rfl rfl rfl (fun _ hq hK => Ev.fa rfl fo79_0 rfl) ?_
  refine LL2.fx rfl rfl rfl rfl rfl (fun _ hq hK => Ev.ld rfl ag3 rfl (((H.ext hq).rB (i := 0) rfl).cell rfl)) ?_
  refine LL2.free rfl rfl rfl rfl (fun wq hq hK => OpX.lit0N rfl rfl el71 sz3 fun g w hE => ⟨hE, g, rfl⟩) (fun v_G1_2 S_G1_2 => ?_)
  refine LL2.fx rfl rfl rfl rfl rfl (fun _ hq hK => Ev.fa rfl fo79_1 rfl) ?_
  refine LL2.fx rfl rfl rfl rfl rfl (fun _ hq hK => Ev.ld rfl ag71 rfl (((H.ext hq).rB (i := 0) rfl).cell rfl)) ?_
  refine LL2.free rfl rfl rfl rfl (fun wq hq hK => ?_) (fun v_G1_5 S_G1_5 => ?_)
  · obtain ⟨g, e⟩ : ∃ g : Nat, v_G1_2 = .slice (some ⟨g, 0, none⟩) 0 0 := hK 2 rfl
    subst e
    exact OpX.appN rfl rfl el71 sz3 by3 ze3 rfl rfl rfl ((H.ext hq).rS (i := 1) rfl) hg1 fun A m c w hE h => ⟨hE, A, m, c, rfl, h⟩
  intro w3 hE _ hK hap hbd
  have hE := chgNew hE
  obtain ⟨g1, rfl⟩ := hK 2 (by decide)
  obtain ⟨A2, n2, c2, rfl, hN1⟩ := hK 5 (by decide)
  have H := H.add hE hN1 ⟨fun _ _ _ _ _ h => h, trivial⟩ (fun q hq => (hbd 5 q hq).1)
  have H := H.lit0 (α := Int) 3 (some ⟨g1, 0, none⟩)
  refine WL.ev rfl rfl (Ev.build rfl pl79 ze79 rfl rfl rfl rfl) ?_
  refine WL.stB (i := 1) rfl rfl rfl sz79 rfl rfl rfl rfl (all1 rfl (all1 rfl all0)) H rfl rfl rfl fun w4 H => ?_
  refine WL.nil ?_
  refine CW.ret ?_
  obtain rfl := sm hr
  exact ⟨_, resC rfl ag79 sz79 rfl rfl (At.blk (H.rB (i := 1) rfl)) rfl, H.ext0, _, _, _, rfl, hI1, H.outM (fr' := []) [false, false, true, false] fun _ _ => trivial⟩

noncomputable def sAddPair_m (a0 : Relation) (a1 : Int) (a2 : Int) : Option Relation :=
  (sl22Copy_m a0).bind fun y1 =>
  (sIsValidRelation_m a0).bind fun y2 =>
  (
  if y2 = true then (
  grd (I64 (a0.N - 1)) <|
  (sl1In_m a1 0 (a0.N - 1)).bind fun y3 =>
  some y3
  ) else (
  some false
  )
  ).bind fun s1 =>
  (
  if s1 = true then (
  grd (I64 (a0.N - 1)) <|
  (sl1In_m a2 0 (a0.N - 1)).bind fun y4 =>
  some y4
  ) else (
  some false
  )
  ).bind fun s2 =>
  if s2 = true then (
  grd (0 ≤ a1) <|
  (y1.Rows[a1.toNat]?).bind fun x1 =>
  grd (0 ≤ a2) <|
  grd (0 ≤ a2 ∧ a2 < 63) <|
  grd (0 ≤ x1 ∧ 0 ≤ ((2 ^ a2.toNat : Nat) : Int)) <|
  some (⟨y1.N, (List.set y1.Rows a1.toNat ((x1.toNat ||| ((2 ^ a2.toNat : Nat) : Int).toNat : Nat) : Int))⟩ : Relation)
  ) else (
  some y1
  )
theorem sAddPair_ok {a0 : Relation} {a1 : Int} {a2 : Int} {r : Relation} (hr : sAddPair_m a0 a1 a2 = some r) {F0 : Nat → Prop} {w0 : World} {ca0 : List Value} (ha0 : rd F0 w0 a0 ca0) (ha1 : I64 a1) (ha2 : I64 a2) :
    Ret Try.prog 95 #[.agg ca0.toArray, .int .i64 a1, .int .i64 a2] w0 (fun _ => False) fun v w => ∃ A0 : Option Addr, ∃ n0 c0 : Nat, v = .agg #[.int .i64 r.N, (.slice A0 n0 c0)] ∧ I64 r.N ∧ HL F0 [] w0 w [] [It.O 3 r.Rows (.slice A0 n0 c0)] := by
  have H := (HL.start F0 w0).argR ha0
  obtain ⟨A1, n1, c1, rfl, hI1, H⟩ := op_Relation H (i := 0) rfl
  refine enter Try.func95 rfl rfl rfl ?_
  refine CW.seq (CW.reg ?_)
  refine WL.boxH rfl rfl rfl rfl rfl H fun b1 w1 H => ?_
  refine WL.allocH rfl rfl rfl ze79 H fun b2 w2 H => ?_
  refine WL.nil ?_
  refine CW.seq (CW.reg ?_)
  refine WL.ev rfl rfl (Ev.lda rfl ag79 sz79 rfl (At.blk (H.rB (i := 0) rfl)) rfl) ?_
  obtain ⟨y1, hy1, hr⟩ := bd hr
  refine WL.call rfl rfl rfl rfl rfl ok122 rfl (sl22Copy_ok hy1 ⟨_, rfl, hI1, (H.rS (i := 1) rfl)⟩) ?_
  rintro _ w3 hE ⟨A2, n2, c2, rfl, hI2, H'⟩
  have H := H.callA H' ⟨fun _ _ _ _ _ h => h, trivial⟩
  refine WL.allocH rfl rfl rfl ze79 H fun b3 w4 H => ?_
  refine WL.stB (i := 3) rfl rfl rfl sz79 rfl rfl rfl rfl (all1 rfl (all1 rfl all0)) H rfl rfl rfl fun w5 H => ?_
  refine WL.nil ?_
  refine CW.seq (CW.seq (CW.reg ?_))
  refine WL.ev rfl rfl (Ev.lda rfl ag79 sz79 rfl (At.blk (H.rB (i := 0) rfl)) rfl) ?_
  obtain ⟨y2, hy2, hr⟩ := bd hr
  refine WL.call rfl rfl rfl rfl rfl ok121 rfl (sIsValidRelation_ok hy2 ⟨_, rfl, hI1, (H.rS (i := 1) rfl)⟩) ?_
  rintro _ w6 hE rfl
  have H := H.ext hE
  obtain ⟨q1, hm1, hr⟩ := bd hr
  refine WL.cut 7 (fun ρ' w => ∃ (s1 : Bool), s1 = q1 ∧ agree ρ' [(1, .int .i64 a1), (2, .int .i64 a2), (3, .pointer (some ⟨b1, 0, none⟩)), (6, .pointer (some ⟨b2, 0, none⟩)), (7, .pointer (some ⟨b3, 0, none⟩)), (18, .bool s1)] ∧ HL F0 [] w0 w [Pr.R a0 [.int .i64 a0.N, .slice A1 n1 c1], Pr.S a0.Rows (.slice A1 n1 c1)] [It.B b1 79 [.int .i64 a0.N, .slice A1 n1 c1], It.B b2 79 [.int .i64 0, .slice none 0 0], It.O 3 y1.Rows (.slice A2 n2 c2), It.B b3 79 [.int .i64 y1.N, .slice A2 n2 c2]]) ?_ ?_
  · skip
    refine WL.mvB rfl rfl rfl rfl (fun h1 => ?_) (fun h1 => ?_)
    · skip
      have hm1 := ifp h1 hm1
      refine WL.on rfl rfl (WL.ev rfl rfl (Ev.mv rfl rfl) (WL.on rfl rfl (WL.ev rfl rfl (Ev.fa rfl fo79_0 rfl) (WL.on rfl rfl (WL.ev rfl rfl (Ev.ld rfl ag3 rfl ((H.rB (i := 0) rfl).cell rfl)) (WL.on rfl rfl ?_))))))
      obtain ⟨hg1, hm1⟩ := grd_some hm1
      refine WL.ev rfl rfl (Ev.bin rfl rfl rfl (Bin.sub hg1)) (WL.on rfl rfl ?_)
      obtain ⟨y3, hy3, hm1⟩ := bd hm1
      refine WL.call rfl rfl rfl rfl rfl ok113 rfl (sl1In_ok hy3 (F0 := fun _ => False) ha1 (by decide : I64 0) hg1) ?_
      rintro _ w7 hE rfl
      have H := H.ext hE
      refine WL.ev rfl rfl (Ev.pickT rfl rfl rfl) (WL.nil ?_)
      obtain rfl := sm hm1
      exact ⟨y3, rfl, ⟨rfl, rfl, rfl, rfl, rfl, rfl, trivial⟩, H.keep 2 4⟩
    · skip
      have hm1 := ifn h1 hm1
      refine WL.off rfl rfl rfl (WL.off rfl rfl rfl (WL.off rfl rfl rfl (WL.off rfl rfl rfl (WL.off rfl rfl rfl (WL.ev rfl rfl (Ev.pickF rfl rfl rfl) (WL.nil ?_))))))
      obtain rfl := sm hm1
      exact ⟨false, rfl, ⟨rfl, rfl, rfl, rfl, rfl, rfl, trivial⟩, H.keep 2 4⟩
  · rintro ρ' w8 ⟨s1, rfl, hag, H⟩
    obtain ⟨σ, rfl⟩ := ofL_ex hag
    obtain ⟨q2, hm2, hr⟩ := bd hr
    refine WL.cut 7 (fun ρ' w => ∃ (s2 : Bool), s2 = q2 ∧ agree ρ' [(1, .int .i64 a1), (2, .int .i64 a2), (6, .pointer (some ⟨b2, 0, none⟩)), (7, .pointer (some ⟨b3, 0, none⟩)), (25, .bool s2)] ∧ HL F0 [] w0 w [Pr.R a0 [.int .i64 a0.N, .slice A1 n1 c1], Pr.S a0.Rows (.slice A1 n1 c1)] [It.B b1 79 [.int .i64 a0.N, .slice A1 n1 c1], It.B b2 79 [.int .i64 0, .slice none 0 0], It.O 3 y1.Rows (.slice A2 n2 c2), It.B b3 79 [.int .i64 y1.N, .slice A2 n2 c2]]) ?_ ?_
    · skip
      refine WL.mvB rfl rfl rfl rfl (fun h2 => ?_) (fun h2 => ?_)
      · skip
        have hm2 := ifp h2 hm2
        refine WL.on rfl rfl (WL.ev rfl rfl (Ev.mv rfl rfl) (WL.on rfl rfl (WL.ev rfl rfl (Ev.fa rfl fo79_0 rfl) (WL.on rfl rfl (WL.ev rfl rfl (Ev.ld rfl ag3 rfl ((H.rB (i := 0) rfl).cell rfl)) (WL.on rfl rfl ?_))))))
        obtain ⟨hg2, hm2⟩ := grd_some hm2
        refine WL.ev rfl rfl (Ev.bin rfl rfl rfl (Bin.sub hg2)) (WL.on rfl rfl ?_)
        obtain ⟨y4, hy4, hm2⟩ := bd hm2
        refine WL.call rfl rfl rfl rfl rfl ok113 rfl (sl1In_ok hy4 (F0 := fun _ => False) ha2 (by decide : I64 0) hg2) ?_
        rintro _ w9 hE rfl
        have H := H.ext hE
        refine WL.ev rfl rfl (Ev.pickT rfl rfl rfl) (WL.nil ?_)
        obtain rfl := sm hm2
        exact ⟨y4, rfl, ⟨rfl, rfl, rfl, rfl, rfl, trivial⟩, H.keep 2 4⟩
      · skip
        have hm2 := ifn h2 hm2
        refine WL.off rfl rfl rfl (WL.off rfl rfl rfl (WL.off rfl rfl rfl (WL.off rfl rfl rfl (WL.off rfl rfl rfl (WL.ev rfl rfl (Ev.pickF rfl rfl rfl) (WL.nil ?_))))))
        obtain rfl := sm hm2
        exact ⟨false, rfl, ⟨rfl, rfl, rfl, rfl, rfl, trivial⟩, H.keep 2 4⟩
    · rintro ρ' w10 ⟨s2, rfl, hag, H⟩
      obtain ⟨σ, rfl⟩ := ofL_ex hag
      refine WL.nil ?_
      refine CW.condB rfl (fun h3 => ?_) (fun h3 => ?_)
      · skip
        have hr := ifp h3 hr
        refine CW.quietT 13 hmix (by kernel_rfl) ?_
        refine QL.ev rfl rfl (fun _ _ => Ev.fa rfl fo79_1 rfl) (QL.ev rfl rfl (fun _ hq => Ev.ld rfl ag71 rfl (((H.ext hq).rB (i := 3) rfl).cell rfl)) (QL.ev rfl rfl (fun _ _ => Ev.mv rfl rfl) (QL.ev rfl rfl (fun _ _ => Ev.fa rfl fo79_1 rfl) (QL.ev rfl rfl (fun _ hq => Ev.ld rfl ag71 rfl (((H.ext hq).rB (i := 3) rfl).cell rfl)) (QL.ev rfl rfl (fun _ _ => Ev.mv rfl rfl) ?_)))))
        obtain ⟨hg3, hr⟩ := grd_some hr
        obtain ⟨x1, hx1, hr⟩ := bd hr
        obtain ⟨b4, cb4, hvb4, hbb4⟩ := H.ptO (i := 2) rfl hx1
        refine QL.ev rfl rfl (fun _ _ => Ev.ixV rfl el71 sz3 rfl hvb4 rfl hg3 (lt_of hx1)) ?_
        obtain ⟨hA1, hI3, H⟩ := elO_Int H (i := 2) rfl hx1 hbb4
        refine QL.ev rfl rfl (fun _ hq => Ev.ld rfl ag3 rfl ((hA1.ext hq).cell0 rfl)) (QL.ev rfl rfl (fun _ _ => Ev.mv rfl rfl) ?_)
        obtain ⟨hg4, hr⟩ := grd_some hr
        refine QL.ev rfl rfl (fun _ _ => Ev.convUI rfl Try.underlying3 it166 rfl hg4 ha2.2) ?_
        obtain ⟨hg5, hr⟩ := grd_some hr
        refine QL.ev rfl rfl (fun _ _ => Ev.bin rfl rfl rfl (Bin.shlI hg5.1 hg5.2)) ?_
        obtain ⟨hg6, hr⟩ := grd_some hr
        refine QL.ev rfl rfl (fun _ _ => Ev.bin rfl rfl rfl (Bin.orI hg6.1 hI3.2 hg6.2 (i64_pow hg5.2).2)) ?_
        obtain ⟨b5, cb5, hvb5, hbb5⟩ := H.ptO (i := 2) rfl hx1
        refine QL.ev rfl rfl (fun _ _ => Ev.ixV rfl el71 sz3 rfl hvb5 rfl hg3 (lt_of hx1)) (QL.nil (fun w11 hE => ?_))
        have H := H.ext hE
        refine WL.stOf (i := 2) (z := ((x1.toNat ||| ((2 ^ a2.toNat : Nat) : Int).toNat : Nat) : Int)) rfl rfl rfl sz3 rfl rfl rfl (fun _ => ⟨rfl, rfl, (i64_or hg6 hI3 (i64_pow hg5.2))⟩) H rfl hbb5 (by simpa using lt_of hx1) fun w12 H => ?_
        refine WL.nil ?_
        refine CW.seq (CW.reg ?_)
        refine WL.ev rfl rfl (Ev.lda rfl ag79 sz79 rfl (At.blk (H.rB (i := 3) rfl)) rfl) ?_
        refine WL.stB (i := 1) rfl rfl rfl sz79 rfl rfl rfl rfl (all1 rfl (all1 rfl all0)) H rfl rfl rfl fun w13 H => ?_
        refine WL.nil ?_
        refine CW.ret ?_
        obtain rfl := sm hr
        exact ⟨_, resC rfl ag79 sz79 rfl rfl (At.blk (H.rB (i := 1) rfl)) rfl, H.ext0, _, _, _, rfl, hI2, H.outM (fr' := []) [false, false, true, false] fun _ _ => trivial⟩
      · skip
        have hr := ifn h3 hr
        refine CW.skip ?_
        refine CW.seq (CW.reg ?_)
        refine WL.ev rfl rfl (Ev.lda rfl ag79 sz79 rfl (At.blk (H.rB (i := 3) rfl)) rfl) ?_
        refine WL.stB (i := 1) rfl rfl rfl sz79 rfl rfl rfl rfl (all1 rfl (all1 rfl all0)) H rfl rfl rfl fun w14 H => ?_
        refine WL.nil ?_
        refine CW.ret ?_
        obtain rfl := sm hr
        exact ⟨_, resC rfl ag79 sz79 rfl rfl (At.blk (H.rB (i := 1) rfl)) rfl, H.ext0, _, _, _, rfl, hI2, H.outM (fr' := []) [false, false, true, false] fun _ _ => trivial⟩

noncomputable def sSummaryOf_L2 (a2 : Relation) (k1 : Nat) (x1 : Attribute) : Nat → Attribute → ((List Int) × Int) → Option ((List Int) × Int) := fun k2 x2 (s3, s4) => 
  (
  (
  if x1.Mode = 1 then (
  some (decide (x2.Mode = 2))
  ) else (
  some false
  )
  ).bind fun s7 =>
  (
  if s7 = true then (
  (sHasPair_m a2 (k1 : Int) (k2 : Int)).bind fun y3 =>
  some y3
  ) else (
  some false
  )
  ).bind fun s8 =>
  if s8 = true then (
  (sAddPair_m (⟨s4, s3⟩ : Relation) (k1 : Int) (k2 : Int)).bind fun y4 =>
  some (y4.Rows, y4.N)
  ) else (
  some (s3, s4)
  )
  ).bind fun (s5, s6) =>
  some (s5, s6)
noncomputable def sSummaryOf_L1 (a2 : Relation) (y1 : (List Attribute)) : Nat → Attribute → ((List Int) × Int) → Option ((List Int) × Int) := fun k1 x1 (s1, s2) => 
  (eachL (sSummaryOf_L2 a2 k1 x1) 0 y1 (s1, s2)).bind fun (s3, s4) =>
  some (s3, s4)
noncomputable def sSummaryOf_m (a0 : Grammar) (a1 : Rule) (a2 : Relation) : Option Relation :=
  (sPlainAttributes_m a0 a1.Left).bind fun y1 =>
  (sEmptyRelation_m (y1.length : Int)).bind fun y2 =>
  (eachL (sSummaryOf_L1 a2 y1) 0 y1 (y2.Rows, y2.N)).bind fun (s1, s2) =>
  some (⟨s2, s1⟩ : Relation)
theorem sSummaryOf_ok {a0 : Grammar} {a1 : Rule} {a2 : Relation} {r : Relation} (hr : sSummaryOf_m a0 a1 a2 = some r) {F0 : Nat → Prop} {w0 : World} {ca0 : List Value} (ha0 : rd F0 w0 a0 ca0) {ca1 : List Value} (ha1 : rd F0 w0 a1 ca1) {ca2 : List Value} (ha2 : rd F0 w0 a2 ca2) :
    Ret Try.prog 45 #[.agg ca0.toArray, .agg ca1.toArray, .agg ca2.toArray] w0 (fun _ => False) fun v w => ∃ A0 : Option Addr, ∃ n0 c0 : Nat, v = .agg #[.int .i64 r.N, (.slice A0 n0 c0)] ∧ I64 r.N ∧ HL F0 [] w0 w [] [It.O 3 r.Rows (.slice A0 n0 c0)] := by
  have H := (((HL.start F0 w0).argR ha0).argR ha1).argR ha2
  obtain ⟨A1, n1, c1, A2, n2, c2, rfl, H⟩ := op_Grammar H (i := 0) rfl
  obtain ⟨A3, n3, c3, A4, n4, c4, A5, n5, c5, rfl, hS1, hS2, H⟩ := op_Rule H (i := 1) rfl
  obtain ⟨A6, n6, c6, rfl, hI1, H⟩ := op_Relation H (i := 2) rfl
  refine enter Try.func45 rfl rfl rfl ?_
  refine CW.seq (CW.reg ?_)
  refine WL.boxH rfl rfl rfl rfl rfl H fun b1 w1 H => ?_
  refine WL.boxH rfl rfl rfl rfl rfl H fun b2 w2 H => ?_
  refine WL.boxH rfl rfl rfl rfl rfl H fun b3 w3 H => ?_
  refine WL.allocH rfl rfl rfl ze79 H fun b4 w4 H => ?_
  refine WL.nil ?_
  refine CW.seq (CW.reg ?_)
  refine WL.ev rfl rfl (Ev.lda rfl ag48 sz48 rfl (At.blk (H.rB (i := 0) rfl)) rfl) (WL.ev rfl rfl (Ev.fa rfl fo65_1 rfl) (WL.ev rfl rfl (Ev.ld rfl ag9 rfl ((H.rB (i := 1) rfl).cell rfl)) ?_))
  obtain ⟨y1, hy1, hr⟩ := bd hr
  refine WL.call rfl rfl rfl rfl rfl ok21 rfl (sPlainAttributes_ok hy1 ⟨_, _, rfl, (H.rS (i := 3) rfl), (H.rS (i := 4) rfl)⟩ hS2) ?_
  rintro _ w5 hE ⟨A7, n7, c7, rfl, H'⟩
  have H := H.callA H' ⟨fun _ _ _ _ _ h => h, trivial⟩
  refine WL.ev rfl rfl (Ev.as rfl rfl) (WL.nil ?_)
  refine CW.seq (CW.reg ?_)
  refine WL.ev rfl rfl (Ev.mv rfl rfl) ?_
  have hl1 := (H.rO (i := 4) rfl).I
  refine WL.ev rfl rfl (Ev.lenV rfl el43 rfl (H.rO (i := 4) rfl)) ?_
  obtain ⟨y2, hy2, hr⟩ := bd hr
  refine WL.call rfl rfl rfl rfl rfl ok93 rfl (sEmptyRelation_ok hy2 (F0 := fun _ => False) hl1) ?_
  rintro _ w6 hE ⟨A8, n8, c8, rfl, hI2, H'⟩
  have H := H.callA H' ⟨fun _ _ _ _ _ h => h, trivial⟩
  refine WL.allocH rfl rfl rfl ze79 H fun b5 w7 H => ?_
  refine WL.stB (i := 6) rfl rfl rfl sz79 rfl rfl rfl rfl (all1 rfl (all1 rfl all0)) H rfl rfl rfl fun w8 H => ?_
  refine WL.nil ?_
  refine CW.seq (CW.seq (CW.reg ?_))
  refine WL.ev rfl rfl (Ev.as rfl rfl) (WL.nil ?_)
  obtain ⟨q1, hq1, hr⟩ := bd hr
  refine CW.block (CW.loop (α := Nat × (List Int) × Int × Value) (fun ⟨k1, s1, s2, v1⟩ => [(5, .pointer (some ⟨b3, 0, none⟩)), (6, .pointer (some ⟨b4, 0, none⟩)), (7, .slice A7 n7 c7), (8, .pointer (some ⟨b5, 0, none⟩)), (9, .int .i64 (k1 : Int))]) (fun ⟨k1, s1, s2, v1⟩ w => k1 ≤ y1.length ∧ eachL (sSummaryOf_L1 a2 y1) k1 (y1.drop k1) (s1, s2) = some q1 ∧ I64 s2 ∧ HL F0 [] w0 w [Pr.R a0 [.slice A1 n1 c1, .slice A2 n2 c2], Pr.R a1 [.string a1.Name, .string a1.Left, .slice A3 n3 c3, .bool a1.Literal, .slice A4 n4 c4, .slice A5 n5 c5], Pr.R a2 [.int .i64 a2.N, .slice A6 n6 c6], Pr.S a0.Symbols (.slice A1 n1 c1), Pr.S a0.Rules (.slice A2 n2 c2), Pr.S a1.Right (.slice A3 n3 c3), Pr.S a1.Equations (.slice A4 n4 c4), Pr.S a1.Contributions (.slice A5 n5 c5), Pr.S a2.Rows (.slice A6 n6 c6)] [It.B b1 48 [.slice A1 n1 c1, .slice A2 n2 c2], It.B b2 65 [.string a1.Name, .string a1.Left, .slice A3 n3 c3, .bool a1.Literal, .slice A4 n4 c4, .slice A5 n5 c5], It.B b3 79 [.int .i64 a2.N, .slice A6 n6 c6], It.B b4 79 [.int .i64 0, .slice none 0 0], It.O 105 y1 (.slice A7 n7 c7), It.O 3 s1 v1, It.B b5 79 [.int .i64 s2, v1]]) (fun ⟨k1, s1, s2, v1⟩ => y1.length - k1) ⟨0, y2.Rows, y2.N, (.slice A8 n8 c8)⟩ ⟨rfl, rfl, rfl, rfl, rfl, trivial⟩ ⟨Nat.zero_le _, hq1, hI2, H.keep 9 7⟩ ?_)
  rintro ⟨k1, s1, s2, v1⟩ σ w9 ⟨hk1, hq1, hI3, H⟩
  obtain ⟨A9, n9, c9, rfl⟩ := (H.rO (i := 5) rfl).form3
  refine CW.seq (CW.seq (CW.reg ?_))
  refine WL.ev rfl rfl (Ev.mv rfl rfl) (WL.ev rfl rfl (Ev.mv rfl rfl) (WL.ev rfl rfl (Ev.lenV rfl el43 rfl (H.rO (i := 4) rfl)) (WL.ev rfl rfl (Ev.bin rfl rfl rfl Bin.lss) (WL.nil ?_))))
  refine CW.condD rfl (fun h1 => ?_) (fun h1 => ?_)
  · skip
    have hk2 := cast_lt h1
    obtain ⟨x1, z1, hx1, hb1, hq1⟩ := eachL_go hq1 hk2
    refine CW.skip ?_
    refine CW.seq (CW.block (CW.seq (CW.reg ?_)))
    refine WL.ev rfl rfl (Ev.as rfl rfl) (WL.nil ?_)
    obtain ⟨q2, hq2, hb1⟩ := bd hb1
    refine CW.block (CW.loop (α := Nat × (List Int) × Int × Value) (fun ⟨k2, s3, s4, v2⟩ => [(5, .pointer (some ⟨b3, 0, none⟩)), (6, .pointer (some ⟨b4, 0, none⟩)), (7, .slice A7 n7 c7), (8, .pointer (some ⟨b5, 0, none⟩)), (9, .int .i64 (k1 : Int)), (10, .int .i64 (k2 : Int))]) (fun ⟨k2, s3, s4, v2⟩ w => k2 ≤ y1.length ∧ eachL (sSummaryOf_L2 a2 k1 x1) k2 (y1.drop k2) (s3, s4) = some q2 ∧ I64 s4 ∧ HL F0 [] w0 w [Pr.R a0 [.slice A1 n1 c1, .slice A2 n2 c2], Pr.R a1 [.string a1.Name, .string a1.Left, .slice A3 n3 c3, .bool a1.Literal, .slice A4 n4 c4, .slice A5 n5 c5], Pr.R a2 [.int .i64 a2.N, .slice A6 n6 c6], Pr.S a0.Symbols (.slice A1 n1 c1), Pr.S a0.Rules (.slice A2 n2 c2), Pr.S a1.Right (.slice A3 n3 c3), Pr.S a1.Equations (.slice A4 n4 c4), Pr.S a1.Contributions (.slice A5 n5 c5), Pr.S a2.Rows (.slice A6 n6 c6)] [It.B b1 48 [.slice A1 n1 c1, .slice A2 n2 c2], It.B b2 65 [.string a1.Name, .string a1.Left, .slice A3 n3 c3, .bool a1.Literal, .slice A4 n4 c4, .slice A5 n5 c5], It.B b3 79 [.int .i64 a2.N, .slice A6 n6 c6], It.B b4 79 [.int .i64 0, .slice none 0 0], It.O 105 y1 (.slice A7 n7 c7), It.O 3 s3 v2, It.B b5 79 [.int .i64 s4, v2]]) (fun ⟨k2, s3, s4, v2⟩ => y1.length - k2) ⟨0, s1, s2, (.slice A9 n9 c9)⟩ ⟨rfl, rfl, rfl, rfl, rfl, rfl, trivial⟩ ⟨Nat.zero_le _, hq2, hI3, H.keep 9 7⟩ ?_)
    rintro ⟨k2, s3, s4, v2⟩ σ w10 ⟨hk3, hq2, hI4, H⟩
    obtain ⟨A10, n10, c10, rfl⟩ := (H.rO (i := 5) rfl).form3
    refine CW.seq (CW.seq (CW.reg ?_))
    refine WL.ev rfl rfl (Ev.mv rfl rfl) (WL.ev rfl rfl (Ev.mv rfl rfl) (WL.ev rfl rfl (Ev.lenV rfl el43 rfl (H.rO (i := 4) rfl)) (WL.ev rfl rfl (Ev.bin rfl rfl rfl Bin.lss) (WL.nil ?_))))
    refine CW.condD rfl (fun h2 => ?_) (fun h2 => ?_)
    · skip
      have hk4 := cast_lt h2
      obtain ⟨x2, z2, hx2, hb2, hq2⟩ := eachL_go hq2 hk4
      refine CW.skip ?_
      obtain ⟨q3, hm1, hb2⟩ := bd hb2
      refine CW.seq (CW.mid (fun ρ' w => ∃ (s5 : List Int) (s6 : Int) (v3 : Value), q3 = (s5, s6) ∧ agree ρ' [(5, .pointer (some ⟨b3, 0, none⟩)), (6, .pointer (some ⟨b4, 0, none⟩)), (7, .slice A7 n7 c7), (8, .pointer (some ⟨b5, 0, none⟩)), (9, .int .i64 (k1 : Int)), (10, .int .i64 (k2 : Int))] ∧ I64 s6 ∧ HL F0 [] w0 w [Pr.R a0 [.slice A1 n1 c1, .slice A2 n2 c2], Pr.R a1 [.string a1.Name, .string a1.Left, .slice A3 n3 c3, .bool a1.Literal, .slice A4 n4 c4, .slice A5 n5 c5], Pr.R a2 [.int .i64 a2.N, .slice A6 n6 c6], Pr.S a0.Symbols (.slice A1 n1 c1), Pr.S a0.Rules (.slice A2 n2 c2), Pr.S a1.Right (.slice A3 n3 c3), Pr.S a1.Equations (.slice A4 n4 c4), Pr.S a1.Contributions (.slice A5 n5 c5), Pr.S a2.Rows (.slice A6 n6 c6)] [It.B b1 48 [.slice A1 n1 c1, .slice A2 n2 c2], It.B b2 65 [.string a1.Name, .string a1.Left, .slice A3 n3 c3, .bool a1.Literal, .slice A4 n4 c4, .slice A5 n5 c5], It.B b3 79 [.int .i64 a2.N, .slice A6 n6 c6], It.B b4 79 [.int .i64 0, .slice none 0 0], It.O 105 y1 (.slice A7 n7 c7), It.O 3 s5 v3, It.B b5 79 [.int .i64 s6, v3]]) ?_ ?_)
      · skip
        refine CW.block (CW.seq (CW.reg ?_))
        refine WL.ev rfl rfl (Ev.mv rfl rfl) (WL.ev rfl rfl (Ev.mv rfl rfl) ?_)
        obtain ⟨b6, cb6, hvb6, hbb6⟩ := H.ptO (i := 4) rfl hx1
        refine WL.ev rfl rfl (Ev.ixVN rfl el43 sz105 rfl hvb6 rfl (lt_of hx1)) (WL.ev rfl rfl (Ev.fa rfl fo105_2 rfl) ?_)
        obtain ⟨hA1, hS3, hI6, hI7, H⟩ := elO_Attribute H (i := 4) rfl hx1 hbb6
        refine WL.ev rfl rfl (Ev.ld rfl ag3 rfl (hA1.cell rfl)) (WL.ev rfl rfl (Ev.bin rfl rfl rfl Bin.eql) ?_)
        obtain ⟨q4, hm2, hm1⟩ := bd hm1
        refine WL.cut 8 (fun ρ' w => ∃ (s7 : Bool), s7 = q4 ∧ agree ρ' [(5, .pointer (some ⟨b3, 0, none⟩)), (6, .pointer (some ⟨b4, 0, none⟩)), (7, .slice A7 n7 c7), (8, .pointer (some ⟨b5, 0, none⟩)), (9, .int .i64 (k1 : Int)), (10, .int .i64 (k2 : Int)), (43, .bool s7)] ∧ HL F0 [] w0 w [Pr.R a0 [.slice A1 n1 c1, .slice A2 n2 c2], Pr.R a1 [.string a1.Name, .string a1.Left, .slice A3 n3 c3, .bool a1.Literal, .slice A4 n4 c4, .slice A5 n5 c5], Pr.R a2 [.int .i64 a2.N, .slice A6 n6 c6], Pr.S a0.Symbols (.slice A1 n1 c1), Pr.S a0.Rules (.slice A2 n2 c2), Pr.S a1.Right (.slice A3 n3 c3), Pr.S a1.Equations (.slice A4 n4 c4), Pr.S a1.Contributions (.slice A5 n5 c5), Pr.S a2.Rows (.slice A6 n6 c6), Pr.R x1 [.string x1.Name, .int .i64 x1.Type_, .int .i64 x1.Mode, .bool x1.Circular]] [It.B b1 48 [.slice A1 n1 c1, .slice A2 n2 c2], It.B b2 65 [.string a1.Name, .string a1.Left, .slice A3 n3 c3, .bool a1.Literal, .slice A4 n4 c4, .slice A5 n5 c5], It.B b3 79 [.int .i64 a2.N, .slice A6 n6 c6], It.B b4 79 [.int .i64 0, .slice none 0 0], It.O 105 y1 (.slice A7 n7 c7), It.O 3 s3 (.slice A10 n10 c10), It.B b5 79 [.int .i64 s4, .slice A10 n10 c10]]) ?_ ?_
        · skip
          refine WL.mvD rfl rfl rfl rfl (fun h3 => ?_) (fun h3 => ?_)
          · skip
            have hm2 := ifp h3 hm2
            refine WL.on rfl rfl (WL.ev rfl rfl (Ev.mv rfl rfl) (WL.on rfl rfl (WL.ev rfl rfl (Ev.mv rfl rfl) (WL.on rfl rfl ?_))))
            obtain ⟨b7, cb7, hvb7, hbb7⟩ := H.ptO (i := 4) rfl hx2
            refine WL.ev rfl rfl (Ev.ixVN rfl el43 sz105 rfl hvb7 rfl (lt_of hx2)) (WL.on rfl rfl (WL.ev rfl rfl (Ev.fa rfl fo105_2 rfl) (WL.on rfl rfl ?_)))
            obtain ⟨hA2, hS4, hI8, hI9, H⟩ := elO_Attribute H (i := 4) rfl hx2 hbb7
            refine WL.ev rfl rfl (Ev.ld rfl ag3 rfl (hA2.cell rfl)) (WL.on rfl rfl (WL.ev rfl rfl (Ev.bin rfl rfl rfl Bin.eql) (WL.ev rfl rfl (Ev.pickT rfl rfl rfl) (WL.nil ?_))))
            obtain rfl := sm hm2
            exact ⟨(decide (x2.Mode = 2)), rfl, ⟨rfl, rfl, rfl, rfl, rfl, rfl, rfl, trivial⟩, H.keep 10 7⟩
          · skip
            have hm2 := ifn h3 hm2
            refine WL.off rfl rfl rfl (WL.off rfl rfl rfl (WL.off rfl rfl rfl (WL.off rfl rfl rfl (WL.off rfl rfl rfl (WL.off rfl rfl rfl (WL.ev rfl rfl (Ev.pickF rfl rfl rfl) (WL.nil ?_)))))))
            obtain rfl := sm hm2
            exact ⟨false, rfl, ⟨rfl, rfl, rfl, rfl, rfl, rfl, rfl, trivial⟩, H.keep 10 7⟩
        · rintro ρ' w11 ⟨s7, rfl, hag, H⟩
          obtain ⟨σ, rfl⟩ := ofL_ex hag
          obtain ⟨q5, hm3, hm1⟩ := bd hm1
          refine WL.cut 6 (fun ρ' w => ∃ (s8 : Bool), s8 = q5 ∧ agree ρ' [(5, .pointer (some ⟨b3, 0, none⟩)), (6, .pointer (some ⟨b4, 0, none⟩)), (7, .slice A7 n7 c7), (8, .pointer (some ⟨b5, 0, none⟩)), (9, .int .i64 (k1 : Int)), (10, .int .i64 (k2 : Int)), (49, .bool s8)] ∧ HL F0 [] w0 w [Pr.R a0 [.slice A1 n1 c1, .slice A2 n2 c2], Pr.R a1 [.string a1.Name, .string a1.Left, .slice A3 n3 c3, .bool a1.Literal, .slice A4 n4 c4, .slice A5 n5 c5], Pr.R a2 [.int .i64 a2.N, .slice A6 n6 c6], Pr.S a0.Symbols (.slice A1 n1 c1), Pr.S a0.Rules (.slice A2 n2 c2), Pr.S a1.Right (.slice A3 n3 c3), Pr.S a1.Equations (.slice A4 n4 c4), Pr.S a1.Contributions (.slice A5 n5 c5), Pr.S a2.Rows (.slice A6 n6 c6), Pr.R x1 [.string x1.Name, .int .i64 x1.Type_, .int .i64 x1.Mode, .bool x1.Circular]] [It.B b1 48 [.slice A1 n1 c1, .slice A2 n2 c2], It.B b2 65 [.string a1.Name, .string a1.Left, .slice A3 n3 c3, .bool a1.Literal, .slice A4 n4 c4, .slice A5 n5 c5], It.B b3 79 [.int .i64 a2.N, .slice A6 n6 c6], It.B b4 79 [.int .i64 0, .slice none 0 0], It.O 105 y1 (.slice A7 n7 c7), It.O 3 s3 (.slice A10 n10 c10), It.B b5 79 [.int .i64 s4, .slice A10 n10 c10]]) ?_ ?_
          · skip
            refine WL.mvB rfl rfl rfl rfl (fun h4 => ?_) (fun h4 => ?_)
            · skip
              have hm3 := ifp h4 hm3
              refine WL.on rfl rfl (WL.ev rfl rfl (Ev.lda rfl ag79 sz79 rfl (At.blk (H.rB (i := 2) rfl)) rfl) (WL.on rfl rfl (WL.ev rfl rfl (Ev.mv rfl rfl) (WL.on rfl rfl (WL.ev rfl rfl (Ev.mv rfl rfl) (WL.on rfl rfl ?_))))))
              obtain ⟨y3, hy3, hm3⟩ := bd hm3
              refine WL.call rfl rfl rfl rfl rfl ok94 rfl (sHasPair_ok hy3 ⟨_, rfl, hI1, (H.rS (i := 8) rfl)⟩ (i64_nat hk2 hl1) (i64_nat hk4 hl1)) ?_
              rintro _ w12 hE rfl
              have H := H.ext hE
              refine WL.ev rfl rfl (Ev.pickT rfl rfl rfl) (WL.nil ?_)
              obtain rfl := sm hm3
              exact ⟨y3, rfl, ⟨rfl, rfl, rfl, rfl, rfl, rfl, rfl, trivial⟩, H.keep 10 7⟩
            · skip
              have hm3 := ifn h4 hm3
              refine WL.off rfl rfl rfl (WL.off rfl rfl rfl (WL.off rfl rfl rfl (WL.off rfl rfl rfl (WL.ev rfl rfl (Ev.pickF rfl rfl rfl) (WL.nil ?_)))))
              obtain rfl := sm hm3
              exact ⟨false, rfl, ⟨rfl, rfl, rfl, rfl, rfl, rfl, rfl, trivial⟩, H.keep 10 7⟩
          · rintro ρ' w13 ⟨s8, rfl, hag, H⟩
            obtain ⟨σ, rfl⟩ := ofL_ex hag
            refine WL.nil ?_
            refine CW.condB rfl (fun h5 => ?_) (fun h5 => ?_)
            · skip
              have hm1 := ifp h5 hm1
              refine CW.reg ?_
              refine WL.ev rfl rfl (Ev.lda rfl ag79 sz79 rfl (At.blk (H.rB (i := 6) rfl)) rfl) (WL.ev rfl rfl (Ev.mv rfl rfl) (WL.ev rfl rfl (Ev.mv rfl rfl) ?_))
              obtain ⟨y4, hy4, hm1⟩ := bd hm1
              refine WL.call rfl rfl rfl rfl rfl ok95 rfl (sAddPair_ok hy4 ⟨_, rfl, hI4, (H.rO (i := 5) rfl)⟩ (i64_nat hk2 hl1) (i64_nat hk4 hl1)) ?_
              rintro _ w14 hE ⟨A11, n11, c11, rfl, hI10, H'⟩
              have H := H.callA H' ⟨fun _ _ _ _ _ h => h, trivial⟩
              refine WL.stB (i := 6) rfl rfl rfl sz79 rfl rfl rfl rfl (all1 rfl (all1 rfl all0)) H rfl rfl rfl fun w15 H => ?_
              refine WL.nil ?_
              have H := H.swap 5 7
              obtain rfl := sm hm1
              exact ⟨y4.Rows, y4.N, _, rfl, ⟨rfl, rfl, rfl, rfl, rfl, rfl, trivial⟩, hI10, H.keep 9 7⟩
            · skip
              have hm1 := ifn h5 hm1
              refine CW.skip ?_
              obtain rfl := sm hm1
              exact ⟨s3, s4, _, rfl, ⟨rfl, rfl, rfl, rfl, rfl, rfl, trivial⟩, hI4, H.keep 9 7⟩
      · rintro ρ' w16 ⟨s5, s6, v3, rfl, hag, hI5, H⟩
        obtain ⟨σ, rfl⟩ := ofL_ex hag
        obtain ⟨A12, n12, c12, rfl⟩ := (H.rO (i := 5) rfl).form3
        refine CW.reg ?_
        refine WL.ev rfl rfl (Ev.mv rfl rfl) (WL.ev rfl rfl (Ev.bin rfl rfl rfl (Bin.addN (a := k2) (b := 1) rfl (i64_succN hk4 hl1.2))) (WL.ev rfl rfl (Ev.as rfl rfl) (WL.nil ?_)))
        obtain rfl := sm hb2
        exact ⟨⟨k2 + 1, s5, s6, (.slice A12 n12 c12)⟩, ⟨rfl, rfl, rfl, rfl, rfl, rfl, trivial⟩, ⟨hk4, hq2, hI5, H.keep 9 7⟩, Nat.sub_lt_sub_left hk4 (Nat.lt_succ_self _)⟩
    · skip
      obtain rfl := eachL_end hq2 (not_cast_lt h2)
      refine CW.exit ?_
      refine CW.reg ?_
      refine WL.ev rfl rfl (Ev.mv rfl rfl) (WL.ev rfl rfl (Ev.bin rfl rfl rfl (Bin.addN (a := k1) (b := 1) rfl (i64_succN hk2 hl1.2))) (WL.ev rfl rfl (Ev.as rfl rfl) (WL.nil ?_)))
      obtain rfl := sm hb1
      exact ⟨⟨k1 + 1, s3, s4, (.slice A10 n10 c10)⟩, ⟨rfl, rfl, rfl, rfl, rfl, trivial⟩, ⟨hk2, hq1, hI4, H.keep 9 7⟩, Nat.sub_lt_sub_left hk2 (Nat.lt_succ_self _)⟩
  · skip
    obtain rfl := eachL_end hq1 (not_cast_lt h1)
    refine CW.exit ?_
    refine CW.seq (CW.reg ?_)
    refine WL.ev rfl rfl (Ev.lda rfl ag79 sz79 rfl (At.blk (H.rB (i := 6) rfl)) rfl) ?_
    refine WL.stB (i := 3) rfl rfl rfl sz79 rfl rfl rfl rfl (all1 rfl (all1 rfl all0)) H rfl rfl rfl fun w17 H => ?_
    refine WL.nil ?_
    refine CW.ret ?_
    obtain rfl := sm hr
    exact ⟨_, resC rfl ag79 sz79 rfl rfl (At.blk (H.rB (i := 3) rfl)) rfl, H.ext0, _, _, _, rfl, hI3, H.outM (fr' := []) [false, false, false, false, false, true, false] fun _ _ => trivial⟩

noncomputable def iEmptyRelation_m (a0 : Int) : Option Relation :=
  (iwithin_m a0 0 16).bind fun y1 =>
  if y1 = true then (
  grd (0 ≤ a0 ∧ a0 * 8 ≤ 281474976710656 ∧ a0 ≤ 9223372036854775807) <|
  some (⟨a0, (List.replicate a0.toNat (0 : Int))⟩ : Relation)
  ) else (
  some (⟨0, []⟩ : Relation)
  )
theorem iEmptyRelation_ok {a0 : Int} {r : Relation} (hr : iEmptyRelation_m a0 = some r) {F0 : Nat → Prop} {w0 : World} (ha0 : I64 a0) :
    Ret Try.prog 97 #[.int .i64 a0] w0 (fun _ => False) fun v w => ∃ A0 : Option Addr, ∃ n0 c0 : Nat, v = .agg #[.int .i64 r.N, (.slice A0 n0 c0)] ∧ I64 r.N ∧ HL F0 [] w0 w [] [It.O 3 r.Rows (.slice A0 n0 c0)] := by
  have H := HL.start F0 w0
  refine enter Try.func97 rfl rfl rfl ?_
  refine CW.seq (CW.reg ?_)
  refine WL.allocH rfl rfl rfl ze79 H fun b1 w1 H => ?_
  refine WL.nil ?_
  refine CW.seq (CW.seq (CW.reg ?_))
  refine WL.ev rfl rfl (Ev.mv rfl rfl) ?_
  obtain ⟨y1, hy1, hr⟩ := bd hr
  refine WL.call rfl rfl rfl rfl rfl ok116 rfl (iwithin_ok hy1 (F0 := fun _ => False) ha0 (by decide : I64 0) (by decide : I64 16)) ?_
  rintro _ w2 hE rfl
  have H := H.ext hE
  refine WL.ev rfl rfl (Ev.not rfl rfl) (WL.nil ?_)
  refine CW.condBN rfl (fun h1 => ?_) (fun h1 => ?_)
  · skip
    have hr := ifn h1 hr
    refine CW.seq (CW.reg ?_)
    refine WL.ev rfl rfl (Ev.build rfl pl79 ze79 rfl rfl rfl rfl) ?_
    refine WL.stB (i := 0) rfl rfl rfl sz79 rfl rfl rfl rfl (all1 rfl (all1 rfl all0)) H rfl rfl rfl fun w3 H => ?_
    refine WL.nil ?_
    refine CW.ret ?_
    have H := H.nil (α := Int) 3
    obtain rfl := sm hr
    exact ⟨_, resC rfl ag79 sz79 rfl rfl (At.blk (H.rB (i := 0) rfl)) rfl, H.ext0, _, _, _, rfl, (by decide : I64 0), H.outM (fr' := []) [false, true] fun _ _ => trivial⟩
  · skip
    have hr := ifp h1 hr
    refine CW.skip ?_
    refine CW.seq (CW.reg ?_)
    refine WL.ev rfl rfl (Ev.mv rfl rfl) (WL.ev rfl rfl (Ev.mv rfl rfl) ?_)
    obtain ⟨hg1, hr⟩ := grd_some hr
    refine WL.mkH (x := (0 : Int)) rfl rfl rfl el71 sz3 by3 ze3 (fun _ => ⟨rfl, rfl, (by decide : I64 0)⟩) rfl rfl hg1 H fun A1 n1 c1 w4 H => ?_
    refine WL.ev rfl rfl (Ev.build rfl pl79 ze79 rfl rfl rfl rfl) ?_
    refine WL.stB (i := 0) rfl rfl rfl sz79 rfl rfl rfl rfl (all1 rfl (all1 rfl all0)) H rfl rfl rfl fun w5 H => ?_
    refine WL.nil ?_
    refine CW.ret ?_
    obtain rfl := sm hr
    exact ⟨_, resC rfl ag79 sz79 rfl rfl (At.blk (H.rB (i := 0) rfl)) rfl, H.ext0, _, _, _, rfl, ha0, H.outM (fr' := []) [false, true] fun _ _ => trivial⟩

noncomputable def iIsValidRelation_1_m (a0 : Int) (a1 : Relation) : Option Bool :=
  grd (0 ≤ a1.N) <|
  grd (0 ≤ a1.N ∧ a1.N < 63) <|
  (iwithin_m a0 0 (((2 ^ a1.N.toNat : Nat) : Int) - 1)).bind fun y1 =>
  some (!y1)
theorem iIsValidRelation_1_ok {a0 : Int} {a1 : Relation} {r : Bool} (hr : iIsValidRelation_1_m a0 a1 = some r) {F0 : Nat → Prop} {w0 : World} (ha0 : I64 a0) {b1p : Nat} (ha1 : CapP F0 w0 b1p a1) :
    Ret Try.prog 135 #[.int .i64 a0, .pointer (some ⟨b1p, 0, none⟩)] w0 (fun _ => False) fun v w => v = .bool r := by
  have H := HL.start F0 w0
  obtain ⟨cpa1, H⟩ := H.argP ha1
  obtain ⟨A1, n1, c1, rfl, hI1, H⟩ := op_Relation H (i := 1) rfl
  refine enter Try.func135 rfl rfl rfl ?_
  refine CW.seq (CW.reg ?_)
  refine WL.ev rfl rfl (Ev.as rfl rfl) (WL.nil ?_)
  refine CW.seq (CW.reg ?_)
  refine WL.ev rfl rfl (Ev.mv rfl rfl) (WL.ev rfl rfl (Ev.fa rfl fo79_0 rfl) (WL.ev rfl rfl (Ev.ld rfl ag3 rfl ((H.rA (i := 0) rfl).cell rfl)) ?_))
  obtain ⟨hg1, hr⟩ := grd_some hr
  refine WL.ev rfl rfl (Ev.convUI rfl Try.underlying3 it166 rfl hg1 hI1.2) ?_
  obtain ⟨hg2, hr⟩ := grd_some hr
  refine WL.ev rfl rfl (Ev.bin rfl rfl rfl (Bin.shlI hg2.1 hg2.2)) (WL.ev rfl rfl (Ev.bin rfl rfl rfl (Bin.sub (i64_sub (k := 1) (i64_pow hg2.2) (by decide)))) ?_)
  obtain ⟨y1, hy1, hr⟩ := bd hr
  refine WL.call rfl rfl rfl rfl rfl ok116 rfl (iwithin_ok hy1 (F0 := fun _ => False) ha0 (by decide : I64 0) (i64_sub (k := 1) (i64_pow hg2.2) (by decide))) ?_
  rintro _ w1 hE rfl
  have H := H.ext hE
  refine WL.ev rfl rfl (Ev.not rfl rfl) (WL.ev rfl rfl (Ev.as rfl rfl) (WL.nil ?_))
  refine CW.ret ?_
  obtain rfl := sm hr
  exact ⟨_, res1 rfl rfl rfl, H.ext0, rfl⟩

noncomputable def slices_IndexFunc_int_iIsValidRelation_1_L1 (a1_0 : Relation) : Nat → Int → Unit → Option (Unit ⊕ Int) := fun k1 x1 _ => 
  (iIsValidRelation_1_m x1 a1_0).bind fun y1 =>
  if y1 = true then (
  some (.inr (k1 : Int))
  ) else (
  some (.inl ())
  )
noncomputable def slices_IndexFunc_int_iIsValidRelation_1_m (a0 : (List Int)) (a1_0 : Relation) : Option Int :=
  (findL (slices_IndexFunc_int_iIsValidRelation_1_L1 a1_0) 0 a0 ()).bind <| onr (fun r1 => some r1) fun _ =>
  some (-1)
theorem slices_IndexFunc_int_iIsValidRelation_1_ok {a0 : (List Int)} {a1_0 : Relation} {r : Int} (hr : slices_IndexFunc_int_iIsValidRelation_1_m a0 a1_0 = some r) {F0 : Nat → Prop} {w0 : World} {z0 : Value} (ha0 : rdS F0 w0 a0 z0) {b1_0p : Nat} (ha1_0 : CapP F0 w0 b1_0p a1_0) :
    Ret Try.prog 152 #[z0, .func (.func 135) #[] #[.pointer (some ⟨b1_0p, 0, none⟩)]] w0 (fun _ => False) fun v w => v = .int .i64 r ∧ I64 r := by
  obtain ⟨A0', n0', c0', rfl⟩ := ha0.form3
  have H := (HL.start F0 w0).argS ha0
  obtain ⟨cpa1_0, H⟩ := H.argP ha1_0
  obtain ⟨A1, n1, c1, rfl, hI1, H⟩ := op_Relation H (i := 2) rfl
  refine enter Try.func152 rfl rfl rfl ?_
  refine CW.seq (CW.reg ?_)
  refine WL.ev rfl rfl (Ev.as rfl rfl) (WL.nil ?_)
  refine CW.seq (CW.seq (CW.reg ?_))
  refine WL.ev rfl rfl (Ev.mv rfl rfl) ?_
  have hl1 := (H.rS (i := 0) rfl).I
  refine WL.ev rfl rfl (Ev.lenV rfl el71 rfl (H.rS (i := 0) rfl)) (WL.ev rfl rfl (Ev.mv rfl rfl) (WL.nil ?_))
  obtain ⟨q1, hq1, hr⟩ := bd hr
  refine CW.block (CW.loop (α := Nat) (fun k1 => [(0, .slice A0' n0' c0'), (1, .func (.func 135) #[] #[.pointer (some ⟨b1_0p, 0, none⟩)]), (7, .int .i64 (a0.length : Int)), (8, .int .i64 (k1 : Int))]) (fun k1 w => k1 ≤ a0.length ∧ findL (slices_IndexFunc_int_iIsValidRelation_1_L1 a1_0) k1 (a0.drop k1) () = some q1 ∧ HL F0 [] w0 w [Pr.S a0 (.slice A0' n0' c0'), Pr.A b1_0p 0 [.int .i64 a1_0.N, .slice A1 n1 c1], Pr.R a1_0 [.int .i64 a1_0.N, .slice A1 n1 c1], Pr.S a1_0.Rows (.slice A1 n1 c1)] []) (fun k1 => a0.length - k1) 0 ⟨rfl, rfl, rfl, rfl, trivial⟩ ⟨Nat.zero_le _, hq1, H.keep 4 0⟩ ?_)
  rintro k1 σ w1 ⟨hk1, hq1, H⟩
  refine CW.seq (CW.reg ?_)
  refine WL.ev rfl rfl (Ev.bin rfl rfl rfl Bin.lss) (WL.nil ?_)
  refine CW.seq (CW.condD rfl (fun h1 => ?_) (fun h1 => ?_))
  · skip
    have hk2 := cast_lt h1
    obtain ⟨x1, z1, hx1, hb1, hs1, ht1⟩ := findL_go hq1 hk2
    refine CW.skip ?_
    refine CW.seq (CW.block (CW.seq (CW.reg ?_)))
    refine WL.ev rfl rfl (Ev.mv rfl rfl) (WL.ev rfl rfl (Ev.as rfl rfl) (WL.nil ?_))
    refine CW.seq (CW.reg ?_)
    refine WL.ev rfl rfl (Ev.mv rfl rfl) (WL.ev rfl rfl (Ev.mv rfl rfl) (WL.ev rfl rfl (Ev.mv rfl rfl) ?_))
    obtain ⟨b1, ob1, cb1, hvb1, hI2, H⟩ := ixS_Int H (i := 0) rfl hx1
    refine WL.ev rfl rfl (Ev.ixVN rfl el71 sz3 rfl hvb1 rfl (lt_of hx1)) (WL.ev rfl rfl (Ev.ld rfl ag3 rfl ((H.rA (i := 4) rfl).cell0 rfl)) ?_)
    obtain ⟨y1, hy1, hb1⟩ := bd hb1
    refine WL.call rfl rfl rfl rfl rfl ok135 rfl (iIsValidRelation_1_ok hy1 (F0 := fun q => q < _) hI2 ⟨H.rAl (i := 1) rfl, _, H.rA (i := 1) rfl, ⟨_, rfl, hI1, (H.rS (i := 3) rfl)⟩⟩) ?_
    rintro _ w2 hE rfl
    have H := H.ext hE
    refine WL.nil ?_
    refine CW.condB rfl (fun h2 => ?_) (fun h2 => ?_)
    · skip
      have hb1 := ifp h2 hb1
      refine CW.seq (CW.reg ?_)
      refine WL.ev rfl rfl (Ev.mv rfl rfl) (WL.ev rfl rfl (Ev.as rfl rfl) (WL.nil ?_))
      refine CW.ret ?_
      obtain rfl := sm hb1
      obtain rfl := ht1 _ rfl
      obtain rfl := sm hr
      exact ⟨_, res1 rfl rfl rfl, H.ext0, rfl, (i64_nat hk2 hl1)⟩
    · skip
      have hb1 := ifn h2 hb1
      refine CW.skip ?_
      refine CW.reg ?_
      refine WL.ev rfl rfl (Ev.bin rfl rfl rfl (Bin.addN (a := k1) (b := 1) rfl (i64_succN hk2 hl1.2))) (WL.ev rfl rfl (Ev.mv rfl rfl) (WL.nil ?_))
      obtain rfl := sm hb1
      have hq1 := hs1 _ rfl
      exact ⟨(k1 + 1), ⟨rfl, rfl, rfl, rfl, trivial⟩, ⟨hk2, hq1, H.keep 4 0⟩, Nat.sub_lt_sub_left hk2 (Nat.lt_succ_self _)⟩
  · skip
    obtain rfl := findL_end hq1 (not_cast_lt h1)
    refine CW.exit ?_
    refine CW.seq (CW.reg ?_)
    refine WL.ev rfl rfl (Ev.as rfl rfl) (WL.nil ?_)
    refine CW.ret ?_
    obtain rfl := sm hr
    exact ⟨_, res1 rfl rfl rfl, H.ext0, rfl, (by decide : I64 (-1))⟩

noncomputable def slices_ContainsFunc_int_iIsValidRelation_1_m (a0 : (List Int)) (a1_0 : Relation) : Option Bool :=
  (slices_IndexFunc_int_iIsValidRelation_1_m a0 a1_0).bind fun y1 =>
  some (decide (0 ≤ y1))
theorem slices_ContainsFunc_int_iIsValidRelation_1_ok {a0 : (List Int)} {a1_0 : Relation} {r : Bool} (hr : slices_ContainsFunc_int_iIsValidRelation_1_m a0 a1_0 = some r) {F0 : Nat → Prop} {w0 : World} {z0 : Value} (ha0 : rdS F0 w0 a0 z0) {b1_0p : Nat} (ha1_0 : CapP F0 w0 b1_0p a1_0) :
    Ret Try.prog 134 #[z0, .func (.func 135) #[] #[.pointer (some ⟨b1_0p, 0, none⟩)]] w0 (fun _ => False) fun v w => v = .bool r := by
  obtain ⟨A0', n0', c0', rfl⟩ := ha0.form3
  have H := (HL.start F0 w0).argS ha0
  obtain ⟨cpa1_0, H⟩ := H.argP ha1_0
  obtain ⟨A1, n1, c1, rfl, hI1, H⟩ := op_Relation H (i := 2) rfl
  refine enter Try.func134 rfl rfl rfl ?_
  refine CW.seq (CW.reg ?_)
  refine WL.ev rfl rfl (Ev.as rfl rfl) (WL.nil ?_)
  refine CW.seq (CW.reg ?_)
  refine WL.ev rfl rfl (Ev.mv rfl rfl) (WL.ev rfl rfl (Ev.mv rfl rfl) ?_)
  obtain ⟨y1, hy1, hr⟩ := bd hr
  refine WL.call rfl rfl rfl rfl rfl ok152 rfl (slices_IndexFunc_int_iIsValidRelation_1_ok hy1 (H.rS (i := 0) rfl) ⟨H.rAl (i := 1) rfl, _, H.rA (i := 1) rfl, ⟨_, rfl, hI1, (H.rS (i := 3) rfl)⟩⟩) ?_
  rintro _ w1 hE ⟨rfl, hI2⟩
  have H := H.ext hE
  refine WL.ev rfl rfl (Ev.bin rfl rfl rfl Bin.geq) (WL.ev rfl rfl (Ev.as rfl rfl) (WL.nil ?_))
  refine CW.ret ?_
  obtain rfl := sm hr
  exact ⟨_, res1 rfl rfl rfl, H.ext0, rfl⟩

noncomputable def iIsValidRelation_m (a0 : Relation) : Option Bool :=
  (iwithin_m a0.N 0 16).bind fun y1 =>
  (
  if y1 = true then (
  some (decide ((a0.Rows.length : Int) = a0.N))
  ) else (
  some false
  )
  ).bind fun s1 =>
  (
  if s1 = true then (
  (slices_ContainsFunc_int_iIsValidRelation_1_m a0.Rows a0).bind fun y2 =>
  some (!y2)
  ) else (
  some false
  )
  ).bind fun s2 =>
  some s2
theorem iIsValidRelation_ok {a0 : Relation} {r : Bool} (hr : iIsValidRelation_m a0 = some r) {F0 : Nat → Prop} {w0 : World} {ca0 : List Value} (ha0 : rd F0 w0 a0 ca0) :
    Ret Try.prog 123 #[.agg ca0.toArray] w0 (fun _ => False) fun v w => v = .bool r := by
  have H := (HL.start F0 w0).argR ha0
  obtain ⟨A1, n1, c1, rfl, hI1, H⟩ := op_Relation H (i := 0) rfl
  refine enter Try.func123 rfl rfl rfl ?_
  refine CW.seq (CW.reg ?_)
  refine WL.boxH rfl rfl rfl rfl rfl H fun b1 w1 H => ?_
  refine WL.ev rfl rfl (Ev.as rfl rfl) (WL.nil ?_)
  refine CW.seq (CW.reg ?_)
  refine WL.ev rfl rfl (Ev.fa rfl fo79_0 rfl) (WL.ev rfl rfl (Ev.ld rfl ag3 rfl ((H.rB (i := 0) rfl).cell rfl)) ?_)
  obtain ⟨y1, hy1, hr⟩ := bd hr
  refine WL.call rfl rfl rfl rfl rfl ok116 rfl (iwithin_ok hy1 (F0 := fun _ => False) hI1 (by decide : I64 0) (by decide : I64 16)) ?_
  rintro _ w2 hE rfl
  have H := H.ext hE
  obtain ⟨q1, hm1, hr⟩ := bd hr
  refine WL.cut 8 (fun ρ' w => ∃ (s1 : Bool), s1 = q1 ∧ agree ρ' [(1, .pointer (some ⟨b1, 0, none⟩)), (2, .bool false), (13, .bool s1)] ∧ HL F0 [] w0 w [Pr.R a0 [.int .i64 a0.N, .slice A1 n1 c1], Pr.S a0.Rows (.slice A1 n1 c1)] [It.B b1 79 [.int .i64 a0.N, .slice A1 n1 c1]]) ?_ ?_
  · skip
    refine WL.mvB rfl rfl rfl rfl (fun h1 => ?_) (fun h1 => ?_)
    · skip
      have hm1 := ifp h1 hm1
      refine WL.on rfl rfl (WL.ev rfl rfl (Ev.fa rfl fo79_1 rfl) (WL.on rfl rfl (WL.ev rfl rfl (Ev.ld rfl ag71 rfl ((H.rB (i := 0) rfl).cell rfl)) (WL.on rfl rfl ?_))))
      have hl1 := (H.rS (i := 1) rfl).I
      refine WL.ev rfl rfl (Ev.lenV rfl el71 rfl (H.rS (i := 1) rfl)) (WL.on rfl rfl (WL.ev rfl rfl (Ev.fa rfl fo79_0 rfl) (WL.on rfl rfl (WL.ev rfl rfl (Ev.ld rfl ag3 rfl ((H.rB (i := 0) rfl).cell rfl)) (WL.on rfl rfl (WL.ev rfl rfl (Ev.bin rfl rfl rfl Bin.eql) (WL.ev rfl rfl (Ev.pickT rfl rfl rfl) (WL.nil ?_))))))))
      obtain rfl := sm hm1
      exact ⟨(decide ((a0.Rows.length : Int) = a0.N)), rfl, ⟨rfl, rfl, rfl, trivial⟩, H.keep 2 1⟩
    · skip
      have hm1 := ifn h1 hm1
      refine WL.off rfl rfl rfl (WL.off rfl rfl rfl (WL.off rfl rfl rfl (WL.off rfl rfl rfl (WL.off rfl rfl rfl (WL.off rfl rfl rfl (WL.ev rfl rfl (Ev.pickF rfl rfl rfl) (WL.nil ?_)))))))
      obtain rfl := sm hm1
      exact ⟨false, rfl, ⟨rfl, rfl, rfl, trivial⟩, H.keep 2 1⟩
  · rintro ρ' w3 ⟨s1, rfl, hag, H⟩
    obtain ⟨σ, rfl⟩ := ofL_ex hag
    obtain ⟨q2, hm2, hr⟩ := bd hr
    refine WL.cut 7 (fun ρ' w => ∃ (s2 : Bool), s2 = q2 ∧ agree ρ' [(2, .bool false), (20, .bool s2)] ∧ HL F0 [] w0 w [Pr.R a0 [.int .i64 a0.N, .slice A1 n1 c1], Pr.S a0.Rows (.slice A1 n1 c1)] [It.B b1 79 [.int .i64 a0.N, .slice A1 n1 c1]]) ?_ ?_
    · skip
      refine WL.mvB rfl rfl rfl rfl (fun h2 => ?_) (fun h2 => ?_)
      · skip
        have hm2 := ifp h2 hm2
        refine WL.on rfl rfl (WL.ev rfl rfl (Ev.fa rfl fo79_1 rfl) (WL.on rfl rfl (WL.ev rfl rfl (Ev.ld rfl ag71 rfl ((H.rB (i := 0) rfl).cell rfl)) (WL.on rfl rfl (WL.ev rfl rfl (Ev.mkfL rfl rfl rfl) (WL.on rfl rfl ?_))))))
        obtain ⟨y2, hy2, hm2⟩ := bd hm2
        refine WL.call rfl rfl rfl rfl rfl ok134 rfl (slices_ContainsFunc_int_iIsValidRelation_1_ok hy2 (H.rS (i := 1) rfl) ⟨(H.rB (i := 0) rfl).lt, _, At.blk (H.rB (i := 0) rfl), ⟨_, rfl, hI1, (H.rS (i := 1) rfl)⟩⟩) ?_
        rintro _ w4 hE rfl
        have H := H.ext hE
        refine WL.on rfl rfl (WL.ev rfl rfl (Ev.not rfl rfl) (WL.ev rfl rfl (Ev.pickT rfl rfl rfl) (WL.nil ?_)))
        obtain rfl := sm hm2
        exact ⟨(!y2), rfl, ⟨rfl, rfl, trivial⟩, H.keep 2 1⟩
      · skip
        have hm2 := ifn h2 hm2
        refine WL.off rfl rfl rfl (WL.off rfl rfl rfl (WL.off rfl rfl rfl (WL.off rfl rfl rfl (WL.off rfl rfl rfl (WL.ev rfl rfl (Ev.pickF rfl rfl rfl) (WL.nil ?_))))))
        obtain rfl := sm hm2
        exact ⟨false, rfl, ⟨rfl, rfl, trivial⟩, H.keep 2 1⟩
    · rintro ρ' w5 ⟨s2, rfl, hag, H⟩
      obtain ⟨σ, rfl⟩ := ofL_ex hag
      refine WL.ev rfl rfl (Ev.as rfl rfl) (WL.nil ?_)
      refine CW.ret ?_
      obtain rfl := sm hr
      exact ⟨_, res1 rfl rfl rfl, H.ext0, rfl⟩

noncomputable def iHasPair_m (a0 : Relation) (a1 : Int) (a2 : Int) : Option Bool :=
  (iIsValidRelation_m a0).bind fun y1 =>
  (
  if y1 = true then (
  grd (I64 (a0.N - 1)) <|
  (iwithin_m a1 0 (a0.N - 1)).bind fun y2 =>
  some y2
  ) else (
  some false
  )
  ).bind fun s1 =>
  (
  if s1 = true then (
  grd (I64 (a0.N - 1)) <|
  (iwithin_m a2 0 (a0.N - 1)).bind fun y3 =>
  some y3
  ) else (
  some false
  )
  ).bind fun s2 =>
  (
  if s2 = true then (
  grd (0 ≤ a1) <|
  (a0.Rows[a1.toNat]?).bind fun x1 =>
  grd (0 ≤ a2) <|
  grd (0 ≤ x1 ∧ 0 ≤ a2 ∧ a2 < 64) <|
  grd (0 ≤ ((x1.toNat >>> a2.toNat : Nat) : Int) ∧ 0 ≤ (1 : Int)) <|
  some (decide (((((x1.toNat >>> a2.toNat : Nat) : Int).toNat &&& (1 : Int).toNat : Nat) : Int) = 1))
  ) else (
  some false
  )
  ).bind fun s3 =>
  some s3
theorem iHasPair_ok {a0 : Relation} {a1 : Int} {a2 : Int} {r : Bool} (hr : iHasPair_m a0 a1 a2 = some r) {F0 : Nat → Prop} {w0 : World} {ca0 : List Value} (ha0 : rd F0 w0 a0 ca0) (ha1 : I64 a1) (ha2 : I64 a2) :
    Ret Try.prog 98 #[.agg ca0.toArray, .int .i64 a1, .int .i64 a2] w0 (fun _ => False) fun v w => v = .bool r := by
  have H := (HL.start F0 w0).argR ha0
  obtain ⟨A1, n1, c1, rfl, hI1, H⟩ := op_Relation H (i := 0) rfl
  refine enter Try.func98 rfl rfl rfl ?_
  refine CW.seq (CW.reg ?_)
  refine WL.boxH rfl rfl rfl rfl rfl H fun b1 w1 H => ?_
  refine WL.ev rfl rfl (Ev.as rfl rfl) (WL.nil ?_)
  refine CW.seq (CW.reg ?_)
  refine WL.ev rfl rfl (Ev.lda rfl ag79 sz79 rfl (At.blk (H.rB (i := 0) rfl)) rfl) ?_
  obtain ⟨y1, hy1, hr⟩ := bd hr
  refine WL.call rfl rfl rfl rfl rfl ok123 rfl (iIsValidRelation_ok hy1 ⟨_, rfl, hI1, (H.rS (i := 1) rfl)⟩) ?_
  rintro _ w2 hE rfl
  have H := H.ext hE
  obtain ⟨q1, hm1, hr⟩ := bd hr
  refine WL.cut 7 (fun ρ' w => ∃ (s1 : Bool), s1 = q1 ∧ agree ρ' [(1, .int .i64 a1), (2, .int .i64 a2), (3, .pointer (some ⟨b1, 0, none⟩)), (6, .bool false), (15, .bool s1)] ∧ HL F0 [] w0 w [Pr.R a0 [.int .i64 a0.N, .slice A1 n1 c1], Pr.S a0.Rows (.slice A1 n1 c1)] [It.B b1 79 [.int .i64 a0.N, .slice A1 n1 c1]]) ?_ ?_
  · skip
    refine WL.mvB rfl rfl rfl rfl (fun h1 => ?_) (fun h1 => ?_)
    · skip
      have hm1 := ifp h1 hm1
      refine WL.on rfl rfl (WL.ev rfl rfl (Ev.mv rfl rfl) (WL.on rfl rfl (WL.ev rfl rfl (Ev.fa rfl fo79_0 rfl) (WL.on rfl rfl (WL.ev rfl rfl (Ev.ld rfl ag3 rfl ((H.rB (i := 0) rfl).cell rfl)) (WL.on rfl rfl ?_))))))
      obtain ⟨hg1, hm1⟩ := grd_some hm1
      refine WL.ev rfl rfl (Ev.bin rfl rfl rfl (Bin.sub hg1)) (WL.on rfl rfl ?_)
      obtain ⟨y2, hy2, hm1⟩ := bd hm1
      refine WL.call rfl rfl rfl rfl rfl ok116 rfl (iwithin_ok hy2 (F0 := fun _ => False) ha1 (by decide : I64 0) hg1) ?_
      rintro _ w3 hE rfl
      have H := H.ext hE
      refine WL.ev rfl rfl (Ev.pickT rfl rfl rfl) (WL.nil ?_)
      obtain rfl := sm hm1
      exact ⟨y2, rfl, ⟨rfl, rfl, rfl, rfl, rfl, trivial⟩, H.keep 2 1⟩
    · skip
      have hm1 := ifn h1 hm1
      refine WL.off rfl rfl rfl (WL.off rfl rfl rfl (WL.off rfl rfl rfl (WL.off rfl rfl rfl (WL.off rfl rfl rfl (WL.ev rfl rfl (Ev.pickF rfl rfl rfl) (WL.nil ?_))))))
      obtain rfl := sm hm1
      exact ⟨false, rfl, ⟨rfl, rfl, rfl, rfl, rfl, trivial⟩, H.keep 2 1⟩
  · rintro ρ' w4 ⟨s1, rfl, hag, H⟩
    obtain ⟨σ, rfl⟩ := ofL_ex hag
    obtain ⟨q2, hm2, hr⟩ := bd hr
    refine WL.cut 7 (fun ρ' w => ∃ (s2 : Bool), s2 = q2 ∧ agree ρ' [(1, .int .i64 a1), (2, .int .i64 a2), (3, .pointer (some ⟨b1, 0, none⟩)), (6, .bool false), (22, .bool s2)] ∧ HL F0 [] w0 w [Pr.R a0 [.int .i64 a0.N, .slice A1 n1 c1], Pr.S a0.Rows (.slice A1 n1 c1)] [It.B b1 79 [.int .i64 a0.N, .slice A1 n1 c1]]) ?_ ?_
    · skip
      refine WL.mvB rfl rfl rfl rfl (fun h2 => ?_) (fun h2 => ?_)
      · skip
        have hm2 := ifp h2 hm2
        refine WL.on rfl rfl (WL.ev rfl rfl (Ev.mv rfl rfl) (WL.on rfl rfl (WL.ev rfl rfl (Ev.fa rfl fo79_0 rfl) (WL.on rfl rfl (WL.ev rfl rfl (Ev.ld rfl ag3 rfl ((H.rB (i := 0) rfl).cell rfl)) (WL.on rfl rfl ?_))))))
        obtain ⟨hg2, hm2⟩ := grd_some hm2
        refine WL.ev rfl rfl (Ev.bin rfl rfl rfl (Bin.sub hg2)) (WL.on rfl rfl ?_)
        obtain ⟨y3, hy3, hm2⟩ := bd hm2
        refine WL.call rfl rfl rfl rfl rfl ok116 rfl (iwithin_ok hy3 (F0 := fun _ => False) ha2 (by decide : I64 0) hg2) ?_
        rintro _ w5 hE rfl
        have H := H.ext hE
        refine WL.ev rfl rfl (Ev.pickT rfl rfl rfl) (WL.nil ?_)
        obtain rfl := sm hm2
        exact ⟨y3, rfl, ⟨rfl, rfl, rfl, rfl, rfl, trivial⟩, H.keep 2 1⟩
      · skip
        have hm2 := ifn h2 hm2
        refine WL.off rfl rfl rfl (WL.off rfl rfl rfl (WL.off rfl rfl rfl (WL.off rfl rfl rfl (WL.off rfl rfl rfl (WL.ev rfl rfl (Ev.pickF rfl rfl rfl) (WL.nil ?_))))))
        obtain rfl := sm hm2
        exact ⟨false, rfl, ⟨rfl, rfl, rfl, rfl, rfl, trivial⟩, H.keep 2 1⟩
    · rintro ρ' w6 ⟨s2, rfl, hag, H⟩
      obtain ⟨σ, rfl⟩ := ofL_ex hag
      obtain ⟨q3, hm3, hr⟩ := bd hr
      refine WL.cut 12 (fun ρ' w => ∃ (s3 : Bool), s3 = q3 ∧ agree ρ' [(6, .bool false), (34, .bool s3)] ∧ HL F0 [] w0 w [Pr.R a0 [.int .i64 a0.N, .slice A1 n1 c1], Pr.S a0.Rows (.slice A1 n1 c1)] [It.B b1 79 [.int .i64 a0.N, .slice A1 n1 c1]]) ?_ ?_
      · skip
        refine WL.mvB rfl rfl rfl rfl (fun h3 => ?_) (fun h3 => ?_)
        · skip
          have hm3 := ifp h3 hm3
          refine WL.on rfl rfl (WL.ev rfl rfl (Ev.fa rfl fo79_1 rfl) (WL.on rfl rfl (WL.ev rfl rfl (Ev.ld rfl ag71 rfl ((H.rB (i := 0) rfl).cell rfl)) (WL.on rfl rfl (WL.ev rfl rfl (Ev.mv rfl rfl) (WL.on rfl rfl ?_))))))
          obtain ⟨hg3, hm3⟩ := grd_some hm3
          obtain ⟨x1, hx1, hm3⟩ := bd hm3
          obtain ⟨b2, ob2, cb2, hvb2, hI2, H⟩ := ixS_Int H (i := 1) rfl hx1
          refine WL.ev rfl rfl (Ev.ixV rfl el71 sz3 rfl hvb2 rfl hg3 (lt_of hx1)) (WL.on rfl rfl (WL.ev rfl rfl (Ev.ld rfl ag3 rfl ((H.rA (i := 2) rfl).cell0 rfl)) (WL.on rfl rfl (WL.ev rfl rfl (Ev.mv rfl rfl) (WL.on rfl rfl ?_)))))
          obtain ⟨hg4, hm3⟩ := grd_some hm3
          refine WL.ev rfl rfl (Ev.convUI rfl Try.underlying3 it166 rfl hg4 ha2.2) (WL.on rfl rfl ?_)
          obtain ⟨hg5, hm3⟩ := grd_some hm3
          refine WL.ev rfl rfl (Ev.bin rfl rfl rfl (Bin.shrI hg5.1 hg5.2.1 hg5.2.2)) (WL.on rfl rfl ?_)
          obtain ⟨hg6, hm3⟩ := grd_some hm3
          refine WL.ev rfl rfl (Ev.bin rfl rfl rfl (Bin.andI hg6.1 (i64_shr hI2).2 hg6.2 (by decide : I64 1).2)) (WL.on rfl rfl (WL.ev rfl rfl (Ev.bin rfl rfl rfl Bin.eql) (WL.ev rfl rfl (Ev.pickT rfl rfl rfl) (WL.nil ?_))))
          obtain rfl := sm hm3
          exact ⟨(decide (((((x1.toNat >>> a2.toNat : Nat) : Int).toNat &&& (1 : Int).toNat : Nat) : Int) = 1)), rfl, ⟨rfl, rfl, trivial⟩, H.keep 2 1⟩
        · skip
          have hm3 := ifn h3 hm3
          refine WL.off rfl rfl rfl (WL.off rfl rfl rfl (WL.off rfl rfl rfl (WL.off rfl rfl rfl (WL.off rfl rfl rfl (WL.off rfl rfl rfl (WL.off rfl rfl rfl (WL.off rfl rfl rfl (WL.off rfl rfl rfl (WL.off rfl rfl rfl (WL.ev rfl rfl (Ev.pickF rfl rfl rfl) (WL.nil ?_)))))))))))
          obtain rfl := sm hm3
          exact ⟨false, rfl, ⟨rfl, rfl, trivial⟩, H.keep 2 1⟩
      · rintro ρ' w7 ⟨s3, rfl, hag, H⟩
        obtain ⟨σ, rfl⟩ := ofL_ex hag
        refine WL.ev rfl rfl (Ev.as rfl rfl) (WL.nil ?_)
        refine CW.ret ?_
        obtain rfl := sm hr
        exact ⟨_, res1 rfl rfl rfl, H.ext0, rfl⟩

noncomputable def slices_Clone_int_m (a0 : (List Int)) : Option (List Int) :=
  grd (((([] : (List Int)).length : Int) + (a0.length : Int)) * 8 ≤ 140737488355328 ∧ (([] : (List Int)).length : Int) + (a0.length : Int) ≤ 9223372036854775807) <|
  some a0
theorem slices_Clone_int_ok {a0 : (List Int)} {r : (List Int)} (hr : slices_Clone_int_m a0 = some r) {F0 : Nat → Prop} {w0 : World} {z0 : Value} (ha0 : rdS F0 w0 a0 z0) :
    Ret Try.prog 136 #[z0] w0 (fun _ => False) fun v w => ∃ A0 : Option Addr, ∃ n0 c0 : Nat, v = (.slice A0 n0 c0) ∧ HL F0 [] w0 w [] [It.O 3 r (.slice A0 n0 c0)] := by
  obtain ⟨A0', n0', c0', rfl⟩ := ha0.form3
  have H := (HL.start F0 w0).argS ha0
  obtain ⟨hg1, hr⟩ := grd_some hr
  obtain rfl := sm hr
  refine enter Try.func136 rfl rfl rfl ?_
  refine CW.seq (CW.reg ?_)
  refine WL.ev rfl rfl (Ev.as rfl rfl) (WL.nil ?_)
  refine CW.seq (CW.seq (CW.reg ?_))
  refine WL.ev rfl rfl (Ev.mv rfl rfl) (WL.ev rfl rfl (Ev.bin rfl rfl rfl (Bin.eqlNil el71)) (WL.nil ?_))
  refine (CW.condD rfl (fun h1 => ?_) (fun h1 => ?_))
  · refine CW.seq (CW.reg ?_)
    refine WL.ev rfl rfl (Ev.as rfl rfl) (WL.nil ?_)
    refine CW.ret ?_
    have e0 : a0 = [] := rdS.nil_of ha0 h1
    subst e0
    have H := H.nil (α := Int) 3
    exact ⟨_, res1 rfl rfl rfl, H.ext0, _, _, _, rfl, H.outM (fr' := []) [true] fun _ _ => trivial⟩
  · refine CW.skip ?_
    refine CW.seq (CW.reg ?_)
    refine WL.lit0H (α := Int) rfl rfl rfl el71 sz3 H fun A2 n2 c2 w1 H => ?_
    refine WL.ev rfl rfl (Ev.mv rfl rfl) ?_
    refine WL.appS (i := 0) rfl rfl rfl el71 sz3 by3 ze3 rfl rfl rfl H rfl (H.rS (i := 0) rfl) hg1 fun A3 n3 c3 w2 H => ?_
    rw [List.nil_append] at H
    refine WL.ev rfl rfl (Ev.as rfl rfl) (WL.nil ?_)
    refine CW.ret ?_
    exact ⟨_, res1 rfl rfl rfl, H.ext0, _, _, _, rfl, H.outM (fr' := []) [true] fun _ _ => trivial⟩

noncomputable def icopyRelation_m (a0 : Relation) : Option Relation :=
  (slices_Clone_int_m a0.Rows).bind fun y1 =>
  some (⟨a0.N, y1⟩ : Relation)
theorem icopyRelation_ok {a0 : Relation} {r : Relation} (hr : icopyRelation_m a0 = some r) {F0 : Nat → Prop} {w0 : World} {ca0 : List Value} (ha0 : rd F0 w0 a0 ca0) :
    Ret Try.prog 124 #[.agg ca0.toArray] w0 (fun _ => False) fun v w => ∃ A0 : Option Addr, ∃ n0 c0 : Nat, v = .agg #[.int .i64 r.N, (.slice A0 n0 c0)] ∧ I64 r.N ∧ HL F0 [] w0 w [] [It.O 3 r.Rows (.slice A0 n0 c0)] := by
  have H := (HL.start F0 w0).argR ha0
  obtain ⟨A1, n1, c1, rfl, hI1, H⟩ := op_Relation H (i := 0) rfl
  refine enter Try.func124 rfl rfl rfl ?_
  refine CW.seq (CW.reg ?_)
  refine WL.boxH rfl rfl rfl rfl rfl H fun b1 w1 H => ?_
  refine WL.allocH rfl rfl rfl ze79 H fun b2 w2 H => ?_
  refine WL.nil ?_
  obtain ⟨y1, hy1, hr⟩ := bd hr
  refine CW.seq (CW.any2 5 (fun ρ => [.fix (.pointer (some ⟨b1, 0 + 0, none⟩)), .fix (.int .i64 a0.N), .fix (.pointer (some ⟨b1, 0 + 1, none⟩)), .fix (.slice A1 n1 c1), .free (fun S v w => ∃ A2 : Option Addr, ∃ n2 : Nat, ∃ c2 : Nat, v = .slice A2 n2 c2 ∧ NewI S w [It.O 3 y1 (.slice A2 n2 c2)])]) [[], [], [], [], []] NoM (fun _ _ => True) [] [] (noM _) hmix (by kernel_rfl) rfl ⟨trivial, trivial, trivial, trivial, fun _ _ _ _ _ ⟨A2, n2, c2, hv, hh⟩ hc hS hT => ⟨A2, n2, c2, hv, hh.chgT hc hS⟩, trivial⟩ trivial (fun _ _ _ _ _ _ _ => trivial) ?_)
  refine LL2.fx rfl rfl rfl rfl rfl (fun _ hq hK => Ev.fa rfl fo79_0 rfl) ?_
  refine LL2.fx rfl rfl rfl rfl rfl (fun _ hq hK => Ev.ld rfl ag3 rfl (((H.ext hq).rB (i := 0) rfl).cell rfl)) ?_
  refine LL2.fx rfl rfl rfl rfl rfl (fun _ hq hK => Ev.fa rfl fo79_1 rfl) ?_
  refine LL2.fx rfl rfl rfl rfl rfl (fun _ hq hK => Ev.ld rfl ag71 rfl (((H.ext hq).rB (i := 0) rfl).cell rfl)) ?_
  refine LL2.free rfl rfl rfl rfl (fun wq hq hK => ?_) (fun v_G1_4 S_G1_4 => ?_)
  · refine OpX.call rfl rfl rfl rfl ok136 rfl (slices_Clone_int_ok hy1 ((H.ext hq).rS (i := 1) rfl)) ?_
    rintro _ w hE ⟨A2, n2, c2, rfl, hh⟩
    exact ⟨hE, A2, n2, c2, rfl, NewI.of hh ⟨fun _ _ _ _ _ h => h, trivial⟩⟩
  intro w3 hE _ hK hap hbd
  have hE := chgNew hE
  obtain ⟨A2, n2, c2, rfl, hN1⟩ := hK 4 (by decide)
  have H := H.add hE hN1 ⟨fun _ _ _ _ _ h => h, trivial⟩ (fun q hq => (hbd 4 q hq).1)
  refine WL.ev rfl rfl (Ev.build rfl pl79 ze79 rfl rfl rfl rfl) ?_
  refine WL.stB (i := 1) rfl rfl rfl sz79 rfl rfl rfl rfl (all1 rfl (all1 rfl all0)) H rfl rfl rfl fun w4 H => ?_
  refine WL.nil ?_
  refine CW.ret ?_
  obtain rfl := sm hr
  exact ⟨_, resC rfl ag79 sz79 rfl rfl (At.blk (H.rB (i := 1) rfl)) rfl, H.ext0, _, _, _, rfl, hI1, H.outM (fr' := []) [false, false, true] fun _ _ => trivial⟩

noncomputable def iAddPair_m (a0 : Relation) (a1 : Int) (a2 : Int) : Option Relation :=
  (icopyRelation_m a0).bind fun y1 =>
  (iIsValidRelation_m a0).bind fun y2 =>
  (
  if y2 = true then (
  grd (I64 (a0.N - 1)) <|
  (iwithin_m a1 0 (a0.N - 1)).bind fun y3 =>
  some y3
  ) else (
  some false
  )
  ).bind fun s1 =>
  (
  if s1 = true then (
  grd (I64 (a0.N - 1)) <|
  (iwithin_m a2 0 (a0.N - 1)).bind fun y4 =>
  some y4
  ) else (
  some false
  )
  ).bind fun s2 =>
  if s2 = true then (
  grd (0 ≤ a1) <|
  (y1.Rows[a1.toNat]?).bind fun x1 =>
  grd (0 ≤ a2) <|
  grd (0 ≤ a2 ∧ a2 < 63) <|
  grd (0 ≤ x1 ∧ 0 ≤ ((2 ^ a2.toNat : Nat) : Int)) <|
  some (⟨y1.N, (List.set y1.Rows a1.toNat ((x1.toNat ||| ((2 ^ a2.toNat : Nat) : Int).toNat : Nat) : Int))⟩ : Relation)
  ) else (
  some y1
  )
theorem iAddPair_ok {a0 : Relation} {a1 : Int} {a2 : Int} {r : Relation} (hr : iAddPair_m a0 a1 a2 = some r) {F0 : Nat → Prop} {w0 : World} {ca0 : List Value} (ha0 : rd F0 w0 a0 ca0) (ha1 : I64 a1) (ha2 : I64 a2) :
    Ret Try.prog 99 #[.agg ca0.toArray, .int .i64 a1, .int .i64 a2] w0 (fun _ => False) fun v w => ∃ A0 : Option Addr, ∃ n0 c0 : Nat, v = .agg #[.int .i64 r.N, (.slice A0 n0 c0)] ∧ I64 r.N ∧ HL F0 [] w0 w [] [It.O 3 r.Rows (.slice A0 n0 c0)] := by
  have H := (HL.start F0 w0).argR ha0
  obtain ⟨A1, n1, c1, rfl, hI1, H⟩ := op_Relation H (i := 0) rfl
  refine enter Try.func99 rfl rfl rfl ?_
  refine CW.seq (CW.reg ?_)
  refine WL.boxH rfl rfl rfl rfl rfl H fun b1 w1 H => ?_
  refine WL.allocH rfl rfl rfl ze79 H fun b2 w2 H => ?_
  refine WL.nil ?_
  refine CW.seq (CW.reg ?_)
  refine WL.ev rfl rfl (Ev.lda rfl ag79 sz79 rfl (At.blk (H.rB (i := 0) rfl)) rfl) ?_
  obtain ⟨y1, hy1, hr⟩ := bd hr
  refine WL.call rfl rfl rfl rfl rfl ok124 rfl (icopyRelation_ok hy1 ⟨_, rfl, hI1, (H.rS (i := 1) rfl)⟩) ?_
  rintro _ w3 hE ⟨A2, n2, c2, rfl, hI2, H'⟩
  have H := H.callA H' ⟨fun _ _ _ _ _ h => h, trivial⟩
  refine WL.allocH rfl rfl rfl ze79 H fun b3 w4 H => ?_
  refine WL.stB (i := 3) rfl rfl rfl sz79 rfl rfl rfl rfl (all1 rfl (all1 rfl all0)) H rfl rfl rfl fun w5 H => ?_
  refine WL.nil ?_
  refine CW.seq (CW.seq (CW.reg ?_))
  refine WL.ev rfl rfl (Ev.lda rfl ag79 sz79 rfl (At.blk (H.rB (i := 0) rfl)) rfl) ?_
  obtain ⟨y2, hy2, hr⟩ := bd hr
  refine WL.call rfl rfl rfl rfl rfl ok123 rfl (iIsValidRelation_ok hy2 ⟨_, rfl, hI1, (H.rS (i := 1) rfl)⟩) ?_
  rintro _ w6 hE rfl
  have H := H.ext hE
  obtain ⟨q1, hm1, hr⟩ := bd hr
  refine WL.cut 7 (fun ρ' w => ∃ (s1 : Bool), s1 = q1 ∧ agree ρ' [(1, .int .i64 a1), (2, .int .i64 a2), (3, .pointer (some ⟨b1, 0, none⟩)), (6, .pointer (some ⟨b2, 0, none⟩)), (7, .pointer (some ⟨b3, 0, none⟩)), (18, .bool s1)] ∧ HL F0 [] w0 w [Pr.R a0 [.int .i64 a0.N, .slice A1 n1 c1], Pr.S a0.Rows (.slice A1 n1 c1)] [It.B b1 79 [.int .i64 a0.N, .slice A1 n1 c1], It.B b2 79 [.int .i64 0, .slice none 0 0], It.O 3 y1.Rows (.slice A2 n2 c2), It.B b3 79 [.int .i64 y1.N, .slice A2 n2 c2]]) ?_ ?_
  · skip
    refine WL.mvB rfl rfl rfl rfl (fun h1 => ?_) (fun h1 => ?_)
    · skip
      have hm1 := ifp h1 hm1
      refine WL.on rfl rfl (WL.ev rfl rfl (Ev.mv rfl rfl) (WL.on rfl rfl (WL.ev rfl rfl (Ev.fa rfl fo79_0 rfl) (WL.on rfl rfl (WL.ev rfl rfl (Ev.ld rfl ag3 rfl ((H.rB (i := 0) rfl).cell rfl)) (WL.on rfl rfl ?_))))))
      obtain ⟨hg1, hm1⟩ := grd_some hm1
      refine WL.ev rfl rfl (Ev.bin rfl rfl rfl (Bin.sub hg1)) (WL.on rfl rfl ?_)
      obtain ⟨y3, hy3, hm1⟩ := bd hm1
      refine WL.call rfl rfl rfl rfl rfl ok116 rfl (iwithin_ok hy3 (F0 := fun _ => False) ha1 (by decide : I64 0) hg1) ?_
      rintro _ w7 hE rfl
      have H := H.ext hE
      refine WL.ev rfl rfl (Ev.pickT rfl rfl rfl) (WL.nil ?_)
      obtain rfl := sm hm1
      exact ⟨y3, rfl, ⟨rfl, rfl, rfl, rfl, rfl, rfl, trivial⟩, H.keep 2 4⟩
    · skip
      have hm1 := ifn h1 hm1
      refine WL.off rfl rfl rfl (WL.off rfl rfl rfl (WL.off rfl rfl rfl (WL.off rfl rfl rfl (WL.off rfl rfl rfl (WL.ev rfl rfl (Ev.pickF rfl rfl rfl) (WL.nil ?_))))))
      obtain rfl := sm hm1
      exact ⟨false, rfl, ⟨rfl, rfl, rfl, rfl, rfl, rfl, trivial⟩, H.keep 2 4⟩
  · rintro ρ' w8 ⟨s1, rfl, hag, H⟩
    obtain ⟨σ, rfl⟩ := ofL_ex hag
    obtain ⟨q2, hm2, hr⟩ := bd hr
    refine WL.cut 7 (fun ρ' w => ∃ (s2 : Bool), s2 = q2 ∧ agree ρ' [(1, .int .i64 a1), (2, .int .i64 a2), (6, .pointer (some ⟨b2, 0, none⟩)), (7, .pointer (some ⟨b3, 0, none⟩)), (25, .bool s2)] ∧ HL F0 [] w0 w [Pr.R a0 [.int .i64 a0.N, .slice A1 n1 c1], Pr.S a0.Rows (.slice A1 n1 c1)] [It.B b1 79 [.int .i64 a0.N, .slice A1 n1 c1], It.B b2 79 [.int .i64 0, .slice none 0 0], It.O 3 y1.Rows (.slice A2 n2 c2), It.B b3 79 [.int .i64 y1.N, .slice A2 n2 c2]]) ?_ ?_
    · skip
      refine WL.mvB rfl rfl rfl rfl (fun h2 => ?_) (fun h2 => ?_)
      · skip
        have hm2 := ifp h2 hm2
        refine WL.on rfl rfl (WL.ev rfl rfl (Ev.mv rfl rfl) (WL.on rfl rfl (WL.ev rfl rfl (Ev.fa rfl fo79_0 rfl) (WL.on rfl rfl (WL.ev rfl rfl (Ev.ld rfl ag3 rfl ((H.rB (i := 0) rfl).cell rfl)) (WL.on rfl rfl ?_))))))
        obtain ⟨hg2, hm2⟩ := grd_some hm2
        refine WL.ev rfl rfl (Ev.bin rfl rfl rfl (Bin.sub hg2)) (WL.on rfl rfl ?_)
        obtain ⟨y4, hy4, hm2⟩ := bd hm2
        refine WL.call rfl rfl rfl rfl rfl ok116 rfl (iwithin_ok hy4 (F0 := fun _ => False) ha2 (by decide : I64 0) hg2) ?_
        rintro _ w9 hE rfl
        have H := H.ext hE
        refine WL.ev rfl rfl (Ev.pickT rfl rfl rfl) (WL.nil ?_)
        obtain rfl := sm hm2
        exact ⟨y4, rfl, ⟨rfl, rfl, rfl, rfl, rfl, trivial⟩, H.keep 2 4⟩
      · skip
        have hm2 := ifn h2 hm2
        refine WL.off rfl rfl rfl (WL.off rfl rfl rfl (WL.off rfl rfl rfl (WL.off rfl rfl rfl (WL.off rfl rfl rfl (WL.ev rfl rfl (Ev.pickF rfl rfl rfl) (WL.nil ?_))))))
        obtain rfl := sm hm2
        exact ⟨false, rfl, ⟨rfl, rfl, rfl, rfl, rfl, trivial⟩, H.keep 2 4⟩
    · rintro ρ' w10 ⟨s2, rfl, hag, H⟩
      obtain ⟨σ, rfl⟩ := ofL_ex hag
      refine WL.nil ?_
      refine CW.condB rfl (fun h3 => ?_) (fun h3 => ?_)
      · skip
        have hr := ifp h3 hr
        refine CW.reg ?_
        refine WL.ev rfl rfl (Ev.fa rfl fo79_1 rfl) (WL.ev rfl rfl (Ev.ld rfl ag71 rfl ((H.rB (i := 3) rfl).cell rfl)) (WL.ev rfl rfl (Ev.mv rfl rfl) ?_))
        obtain ⟨hg3, hr⟩ := grd_some hr
        obtain ⟨x1, hx1, hr⟩ := bd hr
        obtain ⟨b4, cb4, hvb4, hbb4⟩ := H.ptO (i := 2) rfl hx1
        refine WL.ev rfl rfl (Ev.ixV rfl el71 sz3 rfl hvb4 rfl hg3 (lt_of hx1)) ?_
        obtain ⟨hA1, hI3, H⟩ := elO_Int H (i := 2) rfl hx1 hbb4
        refine WL.ev rfl rfl (Ev.ld rfl ag3 rfl (hA1.cell0 rfl)) (WL.ev rfl rfl (Ev.mv rfl rfl) ?_)
        obtain ⟨hg4, hr⟩ := grd_some hr
        refine WL.ev rfl rfl (Ev.convUI rfl Try.underlying3 it166 rfl hg4 ha2.2) ?_
        obtain ⟨hg5, hr⟩ := grd_some hr
        refine WL.ev rfl rfl (Ev.bin rfl rfl rfl (Bin.shlI hg5.1 hg5.2)) ?_
        obtain ⟨hg6, hr⟩ := grd_some hr
        refine WL.ev rfl rfl (Ev.bin rfl rfl rfl (Bin.orI hg6.1 hI3.2 hg6.2 (i64_pow hg5.2).2)) ?_
        obtain ⟨b5, cb5, hvb5, hbb5⟩ := H.ptO (i := 2) rfl hx1
        refine WL.ev rfl rfl (Ev.ixV rfl el71 sz3 rfl hvb5 rfl hg3 (lt_of hx1)) ?_
        refine WL.stOf (i := 2) (z := ((x1.toNat ||| ((2 ^ a2.toNat : Nat) : Int).toNat : Nat) : Int)) rfl rfl rfl sz3 rfl rfl rfl (fun _ => ⟨rfl, rfl, (i64_or hg6 hI3 (i64_pow hg5.2))⟩) H rfl hbb5 (by simpa using lt_of hx1) fun w11 H => ?_
        refine WL.nil ?_
        refine CW.seq (CW.reg ?_)
        refine WL.ev rfl rfl (Ev.lda rfl ag79 sz79 rfl (At.blk (H.rB (i := 3) rfl)) rfl) ?_
        refine WL.stB (i := 1) rfl rfl rfl sz79 rfl rfl rfl rfl (all1 rfl (all1 rfl all0)) H rfl rfl rfl fun w12 H => ?_
        refine WL.nil ?_
        refine CW.ret ?_
        obtain rfl := sm hr
        exact ⟨_, resC rfl ag79 sz79 rfl rfl (At.blk (H.rB (i := 1) rfl)) rfl, H.ext0, _, _, _, rfl, hI2, H.outM (fr' := []) [false, false, true, false] fun _ _ => trivial⟩
      · skip
        have hr := ifn h3 hr
        refine CW.skip ?_
        refine CW.seq (CW.reg ?_)
        refine WL.ev rfl rfl (Ev.lda rfl ag79 sz79 rfl (At.blk (H.rB (i := 3) rfl)) rfl) ?_
        refine WL.stB (i := 1) rfl rfl rfl sz79 rfl rfl rfl rfl (all1 rfl (all1 rfl all0)) H rfl rfl rfl fun w13 H => ?_
        refine WL.nil ?_
        refine CW.ret ?_
        obtain rfl := sm hr
        exact ⟨_, resC rfl ag79 sz79 rfl rfl (At.blk (H.rB (i := 1) rfl)) rfl, H.ext0, _, _, _, rfl, hI2, H.outM (fr' := []) [false, false, true, false] fun _ _ => trivial⟩

noncomputable def iSummaryOf_L2 (a2 : Relation) (y2 : (List Int)) (k1 : Nat) (x1 : Attribute) : Nat → Attribute → ((List Int) × Int) → Option ((List Int) × Int) := fun k2 x2 (s3, s4) => 
  (
  if x1.Mode = 1 then (
  if x2.Mode = 2 then (
  (y2[k1]?).bind fun x3 =>
  (y2[k2]?).bind fun x4 =>
  (iHasPair_m a2 x3 x4).bind fun y4 =>
  if y4 = true then (
  (iAddPair_m (⟨s4, s3⟩ : Relation) (k1 : Int) (k2 : Int)).bind fun y5 =>
  some (y5.Rows, y5.N)
  ) else (
  some (s3, s4)
  )
  ) else (
  some (s3, s4)
  )
  ) else (
  some (s3, s4)
  )
  ).bind fun (s5, s6) =>
  some (s5, s6)
noncomputable def iSummaryOf_L1 (a2 : Relation) (y1 : (List Attribute)) (y2 : (List Int)) : Nat → Attribute → ((List Int) × Int) → Option ((List Int) × Int) := fun k1 x1 (s1, s2) => 
  (eachL (iSummaryOf_L2 a2 y2 k1 x1) 0 y1 (s1, s2)).bind fun (s3, s4) =>
  some (s3, s4)
noncomputable def iSummaryOf_m (a0 : Grammar) (a1 : Rule) (a2 : Relation) : Option Relation :=
  (iPlainAttributes_m a0 a1.Left).bind fun y1 =>
  (iPositionIndices_m a0 a1 0).bind fun y2 =>
  (iEmptyRelation_m (y1.length : Int)).bind fun y3 =>
  (eachL (iSummaryOf_L1 a2 y1 y2) 0 y1 (y3.Rows, y3.N)).bind fun (s1, s2) =>
  some (⟨s2, s1⟩ : Relation)
theorem iSummaryOf_ok {a0 : Grammar} {a1 : Rule} {a2 : Relation} {r : Relation} (hr : iSummaryOf_m a0 a1 a2 = some r) {F0 : Nat → Prop} {w0 : World} {ca0 : List Value} (ha0 : rd F0 w0 a0 ca0) {ca1 : List Value} (ha1 : rd F0 w0 a1 ca1) {ca2 : List Value} (ha2 : rd F0 w0 a2 ca2) :
    Ret Try.prog 47 #[.agg ca0.toArray, .agg ca1.toArray, .agg ca2.toArray] w0 (fun _ => False) fun v w => ∃ A0 : Option Addr, ∃ n0 c0 : Nat, v = .agg #[.int .i64 r.N, (.slice A0 n0 c0)] ∧ I64 r.N ∧ HL F0 [] w0 w [] [It.O 3 r.Rows (.slice A0 n0 c0)] := by
  have H := (((HL.start F0 w0).argR ha0).argR ha1).argR ha2
  obtain ⟨A1, n1, c1, A2, n2, c2, rfl, H⟩ := op_Grammar H (i := 0) rfl
  obtain ⟨A3, n3, c3, A4, n4, c4, A5, n5, c5, rfl, hS1, hS2, H⟩ := op_Rule H (i := 1) rfl
  obtain ⟨A6, n6, c6, rfl, hI1, H⟩ := op_Relation H (i := 2) rfl
  refine enter Try.func47 rfl rfl rfl ?_
  refine CW.seq (CW.reg ?_)
  refine WL.boxH rfl rfl rfl rfl rfl H fun b1 w1 H => ?_
  refine WL.boxH rfl rfl rfl rfl rfl H fun b2 w2 H => ?_
  refine WL.boxH rfl rfl rfl rfl rfl H fun b3 w3 H => ?_
  refine WL.allocH rfl rfl rfl ze79 H fun b4 w4 H => ?_
  refine WL.nil ?_
  obtain ⟨y1, hy1, hr⟩ := bd hr
  obtain ⟨y2, hy2, hr⟩ := bd hr
  refine CW.seq (CW.any2 7 (fun ρ => [.fix (.agg #[.slice A1 n1 c1, .slice A2 n2 c2]), .fix (.pointer (some ⟨b2, 0 + 1, none⟩)), .fix (.string a1.Left), .free (fun S v w => ∃ A7 : Option Addr, ∃ n7 : Nat, ∃ c7 : Nat, v = .slice A7 n7 c7 ∧ NewI S w [It.O 105 y1 (.slice A7 n7 c7)]), .fix (.agg #[.slice A1 n1 c1, .slice A2 n2 c2]), .fix (.agg #[.string a1.Name, .string a1.Left, .slice A3 n3 c3, .bool a1.Literal, .slice A4 n4 c4, .slice A5 n5 c5]), .free (fun S v w => ∃ A8 : Option Addr, ∃ n8 : Nat, ∃ c8 : Nat, v = .slice A8 n8 c8 ∧ NewI S w [It.O 3 y2 (.slice A8 n8 c8)])]) [[], [], [], [], [], [], []] NoM (fun _ _ => True) [] [] (noM _) hmix (by kernel_rfl) rfl ⟨trivial, trivial, trivial, fun _ _ _ _ _ ⟨A7, n7, c7, hv, hh⟩ hc hS hT => ⟨A7, n7, c7, hv, hh.chgT hc hS⟩, trivial, trivial, fun _ _ _ _ _ ⟨A8, n8, c8, hv, hh⟩ hc hS hT => ⟨A8, n8, c8, hv, hh.chgT hc hS⟩, trivial⟩ trivial (fun _ _ _ _ _ _ _ => trivial) ?_)
  refine LL2.fx rfl rfl rfl rfl rfl (fun _ hq hK => Ev.lda rfl ag48 sz48 rfl (At.blk ((H.ext hq).rB (i := 0) rfl)) rfl) ?_
  refine LL2.fx rfl rfl rfl rfl rfl (fun _ hq hK => Ev.fa rfl fo65_1 rfl) ?_
  refine LL2.fx rfl rfl rfl rfl rfl (fun _ hq hK => Ev.ld rfl ag9 rfl (((H.ext hq).rB (i := 1) rfl).cell rfl)) ?_
  refine LL2.free rfl rfl rfl rfl (fun wq hq hK => ?_) (fun v_G1_3 S_G1_3 => ?_)
  · refine OpX.call rfl rfl rfl rfl ok23 rfl (iPlainAttributes_ok hy1 ⟨_, _, rfl, ((H.ext hq).rS (i := 3) rfl), ((H.ext hq).rS (i := 4) rfl)⟩ hS2) ?_
    rintro _ w hE ⟨A7, n7, c7, rfl, hh⟩
    exact ⟨hE, A7, n7, c7, rfl, NewI.of hh ⟨fun _ _ _ _ _ h => h, trivial⟩⟩
  refine LL2.fx rfl rfl rfl rfl rfl (fun _ hq hK => Ev.lda rfl ag48 sz48 rfl (At.blk ((H.ext hq).rB (i := 0) rfl)) rfl) ?_
  refine LL2.fx rfl rfl rfl rfl rfl (fun _ hq hK => Ev.lda rfl ag65 sz65 rfl (At.blk ((H.ext hq).rB (i := 1) rfl)) rfl) ?_
  refine LL2.free rfl rfl rfl rfl (fun wq hq hK => ?_) (fun v_G1_6 S_G1_6 => ?_)
  · refine OpX.call rfl rfl rfl rfl ok38 rfl (iPositionIndices_ok hy2 ⟨_, _, rfl, ((H.ext hq).rS (i := 3) rfl), ((H.ext hq).rS (i := 4) rfl)⟩ ⟨_, _, _, rfl, hS1, hS2, ((H.ext hq).rS (i := 5) rfl), ((H.ext hq).rS (i := 6) rfl), ((H.ext hq).rS (i := 7) rfl)⟩ (by decide : I64 0)) ?_
    rintro _ w hE ⟨A8, n8, c8, rfl, hh⟩
    exact ⟨hE, A8, n8, c8, rfl, NewI.of hh ⟨fun _ _ _ _ _ h => h, trivial⟩⟩
  intro w5 hE _ hK hap hbd
  have hE := chgNew hE
  obtain ⟨A7, n7, c7, rfl, hN1⟩ := hK 3 (by decide)
  obtain ⟨A8, n8, c8, rfl, hN2⟩ := hK 6 (by decide)
  have H := H.add hE (hN1.app hN2 fun q h1 h2 => absurd (hap 3 6 q h1 h2) (by decide)) ⟨fun _ _ _ _ _ h => h, ⟨fun _ _ _ _ _ h => h, trivial⟩⟩ (fun q hq => hq.elim (fun h => (hbd 3 q h).1) fun h => (hbd 6 q h).1)
  refine WL.ev rfl rfl (Ev.as rfl rfl) (WL.ev rfl rfl (Ev.as rfl rfl) (WL.nil ?_))
  refine CW.seq (CW.reg ?_)
  refine WL.ev rfl rfl (Ev.mv rfl rfl) ?_
  have hl1 := (H.rO (i := 4) rfl).I
  refine WL.ev rfl rfl (Ev.lenV rfl el43 rfl (H.rO (i := 4) rfl)) ?_
  obtain ⟨y3, hy3, hr⟩ := bd hr
  refine WL.call rfl rfl rfl rfl rfl ok97 rfl (iEmptyRelation_ok hy3 (F0 := fun _ => False) hl1) ?_
  rintro _ w6 hE ⟨A9, n9, c9, rfl, hI2, H'⟩
  have H := H.callA H' ⟨fun _ _ _ _ _ h => h, trivial⟩
  refine WL.allocH rfl rfl rfl ze79 H fun b5 w7 H => ?_
  refine WL.stB (i := 7) rfl rfl rfl sz79 rfl rfl rfl rfl (all1 rfl (all1 rfl all0)) H rfl rfl rfl fun w8 H => ?_
  refine WL.nil ?_
  refine CW.seq (CW.seq (CW.reg ?_))
  refine WL.ev rfl rfl (Ev.mv rfl rfl) (WL.ev rfl rfl (Ev.lenV rfl el43 rfl (H.rO (i := 4) rfl)) (WL.ev rfl rfl (Ev.mv rfl rfl) (WL.nil ?_)))
  obtain ⟨q1, hq1, hr⟩ := bd hr
  refine CW.block (CW.loop (α := Nat × (List Int) × Int × Value) (fun ⟨k1, s1, s2, v1⟩ => [(5, .pointer (some ⟨b3, 0, none⟩)), (6, .pointer (some ⟨b4, 0, none⟩)), (7, .slice A7 n7 c7), (8, .slice A8 n8 c8), (9, .pointer (some ⟨b5, 0, none⟩)), (24, .slice A7 n7 c7), (25, .int .i64 (y1.length : Int)), (26, .int .i64 (k1 : Int))]) (fun ⟨k1, s1, s2, v1⟩ w => k1 ≤ y1.length ∧ eachL (iSummaryOf_L1 a2 y1 y2) k1 (y1.drop k1) (s1, s2) = some q1 ∧ I64 s2 ∧ HL F0 [] w0 w [Pr.R a0 [.slice A1 n1 c1, .slice A2 n2 c2], Pr.R a1 [.string a1.Name, .string a1.Left, .slice A3 n3 c3, .bool a1.Literal, .slice A4 n4 c4, .slice A5 n5 c5], Pr.R a2 [.int .i64 a2.N, .slice A6 n6 c6], Pr.S a0.Symbols (.slice A1 n1 c1), Pr.S a0.Rules (.slice A2 n2 c2), Pr.S a1.Right (.slice A3 n3 c3), Pr.S a1.Equations (.slice A4 n4 c4), Pr.S a1.Contributions (.slice A5 n5 c5), Pr.S a2.Rows (.slice A6 n6 c6)] [It.B b1 48 [.slice A1 n1 c1, .slice A2 n2 c2], It.B b2 65 [.string a1.Name, .string a1.Left, .slice A3 n3 c3, .bool a1.Literal, .slice A4 n4 c4, .slice A5 n5 c5], It.B b3 79 [.int .i64 a2.N, .slice A6 n6 c6], It.B b4 79 [.int .i64 0, .slice none 0 0], It.O 105 y1 (.slice A7 n7 c7), It.O 3 y2 (.slice A8 n8 c8), It.O 3 s1 v1, It.B b5 79 [.int .i64 s2, v1]]) (fun ⟨k1, s1, s2, v1⟩ => y1.length - k1) ⟨0, y3.Rows, y3.N, (.slice A9 n9 c9)⟩ ⟨rfl, rfl, rfl, rfl, rfl, rfl, rfl, rfl, trivial⟩ ⟨Nat.zero_le _, hq1, hI2, H.keep 9 8⟩ ?_)
  rintro ⟨k1, s1, s2, v1⟩ σ w9 ⟨hk1, hq1, hI3, H⟩
  obtain ⟨A10, n10, c10, rfl⟩ := (H.rO (i := 6) rfl).form3
  refine CW.seq (CW.reg ?_)
  refine WL.ev rfl rfl (Ev.bin rfl rfl rfl Bin.lss) (WL.nil ?_)
  refine CW.seq (CW.condD rfl (fun h1 => ?_) (fun h1 => ?_))
  · skip
    have hk2 := cast_lt h1
    obtain ⟨x1, z1, hx1, hb1, hq1⟩ := eachL_go hq1 hk2
    refine CW.skip ?_
    refine CW.seq (CW.block (CW.seq (CW.reg ?_)))
    refine WL.ev rfl rfl (Ev.mv rfl rfl) ?_
    obtain ⟨b6, cb6, hvb6, hbb6⟩ := H.ptO (i := 4) rfl hx1
    refine WL.ev rfl rfl (Ev.ixVN rfl el43 sz105 rfl hvb6 rfl (lt_of hx1)) ?_
    obtain ⟨hA1, hS3, hI4, hI5, H⟩ := elO_Attribute H (i := 4) rfl hx1 hbb6
    refine WL.ev rfl rfl (Ev.lda rfl ag105 sz105 rfl hA1 rfl) ?_
    refine WL.allocH rfl rfl rfl ze105 H fun b7 w10 H => ?_
    refine WL.ev rfl rfl (Ev.as rfl rfl) ?_
    refine WL.stB (i := 8) rfl rfl rfl sz105 rfl rfl rfl rfl (all1 rfl (all1 rfl (all1 rfl (all1 rfl all0)))) H rfl rfl rfl fun w11 H => ?_
    refine WL.nil ?_
    refine CW.seq (CW.reg ?_)
    refine WL.ev rfl rfl (Ev.mv rfl rfl) (WL.ev rfl rfl (Ev.lenV rfl el43 rfl (H.rO (i := 4) rfl)) (WL.ev rfl rfl (Ev.mv rfl rfl) (WL.nil ?_)))
    obtain ⟨q2, hq2, hb1⟩ := bd hb1
    refine CW.block (CW.loop (α := Nat × (List Int) × Int × Value) (fun ⟨k2, s3, s4, v2⟩ => [(5, .pointer (some ⟨b3, 0, none⟩)), (6, .pointer (some ⟨b4, 0, none⟩)), (7, .slice A7 n7 c7), (8, .slice A8 n8 c8), (9, .pointer (some ⟨b5, 0, none⟩)), (10, .int .i64 (k1 : Int)), (11, .pointer (some ⟨b7, 0, none⟩)), (24, .slice A7 n7 c7), (25, .int .i64 (y1.length : Int)), (26, .int .i64 (k1 : Int)), (31, .slice A7 n7 c7), (32, .int .i64 (y1.length : Int)), (33, .int .i64 (k2 : Int))]) (fun ⟨k2, s3, s4, v2⟩ w => k2 ≤ y1.length ∧ eachL (iSummaryOf_L2 a2 y2 k1 x1) k2 (y1.drop k2) (s3, s4) = some q2 ∧ I64 s4 ∧ HL F0 [] w0 w [Pr.R a0 [.slice A1 n1 c1, .slice A2 n2 c2], Pr.R a1 [.string a1.Name, .string a1.Left, .slice A3 n3 c3, .bool a1.Literal, .slice A4 n4 c4, .slice A5 n5 c5], Pr.R a2 [.int .i64 a2.N, .slice A6 n6 c6], Pr.S a0.Symbols (.slice A1 n1 c1), Pr.S a0.Rules (.slice A2 n2 c2), Pr.S a1.Right (.slice A3 n3 c3), Pr.S a1.Equations (.slice A4 n4 c4), Pr.S a1.Contributions (.slice A5 n5 c5), Pr.S a2.Rows (.slice A6 n6 c6), Pr.R x1 [.string x1.Name, .int .i64 x1.Type_, .int .i64 x1.Mode, .bool x1.Circular]] [It.B b1 48 [.slice A1 n1 c1, .slice A2 n2 c2], It.B b2 65 [.string a1.Name, .string a1.Left, .slice A3 n3 c3, .bool a1.Literal, .slice A4 n4 c4, .slice A5 n5 c5], It.B b3 79 [.int .i64 a2.N, .slice A6 n6 c6], It.B b4 79 [.int .i64 0, .slice none 0 0], It.O 105 y1 (.slice A7 n7 c7), It.O 3 y2 (.slice A8 n8 c8), It.O 3 s3 v2, It.B b5 79 [.int .i64 s4, v2], It.B b7 105 [.string x1.Name, .int .i64 x1.Type_, .int .i64 x1.Mode, .bool x1.Circular]]) (fun ⟨k2, s3, s4, v2⟩ => y1.length - k2) ⟨0, s1, s2, (.slice A10 n10 c10)⟩ ⟨rfl, rfl, rfl, rfl, rfl, rfl, rfl, rfl, rfl, rfl, rfl, rfl, rfl, trivial⟩ ⟨Nat.zero_le _, hq2, hI3, H.keep 10 9⟩ ?_)
    rintro ⟨k2, s3, s4, v2⟩ σ w12 ⟨hk3, hq2, hI6, H⟩
    obtain ⟨A11, n11, c11, rfl⟩ := (H.rO (i := 6) rfl).form3
    refine CW.seq (CW.reg ?_)
    refine WL.ev rfl rfl (Ev.bin rfl rfl rfl Bin.lss) (WL.nil ?_)
    refine CW.seq (CW.condD rfl (fun h2 => ?_) (fun h2 => ?_))
    · skip
      have hk4 := cast_lt h2
      obtain ⟨x2, z2, hx2, hb2, hq2⟩ := eachL_go hq2 hk4
      refine CW.skip ?_
      obtain ⟨q3, hm1, hb2⟩ := bd hb2
      refine CW.seq (CW.mid (fun ρ' w => ∃ (s5 : List Int) (s6 : Int) (v3 : Value), q3 = (s5, s6) ∧ agree ρ' [(5, .pointer (some ⟨b3, 0, none⟩)), (6, .pointer (some ⟨b4, 0, none⟩)), (7, .slice A7 n7 c7), (8, .slice A8 n8 c8), (9, .pointer (some ⟨b5, 0, none⟩)), (10, .int .i64 (k1 : Int)), (11, .pointer (some ⟨b7, 0, none⟩)), (24, .slice A7 n7 c7), (25, .int .i64 (y1.length : Int)), (26, .int .i64 (k1 : Int)), (31, .slice A7 n7 c7), (32, .int .i64 (y1.length : Int)), (33, .int .i64 (k2 : Int))] ∧ I64 s6 ∧ HL F0 [] w0 w [Pr.R a0 [.slice A1 n1 c1, .slice A2 n2 c2], Pr.R a1 [.string a1.Name, .string a1.Left, .slice A3 n3 c3, .bool a1.Literal, .slice A4 n4 c4, .slice A5 n5 c5], Pr.R a2 [.int .i64 a2.N, .slice A6 n6 c6], Pr.S a0.Symbols (.slice A1 n1 c1), Pr.S a0.Rules (.slice A2 n2 c2), Pr.S a1.Right (.slice A3 n3 c3), Pr.S a1.Equations (.slice A4 n4 c4), Pr.S a1.Contributions (.slice A5 n5 c5), Pr.S a2.Rows (.slice A6 n6 c6), Pr.R x1 [.string x1.Name, .int .i64 x1.Type_, .int .i64 x1.Mode, .bool x1.Circular]] [It.B b1 48 [.slice A1 n1 c1, .slice A2 n2 c2], It.B b2 65 [.string a1.Name, .string a1.Left, .slice A3 n3 c3, .bool a1.Literal, .slice A4 n4 c4, .slice A5 n5 c5], It.B b3 79 [.int .i64 a2.N, .slice A6 n6 c6], It.B b4 79 [.int .i64 0, .slice none 0 0], It.O 105 y1 (.slice A7 n7 c7), It.O 3 y2 (.slice A8 n8 c8), It.O 3 s5 v3, It.B b5 79 [.int .i64 s6, v3], It.B b7 105 [.string x1.Name, .int .i64 x1.Type_, .int .i64 x1.Mode, .bool x1.Circular]]) ?_ ?_)
      · skip
        refine CW.block (CW.seq (CW.reg ?_))
        refine WL.ev rfl rfl (Ev.mv rfl rfl) ?_
        obtain ⟨b8, cb8, hvb8, hbb8⟩ := H.ptO (i := 4) rfl hx2
        refine WL.ev rfl rfl (Ev.ixVN rfl el43 sz105 rfl hvb8 rfl (lt_of hx2)) ?_
        obtain ⟨hA2, hS4, hI8, hI9, H⟩ := elO_Attribute H (i := 4) rfl hx2 hbb8
        refine WL.ev rfl rfl (Ev.lda rfl ag105 sz105 rfl hA2 rfl) ?_
        refine WL.allocH rfl rfl rfl ze105 H fun b9 w13 H => ?_
        refine WL.ev rfl rfl (Ev.as rfl rfl) ?_
        refine WL.stB (i := 9) rfl rfl rfl sz105 rfl rfl rfl rfl (all1 rfl (all1 rfl (all1 rfl (all1 rfl all0)))) H rfl rfl rfl fun w14 H => ?_
        refine WL.nil ?_
        refine CW.seq (CW.quiet hmix (by kernel_rfl) ?_)
        refine QL.ev rfl rfl (fun _ _ => Ev.fa rfl fo105_2 rfl) (QL.ev rfl rfl (fun _ hq => Ev.ld rfl ag3 rfl (((H.ext hq).rB (i := 8) rfl).cell rfl)) (QL.ev rfl rfl (fun _ _ => Ev.bin rfl rfl rfl Bin.eql) ?_))
        refine QL.mvD rfl rfl rfl rfl (fun h3 => ?_) (fun h3 => ?_)
        · skip
          have hm1 := ifp h3 hm1
          refine QL.on rfl rfl (QL.ev rfl rfl (fun _ _ => Ev.fa rfl fo105_2 rfl) (QL.on rfl rfl (QL.ev rfl rfl (fun _ hq => Ev.ld rfl ag3 rfl (((H.ext hq).rB (i := 9) rfl).cell rfl)) (QL.on rfl rfl (QL.ev rfl rfl (fun _ _ => Ev.bin rfl rfl rfl Bin.eql) (QL.ev rfl rfl (fun _ _ => Ev.pickT rfl rfl rfl) ?_))))))
          refine QL.mvD rfl rfl rfl rfl (fun h4 => ?_) (fun h4 => ?_)
          · skip
            have hm1 := ifp h4 hm1
            refine QL.on rfl rfl (QL.ev rfl rfl (fun _ hq => Ev.lda rfl ag79 sz79 rfl (At.blk ((H.ext hq).rB (i := 2) rfl)) rfl) (QL.on rfl rfl (QL.ev rfl rfl (fun _ _ => Ev.mv rfl rfl) (QL.on rfl rfl (QL.ev rfl rfl (fun _ _ => Ev.mv rfl rfl) (QL.on rfl rfl ?_))))))
            obtain ⟨x3, hx3, hm1⟩ := bd hm1
            obtain ⟨b10, cb10, hvb10, hbb10⟩ := H.ptO (i := 5) rfl hx3
            refine QL.ev rfl rfl (fun _ _ => Ev.ixVN rfl el71 sz3 rfl hvb10 rfl (lt_of hx3)) (QL.on rfl rfl ?_)
            obtain ⟨hA3, hI10, H⟩ := elO_Int H (i := 5) rfl hx3 hbb10
            refine QL.ev rfl rfl (fun _ hq => Ev.ld rfl ag3 rfl ((hA3.ext hq).cell0 rfl)) (QL.on rfl rfl (QL.ev rfl rfl (fun _ _ => Ev.mv rfl rfl) (QL.on rfl rfl (QL.ev rfl rfl (fun _ _ => Ev.mv rfl rfl) (QL.on rfl rfl ?_)))))
            obtain ⟨x4, hx4, hm1⟩ := bd hm1
            obtain ⟨b11, cb11, hvb11, hbb11⟩ := H.ptO (i := 5) rfl hx4
            refine QL.ev rfl rfl (fun _ _ => Ev.ixVN rfl el71 sz3 rfl hvb11 rfl (lt_of hx4)) (QL.on rfl rfl ?_)
            obtain ⟨hA4, hI11, H⟩ := elO_Int H (i := 5) rfl hx4 hbb11
            refine QL.ev rfl rfl (fun _ hq => Ev.ld rfl ag3 rfl ((hA4.ext hq).cell0 rfl)) (QL.on rfl rfl ?_)
            obtain ⟨y4, hy4, hm1⟩ := bd hm1
            refine QL.call rfl rfl rfl rfl rfl ok98 rfl (fun _ hq => iHasPair_ok hy4 ⟨_, rfl, hI1, ((H.ext hq).rS (i := 8) rfl)⟩ hI10 hI11) ?_
            refine QL.ev rfl rfl (fun _ _ => Ev.pickT rfl rfl rfl) (QL.nil (fun w15 hE => ?_))
            have H := H.ext hE
            refine CW.condB rfl (fun h5 => ?_) (fun h5 => ?_)
            · skip
              have hm1 := ifp h5 hm1
              refine CW.fresh [(5, .pointer (some ⟨b3, 0, none⟩)), (6, .pointer (some ⟨b4, 0, none⟩)), (7, .slice A7 n7 c7), (8, .slice A8 n8 c8), (9, .pointer (some ⟨b5, 0, none⟩)), (10, .int .i64 (k1 : Int)), (11, .pointer (some ⟨b7, 0, none⟩)), (12, .int .i64 (k2 : Int)), (24, .slice A7 n7 c7), (25, .int .i64 (y1.length : Int)), (26, .int .i64 (k1 : Int)), (31, .slice A7 n7 c7), (32, .int .i64 (y1.length : Int)), (33, .int .i64 (k2 : Int)), (42, .pointer (some ⟨b9, 0 + 2, none⟩)), (43, .int .i64 x2.Mode), (44, .bool (decide (x2.Mode = 2))), (47, .agg #[.int .i64 a2.N, .slice A6 n6 c6]), (48, .slice A8 n8 c8), (49, .int .i64 (k1 : Int)), (50, .pointer (some ⟨b10, 0 + k1 * 1, none⟩)), (51, .int .i64 x3), (52, .slice A8 n8 c8), (53, .int .i64 (k2 : Int)), (54, .pointer (some ⟨b11, 0 + k2 * 1, none⟩)), (55, .int .i64 x4), (56, .bool y4)] ⟨rfl, rfl, rfl, rfl, rfl, rfl, rfl, rfl, rfl, rfl, rfl, rfl, rfl, rfl, rfl, rfl, rfl, rfl, rfl, rfl, rfl, rfl, rfl, rfl, rfl, rfl, rfl, trivial⟩ fun σ => ?_
              have H : HL F0 [] w0 w15 [Pr.R a0 [.slice A1 n1 c1, .slice A2 n2 c2], Pr.R a1 [.string a1.Name, .string a1.Left, .slice A3 n3 c3, .bool a1.Literal, .slice A4 n4 c4, .slice A5 n5 c5], Pr.R a2 [.int .i64 a2.N, .slice A6 n6 c6], Pr.S a0.Symbols (.slice A1 n1 c1), Pr.S a0.Rules (.slice A2 n2 c2), Pr.S a1.Right (.slice A3 n3 c3), Pr.S a1.Equations (.slice A4 n4 c4), Pr.S a1.Contributions (.slice A5 n5 c5), Pr.S a2.Rows (.slice A6 n6 c6), Pr.R x1 [.string x1.Name, .int .i64 x1.Type_, .int .i64 x1.Mode, .bool x1.Circular], Pr.R x2 [.string x2.Name, .int .i64 x2.Type_, .int .i64 x2.Mode, .bool x2.Circular], Pr.R x3 [.int .i64 x3], Pr.R x4 [.int .i64 x4]] [It.B b1 48 [.slice A1 n1 c1, .slice A2 n2 c2], It.B b2 65 [.string a1.Name, .string a1.Left, .slice A3 n3 c3, .bool a1.Literal, .slice A4 n4 c4, .slice A5 n5 c5], It.B b3 79 [.int .i64 a2.N, .slice A6 n6 c6], It.B b4 79 [.int .i64 0, .slice none 0 0], It.O 105 y1 (.slice A7 n7 c7), It.O 3 y2 (.slice A8 n8 c8), It.O 3 s3 (.slice A11 n11 c11), It.B b5 79 [.int .i64 s4, .slice A11 n11 c11], It.B b7 105 [.string x1.Name, .int .i64 x1.Type_, .int .i64 x1.Mode, .bool x1.Circular], It.B b9 105 [.string x2.Name, .int .i64 x2.Type_, .int .i64 x2.Mode, .bool x2.Circular]] := H
              refine CW.reg ?_
              refine WL.ev rfl rfl (Ev.lda rfl ag79 sz79 rfl (At.blk (H.rB (i := 7) rfl)) rfl) (WL.ev rfl rfl (Ev.mv rfl rfl) (WL.ev rfl rfl (Ev.mv rfl rfl) ?_))
              obtain ⟨y5, hy5, hm1⟩ := bd hm1
              refine WL.call rfl rfl rfl rfl rfl ok99 rfl (iAddPair_ok hy5 ⟨_, rfl, hI6, (H.rO (i := 6) rfl)⟩ (i64_nat hk2 hl1) (i64_nat hk4 hl1)) ?_
              rintro _ w16 hE ⟨A12, n12, c12, rfl, hI12, H'⟩
              have H := H.callA H' ⟨fun _ _ _ _ _ h => h, trivial⟩
              refine WL.stB (i := 7) rfl rfl rfl sz79 rfl rfl rfl rfl (all1 rfl (all1 rfl all0)) H rfl rfl rfl fun w17 H => ?_
              refine WL.nil ?_
              have H := H.swap 6 10
              obtain rfl := sm hm1
              exact ⟨y5.Rows, y5.N, _, rfl, ⟨rfl, rfl, rfl, rfl, rfl, rfl, rfl, rfl, rfl, rfl, rfl, rfl, rfl, trivial⟩, hI12, H.keep 10 9⟩
            · skip
              have hm1 := ifn h5 hm1
              refine CW.skip ?_
              obtain rfl := sm hm1
              exact ⟨s3, s4, _, rfl, ⟨rfl, rfl, rfl, rfl, rfl, rfl, rfl, rfl, rfl, rfl, rfl, rfl, rfl, trivial⟩, hI6, H.keep 10 9⟩
          · skip
            have hm1 := ifn h4 hm1
            refine QL.off rfl rfl rfl (QL.off rfl rfl rfl (QL.off rfl rfl rfl (QL.off rfl rfl rfl (QL.off rfl rfl rfl (QL.off rfl rfl rfl (QL.off rfl rfl rfl (QL.off rfl rfl rfl (QL.off rfl rfl rfl (QL.off rfl rfl rfl (QL.ev rfl rfl (fun _ _ => Ev.pickF rfl rfl rfl) (QL.nil (fun w18 hE => ?_))))))))))))
            have H := H.ext hE
            refine CW.condF rfl ?_
            refine CW.skip ?_
            obtain rfl := sm hm1
            exact ⟨s3, s4, _, rfl, ⟨rfl, rfl, rfl, rfl, rfl, rfl, rfl, rfl, rfl, rfl, rfl, rfl, rfl, trivial⟩, hI6, H.keep 10 9⟩
        · skip
          have hm1 := ifn h3 hm1
          refine QL.off rfl rfl rfl (QL.off rfl rfl rfl (QL.off rfl rfl rfl (QL.ev rfl rfl (fun _ _ => Ev.pickF rfl rfl rfl) (QL.ev rfl rfl (fun _ _ => Ev.mv rfl rfl) (QL.off rfl rfl rfl (QL.off rfl rfl rfl (QL.off rfl rfl rfl (QL.off rfl rfl rfl (QL.off rfl rfl rfl (QL.off rfl rfl rfl (QL.off rfl rfl rfl (QL.off rfl rfl rfl (QL.off rfl rfl rfl (QL.off rfl rfl rfl (QL.ev rfl rfl (fun _ _ => Ev.pickF rfl rfl rfl) (QL.nil (fun w19 hE => ?_)))))))))))))))))
          have H := H.ext hE
          refine CW.condF rfl ?_
          refine CW.skip ?_
          obtain rfl := sm hm1
          exact ⟨s3, s4, _, rfl, ⟨rfl, rfl, rfl, rfl, rfl, rfl, rfl, rfl, rfl, rfl, rfl, rfl, rfl, trivial⟩, hI6, H.keep 10 9⟩
      · rintro ρ' w20 ⟨s5, s6, v3, rfl, hag, hI7, H⟩
        obtain ⟨σ, rfl⟩ := ofL_ex hag
        obtain ⟨A13, n13, c13, rfl⟩ := (H.rO (i := 6) rfl).form3
        refine CW.reg ?_
        refine WL.ev rfl rfl (Ev.bin rfl rfl rfl (Bin.addN (a := k2) (b := 1) rfl (i64_succN hk4 hl1.2))) (WL.ev rfl rfl (Ev.mv rfl rfl) (WL.nil ?_))
        obtain rfl := sm hb2
        exact ⟨⟨k2 + 1, s5, s6, (.slice A13 n13 c13)⟩, ⟨rfl, rfl, rfl, rfl, rfl, rfl, rfl, rfl, rfl, rfl, rfl, rfl, rfl, trivial⟩, ⟨hk4, hq2, hI7, H.keep 10 9⟩, Nat.sub_lt_sub_left hk4 (Nat.lt_succ_self _)⟩
    · skip
      obtain rfl := eachL_end hq2 (not_cast_lt h2)
      refine CW.exit ?_
      refine CW.reg ?_
      refine WL.ev rfl rfl (Ev.bin rfl rfl rfl (Bin.addN (a := k1) (b := 1) rfl (i64_succN hk2 hl1.2))) (WL.ev rfl rfl (Ev.mv rfl rfl) (WL.nil ?_))
      obtain rfl := sm hb1
      exact ⟨⟨k1 + 1, s3, s4, (.slice A11 n11 c11)⟩, ⟨rfl, rfl, rfl, rfl, rfl, rfl, rfl, rfl, trivial⟩, ⟨hk2, hq1, hI6, H.keep 9 8⟩, Nat.sub_lt_sub_left hk2 (Nat.lt_succ_self _)⟩
  · skip
    obtain rfl := eachL_end hq1 (not_cast_lt h1)
    refine CW.exit ?_
    refine CW.seq (CW.reg ?_)
    refine WL.ev rfl rfl (Ev.lda rfl ag79 sz79 rfl (At.blk (H.rB (i := 7) rfl)) rfl) ?_
    refine WL.stB (i := 3) rfl rfl rfl sz79 rfl rfl rfl rfl (all1 rfl (all1 rfl all0)) H rfl rfl rfl fun w21 H => ?_
    refine WL.nil ?_
    refine CW.ret ?_
    obtain rfl := sm hr
    exact ⟨_, resC rfl ag79 sz79 rfl rfl (At.blk (H.rB (i := 3) rfl)) rfl, H.ext0, _, _, _, rfl, hI3, H.outM (fr' := []) [false, false, false, false, false, false, true, false] fun _ _ => trivial⟩

end Go.Proofs.Ytfnnadlahlkkoaa
