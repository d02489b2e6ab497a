/- What some functions of the program compute, as partial functions on plain data, and that they do; each lemma bears its conditions in its statement. -/
import Derived.Test.YtgbgkhcgpchckaaRows
import Derived.Test.YtgbgkhcgpchckaaRd
set_option linter.unusedVariables false
set_option linter.unusedSimpArgs false
set_option linter.ambiguousOpen false
set_option linter.unusedSectionVars false
set_option linter.unnecessarySimpa false
set_option linter.unusedVariables false
set_option linter.unusedSimpArgs false
set_option maxRecDepth 100000
set_option maxHeartbeats 1000000
namespace Go.Proofs.Ytgbgkhcgpchckaa
open Go Go.E
open Go.E.Rep (rd)
open Go.E.Sep (own)
open Go.E.Sz (szd)
theorem ag3 : aggT Try.prog 3 = some false := by kernel_rfl
theorem ag4 : aggT Try.prog 4 = some false := by kernel_rfl
theorem ag31 : aggT Try.prog 31 = some false := by kernel_rfl
theorem ag93 : aggT Try.prog 93 = some true := by kernel_rfl
theorem ag95 : aggT Try.prog 95 = some true := by kernel_rfl
theorem sz3 : szT Try.prog 3 = some 1 := by kernel_rfl
theorem sz4 : szT Try.prog 4 = some 1 := by kernel_rfl
theorem sz93 : szT Try.prog 93 = some 2 := by kernel_rfl
theorem sz95 : szT Try.prog 95 = some 3 := by kernel_rfl
theorem by3 : byT Try.prog 3 = some 8 := by kernel_rfl
theorem by4 : byT Try.prog 4 = some 1 := by kernel_rfl
theorem ze3 : zeroT Try.prog 3 = some [.int .i64 0] := by kernel_rfl
theorem ze4 : zeroT Try.prog 4 = some [.bool false] := by kernel_rfl
theorem ze95 : zeroT Try.prog 95 = some [.int .i64 0, .string ⟨#[]⟩, .slice none 0 0] := by kernel_rfl
theorem el26 : elemT Try.prog 26 = some 3 := by kernel_rfl
theorem el29 : elemT Try.prog 29 = some 95 := by kernel_rfl
theorem el31 : elemT Try.prog 31 = some 93 := by kernel_rfl
theorem el91 : elemT Try.prog 91 = some 4 := by kernel_rfl
theorem fl93 : flatT Try.prog 93 = some [.int, .str] := by kernel_rfl
theorem fo95_0 : fieldT Try.prog 95 0 = some 0 := by kernel_rfl
theorem fo95_1 : fieldT Try.prog 95 1 = some 2 := by kernel_rfl
theorem ok61 : callable Try.prog 61 = true := by kernel_rfl
theorem ok62 : callable Try.prog 62 = true := by kernel_rfl
theorem ok63 : callable Try.prog 63 = true := by kernel_rfl
theorem ok66 : callable Try.prog 66 = true := by kernel_rfl
theorem ok67 : callable Try.prog 67 = true := by kernel_rfl
theorem ok68 : callable Try.prog 68 = true := by kernel_rfl
theorem ok69 : callable Try.prog 69 = true := by kernel_rfl
theorem ok94 : callable Try.prog 94 = true := by kernel_rfl
theorem ok104 : callable Try.prog 104 = true := by kernel_rfl
theorem ok105 : callable Try.prog 105 = true := by kernel_rfl
theorem hmix : Try.prog.follows .mixedOrders = true := by kernel_rfl
noncomputable def sl1In_m (a0 : Int) (a1 : Int) (a2 : Int) : Option Bool :=
  if a1 ≤ a0 then (
  some (decide (a0 ≤ a2))
  ) else (
  some false
  )
theorem sl1In_ok {a0 : Int} {a1 : Int} {a2 : Int} {r : Bool} (hr : sl1In_m a0 a1 a2 = some r) {F0 : Nat → Prop} {w0 : World} (ha0 : I64 a0) (ha1 : I64 a1) (ha2 : I64 a2) :
    Ret Try.prog 94 #[.int .i64 a0, .int .i64 a1, .int .i64 a2] w0 (fun _ => False) fun v w => v = .bool r := by
  have H := HL.start F0 w0
  refine enter Try.func94 rfl rfl rfl ?_
  refine CW.seq (CW.reg ?_)
  refine WL.ev rfl rfl (Ev.as rfl rfl) (WL.nil ?_)
  refine CW.seq (CW.reg ?_)
  refine WL.ev rfl rfl (Ev.mv rfl rfl) (WL.ev rfl rfl (Ev.mv rfl rfl) (WL.ev rfl rfl (Ev.bin rfl rfl rfl Bin.geq) ?_))
  refine WL.mvD rfl rfl rfl rfl (fun h1 => ?_) (fun h1 => ?_)
  · skip
    have hr := ifp h1 hr
    refine WL.on rfl rfl (WL.ev rfl rfl (Ev.mv rfl rfl) (WL.on rfl rfl (WL.ev rfl rfl (Ev.mv rfl rfl) (WL.on rfl rfl (WL.ev rfl rfl (Ev.bin rfl rfl rfl Bin.leq) (WL.ev rfl rfl (Ev.pickT rfl rfl rfl) (WL.ev rfl rfl (Ev.as rfl rfl) (WL.nil ?_))))))))
    refine CW.ret ?_
    obtain rfl := sm hr
    exact ⟨_, res1 rfl rfl rfl, H.ext0, rfl⟩
  · skip
    have hr := ifn h1 hr
    refine WL.off rfl rfl rfl (WL.off rfl rfl rfl (WL.off rfl rfl rfl (WL.ev rfl rfl (Ev.pickF rfl rfl rfl) (WL.ev rfl rfl (Ev.as rfl rfl) (WL.nil ?_)))))
    refine CW.ret ?_
    obtain rfl := sm hr
    exact ⟨_, res1 rfl rfl rfl, H.ext0, rfl⟩

noncomputable def sInstanceIndex_L1 (a1 : Instance) : Nat → Instance → Unit → Option (Unit ⊕ Int) := fun k1 x1 _ => 
  if x1 = a1 then (
  some (.inr (k1 : Int))
  ) else (
  some (.inl ())
  )
noncomputable def sInstanceIndex_m (a0 : (List Instance)) (a1 : Instance) : Option Int :=
  (findL (sInstanceIndex_L1 a1) 0 a0 ()).bind <| onr (fun r1 => some r1) fun _ =>
  some (-1)
theorem sInstanceIndex_ok {a0 : (List Instance)} {a1 : Instance} {r : Int} (hr : sInstanceIndex_m a0 a1 = some r) {F0 : Nat → Prop} {w0 : World} {z0 : Value} (ha0 : rdS F0 w0 a0 z0) {ca1 : List Value} (ha1 : rd F0 w0 a1 ca1) :
    Ret Try.prog 104 #[z0, .agg ca1.toArray] w0 (fun _ => False) fun v w => v = .int .i64 r ∧ I64 r := by
  obtain ⟨A0', n0', c0', rfl⟩ := ha0.form3
  have H := ((HL.start F0 w0).argS ha0).argR ha1
  obtain ⟨rfl, hI1, hS1, H⟩ := op_Instance H (i := 1) rfl
  refine enter Try.func104 rfl rfl rfl ?_
  refine CW.seq (CW.reg ?_)
  refine WL.boxH rfl rfl rfl rfl rfl H fun b1 w1 H => ?_
  refine WL.ev rfl rfl (Ev.as rfl rfl) (WL.nil ?_)
  refine CW.seq (CW.seq (CW.reg ?_))
  refine WL.ev rfl rfl (Ev.as rfl rfl) (WL.nil ?_)
  obtain ⟨q1, hq1, hr⟩ := bd hr
  refine CW.block (CW.loop (α := Nat) (fun k1 => [(0, .slice A0' n0' c0'), (3, .pointer (some ⟨b1, 0, none⟩)), (5, .int .i64 (k1 : Int))]) (fun k1 w => k1 ≤ a0.length ∧ findL (sInstanceIndex_L1 a1) k1 (a0.drop k1) () = some q1 ∧ HL F0 [] w0 w [Pr.S a0 (.slice A0' n0' c0'), Pr.R a1 [.int .i64 a1.Node, .string a1.Name]] [It.B b1 93 [.int .i64 a1.Node, .string a1.Name]]) (fun k1 => a0.length - k1) 0 ⟨rfl, rfl, rfl, trivial⟩ ⟨Nat.zero_le _, hq1, H.keep 2 1⟩ ?_)
  rintro k1 σ w2 ⟨hk1, hq1, H⟩
  refine CW.seq (CW.seq (CW.reg ?_))
  refine WL.ev rfl rfl (Ev.mv rfl rfl) (WL.ev rfl rfl (Ev.mv rfl rfl) ?_)
  have hl1 := (H.rS (i := 0) rfl).I
  refine WL.ev rfl rfl (Ev.lenV rfl el31 rfl (H.rS (i := 0) rfl)) (WL.ev rfl rfl (Ev.bin rfl rfl rfl Bin.lss) (WL.nil ?_))
  refine CW.condD rfl (fun h1 => ?_) (fun h1 => ?_)
  · skip
    have hk2 := cast_lt h1
    obtain ⟨x1, z1, hx1, hb1, hs1, ht1⟩ := findL_go hq1 hk2
    refine CW.skip ?_
    refine CW.seq (CW.block (CW.seq (CW.quiet hmix (by kernel_rfl) ?_)))
    refine QL.ev rfl rfl (fun _ _ => Ev.mv rfl rfl) (QL.ev rfl rfl (fun _ _ => Ev.mv rfl rfl) ?_)
    obtain ⟨b2, ob2, cb2, hvb2, hI2, hS2, H⟩ := ixS_Instance H (i := 0) rfl hx1
    refine QL.ev rfl rfl (fun _ _ => Ev.ixVN rfl el31 sz93 rfl hvb2 rfl (lt_of hx1)) (QL.ev rfl rfl (fun _ hq => Ev.lda rfl ag93 sz93 rfl ((H.ext hq).rA (i := 2) rfl) rfl) (QL.ev rfl rfl (fun _ hq => Ev.lda rfl ag93 sz93 rfl (At.blk ((H.ext hq).rB (i := 0) rfl)) rfl) (QL.ev rfl rfl (fun _ _ => Ev.bin rfl rfl rfl (Bin.eqlF fl93 (Instance_eqF x1 a1))) (QL.nil (fun w3 hE => ?_)))))
    have H := H.ext hE
    refine CW.condD rfl (fun h2 => ?_) (fun h2 => ?_)
    · skip
      have hb1 := ifp h2 hb1
      refine CW.seq (CW.reg ?_)
      refine WL.ev rfl rfl (Ev.mv rfl rfl) (WL.ev rfl rfl (Ev.as rfl rfl) (WL.nil ?_))
      refine CW.ret ?_
      obtain rfl := sm hb1
      obtain rfl := ht1 _ rfl
      obtain rfl := sm hr
      exact ⟨_, res1 rfl rfl rfl, H.ext0, rfl, (i64_nat hk2 hl1)⟩
    · skip
      have hb1 := ifn h2 hb1
      refine CW.skip ?_
      refine CW.reg ?_
      refine WL.ev rfl rfl (Ev.mv rfl rfl) (WL.ev rfl rfl (Ev.bin rfl rfl rfl (Bin.addN (a := k1) (b := 1) rfl (i64_succN hk2 hl1.2))) (WL.ev rfl rfl (Ev.as rfl rfl) (WL.nil ?_)))
      obtain rfl := sm hb1
      have hq1 := hs1 _ rfl
      exact ⟨(k1 + 1), ⟨rfl, rfl, rfl, trivial⟩, ⟨hk2, hq1, H.keep 2 1⟩, Nat.sub_lt_sub_left hk2 (Nat.lt_succ_self _)⟩
  · skip
    obtain rfl := findL_end hq1 (not_cast_lt h1)
    refine CW.exit ?_
    refine CW.seq (CW.reg ?_)
    refine WL.ev rfl rfl (Ev.as rfl rfl) (WL.nil ?_)
    refine CW.ret ?_
    obtain rfl := sm hr
    exact ⟨_, res1 rfl rfl rfl, H.ext0, rfl, (by decide : I64 (-1))⟩

noncomputable def sl31Has_m (a0 : (List Instance)) (a1 : Instance) : Option Bool :=
  (sInstanceIndex_m a0 a1).bind fun y1 =>
  some (decide (0 ≤ y1))
theorem sl31Has_ok {a0 : (List Instance)} {a1 : Instance} {r : Bool} (hr : sl31Has_m a0 a1 = some r) {F0 : Nat → Prop} {w0 : World} {z0 : Value} (ha0 : rdS F0 w0 a0 z0) {ca1 : List Value} (ha1 : rd F0 w0 a1 ca1) :
    Ret Try.prog 62 #[z0, .agg ca1.toArray] w0 (fun _ => False) fun v w => v = .bool r := by
  obtain ⟨A0', n0', c0', rfl⟩ := ha0.form3
  have H := ((HL.start F0 w0).argS ha0).argR ha1
  obtain ⟨rfl, hI1, hS1, H⟩ := op_Instance H (i := 1) rfl
  refine enter Try.func62 rfl rfl rfl ?_
  refine CW.seq (CW.reg ?_)
  refine WL.boxH rfl rfl rfl rfl rfl H fun b1 w1 H => ?_
  refine WL.ev rfl rfl (Ev.as rfl rfl) (WL.nil ?_)
  refine CW.seq (CW.reg ?_)
  refine WL.ev rfl rfl (Ev.mv rfl rfl) (WL.ev rfl rfl (Ev.lda rfl ag93 sz93 rfl (At.blk (H.rB (i := 0) rfl)) rfl) ?_)
  obtain ⟨y1, hy1, hr⟩ := bd hr
  refine WL.call rfl rfl rfl rfl rfl ok104 rfl (sInstanceIndex_ok hy1 (H.rS (i := 0) rfl) ⟨rfl, hI1, hS1⟩) ?_
  rintro _ w2 hE ⟨rfl, hI2⟩
  have H := H.ext hE
  refine WL.ev rfl rfl (Ev.bin rfl rfl rfl Bin.geq) (WL.ev rfl rfl (Ev.as rfl rfl) (WL.nil ?_))
  refine CW.ret ?_
  obtain rfl := sm hr
  exact ⟨_, res1 rfl rfl rfl, H.ext0, rfl⟩

noncomputable def sLastUse_L1 (a0 : (List TraceStep)) (a1 : Int) : Nat → Int → Option Int := fun k1 s1 => 
  (a0[k1]?).bind fun x1 =>
  grd (0 ≤ a1) <|
  (a0[a1.toNat]?).bind fun x2 =>
  (sl31Has_m x1.Inputs x2.At).bind fun y2 =>
  if y2 = true then (
  some (k1 : Int)
  ) else (
  some s1
  )
noncomputable def sLastUse_m (a0 : (List TraceStep)) (a1 : Int) : Option Int :=
  (sl1In_m a1 0 ((a0.length : Int) - 1)).bind fun y1 =>
  if y1 = true then (
  grd (I64 (a1 + 1)) <|
  grd (0 ≤ (a1 + 1)) <|
  (eachN (sLastUse_L1 a0 a1) ((a1 + 1).toNat) (a0.length - ((a1 + 1).toNat)) a1).bind fun s1 =>
  some s1
  ) else (
  some (-1)
  )
theorem sLastUse_ok {a0 : (List TraceStep)} {a1 : Int} {r : Int} (hr : sLastUse_m a0 a1 = some r) {F0 : Nat → Prop} {w0 : World} {z0 : Value} (ha0 : rdS F0 w0 a0 z0) (ha1 : I64 a1) :
    Ret Try.prog 61 #[z0, .int .i64 a1] w0 (fun _ => False) fun v w => v = .int .i64 r ∧ I64 r := by
  obtain ⟨A0', n0', c0', rfl⟩ := ha0.form3
  have H := (HL.start F0 w0).argS ha0
  refine enter Try.func61 rfl rfl rfl ?_
  refine CW.seq (CW.reg ?_)
  refine WL.ev rfl rfl (Ev.as rfl rfl) (WL.nil ?_)
  refine CW.seq (CW.seq (CW.reg ?_))
  refine WL.ev rfl rfl (Ev.mv rfl rfl) (WL.ev rfl rfl (Ev.mv rfl rfl) ?_)
  have hl1 := (H.rS (i := 0) rfl).I
  refine WL.ev rfl rfl (Ev.lenV rfl el29 rfl (H.rS (i := 0) rfl)) (WL.ev rfl rfl (Ev.bin rfl rfl rfl (Bin.sub (i64_sub (k := 1) hl1 (by decide)))) ?_)
  obtain ⟨y1, hy1, hr⟩ := bd hr
  refine WL.call rfl rfl rfl rfl rfl ok94 rfl (sl1In_ok hy1 (F0 := fun _ => False) ha1 (by decide : I64 0) (i64_sub (k := 1) hl1 (by decide))) ?_
  rintro _ w1 hE rfl
  have H := H.ext hE
  refine WL.ev rfl rfl (Ev.not rfl rfl) (WL.nil ?_)
  refine CW.condBN rfl (fun h1 => ?_) (fun h1 => ?_)
  · skip
    have hr := ifn h1 hr
    refine CW.seq (CW.reg ?_)
    refine WL.ev rfl rfl (Ev.as rfl rfl) (WL.nil ?_)
    refine CW.ret ?_
    obtain rfl := sm hr
    exact ⟨_, res1 rfl rfl rfl, H.ext0, rfl, (by decide : I64 (-1))⟩
  · skip
    have hr := ifp h1 hr
    refine CW.skip ?_
    refine CW.seq (CW.reg ?_)
    refine WL.ev rfl rfl (Ev.mv rfl rfl) (WL.ev rfl rfl (Ev.as rfl rfl) (WL.nil ?_))
    refine CW.seq (CW.seq (CW.reg ?_))
    refine WL.ev rfl rfl (Ev.mv rfl rfl) ?_
    obtain ⟨hg1, hr⟩ := grd_some hr
    refine WL.ev rfl rfl (Ev.bin rfl rfl rfl (Bin.add hg1)) (WL.ev rfl rfl (Ev.as rfl rfl) (WL.nil ?_))
    obtain ⟨hg2, hr⟩ := grd_some hr
    obtain ⟨q1, hq1, hr⟩ := bd hr
    refine CW.block (CW.loop (α := Nat × Int) (fun ⟨k1, s1⟩ => [(0, .slice A0' n0' c0'), (1, .int .i64 a1), (5, .int .i64 s1), (6, .int .i64 (k1 : Int))]) (fun ⟨k1, s1⟩ w => ((a1 + 1).toNat) ≤ k1 ∧ eachN (sLastUse_L1 a0 a1) k1 (a0.length - k1) s1 = some q1 ∧ I64 s1 ∧ HL F0 [] w0 w [Pr.S a0 (.slice A0' n0' c0')] []) (fun ⟨k1, s1⟩ => a0.length - k1) ⟨(a1 + 1).toNat, a1⟩ ⟨rfl, rfl, rfl, (vI (Int.toNat_of_nonneg hg2).symm), trivial⟩ ⟨Nat.le_refl _, hq1, ha1, H.keep 1 0⟩ ?_)
    rintro ⟨k1, s1⟩ σ w2 ⟨hk1, hq1, hI1, H⟩
    refine CW.seq (CW.seq (CW.reg ?_))
    refine WL.ev rfl rfl (Ev.mv rfl rfl) (WL.ev rfl rfl (Ev.mv rfl rfl) (WL.ev rfl rfl (Ev.lenV rfl el29 rfl (H.rS (i := 0) rfl)) (WL.ev rfl rfl (Ev.bin rfl rfl rfl Bin.lss) (WL.nil ?_))))
    refine CW.condD rfl (fun h2 => ?_) (fun h2 => ?_)
    · skip
      have hk2 := cast_lt h2
      obtain ⟨z1, hb1, hq1⟩ := eachN_go hq1 hk2
      refine CW.skip ?_
      refine CW.seq (CW.block (CW.seq (CW.quiet hmix (by kernel_rfl) ?_)))
      refine QL.ev rfl rfl (fun _ _ => Ev.mv rfl rfl) (QL.ev rfl rfl (fun _ _ => Ev.mv rfl rfl) ?_)
      obtain ⟨x1, hx1, hb1⟩ := bd hb1
      obtain ⟨b1, ob1, cb1, A1, n1, c1, hvb1, hI2, hS1, H⟩ := ixS_TraceStep H (i := 0) rfl hx1
      refine QL.ev rfl rfl (fun _ _ => Ev.ixVN rfl el29 sz95 rfl hvb1 rfl (lt_of hx1)) (QL.ev rfl rfl (fun _ _ => Ev.fa rfl fo95_1 rfl) (QL.ev rfl rfl (fun _ hq => Ev.ld rfl ag31 rfl (((H.ext hq).rA (i := 1) rfl).cell rfl)) (QL.ev rfl rfl (fun _ _ => Ev.mv rfl rfl) (QL.ev rfl rfl (fun _ _ => Ev.mv rfl rfl) ?_))))
      obtain ⟨hg3, hb1⟩ := grd_some hb1
      obtain ⟨x2, hx2, hb1⟩ := bd hb1
      obtain ⟨b2, ob2, cb2, A2, n2, c2, hvb2, hI3, hS2, H⟩ := ixS_TraceStep H (i := 0) rfl hx2
      refine QL.ev rfl rfl (fun _ _ => Ev.ixV rfl el29 sz95 rfl hvb2 rfl hg3 (lt_of hx2)) (QL.ev rfl rfl (fun _ _ => Ev.fa rfl fo95_0 rfl) (QL.ev rfl rfl (fun _ hq => Ev.lda rfl ag93 sz93 rfl (((H.ext hq).rA (i := 4) rfl).part 0 2) rfl) ?_))
      obtain ⟨y2, hy2, hb1⟩ := bd hb1
      refine QL.call rfl rfl rfl rfl rfl ok62 rfl (fun _ hq => sl31Has_ok hy2 ((H.ext hq).rS (i := 3) rfl) ⟨rfl, hI3, hS2⟩) ?_
      refine QL.nil (fun w3 hE => ?_)
      have H := H.ext hE
      refine CW.condB rfl (fun h3 => ?_) (fun h3 => ?_)
      · skip
        have hb1 := ifp h3 hb1
        refine CW.reg ?_
        refine WL.ev rfl rfl (Ev.mv rfl rfl) (WL.ev rfl rfl (Ev.as rfl rfl) (WL.nil ?_))
        refine CW.reg ?_
        refine WL.ev rfl rfl (Ev.mv rfl rfl) (WL.ev rfl rfl (Ev.bin rfl rfl rfl (Bin.addN (a := k1) (b := 1) rfl (i64_succN hk2 hl1.2))) (WL.ev rfl rfl (Ev.as rfl rfl) (WL.nil ?_)))
        obtain rfl := sm hb1
        exact ⟨⟨k1 + 1, (k1 : Int)⟩, ⟨rfl, rfl, rfl, rfl, trivial⟩, ⟨(Nat.le_succ_of_le hk1), hq1, (i64_nat hk2 hl1), H.keep 1 0⟩, Nat.sub_lt_sub_left hk2 (Nat.lt_succ_self _)⟩
      · skip
        have hb1 := ifn h3 hb1
        refine CW.skip ?_
        refine CW.reg ?_
        refine WL.ev rfl rfl (Ev.mv rfl rfl) (WL.ev rfl rfl (Ev.bin rfl rfl rfl (Bin.addN (a := k1) (b := 1) rfl (i64_succN hk2 hl1.2))) (WL.ev rfl rfl (Ev.as rfl rfl) (WL.nil ?_)))
        obtain rfl := sm hb1
        exact ⟨⟨k1 + 1, s1⟩, ⟨rfl, rfl, rfl, rfl, trivial⟩, ⟨(Nat.le_succ_of_le hk1), hq1, hI1, H.keep 1 0⟩, Nat.sub_lt_sub_left hk2 (Nat.lt_succ_self _)⟩
    · skip
      obtain rfl := eachN_end hq1 (not_cast_lt h2)
      refine CW.exit ?_
      refine CW.seq (CW.reg ?_)
      refine WL.ev rfl rfl (Ev.mv rfl rfl) (WL.ev rfl rfl (Ev.as rfl rfl) (WL.nil ?_))
      refine CW.ret ?_
      obtain rfl := sm hr
      exact ⟨_, res1 rfl rfl rfl, H.ext0, rfl, hI1⟩

noncomputable def sl1Max_m (a0 : Int) (a1 : Int) : Option Int :=
  if a1 < a0 then (
  some a0
  ) else (
  some a1
  )
theorem sl1Max_ok {a0 : Int} {a1 : Int} {r : Int} (hr : sl1Max_m a0 a1 = some r) {F0 : Nat → Prop} {w0 : World} (ha0 : I64 a0) (ha1 : I64 a1) :
    Ret Try.prog 63 #[.int .i64 a0, .int .i64 a1] w0 (fun _ => False) fun v w => v = .int .i64 r ∧ I64 r := by
  have H := HL.start F0 w0
  refine enter Try.func63 rfl rfl rfl ?_
  refine CW.seq (CW.reg ?_)
  refine WL.ev rfl rfl (Ev.as rfl rfl) (WL.nil ?_)
  refine CW.seq (CW.seq (CW.reg ?_))
  refine WL.ev rfl rfl (Ev.mv rfl rfl) (WL.ev rfl rfl (Ev.mv rfl rfl) (WL.ev rfl rfl (Ev.bin rfl rfl rfl Bin.gtr) (WL.nil ?_)))
  refine CW.condD rfl (fun h1 => ?_) (fun h1 => ?_)
  · skip
    have hr := ifp h1 hr
    refine CW.seq (CW.reg ?_)
    refine WL.ev rfl rfl (Ev.mv rfl rfl) (WL.ev rfl rfl (Ev.as rfl rfl) (WL.nil ?_))
    refine CW.ret ?_
    obtain rfl := sm hr
    exact ⟨_, res1 rfl rfl rfl, H.ext0, rfl, ha0⟩
  · skip
    have hr := ifn h1 hr
    refine CW.skip ?_
    refine CW.seq (CW.reg ?_)
    refine WL.ev rfl rfl (Ev.mv rfl rfl) (WL.ev rfl rfl (Ev.as rfl rfl) (WL.nil ?_))
    refine CW.ret ?_
    obtain rfl := sm hr
    exact ⟨_, res1 rfl rfl rfl, H.ext0, rfl, ha1⟩

noncomputable def sAssignSlots_L2 (a0 : (List TraceStep)) (a1 : (List Instance)) (s1 : List Int) (s2 : List Int) (k1 : Nat) (y1 : Int) : Nat → (List Bool) → Option (List Bool) := fun k2 s4 => 
  ((s2 ++ [y1])[k2]?).bind fun x2 =>
  if (k1 : Int) < x2 then (
  (s1[k2]?).bind fun x3 =>
  grd (0 ≤ x3) <|
  (s4[x3.toNat]?).bind fun x4 =>
  some (List.set s4 x3.toNat true)
  ) else (
  (a0[k2]?).bind fun x5 =>
  (sl31Has_m a1 x5.At).bind fun y2 =>
  if y2 = true then (
  (s1[k2]?).bind fun x6 =>
  grd (0 ≤ x6) <|
  (s4[x6.toNat]?).bind fun x7 =>
  some (List.set s4 x6.toNat true)
  ) else (
  some s4
  )
  )
noncomputable def sAssignSlots_L3 (s4 : List Bool) : Int → Option (Int ⊕ Int) := fun s6 => 
  grd (0 ≤ s6) <|
  (s4[s6.toNat]?).bind fun x8 =>
  if x8 = true then (
  grd (I64 (s6 + 1)) <|
  some (.inl (s6 + 1))
  ) else (
  some (.inr s6)
  )
noncomputable def sAssignSlots_L1 (a0 : (List TraceStep)) (a1 : (List Instance)) : Nat → TraceStep → ((List Int) × (List Int) × Int) → Option ((List Int) × (List Int) × Int) := fun k1 x1 (s1, s2, s3) => 
  (sLastUse_m a0 (k1 : Int)).bind fun y1 =>
  grd (((s2.length : Int) + 1) * 8 ≤ 140737488355328 ∧ (s2.length : Int) + 1 ≤ 9223372036854775807) <|
  grd (I64 (s3 + 1)) <|
  grd (0 ≤ (s3 + 1) ∧ (s3 + 1) * 1 ≤ 281474976710656 ∧ (s3 + 1) ≤ 9223372036854775807) <|
  (eachN (sAssignSlots_L2 a0 a1 s1 s2 k1 y1) 0 (k1) (List.replicate ((s3 + 1).toNat) false)).bind fun s4 =>
  (
  iterO (sAssignSlots_L3 s4) 0
  ).bind fun s5 =>
  grd (((s1.length : Int) + 1) * 8 ≤ 140737488355328 ∧ (s1.length : Int) + 1 ≤ 9223372036854775807) <|
  grd (I64 (s5 + 1)) <|
  (sl1Max_m s3 (s5 + 1)).bind fun y3 =>
  some ((s1 ++ [s5]), (s2 ++ [y1]), y3)
noncomputable def sAssignSlots_m (a0 : (List TraceStep)) (a1 : (List Instance)) : Option ((List Int) × Int) :=
  (eachL (sAssignSlots_L1 a0 a1) 0 a0 (([] : List Int), ([] : List Int), 0)).bind fun (s1, s2, s3) =>
  some (s1, s3)
theorem sAssignSlots_ok {a0 : (List TraceStep)} {a1 : (List Instance)} {r : ((List Int) × Int)} (hr : sAssignSlots_m a0 a1 = some r) {F0 : Nat → Prop} {w0 : World} {z0 : Value} (ha0 : rdS F0 w0 a0 z0) {z1 : Value} (ha1 : rdS F0 w0 a1 z1) :
    Ret Try.prog 10 #[z0, z1] w0 (fun _ => False) fun v w => ∃ A0 : Option Addr, ∃ n0 c0 : Nat, v = .tuple #[(.slice A0 n0 c0), .int .i64 r.2] ∧ I64 r.2 ∧ HL F0 [] w0 w [] [It.O 3 r.1 (.slice A0 n0 c0)] := by
  obtain ⟨A0', n0', c0', rfl⟩ := ha0.form3
  obtain ⟨A1', n1', c1', rfl⟩ := ha1.form3
  have H := ((HL.start F0 w0).argS ha0).argS ha1
  refine enter Try.func10 rfl rfl rfl ?_
  refine CW.seq (CW.reg ?_)
  refine WL.ev rfl rfl (Ev.as rfl rfl) (WL.ev rfl rfl (Ev.as rfl rfl) (WL.nil ?_))
  refine CW.seq (CW.reg ?_)
  refine WL.lit0H (α := Int) rfl rfl rfl el26 sz3 H fun A1 n1 c1 w1 H => ?_
  refine WL.ev rfl rfl (Ev.as rfl rfl) (WL.nil ?_)
  refine CW.seq (CW.reg ?_)
  refine WL.lit0H (α := Int) rfl rfl rfl el26 sz3 H fun A2 n2 c2 w2 H => ?_
  refine WL.ev rfl rfl (Ev.as rfl rfl) (WL.nil ?_)
  refine CW.seq (CW.reg ?_)
  refine WL.ev rfl rfl (Ev.as rfl rfl) (WL.nil ?_)
  refine CW.seq (CW.seq (CW.reg ?_))
  refine WL.ev rfl rfl (Ev.as rfl rfl) (WL.nil ?_)
  obtain ⟨q1, hq1, hr⟩ := bd hr
  refine CW.block (CW.loop (α := Nat × (List Int) × (List Int) × Int × Value × Value) (fun ⟨k1, s1, s2, s3, v1, v2⟩ => [(0, .slice A0' n0' c0'), (1, .slice A1' n1' c1'), (6, v1), (7, v2), (8, .int .i64 s3), (9, .int .i64 (k1 : Int))]) (fun ⟨k1, s1, s2, s3, v1, v2⟩ w => k1 ≤ a0.length ∧ eachL (sAssignSlots_L1 a0 a1) k1 (a0.drop k1) (s1, s2, s3) = some q1 ∧ I64 s3 ∧ HL F0 [] w0 w [Pr.S a0 (.slice A0' n0' c0'), Pr.S a1 (.slice A1' n1' c1')] [It.O 3 s1 v1, It.O 3 s2 v2]) (fun ⟨k1, s1, s2, s3, v1, v2⟩ => a0.length - k1) ⟨0, ([] : List Int), ([] : List Int), 0, (.slice A1 n1 c1), (.slice A2 n2 c2)⟩ ⟨rfl, rfl, rfl, rfl, rfl, rfl, trivial⟩ ⟨Nat.zero_le _, hq1, (by decide : I64 0), H.keep 2 2⟩ ?_)
  rintro ⟨k1, s1, s2, s3, v1, v2⟩ σ w3 ⟨hk1, hq1, hI1, H⟩
  obtain ⟨A3, n3, c3, rfl⟩ := (H.rO (i := 0) rfl).form3
  obtain ⟨A4, n4, c4, rfl⟩ := (H.rO (i := 1) rfl).form3
  refine CW.seq (CW.seq (CW.reg ?_))
  refine WL.ev rfl rfl (Ev.mv rfl rfl) (WL.ev rfl rfl (Ev.mv rfl rfl) ?_)
  have hl1 := (H.rS (i := 0) rfl).I
  refine WL.ev rfl rfl (Ev.lenV rfl el29 rfl (H.rS (i := 0) rfl)) (WL.ev rfl rfl (Ev.bin rfl rfl rfl Bin.lss) (WL.nil ?_))
  refine CW.condD rfl (fun h1 => ?_) (fun h1 => ?_)
  · skip
    have hk2 := cast_lt h1
    obtain ⟨x1, z1, hx1, hb1, hq1⟩ := eachL_go hq1 hk2
    refine CW.skip ?_
    refine CW.seq (CW.block (CW.seq (CW.reg ?_)))
    refine WL.ev rfl rfl (Ev.mv rfl rfl) (WL.ev rfl rfl (Ev.mv rfl rfl) (WL.ev rfl rfl (Ev.mv rfl rfl) ?_))
    obtain ⟨y1, hy1, hb1⟩ := bd hb1
    refine WL.call rfl rfl rfl rfl rfl ok61 rfl (sLastUse_ok hy1 (H.rS (i := 0) rfl) (i64_nat hk2 hl1)) ?_
    rintro _ w4 hE ⟨rfl, hI2⟩
    have H := H.ext hE
    refine WL.lit1 rfl rfl rfl el26 sz3 ze3 rfl rfl rfl rfl rfl rfl fun b1 w5 hE hb hB => ?_
    have H := H.newB hE hb hB
    obtain ⟨hg1, hb1⟩ := grd_some hb1
    refine WL.appO (i := 1) (ys := [y1]) rfl rfl rfl el26 sz3 by3 ze3 rfl rfl rfl H rfl (fun _ => ownL.single ⟨rfl, rfl, hI2⟩) (.inr ⟨_, _, rfl, At.blk (H.rB (i := 2) rfl)⟩) hg1 fun A5 n5 c5 w6 H => ?_
    refine WL.ev rfl rfl (Ev.as rfl rfl) (WL.nil ?_)
    refine CW.seq (CW.reg ?_)
    refine WL.ev rfl rfl (Ev.mv rfl rfl) ?_
    obtain ⟨hg2, hb1⟩ := grd_some hb1
    refine WL.ev rfl rfl (Ev.bin rfl rfl rfl (Bin.add hg2)) ?_
    obtain ⟨hg3, hb1⟩ := grd_some hb1
    refine WL.mkH (x := false) rfl rfl rfl el91 sz4 by4 ze4 (fun _ => ⟨rfl, rfl⟩) rfl rfl hg3 H fun A6 n6 c6 w7 H => ?_
    refine WL.ev rfl rfl (Ev.as rfl rfl) (WL.nil ?_)
    refine CW.seq (CW.seq (CW.reg ?_))
    refine WL.ev rfl rfl (Ev.as rfl rfl) (WL.nil ?_)
    obtain ⟨q2, hq2, hb1⟩ := bd hb1
    refine CW.block (CW.loop (α := Nat × (List Bool) × Value) (fun ⟨k2, s4, v3⟩ => [(0, .slice A0' n0' c0'), (1, .slice A1' n1' c1'), (6, .slice A3 n3 c3), (7, .slice A5 n5 c5), (8, .int .i64 s3), (9, .int .i64 (k1 : Int)), (10, v3), (11, .int .i64 (k2 : Int))]) (fun ⟨k2, s4, v3⟩ w => k2 ≤ k1 ∧ eachN (sAssignSlots_L2 a0 a1 s1 s2 k1 y1) k2 (k1 - k2) s4 = some q2 ∧ HL F0 [] w0 w [Pr.S a0 (.slice A0' n0' c0'), Pr.S a1 (.slice A1' n1' c1')] [It.O 3 s1 (.slice A3 n3 c3), It.O 3 (s2 ++ [y1]) (.slice A5 n5 c5), It.B b1 3 [.int .i64 y1], It.O 4 s4 v3]) (fun ⟨k2, s4, v3⟩ => k1 - k2) ⟨0, (List.replicate ((s3 + 1).toNat) false), (.slice A6 n6 c6)⟩ ⟨rfl, rfl, rfl, rfl, rfl, rfl, rfl, rfl, trivial⟩ ⟨Nat.zero_le _, hq2, H.keep 2 4⟩ ?_)
    rintro ⟨k2, s4, v3⟩ σ w8 ⟨hk3, hq2, H⟩
    obtain ⟨A7, n7, c7, rfl⟩ := (H.rO (i := 3) rfl).form3
    refine CW.seq (CW.seq (CW.reg ?_))
    refine WL.ev rfl rfl (Ev.mv rfl rfl) (WL.ev rfl rfl (Ev.mv rfl rfl) (WL.ev rfl rfl (Ev.bin rfl rfl rfl Bin.lss) (WL.nil ?_)))
    refine CW.condD rfl (fun h2 => ?_) (fun h2 => ?_)
    · skip
      have hk4 := cast_lt h2
      obtain ⟨z2, hb2, hq2⟩ := eachN_go hq2 hk4
      refine CW.skip ?_
      refine CW.seq (CW.block (CW.seq (CW.reg ?_)))
      refine WL.ev rfl rfl (Ev.mv rfl rfl) (WL.ev rfl rfl (Ev.mv rfl rfl) ?_)
      obtain ⟨x2, hx2, hb2⟩ := bd hb2
      obtain ⟨b2, cb2, hvb2, hbb2⟩ := H.ptO (i := 1) rfl hx2
      refine WL.ev rfl rfl (Ev.ixVN rfl el26 sz3 rfl hvb2 rfl (lt_of hx2)) ?_
      obtain ⟨hA1, hI3, H⟩ := elO_Int H (i := 1) rfl hx2 hbb2
      refine WL.ev rfl rfl (Ev.ld rfl ag3 rfl (hA1.cell0 rfl)) (WL.ev rfl rfl (Ev.mv rfl rfl) (WL.ev rfl rfl (Ev.bin rfl rfl rfl Bin.gtr) ?_))
      refine WL.mvD rfl rfl rfl rfl (fun h3 => ?_) (fun h3 => ?_)
      · skip
        have hb2 := ifp h3 hb2
        refine WL.off rfl rfl rfl (WL.off rfl rfl rfl (WL.off rfl rfl rfl (WL.off rfl rfl rfl (WL.off rfl rfl rfl (WL.off rfl rfl rfl (WL.off rfl rfl rfl (WL.ev rfl rfl (Ev.pickT rfl rfl rfl) (WL.nil ?_))))))))
        refine CW.condT rfl ?_
        refine CW.reg ?_
        refine WL.ev rfl rfl (Ev.mv rfl rfl) (WL.ev rfl rfl (Ev.mv rfl rfl) (WL.ev rfl rfl (Ev.mv rfl rfl) ?_))
        obtain ⟨x3, hx3, hb2⟩ := bd hb2
        obtain ⟨b3, cb3, hvb3, hbb3⟩ := H.ptO (i := 0) rfl hx3
        refine WL.ev rfl rfl (Ev.ixVN rfl el26 sz3 rfl hvb3 rfl (lt_of hx3)) ?_
        obtain ⟨hA2, hI4, H⟩ := elO_Int H (i := 0) rfl hx3 hbb3
        refine WL.ev rfl rfl (Ev.ld rfl ag3 rfl (hA2.cell0 rfl)) ?_
        obtain ⟨hg4, hb2⟩ := grd_some hb2
        obtain ⟨x4, hx4, hb2⟩ := bd hb2
        obtain ⟨b4, cb4, hvb4, hbb4⟩ := H.ptO (i := 3) rfl hx4
        refine WL.ev rfl rfl (Ev.ixV rfl el91 sz4 rfl hvb4 rfl hg4 (lt_of hx4)) ?_
        refine WL.stOf (i := 3) (z := true) rfl rfl rfl sz4 rfl rfl rfl (fun _ => ⟨rfl, rfl⟩) H rfl hbb4 (by simpa using lt_of hx4) fun w9 H => ?_
        refine WL.nil ?_
        refine CW.reg ?_
        refine WL.ev rfl rfl (Ev.mv rfl rfl) (WL.ev rfl rfl (Ev.bin rfl rfl rfl (Bin.addN (a := k2) (b := 1) rfl (i64_succN hk4 (i64_nat hk2 hl1).2))) (WL.ev rfl rfl (Ev.as rfl rfl) (WL.nil ?_)))
        obtain rfl := sm hb2
        exact ⟨⟨k2 + 1, (List.set s4 x3.toNat true), (.slice A7 n7 c7)⟩, ⟨rfl, rfl, rfl, rfl, rfl, rfl, rfl, rfl, trivial⟩, ⟨hk4, hq2, H.keep 2 4⟩, Nat.sub_lt_sub_left hk4 (Nat.lt_succ_self _)⟩
      · skip
        have hb2 := ifn h3 hb2
        refine WL.on rfl rfl (WL.ev rfl rfl (Ev.mv rfl rfl) (WL.on rfl rfl (WL.ev rfl rfl (Ev.mv rfl rfl) (WL.on rfl rfl (WL.ev rfl rfl (Ev.mv rfl rfl) (WL.on rfl rfl ?_))))))
        obtain ⟨x5, hx5, hb2⟩ := bd hb2
        obtain ⟨b5, ob5, cb5, A8, n8, c8, hvb5, hI5, hS1, H⟩ := ixS_TraceStep H (i := 0) rfl hx5
        refine WL.ev rfl rfl (Ev.ixVN rfl el29 sz95 rfl hvb5 rfl (lt_of hx5)) (WL.on rfl rfl (WL.ev rfl rfl (Ev.fa rfl fo95_0 rfl) (WL.on rfl rfl (WL.ev rfl rfl (Ev.lda rfl ag93 sz93 rfl ((H.rA (i := 3) rfl).part 0 2) rfl) (WL.on rfl rfl ?_)))))
        obtain ⟨y2, hy2, hb2⟩ := bd hb2
        refine WL.call rfl rfl rfl rfl rfl ok62 rfl (sl31Has_ok hy2 (H.rS (i := 1) rfl) ⟨rfl, hI5, hS1⟩) ?_
        rintro _ w10 hE rfl
        have H := H.ext hE
        refine WL.ev rfl rfl (Ev.pickF rfl rfl rfl) (WL.nil ?_)
        refine CW.condB rfl (fun h4 => ?_) (fun h4 => ?_)
        · skip
          have hb2 := ifp h4 hb2
          refine CW.reg ?_
          refine WL.ev rfl rfl (Ev.mv rfl rfl) (WL.ev rfl rfl (Ev.mv rfl rfl) (WL.ev rfl rfl (Ev.mv rfl rfl) ?_))
          obtain ⟨x6, hx6, hb2⟩ := bd hb2
          obtain ⟨b6, cb6, hvb6, hbb6⟩ := H.ptO (i := 0) rfl hx6
          refine WL.ev rfl rfl (Ev.ixVN rfl el26 sz3 rfl hvb6 rfl (lt_of hx6)) ?_
          obtain ⟨hA3, hI6, H⟩ := elO_Int H (i := 0) rfl hx6 hbb6
          refine WL.ev rfl rfl (Ev.ld rfl ag3 rfl (hA3.cell0 rfl)) ?_
          obtain ⟨hg5, hb2⟩ := grd_some hb2
          obtain ⟨x7, hx7, hb2⟩ := bd hb2
          obtain ⟨b7, cb7, hvb7, hbb7⟩ := H.ptO (i := 3) rfl hx7
          refine WL.ev rfl rfl (Ev.ixV rfl el91 sz4 rfl hvb7 rfl hg5 (lt_of hx7)) ?_
          refine WL.stOf (i := 3) (z := true) rfl rfl rfl sz4 rfl rfl rfl (fun _ => ⟨rfl, rfl⟩) H rfl hbb7 (by simpa using lt_of hx7) fun w11 H => ?_
          refine WL.nil ?_
          refine CW.fresh [(0, .slice A0' n0' c0'), (1, .slice A1' n1' c1'), (6, .slice A3 n3 c3), (7, .slice A5 n5 c5), (8, .int .i64 s3), (9, .int .i64 (k1 : Int)), (10, .slice A7 n7 c7), (11, .int .i64 (k2 : Int)), (42, .slice A1' n1' c1'), (43, .slice A0' n0' c0'), (44, .int .i64 (k2 : Int)), (45, .pointer (some ⟨b5, ob5 + k2 * 3, none⟩)), (46, .pointer (some ⟨b5, ob5 + k2 * 3 + 0, none⟩)), (47, .agg #[.int .i64 x5.At.Node, .string x5.At.Name]), (48, .bool y2)] ⟨rfl, rfl, rfl, rfl, rfl, rfl, rfl, rfl, rfl, rfl, rfl, rfl, rfl, rfl, rfl, trivial⟩ fun σ => ?_
          have H : HL F0 [] w0 w11 [Pr.S a0 (.slice A0' n0' c0'), Pr.S a1 (.slice A1' n1' c1'), Pr.R x2 [.int .i64 x2], Pr.A b5 (ob5 + k2 * 3) [.int .i64 x5.At.Node, .string x5.At.Name, .slice A8 n8 c8], Pr.R x5 [.int .i64 x5.At.Node, .string x5.At.Name, .slice A8 n8 c8], Pr.S x5.Inputs (.slice A8 n8 c8), Pr.R x6 [.int .i64 x6]] [It.O 3 s1 (.slice A3 n3 c3), It.O 3 (s2 ++ [y1]) (.slice A5 n5 c5), It.B b1 3 [.int .i64 y1], It.O 4 (List.set s4 x6.toNat true) (.slice A7 n7 c7)] := H
          refine CW.reg ?_
          refine WL.ev rfl rfl (Ev.mv rfl rfl) (WL.ev rfl rfl (Ev.bin rfl rfl rfl (Bin.addN (a := k2) (b := 1) rfl (i64_succN hk4 (i64_nat hk2 hl1).2))) (WL.ev rfl rfl (Ev.as rfl rfl) (WL.nil ?_)))
          obtain rfl := sm hb2
          exact ⟨⟨k2 + 1, (List.set s4 x6.toNat true), (.slice A7 n7 c7)⟩, ⟨rfl, rfl, rfl, rfl, rfl, rfl, rfl, rfl, trivial⟩, ⟨hk4, hq2, H.keep 2 4⟩, Nat.sub_lt_sub_left hk4 (Nat.lt_succ_self _)⟩
        · skip
          have hb2 := ifn h4 hb2
          refine CW.skip ?_
          refine CW.reg ?_
          refine WL.ev rfl rfl (Ev.mv rfl rfl) (WL.ev rfl rfl (Ev.bin rfl rfl rfl (Bin.addN (a := k2) (b := 1) rfl (i64_succN hk4 (i64_nat hk2 hl1).2))) (WL.ev rfl rfl (Ev.as rfl rfl) (WL.nil ?_)))
          obtain rfl := sm hb2
          exact ⟨⟨k2 + 1, s4, (.slice A7 n7 c7)⟩, ⟨rfl, rfl, rfl, rfl, rfl, rfl, rfl, rfl, trivial⟩, ⟨hk4, hq2, H.keep 2 4⟩, Nat.sub_lt_sub_left hk4 (Nat.lt_succ_self _)⟩
    · skip
      obtain rfl := eachN_end hq2 (not_cast_lt h2)
      refine CW.exit ?_
      refine CW.seq (CW.reg ?_)
      refine WL.ev rfl rfl (Ev.as rfl rfl) (WL.nil ?_)
      obtain ⟨q3, hm1, hb1⟩ := bd hb1
      refine CW.seq (CW.mid (fun ρ' w => ∃ (s5 : Int), s5 = q3 ∧ agree ρ' [(0, .slice A0' n0' c0'), (1, .slice A1' n1' c1'), (6, .slice A3 n3 c3), (7, .slice A5 n5 c5), (8, .int .i64 s3), (9, .int .i64 (k1 : Int)), (12, .int .i64 s5)] ∧ I64 s5 ∧ HL F0 [] w0 w [Pr.S a0 (.slice A0' n0' c0'), Pr.S a1 (.slice A1' n1' c1')] [It.O 3 s1 (.slice A3 n3 c3), It.O 3 (s2 ++ [y1]) (.slice A5 n5 c5), It.B b1 3 [.int .i64 y1], It.O 4 s4 (.slice A7 n7 c7)]) ?_ ?_)
      · skip
        obtain ⟨m1, hq3⟩ := iterO_some.1 hm1
        refine CW.block (CW.loop (α := Nat × Int) (fun ⟨m1, s6⟩ => [(0, .slice A0' n0' c0'), (1, .slice A1' n1' c1'), (6, .slice A3 n3 c3), (7, .slice A5 n5 c5), (8, .int .i64 s3), (9, .int .i64 (k1 : Int)), (10, .slice A7 n7 c7), (12, .int .i64 s6)]) (fun ⟨m1, s6⟩ w => iterN (sAssignSlots_L3 s4) m1 s6 = some q3 ∧ I64 s6 ∧ HL F0 [] w0 w [Pr.S a0 (.slice A0' n0' c0'), Pr.S a1 (.slice A1' n1' c1')] [It.O 3 s1 (.slice A3 n3 c3), It.O 3 (s2 ++ [y1]) (.slice A5 n5 c5), It.B b1 3 [.int .i64 y1], It.O 4 s4 (.slice A7 n7 c7)]) (fun ⟨m1, s6⟩ => m1) ⟨m1, 0⟩ ⟨rfl, rfl, rfl, rfl, rfl, rfl, rfl, rfl, trivial⟩ ⟨hq3, (by decide : I64 0), H.keep 2 4⟩ ?_)
        rintro ⟨m1, s6⟩ σ w12 ⟨hq3, hI8, H⟩
        obtain ⟨m2, z3, rfl, hb3, hs1, ht1⟩ := iterN_go hq3
        refine CW.seq (CW.seq (CW.reg ?_))
        refine WL.ev rfl rfl (Ev.mv rfl rfl) (WL.ev rfl rfl (Ev.mv rfl rfl) ?_)
        obtain ⟨hg6, hb3⟩ := grd_some hb3
        obtain ⟨x8, hx8, hb3⟩ := bd hb3
        obtain ⟨b8, cb8, hvb8, hbb8⟩ := H.ptO (i := 3) rfl hx8
        refine WL.ev rfl rfl (Ev.ixV rfl el91 sz4 rfl hvb8 rfl hg6 (lt_of hx8)) ?_
        obtain ⟨hA4, H⟩ := elO_Bool H (i := 3) rfl hx8 hbb8
        refine WL.ev rfl rfl (Ev.ld rfl ag4 rfl (hA4.cell0 rfl)) (WL.nil ?_)
        refine CW.condB rfl (fun h5 => ?_) (fun h5 => ?_)
        · skip
          have hb3 := ifp h5 hb3
          refine CW.skip ?_
          refine CW.block (CW.reg ?_)
          refine WL.ev rfl rfl (Ev.mv rfl rfl) ?_
          obtain ⟨hg7, hb3⟩ := grd_some hb3
          refine WL.ev rfl rfl (Ev.bin rfl rfl rfl (Bin.add hg7)) (WL.ev rfl rfl (Ev.as rfl rfl) (WL.nil ?_))
          obtain rfl := sm hb3
          exact ⟨⟨m2, (s6 + 1)⟩, ⟨rfl, rfl, rfl, rfl, rfl, rfl, rfl, rfl, trivial⟩, ⟨hs1 _ rfl, hg7, H.keep 2 4⟩, Nat.lt_succ_self _⟩
        · skip
          have hb3 := ifn h5 hb3
          refine CW.exit ?_
          obtain rfl := sm hb3
          obtain rfl := ht1 _ rfl
          exact ⟨s6, rfl, ⟨rfl, rfl, rfl, rfl, rfl, rfl, rfl, trivial⟩, hI8, H.keep 2 4⟩
      · rintro ρ' w13 ⟨s5, rfl, hag, hI7, H⟩
        obtain ⟨σ, rfl⟩ := ofL_ex hag
        refine CW.seq (CW.reg ?_)
        refine WL.ev rfl rfl (Ev.mv rfl rfl) (WL.ev rfl rfl (Ev.mv rfl rfl) ?_)
        refine WL.lit1 rfl rfl rfl el26 sz3 ze3 rfl rfl rfl rfl rfl rfl fun b9 w14 hE hb hB => ?_
        have H := H.newB hE hb hB
        obtain ⟨hg8, hb1⟩ := grd_some hb1
        refine WL.appO (i := 0) (ys := [s5]) rfl rfl rfl el26 sz3 by3 ze3 rfl rfl rfl H rfl (fun _ => ownL.single ⟨rfl, rfl, hI7⟩) (.inr ⟨_, _, rfl, At.blk (H.rB (i := 4) rfl)⟩) hg8 fun A9 n9 c9 w15 H => ?_
        refine WL.ev rfl rfl (Ev.as rfl rfl) (WL.nil ?_)
        refine CW.reg ?_
        refine WL.ev rfl rfl (Ev.mv rfl rfl) (WL.ev rfl rfl (Ev.mv rfl rfl) ?_)
        obtain ⟨hg9, hb1⟩ := grd_some hb1
        refine WL.ev rfl rfl (Ev.bin rfl rfl rfl (Bin.add hg9)) ?_
        obtain ⟨y3, hy3, hb1⟩ := bd hb1
        refine WL.call rfl rfl rfl rfl rfl ok63 rfl (sl1Max_ok hy3 (F0 := fun _ => False) hI1 hg9) ?_
        rintro _ w16 hE ⟨rfl, hI9⟩
        have H := H.ext hE
        refine WL.ev rfl rfl (Ev.as rfl rfl) (WL.nil ?_)
        refine CW.reg ?_
        refine WL.ev rfl rfl (Ev.mv rfl rfl) (WL.ev rfl rfl (Ev.bin rfl rfl rfl (Bin.addN (a := k1) (b := 1) rfl (i64_succN hk2 hl1.2))) (WL.ev rfl rfl (Ev.as rfl rfl) (WL.nil ?_)))
        obtain rfl := sm hb1
        exact ⟨⟨k1 + 1, (s1 ++ [s5]), (s2 ++ [y1]), y3, (.slice A9 n9 c9), (.slice A5 n5 c5)⟩, ⟨rfl, rfl, rfl, rfl, rfl, rfl, trivial⟩, ⟨hk2, hq1, hI9, H.keep 2 2⟩, Nat.sub_lt_sub_left hk2 (Nat.lt_succ_self _)⟩
  · skip
    obtain rfl := eachL_end hq1 (not_cast_lt h1)
    refine CW.exit ?_
    refine CW.seq (CW.reg ?_)
    refine WL.ev rfl rfl (Ev.mv rfl rfl) (WL.ev rfl rfl (Ev.mv rfl rfl) (WL.ev rfl rfl (Ev.as rfl rfl) (WL.ev rfl rfl (Ev.as rfl rfl) (WL.nil ?_))))
    refine CW.ret ?_
    obtain rfl := sm hr
    exact ⟨_, res2 rfl rfl rfl rfl rfl, H.ext0, _, _, _, rfl, hI1, H.outM (fr' := []) [true, false] fun _ _ => trivial⟩

noncomputable def slices_Index_Instance_L1 (a1 : Instance) : Nat → Instance → Unit → Option (Unit ⊕ Int) := fun k1 x1 _ => 
  if a1 = x1 then (
  some (.inr (k1 : Int))
  ) else (
  some (.inl ())
  )
noncomputable def slices_Index_Instance_m (a0 : (List Instance)) (a1 : Instance) : Option Int :=
  (findL (slices_Index_Instance_L1 a1) 0 a0 ()).bind <| onr (fun r1 => some r1) fun _ =>
  some (-1)
theorem slices_Index_Instance_ok {a0 : (List Instance)} {a1 : Instance} {r : Int} (hr : slices_Index_Instance_m a0 a1 = some r) {F0 : Nat → Prop} {w0 : World} {z0 : Value} (ha0 : rdS F0 w0 a0 z0) {ca1 : List Value} (ha1 : rd F0 w0 a1 ca1) :
    Ret Try.prog 105 #[z0, .agg ca1.toArray] w0 (fun _ => False) fun v w => v = .int .i64 r ∧ I64 r := by
  obtain ⟨A0', n0', c0', rfl⟩ := ha0.form3
  have H := ((HL.start F0 w0).argS ha0).argR ha1
  obtain ⟨rfl, hI1, hS1, H⟩ := op_Instance H (i := 1) rfl
  refine enter Try.func105 rfl rfl rfl ?_
  refine CW.seq (CW.reg ?_)
  refine WL.boxH rfl rfl rfl rfl rfl H fun b1 w1 H => ?_
  refine WL.ev rfl rfl (Ev.as rfl rfl) (WL.nil ?_)
  refine CW.seq (CW.seq (CW.reg ?_))
  refine WL.ev rfl rfl (Ev.mv rfl rfl) ?_
  have hl1 := (H.rS (i := 0) rfl).I
  refine WL.ev rfl rfl (Ev.lenV rfl el31 rfl (H.rS (i := 0) rfl)) (WL.ev rfl rfl (Ev.mv rfl rfl) (WL.nil ?_))
  obtain ⟨q1, hq1, hr⟩ := bd hr
  refine CW.block (CW.loop (α := Nat) (fun k1 => [(0, .slice A0' n0' c0'), (3, .pointer (some ⟨b1, 0, none⟩)), (7, .int .i64 (a0.length : Int)), (8, .int .i64 (k1 : Int))]) (fun k1 w => k1 ≤ a0.length ∧ findL (slices_Index_Instance_L1 a1) k1 (a0.drop k1) () = some q1 ∧ HL F0 [] w0 w [Pr.S a0 (.slice A0' n0' c0'), Pr.R a1 [.int .i64 a1.Node, .string a1.Name]] [It.B b1 93 [.int .i64 a1.Node, .string a1.Name]]) (fun k1 => a0.length - k1) 0 ⟨rfl, rfl, rfl, rfl, trivial⟩ ⟨Nat.zero_le _, hq1, H.keep 2 1⟩ ?_)
  rintro k1 σ w2 ⟨hk1, hq1, H⟩
  refine CW.seq (CW.reg ?_)
  refine WL.ev rfl rfl (Ev.bin rfl rfl rfl Bin.lss) (WL.nil ?_)
  refine CW.seq (CW.condD rfl (fun h1 => ?_) (fun h1 => ?_))
  · skip
    have hk2 := cast_lt h1
    obtain ⟨x1, z1, hx1, hb1, hs1, ht1⟩ := findL_go hq1 hk2
    refine CW.skip ?_
    refine CW.seq (CW.block (CW.seq (CW.reg ?_)))
    refine WL.ev rfl rfl (Ev.mv rfl rfl) (WL.ev rfl rfl (Ev.as rfl rfl) (WL.nil ?_))
    refine CW.seq (CW.quiet hmix (by kernel_rfl) ?_)
    refine QL.ev rfl rfl (fun _ hq => Ev.lda rfl ag93 sz93 rfl (At.blk ((H.ext hq).rB (i := 0) rfl)) rfl) (QL.ev rfl rfl (fun _ _ => Ev.mv rfl rfl) (QL.ev rfl rfl (fun _ _ => Ev.mv rfl rfl) ?_))
    obtain ⟨b2, ob2, cb2, hvb2, hI2, hS2, H⟩ := ixS_Instance H (i := 0) rfl hx1
    refine QL.ev rfl rfl (fun _ _ => Ev.ixVN rfl el31 sz93 rfl hvb2 rfl (lt_of hx1)) (QL.ev rfl rfl (fun _ hq => Ev.lda rfl ag93 sz93 rfl ((H.ext hq).rA (i := 2) rfl) rfl) (QL.ev rfl rfl (fun _ _ => Ev.bin rfl rfl rfl (Bin.eqlF fl93 (Instance_eqF a1 x1))) (QL.nil (fun w3 hE => ?_))))
    have H := H.ext hE
    refine CW.condD rfl (fun h2 => ?_) (fun h2 => ?_)
    · skip
      have hb1 := ifp h2 hb1
      refine CW.seq (CW.reg ?_)
      refine WL.ev rfl rfl (Ev.mv rfl rfl) (WL.ev rfl rfl (Ev.as rfl rfl) (WL.nil ?_))
      refine CW.ret ?_
      obtain rfl := sm hb1
      obtain rfl := ht1 _ rfl
      obtain rfl := sm hr
      exact ⟨_, res1 rfl rfl rfl, H.ext0, rfl, (i64_nat hk2 hl1)⟩
    · skip
      have hb1 := ifn h2 hb1
      refine CW.skip ?_
      refine CW.reg ?_
      refine WL.ev rfl rfl (Ev.bin rfl rfl rfl (Bin.addN (a := k1) (b := 1) rfl (i64_succN hk2 hl1.2))) (WL.ev rfl rfl (Ev.mv rfl rfl) (WL.nil ?_))
      obtain rfl := sm hb1
      have hq1 := hs1 _ rfl
      exact ⟨(k1 + 1), ⟨rfl, rfl, rfl, rfl, trivial⟩, ⟨hk2, hq1, H.keep 2 1⟩, Nat.sub_lt_sub_left hk2 (Nat.lt_succ_self _)⟩
  · skip
    obtain rfl := findL_end hq1 (not_cast_lt h1)
    refine CW.exit ?_
    refine CW.seq (CW.reg ?_)
    refine WL.ev rfl rfl (Ev.as rfl rfl) (WL.nil ?_)
    refine CW.ret ?_
    obtain rfl := sm hr
    exact ⟨_, res1 rfl rfl rfl, H.ext0, rfl, (by decide : I64 (-1))⟩

noncomputable def slices_Contains_Instance_m (a0 : (List Instance)) (a1 : Instance) : Option Bool :=
  (slices_Index_Instance_m a0 a1).bind fun y1 =>
  some (decide (0 ≤ y1))
theorem slices_Contains_Instance_ok {a0 : (List Instance)} {a1 : Instance} {r : Bool} (hr : slices_Contains_Instance_m a0 a1 = some r) {F0 : Nat → Prop} {w0 : World} {z0 : Value} (ha0 : rdS F0 w0 a0 z0) {ca1 : List Value} (ha1 : rd F0 w0 a1 ca1) :
    Ret Try.prog 67 #[z0, .agg ca1.toArray] w0 (fun _ => False) fun v w => v = .bool r := by
  obtain ⟨A0', n0', c0', rfl⟩ := ha0.form3
  have H := ((HL.start F0 w0).argS ha0).argR ha1
  obtain ⟨rfl, hI1, hS1, H⟩ := op_Instance H (i := 1) rfl
  refine enter Try.func67 rfl rfl rfl ?_
  refine CW.seq (CW.reg ?_)
  refine WL.boxH rfl rfl rfl rfl rfl H fun b1 w1 H => ?_
  refine WL.ev rfl rfl (Ev.as rfl rfl) (WL.nil ?_)
  refine CW.seq (CW.reg ?_)
  refine WL.ev rfl rfl (Ev.mv rfl rfl) (WL.ev rfl rfl (Ev.lda rfl ag93 sz93 rfl (At.blk (H.rB (i := 0) rfl)) rfl) ?_)
  obtain ⟨y1, hy1, hr⟩ := bd hr
  refine WL.call rfl rfl rfl rfl rfl ok105 rfl (slices_Index_Instance_ok hy1 (H.rS (i := 0) rfl) ⟨rfl, hI1, hS1⟩) ?_
  rintro _ w2 hE ⟨rfl, hI2⟩
  have H := H.ext hE
  refine WL.ev rfl rfl (Ev.bin rfl rfl rfl Bin.geq) (WL.ev rfl rfl (Ev.as rfl rfl) (WL.nil ?_))
  refine CW.ret ?_
  obtain rfl := sm hr
  exact ⟨_, res1 rfl rfl rfl, H.ext0, rfl⟩

noncomputable def ilastUse_L1 (a0 : (List TraceStep)) (a1 : Int) : Int → Option (Int ⊕ (Unit ⊕ Int)) := fun s1 => 
  if a1 < s1 then (
  grd (0 ≤ s1) <|
  (a0[s1.toNat]?).bind fun x1 =>
  grd (0 ≤ a1) <|
  (a0[a1.toNat]?).bind fun x2 =>
  (slices_Contains_Instance_m x1.Inputs x2.At).bind fun y1 =>
  if y1 = true then (
  some (.inr (.inr s1))
  ) else (
  grd (I64 (s1 - 1)) <|
  some (.inl (s1 - 1))
  )
  ) else (
  some (.inr (.inl ()))
  )
noncomputable def ilastUse_m (a0 : (List TraceStep)) (a1 : Int) : Option Int :=
  (
  iterO (ilastUse_L1 a0 a1) ((a0.length : Int) - 1)
  ).bind <| onr (fun r1 => some r1) fun () =>
  some a1
theorem ilastUse_ok {a0 : (List TraceStep)} {a1 : Int} {r : Int} (hr : ilastUse_m a0 a1 = some r) {F0 : Nat → Prop} {w0 : World} {z0 : Value} (ha0 : rdS F0 w0 a0 z0) (ha1 : I64 a1) :
    Ret Try.prog 66 #[z0, .int .i64 a1] w0 (fun _ => False) fun v w => v = .int .i64 r ∧ I64 r := by
  obtain ⟨A0', n0', c0', rfl⟩ := ha0.form3
  have H := (HL.start F0 w0).argS ha0
  refine enter Try.func66 rfl rfl rfl ?_
  refine CW.seq (CW.reg ?_)
  refine WL.ev rfl rfl (Ev.as rfl rfl) (WL.nil ?_)
  refine CW.seq (CW.seq (CW.reg ?_))
  refine WL.ev rfl rfl (Ev.mv rfl rfl) ?_
  have hl1 := (H.rS (i := 0) rfl).I
  refine WL.ev rfl rfl (Ev.lenV rfl el29 rfl (H.rS (i := 0) rfl)) (WL.ev rfl rfl (Ev.bin rfl rfl rfl (Bin.sub (i64_sub (k := 1) hl1 (by decide)))) (WL.ev rfl rfl (Ev.as rfl rfl) (WL.nil ?_)))
  obtain ⟨q1, hm1, hr⟩ := bd hr
  refine CW.mid (fun ρ' w => q1 = .inl () ∧ agree ρ' [(1, .int .i64 a1)] ∧ HL F0 [] w0 w [Pr.S a0 (.slice A0' n0' c0')] []) ?_ ?_
  · skip
    obtain ⟨m1, hq1⟩ := iterO_some.1 hm1
    refine CW.block (CW.loop (α := Nat × Int) (fun ⟨m1, s1⟩ => [(0, .slice A0' n0' c0'), (1, .int .i64 a1), (5, .int .i64 s1)]) (fun ⟨m1, s1⟩ w => iterN (ilastUse_L1 a0 a1) m1 s1 = some q1 ∧ I64 s1 ∧ HL F0 [] w0 w [Pr.S a0 (.slice A0' n0' c0')] []) (fun ⟨m1, s1⟩ => m1) ⟨m1, ((a0.length : Int) - 1)⟩ ⟨rfl, rfl, rfl, trivial⟩ ⟨hq1, (i64_sub (k := 1) hl1 (by decide)), H.keep 1 0⟩ ?_)
    rintro ⟨m1, s1⟩ σ w1 ⟨hq1, hI1, H⟩
    obtain ⟨m2, z1, rfl, hb1, hs1, ht1⟩ := iterN_go hq1
    refine CW.seq (CW.seq (CW.reg ?_))
    refine WL.ev rfl rfl (Ev.mv rfl rfl) (WL.ev rfl rfl (Ev.mv rfl rfl) (WL.ev rfl rfl (Ev.bin rfl rfl rfl Bin.gtr) (WL.nil ?_)))
    refine CW.condD rfl (fun h1 => ?_) (fun h1 => ?_)
    · skip
      have hb1 := ifp h1 hb1
      refine CW.skip ?_
      refine CW.seq (CW.block (CW.seq (CW.quiet hmix (by kernel_rfl) ?_)))
      refine QL.ev rfl rfl (fun _ _ => Ev.mv rfl rfl) (QL.ev rfl rfl (fun _ _ => Ev.mv rfl rfl) ?_)
      obtain ⟨hg1, hb1⟩ := grd_some hb1
      obtain ⟨x1, hx1, hb1⟩ := bd hb1
      obtain ⟨b1, ob1, cb1, A1, n1, c1, hvb1, hI2, hS1, H⟩ := ixS_TraceStep H (i := 0) rfl hx1
      refine QL.ev rfl rfl (fun _ _ => Ev.ixV rfl el29 sz95 rfl hvb1 rfl hg1 (lt_of hx1)) (QL.ev rfl rfl (fun _ _ => Ev.fa rfl fo95_1 rfl) (QL.ev rfl rfl (fun _ hq => Ev.ld rfl ag31 rfl (((H.ext hq).rA (i := 1) rfl).cell rfl)) (QL.ev rfl rfl (fun _ _ => Ev.mv rfl rfl) (QL.ev rfl rfl (fun _ _ => Ev.mv rfl rfl) ?_))))
      obtain ⟨hg2, hb1⟩ := grd_some hb1
      obtain ⟨x2, hx2, hb1⟩ := bd hb1
      obtain ⟨b2, ob2, cb2, A2, n2, c2, hvb2, hI3, hS2, H⟩ := ixS_TraceStep H (i := 0) rfl hx2
      refine QL.ev rfl rfl (fun _ _ => Ev.ixV rfl el29 sz95 rfl hvb2 rfl hg2 (lt_of hx2)) (QL.ev rfl rfl (fun _ _ => Ev.fa rfl fo95_0 rfl) (QL.ev rfl rfl (fun _ hq => Ev.lda rfl ag93 sz93 rfl (((H.ext hq).rA (i := 4) rfl).part 0 2) rfl) ?_))
      obtain ⟨y1, hy1, hb1⟩ := bd hb1
      refine QL.call rfl rfl rfl rfl rfl ok67 rfl (fun _ hq => slices_Contains_Instance_ok hy1 ((H.ext hq).rS (i := 3) rfl) ⟨rfl, hI3, hS2⟩) ?_
      refine QL.nil (fun w2 hE => ?_)
      have H := H.ext hE
      refine CW.condB rfl (fun h2 => ?_) (fun h2 => ?_)
      · skip
        have hb1 := ifp h2 hb1
        refine CW.seq (CW.reg ?_)
        refine WL.ev rfl rfl (Ev.mv rfl rfl) (WL.ev rfl rfl (Ev.as rfl rfl) (WL.nil ?_))
        refine CW.ret ?_
        obtain rfl := sm hb1
        obtain rfl := ht1 _ rfl
        obtain rfl := sm hr
        exact ⟨_, res1 rfl rfl rfl, H.ext0, rfl, hI1⟩
      · skip
        have hb1 := ifn h2 hb1
        refine CW.skip ?_
        refine CW.reg ?_
        refine WL.ev rfl rfl (Ev.mv rfl rfl) ?_
        obtain ⟨hg3, hb1⟩ := grd_some hb1
        refine WL.ev rfl rfl (Ev.bin rfl rfl rfl (Bin.sub hg3)) (WL.ev rfl rfl (Ev.as rfl rfl) (WL.nil ?_))
        obtain rfl := sm hb1
        exact ⟨⟨m2, (s1 - 1)⟩, ⟨rfl, rfl, rfl, trivial⟩, ⟨hs1 _ rfl, hg3, H.keep 1 0⟩, Nat.lt_succ_self _⟩
    · skip
      have hb1 := ifn h1 hb1
      refine CW.exit ?_
      obtain rfl := sm hb1
      obtain rfl := ht1 _ rfl
      exact ⟨rfl, ⟨rfl, trivial⟩, H.keep 1 0⟩
  · rintro ρ' w3 ⟨rfl, hag, H⟩
    obtain ⟨σ, rfl⟩ := ofL_ex hag
    refine CW.seq (CW.reg ?_)
    refine WL.ev rfl rfl (Ev.mv rfl rfl) (WL.ev rfl rfl (Ev.as rfl rfl) (WL.nil ?_))
    refine CW.ret ?_
    obtain rfl := sm hr
    exact ⟨_, res1 rfl rfl rfl, H.ext0, rfl, ha1⟩

noncomputable def iAssignSlots_1_m (a0 : Int) (a1 : Int) : Option Bool :=
  some (decide (a0 ≤ a1))
theorem iAssignSlots_1_ok {a0 : Int} {a1 : Int} {r : Bool} (hr : iAssignSlots_1_m a0 a1 = some r) {F0 : Nat → Prop} {w0 : World} (ha0 : I64 a0) {b1p : Nat} (ha1 : CapP F0 w0 b1p a1) :
    Ret Try.prog 69 #[.int .i64 a0, .pointer (some ⟨b1p, 0, none⟩)] w0 (fun _ => False) fun v w => v = .bool r := by
  have H := HL.start F0 w0
  obtain ⟨cpa1, H⟩ := H.argP ha1
  obtain ⟨rfl, hI1, H⟩ := op_Int H (i := 1) rfl
  refine enter Try.func69 rfl rfl rfl ?_
  refine CW.seq (CW.reg ?_)
  refine WL.ev rfl rfl (Ev.as rfl rfl) (WL.nil ?_)
  refine CW.seq (CW.reg ?_)
  refine WL.ev rfl rfl (Ev.mv rfl rfl) (WL.ev rfl rfl (Ev.ld rfl ag3 rfl ((H.rA (i := 0) rfl).cell0 rfl)) (WL.ev rfl rfl (Ev.bin rfl rfl rfl Bin.leq) (WL.ev rfl rfl (Ev.as rfl rfl) (WL.nil ?_))))
  refine CW.ret ?_
  obtain rfl := sm hr
  exact ⟨_, res1 rfl rfl rfl, H.ext0, rfl⟩

noncomputable def slices_IndexFunc_int_iAssignSlots_1_L1 (a1_0 : Int) : Nat → Int → Unit → Option (Unit ⊕ Int) := fun k1 x1 _ => 
  (iAssignSlots_1_m x1 a1_0).bind fun y1 =>
  if y1 = true then (
  some (.inr (k1 : Int))
  ) else (
  some (.inl ())
  )
noncomputable def slices_IndexFunc_int_iAssignSlots_1_m (a0 : (List Int)) (a1_0 : Int) : Option Int :=
  (findL (slices_IndexFunc_int_iAssignSlots_1_L1 a1_0) 0 a0 ()).bind <| onr (fun r1 => some r1) fun _ =>
  some (-1)
theorem slices_IndexFunc_int_iAssignSlots_1_ok {a0 : (List Int)} {a1_0 : Int} {r : Int} (hr : slices_IndexFunc_int_iAssignSlots_1_m a0 a1_0 = some r) {F0 : Nat → Prop} {w0 : World} {z0 : Value} (ha0 : rdS F0 w0 a0 z0) {b1_0p : Nat} (ha1_0 : CapP F0 w0 b1_0p a1_0) :
    Ret Try.prog 68 #[z0, .func (.func 69) #[] #[.pointer (some ⟨b1_0p, 0, none⟩)]] w0 (fun _ => False) fun v w => v = .int .i64 r ∧ I64 r := by
  obtain ⟨A0', n0', c0', rfl⟩ := ha0.form3
  have H := (HL.start F0 w0).argS ha0
  obtain ⟨cpa1_0, H⟩ := H.argP ha1_0
  obtain ⟨rfl, hI1, H⟩ := op_Int H (i := 2) rfl
  refine enter Try.func68 rfl rfl rfl ?_
  refine CW.seq (CW.reg ?_)
  refine WL.ev rfl rfl (Ev.as rfl rfl) (WL.nil ?_)
  refine CW.seq (CW.seq (CW.reg ?_))
  refine WL.ev rfl rfl (Ev.mv rfl rfl) ?_
  have hl1 := (H.rS (i := 0) rfl).I
  refine WL.ev rfl rfl (Ev.lenV rfl el26 rfl (H.rS (i := 0) rfl)) (WL.ev rfl rfl (Ev.mv rfl rfl) (WL.nil ?_))
  obtain ⟨q1, hq1, hr⟩ := bd hr
  refine CW.block (CW.loop (α := Nat) (fun k1 => [(0, .slice A0' n0' c0'), (1, .func (.func 69) #[] #[.pointer (some ⟨b1_0p, 0, none⟩)]), (7, .int .i64 (a0.length : Int)), (8, .int .i64 (k1 : Int))]) (fun k1 w => k1 ≤ a0.length ∧ findL (slices_IndexFunc_int_iAssignSlots_1_L1 a1_0) k1 (a0.drop k1) () = some q1 ∧ HL F0 [] w0 w [Pr.S a0 (.slice A0' n0' c0'), Pr.A b1_0p 0 [.int .i64 a1_0], Pr.R a1_0 [.int .i64 a1_0]] []) (fun k1 => a0.length - k1) 0 ⟨rfl, rfl, rfl, rfl, trivial⟩ ⟨Nat.zero_le _, hq1, H.keep 3 0⟩ ?_)
  rintro k1 σ w1 ⟨hk1, hq1, H⟩
  refine CW.seq (CW.reg ?_)
  refine WL.ev rfl rfl (Ev.bin rfl rfl rfl Bin.lss) (WL.nil ?_)
  refine CW.seq (CW.condD rfl (fun h1 => ?_) (fun h1 => ?_))
  · skip
    have hk2 := cast_lt h1
    obtain ⟨x1, z1, hx1, hb1, hs1, ht1⟩ := findL_go hq1 hk2
    refine CW.skip ?_
    refine CW.seq (CW.block (CW.seq (CW.reg ?_)))
    refine WL.ev rfl rfl (Ev.mv rfl rfl) (WL.ev rfl rfl (Ev.as rfl rfl) (WL.nil ?_))
    refine CW.seq (CW.reg ?_)
    refine WL.ev rfl rfl (Ev.mv rfl rfl) (WL.ev rfl rfl (Ev.mv rfl rfl) (WL.ev rfl rfl (Ev.mv rfl rfl) ?_))
    obtain ⟨b1, ob1, cb1, hvb1, hI2, H⟩ := ixS_Int H (i := 0) rfl hx1
    refine WL.ev rfl rfl (Ev.ixVN rfl el26 sz3 rfl hvb1 rfl (lt_of hx1)) (WL.ev rfl rfl (Ev.ld rfl ag3 rfl ((H.rA (i := 3) rfl).cell0 rfl)) ?_)
    obtain ⟨y1, hy1, hb1⟩ := bd hb1
    refine WL.call rfl rfl rfl rfl rfl ok69 rfl (iAssignSlots_1_ok hy1 (F0 := fun q => q < _) hI2 ⟨H.rAl (i := 1) rfl, _, H.rA (i := 1) rfl, ⟨rfl, hI1⟩⟩) ?_
    rintro _ w2 hE rfl
    have H := H.ext hE
    refine WL.nil ?_
    refine CW.condB rfl (fun h2 => ?_) (fun h2 => ?_)
    · skip
      have hb1 := ifp h2 hb1
      refine CW.seq (CW.reg ?_)
      refine WL.ev rfl rfl (Ev.mv rfl rfl) (WL.ev rfl rfl (Ev.as rfl rfl) (WL.nil ?_))
      refine CW.ret ?_
      obtain rfl := sm hb1
      obtain rfl := ht1 _ rfl
      obtain rfl := sm hr
      exact ⟨_, res1 rfl rfl rfl, H.ext0, rfl, (i64_nat hk2 hl1)⟩
    · skip
      have hb1 := ifn h2 hb1
      refine CW.skip ?_
      refine CW.reg ?_
      refine WL.ev rfl rfl (Ev.bin rfl rfl rfl (Bin.addN (a := k1) (b := 1) rfl (i64_succN hk2 hl1.2))) (WL.ev rfl rfl (Ev.mv rfl rfl) (WL.nil ?_))
      obtain rfl := sm hb1
      have hq1 := hs1 _ rfl
      exact ⟨(k1 + 1), ⟨rfl, rfl, rfl, rfl, trivial⟩, ⟨hk2, hq1, H.keep 3 0⟩, Nat.sub_lt_sub_left hk2 (Nat.lt_succ_self _)⟩
  · skip
    obtain rfl := findL_end hq1 (not_cast_lt h1)
    refine CW.exit ?_
    refine CW.seq (CW.reg ?_)
    refine WL.ev rfl rfl (Ev.as rfl rfl) (WL.nil ?_)
    refine CW.ret ?_
    obtain rfl := sm hr
    exact ⟨_, res1 rfl rfl rfl, H.ext0, rfl, (by decide : I64 (-1))⟩

noncomputable def iAssignSlots_L1 (a0 : (List TraceStep)) (a1 : (List Instance)) : Nat → TraceStep → ((List Int) × (List Int)) → Option ((List Int) × (List Int)) := fun k1 x1 (s1, s2) => 
  (ilastUse_m a0 (k1 : Int)).bind fun y1 =>
  (slices_Contains_Instance_m a1 x1.At).bind fun y2 =>
  if y2 = true then (
  (slices_IndexFunc_int_iAssignSlots_1_m s2 (k1 : Int)).bind fun y3 =>
  if y3 < 0 then (
  grd (((s2.length : Int) + 1) * 8 ≤ 140737488355328 ∧ (s2.length : Int) + 1 ≤ 9223372036854775807) <|
  grd (((s1.length : Int) + 1) * 8 ≤ 140737488355328 ∧ (s1.length : Int) + 1 ≤ 9223372036854775807) <|
  ((s2 ++ [0])[s2.length]?).bind fun x2 =>
  some ((s1 ++ [(s2.length : Int)]), (List.set (s2 ++ [0]) s2.length (a0.length : Int)))
  ) else (
  grd (((s1.length : Int) + 1) * 8 ≤ 140737488355328 ∧ (s1.length : Int) + 1 ≤ 9223372036854775807) <|
  grd (0 ≤ y3) <|
  (s2[y3.toNat]?).bind fun x3 =>
  some ((s1 ++ [y3]), (List.set s2 y3.toNat (a0.length : Int)))
  )
  ) else (
  (slices_IndexFunc_int_iAssignSlots_1_m s2 (k1 : Int)).bind fun y4 =>
  if y4 < 0 then (
  grd (((s2.length : Int) + 1) * 8 ≤ 140737488355328 ∧ (s2.length : Int) + 1 ≤ 9223372036854775807) <|
  grd (((s1.length : Int) + 1) * 8 ≤ 140737488355328 ∧ (s1.length : Int) + 1 ≤ 9223372036854775807) <|
  ((s2 ++ [0])[s2.length]?).bind fun x4 =>
  some ((s1 ++ [(s2.length : Int)]), (List.set (s2 ++ [0]) s2.length y1))
  ) else (
  grd (((s1.length : Int) + 1) * 8 ≤ 140737488355328 ∧ (s1.length : Int) + 1 ≤ 9223372036854775807) <|
  grd (0 ≤ y4) <|
  (s2[y4.toNat]?).bind fun x5 =>
  some ((s1 ++ [y4]), (List.set s2 y4.toNat y1))
  )
  )
noncomputable def iAssignSlots_m (a0 : (List TraceStep)) (a1 : (List Instance)) : Option ((List Int) × Int) :=
  (eachL (iAssignSlots_L1 a0 a1) 0 a0 (([] : List Int), ([] : List Int))).bind fun (s1, s2) =>
  some (s1, (s2.length : Int))
theorem iAssignSlots_ok {a0 : (List TraceStep)} {a1 : (List Instance)} {r : ((List Int) × Int)} (hr : iAssignSlots_m a0 a1 = some r) {F0 : Nat → Prop} {w0 : World} {z0 : Value} (ha0 : rdS F0 w0 a0 z0) {z1 : Value} (ha1 : rdS F0 w0 a1 z1) :
    Ret Try.prog 13 #[z0, z1] w0 (fun _ => False) fun v w => ∃ A0 : Option Addr, ∃ n0 c0 : Nat, v = .tuple #[(.slice A0 n0 c0), .int .i64 r.2] ∧ I64 r.2 ∧ HL F0 [] w0 w [] [It.O 3 r.1 (.slice A0 n0 c0)] := by
  obtain ⟨A0', n0', c0', rfl⟩ := ha0.form3
  obtain ⟨A1', n1', c1', rfl⟩ := ha1.form3
  have H := ((HL.start F0 w0).argS ha0).argS ha1
  refine enter Try.func13 rfl rfl rfl ?_
  refine CW.seq (CW.reg ?_)
  refine WL.ev rfl rfl (Ev.as rfl rfl) (WL.ev rfl rfl (Ev.as rfl rfl) (WL.nil ?_))
  refine CW.seq (CW.reg ?_)
  refine WL.lit0H (α := Int) rfl rfl rfl el26 sz3 H fun A1 n1 c1 w1 H => ?_
  refine WL.lit0H (α := Int) rfl rfl rfl el26 sz3 H fun A2 n2 c2 w2 H => ?_
  refine WL.ev rfl rfl (Ev.as rfl rfl) (WL.ev rfl rfl (Ev.as rfl rfl) (WL.nil ?_))
  refine CW.seq (CW.seq (CW.reg ?_))
  refine WL.ev rfl rfl (Ev.mv rfl rfl) ?_
  have hl1 := (H.rS (i := 0) rfl).I
  refine WL.ev rfl rfl (Ev.lenV rfl el29 rfl (H.rS (i := 0) rfl)) (WL.ev rfl rfl (Ev.mv rfl rfl) (WL.nil ?_))
  obtain ⟨q1, hq1, hr⟩ := bd hr
  refine CW.block (CW.loop (α := Nat × (List Int) × (List Int) × Value × Value) (fun ⟨k1, s1, s2, v1, v2⟩ => [(0, .slice A0' n0' c0'), (1, .slice A1' n1' c1'), (6, v1), (7, v2), (14, .slice A0' n0' c0'), (15, .int .i64 (a0.length : Int)), (16, .int .i64 (k1 : Int))]) (fun ⟨k1, s1, s2, v1, v2⟩ w => k1 ≤ a0.length ∧ eachL (iAssignSlots_L1 a0 a1) k1 (a0.drop k1) (s1, s2) = some q1 ∧ HL F0 [] w0 w [Pr.S a0 (.slice A0' n0' c0'), Pr.S a1 (.slice A1' n1' c1')] [It.O 3 s1 v1, It.O 3 s2 v2]) (fun ⟨k1, s1, s2, v1, v2⟩ => a0.length - k1) ⟨0, ([] : List Int), ([] : List Int), (.slice A1 n1 c1), (.slice A2 n2 c2)⟩ ⟨rfl, rfl, rfl, rfl, rfl, rfl, rfl, trivial⟩ ⟨Nat.zero_le _, hq1, H.keep 2 2⟩ ?_)
  rintro ⟨k1, s1, s2, v1, v2⟩ σ w3 ⟨hk1, hq1, H⟩
  obtain ⟨A3, n3, c3, rfl⟩ := (H.rO (i := 0) rfl).form3
  obtain ⟨A4, n4, c4, rfl⟩ := (H.rO (i := 1) rfl).form3
  refine CW.seq (CW.reg ?_)
  refine WL.ev rfl rfl (Ev.bin rfl rfl rfl Bin.lss) (WL.nil ?_)
  refine CW.seq (CW.condD rfl (fun h1 => ?_) (fun h1 => ?_))
  · skip
    have hk2 := cast_lt h1
    obtain ⟨x1, z1, hx1, hb1, hq1⟩ := eachL_go hq1 hk2
    refine CW.skip ?_
    refine CW.seq (CW.block (CW.seq (CW.reg ?_)))
    refine WL.ev rfl rfl (Ev.mv rfl rfl) ?_
    obtain ⟨b1, ob1, cb1, A5, n5, c5, hvb1, hI1, hS1, H⟩ := ixS_TraceStep H (i := 0) rfl hx1
    refine WL.ev rfl rfl (Ev.ixVN rfl el29 sz95 rfl hvb1 rfl (lt_of hx1)) (WL.ev rfl rfl (Ev.lda rfl ag95 sz95 rfl (H.rA (i := 2) rfl) rfl) ?_)
    refine WL.allocH rfl rfl rfl ze3 H fun b2 w4 H => ?_
    refine WL.allocH rfl rfl rfl ze95 H fun b3 w5 H => ?_
    refine WL.stB (i := 2) rfl rfl rfl sz3 rfl rfl rfl rfl (all1 rfl all0) H rfl rfl rfl fun w6 H => ?_
    refine WL.stB (i := 3) rfl rfl rfl sz95 rfl rfl rfl rfl (all1 rfl (all1 rfl (all1 rfl all0))) H rfl rfl rfl fun w7 H => ?_
    refine WL.nil ?_
    refine CW.seq (CW.reg ?_)
    refine WL.ev rfl rfl (Ev.mv rfl rfl) (WL.ev rfl rfl (Ev.ld rfl ag3 rfl ((H.rB (i := 2) rfl).cell rfl)) ?_)
    obtain ⟨y1, hy1, hb1⟩ := bd hb1
    refine WL.call rfl rfl rfl rfl rfl ok66 rfl (ilastUse_ok hy1 (H.rS (i := 0) rfl) (i64_nat hk2 hl1)) ?_
    rintro _ w8 hE ⟨rfl, hI2⟩
    have H := H.ext hE
    refine WL.ev rfl rfl (Ev.as rfl rfl) (WL.nil ?_)
    refine CW.seq (CW.seq (CW.reg ?_))
    refine WL.ev rfl rfl (Ev.mv rfl rfl) (WL.ev rfl rfl (Ev.fa rfl fo95_0 rfl) (WL.ev rfl rfl (Ev.lda rfl ag93 sz93 rfl (Blk.part (H.rB (i := 3) rfl) 0 2) rfl) ?_))
    obtain ⟨y2, hy2, hb1⟩ := bd hb1
    refine WL.call rfl rfl rfl rfl rfl ok67 rfl (slices_Contains_Instance_ok hy2 (H.rS (i := 1) rfl) ⟨rfl, hI1, hS1⟩) ?_
    rintro _ w9 hE rfl
    have H := H.ext hE
    refine WL.nil ?_
    refine CW.condB rfl (fun h2 => ?_) (fun h2 => ?_)
    · skip
      have hb1 := ifp h2 hb1
      refine CW.reg ?_
      refine WL.ev rfl rfl (Ev.mv rfl rfl) (WL.ev rfl rfl (Ev.lenV rfl el29 rfl (H.rS (i := 0) rfl)) (WL.ev rfl rfl (Ev.as rfl rfl) (WL.nil ?_)))
      refine CW.seq (CW.reg ?_)
      refine WL.ev rfl rfl (Ev.mv rfl rfl) (WL.ev rfl rfl (Ev.mkfL rfl rfl rfl) ?_)
      obtain ⟨y3, hy3, hb1⟩ := bd hb1
      refine WL.call rfl rfl rfl rfl rfl ok68 rfl (slices_IndexFunc_int_iAssignSlots_1_ok hy3 (H.rO (i := 1) rfl) ⟨(H.rB (i := 2) rfl).lt, _, At.blk (H.rB (i := 2) rfl), ⟨rfl, (i64_nat hk2 hl1)⟩⟩) ?_
      rintro _ w10 hE ⟨rfl, hI3⟩
      have H := H.ext hE
      refine WL.ev rfl rfl (Ev.as rfl rfl) (WL.nil ?_)
      refine CW.seq (CW.seq ?_)
      refine CW.fresh [(0, .slice A0' n0' c0'), (1, .slice A1' n1' c1'), (6, .slice A3 n3 c3), (7, .slice A4 n4 c4), (10, .int .i64 (a0.length : Int)), (11, .int .i64 y3), (14, .slice A0' n0' c0'), (15, .int .i64 (a0.length : Int)), (16, .int .i64 (k1 : Int))] ⟨rfl, rfl, rfl, rfl, rfl, rfl, rfl, rfl, rfl, trivial⟩ fun σ => ?_
      have H : HL F0 [] w0 w10 [Pr.S a0 (.slice A0' n0' c0'), Pr.S a1 (.slice A1' n1' c1'), Pr.A b1 (ob1 + k1 * 3) [.int .i64 x1.At.Node, .string x1.At.Name, .slice A5 n5 c5], Pr.R x1 [.int .i64 x1.At.Node, .string x1.At.Name, .slice A5 n5 c5], Pr.S x1.Inputs (.slice A5 n5 c5)] [It.O 3 s1 (.slice A3 n3 c3), It.O 3 s2 (.slice A4 n4 c4), It.B b2 3 [.int .i64 (k1 : Int)], It.B b3 95 [.int .i64 x1.At.Node, .string x1.At.Name, .slice A5 n5 c5]] := H
      refine CW.reg ?_
      refine WL.ev rfl rfl (Ev.mv rfl rfl) (WL.ev rfl rfl (Ev.bin rfl rfl rfl Bin.lss) (WL.nil ?_))
      refine CW.condD rfl (fun h3 => ?_) (fun h3 => ?_)
      · skip
        have hb1 := ifp h3 hb1
        refine CW.reg ?_
        refine WL.ev rfl rfl (Ev.mv rfl rfl) ?_
        have hl2 := (H.rO (i := 1) rfl).I
        refine WL.ev rfl rfl (Ev.lenV rfl el26 rfl (H.rO (i := 1) rfl)) (WL.ev rfl rfl (Ev.mv rfl rfl) ?_)
        refine WL.lit1 rfl rfl rfl el26 sz3 ze3 rfl rfl rfl rfl rfl rfl fun b4 w11 hE hb hB => ?_
        have H := H.newB hE hb hB
        obtain ⟨hg1, hb1⟩ := grd_some hb1
        refine WL.appO (i := 1) (ys := [0]) rfl rfl rfl el26 sz3 by3 ze3 rfl rfl rfl H rfl (fun _ => ownL.single ⟨rfl, rfl, (by decide : I64 0)⟩) (.inr ⟨_, _, rfl, At.blk (H.rB (i := 4) rfl)⟩) hg1 fun A6 n6 c6 w12 H => ?_
        refine WL.ev rfl rfl (Ev.as rfl rfl) (WL.ev rfl rfl (Ev.as rfl rfl) (WL.nil ?_))
        refine CW.reg ?_
        refine WL.ev rfl rfl (Ev.mv rfl rfl) (WL.ev rfl rfl (Ev.mv rfl rfl) (WL.ev rfl rfl (Ev.mv rfl rfl) (WL.ev rfl rfl (Ev.mv rfl rfl) ?_)))
        refine WL.lit1 rfl rfl rfl el26 sz3 ze3 rfl rfl rfl rfl rfl rfl fun b5 w13 hE hb hB => ?_
        have H := H.newB hE hb hB
        obtain ⟨hg2, hb1⟩ := grd_some hb1
        refine WL.appO (i := 0) (ys := [(s2.length : Int)]) rfl rfl rfl el26 sz3 by3 ze3 rfl rfl rfl H rfl (fun _ => ownL.single ⟨rfl, rfl, hl2⟩) (.inr ⟨_, _, rfl, At.blk (H.rB (i := 5) rfl)⟩) hg2 fun A7 n7 c7 w14 H => ?_
        refine WL.ev rfl rfl (Ev.mv rfl rfl) (WL.ev rfl rfl (Ev.as rfl rfl) ?_)
        obtain ⟨x2, hx2, hb1⟩ := bd hb1
        obtain ⟨b6, cb6, hvb6, hbb6⟩ := H.ptO (i := 1) rfl hx2
        refine WL.ev rfl rfl (Ev.ixVN rfl el26 sz3 rfl hvb6 rfl (lt_of hx2)) ?_
        refine WL.stOf (i := 1) (z := (a0.length : Int)) rfl rfl rfl sz3 rfl rfl rfl (fun _ => ⟨rfl, rfl, hl1⟩) H rfl hbb6 (by simpa using lt_of hx2) fun w15 H => ?_
        refine WL.nil ?_
        refine CW.reg ?_
        refine WL.ev rfl rfl (Ev.bin rfl rfl rfl (Bin.addN (a := k1) (b := 1) rfl (i64_succN hk2 hl1.2))) (WL.ev rfl rfl (Ev.mv rfl rfl) (WL.nil ?_))
        obtain rfl := sm hb1
        exact ⟨⟨k1 + 1, (s1 ++ [(s2.length : Int)]), (List.set (s2 ++ [0]) s2.length (a0.length : Int)), (.slice A7 n7 c7), (.slice A6 n6 c6)⟩, ⟨rfl, rfl, rfl, rfl, rfl, rfl, rfl, trivial⟩, ⟨hk2, hq1, H.keep 2 2⟩, Nat.sub_lt_sub_left hk2 (Nat.lt_succ_self _)⟩
      · skip
        have hb1 := ifn h3 hb1
        refine CW.skip ?_
        refine CW.reg ?_
        refine WL.ev rfl rfl (Ev.mv rfl rfl) (WL.ev rfl rfl (Ev.mv rfl rfl) (WL.ev rfl rfl (Ev.mv rfl rfl) (WL.ev rfl rfl (Ev.mv rfl rfl) ?_)))
        refine WL.lit1 rfl rfl rfl el26 sz3 ze3 rfl rfl rfl rfl rfl rfl fun b7 w16 hE hb hB => ?_
        have H := H.newB hE hb hB
        obtain ⟨hg3, hb1⟩ := grd_some hb1
        refine WL.appO (i := 0) (ys := [y3]) rfl rfl rfl el26 sz3 by3 ze3 rfl rfl rfl H rfl (fun _ => ownL.single ⟨rfl, rfl, hI3⟩) (.inr ⟨_, _, rfl, At.blk (H.rB (i := 4) rfl)⟩) hg3 fun A8 n8 c8 w17 H => ?_
        refine WL.ev rfl rfl (Ev.mv rfl rfl) (WL.ev rfl rfl (Ev.as rfl rfl) ?_)
        obtain ⟨hg4, hb1⟩ := grd_some hb1
        obtain ⟨x3, hx3, hb1⟩ := bd hb1
        obtain ⟨b8, cb8, hvb8, hbb8⟩ := H.ptO (i := 1) rfl hx3
        refine WL.ev rfl rfl (Ev.ixV rfl el26 sz3 rfl hvb8 rfl hg4 (lt_of hx3)) ?_
        refine WL.stOf (i := 1) (z := (a0.length : Int)) rfl rfl rfl sz3 rfl rfl rfl (fun _ => ⟨rfl, rfl, hl1⟩) H rfl hbb8 (by simpa using lt_of hx3) fun w18 H => ?_
        refine WL.nil ?_
        refine CW.reg ?_
        refine WL.ev rfl rfl (Ev.bin rfl rfl rfl (Bin.addN (a := k1) (b := 1) rfl (i64_succN hk2 hl1.2))) (WL.ev rfl rfl (Ev.mv rfl rfl) (WL.nil ?_))
        obtain rfl := sm hb1
        exact ⟨⟨k1 + 1, (s1 ++ [y3]), (List.set s2 y3.toNat (a0.length : Int)), (.slice A8 n8 c8), (.slice A4 n4 c4)⟩, ⟨rfl, rfl, rfl, rfl, rfl, rfl, rfl, trivial⟩, ⟨hk2, hq1, H.keep 2 2⟩, Nat.sub_lt_sub_left hk2 (Nat.lt_succ_self _)⟩
    · skip
      have hb1 := ifn h2 hb1
      refine CW.skip ?_
      refine CW.seq (CW.reg ?_)
      refine WL.ev rfl rfl (Ev.mv rfl rfl) (WL.ev rfl rfl (Ev.mkfL rfl rfl rfl) ?_)
      obtain ⟨y4, hy4, hb1⟩ := bd hb1
      refine WL.call rfl rfl rfl rfl rfl ok68 rfl (slices_IndexFunc_int_iAssignSlots_1_ok hy4 (H.rO (i := 1) rfl) ⟨(H.rB (i := 2) rfl).lt, _, At.blk (H.rB (i := 2) rfl), ⟨rfl, (i64_nat hk2 hl1)⟩⟩) ?_
      rintro _ w19 hE ⟨rfl, hI4⟩
      have H := H.ext hE
      refine WL.ev rfl rfl (Ev.as rfl rfl) (WL.nil ?_)
      refine CW.seq (CW.seq (CW.reg ?_))
      refine WL.ev rfl rfl (Ev.mv rfl rfl) (WL.ev rfl rfl (Ev.bin rfl rfl rfl Bin.lss) (WL.nil ?_))
      refine CW.condD rfl (fun h4 => ?_) (fun h4 => ?_)
      · skip
        have hb1 := ifp h4 hb1
        refine CW.reg ?_
        refine WL.ev rfl rfl (Ev.mv rfl rfl) ?_
        have hl3 := (H.rO (i := 1) rfl).I
        refine WL.ev rfl rfl (Ev.lenV rfl el26 rfl (H.rO (i := 1) rfl)) (WL.ev rfl rfl (Ev.mv rfl rfl) ?_)
        refine WL.lit1 rfl rfl rfl el26 sz3 ze3 rfl rfl rfl rfl rfl rfl fun b9 w20 hE hb hB => ?_
        have H := H.newB hE hb hB
        obtain ⟨hg5, hb1⟩ := grd_some hb1
        refine WL.appO (i := 1) (ys := [0]) rfl rfl rfl el26 sz3 by3 ze3 rfl rfl rfl H rfl (fun _ => ownL.single ⟨rfl, rfl, (by decide : I64 0)⟩) (.inr ⟨_, _, rfl, At.blk (H.rB (i := 4) rfl)⟩) hg5 fun A9 n9 c9 w21 H => ?_
        refine WL.ev rfl rfl (Ev.as rfl rfl) (WL.ev rfl rfl (Ev.as rfl rfl) (WL.nil ?_))
        refine CW.fresh [(0, .slice A0' n0' c0'), (1, .slice A1' n1' c1'), (6, .slice A3 n3 c3), (7, .slice A9 n9 c9), (10, .int .i64 y1), (11, .int .i64 (s2.length : Int)), (14, .slice A0' n0' c0'), (15, .int .i64 (a0.length : Int)), (16, .int .i64 (k1 : Int))] ⟨rfl, rfl, rfl, rfl, rfl, rfl, rfl, rfl, rfl, trivial⟩ fun σ => ?_
        have H : HL F0 [] w0 w21 [Pr.S a0 (.slice A0' n0' c0'), Pr.S a1 (.slice A1' n1' c1'), Pr.A b1 (ob1 + k1 * 3) [.int .i64 x1.At.Node, .string x1.At.Name, .slice A5 n5 c5], Pr.R x1 [.int .i64 x1.At.Node, .string x1.At.Name, .slice A5 n5 c5], Pr.S x1.Inputs (.slice A5 n5 c5)] [It.O 3 s1 (.slice A3 n3 c3), It.O 3 (s2 ++ [0]) (.slice A9 n9 c9), It.B b2 3 [.int .i64 (k1 : Int)], It.B b3 95 [.int .i64 x1.At.Node, .string x1.At.Name, .slice A5 n5 c5], It.B b9 3 [.int .i64 0]] := H
        refine CW.reg ?_
        refine WL.ev rfl rfl (Ev.mv rfl rfl) (WL.ev rfl rfl (Ev.mv rfl rfl) (WL.ev rfl rfl (Ev.mv rfl rfl) (WL.ev rfl rfl (Ev.mv rfl rfl) ?_)))
        refine WL.lit1 rfl rfl rfl el26 sz3 ze3 rfl rfl rfl rfl rfl rfl fun b10 w22 hE hb hB => ?_
        have H := H.newB hE hb hB
        obtain ⟨hg6, hb1⟩ := grd_some hb1
        refine WL.appO (i := 0) (ys := [(s2.length : Int)]) rfl rfl rfl el26 sz3 by3 ze3 rfl rfl rfl H rfl (fun _ => ownL.single ⟨rfl, rfl, hl3⟩) (.inr ⟨_, _, rfl, At.blk (H.rB (i := 5) rfl)⟩) hg6 fun A10 n10 c10 w23 H => ?_
        refine WL.ev rfl rfl (Ev.mv rfl rfl) (WL.ev rfl rfl (Ev.as rfl rfl) ?_)
        obtain ⟨x4, hx4, hb1⟩ := bd hb1
        obtain ⟨b11, cb11, hvb11, hbb11⟩ := H.ptO (i := 1) rfl hx4
        refine WL.ev rfl rfl (Ev.ixVN rfl el26 sz3 rfl hvb11 rfl (lt_of hx4)) ?_
        refine WL.stOf (i := 1) (z := y1) rfl rfl rfl sz3 rfl rfl rfl (fun _ => ⟨rfl, rfl, hI2⟩) H rfl hbb11 (by simpa using lt_of hx4) fun w24 H => ?_
        refine WL.nil ?_
        refine CW.reg ?_
        refine WL.ev rfl rfl (Ev.bin rfl rfl rfl (Bin.addN (a := k1) (b := 1) rfl (i64_succN hk2 hl1.2))) (WL.ev rfl rfl (Ev.mv rfl rfl) (WL.nil ?_))
        obtain rfl := sm hb1
        exact ⟨⟨k1 + 1, (s1 ++ [(s2.length : Int)]), (List.set (s2 ++ [0]) s2.length y1), (.slice A10 n10 c10), (.slice A9 n9 c9)⟩, ⟨rfl, rfl, rfl, rfl, rfl, rfl, rfl, trivial⟩, ⟨hk2, hq1, H.keep 2 2⟩, Nat.sub_lt_sub_left hk2 (Nat.lt_succ_self _)⟩
      · skip
        have hb1 := ifn h4 hb1
        refine CW.skip ?_
        refine CW.reg ?_
        refine WL.ev rfl rfl (Ev.mv rfl rfl) (WL.ev rfl rfl (Ev.mv rfl rfl) (WL.ev rfl rfl (Ev.mv rfl rfl) (WL.ev rfl rfl (Ev.mv rfl rfl) ?_)))
        refine WL.lit1 rfl rfl rfl el26 sz3 ze3 rfl rfl rfl rfl rfl rfl fun b12 w25 hE hb hB => ?_
        have H := H.newB hE hb hB
        obtain ⟨hg7, hb1⟩ := grd_some hb1
        refine WL.appO (i := 0) (ys := [y4]) rfl rfl rfl el26 sz3 by3 ze3 rfl rfl rfl H rfl (fun _ => ownL.single ⟨rfl, rfl, hI4⟩) (.inr ⟨_, _, rfl, At.blk (H.rB (i := 4) rfl)⟩) hg7 fun A11 n11 c11 w26 H => ?_
        refine WL.ev rfl rfl (Ev.mv rfl rfl) (WL.ev rfl rfl (Ev.as rfl rfl) ?_)
        obtain ⟨hg8, hb1⟩ := grd_some hb1
        obtain ⟨x5, hx5, hb1⟩ := bd hb1
        obtain ⟨b13, cb13, hvb13, hbb13⟩ := H.ptO (i := 1) rfl hx5
        refine WL.ev rfl rfl (Ev.ixV rfl el26 sz3 rfl hvb13 rfl hg8 (lt_of hx5)) ?_
        refine WL.stOf (i := 1) (z := y1) rfl rfl rfl sz3 rfl rfl rfl (fun _ => ⟨rfl, rfl, hI2⟩) H rfl hbb13 (by simpa using lt_of hx5) fun w27 H => ?_
        refine WL.nil ?_
        refine CW.fresh [(0, .slice A0' n0' c0'), (1, .slice A1' n1' c1'), (6, .slice A11 n11 c11), (7, .slice A4 n4 c4), (14, .slice A0' n0' c0'), (15, .int .i64 (a0.length : Int)), (16, .int .i64 (k1 : Int))] ⟨rfl, rfl, rfl, rfl, rfl, rfl, rfl, trivial⟩ fun σ => ?_
        have H : HL F0 [] w0 w27 [Pr.S a0 (.slice A0' n0' c0'), Pr.S a1 (.slice A1' n1' c1'), Pr.A b1 (ob1 + k1 * 3) [.int .i64 x1.At.Node, .string x1.At.Name, .slice A5 n5 c5], Pr.R x1 [.int .i64 x1.At.Node, .string x1.At.Name, .slice A5 n5 c5], Pr.S x1.Inputs (.slice A5 n5 c5)] [It.O 3 (s1 ++ [y4]) (.slice A11 n11 c11), It.O 3 (List.set s2 y4.toNat y1) (.slice A4 n4 c4), It.B b2 3 [.int .i64 (k1 : Int)], It.B b3 95 [.int .i64 x1.At.Node, .string x1.At.Name, .slice A5 n5 c5], It.B b12 3 [.int .i64 y4]] := H
        refine CW.reg ?_
        refine WL.ev rfl rfl (Ev.bin rfl rfl rfl (Bin.addN (a := k1) (b := 1) rfl (i64_succN hk2 hl1.2))) (WL.ev rfl rfl (Ev.mv rfl rfl) (WL.nil ?_))
        obtain rfl := sm hb1
        exact ⟨⟨k1 + 1, (s1 ++ [y4]), (List.set s2 y4.toNat y1), (.slice A11 n11 c11), (.slice A4 n4 c4)⟩, ⟨rfl, rfl, rfl, rfl, rfl, rfl, rfl, trivial⟩, ⟨hk2, hq1, H.keep 2 2⟩, Nat.sub_lt_sub_left hk2 (Nat.lt_succ_self _)⟩
  · skip
    obtain rfl := eachL_end hq1 (not_cast_lt h1)
    refine CW.exit ?_
    refine CW.seq (CW.reg ?_)
    refine WL.ev rfl rfl (Ev.mv rfl rfl) (WL.ev rfl rfl (Ev.mv rfl rfl) ?_)
    have hl4 := (H.rO (i := 1) rfl).I
    refine WL.ev rfl rfl (Ev.lenV rfl el26 rfl (H.rO (i := 1) rfl)) (WL.ev rfl rfl (Ev.as rfl rfl) (WL.ev rfl rfl (Ev.as rfl rfl) (WL.nil ?_)))
    refine CW.ret ?_
    obtain rfl := sm hr
    exact ⟨_, res2 rfl rfl rfl rfl rfl, H.ext0, _, _, _, rfl, hl4, H.outM (fr' := []) [true, false] fun _ _ => trivial⟩

end Go.Proofs.Ytgbgkhcgpchckaa
