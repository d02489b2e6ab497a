/- What some functions of the program compute, as partial functions on plain data, and that they do; each lemma bears its conditions in its statement. -/
import Derived.Test.YtaenbhfjiihhnaaRows
import Derived.Test.YtaenbhfjiihhnaaRd
set_option linter.unusedVariables false
set_option linter.unusedSimpArgs false
set_option linter.ambiguousOpen false
set_option linter.unusedSectionVars false
set_option linter.unusedVariables false
set_option linter.unusedSimpArgs false
set_option maxRecDepth 100000
namespace Go.Proofs.Ytaenbhfjiihhnaa
open Go Go.E
open Go.E.Rep (rd)
open Go.E.Sep (own)
theorem ag3 : aggT Try.prog 3 = some false := by kernel_rfl
theorem ag34 : aggT Try.prog 34 = some false := by kernel_rfl
theorem ag39 : aggT Try.prog 39 = some true := by kernel_rfl
theorem ag77 : aggT Try.prog 77 = some false := by kernel_rfl
theorem ag103 : aggT Try.prog 103 = some true := by kernel_rfl
theorem sz3 : szT Try.prog 3 = some 1 := by kernel_rfl
theorem sz39 : szT Try.prog 39 = some 2 := by kernel_rfl
theorem sz103 : szT Try.prog 103 = some 2 := by kernel_rfl
theorem sz105 : szT Try.prog 105 = some 3 := by kernel_rfl
theorem by3 : byT Try.prog 3 = some 8 := by kernel_rfl
theorem ze3 : zeroT Try.prog 3 = some [.int .i64 0] := by kernel_rfl
theorem ze39 : zeroT Try.prog 39 = some [.int .i64 0, .slice none 0 0] := by kernel_rfl
theorem el34 : elemT Try.prog 34 = some 3 := by kernel_rfl
theorem el65 : elemT Try.prog 65 = some 105 := by kernel_rfl
theorem el77 : elemT Try.prog 77 = some 103 := by kernel_rfl
theorem it83 : intT Try.prog 83 = some .u64 := by kernel_rfl
theorem pl39 : placesT Try.prog 39 = some [(0, 1), (1, 1)] := by kernel_rfl
theorem fl103 : flatT Try.prog 103 = some [.int, .str] := by kernel_rfl
theorem fo39_0 : fieldT Try.prog 39 0 = some 0 := by kernel_rfl
theorem fo39_1 : fieldT Try.prog 39 1 = some 1 := by kernel_rfl
theorem fo105_0 : fieldT Try.prog 105 0 = some 0 := by kernel_rfl
theorem fo105_1 : fieldT Try.prog 105 1 = some 2 := by kernel_rfl
theorem ok23 : callable Try.prog 23 = true := by kernel_rfl
theorem ok25 : callable Try.prog 25 = true := by kernel_rfl
theorem ok27 : callable Try.prog 27 = true := by kernel_rfl
theorem ok28 : callable Try.prog 28 = true := by kernel_rfl
theorem ok50 : callable Try.prog 50 = true := by kernel_rfl
theorem ok68 : callable Try.prog 68 = true := by kernel_rfl
theorem ok69 : callable Try.prog 69 = true := by kernel_rfl
theorem ok70 : callable Try.prog 70 = true := by kernel_rfl
theorem ok71 : callable Try.prog 71 = true := by kernel_rfl
theorem ok78 : callable Try.prog 78 = true := by kernel_rfl
theorem ok79 : callable Try.prog 79 = true := by kernel_rfl
theorem ok81 : callable Try.prog 81 = true := by kernel_rfl
theorem ok83 : callable Try.prog 83 = true := by kernel_rfl
theorem ok91 : callable Try.prog 91 = true := by kernel_rfl
theorem ok92 : callable Try.prog 92 = true := by kernel_rfl
theorem ok93 : callable Try.prog 93 = true := by kernel_rfl
theorem ok95 : callable Try.prog 95 = true := by kernel_rfl
theorem ok99 : callable Try.prog 99 = true := by kernel_rfl
theorem ok100 : callable Try.prog 100 = true := by kernel_rfl
theorem hmix : Try.prog.follows .mixedOrders = true := by kernel_rfl
noncomputable def sl1In_m (a0 : Int) (a1 : Int) (a2 : Int) : Option Bool :=
  if a1 ≤ a0 then (
  some (decide (a0 ≤ a2))
  ) else (
  some false
  )
theorem sl1In_ok {a0 : Int} {a1 : Int} {a2 : Int} {r : Bool} (hr : sl1In_m a0 a1 a2 = some r) {F0 : Nat → Prop} {w0 : World} (ha0 : I64 a0) (ha1 : I64 a1) (ha2 : I64 a2) :
    Ret Try.prog 68 #[.int .i64 a0, .int .i64 a1, .int .i64 a2] w0 (fun _ => False) fun v w => v = .bool r := by
  have H := HL.start F0 w0
  refine enter Try.func68 rfl rfl rfl ?_
  refine CW.seq (CW.reg ?_)
  refine WL.ev rfl rfl (Ev.as rfl rfl) (WL.nil ?_)
  refine CW.seq (CW.reg ?_)
  refine WL.ev rfl rfl (Ev.mv rfl rfl) (WL.ev rfl rfl (Ev.mv rfl rfl) (WL.ev rfl rfl (Ev.bin rfl rfl rfl Bin.geq) ?_))
  refine WL.mvD rfl rfl rfl rfl (fun h1 => ?_) (fun h1 => ?_)
  · skip
    have hr := ifp h1 hr
    refine WL.on rfl rfl (WL.ev rfl rfl (Ev.mv rfl rfl) (WL.on rfl rfl (WL.ev rfl rfl (Ev.mv rfl rfl) (WL.on rfl rfl (WL.ev rfl rfl (Ev.bin rfl rfl rfl Bin.leq) (WL.ev rfl rfl (Ev.pickT rfl rfl rfl) (WL.ev rfl rfl (Ev.as rfl rfl) (WL.nil ?_))))))))
    refine CW.ret ?_
    obtain rfl := sm hr
    exact ⟨_, res1 rfl rfl rfl, H.ext0, rfl⟩
  · skip
    have hr := ifn h1 hr
    refine WL.off rfl rfl rfl (WL.off rfl rfl rfl (WL.off rfl rfl rfl (WL.ev rfl rfl (Ev.pickF rfl rfl rfl) (WL.ev rfl rfl (Ev.as rfl rfl) (WL.nil ?_)))))
    refine CW.ret ?_
    obtain rfl := sm hr
    exact ⟨_, res1 rfl rfl rfl, H.ext0, rfl⟩

noncomputable def sIsValidRelation_L1 (a0 : Relation) : Nat → Unit → Option (Unit ⊕ Bool) := fun k1 _ => 
  (a0.Rows[k1]?).bind fun x1 =>
  grd (0 ≤ a0.N) <|
  grd (0 ≤ a0.N ∧ a0.N < 63) <|
  (sl1In_m x1 0 (((2 ^ a0.N.toNat : Nat) : Int) - 1)).bind fun y2 =>
  if y2 = true then (
  some (.inl ())
  ) else (
  some (.inr false)
  )
noncomputable def sIsValidRelation_m (a0 : Relation) : Option Bool :=
  (sl1In_m a0.N 0 16).bind fun y1 =>
  if y1 = true then (
  if (a0.Rows.length : Int) = a0.N then (
  (findN (sIsValidRelation_L1 a0) 0 (a0.N.toNat) ()).bind <| onr (fun r1 => some r1) fun _ =>
  some true
  ) else (
  some false
  )
  ) else (
  some false
  )
theorem sIsValidRelation_ok {a0 : Relation} {r : Bool} (hr : sIsValidRelation_m a0 = some r) {F0 : Nat → Prop} {w0 : World} {ca0 : List Value} (ha0 : rd F0 w0 a0 ca0) :
    Ret Try.prog 23 #[.agg ca0.toArray] w0 (fun _ => False) fun v w => v = .bool r := by
  have H := (HL.start F0 w0).argR ha0
  obtain ⟨A1, n1, c1, rfl, hI1, H⟩ := op_Relation H (i := 0) rfl
  refine enter Try.func23 rfl rfl rfl ?_
  refine CW.seq (CW.reg ?_)
  refine WL.boxH rfl rfl rfl rfl rfl H fun b1 w1 H => ?_
  refine WL.ev rfl rfl (Ev.as rfl rfl) (WL.nil ?_)
  refine CW.seq (CW.seq (CW.reg ?_))
  refine WL.ev rfl rfl (Ev.fa rfl fo39_0 rfl) (WL.ev rfl rfl (Ev.ld rfl ag3 rfl ((H.rB (i := 0) rfl).cell rfl)) ?_)
  obtain ⟨y1, hy1, hr⟩ := bd hr
  refine WL.call rfl rfl rfl rfl rfl ok68 rfl (sl1In_ok hy1 (F0 := fun _ => False) hI1 (by decide : I64 0) (by decide : I64 16)) ?_
  rintro _ w2 hE rfl
  have H := H.ext hE
  refine WL.ev rfl rfl (Ev.not rfl rfl) ?_
  refine WL.mvBN rfl rfl rfl rfl (fun h1 => ?_) (fun h1 => ?_)
  · skip
    have hr := ifn h1 hr
    refine WL.off rfl rfl rfl (WL.off rfl rfl rfl (WL.off rfl rfl rfl (WL.off rfl rfl rfl (WL.off rfl rfl rfl (WL.off rfl rfl rfl (WL.ev rfl rfl (Ev.pickT rfl rfl rfl) (WL.nil ?_)))))))
    refine CW.condT rfl ?_
    refine CW.seq (CW.reg ?_)
    refine WL.ev rfl rfl (Ev.as rfl rfl) (WL.nil ?_)
    refine CW.ret ?_
    obtain rfl := sm hr
    exact ⟨_, res1 rfl rfl rfl, H.ext0, rfl⟩
  · skip
    have hr := ifp h1 hr
    refine WL.on rfl rfl (WL.ev rfl rfl (Ev.fa rfl fo39_1 rfl) (WL.on rfl rfl (WL.ev rfl rfl (Ev.ld rfl ag34 rfl ((H.rB (i := 0) rfl).cell rfl)) (WL.on rfl rfl ?_))))
    have hl1 := (H.rS (i := 1) rfl).I
    refine WL.ev rfl rfl (Ev.lenV rfl el34 rfl (H.rS (i := 1) rfl)) (WL.on rfl rfl (WL.ev rfl rfl (Ev.fa rfl fo39_0 rfl) (WL.on rfl rfl (WL.ev rfl rfl (Ev.ld rfl ag3 rfl ((H.rB (i := 0) rfl).cell rfl)) (WL.on rfl rfl (WL.ev rfl rfl (Ev.bin rfl rfl rfl Bin.neq) (WL.ev rfl rfl (Ev.pickF rfl rfl rfl) (WL.nil ?_))))))))
    refine CW.condN rfl (fun h2 => ?_) (fun h2 => ?_)
    · skip
      have hr := ifn h2 hr
      refine CW.seq (CW.reg ?_)
      refine WL.ev rfl rfl (Ev.as rfl rfl) (WL.nil ?_)
      refine CW.ret ?_
      obtain rfl := sm hr
      exact ⟨_, res1 rfl rfl rfl, H.ext0, rfl⟩
    · skip
      have hr := ifp h2 hr
      refine CW.skip ?_
      refine CW.seq (CW.seq (CW.reg ?_))
      refine WL.ev rfl rfl (Ev.as rfl rfl) (WL.nil ?_)
      obtain ⟨q1, hq1, hr⟩ := bd hr
      refine CW.block (CW.loop (α := Nat) (fun k1 => [(1, .pointer (some ⟨b1, 0, none⟩)), (3, .int .i64 (k1 : Int))]) (fun k1 w => k1 ≤ a0.N.toNat ∧ findN (sIsValidRelation_L1 a0) k1 (a0.N.toNat - k1) () = some q1 ∧ HL F0 [] w0 w [Pr.R a0 [.int .i64 a0.N, .slice A1 n1 c1], Pr.S a0.Rows (.slice A1 n1 c1)] [It.B b1 39 [.int .i64 a0.N, .slice A1 n1 c1]]) (fun k1 => a0.N.toNat - k1) 0 ⟨rfl, rfl, trivial⟩ ⟨Nat.zero_le _, hq1, H.keep 2 1⟩ ?_)
      rintro k1 σ w3 ⟨hk1, hq1, H⟩
      refine CW.seq (CW.seq (CW.reg ?_))
      refine WL.ev rfl rfl (Ev.mv rfl rfl) (WL.ev rfl rfl (Ev.fa rfl fo39_0 rfl) (WL.ev rfl rfl (Ev.ld rfl ag3 rfl ((H.rB (i := 0) rfl).cell rfl)) (WL.ev rfl rfl (Ev.bin rfl rfl rfl Bin.lss) (WL.nil ?_))))
      refine CW.condD rfl (fun h3 => ?_) (fun h3 => ?_)
      · skip
        have hk2 := toNat_lt h3
        obtain ⟨z1, hb1, hs1, ht1⟩ := findN_go hq1 hk2
        refine CW.skip ?_
        refine CW.seq (CW.block (CW.seq (CW.quiet hmix (by kernel_rfl) ?_)))
        refine QL.ev rfl rfl (fun _ _ => Ev.fa rfl fo39_1 rfl) (QL.ev rfl rfl (fun _ hq => Ev.ld rfl ag34 rfl (((H.ext hq).rB (i := 0) rfl).cell rfl)) (QL.ev rfl rfl (fun _ _ => Ev.mv rfl rfl) ?_))
        obtain ⟨x1, hx1, hb1⟩ := bd hb1
        obtain ⟨b2, ob2, cb2, hvb2, hI2, H⟩ := ixS_Int H (i := 1) rfl hx1
        refine QL.ev rfl rfl (fun _ _ => Ev.ixVN rfl el34 sz3 rfl hvb2 rfl (lt_of hx1)) (QL.ev rfl rfl (fun _ hq => Ev.ld rfl ag3 rfl (((H.ext hq).rA (i := 2) rfl).cell0 rfl)) (QL.ev rfl rfl (fun _ _ => Ev.fa rfl fo39_0 rfl) (QL.ev rfl rfl (fun _ hq => Ev.ld rfl ag3 rfl (((H.ext hq).rB (i := 0) rfl).cell rfl)) ?_)))
        obtain ⟨hg1, hb1⟩ := grd_some hb1
        refine QL.ev rfl rfl (fun _ _ => Ev.convUI rfl Try.underlying3 it83 rfl hg1 hI1.2) ?_
        obtain ⟨hg2, hb1⟩ := grd_some hb1
        refine QL.ev rfl rfl (fun _ _ => Ev.bin rfl rfl rfl (Bin.shlI hg2.1 hg2.2)) (QL.ev rfl rfl (fun _ _ => Ev.bin rfl rfl rfl (Bin.sub (i64_sub (k := 1) (i64_pow hg2.2) (by decide)))) ?_)
        obtain ⟨y2, hy2, hb1⟩ := bd hb1
        refine QL.call rfl rfl rfl rfl rfl ok68 rfl (fun _ hq => sl1In_ok hy2 (F0 := fun _ => False) hI2 (by decide : I64 0) (i64_sub (k := 1) (i64_pow hg2.2) (by decide))) ?_
        refine QL.ev rfl rfl (fun _ _ => Ev.not rfl rfl) (QL.nil (fun w4 hE => ?_))
        have H := H.ext hE
        refine CW.condBN rfl (fun h4 => ?_) (fun h4 => ?_)
        · skip
          have hb1 := ifn h4 hb1
          refine CW.seq (CW.reg ?_)
          refine WL.ev rfl rfl (Ev.as rfl rfl) (WL.nil ?_)
          refine CW.ret ?_
          obtain rfl := sm hb1
          obtain rfl := ht1 _ rfl
          obtain rfl := sm hr
          exact ⟨_, res1 rfl rfl rfl, H.ext0, rfl⟩
        · skip
          have hb1 := ifp h4 hb1
          refine CW.skip ?_
          refine CW.reg ?_
          refine WL.ev rfl rfl (Ev.mv rfl rfl) (WL.ev rfl rfl (Ev.bin rfl rfl rfl (Bin.addN (a := k1) (b := 1) rfl (i64_succNI h3 hI1.2))) (WL.ev rfl rfl (Ev.as rfl rfl) (WL.nil ?_)))
          obtain rfl := sm hb1
          have hq1 := hs1 _ rfl
          exact ⟨(k1 + 1), ⟨rfl, rfl, trivial⟩, ⟨hk2, hq1, H.keep 2 1⟩, Nat.sub_lt_sub_left hk2 (Nat.lt_succ_self _)⟩
      · skip
        obtain rfl := findN_end hq1 (not_toNat_lt h3)
        refine CW.exit ?_
        refine CW.seq (CW.reg ?_)
        refine WL.ev rfl rfl (Ev.as rfl rfl) (WL.nil ?_)
        refine CW.ret ?_
        obtain rfl := sm hr
        exact ⟨_, res1 rfl rfl rfl, H.ext0, rfl⟩

noncomputable def sEmptyRelation_m (a0 : Int) : Option Relation :=
  (sl1In_m a0 0 16).bind fun y1 =>
  if y1 = true then (
  grd (0 ≤ a0 ∧ a0 * 8 ≤ 281474976710656 ∧ a0 ≤ 9223372036854775807) <|
  some (⟨a0, (List.replicate a0.toNat (0 : Int))⟩ : Relation)
  ) else (
  some (⟨0, []⟩ : Relation)
  )
theorem sEmptyRelation_ok {a0 : Int} {r : Relation} (hr : sEmptyRelation_m a0 = some r) {F0 : Nat → Prop} {w0 : World} (ha0 : I64 a0) :
    Ret Try.prog 78 #[.int .i64 a0] w0 (fun _ => False) fun v w => ∃ A0 : Option Addr, ∃ n0 c0 : Nat, v = .agg #[.int .i64 r.N, (.slice A0 n0 c0)] ∧ I64 r.N ∧ HL F0 [] w0 w [] [It.O 3 r.Rows (.slice A0 n0 c0)] := by
  have H := HL.start F0 w0
  refine enter Try.func78 rfl rfl rfl ?_
  refine CW.seq (CW.reg ?_)
  refine WL.allocH rfl rfl rfl ze39 H fun b1 w1 H => ?_
  refine WL.nil ?_
  refine CW.seq (CW.seq (CW.reg ?_))
  refine WL.ev rfl rfl (Ev.mv rfl rfl) ?_
  obtain ⟨y1, hy1, hr⟩ := bd hr
  refine WL.call rfl rfl rfl rfl rfl ok68 rfl (sl1In_ok hy1 (F0 := fun _ => False) ha0 (by decide : I64 0) (by decide : I64 16)) ?_
  rintro _ w2 hE rfl
  have H := H.ext hE
  refine WL.ev rfl rfl (Ev.not rfl rfl) (WL.nil ?_)
  refine CW.condBN rfl (fun h1 => ?_) (fun h1 => ?_)
  · skip
    have hr := ifn h1 hr
    refine CW.seq (CW.reg ?_)
    refine WL.ev rfl rfl (Ev.build rfl pl39 ze39 rfl rfl rfl rfl) ?_
    refine WL.stB (i := 0) rfl rfl rfl sz39 rfl rfl rfl rfl (all1 rfl (all1 rfl all0)) H rfl rfl rfl fun w3 H => ?_
    refine WL.nil ?_
    refine CW.ret ?_
    have H := H.nil (α := Int) 3
    obtain rfl := sm hr
    exact ⟨_, resC rfl ag39 sz39 rfl rfl (At.blk (H.rB (i := 0) rfl)) rfl, H.ext0, _, _, _, rfl, (by decide : I64 0), H.outM (fr' := []) [false, true] fun _ _ => trivial⟩
  · skip
    have hr := ifp h1 hr
    refine CW.skip ?_
    refine CW.seq (CW.reg ?_)
    refine WL.ev rfl rfl (Ev.mv rfl rfl) (WL.ev rfl rfl (Ev.mv rfl rfl) ?_)
    obtain ⟨hg1, hr⟩ := grd_some hr
    refine WL.mkH (x := (0 : Int)) rfl rfl rfl el34 sz3 by3 ze3 (fun _ => ⟨rfl, rfl, (by decide : I64 0)⟩) rfl rfl hg1 H fun A1 n1 c1 w4 H => ?_
    refine WL.ev rfl rfl (Ev.build rfl pl39 ze39 rfl rfl rfl rfl) ?_
    refine WL.stB (i := 0) rfl rfl rfl sz39 rfl rfl rfl rfl (all1 rfl (all1 rfl all0)) H rfl rfl rfl fun w5 H => ?_
    refine WL.nil ?_
    refine CW.ret ?_
    obtain rfl := sm hr
    exact ⟨_, resC rfl ag39 sz39 rfl rfl (At.blk (H.rB (i := 0) rfl)) rfl, H.ext0, _, _, _, rfl, ha0, H.outM (fr' := []) [false, true] fun _ _ => trivial⟩

noncomputable def sHasPair_m (a0 : Relation) (a1 : Int) (a2 : Int) : Option Bool :=
  (sIsValidRelation_m a0).bind fun y1 =>
  if y1 = true then (
  grd (I64 (a0.N - 1)) <|
  (sl1In_m a1 0 (a0.N - 1)).bind fun y2 =>
  if y2 = true then (
  grd (I64 (a0.N - 1)) <|
  (sl1In_m a2 0 (a0.N - 1)).bind fun y3 =>
  if y3 = true then (
  grd (0 ≤ a1) <|
  (a0.Rows[a1.toNat]?).bind fun x1 =>
  grd (0 ≤ a2) <|
  grd (0 ≤ x1 ∧ 0 ≤ a2 ∧ a2 < 64) <|
  grd (0 ≤ ((x1.toNat >>> a2.toNat : Nat) : Int) ∧ 0 ≤ (1 : Int)) <|
  some (decide (((((x1.toNat >>> a2.toNat : Nat) : Int).toNat &&& (1 : Int).toNat : Nat) : Int) = 1))
  ) else (
  some false
  )
  ) else (
  some false
  )
  ) else (
  some false
  )
theorem sHasPair_ok {a0 : Relation} {a1 : Int} {a2 : Int} {r : Bool} (hr : sHasPair_m a0 a1 a2 = some r) {F0 : Nat → Prop} {w0 : World} {ca0 : List Value} (ha0 : rd F0 w0 a0 ca0) (ha1 : I64 a1) (ha2 : I64 a2) :
    Ret Try.prog 27 #[.agg ca0.toArray, .int .i64 a1, .int .i64 a2] w0 (fun _ => False) fun v w => v = .bool r := by
  have H := (HL.start F0 w0).argR ha0
  obtain ⟨A1, n1, c1, rfl, hI1, H⟩ := op_Relation H (i := 0) rfl
  refine enter Try.func27 rfl rfl rfl ?_
  refine CW.seq (CW.reg ?_)
  refine WL.boxH rfl rfl rfl rfl rfl H fun b1 w1 H => ?_
  refine WL.ev rfl rfl (Ev.as rfl rfl) (WL.nil ?_)
  refine CW.seq (CW.reg ?_)
  refine WL.ev rfl rfl (Ev.lda rfl ag39 sz39 rfl (At.blk (H.rB (i := 0) rfl)) rfl) ?_
  obtain ⟨y1, hy1, hr⟩ := bd hr
  refine WL.call rfl rfl rfl rfl rfl ok23 rfl (sIsValidRelation_ok hy1 ⟨_, rfl, hI1, (H.rS (i := 1) rfl)⟩) ?_
  rintro _ w2 hE rfl
  have H := H.ext hE
  refine WL.mvB rfl rfl rfl rfl (fun h1 => ?_) (fun h1 => ?_)
  · skip
    have hr := ifp h1 hr
    refine WL.on rfl rfl (WL.ev rfl rfl (Ev.mv rfl rfl) (WL.on rfl rfl (WL.ev rfl rfl (Ev.fa rfl fo39_0 rfl) (WL.on rfl rfl (WL.ev rfl rfl (Ev.ld rfl ag3 rfl ((H.rB (i := 0) rfl).cell rfl)) (WL.on rfl rfl ?_))))))
    obtain ⟨hg1, hr⟩ := grd_some hr
    refine WL.ev rfl rfl (Ev.bin rfl rfl rfl (Bin.sub hg1)) (WL.on rfl rfl ?_)
    obtain ⟨y2, hy2, hr⟩ := bd hr
    refine WL.call rfl rfl rfl rfl rfl ok68 rfl (sl1In_ok hy2 (F0 := fun _ => False) ha1 (by decide : I64 0) hg1) ?_
    rintro _ w3 hE rfl
    have H := H.ext hE
    refine WL.ev rfl rfl (Ev.pickT rfl rfl rfl) ?_
    refine WL.mvB rfl rfl rfl rfl (fun h2 => ?_) (fun h2 => ?_)
    · skip
      have hr := ifp h2 hr
      refine WL.on rfl rfl (WL.ev rfl rfl (Ev.mv rfl rfl) (WL.on rfl rfl (WL.ev rfl rfl (Ev.fa rfl fo39_0 rfl) (WL.on rfl rfl (WL.ev rfl rfl (Ev.ld rfl ag3 rfl ((H.rB (i := 0) rfl).cell rfl)) (WL.on rfl rfl ?_))))))
      obtain ⟨hg2, hr⟩ := grd_some hr
      refine WL.ev rfl rfl (Ev.bin rfl rfl rfl (Bin.sub hg2)) (WL.on rfl rfl ?_)
      obtain ⟨y3, hy3, hr⟩ := bd hr
      refine WL.call rfl rfl rfl rfl rfl ok68 rfl (sl1In_ok hy3 (F0 := fun _ => False) ha2 (by decide : I64 0) hg2) ?_
      rintro _ w4 hE rfl
      have H := H.ext hE
      refine WL.ev rfl rfl (Ev.pickT rfl rfl rfl) ?_
      refine WL.mvB rfl rfl rfl rfl (fun h3 => ?_) (fun h3 => ?_)
      · skip
        have hr := ifp h3 hr
        refine WL.on rfl rfl (WL.ev rfl rfl (Ev.fa rfl fo39_1 rfl) (WL.on rfl rfl (WL.ev rfl rfl (Ev.ld rfl ag34 rfl ((H.rB (i := 0) rfl).cell rfl)) (WL.on rfl rfl (WL.ev rfl rfl (Ev.mv rfl rfl) (WL.on rfl rfl ?_))))))
        obtain ⟨hg3, hr⟩ := grd_some hr
        obtain ⟨x1, hx1, hr⟩ := bd hr
        obtain ⟨b2, ob2, cb2, hvb2, hI2, H⟩ := ixS_Int H (i := 1) rfl hx1
        refine WL.ev rfl rfl (Ev.ixV rfl el34 sz3 rfl hvb2 rfl hg3 (lt_of hx1)) (WL.on rfl rfl (WL.ev rfl rfl (Ev.ld rfl ag3 rfl ((H.rA (i := 2) rfl).cell0 rfl)) (WL.on rfl rfl (WL.ev rfl rfl (Ev.mv rfl rfl) (WL.on rfl rfl ?_)))))
        obtain ⟨hg4, hr⟩ := grd_some hr
        refine WL.ev rfl rfl (Ev.convUI rfl Try.underlying3 it83 rfl hg4 ha2.2) (WL.on rfl rfl ?_)
        obtain ⟨hg5, hr⟩ := grd_some hr
        refine WL.ev rfl rfl (Ev.bin rfl rfl rfl (Bin.shrI hg5.1 hg5.2.1 hg5.2.2)) (WL.on rfl rfl ?_)
        obtain ⟨hg6, hr⟩ := grd_some hr
        refine WL.ev rfl rfl (Ev.bin rfl rfl rfl (Bin.andI hg6.1 (i64_shr hI2).2 hg6.2 (by decide : I64 1).2)) (WL.on rfl rfl (WL.ev rfl rfl (Ev.bin rfl rfl rfl Bin.eql) (WL.ev rfl rfl (Ev.pickT rfl rfl rfl) (WL.ev rfl rfl (Ev.as rfl rfl) (WL.nil ?_)))))
        refine CW.ret ?_
        obtain rfl := sm hr
        exact ⟨_, res1 rfl rfl rfl, H.ext0, rfl⟩
      · skip
        have hr := ifn h3 hr
        refine WL.off rfl rfl rfl (WL.off rfl rfl rfl (WL.off rfl rfl rfl (WL.off rfl rfl rfl (WL.off rfl rfl rfl (WL.off rfl rfl rfl (WL.off rfl rfl rfl (WL.off rfl rfl rfl (WL.off rfl rfl rfl (WL.off rfl rfl rfl (WL.ev rfl rfl (Ev.pickF rfl rfl rfl) (WL.ev rfl rfl (Ev.as rfl rfl) (WL.nil ?_))))))))))))
        refine CW.ret ?_
        obtain rfl := sm hr
        exact ⟨_, res1 rfl rfl rfl, H.ext0, rfl⟩
    · skip
      have hr := ifn h2 hr
      refine WL.off rfl rfl rfl (WL.off rfl rfl rfl (WL.off rfl rfl rfl (WL.off rfl rfl rfl (WL.off rfl rfl rfl (WL.ev rfl rfl (Ev.pickF rfl rfl rfl) (WL.ev rfl rfl (Ev.mv rfl rfl) (WL.off rfl rfl rfl (WL.off rfl rfl rfl (WL.off rfl rfl rfl (WL.off rfl rfl rfl (WL.off rfl rfl rfl (WL.off rfl rfl rfl (WL.off rfl rfl rfl (WL.off rfl rfl rfl (WL.off rfl rfl rfl (WL.off rfl rfl rfl (WL.ev rfl rfl (Ev.pickF rfl rfl rfl) (WL.ev rfl rfl (Ev.as rfl rfl) (WL.nil ?_)))))))))))))))))))
      refine CW.ret ?_
      obtain rfl := sm hr
      exact ⟨_, res1 rfl rfl rfl, H.ext0, rfl⟩
  · skip
    have hr := ifn h1 hr
    refine WL.off rfl rfl rfl (WL.off rfl rfl rfl (WL.off rfl rfl rfl (WL.off rfl rfl rfl (WL.off rfl rfl rfl (WL.ev rfl rfl (Ev.pickF rfl rfl rfl) (WL.ev rfl rfl (Ev.mv rfl rfl) (WL.off rfl rfl rfl (WL.off rfl rfl rfl (WL.off rfl rfl rfl (WL.off rfl rfl rfl (WL.off rfl rfl rfl (WL.ev rfl rfl (Ev.pickF rfl rfl rfl) (WL.ev rfl rfl (Ev.mv rfl rfl) (WL.off rfl rfl rfl (WL.off rfl rfl rfl (WL.off rfl rfl rfl (WL.off rfl rfl rfl (WL.off rfl rfl rfl (WL.off rfl rfl rfl (WL.off rfl rfl rfl (WL.off rfl rfl rfl (WL.off rfl rfl rfl (WL.off rfl rfl rfl (WL.ev rfl rfl (Ev.pickF rfl rfl rfl) (WL.ev rfl rfl (Ev.as rfl rfl) (WL.nil ?_))))))))))))))))))))))))))
    refine CW.ret ?_
    obtain rfl := sm hr
    exact ⟨_, res1 rfl rfl rfl, H.ext0, rfl⟩

noncomputable def sProjectRelation_L2 (a0 : Relation) (k1 : Nat) (x1 : Int) : Nat → Int → (List Int) → Option (List Int) := fun k2 x2 s2 => 
  (sHasPair_m a0 x1 x2).bind fun y3 =>
  if y3 = true then (
  (s2[k1]?).bind fun x3 =>
  grd (0 ≤ (k2 : Int) ∧ (k2 : Int) < 63) <|
  grd (0 ≤ x3 ∧ 0 ≤ ((2 ^ (k2 : Int).toNat : Nat) : Int)) <|
  some (s2.set k1 ((x3.toNat ||| ((2 ^ (k2 : Int).toNat : Nat) : Int).toNat : Nat) : Int))
  ) else (
  some s2
  )
noncomputable def sProjectRelation_L1 (a0 : Relation) (a1 : (List Int)) : Nat → Int → (List Int) → Option (List Int) := fun k1 x1 s1 => 
  (eachL (sProjectRelation_L2 a0 k1 x1) 0 a1 s1).bind fun s2 =>
  some s2
noncomputable def sProjectRelation_m (a0 : Relation) (a1 : (List Int)) : Option Relation :=
  (sIsValidRelation_m a0).bind fun y1 =>
  if y1 = true then (
  if 16 < (a1.length : Int) then (
  some (⟨0, []⟩ : Relation)
  ) else (
  (sEmptyRelation_m (a1.length : Int)).bind fun y2 =>
  (eachL (sProjectRelation_L1 a0 a1) 0 a1 y2.Rows).bind fun s1 =>
  some (⟨y2.N, s1⟩ : Relation)
  )
  ) else (
  some (⟨0, []⟩ : Relation)
  )
theorem sProjectRelation_ok {a0 : Relation} {a1 : (List Int)} {r : Relation} (hr : sProjectRelation_m a0 a1 = some r) {F0 : Nat → Prop} {w0 : World} {ca0 : List Value} (ha0 : rd F0 w0 a0 ca0) {z1 : Value} (ha1 : rdS F0 w0 a1 z1) :
    Ret Try.prog 44 #[.agg ca0.toArray, z1] w0 (fun _ => False) fun v w => ∃ A0 : Option Addr, ∃ n0 c0 : Nat, v = .agg #[.int .i64 r.N, (.slice A0 n0 c0)] ∧ I64 r.N ∧ HL F0 [] w0 w [] [It.O 3 r.Rows (.slice A0 n0 c0)] := by
  obtain ⟨A1', n1', c1', rfl⟩ := ha1.form3
  have H := ((HL.start F0 w0).argR ha0).argS ha1
  obtain ⟨A1, n1, c1, rfl, hI1, H⟩ := op_Relation H (i := 0) rfl
  refine enter Try.func44 rfl rfl rfl ?_
  refine CW.seq (CW.reg ?_)
  refine WL.boxH rfl rfl rfl rfl rfl H fun b1 w1 H => ?_
  refine WL.allocH rfl rfl rfl ze39 H fun b2 w2 H => ?_
  refine WL.nil ?_
  refine CW.seq (CW.seq (CW.reg ?_))
  refine WL.ev rfl rfl (Ev.lda rfl ag39 sz39 rfl (At.blk (H.rB (i := 0) rfl)) rfl) ?_
  obtain ⟨y1, hy1, hr⟩ := bd hr
  refine WL.call rfl rfl rfl rfl rfl ok23 rfl (sIsValidRelation_ok hy1 ⟨_, rfl, hI1, (H.rS (i := 2) rfl)⟩) ?_
  rintro _ w3 hE rfl
  have H := H.ext hE
  refine WL.ev rfl rfl (Ev.not rfl rfl) ?_
  refine WL.mvBN rfl rfl rfl rfl (fun h1 => ?_) (fun h1 => ?_)
  · skip
    have hr := ifn h1 hr
    refine WL.off rfl rfl rfl (WL.off rfl rfl rfl (WL.off rfl rfl rfl (WL.ev rfl rfl (Ev.pickT rfl rfl rfl) (WL.nil ?_))))
    refine CW.condT rfl ?_
    refine CW.seq (CW.reg ?_)
    refine WL.ev rfl rfl (Ev.build rfl pl39 ze39 rfl rfl rfl rfl) ?_
    refine WL.stB (i := 1) rfl rfl rfl sz39 rfl rfl rfl rfl (all1 rfl (all1 rfl all0)) H rfl rfl rfl fun w4 H => ?_
    refine WL.nil ?_
    refine CW.ret ?_
    have H := H.nil (α := Int) 3
    obtain rfl := sm hr
    exact ⟨_, resC rfl ag39 sz39 rfl rfl (At.blk (H.rB (i := 1) rfl)) rfl, H.ext0, _, _, _, rfl, (by decide : I64 0), H.outM (fr' := []) [false, false, true] fun _ _ => trivial⟩
  · skip
    have hr := ifp h1 hr
    refine WL.on rfl rfl (WL.ev rfl rfl (Ev.mv rfl rfl) (WL.on rfl rfl ?_))
    have hl1 := (H.rS (i := 1) rfl).I
    refine WL.ev rfl rfl (Ev.lenV rfl el34 rfl (H.rS (i := 1) rfl)) (WL.on rfl rfl (WL.ev rfl rfl (Ev.bin rfl rfl rfl Bin.gtr) (WL.ev rfl rfl (Ev.pickF rfl rfl rfl) (WL.nil ?_))))
    refine CW.condD rfl (fun h2 => ?_) (fun h2 => ?_)
    · skip
      have hr := ifp h2 hr
      refine CW.seq (CW.reg ?_)
      refine WL.ev rfl rfl (Ev.build rfl pl39 ze39 rfl rfl rfl rfl) ?_
      refine WL.stB (i := 1) rfl rfl rfl sz39 rfl rfl rfl rfl (all1 rfl (all1 rfl all0)) H rfl rfl rfl fun w5 H => ?_
      refine WL.nil ?_
      refine CW.ret ?_
      have H := H.nil (α := Int) 3
      obtain rfl := sm hr
      exact ⟨_, resC rfl ag39 sz39 rfl rfl (At.blk (H.rB (i := 1) rfl)) rfl, H.ext0, _, _, _, rfl, (by decide : I64 0), H.outM (fr' := []) [false, false, true] fun _ _ => trivial⟩
    · skip
      have hr := ifn h2 hr
      refine CW.skip ?_
      refine CW.seq (CW.reg ?_)
      refine WL.ev rfl rfl (Ev.mv rfl rfl) (WL.ev rfl rfl (Ev.lenV rfl el34 rfl (H.rS (i := 1) rfl)) ?_)
      obtain ⟨y2, hy2, hr⟩ := bd hr
      refine WL.call rfl rfl rfl rfl rfl ok78 rfl (sEmptyRelation_ok hy2 (F0 := fun _ => False) hl1) ?_
      rintro _ w6 hE ⟨A2, n2, c2, rfl, hI2, H'⟩
      have H := H.callA H' ⟨fun _ _ _ _ _ h => h, trivial⟩
      refine WL.allocH rfl rfl rfl ze39 H fun b3 w7 H => ?_
      refine WL.stB (i := 3) rfl rfl rfl sz39 rfl rfl rfl rfl (all1 rfl (all1 rfl all0)) H rfl rfl rfl fun w8 H => ?_
      refine WL.nil ?_
      refine CW.seq (CW.seq (CW.reg ?_))
      refine WL.ev rfl rfl (Ev.as rfl rfl) (WL.nil ?_)
      obtain ⟨q1, hq1, hr⟩ := bd hr
      refine CW.block (CW.loop (α := Nat × (List Int) × Value) (fun ⟨k1, s1, v1⟩ => [(1, .slice A1' n1' c1'), (2, .pointer (some ⟨b1, 0, none⟩)), (4, .pointer (some ⟨b2, 0, none⟩)), (5, .pointer (some ⟨b3, 0, none⟩)), (6, .int .i64 (k1 : Int))]) (fun ⟨k1, s1, v1⟩ w => k1 ≤ a1.length ∧ eachL (sProjectRelation_L1 a0 a1) k1 (a1.drop k1) s1 = some q1 ∧ HL F0 [] w0 w [Pr.R a0 [.int .i64 a0.N, .slice A1 n1 c1], Pr.S a1 (.slice A1' n1' c1'), Pr.S a0.Rows (.slice A1 n1 c1)] [It.B b1 39 [.int .i64 a0.N, .slice A1 n1 c1], It.B b2 39 [.int .i64 0, .slice none 0 0], It.O 3 s1 v1, It.B b3 39 [.int .i64 y2.N, v1]]) (fun ⟨k1, s1, v1⟩ => a1.length - k1) ⟨0, y2.Rows, (.slice A2 n2 c2)⟩ ⟨rfl, rfl, rfl, rfl, rfl, trivial⟩ ⟨Nat.zero_le _, hq1, H.keep 3 4⟩ ?_)
      rintro ⟨k1, s1, v1⟩ σ w9 ⟨hk1, hq1, H⟩
      obtain ⟨A3, n3, c3, rfl⟩ := (H.rO (i := 2) rfl).form3
      refine CW.seq (CW.seq (CW.reg ?_))
      refine WL.ev rfl rfl (Ev.mv rfl rfl) (WL.ev rfl rfl (Ev.mv rfl rfl) (WL.ev rfl rfl (Ev.lenV rfl el34 rfl (H.rS (i := 1) rfl)) (WL.ev rfl rfl (Ev.bin rfl rfl rfl Bin.lss) (WL.nil ?_))))
      refine CW.condD rfl (fun h3 => ?_) (fun h3 => ?_)
      · skip
        have hk2 := cast_lt h3
        obtain ⟨x1, z1, hx1, hb1, hq1⟩ := eachL_go hq1 hk2
        refine CW.skip ?_
        refine CW.seq (CW.block (CW.seq (CW.reg ?_)))
        refine WL.ev rfl rfl (Ev.as rfl rfl) (WL.nil ?_)
        obtain ⟨q2, hq2, hb1⟩ := bd hb1
        refine CW.block (CW.loop (α := Nat × (List Int) × Value) (fun ⟨k2, s2, v2⟩ => [(1, .slice A1' n1' c1'), (2, .pointer (some ⟨b1, 0, none⟩)), (4, .pointer (some ⟨b2, 0, none⟩)), (5, .pointer (some ⟨b3, 0, none⟩)), (6, .int .i64 (k1 : Int)), (7, .int .i64 (k2 : Int))]) (fun ⟨k2, s2, v2⟩ w => k2 ≤ a1.length ∧ eachL (sProjectRelation_L2 a0 k1 x1) k2 (a1.drop k2) s2 = some q2 ∧ HL F0 [] w0 w [Pr.R a0 [.int .i64 a0.N, .slice A1 n1 c1], Pr.S a1 (.slice A1' n1' c1'), Pr.S a0.Rows (.slice A1 n1 c1)] [It.B b1 39 [.int .i64 a0.N, .slice A1 n1 c1], It.B b2 39 [.int .i64 0, .slice none 0 0], It.O 3 s2 v2, It.B b3 39 [.int .i64 y2.N, v2]]) (fun ⟨k2, s2, v2⟩ => a1.length - k2) ⟨0, s1, (.slice A3 n3 c3)⟩ ⟨rfl, rfl, rfl, rfl, rfl, rfl, trivial⟩ ⟨Nat.zero_le _, hq2, H.keep 3 4⟩ ?_)
        rintro ⟨k2, s2, v2⟩ σ w10 ⟨hk3, hq2, H⟩
        obtain ⟨A4, n4, c4, rfl⟩ := (H.rO (i := 2) rfl).form3
        refine CW.seq (CW.seq (CW.reg ?_))
        refine WL.ev rfl rfl (Ev.mv rfl rfl) (WL.ev rfl rfl (Ev.mv rfl rfl) (WL.ev rfl rfl (Ev.lenV rfl el34 rfl (H.rS (i := 1) rfl)) (WL.ev rfl rfl (Ev.bin rfl rfl rfl Bin.lss) (WL.nil ?_))))
        refine CW.condD rfl (fun h4 => ?_) (fun h4 => ?_)
        · skip
          have hk4 := cast_lt h4
          obtain ⟨x2, z2, hx2, hb2, hq2⟩ := eachL_go hq2 hk4
          refine CW.skip ?_
          refine CW.seq (CW.block (CW.seq (CW.quiet hmix (by kernel_rfl) ?_)))
          refine QL.ev rfl rfl (fun _ hq => Ev.lda rfl ag39 sz39 rfl (At.blk ((H.ext hq).rB (i := 0) rfl)) rfl) (QL.ev rfl rfl (fun _ _ => Ev.mv rfl rfl) (QL.ev rfl rfl (fun _ _ => Ev.mv rfl rfl) ?_))
          obtain ⟨b4, ob4, cb4, hvb4, hI3, H⟩ := ixS_Int H (i := 1) rfl hx1
          refine QL.ev rfl rfl (fun _ _ => Ev.ixVN rfl el34 sz3 rfl hvb4 rfl (lt_of hx1)) (QL.ev rfl rfl (fun _ hq => Ev.ld rfl ag3 rfl (((H.ext hq).rA (i := 3) rfl).cell0 rfl)) (QL.ev rfl rfl (fun _ _ => Ev.mv rfl rfl) (QL.ev rfl rfl (fun _ _ => Ev.mv rfl rfl) ?_)))
          obtain ⟨b5, ob5, cb5, hvb5, hI4, H⟩ := ixS_Int H (i := 1) rfl hx2
          refine QL.ev rfl rfl (fun _ _ => Ev.ixVN rfl el34 sz3 rfl hvb5 rfl (lt_of hx2)) (QL.ev rfl rfl (fun _ hq => Ev.ld rfl ag3 rfl (((H.ext hq).rA (i := 5) rfl).cell0 rfl)) ?_)
          obtain ⟨y3, hy3, hb2⟩ := bd hb2
          refine QL.call rfl rfl rfl rfl rfl ok27 rfl (fun _ hq => sHasPair_ok hy3 ⟨_, rfl, hI1, ((H.ext hq).rS (i := 2) rfl)⟩ hI3 hI4) ?_
          refine QL.nil (fun w11 hE => ?_)
          have H := H.ext hE
          refine CW.condB rfl (fun h5 => ?_) (fun h5 => ?_)
          · skip
            have hb2 := ifp h5 hb2
            refine CW.quietT 13 hmix (by kernel_rfl) ?_
            refine QL.ev rfl rfl (fun _ _ => Ev.fa rfl fo39_1 rfl) (QL.ev rfl rfl (fun _ hq => Ev.ld rfl ag34 rfl (((H.ext hq).rB (i := 3) rfl).cell rfl)) (QL.ev rfl rfl (fun _ _ => Ev.mv rfl rfl) (QL.ev rfl rfl (fun _ _ => Ev.fa rfl fo39_1 rfl) (QL.ev rfl rfl (fun _ hq => Ev.ld rfl ag34 rfl (((H.ext hq).rB (i := 3) rfl).cell rfl)) (QL.ev rfl rfl (fun _ _ => Ev.mv rfl rfl) ?_)))))
            obtain ⟨x3, hx3, hb2⟩ := bd hb2
            obtain ⟨b6, cb6, hvb6, hbb6⟩ := H.ptO (i := 2) rfl hx3
            refine QL.ev rfl rfl (fun _ _ => Ev.ixVN rfl el34 sz3 rfl hvb6 rfl (lt_of hx3)) ?_
            obtain ⟨hA1, hI5, H⟩ := elO_Int H (i := 2) rfl hx3 hbb6
            refine QL.ev rfl rfl (fun _ hq => Ev.ld rfl ag3 rfl ((hA1.ext hq).cell0 rfl)) (QL.ev rfl rfl (fun _ _ => Ev.mv rfl rfl) (QL.ev rfl rfl (fun _ _ => Ev.convUI rfl Try.underlying3 it83 rfl (Int.natCast_nonneg _) (i64_nat hk4 hl1).2) ?_))
            obtain ⟨hg1, hb2⟩ := grd_some hb2
            refine QL.ev rfl rfl (fun _ _ => Ev.bin rfl rfl rfl (Bin.shlI hg1.1 hg1.2)) ?_
            obtain ⟨hg2, hb2⟩ := grd_some hb2
            refine QL.ev rfl rfl (fun _ _ => Ev.bin rfl rfl rfl (Bin.orI hg2.1 hI5.2 hg2.2 (i64_pow hg1.2).2)) ?_
            obtain ⟨b7, cb7, hvb7, hbb7⟩ := H.ptO (i := 2) rfl hx3
            refine QL.ev rfl rfl (fun _ _ => Ev.ixVN rfl el34 sz3 rfl hvb7 rfl (lt_of hx3)) (QL.nil (fun w12 hE => ?_))
            have H := H.ext hE
            refine WL.stOf (i := 2) (z := ((x3.toNat ||| ((2 ^ (k2 : Int).toNat : Nat) : Int).toNat : Nat) : Int)) rfl rfl rfl sz3 rfl rfl rfl (fun _ => ⟨rfl, rfl, (i64_or hg2 hI5 (i64_pow hg1.2))⟩) H rfl hbb7 (by simpa using lt_of hx3) fun w13 H => ?_
            refine WL.nil ?_
            refine CW.fresh [(1, .slice A1' n1' c1'), (2, .pointer (some ⟨b1, 0, none⟩)), (4, .pointer (some ⟨b2, 0, none⟩)), (5, .pointer (some ⟨b3, 0, none⟩)), (6, .int .i64 (k1 : Int)), (7, .int .i64 (k2 : Int))] ⟨rfl, rfl, rfl, rfl, rfl, rfl, trivial⟩ fun σ => ?_
            refine CW.reg ?_
            refine WL.ev rfl rfl (Ev.mv rfl rfl) (WL.ev rfl rfl (Ev.bin rfl rfl rfl (Bin.addN (a := k2) (b := 1) rfl (i64_succN hk4 hl1.2))) (WL.ev rfl rfl (Ev.as rfl rfl) (WL.nil ?_)))
            obtain rfl := sm hb2
            exact ⟨⟨k2 + 1, (s2.set k1 ((x3.toNat ||| ((2 ^ (k2 : Int).toNat : Nat) : Int).toNat : Nat) : Int)), (.slice A4 n4 c4)⟩, ⟨rfl, rfl, rfl, rfl, rfl, rfl, trivial⟩, ⟨hk4, hq2, H.keep 3 4⟩, Nat.sub_lt_sub_left hk4 (Nat.lt_succ_self _)⟩
          · skip
            have hb2 := ifn h5 hb2
            refine CW.skip ?_
            refine CW.reg ?_
            refine WL.ev rfl rfl (Ev.mv rfl rfl) (WL.ev rfl rfl (Ev.bin rfl rfl rfl (Bin.addN (a := k2) (b := 1) rfl (i64_succN hk4 hl1.2))) (WL.ev rfl rfl (Ev.as rfl rfl) (WL.nil ?_)))
            obtain rfl := sm hb2
            exact ⟨⟨k2 + 1, s2, (.slice A4 n4 c4)⟩, ⟨rfl, rfl, rfl, rfl, rfl, rfl, trivial⟩, ⟨hk4, hq2, H.keep 3 4⟩, Nat.sub_lt_sub_left hk4 (Nat.lt_succ_self _)⟩
        · skip
          obtain rfl := eachL_end hq2 (not_cast_lt h4)
          refine CW.exit ?_
          refine CW.reg ?_
          refine WL.ev rfl rfl (Ev.mv rfl rfl) (WL.ev rfl rfl (Ev.bin rfl rfl rfl (Bin.addN (a := k1) (b := 1) rfl (i64_succN hk2 hl1.2))) (WL.ev rfl rfl (Ev.as rfl rfl) (WL.nil ?_)))
          obtain rfl := sm hb1
          exact ⟨⟨k1 + 1, s2, (.slice A4 n4 c4)⟩, ⟨rfl, rfl, rfl, rfl, rfl, trivial⟩, ⟨hk2, hq1, H.keep 3 4⟩, Nat.sub_lt_sub_left hk2 (Nat.lt_succ_self _)⟩
      · skip
        obtain rfl := eachL_end hq1 (not_cast_lt h3)
        refine CW.exit ?_
        refine CW.seq (CW.reg ?_)
        refine WL.ev rfl rfl (Ev.lda rfl ag39 sz39 rfl (At.blk (H.rB (i := 3) rfl)) rfl) ?_
        refine WL.stB (i := 1) rfl rfl rfl sz39 rfl rfl rfl rfl (all1 rfl (all1 rfl all0)) H rfl rfl rfl fun w14 H => ?_
        refine WL.nil ?_
        refine CW.ret ?_
        obtain rfl := sm hr
        exact ⟨_, resC rfl ag39 sz39 rfl rfl (At.blk (H.rB (i := 1) rfl)) rfl, H.ext0, _, _, _, rfl, hI2, H.outM (fr' := []) [false, false, true, false] fun _ _ => trivial⟩

noncomputable def iwithin_m (a0 : Int) (a1 : Int) (a2 : Int) : Option Bool :=
  if a1 ≤ a0 then (
  some (decide (a0 ≤ a2))
  ) else (
  some false
  )
theorem iwithin_ok {a0 : Int} {a1 : Int} {a2 : Int} {r : Bool} (hr : iwithin_m a0 a1 a2 = some r) {F0 : Nat → Prop} {w0 : World} (ha0 : I64 a0) (ha1 : I64 a1) (ha2 : I64 a2) :
    Ret Try.prog 69 #[.int .i64 a0, .int .i64 a1, .int .i64 a2] w0 (fun _ => False) fun v w => v = .bool r := by
  have H := HL.start F0 w0
  refine enter Try.func69 rfl rfl rfl ?_
  refine CW.seq (CW.reg ?_)
  refine WL.ev rfl rfl (Ev.as rfl rfl) (WL.nil ?_)
  refine CW.seq (CW.reg ?_)
  refine WL.ev rfl rfl (Ev.mv rfl rfl) (WL.ev rfl rfl (Ev.mv rfl rfl) (WL.ev rfl rfl (Ev.bin rfl rfl rfl Bin.geq) ?_))
  refine WL.mvD rfl rfl rfl rfl (fun h1 => ?_) (fun h1 => ?_)
  · skip
    have hr := ifp h1 hr
    refine WL.on rfl rfl (WL.ev rfl rfl (Ev.mv rfl rfl) (WL.on rfl rfl (WL.ev rfl rfl (Ev.mv rfl rfl) (WL.on rfl rfl (WL.ev rfl rfl (Ev.bin rfl rfl rfl Bin.leq) (WL.ev rfl rfl (Ev.pickT rfl rfl rfl) (WL.ev rfl rfl (Ev.as rfl rfl) (WL.nil ?_))))))))
    refine CW.ret ?_
    obtain rfl := sm hr
    exact ⟨_, res1 rfl rfl rfl, H.ext0, rfl⟩
  · skip
    have hr := ifn h1 hr
    refine WL.off rfl rfl rfl (WL.off rfl rfl rfl (WL.off rfl rfl rfl (WL.ev rfl rfl (Ev.pickF rfl rfl rfl) (WL.ev rfl rfl (Ev.as rfl rfl) (WL.nil ?_)))))
    refine CW.ret ?_
    obtain rfl := sm hr
    exact ⟨_, res1 rfl rfl rfl, H.ext0, rfl⟩

noncomputable def iIsValidRelation_1_m (a0 : Int) (a1 : Relation) : Option Bool :=
  grd (0 ≤ a1.N) <|
  grd (0 ≤ a1.N ∧ a1.N < 63) <|
  (iwithin_m a0 0 (((2 ^ a1.N.toNat : Nat) : Int) - 1)).bind fun y1 =>
  some (!y1)
theorem iIsValidRelation_1_ok {a0 : Int} {a1 : Relation} {r : Bool} (hr : iIsValidRelation_1_m a0 a1 = some r) {F0 : Nat → Prop} {w0 : World} (ha0 : I64 a0) {b1p : Nat} (ha1 : CapP F0 w0 b1p a1) :
    Ret Try.prog 71 #[.int .i64 a0, .pointer (some ⟨b1p, 0, none⟩)] w0 (fun _ => False) fun v w => v = .bool r := by
  have H := HL.start F0 w0
  obtain ⟨cpa1, H⟩ := H.argP ha1
  obtain ⟨A1, n1, c1, rfl, hI1, H⟩ := op_Relation H (i := 1) rfl
  refine enter Try.func71 rfl rfl rfl ?_
  refine CW.seq (CW.reg ?_)
  refine WL.ev rfl rfl (Ev.as rfl rfl) (WL.nil ?_)
  refine CW.seq (CW.reg ?_)
  refine WL.ev rfl rfl (Ev.mv rfl rfl) (WL.ev rfl rfl (Ev.fa rfl fo39_0 rfl) (WL.ev rfl rfl (Ev.ld rfl ag3 rfl ((H.rA (i := 0) rfl).cell rfl)) ?_))
  obtain ⟨hg1, hr⟩ := grd_some hr
  refine WL.ev rfl rfl (Ev.convUI rfl Try.underlying3 it83 rfl hg1 hI1.2) ?_
  obtain ⟨hg2, hr⟩ := grd_some hr
  refine WL.ev rfl rfl (Ev.bin rfl rfl rfl (Bin.shlI hg2.1 hg2.2)) (WL.ev rfl rfl (Ev.bin rfl rfl rfl (Bin.sub (i64_sub (k := 1) (i64_pow hg2.2) (by decide)))) ?_)
  obtain ⟨y1, hy1, hr⟩ := bd hr
  refine WL.call rfl rfl rfl rfl rfl ok69 rfl (iwithin_ok hy1 (F0 := fun _ => False) ha0 (by decide : I64 0) (i64_sub (k := 1) (i64_pow hg2.2) (by decide))) ?_
  rintro _ w1 hE rfl
  have H := H.ext hE
  refine WL.ev rfl rfl (Ev.not rfl rfl) (WL.ev rfl rfl (Ev.as rfl rfl) (WL.nil ?_))
  refine CW.ret ?_
  obtain rfl := sm hr
  exact ⟨_, res1 rfl rfl rfl, H.ext0, rfl⟩

noncomputable def slices_IndexFunc_int_iIsValidRelation_1_L1 (a1_0 : Relation) : Nat → Int → Unit → Option (Unit ⊕ Int) := fun k1 x1 _ => 
  (iIsValidRelation_1_m x1 a1_0).bind fun y1 =>
  if y1 = true then (
  some (.inr (k1 : Int))
  ) else (
  some (.inl ())
  )
noncomputable def slices_IndexFunc_int_iIsValidRelation_1_m (a0 : (List Int)) (a1_0 : Relation) : Option Int :=
  (findL (slices_IndexFunc_int_iIsValidRelation_1_L1 a1_0) 0 a0 ()).bind <| onr (fun r1 => some r1) fun _ =>
  some (-1)
theorem slices_IndexFunc_int_iIsValidRelation_1_ok {a0 : (List Int)} {a1_0 : Relation} {r : Int} (hr : slices_IndexFunc_int_iIsValidRelation_1_m a0 a1_0 = some r) {F0 : Nat → Prop} {w0 : World} {z0 : Value} (ha0 : rdS F0 w0 a0 z0) {b1_0p : Nat} (ha1_0 : CapP F0 w0 b1_0p a1_0) :
    Ret Try.prog 95 #[z0, .func (.func 71) #[] #[.pointer (some ⟨b1_0p, 0, none⟩)]] w0 (fun _ => False) fun v w => v = .int .i64 r ∧ I64 r := by
  obtain ⟨A0', n0', c0', rfl⟩ := ha0.form3
  have H := (HL.start F0 w0).argS ha0
  obtain ⟨cpa1_0, H⟩ := H.argP ha1_0
  obtain ⟨A1, n1, c1, rfl, hI1, H⟩ := op_Relation H (i := 2) rfl
  refine enter Try.func95 rfl rfl rfl ?_
  refine CW.seq (CW.reg ?_)
  refine WL.ev rfl rfl (Ev.as rfl rfl) (WL.nil ?_)
  refine CW.seq (CW.seq (CW.reg ?_))
  refine WL.ev rfl rfl (Ev.mv rfl rfl) ?_
  have hl1 := (H.rS (i := 0) rfl).I
  refine WL.ev rfl rfl (Ev.lenV rfl el34 rfl (H.rS (i := 0) rfl)) (WL.ev rfl rfl (Ev.mv rfl rfl) (WL.nil ?_))
  obtain ⟨q1, hq1, hr⟩ := bd hr
  refine CW.block (CW.loop (α := Nat) (fun k1 => [(0, .slice A0' n0' c0'), (1, .func (.func 71) #[] #[.pointer (some ⟨b1_0p, 0, none⟩)]), (7, .int .i64 (a0.length : Int)), (8, .int .i64 (k1 : Int))]) (fun k1 w => k1 ≤ a0.length ∧ findL (slices_IndexFunc_int_iIsValidRelation_1_L1 a1_0) k1 (a0.drop k1) () = some q1 ∧ HL F0 [] w0 w [Pr.S a0 (.slice A0' n0' c0'), Pr.A b1_0p 0 [.int .i64 a1_0.N, .slice A1 n1 c1], Pr.R a1_0 [.int .i64 a1_0.N, .slice A1 n1 c1], Pr.S a1_0.Rows (.slice A1 n1 c1)] []) (fun k1 => a0.length - k1) 0 ⟨rfl, rfl, rfl, rfl, trivial⟩ ⟨Nat.zero_le _, hq1, H.keep 4 0⟩ ?_)
  rintro k1 σ w1 ⟨hk1, hq1, H⟩
  refine CW.seq (CW.reg ?_)
  refine WL.ev rfl rfl (Ev.bin rfl rfl rfl Bin.lss) (WL.nil ?_)
  refine CW.seq (CW.condD rfl (fun h1 => ?_) (fun h1 => ?_))
  · skip
    have hk2 := cast_lt h1
    obtain ⟨x1, z1, hx1, hb1, hs1, ht1⟩ := findL_go hq1 hk2
    refine CW.skip ?_
    refine CW.seq (CW.block (CW.seq (CW.reg ?_)))
    refine WL.ev rfl rfl (Ev.mv rfl rfl) (WL.ev rfl rfl (Ev.as rfl rfl) (WL.nil ?_))
    refine CW.seq (CW.reg ?_)
    refine WL.ev rfl rfl (Ev.mv rfl rfl) (WL.ev rfl rfl (Ev.mv rfl rfl) (WL.ev rfl rfl (Ev.mv rfl rfl) ?_))
    obtain ⟨b1, ob1, cb1, hvb1, hI2, H⟩ := ixS_Int H (i := 0) rfl hx1
    refine WL.ev rfl rfl (Ev.ixVN rfl el34 sz3 rfl hvb1 rfl (lt_of hx1)) (WL.ev rfl rfl (Ev.ld rfl ag3 rfl ((H.rA (i := 4) rfl).cell0 rfl)) ?_)
    obtain ⟨y1, hy1, hb1⟩ := bd hb1
    refine WL.call rfl rfl rfl rfl rfl ok71 rfl (iIsValidRelation_1_ok hy1 hI2 ⟨H.rAl (i := 1) rfl, _, H.rA (i := 1) rfl, ⟨_, rfl, hI1, (H.rS (i := 3) rfl)⟩⟩) ?_
    rintro _ w2 hE rfl
    have H := H.ext hE
    refine WL.nil ?_
    refine CW.condB rfl (fun h2 => ?_) (fun h2 => ?_)
    · skip
      have hb1 := ifp h2 hb1
      refine CW.seq (CW.reg ?_)
      refine WL.ev rfl rfl (Ev.mv rfl rfl) (WL.ev rfl rfl (Ev.as rfl rfl) (WL.nil ?_))
      refine CW.ret ?_
      obtain rfl := sm hb1
      obtain rfl := ht1 _ rfl
      obtain rfl := sm hr
      exact ⟨_, res1 rfl rfl rfl, H.ext0, rfl, (i64_nat hk2 hl1)⟩
    · skip
      have hb1 := ifn h2 hb1
      refine CW.skip ?_
      refine CW.reg ?_
      refine WL.ev rfl rfl (Ev.bin rfl rfl rfl (Bin.addN (a := k1) (b := 1) rfl (i64_succN hk2 hl1.2))) (WL.ev rfl rfl (Ev.mv rfl rfl) (WL.nil ?_))
      obtain rfl := sm hb1
      have hq1 := hs1 _ rfl
      exact ⟨(k1 + 1), ⟨rfl, rfl, rfl, rfl, trivial⟩, ⟨hk2, hq1, H.keep 4 0⟩, Nat.sub_lt_sub_left hk2 (Nat.lt_succ_self _)⟩
  · skip
    obtain rfl := findL_end hq1 (not_cast_lt h1)
    refine CW.exit ?_
    refine CW.seq (CW.reg ?_)
    refine WL.ev rfl rfl (Ev.as rfl rfl) (WL.nil ?_)
    refine CW.ret ?_
    obtain rfl := sm hr
    exact ⟨_, res1 rfl rfl rfl, H.ext0, rfl, (by decide : I64 (-1))⟩

noncomputable def slices_ContainsFunc_int_iIsValidRelation_1_m (a0 : (List Int)) (a1_0 : Relation) : Option Bool :=
  (slices_IndexFunc_int_iIsValidRelation_1_m a0 a1_0).bind fun y1 =>
  some (decide (0 ≤ y1))
theorem slices_ContainsFunc_int_iIsValidRelation_1_ok {a0 : (List Int)} {a1_0 : Relation} {r : Bool} (hr : slices_ContainsFunc_int_iIsValidRelation_1_m a0 a1_0 = some r) {F0 : Nat → Prop} {w0 : World} {z0 : Value} (ha0 : rdS F0 w0 a0 z0) {b1_0p : Nat} (ha1_0 : CapP F0 w0 b1_0p a1_0) :
    Ret Try.prog 70 #[z0, .func (.func 71) #[] #[.pointer (some ⟨b1_0p, 0, none⟩)]] w0 (fun _ => False) fun v w => v = .bool r := by
  obtain ⟨A0', n0', c0', rfl⟩ := ha0.form3
  have H := (HL.start F0 w0).argS ha0
  obtain ⟨cpa1_0, H⟩ := H.argP ha1_0
  obtain ⟨A1, n1, c1, rfl, hI1, H⟩ := op_Relation H (i := 2) rfl
  refine enter Try.func70 rfl rfl rfl ?_
  refine CW.seq (CW.reg ?_)
  refine WL.ev rfl rfl (Ev.as rfl rfl) (WL.nil ?_)
  refine CW.seq (CW.reg ?_)
  refine WL.ev rfl rfl (Ev.mv rfl rfl) (WL.ev rfl rfl (Ev.mv rfl rfl) ?_)
  obtain ⟨y1, hy1, hr⟩ := bd hr
  refine WL.call rfl rfl rfl rfl rfl ok95 rfl (slices_IndexFunc_int_iIsValidRelation_1_ok hy1 (H.rS (i := 0) rfl) ⟨H.rAl (i := 1) rfl, _, H.rA (i := 1) rfl, ⟨_, rfl, hI1, (H.rS (i := 3) rfl)⟩⟩) ?_
  rintro _ w1 hE ⟨rfl, hI2⟩
  have H := H.ext hE
  refine WL.ev rfl rfl (Ev.bin rfl rfl rfl Bin.geq) (WL.ev rfl rfl (Ev.as rfl rfl) (WL.nil ?_))
  refine CW.ret ?_
  obtain rfl := sm hr
  exact ⟨_, res1 rfl rfl rfl, H.ext0, rfl⟩

noncomputable def iIsValidRelation_m (a0 : Relation) : Option Bool :=
  (iwithin_m a0.N 0 16).bind fun y1 =>
  if y1 = true then (
  if (a0.Rows.length : Int) = a0.N then (
  (slices_ContainsFunc_int_iIsValidRelation_1_m a0.Rows a0).bind fun y2 =>
  some (!y2)
  ) else (
  some false
  )
  ) else (
  some false
  )
theorem iIsValidRelation_ok {a0 : Relation} {r : Bool} (hr : iIsValidRelation_m a0 = some r) {F0 : Nat → Prop} {w0 : World} {ca0 : List Value} (ha0 : rd F0 w0 a0 ca0) :
    Ret Try.prog 25 #[.agg ca0.toArray] w0 (fun _ => False) fun v w => v = .bool r := by
  have H := (HL.start F0 w0).argR ha0
  obtain ⟨A1, n1, c1, rfl, hI1, H⟩ := op_Relation H (i := 0) rfl
  refine enter Try.func25 rfl rfl rfl ?_
  refine CW.seq (CW.reg ?_)
  refine WL.boxH rfl rfl rfl rfl rfl H fun b1 w1 H => ?_
  refine WL.ev rfl rfl (Ev.as rfl rfl) (WL.nil ?_)
  refine CW.seq (CW.reg ?_)
  refine WL.ev rfl rfl (Ev.fa rfl fo39_0 rfl) (WL.ev rfl rfl (Ev.ld rfl ag3 rfl ((H.rB (i := 0) rfl).cell rfl)) ?_)
  obtain ⟨y1, hy1, hr⟩ := bd hr
  refine WL.call rfl rfl rfl rfl rfl ok69 rfl (iwithin_ok hy1 (F0 := fun _ => False) hI1 (by decide : I64 0) (by decide : I64 16)) ?_
  rintro _ w2 hE rfl
  have H := H.ext hE
  refine WL.mvB rfl rfl rfl rfl (fun h1 => ?_) (fun h1 => ?_)
  · skip
    have hr := ifp h1 hr
    refine WL.on rfl rfl (WL.ev rfl rfl (Ev.fa rfl fo39_1 rfl) (WL.on rfl rfl (WL.ev rfl rfl (Ev.ld rfl ag34 rfl ((H.rB (i := 0) rfl).cell rfl)) (WL.on rfl rfl ?_))))
    have hl1 := (H.rS (i := 1) rfl).I
    refine WL.ev rfl rfl (Ev.lenV rfl el34 rfl (H.rS (i := 1) rfl)) (WL.on rfl rfl (WL.ev rfl rfl (Ev.fa rfl fo39_0 rfl) (WL.on rfl rfl (WL.ev rfl rfl (Ev.ld rfl ag3 rfl ((H.rB (i := 0) rfl).cell rfl)) (WL.on rfl rfl (WL.ev rfl rfl (Ev.bin rfl rfl rfl Bin.eql) (WL.ev rfl rfl (Ev.pickT rfl rfl rfl) ?_)))))))
    refine WL.mvD rfl rfl rfl rfl (fun h2 => ?_) (fun h2 => ?_)
    · skip
      have hr := ifp h2 hr
      refine WL.on rfl rfl (WL.ev rfl rfl (Ev.fa rfl fo39_1 rfl) (WL.on rfl rfl (WL.ev rfl rfl (Ev.ld rfl ag34 rfl ((H.rB (i := 0) rfl).cell rfl)) (WL.on rfl rfl (WL.ev rfl rfl (Ev.mkfL rfl rfl rfl) (WL.on rfl rfl ?_))))))
      obtain ⟨y2, hy2, hr⟩ := bd hr
      refine WL.call rfl rfl rfl rfl rfl ok70 rfl (slices_ContainsFunc_int_iIsValidRelation_1_ok hy2 (H.rS (i := 1) rfl) ⟨(H.rB (i := 0) rfl).lt, _, At.blk (H.rB (i := 0) rfl), ⟨_, rfl, hI1, (H.rS (i := 1) rfl)⟩⟩) ?_
      rintro _ w3 hE rfl
      have H := H.ext hE
      refine WL.on rfl rfl (WL.ev rfl rfl (Ev.not rfl rfl) (WL.ev rfl rfl (Ev.pickT rfl rfl rfl) (WL.ev rfl rfl (Ev.as rfl rfl) (WL.nil ?_))))
      refine CW.ret ?_
      obtain rfl := sm hr
      exact ⟨_, res1 rfl rfl rfl, H.ext0, rfl⟩
    · skip
      have hr := ifn h2 hr
      refine WL.off rfl rfl rfl (WL.off rfl rfl rfl (WL.off rfl rfl rfl (WL.off rfl rfl rfl (WL.off rfl rfl rfl (WL.ev rfl rfl (Ev.pickF rfl rfl rfl) (WL.ev rfl rfl (Ev.as rfl rfl) (WL.nil ?_)))))))
      refine CW.ret ?_
      obtain rfl := sm hr
      exact ⟨_, res1 rfl rfl rfl, H.ext0, rfl⟩
  · skip
    have hr := ifn h1 hr
    refine WL.off rfl rfl rfl (WL.off rfl rfl rfl (WL.off rfl rfl rfl (WL.off rfl rfl rfl (WL.off rfl rfl rfl (WL.off rfl rfl rfl (WL.ev rfl rfl (Ev.pickF rfl rfl rfl) (WL.ev rfl rfl (Ev.mv rfl rfl) (WL.off rfl rfl rfl (WL.off rfl rfl rfl (WL.off rfl rfl rfl (WL.off rfl rfl rfl (WL.off rfl rfl rfl (WL.ev rfl rfl (Ev.pickF rfl rfl rfl) (WL.ev rfl rfl (Ev.as rfl rfl) (WL.nil ?_)))))))))))))))
    refine CW.ret ?_
    obtain rfl := sm hr
    exact ⟨_, res1 rfl rfl rfl, H.ext0, rfl⟩

noncomputable def iEmptyRelation_m (a0 : Int) : Option Relation :=
  (iwithin_m a0 0 16).bind fun y1 =>
  if y1 = true then (
  grd (0 ≤ a0 ∧ a0 * 8 ≤ 281474976710656 ∧ a0 ≤ 9223372036854775807) <|
  some (⟨a0, (List.replicate a0.toNat (0 : Int))⟩ : Relation)
  ) else (
  some (⟨0, []⟩ : Relation)
  )
theorem iEmptyRelation_ok {a0 : Int} {r : Relation} (hr : iEmptyRelation_m a0 = some r) {F0 : Nat → Prop} {w0 : World} (ha0 : I64 a0) :
    Ret Try.prog 79 #[.int .i64 a0] w0 (fun _ => False) fun v w => ∃ A0 : Option Addr, ∃ n0 c0 : Nat, v = .agg #[.int .i64 r.N, (.slice A0 n0 c0)] ∧ I64 r.N ∧ HL F0 [] w0 w [] [It.O 3 r.Rows (.slice A0 n0 c0)] := by
  have H := HL.start F0 w0
  refine enter Try.func79 rfl rfl rfl ?_
  refine CW.seq (CW.reg ?_)
  refine WL.allocH rfl rfl rfl ze39 H fun b1 w1 H => ?_
  refine WL.nil ?_
  refine CW.seq (CW.seq (CW.reg ?_))
  refine WL.ev rfl rfl (Ev.mv rfl rfl) ?_
  obtain ⟨y1, hy1, hr⟩ := bd hr
  refine WL.call rfl rfl rfl rfl rfl ok69 rfl (iwithin_ok hy1 (F0 := fun _ => False) ha0 (by decide : I64 0) (by decide : I64 16)) ?_
  rintro _ w2 hE rfl
  have H := H.ext hE
  refine WL.ev rfl rfl (Ev.not rfl rfl) (WL.nil ?_)
  refine CW.condBN rfl (fun h1 => ?_) (fun h1 => ?_)
  · skip
    have hr := ifn h1 hr
    refine CW.seq (CW.reg ?_)
    refine WL.ev rfl rfl (Ev.build rfl pl39 ze39 rfl rfl rfl rfl) ?_
    refine WL.stB (i := 0) rfl rfl rfl sz39 rfl rfl rfl rfl (all1 rfl (all1 rfl all0)) H rfl rfl rfl fun w3 H => ?_
    refine WL.nil ?_
    refine CW.ret ?_
    have H := H.nil (α := Int) 3
    obtain rfl := sm hr
    exact ⟨_, resC rfl ag39 sz39 rfl rfl (At.blk (H.rB (i := 0) rfl)) rfl, H.ext0, _, _, _, rfl, (by decide : I64 0), H.outM (fr' := []) [false, true] fun _ _ => trivial⟩
  · skip
    have hr := ifp h1 hr
    refine CW.skip ?_
    refine CW.seq (CW.reg ?_)
    refine WL.ev rfl rfl (Ev.mv rfl rfl) (WL.ev rfl rfl (Ev.mv rfl rfl) ?_)
    obtain ⟨hg1, hr⟩ := grd_some hr
    refine WL.mkH (x := (0 : Int)) rfl rfl rfl el34 sz3 by3 ze3 (fun _ => ⟨rfl, rfl, (by decide : I64 0)⟩) rfl rfl hg1 H fun A1 n1 c1 w4 H => ?_
    refine WL.ev rfl rfl (Ev.build rfl pl39 ze39 rfl rfl rfl rfl) ?_
    refine WL.stB (i := 0) rfl rfl rfl sz39 rfl rfl rfl rfl (all1 rfl (all1 rfl all0)) H rfl rfl rfl fun w5 H => ?_
    refine WL.nil ?_
    refine CW.ret ?_
    obtain rfl := sm hr
    exact ⟨_, resC rfl ag39 sz39 rfl rfl (At.blk (H.rB (i := 0) rfl)) rfl, H.ext0, _, _, _, rfl, ha0, H.outM (fr' := []) [false, true] fun _ _ => trivial⟩

noncomputable def iHasPair_m (a0 : Relation) (a1 : Int) (a2 : Int) : Option Bool :=
  (iIsValidRelation_m a0).bind fun y1 =>
  if y1 = true then (
  grd (I64 (a0.N - 1)) <|
  (iwithin_m a1 0 (a0.N - 1)).bind fun y2 =>
  if y2 = true then (
  grd (I64 (a0.N - 1)) <|
  (iwithin_m a2 0 (a0.N - 1)).bind fun y3 =>
  if y3 = true then (
  grd (0 ≤ a1) <|
  (a0.Rows[a1.toNat]?).bind fun x1 =>
  grd (0 ≤ a2) <|
  grd (0 ≤ x1 ∧ 0 ≤ a2 ∧ a2 < 64) <|
  grd (0 ≤ ((x1.toNat >>> a2.toNat : Nat) : Int) ∧ 0 ≤ (1 : Int)) <|
  some (decide (((((x1.toNat >>> a2.toNat : Nat) : Int).toNat &&& (1 : Int).toNat : Nat) : Int) = 1))
  ) else (
  some false
  )
  ) else (
  some false
  )
  ) else (
  some false
  )
theorem iHasPair_ok {a0 : Relation} {a1 : Int} {a2 : Int} {r : Bool} (hr : iHasPair_m a0 a1 a2 = some r) {F0 : Nat → Prop} {w0 : World} {ca0 : List Value} (ha0 : rd F0 w0 a0 ca0) (ha1 : I64 a1) (ha2 : I64 a2) :
    Ret Try.prog 28 #[.agg ca0.toArray, .int .i64 a1, .int .i64 a2] w0 (fun _ => False) fun v w => v = .bool r := by
  have H := (HL.start F0 w0).argR ha0
  obtain ⟨A1, n1, c1, rfl, hI1, H⟩ := op_Relation H (i := 0) rfl
  refine enter Try.func28 rfl rfl rfl ?_
  refine CW.seq (CW.reg ?_)
  refine WL.boxH rfl rfl rfl rfl rfl H fun b1 w1 H => ?_
  refine WL.ev rfl rfl (Ev.as rfl rfl) (WL.nil ?_)
  refine CW.seq (CW.reg ?_)
  refine WL.ev rfl rfl (Ev.lda rfl ag39 sz39 rfl (At.blk (H.rB (i := 0) rfl)) rfl) ?_
  obtain ⟨y1, hy1, hr⟩ := bd hr
  refine WL.call rfl rfl rfl rfl rfl ok25 rfl (iIsValidRelation_ok hy1 ⟨_, rfl, hI1, (H.rS (i := 1) rfl)⟩) ?_
  rintro _ w2 hE rfl
  have H := H.ext hE
  refine WL.mvB rfl rfl rfl rfl (fun h1 => ?_) (fun h1 => ?_)
  · skip
    have hr := ifp h1 hr
    refine WL.on rfl rfl (WL.ev rfl rfl (Ev.mv rfl rfl) (WL.on rfl rfl (WL.ev rfl rfl (Ev.fa rfl fo39_0 rfl) (WL.on rfl rfl (WL.ev rfl rfl (Ev.ld rfl ag3 rfl ((H.rB (i := 0) rfl).cell rfl)) (WL.on rfl rfl ?_))))))
    obtain ⟨hg1, hr⟩ := grd_some hr
    refine WL.ev rfl rfl (Ev.bin rfl rfl rfl (Bin.sub hg1)) (WL.on rfl rfl ?_)
    obtain ⟨y2, hy2, hr⟩ := bd hr
    refine WL.call rfl rfl rfl rfl rfl ok69 rfl (iwithin_ok hy2 (F0 := fun _ => False) ha1 (by decide : I64 0) hg1) ?_
    rintro _ w3 hE rfl
    have H := H.ext hE
    refine WL.ev rfl rfl (Ev.pickT rfl rfl rfl) ?_
    refine WL.mvB rfl rfl rfl rfl (fun h2 => ?_) (fun h2 => ?_)
    · skip
      have hr := ifp h2 hr
      refine WL.on rfl rfl (WL.ev rfl rfl (Ev.mv rfl rfl) (WL.on rfl rfl (WL.ev rfl rfl (Ev.fa rfl fo39_0 rfl) (WL.on rfl rfl (WL.ev rfl rfl (Ev.ld rfl ag3 rfl ((H.rB (i := 0) rfl).cell rfl)) (WL.on rfl rfl ?_))))))
      obtain ⟨hg2, hr⟩ := grd_some hr
      refine WL.ev rfl rfl (Ev.bin rfl rfl rfl (Bin.sub hg2)) (WL.on rfl rfl ?_)
      obtain ⟨y3, hy3, hr⟩ := bd hr
      refine WL.call rfl rfl rfl rfl rfl ok69 rfl (iwithin_ok hy3 (F0 := fun _ => False) ha2 (by decide : I64 0) hg2) ?_
      rintro _ w4 hE rfl
      have H := H.ext hE
      refine WL.ev rfl rfl (Ev.pickT rfl rfl rfl) ?_
      refine WL.mvB rfl rfl rfl rfl (fun h3 => ?_) (fun h3 => ?_)
      · skip
        have hr := ifp h3 hr
        refine WL.on rfl rfl (WL.ev rfl rfl (Ev.fa rfl fo39_1 rfl) (WL.on rfl rfl (WL.ev rfl rfl (Ev.ld rfl ag34 rfl ((H.rB (i := 0) rfl).cell rfl)) (WL.on rfl rfl (WL.ev rfl rfl (Ev.mv rfl rfl) (WL.on rfl rfl ?_))))))
        obtain ⟨hg3, hr⟩ := grd_some hr
        obtain ⟨x1, hx1, hr⟩ := bd hr
        obtain ⟨b2, ob2, cb2, hvb2, hI2, H⟩ := ixS_Int H (i := 1) rfl hx1
        refine WL.ev rfl rfl (Ev.ixV rfl el34 sz3 rfl hvb2 rfl hg3 (lt_of hx1)) (WL.on rfl rfl (WL.ev rfl rfl (Ev.ld rfl ag3 rfl ((H.rA (i := 2) rfl).cell0 rfl)) (WL.on rfl rfl (WL.ev rfl rfl (Ev.mv rfl rfl) (WL.on rfl rfl ?_)))))
        obtain ⟨hg4, hr⟩ := grd_some hr
        refine WL.ev rfl rfl (Ev.convUI rfl Try.underlying3 it83 rfl hg4 ha2.2) (WL.on rfl rfl ?_)
        obtain ⟨hg5, hr⟩ := grd_some hr
        refine WL.ev rfl rfl (Ev.bin rfl rfl rfl (Bin.shrI hg5.1 hg5.2.1 hg5.2.2)) (WL.on rfl rfl ?_)
        obtain ⟨hg6, hr⟩ := grd_some hr
        refine WL.ev rfl rfl (Ev.bin rfl rfl rfl (Bin.andI hg6.1 (i64_shr hI2).2 hg6.2 (by decide : I64 1).2)) (WL.on rfl rfl (WL.ev rfl rfl (Ev.bin rfl rfl rfl Bin.eql) (WL.ev rfl rfl (Ev.pickT rfl rfl rfl) (WL.ev rfl rfl (Ev.as rfl rfl) (WL.nil ?_)))))
        refine CW.ret ?_
        obtain rfl := sm hr
        exact ⟨_, res1 rfl rfl rfl, H.ext0, rfl⟩
      · skip
        have hr := ifn h3 hr
        refine WL.off rfl rfl rfl (WL.off rfl rfl rfl (WL.off rfl rfl rfl (WL.off rfl rfl rfl (WL.off rfl rfl rfl (WL.off rfl rfl rfl (WL.off rfl rfl rfl (WL.off rfl rfl rfl (WL.off rfl rfl rfl (WL.off rfl rfl rfl (WL.ev rfl rfl (Ev.pickF rfl rfl rfl) (WL.ev rfl rfl (Ev.as rfl rfl) (WL.nil ?_))))))))))))
        refine CW.ret ?_
        obtain rfl := sm hr
        exact ⟨_, res1 rfl rfl rfl, H.ext0, rfl⟩
    · skip
      have hr := ifn h2 hr
      refine WL.off rfl rfl rfl (WL.off rfl rfl rfl (WL.off rfl rfl rfl (WL.off rfl rfl rfl (WL.off rfl rfl rfl (WL.ev rfl rfl (Ev.pickF rfl rfl rfl) (WL.ev rfl rfl (Ev.mv rfl rfl) (WL.off rfl rfl rfl (WL.off rfl rfl rfl (WL.off rfl rfl rfl (WL.off rfl rfl rfl (WL.off rfl rfl rfl (WL.off rfl rfl rfl (WL.off rfl rfl rfl (WL.off rfl rfl rfl (WL.off rfl rfl rfl (WL.off rfl rfl rfl (WL.ev rfl rfl (Ev.pickF rfl rfl rfl) (WL.ev rfl rfl (Ev.as rfl rfl) (WL.nil ?_)))))))))))))))))))
      refine CW.ret ?_
      obtain rfl := sm hr
      exact ⟨_, res1 rfl rfl rfl, H.ext0, rfl⟩
  · skip
    have hr := ifn h1 hr
    refine WL.off rfl rfl rfl (WL.off rfl rfl rfl (WL.off rfl rfl rfl (WL.off rfl rfl rfl (WL.off rfl rfl rfl (WL.ev rfl rfl (Ev.pickF rfl rfl rfl) (WL.ev rfl rfl (Ev.mv rfl rfl) (WL.off rfl rfl rfl (WL.off rfl rfl rfl (WL.off rfl rfl rfl (WL.off rfl rfl rfl (WL.off rfl rfl rfl (WL.ev rfl rfl (Ev.pickF rfl rfl rfl) (WL.ev rfl rfl (Ev.mv rfl rfl) (WL.off rfl rfl rfl (WL.off rfl rfl rfl (WL.off rfl rfl rfl (WL.off rfl rfl rfl (WL.off rfl rfl rfl (WL.off rfl rfl rfl (WL.off rfl rfl rfl (WL.off rfl rfl rfl (WL.off rfl rfl rfl (WL.off rfl rfl rfl (WL.ev rfl rfl (Ev.pickF rfl rfl rfl) (WL.ev rfl rfl (Ev.as rfl rfl) (WL.nil ?_))))))))))))))))))))))))))
    refine CW.ret ?_
    obtain rfl := sm hr
    exact ⟨_, res1 rfl rfl rfl, H.ext0, rfl⟩

noncomputable def iProjectRelation_L2 (a0 : Relation) (k1 : Nat) (x1 : Int) : Nat → Int → (List Int) → Option (List Int) := fun k2 x2 s2 => 
  (iHasPair_m a0 x1 x2).bind fun y3 =>
  if y3 = true then (
  (s2[k1]?).bind fun x3 =>
  grd (0 ≤ (k2 : Int) ∧ (k2 : Int) < 63) <|
  grd (0 ≤ x3 ∧ 0 ≤ ((2 ^ (k2 : Int).toNat : Nat) : Int)) <|
  some (s2.set k1 ((x3.toNat ||| ((2 ^ (k2 : Int).toNat : Nat) : Int).toNat : Nat) : Int))
  ) else (
  some s2
  )
noncomputable def iProjectRelation_L1 (a0 : Relation) (a1 : (List Int)) : Nat → Int → (List Int) → Option (List Int) := fun k1 x1 s1 => 
  (eachL (iProjectRelation_L2 a0 k1 x1) 0 a1 s1).bind fun s2 =>
  some s2
noncomputable def iProjectRelation_m (a0 : Relation) (a1 : (List Int)) : Option Relation :=
  (iIsValidRelation_m a0).bind fun y1 =>
  if y1 = true then (
  if 16 < (a1.length : Int) then (
  some (⟨0, []⟩ : Relation)
  ) else (
  (iEmptyRelation_m (a1.length : Int)).bind fun y2 =>
  (eachL (iProjectRelation_L1 a0 a1) 0 a1 y2.Rows).bind fun s1 =>
  some (⟨y2.N, s1⟩ : Relation)
  )
  ) else (
  some (⟨0, []⟩ : Relation)
  )
theorem iProjectRelation_ok {a0 : Relation} {a1 : (List Int)} {r : Relation} (hr : iProjectRelation_m a0 a1 = some r) {F0 : Nat → Prop} {w0 : World} {ca0 : List Value} (ha0 : rd F0 w0 a0 ca0) {z1 : Value} (ha1 : rdS F0 w0 a1 z1) :
    Ret Try.prog 46 #[.agg ca0.toArray, z1] w0 (fun _ => False) fun v w => ∃ A0 : Option Addr, ∃ n0 c0 : Nat, v = .agg #[.int .i64 r.N, (.slice A0 n0 c0)] ∧ I64 r.N ∧ HL F0 [] w0 w [] [It.O 3 r.Rows (.slice A0 n0 c0)] := by
  obtain ⟨A1', n1', c1', rfl⟩ := ha1.form3
  have H := ((HL.start F0 w0).argR ha0).argS ha1
  obtain ⟨A1, n1, c1, rfl, hI1, H⟩ := op_Relation H (i := 0) rfl
  refine enter Try.func46 rfl rfl rfl ?_
  refine CW.seq (CW.reg ?_)
  refine WL.boxH rfl rfl rfl rfl rfl H fun b1 w1 H => ?_
  refine WL.allocH rfl rfl rfl ze39 H fun b2 w2 H => ?_
  refine WL.nil ?_
  refine CW.seq (CW.seq (CW.reg ?_))
  refine WL.ev rfl rfl (Ev.lda rfl ag39 sz39 rfl (At.blk (H.rB (i := 0) rfl)) rfl) ?_
  obtain ⟨y1, hy1, hr⟩ := bd hr
  refine WL.call rfl rfl rfl rfl rfl ok25 rfl (iIsValidRelation_ok hy1 ⟨_, rfl, hI1, (H.rS (i := 2) rfl)⟩) ?_
  rintro _ w3 hE rfl
  have H := H.ext hE
  refine WL.ev rfl rfl (Ev.not rfl rfl) ?_
  refine WL.mvBN rfl rfl rfl rfl (fun h1 => ?_) (fun h1 => ?_)
  · skip
    have hr := ifn h1 hr
    refine WL.off rfl rfl rfl (WL.off rfl rfl rfl (WL.off rfl rfl rfl (WL.ev rfl rfl (Ev.pickT rfl rfl rfl) (WL.nil ?_))))
    refine CW.condT rfl ?_
    refine CW.seq (CW.reg ?_)
    refine WL.ev rfl rfl (Ev.build rfl pl39 ze39 rfl rfl rfl rfl) ?_
    refine WL.stB (i := 1) rfl rfl rfl sz39 rfl rfl rfl rfl (all1 rfl (all1 rfl all0)) H rfl rfl rfl fun w4 H => ?_
    refine WL.nil ?_
    refine CW.ret ?_
    have H := H.nil (α := Int) 3
    obtain rfl := sm hr
    exact ⟨_, resC rfl ag39 sz39 rfl rfl (At.blk (H.rB (i := 1) rfl)) rfl, H.ext0, _, _, _, rfl, (by decide : I64 0), H.outM (fr' := []) [false, false, true] fun _ _ => trivial⟩
  · skip
    have hr := ifp h1 hr
    refine WL.on rfl rfl (WL.ev rfl rfl (Ev.mv rfl rfl) (WL.on rfl rfl ?_))
    have hl1 := (H.rS (i := 1) rfl).I
    refine WL.ev rfl rfl (Ev.lenV rfl el34 rfl (H.rS (i := 1) rfl)) (WL.on rfl rfl (WL.ev rfl rfl (Ev.bin rfl rfl rfl Bin.gtr) (WL.ev rfl rfl (Ev.pickF rfl rfl rfl) (WL.nil ?_))))
    refine CW.condD rfl (fun h2 => ?_) (fun h2 => ?_)
    · skip
      have hr := ifp h2 hr
      refine CW.seq (CW.reg ?_)
      refine WL.ev rfl rfl (Ev.build rfl pl39 ze39 rfl rfl rfl rfl) ?_
      refine WL.stB (i := 1) rfl rfl rfl sz39 rfl rfl rfl rfl (all1 rfl (all1 rfl all0)) H rfl rfl rfl fun w5 H => ?_
      refine WL.nil ?_
      refine CW.ret ?_
      have H := H.nil (α := Int) 3
      obtain rfl := sm hr
      exact ⟨_, resC rfl ag39 sz39 rfl rfl (At.blk (H.rB (i := 1) rfl)) rfl, H.ext0, _, _, _, rfl, (by decide : I64 0), H.outM (fr' := []) [false, false, true] fun _ _ => trivial⟩
    · skip
      have hr := ifn h2 hr
      refine CW.skip ?_
      refine CW.seq (CW.reg ?_)
      refine WL.ev rfl rfl (Ev.mv rfl rfl) (WL.ev rfl rfl (Ev.lenV rfl el34 rfl (H.rS (i := 1) rfl)) ?_)
      obtain ⟨y2, hy2, hr⟩ := bd hr
      refine WL.call rfl rfl rfl rfl rfl ok79 rfl (iEmptyRelation_ok hy2 (F0 := fun _ => False) hl1) ?_
      rintro _ w6 hE ⟨A2, n2, c2, rfl, hI2, H'⟩
      have H := H.callA H' ⟨fun _ _ _ _ _ h => h, trivial⟩
      refine WL.allocH rfl rfl rfl ze39 H fun b3 w7 H => ?_
      refine WL.stB (i := 3) rfl rfl rfl sz39 rfl rfl rfl rfl (all1 rfl (all1 rfl all0)) H rfl rfl rfl fun w8 H => ?_
      refine WL.nil ?_
      refine CW.seq (CW.seq (CW.reg ?_))
      refine WL.ev rfl rfl (Ev.mv rfl rfl) (WL.ev rfl rfl (Ev.lenV rfl el34 rfl (H.rS (i := 1) rfl)) (WL.ev rfl rfl (Ev.mv rfl rfl) (WL.nil ?_)))
      obtain ⟨q1, hq1, hr⟩ := bd hr
      refine CW.block (CW.loop (α := Nat × (List Int) × Value) (fun ⟨k1, s1, v1⟩ => [(1, .slice A1' n1' c1'), (2, .pointer (some ⟨b1, 0, none⟩)), (4, .pointer (some ⟨b2, 0, none⟩)), (5, .pointer (some ⟨b3, 0, none⟩)), (22, .slice A1' n1' c1'), (23, .int .i64 (a1.length : Int)), (24, .int .i64 (k1 : Int))]) (fun ⟨k1, s1, v1⟩ w => k1 ≤ a1.length ∧ eachL (iProjectRelation_L1 a0 a1) k1 (a1.drop k1) s1 = some q1 ∧ HL F0 [] w0 w [Pr.R a0 [.int .i64 a0.N, .slice A1 n1 c1], Pr.S a1 (.slice A1' n1' c1'), Pr.S a0.Rows (.slice A1 n1 c1)] [It.B b1 39 [.int .i64 a0.N, .slice A1 n1 c1], It.B b2 39 [.int .i64 0, .slice none 0 0], It.O 3 s1 v1, It.B b3 39 [.int .i64 y2.N, v1]]) (fun ⟨k1, s1, v1⟩ => a1.length - k1) ⟨0, y2.Rows, (.slice A2 n2 c2)⟩ ⟨rfl, rfl, rfl, rfl, rfl, rfl, rfl, trivial⟩ ⟨Nat.zero_le _, hq1, H.keep 3 4⟩ ?_)
      rintro ⟨k1, s1, v1⟩ σ w9 ⟨hk1, hq1, H⟩
      obtain ⟨A3, n3, c3, rfl⟩ := (H.rO (i := 2) rfl).form3
      refine CW.seq (CW.reg ?_)
      refine WL.ev rfl rfl (Ev.bin rfl rfl rfl Bin.lss) (WL.nil ?_)
      refine CW.seq (CW.condD rfl (fun h3 => ?_) (fun h3 => ?_))
      · skip
        have hk2 := cast_lt h3
        obtain ⟨x1, z1, hx1, hb1, hq1⟩ := eachL_go hq1 hk2
        refine CW.skip ?_
        refine CW.seq (CW.block (CW.seq (CW.reg ?_)))
        refine WL.ev rfl rfl (Ev.mv rfl rfl) ?_
        obtain ⟨b4, ob4, cb4, hvb4, hI3, H⟩ := ixS_Int H (i := 1) rfl hx1
        refine WL.ev rfl rfl (Ev.ixVN rfl el34 sz3 rfl hvb4 rfl (lt_of hx1)) (WL.ev rfl rfl (Ev.ld rfl ag3 rfl ((H.rA (i := 3) rfl).cell0 rfl)) (WL.ev rfl rfl (Ev.as rfl rfl) (WL.ev rfl rfl (Ev.as rfl rfl) (WL.nil ?_))))
        refine CW.seq (CW.reg ?_)
        refine WL.ev rfl rfl (Ev.mv rfl rfl) (WL.ev rfl rfl (Ev.lenV rfl el34 rfl (H.rS (i := 1) rfl)) (WL.ev rfl rfl (Ev.mv rfl rfl) (WL.nil ?_)))
        obtain ⟨q2, hq2, hb1⟩ := bd hb1
        refine CW.block (CW.loop (α := Nat × (List Int) × Value) (fun ⟨k2, s2, v2⟩ => [(1, .slice A1' n1' c1'), (2, .pointer (some ⟨b1, 0, none⟩)), (4, .pointer (some ⟨b2, 0, none⟩)), (5, .pointer (some ⟨b3, 0, none⟩)), (6, .int .i64 (k1 : Int)), (7, .int .i64 x1), (22, .slice A1' n1' c1'), (23, .int .i64 (a1.length : Int)), (24, .int .i64 (k1 : Int)), (29, .slice A1' n1' c1'), (30, .int .i64 (a1.length : Int)), (31, .int .i64 (k2 : Int))]) (fun ⟨k2, s2, v2⟩ w => k2 ≤ a1.length ∧ eachL (iProjectRelation_L2 a0 k1 x1) k2 (a1.drop k2) s2 = some q2 ∧ HL F0 [] w0 w [Pr.R a0 [.int .i64 a0.N, .slice A1 n1 c1], Pr.S a1 (.slice A1' n1' c1'), Pr.S a0.Rows (.slice A1 n1 c1), Pr.A b4 (ob4 + k1 * 1) [.int .i64 x1], Pr.R x1 [.int .i64 x1]] [It.B b1 39 [.int .i64 a0.N, .slice A1 n1 c1], It.B b2 39 [.int .i64 0, .slice none 0 0], It.O 3 s2 v2, It.B b3 39 [.int .i64 y2.N, v2]]) (fun ⟨k2, s2, v2⟩ => a1.length - k2) ⟨0, s1, (.slice A3 n3 c3)⟩ ⟨rfl, rfl, rfl, rfl, rfl, rfl, rfl, rfl, rfl, rfl, rfl, rfl, trivial⟩ ⟨Nat.zero_le _, hq2, H.keep 5 4⟩ ?_)
        rintro ⟨k2, s2, v2⟩ σ w10 ⟨hk3, hq2, H⟩
        obtain ⟨A4, n4, c4, rfl⟩ := (H.rO (i := 2) rfl).form3
        refine CW.seq (CW.reg ?_)
        refine WL.ev rfl rfl (Ev.bin rfl rfl rfl Bin.lss) (WL.nil ?_)
        refine CW.seq (CW.condD rfl (fun h4 => ?_) (fun h4 => ?_))
        · skip
          have hk4 := cast_lt h4
          obtain ⟨x2, z2, hx2, hb2, hq2⟩ := eachL_go hq2 hk4
          refine CW.skip ?_
          refine CW.seq (CW.block (CW.seq (CW.reg ?_)))
          refine WL.ev rfl rfl (Ev.mv rfl rfl) ?_
          obtain ⟨b5, ob5, cb5, hvb5, hI4, H⟩ := ixS_Int H (i := 1) rfl hx2
          refine WL.ev rfl rfl (Ev.ixVN rfl el34 sz3 rfl hvb5 rfl (lt_of hx2)) (WL.ev rfl rfl (Ev.ld rfl ag3 rfl ((H.rA (i := 5) rfl).cell0 rfl)) (WL.ev rfl rfl (Ev.as rfl rfl) (WL.ev rfl rfl (Ev.as rfl rfl) (WL.nil ?_))))
          refine CW.seq (CW.reg ?_)
          refine WL.ev rfl rfl (Ev.lda rfl ag39 sz39 rfl (At.blk (H.rB (i := 0) rfl)) rfl) (WL.ev rfl rfl (Ev.mv rfl rfl) (WL.ev rfl rfl (Ev.mv rfl rfl) ?_))
          obtain ⟨y3, hy3, hb2⟩ := bd hb2
          refine WL.call rfl rfl rfl rfl rfl ok28 rfl (iHasPair_ok hy3 ⟨_, rfl, hI1, (H.rS (i := 2) rfl)⟩ hI3 hI4) ?_
          rintro _ w11 hE rfl
          have H := H.ext hE
          refine WL.nil ?_
          refine CW.condB rfl (fun h5 => ?_) (fun h5 => ?_)
          · skip
            have hb2 := ifp h5 hb2
            refine CW.reg ?_
            refine WL.ev rfl rfl (Ev.fa rfl fo39_1 rfl) (WL.ev rfl rfl (Ev.ld rfl ag34 rfl ((H.rB (i := 3) rfl).cell rfl)) (WL.ev rfl rfl (Ev.mv rfl rfl) ?_))
            obtain ⟨x3, hx3, hb2⟩ := bd hb2
            obtain ⟨b6, cb6, hvb6, hbb6⟩ := H.ptO (i := 2) rfl hx3
            refine WL.ev rfl rfl (Ev.ixVN rfl el34 sz3 rfl hvb6 rfl (lt_of hx3)) ?_
            obtain ⟨hA1, hI5, H⟩ := elO_Int H (i := 2) rfl hx3 hbb6
            refine WL.ev rfl rfl (Ev.ld rfl ag3 rfl (hA1.cell0 rfl)) (WL.ev rfl rfl (Ev.mv rfl rfl) (WL.ev rfl rfl (Ev.convUI rfl Try.underlying3 it83 rfl (Int.natCast_nonneg _) (i64_nat hk4 hl1).2) ?_))
            obtain ⟨hg1, hb2⟩ := grd_some hb2
            refine WL.ev rfl rfl (Ev.bin rfl rfl rfl (Bin.shlI hg1.1 hg1.2)) ?_
            obtain ⟨hg2, hb2⟩ := grd_some hb2
            refine WL.ev rfl rfl (Ev.bin rfl rfl rfl (Bin.orI hg2.1 hI5.2 hg2.2 (i64_pow hg1.2).2)) ?_
            obtain ⟨b7, cb7, hvb7, hbb7⟩ := H.ptO (i := 2) rfl hx3
            refine WL.ev rfl rfl (Ev.ixVN rfl el34 sz3 rfl hvb7 rfl (lt_of hx3)) ?_
            refine WL.stOf (i := 2) (z := ((x3.toNat ||| ((2 ^ (k2 : Int).toNat : Nat) : Int).toNat : Nat) : Int)) rfl rfl rfl sz3 rfl rfl rfl (fun _ => ⟨rfl, rfl, (i64_or hg2 hI5 (i64_pow hg1.2))⟩) H rfl hbb7 (by simpa using lt_of hx3) fun w12 H => ?_
            refine WL.nil ?_
            refine CW.reg ?_
            refine WL.ev rfl rfl (Ev.bin rfl rfl rfl (Bin.addN (a := k2) (b := 1) rfl (i64_succN hk4 hl1.2))) (WL.ev rfl rfl (Ev.mv rfl rfl) (WL.nil ?_))
            obtain rfl := sm hb2
            exact ⟨⟨k2 + 1, (s2.set k1 ((x3.toNat ||| ((2 ^ (k2 : Int).toNat : Nat) : Int).toNat : Nat) : Int)), (.slice A4 n4 c4)⟩, ⟨rfl, rfl, rfl, rfl, rfl, rfl, rfl, rfl, rfl, rfl, rfl, rfl, trivial⟩, ⟨hk4, hq2, H.keep 5 4⟩, Nat.sub_lt_sub_left hk4 (Nat.lt_succ_self _)⟩
          · skip
            have hb2 := ifn h5 hb2
            refine CW.skip ?_
            refine CW.reg ?_
            refine WL.ev rfl rfl (Ev.bin rfl rfl rfl (Bin.addN (a := k2) (b := 1) rfl (i64_succN hk4 hl1.2))) (WL.ev rfl rfl (Ev.mv rfl rfl) (WL.nil ?_))
            obtain rfl := sm hb2
            exact ⟨⟨k2 + 1, s2, (.slice A4 n4 c4)⟩, ⟨rfl, rfl, rfl, rfl, rfl, rfl, rfl, rfl, rfl, rfl, rfl, rfl, trivial⟩, ⟨hk4, hq2, H.keep 5 4⟩, Nat.sub_lt_sub_left hk4 (Nat.lt_succ_self _)⟩
        · skip
          obtain rfl := eachL_end hq2 (not_cast_lt h4)
          refine CW.exit ?_
          refine CW.reg ?_
          refine WL.ev rfl rfl (Ev.bin rfl rfl rfl (Bin.addN (a := k1) (b := 1) rfl (i64_succN hk2 hl1.2))) (WL.ev rfl rfl (Ev.mv rfl rfl) (WL.nil ?_))
          obtain rfl := sm hb1
          exact ⟨⟨k1 + 1, s2, (.slice A4 n4 c4)⟩, ⟨rfl, rfl, rfl, rfl, rfl, rfl, rfl, trivial⟩, ⟨hk2, hq1, H.keep 3 4⟩, Nat.sub_lt_sub_left hk2 (Nat.lt_succ_self _)⟩
      · skip
        obtain rfl := eachL_end hq1 (not_cast_lt h3)
        refine CW.exit ?_
        refine CW.seq (CW.reg ?_)
        refine WL.ev rfl rfl (Ev.lda rfl ag39 sz39 rfl (At.blk (H.rB (i := 3) rfl)) rfl) ?_
        refine WL.stB (i := 1) rfl rfl rfl sz39 rfl rfl rfl rfl (all1 rfl (all1 rfl all0)) H rfl rfl rfl fun w13 H => ?_
        refine WL.nil ?_
        refine CW.ret ?_
        obtain rfl := sm hr
        exact ⟨_, resC rfl ag39 sz39 rfl rfl (At.blk (H.rB (i := 1) rfl)) rfl, H.ext0, _, _, _, rfl, hI2, H.outM (fr' := []) [false, false, true, false] fun _ _ => trivial⟩

noncomputable def sInstanceIndex_L1 (a1 : Instance) : Nat → Instance → Unit → Option (Unit ⊕ Int) := fun k1 x1 _ => 
  if x1 = a1 then (
  some (.inr (k1 : Int))
  ) else (
  some (.inl ())
  )
noncomputable def sInstanceIndex_m (a0 : (List Instance)) (a1 : Instance) : Option Int :=
  (findL (sInstanceIndex_L1 a1) 0 a0 ()).bind <| onr (fun r1 => some r1) fun _ =>
  some (-1)
theorem sInstanceIndex_ok {a0 : (List Instance)} {a1 : Instance} {r : Int} (hr : sInstanceIndex_m a0 a1 = some r) {F0 : Nat → Prop} {w0 : World} {z0 : Value} (ha0 : rdS F0 w0 a0 z0) {ca1 : List Value} (ha1 : rd F0 w0 a1 ca1) :
    Ret Try.prog 99 #[z0, .agg ca1.toArray] w0 (fun _ => False) fun v w => v = .int .i64 r ∧ I64 r := by
  obtain ⟨A0', n0', c0', rfl⟩ := ha0.form3
  have H := ((HL.start F0 w0).argS ha0).argR ha1
  obtain ⟨rfl, hI1, hS1, H⟩ := op_Instance H (i := 1) rfl
  refine enter Try.func99 rfl rfl rfl ?_
  refine CW.seq (CW.reg ?_)
  refine WL.boxH rfl rfl rfl rfl rfl H fun b1 w1 H => ?_
  refine WL.ev rfl rfl (Ev.as rfl rfl) (WL.nil ?_)
  refine CW.seq (CW.seq (CW.reg ?_))
  refine WL.ev rfl rfl (Ev.as rfl rfl) (WL.nil ?_)
  obtain ⟨q1, hq1, hr⟩ := bd hr
  refine CW.block (CW.loop (α := Nat) (fun k1 => [(0, .slice A0' n0' c0'), (3, .pointer (some ⟨b1, 0, none⟩)), (5, .int .i64 (k1 : Int))]) (fun k1 w => k1 ≤ a0.length ∧ findL (sInstanceIndex_L1 a1) k1 (a0.drop k1) () = some q1 ∧ HL F0 [] w0 w [Pr.S a0 (.slice A0' n0' c0'), Pr.R a1 [.int .i64 a1.Node, .string a1.Name]] [It.B b1 103 [.int .i64 a1.Node, .string a1.Name]]) (fun k1 => a0.length - k1) 0 ⟨rfl, rfl, rfl, trivial⟩ ⟨Nat.zero_le _, hq1, H.keep 2 1⟩ ?_)
  rintro k1 σ w2 ⟨hk1, hq1, H⟩
  refine CW.seq (CW.seq (CW.reg ?_))
  refine WL.ev rfl rfl (Ev.mv rfl rfl) (WL.ev rfl rfl (Ev.mv rfl rfl) ?_)
  have hl1 := (H.rS (i := 0) rfl).I
  refine WL.ev rfl rfl (Ev.lenV rfl el77 rfl (H.rS (i := 0) rfl)) (WL.ev rfl rfl (Ev.bin rfl rfl rfl Bin.lss) (WL.nil ?_))
  refine CW.condD rfl (fun h1 => ?_) (fun h1 => ?_)
  · skip
    have hk2 := cast_lt h1
    obtain ⟨x1, z1, hx1, hb1, hs1, ht1⟩ := findL_go hq1 hk2
    refine CW.skip ?_
    refine CW.seq (CW.block (CW.seq (CW.quiet hmix (by kernel_rfl) ?_)))
    refine QL.ev rfl rfl (fun _ _ => Ev.mv rfl rfl) (QL.ev rfl rfl (fun _ _ => Ev.mv rfl rfl) ?_)
    obtain ⟨b2, ob2, cb2, hvb2, hI2, hS2, H⟩ := ixS_Instance H (i := 0) rfl hx1
    refine QL.ev rfl rfl (fun _ _ => Ev.ixVN rfl el77 sz103 rfl hvb2 rfl (lt_of hx1)) (QL.ev rfl rfl (fun _ hq => Ev.lda rfl ag103 sz103 rfl ((H.ext hq).rA (i := 2) rfl) rfl) (QL.ev rfl rfl (fun _ hq => Ev.lda rfl ag103 sz103 rfl (At.blk ((H.ext hq).rB (i := 0) rfl)) rfl) (QL.ev rfl rfl (fun _ _ => Ev.bin rfl rfl rfl (Bin.eqlF fl103 (Instance_eqF x1 a1))) (QL.nil (fun w3 hE => ?_)))))
    have H := H.ext hE
    refine CW.condD rfl (fun h2 => ?_) (fun h2 => ?_)
    · skip
      have hb1 := ifp h2 hb1
      refine CW.seq (CW.reg ?_)
      refine WL.ev rfl rfl (Ev.mv rfl rfl) (WL.ev rfl rfl (Ev.as rfl rfl) (WL.nil ?_))
      refine CW.ret ?_
      obtain rfl := sm hb1
      obtain rfl := ht1 _ rfl
      obtain rfl := sm hr
      exact ⟨_, res1 rfl rfl rfl, H.ext0, rfl, (i64_nat hk2 hl1)⟩
    · skip
      have hb1 := ifn h2 hb1
      refine CW.skip ?_
      refine CW.reg ?_
      refine WL.ev rfl rfl (Ev.mv rfl rfl) (WL.ev rfl rfl (Ev.bin rfl rfl rfl (Bin.addN (a := k1) (b := 1) rfl (i64_succN hk2 hl1.2))) (WL.ev rfl rfl (Ev.as rfl rfl) (WL.nil ?_)))
      obtain rfl := sm hb1
      have hq1 := hs1 _ rfl
      exact ⟨(k1 + 1), ⟨rfl, rfl, rfl, trivial⟩, ⟨hk2, hq1, H.keep 2 1⟩, Nat.sub_lt_sub_left hk2 (Nat.lt_succ_self _)⟩
  · skip
    obtain rfl := findL_end hq1 (not_cast_lt h1)
    refine CW.exit ?_
    refine CW.seq (CW.reg ?_)
    refine WL.ev rfl rfl (Ev.as rfl rfl) (WL.nil ?_)
    refine CW.ret ?_
    obtain rfl := sm hr
    exact ⟨_, res1 rfl rfl rfl, H.ext0, rfl, (by decide : I64 (-1))⟩

noncomputable def sl31Has_m (a0 : (List Instance)) (a1 : Instance) : Option Bool :=
  (sInstanceIndex_m a0 a1).bind fun y1 =>
  some (decide (0 ≤ y1))
theorem sl31Has_ok {a0 : (List Instance)} {a1 : Instance} {r : Bool} (hr : sl31Has_m a0 a1 = some r) {F0 : Nat → Prop} {w0 : World} {z0 : Value} (ha0 : rdS F0 w0 a0 z0) {ca1 : List Value} (ha1 : rd F0 w0 a1 ca1) :
    Ret Try.prog 81 #[z0, .agg ca1.toArray] w0 (fun _ => False) fun v w => v = .bool r := by
  obtain ⟨A0', n0', c0', rfl⟩ := ha0.form3
  have H := ((HL.start F0 w0).argS ha0).argR ha1
  obtain ⟨rfl, hI1, hS1, H⟩ := op_Instance H (i := 1) rfl
  refine enter Try.func81 rfl rfl rfl ?_
  refine CW.seq (CW.reg ?_)
  refine WL.boxH rfl rfl rfl rfl rfl H fun b1 w1 H => ?_
  refine WL.ev rfl rfl (Ev.as rfl rfl) (WL.nil ?_)
  refine CW.seq (CW.reg ?_)
  refine WL.ev rfl rfl (Ev.mv rfl rfl) (WL.ev rfl rfl (Ev.lda rfl ag103 sz103 rfl (At.blk (H.rB (i := 0) rfl)) rfl) ?_)
  obtain ⟨y1, hy1, hr⟩ := bd hr
  refine WL.call rfl rfl rfl rfl rfl ok99 rfl (sInstanceIndex_ok hy1 (H.rS (i := 0) rfl) ⟨rfl, hI1, hS1⟩) ?_
  rintro _ w2 hE ⟨rfl, hI2⟩
  have H := H.ext hE
  refine WL.ev rfl rfl (Ev.bin rfl rfl rfl Bin.geq) (WL.ev rfl rfl (Ev.as rfl rfl) (WL.nil ?_))
  refine CW.ret ?_
  obtain rfl := sm hr
  exact ⟨_, res1 rfl rfl rfl, H.ext0, rfl⟩

noncomputable def sLastUse_L1 (a0 : (List TraceStep)) (a1 : Int) : Nat → Int → Option Int := fun k1 s1 => 
  (a0[k1]?).bind fun x1 =>
  grd (0 ≤ a1) <|
  (a0[a1.toNat]?).bind fun x2 =>
  (sl31Has_m x1.Inputs x2.At).bind fun y2 =>
  if y2 = true then (
  some (k1 : Int)
  ) else (
  some s1
  )
noncomputable def sLastUse_m (a0 : (List TraceStep)) (a1 : Int) : Option Int :=
  (sl1In_m a1 0 ((a0.length : Int) - 1)).bind fun y1 =>
  if y1 = true then (
  grd (I64 (a1 + 1)) <|
  grd (0 ≤ (a1 + 1)) <|
  (eachN (sLastUse_L1 a0 a1) ((a1 + 1).toNat) (a0.length - ((a1 + 1).toNat)) a1).bind fun s1 =>
  some s1
  ) else (
  some (-1)
  )
theorem sLastUse_ok {a0 : (List TraceStep)} {a1 : Int} {r : Int} (hr : sLastUse_m a0 a1 = some r) {F0 : Nat → Prop} {w0 : World} {z0 : Value} (ha0 : rdS F0 w0 a0 z0) (ha1 : I64 a1) :
    Ret Try.prog 50 #[z0, .int .i64 a1] w0 (fun _ => False) fun v w => v = .int .i64 r ∧ I64 r := by
  obtain ⟨A0', n0', c0', rfl⟩ := ha0.form3
  have H := (HL.start F0 w0).argS ha0
  refine enter Try.func50 rfl rfl rfl ?_
  refine CW.seq (CW.reg ?_)
  refine WL.ev rfl rfl (Ev.as rfl rfl) (WL.nil ?_)
  refine CW.seq (CW.seq (CW.reg ?_))
  refine WL.ev rfl rfl (Ev.mv rfl rfl) (WL.ev rfl rfl (Ev.mv rfl rfl) ?_)
  have hl1 := (H.rS (i := 0) rfl).I
  refine WL.ev rfl rfl (Ev.lenV rfl el65 rfl (H.rS (i := 0) rfl)) (WL.ev rfl rfl (Ev.bin rfl rfl rfl (Bin.sub (i64_sub (k := 1) hl1 (by decide)))) ?_)
  obtain ⟨y1, hy1, hr⟩ := bd hr
  refine WL.call rfl rfl rfl rfl rfl ok68 rfl (sl1In_ok hy1 (F0 := fun _ => False) ha1 (by decide : I64 0) (i64_sub (k := 1) hl1 (by decide))) ?_
  rintro _ w1 hE rfl
  have H := H.ext hE
  refine WL.ev rfl rfl (Ev.not rfl rfl) (WL.nil ?_)
  refine CW.condBN rfl (fun h1 => ?_) (fun h1 => ?_)
  · skip
    have hr := ifn h1 hr
    refine CW.seq (CW.reg ?_)
    refine WL.ev rfl rfl (Ev.as rfl rfl) (WL.nil ?_)
    refine CW.ret ?_
    obtain rfl := sm hr
    exact ⟨_, res1 rfl rfl rfl, H.ext0, rfl, (by decide : I64 (-1))⟩
  · skip
    have hr := ifp h1 hr
    refine CW.skip ?_
    refine CW.seq (CW.reg ?_)
    refine WL.ev rfl rfl (Ev.mv rfl rfl) (WL.ev rfl rfl (Ev.as rfl rfl) (WL.nil ?_))
    refine CW.seq (CW.seq (CW.reg ?_))
    refine WL.ev rfl rfl (Ev.mv rfl rfl) ?_
    obtain ⟨hg1, hr⟩ := grd_some hr
    refine WL.ev rfl rfl (Ev.bin rfl rfl rfl (Bin.add hg1)) (WL.ev rfl rfl (Ev.as rfl rfl) (WL.nil ?_))
    obtain ⟨hg2, hr⟩ := grd_some hr
    obtain ⟨q1, hq1, hr⟩ := bd hr
    refine CW.block (CW.loop (α := Nat × Int) (fun ⟨k1, s1⟩ => [(0, .slice A0' n0' c0'), (1, .int .i64 a1), (5, .int .i64 s1), (6, .int .i64 (k1 : Int))]) (fun ⟨k1, s1⟩ w => ((a1 + 1).toNat) ≤ k1 ∧ eachN (sLastUse_L1 a0 a1) k1 (a0.length - k1) s1 = some q1 ∧ I64 s1 ∧ HL F0 [] w0 w [Pr.S a0 (.slice A0' n0' c0')] []) (fun ⟨k1, s1⟩ => a0.length - k1) ⟨(a1 + 1).toNat, a1⟩ ⟨rfl, rfl, rfl, (vI (Int.toNat_of_nonneg hg2).symm), trivial⟩ ⟨Nat.le_refl _, hq1, ha1, H.keep 1 0⟩ ?_)
    rintro ⟨k1, s1⟩ σ w2 ⟨hk1, hq1, hI1, H⟩
    refine CW.seq (CW.seq (CW.reg ?_))
    refine WL.ev rfl rfl (Ev.mv rfl rfl) (WL.ev rfl rfl (Ev.mv rfl rfl) (WL.ev rfl rfl (Ev.lenV rfl el65 rfl (H.rS (i := 0) rfl)) (WL.ev rfl rfl (Ev.bin rfl rfl rfl Bin.lss) (WL.nil ?_))))
    refine CW.condD rfl (fun h2 => ?_) (fun h2 => ?_)
    · skip
      have hk2 := cast_lt h2
      obtain ⟨z1, hb1, hq1⟩ := eachN_go hq1 hk2
      refine CW.skip ?_
      refine CW.seq (CW.block (CW.seq (CW.quiet hmix (by kernel_rfl) ?_)))
      refine QL.ev rfl rfl (fun _ _ => Ev.mv rfl rfl) (QL.ev rfl rfl (fun _ _ => Ev.mv rfl rfl) ?_)
      obtain ⟨x1, hx1, hb1⟩ := bd hb1
      obtain ⟨b1, ob1, cb1, A1, n1, c1, hvb1, hI2, hS1, H⟩ := ixS_TraceStep H (i := 0) rfl hx1
      refine QL.ev rfl rfl (fun _ _ => Ev.ixVN rfl el65 sz105 rfl hvb1 rfl (lt_of hx1)) (QL.ev rfl rfl (fun _ _ => Ev.fa rfl fo105_1 rfl) (QL.ev rfl rfl (fun _ hq => Ev.ld rfl ag77 rfl (((H.ext hq).rA (i := 1) rfl).cell rfl)) (QL.ev rfl rfl (fun _ _ => Ev.mv rfl rfl) (QL.ev rfl rfl (fun _ _ => Ev.mv rfl rfl) ?_))))
      obtain ⟨hg3, hb1⟩ := grd_some hb1
      obtain ⟨x2, hx2, hb1⟩ := bd hb1
      obtain ⟨b2, ob2, cb2, A2, n2, c2, hvb2, hI3, hS2, H⟩ := ixS_TraceStep H (i := 0) rfl hx2
      refine QL.ev rfl rfl (fun _ _ => Ev.ixV rfl el65 sz105 rfl hvb2 rfl hg3 (lt_of hx2)) (QL.ev rfl rfl (fun _ _ => Ev.fa rfl fo105_0 rfl) (QL.ev rfl rfl (fun _ hq => Ev.lda rfl ag103 sz103 rfl (((H.ext hq).rA (i := 4) rfl).part 0 2) rfl) ?_))
      obtain ⟨y2, hy2, hb1⟩ := bd hb1
      refine QL.call rfl rfl rfl rfl rfl ok81 rfl (fun _ hq => sl31Has_ok hy2 ((H.ext hq).rS (i := 3) rfl) ⟨rfl, hI3, hS2⟩) ?_
      refine QL.nil (fun w3 hE => ?_)
      have H := H.ext hE
      refine CW.condB rfl (fun h3 => ?_) (fun h3 => ?_)
      · skip
        have hb1 := ifp h3 hb1
        refine CW.reg ?_
        refine WL.ev rfl rfl (Ev.mv rfl rfl) (WL.ev rfl rfl (Ev.as rfl rfl) (WL.nil ?_))
        refine CW.reg ?_
        refine WL.ev rfl rfl (Ev.mv rfl rfl) (WL.ev rfl rfl (Ev.bin rfl rfl rfl (Bin.addN (a := k1) (b := 1) rfl (i64_succN hk2 hl1.2))) (WL.ev rfl rfl (Ev.as rfl rfl) (WL.nil ?_)))
        obtain rfl := sm hb1
        exact ⟨⟨k1 + 1, (k1 : Int)⟩, ⟨rfl, rfl, rfl, rfl, trivial⟩, ⟨(Nat.le_succ_of_le hk1), hq1, (i64_nat hk2 hl1), H.keep 1 0⟩, Nat.sub_lt_sub_left hk2 (Nat.lt_succ_self _)⟩
      · skip
        have hb1 := ifn h3 hb1
        refine CW.skip ?_
        refine CW.reg ?_
        refine WL.ev rfl rfl (Ev.mv rfl rfl) (WL.ev rfl rfl (Ev.bin rfl rfl rfl (Bin.addN (a := k1) (b := 1) rfl (i64_succN hk2 hl1.2))) (WL.ev rfl rfl (Ev.as rfl rfl) (WL.nil ?_)))
        obtain rfl := sm hb1
        exact ⟨⟨k1 + 1, s1⟩, ⟨rfl, rfl, rfl, rfl, trivial⟩, ⟨(Nat.le_succ_of_le hk1), hq1, hI1, H.keep 1 0⟩, Nat.sub_lt_sub_left hk2 (Nat.lt_succ_self _)⟩
    · skip
      obtain rfl := eachN_end hq1 (not_cast_lt h2)
      refine CW.exit ?_
      refine CW.seq (CW.reg ?_)
      refine WL.ev rfl rfl (Ev.mv rfl rfl) (WL.ev rfl rfl (Ev.as rfl rfl) (WL.nil ?_))
      refine CW.ret ?_
      obtain rfl := sm hr
      exact ⟨_, res1 rfl rfl rfl, H.ext0, rfl, hI1⟩

noncomputable def sCheckSlots_L2 (a0 : (List TraceStep)) (a1 : (List Instance)) (a2 : (List Int)) (k1 : Nat) (x1 : Int) : Nat → Unit → Option (Unit ⊕ Bool) := fun k2 _ => 
  (a2[k2]?).bind fun x2 =>
  if x2 = x1 then (
  (sLastUse_m a0 (k2 : Int)).bind fun y1 =>
  if (k1 : Int) < y1 then (
  some (.inr false)
  ) else (
  (a0[k2]?).bind fun x3 =>
  (sl31Has_m a1 x3.At).bind fun y2 =>
  if y2 = true then (
  some (.inr false)
  ) else (
  some (.inl ())
  )
  )
  ) else (
  some (.inl ())
  )
noncomputable def sCheckSlots_L1 (a0 : (List TraceStep)) (a1 : (List Instance)) (a2 : (List Int)) : Nat → Int → Unit → Option (Unit ⊕ Bool) := fun k1 x1 _ => 
  if x1 < 0 then (
  some (.inr false)
  ) else (
  (findN (sCheckSlots_L2 a0 a1 a2 k1 x1) 0 (k1) ()).bind <| onr (fun r1 => some (.inr r1)) fun _ =>
  some (.inl ())
  )
noncomputable def sCheckSlots_m (a0 : (List TraceStep)) (a1 : (List Instance)) (a2 : (List Int)) : Option Bool :=
  if (a2.length : Int) = (a0.length : Int) then (
  (findL (sCheckSlots_L1 a0 a1 a2) 0 a2 ()).bind <| onr (fun r2 => some r2) fun _ =>
  some true
  ) else (
  some false
  )
theorem sCheckSlots_ok {a0 : (List TraceStep)} {a1 : (List Instance)} {a2 : (List Int)} {r : Bool} (hr : sCheckSlots_m a0 a1 a2 = some r) {F0 : Nat → Prop} {w0 : World} {z0 : Value} (ha0 : rdS F0 w0 a0 z0) {z1 : Value} (ha1 : rdS F0 w0 a1 z1) {z2 : Value} (ha2 : rdS F0 w0 a2 z2) :
    Ret Try.prog 61 #[z0, z1, z2] w0 (fun _ => False) fun v w => v = .bool r := by
  obtain ⟨A0', n0', c0', rfl⟩ := ha0.form3
  obtain ⟨A1', n1', c1', rfl⟩ := ha1.form3
  obtain ⟨A2', n2', c2', rfl⟩ := ha2.form3
  have H := (((HL.start F0 w0).argS ha0).argS ha1).argS ha2
  refine enter Try.func61 rfl rfl rfl ?_
  refine CW.seq (CW.reg ?_)
  refine WL.ev rfl rfl (Ev.as rfl rfl) (WL.nil ?_)
  refine CW.seq (CW.seq (CW.reg ?_))
  refine WL.ev rfl rfl (Ev.mv rfl rfl) ?_
  have hl1 := (H.rS (i := 2) rfl).I
  refine WL.ev rfl rfl (Ev.lenV rfl el34 rfl (H.rS (i := 2) rfl)) (WL.ev rfl rfl (Ev.mv rfl rfl) ?_)
  have hl2 := (H.rS (i := 0) rfl).I
  refine WL.ev rfl rfl (Ev.lenV rfl el65 rfl (H.rS (i := 0) rfl)) (WL.ev rfl rfl (Ev.bin rfl rfl rfl Bin.neq) (WL.nil ?_))
  refine CW.condN rfl (fun h1 => ?_) (fun h1 => ?_)
  · skip
    have hr := ifn h1 hr
    refine CW.seq (CW.reg ?_)
    refine WL.ev rfl rfl (Ev.as rfl rfl) (WL.nil ?_)
    refine CW.ret ?_
    obtain rfl := sm hr
    exact ⟨_, res1 rfl rfl rfl, H.ext0, rfl⟩
  · skip
    have hr := ifp h1 hr
    refine CW.skip ?_
    refine CW.seq (CW.seq (CW.reg ?_))
    refine WL.ev rfl rfl (Ev.as rfl rfl) (WL.nil ?_)
    obtain ⟨q1, hq1, hr⟩ := bd hr
    refine CW.block (CW.loop (α := Nat) (fun k1 => [(0, .slice A0' n0' c0'), (1, .slice A1' n1' c1'), (2, .slice A2' n2' c2'), (7, .int .i64 (k1 : Int))]) (fun k1 w => k1 ≤ a2.length ∧ findL (sCheckSlots_L1 a0 a1 a2) k1 (a2.drop k1) () = some q1 ∧ HL F0 [] w0 w [Pr.S a0 (.slice A0' n0' c0'), Pr.S a1 (.slice A1' n1' c1'), Pr.S a2 (.slice A2' n2' c2')] []) (fun k1 => a2.length - k1) 0 ⟨rfl, rfl, rfl, rfl, trivial⟩ ⟨Nat.zero_le _, hq1, H.keep 3 0⟩ ?_)
    rintro k1 σ w1 ⟨hk1, hq1, H⟩
    refine CW.seq (CW.seq (CW.reg ?_))
    refine WL.ev rfl rfl (Ev.mv rfl rfl) (WL.ev rfl rfl (Ev.mv rfl rfl) (WL.ev rfl rfl (Ev.lenV rfl el34 rfl (H.rS (i := 2) rfl)) (WL.ev rfl rfl (Ev.bin rfl rfl rfl Bin.lss) (WL.nil ?_))))
    refine CW.condD rfl (fun h2 => ?_) (fun h2 => ?_)
    · skip
      have hk2 := cast_lt h2
      obtain ⟨x1, z1, hx1, hb1, hs1, ht1⟩ := findL_go hq1 hk2
      refine CW.skip ?_
      refine CW.seq (CW.block (CW.seq (CW.seq (CW.reg ?_))))
      refine WL.ev rfl rfl (Ev.mv rfl rfl) (WL.ev rfl rfl (Ev.mv rfl rfl) ?_)
      obtain ⟨b1, ob1, cb1, hvb1, hI1, H⟩ := ixS_Int H (i := 2) rfl hx1
      refine WL.ev rfl rfl (Ev.ixVN rfl el34 sz3 rfl hvb1 rfl (lt_of hx1)) (WL.ev rfl rfl (Ev.ld rfl ag3 rfl ((H.rA (i := 3) rfl).cell0 rfl)) (WL.ev rfl rfl (Ev.bin rfl rfl rfl Bin.lss) (WL.nil ?_)))
      refine CW.condD rfl (fun h3 => ?_) (fun h3 => ?_)
      · skip
        have hb1 := ifp h3 hb1
        refine CW.seq (CW.reg ?_)
        refine WL.ev rfl rfl (Ev.as rfl rfl) (WL.nil ?_)
        refine CW.ret ?_
        obtain rfl := sm hb1
        obtain rfl := ht1 _ rfl
        obtain rfl := sm hr
        exact ⟨_, res1 rfl rfl rfl, H.ext0, rfl⟩
      · skip
        have hb1 := ifn h3 hb1
        refine CW.skip ?_
        refine CW.seq (CW.reg ?_)
        refine WL.ev rfl rfl (Ev.as rfl rfl) (WL.nil ?_)
        obtain ⟨q2, hq2, hb1⟩ := bd hb1
        refine CW.block (CW.loop (α := Nat) (fun k2 => [(0, .slice A0' n0' c0'), (1, .slice A1' n1' c1'), (2, .slice A2' n2' c2'), (7, .int .i64 (k1 : Int)), (8, .int .i64 (k2 : Int))]) (fun k2 w => k2 ≤ k1 ∧ findN (sCheckSlots_L2 a0 a1 a2 k1 x1) k2 (k1 - k2) () = some q2 ∧ HL F0 [] w0 w [Pr.S a0 (.slice A0' n0' c0'), Pr.S a1 (.slice A1' n1' c1'), Pr.S a2 (.slice A2' n2' c2'), Pr.A b1 (ob1 + k1 * 1) [.int .i64 x1], Pr.R x1 [.int .i64 x1]] []) (fun k2 => k1 - k2) 0 ⟨rfl, rfl, rfl, rfl, rfl, trivial⟩ ⟨Nat.zero_le _, hq2, H.keep 5 0⟩ ?_)
        rintro k2 σ w2 ⟨hk3, hq2, H⟩
        refine CW.seq (CW.seq (CW.reg ?_))
        refine WL.ev rfl rfl (Ev.mv rfl rfl) (WL.ev rfl rfl (Ev.mv rfl rfl) (WL.ev rfl rfl (Ev.bin rfl rfl rfl Bin.lss) (WL.nil ?_)))
        refine CW.condD rfl (fun h4 => ?_) (fun h4 => ?_)
        · skip
          have hk4 := cast_lt h4
          obtain ⟨z2, hb2, hs2, ht2⟩ := findN_go hq2 hk4
          refine CW.skip ?_
          refine CW.seq (CW.block (CW.seq (CW.quiet hmix (by kernel_rfl) ?_)))
          refine QL.ev rfl rfl (fun _ _ => Ev.mv rfl rfl) (QL.ev rfl rfl (fun _ _ => Ev.mv rfl rfl) ?_)
          obtain ⟨x2, hx2, hb2⟩ := bd hb2
          obtain ⟨b2, ob2, cb2, hvb2, hI2, H⟩ := ixS_Int H (i := 2) rfl hx2
          refine QL.ev rfl rfl (fun _ _ => Ev.ixVN rfl el34 sz3 rfl hvb2 rfl (lt_of hx2)) (QL.ev rfl rfl (fun _ hq => Ev.ld rfl ag3 rfl (((H.ext hq).rA (i := 5) rfl).cell0 rfl)) (QL.ev rfl rfl (fun _ _ => Ev.mv rfl rfl) (QL.ev rfl rfl (fun _ _ => Ev.mv rfl rfl) (QL.ev rfl rfl (fun _ _ => Ev.ixVN rfl el34 sz3 rfl hvb1 rfl (lt_of hx1)) (QL.ev rfl rfl (fun _ hq => Ev.ld rfl ag3 rfl (((H.ext hq).rA (i := 3) rfl).cell0 rfl)) (QL.ev rfl rfl (fun _ _ => Ev.bin rfl rfl rfl Bin.eql) ?_))))))
          refine QL.mvD rfl rfl rfl rfl (fun h5 => ?_) (fun h5 => ?_)
          · skip
            have hb2 := ifp h5 hb2
            refine QL.on rfl rfl (QL.ev rfl rfl (fun _ _ => Ev.mv rfl rfl) (QL.on rfl rfl (QL.ev rfl rfl (fun _ _ => Ev.mv rfl rfl) (QL.on rfl rfl ?_))))
            obtain ⟨y1, hy1, hb2⟩ := bd hb2
            refine QL.call rfl rfl rfl rfl rfl ok50 rfl (fun _ hq => (sLastUse_ok hy1 ((H.ext hq).rS (i := 0) rfl) (i64_nat hk4 (i64_nat hk2 hl1))).mono fun _ _ _ h => h.1) ?_
            obtain ⟨_, _, _, hI3⟩ := (sLastUse_ok hy1 (H.rS (i := 0) rfl) (i64_nat hk4 (i64_nat hk2 hl1))).get
            refine QL.on rfl rfl (QL.ev rfl rfl (fun _ _ => Ev.mv rfl rfl) (QL.on rfl rfl (QL.ev rfl rfl (fun _ _ => Ev.bin rfl rfl rfl Bin.gtr) (QL.on rfl rfl ?_))))
            refine QL.mvD rfl rfl rfl rfl (fun h6 => ?_) (fun h6 => ?_)
            · skip
              have hb2 := ifp h6 hb2
              refine QL.off rfl rfl rfl (QL.off rfl rfl rfl (QL.off rfl rfl rfl (QL.off rfl rfl rfl (QL.off rfl rfl rfl (QL.off rfl rfl rfl (QL.off rfl rfl rfl (QL.on rfl rfl (QL.ev rfl rfl (fun _ _ => Ev.pickT rfl rfl rfl) (QL.ev rfl rfl (fun _ _ => Ev.pickT rfl rfl rfl) (QL.nil (fun w3 hE => ?_)))))))))))
              have H := H.ext hE
              refine CW.condT rfl ?_
              refine CW.seq ?_
              refine CW.fresh [] trivial fun σ => ?_
              refine CW.reg ?_
              refine WL.ev rfl rfl (Ev.as rfl rfl) (WL.nil ?_)
              refine CW.ret ?_
              obtain rfl := sm hb2
              obtain rfl := ht2 _ rfl
              obtain rfl := sm hb1
              obtain rfl := ht1 _ rfl
              obtain rfl := sm hr
              exact ⟨_, res1 rfl rfl rfl, H.ext0, rfl⟩
            · skip
              have hb2 := ifn h6 hb2
              refine QL.on rfl rfl (QL.ev rfl rfl (fun _ _ => Ev.mv rfl rfl) (QL.on rfl rfl (QL.ev rfl rfl (fun _ _ => Ev.mv rfl rfl) (QL.on rfl rfl (QL.ev rfl rfl (fun _ _ => Ev.mv rfl rfl) (QL.on rfl rfl ?_))))))
              obtain ⟨x3, hx3, hb2⟩ := bd hb2
              obtain ⟨b3, ob3, cb3, A1, n1, c1, hvb3, hI4, hS1, H⟩ := ixS_TraceStep H (i := 0) rfl hx3
              refine QL.ev rfl rfl (fun _ _ => Ev.ixVN rfl el65 sz105 rfl hvb3 rfl (lt_of hx3)) (QL.on rfl rfl (QL.ev rfl rfl (fun _ _ => Ev.fa rfl fo105_0 rfl) (QL.on rfl rfl (QL.ev rfl rfl (fun _ hq => Ev.lda rfl ag103 sz103 rfl (((H.ext hq).rA (i := 7) rfl).part 0 2) rfl) (QL.on rfl rfl ?_)))))
              obtain ⟨y2, hy2, hb2⟩ := bd hb2
              refine QL.call rfl rfl rfl rfl rfl ok81 rfl (fun _ hq => sl31Has_ok hy2 ((H.ext hq).rS (i := 1) rfl) ⟨rfl, hI4, hS1⟩) ?_
              refine QL.on rfl rfl (QL.ev rfl rfl (fun _ _ => Ev.pickF rfl rfl rfl) (QL.ev rfl rfl (fun _ _ => Ev.pickT rfl rfl rfl) (QL.nil (fun w4 hE => ?_))))
              have H := H.ext hE
              refine CW.condB rfl (fun h7 => ?_) (fun h7 => ?_)
              · skip
                have hb2 := ifp h7 hb2
                refine CW.seq ?_
                refine CW.fresh [] trivial fun σ => ?_
                refine CW.reg ?_
                refine WL.ev rfl rfl (Ev.as rfl rfl) (WL.nil ?_)
                refine CW.ret ?_
                obtain rfl := sm hb2
                obtain rfl := ht2 _ rfl
                obtain rfl := sm hb1
                obtain rfl := ht1 _ rfl
                obtain rfl := sm hr
                exact ⟨_, res1 rfl rfl rfl, H.ext0, rfl⟩
              · skip
                have hb2 := ifn h7 hb2
                refine CW.skip ?_
                refine CW.fresh [(0, .slice A0' n0' c0'), (1, .slice A1' n1' c1'), (2, .slice A2' n2' c2'), (7, .int .i64 (k1 : Int)), (8, .int .i64 (k2 : Int)), (40, .slice A0' n0' c0'), (41, .int .i64 (k2 : Int)), (42, .int .i64 y1), (43, .int .i64 (k1 : Int)), (44, .bool (decide ((k1 : Int) < y1))), (45, .bool false), (46, .slice A1' n1' c1'), (47, .slice A0' n0' c0'), (48, .int .i64 (k2 : Int)), (49, .pointer (some ⟨b3, ob3 + k2 * 3, none⟩)), (50, .pointer (some ⟨b3, ob3 + k2 * 3 + 0, none⟩)), (51, .agg #[.int .i64 x3.At.Node, .string x3.At.Name]), (52, .bool y2), (53, .bool y2)] ⟨rfl, rfl, rfl, rfl, rfl, rfl, rfl, rfl, rfl, rfl, rfl, rfl, rfl, rfl, rfl, rfl, rfl, rfl, rfl, trivial⟩ fun σ => ?_
                refine CW.reg ?_
                refine WL.ev rfl rfl (Ev.mv rfl rfl) (WL.ev rfl rfl (Ev.bin rfl rfl rfl (Bin.addN (a := k2) (b := 1) rfl (i64_succN hk4 (i64_nat hk2 hl1).2))) (WL.ev rfl rfl (Ev.as rfl rfl) (WL.nil ?_)))
                obtain rfl := sm hb2
                have hq2 := hs2 _ rfl
                exact ⟨(k2 + 1), ⟨rfl, rfl, rfl, rfl, rfl, trivial⟩, ⟨hk4, hq2, H.keep 5 0⟩, Nat.sub_lt_sub_left hk4 (Nat.lt_succ_self _)⟩
          · skip
            have hb2 := ifn h5 hb2
            refine QL.off rfl rfl rfl (QL.off rfl rfl rfl (QL.off rfl rfl rfl (QL.off rfl rfl rfl (QL.off rfl rfl rfl (QL.off rfl rfl rfl (QL.off rfl rfl rfl (QL.off rfl rfl rfl (QL.off rfl rfl rfl (QL.off rfl rfl rfl (QL.off rfl rfl rfl (QL.off rfl rfl rfl (QL.off rfl rfl rfl (QL.off rfl rfl rfl (QL.ev rfl rfl (fun _ _ => Ev.pickF rfl rfl rfl) (QL.nil (fun w5 hE => ?_))))))))))))))))
            have H := H.ext hE
            refine CW.condF rfl ?_
            refine CW.skip ?_
            refine CW.reg ?_
            refine WL.ev rfl rfl (Ev.mv rfl rfl) (WL.ev rfl rfl (Ev.bin rfl rfl rfl (Bin.addN (a := k2) (b := 1) rfl (i64_succN hk4 (i64_nat hk2 hl1).2))) (WL.ev rfl rfl (Ev.as rfl rfl) (WL.nil ?_)))
            obtain rfl := sm hb2
            have hq2 := hs2 _ rfl
            exact ⟨(k2 + 1), ⟨rfl, rfl, rfl, rfl, rfl, trivial⟩, ⟨hk4, hq2, H.keep 5 0⟩, Nat.sub_lt_sub_left hk4 (Nat.lt_succ_self _)⟩
        · skip
          obtain rfl := findN_end hq2 (not_cast_lt h4)
          refine CW.exit ?_
          refine CW.reg ?_
          refine WL.ev rfl rfl (Ev.mv rfl rfl) (WL.ev rfl rfl (Ev.bin rfl rfl rfl (Bin.addN (a := k1) (b := 1) rfl (i64_succN hk2 hl1.2))) (WL.ev rfl rfl (Ev.as rfl rfl) (WL.nil ?_)))
          obtain rfl := sm hb1
          have hq1 := hs1 _ rfl
          exact ⟨(k1 + 1), ⟨rfl, rfl, rfl, rfl, trivial⟩, ⟨hk2, hq1, H.keep 3 0⟩, Nat.sub_lt_sub_left hk2 (Nat.lt_succ_self _)⟩
    · skip
      obtain rfl := findL_end hq1 (not_cast_lt h2)
      refine CW.exit ?_
      refine CW.seq (CW.reg ?_)
      refine WL.ev rfl rfl (Ev.as rfl rfl) (WL.nil ?_)
      refine CW.ret ?_
      obtain rfl := sm hr
      exact ⟨_, res1 rfl rfl rfl, H.ext0, rfl⟩

noncomputable def iCheckSlots_1_m (a0 : Int) : Option Bool :=
  some (decide (a0 < 0))
theorem iCheckSlots_1_ok {a0 : Int} {r : Bool} (hr : iCheckSlots_1_m a0 = some r) {F0 : Nat → Prop} {w0 : World} (ha0 : I64 a0) :
    Ret Try.prog 91 #[.int .i64 a0] w0 (fun _ => False) fun v w => v = .bool r := by
  have H := HL.start F0 w0
  refine enter Try.func91 rfl rfl rfl ?_
  refine CW.seq (CW.reg ?_)
  refine WL.ev rfl rfl (Ev.as rfl rfl) (WL.nil ?_)
  refine CW.seq (CW.reg ?_)
  refine WL.ev rfl rfl (Ev.mv rfl rfl) (WL.ev rfl rfl (Ev.bin rfl rfl rfl Bin.lss) (WL.ev rfl rfl (Ev.as rfl rfl) (WL.nil ?_)))
  refine CW.ret ?_
  obtain rfl := sm hr
  exact ⟨_, res1 rfl rfl rfl, H.ext0, rfl⟩

noncomputable def slices_IndexFunc_int_iCheckSlots_1_L1 : Nat → Int → Unit → Option (Unit ⊕ Int) := fun k1 x1 _ => 
  (iCheckSlots_1_m x1).bind fun y1 =>
  if y1 = true then (
  some (.inr (k1 : Int))
  ) else (
  some (.inl ())
  )
noncomputable def slices_IndexFunc_int_iCheckSlots_1_m (a0 : (List Int)) : Option Int :=
  (findL slices_IndexFunc_int_iCheckSlots_1_L1 0 a0 ()).bind <| onr (fun r1 => some r1) fun _ =>
  some (-1)
theorem slices_IndexFunc_int_iCheckSlots_1_ok {a0 : (List Int)} {r : Int} (hr : slices_IndexFunc_int_iCheckSlots_1_m a0 = some r) {F0 : Nat → Prop} {w0 : World} {z0 : Value} (ha0 : rdS F0 w0 a0 z0) :
    Ret Try.prog 95 #[z0, .func (.func 91) #[] #[]] w0 (fun _ => False) fun v w => v = .int .i64 r ∧ I64 r := by
  obtain ⟨A0', n0', c0', rfl⟩ := ha0.form3
  have H := (HL.start F0 w0).argS ha0
  refine enter Try.func95 rfl rfl rfl ?_
  refine CW.seq (CW.reg ?_)
  refine WL.ev rfl rfl (Ev.as rfl rfl) (WL.nil ?_)
  refine CW.seq (CW.seq (CW.reg ?_))
  refine WL.ev rfl rfl (Ev.mv rfl rfl) ?_
  have hl1 := (H.rS (i := 0) rfl).I
  refine WL.ev rfl rfl (Ev.lenV rfl el34 rfl (H.rS (i := 0) rfl)) (WL.ev rfl rfl (Ev.mv rfl rfl) (WL.nil ?_))
  obtain ⟨q1, hq1, hr⟩ := bd hr
  refine CW.block (CW.loop (α := Nat) (fun k1 => [(0, .slice A0' n0' c0'), (1, .func (.func 91) #[] #[]), (7, .int .i64 (a0.length : Int)), (8, .int .i64 (k1 : Int))]) (fun k1 w => k1 ≤ a0.length ∧ findL slices_IndexFunc_int_iCheckSlots_1_L1 k1 (a0.drop k1) () = some q1 ∧ HL F0 [] w0 w [Pr.S a0 (.slice A0' n0' c0')] []) (fun k1 => a0.length - k1) 0 ⟨rfl, rfl, rfl, rfl, trivial⟩ ⟨Nat.zero_le _, hq1, H.keep 1 0⟩ ?_)
  rintro k1 σ w1 ⟨hk1, hq1, H⟩
  refine CW.seq (CW.reg ?_)
  refine WL.ev rfl rfl (Ev.bin rfl rfl rfl Bin.lss) (WL.nil ?_)
  refine CW.seq (CW.condD rfl (fun h1 => ?_) (fun h1 => ?_))
  · skip
    have hk2 := cast_lt h1
    obtain ⟨x1, z1, hx1, hb1, hs1, ht1⟩ := findL_go hq1 hk2
    refine CW.skip ?_
    refine CW.seq (CW.block (CW.seq (CW.reg ?_)))
    refine WL.ev rfl rfl (Ev.mv rfl rfl) (WL.ev rfl rfl (Ev.as rfl rfl) (WL.nil ?_))
    refine CW.seq (CW.reg ?_)
    refine WL.ev rfl rfl (Ev.mv rfl rfl) (WL.ev rfl rfl (Ev.mv rfl rfl) (WL.ev rfl rfl (Ev.mv rfl rfl) ?_))
    obtain ⟨b1, ob1, cb1, hvb1, hI1, H⟩ := ixS_Int H (i := 0) rfl hx1
    refine WL.ev rfl rfl (Ev.ixVN rfl el34 sz3 rfl hvb1 rfl (lt_of hx1)) (WL.ev rfl rfl (Ev.ld rfl ag3 rfl ((H.rA (i := 1) rfl).cell0 rfl)) ?_)
    obtain ⟨y1, hy1, hb1⟩ := bd hb1
    refine WL.call rfl rfl rfl rfl rfl ok91 rfl (iCheckSlots_1_ok hy1 (F0 := fun _ => False) hI1) ?_
    rintro _ w2 hE rfl
    have H := H.ext hE
    refine WL.nil ?_
    refine CW.condB rfl (fun h2 => ?_) (fun h2 => ?_)
    · skip
      have hb1 := ifp h2 hb1
      refine CW.seq (CW.reg ?_)
      refine WL.ev rfl rfl (Ev.mv rfl rfl) (WL.ev rfl rfl (Ev.as rfl rfl) (WL.nil ?_))
      refine CW.ret ?_
      obtain rfl := sm hb1
      obtain rfl := ht1 _ rfl
      obtain rfl := sm hr
      exact ⟨_, res1 rfl rfl rfl, H.ext0, rfl, (i64_nat hk2 hl1)⟩
    · skip
      have hb1 := ifn h2 hb1
      refine CW.skip ?_
      refine CW.reg ?_
      refine WL.ev rfl rfl (Ev.bin rfl rfl rfl (Bin.addN (a := k1) (b := 1) rfl (i64_succN hk2 hl1.2))) (WL.ev rfl rfl (Ev.mv rfl rfl) (WL.nil ?_))
      obtain rfl := sm hb1
      have hq1 := hs1 _ rfl
      exact ⟨(k1 + 1), ⟨rfl, rfl, rfl, rfl, trivial⟩, ⟨hk2, hq1, H.keep 1 0⟩, Nat.sub_lt_sub_left hk2 (Nat.lt_succ_self _)⟩
  · skip
    obtain rfl := findL_end hq1 (not_cast_lt h1)
    refine CW.exit ?_
    refine CW.seq (CW.reg ?_)
    refine WL.ev rfl rfl (Ev.as rfl rfl) (WL.nil ?_)
    refine CW.ret ?_
    obtain rfl := sm hr
    exact ⟨_, res1 rfl rfl rfl, H.ext0, rfl, (by decide : I64 (-1))⟩

noncomputable def slices_ContainsFunc_int_iCheckSlots_1_m (a0 : (List Int)) : Option Bool :=
  (slices_IndexFunc_int_iCheckSlots_1_m a0).bind fun y1 =>
  some (decide (0 ≤ y1))
theorem slices_ContainsFunc_int_iCheckSlots_1_ok {a0 : (List Int)} {r : Bool} (hr : slices_ContainsFunc_int_iCheckSlots_1_m a0 = some r) {F0 : Nat → Prop} {w0 : World} {z0 : Value} (ha0 : rdS F0 w0 a0 z0) :
    Ret Try.prog 70 #[z0, .func (.func 91) #[] #[]] w0 (fun _ => False) fun v w => v = .bool r := by
  obtain ⟨A0', n0', c0', rfl⟩ := ha0.form3
  have H := (HL.start F0 w0).argS ha0
  refine enter Try.func70 rfl rfl rfl ?_
  refine CW.seq (CW.reg ?_)
  refine WL.ev rfl rfl (Ev.as rfl rfl) (WL.nil ?_)
  refine CW.seq (CW.reg ?_)
  refine WL.ev rfl rfl (Ev.mv rfl rfl) (WL.ev rfl rfl (Ev.mv rfl rfl) ?_)
  obtain ⟨y1, hy1, hr⟩ := bd hr
  refine WL.call rfl rfl rfl rfl rfl ok95 rfl (slices_IndexFunc_int_iCheckSlots_1_ok hy1 (H.rS (i := 0) rfl)) ?_
  rintro _ w1 hE ⟨rfl, hI1⟩
  have H := H.ext hE
  refine WL.ev rfl rfl (Ev.bin rfl rfl rfl Bin.geq) (WL.ev rfl rfl (Ev.as rfl rfl) (WL.nil ?_))
  refine CW.ret ?_
  obtain rfl := sm hr
  exact ⟨_, res1 rfl rfl rfl, H.ext0, rfl⟩

noncomputable def slices_Index_int_L1 (a1 : Int) : Nat → Int → Unit → Option (Unit ⊕ Int) := fun k1 x1 _ => 
  if a1 = x1 then (
  some (.inr (k1 : Int))
  ) else (
  some (.inl ())
  )
noncomputable def slices_Index_int_m (a0 : (List Int)) (a1 : Int) : Option Int :=
  (findL (slices_Index_int_L1 a1) 0 a0 ()).bind <| onr (fun r1 => some r1) fun _ =>
  some (-1)
theorem slices_Index_int_ok {a0 : (List Int)} {a1 : Int} {r : Int} (hr : slices_Index_int_m a0 a1 = some r) {F0 : Nat → Prop} {w0 : World} {z0 : Value} (ha0 : rdS F0 w0 a0 z0) (ha1 : I64 a1) :
    Ret Try.prog 92 #[z0, .int .i64 a1] w0 (fun _ => False) fun v w => v = .int .i64 r ∧ I64 r := by
  obtain ⟨A0', n0', c0', rfl⟩ := ha0.form3
  have H := (HL.start F0 w0).argS ha0
  refine enter Try.func92 rfl rfl rfl ?_
  refine CW.seq (CW.reg ?_)
  refine WL.ev rfl rfl (Ev.as rfl rfl) (WL.nil ?_)
  refine CW.seq (CW.seq (CW.reg ?_))
  refine WL.ev rfl rfl (Ev.mv rfl rfl) ?_
  have hl1 := (H.rS (i := 0) rfl).I
  refine WL.ev rfl rfl (Ev.lenV rfl el34 rfl (H.rS (i := 0) rfl)) (WL.ev rfl rfl (Ev.mv rfl rfl) (WL.nil ?_))
  obtain ⟨q1, hq1, hr⟩ := bd hr
  refine CW.block (CW.loop (α := Nat) (fun k1 => [(0, .slice A0' n0' c0'), (1, .int .i64 a1), (7, .int .i64 (a0.length : Int)), (8, .int .i64 (k1 : Int))]) (fun k1 w => k1 ≤ a0.length ∧ findL (slices_Index_int_L1 a1) k1 (a0.drop k1) () = some q1 ∧ HL F0 [] w0 w [Pr.S a0 (.slice A0' n0' c0')] []) (fun k1 => a0.length - k1) 0 ⟨rfl, rfl, rfl, rfl, trivial⟩ ⟨Nat.zero_le _, hq1, H.keep 1 0⟩ ?_)
  rintro k1 σ w1 ⟨hk1, hq1, H⟩
  refine CW.seq (CW.reg ?_)
  refine WL.ev rfl rfl (Ev.bin rfl rfl rfl Bin.lss) (WL.nil ?_)
  refine CW.seq (CW.condD rfl (fun h1 => ?_) (fun h1 => ?_))
  · skip
    have hk2 := cast_lt h1
    obtain ⟨x1, z1, hx1, hb1, hs1, ht1⟩ := findL_go hq1 hk2
    refine CW.skip ?_
    refine CW.seq (CW.block (CW.seq (CW.reg ?_)))
    refine WL.ev rfl rfl (Ev.mv rfl rfl) (WL.ev rfl rfl (Ev.as rfl rfl) (WL.nil ?_))
    refine CW.seq (CW.reg ?_)
    refine WL.ev rfl rfl (Ev.mv rfl rfl) (WL.ev rfl rfl (Ev.mv rfl rfl) (WL.ev rfl rfl (Ev.mv rfl rfl) ?_))
    obtain ⟨b1, ob1, cb1, hvb1, hI1, H⟩ := ixS_Int H (i := 0) rfl hx1
    refine WL.ev rfl rfl (Ev.ixVN rfl el34 sz3 rfl hvb1 rfl (lt_of hx1)) (WL.ev rfl rfl (Ev.ld rfl ag3 rfl ((H.rA (i := 1) rfl).cell0 rfl)) (WL.ev rfl rfl (Ev.bin rfl rfl rfl Bin.eql) (WL.nil ?_)))
    refine CW.condD rfl (fun h2 => ?_) (fun h2 => ?_)
    · skip
      have hb1 := ifp h2 hb1
      refine CW.seq (CW.reg ?_)
      refine WL.ev rfl rfl (Ev.mv rfl rfl) (WL.ev rfl rfl (Ev.as rfl rfl) (WL.nil ?_))
      refine CW.ret ?_
      obtain rfl := sm hb1
      obtain rfl := ht1 _ rfl
      obtain rfl := sm hr
      exact ⟨_, res1 rfl rfl rfl, H.ext0, rfl, (i64_nat hk2 hl1)⟩
    · skip
      have hb1 := ifn h2 hb1
      refine CW.skip ?_
      refine CW.reg ?_
      refine WL.ev rfl rfl (Ev.bin rfl rfl rfl (Bin.addN (a := k1) (b := 1) rfl (i64_succN hk2 hl1.2))) (WL.ev rfl rfl (Ev.mv rfl rfl) (WL.nil ?_))
      obtain rfl := sm hb1
      have hq1 := hs1 _ rfl
      exact ⟨(k1 + 1), ⟨rfl, rfl, rfl, rfl, trivial⟩, ⟨hk2, hq1, H.keep 1 0⟩, Nat.sub_lt_sub_left hk2 (Nat.lt_succ_self _)⟩
  · skip
    obtain rfl := findL_end hq1 (not_cast_lt h1)
    refine CW.exit ?_
    refine CW.seq (CW.reg ?_)
    refine WL.ev rfl rfl (Ev.as rfl rfl) (WL.nil ?_)
    refine CW.ret ?_
    obtain rfl := sm hr
    exact ⟨_, res1 rfl rfl rfl, H.ext0, rfl, (by decide : I64 (-1))⟩

noncomputable def slices_Index_Instance_L1 (a1 : Instance) : Nat → Instance → Unit → Option (Unit ⊕ Int) := fun k1 x1 _ => 
  if a1 = x1 then (
  some (.inr (k1 : Int))
  ) else (
  some (.inl ())
  )
noncomputable def slices_Index_Instance_m (a0 : (List Instance)) (a1 : Instance) : Option Int :=
  (findL (slices_Index_Instance_L1 a1) 0 a0 ()).bind <| onr (fun r1 => some r1) fun _ =>
  some (-1)
theorem slices_Index_Instance_ok {a0 : (List Instance)} {a1 : Instance} {r : Int} (hr : slices_Index_Instance_m a0 a1 = some r) {F0 : Nat → Prop} {w0 : World} {z0 : Value} (ha0 : rdS F0 w0 a0 z0) {ca1 : List Value} (ha1 : rd F0 w0 a1 ca1) :
    Ret Try.prog 100 #[z0, .agg ca1.toArray] w0 (fun _ => False) fun v w => v = .int .i64 r ∧ I64 r := by
  obtain ⟨A0', n0', c0', rfl⟩ := ha0.form3
  have H := ((HL.start F0 w0).argS ha0).argR ha1
  obtain ⟨rfl, hI1, hS1, H⟩ := op_Instance H (i := 1) rfl
  refine enter Try.func100 rfl rfl rfl ?_
  refine CW.seq (CW.reg ?_)
  refine WL.boxH rfl rfl rfl rfl rfl H fun b1 w1 H => ?_
  refine WL.ev rfl rfl (Ev.as rfl rfl) (WL.nil ?_)
  refine CW.seq (CW.seq (CW.reg ?_))
  refine WL.ev rfl rfl (Ev.mv rfl rfl) ?_
  have hl1 := (H.rS (i := 0) rfl).I
  refine WL.ev rfl rfl (Ev.lenV rfl el77 rfl (H.rS (i := 0) rfl)) (WL.ev rfl rfl (Ev.mv rfl rfl) (WL.nil ?_))
  obtain ⟨q1, hq1, hr⟩ := bd hr
  refine CW.block (CW.loop (α := Nat) (fun k1 => [(0, .slice A0' n0' c0'), (3, .pointer (some ⟨b1, 0, none⟩)), (7, .int .i64 (a0.length : Int)), (8, .int .i64 (k1 : Int))]) (fun k1 w => k1 ≤ a0.length ∧ findL (slices_Index_Instance_L1 a1) k1 (a0.drop k1) () = some q1 ∧ HL F0 [] w0 w [Pr.S a0 (.slice A0' n0' c0'), Pr.R a1 [.int .i64 a1.Node, .string a1.Name]] [It.B b1 103 [.int .i64 a1.Node, .string a1.Name]]) (fun k1 => a0.length - k1) 0 ⟨rfl, rfl, rfl, rfl, trivial⟩ ⟨Nat.zero_le _, hq1, H.keep 2 1⟩ ?_)
  rintro k1 σ w2 ⟨hk1, hq1, H⟩
  refine CW.seq (CW.reg ?_)
  refine WL.ev rfl rfl (Ev.bin rfl rfl rfl Bin.lss) (WL.nil ?_)
  refine CW.seq (CW.condD rfl (fun h1 => ?_) (fun h1 => ?_))
  · skip
    have hk2 := cast_lt h1
    obtain ⟨x1, z1, hx1, hb1, hs1, ht1⟩ := findL_go hq1 hk2
    refine CW.skip ?_
    refine CW.seq (CW.block (CW.seq (CW.reg ?_)))
    refine WL.ev rfl rfl (Ev.mv rfl rfl) (WL.ev rfl rfl (Ev.as rfl rfl) (WL.nil ?_))
    refine CW.seq (CW.quiet hmix (by kernel_rfl) ?_)
    refine QL.ev rfl rfl (fun _ hq => Ev.lda rfl ag103 sz103 rfl (At.blk ((H.ext hq).rB (i := 0) rfl)) rfl) (QL.ev rfl rfl (fun _ _ => Ev.mv rfl rfl) (QL.ev rfl rfl (fun _ _ => Ev.mv rfl rfl) ?_))
    obtain ⟨b2, ob2, cb2, hvb2, hI2, hS2, H⟩ := ixS_Instance H (i := 0) rfl hx1
    refine QL.ev rfl rfl (fun _ _ => Ev.ixVN rfl el77 sz103 rfl hvb2 rfl (lt_of hx1)) (QL.ev rfl rfl (fun _ hq => Ev.lda rfl ag103 sz103 rfl ((H.ext hq).rA (i := 2) rfl) rfl) (QL.ev rfl rfl (fun _ _ => Ev.bin rfl rfl rfl (Bin.eqlF fl103 (Instance_eqF a1 x1))) (QL.nil (fun w3 hE => ?_))))
    have H := H.ext hE
    refine CW.condD rfl (fun h2 => ?_) (fun h2 => ?_)
    · skip
      have hb1 := ifp h2 hb1
      refine CW.seq (CW.reg ?_)
      refine WL.ev rfl rfl (Ev.mv rfl rfl) (WL.ev rfl rfl (Ev.as rfl rfl) (WL.nil ?_))
      refine CW.ret ?_
      obtain rfl := sm hb1
      obtain rfl := ht1 _ rfl
      obtain rfl := sm hr
      exact ⟨_, res1 rfl rfl rfl, H.ext0, rfl, (i64_nat hk2 hl1)⟩
    · skip
      have hb1 := ifn h2 hb1
      refine CW.skip ?_
      refine CW.reg ?_
      refine WL.ev rfl rfl (Ev.bin rfl rfl rfl (Bin.addN (a := k1) (b := 1) rfl (i64_succN hk2 hl1.2))) (WL.ev rfl rfl (Ev.mv rfl rfl) (WL.nil ?_))
      obtain rfl := sm hb1
      have hq1 := hs1 _ rfl
      exact ⟨(k1 + 1), ⟨rfl, rfl, rfl, rfl, trivial⟩, ⟨hk2, hq1, H.keep 2 1⟩, Nat.sub_lt_sub_left hk2 (Nat.lt_succ_self _)⟩
  · skip
    obtain rfl := findL_end hq1 (not_cast_lt h1)
    refine CW.exit ?_
    refine CW.seq (CW.reg ?_)
    refine WL.ev rfl rfl (Ev.as rfl rfl) (WL.nil ?_)
    refine CW.ret ?_
    obtain rfl := sm hr
    exact ⟨_, res1 rfl rfl rfl, H.ext0, rfl, (by decide : I64 (-1))⟩

noncomputable def slices_Contains_Instance_m (a0 : (List Instance)) (a1 : Instance) : Option Bool :=
  (slices_Index_Instance_m a0 a1).bind fun y1 =>
  some (decide (0 ≤ y1))
theorem slices_Contains_Instance_ok {a0 : (List Instance)} {a1 : Instance} {r : Bool} (hr : slices_Contains_Instance_m a0 a1 = some r) {F0 : Nat → Prop} {w0 : World} {z0 : Value} (ha0 : rdS F0 w0 a0 z0) {ca1 : List Value} (ha1 : rd F0 w0 a1 ca1) :
    Ret Try.prog 93 #[z0, .agg ca1.toArray] w0 (fun _ => False) fun v w => v = .bool r := by
  obtain ⟨A0', n0', c0', rfl⟩ := ha0.form3
  have H := ((HL.start F0 w0).argS ha0).argR ha1
  obtain ⟨rfl, hI1, hS1, H⟩ := op_Instance H (i := 1) rfl
  refine enter Try.func93 rfl rfl rfl ?_
  refine CW.seq (CW.reg ?_)
  refine WL.boxH rfl rfl rfl rfl rfl H fun b1 w1 H => ?_
  refine WL.ev rfl rfl (Ev.as rfl rfl) (WL.nil ?_)
  refine CW.seq (CW.reg ?_)
  refine WL.ev rfl rfl (Ev.mv rfl rfl) (WL.ev rfl rfl (Ev.lda rfl ag103 sz103 rfl (At.blk (H.rB (i := 0) rfl)) rfl) ?_)
  obtain ⟨y1, hy1, hr⟩ := bd hr
  refine WL.call rfl rfl rfl rfl rfl ok100 rfl (slices_Index_Instance_ok hy1 (H.rS (i := 0) rfl) ⟨rfl, hI1, hS1⟩) ?_
  rintro _ w2 hE ⟨rfl, hI2⟩
  have H := H.ext hE
  refine WL.ev rfl rfl (Ev.bin rfl rfl rfl Bin.geq) (WL.ev rfl rfl (Ev.as rfl rfl) (WL.nil ?_))
  refine CW.ret ?_
  obtain rfl := sm hr
  exact ⟨_, res1 rfl rfl rfl, H.ext0, rfl⟩

noncomputable def ilastUse_L1 (a0 : (List TraceStep)) (a1 : Int) : Int → Option (Int ⊕ (Unit ⊕ Int)) := fun s1 => 
  if a1 < s1 then (
  grd (0 ≤ s1) <|
  (a0[s1.toNat]?).bind fun x1 =>
  grd (0 ≤ a1) <|
  (a0[a1.toNat]?).bind fun x2 =>
  (slices_Contains_Instance_m x1.Inputs x2.At).bind fun y1 =>
  if y1 = true then (
  some (.inr (.inr s1))
  ) else (
  grd (I64 (s1 - 1)) <|
  some (.inl (s1 - 1))
  )
  ) else (
  some (.inr (.inl ()))
  )
noncomputable def ilastUse_m (a0 : (List TraceStep)) (a1 : Int) : Option Int :=
  (
  iterO (ilastUse_L1 a0 a1) ((a0.length : Int) - 1)
  ).bind <| onr (fun r1 => some r1) fun () =>
  some a1
theorem ilastUse_ok {a0 : (List TraceStep)} {a1 : Int} {r : Int} (hr : ilastUse_m a0 a1 = some r) {F0 : Nat → Prop} {w0 : World} {z0 : Value} (ha0 : rdS F0 w0 a0 z0) (ha1 : I64 a1) :
    Ret Try.prog 83 #[z0, .int .i64 a1] w0 (fun _ => False) fun v w => v = .int .i64 r ∧ I64 r := by
  obtain ⟨A0', n0', c0', rfl⟩ := ha0.form3
  have H := (HL.start F0 w0).argS ha0
  refine enter Try.func83 rfl rfl rfl ?_
  refine CW.seq (CW.reg ?_)
  refine WL.ev rfl rfl (Ev.as rfl rfl) (WL.nil ?_)
  refine CW.seq (CW.seq (CW.reg ?_))
  refine WL.ev rfl rfl (Ev.mv rfl rfl) ?_
  have hl1 := (H.rS (i := 0) rfl).I
  refine WL.ev rfl rfl (Ev.lenV rfl el65 rfl (H.rS (i := 0) rfl)) (WL.ev rfl rfl (Ev.bin rfl rfl rfl (Bin.sub (i64_sub (k := 1) hl1 (by decide)))) (WL.ev rfl rfl (Ev.as rfl rfl) (WL.nil ?_)))
  obtain ⟨q1, hm1, hr⟩ := bd hr
  refine CW.mid (fun ρ' w => q1 = .inl () ∧ agree ρ' [(1, .int .i64 a1)] ∧ HL F0 [] w0 w [Pr.S a0 (.slice A0' n0' c0')] []) ?_ ?_
  · skip
    obtain ⟨m1, hq1⟩ := iterO_some.1 hm1
    refine CW.block (CW.loop (α := Nat × Int) (fun ⟨m1, s1⟩ => [(0, .slice A0' n0' c0'), (1, .int .i64 a1), (5, .int .i64 s1)]) (fun ⟨m1, s1⟩ w => iterN (ilastUse_L1 a0 a1) m1 s1 = some q1 ∧ I64 s1 ∧ HL F0 [] w0 w [Pr.S a0 (.slice A0' n0' c0')] []) (fun ⟨m1, s1⟩ => m1) ⟨m1, ((a0.length : Int) - 1)⟩ ⟨rfl, rfl, rfl, trivial⟩ ⟨hq1, (i64_sub (k := 1) hl1 (by decide)), H.keep 1 0⟩ ?_)
    rintro ⟨m1, s1⟩ σ w1 ⟨hq1, hI1, H⟩
    obtain ⟨m2, z1, rfl, hb1, hs1, ht1⟩ := iterN_go hq1
    refine CW.seq (CW.seq (CW.reg ?_))
    refine WL.ev rfl rfl (Ev.mv rfl rfl) (WL.ev rfl rfl (Ev.mv rfl rfl) (WL.ev rfl rfl (Ev.bin rfl rfl rfl Bin.gtr) (WL.nil ?_)))
    refine CW.condD rfl (fun h1 => ?_) (fun h1 => ?_)
    · skip
      have hb1 := ifp h1 hb1
      refine CW.skip ?_
      refine CW.seq (CW.block (CW.seq (CW.quiet hmix (by kernel_rfl) ?_)))
      refine QL.ev rfl rfl (fun _ _ => Ev.mv rfl rfl) (QL.ev rfl rfl (fun _ _ => Ev.mv rfl rfl) ?_)
      obtain ⟨hg1, hb1⟩ := grd_some hb1
      obtain ⟨x1, hx1, hb1⟩ := bd hb1
      obtain ⟨b1, ob1, cb1, A1, n1, c1, hvb1, hI2, hS1, H⟩ := ixS_TraceStep H (i := 0) rfl hx1
      refine QL.ev rfl rfl (fun _ _ => Ev.ixV rfl el65 sz105 rfl hvb1 rfl hg1 (lt_of hx1)) (QL.ev rfl rfl (fun _ _ => Ev.fa rfl fo105_1 rfl) (QL.ev rfl rfl (fun _ hq => Ev.ld rfl ag77 rfl (((H.ext hq).rA (i := 1) rfl).cell rfl)) (QL.ev rfl rfl (fun _ _ => Ev.mv rfl rfl) (QL.ev rfl rfl (fun _ _ => Ev.mv rfl rfl) ?_))))
      obtain ⟨hg2, hb1⟩ := grd_some hb1
      obtain ⟨x2, hx2, hb1⟩ := bd hb1
      obtain ⟨b2, ob2, cb2, A2, n2, c2, hvb2, hI3, hS2, H⟩ := ixS_TraceStep H (i := 0) rfl hx2
      refine QL.ev rfl rfl (fun _ _ => Ev.ixV rfl el65 sz105 rfl hvb2 rfl hg2 (lt_of hx2)) (QL.ev rfl rfl (fun _ _ => Ev.fa rfl fo105_0 rfl) (QL.ev rfl rfl (fun _ hq => Ev.lda rfl ag103 sz103 rfl (((H.ext hq).rA (i := 4) rfl).part 0 2) rfl) ?_))
      obtain ⟨y1, hy1, hb1⟩ := bd hb1
      refine QL.call rfl rfl rfl rfl rfl ok93 rfl (fun _ hq => slices_Contains_Instance_ok hy1 ((H.ext hq).rS (i := 3) rfl) ⟨rfl, hI3, hS2⟩) ?_
      refine QL.nil (fun w2 hE => ?_)
      have H := H.ext hE
      refine CW.condB rfl (fun h2 => ?_) (fun h2 => ?_)
      · skip
        have hb1 := ifp h2 hb1
        refine CW.seq (CW.reg ?_)
        refine WL.ev rfl rfl (Ev.mv rfl rfl) (WL.ev rfl rfl (Ev.as rfl rfl) (WL.nil ?_))
        refine CW.ret ?_
        obtain rfl := sm hb1
        obtain rfl := ht1 _ rfl
        obtain rfl := sm hr
        exact ⟨_, res1 rfl rfl rfl, H.ext0, rfl, hI1⟩
      · skip
        have hb1 := ifn h2 hb1
        refine CW.skip ?_
        refine CW.reg ?_
        refine WL.ev rfl rfl (Ev.mv rfl rfl) ?_
        obtain ⟨hg3, hb1⟩ := grd_some hb1
        refine WL.ev rfl rfl (Ev.bin rfl rfl rfl (Bin.sub hg3)) (WL.ev rfl rfl (Ev.as rfl rfl) (WL.nil ?_))
        obtain rfl := sm hb1
        exact ⟨⟨m2, (s1 - 1)⟩, ⟨rfl, rfl, rfl, trivial⟩, ⟨hs1 _ rfl, hg3, H.keep 1 0⟩, Nat.lt_succ_self _⟩
    · skip
      have hb1 := ifn h1 hb1
      refine CW.exit ?_
      obtain rfl := sm hb1
      obtain rfl := ht1 _ rfl
      exact ⟨rfl, ⟨rfl, trivial⟩, H.keep 1 0⟩
  · rintro ρ' w3 ⟨rfl, hag, H⟩
    obtain ⟨σ, rfl⟩ := ofL_ex hag
    refine CW.seq (CW.reg ?_)
    refine WL.ev rfl rfl (Ev.mv rfl rfl) (WL.ev rfl rfl (Ev.as rfl rfl) (WL.nil ?_))
    refine CW.ret ?_
    obtain rfl := sm hr
    exact ⟨_, res1 rfl rfl rfl, H.ext0, rfl, ha1⟩

noncomputable def iCheckSlots_L1 (a0 : (List TraceStep)) (a1 : (List Instance)) (a2 : (List Int)) : Nat → TraceStep → Unit → Option (Unit ⊕ Bool) := fun k1 x1 _ => 
  grd ((k1 + 1) ≤ a2.length) <|
  (a2[k1]?).bind fun x2 =>
  (slices_Index_int_m (a2.drop (k1 + 1)) x2).bind fun y2 =>
  if 0 ≤ y2 then (
  (ilastUse_m a0 (k1 : Int)).bind fun y3 =>
  grd (I64 (((k1 + 1 : Nat) : Int) + y2)) <|
  if (((k1 + 1 : Nat) : Int) + y2) < y3 then (
  some (.inr false)
  ) else (
  (slices_Contains_Instance_m a1 x1.At).bind fun y4 =>
  if y4 = true then (
  some (.inr false)
  ) else (
  some (.inl ())
  )
  )
  ) else (
  some (.inl ())
  )
noncomputable def iCheckSlots_m (a0 : (List TraceStep)) (a1 : (List Instance)) (a2 : (List Int)) : Option Bool :=
  if (a2.length : Int) = (a0.length : Int) then (
  (slices_ContainsFunc_int_iCheckSlots_1_m a2).bind fun y1 =>
  if y1 = true then (
  some false
  ) else (
  (findL (iCheckSlots_L1 a0 a1 a2) 0 a0 ()).bind <| onr (fun r1 => some r1) fun _ =>
  some true
  )
  ) else (
  some false
  )
theorem iCheckSlots_ok {a0 : (List TraceStep)} {a1 : (List Instance)} {a2 : (List Int)} {r : Bool} (hr : iCheckSlots_m a0 a1 a2 = some r) {F0 : Nat → Prop} {w0 : World} {z0 : Value} (ha0 : rdS F0 w0 a0 z0) {z1 : Value} (ha1 : rdS F0 w0 a1 z1) {z2 : Value} (ha2 : rdS F0 w0 a2 z2) :
    Ret Try.prog 63 #[z0, z1, z2] w0 (fun _ => False) fun v w => v = .bool r := by
  obtain ⟨A0', n0', c0', rfl⟩ := ha0.form3
  obtain ⟨A1', n1', c1', rfl⟩ := ha1.form3
  obtain ⟨A2', n2', c2', rfl⟩ := ha2.form3
  have H := (((HL.start F0 w0).argS ha0).argS ha1).argS ha2
  refine enter Try.func63 rfl rfl rfl ?_
  refine CW.seq (CW.reg ?_)
  refine WL.ev rfl rfl (Ev.as rfl rfl) (WL.nil ?_)
  refine CW.seq (CW.seq (CW.reg ?_))
  refine WL.ev rfl rfl (Ev.mv rfl rfl) ?_
  have hl1 := (H.rS (i := 2) rfl).I
  refine WL.ev rfl rfl (Ev.lenV rfl el34 rfl (H.rS (i := 2) rfl)) (WL.ev rfl rfl (Ev.mv rfl rfl) ?_)
  have hl2 := (H.rS (i := 0) rfl).I
  refine WL.ev rfl rfl (Ev.lenV rfl el65 rfl (H.rS (i := 0) rfl)) (WL.ev rfl rfl (Ev.bin rfl rfl rfl Bin.neq) ?_)
  refine WL.mvN rfl rfl rfl rfl (fun h1 => ?_) (fun h1 => ?_)
  · skip
    have hr := ifn h1 hr
    refine WL.off rfl rfl rfl (WL.off rfl rfl rfl (WL.ev rfl rfl (Ev.pickT rfl rfl rfl) (WL.nil ?_)))
    refine CW.condT rfl ?_
    refine CW.seq (CW.reg ?_)
    refine WL.ev rfl rfl (Ev.as rfl rfl) (WL.nil ?_)
    refine CW.ret ?_
    obtain rfl := sm hr
    exact ⟨_, res1 rfl rfl rfl, H.ext0, rfl⟩
  · skip
    have hr := ifp h1 hr
    refine WL.on rfl rfl (WL.ev rfl rfl (Ev.mv rfl rfl) (WL.on rfl rfl ?_))
    obtain ⟨y1, hy1, hr⟩ := bd hr
    refine WL.call rfl rfl rfl rfl rfl ok70 rfl (slices_ContainsFunc_int_iCheckSlots_1_ok hy1 (H.rS (i := 2) rfl)) ?_
    rintro _ w1 hE rfl
    have H := H.ext hE
    refine WL.ev rfl rfl (Ev.pickF rfl rfl rfl) (WL.nil ?_)
    refine CW.condB rfl (fun h2 => ?_) (fun h2 => ?_)
    · skip
      have hr := ifp h2 hr
      refine CW.seq (CW.reg ?_)
      refine WL.ev rfl rfl (Ev.as rfl rfl) (WL.nil ?_)
      refine CW.ret ?_
      obtain rfl := sm hr
      exact ⟨_, res1 rfl rfl rfl, H.ext0, rfl⟩
    · skip
      have hr := ifn h2 hr
      refine CW.skip ?_
      refine CW.seq (CW.seq (CW.reg ?_))
      refine WL.ev rfl rfl (Ev.mv rfl rfl) (WL.ev rfl rfl (Ev.lenV rfl el65 rfl (H.rS (i := 0) rfl)) (WL.ev rfl rfl (Ev.mv rfl rfl) (WL.nil ?_)))
      obtain ⟨q1, hq1, hr⟩ := bd hr
      refine CW.block (CW.loop (α := Nat) (fun k1 => [(0, .slice A0' n0' c0'), (1, .slice A1' n1' c1'), (2, .slice A2' n2' c2'), (19, .int .i64 (a0.length : Int)), (20, .int .i64 (k1 : Int))]) (fun k1 w => k1 ≤ a0.length ∧ findL (iCheckSlots_L1 a0 a1 a2) k1 (a0.drop k1) () = some q1 ∧ HL F0 [] w0 w [Pr.S a0 (.slice A0' n0' c0'), Pr.S a1 (.slice A1' n1' c1'), Pr.S a2 (.slice A2' n2' c2')] []) (fun k1 => a0.length - k1) 0 ⟨rfl, rfl, rfl, rfl, rfl, trivial⟩ ⟨Nat.zero_le _, hq1, H.keep 3 0⟩ ?_)
      rintro k1 σ w2 ⟨hk1, hq1, H⟩
      refine CW.seq (CW.reg ?_)
      refine WL.ev rfl rfl (Ev.bin rfl rfl rfl Bin.lss) (WL.nil ?_)
      refine CW.seq (CW.condD rfl (fun h3 => ?_) (fun h3 => ?_))
      · skip
        have hk2 := cast_lt h3
        obtain ⟨x1, z1, hx1, hb1, hs1, ht1⟩ := findL_go hq1 hk2
        refine CW.skip ?_
        refine CW.seq (CW.block (CW.seq (CW.reg ?_)))
        refine WL.ev rfl rfl (Ev.mv rfl rfl) (WL.ev rfl rfl (Ev.as rfl rfl) (WL.nil ?_))
        refine CW.seq (CW.quiet hmix (by kernel_rfl) ?_)
        refine QL.ev rfl rfl (fun _ _ => Ev.mv rfl rfl) (QL.ev rfl rfl (fun _ _ => Ev.mv rfl rfl) (QL.ev rfl rfl (fun _ _ => Ev.bin rfl rfl rfl (Bin.addN (a := k1) (b := 1) rfl (i64_succN hk2 hl2.2))) ?_))
        obtain ⟨hg1, hb1⟩ := grd_some hb1
        obtain ⟨A1, n1, c1, e1, hc1, H⟩ := H.slL (i := 2) rfl hg1
        refine QL.ev rfl rfl (fun _ _ => Ev.slLV rfl el34 sz3 rfl rfl rfl hc1 e1) (QL.ev rfl rfl (fun _ _ => Ev.mv rfl rfl) (QL.ev rfl rfl (fun _ _ => Ev.mv rfl rfl) ?_))
        obtain ⟨x2, hx2, hb1⟩ := bd hb1
        obtain ⟨b1, ob1, cb1, hvb1, hI1, H⟩ := ixS_Int H (i := 2) rfl hx2
        refine QL.ev rfl rfl (fun _ _ => Ev.ixVN rfl el34 sz3 rfl hvb1 rfl (lt_of hx2)) (QL.ev rfl rfl (fun _ hq => Ev.ld rfl ag3 rfl (((H.ext hq).rA (i := 4) rfl).cell0 rfl)) ?_)
        obtain ⟨y2, hy2, hb1⟩ := bd hb1
        refine QL.call rfl rfl rfl rfl rfl ok92 rfl (fun _ hq => (slices_Index_int_ok hy2 ((H.ext hq).rS (i := 3) rfl) hI1).mono fun _ _ _ h => h.1) ?_
        obtain ⟨_, _, _, hI2⟩ := (slices_Index_int_ok hy2 (H.rS (i := 3) rfl) hI1).get
        refine QL.ev rfl rfl (fun _ _ => Ev.as rfl rfl) (QL.nil (fun w3 hE => ?_))
        have H := H.ext hE
        refine CW.seq (CW.reg ?_)
        refine WL.ev rfl rfl (Ev.mv rfl rfl) (WL.ev rfl rfl (Ev.bin rfl rfl rfl Bin.geq) ?_)
        refine WL.mvD rfl rfl rfl rfl (fun h4 => ?_) (fun h4 => ?_)
        · skip
          have hb1 := ifp h4 hb1
          refine WL.on rfl rfl (WL.ev rfl rfl (Ev.mv rfl rfl) (WL.on rfl rfl (WL.ev rfl rfl (Ev.mv rfl rfl) (WL.on rfl rfl ?_))))
          obtain ⟨y3, hy3, hb1⟩ := bd hb1
          refine WL.call rfl rfl rfl rfl rfl ok83 rfl (ilastUse_ok hy3 (H.rS (i := 0) rfl) (i64_nat hk2 hl2)) ?_
          rintro _ w4 hE ⟨rfl, hI3⟩
          have H := H.ext hE
          refine WL.on rfl rfl (WL.ev rfl rfl (Ev.mv rfl rfl) (WL.on rfl rfl (WL.ev rfl rfl (Ev.bin rfl rfl rfl (Bin.addN (a := k1) (b := 1) rfl (i64_succN hk2 hl2.2))) (WL.on rfl rfl (WL.ev rfl rfl (Ev.mv rfl rfl) (WL.on rfl rfl ?_))))))
          obtain ⟨hg2, hb1⟩ := grd_some hb1
          refine WL.ev rfl rfl (Ev.bin rfl rfl rfl (Bin.add hg2)) (WL.on rfl rfl (WL.ev rfl rfl (Ev.bin rfl rfl rfl Bin.gtr) (WL.on rfl rfl ?_)))
          refine WL.mvD rfl rfl rfl rfl (fun h5 => ?_) (fun h5 => ?_)
          · skip
            have hb1 := ifp h5 hb1
            refine WL.off rfl rfl rfl (WL.off rfl rfl rfl (WL.off rfl rfl rfl (WL.off rfl rfl rfl (WL.off rfl rfl rfl (WL.off rfl rfl rfl (WL.off rfl rfl rfl (WL.on rfl rfl (WL.ev rfl rfl (Ev.pickT rfl rfl rfl) (WL.ev rfl rfl (Ev.pickT rfl rfl rfl) (WL.nil ?_))))))))))
            refine CW.condT rfl ?_
            refine CW.seq ?_
            refine CW.fresh [] trivial fun σ => ?_
            refine CW.reg ?_
            refine WL.ev rfl rfl (Ev.as rfl rfl) (WL.nil ?_)
            refine CW.ret ?_
            obtain rfl := sm hb1
            obtain rfl := ht1 _ rfl
            obtain rfl := sm hr
            exact ⟨_, res1 rfl rfl rfl, H.ext0, rfl⟩
          · skip
            have hb1 := ifn h5 hb1
            refine WL.on rfl rfl (WL.ev rfl rfl (Ev.mv rfl rfl) (WL.on rfl rfl (WL.ev rfl rfl (Ev.mv rfl rfl) (WL.on rfl rfl (WL.ev rfl rfl (Ev.mv rfl rfl) (WL.on rfl rfl ?_))))))
            obtain ⟨b2, ob2, cb2, A2, n2, c2, hvb2, hI4, hS1, H⟩ := ixS_TraceStep H (i := 0) rfl hx1
            refine WL.ev rfl rfl (Ev.ixVN rfl el65 sz105 rfl hvb2 rfl (lt_of hx1)) (WL.on rfl rfl (WL.ev rfl rfl (Ev.fa rfl fo105_0 rfl) (WL.on rfl rfl (WL.ev rfl rfl (Ev.lda rfl ag103 sz103 rfl ((H.rA (i := 6) rfl).part 0 2) rfl) (WL.on rfl rfl ?_)))))
            obtain ⟨y4, hy4, hb1⟩ := bd hb1
            refine WL.call rfl rfl rfl rfl rfl ok93 rfl (slices_Contains_Instance_ok hy4 (H.rS (i := 1) rfl) ⟨rfl, hI4, hS1⟩) ?_
            rintro _ w5 hE rfl
            have H := H.ext hE
            refine WL.on rfl rfl (WL.ev rfl rfl (Ev.pickF rfl rfl rfl) (WL.ev rfl rfl (Ev.pickT rfl rfl rfl) (WL.nil ?_)))
            refine CW.condB rfl (fun h6 => ?_) (fun h6 => ?_)
            · skip
              have hb1 := ifp h6 hb1
              refine CW.seq ?_
              refine CW.fresh [] trivial fun σ => ?_
              refine CW.reg ?_
              refine WL.ev rfl rfl (Ev.as rfl rfl) (WL.nil ?_)
              refine CW.ret ?_
              obtain rfl := sm hb1
              obtain rfl := ht1 _ rfl
              obtain rfl := sm hr
              exact ⟨_, res1 rfl rfl rfl, H.ext0, rfl⟩
            · skip
              have hb1 := ifn h6 hb1
              refine CW.skip ?_
              refine CW.fresh [(0, .slice A0' n0' c0'), (1, .slice A1' n1' c1'), (2, .slice A2' n2' c2'), (19, .int .i64 (a0.length : Int)), (20, .int .i64 (k1 : Int)), (35, .slice A0' n0' c0'), (36, .int .i64 (k1 : Int)), (37, .int .i64 y3), (38, .int .i64 (k1 : Int)), (39, .int .i64 ((k1 + 1 : Nat) : Int)), (40, .int .i64 y2), (41, .int .i64 (((k1 + 1 : Nat) : Int) + y2)), (42, .bool (decide ((((k1 + 1 : Nat) : Int) + y2) < y3))), (43, .bool false), (44, .slice A1' n1' c1'), (45, .slice A0' n0' c0'), (46, .int .i64 (k1 : Int)), (47, .pointer (some ⟨b2, ob2 + k1 * 3, none⟩)), (48, .pointer (some ⟨b2, ob2 + k1 * 3 + 0, none⟩)), (49, .agg #[.int .i64 x1.At.Node, .string x1.At.Name]), (50, .bool y4), (51, .bool y4)] ⟨rfl, rfl, rfl, rfl, rfl, rfl, rfl, rfl, rfl, rfl, rfl, rfl, rfl, rfl, rfl, rfl, rfl, rfl, rfl, rfl, rfl, rfl, trivial⟩ fun σ => ?_
              refine CW.reg ?_
              refine WL.ev rfl rfl (Ev.bin rfl rfl rfl (Bin.addN (a := k1) (b := 1) rfl (i64_succN hk2 hl2.2))) (WL.ev rfl rfl (Ev.mv rfl rfl) (WL.nil ?_))
              obtain rfl := sm hb1
              have hq1 := hs1 _ rfl
              exact ⟨(k1 + 1), ⟨rfl, rfl, rfl, rfl, rfl, trivial⟩, ⟨hk2, hq1, H.keep 3 0⟩, Nat.sub_lt_sub_left hk2 (Nat.lt_succ_self _)⟩
        · skip
          have hb1 := ifn h4 hb1
          refine WL.off rfl rfl rfl (WL.off rfl rfl rfl (WL.off rfl rfl rfl (WL.off rfl rfl rfl (WL.off rfl rfl rfl (WL.off rfl rfl rfl (WL.off rfl rfl rfl (WL.off rfl rfl rfl (WL.off rfl rfl rfl (WL.off rfl rfl rfl (WL.off rfl rfl rfl (WL.off rfl rfl rfl (WL.off rfl rfl rfl (WL.off rfl rfl rfl (WL.off rfl rfl rfl (WL.off rfl rfl rfl (WL.off rfl rfl rfl (WL.ev rfl rfl (Ev.pickF rfl rfl rfl) (WL.nil ?_))))))))))))))))))
          refine CW.condF rfl ?_
          refine CW.skip ?_
          refine CW.reg ?_
          refine WL.ev rfl rfl (Ev.bin rfl rfl rfl (Bin.addN (a := k1) (b := 1) rfl (i64_succN hk2 hl2.2))) (WL.ev rfl rfl (Ev.mv rfl rfl) (WL.nil ?_))
          obtain rfl := sm hb1
          have hq1 := hs1 _ rfl
          exact ⟨(k1 + 1), ⟨rfl, rfl, rfl, rfl, rfl, trivial⟩, ⟨hk2, hq1, H.keep 3 0⟩, Nat.sub_lt_sub_left hk2 (Nat.lt_succ_self _)⟩
      · skip
        obtain rfl := findL_end hq1 (not_cast_lt h3)
        refine CW.exit ?_
        refine CW.seq (CW.reg ?_)
        refine WL.ev rfl rfl (Ev.as rfl rfl) (WL.nil ?_)
        refine CW.ret ?_
        obtain rfl := sm hr
        exact ⟨_, res1 rfl rfl rfl, H.ext0, rfl⟩

end Go.Proofs.Ytaenbhfjiihhnaa
