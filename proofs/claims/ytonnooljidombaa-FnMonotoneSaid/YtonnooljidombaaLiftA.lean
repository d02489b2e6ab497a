/- What some functions of the program compute, as partial functions on plain data, and that they do; each lemma bears its conditions in its statement. -/
import Derived.Test.YtonnooljidombaaRows
import Derived.Test.YtonnooljidombaaRd
import Derived.Test.YtonnooljidombaaEngD
import Derived.Test.YtonnooljidombaaSort
set_option linter.unusedVariables false
set_option linter.unusedSimpArgs false
set_option linter.ambiguousOpen false
set_option linter.unusedSectionVars false
set_option linter.unnecessarySimpa false
set_option linter.unusedVariables false
set_option linter.unusedSimpArgs false
set_option maxRecDepth 100000
set_option maxHeartbeats 4000000
namespace Go.Proofs.Ytonnooljidombaa
open Go Go.E
open Go.E.Rep (rd)
open Go.E.Sep (own)
open Go.E.Sz (szd)
theorem ag5 : aggT Try.prog 5 = some false := by kernel_rfl
theorem ag29 : aggT Try.prog 29 = some false := by kernel_rfl
theorem ag31 : aggT Try.prog 31 = some true := by kernel_rfl
theorem ag33 : aggT Try.prog 33 = some false := by kernel_rfl
theorem ag38 : aggT Try.prog 38 = some false := by kernel_rfl
theorem ag48 : aggT Try.prog 48 = some true := by kernel_rfl
theorem ag51 : aggT Try.prog 51 = some false := by kernel_rfl
theorem sz5 : szT Try.prog 5 = some 1 := by kernel_rfl
theorem sz9 : szT Try.prog 9 = some 1 := by kernel_rfl
theorem sz29 : szT Try.prog 29 = some 1 := by kernel_rfl
theorem sz31 : szT Try.prog 31 = some 7 := by kernel_rfl
theorem sz33 : szT Try.prog 33 = some 1 := by kernel_rfl
theorem sz48 : szT Try.prog 48 = some 2 := by kernel_rfl
theorem sz50 : szT Try.prog 50 = some 3 := by kernel_rfl
theorem by31 : byT Try.prog 31 = some 88 := by kernel_rfl
theorem by48 : byT Try.prog 48 = some 24 := by kernel_rfl
theorem by50 : byT Try.prog 50 = some 32 := by kernel_rfl
theorem ze9 : zeroT Try.prog 9 = some [.string ⟨#[]⟩] := by kernel_rfl
theorem ze31 : zeroT Try.prog 31 = some [.int .i64 0, .int .i64 0, .int .i64 0, .int .i64 0, .string ⟨#[]⟩, .string ⟨#[]⟩, .slice none 0 0] := by kernel_rfl
theorem ze33 : zeroT Try.prog 33 = some [.slice none 0 0] := by kernel_rfl
theorem ze48 : zeroT Try.prog 48 = some [.int .i64 0, .string ⟨#[]⟩] := by kernel_rfl
theorem ze50 : zeroT Try.prog 50 = some [.int .i64 0, .string ⟨#[]⟩, .int .i64 0] := by kernel_rfl
theorem ze159 : zeroT Try.prog 159 = some [.slice none 0 0, .int .i64 0, .int .i64 0] := by kernel_rfl
theorem el29 : elemT Try.prog 29 = some 31 := by kernel_rfl
theorem el33 : elemT Try.prog 33 = some 48 := by kernel_rfl
theorem el38 : elemT Try.prog 38 = some 5 := by kernel_rfl
theorem el40 : elemT Try.prog 40 = some 50 := by kernel_rfl
theorem el82 : elemT Try.prog 82 = some 9 := by kernel_rfl
theorem it3 : intT Try.prog 3 = some .i64 := by kernel_rfl
theorem it130 : intT Try.prog 130 = some .u64 := by kernel_rfl
theorem pl31 : placesT Try.prog 31 = some [(0, 1), (1, 1), (2, 1), (3, 1), (4, 1), (5, 1), (6, 1)] := by kernel_rfl
theorem pl48 : placesT Try.prog 48 = some [(0, 1), (1, 1)] := by kernel_rfl
theorem pl50 : placesT Try.prog 50 = some [(0, 2), (2, 1)] := by kernel_rfl
theorem pl159 : placesT Try.prog 159 = some [(0, 1), (1, 1), (2, 1)] := by kernel_rfl
theorem fl48 : flatT Try.prog 48 = some [.int, .str] := by kernel_rfl
theorem fo31_0 : fieldT Try.prog 31 0 = some 0 := by kernel_rfl
theorem fo31_1 : fieldT Try.prog 31 1 = some 1 := by kernel_rfl
theorem fo31_2 : fieldT Try.prog 31 2 = some 2 := by kernel_rfl
theorem fo31_3 : fieldT Try.prog 31 3 = some 3 := by kernel_rfl
theorem fo31_4 : fieldT Try.prog 31 4 = some 4 := by kernel_rfl
theorem fo31_5 : fieldT Try.prog 31 5 = some 5 := by kernel_rfl
theorem fo31_6 : fieldT Try.prog 31 6 = some 6 := by kernel_rfl
theorem fo50_0 : fieldT Try.prog 50 0 = some 0 := by kernel_rfl
theorem fo50_1 : fieldT Try.prog 50 1 = some 2 := by kernel_rfl
theorem fo159_0 : fieldT Try.prog 159 0 = some 0 := by kernel_rfl
theorem fo159_1 : fieldT Try.prog 159 1 = some 1 := by kernel_rfl
theorem fo159_2 : fieldT Try.prog 159 2 = some 2 := by kernel_rfl
theorem ok13 : callable Try.prog 13 = true := by kernel_rfl
theorem ok16 : callable Try.prog 16 = true := by kernel_rfl
theorem ok19 : callable Try.prog 19 = true := by kernel_rfl
theorem ok20 : callable Try.prog 20 = true := by kernel_rfl
theorem ok21 : callable Try.prog 21 = true := by kernel_rfl
theorem ok24 : callable Try.prog 24 = true := by kernel_rfl
theorem ok25 : callable Try.prog 25 = true := by kernel_rfl
theorem ok26 : callable Try.prog 26 = true := by kernel_rfl
theorem ok27 : callable Try.prog 27 = true := by kernel_rfl
theorem ok29 : callable Try.prog 29 = true := by kernel_rfl
theorem ok33 : callable Try.prog 33 = true := by kernel_rfl
theorem ok34 : callable Try.prog 34 = true := by kernel_rfl
theorem ok74 : callable Try.prog 74 = true := by kernel_rfl
theorem ok77 : callable Try.prog 77 = true := by kernel_rfl
theorem ok78 : callable Try.prog 78 = true := by kernel_rfl
theorem ok79 : callable Try.prog 79 = true := by kernel_rfl
theorem ok80 : callable Try.prog 80 = true := by kernel_rfl
theorem ok83 : callable Try.prog 83 = true := by kernel_rfl
theorem ok84 : callable Try.prog 84 = true := by kernel_rfl
theorem ok86 : callable Try.prog 86 = true := by kernel_rfl
theorem ok91 : callable Try.prog 91 = true := by kernel_rfl
theorem ok92 : callable Try.prog 92 = true := by kernel_rfl
theorem ok93 : callable Try.prog 93 = true := by kernel_rfl
theorem ok94 : callable Try.prog 94 = true := by kernel_rfl
theorem ok95 : callable Try.prog 95 = true := by kernel_rfl
theorem ok96 : callable Try.prog 96 = true := by kernel_rfl
theorem ok97 : callable Try.prog 97 = true := by kernel_rfl
theorem ok98 : callable Try.prog 98 = true := by kernel_rfl
theorem ok99 : callable Try.prog 99 = true := by kernel_rfl
theorem ok100 : callable Try.prog 100 = true := by kernel_rfl
theorem ok104 : callable Try.prog 104 = true := by kernel_rfl
theorem ok112 : callable Try.prog 112 = true := by kernel_rfl
theorem ok116 : callable Try.prog 116 = true := by kernel_rfl
theorem ok118 : callable Try.prog 118 = true := by kernel_rfl
theorem ok119 : callable Try.prog 119 = true := by kernel_rfl
theorem ok125 : callable Try.prog 125 = true := by kernel_rfl
theorem ok137 : callable Try.prog 137 = true := by kernel_rfl
theorem ok138 : callable Try.prog 138 = true := by kernel_rfl
theorem ok139 : callable Try.prog 139 = true := by kernel_rfl
theorem ok141 : callable Try.prog 141 = true := by kernel_rfl
theorem ok142 : callable Try.prog 142 = true := by kernel_rfl
theorem ok143 : callable Try.prog 143 = true := by kernel_rfl
theorem ok144 : callable Try.prog 144 = true := by kernel_rfl
theorem ok145 : callable Try.prog 145 = true := by kernel_rfl
theorem ok147 : callable Try.prog 147 = true := by kernel_rfl
theorem ok152 : callable Try.prog 152 = true := by kernel_rfl
theorem ok153 : callable Try.prog 153 = true := by kernel_rfl
theorem ok154 : callable Try.prog 154 = true := by kernel_rfl
theorem ok155 : callable Try.prog 155 = true := by kernel_rfl
theorem ok156 : callable Try.prog 156 = true := by kernel_rfl
theorem ok158 : callable Try.prog 158 = true := by kernel_rfl
theorem ok169 : callable Try.prog 169 = true := by kernel_rfl
theorem ok177 : callable Try.prog 177 = true := by kernel_rfl
theorem ok178 : callable Try.prog 178 = true := by kernel_rfl
theorem ok179 : callable Try.prog 179 = true := by kernel_rfl
theorem ok180 : callable Try.prog 180 = true := by kernel_rfl
theorem ok181 : callable Try.prog 181 = true := by kernel_rfl
theorem ok182 : callable Try.prog 182 = true := by kernel_rfl
theorem ok183 : callable Try.prog 183 = true := by kernel_rfl
theorem ok184 : callable Try.prog 184 = true := by kernel_rfl
theorem ok185 : callable Try.prog 185 = true := by kernel_rfl
theorem ok186 : callable Try.prog 186 = true := by kernel_rfl
theorem ok203 : callable Try.prog 203 = true := by kernel_rfl
theorem ok204 : callable Try.prog 204 = true := by kernel_rfl
theorem ok210 : callable Try.prog 210 = true := by kernel_rfl
noncomputable def wbig_m (a0 : (List UInt8)) : Option Bool :=
  some (decide (1048576 < (a0.length : Int)))
theorem wbig_ok {a0 : (List UInt8)} {r : Bool} (hr : wbig_m a0 = some r) {F0 : Nat → Prop} {w0 : World} {z0 : Value} (ha0 : rdS F0 w0 a0 z0) :
    Ret Try.prog 21 #[z0] w0 (fun _ => False) fun v w => v = .bool r := by
  obtain ⟨A0', n0', c0', rfl⟩ := ha0.form3
  have H := (HL.start F0 w0).argS ha0
  refine enter Try.func21 rfl rfl rfl ?_
  refine CW.seq (CW.reg ?_)
  refine WL.ev rfl rfl (Ev.as rfl rfl) (WL.nil ?_)
  refine CW.seq (CW.reg ?_)
  refine WL.ev rfl rfl (Ev.mv rfl rfl) ?_
  have hl1 := (H.rS (i := 0) rfl).I
  refine WL.ev rfl rfl (Ev.lenV rfl el38 rfl (H.rS (i := 0) rfl)) (WL.ev rfl rfl (Ev.bin rfl rfl rfl Bin.gtr) (WL.ev rfl rfl (Ev.as rfl rfl) (WL.nil ?_)))
  refine CW.ret ?_
  obtain rfl := sm hr
  exact ⟨_, res1 rfl rfl rfl, H.ext0, rfl⟩

noncomputable def sl1New_L1 (a0 : (List UInt8)) : (Int × Int) → Option ((Int × Int) ⊕ Int) := fun (s2, s3) => 
  if s3 < (a0.length : Int) then (
  if s3 < 4000 then (
  grd (0 ≤ s3) <|
  (a0[s3.toNat]?).bind fun x1 =>
  some (.inl ((goAnd (IntKind.i64.wrap ((IntKind.i64.wrap ((IntKind.i64.wrap (s2 * 131)) + (x1.toNat : Int))) + 7)) 1073741823), (IntKind.i64.wrap (s3 + 1))))
  ) else (
  some (.inr s2)
  )
  ) else (
  some (.inr s2)
  )
noncomputable def sl1New_m (a0 : (List UInt8)) : Option l1Cur :=
  (
  iterO (sl1New_L1 a0) ((IntKind.i64.wrap (26583 + (a0.length : Int))), 0)
  ).bind fun s1 =>
  some (⟨a0, 0, s1⟩ : l1Cur)
theorem sl1New_ok {a0 : (List UInt8)} {r : l1Cur} (hr : sl1New_m a0 = some r) {F0 : Nat → Prop} {w0 : World} {z0 : Value} (ha0 : rdS F0 w0 a0 z0) :
    Ret Try.prog 83 #[z0] w0 (fun _ => False) fun v w => ∃ bp0 : Nat, ∃ A0 : Option Addr, ∃ n0 c0 : Nat, v = .pointer (some ⟨bp0, 0, none⟩) ∧ I64 r.i ∧ I64 r.h ∧ HL F0 [] w0 w [Pr.S r.b (.slice A0 n0 c0)] [It.B bp0 159 [(.slice A0 n0 c0), .int .i64 r.i, .int .i64 r.h]] := by
  obtain ⟨A0', n0', c0', rfl⟩ := ha0.form3
  have H := (HL.start F0 w0).argS ha0
  refine enter Try.func83 rfl rfl rfl ?_
  refine CW.seq (CW.reg ?_)
  refine WL.ev rfl rfl (Ev.as rfl rfl) (WL.nil ?_)
  refine CW.seq (CW.reg ?_)
  refine WL.ev rfl rfl (Ev.mv rfl rfl) ?_
  have hl1 := (H.rS (i := 0) rfl).I
  refine WL.ev rfl rfl (Ev.lenV rfl el38 rfl (H.rS (i := 0) rfl)) (WL.ev rfl rfl (Ev.bin rfl rfl rfl Bin.addw) (WL.ev rfl rfl (Ev.as rfl rfl) (WL.nil ?_)))
  refine CW.seq (CW.seq (CW.reg ?_))
  refine WL.ev rfl rfl (Ev.as rfl rfl) (WL.nil ?_)
  obtain ⟨q1, hm1, hr⟩ := bd hr
  refine CW.mid (fun ρ' w => ∃ (s1 : Int), s1 = q1 ∧ agree ρ' [(0, .slice A0' n0' c0'), (3, .int .i64 s1)] ∧ I64 s1 ∧ HL F0 [] w0 w [Pr.S a0 (.slice A0' n0' c0')] []) ?_ ?_
  · skip
    obtain ⟨m1, hq1⟩ := iterO_some.1 hm1
    refine CW.block (CW.loop (α := Nat × Int × Int) (fun ⟨m1, s2, s3⟩ => [(0, .slice A0' n0' c0'), (3, .int .i64 s2), (4, .int .i64 s3)]) (fun ⟨m1, s2, s3⟩ w => iterN (sl1New_L1 a0) m1 (s2, s3) = some q1 ∧ I64 s2 ∧ I64 s3 ∧ HL F0 [] w0 w [Pr.S a0 (.slice A0' n0' c0')] []) (fun ⟨m1, s2, s3⟩ => m1) ⟨m1, (IntKind.i64.wrap (26583 + (a0.length : Int))), 0⟩ ⟨rfl, rfl, rfl, trivial⟩ ⟨hq1, (i64_wrap _), (by decide : I64 0), H.keep 1 0⟩ ?_)
    rintro ⟨m1, s2, s3⟩ σ w1 ⟨hq1, hI2, hI3, H⟩
    obtain ⟨m2, z1, rfl, hb1, hs1, ht1⟩ := iterN_go hq1
    refine CW.seq (CW.seq (CW.reg ?_))
    refine WL.ev rfl rfl (Ev.mv rfl rfl) (WL.ev rfl rfl (Ev.mv rfl rfl) (WL.ev rfl rfl (Ev.lenV rfl el38 rfl (H.rS (i := 0) rfl)) (WL.ev rfl rfl (Ev.bin rfl rfl rfl Bin.lss) ?_)))
    refine WL.mvD rfl rfl rfl rfl (fun h1 => ?_) (fun h1 => ?_)
    · skip
      have hb1 := ifp h1 hb1
      refine WL.on rfl rfl (WL.ev rfl rfl (Ev.mv rfl rfl) (WL.on rfl rfl (WL.ev rfl rfl (Ev.bin rfl rfl rfl Bin.lss) (WL.ev rfl rfl (Ev.pickT rfl rfl rfl) (WL.nil ?_)))))
      refine CW.condD rfl (fun h2 => ?_) (fun h2 => ?_)
      · skip
        have hb1 := ifp h2 hb1
        refine CW.skip ?_
        refine CW.seq (CW.block (CW.reg ?_))
        refine WL.ev rfl rfl (Ev.mv rfl rfl) (WL.ev rfl rfl (Ev.bin rfl rfl rfl Bin.mulw) (WL.ev rfl rfl (Ev.mv rfl rfl) (WL.ev rfl rfl (Ev.mv rfl rfl) ?_)))
        obtain ⟨hg1, hb1⟩ := grd_some hb1
        obtain ⟨x1, hx1, hb1⟩ := bd hb1
        obtain ⟨b1, ob1, cb1, hvb1, H⟩ := ixS_Byte H (i := 0) rfl hx1
        refine WL.ev rfl rfl (Ev.ixV rfl el38 sz5 rfl hvb1 rfl hg1 (lt_of hx1)) (WL.ev rfl rfl (Ev.ld rfl ag5 rfl ((H.rA (i := 1) rfl).cell0 rfl)) (WL.ev rfl rfl (Ev.convB rfl Try.underlying5 it3 rfl) (WL.ev rfl rfl (Ev.bin rfl rfl rfl Bin.addw) (WL.ev rfl rfl (Ev.bin rfl rfl rfl Bin.addw) (WL.ev rfl rfl (Ev.bin rfl rfl rfl Bin.andT) (WL.ev rfl rfl (Ev.as rfl rfl) (WL.nil ?_)))))))
        refine CW.reg ?_
        refine WL.ev rfl rfl (Ev.mv rfl rfl) (WL.ev rfl rfl (Ev.bin rfl rfl rfl Bin.addw) (WL.ev rfl rfl (Ev.as rfl rfl) (WL.nil ?_)))
        obtain rfl := sm hb1
        exact ⟨⟨m2, (goAnd (IntKind.i64.wrap ((IntKind.i64.wrap ((IntKind.i64.wrap (s2 * 131)) + (x1.toNat : Int))) + 7)) 1073741823), (IntKind.i64.wrap (s3 + 1))⟩, ⟨rfl, rfl, rfl, trivial⟩, ⟨hs1 _ rfl, (i64_wrap _), (i64_wrap _), H.keep 1 0⟩, Nat.lt_succ_self _⟩
      · skip
        have hb1 := ifn h2 hb1
        refine CW.exit ?_
        obtain rfl := sm hb1
        obtain rfl := ht1 _ rfl
        exact ⟨s2, rfl, ⟨rfl, rfl, trivial⟩, hI2, H.keep 1 0⟩
    · skip
      have hb1 := ifn h1 hb1
      refine WL.off rfl rfl rfl (WL.off rfl rfl rfl (WL.ev rfl rfl (Ev.pickF rfl rfl rfl) (WL.nil ?_)))
      refine CW.condF rfl ?_
      refine CW.exit ?_
      obtain rfl := sm hb1
      obtain rfl := ht1 _ rfl
      exact ⟨s2, rfl, ⟨rfl, rfl, trivial⟩, hI2, H.keep 1 0⟩
  · rintro ρ' w2 ⟨s1, rfl, hag, hI1, H⟩
    obtain ⟨σ, rfl⟩ := ofL_ex hag
    refine CW.seq (CW.reg ?_)
    refine WL.ev rfl rfl (Ev.mv rfl rfl) (WL.ev rfl rfl (Ev.mv rfl rfl) (WL.ev rfl rfl (Ev.build rfl pl159 ze159 rfl rfl rfl rfl) ?_))
    refine WL.boxH rfl rfl rfl rfl rfl H fun b2 w3 H => ?_
    refine WL.ev rfl rfl (Ev.as rfl rfl) (WL.nil ?_)
    refine CW.ret ?_
    obtain rfl := sm hr
    exact ⟨_, res1 rfl rfl rfl, H.ext0, _, _, _, _, rfl, (by decide : I64 0), hI1, H.outM (fr' := [Pr.S a0 (.slice A0' n0' c0')]) [true] fun _ h => ⟨h.get (i := 0) rfl, trivial⟩⟩

noncomputable def sl1Byte_m (o0 : l1Cur) : Option (Int × l1Cur) :=
  if o0.i < (o0.b.length : Int) then (
  grd (0 ≤ o0.i) <|
  (o0.b[o0.i.toNat]?).bind fun x1 =>
  some ((goAnd (IntKind.i64.wrap ((goAnd (goXor (goShr (IntKind.i64.wrap ((IntKind.i64.wrap (o0.h * 6364136223846793005)) + 1442695040888963407)) 33) (goShr (IntKind.i64.wrap ((IntKind.i64.wrap (o0.h * 6364136223846793005)) + 1442695040888963407)) 45)) 255) + (x1.toNat : Int))) 255), (⟨o0.b, (IntKind.i64.wrap (o0.i + 1)), (IntKind.i64.wrap ((IntKind.i64.wrap (o0.h * 6364136223846793005)) + 1442695040888963407))⟩ : l1Cur))
  ) else (
  some ((goAnd (goXor (goShr (IntKind.i64.wrap ((IntKind.i64.wrap (o0.h * 6364136223846793005)) + 1442695040888963407)) 33) (goShr (IntKind.i64.wrap ((IntKind.i64.wrap (o0.h * 6364136223846793005)) + 1442695040888963407)) 45)) 255), (⟨o0.b, o0.i, (IntKind.i64.wrap ((IntKind.i64.wrap (o0.h * 6364136223846793005)) + 1442695040888963407))⟩ : l1Cur))
  )
theorem sl1Byte_ok {o0 : l1Cur} {r : (Int × l1Cur)} (hr : sl1Byte_m o0 = some r) {F0 : Nat → Prop} {M : List Nat} {w0 : World} {bo0 : Nat} {Ao0_0 : Option Addr} {no0_0 co0_0 : Nat} (hIo0_1 : I64 o0.i) (hIo0_2 : I64 o0.h) (H : HL F0 M w0 w0 [Pr.S o0.b (.slice Ao0_0 no0_0 co0_0)] [It.B bo0 159 [.slice Ao0_0 no0_0 co0_0, .int .i64 o0.i, .int .i64 o0.h]]) :
    Ret Try.prog 147 #[.pointer (some ⟨bo0, 0, none⟩)] w0 (· ∈ M) fun v w => v = .int .i64 r.1 ∧ I64 r.1 ∧ I64 r.2.i ∧ I64 r.2.h ∧ HL F0 M w0 w [] [It.B bo0 159 [.slice Ao0_0 no0_0 co0_0, .int .i64 r.2.i, .int .i64 r.2.h]] := by
  refine enter Try.func147 rfl rfl rfl ?_
  refine CW.seq (CW.reg ?_)
  refine WL.ev rfl rfl (Ev.as rfl rfl) (WL.nil ?_)
  refine CW.seq (CW.reg ?_)
  refine WL.ev rfl rfl (Ev.mv rfl rfl) (WL.ev rfl rfl (Ev.mv rfl rfl) (WL.ev rfl rfl (Ev.nilc rfl rfl) (WL.ev rfl rfl (Ev.fa rfl fo159_2 rfl) (WL.ev rfl rfl (Ev.ld rfl ag3 rfl ((H.rB (i := 0) rfl).cell rfl)) (WL.ev rfl rfl (Ev.bin rfl rfl rfl Bin.mulw) (WL.ev rfl rfl (Ev.bin rfl rfl rfl Bin.addw) (WL.ev rfl rfl (Ev.nilc rfl rfl) (WL.ev rfl rfl (Ev.fa rfl fo159_2 rfl) ?_))))))))
  refine WL.stB (i := 0) rfl rfl rfl sz3 rfl rfl rfl rfl (all1 rfl all0) H rfl rfl rfl fun w1 H => ?_
  refine WL.nil ?_
  refine CW.seq (CW.quiet hmix (by kernel_rfl) ?_)
  refine QL.ev rfl rfl (fun _ _ => Ev.mv rfl rfl) (QL.ev rfl rfl (fun _ _ => Ev.nilc rfl rfl) (QL.ev rfl rfl (fun _ _ => Ev.fa rfl fo159_2 rfl) (QL.ev rfl rfl (fun _ hq => Ev.ld rfl ag3 rfl (((H.ext hq).rB (i := 0) rfl).cell rfl)) (QL.ev rfl rfl (fun _ _ => Ev.bin rfl rfl rfl (Bin.shrT (by decide))) (QL.ev rfl rfl (fun _ _ => Ev.mv rfl rfl) (QL.ev rfl rfl (fun _ _ => Ev.nilc rfl rfl) (QL.ev rfl rfl (fun _ _ => Ev.fa rfl fo159_2 rfl) (QL.ev rfl rfl (fun _ hq => Ev.ld rfl ag3 rfl (((H.ext hq).rB (i := 0) rfl).cell rfl)) (QL.ev rfl rfl (fun _ _ => Ev.bin rfl rfl rfl (Bin.shrT (by decide))) (QL.ev rfl rfl (fun _ _ => Ev.bin rfl rfl rfl Bin.xorT) (QL.ev rfl rfl (fun _ _ => Ev.bin rfl rfl rfl Bin.andT) (QL.ev rfl rfl (fun _ _ => Ev.as rfl rfl) (QL.nil (fun w2 hE => ?_))))))))))))))
  have H := H.ext hE
  refine CW.seq (CW.seq ?_)
  refine CW.fresh [(0, .pointer (some ⟨bo0, 0, none⟩)), (3, .int .i64 (goAnd (goXor (goShr (IntKind.i64.wrap ((IntKind.i64.wrap (o0.h * 6364136223846793005)) + 1442695040888963407)) 33) (goShr (IntKind.i64.wrap ((IntKind.i64.wrap (o0.h * 6364136223846793005)) + 1442695040888963407)) 45)) 255))] ⟨rfl, rfl, trivial⟩ fun σ => ?_
  have H : HL F0 M w0 w2 [Pr.S o0.b (.slice Ao0_0 no0_0 co0_0)] [It.B bo0 159 [.slice Ao0_0 no0_0 co0_0, .int .i64 o0.i, .int .i64 (IntKind.i64.wrap ((IntKind.i64.wrap (o0.h * 6364136223846793005)) + 1442695040888963407))]] := H
  refine CW.quiet hmix (by kernel_rfl) ?_
  refine QL.ev rfl rfl (fun _ _ => Ev.mv rfl rfl) (QL.ev rfl rfl (fun _ _ => Ev.nilc rfl rfl) (QL.ev rfl rfl (fun _ _ => Ev.fa rfl fo159_1 rfl) (QL.ev rfl rfl (fun _ hq => Ev.ld rfl ag3 rfl (((H.ext hq).rB (i := 0) rfl).cell rfl)) (QL.ev rfl rfl (fun _ _ => Ev.mv rfl rfl) (QL.ev rfl rfl (fun _ _ => Ev.nilc rfl rfl) (QL.ev rfl rfl (fun _ _ => Ev.fa rfl fo159_0 rfl) (QL.ev rfl rfl (fun _ hq => Ev.ld rfl ag38 rfl (((H.ext hq).rB (i := 0) rfl).cell rfl)) ?_)))))))
  have hl1 := (H.rS (i := 0) rfl).I
  refine QL.ev rfl rfl (fun _ _ => Ev.lenV rfl el38 rfl (H.rS (i := 0) rfl)) (QL.ev rfl rfl (fun _ _ => Ev.bin rfl rfl rfl Bin.lss) (QL.nil (fun w3 hE => ?_)))
  have H := H.ext hE
  refine CW.condD rfl (fun h1 => ?_) (fun h1 => ?_)
  · skip
    have hr := ifp h1 hr
    refine CW.seq (CW.quietT 14 hmix (by kernel_rfl) ?_)
    refine QL.ev rfl rfl (fun _ _ => Ev.mv rfl rfl) (QL.ev rfl rfl (fun _ _ => Ev.mv rfl rfl) (QL.ev rfl rfl (fun _ _ => Ev.nilc rfl rfl) (QL.ev rfl rfl (fun _ _ => Ev.fa rfl fo159_0 rfl) (QL.ev rfl rfl (fun _ hq => Ev.ld rfl ag38 rfl (((H.ext hq).rB (i := 0) rfl).cell rfl)) (QL.ev rfl rfl (fun _ _ => Ev.mv rfl rfl) (QL.ev rfl rfl (fun _ _ => Ev.nilc rfl rfl) (QL.ev rfl rfl (fun _ _ => Ev.fa rfl fo159_1 rfl) (QL.ev rfl rfl (fun _ hq => Ev.ld rfl ag3 rfl (((H.ext hq).rB (i := 0) rfl).cell rfl)) ?_))))))))
    obtain ⟨hg1, hr⟩ := grd_some hr
    obtain ⟨x1, hx1, hr⟩ := bd hr
    obtain ⟨b1, ob1, cb1, hvb1, H⟩ := ixS_Byte H (i := 0) rfl hx1
    refine QL.ev rfl rfl (fun _ _ => Ev.ixV rfl el38 sz5 rfl hvb1 rfl hg1 (lt_of hx1)) (QL.ev rfl rfl (fun _ hq => Ev.ld rfl ag5 rfl (((H.ext hq).rA (i := 1) rfl).cell0 rfl)) (QL.ev rfl rfl (fun _ _ => Ev.convB rfl Try.underlying5 it3 rfl) (QL.ev rfl rfl (fun _ _ => Ev.bin rfl rfl rfl Bin.addw) (QL.ev rfl rfl (fun _ _ => Ev.bin rfl rfl rfl Bin.andT) (QL.nil (fun w4 hE => ?_))))))
    have H := H.ext hE
    refine WL.ev rfl rfl (Ev.as rfl rfl) (WL.nil ?_)
    refine CW.fresh [(0, .pointer (some ⟨bo0, 0, none⟩)), (3, .int .i64 (goAnd (IntKind.i64.wrap ((goAnd (goXor (goShr (IntKind.i64.wrap ((IntKind.i64.wrap (o0.h * 6364136223846793005)) + 1442695040888963407)) 33) (goShr (IntKind.i64.wrap ((IntKind.i64.wrap (o0.h * 6364136223846793005)) + 1442695040888963407)) 45)) 255) + (x1.toNat : Int))) 255))] ⟨rfl, rfl, trivial⟩ fun σ => ?_
    have H : HL F0 M w0 w4 [Pr.S o0.b (.slice Ao0_0 no0_0 co0_0), Pr.A b1 (ob1 + o0.i.toNat * 1) [.int .u8 (x1.toNat : Int)], Pr.R x1 [.int .u8 (x1.toNat : Int)]] [It.B bo0 159 [.slice Ao0_0 no0_0 co0_0, .int .i64 o0.i, .int .i64 (IntKind.i64.wrap ((IntKind.i64.wrap (o0.h * 6364136223846793005)) + 1442695040888963407))]] := H
    refine CW.reg ?_
    refine WL.ev rfl rfl (Ev.mv rfl rfl) (WL.ev rfl rfl (Ev.mv rfl rfl) (WL.ev rfl rfl (Ev.nilc rfl rfl) (WL.ev rfl rfl (Ev.fa rfl fo159_1 rfl) (WL.ev rfl rfl (Ev.ld rfl ag3 rfl ((H.rB (i := 0) rfl).cell rfl)) (WL.ev rfl rfl (Ev.bin rfl rfl rfl Bin.addw) (WL.ev rfl rfl (Ev.nilc rfl rfl) (WL.ev rfl rfl (Ev.fa rfl fo159_1 rfl) ?_)))))))
    refine WL.stB (i := 0) rfl rfl rfl sz3 rfl rfl rfl rfl (all1 rfl all0) H rfl rfl rfl fun w5 H => ?_
    refine WL.nil ?_
    refine CW.seq (CW.reg ?_)
    refine WL.ev rfl rfl (Ev.mv rfl rfl) (WL.ev rfl rfl (Ev.as rfl rfl) (WL.nil ?_))
    refine CW.ret ?_
    obtain rfl := sm hr
    exact ⟨_, res1 rfl rfl rfl, H.chg, rfl, (i64_wrap _), (i64_wrap _), (i64_wrap _), H.outM (fr' := []) [true] fun _ _ => trivial⟩
  · skip
    have hr := ifn h1 hr
    refine CW.skip ?_
    refine CW.seq (CW.reg ?_)
    refine WL.ev rfl rfl (Ev.mv rfl rfl) (WL.ev rfl rfl (Ev.as rfl rfl) (WL.nil ?_))
    refine CW.ret ?_
    obtain rfl := sm hr
    exact ⟨_, res1 rfl rfl rfl, H.chg, rfl, (i64_wrap _), hIo0_1, (i64_wrap _), H.outM (fr' := []) [true] fun _ _ => trivial⟩

noncomputable def sl1Below_m (a1 : Int) (o0 : l1Cur) : Option (Int × l1Cur) :=
  if a1 ≤ 0 then (
  some (0, o0)
  ) else (
  if a1 ≤ 256 then (
  (sl1Byte_m o0).bind fun (y1, z1) =>
  grd (a1 ≠ 0) <|
  some ((y1.tmod a1), (⟨o0.b, z1.i, z1.h⟩ : l1Cur))
  ) else (
  (sl1Byte_m o0).bind fun (y2, z2) =>
  (sl1Byte_m (⟨o0.b, z2.i, z2.h⟩ : l1Cur)).bind fun (y3, z3) =>
  (sl1Byte_m (⟨o0.b, z3.i, z3.h⟩ : l1Cur)).bind fun (y4, z4) =>
  (sl1Byte_m (⟨o0.b, z4.i, z4.h⟩ : l1Cur)).bind fun (y5, z5) =>
  grd (I64 (y2 * 16777216)) <|
  grd (I64 (y3 * 65536)) <|
  grd (I64 ((y2 * 16777216) + (y3 * 65536))) <|
  grd (I64 (y4 * 256)) <|
  grd (I64 (((y2 * 16777216) + (y3 * 65536)) + (y4 * 256))) <|
  grd (I64 ((((y2 * 16777216) + (y3 * 65536)) + (y4 * 256)) + y5)) <|
  grd (a1 ≠ 0) <|
  some ((((((y2 * 16777216) + (y3 * 65536)) + (y4 * 256)) + y5).tmod a1), (⟨o0.b, z5.i, z5.h⟩ : l1Cur))
  )
  )
theorem sl1Below_ok {a1 : Int} {o0 : l1Cur} {r : (Int × l1Cur)} (hr : sl1Below_m a1 o0 = some r) {F0 : Nat → Prop} {M : List Nat} {w0 : World} {bo0 : Nat} {Ao0_0 : Option Addr} {no0_0 co0_0 : Nat} (hIa1 : I64 a1) (hIo0_1 : I64 o0.i) (hIo0_2 : I64 o0.h) (H : HL F0 M w0 w0 [Pr.S o0.b (.slice Ao0_0 no0_0 co0_0)] [It.B bo0 159 [.slice Ao0_0 no0_0 co0_0, .int .i64 o0.i, .int .i64 o0.h]]) :
    Ret Try.prog 86 #[.pointer (some ⟨bo0, 0, none⟩), .int .i64 a1] w0 (· ∈ M) fun v w => v = .int .i64 r.1 ∧ I64 r.1 ∧ I64 r.2.i ∧ I64 r.2.h ∧ HL F0 M w0 w [] [It.B bo0 159 [.slice Ao0_0 no0_0 co0_0, .int .i64 r.2.i, .int .i64 r.2.h]] := by
  refine enter Try.func86 rfl rfl rfl ?_
  refine CW.seq (CW.reg ?_)
  refine WL.ev rfl rfl (Ev.as rfl rfl) (WL.nil ?_)
  refine CW.seq (CW.seq (CW.reg ?_))
  refine WL.ev rfl rfl (Ev.mv rfl rfl) (WL.ev rfl rfl (Ev.bin rfl rfl rfl Bin.leq) (WL.nil ?_))
  refine CW.condD rfl (fun h1 => ?_) (fun h1 => ?_)
  · skip
    have hr := ifp h1 hr
    refine CW.seq (CW.reg ?_)
    refine WL.ev rfl rfl (Ev.as rfl rfl) (WL.nil ?_)
    refine CW.ret ?_
    obtain rfl := sm hr
    exact ⟨_, res1 rfl rfl rfl, H.chg, rfl, (by decide : I64 0), hIo0_1, hIo0_2, H.outM (fr' := []) [true] fun _ _ => trivial⟩
  · skip
    have hr := ifn h1 hr
    refine CW.skip ?_
    refine CW.seq (CW.seq (CW.reg ?_))
    refine WL.ev rfl rfl (Ev.mv rfl rfl) (WL.ev rfl rfl (Ev.bin rfl rfl rfl Bin.leq) (WL.nil ?_))
    refine CW.condD rfl (fun h2 => ?_) (fun h2 => ?_)
    · skip
      have hr := ifp h2 hr
      refine CW.seq (CW.reg ?_)
      refine WL.ev rfl rfl (Ev.mv rfl rfl) ?_
      obtain ⟨⟨y1, z1⟩, hy1, hr⟩ := bd hr
      obtain ⟨F', M', hfF, hoF, hcM⟩ := H.callN [true] ⟨noB, trivial⟩
      obtain ⟨H', hcN⟩ := hcM (ps := [Pr.S o0.b (.slice Ao0_0 no0_0 co0_0)]) ⟨hfF.get (i := 0) rfl, trivial⟩
      refine WL.call rfl rfl rfl rfl rfl ok147 rfl (sl1Byte_ok hy1 hIo0_1 hIo0_2 H') ?_
      rintro _ w1 hE ⟨rfl, hI1, hI2, hI3, H'⟩
      have H := hcN 1 H' rfl ⟨fun _ _ _ _ _ h => h, trivial⟩
      refine WL.ev rfl rfl (Ev.mv rfl rfl) ?_
      obtain ⟨hg1, hr⟩ := grd_some hr
      refine WL.ev rfl rfl (Ev.bin rfl rfl rfl (Bin.remI hg1)) (WL.ev rfl rfl (Ev.as rfl rfl) (WL.nil ?_))
      refine CW.ret ?_
      obtain rfl := sm hr
      exact ⟨_, res1 rfl rfl rfl, H.chg, rfl, (i64_rem hI1), hI2, hI3, H.outM (fr' := []) [true] fun _ _ => trivial⟩
    · skip
      have hr := ifn h2 hr
      refine CW.skip ?_
      refine CW.seq (CW.reg ?_)
      refine WL.ev rfl rfl (Ev.mv rfl rfl) ?_
      obtain ⟨⟨y2, z2⟩, hy2, hr⟩ := bd hr
      obtain ⟨F', M', hfF, hoF, hcM⟩ := H.callN [true] ⟨noB, trivial⟩
      obtain ⟨H', hcN⟩ := hcM (ps := [Pr.S o0.b (.slice Ao0_0 no0_0 co0_0)]) ⟨hfF.get (i := 0) rfl, trivial⟩
      refine WL.call rfl rfl rfl rfl rfl ok147 rfl (sl1Byte_ok hy2 hIo0_1 hIo0_2 H') ?_
      rintro _ w2 hE ⟨rfl, hI4, hI5, hI6, H'⟩
      have H := hcN 1 H' rfl ⟨fun _ _ _ _ _ h => h, trivial⟩
      refine WL.ev rfl rfl (Ev.as rfl rfl) (WL.nil ?_)
      refine CW.seq (CW.reg ?_)
      refine WL.ev rfl rfl (Ev.mv rfl rfl) ?_
      obtain ⟨⟨y3, z3⟩, hy3, hr⟩ := bd hr
      obtain ⟨F', M', hfF, hoF, hcM⟩ := H.callN [true] ⟨noB, trivial⟩
      obtain ⟨H', hcN⟩ := hcM (ps := [Pr.S o0.b (.slice Ao0_0 no0_0 co0_0)]) ⟨hfF.get (i := 0) rfl, trivial⟩
      refine WL.call rfl rfl rfl rfl rfl ok147 rfl (sl1Byte_ok hy3 hI5 hI6 H') ?_
      rintro _ w3 hE ⟨rfl, hI7, hI8, hI9, H'⟩
      have H := hcN 1 H' rfl ⟨fun _ _ _ _ _ h => h, trivial⟩
      refine WL.ev rfl rfl (Ev.as rfl rfl) (WL.nil ?_)
      refine CW.seq (CW.reg ?_)
      refine WL.ev rfl rfl (Ev.mv rfl rfl) ?_
      obtain ⟨⟨y4, z4⟩, hy4, hr⟩ := bd hr
      obtain ⟨F', M', hfF, hoF, hcM⟩ := H.callN [true] ⟨noB, trivial⟩
      obtain ⟨H', hcN⟩ := hcM (ps := [Pr.S o0.b (.slice Ao0_0 no0_0 co0_0)]) ⟨hfF.get (i := 0) rfl, trivial⟩
      refine WL.call rfl rfl rfl rfl rfl ok147 rfl (sl1Byte_ok hy4 hI8 hI9 H') ?_
      rintro _ w4 hE ⟨rfl, hI10, hI11, hI12, H'⟩
      have H := hcN 1 H' rfl ⟨fun _ _ _ _ _ h => h, trivial⟩
      refine WL.ev rfl rfl (Ev.as rfl rfl) (WL.nil ?_)
      refine CW.seq (CW.reg ?_)
      refine WL.ev rfl rfl (Ev.mv rfl rfl) ?_
      obtain ⟨⟨y5, z5⟩, hy5, hr⟩ := bd hr
      obtain ⟨F', M', hfF, hoF, hcM⟩ := H.callN [true] ⟨noB, trivial⟩
      obtain ⟨H', hcN⟩ := hcM (ps := [Pr.S o0.b (.slice Ao0_0 no0_0 co0_0)]) ⟨hfF.get (i := 0) rfl, trivial⟩
      refine WL.call rfl rfl rfl rfl rfl ok147 rfl (sl1Byte_ok hy5 hI11 hI12 H') ?_
      rintro _ w5 hE ⟨rfl, hI13, hI14, hI15, H'⟩
      have H := hcN 1 H' rfl ⟨fun _ _ _ _ _ h => h, trivial⟩
      refine WL.ev rfl rfl (Ev.as rfl rfl) (WL.nil ?_)
      refine CW.seq (CW.reg ?_)
      refine WL.ev rfl rfl (Ev.mv rfl rfl) ?_
      obtain ⟨hg2, hr⟩ := grd_some hr
      refine WL.ev rfl rfl (Ev.bin rfl rfl rfl (Bin.mul hg2)) (WL.ev rfl rfl (Ev.mv rfl rfl) ?_)
      obtain ⟨hg3, hr⟩ := grd_some hr
      refine WL.ev rfl rfl (Ev.bin rfl rfl rfl (Bin.mul hg3)) ?_
      obtain ⟨hg4, hr⟩ := grd_some hr
      refine WL.ev rfl rfl (Ev.bin rfl rfl rfl (Bin.add hg4)) (WL.ev rfl rfl (Ev.mv rfl rfl) ?_)
      obtain ⟨hg5, hr⟩ := grd_some hr
      refine WL.ev rfl rfl (Ev.bin rfl rfl rfl (Bin.mul hg5)) ?_
      obtain ⟨hg6, hr⟩ := grd_some hr
      refine WL.ev rfl rfl (Ev.bin rfl rfl rfl (Bin.add hg6)) (WL.ev rfl rfl (Ev.mv rfl rfl) ?_)
      obtain ⟨hg7, hr⟩ := grd_some hr
      refine WL.ev rfl rfl (Ev.bin rfl rfl rfl (Bin.add hg7)) (WL.ev rfl rfl (Ev.mv rfl rfl) ?_)
      obtain ⟨hg8, hr⟩ := grd_some hr
      refine WL.ev rfl rfl (Ev.bin rfl rfl rfl (Bin.remI hg8)) (WL.ev rfl rfl (Ev.as rfl rfl) (WL.nil ?_))
      refine CW.ret ?_
      obtain rfl := sm hr
      exact ⟨_, res1 rfl rfl rfl, H.chg, rfl, (i64_rem hg7), hI14, hI15, H.outM (fr' := []) [true] fun _ _ => trivial⟩

noncomputable def sl1Once_m (a1 : Int) (o0 : l1Cur) : Option (Bool × l1Cur) :=
  (sl1Below_m a1 o0).bind fun (y1, z1) =>
  some (decide (y1 = 0), (⟨o0.b, z1.i, z1.h⟩ : l1Cur))
theorem sl1Once_ok {a1 : Int} {o0 : l1Cur} {r : (Bool × l1Cur)} (hr : sl1Once_m a1 o0 = some r) {F0 : Nat → Prop} {M : List Nat} {w0 : World} {bo0 : Nat} {Ao0_0 : Option Addr} {no0_0 co0_0 : Nat} (hIa1 : I64 a1) (hIo0_1 : I64 o0.i) (hIo0_2 : I64 o0.h) (H : HL F0 M w0 w0 [Pr.S o0.b (.slice Ao0_0 no0_0 co0_0)] [It.B bo0 159 [.slice Ao0_0 no0_0 co0_0, .int .i64 o0.i, .int .i64 o0.h]]) :
    Ret Try.prog 97 #[.pointer (some ⟨bo0, 0, none⟩), .int .i64 a1] w0 (· ∈ M) fun v w => v = .bool r.1 ∧ I64 r.2.i ∧ I64 r.2.h ∧ HL F0 M w0 w [] [It.B bo0 159 [.slice Ao0_0 no0_0 co0_0, .int .i64 r.2.i, .int .i64 r.2.h]] := by
  refine enter Try.func97 rfl rfl rfl ?_
  refine CW.seq (CW.reg ?_)
  refine WL.ev rfl rfl (Ev.as rfl rfl) (WL.nil ?_)
  refine CW.seq (CW.reg ?_)
  refine WL.ev rfl rfl (Ev.mv rfl rfl) (WL.ev rfl rfl (Ev.mv rfl rfl) ?_)
  obtain ⟨⟨y1, z1⟩, hy1, hr⟩ := bd hr
  obtain ⟨F', M', hfF, hoF, hcM⟩ := H.callN [true] ⟨noB, trivial⟩
  obtain ⟨H', hcN⟩ := hcM (ps := [Pr.S o0.b (.slice Ao0_0 no0_0 co0_0)]) ⟨hfF.get (i := 0) rfl, trivial⟩
  refine WL.call rfl rfl rfl rfl rfl ok86 rfl (sl1Below_ok hy1 hIa1 hIo0_1 hIo0_2 H') ?_
  rintro _ w1 hE ⟨rfl, hI1, hI2, hI3, H'⟩
  have H := hcN 1 H' rfl ⟨fun _ _ _ _ _ h => h, trivial⟩
  refine WL.ev rfl rfl (Ev.bin rfl rfl rfl Bin.eql) (WL.ev rfl rfl (Ev.as rfl rfl) (WL.nil ?_))
  refine CW.ret ?_
  obtain rfl := sm hr
  exact ⟨_, res1 rfl rfl rfl, H.chg, rfl, hI2, hI3, H.outM (fr' := []) [true] fun _ _ => trivial⟩

noncomputable def sl1Pick_m (a1 : (List ByteArray)) (o0 : l1Cur) : Option (ByteArray × l1Cur) :=
  (sl1Below_m (a1.length : Int) o0).bind fun (y1, z1) =>
  grd (0 ≤ y1) <|
  (a1[y1.toNat]?).bind fun x1 =>
  some (x1, (⟨o0.b, z1.i, z1.h⟩ : l1Cur))
theorem sl1Pick_ok {a1 : (List ByteArray)} {o0 : l1Cur} {r : (ByteArray × l1Cur)} (hr : sl1Pick_m a1 o0 = some r) {F0 : Nat → Prop} {M : List Nat} {w0 : World} {bo0 : Nat} {Aa1 : Option Addr} {na1 ca1 : Nat} {Ao0_0 : Option Addr} {no0_0 co0_0 : Nat} (hIo0_1 : I64 o0.i) (hIo0_2 : I64 o0.h) (H : HL F0 M w0 w0 [Pr.S a1 (.slice Aa1 na1 ca1), Pr.S o0.b (.slice Ao0_0 no0_0 co0_0)] [It.B bo0 159 [.slice Ao0_0 no0_0 co0_0, .int .i64 o0.i, .int .i64 o0.h]]) :
    Ret Try.prog 144 #[.pointer (some ⟨bo0, 0, none⟩), .slice Aa1 na1 ca1] w0 (· ∈ M) fun v w => v = .string r.1 ∧ r.1.size ≤ 9223372036854775807 ∧ I64 r.2.i ∧ I64 r.2.h ∧ HL F0 M w0 w [] [It.B bo0 159 [.slice Ao0_0 no0_0 co0_0, .int .i64 r.2.i, .int .i64 r.2.h]] := by
  refine enter Try.func144 rfl rfl rfl ?_
  refine CW.seq (CW.reg ?_)
  refine WL.ev rfl rfl (Ev.as rfl rfl) (WL.nil ?_)
  refine CW.seq (CW.reg ?_)
  refine WL.ev rfl rfl (Ev.mv rfl rfl) (WL.ev rfl rfl (Ev.mv rfl rfl) (WL.ev rfl rfl (Ev.mv rfl rfl) ?_))
  have hl1 := (H.rS (i := 0) rfl).I
  refine WL.ev rfl rfl (Ev.lenV rfl el82 rfl (H.rS (i := 0) rfl)) ?_
  obtain ⟨⟨y1, z1⟩, hy1, hr⟩ := bd hr
  obtain ⟨F', M', hfF, hoF, hcM⟩ := H.callN [true] ⟨noB, trivial⟩
  obtain ⟨H', hcN⟩ := hcM (ps := [Pr.S o0.b (.slice Ao0_0 no0_0 co0_0)]) ⟨hfF.get (i := 1) rfl, trivial⟩
  refine WL.call rfl rfl rfl rfl rfl ok86 rfl (sl1Below_ok hy1 hl1 hIo0_1 hIo0_2 H') ?_
  rintro _ w1 hE ⟨rfl, hI1, hI2, hI3, H'⟩
  have H := hcN 1 H' rfl ⟨fun _ _ _ _ _ h => h, trivial⟩
  obtain ⟨hg1, hr⟩ := grd_some hr
  obtain ⟨x1, hx1, hr⟩ := bd hr
  obtain ⟨b1, ob1, cb1, hvb1, hS1, H⟩ := ixS_Str H (i := 0) rfl hx1
  refine WL.ev rfl rfl (Ev.ixV rfl el82 sz9 rfl hvb1 rfl hg1 (lt_of hx1)) (WL.ev rfl rfl (Ev.ld rfl ag9 rfl ((H.rA (i := 2) rfl).cell0 rfl)) (WL.ev rfl rfl (Ev.as rfl rfl) (WL.nil ?_)))
  refine CW.ret ?_
  obtain rfl := sm hr
  exact ⟨_, res1 rfl rfl rfl, H.chg, rfl, hS1, hI2, hI3, H.outM (fr' := []) [true] fun _ _ => trivial⟩

noncomputable def sl2Name_m (o0 : l1Cur) : Option (ByteArray × l1Cur) :=
  (sl1Pick_m [(⟨#[97]⟩ : ByteArray), (⟨#[98]⟩ : ByteArray), (⟨#[99]⟩ : ByteArray), (⟨#[100]⟩ : ByteArray), (⟨#[120]⟩ : ByteArray), (⟨#[121]⟩ : ByteArray), (⟨#[116]⟩ : ByteArray), (⟨#[117]⟩ : ByteArray)] o0).bind fun (y1, z1) =>
  some (y1, (⟨o0.b, z1.i, z1.h⟩ : l1Cur))
theorem sl2Name_ok {o0 : l1Cur} {r : (ByteArray × l1Cur)} (hr : sl2Name_m o0 = some r) {F0 : Nat → Prop} {M : List Nat} {w0 : World} {bo0 : Nat} {Ao0_0 : Option Addr} {no0_0 co0_0 : Nat} (hIo0_1 : I64 o0.i) (hIo0_2 : I64 o0.h) (H : HL F0 M w0 w0 [Pr.S o0.b (.slice Ao0_0 no0_0 co0_0)] [It.B bo0 159 [.slice Ao0_0 no0_0 co0_0, .int .i64 o0.i, .int .i64 o0.h]]) :
    Ret Try.prog 145 #[.pointer (some ⟨bo0, 0, none⟩)] w0 (· ∈ M) fun v w => v = .string r.1 ∧ r.1.size ≤ 9223372036854775807 ∧ I64 r.2.i ∧ I64 r.2.h ∧ HL F0 M w0 w [] [It.B bo0 159 [.slice Ao0_0 no0_0 co0_0, .int .i64 r.2.i, .int .i64 r.2.h]] := by
  refine enter Try.func145 rfl rfl rfl ?_
  refine CW.seq (CW.reg ?_)
  refine WL.ev rfl rfl (Ev.as rfl rfl) (WL.nil ?_)
  refine CW.seq (CW.reg ?_)
  refine WL.ev rfl rfl (Ev.mv rfl rfl) ?_
  refine WL.litN (xs := [(⟨#[97]⟩ : ByteArray), (⟨#[98]⟩ : ByteArray), (⟨#[99]⟩ : ByteArray), (⟨#[100]⟩ : ByteArray), (⟨#[120]⟩ : ByteArray), (⟨#[121]⟩ : ByteArray), (⟨#[116]⟩ : ByteArray), (⟨#[117]⟩ : ByteArray)]) rfl rfl rfl el82 sz9 ze9 rfl (ball1 rfl (ball1 rfl (ball1 rfl (ball1 rfl (ball1 rfl (ball1 rfl (ball1 rfl (ball1 rfl ball0)))))))) rfl rfl rfl (fun _ => (ownL.cons1 (α := ByteArray) ⟨rfl, rfl, (by decide : (⟨#[97]⟩ : ByteArray).size ≤ 9223372036854775807)⟩ (ownL.cons1 (α := ByteArray) ⟨rfl, rfl, (by decide : (⟨#[98]⟩ : ByteArray).size ≤ 9223372036854775807)⟩ (ownL.cons1 (α := ByteArray) ⟨rfl, rfl, (by decide : (⟨#[99]⟩ : ByteArray).size ≤ 9223372036854775807)⟩ (ownL.cons1 (α := ByteArray) ⟨rfl, rfl, (by decide : (⟨#[100]⟩ : ByteArray).size ≤ 9223372036854775807)⟩ (ownL.cons1 (α := ByteArray) ⟨rfl, rfl, (by decide : (⟨#[120]⟩ : ByteArray).size ≤ 9223372036854775807)⟩ (ownL.cons1 (α := ByteArray) ⟨rfl, rfl, (by decide : (⟨#[121]⟩ : ByteArray).size ≤ 9223372036854775807)⟩ (ownL.cons1 (α := ByteArray) ⟨rfl, rfl, (by decide : (⟨#[116]⟩ : ByteArray).size ≤ 9223372036854775807)⟩ (ownL.cons1 (α := ByteArray) ⟨rfl, rfl, (by decide : (⟨#[117]⟩ : ByteArray).size ≤ 9223372036854775807)⟩ ⟨rfl, rfl⟩))))))))) rfl H fun A1 n1 c1 w1 H => ?_
  obtain ⟨⟨y1, z1⟩, hy1, hr⟩ := bd hr
  obtain ⟨F', M', hfF, hoF, hcM⟩ := H.callN [true, false] ⟨noB, trivial⟩
  obtain ⟨H', hcN⟩ := hcM (ps := [Pr.S [(⟨#[97]⟩ : ByteArray), (⟨#[98]⟩ : ByteArray), (⟨#[99]⟩ : ByteArray), (⟨#[100]⟩ : ByteArray), (⟨#[120]⟩ : ByteArray), (⟨#[121]⟩ : ByteArray), (⟨#[116]⟩ : ByteArray), (⟨#[117]⟩ : ByteArray)] (.slice A1 n1 c1), Pr.S o0.b (.slice Ao0_0 no0_0 co0_0)]) ⟨roO (hoF 0 _ rfl), hfF.get (i := 0) rfl, trivial⟩
  refine WL.call rfl rfl rfl rfl rfl ok144 rfl (sl1Pick_ok hy1 hIo0_1 hIo0_2 H') ?_
  rintro _ w2 hE ⟨rfl, hS1, hI1, hI2, H'⟩
  have H := hcN 1 H' rfl ⟨fun _ _ _ _ _ h => h, trivial⟩
  refine WL.ev rfl rfl (Ev.as rfl rfl) (WL.nil ?_)
  refine CW.ret ?_
  obtain rfl := sm hr
  exact ⟨_, res1 rfl rfl rfl, H.chg, rfl, hS1, hI1, hI2, H.outM (fr' := []) [true, false] fun _ _ => trivial⟩

noncomputable def sl4Const_m (a0 : Int) (a1 : Int) : Option Expr :=
  some (⟨1, a0, 0, a1, (⟨#[]⟩ : ByteArray), (⟨#[]⟩ : ByteArray), []⟩ : Expr)
theorem sl4Const_ok {a0 : Int} {a1 : Int} {r : Expr} (hr : sl4Const_m a0 a1 = some r) {F0 : Nat → Prop} {w0 : World} (ha0 : I64 a0) (ha1 : I64 a1) :
    Ret Try.prog 98 #[.int .i64 a0, .int .i64 a1] w0 (fun _ => False) fun v w => ∃ A0 : Option Addr, ∃ n0 c0 : Nat, v = .agg #[.int .i64 r.Kind, .int .i64 r.N, .int .i64 r.Pos, .int .i64 r.Type_, .string r.Symbol, .string r.Name, (.slice A0 n0 c0)] ∧ I64 r.Kind ∧ I64 r.N ∧ I64 r.Pos ∧ I64 r.Type_ ∧ r.Symbol.size ≤ 9223372036854775807 ∧ r.Name.size ≤ 9223372036854775807 ∧ HL F0 [] w0 w [] [It.O 31 r.Args (.slice A0 n0 c0)] := by
  have H := HL.start F0 w0
  refine enter Try.func98 rfl rfl rfl ?_
  refine CW.seq (CW.reg ?_)
  refine WL.allocH rfl rfl rfl ze31 H fun b1 w1 H => ?_
  refine WL.nil ?_
  refine CW.seq (CW.reg ?_)
  refine WL.ev rfl rfl (Ev.mv rfl rfl) (WL.ev rfl rfl (Ev.mv rfl rfl) (WL.ev rfl rfl (Ev.build rfl pl31 ze31 rfl rfl rfl rfl) ?_))
  refine WL.stB (i := 0) rfl rfl rfl sz31 rfl rfl rfl rfl (all1 rfl (all1 rfl (all1 rfl (all1 rfl (all1 rfl (all1 rfl (all1 rfl all0))))))) H rfl rfl rfl fun w2 H => ?_
  refine WL.nil ?_
  refine CW.ret ?_
  have H := H.nil (α := Expr) 31
  obtain rfl := sm hr
  exact ⟨_, resC rfl ag31 sz31 rfl rfl (At.blk (H.rB (i := 0) rfl)) rfl, H.ext0, _, _, _, rfl, (by decide : I64 1), ha0, (by decide : I64 0), ha1, (by decide : (⟨#[]⟩ : ByteArray).size ≤ 9223372036854775807), (by decide : (⟨#[]⟩ : ByteArray).size ≤ 9223372036854775807), H.outM (fr' := []) [false, true] fun _ _ => trivial⟩

noncomputable def sl4Leaf_m (a1 : Int) (a2 : (List Occurrence)) (o0 : l1Cur) : Option (Expr × l1Cur) :=
  if 0 < (a2.length : Int) then (
  (sl1Once_m 4 o0).bind fun (y1, z1) =>
  if y1 = true then (
  if a1 = 4 then (
  (sl1Once_m 3 (⟨o0.b, z1.i, z1.h⟩ : l1Cur)).bind fun (y3, z3) =>
  if y3 = true then (
  some ((⟨7, 0, 0, 0, (⟨#[]⟩ : ByteArray), (⟨#[]⟩ : ByteArray), []⟩ : Expr), (⟨o0.b, z3.i, z3.h⟩ : l1Cur))
  ) else (
  some ((⟨6, 0, 0, 0, (⟨#[]⟩ : ByteArray), (⟨#[]⟩ : ByteArray), []⟩ : Expr), (⟨o0.b, z3.i, z3.h⟩ : l1Cur))
  )
  ) else (
  if a1 = 3 then (
  (sl1Below_m 2 (⟨o0.b, z1.i, z1.h⟩ : l1Cur)).bind fun (y4, z4) =>
  (sl4Const_m y4 a1).bind fun y5 =>
  some (y5, (⟨o0.b, z4.i, z4.h⟩ : l1Cur))
  ) else (
  if a1 = 2 then (
  (sl1Below_m 12 (⟨o0.b, z1.i, z1.h⟩ : l1Cur)).bind fun (y6, z5) =>
  grd (0 ≤ y6) <|
  grd (0 ≤ y6 ∧ y6 < 63) <|
  (sl4Const_m ((2 ^ y6.toNat : Nat) : Int) a1).bind fun y7 =>
  some (y7, (⟨o0.b, z5.i, z5.h⟩ : l1Cur))
  ) else (
  (sl1Below_m 9 (⟨o0.b, z1.i, z1.h⟩ : l1Cur)).bind fun (y8, z6) =>
  (sl4Const_m y8 1).bind fun y9 =>
  some (y9, (⟨o0.b, z6.i, z6.h⟩ : l1Cur))
  )
  )
  )
  ) else (
  (sl1Below_m (a2.length : Int) (⟨o0.b, z1.i, z1.h⟩ : l1Cur)).bind fun (y2, z2) =>
  grd (0 ≤ y2) <|
  (a2[y2.toNat]?).bind fun x1 =>
  some ((⟨3, 0, x1.Pos, 0, (⟨#[]⟩ : ByteArray), x1.Name, []⟩ : Expr), (⟨o0.b, z2.i, z2.h⟩ : l1Cur))
  )
  ) else (
  if a1 = 4 then (
  (sl1Once_m 3 o0).bind fun (y10, z7) =>
  if y10 = true then (
  some ((⟨7, 0, 0, 0, (⟨#[]⟩ : ByteArray), (⟨#[]⟩ : ByteArray), []⟩ : Expr), (⟨o0.b, z7.i, z7.h⟩ : l1Cur))
  ) else (
  some ((⟨6, 0, 0, 0, (⟨#[]⟩ : ByteArray), (⟨#[]⟩ : ByteArray), []⟩ : Expr), (⟨o0.b, z7.i, z7.h⟩ : l1Cur))
  )
  ) else (
  if a1 = 3 then (
  (sl1Below_m 2 o0).bind fun (y11, z8) =>
  (sl4Const_m y11 a1).bind fun y12 =>
  some (y12, (⟨o0.b, z8.i, z8.h⟩ : l1Cur))
  ) else (
  if a1 = 2 then (
  (sl1Below_m 12 o0).bind fun (y13, z9) =>
  grd (0 ≤ y13) <|
  grd (0 ≤ y13 ∧ y13 < 63) <|
  (sl4Const_m ((2 ^ y13.toNat : Nat) : Int) a1).bind fun y14 =>
  some (y14, (⟨o0.b, z9.i, z9.h⟩ : l1Cur))
  ) else (
  (sl1Below_m 9 o0).bind fun (y15, z10) =>
  (sl4Const_m y15 1).bind fun y16 =>
  some (y16, (⟨o0.b, z10.i, z10.h⟩ : l1Cur))
  )
  )
  )
  )
theorem sl4Leaf_ok {a1 : Int} {a2 : (List Occurrence)} {o0 : l1Cur} {r : (Expr × l1Cur)} (hr : sl4Leaf_m a1 a2 o0 = some r) {F0 : Nat → Prop} {M : List Nat} {w0 : World} {bo0 : Nat} {Aa2 : Option Addr} {na2 ca2 : Nat} {Ao0_0 : Option Addr} {no0_0 co0_0 : Nat} (hIa1 : I64 a1) (hIo0_1 : I64 o0.i) (hIo0_2 : I64 o0.h) (H : HL F0 M w0 w0 [Pr.S a2 (.slice Aa2 na2 ca2), Pr.S o0.b (.slice Ao0_0 no0_0 co0_0)] [It.B bo0 159 [.slice Ao0_0 no0_0 co0_0, .int .i64 o0.i, .int .i64 o0.h]]) :
    Ret Try.prog 186 #[.pointer (some ⟨bo0, 0, none⟩), .int .i64 a1, .slice Aa2 na2 ca2] w0 (· ∈ M) fun v w => ∃ A0 : Option Addr, ∃ n0 c0 : Nat, v = .agg #[.int .i64 r.1.Kind, .int .i64 r.1.N, .int .i64 r.1.Pos, .int .i64 r.1.Type_, .string r.1.Symbol, .string r.1.Name, (.slice A0 n0 c0)] ∧ I64 r.1.Kind ∧ I64 r.1.N ∧ I64 r.1.Pos ∧ I64 r.1.Type_ ∧ r.1.Symbol.size ≤ 9223372036854775807 ∧ r.1.Name.size ≤ 9223372036854775807 ∧ I64 r.2.i ∧ I64 r.2.h ∧ HL F0 M w0 w [] [It.B bo0 159 [.slice Ao0_0 no0_0 co0_0, .int .i64 r.2.i, .int .i64 r.2.h], It.O 31 r.1.Args (.slice A0 n0 c0)] := by
  refine enter Try.func186 rfl rfl rfl ?_
  refine CW.seq (CW.reg ?_)
  refine WL.allocH rfl rfl rfl ze31 H fun b1 w1 H => ?_
  refine WL.nil ?_
  refine CW.seq (CW.seq (CW.reg ?_))
  refine WL.ev rfl rfl (Ev.mv rfl rfl) ?_
  have hl1 := (H.rS (i := 0) rfl).I
  refine WL.ev rfl rfl (Ev.lenV rfl el33 rfl (H.rS (i := 0) rfl)) (WL.ev rfl rfl (Ev.bin rfl rfl rfl Bin.gtr) ?_)
  refine WL.mvD rfl rfl rfl rfl (fun h1 => ?_) (fun h1 => ?_)
  · skip
    have hr := ifp h1 hr
    refine WL.on rfl rfl (WL.ev rfl rfl (Ev.mv rfl rfl) (WL.on rfl rfl ?_))
    obtain ⟨⟨y1, z1⟩, hy1, hr⟩ := bd hr
    obtain ⟨F', M', hfF, hoF, hcM⟩ := H.callN [true, false] ⟨noB, trivial⟩
    obtain ⟨H', hcN⟩ := hcM (ps := [Pr.S o0.b (.slice Ao0_0 no0_0 co0_0)]) ⟨hfF.get (i := 1) rfl, trivial⟩
    refine WL.call rfl rfl rfl rfl rfl ok97 rfl (sl1Once_ok hy1 (by decide : I64 4) hIo0_1 hIo0_2 H') ?_
    rintro _ w2 hE ⟨rfl, hI1, hI2, H'⟩
    have H := hcN 1 H' rfl ⟨fun _ _ _ _ _ h => h, trivial⟩
    refine WL.on rfl rfl (WL.ev rfl rfl (Ev.not rfl rfl) (WL.ev rfl rfl (Ev.pickT rfl rfl rfl) (WL.nil ?_)))
    refine CW.condBN rfl (fun h2 => ?_) (fun h2 => ?_)
    · skip
      have hr := ifn h2 hr
      refine CW.seq (CW.reg ?_)
      refine WL.ev rfl rfl (Ev.mv rfl rfl) (WL.ev rfl rfl (Ev.mv rfl rfl) (WL.ev rfl rfl (Ev.mv rfl rfl) (WL.ev rfl rfl (Ev.lenV rfl el33 rfl (H.rS (i := 0) rfl)) ?_)))
      obtain ⟨⟨y2, z2⟩, hy2, hr⟩ := bd hr
      obtain ⟨F', M', hfF, hoF, hcM⟩ := H.callN [true, false] ⟨noB, trivial⟩
      obtain ⟨H', hcN⟩ := hcM (ps := [Pr.S o0.b (.slice Ao0_0 no0_0 co0_0)]) ⟨hfF.get (i := 1) rfl, trivial⟩
      refine WL.call rfl rfl rfl rfl rfl ok86 rfl (sl1Below_ok hy2 hl1 hI1 hI2 H') ?_
      rintro _ w3 hE ⟨rfl, hI3, hI4, hI5, H'⟩
      have H := hcN 1 H' rfl ⟨fun _ _ _ _ _ h => h, trivial⟩
      obtain ⟨hg1, hr⟩ := grd_some hr
      obtain ⟨x1, hx1, hr⟩ := bd hr
      obtain ⟨b2, ob2, cb2, hvb2, hI6, hS1, H⟩ := ixS_Occurrence H (i := 0) rfl hx1
      refine WL.ev rfl rfl (Ev.ixV rfl el33 sz48 rfl hvb2 rfl hg1 (lt_of hx1)) (WL.ev rfl rfl (Ev.lda rfl ag48 sz48 rfl (H.rA (i := 2) rfl) rfl) ?_)
      refine WL.allocH rfl rfl rfl ze48 H fun b3 w4 H => ?_
      refine WL.stB (i := 2) rfl rfl rfl sz48 rfl rfl rfl rfl (all1 rfl (all1 rfl all0)) H rfl rfl rfl fun w5 H => ?_
      refine WL.nil ?_
      refine CW.seq (CW.reg ?_)
      refine WL.ev rfl rfl (Ev.fa rfl fo48_0 rfl) (WL.ev rfl rfl (Ev.ld rfl ag3 rfl ((H.rB (i := 2) rfl).cell rfl)) (WL.ev rfl rfl (Ev.fa rfl fo48_1 rfl) (WL.ev rfl rfl (Ev.ld rfl ag9 rfl ((H.rB (i := 2) rfl).cell rfl)) (WL.ev rfl rfl (Ev.build rfl pl31 ze31 rfl rfl rfl rfl) ?_))))
      refine WL.stB (i := 1) rfl rfl rfl sz31 rfl rfl rfl rfl (all1 rfl (all1 rfl (all1 rfl (all1 rfl (all1 rfl (all1 rfl (all1 rfl all0))))))) H rfl rfl rfl fun w6 H => ?_
      refine WL.nil ?_
      refine CW.ret ?_
      have H := H.nil (α := Expr) 31
      obtain rfl := sm hr
      exact ⟨_, resC rfl ag31 sz31 rfl rfl (At.blk (H.rB (i := 1) rfl)) rfl, H.chg, _, _, _, rfl, (by decide : I64 3), (by decide : I64 0), hI6, (by decide : I64 0), (by decide : (⟨#[]⟩ : ByteArray).size ≤ 9223372036854775807), hS1, hI4, hI5, H.outM (fr' := []) [true, false, false, true] fun _ _ => trivial⟩
    · skip
      have hr := ifp h2 hr
      refine CW.skip ?_
      refine CW.seq (CW.seq (CW.reg ?_))
      refine WL.ev rfl rfl (Ev.mv rfl rfl) (WL.nil ?_)
      refine CW.block (CW.seq (CW.reg ?_))
      refine WL.ev rfl rfl (Ev.bin rfl rfl rfl Bin.eql) (WL.ev rfl rfl (Ev.as rfl rfl) (WL.nil ?_))
      refine CW.condD rfl (fun h3 => ?_) (fun h3 => ?_)
      · skip
        have hr := ifp h3 hr
        refine CW.seq (CW.seq (CW.reg ?_))
        refine WL.ev rfl rfl (Ev.mv rfl rfl) ?_
        obtain ⟨⟨y3, z3⟩, hy3, hr⟩ := bd hr
        obtain ⟨F', M', hfF, hoF, hcM⟩ := H.callN [true, false] ⟨noB, trivial⟩
        obtain ⟨H', hcN⟩ := hcM (ps := [Pr.S o0.b (.slice Ao0_0 no0_0 co0_0)]) ⟨hfF.get (i := 1) rfl, trivial⟩
        refine WL.call rfl rfl rfl rfl rfl ok97 rfl (sl1Once_ok hy3 (by decide : I64 3) hI1 hI2 H') ?_
        rintro _ w7 hE ⟨rfl, hI7, hI8, H'⟩
        have H := hcN 1 H' rfl ⟨fun _ _ _ _ _ h => h, trivial⟩
        refine WL.nil ?_
        refine CW.condB rfl (fun h4 => ?_) (fun h4 => ?_)
        · skip
          have hr := ifp h4 hr
          refine CW.seq (CW.reg ?_)
          refine WL.ev rfl rfl (Ev.build rfl pl31 ze31 rfl rfl rfl rfl) ?_
          refine WL.stB (i := 1) rfl rfl rfl sz31 rfl rfl rfl rfl (all1 rfl (all1 rfl (all1 rfl (all1 rfl (all1 rfl (all1 rfl (all1 rfl all0))))))) H rfl rfl rfl fun w8 H => ?_
          refine WL.nil ?_
          refine CW.ret ?_
          have H := H.nil (α := Expr) 31
          obtain rfl := sm hr
          exact ⟨_, resC rfl ag31 sz31 rfl rfl (At.blk (H.rB (i := 1) rfl)) rfl, H.chg, _, _, _, rfl, (by decide : I64 7), (by decide : I64 0), (by decide : I64 0), (by decide : I64 0), (by decide : (⟨#[]⟩ : ByteArray).size ≤ 9223372036854775807), (by decide : (⟨#[]⟩ : ByteArray).size ≤ 9223372036854775807), hI7, hI8, H.outM (fr' := []) [true, false, true] fun _ _ => trivial⟩
        · skip
          have hr := ifn h4 hr
          refine CW.skip ?_
          refine CW.seq (CW.reg ?_)
          refine WL.ev rfl rfl (Ev.build rfl pl31 ze31 rfl rfl rfl rfl) ?_
          refine WL.stB (i := 1) rfl rfl rfl sz31 rfl rfl rfl rfl (all1 rfl (all1 rfl (all1 rfl (all1 rfl (all1 rfl (all1 rfl (all1 rfl all0))))))) H rfl rfl rfl fun w9 H => ?_
          refine WL.nil ?_
          refine CW.ret ?_
          have H := H.nil (α := Expr) 31
          obtain rfl := sm hr
          exact ⟨_, resC rfl ag31 sz31 rfl rfl (At.blk (H.rB (i := 1) rfl)) rfl, H.chg, _, _, _, rfl, (by decide : I64 6), (by decide : I64 0), (by decide : I64 0), (by decide : I64 0), (by decide : (⟨#[]⟩ : ByteArray).size ≤ 9223372036854775807), (by decide : (⟨#[]⟩ : ByteArray).size ≤ 9223372036854775807), hI7, hI8, H.outM (fr' := []) [true, false, true] fun _ _ => trivial⟩
      · skip
        have hr := ifn h3 hr
        refine CW.seq (CW.reg ?_)
        refine WL.ev rfl rfl (Ev.bin rfl rfl rfl Bin.eql) (WL.ev rfl rfl (Ev.as rfl rfl) (WL.nil ?_))
        refine CW.condD rfl (fun h5 => ?_) (fun h5 => ?_)
        · skip
          have hr := ifp h5 hr
          refine CW.seq (CW.reg ?_)
          refine WL.ev rfl rfl (Ev.mv rfl rfl) ?_
          obtain ⟨⟨y4, z4⟩, hy4, hr⟩ := bd hr
          obtain ⟨F', M', hfF, hoF, hcM⟩ := H.callN [true, false] ⟨noB, trivial⟩
          obtain ⟨H', hcN⟩ := hcM (ps := [Pr.S o0.b (.slice Ao0_0 no0_0 co0_0)]) ⟨hfF.get (i := 1) rfl, trivial⟩
          refine WL.call rfl rfl rfl rfl rfl ok86 rfl (sl1Below_ok hy4 (by decide : I64 2) hI1 hI2 H') ?_
          rintro _ w10 hE ⟨rfl, hI9, hI10, hI11, H'⟩
          have H := hcN 1 H' rfl ⟨fun _ _ _ _ _ h => h, trivial⟩
          refine WL.ev rfl rfl (Ev.mv rfl rfl) ?_
          obtain ⟨y5, hy5, hr⟩ := bd hr
          refine WL.call rfl rfl rfl rfl rfl ok98 rfl (sl4Const_ok hy5 (F0 := fun _ => False) hI9 hIa1) ?_
          rintro _ w11 hE ⟨A1, n1, c1, rfl, hI12, hI13, hI14, hI15, hS2, hS3, H'⟩
          have H := H.callA H' ⟨fun _ _ _ _ _ h => h, trivial⟩
          refine WL.stB (i := 1) rfl rfl rfl sz31 rfl rfl rfl rfl (all1 rfl (all1 rfl (all1 rfl (all1 rfl (all1 rfl (all1 rfl (all1 rfl all0))))))) H rfl rfl rfl fun w12 H => ?_
          refine WL.nil ?_
          refine CW.ret ?_
          obtain rfl := sm hr
          exact ⟨_, resC rfl ag31 sz31 rfl rfl (At.blk (H.rB (i := 1) rfl)) rfl, H.chg, _, _, _, rfl, hI12, hI13, hI14, hI15, hS2, hS3, hI10, hI11, H.outM (fr' := []) [true, false, true] fun _ _ => trivial⟩
        · skip
          have hr := ifn h5 hr
          refine CW.seq (CW.reg ?_)
          refine WL.ev rfl rfl (Ev.bin rfl rfl rfl Bin.eql) (WL.ev rfl rfl (Ev.as rfl rfl) (WL.nil ?_))
          refine CW.condD rfl (fun h6 => ?_) (fun h6 => ?_)
          · skip
            have hr := ifp h6 hr
            refine CW.seq (CW.reg ?_)
            refine WL.ev rfl rfl (Ev.mv rfl rfl) ?_
            obtain ⟨⟨y6, z5⟩, hy6, hr⟩ := bd hr
            obtain ⟨F', M', hfF, hoF, hcM⟩ := H.callN [true, false] ⟨noB, trivial⟩
            obtain ⟨H', hcN⟩ := hcM (ps := [Pr.S o0.b (.slice Ao0_0 no0_0 co0_0)]) ⟨hfF.get (i := 1) rfl, trivial⟩
            refine WL.call rfl rfl rfl rfl rfl ok86 rfl (sl1Below_ok hy6 (by decide : I64 12) hI1 hI2 H') ?_
            rintro _ w13 hE ⟨rfl, hI16, hI17, hI18, H'⟩
            have H := hcN 1 H' rfl ⟨fun _ _ _ _ _ h => h, trivial⟩
            obtain ⟨hg2, hr⟩ := grd_some hr
            refine WL.ev rfl rfl (Ev.convUI rfl Try.underlying3 it130 rfl hg2 hI16.2) ?_
            obtain ⟨hg3, hr⟩ := grd_some hr
            refine WL.ev rfl rfl (Ev.bin rfl rfl rfl (Bin.shlI hg3.1 hg3.2)) (WL.ev rfl rfl (Ev.mv rfl rfl) ?_)
            obtain ⟨y7, hy7, hr⟩ := bd hr
            refine WL.call rfl rfl rfl rfl rfl ok98 rfl (sl4Const_ok hy7 (F0 := fun _ => False) (i64_pow hg3.2) hIa1) ?_
            rintro _ w14 hE ⟨A2, n2, c2, rfl, hI19, hI20, hI21, hI22, hS4, hS5, H'⟩
            have H := H.callA H' ⟨fun _ _ _ _ _ h => h, trivial⟩
            refine WL.stB (i := 1) rfl rfl rfl sz31 rfl rfl rfl rfl (all1 rfl (all1 rfl (all1 rfl (all1 rfl (all1 rfl (all1 rfl (all1 rfl all0))))))) H rfl rfl rfl fun w15 H => ?_
            refine WL.nil ?_
            refine CW.ret ?_
            obtain rfl := sm hr
            exact ⟨_, resC rfl ag31 sz31 rfl rfl (At.blk (H.rB (i := 1) rfl)) rfl, H.chg, _, _, _, rfl, hI19, hI20, hI21, hI22, hS4, hS5, hI17, hI18, H.outM (fr' := []) [true, false, true] fun _ _ => trivial⟩
          · skip
            have hr := ifn h6 hr
            refine CW.skip ?_
            refine CW.seq (CW.reg ?_)
            refine WL.ev rfl rfl (Ev.mv rfl rfl) ?_
            obtain ⟨⟨y8, z6⟩, hy8, hr⟩ := bd hr
            obtain ⟨F', M', hfF, hoF, hcM⟩ := H.callN [true, false] ⟨noB, trivial⟩
            obtain ⟨H', hcN⟩ := hcM (ps := [Pr.S o0.b (.slice Ao0_0 no0_0 co0_0)]) ⟨hfF.get (i := 1) rfl, trivial⟩
            refine WL.call rfl rfl rfl rfl rfl ok86 rfl (sl1Below_ok hy8 (by decide : I64 9) hI1 hI2 H') ?_
            rintro _ w16 hE ⟨rfl, hI23, hI24, hI25, H'⟩
            have H := hcN 1 H' rfl ⟨fun _ _ _ _ _ h => h, trivial⟩
            obtain ⟨y9, hy9, hr⟩ := bd hr
            refine WL.call rfl rfl rfl rfl rfl ok98 rfl (sl4Const_ok hy9 (F0 := fun _ => False) hI23 (by decide : I64 1)) ?_
            rintro _ w17 hE ⟨A3, n3, c3, rfl, hI26, hI27, hI28, hI29, hS6, hS7, H'⟩
            have H := H.callA H' ⟨fun _ _ _ _ _ h => h, trivial⟩
            refine WL.stB (i := 1) rfl rfl rfl sz31 rfl rfl rfl rfl (all1 rfl (all1 rfl (all1 rfl (all1 rfl (all1 rfl (all1 rfl (all1 rfl all0))))))) H rfl rfl rfl fun w18 H => ?_
            refine WL.nil ?_
            refine CW.ret ?_
            obtain rfl := sm hr
            exact ⟨_, resC rfl ag31 sz31 rfl rfl (At.blk (H.rB (i := 1) rfl)) rfl, H.chg, _, _, _, rfl, hI26, hI27, hI28, hI29, hS6, hS7, hI24, hI25, H.outM (fr' := []) [true, false, true] fun _ _ => trivial⟩
  · skip
    have hr := ifn h1 hr
    refine WL.off rfl rfl rfl (WL.off rfl rfl rfl (WL.off rfl rfl rfl (WL.ev rfl rfl (Ev.pickF rfl rfl rfl) (WL.nil ?_))))
    refine CW.condF rfl ?_
    refine CW.skip ?_
    refine CW.seq (CW.seq (CW.reg ?_))
    refine WL.ev rfl rfl (Ev.mv rfl rfl) (WL.nil ?_)
    refine CW.block (CW.seq (CW.reg ?_))
    refine WL.ev rfl rfl (Ev.bin rfl rfl rfl Bin.eql) (WL.ev rfl rfl (Ev.as rfl rfl) (WL.nil ?_))
    refine CW.condD rfl (fun h7 => ?_) (fun h7 => ?_)
    · skip
      have hr := ifp h7 hr
      refine CW.seq (CW.seq (CW.reg ?_))
      refine WL.ev rfl rfl (Ev.mv rfl rfl) ?_
      obtain ⟨⟨y10, z7⟩, hy10, hr⟩ := bd hr
      obtain ⟨F', M', hfF, hoF, hcM⟩ := H.callN [true, false] ⟨noB, trivial⟩
      obtain ⟨H', hcN⟩ := hcM (ps := [Pr.S o0.b (.slice Ao0_0 no0_0 co0_0)]) ⟨hfF.get (i := 1) rfl, trivial⟩
      refine WL.call rfl rfl rfl rfl rfl ok97 rfl (sl1Once_ok hy10 (by decide : I64 3) hIo0_1 hIo0_2 H') ?_
      rintro _ w19 hE ⟨rfl, hI30, hI31, H'⟩
      have H := hcN 1 H' rfl ⟨fun _ _ _ _ _ h => h, trivial⟩
      refine WL.nil ?_
      refine CW.condB rfl (fun h8 => ?_) (fun h8 => ?_)
      · skip
        have hr := ifp h8 hr
        refine CW.seq (CW.reg ?_)
        refine WL.ev rfl rfl (Ev.build rfl pl31 ze31 rfl rfl rfl rfl) ?_
        refine WL.stB (i := 1) rfl rfl rfl sz31 rfl rfl rfl rfl (all1 rfl (all1 rfl (all1 rfl (all1 rfl (all1 rfl (all1 rfl (all1 rfl all0))))))) H rfl rfl rfl fun w20 H => ?_
        refine WL.nil ?_
        refine CW.ret ?_
        have H := H.nil (α := Expr) 31
        obtain rfl := sm hr
        exact ⟨_, resC rfl ag31 sz31 rfl rfl (At.blk (H.rB (i := 1) rfl)) rfl, H.chg, _, _, _, rfl, (by decide : I64 7), (by decide : I64 0), (by decide : I64 0), (by decide : I64 0), (by decide : (⟨#[]⟩ : ByteArray).size ≤ 9223372036854775807), (by decide : (⟨#[]⟩ : ByteArray).size ≤ 9223372036854775807), hI30, hI31, H.outM (fr' := []) [true, false, true] fun _ _ => trivial⟩
      · skip
        have hr := ifn h8 hr
        refine CW.skip ?_
        refine CW.seq (CW.reg ?_)
        refine WL.ev rfl rfl (Ev.build rfl pl31 ze31 rfl rfl rfl rfl) ?_
        refine WL.stB (i := 1) rfl rfl rfl sz31 rfl rfl rfl rfl (all1 rfl (all1 rfl (all1 rfl (all1 rfl (all1 rfl (all1 rfl (all1 rfl all0))))))) H rfl rfl rfl fun w21 H => ?_
        refine WL.nil ?_
        refine CW.ret ?_
        have H := H.nil (α := Expr) 31
        obtain rfl := sm hr
        exact ⟨_, resC rfl ag31 sz31 rfl rfl (At.blk (H.rB (i := 1) rfl)) rfl, H.chg, _, _, _, rfl, (by decide : I64 6), (by decide : I64 0), (by decide : I64 0), (by decide : I64 0), (by decide : (⟨#[]⟩ : ByteArray).size ≤ 9223372036854775807), (by decide : (⟨#[]⟩ : ByteArray).size ≤ 9223372036854775807), hI30, hI31, H.outM (fr' := []) [true, false, true] fun _ _ => trivial⟩
    · skip
      have hr := ifn h7 hr
      refine CW.seq (CW.reg ?_)
      refine WL.ev rfl rfl (Ev.bin rfl rfl rfl Bin.eql) (WL.ev rfl rfl (Ev.as rfl rfl) (WL.nil ?_))
      refine CW.condD rfl (fun h9 => ?_) (fun h9 => ?_)
      · skip
        have hr := ifp h9 hr
        refine CW.seq (CW.reg ?_)
        refine WL.ev rfl rfl (Ev.mv rfl rfl) ?_
        obtain ⟨⟨y11, z8⟩, hy11, hr⟩ := bd hr
        obtain ⟨F', M', hfF, hoF, hcM⟩ := H.callN [true, false] ⟨noB, trivial⟩
        obtain ⟨H', hcN⟩ := hcM (ps := [Pr.S o0.b (.slice Ao0_0 no0_0 co0_0)]) ⟨hfF.get (i := 1) rfl, trivial⟩
        refine WL.call rfl rfl rfl rfl rfl ok86 rfl (sl1Below_ok hy11 (by decide : I64 2) hIo0_1 hIo0_2 H') ?_
        rintro _ w22 hE ⟨rfl, hI32, hI33, hI34, H'⟩
        have H := hcN 1 H' rfl ⟨fun _ _ _ _ _ h => h, trivial⟩
        refine WL.ev rfl rfl (Ev.mv rfl rfl) ?_
        obtain ⟨y12, hy12, hr⟩ := bd hr
        refine WL.call rfl rfl rfl rfl rfl ok98 rfl (sl4Const_ok hy12 (F0 := fun _ => False) hI32 hIa1) ?_
        rintro _ w23 hE ⟨A4, n4, c4, rfl, hI35, hI36, hI37, hI38, hS8, hS9, H'⟩
        have H := H.callA H' ⟨fun _ _ _ _ _ h => h, trivial⟩
        refine WL.stB (i := 1) rfl rfl rfl sz31 rfl rfl rfl rfl (all1 rfl (all1 rfl (all1 rfl (all1 rfl (all1 rfl (all1 rfl (all1 rfl all0))))))) H rfl rfl rfl fun w24 H => ?_
        refine WL.nil ?_
        refine CW.ret ?_
        obtain rfl := sm hr
        exact ⟨_, resC rfl ag31 sz31 rfl rfl (At.blk (H.rB (i := 1) rfl)) rfl, H.chg, _, _, _, rfl, hI35, hI36, hI37, hI38, hS8, hS9, hI33, hI34, H.outM (fr' := []) [true, false, true] fun _ _ => trivial⟩
      · skip
        have hr := ifn h9 hr
        refine CW.seq (CW.reg ?_)
        refine WL.ev rfl rfl (Ev.bin rfl rfl rfl Bin.eql) (WL.ev rfl rfl (Ev.as rfl rfl) (WL.nil ?_))
        refine CW.condD rfl (fun h10 => ?_) (fun h10 => ?_)
        · skip
          have hr := ifp h10 hr
          refine CW.seq (CW.reg ?_)
          refine WL.ev rfl rfl (Ev.mv rfl rfl) ?_
          obtain ⟨⟨y13, z9⟩, hy13, hr⟩ := bd hr
          obtain ⟨F', M', hfF, hoF, hcM⟩ := H.callN [true, false] ⟨noB, trivial⟩
          obtain ⟨H', hcN⟩ := hcM (ps := [Pr.S o0.b (.slice Ao0_0 no0_0 co0_0)]) ⟨hfF.get (i := 1) rfl, trivial⟩
          refine WL.call rfl rfl rfl rfl rfl ok86 rfl (sl1Below_ok hy13 (by decide : I64 12) hIo0_1 hIo0_2 H') ?_
          rintro _ w25 hE ⟨rfl, hI39, hI40, hI41, H'⟩
          have H := hcN 1 H' rfl ⟨fun _ _ _ _ _ h => h, trivial⟩
          obtain ⟨hg4, hr⟩ := grd_some hr
          refine WL.ev rfl rfl (Ev.convUI rfl Try.underlying3 it130 rfl hg4 hI39.2) ?_
          obtain ⟨hg5, hr⟩ := grd_some hr
          refine WL.ev rfl rfl (Ev.bin rfl rfl rfl (Bin.shlI hg5.1 hg5.2)) (WL.ev rfl rfl (Ev.mv rfl rfl) ?_)
          obtain ⟨y14, hy14, hr⟩ := bd hr
          refine WL.call rfl rfl rfl rfl rfl ok98 rfl (sl4Const_ok hy14 (F0 := fun _ => False) (i64_pow hg5.2) hIa1) ?_
          rintro _ w26 hE ⟨A5, n5, c5, rfl, hI42, hI43, hI44, hI45, hS10, hS11, H'⟩
          have H := H.callA H' ⟨fun _ _ _ _ _ h => h, trivial⟩
          refine WL.stB (i := 1) rfl rfl rfl sz31 rfl rfl rfl rfl (all1 rfl (all1 rfl (all1 rfl (all1 rfl (all1 rfl (all1 rfl (all1 rfl all0))))))) H rfl rfl rfl fun w27 H => ?_
          refine WL.nil ?_
          refine CW.ret ?_
          obtain rfl := sm hr
          exact ⟨_, resC rfl ag31 sz31 rfl rfl (At.blk (H.rB (i := 1) rfl)) rfl, H.chg, _, _, _, rfl, hI42, hI43, hI44, hI45, hS10, hS11, hI40, hI41, H.outM (fr' := []) [true, false, true] fun _ _ => trivial⟩
        · skip
          have hr := ifn h10 hr
          refine CW.skip ?_
          refine CW.seq (CW.reg ?_)
          refine WL.ev rfl rfl (Ev.mv rfl rfl) ?_
          obtain ⟨⟨y15, z10⟩, hy15, hr⟩ := bd hr
          obtain ⟨F', M', hfF, hoF, hcM⟩ := H.callN [true, false] ⟨noB, trivial⟩
          obtain ⟨H', hcN⟩ := hcM (ps := [Pr.S o0.b (.slice Ao0_0 no0_0 co0_0)]) ⟨hfF.get (i := 1) rfl, trivial⟩
          refine WL.call rfl rfl rfl rfl rfl ok86 rfl (sl1Below_ok hy15 (by decide : I64 9) hIo0_1 hIo0_2 H') ?_
          rintro _ w28 hE ⟨rfl, hI46, hI47, hI48, H'⟩
          have H := hcN 1 H' rfl ⟨fun _ _ _ _ _ h => h, trivial⟩
          obtain ⟨y16, hy16, hr⟩ := bd hr
          refine WL.call rfl rfl rfl rfl rfl ok98 rfl (sl4Const_ok hy16 (F0 := fun _ => False) hI46 (by decide : I64 1)) ?_
          rintro _ w29 hE ⟨A6, n6, c6, rfl, hI49, hI50, hI51, hI52, hS12, hS13, H'⟩
          have H := H.callA H' ⟨fun _ _ _ _ _ h => h, trivial⟩
          refine WL.stB (i := 1) rfl rfl rfl sz31 rfl rfl rfl rfl (all1 rfl (all1 rfl (all1 rfl (all1 rfl (all1 rfl (all1 rfl (all1 rfl all0))))))) H rfl rfl rfl fun w30 H => ?_
          refine WL.nil ?_
          refine CW.ret ?_
          obtain rfl := sm hr
          exact ⟨_, resC rfl ag31 sz31 rfl rfl (At.blk (H.rB (i := 1) rfl)) rfl, H.chg, _, _, _, rfl, hI49, hI50, hI51, hI52, hS12, hS13, hI47, hI48, H.outM (fr' := []) [true, false, true] fun _ _ => trivial⟩

noncomputable def sl4Op_m (a0 : Int) (a1 : Expr) (a2 : Expr) : Option Expr :=
  some (⟨4, a0, 0, 0, (⟨#[]⟩ : ByteArray), (⟨#[]⟩ : ByteArray), [a1, a2]⟩ : Expr)
theorem sl4Op_ok {a0 : Int} {a1 : Expr} {a2 : Expr} {r : Expr} (hr : sl4Op_m a0 a1 a2 = some r) {F0 : Nat → Prop} {w0 : World} (ha0 : I64 a0) {ca1 : List Value} (ha1 : rd F0 w0 a1 ca1) {ca2 : List Value} (ha2 : rd F0 w0 a2 ca2) :
    Ret Try.prog 99 #[.int .i64 a0, .agg ca1.toArray, .agg ca2.toArray] w0 (fun _ => False) fun v w => ∃ A0 : Option Addr, ∃ n0 c0 : Nat, v = .agg #[.int .i64 r.Kind, .int .i64 r.N, .int .i64 r.Pos, .int .i64 r.Type_, .string r.Symbol, .string r.Name, (.slice A0 n0 c0)] ∧ I64 r.Kind ∧ I64 r.N ∧ I64 r.Pos ∧ I64 r.Type_ ∧ r.Symbol.size ≤ 9223372036854775807 ∧ r.Name.size ≤ 9223372036854775807 ∧ HL F0 [] w0 w [] [It.G 31 r.Args (.slice A0 n0 c0)] := by
  have H := ((HL.start F0 w0).argR ha1).argR ha2
  obtain ⟨A1, n1, c1, rfl, hI1, hI2, hI3, hI4, hS1, hS2, H⟩ := op_Expr H (i := 0) rfl
  obtain ⟨A2, n2, c2, rfl, hI5, hI6, hI7, hI8, hS3, hS4, H⟩ := op_Expr H (i := 1) rfl
  refine enter Try.func99 rfl rfl rfl ?_
  refine CW.seq (CW.reg ?_)
  refine WL.boxH rfl rfl rfl rfl rfl H fun b1 w1 H => ?_
  refine WL.boxH rfl rfl rfl rfl rfl H fun b2 w2 H => ?_
  refine WL.allocH rfl rfl rfl ze31 H fun b3 w3 H => ?_
  refine WL.nil ?_
  refine CW.seq (CW.reg ?_)
  refine WL.ev rfl rfl (Ev.mv rfl rfl) (WL.ev rfl rfl (Ev.lda rfl ag31 sz31 rfl (At.blk (H.rB (i := 0) rfl)) rfl) (WL.ev rfl rfl (Ev.lda rfl ag31 sz31 rfl (At.blk (H.rB (i := 1) rfl)) rfl) ?_))
  refine WL.litG (xs := [a1, a2]) (vs := [.agg #[.int .i64 a1.Kind, .int .i64 a1.N, .int .i64 a1.Pos, .int .i64 a1.Type_, .string a1.Symbol, .string a1.Name, .slice A1 n1 c1], .agg #[.int .i64 a2.Kind, .int .i64 a2.N, .int .i64 a2.Pos, .int .i64 a2.Type_, .string a2.Symbol, .string a2.Name, .slice A2 n2 c2]]) (css := [[.int .i64 a1.Kind, .int .i64 a1.N, .int .i64 a1.Pos, .int .i64 a1.Type_, .string a1.Symbol, .string a1.Name, .slice A1 n1 c1], [.int .i64 a2.Kind, .int .i64 a2.N, .int .i64 a2.Pos, .int .i64 a2.Type_, .string a2.Symbol, .string a2.Name, .slice A2 n2 c2]]) rfl rfl rfl el29 sz31 ze31 rfl rfl ⟨rfl, rfl, ⟨rfl, rfl, trivial⟩⟩ rfl rfl rfl rfl (fun F hF => (rdL.consK (α := Expr) (Expr_rd.2 ⟨_, rfl, hI1, hI2, hI3, hI4, hS1, hS2, (hF.get (i := 2) rfl)⟩) (rdL.consK (α := Expr) (Expr_rd.2 ⟨_, rfl, hI5, hI6, hI7, hI8, hS3, hS4, (hF.get (i := 3) rfl)⟩) rfl))) rfl rfl H fun A3 n3 c3 w4 H => ?_
  refine WL.ev rfl rfl (Ev.build rfl pl31 ze31 rfl rfl rfl rfl) ?_
  refine WL.stB (i := 2) rfl rfl rfl sz31 rfl rfl rfl rfl (all1 rfl (all1 rfl (all1 rfl (all1 rfl (all1 rfl (all1 rfl (all1 rfl all0))))))) H rfl rfl rfl fun w5 H => ?_
  refine WL.nil ?_
  refine CW.ret ?_
  obtain rfl := sm hr
  exact ⟨_, resC rfl ag31 sz31 rfl rfl (At.blk (H.rB (i := 2) rfl)) rfl, H.ext0, _, _, _, rfl, (by decide : I64 4), ha0, (by decide : I64 0), (by decide : I64 0), (by decide : (⟨#[]⟩ : ByteArray).size ≤ 9223372036854775807), (by decide : (⟨#[]⟩ : ByteArray).size ≤ 9223372036854775807), H.outM (fr' := []) [false, false, false, true] fun _ _ => trivial⟩

noncomputable def sl4Free_B (rec_sl4Free : Int → l1Cur → Option (Expr × l1Cur)) (a1 : Int) (o0 : l1Cur) : Option (Expr × l1Cur) :=
  if a1 < 2 then (
  (sl1Once_m 5 o0).bind fun (y1, z1) =>
  if y1 = true then (
  some ((⟨2, 0, 0, 0, (⟨#[]⟩ : ByteArray), (⟨#[]⟩ : ByteArray), []⟩ : Expr), (⟨o0.b, z1.i, z1.h⟩ : l1Cur))
  ) else (
  (sl1Once_m 6 (⟨o0.b, z1.i, z1.h⟩ : l1Cur)).bind fun (y2, z2) =>
  if y2 = true then (
  (sl1Below_m 4 (⟨o0.b, z2.i, z2.h⟩ : l1Cur)).bind fun (y3, z3) =>
  some ((⟨6, 0, y3, 0, (⟨#[]⟩ : ByteArray), (⟨#[]⟩ : ByteArray), []⟩ : Expr), (⟨o0.b, z3.i, z3.h⟩ : l1Cur))
  ) else (
  (sl1Below_m 4 (⟨o0.b, z2.i, z2.h⟩ : l1Cur)).bind fun (y4, z4) =>
  grd (I64 (1 + y4)) <|
  (sl1Below_m 4 (⟨o0.b, z4.i, z4.h⟩ : l1Cur)).bind fun (y5, z5) =>
  (sl2Name_m (⟨o0.b, z5.i, z5.h⟩ : l1Cur)).bind fun (y6, z6) =>
  (sl4Leaf_m (1 + y4) [(⟨y5, y6⟩ : Occurrence)] (⟨o0.b, z6.i, z6.h⟩ : l1Cur)).bind fun (y7, z7) =>
  some (y7, (⟨o0.b, z7.i, z7.h⟩ : l1Cur))
  )
  )
  ) else (
  (sl1Once_m 4 o0).bind fun (y8, z8) =>
  if y8 = true then (
  (sl1Once_m 5 (⟨o0.b, z8.i, z8.h⟩ : l1Cur)).bind fun (y9, z9) =>
  if y9 = true then (
  some ((⟨2, 0, 0, 0, (⟨#[]⟩ : ByteArray), (⟨#[]⟩ : ByteArray), []⟩ : Expr), (⟨o0.b, z9.i, z9.h⟩ : l1Cur))
  ) else (
  (sl1Once_m 6 (⟨o0.b, z9.i, z9.h⟩ : l1Cur)).bind fun (y10, z10) =>
  if y10 = true then (
  (sl1Below_m 4 (⟨o0.b, z10.i, z10.h⟩ : l1Cur)).bind fun (y11, z11) =>
  some ((⟨6, 0, y11, 0, (⟨#[]⟩ : ByteArray), (⟨#[]⟩ : ByteArray), []⟩ : Expr), (⟨o0.b, z11.i, z11.h⟩ : l1Cur))
  ) else (
  (sl1Below_m 4 (⟨o0.b, z10.i, z10.h⟩ : l1Cur)).bind fun (y12, z12) =>
  grd (I64 (1 + y12)) <|
  (sl1Below_m 4 (⟨o0.b, z12.i, z12.h⟩ : l1Cur)).bind fun (y13, z13) =>
  (sl2Name_m (⟨o0.b, z13.i, z13.h⟩ : l1Cur)).bind fun (y14, z14) =>
  (sl4Leaf_m (1 + y12) [(⟨y13, y14⟩ : Occurrence)] (⟨o0.b, z14.i, z14.h⟩ : l1Cur)).bind fun (y15, z15) =>
  some (y15, (⟨o0.b, z15.i, z15.h⟩ : l1Cur))
  )
  )
  ) else (
  (sl1Below_m 5 (⟨o0.b, z8.i, z8.h⟩ : l1Cur)).bind fun (y16, z16) =>
  if y16 = 0 then (
  grd (I64 (a1 - 1)) <|
  (rec_sl4Free (a1 - 1) (⟨o0.b, z16.i, z16.h⟩ : l1Cur)).bind fun (y17, z17) =>
  grd (I64 (a1 - 1)) <|
  (rec_sl4Free (a1 - 1) (⟨o0.b, z17.i, z17.h⟩ : l1Cur)).bind fun (y18, z18) =>
  grd (I64 (a1 - 1)) <|
  (rec_sl4Free (a1 - 1) (⟨o0.b, z18.i, z18.h⟩ : l1Cur)).bind fun (y19, z19) =>
  some ((⟨5, 0, 0, 0, (⟨#[]⟩ : ByteArray), (⟨#[]⟩ : ByteArray), [y17, y18, y19]⟩ : Expr), (⟨o0.b, z19.i, z19.h⟩ : l1Cur))
  ) else (
  if y16 = 1 then (
  (sl1Pick_m [(⟨#[115]⟩ : ByteArray), (⟨#[116]⟩ : ByteArray)] (⟨o0.b, z16.i, z16.h⟩ : l1Cur)).bind fun (y20, z20) =>
  (sl2Name_m (⟨o0.b, z20.i, z20.h⟩ : l1Cur)).bind fun (y21, z21) =>
  grd (I64 (a1 - 1)) <|
  (rec_sl4Free (a1 - 1) (⟨o0.b, z21.i, z21.h⟩ : l1Cur)).bind fun (y22, z22) =>
  some ((⟨8, 0, 0, 0, y20, y21, [y22]⟩ : Expr), (⟨o0.b, z22.i, z22.h⟩ : l1Cur))
  ) else (
  (sl1Below_m 12 (⟨o0.b, z16.i, z16.h⟩ : l1Cur)).bind fun (y23, z23) =>
  grd (I64 (1 + y23)) <|
  grd (I64 (a1 - 1)) <|
  (rec_sl4Free (a1 - 1) (⟨o0.b, z23.i, z23.h⟩ : l1Cur)).bind fun (y24, z24) =>
  grd (I64 (a1 - 1)) <|
  (rec_sl4Free (a1 - 1) (⟨o0.b, z24.i, z24.h⟩ : l1Cur)).bind fun (y25, z25) =>
  (sl4Op_m (1 + y23) y24 y25).bind fun y26 =>
  some (y26, (⟨o0.b, z25.i, z25.h⟩ : l1Cur))
  )
  )
  )
  )
theorem sl4Free_okB {rec_sl4Free : Int → l1Cur → Option (Expr × l1Cur)} (ih_sl4Free : ∀ {a1 : Int} {o0 : l1Cur} {r : (Expr × l1Cur)}, rec_sl4Free a1 o0 = some r → ∀ {F0 : Nat → Prop} {M : List Nat} {w0 : World} {bo0 : Nat} {Ao0_0 : Option Addr} {no0_0 co0_0 : Nat} (hIa1 : I64 a1) (hIo0_1 : I64 o0.i) (hIo0_2 : I64 o0.h) (H : HL F0 M w0 w0 [Pr.S o0.b (.slice Ao0_0 no0_0 co0_0)] [It.B bo0 159 [.slice Ao0_0 no0_0 co0_0, .int .i64 o0.i, .int .i64 o0.h]]), Ret Try.prog 169 #[.pointer (some ⟨bo0, 0, none⟩), .int .i64 a1] w0 (· ∈ M) fun v w => ∃ A0 : Option Addr, ∃ n0 c0 : Nat, v = .agg #[.int .i64 r.1.Kind, .int .i64 r.1.N, .int .i64 r.1.Pos, .int .i64 r.1.Type_, .string r.1.Symbol, .string r.1.Name, (.slice A0 n0 c0)] ∧ I64 r.1.Kind ∧ I64 r.1.N ∧ I64 r.1.Pos ∧ I64 r.1.Type_ ∧ r.1.Symbol.size ≤ 9223372036854775807 ∧ r.1.Name.size ≤ 9223372036854775807 ∧ I64 r.2.i ∧ I64 r.2.h ∧ HL F0 M w0 w [] [It.B bo0 159 [.slice Ao0_0 no0_0 co0_0, .int .i64 r.2.i, .int .i64 r.2.h], It.G 31 r.1.Args (.slice A0 n0 c0)]) {a1 : Int} {o0 : l1Cur} {r : (Expr × l1Cur)} (hr : sl4Free_B rec_sl4Free a1 o0 = some r) {F0 : Nat → Prop} {M : List Nat} {w0 : World} {bo0 : Nat} {Ao0_0 : Option Addr} {no0_0 co0_0 : Nat} (hIa1 : I64 a1) (hIo0_1 : I64 o0.i) (hIo0_2 : I64 o0.h) (H : HL F0 M w0 w0 [Pr.S o0.b (.slice Ao0_0 no0_0 co0_0)] [It.B bo0 159 [.slice Ao0_0 no0_0 co0_0, .int .i64 o0.i, .int .i64 o0.h]]) :
    Ret Try.prog 169 #[.pointer (some ⟨bo0, 0, none⟩), .int .i64 a1] w0 (· ∈ M) fun v w => ∃ A0 : Option Addr, ∃ n0 c0 : Nat, v = .agg #[.int .i64 r.1.Kind, .int .i64 r.1.N, .int .i64 r.1.Pos, .int .i64 r.1.Type_, .string r.1.Symbol, .string r.1.Name, (.slice A0 n0 c0)] ∧ I64 r.1.Kind ∧ I64 r.1.N ∧ I64 r.1.Pos ∧ I64 r.1.Type_ ∧ r.1.Symbol.size ≤ 9223372036854775807 ∧ r.1.Name.size ≤ 9223372036854775807 ∧ I64 r.2.i ∧ I64 r.2.h ∧ HL F0 M w0 w [] [It.B bo0 159 [.slice Ao0_0 no0_0 co0_0, .int .i64 r.2.i, .int .i64 r.2.h], It.G 31 r.1.Args (.slice A0 n0 c0)] := by
  refine enter Try.func169 rfl rfl rfl ?_
  refine CW.seq (CW.reg ?_)
  refine WL.allocH rfl rfl rfl ze31 H fun b1 w1 H => ?_
  refine WL.nil ?_
  refine CW.seq (CW.seq (CW.reg ?_))
  refine WL.ev rfl rfl (Ev.mv rfl rfl) (WL.ev rfl rfl (Ev.bin rfl rfl rfl Bin.lss) ?_)
  refine WL.mvD rfl rfl rfl rfl (fun h1 => ?_) (fun h1 => ?_)
  · skip
    have hr := ifp h1 hr
    refine WL.off rfl rfl rfl (WL.off rfl rfl rfl (WL.ev rfl rfl (Ev.pickT rfl rfl rfl) (WL.nil ?_)))
    refine CW.condT rfl ?_
    refine CW.seq (CW.seq (CW.reg ?_))
    refine WL.ev rfl rfl (Ev.mv rfl rfl) ?_
    obtain ⟨⟨y1, z1⟩, hy1, hr⟩ := bd hr
    obtain ⟨F', M', hfF, hoF, hcM⟩ := H.callN [true, false] ⟨noB, trivial⟩
    obtain ⟨H', hcN⟩ := hcM (ps := [Pr.S o0.b (.slice Ao0_0 no0_0 co0_0)]) ⟨hfF.get (i := 0) rfl, trivial⟩
    refine WL.call rfl rfl rfl rfl rfl ok97 rfl (sl1Once_ok hy1 (by decide : I64 5) hIo0_1 hIo0_2 H') ?_
    rintro _ w2 hE ⟨rfl, hI1, hI2, H'⟩
    have H := hcN 1 H' rfl ⟨fun _ _ _ _ _ h => h, trivial⟩
    refine WL.nil ?_
    refine CW.condB rfl (fun h2 => ?_) (fun h2 => ?_)
    · skip
      have hr := ifp h2 hr
      refine CW.seq (CW.reg ?_)
      refine WL.ev rfl rfl (Ev.build rfl pl31 ze31 rfl rfl rfl rfl) ?_
      refine WL.stB (i := 1) rfl rfl rfl sz31 rfl rfl rfl rfl (all1 rfl (all1 rfl (all1 rfl (all1 rfl (all1 rfl (all1 rfl (all1 rfl all0))))))) H rfl rfl rfl fun w3 H => ?_
      refine WL.nil ?_
      refine CW.ret ?_
      have H := H.nilG (α := Expr) 31
      obtain rfl := sm hr
      exact ⟨_, resC rfl ag31 sz31 rfl rfl (At.blk (H.rB (i := 1) rfl)) rfl, H.chg, _, _, _, rfl, (by decide : I64 2), (by decide : I64 0), (by decide : I64 0), (by decide : I64 0), (by decide : (⟨#[]⟩ : ByteArray).size ≤ 9223372036854775807), (by decide : (⟨#[]⟩ : ByteArray).size ≤ 9223372036854775807), hI1, hI2, H.outM (fr' := []) [true, false, true] fun _ _ => trivial⟩
    · skip
      have hr := ifn h2 hr
      refine CW.skip ?_
      refine CW.seq (CW.seq (CW.reg ?_))
      refine WL.ev rfl rfl (Ev.mv rfl rfl) ?_
      obtain ⟨⟨y2, z2⟩, hy2, hr⟩ := bd hr
      obtain ⟨F', M', hfF, hoF, hcM⟩ := H.callN [true, false] ⟨noB, trivial⟩
      obtain ⟨H', hcN⟩ := hcM (ps := [Pr.S o0.b (.slice Ao0_0 no0_0 co0_0)]) ⟨hfF.get (i := 0) rfl, trivial⟩
      refine WL.call rfl rfl rfl rfl rfl ok97 rfl (sl1Once_ok hy2 (by decide : I64 6) hI1 hI2 H') ?_
      rintro _ w4 hE ⟨rfl, hI3, hI4, H'⟩
      have H := hcN 1 H' rfl ⟨fun _ _ _ _ _ h => h, trivial⟩
      refine WL.nil ?_
      refine CW.condB rfl (fun h3 => ?_) (fun h3 => ?_)
      · skip
        have hr := ifp h3 hr
        refine CW.seq (CW.reg ?_)
        refine WL.ev rfl rfl (Ev.mv rfl rfl) ?_
        obtain ⟨⟨y3, z3⟩, hy3, hr⟩ := bd hr
        obtain ⟨F', M', hfF, hoF, hcM⟩ := H.callN [true, false] ⟨noB, trivial⟩
        obtain ⟨H', hcN⟩ := hcM (ps := [Pr.S o0.b (.slice Ao0_0 no0_0 co0_0)]) ⟨hfF.get (i := 0) rfl, trivial⟩
        refine WL.call rfl rfl rfl rfl rfl ok86 rfl (sl1Below_ok hy3 (by decide : I64 4) hI3 hI4 H') ?_
        rintro _ w5 hE ⟨rfl, hI5, hI6, hI7, H'⟩
        have H := hcN 1 H' rfl ⟨fun _ _ _ _ _ h => h, trivial⟩
        refine WL.ev rfl rfl (Ev.build rfl pl31 ze31 rfl rfl rfl rfl) ?_
        refine WL.stB (i := 1) rfl rfl rfl sz31 rfl rfl rfl rfl (all1 rfl (all1 rfl (all1 rfl (all1 rfl (all1 rfl (all1 rfl (all1 rfl all0))))))) H rfl rfl rfl fun w6 H => ?_
        refine WL.nil ?_
        refine CW.ret ?_
        have H := H.nilG (α := Expr) 31
        obtain rfl := sm hr
        exact ⟨_, resC rfl ag31 sz31 rfl rfl (At.blk (H.rB (i := 1) rfl)) rfl, H.chg, _, _, _, rfl, (by decide : I64 6), (by decide : I64 0), hI5, (by decide : I64 0), (by decide : (⟨#[]⟩ : ByteArray).size ≤ 9223372036854775807), (by decide : (⟨#[]⟩ : ByteArray).size ≤ 9223372036854775807), hI6, hI7, H.outM (fr' := []) [true, false, true] fun _ _ => trivial⟩
      · skip
        have hr := ifn h3 hr
        refine CW.skip ?_
        refine CW.seq (CW.reg ?_)
        refine WL.ev rfl rfl (Ev.mv rfl rfl) (WL.ev rfl rfl (Ev.mv rfl rfl) ?_)
        obtain ⟨⟨y4, z4⟩, hy4, hr⟩ := bd hr
        obtain ⟨F', M', hfF, hoF, hcM⟩ := H.callN [true, false] ⟨noB, trivial⟩
        obtain ⟨H', hcN⟩ := hcM (ps := [Pr.S o0.b (.slice Ao0_0 no0_0 co0_0)]) ⟨hfF.get (i := 0) rfl, trivial⟩
        refine WL.call rfl rfl rfl rfl rfl ok86 rfl (sl1Below_ok hy4 (by decide : I64 4) hI3 hI4 H') ?_
        rintro _ w7 hE ⟨rfl, hI8, hI9, hI10, H'⟩
        have H := hcN 1 H' rfl ⟨fun _ _ _ _ _ h => h, trivial⟩
        obtain ⟨hg1, hr⟩ := grd_some hr
        refine WL.ev rfl rfl (Ev.bin rfl rfl rfl (Bin.add hg1)) (WL.ev rfl rfl (Ev.mv rfl rfl) ?_)
        obtain ⟨⟨y5, z5⟩, hy5, hr⟩ := bd hr
        obtain ⟨F', M', hfF, hoF, hcM⟩ := H.callN [true, false] ⟨noB, trivial⟩
        obtain ⟨H', hcN⟩ := hcM (ps := [Pr.S o0.b (.slice Ao0_0 no0_0 co0_0)]) ⟨hfF.get (i := 0) rfl, trivial⟩
        refine WL.call rfl rfl rfl rfl rfl ok86 rfl (sl1Below_ok hy5 (by decide : I64 4) hI9 hI10 H') ?_
        rintro _ w8 hE ⟨rfl, hI11, hI12, hI13, H'⟩
        have H := hcN 1 H' rfl ⟨fun _ _ _ _ _ h => h, trivial⟩
        refine WL.ev rfl rfl (Ev.mv rfl rfl) ?_
        obtain ⟨⟨y6, z6⟩, hy6, hr⟩ := bd hr
        obtain ⟨F', M', hfF, hoF, hcM⟩ := H.callN [true, false] ⟨noB, trivial⟩
        obtain ⟨H', hcN⟩ := hcM (ps := [Pr.S o0.b (.slice Ao0_0 no0_0 co0_0)]) ⟨hfF.get (i := 0) rfl, trivial⟩
        refine WL.call rfl rfl rfl rfl rfl ok145 rfl (sl2Name_ok hy6 hI12 hI13 H') ?_
        rintro _ w9 hE ⟨rfl, hS1, hI14, hI15, H'⟩
        have H := hcN 1 H' rfl ⟨fun _ _ _ _ _ h => h, trivial⟩
        refine WL.ev rfl rfl (Ev.build rfl pl48 ze48 rfl rfl rfl rfl) ?_
        refine WL.litK (xs := [(⟨y5, y6⟩ : Occurrence)]) (vs := [.agg #[.int .i64 y5, .string y6]]) (css := [[.int .i64 y5, .string y6]]) rfl rfl rfl el33 sz48 ze48 rfl rfl ⟨rfl, rfl, trivial⟩ rfl rfl rfl rfl (fun _ => (ownL.consK (α := Occurrence) ⟨rfl, hI11, hS1, rfl⟩ ⟨rfl, rfl⟩)) rfl rfl H fun A1 n1 c1 w10 H => ?_
        obtain ⟨⟨y7, z7⟩, hy7, hr⟩ := bd hr
        obtain ⟨F', M', hfF, hoF, hcM⟩ := H.callN [true, false, false] ⟨noB, trivial⟩
        obtain ⟨H', hcN⟩ := hcM (ps := [Pr.S [(⟨y5, y6⟩ : Occurrence)] (.slice A1 n1 c1), Pr.S o0.b (.slice Ao0_0 no0_0 co0_0)]) ⟨roO (hoF 1 _ rfl), hfF.get (i := 0) rfl, trivial⟩
        refine WL.call rfl rfl rfl rfl rfl ok186 rfl (sl4Leaf_ok hy7 hg1 hI14 hI15 H') ?_
        rintro _ w11 hE ⟨A2, n2, c2, rfl, hI16, hI17, hI18, hI19, hS2, hS3, hI20, hI21, H'⟩
        have H := hcN 1 H' rfl ⟨fun _ _ _ _ _ h => h, ⟨fun _ _ _ _ _ h => h, trivial⟩⟩
        refine WL.stB (i := 1) rfl rfl rfl sz31 rfl rfl rfl rfl (all1 rfl (all1 rfl (all1 rfl (all1 rfl (all1 rfl (all1 rfl (all1 rfl all0))))))) H rfl rfl rfl fun w12 H => ?_
        refine WL.nil ?_
        refine CW.ret ?_
        have H := H.toG (i := 3) rfl
        obtain rfl := sm hr
        exact ⟨_, resC rfl ag31 sz31 rfl rfl (At.blk (H.rB (i := 1) rfl)) rfl, H.chg, _, _, _, rfl, hI16, hI17, hI18, hI19, hS2, hS3, hI20, hI21, H.outM (fr' := []) [true, false, false, true] fun _ _ => trivial⟩
  · skip
    have hr := ifn h1 hr
    refine WL.on rfl rfl (WL.ev rfl rfl (Ev.mv rfl rfl) (WL.on rfl rfl ?_))
    obtain ⟨⟨y8, z8⟩, hy8, hr⟩ := bd hr
    obtain ⟨F', M', hfF, hoF, hcM⟩ := H.callN [true, false] ⟨noB, trivial⟩
    obtain ⟨H', hcN⟩ := hcM (ps := [Pr.S o0.b (.slice Ao0_0 no0_0 co0_0)]) ⟨hfF.get (i := 0) rfl, trivial⟩
    refine WL.call rfl rfl rfl rfl rfl ok97 rfl (sl1Once_ok hy8 (by decide : I64 4) hIo0_1 hIo0_2 H') ?_
    rintro _ w13 hE ⟨rfl, hI22, hI23, H'⟩
    have H := hcN 1 H' rfl ⟨fun _ _ _ _ _ h => h, trivial⟩
    refine WL.ev rfl rfl (Ev.pickF rfl rfl rfl) (WL.nil ?_)
    refine CW.condB rfl (fun h4 => ?_) (fun h4 => ?_)
    · skip
      have hr := ifp h4 hr
      refine CW.seq (CW.seq (CW.reg ?_))
      refine WL.ev rfl rfl (Ev.mv rfl rfl) ?_
      obtain ⟨⟨y9, z9⟩, hy9, hr⟩ := bd hr
      obtain ⟨F', M', hfF, hoF, hcM⟩ := H.callN [true, false] ⟨noB, trivial⟩
      obtain ⟨H', hcN⟩ := hcM (ps := [Pr.S o0.b (.slice Ao0_0 no0_0 co0_0)]) ⟨hfF.get (i := 0) rfl, trivial⟩
      refine WL.call rfl rfl rfl rfl rfl ok97 rfl (sl1Once_ok hy9 (by decide : I64 5) hI22 hI23 H') ?_
      rintro _ w14 hE ⟨rfl, hI24, hI25, H'⟩
      have H := hcN 1 H' rfl ⟨fun _ _ _ _ _ h => h, trivial⟩
      refine WL.nil ?_
      refine CW.condB rfl (fun h5 => ?_) (fun h5 => ?_)
      · skip
        have hr := ifp h5 hr
        refine CW.seq (CW.reg ?_)
        refine WL.ev rfl rfl (Ev.build rfl pl31 ze31 rfl rfl rfl rfl) ?_
        refine WL.stB (i := 1) rfl rfl rfl sz31 rfl rfl rfl rfl (all1 rfl (all1 rfl (all1 rfl (all1 rfl (all1 rfl (all1 rfl (all1 rfl all0))))))) H rfl rfl rfl fun w15 H => ?_
        refine WL.nil ?_
        refine CW.ret ?_
        have H := H.nilG (α := Expr) 31
        obtain rfl := sm hr
        exact ⟨_, resC rfl ag31 sz31 rfl rfl (At.blk (H.rB (i := 1) rfl)) rfl, H.chg, _, _, _, rfl, (by decide : I64 2), (by decide : I64 0), (by decide : I64 0), (by decide : I64 0), (by decide : (⟨#[]⟩ : ByteArray).size ≤ 9223372036854775807), (by decide : (⟨#[]⟩ : ByteArray).size ≤ 9223372036854775807), hI24, hI25, H.outM (fr' := []) [true, false, true] fun _ _ => trivial⟩
      · skip
        have hr := ifn h5 hr
        refine CW.skip ?_
        refine CW.seq (CW.seq (CW.reg ?_))
        refine WL.ev rfl rfl (Ev.mv rfl rfl) ?_
        obtain ⟨⟨y10, z10⟩, hy10, hr⟩ := bd hr
        obtain ⟨F', M', hfF, hoF, hcM⟩ := H.callN [true, false] ⟨noB, trivial⟩
        obtain ⟨H', hcN⟩ := hcM (ps := [Pr.S o0.b (.slice Ao0_0 no0_0 co0_0)]) ⟨hfF.get (i := 0) rfl, trivial⟩
        refine WL.call rfl rfl rfl rfl rfl ok97 rfl (sl1Once_ok hy10 (by decide : I64 6) hI24 hI25 H') ?_
        rintro _ w16 hE ⟨rfl, hI26, hI27, H'⟩
        have H := hcN 1 H' rfl ⟨fun _ _ _ _ _ h => h, trivial⟩
        refine WL.nil ?_
        refine CW.condB rfl (fun h6 => ?_) (fun h6 => ?_)
        · skip
          have hr := ifp h6 hr
          refine CW.seq (CW.reg ?_)
          refine WL.ev rfl rfl (Ev.mv rfl rfl) ?_
          obtain ⟨⟨y11, z11⟩, hy11, hr⟩ := bd hr
          obtain ⟨F', M', hfF, hoF, hcM⟩ := H.callN [true, false] ⟨noB, trivial⟩
          obtain ⟨H', hcN⟩ := hcM (ps := [Pr.S o0.b (.slice Ao0_0 no0_0 co0_0)]) ⟨hfF.get (i := 0) rfl, trivial⟩
          refine WL.call rfl rfl rfl rfl rfl ok86 rfl (sl1Below_ok hy11 (by decide : I64 4) hI26 hI27 H') ?_
          rintro _ w17 hE ⟨rfl, hI28, hI29, hI30, H'⟩
          have H := hcN 1 H' rfl ⟨fun _ _ _ _ _ h => h, trivial⟩
          refine WL.ev rfl rfl (Ev.build rfl pl31 ze31 rfl rfl rfl rfl) ?_
          refine WL.stB (i := 1) rfl rfl rfl sz31 rfl rfl rfl rfl (all1 rfl (all1 rfl (all1 rfl (all1 rfl (all1 rfl (all1 rfl (all1 rfl all0))))))) H rfl rfl rfl fun w18 H => ?_
          refine WL.nil ?_
          refine CW.ret ?_
          have H := H.nilG (α := Expr) 31
          obtain rfl := sm hr
          exact ⟨_, resC rfl ag31 sz31 rfl rfl (At.blk (H.rB (i := 1) rfl)) rfl, H.chg, _, _, _, rfl, (by decide : I64 6), (by decide : I64 0), hI28, (by decide : I64 0), (by decide : (⟨#[]⟩ : ByteArray).size ≤ 9223372036854775807), (by decide : (⟨#[]⟩ : ByteArray).size ≤ 9223372036854775807), hI29, hI30, H.outM (fr' := []) [true, false, true] fun _ _ => trivial⟩
        · skip
          have hr := ifn h6 hr
          refine CW.skip ?_
          refine CW.seq (CW.reg ?_)
          refine WL.ev rfl rfl (Ev.mv rfl rfl) (WL.ev rfl rfl (Ev.mv rfl rfl) ?_)
          obtain ⟨⟨y12, z12⟩, hy12, hr⟩ := bd hr
          obtain ⟨F', M', hfF, hoF, hcM⟩ := H.callN [true, false] ⟨noB, trivial⟩
          obtain ⟨H', hcN⟩ := hcM (ps := [Pr.S o0.b (.slice Ao0_0 no0_0 co0_0)]) ⟨hfF.get (i := 0) rfl, trivial⟩
          refine WL.call rfl rfl rfl rfl rfl ok86 rfl (sl1Below_ok hy12 (by decide : I64 4) hI26 hI27 H') ?_
          rintro _ w19 hE ⟨rfl, hI31, hI32, hI33, H'⟩
          have H := hcN 1 H' rfl ⟨fun _ _ _ _ _ h => h, trivial⟩
          obtain ⟨hg2, hr⟩ := grd_some hr
          refine WL.ev rfl rfl (Ev.bin rfl rfl rfl (Bin.add hg2)) (WL.ev rfl rfl (Ev.mv rfl rfl) ?_)
          obtain ⟨⟨y13, z13⟩, hy13, hr⟩ := bd hr
          obtain ⟨F', M', hfF, hoF, hcM⟩ := H.callN [true, false] ⟨noB, trivial⟩
          obtain ⟨H', hcN⟩ := hcM (ps := [Pr.S o0.b (.slice Ao0_0 no0_0 co0_0)]) ⟨hfF.get (i := 0) rfl, trivial⟩
          refine WL.call rfl rfl rfl rfl rfl ok86 rfl (sl1Below_ok hy13 (by decide : I64 4) hI32 hI33 H') ?_
          rintro _ w20 hE ⟨rfl, hI34, hI35, hI36, H'⟩
          have H := hcN 1 H' rfl ⟨fun _ _ _ _ _ h => h, trivial⟩
          refine WL.ev rfl rfl (Ev.mv rfl rfl) ?_
          obtain ⟨⟨y14, z14⟩, hy14, hr⟩ := bd hr
          obtain ⟨F', M', hfF, hoF, hcM⟩ := H.callN [true, false] ⟨noB, trivial⟩
          obtain ⟨H', hcN⟩ := hcM (ps := [Pr.S o0.b (.slice Ao0_0 no0_0 co0_0)]) ⟨hfF.get (i := 0) rfl, trivial⟩
          refine WL.call rfl rfl rfl rfl rfl ok145 rfl (sl2Name_ok hy14 hI35 hI36 H') ?_
          rintro _ w21 hE ⟨rfl, hS4, hI37, hI38, H'⟩
          have H := hcN 1 H' rfl ⟨fun _ _ _ _ _ h => h, trivial⟩
          refine WL.ev rfl rfl (Ev.build rfl pl48 ze48 rfl rfl rfl rfl) ?_
          refine WL.litK (xs := [(⟨y13, y14⟩ : Occurrence)]) (vs := [.agg #[.int .i64 y13, .string y14]]) (css := [[.int .i64 y13, .string y14]]) rfl rfl rfl el33 sz48 ze48 rfl rfl ⟨rfl, rfl, trivial⟩ rfl rfl rfl rfl (fun _ => (ownL.consK (α := Occurrence) ⟨rfl, hI34, hS4, rfl⟩ ⟨rfl, rfl⟩)) rfl rfl H fun A3 n3 c3 w22 H => ?_
          obtain ⟨⟨y15, z15⟩, hy15, hr⟩ := bd hr
          obtain ⟨F', M', hfF, hoF, hcM⟩ := H.callN [true, false, false] ⟨noB, trivial⟩
          obtain ⟨H', hcN⟩ := hcM (ps := [Pr.S [(⟨y13, y14⟩ : Occurrence)] (.slice A3 n3 c3), Pr.S o0.b (.slice Ao0_0 no0_0 co0_0)]) ⟨roO (hoF 1 _ rfl), hfF.get (i := 0) rfl, trivial⟩
          refine WL.call rfl rfl rfl rfl rfl ok186 rfl (sl4Leaf_ok hy15 hg2 hI37 hI38 H') ?_
          rintro _ w23 hE ⟨A4, n4, c4, rfl, hI39, hI40, hI41, hI42, hS5, hS6, hI43, hI44, H'⟩
          have H := hcN 1 H' rfl ⟨fun _ _ _ _ _ h => h, ⟨fun _ _ _ _ _ h => h, trivial⟩⟩
          refine WL.stB (i := 1) rfl rfl rfl sz31 rfl rfl rfl rfl (all1 rfl (all1 rfl (all1 rfl (all1 rfl (all1 rfl (all1 rfl (all1 rfl all0))))))) H rfl rfl rfl fun w24 H => ?_
          refine WL.nil ?_
          refine CW.ret ?_
          have H := H.toG (i := 3) rfl
          obtain rfl := sm hr
          exact ⟨_, resC rfl ag31 sz31 rfl rfl (At.blk (H.rB (i := 1) rfl)) rfl, H.chg, _, _, _, rfl, hI39, hI40, hI41, hI42, hS5, hS6, hI43, hI44, H.outM (fr' := []) [true, false, false, true] fun _ _ => trivial⟩
    · skip
      have hr := ifn h4 hr
      refine CW.skip ?_
      refine CW.seq (CW.seq (CW.reg ?_))
      refine WL.ev rfl rfl (Ev.mv rfl rfl) ?_
      obtain ⟨⟨y16, z16⟩, hy16, hr⟩ := bd hr
      obtain ⟨F', M', hfF, hoF, hcM⟩ := H.callN [true, false] ⟨noB, trivial⟩
      obtain ⟨H', hcN⟩ := hcM (ps := [Pr.S o0.b (.slice Ao0_0 no0_0 co0_0)]) ⟨hfF.get (i := 0) rfl, trivial⟩
      refine WL.call rfl rfl rfl rfl rfl ok86 rfl (sl1Below_ok hy16 (by decide : I64 5) hI22 hI23 H') ?_
      rintro _ w25 hE ⟨rfl, hI45, hI46, hI47, H'⟩
      have H := hcN 1 H' rfl ⟨fun _ _ _ _ _ h => h, trivial⟩
      refine WL.nil ?_
      refine CW.block (CW.seq (CW.reg ?_))
      refine WL.ev rfl rfl (Ev.bin rfl rfl rfl Bin.eql) (WL.ev rfl rfl (Ev.as rfl rfl) (WL.nil ?_))
      refine CW.condD rfl (fun h7 => ?_) (fun h7 => ?_)
      · skip
        have hr := ifp h7 hr
        refine CW.seq (CW.reg ?_)
        refine WL.ev rfl rfl (Ev.mv rfl rfl) (WL.ev rfl rfl (Ev.mv rfl rfl) ?_)
        obtain ⟨hg3, hr⟩ := grd_some hr
        refine WL.ev rfl rfl (Ev.bin rfl rfl rfl (Bin.sub hg3)) ?_
        obtain ⟨⟨y17, z17⟩, hy17, hr⟩ := bd hr
        obtain ⟨F', M', hfF, hcM⟩ := H.callW [true, false] ⟨noB, trivial⟩
        obtain ⟨H', hcN⟩ := hcM (ps := [Pr.S o0.b (.slice Ao0_0 no0_0 co0_0)]) ⟨hfF.get (i := 0) rfl, trivial⟩
        refine WL.call rfl rfl rfl rfl rfl ok169 rfl (ih_sl4Free hy17 hg3 hI46 hI47 H') ?_
        rintro _ w26 hE ⟨A5, n5, c5, rfl, hI48, hI49, hI50, hI51, hS7, hS8, hI52, hI53, H'⟩
        have H := hcN 1 H' rfl
        refine WL.ev rfl rfl (Ev.mv rfl rfl) (WL.ev rfl rfl (Ev.mv rfl rfl) ?_)
        obtain ⟨hg4, hr⟩ := grd_some hr
        refine WL.ev rfl rfl (Ev.bin rfl rfl rfl (Bin.sub hg4)) ?_
        obtain ⟨⟨y18, z18⟩, hy18, hr⟩ := bd hr
        obtain ⟨F', M', hfF, hcM⟩ := H.callW [true, false, false] ⟨noB, trivial⟩
        obtain ⟨H', hcN⟩ := hcM (ps := [Pr.S o0.b (.slice Ao0_0 no0_0 co0_0)]) ⟨hfF.get (i := 0) rfl, trivial⟩
        refine WL.call rfl rfl rfl rfl rfl ok169 rfl (ih_sl4Free hy18 hg4 hI52 hI53 H') ?_
        rintro _ w27 hE ⟨A6, n6, c6, rfl, hI54, hI55, hI56, hI57, hS9, hS10, hI58, hI59, H'⟩
        have H := hcN 1 H' rfl
        refine WL.ev rfl rfl (Ev.mv rfl rfl) (WL.ev rfl rfl (Ev.mv rfl rfl) ?_)
        obtain ⟨hg5, hr⟩ := grd_some hr
        refine WL.ev rfl rfl (Ev.bin rfl rfl rfl (Bin.sub hg5)) ?_
        obtain ⟨⟨y19, z19⟩, hy19, hr⟩ := bd hr
        obtain ⟨F', M', hfF, hcM⟩ := H.callW [true, false, false, false] ⟨noB, trivial⟩
        obtain ⟨H', hcN⟩ := hcM (ps := [Pr.S o0.b (.slice Ao0_0 no0_0 co0_0)]) ⟨hfF.get (i := 0) rfl, trivial⟩
        refine WL.call rfl rfl rfl rfl rfl ok169 rfl (ih_sl4Free hy19 hg5 hI58 hI59 H') ?_
        rintro _ w28 hE ⟨A7, n7, c7, rfl, hI60, hI61, hI62, hI63, hS11, hS12, hI64, hI65, H'⟩
        have H := hcN 1 H' rfl
        have H := H.frzG (i := 2) rfl
        have H := H.frzG (i := 3) rfl
        have H := H.frzG (i := 4) rfl
        refine WL.litG (xs := [y17, y18, y19]) (vs := [.agg #[.int .i64 y17.Kind, .int .i64 y17.N, .int .i64 y17.Pos, .int .i64 y17.Type_, .string y17.Symbol, .string y17.Name, .slice A5 n5 c5], .agg #[.int .i64 y18.Kind, .int .i64 y18.N, .int .i64 y18.Pos, .int .i64 y18.Type_, .string y18.Symbol, .string y18.Name, .slice A6 n6 c6], .agg #[.int .i64 y19.Kind, .int .i64 y19.N, .int .i64 y19.Pos, .int .i64 y19.Type_, .string y19.Symbol, .string y19.Name, .slice A7 n7 c7]]) (css := [[.int .i64 y17.Kind, .int .i64 y17.N, .int .i64 y17.Pos, .int .i64 y17.Type_, .string y17.Symbol, .string y17.Name, .slice A5 n5 c5], [.int .i64 y18.Kind, .int .i64 y18.N, .int .i64 y18.Pos, .int .i64 y18.Type_, .string y18.Symbol, .string y18.Name, .slice A6 n6 c6], [.int .i64 y19.Kind, .int .i64 y19.N, .int .i64 y19.Pos, .int .i64 y19.Type_, .string y19.Symbol, .string y19.Name, .slice A7 n7 c7]]) rfl rfl rfl el29 sz31 ze31 rfl rfl ⟨rfl, rfl, ⟨rfl, rfl, ⟨rfl, rfl, trivial⟩⟩⟩ rfl rfl rfl rfl (fun F hF => (rdL.consK (α := Expr) (Expr_rd.2 ⟨_, rfl, hI48, hI49, hI50, hI51, hS7, hS8, (hF.get (i := 1) rfl)⟩) (rdL.consK (α := Expr) (Expr_rd.2 ⟨_, rfl, hI54, hI55, hI56, hI57, hS9, hS10, (hF.get (i := 2) rfl)⟩) (rdL.consK (α := Expr) (Expr_rd.2 ⟨_, rfl, hI60, hI61, hI62, hI63, hS11, hS12, (hF.get (i := 3) rfl)⟩) rfl)))) rfl rfl H fun A8 n8 c8 w29 H => ?_
        refine WL.ev rfl rfl (Ev.build rfl pl31 ze31 rfl rfl rfl rfl) ?_
        refine WL.stB (i := 1) rfl rfl rfl sz31 rfl rfl rfl rfl (all1 rfl (all1 rfl (all1 rfl (all1 rfl (all1 rfl (all1 rfl (all1 rfl all0))))))) H rfl rfl rfl fun w30 H => ?_
        refine WL.nil ?_
        refine CW.ret ?_
        obtain rfl := sm hr
        exact ⟨_, resC rfl ag31 sz31 rfl rfl (At.blk (H.rB (i := 1) rfl)) rfl, H.chg, _, _, _, rfl, (by decide : I64 5), (by decide : I64 0), (by decide : I64 0), (by decide : I64 0), (by decide : (⟨#[]⟩ : ByteArray).size ≤ 9223372036854775807), (by decide : (⟨#[]⟩ : ByteArray).size ≤ 9223372036854775807), hI64, hI65, H.outM (fr' := []) [true, false, false, false, false, true] fun _ _ => trivial⟩
      · skip
        have hr := ifn h7 hr
        refine CW.seq (CW.reg ?_)
        refine WL.ev rfl rfl (Ev.bin rfl rfl rfl Bin.eql) (WL.ev rfl rfl (Ev.as rfl rfl) (WL.nil ?_))
        refine CW.condD rfl (fun h8 => ?_) (fun h8 => ?_)
        · skip
          have hr := ifp h8 hr
          refine CW.seq (CW.reg ?_)
          refine WL.ev rfl rfl (Ev.mv rfl rfl) ?_
          refine WL.litN (xs := [(⟨#[115]⟩ : ByteArray), (⟨#[116]⟩ : ByteArray)]) rfl rfl rfl el82 sz9 ze9 rfl (ball1 rfl (ball1 rfl ball0)) rfl rfl rfl (fun _ => (ownL.cons1 (α := ByteArray) ⟨rfl, rfl, (by decide : (⟨#[115]⟩ : ByteArray).size ≤ 9223372036854775807)⟩ (ownL.cons1 (α := ByteArray) ⟨rfl, rfl, (by decide : (⟨#[116]⟩ : ByteArray).size ≤ 9223372036854775807)⟩ ⟨rfl, rfl⟩))) rfl H fun A9 n9 c9 w31 H => ?_
          obtain ⟨⟨y20, z20⟩, hy20, hr⟩ := bd hr
          obtain ⟨F', M', hfF, hoF, hcM⟩ := H.callN [true, false, false] ⟨noB, trivial⟩
          obtain ⟨H', hcN⟩ := hcM (ps := [Pr.S [(⟨#[115]⟩ : ByteArray), (⟨#[116]⟩ : ByteArray)] (.slice A9 n9 c9), Pr.S o0.b (.slice Ao0_0 no0_0 co0_0)]) ⟨roO (hoF 1 _ rfl), hfF.get (i := 0) rfl, trivial⟩
          refine WL.call rfl rfl rfl rfl rfl ok144 rfl (sl1Pick_ok hy20 hI46 hI47 H') ?_
          rintro _ w32 hE ⟨rfl, hS13, hI66, hI67, H'⟩
          have H := hcN 1 H' rfl ⟨fun _ _ _ _ _ h => h, trivial⟩
          refine WL.ev rfl rfl (Ev.mv rfl rfl) ?_
          obtain ⟨⟨y21, z21⟩, hy21, hr⟩ := bd hr
          obtain ⟨F', M', hfF, hoF, hcM⟩ := H.callN [true, false, false] ⟨noB, trivial⟩
          obtain ⟨H', hcN⟩ := hcM (ps := [Pr.S o0.b (.slice Ao0_0 no0_0 co0_0)]) ⟨hfF.get (i := 0) rfl, trivial⟩
          refine WL.call rfl rfl rfl rfl rfl ok145 rfl (sl2Name_ok hy21 hI66 hI67 H') ?_
          rintro _ w33 hE ⟨rfl, hS14, hI68, hI69, H'⟩
          have H := hcN 1 H' rfl ⟨fun _ _ _ _ _ h => h, trivial⟩
          refine WL.ev rfl rfl (Ev.mv rfl rfl) (WL.ev rfl rfl (Ev.mv rfl rfl) ?_)
          obtain ⟨hg6, hr⟩ := grd_some hr
          refine WL.ev rfl rfl (Ev.bin rfl rfl rfl (Bin.sub hg6)) ?_
          obtain ⟨⟨y22, z22⟩, hy22, hr⟩ := bd hr
          obtain ⟨F', M', hfF, hcM⟩ := H.callW [true, false, false] ⟨noB, trivial⟩
          obtain ⟨H', hcN⟩ := hcM (ps := [Pr.S o0.b (.slice Ao0_0 no0_0 co0_0)]) ⟨hfF.get (i := 0) rfl, trivial⟩
          refine WL.call rfl rfl rfl rfl rfl ok169 rfl (ih_sl4Free hy22 hg6 hI68 hI69 H') ?_
          rintro _ w34 hE ⟨A10, n10, c10, rfl, hI70, hI71, hI72, hI73, hS15, hS16, hI74, hI75, H'⟩
          have H := hcN 1 H' rfl
          have H := H.frzG (i := 3) rfl
          refine WL.litG (xs := [y22]) (vs := [.agg #[.int .i64 y22.Kind, .int .i64 y22.N, .int .i64 y22.Pos, .int .i64 y22.Type_, .string y22.Symbol, .string y22.Name, .slice A10 n10 c10]]) (css := [[.int .i64 y22.Kind, .int .i64 y22.N, .int .i64 y22.Pos, .int .i64 y22.Type_, .string y22.Symbol, .string y22.Name, .slice A10 n10 c10]]) rfl rfl rfl el29 sz31 ze31 rfl rfl ⟨rfl, rfl, trivial⟩ rfl rfl rfl rfl (fun F hF => (rdL.consK (α := Expr) (Expr_rd.2 ⟨_, rfl, hI70, hI71, hI72, hI73, hS15, hS16, (hF.get (i := 1) rfl)⟩) rfl)) rfl rfl H fun A11 n11 c11 w35 H => ?_
          refine WL.ev rfl rfl (Ev.build rfl pl31 ze31 rfl rfl rfl rfl) ?_
          refine WL.stB (i := 1) rfl rfl rfl sz31 rfl rfl rfl rfl (all1 rfl (all1 rfl (all1 rfl (all1 rfl (all1 rfl (all1 rfl (all1 rfl all0))))))) H rfl rfl rfl fun w36 H => ?_
          refine WL.nil ?_
          refine CW.ret ?_
          obtain rfl := sm hr
          exact ⟨_, resC rfl ag31 sz31 rfl rfl (At.blk (H.rB (i := 1) rfl)) rfl, H.chg, _, _, _, rfl, (by decide : I64 8), (by decide : I64 0), (by decide : I64 0), (by decide : I64 0), hS13, hS14, hI74, hI75, H.outM (fr' := []) [true, false, false, false, true] fun _ _ => trivial⟩
        · skip
          have hr := ifn h8 hr
          refine CW.skip ?_
          refine CW.seq (CW.reg ?_)
          refine WL.ev rfl rfl (Ev.mv rfl rfl) ?_
          obtain ⟨⟨y23, z23⟩, hy23, hr⟩ := bd hr
          obtain ⟨F', M', hfF, hoF, hcM⟩ := H.callN [true, false] ⟨noB, trivial⟩
          obtain ⟨H', hcN⟩ := hcM (ps := [Pr.S o0.b (.slice Ao0_0 no0_0 co0_0)]) ⟨hfF.get (i := 0) rfl, trivial⟩
          refine WL.call rfl rfl rfl rfl rfl ok86 rfl (sl1Below_ok hy23 (by decide : I64 12) hI46 hI47 H') ?_
          rintro _ w37 hE ⟨rfl, hI76, hI77, hI78, H'⟩
          have H := hcN 1 H' rfl ⟨fun _ _ _ _ _ h => h, trivial⟩
          obtain ⟨hg7, hr⟩ := grd_some hr
          refine WL.ev rfl rfl (Ev.bin rfl rfl rfl (Bin.add hg7)) (WL.ev rfl rfl (Ev.mv rfl rfl) (WL.ev rfl rfl (Ev.mv rfl rfl) ?_))
          obtain ⟨hg8, hr⟩ := grd_some hr
          refine WL.ev rfl rfl (Ev.bin rfl rfl rfl (Bin.sub hg8)) ?_
          obtain ⟨⟨y24, z24⟩, hy24, hr⟩ := bd hr
          obtain ⟨F', M', hfF, hcM⟩ := H.callW [true, false] ⟨noB, trivial⟩
          obtain ⟨H', hcN⟩ := hcM (ps := [Pr.S o0.b (.slice Ao0_0 no0_0 co0_0)]) ⟨hfF.get (i := 0) rfl, trivial⟩
          refine WL.call rfl rfl rfl rfl rfl ok169 rfl (ih_sl4Free hy24 hg8 hI77 hI78 H') ?_
          rintro _ w38 hE ⟨A12, n12, c12, rfl, hI79, hI80, hI81, hI82, hS17, hS18, hI83, hI84, H'⟩
          have H := hcN 1 H' rfl
          refine WL.ev rfl rfl (Ev.mv rfl rfl) (WL.ev rfl rfl (Ev.mv rfl rfl) ?_)
          obtain ⟨hg9, hr⟩ := grd_some hr
          refine WL.ev rfl rfl (Ev.bin rfl rfl rfl (Bin.sub hg9)) ?_
          obtain ⟨⟨y25, z25⟩, hy25, hr⟩ := bd hr
          obtain ⟨F', M', hfF, hcM⟩ := H.callW [true, false, false] ⟨noB, trivial⟩
          obtain ⟨H', hcN⟩ := hcM (ps := [Pr.S o0.b (.slice Ao0_0 no0_0 co0_0)]) ⟨hfF.get (i := 0) rfl, trivial⟩
          refine WL.call rfl rfl rfl rfl rfl ok169 rfl (ih_sl4Free hy25 hg9 hI83 hI84 H') ?_
          rintro _ w39 hE ⟨A13, n13, c13, rfl, hI85, hI86, hI87, hI88, hS19, hS20, hI89, hI90, H'⟩
          have H := hcN 1 H' rfl
          have H := H.frzG (i := 2) rfl
          have H := H.frzG (i := 3) rfl
          obtain ⟨y26, hy26, hr⟩ := bd hr
          obtain ⟨F, hF, hcl⟩ := H.call
          refine WL.call rfl rfl rfl rfl rfl ok99 rfl (sl4Op_ok hy26 hg7 (Expr_rd.2 ⟨_, rfl, hI79, hI80, hI81, hI82, hS17, hS18, (hF.get (i := 1) rfl)⟩) (Expr_rd.2 ⟨_, rfl, hI85, hI86, hI87, hI88, hS19, hS20, (hF.get (i := 2) rfl)⟩)) ?_
          rintro _ w40 hE ⟨A14, n14, c14, rfl, hI91, hI92, hI93, hI94, hS21, hS22, H'⟩
          have H : HL F0 M w0 w40 [Pr.S o0.b (.slice Ao0_0 no0_0 co0_0), Pr.S y24.Args (.slice A12 n12 c12), Pr.S y25.Args (.slice A13 n13 c13)] [It.B bo0 159 [.slice Ao0_0 no0_0 co0_0, .int .i64 z25.i, .int .i64 z25.h], It.B b1 31 [.int .i64 0, .int .i64 0, .int .i64 0, .int .i64 0, .string (⟨#[]⟩ : ByteArray), .string (⟨#[]⟩ : ByteArray), .slice none 0 0], It.emp, It.emp, It.G 31 y26.Args (.slice A14 n14 c14)] := hcl H'
          refine WL.stB (i := 1) rfl rfl rfl sz31 rfl rfl rfl rfl (all1 rfl (all1 rfl (all1 rfl (all1 rfl (all1 rfl (all1 rfl (all1 rfl all0))))))) H rfl rfl rfl fun w41 H => ?_
          refine WL.nil ?_
          refine CW.ret ?_
          obtain rfl := sm hr
          exact ⟨_, resC rfl ag31 sz31 rfl rfl (At.blk (H.rB (i := 1) rfl)) rfl, H.chg, _, _, _, rfl, hI91, hI92, hI93, hI94, hS21, hS22, hI89, hI90, H.outM (fr' := []) [true, false, false, false, true] fun _ _ => trivial⟩
noncomputable def sl4Free_n : Nat → Int → l1Cur → Option (Expr × l1Cur)
  | 0, _, _ => none
  | n + 1, a1, o0 => sl4Free_B (sl4Free_n n) a1 o0
noncomputable def sl4Free_m (a1 : Int) (o0 : l1Cur) : Option (Expr × l1Cur) := recO fun n => sl4Free_n n a1 o0
theorem sl4Free_okn (n : Nat) : ∀ {a1 : Int} {o0 : l1Cur} {r : (Expr × l1Cur)}, sl4Free_n n a1 o0 = some r → ∀ {F0 : Nat → Prop} {M : List Nat} {w0 : World} {bo0 : Nat} {Ao0_0 : Option Addr} {no0_0 co0_0 : Nat} (hIa1 : I64 a1) (hIo0_1 : I64 o0.i) (hIo0_2 : I64 o0.h) (H : HL F0 M w0 w0 [Pr.S o0.b (.slice Ao0_0 no0_0 co0_0)] [It.B bo0 159 [.slice Ao0_0 no0_0 co0_0, .int .i64 o0.i, .int .i64 o0.h]]), Ret Try.prog 169 #[.pointer (some ⟨bo0, 0, none⟩), .int .i64 a1] w0 (· ∈ M) fun v w => ∃ A0 : Option Addr, ∃ n0 c0 : Nat, v = .agg #[.int .i64 r.1.Kind, .int .i64 r.1.N, .int .i64 r.1.Pos, .int .i64 r.1.Type_, .string r.1.Symbol, .string r.1.Name, (.slice A0 n0 c0)] ∧ I64 r.1.Kind ∧ I64 r.1.N ∧ I64 r.1.Pos ∧ I64 r.1.Type_ ∧ r.1.Symbol.size ≤ 9223372036854775807 ∧ r.1.Name.size ≤ 9223372036854775807 ∧ I64 r.2.i ∧ I64 r.2.h ∧ HL F0 M w0 w [] [It.B bo0 159 [.slice Ao0_0 no0_0 co0_0, .int .i64 r.2.i, .int .i64 r.2.h], It.G 31 r.1.Args (.slice A0 n0 c0)] := by
  induction n with
  | zero => intro a1 o0 r hr; exact nomatch (show (none : Option (Expr × l1Cur)) = some r from hr)
  | succ n ih => intro a1 o0 r hr; exact sl4Free_okB ih hr
theorem sl4Free_ok {a1 : Int} {o0 : l1Cur} {r : (Expr × l1Cur)} (hr : sl4Free_m a1 o0 = some r) {F0 : Nat → Prop} {M : List Nat} {w0 : World} {bo0 : Nat} {Ao0_0 : Option Addr} {no0_0 co0_0 : Nat} (hIa1 : I64 a1) (hIo0_1 : I64 o0.i) (hIo0_2 : I64 o0.h) (H : HL F0 M w0 w0 [Pr.S o0.b (.slice Ao0_0 no0_0 co0_0)] [It.B bo0 159 [.slice Ao0_0 no0_0 co0_0, .int .i64 o0.i, .int .i64 o0.h]]) :
    Ret Try.prog 169 #[.pointer (some ⟨bo0, 0, none⟩), .int .i64 a1] w0 (· ∈ M) fun v w => ∃ A0 : Option Addr, ∃ n0 c0 : Nat, v = .agg #[.int .i64 r.1.Kind, .int .i64 r.1.N, .int .i64 r.1.Pos, .int .i64 r.1.Type_, .string r.1.Symbol, .string r.1.Name, (.slice A0 n0 c0)] ∧ I64 r.1.Kind ∧ I64 r.1.N ∧ I64 r.1.Pos ∧ I64 r.1.Type_ ∧ r.1.Symbol.size ≤ 9223372036854775807 ∧ r.1.Name.size ≤ 9223372036854775807 ∧ I64 r.2.i ∧ I64 r.2.h ∧ HL F0 M w0 w [] [It.B bo0 159 [.slice Ao0_0 no0_0 co0_0, .int .i64 r.2.i, .int .i64 r.2.h], It.G 31 r.1.Args (.slice A0 n0 c0)] := by
  obtain ⟨n, hn⟩ := recO_some hr
  exact sl4Free_okn n hn hIa1 hIo0_1 hIo0_2 H

noncomputable def sl4Left_L1 (rec_sl4Left : Expr → Int → Option Int) (a0 : Expr) : (Int × Int) → Option ((Int × Int) ⊕ Int) := fun (s2, s3) => 
  if s3 < (a0.Args.length : Int) then (
  if 0 ≤ s2 then (
  grd (0 ≤ s3) <|
  (a0.Args[s3.toNat]?).bind fun x1 =>
  (rec_sl4Left x1 s2).bind fun y1 =>
  grd (I64 (s3 + 1)) <|
  some (.inl (y1, (s3 + 1)))
  ) else (
  some (.inr s2)
  )
  ) else (
  some (.inr s2)
  )
noncomputable def sl4Left_B (rec_sl4Left : Expr → Int → Option Int) (a0 : Expr) (a1 : Int) : Option Int :=
  grd (I64 (a1 - 1)) <|
  (
  iterO (sl4Left_L1 rec_sl4Left a0) ((a1 - 1), 0)
  ).bind fun s1 =>
  some s1
theorem sl4Left_okB {rec_sl4Left : Expr → Int → Option Int} (ih_sl4Left : ∀ {a0 : Expr} {a1 : Int} {r : Int}, rec_sl4Left a0 a1 = some r → ∀ {F0 : Nat → Prop} {w0 : World} {ca0 : List Value} (ha0 : rd F0 w0 a0 ca0) (ha1 : I64 a1), Ret Try.prog 94 #[.agg ca0.toArray, .int .i64 a1] w0 (fun _ => False) fun v w => v = .int .i64 r ∧ I64 r) {a0 : Expr} {a1 : Int} {r : Int} (hr : sl4Left_B rec_sl4Left a0 a1 = some r) {F0 : Nat → Prop} {w0 : World} {ca0 : List Value} (ha0 : rd F0 w0 a0 ca0) (ha1 : I64 a1) :
    Ret Try.prog 94 #[.agg ca0.toArray, .int .i64 a1] w0 (fun _ => False) fun v w => v = .int .i64 r ∧ I64 r := by
  have H := (HL.start F0 w0).argR ha0
  obtain ⟨A1, n1, c1, rfl, hI1, hI2, hI3, hI4, hS1, hS2, H⟩ := op_Expr H (i := 0) rfl
  refine enter Try.func94 rfl rfl rfl ?_
  refine CW.seq (CW.reg ?_)
  refine WL.boxH rfl rfl rfl rfl rfl H fun b1 w1 H => ?_
  refine WL.ev rfl rfl (Ev.as rfl rfl) (WL.nil ?_)
  refine CW.seq (CW.reg ?_)
  refine WL.ev rfl rfl (Ev.mv rfl rfl) ?_
  obtain ⟨hg1, hr⟩ := grd_some hr
  refine WL.ev rfl rfl (Ev.bin rfl rfl rfl (Bin.sub hg1)) (WL.ev rfl rfl (Ev.as rfl rfl) (WL.nil ?_))
  refine CW.seq (CW.seq (CW.reg ?_))
  refine WL.ev rfl rfl (Ev.as rfl rfl) (WL.nil ?_)
  obtain ⟨q1, hm1, hr⟩ := bd hr
  refine CW.mid (fun ρ' w => ∃ (s1 : Int), s1 = q1 ∧ agree ρ' [(1, .int .i64 s1)] ∧ I64 s1 ∧ HL F0 [] w0 w [Pr.R a0 [.int .i64 a0.Kind, .int .i64 a0.N, .int .i64 a0.Pos, .int .i64 a0.Type_, .string a0.Symbol, .string a0.Name, .slice A1 n1 c1], Pr.S a0.Args (.slice A1 n1 c1)] [It.B b1 31 [.int .i64 a0.Kind, .int .i64 a0.N, .int .i64 a0.Pos, .int .i64 a0.Type_, .string a0.Symbol, .string a0.Name, .slice A1 n1 c1]]) ?_ ?_
  · skip
    obtain ⟨m1, hq1⟩ := iterO_some.1 hm1
    refine CW.block (CW.loop (α := Nat × Int × Int) (fun ⟨m1, s2, s3⟩ => [(1, .int .i64 s2), (2, .pointer (some ⟨b1, 0, none⟩)), (5, .int .i64 s3)]) (fun ⟨m1, s2, s3⟩ w => iterN (sl4Left_L1 rec_sl4Left a0) m1 (s2, s3) = some q1 ∧ I64 s2 ∧ I64 s3 ∧ HL F0 [] w0 w [Pr.R a0 [.int .i64 a0.Kind, .int .i64 a0.N, .int .i64 a0.Pos, .int .i64 a0.Type_, .string a0.Symbol, .string a0.Name, .slice A1 n1 c1], Pr.S a0.Args (.slice A1 n1 c1)] [It.B b1 31 [.int .i64 a0.Kind, .int .i64 a0.N, .int .i64 a0.Pos, .int .i64 a0.Type_, .string a0.Symbol, .string a0.Name, .slice A1 n1 c1]]) (fun ⟨m1, s2, s3⟩ => m1) ⟨m1, (a1 - 1), 0⟩ ⟨rfl, rfl, rfl, trivial⟩ ⟨hq1, hg1, (by decide : I64 0), H.keep 2 1⟩ ?_)
    rintro ⟨m1, s2, s3⟩ σ w2 ⟨hq1, hI6, hI7, H⟩
    obtain ⟨m2, z1, rfl, hb1, hs1, ht1⟩ := iterN_go hq1
    refine CW.seq (CW.seq (CW.reg ?_))
    refine WL.ev rfl rfl (Ev.mv rfl rfl) (WL.ev rfl rfl (Ev.fa rfl fo31_6 rfl) (WL.ev rfl rfl (Ev.ld rfl ag29 rfl ((H.rB (i := 0) rfl).cell rfl)) ?_))
    have hl1 := (H.rS (i := 1) rfl).I
    refine WL.ev rfl rfl (Ev.lenV rfl el29 rfl (H.rS (i := 1) rfl)) (WL.ev rfl rfl (Ev.bin rfl rfl rfl Bin.lss) ?_)
    refine WL.mvD rfl rfl rfl rfl (fun h1 => ?_) (fun h1 => ?_)
    · skip
      have hb1 := ifp h1 hb1
      refine WL.on rfl rfl (WL.ev rfl rfl (Ev.mv rfl rfl) (WL.on rfl rfl (WL.ev rfl rfl (Ev.bin rfl rfl rfl Bin.geq) (WL.ev rfl rfl (Ev.pickT rfl rfl rfl) (WL.nil ?_)))))
      refine CW.condD rfl (fun h2 => ?_) (fun h2 => ?_)
      · skip
        have hb1 := ifp h2 hb1
        refine CW.skip ?_
        refine CW.seq (CW.block (CW.reg ?_))
        refine WL.ev rfl rfl (Ev.fa rfl fo31_6 rfl) (WL.ev rfl rfl (Ev.ld rfl ag29 rfl ((H.rB (i := 0) rfl).cell rfl)) (WL.ev rfl rfl (Ev.mv rfl rfl) ?_))
        obtain ⟨hg2, hb1⟩ := grd_some hb1
        obtain ⟨x1, hx1, hb1⟩ := bd hb1
        obtain ⟨b2, ob2, cb2, A2, n2, c2, hvb2, hI8, hI9, hI10, hI11, hS3, hS4, H⟩ := ixS_Expr H (i := 1) rfl hx1
        refine WL.ev rfl rfl (Ev.ixV rfl el29 sz31 rfl hvb2 rfl hg2 (lt_of hx1)) (WL.ev rfl rfl (Ev.lda rfl ag31 sz31 rfl (H.rA (i := 2) rfl) rfl) (WL.ev rfl rfl (Ev.mv rfl rfl) ?_))
        obtain ⟨y1, hy1, hb1⟩ := bd hb1
        refine WL.call rfl rfl rfl rfl rfl ok94 rfl (ih_sl4Left hy1 (Expr_rd.2 ⟨_, rfl, hI8, hI9, hI10, hI11, hS3, hS4, (H.rS (i := 4) rfl)⟩) hI6) ?_
        rintro _ w3 hE ⟨rfl, hI12⟩
        have H := H.ext hE
        refine WL.ev rfl rfl (Ev.as rfl rfl) (WL.nil ?_)
        refine CW.reg ?_
        refine WL.ev rfl rfl (Ev.mv rfl rfl) ?_
        obtain ⟨hg3, hb1⟩ := grd_some hb1
        refine WL.ev rfl rfl (Ev.bin rfl rfl rfl (Bin.add hg3)) (WL.ev rfl rfl (Ev.as rfl rfl) (WL.nil ?_))
        obtain rfl := sm hb1
        exact ⟨⟨m2, y1, (s3 + 1)⟩, ⟨rfl, rfl, rfl, trivial⟩, ⟨hs1 _ rfl, hI12, hg3, H.keep 2 1⟩, Nat.lt_succ_self _⟩
      · skip
        have hb1 := ifn h2 hb1
        refine CW.exit ?_
        obtain rfl := sm hb1
        obtain rfl := ht1 _ rfl
        exact ⟨s2, rfl, ⟨rfl, trivial⟩, hI6, H.keep 2 1⟩
    · skip
      have hb1 := ifn h1 hb1
      refine WL.off rfl rfl rfl (WL.off rfl rfl rfl (WL.ev rfl rfl (Ev.pickF rfl rfl rfl) (WL.nil ?_)))
      refine CW.condF rfl ?_
      refine CW.exit ?_
      obtain rfl := sm hb1
      obtain rfl := ht1 _ rfl
      exact ⟨s2, rfl, ⟨rfl, trivial⟩, hI6, H.keep 2 1⟩
  · rintro ρ' w4 ⟨s1, rfl, hag, hI5, H⟩
    obtain ⟨σ, rfl⟩ := ofL_ex hag
    refine CW.seq (CW.reg ?_)
    refine WL.ev rfl rfl (Ev.mv rfl rfl) (WL.ev rfl rfl (Ev.as rfl rfl) (WL.nil ?_))
    refine CW.ret ?_
    obtain rfl := sm hr
    exact ⟨_, res1 rfl rfl rfl, H.ext0, rfl, hI5⟩
noncomputable def sl4Left_n : Nat → Expr → Int → Option Int
  | 0, _, _ => none
  | n + 1, a0, a1 => sl4Left_B (sl4Left_n n) a0 a1
noncomputable def sl4Left_m (a0 : Expr) (a1 : Int) : Option Int := recO fun n => sl4Left_n n a0 a1
theorem sl4Left_okn (n : Nat) : ∀ {a0 : Expr} {a1 : Int} {r : Int}, sl4Left_n n a0 a1 = some r → ∀ {F0 : Nat → Prop} {w0 : World} {ca0 : List Value} (ha0 : rd F0 w0 a0 ca0) (ha1 : I64 a1), Ret Try.prog 94 #[.agg ca0.toArray, .int .i64 a1] w0 (fun _ => False) fun v w => v = .int .i64 r ∧ I64 r := by
  induction n with
  | zero => intro a0 a1 r hr; exact nomatch (show (none : Option Int) = some r from hr)
  | succ n ih => intro a0 a1 r hr; exact sl4Left_okB ih hr
theorem sl4Left_ok {a0 : Expr} {a1 : Int} {r : Int} (hr : sl4Left_m a0 a1 = some r) {F0 : Nat → Prop} {w0 : World} {ca0 : List Value} (ha0 : rd F0 w0 a0 ca0) (ha1 : I64 a1) :
    Ret Try.prog 94 #[.agg ca0.toArray, .int .i64 a1] w0 (fun _ => False) fun v w => v = .int .i64 r ∧ I64 r := by
  obtain ⟨n, hn⟩ := recO_some hr
  exact sl4Left_okn n hn ha0 ha1

noncomputable def sl1Max_m (a0 : Int) (a1 : Int) : Option Int :=
  if a1 < a0 then (
  some a0
  ) else (
  some a1
  )
theorem sl1Max_ok {a0 : Int} {a1 : Int} {r : Int} (hr : sl1Max_m a0 a1 = some r) {F0 : Nat → Prop} {w0 : World} (ha0 : I64 a0) (ha1 : I64 a1) :
    Ret Try.prog 119 #[.int .i64 a0, .int .i64 a1] w0 (fun _ => False) fun v w => v = .int .i64 r ∧ I64 r := by
  have H := HL.start F0 w0
  refine enter Try.func119 rfl rfl rfl ?_
  refine CW.seq (CW.reg ?_)
  refine WL.ev rfl rfl (Ev.as rfl rfl) (WL.nil ?_)
  refine CW.seq (CW.seq (CW.reg ?_))
  refine WL.ev rfl rfl (Ev.mv rfl rfl) (WL.ev rfl rfl (Ev.mv rfl rfl) (WL.ev rfl rfl (Ev.bin rfl rfl rfl Bin.gtr) (WL.nil ?_)))
  refine CW.condD rfl (fun h1 => ?_) (fun h1 => ?_)
  · skip
    have hr := ifp h1 hr
    refine CW.seq (CW.reg ?_)
    refine WL.ev rfl rfl (Ev.mv rfl rfl) (WL.ev rfl rfl (Ev.as rfl rfl) (WL.nil ?_))
    refine CW.ret ?_
    obtain rfl := sm hr
    exact ⟨_, res1 rfl rfl rfl, H.ext0, rfl, ha0⟩
  · skip
    have hr := ifn h1 hr
    refine CW.skip ?_
    refine CW.seq (CW.reg ?_)
    refine WL.ev rfl rfl (Ev.mv rfl rfl) (WL.ev rfl rfl (Ev.as rfl rfl) (WL.nil ?_))
    refine CW.ret ?_
    obtain rfl := sm hr
    exact ⟨_, res1 rfl rfl rfl, H.ext0, rfl, ha1⟩

noncomputable def sDepthOfExpr_L1 (rec_sDepthOfExpr : Expr → Option Int) : Nat → Expr → Int → Option Int := fun k1 x1 s1 => 
  (rec_sDepthOfExpr x1).bind fun y1 =>
  (sl1Max_m s1 y1).bind fun y2 =>
  some y2
noncomputable def sDepthOfExpr_B (rec_sDepthOfExpr : Expr → Option Int) (a0 : Expr) : Option Int :=
  (eachL (sDepthOfExpr_L1 rec_sDepthOfExpr) 0 a0.Args 0).bind fun s1 =>
  grd (I64 (s1 + 1)) <|
  some (s1 + 1)
theorem sDepthOfExpr_okB {rec_sDepthOfExpr : Expr → Option Int} (ih_sDepthOfExpr : ∀ {a0 : Expr} {r : Int}, rec_sDepthOfExpr a0 = some r → ∀ {F0 : Nat → Prop} {w0 : World} {ca0 : List Value} (ha0 : rd F0 w0 a0 ca0), Ret Try.prog 95 #[.agg ca0.toArray] w0 (fun _ => False) fun v w => v = .int .i64 r ∧ I64 r) {a0 : Expr} {r : Int} (hr : sDepthOfExpr_B rec_sDepthOfExpr a0 = some r) {F0 : Nat → Prop} {w0 : World} {ca0 : List Value} (ha0 : rd F0 w0 a0 ca0) :
    Ret Try.prog 95 #[.agg ca0.toArray] w0 (fun _ => False) fun v w => v = .int .i64 r ∧ I64 r := by
  have H := (HL.start F0 w0).argR ha0
  obtain ⟨A1, n1, c1, rfl, hI1, hI2, hI3, hI4, hS1, hS2, H⟩ := op_Expr H (i := 0) rfl
  refine enter Try.func95 rfl rfl rfl ?_
  refine CW.seq (CW.reg ?_)
  refine WL.boxH rfl rfl rfl rfl rfl H fun b1 w1 H => ?_
  refine WL.ev rfl rfl (Ev.as rfl rfl) (WL.nil ?_)
  refine CW.seq (CW.reg ?_)
  refine WL.ev rfl rfl (Ev.as rfl rfl) (WL.nil ?_)
  refine CW.seq (CW.seq (CW.reg ?_))
  refine WL.ev rfl rfl (Ev.as rfl rfl) (WL.nil ?_)
  obtain ⟨q1, hq1, hr⟩ := bd hr
  refine CW.block (CW.loop (α := Nat × Int) (fun ⟨k1, s1⟩ => [(1, .pointer (some ⟨b1, 0, none⟩)), (3, .int .i64 s1), (4, .int .i64 (k1 : Int))]) (fun ⟨k1, s1⟩ w => k1 ≤ a0.Args.length ∧ eachL (sDepthOfExpr_L1 rec_sDepthOfExpr) k1 (a0.Args.drop k1) s1 = some q1 ∧ I64 s1 ∧ HL F0 [] w0 w [Pr.R a0 [.int .i64 a0.Kind, .int .i64 a0.N, .int .i64 a0.Pos, .int .i64 a0.Type_, .string a0.Symbol, .string a0.Name, .slice A1 n1 c1], Pr.S a0.Args (.slice A1 n1 c1)] [It.B b1 31 [.int .i64 a0.Kind, .int .i64 a0.N, .int .i64 a0.Pos, .int .i64 a0.Type_, .string a0.Symbol, .string a0.Name, .slice A1 n1 c1]]) (fun ⟨k1, s1⟩ => a0.Args.length - k1) ⟨0, 0⟩ ⟨rfl, rfl, rfl, trivial⟩ ⟨Nat.zero_le _, hq1, (by decide : I64 0), H.keep 2 1⟩ ?_)
  rintro ⟨k1, s1⟩ σ w2 ⟨hk1, hq1, hI5, H⟩
  refine CW.seq (CW.seq (CW.reg ?_))
  refine WL.ev rfl rfl (Ev.mv rfl rfl) (WL.ev rfl rfl (Ev.fa rfl fo31_6 rfl) (WL.ev rfl rfl (Ev.ld rfl ag29 rfl ((H.rB (i := 0) rfl).cell rfl)) ?_))
  have hl1 := (H.rS (i := 1) rfl).I
  refine WL.ev rfl rfl (Ev.lenV rfl el29 rfl (H.rS (i := 1) rfl)) (WL.ev rfl rfl (Ev.bin rfl rfl rfl Bin.lss) (WL.nil ?_))
  refine CW.condD rfl (fun h1 => ?_) (fun h1 => ?_)
  · skip
    have hk2 := cast_lt h1
    obtain ⟨x1, z1, hx1, hb1, hq1⟩ := eachL_go hq1 hk2
    refine CW.skip ?_
    refine CW.seq (CW.block (CW.reg ?_))
    refine WL.ev rfl rfl (Ev.mv rfl rfl) (WL.ev rfl rfl (Ev.fa rfl fo31_6 rfl) (WL.ev rfl rfl (Ev.ld rfl ag29 rfl ((H.rB (i := 0) rfl).cell rfl)) (WL.ev rfl rfl (Ev.mv rfl rfl) ?_)))
    obtain ⟨b2, ob2, cb2, A2, n2, c2, hvb2, hI6, hI7, hI8, hI9, hS3, hS4, H⟩ := ixS_Expr H (i := 1) rfl hx1
    refine WL.ev rfl rfl (Ev.ixVN rfl el29 sz31 rfl hvb2 rfl (lt_of hx1)) (WL.ev rfl rfl (Ev.lda rfl ag31 sz31 rfl (H.rA (i := 2) rfl) rfl) ?_)
    obtain ⟨y1, hy1, hb1⟩ := bd hb1
    refine WL.call rfl rfl rfl rfl rfl ok95 rfl (ih_sDepthOfExpr hy1 (Expr_rd.2 ⟨_, rfl, hI6, hI7, hI8, hI9, hS3, hS4, (H.rS (i := 4) rfl)⟩)) ?_
    rintro _ w3 hE ⟨rfl, hI10⟩
    have H := H.ext hE
    obtain ⟨y2, hy2, hb1⟩ := bd hb1
    refine WL.call rfl rfl rfl rfl rfl ok119 rfl (sl1Max_ok hy2 (F0 := fun _ => False) hI5 hI10) ?_
    rintro _ w4 hE ⟨rfl, hI11⟩
    have H := H.ext hE
    refine WL.ev rfl rfl (Ev.as rfl rfl) (WL.nil ?_)
    refine CW.reg ?_
    refine WL.ev rfl rfl (Ev.mv rfl rfl) (WL.ev rfl rfl (Ev.bin rfl rfl rfl (Bin.addN (a := k1) (b := 1) rfl (i64_succN hk2 hl1.2))) (WL.ev rfl rfl (Ev.as rfl rfl) (WL.nil ?_)))
    obtain rfl := sm hb1
    exact ⟨⟨k1 + 1, y2⟩, ⟨rfl, rfl, rfl, trivial⟩, ⟨hk2, hq1, hI11, H.keep 2 1⟩, Nat.sub_lt_sub_left hk2 (Nat.lt_succ_self _)⟩
  · skip
    obtain rfl := eachL_end hq1 (not_cast_lt h1)
    refine CW.exit ?_
    refine CW.seq (CW.reg ?_)
    refine WL.ev rfl rfl (Ev.mv rfl rfl) ?_
    obtain ⟨hg1, hr⟩ := grd_some hr
    refine WL.ev rfl rfl (Ev.bin rfl rfl rfl (Bin.add hg1)) (WL.ev rfl rfl (Ev.as rfl rfl) (WL.nil ?_))
    refine CW.ret ?_
    obtain rfl := sm hr
    exact ⟨_, res1 rfl rfl rfl, H.ext0, rfl, hg1⟩
noncomputable def sDepthOfExpr_n : Nat → Expr → Option Int
  | 0, _ => none
  | n + 1, a0 => sDepthOfExpr_B (sDepthOfExpr_n n) a0
noncomputable def sDepthOfExpr_m (a0 : Expr) : Option Int := recO fun n => sDepthOfExpr_n n a0
theorem sDepthOfExpr_okn (n : Nat) : ∀ {a0 : Expr} {r : Int}, sDepthOfExpr_n n a0 = some r → ∀ {F0 : Nat → Prop} {w0 : World} {ca0 : List Value} (ha0 : rd F0 w0 a0 ca0), Ret Try.prog 95 #[.agg ca0.toArray] w0 (fun _ => False) fun v w => v = .int .i64 r ∧ I64 r := by
  induction n with
  | zero => intro a0 r hr; exact nomatch (show (none : Option Int) = some r from hr)
  | succ n ih => intro a0 r hr; exact sDepthOfExpr_okB ih hr
theorem sDepthOfExpr_ok {a0 : Expr} {r : Int} (hr : sDepthOfExpr_m a0 = some r) {F0 : Nat → Prop} {w0 : World} {ca0 : List Value} (ha0 : rd F0 w0 a0 ca0) :
    Ret Try.prog 95 #[.agg ca0.toArray] w0 (fun _ => False) fun v w => v = .int .i64 r ∧ I64 r := by
  obtain ⟨n, hn⟩ := recO_some hr
  exact sDepthOfExpr_okn n hn ha0

noncomputable def sl1In_m (a0 : Int) (a1 : Int) (a2 : Int) : Option Bool :=
  if a1 ≤ a0 then (
  some (decide (a0 ≤ a2))
  ) else (
  some false
  )
theorem sl1In_ok {a0 : Int} {a1 : Int} {a2 : Int} {r : Bool} (hr : sl1In_m a0 a1 a2 = some r) {F0 : Nat → Prop} {w0 : World} (ha0 : I64 a0) (ha1 : I64 a1) (ha2 : I64 a2) :
    Ret Try.prog 112 #[.int .i64 a0, .int .i64 a1, .int .i64 a2] w0 (fun _ => False) fun v w => v = .bool r := by
  have H := HL.start F0 w0
  refine enter Try.func112 rfl rfl rfl ?_
  refine CW.seq (CW.reg ?_)
  refine WL.ev rfl rfl (Ev.as rfl rfl) (WL.nil ?_)
  refine CW.seq (CW.reg ?_)
  refine WL.ev rfl rfl (Ev.mv rfl rfl) (WL.ev rfl rfl (Ev.mv rfl rfl) (WL.ev rfl rfl (Ev.bin rfl rfl rfl Bin.geq) ?_))
  refine WL.mvD rfl rfl rfl rfl (fun h1 => ?_) (fun h1 => ?_)
  · skip
    have hr := ifp h1 hr
    refine WL.on rfl rfl (WL.ev rfl rfl (Ev.mv rfl rfl) (WL.on rfl rfl (WL.ev rfl rfl (Ev.mv rfl rfl) (WL.on rfl rfl (WL.ev rfl rfl (Ev.bin rfl rfl rfl Bin.leq) (WL.ev rfl rfl (Ev.pickT rfl rfl rfl) (WL.ev rfl rfl (Ev.as rfl rfl) (WL.nil ?_))))))))
    refine CW.ret ?_
    obtain rfl := sm hr
    exact ⟨_, res1 rfl rfl rfl, H.ext0, rfl⟩
  · skip
    have hr := ifn h1 hr
    refine WL.off rfl rfl rfl (WL.off rfl rfl rfl (WL.off rfl rfl rfl (WL.ev rfl rfl (Ev.pickF rfl rfl rfl) (WL.ev rfl rfl (Ev.as rfl rfl) (WL.nil ?_)))))
    refine CW.ret ?_
    obtain rfl := sm hr
    exact ⟨_, res1 rfl rfl rfl, H.ext0, rfl⟩

noncomputable def sl4Bare_m (a0 : Expr) : Option Bool :=
  (
  if a0.Kind = 4 then (
  some 2
  ) else (
  if a0.Kind = 5 then (
  some 3
  ) else (
  if a0.Kind = 8 then (
  some 1
  ) else (
  some 0
  )
  )
  )
  ).bind fun s1 =>
  if (a0.Args.length : Int) = s1 then (
  (
  if a0.Kind = 3 then (
  some true
  ) else (
  some (decide (a0.Kind = 6))
  )
  ).bind fun s2 =>
  (
  if a0.Kind = 3 then (
  some true
  ) else (
  some (decide (a0.Kind = 8))
  )
  ).bind fun s3 =>
  (
  if a0.Kind = 1 then (
  some true
  ) else (
  some (decide (a0.Kind = 4))
  )
  ).bind fun s4 =>
  (
  if s2 = true then (
  some true
  ) else (
  some (decide (a0.Pos = 0))
  )
  ).bind fun s5 =>
  (
  if s5 = true then (
  (
  if s3 = true then (
  some true
  ) else (
  some (decide (a0.Name = (⟨#[]⟩ : ByteArray)))
  )
  ).bind fun s7 =>
  some s7
  ) else (
  some false
  )
  ).bind fun s6 =>
  (
  if s6 = true then (
  (
  if s4 = true then (
  some true
  ) else (
  some (decide (a0.N = 0))
  )
  ).bind fun s9 =>
  some s9
  ) else (
  some false
  )
  ).bind fun s8 =>
  (
  if s8 = true then (
  (
  if a0.Kind = 1 then (
  some true
  ) else (
  some (decide (a0.Type_ = 0))
  )
  ).bind fun s11 =>
  some s11
  ) else (
  some false
  )
  ).bind fun s10 =>
  (
  if s10 = true then (
  (
  if a0.Kind = 8 then (
  some true
  ) else (
  some (decide (a0.Symbol = (⟨#[]⟩ : ByteArray)))
  )
  ).bind fun s13 =>
  some s13
  ) else (
  some false
  )
  ).bind fun s12 =>
  some s12
  ) else (
  some false
  )
theorem sl4Bare_ok {a0 : Expr} {r : Bool} (hr : sl4Bare_m a0 = some r) {F0 : Nat → Prop} {w0 : World} {ca0 : List Value} (ha0 : rd F0 w0 a0 ca0) :
    Ret Try.prog 182 #[.agg ca0.toArray] w0 (fun _ => False) fun v w => v = .bool r := by
  have H := (HL.start F0 w0).argR ha0
  obtain ⟨A1, n1, c1, rfl, hI1, hI2, hI3, hI4, hS1, hS2, H⟩ := op_Expr H (i := 0) rfl
  refine enter Try.func182 rfl rfl rfl ?_
  refine CW.seq (CW.reg ?_)
  refine WL.boxH rfl rfl rfl rfl rfl H fun b1 w1 H => ?_
  refine WL.ev rfl rfl (Ev.as rfl rfl) (WL.nil ?_)
  refine CW.seq (CW.reg ?_)
  refine WL.ev rfl rfl (Ev.as rfl rfl) (WL.nil ?_)
  refine CW.seq (CW.seq (CW.reg ?_))
  refine WL.ev rfl rfl (Ev.fa rfl fo31_0 rfl) (WL.ev rfl rfl (Ev.ld rfl ag3 rfl ((H.rB (i := 0) rfl).cell rfl)) (WL.nil ?_))
  obtain ⟨q1, hm1, hr⟩ := bd hr
  refine CW.mid (fun ρ' w => ∃ (s1 : Int), s1 = q1 ∧ agree ρ' [(1, .pointer (some ⟨b1, 0, none⟩)), (3, .int .i64 s1)] ∧ I64 s1 ∧ HL F0 [] w0 w [Pr.R a0 [.int .i64 a0.Kind, .int .i64 a0.N, .int .i64 a0.Pos, .int .i64 a0.Type_, .string a0.Symbol, .string a0.Name, .slice A1 n1 c1], Pr.S a0.Args (.slice A1 n1 c1)] [It.B b1 31 [.int .i64 a0.Kind, .int .i64 a0.N, .int .i64 a0.Pos, .int .i64 a0.Type_, .string a0.Symbol, .string a0.Name, .slice A1 n1 c1]]) ?_ ?_
  · skip
    refine CW.block (CW.seq (CW.reg ?_))
    refine WL.ev rfl rfl (Ev.bin rfl rfl rfl Bin.eql) (WL.ev rfl rfl (Ev.as rfl rfl) (WL.nil ?_))
    refine CW.condD rfl (fun h1 => ?_) (fun h1 => ?_)
    · skip
      have hm1 := ifp h1 hm1
      refine CW.reg ?_
      refine WL.ev rfl rfl (Ev.as rfl rfl) (WL.nil ?_)
      obtain rfl := sm hm1
      exact ⟨2, rfl, ⟨rfl, rfl, trivial⟩, (by decide : I64 2), H.keep 2 1⟩
    · skip
      have hm1 := ifn h1 hm1
      refine CW.seq (CW.reg ?_)
      refine WL.ev rfl rfl (Ev.bin rfl rfl rfl Bin.eql) (WL.ev rfl rfl (Ev.as rfl rfl) (WL.nil ?_))
      refine CW.condD rfl (fun h2 => ?_) (fun h2 => ?_)
      · skip
        have hm1 := ifp h2 hm1
        refine CW.reg ?_
        refine WL.ev rfl rfl (Ev.as rfl rfl) (WL.nil ?_)
        obtain rfl := sm hm1
        exact ⟨3, rfl, ⟨rfl, rfl, trivial⟩, (by decide : I64 3), H.keep 2 1⟩
      · skip
        have hm1 := ifn h2 hm1
        refine CW.seq (CW.reg ?_)
        refine WL.ev rfl rfl (Ev.bin rfl rfl rfl Bin.eql) (WL.ev rfl rfl (Ev.as rfl rfl) (WL.nil ?_))
        refine CW.condD rfl (fun h3 => ?_) (fun h3 => ?_)
        · skip
          have hm1 := ifp h3 hm1
          refine CW.reg ?_
          refine WL.ev rfl rfl (Ev.as rfl rfl) (WL.nil ?_)
          obtain rfl := sm hm1
          exact ⟨1, rfl, ⟨rfl, rfl, trivial⟩, (by decide : I64 1), H.keep 2 1⟩
        · skip
          have hm1 := ifn h3 hm1
          refine CW.skip ?_
          obtain rfl := sm hm1
          exact ⟨0, rfl, ⟨rfl, rfl, trivial⟩, (by decide : I64 0), H.keep 2 1⟩
  · rintro ρ' w2 ⟨s1, rfl, hag, hI5, H⟩
    obtain ⟨σ, rfl⟩ := ofL_ex hag
    refine CW.seq (CW.seq (CW.reg ?_))
    refine WL.ev rfl rfl (Ev.fa rfl fo31_6 rfl) (WL.ev rfl rfl (Ev.ld rfl ag29 rfl ((H.rB (i := 0) rfl).cell rfl)) ?_)
    have hl1 := (H.rS (i := 1) rfl).I
    refine WL.ev rfl rfl (Ev.lenV rfl el29 rfl (H.rS (i := 1) rfl)) (WL.ev rfl rfl (Ev.mv rfl rfl) (WL.ev rfl rfl (Ev.bin rfl rfl rfl Bin.neq) (WL.nil ?_)))
    refine CW.condN rfl (fun h4 => ?_) (fun h4 => ?_)
    · skip
      have hr := ifn h4 hr
      refine CW.seq (CW.reg ?_)
      refine WL.ev rfl rfl (Ev.as rfl rfl) (WL.nil ?_)
      refine CW.ret ?_
      obtain rfl := sm hr
      exact ⟨_, res1 rfl rfl rfl, H.ext0, rfl⟩
    · skip
      have hr := ifp h4 hr
      refine CW.skip ?_
      refine CW.seq (CW.reg ?_)
      refine WL.ev rfl rfl (Ev.fa rfl fo31_0 rfl) (WL.ev rfl rfl (Ev.ld rfl ag3 rfl ((H.rB (i := 0) rfl).cell rfl)) (WL.ev rfl rfl (Ev.bin rfl rfl rfl Bin.eql) ?_))
      obtain ⟨q2, hm2, hr⟩ := bd hr
      refine WL.cut 5 (fun ρ' w => ∃ (s2 : Bool), s2 = q2 ∧ agree ρ' [(1, .pointer (some ⟨b1, 0, none⟩)), (27, .bool s2)] ∧ HL F0 [] w0 w [Pr.R a0 [.int .i64 a0.Kind, .int .i64 a0.N, .int .i64 a0.Pos, .int .i64 a0.Type_, .string a0.Symbol, .string a0.Name, .slice A1 n1 c1], Pr.S a0.Args (.slice A1 n1 c1)] [It.B b1 31 [.int .i64 a0.Kind, .int .i64 a0.N, .int .i64 a0.Pos, .int .i64 a0.Type_, .string a0.Symbol, .string a0.Name, .slice A1 n1 c1]]) ?_ ?_
      · skip
        refine WL.mvD rfl rfl rfl rfl (fun h5 => ?_) (fun h5 => ?_)
        · skip
          have hm2 := ifp h5 hm2
          refine WL.off rfl rfl rfl (WL.off rfl rfl rfl (WL.off rfl rfl rfl (WL.ev rfl rfl (Ev.pickT rfl rfl rfl) (WL.nil ?_))))
          obtain rfl := sm hm2
          exact ⟨true, rfl, ⟨rfl, rfl, trivial⟩, H.keep 2 1⟩
        · skip
          have hm2 := ifn h5 hm2
          refine WL.on rfl rfl (WL.ev rfl rfl (Ev.fa rfl fo31_0 rfl) (WL.on rfl rfl (WL.ev rfl rfl (Ev.ld rfl ag3 rfl ((H.rB (i := 0) rfl).cell rfl)) (WL.on rfl rfl (WL.ev rfl rfl (Ev.bin rfl rfl rfl Bin.eql) (WL.ev rfl rfl (Ev.pickF rfl rfl rfl) (WL.nil ?_)))))))
          obtain rfl := sm hm2
          exact ⟨(decide (a0.Kind = 6)), rfl, ⟨rfl, rfl, trivial⟩, H.keep 2 1⟩
      · rintro ρ' w3 ⟨s2, rfl, hag, H⟩
        obtain ⟨σ, rfl⟩ := ofL_ex hag
        refine WL.ev rfl rfl (Ev.as rfl rfl) (WL.nil ?_)
        refine CW.seq (CW.reg ?_)
        refine WL.ev rfl rfl (Ev.fa rfl fo31_0 rfl) (WL.ev rfl rfl (Ev.ld rfl ag3 rfl ((H.rB (i := 0) rfl).cell rfl)) (WL.ev rfl rfl (Ev.bin rfl rfl rfl Bin.eql) ?_))
        obtain ⟨q3, hm3, hr⟩ := bd hr
        refine WL.cut 5 (fun ρ' w => ∃ (s3 : Bool), s3 = q3 ∧ agree ρ' [(1, .pointer (some ⟨b1, 0, none⟩)), (4, .bool s2), (35, .bool s3)] ∧ HL F0 [] w0 w [Pr.R a0 [.int .i64 a0.Kind, .int .i64 a0.N, .int .i64 a0.Pos, .int .i64 a0.Type_, .string a0.Symbol, .string a0.Name, .slice A1 n1 c1], Pr.S a0.Args (.slice A1 n1 c1)] [It.B b1 31 [.int .i64 a0.Kind, .int .i64 a0.N, .int .i64 a0.Pos, .int .i64 a0.Type_, .string a0.Symbol, .string a0.Name, .slice A1 n1 c1]]) ?_ ?_
        · skip
          refine WL.mvD rfl rfl rfl rfl (fun h6 => ?_) (fun h6 => ?_)
          · skip
            have hm3 := ifp h6 hm3
            refine WL.off rfl rfl rfl (WL.off rfl rfl rfl (WL.off rfl rfl rfl (WL.ev rfl rfl (Ev.pickT rfl rfl rfl) (WL.nil ?_))))
            obtain rfl := sm hm3
            exact ⟨true, rfl, ⟨rfl, rfl, rfl, trivial⟩, H.keep 2 1⟩
          · skip
            have hm3 := ifn h6 hm3
            refine WL.on rfl rfl (WL.ev rfl rfl (Ev.fa rfl fo31_0 rfl) (WL.on rfl rfl (WL.ev rfl rfl (Ev.ld rfl ag3 rfl ((H.rB (i := 0) rfl).cell rfl)) (WL.on rfl rfl (WL.ev rfl rfl (Ev.bin rfl rfl rfl Bin.eql) (WL.ev rfl rfl (Ev.pickF rfl rfl rfl) (WL.nil ?_)))))))
            obtain rfl := sm hm3
            exact ⟨(decide (a0.Kind = 8)), rfl, ⟨rfl, rfl, rfl, trivial⟩, H.keep 2 1⟩
        · rintro ρ' w4 ⟨s3, rfl, hag, H⟩
          obtain ⟨σ, rfl⟩ := ofL_ex hag
          refine WL.ev rfl rfl (Ev.as rfl rfl) (WL.nil ?_)
          refine CW.seq (CW.reg ?_)
          refine WL.ev rfl rfl (Ev.fa rfl fo31_0 rfl) (WL.ev rfl rfl (Ev.ld rfl ag3 rfl ((H.rB (i := 0) rfl).cell rfl)) (WL.ev rfl rfl (Ev.bin rfl rfl rfl Bin.eql) ?_))
          obtain ⟨q4, hm4, hr⟩ := bd hr
          refine WL.cut 5 (fun ρ' w => ∃ (s4 : Bool), s4 = q4 ∧ agree ρ' [(1, .pointer (some ⟨b1, 0, none⟩)), (4, .bool s2), (5, .bool s3), (43, .bool s4)] ∧ HL F0 [] w0 w [Pr.R a0 [.int .i64 a0.Kind, .int .i64 a0.N, .int .i64 a0.Pos, .int .i64 a0.Type_, .string a0.Symbol, .string a0.Name, .slice A1 n1 c1], Pr.S a0.Args (.slice A1 n1 c1)] [It.B b1 31 [.int .i64 a0.Kind, .int .i64 a0.N, .int .i64 a0.Pos, .int .i64 a0.Type_, .string a0.Symbol, .string a0.Name, .slice A1 n1 c1]]) ?_ ?_
          · skip
            refine WL.mvD rfl rfl rfl rfl (fun h7 => ?_) (fun h7 => ?_)
            · skip
              have hm4 := ifp h7 hm4
              refine WL.off rfl rfl rfl (WL.off rfl rfl rfl (WL.off rfl rfl rfl (WL.ev rfl rfl (Ev.pickT rfl rfl rfl) (WL.nil ?_))))
              obtain rfl := sm hm4
              exact ⟨true, rfl, ⟨rfl, rfl, rfl, rfl, trivial⟩, H.keep 2 1⟩
            · skip
              have hm4 := ifn h7 hm4
              refine WL.on rfl rfl (WL.ev rfl rfl (Ev.fa rfl fo31_0 rfl) (WL.on rfl rfl (WL.ev rfl rfl (Ev.ld rfl ag3 rfl ((H.rB (i := 0) rfl).cell rfl)) (WL.on rfl rfl (WL.ev rfl rfl (Ev.bin rfl rfl rfl Bin.eql) (WL.ev rfl rfl (Ev.pickF rfl rfl rfl) (WL.nil ?_)))))))
              obtain rfl := sm hm4
              exact ⟨(decide (a0.Kind = 4)), rfl, ⟨rfl, rfl, rfl, rfl, trivial⟩, H.keep 2 1⟩
          · rintro ρ' w5 ⟨s4, rfl, hag, H⟩
            obtain ⟨σ, rfl⟩ := ofL_ex hag
            refine WL.ev rfl rfl (Ev.as rfl rfl) (WL.nil ?_)
            refine CW.seq (CW.reg ?_)
            refine WL.ev rfl rfl (Ev.mv rfl rfl) ?_
            obtain ⟨q5, hm5, hr⟩ := bd hr
            refine WL.cut 5 (fun ρ' w => ∃ (s5 : Bool), s5 = q5 ∧ agree ρ' [(1, .pointer (some ⟨b1, 0, none⟩)), (5, .bool s3), (6, .bool s4), (49, .bool s5)] ∧ HL F0 [] w0 w [Pr.R a0 [.int .i64 a0.Kind, .int .i64 a0.N, .int .i64 a0.Pos, .int .i64 a0.Type_, .string a0.Symbol, .string a0.Name, .slice A1 n1 c1], Pr.S a0.Args (.slice A1 n1 c1)] [It.B b1 31 [.int .i64 a0.Kind, .int .i64 a0.N, .int .i64 a0.Pos, .int .i64 a0.Type_, .string a0.Symbol, .string a0.Name, .slice A1 n1 c1]]) ?_ ?_
            · skip
              refine WL.mvB rfl rfl rfl rfl (fun h8 => ?_) (fun h8 => ?_)
              · skip
                have hm5 := ifp h8 hm5
                refine WL.off rfl rfl rfl (WL.off rfl rfl rfl (WL.off rfl rfl rfl (WL.ev rfl rfl (Ev.pickT rfl rfl rfl) (WL.nil ?_))))
                obtain rfl := sm hm5
                exact ⟨true, rfl, ⟨rfl, rfl, rfl, rfl, trivial⟩, H.keep 2 1⟩
              · skip
                have hm5 := ifn h8 hm5
                refine WL.on rfl rfl (WL.ev rfl rfl (Ev.fa rfl fo31_2 rfl) (WL.on rfl rfl (WL.ev rfl rfl (Ev.ld rfl ag3 rfl ((H.rB (i := 0) rfl).cell rfl)) (WL.on rfl rfl (WL.ev rfl rfl (Ev.bin rfl rfl rfl Bin.eql) (WL.ev rfl rfl (Ev.pickF rfl rfl rfl) (WL.nil ?_)))))))
                obtain rfl := sm hm5
                exact ⟨(decide (a0.Pos = 0)), rfl, ⟨rfl, rfl, rfl, rfl, trivial⟩, H.keep 2 1⟩
            · rintro ρ' w6 ⟨s5, rfl, hag, H⟩
              obtain ⟨σ, rfl⟩ := ofL_ex hag
              obtain ⟨q6, hm6, hr⟩ := bd hr
              refine WL.cut 8 (fun ρ' w => ∃ (s6 : Bool), s6 = q6 ∧ agree ρ' [(1, .pointer (some ⟨b1, 0, none⟩)), (6, .bool s4), (57, .bool s6)] ∧ HL F0 [] w0 w [Pr.R a0 [.int .i64 a0.Kind, .int .i64 a0.N, .int .i64 a0.Pos, .int .i64 a0.Type_, .string a0.Symbol, .string a0.Name, .slice A1 n1 c1], Pr.S a0.Args (.slice A1 n1 c1)] [It.B b1 31 [.int .i64 a0.Kind, .int .i64 a0.N, .int .i64 a0.Pos, .int .i64 a0.Type_, .string a0.Symbol, .string a0.Name, .slice A1 n1 c1]]) ?_ ?_
              · skip
                refine WL.mvB rfl rfl rfl rfl (fun h9 => ?_) (fun h9 => ?_)
                · skip
                  have hm6 := ifp h9 hm6
                  refine WL.on rfl rfl (WL.ev rfl rfl (Ev.mv rfl rfl) (WL.on rfl rfl ?_))
                  obtain ⟨q7, hm7, hm6⟩ := bd hm6
                  refine WL.cut 5 (fun ρ' w => ∃ (s7 : Bool), s7 = q7 ∧ agree ρ' [(1, .pointer (some ⟨b1, 0, none⟩)), (6, .bool s4), (50, .bool true), (56, .bool s7)] ∧ HL F0 [] w0 w [Pr.R a0 [.int .i64 a0.Kind, .int .i64 a0.N, .int .i64 a0.Pos, .int .i64 a0.Type_, .string a0.Symbol, .string a0.Name, .slice A1 n1 c1], Pr.S a0.Args (.slice A1 n1 c1)] [It.B b1 31 [.int .i64 a0.Kind, .int .i64 a0.N, .int .i64 a0.Pos, .int .i64 a0.Type_, .string a0.Symbol, .string a0.Name, .slice A1 n1 c1]]) ?_ ?_
                  · skip
                    refine WL.on rfl rfl ?_
                    refine WL.mvB rfl rfl rfl rfl (fun h10 => ?_) (fun h10 => ?_)
                    · skip
                      have hm7 := ifp h10 hm7
                      refine WL.off rfl rfl rfl (WL.off rfl rfl rfl (WL.off rfl rfl rfl (WL.on rfl rfl (WL.ev rfl rfl (Ev.pickT rfl rfl rfl) (WL.nil ?_)))))
                      obtain rfl := sm hm7
                      exact ⟨true, rfl, ⟨rfl, rfl, rfl, rfl, trivial⟩, H.keep 2 1⟩
                    · skip
                      have hm7 := ifn h10 hm7
                      refine WL.on rfl rfl (WL.ev rfl rfl (Ev.fa rfl fo31_5 rfl) (WL.on rfl rfl (WL.ev rfl rfl (Ev.ld rfl ag9 rfl ((H.rB (i := 0) rfl).cell rfl)) (WL.on rfl rfl (WL.ev rfl rfl (Ev.bin rfl rfl rfl Bin.eqlS) (WL.on rfl rfl (WL.ev rfl rfl (Ev.pickF rfl rfl rfl) (WL.nil ?_))))))))
                      obtain rfl := sm hm7
                      exact ⟨(decide (a0.Name = (⟨#[]⟩ : ByteArray))), rfl, ⟨rfl, rfl, rfl, rfl, trivial⟩, H.keep 2 1⟩
                  · rintro ρ' w7 ⟨s7, rfl, hag, H⟩
                    obtain ⟨σ, rfl⟩ := ofL_ex hag
                    refine WL.ev rfl rfl (Ev.pickT rfl rfl rfl) (WL.nil ?_)
                    obtain rfl := sm hm6
                    exact ⟨s7, rfl, ⟨rfl, rfl, rfl, trivial⟩, H.keep 2 1⟩
                · skip
                  have hm6 := ifn h9 hm6
                  refine WL.off rfl rfl rfl (WL.off rfl rfl rfl (WL.off rfl rfl rfl (WL.off rfl rfl rfl (WL.off rfl rfl rfl (WL.off rfl rfl rfl (WL.ev rfl rfl (Ev.pickF rfl rfl rfl) (WL.nil ?_)))))))
                  obtain rfl := sm hm6
                  exact ⟨false, rfl, ⟨rfl, rfl, rfl, trivial⟩, H.keep 2 1⟩
              · rintro ρ' w8 ⟨s6, rfl, hag, H⟩
                obtain ⟨σ, rfl⟩ := ofL_ex hag
                obtain ⟨q8, hm8, hr⟩ := bd hr
                refine WL.cut 8 (fun ρ' w => ∃ (s8 : Bool), s8 = q8 ∧ agree ρ' [(1, .pointer (some ⟨b1, 0, none⟩)), (65, .bool s8)] ∧ HL F0 [] w0 w [Pr.R a0 [.int .i64 a0.Kind, .int .i64 a0.N, .int .i64 a0.Pos, .int .i64 a0.Type_, .string a0.Symbol, .string a0.Name, .slice A1 n1 c1], Pr.S a0.Args (.slice A1 n1 c1)] [It.B b1 31 [.int .i64 a0.Kind, .int .i64 a0.N, .int .i64 a0.Pos, .int .i64 a0.Type_, .string a0.Symbol, .string a0.Name, .slice A1 n1 c1]]) ?_ ?_
                · skip
                  refine WL.mvB rfl rfl rfl rfl (fun h11 => ?_) (fun h11 => ?_)
                  · skip
                    have hm8 := ifp h11 hm8
                    refine WL.on rfl rfl (WL.ev rfl rfl (Ev.mv rfl rfl) (WL.on rfl rfl ?_))
                    obtain ⟨q9, hm9, hm8⟩ := bd hm8
                    refine WL.cut 5 (fun ρ' w => ∃ (s9 : Bool), s9 = q9 ∧ agree ρ' [(1, .pointer (some ⟨b1, 0, none⟩)), (58, .bool true), (64, .bool s9)] ∧ HL F0 [] w0 w [Pr.R a0 [.int .i64 a0.Kind, .int .i64 a0.N, .int .i64 a0.Pos, .int .i64 a0.Type_, .string a0.Symbol, .string a0.Name, .slice A1 n1 c1], Pr.S a0.Args (.slice A1 n1 c1)] [It.B b1 31 [.int .i64 a0.Kind, .int .i64 a0.N, .int .i64 a0.Pos, .int .i64 a0.Type_, .string a0.Symbol, .string a0.Name, .slice A1 n1 c1]]) ?_ ?_
                    · skip
                      refine WL.on rfl rfl ?_
                      refine WL.mvB rfl rfl rfl rfl (fun h12 => ?_) (fun h12 => ?_)
                      · skip
                        have hm9 := ifp h12 hm9
                        refine WL.off rfl rfl rfl (WL.off rfl rfl rfl (WL.off rfl rfl rfl (WL.on rfl rfl (WL.ev rfl rfl (Ev.pickT rfl rfl rfl) (WL.nil ?_)))))
                        obtain rfl := sm hm9
                        exact ⟨true, rfl, ⟨rfl, rfl, rfl, trivial⟩, H.keep 2 1⟩
                      · skip
                        have hm9 := ifn h12 hm9
                        refine WL.on rfl rfl (WL.ev rfl rfl (Ev.fa rfl fo31_1 rfl) (WL.on rfl rfl (WL.ev rfl rfl (Ev.ld rfl ag3 rfl ((H.rB (i := 0) rfl).cell rfl)) (WL.on rfl rfl (WL.ev rfl rfl (Ev.bin rfl rfl rfl Bin.eql) (WL.on rfl rfl (WL.ev rfl rfl (Ev.pickF rfl rfl rfl) (WL.nil ?_))))))))
                        obtain rfl := sm hm9
                        exact ⟨(decide (a0.N = 0)), rfl, ⟨rfl, rfl, rfl, trivial⟩, H.keep 2 1⟩
                    · rintro ρ' w9 ⟨s9, rfl, hag, H⟩
                      obtain ⟨σ, rfl⟩ := ofL_ex hag
                      refine WL.ev rfl rfl (Ev.pickT rfl rfl rfl) (WL.nil ?_)
                      obtain rfl := sm hm8
                      exact ⟨s9, rfl, ⟨rfl, rfl, trivial⟩, H.keep 2 1⟩
                  · skip
                    have hm8 := ifn h11 hm8
                    refine WL.off rfl rfl rfl (WL.off rfl rfl rfl (WL.off rfl rfl rfl (WL.off rfl rfl rfl (WL.off rfl rfl rfl (WL.off rfl rfl rfl (WL.ev rfl rfl (Ev.pickF rfl rfl rfl) (WL.nil ?_)))))))
                    obtain rfl := sm hm8
                    exact ⟨false, rfl, ⟨rfl, rfl, trivial⟩, H.keep 2 1⟩
                · rintro ρ' w10 ⟨s8, rfl, hag, H⟩
                  obtain ⟨σ, rfl⟩ := ofL_ex hag
                  obtain ⟨q10, hm10, hr⟩ := bd hr
                  refine WL.cut 10 (fun ρ' w => ∃ (s10 : Bool), s10 = q10 ∧ agree ρ' [(1, .pointer (some ⟨b1, 0, none⟩)), (75, .bool s10)] ∧ HL F0 [] w0 w [Pr.R a0 [.int .i64 a0.Kind, .int .i64 a0.N, .int .i64 a0.Pos, .int .i64 a0.Type_, .string a0.Symbol, .string a0.Name, .slice A1 n1 c1], Pr.S a0.Args (.slice A1 n1 c1)] [It.B b1 31 [.int .i64 a0.Kind, .int .i64 a0.N, .int .i64 a0.Pos, .int .i64 a0.Type_, .string a0.Symbol, .string a0.Name, .slice A1 n1 c1]]) ?_ ?_
                  · skip
                    refine WL.mvB rfl rfl rfl rfl (fun h13 => ?_) (fun h13 => ?_)
                    · skip
                      have hm10 := ifp h13 hm10
                      refine WL.on rfl rfl (WL.ev rfl rfl (Ev.fa rfl fo31_0 rfl) (WL.on rfl rfl (WL.ev rfl rfl (Ev.ld rfl ag3 rfl ((H.rB (i := 0) rfl).cell rfl)) (WL.on rfl rfl (WL.ev rfl rfl (Ev.bin rfl rfl rfl Bin.eql) (WL.on rfl rfl ?_))))))
                      obtain ⟨q11, hm11, hm10⟩ := bd hm10
                      refine WL.cut 5 (fun ρ' w => ∃ (s11 : Bool), s11 = q11 ∧ agree ρ' [(1, .pointer (some ⟨b1, 0, none⟩)), (66, .bool true), (74, .bool s11)] ∧ HL F0 [] w0 w [Pr.R a0 [.int .i64 a0.Kind, .int .i64 a0.N, .int .i64 a0.Pos, .int .i64 a0.Type_, .string a0.Symbol, .string a0.Name, .slice A1 n1 c1], Pr.S a0.Args (.slice A1 n1 c1)] [It.B b1 31 [.int .i64 a0.Kind, .int .i64 a0.N, .int .i64 a0.Pos, .int .i64 a0.Type_, .string a0.Symbol, .string a0.Name, .slice A1 n1 c1]]) ?_ ?_
                      · skip
                        refine WL.on rfl rfl ?_
                        refine WL.mvD rfl rfl rfl rfl (fun h14 => ?_) (fun h14 => ?_)
                        · skip
                          have hm11 := ifp h14 hm11
                          refine WL.off rfl rfl rfl (WL.off rfl rfl rfl (WL.off rfl rfl rfl (WL.on rfl rfl (WL.ev rfl rfl (Ev.pickT rfl rfl rfl) (WL.nil ?_)))))
                          obtain rfl := sm hm11
                          exact ⟨true, rfl, ⟨rfl, rfl, rfl, trivial⟩, H.keep 2 1⟩
                        · skip
                          have hm11 := ifn h14 hm11
                          refine WL.on rfl rfl (WL.ev rfl rfl (Ev.fa rfl fo31_3 rfl) (WL.on rfl rfl (WL.ev rfl rfl (Ev.ld rfl ag3 rfl ((H.rB (i := 0) rfl).cell rfl)) (WL.on rfl rfl (WL.ev rfl rfl (Ev.bin rfl rfl rfl Bin.eql) (WL.on rfl rfl (WL.ev rfl rfl (Ev.pickF rfl rfl rfl) (WL.nil ?_))))))))
                          obtain rfl := sm hm11
                          exact ⟨(decide (a0.Type_ = 0)), rfl, ⟨rfl, rfl, rfl, trivial⟩, H.keep 2 1⟩
                      · rintro ρ' w11 ⟨s11, rfl, hag, H⟩
                        obtain ⟨σ, rfl⟩ := ofL_ex hag
                        refine WL.ev rfl rfl (Ev.pickT rfl rfl rfl) (WL.nil ?_)
                        obtain rfl := sm hm10
                        exact ⟨s11, rfl, ⟨rfl, rfl, trivial⟩, H.keep 2 1⟩
                    · skip
                      have hm10 := ifn h13 hm10
                      refine WL.off rfl rfl rfl (WL.off rfl rfl rfl (WL.off rfl rfl rfl (WL.off rfl rfl rfl (WL.off rfl rfl rfl (WL.off rfl rfl rfl (WL.off rfl rfl rfl (WL.off rfl rfl rfl (WL.ev rfl rfl (Ev.pickF rfl rfl rfl) (WL.nil ?_)))))))))
                      obtain rfl := sm hm10
                      exact ⟨false, rfl, ⟨rfl, rfl, trivial⟩, H.keep 2 1⟩
                  · rintro ρ' w12 ⟨s10, rfl, hag, H⟩
                    obtain ⟨σ, rfl⟩ := ofL_ex hag
                    obtain ⟨q12, hm12, hr⟩ := bd hr
                    refine WL.cut 10 (fun ρ' w => ∃ (s12 : Bool), s12 = q12 ∧ agree ρ' [(85, .bool s12)] ∧ HL F0 [] w0 w [Pr.R a0 [.int .i64 a0.Kind, .int .i64 a0.N, .int .i64 a0.Pos, .int .i64 a0.Type_, .string a0.Symbol, .string a0.Name, .slice A1 n1 c1], Pr.S a0.Args (.slice A1 n1 c1)] [It.B b1 31 [.int .i64 a0.Kind, .int .i64 a0.N, .int .i64 a0.Pos, .int .i64 a0.Type_, .string a0.Symbol, .string a0.Name, .slice A1 n1 c1]]) ?_ ?_
                    · skip
                      refine WL.mvB rfl rfl rfl rfl (fun h15 => ?_) (fun h15 => ?_)
                      · skip
                        have hm12 := ifp h15 hm12
                        refine WL.on rfl rfl (WL.ev rfl rfl (Ev.fa rfl fo31_0 rfl) (WL.on rfl rfl (WL.ev rfl rfl (Ev.ld rfl ag3 rfl ((H.rB (i := 0) rfl).cell rfl)) (WL.on rfl rfl (WL.ev rfl rfl (Ev.bin rfl rfl rfl Bin.eql) (WL.on rfl rfl ?_))))))
                        obtain ⟨q13, hm13, hm12⟩ := bd hm12
                        refine WL.cut 5 (fun ρ' w => ∃ (s13 : Bool), s13 = q13 ∧ agree ρ' [(76, .bool true), (84, .bool s13)] ∧ HL F0 [] w0 w [Pr.R a0 [.int .i64 a0.Kind, .int .i64 a0.N, .int .i64 a0.Pos, .int .i64 a0.Type_, .string a0.Symbol, .string a0.Name, .slice A1 n1 c1], Pr.S a0.Args (.slice A1 n1 c1)] [It.B b1 31 [.int .i64 a0.Kind, .int .i64 a0.N, .int .i64 a0.Pos, .int .i64 a0.Type_, .string a0.Symbol, .string a0.Name, .slice A1 n1 c1]]) ?_ ?_
                        · skip
                          refine WL.on rfl rfl ?_
                          refine WL.mvD rfl rfl rfl rfl (fun h16 => ?_) (fun h16 => ?_)
                          · skip
                            have hm13 := ifp h16 hm13
                            refine WL.off rfl rfl rfl (WL.off rfl rfl rfl (WL.off rfl rfl rfl (WL.on rfl rfl (WL.ev rfl rfl (Ev.pickT rfl rfl rfl) (WL.nil ?_)))))
                            obtain rfl := sm hm13
                            exact ⟨true, rfl, ⟨rfl, rfl, trivial⟩, H.keep 2 1⟩
                          · skip
                            have hm13 := ifn h16 hm13
                            refine WL.on rfl rfl (WL.ev rfl rfl (Ev.fa rfl fo31_4 rfl) (WL.on rfl rfl (WL.ev rfl rfl (Ev.ld rfl ag9 rfl ((H.rB (i := 0) rfl).cell rfl)) (WL.on rfl rfl (WL.ev rfl rfl (Ev.bin rfl rfl rfl Bin.eqlS) (WL.on rfl rfl (WL.ev rfl rfl (Ev.pickF rfl rfl rfl) (WL.nil ?_))))))))
                            obtain rfl := sm hm13
                            exact ⟨(decide (a0.Symbol = (⟨#[]⟩ : ByteArray))), rfl, ⟨rfl, rfl, trivial⟩, H.keep 2 1⟩
                        · rintro ρ' w13 ⟨s13, rfl, hag, H⟩
                          obtain ⟨σ, rfl⟩ := ofL_ex hag
                          refine WL.ev rfl rfl (Ev.pickT rfl rfl rfl) (WL.nil ?_)
                          obtain rfl := sm hm12
                          exact ⟨s13, rfl, ⟨rfl, trivial⟩, H.keep 2 1⟩
                      · skip
                        have hm12 := ifn h15 hm12
                        refine WL.off rfl rfl rfl (WL.off rfl rfl rfl (WL.off rfl rfl rfl (WL.off rfl rfl rfl (WL.off rfl rfl rfl (WL.off rfl rfl rfl (WL.off rfl rfl rfl (WL.off rfl rfl rfl (WL.ev rfl rfl (Ev.pickF rfl rfl rfl) (WL.nil ?_)))))))))
                        obtain rfl := sm hm12
                        exact ⟨false, rfl, ⟨rfl, trivial⟩, H.keep 2 1⟩
                    · rintro ρ' w14 ⟨s12, rfl, hag, H⟩
                      obtain ⟨σ, rfl⟩ := ofL_ex hag
                      refine WL.ev rfl rfl (Ev.as rfl rfl) (WL.nil ?_)
                      refine CW.ret ?_
                      obtain rfl := sm hr
                      exact ⟨_, res1 rfl rfl rfl, H.ext0, rfl⟩

noncomputable def sl1Min_m (a0 : Int) (a1 : Int) : Option Int :=
  if a0 < a1 then (
  some a0
  ) else (
  some a1
  )
theorem sl1Min_ok {a0 : Int} {a1 : Int} {r : Int} (hr : sl1Min_m a0 a1 = some r) {F0 : Nat → Prop} {w0 : World} (ha0 : I64 a0) (ha1 : I64 a1) :
    Ret Try.prog 118 #[.int .i64 a0, .int .i64 a1] w0 (fun _ => False) fun v w => v = .int .i64 r ∧ I64 r := by
  have H := HL.start F0 w0
  refine enter Try.func118 rfl rfl rfl ?_
  refine CW.seq (CW.reg ?_)
  refine WL.ev rfl rfl (Ev.as rfl rfl) (WL.nil ?_)
  refine CW.seq (CW.seq (CW.reg ?_))
  refine WL.ev rfl rfl (Ev.mv rfl rfl) (WL.ev rfl rfl (Ev.mv rfl rfl) (WL.ev rfl rfl (Ev.bin rfl rfl rfl Bin.lss) (WL.nil ?_)))
  refine CW.condD rfl (fun h1 => ?_) (fun h1 => ?_)
  · skip
    have hr := ifp h1 hr
    refine CW.seq (CW.reg ?_)
    refine WL.ev rfl rfl (Ev.mv rfl rfl) (WL.ev rfl rfl (Ev.as rfl rfl) (WL.nil ?_))
    refine CW.ret ?_
    obtain rfl := sm hr
    exact ⟨_, res1 rfl rfl rfl, H.ext0, rfl, ha0⟩
  · skip
    have hr := ifn h1 hr
    refine CW.skip ?_
    refine CW.seq (CW.reg ?_)
    refine WL.ev rfl rfl (Ev.mv rfl rfl) (WL.ev rfl rfl (Ev.as rfl rfl) (WL.nil ?_))
    refine CW.ret ?_
    obtain rfl := sm hr
    exact ⟨_, res1 rfl rfl rfl, H.ext0, rfl, ha1⟩

noncomputable def sSaturate_m (a0 : Int) : Option Int :=
  (sl1Min_m 1000000 a0).bind fun y1 =>
  (sl1Max_m (-1000000) y1).bind fun y2 =>
  some y2
theorem sSaturate_ok {a0 : Int} {r : Int} (hr : sSaturate_m a0 = some r) {F0 : Nat → Prop} {w0 : World} (ha0 : I64 a0) :
    Ret Try.prog 179 #[.int .i64 a0] w0 (fun _ => False) fun v w => v = .int .i64 r ∧ I64 r := by
  have H := HL.start F0 w0
  refine enter Try.func179 rfl rfl rfl ?_
  refine CW.seq (CW.reg ?_)
  refine WL.ev rfl rfl (Ev.as rfl rfl) (WL.nil ?_)
  refine CW.seq (CW.reg ?_)
  refine WL.ev rfl rfl (Ev.mv rfl rfl) ?_
  obtain ⟨y1, hy1, hr⟩ := bd hr
  refine WL.call rfl rfl rfl rfl rfl ok118 rfl (sl1Min_ok hy1 (F0 := fun _ => False) (by decide : I64 1000000) ha0) ?_
  rintro _ w1 hE ⟨rfl, hI1⟩
  have H := H.ext hE
  obtain ⟨y2, hy2, hr⟩ := bd hr
  refine WL.call rfl rfl rfl rfl rfl ok119 rfl (sl1Max_ok hy2 (F0 := fun _ => False) (by decide : I64 (-1000000)) hI1) ?_
  rintro _ w2 hE ⟨rfl, hI2⟩
  have H := H.ext hE
  refine WL.ev rfl rfl (Ev.as rfl rfl) (WL.nil ?_)
  refine CW.ret ?_
  obtain rfl := sm hr
  exact ⟨_, res1 rfl rfl rfl, H.ext0, rfl, hI2⟩

noncomputable def sl3Truth_m (a0 : Bool) : Option Int :=
  if a0 = true then (
  some 1
  ) else (
  some 0
  )
theorem sl3Truth_ok {a0 : Bool} {r : Int} (hr : sl3Truth_m a0 = some r) {F0 : Nat → Prop} {w0 : World} :
    Ret Try.prog 180 #[.bool a0] w0 (fun _ => False) fun v w => v = .int .i64 r ∧ I64 r := by
  have H := HL.start F0 w0
  refine enter Try.func180 rfl rfl rfl ?_
  refine CW.seq (CW.reg ?_)
  refine WL.ev rfl rfl (Ev.as rfl rfl) (WL.nil ?_)
  refine CW.seq (CW.seq (CW.reg ?_))
  refine WL.ev rfl rfl (Ev.mv rfl rfl) (WL.nil ?_)
  refine CW.condB rfl (fun h1 => ?_) (fun h1 => ?_)
  · skip
    have hr := ifp h1 hr
    refine CW.seq (CW.reg ?_)
    refine WL.ev rfl rfl (Ev.as rfl rfl) (WL.nil ?_)
    refine CW.ret ?_
    obtain rfl := sm hr
    exact ⟨_, res1 rfl rfl rfl, H.ext0, rfl, (by decide : I64 1)⟩
  · skip
    have hr := ifn h1 hr
    refine CW.skip ?_
    refine CW.seq (CW.reg ?_)
    refine WL.ev rfl rfl (Ev.as rfl rfl) (WL.nil ?_)
    refine CW.ret ?_
    obtain rfl := sm hr
    exact ⟨_, res1 rfl rfl rfl, H.ext0, rfl, (by decide : I64 0)⟩

noncomputable def sCoerce_m (a0 : Int) (a1 : Int) : Option Int :=
  if a1 = 1 then (
  (sSaturate_m a0).bind fun y1 =>
  some y1
  ) else (
  if a1 = 2 then (
  some (goAnd a0 4095)
  ) else (
  if a1 = 3 then (
  (sl3Truth_m (!(decide (a0 = 0)))).bind fun y2 =>
  some y2
  ) else (
  if a1 = 4 then (
  (sl1In_m a0 0 999).bind fun y3 =>
  if y3 = true then (
  some a0
  ) else (
  some 0
  )
  ) else (
  some 0
  )
  )
  )
  )
theorem sCoerce_ok {a0 : Int} {a1 : Int} {r : Int} (hr : sCoerce_m a0 a1 = some r) {F0 : Nat → Prop} {w0 : World} (ha0 : I64 a0) (ha1 : I64 a1) :
    Ret Try.prog 178 #[.int .i64 a0, .int .i64 a1] w0 (fun _ => False) fun v w => v = .int .i64 r ∧ I64 r := by
  have H := HL.start F0 w0
  refine enter Try.func178 rfl rfl rfl ?_
  refine CW.seq (CW.reg ?_)
  refine WL.ev rfl rfl (Ev.as rfl rfl) (WL.nil ?_)
  refine CW.seq (CW.seq (CW.reg ?_))
  refine WL.ev rfl rfl (Ev.mv rfl rfl) (WL.nil ?_)
  refine CW.block (CW.seq (CW.reg ?_))
  refine WL.ev rfl rfl (Ev.bin rfl rfl rfl Bin.eql) (WL.ev rfl rfl (Ev.as rfl rfl) (WL.nil ?_))
  refine CW.condD rfl (fun h1 => ?_) (fun h1 => ?_)
  · skip
    have hr := ifp h1 hr
    refine CW.seq (CW.reg ?_)
    refine WL.ev rfl rfl (Ev.mv rfl rfl) ?_
    obtain ⟨y1, hy1, hr⟩ := bd hr
    refine WL.call rfl rfl rfl rfl rfl ok179 rfl (sSaturate_ok hy1 (F0 := fun _ => False) ha0) ?_
    rintro _ w1 hE ⟨rfl, hI1⟩
    have H := H.ext hE
    refine WL.ev rfl rfl (Ev.as rfl rfl) (WL.nil ?_)
    refine CW.ret ?_
    obtain rfl := sm hr
    exact ⟨_, res1 rfl rfl rfl, H.ext0, rfl, hI1⟩
  · skip
    have hr := ifn h1 hr
    refine CW.seq (CW.reg ?_)
    refine WL.ev rfl rfl (Ev.bin rfl rfl rfl Bin.eql) (WL.ev rfl rfl (Ev.as rfl rfl) (WL.nil ?_))
    refine CW.condD rfl (fun h2 => ?_) (fun h2 => ?_)
    · skip
      have hr := ifp h2 hr
      refine CW.seq (CW.reg ?_)
      refine WL.ev rfl rfl (Ev.mv rfl rfl) (WL.ev rfl rfl (Ev.bin rfl rfl rfl Bin.andT) (WL.ev rfl rfl (Ev.as rfl rfl) (WL.nil ?_)))
      refine CW.ret ?_
      obtain rfl := sm hr
      exact ⟨_, res1 rfl rfl rfl, H.ext0, rfl, (i64_wrap _)⟩
    · skip
      have hr := ifn h2 hr
      refine CW.seq (CW.reg ?_)
      refine WL.ev rfl rfl (Ev.bin rfl rfl rfl Bin.eql) (WL.ev rfl rfl (Ev.as rfl rfl) (WL.nil ?_))
      refine CW.condD rfl (fun h3 => ?_) (fun h3 => ?_)
      · skip
        have hr := ifp h3 hr
        refine CW.seq (CW.reg ?_)
        refine WL.ev rfl rfl (Ev.mv rfl rfl) (WL.ev rfl rfl (Ev.bin rfl rfl rfl Bin.neq) ?_)
        obtain ⟨y2, hy2, hr⟩ := bd hr
        refine WL.call rfl rfl rfl rfl rfl ok180 rfl (sl3Truth_ok hy2 (F0 := fun _ => False)) ?_
        rintro _ w2 hE ⟨rfl, hI2⟩
        have H := H.ext hE
        refine WL.ev rfl rfl (Ev.as rfl rfl) (WL.nil ?_)
        refine CW.ret ?_
        obtain rfl := sm hr
        exact ⟨_, res1 rfl rfl rfl, H.ext0, rfl, hI2⟩
      · skip
        have hr := ifn h3 hr
        refine CW.seq (CW.reg ?_)
        refine WL.ev rfl rfl (Ev.bin rfl rfl rfl Bin.eql) (WL.ev rfl rfl (Ev.as rfl rfl) (WL.nil ?_))
        refine CW.condD rfl (fun h4 => ?_) (fun h4 => ?_)
        · skip
          have hr := ifp h4 hr
          refine CW.seq (CW.reg ?_)
          refine WL.ev rfl rfl (Ev.mv rfl rfl) ?_
          obtain ⟨y3, hy3, hr⟩ := bd hr
          refine WL.call rfl rfl rfl rfl rfl ok112 rfl (sl1In_ok hy3 (F0 := fun _ => False) ha0 (by decide : I64 0) (by decide : I64 999)) ?_
          rintro _ w3 hE rfl
          have H := H.ext hE
          refine WL.nil ?_
          refine CW.condB rfl (fun h5 => ?_) (fun h5 => ?_)
          · skip
            have hr := ifp h5 hr
            refine CW.seq (CW.reg ?_)
            refine WL.ev rfl rfl (Ev.mv rfl rfl) (WL.ev rfl rfl (Ev.as rfl rfl) (WL.nil ?_))
            refine CW.ret ?_
            obtain rfl := sm hr
            exact ⟨_, res1 rfl rfl rfl, H.ext0, rfl, ha0⟩
          · skip
            have hr := ifn h5 hr
            refine CW.skip ?_
            refine CW.seq (CW.reg ?_)
            refine WL.ev rfl rfl (Ev.as rfl rfl) (WL.nil ?_)
            refine CW.ret ?_
            obtain rfl := sm hr
            exact ⟨_, res1 rfl rfl rfl, H.ext0, rfl, (by decide : I64 0)⟩
        · skip
          have hr := ifn h4 hr
          refine CW.skip ?_
          refine CW.seq (CW.reg ?_)
          refine WL.ev rfl rfl (Ev.as rfl rfl) (WL.nil ?_)
          refine CW.ret ?_
          obtain rfl := sm hr
          exact ⟨_, res1 rfl rfl rfl, H.ext0, rfl, (by decide : I64 0)⟩

noncomputable def sIsOfType_m (a0 : Int) (a1 : Int) : Option Bool :=
  (sl1In_m a1 1 4).bind fun y1 =>
  if y1 = true then (
  (sCoerce_m a0 a1).bind fun y2 =>
  some (decide (y2 = a0))
  ) else (
  some false
  )
theorem sIsOfType_ok {a0 : Int} {a1 : Int} {r : Bool} (hr : sIsOfType_m a0 a1 = some r) {F0 : Nat → Prop} {w0 : World} (ha0 : I64 a0) (ha1 : I64 a1) :
    Ret Try.prog 183 #[.int .i64 a0, .int .i64 a1] w0 (fun _ => False) fun v w => v = .bool r := by
  have H := HL.start F0 w0
  refine enter Try.func183 rfl rfl rfl ?_
  refine CW.seq (CW.reg ?_)
  refine WL.ev rfl rfl (Ev.as rfl rfl) (WL.nil ?_)
  refine CW.seq (CW.reg ?_)
  refine WL.ev rfl rfl (Ev.mv rfl rfl) ?_
  obtain ⟨y1, hy1, hr⟩ := bd hr
  refine WL.call rfl rfl rfl rfl rfl ok112 rfl (sl1In_ok hy1 (F0 := fun _ => False) ha1 (by decide : I64 1) (by decide : I64 4)) ?_
  rintro _ w1 hE rfl
  have H := H.ext hE
  refine WL.mvB rfl rfl rfl rfl (fun h1 => ?_) (fun h1 => ?_)
  · skip
    have hr := ifp h1 hr
    refine WL.on rfl rfl (WL.ev rfl rfl (Ev.mv rfl rfl) (WL.on rfl rfl (WL.ev rfl rfl (Ev.mv rfl rfl) (WL.on rfl rfl ?_))))
    obtain ⟨y2, hy2, hr⟩ := bd hr
    refine WL.call rfl rfl rfl rfl rfl ok178 rfl (sCoerce_ok hy2 (F0 := fun _ => False) ha0 ha1) ?_
    rintro _ w2 hE ⟨rfl, hI1⟩
    have H := H.ext hE
    refine WL.on rfl rfl (WL.ev rfl rfl (Ev.mv rfl rfl) (WL.on rfl rfl (WL.ev rfl rfl (Ev.bin rfl rfl rfl Bin.eql) (WL.ev rfl rfl (Ev.pickT rfl rfl rfl) (WL.ev rfl rfl (Ev.as rfl rfl) (WL.nil ?_))))))
    refine CW.ret ?_
    obtain rfl := sm hr
    exact ⟨_, res1 rfl rfl rfl, H.ext0, rfl⟩
  · skip
    have hr := ifn h1 hr
    refine WL.off rfl rfl rfl (WL.off rfl rfl rfl (WL.off rfl rfl rfl (WL.off rfl rfl rfl (WL.off rfl rfl rfl (WL.ev rfl rfl (Ev.pickF rfl rfl rfl) (WL.ev rfl rfl (Ev.as rfl rfl) (WL.nil ?_)))))))
    refine CW.ret ?_
    obtain rfl := sm hr
    exact ⟨_, res1 rfl rfl rfl, H.ext0, rfl⟩

noncomputable def sl2Shape_L1 (a0 : ByteArray) : Nat → Unit → Option (Unit ⊕ Bool) := fun k1 _ => 
  (a0.data[k1]?).bind fun x1 =>
  (
  if 97 ≤ (x1.toNat : Int) then (
  some (decide ((x1.toNat : Int) ≤ 122))
  ) else (
  some false
  )
  ).bind fun s1 =>
  (
  if 48 ≤ (x1.toNat : Int) then (
  some (decide ((x1.toNat : Int) ≤ 57))
  ) else (
  some false
  )
  ).bind fun s2 =>
  (
  if s1 = true then (
  some false
  ) else (
  (
  if (k1 : Int) = 0 then (
  some (true, true)
  ) else (
  some (false, !s2)
  )
  ).bind fun (s4, s5) =>
  some s5
  )
  ).bind fun s3 =>
  if s3 = true then (
  some (.inr false)
  ) else (
  some (.inl ())
  )
noncomputable def sl2Shape_m (a0 : ByteArray) : Option Bool :=
  (findN (sl2Shape_L1 a0) 0 (a0.size) ()).bind <| onr (fun r1 => some r1) fun _ =>
  some (decide (0 < (a0.size : Int)))
theorem sl2Shape_ok {a0 : ByteArray} {r : Bool} (hr : sl2Shape_m a0 = some r) {F0 : Nat → Prop} {w0 : World} (ha0 : a0.size ≤ 9223372036854775807) :
    Ret Try.prog 203 #[.string a0] w0 (fun _ => False) fun v w => v = .bool r := by
  have H := HL.start F0 w0
  refine enter Try.func203 rfl rfl rfl ?_
  refine CW.seq (CW.reg ?_)
  refine WL.ev rfl rfl (Ev.as rfl rfl) (WL.nil ?_)
  refine CW.seq (CW.seq (CW.reg ?_))
  refine WL.ev rfl rfl (Ev.as rfl rfl) (WL.nil ?_)
  obtain ⟨q1, hq1, hr⟩ := bd hr
  refine CW.block (CW.loop (α := Nat) (fun k1 => [(0, .string a0), (3, .int .i64 (k1 : Int))]) (fun k1 w => k1 ≤ a0.size ∧ findN (sl2Shape_L1 a0) k1 (a0.size - k1) () = some q1 ∧ HL F0 [] w0 w [] []) (fun k1 => a0.size - k1) 0 ⟨rfl, rfl, trivial⟩ ⟨Nat.zero_le _, hq1, H.keep 0 0⟩ ?_)
  rintro k1 σ w1 ⟨hk1, hq1, H⟩
  refine CW.seq (CW.seq (CW.reg ?_))
  refine WL.ev rfl rfl (Ev.mv rfl rfl) (WL.ev rfl rfl (Ev.mv rfl rfl) (WL.ev rfl rfl (Ev.lenB rfl Try.underlying9 rfl) (WL.ev rfl rfl (Ev.bin rfl rfl rfl Bin.lss) (WL.nil ?_))))
  refine CW.condD rfl (fun h1 => ?_) (fun h1 => ?_)
  · skip
    have hk2 := cast_lt h1
    obtain ⟨z1, hb1, hs1, ht1⟩ := findN_go hq1 hk2
    refine CW.skip ?_
    refine CW.seq (CW.block (CW.seq (CW.reg ?_)))
    refine WL.ev rfl rfl (Ev.mv rfl rfl) (WL.ev rfl rfl (Ev.mv rfl rfl) ?_)
    obtain ⟨x1, hx1, hb1⟩ := bd hb1
    refine WL.ev rfl rfl (Ev.sIx rfl Try.underlying9 rfl rfl hx1) (WL.ev rfl rfl (Ev.bin rfl rfl rfl Bin.geq) ?_)
    obtain ⟨q2, hm1, hb1⟩ := bd hb1
    refine WL.cut 6 (fun ρ' w => ∃ (s1 : Bool), s1 = q2 ∧ agree ρ' [(0, .string a0), (3, .int .i64 (k1 : Int)), (21, .bool s1)] ∧ HL F0 [] w0 w [] []) ?_ ?_
    · skip
      refine WL.mvD rfl rfl rfl rfl (fun h2 => ?_) (fun h2 => ?_)
      · skip
        have hm1 := ifp h2 hm1
        refine WL.on rfl rfl (WL.ev rfl rfl (Ev.mv rfl rfl) (WL.on rfl rfl (WL.ev rfl rfl (Ev.mv rfl rfl) (WL.on rfl rfl (WL.ev rfl rfl (Ev.sIx rfl Try.underlying9 rfl rfl hx1) (WL.on rfl rfl (WL.ev rfl rfl (Ev.bin rfl rfl rfl Bin.leq) (WL.ev rfl rfl (Ev.pickT rfl rfl rfl) (WL.nil ?_)))))))))
        obtain rfl := sm hm1
        exact ⟨(decide ((x1.toNat : Int) ≤ 122)), rfl, ⟨rfl, rfl, rfl, trivial⟩, H.keep 0 0⟩
      · skip
        have hm1 := ifn h2 hm1
        refine WL.off rfl rfl rfl (WL.off rfl rfl rfl (WL.off rfl rfl rfl (WL.off rfl rfl rfl (WL.ev rfl rfl (Ev.pickF rfl rfl rfl) (WL.nil ?_)))))
        obtain rfl := sm hm1
        exact ⟨false, rfl, ⟨rfl, rfl, rfl, trivial⟩, H.keep 0 0⟩
    · rintro ρ' w2 ⟨s1, rfl, hag, H⟩
      obtain ⟨σ, rfl⟩ := ofL_ex hag
      refine WL.ev rfl rfl (Ev.as rfl rfl) (WL.nil ?_)
      refine CW.seq (CW.reg ?_)
      refine WL.ev rfl rfl (Ev.mv rfl rfl) (WL.ev rfl rfl (Ev.mv rfl rfl) (WL.ev rfl rfl (Ev.sIx rfl Try.underlying9 rfl rfl hx1) (WL.ev rfl rfl (Ev.bin rfl rfl rfl Bin.geq) ?_)))
      obtain ⟨q3, hm2, hb1⟩ := bd hb1
      refine WL.cut 6 (fun ρ' w => ∃ (s2 : Bool), s2 = q3 ∧ agree ρ' [(0, .string a0), (3, .int .i64 (k1 : Int)), (4, .bool s1), (31, .bool s2)] ∧ HL F0 [] w0 w [] []) ?_ ?_
      · skip
        refine WL.mvD rfl rfl rfl rfl (fun h3 => ?_) (fun h3 => ?_)
        · skip
          have hm2 := ifp h3 hm2
          refine WL.on rfl rfl (WL.ev rfl rfl (Ev.mv rfl rfl) (WL.on rfl rfl (WL.ev rfl rfl (Ev.mv rfl rfl) (WL.on rfl rfl (WL.ev rfl rfl (Ev.sIx rfl Try.underlying9 rfl rfl hx1) (WL.on rfl rfl (WL.ev rfl rfl (Ev.bin rfl rfl rfl Bin.leq) (WL.ev rfl rfl (Ev.pickT rfl rfl rfl) (WL.nil ?_)))))))))
          obtain rfl := sm hm2
          exact ⟨(decide ((x1.toNat : Int) ≤ 57)), rfl, ⟨rfl, rfl, rfl, rfl, trivial⟩, H.keep 0 0⟩
        · skip
          have hm2 := ifn h3 hm2
          refine WL.off rfl rfl rfl (WL.off rfl rfl rfl (WL.off rfl rfl rfl (WL.off rfl rfl rfl (WL.ev rfl rfl (Ev.pickF rfl rfl rfl) (WL.nil ?_)))))
          obtain rfl := sm hm2
          exact ⟨false, rfl, ⟨rfl, rfl, rfl, rfl, trivial⟩, H.keep 0 0⟩
      · rintro ρ' w3 ⟨s2, rfl, hag, H⟩
        obtain ⟨σ, rfl⟩ := ofL_ex hag
        refine WL.ev rfl rfl (Ev.as rfl rfl) (WL.nil ?_)
        refine CW.seq (CW.reg ?_)
        refine WL.ev rfl rfl (Ev.mv rfl rfl) (WL.ev rfl rfl (Ev.not rfl rfl) ?_)
        obtain ⟨q4, hm3, hb1⟩ := bd hb1
        refine WL.cut 8 (fun ρ' w => ∃ (s3 : Bool), s3 = q4 ∧ agree ρ' [(0, .string a0), (3, .int .i64 (k1 : Int)), (41, .bool s3)] ∧ HL F0 [] w0 w [] []) ?_ ?_
        · skip
          refine WL.mvBN rfl rfl rfl rfl (fun h4 => ?_) (fun h4 => ?_)
          · skip
            have hm3 := ifn h4 hm3
            refine WL.on rfl rfl (WL.ev rfl rfl (Ev.mv rfl rfl) (WL.on rfl rfl (WL.ev rfl rfl (Ev.bin rfl rfl rfl Bin.eql) (WL.on rfl rfl ?_))))
            obtain ⟨q5, hm4, hm3⟩ := bd hm3
            refine WL.cut 4 (fun ρ' w => ∃ (s4 : Bool) (s5 : Bool), q5 = (s4, s5) ∧ agree ρ' [(0, .string a0), (3, .int .i64 (k1 : Int)), (34, .bool true), (35, .int .i64 (k1 : Int)), (36, .bool (decide ((k1 : Int) = 0))), (37, .bool s4), (40, .bool s5)] ∧ HL F0 [] w0 w [] []) ?_ ?_
            · skip
              refine WL.on rfl rfl ?_
              refine WL.mvD rfl rfl rfl rfl (fun h5 => ?_) (fun h5 => ?_)
              · skip
                have hm4 := ifp h5 hm4
                refine WL.off rfl rfl rfl (WL.off rfl rfl rfl (WL.on rfl rfl (WL.ev rfl rfl (Ev.pickT rfl rfl rfl) (WL.nil ?_))))
                obtain rfl := sm hm4
                exact ⟨true, true, rfl, ⟨rfl, rfl, rfl, rfl, rfl, rfl, rfl, trivial⟩, H.keep 0 0⟩
              · skip
                have hm4 := ifn h5 hm4
                refine WL.on rfl rfl (WL.ev rfl rfl (Ev.mv rfl rfl) (WL.on rfl rfl (WL.ev rfl rfl (Ev.not rfl rfl) (WL.on rfl rfl (WL.ev rfl rfl (Ev.pickF rfl rfl rfl) (WL.nil ?_))))))
                obtain rfl := sm hm4
                exact ⟨false, (!s2), rfl, ⟨rfl, rfl, rfl, rfl, rfl, rfl, rfl, trivial⟩, H.keep 0 0⟩
            · rintro ρ' w4 ⟨s4, s5, rfl, hag, H⟩
              obtain ⟨σ, rfl⟩ := ofL_ex hag
              refine WL.ev rfl rfl (Ev.pickT rfl rfl rfl) (WL.nil ?_)
              obtain rfl := sm hm3
              exact ⟨s5, rfl, ⟨rfl, rfl, rfl, trivial⟩, H.keep 0 0⟩
          · skip
            have hm3 := ifp h4 hm3
            refine WL.off rfl rfl rfl (WL.off rfl rfl rfl (WL.off rfl rfl rfl (WL.off rfl rfl rfl (WL.off rfl rfl rfl (WL.off rfl rfl rfl (WL.ev rfl rfl (Ev.pickF rfl rfl rfl) (WL.nil ?_)))))))
            obtain rfl := sm hm3
            exact ⟨false, rfl, ⟨rfl, rfl, rfl, trivial⟩, H.keep 0 0⟩
        · rintro ρ' w5 ⟨s3, rfl, hag, H⟩
          obtain ⟨σ, rfl⟩ := ofL_ex hag
          refine WL.nil ?_
          refine CW.condB rfl (fun h6 => ?_) (fun h6 => ?_)
          · skip
            have hb1 := ifp h6 hb1
            refine CW.seq (CW.reg ?_)
            refine WL.ev rfl rfl (Ev.as rfl rfl) (WL.nil ?_)
            refine CW.ret ?_
            obtain rfl := sm hb1
            obtain rfl := ht1 _ rfl
            obtain rfl := sm hr
            exact ⟨_, res1 rfl rfl rfl, H.ext0, rfl⟩
          · skip
            have hb1 := ifn h6 hb1
            refine CW.skip ?_
            refine CW.reg ?_
            refine WL.ev rfl rfl (Ev.mv rfl rfl) (WL.ev rfl rfl (Ev.bin rfl rfl rfl (Bin.addN (a := k1) (b := 1) rfl (i64_succN hk2 (i64_size ha0).2))) (WL.ev rfl rfl (Ev.as rfl rfl) (WL.nil ?_)))
            obtain rfl := sm hb1
            have hq1 := hs1 _ rfl
            exact ⟨(k1 + 1), ⟨rfl, rfl, trivial⟩, ⟨hk2, hq1, H.keep 0 0⟩, Nat.sub_lt_sub_left hk2 (Nat.lt_succ_self _)⟩
  · skip
    obtain rfl := findN_end hq1 (not_cast_lt h1)
    have hr := (onr_inl _ _ _).symm.trans hr
    refine CW.exit ?_
    refine CW.seq (CW.reg ?_)
    refine WL.ev rfl rfl (Ev.mv rfl rfl) (WL.ev rfl rfl (Ev.lenB rfl Try.underlying9 rfl) (WL.ev rfl rfl (Ev.bin rfl rfl rfl Bin.gtr) (WL.ev rfl rfl (Ev.as rfl rfl) (WL.nil ?_))))
    refine CW.ret ?_
    obtain rfl := sm hr
    exact ⟨_, res1 rfl rfl rfl, H.ext0, rfl⟩

noncomputable def sl2Reserved_m : Option (List ByteArray) :=
  some [(⟨#[105, 102]⟩ : ByteArray), (⟨#[116, 104, 101, 110]⟩ : ByteArray), (⟨#[101, 108, 115, 101]⟩ : ByteArray), (⟨#[116, 114, 117, 101]⟩ : ByteArray), (⟨#[102, 97, 108, 115, 101]⟩ : ByteArray), (⟨#[108, 105, 116]⟩ : ByteArray), (⟨#[110, 111, 110, 101]⟩ : ByteArray), (⟨#[115, 101, 108, 102]⟩ : ByteArray), (⟨#[111, 102]⟩ : ByteArray), (⟨#[109, 97, 120]⟩ : ByteArray), (⟨#[109, 105, 110]⟩ : ByteArray), (⟨#[119, 105, 116, 104]⟩ : ByteArray), (⟨#[104, 97, 115]⟩ : ByteArray)]
theorem sl2Reserved_ok {r : (List ByteArray)} (hr : sl2Reserved_m = some r) {F0 : Nat → Prop} {w0 : World} :
    Ret Try.prog 210 #[] w0 (fun _ => False) fun v w => ∃ A0 : Option Addr, ∃ n0 c0 : Nat, v = (.slice A0 n0 c0) ∧ HL F0 [] w0 w [] [It.O 9 r (.slice A0 n0 c0)] := by
  have H := HL.start F0 w0
  refine enter Try.func210 rfl rfl rfl ?_
  refine CW.seq (CW.reg ?_)
  refine WL.ev rfl rfl (Ev.as rfl rfl) (WL.nil ?_)
  refine CW.seq (CW.reg ?_)
  refine WL.litN (xs := [(⟨#[105, 102]⟩ : ByteArray), (⟨#[116, 104, 101, 110]⟩ : ByteArray), (⟨#[101, 108, 115, 101]⟩ : ByteArray), (⟨#[116, 114, 117, 101]⟩ : ByteArray), (⟨#[102, 97, 108, 115, 101]⟩ : ByteArray), (⟨#[108, 105, 116]⟩ : ByteArray), (⟨#[110, 111, 110, 101]⟩ : ByteArray), (⟨#[115, 101, 108, 102]⟩ : ByteArray), (⟨#[111, 102]⟩ : ByteArray), (⟨#[109, 97, 120]⟩ : ByteArray), (⟨#[109, 105, 110]⟩ : ByteArray), (⟨#[119, 105, 116, 104]⟩ : ByteArray), (⟨#[104, 97, 115]⟩ : ByteArray)]) rfl rfl rfl el82 sz9 ze9 rfl (ball1 rfl (ball1 rfl (ball1 rfl (ball1 rfl (ball1 rfl (ball1 rfl (ball1 rfl (ball1 rfl (ball1 rfl (ball1 rfl (ball1 rfl (ball1 rfl (ball1 rfl ball0))))))))))))) rfl rfl rfl (fun _ => (ownL.cons1 (α := ByteArray) ⟨rfl, rfl, (by decide : (⟨#[105, 102]⟩ : ByteArray).size ≤ 9223372036854775807)⟩ (ownL.cons1 (α := ByteArray) ⟨rfl, rfl, (by decide : (⟨#[116, 104, 101, 110]⟩ : ByteArray).size ≤ 9223372036854775807)⟩ (ownL.cons1 (α := ByteArray) ⟨rfl, rfl, (by decide : (⟨#[101, 108, 115, 101]⟩ : ByteArray).size ≤ 9223372036854775807)⟩ (ownL.cons1 (α := ByteArray) ⟨rfl, rfl, (by decide : (⟨#[116, 114, 117, 101]⟩ : ByteArray).size ≤ 9223372036854775807)⟩ (ownL.cons1 (α := ByteArray) ⟨rfl, rfl, (by decide : (⟨#[102, 97, 108, 115, 101]⟩ : ByteArray).size ≤ 9223372036854775807)⟩ (ownL.cons1 (α := ByteArray) ⟨rfl, rfl, (by decide : (⟨#[108, 105, 116]⟩ : ByteArray).size ≤ 9223372036854775807)⟩ (ownL.cons1 (α := ByteArray) ⟨rfl, rfl, (by decide : (⟨#[110, 111, 110, 101]⟩ : ByteArray).size ≤ 9223372036854775807)⟩ (ownL.cons1 (α := ByteArray) ⟨rfl, rfl, (by decide : (⟨#[115, 101, 108, 102]⟩ : ByteArray).size ≤ 9223372036854775807)⟩ (ownL.cons1 (α := ByteArray) ⟨rfl, rfl, (by decide : (⟨#[111, 102]⟩ : ByteArray).size ≤ 9223372036854775807)⟩ (ownL.cons1 (α := ByteArray) ⟨rfl, rfl, (by decide : (⟨#[109, 97, 120]⟩ : ByteArray).size ≤ 9223372036854775807)⟩ (ownL.cons1 (α := ByteArray) ⟨rfl, rfl, (by decide : (⟨#[109, 105, 110]⟩ : ByteArray).size ≤ 9223372036854775807)⟩ (ownL.cons1 (α := ByteArray) ⟨rfl, rfl, (by decide : (⟨#[119, 105, 116, 104]⟩ : ByteArray).size ≤ 9223372036854775807)⟩ (ownL.cons1 (α := ByteArray) ⟨rfl, rfl, (by decide : (⟨#[104, 97, 115]⟩ : ByteArray).size ≤ 9223372036854775807)⟩ ⟨rfl, rfl⟩)))))))))))))) rfl H fun A1 n1 c1 w1 H => ?_
  refine WL.ev rfl rfl (Ev.as rfl rfl) (WL.nil ?_)
  refine CW.ret ?_
  obtain rfl := sm hr
  exact ⟨_, res1 rfl rfl rfl, H.ext0, _, _, _, rfl, H.outM (fr' := []) [true] fun _ _ => trivial⟩

noncomputable def sl1Has_L1 (a1 : ByteArray) : Nat → ByteArray → Unit → Option (Unit ⊕ Bool) := fun k1 x1 _ => 
  if x1 = a1 then (
  some (.inr true)
  ) else (
  some (.inl ())
  )
noncomputable def sl1Has_m (a0 : (List ByteArray)) (a1 : ByteArray) : Option Bool :=
  (findL (sl1Has_L1 a1) 0 a0 ()).bind <| onr (fun r1 => some r1) fun _ =>
  some false
theorem sl1Has_ok {a0 : (List ByteArray)} {a1 : ByteArray} {r : Bool} (hr : sl1Has_m a0 a1 = some r) {F0 : Nat → Prop} {w0 : World} {z0 : Value} (ha0 : rdS F0 w0 a0 z0) (ha1 : a1.size ≤ 9223372036854775807) :
    Ret Try.prog 125 #[z0, .string a1] w0 (fun _ => False) fun v w => v = .bool r := by
  obtain ⟨A0', n0', c0', rfl⟩ := ha0.form3
  have H := (HL.start F0 w0).argS ha0
  refine enter Try.func125 rfl rfl rfl ?_
  refine CW.seq (CW.reg ?_)
  refine WL.ev rfl rfl (Ev.as rfl rfl) (WL.nil ?_)
  refine CW.seq (CW.seq (CW.reg ?_))
  refine WL.ev rfl rfl (Ev.as rfl rfl) (WL.nil ?_)
  obtain ⟨q1, hq1, hr⟩ := bd hr
  refine CW.block (CW.loop (α := Nat) (fun k1 => [(0, .slice A0' n0' c0'), (1, .string a1), (5, .int .i64 (k1 : Int))]) (fun k1 w => k1 ≤ a0.length ∧ findL (sl1Has_L1 a1) k1 (a0.drop k1) () = some q1 ∧ HL F0 [] w0 w [Pr.S a0 (.slice A0' n0' c0')] []) (fun k1 => a0.length - k1) 0 ⟨rfl, rfl, rfl, trivial⟩ ⟨Nat.zero_le _, hq1, H.keep 1 0⟩ ?_)
  rintro k1 σ w1 ⟨hk1, hq1, H⟩
  refine CW.seq (CW.seq (CW.reg ?_))
  refine WL.ev rfl rfl (Ev.mv rfl rfl) (WL.ev rfl rfl (Ev.mv rfl rfl) ?_)
  have hl1 := (H.rS (i := 0) rfl).I
  refine WL.ev rfl rfl (Ev.lenV rfl el82 rfl (H.rS (i := 0) rfl)) (WL.ev rfl rfl (Ev.bin rfl rfl rfl Bin.lss) (WL.nil ?_))
  refine CW.condD rfl (fun h1 => ?_) (fun h1 => ?_)
  · skip
    have hk2 := cast_lt h1
    obtain ⟨x1, z1, hx1, hb1, hs1, ht1⟩ := findL_go hq1 hk2
    refine CW.skip ?_
    refine CW.seq (CW.block (CW.seq (CW.reg ?_)))
    refine WL.ev rfl rfl (Ev.mv rfl rfl) (WL.ev rfl rfl (Ev.mv rfl rfl) ?_)
    obtain ⟨b1, ob1, cb1, hvb1, hS1, H⟩ := ixS_Str H (i := 0) rfl hx1
    refine WL.ev rfl rfl (Ev.ixVN rfl el82 sz9 rfl hvb1 rfl (lt_of hx1)) (WL.ev rfl rfl (Ev.ld rfl ag9 rfl ((H.rA (i := 1) rfl).cell0 rfl)) (WL.ev rfl rfl (Ev.mv rfl rfl) (WL.ev rfl rfl (Ev.bin rfl rfl rfl Bin.eqlS) (WL.nil ?_))))
    refine CW.condD rfl (fun h2 => ?_) (fun h2 => ?_)
    · skip
      have hb1 := ifp h2 hb1
      refine CW.seq (CW.reg ?_)
      refine WL.ev rfl rfl (Ev.as rfl rfl) (WL.nil ?_)
      refine CW.ret ?_
      obtain rfl := sm hb1
      obtain rfl := ht1 _ rfl
      obtain rfl := sm hr
      exact ⟨_, res1 rfl rfl rfl, H.ext0, rfl⟩
    · skip
      have hb1 := ifn h2 hb1
      refine CW.skip ?_
      refine CW.reg ?_
      refine WL.ev rfl rfl (Ev.mv rfl rfl) (WL.ev rfl rfl (Ev.bin rfl rfl rfl (Bin.addN (a := k1) (b := 1) rfl (i64_succN hk2 hl1.2))) (WL.ev rfl rfl (Ev.as rfl rfl) (WL.nil ?_)))
      obtain rfl := sm hb1
      have hq1 := hs1 _ rfl
      exact ⟨(k1 + 1), ⟨rfl, rfl, rfl, trivial⟩, ⟨hk2, hq1, H.keep 1 0⟩, Nat.sub_lt_sub_left hk2 (Nat.lt_succ_self _)⟩
  · skip
    obtain rfl := findL_end hq1 (not_cast_lt h1)
    have hr := (onr_inl _ _ _).symm.trans hr
    refine CW.exit ?_
    refine CW.seq (CW.reg ?_)
    refine WL.ev rfl rfl (Ev.as rfl rfl) (WL.nil ?_)
    refine CW.ret ?_
    obtain rfl := sm hr
    exact ⟨_, res1 rfl rfl rfl, H.ext0, rfl⟩

noncomputable def sIsReserved_m (a0 : ByteArray) : Option Bool :=
  (sl2Reserved_m).bind fun y1 =>
  (sl1Has_m y1 a0).bind fun y2 =>
  some y2
theorem sIsReserved_ok {a0 : ByteArray} {r : Bool} (hr : sIsReserved_m a0 = some r) {F0 : Nat → Prop} {w0 : World} (ha0 : a0.size ≤ 9223372036854775807) :
    Ret Try.prog 204 #[.string a0] w0 (fun _ => False) fun v w => v = .bool r := by
  have H := HL.start F0 w0
  refine enter Try.func204 rfl rfl rfl ?_
  refine CW.seq (CW.reg ?_)
  refine WL.ev rfl rfl (Ev.as rfl rfl) (WL.nil ?_)
  refine CW.seq (CW.reg ?_)
  obtain ⟨y1, hy1, hr⟩ := bd hr
  refine WL.call rfl rfl rfl rfl rfl ok210 rfl (sl2Reserved_ok hy1 (F0 := fun _ => False)) ?_
  rintro _ w1 hE ⟨A1, n1, c1, rfl, H'⟩
  have H := H.callA H' ⟨fun _ _ _ _ _ h => h, trivial⟩
  refine WL.ev rfl rfl (Ev.mv rfl rfl) ?_
  obtain ⟨y2, hy2, hr⟩ := bd hr
  refine WL.call rfl rfl rfl rfl rfl ok125 rfl (sl1Has_ok hy2 (H.rO (i := 0) rfl) ha0) ?_
  rintro _ w2 hE rfl
  have H := H.ext hE
  refine WL.ev rfl rfl (Ev.as rfl rfl) (WL.nil ?_)
  refine CW.ret ?_
  obtain rfl := sm hr
  exact ⟨_, res1 rfl rfl rfl, H.ext0, rfl⟩

noncomputable def sIsValidName_m (a0 : ByteArray) : Option Bool :=
  (sl2Shape_m a0).bind fun y1 =>
  (
  if y1 = true then (
  some (decide ((a0.size : Int) ≤ 8))
  ) else (
  some false
  )
  ).bind fun s1 =>
  (
  if s1 = true then (
  (sIsReserved_m a0).bind fun y2 =>
  some (!y2)
  ) else (
  some false
  )
  ).bind fun s2 =>
  some s2
theorem sIsValidName_ok {a0 : ByteArray} {r : Bool} (hr : sIsValidName_m a0 = some r) {F0 : Nat → Prop} {w0 : World} (ha0 : a0.size ≤ 9223372036854775807) :
    Ret Try.prog 184 #[.string a0] w0 (fun _ => False) fun v w => v = .bool r := by
  have H := HL.start F0 w0
  refine enter Try.func184 rfl rfl rfl ?_
  refine CW.seq (CW.reg ?_)
  refine WL.ev rfl rfl (Ev.as rfl rfl) (WL.nil ?_)
  refine CW.seq (CW.reg ?_)
  refine WL.ev rfl rfl (Ev.mv rfl rfl) ?_
  obtain ⟨y1, hy1, hr⟩ := bd hr
  refine WL.call rfl rfl rfl rfl rfl ok203 rfl (sl2Shape_ok hy1 (F0 := fun _ => False) ha0) ?_
  rintro _ w1 hE rfl
  have H := H.ext hE
  obtain ⟨q1, hm1, hr⟩ := bd hr
  refine WL.cut 5 (fun ρ' w => ∃ (s1 : Bool), s1 = q1 ∧ agree ρ' [(0, .string a0), (2, .bool false), (9, .bool s1)] ∧ HL F0 [] w0 w [] []) ?_ ?_
  · skip
    refine WL.mvB rfl rfl rfl rfl (fun h1 => ?_) (fun h1 => ?_)
    · skip
      have hm1 := ifp h1 hm1
      refine WL.on rfl rfl (WL.ev rfl rfl (Ev.mv rfl rfl) (WL.on rfl rfl (WL.ev rfl rfl (Ev.lenB rfl Try.underlying9 rfl) (WL.on rfl rfl (WL.ev rfl rfl (Ev.bin rfl rfl rfl Bin.leq) (WL.ev rfl rfl (Ev.pickT rfl rfl rfl) (WL.nil ?_)))))))
      obtain rfl := sm hm1
      exact ⟨(decide ((a0.size : Int) ≤ 8)), rfl, ⟨rfl, rfl, rfl, trivial⟩, H.keep 0 0⟩
    · skip
      have hm1 := ifn h1 hm1
      refine WL.off rfl rfl rfl (WL.off rfl rfl rfl (WL.off rfl rfl rfl (WL.ev rfl rfl (Ev.pickF rfl rfl rfl) (WL.nil ?_))))
      obtain rfl := sm hm1
      exact ⟨false, rfl, ⟨rfl, rfl, rfl, trivial⟩, H.keep 0 0⟩
  · rintro ρ' w2 ⟨s1, rfl, hag, H⟩
    obtain ⟨σ, rfl⟩ := ofL_ex hag
    obtain ⟨q2, hm2, hr⟩ := bd hr
    refine WL.cut 5 (fun ρ' w => ∃ (s2 : Bool), s2 = q2 ∧ agree ρ' [(2, .bool false), (14, .bool s2)] ∧ HL F0 [] w0 w [] []) ?_ ?_
    · skip
      refine WL.mvB rfl rfl rfl rfl (fun h2 => ?_) (fun h2 => ?_)
      · skip
        have hm2 := ifp h2 hm2
        refine WL.on rfl rfl (WL.ev rfl rfl (Ev.mv rfl rfl) (WL.on rfl rfl ?_))
        obtain ⟨y2, hy2, hm2⟩ := bd hm2
        refine WL.call rfl rfl rfl rfl rfl ok204 rfl (sIsReserved_ok hy2 (F0 := fun _ => False) ha0) ?_
        rintro _ w3 hE rfl
        have H := H.ext hE
        refine WL.on rfl rfl (WL.ev rfl rfl (Ev.not rfl rfl) (WL.ev rfl rfl (Ev.pickT rfl rfl rfl) (WL.nil ?_)))
        obtain rfl := sm hm2
        exact ⟨(!y2), rfl, ⟨rfl, rfl, trivial⟩, H.keep 0 0⟩
      · skip
        have hm2 := ifn h2 hm2
        refine WL.off rfl rfl rfl (WL.off rfl rfl rfl (WL.off rfl rfl rfl (WL.ev rfl rfl (Ev.pickF rfl rfl rfl) (WL.nil ?_))))
        obtain rfl := sm hm2
        exact ⟨false, rfl, ⟨rfl, rfl, trivial⟩, H.keep 0 0⟩
    · rintro ρ' w4 ⟨s2, rfl, hag, H⟩
      obtain ⟨σ, rfl⟩ := ofL_ex hag
      refine WL.ev rfl rfl (Ev.as rfl rfl) (WL.nil ?_)
      refine CW.ret ?_
      obtain rfl := sm hr
      exact ⟨_, res1 rfl rfl rfl, H.ext0, rfl⟩

noncomputable def sl4Node_m (a0 : Expr) : Option Bool :=
  (sl1In_m a0.Kind 1 8).bind fun y1 =>
  (
  if y1 = true then (
  (sl4Bare_m a0).bind fun y2 =>
  some (!y2)
  ) else (
  some true
  )
  ).bind fun s1 =>
  if s1 = true then (
  some false
  ) else (
  if a0.Kind = 1 then (
  (sl1In_m a0.Type_ 1 3).bind fun y3 =>
  (
  if y3 = true then (
  (sIsOfType_m a0.N a0.Type_).bind fun y4 =>
  some y4
  ) else (
  some false
  )
  ).bind fun s2 =>
  (
  if s2 = true then (
  some (decide (0 ≤ a0.N))
  ) else (
  some false
  )
  ).bind fun s3 =>
  some s3
  ) else (
  if a0.Kind = 3 then (
  (sl1In_m a0.Pos 0 3).bind fun y5 =>
  (
  if y5 = true then (
  (sIsValidName_m a0.Name).bind fun y6 =>
  some y6
  ) else (
  some false
  )
  ).bind fun s4 =>
  some s4
  ) else (
  if a0.Kind = 6 then (
  (sl1In_m a0.Pos 0 3).bind fun y7 =>
  some y7
  ) else (
  if a0.Kind = 4 then (
  (sl1In_m a0.N 1 12).bind fun y8 =>
  some y8
  ) else (
  if a0.Kind = 8 then (
  (sIsValidName_m a0.Symbol).bind fun y9 =>
  (
  if y9 = true then (
  (sIsValidName_m a0.Name).bind fun y10 =>
  some y10
  ) else (
  some false
  )
  ).bind fun s5 =>
  some s5
  ) else (
  some true
  )
  )
  )
  )
  )
  )
theorem sl4Node_ok {a0 : Expr} {r : Bool} (hr : sl4Node_m a0 = some r) {F0 : Nat → Prop} {w0 : World} {ca0 : List Value} (ha0 : rd F0 w0 a0 ca0) :
    Ret Try.prog 154 #[.agg ca0.toArray] w0 (fun _ => False) fun v w => v = .bool r := by
  have H := (HL.start F0 w0).argR ha0
  obtain ⟨A1, n1, c1, rfl, hI1, hI2, hI3, hI4, hS1, hS2, H⟩ := op_Expr H (i := 0) rfl
  refine enter Try.func154 rfl rfl rfl ?_
  refine CW.seq (CW.reg ?_)
  refine WL.boxH rfl rfl rfl rfl rfl H fun b1 w1 H => ?_
  refine WL.ev rfl rfl (Ev.as rfl rfl) (WL.nil ?_)
  refine CW.seq (CW.seq (CW.reg ?_))
  refine WL.ev rfl rfl (Ev.fa rfl fo31_0 rfl) (WL.ev rfl rfl (Ev.ld rfl ag3 rfl ((H.rB (i := 0) rfl).cell rfl)) ?_)
  obtain ⟨y1, hy1, hr⟩ := bd hr
  refine WL.call rfl rfl rfl rfl rfl ok112 rfl (sl1In_ok hy1 (F0 := fun _ => False) hI1 (by decide : I64 1) (by decide : I64 8)) ?_
  rintro _ w2 hE rfl
  have H := H.ext hE
  refine WL.ev rfl rfl (Ev.not rfl rfl) ?_
  obtain ⟨q1, hm1, hr⟩ := bd hr
  refine WL.cut 5 (fun ρ' w => ∃ (s1 : Bool), s1 = q1 ∧ agree ρ' [(1, .pointer (some ⟨b1, 0, none⟩)), (11, .bool s1)] ∧ HL F0 [] w0 w [Pr.R a0 [.int .i64 a0.Kind, .int .i64 a0.N, .int .i64 a0.Pos, .int .i64 a0.Type_, .string a0.Symbol, .string a0.Name, .slice A1 n1 c1], Pr.S a0.Args (.slice A1 n1 c1)] [It.B b1 31 [.int .i64 a0.Kind, .int .i64 a0.N, .int .i64 a0.Pos, .int .i64 a0.Type_, .string a0.Symbol, .string a0.Name, .slice A1 n1 c1]]) ?_ ?_
  · skip
    refine WL.mvBN rfl rfl rfl rfl (fun h1 => ?_) (fun h1 => ?_)
    · skip
      have hm1 := ifn h1 hm1
      refine WL.off rfl rfl rfl (WL.off rfl rfl rfl (WL.off rfl rfl rfl (WL.ev rfl rfl (Ev.pickT rfl rfl rfl) (WL.nil ?_))))
      obtain rfl := sm hm1
      exact ⟨true, rfl, ⟨rfl, rfl, trivial⟩, H.keep 2 1⟩
    · skip
      have hm1 := ifp h1 hm1
      refine WL.on rfl rfl (WL.ev rfl rfl (Ev.lda rfl ag31 sz31 rfl (At.blk (H.rB (i := 0) rfl)) rfl) (WL.on rfl rfl ?_))
      obtain ⟨y2, hy2, hm1⟩ := bd hm1
      refine WL.call rfl rfl rfl rfl rfl ok182 rfl (sl4Bare_ok hy2 (Expr_rd.2 ⟨_, rfl, hI1, hI2, hI3, hI4, hS1, hS2, (H.rS (i := 1) rfl)⟩)) ?_
      rintro _ w3 hE rfl
      have H := H.ext hE
      refine WL.on rfl rfl (WL.ev rfl rfl (Ev.not rfl rfl) (WL.ev rfl rfl (Ev.pickF rfl rfl rfl) (WL.nil ?_)))
      obtain rfl := sm hm1
      exact ⟨(!y2), rfl, ⟨rfl, rfl, trivial⟩, H.keep 2 1⟩
  · rintro ρ' w4 ⟨s1, rfl, hag, H⟩
    obtain ⟨σ, rfl⟩ := ofL_ex hag
    refine WL.nil ?_
    refine CW.condB rfl (fun h2 => ?_) (fun h2 => ?_)
    · skip
      have hr := ifp h2 hr
      refine CW.seq (CW.reg ?_)
      refine WL.ev rfl rfl (Ev.as rfl rfl) (WL.nil ?_)
      refine CW.ret ?_
      obtain rfl := sm hr
      exact ⟨_, res1 rfl rfl rfl, H.ext0, rfl⟩
    · skip
      have hr := ifn h2 hr
      refine CW.skip ?_
      refine CW.seq (CW.seq (CW.reg ?_))
      refine WL.ev rfl rfl (Ev.fa rfl fo31_0 rfl) (WL.ev rfl rfl (Ev.ld rfl ag3 rfl ((H.rB (i := 0) rfl).cell rfl)) (WL.nil ?_))
      refine CW.block (CW.seq (CW.reg ?_))
      refine WL.ev rfl rfl (Ev.bin rfl rfl rfl Bin.eql) (WL.ev rfl rfl (Ev.as rfl rfl) (WL.nil ?_))
      refine CW.condD rfl (fun h3 => ?_) (fun h3 => ?_)
      · skip
        have hr := ifp h3 hr
        refine CW.seq (CW.reg ?_)
        refine WL.ev rfl rfl (Ev.fa rfl fo31_3 rfl) (WL.ev rfl rfl (Ev.ld rfl ag3 rfl ((H.rB (i := 0) rfl).cell rfl)) ?_)
        obtain ⟨y3, hy3, hr⟩ := bd hr
        refine WL.call rfl rfl rfl rfl rfl ok112 rfl (sl1In_ok hy3 (F0 := fun _ => False) hI4 (by decide : I64 1) (by decide : I64 3)) ?_
        rintro _ w5 hE rfl
        have H := H.ext hE
        obtain ⟨q2, hm2, hr⟩ := bd hr
        refine WL.cut 7 (fun ρ' w => ∃ (s2 : Bool), s2 = q2 ∧ agree ρ' [(1, .pointer (some ⟨b1, 0, none⟩)), (25, .bool s2)] ∧ HL F0 [] w0 w [Pr.R a0 [.int .i64 a0.Kind, .int .i64 a0.N, .int .i64 a0.Pos, .int .i64 a0.Type_, .string a0.Symbol, .string a0.Name, .slice A1 n1 c1], Pr.S a0.Args (.slice A1 n1 c1)] [It.B b1 31 [.int .i64 a0.Kind, .int .i64 a0.N, .int .i64 a0.Pos, .int .i64 a0.Type_, .string a0.Symbol, .string a0.Name, .slice A1 n1 c1]]) ?_ ?_
        · skip
          refine WL.mvB rfl rfl rfl rfl (fun h4 => ?_) (fun h4 => ?_)
          · skip
            have hm2 := ifp h4 hm2
            refine WL.on rfl rfl (WL.ev rfl rfl (Ev.fa rfl fo31_1 rfl) (WL.on rfl rfl (WL.ev rfl rfl (Ev.ld rfl ag3 rfl ((H.rB (i := 0) rfl).cell rfl)) (WL.on rfl rfl (WL.ev rfl rfl (Ev.fa rfl fo31_3 rfl) (WL.on rfl rfl (WL.ev rfl rfl (Ev.ld rfl ag3 rfl ((H.rB (i := 0) rfl).cell rfl)) (WL.on rfl rfl ?_))))))))
            obtain ⟨y4, hy4, hm2⟩ := bd hm2
            refine WL.call rfl rfl rfl rfl rfl ok183 rfl (sIsOfType_ok hy4 (F0 := fun _ => False) hI2 hI4) ?_
            rintro _ w6 hE rfl
            have H := H.ext hE
            refine WL.ev rfl rfl (Ev.pickT rfl rfl rfl) (WL.nil ?_)
            obtain rfl := sm hm2
            exact ⟨y4, rfl, ⟨rfl, rfl, trivial⟩, H.keep 2 1⟩
          · skip
            have hm2 := ifn h4 hm2
            refine WL.off rfl rfl rfl (WL.off rfl rfl rfl (WL.off rfl rfl rfl (WL.off rfl rfl rfl (WL.off rfl rfl rfl (WL.ev rfl rfl (Ev.pickF rfl rfl rfl) (WL.nil ?_))))))
            obtain rfl := sm hm2
            exact ⟨false, rfl, ⟨rfl, rfl, trivial⟩, H.keep 2 1⟩
        · rintro ρ' w7 ⟨s2, rfl, hag, H⟩
          obtain ⟨σ, rfl⟩ := ofL_ex hag
          obtain ⟨q3, hm3, hr⟩ := bd hr
          refine WL.cut 5 (fun ρ' w => ∃ (s3 : Bool), s3 = q3 ∧ agree ρ' [(30, .bool s3)] ∧ HL F0 [] w0 w [Pr.R a0 [.int .i64 a0.Kind, .int .i64 a0.N, .int .i64 a0.Pos, .int .i64 a0.Type_, .string a0.Symbol, .string a0.Name, .slice A1 n1 c1], Pr.S a0.Args (.slice A1 n1 c1)] [It.B b1 31 [.int .i64 a0.Kind, .int .i64 a0.N, .int .i64 a0.Pos, .int .i64 a0.Type_, .string a0.Symbol, .string a0.Name, .slice A1 n1 c1]]) ?_ ?_
          · skip
            refine WL.mvB rfl rfl rfl rfl (fun h5 => ?_) (fun h5 => ?_)
            · skip
              have hm3 := ifp h5 hm3
              refine WL.on rfl rfl (WL.ev rfl rfl (Ev.fa rfl fo31_1 rfl) (WL.on rfl rfl (WL.ev rfl rfl (Ev.ld rfl ag3 rfl ((H.rB (i := 0) rfl).cell rfl)) (WL.on rfl rfl (WL.ev rfl rfl (Ev.bin rfl rfl rfl Bin.geq) (WL.ev rfl rfl (Ev.pickT rfl rfl rfl) (WL.nil ?_)))))))
              obtain rfl := sm hm3
              exact ⟨(decide (0 ≤ a0.N)), rfl, ⟨rfl, trivial⟩, H.keep 2 1⟩
            · skip
              have hm3 := ifn h5 hm3
              refine WL.off rfl rfl rfl (WL.off rfl rfl rfl (WL.off rfl rfl rfl (WL.ev rfl rfl (Ev.pickF rfl rfl rfl) (WL.nil ?_))))
              obtain rfl := sm hm3
              exact ⟨false, rfl, ⟨rfl, trivial⟩, H.keep 2 1⟩
          · rintro ρ' w8 ⟨s3, rfl, hag, H⟩
            obtain ⟨σ, rfl⟩ := ofL_ex hag
            refine WL.ev rfl rfl (Ev.as rfl rfl) (WL.nil ?_)
            refine CW.ret ?_
            obtain rfl := sm hr
            exact ⟨_, res1 rfl rfl rfl, H.ext0, rfl⟩
      · skip
        have hr := ifn h3 hr
        refine CW.seq (CW.reg ?_)
        refine WL.ev rfl rfl (Ev.bin rfl rfl rfl Bin.eql) (WL.ev rfl rfl (Ev.as rfl rfl) (WL.nil ?_))
        refine CW.condD rfl (fun h6 => ?_) (fun h6 => ?_)
        · skip
          have hr := ifp h6 hr
          refine CW.seq (CW.reg ?_)
          refine WL.ev rfl rfl (Ev.fa rfl fo31_2 rfl) (WL.ev rfl rfl (Ev.ld rfl ag3 rfl ((H.rB (i := 0) rfl).cell rfl)) ?_)
          obtain ⟨y5, hy5, hr⟩ := bd hr
          refine WL.call rfl rfl rfl rfl rfl ok112 rfl (sl1In_ok hy5 (F0 := fun _ => False) hI3 (by decide : I64 0) (by decide : I64 3)) ?_
          rintro _ w9 hE rfl
          have H := H.ext hE
          obtain ⟨q4, hm4, hr⟩ := bd hr
          refine WL.cut 5 (fun ρ' w => ∃ (s4 : Bool), s4 = q4 ∧ agree ρ' [(40, .bool s4)] ∧ HL F0 [] w0 w [Pr.R a0 [.int .i64 a0.Kind, .int .i64 a0.N, .int .i64 a0.Pos, .int .i64 a0.Type_, .string a0.Symbol, .string a0.Name, .slice A1 n1 c1], Pr.S a0.Args (.slice A1 n1 c1)] [It.B b1 31 [.int .i64 a0.Kind, .int .i64 a0.N, .int .i64 a0.Pos, .int .i64 a0.Type_, .string a0.Symbol, .string a0.Name, .slice A1 n1 c1]]) ?_ ?_
          · skip
            refine WL.mvB rfl rfl rfl rfl (fun h7 => ?_) (fun h7 => ?_)
            · skip
              have hm4 := ifp h7 hm4
              refine WL.on rfl rfl (WL.ev rfl rfl (Ev.fa rfl fo31_5 rfl) (WL.on rfl rfl (WL.ev rfl rfl (Ev.ld rfl ag9 rfl ((H.rB (i := 0) rfl).cell rfl)) (WL.on rfl rfl ?_))))
              obtain ⟨y6, hy6, hm4⟩ := bd hm4
              refine WL.call rfl rfl rfl rfl rfl ok184 rfl (sIsValidName_ok hy6 (F0 := fun _ => False) hS2) ?_
              rintro _ w10 hE rfl
              have H := H.ext hE
              refine WL.ev rfl rfl (Ev.pickT rfl rfl rfl) (WL.nil ?_)
              obtain rfl := sm hm4
              exact ⟨y6, rfl, ⟨rfl, trivial⟩, H.keep 2 1⟩
            · skip
              have hm4 := ifn h7 hm4
              refine WL.off rfl rfl rfl (WL.off rfl rfl rfl (WL.off rfl rfl rfl (WL.ev rfl rfl (Ev.pickF rfl rfl rfl) (WL.nil ?_))))
              obtain rfl := sm hm4
              exact ⟨false, rfl, ⟨rfl, trivial⟩, H.keep 2 1⟩
          · rintro ρ' w11 ⟨s4, rfl, hag, H⟩
            obtain ⟨σ, rfl⟩ := ofL_ex hag
            refine WL.ev rfl rfl (Ev.as rfl rfl) (WL.nil ?_)
            refine CW.ret ?_
            obtain rfl := sm hr
            exact ⟨_, res1 rfl rfl rfl, H.ext0, rfl⟩
        · skip
          have hr := ifn h6 hr
          refine CW.seq (CW.reg ?_)
          refine WL.ev rfl rfl (Ev.bin rfl rfl rfl Bin.eql) (WL.ev rfl rfl (Ev.as rfl rfl) (WL.nil ?_))
          refine CW.condD rfl (fun h8 => ?_) (fun h8 => ?_)
          · skip
            have hr := ifp h8 hr
            refine CW.seq (CW.reg ?_)
            refine WL.ev rfl rfl (Ev.fa rfl fo31_2 rfl) (WL.ev rfl rfl (Ev.ld rfl ag3 rfl ((H.rB (i := 0) rfl).cell rfl)) ?_)
            obtain ⟨y7, hy7, hr⟩ := bd hr
            refine WL.call rfl rfl rfl rfl rfl ok112 rfl (sl1In_ok hy7 (F0 := fun _ => False) hI3 (by decide : I64 0) (by decide : I64 3)) ?_
            rintro _ w12 hE rfl
            have H := H.ext hE
            refine WL.ev rfl rfl (Ev.as rfl rfl) (WL.nil ?_)
            refine CW.ret ?_
            obtain rfl := sm hr
            exact ⟨_, res1 rfl rfl rfl, H.ext0, rfl⟩
          · skip
            have hr := ifn h8 hr
            refine CW.seq (CW.reg ?_)
            refine WL.ev rfl rfl (Ev.bin rfl rfl rfl Bin.eql) (WL.ev rfl rfl (Ev.as rfl rfl) (WL.nil ?_))
            refine CW.condD rfl (fun h9 => ?_) (fun h9 => ?_)
            · skip
              have hr := ifp h9 hr
              refine CW.seq (CW.reg ?_)
              refine WL.ev rfl rfl (Ev.fa rfl fo31_1 rfl) (WL.ev rfl rfl (Ev.ld rfl ag3 rfl ((H.rB (i := 0) rfl).cell rfl)) ?_)
              obtain ⟨y8, hy8, hr⟩ := bd hr
              refine WL.call rfl rfl rfl rfl rfl ok112 rfl (sl1In_ok hy8 (F0 := fun _ => False) hI2 (by decide : I64 1) (by decide : I64 12)) ?_
              rintro _ w13 hE rfl
              have H := H.ext hE
              refine WL.ev rfl rfl (Ev.as rfl rfl) (WL.nil ?_)
              refine CW.ret ?_
              obtain rfl := sm hr
              exact ⟨_, res1 rfl rfl rfl, H.ext0, rfl⟩
            · skip
              have hr := ifn h9 hr
              refine CW.seq (CW.reg ?_)
              refine WL.ev rfl rfl (Ev.bin rfl rfl rfl Bin.eql) (WL.ev rfl rfl (Ev.as rfl rfl) (WL.nil ?_))
              refine CW.condD rfl (fun h10 => ?_) (fun h10 => ?_)
              · skip
                have hr := ifp h10 hr
                refine CW.seq (CW.reg ?_)
                refine WL.ev rfl rfl (Ev.fa rfl fo31_4 rfl) (WL.ev rfl rfl (Ev.ld rfl ag9 rfl ((H.rB (i := 0) rfl).cell rfl)) ?_)
                obtain ⟨y9, hy9, hr⟩ := bd hr
                refine WL.call rfl rfl rfl rfl rfl ok184 rfl (sIsValidName_ok hy9 (F0 := fun _ => False) hS1) ?_
                rintro _ w14 hE rfl
                have H := H.ext hE
                obtain ⟨q5, hm5, hr⟩ := bd hr
                refine WL.cut 5 (fun ρ' w => ∃ (s5 : Bool), s5 = q5 ∧ agree ρ' [(60, .bool s5)] ∧ HL F0 [] w0 w [Pr.R a0 [.int .i64 a0.Kind, .int .i64 a0.N, .int .i64 a0.Pos, .int .i64 a0.Type_, .string a0.Symbol, .string a0.Name, .slice A1 n1 c1], Pr.S a0.Args (.slice A1 n1 c1)] [It.B b1 31 [.int .i64 a0.Kind, .int .i64 a0.N, .int .i64 a0.Pos, .int .i64 a0.Type_, .string a0.Symbol, .string a0.Name, .slice A1 n1 c1]]) ?_ ?_
                · skip
                  refine WL.mvB rfl rfl rfl rfl (fun h11 => ?_) (fun h11 => ?_)
                  · skip
                    have hm5 := ifp h11 hm5
                    refine WL.on rfl rfl (WL.ev rfl rfl (Ev.fa rfl fo31_5 rfl) (WL.on rfl rfl (WL.ev rfl rfl (Ev.ld rfl ag9 rfl ((H.rB (i := 0) rfl).cell rfl)) (WL.on rfl rfl ?_))))
                    obtain ⟨y10, hy10, hm5⟩ := bd hm5
                    refine WL.call rfl rfl rfl rfl rfl ok184 rfl (sIsValidName_ok hy10 (F0 := fun _ => False) hS2) ?_
                    rintro _ w15 hE rfl
                    have H := H.ext hE
                    refine WL.ev rfl rfl (Ev.pickT rfl rfl rfl) (WL.nil ?_)
                    obtain rfl := sm hm5
                    exact ⟨y10, rfl, ⟨rfl, trivial⟩, H.keep 2 1⟩
                  · skip
                    have hm5 := ifn h11 hm5
                    refine WL.off rfl rfl rfl (WL.off rfl rfl rfl (WL.off rfl rfl rfl (WL.ev rfl rfl (Ev.pickF rfl rfl rfl) (WL.nil ?_))))
                    obtain rfl := sm hm5
                    exact ⟨false, rfl, ⟨rfl, trivial⟩, H.keep 2 1⟩
                · rintro ρ' w16 ⟨s5, rfl, hag, H⟩
                  obtain ⟨σ, rfl⟩ := ofL_ex hag
                  refine WL.ev rfl rfl (Ev.as rfl rfl) (WL.nil ?_)
                  refine CW.ret ?_
                  obtain rfl := sm hr
                  exact ⟨_, res1 rfl rfl rfl, H.ext0, rfl⟩
              · skip
                have hr := ifn h10 hr
                refine CW.skip ?_
                refine CW.seq (CW.reg ?_)
                refine WL.ev rfl rfl (Ev.as rfl rfl) (WL.nil ?_)
                refine CW.ret ?_
                obtain rfl := sm hr
                exact ⟨_, res1 rfl rfl rfl, H.ext0, rfl⟩

noncomputable def sl4All_L1 (rec_sl4All : Expr → Option Bool) : Nat → Expr → Unit → Option (Unit ⊕ Bool) := fun k1 x1 _ => 
  (rec_sl4All x1).bind fun y1 =>
  if y1 = true then (
  some (.inl ())
  ) else (
  some (.inr false)
  )
noncomputable def sl4All_B (rec_sl4All : Expr → Option Bool) (a0 : Expr) : Option Bool :=
  (findL (sl4All_L1 rec_sl4All) 0 a0.Args ()).bind <| onr (fun r1 => some r1) fun _ =>
  (sl4Node_m a0).bind fun y2 =>
  some y2
theorem sl4All_okB {rec_sl4All : Expr → Option Bool} (ih_sl4All : ∀ {a0 : Expr} {r : Bool}, rec_sl4All a0 = some r → ∀ {F0 : Nat → Prop} {w0 : World} {ca0 : List Value} (ha0 : rd F0 w0 a0 ca0), Ret Try.prog 96 #[.agg ca0.toArray] w0 (fun _ => False) fun v w => v = .bool r) {a0 : Expr} {r : Bool} (hr : sl4All_B rec_sl4All a0 = some r) {F0 : Nat → Prop} {w0 : World} {ca0 : List Value} (ha0 : rd F0 w0 a0 ca0) :
    Ret Try.prog 96 #[.agg ca0.toArray] w0 (fun _ => False) fun v w => v = .bool r := by
  have H := (HL.start F0 w0).argR ha0
  obtain ⟨A1, n1, c1, rfl, hI1, hI2, hI3, hI4, hS1, hS2, H⟩ := op_Expr H (i := 0) rfl
  refine enter Try.func96 rfl rfl rfl ?_
  refine CW.seq (CW.reg ?_)
  refine WL.boxH rfl rfl rfl rfl rfl H fun b1 w1 H => ?_
  refine WL.ev rfl rfl (Ev.as rfl rfl) (WL.nil ?_)
  refine CW.seq (CW.seq (CW.reg ?_))
  refine WL.ev rfl rfl (Ev.as rfl rfl) (WL.nil ?_)
  obtain ⟨q1, hq1, hr⟩ := bd hr
  refine CW.block (CW.loop (α := Nat) (fun k1 => [(1, .pointer (some ⟨b1, 0, none⟩)), (3, .int .i64 (k1 : Int))]) (fun k1 w => k1 ≤ a0.Args.length ∧ findL (sl4All_L1 rec_sl4All) k1 (a0.Args.drop k1) () = some q1 ∧ HL F0 [] w0 w [Pr.R a0 [.int .i64 a0.Kind, .int .i64 a0.N, .int .i64 a0.Pos, .int .i64 a0.Type_, .string a0.Symbol, .string a0.Name, .slice A1 n1 c1], Pr.S a0.Args (.slice A1 n1 c1)] [It.B b1 31 [.int .i64 a0.Kind, .int .i64 a0.N, .int .i64 a0.Pos, .int .i64 a0.Type_, .string a0.Symbol, .string a0.Name, .slice A1 n1 c1]]) (fun k1 => a0.Args.length - k1) 0 ⟨rfl, rfl, trivial⟩ ⟨Nat.zero_le _, hq1, H.keep 2 1⟩ ?_)
  rintro k1 σ w2 ⟨hk1, hq1, H⟩
  refine CW.seq (CW.seq (CW.reg ?_))
  refine WL.ev rfl rfl (Ev.mv rfl rfl) (WL.ev rfl rfl (Ev.fa rfl fo31_6 rfl) (WL.ev rfl rfl (Ev.ld rfl ag29 rfl ((H.rB (i := 0) rfl).cell rfl)) ?_))
  have hl1 := (H.rS (i := 1) rfl).I
  refine WL.ev rfl rfl (Ev.lenV rfl el29 rfl (H.rS (i := 1) rfl)) (WL.ev rfl rfl (Ev.bin rfl rfl rfl Bin.lss) (WL.nil ?_))
  refine CW.condD rfl (fun h1 => ?_) (fun h1 => ?_)
  · skip
    have hk2 := cast_lt h1
    obtain ⟨x1, z1, hx1, hb1, hs1, ht1⟩ := findL_go hq1 hk2
    refine CW.skip ?_
    refine CW.seq (CW.block (CW.seq (CW.reg ?_)))
    refine WL.ev rfl rfl (Ev.fa rfl fo31_6 rfl) (WL.ev rfl rfl (Ev.ld rfl ag29 rfl ((H.rB (i := 0) rfl).cell rfl)) (WL.ev rfl rfl (Ev.mv rfl rfl) ?_))
    obtain ⟨b2, ob2, cb2, A2, n2, c2, hvb2, hI5, hI6, hI7, hI8, hS3, hS4, H⟩ := ixS_Expr H (i := 1) rfl hx1
    refine WL.ev rfl rfl (Ev.ixVN rfl el29 sz31 rfl hvb2 rfl (lt_of hx1)) (WL.ev rfl rfl (Ev.lda rfl ag31 sz31 rfl (H.rA (i := 2) rfl) rfl) ?_)
    obtain ⟨y1, hy1, hb1⟩ := bd hb1
    refine WL.call rfl rfl rfl rfl rfl ok96 rfl (ih_sl4All hy1 (Expr_rd.2 ⟨_, rfl, hI5, hI6, hI7, hI8, hS3, hS4, (H.rS (i := 4) rfl)⟩)) ?_
    rintro _ w3 hE rfl
    have H := H.ext hE
    refine WL.ev rfl rfl (Ev.not rfl rfl) (WL.nil ?_)
    refine CW.condBN rfl (fun h2 => ?_) (fun h2 => ?_)
    · skip
      have hb1 := ifn h2 hb1
      refine CW.seq (CW.reg ?_)
      refine WL.ev rfl rfl (Ev.as rfl rfl) (WL.nil ?_)
      refine CW.ret ?_
      obtain rfl := sm hb1
      obtain rfl := ht1 _ rfl
      obtain rfl := sm hr
      exact ⟨_, res1 rfl rfl rfl, H.ext0, rfl⟩
    · skip
      have hb1 := ifp h2 hb1
      refine CW.skip ?_
      refine CW.reg ?_
      refine WL.ev rfl rfl (Ev.mv rfl rfl) (WL.ev rfl rfl (Ev.bin rfl rfl rfl (Bin.addN (a := k1) (b := 1) rfl (i64_succN hk2 hl1.2))) (WL.ev rfl rfl (Ev.as rfl rfl) (WL.nil ?_)))
      obtain rfl := sm hb1
      have hq1 := hs1 _ rfl
      exact ⟨(k1 + 1), ⟨rfl, rfl, trivial⟩, ⟨hk2, hq1, H.keep 2 1⟩, Nat.sub_lt_sub_left hk2 (Nat.lt_succ_self _)⟩
  · skip
    obtain rfl := findL_end hq1 (not_cast_lt h1)
    have hr := (onr_inl _ _ _).symm.trans hr
    refine CW.exit ?_
    refine CW.seq (CW.reg ?_)
    refine WL.ev rfl rfl (Ev.lda rfl ag31 sz31 rfl (At.blk (H.rB (i := 0) rfl)) rfl) ?_
    obtain ⟨y2, hy2, hr⟩ := bd hr
    refine WL.call rfl rfl rfl rfl rfl ok154 rfl (sl4Node_ok hy2 (Expr_rd.2 ⟨_, rfl, hI1, hI2, hI3, hI4, hS1, hS2, (H.rS (i := 1) rfl)⟩)) ?_
    rintro _ w4 hE rfl
    have H := H.ext hE
    refine WL.ev rfl rfl (Ev.as rfl rfl) (WL.nil ?_)
    refine CW.ret ?_
    obtain rfl := sm hr
    exact ⟨_, res1 rfl rfl rfl, H.ext0, rfl⟩
noncomputable def sl4All_n : Nat → Expr → Option Bool
  | 0, _ => none
  | n + 1, a0 => sl4All_B (sl4All_n n) a0
noncomputable def sl4All_m (a0 : Expr) : Option Bool := recO fun n => sl4All_n n a0
theorem sl4All_okn (n : Nat) : ∀ {a0 : Expr} {r : Bool}, sl4All_n n a0 = some r → ∀ {F0 : Nat → Prop} {w0 : World} {ca0 : List Value} (ha0 : rd F0 w0 a0 ca0), Ret Try.prog 96 #[.agg ca0.toArray] w0 (fun _ => False) fun v w => v = .bool r := by
  induction n with
  | zero => intro a0 r hr; exact nomatch (show (none : Option Bool) = some r from hr)
  | succ n ih => intro a0 r hr; exact sl4All_okB ih hr
theorem sl4All_ok {a0 : Expr} {r : Bool} (hr : sl4All_m a0 = some r) {F0 : Nat → Prop} {w0 : World} {ca0 : List Value} (ha0 : rd F0 w0 a0 ca0) :
    Ret Try.prog 96 #[.agg ca0.toArray] w0 (fun _ => False) fun v w => v = .bool r := by
  obtain ⟨n, hn⟩ := recO_some hr
  exact sl4All_okn n hn ha0

noncomputable def sIsValidExpr_m (a0 : Expr) : Option Bool :=
  (sl4Left_m a0 24).bind fun y1 =>
  (
  if 0 ≤ y1 then (
  (sDepthOfExpr_m a0).bind fun y2 =>
  some (decide (y2 ≤ 6))
  ) else (
  some false
  )
  ).bind fun s1 =>
  (
  if s1 = true then (
  (sl4All_m a0).bind fun y3 =>
  some y3
  ) else (
  some false
  )
  ).bind fun s2 =>
  some s2
theorem sIsValidExpr_ok {a0 : Expr} {r : Bool} (hr : sIsValidExpr_m a0 = some r) {F0 : Nat → Prop} {w0 : World} {ca0 : List Value} (ha0 : rd F0 w0 a0 ca0) :
    Ret Try.prog 27 #[.agg ca0.toArray] w0 (fun _ => False) fun v w => v = .bool r := by
  have H := (HL.start F0 w0).argR ha0
  obtain ⟨A1, n1, c1, rfl, hI1, hI2, hI3, hI4, hS1, hS2, H⟩ := op_Expr H (i := 0) rfl
  refine enter Try.func27 rfl rfl rfl ?_
  refine CW.seq (CW.reg ?_)
  refine WL.boxH rfl rfl rfl rfl rfl H fun b1 w1 H => ?_
  refine WL.ev rfl rfl (Ev.as rfl rfl) (WL.nil ?_)
  refine CW.seq (CW.reg ?_)
  refine WL.ev rfl rfl (Ev.lda rfl ag31 sz31 rfl (At.blk (H.rB (i := 0) rfl)) rfl) ?_
  obtain ⟨y1, hy1, hr⟩ := bd hr
  refine WL.call rfl rfl rfl rfl rfl ok94 rfl (sl4Left_ok hy1 (Expr_rd.2 ⟨_, rfl, hI1, hI2, hI3, hI4, hS1, hS2, (H.rS (i := 1) rfl)⟩) (by decide : I64 24)) ?_
  rintro _ w2 hE ⟨rfl, hI5⟩
  have H := H.ext hE
  refine WL.ev rfl rfl (Ev.bin rfl rfl rfl Bin.geq) ?_
  obtain ⟨q1, hm1, hr⟩ := bd hr
  refine WL.cut 5 (fun ρ' w => ∃ (s1 : Bool), s1 = q1 ∧ agree ρ' [(1, .pointer (some ⟨b1, 0, none⟩)), (2, .bool false), (10, .bool s1)] ∧ HL F0 [] w0 w [Pr.R a0 [.int .i64 a0.Kind, .int .i64 a0.N, .int .i64 a0.Pos, .int .i64 a0.Type_, .string a0.Symbol, .string a0.Name, .slice A1 n1 c1], Pr.S a0.Args (.slice A1 n1 c1)] [It.B b1 31 [.int .i64 a0.Kind, .int .i64 a0.N, .int .i64 a0.Pos, .int .i64 a0.Type_, .string a0.Symbol, .string a0.Name, .slice A1 n1 c1]]) ?_ ?_
  · skip
    refine WL.mvD rfl rfl rfl rfl (fun h1 => ?_) (fun h1 => ?_)
    · skip
      have hm1 := ifp h1 hm1
      refine WL.on rfl rfl (WL.ev rfl rfl (Ev.lda rfl ag31 sz31 rfl (At.blk (H.rB (i := 0) rfl)) rfl) (WL.on rfl rfl ?_))
      obtain ⟨y2, hy2, hm1⟩ := bd hm1
      refine WL.call rfl rfl rfl rfl rfl ok95 rfl (sDepthOfExpr_ok hy2 (Expr_rd.2 ⟨_, rfl, hI1, hI2, hI3, hI4, hS1, hS2, (H.rS (i := 1) rfl)⟩)) ?_
      rintro _ w3 hE ⟨rfl, hI6⟩
      have H := H.ext hE
      refine WL.on rfl rfl (WL.ev rfl rfl (Ev.bin rfl rfl rfl Bin.leq) (WL.ev rfl rfl (Ev.pickT rfl rfl rfl) (WL.nil ?_)))
      obtain rfl := sm hm1
      exact ⟨(decide (y2 ≤ 6)), rfl, ⟨rfl, rfl, rfl, trivial⟩, H.keep 2 1⟩
    · skip
      have hm1 := ifn h1 hm1
      refine WL.off rfl rfl rfl (WL.off rfl rfl rfl (WL.off rfl rfl rfl (WL.ev rfl rfl (Ev.pickF rfl rfl rfl) (WL.nil ?_))))
      obtain rfl := sm hm1
      exact ⟨false, rfl, ⟨rfl, rfl, rfl, trivial⟩, H.keep 2 1⟩
  · rintro ρ' w4 ⟨s1, rfl, hag, H⟩
    obtain ⟨σ, rfl⟩ := ofL_ex hag
    obtain ⟨q2, hm2, hr⟩ := bd hr
    refine WL.cut 4 (fun ρ' w => ∃ (s2 : Bool), s2 = q2 ∧ agree ρ' [(2, .bool false), (14, .bool s2)] ∧ HL F0 [] w0 w [Pr.R a0 [.int .i64 a0.Kind, .int .i64 a0.N, .int .i64 a0.Pos, .int .i64 a0.Type_, .string a0.Symbol, .string a0.Name, .slice A1 n1 c1], Pr.S a0.Args (.slice A1 n1 c1)] [It.B b1 31 [.int .i64 a0.Kind, .int .i64 a0.N, .int .i64 a0.Pos, .int .i64 a0.Type_, .string a0.Symbol, .string a0.Name, .slice A1 n1 c1]]) ?_ ?_
    · skip
      refine WL.mvB rfl rfl rfl rfl (fun h2 => ?_) (fun h2 => ?_)
      · skip
        have hm2 := ifp h2 hm2
        refine WL.on rfl rfl (WL.ev rfl rfl (Ev.lda rfl ag31 sz31 rfl (At.blk (H.rB (i := 0) rfl)) rfl) (WL.on rfl rfl ?_))
        obtain ⟨y3, hy3, hm2⟩ := bd hm2
        refine WL.call rfl rfl rfl rfl rfl ok96 rfl (sl4All_ok hy3 (Expr_rd.2 ⟨_, rfl, hI1, hI2, hI3, hI4, hS1, hS2, (H.rS (i := 1) rfl)⟩)) ?_
        rintro _ w5 hE rfl
        have H := H.ext hE
        refine WL.ev rfl rfl (Ev.pickT rfl rfl rfl) (WL.nil ?_)
        obtain rfl := sm hm2
        exact ⟨y3, rfl, ⟨rfl, rfl, trivial⟩, H.keep 2 1⟩
      · skip
        have hm2 := ifn h2 hm2
        refine WL.off rfl rfl rfl (WL.off rfl rfl rfl (WL.ev rfl rfl (Ev.pickF rfl rfl rfl) (WL.nil ?_)))
        obtain rfl := sm hm2
        exact ⟨false, rfl, ⟨rfl, rfl, trivial⟩, H.keep 2 1⟩
    · rintro ρ' w6 ⟨s2, rfl, hag, H⟩
      obtain ⟨σ, rfl⟩ := ofL_ex hag
      refine WL.ev rfl rfl (Ev.as rfl rfl) (WL.nil ?_)
      refine CW.ret ?_
      obtain rfl := sm hr
      exact ⟨_, res1 rfl rfl rfl, H.ext0, rfl⟩

noncomputable def sl4Draw_m (o0 : l1Cur) : Option (Expr × l1Cur) :=
  (sl1Below_m 5 o0).bind fun (y1, z1) =>
  grd (I64 (1 + y1)) <|
  (sl4Free_m (1 + y1) (⟨o0.b, z1.i, z1.h⟩ : l1Cur)).bind fun (y2, z2) =>
  (sIsValidExpr_m y2).bind fun y3 =>
  if y3 = true then (
  some (y2, (⟨o0.b, z2.i, z2.h⟩ : l1Cur))
  ) else (
  some ((⟨2, 0, 0, 0, (⟨#[]⟩ : ByteArray), (⟨#[]⟩ : ByteArray), []⟩ : Expr), (⟨o0.b, z2.i, z2.h⟩ : l1Cur))
  )
theorem sl4Draw_ok {o0 : l1Cur} {r : (Expr × l1Cur)} (hr : sl4Draw_m o0 = some r) {F0 : Nat → Prop} {M : List Nat} {w0 : World} {bo0 : Nat} {Ao0_0 : Option Addr} {no0_0 co0_0 : Nat} (hIo0_1 : I64 o0.i) (hIo0_2 : I64 o0.h) (H : HL F0 M w0 w0 [Pr.S o0.b (.slice Ao0_0 no0_0 co0_0)] [It.B bo0 159 [.slice Ao0_0 no0_0 co0_0, .int .i64 o0.i, .int .i64 o0.h]]) :
    Ret Try.prog 143 #[.pointer (some ⟨bo0, 0, none⟩)] w0 (· ∈ M) fun v w => ∃ A0 : Option Addr, ∃ n0 c0 : Nat, v = .agg #[.int .i64 r.1.Kind, .int .i64 r.1.N, .int .i64 r.1.Pos, .int .i64 r.1.Type_, .string r.1.Symbol, .string r.1.Name, (.slice A0 n0 c0)] ∧ I64 r.1.Kind ∧ I64 r.1.N ∧ I64 r.1.Pos ∧ I64 r.1.Type_ ∧ r.1.Symbol.size ≤ 9223372036854775807 ∧ r.1.Name.size ≤ 9223372036854775807 ∧ I64 r.2.i ∧ I64 r.2.h ∧ HL F0 M w0 w [] [It.B bo0 159 [.slice Ao0_0 no0_0 co0_0, .int .i64 r.2.i, .int .i64 r.2.h], It.G 31 r.1.Args (.slice A0 n0 c0)] := by
  refine enter Try.func143 rfl rfl rfl ?_
  refine CW.seq (CW.reg ?_)
  refine WL.allocH rfl rfl rfl ze31 H fun b1 w1 H => ?_
  refine WL.nil ?_
  refine CW.seq (CW.reg ?_)
  refine WL.ev rfl rfl (Ev.mv rfl rfl) (WL.ev rfl rfl (Ev.mv rfl rfl) ?_)
  obtain ⟨⟨y1, z1⟩, hy1, hr⟩ := bd hr
  obtain ⟨F', M', hfF, hoF, hcM⟩ := H.callN [true, false] ⟨noB, trivial⟩
  obtain ⟨H', hcN⟩ := hcM (ps := [Pr.S o0.b (.slice Ao0_0 no0_0 co0_0)]) ⟨hfF.get (i := 0) rfl, trivial⟩
  refine WL.call rfl rfl rfl rfl rfl ok86 rfl (sl1Below_ok hy1 (by decide : I64 5) hIo0_1 hIo0_2 H') ?_
  rintro _ w2 hE ⟨rfl, hI1, hI2, hI3, H'⟩
  have H := hcN 1 H' rfl ⟨fun _ _ _ _ _ h => h, trivial⟩
  obtain ⟨hg1, hr⟩ := grd_some hr
  refine WL.ev rfl rfl (Ev.bin rfl rfl rfl (Bin.add hg1)) ?_
  obtain ⟨⟨y2, z2⟩, hy2, hr⟩ := bd hr
  obtain ⟨F', M', hfF, hcM⟩ := H.callW [true, false] ⟨noB, trivial⟩
  obtain ⟨H', hcN⟩ := hcM (ps := [Pr.S o0.b (.slice Ao0_0 no0_0 co0_0)]) ⟨hfF.get (i := 0) rfl, trivial⟩
  refine WL.call rfl rfl rfl rfl rfl ok169 rfl (sl4Free_ok hy2 hg1 hI2 hI3 H') ?_
  rintro _ w3 hE ⟨A1, n1, c1, rfl, hI4, hI5, hI6, hI7, hS1, hS2, hI8, hI9, H'⟩
  have H := hcN 1 H' rfl
  refine WL.allocH rfl rfl rfl ze31 H fun b2 w4 H => ?_
  refine WL.stB (i := 3) rfl rfl rfl sz31 rfl rfl rfl rfl (all1 rfl (all1 rfl (all1 rfl (all1 rfl (all1 rfl (all1 rfl (all1 rfl all0))))))) H rfl rfl rfl fun w5 H => ?_
  refine WL.nil ?_
  refine CW.seq (CW.seq (CW.reg ?_))
  refine WL.ev rfl rfl (Ev.lda rfl ag31 sz31 rfl (At.blk (H.rB (i := 3) rfl)) rfl) ?_
  obtain ⟨y3, hy3, hr⟩ := bd hr
  refine WL.call rfl rfl rfl rfl rfl ok27 rfl (sIsValidExpr_ok hy3 (Expr_rd.2 ⟨_, rfl, hI4, hI5, hI6, hI7, hS1, hS2, (H.rG (i := 2) rfl)⟩)) ?_
  rintro _ w6 hE rfl
  have H := H.ext hE
  refine WL.ev rfl rfl (Ev.not rfl rfl) (WL.nil ?_)
  refine CW.condBN rfl (fun h1 => ?_) (fun h1 => ?_)
  · skip
    have hr := ifn h1 hr
    refine CW.seq (CW.reg ?_)
    refine WL.ev rfl rfl (Ev.build rfl pl31 ze31 rfl rfl rfl rfl) ?_
    refine WL.stB (i := 1) rfl rfl rfl sz31 rfl rfl rfl rfl (all1 rfl (all1 rfl (all1 rfl (all1 rfl (all1 rfl (all1 rfl (all1 rfl all0))))))) H rfl rfl rfl fun w7 H => ?_
    refine WL.nil ?_
    refine CW.ret ?_
    have H := H.nilG (α := Expr) 31
    obtain rfl := sm hr
    exact ⟨_, resC rfl ag31 sz31 rfl rfl (At.blk (H.rB (i := 1) rfl)) rfl, H.chg, _, _, _, rfl, (by decide : I64 2), (by decide : I64 0), (by decide : I64 0), (by decide : I64 0), (by decide : (⟨#[]⟩ : ByteArray).size ≤ 9223372036854775807), (by decide : (⟨#[]⟩ : ByteArray).size ≤ 9223372036854775807), hI8, hI9, H.outM (fr' := []) [true, false, false, false, true] fun _ _ => trivial⟩
  · skip
    have hr := ifp h1 hr
    refine CW.skip ?_
    refine CW.seq (CW.reg ?_)
    refine WL.ev rfl rfl (Ev.lda rfl ag31 sz31 rfl (At.blk (H.rB (i := 3) rfl)) rfl) ?_
    refine WL.stB (i := 1) rfl rfl rfl sz31 rfl rfl rfl rfl (all1 rfl (all1 rfl (all1 rfl (all1 rfl (all1 rfl (all1 rfl (all1 rfl all0))))))) H rfl rfl rfl fun w8 H => ?_
    refine WL.nil ?_
    refine CW.ret ?_
    obtain rfl := sm hr
    exact ⟨_, resC rfl ag31 sz31 rfl rfl (At.blk (H.rB (i := 1) rfl)) rfl, H.chg, _, _, _, rfl, hI4, hI5, hI6, hI7, hS1, hS2, hI8, hI9, H.outM (fr' := []) [true, false, true, false] fun _ _ => trivial⟩

noncomputable def sl1PickInt_m (a1 : (List Int)) (o0 : l1Cur) : Option (Int × l1Cur) :=
  (sl1Below_m (a1.length : Int) o0).bind fun (y1, z1) =>
  grd (0 ≤ y1) <|
  (a1[y1.toNat]?).bind fun x1 =>
  some (x1, (⟨o0.b, z1.i, z1.h⟩ : l1Cur))
theorem sl1PickInt_ok {a1 : (List Int)} {o0 : l1Cur} {r : (Int × l1Cur)} (hr : sl1PickInt_m a1 o0 = some r) {F0 : Nat → Prop} {M : List Nat} {w0 : World} {bo0 : Nat} {Aa1 : Option Addr} {na1 ca1 : Nat} {Ao0_0 : Option Addr} {no0_0 co0_0 : Nat} (hIo0_1 : I64 o0.i) (hIo0_2 : I64 o0.h) (H : HL F0 M w0 w0 [Pr.S a1 (.slice Aa1 na1 ca1), Pr.S o0.b (.slice Ao0_0 no0_0 co0_0)] [It.B bo0 159 [.slice Ao0_0 no0_0 co0_0, .int .i64 o0.i, .int .i64 o0.h]]) :
    Ret Try.prog 116 #[.pointer (some ⟨bo0, 0, none⟩), .slice Aa1 na1 ca1] w0 (· ∈ M) fun v w => v = .int .i64 r.1 ∧ I64 r.1 ∧ I64 r.2.i ∧ I64 r.2.h ∧ HL F0 M w0 w [] [It.B bo0 159 [.slice Ao0_0 no0_0 co0_0, .int .i64 r.2.i, .int .i64 r.2.h]] := by
  refine enter Try.func116 rfl rfl rfl ?_
  refine CW.seq (CW.reg ?_)
  refine WL.ev rfl rfl (Ev.as rfl rfl) (WL.nil ?_)
  refine CW.seq (CW.reg ?_)
  refine WL.ev rfl rfl (Ev.mv rfl rfl) (WL.ev rfl rfl (Ev.mv rfl rfl) (WL.ev rfl rfl (Ev.mv rfl rfl) ?_))
  have hl1 := (H.rS (i := 0) rfl).I
  refine WL.ev rfl rfl (Ev.lenV rfl el41 rfl (H.rS (i := 0) rfl)) ?_
  obtain ⟨⟨y1, z1⟩, hy1, hr⟩ := bd hr
  obtain ⟨F', M', hfF, hoF, hcM⟩ := H.callN [true] ⟨noB, trivial⟩
  obtain ⟨H', hcN⟩ := hcM (ps := [Pr.S o0.b (.slice Ao0_0 no0_0 co0_0)]) ⟨hfF.get (i := 1) rfl, trivial⟩
  refine WL.call rfl rfl rfl rfl rfl ok86 rfl (sl1Below_ok hy1 hl1 hIo0_1 hIo0_2 H') ?_
  rintro _ w1 hE ⟨rfl, hI1, hI2, hI3, H'⟩
  have H := hcN 1 H' rfl ⟨fun _ _ _ _ _ h => h, trivial⟩
  obtain ⟨hg1, hr⟩ := grd_some hr
  obtain ⟨x1, hx1, hr⟩ := bd hr
  obtain ⟨b1, ob1, cb1, hvb1, hI4, H⟩ := ixS_Int H (i := 0) rfl hx1
  refine WL.ev rfl rfl (Ev.ixV rfl el41 sz3 rfl hvb1 rfl hg1 (lt_of hx1)) (WL.ev rfl rfl (Ev.ld rfl ag3 rfl ((H.rA (i := 2) rfl).cell0 rfl)) (WL.ev rfl rfl (Ev.as rfl rfl) (WL.nil ?_)))
  refine CW.ret ?_
  obtain rfl := sm hr
  exact ⟨_, res1 rfl rfl rfl, H.chg, rfl, hI4, hI2, hI3, H.outM (fr' := []) [true] fun _ _ => trivial⟩

noncomputable def sl4Bent_L1 : Nat → ((List Expr) × Int × Int × Int × Int × ByteArray × ByteArray) → Option ((List Expr) × Int × Int × Int × Int × ByteArray × ByteArray) := fun k1 (s1, s2, s3, s4, s5, s6, s7) => 
  (sl4Op_m 1 (⟨s2, s3, s4, s5, s6, s7, s1⟩ : Expr) (⟨2, 0, 0, 0, (⟨#[]⟩ : ByteArray), (⟨#[]⟩ : ByteArray), []⟩ : Expr)).bind fun y7 =>
  some (y7.Args, y7.Kind, y7.N, y7.Pos, y7.Type_, y7.Symbol, y7.Name)
noncomputable def sl4Bent_m (o0 : l1Cur) : Option (Expr × l1Cur) :=
  (sl4Draw_m o0).bind fun (y1, z1) =>
  (sl1Below_m 14 (⟨o0.b, z1.i, z1.h⟩ : l1Cur)).bind fun (y2, z2) =>
  if y2 = 0 then (
  (sl1Below_m 11 (⟨o0.b, z2.i, z2.h⟩ : l1Cur)).bind fun (y3, z3) =>
  some ((⟨y3, y1.N, y1.Pos, y1.Type_, y1.Symbol, y1.Name, y1.Args⟩ : Expr), (⟨o0.b, z3.i, z3.h⟩ : l1Cur))
  ) else (
  if y2 = 1 then (
  grd (((y1.Args.length : Int) + 1) * 88 ≤ 140737488355328 ∧ (y1.Args.length : Int) + 1 ≤ 9223372036854775807) <|
  some ((⟨y1.Kind, y1.N, y1.Pos, y1.Type_, y1.Symbol, y1.Name, (y1.Args ++ [(⟨7, 0, 0, 0, (⟨#[]⟩ : ByteArray), (⟨#[]⟩ : ByteArray), []⟩ : Expr)])⟩ : Expr), (⟨o0.b, z2.i, z2.h⟩ : l1Cur))
  ) else (
  if y2 = 2 then (
  (sl1PickInt_m ([(-1), 13, 4096, 1000001] : List Int) (⟨o0.b, z2.i, z2.h⟩ : l1Cur)).bind fun (y4, z4) =>
  some ((⟨y1.Kind, y4, y1.Pos, y1.Type_, y1.Symbol, y1.Name, y1.Args⟩ : Expr), (⟨o0.b, z4.i, z4.h⟩ : l1Cur))
  ) else (
  if y2 = 3 then (
  (sl1PickInt_m ([(-1), 4, 1] : List Int) (⟨o0.b, z2.i, z2.h⟩ : l1Cur)).bind fun (y5, z5) =>
  some ((⟨y1.Kind, y1.N, y5, y1.Type_, y1.Symbol, y1.Name, y1.Args⟩ : Expr), (⟨o0.b, z5.i, z5.h⟩ : l1Cur))
  ) else (
  if y2 = 4 then (
  (sl1Pick_m [(⟨#[105, 102]⟩ : ByteArray), (⟨#[]⟩ : ByteArray), (⟨#[120]⟩ : ByteArray)] (⟨o0.b, z2.i, z2.h⟩ : l1Cur)).bind fun (y6, z6) =>
  some ((⟨y1.Kind, y1.N, y1.Pos, y1.Type_, y1.Symbol, y6, y1.Args⟩ : Expr), (⟨o0.b, z6.i, z6.h⟩ : l1Cur))
  ) else (
  if y2 = 5 then (
  (eachN sl4Bent_L1 0 (5) (y1.Args, y1.Kind, y1.N, y1.Pos, y1.Type_, y1.Symbol, y1.Name)).bind fun (s1, s2, s3, s4, s5, s6, s7) =>
  some ((⟨s2, s3, s4, s5, s6, s7, s1⟩ : Expr), (⟨o0.b, z2.i, z2.h⟩ : l1Cur))
  ) else (
  some (y1, (⟨o0.b, z2.i, z2.h⟩ : l1Cur))
  )
  )
  )
  )
  )
  )
theorem sl4Bent_ok {o0 : l1Cur} {r : (Expr × l1Cur)} (hr : sl4Bent_m o0 = some r) {F0 : Nat → Prop} {M : List Nat} {w0 : World} {bo0 : Nat} {Ao0_0 : Option Addr} {no0_0 co0_0 : Nat} (hIo0_1 : I64 o0.i) (hIo0_2 : I64 o0.h) (H : HL F0 M w0 w0 [Pr.S o0.b (.slice Ao0_0 no0_0 co0_0)] [It.B bo0 159 [.slice Ao0_0 no0_0 co0_0, .int .i64 o0.i, .int .i64 o0.h]]) :
    Ret Try.prog 84 #[.pointer (some ⟨bo0, 0, none⟩)] w0 (· ∈ M) fun v w => ∃ A0 : Option Addr, ∃ n0 c0 : Nat, v = .agg #[.int .i64 r.1.Kind, .int .i64 r.1.N, .int .i64 r.1.Pos, .int .i64 r.1.Type_, .string r.1.Symbol, .string r.1.Name, (.slice A0 n0 c0)] ∧ I64 r.1.Kind ∧ I64 r.1.N ∧ I64 r.1.Pos ∧ I64 r.1.Type_ ∧ r.1.Symbol.size ≤ 9223372036854775807 ∧ r.1.Name.size ≤ 9223372036854775807 ∧ I64 r.2.i ∧ I64 r.2.h ∧ HL F0 M w0 w [] [It.B bo0 159 [.slice Ao0_0 no0_0 co0_0, .int .i64 r.2.i, .int .i64 r.2.h], It.G 31 r.1.Args (.slice A0 n0 c0)] := by
  refine enter Try.func84 rfl rfl rfl ?_
  refine CW.seq (CW.reg ?_)
  refine WL.allocH rfl rfl rfl ze31 H fun b1 w1 H => ?_
  refine WL.nil ?_
  refine CW.seq (CW.reg ?_)
  refine WL.ev rfl rfl (Ev.mv rfl rfl) ?_
  obtain ⟨⟨y1, z1⟩, hy1, hr⟩ := bd hr
  obtain ⟨F', M', hfF, hcM⟩ := H.callW [true, false] ⟨noB, trivial⟩
  obtain ⟨H', hcN⟩ := hcM (ps := [Pr.S o0.b (.slice Ao0_0 no0_0 co0_0)]) ⟨hfF.get (i := 0) rfl, trivial⟩
  refine WL.call rfl rfl rfl rfl rfl ok143 rfl (sl4Draw_ok hy1 hIo0_1 hIo0_2 H') ?_
  rintro _ w2 hE ⟨A1, n1, c1, rfl, hI1, hI2, hI3, hI4, hS1, hS2, hI5, hI6, H'⟩
  have H := hcN 1 H' rfl
  refine WL.allocH rfl rfl rfl ze31 H fun b2 w3 H => ?_
  refine WL.stB (i := 3) rfl rfl rfl sz31 rfl rfl rfl rfl (all1 rfl (all1 rfl (all1 rfl (all1 rfl (all1 rfl (all1 rfl (all1 rfl all0))))))) H rfl rfl rfl fun w4 H => ?_
  refine WL.nil ?_
  refine CW.seq (CW.seq (CW.reg ?_))
  refine WL.ev rfl rfl (Ev.mv rfl rfl) ?_
  obtain ⟨⟨y2, z2⟩, hy2, hr⟩ := bd hr
  obtain ⟨F', M', hfF, hoF, hcM⟩ := H.callN [true, false, false, false] ⟨noB, trivial⟩
  obtain ⟨H', hcN⟩ := hcM (ps := [Pr.S o0.b (.slice Ao0_0 no0_0 co0_0)]) ⟨hfF.get (i := 0) rfl, trivial⟩
  refine WL.call rfl rfl rfl rfl rfl ok86 rfl (sl1Below_ok hy2 (by decide : I64 14) hI5 hI6 H') ?_
  rintro _ w5 hE ⟨rfl, hI7, hI8, hI9, H'⟩
  have H := hcN 1 H' rfl ⟨fun _ _ _ _ _ h => h, trivial⟩
  refine WL.nil ?_
  refine CW.block (CW.seq (CW.reg ?_))
  refine WL.ev rfl rfl (Ev.bin rfl rfl rfl Bin.eql) (WL.ev rfl rfl (Ev.as rfl rfl) (WL.nil ?_))
  refine CW.condD rfl (fun h1 => ?_) (fun h1 => ?_)
  · skip
    have hr := ifp h1 hr
    refine CW.reg ?_
    refine WL.ev rfl rfl (Ev.mv rfl rfl) ?_
    obtain ⟨⟨y3, z3⟩, hy3, hr⟩ := bd hr
    obtain ⟨F', M', hfF, hoF, hcM⟩ := H.callN [true, false, false, false] ⟨noB, trivial⟩
    obtain ⟨H', hcN⟩ := hcM (ps := [Pr.S o0.b (.slice Ao0_0 no0_0 co0_0)]) ⟨hfF.get (i := 0) rfl, trivial⟩
    refine WL.call rfl rfl rfl rfl rfl ok86 rfl (sl1Below_ok hy3 (by decide : I64 11) hI8 hI9 H') ?_
    rintro _ w6 hE ⟨rfl, hI10, hI11, hI12, H'⟩
    have H := hcN 1 H' rfl ⟨fun _ _ _ _ _ h => h, trivial⟩
    refine WL.ev rfl rfl (Ev.fa rfl fo31_0 rfl) ?_
    refine WL.stB (i := 3) rfl rfl rfl sz3 rfl rfl rfl rfl (all1 rfl all0) H rfl rfl rfl fun w7 H => ?_
    refine WL.nil ?_
    refine CW.seq (CW.reg ?_)
    refine WL.ev rfl rfl (Ev.lda rfl ag31 sz31 rfl (At.blk (H.rB (i := 3) rfl)) rfl) ?_
    refine WL.stB (i := 1) rfl rfl rfl sz31 rfl rfl rfl rfl (all1 rfl (all1 rfl (all1 rfl (all1 rfl (all1 rfl (all1 rfl (all1 rfl all0))))))) H rfl rfl rfl fun w8 H => ?_
    refine WL.nil ?_
    refine CW.ret ?_
    obtain rfl := sm hr
    exact ⟨_, resC rfl ag31 sz31 rfl rfl (At.blk (H.rB (i := 1) rfl)) rfl, H.chg, _, _, _, rfl, hI10, hI2, hI3, hI4, hS1, hS2, hI11, hI12, H.outM (fr' := []) [true, false, true, false] fun _ _ => trivial⟩
  · skip
    have hr := ifn h1 hr
    refine CW.seq (CW.reg ?_)
    refine WL.ev rfl rfl (Ev.bin rfl rfl rfl Bin.eql) (WL.ev rfl rfl (Ev.as rfl rfl) (WL.nil ?_))
    refine CW.condD rfl (fun h2 => ?_) (fun h2 => ?_)
    · skip
      have hr := ifp h2 hr
      refine CW.reg ?_
      refine WL.ev rfl rfl (Ev.fa rfl fo31_6 rfl) (WL.ev rfl rfl (Ev.ld rfl ag29 rfl ((H.rB (i := 3) rfl).cell rfl)) (WL.ev rfl rfl (Ev.build rfl pl31 ze31 rfl rfl rfl rfl) ?_))
      refine WL.lit1 rfl rfl rfl el29 sz31 ze31 rfl rfl rfl rfl rfl rfl fun b3 w9 hE hb hB => ?_
      have H := H.newB hE hb hB
      obtain ⟨hg1, hr⟩ := grd_some hr
      refine WL.appG (i := 2) (ys := [(⟨7, 0, 0, 0, (⟨#[]⟩ : ByteArray), (⟨#[]⟩ : ByteArray), []⟩ : Expr)]) rfl rfl rfl el29 sz31 by31 ze31 rfl rfl rfl H rfl (fun F hF => rdL.single (Expr_rd.2 ⟨_, rfl, (by decide : I64 7), (by decide : I64 0), (by decide : I64 0), (by decide : I64 0), (by decide : (⟨#[]⟩ : ByteArray).size ≤ 9223372036854775807), (by decide : (⟨#[]⟩ : ByteArray).size ≤ 9223372036854775807), (rdS.nil (Nat.zero_le _))⟩)) (.inr ⟨_, _, rfl, At.blk (H.rB (i := 4) rfl)⟩) hg1 fun A2 n2 c2 w10 H => ?_
      refine WL.ev rfl rfl (Ev.fa rfl fo31_6 rfl) ?_
      refine WL.stB (i := 3) rfl rfl rfl sz29 rfl rfl rfl rfl (all1 rfl all0) H rfl rfl rfl fun w11 H => ?_
      refine WL.nil ?_
      refine CW.seq (CW.reg ?_)
      refine WL.ev rfl rfl (Ev.lda rfl ag31 sz31 rfl (At.blk (H.rB (i := 3) rfl)) rfl) ?_
      refine WL.stB (i := 1) rfl rfl rfl sz31 rfl rfl rfl rfl (all1 rfl (all1 rfl (all1 rfl (all1 rfl (all1 rfl (all1 rfl (all1 rfl all0))))))) H rfl rfl rfl fun w12 H => ?_
      refine WL.nil ?_
      refine CW.ret ?_
      obtain rfl := sm hr
      exact ⟨_, resC rfl ag31 sz31 rfl rfl (At.blk (H.rB (i := 1) rfl)) rfl, H.chg, _, _, _, rfl, hI1, hI2, hI3, hI4, hS1, hS2, hI8, hI9, H.outM (fr' := []) [true, false, true, false, false] fun _ _ => trivial⟩
    · skip
      have hr := ifn h2 hr
      refine CW.seq (CW.reg ?_)
      refine WL.ev rfl rfl (Ev.bin rfl rfl rfl Bin.eql) (WL.ev rfl rfl (Ev.as rfl rfl) (WL.nil ?_))
      refine CW.condD rfl (fun h3 => ?_) (fun h3 => ?_)
      · skip
        have hr := ifp h3 hr
        refine CW.reg ?_
        refine WL.ev rfl rfl (Ev.mv rfl rfl) ?_
        refine WL.litN (xs := ([(-1), 13, 4096, 1000001] : List Int)) rfl rfl rfl el41 sz3 ze3 rfl (ball1 rfl (ball1 rfl (ball1 rfl (ball1 rfl ball0)))) rfl rfl rfl (fun _ => (ownL.cons1 (α := Int) ⟨rfl, rfl, (by decide : I64 (-1))⟩ (ownL.cons1 (α := Int) ⟨rfl, rfl, (by decide : I64 13)⟩ (ownL.cons1 (α := Int) ⟨rfl, rfl, (by decide : I64 4096)⟩ (ownL.cons1 (α := Int) ⟨rfl, rfl, (by decide : I64 1000001)⟩ ⟨rfl, rfl⟩))))) rfl H fun A3 n3 c3 w13 H => ?_
        obtain ⟨⟨y4, z4⟩, hy4, hr⟩ := bd hr
        obtain ⟨F', M', hfF, hoF, hcM⟩ := H.callN [true, false, false, false, false] ⟨noB, trivial⟩
        obtain ⟨H', hcN⟩ := hcM (ps := [Pr.S ([(-1), 13, 4096, 1000001] : List Int) (.slice A3 n3 c3), Pr.S o0.b (.slice Ao0_0 no0_0 co0_0)]) ⟨roO (hoF 3 _ rfl), hfF.get (i := 0) rfl, trivial⟩
        refine WL.call rfl rfl rfl rfl rfl ok116 rfl (sl1PickInt_ok hy4 hI8 hI9 H') ?_
        rintro _ w14 hE ⟨rfl, hI13, hI14, hI15, H'⟩
        have H := hcN 1 H' rfl ⟨fun _ _ _ _ _ h => h, trivial⟩
        refine WL.ev rfl rfl (Ev.fa rfl fo31_1 rfl) ?_
        refine WL.stB (i := 3) rfl rfl rfl sz3 rfl rfl rfl rfl (all1 rfl all0) H rfl rfl rfl fun w15 H => ?_
        refine WL.nil ?_
        refine CW.seq (CW.reg ?_)
        refine WL.ev rfl rfl (Ev.lda rfl ag31 sz31 rfl (At.blk (H.rB (i := 3) rfl)) rfl) ?_
        refine WL.stB (i := 1) rfl rfl rfl sz31 rfl rfl rfl rfl (all1 rfl (all1 rfl (all1 rfl (all1 rfl (all1 rfl (all1 rfl (all1 rfl all0))))))) H rfl rfl rfl fun w16 H => ?_
        refine WL.nil ?_
        refine CW.ret ?_
        obtain rfl := sm hr
        exact ⟨_, resC rfl ag31 sz31 rfl rfl (At.blk (H.rB (i := 1) rfl)) rfl, H.chg, _, _, _, rfl, hI1, hI13, hI3, hI4, hS1, hS2, hI14, hI15, H.outM (fr' := []) [true, false, true, false, false] fun _ _ => trivial⟩
      · skip
        have hr := ifn h3 hr
        refine CW.seq (CW.reg ?_)
        refine WL.ev rfl rfl (Ev.bin rfl rfl rfl Bin.eql) (WL.ev rfl rfl (Ev.as rfl rfl) (WL.nil ?_))
        refine CW.condD rfl (fun h4 => ?_) (fun h4 => ?_)
        · skip
          have hr := ifp h4 hr
          refine CW.reg ?_
          refine WL.ev rfl rfl (Ev.mv rfl rfl) ?_
          refine WL.litN (xs := ([(-1), 4, 1] : List Int)) rfl rfl rfl el41 sz3 ze3 rfl (ball1 rfl (ball1 rfl (ball1 rfl ball0))) rfl rfl rfl (fun _ => (ownL.cons1 (α := Int) ⟨rfl, rfl, (by decide : I64 (-1))⟩ (ownL.cons1 (α := Int) ⟨rfl, rfl, (by decide : I64 4)⟩ (ownL.cons1 (α := Int) ⟨rfl, rfl, (by decide : I64 1)⟩ ⟨rfl, rfl⟩)))) rfl H fun A4 n4 c4 w17 H => ?_
          obtain ⟨⟨y5, z5⟩, hy5, hr⟩ := bd hr
          obtain ⟨F', M', hfF, hoF, hcM⟩ := H.callN [true, false, false, false, false] ⟨noB, trivial⟩
          obtain ⟨H', hcN⟩ := hcM (ps := [Pr.S ([(-1), 4, 1] : List Int) (.slice A4 n4 c4), Pr.S o0.b (.slice Ao0_0 no0_0 co0_0)]) ⟨roO (hoF 3 _ rfl), hfF.get (i := 0) rfl, trivial⟩
          refine WL.call rfl rfl rfl rfl rfl ok116 rfl (sl1PickInt_ok hy5 hI8 hI9 H') ?_
          rintro _ w18 hE ⟨rfl, hI16, hI17, hI18, H'⟩
          have H := hcN 1 H' rfl ⟨fun _ _ _ _ _ h => h, trivial⟩
          refine WL.ev rfl rfl (Ev.fa rfl fo31_2 rfl) ?_
          refine WL.stB (i := 3) rfl rfl rfl sz3 rfl rfl rfl rfl (all1 rfl all0) H rfl rfl rfl fun w19 H => ?_
          refine WL.nil ?_
          refine CW.seq (CW.reg ?_)
          refine WL.ev rfl rfl (Ev.lda rfl ag31 sz31 rfl (At.blk (H.rB (i := 3) rfl)) rfl) ?_
          refine WL.stB (i := 1) rfl rfl rfl sz31 rfl rfl rfl rfl (all1 rfl (all1 rfl (all1 rfl (all1 rfl (all1 rfl (all1 rfl (all1 rfl all0))))))) H rfl rfl rfl fun w20 H => ?_
          refine WL.nil ?_
          refine CW.ret ?_
          obtain rfl := sm hr
          exact ⟨_, resC rfl ag31 sz31 rfl rfl (At.blk (H.rB (i := 1) rfl)) rfl, H.chg, _, _, _, rfl, hI1, hI2, hI16, hI4, hS1, hS2, hI17, hI18, H.outM (fr' := []) [true, false, true, false, false] fun _ _ => trivial⟩
        · skip
          have hr := ifn h4 hr
          refine CW.seq (CW.reg ?_)
          refine WL.ev rfl rfl (Ev.bin rfl rfl rfl Bin.eql) (WL.ev rfl rfl (Ev.as rfl rfl) (WL.nil ?_))
          refine CW.condD rfl (fun h5 => ?_) (fun h5 => ?_)
          · skip
            have hr := ifp h5 hr
            refine CW.reg ?_
            refine WL.ev rfl rfl (Ev.mv rfl rfl) ?_
            refine WL.litN (xs := [(⟨#[105, 102]⟩ : ByteArray), (⟨#[]⟩ : ByteArray), (⟨#[120]⟩ : ByteArray)]) rfl rfl rfl el82 sz9 ze9 rfl (ball1 rfl (ball1 rfl (ball1 rfl ball0))) rfl rfl rfl (fun _ => (ownL.cons1 (α := ByteArray) ⟨rfl, rfl, (by decide : (⟨#[105, 102]⟩ : ByteArray).size ≤ 9223372036854775807)⟩ (ownL.cons1 (α := ByteArray) ⟨rfl, rfl, (by decide : (⟨#[]⟩ : ByteArray).size ≤ 9223372036854775807)⟩ (ownL.cons1 (α := ByteArray) ⟨rfl, rfl, (by decide : (⟨#[120]⟩ : ByteArray).size ≤ 9223372036854775807)⟩ ⟨rfl, rfl⟩)))) rfl H fun A5 n5 c5 w21 H => ?_
            obtain ⟨⟨y6, z6⟩, hy6, hr⟩ := bd hr
            obtain ⟨F', M', hfF, hoF, hcM⟩ := H.callN [true, false, false, false, false] ⟨noB, trivial⟩
            obtain ⟨H', hcN⟩ := hcM (ps := [Pr.S [(⟨#[105, 102]⟩ : ByteArray), (⟨#[]⟩ : ByteArray), (⟨#[120]⟩ : ByteArray)] (.slice A5 n5 c5), Pr.S o0.b (.slice Ao0_0 no0_0 co0_0)]) ⟨roO (hoF 3 _ rfl), hfF.get (i := 0) rfl, trivial⟩
            refine WL.call rfl rfl rfl rfl rfl ok144 rfl (sl1Pick_ok hy6 hI8 hI9 H') ?_
            rintro _ w22 hE ⟨rfl, hS3, hI19, hI20, H'⟩
            have H := hcN 1 H' rfl ⟨fun _ _ _ _ _ h => h, trivial⟩
            refine WL.ev rfl rfl (Ev.fa rfl fo31_5 rfl) ?_
            refine WL.stB (i := 3) rfl rfl rfl sz9 rfl rfl rfl rfl (all1 rfl all0) H rfl rfl rfl fun w23 H => ?_
            refine WL.nil ?_
            refine CW.seq (CW.reg ?_)
            refine WL.ev rfl rfl (Ev.lda rfl ag31 sz31 rfl (At.blk (H.rB (i := 3) rfl)) rfl) ?_
            refine WL.stB (i := 1) rfl rfl rfl sz31 rfl rfl rfl rfl (all1 rfl (all1 rfl (all1 rfl (all1 rfl (all1 rfl (all1 rfl (all1 rfl all0))))))) H rfl rfl rfl fun w24 H => ?_
            refine WL.nil ?_
            refine CW.ret ?_
            obtain rfl := sm hr
            exact ⟨_, resC rfl ag31 sz31 rfl rfl (At.blk (H.rB (i := 1) rfl)) rfl, H.chg, _, _, _, rfl, hI1, hI2, hI3, hI4, hS1, hS3, hI19, hI20, H.outM (fr' := []) [true, false, true, false, false] fun _ _ => trivial⟩
          · skip
            have hr := ifn h5 hr
            refine CW.seq (CW.reg ?_)
            refine WL.ev rfl rfl (Ev.bin rfl rfl rfl Bin.eql) (WL.ev rfl rfl (Ev.as rfl rfl) (WL.nil ?_))
            refine CW.condD rfl (fun h6 => ?_) (fun h6 => ?_)
            · skip
              have hr := ifp h6 hr
              refine CW.seq (CW.reg ?_)
              refine WL.ev rfl rfl (Ev.as rfl rfl) (WL.nil ?_)
              obtain ⟨q1, hq1, hr⟩ := bd hr
              refine CW.block (CW.loop (α := Nat × (List Expr) × Int × Int × Int × Int × ByteArray × ByteArray × Value) (fun ⟨k1, s1, s2, s3, s4, s5, s6, s7, v1⟩ => [(2, .pointer (some ⟨b1, 0, none⟩)), (3, .pointer (some ⟨b2, 0, none⟩)), (4, .int .i64 (k1 : Int))]) (fun ⟨k1, s1, s2, s3, s4, s5, s6, s7, v1⟩ w => k1 ≤ 5 ∧ eachN sl4Bent_L1 k1 (5 - k1) (s1, s2, s3, s4, s5, s6, s7) = some q1 ∧ I64 s2 ∧ I64 s3 ∧ I64 s4 ∧ I64 s5 ∧ s6.size ≤ 9223372036854775807 ∧ s7.size ≤ 9223372036854775807 ∧ HL F0 M w0 w [Pr.S o0.b (.slice Ao0_0 no0_0 co0_0)] [It.B bo0 159 [.slice Ao0_0 no0_0 co0_0, .int .i64 z2.i, .int .i64 z2.h], It.B b1 31 [.int .i64 0, .int .i64 0, .int .i64 0, .int .i64 0, .string (⟨#[]⟩ : ByteArray), .string (⟨#[]⟩ : ByteArray), .slice none 0 0], It.G 31 s1 v1, It.B b2 31 [.int .i64 s2, .int .i64 s3, .int .i64 s4, .int .i64 s5, .string s6, .string s7, v1]]) (fun ⟨k1, s1, s2, s3, s4, s5, s6, s7, v1⟩ => 5 - k1) ⟨0, y1.Args, y1.Kind, y1.N, y1.Pos, y1.Type_, y1.Symbol, y1.Name, (.slice A1 n1 c1)⟩ ⟨rfl, rfl, rfl, trivial⟩ ⟨Nat.zero_le _, hq1, hI1, hI2, hI3, hI4, hS1, hS2, H.keep 1 4⟩ ?_)
              rintro ⟨k1, s1, s2, s3, s4, s5, s6, s7, v1⟩ σ w25 ⟨hk1, hq1, hI21, hI22, hI23, hI24, hS4, hS5, H⟩
              obtain ⟨A6, n6, c6, rfl⟩ := (H.rG (i := 2) rfl).form3
              refine CW.seq (CW.seq (CW.reg ?_))
              refine WL.ev rfl rfl (Ev.mv rfl rfl) (WL.ev rfl rfl (Ev.bin rfl rfl rfl Bin.lss) (WL.nil ?_))
              refine CW.condD rfl (fun h7 => ?_) (fun h7 => ?_)
              · skip
                have hk2 := cast_lt h7
                obtain ⟨z7, hb1, hq1⟩ := eachN_go hq1 hk2
                unfold sl4Bent_L1 at hb1
                dsimp only at hb1
                refine CW.skip ?_
                refine CW.seq (CW.block (CW.reg ?_))
                refine WL.ev rfl rfl (Ev.lda rfl ag31 sz31 rfl (At.blk (H.rB (i := 3) rfl)) rfl) (WL.ev rfl rfl (Ev.build rfl pl31 ze31 rfl rfl rfl rfl) ?_)
                have H := H.frzG (i := 2) rfl
                obtain ⟨y7, hy7, hb1⟩ := bd hb1
                obtain ⟨F, hF, hcl⟩ := H.call
                refine WL.call rfl rfl rfl rfl rfl ok99 rfl (sl4Op_ok hy7 (by decide : I64 1) (Expr_rd.2 ⟨_, rfl, hI21, hI22, hI23, hI24, hS4, hS5, (hF.get (i := 1) rfl)⟩) (Expr_rd.2 ⟨_, rfl, (by decide : I64 2), (by decide : I64 0), (by decide : I64 0), (by decide : I64 0), (by decide : (⟨#[]⟩ : ByteArray).size ≤ 9223372036854775807), (by decide : (⟨#[]⟩ : ByteArray).size ≤ 9223372036854775807), (rdS.nil (Nat.zero_le _))⟩)) ?_
                rintro _ w26 hE ⟨A7, n7, c7, rfl, hI25, hI26, hI27, hI28, hS6, hS7, H'⟩
                have H : HL F0 M w0 w26 [Pr.S o0.b (.slice Ao0_0 no0_0 co0_0), Pr.S s1 (.slice A6 n6 c6)] [It.B bo0 159 [.slice Ao0_0 no0_0 co0_0, .int .i64 z2.i, .int .i64 z2.h], It.B b1 31 [.int .i64 0, .int .i64 0, .int .i64 0, .int .i64 0, .string (⟨#[]⟩ : ByteArray), .string (⟨#[]⟩ : ByteArray), .slice none 0 0], It.emp, It.B b2 31 [.int .i64 s2, .int .i64 s3, .int .i64 s4, .int .i64 s5, .string s6, .string s7, .slice A6 n6 c6], It.G 31 y7.Args (.slice A7 n7 c7)] := hcl H'
                refine WL.stB (i := 3) rfl rfl rfl sz31 rfl rfl rfl rfl (all1 rfl (all1 rfl (all1 rfl (all1 rfl (all1 rfl (all1 rfl (all1 rfl all0))))))) H rfl rfl rfl fun w27 H => ?_
                refine WL.nil ?_
                refine CW.reg ?_
                refine WL.ev rfl rfl (Ev.mv rfl rfl) (WL.ev rfl rfl (Ev.bin rfl rfl rfl (Bin.addN (a := k1) (b := 1) rfl (i64_succN hk2 (by decide : I64 5).2))) (WL.ev rfl rfl (Ev.as rfl rfl) (WL.nil ?_)))
                have H := H.swap 2 4
                obtain rfl := sm hb1
                exact ⟨⟨k1 + 1, y7.Args, y7.Kind, y7.N, y7.Pos, y7.Type_, y7.Symbol, y7.Name, (.slice A7 n7 c7)⟩, ⟨rfl, rfl, rfl, trivial⟩, ⟨hk2, hq1, hI25, hI26, hI27, hI28, hS6, hS7, H.keep 1 4⟩, Nat.sub_lt_sub_left hk2 (Nat.lt_succ_self _)⟩
              · skip
                obtain rfl := eachN_end hq1 (not_cast_lt h7)
                refine CW.exit ?_
                refine CW.seq (CW.reg ?_)
                refine WL.ev rfl rfl (Ev.lda rfl ag31 sz31 rfl (At.blk (H.rB (i := 3) rfl)) rfl) ?_
                refine WL.stB (i := 1) rfl rfl rfl sz31 rfl rfl rfl rfl (all1 rfl (all1 rfl (all1 rfl (all1 rfl (all1 rfl (all1 rfl (all1 rfl all0))))))) H rfl rfl rfl fun w28 H => ?_
                refine WL.nil ?_
                refine CW.ret ?_
                obtain rfl := sm hr
                exact ⟨_, resC rfl ag31 sz31 rfl rfl (At.blk (H.rB (i := 1) rfl)) rfl, H.chg, _, _, _, rfl, hI21, hI22, hI23, hI24, hS4, hS5, hI8, hI9, H.outM (fr' := []) [true, false, true, false] fun _ _ => trivial⟩
            · skip
              have hr := ifn h6 hr
              refine CW.skip ?_
              refine CW.seq (CW.reg ?_)
              refine WL.ev rfl rfl (Ev.lda rfl ag31 sz31 rfl (At.blk (H.rB (i := 3) rfl)) rfl) ?_
              refine WL.stB (i := 1) rfl rfl rfl sz31 rfl rfl rfl rfl (all1 rfl (all1 rfl (all1 rfl (all1 rfl (all1 rfl (all1 rfl (all1 rfl all0))))))) H rfl rfl rfl fun w29 H => ?_
              refine WL.nil ?_
              refine CW.ret ?_
              obtain rfl := sm hr
              exact ⟨_, resC rfl ag31 sz31 rfl rfl (At.blk (H.rB (i := 1) rfl)) rfl, H.chg, _, _, _, rfl, hI1, hI2, hI3, hI4, hS1, hS2, hI8, hI9, H.outM (fr' := []) [true, false, true, false] fun _ _ => trivial⟩

noncomputable def sl4Before_m (a0 : Occurrence) (a1 : Occurrence) : Option Bool :=
  (
  if a0.Pos < a1.Pos then (
  some true
  ) else (
  (
  if a0.Pos = a1.Pos then (
  some (Op.bytesLess a0.Name.toList a1.Name.toList)
  ) else (
  some false
  )
  ).bind fun s2 =>
  some s2
  )
  ).bind fun s1 =>
  some s1
theorem sl4Before_ok {a0 : Occurrence} {a1 : Occurrence} {r : Bool} (hr : sl4Before_m a0 a1 = some r) {F0 : Nat → Prop} {w0 : World} {ca0 : List Value} (ha0 : rd F0 w0 a0 ca0) {ca1 : List Value} (ha1 : rd F0 w0 a1 ca1) :
    Ret Try.prog 181 #[.agg ca0.toArray, .agg ca1.toArray] w0 (fun _ => False) fun v w => v = .bool r := by
  have H := ((HL.start F0 w0).argR ha0).argR ha1
  obtain ⟨rfl, hI1, hS1, H⟩ := op_Occurrence H (i := 0) rfl
  obtain ⟨rfl, hI2, hS2, H⟩ := op_Occurrence H (i := 1) rfl
  refine enter Try.func181 rfl rfl rfl ?_
  refine CW.seq (CW.reg ?_)
  refine WL.boxH rfl rfl rfl rfl rfl H fun b1 w1 H => ?_
  refine WL.boxH rfl rfl rfl rfl rfl H fun b2 w2 H => ?_
  refine WL.ev rfl rfl (Ev.as rfl rfl) (WL.nil ?_)
  refine CW.seq (CW.reg ?_)
  refine WL.ev rfl rfl (Ev.fa rfl fo48_0 rfl) (WL.ev rfl rfl (Ev.ld rfl ag3 rfl ((H.rB (i := 0) rfl).cell rfl)) (WL.ev rfl rfl (Ev.fa rfl fo48_0 rfl) (WL.ev rfl rfl (Ev.ld rfl ag3 rfl ((H.rB (i := 1) rfl).cell rfl)) (WL.ev rfl rfl (Ev.bin rfl rfl rfl Bin.lss) ?_))))
  obtain ⟨q1, hm1, hr⟩ := bd hr
  refine WL.cut 14 (fun ρ' w => ∃ (s1 : Bool), s1 = q1 ∧ agree ρ' [(4, .bool false), (23, .bool s1)] ∧ HL F0 [] w0 w [Pr.R a0 [.int .i64 a0.Pos, .string a0.Name], Pr.R a1 [.int .i64 a1.Pos, .string a1.Name]] [It.B b1 48 [.int .i64 a0.Pos, .string a0.Name], It.B b2 48 [.int .i64 a1.Pos, .string a1.Name]]) ?_ ?_
  · skip
    refine WL.mvD rfl rfl rfl rfl (fun h1 => ?_) (fun h1 => ?_)
    · skip
      have hm1 := ifp h1 hm1
      refine WL.off rfl rfl rfl (WL.off rfl rfl rfl (WL.off rfl rfl rfl (WL.off rfl rfl rfl (WL.off rfl rfl rfl (WL.off rfl rfl rfl (WL.off rfl rfl rfl (WL.off rfl rfl rfl (WL.off rfl rfl rfl (WL.off rfl rfl rfl (WL.off rfl rfl rfl (WL.off rfl rfl rfl (WL.ev rfl rfl (Ev.pickT rfl rfl rfl) (WL.nil ?_)))))))))))))
      obtain rfl := sm hm1
      exact ⟨true, rfl, ⟨rfl, rfl, trivial⟩, H.keep 2 2⟩
    · skip
      have hm1 := ifn h1 hm1
      refine WL.on rfl rfl (WL.ev rfl rfl (Ev.fa rfl fo48_0 rfl) (WL.on rfl rfl (WL.ev rfl rfl (Ev.ld rfl ag3 rfl ((H.rB (i := 0) rfl).cell rfl)) (WL.on rfl rfl (WL.ev rfl rfl (Ev.fa rfl fo48_0 rfl) (WL.on rfl rfl (WL.ev rfl rfl (Ev.ld rfl ag3 rfl ((H.rB (i := 1) rfl).cell rfl)) (WL.on rfl rfl (WL.ev rfl rfl (Ev.bin rfl rfl rfl Bin.eql) (WL.on rfl rfl ?_))))))))))
      obtain ⟨q2, hm2, hm1⟩ := bd hm1
      refine WL.cut 7 (fun ρ' w => ∃ (s2 : Bool), s2 = q2 ∧ agree ρ' [(4, .bool false), (10, .bool false), (22, .bool s2)] ∧ HL F0 [] w0 w [Pr.R a0 [.int .i64 a0.Pos, .string a0.Name], Pr.R a1 [.int .i64 a1.Pos, .string a1.Name]] [It.B b1 48 [.int .i64 a0.Pos, .string a0.Name], It.B b2 48 [.int .i64 a1.Pos, .string a1.Name]]) ?_ ?_
      · skip
        refine WL.on rfl rfl ?_
        refine WL.mvD rfl rfl rfl rfl (fun h2 => ?_) (fun h2 => ?_)
        · skip
          have hm2 := ifp h2 hm2
          refine WL.on rfl rfl (WL.ev rfl rfl (Ev.fa rfl fo48_1 rfl) (WL.on rfl rfl (WL.ev rfl rfl (Ev.ld rfl ag9 rfl ((H.rB (i := 0) rfl).cell rfl)) (WL.on rfl rfl (WL.ev rfl rfl (Ev.fa rfl fo48_1 rfl) (WL.on rfl rfl (WL.ev rfl rfl (Ev.ld rfl ag9 rfl ((H.rB (i := 1) rfl).cell rfl)) (WL.on rfl rfl (WL.ev rfl rfl (Ev.bin rfl rfl rfl Bin.lssS) (WL.on rfl rfl (WL.ev rfl rfl (Ev.pickT rfl rfl rfl) (WL.nil ?_))))))))))))
          obtain rfl := sm hm2
          exact ⟨(Op.bytesLess a0.Name.toList a1.Name.toList), rfl, ⟨rfl, rfl, rfl, trivial⟩, H.keep 2 2⟩
        · skip
          have hm2 := ifn h2 hm2
          refine WL.off rfl rfl rfl (WL.off rfl rfl rfl (WL.off rfl rfl rfl (WL.off rfl rfl rfl (WL.off rfl rfl rfl (WL.on rfl rfl (WL.ev rfl rfl (Ev.pickF rfl rfl rfl) (WL.nil ?_)))))))
          obtain rfl := sm hm2
          exact ⟨false, rfl, ⟨rfl, rfl, rfl, trivial⟩, H.keep 2 2⟩
      · rintro ρ' w3 ⟨s2, rfl, hag, H⟩
        obtain ⟨σ, rfl⟩ := ofL_ex hag
        refine WL.ev rfl rfl (Ev.pickF rfl rfl rfl) (WL.nil ?_)
        obtain rfl := sm hm1
        exact ⟨s2, rfl, ⟨rfl, rfl, trivial⟩, H.keep 2 2⟩
  · rintro ρ' w4 ⟨s1, rfl, hag, H⟩
    obtain ⟨σ, rfl⟩ := ofL_ex hag
    refine WL.ev rfl rfl (Ev.as rfl rfl) (WL.nil ?_)
    refine CW.ret ?_
    obtain rfl := sm hr
    exact ⟨_, res1 rfl rfl rfl, H.ext0, rfl⟩

noncomputable def sl4Put_L1 (a0 : (List Occurrence)) (a1 : Occurrence) : Int → Option (Int ⊕ Int) := fun s2 => 
  if s2 < (a0.length : Int) then (
  grd (0 ≤ s2) <|
  (a0[s2.toNat]?).bind fun x1 =>
  (sl4Before_m x1 a1).bind fun y1 =>
  if y1 = true then (
  grd (I64 (s2 + 1)) <|
  some (.inl (s2 + 1))
  ) else (
  some (.inr s2)
  )
  ) else (
  some (.inr s2)
  )
noncomputable def sl4Put_m (a0 : (List Occurrence)) (a1 : Occurrence) : Option (List Occurrence) :=
  (
  iterO (sl4Put_L1 a0 a1) 0
  ).bind fun s1 =>
  if s1 < (a0.length : Int) then (
  grd (0 ≤ s1) <|
  (a0[s1.toNat]?).bind fun x2 =>
  if x2 = a1 then (
  some a0
  ) else (
  grd (0 ≤ s1) <|
  grd (s1.toNat ≤ a0.length) <|
  grd (((([] : List Occurrence).length : Int) + ((a0.take s1.toNat).length : Int)) * 24 ≤ 140737488355328 ∧ (([] : List Occurrence).length : Int) + ((a0.take s1.toNat).length : Int) ≤ 9223372036854775807) <|
  grd ((((a0.take s1.toNat).length : Int) + 1) * 24 ≤ 140737488355328 ∧ ((a0.take s1.toNat).length : Int) + 1 ≤ 9223372036854775807) <|
  grd (0 ≤ s1) <|
  grd (s1.toNat ≤ a0.length) <|
  grd (((((a0.take s1.toNat) ++ [a1]).length : Int) + ((a0.drop s1.toNat).length : Int)) * 24 ≤ 140737488355328 ∧ (((a0.take s1.toNat) ++ [a1]).length : Int) + ((a0.drop s1.toNat).length : Int) ≤ 9223372036854775807) <|
  some (((a0.take s1.toNat) ++ [a1]) ++ (a0.drop s1.toNat))
  )
  ) else (
  grd (0 ≤ s1) <|
  grd (s1.toNat ≤ a0.length) <|
  grd (((([] : List Occurrence).length : Int) + ((a0.take s1.toNat).length : Int)) * 24 ≤ 140737488355328 ∧ (([] : List Occurrence).length : Int) + ((a0.take s1.toNat).length : Int) ≤ 9223372036854775807) <|
  grd ((((a0.take s1.toNat).length : Int) + 1) * 24 ≤ 140737488355328 ∧ ((a0.take s1.toNat).length : Int) + 1 ≤ 9223372036854775807) <|
  grd (0 ≤ s1) <|
  grd (s1.toNat ≤ a0.length) <|
  grd (((((a0.take s1.toNat) ++ [a1]).length : Int) + ((a0.drop s1.toNat).length : Int)) * 24 ≤ 140737488355328 ∧ (((a0.take s1.toNat) ++ [a1]).length : Int) + ((a0.drop s1.toNat).length : Int) ≤ 9223372036854775807) <|
  some (((a0.take s1.toNat) ++ [a1]) ++ (a0.drop s1.toNat))
  )
theorem sl4Put_ok {a0 : (List Occurrence)} {a1 : Occurrence} {r : (List Occurrence)} (hr : sl4Put_m a0 a1 = some r) {F0 : Nat → Prop} {w0 : World} {z0 : Value} (ha0 : rdS F0 w0 a0 z0) {ca1 : List Value} (ha1 : rd F0 w0 a1 ca1) :
    Ret Try.prog 153 #[z0, .agg ca1.toArray] w0 (fun _ => False) fun v w => ∃ A0 : Option Addr, ∃ n0 c0 : Nat, v = (.slice A0 n0 c0) ∧ HL F0 [] w0 w [Pr.S r (.slice A0 n0 c0)] [] := by
  obtain ⟨A0', n0', c0', rfl⟩ := ha0.form3
  have H := ((HL.start F0 w0).argS ha0).argR ha1
  obtain ⟨rfl, hI1, hS1, H⟩ := op_Occurrence H (i := 1) rfl
  refine enter Try.func153 rfl rfl rfl ?_
  refine CW.seq (CW.reg ?_)
  refine WL.boxH rfl rfl rfl rfl rfl H fun b1 w1 H => ?_
  refine WL.ev rfl rfl (Ev.as rfl rfl) (WL.nil ?_)
  refine CW.seq (CW.reg ?_)
  refine WL.ev rfl rfl (Ev.as rfl rfl) (WL.nil ?_)
  obtain ⟨q1, hm1, hr⟩ := bd hr
  refine CW.seq (CW.mid (fun ρ' w => ∃ (s1 : Int), s1 = q1 ∧ agree ρ' [(0, .slice A0' n0' c0'), (3, .pointer (some ⟨b1, 0, none⟩)), (5, .int .i64 s1)] ∧ I64 s1 ∧ HL F0 [] w0 w [Pr.S a0 (.slice A0' n0' c0'), Pr.R a1 [.int .i64 a1.Pos, .string a1.Name]] [It.B b1 48 [.int .i64 a1.Pos, .string a1.Name]]) ?_ ?_)
  · skip
    obtain ⟨m1, hq1⟩ := iterO_some.1 hm1
    refine CW.block (CW.loop (α := Nat × Int) (fun ⟨m1, s2⟩ => [(0, .slice A0' n0' c0'), (3, .pointer (some ⟨b1, 0, none⟩)), (5, .int .i64 s2)]) (fun ⟨m1, s2⟩ w => iterN (sl4Put_L1 a0 a1) m1 s2 = some q1 ∧ I64 s2 ∧ HL F0 [] w0 w [Pr.S a0 (.slice A0' n0' c0'), Pr.R a1 [.int .i64 a1.Pos, .string a1.Name]] [It.B b1 48 [.int .i64 a1.Pos, .string a1.Name]]) (fun ⟨m1, s2⟩ => m1) ⟨m1, 0⟩ ⟨rfl, rfl, rfl, trivial⟩ ⟨hq1, (by decide : I64 0), H.keep 2 1⟩ ?_)
    rintro ⟨m1, s2⟩ σ w2 ⟨hq1, hI3, H⟩
    obtain ⟨m2, z1, rfl, hb1, hs1, ht1⟩ := iterN_go hq1
    refine CW.seq (CW.seq (CW.quiet hmix (by kernel_rfl) ?_))
    refine QL.ev rfl rfl (fun _ _ => Ev.mv rfl rfl) (QL.ev rfl rfl (fun _ _ => Ev.mv rfl rfl) ?_)
    have hl1 := (H.rS (i := 0) rfl).I
    refine QL.ev rfl rfl (fun _ _ => Ev.lenV rfl el33 rfl (H.rS (i := 0) rfl)) (QL.ev rfl rfl (fun _ _ => Ev.bin rfl rfl rfl Bin.lss) ?_)
    refine QL.mvD rfl rfl rfl rfl (fun h1 => ?_) (fun h1 => ?_)
    · skip
      have hb1 := ifp h1 hb1
      refine QL.on rfl rfl (QL.ev rfl rfl (fun _ _ => Ev.mv rfl rfl) (QL.on rfl rfl (QL.ev rfl rfl (fun _ _ => Ev.mv rfl rfl) (QL.on rfl rfl ?_))))
      obtain ⟨hg1, hb1⟩ := grd_some hb1
      obtain ⟨x1, hx1, hb1⟩ := bd hb1
      obtain ⟨b2, ob2, cb2, hvb2, hI4, hS2, H⟩ := ixS_Occurrence H (i := 0) rfl hx1
      refine QL.ev rfl rfl (fun _ _ => Ev.ixV rfl el33 sz48 rfl hvb2 rfl hg1 (lt_of hx1)) (QL.on rfl rfl (QL.ev rfl rfl (fun _ hq => Ev.lda rfl ag48 sz48 rfl ((H.ext hq).rA (i := 2) rfl) rfl) (QL.on rfl rfl (QL.ev rfl rfl (fun _ hq => Ev.lda rfl ag48 sz48 rfl (At.blk ((H.ext hq).rB (i := 0) rfl)) rfl) (QL.on rfl rfl ?_)))))
      obtain ⟨y1, hy1, hb1⟩ := bd hb1
      refine QL.call rfl rfl rfl rfl rfl ok181 rfl (fun _ hq => sl4Before_ok hy1 (F0 := fun _ => False) ⟨rfl, hI4, hS2⟩ ⟨rfl, hI1, hS1⟩) ?_
      refine QL.ev rfl rfl (fun _ _ => Ev.pickT rfl rfl rfl) (QL.nil (fun w3 hE => ?_))
      have H := H.ext hE
      refine CW.condB rfl (fun h2 => ?_) (fun h2 => ?_)
      · skip
        have hb1 := ifp h2 hb1
        refine CW.skip ?_
        refine CW.block (CW.reg ?_)
        refine WL.ev rfl rfl (Ev.mv rfl rfl) ?_
        obtain ⟨hg2, hb1⟩ := grd_some hb1
        refine WL.ev rfl rfl (Ev.bin rfl rfl rfl (Bin.add hg2)) (WL.ev rfl rfl (Ev.as rfl rfl) (WL.nil ?_))
        obtain rfl := sm hb1
        exact ⟨⟨m2, (s2 + 1)⟩, ⟨rfl, rfl, rfl, trivial⟩, ⟨hs1 _ rfl, hg2, H.keep 2 1⟩, Nat.lt_succ_self _⟩
      · skip
        have hb1 := ifn h2 hb1
        refine CW.exit ?_
        obtain rfl := sm hb1
        obtain rfl := ht1 _ rfl
        exact ⟨s2, rfl, ⟨rfl, rfl, rfl, trivial⟩, hI3, H.keep 2 1⟩
    · skip
      have hb1 := ifn h1 hb1
      refine QL.off rfl rfl rfl (QL.off rfl rfl rfl (QL.off rfl rfl rfl (QL.off rfl rfl rfl (QL.off rfl rfl rfl (QL.off rfl rfl rfl (QL.ev rfl rfl (fun _ _ => Ev.pickF rfl rfl rfl) (QL.nil (fun w4 hE => ?_))))))))
      have H := H.ext hE
      refine CW.condF rfl ?_
      refine CW.exit ?_
      obtain rfl := sm hb1
      obtain rfl := ht1 _ rfl
      exact ⟨s2, rfl, ⟨rfl, rfl, rfl, trivial⟩, hI3, H.keep 2 1⟩
  · rintro ρ' w5 ⟨s1, rfl, hag, hI2, H⟩
    obtain ⟨σ, rfl⟩ := ofL_ex hag
    refine CW.seq (CW.seq (CW.quiet hmix (by kernel_rfl) ?_))
    refine QL.ev rfl rfl (fun _ _ => Ev.mv rfl rfl) (QL.ev rfl rfl (fun _ _ => Ev.mv rfl rfl) ?_)
    have hl2 := (H.rS (i := 0) rfl).I
    refine QL.ev rfl rfl (fun _ _ => Ev.lenV rfl el33 rfl (H.rS (i := 0) rfl)) (QL.ev rfl rfl (fun _ _ => Ev.bin rfl rfl rfl Bin.lss) ?_)
    refine QL.mvD rfl rfl rfl rfl (fun h3 => ?_) (fun h3 => ?_)
    · skip
      have hr := ifp h3 hr
      refine QL.on rfl rfl (QL.ev rfl rfl (fun _ _ => Ev.mv rfl rfl) (QL.on rfl rfl (QL.ev rfl rfl (fun _ _ => Ev.mv rfl rfl) (QL.on rfl rfl ?_))))
      obtain ⟨hg3, hr⟩ := grd_some hr
      obtain ⟨x2, hx2, hr⟩ := bd hr
      obtain ⟨b3, ob3, cb3, hvb3, hI5, hS3, H⟩ := ixS_Occurrence H (i := 0) rfl hx2
      refine QL.ev rfl rfl (fun _ _ => Ev.ixV rfl el33 sz48 rfl hvb3 rfl hg3 (lt_of hx2)) (QL.on rfl rfl (QL.ev rfl rfl (fun _ hq => Ev.lda rfl ag48 sz48 rfl ((H.ext hq).rA (i := 2) rfl) rfl) (QL.on rfl rfl (QL.ev rfl rfl (fun _ hq => Ev.lda rfl ag48 sz48 rfl (At.blk ((H.ext hq).rB (i := 0) rfl)) rfl) (QL.on rfl rfl (QL.ev rfl rfl (fun _ _ => Ev.bin rfl rfl rfl (Bin.eqlF fl48 (Occurrence_eqF x2 a1))) (QL.ev rfl rfl (fun _ _ => Ev.pickT rfl rfl rfl) (QL.nil (fun w6 hE => ?_)))))))))
      have H := H.ext hE
      refine CW.condD rfl (fun h4 => ?_) (fun h4 => ?_)
      · skip
        have hr := ifp h4 hr
        refine CW.seq (CW.reg ?_)
        refine WL.ev rfl rfl (Ev.mv rfl rfl) (WL.ev rfl rfl (Ev.as rfl rfl) (WL.nil ?_))
        refine CW.ret ?_
        obtain rfl := sm hr
        exact ⟨_, res1 rfl rfl rfl, H.ext0, _, _, _, rfl, H.outM (fr' := [Pr.S a0 (.slice A0' n0' c0')]) [false] fun _ h => ⟨h.get (i := 0) rfl, trivial⟩⟩
      · skip
        have hr := ifn h4 hr
        refine CW.skip ?_
        refine CW.seq (CW.reg ?_)
        refine WL.lit0H (α := Occurrence) rfl rfl rfl el33 sz48 H fun A1 n1 c1 w7 H => ?_
        refine WL.ev rfl rfl (Ev.mv rfl rfl) (WL.ev rfl rfl (Ev.mv rfl rfl) ?_)
        obtain ⟨hg4, hr⟩ := grd_some hr
        obtain ⟨hg5, hr⟩ := grd_some hr
        obtain ⟨A2, n2, c2, e2, hc1, H⟩ := H.slH (i := 0) rfl hg5
        refine WL.ev rfl rfl (Ev.slHV rfl el33 sz48 rfl rfl ((Int.toNat_of_nonneg hg4).symm) hc1 e2) ?_
        obtain ⟨hg6, hr⟩ := grd_some hr
        refine WL.appS (i := 1) rfl rfl rfl el33 sz48 by48 ze48 rfl rfl rfl H rfl (H.rS (i := 4) rfl) hg6 fun A3 n3 c3 w8 H => ?_
        refine WL.ev rfl rfl (Ev.as rfl rfl) (WL.nil ?_)
        refine CW.seq (CW.reg ?_)
        refine WL.ev rfl rfl (Ev.mv rfl rfl) (WL.ev rfl rfl (Ev.lda rfl ag48 sz48 rfl (At.blk (H.rB (i := 0) rfl)) rfl) ?_)
        refine WL.lit1 rfl rfl rfl el33 sz48 ze48 rfl rfl rfl rfl rfl rfl fun b4 w9 hE hb hB => ?_
        have H := H.newB hE hb hB
        obtain ⟨hg7, hr⟩ := grd_some hr
        refine WL.appO (i := 1) (ys := [a1]) rfl rfl rfl el33 sz48 by48 ze48 rfl rfl rfl H rfl (fun _ => ownL.single ⟨rfl, hI1, hS1, rfl⟩) (.inr ⟨_, _, rfl, At.blk (H.rB (i := 2) rfl)⟩) hg7 fun A4 n4 c4 w10 H => ?_
        refine WL.ev rfl rfl (Ev.as rfl rfl) (WL.nil ?_)
        refine CW.seq ?_
        refine CW.fresh [(0, .slice A0' n0' c0'), (5, .int .i64 s1), (6, .slice A4 n4 c4)] ⟨rfl, rfl, rfl, trivial⟩ fun σ => ?_
        have H : HL F0 [] w0 w10 [Pr.S a0 (.slice A0' n0' c0'), Pr.R a1 [.int .i64 a1.Pos, .string a1.Name], Pr.A b3 (ob3 + s1.toNat * 2) [.int .i64 x2.Pos, .string x2.Name], Pr.R x2 [.int .i64 x2.Pos, .string x2.Name], Pr.S (a0.take s1.toNat) (.slice A2 n2 c2)] [It.B b1 48 [.int .i64 a1.Pos, .string a1.Name], It.O 48 ((a0.take s1.toNat) ++ [a1]) (.slice A4 n4 c4), It.B b4 48 [.int .i64 a1.Pos, .string a1.Name]] := H
        refine CW.reg ?_
        refine WL.ev rfl rfl (Ev.mv rfl rfl) (WL.ev rfl rfl (Ev.mv rfl rfl) (WL.ev rfl rfl (Ev.mv rfl rfl) ?_))
        obtain ⟨hg8, hr⟩ := grd_some hr
        obtain ⟨hg9, hr⟩ := grd_some hr
        obtain ⟨A5, n5, c5, e3, hc2, H⟩ := H.slL (i := 0) rfl hg9
        refine WL.ev rfl rfl (Ev.slLV rfl el33 sz48 rfl rfl ((Int.toNat_of_nonneg hg8).symm) hc2 e3) ?_
        obtain ⟨hg10, hr⟩ := grd_some hr
        refine WL.appS (i := 1) rfl rfl rfl el33 sz48 by48 ze48 rfl rfl rfl H rfl (H.rS (i := 5) rfl) hg10 fun A6 n6 c6 w11 H => ?_
        refine WL.ev rfl rfl (Ev.as rfl rfl) (WL.nil ?_)
        refine CW.ret ?_
        have H := H.frzO (i := 1) rfl
        obtain rfl := sm hr
        exact ⟨_, res1 rfl rfl rfl, H.ext0, _, _, _, rfl, H.outM (fr' := [Pr.S (((a0.take s1.toNat) ++ [a1]) ++ (a0.drop s1.toNat)) (.slice A6 n6 c6)]) [false, false, false] fun _ h => ⟨h.get (i := 6) rfl, trivial⟩⟩
    · skip
      have hr := ifn h3 hr
      refine QL.off rfl rfl rfl (QL.off rfl rfl rfl (QL.off rfl rfl rfl (QL.off rfl rfl rfl (QL.off rfl rfl rfl (QL.off rfl rfl rfl (QL.ev rfl rfl (fun _ _ => Ev.pickF rfl rfl rfl) (QL.nil (fun w12 hE => ?_))))))))
      have H := H.ext hE
      refine CW.condF rfl ?_
      refine CW.skip ?_
      refine CW.seq (CW.reg ?_)
      refine WL.lit0H (α := Occurrence) rfl rfl rfl el33 sz48 H fun A7 n7 c7 w13 H => ?_
      refine WL.ev rfl rfl (Ev.mv rfl rfl) (WL.ev rfl rfl (Ev.mv rfl rfl) ?_)
      obtain ⟨hg11, hr⟩ := grd_some hr
      obtain ⟨hg12, hr⟩ := grd_some hr
      obtain ⟨A8, n8, c8, e4, hc3, H⟩ := H.slH (i := 0) rfl hg12
      refine WL.ev rfl rfl (Ev.slHV rfl el33 sz48 rfl rfl ((Int.toNat_of_nonneg hg11).symm) hc3 e4) ?_
      obtain ⟨hg13, hr⟩ := grd_some hr
      refine WL.appS (i := 1) rfl rfl rfl el33 sz48 by48 ze48 rfl rfl rfl H rfl (H.rS (i := 2) rfl) hg13 fun A9 n9 c9 w14 H => ?_
      refine WL.ev rfl rfl (Ev.as rfl rfl) (WL.nil ?_)
      refine CW.seq (CW.reg ?_)
      refine WL.ev rfl rfl (Ev.mv rfl rfl) (WL.ev rfl rfl (Ev.lda rfl ag48 sz48 rfl (At.blk (H.rB (i := 0) rfl)) rfl) ?_)
      refine WL.lit1 rfl rfl rfl el33 sz48 ze48 rfl rfl rfl rfl rfl rfl fun b5 w15 hE hb hB => ?_
      have H := H.newB hE hb hB
      obtain ⟨hg14, hr⟩ := grd_some hr
      refine WL.appO (i := 1) (ys := [a1]) rfl rfl rfl el33 sz48 by48 ze48 rfl rfl rfl H rfl (fun _ => ownL.single ⟨rfl, hI1, hS1, rfl⟩) (.inr ⟨_, _, rfl, At.blk (H.rB (i := 2) rfl)⟩) hg14 fun A10 n10 c10 w16 H => ?_
      refine WL.ev rfl rfl (Ev.as rfl rfl) (WL.nil ?_)
      refine CW.seq (CW.reg ?_)
      refine WL.ev rfl rfl (Ev.mv rfl rfl) (WL.ev rfl rfl (Ev.mv rfl rfl) (WL.ev rfl rfl (Ev.mv rfl rfl) ?_))
      obtain ⟨hg15, hr⟩ := grd_some hr
      obtain ⟨hg16, hr⟩ := grd_some hr
      obtain ⟨A11, n11, c11, e5, hc4, H⟩ := H.slL (i := 0) rfl hg16
      refine WL.ev rfl rfl (Ev.slLV rfl el33 sz48 rfl rfl ((Int.toNat_of_nonneg hg15).symm) hc4 e5) ?_
      obtain ⟨hg17, hr⟩ := grd_some hr
      refine WL.appS (i := 1) rfl rfl rfl el33 sz48 by48 ze48 rfl rfl rfl H rfl (H.rS (i := 3) rfl) hg17 fun A12 n12 c12 w17 H => ?_
      refine WL.ev rfl rfl (Ev.as rfl rfl) (WL.nil ?_)
      refine CW.ret ?_
      have H := H.frzO (i := 1) rfl
      obtain rfl := sm hr
      exact ⟨_, res1 rfl rfl rfl, H.ext0, _, _, _, rfl, H.outM (fr' := [Pr.S (((a0.take s1.toNat) ++ [a1]) ++ (a0.drop s1.toNat)) (.slice A12 n12 c12)]) [false, false, false] fun _ h => ⟨h.get (i := 4) rfl, trivial⟩⟩

noncomputable def sl4Uses_L1 (rec_sl4Uses : Expr → (List Occurrence) → Option (List Occurrence)) : Nat → Expr → (List Occurrence) → Option (List Occurrence) := fun k1 x1 s1 => 
  (rec_sl4Uses x1 s1).bind fun y2 =>
  some y2
noncomputable def sl4Uses_L2 (rec_sl4Uses : Expr → (List Occurrence) → Option (List Occurrence)) : Nat → Expr → (List Occurrence) → Option (List Occurrence) := fun k2 x2 s2 => 
  (rec_sl4Uses x2 s2).bind fun y3 =>
  some y3
noncomputable def sl4Uses_B (rec_sl4Uses : Expr → (List Occurrence) → Option (List Occurrence)) (a0 : Expr) (a1 : (List Occurrence)) : Option (List Occurrence) :=
  if a0.Kind = 3 then (
  (sl4Put_m a1 (⟨a0.Pos, a0.Name⟩ : Occurrence)).bind fun y1 =>
  (eachL (sl4Uses_L1 rec_sl4Uses) 0 a0.Args y1).bind fun s1 =>
  some s1
  ) else (
  (eachL (sl4Uses_L2 rec_sl4Uses) 0 a0.Args a1).bind fun s2 =>
  some s2
  )
theorem sl4Uses_okB {rec_sl4Uses : Expr → (List Occurrence) → Option (List Occurrence)} (ih_sl4Uses : ∀ {a0 : Expr} {a1 : (List Occurrence)} {r : (List Occurrence)}, rec_sl4Uses a0 a1 = some r → ∀ {F0 : Nat → Prop} {w0 : World} {ca0 : List Value} (ha0 : rd F0 w0 a0 ca0) {z1 : Value} (ha1 : rdS F0 w0 a1 z1), Ret Try.prog 92 #[.agg ca0.toArray, z1] w0 (fun _ => False) fun v w => ∃ A0 : Option Addr, ∃ n0 c0 : Nat, v = (.slice A0 n0 c0) ∧ HL F0 [] w0 w [Pr.S r (.slice A0 n0 c0)] []) {a0 : Expr} {a1 : (List Occurrence)} {r : (List Occurrence)} (hr : sl4Uses_B rec_sl4Uses a0 a1 = some r) {F0 : Nat → Prop} {w0 : World} {ca0 : List Value} (ha0 : rd F0 w0 a0 ca0) {z1 : Value} (ha1 : rdS F0 w0 a1 z1) :
    Ret Try.prog 92 #[.agg ca0.toArray, z1] w0 (fun _ => False) fun v w => ∃ A0 : Option Addr, ∃ n0 c0 : Nat, v = (.slice A0 n0 c0) ∧ HL F0 [] w0 w [Pr.S r (.slice A0 n0 c0)] [] := by
  obtain ⟨A1', n1', c1', rfl⟩ := ha1.form3
  have H := ((HL.start F0 w0).argR ha0).argS ha1
  obtain ⟨A1, n1, c1, rfl, hI1, hI2, hI3, hI4, hS1, hS2, H⟩ := op_Expr H (i := 0) rfl
  refine enter Try.func92 rfl rfl rfl ?_
  refine CW.seq (CW.reg ?_)
  refine WL.boxH rfl rfl rfl rfl rfl H fun b1 w1 H => ?_
  refine WL.ev rfl rfl (Ev.as rfl rfl) (WL.nil ?_)
  refine CW.seq (CW.seq (CW.reg ?_))
  refine WL.ev rfl rfl (Ev.fa rfl fo31_0 rfl) (WL.ev rfl rfl (Ev.ld rfl ag3 rfl ((H.rB (i := 0) rfl).cell rfl)) (WL.ev rfl rfl (Ev.bin rfl rfl rfl Bin.eql) (WL.nil ?_)))
  refine CW.condD rfl (fun h1 => ?_) (fun h1 => ?_)
  · skip
    have hr := ifp h1 hr
    refine CW.reg ?_
    refine WL.ev rfl rfl (Ev.mv rfl rfl) (WL.ev rfl rfl (Ev.fa rfl fo31_2 rfl) (WL.ev rfl rfl (Ev.ld rfl ag3 rfl ((H.rB (i := 0) rfl).cell rfl)) (WL.ev rfl rfl (Ev.fa rfl fo31_5 rfl) (WL.ev rfl rfl (Ev.ld rfl ag9 rfl ((H.rB (i := 0) rfl).cell rfl)) (WL.ev rfl rfl (Ev.build rfl pl48 ze48 rfl rfl rfl rfl) ?_)))))
    obtain ⟨y1, hy1, hr⟩ := bd hr
    obtain ⟨F, hF, hcl⟩ := H.call
    refine WL.call rfl rfl rfl rfl rfl ok153 rfl (sl4Put_ok hy1 (hF.get (i := 1) rfl) ⟨rfl, hI3, hS2⟩) ?_
    rintro _ w2 hE ⟨A2, n2, c2, rfl, H'⟩
    have H : HL F0 [] w0 w2 [Pr.R a0 [.int .i64 a0.Kind, .int .i64 a0.N, .int .i64 a0.Pos, .int .i64 a0.Type_, .string a0.Symbol, .string a0.Name, .slice A1 n1 c1], Pr.S a1 (.slice A1' n1' c1'), Pr.S a0.Args (.slice A1 n1 c1), Pr.S y1 (.slice A2 n2 c2)] [It.B b1 31 [.int .i64 a0.Kind, .int .i64 a0.N, .int .i64 a0.Pos, .int .i64 a0.Type_, .string a0.Symbol, .string a0.Name, .slice A1 n1 c1]] := hcl H'
    refine WL.ev rfl rfl (Ev.as rfl rfl) (WL.nil ?_)
    refine CW.seq (CW.seq (CW.reg ?_))
    refine WL.ev rfl rfl (Ev.as rfl rfl) (WL.nil ?_)
    obtain ⟨q1, hq1, hr⟩ := bd hr
    refine CW.block (CW.loop (α := Nat × (List Occurrence) × Value) (fun ⟨k1, s1, v1⟩ => [(1, v1), (2, .pointer (some ⟨b1, 0, none⟩)), (5, .int .i64 (k1 : Int))]) (fun ⟨k1, s1, v1⟩ w => k1 ≤ a0.Args.length ∧ eachL (sl4Uses_L1 rec_sl4Uses) k1 (a0.Args.drop k1) s1 = some q1 ∧ HL F0 [] w0 w [Pr.R a0 [.int .i64 a0.Kind, .int .i64 a0.N, .int .i64 a0.Pos, .int .i64 a0.Type_, .string a0.Symbol, .string a0.Name, .slice A1 n1 c1], Pr.S a1 (.slice A1' n1' c1'), Pr.S a0.Args (.slice A1 n1 c1), Pr.S y1 (.slice A2 n2 c2), Pr.S s1 v1] [It.B b1 31 [.int .i64 a0.Kind, .int .i64 a0.N, .int .i64 a0.Pos, .int .i64 a0.Type_, .string a0.Symbol, .string a0.Name, .slice A1 n1 c1]]) (fun ⟨k1, s1, v1⟩ => a0.Args.length - k1) ⟨0, y1, (.slice A2 n2 c2)⟩ ⟨rfl, rfl, rfl, trivial⟩ ⟨Nat.zero_le _, hq1, H.out (fun _ h => (h.keep 4).app ⟨h.get (i := 3) rfl, trivial⟩) (List.take_sublist 1 [It.B b1 31 [.int .i64 a0.Kind, .int .i64 a0.N, .int .i64 a0.Pos, .int .i64 a0.Type_, .string a0.Symbol, .string a0.Name, .slice A1 n1 c1]])⟩ ?_)
    rintro ⟨k1, s1, v1⟩ σ w3 ⟨hk1, hq1, H⟩
    obtain ⟨A3, n3, c3, rfl⟩ := (H.rS (i := 4) rfl).form3
    refine CW.seq (CW.seq (CW.reg ?_))
    refine WL.ev rfl rfl (Ev.mv rfl rfl) (WL.ev rfl rfl (Ev.fa rfl fo31_6 rfl) (WL.ev rfl rfl (Ev.ld rfl ag29 rfl ((H.rB (i := 0) rfl).cell rfl)) ?_))
    have hl1 := (H.rS (i := 2) rfl).I
    refine WL.ev rfl rfl (Ev.lenV rfl el29 rfl (H.rS (i := 2) rfl)) (WL.ev rfl rfl (Ev.bin rfl rfl rfl Bin.lss) (WL.nil ?_))
    refine CW.condD rfl (fun h2 => ?_) (fun h2 => ?_)
    · skip
      have hk2 := cast_lt h2
      obtain ⟨x1, z1, hx1, hb1, hq1⟩ := eachL_go hq1 hk2
      refine CW.skip ?_
      refine CW.seq (CW.block (CW.reg ?_))
      refine WL.ev rfl rfl (Ev.fa rfl fo31_6 rfl) (WL.ev rfl rfl (Ev.ld rfl ag29 rfl ((H.rB (i := 0) rfl).cell rfl)) (WL.ev rfl rfl (Ev.mv rfl rfl) ?_))
      obtain ⟨b2, ob2, cb2, A4, n4, c4, hvb2, hI5, hI6, hI7, hI8, hS3, hS4, H⟩ := ixS_Expr H (i := 2) rfl hx1
      refine WL.ev rfl rfl (Ev.ixVN rfl el29 sz31 rfl hvb2 rfl (lt_of hx1)) (WL.ev rfl rfl (Ev.lda rfl ag31 sz31 rfl (H.rA (i := 5) rfl) rfl) (WL.ev rfl rfl (Ev.mv rfl rfl) ?_))
      obtain ⟨y2, hy2, hb1⟩ := bd hb1
      obtain ⟨F, hF, hcl⟩ := H.call
      refine WL.call rfl rfl rfl rfl rfl ok92 rfl (ih_sl4Uses hy2 (Expr_rd.2 ⟨_, rfl, hI5, hI6, hI7, hI8, hS3, hS4, (hF.get (i := 7) rfl)⟩) (hF.get (i := 4) rfl)) ?_
      rintro _ w4 hE ⟨A5, n5, c5, rfl, H'⟩
      have H : HL F0 [] w0 w4 [Pr.R a0 [.int .i64 a0.Kind, .int .i64 a0.N, .int .i64 a0.Pos, .int .i64 a0.Type_, .string a0.Symbol, .string a0.Name, .slice A1 n1 c1], Pr.S a1 (.slice A1' n1' c1'), Pr.S a0.Args (.slice A1 n1 c1), Pr.S y1 (.slice A2 n2 c2), Pr.S s1 (.slice A3 n3 c3), Pr.A b2 (ob2 + k1 * 7) [.int .i64 x1.Kind, .int .i64 x1.N, .int .i64 x1.Pos, .int .i64 x1.Type_, .string x1.Symbol, .string x1.Name, .slice A4 n4 c4], Pr.R x1 [.int .i64 x1.Kind, .int .i64 x1.N, .int .i64 x1.Pos, .int .i64 x1.Type_, .string x1.Symbol, .string x1.Name, .slice A4 n4 c4], Pr.S x1.Args (.slice A4 n4 c4), Pr.S y2 (.slice A5 n5 c5)] [It.B b1 31 [.int .i64 a0.Kind, .int .i64 a0.N, .int .i64 a0.Pos, .int .i64 a0.Type_, .string a0.Symbol, .string a0.Name, .slice A1 n1 c1]] := hcl H'
      refine WL.ev rfl rfl (Ev.as rfl rfl) (WL.nil ?_)
      refine CW.reg ?_
      refine WL.ev rfl rfl (Ev.mv rfl rfl) (WL.ev rfl rfl (Ev.bin rfl rfl rfl (Bin.addN (a := k1) (b := 1) rfl (i64_succN hk2 hl1.2))) (WL.ev rfl rfl (Ev.as rfl rfl) (WL.nil ?_)))
      obtain rfl := sm hb1
      exact ⟨⟨k1 + 1, y2, (.slice A5 n5 c5)⟩, ⟨rfl, rfl, rfl, trivial⟩, ⟨hk2, hq1, H.out (fun _ h => (h.keep 4).app ⟨h.get (i := 8) rfl, trivial⟩) (List.take_sublist 1 [It.B b1 31 [.int .i64 a0.Kind, .int .i64 a0.N, .int .i64 a0.Pos, .int .i64 a0.Type_, .string a0.Symbol, .string a0.Name, .slice A1 n1 c1]])⟩, Nat.sub_lt_sub_left hk2 (Nat.lt_succ_self _)⟩
    · skip
      obtain rfl := eachL_end hq1 (not_cast_lt h2)
      refine CW.exit ?_
      refine CW.seq (CW.reg ?_)
      refine WL.ev rfl rfl (Ev.mv rfl rfl) (WL.ev rfl rfl (Ev.as rfl rfl) (WL.nil ?_))
      refine CW.ret ?_
      obtain rfl := sm hr
      exact ⟨_, res1 rfl rfl rfl, H.ext0, _, _, _, rfl, H.outM (fr' := [Pr.S s1 (.slice A3 n3 c3)]) [false] fun _ h => ⟨h.get (i := 4) rfl, trivial⟩⟩
  · skip
    have hr := ifn h1 hr
    refine CW.skip ?_
    refine CW.seq (CW.seq (CW.reg ?_))
    refine WL.ev rfl rfl (Ev.as rfl rfl) (WL.nil ?_)
    obtain ⟨q2, hq2, hr⟩ := bd hr
    refine CW.block (CW.loop (α := Nat × (List Occurrence) × Value) (fun ⟨k2, s2, v2⟩ => [(1, v2), (2, .pointer (some ⟨b1, 0, none⟩)), (5, .int .i64 (k2 : Int))]) (fun ⟨k2, s2, v2⟩ w => k2 ≤ a0.Args.length ∧ eachL (sl4Uses_L2 rec_sl4Uses) k2 (a0.Args.drop k2) s2 = some q2 ∧ HL F0 [] w0 w [Pr.R a0 [.int .i64 a0.Kind, .int .i64 a0.N, .int .i64 a0.Pos, .int .i64 a0.Type_, .string a0.Symbol, .string a0.Name, .slice A1 n1 c1], Pr.S a1 (.slice A1' n1' c1'), Pr.S a0.Args (.slice A1 n1 c1), Pr.S s2 v2] [It.B b1 31 [.int .i64 a0.Kind, .int .i64 a0.N, .int .i64 a0.Pos, .int .i64 a0.Type_, .string a0.Symbol, .string a0.Name, .slice A1 n1 c1]]) (fun ⟨k2, s2, v2⟩ => a0.Args.length - k2) ⟨0, a1, (.slice A1' n1' c1')⟩ ⟨rfl, rfl, rfl, trivial⟩ ⟨Nat.zero_le _, hq2, H.out (fun _ h => (h.keep 3).app ⟨h.get (i := 1) rfl, trivial⟩) (List.take_sublist 1 [It.B b1 31 [.int .i64 a0.Kind, .int .i64 a0.N, .int .i64 a0.Pos, .int .i64 a0.Type_, .string a0.Symbol, .string a0.Name, .slice A1 n1 c1]])⟩ ?_)
    rintro ⟨k2, s2, v2⟩ σ w5 ⟨hk3, hq2, H⟩
    obtain ⟨A6, n6, c6, rfl⟩ := (H.rS (i := 3) rfl).form3
    refine CW.seq (CW.seq (CW.reg ?_))
    refine WL.ev rfl rfl (Ev.mv rfl rfl) (WL.ev rfl rfl (Ev.fa rfl fo31_6 rfl) (WL.ev rfl rfl (Ev.ld rfl ag29 rfl ((H.rB (i := 0) rfl).cell rfl)) ?_))
    have hl2 := (H.rS (i := 2) rfl).I
    refine WL.ev rfl rfl (Ev.lenV rfl el29 rfl (H.rS (i := 2) rfl)) (WL.ev rfl rfl (Ev.bin rfl rfl rfl Bin.lss) (WL.nil ?_))
    refine CW.condD rfl (fun h3 => ?_) (fun h3 => ?_)
    · skip
      have hk4 := cast_lt h3
      obtain ⟨x2, z2, hx2, hb2, hq2⟩ := eachL_go hq2 hk4
      refine CW.skip ?_
      refine CW.seq (CW.block (CW.reg ?_))
      refine WL.ev rfl rfl (Ev.fa rfl fo31_6 rfl) (WL.ev rfl rfl (Ev.ld rfl ag29 rfl ((H.rB (i := 0) rfl).cell rfl)) (WL.ev rfl rfl (Ev.mv rfl rfl) ?_))
      obtain ⟨b3, ob3, cb3, A7, n7, c7, hvb3, hI9, hI10, hI11, hI12, hS5, hS6, H⟩ := ixS_Expr H (i := 2) rfl hx2
      refine WL.ev rfl rfl (Ev.ixVN rfl el29 sz31 rfl hvb3 rfl (lt_of hx2)) (WL.ev rfl rfl (Ev.lda rfl ag31 sz31 rfl (H.rA (i := 4) rfl) rfl) (WL.ev rfl rfl (Ev.mv rfl rfl) ?_))
      obtain ⟨y3, hy3, hb2⟩ := bd hb2
      obtain ⟨F, hF, hcl⟩ := H.call
      refine WL.call rfl rfl rfl rfl rfl ok92 rfl (ih_sl4Uses hy3 (Expr_rd.2 ⟨_, rfl, hI9, hI10, hI11, hI12, hS5, hS6, (hF.get (i := 6) rfl)⟩) (hF.get (i := 3) rfl)) ?_
      rintro _ w6 hE ⟨A8, n8, c8, rfl, H'⟩
      have H : HL F0 [] w0 w6 [Pr.R a0 [.int .i64 a0.Kind, .int .i64 a0.N, .int .i64 a0.Pos, .int .i64 a0.Type_, .string a0.Symbol, .string a0.Name, .slice A1 n1 c1], Pr.S a1 (.slice A1' n1' c1'), Pr.S a0.Args (.slice A1 n1 c1), Pr.S s2 (.slice A6 n6 c6), Pr.A b3 (ob3 + k2 * 7) [.int .i64 x2.Kind, .int .i64 x2.N, .int .i64 x2.Pos, .int .i64 x2.Type_, .string x2.Symbol, .string x2.Name, .slice A7 n7 c7], Pr.R x2 [.int .i64 x2.Kind, .int .i64 x2.N, .int .i64 x2.Pos, .int .i64 x2.Type_, .string x2.Symbol, .string x2.Name, .slice A7 n7 c7], Pr.S x2.Args (.slice A7 n7 c7), Pr.S y3 (.slice A8 n8 c8)] [It.B b1 31 [.int .i64 a0.Kind, .int .i64 a0.N, .int .i64 a0.Pos, .int .i64 a0.Type_, .string a0.Symbol, .string a0.Name, .slice A1 n1 c1]] := hcl H'
      refine WL.ev rfl rfl (Ev.as rfl rfl) (WL.nil ?_)
      refine CW.reg ?_
      refine WL.ev rfl rfl (Ev.mv rfl rfl) (WL.ev rfl rfl (Ev.bin rfl rfl rfl (Bin.addN (a := k2) (b := 1) rfl (i64_succN hk4 hl2.2))) (WL.ev rfl rfl (Ev.as rfl rfl) (WL.nil ?_)))
      obtain rfl := sm hb2
      exact ⟨⟨k2 + 1, y3, (.slice A8 n8 c8)⟩, ⟨rfl, rfl, rfl, trivial⟩, ⟨hk4, hq2, H.out (fun _ h => (h.keep 3).app ⟨h.get (i := 7) rfl, trivial⟩) (List.take_sublist 1 [It.B b1 31 [.int .i64 a0.Kind, .int .i64 a0.N, .int .i64 a0.Pos, .int .i64 a0.Type_, .string a0.Symbol, .string a0.Name, .slice A1 n1 c1]])⟩, Nat.sub_lt_sub_left hk4 (Nat.lt_succ_self _)⟩
    · skip
      obtain rfl := eachL_end hq2 (not_cast_lt h3)
      refine CW.exit ?_
      refine CW.seq (CW.reg ?_)
      refine WL.ev rfl rfl (Ev.mv rfl rfl) (WL.ev rfl rfl (Ev.as rfl rfl) (WL.nil ?_))
      refine CW.ret ?_
      obtain rfl := sm hr
      exact ⟨_, res1 rfl rfl rfl, H.ext0, _, _, _, rfl, H.outM (fr' := [Pr.S s2 (.slice A6 n6 c6)]) [false] fun _ h => ⟨h.get (i := 3) rfl, trivial⟩⟩
noncomputable def sl4Uses_n : Nat → Expr → (List Occurrence) → Option (List Occurrence)
  | 0, _, _ => none
  | n + 1, a0, a1 => sl4Uses_B (sl4Uses_n n) a0 a1
noncomputable def sl4Uses_m (a0 : Expr) (a1 : (List Occurrence)) : Option (List Occurrence) := recO fun n => sl4Uses_n n a0 a1
theorem sl4Uses_okn (n : Nat) : ∀ {a0 : Expr} {a1 : (List Occurrence)} {r : (List Occurrence)}, sl4Uses_n n a0 a1 = some r → ∀ {F0 : Nat → Prop} {w0 : World} {ca0 : List Value} (ha0 : rd F0 w0 a0 ca0) {z1 : Value} (ha1 : rdS F0 w0 a1 z1), Ret Try.prog 92 #[.agg ca0.toArray, z1] w0 (fun _ => False) fun v w => ∃ A0 : Option Addr, ∃ n0 c0 : Nat, v = (.slice A0 n0 c0) ∧ HL F0 [] w0 w [Pr.S r (.slice A0 n0 c0)] [] := by
  induction n with
  | zero => intro a0 a1 r hr; exact nomatch (show (none : Option (List Occurrence)) = some r from hr)
  | succ n ih => intro a0 a1 r hr; exact sl4Uses_okB ih hr
theorem sl4Uses_ok {a0 : Expr} {a1 : (List Occurrence)} {r : (List Occurrence)} (hr : sl4Uses_m a0 a1 = some r) {F0 : Nat → Prop} {w0 : World} {ca0 : List Value} (ha0 : rd F0 w0 a0 ca0) {z1 : Value} (ha1 : rdS F0 w0 a1 z1) :
    Ret Try.prog 92 #[.agg ca0.toArray, z1] w0 (fun _ => False) fun v w => ∃ A0 : Option Addr, ∃ n0 c0 : Nat, v = (.slice A0 n0 c0) ∧ HL F0 [] w0 w [Pr.S r (.slice A0 n0 c0)] [] := by
  obtain ⟨n, hn⟩ := recO_some hr
  exact sl4Uses_okn n hn ha0 ha1

noncomputable def sAttributeUses_m (a0 : Expr) : Option (List Occurrence) :=
  (sl4Uses_m a0 []).bind fun y1 =>
  some y1
theorem sAttributeUses_ok {a0 : Expr} {r : (List Occurrence)} (hr : sAttributeUses_m a0 = some r) {F0 : Nat → Prop} {w0 : World} {ca0 : List Value} (ha0 : rd F0 w0 a0 ca0) :
    Ret Try.prog 25 #[.agg ca0.toArray] w0 (fun _ => False) fun v w => ∃ A0 : Option Addr, ∃ n0 c0 : Nat, v = (.slice A0 n0 c0) ∧ HL F0 [] w0 w [Pr.S r (.slice A0 n0 c0)] [] := by
  have H := (HL.start F0 w0).argR ha0
  obtain ⟨A1, n1, c1, rfl, hI1, hI2, hI3, hI4, hS1, hS2, H⟩ := op_Expr H (i := 0) rfl
  refine enter Try.func25 rfl rfl rfl ?_
  refine CW.seq (CW.reg ?_)
  refine WL.boxH rfl rfl rfl rfl rfl H fun b1 w1 H => ?_
  refine WL.ev rfl rfl (Ev.as rfl rfl) (WL.nil ?_)
  refine CW.seq (CW.reg ?_)
  refine WL.ev rfl rfl (Ev.lda rfl ag31 sz31 rfl (At.blk (H.rB (i := 0) rfl)) rfl) ?_
  refine WL.lit0H (α := Occurrence) rfl rfl rfl el33 sz48 H fun A2 n2 c2 w2 H => ?_
  have H := H.frzO (i := 1) rfl
  obtain ⟨y1, hy1, hr⟩ := bd hr
  obtain ⟨F, hF, hcl⟩ := H.call
  refine WL.call rfl rfl rfl rfl rfl ok92 rfl (sl4Uses_ok hy1 (Expr_rd.2 ⟨_, rfl, hI1, hI2, hI3, hI4, hS1, hS2, (hF.get (i := 1) rfl)⟩) (hF.get (i := 2) rfl)) ?_
  rintro _ w3 hE ⟨A3, n3, c3, rfl, H'⟩
  have H : HL F0 [] w0 w3 [Pr.R a0 [.int .i64 a0.Kind, .int .i64 a0.N, .int .i64 a0.Pos, .int .i64 a0.Type_, .string a0.Symbol, .string a0.Name, .slice A1 n1 c1], Pr.S a0.Args (.slice A1 n1 c1), Pr.S ([] : List Occurrence) (.slice A2 n2 c2), Pr.S y1 (.slice A3 n3 c3)] [It.B b1 31 [.int .i64 a0.Kind, .int .i64 a0.N, .int .i64 a0.Pos, .int .i64 a0.Type_, .string a0.Symbol, .string a0.Name, .slice A1 n1 c1], It.emp] := hcl H'
  refine WL.ev rfl rfl (Ev.as rfl rfl) (WL.nil ?_)
  refine CW.ret ?_
  obtain rfl := sm hr
  exact ⟨_, res1 rfl rfl rfl, H.ext0, _, _, _, rfl, H.outM (fr' := [Pr.S y1 (.slice A3 n3 c3)]) [false, false] fun _ h => ⟨h.get (i := 3) rfl, trivial⟩⟩

noncomputable def iDepthOfExpr_L1 (rec_iDepthOfExpr : Expr → Option Int) : Nat → Expr → Int → Option Int := fun k1 x1 s1 => 
  (rec_iDepthOfExpr x1).bind fun y1 =>
  some (if y1 > s1 then y1 else s1)
noncomputable def iDepthOfExpr_B (rec_iDepthOfExpr : Expr → Option Int) (a0 : Expr) : Option Int :=
  (eachL (iDepthOfExpr_L1 rec_iDepthOfExpr) 0 a0.Args 0).bind fun s1 =>
  grd (I64 (s1 + 1)) <|
  some (s1 + 1)
noncomputable def iDepthOfExpr_n : Nat → Expr → Option Int
  | 0, _ => none
  | n + 1, a0 => iDepthOfExpr_B (iDepthOfExpr_n n) a0
noncomputable def iwithin_m (a0 : Int) (a1 : Int) (a2 : Int) : Option Bool :=
  if a1 ≤ a0 then (
  some (decide (a0 ≤ a2))
  ) else (
  some false
  )
noncomputable def iSaturate_m (a0 : Int) : Option Int :=
  some (if ((-1000000) : Int) > (if (1000000 : Int) < a0 then (1000000 : Int) else a0) then ((-1000000) : Int) else (if (1000000 : Int) < a0 then (1000000 : Int) else a0))
noncomputable def iflag_m (a0 : Bool) : Option Int :=
  if a0 = true then (
  some 1
  ) else (
  some 0
  )
noncomputable def iCoerce_m (a0 : Int) (a1 : Int) : Option Int :=
  if a1 = 1 then (
  (iSaturate_m a0).bind fun y1 =>
  some y1
  ) else (
  if a1 = 2 then (
  some (goAnd a0 4095)
  ) else (
  if a1 = 3 then (
  (iflag_m (!(decide (a0 = 0)))).bind fun y2 =>
  some y2
  ) else (
  if a1 = 4 then (
  (iwithin_m a0 0 999).bind fun y3 =>
  if y3 = true then (
  some a0
  ) else (
  some 0
  )
  ) else (
  some 0
  )
  )
  )
  )
noncomputable def iSlotValue_L1 (a1 : Occurrence) : Nat → Slot → Unit → Option (Unit ⊕ Int) := fun k1 x1 _ => 
  if x1.At = a1 then (
  some (.inr x1.Value)
  ) else (
  some (.inl ())
  )
noncomputable def iSlotValue_m (a0 : (List Slot)) (a1 : Occurrence) : Option Int :=
  (findL (iSlotValue_L1 a1) 0 a0 ()).bind <| onr (fun r1 => some r1) fun _ =>
  some 0
noncomputable def iEvalLocal_1_m (a0 : Occurrence) (a1 : (List Slot)) : Option Int :=
  (iSlotValue_m a1 a0).bind fun y1 =>
  some y1
noncomputable def iOperandTypes_m (a0 : Int) : Option (Int × Int × Int) :=
  (
  if a0 = 1 then (
  some (decide (a0 = 1))
  ) else (
  if a0 = 2 then (
  some (decide (a0 = 2))
  ) else (
  if a0 = 3 then (
  some (decide (a0 = 3))
  ) else (
  if a0 = 4 then (
  some (decide (a0 = 4))
  ) else (
  some (decide (a0 = 5))
  )
  )
  )
  )
  ).bind fun s1 =>
  if s1 = true then (
  some (1, 1, 1)
  ) else (
  (
  if a0 = 6 then (
  some (decide (a0 = 6))
  ) else (
  if a0 = 7 then (
  some (decide (a0 = 7))
  ) else (
  some (decide (a0 = 8))
  )
  )
  ).bind fun s2 =>
  if s2 = true then (
  some (2, 2, 2)
  ) else (
  if a0 = 9 then (
  if a0 = 9 then (
  some (1, 1, 3)
  ) else (
  if a0 = 11 then (
  some (2, 1, 3)
  ) else (
  if a0 = 12 then (
  some (2, 1, 2)
  ) else (
  some (0, 0, 0)
  )
  )
  )
  ) else (
  if a0 = 10 then (
  some (1, 1, 3)
  ) else (
  if a0 = 11 then (
  some (2, 1, 3)
  ) else (
  if a0 = 12 then (
  some (2, 1, 2)
  ) else (
  some (0, 0, 0)
  )
  )
  )
  )
  )
  )
noncomputable def iApplyOp_m (a0 : Int) (a1 : Int) (a2 : Int) : Option Int :=
  (iOperandTypes_m a0).bind fun (y1, y2, y3) =>
  (iCoerce_m a1 y1).bind fun y4 =>
  (iCoerce_m a2 y2).bind fun y5 =>
  if a0 = 1 then (
  grd (I64 (y4 + y5)) <|
  (iSaturate_m (y4 + y5)).bind fun y6 =>
  some y6
  ) else (
  if a0 = 2 then (
  grd (I64 (y4 - y5)) <|
  (iSaturate_m (y4 - y5)).bind fun y7 =>
  some y7
  ) else (
  if a0 = 3 then (
  grd (I64 (y4 * y5)) <|
  (iSaturate_m (y4 * y5)).bind fun y8 =>
  some y8
  ) else (
  if a0 = 4 then (
  some (if y5 > y4 then y5 else y4)
  ) else (
  if a0 = 5 then (
  some (if y5 < y4 then y5 else y4)
  ) else (
  if a0 = 6 then (
  grd (0 ≤ y4 ∧ 0 ≤ y5) <|
  some ((y4.toNat ||| y5.toNat : Nat) : Int)
  ) else (
  if a0 = 7 then (
  grd (0 ≤ y4 ∧ 0 ≤ y5) <|
  some ((y4.toNat &&& y5.toNat : Nat) : Int)
  ) else (
  if a0 = 8 then (
  some (goAndNot y4 y5)
  ) else (
  if a0 = 9 then (
  (iflag_m (decide (y4 < y5))).bind fun y9 =>
  some y9
  ) else (
  if a0 = 10 then (
  (iflag_m (decide (y4 = y5))).bind fun y10 =>
  some y10
  ) else (
  if a0 = 11 then (
  (iwithin_m y5 0 11).bind fun y11 =>
  if y11 = true then (
  grd (0 ≤ y5) <|
  grd (0 ≤ y4 ∧ 0 ≤ y5 ∧ y5 < 64) <|
  grd (0 ≤ ((y4.toNat >>> y5.toNat : Nat) : Int) ∧ 0 ≤ (1 : Int)) <|
  (iflag_m (decide (((((y4.toNat >>> y5.toNat : Nat) : Int).toNat &&& (1 : Int).toNat : Nat) : Int) = 1))).bind fun y12 =>
  some y12
  ) else (
  (iflag_m false).bind fun y13 =>
  some y13
  )
  ) else (
  if a0 = 12 then (
  (iwithin_m y5 0 11).bind fun y14 =>
  if y14 = true then (
  grd (0 ≤ y5) <|
  grd (0 ≤ y5 ∧ y5 < 63) <|
  grd (0 ≤ y4 ∧ 0 ≤ ((2 ^ y5.toNat : Nat) : Int)) <|
  some ((y4.toNat ||| ((2 ^ y5.toNat : Nat) : Int).toNat : Nat) : Int)
  ) else (
  some y4
  )
  ) else (
  some 0
  )
  )
  )
  )
  )
  )
  )
  )
  )
  )
  )
  )
noncomputable def inowhere_m (a0 : Int) (a1 : Expr) : Option Int :=
  some 0
noncomputable def ireader_eval_iEvalLocal_1_inowhere_B (rec_ireader_eval_iEvalLocal_1_inowhere : (List Slot) → Int → (List Int) → Expr → Option Int) (a0_0_0 : (List Slot)) (a0_2 : Int) (a0_3 : (List Int)) (a1 : Expr) : Option Int :=
  if a1.Kind = 1 then (
  some a1.N
  ) else (
  if a1.Kind = 2 then (
  some a0_2
  ) else (
  if a1.Kind = 3 then (
  (iEvalLocal_1_m (⟨a1.Pos, a1.Name⟩ : Occurrence) a0_0_0).bind fun y1 =>
  some y1
  ) else (
  if a1.Kind = 4 then (
  (a1.Args[0]?).bind fun x1 =>
  (rec_ireader_eval_iEvalLocal_1_inowhere a0_0_0 a0_2 a0_3 x1).bind fun y2 =>
  (a1.Args[1]?).bind fun x2 =>
  (rec_ireader_eval_iEvalLocal_1_inowhere a0_0_0 a0_2 a0_3 x2).bind fun y3 =>
  (iApplyOp_m a1.N y2 y3).bind fun y4 =>
  some y4
  ) else (
  if a1.Kind = 5 then (
  (a1.Args[0]?).bind fun x3 =>
  (rec_ireader_eval_iEvalLocal_1_inowhere a0_0_0 a0_2 a0_3 x3).bind fun y5 =>
  if y5 = 0 then (
  (a1.Args[2]?).bind fun x5 =>
  (rec_ireader_eval_iEvalLocal_1_inowhere a0_0_0 a0_2 a0_3 x5).bind fun y7 =>
  some y7
  ) else (
  (a1.Args[1]?).bind fun x4 =>
  (rec_ireader_eval_iEvalLocal_1_inowhere a0_0_0 a0_2 a0_3 x4).bind fun y6 =>
  some y6
  )
  ) else (
  if a1.Kind = 6 then (
  if a1.Pos < (a0_3.length : Int) then (
  grd (0 ≤ a1.Pos) <|
  (a0_3[a1.Pos.toNat]?).bind fun x6 =>
  some x6
  ) else (
  some 0
  )
  ) else (
  if a1.Kind = 8 then (
  (a1.Args[0]?).bind fun x7 =>
  (rec_ireader_eval_iEvalLocal_1_inowhere a0_0_0 a0_2 a0_3 x7).bind fun y8 =>
  (inowhere_m y8 a1).bind fun y9 =>
  some y9
  ) else (
  some 0
  )
  )
  )
  )
  )
  )
  )
noncomputable def ireader_eval_iEvalLocal_1_inowhere_n : Nat → (List Slot) → Int → (List Int) → Expr → Option Int
  | 0, _, _, _, _ => none
  | n + 1, a0_0_0, a0_2, a0_3, a1 => ireader_eval_iEvalLocal_1_inowhere_B (ireader_eval_iEvalLocal_1_inowhere_n n) a0_0_0 a0_2 a0_3 a1
noncomputable def sSlotValue_L1 (a1 : Occurrence) : Nat → Slot → Unit → Option (Unit ⊕ Int) := fun k1 x1 _ => 
  if x1.At = a1 then (
  some (.inr x1.Value)
  ) else (
  some (.inl ())
  )
noncomputable def sSlotValue_m (a0 : (List Slot)) (a1 : Occurrence) : Option Int :=
  (findL (sSlotValue_L1 a1) 0 a0 ()).bind <| onr (fun r1 => some r1) fun _ =>
  some 0
theorem sSlotValue_ok {a0 : (List Slot)} {a1 : Occurrence} {r : Int} (hr : sSlotValue_m a0 a1 = some r) {F0 : Nat → Prop} {w0 : World} {z0 : Value} (ha0 : rdS F0 w0 a0 z0) {ca1 : List Value} (ha1 : rd F0 w0 a1 ca1) :
    Ret Try.prog 29 #[z0, .agg ca1.toArray] w0 (fun _ => False) fun v w => v = .int .i64 r ∧ I64 r := by
  obtain ⟨A0', n0', c0', rfl⟩ := ha0.form3
  have H := ((HL.start F0 w0).argS ha0).argR ha1
  obtain ⟨rfl, hI1, hS1, H⟩ := op_Occurrence H (i := 1) rfl
  refine enter Try.func29 rfl rfl rfl ?_
  refine CW.seq (CW.reg ?_)
  refine WL.boxH rfl rfl rfl rfl rfl H fun b1 w1 H => ?_
  refine WL.ev rfl rfl (Ev.as rfl rfl) (WL.nil ?_)
  refine CW.seq (CW.seq (CW.reg ?_))
  refine WL.ev rfl rfl (Ev.as rfl rfl) (WL.nil ?_)
  obtain ⟨q1, hq1, hr⟩ := bd hr
  refine CW.block (CW.loop (α := Nat) (fun k1 => [(0, .slice A0' n0' c0'), (3, .pointer (some ⟨b1, 0, none⟩)), (5, .int .i64 (k1 : Int))]) (fun k1 w => k1 ≤ a0.length ∧ findL (sSlotValue_L1 a1) k1 (a0.drop k1) () = some q1 ∧ HL F0 [] w0 w [Pr.S a0 (.slice A0' n0' c0'), Pr.R a1 [.int .i64 a1.Pos, .string a1.Name]] [It.B b1 48 [.int .i64 a1.Pos, .string a1.Name]]) (fun k1 => a0.length - k1) 0 ⟨rfl, rfl, rfl, trivial⟩ ⟨Nat.zero_le _, hq1, H.keep 2 1⟩ ?_)
  rintro k1 σ w2 ⟨hk1, hq1, H⟩
  refine CW.seq (CW.seq (CW.reg ?_))
  refine WL.ev rfl rfl (Ev.mv rfl rfl) (WL.ev rfl rfl (Ev.mv rfl rfl) ?_)
  have hl1 := (H.rS (i := 0) rfl).I
  refine WL.ev rfl rfl (Ev.lenV rfl el40 rfl (H.rS (i := 0) rfl)) (WL.ev rfl rfl (Ev.bin rfl rfl rfl Bin.lss) (WL.nil ?_))
  refine CW.condD rfl (fun h1 => ?_) (fun h1 => ?_)
  · skip
    have hk2 := cast_lt h1
    obtain ⟨x1, z1, hx1, hb1, hs1, ht1⟩ := findL_go hq1 hk2
    refine CW.skip ?_
    refine CW.seq (CW.block (CW.seq (CW.quiet hmix (by kernel_rfl) ?_)))
    refine QL.ev rfl rfl (fun _ _ => Ev.mv rfl rfl) (QL.ev rfl rfl (fun _ _ => Ev.mv rfl rfl) ?_)
    obtain ⟨b2, ob2, cb2, hvb2, hI2, hS2, hI3, H⟩ := ixS_Slot H (i := 0) rfl hx1
    refine QL.ev rfl rfl (fun _ _ => Ev.ixVN rfl el40 sz50 rfl hvb2 rfl (lt_of hx1)) (QL.ev rfl rfl (fun _ _ => Ev.fa rfl fo50_0 rfl) (QL.ev rfl rfl (fun _ hq => Ev.lda rfl ag48 sz48 rfl (((H.ext hq).rA (i := 2) rfl).part 0 2) rfl) (QL.ev rfl rfl (fun _ hq => Ev.lda rfl ag48 sz48 rfl (At.blk ((H.ext hq).rB (i := 0) rfl)) rfl) (QL.ev rfl rfl (fun _ _ => Ev.bin rfl rfl rfl (Bin.eqlF fl48 (Occurrence_eqF x1.At a1))) (QL.nil (fun w3 hE => ?_))))))
    have H := H.ext hE
    refine CW.condD rfl (fun h2 => ?_) (fun h2 => ?_)
    · skip
      have hb1 := ifp h2 hb1
      refine CW.seq (CW.reg ?_)
      refine WL.ev rfl rfl (Ev.mv rfl rfl) (WL.ev rfl rfl (Ev.mv rfl rfl) (WL.ev rfl rfl (Ev.ixVN rfl el40 sz50 rfl hvb2 rfl (lt_of hx1)) (WL.ev rfl rfl (Ev.fa rfl fo50_1 rfl) (WL.ev rfl rfl (Ev.ld rfl ag3 rfl ((H.rA (i := 2) rfl).cell rfl)) (WL.ev rfl rfl (Ev.as rfl rfl) (WL.nil ?_))))))
      refine CW.ret ?_
      obtain rfl := sm hb1
      obtain rfl := ht1 _ rfl
      obtain rfl := sm hr
      exact ⟨_, res1 rfl rfl rfl, H.ext0, rfl, hI3⟩
    · skip
      have hb1 := ifn h2 hb1
      refine CW.skip ?_
      refine CW.reg ?_
      refine WL.ev rfl rfl (Ev.mv rfl rfl) (WL.ev rfl rfl (Ev.bin rfl rfl rfl (Bin.addN (a := k1) (b := 1) rfl (i64_succN hk2 hl1.2))) (WL.ev rfl rfl (Ev.as rfl rfl) (WL.nil ?_)))
      obtain rfl := sm hb1
      have hq1 := hs1 _ rfl
      exact ⟨(k1 + 1), ⟨rfl, rfl, rfl, trivial⟩, ⟨hk2, hq1, H.keep 2 1⟩, Nat.sub_lt_sub_left hk2 (Nat.lt_succ_self _)⟩
  · skip
    obtain rfl := findL_end hq1 (not_cast_lt h1)
    have hr := (onr_inl _ _ _).symm.trans hr
    refine CW.exit ?_
    refine CW.seq (CW.reg ?_)
    refine WL.ev rfl rfl (Ev.as rfl rfl) (WL.nil ?_)
    refine CW.ret ?_
    obtain rfl := sm hr
    exact ⟨_, res1 rfl rfl rfl, H.ext0, rfl, (by decide : I64 0)⟩

noncomputable def sOperandTypes_m (a0 : Int) : Option (Int × Int × Int) :=
  (sl1In_m a0 1 5).bind fun y1 =>
  if y1 = true then (
  some (1, 1, 1)
  ) else (
  (sl1In_m a0 6 8).bind fun y2 =>
  if y2 = true then (
  some (2, 2, 2)
  ) else (
  if a0 = 9 then (
  some (1, 1, 3)
  ) else (
  if a0 = 10 then (
  some (1, 1, 3)
  ) else (
  if a0 = 11 then (
  some (2, 1, 3)
  ) else (
  if a0 = 12 then (
  some (2, 1, 2)
  ) else (
  some (0, 0, 0)
  )
  )
  )
  )
  )
  )
end Go.Proofs.Ytonnooljidombaa

