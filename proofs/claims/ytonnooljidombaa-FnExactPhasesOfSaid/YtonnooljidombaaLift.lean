/- What some functions of the program compute, as partial functions on plain data, and that they do; each lemma bears its conditions in its statement. -/
import Derived.Test.YtonnooljidombaaRows
import Derived.Test.YtonnooljidombaaRd
import Derived.Test.YtonnooljidombaaEngD
set_option linter.unusedVariables false
set_option linter.unusedSimpArgs false
set_option linter.ambiguousOpen false
set_option linter.unusedSectionVars false
set_option linter.unnecessarySimpa false
set_option linter.unusedVariables false
set_option linter.unusedSimpArgs false
set_option maxRecDepth 100000
set_option maxHeartbeats 1000000
namespace Go.Proofs.Ytonnooljidombaa
open Go Go.E
open Go.E.Rep (rd)
open Go.E.Sep (own)
open Go.E.Sz (szd)
theorem ag3 : aggT Try.prog 3 = some false := by kernel_rfl
theorem ag4 : aggT Try.prog 4 = some false := by kernel_rfl
theorem ag9 : aggT Try.prog 9 = some false := by kernel_rfl
theorem ag41 : aggT Try.prog 41 = some false := by kernel_rfl
theorem ag60 : aggT Try.prog 60 = some true := by kernel_rfl
theorem ag76 : aggT Try.prog 76 = some false := by kernel_rfl
theorem ag82 : aggT Try.prog 82 = some false := by kernel_rfl
theorem ag85 : aggT Try.prog 85 = some true := by kernel_rfl
theorem ag134 : aggT Try.prog 134 = some false := by kernel_rfl
theorem ag140 : aggT Try.prog 140 = some false := by kernel_rfl
theorem sz3 : szT Try.prog 3 = some 1 := by kernel_rfl
theorem sz4 : szT Try.prog 4 = some 1 := by kernel_rfl
theorem sz5 : szT Try.prog 5 = some 1 := by kernel_rfl
theorem sz9 : szT Try.prog 9 = some 1 := by kernel_rfl
theorem sz41 : szT Try.prog 41 = some 1 := by kernel_rfl
theorem sz60 : szT Try.prog 60 = some 2 := by kernel_rfl
theorem sz82 : szT Try.prog 82 = some 1 := by kernel_rfl
theorem sz85 : szT Try.prog 85 = some 2 := by kernel_rfl
theorem sz88 : szT Try.prog 88 = some 4 := by kernel_rfl
theorem sz134 : szT Try.prog 134 = some 1 := by kernel_rfl
theorem sz140 : szT Try.prog 140 = some 1 := by kernel_rfl
theorem by3 : byT Try.prog 3 = some 8 := by kernel_rfl
theorem by4 : byT Try.prog 4 = some 1 := by kernel_rfl
theorem by9 : byT Try.prog 9 = some 16 := by kernel_rfl
theorem by85 : byT Try.prog 85 = some 48 := by kernel_rfl
theorem ze3 : zeroT Try.prog 3 = some [.int .i64 0] := by kernel_rfl
theorem ze4 : zeroT Try.prog 4 = some [.bool false] := by kernel_rfl
theorem ze9 : zeroT Try.prog 9 = some [.string ⟨#[]⟩] := by kernel_rfl
theorem ze60 : zeroT Try.prog 60 = some [.int .i64 0, .slice none 0 0] := by kernel_rfl
theorem ze85 : zeroT Try.prog 85 = some [.slice none 0 0, .slice none 0 0] := by kernel_rfl
theorem ze134 : zeroT Try.prog 134 = some [.nilFunc] := by kernel_rfl
theorem ze140 : zeroT Try.prog 140 = some [.slice none 0 0] := by kernel_rfl
theorem el38 : elemT Try.prog 38 = some 5 := by kernel_rfl
theorem el41 : elemT Try.prog 41 = some 3 := by kernel_rfl
theorem el76 : elemT Try.prog 76 = some 88 := by kernel_rfl
theorem el79 : elemT Try.prog 79 = some 85 := by kernel_rfl
theorem el82 : elemT Try.prog 82 = some 9 := by kernel_rfl
theorem el140 : elemT Try.prog 140 = some 4 := by kernel_rfl
theorem it130 : intT Try.prog 130 = some .u64 := by kernel_rfl
theorem pl60 : placesT Try.prog 60 = some [(0, 1), (1, 1)] := by kernel_rfl
theorem pl85 : placesT Try.prog 85 = some [(0, 1), (1, 1)] := by kernel_rfl
theorem fo60_0 : fieldT Try.prog 60 0 = some 0 := by kernel_rfl
theorem fo60_1 : fieldT Try.prog 60 1 = some 1 := by kernel_rfl
theorem fo85_0 : fieldT Try.prog 85 0 = some 0 := by kernel_rfl
theorem fo85_1 : fieldT Try.prog 85 1 = some 1 := by kernel_rfl
theorem fo88_0 : fieldT Try.prog 88 0 = some 0 := by kernel_rfl
theorem fo88_2 : fieldT Try.prog 88 2 = some 2 := by kernel_rfl
theorem ok36 : callable Try.prog 36 = true := by kernel_rfl
theorem ok38 : callable Try.prog 38 = true := by kernel_rfl
theorem ok39 : callable Try.prog 39 = true := by kernel_rfl
theorem ok40 : callable Try.prog 40 = true := by kernel_rfl
theorem ok42 : callable Try.prog 42 = true := by kernel_rfl
theorem ok43 : callable Try.prog 43 = true := by kernel_rfl
theorem ok44 : callable Try.prog 44 = true := by kernel_rfl
theorem ok106 : callable Try.prog 106 = true := by kernel_rfl
theorem ok108 : callable Try.prog 108 = true := by kernel_rfl
theorem ok109 : callable Try.prog 109 = true := by kernel_rfl
theorem ok110 : callable Try.prog 110 = true := by kernel_rfl
theorem ok111 : callable Try.prog 111 = true := by kernel_rfl
theorem ok112 : callable Try.prog 112 = true := by kernel_rfl
theorem ok120 : callable Try.prog 120 = true := by kernel_rfl
theorem ok121 : callable Try.prog 121 = true := by kernel_rfl
theorem ok122 : callable Try.prog 122 = true := by kernel_rfl
theorem ok123 : callable Try.prog 123 = true := by kernel_rfl
theorem ok124 : callable Try.prog 124 = true := by kernel_rfl
theorem ok159 : callable Try.prog 159 = true := by kernel_rfl
theorem ok160 : callable Try.prog 160 = true := by kernel_rfl
theorem ok161 : callable Try.prog 161 = true := by kernel_rfl
theorem ok162 : callable Try.prog 162 = true := by kernel_rfl
theorem hmix : Try.prog.follows .mixedOrders = true := by kernel_rfl
noncomputable def sl1In_m (a0 : Int) (a1 : Int) (a2 : Int) : Option Bool :=
  if a1 ≤ a0 then (
  some (decide (a0 ≤ a2))
  ) else (
  some false
  )
theorem sl1In_ok {a0 : Int} {a1 : Int} {a2 : Int} {r : Bool} (hr : sl1In_m a0 a1 a2 = some r) {F0 : Nat → Prop} {w0 : World} (ha0 : I64 a0) (ha1 : I64 a1) (ha2 : I64 a2) :
    Ret Try.prog 112 #[.int .i64 a0, .int .i64 a1, .int .i64 a2] w0 (fun _ => False) fun v w => v = .bool r := by
  have H := HL.start F0 w0
  refine enter Try.func112 rfl rfl rfl ?_
  refine CW.seq (CW.reg ?_)
  refine WL.ev rfl rfl (Ev.as rfl rfl) (WL.nil ?_)
  refine CW.seq (CW.reg ?_)
  refine WL.ev rfl rfl (Ev.mv rfl rfl) (WL.ev rfl rfl (Ev.mv rfl rfl) (WL.ev rfl rfl (Ev.bin rfl rfl rfl Bin.geq) ?_))
  refine WL.mvD rfl rfl rfl rfl (fun h1 => ?_) (fun h1 => ?_)
  · skip
    have hr := ifp h1 hr
    refine WL.on rfl rfl (WL.ev rfl rfl (Ev.mv rfl rfl) (WL.on rfl rfl (WL.ev rfl rfl (Ev.mv rfl rfl) (WL.on rfl rfl (WL.ev rfl rfl (Ev.bin rfl rfl rfl Bin.leq) (WL.ev rfl rfl (Ev.pickT rfl rfl rfl) (WL.ev rfl rfl (Ev.as rfl rfl) (WL.nil ?_))))))))
    refine CW.ret ?_
    obtain rfl := sm hr
    exact ⟨_, res1 rfl rfl rfl, H.ext0, rfl⟩
  · skip
    have hr := ifn h1 hr
    refine WL.off rfl rfl rfl (WL.off rfl rfl rfl (WL.off rfl rfl rfl (WL.ev rfl rfl (Ev.pickF rfl rfl rfl) (WL.ev rfl rfl (Ev.as rfl rfl) (WL.nil ?_)))))
    refine CW.ret ?_
    obtain rfl := sm hr
    exact ⟨_, res1 rfl rfl rfl, H.ext0, rfl⟩

noncomputable def sl22Copy_m (a0 : Relation) : Option Relation :=
  grd (((([] : List Int).length : Int) + (a0.Rows.length : Int)) * 8 ≤ 140737488355328 ∧ (([] : List Int).length : Int) + (a0.Rows.length : Int) ≤ 9223372036854775807) <|
  some a0
theorem sl22Copy_ok {a0 : Relation} {r : Relation} (hr : sl22Copy_m a0 = some r) {F0 : Nat → Prop} {w0 : World} {ca0 : List Value} (ha0 : rd F0 w0 a0 ca0) :
    Ret Try.prog 108 #[.agg ca0.toArray] w0 (fun _ => False) fun v w => ∃ A0 : Option Addr, ∃ n0 c0 : Nat, v = .agg #[.int .i64 r.N, (.slice A0 n0 c0)] ∧ I64 r.N ∧ HL F0 [] w0 w [] [It.O 3 r.Rows (.slice A0 n0 c0)] := by
  have H := (HL.start F0 w0).argR ha0
  obtain ⟨A1, n1, c1, rfl, hI1, H⟩ := op_Relation H (i := 0) rfl
  refine enter Try.func108 rfl rfl rfl ?_
  refine CW.seq (CW.reg ?_)
  refine WL.boxH rfl rfl rfl rfl rfl H fun b1 w1 H => ?_
  refine WL.allocH rfl rfl rfl ze60 H fun b2 w2 H => ?_
  refine WL.nil ?_
  refine CW.seq (CW.held (fun w => ∃ o1_ : It, HL F0 [] w0 w [Pr.R a0 [.int .i64 a0.N, .slice A1 n1 c1], Pr.S a0.Rows (.slice A1 n1 c1)] [It.B b1 60 [.int .i64 a0.N, .slice A1 n1 c1], o1_]) hmix (fun w3 hE => ?_))
  have H : HL F0 [] w0 w3 [Pr.R a0 [.int .i64 a0.N, .slice A1 n1 c1], Pr.S a0.Rows (.slice A1 n1 c1)] [It.B b1 60 [.int .i64 a0.N, .slice A1 n1 c1], It.B b2 60 [.int .i64 0, .slice none 0 0]] := H.ext hE
  refine HW.take 0 ⟨_, H.keep 2 2⟩ rfl (by kernel_rfl) rfl rfl (fun _ _ => Ev.fa rfl fo60_0 rfl) ?_
  refine HW.take 1 ⟨_, H.keep 2 2⟩ rfl (by kernel_rfl) rfl rfl (fun _ ⟨_, hq⟩ => Ev.ld rfl ag3 rfl ((hq.rB (i := 0) rfl).cell rfl)) ?_
  refine HW.take 3 ⟨_, H.keep 2 2⟩ rfl (by kernel_rfl) rfl rfl (fun _ _ => Ev.fa rfl fo60_1 rfl) ?_
  refine HW.take 4 ⟨_, H.keep 2 2⟩ rfl (by kernel_rfl) rfl rfl (fun _ ⟨_, hq⟩ => Ev.ld rfl ag41 rfl ((hq.rB (i := 0) rfl).cell rfl)) ?_
  refine HW.eff 2 rfl (by kernel_rfl) ?_
  refine WL.lit0H (α := Int) rfl rfl rfl el41 sz3 H fun A2 n2 c2 w4 H => ?_
  refine HW.next ⟨_, H.keep 2 2⟩ ?_
  refine HW.eff 5 rfl (by kernel_rfl) ?_
  obtain ⟨hg1, hr⟩ := grd_some hr
  refine WL.appS (i := 2) rfl rfl rfl el41 sz3 by3 ze3 rfl rfl rfl H rfl (H.rS (i := 1) rfl) hg1 fun A3 n3 c3 w5 H => ?_
  refine HW.next ⟨_, H.keep 2 2⟩ ?_
  refine HW.take 6 ⟨_, H.keep 2 2⟩ rfl (by kernel_rfl) rfl rfl (fun _ _ => Ev.build rfl pl60 ze60 rfl rfl rfl rfl) ?_
  refine HW.eff 7 rfl (by kernel_rfl) ?_
  refine WL.stB (i := 1) rfl rfl rfl sz60 rfl rfl rfl rfl (all1 rfl (all1 rfl all0)) H rfl rfl rfl fun w6 H => ?_
  refine HW.next ⟨_, H.keep 2 2⟩ ?_
  refine HW.done (by kernel_rfl) ?_
  refine CW.ret ?_
  obtain rfl := sm hr
  exact ⟨_, resC rfl ag60 sz60 rfl rfl (At.blk (H.rB (i := 1) rfl)) rfl, H.ext0, _, _, _, rfl, hI1, H.outM (fr' := []) [false, false, true] fun _ _ => trivial⟩

noncomputable def sIsValidRelation_L1 (a0 : Relation) : Nat → Unit → Option (Unit ⊕ Bool) := fun k1 _ => 
  (a0.Rows[k1]?).bind fun x1 =>
  grd (0 ≤ a0.N) <|
  grd (0 ≤ a0.N ∧ a0.N < 63) <|
  (sl1In_m x1 0 (((2 ^ a0.N.toNat : Nat) : Int) - 1)).bind fun y2 =>
  if y2 = true then (
  some (.inl ())
  ) else (
  some (.inr false)
  )
noncomputable def sIsValidRelation_m (a0 : Relation) : Option Bool :=
  (sl1In_m a0.N 0 16).bind fun y1 =>
  if y1 = true then (
  if (a0.Rows.length : Int) = a0.N then (
  (findN (sIsValidRelation_L1 a0) 0 (a0.N.toNat) ()).bind <| onr (fun r1 => some r1) fun _ =>
  some true
  ) else (
  some false
  )
  ) else (
  some false
  )
theorem sIsValidRelation_ok {a0 : Relation} {r : Bool} (hr : sIsValidRelation_m a0 = some r) {F0 : Nat → Prop} {w0 : World} {ca0 : List Value} (ha0 : rd F0 w0 a0 ca0) :
    Ret Try.prog 40 #[.agg ca0.toArray] w0 (fun _ => False) fun v w => v = .bool r := by
  have H := (HL.start F0 w0).argR ha0
  obtain ⟨A1, n1, c1, rfl, hI1, H⟩ := op_Relation H (i := 0) rfl
  refine enter Try.func40 rfl rfl rfl ?_
  refine CW.seq (CW.reg ?_)
  refine WL.boxH rfl rfl rfl rfl rfl H fun b1 w1 H => ?_
  refine WL.ev rfl rfl (Ev.as rfl rfl) (WL.nil ?_)
  refine CW.seq (CW.seq (CW.reg ?_))
  refine WL.ev rfl rfl (Ev.fa rfl fo60_0 rfl) (WL.ev rfl rfl (Ev.ld rfl ag3 rfl ((H.rB (i := 0) rfl).cell rfl)) ?_)
  obtain ⟨y1, hy1, hr⟩ := bd hr
  refine WL.call rfl rfl rfl rfl rfl ok112 rfl (sl1In_ok hy1 (F0 := fun _ => False) hI1 (by decide : I64 0) (by decide : I64 16)) ?_
  rintro _ w2 hE rfl
  have H := H.ext hE
  refine WL.ev rfl rfl (Ev.not rfl rfl) ?_
  refine WL.mvBN rfl rfl rfl rfl (fun h1 => ?_) (fun h1 => ?_)
  · skip
    have hr := ifn h1 hr
    refine WL.off rfl rfl rfl (WL.off rfl rfl rfl (WL.off rfl rfl rfl (WL.off rfl rfl rfl (WL.off rfl rfl rfl (WL.off rfl rfl rfl (WL.ev rfl rfl (Ev.pickT rfl rfl rfl) (WL.nil ?_)))))))
    refine CW.condT rfl ?_
    refine CW.seq (CW.reg ?_)
    refine WL.ev rfl rfl (Ev.as rfl rfl) (WL.nil ?_)
    refine CW.ret ?_
    obtain rfl := sm hr
    exact ⟨_, res1 rfl rfl rfl, H.ext0, rfl⟩
  · skip
    have hr := ifp h1 hr
    refine WL.on rfl rfl (WL.ev rfl rfl (Ev.fa rfl fo60_1 rfl) (WL.on rfl rfl (WL.ev rfl rfl (Ev.ld rfl ag41 rfl ((H.rB (i := 0) rfl).cell rfl)) (WL.on rfl rfl ?_))))
    have hl1 := (H.rS (i := 1) rfl).I
    refine WL.ev rfl rfl (Ev.lenV rfl el41 rfl (H.rS (i := 1) rfl)) (WL.on rfl rfl (WL.ev rfl rfl (Ev.fa rfl fo60_0 rfl) (WL.on rfl rfl (WL.ev rfl rfl (Ev.ld rfl ag3 rfl ((H.rB (i := 0) rfl).cell rfl)) (WL.on rfl rfl (WL.ev rfl rfl (Ev.bin rfl rfl rfl Bin.neq) (WL.ev rfl rfl (Ev.pickF rfl rfl rfl) (WL.nil ?_))))))))
    refine CW.condN rfl (fun h2 => ?_) (fun h2 => ?_)
    · skip
      have hr := ifn h2 hr
      refine CW.seq (CW.reg ?_)
      refine WL.ev rfl rfl (Ev.as rfl rfl) (WL.nil ?_)
      refine CW.ret ?_
      obtain rfl := sm hr
      exact ⟨_, res1 rfl rfl rfl, H.ext0, rfl⟩
    · skip
      have hr := ifp h2 hr
      refine CW.skip ?_
      refine CW.seq (CW.seq (CW.reg ?_))
      refine WL.ev rfl rfl (Ev.as rfl rfl) (WL.nil ?_)
      obtain ⟨q1, hq1, hr⟩ := bd hr
      refine CW.block (CW.loop (α := Nat) (fun k1 => [(1, .pointer (some ⟨b1, 0, none⟩)), (3, .int .i64 (k1 : Int))]) (fun k1 w => k1 ≤ a0.N.toNat ∧ findN (sIsValidRelation_L1 a0) k1 (a0.N.toNat - k1) () = some q1 ∧ HL F0 [] w0 w [Pr.R a0 [.int .i64 a0.N, .slice A1 n1 c1], Pr.S a0.Rows (.slice A1 n1 c1)] [It.B b1 60 [.int .i64 a0.N, .slice A1 n1 c1]]) (fun k1 => a0.N.toNat - k1) 0 ⟨rfl, rfl, trivial⟩ ⟨Nat.zero_le _, hq1, H.keep 2 1⟩ ?_)
      rintro k1 σ w3 ⟨hk1, hq1, H⟩
      refine CW.seq (CW.seq (CW.reg ?_))
      refine WL.ev rfl rfl (Ev.mv rfl rfl) (WL.ev rfl rfl (Ev.fa rfl fo60_0 rfl) (WL.ev rfl rfl (Ev.ld rfl ag3 rfl ((H.rB (i := 0) rfl).cell rfl)) (WL.ev rfl rfl (Ev.bin rfl rfl rfl Bin.lss) (WL.nil ?_))))
      refine CW.condD rfl (fun h3 => ?_) (fun h3 => ?_)
      · skip
        have hk2 := toNat_lt h3
        obtain ⟨z1, hb1, hs1, ht1⟩ := findN_go hq1 hk2
        refine CW.skip ?_
        refine CW.seq (CW.block (CW.seq (CW.quiet hmix (by kernel_rfl) ?_)))
        refine QL.ev rfl rfl (fun _ _ => Ev.fa rfl fo60_1 rfl) (QL.ev rfl rfl (fun _ hq => Ev.ld rfl ag41 rfl (((H.ext hq).rB (i := 0) rfl).cell rfl)) (QL.ev rfl rfl (fun _ _ => Ev.mv rfl rfl) ?_))
        obtain ⟨x1, hx1, hb1⟩ := bd hb1
        obtain ⟨b2, ob2, cb2, hvb2, hI2, H⟩ := ixS_Int H (i := 1) rfl hx1
        refine QL.ev rfl rfl (fun _ _ => Ev.ixVN rfl el41 sz3 rfl hvb2 rfl (lt_of hx1)) (QL.ev rfl rfl (fun _ hq => Ev.ld rfl ag3 rfl (((H.ext hq).rA (i := 2) rfl).cell0 rfl)) (QL.ev rfl rfl (fun _ _ => Ev.fa rfl fo60_0 rfl) (QL.ev rfl rfl (fun _ hq => Ev.ld rfl ag3 rfl (((H.ext hq).rB (i := 0) rfl).cell rfl)) ?_)))
        obtain ⟨hg1, hb1⟩ := grd_some hb1
        refine QL.ev rfl rfl (fun _ _ => Ev.convUI rfl Try.underlying3 it130 rfl hg1 hI1.2) ?_
        obtain ⟨hg2, hb1⟩ := grd_some hb1
        refine QL.ev rfl rfl (fun _ _ => Ev.bin rfl rfl rfl (Bin.shlI hg2.1 hg2.2)) (QL.ev rfl rfl (fun _ _ => Ev.bin rfl rfl rfl (Bin.sub (i64_sub (k := 1) (i64_pow hg2.2) (by decide)))) ?_)
        obtain ⟨y2, hy2, hb1⟩ := bd hb1
        refine QL.call rfl rfl rfl rfl rfl ok112 rfl (fun _ hq => sl1In_ok hy2 (F0 := fun _ => False) hI2 (by decide : I64 0) (i64_sub (k := 1) (i64_pow hg2.2) (by decide))) ?_
        refine QL.ev rfl rfl (fun _ _ => Ev.not rfl rfl) (QL.nil (fun w4 hE => ?_))
        have H := H.ext hE
        refine CW.condBN rfl (fun h4 => ?_) (fun h4 => ?_)
        · skip
          have hb1 := ifn h4 hb1
          refine CW.seq (CW.reg ?_)
          refine WL.ev rfl rfl (Ev.as rfl rfl) (WL.nil ?_)
          refine CW.ret ?_
          obtain rfl := sm hb1
          obtain rfl := ht1 _ rfl
          obtain rfl := sm hr
          exact ⟨_, res1 rfl rfl rfl, H.ext0, rfl⟩
        · skip
          have hb1 := ifp h4 hb1
          refine CW.skip ?_
          refine CW.reg ?_
          refine WL.ev rfl rfl (Ev.mv rfl rfl) (WL.ev rfl rfl (Ev.bin rfl rfl rfl (Bin.addN (a := k1) (b := 1) rfl (i64_succNI h3 hI1.2))) (WL.ev rfl rfl (Ev.as rfl rfl) (WL.nil ?_)))
          obtain rfl := sm hb1
          have hq1 := hs1 _ rfl
          exact ⟨(k1 + 1), ⟨rfl, rfl, trivial⟩, ⟨hk2, hq1, H.keep 2 1⟩, Nat.sub_lt_sub_left hk2 (Nat.lt_succ_self _)⟩
      · skip
        obtain rfl := findN_end hq1 (not_toNat_lt h3)
        have hr := (onr_inl _ _ _).symm.trans hr
        refine CW.exit ?_
        refine CW.seq (CW.reg ?_)
        refine WL.ev rfl rfl (Ev.as rfl rfl) (WL.nil ?_)
        refine CW.ret ?_
        obtain rfl := sm hr
        exact ⟨_, res1 rfl rfl rfl, H.ext0, rfl⟩

noncomputable def slices_Clone_int_m (a0 : (List Int)) : Option (List Int) :=
  grd (((([] : (List Int)).length : Int) + (a0.length : Int)) * 8 ≤ 140737488355328 ∧ (([] : (List Int)).length : Int) + (a0.length : Int) ≤ 9223372036854775807) <|
  some a0
theorem slices_Clone_int_ok {a0 : (List Int)} {r : (List Int)} (hr : slices_Clone_int_m a0 = some r) {F0 : Nat → Prop} {w0 : World} {z0 : Value} (ha0 : rdS F0 w0 a0 z0) :
    Ret Try.prog 159 #[z0] w0 (fun _ => False) fun v w => ∃ A0 : Option Addr, ∃ n0 c0 : Nat, v = (.slice A0 n0 c0) ∧ HL F0 [] w0 w [] [It.O 3 r (.slice A0 n0 c0)] := by
  obtain ⟨A0', n0', c0', rfl⟩ := ha0.form3
  have H := (HL.start F0 w0).argS ha0
  obtain ⟨hg1, hr⟩ := grd_some hr
  obtain rfl := sm hr
  refine enter Try.func159 rfl rfl rfl ?_
  refine CW.seq (CW.reg ?_)
  refine WL.ev rfl rfl (Ev.as rfl rfl) (WL.nil ?_)
  refine CW.seq (CW.seq (CW.reg ?_))
  refine WL.ev rfl rfl (Ev.mv rfl rfl) (WL.ev rfl rfl (Ev.bin rfl rfl rfl (Bin.eqlNil el41)) (WL.nil ?_))
  refine (CW.condD rfl (fun h1 => ?_) (fun h1 => ?_))
  · refine CW.seq (CW.reg ?_)
    refine WL.ev rfl rfl (Ev.as rfl rfl) (WL.nil ?_)
    refine CW.ret ?_
    have e0 : a0 = [] := rdS.nil_of ha0 h1
    subst e0
    have H := H.nil (α := Int) 3
    exact ⟨_, res1 rfl rfl rfl, H.ext0, _, _, _, rfl, H.outM (fr' := []) [true] fun _ _ => trivial⟩
  · refine CW.skip ?_
    refine CW.seq (CW.reg ?_)
    refine WL.lit0H (α := Int) rfl rfl rfl el41 sz3 H fun A2 n2 c2 w1 H => ?_
    refine WL.ev rfl rfl (Ev.mv rfl rfl) ?_
    refine WL.appS (i := 0) rfl rfl rfl el41 sz3 by3 ze3 rfl rfl rfl H rfl (H.rS (i := 0) rfl) hg1 fun A3 n3 c3 w2 H => ?_
    rw [List.nil_append] at H
    refine WL.ev rfl rfl (Ev.as rfl rfl) (WL.nil ?_)
    refine CW.ret ?_
    exact ⟨_, res1 rfl rfl rfl, H.ext0, _, _, _, rfl, H.outM (fr' := []) [true] fun _ _ => trivial⟩

noncomputable def icopyRelation_m (a0 : Relation) : Option Relation :=
  (slices_Clone_int_m a0.Rows).bind fun y1 =>
  some (⟨a0.N, y1⟩ : Relation)
theorem icopyRelation_ok {a0 : Relation} {r : Relation} (hr : icopyRelation_m a0 = some r) {F0 : Nat → Prop} {w0 : World} {ca0 : List Value} (ha0 : rd F0 w0 a0 ca0) :
    Ret Try.prog 106 #[.agg ca0.toArray] w0 (fun _ => False) fun v w => ∃ A0 : Option Addr, ∃ n0 c0 : Nat, v = .agg #[.int .i64 r.N, (.slice A0 n0 c0)] ∧ I64 r.N ∧ HL F0 [] w0 w [] [It.O 3 r.Rows (.slice A0 n0 c0)] := by
  have H := (HL.start F0 w0).argR ha0
  obtain ⟨A1, n1, c1, rfl, hI1, H⟩ := op_Relation H (i := 0) rfl
  refine enter Try.func106 rfl rfl rfl ?_
  refine CW.seq (CW.reg ?_)
  refine WL.boxH rfl rfl rfl rfl rfl H fun b1 w1 H => ?_
  refine WL.allocH rfl rfl rfl ze60 H fun b2 w2 H => ?_
  refine WL.nil ?_
  refine CW.seq (CW.held (fun w => ∃ o1_ : It, HL F0 [] w0 w [Pr.R a0 [.int .i64 a0.N, .slice A1 n1 c1], Pr.S a0.Rows (.slice A1 n1 c1)] [It.B b1 60 [.int .i64 a0.N, .slice A1 n1 c1], o1_]) hmix (fun w3 hE => ?_))
  have H : HL F0 [] w0 w3 [Pr.R a0 [.int .i64 a0.N, .slice A1 n1 c1], Pr.S a0.Rows (.slice A1 n1 c1)] [It.B b1 60 [.int .i64 a0.N, .slice A1 n1 c1], It.B b2 60 [.int .i64 0, .slice none 0 0]] := H.ext hE
  refine HW.take 0 ⟨_, H.keep 2 2⟩ rfl (by kernel_rfl) rfl rfl (fun _ _ => Ev.fa rfl fo60_0 rfl) ?_
  refine HW.take 1 ⟨_, H.keep 2 2⟩ rfl (by kernel_rfl) rfl rfl (fun _ ⟨_, hq⟩ => Ev.ld rfl ag3 rfl ((hq.rB (i := 0) rfl).cell rfl)) ?_
  refine HW.take 2 ⟨_, H.keep 2 2⟩ rfl (by kernel_rfl) rfl rfl (fun _ _ => Ev.fa rfl fo60_1 rfl) ?_
  refine HW.take 3 ⟨_, H.keep 2 2⟩ rfl (by kernel_rfl) rfl rfl (fun _ ⟨_, hq⟩ => Ev.ld rfl ag41 rfl ((hq.rB (i := 0) rfl).cell rfl)) ?_
  refine HW.eff 4 rfl (by kernel_rfl) ?_
  obtain ⟨y1, hy1, hr⟩ := bd hr
  refine WL.call rfl rfl rfl rfl rfl ok159 rfl (slices_Clone_int_ok hy1 (H.rS (i := 1) rfl)) ?_
  rintro _ w4 hE ⟨A2, n2, c2, rfl, H'⟩
  have H := H.callA H' ⟨fun _ _ _ _ _ h => h, trivial⟩
  refine HW.next ⟨_, H.keep 2 2⟩ ?_
  refine HW.take 5 ⟨_, H.keep 2 2⟩ rfl (by kernel_rfl) rfl rfl (fun _ _ => Ev.build rfl pl60 ze60 rfl rfl rfl rfl) ?_
  refine HW.eff 6 rfl (by kernel_rfl) ?_
  refine WL.stB (i := 1) rfl rfl rfl sz60 rfl rfl rfl rfl (all1 rfl (all1 rfl all0)) H rfl rfl rfl fun w5 H => ?_
  refine HW.next ⟨_, H.keep 2 2⟩ ?_
  refine HW.done (by kernel_rfl) ?_
  refine CW.ret ?_
  obtain rfl := sm hr
  exact ⟨_, resC rfl ag60 sz60 rfl rfl (At.blk (H.rB (i := 1) rfl)) rfl, H.ext0, _, _, _, rfl, hI1, H.outM (fr' := []) [false, false, true] fun _ _ => trivial⟩

noncomputable def iwithin_m (a0 : Int) (a1 : Int) (a2 : Int) : Option Bool :=
  if a1 ≤ a0 then (
  some (decide (a0 ≤ a2))
  ) else (
  some false
  )
theorem iwithin_ok {a0 : Int} {a1 : Int} {a2 : Int} {r : Bool} (hr : iwithin_m a0 a1 a2 = some r) {F0 : Nat → Prop} {w0 : World} (ha0 : I64 a0) (ha1 : I64 a1) (ha2 : I64 a2) :
    Ret Try.prog 109 #[.int .i64 a0, .int .i64 a1, .int .i64 a2] w0 (fun _ => False) fun v w => v = .bool r := by
  have H := HL.start F0 w0
  refine enter Try.func109 rfl rfl rfl ?_
  refine CW.seq (CW.reg ?_)
  refine WL.ev rfl rfl (Ev.as rfl rfl) (WL.nil ?_)
  refine CW.seq (CW.reg ?_)
  refine WL.ev rfl rfl (Ev.mv rfl rfl) (WL.ev rfl rfl (Ev.mv rfl rfl) (WL.ev rfl rfl (Ev.bin rfl rfl rfl Bin.geq) ?_))
  refine WL.mvD rfl rfl rfl rfl (fun h1 => ?_) (fun h1 => ?_)
  · skip
    have hr := ifp h1 hr
    refine WL.on rfl rfl (WL.ev rfl rfl (Ev.mv rfl rfl) (WL.on rfl rfl (WL.ev rfl rfl (Ev.mv rfl rfl) (WL.on rfl rfl (WL.ev rfl rfl (Ev.bin rfl rfl rfl Bin.leq) (WL.ev rfl rfl (Ev.pickT rfl rfl rfl) (WL.ev rfl rfl (Ev.as rfl rfl) (WL.nil ?_))))))))
    refine CW.ret ?_
    obtain rfl := sm hr
    exact ⟨_, res1 rfl rfl rfl, H.ext0, rfl⟩
  · skip
    have hr := ifn h1 hr
    refine WL.off rfl rfl rfl (WL.off rfl rfl rfl (WL.off rfl rfl rfl (WL.ev rfl rfl (Ev.pickF rfl rfl rfl) (WL.ev rfl rfl (Ev.as rfl rfl) (WL.nil ?_)))))
    refine CW.ret ?_
    obtain rfl := sm hr
    exact ⟨_, res1 rfl rfl rfl, H.ext0, rfl⟩

noncomputable def iIsValidRelation_1_m (a0 : Int) (a1 : Relation) : Option Bool :=
  grd (0 ≤ a1.N) <|
  grd (0 ≤ a1.N ∧ a1.N < 63) <|
  (iwithin_m a0 0 (((2 ^ a1.N.toNat : Nat) : Int) - 1)).bind fun y1 =>
  some (!y1)
theorem iIsValidRelation_1_ok {a0 : Int} {a1 : Relation} {r : Bool} (hr : iIsValidRelation_1_m a0 a1 = some r) {F0 : Nat → Prop} {w0 : World} (ha0 : I64 a0) {b1p : Nat} (ha1 : CapP F0 w0 b1p a1) :
    Ret Try.prog 111 #[.int .i64 a0, .pointer (some ⟨b1p, 0, none⟩)] w0 (fun _ => False) fun v w => v = .bool r := by
  have H := HL.start F0 w0
  obtain ⟨cpa1, H⟩ := H.argP ha1
  obtain ⟨A1, n1, c1, rfl, hI1, H⟩ := op_Relation H (i := 1) rfl
  refine enter Try.func111 rfl rfl rfl ?_
  refine CW.seq (CW.reg ?_)
  refine WL.ev rfl rfl (Ev.as rfl rfl) (WL.nil ?_)
  refine CW.seq (CW.reg ?_)
  refine WL.ev rfl rfl (Ev.mv rfl rfl) (WL.ev rfl rfl (Ev.fa rfl fo60_0 rfl) (WL.ev rfl rfl (Ev.ld rfl ag3 rfl ((H.rA (i := 0) rfl).cell rfl)) ?_))
  obtain ⟨hg1, hr⟩ := grd_some hr
  refine WL.ev rfl rfl (Ev.convUI rfl Try.underlying3 it130 rfl hg1 hI1.2) ?_
  obtain ⟨hg2, hr⟩ := grd_some hr
  refine WL.ev rfl rfl (Ev.bin rfl rfl rfl (Bin.shlI hg2.1 hg2.2)) (WL.ev rfl rfl (Ev.bin rfl rfl rfl (Bin.sub (i64_sub (k := 1) (i64_pow hg2.2) (by decide)))) ?_)
  obtain ⟨y1, hy1, hr⟩ := bd hr
  refine WL.call rfl rfl rfl rfl rfl ok109 rfl (iwithin_ok hy1 (F0 := fun _ => False) ha0 (by decide : I64 0) (i64_sub (k := 1) (i64_pow hg2.2) (by decide))) ?_
  rintro _ w1 hE rfl
  have H := H.ext hE
  refine WL.ev rfl rfl (Ev.not rfl rfl) (WL.ev rfl rfl (Ev.as rfl rfl) (WL.nil ?_))
  refine CW.ret ?_
  obtain rfl := sm hr
  exact ⟨_, res1 rfl rfl rfl, H.ext0, rfl⟩

noncomputable def slices_IndexFunc_int_iIsValidRelation_1_L1 (a1_0 : Relation) : Nat → Int → Unit → Option (Unit ⊕ Int) := fun k1 x1 _ => 
  (iIsValidRelation_1_m x1 a1_0).bind fun y1 =>
  if y1 = true then (
  some (.inr (k1 : Int))
  ) else (
  some (.inl ())
  )
noncomputable def slices_IndexFunc_int_iIsValidRelation_1_m (a0 : (List Int)) (a1_0 : Relation) : Option Int :=
  (findL (slices_IndexFunc_int_iIsValidRelation_1_L1 a1_0) 0 a0 ()).bind <| onr (fun r1 => some r1) fun _ =>
  some (-1)
theorem slices_IndexFunc_int_iIsValidRelation_1_ok {a0 : (List Int)} {a1_0 : Relation} {r : Int} (hr : slices_IndexFunc_int_iIsValidRelation_1_m a0 a1_0 = some r) {F0 : Nat → Prop} {w0 : World} {z0 : Value} (ha0 : rdS F0 w0 a0 z0) {b1_0p : Nat} (ha1_0 : CapP F0 w0 b1_0p a1_0) :
    Ret Try.prog 160 #[z0, .func (.func 111) #[] #[.pointer (some ⟨b1_0p, 0, none⟩)]] w0 (fun _ => False) fun v w => v = .int .i64 r ∧ I64 r := by
  obtain ⟨A0', n0', c0', rfl⟩ := ha0.form3
  have H := (HL.start F0 w0).argS ha0
  obtain ⟨cpa1_0, H⟩ := H.argP ha1_0
  obtain ⟨A1, n1, c1, rfl, hI1, H⟩ := op_Relation H (i := 2) rfl
  refine enter Try.func160 rfl rfl rfl ?_
  refine CW.seq (CW.reg ?_)
  refine WL.ev rfl rfl (Ev.as rfl rfl) (WL.nil ?_)
  refine CW.seq (CW.seq (CW.reg ?_))
  refine WL.ev rfl rfl (Ev.mv rfl rfl) ?_
  have hl1 := (H.rS (i := 0) rfl).I
  refine WL.ev rfl rfl (Ev.lenV rfl el41 rfl (H.rS (i := 0) rfl)) (WL.ev rfl rfl (Ev.mv rfl rfl) (WL.nil ?_))
  obtain ⟨q1, hq1, hr⟩ := bd hr
  refine CW.block (CW.loop (α := Nat) (fun k1 => [(0, .slice A0' n0' c0'), (1, .func (.func 111) #[] #[.pointer (some ⟨b1_0p, 0, none⟩)]), (7, .int .i64 (a0.length : Int)), (8, .int .i64 (k1 : Int))]) (fun k1 w => k1 ≤ a0.length ∧ findL (slices_IndexFunc_int_iIsValidRelation_1_L1 a1_0) k1 (a0.drop k1) () = some q1 ∧ HL F0 [] w0 w [Pr.S a0 (.slice A0' n0' c0'), Pr.A b1_0p 0 [.int .i64 a1_0.N, .slice A1 n1 c1], Pr.R a1_0 [.int .i64 a1_0.N, .slice A1 n1 c1], Pr.S a1_0.Rows (.slice A1 n1 c1)] []) (fun k1 => a0.length - k1) 0 ⟨rfl, rfl, rfl, rfl, trivial⟩ ⟨Nat.zero_le _, hq1, H.keep 4 0⟩ ?_)
  rintro k1 σ w1 ⟨hk1, hq1, H⟩
  refine CW.seq (CW.reg ?_)
  refine WL.ev rfl rfl (Ev.bin rfl rfl rfl Bin.lss) (WL.nil ?_)
  refine CW.seq (CW.condD rfl (fun h1 => ?_) (fun h1 => ?_))
  · skip
    have hk2 := cast_lt h1
    obtain ⟨x1, z1, hx1, hb1, hs1, ht1⟩ := findL_go hq1 hk2
    refine CW.skip ?_
    refine CW.seq (CW.block (CW.seq (CW.reg ?_)))
    refine WL.ev rfl rfl (Ev.mv rfl rfl) (WL.ev rfl rfl (Ev.as rfl rfl) (WL.nil ?_))
    refine CW.seq (CW.reg ?_)
    refine WL.ev rfl rfl (Ev.mv rfl rfl) (WL.ev rfl rfl (Ev.mv rfl rfl) (WL.ev rfl rfl (Ev.mv rfl rfl) ?_))
    obtain ⟨b1, ob1, cb1, hvb1, hI2, H⟩ := ixS_Int H (i := 0) rfl hx1
    refine WL.ev rfl rfl (Ev.ixVN rfl el41 sz3 rfl hvb1 rfl (lt_of hx1)) (WL.ev rfl rfl (Ev.ld rfl ag3 rfl ((H.rA (i := 4) rfl).cell0 rfl)) ?_)
    obtain ⟨y1, hy1, hb1⟩ := bd hb1
    refine WL.call rfl rfl rfl rfl rfl ok111 rfl (iIsValidRelation_1_ok hy1 (F0 := fun q => q < _) hI2 ⟨H.rAl (i := 1) rfl, _, H.rA (i := 1) rfl, ⟨_, rfl, hI1, (H.rS (i := 3) rfl)⟩⟩) ?_
    rintro _ w2 hE rfl
    have H := H.ext hE
    refine WL.nil ?_
    refine CW.condB rfl (fun h2 => ?_) (fun h2 => ?_)
    · skip
      have hb1 := ifp h2 hb1
      refine CW.seq (CW.reg ?_)
      refine WL.ev rfl rfl (Ev.mv rfl rfl) (WL.ev rfl rfl (Ev.as rfl rfl) (WL.nil ?_))
      refine CW.ret ?_
      obtain rfl := sm hb1
      obtain rfl := ht1 _ rfl
      obtain rfl := sm hr
      exact ⟨_, res1 rfl rfl rfl, H.ext0, rfl, (i64_nat hk2 hl1)⟩
    · skip
      have hb1 := ifn h2 hb1
      refine CW.skip ?_
      refine CW.reg ?_
      refine WL.ev rfl rfl (Ev.bin rfl rfl rfl (Bin.addN (a := k1) (b := 1) rfl (i64_succN hk2 hl1.2))) (WL.ev rfl rfl (Ev.mv rfl rfl) (WL.nil ?_))
      obtain rfl := sm hb1
      have hq1 := hs1 _ rfl
      exact ⟨(k1 + 1), ⟨rfl, rfl, rfl, rfl, trivial⟩, ⟨hk2, hq1, H.keep 4 0⟩, Nat.sub_lt_sub_left hk2 (Nat.lt_succ_self _)⟩
  · skip
    obtain rfl := findL_end hq1 (not_cast_lt h1)
    have hr := (onr_inl _ _ _).symm.trans hr
    refine CW.exit ?_
    refine CW.seq (CW.reg ?_)
    refine WL.ev rfl rfl (Ev.as rfl rfl) (WL.nil ?_)
    refine CW.ret ?_
    obtain rfl := sm hr
    exact ⟨_, res1 rfl rfl rfl, H.ext0, rfl, (by decide : I64 (-1))⟩

noncomputable def slices_ContainsFunc_int_iIsValidRelation_1_m (a0 : (List Int)) (a1_0 : Relation) : Option Bool :=
  (slices_IndexFunc_int_iIsValidRelation_1_m a0 a1_0).bind fun y1 =>
  some (decide (0 ≤ y1))
theorem slices_ContainsFunc_int_iIsValidRelation_1_ok {a0 : (List Int)} {a1_0 : Relation} {r : Bool} (hr : slices_ContainsFunc_int_iIsValidRelation_1_m a0 a1_0 = some r) {F0 : Nat → Prop} {w0 : World} {z0 : Value} (ha0 : rdS F0 w0 a0 z0) {b1_0p : Nat} (ha1_0 : CapP F0 w0 b1_0p a1_0) :
    Ret Try.prog 110 #[z0, .func (.func 111) #[] #[.pointer (some ⟨b1_0p, 0, none⟩)]] w0 (fun _ => False) fun v w => v = .bool r := by
  obtain ⟨A0', n0', c0', rfl⟩ := ha0.form3
  have H := (HL.start F0 w0).argS ha0
  obtain ⟨cpa1_0, H⟩ := H.argP ha1_0
  obtain ⟨A1, n1, c1, rfl, hI1, H⟩ := op_Relation H (i := 2) rfl
  refine enter Try.func110 rfl rfl rfl ?_
  refine CW.seq (CW.reg ?_)
  refine WL.ev rfl rfl (Ev.as rfl rfl) (WL.nil ?_)
  refine CW.seq (CW.reg ?_)
  refine WL.ev rfl rfl (Ev.mv rfl rfl) (WL.ev rfl rfl (Ev.mv rfl rfl) ?_)
  obtain ⟨y1, hy1, hr⟩ := bd hr
  refine WL.call rfl rfl rfl rfl rfl ok160 rfl (slices_IndexFunc_int_iIsValidRelation_1_ok hy1 (H.rS (i := 0) rfl) ⟨H.rAl (i := 1) rfl, _, H.rA (i := 1) rfl, ⟨_, rfl, hI1, (H.rS (i := 3) rfl)⟩⟩) ?_
  rintro _ w1 hE ⟨rfl, hI2⟩
  have H := H.ext hE
  refine WL.ev rfl rfl (Ev.bin rfl rfl rfl Bin.geq) (WL.ev rfl rfl (Ev.as rfl rfl) (WL.nil ?_))
  refine CW.ret ?_
  obtain rfl := sm hr
  exact ⟨_, res1 rfl rfl rfl, H.ext0, rfl⟩

noncomputable def iIsValidRelation_m (a0 : Relation) : Option Bool :=
  (iwithin_m a0.N 0 16).bind fun y1 =>
  (
  if y1 = true then (
  some (decide ((a0.Rows.length : Int) = a0.N))
  ) else (
  some false
  )
  ).bind fun s1 =>
  (
  if s1 = true then (
  (slices_ContainsFunc_int_iIsValidRelation_1_m a0.Rows a0).bind fun y2 =>
  some (!y2)
  ) else (
  some false
  )
  ).bind fun s2 =>
  some s2
theorem iIsValidRelation_ok {a0 : Relation} {r : Bool} (hr : iIsValidRelation_m a0 = some r) {F0 : Nat → Prop} {w0 : World} {ca0 : List Value} (ha0 : rd F0 w0 a0 ca0) :
    Ret Try.prog 39 #[.agg ca0.toArray] w0 (fun _ => False) fun v w => v = .bool r := by
  have H := (HL.start F0 w0).argR ha0
  obtain ⟨A1, n1, c1, rfl, hI1, H⟩ := op_Relation H (i := 0) rfl
  refine enter Try.func39 rfl rfl rfl ?_
  refine CW.seq (CW.reg ?_)
  refine WL.boxH rfl rfl rfl rfl rfl H fun b1 w1 H => ?_
  refine WL.ev rfl rfl (Ev.as rfl rfl) (WL.nil ?_)
  refine CW.seq (CW.reg ?_)
  refine WL.ev rfl rfl (Ev.fa rfl fo60_0 rfl) (WL.ev rfl rfl (Ev.ld rfl ag3 rfl ((H.rB (i := 0) rfl).cell rfl)) ?_)
  obtain ⟨y1, hy1, hr⟩ := bd hr
  refine WL.call rfl rfl rfl rfl rfl ok109 rfl (iwithin_ok hy1 (F0 := fun _ => False) hI1 (by decide : I64 0) (by decide : I64 16)) ?_
  rintro _ w2 hE rfl
  have H := H.ext hE
  obtain ⟨q1, hm1, hr⟩ := bd hr
  refine WL.cut 8 (fun ρ' w => ∃ (s1 : Bool), s1 = q1 ∧ agree ρ' [(1, .pointer (some ⟨b1, 0, none⟩)), (2, .bool false), (13, .bool s1)] ∧ HL F0 [] w0 w [Pr.R a0 [.int .i64 a0.N, .slice A1 n1 c1], Pr.S a0.Rows (.slice A1 n1 c1)] [It.B b1 60 [.int .i64 a0.N, .slice A1 n1 c1]]) ?_ ?_
  · skip
    refine WL.mvB rfl rfl rfl rfl (fun h1 => ?_) (fun h1 => ?_)
    · skip
      have hm1 := ifp h1 hm1
      refine WL.on rfl rfl (WL.ev rfl rfl (Ev.fa rfl fo60_1 rfl) (WL.on rfl rfl (WL.ev rfl rfl (Ev.ld rfl ag41 rfl ((H.rB (i := 0) rfl).cell rfl)) (WL.on rfl rfl ?_))))
      have hl1 := (H.rS (i := 1) rfl).I
      refine WL.ev rfl rfl (Ev.lenV rfl el41 rfl (H.rS (i := 1) rfl)) (WL.on rfl rfl (WL.ev rfl rfl (Ev.fa rfl fo60_0 rfl) (WL.on rfl rfl (WL.ev rfl rfl (Ev.ld rfl ag3 rfl ((H.rB (i := 0) rfl).cell rfl)) (WL.on rfl rfl (WL.ev rfl rfl (Ev.bin rfl rfl rfl Bin.eql) (WL.ev rfl rfl (Ev.pickT rfl rfl rfl) (WL.nil ?_))))))))
      obtain rfl := sm hm1
      exact ⟨(decide ((a0.Rows.length : Int) = a0.N)), rfl, ⟨rfl, rfl, rfl, trivial⟩, H.keep 2 1⟩
    · skip
      have hm1 := ifn h1 hm1
      refine WL.off rfl rfl rfl (WL.off rfl rfl rfl (WL.off rfl rfl rfl (WL.off rfl rfl rfl (WL.off rfl rfl rfl (WL.off rfl rfl rfl (WL.ev rfl rfl (Ev.pickF rfl rfl rfl) (WL.nil ?_)))))))
      obtain rfl := sm hm1
      exact ⟨false, rfl, ⟨rfl, rfl, rfl, trivial⟩, H.keep 2 1⟩
  · rintro ρ' w3 ⟨s1, rfl, hag, H⟩
    obtain ⟨σ, rfl⟩ := ofL_ex hag
    obtain ⟨q2, hm2, hr⟩ := bd hr
    refine WL.cut 7 (fun ρ' w => ∃ (s2 : Bool), s2 = q2 ∧ agree ρ' [(2, .bool false), (20, .bool s2)] ∧ HL F0 [] w0 w [Pr.R a0 [.int .i64 a0.N, .slice A1 n1 c1], Pr.S a0.Rows (.slice A1 n1 c1)] [It.B b1 60 [.int .i64 a0.N, .slice A1 n1 c1]]) ?_ ?_
    · skip
      refine WL.mvB rfl rfl rfl rfl (fun h2 => ?_) (fun h2 => ?_)
      · skip
        have hm2 := ifp h2 hm2
        refine WL.on rfl rfl (WL.ev rfl rfl (Ev.fa rfl fo60_1 rfl) (WL.on rfl rfl (WL.ev rfl rfl (Ev.ld rfl ag41 rfl ((H.rB (i := 0) rfl).cell rfl)) (WL.on rfl rfl (WL.ev rfl rfl (Ev.mkfL rfl rfl rfl) (WL.on rfl rfl ?_))))))
        obtain ⟨y2, hy2, hm2⟩ := bd hm2
        refine WL.call rfl rfl rfl rfl rfl ok110 rfl (slices_ContainsFunc_int_iIsValidRelation_1_ok hy2 (H.rS (i := 1) rfl) ⟨(H.rB (i := 0) rfl).lt, _, At.blk (H.rB (i := 0) rfl), ⟨_, rfl, hI1, (H.rS (i := 1) rfl)⟩⟩) ?_
        rintro _ w4 hE rfl
        have H := H.ext hE
        refine WL.on rfl rfl (WL.ev rfl rfl (Ev.not rfl rfl) (WL.ev rfl rfl (Ev.pickT rfl rfl rfl) (WL.nil ?_)))
        obtain rfl := sm hm2
        exact ⟨(!y2), rfl, ⟨rfl, rfl, trivial⟩, H.keep 2 1⟩
      · skip
        have hm2 := ifn h2 hm2
        refine WL.off rfl rfl rfl (WL.off rfl rfl rfl (WL.off rfl rfl rfl (WL.off rfl rfl rfl (WL.off rfl rfl rfl (WL.ev rfl rfl (Ev.pickF rfl rfl rfl) (WL.nil ?_))))))
        obtain rfl := sm hm2
        exact ⟨false, rfl, ⟨rfl, rfl, trivial⟩, H.keep 2 1⟩
    · rintro ρ' w5 ⟨s2, rfl, hag, H⟩
      obtain ⟨σ, rfl⟩ := ofL_ex hag
      refine WL.ev rfl rfl (Ev.as rfl rfl) (WL.nil ?_)
      refine CW.ret ?_
      obtain rfl := sm hr
      exact ⟨_, res1 rfl rfl rfl, H.ext0, rfl⟩

noncomputable def iCloseRelation_L2 (k1 : Nat) : Nat → (List Int) → Option (List Int) := fun k2 s2 => 
  (
  (s2[k2]?).bind fun x1 =>
  grd (0 ≤ x1 ∧ 0 ≤ (k1 : Int) ∧ (k1 : Int) < 64) <|
  grd (0 ≤ ((x1.toNat >>> (k1 : Int).toNat : Nat) : Int) ∧ 0 ≤ (1 : Int)) <|
  if ((((x1.toNat >>> (k1 : Int).toNat : Nat) : Int).toNat &&& (1 : Int).toNat : Nat) : Int) = 1 then (
  (s2[k1]?).bind fun x2 =>
  grd (0 ≤ x1 ∧ 0 ≤ x2) <|
  some (List.set s2 k2 ((x1.toNat ||| x2.toNat : Nat) : Int))
  ) else (
  some s2
  )
  ).bind fun s3 =>
  some s3
noncomputable def iCloseRelation_L1 : Nat → (List Int) → Option (List Int) := fun k1 s1 => 
  (eachN (iCloseRelation_L2 k1) 0 (s1.length) s1).bind fun s2 =>
  some s2
noncomputable def iCloseRelation_m (a0 : Relation) : Option Relation :=
  (icopyRelation_m a0).bind fun y1 =>
  (iIsValidRelation_m a0).bind fun y2 =>
  if y2 = true then (
  (eachN iCloseRelation_L1 0 (y1.Rows.length) y1.Rows).bind fun s1 =>
  some (⟨y1.N, s1⟩ : Relation)
  ) else (
  some y1
  )
theorem iCloseRelation_ok {a0 : Relation} {r : Relation} (hr : iCloseRelation_m a0 = some r) {F0 : Nat → Prop} {w0 : World} {ca0 : List Value} (ha0 : rd F0 w0 a0 ca0) :
    Ret Try.prog 36 #[.agg ca0.toArray] w0 (fun _ => False) fun v w => ∃ A0 : Option Addr, ∃ n0 c0 : Nat, v = .agg #[.int .i64 r.N, (.slice A0 n0 c0)] ∧ I64 r.N ∧ HL F0 [] w0 w [] [It.O 3 r.Rows (.slice A0 n0 c0)] := by
  have H := (HL.start F0 w0).argR ha0
  obtain ⟨A1, n1, c1, rfl, hI1, H⟩ := op_Relation H (i := 0) rfl
  refine enter Try.func36 rfl rfl rfl ?_
  refine CW.seq (CW.reg ?_)
  refine WL.boxH rfl rfl rfl rfl rfl H fun b1 w1 H => ?_
  refine WL.allocH rfl rfl rfl ze60 H fun b2 w2 H => ?_
  refine WL.nil ?_
  refine CW.seq (CW.reg ?_)
  refine WL.ev rfl rfl (Ev.lda rfl ag60 sz60 rfl (At.blk (H.rB (i := 0) rfl)) rfl) ?_
  obtain ⟨y1, hy1, hr⟩ := bd hr
  refine WL.call rfl rfl rfl rfl rfl ok106 rfl (icopyRelation_ok hy1 ⟨_, rfl, hI1, (H.rS (i := 1) rfl)⟩) ?_
  rintro _ w3 hE ⟨A2, n2, c2, rfl, hI2, H'⟩
  have H := H.callA H' ⟨fun _ _ _ _ _ h => h, trivial⟩
  refine WL.allocH rfl rfl rfl ze60 H fun b3 w4 H => ?_
  refine WL.stB (i := 3) rfl rfl rfl sz60 rfl rfl rfl rfl (all1 rfl (all1 rfl all0)) H rfl rfl rfl fun w5 H => ?_
  refine WL.nil ?_
  refine CW.seq (CW.seq (CW.reg ?_))
  refine WL.ev rfl rfl (Ev.lda rfl ag60 sz60 rfl (At.blk (H.rB (i := 0) rfl)) rfl) ?_
  obtain ⟨y2, hy2, hr⟩ := bd hr
  refine WL.call rfl rfl rfl rfl rfl ok39 rfl (iIsValidRelation_ok hy2 ⟨_, rfl, hI1, (H.rS (i := 1) rfl)⟩) ?_
  rintro _ w6 hE rfl
  have H := H.ext hE
  refine WL.ev rfl rfl (Ev.not rfl rfl) (WL.nil ?_)
  refine CW.condBN rfl (fun h1 => ?_) (fun h1 => ?_)
  · skip
    have hr := ifn h1 hr
    refine CW.seq (CW.reg ?_)
    refine WL.ev rfl rfl (Ev.lda rfl ag60 sz60 rfl (At.blk (H.rB (i := 3) rfl)) rfl) ?_
    refine WL.stB (i := 1) rfl rfl rfl sz60 rfl rfl rfl rfl (all1 rfl (all1 rfl all0)) H rfl rfl rfl fun w7 H => ?_
    refine WL.nil ?_
    refine CW.ret ?_
    obtain rfl := sm hr
    exact ⟨_, resC rfl ag60 sz60 rfl rfl (At.blk (H.rB (i := 1) rfl)) rfl, H.ext0, _, _, _, rfl, hI2, H.outM (fr' := []) [false, false, true, false] fun _ _ => trivial⟩
  · skip
    have hr := ifp h1 hr
    refine CW.skip ?_
    refine CW.seq (CW.seq (CW.reg ?_))
    refine WL.ev rfl rfl (Ev.fa rfl fo60_1 rfl) (WL.ev rfl rfl (Ev.ld rfl ag41 rfl ((H.rB (i := 3) rfl).cell rfl)) ?_)
    have hl1 := (H.rO (i := 2) rfl).I
    refine WL.ev rfl rfl (Ev.lenV rfl el41 rfl (H.rO (i := 2) rfl)) (WL.ev rfl rfl (Ev.mv rfl rfl) (WL.nil ?_))
    obtain ⟨q1, hq1, hr⟩ := bd hr
    refine CW.block (CW.loop (α := Nat × (List Int) × Value) (fun ⟨k1, s1, v1⟩ => [(2, .pointer (some ⟨b2, 0, none⟩)), (3, .pointer (some ⟨b3, 0, none⟩)), (14, .int .i64 (y1.Rows.length : Int)), (15, .int .i64 (k1 : Int))]) (fun ⟨k1, s1, v1⟩ w => k1 ≤ y1.Rows.length ∧ eachN iCloseRelation_L1 k1 (y1.Rows.length - k1) s1 = some q1 ∧ HL F0 [] w0 w [Pr.R a0 [.int .i64 a0.N, .slice A1 n1 c1], Pr.S a0.Rows (.slice A1 n1 c1)] [It.B b1 60 [.int .i64 a0.N, .slice A1 n1 c1], It.B b2 60 [.int .i64 0, .slice none 0 0], It.O 3 s1 v1, It.B b3 60 [.int .i64 y1.N, v1]]) (fun ⟨k1, s1, v1⟩ => y1.Rows.length - k1) ⟨0, y1.Rows, (.slice A2 n2 c2)⟩ ⟨rfl, rfl, rfl, rfl, trivial⟩ ⟨Nat.zero_le _, hq1, H.keep 2 4⟩ ?_)
    rintro ⟨k1, s1, v1⟩ σ w8 ⟨hk1, hq1, H⟩
    obtain ⟨A3, n3, c3, rfl⟩ := (H.rO (i := 2) rfl).form3
    refine CW.seq (CW.reg ?_)
    refine WL.ev rfl rfl (Ev.bin rfl rfl rfl Bin.lss) (WL.nil ?_)
    refine CW.seq (CW.condD rfl (fun h2 => ?_) (fun h2 => ?_))
    · skip
      have hk2 := cast_lt h2
      obtain ⟨z1, hb1, hq1⟩ := eachN_go hq1 hk2
      refine CW.skip ?_
      refine CW.seq (CW.block (CW.seq (CW.reg ?_)))
      refine WL.ev rfl rfl (Ev.mv rfl rfl) (WL.ev rfl rfl (Ev.as rfl rfl) (WL.nil ?_))
      refine CW.seq (CW.reg ?_)
      refine WL.ev rfl rfl (Ev.fa rfl fo60_1 rfl) (WL.ev rfl rfl (Ev.ld rfl ag41 rfl ((H.rB (i := 3) rfl).cell rfl)) ?_)
      have hl2 := (H.rO (i := 2) rfl).I
      refine WL.ev rfl rfl (Ev.lenV rfl el41 rfl (H.rO (i := 2) rfl)) (WL.ev rfl rfl (Ev.mv rfl rfl) (WL.nil ?_))
      obtain ⟨q2, hq2, hb1⟩ := bd hb1
      refine CW.block (CW.loop (α := Nat × (List Int) × Value) (fun ⟨k2, s2, v2⟩ => [(2, .pointer (some ⟨b2, 0, none⟩)), (3, .pointer (some ⟨b3, 0, none⟩)), (4, .int .i64 (k1 : Int)), (14, .int .i64 (y1.Rows.length : Int)), (15, .int .i64 (k1 : Int)), (20, .int .i64 (s1.length : Int)), (21, .int .i64 (k2 : Int))]) (fun ⟨k2, s2, v2⟩ w => k2 ≤ s1.length ∧ eachN (iCloseRelation_L2 k1) k2 (s1.length - k2) s2 = some q2 ∧ HL F0 [] w0 w [Pr.R a0 [.int .i64 a0.N, .slice A1 n1 c1], Pr.S a0.Rows (.slice A1 n1 c1)] [It.B b1 60 [.int .i64 a0.N, .slice A1 n1 c1], It.B b2 60 [.int .i64 0, .slice none 0 0], It.O 3 s2 v2, It.B b3 60 [.int .i64 y1.N, v2]]) (fun ⟨k2, s2, v2⟩ => s1.length - k2) ⟨0, s1, (.slice A3 n3 c3)⟩ ⟨rfl, rfl, rfl, rfl, rfl, rfl, rfl, trivial⟩ ⟨Nat.zero_le _, hq2, H.keep 2 4⟩ ?_)
      rintro ⟨k2, s2, v2⟩ σ w9 ⟨hk3, hq2, H⟩
      obtain ⟨A4, n4, c4, rfl⟩ := (H.rO (i := 2) rfl).form3
      refine CW.seq (CW.reg ?_)
      refine WL.ev rfl rfl (Ev.bin rfl rfl rfl Bin.lss) (WL.nil ?_)
      refine CW.seq (CW.condD rfl (fun h3 => ?_) (fun h3 => ?_))
      · skip
        have hk4 := cast_lt h3
        obtain ⟨z2, hb2, hq2⟩ := eachN_go hq2 hk4
        refine CW.skip ?_
        obtain ⟨q3, hm1, hb2⟩ := bd hb2
        refine CW.seq (CW.mid (fun ρ' w => ∃ (s3 : List Int) (v3 : Value), s3 = q3 ∧ agree ρ' [(2, .pointer (some ⟨b2, 0, none⟩)), (3, .pointer (some ⟨b3, 0, none⟩)), (4, .int .i64 (k1 : Int)), (14, .int .i64 (y1.Rows.length : Int)), (15, .int .i64 (k1 : Int)), (20, .int .i64 (s1.length : Int)), (21, .int .i64 (k2 : Int))] ∧ HL F0 [] w0 w [Pr.R a0 [.int .i64 a0.N, .slice A1 n1 c1], Pr.S a0.Rows (.slice A1 n1 c1)] [It.B b1 60 [.int .i64 a0.N, .slice A1 n1 c1], It.B b2 60 [.int .i64 0, .slice none 0 0], It.O 3 s3 v3, It.B b3 60 [.int .i64 y1.N, v3]]) ?_ ?_)
        · skip
          refine CW.block (CW.seq (CW.reg ?_))
          refine WL.ev rfl rfl (Ev.mv rfl rfl) (WL.ev rfl rfl (Ev.as rfl rfl) (WL.nil ?_))
          refine CW.seq (CW.reg ?_)
          refine WL.ev rfl rfl (Ev.fa rfl fo60_1 rfl) (WL.ev rfl rfl (Ev.ld rfl ag41 rfl ((H.rB (i := 3) rfl).cell rfl)) (WL.ev rfl rfl (Ev.mv rfl rfl) ?_))
          obtain ⟨x1, hx1, hm1⟩ := bd hm1
          obtain ⟨b4, cb4, hvb4, hbb4⟩ := H.ptO (i := 2) rfl hx1
          refine WL.ev rfl rfl (Ev.ixVN rfl el41 sz3 rfl hvb4 rfl (lt_of hx1)) ?_
          obtain ⟨hA1, hI3, H⟩ := elO_Int H (i := 2) rfl hx1 hbb4
          refine WL.ev rfl rfl (Ev.ld rfl ag3 rfl (hA1.cell0 rfl)) (WL.ev rfl rfl (Ev.mv rfl rfl) (WL.ev rfl rfl (Ev.convUI rfl Try.underlying3 it130 rfl (Int.natCast_nonneg _) (i64_nat hk2 hl1).2) ?_))
          obtain ⟨hg1, hm1⟩ := grd_some hm1
          refine WL.ev rfl rfl (Ev.bin rfl rfl rfl (Bin.shrI hg1.1 hg1.2.1 hg1.2.2)) ?_
          obtain ⟨hg2, hm1⟩ := grd_some hm1
          refine WL.ev rfl rfl (Ev.bin rfl rfl rfl (Bin.andI hg2.1 (i64_shr hI3).2 hg2.2 (by decide : I64 1).2)) (WL.ev rfl rfl (Ev.bin rfl rfl rfl Bin.eql) (WL.nil ?_))
          refine CW.condD rfl (fun h4 => ?_) (fun h4 => ?_)
          · skip
            have hm1 := ifp h4 hm1
            refine CW.quietT 12 hmix (by kernel_rfl) ?_
            refine QL.ev rfl rfl (fun _ _ => Ev.fa rfl fo60_1 rfl) (QL.ev rfl rfl (fun _ hq => Ev.ld rfl ag41 rfl (((H.ext hq).rB (i := 3) rfl).cell rfl)) (QL.ev rfl rfl (fun _ _ => Ev.mv rfl rfl) ?_))
            obtain ⟨b5, cb5, hvb5, hbb5⟩ := H.ptO (i := 2) rfl hx1
            refine QL.ev rfl rfl (fun _ _ => Ev.ixVN rfl el41 sz3 rfl hvb5 rfl (lt_of hx1)) ?_
            obtain ⟨hA2, hI4, H⟩ := elO_Int H (i := 2) rfl hx1 hbb5
            refine QL.ev rfl rfl (fun _ hq => Ev.ld rfl ag3 rfl ((hA2.ext hq).cell0 rfl)) (QL.ev rfl rfl (fun _ _ => Ev.fa rfl fo60_1 rfl) (QL.ev rfl rfl (fun _ hq => Ev.ld rfl ag41 rfl (((H.ext hq).rB (i := 3) rfl).cell rfl)) (QL.ev rfl rfl (fun _ _ => Ev.mv rfl rfl) ?_)))
            obtain ⟨x2, hx2, hm1⟩ := bd hm1
            obtain ⟨b6, cb6, hvb6, hbb6⟩ := H.ptO (i := 2) rfl hx2
            refine QL.ev rfl rfl (fun _ _ => Ev.ixVN rfl el41 sz3 rfl hvb6 rfl (lt_of hx2)) ?_
            obtain ⟨hA3, hI5, H⟩ := elO_Int H (i := 2) rfl hx2 hbb6
            refine QL.ev rfl rfl (fun _ hq => Ev.ld rfl ag3 rfl ((hA3.ext hq).cell0 rfl)) ?_
            obtain ⟨hg3, hm1⟩ := grd_some hm1
            refine QL.ev rfl rfl (fun _ _ => Ev.bin rfl rfl rfl (Bin.orI hg3.1 hI4.2 hg3.2 hI5.2)) ?_
            obtain ⟨b7, cb7, hvb7, hbb7⟩ := H.ptO (i := 2) rfl hx1
            refine QL.ev rfl rfl (fun _ _ => Ev.ixVN rfl el41 sz3 rfl hvb7 rfl (lt_of hx1)) (QL.nil (fun w10 hE => ?_))
            have H := H.ext hE
            refine WL.stOf (i := 2) (z := ((x1.toNat ||| x2.toNat : Nat) : Int)) rfl rfl rfl sz3 rfl rfl rfl (fun _ => ⟨rfl, rfl, (i64_or hg3 hI4 hI5)⟩) H rfl hbb7 (by simpa using lt_of hx1) fun w11 H => ?_
            refine WL.nil ?_
            obtain rfl := sm hm1
            exact ⟨(List.set s2 k2 ((x1.toNat ||| x2.toNat : Nat) : Int)), _, rfl, ⟨rfl, rfl, rfl, rfl, rfl, rfl, rfl, trivial⟩, H.keep 2 4⟩
          · skip
            have hm1 := ifn h4 hm1
            refine CW.skip ?_
            obtain rfl := sm hm1
            exact ⟨s2, _, rfl, ⟨rfl, rfl, rfl, rfl, rfl, rfl, rfl, trivial⟩, H.keep 2 4⟩
        · rintro ρ' w12 ⟨s3, v3, rfl, hag, H⟩
          obtain ⟨σ, rfl⟩ := ofL_ex hag
          obtain ⟨A5, n5, c5, rfl⟩ := (H.rO (i := 2) rfl).form3
          refine CW.reg ?_
          refine WL.ev rfl rfl (Ev.bin rfl rfl rfl (Bin.addN (a := k2) (b := 1) rfl (i64_succN hk4 hl2.2))) (WL.ev rfl rfl (Ev.mv rfl rfl) (WL.nil ?_))
          obtain rfl := sm hb2
          exact ⟨⟨k2 + 1, s3, (.slice A5 n5 c5)⟩, ⟨rfl, rfl, rfl, rfl, rfl, rfl, rfl, trivial⟩, ⟨hk4, hq2, H.keep 2 4⟩, Nat.sub_lt_sub_left hk4 (Nat.lt_succ_self _)⟩
      · skip
        obtain rfl := eachN_end hq2 (not_cast_lt h3)
        refine CW.exit ?_
        refine CW.reg ?_
        refine WL.ev rfl rfl (Ev.bin rfl rfl rfl (Bin.addN (a := k1) (b := 1) rfl (i64_succN hk2 hl1.2))) (WL.ev rfl rfl (Ev.mv rfl rfl) (WL.nil ?_))
        obtain rfl := sm hb1
        exact ⟨⟨k1 + 1, s2, (.slice A4 n4 c4)⟩, ⟨rfl, rfl, rfl, rfl, trivial⟩, ⟨hk2, hq1, H.keep 2 4⟩, Nat.sub_lt_sub_left hk2 (Nat.lt_succ_self _)⟩
    · skip
      obtain rfl := eachN_end hq1 (not_cast_lt h2)
      refine CW.exit ?_
      refine CW.seq (CW.reg ?_)
      refine WL.ev rfl rfl (Ev.lda rfl ag60 sz60 rfl (At.blk (H.rB (i := 3) rfl)) rfl) ?_
      refine WL.stB (i := 1) rfl rfl rfl sz60 rfl rfl rfl rfl (all1 rfl (all1 rfl all0)) H rfl rfl rfl fun w13 H => ?_
      refine WL.nil ?_
      refine CW.ret ?_
      obtain rfl := sm hr
      exact ⟨_, resC rfl ag60 sz60 rfl rfl (At.blk (H.rB (i := 1) rfl)) rfl, H.ext0, _, _, _, rfl, hI2, H.outM (fr' := []) [false, false, true, false] fun _ _ => trivial⟩

noncomputable def sCloseRelation_L2 (k1 : Nat) : Nat → (List Int) → Option (List Int) := fun k2 s2 => 
  (
  (s2[k2]?).bind fun x1 =>
  grd (0 ≤ x1 ∧ 0 ≤ (k1 : Int) ∧ (k1 : Int) < 64) <|
  grd (0 ≤ ((x1.toNat >>> (k1 : Int).toNat : Nat) : Int) ∧ 0 ≤ (1 : Int)) <|
  if ((((x1.toNat >>> (k1 : Int).toNat : Nat) : Int).toNat &&& (1 : Int).toNat : Nat) : Int) = 1 then (
  (s2[k1]?).bind fun x2 =>
  grd (0 ≤ x1 ∧ 0 ≤ x2) <|
  some (List.set s2 k2 ((x1.toNat ||| x2.toNat : Nat) : Int))
  ) else (
  some s2
  )
  ).bind fun s3 =>
  some s3
noncomputable def sCloseRelation_L1 (a0 : Relation) : Nat → (List Int) → Option (List Int) := fun k1 s1 => 
  (eachN (sCloseRelation_L2 k1) 0 (a0.N.toNat) s1).bind fun s2 =>
  some s2
noncomputable def sCloseRelation_m (a0 : Relation) : Option Relation :=
  (sl22Copy_m a0).bind fun y1 =>
  (sIsValidRelation_m a0).bind fun y2 =>
  if y2 = true then (
  (eachN (sCloseRelation_L1 a0) 0 (a0.N.toNat) y1.Rows).bind fun s1 =>
  some (⟨y1.N, s1⟩ : Relation)
  ) else (
  some y1
  )
theorem sCloseRelation_ok {a0 : Relation} {r : Relation} (hr : sCloseRelation_m a0 = some r) {F0 : Nat → Prop} {w0 : World} {ca0 : List Value} (ha0 : rd F0 w0 a0 ca0) :
    Ret Try.prog 38 #[.agg ca0.toArray] w0 (fun _ => False) fun v w => ∃ A0 : Option Addr, ∃ n0 c0 : Nat, v = .agg #[.int .i64 r.N, (.slice A0 n0 c0)] ∧ I64 r.N ∧ HL F0 [] w0 w [] [It.O 3 r.Rows (.slice A0 n0 c0)] := by
  have H := (HL.start F0 w0).argR ha0
  obtain ⟨A1, n1, c1, rfl, hI1, H⟩ := op_Relation H (i := 0) rfl
  refine enter Try.func38 rfl rfl rfl ?_
  refine CW.seq (CW.reg ?_)
  refine WL.boxH rfl rfl rfl rfl rfl H fun b1 w1 H => ?_
  refine WL.allocH rfl rfl rfl ze60 H fun b2 w2 H => ?_
  refine WL.nil ?_
  refine CW.seq (CW.reg ?_)
  refine WL.ev rfl rfl (Ev.lda rfl ag60 sz60 rfl (At.blk (H.rB (i := 0) rfl)) rfl) ?_
  obtain ⟨y1, hy1, hr⟩ := bd hr
  refine WL.call rfl rfl rfl rfl rfl ok108 rfl (sl22Copy_ok hy1 ⟨_, rfl, hI1, (H.rS (i := 1) rfl)⟩) ?_
  rintro _ w3 hE ⟨A2, n2, c2, rfl, hI2, H'⟩
  have H := H.callA H' ⟨fun _ _ _ _ _ h => h, trivial⟩
  refine WL.allocH rfl rfl rfl ze60 H fun b3 w4 H => ?_
  refine WL.stB (i := 3) rfl rfl rfl sz60 rfl rfl rfl rfl (all1 rfl (all1 rfl all0)) H rfl rfl rfl fun w5 H => ?_
  refine WL.nil ?_
  refine CW.seq (CW.seq (CW.reg ?_))
  refine WL.ev rfl rfl (Ev.lda rfl ag60 sz60 rfl (At.blk (H.rB (i := 0) rfl)) rfl) ?_
  obtain ⟨y2, hy2, hr⟩ := bd hr
  refine WL.call rfl rfl rfl rfl rfl ok40 rfl (sIsValidRelation_ok hy2 ⟨_, rfl, hI1, (H.rS (i := 1) rfl)⟩) ?_
  rintro _ w6 hE rfl
  have H := H.ext hE
  refine WL.ev rfl rfl (Ev.not rfl rfl) (WL.nil ?_)
  refine CW.condBN rfl (fun h1 => ?_) (fun h1 => ?_)
  · skip
    have hr := ifn h1 hr
    refine CW.seq (CW.reg ?_)
    refine WL.ev rfl rfl (Ev.lda rfl ag60 sz60 rfl (At.blk (H.rB (i := 3) rfl)) rfl) ?_
    refine WL.stB (i := 1) rfl rfl rfl sz60 rfl rfl rfl rfl (all1 rfl (all1 rfl all0)) H rfl rfl rfl fun w7 H => ?_
    refine WL.nil ?_
    refine CW.ret ?_
    obtain rfl := sm hr
    exact ⟨_, resC rfl ag60 sz60 rfl rfl (At.blk (H.rB (i := 1) rfl)) rfl, H.ext0, _, _, _, rfl, hI2, H.outM (fr' := []) [false, false, true, false] fun _ _ => trivial⟩
  · skip
    have hr := ifp h1 hr
    refine CW.skip ?_
    refine CW.seq (CW.seq (CW.reg ?_))
    refine WL.ev rfl rfl (Ev.as rfl rfl) (WL.nil ?_)
    obtain ⟨q1, hq1, hr⟩ := bd hr
    refine CW.block (CW.loop (α := Nat × (List Int) × Value) (fun ⟨k1, s1, v1⟩ => [(1, .pointer (some ⟨b1, 0, none⟩)), (2, .pointer (some ⟨b2, 0, none⟩)), (3, .pointer (some ⟨b3, 0, none⟩)), (4, .int .i64 (k1 : Int))]) (fun ⟨k1, s1, v1⟩ w => k1 ≤ a0.N.toNat ∧ eachN (sCloseRelation_L1 a0) k1 (a0.N.toNat - k1) s1 = some q1 ∧ HL F0 [] w0 w [Pr.R a0 [.int .i64 a0.N, .slice A1 n1 c1], Pr.S a0.Rows (.slice A1 n1 c1)] [It.B b1 60 [.int .i64 a0.N, .slice A1 n1 c1], It.B b2 60 [.int .i64 0, .slice none 0 0], It.O 3 s1 v1, It.B b3 60 [.int .i64 y1.N, v1]]) (fun ⟨k1, s1, v1⟩ => a0.N.toNat - k1) ⟨0, y1.Rows, (.slice A2 n2 c2)⟩ ⟨rfl, rfl, rfl, rfl, trivial⟩ ⟨Nat.zero_le _, hq1, H.keep 2 4⟩ ?_)
    rintro ⟨k1, s1, v1⟩ σ w8 ⟨hk1, hq1, H⟩
    obtain ⟨A3, n3, c3, rfl⟩ := (H.rO (i := 2) rfl).form3
    refine CW.seq (CW.seq (CW.reg ?_))
    refine WL.ev rfl rfl (Ev.mv rfl rfl) (WL.ev rfl rfl (Ev.fa rfl fo60_0 rfl) (WL.ev rfl rfl (Ev.ld rfl ag3 rfl ((H.rB (i := 0) rfl).cell rfl)) (WL.ev rfl rfl (Ev.bin rfl rfl rfl Bin.lss) (WL.nil ?_))))
    refine CW.condD rfl (fun h2 => ?_) (fun h2 => ?_)
    · skip
      have hk2 := toNat_lt h2
      obtain ⟨z1, hb1, hq1⟩ := eachN_go hq1 hk2
      refine CW.skip ?_
      refine CW.seq (CW.block (CW.seq (CW.reg ?_)))
      refine WL.ev rfl rfl (Ev.as rfl rfl) (WL.nil ?_)
      obtain ⟨q2, hq2, hb1⟩ := bd hb1
      refine CW.block (CW.loop (α := Nat × (List Int) × Value) (fun ⟨k2, s2, v2⟩ => [(1, .pointer (some ⟨b1, 0, none⟩)), (2, .pointer (some ⟨b2, 0, none⟩)), (3, .pointer (some ⟨b3, 0, none⟩)), (4, .int .i64 (k1 : Int)), (5, .int .i64 (k2 : Int))]) (fun ⟨k2, s2, v2⟩ w => k2 ≤ a0.N.toNat ∧ eachN (sCloseRelation_L2 k1) k2 (a0.N.toNat - k2) s2 = some q2 ∧ HL F0 [] w0 w [Pr.R a0 [.int .i64 a0.N, .slice A1 n1 c1], Pr.S a0.Rows (.slice A1 n1 c1)] [It.B b1 60 [.int .i64 a0.N, .slice A1 n1 c1], It.B b2 60 [.int .i64 0, .slice none 0 0], It.O 3 s2 v2, It.B b3 60 [.int .i64 y1.N, v2]]) (fun ⟨k2, s2, v2⟩ => a0.N.toNat - k2) ⟨0, s1, (.slice A3 n3 c3)⟩ ⟨rfl, rfl, rfl, rfl, rfl, trivial⟩ ⟨Nat.zero_le _, hq2, H.keep 2 4⟩ ?_)
      rintro ⟨k2, s2, v2⟩ σ w9 ⟨hk3, hq2, H⟩
      obtain ⟨A4, n4, c4, rfl⟩ := (H.rO (i := 2) rfl).form3
      refine CW.seq (CW.seq (CW.reg ?_))
      refine WL.ev rfl rfl (Ev.mv rfl rfl) (WL.ev rfl rfl (Ev.fa rfl fo60_0 rfl) (WL.ev rfl rfl (Ev.ld rfl ag3 rfl ((H.rB (i := 0) rfl).cell rfl)) (WL.ev rfl rfl (Ev.bin rfl rfl rfl Bin.lss) (WL.nil ?_))))
      refine CW.condD rfl (fun h3 => ?_) (fun h3 => ?_)
      · skip
        have hk4 := toNat_lt h3
        obtain ⟨z2, hb2, hq2⟩ := eachN_go hq2 hk4
        refine CW.skip ?_
        obtain ⟨q3, hm1, hb2⟩ := bd hb2
        refine CW.seq (CW.mid (fun ρ' w => ∃ (s3 : List Int) (v3 : Value), s3 = q3 ∧ agree ρ' [(1, .pointer (some ⟨b1, 0, none⟩)), (2, .pointer (some ⟨b2, 0, none⟩)), (3, .pointer (some ⟨b3, 0, none⟩)), (4, .int .i64 (k1 : Int)), (5, .int .i64 (k2 : Int))] ∧ HL F0 [] w0 w [Pr.R a0 [.int .i64 a0.N, .slice A1 n1 c1], Pr.S a0.Rows (.slice A1 n1 c1)] [It.B b1 60 [.int .i64 a0.N, .slice A1 n1 c1], It.B b2 60 [.int .i64 0, .slice none 0 0], It.O 3 s3 v3, It.B b3 60 [.int .i64 y1.N, v3]]) ?_ ?_)
        · skip
          refine CW.block (CW.seq (CW.reg ?_))
          refine WL.ev rfl rfl (Ev.fa rfl fo60_1 rfl) (WL.ev rfl rfl (Ev.ld rfl ag41 rfl ((H.rB (i := 3) rfl).cell rfl)) (WL.ev rfl rfl (Ev.mv rfl rfl) ?_))
          obtain ⟨x1, hx1, hm1⟩ := bd hm1
          obtain ⟨b4, cb4, hvb4, hbb4⟩ := H.ptO (i := 2) rfl hx1
          refine WL.ev rfl rfl (Ev.ixVN rfl el41 sz3 rfl hvb4 rfl (lt_of hx1)) ?_
          obtain ⟨hA1, hI3, H⟩ := elO_Int H (i := 2) rfl hx1 hbb4
          refine WL.ev rfl rfl (Ev.ld rfl ag3 rfl (hA1.cell0 rfl)) (WL.ev rfl rfl (Ev.mv rfl rfl) (WL.ev rfl rfl (Ev.convUI rfl Try.underlying3 it130 rfl (Int.natCast_nonneg _) (i64_natI h2 hI1).2) ?_))
          obtain ⟨hg1, hm1⟩ := grd_some hm1
          refine WL.ev rfl rfl (Ev.bin rfl rfl rfl (Bin.shrI hg1.1 hg1.2.1 hg1.2.2)) ?_
          obtain ⟨hg2, hm1⟩ := grd_some hm1
          refine WL.ev rfl rfl (Ev.bin rfl rfl rfl (Bin.andI hg2.1 (i64_shr hI3).2 hg2.2 (by decide : I64 1).2)) (WL.ev rfl rfl (Ev.bin rfl rfl rfl Bin.eql) (WL.nil ?_))
          refine CW.condD rfl (fun h4 => ?_) (fun h4 => ?_)
          · skip
            have hm1 := ifp h4 hm1
            refine CW.quietT 15 hmix (by kernel_rfl) ?_
            refine QL.ev rfl rfl (fun _ _ => Ev.fa rfl fo60_1 rfl) (QL.ev rfl rfl (fun _ hq => Ev.ld rfl ag41 rfl (((H.ext hq).rB (i := 3) rfl).cell rfl)) (QL.ev rfl rfl (fun _ _ => Ev.mv rfl rfl) (QL.ev rfl rfl (fun _ _ => Ev.fa rfl fo60_1 rfl) (QL.ev rfl rfl (fun _ hq => Ev.ld rfl ag41 rfl (((H.ext hq).rB (i := 3) rfl).cell rfl)) (QL.ev rfl rfl (fun _ _ => Ev.mv rfl rfl) ?_)))))
            obtain ⟨b5, cb5, hvb5, hbb5⟩ := H.ptO (i := 2) rfl hx1
            refine QL.ev rfl rfl (fun _ _ => Ev.ixVN rfl el41 sz3 rfl hvb5 rfl (lt_of hx1)) ?_
            obtain ⟨hA2, hI4, H⟩ := elO_Int H (i := 2) rfl hx1 hbb5
            refine QL.ev rfl rfl (fun _ hq => Ev.ld rfl ag3 rfl ((hA2.ext hq).cell0 rfl)) (QL.ev rfl rfl (fun _ _ => Ev.fa rfl fo60_1 rfl) (QL.ev rfl rfl (fun _ hq => Ev.ld rfl ag41 rfl (((H.ext hq).rB (i := 3) rfl).cell rfl)) (QL.ev rfl rfl (fun _ _ => Ev.mv rfl rfl) ?_)))
            obtain ⟨x2, hx2, hm1⟩ := bd hm1
            obtain ⟨b6, cb6, hvb6, hbb6⟩ := H.ptO (i := 2) rfl hx2
            refine QL.ev rfl rfl (fun _ _ => Ev.ixVN rfl el41 sz3 rfl hvb6 rfl (lt_of hx2)) ?_
            obtain ⟨hA3, hI5, H⟩ := elO_Int H (i := 2) rfl hx2 hbb6
            refine QL.ev rfl rfl (fun _ hq => Ev.ld rfl ag3 rfl ((hA3.ext hq).cell0 rfl)) ?_
            obtain ⟨hg3, hm1⟩ := grd_some hm1
            refine QL.ev rfl rfl (fun _ _ => Ev.bin rfl rfl rfl (Bin.orI hg3.1 hI4.2 hg3.2 hI5.2)) ?_
            obtain ⟨b7, cb7, hvb7, hbb7⟩ := H.ptO (i := 2) rfl hx1
            refine QL.ev rfl rfl (fun _ _ => Ev.ixVN rfl el41 sz3 rfl hvb7 rfl (lt_of hx1)) (QL.nil (fun w10 hE => ?_))
            have H := H.ext hE
            refine WL.stOf (i := 2) (z := ((x1.toNat ||| x2.toNat : Nat) : Int)) rfl rfl rfl sz3 rfl rfl rfl (fun _ => ⟨rfl, rfl, (i64_or hg3 hI4 hI5)⟩) H rfl hbb7 (by simpa using lt_of hx1) fun w11 H => ?_
            refine WL.nil ?_
            obtain rfl := sm hm1
            exact ⟨(List.set s2 k2 ((x1.toNat ||| x2.toNat : Nat) : Int)), _, rfl, ⟨rfl, rfl, rfl, rfl, rfl, trivial⟩, H.keep 2 4⟩
          · skip
            have hm1 := ifn h4 hm1
            refine CW.skip ?_
            obtain rfl := sm hm1
            exact ⟨s2, _, rfl, ⟨rfl, rfl, rfl, rfl, rfl, trivial⟩, H.keep 2 4⟩
        · rintro ρ' w12 ⟨s3, v3, rfl, hag, H⟩
          obtain ⟨σ, rfl⟩ := ofL_ex hag
          obtain ⟨A5, n5, c5, rfl⟩ := (H.rO (i := 2) rfl).form3
          refine CW.reg ?_
          refine WL.ev rfl rfl (Ev.mv rfl rfl) (WL.ev rfl rfl (Ev.bin rfl rfl rfl (Bin.addN (a := k2) (b := 1) rfl (i64_succNI h3 hI1.2))) (WL.ev rfl rfl (Ev.as rfl rfl) (WL.nil ?_)))
          obtain rfl := sm hb2
          exact ⟨⟨k2 + 1, s3, (.slice A5 n5 c5)⟩, ⟨rfl, rfl, rfl, rfl, rfl, trivial⟩, ⟨hk4, hq2, H.keep 2 4⟩, Nat.sub_lt_sub_left hk4 (Nat.lt_succ_self _)⟩
      · skip
        obtain rfl := eachN_end hq2 (not_toNat_lt h3)
        refine CW.exit ?_
        refine CW.reg ?_
        refine WL.ev rfl rfl (Ev.mv rfl rfl) (WL.ev rfl rfl (Ev.bin rfl rfl rfl (Bin.addN (a := k1) (b := 1) rfl (i64_succNI h2 hI1.2))) (WL.ev rfl rfl (Ev.as rfl rfl) (WL.nil ?_)))
        obtain rfl := sm hb1
        exact ⟨⟨k1 + 1, s2, (.slice A4 n4 c4)⟩, ⟨rfl, rfl, rfl, rfl, trivial⟩, ⟨hk2, hq1, H.keep 2 4⟩, Nat.sub_lt_sub_left hk2 (Nat.lt_succ_self _)⟩
    · skip
      obtain rfl := eachN_end hq1 (not_toNat_lt h2)
      refine CW.exit ?_
      refine CW.seq (CW.reg ?_)
      refine WL.ev rfl rfl (Ev.lda rfl ag60 sz60 rfl (At.blk (H.rB (i := 3) rfl)) rfl) ?_
      refine WL.stB (i := 1) rfl rfl rfl sz60 rfl rfl rfl rfl (all1 rfl (all1 rfl all0)) H rfl rfl rfl fun w13 H => ?_
      refine WL.nil ?_
      refine CW.ret ?_
      obtain rfl := sm hr
      exact ⟨_, resC rfl ag60 sz60 rfl rfl (At.blk (H.rB (i := 1) rfl)) rfl, H.ext0, _, _, _, rfl, hI2, H.outM (fr' := []) [false, false, true, false] fun _ _ => trivial⟩

noncomputable def iHasPair_m (a0 : Relation) (a1 : Int) (a2 : Int) : Option Bool :=
  (iIsValidRelation_m a0).bind fun y1 =>
  (
  if y1 = true then (
  grd (I64 (a0.N - 1)) <|
  (iwithin_m a1 0 (a0.N - 1)).bind fun y2 =>
  some y2
  ) else (
  some false
  )
  ).bind fun s1 =>
  (
  if s1 = true then (
  grd (I64 (a0.N - 1)) <|
  (iwithin_m a2 0 (a0.N - 1)).bind fun y3 =>
  some y3
  ) else (
  some false
  )
  ).bind fun s2 =>
  (
  if s2 = true then (
  grd (0 ≤ a1) <|
  (a0.Rows[a1.toNat]?).bind fun x1 =>
  grd (0 ≤ a2) <|
  grd (0 ≤ x1 ∧ 0 ≤ a2 ∧ a2 < 64) <|
  grd (0 ≤ ((x1.toNat >>> a2.toNat : Nat) : Int) ∧ 0 ≤ (1 : Int)) <|
  some (decide (((((x1.toNat >>> a2.toNat : Nat) : Int).toNat &&& (1 : Int).toNat : Nat) : Int) = 1))
  ) else (
  some false
  )
  ).bind fun s3 =>
  some s3
theorem iHasPair_ok {a0 : Relation} {a1 : Int} {a2 : Int} {r : Bool} (hr : iHasPair_m a0 a1 a2 = some r) {F0 : Nat → Prop} {w0 : World} {ca0 : List Value} (ha0 : rd F0 w0 a0 ca0) (ha1 : I64 a1) (ha2 : I64 a2) :
    Ret Try.prog 43 #[.agg ca0.toArray, .int .i64 a1, .int .i64 a2] w0 (fun _ => False) fun v w => v = .bool r := by
  have H := (HL.start F0 w0).argR ha0
  obtain ⟨A1, n1, c1, rfl, hI1, H⟩ := op_Relation H (i := 0) rfl
  refine enter Try.func43 rfl rfl rfl ?_
  refine CW.seq (CW.reg ?_)
  refine WL.boxH rfl rfl rfl rfl rfl H fun b1 w1 H => ?_
  refine WL.ev rfl rfl (Ev.as rfl rfl) (WL.nil ?_)
  refine CW.seq (CW.reg ?_)
  refine WL.ev rfl rfl (Ev.lda rfl ag60 sz60 rfl (At.blk (H.rB (i := 0) rfl)) rfl) ?_
  obtain ⟨y1, hy1, hr⟩ := bd hr
  refine WL.call rfl rfl rfl rfl rfl ok39 rfl (iIsValidRelation_ok hy1 ⟨_, rfl, hI1, (H.rS (i := 1) rfl)⟩) ?_
  rintro _ w2 hE rfl
  have H := H.ext hE
  obtain ⟨q1, hm1, hr⟩ := bd hr
  refine WL.cut 7 (fun ρ' w => ∃ (s1 : Bool), s1 = q1 ∧ agree ρ' [(1, .int .i64 a1), (2, .int .i64 a2), (3, .pointer (some ⟨b1, 0, none⟩)), (6, .bool false), (15, .bool s1)] ∧ HL F0 [] w0 w [Pr.R a0 [.int .i64 a0.N, .slice A1 n1 c1], Pr.S a0.Rows (.slice A1 n1 c1)] [It.B b1 60 [.int .i64 a0.N, .slice A1 n1 c1]]) ?_ ?_
  · skip
    refine WL.mvB rfl rfl rfl rfl (fun h1 => ?_) (fun h1 => ?_)
    · skip
      have hm1 := ifp h1 hm1
      refine WL.on rfl rfl (WL.ev rfl rfl (Ev.mv rfl rfl) (WL.on rfl rfl (WL.ev rfl rfl (Ev.fa rfl fo60_0 rfl) (WL.on rfl rfl (WL.ev rfl rfl (Ev.ld rfl ag3 rfl ((H.rB (i := 0) rfl).cell rfl)) (WL.on rfl rfl ?_))))))
      obtain ⟨hg1, hm1⟩ := grd_some hm1
      refine WL.ev rfl rfl (Ev.bin rfl rfl rfl (Bin.sub hg1)) (WL.on rfl rfl ?_)
      obtain ⟨y2, hy2, hm1⟩ := bd hm1
      refine WL.call rfl rfl rfl rfl rfl ok109 rfl (iwithin_ok hy2 (F0 := fun _ => False) ha1 (by decide : I64 0) hg1) ?_
      rintro _ w3 hE rfl
      have H := H.ext hE
      refine WL.ev rfl rfl (Ev.pickT rfl rfl rfl) (WL.nil ?_)
      obtain rfl := sm hm1
      exact ⟨y2, rfl, ⟨rfl, rfl, rfl, rfl, rfl, trivial⟩, H.keep 2 1⟩
    · skip
      have hm1 := ifn h1 hm1
      refine WL.off rfl rfl rfl (WL.off rfl rfl rfl (WL.off rfl rfl rfl (WL.off rfl rfl rfl (WL.off rfl rfl rfl (WL.ev rfl rfl (Ev.pickF rfl rfl rfl) (WL.nil ?_))))))
      obtain rfl := sm hm1
      exact ⟨false, rfl, ⟨rfl, rfl, rfl, rfl, rfl, trivial⟩, H.keep 2 1⟩
  · rintro ρ' w4 ⟨s1, rfl, hag, H⟩
    obtain ⟨σ, rfl⟩ := ofL_ex hag
    obtain ⟨q2, hm2, hr⟩ := bd hr
    refine WL.cut 7 (fun ρ' w => ∃ (s2 : Bool), s2 = q2 ∧ agree ρ' [(1, .int .i64 a1), (2, .int .i64 a2), (3, .pointer (some ⟨b1, 0, none⟩)), (6, .bool false), (22, .bool s2)] ∧ HL F0 [] w0 w [Pr.R a0 [.int .i64 a0.N, .slice A1 n1 c1], Pr.S a0.Rows (.slice A1 n1 c1)] [It.B b1 60 [.int .i64 a0.N, .slice A1 n1 c1]]) ?_ ?_
    · skip
      refine WL.mvB rfl rfl rfl rfl (fun h2 => ?_) (fun h2 => ?_)
      · skip
        have hm2 := ifp h2 hm2
        refine WL.on rfl rfl (WL.ev rfl rfl (Ev.mv rfl rfl) (WL.on rfl rfl (WL.ev rfl rfl (Ev.fa rfl fo60_0 rfl) (WL.on rfl rfl (WL.ev rfl rfl (Ev.ld rfl ag3 rfl ((H.rB (i := 0) rfl).cell rfl)) (WL.on rfl rfl ?_))))))
        obtain ⟨hg2, hm2⟩ := grd_some hm2
        refine WL.ev rfl rfl (Ev.bin rfl rfl rfl (Bin.sub hg2)) (WL.on rfl rfl ?_)
        obtain ⟨y3, hy3, hm2⟩ := bd hm2
        refine WL.call rfl rfl rfl rfl rfl ok109 rfl (iwithin_ok hy3 (F0 := fun _ => False) ha2 (by decide : I64 0) hg2) ?_
        rintro _ w5 hE rfl
        have H := H.ext hE
        refine WL.ev rfl rfl (Ev.pickT rfl rfl rfl) (WL.nil ?_)
        obtain rfl := sm hm2
        exact ⟨y3, rfl, ⟨rfl, rfl, rfl, rfl, rfl, trivial⟩, H.keep 2 1⟩
      · skip
        have hm2 := ifn h2 hm2
        refine WL.off rfl rfl rfl (WL.off rfl rfl rfl (WL.off rfl rfl rfl (WL.off rfl rfl rfl (WL.off rfl rfl rfl (WL.ev rfl rfl (Ev.pickF rfl rfl rfl) (WL.nil ?_))))))
        obtain rfl := sm hm2
        exact ⟨false, rfl, ⟨rfl, rfl, rfl, rfl, rfl, trivial⟩, H.keep 2 1⟩
    · rintro ρ' w6 ⟨s2, rfl, hag, H⟩
      obtain ⟨σ, rfl⟩ := ofL_ex hag
      obtain ⟨q3, hm3, hr⟩ := bd hr
      refine WL.cut 12 (fun ρ' w => ∃ (s3 : Bool), s3 = q3 ∧ agree ρ' [(6, .bool false), (34, .bool s3)] ∧ HL F0 [] w0 w [Pr.R a0 [.int .i64 a0.N, .slice A1 n1 c1], Pr.S a0.Rows (.slice A1 n1 c1)] [It.B b1 60 [.int .i64 a0.N, .slice A1 n1 c1]]) ?_ ?_
      · skip
        refine WL.mvB rfl rfl rfl rfl (fun h3 => ?_) (fun h3 => ?_)
        · skip
          have hm3 := ifp h3 hm3
          refine WL.on rfl rfl (WL.ev rfl rfl (Ev.fa rfl fo60_1 rfl) (WL.on rfl rfl (WL.ev rfl rfl (Ev.ld rfl ag41 rfl ((H.rB (i := 0) rfl).cell rfl)) (WL.on rfl rfl (WL.ev rfl rfl (Ev.mv rfl rfl) (WL.on rfl rfl ?_))))))
          obtain ⟨hg3, hm3⟩ := grd_some hm3
          obtain ⟨x1, hx1, hm3⟩ := bd hm3
          obtain ⟨b2, ob2, cb2, hvb2, hI2, H⟩ := ixS_Int H (i := 1) rfl hx1
          refine WL.ev rfl rfl (Ev.ixV rfl el41 sz3 rfl hvb2 rfl hg3 (lt_of hx1)) (WL.on rfl rfl (WL.ev rfl rfl (Ev.ld rfl ag3 rfl ((H.rA (i := 2) rfl).cell0 rfl)) (WL.on rfl rfl (WL.ev rfl rfl (Ev.mv rfl rfl) (WL.on rfl rfl ?_)))))
          obtain ⟨hg4, hm3⟩ := grd_some hm3
          refine WL.ev rfl rfl (Ev.convUI rfl Try.underlying3 it130 rfl hg4 ha2.2) (WL.on rfl rfl ?_)
          obtain ⟨hg5, hm3⟩ := grd_some hm3
          refine WL.ev rfl rfl (Ev.bin rfl rfl rfl (Bin.shrI hg5.1 hg5.2.1 hg5.2.2)) (WL.on rfl rfl ?_)
          obtain ⟨hg6, hm3⟩ := grd_some hm3
          refine WL.ev rfl rfl (Ev.bin rfl rfl rfl (Bin.andI hg6.1 (i64_shr hI2).2 hg6.2 (by decide : I64 1).2)) (WL.on rfl rfl (WL.ev rfl rfl (Ev.bin rfl rfl rfl Bin.eql) (WL.ev rfl rfl (Ev.pickT rfl rfl rfl) (WL.nil ?_))))
          obtain rfl := sm hm3
          exact ⟨(decide (((((x1.toNat >>> a2.toNat : Nat) : Int).toNat &&& (1 : Int).toNat : Nat) : Int) = 1)), rfl, ⟨rfl, rfl, trivial⟩, H.keep 2 1⟩
        · skip
          have hm3 := ifn h3 hm3
          refine WL.off rfl rfl rfl (WL.off rfl rfl rfl (WL.off rfl rfl rfl (WL.off rfl rfl rfl (WL.off rfl rfl rfl (WL.off rfl rfl rfl (WL.off rfl rfl rfl (WL.off rfl rfl rfl (WL.off rfl rfl rfl (WL.off rfl rfl rfl (WL.ev rfl rfl (Ev.pickF rfl rfl rfl) (WL.nil ?_)))))))))))
          obtain rfl := sm hm3
          exact ⟨false, rfl, ⟨rfl, rfl, trivial⟩, H.keep 2 1⟩
      · rintro ρ' w7 ⟨s3, rfl, hag, H⟩
        obtain ⟨σ, rfl⟩ := ofL_ex hag
        refine WL.ev rfl rfl (Ev.as rfl rfl) (WL.nil ?_)
        refine CW.ret ?_
        obtain rfl := sm hr
        exact ⟨_, res1 rfl rfl rfl, H.ext0, rfl⟩

noncomputable def iHasLoop_L1 (y1 : Relation) : Nat → Int → Unit → Option (Unit ⊕ Bool) := fun k1 x1 _ => 
  (iHasPair_m y1 (k1 : Int) (k1 : Int)).bind fun y2 =>
  if y2 = true then (
  some (.inr true)
  ) else (
  some (.inl ())
  )
noncomputable def iHasLoop_m (a0 : Relation) : Option Bool :=
  (iCloseRelation_m a0).bind fun y1 =>
  (findL (iHasLoop_L1 y1) 0 y1.Rows ()).bind <| onr (fun r1 => some r1) fun _ =>
  some false
theorem iHasLoop_ok {a0 : Relation} {r : Bool} (hr : iHasLoop_m a0 = some r) {F0 : Nat → Prop} {w0 : World} {ca0 : List Value} (ha0 : rd F0 w0 a0 ca0) :
    Ret Try.prog 42 #[.agg ca0.toArray] w0 (fun _ => False) fun v w => v = .bool r := by
  have H := (HL.start F0 w0).argR ha0
  obtain ⟨A1, n1, c1, rfl, hI1, H⟩ := op_Relation H (i := 0) rfl
  refine enter Try.func42 rfl rfl rfl ?_
  refine CW.seq (CW.reg ?_)
  refine WL.boxH rfl rfl rfl rfl rfl H fun b1 w1 H => ?_
  refine WL.ev rfl rfl (Ev.as rfl rfl) (WL.nil ?_)
  refine CW.seq (CW.reg ?_)
  refine WL.ev rfl rfl (Ev.lda rfl ag60 sz60 rfl (At.blk (H.rB (i := 0) rfl)) rfl) ?_
  obtain ⟨y1, hy1, hr⟩ := bd hr
  refine WL.call rfl rfl rfl rfl rfl ok36 rfl (iCloseRelation_ok hy1 ⟨_, rfl, hI1, (H.rS (i := 1) rfl)⟩) ?_
  rintro _ w2 hE ⟨A2, n2, c2, rfl, hI2, H'⟩
  have H := H.callA H' ⟨fun _ _ _ _ _ h => h, trivial⟩
  refine WL.allocH rfl rfl rfl ze60 H fun b2 w3 H => ?_
  refine WL.stB (i := 2) rfl rfl rfl sz60 rfl rfl rfl rfl (all1 rfl (all1 rfl all0)) H rfl rfl rfl fun w4 H => ?_
  refine WL.nil ?_
  refine CW.seq (CW.seq (CW.reg ?_))
  refine WL.ev rfl rfl (Ev.fa rfl fo60_1 rfl) (WL.ev rfl rfl (Ev.ld rfl ag41 rfl ((H.rB (i := 2) rfl).cell rfl)) ?_)
  have hl1 := (H.rO (i := 1) rfl).I
  refine WL.ev rfl rfl (Ev.lenV rfl el41 rfl (H.rO (i := 1) rfl)) (WL.ev rfl rfl (Ev.mv rfl rfl) (WL.nil ?_))
  obtain ⟨q1, hq1, hr⟩ := bd hr
  refine CW.block (CW.loop (α := Nat) (fun k1 => [(3, .pointer (some ⟨b2, 0, none⟩)), (9, .int .i64 (y1.Rows.length : Int)), (10, .int .i64 (k1 : Int))]) (fun k1 w => k1 ≤ y1.Rows.length ∧ findL (iHasLoop_L1 y1) k1 (y1.Rows.drop k1) () = some q1 ∧ HL F0 [] w0 w [Pr.R a0 [.int .i64 a0.N, .slice A1 n1 c1], Pr.S a0.Rows (.slice A1 n1 c1)] [It.B b1 60 [.int .i64 a0.N, .slice A1 n1 c1], It.O 3 y1.Rows (.slice A2 n2 c2), It.B b2 60 [.int .i64 y1.N, .slice A2 n2 c2]]) (fun k1 => y1.Rows.length - k1) 0 ⟨rfl, rfl, rfl, trivial⟩ ⟨Nat.zero_le _, hq1, H.keep 2 3⟩ ?_)
  rintro k1 σ w5 ⟨hk1, hq1, H⟩
  refine CW.seq (CW.reg ?_)
  refine WL.ev rfl rfl (Ev.bin rfl rfl rfl Bin.lss) (WL.nil ?_)
  refine CW.seq (CW.condD rfl (fun h1 => ?_) (fun h1 => ?_))
  · skip
    have hk2 := cast_lt h1
    obtain ⟨x1, z1, hx1, hb1, hs1, ht1⟩ := findL_go hq1 hk2
    refine CW.skip ?_
    refine CW.seq (CW.block (CW.seq (CW.reg ?_)))
    refine WL.ev rfl rfl (Ev.mv rfl rfl) (WL.ev rfl rfl (Ev.as rfl rfl) (WL.nil ?_))
    refine CW.seq (CW.reg ?_)
    refine WL.ev rfl rfl (Ev.lda rfl ag60 sz60 rfl (At.blk (H.rB (i := 2) rfl)) rfl) (WL.ev rfl rfl (Ev.mv rfl rfl) (WL.ev rfl rfl (Ev.mv rfl rfl) ?_))
    obtain ⟨y2, hy2, hb1⟩ := bd hb1
    refine WL.call rfl rfl rfl rfl rfl ok43 rfl (iHasPair_ok hy2 ⟨_, rfl, hI2, (H.rO (i := 1) rfl)⟩ (i64_nat hk2 hl1) (i64_nat hk2 hl1)) ?_
    rintro _ w6 hE rfl
    have H := H.ext hE
    refine WL.nil ?_
    refine CW.condB rfl (fun h2 => ?_) (fun h2 => ?_)
    · skip
      have hb1 := ifp h2 hb1
      refine CW.seq (CW.reg ?_)
      refine WL.ev rfl rfl (Ev.as rfl rfl) (WL.nil ?_)
      refine CW.ret ?_
      obtain rfl := sm hb1
      obtain rfl := ht1 _ rfl
      obtain rfl := sm hr
      exact ⟨_, res1 rfl rfl rfl, H.ext0, rfl⟩
    · skip
      have hb1 := ifn h2 hb1
      refine CW.skip ?_
      refine CW.reg ?_
      refine WL.ev rfl rfl (Ev.bin rfl rfl rfl (Bin.addN (a := k1) (b := 1) rfl (i64_succN hk2 hl1.2))) (WL.ev rfl rfl (Ev.mv rfl rfl) (WL.nil ?_))
      obtain rfl := sm hb1
      have hq1 := hs1 _ rfl
      exact ⟨(k1 + 1), ⟨rfl, rfl, rfl, trivial⟩, ⟨hk2, hq1, H.keep 2 3⟩, Nat.sub_lt_sub_left hk2 (Nat.lt_succ_self _)⟩
  · skip
    obtain rfl := findL_end hq1 (not_cast_lt h1)
    have hr := (onr_inl _ _ _).symm.trans hr
    refine CW.exit ?_
    refine CW.seq (CW.reg ?_)
    refine WL.ev rfl rfl (Ev.as rfl rfl) (WL.nil ?_)
    refine CW.ret ?_
    obtain rfl := sm hr
    exact ⟨_, res1 rfl rfl rfl, H.ext0, rfl⟩

noncomputable def sHasPair_m (a0 : Relation) (a1 : Int) (a2 : Int) : Option Bool :=
  (sIsValidRelation_m a0).bind fun y1 =>
  (
  if y1 = true then (
  grd (I64 (a0.N - 1)) <|
  (sl1In_m a1 0 (a0.N - 1)).bind fun y2 =>
  some y2
  ) else (
  some false
  )
  ).bind fun s1 =>
  (
  if s1 = true then (
  grd (I64 (a0.N - 1)) <|
  (sl1In_m a2 0 (a0.N - 1)).bind fun y3 =>
  some y3
  ) else (
  some false
  )
  ).bind fun s2 =>
  (
  if s2 = true then (
  grd (0 ≤ a1) <|
  (a0.Rows[a1.toNat]?).bind fun x1 =>
  grd (0 ≤ a2) <|
  grd (0 ≤ x1 ∧ 0 ≤ a2 ∧ a2 < 64) <|
  grd (0 ≤ ((x1.toNat >>> a2.toNat : Nat) : Int) ∧ 0 ≤ (1 : Int)) <|
  some (decide (((((x1.toNat >>> a2.toNat : Nat) : Int).toNat &&& (1 : Int).toNat : Nat) : Int) = 1))
  ) else (
  some false
  )
  ).bind fun s3 =>
  some s3
theorem sHasPair_ok {a0 : Relation} {a1 : Int} {a2 : Int} {r : Bool} (hr : sHasPair_m a0 a1 a2 = some r) {F0 : Nat → Prop} {w0 : World} {ca0 : List Value} (ha0 : rd F0 w0 a0 ca0) (ha1 : I64 a1) (ha2 : I64 a2) :
    Ret Try.prog 44 #[.agg ca0.toArray, .int .i64 a1, .int .i64 a2] w0 (fun _ => False) fun v w => v = .bool r := by
  have H := (HL.start F0 w0).argR ha0
  obtain ⟨A1, n1, c1, rfl, hI1, H⟩ := op_Relation H (i := 0) rfl
  refine enter Try.func44 rfl rfl rfl ?_
  refine CW.seq (CW.reg ?_)
  refine WL.boxH rfl rfl rfl rfl rfl H fun b1 w1 H => ?_
  refine WL.ev rfl rfl (Ev.as rfl rfl) (WL.nil ?_)
  refine CW.seq (CW.reg ?_)
  refine WL.ev rfl rfl (Ev.lda rfl ag60 sz60 rfl (At.blk (H.rB (i := 0) rfl)) rfl) ?_
  obtain ⟨y1, hy1, hr⟩ := bd hr
  refine WL.call rfl rfl rfl rfl rfl ok40 rfl (sIsValidRelation_ok hy1 ⟨_, rfl, hI1, (H.rS (i := 1) rfl)⟩) ?_
  rintro _ w2 hE rfl
  have H := H.ext hE
  obtain ⟨q1, hm1, hr⟩ := bd hr
  refine WL.cut 7 (fun ρ' w => ∃ (s1 : Bool), s1 = q1 ∧ agree ρ' [(1, .int .i64 a1), (2, .int .i64 a2), (3, .pointer (some ⟨b1, 0, none⟩)), (6, .bool false), (15, .bool s1)] ∧ HL F0 [] w0 w [Pr.R a0 [.int .i64 a0.N, .slice A1 n1 c1], Pr.S a0.Rows (.slice A1 n1 c1)] [It.B b1 60 [.int .i64 a0.N, .slice A1 n1 c1]]) ?_ ?_
  · skip
    refine WL.mvB rfl rfl rfl rfl (fun h1 => ?_) (fun h1 => ?_)
    · skip
      have hm1 := ifp h1 hm1
      refine WL.on rfl rfl (WL.ev rfl rfl (Ev.mv rfl rfl) (WL.on rfl rfl (WL.ev rfl rfl (Ev.fa rfl fo60_0 rfl) (WL.on rfl rfl (WL.ev rfl rfl (Ev.ld rfl ag3 rfl ((H.rB (i := 0) rfl).cell rfl)) (WL.on rfl rfl ?_))))))
      obtain ⟨hg1, hm1⟩ := grd_some hm1
      refine WL.ev rfl rfl (Ev.bin rfl rfl rfl (Bin.sub hg1)) (WL.on rfl rfl ?_)
      obtain ⟨y2, hy2, hm1⟩ := bd hm1
      refine WL.call rfl rfl rfl rfl rfl ok112 rfl (sl1In_ok hy2 (F0 := fun _ => False) ha1 (by decide : I64 0) hg1) ?_
      rintro _ w3 hE rfl
      have H := H.ext hE
      refine WL.ev rfl rfl (Ev.pickT rfl rfl rfl) (WL.nil ?_)
      obtain rfl := sm hm1
      exact ⟨y2, rfl, ⟨rfl, rfl, rfl, rfl, rfl, trivial⟩, H.keep 2 1⟩
    · skip
      have hm1 := ifn h1 hm1
      refine WL.off rfl rfl rfl (WL.off rfl rfl rfl (WL.off rfl rfl rfl (WL.off rfl rfl rfl (WL.off rfl rfl rfl (WL.ev rfl rfl (Ev.pickF rfl rfl rfl) (WL.nil ?_))))))
      obtain rfl := sm hm1
      exact ⟨false, rfl, ⟨rfl, rfl, rfl, rfl, rfl, trivial⟩, H.keep 2 1⟩
  · rintro ρ' w4 ⟨s1, rfl, hag, H⟩
    obtain ⟨σ, rfl⟩ := ofL_ex hag
    obtain ⟨q2, hm2, hr⟩ := bd hr
    refine WL.cut 7 (fun ρ' w => ∃ (s2 : Bool), s2 = q2 ∧ agree ρ' [(1, .int .i64 a1), (2, .int .i64 a2), (3, .pointer (some ⟨b1, 0, none⟩)), (6, .bool false), (22, .bool s2)] ∧ HL F0 [] w0 w [Pr.R a0 [.int .i64 a0.N, .slice A1 n1 c1], Pr.S a0.Rows (.slice A1 n1 c1)] [It.B b1 60 [.int .i64 a0.N, .slice A1 n1 c1]]) ?_ ?_
    · skip
      refine WL.mvB rfl rfl rfl rfl (fun h2 => ?_) (fun h2 => ?_)
      · skip
        have hm2 := ifp h2 hm2
        refine WL.on rfl rfl (WL.ev rfl rfl (Ev.mv rfl rfl) (WL.on rfl rfl (WL.ev rfl rfl (Ev.fa rfl fo60_0 rfl) (WL.on rfl rfl (WL.ev rfl rfl (Ev.ld rfl ag3 rfl ((H.rB (i := 0) rfl).cell rfl)) (WL.on rfl rfl ?_))))))
        obtain ⟨hg2, hm2⟩ := grd_some hm2
        refine WL.ev rfl rfl (Ev.bin rfl rfl rfl (Bin.sub hg2)) (WL.on rfl rfl ?_)
        obtain ⟨y3, hy3, hm2⟩ := bd hm2
        refine WL.call rfl rfl rfl rfl rfl ok112 rfl (sl1In_ok hy3 (F0 := fun _ => False) ha2 (by decide : I64 0) hg2) ?_
        rintro _ w5 hE rfl
        have H := H.ext hE
        refine WL.ev rfl rfl (Ev.pickT rfl rfl rfl) (WL.nil ?_)
        obtain rfl := sm hm2
        exact ⟨y3, rfl, ⟨rfl, rfl, rfl, rfl, rfl, trivial⟩, H.keep 2 1⟩
      · skip
        have hm2 := ifn h2 hm2
        refine WL.off rfl rfl rfl (WL.off rfl rfl rfl (WL.off rfl rfl rfl (WL.off rfl rfl rfl (WL.off rfl rfl rfl (WL.ev rfl rfl (Ev.pickF rfl rfl rfl) (WL.nil ?_))))))
        obtain rfl := sm hm2
        exact ⟨false, rfl, ⟨rfl, rfl, rfl, rfl, rfl, trivial⟩, H.keep 2 1⟩
    · rintro ρ' w6 ⟨s2, rfl, hag, H⟩
      obtain ⟨σ, rfl⟩ := ofL_ex hag
      obtain ⟨q3, hm3, hr⟩ := bd hr
      refine WL.cut 12 (fun ρ' w => ∃ (s3 : Bool), s3 = q3 ∧ agree ρ' [(6, .bool false), (34, .bool s3)] ∧ HL F0 [] w0 w [Pr.R a0 [.int .i64 a0.N, .slice A1 n1 c1], Pr.S a0.Rows (.slice A1 n1 c1)] [It.B b1 60 [.int .i64 a0.N, .slice A1 n1 c1]]) ?_ ?_
      · skip
        refine WL.mvB rfl rfl rfl rfl (fun h3 => ?_) (fun h3 => ?_)
        · skip
          have hm3 := ifp h3 hm3
          refine WL.on rfl rfl (WL.ev rfl rfl (Ev.fa rfl fo60_1 rfl) (WL.on rfl rfl (WL.ev rfl rfl (Ev.ld rfl ag41 rfl ((H.rB (i := 0) rfl).cell rfl)) (WL.on rfl rfl (WL.ev rfl rfl (Ev.mv rfl rfl) (WL.on rfl rfl ?_))))))
          obtain ⟨hg3, hm3⟩ := grd_some hm3
          obtain ⟨x1, hx1, hm3⟩ := bd hm3
          obtain ⟨b2, ob2, cb2, hvb2, hI2, H⟩ := ixS_Int H (i := 1) rfl hx1
          refine WL.ev rfl rfl (Ev.ixV rfl el41 sz3 rfl hvb2 rfl hg3 (lt_of hx1)) (WL.on rfl rfl (WL.ev rfl rfl (Ev.ld rfl ag3 rfl ((H.rA (i := 2) rfl).cell0 rfl)) (WL.on rfl rfl (WL.ev rfl rfl (Ev.mv rfl rfl) (WL.on rfl rfl ?_)))))
          obtain ⟨hg4, hm3⟩ := grd_some hm3
          refine WL.ev rfl rfl (Ev.convUI rfl Try.underlying3 it130 rfl hg4 ha2.2) (WL.on rfl rfl ?_)
          obtain ⟨hg5, hm3⟩ := grd_some hm3
          refine WL.ev rfl rfl (Ev.bin rfl rfl rfl (Bin.shrI hg5.1 hg5.2.1 hg5.2.2)) (WL.on rfl rfl ?_)
          obtain ⟨hg6, hm3⟩ := grd_some hm3
          refine WL.ev rfl rfl (Ev.bin rfl rfl rfl (Bin.andI hg6.1 (i64_shr hI2).2 hg6.2 (by decide : I64 1).2)) (WL.on rfl rfl (WL.ev rfl rfl (Ev.bin rfl rfl rfl Bin.eql) (WL.ev rfl rfl (Ev.pickT rfl rfl rfl) (WL.nil ?_))))
          obtain rfl := sm hm3
          exact ⟨(decide (((((x1.toNat >>> a2.toNat : Nat) : Int).toNat &&& (1 : Int).toNat : Nat) : Int) = 1)), rfl, ⟨rfl, rfl, trivial⟩, H.keep 2 1⟩
        · skip
          have hm3 := ifn h3 hm3
          refine WL.off rfl rfl rfl (WL.off rfl rfl rfl (WL.off rfl rfl rfl (WL.off rfl rfl rfl (WL.off rfl rfl rfl (WL.off rfl rfl rfl (WL.off rfl rfl rfl (WL.off rfl rfl rfl (WL.off rfl rfl rfl (WL.off rfl rfl rfl (WL.ev rfl rfl (Ev.pickF rfl rfl rfl) (WL.nil ?_)))))))))))
          obtain rfl := sm hm3
          exact ⟨false, rfl, ⟨rfl, rfl, trivial⟩, H.keep 2 1⟩
      · rintro ρ' w7 ⟨s3, rfl, hag, H⟩
        obtain ⟨σ, rfl⟩ := ofL_ex hag
        refine WL.ev rfl rfl (Ev.as rfl rfl) (WL.nil ?_)
        refine CW.ret ?_
        obtain rfl := sm hr
        exact ⟨_, res1 rfl rfl rfl, H.ext0, rfl⟩

noncomputable def slices_Index_bool_L1 (a1 : Bool) : Nat → Bool → Unit → Option (Unit ⊕ Int) := fun k1 x1 _ => 
  if a1 = x1 then (
  some (.inr (k1 : Int))
  ) else (
  some (.inl ())
  )
noncomputable def slices_Index_bool_m (a0 : (List Bool)) (a1 : Bool) : Option Int :=
  (findL (slices_Index_bool_L1 a1) 0 a0 ()).bind <| onr (fun r1 => some r1) fun _ =>
  some (-1)
theorem slices_Index_bool_ok {a0 : (List Bool)} {a1 : Bool} {r : Int} (hr : slices_Index_bool_m a0 a1 = some r) {F0 : Nat → Prop} {w0 : World} {z0 : Value} (ha0 : rdS F0 w0 a0 z0) :
    Ret Try.prog 161 #[z0, .bool a1] w0 (fun _ => False) fun v w => v = .int .i64 r ∧ I64 r := by
  obtain ⟨A0', n0', c0', rfl⟩ := ha0.form3
  have H := (HL.start F0 w0).argS ha0
  refine enter Try.func161 rfl rfl rfl ?_
  refine CW.seq (CW.reg ?_)
  refine WL.ev rfl rfl (Ev.as rfl rfl) (WL.nil ?_)
  refine CW.seq (CW.seq (CW.reg ?_))
  refine WL.ev rfl rfl (Ev.mv rfl rfl) ?_
  have hl1 := (H.rS (i := 0) rfl).I
  refine WL.ev rfl rfl (Ev.lenV rfl el140 rfl (H.rS (i := 0) rfl)) (WL.ev rfl rfl (Ev.mv rfl rfl) (WL.nil ?_))
  obtain ⟨q1, hq1, hr⟩ := bd hr
  refine CW.block (CW.loop (α := Nat) (fun k1 => [(0, .slice A0' n0' c0'), (1, .bool a1), (7, .int .i64 (a0.length : Int)), (8, .int .i64 (k1 : Int))]) (fun k1 w => k1 ≤ a0.length ∧ findL (slices_Index_bool_L1 a1) k1 (a0.drop k1) () = some q1 ∧ HL F0 [] w0 w [Pr.S a0 (.slice A0' n0' c0')] []) (fun k1 => a0.length - k1) 0 ⟨rfl, rfl, rfl, rfl, trivial⟩ ⟨Nat.zero_le _, hq1, H.keep 1 0⟩ ?_)
  rintro k1 σ w1 ⟨hk1, hq1, H⟩
  refine CW.seq (CW.reg ?_)
  refine WL.ev rfl rfl (Ev.bin rfl rfl rfl Bin.lss) (WL.nil ?_)
  refine CW.seq (CW.condD rfl (fun h1 => ?_) (fun h1 => ?_))
  · skip
    have hk2 := cast_lt h1
    obtain ⟨x1, z1, hx1, hb1, hs1, ht1⟩ := findL_go hq1 hk2
    refine CW.skip ?_
    refine CW.seq (CW.block (CW.seq (CW.reg ?_)))
    refine WL.ev rfl rfl (Ev.mv rfl rfl) (WL.ev rfl rfl (Ev.as rfl rfl) (WL.nil ?_))
    refine CW.seq (CW.reg ?_)
    refine WL.ev rfl rfl (Ev.mv rfl rfl) (WL.ev rfl rfl (Ev.mv rfl rfl) (WL.ev rfl rfl (Ev.mv rfl rfl) ?_))
    obtain ⟨b1, ob1, cb1, hvb1, H⟩ := ixS_Bool H (i := 0) rfl hx1
    refine WL.ev rfl rfl (Ev.ixVN rfl el140 sz4 rfl hvb1 rfl (lt_of hx1)) (WL.ev rfl rfl (Ev.ld rfl ag4 rfl ((H.rA (i := 1) rfl).cell0 rfl)) (WL.ev rfl rfl (Ev.bin rfl rfl rfl (Bin.eqlBo Try.underlying4)) (WL.nil ?_)))
    refine CW.condD rfl (fun h2 => ?_) (fun h2 => ?_)
    · skip
      have hb1 := ifp h2 hb1
      refine CW.seq (CW.reg ?_)
      refine WL.ev rfl rfl (Ev.mv rfl rfl) (WL.ev rfl rfl (Ev.as rfl rfl) (WL.nil ?_))
      refine CW.ret ?_
      obtain rfl := sm hb1
      obtain rfl := ht1 _ rfl
      obtain rfl := sm hr
      exact ⟨_, res1 rfl rfl rfl, H.ext0, rfl, (i64_nat hk2 hl1)⟩
    · skip
      have hb1 := ifn h2 hb1
      refine CW.skip ?_
      refine CW.reg ?_
      refine WL.ev rfl rfl (Ev.bin rfl rfl rfl (Bin.addN (a := k1) (b := 1) rfl (i64_succN hk2 hl1.2))) (WL.ev rfl rfl (Ev.mv rfl rfl) (WL.nil ?_))
      obtain rfl := sm hb1
      have hq1 := hs1 _ rfl
      exact ⟨(k1 + 1), ⟨rfl, rfl, rfl, rfl, trivial⟩, ⟨hk2, hq1, H.keep 1 0⟩, Nat.sub_lt_sub_left hk2 (Nat.lt_succ_self _)⟩
  · skip
    obtain rfl := findL_end hq1 (not_cast_lt h1)
    have hr := (onr_inl _ _ _).symm.trans hr
    refine CW.exit ?_
    refine CW.seq (CW.reg ?_)
    refine WL.ev rfl rfl (Ev.as rfl rfl) (WL.nil ?_)
    refine CW.ret ?_
    obtain rfl := sm hr
    exact ⟨_, res1 rfl rfl rfl, H.ext0, rfl, (by decide : I64 (-1))⟩

noncomputable def slices_Contains_bool_m (a0 : (List Bool)) (a1 : Bool) : Option Bool :=
  (slices_Index_bool_m a0 a1).bind fun y1 =>
  some (decide (0 ≤ y1))
theorem slices_Contains_bool_ok {a0 : (List Bool)} {a1 : Bool} {r : Bool} (hr : slices_Contains_bool_m a0 a1 = some r) {F0 : Nat → Prop} {w0 : World} {z0 : Value} (ha0 : rdS F0 w0 a0 z0) :
    Ret Try.prog 122 #[z0, .bool a1] w0 (fun _ => False) fun v w => v = .bool r := by
  obtain ⟨A0', n0', c0', rfl⟩ := ha0.form3
  have H := (HL.start F0 w0).argS ha0
  refine enter Try.func122 rfl rfl rfl ?_
  refine CW.seq (CW.reg ?_)
  refine WL.ev rfl rfl (Ev.as rfl rfl) (WL.nil ?_)
  refine CW.seq (CW.reg ?_)
  refine WL.ev rfl rfl (Ev.mv rfl rfl) (WL.ev rfl rfl (Ev.mv rfl rfl) ?_)
  obtain ⟨y1, hy1, hr⟩ := bd hr
  refine WL.call rfl rfl rfl rfl rfl ok161 rfl (slices_Index_bool_ok hy1 (H.rS (i := 0) rfl)) ?_
  rintro _ w1 hE ⟨rfl, hI1⟩
  have H := H.ext hE
  refine WL.ev rfl rfl (Ev.bin rfl rfl rfl Bin.geq) (WL.ev rfl rfl (Ev.as rfl rfl) (WL.nil ?_))
  refine CW.ret ?_
  obtain rfl := sm hr
  exact ⟨_, res1 rfl rfl rfl, H.ext0, rfl⟩

noncomputable def iPhasesOf_1_L1 (a0 : Int) (a2 : Relation) (a3 : (List Bool)) : Nat → Attribute → Unit → Option (Unit ⊕ Bool) := fun k1 x1 _ => 
  (iHasPair_m a2 (k1 : Int) a0).bind fun y1 =>
  if y1 = true then (
  (a3[k1]?).bind fun x2 =>
  if x2 = true then (
  some (.inl ())
  ) else (
  some (.inr false)
  )
  ) else (
  some (.inl ())
  )
noncomputable def iPhasesOf_1_m (a0 : Int) (a1 : (List Attribute)) (a2 : Relation) (a3 : (List Bool)) : Option Bool :=
  (findL (iPhasesOf_1_L1 a0 a2 a3) 0 a1 ()).bind <| onr (fun r1 => some r1) fun _ =>
  some true
theorem iPhasesOf_1_ok {a0 : Int} {a1 : (List Attribute)} {a2 : Relation} {a3 : (List Bool)} {r : Bool} (hr : iPhasesOf_1_m a0 a1 a2 a3 = some r) {F0 : Nat → Prop} {w0 : World} (ha0 : I64 a0) {b1p : Nat} (ha1 : CapP F0 w0 b1p a1) {b2p : Nat} (ha2 : CapP F0 w0 b2p a2) {b3p : Nat} (ha3 : CapP F0 w0 b3p a3) :
    Ret Try.prog 120 #[.int .i64 a0, .pointer (some ⟨b1p, 0, none⟩), .pointer (some ⟨b2p, 0, none⟩), .pointer (some ⟨b3p, 0, none⟩)] w0 (fun _ => False) fun v w => v = .bool r := by
  have H := HL.start F0 w0
  obtain ⟨cpa1, H⟩ := H.argP ha1
  obtain ⟨A1, n1, c1, rfl, H⟩ := op_Sl H (i := 1) rfl
  obtain ⟨cpa2, H⟩ := H.argP ha2
  obtain ⟨A2, n2, c2, rfl, hI1, H⟩ := op_Relation H (i := 4) rfl
  obtain ⟨cpa3, H⟩ := H.argP ha3
  obtain ⟨A3, n3, c3, rfl, H⟩ := op_Sl H (i := 7) rfl
  refine enter Try.func120 rfl rfl rfl ?_
  refine CW.seq (CW.reg ?_)
  refine WL.ev rfl rfl (Ev.as rfl rfl) (WL.nil ?_)
  refine CW.seq (CW.seq (CW.reg ?_))
  refine WL.ev rfl rfl (Ev.ld rfl ag76 rfl ((H.rA (i := 0) rfl).cell0 rfl)) ?_
  have hl1 := (H.rS (i := 2) rfl).I
  refine WL.ev rfl rfl (Ev.lenV rfl el76 rfl (H.rS (i := 2) rfl)) (WL.ev rfl rfl (Ev.mv rfl rfl) (WL.nil ?_))
  obtain ⟨q1, hq1, hr⟩ := bd hr
  refine CW.block (CW.loop (α := Nat) (fun k1 => [(0, .int .i64 a0), (2, .pointer (some ⟨b2p, 0, none⟩)), (3, .pointer (some ⟨b3p, 0, none⟩)), (8, .int .i64 (a1.length : Int)), (9, .int .i64 (k1 : Int))]) (fun k1 w => k1 ≤ a1.length ∧ findL (iPhasesOf_1_L1 a0 a2 a3) k1 (a1.drop k1) () = some q1 ∧ HL F0 [] w0 w [Pr.A b1p 0 [.slice A1 n1 c1], Pr.R a1 [.slice A1 n1 c1], Pr.S a1 (.slice A1 n1 c1), Pr.A b2p 0 [.int .i64 a2.N, .slice A2 n2 c2], Pr.R a2 [.int .i64 a2.N, .slice A2 n2 c2], Pr.S a2.Rows (.slice A2 n2 c2), Pr.A b3p 0 [.slice A3 n3 c3], Pr.R a3 [.slice A3 n3 c3], Pr.S a3 (.slice A3 n3 c3)] []) (fun k1 => a1.length - k1) 0 ⟨rfl, rfl, rfl, rfl, rfl, trivial⟩ ⟨Nat.zero_le _, hq1, H.keep 9 0⟩ ?_)
  rintro k1 σ w1 ⟨hk1, hq1, H⟩
  refine CW.seq (CW.reg ?_)
  refine WL.ev rfl rfl (Ev.bin rfl rfl rfl Bin.lss) (WL.nil ?_)
  refine CW.seq (CW.condD rfl (fun h1 => ?_) (fun h1 => ?_))
  · skip
    have hk2 := cast_lt h1
    obtain ⟨x1, z1, hx1, hb1, hs1, ht1⟩ := findL_go hq1 hk2
    refine CW.skip ?_
    refine CW.seq (CW.block (CW.seq (CW.reg ?_)))
    refine WL.ev rfl rfl (Ev.mv rfl rfl) (WL.ev rfl rfl (Ev.as rfl rfl) (WL.nil ?_))
    refine CW.seq (CW.reg ?_)
    refine WL.ev rfl rfl (Ev.lda rfl ag60 sz60 rfl (H.rA (i := 3) rfl) rfl) (WL.ev rfl rfl (Ev.mv rfl rfl) (WL.ev rfl rfl (Ev.mv rfl rfl) ?_))
    obtain ⟨y1, hy1, hb1⟩ := bd hb1
    refine WL.call rfl rfl rfl rfl rfl ok43 rfl (iHasPair_ok hy1 ⟨_, rfl, hI1, (H.rS (i := 5) rfl)⟩ (i64_nat hk2 hl1) ha0) ?_
    rintro _ w2 hE rfl
    have H := H.ext hE
    refine WL.mvB rfl rfl rfl rfl (fun h2 => ?_) (fun h2 => ?_)
    · skip
      have hb1 := ifp h2 hb1
      refine WL.on rfl rfl (WL.ev rfl rfl (Ev.ld rfl ag140 rfl ((H.rA (i := 6) rfl).cell0 rfl)) (WL.on rfl rfl (WL.ev rfl rfl (Ev.mv rfl rfl) (WL.on rfl rfl ?_))))
      obtain ⟨x2, hx2, hb1⟩ := bd hb1
      obtain ⟨b1, ob1, cb1, hvb1, H⟩ := ixS_Bool H (i := 8) rfl hx2
      refine WL.ev rfl rfl (Ev.ixVN rfl el140 sz4 rfl hvb1 rfl (lt_of hx2)) (WL.on rfl rfl (WL.ev rfl rfl (Ev.ld rfl ag4 rfl ((H.rA (i := 9) rfl).cell0 rfl)) (WL.on rfl rfl (WL.ev rfl rfl (Ev.not rfl rfl) (WL.ev rfl rfl (Ev.pickT rfl rfl rfl) (WL.nil ?_))))))
      refine CW.condBN rfl (fun h3 => ?_) (fun h3 => ?_)
      · skip
        have hb1 := ifn h3 hb1
        refine CW.seq (CW.reg ?_)
        refine WL.ev rfl rfl (Ev.as rfl rfl) (WL.nil ?_)
        refine CW.ret ?_
        obtain rfl := sm hb1
        obtain rfl := ht1 _ rfl
        obtain rfl := sm hr
        exact ⟨_, res1 rfl rfl rfl, H.ext0, rfl⟩
      · skip
        have hb1 := ifp h3 hb1
        refine CW.skip ?_
        refine CW.reg ?_
        refine WL.ev rfl rfl (Ev.bin rfl rfl rfl (Bin.addN (a := k1) (b := 1) rfl (i64_succN hk2 hl1.2))) (WL.ev rfl rfl (Ev.mv rfl rfl) (WL.nil ?_))
        obtain rfl := sm hb1
        have hq1 := hs1 _ rfl
        exact ⟨(k1 + 1), ⟨rfl, rfl, rfl, rfl, rfl, trivial⟩, ⟨hk2, hq1, H.keep 9 0⟩, Nat.sub_lt_sub_left hk2 (Nat.lt_succ_self _)⟩
    · skip
      have hb1 := ifn h2 hb1
      refine WL.off rfl rfl rfl (WL.off rfl rfl rfl (WL.off rfl rfl rfl (WL.off rfl rfl rfl (WL.off rfl rfl rfl (WL.ev rfl rfl (Ev.pickF rfl rfl rfl) (WL.nil ?_))))))
      refine CW.condF rfl ?_
      refine CW.skip ?_
      refine CW.reg ?_
      refine WL.ev rfl rfl (Ev.bin rfl rfl rfl (Bin.addN (a := k1) (b := 1) rfl (i64_succN hk2 hl1.2))) (WL.ev rfl rfl (Ev.mv rfl rfl) (WL.nil ?_))
      obtain rfl := sm hb1
      have hq1 := hs1 _ rfl
      exact ⟨(k1 + 1), ⟨rfl, rfl, rfl, rfl, rfl, trivial⟩, ⟨hk2, hq1, H.keep 9 0⟩, Nat.sub_lt_sub_left hk2 (Nat.lt_succ_self _)⟩
  · skip
    obtain rfl := findL_end hq1 (not_cast_lt h1)
    have hr := (onr_inl _ _ _).symm.trans hr
    refine CW.exit ?_
    refine CW.seq (CW.reg ?_)
    refine WL.ev rfl rfl (Ev.as rfl rfl) (WL.nil ?_)
    refine CW.ret ?_
    obtain rfl := sm hr
    exact ⟨_, res1 rfl rfl rfl, H.ext0, rfl⟩

noncomputable def iPhasesOf_2_L1 (a0 : Int) (o0 : (List Attribute)) (o1 : Relation) : ((List ByteArray) × Int × (List Bool)) → Option (((List ByteArray) × Int × (List Bool)) ⊕ ((List ByteArray) × (List Bool))) := fun (s3, s4, s5) => 
  if s4 < (o0.length : Int) then (
  (
  grd (0 ≤ s4) <|
  (o0[s4.toNat]?).bind fun x1 =>
  (
  if x1.Mode = a0 then (
  grd (0 ≤ s4) <|
  (s5[s4.toNat]?).bind fun x2 =>
  some (!x2)
  ) else (
  some false
  )
  ).bind fun s9 =>
  (
  if s9 = true then (
  (iPhasesOf_1_m s4 o0 o1 s5).bind fun y1 =>
  some y1
  ) else (
  some false
  )
  ).bind fun s10 =>
  if s10 = true then (
  grd (((s3.length : Int) + 1) * 16 ≤ 140737488355328 ∧ (s3.length : Int) + 1 ≤ 9223372036854775807) <|
  grd (0 ≤ s4) <|
  (s5[s4.toNat]?).bind fun x3 =>
  some ((s3 ++ [x1.Name]), (-1), (List.set s5 s4.toNat true))
  ) else (
  some (s3, s4, s5)
  )
  ).bind fun (s6, s7, s8) =>
  grd (I64 (s7 + 1)) <|
  some (.inl (s6, (s7 + 1), s8))
  ) else (
  some (.inr (s3, s5))
  )
noncomputable def iPhasesOf_2_m (a0 : Int) (o0 : (List Attribute)) (o1 : Relation) (o3 : (List Bool)) : Option ((List ByteArray) × (List Bool)) :=
  (
  iterO (iPhasesOf_2_L1 a0 o0 o1) (([] : List ByteArray), 0, o3)
  ).bind fun (s1, s2) =>
  some (s1, s2)
theorem iPhasesOf_2_ok {a0 : Int} {o0 : (List Attribute)} {o1 : Relation} {o3 : (List Bool)} {r : ((List ByteArray) × (List Bool))} (hr : iPhasesOf_2_m a0 o0 o1 o3 = some r) {F0 : Nat → Prop} {M : List Nat} {w0 : World} {bo0 : Nat} {bo1 : Nat} {bo3 : Nat} {bo4 : Nat} {Ao0_0 : Option Addr} {no0_0 co0_0 : Nat} {Ao1_1 : Option Addr} {no1_1 co1_1 : Nat} {Ao3_0 : Option Addr} {no3_0 co3_0 : Nat} (hIa0 : I64 a0) (hIo1_0 : I64 o1.N) (H : HL F0 M w0 w0 [Pr.S o0 (.slice Ao0_0 no0_0 co0_0), Pr.S o1.Rows (.slice Ao1_1 no1_1 co1_1)] [It.B bo0 76 [.slice Ao0_0 no0_0 co0_0], It.B bo1 60 [.int .i64 o1.N, .slice Ao1_1 no1_1 co1_1], It.O 4 o3 (.slice Ao3_0 no3_0 co3_0), It.B bo3 140 [.slice Ao3_0 no3_0 co3_0], It.B bo4 134 [.func (.func 120) #[] #[.pointer (some ⟨bo0, 0, none⟩), .pointer (some ⟨bo1, 0, none⟩), .pointer (some ⟨bo3, 0, none⟩)]]]) :
    Ret Try.prog 121 #[.int .i64 a0, .pointer (some ⟨bo0, 0, none⟩), .pointer (some ⟨bo3, 0, none⟩), .pointer (some ⟨bo4, 0, none⟩)] w0 (· ∈ M) fun v w => ∃ A0 : Option Addr, ∃ n0 c0 : Nat, ∃ A1 : Option Addr, ∃ n1 c1 : Nat, v = (.slice A0 n0 c0) ∧ HL F0 M w0 w [] [It.B bo0 76 [.slice Ao0_0 no0_0 co0_0], It.B bo1 60 [.int .i64 o1.N, .slice Ao1_1 no1_1 co1_1], It.O 4 r.2 (.slice A1 n1 c1), It.B bo3 140 [(.slice A1 n1 c1)], It.B bo4 134 [.func (.func 120) #[] #[.pointer (some ⟨bo0, 0, none⟩), .pointer (some ⟨bo1, 0, none⟩), .pointer (some ⟨bo3, 0, none⟩)]], It.O 9 r.1 (.slice A0 n0 c0)] := by
  refine enter Try.func121 rfl rfl rfl ?_
  refine CW.seq (CW.reg ?_)
  refine WL.ev rfl rfl (Ev.as rfl rfl) (WL.nil ?_)
  refine CW.seq (CW.reg ?_)
  refine WL.lit0H (α := ByteArray) rfl rfl rfl el82 sz9 H fun A1 n1 c1 w1 H => ?_
  refine WL.ev rfl rfl (Ev.as rfl rfl) (WL.nil ?_)
  refine CW.seq (CW.seq (CW.reg ?_))
  refine WL.ev rfl rfl (Ev.as rfl rfl) (WL.nil ?_)
  obtain ⟨q1, hm1, hr⟩ := bd hr
  refine CW.mid (fun ρ' w => ∃ (s1 : List ByteArray) (s2 : List Bool) (v1 : Value), q1 = (s1, s2) ∧ agree ρ' [(6, v1)] ∧ HL F0 M w0 w [Pr.S o0 (.slice Ao0_0 no0_0 co0_0), Pr.S o1.Rows (.slice Ao1_1 no1_1 co1_1)] [It.B bo0 76 [.slice Ao0_0 no0_0 co0_0], It.B bo1 60 [.int .i64 o1.N, .slice Ao1_1 no1_1 co1_1], It.O 4 s2 (.slice Ao3_0 no3_0 co3_0), It.B bo3 140 [.slice Ao3_0 no3_0 co3_0], It.B bo4 134 [.func (.func 120) #[] #[.pointer (some ⟨bo0, 0, none⟩), .pointer (some ⟨bo1, 0, none⟩), .pointer (some ⟨bo3, 0, none⟩)]], It.O 9 s1 v1]) ?_ ?_
  · skip
    obtain ⟨m1, hq1⟩ := iterO_some.1 hm1
    refine CW.block (CW.loop (α := Nat × (List ByteArray) × Int × (List Bool) × Value) (fun ⟨m1, s3, s4, s5, v2⟩ => [(0, .int .i64 a0), (1, .pointer (some ⟨bo0, 0, none⟩)), (2, .pointer (some ⟨bo3, 0, none⟩)), (3, .pointer (some ⟨bo4, 0, none⟩)), (6, v2), (7, .int .i64 s4)]) (fun ⟨m1, s3, s4, s5, v2⟩ w => iterN (iPhasesOf_2_L1 a0 o0 o1) m1 (s3, s4, s5) = some q1 ∧ I64 s4 ∧ HL F0 M w0 w [Pr.S o0 (.slice Ao0_0 no0_0 co0_0), Pr.S o1.Rows (.slice Ao1_1 no1_1 co1_1)] [It.B bo0 76 [.slice Ao0_0 no0_0 co0_0], It.B bo1 60 [.int .i64 o1.N, .slice Ao1_1 no1_1 co1_1], It.O 4 s5 (.slice Ao3_0 no3_0 co3_0), It.B bo3 140 [.slice Ao3_0 no3_0 co3_0], It.B bo4 134 [.func (.func 120) #[] #[.pointer (some ⟨bo0, 0, none⟩), .pointer (some ⟨bo1, 0, none⟩), .pointer (some ⟨bo3, 0, none⟩)]], It.O 9 s3 v2]) (fun ⟨m1, s3, s4, s5, v2⟩ => m1) ⟨m1, ([] : List ByteArray), 0, o3, (.slice A1 n1 c1)⟩ ⟨rfl, rfl, rfl, rfl, rfl, rfl, trivial⟩ ⟨hq1, (by decide : I64 0), H.keep 2 6⟩ ?_)
    rintro ⟨m1, s3, s4, s5, v2⟩ σ w2 ⟨hq1, hI1, H⟩
    obtain ⟨A2, n2, c2, rfl⟩ := (H.rO (i := 5) rfl).form3
    obtain ⟨m2, z1, rfl, hb1, hs1, ht1⟩ := iterN_go hq1
    refine CW.seq (CW.seq (CW.reg ?_))
    refine WL.ev rfl rfl (Ev.mv rfl rfl) (WL.ev rfl rfl (Ev.ld rfl ag76 rfl ((H.rB (i := 0) rfl).cell rfl)) ?_)
    have hl1 := (H.rS (i := 0) rfl).I
    refine WL.ev rfl rfl (Ev.lenV rfl el76 rfl (H.rS (i := 0) rfl)) (WL.ev rfl rfl (Ev.bin rfl rfl rfl Bin.lss) (WL.nil ?_))
    refine CW.condD rfl (fun h1 => ?_) (fun h1 => ?_)
    · skip
      have hb1 := ifp h1 hb1
      refine CW.skip ?_
      obtain ⟨q2, hm2, hb1⟩ := bd hb1
      refine CW.seq (CW.mid (fun ρ' w => ∃ (s6 : List ByteArray) (s7 : Int) (s8 : List Bool) (v3 : Value), q2 = (s6, s7, s8) ∧ agree ρ' [(0, .int .i64 a0), (1, .pointer (some ⟨bo0, 0, none⟩)), (2, .pointer (some ⟨bo3, 0, none⟩)), (3, .pointer (some ⟨bo4, 0, none⟩)), (6, v3), (7, .int .i64 s7)] ∧ I64 s7 ∧ HL F0 M w0 w [Pr.S o0 (.slice Ao0_0 no0_0 co0_0), Pr.S o1.Rows (.slice Ao1_1 no1_1 co1_1)] [It.B bo0 76 [.slice Ao0_0 no0_0 co0_0], It.B bo1 60 [.int .i64 o1.N, .slice Ao1_1 no1_1 co1_1], It.O 4 s8 (.slice Ao3_0 no3_0 co3_0), It.B bo3 140 [.slice Ao3_0 no3_0 co3_0], It.B bo4 134 [.func (.func 120) #[] #[.pointer (some ⟨bo0, 0, none⟩), .pointer (some ⟨bo1, 0, none⟩), .pointer (some ⟨bo3, 0, none⟩)]], It.O 9 s6 v3]) ?_ ?_)
      · skip
        refine CW.block (CW.seq (CW.reg ?_))
        refine WL.ev rfl rfl (Ev.ld rfl ag76 rfl ((H.rB (i := 0) rfl).cell rfl)) (WL.ev rfl rfl (Ev.mv rfl rfl) ?_)
        obtain ⟨hg1, hm2⟩ := grd_some hm2
        obtain ⟨x1, hx1, hm2⟩ := bd hm2
        obtain ⟨b1, ob1, cb1, hvb1, hS1, hI3, hI4, H⟩ := ixS_Attribute H (i := 0) rfl hx1
        refine WL.ev rfl rfl (Ev.ixV rfl el76 sz88 rfl hvb1 rfl hg1 (lt_of hx1)) (WL.ev rfl rfl (Ev.fa rfl fo88_2 rfl) (WL.ev rfl rfl (Ev.ld rfl ag3 rfl ((H.rA (i := 2) rfl).cell rfl)) (WL.ev rfl rfl (Ev.mv rfl rfl) (WL.ev rfl rfl (Ev.bin rfl rfl rfl Bin.eql) ?_))))
        obtain ⟨q3, hm3, hm2⟩ := bd hm2
        refine WL.cut 7 (fun ρ' w => ∃ (s9 : Bool), s9 = q3 ∧ agree ρ' [(0, .int .i64 a0), (1, .pointer (some ⟨bo0, 0, none⟩)), (2, .pointer (some ⟨bo3, 0, none⟩)), (3, .pointer (some ⟨bo4, 0, none⟩)), (6, .slice A2 n2 c2), (7, .int .i64 s4), (28, .bool s9)] ∧ HL F0 M w0 w [Pr.S o0 (.slice Ao0_0 no0_0 co0_0), Pr.S o1.Rows (.slice Ao1_1 no1_1 co1_1), Pr.A b1 (ob1 + s4.toNat * 4) [.string x1.Name, .int .i64 x1.Type_, .int .i64 x1.Mode, .bool x1.Circular], Pr.R x1 [.string x1.Name, .int .i64 x1.Type_, .int .i64 x1.Mode, .bool x1.Circular]] [It.B bo0 76 [.slice Ao0_0 no0_0 co0_0], It.B bo1 60 [.int .i64 o1.N, .slice Ao1_1 no1_1 co1_1], It.O 4 s5 (.slice Ao3_0 no3_0 co3_0), It.B bo3 140 [.slice Ao3_0 no3_0 co3_0], It.B bo4 134 [.func (.func 120) #[] #[.pointer (some ⟨bo0, 0, none⟩), .pointer (some ⟨bo1, 0, none⟩), .pointer (some ⟨bo3, 0, none⟩)]], It.O 9 s3 (.slice A2 n2 c2)]) ?_ ?_
        · skip
          refine WL.mvD rfl rfl rfl rfl (fun h2 => ?_) (fun h2 => ?_)
          · skip
            have hm3 := ifp h2 hm3
            refine WL.on rfl rfl (WL.ev rfl rfl (Ev.ld rfl ag140 rfl ((H.rB (i := 3) rfl).cell rfl)) (WL.on rfl rfl (WL.ev rfl rfl (Ev.mv rfl rfl) (WL.on rfl rfl ?_))))
            obtain ⟨hg2, hm3⟩ := grd_some hm3
            obtain ⟨x2, hx2, hm3⟩ := bd hm3
            obtain ⟨b2, cb2, hvb2, hbb2⟩ := H.ptO (i := 2) rfl hx2
            refine WL.ev rfl rfl (Ev.ixV rfl el140 sz4 rfl hvb2 rfl hg2 (lt_of hx2)) (WL.on rfl rfl ?_)
            obtain ⟨hA1, H⟩ := elO_Bool H (i := 2) rfl hx2 hbb2
            refine WL.ev rfl rfl (Ev.ld rfl ag4 rfl (hA1.cell0 rfl)) (WL.on rfl rfl (WL.ev rfl rfl (Ev.not rfl rfl) (WL.ev rfl rfl (Ev.pickT rfl rfl rfl) (WL.nil ?_))))
            obtain rfl := sm hm3
            exact ⟨(!x2), rfl, ⟨rfl, rfl, rfl, rfl, rfl, rfl, rfl, trivial⟩, H.keep 4 6⟩
          · skip
            have hm3 := ifn h2 hm3
            refine WL.off rfl rfl rfl (WL.off rfl rfl rfl (WL.off rfl rfl rfl (WL.off rfl rfl rfl (WL.off rfl rfl rfl (WL.ev rfl rfl (Ev.pickF rfl rfl rfl) (WL.nil ?_))))))
            obtain rfl := sm hm3
            exact ⟨false, rfl, ⟨rfl, rfl, rfl, rfl, rfl, rfl, rfl, trivial⟩, H.keep 4 6⟩
        · rintro ρ' w3 ⟨s9, rfl, hag, H⟩
          obtain ⟨σ, rfl⟩ := ofL_ex hag
          obtain ⟨q4, hm4, hm2⟩ := bd hm2
          refine WL.cut 5 (fun ρ' w => ∃ (s10 : Bool), s10 = q4 ∧ agree ρ' [(0, .int .i64 a0), (1, .pointer (some ⟨bo0, 0, none⟩)), (2, .pointer (some ⟨bo3, 0, none⟩)), (3, .pointer (some ⟨bo4, 0, none⟩)), (6, .slice A2 n2 c2), (7, .int .i64 s4), (33, .bool s10)] ∧ HL F0 M w0 w [Pr.S o0 (.slice Ao0_0 no0_0 co0_0), Pr.S o1.Rows (.slice Ao1_1 no1_1 co1_1), Pr.A b1 (ob1 + s4.toNat * 4) [.string x1.Name, .int .i64 x1.Type_, .int .i64 x1.Mode, .bool x1.Circular], Pr.R x1 [.string x1.Name, .int .i64 x1.Type_, .int .i64 x1.Mode, .bool x1.Circular]] [It.B bo0 76 [.slice Ao0_0 no0_0 co0_0], It.B bo1 60 [.int .i64 o1.N, .slice Ao1_1 no1_1 co1_1], It.O 4 s5 (.slice Ao3_0 no3_0 co3_0), It.B bo3 140 [.slice Ao3_0 no3_0 co3_0], It.B bo4 134 [.func (.func 120) #[] #[.pointer (some ⟨bo0, 0, none⟩), .pointer (some ⟨bo1, 0, none⟩), .pointer (some ⟨bo3, 0, none⟩)]], It.O 9 s3 (.slice A2 n2 c2)]) ?_ ?_
          · skip
            refine WL.mvB rfl rfl rfl rfl (fun h3 => ?_) (fun h3 => ?_)
            · skip
              have hm4 := ifp h3 hm4
              refine WL.on rfl rfl (WL.ev rfl rfl (Ev.ld rfl ag134 rfl ((H.rB (i := 4) rfl).cell rfl)) (WL.on rfl rfl (WL.ev rfl rfl (Ev.mv rfl rfl) (WL.on rfl rfl ?_))))
              obtain ⟨y1, hy1, hm4⟩ := bd hm4
              refine WL.call rfl rfl rfl rfl rfl ok120 rfl (iPhasesOf_1_ok hy1 (F0 := fun q => q < _) hI1 ⟨(H.rB (i := 0) rfl).lt, _, At.blk (H.rB (i := 0) rfl), ⟨_, rfl, (H.rS (i := 0) rfl)⟩⟩ ⟨(H.rB (i := 1) rfl).lt, _, At.blk (H.rB (i := 1) rfl), ⟨_, rfl, hIo1_0, (H.rS (i := 1) rfl)⟩⟩ ⟨(H.rB (i := 3) rfl).lt, _, At.blk (H.rB (i := 3) rfl), ⟨_, rfl, (H.rO (i := 2) rfl)⟩⟩) ?_
              rintro _ w4 hE rfl
              have H := H.ext hE
              refine WL.ev rfl rfl (Ev.pickT rfl rfl rfl) (WL.nil ?_)
              obtain rfl := sm hm4
              exact ⟨y1, rfl, ⟨rfl, rfl, rfl, rfl, rfl, rfl, rfl, trivial⟩, H.keep 4 6⟩
            · skip
              have hm4 := ifn h3 hm4
              refine WL.off rfl rfl rfl (WL.off rfl rfl rfl (WL.off rfl rfl rfl (WL.ev rfl rfl (Ev.pickF rfl rfl rfl) (WL.nil ?_))))
              obtain rfl := sm hm4
              exact ⟨false, rfl, ⟨rfl, rfl, rfl, rfl, rfl, rfl, rfl, trivial⟩, H.keep 4 6⟩
          · rintro ρ' w5 ⟨s10, rfl, hag, H⟩
            obtain ⟨σ, rfl⟩ := ofL_ex hag
            refine WL.nil ?_
            refine CW.condB rfl (fun h4 => ?_) (fun h4 => ?_)
            · skip
              have hm2 := ifp h4 hm2
              refine CW.seq (CW.held (fun w => ∃ o2_ o5_ : It, HL F0 M w0 w [Pr.S o0 (.slice Ao0_0 no0_0 co0_0), Pr.S o1.Rows (.slice Ao1_1 no1_1 co1_1), Pr.A b1 (ob1 + s4.toNat * 4) [.string x1.Name, .int .i64 x1.Type_, .int .i64 x1.Mode, .bool x1.Circular], Pr.R x1 [.string x1.Name, .int .i64 x1.Type_, .int .i64 x1.Mode, .bool x1.Circular]] [It.B bo0 76 [.slice Ao0_0 no0_0 co0_0], It.B bo1 60 [.int .i64 o1.N, .slice Ao1_1 no1_1 co1_1], o2_, It.B bo3 140 [.slice Ao3_0 no3_0 co3_0], It.B bo4 134 [.func (.func 120) #[] #[.pointer (some ⟨bo0, 0, none⟩), .pointer (some ⟨bo1, 0, none⟩), .pointer (some ⟨bo3, 0, none⟩)]], o5_]) hmix (fun w6 hE => ?_))
              have H : HL F0 M w0 w6 [Pr.S o0 (.slice Ao0_0 no0_0 co0_0), Pr.S o1.Rows (.slice Ao1_1 no1_1 co1_1), Pr.A b1 (ob1 + s4.toNat * 4) [.string x1.Name, .int .i64 x1.Type_, .int .i64 x1.Mode, .bool x1.Circular], Pr.R x1 [.string x1.Name, .int .i64 x1.Type_, .int .i64 x1.Mode, .bool x1.Circular]] [It.B bo0 76 [.slice Ao0_0 no0_0 co0_0], It.B bo1 60 [.int .i64 o1.N, .slice Ao1_1 no1_1 co1_1], It.O 4 s5 (.slice Ao3_0 no3_0 co3_0), It.B bo3 140 [.slice Ao3_0 no3_0 co3_0], It.B bo4 134 [.func (.func 120) #[] #[.pointer (some ⟨bo0, 0, none⟩), .pointer (some ⟨bo1, 0, none⟩), .pointer (some ⟨bo3, 0, none⟩)]], It.O 9 s3 (.slice A2 n2 c2)] := H.ext hE
              refine HW.take 0 ⟨_, _, H.keep 4 6⟩ rfl (by kernel_rfl) rfl rfl (fun _ ⟨_, _, hq⟩ => Ev.ld rfl ag140 rfl ((hq.rB (i := 3) rfl).cell rfl)) ?_
              refine HW.take 1 ⟨_, _, H.keep 4 6⟩ rfl (by kernel_rfl) rfl rfl (fun _ _ => Ev.mv rfl rfl) ?_
              refine HW.take 2 ⟨_, _, H.keep 4 6⟩ rfl (by kernel_rfl) rfl rfl (fun _ _ => Ev.mv rfl rfl) ?_
              refine HW.take 3 ⟨_, _, H.keep 4 6⟩ rfl (by kernel_rfl) rfl rfl (fun _ ⟨_, _, hq⟩ => Ev.ld rfl ag76 rfl ((hq.rB (i := 0) rfl).cell rfl)) ?_
              refine HW.take 4 ⟨_, _, H.keep 4 6⟩ rfl (by kernel_rfl) rfl rfl (fun _ _ => Ev.mv rfl rfl) ?_
              refine HW.take 5 ⟨_, _, H.keep 4 6⟩ rfl (by kernel_rfl) rfl rfl (fun _ _ => Ev.ixV rfl el76 sz88 rfl hvb1 rfl hg1 (lt_of hx1)) ?_
              refine HW.take 6 ⟨_, _, H.keep 4 6⟩ rfl (by kernel_rfl) rfl rfl (fun _ _ => Ev.fa rfl fo88_0 rfl) ?_
              refine HW.take 7 ⟨_, _, H.keep 4 6⟩ rfl (by kernel_rfl) rfl rfl (fun _ ⟨_, _, hq⟩ => Ev.ld rfl ag9 rfl ((hq.rA (i := 2) rfl).cell rfl)) ?_
              refine HW.eff 8 rfl (by kernel_rfl) ?_
              refine WL.lit1 rfl rfl rfl el82 sz9 ze9 rfl rfl rfl rfl rfl rfl fun b3 w7 hE hb hB => ?_
              have H := H.newB hE hb hB
              refine HW.next ⟨_, _, H.keep 4 6⟩ ?_
              refine HW.eff 9 rfl (by kernel_rfl) ?_
              obtain ⟨hg3, hm2⟩ := grd_some hm2
              refine WL.appO (i := 5) (ys := [x1.Name]) rfl rfl rfl el82 sz9 by9 ze9 rfl rfl rfl H rfl (fun _ => ownL.single ⟨rfl, rfl, hS1⟩) (.inr ⟨_, _, rfl, At.blk (H.rB (i := 6) rfl)⟩) hg3 fun A3 n3 c3 w8 H => ?_
              refine HW.next ⟨_, _, H.keep 4 6⟩ ?_
              refine HW.take 10 ⟨_, _, H.keep 4 6⟩ rfl (by kernel_rfl) rfl rfl (fun _ _ => Ev.as rfl rfl) ?_
              obtain ⟨hg4, hm2⟩ := grd_some hm2
              obtain ⟨x3, hx3, hm2⟩ := bd hm2
              obtain ⟨b4, cb4, hvb4, hbb4⟩ := H.ptO (i := 2) rfl hx3
              refine HW.take 11 ⟨_, _, H.keep 4 6⟩ rfl (by kernel_rfl) rfl rfl (fun _ _ => Ev.ixV rfl el140 sz4 rfl hvb4 rfl hg4 (lt_of hx3)) ?_
              refine HW.eff 12 rfl (by kernel_rfl) ?_
              refine WL.stOf (i := 2) (z := true) rfl rfl rfl sz4 rfl rfl rfl (fun _ => ⟨rfl, rfl⟩) H rfl hbb4 (by simpa using lt_of hx3) fun w9 H => ?_
              refine HW.next ⟨_, _, H.keep 4 6⟩ ?_
              refine HW.done (by kernel_rfl) ?_
              refine CW.reg ?_
              refine WL.ev rfl rfl (Ev.as rfl rfl) (WL.nil ?_)
              obtain rfl := sm hm2
              exact ⟨(s3 ++ [x1.Name]), (-1), (List.set s5 s4.toNat true), _, rfl, ⟨rfl, rfl, rfl, rfl, rfl, rfl, trivial⟩, (by decide : I64 (-1)), H.keep 2 6⟩
            · skip
              have hm2 := ifn h4 hm2
              refine CW.skip ?_
              obtain rfl := sm hm2
              exact ⟨s3, s4, s5, _, rfl, ⟨rfl, rfl, rfl, rfl, rfl, rfl, trivial⟩, hI1, H.keep 2 6⟩
      · rintro ρ' w10 ⟨s6, s7, s8, v3, rfl, hag, hI2, H⟩
        obtain ⟨σ, rfl⟩ := ofL_ex hag
        obtain ⟨A4, n4, c4, rfl⟩ := (H.rO (i := 5) rfl).form3
        refine CW.reg ?_
        refine WL.ev rfl rfl (Ev.mv rfl rfl) ?_
        obtain ⟨hg5, hb1⟩ := grd_some hb1
        refine WL.ev rfl rfl (Ev.bin rfl rfl rfl (Bin.add hg5)) (WL.ev rfl rfl (Ev.as rfl rfl) (WL.nil ?_))
        obtain rfl := sm hb1
        exact ⟨⟨m2, s6, (s7 + 1), s8, (.slice A4 n4 c4)⟩, ⟨rfl, rfl, rfl, rfl, rfl, rfl, trivial⟩, ⟨hs1 _ rfl, hg5, H.keep 2 6⟩, Nat.lt_succ_self _⟩
    · skip
      have hb1 := ifn h1 hb1
      refine CW.exit ?_
      obtain rfl := sm hb1
      obtain rfl := ht1 _ rfl
      exact ⟨s3, s5, _, rfl, ⟨rfl, trivial⟩, H.keep 2 6⟩
  · rintro ρ' w11 ⟨s1, s2, v1, rfl, hag, H⟩
    obtain ⟨σ, rfl⟩ := ofL_ex hag
    obtain ⟨A5, n5, c5, rfl⟩ := (H.rO (i := 5) rfl).form3
    refine CW.seq (CW.reg ?_)
    refine WL.ev rfl rfl (Ev.mv rfl rfl) (WL.ev rfl rfl (Ev.as rfl rfl) (WL.nil ?_))
    refine CW.ret ?_
    obtain rfl := sm hr
    exact ⟨_, res1 rfl rfl rfl, H.chg, _, _, _, _, _, _, rfl, H.outM (fr' := []) [true, true, true, true, true, true] fun _ _ => trivial⟩

noncomputable def iPhasesOf_L1 (a0 : (List Attribute)) (a1 : Relation) : ((List Phase) × (List Bool)) → Option (((List Phase) × (List Bool)) ⊕ (((List Phase) × (List Bool)) ⊕ ((List Phase) × Bool))) := fun (s5, s6) => 
  (
  if (s5.length : Int) = 0 then (
  some true
  ) else (
  (slices_Contains_bool_m s6 false).bind fun y3 =>
  some y3
  )
  ).bind fun s7 =>
  if s7 = true then (
  (iPhasesOf_2_m 1 a0 a1 s6).bind fun (y4, z2) =>
  (iPhasesOf_2_m 2 a0 a1 z2).bind fun (y5, z3) =>
  (
  if 0 < (a0.length : Int) then (
  grd (I64 ((y4.length + y5.length : Nat) : Int)) <|
  some (decide (((y4.length + y5.length : Nat) : Int) = 0))
  ) else (
  some false
  )
  ).bind fun s8 =>
  if s8 = true then (
  some (.inr (.inr ([], false)))
  ) else (
  grd (((s5.length : Int) + 1) * 48 ≤ 140737488355328 ∧ (s5.length : Int) + 1 ≤ 9223372036854775807) <|
  some (.inl ((s5 ++ [(⟨y4, y5⟩ : Phase)]), z3))
  )
  ) else (
  some (.inr (.inl (s5, s6)))
  )
noncomputable def iPhasesOf_m (a0 : (List Attribute)) (a1 : Relation) : Option ((List Phase) × Bool) :=
  (iIsValidRelation_m a1).bind fun y1 =>
  (
  if y1 = true then (
  some (!(decide (a1.N = (a0.length : Int))))
  ) else (
  some true
  )
  ).bind fun s1 =>
  (
  if s1 = true then (
  some true
  ) else (
  (iHasLoop_m a1).bind fun y2 =>
  some y2
  )
  ).bind fun s2 =>
  if s2 = true then (
  some ([], false)
  ) else (
  grd (0 ≤ (a0.length : Int) ∧ (a0.length : Int) * 1 ≤ 281474976710656 ∧ (a0.length : Int) ≤ 9223372036854775807) <|
  (
  iterO (iPhasesOf_L1 a0 a1) (([] : List Phase), (List.replicate a0.length false))
  ).bind <| onr (fun r1 => some r1) fun (s3, s4) =>
  some (s3, true)
  )
theorem iPhasesOf_ok {a0 : (List Attribute)} {a1 : Relation} {r : ((List Phase) × Bool)} (hr : iPhasesOf_m a0 a1 = some r) {F0 : Nat → Prop} {w0 : World} {z0 : Value} (ha0 : rdS F0 w0 a0 z0) {ca1 : List Value} (ha1 : rd F0 w0 a1 ca1) :
    Ret Try.prog 56 #[z0, .agg ca1.toArray] w0 (fun _ => False) fun v w => ∃ A0 : Option Addr, ∃ n0 c0 : Nat, v = .tuple #[(.slice A0 n0 c0), .bool r.2] ∧ HL F0 [] w0 w [] [It.O 85 r.1 (.slice A0 n0 c0)] := by
  obtain ⟨A0', n0', c0', rfl⟩ := ha0.form3
  have H := ((HL.start F0 w0).argS ha0).argR ha1
  obtain ⟨A1, n1, c1, rfl, hI1, H⟩ := op_Relation H (i := 1) rfl
  refine enter Try.func56 rfl rfl rfl ?_
  refine CW.seq (CW.reg ?_)
  refine WL.boxH rfl rfl rfl rfl rfl H fun b1 w1 H => ?_
  refine WL.boxH rfl rfl rfl rfl rfl H fun b2 w2 H => ?_
  refine WL.ev rfl rfl (Ev.as rfl rfl) (WL.ev rfl rfl (Ev.as rfl rfl) (WL.nil ?_))
  refine CW.seq (CW.seq (CW.reg ?_))
  refine WL.ev rfl rfl (Ev.lda rfl ag60 sz60 rfl (At.blk (H.rB (i := 1) rfl)) rfl) ?_
  obtain ⟨y1, hy1, hr⟩ := bd hr
  refine WL.call rfl rfl rfl rfl rfl ok39 rfl (iIsValidRelation_ok hy1 ⟨_, rfl, hI1, (H.rS (i := 2) rfl)⟩) ?_
  rintro _ w3 hE rfl
  have H := H.ext hE
  refine WL.ev rfl rfl (Ev.not rfl rfl) ?_
  obtain ⟨q1, hm1, hr⟩ := bd hr
  refine WL.cut 7 (fun ρ' w => ∃ (s1 : Bool), s1 = q1 ∧ agree ρ' [(2, .pointer (some ⟨b1, 0, none⟩)), (3, .pointer (some ⟨b2, 0, none⟩)), (20, .bool s1)] ∧ HL F0 [] w0 w [Pr.S a0 (.slice A0' n0' c0'), Pr.R a1 [.int .i64 a1.N, .slice A1 n1 c1], Pr.S a1.Rows (.slice A1 n1 c1)] [It.B b1 76 [.slice A0' n0' c0'], It.B b2 60 [.int .i64 a1.N, .slice A1 n1 c1]]) ?_ ?_
  · skip
    refine WL.mvBN rfl rfl rfl rfl (fun h1 => ?_) (fun h1 => ?_)
    · skip
      have hm1 := ifn h1 hm1
      refine WL.off rfl rfl rfl (WL.off rfl rfl rfl (WL.off rfl rfl rfl (WL.off rfl rfl rfl (WL.off rfl rfl rfl (WL.ev rfl rfl (Ev.pickT rfl rfl rfl) (WL.nil ?_))))))
      obtain rfl := sm hm1
      exact ⟨true, rfl, ⟨rfl, rfl, rfl, trivial⟩, H.keep 3 2⟩
    · skip
      have hm1 := ifp h1 hm1
      refine WL.on rfl rfl (WL.ev rfl rfl (Ev.fa rfl fo60_0 rfl) (WL.on rfl rfl (WL.ev rfl rfl (Ev.ld rfl ag3 rfl ((H.rB (i := 1) rfl).cell rfl)) (WL.on rfl rfl (WL.ev rfl rfl (Ev.ld rfl ag76 rfl ((H.rB (i := 0) rfl).cell rfl)) (WL.on rfl rfl ?_))))))
      have hl1 := (H.rS (i := 0) rfl).I
      refine WL.ev rfl rfl (Ev.lenV rfl el76 rfl (H.rS (i := 0) rfl)) (WL.on rfl rfl (WL.ev rfl rfl (Ev.bin rfl rfl rfl Bin.neq) (WL.ev rfl rfl (Ev.pickF rfl rfl rfl) (WL.nil ?_))))
      obtain rfl := sm hm1
      exact ⟨(!(decide (a1.N = (a0.length : Int)))), rfl, ⟨rfl, rfl, rfl, trivial⟩, H.keep 3 2⟩
  · rintro ρ' w4 ⟨s1, rfl, hag, H⟩
    obtain ⟨σ, rfl⟩ := ofL_ex hag
    obtain ⟨q2, hm2, hr⟩ := bd hr
    refine WL.cut 4 (fun ρ' w => ∃ (s2 : Bool), s2 = q2 ∧ agree ρ' [(2, .pointer (some ⟨b1, 0, none⟩)), (3, .pointer (some ⟨b2, 0, none⟩)), (24, .bool s2)] ∧ HL F0 [] w0 w [Pr.S a0 (.slice A0' n0' c0'), Pr.R a1 [.int .i64 a1.N, .slice A1 n1 c1], Pr.S a1.Rows (.slice A1 n1 c1)] [It.B b1 76 [.slice A0' n0' c0'], It.B b2 60 [.int .i64 a1.N, .slice A1 n1 c1]]) ?_ ?_
    · skip
      refine WL.mvB rfl rfl rfl rfl (fun h2 => ?_) (fun h2 => ?_)
      · skip
        have hm2 := ifp h2 hm2
        refine WL.off rfl rfl rfl (WL.off rfl rfl rfl (WL.ev rfl rfl (Ev.pickT rfl rfl rfl) (WL.nil ?_)))
        obtain rfl := sm hm2
        exact ⟨true, rfl, ⟨rfl, rfl, rfl, trivial⟩, H.keep 3 2⟩
      · skip
        have hm2 := ifn h2 hm2
        refine WL.on rfl rfl (WL.ev rfl rfl (Ev.lda rfl ag60 sz60 rfl (At.blk (H.rB (i := 1) rfl)) rfl) (WL.on rfl rfl ?_))
        obtain ⟨y2, hy2, hm2⟩ := bd hm2
        refine WL.call rfl rfl rfl rfl rfl ok42 rfl (iHasLoop_ok hy2 ⟨_, rfl, hI1, (H.rS (i := 2) rfl)⟩) ?_
        rintro _ w5 hE rfl
        have H := H.ext hE
        refine WL.ev rfl rfl (Ev.pickF rfl rfl rfl) (WL.nil ?_)
        obtain rfl := sm hm2
        exact ⟨y2, rfl, ⟨rfl, rfl, rfl, trivial⟩, H.keep 3 2⟩
    · rintro ρ' w6 ⟨s2, rfl, hag, H⟩
      obtain ⟨σ, rfl⟩ := ofL_ex hag
      refine WL.nil ?_
      refine CW.condB rfl (fun h3 => ?_) (fun h3 => ?_)
      · skip
        have hr := ifp h3 hr
        refine CW.seq (CW.reg ?_)
        refine WL.ev rfl rfl (Ev.as rfl rfl) (WL.ev rfl rfl (Ev.as rfl rfl) (WL.nil ?_))
        refine CW.ret ?_
        have H := H.nil (α := Phase) 85
        obtain rfl := sm hr
        exact ⟨_, res2 rfl rfl rfl rfl rfl, H.ext0, _, _, _, rfl, H.outM (fr' := []) [false, false, true] fun _ _ => trivial⟩
      · skip
        have hr := ifn h3 hr
        refine CW.skip ?_
        have hl2 := (H.rS (i := 0) rfl).I
        obtain ⟨hg1, hr⟩ := grd_some hr
        refine CW.seq (CW.any2 6 (fun ρ => [.free (fun _ v _ => ∃ g : Nat, v = .slice (some ⟨g, 0, none⟩) 0 0), .fix (.slice A0' n0' c0'), .fix (.int .i64 (a0.length : Int)), .free (fun S v w => ∃ A : Option Addr, ∃ m c : Nat, v = .slice A m c ∧ NewI S w [It.O 4 (List.replicate a0.length false) (.slice A m c)]), .free (fun S v w => ∃ b : Nat, v = .pointer (some ⟨b, 0, none⟩) ∧ NewI S w [It.B b 140 [.slice none 0 0]]), .dep 25 id]) [[], [], [], [], [], [25]] NoM (fun _ _ => True) [] [] (noM _) hmix (by kernel_rfl) rfl ⟨fun _ _ _ _ _ h _ _ _ => h, trivial, trivial, fun _ _ _ _ _ ⟨A, m, c, h1, h2⟩ hc hS _ => ⟨A, m, c, h1, h2.chgT hc hS⟩, fun _ _ _ _ _ ⟨b, h1, h2⟩ hc hS _ => ⟨b, h1, h2.chgT hc hS⟩, trivial, trivial⟩ trivial (fun _ _ _ _ _ _ _ => trivial) ?_)
        refine LL2.free rfl rfl rfl rfl (fun wq hq hK => OpX.lit0N rfl rfl el79 sz85 fun g w hE => ⟨hE, g, rfl⟩) (fun v_G1_0 S_G1_0 => ?_)
        refine LL2.fx rfl rfl rfl rfl rfl (fun _ hq hK => Ev.ld rfl ag76 rfl (((H.ext hq).rB (i := 0) rfl).cell rfl)) ?_
        refine LL2.fx rfl rfl rfl rfl rfl (fun _ hq hK => Ev.lenV rfl el76 rfl (H.rS (i := 0) rfl)) ?_
        refine LL2.free rfl rfl rfl rfl (fun wq hq hK => OpX.mkN (x := false) rfl rfl el140 sz4 by4 ze4 (fun _ => ⟨rfl, rfl⟩) rfl rfl hg1 fun A m c w hE h => ⟨hE, A, m, c, rfl, h⟩) (fun v_G1_3 S_G1_3 => ?_)
        refine LL2.free rfl rfl rfl rfl (fun wq hq hK => OpX.allocN rfl rfl ze140 fun b w hE h => ⟨hE, b, rfl, h⟩) (fun v_G1_4 S_G1_4 => ?_)
        refine LL2.mv rfl rfl rfl rfl rfl (.inr rfl) rfl ?_
        intro w7 hE _ hK hap hbd
        have hE := chgNew hE
        obtain ⟨g1, rfl⟩ := hK 0 (by decide)
        obtain ⟨A2, n2, c2, rfl, hN1⟩ := hK 3 (by decide)
        obtain ⟨b3, rfl, hN2⟩ := hK 4 (by decide)
        have H := H.add hE (hN1.app hN2 fun q h1 h2 => absurd (hap 3 4 q h1 h2) (by decide)) ⟨fun _ _ _ _ _ h => h, ⟨fun _ _ _ _ _ h => h, trivial⟩⟩ (fun q hq => hq.elim (fun h => (hbd 3 q h).1) fun h => (hbd 4 q h).1)
        have H := H.lit0 (α := Phase) 85 (some ⟨g1, 0, none⟩)
        refine WL.stB (i := 3) rfl rfl rfl sz140 rfl rfl rfl rfl (all1 rfl all0) H rfl rfl rfl fun w8 H => ?_
        refine WL.nil ?_
        refine CW.seq (CW.reg ?_)
        refine WL.ev rfl rfl (Ev.mkfL rfl rfl rfl) ?_
        refine WL.allocH rfl rfl rfl ze134 H fun b4 w9 H => ?_
        refine WL.stB (i := 5) rfl rfl rfl sz134 rfl rfl rfl rfl (all1 rfl all0) H rfl rfl rfl fun w10 H => ?_
        refine WL.nil ?_
        refine CW.seq (CW.reg ?_)
        refine WL.ev rfl rfl (Ev.mkfL rfl rfl rfl) (WL.ev rfl rfl (Ev.as rfl rfl) (WL.nil ?_))
        obtain ⟨q3, hm3, hr⟩ := bd hr
        refine CW.seq (CW.mid (fun ρ' w => ∃ (s3 : List Phase) (s4 : List Bool) (v1 : Value) (v2 : Value), q3 = .inl (s3, s4) ∧ agree ρ' [(6, v1)] ∧ HL F0 [] w0 w [Pr.S a0 (.slice A0' n0' c0'), Pr.R a1 [.int .i64 a1.N, .slice A1 n1 c1], Pr.S a1.Rows (.slice A1 n1 c1)] [It.B b1 76 [.slice A0' n0' c0'], It.B b2 60 [.int .i64 a1.N, .slice A1 n1 c1], It.O 4 s4 v2, It.B b3 140 [v2], It.O 85 s3 v1, It.B b4 134 [.func (.func 120) #[] #[.pointer (some ⟨b1, 0, none⟩), .pointer (some ⟨b2, 0, none⟩), .pointer (some ⟨b3, 0, none⟩)]]]) ?_ ?_)
        · skip
          obtain ⟨m1, hq1⟩ := iterO_some.1 hm3
          refine CW.block (CW.loop (α := Nat × (List Phase) × (List Bool) × Value × Value) (fun ⟨m1, s5, s6, v3, v4⟩ => [(2, .pointer (some ⟨b1, 0, none⟩)), (6, v3), (7, .pointer (some ⟨b3, 0, none⟩)), (9, .func (.func 121) #[] #[.pointer (some ⟨b1, 0, none⟩), .pointer (some ⟨b3, 0, none⟩), .pointer (some ⟨b4, 0, none⟩)])]) (fun ⟨m1, s5, s6, v3, v4⟩ w => iterN (iPhasesOf_L1 a0 a1) m1 (s5, s6) = some q3 ∧ HL F0 [] w0 w [Pr.S a0 (.slice A0' n0' c0'), Pr.R a1 [.int .i64 a1.N, .slice A1 n1 c1], Pr.S a1.Rows (.slice A1 n1 c1)] [It.B b1 76 [.slice A0' n0' c0'], It.B b2 60 [.int .i64 a1.N, .slice A1 n1 c1], It.O 4 s6 v4, It.B b3 140 [v4], It.O 85 s5 v3, It.B b4 134 [.func (.func 120) #[] #[.pointer (some ⟨b1, 0, none⟩), .pointer (some ⟨b2, 0, none⟩), .pointer (some ⟨b3, 0, none⟩)]]]) (fun ⟨m1, s5, s6, v3, v4⟩ => m1) ⟨m1, ([] : List Phase), (List.replicate a0.length false), (.slice (some ⟨g1, 0, none⟩) 0 0), (.slice A2 n2 c2)⟩ ⟨rfl, rfl, rfl, rfl, trivial⟩ ⟨hq1, H.keep 3 6⟩ ?_)
          rintro ⟨m1, s5, s6, v3, v4⟩ σ w11 ⟨hq1, H⟩
          obtain ⟨A3, n3, c3, rfl⟩ := (H.rO (i := 2) rfl).form3
          obtain ⟨A4, n4, c4, rfl⟩ := (H.rO (i := 4) rfl).form3
          obtain ⟨m2, z1, rfl, hb1, hs1, ht1⟩ := iterN_go hq1
          refine CW.seq (CW.seq (CW.reg ?_))
          refine WL.ev rfl rfl (Ev.mv rfl rfl) ?_
          have hl3 := (H.rO (i := 4) rfl).I
          refine WL.ev rfl rfl (Ev.lenV rfl el79 rfl (H.rO (i := 4) rfl)) (WL.ev rfl rfl (Ev.bin rfl rfl rfl Bin.eql) ?_)
          obtain ⟨q4, hm4, hb1⟩ := bd hb1
          refine WL.cut 4 (fun ρ' w => ∃ (s7 : Bool), s7 = q4 ∧ agree ρ' [(2, .pointer (some ⟨b1, 0, none⟩)), (6, .slice A4 n4 c4), (7, .pointer (some ⟨b3, 0, none⟩)), (9, .func (.func 121) #[] #[.pointer (some ⟨b1, 0, none⟩), .pointer (some ⟨b3, 0, none⟩), .pointer (some ⟨b4, 0, none⟩)]), (37, .bool s7)] ∧ HL F0 [] w0 w [Pr.S a0 (.slice A0' n0' c0'), Pr.R a1 [.int .i64 a1.N, .slice A1 n1 c1], Pr.S a1.Rows (.slice A1 n1 c1)] [It.B b1 76 [.slice A0' n0' c0'], It.B b2 60 [.int .i64 a1.N, .slice A1 n1 c1], It.O 4 s6 (.slice A3 n3 c3), It.B b3 140 [.slice A3 n3 c3], It.O 85 s5 (.slice A4 n4 c4), It.B b4 134 [.func (.func 120) #[] #[.pointer (some ⟨b1, 0, none⟩), .pointer (some ⟨b2, 0, none⟩), .pointer (some ⟨b3, 0, none⟩)]]]) ?_ ?_
          · skip
            refine WL.mvD rfl rfl rfl rfl (fun h4 => ?_) (fun h4 => ?_)
            · skip
              have hm4 := ifp h4 hm4
              refine WL.off rfl rfl rfl (WL.off rfl rfl rfl (WL.ev rfl rfl (Ev.pickT rfl rfl rfl) (WL.nil ?_)))
              obtain rfl := sm hm4
              exact ⟨true, rfl, ⟨rfl, rfl, rfl, rfl, rfl, trivial⟩, H.keep 3 6⟩
            · skip
              have hm4 := ifn h4 hm4
              refine WL.on rfl rfl (WL.ev rfl rfl (Ev.ld rfl ag140 rfl ((H.rB (i := 3) rfl).cell rfl)) (WL.on rfl rfl ?_))
              obtain ⟨y3, hy3, hm4⟩ := bd hm4
              refine WL.call rfl rfl rfl rfl rfl ok122 rfl (slices_Contains_bool_ok hy3 (H.rO (i := 2) rfl)) ?_
              rintro _ w12 hE rfl
              have H := H.ext hE
              refine WL.ev rfl rfl (Ev.pickF rfl rfl rfl) (WL.nil ?_)
              obtain rfl := sm hm4
              exact ⟨y3, rfl, ⟨rfl, rfl, rfl, rfl, rfl, trivial⟩, H.keep 3 6⟩
          · rintro ρ' w13 ⟨s7, rfl, hag, H⟩
            obtain ⟨σ, rfl⟩ := ofL_ex hag
            refine WL.nil ?_
            refine CW.condB rfl (fun h5 => ?_) (fun h5 => ?_)
            · skip
              have hb1 := ifp h5 hb1
              refine CW.skip ?_
              refine CW.block (CW.seq (CW.reg ?_))
              refine WL.ev rfl rfl (Ev.mv rfl rfl) ?_
              obtain ⟨⟨y4, z2⟩, hy4, hb1⟩ := bd hb1
              obtain ⟨F', M', hfF, hoF, hcM⟩ := H.callN [true, true, true, true, false, true] ⟨noB, noB, noO, noB, noB, trivial⟩
              obtain ⟨H', hcN⟩ := hcM (ps := [Pr.S a0 (.slice A0' n0' c0'), Pr.S a1.Rows (.slice A1 n1 c1)]) ⟨hfF.get (i := 0) rfl, hfF.get (i := 2) rfl, trivial⟩
              refine WL.call rfl rfl rfl rfl rfl ok121 rfl (iPhasesOf_2_ok hy4 (by decide : I64 1) hI1 H') ?_
              rintro _ w14 hE ⟨A5, n5, c5, A6, n6, c6, rfl, H'⟩
              have H := hcN 5 H' rfl ⟨fun _ _ _ _ _ h => h, ⟨fun _ _ _ _ _ h => h, ⟨fun _ _ _ _ _ h => h, ⟨fun _ _ _ _ _ h => h, ⟨fun _ _ _ _ _ h => h, ⟨fun _ _ _ _ _ h => h, trivial⟩⟩⟩⟩⟩⟩
              refine WL.ev rfl rfl (Ev.build rfl pl85 ze85 rfl rfl rfl rfl) ?_
              refine WL.allocH rfl rfl rfl ze85 H fun b5 w15 H => ?_
              refine WL.stB (i := 7) rfl rfl rfl sz85 rfl rfl rfl rfl (all1 rfl (all1 rfl all0)) H rfl rfl rfl fun w16 H => ?_
              refine WL.nil ?_
              refine CW.seq (CW.reg ?_)
              refine WL.ev rfl rfl (Ev.mv rfl rfl) ?_
              obtain ⟨⟨y5, z3⟩, hy5, hb1⟩ := bd hb1
              obtain ⟨F', M', hfF, hoF, hcM⟩ := H.callN [true, true, true, true, false, true, false, false] ⟨noB, noB, noO, noB, noB, trivial⟩
              obtain ⟨H', hcN⟩ := hcM (ps := [Pr.S a0 (.slice A0' n0' c0'), Pr.S a1.Rows (.slice A1 n1 c1)]) ⟨hfF.get (i := 0) rfl, hfF.get (i := 2) rfl, trivial⟩
              refine WL.call rfl rfl rfl rfl rfl ok121 rfl (iPhasesOf_2_ok hy5 (by decide : I64 2) hI1 H') ?_
              rintro _ w17 hE ⟨A7, n7, c7, A8, n8, c8, rfl, H'⟩
              have H := hcN 5 H' rfl ⟨fun _ _ _ _ _ h => h, ⟨fun _ _ _ _ _ h => h, ⟨fun _ _ _ _ _ h => h, ⟨fun _ _ _ _ _ h => h, ⟨fun _ _ _ _ _ h => h, ⟨fun _ _ _ _ _ h => h, trivial⟩⟩⟩⟩⟩⟩
              refine WL.ev rfl rfl (Ev.fa rfl fo85_1 rfl) ?_
              refine WL.stB (i := 7) rfl rfl rfl sz82 rfl rfl rfl rfl (all1 rfl all0) H rfl rfl rfl fun w18 H => ?_
              refine WL.nil ?_
              refine CW.seq (CW.seq (CW.reg ?_))
              refine WL.ev rfl rfl (Ev.ld rfl ag76 rfl ((H.rB (i := 0) rfl).cell rfl)) (WL.ev rfl rfl (Ev.lenV rfl el76 rfl (H.rS (i := 0) rfl)) (WL.ev rfl rfl (Ev.bin rfl rfl rfl Bin.gtr) ?_))
              obtain ⟨q5, hm5, hb1⟩ := bd hb1
              refine WL.cut 10 (fun ρ' w => ∃ (s8 : Bool), s8 = q5 ∧ agree ρ' [(2, .pointer (some ⟨b1, 0, none⟩)), (6, .slice A4 n4 c4), (7, .pointer (some ⟨b3, 0, none⟩)), (9, .func (.func 121) #[] #[.pointer (some ⟨b1, 0, none⟩), .pointer (some ⟨b3, 0, none⟩), .pointer (some ⟨b4, 0, none⟩)]), (10, .pointer (some ⟨b5, 0, none⟩)), (56, .bool s8)] ∧ HL F0 [] w0 w [Pr.S a0 (.slice A0' n0' c0'), Pr.R a1 [.int .i64 a1.N, .slice A1 n1 c1], Pr.S a1.Rows (.slice A1 n1 c1)] [It.B b1 76 [.slice A0' n0' c0'], It.B b2 60 [.int .i64 a1.N, .slice A1 n1 c1], It.O 4 z3 (.slice A8 n8 c8), It.B b3 140 [.slice A8 n8 c8], It.O 85 s5 (.slice A4 n4 c4), It.B b4 134 [.func (.func 120) #[] #[.pointer (some ⟨b1, 0, none⟩), .pointer (some ⟨b2, 0, none⟩), .pointer (some ⟨b3, 0, none⟩)]], It.O 9 y4 (.slice A5 n5 c5), It.B b5 85 [.slice A5 n5 c5, .slice A7 n7 c7], It.O 9 y5 (.slice A7 n7 c7)]) ?_ ?_
              · skip
                refine WL.mvD rfl rfl rfl rfl (fun h6 => ?_) (fun h6 => ?_)
                · skip
                  have hm5 := ifp h6 hm5
                  refine WL.on rfl rfl (WL.ev rfl rfl (Ev.fa rfl fo85_0 rfl) (WL.on rfl rfl (WL.ev rfl rfl (Ev.ld rfl ag82 rfl ((H.rB (i := 7) rfl).cell rfl)) (WL.on rfl rfl ?_))))
                  have hl4 := (H.rO (i := 6) rfl).I
                  refine WL.ev rfl rfl (Ev.lenV rfl el82 rfl (H.rO (i := 6) rfl)) (WL.on rfl rfl (WL.ev rfl rfl (Ev.fa rfl fo85_1 rfl) (WL.on rfl rfl (WL.ev rfl rfl (Ev.ld rfl ag82 rfl ((H.rB (i := 7) rfl).cell rfl)) (WL.on rfl rfl ?_)))))
                  have hl5 := (H.rO (i := 8) rfl).I
                  refine WL.ev rfl rfl (Ev.lenV rfl el82 rfl (H.rO (i := 8) rfl)) (WL.on rfl rfl ?_)
                  obtain ⟨hg2, hm5⟩ := grd_some hm5
                  refine WL.ev rfl rfl (Ev.bin rfl rfl rfl (Bin.addN (a := y4.length) (b := y5.length) rfl hg2)) (WL.on rfl rfl (WL.ev rfl rfl (Ev.bin rfl rfl rfl Bin.eql) (WL.ev rfl rfl (Ev.pickT rfl rfl rfl) (WL.nil ?_))))
                  obtain rfl := sm hm5
                  exact ⟨(decide (((y4.length + y5.length : Nat) : Int) = 0)), rfl, ⟨rfl, rfl, rfl, rfl, rfl, rfl, trivial⟩, H.keep 3 9⟩
                · skip
                  have hm5 := ifn h6 hm5
                  refine WL.off rfl rfl rfl (WL.off rfl rfl rfl (WL.off rfl rfl rfl (WL.off rfl rfl rfl (WL.off rfl rfl rfl (WL.off rfl rfl rfl (WL.off rfl rfl rfl (WL.off rfl rfl rfl (WL.ev rfl rfl (Ev.pickF rfl rfl rfl) (WL.nil ?_)))))))))
                  obtain rfl := sm hm5
                  exact ⟨false, rfl, ⟨rfl, rfl, rfl, rfl, rfl, rfl, trivial⟩, H.keep 3 9⟩
              · rintro ρ' w19 ⟨s8, rfl, hag, H⟩
                obtain ⟨σ, rfl⟩ := ofL_ex hag
                refine WL.nil ?_
                refine CW.condB rfl (fun h7 => ?_) (fun h7 => ?_)
                · skip
                  have hb1 := ifp h7 hb1
                  refine CW.seq (CW.reg ?_)
                  refine WL.ev rfl rfl (Ev.as rfl rfl) (WL.ev rfl rfl (Ev.as rfl rfl) (WL.nil ?_))
                  refine CW.ret ?_
                  have H := H.nil (α := Phase) 85
                  obtain rfl := sm hb1
                  obtain rfl := ht1 _ rfl
                  obtain rfl := sm hr
                  exact ⟨_, res2 rfl rfl rfl rfl rfl, H.ext0, _, _, _, rfl, H.outM (fr' := []) [false, false, false, false, false, false, false, false, false, true] fun _ _ => trivial⟩
                · skip
                  have hb1 := ifn h7 hb1
                  refine CW.skip ?_
                  refine CW.reg ?_
                  refine WL.ev rfl rfl (Ev.mv rfl rfl) (WL.ev rfl rfl (Ev.lda rfl ag85 sz85 rfl (At.blk (H.rB (i := 7) rfl)) rfl) ?_)
                  refine WL.lit1 rfl rfl rfl el79 sz85 ze85 rfl rfl rfl rfl rfl rfl fun b6 w20 hE hb hB => ?_
                  have H := H.newB hE hb hB
                  obtain ⟨hg3, hb1⟩ := grd_some hb1
                  have H := H.give0 (i := 4) rfl
                  have H := H.give (i := 4) (k := 6) rfl rfl (by decide)
                  have H := H.give (i := 4) (k := 8) rfl rfl (by decide)
                  refine WL.appW (i := 4) (y := (⟨y4, y5⟩ : Phase)) rfl rfl rfl el79 sz85 by85 ze85 rfl rfl rfl H rfl (fun C w hC => ?_) ⟨_, _, rfl, At.blk (H.rB (i := 9) rfl)⟩ hg3 fun A9 n9 c9 w21 H => ?_
                  · obtain ⟨L0, R0, rfl, h0, ⟨L1, R1, rfl, h1, hC⟩⟩ := hC
                    exact ⟨_, _, L0, L1, rfl, by simp [show _ = _ from hC], h0, h1⟩
                  refine WL.ev rfl rfl (Ev.as rfl rfl) (WL.nil ?_)
                  obtain rfl := sm hb1
                  exact ⟨⟨m2, (s5 ++ [(⟨y4, y5⟩ : Phase)]), z3, (.slice A9 n9 c9), (.slice A8 n8 c8)⟩, ⟨rfl, rfl, rfl, rfl, trivial⟩, ⟨hs1 _ rfl, H.keep 3 6⟩, Nat.lt_succ_self _⟩
            · skip
              have hb1 := ifn h5 hb1
              refine CW.exit ?_
              obtain rfl := sm hb1
              obtain rfl := ht1 _ rfl
              exact ⟨s5, s6, _, _, rfl, ⟨rfl, trivial⟩, H.keep 3 6⟩
        · rintro ρ' w22 ⟨s3, s4, v1, v2, rfl, hag, H⟩
          obtain ⟨σ, rfl⟩ := ofL_ex hag
          obtain ⟨A10, n10, c10, rfl⟩ := (H.rO (i := 2) rfl).form3
          obtain ⟨A11, n11, c11, rfl⟩ := (H.rO (i := 4) rfl).form3
          refine CW.seq (CW.reg ?_)
          refine WL.ev rfl rfl (Ev.mv rfl rfl) (WL.ev rfl rfl (Ev.as rfl rfl) (WL.ev rfl rfl (Ev.as rfl rfl) (WL.nil ?_)))
          refine CW.ret ?_
          obtain rfl := sm hr
          exact ⟨_, res2 rfl rfl rfl rfl rfl, H.ext0, _, _, _, rfl, H.outM (fr' := []) [false, false, false, false, true, false] fun _ _ => trivial⟩

noncomputable def sHasLoop_L1 (y2 : Relation) : Nat → Unit → Option (Unit ⊕ Bool) := fun k1 _ => 
  (sHasPair_m y2 (k1 : Int) (k1 : Int)).bind fun y3 =>
  if y3 = true then (
  some (.inr true)
  ) else (
  some (.inl ())
  )
noncomputable def sHasLoop_m (a0 : Relation) : Option Bool :=
  (sIsValidRelation_m a0).bind fun y1 =>
  if y1 = true then (
  (sCloseRelation_m a0).bind fun y2 =>
  (findN (sHasLoop_L1 y2) 0 (a0.N.toNat) ()).bind <| onr (fun r1 => some r1) fun _ =>
  some false
  ) else (
  some false
  )
theorem sHasLoop_ok {a0 : Relation} {r : Bool} (hr : sHasLoop_m a0 = some r) {F0 : Nat → Prop} {w0 : World} {ca0 : List Value} (ha0 : rd F0 w0 a0 ca0) :
    Ret Try.prog 123 #[.agg ca0.toArray] w0 (fun _ => False) fun v w => v = .bool r := by
  have H := (HL.start F0 w0).argR ha0
  obtain ⟨A1, n1, c1, rfl, hI1, H⟩ := op_Relation H (i := 0) rfl
  refine enter Try.func123 rfl rfl rfl ?_
  refine CW.seq (CW.reg ?_)
  refine WL.boxH rfl rfl rfl rfl rfl H fun b1 w1 H => ?_
  refine WL.ev rfl rfl (Ev.as rfl rfl) (WL.nil ?_)
  refine CW.seq (CW.seq (CW.reg ?_))
  refine WL.ev rfl rfl (Ev.lda rfl ag60 sz60 rfl (At.blk (H.rB (i := 0) rfl)) rfl) ?_
  obtain ⟨y1, hy1, hr⟩ := bd hr
  refine WL.call rfl rfl rfl rfl rfl ok40 rfl (sIsValidRelation_ok hy1 ⟨_, rfl, hI1, (H.rS (i := 1) rfl)⟩) ?_
  rintro _ w2 hE rfl
  have H := H.ext hE
  refine WL.ev rfl rfl (Ev.not rfl rfl) (WL.nil ?_)
  refine CW.condBN rfl (fun h1 => ?_) (fun h1 => ?_)
  · skip
    have hr := ifn h1 hr
    refine CW.seq (CW.reg ?_)
    refine WL.ev rfl rfl (Ev.as rfl rfl) (WL.nil ?_)
    refine CW.ret ?_
    obtain rfl := sm hr
    exact ⟨_, res1 rfl rfl rfl, H.ext0, rfl⟩
  · skip
    have hr := ifp h1 hr
    refine CW.skip ?_
    refine CW.seq (CW.reg ?_)
    refine WL.ev rfl rfl (Ev.lda rfl ag60 sz60 rfl (At.blk (H.rB (i := 0) rfl)) rfl) ?_
    obtain ⟨y2, hy2, hr⟩ := bd hr
    refine WL.call rfl rfl rfl rfl rfl ok38 rfl (sCloseRelation_ok hy2 ⟨_, rfl, hI1, (H.rS (i := 1) rfl)⟩) ?_
    rintro _ w3 hE ⟨A2, n2, c2, rfl, hI2, H'⟩
    have H := H.callA H' ⟨fun _ _ _ _ _ h => h, trivial⟩
    refine WL.allocH rfl rfl rfl ze60 H fun b2 w4 H => ?_
    refine WL.stB (i := 2) rfl rfl rfl sz60 rfl rfl rfl rfl (all1 rfl (all1 rfl all0)) H rfl rfl rfl fun w5 H => ?_
    refine WL.nil ?_
    refine CW.seq (CW.seq (CW.reg ?_))
    refine WL.ev rfl rfl (Ev.as rfl rfl) (WL.nil ?_)
    obtain ⟨q1, hq1, hr⟩ := bd hr
    refine CW.block (CW.loop (α := Nat) (fun k1 => [(1, .pointer (some ⟨b1, 0, none⟩)), (3, .pointer (some ⟨b2, 0, none⟩)), (4, .int .i64 (k1 : Int))]) (fun k1 w => k1 ≤ a0.N.toNat ∧ findN (sHasLoop_L1 y2) k1 (a0.N.toNat - k1) () = some q1 ∧ HL F0 [] w0 w [Pr.R a0 [.int .i64 a0.N, .slice A1 n1 c1], Pr.S a0.Rows (.slice A1 n1 c1)] [It.B b1 60 [.int .i64 a0.N, .slice A1 n1 c1], It.O 3 y2.Rows (.slice A2 n2 c2), It.B b2 60 [.int .i64 y2.N, .slice A2 n2 c2]]) (fun k1 => a0.N.toNat - k1) 0 ⟨rfl, rfl, rfl, trivial⟩ ⟨Nat.zero_le _, hq1, H.keep 2 3⟩ ?_)
    rintro k1 σ w6 ⟨hk1, hq1, H⟩
    refine CW.seq (CW.seq (CW.reg ?_))
    refine WL.ev rfl rfl (Ev.mv rfl rfl) (WL.ev rfl rfl (Ev.fa rfl fo60_0 rfl) (WL.ev rfl rfl (Ev.ld rfl ag3 rfl ((H.rB (i := 0) rfl).cell rfl)) (WL.ev rfl rfl (Ev.bin rfl rfl rfl Bin.lss) (WL.nil ?_))))
    refine CW.condD rfl (fun h2 => ?_) (fun h2 => ?_)
    · skip
      have hk2 := toNat_lt h2
      obtain ⟨z1, hb1, hs1, ht1⟩ := findN_go hq1 hk2
      refine CW.skip ?_
      refine CW.seq (CW.block (CW.seq (CW.reg ?_)))
      refine WL.ev rfl rfl (Ev.lda rfl ag60 sz60 rfl (At.blk (H.rB (i := 2) rfl)) rfl) (WL.ev rfl rfl (Ev.mv rfl rfl) (WL.ev rfl rfl (Ev.mv rfl rfl) ?_))
      obtain ⟨y3, hy3, hb1⟩ := bd hb1
      refine WL.call rfl rfl rfl rfl rfl ok44 rfl (sHasPair_ok hy3 ⟨_, rfl, hI2, (H.rO (i := 1) rfl)⟩ (i64_natI h2 hI1) (i64_natI h2 hI1)) ?_
      rintro _ w7 hE rfl
      have H := H.ext hE
      refine WL.nil ?_
      refine CW.condB rfl (fun h3 => ?_) (fun h3 => ?_)
      · skip
        have hb1 := ifp h3 hb1
        refine CW.seq (CW.reg ?_)
        refine WL.ev rfl rfl (Ev.as rfl rfl) (WL.nil ?_)
        refine CW.ret ?_
        obtain rfl := sm hb1
        obtain rfl := ht1 _ rfl
        obtain rfl := sm hr
        exact ⟨_, res1 rfl rfl rfl, H.ext0, rfl⟩
      · skip
        have hb1 := ifn h3 hb1
        refine CW.skip ?_
        refine CW.reg ?_
        refine WL.ev rfl rfl (Ev.mv rfl rfl) (WL.ev rfl rfl (Ev.bin rfl rfl rfl (Bin.addN (a := k1) (b := 1) rfl (i64_succNI h2 hI1.2))) (WL.ev rfl rfl (Ev.as rfl rfl) (WL.nil ?_)))
        obtain rfl := sm hb1
        have hq1 := hs1 _ rfl
        exact ⟨(k1 + 1), ⟨rfl, rfl, rfl, trivial⟩, ⟨hk2, hq1, H.keep 2 3⟩, Nat.sub_lt_sub_left hk2 (Nat.lt_succ_self _)⟩
    · skip
      obtain rfl := findN_end hq1 (not_toNat_lt h2)
      have hr := (onr_inl _ _ _).symm.trans hr
      refine CW.exit ?_
      refine CW.seq (CW.reg ?_)
      refine WL.ev rfl rfl (Ev.as rfl rfl) (WL.nil ?_)
      refine CW.ret ?_
      obtain rfl := sm hr
      exact ⟨_, res1 rfl rfl rfl, H.ext0, rfl⟩

noncomputable def sl27Ready_L1 (a0 : Relation) (a1 : (List Bool)) (a2 : Int) : Nat → Unit → Option (Unit ⊕ Bool) := fun k1 _ => 
  (sHasPair_m a0 (k1 : Int) a2).bind fun y1 =>
  if y1 = true then (
  (a1[k1]?).bind fun x1 =>
  if x1 = true then (
  some (.inl ())
  ) else (
  some (.inr false)
  )
  ) else (
  some (.inl ())
  )
noncomputable def sl27Ready_m (a0 : Relation) (a1 : (List Bool)) (a2 : Int) : Option Bool :=
  (findN (sl27Ready_L1 a0 a1 a2) 0 (a0.N.toNat) ()).bind <| onr (fun r1 => some r1) fun _ =>
  some true
theorem sl27Ready_ok {a0 : Relation} {a1 : (List Bool)} {a2 : Int} {r : Bool} (hr : sl27Ready_m a0 a1 a2 = some r) {F0 : Nat → Prop} {w0 : World} {ca0 : List Value} (ha0 : rd F0 w0 a0 ca0) {z1 : Value} (ha1 : rdS F0 w0 a1 z1) (ha2 : I64 a2) :
    Ret Try.prog 162 #[.agg ca0.toArray, z1, .int .i64 a2] w0 (fun _ => False) fun v w => v = .bool r := by
  obtain ⟨A1', n1', c1', rfl⟩ := ha1.form3
  have H := ((HL.start F0 w0).argR ha0).argS ha1
  obtain ⟨A1, n1, c1, rfl, hI1, H⟩ := op_Relation H (i := 0) rfl
  refine enter Try.func162 rfl rfl rfl ?_
  refine CW.seq (CW.reg ?_)
  refine WL.boxH rfl rfl rfl rfl rfl H fun b1 w1 H => ?_
  refine WL.ev rfl rfl (Ev.as rfl rfl) (WL.nil ?_)
  refine CW.seq (CW.seq (CW.reg ?_))
  refine WL.ev rfl rfl (Ev.as rfl rfl) (WL.nil ?_)
  obtain ⟨q1, hq1, hr⟩ := bd hr
  refine CW.block (CW.loop (α := Nat) (fun k1 => [(1, .slice A1' n1' c1'), (2, .int .i64 a2), (3, .pointer (some ⟨b1, 0, none⟩)), (7, .int .i64 (k1 : Int))]) (fun k1 w => k1 ≤ a0.N.toNat ∧ findN (sl27Ready_L1 a0 a1 a2) k1 (a0.N.toNat - k1) () = some q1 ∧ HL F0 [] w0 w [Pr.R a0 [.int .i64 a0.N, .slice A1 n1 c1], Pr.S a1 (.slice A1' n1' c1'), Pr.S a0.Rows (.slice A1 n1 c1)] [It.B b1 60 [.int .i64 a0.N, .slice A1 n1 c1]]) (fun k1 => a0.N.toNat - k1) 0 ⟨rfl, rfl, rfl, rfl, trivial⟩ ⟨Nat.zero_le _, hq1, H.keep 3 1⟩ ?_)
  rintro k1 σ w2 ⟨hk1, hq1, H⟩
  refine CW.seq (CW.seq (CW.reg ?_))
  refine WL.ev rfl rfl (Ev.mv rfl rfl) (WL.ev rfl rfl (Ev.fa rfl fo60_0 rfl) (WL.ev rfl rfl (Ev.ld rfl ag3 rfl ((H.rB (i := 0) rfl).cell rfl)) (WL.ev rfl rfl (Ev.bin rfl rfl rfl Bin.lss) (WL.nil ?_))))
  refine CW.condD rfl (fun h1 => ?_) (fun h1 => ?_)
  · skip
    have hk2 := toNat_lt h1
    obtain ⟨z1, hb1, hs1, ht1⟩ := findN_go hq1 hk2
    refine CW.skip ?_
    refine CW.seq (CW.block (CW.seq (CW.reg ?_)))
    refine WL.ev rfl rfl (Ev.lda rfl ag60 sz60 rfl (At.blk (H.rB (i := 0) rfl)) rfl) (WL.ev rfl rfl (Ev.mv rfl rfl) (WL.ev rfl rfl (Ev.mv rfl rfl) ?_))
    obtain ⟨y1, hy1, hb1⟩ := bd hb1
    refine WL.call rfl rfl rfl rfl rfl ok44 rfl (sHasPair_ok hy1 ⟨_, rfl, hI1, (H.rS (i := 2) rfl)⟩ (i64_natI h1 hI1) ha2) ?_
    rintro _ w3 hE rfl
    have H := H.ext hE
    refine WL.mvB rfl rfl rfl rfl (fun h2 => ?_) (fun h2 => ?_)
    · skip
      have hb1 := ifp h2 hb1
      refine WL.on rfl rfl (WL.ev rfl rfl (Ev.mv rfl rfl) (WL.on rfl rfl (WL.ev rfl rfl (Ev.mv rfl rfl) (WL.on rfl rfl ?_))))
      obtain ⟨x1, hx1, hb1⟩ := bd hb1
      obtain ⟨b2, ob2, cb2, hvb2, H⟩ := ixS_Bool H (i := 1) rfl hx1
      refine WL.ev rfl rfl (Ev.ixVN rfl el140 sz4 rfl hvb2 rfl (lt_of hx1)) (WL.on rfl rfl (WL.ev rfl rfl (Ev.ld rfl ag4 rfl ((H.rA (i := 3) rfl).cell0 rfl)) (WL.on rfl rfl (WL.ev rfl rfl (Ev.not rfl rfl) (WL.ev rfl rfl (Ev.pickT rfl rfl rfl) (WL.nil ?_))))))
      refine CW.condBN rfl (fun h3 => ?_) (fun h3 => ?_)
      · skip
        have hb1 := ifn h3 hb1
        refine CW.seq (CW.reg ?_)
        refine WL.ev rfl rfl (Ev.as rfl rfl) (WL.nil ?_)
        refine CW.ret ?_
        obtain rfl := sm hb1
        obtain rfl := ht1 _ rfl
        obtain rfl := sm hr
        exact ⟨_, res1 rfl rfl rfl, H.ext0, rfl⟩
      · skip
        have hb1 := ifp h3 hb1
        refine CW.skip ?_
        refine CW.reg ?_
        refine WL.ev rfl rfl (Ev.mv rfl rfl) (WL.ev rfl rfl (Ev.bin rfl rfl rfl (Bin.addN (a := k1) (b := 1) rfl (i64_succNI h1 hI1.2))) (WL.ev rfl rfl (Ev.as rfl rfl) (WL.nil ?_)))
        obtain rfl := sm hb1
        have hq1 := hs1 _ rfl
        exact ⟨(k1 + 1), ⟨rfl, rfl, rfl, rfl, trivial⟩, ⟨hk2, hq1, H.keep 3 1⟩, Nat.sub_lt_sub_left hk2 (Nat.lt_succ_self _)⟩
    · skip
      have hb1 := ifn h2 hb1
      refine WL.off rfl rfl rfl (WL.off rfl rfl rfl (WL.off rfl rfl rfl (WL.off rfl rfl rfl (WL.off rfl rfl rfl (WL.ev rfl rfl (Ev.pickF rfl rfl rfl) (WL.nil ?_))))))
      refine CW.condF rfl ?_
      refine CW.skip ?_
      refine CW.reg ?_
      refine WL.ev rfl rfl (Ev.mv rfl rfl) (WL.ev rfl rfl (Ev.bin rfl rfl rfl (Bin.addN (a := k1) (b := 1) rfl (i64_succNI h1 hI1.2))) (WL.ev rfl rfl (Ev.as rfl rfl) (WL.nil ?_)))
      obtain rfl := sm hb1
      have hq1 := hs1 _ rfl
      exact ⟨(k1 + 1), ⟨rfl, rfl, rfl, rfl, trivial⟩, ⟨hk2, hq1, H.keep 3 1⟩, Nat.sub_lt_sub_left hk2 (Nat.lt_succ_self _)⟩
  · skip
    obtain rfl := findN_end hq1 (not_toNat_lt h1)
    have hr := (onr_inl _ _ _).symm.trans hr
    refine CW.exit ?_
    refine CW.seq (CW.reg ?_)
    refine WL.ev rfl rfl (Ev.as rfl rfl) (WL.nil ?_)
    refine CW.ret ?_
    obtain rfl := sm hr
    exact ⟨_, res1 rfl rfl rfl, H.ext0, rfl⟩

noncomputable def sl27Half_L2 (a0 : (List Attribute)) (a1 : Relation) (a3 : Int) (s2 : List Bool) : (Int × Int) → Option ((Int × Int) ⊕ Int) := fun (s4, s5) => 
  if 0 ≤ s5 then (
  (
  grd (0 ≤ s5) <|
  (a0[s5.toNat]?).bind fun x1 =>
  (
  if x1.Mode = a3 then (
  grd (0 ≤ s5) <|
  (s2[s5.toNat]?).bind fun x2 =>
  some (!x2)
  ) else (
  some false
  )
  ).bind fun s7 =>
  (
  if s7 = true then (
  (sl27Ready_m a1 s2 s5).bind fun y1 =>
  some y1
  ) else (
  some false
  )
  ).bind fun s8 =>
  if s8 = true then (
  some s5
  ) else (
  some s4
  )
  ).bind fun s6 =>
  grd (I64 (s5 - 1)) <|
  some (.inl (s6, (s5 - 1)))
  ) else (
  some (.inr s4)
  )
noncomputable def sl27Half_L1 (a0 : (List Attribute)) (a1 : Relation) (a3 : Int) : ((List ByteArray) × (List Bool)) → Option (((List ByteArray) × (List Bool)) ⊕ ((List ByteArray) × (List Bool))) := fun (s1, s2) => 
  (
  iterO (sl27Half_L2 a0 a1 a3 s2) ((-1), ((a0.length : Int) - 1))
  ).bind fun s3 =>
  if s3 < 0 then (
  some (.inr (s1, s2))
  ) else (
  grd (0 ≤ s3) <|
  (s2[s3.toNat]?).bind fun x3 =>
  grd (0 ≤ s3) <|
  (a0[s3.toNat]?).bind fun x4 =>
  grd (((s1.length : Int) + 1) * 16 ≤ 140737488355328 ∧ (s1.length : Int) + 1 ≤ 9223372036854775807) <|
  some (.inl ((s1 ++ [x4.Name]), (List.set s2 s3.toNat true)))
  )
noncomputable def sl27Half_m (a0 : (List Attribute)) (a1 : Relation) (a2 : (List Bool)) (a3 : Int) : Option ((List ByteArray) × (List Bool)) :=
  (iterO (sl27Half_L1 a0 a1 a3) (([] : List ByteArray), a2)).bind fun r1 => some r1
theorem sl27Half_ok {a0 : (List Attribute)} {a1 : Relation} {a2 : (List Bool)} {a3 : Int} {r : ((List ByteArray) × (List Bool))} (hr : sl27Half_m a0 a1 a2 a3 = some r) {F0 : Nat → Prop} {M : List Nat} {w0 : World} {Aa0 : Option Addr} {na0 ca0 : Nat} {Aa1_1 : Option Addr} {na1_1 ca1_1 : Nat} {Aa2 : Option Addr} {na2 ca2 : Nat} (hIa1_0 : I64 a1.N) (hIa3 : I64 a3) (H : HL F0 M w0 w0 [Pr.S a0 (.slice Aa0 na0 ca0), Pr.S a1.Rows (.slice Aa1_1 na1_1 ca1_1)] [It.O 4 a2 (.slice Aa2 na2 ca2)]) :
    Ret Try.prog 124 #[.slice Aa0 na0 ca0, .agg #[.int .i64 a1.N, .slice Aa1_1 na1_1 ca1_1], .slice Aa2 na2 ca2, .int .i64 a3] w0 (· ∈ M) fun v w => ∃ A0 : Option Addr, ∃ n0 c0 : Nat, v = (.slice A0 n0 c0) ∧ HL F0 M w0 w [] [It.O 4 r.2 (.slice Aa2 na2 ca2), It.O 9 r.1 (.slice A0 n0 c0)] := by
  refine enter Try.func124 rfl rfl rfl ?_
  refine CW.seq (CW.reg ?_)
  refine WL.boxH rfl rfl rfl rfl rfl H fun b1 w1 H => ?_
  refine WL.ev rfl rfl (Ev.as rfl rfl) (WL.nil ?_)
  refine CW.seq (CW.reg ?_)
  refine WL.lit0H (α := ByteArray) rfl rfl rfl el82 sz9 H fun A1 n1 c1 w2 H => ?_
  refine WL.ev rfl rfl (Ev.as rfl rfl) (WL.nil ?_)
  obtain ⟨q1, hm1, hr⟩ := bd hr
  obtain ⟨m1, hq1⟩ := iterO_some.1 hm1
  refine CW.block (CW.loop (α := Nat × (List ByteArray) × (List Bool) × Value) (fun ⟨m1, s1, s2, v1⟩ => [(0, .slice Aa0 na0 ca0), (2, .slice Aa2 na2 ca2), (3, .int .i64 a3), (5, .pointer (some ⟨b1, 0, none⟩)), (9, v1)]) (fun ⟨m1, s1, s2, v1⟩ w => iterN (sl27Half_L1 a0 a1 a3) m1 (s1, s2) = some q1 ∧ HL F0 M w0 w [Pr.S a0 (.slice Aa0 na0 ca0), Pr.S a1.Rows (.slice Aa1_1 na1_1 ca1_1)] [It.O 4 s2 (.slice Aa2 na2 ca2), It.B b1 60 [.int .i64 a1.N, .slice Aa1_1 na1_1 ca1_1], It.O 9 s1 v1]) (fun ⟨m1, s1, s2, v1⟩ => m1) ⟨m1, ([] : List ByteArray), a2, (.slice A1 n1 c1)⟩ ⟨rfl, rfl, rfl, rfl, rfl, trivial⟩ ⟨hq1, H.keep 2 3⟩ ?_)
  rintro ⟨m1, s1, s2, v1⟩ σ w3 ⟨hq1, H⟩
  obtain ⟨A2, n2, c2, rfl⟩ := (H.rO (i := 2) rfl).form3
  obtain ⟨m2, z1, rfl, hb1, hs1, ht1⟩ := iterN_go hq1
  refine CW.block (CW.seq (CW.reg ?_))
  refine WL.ev rfl rfl (Ev.as rfl rfl) (WL.nil ?_)
  refine CW.seq (CW.seq (CW.reg ?_))
  refine WL.ev rfl rfl (Ev.mv rfl rfl) ?_
  have hl1 := (H.rS (i := 0) rfl).I
  refine WL.ev rfl rfl (Ev.lenV rfl el76 rfl (H.rS (i := 0) rfl)) (WL.ev rfl rfl (Ev.bin rfl rfl rfl (Bin.sub (i64_sub (k := 1) hl1 (by decide)))) (WL.ev rfl rfl (Ev.as rfl rfl) (WL.nil ?_)))
  obtain ⟨q2, hm2, hb1⟩ := bd hb1
  refine CW.mid (fun ρ' w => ∃ (s3 : Int), s3 = q2 ∧ agree ρ' [(0, .slice Aa0 na0 ca0), (2, .slice Aa2 na2 ca2), (3, .int .i64 a3), (5, .pointer (some ⟨b1, 0, none⟩)), (9, .slice A2 n2 c2), (10, .int .i64 s3)] ∧ I64 s3 ∧ HL F0 M w0 w [Pr.S a0 (.slice Aa0 na0 ca0), Pr.S a1.Rows (.slice Aa1_1 na1_1 ca1_1)] [It.O 4 s2 (.slice Aa2 na2 ca2), It.B b1 60 [.int .i64 a1.N, .slice Aa1_1 na1_1 ca1_1], It.O 9 s1 (.slice A2 n2 c2)]) ?_ ?_
  · skip
    obtain ⟨m3, hq2⟩ := iterO_some.1 hm2
    refine CW.block (CW.loop (α := Nat × Int × Int) (fun ⟨m3, s4, s5⟩ => [(0, .slice Aa0 na0 ca0), (2, .slice Aa2 na2 ca2), (3, .int .i64 a3), (5, .pointer (some ⟨b1, 0, none⟩)), (9, .slice A2 n2 c2), (10, .int .i64 s4), (11, .int .i64 s5)]) (fun ⟨m3, s4, s5⟩ w => iterN (sl27Half_L2 a0 a1 a3 s2) m3 (s4, s5) = some q2 ∧ I64 s4 ∧ I64 s5 ∧ HL F0 M w0 w [Pr.S a0 (.slice Aa0 na0 ca0), Pr.S a1.Rows (.slice Aa1_1 na1_1 ca1_1)] [It.O 4 s2 (.slice Aa2 na2 ca2), It.B b1 60 [.int .i64 a1.N, .slice Aa1_1 na1_1 ca1_1], It.O 9 s1 (.slice A2 n2 c2)]) (fun ⟨m3, s4, s5⟩ => m3) ⟨m3, (-1), ((a0.length : Int) - 1)⟩ ⟨rfl, rfl, rfl, rfl, rfl, rfl, rfl, trivial⟩ ⟨hq2, (by decide : I64 (-1)), (i64_sub (k := 1) hl1 (by decide)), H.keep 2 3⟩ ?_)
    rintro ⟨m3, s4, s5⟩ σ w4 ⟨hq2, hI2, hI3, H⟩
    obtain ⟨m4, z2, rfl, hb2, hs2, ht2⟩ := iterN_go hq2
    refine CW.seq (CW.seq (CW.reg ?_))
    refine WL.ev rfl rfl (Ev.mv rfl rfl) (WL.ev rfl rfl (Ev.bin rfl rfl rfl Bin.geq) (WL.nil ?_))
    refine CW.condD rfl (fun h1 => ?_) (fun h1 => ?_)
    · skip
      have hb2 := ifp h1 hb2
      refine CW.skip ?_
      obtain ⟨q3, hm3, hb2⟩ := bd hb2
      refine CW.seq (CW.mid (fun ρ' w => ∃ (s6 : Int), s6 = q3 ∧ agree ρ' [(0, .slice Aa0 na0 ca0), (2, .slice Aa2 na2 ca2), (3, .int .i64 a3), (5, .pointer (some ⟨b1, 0, none⟩)), (9, .slice A2 n2 c2), (10, .int .i64 s6), (11, .int .i64 s5)] ∧ I64 s6 ∧ HL F0 M w0 w [Pr.S a0 (.slice Aa0 na0 ca0), Pr.S a1.Rows (.slice Aa1_1 na1_1 ca1_1)] [It.O 4 s2 (.slice Aa2 na2 ca2), It.B b1 60 [.int .i64 a1.N, .slice Aa1_1 na1_1 ca1_1], It.O 9 s1 (.slice A2 n2 c2)]) ?_ ?_)
      · skip
        refine CW.block (CW.seq (CW.reg ?_))
        refine WL.ev rfl rfl (Ev.mv rfl rfl) (WL.ev rfl rfl (Ev.mv rfl rfl) ?_)
        obtain ⟨hg1, hm3⟩ := grd_some hm3
        obtain ⟨x1, hx1, hm3⟩ := bd hm3
        obtain ⟨b2, ob2, cb2, hvb2, hS1, hI5, hI6, H⟩ := ixS_Attribute H (i := 0) rfl hx1
        refine WL.ev rfl rfl (Ev.ixV rfl el76 sz88 rfl hvb2 rfl hg1 (lt_of hx1)) (WL.ev rfl rfl (Ev.fa rfl fo88_2 rfl) (WL.ev rfl rfl (Ev.ld rfl ag3 rfl ((H.rA (i := 2) rfl).cell rfl)) (WL.ev rfl rfl (Ev.mv rfl rfl) (WL.ev rfl rfl (Ev.bin rfl rfl rfl Bin.eql) ?_))))
        obtain ⟨q4, hm4, hm3⟩ := bd hm3
        refine WL.cut 7 (fun ρ' w => ∃ (s7 : Bool), s7 = q4 ∧ agree ρ' [(0, .slice Aa0 na0 ca0), (2, .slice Aa2 na2 ca2), (3, .int .i64 a3), (5, .pointer (some ⟨b1, 0, none⟩)), (9, .slice A2 n2 c2), (10, .int .i64 s4), (11, .int .i64 s5), (33, .bool s7)] ∧ HL F0 M w0 w [Pr.S a0 (.slice Aa0 na0 ca0), Pr.S a1.Rows (.slice Aa1_1 na1_1 ca1_1), Pr.A b2 (ob2 + s5.toNat * 4) [.string x1.Name, .int .i64 x1.Type_, .int .i64 x1.Mode, .bool x1.Circular], Pr.R x1 [.string x1.Name, .int .i64 x1.Type_, .int .i64 x1.Mode, .bool x1.Circular]] [It.O 4 s2 (.slice Aa2 na2 ca2), It.B b1 60 [.int .i64 a1.N, .slice Aa1_1 na1_1 ca1_1], It.O 9 s1 (.slice A2 n2 c2)]) ?_ ?_
        · skip
          refine WL.mvD rfl rfl rfl rfl (fun h2 => ?_) (fun h2 => ?_)
          · skip
            have hm4 := ifp h2 hm4
            refine WL.on rfl rfl (WL.ev rfl rfl (Ev.mv rfl rfl) (WL.on rfl rfl (WL.ev rfl rfl (Ev.mv rfl rfl) (WL.on rfl rfl ?_))))
            obtain ⟨hg2, hm4⟩ := grd_some hm4
            obtain ⟨x2, hx2, hm4⟩ := bd hm4
            obtain ⟨b3, cb3, hvb3, hbb3⟩ := H.ptO (i := 0) rfl hx2
            refine WL.ev rfl rfl (Ev.ixV rfl el140 sz4 rfl hvb3 rfl hg2 (lt_of hx2)) (WL.on rfl rfl ?_)
            obtain ⟨hA1, H⟩ := elO_Bool H (i := 0) rfl hx2 hbb3
            refine WL.ev rfl rfl (Ev.ld rfl ag4 rfl (hA1.cell0 rfl)) (WL.on rfl rfl (WL.ev rfl rfl (Ev.not rfl rfl) (WL.ev rfl rfl (Ev.pickT rfl rfl rfl) (WL.nil ?_))))
            obtain rfl := sm hm4
            exact ⟨(!x2), rfl, ⟨rfl, rfl, rfl, rfl, rfl, rfl, rfl, rfl, trivial⟩, H.keep 4 3⟩
          · skip
            have hm4 := ifn h2 hm4
            refine WL.off rfl rfl rfl (WL.off rfl rfl rfl (WL.off rfl rfl rfl (WL.off rfl rfl rfl (WL.off rfl rfl rfl (WL.ev rfl rfl (Ev.pickF rfl rfl rfl) (WL.nil ?_))))))
            obtain rfl := sm hm4
            exact ⟨false, rfl, ⟨rfl, rfl, rfl, rfl, rfl, rfl, rfl, rfl, trivial⟩, H.keep 4 3⟩
        · rintro ρ' w5 ⟨s7, rfl, hag, H⟩
          obtain ⟨σ, rfl⟩ := ofL_ex hag
          obtain ⟨q5, hm5, hm3⟩ := bd hm3
          refine WL.cut 6 (fun ρ' w => ∃ (s8 : Bool), s8 = q5 ∧ agree ρ' [(0, .slice Aa0 na0 ca0), (2, .slice Aa2 na2 ca2), (3, .int .i64 a3), (5, .pointer (some ⟨b1, 0, none⟩)), (9, .slice A2 n2 c2), (10, .int .i64 s4), (11, .int .i64 s5), (39, .bool s8)] ∧ HL F0 M w0 w [Pr.S a0 (.slice Aa0 na0 ca0), Pr.S a1.Rows (.slice Aa1_1 na1_1 ca1_1), Pr.A b2 (ob2 + s5.toNat * 4) [.string x1.Name, .int .i64 x1.Type_, .int .i64 x1.Mode, .bool x1.Circular], Pr.R x1 [.string x1.Name, .int .i64 x1.Type_, .int .i64 x1.Mode, .bool x1.Circular]] [It.O 4 s2 (.slice Aa2 na2 ca2), It.B b1 60 [.int .i64 a1.N, .slice Aa1_1 na1_1 ca1_1], It.O 9 s1 (.slice A2 n2 c2)]) ?_ ?_
          · skip
            refine WL.mvB rfl rfl rfl rfl (fun h3 => ?_) (fun h3 => ?_)
            · skip
              have hm5 := ifp h3 hm5
              refine WL.on rfl rfl (WL.ev rfl rfl (Ev.lda rfl ag60 sz60 rfl (At.blk (H.rB (i := 1) rfl)) rfl) (WL.on rfl rfl (WL.ev rfl rfl (Ev.mv rfl rfl) (WL.on rfl rfl (WL.ev rfl rfl (Ev.mv rfl rfl) (WL.on rfl rfl ?_))))))
              obtain ⟨y1, hy1, hm5⟩ := bd hm5
              refine WL.call rfl rfl rfl rfl rfl ok162 rfl (sl27Ready_ok hy1 ⟨_, rfl, hIa1_0, (H.rS (i := 1) rfl)⟩ (H.rO (i := 0) rfl) hI3) ?_
              rintro _ w6 hE rfl
              have H := H.ext hE
              refine WL.ev rfl rfl (Ev.pickT rfl rfl rfl) (WL.nil ?_)
              obtain rfl := sm hm5
              exact ⟨y1, rfl, ⟨rfl, rfl, rfl, rfl, rfl, rfl, rfl, rfl, trivial⟩, H.keep 4 3⟩
            · skip
              have hm5 := ifn h3 hm5
              refine WL.off rfl rfl rfl (WL.off rfl rfl rfl (WL.off rfl rfl rfl (WL.off rfl rfl rfl (WL.ev rfl rfl (Ev.pickF rfl rfl rfl) (WL.nil ?_)))))
              obtain rfl := sm hm5
              exact ⟨false, rfl, ⟨rfl, rfl, rfl, rfl, rfl, rfl, rfl, rfl, trivial⟩, H.keep 4 3⟩
          · rintro ρ' w7 ⟨s8, rfl, hag, H⟩
            obtain ⟨σ, rfl⟩ := ofL_ex hag
            refine WL.nil ?_
            refine CW.condB rfl (fun h4 => ?_) (fun h4 => ?_)
            · skip
              have hm3 := ifp h4 hm3
              refine CW.reg ?_
              refine WL.ev rfl rfl (Ev.mv rfl rfl) (WL.ev rfl rfl (Ev.as rfl rfl) (WL.nil ?_))
              obtain rfl := sm hm3
              exact ⟨s5, rfl, ⟨rfl, rfl, rfl, rfl, rfl, rfl, rfl, trivial⟩, hI3, H.keep 2 3⟩
            · skip
              have hm3 := ifn h4 hm3
              refine CW.skip ?_
              obtain rfl := sm hm3
              exact ⟨s4, rfl, ⟨rfl, rfl, rfl, rfl, rfl, rfl, rfl, trivial⟩, hI2, H.keep 2 3⟩
      · rintro ρ' w8 ⟨s6, rfl, hag, hI4, H⟩
        obtain ⟨σ, rfl⟩ := ofL_ex hag
        refine CW.reg ?_
        refine WL.ev rfl rfl (Ev.mv rfl rfl) ?_
        obtain ⟨hg3, hb2⟩ := grd_some hb2
        refine WL.ev rfl rfl (Ev.bin rfl rfl rfl (Bin.sub hg3)) (WL.ev rfl rfl (Ev.as rfl rfl) (WL.nil ?_))
        obtain rfl := sm hb2
        exact ⟨⟨m4, s6, (s5 - 1)⟩, ⟨rfl, rfl, rfl, rfl, rfl, rfl, rfl, trivial⟩, ⟨hs2 _ rfl, hI4, hg3, H.keep 2 3⟩, Nat.lt_succ_self _⟩
    · skip
      have hb2 := ifn h1 hb2
      refine CW.exit ?_
      obtain rfl := sm hb2
      obtain rfl := ht2 _ rfl
      exact ⟨s4, rfl, ⟨rfl, rfl, rfl, rfl, rfl, rfl, trivial⟩, hI2, H.keep 2 3⟩
  · rintro ρ' w9 ⟨s3, rfl, hag, hI1, H⟩
    obtain ⟨σ, rfl⟩ := ofL_ex hag
    refine CW.seq (CW.seq (CW.reg ?_))
    refine WL.ev rfl rfl (Ev.mv rfl rfl) (WL.ev rfl rfl (Ev.bin rfl rfl rfl Bin.lss) (WL.nil ?_))
    refine CW.condD rfl (fun h5 => ?_) (fun h5 => ?_)
    · skip
      have hb1 := ifp h5 hb1
      refine CW.seq (CW.reg ?_)
      refine WL.ev rfl rfl (Ev.mv rfl rfl) (WL.ev rfl rfl (Ev.as rfl rfl) (WL.nil ?_))
      refine CW.ret ?_
      obtain rfl := sm hb1
      obtain rfl := ht1 _ rfl
      obtain rfl := sm hr
      exact ⟨_, res1 rfl rfl rfl, H.chg, _, _, _, rfl, H.outM (fr' := []) [true, false, true] fun _ _ => trivial⟩
    · skip
      have hb1 := ifn h5 hb1
      refine CW.skip ?_
      refine CW.seq (CW.reg ?_)
      refine WL.ev rfl rfl (Ev.mv rfl rfl) (WL.ev rfl rfl (Ev.mv rfl rfl) ?_)
      obtain ⟨hg4, hb1⟩ := grd_some hb1
      obtain ⟨x3, hx3, hb1⟩ := bd hb1
      obtain ⟨b4, cb4, hvb4, hbb4⟩ := H.ptO (i := 0) rfl hx3
      refine WL.ev rfl rfl (Ev.ixV rfl el140 sz4 rfl hvb4 rfl hg4 (lt_of hx3)) ?_
      refine WL.stOf (i := 0) (z := true) rfl rfl rfl sz4 rfl rfl rfl (fun _ => ⟨rfl, rfl⟩) H rfl hbb4 (by simpa using lt_of hx3) fun w10 H => ?_
      refine WL.nil ?_
      refine CW.reg ?_
      refine WL.ev rfl rfl (Ev.mv rfl rfl) (WL.ev rfl rfl (Ev.mv rfl rfl) (WL.ev rfl rfl (Ev.mv rfl rfl) ?_))
      obtain ⟨hg5, hb1⟩ := grd_some hb1
      obtain ⟨x4, hx4, hb1⟩ := bd hb1
      obtain ⟨b5, ob5, cb5, hvb5, hS2, hI7, hI8, H⟩ := ixS_Attribute H (i := 0) rfl hx4
      refine WL.ev rfl rfl (Ev.ixV rfl el76 sz88 rfl hvb5 rfl hg5 (lt_of hx4)) (WL.ev rfl rfl (Ev.fa rfl fo88_0 rfl) (WL.ev rfl rfl (Ev.ld rfl ag9 rfl ((H.rA (i := 2) rfl).cell rfl)) ?_))
      refine WL.lit1 rfl rfl rfl el82 sz9 ze9 rfl rfl rfl rfl rfl rfl fun b6 w11 hE hb hB => ?_
      have H := H.newB hE hb hB
      obtain ⟨hg6, hb1⟩ := grd_some hb1
      refine WL.appO (i := 2) (ys := [x4.Name]) rfl rfl rfl el82 sz9 by9 ze9 rfl rfl rfl H rfl (fun _ => ownL.single ⟨rfl, rfl, hS2⟩) (.inr ⟨_, _, rfl, At.blk (H.rB (i := 3) rfl)⟩) hg6 fun A3 n3 c3 w12 H => ?_
      refine WL.ev rfl rfl (Ev.as rfl rfl) (WL.nil ?_)
      obtain rfl := sm hb1
      exact ⟨⟨m2, (s1 ++ [x4.Name]), (List.set s2 s3.toNat true), (.slice A3 n3 c3)⟩, ⟨rfl, rfl, rfl, rfl, rfl, trivial⟩, ⟨hs1 _ rfl, H.keep 2 3⟩, Nat.lt_succ_self _⟩

noncomputable def sPhasesOf_L1 (a0 : (List Attribute)) (a1 : Relation) : ((List Phase) × (List Bool) × Int) → Option (((List Phase) × (List Bool) × Int) ⊕ (((List Phase) × (List Bool)) ⊕ ((List Phase) × Bool))) := fun (s5, s6, s7) => 
  (
  if 0 < s7 then (
  some true
  ) else (
  some (decide ((s5.length : Int) = 0))
  )
  ).bind fun s8 =>
  if s8 = true then (
  (sl27Half_m a0 a1 s6 1).bind fun (y3, z2) =>
  (sl27Half_m a0 a1 z2 2).bind fun (y4, z3) =>
  grd (I64 ((y3.length + y4.length : Nat) : Int)) <|
  (
  if ((y3.length + y4.length : Nat) : Int) = 0 then (
  some (decide (0 < s7))
  ) else (
  some false
  )
  ).bind fun s9 =>
  if s9 = true then (
  some (.inr (.inr ([], false)))
  ) else (
  grd (I64 (s7 - ((y3.length + y4.length : Nat) : Int))) <|
  grd (((s5.length : Int) + 1) * 48 ≤ 140737488355328 ∧ (s5.length : Int) + 1 ≤ 9223372036854775807) <|
  some (.inl ((s5 ++ [(⟨y3, y4⟩ : Phase)]), z3, (s7 - ((y3.length + y4.length : Nat) : Int))))
  )
  ) else (
  some (.inr (.inl (s5, s6)))
  )
noncomputable def sPhasesOf_m (a0 : (List Attribute)) (a1 : Relation) : Option ((List Phase) × Bool) :=
  (sIsValidRelation_m a1).bind fun y1 =>
  (
  if y1 = true then (
  some (!(decide (a1.N = (a0.length : Int))))
  ) else (
  some true
  )
  ).bind fun s1 =>
  (
  if s1 = true then (
  some true
  ) else (
  (sHasLoop_m a1).bind fun y2 =>
  some y2
  )
  ).bind fun s2 =>
  if s2 = true then (
  some ([], false)
  ) else (
  grd (0 ≤ (a0.length : Int) ∧ (a0.length : Int) * 1 ≤ 281474976710656 ∧ (a0.length : Int) ≤ 9223372036854775807) <|
  (
  iterO (sPhasesOf_L1 a0 a1) (([] : List Phase), (List.replicate a0.length false), (a0.length : Int))
  ).bind <| onr (fun r1 => some r1) fun (s3, s4) =>
  some (s3, true)
  )
theorem sPhasesOf_ok {a0 : (List Attribute)} {a1 : Relation} {r : ((List Phase) × Bool)} (hr : sPhasesOf_m a0 a1 = some r) {F0 : Nat → Prop} {w0 : World} {z0 : Value} (ha0 : rdS F0 w0 a0 z0) {ca1 : List Value} (ha1 : rd F0 w0 a1 ca1) :
    Ret Try.prog 57 #[z0, .agg ca1.toArray] w0 (fun _ => False) fun v w => ∃ A0 : Option Addr, ∃ n0 c0 : Nat, v = .tuple #[(.slice A0 n0 c0), .bool r.2] ∧ HL F0 [] w0 w [] [It.O 85 r.1 (.slice A0 n0 c0)] := by
  obtain ⟨A0', n0', c0', rfl⟩ := ha0.form3
  have H := ((HL.start F0 w0).argS ha0).argR ha1
  obtain ⟨A1, n1, c1, rfl, hI1, H⟩ := op_Relation H (i := 1) rfl
  refine enter Try.func57 rfl rfl rfl ?_
  refine CW.seq (CW.reg ?_)
  refine WL.boxH rfl rfl rfl rfl rfl H fun b1 w1 H => ?_
  refine WL.ev rfl rfl (Ev.as rfl rfl) (WL.ev rfl rfl (Ev.as rfl rfl) (WL.nil ?_))
  refine CW.seq (CW.seq (CW.reg ?_))
  refine WL.ev rfl rfl (Ev.lda rfl ag60 sz60 rfl (At.blk (H.rB (i := 0) rfl)) rfl) ?_
  obtain ⟨y1, hy1, hr⟩ := bd hr
  refine WL.call rfl rfl rfl rfl rfl ok40 rfl (sIsValidRelation_ok hy1 ⟨_, rfl, hI1, (H.rS (i := 2) rfl)⟩) ?_
  rintro _ w2 hE rfl
  have H := H.ext hE
  refine WL.ev rfl rfl (Ev.not rfl rfl) ?_
  obtain ⟨q1, hm1, hr⟩ := bd hr
  refine WL.cut 7 (fun ρ' w => ∃ (s1 : Bool), s1 = q1 ∧ agree ρ' [(0, .slice A0' n0' c0'), (3, .pointer (some ⟨b1, 0, none⟩)), (20, .bool s1)] ∧ HL F0 [] w0 w [Pr.S a0 (.slice A0' n0' c0'), Pr.R a1 [.int .i64 a1.N, .slice A1 n1 c1], Pr.S a1.Rows (.slice A1 n1 c1)] [It.B b1 60 [.int .i64 a1.N, .slice A1 n1 c1]]) ?_ ?_
  · skip
    refine WL.mvBN rfl rfl rfl rfl (fun h1 => ?_) (fun h1 => ?_)
    · skip
      have hm1 := ifn h1 hm1
      refine WL.off rfl rfl rfl (WL.off rfl rfl rfl (WL.off rfl rfl rfl (WL.off rfl rfl rfl (WL.off rfl rfl rfl (WL.ev rfl rfl (Ev.pickT rfl rfl rfl) (WL.nil ?_))))))
      obtain rfl := sm hm1
      exact ⟨true, rfl, ⟨rfl, rfl, rfl, trivial⟩, H.keep 3 1⟩
    · skip
      have hm1 := ifp h1 hm1
      refine WL.on rfl rfl (WL.ev rfl rfl (Ev.fa rfl fo60_0 rfl) (WL.on rfl rfl (WL.ev rfl rfl (Ev.ld rfl ag3 rfl ((H.rB (i := 0) rfl).cell rfl)) (WL.on rfl rfl (WL.ev rfl rfl (Ev.mv rfl rfl) (WL.on rfl rfl ?_))))))
      have hl1 := (H.rS (i := 0) rfl).I
      refine WL.ev rfl rfl (Ev.lenV rfl el76 rfl (H.rS (i := 0) rfl)) (WL.on rfl rfl (WL.ev rfl rfl (Ev.bin rfl rfl rfl Bin.neq) (WL.ev rfl rfl (Ev.pickF rfl rfl rfl) (WL.nil ?_))))
      obtain rfl := sm hm1
      exact ⟨(!(decide (a1.N = (a0.length : Int)))), rfl, ⟨rfl, rfl, rfl, trivial⟩, H.keep 3 1⟩
  · rintro ρ' w3 ⟨s1, rfl, hag, H⟩
    obtain ⟨σ, rfl⟩ := ofL_ex hag
    obtain ⟨q2, hm2, hr⟩ := bd hr
    refine WL.cut 4 (fun ρ' w => ∃ (s2 : Bool), s2 = q2 ∧ agree ρ' [(0, .slice A0' n0' c0'), (3, .pointer (some ⟨b1, 0, none⟩)), (24, .bool s2)] ∧ HL F0 [] w0 w [Pr.S a0 (.slice A0' n0' c0'), Pr.R a1 [.int .i64 a1.N, .slice A1 n1 c1], Pr.S a1.Rows (.slice A1 n1 c1)] [It.B b1 60 [.int .i64 a1.N, .slice A1 n1 c1]]) ?_ ?_
    · skip
      refine WL.mvB rfl rfl rfl rfl (fun h2 => ?_) (fun h2 => ?_)
      · skip
        have hm2 := ifp h2 hm2
        refine WL.off rfl rfl rfl (WL.off rfl rfl rfl (WL.ev rfl rfl (Ev.pickT rfl rfl rfl) (WL.nil ?_)))
        obtain rfl := sm hm2
        exact ⟨true, rfl, ⟨rfl, rfl, rfl, trivial⟩, H.keep 3 1⟩
      · skip
        have hm2 := ifn h2 hm2
        refine WL.on rfl rfl (WL.ev rfl rfl (Ev.lda rfl ag60 sz60 rfl (At.blk (H.rB (i := 0) rfl)) rfl) (WL.on rfl rfl ?_))
        obtain ⟨y2, hy2, hm2⟩ := bd hm2
        refine WL.call rfl rfl rfl rfl rfl ok123 rfl (sHasLoop_ok hy2 ⟨_, rfl, hI1, (H.rS (i := 2) rfl)⟩) ?_
        rintro _ w4 hE rfl
        have H := H.ext hE
        refine WL.ev rfl rfl (Ev.pickF rfl rfl rfl) (WL.nil ?_)
        obtain rfl := sm hm2
        exact ⟨y2, rfl, ⟨rfl, rfl, rfl, trivial⟩, H.keep 3 1⟩
    · rintro ρ' w5 ⟨s2, rfl, hag, H⟩
      obtain ⟨σ, rfl⟩ := ofL_ex hag
      refine WL.nil ?_
      refine CW.condB rfl (fun h3 => ?_) (fun h3 => ?_)
      · skip
        have hr := ifp h3 hr
        refine CW.seq (CW.reg ?_)
        refine WL.lit0H (α := Phase) rfl rfl rfl el79 sz85 H fun A2 n2 c2 w6 H => ?_
        refine WL.ev rfl rfl (Ev.as rfl rfl) (WL.ev rfl rfl (Ev.as rfl rfl) (WL.nil ?_))
        refine CW.ret ?_
        obtain rfl := sm hr
        exact ⟨_, res2 rfl rfl rfl rfl rfl, H.ext0, _, _, _, rfl, H.outM (fr' := []) [false, true] fun _ _ => trivial⟩
      · skip
        have hr := ifn h3 hr
        refine CW.skip ?_
        refine CW.seq (CW.reg ?_)
        refine WL.lit0H (α := Phase) rfl rfl rfl el79 sz85 H fun A3 n3 c3 w7 H => ?_
        refine WL.ev rfl rfl (Ev.as rfl rfl) (WL.nil ?_)
        refine CW.seq (CW.reg ?_)
        refine WL.ev rfl rfl (Ev.mv rfl rfl) ?_
        have hl2 := (H.rS (i := 0) rfl).I
        refine WL.ev rfl rfl (Ev.lenV rfl el76 rfl (H.rS (i := 0) rfl)) ?_
        obtain ⟨hg1, hr⟩ := grd_some hr
        refine WL.mkH (x := false) rfl rfl rfl el140 sz4 by4 ze4 (fun _ => ⟨rfl, rfl⟩) rfl rfl hg1 H fun A4 n4 c4 w8 H => ?_
        refine WL.ev rfl rfl (Ev.as rfl rfl) (WL.nil ?_)
        refine CW.seq (CW.reg ?_)
        refine WL.ev rfl rfl (Ev.mv rfl rfl) (WL.ev rfl rfl (Ev.lenV rfl el76 rfl (H.rS (i := 0) rfl)) (WL.ev rfl rfl (Ev.as rfl rfl) (WL.nil ?_)))
        obtain ⟨q3, hm3, hr⟩ := bd hr
        refine CW.seq (CW.mid (fun ρ' w => ∃ (s3 : List Phase) (s4 : List Bool) (v1 : Value), q3 = .inl (s3, s4) ∧ agree ρ' [(6, v1)] ∧ HL F0 [] w0 w [Pr.S a0 (.slice A0' n0' c0'), Pr.R a1 [.int .i64 a1.N, .slice A1 n1 c1], Pr.S a1.Rows (.slice A1 n1 c1)] [It.B b1 60 [.int .i64 a1.N, .slice A1 n1 c1], It.O 85 s3 v1, It.O 4 s4 (.slice A4 n4 c4)]) ?_ ?_)
        · skip
          obtain ⟨m1, hq1⟩ := iterO_some.1 hm3
          refine CW.block (CW.loop (α := Nat × (List Phase) × (List Bool) × Int × Value) (fun ⟨m1, s5, s6, s7, v2⟩ => [(0, .slice A0' n0' c0'), (3, .pointer (some ⟨b1, 0, none⟩)), (6, v2), (7, .slice A4 n4 c4), (8, .int .i64 s7)]) (fun ⟨m1, s5, s6, s7, v2⟩ w => iterN (sPhasesOf_L1 a0 a1) m1 (s5, s6, s7) = some q3 ∧ I64 s7 ∧ HL F0 [] w0 w [Pr.S a0 (.slice A0' n0' c0'), Pr.R a1 [.int .i64 a1.N, .slice A1 n1 c1], Pr.S a1.Rows (.slice A1 n1 c1)] [It.B b1 60 [.int .i64 a1.N, .slice A1 n1 c1], It.O 85 s5 v2, It.O 4 s6 (.slice A4 n4 c4)]) (fun ⟨m1, s5, s6, s7, v2⟩ => m1) ⟨m1, ([] : List Phase), (List.replicate a0.length false), (a0.length : Int), (.slice A3 n3 c3)⟩ ⟨rfl, rfl, rfl, rfl, rfl, trivial⟩ ⟨hq1, hl2, H.keep 3 3⟩ ?_)
          rintro ⟨m1, s5, s6, s7, v2⟩ σ w9 ⟨hq1, hI2, H⟩
          obtain ⟨A5, n5, c5, rfl⟩ := (H.rO (i := 1) rfl).form3
          obtain ⟨m2, z1, rfl, hb1, hs1, ht1⟩ := iterN_go hq1
          refine CW.seq (CW.seq (CW.reg ?_))
          refine WL.ev rfl rfl (Ev.mv rfl rfl) (WL.ev rfl rfl (Ev.bin rfl rfl rfl Bin.gtr) ?_)
          obtain ⟨q4, hm4, hb1⟩ := bd hb1
          refine WL.cut 5 (fun ρ' w => ∃ (s8 : Bool), s8 = q4 ∧ agree ρ' [(0, .slice A0' n0' c0'), (3, .pointer (some ⟨b1, 0, none⟩)), (6, .slice A5 n5 c5), (7, .slice A4 n4 c4), (8, .int .i64 s7), (38, .bool s8)] ∧ HL F0 [] w0 w [Pr.S a0 (.slice A0' n0' c0'), Pr.R a1 [.int .i64 a1.N, .slice A1 n1 c1], Pr.S a1.Rows (.slice A1 n1 c1)] [It.B b1 60 [.int .i64 a1.N, .slice A1 n1 c1], It.O 85 s5 (.slice A5 n5 c5), It.O 4 s6 (.slice A4 n4 c4)]) ?_ ?_
          · skip
            refine WL.mvD rfl rfl rfl rfl (fun h4 => ?_) (fun h4 => ?_)
            · skip
              have hm4 := ifp h4 hm4
              refine WL.off rfl rfl rfl (WL.off rfl rfl rfl (WL.off rfl rfl rfl (WL.ev rfl rfl (Ev.pickT rfl rfl rfl) (WL.nil ?_))))
              obtain rfl := sm hm4
              exact ⟨true, rfl, ⟨rfl, rfl, rfl, rfl, rfl, rfl, trivial⟩, H.keep 3 3⟩
            · skip
              have hm4 := ifn h4 hm4
              refine WL.on rfl rfl (WL.ev rfl rfl (Ev.mv rfl rfl) (WL.on rfl rfl ?_))
              have hl3 := (H.rO (i := 1) rfl).I
              refine WL.ev rfl rfl (Ev.lenV rfl el79 rfl (H.rO (i := 1) rfl)) (WL.on rfl rfl (WL.ev rfl rfl (Ev.bin rfl rfl rfl Bin.eql) (WL.ev rfl rfl (Ev.pickF rfl rfl rfl) (WL.nil ?_))))
              obtain rfl := sm hm4
              exact ⟨(decide ((s5.length : Int) = 0)), rfl, ⟨rfl, rfl, rfl, rfl, rfl, rfl, trivial⟩, H.keep 3 3⟩
          · rintro ρ' w10 ⟨s8, rfl, hag, H⟩
            obtain ⟨σ, rfl⟩ := ofL_ex hag
            refine WL.nil ?_
            refine CW.condB rfl (fun h5 => ?_) (fun h5 => ?_)
            · skip
              have hb1 := ifp h5 hb1
              refine CW.skip ?_
              refine CW.block (CW.seq (CW.reg ?_))
              refine WL.ev rfl rfl (Ev.mv rfl rfl) (WL.ev rfl rfl (Ev.lda rfl ag60 sz60 rfl (At.blk (H.rB (i := 0) rfl)) rfl) (WL.ev rfl rfl (Ev.mv rfl rfl) ?_))
              obtain ⟨⟨y3, z2⟩, hy3, hb1⟩ := bd hb1
              obtain ⟨F', M', hfF, hoF, hcM⟩ := H.callN [false, false, true] ⟨noO, trivial⟩
              obtain ⟨H', hcN⟩ := hcM (ps := [Pr.S a0 (.slice A0' n0' c0'), Pr.S a1.Rows (.slice A1 n1 c1)]) ⟨hfF.get (i := 0) rfl, hfF.get (i := 2) rfl, trivial⟩
              refine WL.call rfl rfl rfl rfl rfl ok124 rfl (sl27Half_ok hy3 hI1 (by decide : I64 1) H') ?_
              rintro _ w11 hE ⟨A6, n6, c6, rfl, H'⟩
              have H := hcN 1 H' rfl ⟨fun _ _ _ _ _ h => h, ⟨fun _ _ _ _ _ h => h, trivial⟩⟩
              refine WL.ev rfl rfl (Ev.build rfl pl85 ze85 rfl rfl rfl rfl) ?_
              refine WL.allocH rfl rfl rfl ze85 H fun b2 w12 H => ?_
              refine WL.stB (i := 4) rfl rfl rfl sz85 rfl rfl rfl rfl (all1 rfl (all1 rfl all0)) H rfl rfl rfl fun w13 H => ?_
              refine WL.nil ?_
              refine CW.seq (CW.reg ?_)
              refine WL.ev rfl rfl (Ev.mv rfl rfl) (WL.ev rfl rfl (Ev.lda rfl ag60 sz60 rfl (At.blk (H.rB (i := 0) rfl)) rfl) (WL.ev rfl rfl (Ev.mv rfl rfl) ?_))
              obtain ⟨⟨y4, z3⟩, hy4, hb1⟩ := bd hb1
              obtain ⟨F', M', hfF, hoF, hcM⟩ := H.callN [false, false, true, false, false] ⟨noO, trivial⟩
              obtain ⟨H', hcN⟩ := hcM (ps := [Pr.S a0 (.slice A0' n0' c0'), Pr.S a1.Rows (.slice A1 n1 c1)]) ⟨hfF.get (i := 0) rfl, hfF.get (i := 2) rfl, trivial⟩
              refine WL.call rfl rfl rfl rfl rfl ok124 rfl (sl27Half_ok hy4 hI1 (by decide : I64 2) H') ?_
              rintro _ w14 hE ⟨A7, n7, c7, rfl, H'⟩
              have H := hcN 1 H' rfl ⟨fun _ _ _ _ _ h => h, ⟨fun _ _ _ _ _ h => h, trivial⟩⟩
              refine WL.ev rfl rfl (Ev.fa rfl fo85_1 rfl) ?_
              refine WL.stB (i := 4) rfl rfl rfl sz82 rfl rfl rfl rfl (all1 rfl all0) H rfl rfl rfl fun w15 H => ?_
              refine WL.nil ?_
              refine CW.seq (CW.reg ?_)
              refine WL.ev rfl rfl (Ev.fa rfl fo85_0 rfl) (WL.ev rfl rfl (Ev.ld rfl ag82 rfl ((H.rB (i := 4) rfl).cell rfl)) ?_)
              have hl4 := (H.rO (i := 3) rfl).I
              refine WL.ev rfl rfl (Ev.lenV rfl el82 rfl (H.rO (i := 3) rfl)) (WL.ev rfl rfl (Ev.fa rfl fo85_1 rfl) (WL.ev rfl rfl (Ev.ld rfl ag82 rfl ((H.rB (i := 4) rfl).cell rfl)) ?_))
              have hl5 := (H.rO (i := 5) rfl).I
              refine WL.ev rfl rfl (Ev.lenV rfl el82 rfl (H.rO (i := 5) rfl)) ?_
              obtain ⟨hg2, hb1⟩ := grd_some hb1
              refine WL.ev rfl rfl (Ev.bin rfl rfl rfl (Bin.addN (a := y3.length) (b := y4.length) rfl hg2)) (WL.ev rfl rfl (Ev.as rfl rfl) (WL.nil ?_))
              refine CW.seq (CW.seq (CW.reg ?_))
              refine WL.ev rfl rfl (Ev.mv rfl rfl) (WL.ev rfl rfl (Ev.bin rfl rfl rfl Bin.eql) ?_)
              obtain ⟨q5, hm5, hb1⟩ := bd hb1
              refine WL.cut 4 (fun ρ' w => ∃ (s9 : Bool), s9 = q5 ∧ agree ρ' [(0, .slice A0' n0' c0'), (3, .pointer (some ⟨b1, 0, none⟩)), (6, .slice A5 n5 c5), (7, .slice A4 n4 c4), (8, .int .i64 s7), (9, .pointer (some ⟨b2, 0, none⟩)), (10, .int .i64 ((y3.length + y4.length : Nat) : Int)), (61, .bool s9)] ∧ HL F0 [] w0 w [Pr.S a0 (.slice A0' n0' c0'), Pr.R a1 [.int .i64 a1.N, .slice A1 n1 c1], Pr.S a1.Rows (.slice A1 n1 c1)] [It.B b1 60 [.int .i64 a1.N, .slice A1 n1 c1], It.O 85 s5 (.slice A5 n5 c5), It.O 4 z3 (.slice A4 n4 c4), It.O 9 y3 (.slice A6 n6 c6), It.B b2 85 [.slice A6 n6 c6, .slice A7 n7 c7], It.O 9 y4 (.slice A7 n7 c7)]) ?_ ?_
              · skip
                refine WL.mvD rfl rfl rfl rfl (fun h6 => ?_) (fun h6 => ?_)
                · skip
                  have hm5 := ifp h6 hm5
                  refine WL.on rfl rfl (WL.ev rfl rfl (Ev.mv rfl rfl) (WL.on rfl rfl (WL.ev rfl rfl (Ev.bin rfl rfl rfl Bin.gtr) (WL.ev rfl rfl (Ev.pickT rfl rfl rfl) (WL.nil ?_)))))
                  obtain rfl := sm hm5
                  exact ⟨(decide (0 < s7)), rfl, ⟨rfl, rfl, rfl, rfl, rfl, rfl, rfl, rfl, trivial⟩, H.keep 3 6⟩
                · skip
                  have hm5 := ifn h6 hm5
                  refine WL.off rfl rfl rfl (WL.off rfl rfl rfl (WL.ev rfl rfl (Ev.pickF rfl rfl rfl) (WL.nil ?_)))
                  obtain rfl := sm hm5
                  exact ⟨false, rfl, ⟨rfl, rfl, rfl, rfl, rfl, rfl, rfl, rfl, trivial⟩, H.keep 3 6⟩
              · rintro ρ' w16 ⟨s9, rfl, hag, H⟩
                obtain ⟨σ, rfl⟩ := ofL_ex hag
                refine WL.nil ?_
                refine CW.condB rfl (fun h7 => ?_) (fun h7 => ?_)
                · skip
                  have hb1 := ifp h7 hb1
                  refine CW.seq (CW.reg ?_)
                  refine WL.lit0H (α := Phase) rfl rfl rfl el79 sz85 H fun A8 n8 c8 w17 H => ?_
                  refine WL.ev rfl rfl (Ev.as rfl rfl) (WL.ev rfl rfl (Ev.as rfl rfl) (WL.nil ?_))
                  refine CW.ret ?_
                  obtain rfl := sm hb1
                  obtain rfl := ht1 _ rfl
                  obtain rfl := sm hr
                  exact ⟨_, res2 rfl rfl rfl rfl rfl, H.ext0, _, _, _, rfl, H.outM (fr' := []) [false, false, false, false, false, false, true] fun _ _ => trivial⟩
                · skip
                  have hb1 := ifn h7 hb1
                  refine CW.skip ?_
                  refine CW.seq (CW.reg ?_)
                  refine WL.ev rfl rfl (Ev.mv rfl rfl) (WL.ev rfl rfl (Ev.mv rfl rfl) ?_)
                  obtain ⟨hg3, hb1⟩ := grd_some hb1
                  refine WL.ev rfl rfl (Ev.bin rfl rfl rfl (Bin.sub hg3)) (WL.ev rfl rfl (Ev.as rfl rfl) (WL.nil ?_))
                  refine CW.reg ?_
                  refine WL.ev rfl rfl (Ev.mv rfl rfl) (WL.ev rfl rfl (Ev.lda rfl ag85 sz85 rfl (At.blk (H.rB (i := 4) rfl)) rfl) ?_)
                  refine WL.lit1 rfl rfl rfl el79 sz85 ze85 rfl rfl rfl rfl rfl rfl fun b3 w18 hE hb hB => ?_
                  have H := H.newB hE hb hB
                  obtain ⟨hg4, hb1⟩ := grd_some hb1
                  have H := H.give0 (i := 1) rfl
                  have H := H.give (i := 1) (k := 3) rfl rfl (by decide)
                  have H := H.give (i := 1) (k := 5) rfl rfl (by decide)
                  refine WL.appW (i := 1) (y := (⟨y3, y4⟩ : Phase)) rfl rfl rfl el79 sz85 by85 ze85 rfl rfl rfl H rfl (fun C w hC => ?_) ⟨_, _, rfl, At.blk (H.rB (i := 6) rfl)⟩ hg4 fun A9 n9 c9 w19 H => ?_
                  · obtain ⟨L0, R0, rfl, h0, ⟨L1, R1, rfl, h1, hC⟩⟩ := hC
                    exact ⟨_, _, L0, L1, rfl, by simp [show _ = _ from hC], h0, h1⟩
                  refine WL.ev rfl rfl (Ev.as rfl rfl) (WL.nil ?_)
                  obtain rfl := sm hb1
                  exact ⟨⟨m2, (s5 ++ [(⟨y3, y4⟩ : Phase)]), z3, (s7 - ((y3.length + y4.length : Nat) : Int)), (.slice A9 n9 c9)⟩, ⟨rfl, rfl, rfl, rfl, rfl, trivial⟩, ⟨hs1 _ rfl, hg3, H.keep 3 3⟩, Nat.lt_succ_self _⟩
            · skip
              have hb1 := ifn h5 hb1
              refine CW.exit ?_
              obtain rfl := sm hb1
              obtain rfl := ht1 _ rfl
              exact ⟨s5, s6, _, rfl, ⟨rfl, trivial⟩, H.keep 3 3⟩
        · rintro ρ' w20 ⟨s3, s4, v1, rfl, hag, H⟩
          obtain ⟨σ, rfl⟩ := ofL_ex hag
          obtain ⟨A10, n10, c10, rfl⟩ := (H.rO (i := 1) rfl).form3
          refine CW.seq (CW.reg ?_)
          refine WL.ev rfl rfl (Ev.mv rfl rfl) (WL.ev rfl rfl (Ev.as rfl rfl) (WL.ev rfl rfl (Ev.as rfl rfl) (WL.nil ?_)))
          refine CW.ret ?_
          obtain rfl := sm hr
          exact ⟨_, res2 rfl rfl rfl rfl rfl, H.ext0, _, _, _, rfl, H.outM (fr' := []) [false, true, false] fun _ _ => trivial⟩

end Go.Proofs.Ytonnooljidombaa

