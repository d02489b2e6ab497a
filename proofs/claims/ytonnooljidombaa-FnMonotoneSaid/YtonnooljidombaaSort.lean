/- What slices.SortFunc does by the order of the occurrences: each lemma bears its conditions in its statement. -/
import Derived.Test.YtonnooljidombaaRows
import Derived.Test.YtonnooljidombaaRd
import Derived.Test.YtonnooljidombaaEngD
import Derived.WalkKit
import Derived.WalkSpells
import Derived.WalkLawsBesides
import Derived.Sort.Grow
import Derived.Deep.Quiet
import Derived.Deep.QuietTactic
import Derived.StillTailTactics
import Derived.Sort.Statements
import Derived.Shelf.SlSortCmp.NoneTotal
set_option linter.unusedVariables false
set_option linter.unusedSimpArgs false
set_option linter.ambiguousOpen false
set_option linter.unusedSectionVars false
set_option linter.unnecessarySimpa false
set_option linter.unusedVariables false
set_option linter.unusedSimpArgs false
namespace Go.Proofs.Ytonnooljidombaa
open Go Go.RowKit
set_option maxHeartbeats 1000000
set_option maxRecDepth 100000
theorem nan_int (x : Int) (W : World) : Calls Try.prog 197 #[.int .i64 x] W fun e w' => e = .returned (.bool false) ∧ w' = W := by
  go_enter Try.func197, Try.ntmps197
  go_wp2
  go_ret
  simp
theorem nan_str (x : ByteArray) (W : World) : Calls Try.prog 198 #[.string x] W fun e w' => e = .returned (.bool false) ∧ w' = W := by
  go_enter Try.func198, Try.ntmps198
  go_wp2
  go_ret
  simp
def cmpI (x y : Int) : Int := if x < y then -1 else if y < x then 1 else 0
def cmpS (x y : ByteArray) : Int := if Op.bytesLess x.toList y.toList = true then -1 else if (x.toList == y.toList) = true then 0 else 1
theorem cmp_int (x y : Int) (W : World) : Calls Try.prog 167 #[.int .i64 x, .int .i64 y] W fun e w' => e = .returned (.int .i64 (cmpI x y)) ∧ w' = W := by
  unfold cmpI
  go_enter Try.func167, Try.ntmps167
  go_wp2_with (go_at_call 197; refine (nan_int _ _).mono ?_; rintro e w' ⟨rfl, rfl⟩)
  all_goals (go_ret; simp_all)
theorem cmp_str (x y : ByteArray) (W : World) : Calls Try.prog 168 #[.string x, .string y] W fun e w' => e = .returned (.int .i64 (cmpS x y)) ∧ w' = W := by
  unfold cmpS
  go_enter Try.func168, Try.ntmps168
  go_wp2_with (go_at_call 198; refine (nan_str _ _).mono ?_; rintro e w' ⟨rfl, rfl⟩)
  all_goals (first | go_ret | skip)
  all_goals (simp_all)
theorem cmp_or1 (x y : Int) (hx : x ≠ 0) (g : Nat) (W : World) (h0 : W.cell? ⟨g, 0, none⟩ = some (.int .i64 x)) : Calls Try.prog 166 #[.slice (some ⟨g, 0, none⟩) 2 2] W fun e w' => e = .returned (.int .i64 x) ∧ w' = W := by
  have hb : (x != 0) = true := by simpa using hx
  go_enter Try.func166, Try.ntmps166
  go_wp2
  refine wp_loop_rounds 1 ?_
  simp only [rounds_succ]
  go_wp2
  all_goals (first | (go_ret; simp_all; done) | simp_all)
theorem cmp_or2 (y : Int) (hy : y ≠ 0) (g : Nat) (W : World) (h0 : W.cell? ⟨g, 0, none⟩ = some (.int .i64 0)) (h1 : W.cell? ⟨g, 1, none⟩ = some (.int .i64 y)) : Calls Try.prog 166 #[.slice (some ⟨g, 0, none⟩) 2 2] W fun e w' => e = .returned (.int .i64 y) ∧ w' = W := by
  have hb : (y != 0) = true := by simpa using hy
  go_enter Try.func166, Try.ntmps166
  go_wp2
  refine wp_loop_rounds 2 ?_
  simp only [rounds_succ]
  go_wp2
  simp only [rounds_succ]
  go_wp2
  all_goals (first | (go_ret; simp_all; done) | simp_all)
theorem cmp_or3 (g : Nat) (W : World) (h0 : W.cell? ⟨g, 0, none⟩ = some (.int .i64 0)) (h1 : W.cell? ⟨g, 1, none⟩ = some (.int .i64 0)) : Calls Try.prog 166 #[.slice (some ⟨g, 0, none⟩) 2 2] W fun e w' => e = .returned (.int .i64 0) ∧ w' = W := by
  go_enter Try.func166, Try.ntmps166
  go_wp2
  refine wp_loop_rounds 3 ?_
  simp only [rounds_succ]
  go_wp2
  simp only [rounds_succ]
  go_wp2
  simp only [rounds_succ]
  go_wp2
  all_goals (first | (go_ret; simp_all; done) | simp_all)
theorem cmp_or (x y : Int) (g : Nat) (W : World) (h0 : W.cell? ⟨g, 0, none⟩ = some (.int .i64 x)) (h1 : W.cell? ⟨g, 1, none⟩ = some (.int .i64 y)) : Calls Try.prog 166 #[.slice (some ⟨g, 0, none⟩) 2 2] W fun e w' => e = .returned (.int .i64 (if x ≠ 0 then x else y)) ∧ w' = W := by
  by_cases hx : x = 0
  · subst hx
    by_cases hy : y = 0
    · subst hy; exact cmp_or3 g W h0 h1
    · exact cmp_or2 y hy g W h0 h1
  · rw [if_pos hx]; exact cmp_or1 x y hx g W h0
def cmpO (a b : Occurrence) : Int := if cmpI a.Pos b.Pos ≠ 0 then cmpI a.Pos b.Pos else cmpS a.Name b.Name
open Go.E
theorem ag3 : aggT Try.prog 3 = some false := by kernel_rfl
theorem ag9 : aggT Try.prog 9 = some false := by kernel_rfl
theorem sz3 : szT Try.prog 3 = some 1 := by kernel_rfl
theorem ze3 : zeroT Try.prog 3 = some [.int .i64 0] := by kernel_rfl
theorem el41 : elemT Try.prog 41 = some 3 := by kernel_rfl
theorem fo48_0 : fieldT Try.prog 48 0 = some 0 := by kernel_rfl
theorem fo48_1 : fieldT Try.prog 48 1 = some 1 := by kernel_rfl
theorem ok166 : callable Try.prog 166 = true := by kernel_rfl
theorem ok167 : callable Try.prog 167 = true := by kernel_rfl
theorem ok168 : callable Try.prog 168 = true := by kernel_rfl
theorem hmix : Try.prog.follows .mixedOrders = true := by kernel_rfl
theorem cmp_occR (a b : Occurrence) (W : World) : Ret Try.prog 140 #[.agg #[.int .i64 a.Pos, .string a.Name], .agg #[.int .i64 b.Pos, .string b.Name]] W (fun _ => False) fun v w' => v = .int .i64 (cmpO a b) ∧ Gr W w' := by
  have hI : ∀ W', Ret Try.prog 167 #[.int .i64 a.Pos, .int .i64 b.Pos] W' (fun _ => False) fun v w' => v = .int .i64 (cmpI a.Pos b.Pos) ∧ Gr W' w' := fun W' => (cmp_int a.Pos b.Pos W').mono fun e w' ⟨h1, h2⟩ => ⟨_, h1, by rw [h2]; exact Ext.refl _, rfl, by rw [h2]; exact Gr.refl _⟩
  have hS : ∀ W', Ret Try.prog 168 #[.string a.Name, .string b.Name] W' (fun _ => False) fun v w' => v = .int .i64 (cmpS a.Name b.Name) ∧ Gr W' w' := fun W' => (cmp_str a.Name b.Name W').mono fun e w' ⟨h1, h2⟩ => ⟨_, h1, by rw [h2]; exact Ext.refl _, rfl, by rw [h2]; exact Gr.refl _⟩
  unfold cmpO
  refine enter Try.func140 rfl rfl rfl ?_
  refine CW.seq (CW.reg ?_)
  refine WL.boxG rfl rfl rfl rfl rfl fun b1 w1 g1 hb1 B1 => ?_
  refine WL.boxG rfl rfl rfl rfl rfl fun b2 w2 g2 hb2 B2 => ?_
  have B1 := B1.ext g2.ext
  refine WL.ev rfl rfl (Ev.as rfl rfl) (WL.nil ?_)
  refine CW.seq (CW.quietC (R := Gr) 10 Gr.refl Gr.trans Gr.draw hmix (by kernel_rfl) ?_)
  refine QC.ev rfl rfl (fun w hw => Ev.fa rfl fo48_0 rfl) ?_
  refine QC.ev rfl rfl (fun w hw => Ev.ld rfl ag3 rfl ((B1.ext hw.ext).cell rfl)) ?_
  refine QC.ev rfl rfl (fun w hw => Ev.fa rfl fo48_0 rfl) ?_
  refine QC.ev rfl rfl (fun w hw => Ev.ld rfl ag3 rfl ((B2.ext hw.ext).cell rfl)) ?_
  refine QC.call rfl rfl rfl rfl rfl ok167 rfl (fun w hw => hI w) ?_
  refine QC.ev rfl rfl (fun w hw => Ev.fa rfl fo48_1 rfl) ?_
  refine QC.ev rfl rfl (fun w hw => Ev.ld rfl ag9 rfl ((B1.ext hw.ext).cell rfl)) ?_
  refine QC.ev rfl rfl (fun w hw => Ev.fa rfl fo48_1 rfl) ?_
  refine QC.ev rfl rfl (fun w hw => Ev.ld rfl ag9 rfl ((B2.ext hw.ext).cell rfl)) ?_
  refine QC.call rfl rfl rfl rfl rfl ok168 rfl (fun w hw => hS w) ?_
  refine QC.nil fun w3 g3 => ?_
  refine WL.litNG rfl rfl rfl el41 sz3 ze3 rfl (ball1 rfl (ball1 rfl ball0)) rfl rfl rfl fun g w4 g4 B4 => ?_
  refine WL.call rfl rfl rfl rfl rfl ok166 rfl (M := fun _ => False) (R := fun v w' => v = .int .i64 (if cmpI a.Pos b.Pos ≠ 0 then cmpI a.Pos b.Pos else cmpS a.Name b.Name) ∧ w' = w4) ((cmp_or _ _ g w4 (B4.cell rfl) (B4.cell rfl)).mono fun e w' ⟨h1, h2⟩ => ⟨_, h1, by rw [h2]; exact Ext.refl _, rfl, h2⟩) ?_
  rintro _ w5 hE ⟨rfl, rfl⟩
  refine WL.ev rfl rfl (Ev.as rfl rfl) (WL.nil ?_)
  refine CW.ret ?_
  have g := ((g1.trans g2).trans g3).trans g4
  exact ⟨_, res1 rfl rfl rfl, g.ext, rfl, g⟩
end Go.Proofs.Ytonnooljidombaa

namespace Go.Proofs.Ytonnooljidombaa
open Go Go.E Go.RowKit
theorem bl_irr : ∀ x : List UInt8, Op.bytesLess x x = false
  | [] => rfl
  | a :: x => by simp [Op.bytesLess, bl_irr x]
theorem bl_trans : ∀ x y z : List UInt8, Op.bytesLess x y = true → Op.bytesLess y z = true → Op.bytesLess x z = true
  | _, [], _, h, _ => by simp [Op.bytesLess] at h
  | _, _ :: _, [], _, h => by simp [Op.bytesLess] at h
  | [], _ :: _, _ :: _, _, _ => rfl
  | a :: x, b :: y, c :: z, h1, h2 => by
    simp only [Op.bytesLess, Bool.or_eq_true, Bool.and_eq_true, decide_eq_true_eq, beq_iff_eq] at *
    rcases h1 with h1 | ⟨rfl, h1⟩
    · rcases h2 with h2 | ⟨rfl, h2⟩
      · exact .inl (by rw [UInt8.lt_iff_toNat_lt] at *; omega)
      · exact .inl h1
    · rcases h2 with h2 | ⟨rfl, h2⟩
      · exact .inl h2
      · exact .inr ⟨rfl, bl_trans x y z h1 h2⟩
theorem bl_total : ∀ x y : List UInt8, Op.bytesLess x y = false → Op.bytesLess y x = false → x = y
  | [], [], _, _ => rfl
  | [], _ :: _, h, _ => by simp [Op.bytesLess] at h
  | _ :: _, [], _, h => by simp [Op.bytesLess] at h
  | a :: x, b :: y, h1, h2 => by
    simp only [Op.bytesLess, Bool.or_eq_false_iff, Bool.and_eq_false_iff, decide_eq_false_iff_not, beq_eq_false_iff_ne] at *
    have hab : a = b := by
      have h3 := h1.1; have h4 := h2.1
      rw [UInt8.lt_iff_toNat_lt] at h3 h4
      exact UInt8.toNat_inj.1 (by omega)
    subst hab
    simp at h1 h2
    rw [bl_total x y h1 h2]
theorem toList_inj {x y : ByteArray} (h : x.toList = y.toList) : x = y := by
  rw [ByteArray.toList_eq, ByteArray.toList_eq] at h
  cases x; cases y; simp at h; simp [h]
theorem cmpS_neg (x y : ByteArray) : cmpS x y < 0 ↔ Op.bytesLess x.toList y.toList = true := by
  unfold cmpS
  by_cases h : Op.bytesLess x.toList y.toList = true
  · simp [h]
  · rw [if_neg h]
    constructor
    · intro h0; split at h0 <;> simp at h0
    · intro h0; exact absurd h0 h
/-- a goes before b -/
def lessO (a b : Occurrence) : Bool := decide (a.Pos < b.Pos) || (decide (a.Pos = b.Pos) && Op.bytesLess a.Name.toList b.Name.toList)
theorem cmpO_neg (a b : Occurrence) : decide (cmpO a b < 0) = lessO a b := by
  unfold cmpO lessO cmpI
  by_cases h1 : a.Pos < b.Pos
  · simp [h1]
  · by_cases h2 : b.Pos < a.Pos
    · have : ¬ a.Pos = b.Pos := by omega
      simp [h1, h2, this]
    · have : a.Pos = b.Pos := by omega
      simp only [h1, h2, if_false, ne_eq, not_true_eq_false, this, decide_true, Bool.true_and, Int.lt_irrefl, decide_false, Bool.false_or]
      rw [Bool.eq_iff_iff, decide_eq_true_eq]
      exact cmpS_neg _ _
theorem lessO_swo : Sort.SWO lessO where
  irrefl x := by simp [lessO, bl_irr]
  trans x y z h1 h2 := by
    simp only [lessO, Bool.or_eq_true, Bool.and_eq_true, decide_eq_true_eq] at *
    rcases h1 with h1 | ⟨e1, h1⟩
    · rcases h2 with h2 | ⟨e2, h2⟩
      · exact .inl (by omega)
      · exact .inl (by omega)
    · rcases h2 with h2 | ⟨e2, h2⟩
      · exact .inl (by omega)
      · exact .inr ⟨by omega, bl_trans _ _ _ h1 h2⟩
  ntrans x y z h1 h2 := by
    simp only [lessO, Bool.or_eq_false_iff, Bool.and_eq_false_iff, decide_eq_false_iff_not] at *
    refine ⟨by omega, ?_⟩
    by_cases e : x.Pos = z.Pos
    · have e1 : x.Pos = y.Pos := by omega
      have e2 : y.Pos = z.Pos := by omega
      right
      have a1 := h1.2.resolve_left (by simpa using e1)
      have a2 := h2.2.resolve_left (by simpa using e2)
      cases hb : Op.bytesLess x.Name.toList z.Name.toList with
      | false => rfl
      | true =>
        -- x < z, not x < y, not y < z
        by_cases hyx : Op.bytesLess y.Name.toList x.Name.toList = true
        · rw [bl_trans _ _ _ hyx hb] at a2; cases a2
        · have := bl_total _ _ a1 (by simpa using hyx)
          rw [this, a2] at hb; cases hb
    · exact .inl (by simpa using e)
theorem lessO_total (x y : Occurrence) (h1 : lessO x y = false) (h2 : lessO y x = false) : x = y := by
  simp only [lessO, Bool.or_eq_false_iff, Bool.and_eq_false_iff, decide_eq_false_iff_not] at *
  have e : x.Pos = y.Pos := by omega
  have a1 := h1.2.resolve_left (by simpa using e)
  have a2 := h2.2.resolve_left (by simpa using e.symm)
  have := toList_inj (bl_total _ _ a1 a2)
  cases x; cases y; simp_all
end Go.Proofs.Ytonnooljidombaa

namespace Go.Proofs.Ytonnooljidombaa
open Go Go.E Go.RowKit
end Go.Proofs.Ytonnooljidombaa
namespace Go.Proofs
open Go.Shelf
namespace Ytonnooljidombaa
def sortOcc_ren : Go.Shelf.Ren := ⟨fun | 6 => 139 | 15 => 165 | 14 => 164 | 28 => 195 | 29 => 196 | 20 => 187 | 21 => 188 | 22 => 189 | 23 => 190 | 24 => 191 | 25 => 192 | 26 => 193 | 27 => 194 | 46 => 205 | 47 => 206 | 48 => 207 | 49 => 208 | 50 => 209 | 57 => 211 | n => n, fun | 22 => 33 | 24 => 48 | 25 => 156 | 3 => 3 | 39 => 130 | 0 => 0 | 53 => 191 | 55 => 193 | 4 => 4 | 46 => 185 | 45 => 184 | 50 => 54 | 5 => 5 | 9 => 9 | 66 => 195 | 70 => 199 | 76 => 202 | 77 => 203 | n => n, fun | n => n⟩
theorem sortOcc : Go.Proofs.SlLaysF0.n6 Try.prog sortOcc_ren := {
  mixed := by kernel_rfl,
  f6 := ⟨Try.f139.name, by decide, Try.func139.trans (congrArg some (by kernel_rfl))⟩,
  f14 := ⟨Try.f164.name, by decide, Try.func164.trans (congrArg some (by kernel_rfl))⟩,
  f15 := Try.func165.trans (congrArg some (by kernel_rfl)),
  f20 := ⟨Try.f187.name, by decide, Try.func187.trans (congrArg some (by kernel_rfl))⟩,
  f21 := ⟨Try.f188.name, by decide, Try.func188.trans (congrArg some (by kernel_rfl))⟩,
  f22 := ⟨Try.f189.name, by decide, Try.func189.trans (congrArg some (by kernel_rfl))⟩,
  f23 := ⟨Try.f190.name, by decide, Try.func190.trans (congrArg some (by kernel_rfl))⟩,
  f24 := ⟨Try.f191.name, by decide, Try.func191.trans (congrArg some (by kernel_rfl))⟩,
  f25 := ⟨Try.f192.name, by decide, Try.func192.trans (congrArg some (by kernel_rfl))⟩,
  f26 := ⟨Try.f193.name, by decide, Try.func193.trans (congrArg some (by kernel_rfl))⟩,
  f27 := ⟨Try.f194.name, by decide, Try.func194.trans (congrArg some (by kernel_rfl))⟩,
  f28 := Try.func195.trans (congrArg some (by kernel_rfl)),
  f29 := Try.func196.trans (congrArg some (by kernel_rfl)),
  f46 := ⟨Try.f205.name, by decide, Try.func205.trans (congrArg some (by kernel_rfl))⟩,
  f47 := Try.func206.trans (congrArg some (by kernel_rfl)),
  f48 := Try.func207.trans (congrArg some (by kernel_rfl)),
  f49 := ⟨Try.f208.name, by decide, Try.func208.trans (congrArg some (by kernel_rfl))⟩,
  f50 := ⟨Try.f209.name, by decide, Try.func209.trans (congrArg some (by kernel_rfl))⟩,
  f57 := ⟨Try.f211.name, by decide, Try.func211.trans (congrArg some (by kernel_rfl))⟩,
  t0 := Try.underlying0,
  a0 := Try.isAgg0,
  z0 := Try.sizeOf0,
  v0 := Try.zeroValue0,
  t3 := Try.underlying3,
  a3 := Try.isAgg3,
  z3 := Try.sizeOf3,
  v3 := Try.zeroValue3,
  t4 := Try.underlying4,
  a4 := Try.isAgg4,
  z4 := Try.sizeOf4,
  v4 := Try.zeroValue4,
  t5 := Try.underlying5,
  a5 := Try.isAgg5,
  z5 := Try.sizeOf5,
  v5 := Try.zeroValue5,
  t9 := Try.underlying9,
  a9 := Try.isAgg9,
  z9 := Try.sizeOf9,
  v9 := Try.zeroValue9,
  t22 := Try.underlying33,
  a22 := Try.isAgg33,
  z22 := Try.sizeOf33,
  v22 := Try.zeroValue33,
  t25 := Try.underlying156,
  a25 := Try.isAgg156,
  z25 := Try.sizeOf156,
  v25 := Try.zeroValue156,
  t39 := Try.underlying130,
  a39 := Try.isAgg130,
  z39 := Try.sizeOf130,
  v39 := Try.zeroValue130,
  t45 := Try.underlying184,
  a45 := Try.isAgg184,
  z45 := Try.sizeOf184,
  v45 := Try.zeroValue184,
  t46 := Try.underlying185,
  a46 := Try.isAgg185,
  z46 := Try.sizeOf185,
  v46 := Try.zeroValue185,
  t50 := Try.underlying54,
  a50 := Try.isAgg54,
  z50 := Try.sizeOf54,
  v50 := Try.zeroValue54,
  t53 := Try.underlying191,
  a53 := Try.isAgg191,
  z53 := Try.sizeOf191,
  v53 := Try.zeroValue191,
  t55 := Try.underlying193,
  a55 := Try.isAgg193,
  z55 := Try.sizeOf193,
  v55 := Try.zeroValue193,
  t66 := Try.underlying195,
  a66 := Try.isAgg195,
  z66 := Try.sizeOf195,
  v66 := Try.zeroValue195,
  t70 := Try.underlying199,
  a70 := Try.isAgg199,
  z70 := Try.sizeOf199,
  v70 := Try.zeroValue199,
  t76 := Try.underlying202,
  a76 := Try.isAgg202,
  z76 := Try.sizeOf202,
  v76 := Try.zeroValue202,
  t77 := Try.underlying203,
  a77 := Try.isAgg203,
  z77 := Try.sizeOf203,
  v77 := Try.zeroValue203 }


end Ytonnooljidombaa
end Go.Proofs
namespace Go.Proofs.Ytonnooljidombaa
open Go Go.E Go.RowKit
instance : Inhabited Occurrence := ⟨⟨0, ⟨#[]⟩⟩⟩
def encO (x : Occurrence) : List Value := [.int .i64 x.Pos, .string x.Name]
theorem own_occ {L : List Nat} {w : World} {x : Occurrence} {cs : List Value} (h : Sep.own L w x cs) : L = [] ∧ cs = encO x ∧ (I64 x.Pos ∧ x.Name.size ≤ 9223372036854775807) := by
  obtain ⟨rfl, h0, h1, rfl⟩ := h
  exact ⟨rfl, rfl, h0, h1⟩
theorem occ_own {w : World} {x : Occurrence} (h : I64 x.Pos ∧ x.Name.size ≤ 9223372036854775807) : Sep.own [] w x (encO x) := ⟨rfl, h.1, h.2, rfl⟩
theorem cmp_lays (blk off size : Nat) (w : World) : CmpLays Try.prog 140 #[] encO 2 cmpO blk off size w := fun _ _ _ _ x y =>
  Calls.mono (cmp_occR x y _) fun e w' ⟨v, h1, _, h2, h3⟩ => ⟨by rw [h1, h2], h3⟩
theorem ltOf_cmpO : ltOf cmpO = lessO := by funext x y; exact cmpO_neg x y
/-- the occurrences in order -/
def sortO (l : List Occurrence) : List Occurrence := l.mergeSort fun x y => !lessO y x
theorem sort_row {a0 : List Occurrence} {F0 : Nat → Prop} {M : List Nat} {w0 : World} {A0 : Option Addr} {n0 c0 : Nat} (hbig : a0.length < 4611686018427387904) (H : HL F0 M w0 w0 [] [It.O 48 a0 (.slice A0 n0 c0)]) :
    Ret Try.prog 139 #[.slice A0 n0 c0, .func (.func 140) #[] #[]] w0 (· ∈ M) fun v w => v = .tuple #[] ∧ HL F0 M w0 w [] [It.O 48 (sortO a0) (.slice A0 n0 c0)] := by
  have hlen := (H.rO (i := 0) rfl).len
  by_cases h0 : a0 = []
  · subst h0
    obtain rfl : n0 = 0 := by have := hlen; simp at this; omega
    have es : sortO [] = [] := by unfold sortO; simp
    have hc := AnyF.slices_SortFunc_none sortOcc A0 c0 (.func (.func 140) #[] #[]) w0
    change Calls Try.prog 139 _ _ _ at hc
    exact hc.mono fun e w' ⟨h1, h2⟩ => ⟨_, h1, by rw [h2]; exact Chg.refl _, rfl, by rw [h2, es]; exact H⟩
  · obtain ⟨x0, hx0⟩ : ∃ x, a0[0]? = some x := ⟨_, List.getElem?_eq_getElem (List.length_pos_iff.2 h0)⟩
    obtain ⟨g, c, hv, _⟩ := H.ptO (i := 0) rfl hx0
    injection hv with e1 e2 e3
    subst e1; subst e2; subst e3
    obtain ⟨hH, hblk, _, hm, hok, hnext⟩ := HL.holdsK (enc := encO) (ok := fun x => I64 x.Pos ∧ x.Name.size ≤ 9223372036854775807) (i := 0) own_occ (fun _ => rfl) H rfl h0
    have eg : ∀ args w, (callFunc 140 args).run Try.prog w = .ok (.enter 140 args) w := enters_of Try.func140 (by kernel_rfl) rfl
    have hc := AnyQ.slices_SortFunc_total sortOcc 2 Try.isAgg48 Try.sizeOf48 encO (fun _ => rfl) (fun x v hv => by simp [encO] at hv; rcases hv with rfl | rfl <;> rfl) cmpO (by rw [ltOf_cmpO]; exact lessO_swo) 140 #[] g 0 c0 a0.toArray w0 eg (cmp_lays _ _ _ _) hH hblk (by simpa using hbig) (by rw [ltOf_cmpO]; exact lessO_total)
    change Calls Try.prog 139 _ _ _ at hc
    rw [ltOf_cmpO] at hc
    refine hc.mono fun e w' ⟨h1, n, os, h2⟩ => ?_
    have hN := hnext (ys := sortO a0) (n := n) (os := os) (List.length_mergeSort a0) (fun y hy => hok y (List.mem_mergeSort.1 hy)) occ_own h2
    exact ⟨_, h1, hN.chg, rfl, hN⟩
end Go.Proofs.Ytonnooljidombaa


