/- What slices.SortFunc does by the order of the occurrences: each lemma bears its conditions in its statement. -/
import Derived.Test.YtonnooljidombaaRows
import Derived.Test.YtonnooljidombaaRd
import Derived.Test.YtonnooljidombaaEngD
import Derived.WalkKit
import Derived.WalkSpells
import Derived.WalkLawsBesides
import Derived.Sort.Grow
import Derived.Deep.Quiet
import Derived.Deep.QuietTactic
import Derived.StillTailTactics
import Derived.Sort.Statements
import Derived.Shelf.SlSortCmp.NoneTotal
set_option linter.unusedVariables false
set_option linter.unusedSimpArgs false
set_option linter.ambiguousOpen false
set_option linter.unusedSectionVars false
set_option linter.unnecessarySimpa false
set_option linter.unusedVariables false
set_option linter.unusedSimpArgs false
namespace Go.Proofs.Ytonnooljidombaa
open Go Go.RowKit
set_option maxHeartbeats 1000000
set_option maxRecDepth 100000
open Go.E
theorem ag3 : aggT Try.prog 3 = some false := by kernel_rfl
theorem ag9 : aggT Try.prog 9 = some false := by kernel_rfl
theorem sz3 : szT Try.prog 3 = some 1 := by kernel_rfl
theorem ze3 : zeroT Try.prog 3 = some [.int .i64 0] := by kernel_rfl
theorem el41 : elemT Try.prog 41 = some 3 := by kernel_rfl
theorem fo48_0 : fieldT Try.prog 48 0 = some 0 := by kernel_rfl
theorem fo48_1 : fieldT Try.prog 48 1 = some 1 := by kernel_rfl
theorem hmix : Try.prog.follows .mixedOrders = true := by kernel_rfl
end Go.Proofs.Ytonnooljidombaa

namespace Go.Proofs.Ytonnooljidombaa
open Go Go.E Go.RowKit
theorem bl_irr : ∀ x : List UInt8, Op.bytesLess x x = false
  | [] => rfl
  | a :: x => by simp [Op.bytesLess, bl_irr x]
theorem bl_trans : ∀ x y z : List UInt8, Op.bytesLess x y = true → Op.bytesLess y z = true → Op.bytesLess x z = true
  | _, [], _, h, _ => by simp [Op.bytesLess] at h
  | _, _ :: _, [], _, h => by simp [Op.bytesLess] at h
  | [], _ :: _, _ :: _, _, _ => rfl
  | a :: x, b :: y, c :: z, h1, h2 => by
    simp only [Op.bytesLess, Bool.or_eq_true, Bool.and_eq_true, decide_eq_true_eq, beq_iff_eq] at *
    rcases h1 with h1 | ⟨rfl, h1⟩
    · rcases h2 with h2 | ⟨rfl, h2⟩
      · exact .inl (by rw [UInt8.lt_iff_toNat_lt] at *; omega)
      · exact .inl h1
    · rcases h2 with h2 | ⟨rfl, h2⟩
      · exact .inl h2
      · exact .inr ⟨rfl, bl_trans x y z h1 h2⟩
theorem bl_total : ∀ x y : List UInt8, Op.bytesLess x y = false → Op.bytesLess y x = false → x = y
  | [], [], _, _ => rfl
  | [], _ :: _, h, _ => by simp [Op.bytesLess] at h
  | _ :: _, [], _, h => by simp [Op.bytesLess] at h
  | a :: x, b :: y, h1, h2 => by
    simp only [Op.bytesLess, Bool.or_eq_false_iff, Bool.and_eq_false_iff, decide_eq_false_iff_not, beq_eq_false_iff_ne] at *
    have hab : a = b := by
      have h3 := h1.1; have h4 := h2.1
      rw [UInt8.lt_iff_toNat_lt] at h3 h4
      exact UInt8.toNat_inj.1 (by omega)
    subst hab
    simp at h1 h2
    rw [bl_total x y h1 h2]
theorem toList_inj {x y : ByteArray} (h : x.toList = y.toList) : x = y := by
  rw [ByteArray.toList_eq, ByteArray.toList_eq] at h
  cases x; cases y; simp at h; simp [h]
/-- a goes before b -/
def lessO (a b : Occurrence) : Bool := decide (a.Pos < b.Pos) || (decide (a.Pos = b.Pos) && Op.bytesLess a.Name.toList b.Name.toList)
theorem lessO_swo : Sort.SWO lessO where
  irrefl x := by simp [lessO, bl_irr]
  trans x y z h1 h2 := by
    simp only [lessO, Bool.or_eq_true, Bool.and_eq_true, decide_eq_true_eq] at *
    rcases h1 with h1 | ⟨e1, h1⟩
    · rcases h2 with h2 | ⟨e2, h2⟩
      · exact .inl (by omega)
      · exact .inl (by omega)
    · rcases h2 with h2 | ⟨e2, h2⟩
      · exact .inl (by omega)
      · exact .inr ⟨by omega, bl_trans _ _ _ h1 h2⟩
  ntrans x y z h1 h2 := by
    simp only [lessO, Bool.or_eq_false_iff, Bool.and_eq_false_iff, decide_eq_false_iff_not] at *
    refine ⟨by omega, ?_⟩
    by_cases e : x.Pos = z.Pos
    · have e1 : x.Pos = y.Pos := by omega
      have e2 : y.Pos = z.Pos := by omega
      right
      have a1 := h1.2.resolve_left (by simpa using e1)
      have a2 := h2.2.resolve_left (by simpa using e2)
      cases hb : Op.bytesLess x.Name.toList z.Name.toList with
      | false => rfl
      | true =>
        -- x < z, not x < y, not y < z
        by_cases hyx : Op.bytesLess y.Name.toList x.Name.toList = true
        · rw [bl_trans _ _ _ hyx hb] at a2; cases a2
        · have := bl_total _ _ a1 (by simpa using hyx)
          rw [this, a2] at hb; cases hb
    · exact .inl (by simpa using e)
theorem lessO_total (x y : Occurrence) (h1 : lessO x y = false) (h2 : lessO y x = false) : x = y := by
  simp only [lessO, Bool.or_eq_false_iff, Bool.and_eq_false_iff, decide_eq_false_iff_not] at *
  have e : x.Pos = y.Pos := by omega
  have a1 := h1.2.resolve_left (by simpa using e)
  have a2 := h2.2.resolve_left (by simpa using e.symm)
  have := toList_inj (bl_total _ _ a1 a2)
  cases x; cases y; simp_all
end Go.Proofs.Ytonnooljidombaa

namespace Go.Proofs.Ytonnooljidombaa
open Go Go.E Go.RowKit
end Go.Proofs.Ytonnooljidombaa
namespace Go.Proofs
open Go.Shelf
namespace Ytonnooljidombaa
end Ytonnooljidombaa
end Go.Proofs
namespace Go.Proofs.Ytonnooljidombaa
open Go Go.E Go.RowKit
instance : Inhabited Occurrence := ⟨⟨0, ⟨#[]⟩⟩⟩
/-- the occurrences in order -/
def sortO (l : List Occurrence) : List Occurrence := l.mergeSort fun x y => !lessO y x
end Go.Proofs.Ytonnooljidombaa


