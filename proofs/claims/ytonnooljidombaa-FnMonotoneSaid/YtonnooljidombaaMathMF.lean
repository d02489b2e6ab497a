/- What those partial functions come to: plain lemmas on data; each bears its conditions in its statement. -/
import Derived.Test.YtonnooljidombaaMathME
set_option linter.unusedVariables false
set_option linter.unusedSimpArgs false
set_option linter.ambiguousOpen false
set_option linter.unusedSectionVars false
set_option linter.unnecessarySimpa false
set_option linter.unusedVariables false
set_option linter.unusedSimpArgs false
namespace Go.Proofs.Ytonnooljidombaa
open Go Go.E
/-! ### names -/
theorem wi_eq (x lo hi : Int) : iwithin_m x lo hi = some (decide (lo ≤ x ∧ x ≤ hi)) := by
  unfold iwithin_m; by_cases h : lo ≤ x <;> simp [h]
theorem si_eq (x lo hi : Int) : sl1In_m x lo hi = some (decide (lo ≤ x ∧ x ≤ hi)) := by
  unfold sl1In_m; by_cases h : lo ≤ x <;> simp [h]
def lowB (c : UInt8) : Bool := decide (97 ≤ (c.toNat : Int) ∧ (c.toNat : Int) ≤ 122)
def digB (c : UInt8) : Bool := decide (48 ≤ (c.toNat : Int) ∧ (c.toNat : Int) ≤ 57)
def allN (q : Nat → Bool) : Nat → Nat → Bool
  | _, 0 => true
  | i, n + 1 => q i && allN q (i + 1) n
theorem allN_congr {q r : Nat → Bool} : ∀ {n i : Nat}, (∀ k, i ≤ k → q k = r k) → allN q i n = allN r i n
  | 0, _, _ => rfl
  | n + 1, i, h => by rw [allN, allN, h i (Nat.le_refl _), allN_congr fun k hk => h k (by omega)]
theorem findN_allN {ρ : Type} {c : ρ} {q : Nat → Bool} : ∀ {n i : Nat} {f : Nat → Unit → Option (Unit ⊕ ρ)}, (∀ k, k < n → f (i + k) () = some (if q (i + k) = true then .inl () else .inr c)) → findN f i n () = some (if allN q i n = true then .inl () else .inr c)
  | 0, i, f, h => rfl
  | n + 1, i, f, h => by
    have h0 := h 0 (by omega)
    rw [Nat.add_zero] at h0
    rw [findN, h0]
    by_cases hx : q i = true
    · rw [if_pos hx, Option.bind_some]
      show findN f (i + 1) n () = _
      rw [findN_allN fun k hk => by have := h (k + 1) (by omega); rwa [show i + (k + 1) = i + 1 + k by omega] at this]
      simp [allN, hx]
    · rw [if_neg hx]; simp [allN, hx]
def chr (s : ByteArray) (k : Nat) : UInt8 := s.data.getD k 0
theorem chr_some {s : ByteArray} {k : Nat} (h : k < s.size) : s.data[k]? = some (chr s k) := by
  have h' : k < s.data.size := h
  unfold chr
  rw [Array.getD_eq_getD_getElem?, Array.getElem?_eq_getElem h']; rfl
def reservedL : List ByteArray := [⟨#[105, 102]⟩, ⟨#[116, 104, 101, 110]⟩, ⟨#[101, 108, 115, 101]⟩, ⟨#[116, 114, 117, 101]⟩, ⟨#[102, 97, 108, 115, 101]⟩, ⟨#[108, 105, 116]⟩, ⟨#[110, 111, 110, 101]⟩, ⟨#[115, 101, 108, 102]⟩, ⟨#[111, 102]⟩, ⟨#[109, 97, 120]⟩, ⟨#[109, 105, 110]⟩, ⟨#[119, 105, 116, 104]⟩, ⟨#[104, 97, 115]⟩]
def memB (s : ByteArray) (l : List ByteArray) : Bool := l.any fun x => decide (x = s)
def resB (s : ByteArray) : Bool := memB s reservedL
theorem sHas_any (l : List ByteArray) (s : ByteArray) : sl1Has_m l s = some (memB s l) := by
  unfold sl1Has_m
  have : ∀ (l : List ByteArray) (i : Nat), findL (sl1Has_L1 s) i l () = some (if memB s l = true then .inr true else .inl ()) := by
    intro l
    induction l with
    | nil => intro i; rfl
    | cons x l ih =>
      intro i
      rw [findL]
      unfold sl1Has_L1 at ih ⊢
      have hc : memB s (x :: l) = (decide (x = s) || memB s l) := rfl
      by_cases h : x = s
      · rw [if_pos h, hc]; simp [h]
      · rw [if_neg h, Option.bind_some]
        show findL _ (i + 1) l () = _
        rw [ih, hc]; simp [h]
  rw [this, Option.bind_some]
  cases memB s l <;> rfl
theorem sRes_eq (s : ByteArray) : sIsReserved_m s = some (resB s) := by
  unfold sIsReserved_m sl2Reserved_m
  rw [Option.bind_some, sHas_any]; rfl
def nameB (s : ByteArray) : Bool := decide (0 < s.size ∧ s.size ≤ 8) && (lowB (chr s 0) && allN (fun k => lowB (chr s k) || digB (chr s k)) 1 (s.size - 1) && !resB s)
theorem sName_eq (s : ByteArray) : sIsValidName_m s = some (nameB s) := by
  unfold sIsValidName_m sl2Shape_m
  rw [findN_allN (c := false) (q := fun k => lowB (chr s k) || (decide (k ≠ 0) && digB (chr s k))) fun k hk => by
    rw [Nat.zero_add]
    unfold sl2Shape_L1
    rw [chr_some hk, Option.bind_some]
    have e1 : (if 97 ≤ ((chr s k).toNat : Int) then some (decide (((chr s k).toNat : Int) ≤ 122)) else some false) = some (lowB (chr s k)) := by
      unfold lowB; by_cases h : 97 ≤ ((chr s k).toNat : Int) <;> simp [h]
    have e2 : (if 48 ≤ ((chr s k).toNat : Int) then some (decide (((chr s k).toNat : Int) ≤ 57)) else some false) = some (digB (chr s k)) := by
      unfold digB; by_cases h : 48 ≤ ((chr s k).toNat : Int) <;> simp [h]
    rw [e1, e2, Option.bind_some, Option.bind_some]
    cases lowB (chr s k) with
    | true => rfl
    | false =>
      by_cases hk0 : k = 0
      · subst hk0; simp
      · have : ¬ ((k : Int) = 0) := by omega
        rw [if_neg (by simp), if_neg this]
        cases digB (chr s k) <;> simp [hk0]]
  rw [Option.bind_some]
  by_cases h0 : 0 < s.size
  · obtain ⟨n, hn⟩ : ∃ n, s.size = n + 1 := ⟨s.size - 1, by omega⟩
    unfold nameB
    rw [hn, allN, Nat.add_sub_cancel, Nat.zero_add, allN_congr (n := n) (i := 1) (q := fun k => lowB (chr s k) || (decide (k ≠ 0) && digB (chr s k))) (r := fun k => lowB (chr s k) || digB (chr s k)) fun k hk => by simp [show k ≠ 0 by omega]]
    have e0 : (lowB (chr s 0) || (decide ((0 : Nat) ≠ 0) && digB (chr s 0))) = lowB (chr s 0) := by simp
    rw [e0]
    cases hA : (lowB (chr s 0) && allN (fun k => lowB (chr s k) || digB (chr s k)) 1 n) with
    | false => simp [onr]
    | true =>
      rw [if_pos rfl]
      simp only [onr, Option.bind_some]
      by_cases h8 : n + 1 ≤ 8
      · simp [sRes_eq, h8]; omega
      · simp [h8]; omega
  · have hs : s.size = 0 := by omega
    unfold nameB
    rw [hs]
    simp [onr, allN]
end Go.Proofs.Ytonnooljidombaa

