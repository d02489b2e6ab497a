/- What those partial functions come to: plain lemmas on data; each bears its conditions in its statement. -/
import Derived.Test.YtonnooljidombaaMathMW
import Derived.Test.YtonnooljidombaaMathMU
set_option linter.unusedVariables false
set_option linter.unusedSimpArgs false
set_option linter.ambiguousOpen false
set_option linter.unusedSectionVars false
set_option linter.unnecessarySimpa false
set_option linter.unusedVariables false
set_option linter.unusedSimpArgs false
namespace Go.Proofs.Ytonnooljidombaa
open Go Go.E
/-! ### draws -/
/-- there is a result, and it is as Q says -/
def Ok {ρ : Type} (Q : ρ → Prop) (o : Option ρ) : Prop := ∃ r, o = some r ∧ Q r
section
variable {ρ τ σ α : Type} {Q : ρ → Prop} {R : τ → Prop}
theorem Ok.ret {r : ρ} (h : Q r) : Ok Q (some r) := ⟨r, rfl, h⟩
theorem Ok.bind {o : Option ρ} {f : ρ → Option τ} (h : Ok Q o) (hf : ∀ r, Q r → Ok R (f r)) : Ok R (o.bind f) := by
  obtain ⟨r, rfl, hr⟩ := h; exact hf r hr
theorem Ok.grd {c : Prop} [Decidable c] {k : Option τ} (hc : c) (h : Ok R k) : Ok R (Go.E.grd c k) := by rw [grd_pos hc]; exact h
theorem Ok.ite {c : Prop} [Decidable c] {a b : Option τ} (h1 : c → Ok R a) (h2 : ¬ c → Ok R b) : Ok R (if c then a else b) := by
  by_cases hc : c
  · rw [if_pos hc]; exact h1 hc
  · rw [if_neg hc]; exact h2 hc
theorem Ok.mono {Q' : ρ → Prop} {o : Option ρ} (h : Ok Q o) (hq : ∀ r, Q r → Q' r) : Ok Q' o := by
  obtain ⟨r, rfl, hr⟩ := h; exact ⟨r, rfl, hq r hr⟩
theorem eachN_Ok {P : Nat → σ → Prop} {f : Nat → σ → Option σ} : ∀ {n i : Nat} {s : σ}, P i s → (∀ k s, i ≤ k → k < i + n → P k s → Ok (P (k + 1)) (f k s)) → Ok (P (i + n)) (eachN f i n s)
  | 0, i, s, h, _ => ⟨s, rfl, h⟩
  | n + 1, i, s, h, hf => by
    rw [eachN]
    refine (hf i s (Nat.le_refl _) (by omega) h).bind fun r hr => ?_
    have := eachN_Ok (n := n) hr fun k s h1 h2 => hf k s (by omega) (by omega)
    rwa [show i + 1 + n = i + (n + 1) by omega] at this
theorem recO_st {g : Nat → Option ρ} {N : Nat} (h : ∀ n, N ≤ n → g (n + 1) = g n) (h2 : Ok Q (g N)) : Ok Q (recO g) := by
  obtain ⟨r, h3, h4⟩ := h2
  have : ∀ k, g (N + k) = some r := by
    intro k
    induction k with
    | zero => exact h3
    | succ k ih => rw [← Nat.add_assoc, h _ (by omega), ih]
  exact ⟨r, recO_ev N fun n hn => by have := this (n - N); rwa [show N + (n - N) = n by omega] at this, h4⟩
end
/-- a cursor over b -/
def CB (b : List UInt8) (z : l1Cur) : Prop := 0 ≤ z.i ∧ z.b = b
theorem CB.mk' {b : List UInt8} {o z : l1Cur} (h : CB b o) (hz : CB b z) : CB b ⟨o.b, z.i, z.h⟩ := ⟨hz.1, h.2⟩
/-- a draw over b whose value is as P says -/
def Dr {α : Type} (b : List UInt8) (P : α → Prop) (o : Option (α × l1Cur)) : Prop := Ok (fun r => P r.1 ∧ CB b r.2) o
theorem Dr.of {α : Type} {b : List UInt8} {P : α → Prop} {o : Option (α × l1Cur)} (hb : b.length ≤ 1048576) (h : ∃ y z, o = some (y, z) ∧ P y ∧ CurOk z ∧ z.b = b) : Dr b P o := by
  obtain ⟨y, z, e, h1, h2, h3⟩ := h
  exact ⟨(y, z), e, h1, h2.1, h3⟩
theorem CB.ok {b : List UInt8} {z : l1Cur} (hb : b.length ≤ 1048576) (h : CB b z) : CurOk z := ⟨h.1, by rw [h.2]; exact hb⟩
section
variable {b : List UInt8} {o : l1Cur} (hb : b.length ≤ 1048576)
include hb
theorem new_ok : Ok (fun z => CB b z) (sl1New_m b) := by
  obtain ⟨o, h1, h2, h3⟩ := new_some hb
  exact ⟨o, h1, h2.1, h3⟩
theorem below_ok (n : Int) (h : CB b o) : Dr b (fun y => 0 ≤ y ∧ (0 < n → y < n) ∧ (n ≤ 0 → y = 0)) (sl1Below_m n o) := by
  obtain ⟨y, z, h1, h2, h3, h4, h5, h6⟩ := below_some (h.ok hb) n
  exact ⟨(y, z), h1, ⟨h2, h3, h4⟩, h5.1, h6.trans h.2⟩
theorem once_ok (n : Int) (h : CB b o) : Dr b (fun _ => True) (sl1Once_m n o) := by
  unfold sl1Once_m
  refine (below_ok hb n h).bind ?_
  rintro ⟨y, z⟩ ⟨_, hz⟩
  exact .ret ⟨trivial, h.mk' hz⟩
theorem pick_ok {l : List ByteArray} (hl : l ≠ []) (h : CB b o) : Dr b (fun y => y ∈ l) (sl1Pick_m l o) := by
  have hpos := List.length_pos_iff.2 hl
  unfold sl1Pick_m
  refine (below_ok hb _ h).bind ?_
  rintro ⟨y, z⟩ ⟨⟨h1, h2, _⟩, hz⟩
  dsimp only at h1 h2 hz ⊢
  have := h2 (by omega)
  obtain ⟨x, hx⟩ : ∃ x, l[y.toNat]? = some x := ⟨_, List.getElem?_eq_getElem (by omega)⟩
  rw [hx]
  exact .grd h1 (.ret ⟨List.mem_of_getElem? hx, h.mk' hz⟩)
theorem pickInt_ok {l : List Int} (hl : l ≠ []) (h : CB b o) : Dr b (fun y => y ∈ l) (sl1PickInt_m l o) := by
  obtain ⟨y, z, h1, h2, h3, h4⟩ := pickInt_some (h.ok hb) hl
  exact ⟨(y, z), h1, h2, h3.1, h4.trans h.2⟩
theorem name_ok (h : CB b o) : Dr b (fun y => y.size = 1) (sl2Name_m o) := by
  unfold sl2Name_m
  refine (pick_ok hb (by simp) h).bind ?_
  rintro ⟨y, z⟩ ⟨h1, hz⟩
  refine .ret ⟨?_, h.mk' hz⟩
  simp only [List.mem_cons, List.not_mem_nil, or_false] at h1
  rcases h1 with h1 | h1 | h1 | h1 | h1 | h1 | h1 | h1 <;> rw [h1] <;> rfl
theorem sz_nil (k n p t : Int) (s m : ByteArray) : Sz.szd (⟨k, n, p, t, s, m, []⟩ : Expr) = s.size + m.size := by rw [Expr_szd]; rfl
theorem sz_two (k n p t : Int) (s m : ByteArray) (x y : Expr) : Sz.szd (⟨k, n, p, t, s, m, [x, y]⟩ : Expr) = s.size + m.size + (1 + Sz.szd x + (1 + Sz.szd y + 0)) := by rw [Expr_szd]; rfl
theorem sz_one (k n p t : Int) (s m : ByteArray) (x : Expr) : Sz.szd (⟨k, n, p, t, s, m, [x]⟩ : Expr) = s.size + m.size + (1 + Sz.szd x + 0) := by rw [Expr_szd]; rfl
theorem sz_three (k n p t : Int) (s m : ByteArray) (x y z : Expr) : Sz.szd (⟨k, n, p, t, s, m, [x, y, z]⟩ : Expr) = s.size + m.size + (1 + Sz.szd x + (1 + Sz.szd y + (1 + Sz.szd z + 0))) := by rw [Expr_szd]; rfl
theorem nil_size : (⟨#[]⟩ : ByteArray).size = 0 := rfl
theorem leaf_ok (k : Int) {l : List Occurrence} (hl : ∀ q ∈ l, q.Name.size ≤ 8) (h : CB b o) : Dr b (fun e => Sz.szd e ≤ 8) (sl4Leaf_m k l o) := by
  have bare : ∀ {o : l1Cur}, CB b o → ∀ {R : Option (Expr × l1Cur)}, R = (if k = 4 then
      (sl1Once_m 3 o).bind fun (y10, z7) => if y10 = true then some ((⟨7, 0, 0, 0, (⟨#[]⟩ : ByteArray), (⟨#[]⟩ : ByteArray), []⟩ : Expr), (⟨o.b, z7.i, z7.h⟩ : l1Cur)) else some ((⟨6, 0, 0, 0, (⟨#[]⟩ : ByteArray), (⟨#[]⟩ : ByteArray), []⟩ : Expr), (⟨o.b, z7.i, z7.h⟩ : l1Cur))
    else if k = 3 then (sl1Below_m 2 o).bind fun (y11, z8) => (sl4Const_m y11 k).bind fun y12 => some (y12, (⟨o.b, z8.i, z8.h⟩ : l1Cur))
    else if k = 2 then (sl1Below_m 12 o).bind fun (y13, z9) => grd (0 ≤ y13) <| grd (0 ≤ y13 ∧ y13 < 63) <| (sl4Const_m ((2 ^ y13.toNat : Nat) : Int) k).bind fun y14 => some (y14, (⟨o.b, z9.i, z9.h⟩ : l1Cur))
    else (sl1Below_m 9 o).bind fun (y15, z10) => (sl4Const_m y15 1).bind fun y16 => some (y16, (⟨o.b, z10.i, z10.h⟩ : l1Cur))) → Dr b (fun e => Sz.szd e ≤ 8) R := by
    rintro o h R rfl
    refine .ite (fun _ => ?_) fun _ => .ite (fun _ => ?_) fun _ => .ite (fun _ => ?_) fun _ => ?_
    · refine (once_ok hb 3 h).bind ?_
      rintro ⟨y, z⟩ ⟨_, hz⟩
      refine .ite (fun _ => .ret ⟨?_, h.mk' hz⟩) fun _ => .ret ⟨?_, h.mk' hz⟩
      · exact Nat.zero_le _
      · exact Nat.zero_le _
    · refine (below_ok hb 2 h).bind ?_
      rintro ⟨y, z⟩ ⟨_, hz⟩
      refine .ret ⟨?_, h.mk' hz⟩
      exact Nat.zero_le _
    · refine (below_ok hb 12 h).bind ?_
      rintro ⟨y, z⟩ ⟨⟨h1, h2, _⟩, hz⟩
      have := h2 (by omega)
      dsimp only at h1 this
      refine .grd h1 (.grd (by omega) (.ret ⟨?_, h.mk' hz⟩))
      exact Nat.zero_le _
    · refine (below_ok hb 9 h).bind ?_
      rintro ⟨y, z⟩ ⟨_, hz⟩
      refine .ret ⟨?_, h.mk' hz⟩
      exact Nat.zero_le _
  unfold sl4Leaf_m
  refine .ite (fun hl0 => ?_) fun _ => bare h rfl
  refine (once_ok hb 4 h).bind ?_
  rintro ⟨y, z⟩ ⟨_, hz⟩
  have h' := h.mk' hz
  refine .ite (fun _ => ?_) fun _ => ?_
  · exact bare h' rfl
  · refine (below_ok hb _ h').bind ?_
    rintro ⟨y, z⟩ ⟨⟨h1, h2, _⟩, hz⟩
    have := h2 (by omega)
    dsimp only at h1 this
    obtain ⟨x, hx⟩ : ∃ x, l[y.toNat]? = some x := ⟨_, List.getElem?_eq_getElem (by omega)⟩
    dsimp only
    rw [hx]
    refine .grd h1 (.ret ⟨?_, h.mk' hz⟩)
    dsimp only
    rw [sz_nil hb, nil_size hb]
    have := hl x (List.mem_of_getElem? hx)
    omega
/-- how large a free expression of a depth may be -/
def fb (d : Nat) : Nat := 20 * 4 ^ d
theorem fb_pos (d : Nat) : 20 ≤ fb d := by
  have : 1 ≤ 4 ^ d := Nat.one_le_pow _ _ (by omega)
  unfold fb; omega
theorem fb_succ (d : Nat) : fb (d + 1) = 4 * fb d := by unfold fb; rw [Nat.pow_succ]; omega
theorem freeLeaf_ok (h : CB b o) {R : Option (Expr × l1Cur)} (hR : R = (
  (sl1Once_m 5 o).bind fun (y1, z1) =>
  if y1 = true then (
  some ((⟨2, 0, 0, 0, (⟨#[]⟩ : ByteArray), (⟨#[]⟩ : ByteArray), []⟩ : Expr), (⟨o.b, z1.i, z1.h⟩ : l1Cur))
  ) else (
  (sl1Once_m 6 (⟨o.b, z1.i, z1.h⟩ : l1Cur)).bind fun (y2, z2) =>
  if y2 = true then (
  (sl1Below_m 4 (⟨o.b, z2.i, z2.h⟩ : l1Cur)).bind fun (y3, z3) =>
  some ((⟨6, 0, y3, 0, (⟨#[]⟩ : ByteArray), (⟨#[]⟩ : ByteArray), []⟩ : Expr), (⟨o.b, z3.i, z3.h⟩ : l1Cur))
  ) else (
  (sl1Below_m 4 (⟨o.b, z2.i, z2.h⟩ : l1Cur)).bind fun (y4, z4) =>
  grd (I64 (1 + y4)) <|
  (sl1Below_m 4 (⟨o.b, z4.i, z4.h⟩ : l1Cur)).bind fun (y5, z5) =>
  (sl2Name_m (⟨o.b, z5.i, z5.h⟩ : l1Cur)).bind fun (y6, z6) =>
  (sl4Leaf_m (1 + y4) [(⟨y5, y6⟩ : Occurrence)] (⟨o.b, z6.i, z6.h⟩ : l1Cur)).bind fun (y7, z7) =>
  some (y7, (⟨o.b, z7.i, z7.h⟩ : l1Cur))
  )
  ))) : Dr b (fun e => Sz.szd e ≤ 20) R := by
  subst hR
  refine (once_ok hb 5 h).bind ?_
  rintro ⟨y1, z1⟩ ⟨_, h1⟩
  refine .ite (fun _ => .ret ⟨?_, h.mk' h1⟩) fun _ => ?_
  · exact Nat.zero_le _
  refine (once_ok hb 6 (h.mk' h1)).bind ?_
  rintro ⟨y2, z2⟩ ⟨_, h2⟩
  refine .ite (fun _ => ?_) fun _ => ?_
  · refine (below_ok hb 4 (h.mk' h2)).bind ?_
    rintro ⟨y3, z3⟩ ⟨_, h3⟩
    refine .ret ⟨?_, h.mk' h3⟩
    exact Nat.zero_le _
  · refine (below_ok hb 4 (h.mk' h2)).bind ?_
    rintro ⟨y4, z4⟩ ⟨⟨a1, a2, _⟩, h4⟩
    have := a2 (by omega)
    dsimp only at a1 this
    refine .grd (by constructor <;> omega) ?_
    refine (below_ok hb 4 (h.mk' h4)).bind ?_
    rintro ⟨y5, z5⟩ ⟨_, h5⟩
    refine (name_ok hb (h.mk' h5)).bind ?_
    rintro ⟨y6, z6⟩ ⟨hn, h6⟩
    refine (leaf_ok hb _ (by simpa using (show y6.size ≤ 8 by dsimp only at hn; omega)) (h.mk' h6)).bind ?_
    rintro ⟨y7, z7⟩ ⟨hs, h7⟩
    exact .ret ⟨by have hs' : Sz.szd y7 ≤ 8 := hs; show Sz.szd y7 ≤ 20; omega, h.mk' h7⟩
theorem free_st : ∀ (d : Nat) (m : Nat), d < m → ∀ (a : Int) (o : l1Cur), a ≤ d + 1 → sl4Free_n (m + 1) a o = sl4Free_n m a o := by
  intro d
  induction d with
  | zero =>
    intro m hm a o ha
    obtain ⟨m, rfl⟩ : ∃ q, m = q + 1 := ⟨m - 1, by omega⟩
    show sl4Free_B (sl4Free_n (m + 1)) a o = sl4Free_B (sl4Free_n m) a o
    unfold sl4Free_B
    rw [if_pos (by omega), if_pos (by omega)]
  | succ d ih =>
    intro m hm a o ha
    obtain ⟨m, rfl⟩ : ∃ q, m = q + 1 := ⟨m - 1, by omega⟩
    have e : sl4Free_n (m + 1) (a - 1) = sl4Free_n m (a - 1) := funext fun o => ih m (by omega) (a - 1) o (by omega)
    show sl4Free_B (sl4Free_n (m + 1)) a o = sl4Free_B (sl4Free_n m) a o
    unfold sl4Free_B
    rw [e]
theorem free_tot : ∀ (d : Nat) (m : Nat), d < m → ∀ (a : Int) (o : l1Cur), a ≤ d + 1 → -1000000 ≤ a → d ≤ 100000 → CB b o → Dr b (fun e => Sz.szd e ≤ fb d) (sl4Free_n m a o) := by
  intro d
  induction d with
  | zero =>
    intro m hm a o ha _ _ h
    obtain ⟨m, rfl⟩ : ∃ q, m = q + 1 := ⟨m - 1, by omega⟩
    show Dr b _ (sl4Free_B (sl4Free_n m) a o)
    unfold sl4Free_B
    rw [if_pos (by omega)]
    exact (freeLeaf_ok hb h rfl).mono fun r hr => ⟨Nat.le_trans hr.1 (fb_pos hb 0), hr.2⟩
  | succ d ih =>
    intro m hm a o ha h0 hd h
    obtain ⟨m, rfl⟩ : ∃ q, m = q + 1 := ⟨m - 1, by omega⟩
    have hf := fb_pos hb d
    have hs := fb_succ hb d
    show Dr b _ (sl4Free_B (sl4Free_n m) a o)
    unfold sl4Free_B
    by_cases ha2 : a < 2
    · rw [if_pos ha2]; exact (freeLeaf_ok hb h rfl).mono fun r hr => ⟨Nat.le_trans hr.1 (fb_pos hb _), hr.2⟩
    rw [if_neg ha2]
    have ih' : ∀ {o : l1Cur}, CB b o → Dr b (fun e => Sz.szd e ≤ fb d) (sl4Free_n m (a - 1) o) := fun h => ih m (by omega) (a - 1) _ (by omega) (by omega) (by omega) h
    have hg : I64 (a - 1) := by constructor <;> omega
    refine (once_ok hb 4 h).bind ?_
    rintro ⟨y8, z8⟩ ⟨_, h8⟩
    refine .ite (fun _ => (freeLeaf_ok hb (h.mk' h8) rfl).mono fun r hr => ⟨Nat.le_trans hr.1 (fb_pos hb _), hr.2⟩) fun _ => ?_
    refine (below_ok hb 5 (h.mk' h8)).bind ?_
    rintro ⟨y16, z16⟩ ⟨_, h16⟩
    refine .ite (fun _ => ?_) fun _ => .ite (fun _ => ?_) fun _ => ?_
    · refine .grd hg ((ih' (h.mk' h16)).bind ?_)
      rintro ⟨e1, z1⟩ ⟨s1, h1⟩
      refine .grd hg ((ih' (h.mk' h1)).bind ?_)
      rintro ⟨e2, z2⟩ ⟨s2, h2⟩
      refine .grd hg ((ih' (h.mk' h2)).bind ?_)
      rintro ⟨e3, z3⟩ ⟨s3, h3⟩
      refine .ret ⟨?_, h.mk' h3⟩
      dsimp only at s1 s2 s3 ⊢
      rw [sz_three hb, nil_size hb]; omega
    · refine (pick_ok hb (by simp) (h.mk' h16)).bind ?_
      rintro ⟨y20, z20⟩ ⟨h20, c20⟩
      refine (name_ok hb (h.mk' c20)).bind ?_
      rintro ⟨y21, z21⟩ ⟨h21, c21⟩
      refine .grd hg ((ih' (h.mk' c21)).bind ?_)
      rintro ⟨e1, z1⟩ ⟨s1, h1⟩
      refine .ret ⟨?_, h.mk' h1⟩
      have : y20.size = 1 := by
        simp only [List.mem_cons, List.not_mem_nil, or_false] at h20
        rcases h20 with h20 | h20 <;> rw [h20] <;> rfl
      dsimp only at s1 h21 ⊢
      rw [sz_one hb]; omega
    · refine (below_ok hb 12 (h.mk' h16)).bind ?_
      rintro ⟨y23, z23⟩ ⟨⟨a1, a2, _⟩, h23⟩
      have := a2 (by omega)
      dsimp only at a1 this
      refine .grd (by constructor <;> omega) (.grd hg ((ih' (h.mk' h23)).bind ?_))
      rintro ⟨e1, z1⟩ ⟨s1, h1⟩
      refine .grd hg ((ih' (h.mk' h1)).bind ?_)
      rintro ⟨e2, z2⟩ ⟨s2, h2⟩
      refine .ret ⟨?_, h.mk' h2⟩
      dsimp only at s1 s2 ⊢
      rw [sz_two hb, nil_size hb]; omega
theorem free_ok (d : Nat) {a : Int} (ha : a ≤ d + 1) (h0 : -1000000 ≤ a) (hd : d ≤ 100000) (h : CB b o) : Dr b (fun e => Sz.szd e ≤ fb d) (sl4Free_m a o) :=
  recO_st (g := fun n => sl4Free_n n a o) (N := d + 1) (fun n hn => free_st hb d n (by omega) a o ha) (free_tot hb d (d + 1) (by omega) a o ha h0 hd h)
theorem cnt_of {e : Expr} {n : Nat} (h : Sz.szd e ≤ n) : cntE e ≤ n + 1 := by
  have h1 := cntE_len e
  have h2 : Expr_szf e = Sz.szd e := rfl
  omega
theorem draw_ok (h : CB b o) : Dr b (fun e => Sz.szd e ≤ 20480) (sl4Draw_m o) := by
  unfold sl4Draw_m
  refine (below_ok hb 5 h).bind ?_
  rintro ⟨y1, z1⟩ ⟨⟨a1, a2, _⟩, h1⟩
  have := a2 (by omega)
  dsimp only at a1 this
  refine .grd (by constructor <;> omega) ?_
  refine (free_ok hb 5 (a := 1 + y1) (by omega) (by omega) (by omega) (h.mk' h1)).bind ?_
  rintro ⟨e, z2⟩ ⟨s2, h2⟩
  have s2' : Sz.szd e ≤ 20480 := s2
  dsimp only
  rw [sValid_eq (by have := cnt_of hb s2'; omega)]
  refine Ok.bind (Q := fun _ => True) (.ret trivial) fun y3 _ => .ite (fun _ => .ret ⟨s2', h.mk' h2⟩) fun _ => .ret ⟨?_, h.mk' h2⟩
  exact Nat.zero_le _
theorem bent_ok (h : CB b o) : Dr b (fun e => Sz.szd e ≤ 30000) (sl4Bent_m o) := by
  unfold sl4Bent_m
  refine (draw_ok hb h).bind ?_
  rintro ⟨e, z1⟩ ⟨s1, h1⟩
  have s1' : Sz.szd e ≤ 20480 := s1
  have s2 := Expr_szd e
  refine (below_ok hb 14 (h.mk' h1)).bind ?_
  rintro ⟨y2, z2⟩ ⟨_, h2⟩
  dsimp only
  refine .ite (fun _ => ?_) fun _ => .ite (fun _ => ?_) fun _ => .ite (fun _ => ?_) fun _ => .ite (fun _ => ?_) fun _ => .ite (fun _ => ?_) fun _ => .ite (fun _ => ?_) fun _ => ?_
  · refine (below_ok hb 11 (h.mk' h2)).bind ?_
    rintro ⟨y3, z3⟩ ⟨_, h3⟩
    refine .ret ⟨?_, h.mk' h3⟩
    dsimp only; rw [Expr_szd]; dsimp only; omega
  · have hl := szL_length e.Args
    refine .grd (by constructor <;> omega) (.ret ⟨?_, h.mk' h2⟩)
    dsimp only; rw [Expr_szd]; dsimp only; rw [szL_append]
    have : szL [(⟨7, 0, 0, 0, (⟨#[]⟩ : ByteArray), (⟨#[]⟩ : ByteArray), []⟩ : Expr)] = 1 := rfl
    omega
  · refine (pickInt_ok hb (by simp) (h.mk' h2)).bind ?_
    rintro ⟨y3, z3⟩ ⟨_, h3⟩
    refine .ret ⟨?_, h.mk' h3⟩
    dsimp only; rw [Expr_szd]; dsimp only; omega
  · refine (pickInt_ok hb (by simp) (h.mk' h2)).bind ?_
    rintro ⟨y3, z3⟩ ⟨_, h3⟩
    refine .ret ⟨?_, h.mk' h3⟩
    dsimp only; rw [Expr_szd]; dsimp only; omega
  · refine (pick_ok hb (by simp) (h.mk' h2)).bind ?_
    rintro ⟨y3, z3⟩ ⟨h30, h3⟩
    have : y3.size ≤ 2 := by
      simp only [List.mem_cons, List.not_mem_nil, or_false] at h30
      rcases h30 with h30 | h30 | h30 <;> rw [h30] <;> decide
    refine .ret ⟨?_, h.mk' h3⟩
    dsimp only; rw [Expr_szd]; dsimp only; omega
  · have hL : Ok (fun q => Sz.szd (⟨q.2.1, q.2.2.1, q.2.2.2.1, q.2.2.2.2.1, q.2.2.2.2.2.1, q.2.2.2.2.2.2, q.1⟩ : Expr) ≤ 20480 + 5 * 2) (eachN sl4Bent_L1 0 5 (e.Args, e.Kind, e.N, e.Pos, e.Type_, e.Symbol, e.Name)) := by
      refine (eachN_Ok (P := fun k q => Sz.szd (⟨q.2.1, q.2.2.1, q.2.2.2.1, q.2.2.2.2.1, q.2.2.2.2.2.1, q.2.2.2.2.2.2, q.1⟩ : Expr) ≤ 20480 + k * 2) (by dsimp only; rw [Expr_szd]; dsimp only; omega) fun k q _ _ hq => ?_).mono fun q hq => by simpa using hq
      obtain ⟨q1, q2, q3, q4, q5, q6, q7⟩ := q
      dsimp only at hq
      refine .ret ?_
      dsimp only
      rw [sz_two hb, sz_nil hb, nil_size hb]; omega
    refine hL.bind ?_
    rintro ⟨q1, q2, q3, q4, q5, q6, q7⟩ hq
    refine .ret ⟨?_, h.mk' h2⟩
    dsimp only at hq ⊢; omega
  · exact .ret ⟨by dsimp only; omega, h.mk' h2⟩
end
end Go.Proofs.Ytonnooljidombaa

