/- How the structs of the program read as data: plain definitions and lemmas, without conditions of their own. -/
import Derived.Test.YtonnooljidombaaEngC
set_option linter.unusedVariables false
set_option linter.unusedSimpArgs false
set_option linter.ambiguousOpen false
set_option linter.unusedSectionVars false
set_option linter.unnecessarySimpa false
set_option linter.unusedVariables false
set_option linter.unusedSimpArgs false
namespace Go.Proofs.Ytonnooljidombaa
open Go Go.E
open Go.E.Rep (rd)
open Go.E.Sep (own)
open Go.E.Sz (szd)
structure Expr where
  Kind : Int
  N : Int
  Pos : Int
  Type_ : Int
  Symbol : ByteArray
  Name : ByteArray
  Args : (List Expr)
noncomputable instance : DecidableEq Expr := fun a b => Classical.propDecidable (a = b)
@[reducible] def Expr_step [i : Sep Expr] : Sep Expr where
  sz := 7
  pos := by decide
  rd S w x cs := ∃ v6 : Value, cs = [.int .i64 x.Kind, .int .i64 x.N, .int .i64 x.Pos, .int .i64 x.Type_, .string x.Symbol, .string x.Name, v6] ∧ I64 x.Kind ∧ I64 x.N ∧ I64 x.Pos ∧ I64 x.Type_ ∧ x.Symbol.size ≤ 9223372036854775807 ∧ x.Name.size ≤ 9223372036854775807 ∧ rdS S w x.Args v6
  len := by rintro S w x cs ⟨v6, rfl, _⟩; rfl
  one := by rintro S w x cs ⟨v6, rfl, h0, h1, h2, h3, h4, h5, s6⟩; obtain ⟨_, _, rfl, _⟩ := s6.form; simp [Value.oneCell']
  mono := by rintro S S' w x cs ⟨v6, rfl, h0, h1, h2, h3, h4, h5, s6⟩ hS; exact ⟨v6, rfl, h0, h1, h2, h3, h4, h5, s6.mono hS⟩
  frame := by rintro S w w' x cs ⟨v6, rfl, h0, h1, h2, h3, h4, h5, s6⟩ hf; exact ⟨v6, rfl, h0, h1, h2, h3, h4, h5, s6.frame hf⟩
  bound := by rintro S w x cs ⟨v6, rfl, h0, h1, h2, h3, h4, h5, s6⟩; exact ⟨v6, rfl, h0, h1, h2, h3, h4, h5, s6.bound⟩
  own L w x cs := ∃ v6 : Value, ∃ L6 : List Nat, cs = [.int .i64 x.Kind, .int .i64 x.N, .int .i64 x.Pos, .int .i64 x.Type_, .string x.Symbol, .string x.Name, v6] ∧ I64 x.Kind ∧ I64 x.N ∧ I64 x.Pos ∧ I64 x.Type_ ∧ x.Symbol.size ≤ 9223372036854775807 ∧ x.Name.size ≤ 9223372036854775807 ∧ L = L6 ∧ ownS L6 w x.Args v6
  own_rd := by rintro L w x cs ⟨v6, L6, rfl, h0, h1, h2, h3, h4, h5, rfl, s6⟩; exact ⟨v6, rfl, h0, h1, h2, h3, h4, h5, s6.rd.mono (fun b hb => by simp [hb])⟩
  own_frame := by rintro L w w' x cs ⟨v6, L6, rfl, h0, h1, h2, h3, h4, h5, rfl, s6⟩ hf; exact ⟨v6, _, rfl, h0, h1, h2, h3, h4, h5, rfl, s6.frame (fun b hb => hf b (by simp [hb]))⟩
  own_lt := by rintro L w x cs ⟨v6, L6, rfl, h0, h1, h2, h3, h4, h5, rfl, s6⟩ b hb; exact s6.lt b hb
@[reducible] def ExprN : Nat → Sep Expr
  | 0 => sepBot Expr 7 (by decide)
  | n + 1 => @Expr_step (ExprN n)
theorem ExprN_sz : ∀ n, (ExprN n).sz = 7
  | 0 => rfl
  | _ + 1 => rfl
instance : Sep Expr := sepLim ExprN 7 (by decide) ExprN_sz
theorem ExprN_rd : ∀ n S w x cs, (ExprN n).rd S w x cs → (ExprN (n + 1)).rd S w x cs
  | 0, _, _, _, _, h => h.elim
  | n + 1, _, _, _, _, ⟨v6, e, h0, h1, h2, h3, h4, h5, s6⟩ => ⟨v6, e, h0, h1, h2, h3, h4, h5, rdS_imp (fun x cs h => ExprN_rd n _ _ x cs h) s6⟩
theorem Expr_rd {S : Nat → Prop} {w : World} {x : Expr} {cs : List Value} : rd S w x cs ↔ ∃ v6 : Value, cs = [.int .i64 x.Kind, .int .i64 x.N, .int .i64 x.Pos, .int .i64 x.Type_, .string x.Symbol, .string x.Name, v6] ∧ I64 x.Kind ∧ I64 x.N ∧ I64 x.Pos ∧ I64 x.Type_ ∧ x.Symbol.size ≤ 9223372036854775807 ∧ x.Name.size ≤ 9223372036854775807 ∧ rdS S w x.Args v6 :=
  ⟨fun ⟨n, h⟩ => by
    cases n with
    | zero => exact h.elim
    | succ n =>
      obtain ⟨v6, e, h0, h1, h2, h3, h4, h5, s6⟩ := h
      exact ⟨v6, e, h0, h1, h2, h3, h4, h5, rdS_imp (fun _ _ h => ⟨n, h⟩) s6⟩,
  fun ⟨v6, e, h0, h1, h2, h3, h4, h5, s6⟩ => by
    obtain ⟨n, s6⟩ := rdS_lim (hsz := ExprN_sz) ExprN_rd s6
    exact ⟨n + 1, v6, e, h0, h1, h2, h3, h4, h5, s6⟩⟩
mutual
def Expr_szf : Expr → Nat
  | ⟨a0, a1, a2, a3, a4, a5, a6⟩ => a4.size + a5.size + Expr_szs a6
def Expr_szs : List Expr → Nat
  | [] => 0
  | x :: xs => 1 + Expr_szf x + Expr_szs xs
end
instance : Sz Expr := ⟨Expr_szf⟩
theorem Expr_szs_eq (a : List Expr) : Expr_szs a = szL a := by
  induction a with
  | nil => rfl
  | cons x xs ih => simp only [Expr_szs, szL, ih]; rfl
theorem Expr_szd (x : Expr) : Sz.szd x = x.Symbol.size + x.Name.size + szL x.Args := by
  cases x; show Expr_szf _ = _; simp only [Expr_szf, Expr_szs_eq]
mutual
def Expr_cn : Expr → Nat
  | ⟨a0, a1, a2, a3, a4, a5, a6⟩ => 1 + 1 + 1 + 1 + 1 + 1 + Expr_cns a6
def Expr_cns : List Expr → Nat
  | [] => 0
  | x :: xs => Expr_cn x + Expr_cns xs
end
mutual
def Expr_mk : Expr → Int → Expr
  | ⟨a0, a1, a2, a3, a4, a5, a6⟩, k => ⟨Mk.mrk a0 (k), Mk.mrk a1 (k + 1), Mk.mrk a2 (k + 1 + 1), Mk.mrk a3 (k + 1 + 1 + 1), Mk.mrk a4 (k + 1 + 1 + 1 + 1), Mk.mrk a5 (k + 1 + 1 + 1 + 1 + 1), Expr_mks a6 (k + 1 + 1 + 1 + 1 + 1 + 1)⟩
def Expr_mks : List Expr → Int → List Expr
  | [], _ => []
  | x :: xs, k => Expr_mk x k :: Expr_mks xs (k + Expr_cn x)
end
mutual
def Expr_hd : Expr → Int → Option Int
  | ⟨a0, a1, a2, a3, a4, a5, a6⟩, k => ((((((((some k).bind (Mk.hd a0)).bind (Mk.hd a1)).bind (Mk.hd a2)).bind (Mk.hd a3)).bind (Mk.hd a4)).bind (Mk.hd a5)).bind (Expr_hds a6))
def Expr_hds : List Expr → Int → Option Int
  | [], k => some k
  | x :: xs, k => (Expr_hd x k).bind (Expr_hds xs)
end
mutual
theorem Expr_cm : ∀ (x : Expr) (k : Int), Expr_cn (Expr_mk x k) = Expr_cn x
  | ⟨a0, a1, a2, a3, a4, a5, a6⟩, k => by simp [Expr_mk, Expr_cn, Expr_cms a6]
theorem Expr_cms : ∀ (xs : List Expr) (k : Int), Expr_cns (Expr_mks xs k) = Expr_cns xs
  | [], _ => rfl
  | x :: xs, k => by simp [Expr_mks, Expr_cns, Expr_cm x, Expr_cms xs]
end
mutual
theorem Expr_lw : ∀ (x : Expr) (k : Int), Expr_hd (Expr_mk x k) k = some (k + Expr_cn x)
  | ⟨a0, a1, a2, a3, a4, a5, a6⟩, k => by simp [Expr_mk, Expr_hd, Expr_cn, Mk.law, hdL_mkL, Expr_lws a6, Int.add_assoc, cntI, cntS, cntB]
theorem Expr_lws : ∀ (xs : List Expr) (k : Int), Expr_hds (Expr_mks xs k) k = some (k + Expr_cns xs)
  | [], _ => by simp [Expr_mks, Expr_hds, Expr_cns]
  | x :: xs, k => by simp [Expr_mks, Expr_hds, Expr_cns, Expr_lw x, Expr_lws xs, Int.add_assoc]
end
instance : Mk Expr where
  mrk := Expr_mk
  cnt := Expr_cn
  hd := Expr_hd
  law := Expr_lw
  cm := Expr_cm
mutual
theorem Expr_cl : ∀ x : Expr, Expr_cn x ≤ 16 * (1 + Expr_szf x)
  | ⟨a0, a1, a2, a3, a4, a5, a6⟩ => by have := Expr_cls a6; simp only [Expr_cn, Expr_szf]; omega
theorem Expr_cls : ∀ xs : List Expr, Expr_cns xs ≤ 16 * Expr_szs xs
  | [] => by simp [Expr_cns]
  | x :: xs => by have := Expr_cl x; have := Expr_cls xs; simp only [Expr_cns, Expr_szs]; omega
end
instance : CntSz Expr := ⟨Expr_cl⟩
instance : MkT Expr where
  mrkT x k := { Kind := x.Kind, N := x.N, Pos := x.Pos, Type_ := x.Type_, Symbol := x.Symbol, Name := x.Name, Args := mkL x.Args (k) }
  cntT x := cntL x.Args
  hdT x k := (some k).bind (hdL x.Args)
  lawT x k := by simp [hdL_mkL, Int.add_assoc]
  cmT x k := by simp [cntL_mkL]
instance : CntTSz Expr := ⟨fun x => by rw [Expr_szd]; show cntL x.Args ≤ _; have := cntL_le x.Args; omega⟩

structure Occurrence where
  Pos : Int
  Name : ByteArray
  deriving DecidableEq
instance : Rep Occurrence where
  sz := 2
  pos := by decide
  rd S w x cs := cs = [.int .i64 x.Pos, .string x.Name] ∧ I64 x.Pos ∧ x.Name.size ≤ 9223372036854775807
  len := by rintro S w x cs ⟨rfl, _⟩; rfl
  one := by rintro S w x cs ⟨rfl, h0, h1⟩; simp [Value.oneCell']
  mono := by rintro S S' w x cs ⟨rfl, h0, h1⟩ hS; exact ⟨rfl, h0, h1⟩
  frame := by rintro S w w' x cs ⟨rfl, h0, h1⟩ hf; exact ⟨rfl, h0, h1⟩
  bound := by rintro S w x cs ⟨rfl, h0, h1⟩; exact ⟨rfl, h0, h1⟩
instance : Sep Occurrence where
  own L w x cs := cs = [.int .i64 x.Pos, .string x.Name] ∧ I64 x.Pos ∧ x.Name.size ≤ 9223372036854775807 ∧ L = []
  own_rd := by rintro L w x cs ⟨rfl, h0, h1, rfl⟩; exact ⟨rfl, h0, h1⟩
  own_frame := by rintro L w w' x cs ⟨rfl, h0, h1, rfl⟩ hf; exact ⟨rfl, h0, h1, rfl⟩
  own_lt := by rintro L w x cs ⟨rfl, h0, h1, rfl⟩ b hb; simp at hb
instance : Sz Occurrence where
  szd x := x.Name.size
instance : Mk Occurrence where
  mrk x k := { Pos := Mk.mrk x.Pos (k), Name := Mk.mrk x.Name (k + 1) }
  cnt x := 1 + 1
  hd x k := ((some k).bind (Mk.hd x.Pos)).bind (Mk.hd x.Name)
  law x k := by simp [Mk.law, hdL_mkL, Int.add_assoc, cntI, cntS, cntB]
  cm x k := by simp [cntL_mkL]
instance : CntSz Occurrence := ⟨fun x => by show 1 + 1 ≤ 16 * (1 + (x.Name.size)); omega⟩
instance : Flat Occurrence := ⟨by rintro S w w2 x cs ⟨rfl, h0, h1⟩; exact ⟨rfl, h0, h1, rfl⟩⟩
instance : FlatN Occurrence := ⟨by rintro L w x cs ⟨rfl, h0, h1, rfl⟩; rfl⟩
theorem Occurrence_eqF (x y : Occurrence) : eqF [.int, .str] [.int .i64 x.Pos, .string x.Name] [.int .i64 y.Pos, .string y.Name] = some (decide (x = y)) := by
  have e : (x = y) ↔ (x.Pos = y.Pos ∧ x.Name = y.Name) := ⟨fun h => by subst h; simp, fun h => by obtain ⟨p1, p2⟩ := x; obtain ⟨q1, q2⟩ := y; simp_all⟩
  rw [show decide (x = y) = decide (x.Pos = y.Pos ∧ x.Name = y.Name) from decide_eq_decide.2 e]; simp [eqF, Bool.decide_and]

structure Slot where
  At : Occurrence
  Value : Int
  deriving DecidableEq
instance : Rep Slot where
  sz := 3
  pos := by decide
  rd S w x cs := cs = [.int .i64 x.At.Pos, .string x.At.Name, .int .i64 x.Value] ∧ I64 x.At.Pos ∧ x.At.Name.size ≤ 9223372036854775807 ∧ I64 x.Value
  len := by rintro S w x cs ⟨rfl, _⟩; rfl
  one := by rintro S w x cs ⟨rfl, h0, h1, h2⟩; simp [Value.oneCell']
  mono := by rintro S S' w x cs ⟨rfl, h0, h1, h2⟩ hS; exact ⟨rfl, h0, h1, h2⟩
  frame := by rintro S w w' x cs ⟨rfl, h0, h1, h2⟩ hf; exact ⟨rfl, h0, h1, h2⟩
  bound := by rintro S w x cs ⟨rfl, h0, h1, h2⟩; exact ⟨rfl, h0, h1, h2⟩
instance : Sep Slot where
  own L w x cs := cs = [.int .i64 x.At.Pos, .string x.At.Name, .int .i64 x.Value] ∧ I64 x.At.Pos ∧ x.At.Name.size ≤ 9223372036854775807 ∧ I64 x.Value ∧ L = []
  own_rd := by rintro L w x cs ⟨rfl, h0, h1, h2, rfl⟩; exact ⟨rfl, h0, h1, h2⟩
  own_frame := by rintro L w w' x cs ⟨rfl, h0, h1, h2, rfl⟩ hf; exact ⟨rfl, h0, h1, h2, rfl⟩
  own_lt := by rintro L w x cs ⟨rfl, h0, h1, h2, rfl⟩ b hb; simp at hb
instance : Sz Slot where
  szd x := x.At.Name.size
instance : Mk Slot where
  mrk x k := { At := { Pos := Mk.mrk x.At.Pos (k), Name := Mk.mrk x.At.Name (k + 1) }, Value := Mk.mrk x.Value (k + 1 + 1) }
  cnt x := 1 + 1 + 1
  hd x k := (((some k).bind (Mk.hd x.At.Pos)).bind (Mk.hd x.At.Name)).bind (Mk.hd x.Value)
  law x k := by simp [Mk.law, hdL_mkL, Int.add_assoc, cntI, cntS, cntB]
  cm x k := by simp [cntL_mkL]
instance : CntSz Slot := ⟨fun x => by show 1 + 1 + 1 ≤ 16 * (1 + (x.At.Name.size)); omega⟩
instance : Flat Slot := ⟨by rintro S w w2 x cs ⟨rfl, h0, h1, h2⟩; exact ⟨rfl, h0, h1, h2, rfl⟩⟩
instance : FlatN Slot := ⟨by rintro L w x cs ⟨rfl, h0, h1, h2, rfl⟩; rfl⟩
structure Relation where
  N : Int
  Rows : (List Int)
  deriving DecidableEq
instance : Rep Relation where
  sz := 2
  pos := by decide
  rd S w x cs := ∃ v1 : Value, cs = [.int .i64 x.N, v1] ∧ I64 x.N ∧ rdS S w x.Rows v1
  len := by rintro S w x cs ⟨v1, rfl, _⟩; rfl
  one := by rintro S w x cs ⟨v1, rfl, h0, s1⟩; obtain ⟨_, _, rfl, _⟩ := s1.form; simp [Value.oneCell']
  mono := by rintro S S' w x cs ⟨v1, rfl, h0, s1⟩ hS; exact ⟨v1, rfl, h0, s1.mono hS⟩
  frame := by rintro S w w' x cs ⟨v1, rfl, h0, s1⟩ hf; exact ⟨v1, rfl, h0, s1.frame hf⟩
  bound := by rintro S w x cs ⟨v1, rfl, h0, s1⟩; exact ⟨v1, rfl, h0, s1.bound⟩
instance : Sep Relation where
  own L w x cs := ∃ v1 : Value, ∃ L1 : List Nat, cs = [.int .i64 x.N, v1] ∧ I64 x.N ∧ L = L1 ∧ ownS L1 w x.Rows v1
  own_rd := by rintro L w x cs ⟨v1, L1, rfl, h0, rfl, s1⟩; exact ⟨v1, rfl, h0, s1.rd.mono (fun b hb => by simp [hb])⟩
  own_frame := by rintro L w w' x cs ⟨v1, L1, rfl, h0, rfl, s1⟩ hf; exact ⟨v1, _, rfl, h0, rfl, s1.frame (fun b hb => hf b (by simp [hb]))⟩
  own_lt := by rintro L w x cs ⟨v1, L1, rfl, h0, rfl, s1⟩ b hb; exact s1.lt b hb
instance : Sz Relation where
  szd x := szL x.Rows
instance : Mk Relation where
  mrk x k := { N := Mk.mrk x.N (k), Rows := mkL x.Rows (k + 1) }
  cnt x := 1 + cntL x.Rows
  hd x k := ((some k).bind (Mk.hd x.N)).bind (hdL x.Rows)
  law x k := by simp [Mk.law, hdL_mkL, Int.add_assoc, cntI, cntS, cntB]
  cm x k := by simp [cntL_mkL]
instance : CntSz Relation := ⟨fun x => by show 1 + cntL x.Rows ≤ 16 * (1 + (szL x.Rows)); have := cntL_le x.Rows; omega⟩
instance : MkT Relation where
  mrkT x k := { N := x.N, Rows := mkL x.Rows (k) }
  cntT x := cntL x.Rows
  hdT x k := (some k).bind (hdL x.Rows)
  lawT x k := by simp [hdL_mkL, Int.add_assoc]
  cmT x k := by simp [cntL_mkL]
instance : CntTSz Relation := ⟨fun x => by show cntL x.Rows ≤ 16 * (szL x.Rows); have := cntL_le x.Rows; omega⟩

structure Phase where
  Inherited : (List ByteArray)
  Synthesized : (List ByteArray)
  deriving DecidableEq
instance : Rep Phase where
  sz := 2
  pos := by decide
  rd S w x cs := ∃ v0 : Value, ∃ v1 : Value, cs = [v0, v1] ∧ rdS S w x.Inherited v0 ∧ rdS S w x.Synthesized v1
  len := by rintro S w x cs ⟨v0, v1, rfl, _⟩; rfl
  one := by rintro S w x cs ⟨v0, v1, rfl, s0, s1⟩; obtain ⟨_, _, rfl, _⟩ := s0.form; obtain ⟨_, _, rfl, _⟩ := s1.form; simp [Value.oneCell']
  mono := by rintro S S' w x cs ⟨v0, v1, rfl, s0, s1⟩ hS; exact ⟨v0, v1, rfl, s0.mono hS, s1.mono hS⟩
  frame := by rintro S w w' x cs ⟨v0, v1, rfl, s0, s1⟩ hf; exact ⟨v0, v1, rfl, s0.frame hf, s1.frame hf⟩
  bound := by rintro S w x cs ⟨v0, v1, rfl, s0, s1⟩; exact ⟨v0, v1, rfl, s0.bound, s1.bound⟩
instance : Sep Phase where
  own L w x cs := ∃ v0 : Value, ∃ v1 : Value, ∃ L0 : List Nat, ∃ L1 : List Nat, cs = [v0, v1] ∧ L = L0 ++ L1 ∧ ownS L0 w x.Inherited v0 ∧ ownS L1 w x.Synthesized v1
  own_rd := by rintro L w x cs ⟨v0, v1, L0, L1, rfl, rfl, s0, s1⟩; exact ⟨v0, v1, rfl, s0.rd.mono (fun b hb => by simp [hb]), s1.rd.mono (fun b hb => by simp [hb])⟩
  own_frame := by rintro L w w' x cs ⟨v0, v1, L0, L1, rfl, rfl, s0, s1⟩ hf; exact ⟨v0, v1, _, _, rfl, rfl, s0.frame (fun b hb => hf b (by simp [hb])), s1.frame (fun b hb => hf b (by simp [hb]))⟩
  own_lt := by rintro L w x cs ⟨v0, v1, L0, L1, rfl, rfl, s0, s1⟩ b hb; simp only [List.mem_append] at hb; rcases hb with hb | hb <;> first | exact s0.lt b hb | exact s1.lt b hb
instance : Sz Phase where
  szd x := szL x.Inherited + szL x.Synthesized
instance : Mk Phase where
  mrk x k := { Inherited := mkL x.Inherited (k), Synthesized := mkL x.Synthesized (k + cntL x.Inherited) }
  cnt x := cntL x.Inherited + cntL x.Synthesized
  hd x k := ((some k).bind (hdL x.Inherited)).bind (hdL x.Synthesized)
  law x k := by simp [Mk.law, hdL_mkL, Int.add_assoc, cntI, cntS, cntB]
  cm x k := by simp [cntL_mkL]
instance : CntSz Phase := ⟨fun x => by show cntL x.Inherited + cntL x.Synthesized ≤ 16 * (1 + (szL x.Inherited + szL x.Synthesized)); have := cntL_le x.Inherited; have := cntL_le x.Synthesized; omega⟩
instance : MkT Phase where
  mrkT x k := { Inherited := mkL x.Inherited (k), Synthesized := mkL x.Synthesized (k + cntL x.Inherited) }
  cntT x := cntL x.Inherited + cntL x.Synthesized
  hdT x k := ((some k).bind (hdL x.Inherited)).bind (hdL x.Synthesized)
  lawT x k := by simp [hdL_mkL, Int.add_assoc]
  cmT x k := by simp [cntL_mkL]
instance : CntTSz Phase := ⟨fun x => by show cntL x.Inherited + cntL x.Synthesized ≤ 16 * (szL x.Inherited + szL x.Synthesized); have := cntL_le x.Inherited; have := cntL_le x.Synthesized; omega⟩

structure Attribute where
  Name : ByteArray
  Type_ : Int
  Mode : Int
  Circular : Bool
  deriving DecidableEq
instance : Rep Attribute where
  sz := 4
  pos := by decide
  rd S w x cs := cs = [.string x.Name, .int .i64 x.Type_, .int .i64 x.Mode, .bool x.Circular] ∧ x.Name.size ≤ 9223372036854775807 ∧ I64 x.Type_ ∧ I64 x.Mode
  len := by rintro S w x cs ⟨rfl, _⟩; rfl
  one := by rintro S w x cs ⟨rfl, h0, h1, h2⟩; simp [Value.oneCell']
  mono := by rintro S S' w x cs ⟨rfl, h0, h1, h2⟩ hS; exact ⟨rfl, h0, h1, h2⟩
  frame := by rintro S w w' x cs ⟨rfl, h0, h1, h2⟩ hf; exact ⟨rfl, h0, h1, h2⟩
  bound := by rintro S w x cs ⟨rfl, h0, h1, h2⟩; exact ⟨rfl, h0, h1, h2⟩
instance : Sep Attribute where
  own L w x cs := cs = [.string x.Name, .int .i64 x.Type_, .int .i64 x.Mode, .bool x.Circular] ∧ x.Name.size ≤ 9223372036854775807 ∧ I64 x.Type_ ∧ I64 x.Mode ∧ L = []
  own_rd := by rintro L w x cs ⟨rfl, h0, h1, h2, rfl⟩; exact ⟨rfl, h0, h1, h2⟩
  own_frame := by rintro L w w' x cs ⟨rfl, h0, h1, h2, rfl⟩ hf; exact ⟨rfl, h0, h1, h2, rfl⟩
  own_lt := by rintro L w x cs ⟨rfl, h0, h1, h2, rfl⟩ b hb; simp at hb
instance : Sz Attribute where
  szd x := x.Name.size
instance : Mk Attribute where
  mrk x k := { Name := Mk.mrk x.Name (k), Type_ := Mk.mrk x.Type_ (k + 1), Mode := Mk.mrk x.Mode (k + 1 + 1), Circular := Mk.mrk x.Circular (k + 1 + 1 + 1) }
  cnt x := 1 + 1 + 1 + 1
  hd x k := ((((some k).bind (Mk.hd x.Name)).bind (Mk.hd x.Type_)).bind (Mk.hd x.Mode)).bind (Mk.hd x.Circular)
  law x k := by simp [Mk.law, hdL_mkL, Int.add_assoc, cntI, cntS, cntB]
  cm x k := by simp [cntL_mkL]
instance : CntSz Attribute := ⟨fun x => by show 1 + 1 + 1 + 1 ≤ 16 * (1 + (x.Name.size)); omega⟩
instance : Flat Attribute := ⟨by rintro S w w2 x cs ⟨rfl, h0, h1, h2⟩; exact ⟨rfl, h0, h1, h2, rfl⟩⟩
instance : FlatN Attribute := ⟨by rintro L w x cs ⟨rfl, h0, h1, h2, rfl⟩; rfl⟩
structure Symbol where
  Name : ByteArray
  Attributes : (List Attribute)
  deriving DecidableEq
instance : Rep Symbol where
  sz := 2
  pos := by decide
  rd S w x cs := ∃ v1 : Value, cs = [.string x.Name, v1] ∧ x.Name.size ≤ 9223372036854775807 ∧ rdS S w x.Attributes v1
  len := by rintro S w x cs ⟨v1, rfl, _⟩; rfl
  one := by rintro S w x cs ⟨v1, rfl, h0, s1⟩; obtain ⟨_, _, rfl, _⟩ := s1.form; simp [Value.oneCell']
  mono := by rintro S S' w x cs ⟨v1, rfl, h0, s1⟩ hS; exact ⟨v1, rfl, h0, s1.mono hS⟩
  frame := by rintro S w w' x cs ⟨v1, rfl, h0, s1⟩ hf; exact ⟨v1, rfl, h0, s1.frame hf⟩
  bound := by rintro S w x cs ⟨v1, rfl, h0, s1⟩; exact ⟨v1, rfl, h0, s1.bound⟩
instance : Sep Symbol where
  own L w x cs := ∃ v1 : Value, ∃ L1 : List Nat, cs = [.string x.Name, v1] ∧ x.Name.size ≤ 9223372036854775807 ∧ L = L1 ∧ ownS L1 w x.Attributes v1
  own_rd := by rintro L w x cs ⟨v1, L1, rfl, h0, rfl, s1⟩; exact ⟨v1, rfl, h0, s1.rd.mono (fun b hb => by simp [hb])⟩
  own_frame := by rintro L w w' x cs ⟨v1, L1, rfl, h0, rfl, s1⟩ hf; exact ⟨v1, _, rfl, h0, rfl, s1.frame (fun b hb => hf b (by simp [hb]))⟩
  own_lt := by rintro L w x cs ⟨v1, L1, rfl, h0, rfl, s1⟩ b hb; exact s1.lt b hb
instance : Sz Symbol where
  szd x := x.Name.size + szL x.Attributes
instance : Mk Symbol where
  mrk x k := { Name := Mk.mrk x.Name (k), Attributes := mkL x.Attributes (k + 1) }
  cnt x := 1 + cntL x.Attributes
  hd x k := ((some k).bind (Mk.hd x.Name)).bind (hdL x.Attributes)
  law x k := by simp [Mk.law, hdL_mkL, Int.add_assoc, cntI, cntS, cntB]
  cm x k := by simp [cntL_mkL]
instance : CntSz Symbol := ⟨fun x => by show 1 + cntL x.Attributes ≤ 16 * (1 + (x.Name.size + szL x.Attributes)); have := cntL_le x.Attributes; omega⟩
instance : MkT Symbol where
  mrkT x k := { Name := x.Name, Attributes := mkL x.Attributes (k) }
  cntT x := cntL x.Attributes
  hdT x k := (some k).bind (hdL x.Attributes)
  lawT x k := by simp [hdL_mkL, Int.add_assoc]
  cmT x k := by simp [cntL_mkL]
instance : CntTSz Symbol := ⟨fun x => by show cntL x.Attributes ≤ 16 * (x.Name.size + szL x.Attributes); have := cntL_le x.Attributes; omega⟩

structure l1Cur where
  b : (List UInt8)
  i : Int
  h : Int
  deriving DecidableEq
instance : Rep l1Cur where
  sz := 3
  pos := by decide
  rd S w x cs := ∃ v0 : Value, cs = [v0, .int .i64 x.i, .int .i64 x.h] ∧ I64 x.i ∧ I64 x.h ∧ rdS S w x.b v0
  len := by rintro S w x cs ⟨v0, rfl, _⟩; rfl
  one := by rintro S w x cs ⟨v0, rfl, h1, h2, s0⟩; obtain ⟨_, _, rfl, _⟩ := s0.form; simp [Value.oneCell']
  mono := by rintro S S' w x cs ⟨v0, rfl, h1, h2, s0⟩ hS; exact ⟨v0, rfl, h1, h2, s0.mono hS⟩
  frame := by rintro S w w' x cs ⟨v0, rfl, h1, h2, s0⟩ hf; exact ⟨v0, rfl, h1, h2, s0.frame hf⟩
  bound := by rintro S w x cs ⟨v0, rfl, h1, h2, s0⟩; exact ⟨v0, rfl, h1, h2, s0.bound⟩
instance : Sep l1Cur where
  own L w x cs := ∃ v0 : Value, ∃ L0 : List Nat, cs = [v0, .int .i64 x.i, .int .i64 x.h] ∧ I64 x.i ∧ I64 x.h ∧ L = L0 ∧ ownS L0 w x.b v0
  own_rd := by rintro L w x cs ⟨v0, L0, rfl, h1, h2, rfl, s0⟩; exact ⟨v0, rfl, h1, h2, s0.rd.mono (fun b hb => by simp [hb])⟩
  own_frame := by rintro L w w' x cs ⟨v0, L0, rfl, h1, h2, rfl, s0⟩ hf; exact ⟨v0, _, rfl, h1, h2, rfl, s0.frame (fun b hb => hf b (by simp [hb]))⟩
  own_lt := by rintro L w x cs ⟨v0, L0, rfl, h1, h2, rfl, s0⟩ b hb; exact s0.lt b hb

end Go.Proofs.Ytonnooljidombaa

