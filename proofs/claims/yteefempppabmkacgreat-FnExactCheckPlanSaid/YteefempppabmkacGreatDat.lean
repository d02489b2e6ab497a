/- How the structs of the program read as data: plain definitions and lemmas, without conditions of their own. -/
import Derived.Test.YteefempppabmkacGreatEngC
set_option linter.unusedVariables false
set_option linter.unusedSimpArgs false
set_option linter.ambiguousOpen false
set_option linter.unusedSectionVars false
set_option linter.unnecessarySimpa false
set_option linter.unusedVariables false
set_option linter.unusedSimpArgs false
namespace Go.Proofs.YteefempppabmkacGreat
open Go Go.E
open Go.E.Rep (rd)
open Go.E.Sep (own)
open Go.E.Sz (szd)
structure Attribute where
 Name:ByteArray
 Type_:Int
 Mode:Int
 Circular:Bool
 deriving DecidableEq
instance:Rep Attribute where
 sz:=4
 pos:=by decide
 rd S w x cs:=cs=[.string x.Name,.int .i64 x.Type_,.int .i64 x.Mode,.bool x.Circular]∧x.Name.size≤9223372036854775807∧I64 x.Type_∧I64 x.Mode
 len:=by rintro S w x cs ⟨rfl,_⟩; rfl
 one:=by rintro S w x cs ⟨rfl,h0,h1,h2⟩; simp [Value.oneCell']
 mono:=by rintro S S' w x cs ⟨rfl,h0,h1,h2⟩ hS; exact⟨rfl,h0,h1,h2⟩
 frame:=by rintro S w w' x cs ⟨rfl,h0,h1,h2⟩ hf; exact⟨rfl,h0,h1,h2⟩
 bound:=by rintro S w x cs ⟨rfl,h0,h1,h2⟩; exact⟨rfl,h0,h1,h2⟩
instance:Sep Attribute where
 own L w x cs:=cs=[.string x.Name,.int .i64 x.Type_,.int .i64 x.Mode,.bool x.Circular]∧x.Name.size≤9223372036854775807∧I64 x.Type_∧I64 x.Mode∧L=[]
 own_rd:=by rintro L w x cs ⟨rfl,h0,h1,h2,rfl⟩; exact⟨rfl,h0,h1,h2⟩
 own_frame:=by rintro L w w' x cs ⟨rfl,h0,h1,h2,rfl⟩ hf; exact⟨rfl,h0,h1,h2,rfl⟩
 own_lt:=by rintro L w x cs ⟨rfl,h0,h1,h2,rfl⟩ b hb; simp at hb
instance:Sz Attribute where
 szd x:=x.Name.size
instance:Flat Attribute:=⟨by rintro S w w2 x cs ⟨rfl,h0,h1,h2⟩; exact⟨rfl,h0,h1,h2,rfl⟩⟩
structure Symbol where
 Name:ByteArray
 Attributes:(List Attribute)
 deriving DecidableEq
instance:Rep Symbol where
 sz:=2
 pos:=by decide
 rd S w x cs:=∃ v1:Value,cs=[.string x.Name,v1]∧x.Name.size≤9223372036854775807∧rdS S w x.Attributes v1
 len:=by rintro S w x cs ⟨v1,rfl,_⟩; rfl
 one:=by rintro S w x cs ⟨v1,rfl,h0,s1⟩; obtain⟨_,_,rfl,_⟩:=s1.form; simp [Value.oneCell']
 mono:=by rintro S S' w x cs ⟨v1,rfl,h0,s1⟩ hS; exact⟨v1,rfl,h0,s1.mono hS⟩
 frame:=by rintro S w w' x cs ⟨v1,rfl,h0,s1⟩ hf; exact⟨v1,rfl,h0,s1.frame hf⟩
 bound:=by rintro S w x cs ⟨v1,rfl,h0,s1⟩; exact⟨v1,rfl,h0,s1.bound⟩
instance:Sep Symbol where
 own L w x cs:=∃ v1:Value,∃ L1:List Nat,cs=[.string x.Name,v1]∧x.Name.size≤9223372036854775807∧L=L1∧ownS L1 w x.Attributes v1
 own_rd:=by rintro L w x cs ⟨v1,L1,rfl,h0,rfl,s1⟩; exact⟨v1,rfl,h0,s1.rd.mono (fun b hb=>by simp [hb])⟩
 own_frame:=by rintro L w w' x cs ⟨v1,L1,rfl,h0,rfl,s1⟩ hf; exact⟨v1,_,rfl,h0,rfl,s1.frame (fun b hb=>hf b (by simp [hb]))⟩
 own_lt:=by rintro L w x cs ⟨v1,L1,rfl,h0,rfl,s1⟩ b hb; exact s1.lt b hb
instance:Sz Symbol where
 szd x:=x.Name.size+szL x.Attributes
theorem j0t (x:Symbol):Sz.szd x=x.Name.size+szL x.Attributes:=rfl
structure Occurrence where
 Pos:Int
 Name:ByteArray
 deriving DecidableEq
instance:Rep Occurrence where
 sz:=2
 pos:=by decide
 rd S w x cs:=cs=[.int .i64 x.Pos,.string x.Name]∧I64 x.Pos∧x.Name.size≤9223372036854775807
 len:=by rintro S w x cs ⟨rfl,_⟩; rfl
 one:=by rintro S w x cs ⟨rfl,h0,h1⟩; simp [Value.oneCell']
 mono:=by rintro S S' w x cs ⟨rfl,h0,h1⟩ hS; exact⟨rfl,h0,h1⟩
 frame:=by rintro S w w' x cs ⟨rfl,h0,h1⟩ hf; exact⟨rfl,h0,h1⟩
 bound:=by rintro S w x cs ⟨rfl,h0,h1⟩; exact⟨rfl,h0,h1⟩
instance:Sep Occurrence where
 own L w x cs:=cs=[.int .i64 x.Pos,.string x.Name]∧I64 x.Pos∧x.Name.size≤9223372036854775807∧L=[]
 own_rd:=by rintro L w x cs ⟨rfl,h0,h1,rfl⟩; exact⟨rfl,h0,h1⟩
 own_frame:=by rintro L w w' x cs ⟨rfl,h0,h1,rfl⟩ hf; exact⟨rfl,h0,h1,rfl⟩
 own_lt:=by rintro L w x cs ⟨rfl,h0,h1,rfl⟩ b hb; simp at hb
instance:Sz Occurrence where
 szd x:=x.Name.size
theorem z9N (x:Occurrence):Sz.szd x=x.Name.size:=rfl
instance:Flat Occurrence:=⟨by rintro S w w2 x cs ⟨rfl,h0,h1⟩; exact⟨rfl,h0,h1,rfl⟩⟩
instance:FlatN Occurrence:=⟨by rintro L w x cs ⟨rfl,h0,h1,rfl⟩; rfl⟩
theorem q4T (x y:Occurrence):eqF [.int,.str] [.int .i64 x.Pos,.string x.Name] [.int .i64 y.Pos,.string y.Name]=some (decide (x=y)):=by
 have e:(x=y)↔(x.Pos=y.Pos∧x.Name=y.Name):=⟨fun h=>by subst h; simp,fun h=>by obtain⟨p1,p2⟩:=x; obtain⟨q1,q2⟩:=y; simp_all⟩
 rw [show decide (x=y)=decide (x.Pos=y.Pos∧x.Name=y.Name) from decide_eq_decide.2 e]; simp [eqF,Bool.decide_and]
structure Expr where
 Kind:Int
 N:Int
 Pos:Int
 Type_:Int
 Symbol:ByteArray
 Name:ByteArray
 Args:(List Expr)
noncomputable instance:DecidableEq Expr:=fun a b=>Classical.propDecidable (a=b)
@[reducible] def j5Z [i:Sep Expr]:Sep Expr where
 sz:=7
 pos:=by decide
 rd S w x cs:=∃ v6:Value,cs=[.int .i64 x.Kind,.int .i64 x.N,.int .i64 x.Pos,.int .i64 x.Type_,.string x.Symbol,.string x.Name,v6]∧I64 x.Kind∧I64 x.N∧I64 x.Pos∧I64 x.Type_∧x.Symbol.size≤9223372036854775807∧x.Name.size≤9223372036854775807∧rdS S w x.Args v6
 len:=by rintro S w x cs ⟨v6,rfl,_⟩; rfl
 one:=by rintro S w x cs ⟨v6,rfl,h0,h1,h2,h3,h4,h5,s6⟩; obtain⟨_,_,rfl,_⟩:=s6.form; simp [Value.oneCell']
 mono:=by rintro S S' w x cs ⟨v6,rfl,h0,h1,h2,h3,h4,h5,s6⟩ hS; exact⟨v6,rfl,h0,h1,h2,h3,h4,h5,s6.mono hS⟩
 frame:=by rintro S w w' x cs ⟨v6,rfl,h0,h1,h2,h3,h4,h5,s6⟩ hf; exact⟨v6,rfl,h0,h1,h2,h3,h4,h5,s6.frame hf⟩
 bound:=by rintro S w x cs ⟨v6,rfl,h0,h1,h2,h3,h4,h5,s6⟩; exact⟨v6,rfl,h0,h1,h2,h3,h4,h5,s6.bound⟩
 own L w x cs:=∃ v6:Value,∃ L6:List Nat,cs=[.int .i64 x.Kind,.int .i64 x.N,.int .i64 x.Pos,.int .i64 x.Type_,.string x.Symbol,.string x.Name,v6]∧I64 x.Kind∧I64 x.N∧I64 x.Pos∧I64 x.Type_∧x.Symbol.size≤9223372036854775807∧x.Name.size≤9223372036854775807∧L=L6∧ownS L6 w x.Args v6
 own_rd:=by rintro L w x cs ⟨v6,L6,rfl,h0,h1,h2,h3,h4,h5,rfl,s6⟩; exact⟨v6,rfl,h0,h1,h2,h3,h4,h5,s6.rd.mono (fun b hb=>by simp [hb])⟩
 own_frame:=by rintro L w w' x cs ⟨v6,L6,rfl,h0,h1,h2,h3,h4,h5,rfl,s6⟩ hf; exact⟨v6,_,rfl,h0,h1,h2,h3,h4,h5,rfl,s6.frame (fun b hb=>hf b (by simp [hb]))⟩
 own_lt:=by rintro L w x cs ⟨v6,L6,rfl,h0,h1,h2,h3,h4,h5,rfl,s6⟩ b hb; exact s6.lt b hb
@[reducible] def j2Y:Nat→Sep Expr
 | 0=>k1f Expr 7 (by decide)
 | n+1=>@j5Z (j2Y n)
theorem j0M:∀ n,(j2Y n).sz=7
 | 0=>rfl
 | _+1=>rfl
instance:Sep Expr:=j1O j2Y 7 (by decide) j0M
theorem j4z:∀ n S w x cs,(j2Y n).rd S w x cs→(j2Y (n+1)).rd S w x cs
 | 0,_,_,_,_,h=>h.elim
 | n+1,_,_,_,_,⟨v6,e,h0,h1,h2,h3,h4,h5,s6⟩=>⟨v6,e,h0,h1,h2,h3,h4,h5,j5T (fun x cs h=>j4z n _ _ x cs h) s6⟩
theorem j1X:∀ n L w x cs,(j2Y n).own L w x cs→(j2Y (n+1)).own L w x cs
 | 0,_,_,_,_,h=>h.elim
 | n+1,_,_,_,_,⟨v6,L6,e,h0,h1,h2,h3,h4,h5,eL,s6⟩=>⟨v6,L6,e,h0,h1,h2,h3,h4,h5,eL,j4w (fun L x cs h=>j1X n _ _ x cs h) s6⟩
theorem q2r {S:Nat→Prop}{w:World}{x:Expr}{cs:List Value}:rd S w x cs↔∃ v6:Value,cs=[.int .i64 x.Kind,.int .i64 x.N,.int .i64 x.Pos,.int .i64 x.Type_,.string x.Symbol,.string x.Name,v6]∧I64 x.Kind∧I64 x.N∧I64 x.Pos∧I64 x.Type_∧x.Symbol.size≤9223372036854775807∧x.Name.size≤9223372036854775807∧rdS S w x.Args v6:=
 ⟨fun ⟨n,h⟩=>by
  cases n with
  | zero=>exact h.elim
  | succ n=>
   obtain⟨v6,e,h0,h1,h2,h3,h4,h5,s6⟩:=h
   exact⟨v6,e,h0,h1,h2,h3,h4,h5,j5T (fun _ _ h=>⟨n,h⟩) s6⟩,
 fun ⟨v6,e,h0,h1,h2,h3,h4,h5,s6⟩=>by
  obtain⟨n,s6⟩:=j9J (hsz:=j0M) j4z s6
  exact⟨n+1,v6,e,h0,h1,h2,h3,h4,h5,s6⟩⟩
theorem j7V {L:List Nat}{w:World}{x:Expr}{cs:List Value}:own L w x cs↔∃ v6:Value,∃ L6:List Nat,cs=[.int .i64 x.Kind,.int .i64 x.N,.int .i64 x.Pos,.int .i64 x.Type_,.string x.Symbol,.string x.Name,v6]∧I64 x.Kind∧I64 x.N∧I64 x.Pos∧I64 x.Type_∧x.Symbol.size≤9223372036854775807∧x.Name.size≤9223372036854775807∧L=L6∧ownS L6 w x.Args v6:=
 ⟨fun ⟨n,h⟩=>by
  cases n with
  | zero=>exact h.elim
  | succ n=>
   obtain⟨v6,L6,e,h0,h1,h2,h3,h4,h5,eL,s6⟩:=h
   exact⟨v6,L6,e,h0,h1,h2,h3,h4,h5,eL,j4w (fun _ _ _ h=>⟨n,h⟩) s6⟩,
 fun ⟨v6,L6,e,h0,h1,h2,h3,h4,h5,eL,s6⟩=>by
  obtain⟨n,s6⟩:=j7R (hsz:=j0M) j1X s6
  exact⟨n+1,v6,L6,e,h0,h1,h2,h3,h4,h5,eL,s6⟩⟩
mutual
def q9A:Expr→Nat
 | ⟨a0,a1,a2,a3,a4,a5,a6⟩=>a4.size+a5.size+z1z a6
def z1z:List Expr→Nat
 | []=>0
 | x :: xs=>1+q9A x+z1z xs
end
instance:Sz Expr:=⟨q9A⟩
theorem j2Z (a:List Expr):z1z a=szL a:=by
 induction a with
 | nil=>rfl
 | cons x xs ih=>simp only [z1z,szL,ih]; rfl
theorem q7v (x:Expr):Sz.szd x=x.Symbol.size+x.Name.size+szL x.Args:=by
 cases x; show q9A _=_; simp only [q9A,j2Z]
structure Equation where
 At:Occurrence
 Expr:Expr
instance:Rep Equation where
 sz:=9
 pos:=by decide
 rd S w x cs:=∃ v8:Value,cs=[.int .i64 x.At.Pos,.string x.At.Name,.int .i64 x.Expr.Kind,.int .i64 x.Expr.N,.int .i64 x.Expr.Pos,.int .i64 x.Expr.Type_,.string x.Expr.Symbol,.string x.Expr.Name,v8]∧I64 x.At.Pos∧x.At.Name.size≤9223372036854775807∧I64 x.Expr.Kind∧I64 x.Expr.N∧I64 x.Expr.Pos∧I64 x.Expr.Type_∧x.Expr.Symbol.size≤9223372036854775807∧x.Expr.Name.size≤9223372036854775807∧rdS S w x.Expr.Args v8
 len:=by rintro S w x cs ⟨v8,rfl,_⟩; rfl
 one:=by rintro S w x cs ⟨v8,rfl,h0,h1,h2,h3,h4,h5,h6,h7,s8⟩; obtain⟨_,_,rfl,_⟩:=s8.form; simp [Value.oneCell']
 mono:=by rintro S S' w x cs ⟨v8,rfl,h0,h1,h2,h3,h4,h5,h6,h7,s8⟩ hS; exact⟨v8,rfl,h0,h1,h2,h3,h4,h5,h6,h7,s8.mono hS⟩
 frame:=by rintro S w w' x cs ⟨v8,rfl,h0,h1,h2,h3,h4,h5,h6,h7,s8⟩ hf; exact⟨v8,rfl,h0,h1,h2,h3,h4,h5,h6,h7,s8.frame hf⟩
 bound:=by rintro S w x cs ⟨v8,rfl,h0,h1,h2,h3,h4,h5,h6,h7,s8⟩; exact⟨v8,rfl,h0,h1,h2,h3,h4,h5,h6,h7,s8.bound⟩
instance:Sep Equation where
 own L w x cs:=∃ v8:Value,∃ L8:List Nat,cs=[.int .i64 x.At.Pos,.string x.At.Name,.int .i64 x.Expr.Kind,.int .i64 x.Expr.N,.int .i64 x.Expr.Pos,.int .i64 x.Expr.Type_,.string x.Expr.Symbol,.string x.Expr.Name,v8]∧I64 x.At.Pos∧x.At.Name.size≤9223372036854775807∧I64 x.Expr.Kind∧I64 x.Expr.N∧I64 x.Expr.Pos∧I64 x.Expr.Type_∧x.Expr.Symbol.size≤9223372036854775807∧x.Expr.Name.size≤9223372036854775807∧L=L8∧ownS L8 w x.Expr.Args v8
 own_rd:=by rintro L w x cs ⟨v8,L8,rfl,h0,h1,h2,h3,h4,h5,h6,h7,rfl,s8⟩; exact⟨v8,rfl,h0,h1,h2,h3,h4,h5,h6,h7,s8.rd.mono (fun b hb=>by simp [hb])⟩
 own_frame:=by rintro L w w' x cs ⟨v8,L8,rfl,h0,h1,h2,h3,h4,h5,h6,h7,rfl,s8⟩ hf; exact⟨v8,_,rfl,h0,h1,h2,h3,h4,h5,h6,h7,rfl,s8.frame (fun b hb=>hf b (by simp [hb]))⟩
 own_lt:=by rintro L w x cs ⟨v8,L8,rfl,h0,h1,h2,h3,h4,h5,h6,h7,rfl,s8⟩ b hb; exact s8.lt b hb
instance:Sz Equation where
 szd x:=x.At.Name.size+x.Expr.Symbol.size+x.Expr.Name.size+szL x.Expr.Args
theorem z3E (x:Equation):Sz.szd x=x.At.Name.size+x.Expr.Symbol.size+x.Expr.Name.size+szL x.Expr.Args:=rfl
structure Contribution where
 Symbol:ByteArray
 Name:ByteArray
 Target:Expr
 Value:Expr
instance:Rep Contribution where
 sz:=16
 pos:=by decide
 rd S w x cs:=∃ v8:Value,∃ v15:Value,cs=[.string x.Symbol,.string x.Name,.int .i64 x.Target.Kind,.int .i64 x.Target.N,.int .i64 x.Target.Pos,.int .i64 x.Target.Type_,.string x.Target.Symbol,.string x.Target.Name,v8,.int .i64 x.Value.Kind,.int .i64 x.Value.N,.int .i64 x.Value.Pos,.int .i64 x.Value.Type_,.string x.Value.Symbol,.string x.Value.Name,v15]∧x.Symbol.size≤9223372036854775807∧x.Name.size≤9223372036854775807∧I64 x.Target.Kind∧I64 x.Target.N∧I64 x.Target.Pos∧I64 x.Target.Type_∧x.Target.Symbol.size≤9223372036854775807∧x.Target.Name.size≤9223372036854775807∧I64 x.Value.Kind∧I64 x.Value.N∧I64 x.Value.Pos∧I64 x.Value.Type_∧x.Value.Symbol.size≤9223372036854775807∧x.Value.Name.size≤9223372036854775807∧rdS S w x.Target.Args v8∧rdS S w x.Value.Args v15
 len:=by rintro S w x cs ⟨v8,v15,rfl,_⟩; rfl
 one:=by rintro S w x cs ⟨v8,v15,rfl,h0,h1,h2,h3,h4,h5,h6,h7,h9,h10,h11,h12,h13,h14,s8,s15⟩; obtain⟨_,_,rfl,_⟩:=s8.form; obtain⟨_,_,rfl,_⟩:=s15.form; simp [Value.oneCell']
 mono:=by rintro S S' w x cs ⟨v8,v15,rfl,h0,h1,h2,h3,h4,h5,h6,h7,h9,h10,h11,h12,h13,h14,s8,s15⟩ hS; exact⟨v8,v15,rfl,h0,h1,h2,h3,h4,h5,h6,h7,h9,h10,h11,h12,h13,h14,s8.mono hS,s15.mono hS⟩
 frame:=by rintro S w w' x cs ⟨v8,v15,rfl,h0,h1,h2,h3,h4,h5,h6,h7,h9,h10,h11,h12,h13,h14,s8,s15⟩ hf; exact⟨v8,v15,rfl,h0,h1,h2,h3,h4,h5,h6,h7,h9,h10,h11,h12,h13,h14,s8.frame hf,s15.frame hf⟩
 bound:=by rintro S w x cs ⟨v8,v15,rfl,h0,h1,h2,h3,h4,h5,h6,h7,h9,h10,h11,h12,h13,h14,s8,s15⟩; exact⟨v8,v15,rfl,h0,h1,h2,h3,h4,h5,h6,h7,h9,h10,h11,h12,h13,h14,s8.bound,s15.bound⟩
instance:Sep Contribution where
 own L w x cs:=∃ v8:Value,∃ v15:Value,∃ L8:List Nat,∃ L15:List Nat,cs=[.string x.Symbol,.string x.Name,.int .i64 x.Target.Kind,.int .i64 x.Target.N,.int .i64 x.Target.Pos,.int .i64 x.Target.Type_,.string x.Target.Symbol,.string x.Target.Name,v8,.int .i64 x.Value.Kind,.int .i64 x.Value.N,.int .i64 x.Value.Pos,.int .i64 x.Value.Type_,.string x.Value.Symbol,.string x.Value.Name,v15]∧x.Symbol.size≤9223372036854775807∧x.Name.size≤9223372036854775807∧I64 x.Target.Kind∧I64 x.Target.N∧I64 x.Target.Pos∧I64 x.Target.Type_∧x.Target.Symbol.size≤9223372036854775807∧x.Target.Name.size≤9223372036854775807∧I64 x.Value.Kind∧I64 x.Value.N∧I64 x.Value.Pos∧I64 x.Value.Type_∧x.Value.Symbol.size≤9223372036854775807∧x.Value.Name.size≤9223372036854775807∧L=L8++L15∧ownS L8 w x.Target.Args v8∧ownS L15 w x.Value.Args v15
 own_rd:=by rintro L w x cs ⟨v8,v15,L8,L15,rfl,h0,h1,h2,h3,h4,h5,h6,h7,h9,h10,h11,h12,h13,h14,rfl,s8,s15⟩; exact⟨v8,v15,rfl,h0,h1,h2,h3,h4,h5,h6,h7,h9,h10,h11,h12,h13,h14,s8.rd.mono (fun b hb=>by simp [hb]),s15.rd.mono (fun b hb=>by simp [hb])⟩
 own_frame:=by rintro L w w' x cs ⟨v8,v15,L8,L15,rfl,h0,h1,h2,h3,h4,h5,h6,h7,h9,h10,h11,h12,h13,h14,rfl,s8,s15⟩ hf; exact⟨v8,v15,_,_,rfl,h0,h1,h2,h3,h4,h5,h6,h7,h9,h10,h11,h12,h13,h14,rfl,s8.frame (fun b hb=>hf b (by simp [hb])),s15.frame (fun b hb=>hf b (by simp [hb]))⟩
 own_lt:=by rintro L w x cs ⟨v8,v15,L8,L15,rfl,h0,h1,h2,h3,h4,h5,h6,h7,h9,h10,h11,h12,h13,h14,rfl,s8,s15⟩ b hb; simp only [List.mem_append] at hb; rcases hb with hb | hb<;>first | exact s8.lt b hb | exact s15.lt b hb
instance:Sz Contribution where
 szd x:=x.Symbol.size+x.Name.size+x.Target.Symbol.size+x.Target.Name.size+szL x.Target.Args+x.Value.Symbol.size+x.Value.Name.size+szL x.Value.Args
theorem z0k (x:Contribution):Sz.szd x=x.Symbol.size+x.Name.size+x.Target.Symbol.size+x.Target.Name.size+szL x.Target.Args+x.Value.Symbol.size+x.Value.Name.size+szL x.Value.Args:=rfl
structure Rule where
 Name:ByteArray
 Left:ByteArray
 Right:(List ByteArray)
 Literal:Bool
 Equations:(List Equation)
 Contributions:(List Contribution)
instance:Rep Rule where
 sz:=6
 pos:=by decide
 rd S w x cs:=∃ v2:Value,∃ v4:Value,∃ v5:Value,cs=[.string x.Name,.string x.Left,v2,.bool x.Literal,v4,v5]∧x.Name.size≤9223372036854775807∧x.Left.size≤9223372036854775807∧rdS S w x.Right v2∧rdS S w x.Equations v4∧rdS S w x.Contributions v5
 len:=by rintro S w x cs ⟨v2,v4,v5,rfl,_⟩; rfl
 one:=by rintro S w x cs ⟨v2,v4,v5,rfl,h0,h1,s2,s4,s5⟩; obtain⟨_,_,rfl,_⟩:=s2.form; obtain⟨_,_,rfl,_⟩:=s4.form; obtain⟨_,_,rfl,_⟩:=s5.form; simp [Value.oneCell']
 mono:=by rintro S S' w x cs ⟨v2,v4,v5,rfl,h0,h1,s2,s4,s5⟩ hS; exact⟨v2,v4,v5,rfl,h0,h1,s2.mono hS,s4.mono hS,s5.mono hS⟩
 frame:=by rintro S w w' x cs ⟨v2,v4,v5,rfl,h0,h1,s2,s4,s5⟩ hf; exact⟨v2,v4,v5,rfl,h0,h1,s2.frame hf,s4.frame hf,s5.frame hf⟩
 bound:=by rintro S w x cs ⟨v2,v4,v5,rfl,h0,h1,s2,s4,s5⟩; exact⟨v2,v4,v5,rfl,h0,h1,s2.bound,s4.bound,s5.bound⟩
instance:Sep Rule where
 own L w x cs:=∃ v2:Value,∃ v4:Value,∃ v5:Value,∃ L2:List Nat,∃ L4:List Nat,∃ L5:List Nat,cs=[.string x.Name,.string x.Left,v2,.bool x.Literal,v4,v5]∧x.Name.size≤9223372036854775807∧x.Left.size≤9223372036854775807∧L=L2++L4++L5∧ownS L2 w x.Right v2∧ownS L4 w x.Equations v4∧ownS L5 w x.Contributions v5
 own_rd:=by rintro L w x cs ⟨v2,v4,v5,L2,L4,L5,rfl,h0,h1,rfl,s2,s4,s5⟩; exact⟨v2,v4,v5,rfl,h0,h1,s2.rd.mono (fun b hb=>by simp [hb]),s4.rd.mono (fun b hb=>by simp [hb]),s5.rd.mono (fun b hb=>by simp [hb])⟩
 own_frame:=by rintro L w w' x cs ⟨v2,v4,v5,L2,L4,L5,rfl,h0,h1,rfl,s2,s4,s5⟩ hf; exact⟨v2,v4,v5,_,_,_,rfl,h0,h1,rfl,s2.frame (fun b hb=>hf b (by simp [hb])),s4.frame (fun b hb=>hf b (by simp [hb])),s5.frame (fun b hb=>hf b (by simp [hb]))⟩
 own_lt:=by rintro L w x cs ⟨v2,v4,v5,L2,L4,L5,rfl,h0,h1,rfl,s2,s4,s5⟩ b hb; simp only [List.mem_append] at hb; rcases hb with (hb | hb) | hb<;>first | exact s2.lt b hb | exact s4.lt b hb | exact s5.lt b hb
instance:Sz Rule where
 szd x:=x.Name.size+x.Left.size+szL x.Right+szL x.Equations+szL x.Contributions
theorem z4y (x:Rule):Sz.szd x=x.Name.size+x.Left.size+szL x.Right+szL x.Equations+szL x.Contributions:=rfl
structure Grammar where
 Symbols:(List Symbol)
 Rules:(List Rule)
instance:Rep Grammar where
 sz:=2
 pos:=by decide
 rd S w x cs:=∃ v0:Value,∃ v1:Value,cs=[v0,v1]∧rdS S w x.Symbols v0∧rdS S w x.Rules v1
 len:=by rintro S w x cs ⟨v0,v1,rfl,_⟩; rfl
 one:=by rintro S w x cs ⟨v0,v1,rfl,s0,s1⟩; obtain⟨_,_,rfl,_⟩:=s0.form; obtain⟨_,_,rfl,_⟩:=s1.form; simp [Value.oneCell']
 mono:=by rintro S S' w x cs ⟨v0,v1,rfl,s0,s1⟩ hS; exact⟨v0,v1,rfl,s0.mono hS,s1.mono hS⟩
 frame:=by rintro S w w' x cs ⟨v0,v1,rfl,s0,s1⟩ hf; exact⟨v0,v1,rfl,s0.frame hf,s1.frame hf⟩
 bound:=by rintro S w x cs ⟨v0,v1,rfl,s0,s1⟩; exact⟨v0,v1,rfl,s0.bound,s1.bound⟩
instance:Sz Grammar where
 szd x:=szL x.Symbols+szL x.Rules
theorem z0O (x:Grammar):Sz.szd x=szL x.Symbols+szL x.Rules:=rfl
structure Step where
 Kind:Int
 Pos:Int
 Visit:Int
 Name:ByteArray
 deriving DecidableEq
instance:Rep Step where
 sz:=4
 pos:=by decide
 rd S w x cs:=cs=[.int .i64 x.Kind,.int .i64 x.Pos,.int .i64 x.Visit,.string x.Name]∧I64 x.Kind∧I64 x.Pos∧I64 x.Visit∧x.Name.size≤9223372036854775807
 len:=by rintro S w x cs ⟨rfl,_⟩; rfl
 one:=by rintro S w x cs ⟨rfl,h0,h1,h2,h3⟩; simp [Value.oneCell']
 mono:=by rintro S S' w x cs ⟨rfl,h0,h1,h2,h3⟩ hS; exact⟨rfl,h0,h1,h2,h3⟩
 frame:=by rintro S w w' x cs ⟨rfl,h0,h1,h2,h3⟩ hf; exact⟨rfl,h0,h1,h2,h3⟩
 bound:=by rintro S w x cs ⟨rfl,h0,h1,h2,h3⟩; exact⟨rfl,h0,h1,h2,h3⟩
instance:Sep Step where
 own L w x cs:=cs=[.int .i64 x.Kind,.int .i64 x.Pos,.int .i64 x.Visit,.string x.Name]∧I64 x.Kind∧I64 x.Pos∧I64 x.Visit∧x.Name.size≤9223372036854775807∧L=[]
 own_rd:=by rintro L w x cs ⟨rfl,h0,h1,h2,h3,rfl⟩; exact⟨rfl,h0,h1,h2,h3⟩
 own_frame:=by rintro L w w' x cs ⟨rfl,h0,h1,h2,h3,rfl⟩ hf; exact⟨rfl,h0,h1,h2,h3,rfl⟩
 own_lt:=by rintro L w x cs ⟨rfl,h0,h1,h2,h3,rfl⟩ b hb; simp at hb
instance:Sz Step where
 szd x:=x.Name.size
instance:FlatN Step:=⟨by rintro L w x cs ⟨rfl,h0,h1,h2,h3,rfl⟩; rfl⟩
structure RulePlan where
 Rule:ByteArray
 Steps:(List Step)
 deriving DecidableEq
instance:Rep RulePlan where
 sz:=2
 pos:=by decide
 rd S w x cs:=∃ v1:Value,cs=[.string x.Rule,v1]∧x.Rule.size≤9223372036854775807∧rdS S w x.Steps v1
 len:=by rintro S w x cs ⟨v1,rfl,_⟩; rfl
 one:=by rintro S w x cs ⟨v1,rfl,h0,s1⟩; obtain⟨_,_,rfl,_⟩:=s1.form; simp [Value.oneCell']
 mono:=by rintro S S' w x cs ⟨v1,rfl,h0,s1⟩ hS; exact⟨v1,rfl,h0,s1.mono hS⟩
 frame:=by rintro S w w' x cs ⟨v1,rfl,h0,s1⟩ hf; exact⟨v1,rfl,h0,s1.frame hf⟩
 bound:=by rintro S w x cs ⟨v1,rfl,h0,s1⟩; exact⟨v1,rfl,h0,s1.bound⟩
instance:Sep RulePlan where
 own L w x cs:=∃ v1:Value,∃ L1:List Nat,cs=[.string x.Rule,v1]∧x.Rule.size≤9223372036854775807∧L=L1∧ownS L1 w x.Steps v1
 own_rd:=by rintro L w x cs ⟨v1,L1,rfl,h0,rfl,s1⟩; exact⟨v1,rfl,h0,s1.rd.mono (fun b hb=>by simp [hb])⟩
 own_frame:=by rintro L w w' x cs ⟨v1,L1,rfl,h0,rfl,s1⟩ hf; exact⟨v1,_,rfl,h0,rfl,s1.frame (fun b hb=>hf b (by simp [hb]))⟩
 own_lt:=by rintro L w x cs ⟨v1,L1,rfl,h0,rfl,s1⟩ b hb; exact s1.lt b hb
instance:Sz RulePlan where
 szd x:=x.Rule.size+szL x.Steps
theorem z7t (x:RulePlan):Sz.szd x=x.Rule.size+szL x.Steps:=rfl
structure Phase where
 Inherited:(List ByteArray)
 Synthesized:(List ByteArray)
 deriving DecidableEq
instance:Rep Phase where
 sz:=2
 pos:=by decide
 rd S w x cs:=∃ v0:Value,∃ v1:Value,cs=[v0,v1]∧rdS S w x.Inherited v0∧rdS S w x.Synthesized v1
 len:=by rintro S w x cs ⟨v0,v1,rfl,_⟩; rfl
 one:=by rintro S w x cs ⟨v0,v1,rfl,s0,s1⟩; obtain⟨_,_,rfl,_⟩:=s0.form; obtain⟨_,_,rfl,_⟩:=s1.form; simp [Value.oneCell']
 mono:=by rintro S S' w x cs ⟨v0,v1,rfl,s0,s1⟩ hS; exact⟨v0,v1,rfl,s0.mono hS,s1.mono hS⟩
 frame:=by rintro S w w' x cs ⟨v0,v1,rfl,s0,s1⟩ hf; exact⟨v0,v1,rfl,s0.frame hf,s1.frame hf⟩
 bound:=by rintro S w x cs ⟨v0,v1,rfl,s0,s1⟩; exact⟨v0,v1,rfl,s0.bound,s1.bound⟩
instance:Sep Phase where
 own L w x cs:=∃ v0:Value,∃ v1:Value,∃ L0:List Nat,∃ L1:List Nat,cs=[v0,v1]∧L=L0++L1∧ownS L0 w x.Inherited v0∧ownS L1 w x.Synthesized v1
 own_rd:=by rintro L w x cs ⟨v0,v1,L0,L1,rfl,rfl,s0,s1⟩; exact⟨v0,v1,rfl,s0.rd.mono (fun b hb=>by simp [hb]),s1.rd.mono (fun b hb=>by simp [hb])⟩
 own_frame:=by rintro L w w' x cs ⟨v0,v1,L0,L1,rfl,rfl,s0,s1⟩ hf; exact⟨v0,v1,_,_,rfl,rfl,s0.frame (fun b hb=>hf b (by simp [hb])),s1.frame (fun b hb=>hf b (by simp [hb]))⟩
 own_lt:=by rintro L w x cs ⟨v0,v1,L0,L1,rfl,rfl,s0,s1⟩ b hb; simp only [List.mem_append] at hb; rcases hb with hb | hb<;>first | exact s0.lt b hb | exact s1.lt b hb
instance:Sz Phase where
 szd x:=szL x.Inherited+szL x.Synthesized
theorem z8z (x:Phase):Sz.szd x=szL x.Inherited+szL x.Synthesized:=rfl
structure l28Work where
 g:Grammar
 r:Rule
 phases:(List (List Phase))
 known:(List Occurrence)
 visits:(List Int)
 steps:(List Step)
instance:Rep l28Work where
 sz:=12
 pos:=by decide
 rd S w x cs:=∃ v0:Value,∃ v1:Value,∃ v4:Value,∃ v6:Value,∃ v7:Value,∃ v8:Value,∃ v9:Value,∃ v10:Value,∃ v11:Value,cs=[v0,v1,.string x.r.Name,.string x.r.Left,v4,.bool x.r.Literal,v6,v7,v8,v9,v10,v11]∧x.r.Name.size≤9223372036854775807∧x.r.Left.size≤9223372036854775807∧rdS S w x.g.Symbols v0∧rdS S w x.g.Rules v1∧rdS S w x.r.Right v4∧rdS S w x.r.Equations v6∧rdS S w x.r.Contributions v7∧rdS S w x.phases v8∧rdS S w x.known v9∧rdS S w x.visits v10∧rdS S w x.steps v11
 len:=by rintro S w x cs ⟨v0,v1,v4,v6,v7,v8,v9,v10,v11,rfl,_⟩; rfl
 one:=by rintro S w x cs ⟨v0,v1,v4,v6,v7,v8,v9,v10,v11,rfl,h2,h3,s0,s1,s4,s6,s7,s8,s9,s10,s11⟩; obtain⟨_,_,rfl,_⟩:=s0.form; obtain⟨_,_,rfl,_⟩:=s1.form; obtain⟨_,_,rfl,_⟩:=s4.form; obtain⟨_,_,rfl,_⟩:=s6.form; obtain⟨_,_,rfl,_⟩:=s7.form; obtain⟨_,_,rfl,_⟩:=s8.form; obtain⟨_,_,rfl,_⟩:=s9.form; obtain⟨_,_,rfl,_⟩:=s10.form; obtain⟨_,_,rfl,_⟩:=s11.form; simp [Value.oneCell']
 mono:=by rintro S S' w x cs ⟨v0,v1,v4,v6,v7,v8,v9,v10,v11,rfl,h2,h3,s0,s1,s4,s6,s7,s8,s9,s10,s11⟩ hS; exact⟨v0,v1,v4,v6,v7,v8,v9,v10,v11,rfl,h2,h3,s0.mono hS,s1.mono hS,s4.mono hS,s6.mono hS,s7.mono hS,s8.mono hS,s9.mono hS,s10.mono hS,s11.mono hS⟩
 frame:=by rintro S w w' x cs ⟨v0,v1,v4,v6,v7,v8,v9,v10,v11,rfl,h2,h3,s0,s1,s4,s6,s7,s8,s9,s10,s11⟩ hf; exact⟨v0,v1,v4,v6,v7,v8,v9,v10,v11,rfl,h2,h3,s0.frame hf,s1.frame hf,s4.frame hf,s6.frame hf,s7.frame hf,s8.frame hf,s9.frame hf,s10.frame hf,s11.frame hf⟩
 bound:=by rintro S w x cs ⟨v0,v1,v4,v6,v7,v8,v9,v10,v11,rfl,h2,h3,s0,s1,s4,s6,s7,s8,s9,s10,s11⟩; exact⟨v0,v1,v4,v6,v7,v8,v9,v10,v11,rfl,h2,h3,s0.bound,s1.bound,s4.bound,s6.bound,s7.bound,s8.bound,s9.bound,s10.bound,s11.bound⟩
structure visits where
 g:Grammar
 phases:(List (List Phase))
 r:Rule
 due:(List Occurrence)
 known:(List Occurrence)
 next:(List Int)
instance:Rep visits where
 sz:=12
 pos:=by decide
 rd S w x cs:=∃ v0:Value,∃ v1:Value,∃ v2:Value,∃ v5:Value,∃ v7:Value,∃ v8:Value,∃ v9:Value,∃ v10:Value,∃ v11:Value,cs=[v0,v1,v2,.string x.r.Name,.string x.r.Left,v5,.bool x.r.Literal,v7,v8,v9,v10,v11]∧x.r.Name.size≤9223372036854775807∧x.r.Left.size≤9223372036854775807∧rdS S w x.g.Symbols v0∧rdS S w x.g.Rules v1∧rdS S w x.phases v2∧rdS S w x.r.Right v5∧rdS S w x.r.Equations v7∧rdS S w x.r.Contributions v8∧rdS S w x.due v9∧rdS S w x.known v10∧rdS S w x.next v11
 len:=by rintro S w x cs ⟨v0,v1,v2,v5,v7,v8,v9,v10,v11,rfl,_⟩; rfl
 one:=by rintro S w x cs ⟨v0,v1,v2,v5,v7,v8,v9,v10,v11,rfl,h3,h4,s0,s1,s2,s5,s7,s8,s9,s10,s11⟩; obtain⟨_,_,rfl,_⟩:=s0.form; obtain⟨_,_,rfl,_⟩:=s1.form; obtain⟨_,_,rfl,_⟩:=s2.form; obtain⟨_,_,rfl,_⟩:=s5.form; obtain⟨_,_,rfl,_⟩:=s7.form; obtain⟨_,_,rfl,_⟩:=s8.form; obtain⟨_,_,rfl,_⟩:=s9.form; obtain⟨_,_,rfl,_⟩:=s10.form; obtain⟨_,_,rfl,_⟩:=s11.form; simp [Value.oneCell']
 mono:=by rintro S S' w x cs ⟨v0,v1,v2,v5,v7,v8,v9,v10,v11,rfl,h3,h4,s0,s1,s2,s5,s7,s8,s9,s10,s11⟩ hS; exact⟨v0,v1,v2,v5,v7,v8,v9,v10,v11,rfl,h3,h4,s0.mono hS,s1.mono hS,s2.mono hS,s5.mono hS,s7.mono hS,s8.mono hS,s9.mono hS,s10.mono hS,s11.mono hS⟩
 frame:=by rintro S w w' x cs ⟨v0,v1,v2,v5,v7,v8,v9,v10,v11,rfl,h3,h4,s0,s1,s2,s5,s7,s8,s9,s10,s11⟩ hf; exact⟨v0,v1,v2,v5,v7,v8,v9,v10,v11,rfl,h3,h4,s0.frame hf,s1.frame hf,s2.frame hf,s5.frame hf,s7.frame hf,s8.frame hf,s9.frame hf,s10.frame hf,s11.frame hf⟩
 bound:=by rintro S w x cs ⟨v0,v1,v2,v5,v7,v8,v9,v10,v11,rfl,h3,h4,s0,s1,s2,s5,s7,s8,s9,s10,s11⟩; exact⟨v0,v1,v2,v5,v7,v8,v9,v10,v11,rfl,h3,h4,s0.bound,s1.bound,s2.bound,s5.bound,s7.bound,s8.bound,s9.bound,s10.bound,s11.bound⟩
end Go.Proofs.YteefempppabmkacGreat
