/- How the structs of the program read as data: plain definitions and lemmas, without conditions of their own. -/
import Derived.Test.YtmblndlpkpaobaaGreatEngC
set_option linter.unusedVariables false
set_option linter.unusedSimpArgs false
set_option linter.ambiguousOpen false
set_option linter.unusedSectionVars false
set_option linter.unnecessarySimpa false
set_option linter.unusedVariables false
set_option linter.unusedSimpArgs false
namespace Go.Proofs.YtmblndlpkpaobaaGreat
open Go Go.E
open Go.E.Rep (rd)
open Go.E.Sep (own)
open Go.E.Sz (szd)
structure Attribute where
 Name:ByteArray
 Type_:Int
 Mode:Int
 Circular:Bool
 deriving DecidableEq
instance:Rep Attribute where
 sz:=4
 pos:=by decide
 rd S w x cs:=cs=[.string x.Name,.int .i64 x.Type_,.int .i64 x.Mode,.bool x.Circular]∧x.Name.size≤9223372036854775807∧I64 x.Type_∧I64 x.Mode
 len:=by rintro S w x cs ⟨rfl,_⟩; rfl
 one:=by rintro S w x cs ⟨rfl,h0,h1,h2⟩; simp [Value.oneCell']
 mono:=by rintro S S' w x cs ⟨rfl,h0,h1,h2⟩ hS; exact⟨rfl,h0,h1,h2⟩
 frame:=by rintro S w w' x cs ⟨rfl,h0,h1,h2⟩ hf; exact⟨rfl,h0,h1,h2⟩
 bound:=by rintro S w x cs ⟨rfl,h0,h1,h2⟩; exact⟨rfl,h0,h1,h2⟩
instance:Sep Attribute where
 own L w x cs:=cs=[.string x.Name,.int .i64 x.Type_,.int .i64 x.Mode,.bool x.Circular]∧x.Name.size≤9223372036854775807∧I64 x.Type_∧I64 x.Mode∧L=[]
 own_rd:=by rintro L w x cs ⟨rfl,h0,h1,h2,rfl⟩; exact⟨rfl,h0,h1,h2⟩
 own_frame:=by rintro L w w' x cs ⟨rfl,h0,h1,h2,rfl⟩ hf; exact⟨rfl,h0,h1,h2,rfl⟩
 own_lt:=by rintro L w x cs ⟨rfl,h0,h1,h2,rfl⟩ b hb; simp at hb
instance:Sz Attribute where
 szd x:=x.Name.size
instance:Mk Attribute where
 mrk x k:={ Name:=Mk.mrk x.Name (k),Type_:=Mk.mrk x.Type_ (k+1),Mode:=Mk.mrk x.Mode (k+1+1),Circular:=Mk.mrk x.Circular (k+1+1+1) }
 cnt x:=1+1+1+1
 hd x k:=((((some k).bind (Mk.hd x.Name)).bind (Mk.hd x.Type_)).bind (Mk.hd x.Mode)).bind (Mk.hd x.Circular)
 law x k:=by simp [Mk.law,q4F,Int.add_assoc,cntI,cntS,cntB]
 cm x k:=by simp [q3J]
instance:CntSz Attribute:=⟨fun x=>by show 1+1+1+1≤16*(1+(x.Name.size)); omega⟩
theorem q7U (x:Attribute):Sz.szd x=x.Name.size:=rfl
instance:Flat Attribute:=⟨by rintro S w w2 x cs ⟨rfl,h0,h1,h2⟩; exact⟨rfl,h0,h1,h2,rfl⟩⟩
instance:FlatN Attribute:=⟨by rintro L w x cs ⟨rfl,h0,h1,h2,rfl⟩; rfl⟩
structure Symbol where
 Name:ByteArray
 Attributes:(List Attribute)
 deriving DecidableEq
instance:Rep Symbol where
 sz:=2
 pos:=by decide
 rd S w x cs:=∃ v1:Value,cs=[.string x.Name,v1]∧x.Name.size≤9223372036854775807∧rdS S w x.Attributes v1
 len:=by rintro S w x cs ⟨v1,rfl,_⟩; rfl
 one:=by rintro S w x cs ⟨v1,rfl,h0,s1⟩; obtain⟨_,_,rfl,_⟩:=s1.form; simp [Value.oneCell']
 mono:=by rintro S S' w x cs ⟨v1,rfl,h0,s1⟩ hS; exact⟨v1,rfl,h0,s1.mono hS⟩
 frame:=by rintro S w w' x cs ⟨v1,rfl,h0,s1⟩ hf; exact⟨v1,rfl,h0,s1.frame hf⟩
 bound:=by rintro S w x cs ⟨v1,rfl,h0,s1⟩; exact⟨v1,rfl,h0,s1.bound⟩
instance:Sep Symbol where
 own L w x cs:=∃ v1:Value,∃ L1:List Nat,cs=[.string x.Name,v1]∧x.Name.size≤9223372036854775807∧L=L1∧ownS L1 w x.Attributes v1
 own_rd:=by rintro L w x cs ⟨v1,L1,rfl,h0,rfl,s1⟩; exact⟨v1,rfl,h0,s1.rd.mono (fun b hb=>by simp [hb])⟩
 own_frame:=by rintro L w w' x cs ⟨v1,L1,rfl,h0,rfl,s1⟩ hf; exact⟨v1,_,rfl,h0,rfl,s1.frame (fun b hb=>hf b (by simp [hb]))⟩
 own_lt:=by rintro L w x cs ⟨v1,L1,rfl,h0,rfl,s1⟩ b hb; exact s1.lt b hb
instance:Sz Symbol where
 szd x:=x.Name.size+szL x.Attributes
instance:Mk Symbol where
 mrk x k:={ Name:=Mk.mrk x.Name (k),Attributes:=mkL x.Attributes (k+1) }
 cnt x:=1+cntL x.Attributes
 hd x k:=((some k).bind (Mk.hd x.Name)).bind (hdL x.Attributes)
 law x k:=by simp [Mk.law,q4F,Int.add_assoc,cntI,cntS,cntB]
 cm x k:=by simp [q3J]
instance:CntSz Symbol:=⟨fun x=>by show 1+cntL x.Attributes≤16*(1+(x.Name.size+szL x.Attributes)); have:=q3o x.Attributes; omega⟩
theorem q9e (x:Symbol):Sz.szd x=x.Name.size+szL x.Attributes:=rfl
instance:MkT Symbol where
 mrkT x k:={ Name:=x.Name,Attributes:=mkL x.Attributes (k) }
 cntT x:=cntL x.Attributes
 hdT x k:=(some k).bind (hdL x.Attributes)
 lawT x k:=by simp [q4F,Int.add_assoc]
 cmT x k:=by simp [q3J]
instance:CntTSz Symbol:=⟨fun x=>by show cntL x.Attributes≤16*(x.Name.size+szL x.Attributes); have:=q3o x.Attributes; omega⟩
structure Occurrence where
 Pos:Int
 Name:ByteArray
 deriving DecidableEq
instance:Rep Occurrence where
 sz:=2
 pos:=by decide
 rd S w x cs:=cs=[.int .i64 x.Pos,.string x.Name]∧I64 x.Pos∧x.Name.size≤9223372036854775807
 len:=by rintro S w x cs ⟨rfl,_⟩; rfl
 one:=by rintro S w x cs ⟨rfl,h0,h1⟩; simp [Value.oneCell']
 mono:=by rintro S S' w x cs ⟨rfl,h0,h1⟩ hS; exact⟨rfl,h0,h1⟩
 frame:=by rintro S w w' x cs ⟨rfl,h0,h1⟩ hf; exact⟨rfl,h0,h1⟩
 bound:=by rintro S w x cs ⟨rfl,h0,h1⟩; exact⟨rfl,h0,h1⟩
instance:Sep Occurrence where
 own L w x cs:=cs=[.int .i64 x.Pos,.string x.Name]∧I64 x.Pos∧x.Name.size≤9223372036854775807∧L=[]
 own_rd:=by rintro L w x cs ⟨rfl,h0,h1,rfl⟩; exact⟨rfl,h0,h1⟩
 own_frame:=by rintro L w w' x cs ⟨rfl,h0,h1,rfl⟩ hf; exact⟨rfl,h0,h1,rfl⟩
 own_lt:=by rintro L w x cs ⟨rfl,h0,h1,rfl⟩ b hb; simp at hb
instance:Sz Occurrence where
 szd x:=x.Name.size
instance:Mk Occurrence where
 mrk x k:={ Pos:=Mk.mrk x.Pos (k),Name:=Mk.mrk x.Name (k+1) }
 cnt x:=1+1
 hd x k:=((some k).bind (Mk.hd x.Pos)).bind (Mk.hd x.Name)
 law x k:=by simp [Mk.law,q4F,Int.add_assoc,cntI,cntS,cntB]
 cm x k:=by simp [q3J]
instance:CntSz Occurrence:=⟨fun x=>by show 1+1≤16*(1+(x.Name.size)); omega⟩
theorem q4K (x:Occurrence):Sz.szd x=x.Name.size:=rfl
instance:Flat Occurrence:=⟨by rintro S w w2 x cs ⟨rfl,h0,h1⟩; exact⟨rfl,h0,h1,rfl⟩⟩
instance:FlatN Occurrence:=⟨by rintro L w x cs ⟨rfl,h0,h1,rfl⟩; rfl⟩
theorem q2Q (x y:Occurrence):eqF [.int,.str] [.int .i64 x.Pos,.string x.Name] [.int .i64 y.Pos,.string y.Name]=some (decide (x=y)):=by
 have e:(x=y)↔(x.Pos=y.Pos∧x.Name=y.Name):=⟨fun h=>by subst h; simp,fun h=>by obtain⟨p1,p2⟩:=x; obtain⟨q1,q2⟩:=y; simp_all⟩
 rw [show decide (x=y)=decide (x.Pos=y.Pos∧x.Name=y.Name) from decide_eq_decide.2 e]; simp [eqF,Bool.decide_and]
structure Expr where
 Kind:Int
 N:Int
 Pos:Int
 Type_:Int
 Symbol:ByteArray
 Name:ByteArray
 Args:(List Expr)
noncomputable instance:DecidableEq Expr:=fun a b=>Classical.propDecidable (a=b)
@[reducible] def z7H [i:Sep Expr]:Sep Expr where
 sz:=7
 pos:=by decide
 rd S w x cs:=∃ v6:Value,cs=[.int .i64 x.Kind,.int .i64 x.N,.int .i64 x.Pos,.int .i64 x.Type_,.string x.Symbol,.string x.Name,v6]∧I64 x.Kind∧I64 x.N∧I64 x.Pos∧I64 x.Type_∧x.Symbol.size≤9223372036854775807∧x.Name.size≤9223372036854775807∧rdS S w x.Args v6
 len:=by rintro S w x cs ⟨v6,rfl,_⟩; rfl
 one:=by rintro S w x cs ⟨v6,rfl,h0,h1,h2,h3,h4,h5,s6⟩; obtain⟨_,_,rfl,_⟩:=s6.form; simp [Value.oneCell']
 mono:=by rintro S S' w x cs ⟨v6,rfl,h0,h1,h2,h3,h4,h5,s6⟩ hS; exact⟨v6,rfl,h0,h1,h2,h3,h4,h5,s6.mono hS⟩
 frame:=by rintro S w w' x cs ⟨v6,rfl,h0,h1,h2,h3,h4,h5,s6⟩ hf; exact⟨v6,rfl,h0,h1,h2,h3,h4,h5,s6.frame hf⟩
 bound:=by rintro S w x cs ⟨v6,rfl,h0,h1,h2,h3,h4,h5,s6⟩; exact⟨v6,rfl,h0,h1,h2,h3,h4,h5,s6.bound⟩
 own L w x cs:=∃ v6:Value,∃ L6:List Nat,cs=[.int .i64 x.Kind,.int .i64 x.N,.int .i64 x.Pos,.int .i64 x.Type_,.string x.Symbol,.string x.Name,v6]∧I64 x.Kind∧I64 x.N∧I64 x.Pos∧I64 x.Type_∧x.Symbol.size≤9223372036854775807∧x.Name.size≤9223372036854775807∧L=L6∧ownS L6 w x.Args v6
 own_rd:=by rintro L w x cs ⟨v6,L6,rfl,h0,h1,h2,h3,h4,h5,rfl,s6⟩; exact⟨v6,rfl,h0,h1,h2,h3,h4,h5,s6.rd.mono (fun b hb=>by simp [hb])⟩
 own_frame:=by rintro L w w' x cs ⟨v6,L6,rfl,h0,h1,h2,h3,h4,h5,rfl,s6⟩ hf; exact⟨v6,_,rfl,h0,h1,h2,h3,h4,h5,rfl,s6.frame (fun b hb=>hf b (by simp [hb]))⟩
 own_lt:=by rintro L w x cs ⟨v6,L6,rfl,h0,h1,h2,h3,h4,h5,rfl,s6⟩ b hb; exact s6.lt b hb
@[reducible] def ExprN:Nat→Sep Expr
 | 0=>sepBot Expr 7 (by decide)
 | n+1=>@z7H (ExprN n)
theorem z3J:∀ n,(ExprN n).sz=7
 | 0=>rfl
 | _+1=>rfl
instance:Sep Expr:=sepLim ExprN 7 (by decide) z3J
theorem z6A:∀ n S w x cs,(ExprN n).rd S w x cs→(ExprN (n+1)).rd S w x cs
 | 0,_,_,_,_,h=>h.elim
 | n+1,_,_,_,_,⟨v6,e,h0,h1,h2,h3,h4,h5,s6⟩=>⟨v6,e,h0,h1,h2,h3,h4,h5,z7B (fun x cs h=>z6A n _ _ x cs h) s6⟩
theorem z4G:∀ n L w x cs,(ExprN n).own L w x cs→(ExprN (n+1)).own L w x cs
 | 0,_,_,_,_,h=>h.elim
 | n+1,_,_,_,_,⟨v6,L6,e,h0,h1,h2,h3,h4,h5,eL,s6⟩=>⟨v6,L6,e,h0,h1,h2,h3,h4,h5,eL,z6w (fun L x cs h=>z4G n _ _ x cs h) s6⟩
theorem q0b {S:Nat→Prop}{w:World}{x:Expr}{cs:List Value}:rd S w x cs↔∃ v6:Value,cs=[.int .i64 x.Kind,.int .i64 x.N,.int .i64 x.Pos,.int .i64 x.Type_,.string x.Symbol,.string x.Name,v6]∧I64 x.Kind∧I64 x.N∧I64 x.Pos∧I64 x.Type_∧x.Symbol.size≤9223372036854775807∧x.Name.size≤9223372036854775807∧rdS S w x.Args v6:=
 ⟨fun ⟨n,h⟩=>by
  cases n with
  | zero=>exact h.elim
  | succ n=>
   obtain⟨v6,e,h0,h1,h2,h3,h4,h5,s6⟩:=h
   exact⟨v6,e,h0,h1,h2,h3,h4,h5,z7B (fun _ _ h=>⟨n,h⟩) s6⟩,
 fun ⟨v6,e,h0,h1,h2,h3,h4,h5,s6⟩=>by
  obtain⟨n,s6⟩:=z9L (hsz:=z3J) z6A s6
  exact⟨n+1,v6,e,h0,h1,h2,h3,h4,h5,s6⟩⟩
theorem z1N {L:List Nat}{w:World}{x:Expr}{cs:List Value}:own L w x cs↔∃ v6:Value,∃ L6:List Nat,cs=[.int .i64 x.Kind,.int .i64 x.N,.int .i64 x.Pos,.int .i64 x.Type_,.string x.Symbol,.string x.Name,v6]∧I64 x.Kind∧I64 x.N∧I64 x.Pos∧I64 x.Type_∧x.Symbol.size≤9223372036854775807∧x.Name.size≤9223372036854775807∧L=L6∧ownS L6 w x.Args v6:=
 ⟨fun ⟨n,h⟩=>by
  cases n with
  | zero=>exact h.elim
  | succ n=>
   obtain⟨v6,L6,e,h0,h1,h2,h3,h4,h5,eL,s6⟩:=h
   exact⟨v6,L6,e,h0,h1,h2,h3,h4,h5,eL,z6w (fun _ _ _ h=>⟨n,h⟩) s6⟩,
 fun ⟨v6,L6,e,h0,h1,h2,h3,h4,h5,eL,s6⟩=>by
  obtain⟨n,s6⟩:=z8G (hsz:=z3J) z4G s6
  exact⟨n+1,v6,L6,e,h0,h1,h2,h3,h4,h5,eL,s6⟩⟩
mutual
def q4T:Expr→Nat
 | ⟨a0,a1,a2,a3,a4,a5,a6⟩=>a4.size+a5.size+q5O a6
def q5O:List Expr→Nat
 | []=>0
 | x :: xs=>1+q4T x+q5O xs
end
instance:Sz Expr:=⟨q4T⟩
theorem z5w (a:List Expr):q5O a=szL a:=by
 induction a with
 | nil=>rfl
 | cons x xs ih=>simp only [q5O,szL,ih]; rfl
theorem q2L (x:Expr):Sz.szd x=x.Symbol.size+x.Name.size+szL x.Args:=by
 cases x; show q4T _=_; simp only [q4T,z5w]
mutual
def q7v:Expr→Nat
 | ⟨a0,a1,a2,a3,a4,a5,a6⟩=>1+1+1+1+1+1+q5l a6
def q5l:List Expr→Nat
 | []=>0
 | x :: xs=>q7v x+q5l xs
end
mutual
def z0K:Expr→Int→Expr
 | ⟨a0,a1,a2,a3,a4,a5,a6⟩,k=>⟨Mk.mrk a0 (k),Mk.mrk a1 (k+1),Mk.mrk a2 (k+1+1),Mk.mrk a3 (k+1+1+1),Mk.mrk a4 (k+1+1+1+1),Mk.mrk a5 (k+1+1+1+1+1),q7V a6 (k+1+1+1+1+1+1)⟩
def q7V:List Expr→Int→List Expr
 | [],_=>[]
 | x :: xs,k=>z0K x k :: q7V xs (k+q7v x)
end
mutual
def z3K:Expr→Int→Option Int
 | ⟨a0,a1,a2,a3,a4,a5,a6⟩,k=>((((((((some k).bind (Mk.hd a0)).bind (Mk.hd a1)).bind (Mk.hd a2)).bind (Mk.hd a3)).bind (Mk.hd a4)).bind (Mk.hd a5)).bind (z0c a6))
def z0c:List Expr→Int→Option Int
 | [],k=>some k
 | x :: xs,k=>(z3K x k).bind (z0c xs)
end
mutual
theorem z7I:∀ (x:Expr)(k:Int),q7v (z0K x k)=q7v x
 | ⟨a0,a1,a2,a3,a4,a5,a6⟩,k=>by simp [z0K,q7v,z6B a6]
theorem z6B:∀ (xs:List Expr)(k:Int),q5l (q7V xs k)=q5l xs
 | [],_=>rfl
 | x :: xs,k=>by simp [q7V,q5l,z7I x,z6B xs]
end
mutual
theorem z7J:∀ (x:Expr)(k:Int),z3K (z0K x k) k=some (k+q7v x)
 | ⟨a0,a1,a2,a3,a4,a5,a6⟩,k=>by simp [z0K,z3K,q7v,Mk.law,q4F,z6C a6,Int.add_assoc,cntI,cntS,cntB]
theorem z6C:∀ (xs:List Expr)(k:Int),z0c (q7V xs k) k=some (k+q5l xs)
 | [],_=>by simp [q7V,z0c,q5l]
 | x :: xs,k=>by simp [q7V,z0c,q5l,z7J x,z6C xs,Int.add_assoc]
end
instance:Mk Expr where
 mrk:=z0K
 cnt:=q7v
 hd:=z3K
 law:=z7J
 cm:=z7I
mutual
theorem z7K:∀ x:Expr,q7v x≤16*(1+q4T x)
 | ⟨a0,a1,a2,a3,a4,a5,a6⟩=>by have:=z6D a6; simp only [q7v,q4T]; omega
theorem z6D:∀ xs:List Expr,q5l xs≤16*q5O xs
 | []=>by simp [q5l]
 | x :: xs=>by have:=z7K x; have:=z6D xs; simp only [q5l,q5O]; omega
end
instance:CntSz Expr:=⟨z7K⟩
theorem z3L {P:Expr→Prop}(h:∀ x,(∀ y∈x.Args,P y)→P x)(x:Expr):P x:=by
 have key:∀ (n:Nat) (x:Expr),SizeOf.sizeOf x < n→P x:=by
  intro n
  induction n with
  | zero=>intro x hx; omega
  | succ n ih=>
   intro x hx
   refine h x fun y hy=>ih y ?_
   have h1:=List.sizeOf_lt_of_mem hy
   cases x
   simp only [Expr.mk.sizeOf_spec] at hx h1
   omega
 exact key _ x (Nat.lt_succ_self _)
instance:MkT Expr where
 mrkT x k:={ Kind:=x.Kind,N:=x.N,Pos:=x.Pos,Type_:=x.Type_,Symbol:=x.Symbol,Name:=x.Name,Args:=mkL x.Args (k) }
 cntT x:=cntL x.Args
 hdT x k:=(some k).bind (hdL x.Args)
 lawT x k:=by simp [q4F,Int.add_assoc]
 cmT x k:=by simp [q3J]
instance:CntTSz Expr:=⟨fun x=>by rw [q2L]; show cntL x.Args≤_; have:=q3o x.Args; omega⟩
structure Equation where
 At:Occurrence
 Expr:Expr
noncomputable instance:DecidableEq Equation:=fun a b=>Classical.propDecidable (a=b)
instance:Rep Equation where
 sz:=9
 pos:=by decide
 rd S w x cs:=∃ v8:Value,cs=[.int .i64 x.At.Pos,.string x.At.Name,.int .i64 x.Expr.Kind,.int .i64 x.Expr.N,.int .i64 x.Expr.Pos,.int .i64 x.Expr.Type_,.string x.Expr.Symbol,.string x.Expr.Name,v8]∧I64 x.At.Pos∧x.At.Name.size≤9223372036854775807∧I64 x.Expr.Kind∧I64 x.Expr.N∧I64 x.Expr.Pos∧I64 x.Expr.Type_∧x.Expr.Symbol.size≤9223372036854775807∧x.Expr.Name.size≤9223372036854775807∧rdS S w x.Expr.Args v8
 len:=by rintro S w x cs ⟨v8,rfl,_⟩; rfl
 one:=by rintro S w x cs ⟨v8,rfl,h0,h1,h2,h3,h4,h5,h6,h7,s8⟩; obtain⟨_,_,rfl,_⟩:=s8.form; simp [Value.oneCell']
 mono:=by rintro S S' w x cs ⟨v8,rfl,h0,h1,h2,h3,h4,h5,h6,h7,s8⟩ hS; exact⟨v8,rfl,h0,h1,h2,h3,h4,h5,h6,h7,s8.mono hS⟩
 frame:=by rintro S w w' x cs ⟨v8,rfl,h0,h1,h2,h3,h4,h5,h6,h7,s8⟩ hf; exact⟨v8,rfl,h0,h1,h2,h3,h4,h5,h6,h7,s8.frame hf⟩
 bound:=by rintro S w x cs ⟨v8,rfl,h0,h1,h2,h3,h4,h5,h6,h7,s8⟩; exact⟨v8,rfl,h0,h1,h2,h3,h4,h5,h6,h7,s8.bound⟩
instance:Sep Equation where
 own L w x cs:=∃ v8:Value,∃ L8:List Nat,cs=[.int .i64 x.At.Pos,.string x.At.Name,.int .i64 x.Expr.Kind,.int .i64 x.Expr.N,.int .i64 x.Expr.Pos,.int .i64 x.Expr.Type_,.string x.Expr.Symbol,.string x.Expr.Name,v8]∧I64 x.At.Pos∧x.At.Name.size≤9223372036854775807∧I64 x.Expr.Kind∧I64 x.Expr.N∧I64 x.Expr.Pos∧I64 x.Expr.Type_∧x.Expr.Symbol.size≤9223372036854775807∧x.Expr.Name.size≤9223372036854775807∧L=L8∧ownS L8 w x.Expr.Args v8
 own_rd:=by rintro L w x cs ⟨v8,L8,rfl,h0,h1,h2,h3,h4,h5,h6,h7,rfl,s8⟩; exact⟨v8,rfl,h0,h1,h2,h3,h4,h5,h6,h7,s8.rd.mono (fun b hb=>by simp [hb])⟩
 own_frame:=by rintro L w w' x cs ⟨v8,L8,rfl,h0,h1,h2,h3,h4,h5,h6,h7,rfl,s8⟩ hf; exact⟨v8,_,rfl,h0,h1,h2,h3,h4,h5,h6,h7,rfl,s8.frame (fun b hb=>hf b (by simp [hb]))⟩
 own_lt:=by rintro L w x cs ⟨v8,L8,rfl,h0,h1,h2,h3,h4,h5,h6,h7,rfl,s8⟩ b hb; exact s8.lt b hb
instance:Sz Equation where
 szd x:=x.At.Name.size+x.Expr.Symbol.size+x.Expr.Name.size+szL x.Expr.Args
instance:Mk Equation where
 mrk x k:={ At:={ Pos:=Mk.mrk x.At.Pos (k),Name:=Mk.mrk x.At.Name (k+1) },Expr:={ Kind:=Mk.mrk x.Expr.Kind (k+1+1),N:=Mk.mrk x.Expr.N (k+1+1+1),Pos:=Mk.mrk x.Expr.Pos (k+1+1+1+1),Type_:=Mk.mrk x.Expr.Type_ (k+1+1+1+1+1),Symbol:=Mk.mrk x.Expr.Symbol (k+1+1+1+1+1+1),Name:=Mk.mrk x.Expr.Name (k+1+1+1+1+1+1+1),Args:=mkL x.Expr.Args (k+1+1+1+1+1+1+1+1) } }
 cnt x:=1+1+1+1+1+1+1+1+cntL x.Expr.Args
 hd x k:=(((((((((some k).bind (Mk.hd x.At.Pos)).bind (Mk.hd x.At.Name)).bind (Mk.hd x.Expr.Kind)).bind (Mk.hd x.Expr.N)).bind (Mk.hd x.Expr.Pos)).bind (Mk.hd x.Expr.Type_)).bind (Mk.hd x.Expr.Symbol)).bind (Mk.hd x.Expr.Name)).bind (hdL x.Expr.Args)
 law x k:=by simp [Mk.law,q4F,Int.add_assoc,cntI,cntS,cntB]
 cm x k:=by simp [q3J]
instance:CntSz Equation:=⟨fun x=>by show 1+1+1+1+1+1+1+1+cntL x.Expr.Args≤16*(1+(x.At.Name.size+x.Expr.Symbol.size+x.Expr.Name.size+szL x.Expr.Args)); have:=q3o x.Expr.Args; omega⟩
theorem q7f (x:Equation):Sz.szd x=x.At.Name.size+x.Expr.Symbol.size+x.Expr.Name.size+szL x.Expr.Args:=rfl
instance:MkT Equation where
 mrkT x k:={ At:={ Pos:=x.At.Pos,Name:=x.At.Name },Expr:={ Kind:=x.Expr.Kind,N:=x.Expr.N,Pos:=x.Expr.Pos,Type_:=x.Expr.Type_,Symbol:=x.Expr.Symbol,Name:=x.Expr.Name,Args:=mkL x.Expr.Args (k) } }
 cntT x:=cntL x.Expr.Args
 hdT x k:=(some k).bind (hdL x.Expr.Args)
 lawT x k:=by simp [q4F,Int.add_assoc]
 cmT x k:=by simp [q3J]
instance:CntTSz Equation:=⟨fun x=>by show cntL x.Expr.Args≤16*(x.At.Name.size+x.Expr.Symbol.size+x.Expr.Name.size+szL x.Expr.Args); have:=q3o x.Expr.Args; omega⟩
theorem q5P {S:Nat→Prop}{w:World}{x:Equation}{v8:Value}(h:rd S w x [.int .i64 x.At.Pos,.string x.At.Name,.int .i64 x.Expr.Kind,.int .i64 x.Expr.N,.int .i64 x.Expr.Pos,.int .i64 x.Expr.Type_,.string x.Expr.Symbol,.string x.Expr.Name,v8]):rd S w x.At [.int .i64 x.At.Pos,.string x.At.Name]:=by
 obtain⟨q8,e,h0,h1,h2,h3,h4,h5,h6,h7,s8⟩:=h
 simp only [List.cons.injEq,and_true,true_and] at e
 exact⟨rfl,h0,h1⟩
theorem q4U {S:Nat→Prop}{w:World}{x:Equation}{v8:Value}(h:rd S w x [.int .i64 x.At.Pos,.string x.At.Name,.int .i64 x.Expr.Kind,.int .i64 x.Expr.N,.int .i64 x.Expr.Pos,.int .i64 x.Expr.Type_,.string x.Expr.Symbol,.string x.Expr.Name,v8]):rd S w x.Expr [.int .i64 x.Expr.Kind,.int .i64 x.Expr.N,.int .i64 x.Expr.Pos,.int .i64 x.Expr.Type_,.string x.Expr.Symbol,.string x.Expr.Name,v8]:=by
 obtain⟨q8,e,h0,h1,h2,h3,h4,h5,h6,h7,s8⟩:=h
 simp only [List.cons.injEq,and_true,true_and] at e
 exact q0b.2 ⟨v8,rfl,h2,h3,h4,h5,h6,h7,by rw [e]; exact s8⟩
structure Contribution where
 Symbol:ByteArray
 Name:ByteArray
 Target:Expr
 Value:Expr
noncomputable instance:DecidableEq Contribution:=fun a b=>Classical.propDecidable (a=b)
instance:Rep Contribution where
 sz:=16
 pos:=by decide
 rd S w x cs:=∃ v8:Value,∃ v15:Value,cs=[.string x.Symbol,.string x.Name,.int .i64 x.Target.Kind,.int .i64 x.Target.N,.int .i64 x.Target.Pos,.int .i64 x.Target.Type_,.string x.Target.Symbol,.string x.Target.Name,v8,.int .i64 x.Value.Kind,.int .i64 x.Value.N,.int .i64 x.Value.Pos,.int .i64 x.Value.Type_,.string x.Value.Symbol,.string x.Value.Name,v15]∧x.Symbol.size≤9223372036854775807∧x.Name.size≤9223372036854775807∧I64 x.Target.Kind∧I64 x.Target.N∧I64 x.Target.Pos∧I64 x.Target.Type_∧x.Target.Symbol.size≤9223372036854775807∧x.Target.Name.size≤9223372036854775807∧I64 x.Value.Kind∧I64 x.Value.N∧I64 x.Value.Pos∧I64 x.Value.Type_∧x.Value.Symbol.size≤9223372036854775807∧x.Value.Name.size≤9223372036854775807∧rdS S w x.Target.Args v8∧rdS S w x.Value.Args v15
 len:=by rintro S w x cs ⟨v8,v15,rfl,_⟩; rfl
 one:=by rintro S w x cs ⟨v8,v15,rfl,h0,h1,h2,h3,h4,h5,h6,h7,h9,h10,h11,h12,h13,h14,s8,s15⟩; obtain⟨_,_,rfl,_⟩:=s8.form; obtain⟨_,_,rfl,_⟩:=s15.form; simp [Value.oneCell']
 mono:=by rintro S S' w x cs ⟨v8,v15,rfl,h0,h1,h2,h3,h4,h5,h6,h7,h9,h10,h11,h12,h13,h14,s8,s15⟩ hS; exact⟨v8,v15,rfl,h0,h1,h2,h3,h4,h5,h6,h7,h9,h10,h11,h12,h13,h14,s8.mono hS,s15.mono hS⟩
 frame:=by rintro S w w' x cs ⟨v8,v15,rfl,h0,h1,h2,h3,h4,h5,h6,h7,h9,h10,h11,h12,h13,h14,s8,s15⟩ hf; exact⟨v8,v15,rfl,h0,h1,h2,h3,h4,h5,h6,h7,h9,h10,h11,h12,h13,h14,s8.frame hf,s15.frame hf⟩
 bound:=by rintro S w x cs ⟨v8,v15,rfl,h0,h1,h2,h3,h4,h5,h6,h7,h9,h10,h11,h12,h13,h14,s8,s15⟩; exact⟨v8,v15,rfl,h0,h1,h2,h3,h4,h5,h6,h7,h9,h10,h11,h12,h13,h14,s8.bound,s15.bound⟩
instance:Sep Contribution where
 own L w x cs:=∃ v8:Value,∃ v15:Value,∃ L8:List Nat,∃ L15:List Nat,cs=[.string x.Symbol,.string x.Name,.int .i64 x.Target.Kind,.int .i64 x.Target.N,.int .i64 x.Target.Pos,.int .i64 x.Target.Type_,.string x.Target.Symbol,.string x.Target.Name,v8,.int .i64 x.Value.Kind,.int .i64 x.Value.N,.int .i64 x.Value.Pos,.int .i64 x.Value.Type_,.string x.Value.Symbol,.string x.Value.Name,v15]∧x.Symbol.size≤9223372036854775807∧x.Name.size≤9223372036854775807∧I64 x.Target.Kind∧I64 x.Target.N∧I64 x.Target.Pos∧I64 x.Target.Type_∧x.Target.Symbol.size≤9223372036854775807∧x.Target.Name.size≤9223372036854775807∧I64 x.Value.Kind∧I64 x.Value.N∧I64 x.Value.Pos∧I64 x.Value.Type_∧x.Value.Symbol.size≤9223372036854775807∧x.Value.Name.size≤9223372036854775807∧L=L8++L15∧ownS L8 w x.Target.Args v8∧ownS L15 w x.Value.Args v15
 own_rd:=by rintro L w x cs ⟨v8,v15,L8,L15,rfl,h0,h1,h2,h3,h4,h5,h6,h7,h9,h10,h11,h12,h13,h14,rfl,s8,s15⟩; exact⟨v8,v15,rfl,h0,h1,h2,h3,h4,h5,h6,h7,h9,h10,h11,h12,h13,h14,s8.rd.mono (fun b hb=>by simp [hb]),s15.rd.mono (fun b hb=>by simp [hb])⟩
 own_frame:=by rintro L w w' x cs ⟨v8,v15,L8,L15,rfl,h0,h1,h2,h3,h4,h5,h6,h7,h9,h10,h11,h12,h13,h14,rfl,s8,s15⟩ hf; exact⟨v8,v15,_,_,rfl,h0,h1,h2,h3,h4,h5,h6,h7,h9,h10,h11,h12,h13,h14,rfl,s8.frame (fun b hb=>hf b (by simp [hb])),s15.frame (fun b hb=>hf b (by simp [hb]))⟩
 own_lt:=by rintro L w x cs ⟨v8,v15,L8,L15,rfl,h0,h1,h2,h3,h4,h5,h6,h7,h9,h10,h11,h12,h13,h14,rfl,s8,s15⟩ b hb; simp only [List.mem_append] at hb; rcases hb with hb | hb<;>first | exact s8.lt b hb | exact s15.lt b hb
instance:Sz Contribution where
 szd x:=x.Symbol.size+x.Name.size+x.Target.Symbol.size+x.Target.Name.size+szL x.Target.Args+x.Value.Symbol.size+x.Value.Name.size+szL x.Value.Args
instance:Mk Contribution where
 mrk x k:={ Symbol:=Mk.mrk x.Symbol (k),Name:=Mk.mrk x.Name (k+1),Target:={ Kind:=Mk.mrk x.Target.Kind (k+1+1),N:=Mk.mrk x.Target.N (k+1+1+1),Pos:=Mk.mrk x.Target.Pos (k+1+1+1+1),Type_:=Mk.mrk x.Target.Type_ (k+1+1+1+1+1),Symbol:=Mk.mrk x.Target.Symbol (k+1+1+1+1+1+1),Name:=Mk.mrk x.Target.Name (k+1+1+1+1+1+1+1),Args:=mkL x.Target.Args (k+1+1+1+1+1+1+1+1) },Value:={ Kind:=Mk.mrk x.Value.Kind (k+1+1+1+1+1+1+1+1+cntL x.Target.Args),N:=Mk.mrk x.Value.N (k+1+1+1+1+1+1+1+1+cntL x.Target.Args+1),Pos:=Mk.mrk x.Value.Pos (k+1+1+1+1+1+1+1+1+cntL x.Target.Args+1+1),Type_:=Mk.mrk x.Value.Type_ (k+1+1+1+1+1+1+1+1+cntL x.Target.Args+1+1+1),Symbol:=Mk.mrk x.Value.Symbol (k+1+1+1+1+1+1+1+1+cntL x.Target.Args+1+1+1+1),Name:=Mk.mrk x.Value.Name (k+1+1+1+1+1+1+1+1+cntL x.Target.Args+1+1+1+1+1),Args:=mkL x.Value.Args (k+1+1+1+1+1+1+1+1+cntL x.Target.Args+1+1+1+1+1+1) } }
 cnt x:=1+1+1+1+1+1+1+1+cntL x.Target.Args+1+1+1+1+1+1+cntL x.Value.Args
 hd x k:=((((((((((((((((some k).bind (Mk.hd x.Symbol)).bind (Mk.hd x.Name)).bind (Mk.hd x.Target.Kind)).bind (Mk.hd x.Target.N)).bind (Mk.hd x.Target.Pos)).bind (Mk.hd x.Target.Type_)).bind (Mk.hd x.Target.Symbol)).bind (Mk.hd x.Target.Name)).bind (hdL x.Target.Args)).bind (Mk.hd x.Value.Kind)).bind (Mk.hd x.Value.N)).bind (Mk.hd x.Value.Pos)).bind (Mk.hd x.Value.Type_)).bind (Mk.hd x.Value.Symbol)).bind (Mk.hd x.Value.Name)).bind (hdL x.Value.Args)
 law x k:=by simp [Mk.law,q4F,Int.add_assoc,cntI,cntS,cntB]
 cm x k:=by simp [q3J]
instance:CntSz Contribution:=⟨fun x=>by show 1+1+1+1+1+1+1+1+cntL x.Target.Args+1+1+1+1+1+1+cntL x.Value.Args≤16*(1+(x.Symbol.size+x.Name.size+x.Target.Symbol.size+x.Target.Name.size+szL x.Target.Args+x.Value.Symbol.size+x.Value.Name.size+szL x.Value.Args)); have:=q3o x.Target.Args; have:=q3o x.Value.Args; omega⟩
theorem q4V (x:Contribution):Sz.szd x=x.Symbol.size+x.Name.size+x.Target.Symbol.size+x.Target.Name.size+szL x.Target.Args+x.Value.Symbol.size+x.Value.Name.size+szL x.Value.Args:=rfl
instance:MkT Contribution where
 mrkT x k:={ Symbol:=x.Symbol,Name:=x.Name,Target:={ Kind:=x.Target.Kind,N:=x.Target.N,Pos:=x.Target.Pos,Type_:=x.Target.Type_,Symbol:=x.Target.Symbol,Name:=x.Target.Name,Args:=mkL x.Target.Args (k) },Value:={ Kind:=x.Value.Kind,N:=x.Value.N,Pos:=x.Value.Pos,Type_:=x.Value.Type_,Symbol:=x.Value.Symbol,Name:=x.Value.Name,Args:=mkL x.Value.Args (k+cntL x.Target.Args) } }
 cntT x:=cntL x.Target.Args+cntL x.Value.Args
 hdT x k:=((some k).bind (hdL x.Target.Args)).bind (hdL x.Value.Args)
 lawT x k:=by simp [q4F,Int.add_assoc]
 cmT x k:=by simp [q3J]
instance:CntTSz Contribution:=⟨fun x=>by show cntL x.Target.Args+cntL x.Value.Args≤16*(x.Symbol.size+x.Name.size+x.Target.Symbol.size+x.Target.Name.size+szL x.Target.Args+x.Value.Symbol.size+x.Value.Name.size+szL x.Value.Args); have:=q3o x.Target.Args; have:=q3o x.Value.Args; omega⟩
theorem q3c {S:Nat→Prop}{w:World}{x:Contribution}{v8:Value}{v15:Value}(h:rd S w x [.string x.Symbol,.string x.Name,.int .i64 x.Target.Kind,.int .i64 x.Target.N,.int .i64 x.Target.Pos,.int .i64 x.Target.Type_,.string x.Target.Symbol,.string x.Target.Name,v8,.int .i64 x.Value.Kind,.int .i64 x.Value.N,.int .i64 x.Value.Pos,.int .i64 x.Value.Type_,.string x.Value.Symbol,.string x.Value.Name,v15]):rd S w x.Target [.int .i64 x.Target.Kind,.int .i64 x.Target.N,.int .i64 x.Target.Pos,.int .i64 x.Target.Type_,.string x.Target.Symbol,.string x.Target.Name,v8]:=by
 obtain⟨q8,q15,e,h0,h1,h2,h3,h4,h5,h6,h7,h9,h10,h11,h12,h13,h14,s8,s15⟩:=h
 simp only [List.cons.injEq,and_true,true_and] at e
 obtain⟨e8,e15⟩:=e
 exact q0b.2 ⟨v8,rfl,h2,h3,h4,h5,h6,h7,by rw [e8]; exact s8⟩
theorem q3l {S:Nat→Prop}{w:World}{x:Contribution}{v8:Value}{v15:Value}(h:rd S w x [.string x.Symbol,.string x.Name,.int .i64 x.Target.Kind,.int .i64 x.Target.N,.int .i64 x.Target.Pos,.int .i64 x.Target.Type_,.string x.Target.Symbol,.string x.Target.Name,v8,.int .i64 x.Value.Kind,.int .i64 x.Value.N,.int .i64 x.Value.Pos,.int .i64 x.Value.Type_,.string x.Value.Symbol,.string x.Value.Name,v15]):rd S w x.Value [.int .i64 x.Value.Kind,.int .i64 x.Value.N,.int .i64 x.Value.Pos,.int .i64 x.Value.Type_,.string x.Value.Symbol,.string x.Value.Name,v15]:=by
 obtain⟨q8,q15,e,h0,h1,h2,h3,h4,h5,h6,h7,h9,h10,h11,h12,h13,h14,s8,s15⟩:=h
 simp only [List.cons.injEq,and_true,true_and] at e
 obtain⟨e8,e15⟩:=e
 exact q0b.2 ⟨v15,rfl,h9,h10,h11,h12,h13,h14,by rw [e15]; exact s15⟩
structure Rule where
 Name:ByteArray
 Left:ByteArray
 Right:(List ByteArray)
 Literal:Bool
 Equations:(List Equation)
 Contributions:(List Contribution)
noncomputable instance:DecidableEq Rule:=fun a b=>Classical.propDecidable (a=b)
instance:Rep Rule where
 sz:=6
 pos:=by decide
 rd S w x cs:=∃ v2:Value,∃ v4:Value,∃ v5:Value,cs=[.string x.Name,.string x.Left,v2,.bool x.Literal,v4,v5]∧x.Name.size≤9223372036854775807∧x.Left.size≤9223372036854775807∧rdS S w x.Right v2∧rdS S w x.Equations v4∧rdS S w x.Contributions v5
 len:=by rintro S w x cs ⟨v2,v4,v5,rfl,_⟩; rfl
 one:=by rintro S w x cs ⟨v2,v4,v5,rfl,h0,h1,s2,s4,s5⟩; obtain⟨_,_,rfl,_⟩:=s2.form; obtain⟨_,_,rfl,_⟩:=s4.form; obtain⟨_,_,rfl,_⟩:=s5.form; simp [Value.oneCell']
 mono:=by rintro S S' w x cs ⟨v2,v4,v5,rfl,h0,h1,s2,s4,s5⟩ hS; exact⟨v2,v4,v5,rfl,h0,h1,s2.mono hS,s4.mono hS,s5.mono hS⟩
 frame:=by rintro S w w' x cs ⟨v2,v4,v5,rfl,h0,h1,s2,s4,s5⟩ hf; exact⟨v2,v4,v5,rfl,h0,h1,s2.frame hf,s4.frame hf,s5.frame hf⟩
 bound:=by rintro S w x cs ⟨v2,v4,v5,rfl,h0,h1,s2,s4,s5⟩; exact⟨v2,v4,v5,rfl,h0,h1,s2.bound,s4.bound,s5.bound⟩
instance:Sep Rule where
 own L w x cs:=∃ v2:Value,∃ v4:Value,∃ v5:Value,∃ L2:List Nat,∃ L4:List Nat,∃ L5:List Nat,cs=[.string x.Name,.string x.Left,v2,.bool x.Literal,v4,v5]∧x.Name.size≤9223372036854775807∧x.Left.size≤9223372036854775807∧L=L2++L4++L5∧ownS L2 w x.Right v2∧ownS L4 w x.Equations v4∧ownS L5 w x.Contributions v5
 own_rd:=by rintro L w x cs ⟨v2,v4,v5,L2,L4,L5,rfl,h0,h1,rfl,s2,s4,s5⟩; exact⟨v2,v4,v5,rfl,h0,h1,s2.rd.mono (fun b hb=>by simp [hb]),s4.rd.mono (fun b hb=>by simp [hb]),s5.rd.mono (fun b hb=>by simp [hb])⟩
 own_frame:=by rintro L w w' x cs ⟨v2,v4,v5,L2,L4,L5,rfl,h0,h1,rfl,s2,s4,s5⟩ hf; exact⟨v2,v4,v5,_,_,_,rfl,h0,h1,rfl,s2.frame (fun b hb=>hf b (by simp [hb])),s4.frame (fun b hb=>hf b (by simp [hb])),s5.frame (fun b hb=>hf b (by simp [hb]))⟩
 own_lt:=by rintro L w x cs ⟨v2,v4,v5,L2,L4,L5,rfl,h0,h1,rfl,s2,s4,s5⟩ b hb; simp only [List.mem_append] at hb; rcases hb with (hb | hb) | hb<;>first | exact s2.lt b hb | exact s4.lt b hb | exact s5.lt b hb
instance:Sz Rule where
 szd x:=x.Name.size+x.Left.size+szL x.Right+szL x.Equations+szL x.Contributions
instance:Mk Rule where
 mrk x k:={ Name:=Mk.mrk x.Name (k),Left:=Mk.mrk x.Left (k+1),Right:=mkL x.Right (k+1+1),Literal:=Mk.mrk x.Literal (k+1+1+cntL x.Right),Equations:=mkL x.Equations (k+1+1+cntL x.Right+1),Contributions:=mkL x.Contributions (k+1+1+cntL x.Right+1+cntL x.Equations) }
 cnt x:=1+1+cntL x.Right+1+cntL x.Equations+cntL x.Contributions
 hd x k:=((((((some k).bind (Mk.hd x.Name)).bind (Mk.hd x.Left)).bind (hdL x.Right)).bind (Mk.hd x.Literal)).bind (hdL x.Equations)).bind (hdL x.Contributions)
 law x k:=by simp [Mk.law,q4F,Int.add_assoc,cntI,cntS,cntB]
 cm x k:=by simp [q3J]
instance:CntSz Rule:=⟨fun x=>by show 1+1+cntL x.Right+1+cntL x.Equations+cntL x.Contributions≤16*(1+(x.Name.size+x.Left.size+szL x.Right+szL x.Equations+szL x.Contributions)); have:=q3o x.Right; have:=q3o x.Equations; have:=q3o x.Contributions; omega⟩
theorem q7W (x:Rule):Sz.szd x=x.Name.size+x.Left.size+szL x.Right+szL x.Equations+szL x.Contributions:=rfl
instance:MkT Rule where
 mrkT x k:={ Name:=x.Name,Left:=x.Left,Right:=mkL x.Right (k),Literal:=x.Literal,Equations:=mkL x.Equations (k+cntL x.Right),Contributions:=mkL x.Contributions (k+cntL x.Right+cntL x.Equations) }
 cntT x:=cntL x.Right+cntL x.Equations+cntL x.Contributions
 hdT x k:=(((some k).bind (hdL x.Right)).bind (hdL x.Equations)).bind (hdL x.Contributions)
 lawT x k:=by simp [q4F,Int.add_assoc]
 cmT x k:=by simp [q3J]
instance:CntTSz Rule:=⟨fun x=>by show cntL x.Right+cntL x.Equations+cntL x.Contributions≤16*(x.Name.size+x.Left.size+szL x.Right+szL x.Equations+szL x.Contributions); have:=q3o x.Right; have:=q3o x.Equations; have:=q3o x.Contributions; omega⟩
structure Grammar where
 Symbols:(List Symbol)
 Rules:(List Rule)
noncomputable instance:DecidableEq Grammar:=fun a b=>Classical.propDecidable (a=b)
instance:Rep Grammar where
 sz:=2
 pos:=by decide
 rd S w x cs:=∃ v0:Value,∃ v1:Value,cs=[v0,v1]∧rdS S w x.Symbols v0∧rdS S w x.Rules v1
 len:=by rintro S w x cs ⟨v0,v1,rfl,_⟩; rfl
 one:=by rintro S w x cs ⟨v0,v1,rfl,s0,s1⟩; obtain⟨_,_,rfl,_⟩:=s0.form; obtain⟨_,_,rfl,_⟩:=s1.form; simp [Value.oneCell']
 mono:=by rintro S S' w x cs ⟨v0,v1,rfl,s0,s1⟩ hS; exact⟨v0,v1,rfl,s0.mono hS,s1.mono hS⟩
 frame:=by rintro S w w' x cs ⟨v0,v1,rfl,s0,s1⟩ hf; exact⟨v0,v1,rfl,s0.frame hf,s1.frame hf⟩
 bound:=by rintro S w x cs ⟨v0,v1,rfl,s0,s1⟩; exact⟨v0,v1,rfl,s0.bound,s1.bound⟩
instance:Sep Grammar where
 own L w x cs:=∃ v0:Value,∃ v1:Value,∃ L0:List Nat,∃ L1:List Nat,cs=[v0,v1]∧L=L0++L1∧ownS L0 w x.Symbols v0∧ownS L1 w x.Rules v1
 own_rd:=by rintro L w x cs ⟨v0,v1,L0,L1,rfl,rfl,s0,s1⟩; exact⟨v0,v1,rfl,s0.rd.mono (fun b hb=>by simp [hb]),s1.rd.mono (fun b hb=>by simp [hb])⟩
 own_frame:=by rintro L w w' x cs ⟨v0,v1,L0,L1,rfl,rfl,s0,s1⟩ hf; exact⟨v0,v1,_,_,rfl,rfl,s0.frame (fun b hb=>hf b (by simp [hb])),s1.frame (fun b hb=>hf b (by simp [hb]))⟩
 own_lt:=by rintro L w x cs ⟨v0,v1,L0,L1,rfl,rfl,s0,s1⟩ b hb; simp only [List.mem_append] at hb; rcases hb with hb | hb<;>first | exact s0.lt b hb | exact s1.lt b hb
instance:Sz Grammar where
 szd x:=szL x.Symbols+szL x.Rules
instance:Mk Grammar where
 mrk x k:={ Symbols:=mkL x.Symbols (k),Rules:=mkL x.Rules (k+cntL x.Symbols) }
 cnt x:=cntL x.Symbols+cntL x.Rules
 hd x k:=((some k).bind (hdL x.Symbols)).bind (hdL x.Rules)
 law x k:=by simp [Mk.law,q4F,Int.add_assoc,cntI,cntS,cntB]
 cm x k:=by simp [q3J]
instance:CntSz Grammar:=⟨fun x=>by show cntL x.Symbols+cntL x.Rules≤16*(1+(szL x.Symbols+szL x.Rules)); have:=q3o x.Symbols; have:=q3o x.Rules; omega⟩
theorem q5e (x:Grammar):Sz.szd x=szL x.Symbols+szL x.Rules:=rfl
instance:MkT Grammar where
 mrkT x k:={ Symbols:=mkL x.Symbols (k),Rules:=mkL x.Rules (k+cntL x.Symbols) }
 cntT x:=cntL x.Symbols+cntL x.Rules
 hdT x k:=((some k).bind (hdL x.Symbols)).bind (hdL x.Rules)
 lawT x k:=by simp [q4F,Int.add_assoc]
 cmT x k:=by simp [q3J]
instance:CntTSz Grammar:=⟨fun x=>by show cntL x.Symbols+cntL x.Rules≤16*(szL x.Symbols+szL x.Rules); have:=q3o x.Symbols; have:=q3o x.Rules; omega⟩
end Go.Proofs.YtmblndlpkpaobaaGreat
