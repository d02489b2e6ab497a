/- A small engine for walks through a Go program: plain lemmas on the model, without conditions of their own. -/
import Derived.Test.YtnhofaohogianaaGreatAb1
import Derived.ChangeArms
import Derived.Deep.Draws
import Derived.Sort.Grow
set_option linter.unusedVariables false
set_option linter.unusedSimpArgs false
set_option linter.ambiguousOpen false
set_option linter.unusedSectionVars false
set_option linter.unnecessarySimpa false
open List renaming append_assoc→Ayz,take_of_length_le→Bfz,size_toArray→Axz
open Nat renaming le_refl→Acz
namespace Go.E
def grd {α:Type}(c:Prop)[Decidable c](k:Option α):Option α:=if c then k else none
theorem z4r {α:Type}{c:Prop}[Decidable c]{k:Option α}{r:α}(h:grd c k=some r):c∧k=some r:=by
 unfold grd at h;split at h
 ·exact⟨‹_›,h⟩
 ·cases h
theorem q3G {α:Type}{c:Prop}[Decidable c]{k:Option α}(h:c):grd c k=k:=ifP h
theorem bd {α β:Type}{o:Option α}{f:α→Option β}{r:β}(h:o.bind f=some r):∃ x,o=some x∧f x=some r:=Option.bind_eq_some_iff.1 h
def onr {σ ρ β:Type}(g:ρ→Option β)(f:σ→Option β):σ ⊕ ρ→Option β
 | .inl s=>f s
 | .inr r=>g r
@[simp] theorem z3q {σ ρ β:Type} (g:ρ→Option β) (f:σ→Option β) (s:σ):onr g f (.inl s)=f s:=rfl
@[simp] theorem z6F {σ ρ β:Type} (g:ρ→Option β) (f:σ→Option β) (r:ρ):onr g f (.inr r)=g r:=rfl
def eachL {α σ:Type}(f:Nat→α→σ→Option σ):Nat→List α→σ→Option σ
 | _,[],s=>some s
 | i,x::xs,s=>(f i x s).bind (eachL f (i+1) xs)
def findL {α σ ρ:Type}(f:Nat→α→σ→Option (σ ⊕ ρ)):Nat→List α→σ→Option (σ ⊕ ρ)
 | _,[],s=>some (.inl s)
 | i,x::xs,s=>(f i x s).bind fun|.inl s'=>findL f (i+1) xs s'|.inr r=>some (.inr r)
def eachN {σ:Type}(f:Nat→σ→Option σ):Nat→Nat→σ→Option σ
 | _,0,s=>some s
 | i,n+1,s=>(f i s).bind (eachN f (i+1) n)
def findN {σ ρ:Type}(f:Nat→σ→Option (σ ⊕ ρ)):Nat→Nat→σ→Option (σ ⊕ ρ)
 | _,0,s=>some (.inl s)
 | i,n+1,s=>(f i s).bind fun|.inl s'=>findN f (i+1) n s'|.inr r=>some (.inr r)
def z9A {σ ρ:Type}(f:σ→Option (σ ⊕ ρ)):Nat→σ→Option ρ
 | 0,_=>none
 | n+1,s=>(f s).bind fun|.inl s'=>z9A f n s'|.inr r=>some r
theorem z8u {σ ρ:Type}{f:σ→Option (σ ⊕ ρ)}:∀ {n m:Nat} {s:σ} {r:ρ},z9A f n s=some r→n≤m→z9A f m s=some r
 | n+1,m+1,s,r,h,hm=>by
  simp only[z9A] at h ⊢
  obtain⟨x,h1,h2⟩:=bd h
  rw[h1]
  cases x with
  | inl s'=>exact z8u (n:=n) h2 (by omega)
  | inr q=>exact h2
 | n+1,0,_,_,_,hm=>absurd hm (by omega)
open Classical in
noncomputable def q4Y {σ ρ:Type} (f:σ→Option (σ ⊕ ρ)) (s:σ):Option ρ:=if h:∃ r n,z9A f n s=some r then some h.choose else none
theorem z6a {σ ρ:Type}{f:σ→Option (σ ⊕ ρ)}{s:σ}{r:ρ}:q4Y f s=some r↔∃ n,z9A f n s=some r:=by
 constructor
 ·intro h
  unfold q4Y at h
  split at h
  ·rename_i hx
   cases h
   exact hx.choose_spec
  ·cases h
 ·rintro⟨n,h⟩
  have hx:∃ r n,z9A f n s=some r:=⟨r,n,h⟩
  unfold q4Y
  rw[dif_pos hx]
  obtain⟨m,hm⟩:=hx.choose_spec
  have h1:=z8u hm (Nat.le_max_left m n)
  have h2:=z8u h (Nat.le_max_right m n)
  exact h1.symm.trans h2
theorem q4Q {σ ρ:Type}{f:σ→Option (σ ⊕ ρ)}{s s' : σ}(h:f s=some (.inl s')):q4Y f s=q4Y f s':=by
 have key:∀ r,q4Y f s=some r↔q4Y f s'=some r:=by
  intro r
  rw[z6a,z6a]
  constructor
  ·rintro⟨n,hn⟩
   cases n with
   | zero=>cases hn
   | succ n=>simp only[z9A,h,bsS] at hn;exact⟨n,hn⟩
  ·rintro⟨n,hn⟩
   exact⟨n+1,by simp only[z9A,h,bsS];exact hn⟩
 cases ho:q4Y f s with
 | none=>cases h2:q4Y f s' with
  | none=>rfl
  | some r=>rw[(key r).2 h2] at ho;cases ho
 | some r=>exact ((key r).1 ho).symm
theorem q3V {σ ρ:Type}{f:σ→Option (σ ⊕ ρ)}{s:σ}{r:ρ}(h:f s=some (.inr r)):q4Y f s=some r:=
 z6a.2 ⟨1,by simp[z9A,h]⟩
end Go.E
namespace Go.E
open Go
open Rep (rd)
open Sep (own)
structure Pr where
 p:(Nat→Prop)→World→Prop
 mono:∀ {F F' : Nat→Prop} {w:World},p F w→(∀ b,F b→F' b)→p F' w
 frame:∀ {F:Nat→Prop} {w w' : World},p F w→(∀ b,F b→b<w.heap.size→w'.heap[b]?=w.heap[b]?)→p F w'
structure It where
 p:List Nat→List Nat→(Nat→Prop)→World→Prop
 mono:∀ {L C:List Nat} {F F' : Nat→Prop} {w:World},p L C F w→(∀ b,F b→F' b)→p L C F' w
 frame:∀ {L C:List Nat} {F:Nat→Prop} {w w' : World},p L C F w→(∀ b,F b→b<w.heap.size→w'.heap[b]?=w.heap[b]?)→(∀ b∈L++C,w'.heap[b]?=w.heap[b]?)→p L C F w'
 lt:∀ {L C:List Nat} {F:Nat→Prop} {w:World},p L C F w→∀ b∈L++C,b<w.heap.size
end Go.E
namespace Go.E
open Go
open Rep (rd)
open Sep (own)
section
variable {F0:Nat→Prop}{M:List Nat}{w0 w w' : World}{fr:List Pr}{ow:List It}{i j:Nat}{e:TypeId}{v:Value}{cs:List Value}
variable {P:Program}{n d:Nat}{Q:Post}{ρ:Env}{ops:Array Oper}{o:Oper}{rest:List Oper}
theorem j5T {cur l:List Value}{off N:Nat}(h:off+l.length≤N)(hN:N≤cur.length):(q4X cur off l).take N=q4X (cur.take N) off l:=by
 simp only[q4X]
 have e1:(cur.take off).length=off:=by simp;omega
 rw[Ayz,Ayz,List.take_append,List.take_append,e1,List.take_take,List.take_take,List.drop_take]
 rw[show min N off=off by omega,show min off N=off by omega,Bfz (l:=l) (by omega),show N-off-l.length=N-(off+l.length) by omega]
theorem Own.st {k m:Nat}{b off:Nat}{l cur:List Value}(h:Own w 0 e k v m cs)(hb:v.ownBlock=some b)(hB:Blk w b e cur)(hfit:off+l.length≤m*k)(hB' : Blk w' b e (q4X cur off l)):Own w' 0 e k v m (q4X cs off l):=by
 rcases h.2 with ⟨rfl,_⟩|⟨g,cap,cur2,rfl,h0,hg,hn,hc,hs,ht⟩
 ·cases hb
 ·cases hb
  have e0:cur2=cur.toArray:=by
   have h1:w.heap[g]?=some (.cells cur.toArray e (0,0)):=hB
   rw[h1] at hg
   injection hg with hg
   injection hg with hg
   exact hg.symm
  subst e0
  simp only[Axz] at hs
  simp only[] at ht
  have hmk:m*k≤cap*k:=Nat.mul_le_mul_right _ hn
  have hcl:cs.length=m*k:=h.1
  refine⟨?_,.inr ⟨g,cap,(q4X cur off l).toArray,rfl,h0,hB',hn,hc,?_,?_⟩⟩
  ·rw[z7q (by rw[hcl];exact hfit)];exact hcl
  ·simp only[Axz];rw[z7q (by omega)];exact hs
  ·subst ht
   exact j5T hfit (by omega)
end
end Go.E
namespace Go.E
open Go
open Rep (rd)
open Sep (own)
section
variable {F0:Nat→Prop}{M:List Nat}{w0 w w' : World}{fr:List Pr}{ow:List It}{i j:Nat}{e:TypeId}{v:Value}{cs:List Value}
variable {P:Program}{n d:Nat}{Q:Post}{ρ:Env}{ops:Array Oper}{o:Oper}{rest:List Oper}
theorem k6V {α:Type}{xs:List α}{k:Nat}{x:α}(h:xs[k]?=some x):k<xs.length:=(List.getElem?_eq_some_iff.1 h).1
theorem j9I {n k:Nat}(h:I64 (n:Int))(hk:k≤4611686018427387904):I64 ((n:Int)-(k:Int)):=⟨by omega,by have:=h.2;omega⟩
theorem k2i {s:BA_}(h:s.size≤9223372036854775807):I64 (s.size:Int):=⟨by omega,by omega⟩
end
end Go.E
namespace Go.E
open Go
open Rep (rd)
open Sep (own)
theorem q5J {k:Nat}{b:Int}(h:(k:Int)<b)(hn:b≤9223372036854775807):I64 ((k+1:Nat):Int):=⟨by omega,by omega⟩
theorem k4y {k:Int}(h:k<63):I64 ((2 ^ k.toNat:Nat):Int):=by
 have h1:k.toNat≤62:=by omega
 have h2:2 ^ k.toNat≤2 ^ 62:=Nat.pow_le_pow_right (by decide) h1
 have h3:(2:Nat) ^ 62=4611686018427387904:=by decide
 generalize 2 ^ k.toNat=n at *
 exact⟨by omega,by omega⟩
theorem k4z {x k:Int}(hx:I64 x):I64 ((x.toNat >>> k.toNat:Nat):Int):=by
 have h1:x.toNat >>> k.toNat≤x.toNat:=by rw[Nat.shiftRight_eq_div_pow];exact Nat.div_le_self _ _
 have:=hx.2
 generalize x.toNat >>> k.toNat=n at *
 exact⟨by omega,by omega⟩
theorem k4A {x y:Int}(h:0≤x∧0≤y)(hx:I64 x)(hy:I64 y):I64 ((x.toNat &&& y.toNat:Nat):Int):=by
 have h1:x.toNat &&& y.toNat≤x.toNat:=Nat.and_le_left
 have:=hx.2
 exact⟨by omega,by omega⟩
theorem k6m {x y:Int}(h:0≤x∧0≤y)(hx:I64 x)(hy:I64 y):I64 ((x.toNat ||| y.toNat:Nat):Int):=by
 have h1:x.toNat<2 ^ 63:=by
   have:=hx.2;have:(2:Nat) ^ 63=9223372036854775808:=by decide
   omega
 have h2:y.toNat<2 ^ 63:=by
   have:=hy.2;have:(2:Nat) ^ 63=9223372036854775808:=by decide
   omega
 have h3:=Nat.or_lt_two_pow h1 h2
 have h4:(2:Nat) ^ 63=9223372036854775808:=by decide
 exact⟨by omega,by omega⟩
section
variable {F0:Nat→Prop}{M:List Nat}{w0 w w' : World}{fr:List Pr}{ow:List It}{i j:Nat}{e:TypeId}{v:Value}{cs:List Value}
variable {P:Program}{n d:Nat}{Q:Post}{ρ:Env}{ops:Array Oper}{o:Oper}{rest:List Oper}
theorem q1Q {T:TypeId}{a b:Nat}{y:Int}(hy:y=(b:Int))(h:I64 ((a+b:Nat):Int)):Bin P .add T (.int .i64 (a:Int)) (.int .i64 y) (.int .i64 ((a+b:Nat):Int)):=by
 subst hy
 rw[Int.natCast_add]
 rw[Int.natCast_add] at h
 exact Bin.add h
theorem Ev.ex {x:Operand}{k:Nat}{vs:Array Value}{u:Value}(ho:o.op=.extract x k)(hx:E.ev ρ x=.tuple vs)(hv:vs[k]?=some u):Ev P ρ o w u:=by
 simp[Ev,execOp,ho,hx,Instr.extract,hv]
end
end Go.E
namespace Go.E
open Go
open Rep (rd)
open Sep (own)
instance:Rep UInt8 where
 sz:=1
 pos:=by decide
 rd _ _ x cs:=cs=[.int .u8 (x.toNat:Int)]
 len h:=by rw[h];rfl
 one h:=by rw[h];simp[Value.oneCell']
 mono h _:=h
 frame h _:=h
 bound h:=h
section
variable {P:Program}{ρ:Env}{w:World}{o:Oper}
theorem q3h {T:TypeId}{x i:Operand}{s:BA_}{q:IntKind}{k:Nat}{b:UInt8}(ho:o.op=.index T x i)(hT:P.underlying T=some .string)(hx:E.ev ρ x=.string s)(hi:E.ev ρ i=.int q (k:Int))(hb:s.data[k]?=some b):Ev P ρ o w (.int .u8 (b.toNat:Int)):=by
 have h1:s[k]?=some b:=by
  obtain⟨h2,h3⟩:=Array.getElem?_eq_some_iff.1 hb
  have h4:k<s.size:=h2
  have:s[k]?=some s[k]:=getElem?_pos s k h4
  rw[this];congr 1
 simp[Ev,execOp,ho,hx,hi,Instr.index,asIntOf,run_underlying hT,h1]
theorem k2j (a:Int):I64 (IntKind.i64.wrap a):=by
 have:IntKind.i64.wrap a=(a+9223372036854775808) % 18446744073709551616-9223372036854775808:=by
  simp[IntKind.wrap,IntKind.bits,IntKind.signed]
  split<;>omega
 rw[this]
 constructor<;>omega
def j8w (x y:Int):Int:=IntKind.i64.wrap ((BitVec.ofInt 64 x &&& BitVec.ofInt 64 y).toNat:Int)
theorem q1R {T:TypeId}{x y:Int}:Bin P .and T (.int .i64 x) (.int .i64 y) (.int .i64 (j8w x y)):=fun a b w=>by
 simp only[q6s]
 rfl
theorem q1S {T:TypeId}{x y:Int}(h:y≠0)(hi:I64 (x.tdiv y)):Bin P .quo T (.int .i64 x) (.int .i64 y) (.int .i64 (x.tdiv y)):=fun a b w=>by
 simp[q6s,binOp,Op.intDiv,h,IntWalk.i64_in _ hi]
theorem q1T {T:TypeId}{x y:Int}(h:y≠0):Bin P .rem T (.int .i64 x) (.int .i64 y) (.int .i64 (x.tmod y)):=fun a b w=>by
 simp[q6s,binOp,Op.intDiv,h]
theorem k4B {x y:Int}(hx:I64 x):I64 (x.tmod y):=by
 have h1:=hx.1
 have h2:=hx.2
 have h3:(x.tmod y).natAbs≤x.natAbs:=by
  rw[Int.natAbs_tmod];exact Nat.mod_le _ _
 rcases Int.lt_or_le x 0 with h|h
 ·have h4:=Int.tmod_nonneg (a:=-x) y (by omega)
  rw[Int.neg_tmod] at h4
  constructor<;>omega
 ·constructor<;>omega
theorem q1U {T:TypeId}{a b:BA_}:Bin P .lss T (.string a) (.string b) (.bool (Op.bytesLess a.toList b.toList)):=fun x y w=>by simp[z2d,binOp,Op.stringOp]
theorem q1V {T:TypeId}{a b:BA_}:Bin P .gtr T (.string a) (.string b) (.bool (!(Op.bytesLess a.toList b.toList||decide (a=b)))):=fun x y w=>by simp[z2d,binOp,Op.stringOp,beqS]
theorem q1W {T:TypeId}{a b:BA_}:Bin P .geq T (.string a) (.string b) (.bool (!Op.bytesLess a.toList b.toList)):=fun x y w=>by simp[z2d,binOp,Op.stringOp]
theorem q1X {T:TypeId}{a b:BA_}:Bin P .leq T (.string a) (.string b) (.bool (Op.bytesLess a.toList b.toList||decide (a=b))):=fun x y w=>by simp[z2d,binOp,Op.stringOp,beqS]
end
end Go.E
namespace Go.E
open Go
open Rep (rd)
open Sep (own)
section
variable {F0:Nat→Prop}{M:List Nat}{w0 w w' : World}{fr:List Pr}{ow:List It}{i j:Nat}{e:TypeId}{v:Value}{cs:List Value}
theorem q2G {P:Program}{ρ:Env}{o:Oper}{x:Operand}{a:Addr}(ho:o.op=.nilCheck x)(hx:E.ev ρ x=.pointer (some a)):Ev P ρ o w (.pointer (some a)):=by
 simp[Ev,execOp,ho,hx]
class FlatN (α:Type) [Sep α]:Prop where
 none:∀ {L:List Nat} {w:World} {x:α} {cs:List Value},own L w x cs→L=[]
end
end Go.E
namespace Go.E
open Go
open Rep (rd)
open Sep (own)
def idxL:Nat→List Value→List (Nat×Value)
 | _,[]=>[]
 | k,v::vs=>(k,v)::idxL (k+1) vs
theorem j7r:∀ (vs:List Value) (k:Nat) (cs:Array Value),(∀ v∈vs,v.cells=#[v])→cs.size=k+vs.length→Instr.fill (fun i=>some (i*1,1)) cs (idxL k vs)=some (cs.toList.take k++vs).toArray
 | [],k,cs,_,h=>by
  simp only[idxL,Instr.fill,List.append_nil]
  congr 1
  apply Array.ext'
  simp at h
  simp[Bfz,h]
 | v::vs,k,cs,h1,h=>by
  have hv:=h1 v (by simp)
  simp only[lnC] at h
  have ih:=j7r vs (k+1) (cs.setIfInBounds k v) (fun u hu=>h1 u (by simp[hu])) (by simp;omega)
  simp only[idxL,Instr.fill,hv]
  have hk:k<cs.toList.length:=by simp;omega
  have e1:¬ (((#[v]:Array Value).size≠1||k*1+(#[v]:Array Value).size > cs.size)=true):=by simp;omega
  rw[ifN e1]
  have e2:(#[v]:Array Value).zipIdx.foldl (fun cs (x:Value×Nat)=>cs.setIfInBounds (k*1+x.2) x.1) cs=cs.setIfInBounds k v:=by simp
  have e3:(cs.setIfInBounds k v).toList.take (k+1)=cs.toList.take k++[v]:=by
   rw[Array.toList_setIfInBounds,List.take_add_one,List.take_set_of_le (Acz _)]
   simp at hk
   simp[hk]
  rw[e3,Ayz,List.singleton_append] at ih
  exact (congrArg (fun c=>Instr.fill _ c _) e2).trans ih
section
variable {F0:Nat→Prop}{M:List Nat}{w0 w w' : World}{fr:List Pr}{ow:List It}{i j:Nat}{e:TypeId}{v:Value}{cs:List Value}
variable {P:Program}{n d:Nat}{Q:Post}{ρ:Env}{ops:Array Oper}{o:Oper}{rest:List Oper}
theorem k2k {T m:Nat}{z:Value}{vs:List Value}(hT:q7i P T=some e)(hk:szT P e=some 1)(hz:z2M P e=some [z])(h1:∀ v∈vs,v.cells=#[v])(hn:vs.length=m)(hm:Nat.blt 0 m=true)(hm2:Nat.ble m 100000=true) :
  (Instr.buildSlice T m (idxL 0 vs).toArray).run P w=.ok (.slice (some ⟨w.heap.size,0,none⟩) m m) (w.alloc (.cells vs.toArray e)):=by
 obtain⟨zv,hzv,hzc⟩:=q9z (P:=P) (w:=w) hz
 have hm' : 0<m:=by simpa using hm
 have hm2' : m≤100000:=by simpa using hm2
 have n1:¬ 16777216<m:=by omega
 have n2:¬ m=0:=by omega
 have hf:=j7r vs 0 ((Array.range m).map (fun x=>(#[z]:Array Value)[x % 1]!)) h1 (by simp[hn])
 have hnr:=z1U (P:=P) (w:=w) e vs
 simp only[Nat.mul_one] at hf
 simp[Instr.buildSlice,run_underlying (q5T hT),q5R hk,n1,n2,hzv,hzc]
 simp at hf
 rw[hf]
 simp[hnr]
end
theorem k6W {p:Value→Prop}:∀ v∈([]:List Value),p v:=by simp
theorem k6n {p:Value→Prop}{a:Value}{l:List Value}(h:p a)(hl:∀ v∈l,p v):∀ v∈a::l,p v:=fun v hv=>by
 rcases List.mem_cons.1 hv with rfl|hv
 ·exact h
 ·exact hl v hv
class CntSz (α:Type) [Sz α] [Mk α]:Prop where
 le:∀ x:α,Mk.cnt x≤16*(1+Sz.szd x)
class CntTSz (α:Type) [Sz α] [MkT α]:Prop where
 le:∀ x:α,MkT.cntT x≤16*Sz.szd x
end Go.E
namespace Go.E
open Go
open Rep (rd)
open Sep (own)
open Classical in
noncomputable def recO {ρ:Type} (g:Nat→Option ρ):Option ρ:=if h:∃ r N,∀ n,N≤n→g n=some r then some h.choose else none
theorem q5M {ρ:Type}{g:Nat→Option ρ}{r:ρ}(h:recO g=some r):∃ n,g n=some r:=by
 unfold recO at h
 split at h
 ·rename_i hx
  cases h
  obtain⟨N,hN⟩:=hx.choose_spec
  exact⟨N,hN N (Acz _)⟩
 ·cases h
theorem q8H {ρ:Type}{g:Nat→Option ρ}{r:ρ}(N:Nat)(h:∀ n,N≤n→g n=some r):recO g=some r:=by
 unfold recO
 have hx:∃ r N,∀ n,N≤n→g n=some r:=⟨r,N,h⟩
 rw[dif_pos hx]
 obtain⟨M,hM⟩:=hx.choose_spec
 have h1:=h (max N M) (Nat.le_max_left _ _)
 have h2:=hM (max N M) (Nat.le_max_right _ _)
 exact h2.symm.trans h1
section
variable {P:Program}{n:Nat}{Q:Post}{ρ:Env}{w:World}{ops:Array Oper}{o:Oper}{rest:List Oper}{F:Env→Prop}
structure RelW (R:World→World→Prop):Prop where
 trans:∀ {a b c:World},R a b→R b c→R a c
 ext:∀ {a b:World},Ext a b→R a b
 size:∀ {a b:World},R a b→a.heap.size≤b.heap.size
def k6X (os:List (Option Nat))(i:Nat):Nat:=match os[i]? with
 | some (some k)=>k
 | _=>i
structure LooseR (n:Nat) (ops:Array Oper) (h:Nat) (D:Nat→List Nat) (Ψ:Nat→(Nat→Prop)→List Value→World→Prop) (Mw:Nat→Prop) (Θ:Nat→World→Prop) (C:List Nat) (os:List (Option Nat)) (S:Nat→Nat→Prop) (ρ0:Env) (w0:World) (listed:Array Bool) (ρ:Env) (w:World):Prop where
 head:HeadInv .any ops h listed
 ext:Chg (fun q=>Mw q∨w0.heap.size≤q) w0 w
 out:∀ t,(∀ j,j<h→q6Q ops j≠some t)→ρ t=ρ0 t
 apart:∀ i j q,i<h→j<h→listed.getD i false=true→listed.getD j false=true→S i q→S j q→i=j
 bound:∀ i q,i<h→listed.getD i false=true→S i q→w0.heap.size≤q∧q<w.heap.size
 known:∀ j,j<h→listed.getD j false=true→Ψ j (S (k6X os j)) ((D j).map ρ) w
 chain:∃ m,m≤C.length∧(∀ k x,C[k]?=some x→(listed.getD x false=true↔k<m))∧Θ m w
end
inductive K2 where
 | fix (u:Value)
 | free (φ:(Nat→Prop)→Value→World→Prop)
 | dep (t:Nat) (g:Value→Value)
 | wr (t s:Nat) (ψ:(Nat→Prop)→Value→Value→World→Prop)
end Go.E
namespace Go.E
open Go
open Rep (rd)
open Sep (own)
theorem j1O (z:Array Value)(n:Nat):Builtin.zeroCells z n=madeCells z (n*z.size):=rfl
section
variable {F0:Nat→Prop}{M:List Nat}{w0 w w' : World}{fr:List Pr}{ow:List It}{i j:Nat}{e:TypeId}{v:Value}{cs:List Value}
variable {P:Program}{n d:Nat}{Q:Post}{ρ:Env}{ops:Array Oper}{o:Oper}{rest:List Oper}
theorem j7s {z:List Value}(h:∀ u∈z,u.oneCell'=true):∀ m,∀ u∈reps z m,u.oneCell'=true
 | 0,u,hu=>by simp[reps] at hu
 | m+1,u,hu=>by
  rcases List.mem_append.1 hu with hu|hu
  ·exact h u hu
  ·exact j7s h m u hu
end
def Gr (w w' : World):Prop:=∃ q os,w'=Sort.grow (w.drewN q) os
theorem Gr.refl (w:World):Gr w w:=⟨0,#[],by simp[Sort.grow,World.drewN]⟩
theorem Gr.trans {a b c:World}(h:Gr a b)(k:Gr b c):Gr a c:=by
 obtain⟨q,os,rfl⟩:=h
 obtain⟨q2,os2,rfl⟩:=k
 exact⟨q+q2,os++os2,by simp[Sort.grow,World.drewN,Array.append_assoc,Nat.add_assoc]⟩
theorem Gr.draw (w:World):Gr w { w with drawn:=w.drawn+1 }:=⟨1,#[],by simp only[Sort.grow,World.drewN,Array.append_empty]⟩
theorem Gr.alloc (w:World)(o:Obj):Gr w (w.alloc o):=⟨0,#[o],Sort.alloc_eq_grow w o⟩
theorem Gr.ext {w w' : World}(h:Gr w w'):Ext w w':=by
 obtain⟨q,os,rfl⟩:=h
 refine⟨rfl,rfl,rfl,by simp[Sort.grow,World.drewN],fun k hk _=>?_⟩
 simp only[Sort.grow,World.drewN]
 rw[Array.getElem?_append_left hk]
section
variable {P:Program}{n d:Nat}{Q:Post}{ρ:Env}{w:World}{ops:Array Oper}{o:Oper}{rest:List Oper}{e:TypeId}{v:Value}{cs:List Value}
theorem q1k {T:TypeId}{x:Operand}(hg:o.guard=none)(hd:o.dst=some d)(ho:o.op=.box T x)(hx:E.ev ρ x=v)(hc:v.cells=cs.toArray)
  (h:∀ b w',Gr w w'→w.heap.size≤b→Blk w' b T cs→WL P n ops Q rest (upd ρ d (.pointer (some ⟨b,0,none⟩))) w'):WL P n ops Q (o::rest) ρ w:=
 WL.step hg fun a K ha hok hK=>by
  unfold Oper.wp
  rw[z3G ha hok]
  simp only[execOp,ho,hx,Instr.box,newVar,hc,Sem.run_bind,z1U,Result.andThen_ok,Sem.run_pure]
  exact hK _ _ (by rw[hd];exact h _ _ (Gr.alloc _ _) (Acz _) (q9y _ _ _))
theorem q1Y {T m:Nat}{z:Value}{parts:Array (Nat×Operand)}{vs:List Value}(hg:o.guard=none)(hd:o.dst=some d)(ho:o.op=.buildSlice T m parts)(hT:q7i P T=some e)(hk:szT P e=some 1)(hz:z2M P e=some [z])
  (hp:parts.toList.map (fun p=>(p.1,E.ev ρ p.2))=idxL 0 vs) (h1:∀ v∈vs,v.cells=#[v]) (hn:vs.length=m) (hm:Nat.blt 0 m=true) (hm2:Nat.ble m 100000=true)
  (h:∀ g w',Gr w w'→Blk w' g e vs→WL P n ops Q rest (upd ρ d (.slice (some ⟨g,0,none⟩) m m)) w'):WL P n ops Q (o::rest) ρ w:=
 WL.step hg fun a K ha hok hK=>by
  unfold Oper.wp
  rw[z3G ha hok]
  have hp' : parts.map (fun p=>(p.1,E.ev ρ p.2))=(idxL 0 vs).toArray:=by
   apply Array.ext';simpa using hp
  have hr:=k2k (P:=P) (w:=w) hT hk hz h1 hn hm hm2
  simp only[execOp,ho,hp',Sem.run_bind,hr,Result.andThen_ok,Sem.run_pure]
  exact hK _ _ (by rw[hd];exact h _ _ (Gr.alloc _ _) (q9y w e vs))
end
def z5b (P:Program)(T:TypeId)(i:Nat):Option (TypeId×Nat):=match P.underlying T with
 | some (.struct fs)=>(fs[i]?).map fun f=>(f.type,f.offset)
 | _=>none
theorem z9i {P:Program}{T:TypeId}{i ft off:Nat}(h:z5b P T i=some (ft,off)):∃ fs f,P.underlying T=some (.struct fs)∧fs[i]?=some f∧f.type=ft∧f.offset=off:=by
 unfold z5b at h
 split at h
 ·rename_i fs hfs
  cases hf:fs[i]? with
  | none=>rw[hf] at h;cases h
  | some f=>
   rw[hf] at h
   simp only[Option.map_some,Option.some.injEq,Prod.mk.injEq] at h
   exact⟨fs,f,hfs,hf,h.1,h.2⟩
 ·cases h
section
variable {P:Program}{ρ:Env}{o:Oper}{w:World}{T:TypeId}{x:Operand}{i ft off k:Nat}{cs:List Value}{u:Value}
theorem q3i (ho:o.op=.field T x i)(hT:z5b P T i=some (ft,off))(hg:aggT P ft=some false)(hx:E.ev ρ x=.agg cs.toArray)(hc:cs[off]?=some u):Ev P ρ o w u:=by
 obtain⟨fs,f,h1,h2,h3,h4⟩:=z9i hT
 subst h3;subst h4
 simp[Ev,execOp,ho,hx,Instr.field,run_underlying h1,h2,asAgg,part,z2c hg,hc]
theorem q2H (ho:o.op=.field T x i)(hT:z5b P T i=some (ft,off))(hg:aggT P ft=some true)(hk:szT P ft=some k)(hx:E.ev ρ x=.agg cs.toArray):Ev P ρ o w (.agg (cs.toArray.extract off (off+k))):=by
 obtain⟨fs,f,h1,h2,h3,h4⟩:=z9i hT
 subst h3;subst h4
 simp[Ev,execOp,ho,hx,Instr.field,run_underlying h1,h2,asAgg,part,z2c hg,q5R hk]
end
end Go.E
