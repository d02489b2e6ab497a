/- A small engine for walks through a Go program: plain lemmas on the model, without conditions of their own. -/
import Derived.Test.YtodhafdaelcnlaaGreatAb1
import Derived.ChangeArms
import Derived.Deep.Draws
import Derived.Sort.Grow
set_option linter.unusedVariables false
set_option linter.unusedSimpArgs false
set_option linter.ambiguousOpen false
set_option linter.unusedSectionVars false
set_option linter.unnecessarySimpa false
open List renaming append_assoc->Azz,take_of_length_le->Biz,size_toArray->Ayz
open Int renaming lt_or_le->Bjz
open Nat renaming le_refl->Acz
namespace Go.E
def grd {α:Type}(c:Prop)[Decidable c](k:Option α):Option α:=if c then k else none
theorem oO {α:Type}{c:Prop}[Decidable c]{k:Option α}{r:α}(h:grd c k=some r):c/\k=some r:=by
 unfold grd at h;split at h;exact⟨‹_›,h⟩;cases h
theorem aD {α:Type}{c:Prop}[Decidable c]{k:Option α}(h:c):grd c k=k:=ao h
theorem bd {α β:Type}{o:Option α}{f:α->Option β}{r:β}(h:o.bind f=some r):∃ x,o=some x/\f x=some r:=Option.bind_eq_some_iff.1 h
def bf {σ ρ β:Type}(g:ρ->Option β)(f:σ->Option β):σ ⊕ ρ->Option β
 | .inl s=>f s
 | .inr r=>g r
@[simp] theorem lH {σ ρ β:Type} (g:ρ->Option β) (f:σ->Option β) (s:σ):bf g f (.inl s)=f s:=rfl
@[simp] theorem qy {σ ρ β:Type} (g:ρ->Option β) (f:σ->Option β) (r:ρ):bf g f (.inr r)=g r:=rfl
def eachL {α σ:Type}(f:Nat->α->σ->Option σ):Nat->List α->σ->Option σ
 | _,[],s=>some s
 | i,x::xs,s=>(f i x s).bind (eachL f (i+1) xs)
def findL {α σ ρ:Type}(f:Nat->α->σ->Option (σ ⊕ ρ)):Nat->List α->σ->Option (σ ⊕ ρ)
 | _,[],s=>some (.inl s)
 | i,x::xs,s=>(f i x s).bind λ|.inl s'=>findL f (i+1) xs s'|.inr r=>some (.inr r)
def eachN {σ:Type}(f:Nat->σ->Option σ):Nat->Nat->σ->Option σ
 | _,0,s=>some s
 | i,n+1,s=>(f i s).bind (eachN f (i+1) n)
def findN {σ ρ:Type}(f:Nat->σ->Option (σ ⊕ ρ)):Nat->Nat->σ->Option (σ ⊕ ρ)
 | _,0,s=>some (.inl s)
 | i,n+1,s=>(f i s).bind λ|.inl s'=>findN f (i+1) n s'|.inr r=>some (.inr r)
def js {σ ρ:Type}(f:σ->Option (σ ⊕ ρ)):Nat->σ->Option ρ
 | 0,_=>none
 | n+1,s=>(f s).bind λ|.inl s'=>js f n s'|.inr r=>some r
theorem Bf {σ ρ:Type}{f:σ->Option (σ ⊕ ρ)}:∀ {n m:Nat} {s:σ} {r:ρ},js f n s=some r->n<=m->js f m s=some r
 | n+1,m+1,s,r,h,hm=>by
  simp only[js] at h ⊢;obtain⟨x,U,W⟩:=bd h;rw[U];cases x with
  | inl s'=>exact Bf (n:=n) W (by omega)
  | inr q=>exact W
 | n+1,0,_,_,_,hm=>absurd hm (by omega)
open Classical in
noncomputable def bE {σ ρ:Type} (f:σ->Option (σ ⊕ ρ)) (s:σ):Option ρ:=if h:∃ r n,js f n s=some r then some h.choose else none
theorem tM {σ ρ:Type}{f:σ->Option (σ ⊕ ρ)}{s:σ}{r:ρ}:bE f s=some r↔∃ n,js f n s=some r:=by
 constructor;intro h;unfold bE at h;split at h;rename_i hx;cases h;exact hx.choose_spec;cases h;rintro⟨n,h⟩;have hx:∃ r n,js f n s=some r:=⟨r,n,h⟩
 unfold bE;rw[dif_pos hx];obtain⟨m,hm⟩:=hx.choose_spec;have U:=Bf hm (Nat.le_max_left m n);have W:=Bf h (Nat.le_max_right m n);exact U.symm.trans W
theorem fi {σ ρ:Type}{f:σ->Option (σ ⊕ ρ)}{s s' : σ}(h:f s=some (.inl s')):bE f s=bE f s':=by
 have key:∀ r,bE f s=some r↔bE f s'=some r:=by
  intro r;rw[tM,tM];constructor;rintro⟨n,hn⟩;cases n with
  | zero=>cases hn
  | succ n=>simp only[js,h,aj] at hn;exact⟨n,hn⟩
  rintro⟨n,hn⟩;exact⟨n+1,by simp only[js,h,aj];exact hn⟩
 cases ho:bE f s with
 | none=>cases W:bE f s' with
  | none=>rfl
  | some r=>rw[(key r).2 W] at ho;cases ho
 | some r=>exact ((key r).1 ho).symm
theorem db {σ ρ:Type}{f:σ->Option (σ ⊕ ρ)}{s:σ}{r:ρ}(h:f s=some (.inr r)):bE f s=some r:=
 tM.2 ⟨1,by simp[js,h]⟩
end Go.E
namespace Go.E
open Go
open Rep (rd)
open Sep (own)
structure Pr where
 p:(Nat->Prop)->World->Prop
 mono:∀ {F F' : Nat->Prop} {w:World},p F w->(∀ b,F b->F' b)->p F' w
 frame:∀ {F:Nat->Prop} {w w' : World},p F w->(∀ b,F b->b<w.heap.size->w'.heap[b]?=w.heap[b]?)->p F w'
structure It where
 p:List Nat->List Nat->(Nat->Prop)->World->Prop
 mono:∀ {L C:List Nat} {F F' : Nat->Prop} {w:World},p L C F w->(∀ b,F b->F' b)->p L C F' w
 frame:∀ {L C:List Nat} {F:Nat->Prop} {w w' : World},p L C F w->(∀ b,F b->b<w.heap.size->w'.heap[b]?=w.heap[b]?)->(∀ b∈L++C,w'.heap[b]?=w.heap[b]?)->p L C F w'
 lt:∀ {L C:List Nat} {F:Nat->Prop} {w:World},p L C F w->∀ b∈L++C,b<w.heap.size
end Go.E
namespace Go.E
open Go
open Rep (rd)
open Sep (own)
section
variable {F0:Nat->Prop}{M:List Nat}{w0 w w' : World}{fr:List Pr}{ow:List It}{i j:Nat}{e:TypeId}{v:Value}{cs:List Value}
variable {P:Program}{n d:Nat}{Q:b8}{ρ:Env}{ops:Array Oper}{o:Oper}{rest:List Oper}
theorem XV {cur l:List Value}{off N:Nat}(h:off+l.length<=N)(hN:N<=cur.length):(cH cur off l).take N=cH (cur.take N) off l:=by
 simp only[cH];have e1:(cur.take off).length=off:=by simp;omega
 rw[Azz,Azz,List.take_append,List.take_append,e1,List.take_take,List.take_take,List.drop_take];rw[show min N off=off by omega,show min off N=off by omega,Biz (l:=l) (by omega),show N-off-l.length=N-(off+l.length) by omega]
theorem Own.st {k m:Nat}{b off:Nat}{l cur:List Value}(h:Own w 0 e k v m cs)(Y:v.ownBlock=some b)(hB:dE w b e cur)(hfit:off+l.length<=m*k)(hB' : dE w' b e (cH cur off l)):Own w' 0 e k v m (cH cs off l):=by
 rcases h.2 with ⟨rfl,_⟩|⟨g,cap,cur2,rfl,h0,hg,hn,hc,hs,ht⟩
 cases Y;cases Y;have e0:cur2=cur.toArray:=by
  have U:w.heap[g]?=some (.cells cur.toArray e (0,0)):=hB;rw[U] at hg;injection hg with hg;injection hg with hg;exact hg.symm
 subst e0;simp only[Ayz] at hs;simp only[] at ht;have hmk:m*k<=cap*k:=Nat.mul_le_mul_right _ hn;have hcl:cs.length=m*k:=h.1;refine⟨?_,.inr ⟨g,cap,(cH cur off l).toArray,rfl,h0,hB',hn,hc,?_,?_⟩⟩;rw[GF (by rw[hcl];exact hfit)];exact hcl;simp only[Ayz];rw[GF (by omega)];exact hs;subst ht;exact XV hfit (by omega)
end
end Go.E
namespace Go.E
open Go
open Rep (rd)
open Sep (own)
section
variable {F0:Nat->Prop}{M:List Nat}{w0 w w' : World}{fr:List Pr}{ow:List It}{i j:Nat}{e:TypeId}{v:Value}{cs:List Value}
variable {P:Program}{n d:Nat}{Q:b8}{ρ:Env}{ops:Array Oper}{o:Oper}{rest:List Oper}
theorem Pd {α:Type}{xs:List α}{k:Nat}{x:α}(h:xs[k]?=some x):k<xs.length:=(List.getElem?_eq_some_iff.1 h).1
theorem JH {n k:Nat}(h:aR (n:Int))(hk:k<=4611686018427387904):aR ((n:Int)-(k:Int)):=⟨by omega,by have:=h.2;omega⟩
theorem UZ {s:an}(h:s.size<=9223372036854775807):aR (s.size:Int):=⟨by omega,by omega⟩
end
end Go.E
namespace Go.E
open Go
open Rep (rd)
open Sep (own)
theorem jb {k:Nat}{b:Int}(h:(k:Int)<b)(hn:b<=9223372036854775807):aR ((k+1:Nat):Int):=⟨by omega,by omega⟩
theorem TE {k:Int}(h:k<63):aR ((2 ^ k.toNat:Nat):Int):=by
 have U:k.toNat<=62:=by omega
 have W:2 ^ k.toNat<=2 ^ 62:=Nat.pow_le_pow_right (by decide) U;have h3:(2:Nat) ^ 62=4611686018427387904:=by decide
 generalize 2 ^ k.toNat=n at *;exact⟨by omega,by omega⟩
theorem TD {x k:Int}(hx:aR x):aR ((x.toNat >>> k.toNat:Nat):Int):=by
 have U:x.toNat >>> k.toNat<=x.toNat:=by rw[Nat.shiftRight_eq_div_pow];exact Nat.div_le_self _ _
 have:=hx.2;generalize x.toNat >>> k.toNat=n at *;exact⟨by omega,by omega⟩
theorem TC {x y:Int}(h:0<=x/\0<=y)(hx:aR x)(hy:aR y):aR ((x.toNat &&& y.toNat:Nat):Int):=by
 have U:x.toNat &&& y.toNat<=x.toNat:=Nat.and_le_left;have:=hx.2;exact⟨by omega,by omega⟩
theorem Tb {x y:Int}(h:0<=x/\0<=y)(hx:aR x)(hy:aR y):aR ((x.toNat ||| y.toNat:Nat):Int):=by
 have U:x.toNat<2 ^ 63:=by
   have:=hx.2;have:(2:Nat) ^ 63=9223372036854775808:=by decide
   omega
 have W:y.toNat<2 ^ 63:=by
   have:=hy.2;have:(2:Nat) ^ 63=9223372036854775808:=by decide
   omega
 have h3:=Nat.or_lt_two_pow U W;have h4:(2:Nat) ^ 63=9223372036854775808:=by decide
 exact⟨by omega,by omega⟩
section
variable {F0:Nat->Prop}{M:List Nat}{w0 w w' : World}{fr:List Pr}{ow:List It}{i j:Nat}{e:TypeId}{v:Value}{cs:List Value}
variable {P:Program}{n d:Nat}{Q:b8}{ρ:Env}{ops:Array Oper}{o:Oper}{rest:List Oper}
theorem Rv {T:TypeId}{a b:Nat}{y:Int}(hy:y=(b:Int))(h:aR ((a+b:Nat):Int)):cG P .add T (.int .i64 (a:Int)) (.int .i64 y) (.int .i64 ((a+b:Nat):Int)):=by
 subst hy;rw[Int.natCast_add];rw[Int.natCast_add] at h;exact cG.add h
theorem Ev.ex {x:Operand}{k:Nat}{vs:Array Value}{u:Value}(ho:o.op=.extract x k)(hx:E.ev ρ x=.tuple vs)(hv:vs[k]?=some u):Ev P ρ o w u:=by
 simp[Ev,execOp,ho,hx,Instr.extract,hv]
end
end Go.E
namespace Go.E
open Go
open Rep (rd)
open Sep (own)
instance:Rep UInt8 where
 sz:=1
 pos:=by decide
 rd _ _ x cs:=cs=[.int .u8 (x.toNat:Int)]
 len h:=by rw[h];rfl
 one h:=by rw[h];simp[Value.oneCell']
 mono h _:=h
 frame h _:=h
 bound h:=h
theorem Ta (b:UInt8):aR (b.toNat:Int):=⟨by omega,by have:=b.toNat_lt;omega⟩
section
variable {P:Program}{ρ:Env}{w:World}{o:Oper}
theorem PZ {T:TypeId}{x i:Operand}{s:an}{q:IntKind}{k:Nat}{b:UInt8}(ho:o.op=.index T x i)(hT:P.underlying T=some .string)(hx:E.ev ρ x=.string s)(hi:E.ev ρ i=.int q (k:Int))(Y:s.data[k]?=some b):Ev P ρ o w (.int .u8 (b.toNat:Int)):=by
 have U:s[k]?=some b:=by
  obtain⟨W,h3⟩:=Array.getElem?_eq_some_iff.1 Y;have h4:k<s.size:=W;have:s[k]?=some s[k]:=getElem?_pos s k h4;rw[this];congr 1
 simp[Ev,execOp,ho,hx,hi,Instr.index,asIntOf,run_underlying hT,U]
theorem AQ (a:Int):aR (IntKind.i64.wrap a):=by
 have:IntKind.i64.wrap a=(a+9223372036854775808) % 18446744073709551616-9223372036854775808:=by
  simp[IntKind.wrap,IntKind.bits,IntKind.signed];split<;>omega
 rw[this];constructor<;>omega
def mb (x y:Int):Int:=x.fdiv (2 ^ min y.toNat 64)
def jr (x y:Int):Int:=IntKind.i64.wrap ((BitVec.ofInt 64 x &&& BitVec.ofInt 64 y).toNat:Int)
def vX (x y:Int):Int:=IntKind.i64.wrap ((BitVec.ofInt 64 x ^^^ BitVec.ofInt 64 y).toNat:Int)
theorem UY {x:Int}(hx:aR x)(y:Int):aR (mb x y):=by
 unfold mb;rw[Int.fdiv_eq_ediv_of_nonneg _ (by exact_mod_cast Nat.zero_le _)];have U:(1:Int)<=2 ^ min y.toNat 64:=by exact_mod_cast Nat.one_le_two_pow
 generalize (2:Int) ^ min y.toNat 64=m at *;have W:=hx.1;have h3:=hx.2;have h4:m*(x / m)+x % m=x:=Int.mul_ediv_add_emod x m;have h5:=Int.emod_nonneg x (show m≠0 by omega);have h6:=Int.emod_lt_of_pos x (show 0<m by omega);constructor;rcases Bjz x 0 with h|h;exact Int.le_trans W (Int.le_ediv_of_mul_le (by omega) (by
  have:x*m<=x*1:=Int.mul_le_mul_of_nonpos_left (by omega) U;omega))
 have:=Int.ediv_nonneg h (show 0<=m by omega);omega;rcases Bjz x 0 with h|h;have:=Int.ediv_neg_of_neg_of_pos h (show 0<m by omega);omega;have:=Int.ediv_le_self m h;omega
theorem Ru {T:TypeId}{x y:Int}{q:IntKind}(h:0<=y):cG P .shr T (.int .i64 x) (.int q y) (.int .i64 (mb x y)):=λa b w=>by
 have:¬ y<0:=by omega
 simp[gw,binOp,Op.shift,mb,this,IntKind.bits]
theorem QV {T:TypeId}{x y:Int}:cG P .and T (.int .i64 x) (.int .i64 y) (.int .i64 (jr x y)):=λa b w=>by
 simp only[gw];rfl
theorem QU {T:TypeId}{x y:Int}:cG P .xor T (.int .i64 x) (.int .i64 y) (.int .i64 (vX x y)):=λa b w=>by
 simp only[gw];rfl
theorem QT {T:TypeId}{x y:Int}(h:y≠0)(hi:aR (x.tdiv y)):cG P .quo T (.int .i64 x) (.int .i64 y) (.int .i64 (x.tdiv y)):=λa b w=>by
 simp[gw,binOp,Op.intDiv,h,IntWalk.i64_in _ hi]
theorem QS {T:TypeId}{x y:Int}(h:y≠0):cG P .rem T (.int .i64 x) (.int .i64 y) (.int .i64 (x.tmod y)):=λa b w=>by
 simp[gw,binOp,Op.intDiv,h]
theorem TA {x y:Int}(hx:aR x):aR (x.tmod y):=by
 have U:=hx.1;have W:=hx.2;have h3:(x.tmod y).natAbs<=x.natAbs:=by
  rw[Int.natAbs_tmod];exact Nat.mod_le _ _
 rcases Bjz x 0 with h|h;have h4:=Int.tmod_nonneg (a:=-x) y (by omega);rw[Int.neg_tmod] at h4;constructor<;>omega;constructor<;>omega
theorem QR {T:TypeId}{a b:an}:cG P .lss T (.string a) (.string b) (.bool (Op.bytesLess a.toList b.toList)):=λx y w=>by simp[oQ,binOp,Op.stringOp]
theorem QQ {T:TypeId}{a b:an}:cG P .gtr T (.string a) (.string b) (.bool (!(Op.bytesLess a.toList b.toList||decide (a=b)))):=λx y w=>by simp[oQ,binOp,Op.stringOp,lz]
theorem QO {T:TypeId}{a b:an}:cG P .geq T (.string a) (.string b) (.bool (!Op.bytesLess a.toList b.toList)):=λx y w=>by simp[oQ,binOp,Op.stringOp]
theorem QN {T:TypeId}{a b:an}:cG P .leq T (.string a) (.string b) (.bool (Op.bytesLess a.toList b.toList||decide (a=b))):=λx y w=>by simp[oQ,binOp,Op.stringOp,lz]
end
end Go.E
namespace Go.E
open Go
open Rep (rd)
open Sep (own)
section
variable {F0:Nat->Prop}{M:List Nat}{w0 w w' : World}{fr:List Pr}{ow:List It}{i j:Nat}{e:TypeId}{v:Value}{cs:List Value}
theorem Q7 {P:Program}{ρ:Env}{o:Oper}{x:Operand}{a:Addr}(ho:o.op=.nilCheck x)(hx:E.ev ρ x=.pointer (some a)):Ev P ρ o w (.pointer (some a)):=by
 simp[Ev,execOp,ho,hx]
class NQ (α:Type) [Sep α]:Prop where
 none:∀ {L:List Nat} {w:World} {x:α} {cs:List Value},own L w x cs->L=[]
end
end Go.E
namespace Go.E
open Go
open Rep (rd)
open Sep (own)
def dJ:Nat->List Value->List (Nat×Value)
 | _,[]=>[]
 | k,v::vs=>(k,v)::dJ (k+1) vs
theorem KR:∀ (vs:List Value) (k:Nat) (cs:Array Value),(∀ v∈vs,v.cells=#[v])->cs.size=k+vs.length->Instr.fill (λi=>some (i*1,1)) cs (dJ k vs)=some (cs.toList.take k++vs).toArray
 | [],k,cs,_,h=>by
  simp only[dJ,Instr.fill,List.append_nil];congr 1;apply Array.ext';simp at h;simp[Biz,h]
 | v::vs,k,cs,U,h=>by
  have hv:=U v (by simp);simp only[bH] at h;have ih:=KR vs (k+1) (cs.setIfInBounds k v) (λu hu=>U u (by simp[hu])) (by simp;omega);simp only[dJ,Instr.fill,hv];have hk:k<cs.toList.length:=by simp;omega
  have e1:¬ (((#[v]:Array Value).size≠1||k*1+(#[v]:Array Value).size > cs.size)=true):=by simp;omega
  rw[al e1];have e2:(#[v]:Array Value).zipIdx.foldl (λcs (x:Value×Nat)=>cs.setIfInBounds (k*1+x.2) x.1) cs=cs.setIfInBounds k v:=by simp
  have e3:(cs.setIfInBounds k v).toList.take (k+1)=cs.toList.take k++[v]:=by
   rw[Array.toList_setIfInBounds,List.take_add_one,List.take_set_of_le (Acz _)];simp at hk;simp[hk]
  rw[e3,Azz,List.singleton_append] at ih;exact (congrArg (λc=>Instr.fill _ c _) e2).trans ih
section
variable {F0:Nat->Prop}{M:List Nat}{w0 w w' : World}{fr:List Pr}{ow:List It}{i j:Nat}{e:TypeId}{v:Value}{cs:List Value}
variable {P:Program}{n d:Nat}{Q:b8}{ρ:Env}{ops:Array Oper}{o:Oper}{rest:List Oper}
theorem UX {T m:Nat}{z:Value}{vs:List Value}(hT:cY P T=some e)(hk:cn P e=some 1)(hz:fO P e=some [z])(U:∀ v∈vs,v.cells=#[v])(hn:vs.length=m)(hm:Nat.blt 0 m=true)(hm2:Nat.ble m 100000=true) :
  (Instr.buildSlice T m (dJ 0 vs).toArray).run P w=.ok (.slice (some ⟨w.heap.size,0,none⟩) m m) (w.alloc (.cells vs.toArray e)):=by
 obtain⟨zv,hzv,hzc⟩:=uG (P:=P) (w:=w) hz;have hm' : 0<m:=by simpa using hm
 have hm2' : m<=100000:=by simpa using hm2
 have n1:¬ 16777216<m:=by omega
 have n2:¬ m=0:=by omega
 have hf:=KR vs 0 ((Array.range m).map (λx=>(#[z]:Array Value)[x % 1]!)) U (by simp[hn]);have hnr:=qZ (P:=P) (w:=w) e vs;simp only[Nat.mul_one] at hf;simp[Instr.buildSlice,run_underlying (ga hT),jL hk,n1,n2,hzv,hzc];simp at hf;rw[hf];simp[hnr]
end
theorem Pb {p:Value->Prop}:∀ v∈([]:List Value),p v:=by simp
theorem Io {p:Value->Prop}{a:Value}{l:List Value}(h:p a)(hl:∀ v∈l,p v):∀ v∈a::l,p v:=λv hv=>by
 rcases List.mem_cons.1 hv with rfl|hv;exact h;exact hl v hv
class NR (α:Type) [Sz α] [Mk α]:Prop where
 le:∀ x:α,Mk.cnt x<=16*(1+Sz.szd x)
class Gf (α:Type) [Sz α] [NN α]:Prop where
 le:∀ x:α,NN.cntT x<=16*Sz.szd x
end Go.E
namespace Go.E
open Go
open Rep (rd)
open Sep (own)
open Classical in
noncomputable def ct {ρ:Type} (g:Nat->Option ρ):Option ρ:=if h:∃ r N,∀ n,N<=n->g n=some r then some h.choose else none
theorem gU {ρ:Type}{g:Nat->Option ρ}{r:ρ}(h:ct g=some r):∃ n,g n=some r:=by
 unfold ct at h;split at h;rename_i hx;cases h;obtain⟨N,hN⟩:=hx.choose_spec;exact⟨N,hN N (Acz _)⟩;cases h
theorem iA {ρ:Type}{g:Nat->Option ρ}{r:ρ}(N:Nat)(h:∀ n,N<=n->g n=some r):ct g=some r:=by
 unfold ct;have hx:∃ r N,∀ n,N<=n->g n=some r:=⟨r,N,h⟩
 rw[dif_pos hx];obtain⟨M,hM⟩:=hx.choose_spec;have U:=h (max N M) (Nat.le_max_left _ _);have W:=hM (max N M) (Nat.le_max_right _ _);exact W.symm.trans U
section
variable {P:Program}{n:Nat}{Q:b8}{ρ:Env}{w:World}{ops:Array Oper}{o:Oper}{rest:List Oper}{F:Env->Prop}
structure RelW (R:World->World->Prop):Prop where
 trans:∀ {a b c:World},R a b->R b c->R a c
 ext:∀ {a b:World},cd a b->R a b
 size:∀ {a b:World},R a b->a.heap.size<=b.heap.size
def O9 (os:List (Option Nat))(i:Nat):Nat:=match os[i]? with
 | some (some k)=>k
 | _=>i
structure FZ (n:Nat) (ops:Array Oper) (h:Nat) (D:Nat->List Nat) (Ψ:Nat->(Nat->Prop)->List Value->World->Prop) (Mw:Nat->Prop) (Θ:Nat->World->Prop) (C:List Nat) (os:List (Option Nat)) (S:Nat->Nat->Prop) (ρ0:Env) (w0:World) (listed:Array Bool) (ρ:Env) (w:World):Prop where
 head:HeadInv .any ops h listed
 ext:cF (λq=>Mw q∨w0.heap.size<=q) w0 w
 out:∀ t,(∀ j,j<h->di ops j≠some t)->ρ t=ρ0 t
 apart:∀ i j q,i<h->j<h->listed.getD i false=true->listed.getD j false=true->S i q->S j q->i=j
 bound:∀ i q,i<h->listed.getD i false=true->S i q->w0.heap.size<=q/\q<w.heap.size
 known:∀ j,j<h->listed.getD j false=true->Ψ j (S (O9 os j)) ((D j).map ρ) w
 chain:∃ m,m<=C.length/\(∀ k x,C[k]?=some x->(listed.getD x false=true↔k<m))/\Θ m w
end
inductive K2 where
 | fix (u:Value)
 | free (φ:(Nat->Prop)->Value->World->Prop)
 | dep (t:Nat) (g:Value->Value)
 | wr (t s:Nat) (ψ:(Nat->Prop)->Value->Value->World->Prop)
end Go.E
namespace Go.E
open Go
open Rep (rd)
open Sep (own)
theorem Zo (z:Array Value)(n:Nat):Builtin.zeroCells z n=madeCells z (n*z.size):=rfl
section
variable {F0:Nat->Prop}{M:List Nat}{w0 w w' : World}{fr:List Pr}{ow:List It}{i j:Nat}{e:TypeId}{v:Value}{cs:List Value}
variable {P:Program}{n d:Nat}{Q:b8}{ρ:Env}{ops:Array Oper}{o:Oper}{rest:List Oper}
theorem KQ {z:List Value}(h:∀ u∈z,u.oneCell'=true):∀ m,∀ u∈bh z m,u.oneCell'=true
 | 0,u,hu=>by simp[bh] at hu
 | m+1,u,hu=>by
  rcases List.mem_append.1 hu with hu|hu;exact h u hu;exact KQ h m u hu
end
def Gr (w w' : World):Prop:=∃ q os,w'=Sort.grow (w.drewN q) os
theorem Gr.refl (w:World):Gr w w:=⟨0,#[],by simp[Sort.grow,World.drewN]⟩
theorem Gr.trans {a b c:World}(h:Gr a b)(k:Gr b c):Gr a c:=by
 obtain⟨q,os,rfl⟩:=h;obtain⟨q2,os2,rfl⟩:=k;exact⟨q+q2,os++os2,by simp[Sort.grow,World.drewN,Array.append_assoc,Nat.add_assoc]⟩
theorem Gr.draw (w:World):Gr w { w with drawn:=w.drawn+1 }:=⟨1,#[],by simp only[Sort.grow,World.drewN,Array.append_empty]⟩
theorem Gr.alloc (w:World)(o:Obj):Gr w (w.alloc o):=⟨0,#[o],Sort.alloc_eq_grow w o⟩
theorem Gr.ext {w w' : World}(h:Gr w w'):cd w w':=by
 obtain⟨q,os,rfl⟩:=h;refine⟨rfl,rfl,rfl,by simp[Sort.grow,World.drewN],λk hk _=>?_⟩;simp only[Sort.grow,World.drewN];rw[Array.getElem?_append_left hk]
section
variable {P:Program}{n d:Nat}{Q:b8}{ρ:Env}{w:World}{ops:Array Oper}{o:Oper}{rest:List Oper}{e:TypeId}{v:Value}{cs:List Value}
theorem HQ {T:TypeId}{x:Operand}(hg:o.guard=none)(hd:o.dst=some d)(ho:o.op=.box T x)(hx:E.ev ρ x=v)(hc:v.cells=cs.toArray)
  (h:∀ b w',Gr w w'->w.heap.size<=b->dE w' b T cs->WL P n ops Q rest (upd ρ d (.pointer (some ⟨b,0,none⟩))) w'):WL P n ops Q (o::rest) ρ w:=
 WL.step hg λa Z5 ha hok hK=>by
  unfold Oper.wp;rw[qK ha hok];simp only[execOp,ho,hx,Instr.box,newVar,hc,Sem.run_bind,qZ,Result.andThen_ok,Sem.run_pure];exact hK _ _ (by rw[hd];exact h _ _ (Gr.alloc _ _) (Acz _) (mF _ _ _))
theorem QM {T m:Nat}{z:Value}{parts:Array (Nat×Operand)}{vs:List Value}(hg:o.guard=none)(hd:o.dst=some d)(ho:o.op=.buildSlice T m parts)(hT:cY P T=some e)(hk:cn P e=some 1)(hz:fO P e=some [z])
  (hp:parts.toList.map (λp=>(p.1,E.ev ρ p.2))=dJ 0 vs) (U:∀ v∈vs,v.cells=#[v]) (hn:vs.length=m) (hm:Nat.blt 0 m=true) (hm2:Nat.ble m 100000=true)
  (h:∀ g w',Gr w w'->dE w' g e vs->WL P n ops Q rest (upd ρ d (.slice (some ⟨g,0,none⟩) m m)) w'):WL P n ops Q (o::rest) ρ w:=
 WL.step hg λa Z5 ha hok hK=>by
  unfold Oper.wp;rw[qK ha hok];have hp' : parts.map (λp=>(p.1,E.ev ρ p.2))=(dJ 0 vs).toArray:=by
   apply Array.ext';simpa using hp
  have Z:=UX (P:=P) (w:=w) hT hk hz U hn hm hm2;simp only[execOp,ho,hp',Sem.run_bind,Z,Result.andThen_ok,Sem.run_pure];exact hK _ _ (by rw[hd];exact h _ _ (Gr.alloc _ _) (mF w e vs))
end
end Go.E
namespace Go.E
open Go
open Rep (rd)
open Sep (own)
section
variable {P:Program}{n d:Nat}{Q:b8}{ρ:Env}{w w0:World}{ops:Array Oper}{o:Oper}{e:TypeId}{F0:Nat->Prop}{M:List Nat}{fr:List Pr}{ow:List It}
theorem QL {S T:TypeId}{x:Operand}{m:UInt8}{d:TypeDesc}(ho:o.op=.convert S T x)(hS:P.underlying S=some d)(hT:fJ P T=some .i64)(hx:E.ev ρ x=.int .u8 (m.toNat:Int)):Ev P ρ o w (.int .i64 (m.toNat:Int)):=by
 have h:=Da (w:=w) ho hS hT hx;have:=m.toNat_lt;rwa[IntWalk.i64_in _ (by omega)] at h
theorem eM.byte {T:TypeId}(hc:P.cellsOf T=1)(ht:P.underlying T=some (.int .u8)):eM P T UInt8:=by
 refine⟨hc,λZ8 enc w base spare held fuel cs x h=>?_⟩;obtain⟨n,rfl,_,hw⟩:=DataW.trod_int ht h;have Y:=bounds_u8 hw;refine⟨UInt8.ofNat n.toNat,?_⟩;show [Value.int .u8 n]=[.int .u8 ((UInt8.ofNat n.toNat).toNat:Int)];have:((UInt8.ofNat n.toNat).toNat:Int)=n:=by
  rw[UInt8.toNat_ofNat'];omega
 rw[this]
end
def nB (P:Program)(T:TypeId)(i:Nat):Option (TypeId×Nat):=match P.underlying T with
 | some (.struct fs)=>(fs[i]?).map λf=>(f.type,f.offset)
 | _=>none
theorem Nz {P:Program}{T:TypeId}{i ft off:Nat}(h:nB P T i=some (ft,off)):∃ fs f,P.underlying T=some (.struct fs)/\fs[i]?=some f/\f.type=ft/\f.offset=off:=by
 unfold nB at h;split at h;rename_i fs hfs;cases hf:fs[i]? with
 | none=>rw[hf] at h;cases h
 | some f=>
  rw[hf] at h;simp only[Option.map_some,Option.some.injEq,Prod.mk.injEq] at h;exact⟨fs,f,hfs,hf,h.1,h.2⟩
 cases h
section
variable {P:Program}{ρ:Env}{o:Oper}{w:World}{T:TypeId}{x:Operand}{i ft off k:Nat}{cs:List Value}{u:Value}
theorem PY (ho:o.op=.field T x i)(hT:nB P T i=some (ft,off))(hg:cT P ft=some false)(hx:E.ev ρ x=.agg cs.toArray)(hc:cs[off]?=some u):Ev P ρ o w u:=by
 obtain⟨fs,f,U,W,h3,h4⟩:=Nz hT;subst h3;subst h4;simp[Ev,execOp,ho,hx,Instr.field,run_underlying U,W,asAgg,part,oR hg,hc]
theorem Q6 (ho:o.op=.field T x i)(hT:nB P T i=some (ft,off))(hg:cT P ft=some true)(hk:cn P ft=some k)(hx:E.ev ρ x=.agg cs.toArray):Ev P ρ o w (.agg (cs.toArray.extract off (off+k))):=by
 obtain⟨fs,f,U,W,h3,h4⟩:=Nz hT;subst h3;subst h4;simp[Ev,execOp,ho,hx,Instr.field,run_underlying U,W,asAgg,part,oR hg,jL hk]
end
end Go.E
