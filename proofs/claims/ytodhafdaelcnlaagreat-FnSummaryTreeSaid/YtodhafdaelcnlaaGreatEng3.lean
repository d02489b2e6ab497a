/- A small engine for walks through a Go program: plain lemmas on the model, without conditions of their own. -/
import Derived.Test.YtodhafdaelcnlaaGreatAb1
import Derived.ChangeArms
import Derived.Deep.Draws
import Derived.Sort.Grow
set_option linter.unusedVariables false
set_option linter.unusedSimpArgs false
set_option linter.ambiguousOpen false
set_option linter.unusedSectionVars false
set_option linter.unnecessarySimpa false
open List renaming append_assoc->Azz,take_of_length_le->Biz,size_toArray->Ayz
open Int renaming lt_or_le->Bjz
open Nat renaming le_refl->Acz
namespace Go.E
def grd {α:Type}(c:Prop)[Decidable c](k:Option α):Option α:=if c then k else none
theorem pw {α:Type}{c:Prop}[Decidable c]{k:Option α}{r:α}(h:grd c k=some r):c/\k=some r:=by
 unfold grd at h;split at h;exact⟨‹_›,h⟩;cases h
theorem aF {α:Type}{c:Prop}[Decidable c]{k:Option α}(h:c):grd c k=k:=ao h
theorem bd {α β:Type}{o:Option α}{f:α->Option β}{r:β}(h:o.bind f=some r):∃ x,o=some x/\f x=some r:=Option.bind_eq_some_iff.1 h
def bg {σ ρ β:Type}(g:ρ->Option β)(f:σ->Option β):σ ⊕ ρ->Option β
 | .inl s=>f s
 | .inr r=>g r
@[simp] theorem mP {σ ρ β:Type} (g:ρ->Option β) (f:σ->Option β) (s:σ):bg g f (.inl s)=f s:=rfl
@[simp] theorem rq {σ ρ β:Type} (g:ρ->Option β) (f:σ->Option β) (r:ρ):bg g f (.inr r)=g r:=rfl
def eachL {α σ:Type}(f:Nat->α->σ->Option σ):Nat->List α->σ->Option σ
 | _,[],s=>some s
 | i,x::xs,s=>(f i x s).bind (eachL f (i+1) xs)
def findL {α σ ρ:Type}(f:Nat->α->σ->Option (σ ⊕ ρ)):Nat->List α->σ->Option (σ ⊕ ρ)
 | _,[],s=>some (.inl s)
 | i,x::xs,s=>(f i x s).bind λ|.inl s'=>findL f (i+1) xs s'|.inr r=>some (.inr r)
def eachN {σ:Type}(f:Nat->σ->Option σ):Nat->Nat->σ->Option σ
 | _,0,s=>some s
 | i,n+1,s=>(f i s).bind (eachN f (i+1) n)
def findN {σ ρ:Type}(f:Nat->σ->Option (σ ⊕ ρ)):Nat->Nat->σ->Option (σ ⊕ ρ)
 | _,0,s=>some (.inl s)
 | i,n+1,s=>(f i s).bind λ|.inl s'=>findN f (i+1) n s'|.inr r=>some (.inr r)
def jz {σ ρ:Type}(f:σ->Option (σ ⊕ ρ)):Nat->σ->Option ρ
 | 0,_=>none
 | n+1,s=>(f s).bind λ|.inl s'=>jz f n s'|.inr r=>some r
theorem BI {σ ρ:Type}{f:σ->Option (σ ⊕ ρ)}:∀ {n m:Nat} {s:σ} {r:ρ},jz f n s=some r->n<=m->jz f m s=some r
 | n+1,m+1,s,r,h,hm=>by
  simp only[jz] at h ⊢;obtain⟨x,U,K⟩:=bd h;rw[U];cases x with
  | inl s'=>exact BI (n:=n) K (by omega)
  | inr q=>exact K
 | n+1,0,_,_,_,hm=>absurd hm (by omega)
open Classical in
noncomputable def bK {σ ρ:Type} (f:σ->Option (σ ⊕ ρ)) (s:σ):Option ρ:=if h:∃ r n,jz f n s=some r then some h.choose else none
theorem uv {σ ρ:Type}{f:σ->Option (σ ⊕ ρ)}{s:σ}{r:ρ}:bK f s=some r↔∃ n,jz f n s=some r:=by
 constructor;intro h;unfold bK at h;split at h;rename_i hx;cases h;exact hx.choose_spec;cases h;rintro⟨n,h⟩;have hx:∃ r n,jz f n s=some r:=⟨r,n,h⟩
 unfold bK;rw[dif_pos hx];obtain⟨m,hm⟩:=hx.choose_spec;have U:=BI hm (Nat.le_max_left m n);have K:=BI h (Nat.le_max_right m n);exact U.symm.trans K
theorem eS {σ ρ:Type}{f:σ->Option (σ ⊕ ρ)}{s s' : σ}(h:f s=some (.inl s')):bK f s=bK f s':=by
 have key:∀ r,bK f s=some r↔bK f s'=some r:=by
  intro r;rw[uv,uv];constructor;rintro⟨n,hn⟩;cases n with
  | zero=>cases hn
  | succ n=>simp only[jz,h,aj] at hn;exact⟨n,hn⟩
  rintro⟨n,hn⟩;exact⟨n+1,by simp only[jz,h,aj];exact hn⟩
 cases ho:bK f s with
 | none=>cases K:bK f s' with
  | none=>rfl
  | some r=>rw[(key r).2 K] at ho;cases ho
 | some r=>exact ((key r).1 ho).symm
theorem c9 {σ ρ:Type}{f:σ->Option (σ ⊕ ρ)}{s:σ}{r:ρ}(h:f s=some (.inr r)):bK f s=some r:=
 uv.2 ⟨1,by simp[jz,h]⟩
end Go.E
namespace Go.E
open Go
open Rep (rd)
open Sep (own)
structure Pr where
 p:(Nat->Prop)->World->Prop
 mono:∀ {F F' : Nat->Prop} {w:World},p F w->(∀ b,F b->F' b)->p F' w
 frame:∀ {F:Nat->Prop} {w w' : World},p F w->(∀ b,F b->b<w.heap.size->w'.heap[b]?=w.heap[b]?)->p F w'
structure It where
 p:List Nat->List Nat->(Nat->Prop)->World->Prop
 mono:∀ {L C:List Nat} {F F' : Nat->Prop} {w:World},p L C F w->(∀ b,F b->F' b)->p L C F' w
 frame:∀ {L C:List Nat} {F:Nat->Prop} {w w' : World},p L C F w->(∀ b,F b->b<w.heap.size->w'.heap[b]?=w.heap[b]?)->(∀ b∈L++C,w'.heap[b]?=w.heap[b]?)->p L C F w'
 lt:∀ {L C:List Nat} {F:Nat->Prop} {w:World},p L C F w->∀ b∈L++C,b<w.heap.size
end Go.E
namespace Go.E
open Go
open Rep (rd)
open Sep (own)
section
variable {F0:Nat->Prop}{M:List Nat}{w0 w w' : World}{fr:List Pr}{ow:List It}{i j:Nat}{e:TypeId}{v:Value}{cs:List Value}
variable {P:Program}{n d:Nat}{Q:cj}{ρ:Env}{ops:Array Oper}{o:Oper}{rest:List Oper}
theorem YX {cur l:List Value}{off N:Nat}(h:off+l.length<=N)(hN:N<=cur.length):(cL cur off l).take N=cL (cur.take N) off l:=by
 simp only[cL];have e1:(cur.take off).length=off:=by simp;omega
 rw[Azz,Azz,List.take_append,List.take_append,e1,List.take_take,List.take_take,List.drop_take];rw[show min N off=off by omega,show min off N=off by omega,Biz (l:=l) (by omega),show N-off-l.length=N-(off+l.length) by omega]
theorem Own.st {k m:Nat}{b off:Nat}{l cur:List Value}(h:Own w 0 e k v m cs)(Y:v.ownBlock=some b)(hB:dN w b e cur)(hfit:off+l.length<=m*k)(hB' : dN w' b e (cL cur off l)):Own w' 0 e k v m (cL cs off l):=by
 rcases h.2 with ⟨rfl,_⟩|⟨g,cap,cur2,rfl,h0,hg,hn,hc,hs,ht⟩
 cases Y;cases Y;have e0:cur2=cur.toArray:=by
  have U:w.heap[g]?=some (.cells cur.toArray e (0,0)):=hB;rw[U] at hg;injection hg with hg;injection hg with hg;exact hg.symm
 subst e0;simp only[Ayz] at hs;simp only[] at ht;have hmk:m*k<=cap*k:=Nat.mul_le_mul_right _ hn;have hcl:cs.length=m*k:=h.1;refine⟨?_,.inr ⟨g,cap,(cL cur off l).toArray,rfl,h0,hB',hn,hc,?_,?_⟩⟩;rw[G9 (by rw[hcl];exact hfit)];exact hcl;simp only[Ayz];rw[G9 (by omega)];exact hs;subst ht;exact YX hfit (by omega)
end
end Go.E
namespace Go.E
open Go
open Rep (rd)
open Sep (own)
section
variable {F0:Nat->Prop}{M:List Nat}{w0 w w' : World}{fr:List Pr}{ow:List It}{i j:Nat}{e:TypeId}{v:Value}{cs:List Value}
variable {P:Program}{n d:Nat}{Q:cj}{ρ:Env}{ops:Array Oper}{o:Oper}{rest:List Oper}
theorem P8 {α:Type}{xs:List α}{k:Nat}{x:α}(h:xs[k]?=some x):k<xs.length:=(List.getElem?_eq_some_iff.1 h).1
theorem Km {n k:Nat}(h:aX (n:Int))(hk:k<=4611686018427387904):aX ((n:Int)-(k:Int)):=⟨by omega,by have:=h.2;omega⟩
theorem V9 {s:ar}(h:s.size<=9223372036854775807):aX (s.size:Int):=⟨by omega,by omega⟩
end
end Go.E
namespace Go.E
open Go
open Rep (rd)
open Sep (own)
theorem ji {k:Nat}{b:Int}(h:(k:Int)<b)(hn:b<=9223372036854775807):aX ((k+1:Nat):Int):=⟨by omega,by omega⟩
theorem Ui {k:Int}(h:k<63):aX ((2 ^ k.toNat:Nat):Int):=by
 have U:k.toNat<=62:=by omega
 have K:2 ^ k.toNat<=2 ^ 62:=Nat.pow_le_pow_right (by decide) U;have h3:(2:Nat) ^ 62=4611686018427387904:=by decide
 generalize 2 ^ k.toNat=n at *;exact⟨by omega,by omega⟩
theorem Uh {x k:Int}(hx:aX x):aX ((x.toNat >>> k.toNat:Nat):Int):=by
 have U:x.toNat >>> k.toNat<=x.toNat:=by rw[Nat.shiftRight_eq_div_pow];exact Nat.div_le_self _ _
 have:=hx.2;generalize x.toNat >>> k.toNat=n at *;exact⟨by omega,by omega⟩
theorem Ug {x y:Int}(h:0<=x/\0<=y)(hx:aX x)(hy:aX y):aX ((x.toNat &&& y.toNat:Nat):Int):=by
 have U:x.toNat &&& y.toNat<=x.toNat:=Nat.and_le_left;have:=hx.2;exact⟨by omega,by omega⟩
theorem TM {x y:Int}(h:0<=x/\0<=y)(hx:aX x)(hy:aX y):aX ((x.toNat ||| y.toNat:Nat):Int):=by
 have U:x.toNat<2 ^ 63:=by
   have:=hx.2;have:(2:Nat) ^ 63=9223372036854775808:=by decide
   omega
 have K:y.toNat<2 ^ 63:=by
   have:=hy.2;have:(2:Nat) ^ 63=9223372036854775808:=by decide
   omega
 have h3:=Nat.or_lt_two_pow U K;have h4:(2:Nat) ^ 63=9223372036854775808:=by decide
 exact⟨by omega,by omega⟩
section
variable {F0:Nat->Prop}{M:List Nat}{w0 w w' : World}{fr:List Pr}{ow:List It}{i j:Nat}{e:TypeId}{v:Value}{cs:List Value}
variable {P:Program}{n d:Nat}{Q:cj}{ρ:Env}{ops:Array Oper}{o:Oper}{rest:List Oper}
theorem Sg {T:TypeId}{a b:Nat}{y:Int}(hy:y=(b:Int))(h:aX ((a+b:Nat):Int)):cK P .add T (.int .i64 (a:Int)) (.int .i64 y) (.int .i64 ((a+b:Nat):Int)):=by
 subst hy;rw[Int.natCast_add];rw[Int.natCast_add] at h;exact cK.add h
theorem Ev.ex {x:Operand}{k:Nat}{vs:Array Value}{u:Value}(ho:o.op=.extract x k)(hx:E.ev ρ x=.tuple vs)(hv:vs[k]?=some u):Ev P ρ o w u:=by
 simp[Ev,execOp,ho,hx,Instr.extract,hv]
end
end Go.E
namespace Go.E
open Go
open Rep (rd)
open Sep (own)
instance:Rep UInt8 where
 sz:=1
 pos:=by decide
 rd _ _ x cs:=cs=[.int .u8 (x.toNat:Int)]
 len h:=by rw[h];rfl
 one h:=by rw[h];simp[Value.oneCell']
 mono h _:=h
 frame h _:=h
 bound h:=h
theorem TL (b:UInt8):aX (b.toNat:Int):=⟨by omega,by have:=b.toNat_lt;omega⟩
section
variable {P:Program}{ρ:Env}{w:World}{o:Oper}
theorem Q4 {T:TypeId}{x i:Operand}{s:ar}{q:IntKind}{k:Nat}{b:UInt8}(ho:o.op=.index T x i)(hT:P.underlying T=some .string)(hx:E.ev ρ x=.string s)(hi:E.ev ρ i=.int q (k:Int))(Y:s.data[k]?=some b):Ev P ρ o w (.int .u8 (b.toNat:Int)):=by
 have U:s[k]?=some b:=by
  obtain⟨K,h3⟩:=Array.getElem?_eq_some_iff.1 Y;have h4:k<s.size:=K;have:s[k]?=some s[k]:=getElem?_pos s k h4;rw[this];congr 1
 simp[Ev,execOp,ho,hx,hi,Instr.index,asIntOf,run_underlying hT,U]
theorem Bf (a:Int):aX (IntKind.i64.wrap a):=by
 have:IntKind.i64.wrap a=(a+9223372036854775808) % 18446744073709551616-9223372036854775808:=by
  simp[IntKind.wrap,IntKind.bits,IntKind.signed];split<;>omega
 rw[this];constructor<;>omega
def mC (x y:Int):Int:=x.fdiv (2 ^ min y.toNat 64)
def jy (x y:Int):Int:=IntKind.i64.wrap ((BitVec.ofInt 64 x &&& BitVec.ofInt 64 y).toNat:Int)
def wD (x y:Int):Int:=IntKind.i64.wrap ((BitVec.ofInt 64 x ^^^ BitVec.ofInt 64 y).toNat:Int)
theorem V8 {x:Int}(hx:aX x)(y:Int):aX (mC x y):=by
 unfold mC;rw[Int.fdiv_eq_ediv_of_nonneg _ (by exact_mod_cast Nat.zero_le _)];have U:(1:Int)<=2 ^ min y.toNat 64:=by exact_mod_cast Nat.one_le_two_pow
 generalize (2:Int) ^ min y.toNat 64=m at *;have K:=hx.1;have h3:=hx.2;have h4:m*(x / m)+x % m=x:=Int.mul_ediv_add_emod x m;have h5:=Int.emod_nonneg x (show m≠0 by omega);have h6:=Int.emod_lt_of_pos x (show 0<m by omega);constructor;rcases Bjz x 0 with h|h;exact Int.le_trans K (Int.le_ediv_of_mul_le (by omega) (by
  have:x*m<=x*1:=Int.mul_le_mul_of_nonpos_left (by omega) U;omega))
 have:=Int.ediv_nonneg h (show 0<=m by omega);omega;rcases Bjz x 0 with h|h;have:=Int.ediv_neg_of_neg_of_pos h (show 0<m by omega);omega;have:=Int.ediv_le_self m h;omega
theorem Sf {T:TypeId}{x y:Int}{q:IntKind}(h:0<=y):cK P .shr T (.int .i64 x) (.int q y) (.int .i64 (mC x y)):=λa b w=>by
 have:¬ y<0:=by omega
 simp[gK,binOp,Op.shift,mC,this,IntKind.bits]
theorem Se {T:TypeId}{x y:Int}:cK P .and T (.int .i64 x) (.int .i64 y) (.int .i64 (jy x y)):=λa b w=>by
 simp only[gK];rfl
theorem Sd {T:TypeId}{x y:Int}:cK P .xor T (.int .i64 x) (.int .i64 y) (.int .i64 (wD x y)):=λa b w=>by
 simp only[gK];rfl
theorem Sc {T:TypeId}{x y:Int}(h:y≠0)(hi:aX (x.tdiv y)):cK P .quo T (.int .i64 x) (.int .i64 y) (.int .i64 (x.tdiv y)):=λa b w=>by
 simp[gK,binOp,Op.intDiv,h,IntWalk.i64_in _ hi]
theorem Sb {T:TypeId}{x y:Int}(h:y≠0):cK P .rem T (.int .i64 x) (.int .i64 y) (.int .i64 (x.tmod y)):=λa b w=>by
 simp[gK,binOp,Op.intDiv,h]
theorem Uf {x y:Int}(hx:aX x):aX (x.tmod y):=by
 have U:=hx.1;have K:=hx.2;have h3:(x.tmod y).natAbs<=x.natAbs:=by
  rw[Int.natAbs_tmod];exact Nat.mod_le _ _
 rcases Bjz x 0 with h|h;have h4:=Int.tmod_nonneg (a:=-x) y (by omega);rw[Int.neg_tmod] at h4;constructor<;>omega;constructor<;>omega
theorem Sa {T:TypeId}{a b:ar}:cK P .lss T (.string a) (.string b) (.bool (Op.bytesLess a.toList b.toList)):=λx y w=>by simp[pE,binOp,Op.stringOp]
theorem R9 {T:TypeId}{a b:ar}:cK P .gtr T (.string a) (.string b) (.bool (!(Op.bytesLess a.toList b.toList||decide (a=b)))):=λx y w=>by simp[pE,binOp,Op.stringOp,lN]
theorem R8 {T:TypeId}{a b:ar}:cK P .geq T (.string a) (.string b) (.bool (!Op.bytesLess a.toList b.toList)):=λx y w=>by simp[pE,binOp,Op.stringOp]
theorem R7 {T:TypeId}{a b:ar}:cK P .leq T (.string a) (.string b) (.bool (Op.bytesLess a.toList b.toList||decide (a=b))):=λx y w=>by simp[pE,binOp,Op.stringOp,lN]
end
end Go.E
namespace Go.E
open Go
open Rep (rd)
open Sep (own)
section
variable {F0:Nat->Prop}{M:List Nat}{w0 w w' : World}{fr:List Pr}{ow:List It}{i j:Nat}{e:TypeId}{v:Value}{cs:List Value}
theorem Sv {P:Program}{ρ:Env}{o:Oper}{x:Operand}{a:Addr}(ho:o.op=.nilCheck x)(hx:E.ev ρ x=.pointer (some a)):Ev P ρ o w (.pointer (some a)):=by
 simp[Ev,execOp,ho,hx]
class OJ (α:Type) [Sep α]:Prop where
 none:∀ {L:List Nat} {w:World} {x:α} {cs:List Value},own L w x cs->L=[]
end
end Go.E
namespace Go.E
open Go
open Rep (rd)
open Sep (own)
def dV:Nat->List Value->List (Nat×Value)
 | _,[]=>[]
 | k,v::vs=>(k,v)::dV (k+1) vs
theorem K3:∀ (vs:List Value) (k:Nat) (cs:Array Value),(∀ v∈vs,v.cells=#[v])->cs.size=k+vs.length->Instr.fill (λi=>some (i*1,1)) cs (dV k vs)=some (cs.toList.take k++vs).toArray
 | [],k,cs,_,h=>by
  simp only[dV,Instr.fill,List.append_nil];congr 1;apply Array.ext';simp at h;simp[Biz,h]
 | v::vs,k,cs,U,h=>by
  have hv:=U v (by simp);simp only[bE] at h;have ih:=K3 vs (k+1) (cs.setIfInBounds k v) (λu hu=>U u (by simp[hu])) (by simp;omega);simp only[dV,Instr.fill,hv];have hk:k<cs.toList.length:=by simp;omega
  have e1:¬ (((#[v]:Array Value).size≠1||k*1+(#[v]:Array Value).size > cs.size)=true):=by simp;omega
  rw[an e1];have e2:(#[v]:Array Value).zipIdx.foldl (λcs (x:Value×Nat)=>cs.setIfInBounds (k*1+x.2) x.1) cs=cs.setIfInBounds k v:=by simp
  have e3:(cs.setIfInBounds k v).toList.take (k+1)=cs.toList.take k++[v]:=by
   rw[Array.toList_setIfInBounds,List.take_add_one,List.take_set_of_le (Acz _)];simp at hk;simp[hk]
  rw[e3,Azz,List.singleton_append] at ih;exact (congrArg (λc=>Instr.fill _ c _) e2).trans ih
section
variable {F0:Nat->Prop}{M:List Nat}{w0 w w' : World}{fr:List Pr}{ow:List It}{i j:Nat}{e:TypeId}{v:Value}{cs:List Value}
variable {P:Program}{n d:Nat}{Q:cj}{ρ:Env}{ops:Array Oper}{o:Oper}{rest:List Oper}
theorem V7 {T m:Nat}{z:Value}{vs:List Value}(hT:db P T=some e)(hk:cu P e=some 1)(hz:gk P e=some [z])(U:∀ v∈vs,v.cells=#[v])(hn:vs.length=m)(hm:Nat.blt 0 m=true)(hm2:Nat.ble m 100000=true) :
  (Instr.buildSlice T m (dV 0 vs).toArray).run P w=.ok (.slice (some ⟨w.heap.size,0,none⟩) m m) (w.alloc (.cells vs.toArray e)):=by
 obtain⟨zv,hzv,hzc⟩:=vf (P:=P) (w:=w) hz;have hm' : 0<m:=by simpa using hm
 have hm2' : m<=100000:=by simpa using hm2
 have n1:¬ 16777216<m:=by omega
 have n2:¬ m=0:=by omega
 have hf:=K3 vs 0 ((Array.range m).map (λx=>(#[z]:Array Value)[x % 1]!)) U (by simp[hn]);have hnr:=rR (P:=P) (w:=w) e vs;simp only[Nat.mul_one] at hf;simp[Instr.buildSlice,run_underlying (gy hT),jY hk,n1,n2,hzv,hzc];simp at hf;rw[hf];simp[hnr]
end
theorem P7 {p:Value->Prop}:∀ v∈([]:List Value),p v:=by simp
theorem II {p:Value->Prop}{a:Value}{l:List Value}(h:p a)(hl:∀ v∈l,p v):∀ v∈a::l,p v:=λv hv=>by
 rcases List.mem_cons.1 hv with rfl|hv;exact h;exact hl v hv
class OK (α:Type) [Sz α] [Mk α]:Prop where
 le:∀ x:α,Mk.cnt x<=16*(1+Sz.szd x)
class GN (α:Type) [Sz α] [OH α]:Prop where
 le:∀ x:α,OH.cntT x<=16*Sz.szd x
end Go.E
namespace Go.E
open Go
open Rep (rd)
open Sep (own)
open Classical in
noncomputable def cx {ρ:Type} (g:Nat->Option ρ):Option ρ:=if h:∃ r N,∀ n,N<=n->g n=some r then some h.choose else none
theorem gR {ρ:Type}{g:Nat->Option ρ}{r:ρ}(h:cx g=some r):∃ n,g n=some r:=by
 unfold cx at h;split at h;rename_i hx;cases h;obtain⟨N,hN⟩:=hx.choose_spec;exact⟨N,hN N (Acz _)⟩;cases h
theorem iu {ρ:Type}{g:Nat->Option ρ}{r:ρ}(N:Nat)(h:∀ n,N<=n->g n=some r):cx g=some r:=by
 unfold cx;have hx:∃ r N,∀ n,N<=n->g n=some r:=⟨r,N,h⟩
 rw[dif_pos hx];obtain⟨M,hM⟩:=hx.choose_spec;have U:=h (max N M) (Nat.le_max_left _ _);have K:=hM (max N M) (Nat.le_max_right _ _);exact K.symm.trans U
section
variable {P:Program}{n:Nat}{Q:cj}{ρ:Env}{w:World}{ops:Array Oper}{o:Oper}{rest:List Oper}{F:Env->Prop}
structure RelW (R:World->World->Prop):Prop where
 trans:∀ {a b c:World},R a b->R b c->R a c
 ext:∀ {a b:World},bO a b->R a b
 size:∀ {a b:World},R a b->a.heap.size<=b.heap.size
def P6 (os:List (Option Nat))(i:Nat):Nat:=match os[i]? with
 | some (some k)=>k
 | _=>i
structure Gx (n:Nat) (ops:Array Oper) (h:Nat) (D:Nat->List Nat) (Ψ:Nat->(Nat->Prop)->List Value->World->Prop) (Mw:Nat->Prop) (Θ:Nat->World->Prop) (C:List Nat) (os:List (Option Nat)) (S:Nat->Nat->Prop) (ρ0:Env) (w0:World) (listed:Array Bool) (ρ:Env) (w:World):Prop where
 head:HeadInv .any ops h listed
 ext:cJ (λq=>Mw q∨w0.heap.size<=q) w0 w
 out:∀ t,(∀ j,j<h->di ops j≠some t)->ρ t=ρ0 t
 apart:∀ i j q,i<h->j<h->listed.getD i false=true->listed.getD j false=true->S i q->S j q->i=j
 bound:∀ i q,i<h->listed.getD i false=true->S i q->w0.heap.size<=q/\q<w.heap.size
 known:∀ j,j<h->listed.getD j false=true->Ψ j (S (P6 os j)) ((D j).map ρ) w
 chain:∃ m,m<=C.length/\(∀ k x,C[k]?=some x->(listed.getD x false=true↔k<m))/\Θ m w
end
inductive K2 where
 | fix (u:Value)
 | free (φ:(Nat->Prop)->Value->World->Prop)
 | dep (t:Nat) (g:Value->Value)
 | wr (t s:Nat) (ψ:(Nat->Prop)->Value->Value->World->Prop)
end Go.E
namespace Go.E
open Go
open Rep (rd)
open Sep (own)
theorem j3H (z:Array Value)(n:Nat):Builtin.zeroCells z n=madeCells z (n*z.size):=rfl
section
variable {F0:Nat->Prop}{M:List Nat}{w0 w w' : World}{fr:List Pr}{ow:List It}{i j:Nat}{e:TypeId}{v:Value}{cs:List Value}
variable {P:Program}{n d:Nat}{Q:cj}{ρ:Env}{ops:Array Oper}{o:Oper}{rest:List Oper}
theorem K0 {z:List Value}(h:∀ u∈z,u.oneCell'=true):∀ m,∀ u∈bm z m,u.oneCell'=true
 | 0,u,hu=>by simp[bm] at hu
 | m+1,u,hu=>by
  rcases List.mem_append.1 hu with hu|hu;exact h u hu;exact K0 h m u hu
end
def Gr (w w' : World):Prop:=∃ q os,w'=Sort.grow (w.drewN q) os
theorem Gr.refl (w:World):Gr w w:=⟨0,#[],by simp[Sort.grow,World.drewN]⟩
theorem Gr.trans {a b c:World}(h:Gr a b)(k:Gr b c):Gr a c:=by
 obtain⟨q,os,rfl⟩:=h;obtain⟨q2,os2,rfl⟩:=k;exact⟨q+q2,os++os2,by simp[Sort.grow,World.drewN,Array.append_assoc,Nat.add_assoc]⟩
theorem Gr.draw (w:World):Gr w { w with drawn:=w.drawn+1 }:=⟨1,#[],by simp only[Sort.grow,World.drewN,Array.append_empty]⟩
theorem Gr.alloc (w:World)(o:Obj):Gr w (w.alloc o):=⟨0,#[o],Sort.alloc_eq_grow w o⟩
theorem Gr.ext {w w' : World}(h:Gr w w'):bO w w':=by
 obtain⟨q,os,rfl⟩:=h;refine⟨rfl,rfl,rfl,by simp[Sort.grow,World.drewN],λk hk _=>?_⟩;simp only[Sort.grow,World.drewN];rw[Array.getElem?_append_left hk]
section
variable {P:Program}{n d:Nat}{Q:cj}{ρ:Env}{w:World}{ops:Array Oper}{o:Oper}{rest:List Oper}{e:TypeId}{v:Value}{cs:List Value}
theorem Ip {T:TypeId}{x:Operand}(hg:o.guard=none)(hd:o.dst=some d)(ho:o.op=.box T x)(hx:E.ev ρ x=v)(hc:v.cells=cs.toArray)
  (h:∀ b w',Gr w w'->w.heap.size<=b->dN w' b T cs->WL P n ops Q rest (upd ρ d (.pointer (some ⟨b,0,none⟩))) w'):WL P n ops Q (o::rest) ρ w:=
 WL.step hg λa Z6 ha hok hK=>by
  unfold Oper.wp;rw[rH ha hok];simp only[execOp,ho,hx,Instr.box,newVar,hc,Sem.run_bind,rR,Result.andThen_ok,Sem.run_pure];exact hK _ _ (by rw[hd];exact h _ _ (Gr.alloc _ _) (Acz _) (mY _ _ _))
theorem R6 {T m:Nat}{z:Value}{parts:Array (Nat×Operand)}{vs:List Value}(hg:o.guard=none)(hd:o.dst=some d)(ho:o.op=.buildSlice T m parts)(hT:db P T=some e)(hk:cu P e=some 1)(hz:gk P e=some [z])
  (hp:parts.toList.map (λp=>(p.1,E.ev ρ p.2))=dV 0 vs) (U:∀ v∈vs,v.cells=#[v]) (hn:vs.length=m) (hm:Nat.blt 0 m=true) (hm2:Nat.ble m 100000=true)
  (h:∀ g w',Gr w w'->dN w' g e vs->WL P n ops Q rest (upd ρ d (.slice (some ⟨g,0,none⟩) m m)) w'):WL P n ops Q (o::rest) ρ w:=
 WL.step hg λa Z6 ha hok hK=>by
  unfold Oper.wp;rw[rH ha hok];have hp' : parts.map (λp=>(p.1,E.ev ρ p.2))=(dV 0 vs).toArray:=by
   apply Array.ext';simpa using hp
  have Z:=V7 (P:=P) (w:=w) hT hk hz U hn hm hm2;simp only[execOp,ho,hp',Sem.run_bind,Z,Result.andThen_ok,Sem.run_pure];exact hK _ _ (by rw[hd];exact h _ _ (Gr.alloc _ _) (mY w e vs))
end
end Go.E
namespace Go.E
open Go
open Rep (rd)
open Sep (own)
section
variable {P:Program}{n d:Nat}{Q:cj}{ρ:Env}{w w0:World}{ops:Array Oper}{o:Oper}{e:TypeId}{F0:Nat->Prop}{M:List Nat}{fr:List Pr}{ow:List It}
theorem R5 {S T:TypeId}{x:Operand}{m:UInt8}{d:TypeDesc}(ho:o.op=.convert S T x)(hS:P.underlying S=some d)(hT:ga P T=some .i64)(hx:E.ev ρ x=.int .u8 (m.toNat:Int)):Ev P ρ o w (.int .i64 (m.toNat:Int)):=by
 have h:=DF (w:=w) ho hS hT hx;have:=m.toNat_lt;rwa[IntWalk.i64_in _ (by omega)] at h
theorem eV.byte {T:TypeId}(hc:P.cellsOf T=1)(ht:P.underlying T=some (.int .u8)):eV P T UInt8:=by
 refine⟨hc,λZ8 enc w base spare held fuel cs x h=>?_⟩;obtain⟨n,rfl,_,hw⟩:=DataW.trod_int ht h;have Y:=bounds_u8 hw;refine⟨UInt8.ofNat n.toNat,?_⟩;show [Value.int .u8 n]=[.int .u8 ((UInt8.ofNat n.toNat).toNat:Int)];have:((UInt8.ofNat n.toNat).toNat:Int)=n:=by
  rw[UInt8.toNat_ofNat'];omega
 rw[this]
end
def og (P:Program)(T:TypeId)(i:Nat):Option (TypeId×Nat):=match P.underlying T with
 | some (.struct fs)=>(fs[i]?).map λf=>(f.type,f.offset)
 | _=>none
theorem Oz {P:Program}{T:TypeId}{i ft off:Nat}(h:og P T i=some (ft,off)):∃ fs f,P.underlying T=some (.struct fs)/\fs[i]?=some f/\f.type=ft/\f.offset=off:=by
 unfold og at h;split at h;rename_i fs hfs;cases hf:fs[i]? with
 | none=>rw[hf] at h;cases h
 | some f=>
  rw[hf] at h;simp only[Option.map_some,Option.some.injEq,Prod.mk.injEq] at h;exact⟨fs,f,hfs,hf,h.1,h.2⟩
 cases h
section
variable {P:Program}{ρ:Env}{o:Oper}{w:World}{T:TypeId}{x:Operand}{i ft off k:Nat}{cs:List Value}{u:Value}
theorem Q3 (ho:o.op=.field T x i)(hT:og P T i=some (ft,off))(hg:cY P ft=some false)(hx:E.ev ρ x=.agg cs.toArray)(hc:cs[off]?=some u):Ev P ρ o w u:=by
 obtain⟨fs,f,U,K,h3,h4⟩:=Oz hT;subst h3;subst h4;simp[Ev,execOp,ho,hx,Instr.field,run_underlying U,K,asAgg,part,pF hg,hc]
theorem Su (ho:o.op=.field T x i)(hT:og P T i=some (ft,off))(hg:cY P ft=some true)(hk:cu P ft=some k)(hx:E.ev ρ x=.agg cs.toArray):Ev P ρ o w (.agg (cs.toArray.extract off (off+k))):=by
 obtain⟨fs,f,U,K,h3,h4⟩:=Oz hT;subst h3;subst h4;simp[Ev,execOp,ho,hx,Instr.field,run_underlying U,K,asAgg,part,pF hg,jY hk]
end
end Go.E
