/- A small engine for walks through a Go program: plain lemmas on the model, without conditions of their own. -/
import Derived.Test.YtodhafdaelcnlaaGreatEng1
import Derived.Deep.Slices
import Derived.Laws.Slices
import Derived.Laws.StructEq
import Derived.Maps.AppendAt
import Derived.OpenShut
import Derived.ProofKit
set_option linter.unusedVariables false
set_option linter.unusedSimpArgs false
set_option linter.ambiguousOpen false
set_option linter.unusedSectionVars false
set_option linter.unnecessarySimpa false
open Nat renaming add_mul->Arz,eq_zero_or_pos->Asz,le_refl->Acz,eq_of_beq_eq_true->Abz
open List renaming getElem?_append_left->Atz,getElem?_append_right->Auz,getElem?_eq_none->Avz,eq_nil_of_length_eq_zero->Awz,length_append->Axz,size_toArray->Ayz,append_assoc->Azz,getElem?_take->Anz,getElem?_drop->Baz
open Array renaming toList_map->Bbz,toArray_toList->Bcz
open Bool renaming and_eq_true->Afz,not_eq_true'->Bdz
open Int renaming eq_ofNat_of_zero_le->Bez
namespace Go.E
open Go
open Rep (rd)
def bh (z:List Value):Nat->List Value
 | 0=>[]
 | n+1=>z++bh z n
theorem tO (z:List Value):∀ n,(bh z n).length=n*z.length
 | 0=>by simp[bh]
 | n+1=>by simp[bh,tO z n,Arz];omega
theorem KU (z:List Value):∀ (n i:Nat),i<n*z.length->(bh z n)[i]?=z[i % z.length]?
 | 0,i,h=>by simp at h
 | n+1,i,h=>by
  have hz:0<z.length:=by
   rcases Asz z.length with h0|h0;rw[h0] at h;simp at h;exact h0
  simp only[bh];by_cases hi:i<z.length;rw[Atz hi,Nat.mod_eq_of_lt hi];have hm:(n+1)*z.length=n*z.length+z.length:=by rw[Arz];omega
  rw[hm] at h;have hmod:i % z.length=(i-z.length) % z.length:=Nat.mod_eq_sub_mod (by omega);rw[Auz (by omega),KU z n (i-z.length) (by omega),hmod]
theorem B0 (z:Array Value)(n:Nat):(madeCells z (n*z.size))=(bh z.toList n).toArray:=by
 apply Array.ext';simp only[madeCells,Bbz,Array.toList_range];apply List.ext_getElem?;intro i;by_cases hi:i<n*z.size;have hz:0<z.size:=by
  rcases Asz z.size with h0|h0;rw[h0] at hi;simp at hi;exact h0
 rw[KU _ _ _ (by simpa using hi),List.getElem?_map,List.getElem?_range hi];have hm:i % z.size<z.size:=Nat.mod_lt _ hz;simp[hm,getElem!_pos];rw[Avz (by simp;omega),Avz (by rw[tO];simp;omega)]
section
variable {P:Program}{n:Nat}{Q:b8}{ρ:Env}{w:World}{ops:Array Oper}{o:Oper}{rest:List Oper}
theorem Av {e k b:Nat}{z:List Value}(hk:cn P e=some k)(Y:mg P e=some b)(hz:fO P e=some z):∃ i v,P.info? e=some i/\i.size=k/\i.bytes=b/\i.zero=some v/\v.cells=z.toArray:=by
 unfold cn at hk;unfold mg at Y;unfold fO at hz;cases hi:P.info? e with
 | none=>simp[hi] at hk
 | some i=>
  cases hv:i.zero with
  | none=>simp[hi,hv] at hz
  | some v=>
   simp[hi] at hk Y;simp[hi,hv] at hz;exact⟨i,v,rfl,hk,Y,hv,by rw[← hz]⟩
abbrev Own (w:World)(base:Nat)(e k:Nat)(v:Value)(m:Nat)(cs:List Value):Prop:=w.ownsRow base e k v m cs
theorem Own.nil (w:World)(base e k:Nat):Own w base e k (.slice none 0 0) 0 []:=World.ownsRow_nil w base e k
abbrev kA (v:Value):Nat->Prop:=λb=>v.ownBlock=some b
theorem Own.lt {base e k m:Nat}{v:Value}{cs:List Value}(h:Own w base e k v m cs){b:Nat}(Y:kA v b):base<=b/\b<w.heap.size:=World.ownsRow.lt h b Y
theorem YH (t ty e e0:TypeId)(i:TypeInfo)(ht:P.underlying t=some (.slice e))(hi:P.info? e=some i)
  (g sLen sCap:Nat) (cur:Array Value) (hg:w.heap[g]?=some (.cells cur e0 (0,0)))
  (a:Addr) (m c:Nat) (news:List Value) (hl:news.length=m*i.size) (hnews:∀ j u,news[j]?=some u->w.cell? (a.add j)=some u) (U:∀ u∈news,u.oneCell'=true)
  (hroom:sLen+m<=sCap) (hfit:sLen*i.size+news.length<=cur.size) :
  (Builtin.append_ #[t,t] ty #[.slice (some ⟨g,0,none⟩) sLen sCap,.slice (some a) m c]).run P w =
   .ok (.slice (some ⟨g,0,none⟩) (sLen+m) sCap) (w.setRow g (cur.toList.take (sLen*i.size)++news++cur.toList.drop (sLen*i.size+news.length)).toArray):=by
 have hf:=run_firstCells_some (P:=P) w i.size m a m c news hl hnews;have hst:=run_storeCells_at P g (sLen*i.size) e0 news 0 cur w hg (by simpa using hfit) U;simp only[Nat.add_zero] at hst;simp[Builtin.append_,run_underlying ht,sizeOf,typeInfo,hi,Builtin.lenOf,hroom,hf,Addr.add_lit,hst]
theorem XW {T ty e e0 k b base:Nat}{z:List Value}{v:Value}{m:Nat}{cs:List Value}{ad:Addr}{m2 c2:Nat}{news:List Value}(hT:cY P T=some e)(hk:cn P e=some k)(Y:mg P e=some b)(hz:fO P e=some z)(hzk:z.length=k)(hk0:0<k)
  (hown:Own w base e0 k v m cs) (hl:news.length=m2*k) (hcells:∀ j u,news[j]?=some u->w.cell? (ad.add j)=some u) (U:∀ u∈news,u.oneCell'=true)
  (hmax:(m+m2)*b<=140737488355328) (hm:m+m2<=maxLen) (hbase:base<=w.heap.size) :
  ∃ v' w' e',(Builtin.append_ #[T,T] ty #[v,.slice (some ad) m2 c2]).run P w=.ok v' w'/\Own w' base e' k v' (m+m2) (cs++news)/\cF (kA v) w w'/\∀ g,kA v' g->kA v g∨w.heap.size<=g:=by
 obtain⟨i,zv,hi,hik,hib,hiv,hvc⟩:=Av hk Y hz;have wj:∀ e1,e1=e->Own w base e1 k v m cs->∃ v' w' e',(Builtin.append_ #[T,T] ty #[v,.slice (some ad) m2 c2]).run P w=.ok v' w'/\Own w' base e' k v' (m+m2) (cs++news)/\cF (kA v) w w'/\∀ g,kA v' g->kA v g∨w.heap.size<=g:=by
  intro e1 he hown;subst he;obtain⟨v',w',Z,ho',hgb,_,hwhere⟩:=run_append_own_at (P:=P) w base T ty e1 i zv k b (ga hT) hi hiv hik hib (by rw[hvc];simpa using hzk) hk0 v m cs hown ad m2 c2 news hl hcells U hm hmax hbase;refine⟨v',w',e1,Z,ho',⟨hgb.os,hgb.tape,hgb.output,hgb.size,λq hq hne=>hgb.block q hq λe=>hne e.symm⟩,λg hg=>?_⟩;rcases hwhere with hw|hw;exact .inl (hw.symm.trans hg);right;have:some g=some w.heap.size:=hg.symm.trans hw;cases this;exact Acz _
 rcases hown.2 with ⟨rfl,rfl⟩|⟨g,cap,cur,rfl,hbg,hg,hnc,hcm,hcs,htake⟩
 have hx:cs=[]:=Awz (by simpa using hown.1);subst hx;exact wj e rfl (Own.nil w base e k);subst hik;have hlen:(cs++news).length=(m+m2)*i.size:=by rw[Axz,hown.1,hl,Arz]
 by_cases hroom:m+m2<=cap;have hfit:m*i.size+news.length<=cur.size:=by rw[hl,hcs,← Arz];exact Nat.mul_le_mul_right _ hroom
 have Z:=YH (P:=P) (w:=w) T ty e e0 i (ga hT) hi g m cap cur hg ad m2 c2 news hl hcells U hroom hfit;refine⟨_,_,e0,Z,⟨hlen,.inr ⟨g,cap,_,rfl,hbg,setRow_heap w g cur _ e0 _ hg,hroom,hcm,?_,?_⟩⟩,⟨rfl,rfl,rfl,by simp,λq _ hq=>setRow_other w g q _ (λe=>hq (by simp[kA,Value.ownBlock,e]))⟩,λq hq=>.inl hq⟩;simp only[Ayz,Axz,List.length_take,List.length_drop,Array.length_toList];omega;show List.take _ _=_;rw[htake,← hlen];exact List.take_left;have hsmall:m+m2<=9223372036854775807:=by simp only[maxLen] at hm;omega
 have holds:∀ j u,cs[j]?=some u->w.cell? ((⟨g,0,none⟩:Addr).add j)=some u:=World.ownsRow.cells hown (g:=g) rfl;have Z:=run_append_grow (P:=P) w T ty e i zv (ga hT) hi hiv ⟨g,0,none⟩ m cap cs hown.1 holds ad m2 c2 news hl hcells (by omega) (by omega) (growslice_fits (by omega) (by rw[hib];exact hmax));have hge:=grownCap_ge w (m+m2) cap e;have hcm' : grownCap w (m+m2) cap e<=maxLen:=grownCap_le_maxLen w (m+m2) cap e hm;refine⟨_,_,e,Z,⟨hlen,.inr ⟨w.heap.size,_,_,rfl,hbase,heap_alloc_new w.drew _,hge,hcm',?_,?_⟩⟩,((cd.drew w).trans (cd.alloc _ _)).mono (λ_ _ h=>h.elim),λq hq=>?_⟩;have hz2:zv.cells.size=i.size:=by rw[hvc];simpa using hzk
 simp only[Array.size_append,Ayz,size_zeroCells,hz2,hown.1,hl,← Arz];congr 1;omega;simp only[Array.toList_append,Azz];rw[← Azz,← hlen];exact List.take_left;right;have:some w.heap.size=some q:=hq;cases this;exact Acz _
def eJ (A:Option Addr)(l h c k:Nat):Value:=.slice (if c=l then A else A.map (·.add (l*k))) (h-l) (c-l)
theorem Re {T e k:Nat}{x lo hi:Operand}{A:Option Addr}{m c l h:Nat}{q q' : IntKind}(ho:o.op=.slice T x (some lo) (some hi) none)(hT:cY P T=some e)(hk:cn P e=some k)(hx:E.ev ρ x=.slice A m c)
  (hl:E.ev ρ lo=.int q (l:Int)) (hh:E.ev ρ hi=.int q' (h:Int)) (U:l<=h) (W:h<=c):Ev P ρ o w (eJ A l h c k):=by
 have hu:=ga hT;have e1:(Instr.sliceBounds true m c (some (.int q l)) (some (.int q' h)) none).run P w=.ok (l,h,c) w:=by
  simp[Instr.sliceBounds,run_sliceBound,(by omega:(h:Int)<=c),(by omega:(l:Int)<=h)]
 have hna:¬ (∃ len el,P.underlying T=some (.array len el)):=by rw[hu];simp
 simp[Ev,execOp,ho,hx,hl,hh,Instr.sliceAt,Instr.slice,run_underlying hu,e1,jL hk,eJ]
theorem zL {T e k:Nat}{x hi:Operand}{A:Option Addr}{m c h:Nat}{q' : IntKind}(ho:o.op=.slice T x none (some hi) none)(hT:cY P T=some e)(hk:cn P e=some k)(hx:E.ev ρ x=.slice A m c)
  (hh:E.ev ρ hi=.int q' (h:Int)) (W:h<=c):Ev P ρ o w (eJ A 0 h c k):=by
 have hu:=ga hT;have e1:(Instr.sliceBounds true m c none (some (.int q' h)) none).run P w=.ok (0,h,c) w:=by
  simp[Instr.sliceBounds,run_sliceBound,(by omega:(h:Int)<=c)]
 simp[Ev,execOp,ho,hx,hh,Instr.sliceAt,Instr.slice,run_underlying hu,e1,jL hk,eJ]
theorem HN {T e k:Nat}{x lo:Operand}{A:Option Addr}{m c l:Nat}{q:IntKind}(ho:o.op=.slice T x (some lo) none none)(hT:cY P T=some e)(hk:cn P e=some k)(hx:E.ev ρ x=.slice A m c)
  (hl:E.ev ρ lo=.int q (l:Int)) (U:l<=m):Ev P ρ o w (eJ A l m c k):=by
 have hu:=ga hT;have e1:(Instr.sliceBounds true m c (some (.int q l)) none none).run P w=.ok (l,m,c) w:=by
  simp[Instr.sliceBounds,run_sliceBound,(by omega:(l:Int)<=m)]
 simp[Ev,execOp,ho,hx,hl,Instr.sliceAt,Instr.slice,run_underlying hu,e1,jL hk,eJ]
end
end Go.E
namespace Go.E
open Go
open Rep (rd)
section
variable {P:Program}{n:Nat}{Q:b8}{ρ:Env}{w:World}{ops:Array Oper}{o:Oper}{rest:List Oper}
theorem TF {x y:Nat}(hx:x<9223372036854775808)(hy:y<9223372036854775808):IntKind.i64.wrap ((BitVec.ofInt 64 (x:Int) &&& BitVec.ofInt 64 (y:Int)).toNat:Int)=((x &&& y:Nat):Int):=by
 have U:(BitVec.ofInt 64 (x:Int)).toNat=x:=by simp[BitVec.toNat_ofNat];omega
 have W:(BitVec.ofInt 64 (y:Int)).toNat=y:=by simp[BitVec.toNat_ofNat];omega
 have h3:(x &&& y)<=x:=Nat.and_le_left;rw[BitVec.toNat_and,U,W];exact IntWalk.i64_in _ (by omega)
theorem Sk {x y k:Nat}(hx:x<2 ^ k)(hy:y<2 ^ k):(x ||| y)<2 ^ k:=Nat.or_lt_two_pow hx hy
theorem Tc {x y:Nat}(hx:x<9223372036854775808)(hy:y<9223372036854775808):IntKind.i64.wrap ((BitVec.ofInt 64 (x:Int) ||| BitVec.ofInt 64 (y:Int)).toNat:Int)=((x ||| y:Nat):Int):=by
 have U:(BitVec.ofInt 64 (x:Int)).toNat=x:=by simp[BitVec.toNat_ofNat];omega
 have W:(BitVec.ofInt 64 (y:Int)).toNat=y:=by simp[BitVec.toNat_ofNat];omega
 have h3:(x ||| y)<2 ^ 63:=Sk (by simpa using hx) (by simpa using hy);rw[BitVec.toNat_or,U,W];exact IntWalk.i64_in _ (by omega)
theorem Rc {T:TypeId}{x y:Nat}(hx:x<9223372036854775808)(hy:y<9223372036854775808):cG P .and T (.int .i64 (x:Int)) (.int .i64 (y:Int)) (.int .i64 ((x &&& y:Nat):Int)):=λa b w=>by
 have h:=TF hx hy;simp only[gw,Sem.run_bind,Sem.run_pure,Result.andThen_ok];simp only[binOp,Op.intBits,ne_eq,not_true_eq_false,if_false];exact congrArg (λq=>Result.ok (Value.int IntKind.i64 q) w) h
theorem P2 {T:TypeId}{x y:Nat}(hx:x<9223372036854775808)(hy:y<9223372036854775808):cG P .or T (.int .i64 (x:Int)) (.int .i64 (y:Int)) (.int .i64 ((x ||| y:Nat):Int)):=λa b w=>by
 have h:=Tc hx hy;simp only[gw,Sem.run_bind,Sem.run_pure,Result.andThen_ok];simp only[binOp,Op.intBits,ne_eq,not_true_eq_false,if_false];exact congrArg (λq=>Result.ok (Value.int IntKind.i64 q) w) h
theorem Rb {T:TypeId}{x k:Nat}{q:IntKind}(h:x*2 ^ k<9223372036854775808)(hk:k<64):cG P .shl T (.int .i64 (x:Int)) (.int q (k:Int)) (.int .i64 ((x*2 ^ k:Nat):Int)):=λa b w=>by
 have U:¬ (k:Int)<0:=by omega
 have W:min k 64=k:=Nat.min_eq_left (by omega);have Y:IntKind.i64.bits=64:=rfl;have h3:IntKind.i64.wrap ((x:Int)*2 ^ k)=((x*2 ^ k:Nat):Int):=by
  rw[show ((x:Int)*2 ^ k)=((x*2 ^ k:Nat):Int) by simp];exact IntWalk.i64_in _ (by omega)
 simp only[gw,Sem.run_bind,Sem.run_pure,Result.andThen_ok,binOp,Op.shift,U,if_false,cE,Y,W,h3]
theorem Ra {T:TypeId}{x k:Nat}{q:IntKind}(hk:k<64):cG P .shr T (.int .i64 (x:Int)) (.int q (k:Int)) (.int .i64 ((x >>> k:Nat):Int)):=λa b w=>by
 have U:¬ (k:Int)<0:=by omega
 have W:min k 64=k:=Nat.min_eq_left (by omega);have Y:IntKind.i64.bits=64:=rfl;have h3:(x:Int).fdiv (2 ^ k)=((x >>> k:Nat):Int):=by
  rw[Nat.shiftRight_eq_div_pow,Int.natCast_ediv];rw[Int.fdiv_eq_ediv_of_nonneg _ (by exact Int.le_of_lt (Int.pow_pos (by decide)))];simp
 simp only[gw,Sem.run_bind,Sem.run_pure,Result.andThen_ok,binOp,Op.shift,U,if_false,cE,Y,W,h3]
theorem wC {T:TypeId}{k:IntKind}(h:fJ P T=some k):P.underlying T=some (.int k):=by
 unfold fJ at h;split at h;rename_i k' hk;cases h;exact hk;cases h
theorem Da {S T:TypeId}{x:Operand}{k q:IntKind}{m:Int}{d:TypeDesc}(ho:o.op=.convert S T x)(hS:P.underlying S=some d)(hT:fJ P T=some k)(hx:E.ev ρ x=.int q m):Ev P ρ o w (.int k (k.wrap m)):=by
 simp[Ev,execOp,ho,hx,convert,run_underlying hS,run_underlying (wC hT),Conv.intToInt]
theorem RD {S T:TypeId}{x:Operand}{q:IntKind}{m:Nat}{d:TypeDesc}(ho:o.op=.convert S T x)(hS:P.underlying S=some d)(hT:fJ P T=some .u64)(hx:E.ev ρ x=.int q (m:Int))(hm:m<=18446744073709551615):Ev P ρ o w (.int .u64 (m:Int)):=by
 have:=Da (w:=w) ho hS hT hx;rwa[IntWalk.u64_in _ (by omega)] at this
def wB (P:Program)(T:TypeId):Option (List (Nat×Nat)):=match P.underlying T with
 | some (.struct fs)=>fs.toList.mapM λf=>(cn P f.type).map λs=>(f.offset,s)
 | _=>none
def lay (places:List (Nat×Nat))(cells:List Value):List (Nat×List Value)->List Value
 | []=>cells
 | (i,l)::rest=>match places[i]? with
  | some (off,_)=>lay places (cells.take off++l++cells.drop (off+l.length)) rest
  | none=>[]
def gp (places:List (Nat×Nat))(m:Nat):List (Nat×Nat)->Bool
 | []=>true
 | (i,k)::rest=>(match places[i]? with|some (off,s)=>Nat.beq s k&&Nat.ble (off+k) m|none=>false)&&gp places m rest
theorem YG (l:List Value):∀ (off k:Nat) (cs:List Value),off+k+l.length<=cs.length ->
  (l.zipIdx k).foldl (λ(cs:Array Value) (p:Value×Nat)=>cs.setIfInBounds (off+p.2) p.1) cs.toArray=(cs.take (off+k)++l++cs.drop (off+k+l.length)).toArray:=by
 induction l with
 | nil=>intro off k cs h;simp
 | cons x l ih=>
  intro off k cs h;simp only[bH] at h;simp only[List.zipIdx_cons,List.foldl_cons];rw[List.setIfInBounds_toArray,ih off (k+1) _ (by simp;omega)];congr 1;have hk:off+k<cs.length:=by omega
  have e1:(cs.set (off+k) x).take (off+(k+1))=cs.take (off+k)++[x]:=by
   rw[show off+(k+1)=(off+k)+1 by omega,List.take_add_one,List.take_set_of_le (Acz _)];simp[hk]
  have e2:(cs.set (off+k) x).drop (off+(k+1)+l.length)=cs.drop (off+k+(x::l).length):=by
   rw[List.drop_set_of_lt (by omega)];congr 1;simp;omega
  rw[e1,e2];simp
theorem KT {places:List (Nat×Nat)}:∀ (parts:List (Nat×Value)) (pl:List (Nat×List Value)) (cells:List Value),parts.map (λp=>(p.1,p.2.cells.toList))=pl->gp places cells.length (pl.map λp=>(p.1,p.2.length))=true ->
  Instr.fill (λi=>places.toArray[i]?) cells.toArray parts=some (lay places cells pl).toArray
 | [],pl,cells,h,_=>by subst h;rfl
 | (i,v)::parts,pl,cells,h,hf=>by
  subst h;simp only[List.map_cons,gp,Afz] at hf;cases hp:places[i]? with
  | none=>simp[hp] at hf
  | some os=>
   obtain⟨off,s⟩:=os;simp only[hp,Afz] at hf;have U:s=v.cells.size:=by simpa using Abz hf.1.1
   have W:off+v.cells.size<=cells.length:=by simpa using hf.1.2
   have hpa:places.toArray[i]?=some (off,s):=by simpa using hp
   simp only[Instr.fill,hpa,List.map_cons,lay,hp];rw[al (by simp only[Ayz,U];simp;omega)];have hz:v.cells.zipIdx.foldl (λ(cs:Array Value) (x:Value×Nat)=>match x with|(c,j)=>cs.setIfInBounds (off+j) c) cells.toArray=(cells.take off++v.cells.toList++cells.drop (off+v.cells.toList.length)).toArray:=by
    have h3:=YG v.cells.toList off 0 cells (by simpa using W);simp only[Nat.add_zero] at h3;rw[← h3,← Array.foldl_toList];simp
   rw[hz];exact KT parts _ _ rfl (by
    have hlen:(cells.take off++v.cells.toList++cells.drop (off+v.cells.toList.length)).length=cells.length:=by simp;omega
    rw[hlen];exact hf.2)
theorem Ev.build {T:TypeId}{parts:Array (Nat×Operand)}{places:List (Nat×Nat)}{z:List Value}{vs:List (Nat×Value)}{pl:List (Nat×List Value)}{cs:List Value}(ho:o.op=.build T parts)(hp:wB P T=some places)(hz:fO P T=some z)
  (hv:parts.toList.map (λp=>(p.1,E.ev ρ p.2))=vs) (hl:vs.map (λp=>(p.1,p.2.cells.toList))=pl) (hf:gp places z.length (pl.map λp=>(p.1,p.2.length))=true) (hc:lay places z pl=cs):Ev P ρ o w (.agg cs.toArray):=by
 subst hc;obtain⟨zv,hzv,hzc⟩:=uG (P:=P) (w:=w) hz;unfold wB at hp;split at hp;rename_i fs hfs;have hm:∀ (g:Field->Sem (Nat×Nat)),(∀ f s,cn P f.type=some s->(g f).run P w=.ok (f.offset,s) w)->∀ (l:List Field) (pl:List (Nat×Nat)),l.mapM (λf=>(cn P f.type).map λs=>(f.offset,s))=some pl->(l.mapM g).run P w=.ok pl w:=by
  intro g hg l
  induction l with
  | nil=>intro pl h;simp at h;subst h;simp
  | cons f l ih=>
   intro pl h;simp only[List.mapM_cons] at h;cases hs:cn P f.type with
   | none=>simp[hs] at h
   | some s=>
    cases Z:l.mapM (λf=>(cn P f.type).map λs=>(f.offset,s)) with
    | none=>simp[hs,Z] at h
    | some r=>
     simp[hs,Z] at h;subst h;simp only[List.mapM_cons,Sem.run_bind,hg f s hs,Result.andThen_ok,ih r Z,Sem.run_pure]
 have hg0:∀ (f:Field) s,cn P f.type=some s->((do pure (f.offset,← sizeOf f.type):Sem (Nat×Nat))).run P w=.ok (f.offset,s) w:=λf s hs=>by
  simp only[Sem.run_bind,jL hs,Result.andThen_ok,Sem.run_pure]
 have hmap:=hm _ hg0 fs.toList places hp;have hfill:=KT (places:=places) vs pl z hl hf;have hparts:(parts.map λ(p:Nat×Operand)=>(p.1,E.ev ρ p.2)).toList=vs:=by rw[← hv];simp
 have hmA:(fs.mapM (λf=>(do pure (f.offset,← sizeOf f.type):Sem (Nat×Nat)))).run P w=.ok places.toArray w:=by
  rw[Array.mapM_eq_mapM_toList];rw[show (List.toArray <$> List.mapM (λf=>(do pure (Field.offset f,← sizeOf f.type):Sem (Nat×Nat))) fs.toList)=((List.mapM (λf=>(do pure (Field.offset f,← sizeOf f.type):Sem (Nat×Nat))) fs.toList) >>= λl=>pure l.toArray) from (bind_pure_comp _ _).symm];rw[Sem.run_bind,hmap];rfl
 simp only[Ev,execOp,ho,Instr.build,Sem.run_bind,hzv,Result.andThen_ok,run_underlying hfs,hmA,hzc];simp only[hparts,hfill,Sem.run_pure,Result.andThen_ok];cases hp
inductive FK where|int|str|bool
def wI (P:Program)(T:TypeId):Option FK:=match P.underlying T with
 | some (.int _)=>some .int
 | some .string=>some .str
 | some .bool=>some .bool
 | _=>none
def sc (P:Program):Nat->List Field->Option (List FK)
 | _,[]=>some []
 | i,f::fs=>if f.name != "_" && Nat.beq f.offset i then (wI P f.type).bind λk=>(sc P (i+1) fs).map (k :: ·) else none
def sb (P:Program)(T:TypeId):Option (List FK):=match P.underlying T with
 | some (.struct fs)=>if !P.stoodInHeld T && !P.eqGuardType P.depth T then sc P 0 fs.toList else none
 | _=>none
def eqF:List FK->List Value->List Value->Option Bool
 | [],[],[]=>some true
 | .int::r,.int .i64 a::xs,.int .i64 b::ys=>(eqF r xs ys).map (decide (a=b) && ·)
 | .str::r,.string a::xs,.string b::ys=>(eqF r xs ys).map (decide (a=b) && ·)
 | .bool::r,.bool a::xs,.bool b::ys=>(eqF r xs ys).map (decide (a=b) && ·)
 | _,_,_=>none
theorem Eo (d:Nat):∀ (fs:List Field) (i:Nat) (ks:List FK) (xs ys:List Value) (us vs:Array Value) (r:Bool),sc P i fs=some ks->eqF ks xs ys=some r ->
  (∀ j v,xs[j]?=some v->us[i+j]?=some v)->(∀ j v,ys[j]?=some v->vs[i+j]?=some v)->(Op.eqFields (d+1) us vs fs).run P w=.ok r w
 | [],_,ks,xs,ys,us,vs,r,h,he,_,_=>by
  simp[sc] at h;subst h;cases xs<;>cases ys<;>simp[eqF] at he;subst he;simp[Op.eqFields]
 | f::fs,i,ks,xs,ys,us,vs,r,h,he,hx,hy=>by
  simp only[sc] at h;split at h;rename_i hc;simp only[Afz] at hc;cases hk:wI P f.type with
  | none=>simp[hk] at h
  | some k=>
   cases Z:sc P (i+1) fs with
   | none=>simp[hk,Z] at h
   | some ks'=>
    simp[hk,Z] at h;subst h;have hoff:f.offset=i:=Abz hc.2;have hname:f.name ≠ "_" := by simpa using hc.1
    have hagg:cT P f.type=some false:=by
     unfold wI at hk;unfold cT;cases hu:P.underlying f.type with
     | none=>simp[hu] at hk
     | some dd=>simp only[hu] at hk ⊢;cases dd<;>simp at hk ⊢
    have hpart:∀ (cs:Array Value) v,cs[i]?=some v->(part f.type cs f.offset).run P w=.ok v w:=λcs v hv=>by
     simp[part,oR hagg,hoff,hv]
    have tail:=λxs' ys' r' hE hx' hy'=>Eo d fs (i+1) ks' xs' ys' us vs r' Z hE hx' hy';cases xs with
    | nil=>cases k<;>simp[eqF] at he
    | cons x xs=>
     cases ys with
     | nil=>cases k<;>cases x<;>simp[eqF] at he
     | cons y ys=>
      have hx0:=hx 0 x rfl;have hy0:=hy 0 y rfl;have hxt:∀ j v,xs[j]?=some v->us[i+1+j]?=some v:=λj v hv=>by have:=hx (j+1) v (by simpa using hv);rwa[Nat.add_assoc,Nat.add_comm 1]
      have hyt:∀ j v,ys[j]?=some v->vs[i+1+j]?=some v:=λj v hv=>by have:=hy (j+1) v (by simpa using hv);rwa[Nat.add_assoc,Nat.add_comm 1]
      have fin:∀ (b:Bool),(Op.equalIn (d+1) f.type x y).run P w=.ok b w->(eqF ks' xs ys).map (b && ·)=some r->(Op.eqFields (d+1) us vs (f::fs)).run P w=.ok r w:=by
       intro b Y hm;cases hq:eqF ks' xs ys with
       | none=>simp[hq] at hm
       | some r'=>
        simp[hq] at hm;have ht:=tail xs ys r' hq hxt hyt;simp only[Op.eqFields,ao hname,Sem.run_bind,hpart us x hx0,hpart vs y hy0,Result.andThen_ok,Y];cases b;simp at hm;subst hm;simp;simp at hm;subst hm;simp[ht]
      have hu:∀ k',wI P f.type=some k'->(match k' with|.int=>∃ q,P.underlying f.type=some (.int q)|.str=>P.underlying f.type=some .string|.bool=>P.underlying f.type=some .bool):=by
       intro k' hk';unfold wI at hk';split at hk'<;>cases hk'<;>simp[*]
      have huk:=hu k hk;cases k with
      | int=>
       obtain⟨q,hq⟩:=huk;cases x with
       | int kx a=>
        cases y with
        | int ky b=>
         cases kx<;>cases ky<;>simp only[eqF] at he<;>first|(cases he;done)|exact fin _ (by rw[run_equalIn_int w d _ .i64 q a b hq];rfl) he
        | _=>cases kx<;>simp[eqF] at he
       | _=>simp[eqF] at he
      | str=>
       cases x with
       | string a=>
        cases y with
        | string b=>simp only[eqF] at he;exact fin _ (by rw[run_equalIn_string w d _ a b huk,lz]) he
        | _=>simp[eqF] at he
       | _=>simp[eqF] at he
      | bool=>
       cases x with
       | bool a=>
        cases y with
        | bool b=>simp only[eqF] at he;exact fin _ (by rw[run_equalIn_bool' w d _ a b huk];cases a<;>cases b<;>rfl) he
        | _=>simp[eqF] at he
       | _=>simp[eqF] at he
  cases h
theorem RA {T:TypeId}{ks:List FK}{xs ys:List Value}{r:Bool}(hT:sb P T=some ks)(h:eqF ks xs ys=some r):cG P .eql T (.agg xs.toArray) (.agg ys.toArray) (.bool r):=λx y w=>by
 unfold sb at hT;split at hT;rename_i fs hfs;split at hT;rename_i hc;simp only[Afz,Bdz] at hc;have hfo:P.fieldsOf T=fs:=by simp[Program.fieldsOf,hfs]
 have hrun:=Eo (P:=P) (w:=w) 9998 fs.toList 0 ks xs ys xs.toArray ys.toArray r hT h (by simp) (by simp);have W:=run_equalIn_struct (P:=P) w 9999 T xs.toArray ys.toArray (by rw[hfo];exact hfs) hc.1;rw[hfo,hrun] at W;simp only[Sem.run_bind,run_eqGuard_agg w .eql T x y _ _ hc.2,Result.andThen_ok,run_eql_struct,W];cases hT;cases hT
theorem Rz {T:TypeId}{ks:List FK}{xs ys:List Value}{r:Bool}(hT:sb P T=some ks)(h:eqF ks xs ys=some r):cG P .neq T (.agg xs.toArray) (.agg ys.toArray) (.bool (!r)):=λx y w=>by
 unfold sb at hT;split at hT;rename_i fs hfs;split at hT;rename_i hc;simp only[Afz,Bdz] at hc;have hfo:P.fieldsOf T=fs:=by simp[Program.fieldsOf,hfs]
 have hrun:=Eo (P:=P) (w:=w) 9998 fs.toList 0 ks xs ys xs.toArray ys.toArray r hT h (by simp) (by simp);have W:=run_equalIn_struct (P:=P) w 9999 T xs.toArray ys.toArray (by rw[hfo];exact hfs) hc.1;rw[hfo,hrun] at W;simp only[Sem.run_bind,run_eqGuard_agg w .neq T x y _ _ hc.2,Result.andThen_ok,run_neq_struct,W];cases hT;cases hT
end
end Go.E
namespace Go.E
open Go
open Rep (rd)
abbrev aR (n:Int):Prop:=-9223372036854775808<=n/\n<=9223372036854775807
section
variable {P:Program}{n:Nat}{Q:b8}{ρ:Env}{w:World}{ops:Array Oper}{o:Oper}{rest:List Oper}
theorem P1 {T e k:TypeId}{x i:Operand}{A:Option Addr}{b off n c:Nat}{q:IntKind}{j:Nat}(ho:o.op=.indexAddr T x i)(hT:cY P T=some e)(hk:cn P e=some k)
  (hx:E.ev ρ x=.slice A n c) (hA:A=some ⟨b,off,none⟩) (hi:E.ev ρ i=.int q (j:Int)) (hj:j<n):Ev P ρ o w (.pointer (some ⟨b,off+j*k,none⟩)):=Ev.ix ho hT hk (by rw[hx,hA]) hi hj
theorem dE.part {b:Nat}{T:TypeId}{cs:List Value}(h:dE w b T cs)(j k:Nat):At w b j ((cs.drop j).take k):=At.ofBlk h j _ λi v hv=>by
 rw[Anz] at hv;split at hv;rwa[Baz] at hv;cases hv
theorem At.part {b o:Nat}{cs:List Value}(h:At w b o cs)(j k:Nat):At w b (o+j) ((cs.drop j).take k):=h.sub j _ λi v hv=>by
 rw[Anz] at hv;split at hv;rwa[Baz] at hv;cases hv
theorem At.cell0 {b o:Nat}{cs:List Value}(h:At w b o cs){v:Value}(hv:cs[0]?=some v):w.cell? ⟨b,o,none⟩=some v:=h 0 v hv
theorem CG {fn:Func}{t:Nat}{v:Value}(Z:fn.results=#[.tmp t])(ht:Nat.blt t fn.ntmps=true)(hv:ρ t=v):∀ a:Act,fL fn.ntmps ρ a->(results fn a.tmps).run P w=.ok v w:=λa ha=>by
 rw[results_tmp Z,ha.at_ t (by simpa using ht),hv]
theorem Rq {T:TypeId}(hT:P.underlying T=some .bool){a b:Bool}:cG P .neq T (.bool a) (.bool b) (.bool (!decide (a=b))):=λx y w=>by
 have U:(Op.equalIn 10000 T (.bool a) (.bool b)).run P w=.ok (a == b) w:=run_equalIn_bool' w 9999 T a b hT;have W:eqGuard .neq T x y (.bool a) (.bool b)=pure ():=by simp[eqGuard]
 simp only[W,binOp,Op.equal,Op.maxDepth,Sem.run_bind,Sem.run_pure,Result.andThen_ok,U];cases a<;>cases b<;>rfl
end
end Go.E
namespace Go.E
open Go
open Rep (rd)
class Sep (α:Type) extends Rep α where
 own:List Nat->World->α->List Value->Prop
 own_rd:∀ {L w x cs},own L w x cs->rd (λb=>b∈L) w x cs
 own_frame:∀ {L w w' x cs},own L w x cs->(∀ b∈L,w'.heap[b]?=w.heap[b]?)->own L w' x cs
 own_lt:∀ {L w x cs},own L w x cs->∀ b∈L,b<w.heap.size
open Go.E.Sep (own)
theorem Own.lst {w:World}{base e k m:Nat}{v:Value}{cs:List Value}(h:Own w base e k v m cs):∀ b∈v.ownBlock.toList,b<w.heap.size:=λb Y=>(h.lt (by simpa[kA] using Y)).2
theorem Own.frm {w w' : World}{base e k m:Nat}{v:Value}{cs:List Value}(h:Own w base e k v m cs)(hf:∀ b∈v.ownBlock.toList,w'.heap[b]?=w.heap[b]?):Own w' base e k v m cs:=by
 refine⟨h.1,?_⟩;rcases h.2 with W|⟨g,cap,cur,rfl,Y,hg,r⟩
 exact .inl W;refine .inr ⟨g,cap,cur,rfl,Y,?_,r⟩;rw[hf g (by simp[Value.ownBlock])];exact hg
class Sz (α:Type) where
 szd:α->Nat
open Go.E.Sz (szd)
instance:Sz an where szd x:=x.size
def bP {α:Type}[Sz α]:List α->Nat
 | []=>0
 | x::xs=>1+szd x+bP xs
theorem gG {α:Type}[Sz α]:∀ xs:List α,xs.length<=bP xs
 | []=>by simp[bP]
 | x::xs=>by have:=gG xs;simp[bP];omega
theorem Bg {α:Type}[Sz α]:∀ xs ys:List α,bP (xs++ys)=bP xs+bP ys
 | [],ys=>by simp[bP]
 | x::xs,ys=>by have:=Bg xs ys;simp[bP];omega
class Mk (α:Type) where
 mrk:α->Int->α
 cnt:α->Nat
 hd:α->Int->Option Int
 law:∀ x k,hd (mrk x k) k=some (k+cnt x)
 cm:∀ x k,cnt (mrk x k)=cnt x
end Go.E
namespace Go.E
open Go.E.Sep (own)
theorem GF {cur ci:List Value}{O:Nat}(hfit:O+ci.length<=cur.length):(cH cur O ci).length=cur.length:=by
 unfold cH;simp;omega
end Go.E
namespace Go.E
open Go
class NN (α:Type) where
 mrkT:α->Int->α
 cntT:α->Nat
 hdT:α->Int->Option Int
 lawT:∀ x k,hdT (mrkT x k) k=some (k+cntT x)
 cmT:∀ x k,cntT (mrkT x k)=cntT x
section
variable {P:Program}{n:Nat}{Q:b8}{ρ:Env}{w:World}{ops:Array Oper}{o:Oper}{rest:List Oper}{C:World->Prop}{F:Env->Prop}
structure FY (n:Nat) (ops:Array Oper) (h:Nat) (D:Nat->List Nat) (Ψ:Nat->(Nat->Prop)->List Value->World->Prop) (S:Nat->Nat->Prop) (ρ0:Env) (w0:World) (listed:Array Bool) (ρ:Env) (w:World):Prop where
 head:HeadInv .any ops h listed
 ext:cd w0 w
 out:∀ t,(∀ j,j<h->di ops j≠some t)->ρ t=ρ0 t
 apart:∀ i j q,i<h->j<h->listed.getD i false=true->listed.getD j false=true->S i q->S j q->i=j
 bound:∀ i q,i<h->listed.getD i false=true->S i q->w0.heap.size<=q/\q<w.heap.size
 known:∀ j,j<h->listed.getD j false=true->Ψ j (S j) ((D j).map ρ) w
section loose
variable {h:Nat}{D:Nat->List Nat}
def lj (P:Program)(R:Value->World->Prop):Result Next->Prop
 | .ok (.value u) w'=>R u w'
 | .ok .skip w'=>R undef w'
 | .ok (.enter f args) w'=>Calls P f args w' (λe w''=>∃ v,e=.returned v/\R v w'')
 | _=>False
def AV (P:Program)(ops:Array Oper)(o:Oper)(ρ:Env)(w:World)(R:Value->World->Prop):Prop:=
 (dV ops ρ o=true/\lj P R ((execOp (E.ev ρ) o).run P w))∨(dV ops ρ o=false/\R undef w)
theorem AV.opW {R:Value->World->Prop}(h:AV P ops o ρ w R):AX P n ops o ρ w R:=by
 rcases h with ⟨hg,h⟩|⟨hg,h⟩
 refine .inl ⟨hg,λa Z5 Q' ha hok hK=>?_⟩;unfold Oper.wp;rw[qK ha hok];generalize (execOp (E.ev ρ) o).run P w=r at h;cases r with
 | ok x w'=>
  cases x<;>simp only[lj] at h<;>simp only[Oper.upon]
  case value u=>exact hK _ _ h
  case skip=>exact hK _ _ h
  case enter f args=>exact h.mono λe w'' ⟨v,he,Z⟩=>by subst he;exact hK _ _ Z
 | halt x w'=>simp only[lj] at h
 exact .inr ⟨hg,h⟩
end loose
end
end Go.E
namespace Go.E
open Go
open Rep (rd)
def eM (P:Program)(T:TypeId)(α:Type)[Rep α]:Prop:=
 P.cellsOf T=Rep.sz α/\∀ (Z8:Type) (enc:TypeId×Value->Z8) (w:World) (base:Nat) (spare:Nat->Bool) (held:Bool) (fuel:Nat) (cs:List Value) (x:DataW Z8×List MemPlace),
  DataW.trod enc P w base spare held fuel T cs=some x->∃ a:α,rd (λ_=>True) w a cs
section
variable {P:Program}{T e:TypeId}{α:Type}[Rep α]
theorem At.ofCells {w:World}{base b o k:Nat}{cs:List Value}(h:w.cells? base ⟨b,o,none⟩ k=some cs):cs.length=k/\At w b o cs:=by
 obtain⟨_,hl,hat⟩:=World.cells?_some h;refine⟨hl,λj v hj=>?_⟩;have hjk:j<k:=by rw[← hl];exact (List.getElem?_eq_some_iff.1 hj).1
 have:=hat j hjk;rw[hj] at this;rw[← this];unfold Addr.add;split
 next h0=>subst h0;rfl
 rfl
theorem eM.slice (hc:P.cellsOf T=1)(ht:P.underlying T=some (.slice e))(he:eM P e α):eM P T (List α):=by
 refine⟨hc,λZ8 enc w base spare held fuel cs x h=>?_⟩;rcases Go.Deep.open_slice ht h with ⟨rfl,_⟩|⟨a,len,cap,m,n,D,Pl,rfl,_,hl,hm,hmm,_,hi⟩
 exact⟨[],_,rfl,none,0,[],rfl,Acz _,by decide,rfl,.inl rfl⟩;have hlm:len<=m:=by rw[hmm];split<;>omega
 obtain⟨b,o,sp⟩:=a;have key:∀ k,k<=len->∃ (xs:List α) (cells:List Value),xs.length=k/\eP (λ_=>True) w xs cells/\(k=0∨sp=none)/\∀ j v,cells[j]?=some v->w.cell? ⟨b,o+j,none⟩=some v:=by
  intro k
  induction k with
  | zero=>intro _;exact⟨[],[],rfl,rfl,.inl rfl,by simp⟩
  | succ k ih=>
   intro hk;obtain⟨xs,cells,U,W,h3,h4⟩:=ih (by omega);obtain⟨cs',hcs,htr⟩:=hi k (by omega);obtain⟨y,hy⟩:=he.2 Z8 enc w base spare held n cs' _ htr;have hlen:=Rep.len hy;have hp:=Rep.pos (α:=α);rw[he.1] at hcs;have hsp:sp=none:=by
    rcases h3 with rfl|h3;obtain⟨_,hl',hat⟩:=World.cells?_some hcs;have h0:=hat 0 hp;rw[List.getElem?_eq_getElem (by omega)] at h0;simp only[Nat.zero_mul,Addr.add,if_true] at h0;cases sp with
    | none=>rfl
    | some f=>
     exfalso;unfold World.cell? at h0;split at h0;simp at h0;cases h0
    exact h3
   subst hsp;have hadd:Addr.add ⟨b,o,none⟩ (k*Rep.sz α)=⟨b,o+k*Rep.sz α,none⟩:=by
    unfold Addr.add;split
    next h0=>rw[h0];rfl
    rfl
   rw[hadd] at hcs;obtain⟨_,hat⟩:=At.ofCells hcs;have hcl:=W.len;refine⟨xs++[y],cells++cs',by simp[U],eP.append W (eP.single hy),.inr rfl,λj v hj=>?_⟩;by_cases hjc:j<cells.length;rw[Atz hjc] at hj;exact h4 j v hj;rw[Auz (by omega)] at hj;have:=hat _ v hj;rw[← this];congr 2;rw[hcl,U];have:cells.length=k*Rep.sz α:=by rw[hcl,U]
   omega
 obtain⟨xs,cells,U,W,h3,h4⟩:=key len (Acz _);subst U;refine⟨xs,_,rfl,_,cap,cells,rfl,hl,hm,W,?_⟩;rcases h3 with h3|rfl;exact .inl (Awz h3);exact .inr ⟨b,o,rfl,trivial,h4⟩
end
end Go.E
namespace Go.E
open Go
open Rep (rd)
section
variable {α:Type}[DecidableEq α]{xs:List α}{y x:α}{i:Nat}
def eT (xs:List α)(y:α):Int:=if y∈xs then ((xs.idxOf y:Nat):Int) else -1
end
section
variable {P:Program}{ρ:Env}{o:Oper}{w:World}
theorem Rp {S T:TypeId}{x:Operand}{q:IntKind}{m:Int}{d:TypeDesc}(ho:o.op=.convert S T x)(hS:P.underlying S=some d)(hT:fJ P T=some .u64)(hx:E.ev ρ x=.int q m)(h0:0<=m)(U:m<=9223372036854775807):Ev P ρ o w (.int .u64 m):=by
 obtain⟨n,rfl⟩:=Bez h0;exact RD ho hS hT hx (by omega)
theorem Ry {T:TypeId}{k:Int}{q:IntKind}(h0:0<=k)(hk:k<63):cG P .shl T (.int .i64 1) (.int q k) (.int .i64 ((2 ^ k.toNat:Nat):Int)):=by
 obtain⟨n,rfl⟩:=Bez h0;have h:2 ^ n<2 ^ 63:=Nat.pow_lt_pow_right (by decide) (by omega);have:=Rb (P:=P) (T:=T) (x:=1) (k:=n) (q:=q) (by omega) (by omega);simpa using this
theorem Rx {T:TypeId}{x k:Int}{q:IntKind}(hx:0<=x)(h0:0<=k)(hk:k<64):cG P .shr T (.int .i64 x) (.int q k) (.int .i64 ((x.toNat >>> k.toNat:Nat):Int)):=by
 obtain⟨n,rfl⟩:=Bez h0;obtain⟨m,rfl⟩:=Bez hx;exact Ra (by omega)
theorem Rw {T:TypeId}{x y:Int}(hx:0<=x)(hx1:x<=9223372036854775807)(hy:0<=y)(hy1:y<=9223372036854775807):cG P .and T (.int .i64 x) (.int .i64 y) (.int .i64 ((x.toNat &&& y.toNat:Nat):Int)):=by
 obtain⟨n,rfl⟩:=Bez hy;obtain⟨m,rfl⟩:=Bez hx;exact Rc (by omega) (by omega)
theorem Q9 {T:TypeId}{x y:Int}(hx:0<=x)(hx1:x<=9223372036854775807)(hy:0<=y)(hy1:y<=9223372036854775807):cG P .or T (.int .i64 x) (.int .i64 y) (.int .i64 ((x.toNat ||| y.toNat:Nat):Int)):=by
 obtain⟨n,rfl⟩:=Bez hy;obtain⟨m,rfl⟩:=Bez hx;exact P2 (by omega) (by omega)
end
theorem C9 {P:Program}{ρ:Env}{o:Oper}{w:World}{T e k:TypeId}{x i:Operand}{A:Option Addr}{b off n c:Nat}{q:IntKind}{m:Int}(ho:o.op=.indexAddr T x i)(hT:cY P T=some e)(hk:cn P e=some k)
  (hx:E.ev ρ x=.slice A n c) (hA:A=some ⟨b,off,none⟩) (hi:E.ev ρ i=.int q m) (h0:0<=m) (hj:m<n):Ev P ρ o w (.pointer (some ⟨b,off+m.toNat*k,none⟩)):=by
 obtain⟨j,rfl⟩:=Bez h0;exact P1 ho hT hk hx hA hi (by omega)
theorem Q8 {P:Program}{ρ:Env}{o:Oper}{w:World}{fn:Fn}{f c:Array Operand}{vs us:List Value}(ho:o.op=.makeFunc fn f c)(hf:f.toList.map (E.ev ρ)=vs)(hc:c.toList.map (E.ev ρ)=us):Ev P ρ o w (.func fn vs.toArray us.toArray):=
 P3 ho (by rw[← hf,← Bbz,Bcz]) (by rw[← hc,← Bbz,Bcz])
end Go.E
namespace Go.E
open Go
open Rep (rd)
open Sep (own)
class Flat (α:Type) [Sep α]:Prop where
 flat:∀ {S:Nat->Prop} {w w' : World} {x:α} {cs:List Value},rd S w x cs->own [] w' x cs
theorem ZQ {P:Program}(w:World)(d:Nat){T e:TypeId}(A:Option Addr)(n c:Nat)(h:P.underlying T=some (.slice e)):(Op.equalIn (d+1) T (.slice A n c) (.slice none 0 0)).run P w=.ok A.isNone w:=by
 cases A<;>simp[Op.equalIn,run_underlying h]
theorem Rt {P:Program}{T e:TypeId}{A:Option Addr}{n c:Nat}(hT:cY P T=some e):cG P .eql T (.slice A n c) (.slice none 0 0) (.bool (decide (A=none))):=by
 intro x y w;have W:(Op.equal T (.slice A n c) (.slice none 0 0)).run P w=.ok A.isNone w:=ZQ w 9999 A n c (ga hT);cases A<;>simp[eqGuard,binOp,W]
end Go.E
