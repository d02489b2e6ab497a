/- A small engine for walks through a Go program: plain lemmas on the model, without conditions of their own. -/
import Derived.Test.YtmblndlpkpaobaaGreatEngA
import Derived.ProofKit
import Derived.Deep.Slices
import Derived.OpenShut
set_option linter.unusedVariables false
set_option linter.unusedSimpArgs false
set_option linter.ambiguousOpen false
set_option linter.unusedSectionVars false
set_option linter.unnecessarySimpa false
namespace Go.E
open Go
class Sz (α:Type) where
 szd:α→Nat
open Go.E.Sz (szd)
instance:Sz Int where szd _:=0
instance:Sz Bool where szd _:=0
instance:Sz ByteArray where szd x:=x.size
def szL {α:Type} [Sz α]:List α→Nat
 | []=>0
 | x :: xs=>1+szd x+szL xs
instance {α:Type} [Sz α]:Sz (List α) where szd x:=szL x
theorem q0O {α:Type} [Sz α]:∀ xs:List α,xs.length≤szL xs
 | []=>by simp [szL]
 | x :: xs=>by have:=q0O xs; simp [szL]; omega
theorem z0F {α:Type} [Sz α]:∀ xs ys:List α,szL (xs++ys)=szL xs+szL ys
 | [],ys=>by simp [szL]
 | x :: xs,ys=>by have:=z0F xs ys; simp [szL]; omega
theorem z0G {α:Type} [Sz α]{xs:List α}{i:Nat}{x:α}(h:xs[i]? = some x):szd x≤szL xs:=by
 induction xs generalizing i with
 | nil=>simp at h
 | cons y ys ih=>
  cases i with
  | zero=>simp at h; subst h; simp [szL]; omega
  | succ i=>have:=ih (by simpa using h); simp [szL]; omega
def digs:Nat→Nat→ByteArray→ByteArray
 | 0,_,acc=>acc
 | f+1,k,acc=>if k=0 then acc else digs f (k / 10) (⟨#[(48+k % 10).toUInt8]⟩++acc)
def mtext (k:Int):ByteArray:=if k≤0 then ⟨#[109,48]⟩ else ⟨#[109]⟩++digs k.toNat k.toNat ⟨#[]⟩
class Mk (α:Type) where
 mrk:α→Int→α
 cnt:α→Nat
 hd:α→Int→Option Int
 law:∀ x k,hd (mrk x k) k=some (k+cnt x)
 cm:∀ x k,cnt (mrk x k)=cnt x
instance:Mk Int where
 mrk _ k:=k
 cnt _:=1
 hd x k:=if x=k then some (k+1) else none
 law x k:=by simp
 cm _ _:=rfl
instance:Mk ByteArray where
 mrk _ k:=mtext k
 cnt _:=1
 hd x k:=if x=mtext k then some (k+1) else none
 law x k:=by simp
 cm _ _:=rfl
instance:Mk Bool where
 mrk _ k:=decide (k % 3=0)
 cnt _:=1
 hd x k:=if x=decide (k % 3=0) then some (k+1) else none
 law x k:=by simp
 cm _ _:=rfl
section
variable {α:Type} [Mk α]
def mkL:List α→Int→List α
 | [],_=>[]
 | x :: xs,k=>Mk.mrk x k :: mkL xs (k+Mk.cnt x)
def cntL:List α→Nat
 | []=>0
 | x :: xs=>Mk.cnt x+cntL xs
def hdL:List α→Int→Option Int
 | [],k=>some k
 | x :: xs,k=>(Mk.hd x k).bind (hdL xs)
theorem q4F:∀ (xs:List α)(k:Int),hdL (mkL xs k) k=some (k+cntL xs)
 | [],k=>by simp [hdL,mkL,cntL]
 | x :: xs,k=>by
  simp only [mkL,hdL,Mk.law,Option.bind_some,q4F xs (k+Mk.cnt x),cntL]
  congr 1; omega
theorem q3J:∀ (xs:List α)(k:Int),cntL (mkL xs k)=cntL xs
 | [],_=>rfl
 | x :: xs,k=>by simp only [mkL,cntL,Mk.cm,q3J xs]
end
theorem cntI (x:Int):Mk.cnt x=1:=rfl
theorem cntS (x:ByteArray):Mk.cnt x=1:=rfl
theorem cntB (x:Bool):Mk.cnt x=1:=rfl
end Go.E
namespace Go.E
open Go.E.Sz (szd)
theorem q1g {α:Type} [Sz α]{xs:List α}{i:Nat}{x:α}(h:xs[i]? = some x):szL (xs.take (i+1))=szL (xs.take i)+1+szd x:=by
 rw [q9W h,z0F]; simp [szL]; omega
theorem q0L {α:Type} [Sz α](xs:List α)(i:Nat):szL (xs.take i)+(xs.length - i)≤szL xs:=by
 have h:=z0F (xs.take i) (xs.drop i)
 rw [List.take_append_drop] at h
 have:=q0O (xs.drop i)
 simp at this
 omega
theorem q1A {α:Type} [Sz α]{x:List α}{k:Nat}(h:x.length≤k):szL (x.take k)=szL x:=by rw [List.take_of_length_le h]
theorem szfold {α:Type} [Sz α](xs:List α):szd xs=szL xs:=rfl
end Go.E
namespace Go.E
open Go.E.Sep (own)
theorem Blk.chg1 {w w' : World}{b b2:Nat}{T:TypeId}{cs:List Value}(h:Blk w b2 T cs)(hc:Chg (· = b) w w')(hne:b2≠b):Blk w' b2 T cs:=h.chg hc hne
theorem ownS.chg1 {α:Type} [Sep α]{w w' : World}{b:Nat}{L:List Nat}{xs:List α}{v:Value}(h:ownS L w xs v)(hc:Chg (· = b) w w')(hne:∀ q∈L,q≠b):ownS L w' xs v:=h.chg hc hne
theorem own.chg1 {α:Type} [Sep α]{w w' : World}{b:Nat}{L:List Nat}{x:α}{cs:List Value}(h:own L w x cs)(hc:Chg (· = b) w w')(hne:∀ q∈L,q≠b):own L w' x cs:=z7z h hc hne
theorem rdS.chg1 {α:Type} [Rep α]{S:Nat→Prop}{w w' : World}{b:Nat}{xs:List α}{v:Value}(h:rdS S w xs v)(hc:Chg (· = b) w w')(hne:∀ q,S q→q < w.heap.size→q≠b):rdS S w' xs v:=h.chg hc hne
theorem At.chg1 {w w' : World}{b b2 o:Nat}{cs:List Value}(h:At w b2 o cs)(hc:Chg (· = b) w w')(hne:b2≠b):At w' b2 o cs:=h.chg hc hne
theorem Ext.chg1 {a w w' : World}{b:Nat}(h:Ext a w)(hc:Chg (· = b) w w')(hb:a.heap.size≤b):Ext a w':=h.trans_chg hc fun i hi=>by subst hi; exact hb
theorem q9X {cur ci:List Value}{O:Nat}(hfit:O+ci.length≤cur.length):(splice cur O ci).length=cur.length:=by
 unfold splice; simp; omega
end Go.E
namespace Go.E
open Go
section
variable {P:Program}{n:Nat}{Q:Post}{ρ:Env}{w:World}{ops:Array Oper}{o:Oper}{rest:List Oper}
end
end Go.E
namespace Go.E
end Go.E
namespace Go.E
open Go
section
variable {α:Type} [Mk α]
instance:Mk (List α) where
 mrk:=mkL
 cnt:=cntL
 hd:=hdL
 law:=q4F
 cm:=q3J
def Held (o:Option Int)(k:Int)(c:Nat)(r:Int):Prop:=o=some r∧r=k+c∨o=none∧r = -1
theorem Held.pos {o:Option Int}{k r:Int}{c:Nat}(h:Held o k c r)(hr:¬ r < 0):o=some r:=by
 rcases h with ⟨h,_⟩ | ⟨_,h⟩
 ·exact h
 ·omega
end
class MkT (α:Type) where
 mrkT:α→Int→α
 cntT:α→Nat
 hdT:α→Int→Option Int
 lawT:∀ x k,hdT (mrkT x k) k=some (k+cntT x)
 cmT:∀ x k,cntT (mrkT x k)=cntT x
end Go.E
namespace Go.E
open Go
open Rep (rd)
open Sep (own)
def New {α:Type} [Sep α](w w' : World)(x:α)(cs:List Value):Prop:=∃ L,own L w' x cs∧L.Nodup∧∀ q∈L,w.heap.size≤q
def NewS {α:Type} [Sep α](w w' : World)(x:List α)(v:Value):Prop:=∃ L,ownS L w' x v∧L.Nodup∧∀ q∈L,w.heap.size≤q
theorem z5q {cs z l:List Value}{k n i:Nat}(hcs:cs.length=i*k)(hl:l.length=k)(hz:z.length=k)(hi:i < n):splice (cs++reps z (n - i)) (0+i*k) l=(cs++l)++reps z (n - (i+1)):=by
 obtain⟨m,hm⟩:∃ m,n - i=m+1:=⟨n - i - 1,by omega⟩
 rw [hm,show n - (i+1)=m by omega]
 unfold splice
 simp only [reps,Nat.zero_add]
 rw [← hcs,List.take_left']
 ·congr 1
  rw [List.drop_append,List.drop_of_length_le (by omega),show cs.length+l.length - cs.length=z.length by omega]
  simp
 ·rfl
section
variable {α:Type} [Sep α]{w w' : World}{b e i:Nat}{z cs ci:List Value}{x:List α}{y:α}{L Li:List Nat}{P:Program}{n:Nat}{Q:Post}{ρ:Env}{ops:Array Oper}{o:Oper}{rest:List Oper}
def ToInv (w:World)(b e:Nat)(z:List Value)(x:List α)(i:Nat)(cs:List Value)(L:List Nat):Prop:=
 i≤x.length∧Blk w b e (cs++reps z (x.length - i))∧ownL w L (x.take i) cs∧L.Nodup∧∀ q∈L,b < q
theorem ToInv.init (h:Blk w b e (reps z x.length)):ToInv w b e z x 0 [] []:=⟨Nat.zero_le _,h,⟨rfl,rfl⟩,List.nodup_nil,by simp⟩
theorem ToInv.le (h:ToInv w b e z x i cs L):i≤x.length:=h.1
theorem ToInv.lt (h:ToInv w b e z x i cs L):b < w.heap.size:=h.2.1.lt
theorem ToInv.ltL (h:ToInv w b e z x i cs L):∀ q∈L,q < w.heap.size:=h.2.2.1.lt
theorem ToInv.ext (h:ToInv w b e z x i cs L)(hE:Ext w w'):ToInv w' b e z x i cs L:=
 ⟨h.1,h.2.1.ext hE,h.2.2.1.frame fun q hq=>hE.block q (h.2.2.1.lt q hq) id,h.2.2.2⟩
theorem ToInv.fresh (h:ToInv w b e z x i cs L)(hf:∀ q∈Li,w.heap.size≤q):∀ q∈Li,b < q∧q ∉ L:=fun q hq=>⟨Nat.lt_of_lt_of_le h.lt (hf q hq),fun hL=>by have:=h.ltL q hL; have:=hf q hq; omega⟩
theorem ToInv.step (h:ToInv w b e z x i cs L)(hy:x[i]? = some y)(ho:own Li w y ci)(hN:Li.Nodup)(hf:∀ q∈Li,b < q∧q ∉ L)(hz:z.length=Rep.sz α)(hc:Chg (· = b) w w')
  (hb:Blk w' b e (splice (cs++reps z (x.length - i)) (0+i*Rep.sz α) ci)):ToInv w' b e z x (i+1) (cs++ci) (L++Li):=by
 have hi:i < x.length:=(List.getElem?_eq_some_iff.1 hy).1
 have hl:=Rep.len (Sep.own_rd ho)
 have hcs:=h.2.2.1.rd.len
 rw [List.length_take,Nat.min_eq_left (by omega)] at hcs
 rw [z5q hcs hl hz hi] at hb
 refine⟨hi,hb,?_,?_,?_⟩
 ·rw [q9W hy]
  refine ownL.append ?_ (ownL.single ?_)
  ·exact h.2.2.1.frame fun q hq=>hc.block q (h.2.2.1.lt q hq) fun e=>by subst e; exact absurd (h.2.2.2.2 _ hq) (Nat.lt_irrefl _)
  ·exact own.chg1 ho hc fun q hq e=>by subst e; exact absurd (hf _ hq).1 (Nat.lt_irrefl _)
 ·exact List.nodup_append.2 ⟨h.2.2.2.1,hN,fun a ha c hc e=>(hf c hc).2 (e▸ha)⟩
 ·intro q hq
  rcases List.mem_append.1 hq with hq | hq
  ·exact h.2.2.2.2 q hq
  ·exact (hf q hq).1
theorem ToInv.done (h:ToInv w b e z x i cs L)(hi:x.length≤i)(hm:x.length≤maxLen):ownS (b :: L) w x (.slice (some ⟨b,0,none⟩) x.length x.length)∧(b :: L).Nodup∧∀ q∈b :: L,b≤q:=by
 obtain⟨_,h1,h2,h3,h4⟩:=h
 rw [show x.length - i=0 by omega] at h1
 simp only [reps,List.append_nil] at h1
 rw [List.take_of_length_le hi] at h2
 refine⟨ownS.of_blk h1 h2 hm,List.nodup_cons.2 ⟨fun hb=>Nat.lt_irrefl _ (h4 b hb),h3⟩,fun q hq=>?_⟩
 rcases List.mem_cons.1 hq with rfl | hq
 ·exact Nat.le_refl _
 ·exact Nat.le_of_lt (h4 q hq)
theorem ToInv.new {w0:World}(h:ToInv w b e z x i cs L)(hi:x.length≤i)(hm:x.length≤maxLen)(h0:w0.heap.size≤b):NewS w0 w x (.slice (some ⟨b,0,none⟩) x.length x.length):=
 ⟨_,(h.done hi hm).1,(h.done hi hm).2.1,fun q hq=>Nat.le_trans h0 ((h.done hi hm).2.2 q hq)⟩
theorem WL.stTo {T:TypeId}{a c:Operand}{v:Value}(hg:o.guard=none)(hd:o.dst=none)(ho:o.op = .store T a c)(hk:szT P T=some (Rep.sz α))(hx:E.ev ρ a = .pointer (some ⟨b,0+i*Rep.sz α,none⟩))(hy:E.ev ρ c=v)(hv:v.cells=ci.toArray)
  (h:ToInv w b e z x i cs L) (hxi:x[i]? = some y) (how:own Li w y ci) (hN:Li.Nodup) (hf:∀ q∈Li,b < q∧q ∉ L) (hz:z.length=Rep.sz α)
  (hQ:∀ w',Chg (· = b) w w'→ToInv w' b e z x (i+1) (cs++ci) (L++Li)→WL P n ops Q rest ρ w'):WL P n ops Q (o :: rest) ρ w:=by
 have hi:i < x.length:=(List.getElem?_eq_some_iff.1 hxi).1
 have hl:=Rep.len (Sep.own_rd how)
 have hcs:=h.2.2.1.rd.len
 rw [List.length_take,Nat.min_eq_left (by omega)] at hcs
 refine WL.st hg hd ho hk hx hy hv hl (Rep.one (Sep.own_rd how)) h.2.1 ?_ fun w' hc hb=>hQ w' hc (h.step hxi how hN hf hz hc hb)
 rw [List.length_append,hcs,q7P,hz]
 have:x.length - i=(x.length - i - 1)+1:=by omega
 rw [this,Nat.add_mul]
 omega
end
theorem New.int {w:World}{x:Int}(h:I64 x):own [] w x [.int .i64 x]:=⟨rfl,rfl,h⟩
theorem New.str {w:World}{x:ByteArray}(h:x.size≤9223372036854775807):own [] w x [.string x]:=⟨rfl,rfl,h⟩
theorem New.bool {w:World}{x:Bool}:own [] w x [.bool x]:=⟨rfl,rfl⟩
theorem New.slice {α:Type} [Sep α]{L:List Nat}{w:World}{x:List α}{v:Value}(h:ownS L w x v):own L w x [v]:=⟨v,rfl,h⟩
end Go.E
namespace Go.E
theorem q9Y {L M:List Nat}(hL:L.Nodup)(hM:M.Nodup){k:Nat}(h1:∀ q∈L,q < k)(h2:∀ q∈M,k≤q):(L++M).Nodup:=
 List.nodup_append.2 ⟨hL,hM,fun a ha c hc e=>by subst e; have:=h1 _ ha; have:=h2 _ hc; omega⟩
end Go.E
namespace Go.E
theorem all0:∀ u∈([]:List Value),u.oneCell'=true:=by simp
theorem all1 {v:Value}{l:List Value}(h:v.oneCell'=true)(hl:∀ u∈l,u.oneCell'=true):∀ u∈v :: l,u.oneCell'=true:=by
 intro u hu
 rcases List.mem_cons.1 hu with rfl | hu
 ·exact h
 ·exact hl u hu
end Go.E
namespace Go.E
open Go
open Rep (rd)
open Sep (own)
end Go.E
namespace Go.E
open Go
section
variable {P:Program}{n:Nat}{Q:Post}{ρ:Env}{w:World}{ops:Array Oper}{o:Oper}{rest:List Oper}{C:World→Prop}{F:Env→Prop}
def stepsS (P:Program)(n:Nat)(ops:Array Oper)(h:Nat)(D:Nat→List Nat)(Ψ:Nat→(Nat→Prop)→List Value→World→Prop)(ρ:Env)(w:World):Nat→List Oper→Prop
 | _,[]=>True
 | i,o :: l=>(∀ ρ' w' (S:Nat→Nat→Prop),Ext w w'→(∀ t,(∀ j,j < h→dstOf ops j≠some t)→ρ' t=ρ t)→(∀ j,(q0g o).contains j=true→Ψ j (S j) ((D j).map ρ') w') →
   OpW P n ops o ρ' w' (fun v w''=>Ext w' w''∧Ψ i (fun q=>w'.heap.size≤q∧q < w''.heap.size) ((D i).map (E.put ρ' o.dst v)) w''))∧stepsS P n ops h D Ψ ρ w (i+1) l
theorem stepsS.get {h:Nat}{D:Nat→List Nat}{Ψ:Nat→(Nat→Prop)→List Value→World→Prop}:∀ (l:List Oper)(k i:Nat)(o:Oper),stepsS P n ops h D Ψ ρ w k l→l[i]? = some o →
  (∀ ρ' w' (S:Nat→Nat→Prop),Ext w w'→(∀ t,(∀ j,j < h→dstOf ops j≠some t)→ρ' t=ρ t)→(∀ j,(q0g o).contains j=true→Ψ j (S j) ((D j).map ρ') w') →
   OpW P n ops o ρ' w' (fun v w''=>Ext w' w''∧Ψ (k+i) (fun q=>w'.heap.size≤q∧q < w''.heap.size) ((D (k+i)).map (E.put ρ' o.dst v)) w''))
 | [],_,_,_,_,hh=>by simp at hh
 | x :: l,k,0,o,hs,hh=>by simp at hh; subst hh; exact hs.1
 | x :: l,k,i+1,o,hs,hh=>by
  have:=stepsS.get l (k+1) i o hs.2 (by simpa using hh)
  rwa [Nat.add_right_comm] at this
structure LooseS (n:Nat) (ops:Array Oper) (h:Nat) (D:Nat→List Nat) (Ψ:Nat→(Nat→Prop)→List Value→World→Prop) (S:Nat→Nat→Prop) (ρ0:Env) (w0:World) (listed:Array Bool) (ρ:Env) (w:World):Prop where
 head:HeadInv .any ops h listed
 ext:Ext w0 w
 out:∀ t,(∀ j,j < h→dstOf ops j≠some t)→ρ t=ρ0 t
 apart:∀ i j q,i < h→j < h→listed.getD i false=true→listed.getD j false=true→S i q→S j q→i=j
 bound:∀ i q,i < h→listed.getD i false=true→S i q→w0.heap.size≤q∧q < w.heap.size
 known:∀ j,j < h→listed.getD j false=true→Ψ j (S j) ((D j).map ρ) w
section loose
variable {h:Nat}{D:Nat→List Nat}
theorem CW.looseS {id:Nat}(h:Nat)(D:Nat→List Nat)(Ψ:Nat→(Nat→Prop)→List Value→World→Prop)(hm:P.follows .mixedOrders=true)(hB:looseB ops h D=true)
  (hext:∀ i S vs w w',Ψ i S vs w→Ext w w'→Ψ i S vs w')
  (hstep:stepsS P n ops h D Ψ ρ w 0 (ops.toList.take h))
  (hend:∀ ρ' w' (S:Nat→Nat→Prop),Ext w w'→(∀ t,(∀ j,j < h→dstOf ops j≠some t)→ρ' t=ρ t)→(∀ i j q,i < h→j < h→S i q→S j q→i=j)→(∀ i q,i < h→S i q→w.heap.size≤q∧q < w'.heap.size)→(∀ j,j < h→Ψ j (S j) ((D j).map ρ') w')→WL P n ops Q (ops.toList.drop h) ρ' w'):CW P n (.region id ops true) Q ρ w:=by
 intro hok a ha
 have hok' : ops.toList.all (okOper n)=true:=by simpa [okCode] using hok
 refine wp_region_any hm ?_
 have hB':=hB
 simp only [looseB,Bool.and_eq_true] at hB'
 have hle:h≤ops.size:=by simpa using hB'.1.1.1
 have hseq:=hB'.2
 -- when the head is through
 have done:∀ (S:Nat→Nat→Prop) (listed:Array Bool) (ρ' : Env) (a:Act) (w' : World),LooseS n ops h D Ψ S ρ w listed ρ' w'→Rel n ρ' a→(∀ j,j < h→listed.getD j false=true)→wpAny P .any ops (lift n Q) (ops.size - h) listed a w':=by
  intro S listed ρ' a w' inv hr hall
  have hlisted:listed=Array.replicate h true++Array.replicate (ops.size - h) false:=by
   apply Array.ext
   ·simp [inv.head.size]; omega
   ·intro i h1 h2
    by_cases hi:i < h
    ·have:=hall i hi
     simp [h1] at this
     rw [this,Array.getElem_append_left (by simpa using hi)]
     simp
    ·have:=inv.head.tail i (by omega) (by rw [← inv.head.size]; exact h1)
     simp [h1] at this
     rw [this,Array.getElem_append_right (by simpa using Nat.le_of_not_lt hi)]
     simp
  subst hlisted
  have hw:=hend ρ' w' S inv.ext inv.out (fun i j q hi hj=>inv.apart i j q hi hj (hall i hi) (hall j hj)) (fun i q hi=>inv.bound i q hi (hall i hi)) (fun j hj=>inv.known j hj (hall j hj)) (by
   refine List.all_eq_true.2 fun o ho=>List.all_eq_true.1 hok' o (List.mem_of_mem_drop ho)) a hr
  have hlen:(ops.toList.drop h).length=ops.size - h:=by simp
  have:=wpAny_of_seq (P:=P) (md:=.any) (ops:=ops) (Q':=lift n Q) (ops.toList.drop h) h (Array.replicate h true++Array.replicate (ops.size - h) false) a w'
   (fun j=>by simp [List.getElem?_drop]) (by rw [hlen]; exact hseq) hw
  rwa [hlen] at this
 have main:∀ (c:Nat) (S:Nat→Nat→Prop) (listed:Array Bool) (ρ' : Env) (a:Act) (w' : World),((List.range h).filter (fun j=>!listed.getD j false)).length=c→LooseS n ops h D Ψ S ρ w listed ρ' w'→Rel n ρ' a →
   wpAny P .any ops (lift n Q) (c+(ops.size - h)) listed a w':=by
  intro c
  induction c with
  | zero=>
   intro S listed ρ' a w' hc inv hr
   rw [Nat.zero_add]
   refine done S listed ρ' a w' inv hr fun j hj=>?_
   have h0:(List.range h).filter (fun j=>!listed.getD j false)=[]:=List.eq_nil_of_length_eq_zero hc
   have:=List.filter_eq_nil_iff.1 h0 j (List.mem_range.2 hj)
   simpa using this
  | succ c ih=>
   intro S listed ρ' a w' hc inv hr
   have hex:∃ j,j < h∧listed.getD j true=false:=by
    have:((List.range h).filter (fun j=>!listed.getD j false))≠[]:=fun e=>by rw [e] at hc; simp at hc
    obtain⟨j,hj⟩:=List.exists_mem_of_ne_nil _ this
    rw [List.mem_filter,List.mem_range] at hj
    exact⟨j,hj.1,getD_in (by rw [inv.head.size]; omega) (by simpa using hj.2)⟩
   obtain⟨j0,hj0,hl0⟩:=hex
   obtain⟨i0,hi0,_⟩:=q4v hB inv.head.size j0 j0 (Nat.le_refl _) (by omega) hl0
   rw [show c+1+(ops.size - h)=(c+(ops.size - h))+1 by omega]
   refine⟨fun h0=>(by rw [h0] at hi0; cases hi0),fun i hi=>?_⟩
   have hih:i < h:=by
    rcases Nat.lt_or_ge i h with hlt | hge
    ·exact hlt
    ·exfalso
     obtain⟨_,oi,hoi,_⟩:=mem_ready.1 hi
     have hlt:i < ops.size:=(Array.getElem?_eq_some_iff.1 hoi).1
     have hsc:Region.sinkB .any ops h=true∧Region.chainB .any ops h=true:=by
      have h3:=hB'.1.2
      simp only [Bool.or_eq_true,Bool.and_eq_true] at h3
      rcases h3 with h3 | h3
      ·have:=Nat.eq_of_beq_eq_true h3; omega
      ·exact h3
     exact tail_waits hsc.1 hsc.2 (by omega) inv.head _ j0 rfl hj0 hl0 i hge hi
   obtain⟨hun,o,ho,hall⟩:=mem_ready.1 hi
   have hmem:o∈ops.toList:=by rw [Array.mem_toList_iff]; exact Array.mem_of_getElem? ho
   have hoko:okOper n o=true:=List.all_eq_true.1 hok' o hmem
   have hguards:q3u n ops=true:=by
    refine List.all_eq_true.2 fun o' ho'=>?_
    have:=List.all_eq_true.1 hok' o' ho'
    simp only [okOper,Bool.and_eq_true] at this
    exact this.1.1
   have hst:=stepsS.get (ops.toList.take h) 0 i o hstep (by rw [List.getElem?_take,if_pos hih]; simpa using ho) ρ' w' S inv.ext inv.out (fun j hj=>by
    have hjd:j∈q0g o:=by simpa using hj
    obtain⟨e,he,hb,rfl⟩:=q1T.1 hjd
    have:=q2l hB ho _ hjd
    exact inv.known _ (by omega) (hall e he hb))
   rw [Nat.zero_add] at hst
   -- what holds when it has been carried out
   have next:∀ v w'',(Ext w' w''∧Ψ i (fun q=>w'.heap.size≤q∧q < w''.heap.size) ((D i).map (E.put ρ' o.dst v)) w'')→wpAny P .any ops (lift n Q) (c+(ops.size - h)) (listed.setIfInBounds i true) (a.put o.dst v) w'':=by
    intro v w'' ⟨hx,hΨ⟩
    have hi_size:i < listed.size:=by rw [inv.head.size]; omega
    have hi_un:listed.getD i false=false:=getD_both hun
    refine ih (fun j=>if j=i then (fun q=>w'.heap.size≤q∧q < w''.heap.size) else S j) _ (E.put ρ' o.dst v) _ _ ?_ ⟨inv.head.set hi hih,inv.ext.trans hx,fun t ht=>?_,fun j1 j2 q h1 h2 hl1 hl2 hs1 hs2=>?_,fun j q h1 hl1 hs=>?_,fun j hj hl=>?_⟩ (hr.put _ _)
    ·have hcount:∀ (l:List Nat),l.Nodup→i∈l→(l.filter (fun j=>!listed.getD j false)).length=(l.filter (fun j=>!(listed.setIfInBounds i true).getD j false)).length+1:=by
      intro l
      induction l with
      | nil=>intro _ h; cases h
      | cons x l ihl=>
       intro hnd hmem
       rw [List.nodup_cons] at hnd
       by_cases hx:x=i
       ·subst hx
        have hsame:l.filter (fun j=>!listed.getD j false)=l.filter (fun j=>!(listed.setIfInBounds x true).getD j false):=
         List.filter_congr fun y hy=>by
          have hne:x≠y:=fun e=>hnd.1 (by rw [e]; exact hy)
          rw [getD_set_ne false hne]
        have hset:(listed.setIfInBounds x true).getD x false=true:=by simp [hi_size]
        rw [List.filter_cons,List.filter_cons,if_pos (by rw [hi_un]; rfl),if_neg (by rw [hset]; decide),hsame,List.length_cons]
       ·have hmem' : i∈l:=by rcases List.mem_cons.1 hmem with h | h; exact absurd h.symm hx; exact h
        have:=ihl hnd.2 hmem'
        rw [List.filter_cons,List.filter_cons,getD_set_ne false (Ne.symm hx)]
        split
        ·rw [List.length_cons,List.length_cons,this]
        ·exact this
     have:=hcount (List.range h) List.nodup_range (List.mem_range.2 hih)
     omega
    ·cases hd:o.dst with
     | none=>exact inv.out t ht
     | some d=>
      have hne:t≠d:=fun e=>ht i hih (by unfold dstOf; rw [ho]; simp [hd,e])
      show upd ρ' d v t=ρ t
      rw [q0E _ _ hne]
      exact inv.out t ht
    ·by_cases h3:j1=i
     ·by_cases h4:j2=i
      ·rw [h3,h4]
      ·rw [if_pos h3] at hs1
       rw [if_neg h4] at hs2
       rw [getD_set_ne false (Ne.symm h4)] at hl2
       have:=inv.bound j2 q h2 hl2 hs2
       omega
     ·rw [if_neg h3] at hs1
      rw [getD_set_ne false (Ne.symm h3)] at hl1
      by_cases h4:j2=i
      ·rw [if_pos h4] at hs2
       have:=inv.bound j1 q h1 hl1 hs1
       omega
      ·rw [if_neg h4] at hs2
       rw [getD_set_ne false (Ne.symm h4)] at hl2
       exact inv.apart j1 j2 q h1 h2 hl1 hl2 hs1 hs2
    ·have hsz:=hx.size
     by_cases h3:j=i
     ·rw [if_pos h3] at hs
      exact⟨Nat.le_trans inv.ext.size hs.1,hs.2⟩
     ·rw [if_neg h3] at hs
      rw [getD_set_ne false (Ne.symm h3)] at hl1
      have:=inv.bound j q h1 hl1 hs
      omega
    ·by_cases hji:j=i
     ·subst hji; simp only [if_true]; exact hΨ
     ·rw [getD_set_ne false (Ne.symm hji)] at hl
      simp only [if_neg hji]
      have hkn:=hext j _ _ _ _ (inv.known j hj hl) hx
      obtain⟨oj,hoj⟩:∃ oj,ops[j]? = some oj:=⟨ops[j]'(by omega),by rw [Array.getElem?_eq_getElem (by omega)]⟩
      have hnot:∀ t,o.dst=some t→t ∉ D j:=fun t ht hmemt=>by
       have hdi:dstOf ops i=some t:=by unfold dstOf; rw [ho]; exact ht
       have h5:=(q3F hB hoj hdi (Ne.symm hji)).1 hmemt
       obtain⟨e,he,hb,hon⟩:=q1T.1 h5
       have:=inv.head.closed j oj hoj hl e he hb
       rw [hon,hi_un] at this
       cases this
      rw [q6l hnot]
      exact hkn
   unfold wpOp
   simp only [ho]
   rw [q4m hguards hr]
   rcases hst with ⟨hg,hop⟩ | ⟨hg,hR⟩
   ·rw [if_pos hg]
    exact .inl (hop a _ _ hr hoko next)
   ·rw [if_neg (by rw [hg]; decide)]
    exact next undef w' hR
 have h0:LooseS n ops h D Ψ (fun _ _=>False) ρ w (Array.replicate ops.size false) ρ { w with drawn:=w.drawn+1 }:=by
  refine⟨⟨by simp,fun j oj _ hl=>?_,fun t _ ht=>by simp [ht]⟩,Ext.drawn w _,fun _ _=>rfl,fun _ _ _ _ _ _ _ h1=>h1.elim,fun _ _ _ _ h1=>h1.elim,fun j _ hl=>?_⟩
  ·rw [getD_replicate_false] at hl; cases hl
  ·rw [getD_replicate_false] at hl; cases hl
 have hc0:((List.range h).filter (fun j=>!(Array.replicate ops.size false).getD j false)).length=h:=by
  rw [List.filter_eq_self.2 (fun j _=>by rw [getD_replicate_false]; rfl)]
  simp
 have:=main h _ _ ρ a _ hc0 h0 ha
 rwa [show h+(ops.size - h)=ops.size by omega] at this
def uponR (P:Program)(R:Value→World→Prop):Result Next→Prop
 | .ok (.value u) w'=>R u w'
 | .ok .skip w'=>R undef w'
 | .ok (.enter f args) w'=>Calls P f args w' (fun e w''=>∃ v,e = .returned v∧R v w'')
 | _=>False
def OpX (P:Program)(ops:Array Oper)(o:Oper)(ρ:Env)(w:World)(R:Value→World→Prop):Prop:=
 (gate ops ρ o=true∧uponR P R ((execOp (E.ev ρ) o).run P w))∨(gate ops ρ o=false∧R undef w)
theorem OpX.ev {R:Value→World→Prop}{v:Value}(hg:o.guard=none)(he:Ev P ρ o w v)(h:R v w):OpX P ops o ρ w R:=
 .inl ⟨by simp [gate,hg],by rw [he]; exact h⟩
theorem OpX.call {c:Call}{f:FuncId}{x:Operand}{caps:Array Value}{args:List Value}{M:Nat→Prop}{R R' : Value→World→Prop}(hg:o.guard=none)(ho:o.op = .call c)(hx:c.callee = .value x)(hf:E.ev ρ x = .func (.func f) #[] caps)
  (hc:q0a P f=true) (ha:c.args.toList.map (E.ev ρ)++caps.toList=args) (hr:Ret P f args.toArray w M R) (h:∀ v w',Chg M w w'→R v w'→R' v w'):OpX P ops o ρ w R':=by
 refine .inl ⟨by simp [gate,hg],?_⟩
 simp only [execOp,ho]
 rw [q9V hx hf hc ha]
 exact Calls.mono hr fun e w' ⟨v,he,hch,hv⟩=>⟨v,he,h v w' hch hv⟩
theorem OpX.mono {R R' : Value→World→Prop}(hx:OpX P ops o ρ w R)(h:∀ v w',R v w'→R' v w'):OpX P ops o ρ w R':=by
 rcases hx with ⟨hg,hx⟩ | ⟨hg,hx⟩
 ·refine .inl ⟨hg,?_⟩
  generalize (execOp (E.ev ρ) o).run P w=r at hx
  cases r with
  | ok x w'=>
   cases x<;>simp only [uponR] at hx ⊢
   case value u=>exact h _ _ hx
   case skip=>exact h _ _ hx
   case enter f args=>exact hx.mono fun e w'' ⟨v,h1,h2⟩=>⟨v,h1,h _ _ h2⟩
  | halt x w'=>simp only [uponR] at hx
 ·exact .inr ⟨hg,h _ _ hx⟩
theorem OpX.opW {R:Value→World→Prop}(h:OpX P ops o ρ w R):OpW P n ops o ρ w R:=by
 rcases h with ⟨hg,h⟩ | ⟨hg,h⟩
 ·refine .inl ⟨hg,fun a K Q' ha hok hK=>?_⟩
  unfold Oper.wp
  rw [q1m ha hok]
  generalize (execOp (E.ev ρ) o).run P w=r at h
  cases r with
  | ok x w'=>
   cases x<;>simp only [uponR] at h<;>simp only [Oper.upon]
   case value u=>exact hK _ _ h
   case skip=>exact hK _ _ h
   case enter f args=>exact h.mono fun e w'' ⟨v,he,hr⟩=>by subst he; exact hK _ _ hr
  | halt x w'=>simp only [uponR] at h
 ·exact .inr ⟨hg,h⟩
theorem OpX.congr {ρ' : Env}{R:Value→World→Prop}(hs:okOper n o=true)(h:∀ t∈o.looksAt ops,ρ' t=ρ t)(hx:OpX P ops o ρ w R):OpX P ops o ρ' w R:=by
 unfold OpX at *
 rw [z3v h,z3w hs h]
 exact hx
abbrev Kn:=Value ⊕ ((Nat→Prop)→Value→World→Prop)
def Kn.at (k:Option Kn)(S:Nat→Prop)(v:Value)(w:World):Prop:=match k with
 | some (.inl u)=>v=u
 | some (.inr φ)=>φ S v w
 | none=>True
def Kn.mono (k:Kn):Prop:=match k with
 | .inl _=>True
 | .inr φ=>∀ S v w w',φ S v w→Ext w w'→φ S v w'
def Kn.monos:List Kn→Prop
 | []=>True
 | k :: l=>k.mono∧Kn.monos l
theorem Kn.monos.get:∀ {l:List Kn}{i:Nat}{k:Kn},Kn.monos l→l[i]? = some k→k.mono
 | _ :: _,0,_,h,hi=>by simp at hi; subst hi; exact h.1
 | _ :: _,i+1,_,h,hi=>Kn.monos.get h.2 (by simpa using hi)
def LL (P:Program)(n:Nat)(Q:Post)(ops:Array Oper)(h:Nat)(ks:List Kn)(w:World):Nat→List Oper→Env→(Nat→World→Prop)→(Nat→Nat→Prop)→Prop
 | _,[],ρ,K,G=>∀ w',Ext w w'→(∀ j,j < h→K j w')→(∀ i j q,G i q→G j q→i=j)→(∀ i q,G i q→w.heap.size≤q∧q < w'.heap.size)→WL P n ops Q (ops.toList.drop h) ρ w'
 | i,o :: l,ρ,K,G=>
  (∃ u,ks[i]? = some (.inl u)∧(∀ w',Ext w w'→(∀ j,(q0g o).contains j=true→K j w')→OpX P ops o ρ w' (fun v w''=>Ext w' w''∧v=u))∧LL P n Q ops h ks w (i+1) l (E.put ρ o.dst u) K G) ∨
  (∃ φ,ks[i]? = some (.inr φ)∧(∀ w',Ext w w'→(∀ j,(q0g o).contains j=true→K j w')→OpX P ops o ρ w' (fun v w''=>Ext w' w''∧φ (fun q=>w'.heap.size≤q∧q < w''.heap.size) v w'')) ∧
   ∀ v S,LL P n Q ops h ks w (i+1) l (E.put ρ o.dst v) (fun j w'=>if j=i then φ S v w' else K j w') (fun j q=>if j=i then S q else G j q))
theorem LL.step {ks:List Kn}{k:Nat}{o:Oper}{ρ' : Env}{w' : World}{S:Nat→Nat→Prop}(hw:Ext w w')(ho:ops[k]? = some o)(hk:k < h)(hoko:okOper n o=true)
  (hlook:∀ t∈o.looksAt ops,∀ j,j < h→dstOf ops j=some t→(q0g o).contains j=true)
  (hback:∀ j,(q0g o).contains j=true→j < k)
  (hdst:∀ j,j < h→∃ d,dstOf ops j=some d) (hdist:∀ i j,i≠j→i < h→j < h→∀ t,dstOf ops i=some t→dstOf ops j≠some t)
  (hknow:∀ j t,(q0g o).contains j=true→dstOf ops j=some t→Kn.at ks[j]? (S j) (ρ' t) w') :
  ∀ (l:List Oper) (i:Nat) (ρ:Env) (K:Nat→World→Prop) (G:Nat→Nat→Prop),LL P n Q ops h ks w i l ρ K G→(∀ j,l[j]? = if j < l.length then ops[i+j]? else none)→i+l.length=h→i≤k →
   (∀ t,(∀ j,j < h→dstOf ops j≠some t)→ρ t=ρ' t)→(∀ j t,j < i→(q0g o).contains j=true→dstOf ops j=some t→ρ t=ρ' t)→(∀ j,(q0g o).contains j=true∨i≤j→K j w') →
   OpX P ops o ρ' w' (fun v w''=>Ext w' w''∧Kn.at ks[k]? (fun q=>w'.heap.size≤q∧q < w''.heap.size) v w'')
 | [],i,ρ,K,G,_,_,hlen,hik,_,_,_=>by simp at hlen; omega
 | o' :: l,i,ρ,K,G,hL,hl,hlen,hik,hout,hdir,hK=>by
  simp only [List.length_cons] at hlen
  have ho' : ops[i]? = some o':=by have:=hl 0; simpa using this.symm
  have hl' : ∀ j,l[j]? = if j < l.length then ops[i+1+j]? else none:=fun j=>by
   have:=hl (j+1)
   simp only [List.getElem?_cons_succ,List.length_cons] at this
   rw [this]
   by_cases hj:j < l.length
   ·rw [if_pos (by omega),if_pos hj]; congr 1; omega
   ·rw [if_neg (by omega),if_neg hj]
  obtain⟨d,hd⟩:=hdst i (by omega)
  have hod:o'.dst=some d:=by unfold dstOf at hd; rw [ho'] at hd; exact hd
  by_cases hki:k=i
  ·subst hki
   obtain rfl:o'=o:=Option.some.inj (ho'.symm.trans ho)
   have hsame:∀ t∈o'.looksAt ops,ρ' t=ρ t:=fun t ht=>by
    by_cases hin:∃ j,j < h∧dstOf ops j=some t
    ·obtain⟨j,hj,hdj⟩:=hin
     have hc:=hlook t ht j hj hdj
     exact (hdir j t (hback j hc) hc hdj).symm
    ·exact (hout t fun j hj hd=>hin ⟨j,hj,hd⟩).symm
   have hKd:∀ j,(q0g o').contains j=true→K j w':=fun j hj=>hK j (.inl hj)
   rcases hL with ⟨u,hu,hs,_⟩ | ⟨φ,hφ,hs,_⟩
   ·refine (OpX.congr hoko hsame (hs w' hw hKd)).mono fun v w'' hv=>⟨hv.1,?_⟩
    rw [hu]; exact hv.2
   ·refine (OpX.congr hoko hsame (hs w' hw hKd)).mono fun v w'' hv=>⟨hv.1,?_⟩
    rw [hφ]; exact hv.2
  ·have hne:∀ t,(∀ j,j < h→dstOf ops j≠some t)→t≠d:=fun t ht e=>ht i (by omega) (by rw [e]; exact hd)
   rcases hL with ⟨u,hu,_,hr⟩ | ⟨φ,hφ,_,hr⟩
   ·refine LL.step hw ho hk hoko hlook hback hdst hdist hknow l (i+1) _ _ _ hr hl' (by omega) (by omega) (fun t ht=>?_) (fun j t hj hc hdj=>?_) (fun j hj=>?_)
    ·rw [hod]; exact (q0E _ _ (hne t ht)).trans (hout t ht)
    ·rw [hod]
     by_cases hji:j=i
     ·subst hji
      obtain rfl:d=t:=Option.some.inj (hd.symm.trans hdj)
      show upd ρ d u d=_
      rw [q2I]
      have:=hknow j d hc hdj
      rw [hu] at this
      exact this.symm
     ·have hjl:j < k:=hback j hc
      have:t≠d:=fun e=>hdist j i hji (by omega) (by omega) t hdj (by rw [e]; exact hd)
      exact (q0E _ _ this).trans (hdir j t (by omega) hc hdj)
    ·exact hK j (hj.imp id fun h=>by omega)
   ·refine LL.step hw ho hk hoko hlook hback hdst hdist hknow l (i+1) _ _ _ (hr (ρ' d) (S i)) hl' (by omega) (by omega) (fun t ht=>?_) (fun j t hj hc hdj=>?_) (fun j hj=>?_)
    ·rw [hod]; exact (q0E _ _ (hne t ht)).trans (hout t ht)
    ·rw [hod]
     by_cases hji:j=i
     ·subst hji
      obtain rfl:d=t:=Option.some.inj (hd.symm.trans hdj)
      exact q2I _ _ _
     ·have:t≠d:=fun e=>hdist j i hji (by have:=hback j hc; omega) (by omega) t hdj (by rw [e]; exact hd)
      exact (q0E _ _ this).trans (hdir j t (by omega) hc hdj)
    ·by_cases hji:j=i
     ·subst hji
      simp only [if_true]
      have hj' : (q0g o).contains j=true:=hj.resolve_right (by omega)
      have:=hknow j d hj' hd
      rw [hφ] at this
      exact this
     ·simp only [if_neg hji]
      exact hK j (hj.imp id fun h=>by omega)
theorem LL.last {ks:List Kn}{ρ' : Env}{w' : World}{S:Nat→Nat→Prop}(hw:Ext w w')
  (hdst:∀ j,j < h→∃ d,dstOf ops j=some d) (hdist:∀ i j,i≠j→i < h→j < h→∀ t,dstOf ops i=some t→dstOf ops j≠some t)
  (hap:∀ i j q,i < h→j < h→S i q→S j q→i=j) (hbd:∀ i q,i < h→S i q→w.heap.size≤q∧q < w'.heap.size)
  (hknow:∀ j t,j < h→dstOf ops j=some t→Kn.at ks[j]? (S j) (ρ' t) w') :
  ∀ (l:List Oper) (i:Nat) (ρ:Env) (K:Nat→World→Prop) (G:Nat→Nat→Prop),LL P n Q ops h ks w i l ρ K G→(∀ j,l[j]? = if j < l.length then ops[i+j]? else none)→i+l.length=h →
   (∀ t,(∀ j,j < h→dstOf ops j≠some t)→ρ t=ρ' t)→(∀ j t,j < i→dstOf ops j=some t→ρ t=ρ' t)→(∀ j,K j w')→(∀ j q,G j q→j < h∧S j q) →
   WL P n ops Q (ops.toList.drop h) ρ' w'
 | [],i,ρ,K,G,hL,_,hlen,hout,hdir,hK,hG=>by
  simp only [List.length_nil,Nat.add_zero] at hlen
  subst hlen
  have:ρ=ρ':=by
   funext t
   by_cases hin:∃ j,j < i∧dstOf ops j=some t
   ·obtain⟨j,hj,hdj⟩:=hin
    exact hdir j t hj hdj
   ·exact hout t fun j hj hd=>hin ⟨j,hj,hd⟩
  subst this
  exact hL w' hw (fun j _=>hK j) (fun a b q ha hb=>hap a b q (hG a q ha).1 (hG b q hb).1 (hG a q ha).2 (hG b q hb).2) (fun a q ha=>hbd a q (hG a q ha).1 (hG a q ha).2)
 | o' :: l,i,ρ,K,G,hL,hl,hlen,hout,hdir,hK,hG=>by
  simp only [List.length_cons] at hlen
  have ho' : ops[i]? = some o':=by have:=hl 0; simpa using this.symm
  have hl' : ∀ j,l[j]? = if j < l.length then ops[i+1+j]? else none:=fun j=>by
   have:=hl (j+1)
   simp only [List.getElem?_cons_succ,List.length_cons] at this
   rw [this]
   by_cases hj:j < l.length
   ·rw [if_pos (by omega),if_pos hj]; congr 1; omega
   ·rw [if_neg (by omega),if_neg hj]
  obtain⟨d,hd⟩:=hdst i (by omega)
  have hod:o'.dst=some d:=by unfold dstOf at hd; rw [ho'] at hd; exact hd
  have hne:∀ t,(∀ j,j < h→dstOf ops j≠some t)→t≠d:=fun t ht e=>ht i (by omega) (by rw [e]; exact hd)
  have hkn:=hknow i d (by omega) hd
  rcases hL with ⟨u,hu,_,hr⟩ | ⟨φ,hφ,_,hr⟩
  ·rw [hu] at hkn
   refine LL.last hw hdst hdist hap hbd hknow l (i+1) _ _ _ hr hl' (by omega) (fun t ht=>?_) (fun j t hj hdj=>?_) hK hG
   ·rw [hod]; exact (q0E _ _ (hne t ht)).trans (hout t ht)
   ·rw [hod]
    by_cases hji:j=i
    ·subst hji
     obtain rfl:d=t:=Option.some.inj (hd.symm.trans hdj)
     show upd ρ d u d=_
     rw [q2I]
     exact hkn.symm
    ·have:t≠d:=fun e=>hdist j i hji (by omega) (by omega) t hdj (by rw [e]; exact hd)
     exact (q0E _ _ this).trans (hdir j t (by omega) hdj)
  ·rw [hφ] at hkn
   refine LL.last hw hdst hdist hap hbd hknow l (i+1) _ _ _ (hr (ρ' d) (S i)) hl' (by omega) (fun t ht=>?_) (fun j t hj hdj=>?_) (fun j=>?_) (fun j q=>?_)
   ·rw [hod]; exact (q0E _ _ (hne t ht)).trans (hout t ht)
   ·rw [hod]
    by_cases hji:j=i
    ·subst hji
     obtain rfl:d=t:=Option.some.inj (hd.symm.trans hdj)
     exact q2I _ _ _
    ·have:t≠d:=fun e=>hdist j i hji (by omega) (by omega) t hdj (by rw [e]; exact hd)
     exact (q0E _ _ this).trans (hdir j t (by omega) hdj)
   ·by_cases hji:j=i
    ·subst hji; simp only [if_true]; exact hkn
    ·simp only [if_neg hji]; exact hK j
   ·by_cases hji:j=i
    ·subst hji; simp only [if_true]; exact fun hs=>⟨by omega,hs⟩
    ·simp only [if_neg hji]; exact hG j q
def allDst (ops:Array Oper)(h:Nat):Bool:=(List.range h).all fun j=>(dstOf ops j).isSome
theorem CW.any {id:Nat}(h:Nat)(ks:List Kn)(hm:P.follows .mixedOrders=true)(hB:(looseB ops h (ownD ops)&&looksB ops h&&allDst ops h)=true)(hmono:Kn.monos ks)
  (hq:LL P n Q ops h ks w 0 (ops.toList.take h) ρ (fun _ _=>True) (fun _ _=>False)):CW P n (.region id ops true) Q ρ w:=by
 simp only [Bool.and_eq_true] at hB
 obtain⟨⟨hB1,hB2⟩,hB3⟩:=hB
 have hle:h≤ops.size:=by
  have:=hB1
  simp only [looseB,Bool.and_eq_true] at this
  simpa using this.1.1.1
 have hlen:(ops.toList.take h).length=h:=by simp; omega
 have hdist:∀ i j,i≠j→i < h→j < h→∀ t,dstOf ops i=some t→dstOf ops j≠some t:=fun i j hij hi hj t hit hjt=>by
  have hoj:ops[j]? = some (ops[j]'(by omega)):=Array.getElem?_eq_getElem _
  have:=(q3F hB1 hoj hit hij).2
  unfold dstOf at hjt
  rw [hoj] at hjt
  exact this hjt
 have hdst:∀ j,j < h→∃ d,dstOf ops j=some d:=fun j hj=>by
  have:=List.all_eq_true.1 hB3 j (List.mem_range.2 hj)
  exact Option.isSome_iff_exists.1 this
 have hget:∀ j,(ops.toList.take h)[j]? = if j < (ops.toList.take h).length then ops[0+j]? else none:=fun j=>by
  rw [hlen,List.getElem?_take,Nat.zero_add]
  split
  ·simp
  ·rfl
 intro hok
 have hok' : ops.toList.all (okOper n)=true:=by simpa [okCode] using hok
 refine CW.looseS h (ownD ops) (fun i S l w=>∀ v,l=[v]→Kn.at ks[i]? S v w) hm hB1 ?_ ?_ ?_ hok
 ·intro i S vs w1 w2 h1 hx v hv
  have:=h1 v hv
  unfold Kn.at at *
  cases hk:ks[i]? with
  | none=>trivial
  | some k=>
   rw [hk] at this
   have hm1:=hmono.get hk
   cases k with
   | inl u=>exact this
   | inr φ=>exact hm1 _ _ _ _ this hx
 ·have main:∀ (l:List Oper) (k:Nat),(∀ j,j < l.length→l[j]? = ops[k+j]?)→k+l.length≤h →
    stepsS P n ops h (ownD ops) (fun i S l w=>∀ v,l=[v]→Kn.at ks[i]? S v w) ρ w k l:=by
   intro l
   induction l with
   | nil=>intro k _ _; trivial
   | cons o l ih=>
    intro k hl hk
    have ho:ops[k]? = some o:=by have:=hl 0 (by simp); simpa using this.symm
    simp only [List.length_cons] at hk
    refine⟨fun ρ' w' S hw hout hp=>?_,ih (k+1) (fun j hj=>by have:=hl (j+1) (by simp; omega); simp only [List.getElem?_cons_succ] at this; rw [this]; congr 1; omega) (by omega)⟩
    have hoko:okOper n o=true:=List.all_eq_true.1 hok' o (by rw [Array.mem_toList_iff]; exact Array.mem_of_getElem? ho)
    have hres:=LL.step (S:=S) hw ho (by omega) hoko (fun t ht j hj hdj=>by
      have h6:=List.all_eq_true.1 hB2 k (List.mem_range.2 (by omega))
      simp only [ho] at h6
      have h7:=List.all_eq_true.1 (List.all_eq_true.1 h6 t ht) j (List.mem_range.2 hj)
      simp only [hdj,Bool.or_eq_true,Bool.not_eq_true'] at h7
      rcases h7 with h7 | h7
      ·have:Nat.beq t t=true:=Nat.beq_refl t
       rw [this] at h7; cases h7
      ·exact h7) (fun j hj=>q2l hB1 ho j (by simpa using hj)) hdst hdist (ρ':=ρ') (fun j t hj hdj=>hp j hj _ (by simp [ownD,hdj])) _ 0 ρ _ _ hq hget (by rw [hlen]; omega) (Nat.zero_le _)
      (fun t ht=>(hout t ht).symm) (fun _ _ h0=>absurd h0 (Nat.not_lt_zero _)) (fun _ _=>trivial)
    refine OpX.opW (hres.mono fun v w'' hv=>⟨hv.1,fun v' hv'=>?_⟩)
    obtain⟨d,hd⟩:=hdst k (by omega)
    have hod:o.dst=some d:=by unfold dstOf at hd; rw [ho] at hd; exact hd
    simp only [ownD,hd,Option.toList_some,List.map_cons,List.map_nil,hod,E.put,q2I,List.cons.injEq,and_true] at hv'
    rw [← hv']; exact hv.2
  exact main _ 0 (fun j hj=>by rw [hlen] at hj; rw [List.getElem?_take,if_pos hj,Nat.zero_add]; simp) (by rw [hlen]; omega)
 ·intro ρ' w' S hw hout hap hbd hk
  exact LL.last hw hdst hdist hap hbd (fun j t hj hdj=>hk j hj _ (by simp [ownD,hdj])) _ 0 ρ _ _ hq hget (by rw [hlen]; omega) (fun t ht=>(hout t ht).symm) (fun _ _ h0=>absurd h0 (Nat.not_lt_zero _)) (fun _=>trivial) (fun _ _ h0=>h0.elim)
end loose
end
end Go.E
namespace Go.E
open Go
open Rep (rd)
open Sep (own)
section
variable {P:Program}{n h i d:Nat}{Q:Post}{ρ:Env}{w:World}{ops:Array Oper}{o:Oper}{l:List Oper}{ks:List Kn}{K:Nat→World→Prop}{G:Nat→Nat→Prop}
theorem LL.fx {u:Value}(hk:ks[i]? = some (.inl u))(hg:o.guard=none)(hd:o.dst=some d)(he:∀ w',Ext w w'→(∀ j,(q0g o).contains j=true→K j w')→Ev P ρ o w' u)
  (hr:LL P n Q ops h ks w (i+1) l (upd ρ d u) K G):LL P n Q ops h ks w i (o :: l) ρ K G:=
 .inl ⟨u,hk,fun w' hw hK=>OpX.ev hg (he w' hw hK) ⟨Ext.refl _,rfl⟩,by rw [hd]; exact hr⟩
theorem LL.fixed {u:Value}(hk:ks[i]? = some (.inl u))(hd:o.dst=some d)(he:∀ w',Ext w w'→(∀ j,(q0g o).contains j=true→K j w')→OpX P ops o ρ w' (fun v w''=>Ext w' w''∧v=u))
  (hr:LL P n Q ops h ks w (i+1) l (upd ρ d u) K G):LL P n Q ops h ks w i (o :: l) ρ K G:=
 .inl ⟨u,hk,he,by rw [hd]; exact hr⟩
theorem LL.free {φ:(Nat→Prop)→Value→World→Prop}(hk:ks[i]? = some (.inr φ))(hd:o.dst=some d)(he:∀ w',Ext w w'→(∀ j,(q0g o).contains j=true→K j w')→OpX P ops o ρ w' (fun v w''=>Ext w' w''∧φ (fun q=>w'.heap.size≤q∧q < w''.heap.size) v w''))
  (hr:∀ v S,LL P n Q ops h ks w (i+1) l (upd ρ d v) (fun j w'=>if j=i then φ S v w' else K j w') (fun j q=>if j=i then S q else G j q)):LL P n Q ops h ks w i (o :: l) ρ K G:=
 .inr ⟨φ,hk,he,fun v S=>by rw [hd]; exact hr v S⟩
theorem OpX.alloc {T:TypeId}{z:List Value}(hg:o.guard=none)(ho:o.op = .alloc T)(hz:zeroT P T=some z):OpX P ops o ρ w (fun v w'=>Ext w w'∧∃ b,v = .pointer (some ⟨b,0,none⟩)∧(w.heap.size≤b∧b < w'.heap.size)∧Blk w' b T z):=by
 obtain⟨z',hz',hc⟩:=q3I (w:=w) hz
 refine .inl ⟨by simp [gate,hg],?_⟩
 simp only [execOp,ho,Instr.alloc,newVar,hz',hc,Sem.run_bind,q5h,Result.andThen_ok,Sem.run_pure]
 refine⟨Ext.alloc _ _,_,rfl,⟨Nat.le_refl _,?_⟩,q4o _ _ _⟩
 exact (q4o _ _ _).lt
end
section
variable {P:Program}
theorem Bin.lssNo {T:TypeId}{k:IntKind}{a b:Int}(h:¬ a < b)(hb:Bin P .lss T (.int k a) (.int k b) (.bool (decide (a < b)))):Bin P .lss T (.int k a) (.int k b) (.bool false):=by
 rwa [decide_eq_false h] at hb
theorem Ret.yes {f:FuncId}{args:Array Value}{w:World}{M:Nat→Prop}{p:Prop} [Decidable p](h:Ret P f args w M fun v _=>v = .bool (decide p))(hp:p):Ret P f args w M fun v _=>v = .bool true:=
 h.mono fun v w' _ e=>by rw [e,decide_eq_true hp]
end
section
variable {α:Type} [Sep α]{w w' : World}{x:α}{xs:List α}{cs:List Value}{v:Value}
theorem New.rd (h:New w w' x cs):rd (fun q=>w.heap.size≤q∧q < w'.heap.size) w' x cs:=by
 obtain⟨L,h1,_,h3⟩:=h
 exact Rep.mono (Sep.own_rd h1) fun q hq=>⟨h3 q hq,Sep.own_lt h1 q hq⟩
theorem NewS.rd (h:NewS w w' xs v):rdS (fun q=>w.heap.size≤q∧q < w'.heap.size) w' xs v:=by
 obtain⟨L,h1,_,h3⟩:=h
 exact h1.rd.mono fun q hq=>⟨h3 q hq,h1.lt q hq⟩
end
end Go.E
namespace Go.E
open Go
open Rep (rd)
def Opens (P:Program)(T:TypeId)(α:Type) [Rep α]:Prop:=
 P.cellsOf T=Rep.sz α∧∀ (H:Type) (enc:TypeId × Value→H) (w:World) (base:Nat) (spare:Nat→Bool) (held:Bool) (fuel:Nat) (cs:List Value) (x:DataW H × List MemPlace),
  DataW.trod enc P w base spare held fuel T cs=some x→∃ a:α,rd (fun _=>True) w a cs
section
variable {P:Program}{T e:TypeId}{α:Type} [Rep α]
theorem Opens.int (hc:P.cellsOf T=1)(ht:P.underlying T=some (.int .i64)):Opens P T Int:=by
 refine⟨hc,fun H enc w base spare held fuel cs x h=>?_⟩
 obtain⟨n,rfl,_,hw⟩:=DataW.trod_int ht h
 exact⟨n,rfl,bounds_i64 hw⟩
theorem Opens.str (hc:P.cellsOf T=1)(ht:P.underlying T=some .string):Opens P T ByteArray:=by
 refine⟨hc,fun H enc w base spare held fuel cs x h=>?_⟩
 obtain⟨s,rfl,_,hw⟩:=DataW.trod_string ht h
 exact⟨s,rfl,hw⟩
theorem Opens.bool (hc:P.cellsOf T=1)(ht:P.underlying T=some .bool):Opens P T Bool:=by
 refine⟨hc,fun H enc w base spare held fuel cs x h=>?_⟩
 obtain⟨s,rfl,_⟩:=DataW.trod_bool ht h
 exact⟨s,rfl⟩
theorem At.ofCells {w:World}{base b o k:Nat}{cs:List Value}(h:w.cells? base ⟨b,o,none⟩ k=some cs):cs.length=k∧At w b o cs:=by
 obtain⟨_,hl,hat⟩:=World.cells?_some h
 refine⟨hl,fun j v hj=>?_⟩
 have hjk:j < k:=by rw [← hl]; exact (List.getElem?_eq_some_iff.1 hj).1
 have:=hat j hjk
 rw [hj] at this
 rw [← this]
 unfold Addr.add
 split
 ·next h0=>subst h0; rfl
 ·rfl
theorem Opens.slice (hc:P.cellsOf T=1)(ht:P.underlying T=some (.slice e))(he:Opens P e α):Opens P T (List α):=by
 refine⟨hc,fun H enc w base spare held fuel cs x h=>?_⟩
 rcases Go.Deep.open_slice ht h with ⟨rfl,_⟩ | ⟨a,len,cap,m,n,D,Pl,rfl,_,hl,hm,hmm,_,hi⟩
 ·exact⟨[],_,rfl,none,0,[],rfl,Nat.le_refl _,by decide,rfl,.inl rfl⟩
 have hlm:len≤m:=by rw [hmm]; split<;>omega
 obtain⟨b,o,sp⟩:=a
 have key:∀ k,k≤len→∃ (xs:List α) (cells:List Value),xs.length=k∧rdL (fun _=>True) w xs cells∧(k=0∨sp=none)∧∀ j v,cells[j]? = some v→w.cell? ⟨b,o+j,none⟩=some v:=by
  intro k
  induction k with
  | zero=>intro _; exact⟨[],[],rfl,rfl,.inl rfl,by simp⟩
  | succ k ih=>
   intro hk
   obtain⟨xs,cells,h1,h2,h3,h4⟩:=ih (by omega)
   obtain⟨cs',hcs,htr⟩:=hi k (by omega)
   obtain⟨y,hy⟩:=he.2 H enc w base spare held n cs' _ htr
   have hlen:=Rep.len hy
   have hp:=Rep.pos (α:=α)
   rw [he.1] at hcs
   have hsp:sp=none:=by
    rcases h3 with rfl | h3
    ·obtain⟨_,hl',hat⟩:=World.cells?_some hcs
     have h0:=hat 0 hp
     rw [List.getElem?_eq_getElem (by omega)] at h0
     simp only [Nat.zero_mul,Addr.add,if_true] at h0
     cases sp with
     | none=>rfl
     | some f=>
      exfalso
      unfold World.cell? at h0
      split at h0
      ·simp at h0
      ·cases h0
    ·exact h3
   subst hsp
   have hadd:Addr.add ⟨b,o,none⟩ (k*Rep.sz α)=⟨b,o+k*Rep.sz α,none⟩:=by
    unfold Addr.add; split
    ·next h0=>rw [h0]; rfl
    ·rfl
   rw [hadd] at hcs
   obtain⟨_,hat⟩:=At.ofCells hcs
   have hcl:=h2.len
   refine⟨xs++[y],cells++cs',by simp [h1],rdL.append h2 (rdL.single hy),.inr rfl,fun j v hj=>?_⟩
   ·by_cases hjc:j < cells.length
    ·rw [List.getElem?_append_left hjc] at hj; exact h4 j v hj
    ·rw [List.getElem?_append_right (by omega)] at hj
     have:=hat _ v hj
     rw [← this]; congr 2
     rw [hcl,h1]
     have:cells.length=k*Rep.sz α:=by rw [hcl,h1]
     omega
 obtain⟨xs,cells,h1,h2,h3,h4⟩:=key len (Nat.le_refl _)
 subst h1
 refine⟨xs,_,rfl,_,cap,cells,rfl,hl,hm,h2,?_⟩
 rcases h3 with h3 | rfl
 ·exact .inl (List.eq_nil_of_length_eq_zero h3)
 ·exact .inr ⟨b,o,rfl,trivial,h4⟩
end
end Go.E
namespace Go.E
open Go
open Rep (rd)
theorem Opens.fld {P:Program}{α:Type} [Rep α]{H:Type}{enc:TypeId × Value→H}{w:World}{base n:Nat}{spare:Nat→Bool}{held:Bool}{fs:Array Field}{cs:List Value}{xs:List (DataW H × List MemPlace)}{i:Nat}{f:Field}{t off k:Nat}(he:Opens P t α)
  (hf:∀ (i:Nat) (f:Field),fs[i]? = some f→DataW.trod enc P w base spare held n f.type ((cs.drop f.offset).take (P.cellsOf f.type))=xs[i]?) (hlen:xs.length=fs.size) (hi:fs[i]? = some f) (ht:f.type=t) (ho:f.offset=off) (hk:Rep.sz α=k):∃ a:α,rd (fun _=>True) w a ((cs.drop off).take k):=by
 have h:=hf i f hi
 have hix:i < xs.length:=by rw [hlen]; exact (Array.getElem?_eq_some_iff.1 hi).1
 rw [List.getElem?_eq_getElem hix,ht,ho,he.1,hk] at h
 exact he.2 H enc w base spare held n _ _ h
end Go.E
namespace Go.E
open Go
open Rep (rd)
theorem Opens.struct {P:Program}{T:TypeId}{α:Type} [Rep α]{fs:Array Field}{k:Nat}(hc:P.cellsOf T=k)(hk:Rep.sz α=k)(ht:P.underlying T=some (.struct fs))
  (h:∀ (H:Type) (enc:TypeId × Value→H) (w:World) (base:Nat) (spare:Nat→Bool) (held:Bool) (n:Nat) (cs:List Value) (xs:List (DataW H × List MemPlace)),cs.length=k→xs.length=fs.size →
   (∀ (i:Nat) (f:Field),fs[i]? = some f→DataW.trod enc P w base spare held n f.type ((cs.drop f.offset).take (P.cellsOf f.type))=xs[i]?)→∃ a:α,rd (fun _=>True) w a cs):Opens P T α:=by
 refine⟨hc.trans hk.symm,fun H enc w base spare held fuel cs x hx=>?_⟩
 obtain⟨xs,n,_,_,hl,hx,hf⟩:=DataW.trod_struct ht hx
 exact h H enc w base spare held n cs xs (hl.trans hc) hx hf
end Go.E
namespace Go.E
open Go
theorem lenS {α:Type}{l:List α}{k:Nat}(h:l.length=k+1):∃ c t,l=c :: t∧t.length=k:=by
 cases l with
 | nil=>simp at h
 | cons c t=>exact⟨c,t,rfl,by simpa using h⟩
theorem len0 {α:Type}{l:List α}(h:l.length=0):l=[]:=List.eq_nil_of_length_eq_zero h
end Go.E
namespace Go.E
open Go
open Rep (rd)
section
variable {P:Program}{n d:Nat}{Q:Post}{ρ:Env}{w:World}{ops:Array Oper}{o:Oper}{rest:List Oper}{C:World→Prop}{F:Env→Prop}{x:Operand}{p:Prop} [Decidable p]
theorem WL.mvD (hg:o.guard=none)(hd:o.dst=some d)(ho:o.op = .move x)(hx:E.ev ρ x = .bool (decide p))(hT:p→WL P n ops Q rest (upd ρ d (.bool true)) w)(hF:¬ p→WL P n ops Q rest (upd ρ d (.bool false)) w):WL P n ops Q (o :: rest) ρ w:=by
 by_cases hp:p
 ·rw [decide_eq_true hp] at hx
  exact WL.ev hg hd (Ev.mv ho hx) (hT hp)
 ·rw [decide_eq_false hp] at hx
  exact WL.ev hg hd (Ev.mv ho hx) (hF hp)
theorem WL.mvN (hg:o.guard=none)(hd:o.dst=some d)(ho:o.op = .move x)(hx:E.ev ρ x = .bool (!decide p))(hT:¬ p→WL P n ops Q rest (upd ρ d (.bool true)) w)(hF:p→WL P n ops Q rest (upd ρ d (.bool false)) w):WL P n ops Q (o :: rest) ρ w:=by
 by_cases hp:p
 ·rw [decide_eq_true hp] at hx
  exact WL.ev hg hd (Ev.mv ho hx) (hF hp)
 ·rw [decide_eq_false hp] at hx
  exact WL.ev hg hd (Ev.mv ho hx) (hT hp)
theorem QL.mvD (hg:o.guard=none)(hd:o.dst=some d)(ho:o.op = .move x)(hx:E.ev ρ x = .bool (decide p))(hT:p→QL P n ops C F rest (upd ρ d (.bool true)))(hF:¬ p→QL P n ops C F rest (upd ρ d (.bool false))):QL P n ops C F (o :: rest) ρ:=by
 by_cases hp:p
 ·rw [decide_eq_true hp] at hx
  exact QL.ev hg hd (fun _ _=>Ev.mv ho hx) (hT hp)
 ·rw [decide_eq_false hp] at hx
  exact QL.ev hg hd (fun _ _=>Ev.mv ho hx) (hF hp)
theorem QL.mvN (hg:o.guard=none)(hd:o.dst=some d)(ho:o.op = .move x)(hx:E.ev ρ x = .bool (!decide p))(hT:¬ p→QL P n ops C F rest (upd ρ d (.bool true)))(hF:p→QL P n ops C F rest (upd ρ d (.bool false))):QL P n ops C F (o :: rest) ρ:=by
 by_cases hp:p
 ·rw [decide_eq_true hp] at hx
  exact QL.ev hg hd (fun _ _=>Ev.mv ho hx) (hF hp)
 ·rw [decide_eq_false hp] at hx
  exact QL.ev hg hd (fun _ _=>Ev.mv ho hx) (hT hp)
end
section
variable {α:Type} [DecidableEq α]{xs:List α}{y x:α}{i:Nat}
def ixF (xs:List α)(y:α):Int:=if y∈xs then ((xs.idxOf y:Nat):Int) else -1
end
end Go.E
namespace Go.E
open Go
open Rep (rd)
open Sep (own)
section
variable {P:Program}{n:Nat}{Q:Post}{ρ:Env}{w:World}{ops:Array Oper}{o:Oper}{rest:List Oper}
theorem WL.stW {T:TypeId}{x y:Operand}{b k:Nat}{TB:TypeId}{v:Value}{cs l:List Value}(hg:o.guard=none)(hd:o.dst=none)(ho:o.op = .store T x y)(hk:szT P T=some k)(hx:E.ev ρ x = .pointer (some ⟨b,0,none⟩))
  (hy:E.ev ρ y=v) (hv:v.cells=l.toArray) (hl:l.length=k) (h1:∀ u∈l,u.oneCell'=true) (hb:Blk w b TB cs) (hcs:cs.length=k)
  (h:∀ w',Chg (· = b) w w'→Blk w' b TB l→WL P n ops Q rest ρ w'):WL P n ops Q (o :: rest) ρ w:=
 WL.st hg hd ho hk hx hy hv hl h1 hb (by omega) fun w' hc hb'=>h w' hc (by
  have:splice cs 0 l=l:=by unfold splice; simp; omega
  rwa [this] at hb')
theorem Bin.neqSameB {T:TypeId}{a b:Bool}(hT:P.underlying T=some .bool)(h:a=b):Bin P .neq T (.bool a) (.bool b) (.bool false):=by
 subst h
 have:=Bin.neqBo (P:=P) (T:=T) (a:=a) (b:=a) hT
 simpa using this
theorem Bin.no {T:TypeId}{k:IntKind}{a b:Int}(h:¬ a < b):Bin P .lss T (.int k a) (.int k b) (.bool false):=Bin.lssNo h Bin.lss
end
theorem Held.is {k a r:Int}{c:Nat}(h:Held (some a) k c r):r=a:=by
 rcases h with ⟨h,_⟩ | ⟨h,_⟩
 ·exact (Option.some.inj h).symm
 ·cases h
end Go.E
namespace Go.E
open Go
theorem CW.anyE {P:Program}{n:Nat}{Q:Post}{ρ:Env}{w:World}{ops:Array Oper}{id:Nat}(h:Nat)(ks:Env→List Kn)(hm:P.follows .mixedOrders=true)(hB:(looseB ops h (ownD ops)&&looksB ops h&&allDst ops h)=true)(hmono:Kn.monos (ks ρ))
  (hq:LL P n Q ops h (ks ρ) w 0 (ops.toList.take h) ρ (fun _ _=>True) (fun _ _=>False)):CW P n (.region id ops true) Q ρ w:=CW.any h (ks ρ) hm hB hmono hq
end Go.E
namespace Go.E
open Go
section
variable {P:Program}{ρ:Env}{o:Oper}{w:World}
end
section
variable {α:Type}{l:List α}{p:α→Bool}{k:Nat}{x:α}
end
end Go.E
namespace Go.E
open Go
theorem Ev.ixAI {P:Program}{ρ:Env}{o:Oper}{w:World}{T e k:TypeId}{x i:Operand}{A:Option Addr}{b off n c:Nat}{q:IntKind}{m:Int}(ho:o.op = .indexAddr T x i)(hT:elemT P T=some e)(hk:szT P e=some k)
  (hx:E.ev ρ x = .slice A n c) (hA:A=some ⟨b,off,none⟩) (hi:E.ev ρ i = .int q m) (h0:0≤m) (hj:m < n):Ev P ρ o w (.pointer (some ⟨b,off+m.toNat*k,none⟩)):=by
 obtain⟨j,rfl⟩:=Int.eq_ofNat_of_zero_le h0
 exact Ev.ixA ho hT hk hx hA hi (by omega)
end Go.E
namespace Go.E
open Go
theorem Ev.mkfL {P:Program}{ρ:Env}{o:Oper}{w:World}{fn:Fn}{f c:Array Operand}{vs us:List Value}(ho:o.op = .makeFunc fn f c)(hf:f.toList.map (E.ev ρ)=vs)(hc:c.toList.map (E.ev ρ)=us):Ev P ρ o w (.func fn vs.toArray us.toArray):=
 Ev.mkf ho (by rw [← hf,← Array.toList_map,Array.toArray_toList]) (by rw [← hc,← Array.toList_map,Array.toArray_toList])
end Go.E
namespace Go.E
end Go.E
namespace Go.E
open Go
open Rep (rd)
open Sep (own)
class Flat (α:Type) [Sep α]:Prop where
 flat:∀ {S:Nat→Prop} {w w' : World} {x:α} {cs:List Value},rd S w x cs→own [] w' x cs
instance:Flat Int:=⟨fun h=>⟨rfl,h⟩⟩
instance:Flat ByteArray:=⟨fun h=>⟨rfl,h⟩⟩
instance:Flat Bool:=⟨fun h=>⟨rfl,h⟩⟩
theorem Flat.list {α:Type} [Sep α] [Flat α]{S:Nat→Prop}{w w' : World}:∀ {xs:List α}{cs:List Value},rdL S w xs cs→ownL w' [] xs cs
 | [],_,h=>⟨rfl,h⟩
 | _ :: _,_,⟨c,r,hc,h1,h2⟩=>⟨[],[],c,r,rfl,hc,Flat.flat h1,Flat.list h2⟩
section
variable {P:Program}{w:World}
end
section
variable {P:Program}{n d:Nat}{Q:Post}{ρ:Env}{w:World}{ops:Array Oper}{o:Oper}{rest:List Oper}{α:Type} [Sep α] [Flat α]
end
end Go.E
namespace Go.E
open Go
end Go.E
namespace Go.E
open Go
open Rep (rd)
open Sep (own)
section
variable {P:Program}{n0:Nat}{Q:Post}{ρ:Env}{w:World}{ops:Array Oper}{o:Oper}{rest:List Oper}
end
end Go.E
namespace Go.E
open Go
end Go.E
namespace Go.E
end Go.E
namespace Go.E
open Go
open Rep (rd)
open Sep (own)
theorem z6q {α:Type} [Sep α]{w w' : World}{b:Nat}{L:List Nat}{x:α}{cs:List Value}(h:own L w x cs)(hc:Chg (· = b) w w')(hne:∀ q∈L,q≠b):own L w' x cs:=z7z h hc hne
end Go.E
namespace Go.E
open Go
theorem CW.fresh {P:Program}{n:Nat}{Q:Post}{ρ:Env}{w:World}{c:Code}(L:List (Nat × Value))(ha:agree ρ L)(h:∀ σ,CW P n c Q (ofL σ L) w):CW P n c Q ρ w:=by
 have:=h ρ
 rwa [z1L ha] at this
end Go.E
