/- A small engine for walks through a Go program: plain lemmas on the model, without conditions of their own. -/
import Derived.Test.YteefempppabmkacGreatEngA
import Derived.ProofKit
import Derived.Deep.Slices
import Derived.OpenShut
set_option linter.unusedVariables false
set_option linter.unusedSimpArgs false
set_option linter.ambiguousOpen false
set_option linter.unusedSectionVars false
set_option linter.unnecessarySimpa false
namespace Go.E
open Go
class Sz (α:Type) where
 szd:α→Nat
open Go.E.Sz (szd)
instance:Sz ByteArray where szd x:=x.size
def szL {α:Type}[Sz α]:List α→Nat
 | []=>0
 | x :: xs=>1+szd x+szL xs
instance {α:Type} [Sz α]:Sz (List α) where szd x:=szL x
theorem q2R {α:Type}[Sz α]:∀ xs:List α,xs.length≤szL xs
 | []=>by simp [szL]
 | x :: xs=>by have:=q2R xs; simp [szL]; omega
class Mk (α:Type) where
 mrk:α→Int→α
 cnt:α→Nat
 hd:α→Int→Option Int
 law:∀ x k,hd (mrk x k) k=some (k+cnt x)
 cm:∀ x k,cnt (mrk x k)=cnt x
section
variable {α:Type}[Mk α]
def hdL:List α→Int→Option Int
 | [],k=>some k
 | x :: xs,k=>(Mk.hd x k).bind (hdL xs)
end
end Go.E
namespace Go.E
open Go.E.Sz (szd)
end Go.E
namespace Go.E
open Go.E.Sep (own)
theorem z5J {cur ci:List Value}{O:Nat}(hfit:O+ci.length≤cur.length):(q3O cur O ci).length=cur.length:=by
 unfold q3O; simp; omega
end Go.E
namespace Go.E
open Go
section
variable {P:Program}{n:Nat}{Q:Post}{ρ:Env}{w:World}{ops:Array Oper}{o:Oper}{rest:List Oper}
end
end Go.E
namespace Go.E
end Go.E
namespace Go.E
open Go
section
variable {α:Type}[Mk α]
end
class MkT (α:Type) where
 mrkT:α→Int→α
 cntT:α→Nat
 hdT:α→Int→Option Int
 lawT:∀ x k,hdT (mrkT x k) k=some (k+cntT x)
 cmT:∀ x k,cntT (mrkT x k)=cntT x
end Go.E
namespace Go.E
open Go
open Rep (rd)
open Sep (own)
def New {α:Type}[Sep α](w w' : World)(x:α)(cs:List Value):Prop:=∃ L,own L w' x cs∧L.Nodup∧∀ q∈L,w.heap.size≤q
def NewS {α:Type}[Sep α](w w' : World)(x:List α)(v:Value):Prop:=∃ L,ownS L w' x v∧L.Nodup∧∀ q∈L,w.heap.size≤q
section
variable {α:Type}[Sep α]{w w' : World}{b e i:Nat}{z cs ci:List Value}{x:List α}{y:α}{L Li:List Nat}{P:Program}{n:Nat}{Q:Post}{ρ:Env}{ops:Array Oper}{o:Oper}{rest:List Oper}
def ToInv (w:World)(b e:Nat)(z:List Value)(x:List α)(i:Nat)(cs:List Value)(L:List Nat):Prop:=
 i≤x.length∧Blk w b e (cs++reps z (x.length - i))∧ownL w L (x.take i) cs∧L.Nodup∧∀ q∈L,b < q
theorem ToInv.lt (h:ToInv w b e z x i cs L):b < w.heap.size:=h.2.1.lt
end
end Go.E
namespace Go.E
end Go.E
namespace Go.E
theorem all0:∀ u∈([]:List Value),u.oneCell'=true:=by simp
theorem all1 {v:Value}{l:List Value}(h:v.oneCell'=true)(hl:∀ u∈l,u.oneCell'=true):∀ u∈v :: l,u.oneCell'=true:=by
 intro u hu
 rcases List.mem_cons.1 hu with rfl | hu
 ·exact h
 ·exact hl u hu
end Go.E
namespace Go.E
open Go
open Rep (rd)
open Sep (own)
end Go.E
namespace Go.E
open Go
section
variable {P:Program}{n:Nat}{Q:Post}{ρ:Env}{w:World}{ops:Array Oper}{o:Oper}{rest:List Oper}{C:World→Prop}{F:Env→Prop}
structure LooseS (n:Nat) (ops:Array Oper) (h:Nat) (D:Nat→List Nat) (Ψ:Nat→(Nat→Prop)→List Value→World→Prop) (S:Nat→Nat→Prop) (ρ0:Env) (w0:World) (listed:Array Bool) (ρ:Env) (w:World):Prop where
 head:HeadInv .any ops h listed
 ext:Ext w0 w
 out:∀ t,(∀ j,j < h→q3f ops j≠some t)→ρ t=ρ0 t
 apart:∀ i j q,i < h→j < h→listed.getD i false=true→listed.getD j false=true→S i q→S j q→i=j
 bound:∀ i q,i < h→listed.getD i false=true→S i q→w0.heap.size≤q∧q < w.heap.size
 known:∀ j,j < h→listed.getD j false=true→Ψ j (S j) ((D j).map ρ) w
section loose
variable {h:Nat}{D:Nat→List Nat}
def j4O (P:Program)(R:Value→World→Prop):Result Next→Prop
 | .ok (.value u) w'=>R u w'
 | .ok .skip w'=>R undef w'
 | .ok (.enter f args) w'=>Calls P f args w' (fun e w''=>∃ v,e = .returned v∧R v w'')
 | _=>False
def OpX (P:Program)(ops:Array Oper)(o:Oper)(ρ:Env)(w:World)(R:Value→World→Prop):Prop:=
 (gate ops ρ o=true∧j4O P R ((execOp (E.ev ρ) o).run P w))∨(gate ops ρ o=false∧R undef w)
theorem q1C {R:Value→World→Prop}{v:Value}(hg:o.guard=none)(he:Ev P ρ o w v)(h:R v w):OpX P ops o ρ w R:=
 .inl ⟨by simp [gate,hg],by rw [he]; exact h⟩
theorem OpX.call {c:Call}{f:FuncId}{x:Operand}{caps:Array Value}{args:List Value}{M:Nat→Prop}{R R' : Value→World→Prop}(hg:o.guard=none)(ho:o.op = .call c)(hx:c.callee = .value x)(hf:E.ev ρ x = .func (.func f) #[] caps)
  (hc:q2p P f=true) (ha:c.args.toList.map (E.ev ρ)++caps.toList=args) (hr:Ret P f args.toArray w M R) (h:∀ v w',Chg M w w'→R v w'→R' v w'):OpX P ops o ρ w R':=by
 refine .inl ⟨by simp [gate,hg],?_⟩
 simp only [execOp,ho]
 rw [j0H hx hf hc ha]
 exact Calls.mono hr fun e w' ⟨v,he,hch,hv⟩=>⟨v,he,h v w' hch hv⟩
theorem OpX.mono {R R' : Value→World→Prop}(hx:OpX P ops o ρ w R)(h:∀ v w',R v w'→R' v w'):OpX P ops o ρ w R':=by
 rcases hx with ⟨hg,hx⟩ | ⟨hg,hx⟩
 ·refine .inl ⟨hg,?_⟩
  generalize (execOp (E.ev ρ) o).run P w=r at hx
  cases r with
  | ok x w'=>
   cases x<;>simp only [j4O] at hx ⊢
   case value u=>exact h _ _ hx
   case skip=>exact h _ _ hx
   case enter f args=>exact hx.mono fun e w'' ⟨v,h1,h2⟩=>⟨v,h1,h _ _ h2⟩
  | halt x w'=>simp only [j4O] at hx
 ·exact .inr ⟨hg,h _ _ hx⟩
theorem q1v {R:Value→World→Prop}(h:OpX P ops o ρ w R):OpW P n ops o ρ w R:=by
 rcases h with ⟨hg,h⟩ | ⟨hg,h⟩
 ·refine .inl ⟨hg,fun a K Q' ha hok hK=>?_⟩
  unfold Oper.wp
  rw [q4n ha hok]
  generalize (execOp (E.ev ρ) o).run P w=r at h
  cases r with
  | ok x w'=>
   cases x<;>simp only [j4O] at h<;>simp only [Oper.upon]
   case value u=>exact hK _ _ h
   case skip=>exact hK _ _ h
   case enter f args=>exact h.mono fun e w'' ⟨v,he,hr⟩=>by subst he; exact hK _ _ hr
  | halt x w'=>simp only [j4O] at h
 ·exact .inr ⟨hg,h⟩
theorem q0A {ρ' : Env}{R:Value→World→Prop}(hs:q5L n o=true)(h:∀ t∈o.looksAt ops,ρ' t=ρ t)(hx:OpX P ops o ρ w R):OpX P ops o ρ' w R:=by
 unfold OpX at *
 rw [j0n h,j0o hs h]
 exact hx
abbrev Kn:=Value ⊕ ((Nat→Prop)→Value→World→Prop)
def Kn.mono (k:Kn):Prop:=match k with
 | .inl _=>True
 | .inr φ=>∀ S v w w',φ S v w→Ext w w'→φ S v w'
end loose
end
end Go.E
namespace Go.E
open Go
open Rep (rd)
open Sep (own)
section
variable {P:Program}{n h i d:Nat}{Q:Post}{ρ:Env}{w:World}{ops:Array Oper}{o:Oper}{l:List Oper}{ks:List Kn}{K:Nat→World→Prop}{G:Nat→Nat→Prop}
theorem OpX.alloc {T:TypeId}{z:List Value}(hg:o.guard=none)(ho:o.op = .alloc T)(hz:q6d P T=some z):OpX P ops o ρ w (fun v w'=>Ext w w'∧∃ b,v = .pointer (some ⟨b,0,none⟩)∧(w.heap.size≤b∧b < w'.heap.size)∧Blk w' b T z):=by
 obtain⟨z',hz',hc⟩:=q6L (w:=w) hz
 refine .inl ⟨by simp [gate,hg],?_⟩
 simp only [execOp,ho,Instr.alloc,newVar,hz',hc,Sem.run_bind,q8w,Result.andThen_ok,Sem.run_pure]
 refine⟨Ext.alloc _ _,_,rfl,⟨Nat.le_refl _,?_⟩,q6Y _ _ _⟩
 exact (q6Y _ _ _).lt
end
section
variable {P:Program}
end
section
variable {α:Type}[Sep α]{w w' : World}{x:α}{xs:List α}{cs:List Value}{v:Value}
theorem New.rd (h:New w w' x cs):rd (fun q=>w.heap.size≤q∧q < w'.heap.size) w' x cs:=by
 obtain⟨L,h1,_,h3⟩:=h
 exact Rep.mono (Sep.own_rd h1) fun q hq=>⟨h3 q hq,Sep.own_lt h1 q hq⟩
theorem NewS.rd (h:NewS w w' xs v):rdS (fun q=>w.heap.size≤q∧q < w'.heap.size) w' xs v:=by
 obtain⟨L,h1,_,h3⟩:=h
 exact h1.rd.mono fun q hq=>⟨h3 q hq,h1.lt q hq⟩
end
end Go.E
namespace Go.E
open Go
open Rep (rd)
def Opens (P:Program)(T:TypeId)(α:Type)[Rep α]:Prop:=
 P.cellsOf T=Rep.sz α∧∀ (H:Type) (enc:TypeId × Value→H) (w:World) (base:Nat) (spare:Nat→Bool) (held:Bool) (fuel:Nat) (cs:List Value) (x:DataW H × List MemPlace),
  DataW.trod enc P w base spare held fuel T cs=some x→∃ a:α,rd (fun _=>True) w a cs
section
variable {P:Program}{T e:TypeId}{α:Type}[Rep α]
theorem Opens.int (hc:P.cellsOf T=1)(ht:P.underlying T=some (.int .i64)):Opens P T Int:=by
 refine⟨hc,fun H enc w base spare held fuel cs x h=>?_⟩
 obtain⟨n,rfl,_,hw⟩:=DataW.trod_int ht h
 exact⟨n,rfl,bounds_i64 hw⟩
theorem Opens.str (hc:P.cellsOf T=1)(ht:P.underlying T=some .string):Opens P T ByteArray:=by
 refine⟨hc,fun H enc w base spare held fuel cs x h=>?_⟩
 obtain⟨s,rfl,_,hw⟩:=DataW.trod_string ht h
 exact⟨s,rfl,hw⟩
theorem Opens.bool (hc:P.cellsOf T=1)(ht:P.underlying T=some .bool):Opens P T Bool:=by
 refine⟨hc,fun H enc w base spare held fuel cs x h=>?_⟩
 obtain⟨s,rfl,_⟩:=DataW.trod_bool ht h
 exact⟨s,rfl⟩
theorem At.ofCells {w:World}{base b o k:Nat}{cs:List Value}(h:w.cells? base ⟨b,o,none⟩ k=some cs):cs.length=k∧At w b o cs:=by
 obtain⟨_,hl,hat⟩:=World.cells?_some h
 refine⟨hl,fun j v hj=>?_⟩
 have hjk:j < k:=by rw [← hl]; exact (List.getElem?_eq_some_iff.1 hj).1
 have:=hat j hjk
 rw [hj] at this
 rw [← this]
 unfold Addr.add
 split
 ·next h0=>subst h0; rfl
 ·rfl
theorem Opens.slice (hc:P.cellsOf T=1)(ht:P.underlying T=some (.slice e))(he:Opens P e α):Opens P T (List α):=by
 refine⟨hc,fun H enc w base spare held fuel cs x h=>?_⟩
 rcases Go.Deep.open_slice ht h with ⟨rfl,_⟩ | ⟨a,len,cap,m,n,D,Pl,rfl,_,hl,hm,hmm,_,hi⟩
 ·exact⟨[],_,rfl,none,0,[],rfl,Nat.le_refl _,by decide,rfl,.inl rfl⟩
 have hlm:len≤m:=by rw [hmm]; split<;>omega
 obtain⟨b,o,sp⟩:=a
 have key:∀ k,k≤len→∃ (xs:List α) (cells:List Value),xs.length=k∧rdL (fun _=>True) w xs cells∧(k=0∨sp=none)∧∀ j v,cells[j]? = some v→w.cell? ⟨b,o+j,none⟩=some v:=by
  intro k
  induction k with
  | zero=>intro _; exact⟨[],[],rfl,rfl,.inl rfl,by simp⟩
  | succ k ih=>
   intro hk
   obtain⟨xs,cells,h1,h2,h3,h4⟩:=ih (by omega)
   obtain⟨cs',hcs,htr⟩:=hi k (by omega)
   obtain⟨y,hy⟩:=he.2 H enc w base spare held n cs' _ htr
   have hlen:=Rep.len hy
   have hp:=Rep.pos (α:=α)
   rw [he.1] at hcs
   have hsp:sp=none:=by
    rcases h3 with rfl | h3
    ·obtain⟨_,hl',hat⟩:=World.cells?_some hcs
     have h0:=hat 0 hp
     rw [List.getElem?_eq_getElem (by omega)] at h0
     simp only [Nat.zero_mul,Addr.add,if_true] at h0
     cases sp with
     | none=>rfl
     | some f=>
      exfalso
      unfold World.cell? at h0
      split at h0
      ·simp at h0
      ·cases h0
    ·exact h3
   subst hsp
   have hadd:Addr.add ⟨b,o,none⟩ (k*Rep.sz α)=⟨b,o+k*Rep.sz α,none⟩:=by
    unfold Addr.add; split
    ·next h0=>rw [h0]; rfl
    ·rfl
   rw [hadd] at hcs
   obtain⟨_,hat⟩:=At.ofCells hcs
   have hcl:=h2.len
   refine⟨xs++[y],cells++cs',by simp [h1],rdL.append h2 (rdL.single hy),.inr rfl,fun j v hj=>?_⟩
   ·by_cases hjc:j < cells.length
    ·rw [List.getElem?_append_left hjc] at hj; exact h4 j v hj
    ·rw [List.getElem?_append_right (by omega)] at hj
     have:=hat _ v hj
     rw [← this]; congr 2
     rw [hcl,h1]
     have:cells.length=k*Rep.sz α:=by rw [hcl,h1]
     omega
 obtain⟨xs,cells,h1,h2,h3,h4⟩:=key len (Nat.le_refl _)
 subst h1
 refine⟨xs,_,rfl,_,cap,cells,rfl,hl,hm,h2,?_⟩
 rcases h3 with h3 | rfl
 ·exact .inl (List.eq_nil_of_length_eq_zero h3)
 ·exact .inr ⟨b,o,rfl,trivial,h4⟩
end
end Go.E
namespace Go.E
open Go
open Rep (rd)
theorem Opens.fld {P:Program}{α:Type}[Rep α]{H:Type}{enc:TypeId × Value→H}{w:World}{base n:Nat}{spare:Nat→Bool}{held:Bool}{fs:Array Field}{cs:List Value}{xs:List (DataW H × List MemPlace)}{i:Nat}{f:Field}{t off k:Nat}(he:Opens P t α)
  (hf:∀ (i:Nat) (f:Field),fs[i]? = some f→DataW.trod enc P w base spare held n f.type ((cs.drop f.offset).take (P.cellsOf f.type))=xs[i]?) (hlen:xs.length=fs.size) (hi:fs[i]? = some f) (ht:f.type=t) (ho:f.offset=off) (hk:Rep.sz α=k):∃ a:α,rd (fun _=>True) w a ((cs.drop off).take k):=by
 have h:=hf i f hi
 have hix:i < xs.length:=by rw [hlen]; exact (Array.getElem?_eq_some_iff.1 hi).1
 rw [List.getElem?_eq_getElem hix,ht,ho,he.1,hk] at h
 exact he.2 H enc w base spare held n _ _ h
end Go.E
namespace Go.E
open Go
open Rep (rd)
theorem Opens.struct {P:Program}{T:TypeId}{α:Type}[Rep α]{fs:Array Field}{k:Nat}(hc:P.cellsOf T=k)(hk:Rep.sz α=k)(ht:P.underlying T=some (.struct fs))
  (h:∀ (H:Type) (enc:TypeId × Value→H) (w:World) (base:Nat) (spare:Nat→Bool) (held:Bool) (n:Nat) (cs:List Value) (xs:List (DataW H × List MemPlace)),cs.length=k→xs.length=fs.size →
   (∀ (i:Nat) (f:Field),fs[i]? = some f→DataW.trod enc P w base spare held n f.type ((cs.drop f.offset).take (P.cellsOf f.type))=xs[i]?)→∃ a:α,rd (fun _=>True) w a cs):Opens P T α:=by
 refine⟨hc.trans hk.symm,fun H enc w base spare held fuel cs x hx=>?_⟩
 obtain⟨xs,n,_,_,hl,hx,hf⟩:=DataW.trod_struct ht hx
 exact h H enc w base spare held n cs xs (hl.trans hc) hx hf
end Go.E
namespace Go.E
open Go
theorem lenS {α:Type}{l:List α}{k:Nat}(h:l.length=k+1):∃ c t,l=c :: t∧t.length=k:=by
 cases l with
 | nil=>simp at h
 | cons c t=>exact⟨c,t,rfl,by simpa using h⟩
theorem len0 {α:Type}{l:List α}(h:l.length=0):l=[]:=List.eq_nil_of_length_eq_zero h
end Go.E
namespace Go.E
open Go
open Rep (rd)
section
variable {P:Program}{n d:Nat}{Q:Post}{ρ:Env}{w:World}{ops:Array Oper}{o:Oper}{rest:List Oper}{C:World→Prop}{F:Env→Prop}{x:Operand}{p:Prop}[Decidable p]
theorem q2h (hg:o.guard=none)(hd:o.dst=some d)(ho:o.op = .move x)(hx:E.ev ρ x = .bool (decide p))(hT:p→WL P n ops Q rest (upd ρ d (.bool true)) w)(hF:¬ p→WL P n ops Q rest (upd ρ d (.bool false)) w):WL P n ops Q (o :: rest) ρ w:=by
 by_cases hp:p
 ·rw [decide_eq_true hp] at hx
  exact q0b hg hd (q0j ho hx) (hT hp)
 ·rw [decide_eq_false hp] at hx
  exact q0b hg hd (q0j ho hx) (hF hp)
theorem q2i (hg:o.guard=none)(hd:o.dst=some d)(ho:o.op = .move x)(hx:E.ev ρ x = .bool (!decide p))(hT:¬ p→WL P n ops Q rest (upd ρ d (.bool true)) w)(hF:p→WL P n ops Q rest (upd ρ d (.bool false)) w):WL P n ops Q (o :: rest) ρ w:=by
 by_cases hp:p
 ·rw [decide_eq_true hp] at hx
  exact q0b hg hd (q0j ho hx) (hF hp)
 ·rw [decide_eq_false hp] at hx
  exact q0b hg hd (q0j ho hx) (hT hp)
theorem q2j (hg:o.guard=none)(hd:o.dst=some d)(ho:o.op = .move x)(hx:E.ev ρ x = .bool (decide p))(hT:p→QL P n ops C F rest (upd ρ d (.bool true)))(hF:¬ p→QL P n ops C F rest (upd ρ d (.bool false))):QL P n ops C F (o :: rest) ρ:=by
 by_cases hp:p
 ·rw [decide_eq_true hp] at hx
  exact q0i hg hd (fun _ _=>q0j ho hx) (hT hp)
 ·rw [decide_eq_false hp] at hx
  exact q0i hg hd (fun _ _=>q0j ho hx) (hF hp)
theorem q2k (hg:o.guard=none)(hd:o.dst=some d)(ho:o.op = .move x)(hx:E.ev ρ x = .bool (!decide p))(hT:¬ p→QL P n ops C F rest (upd ρ d (.bool true)))(hF:p→QL P n ops C F rest (upd ρ d (.bool false))):QL P n ops C F (o :: rest) ρ:=by
 by_cases hp:p
 ·rw [decide_eq_true hp] at hx
  exact q0i hg hd (fun _ _=>q0j ho hx) (hF hp)
 ·rw [decide_eq_false hp] at hx
  exact q0i hg hd (fun _ _=>q0j ho hx) (hT hp)
end
section
variable {α:Type}[DecidableEq α]{xs:List α}{y x:α}{i:Nat}
end
end Go.E
namespace Go.E
open Go
open Rep (rd)
open Sep (own)
section
variable {P:Program}{n:Nat}{Q:Post}{ρ:Env}{w:World}{ops:Array Oper}{o:Oper}{rest:List Oper}
end
end Go.E
namespace Go.E
open Go
end Go.E
namespace Go.E
open Go
section
variable {P:Program}{ρ:Env}{o:Oper}{w:World}
end
section
variable {α:Type}{l:List α}{p:α→Bool}{k:Nat}{x:α}
end
end Go.E
namespace Go.E
open Go
theorem q1T {P:Program}{ρ:Env}{o:Oper}{w:World}{T e k:TypeId}{x i:Operand}{A:Option Addr}{b off n c:Nat}{q:IntKind}{m:Int}(ho:o.op = .indexAddr T x i)(hT:q4Y P T=some e)(hk:szT P e=some k)
  (hx:E.ev ρ x = .slice A n c) (hA:A=some ⟨b,off,none⟩) (hi:E.ev ρ i = .int q m) (h0:0≤m) (hj:m < n):Ev P ρ o w (.pointer (some ⟨b,off+m.toNat*k,none⟩)):=by
 obtain⟨j,rfl⟩:=Int.eq_ofNat_of_zero_le h0
 exact q1N ho hT hk hx hA hi (by omega)
end Go.E
namespace Go.E
open Go
theorem q0q {P:Program}{ρ:Env}{o:Oper}{w:World}{fn:Fn}{f c:Array Operand}{vs us:List Value}(ho:o.op = .makeFunc fn f c)(hf:f.toList.map (E.ev ρ)=vs)(hc:c.toList.map (E.ev ρ)=us):Ev P ρ o w (.func fn vs.toArray us.toArray):=
 q2e ho (by rw [← hf,← Array.toList_map,Array.toArray_toList]) (by rw [← hc,← Array.toList_map,Array.toArray_toList])
end Go.E
namespace Go.E
end Go.E
namespace Go.E
open Go
open Rep (rd)
open Sep (own)
class Flat (α:Type) [Sep α]:Prop where
 flat:∀ {S:Nat→Prop} {w w' : World} {x:α} {cs:List Value},rd S w x cs→own [] w' x cs
instance:Flat Int:=⟨fun h=>⟨rfl,h⟩⟩
theorem Flat.list {α:Type}[Sep α][Flat α]{S:Nat→Prop}{w w' : World}:∀ {xs:List α} {cs:List Value},rdL S w xs cs→ownL w' [] xs cs
 | [],_,h=>⟨rfl,h⟩
 | _ :: _,_,⟨c,r,hc,h1,h2⟩=>⟨[],[],c,r,rfl,hc,Flat.flat h1,Flat.list h2⟩
section
variable {P:Program}{w:World}
end
section
variable {P:Program}{n d:Nat}{Q:Post}{ρ:Env}{w:World}{ops:Array Oper}{o:Oper}{rest:List Oper}{α:Type}[Sep α][Flat α]
end
end Go.E
namespace Go.E
open Go
end Go.E
namespace Go.E
open Go
open Rep (rd)
open Sep (own)
section
variable {P:Program}{n0:Nat}{Q:Post}{ρ:Env}{w:World}{ops:Array Oper}{o:Oper}{rest:List Oper}
end
end Go.E
namespace Go.E
open Go
end Go.E
namespace Go.E
end Go.E
namespace Go.E
open Go
open Rep (rd)
open Sep (own)
end Go.E
namespace Go.E
open Go
theorem q0a {P:Program}{n:Nat}{Q:Post}{ρ:Env}{w:World}{c:Code}(L:List (Nat × Value))(ha:q4R ρ L)(h:∀ σ,CW P n c Q (ofL σ L) w):CW P n c Q ρ w:=by
 have:=h ρ
 rwa [z8l ha] at this
end Go.E
