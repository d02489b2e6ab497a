/- Abstract states of a walk: plain lemmas on the model, without conditions of their own. -/
import Derived.Test.YtnhofaohogianaaGreatEng2
set_option linter.unusedVariables false
set_option linter.unusedSimpArgs false
set_option linter.ambiguousOpen false
set_option linter.unusedSectionVars false
set_option linter.unnecessarySimpa false
open Nat renaming lt_of_lt_of_le→Bcz,add_mul→Arz,le_trans→Bdz,beq→Aaz
open List renaming take_succ_cons→Bez
namespace Go.A
open Go Go.E
inductive D:Type
 | i (k:IntKind) (n:Int)|b (v:Bool)|s (t:BA_)|a (cs:List D)|sl (k:Nat) (xs:List D)
def rngI:IntKind→Int→Prop
 | .i64,n=>-9223372036854775808≤n∧n≤9223372036854775807
 | .u8,n=>0≤n∧n≤255
 | _,_=>True
def rngB:IntKind→Int→Bool
 | .i64,.ofNat m=>Nat.ble m 9223372036854775807
 | .i64,.negSucc m=>Nat.ble m 9223372036854775807
 | .u8,.ofNat m=>Nat.ble m 255
 | .u8,.negSucc _=>false
 | _,_=>true
theorem j7q {k:IntKind}{n:Int}(h:rngB k n=true):rngI k n:=by
 cases k<;>cases n<;>simp only[rngB,Nat.ble_eq,Bool.false_eq_true] at h<;>simp only[rngI,Int.ofNat_eq_natCast,Int.negSucc_eq]<;>omega
def rngD:D→Prop
 | .i k n=>rngI k n
 | .s t=>t.size≤9223372036854775807
 | _=>True
def D.cells:D→List D
 | .a cs=>cs
 | d=>[d]
mutual
def rdC (S:Nat→Prop)(w:World):D→Value→Prop
 | .i k n,v=>v=.int k n∧rngI k n
 | .b x,v=>v=.bool x
 | .s t,v=>v=.string t∧t.size≤9223372036854775807
 | .a _,v=>v.oneCell'=true
 | .sl k xs,v=>∃ A cap cells,v=.slice A xs.length cap∧xs.length≤cap∧cap≤maxLen∧rdE S w k xs cells∧(xs=[]∨∃ b o,A=some ⟨b,o,none⟩∧S b∧b<w.heap.size∧At w b o cells)
def rdCs (S:Nat→Prop)(w:World):List D→List Value→Prop
 | [],vs=>vs=[]
 | x::xs,vs=>∃ v r,vs=v::r∧rdC S w x v∧rdCs S w xs r
def rdE (S:Nat→Prop)(w:World)(k:Nat):List D→List Value→Prop
 | [],vs=>vs=[]
 | x::xs,vs=>∃ c r,vs=c++r∧c.length=k∧(match x with|.a cs=>rdCs S w cs c|y=>∃ v,c=[v]∧rdC S w y v)∧rdE S w k xs r
end
def rd1 (S:Nat→Prop)(w:World)(x:D)(c:List Value):Prop:=rdCs S w x.cells c
theorem z9Y {S:Nat→Prop}{w:World}{x:D}{c:List Value}:rdCs S w [x] c↔∃ v,c=[v]∧rdC S w x v:=by
 simp only[rdCs]
 exact⟨fun ⟨v,r,h1,h2,h3⟩=>⟨v,by rw[h1,h3],h2⟩,fun ⟨v,h1,h2⟩=>⟨v,[],h1,h2,rfl⟩⟩
theorem j9G {S:Nat→Prop}{w:World}{x:D}{c:List Value}:rd1 S w x c↔(match x with|.a cs=>rdCs S w cs c|y=>∃ v,c=[v]∧rdC S w y v):=by
 cases x<;>simp only[rd1,D.cells,z9Y]
theorem q6k {S:Nat→Prop}{w:World}{k:Nat}{x:D}{xs:List D}{vs:List Value}:rdE S w k (x::xs) vs↔∃ c r,vs=c++r∧c.length=k∧rd1 S w x c∧rdE S w k xs r:=by
 rw[rdE]
 constructor<;>rintro⟨c,r,h1,h2,h3,h4⟩
 ·exact⟨c,r,h1,h2,j9G.2 h3,h4⟩
 ·exact⟨c,r,h1,h2,j9G.1 h3,h4⟩
section
variable {S S' : Nat→Prop}{w w' : World}
mutual
theorem rdC.imp (hS:∀ b o cs,S b→b<w.heap.size→At w b o cs→S' b∧b<w'.heap.size∧At w' b o cs):∀ {x:D} {v:Value},rdC S w x v→rdC S' w' x v
 | .i _ _,_,h=>h
 | .b _,_,h=>h
 | .s _,_,h=>h
 | .a _,_,h=>h
 | .sl k xs,v,h=>by
  rw[rdC] at h ⊢
  obtain⟨A,cap,cells,h1,h2,h3,h4,h5⟩:=h
  exact⟨A,cap,cells,h1,h2,h3,rdE.imp hS h4,h5.imp id fun ⟨b,o,e,hb,hl,ha⟩=>⟨b,o,e,hS b o _ hb hl ha⟩⟩
theorem rdCs.imp (hS:∀ b o cs,S b→b<w.heap.size→At w b o cs→S' b∧b<w'.heap.size∧At w' b o cs):∀ {xs:List D} {vs:List Value},rdCs S w xs vs→rdCs S' w' xs vs
 | [],_,h=>h
 | x::xs,vs,h=>by
  rw[rdCs] at h ⊢
  obtain⟨v,r,h1,h2,h3⟩:=h
  exact⟨v,r,h1,rdC.imp hS h2,rdCs.imp hS h3⟩
theorem rdE.imp (hS:∀ b o cs,S b→b<w.heap.size→At w b o cs→S' b∧b<w'.heap.size∧At w' b o cs):∀ {k:Nat} {xs:List D} {vs:List Value},rdE S w k xs vs→rdE S' w' k xs vs
 | _,[],_,h=>h
 | _,.a cs::xs,vs,h=>by
  rw[rdE] at h ⊢
  obtain⟨c,r,h1,h2,h3,h4⟩:=h
  exact⟨c,r,h1,h2,rdCs.imp hS h3,rdE.imp hS h4⟩
 | _,.i k n::xs,vs,h=>by
  rw[rdE] at h ⊢
  obtain⟨c,r,h1,h2,⟨v,h3,h5⟩,h4⟩:=h
  exact⟨c,r,h1,h2,⟨v,h3,h5⟩,rdE.imp hS h4⟩
 | _,.b x::xs,vs,h=>by
  rw[rdE] at h ⊢
  obtain⟨c,r,h1,h2,⟨v,h3,h5⟩,h4⟩:=h
  exact⟨c,r,h1,h2,⟨v,h3,h5⟩,rdE.imp hS h4⟩
 | _,.s x::xs,vs,h=>by
  rw[rdE] at h ⊢
  obtain⟨c,r,h1,h2,⟨v,h3,h5⟩,h4⟩:=h
  exact⟨c,r,h1,h2,⟨v,h3,h5⟩,rdE.imp hS h4⟩
 | _,.sl _ x::xs,vs,h=>by
  rw[rdE] at h ⊢
  obtain⟨c,r,h1,h2,⟨v,h3,h5⟩,h4⟩:=h
  exact⟨c,r,h1,h2,⟨v,h3,rdC.imp hS h5⟩,rdE.imp hS h4⟩
end
def Keeps (S:Nat→Prop)(w w' : World):Prop:=w.heap.size≤w'.heap.size∧∀ b,S b→b<w.heap.size→w'.heap[b]?=w.heap[b]?
theorem Keeps.of_chg {M:Nat→Prop}(h:Chg M w w')(hm:∀ b,S b→b<w.heap.size→¬ M b):Keeps S w w':=⟨h.size,fun b hb hl=>h.block b hl (hm b hb hl)⟩
theorem Keeps.of_ext (h:Ext w w'):Keeps S w w':=.of_chg h fun _ _ _=>id
theorem Keeps.imp (h:Keeps S w w'):∀ b o cs,S b→b<w.heap.size→At w b o cs→S b∧b<w'.heap.size∧At w' b o cs:=
 fun b o cs hb hl ha=>⟨hb,Bcz hl h.1,ha.frame' (h.2 b hb)⟩
theorem rdE.keep {k:Nat}{x:List D}{v:List Value}(h:rdE S w k x v)(hk:Keeps S w w'):rdE S w' k x v:=h.imp hk.imp
theorem rdC.mono {x:D}{v:Value}(h:rdC S w x v)(hS:∀ b,S b→S' b):rdC S' w x v:=h.imp fun b _ _ hb hl ha=>⟨hS b hb,hl,ha⟩
theorem rdCs.mono {x:List D}{v:List Value}(h:rdCs S w x v)(hS:∀ b,S b→S' b):rdCs S' w x v:=h.imp fun b _ _ hb hl ha=>⟨hS b hb,hl,ha⟩
theorem rdE.mono {k:Nat}{x:List D}{v:List Value}(h:rdE S w k x v)(hS:∀ b,S b→S' b):rdE S' w k x v:=h.imp fun b _ _ hb hl ha=>⟨hS b hb,hl,ha⟩
theorem rdC.one:∀ {x:D} {v:Value},rdC S w x v→v.oneCell'=true
 | .i _ _,_,h=>by rw[rdC] at h;obtain⟨rfl,_⟩:=h;rfl
 | .b _,_,h=>by rw[rdC] at h;subst h;rfl
 | .s _,_,h=>by rw[rdC] at h;obtain⟨rfl,_⟩:=h;rfl
 | .a _,_,h=>by rw[rdC] at h;exact h
 | .sl k xs,v,h=>by
  rw[rdC] at h
  obtain⟨A,cap,cells,rfl,_⟩:=h
  rfl
theorem rdCs.len:∀ {xs:List D} {vs:List Value},rdCs S w xs vs→vs.length=xs.length
 | [],_,h=>by rw[rdCs] at h;subst h;rfl
 | x::xs,_,h=>by
  rw[rdCs] at h
  obtain⟨v,r,rfl,_,h3⟩:=h
  simp[h3.len]
theorem rdCs.one:∀ {xs:List D} {vs:List Value},rdCs S w xs vs→∀ v∈vs,v.oneCell'=true
 | [],_,h=>by rw[rdCs] at h;subst h;simp
 | x::xs,_,h=>by
  rw[rdCs] at h
  obtain⟨v,r,rfl,h2,h3⟩:=h
  intro u hu
  rcases List.mem_cons.1 hu with rfl|hu
  ·exact h2.one
  ·exact h3.one u hu
theorem rdCs.get:∀ {xs:List D} {vs:List Value},rdCs S w xs vs→∀ {c:Nat} {x:D},xs[c]?=some x→∃ v,vs[c]?=some v∧rdC S w x v
 | [],_,h,c,x,hx=>by simp at hx
 | y::xs,_,h,c,x,hx=>by
  rw[rdCs] at h
  obtain⟨v,r,rfl,h2,h3⟩:=h
  cases c with
  | zero=>simp at hx;subst hx;exact⟨v,rfl,h2⟩
  | succ c=>simpa using h3.get (c:=c) (by simpa using hx)
theorem rdCs.take:∀ {xs:List D} {vs:List Value},rdCs S w xs vs→∀ k,rdCs S w (xs.take k) (vs.take k)
 | [],_,h,k=>by rw[rdCs] at h;subst h;simp[rdCs]
 | x::xs,_,h,0=>by simp[rdCs]
 | x::xs,_,h,k+1=>by
  rw[rdCs] at h
  obtain⟨v,r,rfl,h2,h3⟩:=h
  simp only[Bez,rdCs]
  exact⟨v,_,rfl,h2,h3.take k⟩
theorem rdCs.drop:∀ {xs:List D} {vs:List Value},rdCs S w xs vs→∀ k,rdCs S w (xs.drop k) (vs.drop k)
 | [],_,h,k=>by rw[rdCs] at h;subst h;simp[rdCs]
 | x::xs,_,h,0=>by simpa using h
 | x::xs,_,h,k+1=>by
  rw[rdCs] at h
  obtain⟨v,r,rfl,h2,h3⟩:=h
  simpa using h3.drop k
theorem rdCs.append:∀ {xs ys:List D} {vs us:List Value},rdCs S w xs vs→rdCs S w ys us→rdCs S w (xs++ys) (vs++us)
 | [],ys,_,us,h,h2=>by rw[rdCs] at h;subst h;simpa using h2
 | x::xs,ys,_,us,h,k=>by
  rw[rdCs] at h
  obtain⟨v,r,rfl,h2,h3⟩:=h
  simp only[List.cons_append,rdCs]
  exact⟨v,_,rfl,h2,h3.append k⟩
variable {k:Nat}
theorem rdE.len:∀ {xs:List D} {vs:List Value},rdE S w k xs vs→vs.length=xs.length*k
 | [],_,h=>by rw[rdE] at h;subst h;simp
 | x::xs,_,h=>by
  obtain⟨c,r,rfl,h2,_,h4⟩:=q6k.1 h
  simp[h4.len,h2,Arz];omega
theorem rdE.one:∀ {xs:List D} {vs:List Value},rdE S w k xs vs→∀ v∈vs,v.oneCell'=true
 | [],_,h=>by rw[rdE] at h;subst h;simp
 | x::xs,_,h=>by
  obtain⟨c,r,rfl,h2,h3,h4⟩:=q6k.1 h
  intro v hv
  rcases List.mem_append.1 hv with h|h
  ·exact rdCs.one h3 v h
  ·exact h4.one v h
theorem rdE.append:∀ {xs ys:List D} {vs us:List Value},rdE S w k xs vs→rdE S w k ys us→rdE S w k (xs++ys) (vs++us)
 | [],ys,_,us,h,h2=>by rw[rdE] at h;subst h;simpa using h2
 | x::xs,ys,_,us,h,h2=>by
  obtain⟨c,r,rfl,hl,h3,h4⟩:=q6k.1 h
  rw[List.cons_append,List.append_assoc]
  exact q6k.2 ⟨c,_,rfl,hl,h3,h4.append h2⟩
theorem rdE.single {x:D}{c:List Value}(h:rd1 S w x c)(hl:c.length=k):rdE S w k [x] c:=q6k.2 ⟨c,[],by simp,hl,h,rfl⟩
theorem rdE.get:∀ {xs:List D} {vs:List Value},rdE S w k xs vs→∀ {i:Nat} {x:D},xs[i]?=some x→∃ c,c.length=k∧rd1 S w x c∧∀ j v,c[j]?=some v→vs[i*k+j]?=some v
 | [],_,h,_,_,hx=>by simp at hx
 | y::xs,_,h,0,x,hx=>by
  obtain⟨c,r,rfl,hl,h3,h4⟩:=q6k.1 h
  simp at hx;subst hx
  refine⟨c,hl,h3,fun j v hv=>?_⟩
  have hj:j<c.length:=(List.getElem?_eq_some_iff.1 hv).1
  rw[Nat.zero_mul,Nat.zero_add,List.getElem?_append_left hj];exact hv
 | y::xs,_,h,i+1,x,hx=>by
  obtain⟨c,r,rfl,hl,h3,h4⟩:=q6k.1 h
  obtain⟨c',hl',hc',hat⟩:=h4.get (i:=i) (by simpa using hx)
  refine⟨c',hl',hc',fun j v hv=>?_⟩
  have hm:(i+1)*k=k+i*k:=by rw[Arz];omega
  rw[List.getElem?_append_right (by omega)]
  have h2:=hat j v hv
  rw[show (i+1)*k+j-c.length=i*k+j by omega]
  exact h2
theorem rdE.take:∀ {xs:List D} {vs:List Value},rdE S w k xs vs→∀ n,rdE S w k (xs.take n) (vs.take (n*k))
 | [],_,h,n=>by rw[rdE] at h;subst h;simp[rdE]
 | x::xs,_,h,0=>by simp[rdE]
 | x::xs,_,h,n+1=>by
  obtain⟨c,r,rfl,hl,h3,h4⟩:=q6k.1 h
  have hm:(n+1)*k=c.length+n*k:=by rw[hl,Arz];omega
  rw[hm,List.take_length_add_append,Bez]
  exact q6k.2 ⟨c,_,rfl,hl,h3,h4.take n⟩
theorem rdE.drop:∀ {xs:List D} {vs:List Value},rdE S w k xs vs→∀ n,rdE S w k (xs.drop n) (vs.drop (n*k))
 | [],_,h,n=>by rw[rdE] at h;subst h;simp[rdE]
 | x::xs,_,h,0=>by simpa using h
 | x::xs,_,h,n+1=>by
  obtain⟨c,r,rfl,hl,h3,h4⟩:=q6k.1 h
  have hm:(n+1)*k=c.length+n*k:=by rw[hl,Arz];omega
  rw[hm,List.drop_length_add_append,List.drop_succ_cons]
  exact h4.drop n
end
inductive Md:Type
 | fz|bo
inductive X:Type
 | d (m:Md) (x:D)|ag (cs:List X)|tu (cs:List X)
 | ref (r:Nat) (l:Option (Nat×Nat))|vs (r:Nat) (l:Option (Nat×Nat)) (lo n:Nat)
 | pb (r c:Nat)|pe (r:Nat) (l:Option (Nat×Nat)) (j c:Nat)|pf (m:Md) (xs:List D)
 | fn (f:Nat) (cs:List X)|nl (k:Nat)|kv (v:Value)|pv (m:Md) (v:Value)|u
inductive Cell:Type
 | d (m:Md) (x:D)|o (m:Md) (k:Nat) (xs:List D)|w (k:Nat) (xs:List D)|nl (k:Nat)|u
inductive Root:Type
 | none|dead|box (cs:List X)|row (m:Md) (k:Nat) (xs:List D)|deep (m:Md) (k:Nat) (es:List (List Cell)) (hs:List (Nat×Nat×Nat))
structure GC where
 val:Value
 own:Bool
 k:Nat
 L:List Nat
inductive G:Type
 | none|dead|box (b T:Nat)|row (v:Value) (k:Nat) (L:List Nat) (gs:List (List GC))
def G.at:G→Option (Nat×Nat)→Option (Value×Nat)
 | .row v k _ _,.none=>some (v,k)
 | _,_=>.none
def onG (g:G)(l:Option (Nat×Nat))(R:Value→Nat→Prop):Prop:=match g with
 | .dead=>True
 | .row v k L gs=>∀ u q,G.at (.row v k L gs) l=some (u,q)→R u q
 | _=>False
def j2q (v:Value)(k lo n:Nat)(u:Value):Prop:=
 ∃ A m cp A' cp',v=.slice A m cp∧lo+n≤m∧u=.slice A' n cp'∧n≤cp'∧cp'≤maxLen∧(n=0∨∃ b,A=some ⟨b,0,none⟩∧A'=some ⟨b,lo*k,none⟩)
mutual
def vr (S:Md→Nat→Prop)(w:World)(g:Nat→G):X→Value→Prop
 | .d m x,v=>rdC (S m) w x v
 | .ag cs,v=>∃ vs:List Value,v=.agg vs.toArray∧vrs S w g cs vs
 | .tu cs,v=>∃ vs:List Value,v=.tuple vs.toArray∧vrs S w g cs vs
 | .ref r l,v=>onG (g r) l fun u _=>v=u
 | .vs r l lo n,v=>onG (g r) l fun u k=>j2q u k lo n v
 | .pb r c,v=>match g r with|.box b _=>v=.pointer (some ⟨b,c,none⟩)|.dead=>True|_=>False
 | .pe r l j c,v=>onG (g r) l fun u k=>∃ b n cp,u=.slice (some ⟨b,0,none⟩) n cp∧j<n∧v=.pointer (some ⟨b,j*k+c,none⟩)
 | .pf m xs,v=>∃ b o cs,v=.pointer (some ⟨b,o,none⟩)∧S m b∧b<w.heap.size∧At w b o cs∧rdCs (S m) w xs cs
 | .fn f cs,v=>∃ vs:List Value,v=.func (.func f) #[] vs.toArray∧vrs S w g cs vs
 | .nl _,v=>v=.slice none 0 0
 | .kv u,v=>v=u
 | .pv m u,v=>∃ b o,v=.pointer (some ⟨b,o,none⟩)∧S m b∧b<w.heap.size∧At w b o [u]
 | .u,_=>True
def vrs (S:Md→Nat→Prop)(w:World)(g:Nat→G):List X→List Value→Prop
 | [],vs=>vs=[]
 | x::xs,vs=>∃ v r,vs=v::r∧vr S w g x v∧vrs S w g xs r
end
def OwnR (w:World)(k:Nat)(v:Value)(n:Nat)(L:List Nat)(cs:List Value):Prop:=∃ e,Own w 0 e k v n cs∧L=v.ownBlock.toList
theorem OwnR.lst {w:World}{k n:Nat}{v:Value}{L:List Nat}{cs:List Value}(h:OwnR w k v n L cs):∀ b∈L,b<w.heap.size:=by obtain⟨e,h,rfl⟩:=h;exact h.lst
theorem OwnR.frm {w w' : World}{k n:Nat}{v:Value}{L:List Nat}{cs:List Value}(h:OwnR w k v n L cs)(hf:∀ b∈L,w'.heap[b]?=w.heap[b]?):OwnR w' k v n L cs:=by obtain⟨e,h,rfl⟩:=h;exact⟨e,h.frm hf,rfl⟩
theorem OwnR.form {w:World}{k n:Nat}{v:Value}{L:List Nat}{cs:List Value}(h:OwnR w k v n L cs):∃ A c,v=.slice A n c∧n≤c∧c≤maxLen:=by
 obtain⟨e,h,_⟩:=h
 rcases h.2 with ⟨rfl,rfl⟩|⟨g,cap,cur,rfl,_,_,h1,h2,_⟩
 ·exact⟨_,_,rfl,Nat.le_refl _,Nat.zero_le _⟩
 ·exact⟨_,_,rfl,h1,h2⟩
theorem OwnR.nodup {w:World}{k n:Nat}{v:Value}{L:List Nat}{cs:List Value}(h:OwnR w k v n L cs):L.Nodup:=by
 obtain⟨e,_,rfl⟩:=h
 cases v.ownBlock<;>simp
mutual
def owC (w:World):D→Value→List Nat→Prop
 | .i k n,v,L=>(v=.int k n∧rngI k n)∧L=[]
 | .b x,v,L=>v=.bool x∧L=[]
 | .s t,v,L=>(v=.string t∧t.size≤9223372036854775807)∧L=[]
 | .a _,v,L=>v.oneCell'=true∧L=[]
 | .sl k xs,v,L=>∃ L0 cs L1,OwnR w k v xs.length L0 cs∧owE w k xs cs L1∧L=L0++L1
def owCs (w:World):List D→List Value→List Nat→Prop
 | [],vs,L=>vs=[]∧L=[]
 | x::xs,vs,L=>∃ v r L0 L1,vs=v::r∧L=L0++L1∧owC w x v L0∧owCs w xs r L1
def owE (w:World)(k:Nat):List D→List Value→List Nat→Prop
 | [],vs,L=>vs=[]∧L=[]
 | x::xs,vs,L=>∃ c r L0 L1,vs=c++r∧L=L0++L1∧c.length=k∧(match x with|.a cs=>owCs w cs c L0|y=>∃ v,c=[v]∧owC w y v L0)∧owE w k xs r L1
end
theorem k2g {w:World}{x:D}{c:List Value}{L:List Nat}:owCs w [x] c L↔∃ v,c=[v]∧owC w x v L:=by
 simp only[owCs]
 constructor
 ·rintro⟨v,r,L0,L1,h1,h2,h3,h4,h5⟩;subst h4;subst h5;exact⟨v,h1,by rw[h2,List.append_nil];exact h3⟩
 ·rintro⟨v,h1,h2⟩;exact⟨v,[],L,[],h1,by simp,h2,rfl,rfl⟩
theorem j2Y {w:World}{k:Nat}{x:D}{xs:List D}{vs:List Value}{L:List Nat}:owE w k (x::xs) vs L↔∃ c r L0 L1,vs=c++r∧L=L0++L1∧c.length=k∧owCs w x.cells c L0∧owE w k xs r L1:=by
 rw[owE]
 cases x<;>simp only[D.cells,k2g]
mutual
theorem owC.frm {w w' : World}:∀ {x:D} {v:Value} {L:List Nat},owC w x v L→(∀ b∈L,w'.heap[b]?=w.heap[b]?)→owC w' x v L
 | .i _ _,_,_,h,_=>h
 | .b _,_,_,h,_=>h
 | .s _,_,_,h,_=>h
 | .a _,_,_,h,_=>h
 | .sl k xs,v,L,h,hf=>by
  rw[owC] at h ⊢
  obtain⟨L0,cs,L1,h1,h2,rfl⟩:=h
  exact⟨L0,cs,L1,h1.frm fun b hb=>hf b (by simp[hb]),owE.frm h2 fun b hb=>hf b (by simp[hb]),rfl⟩
theorem owCs.frm {w w' : World}:∀ {x:List D} {v:List Value} {L:List Nat},owCs w x v L→(∀ b∈L,w'.heap[b]?=w.heap[b]?)→owCs w' x v L
 | [],_,_,h,_=>h
 | x::xs,v,L,h,hf=>by
  rw[owCs] at h ⊢
  obtain⟨v,r,L0,L1,h1,rfl,h3,h4⟩:=h
  exact⟨v,r,L0,L1,h1,rfl,owC.frm h3 fun b hb=>hf b (by simp[hb]),owCs.frm h4 fun b hb=>hf b (by simp[hb])⟩
theorem owE.frm {w w' : World}{k:Nat}:∀ {x:List D} {v:List Value} {L:List Nat},owE w k x v L→(∀ b∈L,w'.heap[b]?=w.heap[b]?)→owE w' k x v L
 | [],_,_,h,_=>h
 | .a ds::xs,v,L,h,hf=>by
  rw[owE] at h ⊢
  obtain⟨c,r,L0,L1,h1,rfl,h2,h3,h4⟩:=h
  exact⟨c,r,L0,L1,h1,rfl,h2,owCs.frm h3 fun b hb=>hf b (by simp[hb]),owE.frm h4 fun b hb=>hf b (by simp[hb])⟩
 | .i k n::xs,v,L,h,hf=>by
  rw[owE] at h ⊢
  obtain⟨c,r,L0,L1,h1,rfl,h2,h3,h4⟩:=h
  exact⟨c,r,L0,L1,h1,rfl,h2,h3,owE.frm h4 fun b hb=>hf b (by simp[hb])⟩
 | .b n::xs,v,L,h,hf=>by
  rw[owE] at h ⊢
  obtain⟨c,r,L0,L1,h1,rfl,h2,h3,h4⟩:=h
  exact⟨c,r,L0,L1,h1,rfl,h2,h3,owE.frm h4 fun b hb=>hf b (by simp[hb])⟩
 | .s n::xs,v,L,h,hf=>by
  rw[owE] at h ⊢
  obtain⟨c,r,L0,L1,h1,rfl,h2,h3,h4⟩:=h
  exact⟨c,r,L0,L1,h1,rfl,h2,h3,owE.frm h4 fun b hb=>hf b (by simp[hb])⟩
 | .sl n ys::xs,v,L,h,hf=>by
  rw[owE] at h ⊢
  obtain⟨c,r,L0,L1,h1,rfl,h2,⟨u,h3,h5⟩,h4⟩:=h
  exact⟨c,r,L0,L1,h1,rfl,h2,⟨u,h3,owC.frm h5 fun b hb=>hf b (by simp[hb])⟩,owE.frm h4 fun b hb=>hf b (by simp[hb])⟩
end
def all2 {α β:Type}(R:α→β→Prop):List α→List β→Prop
 | [],bs=>bs=[]
 | a::as,bs=>∃ b r,bs=b::r∧R a b∧all2 R as r
def cellOk (S:Md→Nat→Prop)(w:World):Cell→GC→Prop
 | .d m x,gc=>gc.own=false∧gc.L=[]∧rdC (S m) w x gc.val
 | .o m k xs,gc=>gc.own=true∧gc.k=k∧∃ cs,OwnR w k gc.val xs.length gc.L cs∧rdE (S m) w k xs cs
 | .w k xs,gc=>gc.own=true∧gc.k=k∧owC w (.sl k xs) gc.val gc.L
 | .nl _,gc=>gc.own=false∧gc.L=[]∧gc.val=.slice none 0 0
 | .u,gc=>gc.own=false∧gc.L=[]∧gc.val.oneCell'=true
def elOk (S:Md→Nat→Prop)(w:World)(k:Nat)(e:List Cell)(ge:List GC):Prop:=e.length=k∧all2 (cellOk S w) e ge
def q5k (gs:List (List GC)):List Value:=gs.flatMap (·.map (·.val))
def gbl (gs:List (List GC)):List Nat:=gs.flatMap (·.flatMap (·.L))
def rowOk (S:Md→Nat→Prop)(w:World)(es:List (List Cell))(v:Value)(k:Nat)(L:List Nat)(gs:List (List GC)):Prop:=
 OwnR w k v es.length L (q5k gs)∧all2 (elOk S w k) es gs
def elOf (m:Md)(x:D):List Cell:=x.cells.map (Cell.d m)
def holesOk (g:Nat→G)(hs:List (Nat×Nat×Nat))(gs:List (List GC)):Prop:=
 ∀ p∈hs,∀ gc,(gs[p.1]?).bind (·[p.2.1]?)=some gc→onG (g p.2.2) none fun u _=>gc.val=u
def fzC:Cell→Bool
 | .d .bo (.sl _ _)=>false
 | .d .bo (.a _)=>false
 | .o .bo _ _=>false
 | _=>true
def fzE (es:List (List Cell)):Prop:=∀ e∈es,∀ c∈e,fzC c=true
def z0r (S:Md→Nat→Prop)(w:World)(g:Nat→G):Root→G→Prop
 | .none,.none=>True
 | .dead,.dead=>True
 | .box cs,.box b T=>∃ vs,Blk w b T vs∧vrs S w g cs vs
 | .row m k' xs,.row v k L gs=>k=k'∧rowOk S w (xs.map (elOf m)) v k L gs
 | .deep m k' es hs,.row v k L gs=>(k=k'∧rowOk S w es v k L gs)∧holesOk g hs gs∧(m=.fz→fzE es)
 | _,_=>False
def bl:G→List Nat
 | .box b _=>[b]
 | .row _ _ L gs=>L++gbl gs
 | _=>[]
structure Start where
 w0:World
 own:Nat→Prop
 F0:Nat→Prop
 B:Nat→Prop
 g0:Nat→G
 n0:Nat
def SM (F B:Nat→Prop):Md→Nat→Prop
 | .fz=>F
 | .bo=>fun b=>F b∨B b
def j2r:G→G→Prop
 | .none,_=>True
 | .dead,g=>g=.dead
 | .box b T,g=>g=.box b T∨g=.dead
 | .row v k _ _,g=>g=.dead∨∃ L gs,g=.row v k L gs
structure Sim (S:Start) (F:Nat→Prop) (g:Nat→G) (σ:Nat→Root) (w:World):Prop where
 chg:Chg S.own S.w0 w
 bB:∀ b,S.B b→b<S.w0.heap.size∧¬ S.own b
 fmono:∀ b,S.F0 b→F b
 fnew:∀ b,F b→S.F0 b∨S.own b∨S.w0.heap.size≤b
 flt:∀ b,F b→b<w.heap.size
 roots:∀ i,z0r (SM F S.B) w g (σ i) (g i)
 low:∀ i,S.n0≤i→S.g0 i=.none
 hdr:∀ i,j2r (S.g0 i) (g i)
 nodup:∀ i,(bl (g i)).Nodup
 disj:∀ i j,i≠j→∀ b,b∈bl (g i)→b∉bl (g j)
 own:∀ i b,b∈bl (g i)→b<w.heap.size∧¬ F b∧¬ S.B b∧(S.own b∨S.w0.heap.size≤b)
def Pres (B:Nat→Prop)(F:Nat→Prop)(g:Nat→G)(w:World)(F' : Nat→Prop)(g' : Nat→G)(w' : World):Prop:=
 ∀ x v,vr (SM F B) w g x v→vr (SM F' B) w' g' x v
def Adv:G→G→Prop
 | .none,_=>True
 | .dead,g=>g=.dead
 | .box b T,g=>g=.box b T∨g=.dead
 | .row v k _ _,g=>g=.dead∨∃ L' gs',g=.row v k L' gs'
theorem Adv.refl (g:G):Adv g g:=by
 cases g with
 | none=>trivial
 | dead=>rfl
 | box b T=>exact .inl rfl
 | row v k L gs=>exact .inr ⟨L,gs,rfl⟩
theorem Adv.dead {g:G}(h:g≠.none):Adv g .dead:=by
 cases g with
 | none=>exact absurd rfl h
 | dead=>rfl
 | box b T=>exact .inr rfl
 | row v k L gs=>exact .inl rfl
theorem Adv.same {a g h:G}(h1:j2r a g)(h2:Adv g h):j2r a h:=by
 cases a with
 | none=>trivial
 | dead=>rw[show g=.dead from h1] at h2;exact h2
 | box b T=>
  rcases h1 with h1|h1<;>rw[h1] at h2
  ·exact h2
  ·exact .inr h2
 | row v k L gs=>
  rcases h1 with h1|⟨L1,gs1,h1⟩<;>rw[h1] at h2
  ·exact .inl h2
  ·exact h2
theorem onG.adv {g g' : G}{l:Option (Nat×Nat)}{R:Value→Nat→Prop}(h:onG g l R)(ha:Adv g g'):onG g' l R:=by
 cases g with
 | none=>exact h.elim
 | box b T=>exact h.elim
 | dead=>rw[show g'=.dead from ha];trivial
 | row v k L gs=>
  rcases ha with ha|⟨L',gs',ha⟩
  ·rw[ha];trivial
  ·rw[ha]
   intro u q hu
   cases l with
   | none=>exact h u q hu
   | some jc=>cases hu
theorem holesOk.adv {g g' : Nat→G}{hs:List (Nat×Nat×Nat)}{gs:List (List GC)}(h:holesOk g hs gs)(ha:∀ r,Adv (g r) (g' r)):holesOk g' hs gs:=
 fun p hp gc hgc=>(h p hp gc hgc).adv (ha _)
theorem holesOk.nil {g:Nat→G}{gs:List (List GC)}:holesOk g [] gs:=fun p hp=>by cases hp
section
variable {S S' : Md→Nat→Prop}{w w' : World}{g g' : Nat→G}
mutual
theorem vr.adv (hS:∀ m b o cs,S m b→b<w.heap.size→At w b o cs→S' m b∧b<w'.heap.size∧At w' b o cs)(ha:∀ r,Adv (g r) (g' r)):∀ {x:X} {v:Value},vr S w g x v→vr S' w' g' x v
 | .d m x,v,h=>by rw[vr] at h ⊢;exact h.imp (hS m)
 | .ag cs,v,h=>by rw[vr] at h ⊢;obtain⟨vs,h1,h2⟩:=h;exact⟨vs,h1,vrs.adv hS ha h2⟩
 | .tu cs,v,h=>by rw[vr] at h ⊢;obtain⟨vs,h1,h2⟩:=h;exact⟨vs,h1,vrs.adv hS ha h2⟩
 | .ref r l,v,h=>by rw[vr] at h ⊢;exact h.adv (ha r)
 | .vs r l lo n,v,h=>by rw[vr] at h ⊢;exact h.adv (ha r)
 | .pb r c,v,h=>by
  rw[vr] at h ⊢
  have:=ha r
  revert h this
  cases g r with
  | none=>intro h;exact h.elim
  | row=>intro h;exact h.elim
  | dead=>intro h hd;rw[show g' r=.dead from hd];trivial
  | box b T=>intro h hd;rcases hd with hd|hd<;>rw[hd];exact h;trivial
 | .pe r l j c,v,h=>by rw[vr] at h ⊢;exact h.adv (ha r)
 | .pf m xs,v,h=>by
  rw[vr] at h ⊢
  obtain⟨b,o,cs,h1,h2,h3,h4,h5⟩:=h
  obtain⟨k1,k2,k3⟩:=hS m b o cs h2 h3 h4
  exact⟨b,o,cs,h1,k1,k2,k3,h5.imp (hS m)⟩
 | .fn f cs,v,h=>by rw[vr] at h ⊢;obtain⟨vs,h1,h2⟩:=h;exact⟨vs,h1,vrs.adv hS ha h2⟩
 | .nl _,v,h=>by rw[vr] at h ⊢;exact h
 | .kv _,v,h=>by rw[vr] at h ⊢;exact h
 | .pv m _,v,h=>by
  rw[vr] at h ⊢
  obtain⟨b,o,h1,h2,h3,h4⟩:=h
  obtain⟨k1,k2,k3⟩:=hS m b o _ h2 h3 h4
  exact⟨b,o,h1,k1,k2,k3⟩
 | .u,v,h=>by rw[vr];trivial
theorem vrs.adv (hS:∀ m b o cs,S m b→b<w.heap.size→At w b o cs→S' m b∧b<w'.heap.size∧At w' b o cs)(ha:∀ r,Adv (g r) (g' r)):∀ {xs:List X} {vs:List Value},vrs S w g xs vs→vrs S' w' g' xs vs
 | [],vs,h=>by rw[vrs] at h ⊢;exact h
 | x::xs,vs,h=>by
  rw[vrs] at h ⊢
  obtain⟨v,r,h1,h2,h3⟩:=h
  exact⟨v,r,h1,vr.adv hS ha h2,vrs.adv hS ha h3⟩
end
theorem all2.len {α β:Type}{R:α→β→Prop}:∀ {as:List α} {bs:List β},all2 R as bs→bs.length=as.length
 | [],_,h=>by rw[show _=[] from h];rfl
 | a::as,_,⟨b,r,h1,h2,h3⟩=>by rw[h1];simp[h3.len]
theorem all2.get {α β:Type}{R:α→β→Prop}:∀ {as:List α} {bs:List β},all2 R as bs→∀ {i:Nat} {a:α},as[i]?=some a→∃ b,bs[i]?=some b∧R a b
 | [],_,h,i,a,hi=>by simp at hi
 | a::as,_,⟨b,r,h1,h2,h3⟩,0,a',hi=>by simp at hi;subst hi;subst h1;exact⟨b,rfl,h2⟩
 | a::as,_,⟨b,r,h1,h2,h3⟩,i+1,a',hi=>by subst h1;simpa using h3.get (i:=i) (by simpa using hi)
theorem all2.get' {α β:Type}{R:α→β→Prop}:∀ {as:List α} {bs:List β},all2 R as bs→∀ {i:Nat} {b:β},bs[i]?=some b→∃ a,as[i]?=some a∧R a b
 | [],_,h,i,a,hi=>by rw[show _=[] from h] at hi;simp at hi
 | a::as,_,⟨b,r,h1,h2,h3⟩,0,b',hi=>by subst h1;simp at hi;subst hi;exact⟨a,rfl,h2⟩
 | a::as,_,⟨b,r,h1,h2,h3⟩,i+1,b',hi=>by subst h1;simpa using h3.get' (i:=i) (by simpa using hi)
theorem all2.set {α β:Type}{R:α→β→Prop}:∀ {as:List α} {bs:List β},all2 R as bs→∀ {i:Nat} {a:α} {b:β},R a b→all2 R (as.set i a) (bs.set i b)
 | [],_,h,i,a,b,hr=>by rw[show _=[] from h];simp[all2]
 | a::as,_,⟨b,r,h1,h2,h3⟩,0,a',b',hr=>by subst h1;exact⟨b',r,rfl,hr,h3⟩
 | a::as,_,⟨b,r,h1,h2,h3⟩,i+1,a',b',hr=>by subst h1;exact⟨b,r.set i b',rfl,h2,h3.set hr⟩
theorem all2.append {α β:Type}{R:α→β→Prop}:∀ {as as' : List α} {bs bs' : List β},all2 R as bs→all2 R as' bs'→all2 R (as++as') (bs++bs')
 | [],_,_,_,h,h'=>by rw[show _=[] from h];exact h'
 | a::as,_,_,_,⟨b,r,h1,h2,h3⟩,h'=>by subst h1;exact⟨b,_,rfl,h2,h3.append h'⟩
theorem all2.take {α β:Type}{R:α→β→Prop}:∀ {as:List α} {bs:List β},all2 R as bs→∀ n,all2 R (as.take n) (bs.take n)
 | [],_,h,n=>by rw[show _=[] from h];simp[all2]
 | a::as,_,⟨b,r,h1,h2,h3⟩,0=>by simp[all2]
 | a::as,_,⟨b,r,h1,h2,h3⟩,n+1=>by subst h1;exact⟨b,_,rfl,h2,h3.take n⟩
theorem all2.drop {α β:Type}{R:α→β→Prop}:∀ {as:List α} {bs:List β},all2 R as bs→∀ n,all2 R (as.drop n) (bs.drop n)
 | [],_,h,n=>by rw[show _=[] from h];simp[all2]
 | a::as,_,h,0=>by simpa using h
 | a::as,_,⟨b,r,h1,h2,h3⟩,n+1=>by subst h1;simpa using h3.drop n
theorem cellOk.keep {c:Cell}{gc:GC}(h:cellOk S w c gc)(hS:∀ m b o cs,S m b→b<w.heap.size→At w b o cs→S' m b∧b<w'.heap.size∧At w' b o cs)(hL:∀ b∈gc.L,w'.heap[b]?=w.heap[b]?):cellOk S' w' c gc:=by
 cases c with
 | d m x=>exact⟨h.1,h.2.1,h.2.2.imp (hS m)⟩
 | o m k xs=>obtain⟨h1,h0,cs,h2,h3⟩:=h;exact⟨h1,h0,cs,h2.frm hL,h3.imp (hS m)⟩
 | w k xs=>exact⟨h.1,h.2.1,h.2.2.frm hL⟩
 | nl k=>exact h
 | u=>exact h
theorem cellOk.fz {c:Cell}{gc:GC}(h:cellOk S w c gc)(hc:fzC c=true)(hS:∀ b,S .fz b→S' .fz b):cellOk S' w c gc:=by
 cases c with
 | d m x=>cases m with
  | fz=>exact⟨h.1,h.2.1,h.2.2.mono hS⟩
  | bo=>cases x<;>first|(refine⟨h.1,h.2.1,?_⟩;have h2:=h.2.2;rw[rdC] at h2 ⊢;exact h2)|cases hc
 | o m k xs=>cases m with
  | fz=>obtain⟨h1,h0,cs,h2,h3⟩:=h;exact⟨h1,h0,cs,h2,h3.mono hS⟩
  | bo=>cases hc
 | w k xs=>exact h
 | nl k=>exact h
 | u=>exact h
theorem all2.imp_mem2 {α β:Type}{R R' : α→β→Prop}:∀ {as:List α} {bs:List β},all2 R as bs→(∀ a b,a∈as→R a b→R' a b)→all2 R' as bs
 | [],_,h,_=>h
 | a::as,_,⟨b,r,h1,h2,h3⟩,hR=>by subst h1;exact⟨b,r,rfl,hR _ _ (by simp) h2,h3.imp_mem2 fun a b hb=>hR a b (by simp[hb])⟩
theorem rowOk.fz {es:List (List Cell)}{v:Value}{k:Nat}{L:List Nat}{gs:List (List GC)}(h:rowOk S w es v k L gs)(hf:fzE es)(hS:∀ b,S .fz b→S' .fz b):rowOk S' w es v k L gs:=
 ⟨h.1,h.2.imp_mem2 fun e ge he hel=>⟨hel.1,hel.2.imp_mem2 fun c gc hc hcl=>hcl.fz (hf e he c hc) hS⟩⟩
theorem all2.imp_mem {α β:Type}{R R' : α→β→Prop}:∀ {as:List α} {bs:List β},all2 R as bs→(∀ a b,b∈bs→R a b→R' a b)→all2 R' as bs
 | [],_,h,_=>h
 | a::as,_,⟨b,r,h1,h2,h3⟩,hR=>by subst h1;exact⟨b,r,rfl,hR _ _ (by simp) h2,h3.imp_mem fun a b hb=>hR a b (by simp[hb])⟩
theorem rowOk.keep {es:List (List Cell)}{v:Value}{k:Nat}{L:List Nat}{gs:List (List GC)}(h:rowOk S w es v k L gs)(hS:∀ m b o cs,S m b→b<w.heap.size→At w b o cs→S' m b∧b<w'.heap.size∧At w' b o cs)(hL:∀ b∈L++gbl gs,w'.heap[b]?=w.heap[b]?):rowOk S' w' es v k L gs:=by
 refine⟨h.1.frm fun b hb=>hL b (by simp[hb]),h.2.imp_mem fun e ge hge he=>⟨he.1,he.2.imp_mem fun c gc hgc hc=>hc.keep hS fun b hb=>hL b ?_⟩⟩
 rw[List.mem_append]
 exact .inr (List.mem_flatMap.2 ⟨ge,hge,List.mem_flatMap.2 ⟨gc,hgc,hb⟩⟩)
end
theorem Pres.refl {B F:Nat→Prop}{g:Nat→G}{w:World}:Pres B F g w F g w:=fun _ _ h=>h
section
variable {S:Start}{F F' : Nat→Prop}{g g' : Nat→G}{σ σ' : Nat→Root}{w w' : World}
theorem Sim.sm (h:Sim S F g σ w){m:Md}{b:Nat}(hb:SM F S.B m b):b<w.heap.size∧∀ r,b∉bl (g r):=by
 cases m with
 | fz=>exact⟨h.flt b hb,fun r hr=>(h.own r b hr).2.1 hb⟩
 | bo=>
  rcases hb with hb|hb
  ·exact⟨h.flt b hb,fun r hr=>(h.own r b hr).2.1 hb⟩
  ·exact⟨Bcz (h.bB b hb).1 h.chg.size,fun r hr=>(h.own r b hr).2.2.1 hb⟩
theorem Sim.keeps {M:Nat→Prop}(h:Sim S F g σ w)(hc:Chg M w w')(hM:∀ b,M b→b<w.heap.size→∃ r,b∈bl (g r))(hF:∀ b,F b→F' b) :
  ∀ m b o cs,SM F S.B m b→b<w.heap.size→At w b o cs→SM F' S.B m b∧b<w'.heap.size∧At w' b o cs:=by
 intro m b o cs hb hl ha
 refine⟨?_,Bcz hl hc.size,ha.frame' fun _=>hc.block b hl fun hm=>?_⟩
 ·cases m with
  | fz=>exact hF b hb
  | bo=>exact hb.imp (hF b) id
 ·obtain⟨r,hr⟩:=hM b hm hl
  exact (h.sm hb).2 r hr
theorem Sim.step {M:Nat→Prop}(h:Sim S F g σ w)(R:Nat→Prop)(hc:Chg M w w')(hM:∀ b,M b→b<w.heap.size→∃ r,R r∧b∈bl (g r))
  (hrest:∀ r,¬ R r→g' r=g r∧σ' r=σ r) (ha:∀ r,R r→Adv (g r) (g' r)) (hF:∀ b,F b→F' b)
  (hF' : ∀ b,F' b→b<w'.heap.size∧(F b∨w.heap.size≤b∨∃ r,R r∧b∈bl (g r)))
  (hroots:(∀ m b o cs,SM F S.B m b→b<w.heap.size→At w b o cs→SM F' S.B m b∧b<w'.heap.size∧At w' b o cs)→Pres S.B F g w F' g' w'→∀ r,R r→z0r (SM F' S.B) w' g' (σ' r) (g' r))
  (hnd:∀ r,R r→(bl (g' r)).Nodup) (hdj:∀ i j,R i→R j→i≠j→∀ b,b∈bl (g' i)→b∉bl (g' j))
  (hbl:∀ r b,R r→b∈bl (g' r)→b<w'.heap.size∧¬ F' b∧(w.heap.size≤b∨∃ r,R r∧b∈bl (g r))) :
  Sim S F' g' σ' w'∧Pres S.B F g w F' g' w':=by
 have hk:=h.keeps (F':=F') hc (fun b hb hl=>let ⟨r,_,hr⟩:=hM b hb hl;⟨r,hr⟩) hF
 have hadv:∀ r,Adv (g r) (g' r):=fun r=>by
  by_cases hr:R r
  ·exact ha r hr
  ·rw[(hrest r hr).1];exact Adv.refl _
 have hpres:Pres S.B F g w F' g' w':=fun x v hv=>hv.adv hk hadv
 have old:∀ r b,¬ R r→b∈bl (g r)→b<w.heap.size∧¬ M b:=fun r b hr hb=>by
  have hlt:=(h.own r b hb).1
  refine⟨hlt,fun hm=>?_⟩
  obtain⟨r',hr',hb'⟩:=hM b hm hlt
  exact h.disj r r' (fun e=>hr (e▸hr')) b hb hb'
 have cross:∀ i j b,R i→¬ R j→b∈bl (g' i)→b∉bl (g j):=fun i j b hi hj hb hb2=>by
  obtain⟨_,_,h3⟩:=hbl i b hi hb
  rcases h3 with h3|⟨r,hr,h3⟩
  ·have:=(h.own j b hb2).1;omega
  ·exact h.disj r j (fun e=>hj (e▸hr)) b h3 hb2
 refine⟨⟨?_,h.bB,fun b hb=>hF b (h.fmono b hb),fun b hb=>?_,fun b hb=>(hF' b hb).1,fun i=>?_,h.low,fun i=>Adv.same (h.hdr i) (hadv i),fun i=>?_,fun i j hij b hb=>?_,fun i b hb=>?_⟩,hpres⟩
 ·refine⟨hc.os.trans h.chg.os,hc.tape.trans h.chg.tape,hc.output.trans h.chg.output,Bdz h.chg.size hc.size,fun k hk hn=>?_⟩
  have hlt:k<w.heap.size:=Bcz hk h.chg.size
  rw[hc.block k hlt fun hm=>?_]
  ·exact h.chg.block k hk hn
  ·obtain⟨r,_,hr⟩:=hM k hm hlt
   rcases (h.own r k hr).2.2.2 with h4|h4
   ·exact hn h4
   ·omega
 ·rcases (hF' b hb).2 with h1|h1|⟨r,_,h1⟩
  ·exact h.fnew b h1
  ·exact .inr (.inr (Bdz h.chg.size h1))
  ·exact .inr ((h.own r b h1).2.2.2)
 ·by_cases hi:R i
  ·exact hroots hk hpres i hi
  ·obtain⟨e1,e2⟩:=hrest i hi
   rw[e1,e2]
   have:=h.roots i
   revert this
   have hold:=old i
   cases hσ:σ i<;>cases hg:g i<;>intro this<;>try exact this.elim
   ·trivial
   ·trivial
   ·rename_i cs b T
    obtain⟨vs,h1,h2⟩:=this
    refine⟨vs,h1.chg hc (hold b hi (by simp[hg,bl])).2,h2.adv hk hadv⟩
   ·exact⟨this.1,rowOk.keep this.2 hk fun b hb=>hc.block b (hold b hi (by simpa[hg,bl] using hb)).1 (hold b hi (by simpa[hg,bl] using hb)).2⟩
   ·exact⟨⟨this.1.1,rowOk.keep this.1.2 hk fun b hb=>hc.block b (hold b hi (by simpa[hg,bl] using hb)).1 (hold b hi (by simpa[hg,bl] using hb)).2⟩,this.2.1.adv hadv,this.2.2⟩
 ·by_cases hi:R i
  ·exact hnd i hi
  ·rw[(hrest i hi).1];exact h.nodup i
 ·by_cases hi:R i<;>by_cases hj:R j
  ·exact hdj i j hi hj hij b hb
  ·rw[(hrest j hj).1];exact cross i j b hi hj hb
  ·rw[(hrest i hi).1] at hb
   intro hb2
   exact cross j i b hj hi hb2 hb
  ·rw[(hrest i hi).1] at hb
   rw[(hrest j hj).1]
   exact h.disj i j hij b hb
 ·by_cases hi:R i
  ·obtain⟨h1,h2,h3⟩:=hbl i b hi hb
   refine⟨h1,h2,fun hB=>?_,?_⟩
   ·rcases h3 with h3|⟨r,_,h3⟩
    ·have:=(h.bB b hB).1;have:=h.chg.size;omega
    ·exact (h.own r b h3).2.2.1 hB
   ·rcases h3 with h3|⟨r,_,h3⟩
    ·exact .inr (Bdz h.chg.size h3)
    ·exact (h.own r b h3).2.2.2
  ·rw[(hrest i hi).1] at hb
   obtain⟨h1,h2,h3,h4⟩:=h.own i b hb
   refine⟨Bcz h1 hc.size,fun hf=>?_,h3,h4⟩
   rcases (hF' b hf).2 with h5|h5|⟨r,hr,h5⟩
   ·exact h2 h5
   ·omega
   ·exact h.disj r i (fun e=>hi (e▸hr)) b h5 hb
theorem Sim.ext (h:Sim S F g σ w)(hc:Ext w w')(hF:∀ b,F b→F' b)(hF' : ∀ b,F' b→b<w'.heap.size∧(F b∨w.heap.size≤b)):Sim S F' g σ w'∧Pres S.B F g w F' g w':=
 h.step (fun _=>False) hc (fun _ h _=>h.elim) (fun _ _=>⟨rfl,rfl⟩) (fun _ h=>h.elim) hF (fun b hb=>⟨(hF' b hb).1,(hF' b hb).2.imp id .inl⟩) (fun _ _ _ h=>h.elim) (fun _ h=>h.elim) (fun _ _ h=>h.elim) (fun _ _ h=>h.elim)
theorem Sim.new (h:Sim S F g σ w){r:Nat}{x:Root}{y:G}(hr:σ r=.none)(hc:Ext w w')(hroot:(∀ m b o cs,SM F S.B m b→b<w.heap.size→At w b o cs→SM F S.B m b∧b<w'.heap.size∧At w' b o cs)→Pres S.B F g w F (fun i=>if i=r then y else g i) w'→z0r (SM F S.B) w' (fun i=>if i=r then y else g i) x y)
  (hnd:(bl y).Nodup) (hbl:∀ b∈bl y,w.heap.size≤b∧b<w'.heap.size) :
  Sim S F (fun i=>if i=r then y else g i) (fun i=>if i=r then x else σ i) w'∧Pres S.B F g w F (fun i=>if i=r then y else g i) w':=by
 have hg:g r=.none:=by
  have:=h.roots r
  rw[hr] at this
  revert this
  cases g r<;>intro h<;>first|rfl|exact h.elim
 refine h.step (fun i=>i=r) hc (fun _ h _=>h.elim) (fun i hi=>⟨ifN hi,ifN hi⟩) (fun i hi=>by subst hi;rw[hg];trivial) (fun _ h=>h) (fun b hb=>⟨Bcz (h.flt b hb) hc.size,.inl hb⟩)
  (fun h1 h2 i hi=>by subst hi;simp only[if_true];exact hroot h1 h2) (fun i hi=>by subst hi;simpa using hnd) (fun i j hi hj hij=>absurd (hi.trans hj.symm) hij) (fun i b hi hb=>?_)
 subst hi
 simp only[if_true] at hb
 obtain⟨h1,h2⟩:=hbl b hb
 exact⟨h2,fun hf=>by have:=h.flt b hf;omega,.inl h1⟩
end
abbrev AE:=Nat→X
def updX (ρ:AE)(d:Nat)(x:X):AE:=fun t=>bif Aaz t d then x else ρ t
def putX (ρ:AE):Option Nat→X→AE
 | some d,x=>updX ρ d x
 | none,_=>ρ
def j4q:Value→X
 | .int k n=>match rngB k n with|true=>.d .fz (.i k n)|false=>.u
 | .bool b=>.d .fz (.b b)
 | .string s=>match Nat.ble s.size 9223372036854775807 with|true=>.d .fz (.s s)|false=>.u
 | .slice none 0 0=>.nl 0
 | _=>.u
def k4e:Value→X
 | .agg cs=>.ag (cs.toList.map j4q)
 | v=>j4q v
def evX (ρ:AE):Operand→X
 | .tmp t=>ρ t
 | .const v=>k4e v
 | .global _=>.u
 | .func f=>.fn f []
def VR (S:Start)(F:Nat→Prop)(g:Nat→G)(w:World)(ρ:AE)(ρc:Env):Prop:=∀ t,vr (SM F S.B) w g (ρ t) (ρc t)
section
variable {S:Start}{F F' : Nat→Prop}{g g' : Nat→G}{w w' : World}{ρ:AE}{ρc:Env}
theorem j4r (v:Value):vr (SM F S.B) w g (j4q v) v:=by
 unfold j4q
 split
 ·split
  ·rename_i h;rw[vr,rdC];exact⟨rfl,j7q h⟩
  ·rw[vr];trivial
 ·rw[vr,rdC]
 ·split
  ·rename_i h;rw[vr,rdC];exact⟨rfl,by simpa using h⟩
  ·rw[vr];trivial
 ·rw[vr]
 ·rw[vr];trivial
theorem j2s:∀ l:List Value,vrs (SM F S.B) w g (l.map j4q) l
 | []=>by simp[vrs]
 | v::l=>by rw[List.map_cons,vrs];exact⟨v,l,rfl,j4r v,j2s l⟩
theorem VR.ev (h:VR S F g w ρ ρc)(x:Operand):vr (SM F S.B) w g (evX ρ x) (E.ev ρc x):=by
 cases x with
 | tmp t=>exact h t
 | const v=>
  simp only[evX,E.ev,k4e]
  split
  ·rename_i cs;rw[vr];exact⟨cs.toList,by simp,j2s _⟩
  ·exact j4r _
 | global k=>simp only[evX];rw[vr];trivial
 | func f=>simp only[evX];rw[vr];exact⟨[],by simp[E.ev],by rw[vrs]⟩
theorem VR.pres (h:VR S F g w ρ ρc)(hp:Pres S.B F g w F' g' w'):VR S F' g' w' ρ ρc:=fun t=>hp _ _ (h t)
theorem VR.put (h:VR S F g w ρ ρc){x:X}{v:Value}(d:Option Nat)(hx:vr (SM F S.B) w g x v):VR S F g w (putX ρ d x) (E.put ρc d v):=by
 cases d with
 | none=>exact h
 | some d=>
  intro t
  simp only[putX,E.put,updX,E.upd]
  cases Aaz t d with
  | true=>exact hx
  | false=>exact h t
end
abbrev St:=List Root
def fnOf (σ:St)(i:Nat):Root:=match σ,i with
 | [],_=>.none
 | x::_,0=>x
 | _::l,i+1=>fnOf l i
def setL:St→Nat→Root→St
 | [],0,x=>[x]
 | [],i+1,x=>.none::setL [] i x
 | _::l,0,x=>x::l
 | y::l,i+1,x=>y::setL l i x
def owrL (σ:St):List (Nat×Root)→St
 | []=>σ
 | (i,x)::l=>owrL (setL σ i x) l
def owr (σ:Nat→Root):List (Nat×Root)→Nat→Root
 | []=>σ
 | (i,x)::l=>owr (fun j=>if j=i then x else σ j) l
theorem z0N (i:Nat):fnOf [] i=.none:=by unfold fnOf;rfl
theorem q6X:∀ (σ:St) (i:Nat) (x:Root) (j:Nat),fnOf (setL σ i x) j=if j=i then x else fnOf σ j
 | [],0,x,0=>by simp[setL,fnOf]
 | [],0,x,j+1=>by simp[setL,fnOf]
 | [],i+1,x,0=>by simp[setL,fnOf]
 | [],i+1,x,j+1=>by simp[setL,fnOf,q6X [] i x j]
 | y::l,0,x,0=>by simp[setL,fnOf]
 | y::l,0,x,j+1=>by simp[setL,fnOf]
 | y::l,i+1,x,0=>by simp[setL,fnOf]
 | y::l,i+1,x,j+1=>by simp[setL,fnOf,q6X l i x j]
theorem z7r:∀ (wr:List (Nat×Root)) (σ:St),fnOf (owrL σ wr)=owr (fnOf σ) wr
 | [],σ=>rfl
 | (i,x)::l,σ=>by
  rw[owrL,owr,z7r l]
  congr 1
  funext j
  exact q6X σ i x j
theorem z7s:∀ (wr:List (Nat×Root)) (σ:Nat→Root) (j:Nat),(∀ p∈wr,p.1≠j)→owr σ wr j=σ j
 | [],_,_,_=>rfl
 | (i,x)::l,σ,j,h=>by
  rw[owr,z7s l _ j fun p hp=>h p (by simp[hp])]
  exact ifN fun e=>h (i,x) (by simp) e.symm
theorem j0h:∀ (wr:List (Nat×Root)) (σ σ' : Nat→Root) (j:Nat),(σ j=σ' j∨∃ p∈wr,p.1=j)→owr σ wr j=owr σ' wr j
 | [],_,_,j,h=>by rcases h with h|⟨_,h,_⟩;exact h;cases h
 | (i,x)::l,σ,σ',j,h=>by
  rw[owr,owr]
  refine j0h l _ _ j ?_
  by_cases hj:j=i
  ·simp[hj]
  ·simp only[ifN hj]
   rcases h with h|⟨p,hp,e⟩
   ·exact .inl h
   ·rcases List.mem_cons.1 hp with rfl|hp
    ·exact absurd e.symm hj
    ·exact .inr ⟨p,hp,e⟩
def LT (P:Program)(S:Start)(o:Oper)(ρ:AE)(σ:St)(rd:List Nat)(v:X)(wr:List (Nat×Root)):Prop:=
 ∀ σ1 F g w ρc,Sim S F g σ1 w→(∀ i∈rd,σ1 i=fnOf σ i)→(∀ p∈wr,σ1 p.1=fnOf σ p.1)→(∀ x∈o.op.operands,vr (SM F S.B) w g (evX ρ x) (E.ev ρc x)) →
  j2X P (fun vc w'=>∃ F' g',Sim S F' g' (owr σ1 wr) w'∧Pres S.B F g w F' g' w'∧vr (SM F' S.B) w' g' v vc) ((execOp (E.ev ρc) o).run P w)
def TT (P:Program)(S:Start)(o:Oper)(ρ:AE)(σ:St)(ρ' : AE)(σ' : St):Prop:=
 ∀ F g w ρc,Sim S F g (fnOf σ) w→VR S F g w ρ ρc →
  j2X P (fun vc w'=>∃ F' g',Sim S F' g' (fnOf σ') w'∧VR S F' g' w' ρ' (E.put ρc o.dst vc)) ((execOp (E.ev ρc) o).run P w)
def GH (S:Start)(ρ:AE)(σ:St)(ρ' : AE)(σ' : St):Prop:=
 ∀ F g w ρc,Sim S F g (fnOf σ) w→VR S F g w ρ ρc→∃ F' g',Sim S F' g' (fnOf σ') w∧VR S F' g' w ρ' ρc
def q3O (ops:Array Oper)(ρ:AE)(o:Oper):Option Bool:=match o.guard with
 | none=>some true
 | some (j,want)=>match (ops[j]?).bind (·.dst) with
  | some d=>match ρ d with|.d _ (.b b)=>some (b == want)|.tu []=>some false|_=>none
  | none=>none
theorem z3I {S:Start}{F:Nat→Prop}{g:Nat→G}{w:World}{ops:Array Oper}{ρ:AE}{ρc:Env}{o:Oper}{b:Bool}(h:q3O ops ρ o=some b)(hr:VR S F g w ρ ρc):gate ops ρc o=b:=by
 unfold q3O at h
 unfold gate
 split at h
 ·rename_i hg;rw[hg];simpa using h
 ·rename_i j want hg
  rw[hg]
  split at h
  ·rename_i d hd
   simp only[hd]
   split at h
   ·rename_i m b' hx
    have:=hr d
    rw[hx,vr,rdC] at this
    rw[this]
    simpa using h
   ·rename_i hx
    have:=hr d
    rw[hx,vr] at this
    obtain⟨vs,h1,h2⟩:=this
    rw[h1]
    simpa using h
   ·cases h
  ·cases h
abbrev Lg:=List (List Nat×List Nat)
def hmin (hd:Option Nat)(k:Nat):Option Nat:=match hd with|none=>some k|some j=>some j
inductive AT (P:Program) (S:Start) (ops:Array Oper) (K:AE→St→Lg→Option Nat→Prop):Nat→List Oper→AE→St→Lg→Option Nat→Prop
 | nil {k:Nat} {ρ:AE} {σ:St} {lg:Lg} {hd:Option Nat} (h:K ρ σ lg hd):AT P S ops K k [] ρ σ lg hd
 | op {k:Nat} {o:Oper} {rest:List Oper} {ρ:AE} {σ:St} {lg:Lg} {hd:Option Nat} {rd:List Nat} {v:X} {wr:List (Nat×Root)} (hg:q3O ops ρ o=some true) (hl:LT P S o ρ σ rd v wr)
   (h:AT P S ops K (k+1) rest (putX ρ o.dst v) (owrL σ wr) (lg++[(rd,wr.map (·.1))]) hd):AT P S ops K k (o::rest) ρ σ lg hd
 | off {k:Nat} {o:Oper} {rest:List Oper} {ρ:AE} {σ:St} {lg:Lg} {hd:Option Nat} (hg:q3O ops ρ o=some false)
   (h:AT P S ops K (k+1) rest (putX ρ o.dst (.tu [])) σ (lg++[([],[])]) hd):AT P S ops K k (o::rest) ρ σ lg hd
 | opT {k:Nat} {o:Oper} {rest:List Oper} {ρ ρ' : AE} {σ σ' : St} {lg:Lg} {hd:Option Nat} (hg:q3O ops ρ o=some true) (hl:TT P S o ρ σ ρ' σ')
   (h:AT P S ops K (k+1) rest ρ' σ' lg (hmin hd k)):AT P S ops K k (o::rest) ρ σ lg hd
 | gh {k:Nat} {l:List Oper} {ρ ρ' : AE} {σ σ' : St} {lg:Lg} {hd:Option Nat} (hl:GH S ρ σ ρ' σ')
   (h:AT P S ops K k l ρ' σ' lg (hmin hd k)):AT P S ops K k l ρ σ lg hd
abbrev q3Z:=Exit→AE→St→Prop
def Qc (S:Start)(Q:q3Z):Post:=fun e ρc w=>∃ ρ σ F g,Sim S F g (fnOf σ) w∧VR S F g w ρ ρc∧Q e ρ σ
def AW (P:Program)(S:Start)(n:Nat)(c:Code)(Q:q3Z)(ρ:AE)(σ:St):Prop:=
 ∀ F g w ρc,Sim S F g (fnOf σ) w→VR S F g w ρ ρc→CW P n c (Qc S Q) ρc w
section
variable {P:Program}{S:Start}{n:Nat}{Q:q3Z}{ρ:AE}{σ:St}{ops:Array Oper}
theorem j9H {Q:Post}{o:Oper}{rest:List Oper}{ρc:Env}{w:World}{R:Value→World→Prop}(hG:z4q n ops=true)(hx:OpX P ops o ρc w R)(h:∀ v w',R v w'→WL P n ops Q rest (E.put ρc o.dst v) w'):WL P n ops Q (o::rest) ρc w:=by
 intro hok a ha
 simp only[List.all_cons,Bool.and_eq_true] at hok
 unfold wpList
 rcases (hx.opW (n:=n)) with ⟨hg,hx⟩|⟨hg,hx⟩
 ·rw[ifP (by rw[z2b hG ha];exact hg)]
  exact .inl (hx a _ _ ha hok.1 fun v w' hv=>h v w' hv hok.2 _ (ha.put _ _))
 ·rw[ifN (by rw[z2b hG ha,hg];decide)]
  exact h _ _ hx hok.2 _ (ha.put _ _)
theorem AT.wl {K:AE→St→Lg→Option Nat→Prop}{Qp:Post}(hG:z4q n ops=true)(hK:∀ ρ σ lg hd,K ρ σ lg hd→∀ F g w ρc,Sim S F g (fnOf σ) w→VR S F g w ρ ρc→Qp .normal ρc w){k:Nat}{l:List Oper}{lg:Lg}{hd:Option Nat}
  (h:AT P S ops K k l ρ σ lg hd):∀ F g w ρc,Sim S F g (fnOf σ) w→VR S F g w ρ ρc→WL P n ops Qp l ρc w:=by
 induction h with
 | nil h=>exact fun F g w ρc hs hv=>WL.nil (hK _ _ _ _ h F g w ρc hs hv)
 | op hg hl _ ih=>
  intro F g w ρc hs hv
  refine j9H hG (.inl ⟨z3I hg hv,hl _ F g w ρc hs (fun _ _=>rfl) (fun _ _=>rfl) fun x _=>hv.ev x⟩) fun v w' ⟨F',g',h1,h2,h3⟩=>?_
  exact ih F' g' w' _ (by rw[z7r];exact h1) ((hv.pres h2).put _ h3)
 | off hg _ ih=>
  intro F g w ρc hs hv
  exact j9H (R:=fun v w'=>v=undef∧w'=w) hG (.inr ⟨z3I hg hv,rfl,rfl⟩) fun v w' ⟨h1,h2⟩=>by
   subst h1;subst h2
   exact ih F g _ _ hs (hv.put _ (by rw[vr];exact⟨[],rfl,by rw[vrs]⟩))
 | opT hg hl _ ih=>
  intro F g w ρc hs hv
  refine j9H hG (.inl ⟨z3I hg hv,hl F g w ρc hs hv⟩) fun v w' ⟨F',g',h1,h2⟩=>ih F' g' w' _ h1 h2
 | gh hl _ ih=>
  intro F g w ρc hs hv
  obtain⟨F',g',h1,h2⟩:=hl F g w ρc hs hv
  exact ih F' g' w ρc h1 h2
theorem z6D {n:Nat}{ops:Array Oper}(h:ops.toList.all (q8M n)=true):z4q n ops=true:=by
 refine List.all_eq_true.2 fun o ho=>?_
 have:=List.all_eq_true.1 h o ho
 simp only[q8M,Bool.and_eq_true] at this
 exact this.1.1
theorem q2e {id:Nat}(h:AT P S ops (fun ρ σ _ _=>Q .normal ρ σ) 0 ops.toList ρ σ [] none):AW P S n (.region id ops false) Q ρ σ:=by
 intro F g w ρc hs hv hok a ha
 have hok' : ops.toList.all (q8M n)=true:=by simpa[q9x] using hok
 exact q0Z (h.wl (n:=n) (Qp:=Qc S Q) (z6D hok') (fun ρ σ _ _ hq F g w ρc hs hv=>⟨ρ,σ,F,g,hs,hv,hq⟩) F g w ρc hs hv) hok a ha
@[reducible] def z6E (K:AE→St→Prop) (Q:q3Z):q3Z
 | .normal,ρ,σ=>K ρ σ
 | e,ρ,σ=>Q e ρ σ
@[reducible] def j2t (id:Nat) (Q:q3Z):q3Z
 | .exit id',ρ,σ=>if Aaz id' id then Q .normal ρ σ else Q (.exit id') ρ σ
 | e,ρ,σ=>Q e ρ σ
theorem AW.seq {x y:Code}(h:AW P S n x (z6E (fun ρ σ=>AW P S n y Q ρ σ) Q) ρ σ):AW P S n (.seq x y) Q ρ σ:=by
 intro F g w ρc hs hv
 refine CW.seq ((h F g w ρc hs hv).mono fun e ρc' w' ⟨ρ',σ',F',g',h1,h2,h3⟩=>?_)
 cases e with
 | normal=>exact h3 F' g' w' ρc' h1 h2
 | _=>exact⟨ρ',σ',F',g',h1,h2,h3⟩
theorem q0r (h:Q .normal ρ σ):AW P S n .skip Q ρ σ:=fun F g w ρc hs hv=>q0W ⟨ρ,σ,F,g,hs,hv,h⟩
theorem q0u (h:Q .ret ρ σ):AW P S n .ret Q ρ σ:=fun F g w ρc hs hv=>q0X ⟨ρ,σ,F,g,hs,hv,h⟩
theorem q0y {id:Nat}(h:Q (.exit id) ρ σ):AW P S n (.exit id) Q ρ σ:=fun F g w ρc hs hv=>q0Y ⟨ρ,σ,F,g,hs,hv,h⟩
theorem AW.block {id:Nat}{c:Code}(h:AW P S n c (j2t id Q) ρ σ):AW P S n (.block id c) Q ρ σ:=by
 intro F g w ρc hs hv
 refine CW.block ((h F g w ρc hs hv).mono fun e ρc' w' ⟨ρ',σ',F',g',h1,h2,h3⟩=>?_)
 cases e with
 | exit id'=>
  by_cases hid:id'=id
  ·subst hid
   have:Q .normal ρ' σ':=by simpa[j2t] using h3
   simp only[j0e,if_true]
   exact⟨ρ',σ',F',g',h1,h2,this⟩
  ·have hb:Aaz id' id=false:=by
    cases hbb:Aaz id' id with
    | false=>rfl
    | true=>exact absurd (Nat.eq_of_beq_eq_true hbb) hid
   have:Q (.exit id') ρ' σ':=by simpa[j2t,hb] using h3
   simp only[j0e,ifN hid]
   exact⟨ρ',σ',F',g',h1,h2,this⟩
 | _=>exact⟨ρ',σ',F',g',h1,h2,h3⟩
theorem AW.mono {c:Code}{Q' : q3Z}(h:AW P S n c Q ρ σ)(hq:∀ e ρ σ,Q e ρ σ→Q' e ρ σ):AW P S n c Q' ρ σ:=
 fun F g w ρc hs hv=>(h F g w ρc hs hv).mono fun e ρc' w' ⟨ρ',σ',F',g',h1,h2,h3⟩=>⟨ρ',σ',F',g',h1,h2,hq _ _ _ h3⟩
theorem AW.gh {c:Code}{ρ' : AE}{σ' : St}(hg:GH S ρ σ ρ' σ')(h:AW P S n c Q ρ' σ'):AW P S n c Q ρ σ:=fun F g w ρc hs hv=>
 let ⟨F',g',h1,h2⟩:=hg F g w ρc hs hv
 h F' g' w ρc h1 h2
theorem VR.boolV {F:Nat→Prop}{g:Nat→G}{w:World}{ρc:Env}(h:VR S F g w ρ ρc){c:Operand}{m:Md}{b:Bool}(hc:evX ρ c=.d m (.b b)):E.ev ρc c=.bool b:=by
 have:=h.ev c
 rw[hc,vr,rdC] at this
 exact this
theorem q0Q {c:Operand}{x y:Code}{m:Md}{b:Bool}(hc:evX ρ c=.d m (.b b))(ht:b=true→AW P S n x Q ρ σ)(hf:b=false→AW P S n y Q ρ σ):AW P S n (.cond c x y) Q ρ σ:=
 fun F g w ρc hs hv=>q2o (hv.boolV hc) (fun e=>ht e F g w ρc hs hv) fun e=>hf e F g w ρc hs hv
theorem k2h {Qp:Post}{α:Type}{c:Code}(J:α→Env→World→Prop)(μ:α→Nat)(x0:α){ρc:Env}{w:World}(h0:J x0 ρc w)
  (round:∀ x ρ w,J x ρ w→CW P n c (k6j (fun ρ' w'=>∃ x',J x' ρ' w'∧μ x'<μ x) Qp) ρ w):CW P n (.loop c) Qp ρc w:=by
 intro hok a ha b k cs
 have key:∀ (m:Nat) (x:α) (ρ:Env) (a:Act) (w:World),μ x=m→Rel n ρ a→J x ρ w →
   ∃ e a' w',lift n Qp e a' w'∧Arrives P (lone (b.at a (.code c :: .inLoop c::k)) cs w) b k cs e a' w':=by
  intro m
  induction m using Nat.strongRecOn with
  | _ m ih=>
   intro x ρ a w hm ha hj
   obtain⟨e,a₁,w₁,⟨ρ₁,hr₁,hq⟩,harr⟩:=round x ρ w hj hok a ha b (.inLoop c::k) cs
   cases e with
   | normal=>
    obtain⟨x',hj',hlt⟩:=hq
    obtain⟨e₂,a₂,w₂,hq₂,harr₂⟩:=ih (μ x') (hm▸hlt) x' ρ₁ a₁ w₁ rfl hr₁ hj'
    exact⟨e₂,a₂,w₂,hq₂,.of_steps (Steps.trans harr (.one step_inLoop)) harr₂⟩
   | exit id=>exact⟨_,a₁,w₁,⟨ρ₁,hr₁,hq⟩,.pass (x:=.inLoop c) rfl (fun _ _=>.inl (by simp)) harr⟩
   | goto l=>exact⟨_,a₁,w₁,⟨ρ₁,hr₁,hq⟩,.pass (x:=.inLoop c) rfl (fun _ _=>.inl (by simp)) harr⟩
   | ret=>exact⟨_,a₁,w₁,⟨ρ₁,hr₁,hq⟩,.pass (x:=.inLoop c) rfl (fun _ _=>.inl (by simp)) harr⟩
   | panic ch=>exact⟨_,a₁,w₁,⟨ρ₁,hr₁,hq⟩,.pass (x:=.inLoop c) rfl (fun _ _=>.inl (by simp)) harr⟩
   | outgrown=>exact⟨_,a₁,w₁,⟨ρ₁,hr₁,hq⟩,.pass (x:=.inLoop c) rfl (fun _ _=>.inl (by simp)) harr⟩
 obtain⟨e,a',w',hq,harr⟩:=key _ x0 ρc a w rfl ha h0
 exact⟨e,a',w',hq,.of_steps (.one step_loop) harr⟩
theorem q0t {α:Type}{c:Code}(env:α→AE)(st:α→St)(μ:α→Nat)(x0:α)(h0:GH S ρ σ (env x0) (st x0))
  (round:∀ x,AW P S n c (z6E (fun ρ' σ'=>∃ x',GH S ρ' σ' (env x') (st x')∧μ x'<μ x) Q) (env x) (st x)):AW P S n (.loop c) Q ρ σ:=by
 intro F g w ρc hs hv
 obtain⟨F0,g0,h1,h2⟩:=h0 F g w ρc hs hv
 refine k2h (fun x ρc w=>∃ F g,Sim S F g (fnOf (st x)) w∧VR S F g w (env x) ρc) μ x0 ⟨F0,g0,h1,h2⟩ fun x ρc w ⟨F,g,h1,h2⟩=>?_
 refine (round x F g w ρc h1 h2).mono fun e ρc' w' ⟨ρ',σ',F',g',k1,k2,k3⟩=>?_
 cases e with
 | normal=>
  obtain⟨x',hg,hlt⟩:=k3
  obtain⟨F2,g2,m1,m2⟩:=hg F' g' w' ρc' k1 k2
  exact⟨x',⟨F2,g2,m1,m2⟩,hlt⟩
 | _=>exact⟨ρ',σ',F',g',k1,k2,k3⟩
end
end Go.A
