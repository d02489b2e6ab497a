/- Abstract states of a walk: plain lemmas on the model, without conditions of their own. -/
import Derived.Test.YtodhafdaelcnlaaGreatEng2
set_option linter.unusedVariables false
set_option linter.unusedSimpArgs false
set_option linter.ambiguousOpen false
set_option linter.unusedSectionVars false
set_option linter.unnecessarySimpa false
open Nat renaming lt_of_lt_of_le->Bfz,add_mul->Arz,le_trans->Bgz,beq->Aaz
open List renaming take_succ_cons->Bhz
namespace Go.A
open Go Go.E
inductive D:Type
 | i (k:IntKind) (n:Int)|b (v:Bool)|s (t:an)|a (cs:List D)|sl (k:Nat) (xs:List D)
def eV:IntKind->Int->Prop
 | .i64,n=>-9223372036854775808<=n/\n<=9223372036854775807
 | .u8,n=>0<=n/\n<=255
 | _,_=>True
def mM:IntKind->Int->Bool
 | .i64,.ofNat m=>Nat.ble m 9223372036854775807
 | .i64,.negSucc m=>Nat.ble m 9223372036854775807
 | .u8,.ofNat m=>Nat.ble m 255
 | .u8,.negSucc _=>false
 | _,_=>true
theorem KS {k:IntKind}{n:Int}(h:mM k n=true):eV k n:=by
 cases k<;>cases n<;>simp only[mM,Nat.ble_eq,Bool.false_eq_true] at h<;>simp only[eV,Int.ofNat_eq_natCast,Int.negSucc_eq]<;>omega
def fF:D->Prop
 | .i k n=>eV k n
 | .s t=>t.size<=9223372036854775807
 | _=>True
def D.cells:D->List D
 | .a cs=>cs
 | d=>[d]
mutual
def rdC (S:Nat->Prop)(w:World):D->Value->Prop
 | .i k n,v=>v=.int k n/\eV k n
 | .b x,v=>v=.bool x
 | .s t,v=>v=.string t/\t.size<=9223372036854775807
 | .a _,_=>False
 | .sl k xs,v=>∃ A cap cells,v=.slice A xs.length cap/\xs.length<=cap/\cap<=maxLen/\bg S w k xs cells/\(xs=[]∨∃ b o,A=some ⟨b,o,none⟩/\S b/\b<w.heap.size/\At w b o cells)
def rdCs (S:Nat->Prop)(w:World):List D->List Value->Prop
 | [],vs=>vs=[]
 | x::xs,vs=>∃ v r,vs=v::r/\rdC S w x v/\rdCs S w xs r
def bg (S:Nat->Prop)(w:World)(k:Nat):List D->List Value->Prop
 | [],vs=>vs=[]
 | x::xs,vs=>∃ c r,vs=c++r/\c.length=k/\(match x with|.a cs=>rdCs S w cs c|y=>∃ v,c=[v]/\rdC S w y v)/\bg S w k xs r
end
def rd1 (S:Nat->Prop)(w:World)(x:D)(c:List Value):Prop:=rdCs S w x.cells c
theorem E3 {S:Nat->Prop}{w:World}{x:D}{c:List Value}:rdCs S w [x] c↔∃ v,c=[v]/\rdC S w x v:=by
 simp only[rdCs];exact⟨λ⟨v,r,U,W,h3⟩=>⟨v,by rw[U,h3],W⟩,λ⟨v,U,W⟩=>⟨v,[],U,W,rfl⟩⟩
theorem JI {S:Nat->Prop}{w:World}{x:D}{c:List Value}:rd1 S w x c↔(match x with|.a cs=>rdCs S w cs c|y=>∃ v,c=[v]/\rdC S w y v):=by
 cases x<;>simp only[rd1,D.cells,E3]
theorem gF {S:Nat->Prop}{w:World}{k:Nat}{x:D}{xs:List D}{vs:List Value}:bg S w k (x::xs) vs↔∃ c r,vs=c++r/\c.length=k/\rd1 S w x c/\bg S w k xs r:=by
 rw[bg];constructor<;>rintro⟨c,r,U,W,h3,h4⟩;exact⟨c,r,U,W,JI.2 h3,h4⟩;exact⟨c,r,U,W,JI.1 h3,h4⟩
section
variable {S S' : Nat->Prop}{w w' : World}
mutual
theorem rdC.imp (hS:∀ b o cs,S b->b<w.heap.size->At w b o cs->S' b/\b<w'.heap.size/\At w' b o cs):∀ {x:D} {v:Value},rdC S w x v->rdC S' w' x v
 | .i _ _,_,h=>h
 | .b _,_,h=>h
 | .s _,_,h=>h
 | .a _,_,h=>h.elim
 | .sl k xs,v,h=>by
  rw[rdC] at h ⊢;obtain⟨A,cap,cells,U,W,h3,h4,h5⟩:=h;exact⟨A,cap,cells,U,W,h3,bg.imp hS h4,h5.imp id λ⟨b,o,e,Y,hl,ha⟩=>⟨b,o,e,hS b o _ Y hl ha⟩⟩
theorem rdCs.imp (hS:∀ b o cs,S b->b<w.heap.size->At w b o cs->S' b/\b<w'.heap.size/\At w' b o cs):∀ {xs:List D} {vs:List Value},rdCs S w xs vs->rdCs S' w' xs vs
 | [],_,h=>h
 | x::xs,vs,h=>by
  rw[rdCs] at h ⊢;obtain⟨v,r,U,W,h3⟩:=h;exact⟨v,r,U,rdC.imp hS W,rdCs.imp hS h3⟩
theorem bg.imp (hS:∀ b o cs,S b->b<w.heap.size->At w b o cs->S' b/\b<w'.heap.size/\At w' b o cs):∀ {k:Nat} {xs:List D} {vs:List Value},bg S w k xs vs->bg S' w' k xs vs
 | _,[],_,h=>h
 | _,.a cs::xs,vs,h=>by
  rw[bg] at h ⊢;obtain⟨c,r,U,W,h3,h4⟩:=h;exact⟨c,r,U,W,rdCs.imp hS h3,bg.imp hS h4⟩
 | _,.i k n::xs,vs,h=>by
  rw[bg] at h ⊢;obtain⟨c,r,U,W,⟨v,h3,h5⟩,h4⟩:=h;exact⟨c,r,U,W,⟨v,h3,h5⟩,bg.imp hS h4⟩
 | _,.b x::xs,vs,h=>by
  rw[bg] at h ⊢;obtain⟨c,r,U,W,⟨v,h3,h5⟩,h4⟩:=h;exact⟨c,r,U,W,⟨v,h3,h5⟩,bg.imp hS h4⟩
 | _,.s x::xs,vs,h=>by
  rw[bg] at h ⊢;obtain⟨c,r,U,W,⟨v,h3,h5⟩,h4⟩:=h;exact⟨c,r,U,W,⟨v,h3,h5⟩,bg.imp hS h4⟩
 | _,.sl _ x::xs,vs,h=>by
  rw[bg] at h ⊢;obtain⟨c,r,U,W,⟨v,h3,h5⟩,h4⟩:=h;exact⟨c,r,U,W,⟨v,h3,rdC.imp hS h5⟩,bg.imp hS h4⟩
end
def fq (S:Nat->Prop)(w w' : World):Prop:=w.heap.size<=w'.heap.size/\∀ b,S b->b<w.heap.size->w'.heap[b]?=w.heap[b]?
theorem fq.of_chg {M:Nat->Prop}(h:cF M w w')(hm:∀ b,S b->b<w.heap.size->¬ M b):fq S w w':=⟨h.size,λb Y hl=>h.block b hl (hm b Y hl)⟩
theorem fq.of_ext (h:cd w w'):fq S w w':=.of_chg h λ_ _ _=>id
theorem fq.imp (h:fq S w w'):∀ b o cs,S b->b<w.heap.size->At w b o cs->S b/\b<w'.heap.size/\At w' b o cs:=
 λb o cs Y hl ha=>⟨Y,Bfz hl h.1,ha.frame' (h.2 b Y)⟩
theorem bg.keep {k:Nat}{x:List D}{v:List Value}(h:bg S w k x v)(hk:fq S w w'):bg S w' k x v:=h.imp hk.imp
theorem rdC.mono {x:D}{v:Value}(h:rdC S w x v)(hS:∀ b,S b->S' b):rdC S' w x v:=h.imp λb _ _ Y hl ha=>⟨hS b Y,hl,ha⟩
theorem rdCs.mono {x:List D}{v:List Value}(h:rdCs S w x v)(hS:∀ b,S b->S' b):rdCs S' w x v:=h.imp λb _ _ Y hl ha=>⟨hS b Y,hl,ha⟩
theorem bg.mono {k:Nat}{x:List D}{v:List Value}(h:bg S w k x v)(hS:∀ b,S b->S' b):bg S' w k x v:=h.imp λb _ _ Y hl ha=>⟨hS b Y,hl,ha⟩
theorem rdC.one:∀ {x:D} {v:Value},rdC S w x v->v.oneCell'=true
 | .i _ _,_,h=>by rw[rdC] at h;obtain⟨rfl,_⟩:=h;rfl
 | .b _,_,h=>by rw[rdC] at h;subst h;rfl
 | .s _,_,h=>by rw[rdC] at h;obtain⟨rfl,_⟩:=h;rfl
 | .a _,_,h=>h.elim
 | .sl k xs,v,h=>by
  rw[rdC] at h;obtain⟨A,cap,cells,rfl,_⟩:=h;rfl
theorem rdCs.len:∀ {xs:List D} {vs:List Value},rdCs S w xs vs->vs.length=xs.length
 | [],_,h=>by rw[rdCs] at h;subst h;rfl
 | x::xs,_,h=>by
  rw[rdCs] at h;obtain⟨v,r,rfl,_,h3⟩:=h;simp[h3.len]
theorem rdCs.one:∀ {xs:List D} {vs:List Value},rdCs S w xs vs->∀ v∈vs,v.oneCell'=true
 | [],_,h=>by rw[rdCs] at h;subst h;simp
 | x::xs,_,h=>by
  rw[rdCs] at h;obtain⟨v,r,rfl,W,h3⟩:=h;intro u hu;rcases List.mem_cons.1 hu with rfl|hu;exact W.one;exact h3.one u hu
theorem rdCs.get:∀ {xs:List D} {vs:List Value},rdCs S w xs vs->∀ {c:Nat} {x:D},xs[c]?=some x->∃ v,vs[c]?=some v/\rdC S w x v
 | [],_,h,c,x,hx=>by simp at hx
 | y::xs,_,h,c,x,hx=>by
  rw[rdCs] at h;obtain⟨v,r,rfl,W,h3⟩:=h;cases c with
  | zero=>simp at hx;subst hx;exact⟨v,rfl,W⟩
  | succ c=>simpa using h3.get (c:=c) (by simpa using hx)
theorem rdCs.take:∀ {xs:List D} {vs:List Value},rdCs S w xs vs->∀ k,rdCs S w (xs.take k) (vs.take k)
 | [],_,h,k=>by rw[rdCs] at h;subst h;simp[rdCs]
 | x::xs,_,h,0=>by simp[rdCs]
 | x::xs,_,h,k+1=>by
  rw[rdCs] at h;obtain⟨v,r,rfl,W,h3⟩:=h;simp only[Bhz,rdCs];exact⟨v,_,rfl,W,h3.take k⟩
theorem rdCs.drop:∀ {xs:List D} {vs:List Value},rdCs S w xs vs->∀ k,rdCs S w (xs.drop k) (vs.drop k)
 | [],_,h,k=>by rw[rdCs] at h;subst h;simp[rdCs]
 | x::xs,_,h,0=>by simpa using h
 | x::xs,_,h,k+1=>by
  rw[rdCs] at h;obtain⟨v,r,rfl,W,h3⟩:=h;simpa using h3.drop k
variable {k:Nat}
theorem bg.len:∀ {xs:List D} {vs:List Value},bg S w k xs vs->vs.length=xs.length*k
 | [],_,h=>by rw[bg] at h;subst h;simp
 | x::xs,_,h=>by
  obtain⟨c,r,rfl,W,_,h4⟩:=gF.1 h;simp[h4.len,W,Arz];omega
theorem bg.one:∀ {xs:List D} {vs:List Value},bg S w k xs vs->∀ v∈vs,v.oneCell'=true
 | [],_,h=>by rw[bg] at h;subst h;simp
 | x::xs,_,h=>by
  obtain⟨c,r,rfl,W,h3,h4⟩:=gF.1 h;intro v hv;rcases List.mem_append.1 hv with h|h;exact rdCs.one h3 v h;exact h4.one v h
theorem bg.append:∀ {xs ys:List D} {vs us:List Value},bg S w k xs vs->bg S w k ys us->bg S w k (xs++ys) (vs++us)
 | [],ys,_,us,h,W=>by rw[bg] at h;subst h;simpa using W
 | x::xs,ys,_,us,h,W=>by
  obtain⟨c,r,rfl,hl,h3,h4⟩:=gF.1 h;rw[List.cons_append,List.append_assoc];exact gF.2 ⟨c,_,rfl,hl,h3,h4.append W⟩
theorem bg.get:∀ {xs:List D} {vs:List Value},bg S w k xs vs->∀ {i:Nat} {x:D},xs[i]?=some x->∃ c,c.length=k/\rd1 S w x c/\∀ j v,c[j]?=some v->vs[i*k+j]?=some v
 | [],_,h,_,_,hx=>by simp at hx
 | y::xs,_,h,0,x,hx=>by
  obtain⟨c,r,rfl,hl,h3,h4⟩:=gF.1 h;simp at hx;subst hx;refine⟨c,hl,h3,λj v hv=>?_⟩;have hj:j<c.length:=(List.getElem?_eq_some_iff.1 hv).1;rw[Nat.zero_mul,Nat.zero_add,List.getElem?_append_left hj];exact hv
 | y::xs,_,h,i+1,x,hx=>by
  obtain⟨c,r,rfl,hl,h3,h4⟩:=gF.1 h;obtain⟨c',hl',hc',hat⟩:=h4.get (i:=i) (by simpa using hx);refine⟨c',hl',hc',λj v hv=>?_⟩;have hm:(i+1)*k=k+i*k:=by rw[Arz];omega
  rw[List.getElem?_append_right (by omega)];have W:=hat j v hv;rw[show (i+1)*k+j-c.length=i*k+j by omega];exact W
theorem bg.take:∀ {xs:List D} {vs:List Value},bg S w k xs vs->∀ n,bg S w k (xs.take n) (vs.take (n*k))
 | [],_,h,n=>by rw[bg] at h;subst h;simp[bg]
 | x::xs,_,h,0=>by simp[bg]
 | x::xs,_,h,n+1=>by
  obtain⟨c,r,rfl,hl,h3,h4⟩:=gF.1 h;have hm:(n+1)*k=c.length+n*k:=by rw[hl,Arz];omega
  rw[hm,List.take_length_add_append,Bhz];exact gF.2 ⟨c,_,rfl,hl,h3,h4.take n⟩
theorem bg.drop:∀ {xs:List D} {vs:List Value},bg S w k xs vs->∀ n,bg S w k (xs.drop n) (vs.drop (n*k))
 | [],_,h,n=>by rw[bg] at h;subst h;simp[bg]
 | x::xs,_,h,0=>by simpa using h
 | x::xs,_,h,n+1=>by
  obtain⟨c,r,rfl,hl,h3,h4⟩:=gF.1 h;have hm:(n+1)*k=c.length+n*k:=by rw[hl,Arz];omega
  rw[hm,List.drop_length_add_append,List.drop_succ_cons];exact h4.drop n
end
inductive Md:Type
 | fz|bo
inductive X:Type
 | d (m:Md) (x:D)|ag (cs:List X)|tu (cs:List X)
 | ref (r:Nat) (l:Option (Nat×Nat))|vs (r:Nat) (l:Option (Nat×Nat)) (lo n:Nat)
 | pb (r c:Nat)|pe (r:Nat) (l:Option (Nat×Nat)) (j c:Nat)|pf (m:Md) (xs:List D)
 | fn (f:Nat) (cs:List X)|nl (k:Nat)|u
inductive Cell:Type
 | d (m:Md) (x:D)|o (m:Md) (k:Nat) (xs:List D)|w (k:Nat) (xs:List D)|nl (k:Nat)|u
inductive aw:Type
 | none|dead|box (cs:List X)|row (m:Md) (k:Nat) (xs:List D)|deep (m:Md) (k:Nat) (es:List (List Cell)) (hs:List (Nat×Nat×Nat))
structure GC where
 val:Value
 own:Bool
 k:Nat
 L:List Nat
inductive G:Type
 | none|dead|box (b T:Nat)|row (v:Value) (k:Nat) (L:List Nat) (gs:List (List GC))
def G.at:G->Option (Nat×Nat)->Option (Value×Nat)
 | .row v k _ _,.none=>some (v,k)
 | _,_=>.none
def nd (g:G)(l:Option (Nat×Nat))(R:Value->Nat->Prop):Prop:=match g with
 | .dead=>True
 | .row v k L gs=>∀ u q,G.at (.row v k L gs) l=some (u,q)->R u q
 | _=>False
def ml (v:Value)(k lo n:Nat)(u:Value):Prop:=
 ∃ A m cp A' cp',v=.slice A m cp/\lo+n<=m/\u=.slice A' n cp'/\n<=cp'/\cp'<=maxLen/\(n=0∨∃ b,A=some ⟨b,0,none⟩/\A'=some ⟨b,lo*k,none⟩)
mutual
def vr (S:Md->Nat->Prop)(w:World)(g:Nat->G):X->Value->Prop
 | .d m x,v=>rdC (S m) w x v
 | .ag cs,v=>∃ vs:List Value,v=.agg vs.toArray/\aQ S w g cs vs
 | .tu cs,v=>∃ vs:List Value,v=.tuple vs.toArray/\aQ S w g cs vs
 | .ref r l,v=>nd (g r) l λu _=>v=u
 | .vs r l lo n,v=>nd (g r) l λu k=>ml u k lo n v
 | .pb r c,v=>match g r with|.box b _=>v=.pointer (some ⟨b,c,none⟩)|.dead=>True|_=>False
 | .pe r l j c,v=>nd (g r) l λu k=>∃ b n cp,u=.slice (some ⟨b,0,none⟩) n cp/\j<n/\v=.pointer (some ⟨b,j*k+c,none⟩)
 | .pf m xs,v=>∃ b o cs,v=.pointer (some ⟨b,o,none⟩)/\S m b/\b<w.heap.size/\At w b o cs/\rdCs (S m) w xs cs
 | .fn f cs,v=>∃ vs:List Value,v=.func (.func f) #[] vs.toArray/\aQ S w g cs vs
 | .nl _,v=>v=.slice none 0 0
 | .u,_=>True
def aQ (S:Md->Nat->Prop)(w:World)(g:Nat->G):List X->List Value->Prop
 | [],vs=>vs=[]
 | x::xs,vs=>∃ v r,vs=v::r/\vr S w g x v/\aQ S w g xs r
end
def bL (w:World)(k:Nat)(v:Value)(n:Nat)(L:List Nat)(cs:List Value):Prop:=∃ e,Own w 0 e k v n cs/\L=v.ownBlock.toList
theorem bL.lst {w:World}{k n:Nat}{v:Value}{L:List Nat}{cs:List Value}(h:bL w k v n L cs):∀ b∈L,b<w.heap.size:=by obtain⟨e,h,rfl⟩:=h;exact h.lst
theorem bL.frm {w w' : World}{k n:Nat}{v:Value}{L:List Nat}{cs:List Value}(h:bL w k v n L cs)(hf:∀ b∈L,w'.heap[b]?=w.heap[b]?):bL w' k v n L cs:=by obtain⟨e,h,rfl⟩:=h;exact⟨e,h.frm hf,rfl⟩
theorem bL.form {w:World}{k n:Nat}{v:Value}{L:List Nat}{cs:List Value}(h:bL w k v n L cs):∃ A c,v=.slice A n c/\n<=c/\c<=maxLen:=by
 obtain⟨e,h,_⟩:=h;rcases h.2 with ⟨rfl,rfl⟩|⟨g,cap,cur,rfl,_,_,U,W,_⟩
 exact⟨_,_,rfl,Nat.le_refl _,Nat.zero_le _⟩;exact⟨_,_,rfl,U,W⟩
theorem bL.nodup {w:World}{k n:Nat}{v:Value}{L:List Nat}{cs:List Value}(h:bL w k v n L cs):L.Nodup:=by
 obtain⟨e,_,rfl⟩:=h;cases v.ownBlock<;>simp
mutual
def fl (w:World):D->Value->List Nat->Prop
 | .i k n,v,L=>(v=.int k n/\eV k n)/\L=[]
 | .b x,v,L=>v=.bool x/\L=[]
 | .s t,v,L=>(v=.string t/\t.size<=9223372036854775807)/\L=[]
 | .a _,_,_=>False
 | .sl k xs,v,L=>∃ L0 cs L1,bL w k v xs.length L0 cs/\dk w k xs cs L1/\L=L0++L1
def cz (w:World):List D->List Value->List Nat->Prop
 | [],vs,L=>vs=[]/\L=[]
 | x::xs,vs,L=>∃ v r L0 L1,vs=v::r/\L=L0++L1/\fl w x v L0/\cz w xs r L1
def dk (w:World)(k:Nat):List D->List Value->List Nat->Prop
 | [],vs,L=>vs=[]/\L=[]
 | x::xs,vs,L=>∃ c r L0 L1,vs=c++r/\L=L0++L1/\c.length=k/\(match x with|.a cs=>cz w cs c L0|y=>∃ v,c=[v]/\fl w y v L0)/\dk w k xs r L1
end
theorem VE {w:World}{x:D}{c:List Value}{L:List Nat}:cz w [x] c L↔∃ v,c=[v]/\fl w x v L:=by
 simp only[cz];constructor;rintro⟨v,r,L0,L1,U,W,h3,h4,h5⟩;subst h4;subst h5;exact⟨v,U,by rw[W,List.append_nil];exact h3⟩;rintro⟨v,U,W⟩;exact⟨v,[],L,[],U,by simp,W,rfl,rfl⟩
theorem E2 {w:World}{k:Nat}{x:D}{xs:List D}{vs:List Value}{L:List Nat}:dk w k (x::xs) vs L↔∃ c r L0 L1,vs=c++r/\L=L0++L1/\c.length=k/\cz w x.cells c L0/\dk w k xs r L1:=by
 rw[dk];cases x<;>simp only[D.cells,VE]
mutual
theorem fl.frm {w w' : World}:∀ {x:D} {v:Value} {L:List Nat},fl w x v L->(∀ b∈L,w'.heap[b]?=w.heap[b]?)->fl w' x v L
 | .i _ _,_,_,h,_=>h
 | .b _,_,_,h,_=>h
 | .s _,_,_,h,_=>h
 | .a _,_,_,h,_=>h.elim
 | .sl k xs,v,L,h,hf=>by
  rw[fl] at h ⊢;obtain⟨L0,cs,L1,U,W,rfl⟩:=h;exact⟨L0,cs,L1,U.frm λb Y=>hf b (by simp[Y]),dk.frm W λb Y=>hf b (by simp[Y]),rfl⟩
theorem cz.frm {w w' : World}:∀ {x:List D} {v:List Value} {L:List Nat},cz w x v L->(∀ b∈L,w'.heap[b]?=w.heap[b]?)->cz w' x v L
 | [],_,_,h,_=>h
 | x::xs,v,L,h,hf=>by
  rw[cz] at h ⊢;obtain⟨v,r,L0,L1,U,rfl,h3,h4⟩:=h;exact⟨v,r,L0,L1,U,rfl,fl.frm h3 λb Y=>hf b (by simp[Y]),cz.frm h4 λb Y=>hf b (by simp[Y])⟩
theorem dk.frm {w w' : World}{k:Nat}:∀ {x:List D} {v:List Value} {L:List Nat},dk w k x v L->(∀ b∈L,w'.heap[b]?=w.heap[b]?)->dk w' k x v L
 | [],_,_,h,_=>h
 | .a ds::xs,v,L,h,hf=>by
  rw[dk] at h ⊢;obtain⟨c,r,L0,L1,U,rfl,W,h3,h4⟩:=h;exact⟨c,r,L0,L1,U,rfl,W,cz.frm h3 λb Y=>hf b (by simp[Y]),dk.frm h4 λb Y=>hf b (by simp[Y])⟩
 | .i k n::xs,v,L,h,hf=>by
  rw[dk] at h ⊢;obtain⟨c,r,L0,L1,U,rfl,W,h3,h4⟩:=h;exact⟨c,r,L0,L1,U,rfl,W,h3,dk.frm h4 λb Y=>hf b (by simp[Y])⟩
 | .b n::xs,v,L,h,hf=>by
  rw[dk] at h ⊢;obtain⟨c,r,L0,L1,U,rfl,W,h3,h4⟩:=h;exact⟨c,r,L0,L1,U,rfl,W,h3,dk.frm h4 λb Y=>hf b (by simp[Y])⟩
 | .s n::xs,v,L,h,hf=>by
  rw[dk] at h ⊢;obtain⟨c,r,L0,L1,U,rfl,W,h3,h4⟩:=h;exact⟨c,r,L0,L1,U,rfl,W,h3,dk.frm h4 λb Y=>hf b (by simp[Y])⟩
 | .sl n ys::xs,v,L,h,hf=>by
  rw[dk] at h ⊢;obtain⟨c,r,L0,L1,U,rfl,W,⟨u,h3,h5⟩,h4⟩:=h;exact⟨c,r,L0,L1,U,rfl,W,⟨u,h3,fl.frm h5 λb Y=>hf b (by simp[Y])⟩,dk.frm h4 λb Y=>hf b (by simp[Y])⟩
end
def aL {α β:Type}(R:α->β->Prop):List α->List β->Prop
 | [],bs=>bs=[]
 | a::as,bs=>∃ b r,bs=b::r/\R a b/\aL R as r
def aP (S:Md->Nat->Prop)(w:World):Cell->GC->Prop
 | .d m x,gc=>gc.own=false/\gc.L=[]/\rdC (S m) w x gc.val
 | .o m k xs,gc=>gc.own=true/\gc.k=k/\∃ cs,bL w k gc.val xs.length gc.L cs/\bg (S m) w k xs cs
 | .w k xs,gc=>gc.own=true/\gc.k=k/\fl w (.sl k xs) gc.val gc.L
 | .nl _,gc=>gc.own=false/\gc.L=[]/\gc.val=.slice none 0 0
 | .u,gc=>gc.own=false/\gc.L=[]/\gc.val.oneCell'=true
def eY (S:Md->Nat->Prop)(w:World)(k:Nat)(e:List Cell)(ge:List GC):Prop:=e.length=k/\aL (aP S w) e ge
def bW (gs:List (List GC)):List Value:=gs.flatMap (·.map (·.val))
def cw (gs:List (List GC)):List Nat:=gs.flatMap (·.flatMap (·.L))
def rowOk (S:Md->Nat->Prop)(w:World)(es:List (List Cell))(v:Value)(k:Nat)(L:List Nat)(gs:List (List GC)):Prop:=
 bL w k v es.length L (bW gs)/\aL (eY S w k) es gs
def bN (m:Md)(x:D):List Cell:=x.cells.map (Cell.d m)
def bj (g:Nat->G)(hs:List (Nat×Nat×Nat))(gs:List (List GC)):Prop:=
 ∀ p∈hs,∀ gc,(gs[p.1]?).bind (·[p.2.1]?)=some gc->nd (g p.2.2) none λu _=>gc.val=u
def jS:Cell->Bool
 | .d .bo (.sl _ _)=>false
 | .d .bo (.a _)=>false
 | .o .bo _ _=>false
 | _=>true
def me (es:List (List Cell)):Prop:=∀ e∈es,∀ c∈e,jS c=true
def gQ (S:Md->Nat->Prop)(w:World)(g:Nat->G):aw->G->Prop
 | .none,.none=>True
 | .dead,.dead=>True
 | .box cs,.box b T=>∃ vs,dE w b T vs/\aQ S w g cs vs
 | .row m k' xs,.row v k L gs=>k=k'/\rowOk S w (xs.map (bN m)) v k L gs
 | .deep m k' es hs,.row v k L gs=>(k=k'/\rowOk S w es v k L gs)/\bj g hs gs/\(m=.fz->me es)
 | _,_=>False
def bl:G->List Nat
 | .box b _=>[b]
 | .row _ _ L gs=>L++cw gs
 | _=>[]
structure Start where
 w0:World
 own:Nat->Prop
 F0:Nat->Prop
 B:Nat->Prop
 g0:Nat->G
 n0:Nat
def SM (F B:Nat->Prop):Md->Nat->Prop
 | .fz=>F
 | .bo=>λb=>F b∨B b
def sn:G->G->Prop
 | .none,_=>True
 | .dead,g=>g=.dead
 | .box b T,g=>g=.box b T∨g=.dead
 | .row v k _ _,g=>g=.dead∨∃ L gs,g=.row v k L gs
structure bp (S:Start) (F:Nat->Prop) (g:Nat->G) (σ:Nat->aw) (w:World):Prop where
 chg:cF S.own S.w0 w
 bB:∀ b,S.B b->b<S.w0.heap.size/\¬ S.own b
 fmono:∀ b,S.F0 b->F b
 fnew:∀ b,F b->S.F0 b∨S.own b∨S.w0.heap.size<=b
 flt:∀ b,F b->b<w.heap.size
 roots:∀ i,gQ (SM F S.B) w g (σ i) (g i)
 low:∀ i,S.n0<=i->S.g0 i=.none
 hdr:∀ i,sn (S.g0 i) (g i)
 nodup:∀ i,(bl (g i)).Nodup
 disj:∀ i j,i≠j->∀ b,b∈bl (g i)->b∉bl (g j)
 own:∀ i b,b∈bl (g i)->b<w.heap.size/\¬ F b/\¬ S.B b/\(S.own b∨S.w0.heap.size<=b)
def cj (B:Nat->Prop)(F:Nat->Prop)(g:Nat->G)(w:World)(F' : Nat->Prop)(g' : Nat->G)(w' : World):Prop:=
 ∀ x v,vr (SM F B) w g x v->vr (SM F' B) w' g' x v
def da:G->G->Prop
 | .none,_=>True
 | .dead,g=>g=.dead
 | .box b T,g=>g=.box b T∨g=.dead
 | .row v k _ _,g=>g=.dead∨∃ L' gs',g=.row v k L' gs'
theorem da.refl (g:G):da g g:=by
 cases g with
 | none=>trivial
 | dead=>rfl
 | box b T=>exact .inl rfl
 | row v k L gs=>exact .inr ⟨L,gs,rfl⟩
theorem da.dead {g:G}(h:g≠.none):da g .dead:=by
 cases g with
 | none=>exact absurd rfl h
 | dead=>rfl
 | box b T=>exact .inr rfl
 | row v k L gs=>exact .inl rfl
theorem da.same {a g h:G}(U:sn a g)(W:da g h):sn a h:=by
 cases a with
 | none=>trivial
 | dead=>rw[show g=.dead from U] at W;exact W
 | box b T=>
  rcases U with U|U<;>rw[U] at W;exact W;exact .inr W
 | row v k L gs=>
  rcases U with U|⟨L1,gs1,U⟩<;>rw[U] at W;exact .inl W;exact W
theorem nd.adv {g g' : G}{l:Option (Nat×Nat)}{R:Value->Nat->Prop}(h:nd g l R)(ha:da g g'):nd g' l R:=by
 cases g with
 | none=>exact h.elim
 | box b T=>exact h.elim
 | dead=>rw[show g'=.dead from ha];trivial
 | row v k L gs=>
  rcases ha with ha|⟨L',gs',ha⟩
  rw[ha];trivial;rw[ha];intro u q hu;cases l with
  | none=>exact h u q hu
  | some jc=>cases hu
theorem bj.adv {g g' : Nat->G}{hs:List (Nat×Nat×Nat)}{gs:List (List GC)}(h:bj g hs gs)(ha:∀ r,da (g r) (g' r)):bj g' hs gs:=
 λp hp gc hgc=>(h p hp gc hgc).adv (ha _)
theorem bj.nil {g:Nat->G}{gs:List (List GC)}:bj g [] gs:=λp hp=>by cases hp
section
variable {S S' : Md->Nat->Prop}{w w' : World}{g g' : Nat->G}
mutual
theorem vr.adv (hS:∀ m b o cs,S m b->b<w.heap.size->At w b o cs->S' m b/\b<w'.heap.size/\At w' b o cs)(ha:∀ r,da (g r) (g' r)):∀ {x:X} {v:Value},vr S w g x v->vr S' w' g' x v
 | .d m x,v,h=>by rw[vr] at h ⊢;exact h.imp (hS m)
 | .ag cs,v,h=>by rw[vr] at h ⊢;obtain⟨vs,U,W⟩:=h;exact⟨vs,U,aQ.adv hS ha W⟩
 | .tu cs,v,h=>by rw[vr] at h ⊢;obtain⟨vs,U,W⟩:=h;exact⟨vs,U,aQ.adv hS ha W⟩
 | .ref r l,v,h=>by rw[vr] at h ⊢;exact h.adv (ha r)
 | .vs r l lo n,v,h=>by rw[vr] at h ⊢;exact h.adv (ha r)
 | .pb r c,v,h=>by
  rw[vr] at h ⊢;have:=ha r;revert h this;cases g r with
  | none=>intro h;exact h.elim
  | row=>intro h;exact h.elim
  | dead=>intro h hd;rw[show g' r=.dead from hd];trivial
  | box b T=>intro h hd;rcases hd with hd|hd<;>rw[hd];exact h;trivial
 | .pe r l j c,v,h=>by rw[vr] at h ⊢;exact h.adv (ha r)
 | .pf m xs,v,h=>by
  rw[vr] at h ⊢;obtain⟨b,o,cs,U,W,h3,h4,h5⟩:=h;obtain⟨k1,k2,k3⟩:=hS m b o cs W h3 h4;exact⟨b,o,cs,U,k1,k2,k3,h5.imp (hS m)⟩
 | .fn f cs,v,h=>by rw[vr] at h ⊢;obtain⟨vs,U,W⟩:=h;exact⟨vs,U,aQ.adv hS ha W⟩
 | .nl _,v,h=>by rw[vr] at h ⊢;exact h
 | .u,v,h=>by rw[vr];trivial
theorem aQ.adv (hS:∀ m b o cs,S m b->b<w.heap.size->At w b o cs->S' m b/\b<w'.heap.size/\At w' b o cs)(ha:∀ r,da (g r) (g' r)):∀ {xs:List X} {vs:List Value},aQ S w g xs vs->aQ S' w' g' xs vs
 | [],vs,h=>by rw[aQ] at h ⊢;exact h
 | x::xs,vs,h=>by
  rw[aQ] at h ⊢;obtain⟨v,r,U,W,h3⟩:=h;exact⟨v,r,U,vr.adv hS ha W,aQ.adv hS ha h3⟩
end
theorem aL.len {α β:Type}{R:α->β->Prop}:∀ {as:List α} {bs:List β},aL R as bs->bs.length=as.length
 | [],_,h=>by rw[show _=[] from h];rfl
 | a::as,_,⟨b,r,U,W,h3⟩=>by rw[U];simp[h3.len]
theorem aL.get {α β:Type}{R:α->β->Prop}:∀ {as:List α} {bs:List β},aL R as bs->∀ {i:Nat} {a:α},as[i]?=some a->∃ b,bs[i]?=some b/\R a b
 | [],_,h,i,a,hi=>by simp at hi
 | a::as,_,⟨b,r,U,W,h3⟩,0,a',hi=>by simp at hi;subst hi;subst U;exact⟨b,rfl,W⟩
 | a::as,_,⟨b,r,U,W,h3⟩,i+1,a',hi=>by subst U;simpa using h3.get (i:=i) (by simpa using hi)
theorem aL.get' {α β:Type}{R:α->β->Prop}:∀ {as:List α} {bs:List β},aL R as bs->∀ {i:Nat} {b:β},bs[i]?=some b->∃ a,as[i]?=some a/\R a b
 | [],_,h,i,a,hi=>by rw[show _=[] from h] at hi;simp at hi
 | a::as,_,⟨b,r,U,W,h3⟩,0,b',hi=>by subst U;simp at hi;subst hi;exact⟨a,rfl,W⟩
 | a::as,_,⟨b,r,U,W,h3⟩,i+1,b',hi=>by subst U;simpa using h3.get' (i:=i) (by simpa using hi)
theorem aL.set {α β:Type}{R:α->β->Prop}:∀ {as:List α} {bs:List β},aL R as bs->∀ {i:Nat} {a:α} {b:β},R a b->aL R (as.set i a) (bs.set i b)
 | [],_,h,i,a,b,Z=>by rw[show _=[] from h];simp[aL]
 | a::as,_,⟨b,r,U,W,h3⟩,0,a',b',Z=>by subst U;exact⟨b',r,rfl,Z,h3⟩
 | a::as,_,⟨b,r,U,W,h3⟩,i+1,a',b',Z=>by subst U;exact⟨b,r.set i b',rfl,W,h3.set Z⟩
theorem aL.append {α β:Type}{R:α->β->Prop}:∀ {as as' : List α} {bs bs' : List β},aL R as bs->aL R as' bs'->aL R (as++as') (bs++bs')
 | [],_,_,_,h,h'=>by rw[show _=[] from h];exact h'
 | a::as,_,_,_,⟨b,r,U,W,h3⟩,h'=>by subst U;exact⟨b,_,rfl,W,h3.append h'⟩
theorem aL.take {α β:Type}{R:α->β->Prop}:∀ {as:List α} {bs:List β},aL R as bs->∀ n,aL R (as.take n) (bs.take n)
 | [],_,h,n=>by rw[show _=[] from h];simp[aL]
 | a::as,_,⟨b,r,U,W,h3⟩,0=>by simp[aL]
 | a::as,_,⟨b,r,U,W,h3⟩,n+1=>by subst U;exact⟨b,_,rfl,W,h3.take n⟩
theorem aL.drop {α β:Type}{R:α->β->Prop}:∀ {as:List α} {bs:List β},aL R as bs->∀ n,aL R (as.drop n) (bs.drop n)
 | [],_,h,n=>by rw[show _=[] from h];simp[aL]
 | a::as,_,h,0=>by simpa using h
 | a::as,_,⟨b,r,U,W,h3⟩,n+1=>by subst U;simpa using h3.drop n
theorem aP.keep {c:Cell}{gc:GC}(h:aP S w c gc)(hS:∀ m b o cs,S m b->b<w.heap.size->At w b o cs->S' m b/\b<w'.heap.size/\At w' b o cs)(hL:∀ b∈gc.L,w'.heap[b]?=w.heap[b]?):aP S' w' c gc:=by
 cases c with
 | d m x=>exact⟨h.1,h.2.1,h.2.2.imp (hS m)⟩
 | o m k xs=>obtain⟨U,h0,cs,W,h3⟩:=h;exact⟨U,h0,cs,W.frm hL,h3.imp (hS m)⟩
 | w k xs=>exact⟨h.1,h.2.1,h.2.2.frm hL⟩
 | nl k=>exact h
 | u=>exact h
theorem aP.fz {c:Cell}{gc:GC}(h:aP S w c gc)(hc:jS c=true)(hS:∀ b,S .fz b->S' .fz b):aP S' w c gc:=by
 cases c with
 | d m x=>cases m with
  | fz=>exact⟨h.1,h.2.1,h.2.2.mono hS⟩
  | bo=>cases x<;>first|(refine⟨h.1,h.2.1,?_⟩;have W:=h.2.2;rw[rdC] at W ⊢;exact W)|cases hc
 | o m k xs=>cases m with
  | fz=>obtain⟨U,h0,cs,W,h3⟩:=h;exact⟨U,h0,cs,W,h3.mono hS⟩
  | bo=>cases hc
 | w k xs=>exact h
 | nl k=>exact h
 | u=>exact h
theorem aL.imp_mem2 {α β:Type}{R R' : α->β->Prop}:∀ {as:List α} {bs:List β},aL R as bs->(∀ a b,a∈as->R a b->R' a b)->aL R' as bs
 | [],_,h,_=>h
 | a::as,_,⟨b,r,U,W,h3⟩,hR=>by subst U;exact⟨b,r,rfl,hR _ _ (by simp) W,h3.imp_mem2 λa b Y=>hR a b (by simp[Y])⟩
theorem rowOk.fz {es:List (List Cell)}{v:Value}{k:Nat}{L:List Nat}{gs:List (List GC)}(h:rowOk S w es v k L gs)(hf:me es)(hS:∀ b,S .fz b->S' .fz b):rowOk S' w es v k L gs:=
 ⟨h.1,h.2.imp_mem2 λe ge he hel=>⟨hel.1,hel.2.imp_mem2 λc gc hc hcl=>hcl.fz (hf e he c hc) hS⟩⟩
theorem aL.imp_mem {α β:Type}{R R' : α->β->Prop}:∀ {as:List α} {bs:List β},aL R as bs->(∀ a b,b∈bs->R a b->R' a b)->aL R' as bs
 | [],_,h,_=>h
 | a::as,_,⟨b,r,U,W,h3⟩,hR=>by subst U;exact⟨b,r,rfl,hR _ _ (by simp) W,h3.imp_mem λa b Y=>hR a b (by simp[Y])⟩
theorem rowOk.keep {es:List (List Cell)}{v:Value}{k:Nat}{L:List Nat}{gs:List (List GC)}(h:rowOk S w es v k L gs)(hS:∀ m b o cs,S m b->b<w.heap.size->At w b o cs->S' m b/\b<w'.heap.size/\At w' b o cs)(hL:∀ b∈L++cw gs,w'.heap[b]?=w.heap[b]?):rowOk S' w' es v k L gs:=by
 refine⟨h.1.frm λb Y=>hL b (by simp[Y]),h.2.imp_mem λe ge hge he=>⟨he.1,he.2.imp_mem λc gc hgc hc=>hc.keep hS λb Y=>hL b ?_⟩⟩;rw[List.mem_append];exact .inr (List.mem_flatMap.2 ⟨ge,hge,List.mem_flatMap.2 ⟨gc,hgc,Y⟩⟩)
end
theorem cj.refl {B F:Nat->Prop}{g:Nat->G}{w:World}:cj B F g w F g w:=λ_ _ h=>h
section
variable {S:Start}{F F' : Nat->Prop}{g g' : Nat->G}{σ σ' : Nat->aw}{w w' : World}
theorem bp.sm (h:bp S F g σ w){m:Md}{b:Nat}(Y:SM F S.B m b):b<w.heap.size/\∀ r,b∉bl (g r):=by
 cases m with
 | fz=>exact⟨h.flt b Y,λr Z=>(h.own r b Z).2.1 Y⟩
 | bo=>
  rcases Y with Y|Y;exact⟨h.flt b Y,λr Z=>(h.own r b Z).2.1 Y⟩;exact⟨Bfz (h.bB b Y).1 h.chg.size,λr Z=>(h.own r b Z).2.2.1 Y⟩
theorem bp.keeps {M:Nat->Prop}(h:bp S F g σ w)(hc:cF M w w')(hM:∀ b,M b->b<w.heap.size->∃ r,b∈bl (g r))(hF:∀ b,F b->F' b) :
  ∀ m b o cs,SM F S.B m b->b<w.heap.size->At w b o cs->SM F' S.B m b/\b<w'.heap.size/\At w' b o cs:=by
 intro m b o cs Y hl ha;refine⟨?_,Bfz hl hc.size,ha.frame' λ_=>hc.block b hl λhm=>?_⟩;cases m with
 | fz=>exact hF b Y
 | bo=>exact Y.imp (hF b) id
 obtain⟨r,Z⟩:=hM b hm hl;exact (h.sm Y).2 r Z
theorem bp.step {M:Nat->Prop}(h:bp S F g σ w)(R:Nat->Prop)(hc:cF M w w')(hM:∀ b,M b->b<w.heap.size->∃ r,R r/\b∈bl (g r))
  (hrest:∀ r,¬ R r->g' r=g r/\σ' r=σ r) (ha:∀ r,R r->da (g r) (g' r)) (hF:∀ b,F b->F' b)
  (hF' : ∀ b,F' b->b<w'.heap.size/\(F b∨w.heap.size<=b∨∃ r,R r/\b∈bl (g r)))
  (hroots:(∀ m b o cs,SM F S.B m b->b<w.heap.size->At w b o cs->SM F' S.B m b/\b<w'.heap.size/\At w' b o cs)->cj S.B F g w F' g' w'->∀ r,R r->gQ (SM F' S.B) w' g' (σ' r) (g' r))
  (hnd:∀ r,R r->(bl (g' r)).Nodup) (hdj:∀ i j,R i->R j->i≠j->∀ b,b∈bl (g' i)->b∉bl (g' j))
  (hbl:∀ r b,R r->b∈bl (g' r)->b<w'.heap.size/\¬ F' b/\(w.heap.size<=b∨∃ r,R r/\b∈bl (g r))) :
  bp S F' g' σ' w'/\cj S.B F g w F' g' w':=by
 have hk:=h.keeps (F':=F') hc (λb Y hl=>let ⟨r,_,Z⟩:=hM b Y hl;⟨r,Z⟩) hF;have hadv:∀ r,da (g r) (g' r):=λr=>by
  by_cases Z:R r;exact ha r Z;rw[(hrest r Z).1];exact da.refl _
 have hpres:cj S.B F g w F' g' w':=λx v hv=>hv.adv hk hadv;have old:∀ r b,¬ R r->b∈bl (g r)->b<w.heap.size/\¬ M b:=λr b Z Y=>by
  have hlt:=(h.own r b Y).1;refine⟨hlt,λhm=>?_⟩;obtain⟨r',hr',hb'⟩:=hM b hm hlt;exact h.disj r r' (λe=>Z (e▸hr')) b Y hb'
 have cross:∀ i j b,R i->¬ R j->b∈bl (g' i)->b∉bl (g j):=λi j b hi hj Y hb2=>by
  obtain⟨_,_,h3⟩:=hbl i b hi Y;rcases h3 with h3|⟨r,Z,h3⟩
  have:=(h.own j b hb2).1;omega;exact h.disj r j (λe=>hj (e▸Z)) b h3 hb2
 refine⟨⟨?_,h.bB,λb Y=>hF b (h.fmono b Y),λb Y=>?_,λb Y=>(hF' b Y).1,λi=>?_,h.low,λi=>da.same (h.hdr i) (hadv i),λi=>?_,λi j hij b Y=>?_,λi b Y=>?_⟩,hpres⟩;refine⟨hc.os.trans h.chg.os,hc.tape.trans h.chg.tape,hc.output.trans h.chg.output,Bgz h.chg.size hc.size,λk hk hn=>?_⟩;have hlt:k<w.heap.size:=Bfz hk h.chg.size;rw[hc.block k hlt λhm=>?_];exact h.chg.block k hk hn;obtain⟨r,_,Z⟩:=hM k hm hlt;rcases (h.own r k Z).2.2.2 with h4|h4;exact hn h4;omega;rcases (hF' b Y).2 with U|U|⟨r,_,U⟩
 exact h.fnew b U;exact .inr (.inr (Bgz h.chg.size U));exact .inr ((h.own r b U).2.2.2);by_cases hi:R i;exact hroots hk hpres i hi;obtain⟨e1,e2⟩:=hrest i hi;rw[e1,e2];have:=h.roots i;revert this;have hold:=old i;cases hσ:σ i<;>cases hg:g i<;>intro this<;>try exact this.elim
 trivial;trivial;rename_i cs b T;obtain⟨vs,U,W⟩:=this;refine⟨vs,U.chg hc (hold b hi (by simp[hg,bl])).2,W.adv hk hadv⟩;exact⟨this.1,rowOk.keep this.2 hk λb Y=>hc.block b (hold b hi (by simpa[hg,bl] using Y)).1 (hold b hi (by simpa[hg,bl] using Y)).2⟩;exact⟨⟨this.1.1,rowOk.keep this.1.2 hk λb Y=>hc.block b (hold b hi (by simpa[hg,bl] using Y)).1 (hold b hi (by simpa[hg,bl] using Y)).2⟩,this.2.1.adv hadv,this.2.2⟩;by_cases hi:R i;exact hnd i hi;rw[(hrest i hi).1];exact h.nodup i;by_cases hi:R i<;>by_cases hj:R j;exact hdj i j hi hj hij b Y;rw[(hrest j hj).1];exact cross i j b hi hj Y;rw[(hrest i hi).1] at Y;intro hb2;exact cross j i b hj hi hb2 Y;rw[(hrest i hi).1] at Y;rw[(hrest j hj).1];exact h.disj i j hij b Y;by_cases hi:R i;obtain⟨U,W,h3⟩:=hbl i b hi Y;refine⟨U,W,λhB=>?_,?_⟩;rcases h3 with h3|⟨r,_,h3⟩
 have:=(h.bB b hB).1;have:=h.chg.size;omega;exact (h.own r b h3).2.2.1 hB;rcases h3 with h3|⟨r,_,h3⟩
 exact .inr (Bgz h.chg.size h3);exact (h.own r b h3).2.2.2;rw[(hrest i hi).1] at Y;obtain⟨U,W,h3,h4⟩:=h.own i b Y;refine⟨Bfz U hc.size,λhf=>?_,h3,h4⟩;rcases (hF' b hf).2 with h5|h5|⟨r,Z,h5⟩
 exact W h5;omega;exact h.disj r i (λe=>hi (e▸Z)) b h5 Y
theorem bp.ext (h:bp S F g σ w)(hc:cd w w')(hF:∀ b,F b->F' b)(hF' : ∀ b,F' b->b<w'.heap.size/\(F b∨w.heap.size<=b)):bp S F' g σ w'/\cj S.B F g w F' g w':=
 h.step (λ_=>False) hc (λ_ h _=>h.elim) (λ_ _=>⟨rfl,rfl⟩) (λ_ h=>h.elim) hF (λb Y=>⟨(hF' b Y).1,(hF' b Y).2.imp id .inl⟩) (λ_ _ _ h=>h.elim) (λ_ h=>h.elim) (λ_ _ h=>h.elim) (λ_ _ h=>h.elim)
theorem bp.new (h:bp S F g σ w){r:Nat}{x:aw}{y:G}(Z:σ r=.none)(hc:cd w w')(hroot:(∀ m b o cs,SM F S.B m b->b<w.heap.size->At w b o cs->SM F S.B m b/\b<w'.heap.size/\At w' b o cs)->cj S.B F g w F (λi=>if i=r then y else g i) w'->gQ (SM F S.B) w' (λi=>if i=r then y else g i) x y)
  (hnd:(bl y).Nodup) (hbl:∀ b∈bl y,w.heap.size<=b/\b<w'.heap.size) :
  bp S F (λi=>if i=r then y else g i) (λi=>if i=r then x else σ i) w'/\cj S.B F g w F (λi=>if i=r then y else g i) w':=by
 have hg:g r=.none:=by
  have:=h.roots r;rw[Z] at this;revert this;cases g r<;>intro h<;>first|rfl|exact h.elim
 refine h.step (λi=>i=r) hc (λ_ h _=>h.elim) (λi hi=>⟨al hi,al hi⟩) (λi hi=>by subst hi;rw[hg];trivial) (λ_ h=>h) (λb Y=>⟨Bfz (h.flt b Y) hc.size,.inl Y⟩)
  (λU W i hi=>by subst hi;simp only[if_true];exact hroot U W) (λi hi=>by subst hi;simpa using hnd) (λi j hi hj hij=>absurd (hi.trans hj.symm) hij) (λi b hi Y=>?_)
 subst hi;simp only[if_true] at Y;obtain⟨U,W⟩:=hbl b Y;exact⟨W,λhf=>by have:=h.flt b hf;omega,.inl U⟩
end
abbrev AE:=Nat->X
def av (ρ:AE)(d:Nat)(x:X):AE:=λt=>bif Aaz t d then x else ρ t
def du (ρ:AE):Option Nat->X->AE
 | some d,x=>av ρ d x
 | none,_=>ρ
def wk:Value->X
 | .int k n=>match mM k n with|true=>.d .fz (.i k n)|false=>.u
 | .bool b=>.d .fz (.b b)
 | .string s=>match Nat.ble s.size 9223372036854775807 with|true=>.d .fz (.s s)|false=>.u
 | .slice none 0 0=>.nl 0
 | _=>.u
def IW:Value->X
 | .agg cs=>.ag (cs.toList.map wk)
 | v=>wk v
def aE (ρ:AE):Operand->X
 | .tmp t=>ρ t
 | .const v=>IW v
 | .global _=>.u
 | .func f=>.fn f []
def VR (S:Start)(F:Nat->Prop)(g:Nat->G)(w:World)(ρ:AE)(ρc:Env):Prop:=∀ t,vr (SM F S.B) w g (ρ t) (ρc t)
section
variable {S:Start}{F F' : Nat->Prop}{g g' : Nat->G}{w w' : World}{ρ:AE}{ρc:Env}
theorem LH (v:Value):vr (SM F S.B) w g (wk v) v:=by
 unfold wk;split;split;rename_i h;rw[vr,rdC];exact⟨rfl,KS h⟩;rw[vr];trivial;rw[vr,rdC];split;rename_i h;rw[vr,rdC];exact⟨rfl,by simpa using h⟩;rw[vr];trivial;rw[vr];rw[vr];trivial
theorem MU:∀ l:List Value,aQ (SM F S.B) w g (l.map wk) l
 | []=>by simp[aQ]
 | v::l=>by rw[List.map_cons,aQ];exact⟨v,l,rfl,LH v,MU l⟩
theorem VR.ev (h:VR S F g w ρ ρc)(x:Operand):vr (SM F S.B) w g (aE ρ x) (E.ev ρc x):=by
 cases x with
 | tmp t=>exact h t
 | const v=>
  simp only[aE,E.ev,IW];split;rename_i cs;rw[vr];exact⟨cs.toList,by simp,MU _⟩;exact LH _
 | global k=>simp only[aE];rw[vr];trivial
 | func f=>simp only[aE];rw[vr];exact⟨[],by simp[E.ev],by rw[aQ]⟩
theorem VR.pres (h:VR S F g w ρ ρc)(hp:cj S.B F g w F' g' w'):VR S F' g' w' ρ ρc:=λt=>hp _ _ (h t)
theorem VR.put (h:VR S F g w ρ ρc){x:X}{v:Value}(d:Option Nat)(hx:vr (SM F S.B) w g x v):VR S F g w (du ρ d x) (E.put ρc d v):=by
 cases d with
 | none=>exact h
 | some d=>
  intro t;simp only[du,E.put,av,E.upd];cases Aaz t d with
  | true=>exact hx
  | false=>exact h t
end
abbrev St:=List aw
def ai (σ:St)(i:Nat):aw:=match σ,i with
 | [],_=>.none
 | x::_,0=>x
 | _::l,i+1=>ai l i
def aK:St->Nat->aw->St
 | [],0,x=>[x]
 | [],i+1,x=>.none::aK [] i x
 | _::l,0,x=>x::l
 | y::l,i+1,x=>y::aK l i x
def bc (σ:St):List (Nat×aw)->St
 | []=>σ
 | (i,x)::l=>bc (aK σ i x) l
def cg (σ:Nat->aw):List (Nat×aw)->Nat->aw
 | []=>σ
 | (i,x)::l=>cg (λj=>if j=i then x else σ j) l
theorem mA (i:Nat):ai [] i=.none:=by unfold ai;rfl
theorem iY:∀ (σ:St) (i:Nat) (x:aw) (j:Nat),ai (aK σ i x) j=if j=i then x else ai σ j
 | [],0,x,0=>by simp[aK,ai]
 | [],0,x,j+1=>by simp[aK,ai]
 | [],i+1,x,0=>by simp[aK,ai]
 | [],i+1,x,j+1=>by simp[aK,ai,iY [] i x j]
 | y::l,0,x,0=>by simp[aK,ai]
 | y::l,0,x,j+1=>by simp[aK,ai]
 | y::l,i+1,x,0=>by simp[aK,ai]
 | y::l,i+1,x,j+1=>by simp[aK,ai,iY l i x j]
theorem xl:∀ (wr:List (Nat×aw)) (σ:St),ai (bc σ wr)=cg (ai σ) wr
 | [],σ=>rfl
 | (i,x)::l,σ=>by
  rw[bc,cg,xl l];congr 1;funext j;exact iY σ i x j
theorem Fy:∀ (wr:List (Nat×aw)) (σ:Nat->aw) (j:Nat),(∀ p∈wr,p.1≠j)->cg σ wr j=σ j
 | [],_,_,_=>rfl
 | (i,x)::l,σ,j,h=>by
  rw[cg,Fy l _ j λp hp=>h p (by simp[hp])];exact al λe=>h (i,x) (by simp) e.symm
theorem Fx:∀ (wr:List (Nat×aw)) (σ σ' : Nat->aw) (j:Nat),(σ j=σ' j∨∃ p∈wr,p.1=j)->cg σ wr j=cg σ' wr j
 | [],_,_,j,h=>by rcases h with h|⟨_,h,_⟩;exact h;cases h
 | (i,x)::l,σ,σ',j,h=>by
  rw[cg,cg];refine Fx l _ _ j ?_;by_cases hj:j=i;simp[hj];simp only[al hj];rcases h with h|⟨p,hp,e⟩
  exact .inl h;rcases List.mem_cons.1 hp with rfl|hp;exact absurd e.symm hj;exact .inr ⟨p,hp,e⟩
def LT (P:Program)(S:Start)(o:Oper)(ρ:AE)(σ:St)(rd:List Nat)(v:X)(wr:List (Nat×aw)):Prop:=
 ∀ σ1 F g w ρc,bp S F g σ1 w->(∀ i∈rd,σ1 i=ai σ i)->(∀ p∈wr,σ1 p.1=ai σ p.1)->(∀ x∈o.op.operands,vr (SM F S.B) w g (aE ρ x) (E.ev ρc x)) ->
  lj P (λvc w'=>∃ F' g',bp S F' g' (cg σ1 wr) w'/\cj S.B F g w F' g' w'/\vr (SM F' S.B) w' g' v vc) ((execOp (E.ev ρc) o).run P w)
def TT (P:Program)(S:Start)(o:Oper)(ρ:AE)(σ:St)(ρ' : AE)(σ' : St):Prop:=
 ∀ F g w ρc,bp S F g (ai σ) w->VR S F g w ρ ρc ->
  lj P (λvc w'=>∃ F' g',bp S F' g' (ai σ') w'/\VR S F' g' w' ρ' (E.put ρc o.dst vc)) ((execOp (E.ev ρc) o).run P w)
def GH (S:Start)(ρ:AE)(σ:St)(ρ' : AE)(σ' : St):Prop:=
 ∀ F g w ρc,bp S F g (ai σ) w->VR S F g w ρ ρc->∃ F' g',bp S F' g' (ai σ') w/\VR S F' g' w ρ' ρc
def aV (ops:Array Oper)(ρ:AE)(o:Oper):Option Bool:=match o.guard with
 | none=>some true
 | some (j,want)=>match (ops[j]?).bind (·.dst) with
  | some d=>match ρ d with|.d _ (.b b)=>some (b == want)|.tu []=>some false|_=>none
  | none=>none
theorem xC {S:Start}{F:Nat->Prop}{g:Nat->G}{w:World}{ops:Array Oper}{ρ:AE}{ρc:Env}{o:Oper}{b:Bool}(h:aV ops ρ o=some b)(Z:VR S F g w ρ ρc):dV ops ρc o=b:=by
 unfold aV at h;unfold dV;split at h;rename_i hg;rw[hg];simpa using h;rename_i j want hg;rw[hg];split at h;rename_i d hd;simp only[hd];split at h;rename_i m b' hx;have:=Z d;rw[hx,vr,rdC] at this;rw[this];simpa using h;rename_i hx;have:=Z d;rw[hx,vr] at this;obtain⟨vs,U,W⟩:=this;rw[U];simpa using h;cases h;cases h
abbrev Lg:=List (List Nat×List Nat)
def qe (hd:Option Nat)(k:Nat):Option Nat:=match hd with|none=>some k|some j=>some j
inductive AT (P:Program) (S:Start) (ops:Array Oper) (Z5:AE->St->Lg->Option Nat->Prop):Nat->List Oper->AE->St->Lg->Option Nat->Prop
 | nil {k:Nat} {ρ:AE} {σ:St} {lg:Lg} {hd:Option Nat} (h:Z5 ρ σ lg hd):AT P S ops Z5 k [] ρ σ lg hd
 | op {k:Nat} {o:Oper} {rest:List Oper} {ρ:AE} {σ:St} {lg:Lg} {hd:Option Nat} {rd:List Nat} {v:X} {wr:List (Nat×aw)} (hg:aV ops ρ o=some true) (hl:LT P S o ρ σ rd v wr)
   (h:AT P S ops Z5 (k+1) rest (du ρ o.dst v) (bc σ wr) (lg++[(rd,wr.map (·.1))]) hd):AT P S ops Z5 k (o::rest) ρ σ lg hd
 | off {k:Nat} {o:Oper} {rest:List Oper} {ρ:AE} {σ:St} {lg:Lg} {hd:Option Nat} (hg:aV ops ρ o=some false)
   (h:AT P S ops Z5 (k+1) rest (du ρ o.dst (.tu [])) σ (lg++[([],[])]) hd):AT P S ops Z5 k (o::rest) ρ σ lg hd
 | opT {k:Nat} {o:Oper} {rest:List Oper} {ρ ρ' : AE} {σ σ' : St} {lg:Lg} {hd:Option Nat} (hg:aV ops ρ o=some true) (hl:TT P S o ρ σ ρ' σ')
   (h:AT P S ops Z5 (k+1) rest ρ' σ' lg (qe hd k)):AT P S ops Z5 k (o::rest) ρ σ lg hd
 | gh {k:Nat} {l:List Oper} {ρ ρ' : AE} {σ σ' : St} {lg:Lg} {hd:Option Nat} (hl:GH S ρ σ ρ' σ')
   (h:AT P S ops Z5 k l ρ' σ' lg (qe hd k)):AT P S ops Z5 k l ρ σ lg hd
abbrev cQ:=Exit->AE->St->Prop
def Qc (S:Start)(Q:cQ):b8:=λe ρc w=>∃ ρ σ F g,bp S F g (ai σ) w/\VR S F g w ρ ρc/\Q e ρ σ
def AW (P:Program)(S:Start)(n:Nat)(c:Code)(Q:cQ)(ρ:AE)(σ:St):Prop:=
 ∀ F g w ρc,bp S F g (ai σ) w->VR S F g w ρ ρc->CW P n c (Qc S Q) ρc w
section
variable {P:Program}{S:Start}{n:Nat}{Q:cQ}{ρ:AE}{σ:St}{ops:Array Oper}
theorem DV {Q:b8}{o:Oper}{rest:List Oper}{ρc:Env}{w:World}{R:Value->World->Prop}(hG:qB n ops=true)(hx:AV P ops o ρc w R)(h:∀ v w',R v w'->WL P n ops Q rest (E.put ρc o.dst v) w'):WL P n ops Q (o::rest) ρc w:=by
 intro hok a ha;simp only[List.all_cons,Bool.and_eq_true] at hok;unfold wpList;rcases (hx.opW (n:=n)) with ⟨hg,hx⟩|⟨hg,hx⟩
 rw[ao (by rw[xE hG ha];exact hg)];exact .inl (hx a _ _ ha hok.1 λv w' hv=>h v w' hv hok.2 _ (ha.put _ _));rw[al (by rw[xE hG ha,hg];decide)];exact h _ _ hx hok.2 _ (ha.put _ _)
theorem AT.wl {Z5:AE->St->Lg->Option Nat->Prop}{Qp:b8}(hG:qB n ops=true)(hK:∀ ρ σ lg hd,Z5 ρ σ lg hd->∀ F g w ρc,bp S F g (ai σ) w->VR S F g w ρ ρc->Qp .normal ρc w){k:Nat}{l:List Oper}{lg:Lg}{hd:Option Nat}
  (h:AT P S ops Z5 k l ρ σ lg hd):∀ F g w ρc,bp S F g (ai σ) w->VR S F g w ρ ρc->WL P n ops Qp l ρc w:=by
 induction h with
 | nil h=>exact λF g w ρc hs hv=>WL.nil (hK _ _ _ _ h F g w ρc hs hv)
 | op hg hl _ ih=>
  intro F g w ρc hs hv;refine DV hG (.inl ⟨xC hg hv,hl _ F g w ρc hs (λ_ _=>rfl) (λ_ _=>rfl) λx _=>hv.ev x⟩) λv w' ⟨F',g',U,W,h3⟩=>?_;exact ih F' g' w' _ (by rw[xl];exact U) ((hv.pres W).put _ h3)
 | off hg _ ih=>
  intro F g w ρc hs hv;exact DV (R:=λv w'=>v=undef/\w'=w) hG (.inr ⟨xC hg hv,rfl,rfl⟩) λv w' ⟨U,W⟩=>by
   subst U;subst W;exact ih F g _ _ hs (hv.put _ (by rw[vr];exact⟨[],rfl,by rw[aQ]⟩))
 | opT hg hl _ ih=>
  intro F g w ρc hs hv;refine DV hG (.inl ⟨xC hg hv,hl F g w ρc hs hv⟩) λv w' ⟨F',g',U,W⟩=>ih F' g' w' _ U W
 | gh hl _ ih=>
  intro F g w ρc hs hv;obtain⟨F',g',U,W⟩:=hl F g w ρc hs hv;exact ih F' g' w ρc U W
theorem Nr {n:Nat}{ops:Array Oper}(h:ops.toList.all (gD n)=true):qB n ops=true:=by
 refine List.all_eq_true.2 λo ho=>?_;have:=List.all_eq_true.1 h o ho;simp only[gD,Bool.and_eq_true] at this;exact this.1.1
theorem HM {id:Nat}(h:AT P S ops (λρ σ _ _=>Q .normal ρ σ) 0 ops.toList ρ σ [] none):AW P S n (.region id ops false) Q ρ σ:=by
 intro F g w ρc hs hv hok a ha;have hok' : ops.toList.all (gD n)=true:=by simpa[gR] using hok
 exact CS (h.wl (n:=n) (Qp:=Qc S Q) (Nr hok') (λρ σ _ _ hq F g w ρc hs hv=>⟨ρ,σ,F,g,hs,hv,hq⟩) F g w ρc hs hv) hok a ha
@[reducible] def iO (Z5:AE->St->Prop) (Q:cQ):cQ
 | .normal,ρ,σ=>Z5 ρ σ
 | e,ρ,σ=>Q e ρ σ
@[reducible] def sk (id:Nat) (Q:cQ):cQ
 | .exit id',ρ,σ=>if Aaz id' id then Q .normal ρ σ else Q (.exit id') ρ σ
 | e,ρ,σ=>Q e ρ σ
theorem ib {x y:Code}(h:AW P S n x (iO (λρ σ=>AW P S n y Q ρ σ) Q) ρ σ):AW P S n (.seq x y) Q ρ σ:=by
 intro F g w ρc hs hv;refine CU ((h F g w ρc hs hv).mono λe ρc' w' ⟨ρ',σ',F',g',U,W,h3⟩=>?_);cases e with
 | normal=>exact h3 F' g' w' ρc' U W
 | _=>exact⟨ρ',σ',F',g',U,W,h3⟩
theorem je (h:Q .normal ρ σ):AW P S n .skip Q ρ σ:=λF g w ρc hs hv=>HU ⟨ρ,σ,F,g,hs,hv,h⟩
theorem AW.ret (h:Q .ret ρ σ):AW P S n .ret Q ρ σ:=λF g w ρc hs hv=>CW.ret ⟨ρ,σ,F,g,hs,hv,h⟩
theorem C8 {id:Nat}(h:Q (.exit id) ρ σ):AW P S n (.exit id) Q ρ σ:=λF g w ρc hs hv=>HT ⟨ρ,σ,F,g,hs,hv,h⟩
theorem AW.block {id:Nat}{c:Code}(h:AW P S n c (sk id Q) ρ σ):AW P S n (.block id c) Q ρ σ:=by
 intro F g w ρc hs hv;refine CW.block ((h F g w ρc hs hv).mono λe ρc' w' ⟨ρ',σ',F',g',U,W,h3⟩=>?_);cases e with
 | exit id'=>
  by_cases hid:id'=id;subst hid;have:Q .normal ρ' σ':=by simpa[sk] using h3
  simp only[qc,if_true];exact⟨ρ',σ',F',g',U,W,this⟩;have Y:Aaz id' id=false:=by
   cases hbb:Aaz id' id with
   | false=>rfl
   | true=>exact absurd (Nat.eq_of_beq_eq_true hbb) hid
  have:Q (.exit id') ρ' σ':=by simpa[sk,Y] using h3
  simp only[qc,al hid];exact⟨ρ',σ',F',g',U,W,this⟩
 | _=>exact⟨ρ',σ',F',g',U,W,h3⟩
theorem AW.mono {c:Code}{Q' : cQ}(h:AW P S n c Q ρ σ)(hq:∀ e ρ σ,Q e ρ σ->Q' e ρ σ):AW P S n c Q' ρ σ:=
 λF g w ρc hs hv=>(h F g w ρc hs hv).mono λe ρc' w' ⟨ρ',σ',F',g',U,W,h3⟩=>⟨ρ',σ',F',g',U,W,hq _ _ _ h3⟩
theorem AW.gh {c:Code}{ρ' : AE}{σ' : St}(hg:GH S ρ σ ρ' σ')(h:AW P S n c Q ρ' σ'):AW P S n c Q ρ σ:=λF g w ρc hs hv=>
 let ⟨F',g',U,W⟩:=hg F g w ρc hs hv
 h F' g' w ρc U W
theorem VR.boolV {F:Nat->Prop}{g:Nat->G}{w:World}{ρc:Env}(h:VR S F g w ρ ρc){c:Operand}{m:Md}{b:Bool}(hc:aE ρ c=.d m (.b b)):E.ev ρc c=.bool b:=by
 have:=h.ev c;rw[hc,vr,rdC] at this;exact this
theorem HW {c:Operand}{x y:Code}{m:Md}{b:Bool}(hc:aE ρ c=.d m (.b b))(ht:b=true->AW P S n x Q ρ σ)(hf:b=false->AW P S n y Q ρ σ):AW P S n (.cond c x y) Q ρ σ:=
 λF g w ρc hs hv=>QI (hv.boolV hc) (λe=>ht e F g w ρc hs hv) λe=>hf e F g w ρc hs hv
theorem U0 {Qp:b8}{α:Type}{c:Code}(J:α->Env->World->Prop)(μ:α->Nat)(x0:α){ρc:Env}{w:World}(h0:J x0 ρc w)
  (round:∀ x ρ w,J x ρ w->CW P n c (Ip (λρ' w'=>∃ x',J x' ρ' w'/\μ x'<μ x) Qp) ρ w):CW P n (.loop c) Qp ρc w:=by
 intro hok a ha b k cs;have key:∀ (m:Nat) (x:α) (ρ:Env) (a:Act) (w:World),μ x=m->fL n ρ a->J x ρ w ->
   ∃ e a' w',lift n Qp e a' w'/\Arrives P (lone (b.at a (.code c :: .inLoop c::k)) cs w) b k cs e a' w':=by
  intro m
  induction m using Nat.strongRecOn with
  | _ m ih=>
   intro x ρ a w hm ha hj;obtain⟨e,a₁,w₁,⟨ρ₁,hr₁,hq⟩,harr⟩:=round x ρ w hj hok a ha b (.inLoop c::k) cs;cases e with
   | normal=>
    obtain⟨x',hj',hlt⟩:=hq;obtain⟨e₂,a₂,w₂,hq₂,harr₂⟩:=ih (μ x') (hm▸hlt) x' ρ₁ a₁ w₁ rfl hr₁ hj';exact⟨e₂,a₂,w₂,hq₂,.of_steps (Steps.trans harr (.one step_inLoop)) harr₂⟩
   | exit id=>exact⟨_,a₁,w₁,⟨ρ₁,hr₁,hq⟩,.pass (x:=.inLoop c) rfl (λ_ _=>.inl (by simp)) harr⟩
   | goto l=>exact⟨_,a₁,w₁,⟨ρ₁,hr₁,hq⟩,.pass (x:=.inLoop c) rfl (λ_ _=>.inl (by simp)) harr⟩
   | ret=>exact⟨_,a₁,w₁,⟨ρ₁,hr₁,hq⟩,.pass (x:=.inLoop c) rfl (λ_ _=>.inl (by simp)) harr⟩
   | panic ch=>exact⟨_,a₁,w₁,⟨ρ₁,hr₁,hq⟩,.pass (x:=.inLoop c) rfl (λ_ _=>.inl (by simp)) harr⟩
   | outgrown=>exact⟨_,a₁,w₁,⟨ρ₁,hr₁,hq⟩,.pass (x:=.inLoop c) rfl (λ_ _=>.inl (by simp)) harr⟩
 obtain⟨e,a',w',hq,harr⟩:=key _ x0 ρc a w rfl ha h0;exact⟨e,a',w',hq,.of_steps (.one step_loop) harr⟩
theorem vJ {α:Type}{c:Code}(env:α->AE)(st:α->St)(μ:α->Nat)(x0:α)(h0:GH S ρ σ (env x0) (st x0))
  (round:∀ x,AW P S n c (iO (λρ' σ'=>∃ x',GH S ρ' σ' (env x') (st x')/\μ x'<μ x) Q) (env x) (st x)):AW P S n (.loop c) Q ρ σ:=by
 intro F g w ρc hs hv;obtain⟨F0,g0,U,W⟩:=h0 F g w ρc hs hv;refine U0 (λx ρc w=>∃ F g,bp S F g (ai (st x)) w/\VR S F g w (env x) ρc) μ x0 ⟨F0,g0,U,W⟩ λx ρc w ⟨F,g,U,W⟩=>?_;refine (round x F g w ρc U W).mono λe ρc' w' ⟨ρ',σ',F',g',k1,k2,k3⟩=>?_;cases e with
 | normal=>
  obtain⟨x',hg,hlt⟩:=k3;obtain⟨F2,g2,m1,m2⟩:=hg F' g' w' ρc' k1 k2;exact⟨x',⟨F2,g2,m1,m2⟩,hlt⟩
 | _=>exact⟨ρ',σ',F',g',k1,k2,k3⟩
end
end Go.A
