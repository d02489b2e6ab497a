/- Abstract states of a walk: plain lemmas on the model, without conditions of their own. -/
import Derived.Test.YtnhofaohogianaaGreatAb4
set_option linter.unusedVariables false
set_option linter.unusedSimpArgs false
set_option linter.ambiguousOpen false
set_option linter.unusedSectionVars false
set_option linter.unnecessarySimpa false
open List renaming append_assoc→Ayz,take_append_drop→Bzz,set_cons_zero→Caz,length_append→Awz,set_cons_succ→Cbz,length_take→Boz,length_drop→Bpz,map_congr_left→Ccz,flatMap_cons→Bgz,append_nil→Cdz,mem_cons_of_mem→Brz,nodup_append→Cez,nodup_nil→Bxz,mem_append→Cfz,getElem?_set→Cgz,getElem?_append_right→Chz,mem_of_getElem?→Bsz,mem_cons_self→Ciz,length_set→Cjz,getElem?_eq_getElem→Ckz,singleton_append→Clz,length_singleton→Cmz
open Nat renaming mul_le_mul_right→Cnz,lt_of_lt_of_le→Bcz
open Array renaming length_toList→Coz
namespace Go.A
open Go Go.E
theorem q6D (ge:List GC)(gs:List (List GC)):q5k (ge::gs)=ge.map (·.val)++q5k gs:=by simp[q5k]
theorem z0P (ge:List GC)(gs:List (List GC)):gbl (ge::gs)=ge.flatMap (·.L)++gbl gs:=by simp[gbl]
theorem j4G (a b:List (List GC)):q5k (a++b)=q5k a++q5k b:=by simp[q5k]
theorem j2y (a b:List (List GC)):gbl (a++b)=gbl a++gbl b:=by simp[gbl]
theorem j3f {k:Nat}:∀ {gs:List (List GC)} {j:Nat} {ge:List GC},(∀ g∈gs,g.length=k)→gs[j]?=some ge→∀ {c n:Nat},c+n≤k →
  ∃ (VA VM VD:List Value) (LA LM LD:List Nat),q5k gs=VA++VM++VD∧VA.length=j*k+c∧VM.length=n∧gbl gs=LA++LM++LD ∧
   ∀ news:List GC,q5k (gs.set j (ge.take c++news++ge.drop (c+n)))=VA++news.map (·.val)++VD∧gbl (gs.set j (ge.take c++news++ge.drop (c+n)))=LA++news.flatMap (·.L)++LD
 | [],j,ge,_,h,_,_,_=>by simp at h
 | g0::gs,0,ge,hk,h,c,n,hc=>by
  simp at h
  subst h
  have h0:g0.length=k:=hk g0 (by simp)
  have e:g0=g0.take c++(g0.drop c).take n++g0.drop (c+n):=by
   rw[Ayz,← List.drop_drop,Bzz,Bzz]
  refine⟨(g0.take c).map (·.val),((g0.drop c).take n).map (·.val),(g0.drop (c+n)).map (·.val)++q5k gs,(g0.take c).flatMap (·.L),((g0.drop c).take n).flatMap (·.L),(g0.drop (c+n)).flatMap (·.L)++gbl gs,?_,?_,?_,?_,fun news=>⟨?_,?_⟩⟩
  ·conv=>lhs;rw[q6D,e]
   simp
  ·simp;omega
  ·simp;omega
  ·conv=>lhs;rw[z0P,e]
   simp
  ·rw[Caz,q6D];simp
  ·rw[Caz,z0P];simp
 | g0::gs,j+1,ge,hk,h,c,n,hc=>by
  obtain⟨VA,VM,VD,LA,LM,LD,h1,h2,h3,h4,h5⟩:=j3f (gs:=gs) (j:=j) (fun g hg=>hk g (by simp[hg])) (by simpa using h) hc
  have h0:g0.length=k:=hk g0 (by simp)
  refine⟨g0.map (·.val)++VA,VM,VD,g0.flatMap (·.L)++LA,LM,LD,?_,?_,h3,?_,fun news=>⟨?_,?_⟩⟩
  ·rw[q6D,h1];simp
  ·rw[Awz,lnM,h0,h2,Nat.add_mul];omega
  ·rw[z0P,h4];simp
  ·rw[Cbz,q6D,(h5 news).1];simp
  ·rw[Cbz,z0P,(h5 news).2];simp
theorem j8z {VA VM VD l:List Value}{off:Nat}(h:VA.length=off)(hl:VM.length=l.length):q4X (VA++VM++VD) off l=VA++l++VD:=by
 unfold q4X
 subst h
 rw[Ayz VA VM VD,List.take_left,← hl]
 congr 1
 rw[List.drop_append,List.drop_of_length_le (Nat.le_add_right _ _),List.nil_append,Nat.add_sub_cancel_left,List.drop_left]
theorem j6b {X l:List Value}{N off:Nat}(h1:off+l.length≤N)(h2:N≤X.length):(q4X X off l).take N=q4X (X.take N) off l:=by
 unfold q4X
 obtain⟨Y,Z,rfl,hY⟩:∃ Y Z,X=Y++Z∧Y.length=N:=⟨X.take N,X.drop N,(Bzz _ _).symm,by simp;omega⟩
 subst hY
 have e1:(Y++Z).take off=Y.take off:=List.take_append_of_le_length (by omega)
 have e2:(Y++Z).drop (off+l.length)=Y.drop (off+l.length)++Z:=List.drop_append_of_le_length (by omega)
 rw[List.take_left,e1,e2,← Ayz]
 exact List.take_left' (by simp only[Awz,Boz,Bpz];omega)
theorem OwnR.store {P:Program}{w:World}{k:Nat}{v:Value}{n:Nat}{L:List Nat}{cs:List Value}(h:OwnR w k v n L cs){T kk j c:Nat}{u:Value}{l:List Value}(hk:szT P T=some kk)(hu:u.cells.toList=l)(hl:l.length=kk)(h1:∀ x∈l,x.oneCell'=true)(hj:j<n)(hc:c+kk≤k) :
  ∃ b cp,v=.slice (some ⟨b,0,none⟩) n cp∧b∈L∧∃ w',(storeVar T ⟨b,j*k+c,none⟩ u).run P w=.ok () w'∧Chg (· = b) w w'∧OwnR w' k v n L (q4X cs (j*k+c) l):=by
 obtain⟨e,⟨hlen,h⟩,hL⟩:=h
 rcases h with ⟨_,h⟩|⟨b,cap,cur,rfl,h0,h2,h3,h4,h5,h6⟩
 ·omega
 ·have hjn:(j+1)*k≤n*k:=Cnz k hj
  have hnc:n*k≤cap*k:=Cnz k h3
  rw[Nat.add_mul] at hjn
  have hfit:j*k+c+kk≤cur.toList.length:=by simp only[Coz];omega
  obtain⟨w',hr,hch,hb'⟩:=z9h (P:=P) (w:=w) (v:=u) (l:=l) (off:=j*k+c) hk (by rw[← hu]) hl h1 h2 hfit
  refine⟨b,cap,rfl,by rw[hL];simp[Value.ownBlock],w',hr,hch,e,⟨?_,.inr ⟨b,cap,(q4X cur.toList (j*k+c) l).toArray,rfl,h0,hb',h3,h4,?_,?_⟩⟩,hL⟩
  ·unfold q4X;simp only[Awz,Boz,Bpz,hl];omega
  ·unfold q4X;simp only[List.size_toArray,Awz,Boz,Bpz,hl,Coz]
   simp only[Coz] at hfit
   omega
  ·have h6' : cur.toList.take (n*k)=cs:=by simpa using h6
   simp only[List.toList_toArray]
   rw[← h6']
   exact j6b (by omega) (by simp only[Coz];omega)
def j0p:D→Cell
 | .sl k ys=>.w k ys
 | x=>.d .fz x
def j1R (x:D):List Cell:=x.cells.map j0p
def j6c:D→Bool
 | .sl _ _=>false
 | .a _=>false
 | _=>true
def z6H (x:D):Bool:=x.cells.all j6c
theorem j4H:∀ {d:D},j6c d=true→j0p d=.d .fz d
 | .i _ _,_=>rfl
 | .b _,_=>rfl
 | .s _,_=>rfl
 | .a _,h=>by cases h
 | .sl _ _,h=>by cases h
theorem j8A {x:D}(h:z6H x=true):j1R x=elOf .fz x:=
 Ccz fun d hd=>j4H (List.all_eq_true.1 h d hd)
theorem j6d {xs:List D}(h:∀ x∈xs,z6H x=true):xs.map j1R=xs.map (elOf .fz):=Ccz fun x hx=>j8A (h x hx)
inductive MC:Root→Cell→Prop
 | row {m:Md} {k:Nat} {xs:List D}:MC (.row m k xs) (.o m k xs)
 | own {m:Md} {k:Nat} {xs:List D}:MC (.deep m k (xs.map j1R) []) (.w k xs)
 | flat {m:Md} {k:Nat} {xs:List D} (h:∀ x∈xs,z6H x=true):MC (.row m k xs) (.w k xs)
inductive OC:Cell→Root→Prop
 | row {m:Md} {k:Nat} {xs:List D}:OC (.o m k xs) (.row m k xs)
 | own {k:Nat} {xs:List D}:OC (.w k xs) (.deep .fz k (xs.map j1R) [])
 | flat {k:Nat} {xs:List D} (h:∀ x∈xs,z6H x=true):OC (.w k xs) (.row .fz k xs)
section
variable {w:World}{S1:Md→Nat→Prop}{g:Nat→G}
theorem j9T:∀ {ds:List D} {ge:List GC},all2 (cellOk S1 w) (ds.map j0p) ge→owCs w ds (ge.map (·.val)) (ge.flatMap (·.L))
 | [],_,h=>by rw[show _=[] from h];simp[owCs]
 | d::ds,_,⟨gc,r,h1,h2,h3⟩=>by
  subst h1
  rw[List.map_cons,Bgz,owCs]
  refine⟨_,_,_,_,rfl,rfl,?_,j9T h3⟩
  cases d with
  | a cs=>have h4:=h2.2.2;rw[rdC] at h4;exact⟨h4,h2.2.1⟩
  | sl k ys=>exact h2.2.2
  | i k n=>have h4:=h2.2.2;rw[rdC] at h4;exact⟨h4,h2.2.1⟩
  | b x=>have h4:=h2.2.2;rw[rdC] at h4;exact⟨h4,h2.2.1⟩
  | s t=>have h4:=h2.2.2;rw[rdC] at h4;exact⟨h4,h2.2.1⟩
theorem k4i {k:Nat}:∀ {xs:List D} {gs:List (List GC)},all2 (elOk S1 w k) (xs.map j1R) gs→owE w k xs (q5k gs) (gbl gs)
 | [],_,h=>by rw[show _=[] from h];simp[owE,q5k,gbl]
 | x::xs,_,⟨ge,r,h1,h2,h3⟩=>by
  subst h1
  rw[q6D,z0P]
  refine j2Y.2 ⟨_,_,_,_,rfl,rfl,?_,j9T h2.2,k4i h3⟩
  rw[lnM,h2.2.len];exact h2.1
theorem j9U:∀ {ds:List D} {vs:List Value} {L:List Nat},owCs w ds vs L→∃ ge:List GC,all2 (cellOk S1 w) (ds.map j0p) ge∧ge.map (·.val)=vs∧ge.flatMap (·.L)=L
 | [],vs,L,h=>by rw[owCs] at h;exact⟨[],rfl,h.1.symm,h.2.symm⟩
 | d::ds,vs,L,h=>by
  rw[owCs] at h
  obtain⟨v,r,L0,L1,rfl,rfl,h1,h2⟩:=h
  obtain⟨ge,h3,rfl,rfl⟩:=j9U h2
  have one:∃ gc,cellOk S1 w (j0p d) gc∧gc.val=v∧gc.L=L0:=by
   cases d with
   | a cs=>exact⟨⟨v,false,0,L0⟩,⟨rfl,h1.2,by rw[rdC];exact h1.1⟩,rfl,rfl⟩
   | sl k ys=>exact⟨⟨v,true,k,L0⟩,⟨rfl,rfl,h1⟩,rfl,rfl⟩
   | i k n=>exact⟨⟨v,false,0,L0⟩,⟨rfl,h1.2,by rw[rdC];exact h1.1⟩,rfl,rfl⟩
   | b x=>exact⟨⟨v,false,0,L0⟩,⟨rfl,h1.2,by rw[rdC];exact h1.1⟩,rfl,rfl⟩
   | s t=>exact⟨⟨v,false,0,L0⟩,⟨rfl,h1.2,by rw[rdC];exact h1.1⟩,rfl,rfl⟩
  obtain⟨gc,h4,h5,h6⟩:=one
  exact⟨gc::ge,⟨_,_,rfl,h4,h3⟩,by simp[h5],by simp[h6]⟩
theorem j9V {k:Nat}:∀ {xs:List D} {vs:List Value} {L:List Nat},owE w k xs vs L→∃ gs,all2 (elOk S1 w k) (xs.map j1R) gs∧q5k gs=vs∧gbl gs=L
 | [],vs,L,h=>by rw[owE] at h;exact⟨[],rfl,by rw[h.1];rfl,by rw[h.2];rfl⟩
 | x::xs,vs,L,h=>by
  obtain⟨c,r,L0,L1,rfl,rfl,h1,h2,h3⟩:=j2Y.1 h
  obtain⟨gs,h4,rfl,rfl⟩:=j9V h3
  obtain⟨ge,h5,rfl,rfl⟩:=j9U (S1:=S1) h2
  refine⟨ge::gs,⟨_,_,rfl,⟨?_,h5⟩,h4⟩,by rw[q6D],by rw[z0P]⟩
  rw[show (j1R x).length=ge.length by rw[h5.len];rfl,← h1,lnM]
theorem j4I:∀ {ds:List D} {vs:List Value} {S2:Nat→Prop},rdCs S2 w ds vs→ds.all j6c=true→owCs w ds vs []
 | [],vs,_,h,_=>by rw[rdCs] at h;rw[owCs];exact⟨h,rfl⟩
 | d::ds,vs,_,h,hf=>by
  simp only[List.all_cons,Bool.and_eq_true] at hf
  rw[rdCs] at h
  obtain⟨v,r,rfl,h1,h2⟩:=h
  rw[owCs]
  refine⟨v,r,[],[],rfl,rfl,?_,j4I h2 hf.2⟩
  cases d<;>first|(rw[rdC] at h1;exact⟨h1,rfl⟩)|cases hf.1
theorem j7G {k:Nat}:∀ {xs:List D} {vs:List Value} {S2:Nat→Prop},rdE S2 w k xs vs→(∀ x∈xs,z6H x=true)→owE w k xs vs []
 | [],vs,_,h,_=>by rw[rdE] at h;rw[owE];exact⟨h,rfl⟩
 | x::xs,vs,_,h,hf=>by
  obtain⟨c,r,rfl,hl,h3,h4⟩:=q6k.1 h
  exact j2Y.2 ⟨c,r,[],[],rfl,rfl,hl,j4I h3 (hf x (by simp)),j7G h4 fun x hx=>hf x (by simp[hx])⟩
theorem MC.ok {x:Root}{c:Cell}(h:MC x c){v:Value}{k:Nat}{L:List Nat}{gs:List (List GC)}(hr:z0r S1 w g x (.row v k L gs)):cellOk S1 w c ⟨v,true,k,L++gbl gs⟩:=by
 cases h with
 | row=>
  obtain⟨rfl,hr⟩:=hr
  obtain⟨h1,h2,h3,_⟩:=q6t hr
  exact⟨rfl,rfl,_,by simp only[h3,Cdz];exact h1,h2⟩
 | own=>
  obtain⟨⟨rfl,hr⟩,_⟩:=hr
  refine⟨rfl,rfl,?_⟩
  show owC w (.sl _ _) _ _
  rw[owC]
  exact⟨L,_,_,by have:=hr.1;rwa[lnM] at this,k4i hr.2,rfl⟩
 | flat hf=>
  obtain⟨rfl,hr⟩:=hr
  obtain⟨h1,h2,h3,_⟩:=q6t hr
  refine⟨rfl,rfl,?_⟩
  show owC w (.sl _ _) _ _
  rw[owC]
  exact⟨L,_,_,h1,j7G h2 hf,by simp[h3]⟩
theorem MC.isrow {x:Root}{c:Cell}(h:MC x c){y:G}(hr:z0r S1 w g x y):∃ v k L gs,y=.row v k L gs:=by
 cases h<;>cases y<;>first|exact hr.elim|exact⟨_,_,_,_,rfl⟩
theorem MC.one {x:Root}{c:Cell}(h:MC x c){v:Value}{k:Nat}{L:List Nat}{gs:List (List GC)}(hr:z0r S1 w g x (.row v k L gs)):v.oneCell'=true:=by
 cases h
 ·obtain⟨A,c,e,_⟩:=hr.2.1.form;rw[e];rfl
 ·obtain⟨A,c,e,_⟩:=hr.1.2.1.form;rw[e];rfl
 ·obtain⟨A,c,e,_⟩:=hr.2.1.form;rw[e];rfl
theorem OC.ok {x:Root}{c:Cell}(h:OC c x){gc:GC}(hc:cellOk S1 w c gc):∃ L gs,z0r S1 w g x (.row gc.val gc.k L gs)∧L++gbl gs=gc.L:=by
 cases h with
 | row=>
  obtain⟨h1,h2,cs,h3,h4⟩:=hc
  obtain⟨gs,h5,h6,h7⟩:=j5X h4
  refine⟨gc.L,gs,⟨h2,?_,?_⟩,by rw[h7,Cdz]⟩
  ·rw[h6,lnM,h2];exact h3
  ·rw[h2];exact h5
 | own=>
  obtain⟨h1,h2,h3⟩:=hc
  rw[owC] at h3
  obtain⟨L0,cs,L1,h4,h5,h6⟩:=h3
  obtain⟨gs,h7,rfl,rfl⟩:=j9V (S1:=S1) h5
  refine⟨L0,gs,⟨⟨h2,?_,?_⟩,holesOk.nil,fun _ e he c hc=>?_⟩,h6.symm⟩
  ·rw[lnM,h2];exact h4
  ·rw[h2];exact h7
  ·obtain⟨x,_,rfl⟩:=List.mem_map.1 he
   obtain⟨d,_,rfl⟩:=List.mem_map.1 hc
   cases d<;>rfl
 | flat hf=>
  obtain⟨h1,h2,h3⟩:=hc
  rw[owC] at h3
  obtain⟨L0,cs,L1,h4,h5,h6⟩:=h3
  obtain⟨gs,h7,rfl,rfl⟩:=j9V (S1:=S1) h5
  refine⟨L0,gs,⟨h2,?_,?_⟩,h6.symm⟩
  ·rw[lnM,h2];exact h4
  ·rw[h2,← j6d hf];exact h7
end
class OwD {α:Type} (f:α→D) (W:outParam (α→List Cell)):Prop where
 eq:∀ y,W y=j1R (f y)
 rd:∀ y,DR (W y) (f y)
section
variable {α:Type}{f:α→D}{W:α→List Cell}{xs:List α}{k:Nat}{m:Md}
theorem j7H (h:∀ y,z6H (f y)=true):∀ x∈xs.map f,z6H x=true:=fun x hx=>by
 obtain⟨y,_,rfl⟩:=List.mem_map.1 hx;exact h y
theorem OwD.maps [OwD f W]:xs.map W=(xs.map f).map j1R:=by rw[List.map_map];exact Ccz fun y _=>OwD.eq y
theorem MC.ownM [OwD f W]:MC (.deep m k (xs.map W) []) (.w k (xs.map f)):=by rw[OwD.maps (f:=f)];exact .own
theorem MC.flatM (h:∀ y,z6H (f y)=true):MC (.row m k (xs.map f)) (.w k (xs.map f)):=.flat (j7H h)
theorem OC.ownM [OwD f W]:OC (.w k (xs.map f)) (.deep .fz k (xs.map W) []):=by rw[OwD.maps (f:=f)];exact .own
theorem OC.flatM (h:∀ y,z6H (f y)=true):OC (.w k (xs.map f)) (.row .fz k (xs.map f)):=.flat (j7H h)
end
inductive NC (σ:Nat→Root) (m:Md):List X→List Cell→List Nat→Prop
 | nil:NC σ m [] [] []
 | d {m' : Md} {x:D} {xs:List X} {cs:List Cell} {qs:List Nat} (h:fzC (.d m' x)=true∨m=.bo) (h2:NC σ m xs cs qs):NC σ m (.d m' x::xs) (.d m' x::cs) qs
 | any {m' : Md} {x:D} {xs:List X} {cs:List Cell} {qs:List Nat} (h2:NC σ m xs cs qs):NC σ m (.d m' x::xs) (.d .fz (.a [])::cs) qs
 | nl {k:Nat} {xs:List X} {cs:List Cell} {qs:List Nat} (h2:NC σ m xs cs qs):NC σ m (.nl k::xs) (.nl k::cs) qs
 | nld {k k' : Nat} {m' : Md} {xs:List X} {cs:List Cell} {qs:List Nat} (h2:NC σ m xs cs qs):NC σ m (.nl k::xs) (.d .fz (.sl k' [])::cs) qs
 | nlo {k k' : Nat} {m' : Md} {xs:List X} {cs:List Cell} {qs:List Nat} (h2:NC σ m xs cs qs):NC σ m (.nl k::xs) (.o .fz k' []::cs) qs
 | nlw {k k' : Nat} {m' : Md} {xs:List X} {cs:List Cell} {qs:List Nat} (h2:NC σ m xs cs qs):NC σ m (.nl k::xs) (.w k' []::cs) qs
 | ref {q:Nat} {c:Cell} {xs:List X} {cs:List Cell} {qs:List Nat} (h:MC (σ q) c) (hf:fzC c=true∨m=.bo) (h2:NC σ m xs cs qs):NC σ m (.ref q none::xs) (c::cs) (q::qs)
theorem OwnR.nil0 {w:World}{k:Nat}:OwnR w k (.slice none 0 0) 0 [] []:=⟨0,Own.nil w 0 0 k,rfl⟩
theorem NC.ok {S:Start}{F:Nat→Prop}{g:Nat→G}{w:World}{σ:Nat→Root}(hs:Sim S F g σ w){m:Md}:∀ {xs:List X} {cs:List Cell} {qs:List Nat} {vs:List Value},NC σ m xs cs qs→vrs (SM F S.B) w g xs vs→∃ news:List GC,all2 (cellOk (SM F S.B) w) cs news∧news.map (·.val)=vs∧news.flatMap (·.L)=qs.flatMap (fun q=>bl (g q))∧(∀ u∈vs,u.oneCell'=true)∧(m=.fz→∀ c∈cs,fzC c=true)
 | _,_,_,vs,.nil,h=>by rw[vrs] at h;subst h;exact⟨[],rfl,rfl,rfl,by simp,by simp⟩
 | _,_,_,vs,.d (m':=m') (x:=x) hm h2,h=>by
  rw[vrs] at h
  obtain⟨v,r,rfl,h3,h4⟩:=h
  obtain⟨news,h5,rfl,h7,h8,h9⟩:=NC.ok hs h2 h4
  rw[vr] at h3
  refine⟨⟨v,false,0,[]⟩::news,⟨_,_,rfl,⟨rfl,rfl,h3⟩,h5⟩,rfl,by simpa using h7,fun u hu=>?_,fun e c hc=>?_⟩
  ·rcases List.mem_cons.1 hu with rfl|hu
   ·exact h3.one
   ·exact h8 u hu
  ·rcases List.mem_cons.1 hc with rfl|hc
   ·rcases hm with hm|hm
    ·exact hm
    ·rw[e] at hm;cases hm
   ·exact h9 e c hc
 | _,_,_,vs,.any (m':=m') (x:=x) h2,h=>by
  rw[vrs] at h
  obtain⟨v,r,rfl,h3,h4⟩:=h
  obtain⟨news,h5,rfl,h7,h8,h9⟩:=NC.ok hs h2 h4
  rw[vr] at h3
  refine⟨⟨v,false,0,[]⟩::news,⟨_,_,rfl,⟨rfl,rfl,by rw[rdC];exact h3.one⟩,h5⟩,rfl,by simpa using h7,fun u hu=>?_,fun e c hc=>?_⟩
  ·rcases List.mem_cons.1 hu with rfl|hu
   ·exact h3.one
   ·exact h8 u hu
  ·rcases List.mem_cons.1 hc with rfl|hc
   ·rfl
   ·exact h9 e c hc
 | _,_,_,vs,.nl h2,h=>by
  rw[vrs] at h
  obtain⟨v,r,rfl,h3,h4⟩:=h
  obtain⟨news,h5,rfl,h7,h8,h9⟩:=NC.ok hs h2 h4
  rw[vr] at h3
  refine⟨⟨v,false,0,[]⟩::news,⟨_,_,rfl,⟨rfl,rfl,h3⟩,h5⟩,rfl,by simpa using h7,fun u hu=>?_,fun e c hc=>?_⟩
  ·rcases List.mem_cons.1 hu with rfl|hu
   ·rw[h3];rfl
   ·exact h8 u hu
  ·rcases List.mem_cons.1 hc with rfl|hc
   ·rfl
   ·exact h9 e c hc
 | _,_,_,vs,.nld h2,h=>by
  rw[vrs] at h
  obtain⟨v,r,rfl,h3,h4⟩:=h
  obtain⟨news,h5,rfl,h7,h8,h9⟩:=NC.ok hs h2 h4
  rw[vr] at h3
  refine⟨⟨v,false,0,[]⟩::news,⟨_,_,rfl,⟨rfl,rfl,by show rdC _ _ (.sl _ []) _;rw[rdC];exact⟨none,0,[],h3,Nat.le_refl _,Nat.zero_le _,by rw[rdE],.inl rfl⟩⟩,h5⟩,rfl,by simpa using h7,fun u hu=>?_,fun e c hc=>?_⟩
  ·rcases List.mem_cons.1 hu with rfl|hu
   ·rw[h3];rfl
   ·exact h8 u hu
  ·rcases List.mem_cons.1 hc with rfl|hc
   ·rfl
   ·exact h9 e c hc
 | _,_,_,vs,.nlo h2,h=>by
  rw[vrs] at h
  obtain⟨v,r,rfl,h3,h4⟩:=h
  obtain⟨news,h5,rfl,h7,h8,h9⟩:=NC.ok hs h2 h4
  rw[vr] at h3
  refine⟨⟨v,true,_,[]⟩::news,⟨_,_,rfl,⟨rfl,rfl,[],by rw[h3];exact OwnR.nil0,by rw[rdE]⟩,h5⟩,rfl,by simpa using h7,fun u hu=>?_,fun e c hc=>?_⟩
  ·rcases List.mem_cons.1 hu with rfl|hu
   ·rw[h3];rfl
   ·exact h8 u hu
  ·rcases List.mem_cons.1 hc with rfl|hc
   ·rfl
   ·exact h9 e c hc
 | _,_,_,vs,.nlw h2,h=>by
  rw[vrs] at h
  obtain⟨v,r,rfl,h3,h4⟩:=h
  obtain⟨news,h5,rfl,h7,h8,h9⟩:=NC.ok hs h2 h4
  rw[vr] at h3
  refine⟨⟨v,true,_,[]⟩::news,⟨_,_,rfl,⟨rfl,rfl,by show owC _ (.sl _ []) _ _;rw[owC];exact⟨[],[],[],by rw[h3];exact OwnR.nil0,by rw[owE];exact⟨rfl,rfl⟩,rfl⟩⟩,h5⟩,rfl,by simpa using h7,fun u hu=>?_,fun e c hc=>?_⟩
  ·rcases List.mem_cons.1 hu with rfl|hu
   ·rw[h3];rfl
   ·exact h8 u hu
  ·rcases List.mem_cons.1 hc with rfl|hc
   ·rfl
   ·exact h9 e c hc
 | _,_,_,vs,.ref (q:=q) hc hf h2,h=>by
  rw[vrs] at h
  obtain⟨v,r,rfl,h3,h4⟩:=h
  obtain⟨news,h5,rfl,h7,h8,h9⟩:=NC.ok hs h2 h4
  rw[vr] at h3
  have hr:=hs.roots q
  obtain⟨v0,k0,L,gs,hg⟩:=hc.isrow hr
  rw[hg] at hr h3
  have h3:=h3 _ _ rfl
  subst h3
  have h10:=hc.ok hr
  have hone:v.oneCell'=true:=hc.one hr
  refine⟨⟨v,true,k0,L++gbl gs⟩::news,⟨_,_,rfl,h10,h5⟩,rfl,?_,fun u hu=>?_,fun e c hc'=>?_⟩
  ·simp only[Bgz,h7,hg,bl]
  ·rcases List.mem_cons.1 hu with rfl|hu
   ·exact hone
   ·exact h8 u hu
  ·rcases List.mem_cons.1 hc' with rfl|hc'
   ·rcases hf with hf|hf
    ·exact hf
    ·rw[e] at hf;cases hf
   ·exact h9 e c hc'
theorem j7I:∀ (qs:List Nat) (σ:Nat→Root) (i:Nat),owr σ (qs.map fun q=>(q,.dead)) i=if i∈qs then .dead else σ i
 | [],σ,i=>by simp[owr]
 | q::qs,σ,i=>by
  rw[List.map_cons,owr,j7I qs]
  by_cases h:i∈qs
  ·simp[h]
  ·by_cases h2:i=q<;>simp[h,h2]
theorem j0q {r:Nat}{x:Root}{qs:List Nat}{σ:Nat→Root}(hr:r∉qs)(i:Nat):owr σ ((r,x)::qs.map fun q=>(q,.dead)) i=if i=r then x else if i∈qs then .dead else σ i:=by
 rw[owr,j7I]
 by_cases h:i=r
 ·subst h;simp[hr]
 ·simp[h]
theorem NC.congr {σ1 σ2:Nat→Root}{m:Md}:∀ {xs:List X} {cs:List Cell} {qs:List Nat},NC σ2 m xs cs qs→(∀ q∈qs,σ1 q=σ2 q)→NC σ1 m xs cs qs
 | _,_,_,.nil,_=>.nil
 | _,_,_,.d h h2,hc=>.d h (h2.congr hc)
 | _,_,_,.any h2,hc=>.any (h2.congr hc)
 | _,_,_,.nl h2,hc=>.nl (h2.congr hc)
 | _,_,_,.nld (m':=m') h2,hc=>.nld (m':=m') (h2.congr hc)
 | _,_,_,.nlo (m':=m') h2,hc=>.nlo (m':=m') (h2.congr hc)
 | _,_,_,.nlw (m':=m') h2,hc=>.nlw (m':=m') (h2.congr hc)
 | _,_,_,.ref h hf h2,hc=>.ref (by rw[hc _ (by simp)];exact h) hf (h2.congr fun q hq=>hc q (by simp[hq]))
theorem NC.len {σ:Nat→Root}{m:Md}:∀ {xs:List X} {cs:List Cell} {qs:List Nat},NC σ m xs cs qs→cs.length=xs.length
 | _,_,_,.nil=>rfl
 | _,_,_,.d h h2=>by simp[h2.len]
 | _,_,_,.any h2=>by simp[h2.len]
 | _,_,_,.nl h2=>by simp[h2.len]
 | _,_,_,.nld (m':=m') h2=>by simp[h2.len]
 | _,_,_,.nlo (m':=m') h2=>by simp[h2.len]
 | _,_,_,.nlw (m':=m') h2=>by simp[h2.len]
 | _,_,_,.ref h hf h2=>by simp[h2.len]
theorem NC.roots {σ:Nat→Root}{m:Md}:∀ {xs:List X} {cs:List Cell} {qs:List Nat},NC σ m xs cs qs→∀ x∈xs,∀ i∈q7C x,i∈qs
 | _,_,_,.nil,x,hx=>by cases hx
 | _,_,_,.d h h2,x,hx=>by
  rcases List.mem_cons.1 hx with rfl|hx
  ·intro i hi;simp[q7C] at hi
  ·exact h2.roots x hx
 | _,_,_,.any h2,x,hx=>by
  rcases List.mem_cons.1 hx with rfl|hx
  ·intro i hi;simp[q7C] at hi
  ·exact h2.roots x hx
 | _,_,_,.nl h2,x,hx=>by
  rcases List.mem_cons.1 hx with rfl|hx
  ·intro i hi;simp[q7C] at hi
  ·exact h2.roots x hx
 | _,_,_,.nld (m':=m') h2,x,hx=>by
  rcases List.mem_cons.1 hx with rfl|hx
  ·intro i hi;simp[q7C] at hi
  ·exact h2.roots x hx
 | _,_,_,.nlo (m':=m') h2,x,hx=>by
  rcases List.mem_cons.1 hx with rfl|hx
  ·intro i hi;simp[q7C] at hi
  ·exact h2.roots x hx
 | _,_,_,.nlw (m':=m') h2,x,hx=>by
  rcases List.mem_cons.1 hx with rfl|hx
  ·intro i hi;simp[q7C] at hi
  ·exact h2.roots x hx
 | _,_,_,.ref h hf h2,x,hx=>by
  rcases List.mem_cons.1 hx with rfl|hx
  ·intro i hi;simp[q7C] at hi;simp[hi]
  ·intro i hi;exact Brz _ (h2.roots x hx i hi)
section
variable {P:Program}{S:Start}{F:Nat→Prop}{g:Nat→G}{w:World}{σ1:Nat→Root}
def mvG (g:Nat→G)(r:Nat)(y:G)(qs:List Nat):Nat→G:=fun i=>if i=r then y else if i∈qs then .dead else g i
theorem j0r {A M D N:List Nat}(h:(A++M++D).Nodup)(hn:N.Nodup)(hd:∀ b∈N,b∉A∧b∉D):(A++N++D).Nodup:=by
 rw[Ayz,Cez] at h ⊢
 obtain⟨h1,h2,h3⟩:=h
 rw[Cez] at h2 ⊢
 obtain⟨h4,h5,h6⟩:=h2
 refine⟨h1,⟨hn,h5,fun a ha b hb e=>(hd a ha).2 (e▸hb)⟩,fun a ha b hb e=>?_⟩
 rcases List.mem_append.1 hb with hb|hb
 ·exact (hd b hb).1 (e▸ha)
 ·exact h3 a ha b (List.mem_append.2 (.inr hb)) e
theorem z6I (hs:Sim S F g σ1 w):∀ {qs:List Nat},qs.Nodup→(qs.flatMap fun q=>bl (g q)).Nodup
 | [],_=>Bxz
 | q::qs,h=>by
  rw[List.nodup_cons] at h
  rw[Bgz,Cez]
  refine⟨hs.nodup q,z6I hs h.2,fun a ha b hb e=>?_⟩
  subst e
  obtain⟨q',hq',hb⟩:=List.mem_flatMap.1 hb
  exact hs.disj q q' (fun e=>h.1 (e▸hq')) a ha hb
theorem Sim.cells (hs:Sim S F g σ1 w){r:Nat}{v:Value}{k:Nat}{L:List Nat}{gs:List (List GC)}(hg:g r=.row v k L gs)(hgs:∀ ge∈gs,ge.length=k){n:Nat}(hown:OwnR w k v n L (q5k gs)){j c:Nat}{ge:List GC}(hj:gs[j]?=some ge)(hjn:j<n){news:List GC}(hc:c+news.length≤k){qs:List Nat}(hnd:(r::qs).Nodup)
  (hL:news.flatMap (·.L)=qs.flatMap fun q=>bl (g q)) (hq:∀ q∈qs,g q≠.none) {T:Nat} (hk:szT P T=some news.length) {u:Value} (hu:u.cells.toList=news.map (·.val)) (h1:∀ x∈news.map (·.val),x.oneCell'=true) {σ' : Nat→Root} (hσ:∀ i,i≠r→i∉qs→σ' i=σ1 i) (hσq:∀ q∈qs,σ' q=.dead) :
  ∃ b cp w',v=.slice (some ⟨b,0,none⟩) n cp∧(storeVar T ⟨b,j*k+c,none⟩ u).run P w=.ok () w' ∧
   (((∀ m b o cs,SM F S.B m b→b<w.heap.size→At w b o cs→SM F S.B m b∧b<w'.heap.size∧At w' b o cs)→(∀ x,x∈gbl gs∨x∈news.flatMap (·.L)→w'.heap[x]?=w.heap[x]?)→(∀ i,Adv (g i) (mvG g r (.row v k L (gs.set j (ge.take c++news++ge.drop (c+news.length)))) qs i))→OwnR w' k v n L (q5k (gs.set j (ge.take c++news++ge.drop (c+news.length)))) →
    z0r (SM F S.B) w' (mvG g r (.row v k L (gs.set j (ge.take c++news++ge.drop (c+news.length)))) qs) (σ' r) (.row v k L (gs.set j (ge.take c++news++ge.drop (c+news.length))))) →
   Sim S F (mvG g r (.row v k L (gs.set j (ge.take c++news++ge.drop (c+news.length)))) qs) σ' w'∧Pres S.B F g w F (mvG g r (.row v k L (gs.set j (ge.take c++news++ge.drop (c+news.length)))) qs) w'):=by
 rw[List.nodup_cons] at hnd
 obtain⟨VA,VM,VD,LA,LM,LD,e1,e2,e3,e4,e5⟩:=j3f hgs hj hc
 obtain⟨e6,e7⟩:=e5 news
 generalize hge' : gs.set j (ge.take c++news++ge.drop (c+news.length))=gs' at e6 e7 ⊢
 obtain⟨b,cp,hv,hbL,w',hrun,hchg,hown'⟩:=hown.store (P:=P) (j:=j) (c:=c) hk hu (by simp) h1 hjn hc
 have hgv:q4X (q5k gs) (j*k+c) (news.map (·.val))=q5k gs':=by rw[e1,e6];exact j8z e2 (by rw[e3];simp)
 rw[hgv] at hown'
 have hbl:bl (g r)=L++(LA++LM++LD):=by rw[hg,← e4];rfl
 have hnr:=hs.nodup r
 have hL2:∀ x,x∈news.flatMap (·.L)→∃ q∈qs,x∈bl (g q):=fun x hx=>by rw[hL] at hx;exact List.mem_flatMap.1 hx
 have hbr:b∈bl (g r):=by rw[hbl];simp[hbL]
 have notb:∀ x,x∈gbl gs∨x∈news.flatMap (·.L)→x≠b:=fun x hx e=>by
  subst e
  rcases hx with hx|hx
  ·rw[hg] at hnr
   exact (List.nodup_append.1 hnr).2.2 x hbL x hx rfl
  ·obtain⟨q,hq',hx⟩:=hL2 x hx
   exact hs.disj r q (fun e=>hnd.1 (e▸hq')) x hbr hx
 refine⟨b,cp,w',hv,hrun,fun hroot=>?_⟩
 have hlt:∀ x,x∈gbl gs∨x∈news.flatMap (·.L)→x<w.heap.size:=fun x hx=>by
  rcases hx with hx|hx
  ·exact (hs.own r x (by rw[hg];simp[bl,hx])).1
  ·obtain⟨q,_,hx⟩:=hL2 x hx
   exact (hs.own q x hx).1
 have gr:mvG g r (.row v k L gs') qs r=.row v k L gs':=by simp[mvG]
 have gq:∀ q∈qs,mvG g r (.row v k L gs') qs q=.dead:=fun q hq=>by
  have:q≠r:=fun e=>hnd.1 (e▸hq)
  simp[mvG,this,hq]
 have go:∀ i,i≠r→i∉qs→mvG g r (.row v k L gs') qs i=g i:=fun i h1 h2=>by simp[mvG,h1,h2]
 have hadv:∀ i,Adv (g i) (mvG g r (.row v k L gs') qs i):=fun i=>by
  by_cases hi:i=r
  ·subst hi;rw[gr,hg];exact .inr ⟨_,_,rfl⟩
  ·by_cases hi2:i∈qs
   ·rw[gq i hi2];exact Adv.dead (hq i hi2)
   ·rw[go i hi hi2];exact Adv.refl _
 have hblr:∀ x,x∈bl (.row v k L gs')→x∈bl (g r)∨∃ q∈qs,x∈bl (g q):=fun x hx=>by
  simp only[bl,e7,Cfz] at hx
  rw[hbl]
  simp only[Cfz]
  rcases hx with hx|(hx|hx)|hx
  ·exact .inl (.inl hx)
  ·exact .inl (.inr (.inl (.inl hx)))
  ·exact .inr (hL2 x hx)
  ·exact .inl (.inr (.inr hx))
 refine hs.step (fun i=>i=r∨i∈qs) hchg (fun i hi _=>⟨r,.inl rfl,by subst hi;exact hbr⟩) (fun i hi=>⟨go i (fun e=>hi (.inl e)) fun e=>hi (.inr e),hσ i (fun e=>hi (.inl e)) fun e=>hi (.inr e)⟩) (fun i _=>hadv i) (fun _ h=>h) (fun x hx=>⟨Bcz (hs.flt x hx) hchg.size,.inl hx⟩)
  (fun hkeep hp i hi=>?_) (fun i hi=>?_) (fun i i' hi hi' hne x hx=>?_) (fun i x hi hx=>?_)
 ·rcases hi with rfl|hi
  ·rw[gr]
   exact hroot hkeep (fun x hx=>hchg.block x (hlt x hx) (notb x hx)) hadv hown'
  ·rw[gq i hi,hσq i hi];trivial
 ·rcases hi with rfl|hi
  ·rw[gr]
   simp only[bl,e7]
   have:(L++LA++LM++LD).Nodup:=by rw[hbl] at hnr;simpa using hnr
   have h2:=j0r (N:=news.flatMap (·.L)) this (by rw[hL];exact z6I hs hnd.2) fun x hx=>by
    obtain⟨q,hq',hx⟩:=hL2 x hx
    have h3:=hs.disj q i (fun e=>hnd.1 (e▸hq')) x hx
    rw[hbl] at h3
    simp only[Cfz,not_or] at h3 ⊢
    exact⟨⟨h3.1,h3.2.1.1⟩,h3.2.2⟩
   simpa using h2
  ·rw[gq i hi];exact Bxz
 ·rcases hi with rfl|hi
  ·rcases hi' with rfl|hi'
   ·exact absurd rfl hne
   ·rw[gq i' hi'];exact List.not_mem_nil
  ·rw[gq i hi] at hx;cases hx
 ·rcases hi with rfl|hi
  ·rw[gr] at hx
   rcases hblr x hx with h|⟨q,hq',h⟩
   ·exact⟨Bcz (hs.own i x h).1 hchg.size,(hs.own i x h).2.1,.inr ⟨i,.inl rfl,h⟩⟩
   ·exact⟨Bcz (hs.own q x h).1 hchg.size,(hs.own q x h).2.1,.inr ⟨q,.inr hq',h⟩⟩
  ·rw[gq i hi] at hx;cases hx
end
theorem z1G {S1:Md→Nat→Prop}{w:World}{k:Nat}:∀ {es:List (List Cell)} {gs:List (List GC)},all2 (elOk S1 w k) es gs→∀ ge∈gs,ge.length=k
 | [],_,h,ge,hg=>by rw[show _=[] from h] at hg;cases hg
 | e::es,_,⟨g0,r,h1,h2,h3⟩,ge,hg=>by
  subst h1
  rcases List.mem_cons.1 hg with rfl|hg
  ·rw[h2.2.len];exact h2.1
  ·exact z1G h3 ge hg
def hsK (hs:List (Nat×Nat×Nat))(c n:Nat):List (Nat×Nat×Nat):=hs.filter fun p=>Nat.blt p.2.1 c||Nat.ble (c+n) p.2.1
theorem j3g {gs:List (List GC)}{j c:Nat}{ge news:List GC}(hj:gs[j]?=some ge)(hc:c+news.length≤ge.length){i d:Nat}(hd:d<c∨c+news.length≤d):(((gs.set j (ge.take c++news++ge.drop (c+news.length)))[i]?).bind (·[d]?))=(gs[i]?).bind (·[d]?):=by
 rw[Cgz]
 by_cases hi:j=i
 ·subst hi
  have hlt:=(List.getElem?_eq_some_iff.1 hj).1
  simp only[if_true,ifP hlt,hj,bsS]
  rcases hd with hd|hd
  ·rw[Ayz,List.getElem?_append_left (by simp;omega),List.getElem?_take_of_lt hd]
  ·rw[Chz (by simp;omega),List.getElem?_drop]
   congr 1
   simp only[Awz,Boz]
   omega
 ·simp[hi]
theorem j6e {es:List (List Cell)}{j c:Nat}{e cells:List Cell}(h:fzE es)(hj:es[j]?=some e)(hc:∀ x∈cells,fzC x=true):fzE (es.set j (spl e c cells)):=by
 intro e' he x hx
 rcases List.mem_or_eq_of_mem_set he with he|rfl
 ·exact h e' he x hx
 ·have hm:=h e (Bsz hj)
  simp only[spl,Cfz] at hx
  rcases hx with (hx|hx)|hx
  ·exact hm x (List.mem_of_mem_take hx)
  ·exact hc x hx
  ·exact hm x (List.mem_of_mem_drop hx)
theorem cellOk.keepL {S1:Md→Nat→Prop}{w w' : World}(hk:∀ m b o cs,S1 m b→b<w.heap.size→At w b o cs→S1 m b∧b<w'.heap.size∧At w' b o cs):∀ {cs:List Cell} {ge:List GC},all2 (cellOk S1 w) cs ge→(∀ b∈ge.flatMap (·.L),w'.heap[b]?=w.heap[b]?)→all2 (cellOk S1 w') cs ge:=by
 intro cs ge h hL
 exact h.imp_mem fun c gc hgc hc=>hc.keep hk fun b hb=>hL b (List.mem_flatMap.2 ⟨gc,hgc,hb⟩)
theorem NC.alive {σ:Nat→Root}{m:Md}:∀ {xs:List X} {cs:List Cell} {qs:List Nat},NC σ m xs cs qs→∀ q∈qs,∃ c,MC (σ q) c
 | _,_,_,.nil,q,hq=>by cases hq
 | _,_,_,.d h h2,q,hq=>h2.alive q hq
 | _,_,_,.any h2,q,hq=>h2.alive q hq
 | _,_,_,.nl h2,q,hq=>h2.alive q hq
 | _,_,_,.nld (m':=m') h2,q,hq=>h2.alive q hq
 | _,_,_,.nlo (m':=m') h2,q,hq=>h2.alive q hq
 | _,_,_,.nlw (m':=m') h2,q,hq=>h2.alive q hq
 | _,_,_,.ref h hf h2,q,hq=>by
  rcases List.mem_cons.1 hq with rfl|hq
  ·exact⟨_,h⟩
  ·exact h2.alive q hq
theorem NC.some {S:Start}{F:Nat→Prop}{g:Nat→G}{w:World}{σ:Nat→Root}{m:Md}{xs:List X}{cs:List Cell}{qs:List Nat}(h:NC σ m xs cs qs)(hs:Sim S F g σ w)(q:Nat)(hq:q∈qs):g q≠.none:=by
 obtain⟨c,hc⟩:=h.alive q hq
 obtain⟨v,k,L,gs,e⟩:=hc.isrow (hs.roots q)
 rw[e];intro h;cases h
section
variable {P:Program}{S:Start}{n:Nat}{ρ:AE}{σ:St}{o:Oper}
theorem all2.spl {α β:Type}{R:α→β→Prop}{ls:List α}{bs:List β}(h:all2 R ls bs){c:Nat}{xs:List α}{ys:List β}(h2:all2 R xs ys):all2 R (Go.A.spl ls c xs) (bs.take c++ys++bs.drop (c+ys.length)):=by
 unfold Go.A.spl
 rw[← h2.len]
 exact ((h.take c).append h2).append (h.drop _)
theorem q2i {T kk:Nat}{x y:Operand}{Y:X}{r c j k:Nat}{m:Md}{es:List (List Cell)}{hh:List (Nat×Nat×Nat)}{e cells:List Cell}{qs:List Nat}(ho:o.op=.store T x y)(hk:szT P T=some kk)(hx:evX ρ x=.pe r none j c)(hσ:fnOf σ r=.deep m k es hh)(hj:es[j]?=some e)(hy:evX ρ y=Y)(hn:NC (fnOf σ) m Y.cells cells qs)
  (hl:Y.cells.length=kk) (hfit:Nat.ble (c+kk) k=true) (hnd:z3J (r::qs)=true) (hsure:z3r (fnOf σ) Y=true) :
  LT P S o ρ σ [] .u ((r,.deep m k (es.set j (spl e c cells)) (hsK hh c kk))::qs.map fun q=>(q,.dead)):=by
 intro σ1 F g w ρc hs hrd hwr hv
 have hr1:σ1 r=.deep m k es hh:=(hwr (r,_) Ciz).trans hσ
 have hq1:∀ q∈qs,σ1 q=fnOf σ q:=fun q hq=>hwr (q,.dead) (Brz _ (List.mem_map.2 ⟨q,hq,rfl⟩))
 have hnd':=q8f hnd
 have hn1:=hn.congr hq1
 have hroot:=hs.roots r
 rw[hr1] at hroot
 cases hg:g r<;>rw[hg] at hroot<;>try exact hroot.elim
 rename_i v k0 L gs
 obtain⟨⟨hk0,hrow⟩,hho,hfz⟩:=hroot
 subst hk0
 have e1:=hv x (by simp[ho,Op.operands])
 have e2:=hv y (by simp[ho,Op.operands])
 rw[hy] at e2
 have hA:z3r σ1 Y=true:=by
  cases Y with
  | ag cs=>rfl
  | _=>rw[z2f (σ2:=fnOf σ) fun i hi=>hq1 i (hn.roots _ (by simp[X.cells]) i hi)];exact hsure
 have hys:=z4s hs hA e2
 obtain⟨news,h5,h6,h7,h8,h9⟩:=hn1.ok hs hys
 obtain⟨ge,hge,hel⟩:=hrow.2.get hj
 have hjn:j<es.length:=(List.getElem?_eq_some_iff.1 hj).1
 have hnl:news.length=kk:=by rw[h5.len,hn.len,hl]
 have hfit' : c+kk≤k0:=by simpa using hfit
 have hgl:ge.length=k0:=z1G hrow.2 ge (Bsz hge)
 obtain⟨b,cp,w',hv',hrun,hsim⟩:=hs.cells (P:=P) (T:=T) (u:=E.ev ρc y) (news:=news) (qs:=qs) (c:=c) (j:=j) hg (z1G hrow.2) hrow.1 hge hjn (by rw[hnl];exact hfit') hnd' h7
  (fun q hq=>hn1.some hs q hq)
  (by rw[hnl];exact hk) h6.symm (by rw[h6];exact h8) (σ':=owr σ1 ((r,.deep m k0 (es.set j (spl e c cells)) (hsK hh c kk))::qs.map fun q=>(q,.dead)))
  (fun i hi1 hi2=>by rw[j0q (List.nodup_cons.1 hnd').1,ifN hi1,ifN hi2]) (fun q hq=>by rw[j0q (List.nodup_cons.1 hnd').1,ifN (fun (e:q=r)=>(List.nodup_cons.1 hnd').1 (e▸hq)),ifP hq])
 rw[hx,vr,hg] at e1
 obtain⟨b',n',cp',e3,e4,e5⟩:=e1 _ _ rfl
 rw[hv'] at e3
 cases e3
 have he:(execOp (E.ev ρc) o).run P w=.ok .skip w':=by
  simp only[execOp,ho,e5,Instr.storeAt,Instr.sureAddr,Sem.run_bind,Sem.run_pure,Result.andThen_ok,hrun]
 rw[he]
 obtain⟨h10,h11⟩:=hsim (fun hkeep hL hadv hown'=>by
  rw[j0q (List.nodup_cons.1 hnd').1,ifP rfl]
  have hLge:∀ (i:Nat) (ge' : List GC),gs[i]?=some ge'→∀ b∈ge'.flatMap (·.L),w'.heap[b]?=w.heap[b]?:=fun i ge' hi b hb=>hL b (.inl (List.mem_flatMap.2 ⟨ge',Bsz hi,hb⟩))
  refine⟨⟨rfl,by rw[Cjz];exact hown',?_⟩,fun p hp gc hgc=>?_,fun hm=>j6e (hfz hm) hj (h9 hm)⟩
  ·have hel' : elOk (SM F S.B) w' k0 (spl e c cells) (ge.take c++news++ge.drop (c+news.length)):=by
    refine⟨?_,(cellOk.keepL hkeep hel.2 (hLge j ge hge)).spl (cellOk.keepL hkeep h5 fun b hb=>hL b (.inr hb))⟩
    unfold spl
    simp only[Awz,Boz,Bpz,hn.len,hl,hel.1]
    omega
   refine all2.set ?_ hel'
   exact hrow.2.imp_mem fun e' ge' hm' he'=>⟨he'.1,cellOk.keepL hkeep he'.2 fun b hb=>hL b (.inl (List.mem_flatMap.2 ⟨ge',hm',hb⟩))⟩
  ·simp only[hsK,List.mem_filter,Bool.or_eq_true] at hp
   rw[j3g hge (by rw[hnl,hgl];exact hfit') (by rw[hnl];simpa using hp.2)] at hgc
   exact (hho p hp.1 gc hgc).adv (hadv _))
 exact⟨F,_,h10,fun x v hv=>h11 x v hv,by rw[vr];trivial⟩
theorem j2z {m:Md}:∀ {xs:List X} {ds:List D},asCs m xs=some ds→∀ x∈xs,q7C x=[]
 | [],ds,h,x,hx=>by cases hx
 | y::xs,ds,h,x,hx=>by
  simp only[asCs] at h
  split at h
  ·rename_i y' ys h1 h2
   rcases List.mem_cons.1 hx with rfl|hx
   ·cases x<;>first|rfl|cases h1
   ·exact j2z h2 x hx
  ·cases h
theorem q3x {T kk:Nat}{x y:Operand}{Y:X}{r c j k:Nat}{m:Md}{ds ys:List D}{d d' : D}(ho:o.op=.store T x y)(hk:szT P T=some kk)(hx:evX ρ x=.pe r none j c)(hσ:fnOf σ r=.row m k ds)(hj:ds[j]?=some d)(hy:evX ρ y=Y)(hY:asCs m Y.cells=some ys)(hd:d'.cells=spl d.cells c ys)
  (hl:Y.cells.length=kk) (hfit:Nat.ble (c+kk) k=true) (hsure:z3r (fnOf σ) Y=true) :
  LT P S o ρ σ [] .u [(r,.row m k (ds.set j d'))]:=by
 intro σ1 F g w ρc hs hrd hwr hv
 have hr1:σ1 r=.row m k ds:=(hwr (r,_) Ciz).trans hσ
 have hroot:=hs.roots r
 rw[hr1] at hroot
 cases hg:g r<;>rw[hg] at hroot<;>try exact hroot.elim
 rename_i v k0 L gs
 obtain⟨hk0,hrow⟩:=hroot
 subst hk0
 have e1:=hv x (by simp[ho,Op.operands])
 have e2:=hv y (by simp[ho,Op.operands])
 rw[hy] at e2
 have hA:z3r σ1 Y=true:=by
  cases Y with
  | ag cs=>rfl
  | _=>rw[z2f (σ2:=fnOf σ) fun i hi=>by rw[j2z hY _ (by simp[X.cells])] at hi;cases hi];exact hsure
 have hys:=j0j hY (z4s hs hA e2)
 obtain⟨news,h5,h6,h7⟩:=j2Z (S1:=SM F S.B) hys
 have hyl:ys.length=kk:=by rw[← hys.len,← hl,(z4s hs hA e2).len]
 have hnl:news.length=kk:=by rw[h5.len,lnM,hyl]
 obtain⟨ge,hge,hel⟩:=hrow.2.get (i:=j) (a:=elOf m d) (by simp[hj])
 have hjn:j<(ds.map (elOf m)).length:=by rw[lnM];exact (List.getElem?_eq_some_iff.1 hj).1
 have hfit' : c+kk≤k0:=by simpa using hfit
 obtain⟨b,cp,w',hv',hrun,hsim⟩:=hs.cells (P:=P) (T:=T) (u:=E.ev ρc y) (news:=news) (qs:=[]) (c:=c) (j:=j) hg (z1G hrow.2) hrow.1 hge hjn (by rw[hnl];exact hfit') (by simp) (by simp[h7])
  (fun q hq=>by cases hq) (by rw[hnl];exact hk) h6.symm (by rw[h6];exact hys.one) (σ':=owr σ1 [(r,.row m k0 (ds.set j d'))])
  (fun i hi1 hi2=>by rw[owr1];simp[hi1]) (fun q hq=>by cases hq)
 rw[hx,vr,hg] at e1
 obtain⟨b',n',cp',e3,e4,e5⟩:=e1 _ _ rfl
 rw[hv'] at e3
 cases e3
 have he:(execOp (E.ev ρc) o).run P w=.ok .skip w':=by
  simp only[execOp,ho,e5,Instr.storeAt,Instr.sureAddr,Sem.run_bind,Sem.run_pure,Result.andThen_ok,hrun]
 rw[he]
 obtain⟨h10,h11⟩:=hsim (fun hkeep hL hadv hown'=>by
  rw[owr1]
  simp only[if_true]
  refine⟨rfl,by rw[lnM,Cjz];rw[lnM] at hown';exact hown',?_⟩
  have e6:(ds.set j d').map (elOf m)=(ds.map (elOf m)).set j (spl (elOf m d) c (ys.map (Cell.d m))):=by
   rw[List.map_set]
   congr 1
   simp only[elOf,hd,spl,List.map_append,List.map_take,List.map_drop,lnM]
  rw[e6]
  have hel' : elOk (SM F S.B) w' k0 (spl (elOf m d) c (ys.map (Cell.d m))) (ge.take c++news++ge.drop (c+news.length)):=by
   refine⟨?_,(cellOk.keepL hkeep hel.2 fun b hb=>hL b (.inl (List.mem_flatMap.2 ⟨ge,Bsz hge,hb⟩))).spl (cellOk.keepL hkeep h5 fun b hb=>hL b (.inr hb))⟩
   have:=hel.1
   unfold spl
   simp only[Awz,Boz,Bpz,lnM,hyl]
   omega
  refine all2.set ?_ hel'
  exact hrow.2.imp_mem fun e' ge' hm' he'=>⟨he'.1,cellOk.keepL hkeep he'.2 fun b hb=>hL b (.inl (List.mem_flatMap.2 ⟨ge',hm',hb⟩))⟩)
 exact⟨F,_,h10,fun x v hv=>h11 x v hv,by rw[vr];trivial⟩
end
theorem k4j {k:Nat}{gs:List (List GC)}{j c:Nat}{ge:List GC}{gc:GC}(hk:∀ g∈gs,g.length=k)(hj:gs[j]?=some ge)(hc:ge[c]?=some gc) :
  ∃ VA VD LA LD,q5k gs=VA++[gc.val]++VD∧gbl gs=LA++gc.L++LD∧∀ x:GC,q5k (gs.set j (ge.take c++[x]++ge.drop (c+1)))=VA++[x.val]++VD∧gbl (gs.set j (ge.take c++[x]++ge.drop (c+1)))=LA++x.L++LD:=by
 have hlt:c<ge.length:=(List.getElem?_eq_some_iff.1 hc).1
 have hgl:=hk ge (Bsz hj)
 obtain⟨VA,VM,VD,LA,LM,LD,h1,h2,h3,h4,h5⟩:=j3f hk hj (c:=c) (n:=1) (by omega)
 have e:gs.set j (ge.take c++[gc]++ge.drop (c+1))=gs:=by
  have:ge.take c++[gc]++ge.drop (c+1)=ge:=by
   have h6:ge[c]'hlt=gc:=by rw[Ckz hlt] at hc;exact Option.some.inj hc
   rw[← h6,Ayz,Clz,List.getElem_cons_drop,Bzz]
  rw[this]
  apply List.ext_getElem?
  intro i
  rw[Cgz]
  split
  ·rename_i hi;subst hi
   split
   ·exact hj.symm
   ·rename_i h;exact absurd (List.getElem?_eq_some_iff.1 hj).1 h
  ·rfl
 obtain⟨h6,h7⟩:=h5 [gc]
 rw[e] at h6 h7
 exact⟨VA,VD,LA,LD,by simpa using h6,by simpa using h7,fun x=>by have:=h5 [x];simpa using this⟩
section
variable {S:Start}{ρ:AE}{σ:St}
theorem z3K {σ:St}{r q:Nat}{x y:Root}(i:Nat):fnOf (setL (setL σ r x) q y) i=if i=q then y else if i=r then x else fnOf σ i:=by
 rw[q6X,q6X]
theorem Chg.none {w:World}:Chg (fun _=>False) w w:=Chg.refl w
theorem GH.out {r j c k q:Nat}{m:Md}{es:List (List Cell)}{hh:List (Nat×Nat×Nat)}{e:List Cell}{cell:Cell}{x:Root}(hσ:fnOf σ r=.deep m k es hh)(hj:es[j]?=some e)(hc:e[c]?=some cell)(hx:OC cell x)(hq:fnOf σ q=.none) :
  GH S ρ σ ρ (setL (setL σ r (.deep m k (es.set j (spl e c [.u])) ((j,c,q)::hh))) q x):=by
 intro F g w ρc hs hv
 have hqr:q≠r:=fun e=>by rw[e,hσ] at hq;cases hq
 have hroot:=hs.roots r
 rw[hσ] at hroot
 cases hg:g r<;>rw[hg] at hroot<;>try exact hroot.elim
 rename_i v k0 L gs
 obtain⟨⟨hk0,hrow⟩,hho,hfz⟩:=hroot
 subst hk0
 have hgq:g q=.none:=by
  have:=hs.roots q
  rw[hq] at this
  revert this
  cases g q<;>intro h<;>first|rfl|exact h.elim
 obtain⟨ge,hge,hel⟩:=hrow.2.get hj
 obtain⟨gc,hgc,hcl⟩:=hel.2.get hc
 have hcl0:c<ge.length:=(List.getElem?_eq_some_iff.1 hgc).1
 obtain⟨VA,VD,LA,LD,e1,e2,e3⟩:=k4j (z1G hrow.2) hge hgc
 obtain⟨e4,e5⟩:=e3 ⟨gc.val,false,0,[]⟩
 obtain⟨Lq,gq,hxr,hxl⟩:=hx.ok (g:=fun i=>if i=q then .row gc.val gc.k [] [] else g i) hcl
 generalize hgs' : gs.set j (ge.take c++[(⟨gc.val,false,0,[]⟩:GC)]++ge.drop (c+1))=gs' at e4 e5
 let g' : Nat→G:=fun i=>if i=q then .row gc.val gc.k Lq gq else if i=r then .row v k0 L gs' else g i
 have gr:g' r=.row v k0 L gs':=by simp[g',hqr.symm]
 have gqq:g' q=.row gc.val gc.k Lq gq:=by simp[g']
 have go:∀ i,i≠q→i≠r→g' i=g i:=fun i h1 h2=>by simp[g',h1,h2]
 have hbr:bl (g r)=L++(LA++gc.L++LD):=by rw[hg,← e2];rfl
 have hnr:=hs.nodup r
 rw[hbr] at hnr
 have hblr:bl (g' r)=L++(LA++LD):=by rw[gr];simp only[bl,e5,Cdz]
 have hblq:bl (g' q)=gc.L:=by rw[gqq];exact hxl
 have hone:gc.val.oneCell'=true:=by
  cases hx with
  | row=>obtain⟨_,_,cs,h,_⟩:=hcl;obtain⟨A,c,e,_⟩:=h.form;rw[e];rfl
  | own=>have h:=hcl.2.2;simp only[owC] at h;obtain⟨L0,cs,L1,h,_⟩:=h;obtain⟨A,c,e,_⟩:=h.form;rw[e];rfl
  | flat=>have h:=hcl.2.2;simp only[owC] at h;obtain⟨L0,cs,L1,h,_⟩:=h;obtain⟨A,c,e,_⟩:=h.form;rw[e];rfl
 have hadv:∀ i,Adv (g i) (g' i):=fun i=>by
  by_cases h1:i=q
  ·subst h1;rw[hgq];trivial
  ·by_cases h2:i=r
   ·subst h2;rw[gr,hg];exact .inr ⟨_,_,rfl⟩
   ·rw[go i h1 h2];exact Adv.refl _
 obtain⟨h1,h2⟩:=hs.step (g':=g') (σ':=fnOf (setL (setL σ r (.deep m k0 (es.set j (spl e c [.u])) ((j,c,q)::hh))) q x)) (F':=F) (w':=w) (fun i=>i=r∨i=q) Chg.none (fun _ h _=>h.elim)
  (fun i hi=>⟨go i (fun e=>hi (.inr e)) fun e=>hi (.inl e),by rw[z3K,ifN fun e=>hi (.inr e),ifN fun e=>hi (.inl e)]⟩) (fun i _=>hadv i) (fun _ h=>h) (fun x hx=>⟨hs.flt x hx,.inl hx⟩)
  (fun hkeep hp i hi=>by
   rcases hi with rfl|rfl
   ·rw[z3K,ifN hqr.symm,ifP rfl,gr]
    refine⟨⟨rfl,?_,?_⟩,fun p hp gc' hgc'=>?_,fun hm=>j6e (hfz hm) hj (by simp[fzC])⟩
    ·rw[Cjz,show q5k gs'=q5k gs by rw[e4,e1]];exact hrow.1
    ·rw[← hgs']
     refine all2.set hrow.2 ⟨?_,hel.2.spl (c:=c) (xs:=[.u]) (ys:=[⟨gc.val,false,0,[]⟩]) ⟨_,[],rfl,⟨rfl,rfl,hone⟩,rfl⟩⟩
     have:=hel.1
     have:=hel.2.len
     unfold spl
     simp only[Awz,Boz,Bpz,Cmz]
     omega
    ·rcases List.mem_cons.1 hp with rfl|hp
     ·simp only[gqq]
      rw[← hgs'] at hgc'
      have hjlt:=(List.getElem?_eq_some_iff.1 hge).1
      simp only[Cgz,if_true,ifP hjlt,bsS] at hgc'
      rw[Ayz,Chz (by simp;omega),Clz] at hgc'
      simp[Nat.min_eq_left (Nat.le_of_lt hcl0)] at hgc'
      subst hgc'
      intro u k' hu
      cases hu
      rfl
     ·have:(gs[p.1]?).bind (·[p.2.1]?)=some gc'∨gc'=⟨gc.val,false,0,[]⟩∧p.1=j∧p.2.1=c:=by
       by_cases hpj:p.1=j∧p.2.1=c
       ·right
        refine⟨?_,hpj⟩
        rw[← hgs',hpj.1,hpj.2] at hgc'
        have hjlt:=(List.getElem?_eq_some_iff.1 hge).1
        simp only[Cgz,if_true,ifP hjlt,bsS] at hgc'
        rw[Ayz,Chz (by simp;omega),Clz] at hgc'
        simp[Nat.min_eq_left (Nat.le_of_lt hcl0)] at hgc'
        exact hgc'.symm
       ·left
        rw[← hgs'] at hgc'
        by_cases hpj1:p.1=j
        ·rw[← hgc',hpj1]
         exact (j3g (news:=[⟨gc.val,false,0,[]⟩]) hge (by simp;omega) (by simp;have:p.2.1≠c:=fun e=>hpj ⟨hpj1,e⟩;omega)).symm
        ·rw[List.getElem?_set_ne (fun e=>hpj1 e.symm)] at hgc'
         exact hgc'
      rcases this with h|⟨h,h1,h2⟩
      ·exact (hho p hp gc' h).adv (hadv _)
      ·have h3:=(hho p hp gc (by rw[h1,h2,hge];exact hgc)).adv (hadv p.2.2)
       rw[h];exact h3
   ·rw[z3K,ifP rfl,gqq]
    obtain⟨Lq',gq',hxr',hxl'⟩:=hx.ok (g:=g') hcl
    revert hxr
    cases hx with
    | row=>intro hxr;exact hxr
    | own=>intro hxr;exact⟨hxr.1,holesOk.nil,hxr.2.2⟩
    | flat=>intro hxr;exact hxr)
  (fun i hi=>by
   rcases hi with rfl|rfl
   ·rw[hblr]
    have:=j0r (A:=L++LA) (M:=gc.L) (D:=LD) (N:=[]) (by simpa using hnr) Bxz (by simp)
    simpa using this
   ·rw[hblq]
    rw[← Ayz,← Ayz,Cez] at hnr
    exact (List.nodup_append.1 hnr.1).2.1)
  (fun i i' hi hi' hne b hb=>by
   have hdis:∀ b,b∈L++(LA++LD)→b∉gc.L:=fun b hb hb2=>by
    rw[← Ayz,← Ayz,Cez] at hnr
    obtain⟨n1,_,n3⟩:=hnr
    rw[Cez] at n1
    simp only[Cfz] at hb
    rcases hb with hb|hb|hb
    ·exact n1.2.2 b (by simp[hb]) b hb2 rfl
    ·exact n1.2.2 b (by simp[hb]) b hb2 rfl
    ·exact n3 b (by simp[hb2]) b hb rfl
   rcases hi with rfl|rfl<;>rcases hi' with rfl|rfl
   ·exact absurd rfl hne
   ·rw[hblr] at hb;rw[hblq];exact hdis b hb
   ·rw[hblq] at hb;rw[hblr];exact fun h=>hdis b h hb
   ·exact absurd rfl hne)
  (fun i b hi hb=>by
   have hb' : b∈bl (g r):=by
    rw[hbr]
    rcases hi with rfl|rfl
    ·rw[hblr] at hb
     simp only[Cfz] at hb ⊢
     rcases hb with hb|hb|hb
     ·exact .inl hb
     ·exact .inr (.inl (.inl hb))
     ·exact .inr (.inr hb)
    ·rw[hblq] at hb;simp[hb]
   exact⟨(hs.own r b hb').1,(hs.own r b hb').2.1,.inr ⟨r,.inl rfl,hb'⟩⟩)
 exact⟨F,g',h1,fun t=>h2 _ _ (hv t)⟩
theorem q3y {r j c k q:Nat}{m:Md}{es:List (List Cell)}{hh:List (Nat×Nat×Nat)}{e:List Cell}{cell:Cell}(hσ:fnOf σ r=.deep m k es hh)(hj:es[j]?=some e)(hc:Nat.blt c e.length=true)(hm:(j,c,q)∈hh)(hx:MC (fnOf σ q) cell)(hf:fzC cell=true∨m=.bo)(hqr:Nat.beq q r=false) :
  GH S ρ σ ρ (setL (setL σ r (.deep m k (es.set j (spl e c [cell])) (hsK hh c 1))) q .dead):=by
 intro F g w ρc hs hv
 have hqr:q≠r:=fun e=>by subst e;simp at hqr
 have hroot:=hs.roots r
 rw[hσ] at hroot
 cases hg:g r<;>rw[hg] at hroot<;>try exact hroot.elim
 rename_i v k0 L gs
 obtain⟨⟨hk0,hrow⟩,hho,hfz⟩:=hroot
 subst hk0
 obtain⟨vq,kq,Lq,gq,hgq⟩:=hx.isrow (hs.roots q)
 obtain⟨ge,hge,hel⟩:=hrow.2.get hj
 have hgl:ge.length=e.length:=hel.2.len
 have hcl0:c<ge.length:=by rw[hgl];simpa using hc
 have hgc:ge[c]?=some ge[c]:=Ckz hcl0
 generalize ge[c]=gc at hgc
 have hval:gc.val=vq:=by
  have:=hho _ hm gc (by rw[hge];exact hgc)
  rw[hgq] at this
  exact this _ _ rfl
 obtain⟨VA,VD,LA,LD,e1,e2,e3⟩:=k4j (z1G hrow.2) hge hgc
 have hqroot:=hs.roots q
 rw[hgq] at hqroot
 have hcell:=hx.ok hqroot
 obtain⟨e4,e5⟩:=e3 ⟨vq,true,kq,Lq++gbl gq⟩
 generalize hgs' : gs.set j (ge.take c++[(⟨vq,true,kq,Lq++gbl gq⟩:GC)]++ge.drop (c+1))=gs' at e4 e5
 let g' : Nat→G:=fun i=>if i=q then .dead else if i=r then .row v k0 L gs' else g i
 have gr:g' r=.row v k0 L gs':=by simp[g',hqr.symm]
 have gqq:g' q=.dead:=by simp[g']
 have go:∀ i,i≠q→i≠r→g' i=g i:=fun i h1 h2=>by simp[g',h1,h2]
 have hbr:bl (g r)=L++(LA++gc.L++LD):=by rw[hg,← e2];rfl
 have hbq:bl (g q)=Lq++gbl gq:=by rw[hgq];rfl
 have hnr:=hs.nodup r
 rw[hbr] at hnr
 have hblr:bl (g' r)=L++LA++(Lq++gbl gq)++LD:=by rw[gr];simp only[bl,e5,Ayz]
 have hadv:∀ i,Adv (g i) (g' i):=fun i=>by
  by_cases h1:i=q
  ·subst h1;rw[gqq,hgq];exact .inl rfl
  ·by_cases h2:i=r
   ·subst h2;rw[gr,hg];exact .inr ⟨_,_,rfl⟩
   ·rw[go i h1 h2];exact Adv.refl _
 have hsub:∀ b,b∈bl (g' r)→b∈bl (g r)∨b∈bl (g q):=fun b hb=>by
  rw[hblr] at hb
  rw[hbr,hbq]
  simp only[Cfz] at hb ⊢
  rcases hb with ((hb|hb)|hb|hb)|hb
  ·exact .inl (.inl hb)
  ·exact .inl (.inr (.inl (.inl hb)))
  ·exact .inr (.inl hb)
  ·exact .inr (.inr hb)
  ·exact .inl (.inr (.inr hb))
 obtain⟨h1,h2⟩:=hs.step (g':=g') (σ':=fnOf (setL (setL σ r (.deep m k0 (es.set j (spl e c [cell])) (hsK hh c 1))) q .dead)) (F':=F) (w':=w) (fun i=>i=r∨i=q) Chg.none (fun _ h _=>h.elim)
  (fun i hi=>⟨go i (fun e=>hi (.inr e)) fun e=>hi (.inl e),by rw[z3K,ifN fun e=>hi (.inr e),ifN fun e=>hi (.inl e)]⟩) (fun i _=>hadv i) (fun _ h=>h) (fun x hx=>⟨hs.flt x hx,.inl hx⟩)
  (fun hkeep hp i hi=>by
   rcases hi with rfl|rfl
   ·rw[z3K,ifN hqr.symm,ifP rfl,gr]
    refine⟨⟨rfl,?_,?_⟩,fun p hp gc' hgc'=>?_,fun hm'=>j6e (hfz hm') hj (by
     intro x hx'
     rw[List.mem_singleton] at hx'
     subst hx'
     rcases hf with hf|hf
     ·exact hf
     ·rw[hm'] at hf;cases hf)⟩
    ·rw[Cjz,show q5k gs'=q5k gs by rw[e4,e1,hval]];exact hrow.1
    ·rw[← hgs']
     refine all2.set hrow.2 ⟨?_,hel.2.spl (c:=c) (xs:=[cell]) (ys:=[⟨vq,true,kq,Lq++gbl gq⟩]) ⟨_,[],rfl,hcell,rfl⟩⟩
     have:=hel.1
     unfold spl
     simp only[Awz,Boz,Bpz,Cmz]
     omega
    ·simp only[hsK,List.mem_filter,Bool.or_eq_true] at hp
     rw[← hgs'] at hgc'
     have:=j3g (c:=c) (news:=[⟨vq,true,kq,Lq++gbl gq⟩]) hge (by simp only[Cmz];omega) (i:=p.1) (d:=p.2.1) (by simpa using hp.2)
     exact (hho p hp.1 gc' (by rw[← this];exact hgc')).adv (hadv _)
   ·rw[z3K,ifP rfl,gqq];trivial)
  (fun i hi=>by
   rcases hi with rfl|rfl
   ·rw[hblr]
    have hq:=hs.nodup q
    rw[hbq] at hq
    refine j0r (M:=gc.L) (by simpa using hnr) hq fun x hx=>?_
    have h3:=hs.disj q i hqr x (by rw[hbq];exact hx)
    rw[hbr] at h3
    simp only[Cfz,not_or] at h3 ⊢
    exact⟨⟨h3.1,h3.2.1.1⟩,h3.2.2⟩
   ·rw[gqq];exact Bxz)
  (fun i i' hi hi' hne b hb=>by
   rcases hi with rfl|rfl<;>rcases hi' with rfl|rfl
   ·exact absurd rfl hne
   ·rw[gqq];exact List.not_mem_nil
   ·rw[gqq] at hb;cases hb
   ·exact absurd rfl hne)
  (fun i b hi hb=>by
   rcases hi with rfl|rfl
   ·rcases hsub b hb with h|h
    ·exact⟨(hs.own i b h).1,(hs.own i b h).2.1,.inr ⟨i,.inl rfl,h⟩⟩
    ·exact⟨(hs.own q b h).1,(hs.own q b h).2.1,.inr ⟨q,.inr rfl,h⟩⟩
   ·rw[gqq] at hb;cases hb)
 exact⟨F,g',h1,fun t=>h2 _ _ (hv t)⟩
theorem j9W {m:Md}{xs:List D}:m=.fz→fzE (xs.map (elOf m)):=fun hm e he c hc=>by
 subst hm
 obtain⟨x,_,rfl⟩:=List.mem_map.1 he
 obtain⟨d,_,rfl⟩:=List.mem_map.1 hc
 cases d<;>rfl
theorem GH.same {r:Nat}{x y:Root}(hσ:fnOf σ r=x)(h:∀ (S1:Md→Nat→Prop) (w:World) (g:Nat→G) (z:G),z0r S1 w g x z→z0r S1 w g y z):GH S ρ σ ρ (setL σ r y):=by
 intro F g w ρc hs hv
 refine⟨F,g,⟨hs.chg,hs.bB,hs.fmono,hs.fnew,hs.flt,fun i=>?_,hs.low,hs.hdr,hs.nodup,hs.disj,hs.own⟩,hv⟩
 rw[q6X]
 by_cases hi:i=r
 ·subst hi;rw[ifP rfl];exact h _ _ _ _ (by rw[← hσ];exact hs.roots i)
 ·rw[ifN hi];exact hs.roots i
theorem q0C {r k:Nat}{m:Md}{xs:List D}{es:List (List Cell)}(hσ:fnOf σ r=.row m k xs)(he:xs.map (elOf m)=es):GH S ρ σ ρ (setL σ r (.deep m k es [])):=
 GH.same hσ fun S1 w g z h=>by
  subst he
  cases z<;>try exact h.elim
  exact⟨h,holesOk.nil,j9W⟩
theorem q0N {r k:Nat}{m:Md}{es es' : List (List Cell)}{hh:List (Nat×Nat×Nat)}(hσ:fnOf σ r=.deep m k es hh)(he:es=es'):GH S ρ σ ρ (setL σ r (.deep m k es' hh)):=
 GH.same hσ fun S1 w g z h=>by subst he;exact h
end
end Go.A
