/- Abstract states of a walk: plain lemmas on the model, without conditions of their own. -/
import Derived.Test.YtodhafdaelcnlaaGreatAb4
set_option linter.unusedVariables false
set_option linter.unusedSimpArgs false
set_option linter.ambiguousOpen false
set_option linter.unusedSectionVars false
set_option linter.unnecessarySimpa false
open List renaming append_assoc->Azz,take_append_drop->Ccz,set_cons_zero->Cdz,length_append->Axz,set_cons_succ->Cez,length_take->Brz,length_drop->Bsz,map_congr_left->Cfz,flatMap_cons->Bkz,append_nil->Cgz,mem_cons_of_mem->Buz,nodup_append->Chz,nodup_nil->Caz,mem_append->Ciz,getElem?_set->Cjz,getElem?_append_right->Auz,mem_of_getElem?->Bvz,mem_cons_self->Ckz,length_set->Clz,getElem?_eq_getElem->Cmz,singleton_append->Cnz,length_singleton->Coz
open Nat renaming mul_le_mul_right->Cpz,lt_of_lt_of_le->Bfz
open Array renaming length_toList->Cqz
namespace Go.A
open Go Go.E
theorem kh (ge:List GC)(gs:List (List GC)):bW (ge::gs)=ge.map (·.val)++bW gs:=by simp[bW]
theorem lP (ge:List GC)(gs:List (List GC)):cw (ge::gs)=ge.flatMap (·.L)++cw gs:=by simp[cw]
theorem YR (a b:List (List GC)):bW (a++b)=bW a++bW b:=by simp[bW]
theorem MN (a b:List (List GC)):cw (a++b)=cw a++cw b:=by simp[cw]
theorem EY {k:Nat}:∀ {gs:List (List GC)} {j:Nat} {ge:List GC},(∀ g∈gs,g.length=k)->gs[j]?=some ge->∀ {c n:Nat},c+n<=k ->
  ∃ (VA VM VD:List Value) (LA LM LD:List Nat),bW gs=VA++VM++VD/\VA.length=j*k+c/\VM.length=n/\cw gs=LA++LM++LD /\
   ∀ news:List GC,bW (gs.set j (ge.take c++news++ge.drop (c+n)))=VA++news.map (·.val)++VD/\cw (gs.set j (ge.take c++news++ge.drop (c+n)))=LA++news.flatMap (·.L)++LD
 | [],j,ge,_,h,_,_,_=>by simp at h
 | g0::gs,0,ge,hk,h,c,n,hc=>by
  simp at h;subst h;have h0:g0.length=k:=hk g0 (by simp);have e:g0=g0.take c++(g0.drop c).take n++g0.drop (c+n):=by
   rw[Azz,← List.drop_drop,Ccz,Ccz]
  refine⟨(g0.take c).map (·.val),((g0.drop c).take n).map (·.val),(g0.drop (c+n)).map (·.val)++bW gs,(g0.take c).flatMap (·.L),((g0.drop c).take n).flatMap (·.L),(g0.drop (c+n)).flatMap (·.L)++cw gs,?_,?_,?_,?_,λnews=>⟨?_,?_⟩⟩
  conv=>lhs;rw[kh,e]
  simp;simp;omega;simp;omega
  conv=>lhs;rw[lP,e]
  simp;rw[Cdz,kh];simp;rw[Cdz,lP];simp
 | g0::gs,j+1,ge,hk,h,c,n,hc=>by
  obtain⟨VA,VM,VD,LA,LM,LD,U,W,h3,h4,h5⟩:=EY (gs:=gs) (j:=j) (λg hg=>hk g (by simp[hg])) (by simpa using h) hc;have h0:g0.length=k:=hk g0 (by simp);refine⟨g0.map (·.val)++VA,VM,VD,g0.flatMap (·.L)++LA,LM,LD,?_,?_,h3,?_,λnews=>⟨?_,?_⟩⟩;rw[kh,U];simp;rw[Axz,bn,h0,W,Nat.add_mul];omega;rw[lP,h4];simp;rw[Cez,kh,(h5 news).1];simp;rw[Cez,lP,(h5 news).2];simp
theorem W6 {VA VM VD l:List Value}{off:Nat}(h:VA.length=off)(hl:VM.length=l.length):cH (VA++VM++VD) off l=VA++l++VD:=by
 unfold cH;subst h;rw[Azz VA VM VD,List.take_left,← hl];congr 1;rw[List.drop_append,List.drop_of_length_le (Nat.le_add_right _ _),List.nil_append,Nat.add_sub_cancel_left,List.drop_left]
theorem XT {X l:List Value}{N off:Nat}(U:off+l.length<=N)(W:N<=X.length):(cH X off l).take N=cH (X.take N) off l:=by
 unfold cH;obtain⟨Z4,Z9,rfl,hY⟩:∃ Z4 Z9,X=Z4++Z9/\Z4.length=N:=⟨X.take N,X.drop N,(Ccz _ _).symm,by simp;omega⟩
 subst hY;have e1:(Z4++Z9).take off=Z4.take off:=List.take_append_of_le_length (by omega);have e2:(Z4++Z9).drop (off+l.length)=Z4.drop (off+l.length)++Z9:=List.drop_append_of_le_length (by omega);rw[List.take_left,e1,e2,← Azz];exact List.take_left' (by simp only[Axz,Brz,Bsz];omega)
theorem bL.store {P:Program}{w:World}{k:Nat}{v:Value}{n:Nat}{L:List Nat}{cs:List Value}(h:bL w k v n L cs){T kk j c:Nat}{u:Value}{l:List Value}(hk:cn P T=some kk)(hu:u.cells.toList=l)(hl:l.length=kk)(U:∀ x∈l,x.oneCell'=true)(hj:j<n)(hc:c+kk<=k) :
  ∃ b cp,v=.slice (some ⟨b,0,none⟩) n cp/\b∈L/\∃ w',(storeVar T ⟨b,j*k+c,none⟩ u).run P w=.ok () w'/\cF (· = b) w w'/\bL w' k v n L (cH cs (j*k+c) l):=by
 obtain⟨e,⟨hlen,h⟩,hL⟩:=h;rcases h with ⟨_,h⟩|⟨b,cap,cur,rfl,h0,W,h3,h4,h5,h6⟩
 omega;have hjn:(j+1)*k<=n*k:=Cpz k hj;have hnc:n*k<=cap*k:=Cpz k h3;rw[Nat.add_mul] at hjn;have hfit:j*k+c+kk<=cur.toList.length:=by simp only[Cqz];omega
 obtain⟨w',Z,hch,hb'⟩:=NA (P:=P) (w:=w) (v:=u) (l:=l) (off:=j*k+c) hk (by rw[← hu]) hl U W hfit;refine⟨b,cap,rfl,by rw[hL];simp[Value.ownBlock],w',Z,hch,e,⟨?_,.inr ⟨b,cap,(cH cur.toList (j*k+c) l).toArray,rfl,h0,hb',h3,h4,?_,?_⟩⟩,hL⟩;unfold cH;simp only[Axz,Brz,Bsz,hl];omega;unfold cH;simp only[List.size_toArray,Axz,Brz,Bsz,hl,Cqz];simp only[Cqz] at hfit;omega;have h6' : cur.toList.take (n*k)=cs:=by simpa using h6
 simp only[List.toList_toArray];rw[← h6'];exact XT (by omega) (by simp only[Cqz];omega)
def qw:D->Cell
 | .sl k ys=>.w k ys
 | x=>.d .fz x
def ov (x:D):List Cell:=x.cells.map qw
def p8:D->Bool
 | .sl _ _=>false
 | .a _=>false
 | _=>true
def kv (x:D):Bool:=x.cells.all p8
theorem YQ:∀ {d:D},p8 d=true->qw d=.d .fz d
 | .i _ _,_=>rfl
 | .b _,_=>rfl
 | .s _,_=>rfl
 | .a _,h=>by cases h
 | .sl _ _,h=>by cases h
theorem W0 {x:D}(h:kv x=true):ov x=bN .fz x:=
 Cfz λd hd=>YQ (List.all_eq_true.1 h d hd)
theorem XS {xs:List D}(h:∀ x∈xs,kv x=true):xs.map ov=xs.map (bN .fz):=Cfz λx hx=>W0 (h x hx)
inductive MC:aw->Cell->Prop
 | row {m:Md} {k:Nat} {xs:List D}:MC (.row m k xs) (.o m k xs)
 | own {m:Md} {k:Nat} {xs:List D}:MC (.deep m k (xs.map ov) []) (.w k xs)
 | flat {m:Md} {k:Nat} {xs:List D} (h:∀ x∈xs,kv x=true):MC (.row m k xs) (.w k xs)
inductive OC:Cell->aw->Prop
 | row {m:Md} {k:Nat} {xs:List D}:OC (.o m k xs) (.row m k xs)
 | own {k:Nat} {xs:List D}:OC (.w k xs) (.deep .fz k (xs.map ov) [])
 | flat {k:Nat} {xs:List D} (h:∀ x∈xs,kv x=true):OC (.w k xs) (.row .fz k xs)
section
variable {w:World}{S1:Md->Nat->Prop}{g:Nat->G}
theorem JV:∀ {ds:List D} {ge:List GC},aL (aP S1 w) (ds.map qw) ge->(∀ d∈ds,∀ cs,d≠.a cs)->cz w ds (ge.map (·.val)) (ge.flatMap (·.L))
 | [],_,h,_=>by rw[show _=[] from h];simp[cz]
 | d::ds,_,⟨gc,r,U,W,h3⟩,hn=>by
  subst U;rw[List.map_cons,Bkz,cz];refine⟨_,_,_,_,rfl,rfl,?_,JV h3 λd hd=>hn d (by simp[hd])⟩;cases d with
  | a cs=>exact absurd rfl (hn (.a cs) (by simp) cs)
  | sl k ys=>exact W.2.2
  | i k n=>have h4:=W.2.2;rw[rdC] at h4;exact⟨h4,W.2.1⟩
  | b x=>have h4:=W.2.2;rw[rdC] at h4;exact⟨h4,W.2.1⟩
  | s t=>have h4:=W.2.2;rw[rdC] at h4;exact⟨h4,W.2.1⟩
theorem L3 {ds:List D}{ge:List GC}{f:D->Cell}(hf:∀ cs,f (.a cs)=.d .fz (.a cs)):∀ (ds:List D) {ge:List GC},aL (aP S1 w) (ds.map f) ge->∀ d∈ds,∀ cs,d≠.a cs
 | [],_,_,d,hd,_=>by cases hd
 | d0::ds,_,⟨gc,r,U,W,h3⟩,d,hd,cs=>by
  rcases List.mem_cons.1 hd with rfl|hd;intro e;subst e;rw[hf] at W;have:=W.2.2;rw[rdC] at this;exact this;exact L3 (ds:=ds) (ge:=r) hf ds h3 d hd cs
theorem IS {k:Nat}:∀ {xs:List D} {gs:List (List GC)},aL (eY S1 w k) (xs.map ov) gs->dk w k xs (bW gs) (cw gs)
 | [],_,h=>by rw[show _=[] from h];simp[dk,bW,cw]
 | x::xs,_,⟨ge,r,U,W,h3⟩=>by
  subst U;rw[kh,lP];refine E2.2 ⟨_,_,_,_,rfl,rfl,?_,JV W.2 (L3 (f:=qw) (ds:=x.cells) (ge:=ge) (λ_=>rfl) _ W.2),IS h3⟩;rw[bn,W.2.len];exact W.1
theorem JU:∀ {ds:List D} {vs:List Value} {L:List Nat},cz w ds vs L->∃ ge:List GC,aL (aP S1 w) (ds.map qw) ge/\ge.map (·.val)=vs/\ge.flatMap (·.L)=L
 | [],vs,L,h=>by rw[cz] at h;exact⟨[],rfl,h.1.symm,h.2.symm⟩
 | d::ds,vs,L,h=>by
  rw[cz] at h;obtain⟨v,r,L0,L1,rfl,rfl,U,W⟩:=h;obtain⟨ge,h3,rfl,rfl⟩:=JU W;have one:∃ gc,aP S1 w (qw d) gc/\gc.val=v/\gc.L=L0:=by
   cases d with
   | a cs=>exact U.elim
   | sl k ys=>exact⟨⟨v,true,k,L0⟩,⟨rfl,rfl,U⟩,rfl,rfl⟩
   | i k n=>exact⟨⟨v,false,0,L0⟩,⟨rfl,U.2,by rw[rdC];exact U.1⟩,rfl,rfl⟩
   | b x=>exact⟨⟨v,false,0,L0⟩,⟨rfl,U.2,by rw[rdC];exact U.1⟩,rfl,rfl⟩
   | s t=>exact⟨⟨v,false,0,L0⟩,⟨rfl,U.2,by rw[rdC];exact U.1⟩,rfl,rfl⟩
  obtain⟨gc,h4,h5,h6⟩:=one;exact⟨gc::ge,⟨_,_,rfl,h4,h3⟩,by simp[h5],by simp[h6]⟩
theorem DX {k:Nat}:∀ {xs:List D} {vs:List Value} {L:List Nat},dk w k xs vs L->∃ gs,aL (eY S1 w k) (xs.map ov) gs/\bW gs=vs/\cw gs=L
 | [],vs,L,h=>by rw[dk] at h;exact⟨[],rfl,by rw[h.1];rfl,by rw[h.2];rfl⟩
 | x::xs,vs,L,h=>by
  obtain⟨c,r,L0,L1,rfl,rfl,U,W,h3⟩:=E2.1 h;obtain⟨gs,h4,rfl,rfl⟩:=DX h3;obtain⟨ge,h5,rfl,rfl⟩:=JU (S1:=S1) W;refine⟨ge::gs,⟨_,_,rfl,⟨?_,h5⟩,h4⟩,by rw[kh],by rw[lP]⟩;rw[show (ov x).length=ge.length by rw[h5.len];rfl,← U,bn]
theorem LZ:∀ {ds:List D} {vs:List Value} {S2:Nat->Prop},rdCs S2 w ds vs->ds.all p8=true->cz w ds vs []
 | [],vs,_,h,_=>by rw[rdCs] at h;rw[cz];exact⟨h,rfl⟩
 | d::ds,vs,_,h,hf=>by
  simp only[List.all_cons,Bool.and_eq_true] at hf;rw[rdCs] at h;obtain⟨v,r,rfl,U,W⟩:=h;rw[cz];refine⟨v,r,[],[],rfl,rfl,?_,LZ W hf.2⟩;cases d<;>first|(rw[rdC] at U;exact⟨U,rfl⟩)|cases hf.1
theorem KE {k:Nat}:∀ {xs:List D} {vs:List Value} {S2:Nat->Prop},bg S2 w k xs vs->(∀ x∈xs,kv x=true)->dk w k xs vs []
 | [],vs,_,h,_=>by rw[bg] at h;rw[dk];exact⟨h,rfl⟩
 | x::xs,vs,_,h,hf=>by
  obtain⟨c,r,rfl,hl,h3,h4⟩:=gF.1 h;exact E2.2 ⟨c,r,[],[],rfl,rfl,hl,LZ h3 (hf x (by simp)),KE h4 λx hx=>hf x (by simp[hx])⟩
theorem MC.ok {x:aw}{c:Cell}(h:MC x c){v:Value}{k:Nat}{L:List Nat}{gs:List (List GC)}(Z:gQ S1 w g x (.row v k L gs)):aP S1 w c ⟨v,true,k,L++cw gs⟩:=by
 cases h with
 | row=>
  obtain⟨rfl,Z⟩:=Z;obtain⟨U,W,h3,_⟩:=kS Z;exact⟨rfl,rfl,_,by simp only[h3,Cgz];exact U,W⟩
 | own=>
  obtain⟨⟨rfl,Z⟩,_⟩:=Z;refine⟨rfl,rfl,?_⟩;show fl w (.sl _ _) _ _;rw[fl];exact⟨L,_,_,by have:=Z.1;rwa[bn] at this,IS Z.2,rfl⟩
 | flat hf=>
  obtain⟨rfl,Z⟩:=Z;obtain⟨U,W,h3,_⟩:=kS Z;refine⟨rfl,rfl,?_⟩;show fl w (.sl _ _) _ _;rw[fl];exact⟨L,_,_,U,KE W hf,by simp[h3]⟩
theorem MC.isrow {x:aw}{c:Cell}(h:MC x c){y:G}(Z:gQ S1 w g x y):∃ v k L gs,y=.row v k L gs:=by
 cases h<;>cases y<;>first|exact Z.elim|exact⟨_,_,_,_,rfl⟩
theorem MC.one {x:aw}{c:Cell}(h:MC x c){v:Value}{k:Nat}{L:List Nat}{gs:List (List GC)}(Z:gQ S1 w g x (.row v k L gs)):v.oneCell'=true:=by
 cases h;obtain⟨A,c,e,_⟩:=Z.2.1.form;rw[e];rfl;obtain⟨A,c,e,_⟩:=Z.1.2.1.form;rw[e];rfl;obtain⟨A,c,e,_⟩:=Z.2.1.form;rw[e];rfl
theorem OC.ok {x:aw}{c:Cell}(h:OC c x){gc:GC}(hc:aP S1 w c gc):∃ L gs,gQ S1 w g x (.row gc.val gc.k L gs)/\L++cw gs=gc.L:=by
 cases h with
 | row=>
  obtain⟨U,W,cs,h3,h4⟩:=hc;obtain⟨gs,h5,h6,h7⟩:=p9 h4;refine⟨gc.L,gs,⟨W,?_,?_⟩,by rw[h7,Cgz]⟩;rw[h6,bn,W];exact h3;rw[W];exact h5
 | own=>
  obtain⟨U,W,h3⟩:=hc;rw[fl] at h3;obtain⟨L0,cs,L1,h4,h5,h6⟩:=h3;obtain⟨gs,h7,rfl,rfl⟩:=DX (S1:=S1) h5;refine⟨L0,gs,⟨⟨W,?_,?_⟩,bj.nil,λ_ e he c hc=>?_⟩,h6.symm⟩;rw[bn,W];exact h4;rw[W];exact h7;obtain⟨x,_,rfl⟩:=List.mem_map.1 he;obtain⟨d,_,rfl⟩:=List.mem_map.1 hc;cases d<;>rfl
 | flat hf=>
  obtain⟨U,W,h3⟩:=hc;rw[fl] at h3;obtain⟨L0,cs,L1,h4,h5,h6⟩:=h3;obtain⟨gs,h7,rfl,rfl⟩:=DX (S1:=S1) h5;refine⟨L0,gs,⟨W,?_,?_⟩,h6.symm⟩;rw[bn,W];exact h4;rw[W,← XS hf];exact h7
end
class jm {α:Type} (f:α->D) (Z6:outParam (α->List Cell)):Prop where
 eq:∀ y,Z6 y=ov (f y)
 rd:∀ y,DR (Z6 y) (f y)
inductive NC (σ:Nat->aw) (m:Md):List X->List Cell->List Nat->Prop
 | nil:NC σ m [] [] []
 | d {m' : Md} {x:D} {xs:List X} {cs:List Cell} {qs:List Nat} (h:jS (.d m' x)=true∨m=.bo) (W:NC σ m xs cs qs):NC σ m (.d m' x::xs) (.d m' x::cs) qs
 | nl {k:Nat} {xs:List X} {cs:List Cell} {qs:List Nat} (W:NC σ m xs cs qs):NC σ m (.nl k::xs) (.nl k::cs) qs
 | nld {k k' : Nat} {m' : Md} {xs:List X} {cs:List Cell} {qs:List Nat} (W:NC σ m xs cs qs):NC σ m (.nl k::xs) (.d .fz (.sl k' [])::cs) qs
 | nlo {k k' : Nat} {m' : Md} {xs:List X} {cs:List Cell} {qs:List Nat} (W:NC σ m xs cs qs):NC σ m (.nl k::xs) (.o .fz k' []::cs) qs
 | nlw {k k' : Nat} {m' : Md} {xs:List X} {cs:List Cell} {qs:List Nat} (W:NC σ m xs cs qs):NC σ m (.nl k::xs) (.w k' []::cs) qs
 | ref {q:Nat} {c:Cell} {xs:List X} {cs:List Cell} {qs:List Nat} (h:MC (σ q) c) (hf:jS c=true∨m=.bo) (W:NC σ m xs cs qs):NC σ m (.ref q none::xs) (c::cs) (q::qs)
theorem bL.nil0 {w:World}{k:Nat}:bL w k (.slice none 0 0) 0 [] []:=⟨0,Own.nil w 0 0 k,rfl⟩
theorem NC.ok {S:Start}{F:Nat->Prop}{g:Nat->G}{w:World}{σ:Nat->aw}(hs:bp S F g σ w){m:Md}:∀ {xs:List X} {cs:List Cell} {qs:List Nat} {vs:List Value},NC σ m xs cs qs->aQ (SM F S.B) w g xs vs->∃ news:List GC,aL (aP (SM F S.B) w) cs news/\news.map (·.val)=vs/\news.flatMap (·.L)=qs.flatMap (λq=>bl (g q))/\(∀ u∈vs,u.oneCell'=true)/\(m=.fz->∀ c∈cs,jS c=true)
 | _,_,_,vs,.nil,h=>by rw[aQ] at h;subst h;exact⟨[],rfl,rfl,rfl,by simp,by simp⟩
 | _,_,_,vs,.d (m':=m') (x:=x) hm W,h=>by
  rw[aQ] at h;obtain⟨v,r,rfl,h3,h4⟩:=h;obtain⟨news,h5,rfl,h7,h8,h9⟩:=NC.ok hs W h4;rw[vr] at h3;refine⟨⟨v,false,0,[]⟩::news,⟨_,_,rfl,⟨rfl,rfl,h3⟩,h5⟩,rfl,by simpa using h7,λu hu=>?_,λe c hc=>?_⟩;rcases List.mem_cons.1 hu with rfl|hu;exact h3.one;exact h8 u hu;rcases List.mem_cons.1 hc with rfl|hc;rcases hm with hm|hm;exact hm;rw[e] at hm;cases hm;exact h9 e c hc
 | _,_,_,vs,.nl W,h=>by
  rw[aQ] at h;obtain⟨v,r,rfl,h3,h4⟩:=h;obtain⟨news,h5,rfl,h7,h8,h9⟩:=NC.ok hs W h4;rw[vr] at h3;refine⟨⟨v,false,0,[]⟩::news,⟨_,_,rfl,⟨rfl,rfl,h3⟩,h5⟩,rfl,by simpa using h7,λu hu=>?_,λe c hc=>?_⟩;rcases List.mem_cons.1 hu with rfl|hu;rw[h3];rfl;exact h8 u hu;rcases List.mem_cons.1 hc with rfl|hc;rfl;exact h9 e c hc
 | _,_,_,vs,.nld W,h=>by
  rw[aQ] at h;obtain⟨v,r,rfl,h3,h4⟩:=h;obtain⟨news,h5,rfl,h7,h8,h9⟩:=NC.ok hs W h4;rw[vr] at h3;refine⟨⟨v,false,0,[]⟩::news,⟨_,_,rfl,⟨rfl,rfl,by show rdC _ _ (.sl _ []) _;rw[rdC];exact⟨none,0,[],h3,Nat.le_refl _,Nat.zero_le _,by rw[bg],.inl rfl⟩⟩,h5⟩,rfl,by simpa using h7,λu hu=>?_,λe c hc=>?_⟩;rcases List.mem_cons.1 hu with rfl|hu;rw[h3];rfl;exact h8 u hu;rcases List.mem_cons.1 hc with rfl|hc;rfl;exact h9 e c hc
 | _,_,_,vs,.nlo W,h=>by
  rw[aQ] at h;obtain⟨v,r,rfl,h3,h4⟩:=h;obtain⟨news,h5,rfl,h7,h8,h9⟩:=NC.ok hs W h4;rw[vr] at h3;refine⟨⟨v,true,_,[]⟩::news,⟨_,_,rfl,⟨rfl,rfl,[],by rw[h3];exact bL.nil0,by rw[bg]⟩,h5⟩,rfl,by simpa using h7,λu hu=>?_,λe c hc=>?_⟩;rcases List.mem_cons.1 hu with rfl|hu;rw[h3];rfl;exact h8 u hu;rcases List.mem_cons.1 hc with rfl|hc;rfl;exact h9 e c hc
 | _,_,_,vs,.nlw W,h=>by
  rw[aQ] at h;obtain⟨v,r,rfl,h3,h4⟩:=h;obtain⟨news,h5,rfl,h7,h8,h9⟩:=NC.ok hs W h4;rw[vr] at h3;refine⟨⟨v,true,_,[]⟩::news,⟨_,_,rfl,⟨rfl,rfl,by show fl _ (.sl _ []) _ _;rw[fl];exact⟨[],[],[],by rw[h3];exact bL.nil0,by rw[dk];exact⟨rfl,rfl⟩,rfl⟩⟩,h5⟩,rfl,by simpa using h7,λu hu=>?_,λe c hc=>?_⟩;rcases List.mem_cons.1 hu with rfl|hu;rw[h3];rfl;exact h8 u hu;rcases List.mem_cons.1 hc with rfl|hc;rfl;exact h9 e c hc
 | _,_,_,vs,.ref (q:=q) hc hf W,h=>by
  rw[aQ] at h;obtain⟨v,r,rfl,h3,h4⟩:=h;obtain⟨news,h5,rfl,h7,h8,h9⟩:=NC.ok hs W h4;rw[vr] at h3;have Z:=hs.roots q;obtain⟨v0,k0,L,gs,hg⟩:=hc.isrow Z;rw[hg] at Z h3;have h3:=h3 _ _ rfl;subst h3;have h10:=hc.ok Z;have hone:v.oneCell'=true:=hc.one Z;refine⟨⟨v,true,k0,L++cw gs⟩::news,⟨_,_,rfl,h10,h5⟩,rfl,?_,λu hu=>?_,λe c hc'=>?_⟩;simp only[Bkz,h7,hg,bl];rcases List.mem_cons.1 hu with rfl|hu;exact hone;exact h8 u hu;rcases List.mem_cons.1 hc' with rfl|hc';rcases hf with hf|hf;exact hf;rw[e] at hf;cases hf;exact h9 e c hc'
theorem Ki:∀ (qs:List Nat) (σ:Nat->aw) (i:Nat),cg σ (qs.map λq=>(q,.dead)) i=if i∈qs then .dead else σ i
 | [],σ,i=>by simp[cg]
 | q::qs,σ,i=>by
  rw[List.map_cons,cg,Ki qs];by_cases h:i∈qs;simp[h];by_cases W:i=q<;>simp[h,W]
theorem Fw {r:Nat}{x:aw}{qs:List Nat}{σ:Nat->aw}(Z:r∉qs)(i:Nat):cg σ ((r,x)::qs.map λq=>(q,.dead)) i=if i=r then x else if i∈qs then .dead else σ i:=by
 rw[cg,Ki];by_cases h:i=r;subst h;simp[Z];simp[h]
theorem NC.congr {σ1 σ2:Nat->aw}{m:Md}:∀ {xs:List X} {cs:List Cell} {qs:List Nat},NC σ2 m xs cs qs->(∀ q∈qs,σ1 q=σ2 q)->NC σ1 m xs cs qs
 | _,_,_,.nil,_=>.nil
 | _,_,_,.d h W,hc=>.d h (W.congr hc)
 | _,_,_,.nl W,hc=>.nl (W.congr hc)
 | _,_,_,.nld (m':=m') W,hc=>.nld (m':=m') (W.congr hc)
 | _,_,_,.nlo (m':=m') W,hc=>.nlo (m':=m') (W.congr hc)
 | _,_,_,.nlw (m':=m') W,hc=>.nlw (m':=m') (W.congr hc)
 | _,_,_,.ref h hf W,hc=>.ref (by rw[hc _ (by simp)];exact h) hf (W.congr λq hq=>hc q (by simp[hq]))
theorem NC.len {σ:Nat->aw}{m:Md}:∀ {xs:List X} {cs:List Cell} {qs:List Nat},NC σ m xs cs qs->cs.length=xs.length
 | _,_,_,.nil=>rfl
 | _,_,_,.d h W=>by simp[W.len]
 | _,_,_,.nl W=>by simp[W.len]
 | _,_,_,.nld (m':=m') W=>by simp[W.len]
 | _,_,_,.nlo (m':=m') W=>by simp[W.len]
 | _,_,_,.nlw (m':=m') W=>by simp[W.len]
 | _,_,_,.ref h hf W=>by simp[W.len]
theorem NC.roots {σ:Nat->aw}{m:Md}:∀ {xs:List X} {cs:List Cell} {qs:List Nat},NC σ m xs cs qs->∀ x∈xs,∀ i∈dq x,i∈qs
 | _,_,_,.nil,x,hx=>by cases hx
 | _,_,_,.d h W,x,hx=>by
  rcases List.mem_cons.1 hx with rfl|hx;intro i hi;simp[dq] at hi;exact W.roots x hx
 | _,_,_,.nl W,x,hx=>by
  rcases List.mem_cons.1 hx with rfl|hx;intro i hi;simp[dq] at hi;exact W.roots x hx
 | _,_,_,.nld (m':=m') W,x,hx=>by
  rcases List.mem_cons.1 hx with rfl|hx;intro i hi;simp[dq] at hi;exact W.roots x hx
 | _,_,_,.nlo (m':=m') W,x,hx=>by
  rcases List.mem_cons.1 hx with rfl|hx;intro i hi;simp[dq] at hi;exact W.roots x hx
 | _,_,_,.nlw (m':=m') W,x,hx=>by
  rcases List.mem_cons.1 hx with rfl|hx;intro i hi;simp[dq] at hi;exact W.roots x hx
 | _,_,_,.ref h hf W,x,hx=>by
  rcases List.mem_cons.1 hx with rfl|hx;intro i hi;simp[dq] at hi;simp[hi];intro i hi;exact Buz _ (W.roots x hx i hi)
section
variable {P:Program}{S:Start}{F:Nat->Prop}{g:Nat->G}{w:World}{σ1:Nat->aw}
def lf (g:Nat->G)(r:Nat)(y:G)(qs:List Nat):Nat->G:=λi=>if i=r then y else if i∈qs then .dead else g i
theorem Fv {A M D N:List Nat}(h:(A++M++D).Nodup)(hn:N.Nodup)(hd:∀ b∈N,b∉A/\b∉D):(A++N++D).Nodup:=by
 rw[Azz,Chz] at h ⊢;obtain⟨U,W,h3⟩:=h;rw[Chz] at W ⊢;obtain⟨h4,h5,h6⟩:=W;refine⟨U,⟨hn,h5,λa ha b Y e=>(hd a ha).2 (e▸Y)⟩,λa ha b Y e=>?_⟩;rcases List.mem_append.1 Y with Y|Y;exact (hd b Y).1 (e▸ha);exact h3 a ha b (List.mem_append.2 (.inr Y)) e
theorem BI (hs:bp S F g σ1 w):∀ {qs:List Nat},qs.Nodup->(qs.flatMap λq=>bl (g q)).Nodup
 | [],_=>Caz
 | q::qs,h=>by
  rw[List.nodup_cons] at h;rw[Bkz,Chz];refine⟨hs.nodup q,BI hs h.2,λa ha b Y e=>?_⟩;subst e;obtain⟨q',hq',Y⟩:=List.mem_flatMap.1 Y;exact hs.disj q q' (λe=>h.1 (e▸hq')) a ha Y
theorem bp.cells (hs:bp S F g σ1 w){r:Nat}{v:Value}{k:Nat}{L:List Nat}{gs:List (List GC)}(hg:g r=.row v k L gs)(hgs:∀ ge∈gs,ge.length=k){n:Nat}(hown:bL w k v n L (bW gs)){j c:Nat}{ge:List GC}(hj:gs[j]?=some ge)(hjn:j<n){news:List GC}(hc:c+news.length<=k){qs:List Nat}(hnd:(r::qs).Nodup)
  (hL:news.flatMap (·.L)=qs.flatMap λq=>bl (g q)) (hq:∀ q∈qs,g q≠.none) {T:Nat} (hk:cn P T=some news.length) {u:Value} (hu:u.cells.toList=news.map (·.val)) (U:∀ x∈news.map (·.val),x.oneCell'=true) {σ' : Nat->aw} (hσ:∀ i,i≠r->i∉qs->σ' i=σ1 i) (hσq:∀ q∈qs,σ' q=.dead) :
  ∃ b cp w',v=.slice (some ⟨b,0,none⟩) n cp/\(storeVar T ⟨b,j*k+c,none⟩ u).run P w=.ok () w' /\
   (((∀ m b o cs,SM F S.B m b->b<w.heap.size->At w b o cs->SM F S.B m b/\b<w'.heap.size/\At w' b o cs)->(∀ x,x∈cw gs∨x∈news.flatMap (·.L)->w'.heap[x]?=w.heap[x]?)->(∀ i,da (g i) (lf g r (.row v k L (gs.set j (ge.take c++news++ge.drop (c+news.length)))) qs i))->bL w' k v n L (bW (gs.set j (ge.take c++news++ge.drop (c+news.length)))) ->
    gQ (SM F S.B) w' (lf g r (.row v k L (gs.set j (ge.take c++news++ge.drop (c+news.length)))) qs) (σ' r) (.row v k L (gs.set j (ge.take c++news++ge.drop (c+news.length))))) ->
   bp S F (lf g r (.row v k L (gs.set j (ge.take c++news++ge.drop (c+news.length)))) qs) σ' w'/\cj S.B F g w F (lf g r (.row v k L (gs.set j (ge.take c++news++ge.drop (c+news.length)))) qs) w'):=by
 rw[List.nodup_cons] at hnd;obtain⟨VA,VM,VD,LA,LM,LD,e1,e2,e3,e4,e5⟩:=EY hgs hj hc;obtain⟨e6,e7⟩:=e5 news;generalize hge' : gs.set j (ge.take c++news++ge.drop (c+news.length))=gs' at e6 e7 ⊢;obtain⟨b,cp,hv,hbL,w',hrun,hchg,hown'⟩:=hown.store (P:=P) (j:=j) (c:=c) hk hu (by simp) U hjn hc;have hgv:cH (bW gs) (j*k+c) (news.map (·.val))=bW gs':=by rw[e1,e6];exact W6 e2 (by rw[e3];simp)
 rw[hgv] at hown';have hbl:bl (g r)=L++(LA++LM++LD):=by rw[hg,← e4];rfl
 have hnr:=hs.nodup r;have hL2:∀ x,x∈news.flatMap (·.L)->∃ q∈qs,x∈bl (g q):=λx hx=>by rw[hL] at hx;exact List.mem_flatMap.1 hx
 have hbr:b∈bl (g r):=by rw[hbl];simp[hbL]
 have notb:∀ x,x∈cw gs∨x∈news.flatMap (·.L)->x≠b:=λx hx e=>by
  subst e;rcases hx with hx|hx;rw[hg] at hnr;exact (List.nodup_append.1 hnr).2.2 x hbL x hx rfl;obtain⟨q,hq',hx⟩:=hL2 x hx;exact hs.disj r q (λe=>hnd.1 (e▸hq')) x hbr hx
 refine⟨b,cp,w',hv,hrun,λhroot=>?_⟩;have hlt:∀ x,x∈cw gs∨x∈news.flatMap (·.L)->x<w.heap.size:=λx hx=>by
  rcases hx with hx|hx;exact (hs.own r x (by rw[hg];simp[bl,hx])).1;obtain⟨q,_,hx⟩:=hL2 x hx;exact (hs.own q x hx).1
 have gr:lf g r (.row v k L gs') qs r=.row v k L gs':=by simp[lf]
 have gq:∀ q∈qs,lf g r (.row v k L gs') qs q=.dead:=λq hq=>by
  have:q≠r:=λe=>hnd.1 (e▸hq);simp[lf,this,hq]
 have go:∀ i,i≠r->i∉qs->lf g r (.row v k L gs') qs i=g i:=λi U W=>by simp[lf,U,W]
 have hadv:∀ i,da (g i) (lf g r (.row v k L gs') qs i):=λi=>by
  by_cases hi:i=r;subst hi;rw[gr,hg];exact .inr ⟨_,_,rfl⟩;by_cases hi2:i∈qs;rw[gq i hi2];exact da.dead (hq i hi2);rw[go i hi hi2];exact da.refl _
 have hblr:∀ x,x∈bl (.row v k L gs')->x∈bl (g r)∨∃ q∈qs,x∈bl (g q):=λx hx=>by
  simp only[bl,e7,Ciz] at hx;rw[hbl];simp only[Ciz];rcases hx with hx|(hx|hx)|hx;exact .inl (.inl hx);exact .inl (.inr (.inl (.inl hx)));exact .inr (hL2 x hx);exact .inl (.inr (.inr hx))
 refine hs.step (λi=>i=r∨i∈qs) hchg (λi hi _=>⟨r,.inl rfl,by subst hi;exact hbr⟩) (λi hi=>⟨go i (λe=>hi (.inl e)) λe=>hi (.inr e),hσ i (λe=>hi (.inl e)) λe=>hi (.inr e)⟩) (λi _=>hadv i) (λ_ h=>h) (λx hx=>⟨Bfz (hs.flt x hx) hchg.size,.inl hx⟩)
  (λhkeep hp i hi=>?_) (λi hi=>?_) (λi i' hi hi' hne x hx=>?_) (λi x hi hx=>?_)
 rcases hi with rfl|hi;rw[gr];exact hroot hkeep (λx hx=>hchg.block x (hlt x hx) (notb x hx)) hadv hown';rw[gq i hi,hσq i hi];trivial;rcases hi with rfl|hi;rw[gr];simp only[bl,e7];have:(L++LA++LM++LD).Nodup:=by rw[hbl] at hnr;simpa using hnr
 have W:=Fv (N:=news.flatMap (·.L)) this (by rw[hL];exact BI hs hnd.2) λx hx=>by
  obtain⟨q,hq',hx⟩:=hL2 x hx;have h3:=hs.disj q i (λe=>hnd.1 (e▸hq')) x hx;rw[hbl] at h3;simp only[Ciz,not_or] at h3 ⊢;exact⟨⟨h3.1,h3.2.1.1⟩,h3.2.2⟩
 simpa using W;rw[gq i hi];exact Caz;rcases hi with rfl|hi;rcases hi' with rfl|hi';exact absurd rfl hne;rw[gq i' hi'];exact List.not_mem_nil;rw[gq i hi] at hx;cases hx;rcases hi with rfl|hi;rw[gr] at hx;rcases hblr x hx with h|⟨q,hq',h⟩
 exact⟨Bfz (hs.own i x h).1 hchg.size,(hs.own i x h).2.1,.inr ⟨i,.inl rfl,h⟩⟩;exact⟨Bfz (hs.own q x h).1 hchg.size,(hs.own q x h).2.1,.inr ⟨q,.inr hq',h⟩⟩;rw[gq i hi] at hx;cases hx
end
theorem lO {S1:Md->Nat->Prop}{w:World}{k:Nat}:∀ {es:List (List Cell)} {gs:List (List GC)},aL (eY S1 w k) es gs->∀ ge∈gs,ge.length=k
 | [],_,h,ge,hg=>by rw[show _=[] from h] at hg;cases hg
 | e::es,_,⟨g0,r,U,W,h3⟩,ge,hg=>by
  subst U;rcases List.mem_cons.1 hg with rfl|hg;rw[W.2.len];exact W.1;exact lO h3 ge hg
def kB (hs:List (Nat×Nat×Nat))(c n:Nat):List (Nat×Nat×Nat):=hs.filter λp=>Nat.blt p.2.1 c||Nat.ble (c+n) p.2.1
theorem EX {gs:List (List GC)}{j c:Nat}{ge news:List GC}(hj:gs[j]?=some ge)(hc:c+news.length<=ge.length){i d:Nat}(hd:d<c∨c+news.length<=d):(((gs.set j (ge.take c++news++ge.drop (c+news.length)))[i]?).bind (·[d]?))=(gs[i]?).bind (·[d]?):=by
 rw[Cjz];by_cases hi:j=i;subst hi;have hlt:=(List.getElem?_eq_some_iff.1 hj).1;simp only[if_true,ao hlt,hj,aj];rcases hd with hd|hd;rw[Azz,List.getElem?_append_left (by simp;omega),List.getElem?_take_of_lt hd];rw[Auz (by simp;omega),List.getElem?_drop];congr 1;simp only[Axz,Brz];omega;simp[hi]
theorem Au {es:List (List Cell)}{j c:Nat}{e cells:List Cell}(h:me es)(hj:es[j]?=some e)(hc:∀ x∈cells,jS x=true):me (es.set j (spl e c cells)):=by
 intro e' he x hx;rcases List.mem_or_eq_of_mem_set he with he|rfl;exact h e' he x hx;have hm:=h e (Bvz hj);simp only[spl,Ciz] at hx;rcases hx with (hx|hx)|hx;exact hm x (List.mem_of_mem_take hx);exact hc x hx;exact hm x (List.mem_of_mem_drop hx)
theorem aP.keepL {S1:Md->Nat->Prop}{w w' : World}(hk:∀ m b o cs,S1 m b->b<w.heap.size->At w b o cs->S1 m b/\b<w'.heap.size/\At w' b o cs):∀ {cs:List Cell} {ge:List GC},aL (aP S1 w) cs ge->(∀ b∈ge.flatMap (·.L),w'.heap[b]?=w.heap[b]?)->aL (aP S1 w') cs ge:=by
 intro cs ge h hL;exact h.imp_mem λc gc hgc hc=>hc.keep hk λb Y=>hL b (List.mem_flatMap.2 ⟨gc,hgc,Y⟩)
theorem NC.alive {σ:Nat->aw}{m:Md}:∀ {xs:List X} {cs:List Cell} {qs:List Nat},NC σ m xs cs qs->∀ q∈qs,∃ c,MC (σ q) c
 | _,_,_,.nil,q,hq=>by cases hq
 | _,_,_,.d h W,q,hq=>W.alive q hq
 | _,_,_,.nl W,q,hq=>W.alive q hq
 | _,_,_,.nld (m':=m') W,q,hq=>W.alive q hq
 | _,_,_,.nlo (m':=m') W,q,hq=>W.alive q hq
 | _,_,_,.nlw (m':=m') W,q,hq=>W.alive q hq
 | _,_,_,.ref h hf W,q,hq=>by
  rcases List.mem_cons.1 hq with rfl|hq;exact⟨_,h⟩;exact W.alive q hq
theorem NC.some {S:Start}{F:Nat->Prop}{g:Nat->G}{w:World}{σ:Nat->aw}{m:Md}{xs:List X}{cs:List Cell}{qs:List Nat}(h:NC σ m xs cs qs)(hs:bp S F g σ w)(q:Nat)(hq:q∈qs):g q≠.none:=by
 obtain⟨c,hc⟩:=h.alive q hq;obtain⟨v,k,L,gs,e⟩:=hc.isrow (hs.roots q);rw[e];intro h;cases h
section
variable {P:Program}{S:Start}{n:Nat}{ρ:AE}{σ:St}{o:Oper}
theorem aL.spl {α β:Type}{R:α->β->Prop}{ls:List α}{bs:List β}(h:aL R ls bs){c:Nat}{xs:List α}{ys:List β}(W:aL R xs ys):aL R (Go.A.spl ls c xs) (bs.take c++ys++bs.drop (c+ys.length)):=by
 unfold Go.A.spl;rw[← W.len];exact ((h.take c).append W).append (h.drop _)
theorem HJ {T kk:Nat}{x y:Operand}{Z4:X}{r c j k:Nat}{m:Md}{es:List (List Cell)}{hh:List (Nat×Nat×Nat)}{e cells:List Cell}{qs:List Nat}(ho:o.op=.store T x y)(hk:cn P T=some kk)(hx:aE ρ x=.pe r none j c)(hσ:ai σ r=.deep m k es hh)(hj:es[j]?=some e)(hy:aE ρ y=Z4)(hn:NC (ai σ) m Z4.cells cells qs)
  (hl:Z4.cells.length=kk) (hfit:Nat.ble (c+kk) k=true) (hnd:j8 (r::qs)=true) (hsure:gm (ai σ) Z4=true) :
  LT P S o ρ σ [] .u ((r,.deep m k (es.set j (spl e c cells)) (kB hh c kk))::qs.map λq=>(q,.dead)):=by
 intro σ1 F g w ρc hs hrd hwr hv;have hr1:σ1 r=.deep m k es hh:=(hwr (r,_) Ckz).trans hσ;have hq1:∀ q∈qs,σ1 q=ai σ q:=λq hq=>hwr (q,.dead) (Buz _ (List.mem_map.2 ⟨q,hq,rfl⟩));have hnd':=py hnd;have hn1:=hn.congr hq1;have hroot:=hs.roots r;rw[hr1] at hroot;cases hg:g r<;>rw[hg] at hroot<;>try exact hroot.elim
 rename_i v k0 L gs;obtain⟨⟨hk0,hrow⟩,hho,hfz⟩:=hroot;subst hk0;have e1:=hv x (by simp[ho,Op.operands]);have e2:=hv y (by simp[ho,Op.operands]);rw[hy] at e2;have hA:gm σ1 Z4=true:=by
  cases Z4 with
  | ag cs=>rfl
  | _=>rw[tN (σ2:=ai σ) λi hi=>hq1 i (hn.roots _ (by simp[X.cells]) i hi)];exact hsure
 have hys:=oN hs hA e2;obtain⟨news,h5,h6,h7,h8,h9⟩:=hn1.ok hs hys;obtain⟨ge,hge,hel⟩:=hrow.2.get hj;have hjn:j<es.length:=(List.getElem?_eq_some_iff.1 hj).1;have hnl:news.length=kk:=by rw[h5.len,hn.len,hl]
 have hfit' : c+kk<=k0:=by simpa using hfit
 have hgl:ge.length=k0:=lO hrow.2 ge (Bvz hge);obtain⟨b,cp,w',hv',hrun,hsim⟩:=hs.cells (P:=P) (T:=T) (u:=E.ev ρc y) (news:=news) (qs:=qs) (c:=c) (j:=j) hg (lO hrow.2) hrow.1 hge hjn (by rw[hnl];exact hfit') hnd' h7
  (λq hq=>hn1.some hs q hq)
  (by rw[hnl];exact hk) h6.symm (by rw[h6];exact h8) (σ':=cg σ1 ((r,.deep m k0 (es.set j (spl e c cells)) (kB hh c kk))::qs.map λq=>(q,.dead)))
  (λi hi1 hi2=>by rw[Fw (List.nodup_cons.1 hnd').1,al hi1,al hi2]) (λq hq=>by rw[Fw (List.nodup_cons.1 hnd').1,al (λ(e:q=r)=>(List.nodup_cons.1 hnd').1 (e▸hq)),ao hq])
 rw[hx,vr,hg] at e1;obtain⟨b',n',cp',e3,e4,e5⟩:=e1 _ _ rfl;rw[hv'] at e3;cases e3;have he:(execOp (E.ev ρc) o).run P w=.ok .skip w':=by
  simp only[execOp,ho,e5,Instr.storeAt,Instr.sureAddr,Sem.run_bind,Sem.run_pure,Result.andThen_ok,hrun]
 rw[he];obtain⟨h10,h11⟩:=hsim (λhkeep hL hadv hown'=>by
  rw[Fw (List.nodup_cons.1 hnd').1,ao rfl];have hLge:∀ (i:Nat) (ge' : List GC),gs[i]?=some ge'->∀ b∈ge'.flatMap (·.L),w'.heap[b]?=w.heap[b]?:=λi ge' hi b Y=>hL b (.inl (List.mem_flatMap.2 ⟨ge',Bvz hi,Y⟩));refine⟨⟨rfl,by rw[Clz];exact hown',?_⟩,λp hp gc hgc=>?_,λhm=>Au (hfz hm) hj (h9 hm)⟩;have hel' : eY (SM F S.B) w' k0 (spl e c cells) (ge.take c++news++ge.drop (c+news.length)):=by
   refine⟨?_,(aP.keepL hkeep hel.2 (hLge j ge hge)).spl (aP.keepL hkeep h5 λb Y=>hL b (.inr Y))⟩;unfold spl;simp only[Axz,Brz,Bsz,hn.len,hl,hel.1];omega
  refine aL.set ?_ hel';exact hrow.2.imp_mem λe' ge' hm' he'=>⟨he'.1,aP.keepL hkeep he'.2 λb Y=>hL b (.inl (List.mem_flatMap.2 ⟨ge',hm',Y⟩))⟩
  simp only[kB,List.mem_filter,Bool.or_eq_true] at hp;rw[EX hge (by rw[hnl,hgl];exact hfit') (by rw[hnl];simpa using hp.2)] at hgc;exact (hho p hp.1 gc hgc).adv (hadv _))
 exact⟨F,_,h10,λx v hv=>h11 x v hv,by rw[vr];trivial⟩
theorem MM {m:Md}:∀ {xs:List X} {ds:List D},eu m xs=some ds->∀ x∈xs,dq x=[]
 | [],ds,h,x,hx=>by cases hx
 | y::xs,ds,h,x,hx=>by
  simp only[eu] at h;split at h;rename_i y' ys U W;rcases List.mem_cons.1 hx with rfl|hx;cases x<;>first|rfl|cases U
  exact MM W x hx;cases h
theorem Qv {T kk:Nat}{x y:Operand}{Z4:X}{r c j k:Nat}{m:Md}{ds ys:List D}{d d' : D}(ho:o.op=.store T x y)(hk:cn P T=some kk)(hx:aE ρ x=.pe r none j c)(hσ:ai σ r=.row m k ds)(hj:ds[j]?=some d)(hy:aE ρ y=Z4)(hY:eu m Z4.cells=some ys)(hd:d'.cells=spl d.cells c ys)
  (hl:Z4.cells.length=kk) (hfit:Nat.ble (c+kk) k=true) (hsure:gm (ai σ) Z4=true) :
  LT P S o ρ σ [] .u [(r,.row m k (ds.set j d'))]:=by
 intro σ1 F g w ρc hs hrd hwr hv;have hr1:σ1 r=.row m k ds:=(hwr (r,_) Ckz).trans hσ;have hroot:=hs.roots r;rw[hr1] at hroot;cases hg:g r<;>rw[hg] at hroot<;>try exact hroot.elim
 rename_i v k0 L gs;obtain⟨hk0,hrow⟩:=hroot;subst hk0;have e1:=hv x (by simp[ho,Op.operands]);have e2:=hv y (by simp[ho,Op.operands]);rw[hy] at e2;have hA:gm σ1 Z4=true:=by
  cases Z4 with
  | ag cs=>rfl
  | _=>rw[tN (σ2:=ai σ) λi hi=>by rw[MM hY _ (by simp[X.cells])] at hi;cases hi];exact hsure
 have hys:=wG hY (oN hs hA e2);obtain⟨news,h5,h6,h7⟩:=E1 (S1:=SM F S.B) hys;have hyl:ys.length=kk:=by rw[← hys.len,← hl,(oN hs hA e2).len]
 have hnl:news.length=kk:=by rw[h5.len,bn,hyl]
 obtain⟨ge,hge,hel⟩:=hrow.2.get (i:=j) (a:=bN m d) (by simp[hj]);have hjn:j<(ds.map (bN m)).length:=by rw[bn];exact (List.getElem?_eq_some_iff.1 hj).1
 have hfit' : c+kk<=k0:=by simpa using hfit
 obtain⟨b,cp,w',hv',hrun,hsim⟩:=hs.cells (P:=P) (T:=T) (u:=E.ev ρc y) (news:=news) (qs:=[]) (c:=c) (j:=j) hg (lO hrow.2) hrow.1 hge hjn (by rw[hnl];exact hfit') (by simp) (by simp[h7])
  (λq hq=>by cases hq) (by rw[hnl];exact hk) h6.symm (by rw[h6];exact hys.one) (σ':=cg σ1 [(r,.row m k0 (ds.set j d'))])
  (λi hi1 hi2=>by rw[gH];simp[hi1]) (λq hq=>by cases hq)
 rw[hx,vr,hg] at e1;obtain⟨b',n',cp',e3,e4,e5⟩:=e1 _ _ rfl;rw[hv'] at e3;cases e3;have he:(execOp (E.ev ρc) o).run P w=.ok .skip w':=by
  simp only[execOp,ho,e5,Instr.storeAt,Instr.sureAddr,Sem.run_bind,Sem.run_pure,Result.andThen_ok,hrun]
 rw[he];obtain⟨h10,h11⟩:=hsim (λhkeep hL hadv hown'=>by
  rw[gH];simp only[if_true];refine⟨rfl,by rw[bn,Clz];rw[bn] at hown';exact hown',?_⟩;have e6:(ds.set j d').map (bN m)=(ds.map (bN m)).set j (spl (bN m d) c (ys.map (Cell.d m))):=by
   rw[List.map_set];congr 1;simp only[bN,hd,spl,List.map_append,List.map_take,List.map_drop,bn]
  rw[e6];have hel' : eY (SM F S.B) w' k0 (spl (bN m d) c (ys.map (Cell.d m))) (ge.take c++news++ge.drop (c+news.length)):=by
   refine⟨?_,(aP.keepL hkeep hel.2 λb Y=>hL b (.inl (List.mem_flatMap.2 ⟨ge,Bvz hge,Y⟩))).spl (aP.keepL hkeep h5 λb Y=>hL b (.inr Y))⟩;have:=hel.1;unfold spl;simp only[Axz,Brz,Bsz,bn,hyl];omega
  refine aL.set ?_ hel';exact hrow.2.imp_mem λe' ge' hm' he'=>⟨he'.1,aP.keepL hkeep he'.2 λb Y=>hL b (.inl (List.mem_flatMap.2 ⟨ge',hm',Y⟩))⟩)
 exact⟨F,_,h10,λx v hv=>h11 x v hv,by rw[vr];trivial⟩
end
theorem IR {k:Nat}{gs:List (List GC)}{j c:Nat}{ge:List GC}{gc:GC}(hk:∀ g∈gs,g.length=k)(hj:gs[j]?=some ge)(hc:ge[c]?=some gc) :
  ∃ VA VD LA LD,bW gs=VA++[gc.val]++VD/\cw gs=LA++gc.L++LD/\∀ x:GC,bW (gs.set j (ge.take c++[x]++ge.drop (c+1)))=VA++[x.val]++VD/\cw (gs.set j (ge.take c++[x]++ge.drop (c+1)))=LA++x.L++LD:=by
 have hlt:c<ge.length:=(List.getElem?_eq_some_iff.1 hc).1;have hgl:=hk ge (Bvz hj);obtain⟨VA,VM,VD,LA,LM,LD,U,W,h3,h4,h5⟩:=EY hk hj (c:=c) (n:=1) (by omega);have e:gs.set j (ge.take c++[gc]++ge.drop (c+1))=gs:=by
  have:ge.take c++[gc]++ge.drop (c+1)=ge:=by
   have h6:ge[c]'hlt=gc:=by rw[Cmz hlt] at hc;exact Option.some.inj hc
   rw[← h6,Azz,Cnz,List.getElem_cons_drop,Ccz]
  rw[this];apply List.ext_getElem?;intro i;rw[Cjz];split;rename_i hi;subst hi;split;exact hj.symm;rename_i h;exact absurd (List.getElem?_eq_some_iff.1 hj).1 h;rfl
 obtain⟨h6,h7⟩:=h5 [gc];rw[e] at h6 h7;exact⟨VA,VD,LA,LD,by simpa using h6,by simpa using h7,λx=>by have:=h5 [x];simpa using this⟩
section
variable {S:Start}{ρ:AE}{σ:St}
theorem qJ {σ:St}{r q:Nat}{x y:aw}(i:Nat):ai (aK (aK σ r x) q y) i=if i=q then y else if i=r then x else ai σ i:=by
 rw[iY,iY]
theorem cF.none {w:World}:cF (λ_=>False) w w:=cF.refl w
theorem GH.out {r j c k q:Nat}{m:Md}{es:List (List Cell)}{hh:List (Nat×Nat×Nat)}{e:List Cell}{cell:Cell}{x:aw}(hσ:ai σ r=.deep m k es hh)(hj:es[j]?=some e)(hc:e[c]?=some cell)(hx:OC cell x)(hq:ai σ q=.none) :
  GH S ρ σ ρ (aK (aK σ r (.deep m k (es.set j (spl e c [.u])) ((j,c,q)::hh))) q x):=by
 intro F g w ρc hs hv;have hqr:q≠r:=λe=>by rw[e,hσ] at hq;cases hq
 have hroot:=hs.roots r;rw[hσ] at hroot;cases hg:g r<;>rw[hg] at hroot<;>try exact hroot.elim
 rename_i v k0 L gs;obtain⟨⟨hk0,hrow⟩,hho,hfz⟩:=hroot;subst hk0;have hgq:g q=.none:=by
  have:=hs.roots q;rw[hq] at this;revert this;cases g q<;>intro h<;>first|rfl|exact h.elim
 obtain⟨ge,hge,hel⟩:=hrow.2.get hj;obtain⟨gc,hgc,hcl⟩:=hel.2.get hc;have hcl0:c<ge.length:=(List.getElem?_eq_some_iff.1 hgc).1;obtain⟨VA,VD,LA,LD,e1,e2,e3⟩:=IR (lO hrow.2) hge hgc;obtain⟨e4,e5⟩:=e3 ⟨gc.val,false,0,[]⟩;obtain⟨Lq,gq,hxr,hxl⟩:=hx.ok (g:=λi=>if i=q then .row gc.val gc.k [] [] else g i) hcl;generalize hgs' : gs.set j (ge.take c++[(⟨gc.val,false,0,[]⟩:GC)]++ge.drop (c+1))=gs' at e4 e5;let g' : Nat->G:=λi=>if i=q then .row gc.val gc.k Lq gq else if i=r then .row v k0 L gs' else g i
 have gr:g' r=.row v k0 L gs':=by simp[g',hqr.symm]
 have gqq:g' q=.row gc.val gc.k Lq gq:=by simp[g']
 have go:∀ i,i≠q->i≠r->g' i=g i:=λi U W=>by simp[g',U,W]
 have hbr:bl (g r)=L++(LA++gc.L++LD):=by rw[hg,← e2];rfl
 have hnr:=hs.nodup r;rw[hbr] at hnr;have hblr:bl (g' r)=L++(LA++LD):=by rw[gr];simp only[bl,e5,Cgz]
 have hblq:bl (g' q)=gc.L:=by rw[gqq];exact hxl
 have hone:gc.val.oneCell'=true:=by
  cases hx with
  | row=>obtain⟨_,_,cs,h,_⟩:=hcl;obtain⟨A,c,e,_⟩:=h.form;rw[e];rfl
  | own=>have h:=hcl.2.2;simp only[fl] at h;obtain⟨L0,cs,L1,h,_⟩:=h;obtain⟨A,c,e,_⟩:=h.form;rw[e];rfl
  | flat=>have h:=hcl.2.2;simp only[fl] at h;obtain⟨L0,cs,L1,h,_⟩:=h;obtain⟨A,c,e,_⟩:=h.form;rw[e];rfl
 have hadv:∀ i,da (g i) (g' i):=λi=>by
  by_cases U:i=q;subst U;rw[hgq];trivial;by_cases W:i=r;subst W;rw[gr,hg];exact .inr ⟨_,_,rfl⟩;rw[go i U W];exact da.refl _
 obtain⟨U,W⟩:=hs.step (g':=g') (σ':=ai (aK (aK σ r (.deep m k0 (es.set j (spl e c [.u])) ((j,c,q)::hh))) q x)) (F':=F) (w':=w) (λi=>i=r∨i=q) cF.none (λ_ h _=>h.elim)
  (λi hi=>⟨go i (λe=>hi (.inr e)) λe=>hi (.inl e),by rw[qJ,al λe=>hi (.inr e),al λe=>hi (.inl e)]⟩) (λi _=>hadv i) (λ_ h=>h) (λx hx=>⟨hs.flt x hx,.inl hx⟩)
  (λhkeep hp i hi=>by
   rcases hi with rfl|rfl;rw[qJ,al hqr.symm,ao rfl,gr];refine⟨⟨rfl,?_,?_⟩,λp hp gc' hgc'=>?_,λhm=>Au (hfz hm) hj (by simp[jS])⟩;rw[Clz,show bW gs'=bW gs by rw[e4,e1]];exact hrow.1;rw[← hgs'];refine aL.set hrow.2 ⟨?_,hel.2.spl (c:=c) (xs:=[.u]) (ys:=[⟨gc.val,false,0,[]⟩]) ⟨_,[],rfl,⟨rfl,rfl,hone⟩,rfl⟩⟩;have:=hel.1;have:=hel.2.len;unfold spl;simp only[Axz,Brz,Bsz,Coz];omega;rcases List.mem_cons.1 hp with rfl|hp;simp only[gqq];rw[← hgs'] at hgc';have hjlt:=(List.getElem?_eq_some_iff.1 hge).1;simp only[Cjz,if_true,ao hjlt,aj] at hgc';rw[Azz,Auz (by simp;omega),Cnz] at hgc';simp[Nat.min_eq_left (Nat.le_of_lt hcl0)] at hgc';subst hgc';intro u k' hu;cases hu;rfl;have:(gs[p.1]?).bind (·[p.2.1]?)=some gc'∨gc'=⟨gc.val,false,0,[]⟩/\p.1=j/\p.2.1=c:=by
    by_cases hpj:p.1=j/\p.2.1=c;right;refine⟨?_,hpj⟩;rw[← hgs',hpj.1,hpj.2] at hgc';have hjlt:=(List.getElem?_eq_some_iff.1 hge).1;simp only[Cjz,if_true,ao hjlt,aj] at hgc';rw[Azz,Auz (by simp;omega),Cnz] at hgc';simp[Nat.min_eq_left (Nat.le_of_lt hcl0)] at hgc';exact hgc'.symm;left;rw[← hgs'] at hgc';by_cases hpj1:p.1=j;rw[← hgc',hpj1];exact (EX (news:=[⟨gc.val,false,0,[]⟩]) hge (by simp;omega) (by simp;have:p.2.1≠c:=λe=>hpj ⟨hpj1,e⟩;omega)).symm;rw[List.getElem?_set_ne (λe=>hpj1 e.symm)] at hgc';exact hgc'
   rcases this with h|⟨h,U,W⟩
   exact (hho p hp gc' h).adv (hadv _);have h3:=(hho p hp gc (by rw[U,W,hge];exact hgc)).adv (hadv p.2.2);rw[h];exact h3;rw[qJ,ao rfl,gqq];obtain⟨Lq',gq',hxr',hxl'⟩:=hx.ok (g:=g') hcl;revert hxr;cases hx with
   | row=>intro hxr;exact hxr
   | own=>intro hxr;exact⟨hxr.1,bj.nil,hxr.2.2⟩
   | flat=>intro hxr;exact hxr)
  (λi hi=>by
   rcases hi with rfl|rfl;rw[hblr];have:=Fv (A:=L++LA) (M:=gc.L) (D:=LD) (N:=[]) (by simpa using hnr) Caz (by simp);simpa using this;rw[hblq];rw[← Azz,← Azz,Chz] at hnr;exact (List.nodup_append.1 hnr.1).2.1)
  (λi i' hi hi' hne b Y=>by
   have hdis:∀ b,b∈L++(LA++LD)->b∉gc.L:=λb Y hb2=>by
    rw[← Azz,← Azz,Chz] at hnr;obtain⟨n1,_,n3⟩:=hnr;rw[Chz] at n1;simp only[Ciz] at Y;rcases Y with Y|Y|Y;exact n1.2.2 b (by simp[Y]) b hb2 rfl;exact n1.2.2 b (by simp[Y]) b hb2 rfl;exact n3 b (by simp[hb2]) b Y rfl
   rcases hi with rfl|rfl<;>rcases hi' with rfl|rfl;exact absurd rfl hne;rw[hblr] at Y;rw[hblq];exact hdis b Y;rw[hblq] at Y;rw[hblr];exact λh=>hdis b h Y;exact absurd rfl hne)
  (λi b hi Y=>by
   have hb' : b∈bl (g r):=by
    rw[hbr];rcases hi with rfl|rfl;rw[hblr] at Y;simp only[Ciz] at Y ⊢;rcases Y with Y|Y|Y;exact .inl Y;exact .inr (.inl (.inl Y));exact .inr (.inr Y);rw[hblq] at Y;simp[Y]
   exact⟨(hs.own r b hb').1,(hs.own r b hb').2.1,.inr ⟨r,.inl rfl,hb'⟩⟩)
 exact⟨F,g',U,λt=>W _ _ (hv t)⟩
theorem Qu {r j c k q:Nat}{m:Md}{es:List (List Cell)}{hh:List (Nat×Nat×Nat)}{e:List Cell}{cell:Cell}(hσ:ai σ r=.deep m k es hh)(hj:es[j]?=some e)(hc:Nat.blt c e.length=true)(hm:(j,c,q)∈hh)(hx:MC (ai σ q) cell)(hf:jS cell=true∨m=.bo)(hqr:Nat.beq q r=false) :
  GH S ρ σ ρ (aK (aK σ r (.deep m k (es.set j (spl e c [cell])) (kB hh c 1))) q .dead):=by
 intro F g w ρc hs hv;have hqr:q≠r:=λe=>by subst e;simp at hqr
 have hroot:=hs.roots r;rw[hσ] at hroot;cases hg:g r<;>rw[hg] at hroot<;>try exact hroot.elim
 rename_i v k0 L gs;obtain⟨⟨hk0,hrow⟩,hho,hfz⟩:=hroot;subst hk0;obtain⟨vq,kq,Lq,gq,hgq⟩:=hx.isrow (hs.roots q);obtain⟨ge,hge,hel⟩:=hrow.2.get hj;have hgl:ge.length=e.length:=hel.2.len;have hcl0:c<ge.length:=by rw[hgl];simpa using hc
 have hgc:ge[c]?=some ge[c]:=Cmz hcl0;generalize ge[c]=gc at hgc;have hval:gc.val=vq:=by
  have:=hho _ hm gc (by rw[hge];exact hgc);rw[hgq] at this;exact this _ _ rfl
 obtain⟨VA,VD,LA,LD,e1,e2,e3⟩:=IR (lO hrow.2) hge hgc;have hqroot:=hs.roots q;rw[hgq] at hqroot;have hcell:=hx.ok hqroot;obtain⟨e4,e5⟩:=e3 ⟨vq,true,kq,Lq++cw gq⟩;generalize hgs' : gs.set j (ge.take c++[(⟨vq,true,kq,Lq++cw gq⟩:GC)]++ge.drop (c+1))=gs' at e4 e5;let g' : Nat->G:=λi=>if i=q then .dead else if i=r then .row v k0 L gs' else g i
 have gr:g' r=.row v k0 L gs':=by simp[g',hqr.symm]
 have gqq:g' q=.dead:=by simp[g']
 have go:∀ i,i≠q->i≠r->g' i=g i:=λi U W=>by simp[g',U,W]
 have hbr:bl (g r)=L++(LA++gc.L++LD):=by rw[hg,← e2];rfl
 have hbq:bl (g q)=Lq++cw gq:=by rw[hgq];rfl
 have hnr:=hs.nodup r;rw[hbr] at hnr;have hblr:bl (g' r)=L++LA++(Lq++cw gq)++LD:=by rw[gr];simp only[bl,e5,Azz]
 have hadv:∀ i,da (g i) (g' i):=λi=>by
  by_cases U:i=q;subst U;rw[gqq,hgq];exact .inl rfl;by_cases W:i=r;subst W;rw[gr,hg];exact .inr ⟨_,_,rfl⟩;rw[go i U W];exact da.refl _
 have hsub:∀ b,b∈bl (g' r)->b∈bl (g r)∨b∈bl (g q):=λb Y=>by
  rw[hblr] at Y;rw[hbr,hbq];simp only[Ciz] at Y ⊢;rcases Y with ((Y|Y)|Y|Y)|Y;exact .inl (.inl Y);exact .inl (.inr (.inl (.inl Y)));exact .inr (.inl Y);exact .inr (.inr Y);exact .inl (.inr (.inr Y))
 obtain⟨U,W⟩:=hs.step (g':=g') (σ':=ai (aK (aK σ r (.deep m k0 (es.set j (spl e c [cell])) (kB hh c 1))) q .dead)) (F':=F) (w':=w) (λi=>i=r∨i=q) cF.none (λ_ h _=>h.elim)
  (λi hi=>⟨go i (λe=>hi (.inr e)) λe=>hi (.inl e),by rw[qJ,al λe=>hi (.inr e),al λe=>hi (.inl e)]⟩) (λi _=>hadv i) (λ_ h=>h) (λx hx=>⟨hs.flt x hx,.inl hx⟩)
  (λhkeep hp i hi=>by
   rcases hi with rfl|rfl;rw[qJ,al hqr.symm,ao rfl,gr];refine⟨⟨rfl,?_,?_⟩,λp hp gc' hgc'=>?_,λhm'=>Au (hfz hm') hj (by
    intro x hx';rw[List.mem_singleton] at hx';subst hx';rcases hf with hf|hf;exact hf;rw[hm'] at hf;cases hf)⟩
   rw[Clz,show bW gs'=bW gs by rw[e4,e1,hval]];exact hrow.1;rw[← hgs'];refine aL.set hrow.2 ⟨?_,hel.2.spl (c:=c) (xs:=[cell]) (ys:=[⟨vq,true,kq,Lq++cw gq⟩]) ⟨_,[],rfl,hcell,rfl⟩⟩;have:=hel.1;unfold spl;simp only[Axz,Brz,Bsz,Coz];omega;simp only[kB,List.mem_filter,Bool.or_eq_true] at hp;rw[← hgs'] at hgc';have:=EX (c:=c) (news:=[⟨vq,true,kq,Lq++cw gq⟩]) hge (by simp only[Coz];omega) (i:=p.1) (d:=p.2.1) (by simpa using hp.2);exact (hho p hp.1 gc' (by rw[← this];exact hgc')).adv (hadv _);rw[qJ,ao rfl,gqq];trivial)
  (λi hi=>by
   rcases hi with rfl|rfl;rw[hblr];have hq:=hs.nodup q;rw[hbq] at hq;refine Fv (M:=gc.L) (by simpa using hnr) hq λx hx=>?_;have h3:=hs.disj q i hqr x (by rw[hbq];exact hx);rw[hbr] at h3;simp only[Ciz,not_or] at h3 ⊢;exact⟨⟨h3.1,h3.2.1.1⟩,h3.2.2⟩;rw[gqq];exact Caz)
  (λi i' hi hi' hne b Y=>by
   rcases hi with rfl|rfl<;>rcases hi' with rfl|rfl;exact absurd rfl hne;rw[gqq];exact List.not_mem_nil;rw[gqq] at Y;cases Y;exact absurd rfl hne)
  (λi b hi Y=>by
   rcases hi with rfl|rfl;rcases hsub b Y with h|h;exact⟨(hs.own i b h).1,(hs.own i b h).2.1,.inr ⟨i,.inl rfl,h⟩⟩;exact⟨(hs.own q b h).1,(hs.own q b h).2.1,.inr ⟨q,.inr rfl,h⟩⟩;rw[gqq] at Y;cases Y)
 exact⟨F,g',U,λt=>W _ _ (hv t)⟩
theorem WH {m:Md}{xs:List D}:m=.fz->me (xs.map (bN m)):=λhm e he c hc=>by
 subst hm;obtain⟨x,_,rfl⟩:=List.mem_map.1 he;obtain⟨d,_,rfl⟩:=List.mem_map.1 hc;cases d<;>rfl
theorem GH.same {r:Nat}{x y:aw}(hσ:ai σ r=x)(h:∀ (S1:Md->Nat->Prop) (w:World) (g:Nat->G) (z:G),gQ S1 w g x z->gQ S1 w g y z):GH S ρ σ ρ (aK σ r y):=by
 intro F g w ρc hs hv;refine⟨F,g,⟨hs.chg,hs.bB,hs.fmono,hs.fnew,hs.flt,λi=>?_,hs.low,hs.hdr,hs.nodup,hs.disj,hs.own⟩,hv⟩;rw[iY];by_cases hi:i=r;subst hi;rw[ao rfl];exact h _ _ _ _ (by rw[← hσ];exact hs.roots i);rw[al hi];exact hs.roots i
theorem H2 {r k:Nat}{m:Md}{xs:List D}{es:List (List Cell)}(hσ:ai σ r=.row m k xs)(he:xs.map (bN m)=es):GH S ρ σ ρ (aK σ r (.deep m k es [])):=
 GH.same hσ λS1 w g z h=>by
  subst he;cases z<;>try exact h.elim
  exact⟨h,bj.nil,WH⟩
theorem HZ {r k:Nat}{m:Md}{es es' : List (List Cell)}{hh:List (Nat×Nat×Nat)}(hσ:ai σ r=.deep m k es hh)(he:es=es'):GH S ρ σ ρ (aK σ r (.deep m k es' hh)):=
 GH.same hσ λS1 w g z h=>by subst he;exact h
end
end Go.A
