/- Abstract states of a walk: plain lemmas on the model, without conditions of their own. -/
import Derived.Test.YtodhafdaelcnlaaGreatAb4
set_option linter.unusedVariables false
set_option linter.unusedSimpArgs false
set_option linter.ambiguousOpen false
set_option linter.unusedSectionVars false
set_option linter.unnecessarySimpa false
open List renaming append_assoc->Azz,take_append_drop->Ccz,set_cons_zero->Cdz,length_append->Axz,set_cons_succ->Cez,length_take->Brz,length_drop->Bsz,map_congr_left->Cfz,flatMap_cons->Bkz,append_nil->Cgz,mem_cons_of_mem->Buz,nodup_append->Chz,nodup_nil->Caz,mem_append->Ciz,getElem?_set->Cjz,getElem?_append_right->Auz,mem_of_getElem?->Bvz,mem_cons_self->Ckz,length_set->Clz,getElem?_eq_getElem->Cmz,singleton_append->Cnz,length_singleton->Coz
open Nat renaming mul_le_mul_right->Cpz,lt_of_lt_of_le->Bfz
open Array renaming length_toList->Cqz
namespace Go.A
open Go Go.E
theorem kA (ge:List GC)(gs:List (List GC)):b0 (ge::gs)=ge.map (·.val)++b0 gs:=by simp[b0]
theorem l5 (ge:List GC)(gs:List (List GC)):cD (ge::gs)=ge.flatMap (·.L)++cD gs:=by simp[cD]
theorem Zm (a b:List (List GC)):b0 (a++b)=b0 a++b0 b:=by simp[b0]
theorem M7 (a b:List (List GC)):cD (a++b)=cD a++cD b:=by simp[cD]
theorem Ff {k:Nat}:∀ {gs:List (List GC)} {j:Nat} {ge:List GC},(∀ g∈gs,g.length=k)->gs[j]?=some ge->∀ {c n:Nat},c+n<=k ->
  ∃ (VA VM VD:List Value) (LA LM LD:List Nat),b0 gs=VA++VM++VD/\VA.length=j*k+c/\VM.length=n/\cD gs=LA++LM++LD /\
   ∀ news:List GC,b0 (gs.set j (ge.take c++news++ge.drop (c+n)))=VA++news.map (·.val)++VD/\cD (gs.set j (ge.take c++news++ge.drop (c+n)))=LA++news.flatMap (·.L)++LD
 | [],j,ge,_,h,_,_,_=>by simp at h
 | g0::gs,0,ge,hk,h,c,n,hc=>by
  simp at h;subst h;have h0:g0.length=k:=hk g0 (by simp);have e:g0=g0.take c++(g0.drop c).take n++g0.drop (c+n):=by
   rw[Azz,← List.drop_drop,Ccz,Ccz]
  refine⟨(g0.take c).map (·.val),((g0.drop c).take n).map (·.val),(g0.drop (c+n)).map (·.val)++b0 gs,(g0.take c).flatMap (·.L),((g0.drop c).take n).flatMap (·.L),(g0.drop (c+n)).flatMap (·.L)++cD gs,?_,?_,?_,?_,λnews=>⟨?_,?_⟩⟩
  conv=>lhs;rw[kA,e]
  simp;simp;omega;simp;omega
  conv=>lhs;rw[l5,e]
  simp;rw[Cdz,kA];simp;rw[Cdz,l5];simp
 | g0::gs,j+1,ge,hk,h,c,n,hc=>by
  obtain⟨VA,VM,VD,LA,LM,LD,U,K,h3,h4,h5⟩:=Ff (gs:=gs) (j:=j) (λg hg=>hk g (by simp[hg])) (by simpa using h) hc;have h0:g0.length=k:=hk g0 (by simp);refine⟨g0.map (·.val)++VA,VM,VD,g0.flatMap (·.L)++LA,LM,LD,?_,?_,h3,?_,λnews=>⟨?_,?_⟩⟩;rw[kA,U];simp;rw[Axz,bh,h0,K,Nat.add_mul];omega;rw[l5,h4];simp;rw[Cez,kA,(h5 news).1];simp;rw[Cez,l5,(h5 news).2];simp
theorem Yb {VA VM VD l:List Value}{off:Nat}(h:VA.length=off)(hl:VM.length=l.length):cL (VA++VM++VD) off l=VA++l++VD:=by
 unfold cL;subst h;rw[Azz VA VM VD,List.take_left,← hl];congr 1;rw[List.drop_append,List.drop_of_length_le (Nat.le_add_right _ _),List.nil_append,Nat.add_sub_cancel_left,List.drop_left]
theorem YV {X l:List Value}{N off:Nat}(U:off+l.length<=N)(K:N<=X.length):(cL X off l).take N=cL (X.take N) off l:=by
 unfold cL;obtain⟨Z4,Z9,rfl,hY⟩:∃ Z4 Z9,X=Z4++Z9/\Z4.length=N:=⟨X.take N,X.drop N,(Ccz _ _).symm,by simp;omega⟩
 subst hY;have e1:(Z4++Z9).take off=Z4.take off:=List.take_append_of_le_length (by omega);have e2:(Z4++Z9).drop (off+l.length)=Z4.drop (off+l.length)++Z9:=List.drop_append_of_le_length (by omega);rw[List.take_left,e1,e2,← Azz];exact List.take_left' (by simp only[Axz,Brz,Bsz];omega)
theorem bR.store {P:Program}{w:World}{k:Nat}{v:Value}{n:Nat}{L:List Nat}{cs:List Value}(h:bR w k v n L cs){T kk j c:Nat}{u:Value}{l:List Value}(hk:cu P T=some kk)(hu:u.cells.toList=l)(hl:l.length=kk)(U:∀ x∈l,x.oneCell'=true)(hj:j<n)(hc:c+kk<=k) :
  ∃ b cp,v=.slice (some ⟨b,0,none⟩) n cp/\b∈L/\∃ w',(storeVar T ⟨b,j*k+c,none⟩ u).run P w=.ok () w'/\cJ (· = b) w w'/\bR w' k v n L (cL cs (j*k+c) l):=by
 obtain⟨e,⟨hlen,h⟩,hL⟩:=h;rcases h with ⟨_,h⟩|⟨b,cap,cur,rfl,h0,K,h3,h4,h5,h6⟩
 omega;have hjn:(j+1)*k<=n*k:=Cpz k hj;have hnc:n*k<=cap*k:=Cpz k h3;rw[Nat.add_mul] at hjn;have hfit:j*k+c+kk<=cur.toList.length:=by simp only[Cqz];omega
 obtain⟨w',Z,hch,hb'⟩:=OA (P:=P) (w:=w) (v:=u) (l:=l) (off:=j*k+c) hk (by rw[← hu]) hl U K hfit;refine⟨b,cap,rfl,by rw[hL];simp[Value.ownBlock],w',Z,hch,e,⟨?_,.inr ⟨b,cap,(cL cur.toList (j*k+c) l).toArray,rfl,h0,hb',h3,h4,?_,?_⟩⟩,hL⟩;unfold cL;simp only[Axz,Brz,Bsz,hl];omega;unfold cL;simp only[List.size_toArray,Axz,Brz,Bsz,hl,Cqz];simp only[Cqz] at hfit;omega;have h6' : cur.toList.take (n*k)=cs:=by simpa using h6
 simp only[List.toList_toArray];rw[← h6'];exact YV (by omega) (by simp only[Cqz];omega)
def rp:D->Cell
 | .sl k ys=>.w k ys
 | x=>.d .fz x
def oW (x:D):List Cell:=x.cells.map rp
def qO:D->Bool
 | .sl _ _=>false
 | .a _=>false
 | _=>true
def kH (x:D):Bool:=x.cells.all qO
theorem Zl:∀ {d:D},qO d=true->rp d=.d .fz d
 | .i _ _,_=>rfl
 | .b _,_=>rfl
 | .s _,_=>rfl
 | .a _,h=>by cases h
 | .sl _ _,h=>by cases h
theorem Ya {x:D}(h:kH x=true):oW x=bT .fz x:=
 Cfz λd hd=>Zl (List.all_eq_true.1 h d hd)
theorem YU {xs:List D}(h:∀ x∈xs,kH x=true):xs.map oW=xs.map (bT .fz):=Cfz λx hx=>Ya (h x hx)
inductive MC:aA->Cell->Prop
 | row {m:Md} {k:Nat} {xs:List D}:MC (.row m k xs) (.o m k xs)
 | own {m:Md} {k:Nat} {xs:List D}:MC (.deep m k (xs.map oW) []) (.w k xs)
 | flat {m:Md} {k:Nat} {xs:List D} (h:∀ x∈xs,kH x=true):MC (.row m k xs) (.w k xs)
inductive OC:Cell->aA->Prop
 | row {m:Md} {k:Nat} {xs:List D}:OC (.o m k xs) (.row m k xs)
 | own {k:Nat} {xs:List D}:OC (.w k xs) (.deep .fz k (xs.map oW) [])
 | flat {k:Nat} {xs:List D} (h:∀ x∈xs,kH x=true):OC (.w k xs) (.row .fz k xs)
section
variable {w:World}{S1:Md->Nat->Prop}{g:Nat->G}
theorem Kd:∀ {ds:List D} {ge:List GC},aS (aT S1 w) (ds.map rp) ge->(∀ d∈ds,∀ cs,d≠.a cs)->cF w ds (ge.map (·.val)) (ge.flatMap (·.L))
 | [],_,h,_=>by rw[show _=[] from h];simp[cF]
 | d::ds,_,⟨gc,r,U,K,h3⟩,hn=>by
  subst U;rw[List.map_cons,Bkz,cF];refine⟨_,_,_,_,rfl,rfl,?_,Kd h3 λd hd=>hn d (by simp[hd])⟩;cases d with
  | a cs=>exact absurd rfl (hn (.a cs) (by simp) cs)
  | sl k ys=>exact K.2.2
  | i k n=>have h4:=K.2.2;rw[rdC] at h4;exact⟨h4,K.2.1⟩
  | b x=>have h4:=K.2.2;rw[rdC] at h4;exact⟨h4,K.2.1⟩
  | s t=>have h4:=K.2.2;rw[rdC] at h4;exact⟨h4,K.2.1⟩
theorem Mr {ds:List D}{ge:List GC}{f:D->Cell}(hf:∀ cs,f (.a cs)=.d .fz (.a cs)):∀ (ds:List D) {ge:List GC},aS (aT S1 w) (ds.map f) ge->∀ d∈ds,∀ cs,d≠.a cs
 | [],_,_,d,hd,_=>by cases hd
 | d0::ds,_,⟨gc,r,U,K,h3⟩,d,hd,cs=>by
  rcases List.mem_cons.1 hd with rfl|hd;intro e;subst e;rw[hf] at K;have:=K.2.2;rw[rdC] at this;exact this;exact Mr (ds:=ds) (ge:=r) hf ds h3 d hd cs
theorem Jg {k:Nat}:∀ {xs:List D} {gs:List (List GC)},aS (fq S1 w k) (xs.map oW) gs->dk w k xs (b0 gs) (cD gs)
 | [],_,h=>by rw[show _=[] from h];simp[dk,b0,cD]
 | x::xs,_,⟨ge,r,U,K,h3⟩=>by
  subst U;rw[kA,l5];refine Fo.2 ⟨_,_,_,_,rfl,rfl,?_,Kd K.2 (Mr (f:=rp) (ds:=x.cells) (ge:=ge) (λ_=>rfl) _ K.2),Jg h3⟩;rw[bh,K.2.len];exact K.1
theorem Kc:∀ {ds:List D} {vs:List Value} {L:List Nat},cF w ds vs L->∃ ge:List GC,aS (aT S1 w) (ds.map rp) ge/\ge.map (·.val)=vs/\ge.flatMap (·.L)=L
 | [],vs,L,h=>by rw[cF] at h;exact⟨[],rfl,h.1.symm,h.2.symm⟩
 | d::ds,vs,L,h=>by
  rw[cF] at h;obtain⟨v,r,L0,L1,rfl,rfl,U,K⟩:=h;obtain⟨ge,h3,rfl,rfl⟩:=Kc K;have one:∃ gc,aT S1 w (rp d) gc/\gc.val=v/\gc.L=L0:=by
   cases d with
   | a cs=>exact U.elim
   | sl k ys=>exact⟨⟨v,true,k,L0⟩,⟨rfl,rfl,U⟩,rfl,rfl⟩
   | i k n=>exact⟨⟨v,false,0,L0⟩,⟨rfl,U.2,by rw[rdC];exact U.1⟩,rfl,rfl⟩
   | b x=>exact⟨⟨v,false,0,L0⟩,⟨rfl,U.2,by rw[rdC];exact U.1⟩,rfl,rfl⟩
   | s t=>exact⟨⟨v,false,0,L0⟩,⟨rfl,U.2,by rw[rdC];exact U.1⟩,rfl,rfl⟩
  obtain⟨gc,h4,h5,h6⟩:=one;exact⟨gc::ge,⟨_,_,rfl,h4,h3⟩,by simp[h5],by simp[h6]⟩
theorem Eh {k:Nat}:∀ {xs:List D} {vs:List Value} {L:List Nat},dk w k xs vs L->∃ gs,aS (fq S1 w k) (xs.map oW) gs/\b0 gs=vs/\cD gs=L
 | [],vs,L,h=>by rw[dk] at h;exact⟨[],rfl,by rw[h.1];rfl,by rw[h.2];rfl⟩
 | x::xs,vs,L,h=>by
  obtain⟨c,r,L0,L1,rfl,rfl,U,K,h3⟩:=Fo.1 h;obtain⟨gs,h4,rfl,rfl⟩:=Eh h3;obtain⟨ge,h5,rfl,rfl⟩:=Kc (S1:=S1) K;refine⟨ge::gs,⟨_,_,rfl,⟨?_,h5⟩,h4⟩,by rw[kA],by rw[l5]⟩;rw[show (oW x).length=ge.length by rw[h5.len];rfl,← U,bh]
theorem Mq:∀ {ds:List D} {vs:List Value} {S2:Nat->Prop},rdCs S2 w ds vs->ds.all qO=true->cF w ds vs []
 | [],vs,_,h,_=>by rw[rdCs] at h;rw[cF];exact⟨h,rfl⟩
 | d::ds,vs,_,h,hf=>by
  simp only[List.all_cons,Bool.and_eq_true] at hf;rw[rdCs] at h;obtain⟨v,r,rfl,U,K⟩:=h;rw[cF];refine⟨v,r,[],[],rfl,rfl,?_,Mq K hf.2⟩;cases d<;>first|(rw[rdC] at U;exact⟨U,rfl⟩)|cases hf.1
theorem Lt {k:Nat}:∀ {xs:List D} {vs:List Value} {S2:Nat->Prop},bk S2 w k xs vs->(∀ x∈xs,kH x=true)->dk w k xs vs []
 | [],vs,_,h,_=>by rw[bk] at h;rw[dk];exact⟨h,rfl⟩
 | x::xs,vs,_,h,hf=>by
  obtain⟨c,r,rfl,hl,h3,h4⟩:=gQ.1 h;exact Fo.2 ⟨c,r,[],[],rfl,rfl,hl,Mq h3 (hf x (by simp)),Lt h4 λx hx=>hf x (by simp[hx])⟩
theorem MC.ok {x:aA}{c:Cell}(h:MC x c){v:Value}{k:Nat}{L:List Nat}{gs:List (List GC)}(Z:gZ S1 w g x (.row v k L gs)):aT S1 w c ⟨v,true,k,L++cD gs⟩:=by
 cases h with
 | row=>
  obtain⟨rfl,Z⟩:=Z;obtain⟨U,K,h3,_⟩:=lh Z;exact⟨rfl,rfl,_,by simp only[h3,Cgz];exact U,K⟩
 | own=>
  obtain⟨⟨rfl,Z⟩,_⟩:=Z;refine⟨rfl,rfl,?_⟩;show fx w (.sl _ _) _ _;rw[fx];exact⟨L,_,_,by have:=Z.1;rwa[bh] at this,Jg Z.2,rfl⟩
 | flat hf=>
  obtain⟨rfl,Z⟩:=Z;obtain⟨U,K,h3,_⟩:=lh Z;refine⟨rfl,rfl,?_⟩;show fx w (.sl _ _) _ _;rw[fx];exact⟨L,_,_,U,Lt K hf,by simp[h3]⟩
theorem MC.isrow {x:aA}{c:Cell}(h:MC x c){y:G}(Z:gZ S1 w g x y):∃ v k L gs,y=.row v k L gs:=by
 cases h<;>cases y<;>first|exact Z.elim|exact⟨_,_,_,_,rfl⟩
theorem MC.one {x:aA}{c:Cell}(h:MC x c){v:Value}{k:Nat}{L:List Nat}{gs:List (List GC)}(Z:gZ S1 w g x (.row v k L gs)):v.oneCell'=true:=by
 cases h;obtain⟨A,c,e,_⟩:=Z.2.1.form;rw[e];rfl;obtain⟨A,c,e,_⟩:=Z.1.2.1.form;rw[e];rfl;obtain⟨A,c,e,_⟩:=Z.2.1.form;rw[e];rfl
theorem OC.ok {x:aA}{c:Cell}(h:OC c x){gc:GC}(hc:aT S1 w c gc):∃ L gs,gZ S1 w g x (.row gc.val gc.k L gs)/\L++cD gs=gc.L:=by
 cases h with
 | row=>
  obtain⟨U,K,cs,h3,h4⟩:=hc;obtain⟨gs,h5,h6,h7⟩:=qP h4;refine⟨gc.L,gs,⟨K,?_,?_⟩,by rw[h7,Cgz]⟩;rw[h6,bh,K];exact h3;rw[K];exact h5
 | own=>
  obtain⟨U,K,h3⟩:=hc;rw[fx] at h3;obtain⟨L0,cs,L1,h4,h5,h6⟩:=h3;obtain⟨gs,h7,rfl,rfl⟩:=Eh (S1:=S1) h5;refine⟨L0,gs,⟨⟨K,?_,?_⟩,bp.nil,λ_ e he c hc=>?_⟩,h6.symm⟩;rw[bh,K];exact h4;rw[K];exact h7;obtain⟨x,_,rfl⟩:=List.mem_map.1 he;obtain⟨d,_,rfl⟩:=List.mem_map.1 hc;cases d<;>rfl
 | flat hf=>
  obtain⟨U,K,h3⟩:=hc;rw[fx] at h3;obtain⟨L0,cs,L1,h4,h5,h6⟩:=h3;obtain⟨gs,h7,rfl,rfl⟩:=Eh (S1:=S1) h5;refine⟨L0,gs,⟨K,?_,?_⟩,h6.symm⟩;rw[bh,K];exact h4;rw[K,← YU hf];exact h7
end
class ju {α:Type} (f:α->D) (Z5:outParam (α->List Cell)):Prop where
 eq:∀ y,Z5 y=oW (f y)
 rd:∀ y,DR (Z5 y) (f y)
inductive NC (σ:Nat->aA) (m:Md):List X->List Cell->List Nat->Prop
 | nil:NC σ m [] [] []
 | d {m' : Md} {x:D} {xs:List X} {cs:List Cell} {qs:List Nat} (h:kc (.d m' x)=true∨m=.bo) (K:NC σ m xs cs qs):NC σ m (.d m' x::xs) (.d m' x::cs) qs
 | nl {k:Nat} {xs:List X} {cs:List Cell} {qs:List Nat} (K:NC σ m xs cs qs):NC σ m (.nl k::xs) (.nl k::cs) qs
 | nld {k k' : Nat} {m' : Md} {xs:List X} {cs:List Cell} {qs:List Nat} (K:NC σ m xs cs qs):NC σ m (.nl k::xs) (.d .fz (.sl k' [])::cs) qs
 | nlo {k k' : Nat} {m' : Md} {xs:List X} {cs:List Cell} {qs:List Nat} (K:NC σ m xs cs qs):NC σ m (.nl k::xs) (.o .fz k' []::cs) qs
 | nlw {k k' : Nat} {m' : Md} {xs:List X} {cs:List Cell} {qs:List Nat} (K:NC σ m xs cs qs):NC σ m (.nl k::xs) (.w k' []::cs) qs
 | ref {q:Nat} {c:Cell} {xs:List X} {cs:List Cell} {qs:List Nat} (h:MC (σ q) c) (hf:kc c=true∨m=.bo) (K:NC σ m xs cs qs):NC σ m (.ref q none::xs) (c::cs) (q::qs)
theorem bR.nil0 {w:World}{k:Nat}:bR w k (.slice none 0 0) 0 [] []:=⟨0,Own.nil w 0 0 k,rfl⟩
theorem NC.ok {S:Start}{F:Nat->Prop}{g:Nat->G}{w:World}{σ:Nat->aA}(hs:bu S F g σ w){m:Md}:∀ {xs:List X} {cs:List Cell} {qs:List Nat} {vs:List Value},NC σ m xs cs qs->aU (SM F S.B) w g xs vs->∃ news:List GC,aS (aT (SM F S.B) w) cs news/\news.map (·.val)=vs/\news.flatMap (·.L)=qs.flatMap (λq=>bl (g q))/\(∀ u∈vs,u.oneCell'=true)/\(m=.fz->∀ c∈cs,kc c=true)
 | _,_,_,vs,.nil,h=>by rw[aU] at h;subst h;exact⟨[],rfl,rfl,rfl,by simp,by simp⟩
 | _,_,_,vs,.d (m':=m') (x:=x) hm K,h=>by
  rw[aU] at h;obtain⟨v,r,rfl,h3,h4⟩:=h;obtain⟨news,h5,rfl,h7,h8,h9⟩:=NC.ok hs K h4;rw[vr] at h3;refine⟨⟨v,false,0,[]⟩::news,⟨_,_,rfl,⟨rfl,rfl,h3⟩,h5⟩,rfl,by simpa using h7,λu hu=>?_,λe c hc=>?_⟩;rcases List.mem_cons.1 hu with rfl|hu;exact h3.one;exact h8 u hu;rcases List.mem_cons.1 hc with rfl|hc;rcases hm with hm|hm;exact hm;rw[e] at hm;cases hm;exact h9 e c hc
 | _,_,_,vs,.nl K,h=>by
  rw[aU] at h;obtain⟨v,r,rfl,h3,h4⟩:=h;obtain⟨news,h5,rfl,h7,h8,h9⟩:=NC.ok hs K h4;rw[vr] at h3;refine⟨⟨v,false,0,[]⟩::news,⟨_,_,rfl,⟨rfl,rfl,h3⟩,h5⟩,rfl,by simpa using h7,λu hu=>?_,λe c hc=>?_⟩;rcases List.mem_cons.1 hu with rfl|hu;rw[h3];rfl;exact h8 u hu;rcases List.mem_cons.1 hc with rfl|hc;rfl;exact h9 e c hc
 | _,_,_,vs,.nld K,h=>by
  rw[aU] at h;obtain⟨v,r,rfl,h3,h4⟩:=h;obtain⟨news,h5,rfl,h7,h8,h9⟩:=NC.ok hs K h4;rw[vr] at h3;refine⟨⟨v,false,0,[]⟩::news,⟨_,_,rfl,⟨rfl,rfl,by show rdC _ _ (.sl _ []) _;rw[rdC];exact⟨none,0,[],h3,Nat.le_refl _,Nat.zero_le _,by rw[bk],.inl rfl⟩⟩,h5⟩,rfl,by simpa using h7,λu hu=>?_,λe c hc=>?_⟩;rcases List.mem_cons.1 hu with rfl|hu;rw[h3];rfl;exact h8 u hu;rcases List.mem_cons.1 hc with rfl|hc;rfl;exact h9 e c hc
 | _,_,_,vs,.nlo K,h=>by
  rw[aU] at h;obtain⟨v,r,rfl,h3,h4⟩:=h;obtain⟨news,h5,rfl,h7,h8,h9⟩:=NC.ok hs K h4;rw[vr] at h3;refine⟨⟨v,true,_,[]⟩::news,⟨_,_,rfl,⟨rfl,rfl,[],by rw[h3];exact bR.nil0,by rw[bk]⟩,h5⟩,rfl,by simpa using h7,λu hu=>?_,λe c hc=>?_⟩;rcases List.mem_cons.1 hu with rfl|hu;rw[h3];rfl;exact h8 u hu;rcases List.mem_cons.1 hc with rfl|hc;rfl;exact h9 e c hc
 | _,_,_,vs,.nlw K,h=>by
  rw[aU] at h;obtain⟨v,r,rfl,h3,h4⟩:=h;obtain⟨news,h5,rfl,h7,h8,h9⟩:=NC.ok hs K h4;rw[vr] at h3;refine⟨⟨v,true,_,[]⟩::news,⟨_,_,rfl,⟨rfl,rfl,by show fx _ (.sl _ []) _ _;rw[fx];exact⟨[],[],[],by rw[h3];exact bR.nil0,by rw[dk];exact⟨rfl,rfl⟩,rfl⟩⟩,h5⟩,rfl,by simpa using h7,λu hu=>?_,λe c hc=>?_⟩;rcases List.mem_cons.1 hu with rfl|hu;rw[h3];rfl;exact h8 u hu;rcases List.mem_cons.1 hc with rfl|hc;rfl;exact h9 e c hc
 | _,_,_,vs,.ref (q:=q) hc hf K,h=>by
  rw[aU] at h;obtain⟨v,r,rfl,h3,h4⟩:=h;obtain⟨news,h5,rfl,h7,h8,h9⟩:=NC.ok hs K h4;rw[vr] at h3;have Z:=hs.roots q;obtain⟨v0,k0,L,gs,hg⟩:=hc.isrow Z;rw[hg] at Z h3;have h3:=h3 _ _ rfl;subst h3;have h10:=hc.ok Z;have hone:v.oneCell'=true:=hc.one Z;refine⟨⟨v,true,k0,L++cD gs⟩::news,⟨_,_,rfl,h10,h5⟩,rfl,?_,λu hu=>?_,λe c hc'=>?_⟩;simp only[Bkz,h7,hg,bl];rcases List.mem_cons.1 hu with rfl|hu;exact hone;exact h8 u hu;rcases List.mem_cons.1 hc' with rfl|hc';rcases hf with hf|hf;exact hf;rw[e] at hf;cases hf;exact h9 e c hc'
theorem Ls:∀ (qs:List Nat) (σ:Nat->aA) (i:Nat),cq σ (qs.map λq=>(q,.dead)) i=if i∈qs then .dead else σ i
 | [],σ,i=>by simp[cq]
 | q::qs,σ,i=>by
  rw[List.map_cons,cq,Ls qs];by_cases h:i∈qs;simp[h];by_cases K:i=q<;>simp[h,K]
theorem FX {r:Nat}{x:aA}{qs:List Nat}{σ:Nat->aA}(Z:r∉qs)(i:Nat):cq σ ((r,x)::qs.map λq=>(q,.dead)) i=if i=r then x else if i∈qs then .dead else σ i:=by
 rw[cq,Ls];by_cases h:i=r;subst h;simp[Z];simp[h]
theorem NC.congr {σ1 σ2:Nat->aA}{m:Md}:∀ {xs:List X} {cs:List Cell} {qs:List Nat},NC σ2 m xs cs qs->(∀ q∈qs,σ1 q=σ2 q)->NC σ1 m xs cs qs
 | _,_,_,.nil,_=>.nil
 | _,_,_,.d h K,hc=>.d h (K.congr hc)
 | _,_,_,.nl K,hc=>.nl (K.congr hc)
 | _,_,_,.nld (m':=m') K,hc=>.nld (m':=m') (K.congr hc)
 | _,_,_,.nlo (m':=m') K,hc=>.nlo (m':=m') (K.congr hc)
 | _,_,_,.nlw (m':=m') K,hc=>.nlw (m':=m') (K.congr hc)
 | _,_,_,.ref h hf K,hc=>.ref (by rw[hc _ (by simp)];exact h) hf (K.congr λq hq=>hc q (by simp[hq]))
theorem NC.len {σ:Nat->aA}{m:Md}:∀ {xs:List X} {cs:List Cell} {qs:List Nat},NC σ m xs cs qs->cs.length=xs.length
 | _,_,_,.nil=>rfl
 | _,_,_,.d h K=>by simp[K.len]
 | _,_,_,.nl K=>by simp[K.len]
 | _,_,_,.nld (m':=m') K=>by simp[K.len]
 | _,_,_,.nlo (m':=m') K=>by simp[K.len]
 | _,_,_,.nlw (m':=m') K=>by simp[K.len]
 | _,_,_,.ref h hf K=>by simp[K.len]
theorem NC.roots {σ:Nat->aA}{m:Md}:∀ {xs:List X} {cs:List Cell} {qs:List Nat},NC σ m xs cs qs->∀ x∈xs,∀ i∈dr x,i∈qs
 | _,_,_,.nil,x,hx=>by cases hx
 | _,_,_,.d h K,x,hx=>by
  rcases List.mem_cons.1 hx with rfl|hx;intro i hi;simp[dr] at hi;exact K.roots x hx
 | _,_,_,.nl K,x,hx=>by
  rcases List.mem_cons.1 hx with rfl|hx;intro i hi;simp[dr] at hi;exact K.roots x hx
 | _,_,_,.nld (m':=m') K,x,hx=>by
  rcases List.mem_cons.1 hx with rfl|hx;intro i hi;simp[dr] at hi;exact K.roots x hx
 | _,_,_,.nlo (m':=m') K,x,hx=>by
  rcases List.mem_cons.1 hx with rfl|hx;intro i hi;simp[dr] at hi;exact K.roots x hx
 | _,_,_,.nlw (m':=m') K,x,hx=>by
  rcases List.mem_cons.1 hx with rfl|hx;intro i hi;simp[dr] at hi;exact K.roots x hx
 | _,_,_,.ref h hf K,x,hx=>by
  rcases List.mem_cons.1 hx with rfl|hx;intro i hi;simp[dr] at hi;simp[hi];intro i hi;exact Buz _ (K.roots x hx i hi)
section
variable {P:Program}{S:Start}{F:Nat->Prop}{g:Nat->G}{w:World}{σ1:Nat->aA}
def lC (g:Nat->G)(r:Nat)(y:G)(qs:List Nat):Nat->G:=λi=>if i=r then y else if i∈qs then .dead else g i
theorem FW {A M D N:List Nat}(h:(A++M++D).Nodup)(hn:N.Nodup)(hd:∀ b∈N,b∉A/\b∉D):(A++N++D).Nodup:=by
 rw[Azz,Chz] at h ⊢;obtain⟨U,K,h3⟩:=h;rw[Chz] at K ⊢;obtain⟨h4,h5,h6⟩:=K;refine⟨U,⟨hn,h5,λa ha b Y e=>(hd a ha).2 (e▸Y)⟩,λa ha b Y e=>?_⟩;rcases List.mem_append.1 Y with Y|Y;exact (hd b Y).1 (e▸ha);exact h3 a ha b (List.mem_append.2 (.inr Y)) e
theorem Ca (hs:bu S F g σ1 w):∀ {qs:List Nat},qs.Nodup->(qs.flatMap λq=>bl (g q)).Nodup
 | [],_=>Caz
 | q::qs,h=>by
  rw[List.nodup_cons] at h;rw[Bkz,Chz];refine⟨hs.nodup q,Ca hs h.2,λa ha b Y e=>?_⟩;subst e;obtain⟨q',hq',Y⟩:=List.mem_flatMap.1 Y;exact hs.disj q q' (λe=>h.1 (e▸hq')) a ha Y
theorem bu.cells (hs:bu S F g σ1 w){r:Nat}{v:Value}{k:Nat}{L:List Nat}{gs:List (List GC)}(hg:g r=.row v k L gs)(hgs:∀ ge∈gs,ge.length=k){n:Nat}(hown:bR w k v n L (b0 gs)){j c:Nat}{ge:List GC}(hj:gs[j]?=some ge)(hjn:j<n){news:List GC}(hc:c+news.length<=k){qs:List Nat}(hnd:(r::qs).Nodup)
  (hL:news.flatMap (·.L)=qs.flatMap λq=>bl (g q)) (hq:∀ q∈qs,g q≠.none) {T:Nat} (hk:cu P T=some news.length) {u:Value} (hu:u.cells.toList=news.map (·.val)) (U:∀ x∈news.map (·.val),x.oneCell'=true) {σ' : Nat->aA} (hσ:∀ i,i≠r->i∉qs->σ' i=σ1 i) (hσq:∀ q∈qs,σ' q=.dead) :
  ∃ b cp w',v=.slice (some ⟨b,0,none⟩) n cp/\(storeVar T ⟨b,j*k+c,none⟩ u).run P w=.ok () w' /\
   (((∀ m b o cs,SM F S.B m b->b<w.heap.size->At w b o cs->SM F S.B m b/\b<w'.heap.size/\At w' b o cs)->(∀ x,x∈cD gs∨x∈news.flatMap (·.L)->w'.heap[x]?=w.heap[x]?)->(∀ i,dh (g i) (lC g r (.row v k L (gs.set j (ge.take c++news++ge.drop (c+news.length)))) qs i))->bR w' k v n L (b0 (gs.set j (ge.take c++news++ge.drop (c+news.length)))) ->
    gZ (SM F S.B) w' (lC g r (.row v k L (gs.set j (ge.take c++news++ge.drop (c+news.length)))) qs) (σ' r) (.row v k L (gs.set j (ge.take c++news++ge.drop (c+news.length))))) ->
   bu S F (lC g r (.row v k L (gs.set j (ge.take c++news++ge.drop (c+news.length)))) qs) σ' w'/\cr S.B F g w F (lC g r (.row v k L (gs.set j (ge.take c++news++ge.drop (c+news.length)))) qs) w'):=by
 rw[List.nodup_cons] at hnd;obtain⟨VA,VM,VD,LA,LM,LD,e1,e2,e3,e4,e5⟩:=Ff hgs hj hc;obtain⟨e6,e7⟩:=e5 news;generalize hge' : gs.set j (ge.take c++news++ge.drop (c+news.length))=gs' at e6 e7 ⊢;obtain⟨b,cp,hv,hbL,w',hrun,hchg,hown'⟩:=hown.store (P:=P) (j:=j) (c:=c) hk hu (by simp) U hjn hc;have hgv:cL (b0 gs) (j*k+c) (news.map (·.val))=b0 gs':=by rw[e1,e6];exact Yb e2 (by rw[e3];simp)
 rw[hgv] at hown';have hbl:bl (g r)=L++(LA++LM++LD):=by rw[hg,← e4];rfl
 have hnr:=hs.nodup r;have hL2:∀ x,x∈news.flatMap (·.L)->∃ q∈qs,x∈bl (g q):=λx hx=>by rw[hL] at hx;exact List.mem_flatMap.1 hx
 have hbr:b∈bl (g r):=by rw[hbl];simp[hbL]
 have notb:∀ x,x∈cD gs∨x∈news.flatMap (·.L)->x≠b:=λx hx e=>by
  subst e;rcases hx with hx|hx;rw[hg] at hnr;exact (List.nodup_append.1 hnr).2.2 x hbL x hx rfl;obtain⟨q,hq',hx⟩:=hL2 x hx;exact hs.disj r q (λe=>hnd.1 (e▸hq')) x hbr hx
 refine⟨b,cp,w',hv,hrun,λhroot=>?_⟩;have hlt:∀ x,x∈cD gs∨x∈news.flatMap (·.L)->x<w.heap.size:=λx hx=>by
  rcases hx with hx|hx;exact (hs.own r x (by rw[hg];simp[bl,hx])).1;obtain⟨q,_,hx⟩:=hL2 x hx;exact (hs.own q x hx).1
 have gr:lC g r (.row v k L gs') qs r=.row v k L gs':=by simp[lC]
 have gq:∀ q∈qs,lC g r (.row v k L gs') qs q=.dead:=λq hq=>by
  have:q≠r:=λe=>hnd.1 (e▸hq);simp[lC,this,hq]
 have go:∀ i,i≠r->i∉qs->lC g r (.row v k L gs') qs i=g i:=λi U K=>by simp[lC,U,K]
 have hadv:∀ i,dh (g i) (lC g r (.row v k L gs') qs i):=λi=>by
  by_cases hi:i=r;subst hi;rw[gr,hg];exact .inr ⟨_,_,rfl⟩;by_cases hi2:i∈qs;rw[gq i hi2];exact dh.dead (hq i hi2);rw[go i hi hi2];exact dh.refl _
 have hblr:∀ x,x∈bl (.row v k L gs')->x∈bl (g r)∨∃ q∈qs,x∈bl (g q):=λx hx=>by
  simp only[bl,e7,Ciz] at hx;rw[hbl];simp only[Ciz];rcases hx with hx|(hx|hx)|hx;exact .inl (.inl hx);exact .inl (.inr (.inl (.inl hx)));exact .inr (hL2 x hx);exact .inl (.inr (.inr hx))
 refine hs.step (λi=>i=r∨i∈qs) hchg (λi hi _=>⟨r,.inl rfl,by subst hi;exact hbr⟩) (λi hi=>⟨go i (λe=>hi (.inl e)) λe=>hi (.inr e),hσ i (λe=>hi (.inl e)) λe=>hi (.inr e)⟩) (λi _=>hadv i) (λ_ h=>h) (λx hx=>⟨Bfz (hs.flt x hx) hchg.size,.inl hx⟩)
  (λhkeep hp i hi=>?_) (λi hi=>?_) (λi i' hi hi' hne x hx=>?_) (λi x hi hx=>?_)
 rcases hi with rfl|hi;rw[gr];exact hroot hkeep (λx hx=>hchg.block x (hlt x hx) (notb x hx)) hadv hown';rw[gq i hi,hσq i hi];trivial;rcases hi with rfl|hi;rw[gr];simp only[bl,e7];have:(L++LA++LM++LD).Nodup:=by rw[hbl] at hnr;simpa using hnr
 have K:=FW (N:=news.flatMap (·.L)) this (by rw[hL];exact Ca hs hnd.2) λx hx=>by
  obtain⟨q,hq',hx⟩:=hL2 x hx;have h3:=hs.disj q i (λe=>hnd.1 (e▸hq')) x hx;rw[hbl] at h3;simp only[Ciz,not_or] at h3 ⊢;exact⟨⟨h3.1,h3.2.1.1⟩,h3.2.2⟩
 simpa using K;rw[gq i hi];exact Caz;rcases hi with rfl|hi;rcases hi' with rfl|hi';exact absurd rfl hne;rw[gq i' hi'];exact List.not_mem_nil;rw[gq i hi] at hx;cases hx;rcases hi with rfl|hi;rw[gr] at hx;rcases hblr x hx with h|⟨q,hq',h⟩
 exact⟨Bfz (hs.own i x h).1 hchg.size,(hs.own i x h).2.1,.inr ⟨i,.inl rfl,h⟩⟩;exact⟨Bfz (hs.own q x h).1 hchg.size,(hs.own q x h).2.1,.inr ⟨q,.inr hq',h⟩⟩;rw[gq i hi] at hx;cases hx
end
theorem l4 {S1:Md->Nat->Prop}{w:World}{k:Nat}:∀ {es:List (List Cell)} {gs:List (List GC)},aS (fq S1 w k) es gs->∀ ge∈gs,ge.length=k
 | [],_,h,ge,hg=>by rw[show _=[] from h] at hg;cases hg
 | e::es,_,⟨g0,r,U,K,h3⟩,ge,hg=>by
  subst U;rcases List.mem_cons.1 hg with rfl|hg;rw[K.2.len];exact K.1;exact l4 h3 ge hg
def lI (hs:List (Nat×Nat×Nat))(c n:Nat):List (Nat×Nat×Nat):=hs.filter λp=>Nat.blt p.2.1 c||Nat.ble (c+n) p.2.1
theorem Fe {gs:List (List GC)}{j c:Nat}{ge news:List GC}(hj:gs[j]?=some ge)(hc:c+news.length<=ge.length){i d:Nat}(hd:d<c∨c+news.length<=d):(((gs.set j (ge.take c++news++ge.drop (c+news.length)))[i]?).bind (·[d]?))=(gs[i]?).bind (·[d]?):=by
 rw[Cjz];by_cases hi:j=i;subst hi;have hlt:=(List.getElem?_eq_some_iff.1 hj).1;simp only[if_true,ao hlt,hj,aj];rcases hd with hd|hd;rw[Azz,List.getElem?_append_left (by simp;omega),List.getElem?_take_of_lt hd];rw[Auz (by simp;omega),List.getElem?_drop];congr 1;simp only[Axz,Brz];omega;simp[hi]
theorem EH {es:List (List Cell)}{j c:Nat}{e cells:List Cell}(h:mD es)(hj:es[j]?=some e)(hc:∀ x∈cells,kc x=true):mD (es.set j (spl e c cells)):=by
 intro e' he x hx;rcases List.mem_or_eq_of_mem_set he with he|rfl;exact h e' he x hx;have hm:=h e (Bvz hj);simp only[spl,Ciz] at hx;rcases hx with (hx|hx)|hx;exact hm x (List.mem_of_mem_take hx);exact hc x hx;exact hm x (List.mem_of_mem_drop hx)
theorem aT.keepL {S1:Md->Nat->Prop}{w w' : World}(hk:∀ m b o cs,S1 m b->b<w.heap.size->At w b o cs->S1 m b/\b<w'.heap.size/\At w' b o cs):∀ {cs:List Cell} {ge:List GC},aS (aT S1 w) cs ge->(∀ b∈ge.flatMap (·.L),w'.heap[b]?=w.heap[b]?)->aS (aT S1 w') cs ge:=by
 intro cs ge h hL;exact h.imp_mem λc gc hgc hc=>hc.keep hk λb Y=>hL b (List.mem_flatMap.2 ⟨gc,hgc,Y⟩)
theorem NC.alive {σ:Nat->aA}{m:Md}:∀ {xs:List X} {cs:List Cell} {qs:List Nat},NC σ m xs cs qs->∀ q∈qs,∃ c,MC (σ q) c
 | _,_,_,.nil,q,hq=>by cases hq
 | _,_,_,.d h K,q,hq=>K.alive q hq
 | _,_,_,.nl K,q,hq=>K.alive q hq
 | _,_,_,.nld (m':=m') K,q,hq=>K.alive q hq
 | _,_,_,.nlo (m':=m') K,q,hq=>K.alive q hq
 | _,_,_,.nlw (m':=m') K,q,hq=>K.alive q hq
 | _,_,_,.ref h hf K,q,hq=>by
  rcases List.mem_cons.1 hq with rfl|hq;exact⟨_,h⟩;exact K.alive q hq
theorem NC.some {S:Start}{F:Nat->Prop}{g:Nat->G}{w:World}{σ:Nat->aA}{m:Md}{xs:List X}{cs:List Cell}{qs:List Nat}(h:NC σ m xs cs qs)(hs:bu S F g σ w)(q:Nat)(hq:q∈qs):g q≠.none:=by
 obtain⟨c,hc⟩:=h.alive q hq;obtain⟨v,k,L,gs,e⟩:=hc.isrow (hs.roots q);rw[e];intro h;cases h
section
variable {P:Program}{S:Start}{n:Nat}{ρ:AE}{σ:St}{o:Oper}
theorem aS.spl {α β:Type}{R:α->β->Prop}{ls:List α}{bs:List β}(h:aS R ls bs){c:Nat}{xs:List α}{ys:List β}(K:aS R xs ys):aS R (Go.A.spl ls c xs) (bs.take c++ys++bs.drop (c+ys.length)):=by
 unfold Go.A.spl;rw[← K.len];exact ((h.take c).append K).append (h.drop _)
theorem Ih {T kk:Nat}{x y:Operand}{Z4:X}{r c j k:Nat}{m:Md}{es:List (List Cell)}{hh:List (Nat×Nat×Nat)}{e cells:List Cell}{qs:List Nat}(ho:o.op=.store T x y)(hk:cu P T=some kk)(hx:aH ρ x=.pe r none j c)(hσ:ak σ r=.deep m k es hh)(hj:es[j]?=some e)(hy:aH ρ y=Z4)(hn:NC (ak σ) m Z4.cells cells qs)
  (hl:Z4.cells.length=kk) (hfit:Nat.ble (c+kk) k=true) (hnd:kp (r::qs)=true) (hsure:gH (ak σ) Z4=true) :
  LT P S o ρ σ [] .u ((r,.deep m k (es.set j (spl e c cells)) (lI hh c kk))::qs.map λq=>(q,.dead)):=by
 intro σ1 F g w ρc hs hrd hwr hv;have hr1:σ1 r=.deep m k es hh:=(hwr (r,_) Ckz).trans hσ;have hq1:∀ q∈qs,σ1 q=ak σ q:=λq hq=>hwr (q,.dead) (Buz _ (List.mem_map.2 ⟨q,hq,rfl⟩));have hnd':=qc hnd;have hn1:=hn.congr hq1;have hroot:=hs.roots r;rw[hr1] at hroot;cases hg:g r<;>rw[hg] at hroot<;>try exact hroot.elim
 rename_i v k0 L gs;obtain⟨⟨hk0,hrow⟩,hho,hfz⟩:=hroot;subst hk0;have e1:=hv x (by simp[ho,Op.operands]);have e2:=hv y (by simp[ho,Op.operands]);rw[hy] at e2;have hA:gH σ1 Z4=true:=by
  cases Z4 with
  | ag cs=>rfl
  | _=>rw[uw (σ2:=ak σ) λi hi=>hq1 i (hn.roots _ (by simp[X.cells]) i hi)];exact hsure
 have hys:=pC hs hA e2;obtain⟨news,h5,h6,h7,h8,h9⟩:=hn1.ok hs hys;obtain⟨ge,hge,hel⟩:=hrow.2.get hj;have hjn:j<es.length:=(List.getElem?_eq_some_iff.1 hj).1;have hnl:news.length=kk:=by rw[h5.len,hn.len,hl]
 have hfit' : c+kk<=k0:=by simpa using hfit
 have hgl:ge.length=k0:=l4 hrow.2 ge (Bvz hge);obtain⟨b,cp,w',hv',hrun,hsim⟩:=hs.cells (P:=P) (T:=T) (u:=E.ev ρc y) (news:=news) (qs:=qs) (c:=c) (j:=j) hg (l4 hrow.2) hrow.1 hge hjn (by rw[hnl];exact hfit') hnd' h7
  (λq hq=>hn1.some hs q hq)
  (by rw[hnl];exact hk) h6.symm (by rw[h6];exact h8) (σ':=cq σ1 ((r,.deep m k0 (es.set j (spl e c cells)) (lI hh c kk))::qs.map λq=>(q,.dead)))
  (λi hi1 hi2=>by rw[FX (List.nodup_cons.1 hnd').1,an hi1,an hi2]) (λq hq=>by rw[FX (List.nodup_cons.1 hnd').1,an (λ(e:q=r)=>(List.nodup_cons.1 hnd').1 (e▸hq)),ao hq])
 rw[hx,vr,hg] at e1;obtain⟨b',n',cp',e3,e4,e5⟩:=e1 _ _ rfl;rw[hv'] at e3;cases e3;have he:(execOp (E.ev ρc) o).run P w=.ok .skip w':=by
  simp only[execOp,ho,e5,Instr.storeAt,Instr.sureAddr,Sem.run_bind,Sem.run_pure,Result.andThen_ok,hrun]
 rw[he];obtain⟨h10,h11⟩:=hsim (λhkeep hL hadv hown'=>by
  rw[FX (List.nodup_cons.1 hnd').1,ao rfl];have hLge:∀ (i:Nat) (ge' : List GC),gs[i]?=some ge'->∀ b∈ge'.flatMap (·.L),w'.heap[b]?=w.heap[b]?:=λi ge' hi b Y=>hL b (.inl (List.mem_flatMap.2 ⟨ge',Bvz hi,Y⟩));refine⟨⟨rfl,by rw[Clz];exact hown',?_⟩,λp hp gc hgc=>?_,λhm=>EH (hfz hm) hj (h9 hm)⟩;have hel' : fq (SM F S.B) w' k0 (spl e c cells) (ge.take c++news++ge.drop (c+news.length)):=by
   refine⟨?_,(aT.keepL hkeep hel.2 (hLge j ge hge)).spl (aT.keepL hkeep h5 λb Y=>hL b (.inr Y))⟩;unfold spl;simp only[Axz,Brz,Bsz,hn.len,hl,hel.1];omega
  refine aS.set ?_ hel';exact hrow.2.imp_mem λe' ge' hm' he'=>⟨he'.1,aT.keepL hkeep he'.2 λb Y=>hL b (.inl (List.mem_flatMap.2 ⟨ge',hm',Y⟩))⟩
  simp only[lI,List.mem_filter,Bool.or_eq_true] at hp;rw[Fe hge (by rw[hnl,hgl];exact hfit') (by rw[hnl];simpa using hp.2)] at hgc;exact (hho p hp.1 gc hgc).adv (hadv _))
 exact⟨F,_,h10,λx v hv=>h11 x v hv,by rw[vr];trivial⟩
theorem M6 {m:Md}:∀ {xs:List X} {ds:List D},eK m xs=some ds->∀ x∈xs,dr x=[]
 | [],ds,h,x,hx=>by cases hx
 | y::xs,ds,h,x,hx=>by
  simp only[eK] at h;split at h;rename_i y' ys U K;rcases List.mem_cons.1 hx with rfl|hx;cases x<;>first|rfl|cases U
  exact M6 K x hx;cases h
theorem RH {T kk:Nat}{x y:Operand}{Z4:X}{r c j k:Nat}{m:Md}{ds ys:List D}{d d' : D}(ho:o.op=.store T x y)(hk:cu P T=some kk)(hx:aH ρ x=.pe r none j c)(hσ:ak σ r=.row m k ds)(hj:ds[j]?=some d)(hy:aH ρ y=Z4)(hY:eK m Z4.cells=some ys)(hd:d'.cells=spl d.cells c ys)
  (hl:Z4.cells.length=kk) (hfit:Nat.ble (c+kk) k=true) (hsure:gH (ak σ) Z4=true) :
  LT P S o ρ σ [] .u [(r,.row m k (ds.set j d'))]:=by
 intro σ1 F g w ρc hs hrd hwr hv;have hr1:σ1 r=.row m k ds:=(hwr (r,_) Ckz).trans hσ;have hroot:=hs.roots r;rw[hr1] at hroot;cases hg:g r<;>rw[hg] at hroot<;>try exact hroot.elim
 rename_i v k0 L gs;obtain⟨hk0,hrow⟩:=hroot;subst hk0;have e1:=hv x (by simp[ho,Op.operands]);have e2:=hv y (by simp[ho,Op.operands]);rw[hy] at e2;have hA:gH σ1 Z4=true:=by
  cases Z4 with
  | ag cs=>rfl
  | _=>rw[uw (σ2:=ak σ) λi hi=>by rw[M6 hY _ (by simp[X.cells])] at hi;cases hi];exact hsure
 have hys:=wX hY (pC hs hA e2);obtain⟨news,h5,h6,h7⟩:=Fl (S1:=SM F S.B) hys;have hyl:ys.length=kk:=by rw[← hys.len,← hl,(pC hs hA e2).len]
 have hnl:news.length=kk:=by rw[h5.len,bh,hyl]
 obtain⟨ge,hge,hel⟩:=hrow.2.get (i:=j) (a:=bT m d) (by simp[hj]);have hjn:j<(ds.map (bT m)).length:=by rw[bh];exact (List.getElem?_eq_some_iff.1 hj).1
 have hfit' : c+kk<=k0:=by simpa using hfit
 obtain⟨b,cp,w',hv',hrun,hsim⟩:=hs.cells (P:=P) (T:=T) (u:=E.ev ρc y) (news:=news) (qs:=[]) (c:=c) (j:=j) hg (l4 hrow.2) hrow.1 hge hjn (by rw[hnl];exact hfit') (by simp) (by simp[h7])
  (λq hq=>by cases hq) (by rw[hnl];exact hk) h6.symm (by rw[h6];exact hys.one) (σ':=cq σ1 [(r,.row m k0 (ds.set j d'))])
  (λi hi1 hi2=>by rw[gT];simp[hi1]) (λq hq=>by cases hq)
 rw[hx,vr,hg] at e1;obtain⟨b',n',cp',e3,e4,e5⟩:=e1 _ _ rfl;rw[hv'] at e3;cases e3;have he:(execOp (E.ev ρc) o).run P w=.ok .skip w':=by
  simp only[execOp,ho,e5,Instr.storeAt,Instr.sureAddr,Sem.run_bind,Sem.run_pure,Result.andThen_ok,hrun]
 rw[he];obtain⟨h10,h11⟩:=hsim (λhkeep hL hadv hown'=>by
  rw[gT];simp only[if_true];refine⟨rfl,by rw[bh,Clz];rw[bh] at hown';exact hown',?_⟩;have e6:(ds.set j d').map (bT m)=(ds.map (bT m)).set j (spl (bT m d) c (ys.map (Cell.d m))):=by
   rw[List.map_set];congr 1;simp only[bT,hd,spl,List.map_append,List.map_take,List.map_drop,bh]
  rw[e6];have hel' : fq (SM F S.B) w' k0 (spl (bT m d) c (ys.map (Cell.d m))) (ge.take c++news++ge.drop (c+news.length)):=by
   refine⟨?_,(aT.keepL hkeep hel.2 λb Y=>hL b (.inl (List.mem_flatMap.2 ⟨ge,Bvz hge,Y⟩))).spl (aT.keepL hkeep h5 λb Y=>hL b (.inr Y))⟩;have:=hel.1;unfold spl;simp only[Axz,Brz,Bsz,bh,hyl];omega
  refine aS.set ?_ hel';exact hrow.2.imp_mem λe' ge' hm' he'=>⟨he'.1,aT.keepL hkeep he'.2 λb Y=>hL b (.inl (List.mem_flatMap.2 ⟨ge',hm',Y⟩))⟩)
 exact⟨F,_,h10,λx v hv=>h11 x v hv,by rw[vr];trivial⟩
end
theorem Jf {k:Nat}{gs:List (List GC)}{j c:Nat}{ge:List GC}{gc:GC}(hk:∀ g∈gs,g.length=k)(hj:gs[j]?=some ge)(hc:ge[c]?=some gc) :
  ∃ VA VD LA LD,b0 gs=VA++[gc.val]++VD/\cD gs=LA++gc.L++LD/\∀ x:GC,b0 (gs.set j (ge.take c++[x]++ge.drop (c+1)))=VA++[x.val]++VD/\cD (gs.set j (ge.take c++[x]++ge.drop (c+1)))=LA++x.L++LD:=by
 have hlt:c<ge.length:=(List.getElem?_eq_some_iff.1 hc).1;have hgl:=hk ge (Bvz hj);obtain⟨VA,VM,VD,LA,LM,LD,U,K,h3,h4,h5⟩:=Ff hk hj (c:=c) (n:=1) (by omega);have e:gs.set j (ge.take c++[gc]++ge.drop (c+1))=gs:=by
  have:ge.take c++[gc]++ge.drop (c+1)=ge:=by
   have h6:ge[c]'hlt=gc:=by rw[Cmz hlt] at hc;exact Option.some.inj hc
   rw[← h6,Azz,Cnz,List.getElem_cons_drop,Ccz]
  rw[this];apply List.ext_getElem?;intro i;rw[Cjz];split;rename_i hi;subst hi;split;exact hj.symm;rename_i h;exact absurd (List.getElem?_eq_some_iff.1 hj).1 h;rfl
 obtain⟨h6,h7⟩:=h5 [gc];rw[e] at h6 h7;exact⟨VA,VD,LA,LD,by simpa using h6,by simpa using h7,λx=>by have:=h5 [x];simpa using this⟩
section
variable {S:Start}{ρ:AE}{σ:St}
theorem rG {σ:St}{r q:Nat}{x y:aA}(i:Nat):ak (aO (aO σ r x) q y) i=if i=q then y else if i=r then x else ak σ i:=by
 rw[jC,jC]
theorem cJ.none {w:World}:cJ (λ_=>False) w w:=cJ.refl w
theorem GH.out {r j c k q:Nat}{m:Md}{es:List (List Cell)}{hh:List (Nat×Nat×Nat)}{e:List Cell}{cell:Cell}{x:aA}(hσ:ak σ r=.deep m k es hh)(hj:es[j]?=some e)(hc:e[c]?=some cell)(hx:OC cell x)(hq:ak σ q=.none) :
  GH S ρ σ ρ (aO (aO σ r (.deep m k (es.set j (spl e c [.u])) ((j,c,q)::hh))) q x):=by
 intro F g w ρc hs hv;have hqr:q≠r:=λe=>by rw[e,hσ] at hq;cases hq
 have hroot:=hs.roots r;rw[hσ] at hroot;cases hg:g r<;>rw[hg] at hroot<;>try exact hroot.elim
 rename_i v k0 L gs;obtain⟨⟨hk0,hrow⟩,hho,hfz⟩:=hroot;subst hk0;have hgq:g q=.none:=by
  have:=hs.roots q;rw[hq] at this;revert this;cases g q<;>intro h<;>first|rfl|exact h.elim
 obtain⟨ge,hge,hel⟩:=hrow.2.get hj;obtain⟨gc,hgc,hcl⟩:=hel.2.get hc;have hcl0:c<ge.length:=(List.getElem?_eq_some_iff.1 hgc).1;obtain⟨VA,VD,LA,LD,e1,e2,e3⟩:=Jf (l4 hrow.2) hge hgc;obtain⟨e4,e5⟩:=e3 ⟨gc.val,false,0,[]⟩;obtain⟨Lq,gq,hxr,hxl⟩:=hx.ok (g:=λi=>if i=q then .row gc.val gc.k [] [] else g i) hcl;generalize hgs' : gs.set j (ge.take c++[(⟨gc.val,false,0,[]⟩:GC)]++ge.drop (c+1))=gs' at e4 e5;let g' : Nat->G:=λi=>if i=q then .row gc.val gc.k Lq gq else if i=r then .row v k0 L gs' else g i
 have gr:g' r=.row v k0 L gs':=by simp[g',hqr.symm]
 have gqq:g' q=.row gc.val gc.k Lq gq:=by simp[g']
 have go:∀ i,i≠q->i≠r->g' i=g i:=λi U K=>by simp[g',U,K]
 have hbr:bl (g r)=L++(LA++gc.L++LD):=by rw[hg,← e2];rfl
 have hnr:=hs.nodup r;rw[hbr] at hnr;have hblr:bl (g' r)=L++(LA++LD):=by rw[gr];simp only[bl,e5,Cgz]
 have hblq:bl (g' q)=gc.L:=by rw[gqq];exact hxl
 have hone:gc.val.oneCell'=true:=by
  cases hx with
  | row=>obtain⟨_,_,cs,h,_⟩:=hcl;obtain⟨A,c,e,_⟩:=h.form;rw[e];rfl
  | own=>have h:=hcl.2.2;simp only[fx] at h;obtain⟨L0,cs,L1,h,_⟩:=h;obtain⟨A,c,e,_⟩:=h.form;rw[e];rfl
  | flat=>have h:=hcl.2.2;simp only[fx] at h;obtain⟨L0,cs,L1,h,_⟩:=h;obtain⟨A,c,e,_⟩:=h.form;rw[e];rfl
 have hadv:∀ i,dh (g i) (g' i):=λi=>by
  by_cases U:i=q;subst U;rw[hgq];trivial;by_cases K:i=r;subst K;rw[gr,hg];exact .inr ⟨_,_,rfl⟩;rw[go i U K];exact dh.refl _
 obtain⟨U,K⟩:=hs.step (g':=g') (σ':=ak (aO (aO σ r (.deep m k0 (es.set j (spl e c [.u])) ((j,c,q)::hh))) q x)) (F':=F) (w':=w) (λi=>i=r∨i=q) cJ.none (λ_ h _=>h.elim)
  (λi hi=>⟨go i (λe=>hi (.inr e)) λe=>hi (.inl e),by rw[rG,an λe=>hi (.inr e),an λe=>hi (.inl e)]⟩) (λi _=>hadv i) (λ_ h=>h) (λx hx=>⟨hs.flt x hx,.inl hx⟩)
  (λhkeep hp i hi=>by
   rcases hi with rfl|rfl;rw[rG,an hqr.symm,ao rfl,gr];refine⟨⟨rfl,?_,?_⟩,λp hp gc' hgc'=>?_,λhm=>EH (hfz hm) hj (by simp[kc])⟩;rw[Clz,show b0 gs'=b0 gs by rw[e4,e1]];exact hrow.1;rw[← hgs'];refine aS.set hrow.2 ⟨?_,hel.2.spl (c:=c) (xs:=[.u]) (ys:=[⟨gc.val,false,0,[]⟩]) ⟨_,[],rfl,⟨rfl,rfl,hone⟩,rfl⟩⟩;have:=hel.1;have:=hel.2.len;unfold spl;simp only[Axz,Brz,Bsz,Coz];omega;rcases List.mem_cons.1 hp with rfl|hp;simp only[gqq];rw[← hgs'] at hgc';have hjlt:=(List.getElem?_eq_some_iff.1 hge).1;simp only[Cjz,if_true,ao hjlt,aj] at hgc';rw[Azz,Auz (by simp;omega),Cnz] at hgc';simp[Nat.min_eq_left (Nat.le_of_lt hcl0)] at hgc';subst hgc';intro u k' hu;cases hu;rfl;have:(gs[p.1]?).bind (·[p.2.1]?)=some gc'∨gc'=⟨gc.val,false,0,[]⟩/\p.1=j/\p.2.1=c:=by
    by_cases hpj:p.1=j/\p.2.1=c;right;refine⟨?_,hpj⟩;rw[← hgs',hpj.1,hpj.2] at hgc';have hjlt:=(List.getElem?_eq_some_iff.1 hge).1;simp only[Cjz,if_true,ao hjlt,aj] at hgc';rw[Azz,Auz (by simp;omega),Cnz] at hgc';simp[Nat.min_eq_left (Nat.le_of_lt hcl0)] at hgc';exact hgc'.symm;left;rw[← hgs'] at hgc';by_cases hpj1:p.1=j;rw[← hgc',hpj1];exact (Fe (news:=[⟨gc.val,false,0,[]⟩]) hge (by simp;omega) (by simp;have:p.2.1≠c:=λe=>hpj ⟨hpj1,e⟩;omega)).symm;rw[List.getElem?_set_ne (λe=>hpj1 e.symm)] at hgc';exact hgc'
   rcases this with h|⟨h,U,K⟩
   exact (hho p hp gc' h).adv (hadv _);have h3:=(hho p hp gc (by rw[U,K,hge];exact hgc)).adv (hadv p.2.2);rw[h];exact h3;rw[rG,ao rfl,gqq];obtain⟨Lq',gq',hxr',hxl'⟩:=hx.ok (g:=g') hcl;revert hxr;cases hx with
   | row=>intro hxr;exact hxr
   | own=>intro hxr;exact⟨hxr.1,bp.nil,hxr.2.2⟩
   | flat=>intro hxr;exact hxr)
  (λi hi=>by
   rcases hi with rfl|rfl;rw[hblr];have:=FW (A:=L++LA) (M:=gc.L) (D:=LD) (N:=[]) (by simpa using hnr) Caz (by simp);simpa using this;rw[hblq];rw[← Azz,← Azz,Chz] at hnr;exact (List.nodup_append.1 hnr.1).2.1)
  (λi i' hi hi' hne b Y=>by
   have hdis:∀ b,b∈L++(LA++LD)->b∉gc.L:=λb Y hb2=>by
    rw[← Azz,← Azz,Chz] at hnr;obtain⟨n1,_,n3⟩:=hnr;rw[Chz] at n1;simp only[Ciz] at Y;rcases Y with Y|Y|Y;exact n1.2.2 b (by simp[Y]) b hb2 rfl;exact n1.2.2 b (by simp[Y]) b hb2 rfl;exact n3 b (by simp[hb2]) b Y rfl
   rcases hi with rfl|rfl<;>rcases hi' with rfl|rfl;exact absurd rfl hne;rw[hblr] at Y;rw[hblq];exact hdis b Y;rw[hblq] at Y;rw[hblr];exact λh=>hdis b h Y;exact absurd rfl hne)
  (λi b hi Y=>by
   have hb' : b∈bl (g r):=by
    rw[hbr];rcases hi with rfl|rfl;rw[hblr] at Y;simp only[Ciz] at Y ⊢;rcases Y with Y|Y|Y;exact .inl Y;exact .inr (.inl (.inl Y));exact .inr (.inr Y);rw[hblq] at Y;simp[Y]
   exact⟨(hs.own r b hb').1,(hs.own r b hb').2.1,.inr ⟨r,.inl rfl,hb'⟩⟩)
 exact⟨F,g',U,λt=>K _ _ (hv t)⟩
theorem RG {r j c k q:Nat}{m:Md}{es:List (List Cell)}{hh:List (Nat×Nat×Nat)}{e:List Cell}{cell:Cell}(hσ:ak σ r=.deep m k es hh)(hj:es[j]?=some e)(hc:Nat.blt c e.length=true)(hm:(j,c,q)∈hh)(hx:MC (ak σ q) cell)(hf:kc cell=true∨m=.bo)(hqr:Nat.beq q r=false) :
  GH S ρ σ ρ (aO (aO σ r (.deep m k (es.set j (spl e c [cell])) (lI hh c 1))) q .dead):=by
 intro F g w ρc hs hv;have hqr:q≠r:=λe=>by subst e;simp at hqr
 have hroot:=hs.roots r;rw[hσ] at hroot;cases hg:g r<;>rw[hg] at hroot<;>try exact hroot.elim
 rename_i v k0 L gs;obtain⟨⟨hk0,hrow⟩,hho,hfz⟩:=hroot;subst hk0;obtain⟨vq,kq,Lq,gq,hgq⟩:=hx.isrow (hs.roots q);obtain⟨ge,hge,hel⟩:=hrow.2.get hj;have hgl:ge.length=e.length:=hel.2.len;have hcl0:c<ge.length:=by rw[hgl];simpa using hc
 have hgc:ge[c]?=some ge[c]:=Cmz hcl0;generalize ge[c]=gc at hgc;have hval:gc.val=vq:=by
  have:=hho _ hm gc (by rw[hge];exact hgc);rw[hgq] at this;exact this _ _ rfl
 obtain⟨VA,VD,LA,LD,e1,e2,e3⟩:=Jf (l4 hrow.2) hge hgc;have hqroot:=hs.roots q;rw[hgq] at hqroot;have hcell:=hx.ok hqroot;obtain⟨e4,e5⟩:=e3 ⟨vq,true,kq,Lq++cD gq⟩;generalize hgs' : gs.set j (ge.take c++[(⟨vq,true,kq,Lq++cD gq⟩:GC)]++ge.drop (c+1))=gs' at e4 e5;let g' : Nat->G:=λi=>if i=q then .dead else if i=r then .row v k0 L gs' else g i
 have gr:g' r=.row v k0 L gs':=by simp[g',hqr.symm]
 have gqq:g' q=.dead:=by simp[g']
 have go:∀ i,i≠q->i≠r->g' i=g i:=λi U K=>by simp[g',U,K]
 have hbr:bl (g r)=L++(LA++gc.L++LD):=by rw[hg,← e2];rfl
 have hbq:bl (g q)=Lq++cD gq:=by rw[hgq];rfl
 have hnr:=hs.nodup r;rw[hbr] at hnr;have hblr:bl (g' r)=L++LA++(Lq++cD gq)++LD:=by rw[gr];simp only[bl,e5,Azz]
 have hadv:∀ i,dh (g i) (g' i):=λi=>by
  by_cases U:i=q;subst U;rw[gqq,hgq];exact .inl rfl;by_cases K:i=r;subst K;rw[gr,hg];exact .inr ⟨_,_,rfl⟩;rw[go i U K];exact dh.refl _
 have hsub:∀ b,b∈bl (g' r)->b∈bl (g r)∨b∈bl (g q):=λb Y=>by
  rw[hblr] at Y;rw[hbr,hbq];simp only[Ciz] at Y ⊢;rcases Y with ((Y|Y)|Y|Y)|Y;exact .inl (.inl Y);exact .inl (.inr (.inl (.inl Y)));exact .inr (.inl Y);exact .inr (.inr Y);exact .inl (.inr (.inr Y))
 obtain⟨U,K⟩:=hs.step (g':=g') (σ':=ak (aO (aO σ r (.deep m k0 (es.set j (spl e c [cell])) (lI hh c 1))) q .dead)) (F':=F) (w':=w) (λi=>i=r∨i=q) cJ.none (λ_ h _=>h.elim)
  (λi hi=>⟨go i (λe=>hi (.inr e)) λe=>hi (.inl e),by rw[rG,an λe=>hi (.inr e),an λe=>hi (.inl e)]⟩) (λi _=>hadv i) (λ_ h=>h) (λx hx=>⟨hs.flt x hx,.inl hx⟩)
  (λhkeep hp i hi=>by
   rcases hi with rfl|rfl;rw[rG,an hqr.symm,ao rfl,gr];refine⟨⟨rfl,?_,?_⟩,λp hp gc' hgc'=>?_,λhm'=>EH (hfz hm') hj (by
    intro x hx';rw[List.mem_singleton] at hx';subst hx';rcases hf with hf|hf;exact hf;rw[hm'] at hf;cases hf)⟩
   rw[Clz,show b0 gs'=b0 gs by rw[e4,e1,hval]];exact hrow.1;rw[← hgs'];refine aS.set hrow.2 ⟨?_,hel.2.spl (c:=c) (xs:=[cell]) (ys:=[⟨vq,true,kq,Lq++cD gq⟩]) ⟨_,[],rfl,hcell,rfl⟩⟩;have:=hel.1;unfold spl;simp only[Axz,Brz,Bsz,Coz];omega;simp only[lI,List.mem_filter,Bool.or_eq_true] at hp;rw[← hgs'] at hgc';have:=Fe (c:=c) (news:=[⟨vq,true,kq,Lq++cD gq⟩]) hge (by simp only[Coz];omega) (i:=p.1) (d:=p.2.1) (by simpa using hp.2);exact (hho p hp.1 gc' (by rw[← this];exact hgc')).adv (hadv _);rw[rG,ao rfl,gqq];trivial)
  (λi hi=>by
   rcases hi with rfl|rfl;rw[hblr];have hq:=hs.nodup q;rw[hbq] at hq;refine FW (M:=gc.L) (by simpa using hnr) hq λx hx=>?_;have h3:=hs.disj q i hqr x (by rw[hbq];exact hx);rw[hbr] at h3;simp only[Ciz,not_or] at h3 ⊢;exact⟨⟨h3.1,h3.2.1.1⟩,h3.2.2⟩;rw[gqq];exact Caz)
  (λi i' hi hi' hne b Y=>by
   rcases hi with rfl|rfl<;>rcases hi' with rfl|rfl;exact absurd rfl hne;rw[gqq];exact List.not_mem_nil;rw[gqq] at Y;cases Y;exact absurd rfl hne)
  (λi b hi Y=>by
   rcases hi with rfl|rfl;rcases hsub b Y with h|h;exact⟨(hs.own i b h).1,(hs.own i b h).2.1,.inr ⟨i,.inl rfl,h⟩⟩;exact⟨(hs.own q b h).1,(hs.own q b h).2.1,.inr ⟨q,.inr rfl,h⟩⟩;rw[gqq] at Y;cases Y)
 exact⟨F,g',U,λt=>K _ _ (hv t)⟩
theorem WT {m:Md}{xs:List D}:m=.fz->mD (xs.map (bT m)):=λhm e he c hc=>by
 subst hm;obtain⟨x,_,rfl⟩:=List.mem_map.1 he;obtain⟨d,_,rfl⟩:=List.mem_map.1 hc;cases d<;>rfl
theorem GH.same {r:Nat}{x y:aA}(hσ:ak σ r=x)(h:∀ (S1:Md->Nat->Prop) (w:World) (g:Nat->G) (z:G),gZ S1 w g x z->gZ S1 w g y z):GH S ρ σ ρ (aO σ r y):=by
 intro F g w ρc hs hv;refine⟨F,g,⟨hs.chg,hs.bB,hs.fmono,hs.fnew,hs.flt,λi=>?_,hs.low,hs.hdr,hs.nodup,hs.disj,hs.own⟩,hv⟩;rw[jC];by_cases hi:i=r;subst hi;rw[ao rfl];exact h _ _ _ _ (by rw[← hσ];exact hs.roots i);rw[an hi];exact hs.roots i
theorem DN {r k:Nat}{m:Md}{xs:List D}{es:List (List Cell)}(hσ:ak σ r=.row m k xs)(he:xs.map (bT m)=es):GH S ρ σ ρ (aO σ r (.deep m k es [])):=
 GH.same hσ λS1 w g z h=>by
  subst he;cases z<;>try exact h.elim
  exact⟨h,bp.nil,WT⟩
theorem Dx {r k:Nat}{m:Md}{es es' : List (List Cell)}{hh:List (Nat×Nat×Nat)}(hσ:ak σ r=.deep m k es hh)(he:es=es'):GH S ρ σ ρ (aO σ r (.deep m k es' hh)):=
 GH.same hσ λS1 w g z h=>by subst he;exact h
end
end Go.A
