/- Abstract states of a walk: plain lemmas on the model, without conditions of their own. -/
import Derived.Test.YtodhafdaelcnlaaGreatEng6
set_option linter.unusedVariables false
set_option linter.unusedSimpArgs false
set_option linter.ambiguousOpen false
set_option linter.unusedSectionVars false
set_option linter.unnecessarySimpa false
open Nat renaming lt_of_lt_of_le->Bfz
namespace Go.A
open Go Go.E
section
variable {α:Type}{enc:α->List Value}{DD:α->D}{k:Nat}
theorem JO {S1:Nat->Prop}{w:World}(he:∀ {S1:Nat->Prop} {w:World} {x:α} {c:List Value},rd1 S1 w (DD x) c->c=enc x):∀ {xs:List α} {cs:List Value},bg S1 w k (xs.map DD) cs->cs=xs.flatMap enc/\∀ x∈xs,∃ (S2:Nat->Prop) (w2:World),rd1 S2 w2 (DD x) (enc x)
 | [],_,h=>by rw[List.map_nil,bg] at h;subst h;exact⟨rfl,by simp⟩
 | x::xs,_,h=>by
  rw[List.map_cons] at h;obtain⟨c,r,rfl,hl,h3,h4⟩:=gF.1 h;obtain⟨h5,h6⟩:=JO he h4;have e:=he h3;subst e;refine⟨by rw[h5];rfl,λy hy=>?_⟩;rcases List.mem_cons.1 hy with rfl|hy;exact⟨_,_,h3⟩;exact h6 y hy
theorem JN {S1:Nat->Prop}{w:World}(hk:∀ x,(enc x).length=k)(hf:∀ {S1 S2:Nat->Prop} {w w2:World} {x:α} {c:List Value},rd1 S1 w (DD x) c->rd1 S2 w2 (DD x) c):∀ {xs:List α},(∀ x∈xs,∃ (S2:Nat->Prop) (w2:World),rd1 S2 w2 (DD x) (enc x))->bg S1 w k (xs.map DD) (xs.flatMap enc)
 | [],_=>by rw[List.map_nil,bg];rfl
 | x::xs,h=>by
  obtain⟨S2,w2,U⟩:=h x (by simp);rw[List.map_cons];exact gF.2 ⟨enc x,_,rfl,hk x,hf U,JN hk hf λy hy=>h y (by simp[hy])⟩
theorem sortOk {P:Program}{f cf:Nat}[Inhabited α]{m:Md}{srt:List α->List α}(he:∀ {S1:Nat->Prop} {w:World} {x:α} {c:List Value},rd1 S1 w (DD x) c->c=enc x)(hf:∀ {S1 S2:Nat->Prop} {w w2:World} {x:α} {c:List Value},rd1 S1 w (DD x) c->rd1 S2 w2 (DD x) c)(hk:∀ x,(enc x).length=k)
  (hlen:∀ l,(srt l).length=l.length) (hmem:∀ l y,y∈srt l->y∈l)
  (hnone:∀ (A:Option Addr) (c:Nat) (w:World),Calls P f #[.slice A 0 c,.func (.func cf) #[] #[]] w λe w'=>e=.returned (.tuple #[])/\w'=w)
  (hsort:∀ (g cap:Nat) (d:Array α) (w:World),Sort.HoldsK enc k w g 0 d->g<w.heap.size->d.size<4611686018427387904->Calls P f #[.slice (some ⟨g,0,none⟩) d.size cap,.func (.func cf) #[] #[]] w λe w'=>e=.returned (.tuple #[])/\∃ n os,w'=Sort.grow (Sort.putRowK enc k (Sort.ahead w n) g 0 (srt d.toList).toArray) os)
  {xs:List α} (hbig:xs.length<4611686018427387904):Ok P f [.ref 0 none,.fn cf []] [.row m k (xs.map DD)] (.tu []) [.row m k ((srt xs).map DD)]:=by
 intro F B g w vs hs hv;have hroot:=hs.roots 0;simp only[aQ] at hv;obtain⟨v,r,rfl,hv1,v2,r2,rfl,hv2,rfl⟩:=hv;rw[vr] at hv2;obtain⟨ws,rfl,hws⟩:=hv2;rw[aQ] at hws;subst hws;rw[vr] at hv1;cases hg:g 0<;>rw[hg] at hroot hv1<;>try exact hroot.elim
 rename_i u k' L gs;obtain⟨rfl,hrow⟩:=hroot;obtain rfl:v=u:=hv1 _ _ rfl;obtain⟨hown,hrd,hgbl,hno⟩:=kS hrow;rw[bn] at hown;have hvr:vr (SM F B) w g (.tu []) (.tuple #[]):=by rw[vr];exact⟨[],rfl,by rw[aQ]⟩
 by_cases h0:xs=[];subst h0;have es:srt []=[]:=List.length_eq_zero_iff.1 (by rw[hlen];rfl);obtain⟨A,c,rfl,_⟩:=hown.form;refine (hnone A c w).mono λe w' ⟨U,W⟩=>⟨_,U,by rw[W];exact cF.refl _,F,g,by rw[W,es];exact hs,by rw[W];exact hvr⟩
 have hpos:0<xs.length:=List.length_pos_iff.2 h0;have hlt:xs.length≠0:=by omega
 obtain⟨hcs,hrds⟩:=JO he hrd;obtain⟨e,hO,hLv⟩:=hown;rcases hO.2 with ⟨hv0,h00⟩|⟨b,cap,cur,rfl,hbase,hgb,hn,hcm,hsz,htk⟩
 exact absurd h00 hlt;have hLb:L=[b]:=by rw[hLv];simp[Value.ownBlock]
 have hB:dE w b e cur.toList:=by simpa[dE] using hgb
 have hflat:(Sort.flatK enc k' xs.toArray).toList=bW gs:=by rw[MI hk,hcs]
 have hfit:xs.length*k'<=cur.size:=by rw[hsz];exact Nat.mul_le_mul_right _ hn
 have hH:Sort.HoldsK enc k' w b 0 xs.toArray:=λj hj=>by
  have hjc:(bW gs)[j]?=some (Sort.flatK enc k' xs.toArray)[j]!:=by
   rw[← hflat,Array.getElem?_toList,Array.getElem?_eq_getElem hj,getElem!_pos _ j hj]
  have hcj:cur[0+j]?=some (Sort.flatK enc k' xs.toArray)[j]!:=by
   rw[Nat.zero_add];rw[← htk,List.getElem?_take] at hjc;split at hjc;simpa using hjc;cases hjc
  refine⟨?_,?_⟩;rw[cell_of_row w b (0+j) cur e (0,0) hgb];exact hcj;unfold World.frozen?;rw[hgb];simp
 refine (hsort b cap xs.toArray w hH hB.lt (by simpa using hbig)).mono λex w' ⟨U,n,os,hw'⟩=>?_;have hsy:(Sort.flatK enc k' (srt xs).toArray).size=xs.length*k':=by simp[hlen]
 have hB1:dE (Sort.ahead w n) b e cur.toList:=hB.ext (LO w n);have hB2:=WY (F:=Sort.flatK enc k' (srt xs).toArray) hB1 (by rw[hsy];simpa using hfit);have hc1:cF (· = b) w (Sort.putRow id (Sort.ahead w n) b 0 (Sort.flatK enc k' (srt xs).toArray)):=cF.trans (.of_ext (LO w n)) WX;have hc2:cF (· = b) w w':=by rw[hw'];exact UO hc1
 have hB3:dE w' b e (cH cur.toList 0 (Sort.flatK enc k' (srt xs).toArray).toList):=by rw[hw'];exact hB2.ext (Gr.ext ⟨0,os,rfl⟩)
 rw[MI hk] at hB3;have hcl:(bW gs).length=xs.length*k':=hO.1;have hyl:((srt xs).flatMap enc).length=xs.length*k':=by rw[BZ hk,hlen]
 have hown' : Own w' 0 e k' (.slice (some ⟨b,0,none⟩) xs.length cap) xs.length ((srt xs).flatMap enc):=by
  have:=hO.st (w':=w') rfl hB (off:=0) (l:=(srt xs).flatMap enc) (by rw[hyl];omega) hB3;have hsp:cH (bW gs) 0 ((srt xs).flatMap enc)=(srt xs).flatMap enc:=by
   unfold cH;rw[List.drop_eq_nil_of_le (by rw[hyl,hcl];omega)];simp
  rw[hsp] at this;exact this
 have hrd' : bg (SM F B m) w' k' ((srt xs).map DD) ((srt xs).flatMap enc):=JN hk hf λx hx=>hrds x (hmem xs x hx);obtain⟨gs',q1,q2,q3⟩:=p9 (S1:=SM F B) hrd';have hbl0:bl (g 0)=[b]:=by rw[hg];simp[bl,hLb,hgbl]
 let g' : Nat->G:=λi=>if i=0 then .row (.slice (some ⟨b,0,none⟩) xs.length cap) k' L gs' else g i
 have hg0:g' 0=.row (.slice (some ⟨b,0,none⟩) xs.length cap) k' L gs':=by simp[g']
 have hbl' : bl (g' 0)=[b]:=by rw[hg0];simp[bl,hLb,q3]
 obtain⟨k1,k2⟩:=hs.step (M:=(· = b)) (F':=F) (g':=g') (σ':=ai [.row m k' ((srt xs).map DD)]) (· = 0) hc2 (λc hc _=>⟨0,rfl,by rw[hbl0];simp[hc]⟩)
  (λr Z=>⟨by simp[g',Z],by cases r with|zero=>exact absurd rfl Z|succ r=>simp only[ai]⟩) (λr Z=>by subst Z;rw[hg,hg0];exact .inr ⟨L,gs',rfl⟩) (λ_ h=>h)
  (λc hc=>⟨Bfz (hs.flt c hc) hc2.size,.inl hc⟩)
  (λhkp _ r Z=>by
   subst Z;rw[hg0];exact⟨rfl,by rw[bn,bn,hlen,q2];exact⟨e,hown',hLv⟩,q1⟩)
  (λr Z=>by subst Z;rw[hbl'];simp) (λi j hi hj hij=>absurd (hi.trans hj.symm) hij)
  (λr c Z hc=>by
   subst Z;rw[hbl'] at hc;have hc0:c∈bl (g 0):=by rw[hbl0];exact hc
   obtain⟨K,a2,_⟩:=hs.own 0 c hc0;exact⟨Bfz K hc2.size,a2,.inr ⟨0,rfl,hc0⟩⟩)
 exact⟨_,U,hc2.mono λq _ e=>⟨0,by rw[hbl0];simp[e]⟩,F,g',k1,k2 _ _ hvr⟩
end
end Go.A
