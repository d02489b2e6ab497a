/- Abstract states of a walk: plain lemmas on the model, without conditions of their own. -/
import Derived.Test.YtnhofaohogianaaGreatEng6
set_option linter.unusedVariables false
set_option linter.unusedSimpArgs false
set_option linter.ambiguousOpen false
set_option linter.unusedSectionVars false
set_option linter.unnecessarySimpa false
open Nat renaming lt_of_lt_of_le→Bcz
namespace Go.A
open Go Go.E
section
variable {α:Type}{enc:α→List Value}{DD:α→D}{k:Nat}
theorem k0i {S1:Nat→Prop}{w:World}(he:∀ {S1:Nat→Prop} {w:World} {x:α} {c:List Value},rd1 S1 w (DD x) c→c=enc x):∀ {xs:List α} {cs:List Value},rdE S1 w k (xs.map DD) cs→cs=xs.flatMap enc∧∀ x∈xs,∃ (S2:Nat→Prop) (w2:World),rd1 S2 w2 (DD x) (enc x)
 | [],_,h=>by rw[List.map_nil,rdE] at h;subst h;exact⟨rfl,by simp⟩
 | x::xs,_,h=>by
  rw[List.map_cons] at h
  obtain⟨c,r,rfl,hl,h3,h4⟩:=q6k.1 h
  obtain⟨h5,h6⟩:=k0i he h4
  have e:=he h3
  subst e
  refine⟨by rw[h5];rfl,fun y hy=>?_⟩
  rcases List.mem_cons.1 hy with rfl|hy
  ·exact⟨_,_,h3⟩
  ·exact h6 y hy
theorem k0j {S1:Nat→Prop}{w:World}(hk:∀ x,(enc x).length=k)(hf:∀ {S1 S2:Nat→Prop} {w w2:World} {x:α} {c:List Value},rd1 S1 w (DD x) c→rd1 S2 w2 (DD x) c):∀ {xs:List α},(∀ x∈xs,∃ (S2:Nat→Prop) (w2:World),rd1 S2 w2 (DD x) (enc x))→rdE S1 w k (xs.map DD) (xs.flatMap enc)
 | [],_=>by rw[List.map_nil,rdE];rfl
 | x::xs,h=>by
  obtain⟨S2,w2,h1⟩:=h x (by simp)
  rw[List.map_cons]
  exact q6k.2 ⟨enc x,_,rfl,hk x,hf h1,k0j hk hf fun y hy=>h y (by simp[hy])⟩
theorem sortOk {P:Program}{f cf:Nat}[Inhabited α]{m:Md}{srt:List α→List α}(he:∀ {S1:Nat→Prop} {w:World} {x:α} {c:List Value},rd1 S1 w (DD x) c→c=enc x)(hf:∀ {S1 S2:Nat→Prop} {w w2:World} {x:α} {c:List Value},rd1 S1 w (DD x) c→rd1 S2 w2 (DD x) c)(hk:∀ x,(enc x).length=k)
  (hlen:∀ l,(srt l).length=l.length) (hmem:∀ l y,y∈srt l→y∈l)
  (hnone:∀ (A:Option Addr) (c:Nat) (w:World),Calls P f #[.slice A 0 c,.func (.func cf) #[] #[]] w fun e w'=>e=.returned (.tuple #[])∧w'=w)
  (hsort:∀ (g cap:Nat) (d:Array α) (w:World),Sort.HoldsK enc k w g 0 d→g<w.heap.size→d.size<4611686018427387904→Calls P f #[.slice (some ⟨g,0,none⟩) d.size cap,.func (.func cf) #[] #[]] w fun e w'=>e=.returned (.tuple #[])∧∃ n os,w'=Sort.grow (Sort.putRowK enc k (Sort.ahead w n) g 0 (srt d.toList).toArray) os)
  {xs:List α} (hbig:xs.length<4611686018427387904):Ok P f [.ref 0 none,.fn cf []] [.row m k (xs.map DD)] (.tu []) [.row m k ((srt xs).map DD)]:=by
 intro F B g w vs hs hv
 have hroot:=hs.roots 0
 simp only[vrs] at hv
 obtain⟨v,r,rfl,hv1,v2,r2,rfl,hv2,rfl⟩:=hv
 rw[vr] at hv2
 obtain⟨ws,rfl,hws⟩:=hv2
 rw[vrs] at hws
 subst hws
 rw[vr] at hv1
 cases hg:g 0<;>rw[hg] at hroot hv1<;>try exact hroot.elim
 rename_i u k' L gs
 obtain⟨rfl,hrow⟩:=hroot
 obtain rfl:v=u:=hv1 _ _ rfl
 obtain⟨hown,hrd,hgbl,hno⟩:=q6t hrow
 rw[lnM] at hown
 have hvr:vr (SM F B) w g (.tu []) (.tuple #[]):=by rw[vr];exact⟨[],rfl,by rw[vrs]⟩
 by_cases h0:xs=[]
 ·subst h0
  have es:srt []=[]:=List.length_eq_zero_iff.1 (by rw[hlen];rfl)
  obtain⟨A,c,rfl,_⟩:=hown.form
  refine (hnone A c w).mono fun e w' ⟨h1,h2⟩=>⟨_,h1,by rw[h2];exact Chg.refl _,F,g,by rw[h2,es];exact hs,by rw[h2];exact hvr⟩
 ·have hpos:0<xs.length:=List.length_pos_iff.2 h0
  have hlt:xs.length≠0:=by omega
  obtain⟨hcs,hrds⟩:=k0i he hrd
  obtain⟨e,hO,hLv⟩:=hown
  rcases hO.2 with ⟨hv0,h00⟩|⟨b,cap,cur,rfl,hbase,hgb,hn,hcm,hsz,htk⟩
  ·exact absurd h00 hlt
  have hLb:L=[b]:=by rw[hLv];simp[Value.ownBlock]
  have hB:Blk w b e cur.toList:=by simpa[Blk] using hgb
  have hflat:(Sort.flatK enc k' xs.toArray).toList=q5k gs:=by rw[j2C hk,hcs]
  have hfit:xs.length*k'≤cur.size:=by rw[hsz];exact Nat.mul_le_mul_right _ hn
  have hH:Sort.HoldsK enc k' w b 0 xs.toArray:=fun j hj=>by
   have hjc:(q5k gs)[j]?=some (Sort.flatK enc k' xs.toArray)[j]!:=by
    rw[← hflat,Array.getElem?_toList,Array.getElem?_eq_getElem hj,getElem!_pos _ j hj]
   have hcj:cur[0+j]?=some (Sort.flatK enc k' xs.toArray)[j]!:=by
    rw[Nat.zero_add]
    rw[← htk,List.getElem?_take] at hjc
    split at hjc
    ·simpa using hjc
    ·cases hjc
   refine⟨?_,?_⟩
   ·rw[cell_of_row w b (0+j) cur e (0,0) hgb];exact hcj
   ·unfold World.frozen?;rw[hgb];simp
  refine (hsort b cap xs.toArray w hH hB.lt (by simpa using hbig)).mono fun ex w' ⟨h1,n,os,hw'⟩=>?_
  have hsy:(Sort.flatK enc k' (srt xs).toArray).size=xs.length*k':=by simp[hlen]
  have hB1:Blk (Sort.ahead w n) b e cur.toList:=hB.ext (j4R w n)
  have hB2:=j8D (F:=Sort.flatK enc k' (srt xs).toArray) hB1 (by rw[hsy];simpa using hfit)
  have hc1:Chg (· = b) w (Sort.putRow id (Sort.ahead w n) b 0 (Sort.flatK enc k' (srt xs).toArray)):=Chg.trans (.of_ext (j4R w n)) j8E
  have hc2:Chg (· = b) w w':=by rw[hw'];exact k2C hc1
  have hB3:Blk w' b e (q4X cur.toList 0 (Sort.flatK enc k' (srt xs).toArray).toList):=by rw[hw'];exact hB2.ext (Gr.ext ⟨0,os,rfl⟩)
  rw[j2C hk] at hB3
  have hcl:(q5k gs).length=xs.length*k':=hO.1
  have hyl:((srt xs).flatMap enc).length=xs.length*k':=by rw[z3s hk,hlen]
  have hown' : Own w' 0 e k' (.slice (some ⟨b,0,none⟩) xs.length cap) xs.length ((srt xs).flatMap enc):=by
   have:=hO.st (w':=w') rfl hB (off:=0) (l:=(srt xs).flatMap enc) (by rw[hyl];omega) hB3
   have hsp:q4X (q5k gs) 0 ((srt xs).flatMap enc)=(srt xs).flatMap enc:=by
    unfold q4X;rw[List.drop_eq_nil_of_le (by rw[hyl,hcl];omega)];simp
   rw[hsp] at this
   exact this
  have hrd' : rdE (SM F B m) w' k' ((srt xs).map DD) ((srt xs).flatMap enc):=k0j hk hf fun x hx=>hrds x (hmem xs x hx)
  obtain⟨gs',q1,q2,q3⟩:=j5X (S1:=SM F B) hrd'
  have hbl0:bl (g 0)=[b]:=by rw[hg];simp[bl,hLb,hgbl]
  let g' : Nat→G:=fun i=>if i=0 then .row (.slice (some ⟨b,0,none⟩) xs.length cap) k' L gs' else g i
  have hg0:g' 0=.row (.slice (some ⟨b,0,none⟩) xs.length cap) k' L gs':=by simp[g']
  have hbl' : bl (g' 0)=[b]:=by rw[hg0];simp[bl,hLb,q3]
  obtain⟨k1,k2⟩:=hs.step (M:=(· = b)) (F':=F) (g':=g') (σ':=fnOf [.row m k' ((srt xs).map DD)]) (· = 0) hc2 (fun c hc _=>⟨0,rfl,by rw[hbl0];simp[hc]⟩)
   (fun r hr=>⟨by simp[g',hr],by cases r with|zero=>exact absurd rfl hr|succ r=>simp only[fnOf]⟩) (fun r hr=>by subst hr;rw[hg,hg0];exact .inr ⟨L,gs',rfl⟩) (fun _ h=>h)
   (fun c hc=>⟨Bcz (hs.flt c hc) hc2.size,.inl hc⟩)
   (fun hkp _ r hr=>by
    subst hr
    rw[hg0]
    exact⟨rfl,by rw[lnM,lnM,hlen,q2];exact⟨e,hown',hLv⟩,q1⟩)
   (fun r hr=>by subst hr;rw[hbl'];simp) (fun i j hi hj hij=>absurd (hi.trans hj.symm) hij)
   (fun r c hr hc=>by
    subst hr
    rw[hbl'] at hc
    have hc0:c∈bl (g 0):=by rw[hbl0];exact hc
    obtain⟨a1,a2,_⟩:=hs.own 0 c hc0
    exact⟨Bcz a1 hc2.size,a2,.inr ⟨0,rfl,hc0⟩⟩)
  exact⟨_,h1,hc2.mono fun q _ e=>⟨0,by rw[hbl0];simp[e]⟩,F,g',k1,k2 _ _ hvr⟩
end
end Go.A
