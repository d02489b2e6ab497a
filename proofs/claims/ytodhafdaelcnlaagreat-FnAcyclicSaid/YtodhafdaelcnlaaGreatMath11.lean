/- What those partial functions come to: plain lemmas on data; each bears its conditions in its statement. -/
import Derived.Test.YtodhafdaelcnlaaGreatMath10
set_option linter.unusedVariables false
set_option linter.unusedSimpArgs false
set_option linter.ambiguousOpen false
set_option linter.unusedSectionVars false
set_option linter.unnecessarySimpa false
set_option maxRecDepth 100000
set_option maxHeartbeats 4000000
open List renaming append_assoc->Azz,nil_append->Edz,getD_eq_getElem?_getD->Cwz,getElem?_eq_getElem->Cmz,any_eq_false->Ejz
open Bool renaming false_ne_true->Evz
namespace Go.Proofs.YtodhafdaelcnlaaGreat
open Go Go.E
section
variable {g:ak}{N:List Node}
def F2:List Nat->List Nat->Prop
 | [],cs=>cs=[]
 | d::c,cs=>∃ n cs',cs=n::cs'/\d<n/\F2 c cs'
theorem DI:∀ (c cs dn dc:List Nat),dn∈cP dc->F2 c cs->dn++c∈cP (dc++cs)
 | [],cs,dn,dc,h,hf=>by
  have hf:cs=[]:=hf;subst hf;rw[List.append_nil,List.append_nil];exact h
 | d::c,cs,dn,dc,h,hf=>by
  obtain⟨n,cs',rfl,U,W⟩:=hf;have h3:dn++[d]∈cP (dc++[n]):=by
   rw[IX];exact List.mem_flatMap.2 ⟨dn,h,List.mem_map.2 ⟨d,List.mem_range.2 U,rfl⟩⟩
  have:=DI c cs' (dn++[d]) (dc++[n]) h3 W;rwa[Azz,Azz] at this
mutual
theorem Dn (h0:Sz.szd g<=1048576)(hS:Shape g){A:List (List au)}(hA:aX g A)(hc:(jt g A).2=false):∀ (T:Tr) (i:Nat) (p q:Int) (s:an),gK g N T i p q s->gE g T∈eH g A s
 | .node nm ks,i,p,q,s,h=>by
  obtain⟨x,r,hx,Z,e1,e2,e3,e4,e5,e6,e7,e8,en,hk⟩:=h;obtain⟨c,U,W⟩:=Dv h0 hS hA hc ks (i:Int) 1 (i+1) r.rt_ hk e6;have hrl:dh g nm=r:=by rw[← en];exact gv hS Z
  have hm:c∈cP (bC g r A):=by
   have:=DI c _ [] [] (by rw[Iy];simp) U;rwa[Edz,Edz] at this
  have:=Wo h0 hS hA hc Z hm;rw[e2] at this;rw[gE,hrl,← W];exact this
theorem Dv (h0:Sz.szd g<=1048576)(hS:Shape g){A:List (List au)}(hA:aX g A)(hc:(jt g A).2=false):∀ (ks:List Tr) (p:Int) (k b:Nat) (ss:List an),cZ g N ks p k b ss->ks.length=ss.length->∃ c:List Nat,F2 c (ss.map λn=>(eH g A n).length)/\((ss.zip c).map λp=>(eH g A p.1).getD p.2 H4)=eN g ks
 | [],p,k,b,ss,h,hl=>by
  have:ss=[]:=List.length_eq_zero_iff.1 hl.symm;subst this;exact⟨[],rfl,rfl⟩
 | t::ts,p,k,b,ss,h,hl=>by
  obtain⟨s,ss',rfl,U,W⟩:=h;have hm:=Dn h0 hS hA hc t b p (k:Int) s U;obtain⟨c,k1,k2⟩:=Dv h0 hS hA hc ts p (k+1) (b+t.sz) ss' W (by simpa using hl);obtain⟨d,hd,e⟩:=List.getElem_of_mem hm;refine⟨d::c,⟨_,_,rfl,hd,k1⟩,?_⟩;rw[List.zip_cons_cons,List.map_cons,k2,eN];congr 1;dsimp only;rw[Cwz,Cmz hd,e];rfl
end
theorem bG.mono {lo hi lo' hi' : Nat}{x y:a7}(h:bG g N lo hi x y)(U:lo'<=lo)(W:hi<=hi'):bG g N lo' hi' x y:=by
 induction h with
 | one a b c=>exact .one (by omega) (by omega) c
 | snoc _ a b c ih=>exact .snoc ih (by omega) (by omega) c
theorem Wh (h:fp g N){nm:an}{ks:List Tr}{u:Nat}{p q:Int}{s:an}(hT:gK g N (.node nm ks) u p q s){x y:a7}(hp:bG g N u (u+(Tr.node nm ks).sz) x y) :
  (∃ y1 y2,(x=y1∨bG g N u (u+(Tr.node nm ks).sz) x y1)/\oG g N u y1 y2/\(y2=y∨bG g N u (u+(Tr.node nm ks).sz) y2 y)) ∨
  (∃ (j:Nat) (t:Tr),ks[j]?=some t/\bG g N (u+1+Tr.szs (ks.take j)) (u+1+Tr.szs (ks.take j)+t.sz) x y):=by
 have hsz:(Tr.node nm ks).sz=1+Tr.szs ks:=by rw[Tr.sz]
 obtain⟨xn,r,hxn,Z,e1,e2,e3,e4,e5,e6,e7,e8,en,hk⟩:=id hT;have kid:∀ {w:Nat},u<=w->w<u+(Tr.node nm ks).sz->w≠u->∃ (j:Nat) (t:Tr),ks[j]?=some t/\u+1+Tr.szs (ks.take j)<=w/\w<u+1+Tr.szs (ks.take j)+t.sz:=λ{w} U W h3=>by
  obtain⟨j,t,k1,k2,k3⟩:=DK ks (w-(u+1)) (by omega);exact⟨j,t,k1,by omega,by omega⟩
 have kT:∀ {j:Nat} {t:Tr},ks[j]?=some t->∃ s',gK g N t (u+1+Tr.szs (ks.take j)) (u:Int) ((1+j:Nat):Int) s':=λ{j t} hj=>by
  have hlt:=(List.getElem?_eq_some_iff.1 hj).1;rw[e6] at hlt;exact⟨_,cZ.get hk hj (Cmz hlt)⟩
 induction hp with
 | @one w x y U W h3=>
  by_cases hw:w=u;subst hw;exact .inl ⟨x,y,.inl rfl,h3,.inl rfl⟩;obtain⟨j,t,k1,k2,k3⟩:=kid U W hw;exact .inr ⟨j,t,k1,.one k2 k3 h3⟩
 | @snoc w x y z hp U W h3 ih=>
  rcases ih with ⟨y1,y2,l1,l2,l3⟩|⟨j,t,k1,k2⟩
  refine .inl ⟨y1,y2,l1,l2,.inr ?_⟩;rcases l3 with l3|l3;subst l3;exact .one U W h3;exact .snoc l3 U W h3;by_cases hw:w=u;subst hw;exact .inl ⟨y,z,.inr hp,h3,.inl rfl⟩;obtain⟨j',t',m1,m2,m3⟩:=kid U W hw;obtain⟨s1,hT1⟩:=kT k1;obtain⟨s2,hT2⟩:=kT m1;obtain⟨v,v1,v2,v3⟩:=(sP h hT1 k2).2.1;obtain⟨xn',r',o',o,f1,f2,f3,f4,f5,f6,f7⟩:=id h3;obtain⟨v',w1,w2,w3,_⟩:=v7 h hT2 m2 m3 f1 f6;have hv:=v1.uniq h w1;subst hv;have hj:j=j':=Es (n:=v-(u+1)) k1 m1 (by omega) (by omega) (by omega) (by omega);subst hj;rw[k1] at m1;cases m1;exact .inr ⟨j,t,k1,.snoc k2 m2 m3 h3⟩
theorem Te {c:au}{k:Nat}(h:Rl c.Rows k k)(hi:cC c=c)(hv:aI c):ng c=true:=by
 have hp:=(D6 hv k k).2 h;unfold ng;refine decide_eq_true ⟨k,?_,by rw[hi];exact hp⟩;by_cases hk:k<c.Rows.length;exact hk;unfold Rl at h;rw[Cwz,List.getElem?_eq_none (by omega)] at h;simp at h
def NS (g:ak)(N:List Node)(T:Tr):Prop:=∀ (u:Nat) (p q:Int) (s:an),gK g N T u p q s->∀ x,¬ bG g N u (u+T.sz) x x
mutual
theorem Ic (h0:Sz.szd g<=1048576)(hS:Shape g)(h:fp g N){A:List (List au)}(hA:aX g A)(hc:(jt g A).2=false)(hn:∀ r∈g.rs_,gk g A r=false):∀ T:Tr,NS g N T
 | .node nm ks=>by
  have ih:=Iq h0 hS h hA hc hn ks;intro u p q s hT x hp;obtain⟨xn,r,hxn,Z,e1,e2,e3,e4,e5,e6,e7,e8,en,hk⟩:=id hT;rcases Wh h hT hp with ⟨y1,y2,l1,l2,l3⟩|⟨j,t,k1,k2⟩
  have hcyc:bG g N u (u+(Tr.node nm ks).sz) y1 y1:=by
   have U:bG g N u (u+(Tr.node nm ks).sz) y1 y2:=.one (Nat.le_refl _) (by have:=(Tr.node nm ks).pos;omega) l2;have W:bG g N u (u+(Tr.node nm ks).sz) y1 x:=by
    rcases l3 with l3|l3;rw[← l3];exact U;exact U.trans l3
   rcases l1 with l1|l1;rw[l1] at W;exact W;exact W.trans l1
  have hrl:dh g nm=r:=by rw[← en];exact gv hS Z
  obtain⟨xn',r',o',o,f1,f2,f3,f4,f5,f6,f7⟩:=id l2;rw[hxn] at f1;cases f1;have hrr:r'=r:=by rw[← gv hS f2,← f3,e1];exact gv hS Z
  subst hrr;obtain⟨b1,b2,a,b3,b4,b5⟩:=Ep hS f2 f4;obtain⟨i,hi⟩:=DJ b1 b2 b3 b4 (by rw[b5];split<;>simp);have hR:=Ir h0 hS h (.node nm ks) u p q s hT nm ks rfl i i o' o' y1 y1 (by rw[hrl];exact hi) (by rw[hrl];exact hi) f6 f6 hcyc;rw[hrl] at hR;have hl:=Te hR (VG g r' _) (Mu h0 Z _);obtain⟨c,U,W⟩:=Dv h0 hS hA hc ks (u:Int) 1 (u+1) r'.rt_ hk e6;have hm:c∈cP (bC g r' A):=by
   have:=DI c _ [] [] (by rw[Iy];simp) U;rwa[Edz,Edz] at this
  have hno:=hn r' Z;unfold gk at hno;rw[Ejz] at hno;refine hno c hm ?_;unfold lD fy;rw[W];exact hl;have hlt:=(List.getElem?_eq_some_iff.1 k1).1;rw[e6] at hlt;exact ih t (List.mem_of_getElem? k1) _ _ _ _ (cZ.get hk k1 (Cmz hlt)) x k2
theorem Iq (h0:Sz.szd g<=1048576)(hS:Shape g)(h:fp g N){A:List (List au)}(hA:aX g A)(hc:(jt g A).2=false)(hn:∀ r∈g.rs_,gk g A r=false):∀ (ks:List Tr) (t:Tr),t∈ks->NS g N t
 | [],t,hm=>nomatch hm
 | t0::ks,t,hm=>by
  rcases List.mem_cons.1 hm with e|e;rw[e];exact Ic h0 hS h hA hc hn t0;exact Iq h0 hS h hA hc hn ks t e
end
end
theorem Uz {g:ak}(h0:Sz.szd g<=1048576)(N:List Node):∃ s,kY g ⟨N⟩ 0=some s:=by
 unfold kY;dsimp only;rw[fQ,aj];by_cases hc:(0:Int)<=0/\(0:Int)<=(N.length:Int)-1;rw[ao (decide_eq_true hc),aD (Int.le_refl _),Int.toNat_zero,Cmz (by omega:0<N.length),aj];obtain⟨r,b,e,_⟩:=wY h0 N[0].aa;rw[e];exact⟨_,rfl⟩;rw[al (by rw[decide_eq_false hc];decide)];exact⟨_,rfl⟩
theorem Uy {g:ak}(h0:Sz.szd g<=1048576)(hg:nh g=true)(hc:pz g=some false){N:List Node}(hN:N.length<=100000):rr g ⟨N⟩=some []:=by
 have hS:=FC hg;obtain⟨s,hs⟩:=Uz h0 N;obtain⟨bt,ht,Y⟩:=Wi h0 hN s;cases bt with
 | false=>
  have:pA g ⟨N⟩=some []:=by
   unfold pA ru;rw[hs,aj,ht,aj,al Evz];rfl
  unfold rr;rw[this];rfl
 | true=>
  obtain⟨n1,n2,n3,T,hT,hz⟩:=Y rfl;have h:=fp.of hS n1 n2 n3 hT hz;obtain⟨tb,e,hTb⟩:=UC h0 hS h hs ht;obtain⟨l,e2,e3⟩:=Uc hTb.ok;unfold rr;rw[e,aj,e2,aj];obtain⟨F,f1,f2,f3⟩:=E8 h0 hS;have hcl:=Wp h0 hS f3 f2;have hn:∀ r∈g.rs_,gk g (aY F) r=false:=by
   rw[UA h0 hg f1] at hc;have:=Option.some.inj hc;rw[Ejz] at this;intro r Z;cases hh:gk g (aY F) r with
   | false=>rfl
   | true=>exact absurd hh (this r Z)
  by_cases hl:0<l.length;obtain⟨k,hk⟩:=e3.1 hl;obtain⟨x,y,hx,hy,hp⟩:=Tf h (λv U W=>vN T 0 (-1) 0 s hT v U (by omega)) (λx hx=>by
   obtain⟨y,r,q1,q2,q3,q4,q5,q6⟩:=hT.head;rw[hx] at q1;cases q1;exact q5) hTb hk
  rw[hx] at hy;cases hy;exact absurd (by rw[Nat.zero_add,hz];exact hp) (Ic h0 hS h f3 hcl hn T 0 (-1) 0 s hT x);have:l=[]:=List.length_eq_zero_iff.1 (by omega);rw[this]
theorem XX (a:List UInt8):xU a=some true:=by
 unfold xU Ae;rw[aj];by_cases Y:1048576<(a.length:Int);rw[ao (by simpa using Y)];rw[al (by simpa using Y)];have Y:a.length<=1048576:=by omega
 obtain⟨⟨g,t⟩,e,hg,ht⟩:=VI Y;dsimp only at hg ht;have hG:=Hj hg;obtain⟨b,U,W⟩:=Gt hG;rw[e,aj];dsimp only;rw[W,aj,U,aj,ao rfl];cases b with
 | true=>rw[ao rfl]
 | false=>
  rw[al Evz];have hw:wv g=some (nh g):=by unfold wv;rw[JZ hG];rfl
  rw[hw,aj];cases hgb:nh g with
  | false=>rw[al Evz]
  | true=>
   obtain⟨N⟩:=t;rw[ao rfl,Uy hG hgb U (by dsimp only at ht;omega)];rfl
end Go.Proofs.YtodhafdaelcnlaaGreat
