/- What those partial functions come to: plain lemmas on data; each bears its conditions in its statement. -/
import Derived.Test.YtodhafdaelcnlaaGreatMath11
set_option linter.unusedVariables false
set_option linter.unusedSimpArgs false
set_option linter.ambiguousOpen false
set_option linter.unusedSectionVars false
set_option linter.unnecessarySimpa false
set_option maxRecDepth 100000
set_option maxHeartbeats 4000000
open Nat renaming add_zero->Cxz,zero_add->Adz
open List renaming mem_of_getElem?->Bvz,getElem?_map->Czz,getElem?_eq_getElem->Cmz
open Bool renaming false_ne_true->Fqz
namespace Go.Proofs.YtodhafdaelcnlaaGreat
open Go Go.E
theorem JB {g:al}{F:List (List aB)}{w:Nat}{fs:List aB}(hF:F[w]?=some fs)(x:au)(T:aB->az×Bool)(hT:∀ f∈fs,∃ y z,oC g (dp F) f.rule.Name f.children=some y/\ny y=some ((T f).1,(T f).2,z)) :
  ∀ (gs:List aB) (k:Nat),(∀ (j:Nat) f,gs[j]?=some f->fs[k+j]?=some f) ->
   (∃ (j:Nat) (f:aB),fs[j]?=some f/\findL (kE x) k gs ()=some (.inr (j:Int))/\findL (qk g x (w:Int) (dp F)) k (gs.map aB.sy_) ()=some (.inr (T f))) ∨
   (findL (kE x) k gs ()=some (.inl ())/\findL (qk g x (w:Int) (dp F)) k (gs.map aB.sy_) ()=some (.inl ()))
 | [],k,_=>.inr ⟨rfl,rfl⟩
 | f::gs,k,h=>by
  have hk:=h 0 f rfl;rw[Cxz] at hk;rw[List.map_cons,findL,findL];by_cases e:f.sy_=x;left;refine⟨k,f,hk,?_,?_⟩;rw[show kE x k f ()=some (.inr (k:Int)) by
   unfold kE qt;rw[wN,aj,aj,decide_eq_true e,ao rfl]]
  rfl;obtain⟨y,z,b1,b2⟩:=hT f (Bvz hk);have hrc:(dp F)[w]?=some ⟨fs.map λf=>f.rule.Name,fs.map aB.children⟩:=by rw[Es,hF];rfl
  rw[show qk g x (w:Int) (dp F) k f.sy_ ()=some (.inr (T f)) by
   unfold qk;rw[AU,aj,decide_eq_true e,ao rfl,aF (by omega),b7,hrc,aj];dsimp only;rw[Czz,hk,Option.map_some,aj,Czz,hk,Option.map_some,aj,b1,aj,b2,aj]]
  rfl;rw[show kE x k f ()=some (.inl ()) by
    unfold kE qt;rw[wN,aj,aj,decide_eq_false e,an Fqz],aj,
   show qk g x (w:Int) (dp F) k f.sy_ ()=some (.inl ()) by
    unfold qk;rw[AU,aj,decide_eq_false e,an Fqz],aj]
  exact JB hF x T hT gs (k+1) λj y hy=>by rw[show k+1+j=k+(j+1) by omega];exact h (j+1) y hy
theorem LZ {g:al}(h0:Sz.szd g<=1048576)(s:ar)(x:au):∃ R,nw g s x=some R/\lx g s x=some R/\As R:=by
 unfold nw lx;rw[E0 h0,KM h0,oR,py];simp only[aj];cases hg:mu g with
 | false=>exact⟨_,rfl,rfl,D7 _⟩
 | true=>
  have hS:=tZ hg;rw[ao rfl,ao rfl];cases ha:fS g s with
  | none=>
   have e:eh g s = -1:=by unfold eh;rw[ha]
   rw[e,ao (by omega),ao (by omega)];exact⟨_,rfl,rfl,D7 _⟩
  | some w=>
   have e:eh g s=(w:Int):=by unfold eh;rw[ha]
   obtain⟨F,f1,f2,f3,f4⟩:=XL h0 hS;have hwl:w<g.ss_.length:=by
    unfold fS at ha;exact (List.findIdx?_eq_some_iff_getElem.1 ha).1
   have hFl:F.length=g.ss_.length:=by
    have:=f3.1;unfold aN at this;rwa[bh] at this
   obtain⟨fs,hF⟩:∃ fs,F[w]?=some fs:=⟨_,Cmz (by omega)⟩
   have Y:=f3.bound hS;have hs:=hS.syms.2;have hall:∀ f∈fs,∃ R:az×Bool,(kQ g F f=some R/\As R)/\∃ y z,oC g (dp F) f.rule.Name f.children=some y/\ny y=some (R.1,R.2,z):=λf hf=>by
    obtain⟨o1,o2,t,o3⟩:=f4 fs (Bvz hF) f hf;obtain⟨R,y,z,U,K,h3,h4⟩:=V2 h0 hS f3 f4 (n:=eB (aN F)) (by omega) o1 o2 o3;exact⟨R,⟨U,h4⟩,y,z,K,h3⟩
   let T:aB->az×Bool:=λf=>(kQ g F f).getD (⟨[]⟩,false);have hT:∀ f∈fs,kQ g F f=some (T f)/\As (T f)/\∃ y z,oC g (dp F) f.rule.Name f.children=some y/\ny y=some ((T f).1,(T f).2,z):=λf hf=>by
    obtain⟨R,⟨U,K⟩,h3⟩:=hall f hf;have:T f=R:=by show (kQ g F f).getD _=R;rw[U];rfl
    rw[this];exact⟨U,K,h3⟩
   have hsm:(aN F)[w]?=some (fs.map aB.sy_):=by rw[kt,hF];rfl
   rw[e,an (by omega),an (by omega),f1,f2,aj,aj];dsimp only;rw[aF (by omega),aF (by omega),b7,hF,hsm,aj,aj];unfold v8;rcases JB hF x T (λf hf=>(hT f hf).2.2) fs 0 (λj f h=>by rw[Adz];exact h) with ⟨j,f,hj,i1,i2⟩|⟨i1,i2⟩
   obtain⟨t1,t2,_⟩:=hT f (Bvz hj);rw[i1,i2,aj,aj];refine⟨T f,rfl,?_,t2⟩;show ((some (j:Int)).bind λy4=>_)=_;rw[aj,an (by omega),aF (by omega),b7,hj,aj,t1];rfl;rw[i1,i2];exact⟨_,rfl,rfl,D7 _⟩
theorem GB.gc2 {g:al}(h:GB g):mJ g:=⟨h.1,h.2.1,h.2.2.1,λr Z=>by obtain⟨a,c,d⟩:=h.2.2.2 r Z;exact⟨a,by omega,d⟩⟩
theorem Wg {b:List UInt8}(Y:b.length<=1048576):Ok mJ (vK b):=by
 unfold vK;obtain⟨z,hz,hz1,hz2⟩:=I8 Y;obtain⟨zb,zi,zh⟩:=z;dsimp only at hz1 hz2;subst hz2;refine .eq hz ?_;refine bU (ir Y _ (cb hz1)) λy i1 U _ hi1=>.ite (λ_=>?_) λ_=>?_;exact bU (WA Y hi1) λg i2 K hg hi2=>.ret hg;exact bU (LR Y true hi1) λg i2 K hg hi2=>.ret (GB.gc2 hg)
theorem We (l:List Int):pJ l l=some true:=by
 unfold pJ;rw[ao rfl];have key:∀ (xs:List Int) (k:Nat),(∀ (j:Nat) x,xs[j]?=some x->l[k+j]?=some x)->findL (BB l) k xs ()=some (.inl ()):=by
  intro xs
  induction xs with
  | nil=>intro k _;rfl
  | cons x xs ih=>
   intro k hx;have h:=hx 0 x rfl;rw[Cxz] at h;rw[findL];unfold BB;rw[h,aj,ao rfl,aj];exact ih (k+1) λj y hj=>by rw[show k+1+j=k+(j+1) by omega];exact hx (j+1) y (by simpa using hj)
 rw[key l 0 λj x hj=>by rw[Adz];exact hj];rfl
theorem LY (t:az):uG t t=some true:=by
 unfold uG xJ;rw[ao rfl];have key:∀ (xs:List Node) (k:Nat),(∀ (j:Nat) x,xs[j]?=some x->t.ns_[k+j]?=some x)->findL (BS t true) k xs ()=some (.inl ()):=by
  intro xs
  induction xs with
  | nil=>intro k _;rfl
  | cons x xs ih=>
   intro k hx;have h:=hx 0 x rfl;rw[Cxz] at h;rw[findL];unfold BS;rw[h,aj];simp only[if_true,decide_true,Bool.not_true,aj,Bool.false_eq_true,if_false,We];exact ih (k+1) λj y hj=>by rw[show k+1+j=k+(j+1) by omega];exact hx (j+1) y (by simpa using hj)
 rw[key t.ns_ 0 λj x hj=>by rw[Adz];exact hj];rfl
theorem TP {g:al}{s:ar}{w:Nat}(h:fS g s=some w):(bM g s).2=true/\bc g s=w:=by
 refine⟨?_,by unfold bc;rw[h];rfl⟩;unfold fS at h;obtain⟨U,K,_⟩:=List.findIdx?_eq_some_iff_getElem.1 h;unfold bM;cases hf:g.ss_.find? (λy=>decide (y.Name=s)) with
 | none=>
  rw[List.find?_eq_none] at hf;exact absurd K (hf _ (List.getElem_mem U))
 | some y=>rfl
theorem Wd {g:al}(h0:Sz.szd g<=1048576)(hg:mu g=true)(s:ar)(x:au) :
  (nw g s x=some (⟨[]⟩,false)/\lx g s x=some (⟨[]⟩,false)) ∨
   ∃ (F:List (List aB)) (f:aB) (t:Tr) (n:Nat),aM g (aN F)/\fM g F/\dG g F/\(∃ l∈F,f∈l)/\f.rule∈g.rs_/\f.sy_=x/\f.rule.Left=s/\fi g F n f=some t/\t.sz<=16/\nw g s x=some (⟨bD cH t (-1) 0 0⟩,true)/\lx g s x=some (⟨bD cH t (-1) 0 0⟩,true):=by
 obtain⟨R,e1,e2,_⟩:=LZ h0 s x;have hS:=tZ hg;have e3:=e2;unfold lx at e3;rw[py,aj,E0 h0,aj,hg,ao rfl] at e3;cases ha:fS g s with
 | none=>
  have e:eh g s = -1:=by unfold eh;rw[ha]
  rw[e,ao (by omega)] at e3;cases e3;exact .inl ⟨e1,e2⟩
 | some w=>
  have e:eh g s=(w:Int):=by unfold eh;rw[ha]
  obtain⟨k1,k2⟩:=TP ha;obtain⟨F,f1,f2,f3,f4,f5⟩:=Nk h0 hS;have hwl:w<g.ss_.length:=by
   unfold fS at ha;exact (List.findIdx?_eq_some_iff_getElem.1 ha).1
  have hFl:F.length=g.ss_.length:=by
   have:=f3.1;unfold aN at this;rwa[bh] at this
  obtain⟨fs,hF⟩:∃ fs,F[w]?=some fs:=⟨_,Cmz (by omega)⟩
  rw[e,an (by omega),f1,aj,aF (by omega),b7,hF,aj] at e3;have key:∀ (gs:List aB) (k:Nat),(∀ (j:Nat) f,gs[j]?=some f->fs[k+j]?=some f)->(∃ (j:Nat) (f:aB),fs[j]?=some f/\f.sy_=x/\findL (kE x) k gs ()=some (.inr (j:Int)))∨findL (kE x) k gs ()=some (.inl ()):=by
   intro gs
   induction gs with
   | nil=>intro k _;exact .inr rfl
   | cons f gs ih=>
    intro k h;have hk:=h 0 f rfl;rw[Cxz] at hk;rw[findL];by_cases ef:f.sy_=x;refine .inl ⟨k,f,hk,ef,?_⟩;unfold kE qt;rw[wN,aj,aj,decide_eq_true ef,ao rfl];rfl;have:kE x k f ()=some (.inl ()):=by
     unfold kE qt;rw[wN,aj,aj,decide_eq_false ef,an Fqz]
    rw[this,aj];exact ih (k+1) λj y hy=>by rw[show k+1+j=k+(j+1) by omega];exact h (j+1) y hy
  unfold v8 at e3;rcases key fs 0 (λj f h=>by rw[Adz];exact h) with ⟨j,f,hj,ef,i1⟩|i1;rw[i1,aj] at e3;have e3:((some (j:Int)).bind λy4=>if y4<0 then some ((⟨[]⟩:az),false) else grd (0<=y4) <| (fs[y4.toNat]?).bind λx2=>(kQ g F x2).bind λ(y5,y6)=>some (y5,y6))=some R:=e3;have hm:=Bvz hj;have hl:=Bvz hF;obtain⟨o1,o2,t,o3⟩:=f4 fs hl f hm;rw[aj,an (by omega),aF (by omega),b7,hj,aj,Kx hS f3 f4 o1 o2 o3,aj] at e3;by_cases hz:t.sz<=16;rw[ao hz] at e3;cases e3;have hleft:f.rule.Left=s:=IV (hS.left o1) k1 ((f5 w fs hF f hm).1.trans k2.symm);exact .inr ⟨F,f,t,_,f3,f4,f5,⟨fs,hl,hm⟩,o1,ef,hleft,o3,hz,e1,e2⟩;rw[an hz] at e3;cases e3;exact .inl ⟨e1,e2⟩;rw[i1] at e3;cases e3;exact .inl ⟨e1,e2⟩
theorem Qb {g:al}{t:az}{tb:List (List Int)}(U:se g t=some tb)(hT:tb.length<=1000){i k:Nat}(hi:i<tb.length)(hk:k<tb.length):∃ b,uF g t (i:Int) (k:Int)=some b/\(b=true↔Dp tb i k):=by
 obtain⟨far,e,hl,_,hd⟩:=Qq hT hk;have hg:far[i]?=some (far.getD i 0):=by rw[List.getD_eq_getElem?_getD,Cmz (by omega)];rfl
 refine⟨decide (0<far.getD i 0),?_,by rw[decide_eq_true_eq];exact hd i⟩;unfold uF;rw[U,aj,gw,aj,ao (decide_eq_true (by omega)),gw,aj,ao (decide_eq_true (by omega)),e,aj,aF (by omega),b7,hg,aj]
theorem Wc {g:al}(h0:Sz.szd g<=1048576)(hS:Shape g){F:List (List aB)}(hA:aM g (aN F))(hD:fM g F)(hD2:dG g F){f:aB}{t:Tr}{n:Nat}(hf:∃ l∈F,f∈l)(Z:f.rule∈g.rs_)(ht:fi g F n f=some t){N:List Node}(hN:eW g N)(hT:gm g N t 0 (-1) 0 f.rule.Left)(hz:t.sz=N.length){tb:List (List Int)}(Y:po g N tb){x0:Node}(hx0:N[0]?=some x0){k1 k2:Nat}{W a2:aG}(p1:(bJ g f.rule.Left)[k1]?=some W)(p2:(bJ g f.rule.Left)[k2]?=some a2) :
  (⟨x0.Id,W.Name⟩:aZ)∈bw g N/\(⟨x0.Id,a2.Name⟩:aZ)∈bw g N/\((W.Mode=1/\a2.Mode=2/\xi g N tb ⟨x0.Id,a2.Name⟩ ⟨x0.Id,W.Name⟩)↔Rl f.sy_.Rows k1 k2):=by
 obtain⟨y,r,hy,hry,g1,g2,g3,_⟩:=hT.head;rw[hx0] at hy;cases hy;have hats:=(nY hS hry g1).1;have hmem:∀ {k:Nat} {a:aG},(bJ g f.rule.Left)[k]?=some a->(⟨x0.Id,a.Name⟩:aZ)∈bw g N:=λ{k a} hp=>by
  have:=Bvz hp;unfold bJ at this;exact sQ.2 ⟨0,x0,a,hx0,by rw[hats,g2];exact (List.mem_filter.1 this).1,rfl⟩
 refine⟨hmem p1,hmem p2,λ⟨m1,m2,hd⟩=>?_,λh=>?_⟩;have hpar:∀ v,0<v->v<N.length->wo N v:=λv U K=>wh t 0 (-1) 0 _ hT v U (by omega);obtain⟨x,z,i1,i2,hp⟩:=TQ hN hpar (λx hx=>by rw[hx0] at hx;cases hx;exact g3) Y hd;have gi:∀ {w:aZ},w∈bw g N->(bw g N)[(bw g N).idxOf w]?=some w:=λ{w} hw=>by rw[Cmz (List.idxOf_lt_length_iff.2 hw),List.getElem_idxOf]
 rw[gi (hmem p2)] at i1;cases i1;rw[gi (hmem p1)] at i2;cases i2;rw[show N.length=0+t.sz by omega] at hp;obtain⟨q1,q2,b1,b2,w1,w2,w3,w4,w5⟩:=w9 h0 hS hN (IK h0 hS hN t) hT ⟨x0,hx0,rfl⟩ ⟨x0,hx0,rfl⟩ hp;have huniq:∀ {k q:Nat} {a b:aG},(bJ g f.rule.Left)[k]?=some a->(bJ g f.rule.Left)[q]?=some b->b.Name=a.Name->q=k:=λ{k q a b} U K e=>by
  have hp:=hS.plainP f.rule.Left;rw[List.pairwise_iff_getElem] at hp;have l1:=(List.getElem?_eq_some_iff.1 U)
  have l2:=(List.getElem?_eq_some_iff.1 K)
  obtain⟨l1,e1⟩:=l1;obtain⟨l2,e2⟩:=l2;rcases Nat.lt_trichotomy q k with h|h|h;exact absurd (by rw[e2,e1];exact e) (hp q k l2 l1 h);exact h;exact absurd (by rw[e2,e1];exact e.symm) (hp k q l1 l2 h)
 have f1:=huniq p2 w1 w2;have f2:=huniq p1 w3 w4;subst f1;subst f2;rw[Gi hS hD hD2 n f t hf ht];exact w5;obtain⟨ap,aq,y,q1,q2,q3,q4⟩:=Ko h0 hS hN Y hA hD hD2 n f t hf ht 0 (-1) 0 _ hT k1 k2 h;rw[p1] at q1;cases q1;rw[p2] at q2;cases q2;rw[hx0] at q3;cases q3;obtain⟨l,hl,hfl⟩:=hf;obtain⟨k,hk⟩:=List.getElem?_of_mem hl;obtain⟨hat,_⟩:=hD2 k l hk f hfl;obtain⟨_,_,h3,_,h5⟩:=hA.at_ (hS.left Z);rw[hat,kt,hk] at h3;have h3:l.map aB.sy_=dK g (aN F) f.rule.Left:=Option.some.inj h3;obtain⟨_,_,hm⟩:=h5 f.sy_ (by rw[← h3];exact List.mem_map.2 ⟨f,hfl,rfl⟩);obtain⟨xa,ya,u1,u2,u3,u4⟩:=hm k1 k2 h;rw[p1] at u1;cases u1;rw[p2] at u3;cases u3;exact⟨u2,u4,q4⟩
theorem XG {b:List UInt8}(Y:b.length<=1048576):Ok (λq:al×ar×au=>mJ q.1) (vR b):=by
 unfold vR;obtain⟨z,hz,hz1,hz2⟩:=I8 Y;obtain⟨zb,zi,zh⟩:=z;dsimp only at hz1 hz2;subst hz2;refine .eq hz ?_;obtain⟨g,e,hg⟩:=Wg Y;refine .eq e ?_;have hG:=HZ hg;have rel:∀ {i h:Int},0<=i->∃ r z,pR (⟨zb,i,h⟩:aL)=some (r,z):=λ{i h} hi=>by
  obtain⟨r,z,e,_⟩:=Y9 (o:=⟨zb,i,h⟩) ⟨hi,Y⟩;exact⟨r,z,e⟩
 unfold yC;rw[KM hG,aj];cases hgb:mu g with
 | false=>
  rw[an Fqz];obtain⟨r,z,er⟩:=rel (i:=zi) (h:=zh) hz1;refine .bso ?_;dsimp only;rw[an Fqz,er];exact⟨_,rfl,hg⟩
 | true=>
  have hS:=tZ hgb;obtain⟨F,U,K,h3⟩:=V3 hG hS;have hs:=hS.syms.2;have hne:=UL hG hgb h3 (XK hG hS h3 K);rw[ao rfl,aF (by refine⟨?_,?_,?_⟩<;>omega),K];refine .bso ?_;refine .bso ?_;dsimp only;refine bU (ir Y _ (cb hz1)) λy i1 U _ hi1=>.ite (λ_=>?_) λ_=>?_;obtain⟨r,z,er⟩:=rel (i:=i1) (h:=U) hi1;rw[er];exact⟨_,rfl,hg⟩;refine bU (dt Y _ (cb hi1)) λk i2 K hk hi2=>?_;have hl:(aN F).length=g.ss_.length:=h3.1;have hsy:=hS.syms.1;have hk2:=hk.2.1 (by omega);have hkl:k.toNat<(aN F).length:=by omega
  dsimp only;rw[aF hk.1,Cmz (by omega:k.toNat<g.ss_.length),aj,aF hk.1,Cmz hkl,aj];have hL:=hne _ (List.getElem_mem hkl);have hLl:0<((aN F)[k.toNat]).length:=List.length_pos_iff.2 hL;refine bU (dt Y _ (cb hi2)) λj i3 h3 hj hi3=>?_;have hj2:=hj.2.1 (by omega);dsimp only;rw[aF hj.1,Cmz (by omega:j.toNat<((aN F)[k.toNat]).length),aj];exact⟨_,rfl,hg⟩
theorem YZ (a:List UInt8):zg a=some true:=by
 unfold zg AI;rw[aj];by_cases Y:1048576<(a.length:Int);rw[ao (by simpa using Y)];rw[an (by simpa using Y)];have Y:a.length<=1048576:=by omega
 obtain⟨⟨g,s,x⟩,e,hg⟩:=XG Y;have hG:=HZ hg;rw[e,aj];dsimp only;have main:(nw g s x=some (⟨[]⟩,false)/\lx g s x=some (⟨[]⟩,false))∨(Shape g/\∃ (F:List (List aB)) (f:aB) (t:Tr) (n:Nat),aM g (aN F)/\fM g F/\dG g F/\(∃ l∈F,f∈l)/\f.rule∈g.rs_/\f.sy_=x/\f.rule.Left=s/\fi g F n f=some t/\t.sz<=16/\nw g s x=some (⟨bD cH t (-1) 0 0⟩,true)/\lx g s x=some (⟨bD cH t (-1) 0 0⟩,true)):=by
  cases hgb:mu g with
  | false=>
   obtain⟨R,e1,e2,_⟩:=LZ hG s x;have e3:=e2;unfold lx at e3;rw[py,aj,E0 hG,aj,hgb,an Fqz] at e3;cases e3;exact .inl ⟨e1,e2⟩
  | true=>
   rcases Wd hG hgb s x with h|h;exact .inl h;exact .inr ⟨tZ hgb,h⟩
 rcases main with ⟨U,K⟩|⟨hS,F,f,t,n,f3,f4,f5,hf,Z,hx,hl,htr,hz,U,K⟩
 rw[K,aj];dsimp only;rw[U,aj];dsimp only;rw[ao rfl,LY,aj,aj,an (by decide),an Fqz];rfl
 skip
 subst hx;subst hl;obtain⟨t1,t2,t3,t4⟩:=UM hG hS f4 f5 Z htr hz;have hlen:=mQ cH t (-1) 0 0;have hpos:=t.pos;rw[K,aj];dsimp only;rw[U,aj];dsimp only;rw[ao rfl,LY,aj,aj,an (by decide),ao rfl,t4,aj,ao rfl];generalize bD cH t (-1) 0 0=N at t1 t2 t3 t4 hlen;have hN:eW g N:=.of hS (by omega) (by omega) t3 t1 hlen.symm;obtain⟨x0,r0,hx0,hr0,e1,e2,_⟩:=t1.head;have hsym:mg g ⟨N⟩ 0=some f.rule.Left:=by
  have:=En hG hS hx0 hr0 e1;rw[e2] at this;exact this
 obtain⟨tb,b1,b2⟩:=UJ hG hS hN hsym t4;obtain⟨i1,i2⟩:=JF hG hS hN hsym t4;rw[i1,aj,tC (gJ hG),aj];have hvs:aI f.sy_:=by
  rw[Gi hS f4 f5 n f t hf htr];have hfit:=qR hG hS;cases t with
  | node nm ks=>
   rw[fX];exact (hfit _ _).1
 have inner:∀ (k1:Nat) (W:aG),(bJ g f.rule.Left)[k1]?=some W->∀ (k2:Nat) (a2:aG),(bJ g f.rule.Left)[k2]?=some a2->zq g f.sy_ ⟨N⟩ (bw g N) k1 W k2 a2 ()=some (.inl ()):=λk1 W p1 k2 a2 p2=>by
  obtain⟨m1,m2,hiff⟩:=Wc hG hS f3 f4 f5 hf Z htr hN t1 hlen.symm b2 hx0 p1 p2;have c1:=List.idxOf_lt_length_iff.2 m1;have c2:=List.idxOf_lt_length_iff.2 m2;obtain⟨b,d1,d2⟩:=Qb (t:=⟨N⟩) b1 b2.ok.1 (i:=(bw g N).idxOf (⟨x0.Id,a2.Name⟩:aZ)) (k:=(bw g N).idxOf (⟨x0.Id,W.Name⟩:aZ)) (by rw[b2.len];exact c2) (by rw[b2.len];exact c1);have x1:ej (bw g N) (⟨x0.Id,W.Name⟩:aZ)=(((bw g N).idxOf (⟨x0.Id,W.Name⟩:aZ):Nat):Int):=by unfold ej;rw[ao m1]
  have x2:ej (bw g N) (⟨x0.Id,a2.Name⟩:aZ)=(((bw g N).idxOf (⟨x0.Id,a2.Name⟩:aZ):Nat):Int):=by unfold ej;rw[ao m2]
  have hR:=wP hvs k1 k2;unfold zq;dsimp only;rw[hx0,aj,Eb,aj,Eb,aj,x1,x2,oB];simp only[aj,d1];by_cases q1:W.Mode=1;by_cases q2:a2.Mode=2;simp only[q1,q2,if_true,decide_true,aj];have:b=decide (bG f.sy_ (k1:Int) (k2:Int)):=by
   rw[Bool.eq_iff_iff,d2,decide_eq_true_eq,hR,← hiff];exact⟨λh=>⟨q1,q2,h⟩,λh=>h.2.2⟩
  rw[ao this];have:¬ bG f.sy_ (k1:Int) (k2:Int):=λh=>q2 (hiff.2 (hR.1 h)).2.1;simp[q1,q2,this];have:¬ bG f.sy_ (k1:Int) (k2:Int):=λh=>q1 (hiff.2 (hR.1 h)).1;simp[q1,this]
 have go2:∀ (k1:Nat) (W:aG),(bJ g f.rule.Left)[k1]?=some W->∀ (xs:List aG) (k:Nat),(∀ (j:Nat) y,xs[j]?=some y->(bJ g f.rule.Left)[k+j]?=some y)->findL (zq g f.sy_ ⟨N⟩ (bw g N) k1 W) k xs ()=some (.inl ()):=λk1 W p1 xs=>by
  induction xs with
  | nil=>intro k _;rfl
  | cons y xs ih=>
   intro k hx;have h:=hx 0 y rfl;rw[Cxz] at h;rw[findL,inner k1 W p1 k y h,aj];exact ih (k+1) λj z hj=>by rw[show k+1+j=k+(j+1) by omega];exact hx (j+1) z (by simpa using hj)
 have go1:∀ (xs:List aG) (k:Nat),(∀ (j:Nat) y,xs[j]?=some y->(bJ g f.rule.Left)[k+j]?=some y)->findL (CO g f.sy_ ⟨N⟩ (bw g N) (bJ g f.rule.Left)) k xs ()=some (.inl ()):=by
  intro xs
  induction xs with
  | nil=>intro k _;rfl
  | cons y xs ih=>
   intro k hx;have h:=hx 0 y rfl;rw[Cxz] at h;rw[findL];unfold CO;rw[go2 k y h (bJ g f.rule.Left) 0 (λj z hj=>by rw[Adz];exact hj)];exact ih (k+1) λj z hj=>by rw[show k+1+j=k+(j+1) by omega];exact hx (j+1) z (by simpa using hj)
 rw[go1 (bJ g f.rule.Left) 0 (λj z hj=>by rw[Adz];exact hj)];rfl
end Go.Proofs.YtodhafdaelcnlaaGreat
