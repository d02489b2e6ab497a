/- What those partial functions come to: plain lemmas on data; each bears its conditions in its statement. -/
import Derived.Test.YtodhafdaelcnlaaGreatMath6
set_option linter.unusedVariables false
set_option linter.unusedSimpArgs false
set_option linter.ambiguousOpen false
set_option linter.unusedSectionVars false
set_option linter.unnecessarySimpa false
set_option maxRecDepth 100000
set_option maxHeartbeats 4000000
open List renaming append_nil->Cgz,append_assoc->Azz,length_append->Axz,length_singleton->Coz,mem_singleton->Bpz,getD_eq_getElem?_getD->Cwz,getElem?_eq_getElem->Cmz,cons_append->Ewz,mem_of_getElem?->Bvz,length_set->Clz,replicate->Bqz,flatMap_cons->Bkz,fst_mem_of_mem_zipIdx->Exz,getElem?_map->Czz,mem_cons_self->Ckz,getElem?_eq_none->Avz,range->Amz,mem_cons_of_mem->Buz,getElem?_set_self->Euz,getElem?_set_ne->Eyz
open Nat renaming zero_le->Aez,le_trans->Bgz,le_refl->Acz,zero_add->Adz,mul_le_mul_right->Cpz,succ_mul->Ezz,pos_of_ne_zero->Faz,mod_lt->Fbz,div_lt_iff_lt_mul->Fcz,mul_comm->Fdz,add_mul_div_left->Fez,add_mul_mod_self_left->Ffz,mod_eq_of_lt->Fgz
open Bool renaming false_ne_true->Evz,false_eq_true->Eaz
open Int renaming tdiv_eq_ediv_of_nonneg->Fhz
open Option renaming getD_some->Cbz
namespace Go.Proofs.YtodhafdaelcnlaaGreat
open Go Go.E
theorem Lj {σ α:Type}{d:Nat}{P:Nat->σ->Prop}:∀ {xs:List α} {i:Nat} {s:σ} {f:Nat->Nat->α->σ->Option σ},P i s->(∀ k x s,xs[k]?=some x->P (i+k) s->∃ s',(∀ n,d<=n->f n (i+k) x s=some s')/\P (i+k+1) s')->∃ s',(∀ n,d<=n->eachL (f n) i xs s=some s')/\P (i+xs.length) s'
 | [],i,s,f,h,_=>⟨s,λ_ _=>rfl,h⟩
 | x::xs,i,s,f,h,hs=>by
  obtain⟨s1,U,W⟩:=hs 0 x s rfl h;simp only[Nat.add_zero] at U W;obtain⟨s2,h3,h4⟩:=Lj (P:=P) (xs:=xs) (i:=i+1) (f:=f) W λk y s hy hp=>by
   have:=hs (k+1) y s hy (by rwa[show i+(k+1)=i+1+k by omega]);rwa[show i+(k+1)=i+1+k by omega] at this
  exact⟨s2,λn hn=>by rw[eachL,U n hn,aj,h3 n hn],by rw[bH,show i+(xs.length+1)=i+1+xs.length by omega];exact h4⟩
def kn (B:Nat)(x:Node):Prop:=((-1<=x.Parent/\x.Parent<=(B:Int))/\(∀ c∈x.cn_,0<=c/\c<=(B:Int))/\x.cn_.length<=8)/\0<=x.Id/\x.Id<=1000000
theorem kn.mono {A B:Nat}{x:Node}(h:kn A x)(hab:A<=B):kn B x:=by
 obtain⟨⟨⟨a,b⟩,c,d⟩,e⟩:=h;exact⟨⟨⟨a,by omega⟩,λy hy=>by have:=c y hy;omega,d⟩,e⟩
theorem OV {s1:List Node}(U:s1.length<=100000){cs:List Int}{B:Nat}(hB:B<=100000)(hc:∀ c∈cs,0<=c/\c<=(B:Int))(hl:cs.length<=8):∃ ys,eachL (BC s1) 0 cs ([]:List Int)=some ys/\eachL (BB s1) 0 cs ([]:List Int)=some ys/\ys.length<=8/\∀ c∈ys,0<=c/\c<=((B+s1.length:Nat):Int):=by
 refine⟨cs.map λc=>c+(s1.length:Int),?_,?_,by rw[bn];exact hl,λc hc'=>?_⟩;rw[oL (g:=λc:Int=>c+(s1.length:Int)) (B:=1048576) cs 0 [] (λk x s hx hs=>by
  have:=hc x hx;unfold BC;rw[aD (by constructor<;>omega),aD (by constructor<;>omega)]) (by simp;omega),List.nil_append]
 rw[oL (g:=λc:Int=>c+(s1.length:Int)) (B:=1048576) cs 0 [] (λk x s hx hs=>by
  have:=hc x hx;unfold BB;rw[aD (by constructor<;>omega),aD (by constructor<;>omega)]) (by simp;omega),List.nil_append]
 obtain⟨c0,h0,rfl⟩:=List.mem_map.1 hc';have:=hc c0 h0;constructor<;>omega
theorem Li {s1:List Node}(U:s1.length<=100000){B:Nat}(hB:B<=100000)(k:Nat):∀ (xs:List Node) (i:Nat) (s:List Node),k<=100000->(∀ x∈xs,kn B x)->s.length+xs.length<=1000000->∃ ys,eachL (xI s1 k) i xs s=some (s++ys)/\ys.length=xs.length/\∀ y∈ys,kn (B+s1.length) y
 | [],i,s,_,_,_=>⟨[],by rw[eachL,Cgz],rfl,λy h=>nomatch h⟩
 | x::xs,i,s,hk,hx,hl=>by
  simp only[bH] at hl;obtain⟨⟨⟨p1,p2⟩,p3,p4⟩,p5,p6⟩:=hx x (by simp);obtain⟨ys,k1,k2,k3,k4⟩:=OV U hB p3 p4;have step:∃ y,xI s1 k i x s=some (s++[y])/\kn (B+s1.length) y:=by
   unfold xI;rw[aD (by constructor<;>omega)];by_cases hi:(i:Int)=0;rw[ao hi,k1,aj,aD (by constructor<;>omega),aj];exact⟨_,rfl,⟨⟨by dsimp only;omega,by dsimp only;omega⟩,k4,k3⟩,p5,p6⟩;rw[al hi,k2,aj,aD (by constructor<;>omega),aj];exact⟨_,rfl,⟨⟨by dsimp only;omega,by dsimp only;omega⟩,k4,k3⟩,p5,p6⟩
  obtain⟨y,e1,e2⟩:=step;obtain⟨zs,f1,f2,f3⟩:=Li U hB k xs (i+1) (s++[y]) hk (λz hz=>hx z (by simp[hz])) (by simp;omega);refine⟨y::zs,by rw[eachL,e1,aj,f1,Azz];rfl,by simp[f2],λz hz=>?_⟩;rcases List.mem_cons.1 hz with e|e;rw[e];exact e2;exact f3 z e
def gS:List aC->Nat
 | []=>0
 | y::ys=>y.Nodes.length+gS ys
def pU (t:aC):Prop:=∀ x∈t.Nodes,kn t.Nodes.length x
theorem Lh:∀ (ys:List aC) (k:Nat) (x:Node) (M:List Node),(∀ y∈ys,pU y)->x.cn_.length+ys.length<=8->k+ys.length<=100->1+M.length+gS ys<=100000->(∀ z∈x::M,kn (1+M.length) z) ->
  ∃ s,eachL xH k ys (x::M)=some s/\s.length=1+M.length+gS ys/\∀ z∈s,kn s.length z
 | [],k,x,M,_,_,_,_,hz=>⟨x::M,by rw[eachL],by rw[gS,bH];omega,λz h=>by rw[bH,Nat.add_comm];exact hz z h⟩
 | y::ys,k,x,M,hy,hc,hk,hl,hz=>by
  simp only[bH] at hc hk;rw[gS] at hl;have hs1:(x::M).length=1+M.length:=by simp;omega
  obtain⟨zs,f1,f2,f3⟩:=Li (s1:=x::M) (by rw[hs1];omega) (B:=y.Nodes.length) (by omega) k y.Nodes 0 ((⟨x.Id,x.Parent,x.Place,x.ll_,x.aa,x.cn_++[(((x::M).length:Nat):Int)]⟩:Node)::M) (by omega) (hy y (by simp)) (by simp;omega);have e:xH k y (x::M)=some ((⟨x.Id,x.Parent,x.Place,x.ll_,x.aa,x.cn_++[(((x::M).length:Nat):Int)]⟩:Node)::(M++zs)):=by
   unfold xH;rw[show (x::M)[0]?=some x from rfl,aj,aD (by constructor<;>omega),List.set_cons_zero,f1,aj];rfl
  obtain⟨s,g1,g2,g3⟩:=Lh ys (k+1) (⟨x.Id,x.Parent,x.Place,x.ll_,x.aa,x.cn_++[(((x::M).length:Nat):Int)]⟩:Node) (M++zs) (λw hw=>hy w (by simp[hw])) (by dsimp only;rw[Axz,Coz];omega) (by omega) (by rw[Axz,f2];omega) (λz hm=>by
   rw[Axz,f2];rcases List.mem_cons.1 hm with e|e;obtain⟨⟨⟨a,b⟩,c,d⟩,e1⟩:=hz x (by simp);rw[e];refine⟨⟨⟨a,by dsimp only;omega⟩,λw hw=>?_,by dsimp only;rw[Axz,Coz];omega⟩,e1⟩;rcases List.mem_append.1 hw with hw|hw;have:=c w hw;omega;rw[Bpz] at hw;rw[hw,hs1];omega;rcases List.mem_append.1 e with e|e;exact (hz z (by simp[e])).mono (by omega);have:=f3 z e;rw[hs1] at this;exact this.mono (by omega))
  refine⟨s,by rw[eachL,e,aj];exact g1,by rw[g2,Axz,f2,gS];omega,g3⟩
theorem OU {x:Node}(U:0<=x.Id)(W:x.Id<=1000000){ys:List aC}(hy:∀ y∈ys,pU y)(hc:ys.length<=8)(hl:1+gS ys<=100000):∃ t,tD x ys=some t/\t.Nodes.length=1+gS ys/\pU t:=by
 obtain⟨s,e,e2,e3⟩:=Lh ys 0 (⟨x.Id,-1,0,x.ll_,x.aa,[]⟩:Node) [] hy (by simp;omega) (by omega) (by simp;omega) (λz hz=>by
  rw[Bpz] at hz;subst hz;exact⟨⟨⟨by dsimp only;omega,by dsimp only;omega⟩,λc hc=>(nomatch hc),Aez _⟩,U,W⟩)
 refine⟨⟨s⟩,by unfold tD;rw[e];rfl,by rw[e2];simp,e3⟩
def Gs:aa:=⟨⟨#[]⟩,⟨#[]⟩,[],false,[],[]⟩
theorem qg {α:Type}{B:Nat}{f:Nat->α->List α->Option (List α)}:∀ (xs:List α) (i:Nat) (s:List α),(∀ k x s,x∈xs->s.length<B->f k x s=some (s++[x]))->s.length+xs.length<=B->eachL f i xs s=some (s++xs)
 | [],i,s,_,_=>by simp[eachL]
 | x::xs,i,s,hf,h=>by
  simp only[bH] at h;rw[eachL,hf i x s (by simp) (by omega),aj,qg xs (i+1) _ (λk y s hy=>hf k y s (by simp[hy])) (by simp;omega)];simp
theorem RU {r:aa}(h:Sz.szd r<=1048576):oW r=some r:=by
 have h0:=nE r;have U:=gG r.es_;have W:=gG r.cs_;have h3:=gG r.rt_;unfold oW;rw[aD (by simp only[List.length_nil];constructor<;>omega),qg (B:=1048576) r.es_ 0 [] (λk x s hx hs=>by
  have q1:=lL hx;have q2:=uf x;have q3:=eX x.Expr;unfold A7;rw[oJ (by omega),aj,aD (by constructor<;>omega)]) (by simp;omega),aj,qg (B:=1048576) r.cs_ 0 [] (λk x s hx hs=>by
  have q1:=lL hx;have q2:=yF x;have q3:=eX x.Target;have q4:=eX x.Value;unfold A6;rw[oJ (by omega),aj,oJ (by omega),aj,aD (by constructor<;>omega)]) (by simp;omega),aj]
 simp
theorem wY {g:ak}(h0:Sz.szd g<=1048576)(nm:an):∃ r b,jy g nm=some (r,b)/\(b=true->r∈g.rs_/\r.Name=nm)/\(b=false->r=Gs):=by
 have key:∀ (xs:List aa) (i:Nat),(∀ x∈xs,x∈g.rs_)->(∃ r,r∈g.rs_/\r.Name=nm/\findL (mV nm) i xs ()=some (.inr (r,true)))∨findL (mV nm) i xs ()=some (.inl ()):=by
  intro xs
  induction xs with
  | nil=>intro i _;exact .inr rfl
  | cons x xs ih=>
   intro i hx;rw[findL];by_cases e:x.Name=nm;refine .inl ⟨x,hx x (by simp),e,?_⟩;unfold mV;rw[ao e,RU (Bgz (ia (hx x (by simp))) h0),aj];rfl;have:mV nm i x ()=some (.inl ()):=by unfold mV;rw[al e]
   rw[this,aj];exact ih (i+1) λy hy=>hx y (by simp[hy])
 rcases key g.rs_ 0 (λ_ h=>h) with ⟨r,U,W,h3⟩|h;exact⟨r,true,by unfold jy;rw[h3];rfl,λ_=>⟨U,W⟩,λh=>nomatch h⟩;exact⟨Gs,false,by unfold jy;rw[h];rfl,λh=>(nomatch h),λ_=>rfl⟩
section
variable {b:List UInt8}{g:ak}{hs:List Int}
abbrev ig (g:ak)(hs:List Int)(s x:an):Prop:=hs.getD ((eK g x).getD 0) 0<hs.getD ((eK g s).getD 0) 0
theorem H7 (hsy:1<=g.ss_.length)(n:an):(eK g n).getD 0<g.ss_.length:=by
 cases h:eK g n with
 | none=>exact hsy
 | some w=>
  unfold eK at h;exact (List.findIdx?_eq_some_iff_getElem.1 h).1
theorem IA (n:an):fZ 0 (gy g n)=some (((eK g n).getD 0:Nat):Int):=by
 unfold fZ gy;cases h:eK g n with
 | none=>dsimp only;rw[ao (by omega)];rfl
 | some w=>
  dsimp only;by_cases hw:(w:Int)<0;omega;rw[al hw];rfl
theorem Kx (hsy:1<=g.ss_.length)(hl:hs.length=g.ss_.length)(s:an):∀ (xs:List an) (i:Nat) (c:Bool),∃ c',eachL (xG g s hs) i xs c=some c'/\(c'=true->c=true/\∀ x∈xs,ig g hs s x)
 | [],i,c=>⟨c,rfl,λh=>⟨h,λx hx=>nomatch hx⟩⟩
 | x::xs,i,c=>by
  have step:∃ c1,xG g s hs i x c=some c1/\(c1=true->c=true/\ig g hs s x):=by
   unfold xG;cases c with
   | false=>rw[al Evz];exact⟨false,rfl,λh=>nomatch h⟩
   | true=>
    have e1:∀ n:an,hs[((((eK g n).getD 0:Nat):Int)).toNat]?=some (hs.getD ((eK g n).getD 0) 0):=λn=>by
     rw[cE,Cwz,Cmz (by rw[hl];exact H7 hsy n)];rfl
    rw[ao rfl,pX,aj,IA,aj,aD (by omega),e1,aj,pX,aj,IA,aj,aD (by omega),e1,aj,aj];exact⟨_,rfl,λh=>⟨rfl,of_decide_eq_true h⟩⟩
  obtain⟨c1,e1,e2⟩:=step;obtain⟨c',f1,f2⟩:=Kx hsy hl s xs (i+1) c1;refine⟨c',by rw[eachL,e1,aj];exact f1,λh=>?_⟩;obtain⟨U,W⟩:=f2 h;obtain⟨h3,h4⟩:=e2 U;refine⟨h3,λy hy=>?_⟩;rcases List.mem_cons.1 hy with e|e;rw[e];exact h4;exact W y e
theorem Vu (h0:Sz.szd g<=1048576)(s:an):∃ l,tB g s=some l/\l.length<=g.rs_.length:=by
 have hl:g.rs_.length<=1048576:=by
  have:=gG g.rs_;have U:Sz.szd g=bP g.ss_+bP g.rs_:=rfl;omega
 obtain⟨s',e,hp⟩:=iW (P:=λi (l:List an)=>l.length<=i) (xs:=g.rs_) (i:=0) (s:=([]:List an)) (f:=By s) (Acz _) λk x l hk hp=>by
  have hlt:=(List.getElem?_eq_some_iff.1 hk).1;unfold By;by_cases hx:x.Left=s;rw[ao hx,aD (by constructor<;>omega)];exact⟨_,rfl,by rw[Axz,Coz];omega⟩;rw[al hx];exact⟨_,rfl,by omega⟩
 rw[Adz] at hp;exact⟨s',by unfold tB;rw[e];rfl,hp⟩
theorem Ub (Y:b.length<=1048576)(h0:Sz.szd g<=1048576)(hsy:1<=g.ss_.length)(hsl:g.ss_.length<=1048576)(hR:∀ r∈g.rs_,r.rt_.length<=5)(hh:nR g=some hs)(hl:hs.length=g.ss_.length)(s:an)(room:Int){i h:Int}(hi:0<=i):Dr b (λr:aa=>r.rt_.length<=5/\(room<5->∀ x∈r.rt_,ig g hs s x)) (qO g s room ⟨b,i,h⟩):=by
 obtain⟨l,e1,e2⟩:=Vu h0 s;unfold qO;refine Ok.eq e1 (Ok.eq hh ?_);refine Ok.bind (Q:=λq:an×an×List an×Bool×List aU×List Cn=>q.2.2.1.length<=5/\∀ x∈q.2.2.1,ig g hs s x) ?_ ?_;have:=AD (P:=λ_ (q:an×an×List an×Bool×List aU×List Cn)=>q.2.2.1.length<=5/\∀ x∈q.2.2.1,ig g hs s x) (f:=Bw g s hs) (xs:=l) (i:=0) (s:=((⟨#[]⟩:an),(⟨#[]⟩:an),([]:List an),false,([]:List aU),([]:List Cn))) ⟨Aez _,λx hx=>nomatch hx⟩ λk x q _ _ _ hq=>by
  obtain⟨s1,s2,s3,s4,s5,s6⟩:=q;obtain⟨r,bb,f1,f2,f3⟩:=wY h0 x;unfold Bw;dsimp only;rw[f1,aj];dsimp only;obtain⟨c,c1,c2⟩:=Kx hsy hl s r.rt_ 0 true;rw[c1,aj];cases c with
  | false=>rw[al Evz];exact⟨_,rfl,hq⟩
  | true=>
   rw[ao rfl];by_cases hs1:s1=(⟨#[]⟩:an);rw[ao hs1];refine⟨_,rfl,?_,(c2 rfl).2⟩;cases bb with
   | true=>exact hR r (f2 rfl).1
   | false=>rw[f3 rfl];exact Aez _
   rw[al hs1];exact⟨_,rfl,hq⟩
 exact this;rintro⟨s1,s2,s3,s4,s5,s6⟩ hq;dsimp only at hq ⊢;refine Ok.bind (Q:=λc:Bool=>c=false->¬ (l.length:Int)=0/\¬ room<5) ?_ ?_;by_cases hz:(l.length:Int)=0;rw[ao hz];exact⟨_,rfl,λh=>nomatch h⟩;rw[al hz];exact⟨_,rfl,λh=>⟨hz,of_decide_eq_false h⟩⟩;intro c hc;refine Ok.bind (Q:=λq:Bool×Int×Int=>0<=q.2.1/\(q.1=false->c=false)) ?_ ?_;cases c with
 | true=>rw[ao rfl];exact⟨_,rfl,hi,λh=>nomatch h⟩
 | false=>
  rw[al Evz];exact bz (fY Y _ (cb hi)) λy i1 U _ hi1=>⟨_,rfl,hi1,λ_=>rfl⟩
 rintro⟨c2,i2,W⟩ ⟨q1,q2⟩;dsimp only at q1 q2 ⊢;cases c2 with
 | true=>rw[ao rfl];exact⟨_,rfl,⟨hq.1,λ_=>hq.2⟩,q1,rfl⟩
 | false=>
  rw[al Evz];obtain⟨z1,z2⟩:=hc (q2 rfl);refine bz (cR Y _ (cb q1)) λy i3 h3 hy hi3=>?_;have:=hy.2.1 (by omega);dsimp only;rw[aD hy.1,Cmz (by omega:y.toNat<l.length),aj];obtain⟨r,bb,f1,f2,f3⟩:=wY h0 l[y.toNat];rw[f1,aj];refine⟨_,rfl,⟨?_,λh=>absurd h z2⟩,hi3,rfl⟩;cases bb with
  | true=>exact hR r (f2 rfl).1
  | false=>rw[f3 rfl];exact Aez _
end
theorem Dx {α:Type}{p q:α->Bool}:∀ {l:List α},(∀ x,p x=true->q x=true)->(∃ x∈l,q x=true/\p x=false)->l.countP p<l.countP q
 | [],_,⟨x,h,_⟩=>nomatch h
 | y::l,h,⟨x,hx,U,W⟩=>by
  have hm:l.countP p<=l.countP q:=List.countP_mono_left λx _=>h x;rw[List.countP_cons,List.countP_cons];rcases List.mem_cons.1 hx with e|e;subst e;rw[U,W];simp;omega;have:=Dx (l:=l) h ⟨x,e,U,W⟩;have h3:=h y;cases hp:p y<;>cases hq:q y<;>simp<;>first|omega|(rw[hp,hq] at h3;exact absurd (h3 rfl) (by simp))
def kd (g:ak)(hs:List Int)(s:an):Nat:=hs.countP λv=>decide (v<hs.getD ((eK g s).getD 0) 0)
theorem Iz {g:ak}{hs:List Int}(hsy:1<=g.ss_.length)(hl:hs.length=g.ss_.length)(x:an):hs.getD ((eK g x).getD 0) 0∈hs:=by
 have:=H7 hsy x;rw[Cwz,Cmz (by rw[hl];exact this)];exact List.getElem_mem _
theorem OT {g:ak}{hs:List Int}(hsy:1<=g.ss_.length)(hl:hs.length=g.ss_.length){s x:an}(h:ig g hs s x):kd g hs x<kd g hs s:=
 Dx (λv hv=>by simp only[decide_eq_true_eq] at hv ⊢;unfold ig at h;omega) ⟨_,Iz hsy hl x,by simpa using h,by simp⟩
theorem zT {g:ak}{hs:List Int}(hsy:1<=g.ss_.length)(h3:g.ss_.length<=3)(hl:hs.length=g.ss_.length)(s:an):kd g hs s<=2:=by
 have:=Dx (p:=λv=>decide (v<hs.getD ((eK g s).getD 0) 0)) (q:=λ_=>true) (l:=hs) (λ_ _=>rfl) ⟨_,Iz hsy hl s,rfl,by simp⟩;rw[List.countP_true] at this;unfold kd;omega
def fx (room:Int)(r:Nat):Nat:=if 5<=room then 31+200*(room-4).toNat else if r=0 then 1 else if r=1 then 6 else 31
theorem Ua {room:Int}{r r' : Nat}(h:r<=r'):fx room r<=fx room r':=by
 unfold fx;by_cases h5:5<=room;rw[ao h5,ao h5];exact Acz _;rw[al h5,al h5]
 repeat' split
 all_goals omega
theorem Ed (room:Int)(r:Nat):1<=fx room r:=by
 unfold fx
 repeat' split
 all_goals omega
theorem Kw {a:Int}{k:Nat}(hk:1<=k):(0<=a->0<=a.tdiv (k:Int)/\a.tdiv (k:Int)<=a)/\(a<0->a<=a.tdiv (k:Int)/\a.tdiv (k:Int)<=0):=by
 have key:∀ b:Int,0<=b->0<=b.tdiv (k:Int)/\b.tdiv (k:Int)<=b:=λb Y=>by
  rw[Fhz Y];exact⟨Int.ediv_nonneg Y (by omega),Int.ediv_le_self _ Y⟩
 refine⟨key a,λh=>?_⟩;have U:=key (-a) (by omega);rw[Int.neg_tdiv] at U;omega
theorem Tu {room:Int}{k r r' : Nat}(U:1<=k)(h5:k<=5)(Z:room<5->r'<r)(hr2:r<=2)(hr' : r'<=2):1+k*fx (room.tdiv (k:Int)-1) r'<=fx room r:=by
 by_cases h:5<=room;rw[Fhz (by omega)];have hc:k=1∨k=2∨k=3∨k=4∨k=5:=by omega
 have hk:∀ x:Int,¬ 5<=x->fx x r'<=31:=λx hx=>by
  unfold fx;rw[al hx]
  repeat' split
  all_goals omega
 have hm:∀ x:Int,5<=x->fx x r'=31+200*(x-4).toNat:=λx hx=>by unfold fx;rw[ao hx]
 have e0:fx room r=31+200*(room-4).toNat:=by unfold fx;rw[ao h]
 rw[e0];by_cases hx:(5:Int)<=room / (k:Int)-1;rw[hm _ hx];rcases hc with e|e|e|e|e<;>subst e<;>omega;have:=hk _ hx;rcases hc with e|e|e|e|e<;>subst e<;>omega;have W:=Kw (a:=room) U;have h3:=Z (by omega);have e1:¬ (5:Int)<=room.tdiv (k:Int)-1:=by
  by_cases hn:room<0;have:=W.2 hn;omega;have:=W.1 (by omega);omega
 unfold fx;rw[al e1,al h];have:r=1∨r=2:=by omega
 rcases this with e|e<;>subst e;have:r'=0:=by omega
 subst this;simp;omega;have:r'=0∨r'=1:=by omega
 rcases this with e|e<;>subst e<;>simp<;>omega
theorem Ec (t:aC):∀ l:List aC,gS (l++[t])=gS l+t.Nodes.length
 | []=>by simp[gS]
 | x::l=>by rw[Ewz,gS,Ec t l,gS];omega
def Dk (room:Int)(r:Nat):Nat:=if 5<=room then (room-4).toNat+3 else r
theorem Do {k:Nat}(h:1<=k):fZ 1 (k:Int)=some (k:Int):=by
 unfold fZ;rw[al (by omega)]
section
variable {b:List UInt8}{g:ak}{hs:List Int}
theorem T9 (Y:b.length<=1048576)(h0:Sz.szd g<=1048576)(hsy:1<=g.ss_.length)(hs3:g.ss_.length<=3)(hR:∀ r∈g.rs_,r.rt_.length<=5)(hh:nR g=some hs)(hl:hs.length=g.ss_.length):∀ (d:Nat) (s:an) (room a4 i h:Int),0<=i->room<=20->-1000+(d:Int)<=room->d<=100->Dk room (kd g hs s)<d->0<=a4->a4+(fx room (kd g hs s):Int)<=1000000 ->
  ∃ t i' h',(∀ n,d<=n->qN n g s room a4 ⟨b,i,h⟩=some (t,⟨b,i',h'⟩))/\pU t/\1<=t.Nodes.length/\t.Nodes.length<=fx room (kd g hs s)/\0<=i':=by
 intro d
 induction d with
 | zero=>intro s room a4 i h _ _ _ _ hm;omega
 | succ d ih=>
  intro s room a4 i h hi hr1 hr2 hd hmu ha hc;obtain⟨⟨y1,zb,i1,U⟩,e1,⟨p1,p2⟩,hz1,hz2⟩:=Ub Y h0 hsy (by omega) hR hh hl s room (i:=i) (h:=h) hi;dsimp only at p1 p2 hz1 hz2;subst hz2;have hlit:∃ j1 j2 j3,(if y1.ll_=true then (b6 9 (⟨zb,i1,U⟩:aB)).bind λ(y2,z2)=>grd (aR (y2-2)) <| some (z2.i,z2.h,(y2-2)) else some (i1,U,(0:Int)))=some (j1,j2,j3)/\0<=j1:=by
   by_cases hL:y1.ll_=true;rw[ao hL];obtain⟨⟨y2,z2⟩,f1,f2,f3,f4⟩:=cR Y 9 (cb (b:=zb) (h:=U) hz1);dsimp only at f2 f3 f4;rw[f1,aj];dsimp only;rw[aD (by have:=f2.2.1 (by omega);constructor<;>omega)];exact⟨_,_,_,rfl,f3⟩;rw[al hL];exact⟨_,_,_,rfl,hz1⟩
  obtain⟨j1,j2,j3,f1,f2⟩:=hlit;have hrk:=zT hsy hs3 hl s;generalize hrs:kd g hs s=rs at hmu hc hrk;generalize hK:y1.rt_.length=Z5 at p1;generalize hCc:fx (room.tdiv (Z5:Int)-1) (if 5<=room then 2 else rs-1)=Cc;have hkid:1<=Z5->(∀ x∈y1.rt_,room<5->ig g hs s x)->∀ x∈y1.rt_,1+Z5*Cc<=fx room rs/\fx (room.tdiv (Z5:Int)-1) (kd g hs x)<=Cc/\(room<5->kd g hs x<rs):=λhk1 hlow x hx=>by
   have hx2:=zT hsy hs3 hl x;have hlt:room<5->kd g hs x<rs:=λh5=>by rw[← hrs];exact OT hsy hl (hlow x hx h5)
   refine⟨?_,?_,hlt⟩;rw[← hCc];refine Tu hk1 p1 (λh5=>?_) hrk ?_;rw[al (by omega)];have:=hlt h5;omega;split<;>omega;rw[← hCc];refine Ua ?_;split;exact hx2;have:=hlt (by omega);omega
  obtain⟨q,q1,q2⟩:=Lj (d:=d) (P:=λj (q:Int×List aC×Int×Int)=>q.1=a4+1+(gS q.2.1:Int)/\q.2.1.length=j/\(∀ y∈q.2.1,pU y)/\gS q.2.1<=j*Cc/\0<=q.2.2.1) (xs:=y1.rt_) (i:=0) (s:=((a4+1),([]:List aC),j1,j2)) (f:=λn=>Bv (qN n) g room ⟨zb,i,h⟩ y1) ⟨by simp[gS],rfl,λy h=>(nomatch h),by simp[gS],f2⟩ λk x q hk hP=>by
   obtain⟨s5,s4,s6,s7⟩:=q;dsimp only at hP;rw[Adz] at hP ⊢;obtain⟨g1,g2,g3,g4,g5⟩:=hP;have hkK:k<Z5:=by rw[← hK];exact (List.getElem?_eq_some_iff.1 hk).1
   have hxm:=Bvz hk;obtain⟨c1,c2,c3⟩:=hkid (by omega) (λx hx h5=>p2 h5 x hx) x hxm;have hmul:k*Cc+Cc<=Z5*Cc:=by
    have:=Cpz Cc (Nat.succ_le_of_lt hkK);rwa[Ezz] at this
   have htd:=Kw (a:=room) (k:=Z5) (by omega);have hx2:=zT hsy hs3 hl x;have hrm:room.tdiv (Z5:Int)-1<=20/\-1000+(d:Int)<=room.tdiv (Z5:Int)-1/\(0<=room->room.tdiv (Z5:Int)-1<=room-1)/\(room<0->room.tdiv (Z5:Int)-1<0):=by
    by_cases hn:room<0;have:=htd.2 hn;omega;have:=htd.1 (by omega);omega
   have hcnd:fx room rs<=1000000:=by omega
   obtain⟨t,i',h',k1,k2,k3,k4,k5⟩:=ih x (room.tdiv (Z5:Int)-1) s5 s6 s7 g5 hrm.1 hrm.2.1 (by omega) (by
    unfold Dk at hmu ⊢;split at hmu<;>split<;>first|omega|(have:=c3 (by omega);omega)) (by omega) (by omega)
   refine⟨(s5+(t.Nodes.length:Int),s4++[t],i',h'),λn hn=>?_,?_⟩;unfold Bv;dsimp only;rw[hK,Do (by omega),aj,aD (by omega),aD (by constructor<;>omega),aD (by constructor<;>omega),k1 n hn,aj];dsimp only;rw[aD (by constructor<;>omega),aD (by constructor<;>omega)];dsimp only;refine⟨by rw[Ec];omega,by rw[Axz,Coz];omega,λy hy=>?_,?_,k5⟩;rcases List.mem_append.1 hy with hy|hy;exact g3 y hy;rw[Bpz] at hy;rw[hy];exact k2;rw[Ec,Ezz];omega
  obtain⟨s5,s4,s6,s7⟩:=q;dsimp only at q2;rw[Adz,hK] at q2;obtain⟨g1,g2,g3,g4,g5⟩:=q2;have hcl:1+gS s4<=fx room rs:=by
   by_cases hK0:Z5=0;subst hK0;have:=Ed room rs;omega;obtain⟨x,hx⟩:∃ x,x∈y1.rt_:=List.exists_mem_of_length_pos (by omega);have:=(hkid (by omega) (λx hx h5=>p2 h5 x hx) x hx).1;omega
  have hc2:fx room rs<=100000:=by
   unfold fx
   repeat' split
   all_goals omega
  obtain⟨t,t1,t2,t3⟩:=OU (x:=⟨a4,0,0,j3,y1.Name,[]⟩) ha (by dsimp only;have:=Ed room rs;omega) g3 (by omega) (by omega);refine⟨t,s6,s7,λn hn=>?_,t3,by omega,by omega,g5⟩;obtain⟨m,rfl⟩:∃ m,n=m+1:=⟨n-1,by omega⟩
  have e2:qO g s room ⟨zb,i,h⟩=some (y1,(⟨zb,i1,U⟩:aB)):=e1;rw[qN];unfold xu;rw[e2,aj];dsimp only;rw[f1,aj];dsimp only;rw[aD (by have:=Ed room rs;constructor<;>omega),q1 m (by omega),aj];dsimp only;rw[t1,aj]
theorem I0 (Y:b.length<=1048576)(h0:Sz.szd g<=1048576)(hsy:1<=g.ss_.length)(hs3:g.ss_.length<=3)(hR:∀ r∈g.rs_,r.rt_.length<=5)(s:an){room a4 i h:Int}(hi:0<=i)(Z:0<=room)(hr2:room<=20)(ha:0<=a4)(ha2:a4<=100):Dr b (λt:aC=>pU t/\1<=t.Nodes.length/\t.Nodes.length<=10000) (xt g s room a4 ⟨b,i,h⟩):=by
 obtain⟨hs,_,hh,hl⟩:=BA (g:=g) (by omega);have hc2:fx room (kd g hs s)<=10000:=by
  unfold fx
  repeat' split
  all_goals omega
 obtain⟨t,i',h',k1,k2,k3,k4,k5⟩:=T9 Y h0 hsy hs3 hR hh hl.1 100 s room a4 i h hi hr2 (by omega) (by omega) (by
  have:=zT hsy hs3 hl.1 s;unfold Dk;split<;>omega) ha (by omega)
 exact⟨(t,⟨b,i',h'⟩),iA 100 k1,⟨k2,k3,Bgz k4 hc2⟩,k5,rfl⟩
end
theorem oZ {r:au}(h:aI r)(i k:Int):aI (cB r i k):=by
 unfold cB;by_cases hc:aI r/\eh r i/\eh r k;rw[ao hc];obtain⟨_,hi,hk⟩:=hc;unfold wz;refine⟨h.1,h.2.1,by dsimp only;rw[Clz];exact h.2.2.1,λx hx=>?_⟩;rcases List.mem_or_eq_of_mem_set hx with hx|hx;exact h.2.2.2 x hx;rw[hx];have U:=h.1;have hk1:=hk.1;have hk2:=hk.2;refine R5 ?_ ?_;unfold gY;rw[Cwz];cases hq:r.Rows[i.toNat]? with
 | none=>show (0:Int)<=0/\(0:Int)<=((2 ^ r.N.toNat:Nat):Int)-1;have:=Nat.two_pow_pos r.N.toNat;omega
 | some y=>exact h.2.2.2 y (Bvz hq)
 have W:2 ^ k.toNat<2 ^ r.N.toNat:=Nat.pow_lt_pow_right (by decide) (by omega);constructor;exact Int.natCast_nonneg _;dsimp only;omega;rw[al hc];exact h
theorem wu {r:au}(h:aI r)(i k:Int)(a c:Nat):Rl (cB r i k).Rows a c↔Rl r.Rows a c∨(eh r i/\eh r k/\(a:Int)=i/\(c:Int)=k):=by
 unfold cB;by_cases hc:aI r/\eh r i/\eh r k;rw[ao hc];obtain⟨_,hi,hk⟩:=hc;have hi1:=hi.1;have hi2:=hi.2;have hk1:=hk.1;have hl:=h.2.2.1;unfold wz Rl;dsimp only;rw[Cwz,List.getElem?_set];by_cases e:i.toNat=a;rw[ao e,ao (by omega),Cbz,w8,Nat.testBit_or,cE,Nat.testBit_two_pow];unfold gY;rw[e];simp only[Bool.or_eq_true,decide_eq_true_eq];constructor;rintro (U|U);exact .inl U;exact .inr ⟨hi,hk,by omega,by omega⟩;rintro (U|⟨_,_,_,U⟩);exact .inl U;exact .inr (by omega);rw[al e,← Cwz];constructor;exact λU=>.inl U;rintro (U|⟨_,_,U,_⟩);exact U;omega;rw[al hc];constructor;exact λU=>.inl U;rintro (U|⟨U,W,_⟩);exact U;exact absurd ⟨h,U,W⟩ hc
def dW (a b:au):Prop:=aI a/\aI b/\a.N=b.N/\∀ i j:Nat,Rl a.Rows i j->Rl b.Rows i j
theorem dW.refl {a:au}(h:aI a):dW a a:=⟨h,h,rfl,λ_ _ h=>h⟩
theorem dW.trans {a b c:au}(h:dW a b)(k:dW b c):dW a c:=⟨h.1,k.2.1,h.2.2.1.trans k.2.2.1,λi j x=>k.2.2.2 i j (h.2.2.2 i j x)⟩
theorem lE {a b:au}(h:a.N=b.N)(i:Int):eh a i->eh b i:=λ⟨U,W⟩=>⟨U,by omega⟩
theorem dW.add {a b:au}(h:dW a b)(i k:Int):dW a (cB b i k):=
 h.trans ⟨h.2.1,oZ h.2.1 i k,(nD _ _ _).2.symm,λx y hx=>(wu h.2.1 i k x y).2 (.inl hx)⟩
theorem dW.close {a:au}(h:aI a):dW a (cC a):=by
 refine⟨h,xS h,(xo _).2.symm,λi j hx=>?_⟩;unfold cC;rw[ao h];exact JD (mw h).1 _ i j hx
theorem xD (own:au)(a:Nat)(x:Int):∀ (ys:List Int) (i:Nat) (o:au),aI o->dW o (fP own a x i ys o)
 | [],i,o,h=>dW.refl h
 | y::ys,i,o,h=>by
  rw[fP];by_cases hp:bD own (a:Int) (i:Int);rw[ao hp];exact ((dW.refl h).add x y).trans (xD own a x ys (i+1) _ (oZ h x y));rw[al hp];exact xD own a x ys (i+1) _ h
theorem Bj (own:au)(at' : List Int):∀ (xs:List Int) (a:Nat) (o:au),aI o->dW o (iy own at' a xs o)
 | [],a,o,h=>dW.refl h
 | x::xs,a,o,h=>by
  rw[iy];have U:=xD own a x at' 0 o h;exact U.trans (Bj own at' xs (a+1) _ U.2.1)
theorem Fa (g:ak)(r:aa):∀ (l:List au) (k:Nat) (o:au),aI o->dW o (dN g r k l o)
 | [],k,o,h=>dW.refl h
 | own::l,k,o,h=>by
  rw[dN];have U:dW o (j5 g r o ((k+1:Nat):Int) own):=Bj own _ _ 0 o h;exact U.trans (Fa g r l (k+1) _ U.2.1)
theorem Bi {n:Int}(h0:0<=n)(U:n<=16):aI ⟨n,Bqz n.toNat 0⟩:=by
 refine⟨h0,U,by simp;omega,λx hx=>?_⟩;have:=(List.mem_replicate.1 hx).2;have W:=Nat.two_pow_pos n.toNat
 dsimp only;omega
theorem Dg {g:ak}{r:aa}{m:Nat}(hm:m<(cL g (cy r ((0:Nat):Int))).length):(dv g r ((0:Nat):Int))[m]?=some (m:Int):=by
 unfold dv;have e:bk g r=b0 g r 0++(List.range' 1 r.rt_.length).flatMap (b0 g r):=by unfold bk;rw[List.range'_succ,Bkz]
 have f1:((b0 g r 0).zipIdx 0).filter (λq=>decide (q.1.Pos=((0:Nat):Int)))=(b0 g r 0).zipIdx 0:=List.filter_eq_self.2 λq hq=>by
  have:=Exz hq;unfold b0 at this;obtain⟨a,_,ha⟩:=List.mem_map.1 this;rw[← ha];simp
 have f2:(((List.range' 1 r.rt_.length).flatMap (b0 g r)).zipIdx (0+(b0 g r 0).length)).filter (λq=>decide (q.1.Pos=((0:Nat):Int)))=[]:=List.filter_eq_nil_iff.2 λq hq=>by
  have:=Exz hq;obtain⟨k,hk,hk2⟩:=List.mem_flatMap.1 this;rw[List.mem_range'_1] at hk;unfold b0 at hk2;obtain⟨a,_,ha⟩:=List.mem_map.1 hk2;rw[← ha];simp;omega
 rw[e,List.zipIdx_append,List.filter_append,f1,f2,Cgz,Czz,List.getElem?_zipIdx];have hl:m<(b0 g r 0).length:=by unfold b0;rw[bn];exact hm
 rw[Cmz hl];simp
theorem EE:∀ (n:Nat) (l:List Nat),l.Nodup->(∀ x∈l,x<n)->l.length<=n
 | 0,[],_,_=>Acz _
 | 0,x::l,_,h=>absurd (h x Ckz) (Nat.not_lt_zero _)
 | n+1,l,hd,h=>by
  by_cases hn:n∈l;have U:=EE n (l.erase n) (hd.erase n) λx hx=>by
   have W:=(List.Nodup.mem_erase_iff hd).1 hx;have:=h x W.2;have:=W.1;omega
  rw[List.length_erase_of_mem hn] at U;omega;have:=EE n l hd λx hx=>by
   have W:=h x hx;have:x≠n:=λe=>hn (e▸hx);omega
  omega
def oh:List Bool->Nat
 | []=>0
 | b::bs=>(if b=true then 1 else 0)+2*oh bs
theorem IZ:∀ l:List Bool,oh l<2 ^ l.length
 | []=>by decide
 | b::bs=>by
  have:=IZ bs;rw[oh,bH,Nat.pow_succ];split<;>omega
theorem ED:∀ {l m:List Bool},l.length=m.length->oh l=oh m->l=m
 | [],[],_,_=>rfl
 | [],_::_,h,_=>by simp at h
 | _::_,[],h,_=>by simp at h
 | b::bs,c::cs,h,e=>by
  rw[oh,oh] at e;have h' : bs.length=cs.length:=by simpa using h
  cases b<;>cases c<;>simp at e;rw[ED h' (by omega)];omega;omega;rw[ED h' (by omega)]
theorem IY {α:Type}{p q:α->Bool}(h:∀ x,p x=true->q x=true->False):∀ l:List α,(l.filter p).length+(l.filter q).length<=l.length
 | []=>Acz _
 | x::l=>by
  have:=IY h l;rw[List.filter_cons,List.filter_cons,bH];cases hp:p x<;>cases hq:q x;simp;omega;simp;omega;simp;omega;exact absurd hq (λhq=>h x hp hq)
theorem Tt {a b:au}(ha:aI a)(Y:aI b)(hN:a.N=b.N)(h:∀ i j:Nat,Rl a.Rows i j↔Rl b.Rows i j):a=b:=by
 obtain⟨n,xs⟩:=a;obtain⟨m,ys⟩:=b;have U:=ha.2.2.1;have W:=Y.2.2.1;dsimp only at U W hN;have e:xs=ys:=by
  apply List.ext_getElem?;intro i;by_cases hi:i<xs.length;obtain⟨x,hx⟩:∃ x,xs[i]?=some x:=⟨_,Cmz hi⟩
  obtain⟨y,hy⟩:∃ y,ys[i]?=some y:=⟨_,Cmz (by omega)⟩
  have hx0:=(ha.2.2.2 x (Bvz hx)).1;have hy0:=(Y.2.2.2 y (Bvz hy)).1;have:x.toNat=y.toNat:=by
   apply Nat.eq_of_testBit_eq;intro j;have:=h i j;unfold Rl at this;dsimp only at this;rw[Cwz,Cwz,hx,hy,Cbz,Cbz] at this;exact Bool.eq_iff_iff.2 this
  rw[hx,hy];congr 1;omega;rw[Avz (by omega),Avz (by omega)]
 rw[e,hN]
def ko (L:List aH)(s:au):Prop:=aI s/\s.N=(L.length:Int)/\∀ a b:Nat,Rl s.Rows a b->∃ x y,L[a]?=some x/\x.Mode=1/\L[b]?=some y/\y.Mode=2
def lI (L:List aH)(m:Int)(a:Nat):Bool:=decide ((L[a]?).map (·.Mode)=some m)
def mi (L:List aH):List (Nat×Nat):=((Amz L.length).filter (lI L 1)).flatMap λa=>((Amz L.length).filter (lI L 2)).map λb=>(a,b)
theorem FA {α β:Type}{f:α->List β}{n:Nat}(h:∀ x,(f x).length=n):∀ l:List α,(l.flatMap f).length=l.length*n
 | []=>by simp
 | x::l=>by rw[Bkz,Axz,h,FA h l,bH,Ezz];omega
theorem Vt {L:List aH}(h:L.length<=4):(mi L).length<=4:=by
 unfold mi;rw[FA (n:=((Amz L.length).filter (lI L 2)).length) λx=>by rw[bn]];have U:=IY (p:=lI L 1) (q:=lI L 2) (λx U W=>by
  unfold lI at U W;have U:=of_decide_eq_true U;have W:=of_decide_eq_true W;rw[U] at W;cases W) (Amz L.length)
 rw[List.length_range] at U;generalize ((Amz L.length).filter (lI L 1)).length=x at U;generalize ((Amz L.length).filter (lI L 2)).length=y at U;have:x=0∨x=1∨x=2∨x=3∨x=4:=by omega
 rcases this with e|e|e|e|e<;>subst e<;>omega
noncomputable def vQ (L:List aH) (s:au):Nat:=oh ((mi L).map λp=>s.Rows.getD p.1 0 |>.toNat.testBit p.2)
theorem Ts {L:List aH}(h:L.length<=4)(s:au):vQ L s<16:=by
 have U:=IZ ((mi L).map λp=>s.Rows.getD p.1 0 |>.toNat.testBit p.2);have W:=Vt h;rw[bn] at U;have h3:2 ^ (mi L).length<=2 ^ 4:=Nat.pow_le_pow_right (by decide) W;unfold vQ;omega
theorem UF {L:List aH}{s t:au}(hs:ko L s)(ht:ko L t)(h:vQ L s=vQ L t):s=t:=by
 have e:=ED (by simp) h;have key:∀ {s t:au},ko L s->((mi L).map λp=>(s.Rows.getD p.1 0).toNat.testBit p.2)=((mi L).map λp=>(t.Rows.getD p.1 0).toNat.testBit p.2)->∀ i j:Nat,Rl s.Rows i j->Rl t.Rows i j:=by
  intro s t hs e i j h;obtain⟨x,y,U,W,h3,h4⟩:=hs.2.2 i j h;have hm:(i,j)∈mi L:=by
   unfold mi;refine List.mem_flatMap.2 ⟨i,List.mem_filter.2 ⟨List.mem_range.2 (List.getElem?_eq_some_iff.1 U).1,by unfold lI;rw[U];simp[W]⟩,?_⟩;exact List.mem_map.2 ⟨j,List.mem_filter.2 ⟨List.mem_range.2 (List.getElem?_eq_some_iff.1 h3).1,by unfold lI;rw[h3];simp[h4]⟩,rfl⟩
  have:=(List.map_inj_left.1 e) (i,j) hm;unfold Rl at h ⊢;dsimp only at this;rw[← this];exact h
 exact Tt hs.1 ht.1 (hs.2.1.trans ht.2.1.symm) λi j=>⟨key hs e i j,key ht e.symm i j⟩
theorem Bh {L:List aH}(h:L.length<=4){l:List au}(hn:l.Nodup)(hl:∀ s∈l,ko L s):l.length<=16:=by
 have:=EE 16 (l.map (vQ L)) (by
  rw[List.Nodup,List.pairwise_map];refine List.Pairwise.imp_of_mem ?_ hn;intro a b ha Y hne hc;exact hne (UF (hl a ha) (hl b Y) hc)) λx hx=>by
  obtain⟨s,_,rfl⟩:=List.mem_map.1 hx;exact Ts h s
 rwa[bn] at this
theorem Vs {g:ak}(hg:dQ g){r:aa}(hn:(cL g r.Left).length<=16)(c:au):∃ s,lU g r c=some s/\ko (cL g r.Left) s:=by
 have hv:=Bi (n:=((cL g r.Left).length:Int)) (by omega) (by omega);have P0:∀ s:List Int×Int,ko (cL g r.Left) ⟨s.2,s.1⟩->s.1.length<=1048576:=λs h=>by have:=h.1.2.2.1;have:=h.1.2.1;dsimp only at *;omega
 obtain⟨s',e,h3⟩:=iW (P:=λ_ (s:List Int×Int)=>ko (cL g r.Left) ⟨s.2,s.1⟩) (f:=nQ c (cL g r.Left)) (xs:=cL g r.Left) (i:=0) (s:=(Bqz ((cL g r.Left).length:Int).toNat 0,((cL g r.Left).length:Int))) ⟨hv,rfl,λa b h=>by
   exfalso;unfold Rl at h;rw[Cwz,List.getElem?_replicate] at h;split at h<;>simp at h⟩ λk x s hx hs=>by
  rw[Adz];obtain⟨s1,s2⟩:=s;obtain⟨s',e,h3⟩:=iW (P:=λ_ (s:List Int×Int)=>ko (cL g r.Left) ⟨s.2,s.1⟩) (f:=mU c k x) (xs:=cL g r.Left) (i:=0) (s:=(s1,s2)) hs λk2 x2 s hx2 hs=>by
   rw[Adz];obtain⟨t1,t2⟩:=s;have hl:=P0 _ hs;dsimp only at hs hl;unfold mU;dsimp only;rw[pg,wa (r:=⟨t2,t1⟩) hl];simp only[aj];by_cases p1:bD c (k:Int) (k2:Int);by_cases m1:x.Mode=1;by_cases m2:x2.Mode=2;simp only[m1,m2,p1,if_true,decide_true,aj];refine⟨_,rfl,oZ hs.1 _ _,(nD _ _ _).2.trans hs.2.1,λa b h=>?_⟩;rcases (wu hs.1 _ _ a b).1 h with h|⟨_,_,U,W⟩
   exact hs.2.2 a b h;have e1:a=k:=by omega
   have e2:b=k2:=by omega
   subst e1;subst e2;exact⟨x,x2,hx,m1,hx2,m2⟩;simp only[m1,m2,if_true,if_false,decide_false,aj,Eaz];exact⟨_,rfl,hs⟩;simp only[m1,if_false,aj,Eaz];exact⟨_,rfl,hs⟩;by_cases m1:x.Mode=1;by_cases m2:x2.Mode=2;simp only[m1,m2,p1,if_true,if_false,decide_true,decide_false,aj,Eaz];exact⟨_,rfl,hs⟩;simp only[m1,m2,if_true,if_false,decide_false,aj,Eaz];exact⟨_,rfl,hs⟩;simp only[m1,if_false,aj,Eaz];exact⟨_,rfl,hs⟩
  exact⟨s',by unfold nQ;dsimp only;rw[e];rfl,h3⟩
 obtain⟨s1,s2⟩:=s';refine⟨⟨s2,s1⟩,?_,h3⟩;unfold lU;rw[Fc hg,aj,EL (by omega) (by omega),aj];dsimp only;rw[e];rfl
def cJ:List Nat->Nat
 | []=>1
 | c::cs=>c*cJ cs
def bO:List Nat->Nat->List Nat
 | [],_=>[]
 | _::cs,n=>(n / cJ cs)::bO cs (n % cJ cs)
def jR:List Nat->List Nat->Option (List Nat)
 | c::cs,d::ds=>match jR cs ds with
  | some ds'=>some (d::ds')
  | none=>if d+1<c then some ((d+1)::Bqz cs.length 0) else none
 | _,_=>none
theorem wt:∀ (cs:List Nat) (n:Nat),(bO cs n).length=cs.length
 | [],_=>rfl
 | _::cs,n=>by rw[bO,bH,wt cs,bH]
theorem Ax:∀ cs:List Nat,bO cs 0=Bqz cs.length 0
 | []=>rfl
 | c::cs=>by rw[bO,Nat.zero_div,Nat.zero_mod,Ax cs,bH,List.replicate_succ]
theorem EC:∀ (cs:List Nat) (n:Nat),n<cJ cs->jR cs (bO cs n)=if n+1<cJ cs then some (bO cs (n+1)) else none
 | [],n,h=>by
  rw[cJ] at h;rw[al (by rw[cJ];omega)];rfl
 | c::cs,n,h=>by
  rw[cJ] at h ⊢;have hP:0<cJ cs:=Faz λe=>by rw[e] at h;omega
  have Z:=Fbz n hP;have hq:n / cJ cs<c:=(Fcz hP).2 h;have hn:=Nat.div_add_mod n (cJ cs);rw[bO,jR,EC cs _ Z];generalize hQ:n / cJ cs=q at hq hn ⊢;generalize hR:n % cJ cs=r at Z hn ⊢;generalize hPe:cJ cs=P at h hP Z hn ⊢;by_cases U:r+1<P;rw[ao U];have hc:n+1<c*P:=by
   have:(q+1)*P<=c*P:=Cpz _ hq;rw[Ezz,Fdz] at this;omega
  have e1:(n+1) / P=q:=by
   rw[← hn];rw[show P*q+r+1=(r+1)+P*q by omega,Fez _ _ hP,Nat.div_eq_of_lt U,Adz]
  have e2:(n+1) % P=r+1:=by
   rw[← hn,show P*q+r+1=(r+1)+P*q by omega,Ffz,Fgz U]
  rw[ao hc,bO,hPe,e1,e2];rw[al U];have hr1:r+1=P:=by omega
  have hn1:n+1=P*(q+1):=by rw[Nat.mul_succ];omega
  have e1:(n+1) / P=q+1:=by rw[hn1,Nat.mul_div_cancel_left _ hP]
  have e2:(n+1) % P=0:=by rw[hn1,Nat.mul_mod_right]
  dsimp only;by_cases W:q+1<c;have hc:n+1<c*P:=by
   rw[hn1,Fdz c P];exact (Nat.mul_lt_mul_left hP).2 W
  rw[ao W,ao hc,bO,hPe,e1,e2,Ax];have hc:¬ n+1<c*P:=by
   have:c=q+1:=by omega
   rw[hn1,this,Fdz P];omega
  rw[al W,al hc]
theorem E9:∀ (cs:List Nat) (n:Nat),cJ (cs++[n])=cJ cs*n
 | [],n=>by simp[cJ]
 | c::cs,n=>by rw[Ewz,cJ,cJ,E9 cs,Nat.mul_assoc]
theorem Kv (n:Nat):∀ (cs:List Nat) (m:Nat),m<cJ cs*n->bO (cs++[n]) m=bO cs (m / n)++[m % n]
 | [],m,h=>by
  rw[cJ,Nat.one_mul] at h;show [m / 1]=[m % n];rw[Nat.div_one,Fgz h]
 | c::cs,m,h=>by
  rw[cJ] at h;have hP:0<cJ cs*n:=Faz λe=>by rw[Nat.mul_assoc,e] at h;omega
  rw[Ewz,bO,bO,E9,Kv n cs _ (Fbz _ hP),Nat.mod_mul_left_div_self,Nat.mod_mul_left_mod,Nat.div_div_eq_div_mul,Fdz n];rfl
def cP (cs:List Nat):List (List Nat):=(Amz (cJ cs)).map (bO cs)
theorem Lf (n:Nat):∀ p:Nat,Amz (p*n)=(Amz p).flatMap λi=>(Amz n).map λj=>i*n+j
 | 0=>by simp
 | p+1=>by
  rw[Ezz,List.range_add,Lf n p,List.range_succ,List.flatMap_append];simp
theorem ND {α β:Type}{f g:α->List β}:∀ {l:List α},(∀ x∈l,f x=g x)->l.flatMap f=l.flatMap g
 | [],_=>rfl
 | x::l,h=>by rw[Bkz,Bkz,h x Ckz,ND λy hy=>h y (Buz _ hy)]
theorem IX (cs:List Nat)(n:Nat):cP (cs++[n])=(cP cs).flatMap λc=>(Amz n).map λj=>c++[j]:=by
 unfold cP;rw[E9,Lf,List.map_flatMap,List.flatMap_map];refine ND λi hi=>?_;rw[List.map_map];refine List.map_congr_left λj hj=>?_;have U:=List.mem_range.1 hi;have W:=List.mem_range.1 hj;have hlt:i*n+j<cJ cs*n:=by
  have:(i+1)*n<=cJ cs*n:=Cpz _ U;rw[Ezz] at this;omega
 show bO (cs++[n]) (i*n+j)=bO cs i++[j];have hn:0<n:=by omega
 rw[Kv n cs _ hlt];rw[show i*n+j=j+n*i by rw[Fdz,Nat.add_comm],Fez _ _ hn,Nat.div_eq_of_lt W,Adz,Ffz,Fgz W]
theorem Iy:cP []=[[]]:=rfl
theorem EB:∀ {cs:List Nat},(∀ c∈cs,0<c)->0<cJ cs
 | [],_=>Nat.one_pos
 | c::cs,h=>Nat.mul_pos (h c Ckz) (EB λx hx=>h x (Buz _ hx))
theorem Le:∀ {cs:List Nat},0∈cs->cJ cs=0
 | c::cs,h=>by
  rw[cJ];rcases List.mem_cons.1 h with e|e;rw[← e,Nat.zero_mul];rw[Le e,Nat.mul_zero]
theorem Jp {b:Nat}:∀ {cs:List Nat},(∀ c∈cs,c<=b)->cJ cs<=b ^ cs.length
 | [],_=>Acz _
 | c::cs,h=>by
  rw[cJ,bH,Nat.pow_succ,Fdz];exact Nat.mul_le_mul (Jp λx hx=>h x (Buz _ hx)) (h c Ckz)
theorem Ak:∀ {cs:List Nat} {n:Nat},n<cJ cs->∀ (i d c:Nat),(bO cs n)[i]?=some d->cs[i]?=some c->d<c
 | [],n,h,i,d,c,U,W=>by rw[List.getElem?_nil] at W;cases W
 | x::cs,n,h,0,d,c,U,W=>by
  cases U;cases W;rw[cJ] at h;have hP:0<cJ cs:=Faz λe=>by rw[e] at h;omega
  exact (Fcz hP).2 h
 | x::cs,n,h,i+1,d,c,U,W=>by
  rw[cJ] at h;have hP:0<cJ cs:=Faz λe=>by rw[e] at h;omega
  exact Ak (Fbz _ hP) i d c U W
def H4:au:=⟨0,[]⟩
def cq (g:ak)(n:an):Nat:=(eK g n).getD 0
def aX (g:ak)(A:List (List au)):Prop:=A.length=g.ss_.length/\∀ (k:Nat) (y:af) (L:List au),g.ss_[k]?=some y->A[k]?=some L->L.Nodup/\∀ a∈L,ko (cL g y.Name) a
def eH (g:ak)(A:List (List au))(n:an):List au:=A.getD (cq g n) []
theorem Ku {g:ak}{n:an}(hn:(bT g n).2=true):∃ y,gy g n=(cq g n:Int)/\g.ss_[cq g n]?=some y/\y.Name=n:=by
 obtain⟨j,y,U,W,h3,h4⟩:=KA hn;have e:cq g n=j:=by unfold cq;rw[U];rfl
 refine⟨y,?_,by rw[e];exact W,h4⟩;unfold gy;rw[U,e]
theorem aX.at_ {g:ak}{A:List (List au)}(h:aX g A){n:an}(hn:(bT g n).2=true):gy g n=(cq g n:Int)/\cq g n<A.length/\A[cq g n]?=some (eH g A n)/\(eH g A n).Nodup/\∀ a∈eH g A n,ko (cL g n) a:=by
 obtain⟨y,U,W,h3⟩:=Ku hn;have hj:=(List.getElem?_eq_some_iff.1 W).1;have e:A[cq g n]?=some (eH g A n):=by
  unfold eH;rw[Cwz,Cmz (by rw[h.1];exact hj)];rfl
 have:=h.2 _ y _ W e;rw[h3] at this;exact⟨U,by rw[h.1];exact hj,e,this⟩
theorem aX.le {g:ak}(hS:Shape g){A:List (List au)}(h:aX g A){n:an}(hn:(bT g n).2=true):(eH g A n).length<=16:=
 Bh (hS.plain n) (h.at_ hn).2.2.2.1 (h.at_ hn).2.2.2.2
def bC (g:ak)(r:aa)(A:List (List au)):List Nat:=r.rt_.map λn=>(eH g A n).length
def fy (g:ak)(r:aa)(A:List (List au))(c:List Nat):List au:=(r.rt_.zip c).map λp=>(eH g A p.1).getD p.2 H4
def iL (l:List Nat):List Int:=l.map (λn:Nat=>((n:Nat):Int))
def Ch (g:ak)(r:aa)(A:List (List au))(c:List Nat):Prop:=c.length=r.rt_.length/\∀ (i:Nat) (n:an) (d:Nat),r.rt_[i]?=some n->c[i]?=some d->d<(eH g A n).length
theorem Dw {g:ak}{r:aa}{A:List (List au)}{c:List Nat}(h:c∈cP (bC g r A)):Ch g r A c:=by
 unfold cP at h;obtain⟨m,hm,rfl⟩:=List.mem_map.1 h;refine⟨by rw[wt];unfold bC;rw[bn],λi n d U W=>?_⟩;refine Ak (List.mem_range.1 hm) i d _ W ?_;unfold bC;rw[Czz,U];rfl
theorem sD {g:ak}{r:aa}{A:List (List au)}{c:List Nat}(h:Ch g r A c):(fy g r A c).length=r.rt_.length:=by
 unfold fy;rw[bn,List.length_zip,h.1,Nat.min_self]
theorem EA {g:ak}{r:aa}{A:List (List au)}{c:List Nat}(h:Ch g r A c){i:Nat}{n:an}{d:Nat}(U:r.rt_[i]?=some n)(W:c[i]?=some d) :
  ∃ own,(fy g r A c)[i]?=some own/\(eH g A n)[d]?=some own:=by
 have hd:=h.2 i n d U W;refine⟨(eH g A n)[d],?_,Cmz hd⟩;unfold fy;have hz:(r.rt_.zip c)[i]?=some (n,d):=List.getElem?_zip_eq_some.2 ⟨U,W⟩;rw[Czz,hz];simp only[Option.map_some];rw[Cwz,Cmz hd];rfl
theorem wX {g:ak}(hS:Shape g){r:aa}(Z:r∈g.rs_){A:List (List au)}(hA:aX g A){c:List Nat}(h:Ch g r A c):ny g r (fy g r A c):=by
 refine⟨sD h,λk own hk=>?_⟩;have hlt:=(List.getElem?_eq_some_iff.1 hk).1;rw[sD h] at hlt;obtain⟨n,hn⟩:∃ n,r.rt_[k]?=some n:=⟨_,Cmz hlt⟩
 obtain⟨d,hd⟩:∃ d,c[k]?=some d:=⟨_,Cmz (by rw[h.1];exact hlt)⟩
 obtain⟨own',U,W⟩:=EA h hn hd;rw[hk] at U;cases U;have:=(hA.at_ (hS.right Z (Bvz hn))).2.2.2.2 own (Bvz W);rw[tP hn];exact⟨this.1,this.2.1⟩
noncomputable def eG (g:ak) (r:aa) (A:List (List au)) (c:List Nat):au:=eU g r (fS g r (fy g r A c))
theorem wb {g:ak}(h0:Sz.szd g<=1048576)(hS:Shape g)(r:aa)(x:au):ko (cL g r.Left) (eU g r x):=by
 obtain⟨s,U,W⟩:=Vs (iP h0) (r:=r) (by have:=hS.plain r.Left;omega) x;unfold eU;rw[U];exact W
noncomputable def stA (w:Nat) (s:au) (q:List (List au)×Bool):List (List au)×Bool:=if s∈q.1.getD w [] then q else (q.1.set w (q.1.getD w []++[s]),true)
def cd (A B:List (List au)):Prop:=B.length=A.length/\∀ (k:Nat) (L:List au),A[k]?=some L->∃ t,B[k]?=some (L++t)
theorem cd.rfl' (A:List (List au)):cd A A:=⟨rfl,λk L h=>⟨[],by rw[Cgz];exact h⟩⟩
def fU (A:List (List au)):Nat:=(A.map (·.length)).sum
theorem Jo:∀ (A:List (List au)) (k:Nat) (x a:List au),A[k]?=some a->fU (A.set k x)+a.length=fU A+x.length
 | [],k,x,a,h=>by simp at h
 | b::A,0,x,a,h=>by simp at h;subst h;unfold fU;simp;omega
 | b::A,k+1,x,a,h=>by
  have ih:=Jo A k x a (by simpa using h);unfold fU at ih ⊢;simp only[List.set_cons_succ,List.map_cons,List.sum_cons];omega
theorem aX.bound {g:ak}(hS:Shape g){A:List (List au)}(h:aX g A):fU A<=g.ss_.length*16:=by
 have key:∀ l:List (List au),(∀ a∈l,a.length<=16)->fU l<=l.length*16:=by
  intro l
  induction l with
  | nil=>intro _;simp[fU]
  | cons a l ih=>
   intro hv;have U:=hv a (by simp);have W:=ih λb Y=>hv b (by simp[Y]);unfold fU at W ⊢;simp only[List.map_cons,List.sum_cons,bH];omega
 rw[← h.1];refine key A λL hL=>?_;obtain⟨k,hk⟩:=List.getElem?_of_mem hL;have hlt:=(List.getElem?_eq_some_iff.1 hk).1;obtain⟨y,hy⟩:∃ y,g.ss_[k]?=some y:=⟨_,Cmz (by rw[← h.1];exact hlt)⟩
 exact Bh (hS.plain y.Name) (h.2 k y L hy hk).1 (h.2 k y L hy hk).2
structure Mv (g:ak) (A:List (List au)) (q q' : List (List au)×Bool):Prop where
 inv:aX g q'.1
 ext:cd A q'.1
 le:fU q.1<=fU q'.1
 up:q'.2=true->q.2=true∨fU q.1<fU q'.1
 no:q'.2=false->q'=q
theorem Mv.refl {g:ak}{A:List (List au)}{q:List (List au)×Bool}(h:aX g q.1)(he:cd A q.1):Mv g A q q:=⟨h,he,Acz _,λh=>.inl h,λ_=>rfl⟩
theorem Mv.trans {g:ak}{A:List (List au)}{p q s:List (List au)×Bool}(U:Mv g A p q)(W:Mv g A q s):Mv g A p s:=
 ⟨W.inv,W.ext,Bgz U.le W.le,λh=>by
  rcases W.up h with h|h;rcases U.up h with h|h;exact .inl h;exact .inr (Nat.lt_of_lt_of_le h W.le);exact .inr (Nat.lt_of_le_of_lt U.le h),λh=>by
  have e:=W.no h;rw[e] at h ⊢;exact U.no h⟩
theorem zX {g:ak}(hS:Shape g){r:aa}(Z:r∈g.rs_){A:List (List au)}{q:List (List au)×Bool}(h:aX g q.1)(he:cd A q.1){s:au}(hs:ko (cL g r.Left) s):Mv g A q (stA (cq g r.Left) s q):=by
 unfold stA;have hk:=hS.left Z;obtain⟨U,W,h3,h4,h5⟩:=h.at_ hk;have hg:q.1.getD (cq g r.Left) []=eH g q.1 r.Left:=rfl;rw[hg];by_cases hm:s∈eH g q.1 r.Left;rw[ao hm];exact .refl h he;rw[al hm];have ht:=Jo q.1 (cq g r.Left) (eH g q.1 r.Left++[s]) _ h3;rw[Axz,Coz] at ht;refine⟨⟨by rw[Clz];exact h.1,λk y L hy hL=>?_⟩,⟨by rw[Clz];exact he.1,λk L hL=>?_⟩,by dsimp only;omega,λ_=>.inr (by dsimp only;omega),λh=>by cases h⟩;dsimp only at hL;by_cases e:cq g r.Left=k;subst e;rw[Euz W] at hL;cases hL;obtain⟨y',_,h7,h8⟩:=Ku hk;rw[hy] at h7;cases h7;rw[h8];refine⟨List.nodup_append.2 ⟨h4,by simp,λa ha b Y e=>?_⟩,λa ha=>?_⟩;rw[Bpz] at Y;subst Y;subst e;exact hm ha;rcases List.mem_append.1 ha with ha|ha;exact h5 a ha;rw[Bpz] at ha;subst ha;exact hs;rw[Eyz e] at hL;exact h.2 k y L hy hL;obtain⟨t,e2⟩:=he.2 k L hL;by_cases e:cq g r.Left=k;subst e;rw[h3] at e2;refine⟨t++[s],?_⟩;dsimp only;rw[Euz W,Option.some.inj e2,Azz];exact⟨t,by dsimp only;rw[Eyz e];exact e2⟩
theorem Mv.fold {α:Type}{g:ak}{A:List (List au)}{f:List (List au)×Bool->α->List (List au)×Bool}:∀ (l:List α) (q:List (List au)×Bool),aX g q.1->cd A q.1->(∀ q x,x∈l->aX g q.1->cd A q.1->Mv g A q (f q x))->Mv g A q (l.foldl f q)
 | [],q,h,he,_=>.refl h he
 | x::l,q,h,he,hf=>by
  have U:=hf q x (by simp) h he;exact U.trans (Mv.fold l _ U.inv U.ext λq y hy=>hf q y (by simp[hy]))
noncomputable def fW (g:ak) (A:List (List au)) (q:List (List au)×Bool) (r:aa):List (List au)×Bool:=(cP (bC g r A)).foldl (λq c=>stA (cq g r.Left) (eG g r A c) q) q
theorem Aj {g:ak}(h0:Sz.szd g<=1048576)(hS:Shape g){r:aa}(Z:r∈g.rs_){A:List (List au)}{q:List (List au)×Bool}(h:aX g q.1)(he:cd A q.1):Mv g A q (fW g A q r):=
 Mv.fold _ q h he λq c _ h he=>zX hS Z h he (wb h0 hS r _)
end Go.Proofs.YtodhafdaelcnlaaGreat
