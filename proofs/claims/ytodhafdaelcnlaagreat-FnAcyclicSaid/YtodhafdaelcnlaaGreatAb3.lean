/- Abstract states of a walk: plain lemmas on the model, without conditions of their own. -/
import Derived.Test.YtodhafdaelcnlaaGreatEng4
set_option linter.unusedVariables false
set_option linter.unusedSimpArgs false
set_option linter.ambiguousOpen false
set_option linter.unusedSectionVars false
set_option linter.unnecessarySimpa false
open Array renaming toArray_toList->Bcz
open Nat renaming lt_of_lt_of_le->Bfz,zero_le->Aez,le_refl->Acz
open List renaming flatMap_cons->Bkz,map_cons->Blz,mem_singleton->Bpz,replicate->Bqz,eq_nil_of_length_eq_zero->Awz,length_take->Brz,length_drop->Bsz,getElem?_take->Anz,getElem?_drop->Baz,getElem?_modify->Btz,mem_cons_of_mem->Buz,mem_of_getElem?->Bvz
open Option renaming map_eq_some_iff->Bwz,map_eq_map->Bxz,map_some->Byz
namespace Go.A
open Go Go.E
section
variable {P:Program}{S:Start}{n:Nat}{ρ:AE}{σ:St}{o:Oper}
theorem gH (σ:Nat->aw)(r:Nat)(x:aw):cg σ [(r,x)]=λi=>if i=r then x else σ i:=rfl
theorem LT.alloc {T:TypeId}{z:List Value}{zs:List X}{r:Nat}(ho:o.op=.alloc T)(hT:fO P T=some z)(hzs:∀ S1 w g,aQ S1 w g zs z)(Z:ai σ r=.none):LT P S o ρ σ [] (.pb r 0) [(r,.box zs)]:=by
 intro σ1 F g w ρc hs _ hwr _;have hr1:σ1 r=.none:=(hwr (r,_) (List.mem_singleton.2 rfl)).trans Z;obtain⟨v,hv,hc⟩:=uG (P:=P) (w:=w) hT;have he:(execOp (E.ev ρc) o).run P w=.ok (.value (.pointer (some ⟨w.heap.size,0,none⟩))) (w.alloc (.cells z.toArray T)):=by
  simp only[execOp,ho,Instr.alloc,newVar,hv,hc,Sem.run_bind,qZ,Result.andThen_ok,Sem.run_pure]
 rw[he];obtain⟨U,W⟩:=hs.new (r:=r) (x:=.box zs) (y:=.box w.heap.size T) hr1 (cd.alloc w (.cells z.toArray T)) (λ_ _=>⟨z,mF w T z,hzs _ _ _⟩) (by simp[bl]) (by simp[bl]);refine⟨F,_,by rw[gH];exact U,W,?_⟩;rw[vr];simp
theorem LT.box {T:TypeId}{x:Operand}{X1:X}{r:Nat}(ho:o.op=.box T x)(hx:aE ρ x=X1)(hsure:gm (ai σ) X1=true)(Z:ai σ r=.none):LT P S o ρ σ (dq X1) (.pb r 0) [(r,.box X1.cells)]:=by
 intro σ1 F g w ρc hs hrd hwr hv;have hr1:σ1 r=.none:=(hwr (r,_) (List.mem_singleton.2 rfl)).trans Z;have e1:=hv x (by simp[ho,Op.operands]);rw[hx] at e1;have hsA:gm σ1 X1=true:=by rw[tN (σ2:=ai σ) hrd];exact hsure
 have hcs:=oN hs hsA e1;have he:(execOp (E.ev ρc) o).run P w=.ok (.value (.pointer (some ⟨w.heap.size,0,none⟩))) (w.alloc (.cells (E.ev ρc x).cells.toList.toArray T)):=by
  simp only[execOp,ho,Instr.box,newVar,Sem.run_bind,Bcz];have:=qZ (P:=P) (w:=w) T (E.ev ρc x).cells.toList;simp only[Bcz] at this;rw[this];rfl
 rw[he];obtain⟨U,W⟩:=hs.new (r:=r) (x:=.box X1.cells) (y:=.box w.heap.size T) hr1 (cd.alloc w (.cells (E.ev ρc x).cells.toList.toArray T)) (λhk hp=>⟨(E.ev ρc x).cells.toList,mF w T _,by
  exact hcs.adv hk λi=>by
   by_cases hi:i=r;subst hi;have:g i=.none:=by
    have:=hs.roots i;rw[hr1] at this;revert this;cases g i<;>intro h<;>first|rfl|exact h.elim
   rw[this];trivial;simp only[al hi];exact da.refl _⟩) (by simp[bl]) (by simp[bl])
 refine⟨F,_,by rw[gH];exact U,W,?_⟩;rw[vr];simp
def spl {α:Type}(cs:List α)(c:Nat)(l:List α):List α:=cs.take c++l++cs.drop (c+l.length)
theorem Tz {S1:Md->Nat->Prop}{w:World}{g:Nat->G}{cs ys:List X}{vs us:List Value}{c:Nat}(h:aQ S1 w g cs vs)(k:aQ S1 w g ys us):aQ S1 w g (spl cs c ys) (cH vs c us):=by
 unfold spl cH;rw[← k.len];exact ((h.take c).append k).append (h.drop _)
theorem Lz {F:Nat->Prop}{g:Nat->G}{w:World}{σ1:Nat->aw}(hs:bp S F g σ1 w):∀ {xs:List X} {vs:List Value},xs.all (kz σ1)=true->aQ (SM F S.B) w g xs vs->∀ v∈vs,v.oneCell'=true
 | [],_,_,h=>by rw[aQ] at h;subst h;simp
 | x::xs,_,U,h=>by
  rw[aQ] at h;obtain⟨v,r,rfl,W,h3⟩:=h;simp only[List.all_cons,Bool.and_eq_true] at U;intro u hu;rcases List.mem_cons.1 hu with rfl|hu;exact KP hs U.1 W;exact Lz hs U.2 h3 u hu
theorem HL {T k:TypeId}{x y:Operand}{Z4:X}{r c:Nat}{cs:List X}(ho:o.op=.store T x y)(hk:cn P T=some k)(hx:aE ρ x=.pb r c)(hσ:ai σ r=.box cs)(hy:aE ρ y=Z4)(hl:Z4.cells.length=k)(hfit:Nat.ble (c+k) cs.length=true)(hsure:Z4.cells.all (kz (ai σ))=true) :
  LT P S o ρ σ (Z4.cells.flatMap dq) .u [(r,.box (spl cs c Z4.cells))]:=by
 intro σ1 F g w ρc hs hrd hwr hv;have hr1:σ1 r=.box cs:=(hwr (r,_) (List.mem_singleton.2 rfl)).trans hσ;obtain⟨b,TB,vs,hg,Y,hcs⟩:=oA hs hr1;have e1:=hv x (by simp[ho,Op.operands]);have e2:=hv y (by simp[ho,Op.operands]);rw[hx,vr,hg] at e1;rw[hy] at e2;have hsure' : Z4.cells.all (kz σ1)=true:=by
  rw[List.all_eq_true] at hsure ⊢;intro z hz;rw[Nq (σ2:=ai σ) λi hi=>hrd i (List.mem_flatMap.2 ⟨z,hz,hi⟩)];exact hsure z hz
 have hA:gm σ1 Z4=true:=by
  cases Z4 with
  | ag cs=>rfl
  | _=>simpa[X.cells,gm] using hsure'
 have hys:=oN hs hA e2;have hys1:=Lz hs hsure' hys;have hfit' : c+k<=vs.length:=by rw[hcs.len];simpa using hfit
 obtain⟨w',hrun,hchg,hb'⟩:=NA (P:=P) (w:=w) (v:=E.ev ρc y) (l:=(E.ev ρc y).cells.toList) hk (by simp) (by rw[hys.len,hl]) hys1 Y hfit';have he:(execOp (E.ev ρc) o).run P w=.ok .skip w':=by
  simp only[execOp,ho,e1,Instr.storeAt,Instr.sureAddr,Sem.run_bind,Sem.run_pure,Result.andThen_ok,hrun]
 obtain⟨U,W⟩:=hs.step (g':=g) (σ':=λi=>if i=r then .box (spl cs c Z4.cells) else σ1 i) (F':=F) (w':=w') (λi=>i=r) hchg (λi hi _=>⟨r,rfl,by rw[hg];simp[bl,hi]⟩) (λi hi=>⟨rfl,al hi⟩) (λi _=>da.refl _) (λ_ h=>h) (λq hq=>⟨Bfz (hs.flt q hq) hchg.size,.inl hq⟩)
  (λhkeep hp i hi=>by
   subst hi;simp only[if_true,hg];exact⟨_,hb',(Tz hcs hys).adv hkeep λi=>da.refl _⟩)
  (λi hi=>hs.nodup i) (λi j hi hj hij=>absurd (hi.trans hj.symm) hij) (λi q hi hq=>⟨Bfz (hs.own i q hq).1 hchg.size,(hs.own i q hq).2.1,.inr ⟨i,hi,hq⟩⟩)
 rw[he];exact⟨F,g,by rw[gH];exact U,W,by rw[vr];trivial⟩
theorem E1 {S1:Md->Nat->Prop}{w:World}{m:Md}:∀ {ds:List D} {vs:List Value},rdCs (S1 m) w ds vs->∃ ge:List GC,aL (aP S1 w) (ds.map (Cell.d m)) ge/\ge.map (·.val)=vs/\ge.flatMap (·.L)=[]
 | [],_,h=>by rw[rdCs] at h;subst h;exact⟨[],rfl,rfl,rfl⟩
 | d::ds,_,h=>by
  rw[rdCs] at h;obtain⟨v,r,rfl,W,h3⟩:=h;obtain⟨ge,h4,h5,h6⟩:=E1 h3;exact⟨⟨v,false,0,[]⟩::ge,⟨_,_,rfl,⟨rfl,rfl,W⟩,h4⟩,by simp[h5],by simpa using h6⟩
theorem p9 {S1:Md->Nat->Prop}{w:World}{m:Md}{k:Nat}:∀ {xs:List D} {cs:List Value},bg (S1 m) w k xs cs->∃ gs,aL (eY S1 w k) (xs.map (bN m)) gs/\bW gs=cs/\cw gs=[]
 | [],_,h=>by rw[bg] at h;subst h;exact⟨[],rfl,rfl,rfl⟩
 | x::xs,_,h=>by
  obtain⟨c,r,rfl,hl,h3,h4⟩:=gF.1 h;obtain⟨gs,h5,h6,h7⟩:=p9 h4;obtain⟨ge,h8,h9,h10⟩:=E1 h3;refine⟨ge::gs,⟨_,_,rfl,⟨by rw[bN,bn,← rdCs.len h3,hl],h8⟩,h5⟩,?_,?_⟩;simp only[bW,Bkz,h9];rw[← h6];rfl;simp only[cw,Bkz,h10,List.nil_append];exact h7
theorem KL {S1:Md->Nat->Prop}{w:World}{m:Md}:∀ {ds:List D} {ge:List GC},aL (aP S1 w) (ds.map (Cell.d m)) ge->rdCs (S1 m) w ds (ge.map (·.val))/\ge.flatMap (·.L)=[]/\∀ gc∈ge,gc.own=false
 | [],_,h=>by rw[show _=[] from h];simp[rdCs]
 | d::ds,_,⟨gc,r,U,W,h3⟩=>by
  subst U;obtain⟨h4,h5,h6⟩:=KL h3;refine⟨?_,?_,?_⟩;rw[Blz,rdCs];exact⟨_,_,rfl,W.2.2,h4⟩;simp[W.2.1];simpa using h5;intro gc' hg;rcases List.mem_cons.1 hg with rfl|hg;exact W.1;exact h6 _ hg
theorem Im {S1:Md->Nat->Prop}{w:World}{m:Md}{k:Nat}:∀ {xs:List D} {gs:List (List GC)},aL (eY S1 w k) (xs.map (bN m)) gs->bg (S1 m) w k xs (bW gs)/\cw gs=[]/\∀ ge∈gs,∀ gc∈ge,gc.own=false
 | [],_,h=>by rw[show _=[] from h];simp[bW,cw,bg]
 | x::xs,_,⟨ge,r,U,W,h3⟩=>by
  subst U;obtain⟨h4,h5,h6⟩:=Im h3;obtain⟨h7,h8,h9⟩:=KL W.2;refine⟨?_,?_,?_⟩;simp only[bW,Bkz];refine gF.2 ⟨_,_,rfl,?_,h7,h4⟩;rw[bn,W.2.len];exact W.1;simp only[cw,Bkz,h8,List.nil_append];exact h5;intro ge' hg;rcases List.mem_cons.1 hg with rfl|hg;exact h9;exact h6 _ hg
theorem kS {S1:Md->Nat->Prop}{w:World}{m:Md}{xs:List D}{v:Value}{k:Nat}{L:List Nat}{gs:List (List GC)}(h:rowOk S1 w (xs.map (bN m)) v k L gs):bL w k v xs.length L (bW gs)/\bg (S1 m) w k xs (bW gs)/\cw gs=[]/\∀ ge∈gs,∀ gc∈ge,gc.own=false:=by
 obtain⟨U,W⟩:=h;rw[bn] at U;exact⟨U,Im W⟩
theorem bp.newRow {F:Nat->Prop}{g:Nat->G}{w w' : World}{σ1:Nat->aw}(hs:bp S F g σ1 w){r:Nat}(Z:σ1 r=.none){m:Md}{xs:List D}{cs cur:List Value}{k cp T:Nat}(hc:cd w w')(Y:dE w' w.heap.size T cur)(hcur:cur.length=cp*k)(htk:cur.take (xs.length*k)=cs)(hcp:xs.length<=cp)(hcm:cp<=maxLen)(hrd:bg (SM F S.B m) w' k xs cs) :
  ∃ g',bp S F g' (λi=>if i=r then .row m k xs else σ1 i) w'/\cj S.B F g w F g' w'/\vr (SM F S.B) w' g' (.ref r none) (.slice (some ⟨w.heap.size,0,none⟩) xs.length cp):=by
 obtain⟨gs,U,W,h3⟩:=p9 hrd;have hlen:cs.length=xs.length*k:=hrd.len;obtain⟨h4,h5⟩:=hs.new (r:=r) (x:=.row m k xs) (y:=.row (.slice (some ⟨w.heap.size,0,none⟩) xs.length cp) k [w.heap.size] gs) Z hc (λ_ _=>by
   refine⟨rfl,⟨T,⟨?_,.inr ⟨w.heap.size,cp,cur.toArray,by simp,Aez _,Y,by simpa using hcp,hcm,by simpa using hcur,by simpa[W] using htk⟩⟩,by simp[Value.ownBlock]⟩,U⟩;rw[W,hlen];simp)
  (by simp[bl,h3]) (by simp only[bl,h3,List.append_nil,Bpz];rintro b rfl;exact⟨Acz _,Y.lt⟩)
 refine⟨_,h4,h5,?_⟩;rw[vr];simp only[if_true];intro u q hu;simp only[G.at] at hu;cases hu;rfl
def fR:Md->Md->Bool
 | .bo,.fz=>false
 | _,_=>true
theorem ox {F B:Nat->Prop}{m m' : Md}(h:fR m m'=true):∀ b,SM F B m b->SM F B m' b:=by
 cases m<;>cases m'<;>first|exact λb h=>h|exact λb h=>.inl h|cases h
def jV (m:Md):X->Option D
 | .d m' (.sl k xs)=>if fR m' m then some (.sl k xs) else none
 | .d _ (.a _)=>none
 | .d _ x=>some x
 | .nl k=>some (.sl k [])
 | _=>none
def eu (m:Md):List X->Option (List D)
 | []=>some []
 | x::xs=>match jV m x,eu m xs with
  | some y,some ys=>some (y::ys)
  | _,_=>none
def wP (m:Md):X->Option D
 | .ag cs=>(eu m cs).map .a
 | x=>jV m x
theorem IU {F B:Nat->Prop}{w:World}{g:Nat->G}{m:Md}{x:X}{d:D}{v:Value}(h:jV m x=some d)(hv:vr (SM F B) w g x v):rdC (SM F B m) w d v:=by
 cases x with
 | d m' x=>
  rw[vr] at hv;cases x<;>simp only[jV] at h
  case sl k xs=>
   split at h;rename_i hm;cases h;exact hv.mono (ox hm);cases h
  case a=>cases h
  all_goals (cases h;rw[rdC] at hv ⊢;exact hv)
 | nl k=>
  rw[vr] at hv;simp only[jV] at h;cases h;rw[rdC];exact⟨none,0,[],hv,Acz _,Aez _,by rw[bg],.inl rfl⟩
 | _=>simp only[jV] at h;cases h
theorem wG {F B:Nat->Prop}{w:World}{g:Nat->G}{m:Md}:∀ {xs:List X} {ds:List D} {vs:List Value},eu m xs=some ds->aQ (SM F B) w g xs vs->rdCs (SM F B m) w ds vs
 | [],ds,vs,h,hv=>by simp only[eu] at h;cases h;rw[aQ] at hv;rw[rdCs];exact hv
 | x::xs,ds,vs,h,hv=>by
  simp only[eu] at h;split at h;rename_i y ys U W;cases h;rw[aQ] at hv;obtain⟨v,r,h3,h4,h5⟩:=hv;rw[rdCs];exact⟨v,r,h3,IU U h4,wG W h5⟩;cases h
theorem UV {m:Md}{x:X}{d:D}(h:jV m x=some d):d.cells=[d]:=by
 cases x with
 | d m' x=>cases x<;>simp only[jV] at h<;>first|(cases h;rfl)|(split at h<;>first|(cases h;rfl)|cases h)|cases h
 | nl k=>simp only[jV] at h;cases h;rfl
 | _=>simp only[jV] at h;cases h
theorem Sj {F B:Nat->Prop}{w:World}{g:Nat->G}{m:Md}{x:X}{d:D}{v:Value}(h:wP m x=some d)(hv:vr (SM F B) w g x v):rd1 (SM F B m) w d v.cells.toList:=by
 have one:jV m x=some d->rd1 (SM F B m) w d v.cells.toList:=λh=>by
  have U:=IU h hv;rw[GE U.one,rd1,UV h];exact E3.2 ⟨v,rfl,U⟩
 cases x with
 | ag cs=>
  simp only[wP,Bwz] at h;obtain⟨ds,U,rfl⟩:=h;rw[vr] at hv;obtain⟨vs,rfl,hvs⟩:=hv;simpa[rd1,D.cells,Value.cells] using wG U hvs
 | _=>exact one h
end
section
variable {P:Program}{S:Start}{n:Nat}{ρ:AE}{σ:St}{o:Oper}
def eI:Nat->List X->List (Nat×X)
 | _,[]=>[]
 | k,x::xs=>(k,x)::eI (k+1) xs
def gi (m:Md):List X->Option (List D)
 | []=>some []
 | x::xs=>match wP m x,gi m xs with
  | some y,some ys=>some (y::ys)
  | _,_=>none
theorem IT {F B:Nat->Prop}{w:World}{g:Nat->G}{ρc:Env}{m:Md}{k:Nat}:∀ (l:List (Nat×Operand)) (i:Nat) (xs:List X) (ds:List D),l.map (λp=>(p.1,aE ρ p.2))=eI i xs->(∀ p∈l,vr (SM F B) w g (aE ρ p.2) (E.ev ρc p.2))->gi m xs=some ds->(∀ d∈ds,d.cells.length=k) ->
  ∃ vs css,l.map (λp=>(p.1,E.ev ρc p.2))=dJ i vs/\ly k vs css/\vs.length=ds.length/\bg (SM F B m) w k ds css.flatten
 | [],i,xs,ds,h,_,hd,_=>by
  cases xs with
  | nil=>simp only[gi] at hd;cases hd;exact⟨[],[],rfl,trivial,rfl,by simp[bg]⟩
  | cons x xs=>simp[eI] at h
 | p::l,i,xs,ds,h,hv,hd,hk=>by
  cases xs with
  | nil=>simp[eI] at h
  | cons x xs=>
   simp only[Blz,eI,List.cons.injEq] at h;obtain⟨U,W⟩:=h;simp only[gi] at hd;split at hd;rename_i y ys h3 h4;cases hd;obtain⟨vs,css,h5,h6,h7,h8⟩:=IT l (i+1) xs ys W (λq hq=>hv q (by simp[hq])) h4 λd hd=>hk d (by simp[hd]);have h9:=hv p (by simp);cases U;have h10:=Sj h3 h9;have hl:(E.ev ρc p.2).cells.toList.length=k:=by rw[h10.len];exact hk y (by simp)
   refine⟨E.ev ρc p.2::vs,(E.ev ρc p.2).cells.toList::css,?_,⟨by simp,hl,h6⟩,by simp[h7],?_⟩;simp[dJ,h5];rw[List.flatten_cons];exact gF.2 ⟨_,_,rfl,hl,h10,h8⟩;cases hd
theorem HK {T e k mm r:Nat}{m:Md}{z:List Value}{parts:Array (Nat×Operand)}{xs:List X}{ds:List D}(ho:o.op=.buildSlice T mm parts)(hT:cY P T=some e)(hk:cn P e=some k)(hz:fO P e=some z)(hzk:z.length=k)(hp:parts.toList.map (λp=>(p.1,aE ρ p.2))=eI 0 xs)(hd:gi m xs=some ds)(hw:ds.all (λd=>Nat.beq d.cells.length k)=true)
  (hn:ds.length=mm) (hk0:Nat.blt 0 k=true) (hm:Nat.blt 0 mm=true) (hm2:Nat.ble (mm*k) 100000=true) (Z:ai σ r=.none):LT P S o ρ σ [] (.ref r none) [(r,.row m k ds)]:=by
 intro σ1 F g w ρc hs _ hwr hv;have hr1:σ1 r=.none:=(hwr (r,_) (List.mem_singleton.2 rfl)).trans Z;have hw' : ∀ d∈ds,d.cells.length=k:=λd hd=>Nat.eq_of_beq_eq_true (List.all_eq_true.1 hw d hd);obtain⟨vs,css,U,W,h3,h4⟩:=IT (ρc:=ρc) parts.toList 0 xs ds hp (λp hp=>hv p.2 (by simp only[ho,Op.operands];simpa using ⟨p.1,by simpa using hp⟩)) hd hw';have hp' : parts.map (λp=>(p.1,E.ev ρc p.2))=(dJ 0 vs).toArray:=by
  apply Array.ext';simpa using U
 have hrun:=KM (P:=P) (w:=w) hT hk hz hzk W (h3.trans hn) hk0 hm hm2;have he:(execOp (E.ev ρc) o).run P w=.ok (.value (.slice (some ⟨w.heap.size,0,none⟩) mm mm)) (w.alloc (.cells css.flatten.toArray e)):=by
  simp only[execOp,ho,hp',Sem.run_bind,hrun,Result.andThen_ok,Sem.run_pure]
 rw[he];have hx:=cd.alloc w (.cells css.flatten.toArray e);have hlen:css.flatten.length=mm*k:=by rw[h4.len,hn]
 have hm2' : mm*k<=100000:=by simpa using hm2
 have hk' : 0<k:=by simpa using hk0
 have hmm:mm<=mm*k:=Nat.le_mul_of_pos_right mm hk';obtain⟨g',h5,h6,h7⟩:=hs.newRow (m:=m) (xs:=ds) (cs:=css.flatten) (cur:=css.flatten) (k:=k) (cp:=mm) (T:=e) hr1 hx (mF w e css.flatten) hlen (by rw[hn,← hlen,List.take_length]) (by omega) (by show _<=9223372036854775807;omega) (h4.keep (fq.of_ext hx));exact⟨F,g',h5,h6,by rw[hn] at h7;exact h7⟩
theorem H0 {T e k r:Nat}{m:Md}(ho:o.op=.buildSlice T 0 #[])(hT:cY P T=some e)(hk:cn P e=some k)(Z:ai σ r=.none):LT P S o ρ σ [] (.ref r none) [(r,.row m k [])]:=by
 intro σ1 F g w ρc hs _ hwr hv;have hr1:σ1 r=.none:=(hwr (r,_) (List.mem_singleton.2 rfl)).trans Z;have hrun:(Instr.buildSlice T 0 #[]).run P w=.ok (.slice (some ⟨w.heap.size,0,none⟩) 0 0) (w.alloc (.cells #[] e)):=by
  have:=qZ (P:=P) (w:=w) e [];have h0:(Array.map (λ_=>default) (Array.range 0):Array Value)=[].toArray:=by apply Array.ext<;>simp
  simp[Instr.buildSlice,run_underlying (ga hT),jL hk,Instr.fill];rw[h0,this];rfl
 have he:(execOp (E.ev ρc) o).run P w=.ok (.value (.slice (some ⟨w.heap.size,0,none⟩) 0 0)) (w.alloc (.cells #[] e)):=by
  simp only[execOp,ho,Sem.run_bind,Array.map_empty,hrun,Result.andThen_ok,Sem.run_pure]
 rw[he];obtain⟨g',h5,h6,h7⟩:=hs.newRow (m:=m) (xs:=[]) (cs:=[]) (cur:=[]) (k:=k) (cp:=0) (T:=e) hr1 (cd.alloc w (.cells #[] e)) (mF w e []) (by simp) (by simp) (Acz _) (Aez _) (by rw[bg]);exact⟨F,g',h5,h6,h7⟩
theorem E0 {S1:Nat->Prop}{w:World}{d:D}{z:List Value}(h:rd1 S1 w d z):∀ m,bg S1 w z.length (Bqz m d) (bh z m)
 | 0=>by simp[bg,bh]
 | m+1=>by
  rw[List.replicate_succ,bh];exact gF.2 ⟨z,_,rfl,rfl,h,E0 h m⟩
theorem LT.mk {T e k b r:Nat}{z:List Value}{zs:List X}{l c:Operand}{md m1 m2:Md}{q q' : IntKind}{j:Int}{d:D}(ho:o.op=.makeSlice T l c)(hT:cY P T=some e)(hk:cn P e=some k)(Y:mg P e=some b)(hz:fO P e=some z)(hzk:z.length=k)(hl:aE ρ l=.d m1 (.i q j))(hc:aE ρ c=.d m2 (.i q' j))
  (hzs:∀ S1 w g,aQ S1 w g zs z) (hd:eu md zs=some d.cells) (h0:0<=j) (hm:j<=9223372036854775807) (hbm:(b:Int)*j<=281474976710656) (Z:ai σ r=.none):LT P S o ρ σ [] (.ref r none) [(r,.row md k (Bqz j.toNat d))]:=by
 intro σ1 F g w ρc hs _ hwr hv;have hr1:σ1 r=.none:=(hwr (r,_) (List.mem_singleton.2 rfl)).trans Z;obtain⟨i,v,hi,hik,hib,hiv,hvc⟩:=Av hk Y hz;have hrun:=run_make (P:=P) (w:=w) T e i v (ga hT) hi hiv q q' j j h0 (Int.le_refl _) (by rw[hib];exact hbm) hm;have hcells:madeCells v.cells (j.toNat*i.size)=(bh z j.toNat).toArray:=by
  have:=B0 v.cells j.toNat
  rw[hvc] at this ⊢;simp only[List.size_toArray,hzk] at this;rw[hik];simpa using this
 have e1:=hv l (by simp[ho,Op.operands]);have e2:=hv c (by simp[ho,Op.operands]);rw[hl,vr,rdC] at e1;rw[hc,vr,rdC] at e2;have he:(execOp (E.ev ρc) o).run P w=.ok (.value (.slice (some ⟨w.heap.size,0,none⟩) j.toNat j.toNat)) (w.alloc (.cells (bh z j.toNat).toArray e)):=by
  rw[hcells] at hrun;simp only[execOp,ho,e1,e2,Sem.run_bind,hrun,Result.andThen_ok,Sem.run_pure]
 rw[he];have hx:=cd.alloc w (.cells (bh z j.toNat).toArray e);have hrd:rdCs (SM F S.B md) (w.alloc (.cells (bh z j.toNat).toArray e)) d.cells z:=wG hd (hzs _ _ g);have hrd2:=E0 (S1:=SM F S.B md) (d:=d) hrd j.toNat
 have hlen:(bh z j.toNat).length=j.toNat*k:=by rw[tO,hzk]
 obtain⟨g',h5,h6,h7⟩:=hs.newRow (m:=md) (xs:=Bqz j.toNat d) (cs:=bh z j.toNat) (cur:=bh z j.toNat) (k:=k) (cp:=j.toNat) (T:=e) hr1 hx (mF w e (bh z j.toNat)) hlen (by rw[List.length_replicate,← hlen,List.take_length]) (by simp) (by show _<=9223372036854775807;omega) (by rw[hzk] at hrd2;exact hrd2);exact⟨F,g',h5,h6,by simpa using h7⟩
def gY (x:aw):Option (Nat×Nat)->Option (Md×Nat×List D)
 | none=>match x with|.row m k ys=>some (m,k,ys)|_=>none
 | some _=>none
def cO (σ:Nat->aw):X->Option (Md×Nat×List D)
 | .d m (.sl k ys)=>some (m,k,ys)
 | .nl k=>some (.fz,k,[])
 | .ref q l=>gY (σ q) l
 | .vs q l lo n=>(gY (σ q) l).map λp=>(p.1,p.2.1,(p.2.2.drop lo).take n)
 | _=>none
theorem MR {σ1 σ2:Nat->aw}{x:X}(h:∀ r∈dq x,σ1 r=σ2 r):cO σ1 x=cO σ2 x:=by
 cases x<;>simp only[cO]<;>simp only[dq,Bpz,forall_eq] at h<;>try rw[h]
 rename_i m x;cases x<;>rfl
theorem wj {F:Nat->Prop}{g:Nat->G}{w:World}{σ1:Nat->aw}(hs:bp S F g σ1 w){q kk:Nat}{l:Option (Nat×Nat)}{m:Md}{ys:List D}(h:gY (σ1 q) l=some (m,kk,ys)) :
  ∃ v k L gs,g q=.row v k L gs/\∃ u LL cs,G.at (.row v k L gs) l=some (u,kk)/\bL w kk u ys.length LL cs/\bg (SM F S.B m) w kk ys cs/\∀ b∈LL,b∈bl (g q):=by
 cases l with
 | none=>
  simp only[gY] at h;split at h;rename_i m0 k0 ys0 hσ;cases h;obtain⟨u,L,gs,hg,hrow⟩:=oB hs (.inr ⟨_,_,hσ,rfl⟩);obtain⟨U,W,h3,h4⟩:=kS hrow;exact⟨u,_,L,gs,hg,u,L,_,rfl,U,W,λb Y=>by rw[hg];simp[bl,Y]⟩;cases h
 | some jc=>cases h
theorem Am {F:Nat->Prop}{g:Nat->G}{w:World}{σ1:Nat->aw}(hs:bp S F g σ1 w){x:X}{m:Md}{k:Nat}{ys:List D}{v:Value}(h:cO σ1 x=some (m,k,ys))(hv:vr (SM F S.B) w g x v) :
  ∃ A cp cs,v=.slice A ys.length cp/\ys.length<=cp/\cp<=maxLen/\bg (SM F S.B m) w k ys cs/\(ys=[]∨∃ b o,A=some ⟨b,o,none⟩/\At w b o cs/\b<w.heap.size/\(SM F S.B m b∨∃ r∈dq x,b∈bl (g r))):=by
 cases x<;>simp only[cO] at h
 case d m' x=>
  cases x<;>simp only[cO] at h<;>try cases h
  rw[vr,rdC] at hv;obtain⟨A,cap,cells,U,W,h3,h4,h5⟩:=hv;exact⟨A,cap,cells,U,W,h3,h4,h5.imp id λ⟨b,o,e1,e2,e3,e4⟩=>⟨b,o,e1,e4,e3,.inl e2⟩⟩
 case nl k=>
  cases h;rw[vr] at hv;exact⟨none,0,[],hv,Acz _,Aez _,by rw[bg],.inl rfl⟩
 case ref q l=>
  obtain⟨u,k0,L,gs,hg,u',LL,cs,hat,hown,hrd,Y⟩:=wj hs h;rw[vr,hg] at hv;have:=hv _ _ hat
  subst this;obtain⟨A,c,e0,h5,h6⟩:=hown.form;refine⟨A,c,cs,e0,h5,h6,hrd,?_⟩;rcases hown.at with h7|⟨b,c',T,cur,e1,e2,e3,_⟩
  exact .inl (Awz h7);rw[e0] at e1;cases e1;exact .inr ⟨b,0,rfl,e2,(hs.own q b (Y b e3)).1,.inr ⟨q,by simp[dq],Y b e3⟩⟩
 case vs q l lo n=>
  simp only[Bwz] at h;obtain⟨⟨m0,kk,zs⟩,h,e⟩:=h;cases e;obtain⟨u,k0,L,gs,hg,u',LL,cs,hat,hown,hrd,Y⟩:=wj hs h;rw[vr,hg] at hv;obtain⟨A1,m1,c1,A',cp',U,W,h3,h4,h5,h6⟩:=hv _ _ hat
  obtain⟨A,c,e0,h7,h8⟩:=hown.form;rw[e0] at U;cases U;have hl:((zs.drop lo).take n).length=n:=by simp only[Brz,Bsz];omega
  refine⟨A',cp',(cs.drop (lo*kk)).take (n*kk),by simpa only[hl] using h3,by simpa only[hl] using h4,h5,(hrd.drop lo).take n,?_⟩;rcases h6 with h6|⟨b,e1,e2⟩
  left;exact Awz (by simp only[Brz,Bsz];omega);rcases hown.at with h9|⟨b',c',T,cur,e3,e4,e5,_⟩
  left;exact Awz (by simp only[Brz,Bsz];omega);rw[e0] at e3;cases e3;cases e1;refine .inr ⟨b,_,e2,?_,(hs.own q b (Y b e5)).1,.inr ⟨q,by simp[dq],Y b e5⟩⟩;intro i u hi;rw[Anz] at hi;split at hi;rw[Baz] at hi;have:=e4 _ _ hi;rwa[Nat.zero_add] at this;cases hi
 all_goals cases h
theorem Np {T ty e k b:Nat}{z:List Value}{w:World}{v:Value}{m:Nat}{L:List Nat}{cs:List Value}{A:Option Addr}{m2 c2:Nat}{news:List Value}(hT:cY P T=some e)(hk:cn P e=some k)(Y:mg P e=some b)(hz:fO P e=some z)(hzk:z.length=k)(hk0:0<k)
  (hown:bL w k v m L cs) (hl:news.length=m2*k) (hat:m2=0∨∃ b o,A=some ⟨b,o,none⟩/\At w b o news) (U:∀ u∈news,u.oneCell'=true) (hmax:(m+m2)*b<=140737488355328) (hm:m+m2<=maxLen) :
  ∃ v' w' L',(Builtin.append_ #[T,T] ty #[v,.slice A m2 c2]).run P w=.ok v' w'/\bL w' k v' (m+m2) L' (cs++news)/\cF (λq=>q∈L) w w'/\∀ q∈L',q∈L∨w.heap.size<=q:=by
 obtain⟨e0,hown,rfl⟩:=hown;obtain⟨i,zv,hi,hik,hib,hiv,hvc⟩:=Av hk Y hz;have mem:∀ (u:Value) q,q∈u.ownBlock.toList↔u.ownBlock=some q:=λu q=>by cases u.ownBlock<;>simp[eq_comm]
 have fin:(∃ v' w' e',(Builtin.append_ #[T,T] ty #[v,.slice A m2 c2]).run P w=.ok v' w'/\Own w' 0 e' k v' (m+m2) (cs++news)/\cF (kA v) w w'/\∀ g,kA v' g->kA v g∨w.heap.size<=g) ->
   ∃ v' w' L',(Builtin.append_ #[T,T] ty #[v,.slice A m2 c2]).run P w=.ok v' w'/\bL w' k v' (m+m2) L' (cs++news)/\cF (λq=>q∈v.ownBlock.toList) w w'/\∀ q∈L',q∈v.ownBlock.toList∨w.heap.size<=q:=by
  rintro⟨v',w',e',k1,k2,k3,k4⟩;refine⟨v',w',v'.ownBlock.toList,k1,⟨e',k2,rfl⟩,k3.mono λq _ hq=>(mem v q).2 hq,λq hq=>?_⟩;exact (k4 q ((mem v' q).1 hq)).imp (λh=>(mem v q).2 h) id
 apply fin;cases A with
 | none=>
  have h0:m2=0:=by rcases hat with h0|⟨_,_,h0,_⟩;exact h0;cases h0
  subst h0;have hn:news=[]:=Awz (by simpa using hl);subst hn;refine⟨v,w,e0,?_,by simpa using hown,cF.refl w,λg hg=>.inl hg⟩;rcases hown.2 with ⟨rfl,rfl⟩|⟨g,cap,cur,rfl,_,_,hnc,_⟩
  simp[Builtin.append_,run_underlying (ga hT),sizeOf,typeInfo,hi,Builtin.lenOf,Builtin.firstCells];simp[Builtin.append_,run_underlying (ga hT),sizeOf,typeInfo,hi,Builtin.lenOf,Builtin.firstCells,hnc,storeCells]
 | some ad=>
  have hcells:∀ j u,news[j]?=some u->w.cell? (ad.add j)=some u:=by
   intro j u hu;rcases hat with h0|⟨b2,o2,hA,hat⟩
   subst h0;have hn:news=[]:=Awz (by simpa using hl);subst hn;simp at hu;cases hA;have hadd:(⟨b2,o2,none⟩:Addr).add j=⟨b2,o2+j,none⟩:=by unfold Addr.add;split<;>simp_all
   rw[hadd];exact hat j u hu
  exact XW (P:=P) (ty:=ty) (base:=0) hT hk Y hz hzk hk0 hown hl hcells U hmax hm (Aez _)
theorem El {F:Nat->Prop}{g:Nat->G}{w:World}{σ1:Nat->aw}(hs:bp S F g σ1 w){r:Nat}(Z:σ1 r=.none):g r=.none:=by
 have:=hs.roots r;rw[Z] at this;revert this;cases g r<;>intro h<;>first|rfl|exact h.elim
theorem bp.regrow {F:Nat->Prop}{g:Nat->G}{w w' : World}{σ1:Nat->aw}(hs:bp S F g σ1 w){r r' : Nat}(hne:r'≠r)(hr' : σ1 r'=.none)(hr0:g r≠.none){L:List Nat}(hL:∀ b∈L,b∈bl (g r))(hc:cF (λq=>q∈L) w w'){v' : Value}{k:Nat}{L' : List Nat}{gs' : List (List GC)}{x:aw}
  (hx:(∀ m b o cs,SM F S.B m b->b<w.heap.size->At w b o cs->SM F S.B m b/\b<w'.heap.size/\At w' b o cs)->∀ g',gQ (SM F S.B) w' g' x (.row v' k L' gs')) (hnd:(bl (.row v' k L' gs')).Nodup) (hbl:∀ b∈bl (.row v' k L' gs'),b<w'.heap.size/\(b∈bl (g r)∨w.heap.size<=b)) :
  ∃ g',bp S F g' (cg σ1 [(r,.dead),(r',x)]) w'/\cj S.B F g w F g' w'/\vr (SM F S.B) w' g' (.ref r' none) v':=by
 have hg2:=El hs hr';have e1:cg σ1 [(r,.dead),(r',x)]=λi=>if i=r' then x else if i=r then .dead else σ1 i:=rfl
 obtain⟨U,W⟩:=hs.step (g':=λi=>if i=r' then .row v' k L' gs' else if i=r then .dead else g i) (σ':=λi=>if i=r' then x else if i=r then .dead else σ1 i) (F':=F) (w':=w') (λi=>i=r∨i=r') hc (λb Y _=>⟨r,.inl rfl,hL b Y⟩)
  (λi hi=>⟨by simp only[al (λe=>hi (.inr e)),al (λe=>hi (.inl e))],by simp only[al (λe=>hi (.inr e)),al (λe=>hi (.inl e))]⟩)
  (λi hi=>by
   rcases hi with hi|hi<;>subst hi;simp only[al (Ne.symm hne),if_true];exact da.dead hr0;rw[hg2];trivial)
  (λ_ h=>h) (λb Y=>⟨Bfz (hs.flt b Y) hc.size,.inl Y⟩)
  (λhk hp i hi=>by
   rcases hi with hi|hi<;>subst hi;simp only[al (Ne.symm hne),if_true];trivial;simp only[if_true];exact hx hk _)
  (λi hi=>by
   rcases hi with hi|hi<;>subst hi;simp only[al (Ne.symm hne),if_true,bl];exact List.nodup_nil;simp only[if_true];exact hnd)
  (λi j hi hj hij b Y=>by
   rcases hi with hi|hi<;>rcases hj with hj|hj;exact absurd (hi.trans hj.symm) hij;rw[hi] at Y;simp only[al (Ne.symm hne),if_true,bl] at Y;cases Y;rw[hj];simp only[al (Ne.symm hne),if_true,bl];exact List.not_mem_nil;exact absurd (hi.trans hj.symm) hij)
  (λi b hi Y=>by
   rcases hi with hi|hi;rw[hi] at Y;simp only[al (Ne.symm hne),if_true,bl] at Y;cases Y;rw[hi] at Y;simp only[if_true] at Y;obtain⟨h3,h4⟩:=hbl b Y;refine⟨h3,λhf=>?_,?_⟩;rcases h4 with h4|h4;exact (hs.own r b h4).2.1 hf;have:=hs.flt b hf;omega;rcases h4 with h4|h4;exact .inr ⟨r,.inl rfl,h4⟩;exact .inl h4)
 refine⟨_,by rw[e1];exact U,W,?_⟩;rw[vr];simp only[if_true];intro u q hu;simp only[G.at] at hu;cases hu;rfl
theorem KJ {T:TypeId}{s x:Operand}{ρc:Env}{w w' : World}{v1 v2 v' : Value}(ho:o.op=.call { callee:=.builtin .append,args:=#[s,x],argTypes:=#[T,T] })(U:E.ev ρc s=v1)(W:E.ev ρc x=v2)(Z:(Builtin.append_ #[T,T] o.type #[v1,v2]).run P w=.ok v' w'):(execOp (E.ev ρc) o).run P w=.ok (.value v') w':=by
 simp only[execOp,ho,resolve,invoke,builtin,Sem.run_bind,Sem.run_pure,Result.andThen_ok,List.map_toArray,Blz,List.map_nil,U,W,Z]
theorem C0 {T e k b r r' : Nat}{z:List Value}{s x:Operand}{m m' m0:Md}{xs ys:List D}{X1:X}(ho:o.op=.call { callee:=.builtin .append,args:=#[s,x],argTypes:=#[T,T] })(hT:cY P T=some e)(hk:cn P e=some k)(Y:mg P e=some b)(hz:fO P e=some z)(hzk:z.length=k)(hk0:Nat.blt 0 k=true)
  (hs:aE ρ s=.ref r none) (hσ:ai σ r=.row m0 k xs) (hx:aE ρ x=X1) (hsrc:cO (ai σ) X1=some (m',k,ys)) (hm:fR m' m=true) (hm0:fR m0 m=true) (hmax:(xs.length+ys.length)*b<=140737488355328) (hlen:xs.length+ys.length<=maxLen) (hr' : ai σ r'=.none) :
  LT P S o ρ σ (dq X1) (.ref r' none) [(r,.dead),(r',.row m k (xs++ys))]:=by
 intro σ1 F g w ρc hsim hrd hwr hv;have hr1:σ1 r=.row m0 k xs:=(hwr (r,.dead) (by simp)).trans hσ;have hr2:σ1 r'=.none:=(hwr (r',.row m k (xs++ys)) (by simp)).trans hr';have hne:r'≠r:=λe=>by rw[e,hr1] at hr2;cases hr2
 have hsrc1:cO σ1 X1=some (m',k,ys):=by rw[MR (σ2:=ai σ) hrd];exact hsrc
 have e1:=hv s (by simp[ho,Op.operands,Call.operands]);have e2:=hv x (by simp[ho,Op.operands,Call.operands]);rw[hx] at e2;obtain⟨A,cp,news,hv2,hcp,hcm,hrdn,hat⟩:=Am hsim hsrc1 e2;obtain⟨v,kk,L,gs,hg,u',LL,cs,hat1,hown,hrdx,hLb⟩:=wj hsim (q:=r) (l:=none) (m:=m0) (kk:=k) (ys:=xs) (by simp only[gY,hr1]);cases hat1;rw[hs,vr,hg] at e1;have e3:=e1 _ _ rfl;obtain⟨v',w',L',hrun,hown',hchg,hL'⟩:=Np (P:=P) (ty:=o.type) (w:=w) (A:=A) (c2:=cp) (news:=news) hT hk Y hz hzk (by simpa using hk0) hown hrdn.len (hat.imp (λh=>by rw[h];rfl) λ⟨b,o,U,W,_⟩=>⟨b,o,U,W⟩) hrdn.one hmax hlen;rw[KJ (P:=P) (w:=w) ho e3 hv2 hrun];have hkeep:=hsim.keeps (F':=F) hchg (λb Y _=>⟨r,hLb b Y⟩) (λ_ h=>h);have hrd' : bg (SM F S.B m) w' k (xs++ys) (cs++news):=((hrdx.mono (ox hm0)).imp (hkeep m)).append ((hrdn.mono (ox hm)).imp (hkeep m));obtain⟨gs',hg1,hg2,hg3⟩:=p9 hrd';have hbl' : bl (.row v' k L' gs')=L':=by simp[bl,hg3]
 obtain⟨g',U,W,h3⟩:=hsim.regrow (x:=.row m k (xs++ys)) (v':=v') (k:=k) (L':=L') (gs':=gs') hne hr2 (by rw[hg];intro h;cases h) hLb hchg (λ_ g'=>⟨rfl,by rw[hg2,bn,List.length_append];exact hown',hg1⟩) (by rw[hbl'];exact hown'.nodup) (λb Y=>by
  rw[hbl'] at Y;exact⟨hown'.lst b Y,(hL' b Y).imp (hLb b) id⟩)
 exact⟨F,g',U,W,h3⟩
end
section
variable {w:World}{S:Nat->Prop}
mutual
theorem fl.rd:∀ {x:D} {v:Value} {L:List Nat},fl w x v L->(∀ b∈L,S b)->rdC S w x v
 | .i _ _,_,_,h,_=>h.1
 | .b _,_,_,h,_=>h.1
 | .s _,_,_,h,_=>h.1
 | .a _,_,_,h,_=>h.elim
 | .sl k xs,v,L,h,hf=>by
  rw[fl] at h;obtain⟨L0,cs,L1,U,W,rfl⟩:=h;have h3:=dk.rd W λb Y=>hf b (by simp[Y]);obtain⟨A,c,e0,h5,h6⟩:=U.form;rw[rdC];refine⟨A,c,cs,e0,h5,h6,h3,?_⟩;rcases U.at with h7|⟨b,c',T,cur,e1,e2,e3,e4,_⟩
  exact .inl (Awz h7);rw[e0] at e1;cases e1;exact .inr ⟨b,0,rfl,hf b (by simp[e3]),(Array.getElem?_eq_some_iff.1 e4).1,e2⟩
theorem cz.rd:∀ {x:List D} {v:List Value} {L:List Nat},cz w x v L->(∀ b∈L,S b)->rdCs S w x v
 | [],_,_,h,_=>by rw[rdCs];exact h.1
 | x::xs,v,L,h,hf=>by
  rw[cz] at h;rw[rdCs];obtain⟨v,r,L0,L1,U,rfl,h3,h4⟩:=h;exact⟨v,r,U,fl.rd h3 λb Y=>hf b (by simp[Y]),cz.rd h4 λb Y=>hf b (by simp[Y])⟩
theorem dk.rd {k:Nat}:∀ {x:List D} {v:List Value} {L:List Nat},dk w k x v L->(∀ b∈L,S b)->bg S w k x v
 | [],_,_,h,_=>by rw[bg];exact h.1
 | .a ds::xs,v,L,h,hf=>by
  rw[dk] at h;rw[bg];obtain⟨c,r,L0,L1,U,rfl,W,h3,h4⟩:=h;exact⟨c,r,U,W,cz.rd h3 λb Y=>hf b (by simp[Y]),dk.rd h4 λb Y=>hf b (by simp[Y])⟩
 | .i k n::xs,v,L,h,hf=>by
  rw[dk] at h;rw[bg];obtain⟨c,r,L0,L1,U,rfl,W,⟨u,h3,h5⟩,h4⟩:=h;exact⟨c,r,U,W,⟨u,h3,h5.1⟩,dk.rd h4 λb Y=>hf b (by simp[Y])⟩
 | .b n::xs,v,L,h,hf=>by
  rw[dk] at h;rw[bg];obtain⟨c,r,L0,L1,U,rfl,W,⟨u,h3,h5⟩,h4⟩:=h;exact⟨c,r,U,W,⟨u,h3,h5.1⟩,dk.rd h4 λb Y=>hf b (by simp[Y])⟩
 | .s n::xs,v,L,h,hf=>by
  rw[dk] at h;rw[bg];obtain⟨c,r,L0,L1,U,rfl,W,⟨u,h3,h5⟩,h4⟩:=h;exact⟨c,r,U,W,⟨u,h3,h5.1⟩,dk.rd h4 λb Y=>hf b (by simp[Y])⟩
 | .sl n ys::xs,v,L,h,hf=>by
  rw[dk] at h;rw[bg];obtain⟨c,r,L0,L1,U,rfl,W,⟨u,h3,h5⟩,h4⟩:=h;exact⟨c,r,U,W,⟨u,h3,fl.rd h5 λb Y=>hf b (by simp[Y])⟩,dk.rd h4 λb Y=>hf b (by simp[Y])⟩
end
def Ab:Cell->Option D
 | .d _ (.a _)=>none
 | .d _ x=>some x
 | .o _ k xs=>some (.sl k xs)
 | .w k xs=>some (.sl k xs)
 | .nl k=>some (.sl k [])
 | .u=>none
def wi:List Cell->Option (List D)
 | []=>some []
 | c::cs=>match Ab c,wi cs with
  | some x,some xs=>some (x::xs)
  | _,_=>none
def DR (e:List Cell)(d:D):Prop:=wi e=some d.cells
theorem aL.map {α β γ:Type}{R:β->γ->Prop}{f:α->β}{g:α->γ}(h:∀ x,R (f x) (g x)):∀ xs:List α,aL R (xs.map f) (xs.map g)
 | []=>rfl
 | x::xs=>⟨g x,_,rfl,h x,aL.map h xs⟩
theorem MQ:∀ {e:List Cell} {ds:List D},wi e=some ds->e.length=ds.length/\∀ (c:Nat) (d:D),ds[c]?=some d->∃ cell,e[c]?=some cell/\Ab cell=some d
 | [],ds,h=>by simp only[wi] at h;cases h;exact⟨rfl,λc d hd=>by simp at hd⟩
 | x::e,ds,h=>by
  simp only[wi] at h;split at h;rename_i y ys U W;cases h;obtain⟨h3,h4⟩:=MQ W;refine⟨by simp[h3],λc d hd=>?_⟩;cases c with
  | zero=>simp at hd;subst hd;exact⟨x,rfl,U⟩
  | succ c=>simpa using h4 c d (by simpa using hd)
  cases h
theorem aP.rd {S1:Md->Nat->Prop}{m:Md}{c:Cell}{gc:GC}{d:D}(h:aP S1 w c gc)(hc:Ab c=some d)(hfz:m=.fz->jS c=true)(hS:∀ b,S1 m b->S b)(hS2:∀ b,S1 .fz b->S b)(hL:∀ b∈gc.L,S b):rdC S w d gc.val:=by
 have sub:∀ m',(m=.fz->m'=.fz)->∀ b,S1 m' b->S b:=λm' h b Y=>by
  cases m' with
  | fz=>exact hS2 b Y
  | bo=>cases m with
   | fz=>cases h rfl
   | bo=>exact hS b Y
 cases c with
 | d m' x=>
  cases x with
  | a cs=>cases hc
  | sl k xs=>
   cases hc;exact h.2.2.mono (sub m' λe=>by have:=hfz e;cases m'<;>first|rfl|cases this)
  | i k n=>cases hc;have:=h.2.2;rw[rdC] at this ⊢;exact this
  | b k=>cases hc;have:=h.2.2;rw[rdC] at this ⊢;exact this
  | s k=>cases hc;have:=h.2.2;rw[rdC] at this ⊢;exact this
 | o m' k xs=>
  cases hc;obtain⟨U,W,cs,h3,h4⟩:=h;obtain⟨A,c,e0,h5,h6⟩:=h3.form;rw[rdC];refine⟨A,c,cs,e0,h5,h6,h4.mono (sub m' λe=>by have:=hfz e;cases m'<;>first|rfl|cases this),?_⟩;rcases h3.at with h7|⟨b,c',T,cur,e1,e2,e3,e4,_⟩
  exact .inl (Awz h7);rw[e0] at e1;cases e1;exact .inr ⟨b,0,rfl,hL b e3,(Array.getElem?_eq_some_iff.1 e4).1,e2⟩
 | w k xs=>cases hc;exact h.2.2.rd hL
 | nl k=>
  cases hc;rw[rdC];exact⟨none,0,[],h.2.2,Acz _,Aez _,by rw[bg],.inl rfl⟩
 | u=>cases hc
theorem No:∀ {ds:List D} {vs:List Value},vs.length=ds.length->(∀ (c:Nat) (d:D),ds[c]?=some d->∃ v,vs[c]?=some v/\rdC S w d v)->rdCs S w ds vs
 | [],vs,hl,_=>by rw[rdCs];exact Awz hl
 | d::ds,[],hl,_=>by simp at hl
 | d::ds,v::vs,hl,h=>by
  rw[rdCs];obtain⟨u,U,W⟩:=h 0 d rfl;simp at U;subst U;exact⟨v,vs,rfl,W,No (by simpa using hl) λc d hc=>by simpa using h (c+1) d (by simpa using hc)⟩
theorem Ly {k:Nat}:∀ {ds:List D} {gs:List (List GC)},gs.length=ds.length->(∀ (j:Nat) (d:D) (ge:List GC),ds[j]?=some d->gs[j]?=some ge->ge.length=k/\ge.length=d.cells.length/\∀ (c:Nat) (gc:GC) (x:D),ge[c]?=some gc->d.cells[c]?=some x->rdC S w x gc.val)->bg S w k ds (bW gs)
 | [],gs,hl,_=>by rw[Awz hl,bg];rfl
 | d::ds,[],hl,_=>by simp at hl
 | d::ds,ge::gs,hl,h=>by
  obtain⟨U,W,h3⟩:=h 0 d ge rfl rfl;refine gF.2 ⟨ge.map (·.val),bW gs,by simp[bW],by simpa using U,No (by simp[W]) λc x hx=>?_,Ly (by simpa using hl) λj d' ge' hd hg=>h (j+1) d' ge' (by simpa using hd) (by simpa using hg)⟩;have hlt:c<ge.length:=by rw[W];exact (List.getElem?_eq_some_iff.1 hx).1
  exact⟨ge[c].val,by simp[hlt],h3 c _ x (List.getElem?_eq_getElem hlt) hx⟩
end
def iR (es:List (List Cell))(j c:Nat)(x:Cell):List (List Cell):=es.modify j λe=>e.set c x
def Ek:aw->Cell
 | .row m k xs=>.o m k xs
 | _=>.u
def ll (σ:Nat->aw):List (Nat×Nat×Nat)->List (List Cell)->List (List Cell)
 | [],es=>es
 | (j,c,q)::hs,es=>iR (ll σ hs es) j c (Ek (σ q))
def DY (σ:Nat->aw)(m:Md)(p:Nat×Nat×Nat):Bool:=match σ p.2.2 with|.row m' _ _=>fR m' m|_=>false
theorem UU {es:List (List Cell)}{j c j' c' : Nat}{x y:Cell}(h:((iR es j c x)[j']?).bind (·[c']?)=some y):(∃ e,es[j']?=some e)/\((((es)[j']?).bind (·[c']?)=some y)∨(j'=j/\c'=c/\y=x)):=by
 simp only[iR,Btz] at h;cases he:es[j']? with
 | none=>simp[he] at h
 | some e=>
  refine⟨⟨e,rfl⟩,?_⟩;simp only[he,Bxz,Byz,aj] at h;by_cases hj:j=j';subst hj;simp only[if_true,Bxz,Byz,aj] at h;by_cases hc:c=c';subst hc;rw[List.getElem?_set] at h;simp at h;exact .inr ⟨rfl,rfl,h.2.symm⟩;rw[List.getElem?_set_ne hc] at h;exact .inl (by simpa using h);simp only[al hj] at h;exact .inl (by simpa using h)
theorem UT {es:List (List Cell)}{j c:Nat}{x:Cell}:(iR es j c x).length=es.length:=by simp[iR]
theorem WJ {es:List (List Cell)}{j c j' : Nat}{x:Cell}{e' : List Cell}(h:(iR es j c x)[j']?=some e'):∃ e,es[j']?=some e/\e'.length=e.length:=by
 simp only[iR,Btz] at h;cases he:es[j']? with
 | none=>simp[he] at h
 | some e=>
  simp only[he,Bxz,Byz,Option.some.injEq] at h;refine⟨e,rfl,?_⟩;rw[← h];split<;>simp
theorem KI {σ:Nat->aw}:∀ {hs:List (Nat×Nat×Nat)} {es:List (List Cell)},(ll σ hs es).length=es.length
 | [],es=>rfl
 | (j,c,q)::hs,es=>by rw[ll,UT,KI]
theorem Lx {σ:Nat->aw}:∀ {hs:List (Nat×Nat×Nat)} {es:List (List Cell)} {j:Nat} {e' : List Cell},(ll σ hs es)[j]?=some e'->∃ e,es[j]?=some e/\e'.length=e.length
 | [],es,j,e',h=>⟨e',h,rfl⟩
 | (j,c,q)::hs,es,j',e',h=>by
  obtain⟨e1,U,W⟩:=WJ h;obtain⟨e2,h3,h4⟩:=Lx U;exact⟨e2,h3,W.trans h4⟩
theorem KH {σ:Nat->aw}:∀ {hs:List (Nat×Nat×Nat)} {es:List (List Cell)} {j' c' : Nat} {y:Cell},((ll σ hs es)[j']?).bind (·[c']?)=some y->((es)[j']?).bind (·[c']?)=some y∨∃ q,(j',c',q)∈hs/\y=Ek (σ q)
 | [],es,j',c',y,h=>.inl h
 | (j,c,q)::hs,es,j',c',y,h=>by
  rcases (UU h).2 with U|⟨rfl,rfl,U⟩
  rcases KH U with W|⟨q',W,h3⟩
  exact .inl W;exact .inr ⟨q',Buz _ W,h3⟩;exact .inr ⟨q,by simp,U⟩
inductive b9 (σ:Nat->aw) (r:Nat) (m:Md) (k:Nat) (ds:List D) (qs:List Nat):Prop
 | row (h:σ r=.row m k ds) (hq:qs=[r])
 | deep {es:List (List Cell)} {hs:List (Nat×Nat×Nat)} (h:σ r=.deep m k es hs) (hd:aL DR (ll σ hs es) ds) (hm:hs.all (DY σ m)=true) (hq:qs=r::hs.map (·.2.2))
theorem b9.mem {σ:Nat->aw}{r:Nat}{m:Md}{k:Nat}{ds:List D}{qs:List Nat}(h:b9 σ r m k ds qs):r∈qs:=by
 cases h with
 | row _ hq=>simp[hq]
 | deep _ _ _ hq=>simp[hq]
theorem MP {σ1 σ2:Nat->aw}:∀ {hs:List (Nat×Nat×Nat)} {es:List (List Cell)},(∀ p∈hs,σ1 p.2.2=σ2 p.2.2)->ll σ1 hs es=ll σ2 hs es
 | [],es,_=>rfl
 | (j,c,q)::hs,es,h=>by
  rw[ll,ll,MP (λp hp=>h p (by simp[hp])),h (j,c,q) (by simp)]
theorem b9.congr {σ1 σ2:Nat->aw}{r:Nat}{m:Md}{k:Nat}{ds:List D}{qs:List Nat}(h:b9 σ2 r m k ds qs)(hc:∀ q∈qs,σ1 q=σ2 q):b9 σ1 r m k ds qs:=by
 cases h with
 | row h hq=>exact .row (by rw[hc r (by simp[hq])];exact h) hq
 | deep h hd hm hq=>
  rename_i es hs;have U:∀ p∈hs,σ1 p.2.2=σ2 p.2.2:=λp hp=>hc _ (by rw[hq];exact Buz _ (List.mem_map.2 ⟨p,hp,rfl⟩));refine .deep (by rw[hc r (by simp[hq])];exact h) (by rw[MP U];exact hd) ?_ hq;rw[List.all_eq_true] at hm ⊢;intro p hp;have:=hm p hp;simpa only[DY,U p hp] using this
section
variable {S:Start}{F:Nat->Prop}{g:Nat->G}{w:World}{σ1:Nat->aw}
theorem wF (hs:bp S F g σ1 w){r:Nat}{m:Md}{k:Nat}{ds:List D}{qs:List Nat}(h:b9 σ1 r m k ds qs) :
  ∃ v L gs cs,g r=.row v k L gs/\bL w k v ds.length L cs/\bg (λb=>SM F S.B m b∨∃ q∈qs,b∈bl (g q)) w k ds cs/\∀ b∈L,b∈bl (g r):=by
 cases h with
 | row h hq=>
  obtain⟨v,L,gs,hg,hrow⟩:=oB hs (.inr ⟨_,_,h,rfl⟩);obtain⟨U,W,h3,h4⟩:=kS hrow;exact⟨v,L,gs,_,hg,U,W.mono λb Y=>.inl Y,λb Y=>by rw[hg];simp[bl,Y]⟩
 | deep h hd hm hq=>
  rename_i es hs';have Z:=hs.roots r;rw[h] at Z;cases hg:g r<;>rw[hg] at Z<;>try exact Z.elim
  rename_i v k0 L gs;obtain⟨⟨hk,hrow⟩,hho,hfz⟩:=Z;subst hk;have hlen:es.length=ds.length:=by rw[hd.len,KI]
  refine⟨v,L,gs,bW gs,rfl,by rw[← hlen];exact hrow.1,?_,λb Y=>by simp[bl,Y]⟩;refine Ly (by rw[hrow.2.len,hlen]) λj d ge hdj hgj=>?_;obtain⟨e,hej,hel⟩:=hrow.2.get' hgj;obtain⟨e1,he1,hDR⟩:=hd.get' hdj;obtain⟨e2,he2,hl2⟩:=Lx he1;rw[hej] at he2;cases he2;obtain⟨h5,h6⟩:=MQ hDR;have hgl:ge.length=e.length:=hel.2.len;refine⟨hgl.trans hel.1,by rw[hgl,← hl2,h5],λc gc x hgc hx=>?_⟩;obtain⟨cell,hcell,hcd⟩:=h6 c x hx;rcases KH (j':=j) (c':=c) (y:=cell) (by rw[he1];exact hcell) with h7|⟨q,h7,h8⟩
  rw[hej] at h7;have h7:e[c]?=some cell:=h7;obtain⟨gc',h9,h10⟩:=hel.2.get h7;rw[hgc] at h9;cases h9;refine h10.rd (m:=m) hcd (λe'=>hfz e' e (Bvz hej) cell (Bvz h7)) (λb Y=>.inl Y) (λb Y=>?_) λb Y=>.inr ⟨r,by simp[hq],?_⟩;cases m with
  | fz=>exact .inl Y
  | bo=>exact .inl (.inl Y)
  rw[hg];simp only[bl,cw,List.mem_append,List.mem_flatMap];exact .inr ⟨ge,Bvz hgj,gc,Bvz hgc,Y⟩;have h9:=hho _ h7 gc (by rw[hgj];exact hgc);have h10:=List.all_eq_true.1 hm _ h7;simp only[DY] at h10;split at h10;rename_i m' k' xs hq';obtain⟨v',L',gs',hg',hrow'⟩:=oB hs (.inr ⟨_,_,hq',rfl⟩);obtain⟨k1,k2,k3,k4⟩:=kS hrow';rw[hg'] at h9;have h9:=h9 _ _ rfl;rw[h8,hq'] at hcd;simp only[Ek,Ab] at hcd;cases hcd;obtain⟨A,c',e0,h5',h6'⟩:=k1.form;rw[h9,rdC];refine⟨A,c',_,e0,h5',h6',k2.mono λb Y=>.inl (ox h10 b Y),?_⟩;rcases k1.at with h11|⟨b,c'',T,cur,e1,e2,e3,e4,_⟩
  exact .inl (Awz h11);rw[e0] at e1;cases e1;exact .inr ⟨b,0,rfl,.inr ⟨q,by rw[hq];exact Buz _ (List.mem_map.2 ⟨_,h7,rfl⟩),by rw[hg'];simp[bl,e3]⟩,(Array.getElem?_eq_some_iff.1 e4).1,e2⟩;cases h10
end
theorem wE {S:Nat->Prop}{w:World}{k:Nat}{v:Value}{ds:List D}{L:List Nat}{cs:List Value}(U:bL w k v ds.length L cs)(W:bg S w k ds cs)(h3:∀ b∈L,S b):rdC S w (.sl k ds) v:=by
 obtain⟨A,c,e0,h5,h6⟩:=U.form;rw[rdC];refine⟨A,c,cs,e0,h5,h6,W,?_⟩;rcases U.at with h7|⟨b,c',T,cur,e1,e2,e3,e4,_⟩
 exact .inl (Awz h7);rw[e0] at e1;cases e1;exact .inr ⟨b,0,rfl,h3 b e3,(Array.getElem?_eq_some_iff.1 e4).1,e2⟩
theorem AO {S:Nat->Prop}{w:World}{k lo n:Nat}{v u:Value}{ds:List D}{L:List Nat}{cs:List Value}(U:bL w k v ds.length L cs)(W:bg S w k ds cs)(h3:∀ b∈L,S b)(hp:ml v k lo n u):rdC S w (.sl k ((ds.drop lo).take n)) u:=by
 obtain⟨A,m,cp,A',cp',e1,h5,h6,h7,h8,h9⟩:=hp;obtain⟨A0,c0,e0,h10,h11⟩:=U.form;rw[e0] at e1;cases e1;have hl:((ds.drop lo).take n).length=n:=by simp only[Brz,Bsz];omega
 rw[rdC];refine⟨A',cp',(cs.drop (lo*k)).take (n*k),by rw[hl];exact h6,by rw[hl];exact h7,h8,(W.drop lo).take n,?_⟩;rcases h9 with h9|⟨b,e2,e3⟩
 exact .inl (Awz (by rw[hl,h9]));rcases U.at with h12|⟨b',c',T,cur,e4,e5,e6,e7,_⟩
 exact .inl (Awz (by rw[hl];omega));rw[e0] at e4;cases e4;cases e2;refine .inr ⟨b,_,e3,h3 b e6,(Array.getElem?_eq_some_iff.1 e7).1,λi u hi=>?_⟩;rw[Anz] at hi;split at hi;rw[Baz] at hi;have:=e5 _ _ hi;rwa[Nat.zero_add] at this;cases hi
end Go.A
