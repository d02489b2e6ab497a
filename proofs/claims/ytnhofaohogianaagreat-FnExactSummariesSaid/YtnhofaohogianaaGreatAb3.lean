/- Abstract states of a walk: plain lemmas on the model, without conditions of their own. -/
import Derived.Test.YtnhofaohogianaaGreatEng4
set_option linter.unusedVariables false
set_option linter.unusedSimpArgs false
set_option linter.ambiguousOpen false
set_option linter.unusedSectionVars false
set_option linter.unnecessarySimpa false
open Array renaming toArray_toList→Auz
open Nat renaming lt_of_lt_of_le→Bcz,zero_le→Aez,le_refl→Acz
open List renaming flatMap_cons→Bgz,map_cons→Bhz,mem_singleton→Blz,replicate→Bmz,eq_nil_of_length_eq_zero→Bnz,length_take→Boz,length_drop→Bpz,getElem?_take→Anz,getElem?_drop→Azz,getElem?_modify→Bqz,mem_cons_of_mem→Brz,mem_of_getElem?→Bsz
open Option renaming map_eq_some_iff→Btz,map_eq_map→Buz,map_some→Bvz
namespace Go.A
open Go Go.E
section
variable {P:Program}{S:Start}{n:Nat}{ρ:AE}{σ:St}{o:Oper}
theorem owr1 (σ:Nat→Root)(r:Nat)(x:Root):owr σ [(r,x)]=fun i=>if i=r then x else σ i:=rfl
theorem LT.alloc {T:TypeId}{z:List Value}{zs:List X}{r:Nat}(ho:o.op=.alloc T)(hT:z2M P T=some z)(hzs:∀ S1 w g,vrs S1 w g zs z)(hr:fnOf σ r=.none):LT P S o ρ σ [] (.pb r 0) [(r,.box zs)]:=by
 intro σ1 F g w ρc hs _ hwr _
 have hr1:σ1 r=.none:=(hwr (r,_) (List.mem_singleton.2 rfl)).trans hr
 obtain⟨v,hv,hc⟩:=q9z (P:=P) (w:=w) hT
 have he:(execOp (E.ev ρc) o).run P w=.ok (.value (.pointer (some ⟨w.heap.size,0,none⟩))) (w.alloc (.cells z.toArray T)):=by
  simp only[execOp,ho,Instr.alloc,newVar,hv,hc,Sem.run_bind,z1U,Result.andThen_ok,Sem.run_pure]
 rw[he]
 obtain⟨h1,h2⟩:=hs.new (r:=r) (x:=.box zs) (y:=.box w.heap.size T) hr1 (Ext.alloc w (.cells z.toArray T)) (fun _ _=>⟨z,q9y w T z,hzs _ _ _⟩) (by simp[bl]) (by simp[bl])
 refine⟨F,_,by rw[owr1];exact h1,h2,?_⟩
 rw[vr];simp
theorem LT.box {T:TypeId}{x:Operand}{X1:X}{r:Nat}(ho:o.op=.box T x)(hx:evX ρ x=X1)(hsure:z3r (fnOf σ) X1=true)(hr:fnOf σ r=.none):LT P S o ρ σ (q7C X1) (.pb r 0) [(r,.box X1.cells)]:=by
 intro σ1 F g w ρc hs hrd hwr hv
 have hr1:σ1 r=.none:=(hwr (r,_) (List.mem_singleton.2 rfl)).trans hr
 have e1:=hv x (by simp[ho,Op.operands])
 rw[hx] at e1
 have hsA:z3r σ1 X1=true:=by rw[z2f (σ2:=fnOf σ) hrd];exact hsure
 have hcs:=z4s hs hsA e1
 have he:(execOp (E.ev ρc) o).run P w=.ok (.value (.pointer (some ⟨w.heap.size,0,none⟩))) (w.alloc (.cells (E.ev ρc x).cells.toList.toArray T)):=by
  simp only[execOp,ho,Instr.box,newVar,Sem.run_bind,Auz]
  have:=z1U (P:=P) (w:=w) T (E.ev ρc x).cells.toList
  simp only[Auz] at this
  rw[this]
  rfl
 rw[he]
 obtain⟨h1,h2⟩:=hs.new (r:=r) (x:=.box X1.cells) (y:=.box w.heap.size T) hr1 (Ext.alloc w (.cells (E.ev ρc x).cells.toList.toArray T)) (fun hk hp=>⟨(E.ev ρc x).cells.toList,q9y w T _,by
  exact hcs.adv hk fun i=>by
   by_cases hi:i=r
   ·subst hi
    have:g i=.none:=by
     have:=hs.roots i
     rw[hr1] at this
     revert this
     cases g i<;>intro h<;>first|rfl|exact h.elim
    rw[this];trivial
   ·simp only[ifN hi];exact Adv.refl _⟩) (by simp[bl]) (by simp[bl])
 refine⟨F,_,by rw[owr1];exact h1,h2,?_⟩
 rw[vr];simp
def spl {α:Type}(cs:List α)(c:Nat)(l:List α):List α:=cs.take c++l++cs.drop (c+l.length)
theorem k4D {S1:Md→Nat→Prop}{w:World}{g:Nat→G}{cs ys:List X}{vs us:List Value}{c:Nat}(h:vrs S1 w g cs vs)(k:vrs S1 w g ys us):vrs S1 w g (spl cs c ys) (q4X vs c us):=by
 unfold spl q4X
 rw[← k.len]
 exact ((h.take c).append k).append (h.drop _)
theorem j4w {F:Nat→Prop}{g:Nat→G}{w:World}{σ1:Nat→Root}(hs:Sim S F g σ1 w):∀ {xs:List X} {vs:List Value},xs.all (z9B σ1)=true→vrs (SM F S.B) w g xs vs→∀ v∈vs,v.oneCell'=true
 | [],_,_,h=>by rw[vrs] at h;subst h;simp
 | x::xs,_,h1,h=>by
  rw[vrs] at h
  obtain⟨v,r,rfl,h2,h3⟩:=h
  simp only[List.all_cons,Bool.and_eq_true] at h1
  intro u hu
  rcases List.mem_cons.1 hu with rfl|hu
  ·exact j7u hs h1.1 h2
  ·exact j4w hs h1.2 h3 u hu
theorem q2g {T k:TypeId}{x y:Operand}{Y:X}{r c:Nat}{cs:List X}(ho:o.op=.store T x y)(hk:szT P T=some k)(hx:evX ρ x=.pb r c)(hσ:fnOf σ r=.box cs)(hy:evX ρ y=Y)(hl:Y.cells.length=k)(hfit:Nat.ble (c+k) cs.length=true)(hsure:Y.cells.all (z9B (fnOf σ))=true) :
  LT P S o ρ σ (Y.cells.flatMap q7C) .u [(r,.box (spl cs c Y.cells))]:=by
 intro σ1 F g w ρc hs hrd hwr hv
 have hr1:σ1 r=.box cs:=(hwr (r,_) (List.mem_singleton.2 rfl)).trans hσ
 obtain⟨b,TB,vs,hg,hb,hcs⟩:=z6u hs hr1
 have e1:=hv x (by simp[ho,Op.operands])
 have e2:=hv y (by simp[ho,Op.operands])
 rw[hx,vr,hg] at e1
 rw[hy] at e2
 have hsure' : Y.cells.all (z9B σ1)=true:=by
  rw[List.all_eq_true] at hsure ⊢
  intro z hz
  rw[j0i (σ2:=fnOf σ) fun i hi=>hrd i (List.mem_flatMap.2 ⟨z,hz,hi⟩)]
  exact hsure z hz
 have hA:z3r σ1 Y=true:=by
  cases Y with
  | ag cs=>rfl
  | _=>simpa[X.cells,z3r] using hsure'
 have hys:=z4s hs hA e2
 have hys1:=j4w hs hsure' hys
 have hfit' : c+k≤vs.length:=by rw[hcs.len];simpa using hfit
 obtain⟨w',hrun,hchg,hb'⟩:=z9h (P:=P) (w:=w) (v:=E.ev ρc y) (l:=(E.ev ρc y).cells.toList) hk (by simp) (by rw[hys.len,hl]) hys1 hb hfit'
 have he:(execOp (E.ev ρc) o).run P w=.ok .skip w':=by
  simp only[execOp,ho,e1,Instr.storeAt,Instr.sureAddr,Sem.run_bind,Sem.run_pure,Result.andThen_ok,hrun]
 obtain⟨h1,h2⟩:=hs.step (g':=g) (σ':=fun i=>if i=r then .box (spl cs c Y.cells) else σ1 i) (F':=F) (w':=w') (fun i=>i=r) hchg (fun i hi _=>⟨r,rfl,by rw[hg];simp[bl,hi]⟩) (fun i hi=>⟨rfl,ifN hi⟩) (fun i _=>Adv.refl _) (fun _ h=>h) (fun q hq=>⟨Bcz (hs.flt q hq) hchg.size,.inl hq⟩)
  (fun hkeep hp i hi=>by
   subst hi
   simp only[if_true,hg]
   exact⟨_,hb',(k4D hcs hys).adv hkeep fun i=>Adv.refl _⟩)
  (fun i hi=>hs.nodup i) (fun i j hi hj hij=>absurd (hi.trans hj.symm) hij) (fun i q hi hq=>⟨Bcz (hs.own i q hq).1 hchg.size,(hs.own i q hq).2.1,.inr ⟨i,hi,hq⟩⟩)
 rw[he]
 exact⟨F,g,by rw[owr1];exact h1,h2,by rw[vr];trivial⟩
theorem j2Z {S1:Md→Nat→Prop}{w:World}{m:Md}:∀ {ds:List D} {vs:List Value},rdCs (S1 m) w ds vs→∃ ge:List GC,all2 (cellOk S1 w) (ds.map (Cell.d m)) ge∧ge.map (·.val)=vs∧ge.flatMap (·.L)=[]
 | [],_,h=>by rw[rdCs] at h;subst h;exact⟨[],rfl,rfl,rfl⟩
 | d::ds,_,h=>by
  rw[rdCs] at h
  obtain⟨v,r,rfl,h2,h3⟩:=h
  obtain⟨ge,h4,h5,h6⟩:=j2Z h3
  exact⟨⟨v,false,0,[]⟩::ge,⟨_,_,rfl,⟨rfl,rfl,h2⟩,h4⟩,by simp[h5],by simpa using h6⟩
theorem j5X {S1:Md→Nat→Prop}{w:World}{m:Md}{k:Nat}:∀ {xs:List D} {cs:List Value},rdE (S1 m) w k xs cs→∃ gs,all2 (elOk S1 w k) (xs.map (elOf m)) gs∧q5k gs=cs∧gbl gs=[]
 | [],_,h=>by rw[rdE] at h;subst h;exact⟨[],rfl,rfl,rfl⟩
 | x::xs,_,h=>by
  obtain⟨c,r,rfl,hl,h3,h4⟩:=q6k.1 h
  obtain⟨gs,h5,h6,h7⟩:=j5X h4
  obtain⟨ge,h8,h9,h10⟩:=j2Z h3
  refine⟨ge::gs,⟨_,_,rfl,⟨by rw[elOf,lnM,← rdCs.len h3,hl],h8⟩,h5⟩,?_,?_⟩
  ·simp only[q5k,Bgz,h9];rw[← h6];rfl
  ·simp only[gbl,Bgz,h10,List.nil_append];exact h7
theorem j7y {S1:Md→Nat→Prop}{w:World}{m:Md}:∀ {ds:List D} {ge:List GC},all2 (cellOk S1 w) (ds.map (Cell.d m)) ge→rdCs (S1 m) w ds (ge.map (·.val))∧ge.flatMap (·.L)=[]∧∀ gc∈ge,gc.own=false
 | [],_,h=>by rw[show _=[] from h];simp[rdCs]
 | d::ds,_,⟨gc,r,h1,h2,h3⟩=>by
  subst h1
  obtain⟨h4,h5,h6⟩:=j7y h3
  refine⟨?_,?_,?_⟩
  ·rw[Bhz,rdCs];exact⟨_,_,rfl,h2.2.2,h4⟩
  ·simp[h2.2.1];simpa using h5
  ·intro gc' hg
   rcases List.mem_cons.1 hg with rfl|hg
   ·exact h2.1
   ·exact h6 _ hg
theorem k6o {S1:Md→Nat→Prop}{w:World}{m:Md}{k:Nat}:∀ {xs:List D} {gs:List (List GC)},all2 (elOk S1 w k) (xs.map (elOf m)) gs→rdE (S1 m) w k xs (q5k gs)∧gbl gs=[]∧∀ ge∈gs,∀ gc∈ge,gc.own=false
 | [],_,h=>by rw[show _=[] from h];simp[q5k,gbl,rdE]
 | x::xs,_,⟨ge,r,h1,h2,h3⟩=>by
  subst h1
  obtain⟨h4,h5,h6⟩:=k6o h3
  obtain⟨h7,h8,h9⟩:=j7y h2.2
  refine⟨?_,?_,?_⟩
  ·simp only[q5k,Bgz]
   refine q6k.2 ⟨_,_,rfl,?_,h7,h4⟩
   rw[lnM,h2.2.len];exact h2.1
  ·simp only[gbl,Bgz,h8,List.nil_append];exact h5
  ·intro ge' hg
   rcases List.mem_cons.1 hg with rfl|hg
   ·exact h9
   ·exact h6 _ hg
theorem q6t {S1:Md→Nat→Prop}{w:World}{m:Md}{xs:List D}{v:Value}{k:Nat}{L:List Nat}{gs:List (List GC)}(h:rowOk S1 w (xs.map (elOf m)) v k L gs):OwnR w k v xs.length L (q5k gs)∧rdE (S1 m) w k xs (q5k gs)∧gbl gs=[]∧∀ ge∈gs,∀ gc∈ge,gc.own=false:=by
 obtain⟨h1,h2⟩:=h
 rw[lnM] at h1
 exact⟨h1,k6o h2⟩
theorem Sim.newRow {F:Nat→Prop}{g:Nat→G}{w w' : World}{σ1:Nat→Root}(hs:Sim S F g σ1 w){r:Nat}(hr:σ1 r=.none){m:Md}{xs:List D}{cs cur:List Value}{k cp T:Nat}(hc:Ext w w')(hb:Blk w' w.heap.size T cur)(hcur:cur.length=cp*k)(htk:cur.take (xs.length*k)=cs)(hcp:xs.length≤cp)(hcm:cp≤maxLen)(hrd:rdE (SM F S.B m) w' k xs cs) :
  ∃ g',Sim S F g' (fun i=>if i=r then .row m k xs else σ1 i) w'∧Pres S.B F g w F g' w'∧vr (SM F S.B) w' g' (.ref r none) (.slice (some ⟨w.heap.size,0,none⟩) xs.length cp):=by
 obtain⟨gs,h1,h2,h3⟩:=j5X hrd
 have hlen:cs.length=xs.length*k:=hrd.len
 obtain⟨h4,h5⟩:=hs.new (r:=r) (x:=.row m k xs) (y:=.row (.slice (some ⟨w.heap.size,0,none⟩) xs.length cp) k [w.heap.size] gs) hr hc (fun _ _=>by
   refine⟨rfl,⟨T,⟨?_,.inr ⟨w.heap.size,cp,cur.toArray,by simp,Aez _,hb,by simpa using hcp,hcm,by simpa using hcur,by simpa[h2] using htk⟩⟩,by simp[Value.ownBlock]⟩,h1⟩
   rw[h2,hlen];simp)
  (by simp[bl,h3]) (by simp only[bl,h3,List.append_nil,Blz];rintro b rfl;exact⟨Acz _,hb.lt⟩)
 refine⟨_,h4,h5,?_⟩
 rw[vr]
 simp only[if_true]
 intro u q hu
 simp only[G.at] at hu
 cases hu
 rfl
def mle:Md→Md→Bool
 | .bo,.fz=>false
 | _,_=>true
theorem z9k {F B:Nat→Prop}{m m' : Md}(h:mle m m'=true):∀ b,SM F B m b→SM F B m' b:=by
 cases m<;>cases m'<;>first|exact fun b h=>h|exact fun b h=>.inl h|cases h
def asC (m:Md):X→Option D
 | .d m' (.sl k xs)=>if mle m' m then some (.sl k xs) else none
 | .d _ (.a _)=>none
 | .d _ x=>some x
 | .nl k=>some (.sl k [])
 | _=>none
def asCs (m:Md):List X→Option (List D)
 | []=>some []
 | x::xs=>match asC m x,asCs m xs with
  | some y,some ys=>some (y::ys)
  | _,_=>none
def asD (m:Md):X→Option D
 | .ag cs=>(asCs m cs).map .a
 | x=>asC m x
theorem k4f {F B:Nat→Prop}{w:World}{g:Nat→G}{m:Md}{x:X}{d:D}{v:Value}(h:asC m x=some d)(hv:vr (SM F B) w g x v):rdC (SM F B m) w d v:=by
 cases x with
 | d m' x=>
  rw[vr] at hv
  cases x<;>simp only[asC] at h
  case sl k xs=>
   split at h
   ·rename_i hm
    cases h
    exact hv.mono (z9k hm)
   ·cases h
  case a=>cases h
  all_goals (cases h;rw[rdC] at hv ⊢;exact hv)
 | nl k=>
  rw[vr] at hv
  simp only[asC] at h
  cases h
  rw[rdC]
  exact⟨none,0,[],hv,Acz _,Aez _,by rw[rdE],.inl rfl⟩
 | _=>simp only[asC] at h;cases h
theorem j0j {F B:Nat→Prop}{w:World}{g:Nat→G}{m:Md}:∀ {xs:List X} {ds:List D} {vs:List Value},asCs m xs=some ds→vrs (SM F B) w g xs vs→rdCs (SM F B m) w ds vs
 | [],ds,vs,h,hv=>by simp only[asCs] at h;cases h;rw[vrs] at hv;rw[rdCs];exact hv
 | x::xs,ds,vs,h,hv=>by
  simp only[asCs] at h
  split at h
  ·rename_i y ys h1 h2
   cases h
   rw[vrs] at hv
   obtain⟨v,r,h3,h4,h5⟩:=hv
   rw[rdCs]
   exact⟨v,r,h3,k4f h1 h4,j0j h2 h5⟩
  ·cases h
theorem k2n {m:Md}{x:X}{d:D}(h:asC m x=some d):d.cells=[d]:=by
 cases x with
 | d m' x=>cases x<;>simp only[asC] at h<;>first|(cases h;rfl)|(split at h<;>first|(cases h;rfl)|cases h)|cases h
 | nl k=>simp only[asC] at h;cases h;rfl
 | _=>simp only[asC] at h;cases h
theorem k6p {F B:Nat→Prop}{w:World}{g:Nat→G}{m:Md}{x:X}{d:D}{v:Value}(h:asD m x=some d)(hv:vr (SM F B) w g x v):rd1 (SM F B m) w d v.cells.toList:=by
 have one:asC m x=some d→rd1 (SM F B m) w d v.cells.toList:=fun h=>by
  have h1:=k4f h hv
  rw[z7u h1.one,rd1,k2n h]
  exact z9Y.2 ⟨v,rfl,h1⟩
 cases x with
 | ag cs=>
  simp only[asD,Btz] at h
  obtain⟨ds,h1,rfl⟩:=h
  rw[vr] at hv
  obtain⟨vs,rfl,hvs⟩:=hv
  simpa[rd1,D.cells,Value.cells] using j0j h1 hvs
 | _=>exact one h
end
section
variable {P:Program}{S:Start}{n:Nat}{ρ:AE}{σ:St}{o:Oper}
def idxX:Nat→List X→List (Nat×X)
 | _,[]=>[]
 | k,x::xs=>(k,x)::idxX (k+1) xs
def asDs (m:Md):List X→Option (List D)
 | []=>some []
 | x::xs=>match asD m x,asDs m xs with
  | some y,some ys=>some (y::ys)
  | _,_=>none
theorem k4g {F B:Nat→Prop}{w:World}{g:Nat→G}{ρc:Env}{m:Md}{k:Nat}:∀ (l:List (Nat×Operand)) (i:Nat) (xs:List X) (ds:List D),l.map (fun p=>(p.1,evX ρ p.2))=idxX i xs→(∀ p∈l,vr (SM F B) w g (evX ρ p.2) (E.ev ρc p.2))→asDs m xs=some ds→(∀ d∈ds,d.cells.length=k) →
  ∃ vs css,l.map (fun p=>(p.1,E.ev ρc p.2))=idxL i vs∧catL k vs css∧vs.length=ds.length∧rdE (SM F B m) w k ds css.flatten
 | [],i,xs,ds,h,_,hd,_=>by
  cases xs with
  | nil=>simp only[asDs] at hd;cases hd;exact⟨[],[],rfl,trivial,rfl,by simp[rdE]⟩
  | cons x xs=>simp[idxX] at h
 | p::l,i,xs,ds,h,hv,hd,hk=>by
  cases xs with
  | nil=>simp[idxX] at h
  | cons x xs=>
   simp only[Bhz,idxX,List.cons.injEq] at h
   obtain⟨h1,h2⟩:=h
   simp only[asDs] at hd
   split at hd
   ·rename_i y ys h3 h4
    cases hd
    obtain⟨vs,css,h5,h6,h7,h8⟩:=k4g l (i+1) xs ys h2 (fun q hq=>hv q (by simp[hq])) h4 fun d hd=>hk d (by simp[hd])
    have h9:=hv p (by simp)
    cases h1
    have h10:=k6p h3 h9
    have hl:(E.ev ρc p.2).cells.toList.length=k:=by rw[h10.len];exact hk y (by simp)
    refine⟨E.ev ρc p.2::vs,(E.ev ρc p.2).cells.toList::css,?_,⟨by simp,hl,h6⟩,by simp[h7],?_⟩
    ·simp[idxL,h5]
    ·rw[List.flatten_cons]
     exact q6k.2 ⟨_,_,rfl,hl,h10,h8⟩
   ·cases hd
theorem q2h {T e k mm r:Nat}{m:Md}{z:List Value}{parts:Array (Nat×Operand)}{xs:List X}{ds:List D}(ho:o.op=.buildSlice T mm parts)(hT:q7i P T=some e)(hk:szT P e=some k)(hz:z2M P e=some z)(hzk:z.length=k)(hp:parts.toList.map (fun p=>(p.1,evX ρ p.2))=idxX 0 xs)(hd:asDs m xs=some ds)(hw:ds.all (fun d=>Nat.beq d.cells.length k)=true)
  (hn:ds.length=mm) (hk0:Nat.blt 0 k=true) (hm:Nat.blt 0 mm=true) (hm2:Nat.ble (mm*k) 100000=true) (hr:fnOf σ r=.none):LT P S o ρ σ [] (.ref r none) [(r,.row m k ds)]:=by
 intro σ1 F g w ρc hs _ hwr hv
 have hr1:σ1 r=.none:=(hwr (r,_) (List.mem_singleton.2 rfl)).trans hr
 have hw' : ∀ d∈ds,d.cells.length=k:=fun d hd=>Nat.eq_of_beq_eq_true (List.all_eq_true.1 hw d hd)
 obtain⟨vs,css,h1,h2,h3,h4⟩:=k4g (ρc:=ρc) parts.toList 0 xs ds hp (fun p hp=>hv p.2 (by simp only[ho,Op.operands];simpa using ⟨p.1,by simpa using hp⟩)) hd hw'
 have hp' : parts.map (fun p=>(p.1,E.ev ρc p.2))=(idxL 0 vs).toArray:=by
  apply Array.ext';simpa using h1
 have hrun:=j7x (P:=P) (w:=w) hT hk hz hzk h2 (h3.trans hn) hk0 hm hm2
 have he:(execOp (E.ev ρc) o).run P w=.ok (.value (.slice (some ⟨w.heap.size,0,none⟩) mm mm)) (w.alloc (.cells css.flatten.toArray e)):=by
  simp only[execOp,ho,hp',Sem.run_bind,hrun,Result.andThen_ok,Sem.run_pure]
 rw[he]
 have hx:=Ext.alloc w (.cells css.flatten.toArray e)
 have hlen:css.flatten.length=mm*k:=by rw[h4.len,hn]
 have hm2' : mm*k≤100000:=by simpa using hm2
 have hk' : 0<k:=by simpa using hk0
 have hmm:mm≤mm*k:=Nat.le_mul_of_pos_right mm hk'
 obtain⟨g',h5,h6,h7⟩:=hs.newRow (m:=m) (xs:=ds) (cs:=css.flatten) (cur:=css.flatten) (k:=k) (cp:=mm) (T:=e) hr1 hx (q9y w e css.flatten) hlen (by rw[hn,← hlen,List.take_length]) (by omega) (by show _≤9223372036854775807;omega) (h4.keep (Keeps.of_ext hx))
 exact⟨F,g',h5,h6,by rw[hn] at h7;exact h7⟩
theorem q1p {T e k r:Nat}{m:Md}(ho:o.op=.buildSlice T 0 #[])(hT:q7i P T=some e)(hk:szT P e=some k)(hr:fnOf σ r=.none):LT P S o ρ σ [] (.ref r none) [(r,.row m k [])]:=by
 intro σ1 F g w ρc hs _ hwr hv
 have hr1:σ1 r=.none:=(hwr (r,_) (List.mem_singleton.2 rfl)).trans hr
 have hrun:(Instr.buildSlice T 0 #[]).run P w=.ok (.slice (some ⟨w.heap.size,0,none⟩) 0 0) (w.alloc (.cells #[] e)):=by
  have:=z1U (P:=P) (w:=w) e []
  have h0:(Array.map (fun _=>default) (Array.range 0):Array Value)=[].toArray:=by apply Array.ext<;>simp
  simp[Instr.buildSlice,run_underlying (q5T hT),q5R hk,Instr.fill]
  rw[h0,this]
  rfl
 have he:(execOp (E.ev ρc) o).run P w=.ok (.value (.slice (some ⟨w.heap.size,0,none⟩) 0 0)) (w.alloc (.cells #[] e)):=by
  simp only[execOp,ho,Sem.run_bind,Array.map_empty,hrun,Result.andThen_ok,Sem.run_pure]
 rw[he]
 obtain⟨g',h5,h6,h7⟩:=hs.newRow (m:=m) (xs:=[]) (cs:=[]) (cur:=[]) (k:=k) (cp:=0) (T:=e) hr1 (Ext.alloc w (.cells #[] e)) (q9y w e []) (by simp) (by simp) (Acz _) (Aez _) (by rw[rdE])
 exact⟨F,g',h5,h6,h7⟩
theorem j3a {S1:Nat→Prop}{w:World}{d:D}{z:List Value}(h:rd1 S1 w d z):∀ m,rdE S1 w z.length (Bmz m d) (reps z m)
 | 0=>by simp[rdE,reps]
 | m+1=>by
  rw[List.replicate_succ,reps]
  exact q6k.2 ⟨z,_,rfl,rfl,h,j3a h m⟩
theorem LT.mk {T e k b r:Nat}{z:List Value}{zs:List X}{l c:Operand}{md m1 m2:Md}{q q' : IntKind}{j:Int}{d:D}(ho:o.op=.makeSlice T l c)(hT:q7i P T=some e)(hk:szT P e=some k)(hb:byT P e=some b)(hz:z2M P e=some z)(hzk:z.length=k)(hl:evX ρ l=.d m1 (.i q j))(hc:evX ρ c=.d m2 (.i q' j))
  (hzs:∀ S1 w g,vrs S1 w g zs z) (hd:asCs md zs=some d.cells) (h0:0≤j) (hm:j≤9223372036854775807) (hbm:(b:Int)*j≤281474976710656) (hr:fnOf σ r=.none):LT P S o ρ σ [] (.ref r none) [(r,.row md k (Bmz j.toNat d))]:=by
 intro σ1 F g w ρc hs _ hwr hv
 have hr1:σ1 r=.none:=(hwr (r,_) (List.mem_singleton.2 rfl)).trans hr
 obtain⟨i,v,hi,hik,hib,hiv,hvc⟩:=j2V hk hb hz
 have hrun:=run_make (P:=P) (w:=w) T e i v (q5T hT) hi hiv q q' j j h0 (Int.le_refl _) (by rw[hib];exact hbm) hm
 have hcells:madeCells v.cells (j.toNat*i.size)=(reps z j.toNat).toArray:=by
  have:=z3p v.cells j.toNat
  rw[hvc] at this ⊢
  simp only[List.size_toArray,hzk] at this
  rw[hik]
  simpa using this
 have e1:=hv l (by simp[ho,Op.operands])
 have e2:=hv c (by simp[ho,Op.operands])
 rw[hl,vr,rdC] at e1
 rw[hc,vr,rdC] at e2
 have he:(execOp (E.ev ρc) o).run P w=.ok (.value (.slice (some ⟨w.heap.size,0,none⟩) j.toNat j.toNat)) (w.alloc (.cells (reps z j.toNat).toArray e)):=by
  rw[hcells] at hrun
  simp only[execOp,ho,e1,e2,Sem.run_bind,hrun,Result.andThen_ok,Sem.run_pure]
 rw[he]
 have hx:=Ext.alloc w (.cells (reps z j.toNat).toArray e)
 have hrd:rdCs (SM F S.B md) (w.alloc (.cells (reps z j.toNat).toArray e)) d.cells z:=j0j hd (hzs _ _ g)
 have hrd2:=j3a (S1:=SM F S.B md) (d:=d) hrd j.toNat
 have hlen:(reps z j.toNat).length=j.toNat*k:=by rw[z2e,hzk]
 obtain⟨g',h5,h6,h7⟩:=hs.newRow (m:=md) (xs:=Bmz j.toNat d) (cs:=reps z j.toNat) (cur:=reps z j.toNat) (k:=k) (cp:=j.toNat) (T:=e) hr1 hx (q9y w e (reps z j.toNat)) hlen (by rw[List.length_replicate,← hlen,List.take_length]) (by simp) (by show _≤9223372036854775807;omega) (by rw[hzk] at hrd2;exact hrd2)
 exact⟨F,g',h5,h6,by simpa using h7⟩
def z6G (x:Root):Option (Nat×Nat)→Option (Md×Nat×List D)
 | none=>match x with|.row m k ys=>some (m,k,ys)|_=>none
 | some _=>none
def srcD (σ:Nat→Root):X→Option (Md×Nat×List D)
 | .d m (.sl k ys)=>some (m,k,ys)
 | .nl k=>some (.fz,k,[])
 | .ref q l=>z6G (σ q) l
 | .vs q l lo n=>(z6G (σ q) l).map fun p=>(p.1,p.2.1,(p.2.2.drop lo).take n)
 | _=>none
theorem j2v {σ1 σ2:Nat→Root}{x:X}(h:∀ r∈q7C x,σ1 r=σ2 r):srcD σ1 x=srcD σ2 x:=by
 cases x<;>simp only[srcD]<;>simp only[q7C,Blz,forall_eq] at h<;>try rw[h]
 rename_i m x
 cases x<;>rfl
theorem j4x {F:Nat→Prop}{g:Nat→G}{w:World}{σ1:Nat→Root}(hs:Sim S F g σ1 w){q kk:Nat}{l:Option (Nat×Nat)}{m:Md}{ys:List D}(h:z6G (σ1 q) l=some (m,kk,ys)) :
  ∃ v k L gs,g q=.row v k L gs∧∃ u LL cs,G.at (.row v k L gs) l=some (u,kk)∧OwnR w kk u ys.length LL cs∧rdE (SM F S.B m) w kk ys cs∧∀ b∈LL,b∈bl (g q):=by
 cases l with
 | none=>
  simp only[z6G] at h
  split at h
  ·rename_i m0 k0 ys0 hσ
   cases h
   obtain⟨u,L,gs,hg,hrow⟩:=z7t hs (.inr ⟨_,_,hσ,rfl⟩)
   obtain⟨h1,h2,h3,h4⟩:=q6t hrow
   exact⟨u,_,L,gs,hg,u,L,_,rfl,h1,h2,fun b hb=>by rw[hg];simp[bl,hb]⟩
  ·cases h
 | some jc=>cases h
theorem j7z {F:Nat→Prop}{g:Nat→G}{w:World}{σ1:Nat→Root}(hs:Sim S F g σ1 w){x:X}{m:Md}{k:Nat}{ys:List D}{v:Value}(h:srcD σ1 x=some (m,k,ys))(hv:vr (SM F S.B) w g x v) :
  ∃ A cp cs,v=.slice A ys.length cp∧ys.length≤cp∧cp≤maxLen∧rdE (SM F S.B m) w k ys cs∧(ys=[]∨∃ b o,A=some ⟨b,o,none⟩∧At w b o cs∧b<w.heap.size∧(SM F S.B m b∨∃ r∈q7C x,b∈bl (g r))):=by
 cases x<;>simp only[srcD] at h
 case d m' x=>
  cases x<;>simp only[srcD] at h<;>try cases h
  rw[vr,rdC] at hv
  obtain⟨A,cap,cells,h1,h2,h3,h4,h5⟩:=hv
  exact⟨A,cap,cells,h1,h2,h3,h4,h5.imp id fun ⟨b,o,e1,e2,e3,e4⟩=>⟨b,o,e1,e4,e3,.inl e2⟩⟩
 case nl k=>
  cases h
  rw[vr] at hv
  exact⟨none,0,[],hv,Acz _,Aez _,by rw[rdE],.inl rfl⟩
 case ref q l=>
  obtain⟨u,k0,L,gs,hg,u',LL,cs,hat,hown,hrd,hb⟩:=j4x hs h
  rw[vr,hg] at hv
  have:=hv _ _ hat
  subst this
  obtain⟨A,c,e0,h5,h6⟩:=hown.form
  refine⟨A,c,cs,e0,h5,h6,hrd,?_⟩
  rcases hown.at with h7|⟨b,c',T,cur,e1,e2,e3,_⟩
  ·exact .inl (Bnz h7)
  ·rw[e0] at e1
   cases e1
   exact .inr ⟨b,0,rfl,e2,(hs.own q b (hb b e3)).1,.inr ⟨q,by simp[q7C],hb b e3⟩⟩
 case vs q l lo n=>
  simp only[Btz] at h
  obtain⟨⟨m0,kk,zs⟩,h,e⟩:=h
  cases e
  obtain⟨u,k0,L,gs,hg,u',LL,cs,hat,hown,hrd,hb⟩:=j4x hs h
  rw[vr,hg] at hv
  obtain⟨A1,m1,c1,A',cp',h1,h2,h3,h4,h5,h6⟩:=hv _ _ hat
  obtain⟨A,c,e0,h7,h8⟩:=hown.form
  rw[e0] at h1
  cases h1
  have hl:((zs.drop lo).take n).length=n:=by simp only[Boz,Bpz];omega
  refine⟨A',cp',(cs.drop (lo*kk)).take (n*kk),by simpa only[hl] using h3,by simpa only[hl] using h4,h5,(hrd.drop lo).take n,?_⟩
  rcases h6 with h6|⟨b,e1,e2⟩
  ·left;exact Bnz (by simp only[Boz,Bpz];omega)
  ·rcases hown.at with h9|⟨b',c',T,cur,e3,e4,e5,_⟩
   ·left;exact Bnz (by simp only[Boz,Bpz];omega)
   ·rw[e0] at e3
    cases e3
    cases e1
    refine .inr ⟨b,_,e2,?_,(hs.own q b (hb b e5)).1,.inr ⟨q,by simp[q7C],hb b e5⟩⟩
    intro i u hi
    rw[Anz] at hi
    split at hi
    ·rw[Azz] at hi
     have:=e4 _ _ hi
     rwa[Nat.zero_add] at this
    ·cases hi
 all_goals cases h
theorem j0k {T ty e k b:Nat}{z:List Value}{w:World}{v:Value}{m:Nat}{L:List Nat}{cs:List Value}{A:Option Addr}{m2 c2:Nat}{news:List Value}(hT:q7i P T=some e)(hk:szT P e=some k)(hb:byT P e=some b)(hz:z2M P e=some z)(hzk:z.length=k)(hk0:0<k)
  (hown:OwnR w k v m L cs) (hl:news.length=m2*k) (hat:m2=0∨∃ b o,A=some ⟨b,o,none⟩∧At w b o news) (h1:∀ u∈news,u.oneCell'=true) (hmax:(m+m2)*b≤140737488355328) (hm:m+m2≤maxLen) :
  ∃ v' w' L',(Builtin.append_ #[T,T] ty #[v,.slice A m2 c2]).run P w=.ok v' w'∧OwnR w' k v' (m+m2) L' (cs++news)∧Chg (fun q=>q∈L) w w'∧∀ q∈L',q∈L∨w.heap.size≤q:=by
 obtain⟨e0,hown,rfl⟩:=hown
 obtain⟨i,zv,hi,hik,hib,hiv,hvc⟩:=j2V hk hb hz
 have mem:∀ (u:Value) q,q∈u.ownBlock.toList↔u.ownBlock=some q:=fun u q=>by cases u.ownBlock<;>simp[eq_comm]
 have fin:(∃ v' w' e',(Builtin.append_ #[T,T] ty #[v,.slice A m2 c2]).run P w=.ok v' w'∧Own w' 0 e' k v' (m+m2) (cs++news)∧Chg (z9z v) w w'∧∀ g,z9z v' g→z9z v g∨w.heap.size≤g) →
   ∃ v' w' L',(Builtin.append_ #[T,T] ty #[v,.slice A m2 c2]).run P w=.ok v' w'∧OwnR w' k v' (m+m2) L' (cs++news)∧Chg (fun q=>q∈v.ownBlock.toList) w w'∧∀ q∈L',q∈v.ownBlock.toList∨w.heap.size≤q:=by
  rintro⟨v',w',e',k1,k2,k3,k4⟩
  refine⟨v',w',v'.ownBlock.toList,k1,⟨e',k2,rfl⟩,k3.mono fun q _ hq=>(mem v q).2 hq,fun q hq=>?_⟩
  exact (k4 q ((mem v' q).1 hq)).imp (fun h=>(mem v q).2 h) id
 apply fin
 cases A with
 | none=>
  have h0:m2=0:=by rcases hat with h0|⟨_,_,h0,_⟩;exact h0;cases h0
  subst h0
  have hn:news=[]:=Bnz (by simpa using hl)
  subst hn
  refine⟨v,w,e0,?_,by simpa using hown,Chg.refl w,fun g hg=>.inl hg⟩
  rcases hown.2 with ⟨rfl,rfl⟩|⟨g,cap,cur,rfl,_,_,hnc,_⟩
  ·simp[Builtin.append_,run_underlying (q5T hT),sizeOf,typeInfo,hi,Builtin.lenOf,Builtin.firstCells]
  ·simp[Builtin.append_,run_underlying (q5T hT),sizeOf,typeInfo,hi,Builtin.lenOf,Builtin.firstCells,hnc,storeCells]
 | some ad=>
  have hcells:∀ j u,news[j]?=some u→w.cell? (ad.add j)=some u:=by
   intro j u hu
   rcases hat with h0|⟨b2,o2,hA,hat⟩
   ·subst h0
    have hn:news=[]:=Bnz (by simpa using hl)
    subst hn
    simp at hu
   ·cases hA
    have hadd:(⟨b2,o2,none⟩:Addr).add j=⟨b2,o2+j,none⟩:=by unfold Addr.add;split<;>simp_all
    rw[hadd];exact hat j u hu
  exact j5R (P:=P) (ty:=ty) (base:=0) hT hk hb hz hzk hk0 hown hl hcells h1 hmax hm (Aez _)
theorem j3b {F:Nat→Prop}{g:Nat→G}{w:World}{σ1:Nat→Root}(hs:Sim S F g σ1 w){r:Nat}(hr:σ1 r=.none):g r=.none:=by
 have:=hs.roots r
 rw[hr] at this
 revert this
 cases g r<;>intro h<;>first|rfl|exact h.elim
theorem Sim.regrow {F:Nat→Prop}{g:Nat→G}{w w' : World}{σ1:Nat→Root}(hs:Sim S F g σ1 w){r r' : Nat}(hne:r'≠r)(hr' : σ1 r'=.none)(hr0:g r≠.none){L:List Nat}(hL:∀ b∈L,b∈bl (g r))(hc:Chg (fun q=>q∈L) w w'){v' : Value}{k:Nat}{L' : List Nat}{gs' : List (List GC)}{x:Root}
  (hx:(∀ m b o cs,SM F S.B m b→b<w.heap.size→At w b o cs→SM F S.B m b∧b<w'.heap.size∧At w' b o cs)→∀ g',z0r (SM F S.B) w' g' x (.row v' k L' gs')) (hnd:(bl (.row v' k L' gs')).Nodup) (hbl:∀ b∈bl (.row v' k L' gs'),b<w'.heap.size∧(b∈bl (g r)∨w.heap.size≤b)) :
  ∃ g',Sim S F g' (owr σ1 [(r,.dead),(r',x)]) w'∧Pres S.B F g w F g' w'∧vr (SM F S.B) w' g' (.ref r' none) v':=by
 have hg2:=j3b hs hr'
 have e1:owr σ1 [(r,.dead),(r',x)]=fun i=>if i=r' then x else if i=r then .dead else σ1 i:=rfl
 obtain⟨h1,h2⟩:=hs.step (g':=fun i=>if i=r' then .row v' k L' gs' else if i=r then .dead else g i) (σ':=fun i=>if i=r' then x else if i=r then .dead else σ1 i) (F':=F) (w':=w') (fun i=>i=r∨i=r') hc (fun b hb _=>⟨r,.inl rfl,hL b hb⟩)
  (fun i hi=>⟨by simp only[ifN (fun e=>hi (.inr e)),ifN (fun e=>hi (.inl e))],by simp only[ifN (fun e=>hi (.inr e)),ifN (fun e=>hi (.inl e))]⟩)
  (fun i hi=>by
   rcases hi with hi|hi<;>subst hi
   ·simp only[ifN (Ne.symm hne),if_true];exact Adv.dead hr0
   ·rw[hg2];trivial)
  (fun _ h=>h) (fun b hb=>⟨Bcz (hs.flt b hb) hc.size,.inl hb⟩)
  (fun hk hp i hi=>by
   rcases hi with hi|hi<;>subst hi
   ·simp only[ifN (Ne.symm hne),if_true];trivial
   ·simp only[if_true];exact hx hk _)
  (fun i hi=>by
   rcases hi with hi|hi<;>subst hi
   ·simp only[ifN (Ne.symm hne),if_true,bl];exact List.nodup_nil
   ·simp only[if_true];exact hnd)
  (fun i j hi hj hij b hb=>by
   rcases hi with hi|hi<;>rcases hj with hj|hj
   ·exact absurd (hi.trans hj.symm) hij
   ·rw[hi] at hb;simp only[ifN (Ne.symm hne),if_true,bl] at hb;cases hb
   ·rw[hj];simp only[ifN (Ne.symm hne),if_true,bl];exact List.not_mem_nil
   ·exact absurd (hi.trans hj.symm) hij)
  (fun i b hi hb=>by
   rcases hi with hi|hi
   ·rw[hi] at hb;simp only[ifN (Ne.symm hne),if_true,bl] at hb;cases hb
   ·rw[hi] at hb
    simp only[if_true] at hb
    obtain⟨h3,h4⟩:=hbl b hb
    refine⟨h3,fun hf=>?_,?_⟩
    ·rcases h4 with h4|h4
     ·exact (hs.own r b h4).2.1 hf
     ·have:=hs.flt b hf;omega
    ·rcases h4 with h4|h4
     ·exact .inr ⟨r,.inl rfl,h4⟩
     ·exact .inl h4)
 refine⟨_,by rw[e1];exact h1,h2,?_⟩
 rw[vr]
 simp only[if_true]
 intro u q hu
 simp only[G.at] at hu
 cases hu
 rfl
theorem j7A {T:TypeId}{s x:Operand}{ρc:Env}{w w' : World}{v1 v2 v' : Value}(ho:o.op=.call { callee:=.builtin .append,args:=#[s,x],argTypes:=#[T,T] })(h1:E.ev ρc s=v1)(h2:E.ev ρc x=v2)(hr:(Builtin.append_ #[T,T] o.type #[v1,v2]).run P w=.ok v' w'):(execOp (E.ev ρc) o).run P w=.ok (.value v') w':=by
 simp only[execOp,ho,resolve,invoke,builtin,Sem.run_bind,Sem.run_pure,Result.andThen_ok,List.map_toArray,Bhz,List.map_nil,h1,h2,hr]
theorem q1q {T e k b r r' : Nat}{z:List Value}{s x:Operand}{m m' m0:Md}{xs ys:List D}{X1:X}(ho:o.op=.call { callee:=.builtin .append,args:=#[s,x],argTypes:=#[T,T] })(hT:q7i P T=some e)(hk:szT P e=some k)(hb:byT P e=some b)(hz:z2M P e=some z)(hzk:z.length=k)(hk0:Nat.blt 0 k=true)
  (hs:evX ρ s=.ref r none) (hσ:fnOf σ r=.row m0 k xs) (hx:evX ρ x=X1) (hsrc:srcD (fnOf σ) X1=some (m',k,ys)) (hm:mle m' m=true) (hm0:mle m0 m=true) (hmax:(xs.length+ys.length)*b≤140737488355328) (hlen:xs.length+ys.length≤maxLen) (hr' : fnOf σ r'=.none) :
  LT P S o ρ σ (q7C X1) (.ref r' none) [(r,.dead),(r',.row m k (xs++ys))]:=by
 intro σ1 F g w ρc hsim hrd hwr hv
 have hr1:σ1 r=.row m0 k xs:=(hwr (r,.dead) (by simp)).trans hσ
 have hr2:σ1 r'=.none:=(hwr (r',.row m k (xs++ys)) (by simp)).trans hr'
 have hne:r'≠r:=fun e=>by rw[e,hr1] at hr2;cases hr2
 have hsrc1:srcD σ1 X1=some (m',k,ys):=by rw[j2v (σ2:=fnOf σ) hrd];exact hsrc
 have e1:=hv s (by simp[ho,Op.operands,Call.operands])
 have e2:=hv x (by simp[ho,Op.operands,Call.operands])
 rw[hx] at e2
 obtain⟨A,cp,news,hv2,hcp,hcm,hrdn,hat⟩:=j7z hsim hsrc1 e2
 obtain⟨v,kk,L,gs,hg,u',LL,cs,hat1,hown,hrdx,hLb⟩:=j4x hsim (q:=r) (l:=none) (m:=m0) (kk:=k) (ys:=xs) (by simp only[z6G,hr1])
 cases hat1
 rw[hs,vr,hg] at e1
 have e3:=e1 _ _ rfl
 obtain⟨v',w',L',hrun,hown',hchg,hL'⟩:=j0k (P:=P) (ty:=o.type) (w:=w) (A:=A) (c2:=cp) (news:=news) hT hk hb hz hzk (by simpa using hk0) hown hrdn.len (hat.imp (fun h=>by rw[h];rfl) fun ⟨b,o,h1,h2,_⟩=>⟨b,o,h1,h2⟩) hrdn.one hmax hlen
 rw[j7A (P:=P) (w:=w) ho e3 hv2 hrun]
 have hkeep:=hsim.keeps (F':=F) hchg (fun b hb _=>⟨r,hLb b hb⟩) (fun _ h=>h)
 have hrd' : rdE (SM F S.B m) w' k (xs++ys) (cs++news):=((hrdx.mono (z9k hm0)).imp (hkeep m)).append ((hrdn.mono (z9k hm)).imp (hkeep m))
 obtain⟨gs',hg1,hg2,hg3⟩:=j5X hrd'
 have hbl' : bl (.row v' k L' gs')=L':=by simp[bl,hg3]
 obtain⟨g',h1,h2,h3⟩:=hsim.regrow (x:=.row m k (xs++ys)) (v':=v') (k:=k) (L':=L') (gs':=gs') hne hr2 (by rw[hg];intro h;cases h) hLb hchg (fun _ g'=>⟨rfl,by rw[hg2,lnM,List.length_append];exact hown',hg1⟩) (by rw[hbl'];exact hown'.nodup) (fun b hb=>by
  rw[hbl'] at hb
  exact⟨hown'.lst b hb,(hL' b hb).imp (hLb b) id⟩)
 exact⟨F,g',h1,h2,h3⟩
end
section
variable {w:World}{S:Nat→Prop}
mutual
theorem owC.rd:∀ {x:D} {v:Value} {L:List Nat},owC w x v L→(∀ b∈L,S b)→rdC S w x v
 | .i _ _,_,_,h,_=>h.1
 | .b _,_,_,h,_=>h.1
 | .s _,_,_,h,_=>h.1
 | .a _,_,_,h,_=>h.1
 | .sl k xs,v,L,h,hf=>by
  rw[owC] at h
  obtain⟨L0,cs,L1,h1,h2,rfl⟩:=h
  have h3:=owE.rd h2 fun b hb=>hf b (by simp[hb])
  obtain⟨A,c,e0,h5,h6⟩:=h1.form
  rw[rdC]
  refine⟨A,c,cs,e0,h5,h6,h3,?_⟩
  rcases h1.at with h7|⟨b,c',T,cur,e1,e2,e3,e4,_⟩
  ·exact .inl (Bnz h7)
  ·rw[e0] at e1
   cases e1
   exact .inr ⟨b,0,rfl,hf b (by simp[e3]),(Array.getElem?_eq_some_iff.1 e4).1,e2⟩
theorem owCs.rd:∀ {x:List D} {v:List Value} {L:List Nat},owCs w x v L→(∀ b∈L,S b)→rdCs S w x v
 | [],_,_,h,_=>by rw[rdCs];exact h.1
 | x::xs,v,L,h,hf=>by
  rw[owCs] at h
  rw[rdCs]
  obtain⟨v,r,L0,L1,h1,rfl,h3,h4⟩:=h
  exact⟨v,r,h1,owC.rd h3 fun b hb=>hf b (by simp[hb]),owCs.rd h4 fun b hb=>hf b (by simp[hb])⟩
theorem owE.rd {k:Nat}:∀ {x:List D} {v:List Value} {L:List Nat},owE w k x v L→(∀ b∈L,S b)→rdE S w k x v
 | [],_,_,h,_=>by rw[rdE];exact h.1
 | .a ds::xs,v,L,h,hf=>by
  rw[owE] at h;rw[rdE]
  obtain⟨c,r,L0,L1,h1,rfl,h2,h3,h4⟩:=h
  exact⟨c,r,h1,h2,owCs.rd h3 fun b hb=>hf b (by simp[hb]),owE.rd h4 fun b hb=>hf b (by simp[hb])⟩
 | .i k n::xs,v,L,h,hf=>by
  rw[owE] at h;rw[rdE]
  obtain⟨c,r,L0,L1,h1,rfl,h2,⟨u,h3,h5⟩,h4⟩:=h
  exact⟨c,r,h1,h2,⟨u,h3,h5.1⟩,owE.rd h4 fun b hb=>hf b (by simp[hb])⟩
 | .b n::xs,v,L,h,hf=>by
  rw[owE] at h;rw[rdE]
  obtain⟨c,r,L0,L1,h1,rfl,h2,⟨u,h3,h5⟩,h4⟩:=h
  exact⟨c,r,h1,h2,⟨u,h3,h5.1⟩,owE.rd h4 fun b hb=>hf b (by simp[hb])⟩
 | .s n::xs,v,L,h,hf=>by
  rw[owE] at h;rw[rdE]
  obtain⟨c,r,L0,L1,h1,rfl,h2,⟨u,h3,h5⟩,h4⟩:=h
  exact⟨c,r,h1,h2,⟨u,h3,h5.1⟩,owE.rd h4 fun b hb=>hf b (by simp[hb])⟩
 | .sl n ys::xs,v,L,h,hf=>by
  rw[owE] at h;rw[rdE]
  obtain⟨c,r,L0,L1,h1,rfl,h2,⟨u,h3,h5⟩,h4⟩:=h
  exact⟨c,r,h1,h2,⟨u,h3,owC.rd h5 fun b hb=>hf b (by simp[hb])⟩,owE.rd h4 fun b hb=>hf b (by simp[hb])⟩
end
def k2o:Cell→Option D
 | .d _ x=>some x
 | .o _ k xs=>some (.sl k xs)
 | .w k xs=>some (.sl k xs)
 | .nl k=>some (.sl k [])
 | .u=>none
def j4y:List Cell→Option (List D)
 | []=>some []
 | c::cs=>match k2o c,j4y cs with
  | some x,some xs=>some (x::xs)
  | _,_=>none
def DR (e:List Cell)(d:D):Prop:=j4y e=some d.cells
theorem all2.map {α β γ:Type}{R:β→γ→Prop}{f:α→β}{g:α→γ}(h:∀ x,R (f x) (g x)):∀ xs:List α,all2 R (xs.map f) (xs.map g)
 | []=>rfl
 | x::xs=>⟨g x,_,rfl,h x,all2.map h xs⟩
theorem j2w:∀ {e:List Cell} {ds:List D},j4y e=some ds→e.length=ds.length∧∀ (c:Nat) (d:D),ds[c]?=some d→∃ cell,e[c]?=some cell∧k2o cell=some d
 | [],ds,h=>by simp only[j4y] at h;cases h;exact⟨rfl,fun c d hd=>by simp at hd⟩
 | x::e,ds,h=>by
  simp only[j4y] at h
  split at h
  ·rename_i y ys h1 h2
   cases h
   obtain⟨h3,h4⟩:=j2w h2
   refine⟨by simp[h3],fun c d hd=>?_⟩
   cases c with
   | zero=>simp at hd;subst hd;exact⟨x,rfl,h1⟩
   | succ c=>simpa using h4 c d (by simpa using hd)
  ·cases h
theorem cellOk.rd {S1:Md→Nat→Prop}{m:Md}{c:Cell}{gc:GC}{d:D}(h:cellOk S1 w c gc)(hc:k2o c=some d)(hfz:m=.fz→fzC c=true)(hS:∀ b,S1 m b→S b)(hS2:∀ b,S1 .fz b→S b)(hL:∀ b∈gc.L,S b):rdC S w d gc.val:=by
 have sub:∀ m',(m=.fz→m'=.fz)→∀ b,S1 m' b→S b:=fun m' h b hb=>by
  cases m' with
  | fz=>exact hS2 b hb
  | bo=>cases m with
   | fz=>cases h rfl
   | bo=>exact hS b hb
 cases c with
 | d m' x=>
  cases x with
  | a cs=>cases hc;have:=h.2.2;rw[rdC] at this ⊢;exact this
  | sl k xs=>
   cases hc
   exact h.2.2.mono (sub m' fun e=>by have:=hfz e;cases m'<;>first|rfl|cases this)
  | i k n=>cases hc;have:=h.2.2;rw[rdC] at this ⊢;exact this
  | b k=>cases hc;have:=h.2.2;rw[rdC] at this ⊢;exact this
  | s k=>cases hc;have:=h.2.2;rw[rdC] at this ⊢;exact this
 | o m' k xs=>
  cases hc
  obtain⟨h1,h2,cs,h3,h4⟩:=h
  obtain⟨A,c,e0,h5,h6⟩:=h3.form
  rw[rdC]
  refine⟨A,c,cs,e0,h5,h6,h4.mono (sub m' fun e=>by have:=hfz e;cases m'<;>first|rfl|cases this),?_⟩
  rcases h3.at with h7|⟨b,c',T,cur,e1,e2,e3,e4,_⟩
  ·exact .inl (Bnz h7)
  ·rw[e0] at e1
   cases e1
   exact .inr ⟨b,0,rfl,hL b e3,(Array.getElem?_eq_some_iff.1 e4).1,e2⟩
 | w k xs=>cases hc;exact h.2.2.rd hL
 | nl k=>
  cases hc
  rw[rdC]
  exact⟨none,0,[],h.2.2,Acz _,Aez _,by rw[rdE],.inl rfl⟩
 | u=>cases hc
theorem j0l:∀ {ds:List D} {vs:List Value},vs.length=ds.length→(∀ (c:Nat) (d:D),ds[c]?=some d→∃ v,vs[c]?=some v∧rdC S w d v)→rdCs S w ds vs
 | [],vs,hl,_=>by rw[rdCs];exact Bnz hl
 | d::ds,[],hl,_=>by simp at hl
 | d::ds,v::vs,hl,h=>by
  rw[rdCs]
  obtain⟨u,h1,h2⟩:=h 0 d rfl
  simp at h1
  subst h1
  exact⟨v,vs,rfl,h2,j0l (by simpa using hl) fun c d hc=>by simpa using h (c+1) d (by simpa using hc)⟩
theorem j4z {k:Nat}:∀ {ds:List D} {gs:List (List GC)},gs.length=ds.length→(∀ (j:Nat) (d:D) (ge:List GC),ds[j]?=some d→gs[j]?=some ge→ge.length=k∧ge.length=d.cells.length∧∀ (c:Nat) (gc:GC) (x:D),ge[c]?=some gc→d.cells[c]?=some x→rdC S w x gc.val)→rdE S w k ds (q5k gs)
 | [],gs,hl,_=>by rw[Bnz hl,rdE];rfl
 | d::ds,[],hl,_=>by simp at hl
 | d::ds,ge::gs,hl,h=>by
  obtain⟨h1,h2,h3⟩:=h 0 d ge rfl rfl
  refine q6k.2 ⟨ge.map (·.val),q5k gs,by simp[q5k],by simpa using h1,j0l (by simp[h2]) fun c x hx=>?_,j4z (by simpa using hl) fun j d' ge' hd hg=>h (j+1) d' ge' (by simpa using hd) (by simpa using hg)⟩
  have hlt:c<ge.length:=by rw[h2];exact (List.getElem?_eq_some_iff.1 hx).1
  exact⟨ge[c].val,by simp[hlt],h3 c _ x (List.getElem?_eq_getElem hlt) hx⟩
end
def setC (es:List (List Cell))(j c:Nat)(x:Cell):List (List Cell):=es.modify j fun e=>e.set c x
def j5Y:Root→Cell
 | .row m k xs=>.o m k xs
 | _=>.u
def j1Q (σ:Nat→Root):List (Nat×Nat×Nat)→List (List Cell)→List (List Cell)
 | [],es=>es
 | (j,c,q)::hs,es=>setC (j1Q σ hs es) j c (j5Y (σ q))
def j9M (σ:Nat→Root)(m:Md)(p:Nat×Nat×Nat):Bool:=match σ p.2.2 with|.row m' _ _=>mle m' m|_=>false
theorem k2p {es:List (List Cell)}{j c j' c' : Nat}{x y:Cell}(h:((setC es j c x)[j']?).bind (·[c']?)=some y):(∃ e,es[j']?=some e)∧((((es)[j']?).bind (·[c']?)=some y)∨(j'=j∧c'=c∧y=x)):=by
 simp only[setC,Bqz] at h
 cases he:es[j']? with
 | none=>simp[he] at h
 | some e=>
  refine⟨⟨e,rfl⟩,?_⟩
  simp only[he,Buz,Bvz,bsS] at h
  by_cases hj:j=j'
  ·subst hj
   simp only[if_true,Buz,Bvz,bsS] at h
   by_cases hc:c=c'
   ·subst hc
    rw[List.getElem?_set] at h
    simp at h
    exact .inr ⟨rfl,rfl,h.2.symm⟩
   ·rw[List.getElem?_set_ne hc] at h
    exact .inl (by simpa using h)
  ·simp only[ifN hj] at h
   exact .inl (by simpa using h)
theorem k2q {es:List (List Cell)}{j c:Nat}{x:Cell}:(setC es j c x).length=es.length:=by simp[setC]
theorem j9N {es:List (List Cell)}{j c j' : Nat}{x:Cell}{e' : List Cell}(h:(setC es j c x)[j']?=some e'):∃ e,es[j']?=some e∧e'.length=e.length:=by
 simp only[setC,Bqz] at h
 cases he:es[j']? with
 | none=>simp[he] at h
 | some e=>
  simp only[he,Buz,Bvz,Option.some.injEq] at h
  refine⟨e,rfl,?_⟩
  rw[← h]
  split<;>simp
theorem j7B {σ:Nat→Root}:∀ {hs:List (Nat×Nat×Nat)} {es:List (List Cell)},(j1Q σ hs es).length=es.length
 | [],es=>rfl
 | (j,c,q)::hs,es=>by rw[j1Q,k2q,j7B]
theorem j4A {σ:Nat→Root}:∀ {hs:List (Nat×Nat×Nat)} {es:List (List Cell)} {j:Nat} {e' : List Cell},(j1Q σ hs es)[j]?=some e'→∃ e,es[j]?=some e∧e'.length=e.length
 | [],es,j,e',h=>⟨e',h,rfl⟩
 | (j,c,q)::hs,es,j',e',h=>by
  obtain⟨e1,h1,h2⟩:=j9N h
  obtain⟨e2,h3,h4⟩:=j4A h1
  exact⟨e2,h3,h2.trans h4⟩
theorem j7C {σ:Nat→Root}:∀ {hs:List (Nat×Nat×Nat)} {es:List (List Cell)} {j' c' : Nat} {y:Cell},((j1Q σ hs es)[j']?).bind (·[c']?)=some y→((es)[j']?).bind (·[c']?)=some y∨∃ q,(j',c',q)∈hs∧y=j5Y (σ q)
 | [],es,j',c',y,h=>.inl h
 | (j,c,q)::hs,es,j',c',y,h=>by
  rcases (k2p h).2 with h1|⟨rfl,rfl,h1⟩
  ·rcases j7C h1 with h2|⟨q',h2,h3⟩
   ·exact .inl h2
   ·exact .inr ⟨q',Brz _ h2,h3⟩
  ·exact .inr ⟨q,by simp,h1⟩
inductive DataAt (σ:Nat→Root) (r:Nat) (m:Md) (k:Nat) (ds:List D) (qs:List Nat):Prop
 | row (h:σ r=.row m k ds) (hq:qs=[r])
 | deep {es:List (List Cell)} {hs:List (Nat×Nat×Nat)} (h:σ r=.deep m k es hs) (hd:all2 DR (j1Q σ hs es) ds) (hm:hs.all (j9M σ m)=true) (hq:qs=r::hs.map (·.2.2))
theorem DataAt.mem {σ:Nat→Root}{r:Nat}{m:Md}{k:Nat}{ds:List D}{qs:List Nat}(h:DataAt σ r m k ds qs):r∈qs:=by
 cases h with
 | row _ hq=>simp[hq]
 | deep _ _ _ hq=>simp[hq]
theorem j2x {σ1 σ2:Nat→Root}:∀ {hs:List (Nat×Nat×Nat)} {es:List (List Cell)},(∀ p∈hs,σ1 p.2.2=σ2 p.2.2)→j1Q σ1 hs es=j1Q σ2 hs es
 | [],es,_=>rfl
 | (j,c,q)::hs,es,h=>by
  rw[j1Q,j1Q,j2x (fun p hp=>h p (by simp[hp])),h (j,c,q) (by simp)]
theorem DataAt.congr {σ1 σ2:Nat→Root}{r:Nat}{m:Md}{k:Nat}{ds:List D}{qs:List Nat}(h:DataAt σ2 r m k ds qs)(hc:∀ q∈qs,σ1 q=σ2 q):DataAt σ1 r m k ds qs:=by
 cases h with
 | row h hq=>exact .row (by rw[hc r (by simp[hq])];exact h) hq
 | deep h hd hm hq=>
  rename_i es hs
  have h1:∀ p∈hs,σ1 p.2.2=σ2 p.2.2:=fun p hp=>hc _ (by rw[hq];exact Brz _ (List.mem_map.2 ⟨p,hp,rfl⟩))
  refine .deep (by rw[hc r (by simp[hq])];exact h) (by rw[j2x h1];exact hd) ?_ hq
  rw[List.all_eq_true] at hm ⊢
  intro p hp
  have:=hm p hp
  simpa only[j9M,h1 p hp] using this
section
variable {S:Start}{F:Nat→Prop}{g:Nat→G}{w:World}{σ1:Nat→Root}
theorem j9O (hs:Sim S F g σ1 w){r:Nat}{m:Md}{k:Nat}{ds:List D}{qs:List Nat}(h:DataAt σ1 r m k ds qs) :
  ∃ v L gs cs,g r=.row v k L gs∧OwnR w k v ds.length L cs∧rdE (fun b=>SM F S.B m b∨∃ q∈qs,b∈bl (g q)) w k ds cs∧∀ b∈L,b∈bl (g r):=by
 cases h with
 | row h hq=>
  obtain⟨v,L,gs,hg,hrow⟩:=z7t hs (.inr ⟨_,_,h,rfl⟩)
  obtain⟨h1,h2,h3,h4⟩:=q6t hrow
  exact⟨v,L,gs,_,hg,h1,h2.mono fun b hb=>.inl hb,fun b hb=>by rw[hg];simp[bl,hb]⟩
 | deep h hd hm hq=>
  rename_i es hs'
  have hr:=hs.roots r
  rw[h] at hr
  cases hg:g r<;>rw[hg] at hr<;>try exact hr.elim
  rename_i v k0 L gs
  obtain⟨⟨hk,hrow⟩,hho,hfz⟩:=hr
  subst hk
  have hlen:es.length=ds.length:=by rw[hd.len,j7B]
  refine⟨v,L,gs,q5k gs,rfl,by rw[← hlen];exact hrow.1,?_,fun b hb=>by simp[bl,hb]⟩
  refine j4z (by rw[hrow.2.len,hlen]) fun j d ge hdj hgj=>?_
  obtain⟨e,hej,hel⟩:=hrow.2.get' hgj
  obtain⟨e1,he1,hDR⟩:=hd.get' hdj
  obtain⟨e2,he2,hl2⟩:=j4A he1
  rw[hej] at he2
  cases he2
  obtain⟨h5,h6⟩:=j2w hDR
  have hgl:ge.length=e.length:=hel.2.len
  refine⟨hgl.trans hel.1,by rw[hgl,← hl2,h5],fun c gc x hgc hx=>?_⟩
  obtain⟨cell,hcell,hcd⟩:=h6 c x hx
  rcases j7C (j':=j) (c':=c) (y:=cell) (by rw[he1];exact hcell) with h7|⟨q,h7,h8⟩
  ·rw[hej] at h7
   have h7:e[c]?=some cell:=h7
   obtain⟨gc',h9,h10⟩:=hel.2.get h7
   rw[hgc] at h9
   cases h9
   refine h10.rd (m:=m) hcd (fun e'=>hfz e' e (Bsz hej) cell (Bsz h7)) (fun b hb=>.inl hb) (fun b hb=>?_) fun b hb=>.inr ⟨r,by simp[hq],?_⟩
   ·cases m with
    | fz=>exact .inl hb
    | bo=>exact .inl (.inl hb)
   ·rw[hg]
    simp only[bl,gbl,List.mem_append,List.mem_flatMap]
    exact .inr ⟨ge,Bsz hgj,gc,Bsz hgc,hb⟩
  ·have h9:=hho _ h7 gc (by rw[hgj];exact hgc)
   have h10:=List.all_eq_true.1 hm _ h7
   simp only[j9M] at h10
   split at h10
   ·rename_i m' k' xs hq'
    obtain⟨v',L',gs',hg',hrow'⟩:=z7t hs (.inr ⟨_,_,hq',rfl⟩)
    obtain⟨k1,k2,k3,k4⟩:=q6t hrow'
    rw[hg'] at h9
    have h9:=h9 _ _ rfl
    rw[h8,hq'] at hcd
    simp only[j5Y,k2o] at hcd
    cases hcd
    obtain⟨A,c',e0,h5',h6'⟩:=k1.form
    rw[h9,rdC]
    refine⟨A,c',_,e0,h5',h6',k2.mono fun b hb=>.inl (z9k h10 b hb),?_⟩
    rcases k1.at with h11|⟨b,c'',T,cur,e1,e2,e3,e4,_⟩
    ·exact .inl (Bnz h11)
    ·rw[e0] at e1
     cases e1
     exact .inr ⟨b,0,rfl,.inr ⟨q,by rw[hq];exact Brz _ (List.mem_map.2 ⟨_,h7,rfl⟩),by rw[hg'];simp[bl,e3]⟩,(Array.getElem?_eq_some_iff.1 e4).1,e2⟩
   ·cases h10
end
theorem j9P {S:Nat→Prop}{w:World}{k:Nat}{v:Value}{ds:List D}{L:List Nat}{cs:List Value}(h1:OwnR w k v ds.length L cs)(h2:rdE S w k ds cs)(h3:∀ b∈L,S b):rdC S w (.sl k ds) v:=by
 obtain⟨A,c,e0,h5,h6⟩:=h1.form
 rw[rdC]
 refine⟨A,c,cs,e0,h5,h6,h2,?_⟩
 rcases h1.at with h7|⟨b,c',T,cur,e1,e2,e3,e4,_⟩
 ·exact .inl (Bnz h7)
 ·rw[e0] at e1
  cases e1
  exact .inr ⟨b,0,rfl,h3 b e3,(Array.getElem?_eq_some_iff.1 e4).1,e2⟩
theorem k2r {S:Nat→Prop}{w:World}{k lo n:Nat}{v u:Value}{ds:List D}{L:List Nat}{cs:List Value}(h1:OwnR w k v ds.length L cs)(h2:rdE S w k ds cs)(h3:∀ b∈L,S b)(hp:j2q v k lo n u):rdC S w (.sl k ((ds.drop lo).take n)) u:=by
 obtain⟨A,m,cp,A',cp',e1,h5,h6,h7,h8,h9⟩:=hp
 obtain⟨A0,c0,e0,h10,h11⟩:=h1.form
 rw[e0] at e1
 cases e1
 have hl:((ds.drop lo).take n).length=n:=by simp only[Boz,Bpz];omega
 rw[rdC]
 refine⟨A',cp',(cs.drop (lo*k)).take (n*k),by rw[hl];exact h6,by rw[hl];exact h7,h8,(h2.drop lo).take n,?_⟩
 rcases h9 with h9|⟨b,e2,e3⟩
 ·exact .inl (Bnz (by rw[hl,h9]))
 ·rcases h1.at with h12|⟨b',c',T,cur,e4,e5,e6,e7,_⟩
  ·exact .inl (Bnz (by rw[hl];omega))
  ·rw[e0] at e4
   cases e4
   cases e2
   refine .inr ⟨b,_,e3,h3 b e6,(Array.getElem?_eq_some_iff.1 e7).1,fun i u hi=>?_⟩
   rw[Anz] at hi
   split at hi
   ·rw[Azz] at hi
    have:=e5 _ _ hi
    rwa[Nat.zero_add] at this
   ·cases hi
end Go.A
