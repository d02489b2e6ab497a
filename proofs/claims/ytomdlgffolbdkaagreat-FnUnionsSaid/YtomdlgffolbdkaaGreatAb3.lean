/- Abstract states of a walk: plain lemmas on the model, without conditions of their own. -/
import Derived.Test.YtomdlgffolbdkaaGreatEng3
set_option linter.unusedVariables false
set_option linter.unusedSimpArgs false
set_option linter.ambiguousOpen false
set_option linter.unusedSectionVars false
set_option linter.unnecessarySimpa false
namespace Go.A
open Go Go.E
section
variable {P:Program}{S:Start}{n:Nat}{ρ:AE}{σ:St}{o:Oper}
theorem owr1 (σ:Nat→Root)(r:Nat)(x:Root):owr σ [(r,x)]=fun i=>if i=r then x else σ i:=rfl
theorem LT.alloc {T:TypeId}{z:List Value}{zs:List X}{r:Nat}(ho:o.op=.alloc T)(hT:z2C P T=some z)(hzs:∀ S1 w g,vrs S1 w g zs z)(hr:fnOf σ r=.none):LT P S o ρ σ [] (.pb r 0) [(r,.box zs)]:=by
 intro σ1 F g w ρc hs _ hwr _
 have hr1:σ1 r=.none:=(hwr (r,_) (List.mem_singleton.2 rfl)).trans hr
 obtain⟨v,hv,hc⟩:=q9M (P:=P) (w:=w) hT
 have he:(execOp (E.ev ρc) o).run P w=.ok (.value (.pointer (some ⟨w.heap.size,0,none⟩))) (w.alloc (.cells z.toArray T)):=by
  simp only[execOp,ho,Instr.alloc,newVar,hv,hc,Sem.run_bind,z1Q,Result.andThen_ok,Sem.run_pure]
 rw[he]
 obtain⟨h1,h2⟩:=hs.new (r:=r) (x:=.box zs) (y:=.box w.heap.size T) hr1 (Ext.alloc w (.cells z.toArray T)) (fun _ _=>⟨z,q9L w T z,hzs _ _ _⟩) (by simp[bl]) (by simp[bl])
 refine⟨F,_,by rw[owr1];exact h1,h2,?_⟩
 rw[vr];simp
theorem LT.box {T:TypeId}{x:Operand}{X1:X}{r:Nat}(ho:o.op=.box T x)(hx:evX ρ x=X1)(hsure:z3Y (fnOf σ) X1=true)(hr:fnOf σ r=.none):LT P S o ρ σ (q8g X1) (.pb r 0) [(r,.box X1.cells)]:=by
 intro σ1 F g w ρc hs hrd hwr hv
 have hr1:σ1 r=.none:=(hwr (r,_) (List.mem_singleton.2 rfl)).trans hr
 have e1:=hv x (by simp[ho,Op.operands])
 rw[hx] at e1
 have hsA:z3Y σ1 X1=true:=by rw[z2d (σ2:=fnOf σ) hrd];exact hsure
 have hcs:=z3Z hs hsA e1
 have he:(execOp (E.ev ρc) o).run P w=.ok (.value (.pointer (some ⟨w.heap.size,0,none⟩))) (w.alloc (.cells (E.ev ρc x).cells.toList.toArray T)):=by
  simp only[execOp,ho,Instr.box,newVar,Sem.run_bind,Array.toArray_toList]
  have:=z1Q (P:=P) (w:=w) T (E.ev ρc x).cells.toList
  simp only[Array.toArray_toList] at this
  rw[this]
  rfl
 rw[he]
 obtain⟨h1,h2⟩:=hs.new (r:=r) (x:=.box X1.cells) (y:=.box w.heap.size T) hr1 (Ext.alloc w (.cells (E.ev ρc x).cells.toList.toArray T)) (fun hk hp=>⟨(E.ev ρc x).cells.toList,q9L w T _,by
  exact hcs.adv hk fun i=>by
   by_cases hi:i=r
   ·subst hi
    have:g i=.none:=by
     have:=hs.roots i
     rw[hr1] at this
     revert this
     cases g i<;>intro h<;>first|rfl|exact h.elim
    rw[this];trivial
   ·simp only[ifN hi];exact Adv.refl _⟩) (by simp[bl]) (by simp[bl])
 refine⟨F,_,by rw[owr1];exact h1,h2,?_⟩
 rw[vr];simp
def spl {α:Type}(cs:List α)(c:Nat)(l:List α):List α:=cs.take c++l++cs.drop (c+l.length)
theorem k3C {S1:Md→Nat→Prop}{w:World}{g:Nat→G}{cs ys:List X}{vs us:List Value}{c:Nat}(h:vrs S1 w g cs vs)(k:vrs S1 w g ys us):vrs S1 w g (spl cs c ys) (q5l vs c us):=by
 unfold spl q5l
 rw[← k.len]
 exact ((h.take c).append k).append (h.drop _)
theorem j3O {F:Nat→Prop}{g:Nat→G}{w:World}{σ1:Nat→Root}(hs:Sim S F g σ1 w):∀ {xs:List X} {vs:List Value},xs.all (z8Q σ1)=true→vrs (SM F S.B) w g xs vs→∀ v∈vs,v.oneCell'=true
 | [],_,_,h=>by rw[vrs] at h;subst h;simp
 | x::xs,_,h1,h=>by
  rw[vrs] at h
  obtain⟨v,r,rfl,h2,h3⟩:=h
  simp only[List.all_cons,Bool.and_eq_true] at h1
  intro u hu
  rcases List.mem_cons.1 hu with rfl|hu
  ·exact j6K hs h1.1 h2
  ·exact j3O hs h1.2 h3 u hu
theorem q2m {T k:TypeId}{x y:Operand}{Y:X}{r c:Nat}{cs:List X}(ho:o.op=.store T x y)(hk:szT P T=some k)(hx:evX ρ x=.pb r c)(hσ:fnOf σ r=.box cs)(hy:evX ρ y=Y)(hl:Y.cells.length=k)(hfit:Nat.ble (c+k) cs.length=true)(hsure:Y.cells.all (z8Q (fnOf σ))=true) :
  LT P S o ρ σ (Y.cells.flatMap q8g) .u [(r,.box (spl cs c Y.cells))]:=by
 intro σ1 F g w ρc hs hrd hwr hv
 have hr1:σ1 r=.box cs:=(hwr (r,_) (List.mem_singleton.2 rfl)).trans hσ
 obtain⟨b,TB,vs,hg,hb,hcs⟩:=z8v hs hr1
 have e1:=hv x (by simp[ho,Op.operands])
 have e2:=hv y (by simp[ho,Op.operands])
 rw[hx,vr,hg] at e1
 rw[hy] at e2
 have hsure' : Y.cells.all (z8Q σ1)=true:=by
  rw[List.all_eq_true] at hsure ⊢
  intro z hz
  rw[z9B (σ2:=fnOf σ) fun i hi=>hrd i (List.mem_flatMap.2 ⟨z,hz,hi⟩)]
  exact hsure z hz
 have hA:z3Y σ1 Y=true:=by
  cases Y with
  | ag cs=>rfl
  | _=>simpa[X.cells,z3Y] using hsure'
 have hys:=z3Z hs hA e2
 have hys1:=j3O hs hsure' hys
 have hfit' : c+k≤vs.length:=by rw[hcs.len];simpa using hfit
 obtain⟨w',hrun,hchg,hb'⟩:=z8s (P:=P) (w:=w) (v:=E.ev ρc y) (l:=(E.ev ρc y).cells.toList) hk (by simp) (by rw[hys.len,hl]) hys1 hb hfit'
 have he:(execOp (E.ev ρc) o).run P w=.ok .skip w':=by
  simp only[execOp,ho,e1,Instr.storeAt,Instr.sureAddr,Sem.run_bind,Sem.run_pure,Result.andThen_ok,hrun]
 obtain⟨h1,h2⟩:=hs.step (g':=g) (σ':=fun i=>if i=r then .box (spl cs c Y.cells) else σ1 i) (F':=F) (w':=w') (fun i=>i=r) hchg (fun i hi _=>⟨r,rfl,by rw[hg];simp[bl,hi]⟩) (fun i hi=>⟨rfl,ifN hi⟩) (fun i _=>Adv.refl _) (fun _ h=>h) (fun q hq=>⟨Nat.lt_of_lt_of_le (hs.flt q hq) hchg.size,.inl hq⟩)
  (fun hkeep hp i hi=>by
   subst hi
   simp only[if_true,hg]
   exact⟨_,hb',(k3C hcs hys).adv hkeep fun i=>Adv.refl _⟩)
  (fun i hi=>hs.nodup i) (fun i j hi hj hij=>absurd (hi.trans hj.symm) hij) (fun i q hi hq=>⟨Nat.lt_of_lt_of_le (hs.own i q hq).1 hchg.size,(hs.own i q hq).2.1,.inr ⟨i,hi,hq⟩⟩)
 rw[he]
 exact⟨F,g,by rw[owr1];exact h1,h2,by rw[vr];trivial⟩
theorem j2A {S1:Md→Nat→Prop}{w:World}{m:Md}:∀ {ds:List D} {vs:List Value},rdCs (S1 m) w ds vs→∃ ge:List GC,all2 (cellOk S1 w) (ds.map (Cell.d m)) ge∧ge.map (·.val)=vs∧ge.flatMap (·.L)=[]
 | [],_,h=>by rw[rdCs] at h;subst h;exact⟨[],rfl,rfl,rfl⟩
 | d::ds,_,h=>by
  rw[rdCs] at h
  obtain⟨v,r,rfl,h2,h3⟩:=h
  obtain⟨ge,h4,h5,h6⟩:=j2A h3
  exact⟨⟨v,false,0,[]⟩::ge,⟨_,_,rfl,⟨rfl,rfl,h2⟩,h4⟩,by simp[h5],by simpa using h6⟩
theorem j5s {S1:Md→Nat→Prop}{w:World}{m:Md}{k:Nat}:∀ {xs:List D} {cs:List Value},rdE (S1 m) w k xs cs→∃ gs,all2 (elOk S1 w k) (xs.map (elOf m)) gs∧q5A gs=cs∧gbl gs=[]
 | [],_,h=>by rw[rdE] at h;subst h;exact⟨[],rfl,rfl,rfl⟩
 | x::xs,_,h=>by
  obtain⟨c,r,rfl,hl,h3,h4⟩:=q6E.1 h
  obtain⟨gs,h5,h6,h7⟩:=j5s h4
  obtain⟨ge,h8,h9,h10⟩:=j2A h3
  refine⟨ge::gs,⟨_,_,rfl,⟨by rw[elOf,lnM,← rdCs.len h3,hl],h8⟩,h5⟩,?_,?_⟩
  ·simp only[q5A,List.flatMap_cons,h9];rw[← h6];rfl
  ·simp only[gbl,List.flatMap_cons,h10,List.nil_append];exact h7
theorem j6O {S1:Md→Nat→Prop}{w:World}{m:Md}:∀ {ds:List D} {ge:List GC},all2 (cellOk S1 w) (ds.map (Cell.d m)) ge→rdCs (S1 m) w ds (ge.map (·.val))∧ge.flatMap (·.L)=[]∧∀ gc∈ge,gc.own=false
 | [],_,h=>by rw[show _=[] from h];simp[rdCs]
 | d::ds,_,⟨gc,r,h1,h2,h3⟩=>by
  subst h1
  obtain⟨h4,h5,h6⟩:=j6O h3
  refine⟨?_,?_,?_⟩
  ·rw[List.map_cons,rdCs];exact⟨_,_,rfl,h2.2.2,h4⟩
  ·simp[h2.2.1];simpa using h5
  ·intro gc' hg
   rcases List.mem_cons.1 hg with rfl|hg
   ·exact h2.1
   ·exact h6 _ hg
theorem k4W {S1:Md→Nat→Prop}{w:World}{m:Md}{k:Nat}:∀ {xs:List D} {gs:List (List GC)},all2 (elOk S1 w k) (xs.map (elOf m)) gs→rdE (S1 m) w k xs (q5A gs)∧gbl gs=[]∧∀ ge∈gs,∀ gc∈ge,gc.own=false
 | [],_,h=>by rw[show _=[] from h];simp[q5A,gbl,rdE]
 | x::xs,_,⟨ge,r,h1,h2,h3⟩=>by
  subst h1
  obtain⟨h4,h5,h6⟩:=k4W h3
  obtain⟨h7,h8,h9⟩:=j6O h2.2
  refine⟨?_,?_,?_⟩
  ·simp only[q5A,List.flatMap_cons]
   refine q6E.2 ⟨_,_,rfl,?_,h7,h4⟩
   rw[lnM,h2.2.len];exact h2.1
  ·simp only[gbl,List.flatMap_cons,h8,List.nil_append];exact h5
  ·intro ge' hg
   rcases List.mem_cons.1 hg with rfl|hg
   ·exact h9
   ·exact h6 _ hg
theorem q6P {S1:Md→Nat→Prop}{w:World}{m:Md}{xs:List D}{v:Value}{k:Nat}{L:List Nat}{gs:List (List GC)}(h:rowOk S1 w (xs.map (elOf m)) v k L gs):OwnR w k v xs.length L (q5A gs)∧rdE (S1 m) w k xs (q5A gs)∧gbl gs=[]∧∀ ge∈gs,∀ gc∈ge,gc.own=false:=by
 obtain⟨h1,h2⟩:=h
 rw[lnM] at h1
 exact⟨h1,k4W h2⟩
theorem Sim.newRow {F:Nat→Prop}{g:Nat→G}{w w' : World}{σ1:Nat→Root}(hs:Sim S F g σ1 w){r:Nat}(hr:σ1 r=.none){m:Md}{xs:List D}{cs cur:List Value}{k cp T:Nat}(hc:Ext w w')(hb:Blk w' w.heap.size T cur)(hcur:cur.length=cp*k)(htk:cur.take (xs.length*k)=cs)(hcp:xs.length≤cp)(hcm:cp≤maxLen)(hrd:rdE (SM F S.B m) w' k xs cs) :
  ∃ g',Sim S F g' (fun i=>if i=r then .row m k xs else σ1 i) w'∧Pres S.B F g w F g' w'∧vr (SM F S.B) w' g' (.ref r none) (.slice (some ⟨w.heap.size,0,none⟩) xs.length cp):=by
 obtain⟨gs,h1,h2,h3⟩:=j5s hrd
 have hlen:cs.length=xs.length*k:=hrd.len
 obtain⟨h4,h5⟩:=hs.new (r:=r) (x:=.row m k xs) (y:=.row (.slice (some ⟨w.heap.size,0,none⟩) xs.length cp) k [w.heap.size] gs) hr hc (fun _ _=>by
   refine⟨rfl,⟨T,⟨?_,.inr ⟨w.heap.size,cp,cur.toArray,by simp,Nat.zero_le _,hb,by simpa using hcp,hcm,by simpa using hcur,by simpa[h2] using htk⟩⟩,by simp[Value.ownBlock]⟩,h1⟩
   rw[h2,hlen];simp)
  (by simp[bl,h3]) (by simp only[bl,h3,List.append_nil,List.mem_singleton];rintro b rfl;exact⟨Nat.le_refl _,hb.lt⟩)
 refine⟨_,h4,h5,?_⟩
 rw[vr]
 simp only[if_true]
 intro u q hu
 simp only[G.at] at hu
 cases hu
 rfl
def mle:Md→Md→Bool
 | .bo,.fz=>false
 | _,_=>true
theorem z8x {F B:Nat→Prop}{m m' : Md}(h:mle m m'=true):∀ b,SM F B m b→SM F B m' b:=by
 cases m<;>cases m'<;>first|exact fun b h=>h|exact fun b h=>.inl h|cases h
def asC (m:Md):X→Option D
 | .d m' (.sl k xs)=>if mle m' m then some (.sl k xs) else none
 | .d _ (.a _)=>none
 | .d _ x=>some x
 | .nl k=>some (.sl k [])
 | _=>none
def asCs (m:Md):List X→Option (List D)
 | []=>some []
 | x::xs=>match asC m x,asCs m xs with
  | some y,some ys=>some (y::ys)
  | _,_=>none
def asD (m:Md):X→Option D
 | .ag cs=>(asCs m cs).map .a
 | x=>asC m x
theorem k2X {F B:Nat→Prop}{w:World}{g:Nat→G}{m:Md}{x:X}{d:D}{v:Value}(h:asC m x=some d)(hv:vr (SM F B) w g x v):rdC (SM F B m) w d v:=by
 cases x with
 | d m' x=>
  rw[vr] at hv
  cases x<;>simp only[asC] at h
  case sl k xs=>
   split at h
   ·rename_i hm
    cases h
    exact hv.mono (z8x hm)
   ·cases h
  case a=>cases h
  all_goals (cases h;rw[rdC] at hv ⊢;exact hv)
 | nl k=>
  rw[vr] at hv
  simp only[asC] at h
  cases h
  rw[rdC]
  exact⟨none,0,[],hv,Nat.le_refl _,Nat.zero_le _,by rw[rdE],.inl rfl⟩
 | _=>simp only[asC] at h;cases h
theorem z9C {F B:Nat→Prop}{w:World}{g:Nat→G}{m:Md}:∀ {xs:List X} {ds:List D} {vs:List Value},asCs m xs=some ds→vrs (SM F B) w g xs vs→rdCs (SM F B m) w ds vs
 | [],ds,vs,h,hv=>by simp only[asCs] at h;cases h;rw[vrs] at hv;rw[rdCs];exact hv
 | x::xs,ds,vs,h,hv=>by
  simp only[asCs] at h
  split at h
  ·rename_i y ys h1 h2
   cases h
   rw[vrs] at hv
   obtain⟨v,r,h3,h4,h5⟩:=hv
   rw[rdCs]
   exact⟨v,r,h3,k2X h1 h4,z9C h2 h5⟩
  ·cases h
theorem k1x {m:Md}{x:X}{d:D}(h:asC m x=some d):d.cells=[d]:=by
 cases x with
 | d m' x=>cases x<;>simp only[asC] at h<;>first|(cases h;rfl)|(split at h<;>first|(cases h;rfl)|cases h)|cases h
 | nl k=>simp only[asC] at h;cases h;rfl
 | _=>simp only[asC] at h;cases h
theorem k4X {F B:Nat→Prop}{w:World}{g:Nat→G}{m:Md}{x:X}{d:D}{v:Value}(h:asD m x=some d)(hv:vr (SM F B) w g x v):rd1 (SM F B m) w d v.cells.toList:=by
 have one:asC m x=some d→rd1 (SM F B m) w d v.cells.toList:=fun h=>by
  have h1:=k2X h hv
  rw[z6T h1.one,rd1,k1x h]
  exact j2w.2 ⟨v,rfl,h1⟩
 cases x with
 | ag cs=>
  simp only[asD,Option.map_eq_some_iff] at h
  obtain⟨ds,h1,rfl⟩:=h
  rw[vr] at hv
  obtain⟨vs,rfl,hvs⟩:=hv
  simpa[rd1,D.cells,Value.cells] using z9C h1 hvs
 | _=>exact one h
end
section
variable {P:Program}{S:Start}{n:Nat}{ρ:AE}{σ:St}{o:Oper}
def idxX:Nat→List X→List (Nat×X)
 | _,[]=>[]
 | k,x::xs=>(k,x)::idxX (k+1) xs
def asDs (m:Md):List X→Option (List D)
 | []=>some []
 | x::xs=>match asD m x,asDs m xs with
  | some y,some ys=>some (y::ys)
  | _,_=>none
theorem k2Y {F B:Nat→Prop}{w:World}{g:Nat→G}{ρc:Env}{m:Md}{k:Nat}:∀ (l:List (Nat×Operand)) (i:Nat) (xs:List X) (ds:List D),l.map (fun p=>(p.1,evX ρ p.2))=idxX i xs→(∀ p∈l,vr (SM F B) w g (evX ρ p.2) (E.ev ρc p.2))→asDs m xs=some ds→(∀ d∈ds,d.cells.length=k) →
  ∃ vs css,l.map (fun p=>(p.1,E.ev ρc p.2))=idxL i vs∧catL k vs css∧vs.length=ds.length∧rdE (SM F B m) w k ds css.flatten
 | [],i,xs,ds,h,_,hd,_=>by
  cases xs with
  | nil=>simp only[asDs] at hd;cases hd;exact⟨[],[],rfl,trivial,rfl,by simp[rdE]⟩
  | cons x xs=>simp[idxX] at h
 | p::l,i,xs,ds,h,hv,hd,hk=>by
  cases xs with
  | nil=>simp[idxX] at h
  | cons x xs=>
   simp only[List.map_cons,idxX,List.cons.injEq] at h
   obtain⟨h1,h2⟩:=h
   simp only[asDs] at hd
   split at hd
   ·rename_i y ys h3 h4
    cases hd
    obtain⟨vs,css,h5,h6,h7,h8⟩:=k2Y l (i+1) xs ys h2 (fun q hq=>hv q (by simp[hq])) h4 fun d hd=>hk d (by simp[hd])
    have h9:=hv p (by simp)
    cases h1
    have h10:=k4X h3 h9
    have hl:(E.ev ρc p.2).cells.toList.length=k:=by rw[h10.len];exact hk y (by simp)
    refine⟨E.ev ρc p.2::vs,(E.ev ρc p.2).cells.toList::css,?_,⟨by simp,hl,h6⟩,by simp[h7],?_⟩
    ·simp[idxL,h5]
    ·rw[List.flatten_cons]
     exact q6E.2 ⟨_,_,rfl,hl,h10,h8⟩
   ·cases hd
theorem q2n {T e k mm r:Nat}{m:Md}{z:List Value}{parts:Array (Nat×Operand)}{xs:List X}{ds:List D}(ho:o.op=.buildSlice T mm parts)(hT:q7D P T=some e)(hk:szT P e=some k)(hz:z2C P e=some z)(hzk:z.length=k)(hp:parts.toList.map (fun p=>(p.1,evX ρ p.2))=idxX 0 xs)(hd:asDs m xs=some ds)(hw:ds.all (fun d=>Nat.beq d.cells.length k)=true)
  (hn:ds.length=mm) (hk0:Nat.blt 0 k=true) (hm:Nat.blt 0 mm=true) (hm2:Nat.ble (mm*k) 100000=true) (hr:fnOf σ r=.none):LT P S o ρ σ [] (.ref r none) [(r,.row m k ds)]:=by
 intro σ1 F g w ρc hs _ hwr hv
 have hr1:σ1 r=.none:=(hwr (r,_) (List.mem_singleton.2 rfl)).trans hr
 have hw' : ∀ d∈ds,d.cells.length=k:=fun d hd=>Nat.eq_of_beq_eq_true (List.all_eq_true.1 hw d hd)
 obtain⟨vs,css,h1,h2,h3,h4⟩:=k2Y (ρc:=ρc) parts.toList 0 xs ds hp (fun p hp=>hv p.2 (by simp only[ho,Op.operands];simpa using ⟨p.1,by simpa using hp⟩)) hd hw'
 have hp' : parts.map (fun p=>(p.1,E.ev ρc p.2))=(idxL 0 vs).toArray:=by
  apply Array.ext';simpa using h1
 have hrun:=j6N (P:=P) (w:=w) hT hk hz hzk h2 (h3.trans hn) hk0 hm hm2
 have he:(execOp (E.ev ρc) o).run P w=.ok (.value (.slice (some ⟨w.heap.size,0,none⟩) mm mm)) (w.alloc (.cells css.flatten.toArray e)):=by
  simp only[execOp,ho,hp',Sem.run_bind,hrun,Result.andThen_ok,Sem.run_pure]
 rw[he]
 have hx:=Ext.alloc w (.cells css.flatten.toArray e)
 have hlen:css.flatten.length=mm*k:=by rw[h4.len,hn]
 have hm2' : mm*k≤100000:=by simpa using hm2
 have hk' : 0<k:=by simpa using hk0
 have hmm:mm≤mm*k:=Nat.le_mul_of_pos_right mm hk'
 obtain⟨g',h5,h6,h7⟩:=hs.newRow (m:=m) (xs:=ds) (cs:=css.flatten) (cur:=css.flatten) (k:=k) (cp:=mm) (T:=e) hr1 hx (q9L w e css.flatten) hlen (by rw[hn,← hlen,List.take_length]) (by omega) (by show _≤9223372036854775807;omega) (h4.keep (Keeps.of_ext hx))
 exact⟨F,g',h5,h6,by rw[hn] at h7;exact h7⟩
theorem q1x {T e k r:Nat}{m:Md}(ho:o.op=.buildSlice T 0 #[])(hT:q7D P T=some e)(hk:szT P e=some k)(hr:fnOf σ r=.none):LT P S o ρ σ [] (.ref r none) [(r,.row m k [])]:=by
 intro σ1 F g w ρc hs _ hwr hv
 have hr1:σ1 r=.none:=(hwr (r,_) (List.mem_singleton.2 rfl)).trans hr
 have hrun:(Instr.buildSlice T 0 #[]).run P w=.ok (.slice (some ⟨w.heap.size,0,none⟩) 0 0) (w.alloc (.cells #[] e)):=by
  have:=z1Q (P:=P) (w:=w) e []
  have h0:(Array.map (fun _=>default) (Array.range 0):Array Value)=[].toArray:=by apply Array.ext<;>simp
  simp[Instr.buildSlice,run_underlying (q6h hT),q6c hk,Instr.fill]
  rw[h0,this]
  rfl
 have he:(execOp (E.ev ρc) o).run P w=.ok (.value (.slice (some ⟨w.heap.size,0,none⟩) 0 0)) (w.alloc (.cells #[] e)):=by
  simp only[execOp,ho,Sem.run_bind,Array.map_empty,hrun,Result.andThen_ok,Sem.run_pure]
 rw[he]
 obtain⟨g',h5,h6,h7⟩:=hs.newRow (m:=m) (xs:=[]) (cs:=[]) (cur:=[]) (k:=k) (cp:=0) (T:=e) hr1 (Ext.alloc w (.cells #[] e)) (q9L w e []) (by simp) (by simp) (Nat.le_refl _) (Nat.zero_le _) (by rw[rdE])
 exact⟨F,g',h5,h6,h7⟩
theorem j2B {S1:Nat→Prop}{w:World}{d:D}{z:List Value}(h:rd1 S1 w d z):∀ m,rdE S1 w z.length (List.replicate m d) (reps z m)
 | 0=>by simp[rdE,reps]
 | m+1=>by
  rw[List.replicate_succ,reps]
  exact q6E.2 ⟨z,_,rfl,rfl,h,j2B h m⟩
theorem LT.mk {T e k b r:Nat}{z:List Value}{zs:List X}{l c:Operand}{md m1 m2:Md}{q q' : IntKind}{j:Int}{d:D}(ho:o.op=.makeSlice T l c)(hT:q7D P T=some e)(hk:szT P e=some k)(hb:byT P e=some b)(hz:z2C P e=some z)(hzk:z.length=k)(hl:evX ρ l=.d m1 (.i q j))(hc:evX ρ c=.d m2 (.i q' j))
  (hzs:∀ S1 w g,vrs S1 w g zs z) (hd:asCs md zs=some d.cells) (h0:0≤j) (hm:j≤9223372036854775807) (hbm:(b:Int)*j≤281474976710656) (hr:fnOf σ r=.none):LT P S o ρ σ [] (.ref r none) [(r,.row md k (List.replicate j.toNat d))]:=by
 intro σ1 F g w ρc hs _ hwr hv
 have hr1:σ1 r=.none:=(hwr (r,_) (List.mem_singleton.2 rfl)).trans hr
 obtain⟨i,v,hi,hik,hib,hiv,hvc⟩:=j2v hk hb hz
 have hrun:=run_make (P:=P) (w:=w) T e i v (q6h hT) hi hiv q q' j j h0 (Int.le_refl _) (by rw[hib];exact hbm) hm
 have hcells:madeCells v.cells (j.toNat*i.size)=(reps z j.toNat).toArray:=by
  have:=z2W v.cells j.toNat
  rw[hvc] at this ⊢
  simp only[List.size_toArray,hzk] at this
  rw[hik]
  simpa using this
 have e1:=hv l (by simp[ho,Op.operands])
 have e2:=hv c (by simp[ho,Op.operands])
 rw[hl,vr,rdC] at e1
 rw[hc,vr,rdC] at e2
 have he:(execOp (E.ev ρc) o).run P w=.ok (.value (.slice (some ⟨w.heap.size,0,none⟩) j.toNat j.toNat)) (w.alloc (.cells (reps z j.toNat).toArray e)):=by
  rw[hcells] at hrun
  simp only[execOp,ho,e1,e2,Sem.run_bind,hrun,Result.andThen_ok,Sem.run_pure]
 rw[he]
 have hx:=Ext.alloc w (.cells (reps z j.toNat).toArray e)
 have hrd:rdCs (SM F S.B md) (w.alloc (.cells (reps z j.toNat).toArray e)) d.cells z:=z9C hd (hzs _ _ g)
 have hrd2:=j2B (S1:=SM F S.B md) (d:=d) hrd j.toNat
 have hlen:(reps z j.toNat).length=j.toNat*k:=by rw[z2b,hzk]
 obtain⟨g',h5,h6,h7⟩:=hs.newRow (m:=md) (xs:=List.replicate j.toNat d) (cs:=reps z j.toNat) (cur:=reps z j.toNat) (k:=k) (cp:=j.toNat) (T:=e) hr1 hx (q9L w e (reps z j.toNat)) hlen (by rw[List.length_replicate,← hlen,List.take_length]) (by simp) (by show _≤9223372036854775807;omega) (by rw[hzk] at hrd2;exact hrd2)
 exact⟨F,g',h5,h6,by simpa using h7⟩
def z4N (x:Root):Option (Nat×Nat)→Option (Md×Nat×List D)
 | none=>match x with|.row m k ys=>some (m,k,ys)|_=>none
 | some _=>none
def srcD (σ:Nat→Root):X→Option (Md×Nat×List D)
 | .d m (.sl k ys)=>some (m,k,ys)
 | .nl k=>some (.fz,k,[])
 | .ref q l=>z4N (σ q) l
 | .vs q l lo n=>(z4N (σ q) l).map fun p=>(p.1,p.2.1,(p.2.2.drop lo).take n)
 | _=>none
theorem j1B {σ1 σ2:Nat→Root}{x:X}(h:∀ r∈q8g x,σ1 r=σ2 r):srcD σ1 x=srcD σ2 x:=by
 cases x<;>simp only[srcD]<;>simp only[q8g,List.mem_singleton,forall_eq] at h<;>try rw[h]
 rename_i m x
 cases x<;>rfl
theorem j3P {F:Nat→Prop}{g:Nat→G}{w:World}{σ1:Nat→Root}(hs:Sim S F g σ1 w){q kk:Nat}{l:Option (Nat×Nat)}{m:Md}{ys:List D}(h:z4N (σ1 q) l=some (m,kk,ys)) :
  ∃ v k L gs,g q=.row v k L gs∧∃ u LL cs,G.at (.row v k L gs) l=some (u,kk)∧OwnR w kk u ys.length LL cs∧rdE (SM F S.B m) w kk ys cs∧∀ b∈LL,b∈bl (g q):=by
 cases l with
 | none=>
  simp only[z4N] at h
  split at h
  ·rename_i m0 k0 ys0 hσ
   cases h
   obtain⟨u,L,gs,hg,hrow⟩:=z8u hs (.inr ⟨_,_,hσ,rfl⟩)
   obtain⟨h1,h2,h3,h4⟩:=q6P hrow
   exact⟨u,_,L,gs,hg,u,L,_,rfl,h1,h2,fun b hb=>by rw[hg];simp[bl,hb]⟩
  ·cases h
 | some jc=>cases h
theorem j6P {F:Nat→Prop}{g:Nat→G}{w:World}{σ1:Nat→Root}(hs:Sim S F g σ1 w){x:X}{m:Md}{k:Nat}{ys:List D}{v:Value}(h:srcD σ1 x=some (m,k,ys))(hv:vr (SM F S.B) w g x v) :
  ∃ A cp cs,v=.slice A ys.length cp∧ys.length≤cp∧cp≤maxLen∧rdE (SM F S.B m) w k ys cs∧(ys=[]∨∃ b o,A=some ⟨b,o,none⟩∧At w b o cs∧b<w.heap.size∧(SM F S.B m b∨∃ r∈q8g x,b∈bl (g r))):=by
 cases x<;>simp only[srcD] at h
 case d m' x=>
  cases x<;>simp only[srcD] at h<;>try cases h
  rw[vr,rdC] at hv
  obtain⟨A,cap,cells,h1,h2,h3,h4,h5⟩:=hv
  exact⟨A,cap,cells,h1,h2,h3,h4,h5.imp id fun ⟨b,o,e1,e2,e3,e4⟩=>⟨b,o,e1,e4,e3,.inl e2⟩⟩
 case nl k=>
  cases h
  rw[vr] at hv
  exact⟨none,0,[],hv,Nat.le_refl _,Nat.zero_le _,by rw[rdE],.inl rfl⟩
 case ref q l=>
  obtain⟨u,k0,L,gs,hg,u',LL,cs,hat,hown,hrd,hb⟩:=j3P hs h
  rw[vr,hg] at hv
  have:=hv _ _ hat
  subst this
  obtain⟨A,c,e0,h5,h6⟩:=hown.form
  refine⟨A,c,cs,e0,h5,h6,hrd,?_⟩
  rcases hown.at with h7|⟨b,c',T,cur,e1,e2,e3,_⟩
  ·exact .inl (List.eq_nil_of_length_eq_zero h7)
  ·rw[e0] at e1
   cases e1
   exact .inr ⟨b,0,rfl,e2,(hs.own q b (hb b e3)).1,.inr ⟨q,by simp[q8g],hb b e3⟩⟩
 case vs q l lo n=>
  simp only[Option.map_eq_some_iff] at h
  obtain⟨⟨m0,kk,zs⟩,h,e⟩:=h
  cases e
  obtain⟨u,k0,L,gs,hg,u',LL,cs,hat,hown,hrd,hb⟩:=j3P hs h
  rw[vr,hg] at hv
  obtain⟨A1,m1,c1,A',cp',h1,h2,h3,h4,h5,h6⟩:=hv _ _ hat
  obtain⟨A,c,e0,h7,h8⟩:=hown.form
  rw[e0] at h1
  cases h1
  have hl:((zs.drop lo).take n).length=n:=by simp only[List.length_take,List.length_drop];omega
  refine⟨A',cp',(cs.drop (lo*kk)).take (n*kk),by simpa only[hl] using h3,by simpa only[hl] using h4,h5,(hrd.drop lo).take n,?_⟩
  rcases h6 with h6|⟨b,e1,e2⟩
  ·left;exact List.eq_nil_of_length_eq_zero (by simp only[List.length_take,List.length_drop];omega)
  ·rcases hown.at with h9|⟨b',c',T,cur,e3,e4,e5,_⟩
   ·left;exact List.eq_nil_of_length_eq_zero (by simp only[List.length_take,List.length_drop];omega)
   ·rw[e0] at e3
    cases e3
    cases e1
    refine .inr ⟨b,_,e2,?_,(hs.own q b (hb b e5)).1,.inr ⟨q,by simp[q8g],hb b e5⟩⟩
    intro i u hi
    rw[List.getElem?_take] at hi
    split at hi
    ·rw[List.getElem?_drop] at hi
     have:=e4 _ _ hi
     rwa[Nat.zero_add] at this
    ·cases hi
 all_goals cases h
theorem z9D {T ty e k b:Nat}{z:List Value}{w:World}{v:Value}{m:Nat}{L:List Nat}{cs:List Value}{A:Option Addr}{m2 c2:Nat}{news:List Value}(hT:q7D P T=some e)(hk:szT P e=some k)(hb:byT P e=some b)(hz:z2C P e=some z)(hzk:z.length=k)(hk0:0<k)
  (hown:OwnR w k v m L cs) (hl:news.length=m2*k) (hat:m2=0∨∃ b o,A=some ⟨b,o,none⟩∧At w b o news) (h1:∀ u∈news,u.oneCell'=true) (hmax:(m+m2)*b≤140737488355328) (hm:m+m2≤maxLen) :
  ∃ v' w' L',(Builtin.append_ #[T,T] ty #[v,.slice A m2 c2]).run P w=.ok v' w'∧OwnR w' k v' (m+m2) L' (cs++news)∧Chg (fun q=>q∈L) w w'∧∀ q∈L',q∈L∨w.heap.size≤q:=by
 obtain⟨e0,hown,rfl⟩:=hown
 obtain⟨i,zv,hi,hik,hib,hiv,hvc⟩:=j2v hk hb hz
 have mem:∀ (u:Value) q,q∈u.ownBlock.toList↔u.ownBlock=some q:=fun u q=>by cases u.ownBlock<;>simp[eq_comm]
 have fin:(∃ v' w' e',(Builtin.append_ #[T,T] ty #[v,.slice A m2 c2]).run P w=.ok v' w'∧Own w' 0 e' k v' (m+m2) (cs++news)∧Chg (z8P v) w w'∧∀ g,z8P v' g→z8P v g∨w.heap.size≤g) →
   ∃ v' w' L',(Builtin.append_ #[T,T] ty #[v,.slice A m2 c2]).run P w=.ok v' w'∧OwnR w' k v' (m+m2) L' (cs++news)∧Chg (fun q=>q∈v.ownBlock.toList) w w'∧∀ q∈L',q∈v.ownBlock.toList∨w.heap.size≤q:=by
  rintro⟨v',w',e',k1,k2,k3,k4⟩
  refine⟨v',w',v'.ownBlock.toList,k1,⟨e',k2,rfl⟩,k3.mono fun q _ hq=>(mem v q).2 hq,fun q hq=>?_⟩
  exact (k4 q ((mem v' q).1 hq)).imp (fun h=>(mem v q).2 h) id
 apply fin
 cases A with
 | none=>
  have h0:m2=0:=by rcases hat with h0|⟨_,_,h0,_⟩;exact h0;cases h0
  subst h0
  have hn:news=[]:=List.eq_nil_of_length_eq_zero (by simpa using hl)
  subst hn
  refine⟨v,w,e0,?_,by simpa using hown,Chg.refl w,fun g hg=>.inl hg⟩
  rcases hown.2 with ⟨rfl,rfl⟩|⟨g,cap,cur,rfl,_,_,hnc,_⟩
  ·simp[Builtin.append_,run_underlying (q6h hT),sizeOf,typeInfo,hi,Builtin.lenOf,Builtin.firstCells]
  ·simp[Builtin.append_,run_underlying (q6h hT),sizeOf,typeInfo,hi,Builtin.lenOf,Builtin.firstCells,hnc,storeCells]
 | some ad=>
  have hcells:∀ j u,news[j]?=some u→w.cell? (ad.add j)=some u:=by
   intro j u hu
   rcases hat with h0|⟨b2,o2,hA,hat⟩
   ·subst h0
    have hn:news=[]:=List.eq_nil_of_length_eq_zero (by simpa using hl)
    subst hn
    simp at hu
   ·cases hA
    have hadd:(⟨b2,o2,none⟩:Addr).add j=⟨b2,o2+j,none⟩:=by unfold Addr.add;split<;>simp_all
    rw[hadd];exact hat j u hu
  exact j5n (P:=P) (ty:=ty) (base:=0) hT hk hb hz hzk hk0 hown hl hcells h1 hmax hm (Nat.zero_le _)
theorem j5t {F:Nat→Prop}{g:Nat→G}{w:World}{σ1:Nat→Root}(hs:Sim S F g σ1 w){r:Nat}(hr:σ1 r=.none):g r=.none:=by
 have:=hs.roots r
 rw[hr] at this
 revert this
 cases g r<;>intro h<;>first|rfl|exact h.elim
theorem Sim.regrow {F:Nat→Prop}{g:Nat→G}{w w' : World}{σ1:Nat→Root}(hs:Sim S F g σ1 w){r r' : Nat}(hne:r'≠r)(hr' : σ1 r'=.none)(hr0:g r≠.none){L:List Nat}(hL:∀ b∈L,b∈bl (g r))(hc:Chg (fun q=>q∈L) w w'){v' : Value}{k:Nat}{L' : List Nat}{gs' : List (List GC)}{x:Root}
  (hx:(∀ m b o cs,SM F S.B m b→b<w.heap.size→At w b o cs→SM F S.B m b∧b<w'.heap.size∧At w' b o cs)→∀ g',z0D (SM F S.B) w' g' x (.row v' k L' gs')) (hnd:(bl (.row v' k L' gs')).Nodup) (hbl:∀ b∈bl (.row v' k L' gs'),b<w'.heap.size∧(b∈bl (g r)∨w.heap.size≤b)) :
  ∃ g',Sim S F g' (owr σ1 [(r,.dead),(r',x)]) w'∧Pres S.B F g w F g' w'∧vr (SM F S.B) w' g' (.ref r' none) v':=by
 have hg2:=j5t hs hr'
 have e1:owr σ1 [(r,.dead),(r',x)]=fun i=>if i=r' then x else if i=r then .dead else σ1 i:=rfl
 obtain⟨h1,h2⟩:=hs.step (g':=fun i=>if i=r' then .row v' k L' gs' else if i=r then .dead else g i) (σ':=fun i=>if i=r' then x else if i=r then .dead else σ1 i) (F':=F) (w':=w') (fun i=>i=r∨i=r') hc (fun b hb _=>⟨r,.inl rfl,hL b hb⟩)
  (fun i hi=>⟨by simp only[ifN (fun e=>hi (.inr e)),ifN (fun e=>hi (.inl e))],by simp only[ifN (fun e=>hi (.inr e)),ifN (fun e=>hi (.inl e))]⟩)
  (fun i hi=>by
   rcases hi with hi|hi<;>subst hi
   ·simp only[ifN (Ne.symm hne),if_true];exact Adv.dead hr0
   ·rw[hg2];trivial)
  (fun _ h=>h) (fun b hb=>⟨Nat.lt_of_lt_of_le (hs.flt b hb) hc.size,.inl hb⟩)
  (fun hk hp i hi=>by
   rcases hi with hi|hi<;>subst hi
   ·simp only[ifN (Ne.symm hne),if_true];trivial
   ·simp only[if_true];exact hx hk _)
  (fun i hi=>by
   rcases hi with hi|hi<;>subst hi
   ·simp only[ifN (Ne.symm hne),if_true,bl];exact List.nodup_nil
   ·simp only[if_true];exact hnd)
  (fun i j hi hj hij b hb=>by
   rcases hi with hi|hi<;>rcases hj with hj|hj
   ·exact absurd (hi.trans hj.symm) hij
   ·rw[hi] at hb;simp only[ifN (Ne.symm hne),if_true,bl] at hb;cases hb
   ·rw[hj];simp only[ifN (Ne.symm hne),if_true,bl];exact List.not_mem_nil
   ·exact absurd (hi.trans hj.symm) hij)
  (fun i b hi hb=>by
   rcases hi with hi|hi
   ·rw[hi] at hb;simp only[ifN (Ne.symm hne),if_true,bl] at hb;cases hb
   ·rw[hi] at hb
    simp only[if_true] at hb
    obtain⟨h3,h4⟩:=hbl b hb
    refine⟨h3,fun hf=>?_,?_⟩
    ·rcases h4 with h4|h4
     ·exact (hs.own r b h4).2.1 hf
     ·have:=hs.flt b hf;omega
    ·rcases h4 with h4|h4
     ·exact .inr ⟨r,.inl rfl,h4⟩
     ·exact .inl h4)
 refine⟨_,by rw[e1];exact h1,h2,?_⟩
 rw[vr]
 simp only[if_true]
 intro u q hu
 simp only[G.at] at hu
 cases hu
 rfl
theorem j6Q {T:TypeId}{s x:Operand}{ρc:Env}{w w' : World}{v1 v2 v' : Value}(ho:o.op=.call { callee:=.builtin .append,args:=#[s,x],argTypes:=#[T,T] })(h1:E.ev ρc s=v1)(h2:E.ev ρc x=v2)(hr:(Builtin.append_ #[T,T] o.type #[v1,v2]).run P w=.ok v' w'):(execOp (E.ev ρc) o).run P w=.ok (.value v') w':=by
 simp only[execOp,ho,resolve,invoke,builtin,Sem.run_bind,Sem.run_pure,Result.andThen_ok,List.map_toArray,List.map_cons,List.map_nil,h1,h2,hr]
theorem q1y {T e k b r r' : Nat}{z:List Value}{s x:Operand}{m m' m0:Md}{xs ys:List D}{X1:X}(ho:o.op=.call { callee:=.builtin .append,args:=#[s,x],argTypes:=#[T,T] })(hT:q7D P T=some e)(hk:szT P e=some k)(hb:byT P e=some b)(hz:z2C P e=some z)(hzk:z.length=k)(hk0:Nat.blt 0 k=true)
  (hs:evX ρ s=.ref r none) (hσ:fnOf σ r=.row m0 k xs) (hx:evX ρ x=X1) (hsrc:srcD (fnOf σ) X1=some (m',k,ys)) (hm:mle m' m=true) (hm0:mle m0 m=true) (hmax:(xs.length+ys.length)*b≤140737488355328) (hlen:xs.length+ys.length≤maxLen) (hr' : fnOf σ r'=.none) :
  LT P S o ρ σ (q8g X1) (.ref r' none) [(r,.dead),(r',.row m k (xs++ys))]:=by
 intro σ1 F g w ρc hsim hrd hwr hv
 have hr1:σ1 r=.row m0 k xs:=(hwr (r,.dead) (by simp)).trans hσ
 have hr2:σ1 r'=.none:=(hwr (r',.row m k (xs++ys)) (by simp)).trans hr'
 have hne:r'≠r:=fun e=>by rw[e,hr1] at hr2;cases hr2
 have hsrc1:srcD σ1 X1=some (m',k,ys):=by rw[j1B (σ2:=fnOf σ) hrd];exact hsrc
 have e1:=hv s (by simp[ho,Op.operands,Call.operands])
 have e2:=hv x (by simp[ho,Op.operands,Call.operands])
 rw[hx] at e2
 obtain⟨A,cp,news,hv2,hcp,hcm,hrdn,hat⟩:=j6P hsim hsrc1 e2
 obtain⟨v,kk,L,gs,hg,u',LL,cs,hat1,hown,hrdx,hLb⟩:=j3P hsim (q:=r) (l:=none) (m:=m0) (kk:=k) (ys:=xs) (by simp only[z4N,hr1])
 cases hat1
 rw[hs,vr,hg] at e1
 have e3:=e1 _ _ rfl
 obtain⟨v',w',L',hrun,hown',hchg,hL'⟩:=z9D (P:=P) (ty:=o.type) (w:=w) (A:=A) (c2:=cp) (news:=news) hT hk hb hz hzk (by simpa using hk0) hown hrdn.len (hat.imp (fun h=>by rw[h];rfl) fun ⟨b,o,h1,h2,_⟩=>⟨b,o,h1,h2⟩) hrdn.one hmax hlen
 rw[j6Q (P:=P) (w:=w) ho e3 hv2 hrun]
 have hkeep:=hsim.keeps (F':=F) hchg (fun b hb _=>⟨r,hLb b hb⟩) (fun _ h=>h)
 have hrd' : rdE (SM F S.B m) w' k (xs++ys) (cs++news):=((hrdx.mono (z8x hm0)).imp (hkeep m)).append ((hrdn.mono (z8x hm)).imp (hkeep m))
 obtain⟨gs',hg1,hg2,hg3⟩:=j5s hrd'
 have hbl' : bl (.row v' k L' gs')=L':=by simp[bl,hg3]
 obtain⟨g',h1,h2,h3⟩:=hsim.regrow (x:=.row m k (xs++ys)) (v':=v') (k:=k) (L':=L') (gs':=gs') hne hr2 (by rw[hg];intro h;cases h) hLb hchg (fun _ g'=>⟨rfl,by rw[hg2,lnM,List.length_append];exact hown',hg1⟩) (by rw[hbl'];exact hown'.nodup) (fun b hb=>by
  rw[hbl'] at hb
  exact⟨hown'.lst b hb,(hL' b hb).imp (hLb b) id⟩)
 exact⟨F,g',h1,h2,h3⟩
end
section
variable {w:World}{S:Nat→Prop}
mutual
theorem owC.rd:∀ {x:D} {v:Value} {L:List Nat},owC w x v L→(∀ b∈L,S b)→rdC S w x v
 | .i _ _,_,_,h,_=>h.1
 | .b _,_,_,h,_=>h.1
 | .s _,_,_,h,_=>h.1
 | .a _,_,_,h,_=>h.elim
 | .sl k xs,v,L,h,hf=>by
  rw[owC] at h
  obtain⟨L0,cs,L1,h1,h2,rfl⟩:=h
  have h3:=owE.rd h2 fun b hb=>hf b (by simp[hb])
  obtain⟨A,c,e0,h5,h6⟩:=h1.form
  rw[rdC]
  refine⟨A,c,cs,e0,h5,h6,h3,?_⟩
  rcases h1.at with h7|⟨b,c',T,cur,e1,e2,e3,e4,_⟩
  ·exact .inl (List.eq_nil_of_length_eq_zero h7)
  ·rw[e0] at e1
   cases e1
   exact .inr ⟨b,0,rfl,hf b (by simp[e3]),(Array.getElem?_eq_some_iff.1 e4).1,e2⟩
theorem owCs.rd:∀ {x:List D} {v:List Value} {L:List Nat},owCs w x v L→(∀ b∈L,S b)→rdCs S w x v
 | [],_,_,h,_=>by rw[rdCs];exact h.1
 | x::xs,v,L,h,hf=>by
  rw[owCs] at h
  rw[rdCs]
  obtain⟨v,r,L0,L1,h1,rfl,h3,h4⟩:=h
  exact⟨v,r,h1,owC.rd h3 fun b hb=>hf b (by simp[hb]),owCs.rd h4 fun b hb=>hf b (by simp[hb])⟩
theorem owE.rd {k:Nat}:∀ {x:List D} {v:List Value} {L:List Nat},owE w k x v L→(∀ b∈L,S b)→rdE S w k x v
 | [],_,_,h,_=>by rw[rdE];exact h.1
 | .a ds::xs,v,L,h,hf=>by
  rw[owE] at h;rw[rdE]
  obtain⟨c,r,L0,L1,h1,rfl,h2,h3,h4⟩:=h
  exact⟨c,r,h1,h2,owCs.rd h3 fun b hb=>hf b (by simp[hb]),owE.rd h4 fun b hb=>hf b (by simp[hb])⟩
 | .i k n::xs,v,L,h,hf=>by
  rw[owE] at h;rw[rdE]
  obtain⟨c,r,L0,L1,h1,rfl,h2,⟨u,h3,h5⟩,h4⟩:=h
  exact⟨c,r,h1,h2,⟨u,h3,h5.1⟩,owE.rd h4 fun b hb=>hf b (by simp[hb])⟩
 | .b n::xs,v,L,h,hf=>by
  rw[owE] at h;rw[rdE]
  obtain⟨c,r,L0,L1,h1,rfl,h2,⟨u,h3,h5⟩,h4⟩:=h
  exact⟨c,r,h1,h2,⟨u,h3,h5.1⟩,owE.rd h4 fun b hb=>hf b (by simp[hb])⟩
 | .s n::xs,v,L,h,hf=>by
  rw[owE] at h;rw[rdE]
  obtain⟨c,r,L0,L1,h1,rfl,h2,⟨u,h3,h5⟩,h4⟩:=h
  exact⟨c,r,h1,h2,⟨u,h3,h5.1⟩,owE.rd h4 fun b hb=>hf b (by simp[hb])⟩
 | .sl n ys::xs,v,L,h,hf=>by
  rw[owE] at h;rw[rdE]
  obtain⟨c,r,L0,L1,h1,rfl,h2,⟨u,h3,h5⟩,h4⟩:=h
  exact⟨c,r,h1,h2,⟨u,h3,owC.rd h5 fun b hb=>hf b (by simp[hb])⟩,owE.rd h4 fun b hb=>hf b (by simp[hb])⟩
end
def k1y:Cell→Option D
 | .d _ (.a _)=>none
 | .d _ x=>some x
 | .o _ k xs=>some (.sl k xs)
 | .w k xs=>some (.sl k xs)
 | .nl k=>some (.sl k [])
 | .u=>none
def j3Q:List Cell→Option (List D)
 | []=>some []
 | c::cs=>match k1y c,j3Q cs with
  | some x,some xs=>some (x::xs)
  | _,_=>none
def DR (e:List Cell)(d:D):Prop:=j3Q e=some d.cells
theorem all2.map {α β γ:Type}{R:β→γ→Prop}{f:α→β}{g:α→γ}(h:∀ x,R (f x) (g x)):∀ xs:List α,all2 R (xs.map f) (xs.map g)
 | []=>rfl
 | x::xs=>⟨g x,_,rfl,h x,all2.map h xs⟩
theorem j1C:∀ {e:List Cell} {ds:List D},j3Q e=some ds→e.length=ds.length∧∀ (c:Nat) (d:D),ds[c]?=some d→∃ cell,e[c]?=some cell∧k1y cell=some d
 | [],ds,h=>by simp only[j3Q] at h;cases h;exact⟨rfl,fun c d hd=>by simp at hd⟩
 | x::e,ds,h=>by
  simp only[j3Q] at h
  split at h
  ·rename_i y ys h1 h2
   cases h
   obtain⟨h3,h4⟩:=j1C h2
   refine⟨by simp[h3],fun c d hd=>?_⟩
   cases c with
   | zero=>simp at hd;subst hd;exact⟨x,rfl,h1⟩
   | succ c=>simpa using h4 c d (by simpa using hd)
  ·cases h
theorem cellOk.rd {S1:Md→Nat→Prop}{m:Md}{c:Cell}{gc:GC}{d:D}(h:cellOk S1 w c gc)(hc:k1y c=some d)(hfz:m=.fz→fzC c=true)(hS:∀ b,S1 m b→S b)(hS2:∀ b,S1 .fz b→S b)(hL:∀ b∈gc.L,S b):rdC S w d gc.val:=by
 have sub:∀ m',(m=.fz→m'=.fz)→∀ b,S1 m' b→S b:=fun m' h b hb=>by
  cases m' with
  | fz=>exact hS2 b hb
  | bo=>cases m with
   | fz=>cases h rfl
   | bo=>exact hS b hb
 cases c with
 | d m' x=>
  cases x with
  | a cs=>cases hc
  | sl k xs=>
   cases hc
   exact h.2.2.mono (sub m' fun e=>by have:=hfz e;cases m'<;>first|rfl|cases this)
  | i k n=>cases hc;have:=h.2.2;rw[rdC] at this ⊢;exact this
  | b k=>cases hc;have:=h.2.2;rw[rdC] at this ⊢;exact this
  | s k=>cases hc;have:=h.2.2;rw[rdC] at this ⊢;exact this
 | o m' k xs=>
  cases hc
  obtain⟨h1,h2,cs,h3,h4⟩:=h
  obtain⟨A,c,e0,h5,h6⟩:=h3.form
  rw[rdC]
  refine⟨A,c,cs,e0,h5,h6,h4.mono (sub m' fun e=>by have:=hfz e;cases m'<;>first|rfl|cases this),?_⟩
  rcases h3.at with h7|⟨b,c',T,cur,e1,e2,e3,e4,_⟩
  ·exact .inl (List.eq_nil_of_length_eq_zero h7)
  ·rw[e0] at e1
   cases e1
   exact .inr ⟨b,0,rfl,hL b e3,(Array.getElem?_eq_some_iff.1 e4).1,e2⟩
 | w k xs=>cases hc;exact h.2.2.rd hL
 | nl k=>
  cases hc
  rw[rdC]
  exact⟨none,0,[],h.2.2,Nat.le_refl _,Nat.zero_le _,by rw[rdE],.inl rfl⟩
 | u=>cases hc
theorem z9E:∀ {ds:List D} {vs:List Value},vs.length=ds.length→(∀ (c:Nat) (d:D),ds[c]?=some d→∃ v,vs[c]?=some v∧rdC S w d v)→rdCs S w ds vs
 | [],vs,hl,_=>by rw[rdCs];exact List.eq_nil_of_length_eq_zero hl
 | d::ds,[],hl,_=>by simp at hl
 | d::ds,v::vs,hl,h=>by
  rw[rdCs]
  obtain⟨u,h1,h2⟩:=h 0 d rfl
  simp at h1
  subst h1
  exact⟨v,vs,rfl,h2,z9E (by simpa using hl) fun c d hc=>by simpa using h (c+1) d (by simpa using hc)⟩
theorem j3R {k:Nat}:∀ {ds:List D} {gs:List (List GC)},gs.length=ds.length→(∀ (j:Nat) (d:D) (ge:List GC),ds[j]?=some d→gs[j]?=some ge→ge.length=k∧ge.length=d.cells.length∧∀ (c:Nat) (gc:GC) (x:D),ge[c]?=some gc→d.cells[c]?=some x→rdC S w x gc.val)→rdE S w k ds (q5A gs)
 | [],gs,hl,_=>by rw[List.eq_nil_of_length_eq_zero hl,rdE];rfl
 | d::ds,[],hl,_=>by simp at hl
 | d::ds,ge::gs,hl,h=>by
  obtain⟨h1,h2,h3⟩:=h 0 d ge rfl rfl
  refine q6E.2 ⟨ge.map (·.val),q5A gs,by simp[q5A],by simpa using h1,z9E (by simp[h2]) fun c x hx=>?_,j3R (by simpa using hl) fun j d' ge' hd hg=>h (j+1) d' ge' (by simpa using hd) (by simpa using hg)⟩
  have hlt:c<ge.length:=by rw[h2];exact (List.getElem?_eq_some_iff.1 hx).1
  exact⟨ge[c].val,by simp[hlt],h3 c _ x (List.getElem?_eq_getElem hlt) hx⟩
end
def setC (es:List (List Cell))(j c:Nat)(x:Cell):List (List Cell):=es.modify j fun e=>e.set c x
def j5u:Root→Cell
 | .row m k xs=>.o m k xs
 | _=>.u
def j1g (σ:Nat→Root):List (Nat×Nat×Nat)→List (List Cell)→List (List Cell)
 | [],es=>es
 | (j,c,q)::hs,es=>setC (j1g σ hs es) j c (j5u (σ q))
def j9g (σ:Nat→Root)(m:Md)(p:Nat×Nat×Nat):Bool:=match σ p.2.2 with|.row m' _ _=>mle m' m|_=>false
theorem k1z {es:List (List Cell)}{j c j' c' : Nat}{x y:Cell}(h:((setC es j c x)[j']?).bind (·[c']?)=some y):(∃ e,es[j']?=some e)∧((((es)[j']?).bind (·[c']?)=some y)∨(j'=j∧c'=c∧y=x)):=by
 simp only[setC,List.getElem?_modify] at h
 cases he:es[j']? with
 | none=>simp[he] at h
 | some e=>
  refine⟨⟨e,rfl⟩,?_⟩
  simp only[he,Option.map_eq_map,Option.map_some,bsS] at h
  by_cases hj:j=j'
  ·subst hj
   simp only[if_true,Option.map_eq_map,Option.map_some,bsS] at h
   by_cases hc:c=c'
   ·subst hc
    rw[List.getElem?_set] at h
    simp at h
    exact .inr ⟨rfl,rfl,h.2.symm⟩
   ·rw[List.getElem?_set_ne hc] at h
    exact .inl (by simpa using h)
  ·simp only[ifN hj] at h
   exact .inl (by simpa using h)
theorem k1A {es:List (List Cell)}{j c:Nat}{x:Cell}:(setC es j c x).length=es.length:=by simp[setC]
theorem j9h {es:List (List Cell)}{j c j' : Nat}{x:Cell}{e' : List Cell}(h:(setC es j c x)[j']?=some e'):∃ e,es[j']?=some e∧e'.length=e.length:=by
 simp only[setC,List.getElem?_modify] at h
 cases he:es[j']? with
 | none=>simp[he] at h
 | some e=>
  simp only[he,Option.map_eq_map,Option.map_some,Option.some.injEq] at h
  refine⟨e,rfl,?_⟩
  rw[← h]
  split<;>simp
theorem j6R {σ:Nat→Root}:∀ {hs:List (Nat×Nat×Nat)} {es:List (List Cell)},(j1g σ hs es).length=es.length
 | [],es=>rfl
 | (j,c,q)::hs,es=>by rw[j1g,k1A,j6R]
theorem j3S {σ:Nat→Root}:∀ {hs:List (Nat×Nat×Nat)} {es:List (List Cell)} {j:Nat} {e' : List Cell},(j1g σ hs es)[j]?=some e'→∃ e,es[j]?=some e∧e'.length=e.length
 | [],es,j,e',h=>⟨e',h,rfl⟩
 | (j,c,q)::hs,es,j',e',h=>by
  obtain⟨e1,h1,h2⟩:=j9h h
  obtain⟨e2,h3,h4⟩:=j3S h1
  exact⟨e2,h3,h2.trans h4⟩
theorem j6S {σ:Nat→Root}:∀ {hs:List (Nat×Nat×Nat)} {es:List (List Cell)} {j' c' : Nat} {y:Cell},((j1g σ hs es)[j']?).bind (·[c']?)=some y→((es)[j']?).bind (·[c']?)=some y∨∃ q,(j',c',q)∈hs∧y=j5u (σ q)
 | [],es,j',c',y,h=>.inl h
 | (j,c,q)::hs,es,j',c',y,h=>by
  rcases (k1z h).2 with h1|⟨rfl,rfl,h1⟩
  ·rcases j6S h1 with h2|⟨q',h2,h3⟩
   ·exact .inl h2
   ·exact .inr ⟨q',List.mem_cons_of_mem _ h2,h3⟩
  ·exact .inr ⟨q,by simp,h1⟩
inductive DataAt (σ:Nat→Root) (r:Nat) (m:Md) (k:Nat) (ds:List D) (qs:List Nat):Prop
 | row (h:σ r=.row m k ds) (hq:qs=[r])
 | deep {es:List (List Cell)} {hs:List (Nat×Nat×Nat)} (h:σ r=.deep m k es hs) (hd:all2 DR (j1g σ hs es) ds) (hm:hs.all (j9g σ m)=true) (hq:qs=r::hs.map (·.2.2))
theorem DataAt.mem {σ:Nat→Root}{r:Nat}{m:Md}{k:Nat}{ds:List D}{qs:List Nat}(h:DataAt σ r m k ds qs):r∈qs:=by
 cases h with
 | row _ hq=>simp[hq]
 | deep _ _ _ hq=>simp[hq]
theorem j1D {σ1 σ2:Nat→Root}:∀ {hs:List (Nat×Nat×Nat)} {es:List (List Cell)},(∀ p∈hs,σ1 p.2.2=σ2 p.2.2)→j1g σ1 hs es=j1g σ2 hs es
 | [],es,_=>rfl
 | (j,c,q)::hs,es,h=>by
  rw[j1g,j1g,j1D (fun p hp=>h p (by simp[hp])),h (j,c,q) (by simp)]
theorem DataAt.congr {σ1 σ2:Nat→Root}{r:Nat}{m:Md}{k:Nat}{ds:List D}{qs:List Nat}(h:DataAt σ2 r m k ds qs)(hc:∀ q∈qs,σ1 q=σ2 q):DataAt σ1 r m k ds qs:=by
 cases h with
 | row h hq=>exact .row (by rw[hc r (by simp[hq])];exact h) hq
 | deep h hd hm hq=>
  rename_i es hs
  have h1:∀ p∈hs,σ1 p.2.2=σ2 p.2.2:=fun p hp=>hc _ (by rw[hq];exact List.mem_cons_of_mem _ (List.mem_map.2 ⟨p,hp,rfl⟩))
  refine .deep (by rw[hc r (by simp[hq])];exact h) (by rw[j1D h1];exact hd) ?_ hq
  rw[List.all_eq_true] at hm ⊢
  intro p hp
  have:=hm p hp
  simpa only[j9g,h1 p hp] using this
section
variable {S:Start}{F:Nat→Prop}{g:Nat→G}{w:World}{σ1:Nat→Root}
theorem j5v (hs:Sim S F g σ1 w){r:Nat}{m:Md}{k:Nat}{ds:List D}{qs:List Nat}(h:DataAt σ1 r m k ds qs) :
  ∃ v L gs cs,g r=.row v k L gs∧OwnR w k v ds.length L cs∧rdE (fun b=>SM F S.B m b∨∃ q∈qs,b∈bl (g q)) w k ds cs∧∀ b∈L,b∈bl (g r):=by
 cases h with
 | row h hq=>
  obtain⟨v,L,gs,hg,hrow⟩:=z8u hs (.inr ⟨_,_,h,rfl⟩)
  obtain⟨h1,h2,h3,h4⟩:=q6P hrow
  exact⟨v,L,gs,_,hg,h1,h2.mono fun b hb=>.inl hb,fun b hb=>by rw[hg];simp[bl,hb]⟩
 | deep h hd hm hq=>
  rename_i es hs'
  have hr:=hs.roots r
  rw[h] at hr
  cases hg:g r<;>rw[hg] at hr<;>try exact hr.elim
  rename_i v k0 L gs
  obtain⟨⟨hk,hrow⟩,hho,hfz⟩:=hr
  subst hk
  have hlen:es.length=ds.length:=by rw[hd.len,j6R]
  refine⟨v,L,gs,q5A gs,rfl,by rw[← hlen];exact hrow.1,?_,fun b hb=>by simp[bl,hb]⟩
  refine j3R (by rw[hrow.2.len,hlen]) fun j d ge hdj hgj=>?_
  obtain⟨e,hej,hel⟩:=hrow.2.get' hgj
  obtain⟨e1,he1,hDR⟩:=hd.get' hdj
  obtain⟨e2,he2,hl2⟩:=j3S he1
  rw[hej] at he2
  cases he2
  obtain⟨h5,h6⟩:=j1C hDR
  have hgl:ge.length=e.length:=hel.2.len
  refine⟨hgl.trans hel.1,by rw[hgl,← hl2,h5],fun c gc x hgc hx=>?_⟩
  obtain⟨cell,hcell,hcd⟩:=h6 c x hx
  rcases j6S (j':=j) (c':=c) (y:=cell) (by rw[he1];exact hcell) with h7|⟨q,h7,h8⟩
  ·rw[hej] at h7
   have h7:e[c]?=some cell:=h7
   obtain⟨gc',h9,h10⟩:=hel.2.get h7
   rw[hgc] at h9
   cases h9
   refine h10.rd (m:=m) hcd (fun e'=>hfz e' e (List.mem_of_getElem? hej) cell (List.mem_of_getElem? h7)) (fun b hb=>.inl hb) (fun b hb=>?_) fun b hb=>.inr ⟨r,by simp[hq],?_⟩
   ·cases m with
    | fz=>exact .inl hb
    | bo=>exact .inl (.inl hb)
   ·rw[hg]
    simp only[bl,gbl,List.mem_append,List.mem_flatMap]
    exact .inr ⟨ge,List.mem_of_getElem? hgj,gc,List.mem_of_getElem? hgc,hb⟩
  ·have h9:=hho _ h7 gc (by rw[hgj];exact hgc)
   have h10:=List.all_eq_true.1 hm _ h7
   simp only[j9g] at h10
   split at h10
   ·rename_i m' k' xs hq'
    obtain⟨v',L',gs',hg',hrow'⟩:=z8u hs (.inr ⟨_,_,hq',rfl⟩)
    obtain⟨k1,k2,k3,k4⟩:=q6P hrow'
    rw[hg'] at h9
    have h9:=h9 _ _ rfl
    rw[h8,hq'] at hcd
    simp only[j5u,k1y] at hcd
    cases hcd
    obtain⟨A,c',e0,h5',h6'⟩:=k1.form
    rw[h9,rdC]
    refine⟨A,c',_,e0,h5',h6',k2.mono fun b hb=>.inl (z8x h10 b hb),?_⟩
    rcases k1.at with h11|⟨b,c'',T,cur,e1,e2,e3,e4,_⟩
    ·exact .inl (List.eq_nil_of_length_eq_zero h11)
    ·rw[e0] at e1
     cases e1
     exact .inr ⟨b,0,rfl,.inr ⟨q,by rw[hq];exact List.mem_cons_of_mem _ (List.mem_map.2 ⟨_,h7,rfl⟩),by rw[hg'];simp[bl,e3]⟩,(Array.getElem?_eq_some_iff.1 e4).1,e2⟩
   ·cases h10
end
theorem j5w {S:Nat→Prop}{w:World}{k:Nat}{v:Value}{ds:List D}{L:List Nat}{cs:List Value}(h1:OwnR w k v ds.length L cs)(h2:rdE S w k ds cs)(h3:∀ b∈L,S b):rdC S w (.sl k ds) v:=by
 obtain⟨A,c,e0,h5,h6⟩:=h1.form
 rw[rdC]
 refine⟨A,c,cs,e0,h5,h6,h2,?_⟩
 rcases h1.at with h7|⟨b,c',T,cur,e1,e2,e3,e4,_⟩
 ·exact .inl (List.eq_nil_of_length_eq_zero h7)
 ·rw[e0] at e1
  cases e1
  exact .inr ⟨b,0,rfl,h3 b e3,(Array.getElem?_eq_some_iff.1 e4).1,e2⟩
theorem j6T {S:Nat→Prop}{w:World}{k lo n:Nat}{v u:Value}{ds:List D}{L:List Nat}{cs:List Value}(h1:OwnR w k v ds.length L cs)(h2:rdE S w k ds cs)(h3:∀ b∈L,S b)(hp:z9x v k lo n u):rdC S w (.sl k ((ds.drop lo).take n)) u:=by
 obtain⟨A,m,cp,A',cp',e1,h5,h6,h7,h8,h9⟩:=hp
 obtain⟨A0,c0,e0,h10,h11⟩:=h1.form
 rw[e0] at e1
 cases e1
 have hl:((ds.drop lo).take n).length=n:=by simp only[List.length_take,List.length_drop];omega
 rw[rdC]
 refine⟨A',cp',(cs.drop (lo*k)).take (n*k),by rw[hl];exact h6,by rw[hl];exact h7,h8,(h2.drop lo).take n,?_⟩
 rcases h9 with h9|⟨b,e2,e3⟩
 ·exact .inl (List.eq_nil_of_length_eq_zero (by rw[hl,h9]))
 ·rcases h1.at with h12|⟨b',c',T,cur,e4,e5,e6,e7,_⟩
  ·exact .inl (List.eq_nil_of_length_eq_zero (by rw[hl];omega))
  ·rw[e0] at e4
   cases e4
   cases e2
   refine .inr ⟨b,_,e3,h3 b e6,(Array.getElem?_eq_some_iff.1 e7).1,fun i u hi=>?_⟩
   rw[List.getElem?_take] at hi
   split at hi
   ·rw[List.getElem?_drop] at hi
    have:=e5 _ _ hi
    rwa[Nat.zero_add] at this
   ·cases hi
def j3T (w:World)(F B:Nat→Prop)(g:Nat→G)(n:Nat):Start:=⟨w,fun b=>∃ i,b∈bl (g i),F,B,g,n⟩
def Ok (P:Program)(f:Nat)(args:List X)(pre:St)(res:X)(post:St):Prop:=
 ∀ (F B:Nat→Prop) (g:Nat→G) (w:World) (vs:List Value),Sim (j3T w F B g pre.length) F g (fnOf pre) w→vrs (SM F B) w g args vs →
  Ret P f vs.toArray w (fun b=>∃ i,b∈bl (g i)) fun v w'=>∃ F' g',Sim (j3T w F B g pre.length) F' g' (fnOf post) w'∧vr (SM F' B) w' g' res v
def renI:List (Nat×Nat)→Nat→Option Nat
 | [],_=>none
 | (i,j)::l,k=>bif Nat.beq i k then some j else renI l k
def invI:List (Nat×Nat)→Nat→Option Nat
 | [],_=>none
 | (i,j)::l,k=>bif Nat.beq j k then some i else invI l k
mutual
def renX (l:List (Nat×Nat)):X→X
 | .ref r p=>match renI l r with|some j=>.ref j p|none=>.u
 | .vs r p a b=>match renI l r with|some j=>.vs j p a b|none=>.u
 | .pb r c=>match renI l r with|some j=>.pb j c|none=>.u
 | .pe r p j c=>match renI l r with|some i=>.pe i p j c|none=>.u
 | .ag cs=>.ag (z6U l cs)
 | .tu cs=>.tu (z6U l cs)
 | .fn f cs=>.fn f (z6U l cs)
 | .d m x=>.d m x
 | .pf m x=>.pf m x
 | .nl k=>.nl k
 | .u=>.u
def z6U (l:List (Nat×Nat)):List X→List X
 | []=>[]
 | x::xs=>renX l x::z6U l xs
end
def isFz:Md→Bool
 | .fz=>true
 | .bo=>false
def okM (z:Bool)(m:Md):D→Bool
 | .sl _ _=>bif z then isFz m else true
 | .a _=>bif z then isFz m else true
 | _=>true
mutual
def okX (l:List (Nat×Nat))(z:Bool):X→Bool
 | .ref r _=>(renI l r).isSome
 | .vs r _ _ _=>(renI l r).isSome
 | .pb r _=>(renI l r).isSome
 | .pe r _ _ _=>(renI l r).isSome
 | .ag cs=>okXs l z cs
 | .tu cs=>okXs l z cs
 | .fn _ cs=>okXs l z cs
 | .d m x=>okM z m x
 | .pf m _=>bif z then isFz m else true
 | .nl _=>true
 | .u=>true
def okXs (l:List (Nat×Nat))(z:Bool):List X→Bool
 | []=>true
 | x::xs=>okX l z x&&okXs l z xs
end
def renR (l:List (Nat×Nat)):Root→Root
 | .box cs=>.box (z6U l cs)
 | .deep m k es hs=>.deep m k es (hs.map fun p=>(p.1,p.2.1,(renI l p.2.2).getD 0))
 | x=>x
def okR (l:List (Nat×Nat))(z:Bool):Root→Bool
 | .box cs=>okXs l z cs
 | .row m _ _=>bif z then isFz m else true
 | .deep m _ _ hs=>(bif z then isFz m else true)&&hs.all fun p=>(renI l p.2.2).isSome
 | _=>true
theorem z5M:∀ {l:List (Nat×Nat)} {i j:Nat},(l.map (·.2)).Nodup→renI l i=some j→(l.map (·.1)).Nodup→invI l j=some i
 | [],i,j,_,h,_=>by simp[renI] at h
 | (a,b)::l,i,j,hn,h,hm=>by
  simp only[List.map_cons,List.nodup_cons] at hn hm
  simp only[renI] at h
  simp only[invI]
  cases hb:Nat.beq a i with
  | true=>
   rw[hb] at h
   simp only[cond_true,Option.some.injEq] at h
   subst h
   have:=Nat.eq_of_beq_eq_true hb
   subst this
   simp
  | false=>
   rw[hb] at h
   simp only[cond_false] at h
   have ih:=z5M hn.2 h hm.2
   have hmem:j∈l.map (·.2):=by
    clear ih hn hm hb
    induction l with
    | nil=>simp[renI] at h
    | cons p l ihl=>
     simp only[renI] at h
     cases hb:Nat.beq p.1 i with
     | true=>rw[hb] at h;simp at h;simp[h]
     | false=>rw[hb] at h;simp at h;simp;right;have:=ihl h;simpa using this
   have hne:Nat.beq b j=false:=by
    cases hbj:Nat.beq b j with
    | false=>rfl
    | true=>exact absurd ((Nat.eq_of_beq_eq_true hbj)▸hmem) hn.1
   rw[hne]
   exact ih
theorem j2C:∀ {l:List (Nat×Nat)} {i j:Nat},invI l j=some i→(l.map (·.1)).Nodup→renI l i=some j
 | [],i,j,h,_=>by simp[invI] at h
 | (a,b)::l,i,j,h,hm=>by
  simp only[List.map_cons,List.nodup_cons] at hm
  simp only[invI] at h
  simp only[renI]
  cases hb:Nat.beq b j with
  | true=>
   rw[hb] at h
   simp only[cond_true,Option.some.injEq] at h
   subst h
   have:=Nat.eq_of_beq_eq_true hb
   subst this
   simp
  | false=>
   rw[hb] at h
   simp only[cond_false] at h
   have ih:=j2C h hm.2
   have hmem:i∈l.map (·.1):=by
    clear ih hm hb
    induction l with
    | nil=>simp[invI] at h
    | cons p l ihl=>
     simp only[invI] at h
     cases hb:Nat.beq p.2 j with
     | true=>rw[hb] at h;simp at h;simp[h]
     | false=>rw[hb] at h;simp at h;simp;right;have:=ihl h;simpa using this
   have hne:Nat.beq a i=false:=by
    cases hbj:Nat.beq a i with
    | false=>rfl
    | true=>exact absurd ((Nat.eq_of_beq_eq_true hbj)▸hmem) hm.1
   rw[hne]
   exact ih
section
variable {S1 S2:Md→Nat→Prop}{w:World}{g1 g2:Nat→G}{l:List (Nat×Nat)}{z:Bool}
mutual
theorem k4Y (hg:∀ i j,renI l i=some j→Adv (g1 i) (g2 j))(hfz:∀ b,S1 .fz b→S2 .fz b)(hbo:z=false→∀ b,S1 .bo b→S2 .bo b):∀ {x:X} {v:Value},okX l z x=true→vr S1 w g1 x v→vr S2 w g2 (renX l x) v
 | .d m x,v,ho,h=>by
  rw[renX]
  rw[vr] at h ⊢
  cases m with
  | fz=>exact h.mono hfz
  | bo=>
   cases x with
   | sl k xs=>cases z with
    | false=>exact h.mono (hbo rfl)
    | true=>simp[okX,okM,isFz] at ho
   | a cs=>rw[rdC] at h;exact h.elim
   | i k n=>rw[rdC] at h ⊢;exact h
   | b y=>rw[rdC] at h ⊢;exact h
   | s t=>rw[rdC] at h ⊢;exact h
 | .ag cs,v,ho,h=>by rw[renX];rw[vr] at h ⊢;rw[okX] at ho;obtain⟨vs,h1,h2⟩:=h;exact⟨vs,h1,j3U hg hfz hbo ho h2⟩
 | .tu cs,v,ho,h=>by rw[renX];rw[vr] at h ⊢;rw[okX] at ho;obtain⟨vs,h1,h2⟩:=h;exact⟨vs,h1,j3U hg hfz hbo ho h2⟩
 | .ref r p,v,ho,h=>by
  rw[okX] at ho
  obtain⟨j,hj⟩:=Option.isSome_iff_exists.1 ho
  simp only[renX,hj]
  rw[vr] at h ⊢
  exact h.adv (hg r j hj)
 | .vs r p a b,v,ho,h=>by
  rw[okX] at ho
  obtain⟨j,hj⟩:=Option.isSome_iff_exists.1 ho
  simp only[renX,hj]
  rw[vr] at h ⊢
  exact h.adv (hg r j hj)
 | .pb r c,v,ho,h=>by
  rw[okX] at ho
  obtain⟨j,hj⟩:=Option.isSome_iff_exists.1 ho
  simp only[renX,hj]
  rw[vr] at h ⊢
  have:=hg r j hj
  revert h this
  cases g1 r with
  | none=>intro h;exact h.elim
  | row=>intro h;exact h.elim
  | dead=>intro h hd;rw[show g2 j=.dead from hd];trivial
  | box b T=>intro h hd;rcases hd with hd|hd<;>rw[hd];exact h;trivial
 | .pe r p i c,v,ho,h=>by
  rw[okX] at ho
  obtain⟨j,hj⟩:=Option.isSome_iff_exists.1 ho
  simp only[renX,hj]
  rw[vr] at h ⊢
  exact h.adv (hg r j hj)
 | .pf m xs,v,ho,h=>by
  rw[renX]
  rw[vr] at h ⊢
  obtain⟨b,o,cs,h1,h2,h3,h4,h5⟩:=h
  cases m with
  | fz=>exact⟨b,o,cs,h1,hfz b h2,h3,h4,h5.mono hfz⟩
  | bo=>cases z with
   | false=>exact⟨b,o,cs,h1,hbo rfl b h2,h3,h4,h5.mono (hbo rfl)⟩
   | true=>simp[okX,isFz] at ho
 | .fn f cs,v,ho,h=>by rw[renX];rw[vr] at h ⊢;rw[okX] at ho;obtain⟨vs,h1,h2⟩:=h;exact⟨vs,h1,j3U hg hfz hbo ho h2⟩
 | .nl _,v,ho,h=>by rw[renX];rw[vr] at h ⊢;exact h
 | .u,v,ho,h=>by rw[renX,vr];trivial
theorem j3U (hg:∀ i j,renI l i=some j→Adv (g1 i) (g2 j))(hfz:∀ b,S1 .fz b→S2 .fz b)(hbo:z=false→∀ b,S1 .bo b→S2 .bo b):∀ {xs:List X} {vs:List Value},okXs l z xs=true→vrs S1 w g1 xs vs→vrs S2 w g2 (z6U l xs) vs
 | [],vs,ho,h=>by rw[z6U];rw[vrs] at h ⊢;exact h
 | x::xs,vs,ho,h=>by
  rw[okXs,Bool.and_eq_true] at ho
  rw[z6U]
  rw[vrs] at h ⊢
  obtain⟨v,r,h1,h2,h3⟩:=h
  exact⟨v,r,h1,k4Y hg hfz hbo ho.1 h2,j3U hg hfz hbo ho.2 h3⟩
end
end
section
variable {S1 S2:Md→Nat→Prop}{w:World}{g1 g2:Nat→G}{l:List (Nat×Nat)}{z:Bool}
mutual
theorem k3D (hg:∀ i j,renI l i=some j→g1 i=g2 j)(hS:∀ m b,S2 m b→S1 m b):∀ {x:X} {v:Value},okX l z x=true→vr S2 w g2 (renX l x) v→vr S1 w g1 x v
 | .d m x,v,ho,h=>by rw[renX] at h;rw[vr] at h ⊢;exact h.mono (hS m)
 | .ag cs,v,ho,h=>by rw[renX] at h;rw[vr] at h ⊢;rw[okX] at ho;obtain⟨vs,h1,h2⟩:=h;exact⟨vs,h1,z6V hg hS ho h2⟩
 | .tu cs,v,ho,h=>by rw[renX] at h;rw[vr] at h ⊢;rw[okX] at ho;obtain⟨vs,h1,h2⟩:=h;exact⟨vs,h1,z6V hg hS ho h2⟩
 | .ref r p,v,ho,h=>by
  rw[okX] at ho
  obtain⟨j,hj⟩:=Option.isSome_iff_exists.1 ho
  simp only[renX,hj] at h
  rw[vr] at h ⊢
  rw[hg r j hj];exact h
 | .vs r p a b,v,ho,h=>by
  rw[okX] at ho
  obtain⟨j,hj⟩:=Option.isSome_iff_exists.1 ho
  simp only[renX,hj] at h
  rw[vr] at h ⊢
  rw[hg r j hj];exact h
 | .pb r c,v,ho,h=>by
  rw[okX] at ho
  obtain⟨j,hj⟩:=Option.isSome_iff_exists.1 ho
  simp only[renX,hj] at h
  rw[vr] at h ⊢
  rw[hg r j hj];exact h
 | .pe r p i c,v,ho,h=>by
  rw[okX] at ho
  obtain⟨j,hj⟩:=Option.isSome_iff_exists.1 ho
  simp only[renX,hj] at h
  rw[vr] at h ⊢
  rw[hg r j hj];exact h
 | .pf m xs,v,ho,h=>by
  rw[renX] at h
  rw[vr] at h ⊢
  obtain⟨b,o,cs,h1,h2,h3,h4,h5⟩:=h
  exact⟨b,o,cs,h1,hS m b h2,h3,h4,h5.mono (hS m)⟩
 | .fn f cs,v,ho,h=>by rw[renX] at h;rw[vr] at h ⊢;rw[okX] at ho;obtain⟨vs,h1,h2⟩:=h;exact⟨vs,h1,z6V hg hS ho h2⟩
 | .nl _,v,ho,h=>by rw[renX] at h;rw[vr] at h ⊢;exact h
 | .u,v,ho,h=>by rw[vr];trivial
theorem z6V (hg:∀ i j,renI l i=some j→g1 i=g2 j)(hS:∀ m b,S2 m b→S1 m b):∀ {xs:List X} {vs:List Value},okXs l z xs=true→vrs S2 w g2 (z6U l xs) vs→vrs S1 w g1 xs vs
 | [],vs,ho,h=>by rw[z6U] at h;rw[vrs] at h ⊢;exact h
 | x::xs,vs,ho,h=>by
  rw[okXs,Bool.and_eq_true] at ho
  rw[z6U] at h
  rw[vrs] at h ⊢
  obtain⟨v,r,h1,h2,h3⟩:=h
  exact⟨v,r,h1,k3D hg hS ho.1 h2,z6V hg hS ho.2 h3⟩
end
end
theorem k1B {g1 g2:Nat→G}{l:List (Nat×Nat)}{hs:List (Nat×Nat×Nat)}{gs:List (List GC)}(h:holesOk g1 hs gs)(ho:(hs.all fun p=>(renI l p.2.2).isSome)=true)(hg:∀ i j,renI l i=some j→Adv (g1 i) (g2 j)):holesOk g2 (hs.map fun p=>(p.1,p.2.1,(renI l p.2.2).getD 0)) gs:=by
 intro p hp gc hgc
 obtain⟨q,hq,rfl⟩:=List.mem_map.1 hp
 obtain⟨j,hj⟩:=Option.isSome_iff_exists.1 (List.all_eq_true.1 ho q hq)
 simp only[hj,Option.getD_some]
 exact (h q hq gc hgc).adv (hg _ _ hj)
theorem j7S {g1 g2:Nat→G}{l:List (Nat×Nat)}{hs:List (Nat×Nat×Nat)}{gs:List (List GC)}(h:holesOk g2 (hs.map fun p=>(p.1,p.2.1,(renI l p.2.2).getD 0)) gs)(ho:(hs.all fun p=>(renI l p.2.2).isSome)=true)(hg:∀ i j,renI l i=some j→g1 i=g2 j):holesOk g1 hs gs:=by
 intro q hq gc hgc
 obtain⟨j,hj⟩:=Option.isSome_iff_exists.1 (List.all_eq_true.1 ho q hq)
 have:=h _ (List.mem_map.2 ⟨q,hq,rfl⟩) gc hgc
 simp only[hj,Option.getD_some] at this
 rw[hg _ _ hj];exact this
mutual
inductive Pass (σ:Nat→Root) (l:List (Nat×Nat)) (vw:List Nat):X→X→Prop
 | same {m:Md} {x:D}:Pass σ l vw (.d m x) (.d m x)
 | d {m m' : Md} {x:D} (h:mle m m'=true):Pass σ l vw (.d m x) (.d m' x)
 | ag {cs cs' : List X} (h:PassL σ l vw cs cs'):Pass σ l vw (.ag cs) (.ag cs')
 | pb {r i c:Nat} (h:renI l i=some r):Pass σ l vw (.pb r c) (.pb i c)
 | ref {r i:Nat} {p:Option (Nat×Nat)} (h:renI l i=some r):Pass σ l vw (.ref r p) (.ref i p)
 | rd {r k:Nat} {p:Option (Nat×Nat)} {m:Md} {ys:List D} (h:z4N (σ r) p=some (m,k,ys)) (hc:vw.contains r=true):Pass σ l vw (.ref r p) (.d .bo (.sl k ys))
 | vd {r k a b:Nat} {p:Option (Nat×Nat)} {m:Md} {zs:List D} (h:z4N (σ r) p=some (m,k,zs)) (hc:vw.contains r=true):Pass σ l vw (.vs r p a b) (.d .bo (.sl k ((zs.drop a).take b)))
 | dd {r k:Nat} {m:Md} {ds:List D} {qs:List Nat} (h:DataAt σ r m k ds qs) (hc:qs.all (vw.contains ·)=true):Pass σ l vw (.ref r none) (.d .bo (.sl k ds))
 | nld {k k' : Nat} {m:Md}:Pass σ l vw (.nl k) (.d m (.sl k' []))
 | nl {k k' : Nat}:Pass σ l vw (.nl k) (.nl k')
 | fn {f:Nat} {cs cs' : List X} (h:PassL σ l vw cs cs'):Pass σ l vw (.fn f cs) (.fn f cs')
 | pf {m m' : Md} {ds:List D} (h:mle m m'=true):Pass σ l vw (.pf m ds) (.pf m' ds)
 | u {x:X}:Pass σ l vw x .u
inductive PassL (σ:Nat→Root) (l:List (Nat×Nat)) (vw:List Nat):List X→List X→Prop
 | nil:PassL σ l vw [] []
 | cons {x y:X} {xs ys:List X} (h:Pass σ l vw x y) (h2:PassL σ l vw xs ys):PassL σ l vw (x::xs) (y::ys)
end
section
variable {S:Start}{F Bc:Nat→Prop}{g g1:Nat→G}{σ1:Nat→Root}{w:World}{l:List (Nat×Nat)}{vw:List Nat}
mutual
theorem k3E (hs:Sim S F g σ1 w)(hg:∀ i j,renI l i=some j→g1 i=g j)(hB:∀ b,S.B b→Bc b)(hvw:∀ r b,vw.contains r=true→b∈bl (g r)→Bc b):∀ {x y:X},Pass σ1 l vw x y→∀ {v:Value},vr (SM F S.B) w g x v→vr (SM F Bc) w g1 y v
 | _,_,.d (m:=m) (m':=m') hm,v,h=>by
  rw[vr] at h ⊢
  refine (h.mono (z8x hm)).mono fun b hb=>?_
  cases m' with
  | fz=>exact hb
  | bo=>exact hb.imp id (hB b)
 | _,_,.same (m:=m),v,h=>by
  rw[vr] at h ⊢
  refine h.mono fun b hb=>?_
  cases m with
  | fz=>exact hb
  | bo=>exact hb.imp id (hB b)
 | _,_,.ag hp,v,h=>by rw[vr] at h ⊢;obtain⟨vs,h1,h2⟩:=h;exact⟨vs,h1,z9g hs hg hB hvw hp h2⟩
 | _,_,.pb (r:=r) (i:=i) h1,v,h=>by
  rw[vr] at h ⊢
  rw[hg i r h1];exact h
 | _,_,.ref (r:=r) (i:=i) h1,v,h=>by
  rw[vr] at h ⊢
  rw[hg i r h1];exact h
 | _,_,.rd (r:=r) (k:=k) (p:=p) (m:=m) (ys:=ys) hrow hc,v,h=>by
  obtain⟨A,cp,cs,h1,h2,h3,h4,h5⟩:=j6P hs (x:=.ref r p) (by rw[srcD];exact hrow) h
  show rdC _ _ _ _
  rw[rdC]
  refine⟨A,cp,cs,h1,h2,h3,h4.mono fun b hb=>?_,h5.imp id fun ⟨b,o,e1,e2,e3,e4⟩=>⟨b,o,e1,?_,e3,e2⟩⟩
  ·cases m with
   | fz=>exact .inl hb
   | bo=>exact hb.imp id (hB b)
  ·rcases e4 with e4|⟨r',e5,e6⟩
   ·cases m with
    | fz=>exact .inl e4
    | bo=>exact e4.imp id (hB b)
   ·simp only[q8g,List.mem_singleton] at e5
    subst e5
    exact .inr (hvw _ b hc e6)
 | _,_,.vd (r:=r) (k:=k) (a:=a) (b:=c) (p:=p) (m:=m) (zs:=zs) hrow hc,v,h=>by
  obtain⟨A,cp,cs,h1,h2,h3,h4,h5⟩:=j6P hs (x:=.vs r p a c) (m:=m) (k:=k) (ys:=(zs.drop a).take c) (by rw[srcD,hrow];rfl) h
  show rdC _ _ _ _
  rw[rdC]
  refine⟨A,cp,cs,h1,h2,h3,h4.mono fun b hb=>?_,h5.imp id fun ⟨b,o,e1,e2,e3,e4⟩=>⟨b,o,e1,?_,e3,e2⟩⟩
  ·cases m with
   | fz=>exact .inl hb
   | bo=>exact hb.imp id (hB b)
  ·rcases e4 with e4|⟨r',e5,e6⟩
   ·cases m with
    | fz=>exact .inl e4
    | bo=>exact e4.imp id (hB b)
   ·simp only[q8g,List.mem_singleton] at e5
    subst e5
    exact .inr (hvw _ b hc e6)
 | _,_,.dd (r:=r) (m:=m) (qs:=qs) h hc,v,hv=>by
  obtain⟨u,L,gs,cs,hg',h1,h2,h3⟩:=j5v hs h
  rw[vr,hg'] at hv
  have hv:=hv _ _ rfl
  subst hv
  have hq:∀ q∈qs,vw.contains q=true:=List.all_eq_true.1 hc
  rw[vr]
  refine j5w h1 (h2.mono fun b hb=>?_) fun b hb=>.inr (hvw r b (hq r h.mem) (h3 b hb))
  rcases hb with hb|⟨q,hq',hb⟩
  ·cases m with
   | fz=>exact .inl hb
   | bo=>exact hb.imp id (hB b)
  ·exact .inr (hvw q b (hq q hq') hb)
 | _,_,.nld,v,h=>by
  have h:v=.slice none 0 0:=by rw[vr] at h;exact h
  show rdC _ _ (.sl _ []) v
  rw[rdC]
  exact⟨none,0,[],h,Nat.le_refl _,Nat.zero_le _,by rw[rdE],.inl rfl⟩
 | _,_,.nl,v,h=>by
  have h:v=.slice none 0 0:=by rw[vr] at h;exact h
  rw[vr];exact h
 | _,_,.fn hp,v,h=>by rw[vr] at h ⊢;obtain⟨vs,h1,h2⟩:=h;exact⟨vs,h1,z9g hs hg hB hvw hp h2⟩
 | _,_,.pf (m:=m) (m':=m') hm,v,h=>by
  rw[vr] at h ⊢
  obtain⟨b,o,cs,h1,h2,h3,h4,h5⟩:=h
  have up:∀ b,SM F S.B m b→SM F Bc m' b:=fun b hb=>by
   have:=z8x hm b hb
   cases m' with
   | fz=>exact this
   | bo=>exact this.imp id (hB b)
  exact⟨b,o,cs,h1,up b h2,h3,h4,h5.mono up⟩
 | _,_,.u,v,_=>by rw[vr];trivial
theorem z9g (hs:Sim S F g σ1 w)(hg:∀ i j,renI l i=some j→g1 i=g j)(hB:∀ b,S.B b→Bc b)(hvw:∀ r b,vw.contains r=true→b∈bl (g r)→Bc b):∀ {xs ys:List X},PassL σ1 l vw xs ys→∀ {vs:List Value},vrs (SM F S.B) w g xs vs→vrs (SM F Bc) w g1 ys vs
 | _,_,.nil,vs,h=>by rw[vrs] at h ⊢;exact h
 | _,_,.cons hp hp2,vs,h=>by
  rw[vrs] at h ⊢
  obtain⟨v,r,h1,h2,h3⟩:=h
  exact⟨v,r,h1,k3E hs hg hB hvw hp h2,z9g hs hg hB hvw hp2 h3⟩
end
mutual
theorem j7T {σ2:Nat→Root}{rd:List Nat}(hc:∀ r∈rd,σ1 r=σ2 r)(hv:∀ r,vw.contains r=true→r∈rd):∀ {x y:X},Pass σ2 l vw x y→Pass σ1 l vw x y
 | _,_,.same=>.same
 | _,_,.d hm=>.d hm
 | _,_,.ag hp=>.ag (z4a hc hv hp)
 | _,_,.pb h=>.pb h
 | _,_,.ref h=>.ref h
 | _,_,.rd h h2=>.rd (by rw[hc _ (hv _ h2)];exact h) h2
 | _,_,.vd h h2=>.vd (by rw[hc _ (hv _ h2)];exact h) h2
 | _,_,.dd h h2=>.dd (h.congr fun q hq=>hc q (hv q (List.all_eq_true.1 h2 q hq))) h2
 | _,_,.nld=>.nld
 | _,_,.nl=>.nl
 | _,_,.fn hp=>.fn (z4a hc hv hp)
 | _,_,.pf hm=>.pf hm
 | _,_,.u=>.u
theorem z4a {σ2:Nat→Root}{rd:List Nat}(hc:∀ r∈rd,σ1 r=σ2 r)(hv:∀ r,vw.contains r=true→r∈rd):∀ {xs ys:List X},PassL σ2 l vw xs ys→PassL σ1 l vw xs ys
 | _,_,.nil=>.nil
 | _,_,.cons h h2=>.cons (j7T hc hv h) (z4a hc hv h2)
end
end
def allI (p:Nat→Root→Bool):Nat→St→Bool
 | _,[]=>true
 | i,x::l=>p i x&&allI p (i+1) l
def isNone:Root→Bool
 | .none=>true
 | _=>false
def PreL (σ pre:Nat→Root)(l0:List (Nat×Nat)):List (Nat×Nat)→Prop
 | []=>True
 | (i,j)::l=>σ j=renR l0 (pre i)∧PreL σ pre l0 l
def z4O:List Nat→Bool
 | []=>true
 | x::l=>!l.contains x&&z4O l
theorem q8D:∀ {l:List Nat},z4O l=true→l.Nodup
 | [],_=>List.nodup_nil
 | x::l,h=>by
  simp only[z4O,Bool.and_eq_true,Bool.not_eq_true'] at h
  rw[List.nodup_cons]
  exact⟨fun hm=>by simp[hm] at h,q8D h.2⟩
def z9F (ren:List (Nat×Nat))(vw:List Nat)(pre post:St)(res:X):Bool:=
 z4O (ren.map (·.1))&&z4O (ren.map (·.2))&&vw.all (fun r=>!(ren.map (·.2)).contains r) &&
 allI (fun i x=>isNone x||((renI ren i).isSome&&okR ren false x)) 0 pre &&
 allI (fun i x=>isNone x||((renI ren i).isSome&&okR ren (!vw.isEmpty) x)) 0 post&&okX ren (!vw.isEmpty) res
def z4P (ren:List (Nat×Nat))(x:Root):Root:=match x with
 | .none=>.dead
 | x=>renR ren x
theorem z9h {p:Nat→Root→Bool}:∀ {l:St} {k i:Nat},allI p k l=true→(isNone (fnOf l i)=true∨p (k+i) (fnOf l i)=true)
 | [],k,i,_=>.inl (by rw[z1I];rfl)
 | x::l,k,0,h=>by simp only[allI,Bool.and_eq_true] at h;exact .inr h.1
 | x::l,k,i+1,h=>by
  simp only[allI,Bool.and_eq_true] at h
  have:=z9h (i:=i) h.2
  rwa[show k+1+i=k+(i+1) by omega] at this
theorem j3V {x:Root}(h:isNone x=true):x=.none:=by cases x<;>first|rfl|cases h
theorem j6U:∀ {l:St} {i:Nat},l.length≤i→fnOf l i=.none
 | [],i,_=>z1I i
 | x::l,0,h=>by simp at h
 | x::l,i+1,h=>by simp only[fnOf];exact j6U (by simpa using h)
theorem PreL.get {σ pre:Nat→Root}{l0:List (Nat×Nat)}:∀ {l:List (Nat×Nat)} {i j:Nat},PreL σ pre l0 l→renI l i=some j→σ j=renR l0 (pre i)
 | [],i,j,_,h=>by simp[renI] at h
 | (a,b)::l,i,j,hp,h=>by
  simp only[renI] at h
  cases hb:Nat.beq a i with
  | true=>rw[hb] at h;simp at h;subst h;have:=Nat.eq_of_beq_eq_true hb;subst this;exact hp.1
  | false=>rw[hb] at h;simp at h;exact hp.2.get h
theorem z9i:∀ {l:List (Nat×Nat)} {i j:Nat},renI l i=some j→(i,j)∈l
 | [],i,j,h=>by simp[renI] at h
 | (a,b)::l,i,j,h=>by
  simp only[renI] at h
  cases hb:Nat.beq a i with
  | true=>rw[hb] at h;simp at h;subst h;have:=Nat.eq_of_beq_eq_true hb;subst this;simp
  | false=>rw[hb] at h;simp at h;exact List.mem_cons_of_mem _ (z9i h)
theorem j5x {h:Nat→Root}:∀ (l:List (Nat×Nat)) (σ:Nat→Root) (j:Nat),(l.map (·.2)).Nodup→owr σ (l.map fun p=>(p.2,h p.1)) j=match invI l j with|some i=>h i|none=>σ j
 | [],σ,j,_=>rfl
 | (a,b)::l,σ,j,hn=>by
  simp only[List.map_cons,List.nodup_cons] at hn
  rw[List.map_cons,owr,j5x l _ j hn.2]
  simp only[invI]
  cases hb:Nat.beq b j with
  | true=>
   have:=Nat.eq_of_beq_eq_true hb
   subst this
   have hi:invI l b=none:=by
    cases hi:invI l b with
    | none=>rfl
    | some i=>
     exfalso
     apply hn.1
     clear hn hb
     induction l with
     | nil=>simp[invI] at hi
     | cons p l ih=>
      simp only[invI] at hi
      cases hb:Nat.beq p.2 b with
      | true=>have:=Nat.eq_of_beq_eq_true hb;simp[this]
      | false=>rw[hb] at hi;simp at hi;have:=ih hi;simp;right;simpa using this
   rw[hi]
   simp
  | false=>
   have hne:j≠b:=fun e=>by subst e;simp at hb
   simp only[cond_false]
   cases invI l j with
   | some i=>rfl
   | none=>simp[hne]
theorem j1E {S1 S2:Md→Nat→Prop}{w:World}{m:Md}{xs:List D}{v:Value}{k:Nat}{L:List Nat}{gs:List (List GC)}(h:rowOk S1 w (xs.map (elOf m)) v k L gs)(hm:∀ b,S1 m b→S2 m b):rowOk S2 w (xs.map (elOf m)) v k L gs:=by
 have cells:∀ (ds:List D) (ge:List GC),all2 (cellOk S1 w) (ds.map (Cell.d m)) ge→all2 (cellOk S2 w) (ds.map (Cell.d m)) ge:=by
  intro ds
  induction ds with
  | nil=>exact fun _ h=>h
  | cons d ds ih=>exact fun ge ⟨gc,r,h1,h2,h3⟩=>⟨gc,r,h1,⟨h2.1,h2.2.1,h2.2.2.mono hm⟩,ih r h3⟩
 refine⟨h.1,?_⟩
 have:=h.2
 clear h
 induction xs generalizing gs with
 | nil=>exact this
 | cons x xs ih=>
  obtain⟨ge,r,h1,h2,h3⟩:=this
  exact⟨ge,r,h1,⟨h2.1,cells _ _ h2.2⟩,ih h3⟩
theorem z4b {S1 S2:Md→Nat→Prop}{w:World}{es:List (List Cell)}{v:Value}{k:Nat}{L:List Nat}{gs:List (List GC)}(h:rowOk S1 w es v k L gs)(hm:∀ m b,S1 m b→S2 m b):rowOk S2 w es v k L gs:=
 h.keep (fun m b o cs hb hl ha=>⟨hm m b hb,hl,ha⟩) fun _ _=>rfl
section
variable {P:Program}{S:Start}{n:Nat}{ρ:AE}{σ:St}{o:Oper}
theorem q0S {f:Nat}{c:Call}{x:Operand}{caps axs args:List X}{pre post:St}{res:X}(ren:List (Nat×Nat))(vw:List Nat)(ho:o.op=.call c)(hc:c.callee=.value x)(hx:evX ρ x=.fn f caps)(hcb:q8x P f=true)(ha:c.args.toList.map (evX ρ)++caps=axs)
  (ok:Ok P f args pre res post) (hp:PassL (fnOf σ) ren vw axs args) (hpre:PreL (fnOf σ) (fnOf pre) ren ren) (hchk:z9F ren vw pre post res=true) :
  LT P S o ρ σ vw (renX ren res) (ren.map fun p=>(p.2,z4P ren (fnOf post p.1))):=by
 intro σ1 F g w ρc hs hrd hwr hv
 simp only[z9F,Bool.and_eq_true] at hchk
 obtain⟨⟨⟨⟨⟨hn1,hn2⟩,hvd⟩,hck1⟩,hck2⟩,hck3⟩:=hchk
 have hn1:=q8D hn1
 have hn2:=q8D hn2
 have hσ:∀ i j,renI ren i=some j→σ1 j=renR ren (fnOf pre i):=fun i j hij=>by
  rw[hwr (j,z4P ren (fnOf post i)) (List.mem_map.2 ⟨(i,j),z9i hij,rfl⟩)]
  exact hpre.get hij
 let gc:Nat→G:=fun i=>match renI ren i with|some j=>g j|none=>.none
 let Bc:Nat→Prop:=fun b=>S.B b∨∃ r,vw.contains r=true∧b∈bl (g r)
 have hgc:∀ i j,renI ren i=some j→gc i=g j:=fun i j h=>by simp only[gc,h]
 have hgcn:∀ i,renI ren i=none→gc i=.none:=fun i h=>by simp only[gc,h]
 have inj:∀ i i' j,renI ren i=some j→renI ren i'=some j→i=i':=fun i i' j h h'=>Option.some.inj ((z5M hn2 h hn1).symm.trans (z5M hn2 h' hn1))
 have mem2:∀ i j,renI ren i=some j→j∈ren.map (·.2):=fun i j h=>List.mem_map.2 ⟨(i,j),z9i h,rfl⟩
 have vwne:∀ r i j,vw.contains r=true→renI ren i=some j→j≠r:=fun r i j hr hij e=>by
  have:=List.all_eq_true.1 hvd r (by simpa using hr)
  rw[← e] at this
  simp only[Bool.not_eq_true',List.contains_eq_mem,decide_eq_false_iff_not] at this
  exact this (mem2 i j hij)
 have blc:∀ i b,b∈bl (gc i)→∃ j,renI ren i=some j∧b∈bl (g j):=fun i b hb=>by
  cases hi:renI ren i with
  | none=>rw[hgcn i hi] at hb;cases hb
  | some j=>rw[hgc i j hi] at hb;exact⟨j,rfl,hb⟩
 have hBlt:∀ b,Bc b→b<w.heap.size∧¬ ∃ i,b∈bl (gc i):=fun b hb=>by
  rcases hb with hb|⟨r,hr,hb⟩
  ·refine⟨Nat.lt_of_lt_of_le (hs.bB b hb).1 hs.chg.size,fun ⟨i,hi⟩=>?_⟩
   obtain⟨j,_,hj⟩:=blc i b hi
   exact (hs.own j b hj).2.2.1 hb
  ·refine⟨(hs.own r b hb).1,fun ⟨i,hi⟩=>?_⟩
   obtain⟨j,hij,hj⟩:=blc i b hi
   exact hs.disj j r (vwne r i j hr hij) b hj hb
 have hsub:∀ m b,SM F S.B m b→SM F Bc m b:=fun m b hb=>by
  cases m with
  | fz=>exact hb
  | bo=>exact hb.imp id .inl
 have hstart:Sim (j3T w F Bc gc pre.length) F gc (fnOf pre) w:=by
  refine⟨Chg.refl w,hBlt,fun b hb=>hb,fun b hb=>.inl hb,hs.flt,fun i=>?_,fun i hi=>?_,fun i=>?_,fun i=>?_,fun i i' hne b hb hb'=>?_,fun i b hb=>?_⟩
  ·cases hi:renI ren i with
   | none=>
    rw[hgcn i hi]
    have hpi:fnOf pre i=.none:=by
     rcases z9h (i:=i) hck1 with h|h
     ·exact j3V h
     ·rw[Nat.zero_add,hi] at h
      simp at h
      exact j3V h
    rw[hpi];trivial
   | some j=>
    rw[hgc i j hi]
    have hr:=hs.roots j
    rw[hσ i j hi] at hr
    have hok:isNone (fnOf pre i)=true∨okR ren false (fnOf pre i)=true:=by
     rcases z9h (i:=i) hck1 with h|h
     ·exact .inl h
     ·simp only[Bool.or_eq_true,Bool.and_eq_true] at h
      exact h.imp id (·.2)
    revert hr hok
    cases fnOf pre i<;>intro hr hok<;>cases hg:g j<;>rw[hg] at hr<;>try exact hr.elim
    ·trivial
    ·trivial
    ·obtain⟨vs,h1,h2⟩:=hr
     refine⟨vs,h1,z6V (S2:=SM F S.B) (g2:=g) (z:=false) hgc hsub ?_ h2⟩
     rcases hok with hok|hok
     ·cases hok
     ·exact hok
    ·exact⟨hr.1,z4b hr.2 hsub⟩
    ·rename_i m k es hh v k' L gs
     refine⟨⟨hr.1.1,z4b hr.1.2 hsub⟩,?_,hr.2.2⟩
     rcases hok with hok|hok
     ·cases hok
     ·simp only[okR,Bool.and_eq_true] at hok
      exact j7S hr.2.1 hok.2 hgc
  ·show gc i=.none
   cases hi' : renI ren i with
   | none=>exact hgcn i hi'
   | some j=>
    rw[hgc i j hi']
    refine j5t hs ?_
    rw[hσ i j hi',j6U hi]
    rfl
  ·show j1x (gc i) (gc i)
   cases gc i with
   | none=>trivial
   | dead=>rfl
   | box b T=>exact .inl rfl
   | row v k L gs=>exact .inr ⟨L,gs,rfl⟩
  ·cases hi:renI ren i with
   | none=>rw[hgcn i hi];exact List.nodup_nil
   | some j=>rw[hgc i j hi];exact hs.nodup j
  ·obtain⟨j,hj,hbj⟩:=blc i b hb
   obtain⟨j',hj',hbj'⟩:=blc i' b hb'
   exact hs.disj j j' (fun e=>hne (inj i i' j hj (e▸hj'))) b hbj hbj'
  ·obtain⟨j,hj,hbj⟩:=blc i b hb
   refine⟨(hs.own j b hbj).1,(hs.own j b hbj).2.1,fun hB=>(hBlt b hB).2 ⟨i,hb⟩,.inl ⟨i,hb⟩⟩
 -- the arguments
 have hxv:=hv x (by simp[ho,Op.operands,Call.operands,hc])
 rw[hx,vr] at hxv
 obtain⟨cvs,hfn,hcaps⟩:=hxv
 have hargs:vrs (SM F S.B) w g axs (c.args.toList.map (E.ev ρc)++cvs):=by
  rw[← ha]
  refine vrs.append (z7M fun y hy=>hv y ?_) hcaps
  simp only[ho,Op.operands,Call.operands,hc]
  simp only[Array.mem_append]
  exact .inr (by simpa using hy)
 have hp1:PassL σ1 ren vw axs args:=z4a (rd:=vw) (fun r hr=>hrd r hr) (fun r hr=>by simpa using hr) hp
 have hvs:=z9g (Bc:=Bc) hs hgc (fun b hb=>.inl hb) (fun r b hr hb=>.inr ⟨r,hr,hb⟩) hp1 hargs
 have hret:=ok F Bc gc w _ hstart hvs
 have he:(execOp (E.ev ρc) o).run P w=.ok (.enter f (c.args.toList.map (E.ev ρc)++cvs).toArray) w:=by
  simp only[execOp,ho]
  exact j2t hc hfn hcb (by simp)
 rw[he]
 refine Calls.mono hret fun e w' ⟨v,hev,hchg,F',gc',hs',hres⟩=>⟨v,hev,?_⟩
 let g' : Nat→G:=fun j=>match invI ren j with|some i=>(match gc' i with|.none=>.dead|y=>y)|none=>g j
 have hg'1:∀ i j,renI ren i=some j→g' j=(match gc' i with|.none=>.dead|y=>y):=fun i j h=>by simp only[g',z5M hn2 h hn1]
 have hg'2:∀ j,invI ren j=none→g' j=g j:=fun j h=>by simp only[g',h]
 have hadv:∀ i j,renI ren i=some j→Adv (gc' i) (g' j):=fun i j h=>by
  rw[hg'1 i j h]
  cases gc' i<;>first|trivial|exact Adv.refl _
 have blg:∀ i j,renI ren i=some j→bl (g' j)=bl (gc' i):=fun i j h=>by
  rw[hg'1 i j h]
  cases gc' i<;>rfl
 have hz:(!vw.isEmpty)=false→∀ b,SM F' Bc .bo b→SM F' S.B .bo b:=fun hz b hb=>by
  have:vw=[]:=by simpa using hz
  subst this
  rcases hb with hb|hb|⟨r,hr,_⟩
  ·exact .inl hb
  ·exact .inr hb
  ·simp at hr
 have hck2' : ∀ i,isNone (fnOf post i)=true∨((renI ren i).isSome=true∧okR ren (!vw.isEmpty) (fnOf post i)=true):=fun i=>by
  rcases z9h (i:=i) hck2 with h|h
  ·exact .inl h
  ·simp only[Bool.or_eq_true,Bool.and_eq_true,Nat.zero_add] at h
   exact h.imp id fun h=>⟨h.1,h.2⟩
 obtain⟨h1,h2⟩:=hs.step (g':=g') (σ':=owr σ1 (ren.map fun p=>(p.2,z4P ren (fnOf post p.1)))) (F':=F') (w':=w') (fun j=>∃ i,renI ren i=some j) hchg
  (fun b hb _=>by
   obtain⟨i,hi⟩:=hb
   obtain⟨j,hj,hbj⟩:=blc i b hi
   exact⟨j,⟨i,hj⟩,hbj⟩)
  (fun j hj=>by
   have hinv:invI ren j=none:=by
    cases hi:invI ren j with
    | none=>rfl
    | some i=>exact absurd ⟨i,j2C hi hn1⟩ hj
   refine⟨hg'2 j hinv,?_⟩
   rw[j5x (h:=fun i=>z4P ren (fnOf post i)) ren σ1 j hn2,hinv])
  (fun j ⟨i,hij⟩=>by
   rw[← hgc i j hij,hg'1 i j hij]
   have hh:=hs'.hdr i
   have hroot:=hs'.roots i
   have hsim:=hck2' i
   simp only[j3T] at hh
   cases hg0:gc i with
   | none=>trivial
   | dead=>rw[hg0] at hh;rw[show gc' i=.dead from hh];rfl
   | box b T=>
    rw[hg0] at hh
    rcases hh with hh|hh<;>rw[hh]
    ·exact .inl rfl
    ·exact .inr rfl
   | row v0 k L gs=>
    rw[hg0] at hh
    rcases hh with hh|⟨L',gs',hh⟩<;>rw[hh]
    ·exact .inl rfl
    ·exact .inr ⟨L',gs',rfl⟩)
  (fun b hb=>hs'.fmono b hb)
  (fun b hb=>⟨hs'.flt b hb,by
   rcases hs'.fnew b hb with h|h|h
   ·exact .inl h
   ·obtain⟨i,hi⟩:=h
    obtain⟨j,hj,hbj⟩:=blc i b hi
    exact .inr (.inr ⟨j,⟨i,hj⟩,hbj⟩)
   ·exact .inr (.inl h)⟩)
  (fun _ _ j ⟨i,hij⟩=>by
   rw[j5x (h:=fun i=>z4P ren (fnOf post i)) ren σ1 j hn2,z5M hn2 hij hn1,hg'1 i j hij]
   have hroot:=hs'.roots i
   have hsim:=hck2' i
   simp only
   cases hpo:fnOf post i<;>rw[hpo] at hroot hsim<;>cases hgi:gc' i<;>rw[hgi] at hroot<;>try exact hroot.elim
   ·trivial
   ·trivial
   ·obtain⟨vs,k1,k2⟩:=hroot
    refine⟨vs,k1,j3U (S1:=SM F' Bc) (S2:=SM F' S.B) (g1:=gc') (z:=!vw.isEmpty) hadv (fun _ h=>h) hz ?_ k2⟩
    rcases hsim with hsim|hsim
    ·cases hsim
    ·exact hsim.2
   ·rename_i m k xs _ _ _ _
    refine⟨hroot.1,j1E (m:=m) (xs:=xs) hroot.2 fun b hb=>?_⟩
    cases m with
    | fz=>exact hb
    | bo=>
     rcases hsim with hsim|hsim
     ·cases hsim
     ·simp only[okR] at hsim
      exact hz (by
       cases hv0:(!vw.isEmpty) with
       | false=>rfl
       | true=>rw[hv0] at hsim;exact absurd hsim.2 (by simp[okR,isFz])) b hb
   ·rename_i m k es hh v k' L gs
    rcases hsim with hsim|hsim
    ·cases hsim
    ·simp only[okR,Bool.and_eq_true] at hsim
     obtain⟨_,hsim,hho⟩:=hsim
     refine⟨⟨hroot.1.1,?_⟩,k1B hroot.2.1 hho hadv,hroot.2.2⟩
     cases hv0:(!vw.isEmpty) with
     | false=>
      have h0:=hz hv0
      exact z4b hroot.1.2 fun m b hb=>by
       cases m with
       | fz=>exact hb
       | bo=>exact h0 b hb
     | true=>
      have hm:m=.fz:=by
       rw[hv0] at hsim
       cases m
       ·rfl
       ·simp[isFz] at hsim
      exact hroot.1.2.fz (hroot.2.2 hm) fun b hb=>hb)
  (fun j ⟨i,hij⟩=>by rw[blg i j hij];exact hs'.nodup i)
  (fun j j' ⟨i,hij⟩ ⟨i',hij'⟩ hne b hb=>by
   rw[blg i j hij] at hb
   rw[blg i' j' hij']
   exact hs'.disj i i' (fun e=>by subst e;rw[hij] at hij';exact hne (Option.some.inj hij')) b hb)
  (fun j b ⟨i,hij⟩ hb=>by
   rw[blg i j hij] at hb
   obtain⟨k1,k2,k3,k4⟩:=hs'.own i b hb
   refine⟨k1,k2,?_⟩
   rcases k4 with k4|k4
   ·obtain⟨i',hi'⟩:=k4
    obtain⟨j',hj',hbj⟩:=blc i' b hi'
    exact .inr ⟨j',⟨i',hj'⟩,hbj⟩
   ·exact .inl k4)
 exact⟨F',g',h1,h2,k4Y (S1:=SM F' Bc) (S2:=SM F' S.B) (g1:=gc') (z:=!vw.isEmpty) hadv (fun _ h=>h) hz hck3 hres⟩
end
def ofX:List (Nat×X)→AE
 | []=>fun _=>.u
 | (t,x)::l=>updX (ofX l) t x
mutual
inductive Wk:X→X→Prop
 | rfl {x:X}:Wk x x
 | u {x:X}:Wk .u x
 | nld {k k' : Nat} {m:Md}:Wk (.d m (.sl k [])) (.nl k')
 | nl {k k' : Nat}:Wk (.nl k) (.nl k')
 | bo {x:D}:Wk (.d .bo x) (.d .fz x)
 | md {m m' : Md} {x:D} (h:mle m m'=true):Wk (.d m' x) (.d m x)
 | ag {cs cs' : List X} (h:Wks cs cs'):Wk (.ag cs) (.ag cs')
 | tu {cs cs' : List X} (h:Wks cs cs'):Wk (.tu cs) (.tu cs')
inductive Wks:List X→List X→Prop
 | nil:Wks [] []
 | cons {x y:X} {xs ys:List X} (h:Wk x y) (h2:Wks xs ys):Wks (x::xs) (y::ys)
end
theorem Wk.of {x y:X}(h:x=y):Wk x y:=h ▸ .rfl
theorem Wk.vn {r lo n n' : Nat}{l:Option (Nat×Nat)}(h:n=n'):Wk (.vs r l lo n) (.vs r l lo n'):=h ▸ .rfl
def WkL (ρ:AE):List (Nat×X)→Prop
 | []=>True
 | (t,x)::l=>Wk x (ρ t)∧WkL ρ l
section
variable {S:Start}{F:Nat→Prop}{g:Nat→G}{w:World}{σ:St}{ρ:AE}
mutual
theorem Wk.vr {B:Nat→Prop}:∀ {x y:X},Wk x y→∀ {v:Value},vr (SM F B) w g y v→vr (SM F B) w g x v
 | _,_,.rfl,_,h=>h
 | _,_,.u,_,h=>by rw[Go.A.vr];trivial
 | _,_,.nld,v,h=>by
  have h:v=.slice none 0 0:=by rw[Go.A.vr] at h;exact h
  show rdC _ _ (.sl _ []) v
  rw[rdC]
  exact⟨none,0,[],h,Nat.le_refl _,Nat.zero_le _,by rw[rdE],.inl rfl⟩
 | _,_,.nl,v,h=>by
  have h:v=.slice none 0 0:=by rw[Go.A.vr] at h;exact h
  rw[Go.A.vr];exact h
 | _,_,.bo,v,h=>by rw[Go.A.vr] at h ⊢;exact h.mono fun b hb=>.inl hb
 | _,_,.md hm,v,h=>by rw[Go.A.vr] at h ⊢;exact h.mono (z8x hm)
 | _,_,.ag hs,v,h=>by rw[Go.A.vr] at h ⊢;obtain⟨vs,h3,h4⟩:=h;exact⟨vs,h3,Wks.vr hs h4⟩
 | _,_,.tu hs,v,h=>by rw[Go.A.vr] at h ⊢;obtain⟨vs,h3,h4⟩:=h;exact⟨vs,h3,Wks.vr hs h4⟩
theorem Wks.vr {B:Nat→Prop}:∀ {xs ys:List X},Wks xs ys→∀ {vs:List Value},vrs (SM F B) w g ys vs→vrs (SM F B) w g xs vs
 | _,_,.nil,_,h=>h
 | _,_,.cons h1 h2,vs,h=>by
  rw[vrs] at h ⊢
  obtain⟨v,r',h4,h5,h6⟩:=h
  exact⟨v,r',h4,Wk.vr h1 h5,Wks.vr h2 h6⟩
end
theorem VR.ofX {ρc:Env}(h:VR S F g w ρ ρc):∀ {L:List (Nat×X)},WkL ρ L→VR S F g w (ofX L) ρc
 | [],_=>fun t=>by simp only[Go.A.ofX];rw[Go.A.vr];trivial
 | (t,x)::L,hl=>fun s=>by
  simp only[Go.A.ofX,updX]
  cases hb:Nat.beq s t with
  | true=>have:=Nat.eq_of_beq_eq_true hb;subst this;exact hl.1.vr (h _)
  | false=>exact VR.ofX h hl.2 s
theorem q3D (L:List (Nat×X))(hL:WkL ρ L):GH S ρ σ (ofX L) σ:=fun F g w ρc hs hv=>⟨F,g,hs,hv.ofX hL⟩
theorem GH.refl:GH S ρ σ ρ σ:=fun F g w ρc hs hv=>⟨F,g,hs,hv⟩
theorem GH.trans {ρ1 ρ2:AE}{σ1 σ2:St}(h:GH S ρ σ ρ1 σ1)(k:GH S ρ1 σ1 ρ2 σ2):GH S ρ σ ρ2 σ2:=fun F g w ρc hs hv=>
 let ⟨F',g',h1,h2⟩:=h F g w ρc hs hv
 k F' g' w ρc h1 h2
end
def argX:List X→AE
 | [],_=>.u
 | x::_,0=>x
 | _::l,t+1=>argX l t
theorem j9i {S1:Md→Nat→Prop}{w:World}{g:Nat→G}:∀ {xs:List X} {vs:List Value} {t:Nat},vrs S1 w g xs vs→vr S1 w g (argX xs t) ((vs.toArray:Array Value).getD t undef)
 | [],vs,t,h=>by unfold argX;rw[vr];trivial
 | x::xs,vs,0,h=>by rw[vrs] at h;obtain⟨v,r,rfl,h1,h2⟩:=h;simpa[argX] using h1
 | x::xs,vs,t+1,h=>by
  rw[vrs] at h
  obtain⟨v,r,rfl,h1,h2⟩:=h
  have:=j9i (t:=t) h2
  simpa[argX] using this
def k1C (P:Program)(ρ:AE)(σ:St):ResultVar→Option X
 | .tmp t=>some (ρ t)
 | .cell a T=>match ρ a with
  | .pb r c=>match fnOf σ r with
   | .box cs=>match aggT P T,szT P T with
    | some true,some k=>if ((cs.drop c).take k).length=k then some (.ag ((cs.drop c).take k)) else none
    | some false,_=>cs[c]?
    | _,_=>none
   | _=>none
  | _=>none
theorem j6V {P:Program}{w:World}{f:ResultVar→Sem Value}:∀ (l:List ResultVar) (vs:List Value),all2 (fun r v=>(f r).run P w=.ok v w) l vs→(l.mapM f).run P w=.ok vs w
 | [],vs,h=>by rw[show vs=[] from h];simp
 | r::l,_,⟨v,vs,e,h1,h2⟩=>by
  subst e
  have ih:=j6V l vs h2
  simp[List.mapM_cons,h1,ih]
def resF (tmps:Array Value):ResultVar→Sem Value
 | .tmp t=>pure (tmps.getD t undef)
 | .cell a t=>do loadVar t (← asAddr (tmps.getD a undef))
def tupV:List Value→Value
 | [v]=>v
 | vs=>.tuple vs.toArray
def tupX:List X→X
 | [x]=>x
 | xs=>.tu xs
theorem j5y {P:Program}{w:World}{fn:Func}{tmps:Array Value}{l:List ResultVar}{vs:List Value}(hl:fn.results=l.toArray)(h:all2 (fun r v=>(resF tmps r).run P w=.ok v w) l vs) :
  (results fn tmps).run P w=.ok (tupV vs) w:=by
 have h1:=j6V l vs h
 have e:results fn tmps=(fn.results.mapM (resF tmps) >>= fun vs=>pure (if h:vs.size=1 then vs[0] else .tuple vs)):=by
  unfold results
  congr 1
 rw[e,hl]
 simp only[List.mapM_toArray,map_eq_pure_bind,Sem.run_bind,h1,Result.andThen_ok,Sem.run_pure]
 match vs with
 | []=>rfl
 | [v]=>rfl
 | a::b::l=>simp[tupV]
theorem k4Z {S1:Md→Nat→Prop}{w:World}{g:Nat→G}{xs:List X}{vs:List Value}(h:vrs S1 w g xs vs):vr S1 w g (tupX xs) (tupV vs):=by
 match xs,h with
 | [],h=>
  rw[vrs] at h;subst h
  show vr _ _ _ (.tu []) (.tuple _)
  rw[vr]
  exact⟨[],rfl,by rw[vrs]⟩
 | [x],h=>rw[vrs] at h;obtain⟨v,r,rfl,h1,h2⟩:=h;rw[vrs] at h2;subst h2;exact h1
 | x::y::xs,h=>
  have h0:=h
  rw[vrs] at h;obtain⟨v,r,rfl,h1,h2⟩:=h;rw[vrs] at h2;obtain⟨v2,r2,rfl,_,_⟩:=h2
  show vr _ _ _ (.tu _) (.tuple _)
  rw[vr]
  exact⟨_,rfl,h0⟩
def z9G (n:Nat):ResultVar→Bool
 | .tmp t=>Nat.blt t n
 | .cell a _=>Nat.blt a n
section
variable {P:Program}{S:Start}{F:Nat→Prop}{g:Nat→G}{w:World}{σ:St}{ρ:AE}
theorem j9j {n:Nat}{ρc:Env}(hs:Sim S F g (fnOf σ) w)(hv:VR S F g w ρ ρc){r:ResultVar}(ht:z9G n r=true){x:X}(h:k1C P ρ σ r=some x):∃ v,(∀ a:Act,Rel n ρc a→(resF a.tmps r).run P w=.ok v w)∧vr (SM F S.B) w g x v:=by
 cases r with
 | tmp t=>
  simp only[k1C] at h
  cases h
  simp only[z9G] at ht
  refine⟨ρc t,fun a ha=>?_,hv t⟩
  simp only[resF,Sem.run_pure]
  rw[ha.at_ t (by simpa using ht)]
 | cell t T=>
  simp only[k1C] at h
  simp only[z9G] at ht
  split at h
  ·rename_i r c hρ
   split at h
   ·rename_i cs hσ
    obtain⟨b,T',vs,hg,hb,hcs⟩:=z8v hs hσ
    have hp:=hv t
    rw[hρ,vr,hg] at hp
    split at h
    ·rename_i k hagg hk
     split at h
     ·rename_i hlen
      cases h
      have h2:=(hcs.drop c).take k
      refine⟨.agg ((vs.drop c).take k).toArray,fun a ha=>?_,by rw[vr];exact⟨_,rfl,h2⟩⟩
      have h0:a.tmps.getD t undef=.pointer (some ⟨b,c,none⟩):=(ha.at_ t (by simpa using ht)).trans hp
      have hl2:((vs.drop c).take k).length=k:=h2.len.trans hlen
      have g0:=Go.E.run_loadCellsFrom (P:=P) (w:=w) (b:=b) (off:=c) ((vs.drop c).take k) 0 #[] (hb.part c k)
      rw[hl2] at g0
      simp only[Array.getD_eq_getD_getElem?] at h0
      simp[resF,loadVar,loadCells,asAddr,h0,z1Z hagg,q6c hk,g0]
     ·cases h
    ·rename_i hagg
     obtain⟨v,hv1,hv2⟩:=hcs.get h
     refine⟨v,fun a ha=>?_,hv2⟩
     have h0:a.tmps.getD t undef=.pointer (some ⟨b,c,none⟩):=(ha.at_ t (by simpa using ht)).trans hp
     simp only[Array.getD_eq_getD_getElem?] at h0
     simp[resF,loadVar,asAddr,h0,z1Z hagg,load,Sem.run,hb.cell hv1]
    ·cases h
   ·cases h
  ·cases h
def j2D (P:Program)(ρ:AE)(σ:St):List ResultVar→Option (List X)
 | []=>some []
 | r::l=>match k1C P ρ σ r,j2D P ρ σ l with
  | some x,some xs=>some (x::xs)
  | _,_=>none
theorem j3W {n:Nat}{ρc:Env}(hs:Sim S F g (fnOf σ) w)(hv:VR S F g w ρ ρc):∀ {l:List ResultVar},l.all (z9G n)=true→∀ {xs:List X},j2D P ρ σ l=some xs→∃ vs,(∀ a:Act,Rel n ρc a→all2 (fun r v=>(resF a.tmps r).run P w=.ok v w) l vs)∧vrs (SM F S.B) w g xs vs
 | [],_,xs,h=>by simp only[j2D] at h;cases h;exact⟨[],fun _ _=>rfl,by rw[vrs]⟩
 | r::l,ht,xs,h=>by
  simp only[List.all_cons,Bool.and_eq_true] at ht
  simp only[j2D] at h
  split at h
  ·rename_i x xs' h1 h2
   cases h
   obtain⟨v,h3,h4⟩:=j9j hs hv ht.1 h1
   obtain⟨vs,h5,h6⟩:=j3W hs hv ht.2 h2
   exact⟨v::vs,fun a ha=>⟨v,vs,rfl,h3 a ha,h5 a ha⟩,by rw[vrs];exact⟨v,vs,rfl,h4,h6⟩⟩
  ·cases h
end
def endA (P:Program)(S:Start)(fn:Func)(res:X)(post:St):q4h:=fun e ρ σ=>(e=.normal∨e=.ret) ∧
 ∀ F g w ρc,Sim S F g (fnOf σ) w→VR S F g w ρ ρc→∃ v,(∀ a:Act,Rel fn.ntmps ρc a→(results fn a.tmps).run P w=.ok v w)∧∃ F' g',Sim S F' g' (fnOf post) w∧vr (SM F' S.B) w g' res v
theorem Ok.enter {P:Program}{f:Nat}{fn:Func}{c:Code}{args:List X}{pre:St}{res:X}{post:St}{n0:Nat}(hn:pre.length=n0)(hf:P.funcs[f]?=some fn)(hb:fn.body=some c)(hok:z0C fn.ntmps c=true)(hs:Nat.ble args.length fn.ntmps=true)
  (h:∀ S:Start,S.n0=n0→AW P S fn.ntmps c (endA P S fn res post) (argX args) pre):Ok P f args pre res post:=by
 intro F B g w vs hsim hvs
 have hlen:=hvs.len
 refine Go.E.enter (R:=fun v w'=>∃ F' g',Sim (j3T w F B g pre.length) F' g' (fnOf post) w'∧vr (SM F' B) w' g' res v) hf hb hok (by simpa[hlen] using hs) ?_
 refine (h (j3T w F B g pre.length) hn F g w _ hsim (fun t=>j9i hvs)).mono fun e ρc w' ⟨ρ,σ,F',g',h1,h2,he,h3⟩=>?_
 obtain⟨v,h4,F2,g2,h5,h6⟩:=h3 F' g' w' ρc h1 h2
 have h7:Chg (fun b=>∃ i,b∈bl (g i)) w w':=h5.chg
 rcases he with rfl|rfl<;>exact⟨v,h4,h7,F2,g2,h5,h6⟩
mutual
def frX (r:Nat)(m:Md)(k:Nat)(xs:List D):X→X
 | .ref q none=>bif Nat.beq q r then .d m (.sl k xs) else .ref q none
 | .vs q none lo n=>bif Nat.beq q r then .d m (.sl k ((xs.drop lo).take n)) else .vs q none lo n
 | .pe q none j c=>bif Nat.beq q r then .u else .pe q none j c
 | .ag cs=>.ag (frXs r m k xs cs)
 | .tu cs=>.tu (frXs r m k xs cs)
 | .fn f cs=>.fn f (frXs r m k xs cs)
 | .ref q (some l)=>.ref q (some l)
 | .vs q (some l) lo n=>.vs q (some l) lo n
 | .pe q (some l) j c=>.pe q (some l) j c
 | .d m x=>.d m x
 | .pb q c=>.pb q c
 | .pf m x=>.pf m x
 | .nl k=>.nl k
 | .u=>.u
def frXs (r:Nat)(m:Md)(k:Nat)(xs:List D):List X→List X
 | []=>[]
 | x::l=>frX r m k xs x::frXs r m k xs l
end
def frR (r:Nat)(m:Md)(k:Nat)(xs:List D):Root→Root
 | .box cs=>.box (frXs r m k xs cs)
 | x=>x
def frS (r:Nat)(m:Md)(k:Nat)(xs:List D):Nat→St→St
 | _,[]=>[]
 | i,x::l=>(bif Nat.beq i r then .dead else frR r m k xs x)::frS r m k xs (i+1) l
theorem j2E {r:Nat}{m:Md}{k:Nat}{xs:List D}:∀ {l:St} {i j:Nat},fnOf l j≠.none→fnOf (frS r m k xs i l) j=if i+j=r then .dead else frR r m k xs (fnOf l j)
 | [],i,j,h=>absurd (z1I j) h
 | x::l,i,0,h=>by
  simp only[frS,fnOf,Nat.add_zero]
  cases hb:Nat.beq i r with
  | true=>simp[Nat.eq_of_beq_eq_true hb]
  | false=>
   have:i≠r:=fun e=>by subst e;simp at hb
   simp[this]
 | x::l,i,j+1,h=>by
  simp only[frS,fnOf]
  rw[j2E (l:=l) (by simpa[fnOf] using h),show i+1+j=i+(j+1) by omega]
theorem z6W {r:Nat}{m:Md}{k:Nat}{xs:List D}:∀ {l:St} {i j:Nat},fnOf l j=.none→i+j≠r→fnOf (frS r m k xs i l) j=.none
 | [],i,j,h,_=>by rw[frS];exact z1I j
 | x::l,i,0,h,hne=>by
  simp only[fnOf] at h
  subst h
  have:Nat.beq i r=false:=by
   cases hb:Nat.beq i r with
   | false=>rfl
   | true=>exact absurd (Nat.eq_of_beq_eq_true hb) (by simpa using hne)
  simp only[frS,fnOf,this,frR,cond_false]
 | x::l,i,j+1,h,hne=>by
  simp only[frS,fnOf]
  exact z6W (l:=l) (by simpa[fnOf] using h) (by omega)
section
variable {S:Start}{F:Nat→Prop}{g:Nat→G}{w:World}{σ:St}{ρ:AE}
section
variable {B F' : Nat→Prop}{r:Nat}{m:Md}{k:Nat}{xs:List D}{v0:Value}{L:List Nat}{gs:List (List GC)}
mutual
theorem j9k (hg:g r=.row v0 k L gs)(hF:∀ b,F b→F' b)(hd:rdC (SM F' B m) w (.sl k xs) v0)(hpart:∀ lo n v,z9x v0 k lo n v→rdC (SM F' B m) w (.sl k ((xs.drop lo).take n)) v):∀ {x:X} {v:Value},vr (SM F B) w g x v→vr (SM F' B) w (fun i=>if i=r then .dead else g i) (frX r m k xs x) v
 | .ref q none,v,h=>by
  rw[frX]
  cases hb:Nat.beq q r with
  | true=>
   have:=Nat.eq_of_beq_eq_true hb
   subst this
   rw[vr,hg] at h
   rw[h _ _ rfl]
   show vr _ _ _ (.d m _) _
   rw[vr];exact hd
  | false=>
   have hne:q≠r:=fun e=>by subst e;simp at hb
   show vr _ _ _ (.ref q none) _
   rw[vr] at h ⊢
   simp only[ifN hne];exact h
 | .vs q none lo n,v,h=>by
  rw[frX]
  cases hb:Nat.beq q r with
  | true=>
   have:=Nat.eq_of_beq_eq_true hb
   subst this
   rw[vr,hg] at h
   show vr _ _ _ (.d m _) _
   rw[vr];exact hpart lo n v (h _ _ rfl)
  | false=>
   have hne:q≠r:=fun e=>by subst e;simp at hb
   show vr _ _ _ (.vs q none lo n) _
   rw[vr] at h ⊢
   simp only[ifN hne];exact h
 | .pe q none j c,v,h=>by
  rw[frX]
  cases hb:Nat.beq q r with
  | true=>show vr _ _ _ .u _;rw[vr];trivial
  | false=>
   have hne:q≠r:=fun e=>by subst e;simp at hb
   show vr _ _ _ (.pe q none j c) _
   rw[vr] at h ⊢
   simp only[ifN hne];exact h
 | .ag cs,v,h=>by rw[frX];rw[vr] at h ⊢;obtain⟨vs,h1,h2⟩:=h;exact⟨vs,h1,z9H hg hF hd hpart h2⟩
 | .tu cs,v,h=>by rw[frX];rw[vr] at h ⊢;obtain⟨vs,h1,h2⟩:=h;exact⟨vs,h1,z9H hg hF hd hpart h2⟩
 | .fn f cs,v,h=>by rw[frX];rw[vr] at h ⊢;obtain⟨vs,h1,h2⟩:=h;exact⟨vs,h1,z9H hg hF hd hpart h2⟩
 | .ref q (some l),v,h=>by
  rw[frX]
  rw[vr] at h ⊢
  by_cases hq:q=r
  ·simp only[ifP hq];trivial
  ·simp only[ifN hq];exact h
 | .vs q (some l) lo n,v,h=>by
  rw[frX]
  rw[vr] at h ⊢
  by_cases hq:q=r
  ·simp only[ifP hq];trivial
  ·simp only[ifN hq];exact h
 | .pe q (some l) j c,v,h=>by
  rw[frX]
  rw[vr] at h ⊢
  by_cases hq:q=r
  ·simp only[ifP hq];trivial
  ·simp only[ifN hq];exact h
 | .d m x,v,h=>by
  rw[frX]
  rw[vr] at h ⊢
  refine h.mono fun b hb=>?_
  cases m with
  | fz=>exact hF b hb
  | bo=>exact hb.imp (hF b) id
 | .pb q c,v,h=>by
  rw[frX]
  rw[vr] at h ⊢
  by_cases hq:q=r
  ·simp only[ifP hq]
  ·simp only[ifN hq];exact h
 | .pf m ds,v,h=>by
  rw[frX]
  rw[vr] at h ⊢
  obtain⟨b,o,cs,h1,h2,h3,h4,h5⟩:=h
  have up:∀ b,SM F B m b→SM F' B m b:=fun b hb=>by
   cases m with
   | fz=>exact hF b hb
   | bo=>exact hb.imp (hF b) id
  exact⟨b,o,cs,h1,up b h2,h3,h4,h5.mono up⟩
 | .nl k,v,h=>by rw[frX];rw[vr] at h ⊢;exact h
 | .u,v,h=>by rw[frX,vr];trivial
theorem z9H (hg:g r=.row v0 k L gs)(hF:∀ b,F b→F' b)(hd:rdC (SM F' B m) w (.sl k xs) v0)(hpart:∀ lo n v,z9x v0 k lo n v→rdC (SM F' B m) w (.sl k ((xs.drop lo).take n)) v):∀ {xs' : List X} {vs:List Value},vrs (SM F B) w g xs' vs→vrs (SM F' B) w (fun i=>if i=r then .dead else g i) (frXs r m k xs xs') vs
 | [],vs,h=>by rw[frXs];rw[vrs] at h ⊢;exact h
 | x::l,vs,h=>by
  rw[frXs]
  rw[vrs] at h ⊢
  obtain⟨v,r',h1,h2,h3⟩:=h
  exact⟨v,r',h1,j9k hg hF hd hpart h2,z9H hg hF hd hpart h3⟩
end
end
theorem q0w {r:Nat}{m:Md}{k:Nat}{xs:List D}(hd0:DataAt (fnOf σ) r m k xs [r]):GH S ρ σ (fun t=>frX r m k xs (ρ t)) (frS r m k xs 0 σ):=by
 intro F g w ρc hs hv
 obtain⟨v,L,gs,cs,hg,hown,hrd,hLb⟩:=j5v hs hd0
 have hr:fnOf σ r≠.none:=by cases hd0 with
  | row h _=>rw[h];intro h;cases h
  | deep h _ _ _=>rw[h];intro h;cases h
 let F' : Nat→Prop:=fun b=>F b∨b∈bl (g r)
 have hF:∀ b,F b→F' b:=fun b hb=>.inl hb
 have up:∀ m b,SM F S.B m b→SM F' S.B m b:=fun m b hb=>by
  cases m with
  | fz=>exact .inl hb
  | bo=>exact hb.imp .inl id
 have hL' : ∀ b∈bl (g r),SM F' S.B m b:=fun b hb=>by
  cases m with
  | fz=>exact .inr hb
  | bo=>exact .inl (.inr hb)
 have hrd' : rdE (SM F' S.B m) w k xs cs:=hrd.mono fun b hb=>by
  rcases hb with hb|⟨q,hq,hb⟩
  ·exact up m b hb
  ·rw[List.mem_singleton] at hq;subst hq;exact hL' b hb
 have hd:rdC (SM F' S.B m) w (.sl k xs) v:=j5w hown hrd' fun b hb=>hL' b (hLb b hb)
 have hpart:∀ lo n v',z9x v k lo n v'→rdC (SM F' S.B m) w (.sl k ((xs.drop lo).take n)) v':=fun lo n v' hp=>j6T hown hrd' (fun b hb=>hL' b (hLb b hb)) hp
 have hlt:∀ b,F' b→b<w.heap.size:=fun b hb=>hb.elim (hs.flt b) fun hb=>(hs.own r b hb).1
 refine⟨F',fun i=>if i=r then .dead else g i,⟨hs.chg,hs.bB,fun b hb=>.inl (hs.fmono b hb),fun b hb=>?_,hlt,fun i=>?_,hs.low,fun i=>?_,fun i=>?_,fun i j hij b hb=>?_,fun i b hb=>?_⟩,fun t=>j9k hg hF hd hpart (hv t)⟩
 ·rcases hb with hb|hb
  ·exact hs.fnew b hb
  ·exact .inr (hs.own r b hb).2.2.2
 ·by_cases hi:i=r
  ·subst hi
   rw[j2E hr]
   simp only[Nat.zero_add,if_true];trivial
  ·simp only[ifN hi]
   have h1:=hs.roots i
   by_cases hn:fnOf σ i=.none
   ·rw[z6W hn (by rw[Nat.zero_add];exact hi)]
    rw[hn] at h1
    exact (by revert h1;cases g i<;>intro h<;>first|exact h.elim|trivial)
   ·rw[j2E hn,Nat.zero_add,ifN hi]
    revert h1
    cases fnOf σ i<;>intro h1<;>cases hgi:g i<;>rw[hgi] at h1<;>try exact h1.elim
    ·trivial
    ·trivial
    ·obtain⟨vs,h2,h3⟩:=h1
     exact⟨vs,h2,z9H hg hF hd hpart h3⟩
    ·exact⟨h1.1,z4b h1.2 up⟩
    ·exact⟨⟨h1.1.1,z4b h1.1.2 up⟩,h1.2.1.adv fun q=>by
      by_cases hq:q=r
      ·subst hq
       simp only[if_true]
       rw[hg];exact .inl rfl
      ·simp only[ifN hq];exact Adv.refl _,h1.2.2⟩
 ·by_cases hi:i=r
  ·subst hi
   simp only[if_true]
   have:=hs.hdr i
   rw[hg] at this
   revert this
   cases S.g0 i<;>intro h
   ·trivial
   ·cases h
   ·rcases h with h|h<;>cases h
   ·exact .inl rfl
  ·simp only[ifN hi];exact hs.hdr i
 ·by_cases hi:i=r
  ·simp only[ifP hi,bl];exact List.nodup_nil
  ·simp only[ifN hi];exact hs.nodup i
 ·by_cases hi:i=r
  ·simp only[ifP hi,bl] at hb;cases hb
  ·simp only[ifN hi] at hb
   by_cases hj:j=r
   ·simp only[ifP hj,bl];exact List.not_mem_nil
   ·simp only[ifN hj];exact hs.disj i j hij b hb
 ·by_cases hi:i=r
  ·simp only[ifP hi,bl] at hb;cases hb
  ·simp only[ifN hi] at hb
   obtain⟨h1,h2,h3,h4⟩:=hs.own i b hb
   refine⟨h1,fun hf=>?_,h3,h4⟩
   rcases hf with hf|hf
   ·exact h2 hf
   ·exact hs.disj i r hi b hb hf
theorem q0r {r:Nat}{m:Md}{k:Nat}{xs:List D}(hr:fnOf σ r=.row m k xs):GH S ρ σ (fun t=>frX r m k xs (ρ t)) (frS r m k xs 0 σ):=q0w (.row hr rfl)
theorem Sim.nlRow (h:Sim S F g (fnOf σ) w){r:Nat}(hr:fnOf σ r=.none)(m:Md)(k:Nat):∃ g',Sim S F g' (fnOf (setL σ r (.row m k []))) w∧Pres S.B F g w F g' w∧vr (SM F S.B) w g' (.ref r none) (.slice none 0 0):=by
 obtain⟨h1,h2⟩:=h.new (r:=r) (x:=.row m k []) (y:=.row (.slice none 0 0) k [] []) hr (Ext.refl w) (fun _ _=>⟨rfl,⟨0,Own.nil w 0 0 k,rfl⟩,rfl⟩) (by simp[bl,gbl]) (by simp[bl,gbl])
 refine⟨_,?_,h2,?_⟩
 ·have:fnOf (setL σ r (.row m k []))=fun i=>if i=r then .row m k [] else fnOf σ i:=by
   funext j;exact q8f σ r _ j
  rw[this];exact h1
 ·rw[vr]
  simp only[if_true]
  intro u q hu
  simp only[G.at] at hu
  cases hu
  rfl
theorem q0Y {t r k' : Nat}(m:Md)(k:Nat)(ht:ρ t=.nl k')(hr:fnOf σ r=.none):GH S ρ σ (updX ρ t (.ref r none)) (setL σ r (.row m k [])):=by
 intro F g w ρc hs hv
 obtain⟨g',h1,h2,h3⟩:=hs.nlRow hr m k
 refine⟨F,g',h1,fun s=>?_⟩
 simp only[updX]
 cases hb:Nat.beq s t with
 | true=>
  have:=Nat.eq_of_beq_eq_true hb
  subst this
  have h4:=hv s
  have h4:ρc s=.slice none 0 0:=by rw[ht,vr] at h4;exact h4
  rw[h4];exact h3
 | false=>exact h2 _ _ (hv s)
theorem q0j {q c r k' : Nat}{cs:List X}(m:Md)(k:Nat)(hq:fnOf σ q=.box cs)(hc:cs[c]?=some (.nl k'))(hr:fnOf σ r=.none):GH S ρ σ ρ (setL (setL σ r (.row m k [])) q (.box (cs.set c (.ref r none)))):=by
 intro F g w ρc hs hv
 obtain⟨g',h1,h2,h3⟩:=hs.nlRow hr m k
 have hne:q≠r:=fun e=>by rw[e,hr] at hq;cases hq
 refine⟨F,g',⟨h1.chg,h1.bB,h1.fmono,h1.fnew,h1.flt,fun i=>?_,h1.low,h1.hdr,h1.nodup,h1.disj,h1.own⟩,fun s=>h2 _ _ (hv s)⟩
 rw[q8f]
 by_cases hi:i=q
 ·subst hi
  rw[ifP rfl]
  have h4:=h1.roots i
  rw[q8f,ifN hne,hq] at h4
  cases hgi:g' i<;>rw[hgi] at h4<;>try exact h4.elim
  obtain⟨vs,h5,h6⟩:=h4
  refine⟨vs,h5,?_⟩
  obtain⟨v,h7,h8⟩:=h6.get hc
  have h8:v=.slice none 0 0:=by rw[vr] at h8;exact h8
  have:=h6.set (c:=c) (x:=.ref r none) (v:=v) (by rw[h8];exact h3)
  rwa[show vs.set c v=vs from List.ext_getElem? fun j=>by
   rw[List.getElem?_set]
   by_cases hj:c=j
   ·subst hj
    have hlt:=(List.getElem?_eq_some_iff.1 h7).1
    rw[ifP rfl,ifP hlt,h7]
   ·simp[hj]] at this
 ·rw[ifN hi];exact h1.roots i
end
theorem q7g (ge:List GC)(gs:List (List GC)):q5A (ge::gs)=ge.map (·.val)++q5A gs:=by simp[q5A]
theorem z1d (ge:List GC)(gs:List (List GC)):gbl (ge::gs)=ge.flatMap (·.L)++gbl gs:=by simp[gbl]
theorem j3X (a b:List (List GC)):q5A (a++b)=q5A a++q5A b:=by simp[q5A]
theorem j1F (a b:List (List GC)):gbl (a++b)=gbl a++gbl b:=by simp[gbl]
theorem j2F {k:Nat}:∀ {gs:List (List GC)} {j:Nat} {ge:List GC},(∀ g∈gs,g.length=k)→gs[j]?=some ge→∀ {c n:Nat},c+n≤k →
  ∃ (VA VM VD:List Value) (LA LM LD:List Nat),q5A gs=VA++VM++VD∧VA.length=j*k+c∧VM.length=n∧gbl gs=LA++LM++LD ∧
   ∀ news:List GC,q5A (gs.set j (ge.take c++news++ge.drop (c+n)))=VA++news.map (·.val)++VD∧gbl (gs.set j (ge.take c++news++ge.drop (c+n)))=LA++news.flatMap (·.L)++LD
 | [],j,ge,_,h,_,_,_=>by simp at h
 | g0::gs,0,ge,hk,h,c,n,hc=>by
  simp at h
  subst h
  have h0:g0.length=k:=hk g0 (by simp)
  have e:g0=g0.take c++(g0.drop c).take n++g0.drop (c+n):=by
   rw[List.append_assoc,← List.drop_drop,List.take_append_drop,List.take_append_drop]
  refine⟨(g0.take c).map (·.val),((g0.drop c).take n).map (·.val),(g0.drop (c+n)).map (·.val)++q5A gs,(g0.take c).flatMap (·.L),((g0.drop c).take n).flatMap (·.L),(g0.drop (c+n)).flatMap (·.L)++gbl gs,?_,?_,?_,?_,fun news=>⟨?_,?_⟩⟩
  ·conv=>lhs;rw[q7g,e]
   simp
  ·simp;omega
  ·simp;omega
  ·conv=>lhs;rw[z1d,e]
   simp
  ·rw[List.set_cons_zero,q7g];simp
  ·rw[List.set_cons_zero,z1d];simp
 | g0::gs,j+1,ge,hk,h,c,n,hc=>by
  obtain⟨VA,VM,VD,LA,LM,LD,h1,h2,h3,h4,h5⟩:=j2F (gs:=gs) (j:=j) (fun g hg=>hk g (by simp[hg])) (by simpa using h) hc
  have h0:g0.length=k:=hk g0 (by simp)
  refine⟨g0.map (·.val)++VA,VM,VD,g0.flatMap (·.L)++LA,LM,LD,?_,?_,h3,?_,fun news=>⟨?_,?_⟩⟩
  ·rw[q7g,h1];simp
  ·rw[List.length_append,lnM,h0,h2,Nat.add_mul];omega
  ·rw[z1d,h4];simp
  ·rw[List.set_cons_succ,q7g,(h5 news).1];simp
  ·rw[List.set_cons_succ,z1d,(h5 news).2];simp
theorem j7U {VA VM VD l:List Value}{off:Nat}(h:VA.length=off)(hl:VM.length=l.length):q5l (VA++VM++VD) off l=VA++l++VD:=by
 unfold q5l
 subst h
 rw[List.append_assoc VA VM VD,List.take_left,← hl]
 congr 1
 rw[List.drop_append,List.drop_of_length_le (Nat.le_add_right _ _),List.nil_append,Nat.add_sub_cancel_left,List.drop_left]
theorem j5z {X l:List Value}{N off:Nat}(h1:off+l.length≤N)(h2:N≤X.length):(q5l X off l).take N=q5l (X.take N) off l:=by
 unfold q5l
 obtain⟨Y,Z,rfl,hY⟩:∃ Y Z,X=Y++Z∧Y.length=N:=⟨X.take N,X.drop N,(List.take_append_drop _ _).symm,by simp;omega⟩
 subst hY
 have e1:(Y++Z).take off=Y.take off:=List.take_append_of_le_length (by omega)
 have e2:(Y++Z).drop (off+l.length)=Y.drop (off+l.length)++Z:=List.drop_append_of_le_length (by omega)
 rw[List.take_left,e1,e2,← List.append_assoc]
 exact List.take_left' (by simp only[List.length_append,List.length_take,List.length_drop];omega)
theorem OwnR.store {P:Program}{w:World}{k:Nat}{v:Value}{n:Nat}{L:List Nat}{cs:List Value}(h:OwnR w k v n L cs){T kk j c:Nat}{u:Value}{l:List Value}(hk:szT P T=some kk)(hu:u.cells.toList=l)(hl:l.length=kk)(h1:∀ x∈l,x.oneCell'=true)(hj:j<n)(hc:c+kk≤k) :
  ∃ b cp,v=.slice (some ⟨b,0,none⟩) n cp∧b∈L∧∃ w',(storeVar T ⟨b,j*k+c,none⟩ u).run P w=.ok () w'∧Chg (· = b) w w'∧OwnR w' k v n L (q5l cs (j*k+c) l):=by
 obtain⟨e,⟨hlen,h⟩,hL⟩:=h
 rcases h with ⟨_,h⟩|⟨b,cap,cur,rfl,h0,h2,h3,h4,h5,h6⟩
 ·omega
 ·have hjn:(j+1)*k≤n*k:=Nat.mul_le_mul_right k hj
  have hnc:n*k≤cap*k:=Nat.mul_le_mul_right k h3
  rw[Nat.add_mul] at hjn
  have hfit:j*k+c+kk≤cur.toList.length:=by simp only[Array.length_toList];omega
  obtain⟨w',hr,hch,hb'⟩:=z8s (P:=P) (w:=w) (v:=u) (l:=l) (off:=j*k+c) hk (by rw[← hu]) hl h1 h2 hfit
  refine⟨b,cap,rfl,by rw[hL];simp[Value.ownBlock],w',hr,hch,e,⟨?_,.inr ⟨b,cap,(q5l cur.toList (j*k+c) l).toArray,rfl,h0,hb',h3,h4,?_,?_⟩⟩,hL⟩
  ·unfold q5l;simp only[List.length_append,List.length_take,List.length_drop,hl];omega
  ·unfold q5l;simp only[List.size_toArray,List.length_append,List.length_take,List.length_drop,hl,Array.length_toList]
   simp only[Array.length_toList] at hfit
   omega
  ·have h6' : cur.toList.take (n*k)=cs:=by simpa using h6
   simp only[List.toList_toArray]
   rw[← h6']
   exact j5z (by omega) (by simp only[Array.length_toList];omega)
def z7N:D→Cell
 | .sl k ys=>.w k ys
 | x=>.d .fz x
def j3Y (x:D):List Cell:=x.cells.map z7N
def j5A:D→Bool
 | .sl _ _=>false
 | .a _=>false
 | _=>true
def z8R (x:D):Bool:=x.cells.all j5A
theorem j3Z:∀ {d:D},j5A d=true→z7N d=.d .fz d
 | .i _ _,_=>rfl
 | .b _,_=>rfl
 | .s _,_=>rfl
 | .a _,h=>by cases h
 | .sl _ _,h=>by cases h
theorem j7V {x:D}(h:z8R x=true):j3Y x=elOf .fz x:=
 List.map_congr_left fun d hd=>j3Z (List.all_eq_true.1 h d hd)
theorem j5B {xs:List D}(h:∀ x∈xs,z8R x=true):xs.map j3Y=xs.map (elOf .fz):=List.map_congr_left fun x hx=>j7V (h x hx)
inductive MC:Root→Cell→Prop
 | row {m:Md} {k:Nat} {xs:List D}:MC (.row m k xs) (.o m k xs)
 | own {m:Md} {k:Nat} {xs:List D}:MC (.deep m k (xs.map j3Y) []) (.w k xs)
 | flat {m:Md} {k:Nat} {xs:List D} (h:∀ x∈xs,z8R x=true):MC (.row m k xs) (.w k xs)
inductive OC:Cell→Root→Prop
 | row {m:Md} {k:Nat} {xs:List D}:OC (.o m k xs) (.row m k xs)
 | own {k:Nat} {xs:List D}:OC (.w k xs) (.deep .fz k (xs.map j3Y) [])
 | flat {k:Nat} {xs:List D} (h:∀ x∈xs,z8R x=true):OC (.w k xs) (.row .fz k xs)
section
variable {w:World}{S1:Md→Nat→Prop}{g:Nat→G}
theorem j9l:∀ {ds:List D} {ge:List GC},all2 (cellOk S1 w) (ds.map z7N) ge→(∀ d∈ds,∀ cs,d≠.a cs)→owCs w ds (ge.map (·.val)) (ge.flatMap (·.L))
 | [],_,h,_=>by rw[show _=[] from h];simp[owCs]
 | d::ds,_,⟨gc,r,h1,h2,h3⟩,hn=>by
  subst h1
  rw[List.map_cons,List.flatMap_cons,owCs]
  refine⟨_,_,_,_,rfl,rfl,?_,j9l h3 fun d hd=>hn d (by simp[hd])⟩
  cases d with
  | a cs=>exact absurd rfl (hn (.a cs) (by simp) cs)
  | sl k ys=>exact h2.2.2
  | i k n=>have h4:=h2.2.2;rw[rdC] at h4;exact⟨h4,h2.2.1⟩
  | b x=>have h4:=h2.2.2;rw[rdC] at h4;exact⟨h4,h2.2.1⟩
  | s t=>have h4:=h2.2.2;rw[rdC] at h4;exact⟨h4,h2.2.1⟩
theorem j4a {ds:List D}{ge:List GC}{f:D→Cell}(hf:∀ cs,f (.a cs)=.d .fz (.a cs)):∀ (ds:List D) {ge:List GC},all2 (cellOk S1 w) (ds.map f) ge→∀ d∈ds,∀ cs,d≠.a cs
 | [],_,_,d,hd,_=>by cases hd
 | d0::ds,_,⟨gc,r,h1,h2,h3⟩,d,hd,cs=>by
  rcases List.mem_cons.1 hd with rfl|hd
  ·intro e
   subst e
   rw[hf] at h2
   have:=h2.2.2
   rw[rdC] at this
   exact this
  ·exact j4a (ds:=ds) (ge:=r) hf ds h3 d hd cs
theorem k2Z {k:Nat}:∀ {xs:List D} {gs:List (List GC)},all2 (elOk S1 w k) (xs.map j3Y) gs→owE w k xs (q5A gs) (gbl gs)
 | [],_,h=>by rw[show _=[] from h];simp[owE,q5A,gbl]
 | x::xs,_,⟨ge,r,h1,h2,h3⟩=>by
  subst h1
  rw[q7g,z1d]
  refine j2x.2 ⟨_,_,_,_,rfl,rfl,?_,j9l h2.2 (j4a (f:=z7N) (ds:=x.cells) (ge:=ge) (fun _=>rfl) _ h2.2),k2Z h3⟩
  rw[lnM,h2.2.len];exact h2.1
theorem j9m:∀ {ds:List D} {vs:List Value} {L:List Nat},owCs w ds vs L→∃ ge:List GC,all2 (cellOk S1 w) (ds.map z7N) ge∧ge.map (·.val)=vs∧ge.flatMap (·.L)=L
 | [],vs,L,h=>by rw[owCs] at h;exact⟨[],rfl,h.1.symm,h.2.symm⟩
 | d::ds,vs,L,h=>by
  rw[owCs] at h
  obtain⟨v,r,L0,L1,rfl,rfl,h1,h2⟩:=h
  obtain⟨ge,h3,rfl,rfl⟩:=j9m h2
  have one:∃ gc,cellOk S1 w (z7N d) gc∧gc.val=v∧gc.L=L0:=by
   cases d with
   | a cs=>exact h1.elim
   | sl k ys=>exact⟨⟨v,true,k,L0⟩,⟨rfl,rfl,h1⟩,rfl,rfl⟩
   | i k n=>exact⟨⟨v,false,0,L0⟩,⟨rfl,h1.2,by rw[rdC];exact h1.1⟩,rfl,rfl⟩
   | b x=>exact⟨⟨v,false,0,L0⟩,⟨rfl,h1.2,by rw[rdC];exact h1.1⟩,rfl,rfl⟩
   | s t=>exact⟨⟨v,false,0,L0⟩,⟨rfl,h1.2,by rw[rdC];exact h1.1⟩,rfl,rfl⟩
  obtain⟨gc,h4,h5,h6⟩:=one
  exact⟨gc::ge,⟨_,_,rfl,h4,h3⟩,by simp[h5],by simp[h6]⟩
theorem j9n {k:Nat}:∀ {xs:List D} {vs:List Value} {L:List Nat},owE w k xs vs L→∃ gs,all2 (elOk S1 w k) (xs.map j3Y) gs∧q5A gs=vs∧gbl gs=L
 | [],vs,L,h=>by rw[owE] at h;exact⟨[],rfl,by rw[h.1];rfl,by rw[h.2];rfl⟩
 | x::xs,vs,L,h=>by
  obtain⟨c,r,L0,L1,rfl,rfl,h1,h2,h3⟩:=j2x.1 h
  obtain⟨gs,h4,rfl,rfl⟩:=j9n h3
  obtain⟨ge,h5,rfl,rfl⟩:=j9m (S1:=S1) h2
  refine⟨ge::gs,⟨_,_,rfl,⟨?_,h5⟩,h4⟩,by rw[q7g],by rw[z1d]⟩
  rw[show (j3Y x).length=ge.length by rw[h5.len];rfl,← h1,lnM]
theorem j4b:∀ {ds:List D} {vs:List Value} {S2:Nat→Prop},rdCs S2 w ds vs→ds.all j5A=true→owCs w ds vs []
 | [],vs,_,h,_=>by rw[rdCs] at h;rw[owCs];exact⟨h,rfl⟩
 | d::ds,vs,_,h,hf=>by
  simp only[List.all_cons,Bool.and_eq_true] at hf
  rw[rdCs] at h
  obtain⟨v,r,rfl,h1,h2⟩:=h
  rw[owCs]
  refine⟨v,r,[],[],rfl,rfl,?_,j4b h2 hf.2⟩
  cases d<;>first|(rw[rdC] at h1;exact⟨h1,rfl⟩)|cases hf.1
theorem j6W {k:Nat}:∀ {xs:List D} {vs:List Value} {S2:Nat→Prop},rdE S2 w k xs vs→(∀ x∈xs,z8R x=true)→owE w k xs vs []
 | [],vs,_,h,_=>by rw[rdE] at h;rw[owE];exact⟨h,rfl⟩
 | x::xs,vs,_,h,hf=>by
  obtain⟨c,r,rfl,hl,h3,h4⟩:=q6E.1 h
  exact j2x.2 ⟨c,r,[],[],rfl,rfl,hl,j4b h3 (hf x (by simp)),j6W h4 fun x hx=>hf x (by simp[hx])⟩
theorem MC.ok {x:Root}{c:Cell}(h:MC x c){v:Value}{k:Nat}{L:List Nat}{gs:List (List GC)}(hr:z0D S1 w g x (.row v k L gs)):cellOk S1 w c ⟨v,true,k,L++gbl gs⟩:=by
 cases h with
 | row=>
  obtain⟨rfl,hr⟩:=hr
  obtain⟨h1,h2,h3,_⟩:=q6P hr
  exact⟨rfl,rfl,_,by simp only[h3,List.append_nil];exact h1,h2⟩
 | own=>
  obtain⟨⟨rfl,hr⟩,_⟩:=hr
  refine⟨rfl,rfl,?_⟩
  show owC w (.sl _ _) _ _
  rw[owC]
  exact⟨L,_,_,by have:=hr.1;rwa[lnM] at this,k2Z hr.2,rfl⟩
 | flat hf=>
  obtain⟨rfl,hr⟩:=hr
  obtain⟨h1,h2,h3,_⟩:=q6P hr
  refine⟨rfl,rfl,?_⟩
  show owC w (.sl _ _) _ _
  rw[owC]
  exact⟨L,_,_,h1,j6W h2 hf,by simp[h3]⟩
theorem MC.isrow {x:Root}{c:Cell}(h:MC x c){y:G}(hr:z0D S1 w g x y):∃ v k L gs,y=.row v k L gs:=by
 cases h<;>cases y<;>first|exact hr.elim|exact⟨_,_,_,_,rfl⟩
theorem MC.one {x:Root}{c:Cell}(h:MC x c){v:Value}{k:Nat}{L:List Nat}{gs:List (List GC)}(hr:z0D S1 w g x (.row v k L gs)):v.oneCell'=true:=by
 cases h
 ·obtain⟨A,c,e,_⟩:=hr.2.1.form;rw[e];rfl
 ·obtain⟨A,c,e,_⟩:=hr.1.2.1.form;rw[e];rfl
 ·obtain⟨A,c,e,_⟩:=hr.2.1.form;rw[e];rfl
theorem OC.ok {x:Root}{c:Cell}(h:OC c x){gc:GC}(hc:cellOk S1 w c gc):∃ L gs,z0D S1 w g x (.row gc.val gc.k L gs)∧L++gbl gs=gc.L:=by
 cases h with
 | row=>
  obtain⟨h1,h2,cs,h3,h4⟩:=hc
  obtain⟨gs,h5,h6,h7⟩:=j5s h4
  refine⟨gc.L,gs,⟨h2,?_,?_⟩,by rw[h7,List.append_nil]⟩
  ·rw[h6,lnM,h2];exact h3
  ·rw[h2];exact h5
 | own=>
  obtain⟨h1,h2,h3⟩:=hc
  rw[owC] at h3
  obtain⟨L0,cs,L1,h4,h5,h6⟩:=h3
  obtain⟨gs,h7,rfl,rfl⟩:=j9n (S1:=S1) h5
  refine⟨L0,gs,⟨⟨h2,?_,?_⟩,holesOk.nil,fun _ e he c hc=>?_⟩,h6.symm⟩
  ·rw[lnM,h2];exact h4
  ·rw[h2];exact h7
  ·obtain⟨x,_,rfl⟩:=List.mem_map.1 he
   obtain⟨d,_,rfl⟩:=List.mem_map.1 hc
   cases d<;>rfl
 | flat hf=>
  obtain⟨h1,h2,h3⟩:=hc
  rw[owC] at h3
  obtain⟨L0,cs,L1,h4,h5,h6⟩:=h3
  obtain⟨gs,h7,rfl,rfl⟩:=j9n (S1:=S1) h5
  refine⟨L0,gs,⟨h2,?_,?_⟩,h6.symm⟩
  ·rw[lnM,h2];exact h4
  ·rw[h2,← j5B hf];exact h7
end
class OwD {α:Type} (f:α→D) (W:outParam (α→List Cell)):Prop where
 eq:∀ y,W y=j3Y (f y)
 rd:∀ y,DR (W y) (f y)
inductive NC (σ:Nat→Root) (m:Md):List X→List Cell→List Nat→Prop
 | nil:NC σ m [] [] []
 | d {m' : Md} {x:D} {xs:List X} {cs:List Cell} {qs:List Nat} (h:fzC (.d m' x)=true∨m=.bo) (h2:NC σ m xs cs qs):NC σ m (.d m' x::xs) (.d m' x::cs) qs
 | nl {k:Nat} {xs:List X} {cs:List Cell} {qs:List Nat} (h2:NC σ m xs cs qs):NC σ m (.nl k::xs) (.nl k::cs) qs
 | nld {k k' : Nat} {m' : Md} {xs:List X} {cs:List Cell} {qs:List Nat} (h2:NC σ m xs cs qs):NC σ m (.nl k::xs) (.d .fz (.sl k' [])::cs) qs
 | nlo {k k' : Nat} {m' : Md} {xs:List X} {cs:List Cell} {qs:List Nat} (h2:NC σ m xs cs qs):NC σ m (.nl k::xs) (.o .fz k' []::cs) qs
 | nlw {k k' : Nat} {m' : Md} {xs:List X} {cs:List Cell} {qs:List Nat} (h2:NC σ m xs cs qs):NC σ m (.nl k::xs) (.w k' []::cs) qs
 | ref {q:Nat} {c:Cell} {xs:List X} {cs:List Cell} {qs:List Nat} (h:MC (σ q) c) (hf:fzC c=true∨m=.bo) (h2:NC σ m xs cs qs):NC σ m (.ref q none::xs) (c::cs) (q::qs)
theorem OwnR.nil0 {w:World}{k:Nat}:OwnR w k (.slice none 0 0) 0 [] []:=⟨0,Own.nil w 0 0 k,rfl⟩
theorem NC.ok {S:Start}{F:Nat→Prop}{g:Nat→G}{w:World}{σ:Nat→Root}(hs:Sim S F g σ w){m:Md}:∀ {xs:List X} {cs:List Cell} {qs:List Nat} {vs:List Value},NC σ m xs cs qs→vrs (SM F S.B) w g xs vs→∃ news:List GC,all2 (cellOk (SM F S.B) w) cs news∧news.map (·.val)=vs∧news.flatMap (·.L)=qs.flatMap (fun q=>bl (g q))∧(∀ u∈vs,u.oneCell'=true)∧(m=.fz→∀ c∈cs,fzC c=true)
 | _,_,_,vs,.nil,h=>by rw[vrs] at h;subst h;exact⟨[],rfl,rfl,rfl,by simp,by simp⟩
 | _,_,_,vs,.d (m':=m') (x:=x) hm h2,h=>by
  rw[vrs] at h
  obtain⟨v,r,rfl,h3,h4⟩:=h
  obtain⟨news,h5,rfl,h7,h8,h9⟩:=NC.ok hs h2 h4
  rw[vr] at h3
  refine⟨⟨v,false,0,[]⟩::news,⟨_,_,rfl,⟨rfl,rfl,h3⟩,h5⟩,rfl,by simpa using h7,fun u hu=>?_,fun e c hc=>?_⟩
  ·rcases List.mem_cons.1 hu with rfl|hu
   ·exact h3.one
   ·exact h8 u hu
  ·rcases List.mem_cons.1 hc with rfl|hc
   ·rcases hm with hm|hm
    ·exact hm
    ·rw[e] at hm;cases hm
   ·exact h9 e c hc
 | _,_,_,vs,.nl h2,h=>by
  rw[vrs] at h
  obtain⟨v,r,rfl,h3,h4⟩:=h
  obtain⟨news,h5,rfl,h7,h8,h9⟩:=NC.ok hs h2 h4
  rw[vr] at h3
  refine⟨⟨v,false,0,[]⟩::news,⟨_,_,rfl,⟨rfl,rfl,h3⟩,h5⟩,rfl,by simpa using h7,fun u hu=>?_,fun e c hc=>?_⟩
  ·rcases List.mem_cons.1 hu with rfl|hu
   ·rw[h3];rfl
   ·exact h8 u hu
  ·rcases List.mem_cons.1 hc with rfl|hc
   ·rfl
   ·exact h9 e c hc
 | _,_,_,vs,.nld h2,h=>by
  rw[vrs] at h
  obtain⟨v,r,rfl,h3,h4⟩:=h
  obtain⟨news,h5,rfl,h7,h8,h9⟩:=NC.ok hs h2 h4
  rw[vr] at h3
  refine⟨⟨v,false,0,[]⟩::news,⟨_,_,rfl,⟨rfl,rfl,by show rdC _ _ (.sl _ []) _;rw[rdC];exact⟨none,0,[],h3,Nat.le_refl _,Nat.zero_le _,by rw[rdE],.inl rfl⟩⟩,h5⟩,rfl,by simpa using h7,fun u hu=>?_,fun e c hc=>?_⟩
  ·rcases List.mem_cons.1 hu with rfl|hu
   ·rw[h3];rfl
   ·exact h8 u hu
  ·rcases List.mem_cons.1 hc with rfl|hc
   ·rfl
   ·exact h9 e c hc
 | _,_,_,vs,.nlo h2,h=>by
  rw[vrs] at h
  obtain⟨v,r,rfl,h3,h4⟩:=h
  obtain⟨news,h5,rfl,h7,h8,h9⟩:=NC.ok hs h2 h4
  rw[vr] at h3
  refine⟨⟨v,true,_,[]⟩::news,⟨_,_,rfl,⟨rfl,rfl,[],by rw[h3];exact OwnR.nil0,by rw[rdE]⟩,h5⟩,rfl,by simpa using h7,fun u hu=>?_,fun e c hc=>?_⟩
  ·rcases List.mem_cons.1 hu with rfl|hu
   ·rw[h3];rfl
   ·exact h8 u hu
  ·rcases List.mem_cons.1 hc with rfl|hc
   ·rfl
   ·exact h9 e c hc
 | _,_,_,vs,.nlw h2,h=>by
  rw[vrs] at h
  obtain⟨v,r,rfl,h3,h4⟩:=h
  obtain⟨news,h5,rfl,h7,h8,h9⟩:=NC.ok hs h2 h4
  rw[vr] at h3
  refine⟨⟨v,true,_,[]⟩::news,⟨_,_,rfl,⟨rfl,rfl,by show owC _ (.sl _ []) _ _;rw[owC];exact⟨[],[],[],by rw[h3];exact OwnR.nil0,by rw[owE];exact⟨rfl,rfl⟩,rfl⟩⟩,h5⟩,rfl,by simpa using h7,fun u hu=>?_,fun e c hc=>?_⟩
  ·rcases List.mem_cons.1 hu with rfl|hu
   ·rw[h3];rfl
   ·exact h8 u hu
  ·rcases List.mem_cons.1 hc with rfl|hc
   ·rfl
   ·exact h9 e c hc
 | _,_,_,vs,.ref (q:=q) hc hf h2,h=>by
  rw[vrs] at h
  obtain⟨v,r,rfl,h3,h4⟩:=h
  obtain⟨news,h5,rfl,h7,h8,h9⟩:=NC.ok hs h2 h4
  rw[vr] at h3
  have hr:=hs.roots q
  obtain⟨v0,k0,L,gs,hg⟩:=hc.isrow hr
  rw[hg] at hr h3
  have h3:=h3 _ _ rfl
  subst h3
  have h10:=hc.ok hr
  have hone:v.oneCell'=true:=hc.one hr
  refine⟨⟨v,true,k0,L++gbl gs⟩::news,⟨_,_,rfl,h10,h5⟩,rfl,?_,fun u hu=>?_,fun e c hc'=>?_⟩
  ·simp only[List.flatMap_cons,h7,hg,bl]
  ·rcases List.mem_cons.1 hu with rfl|hu
   ·exact hone
   ·exact h8 u hu
  ·rcases List.mem_cons.1 hc' with rfl|hc'
   ·rcases hf with hf|hf
    ·exact hf
    ·rw[e] at hf;cases hf
   ·exact h9 e c hc'
theorem j6X:∀ (qs:List Nat) (σ:Nat→Root) (i:Nat),owr σ (qs.map fun q=>(q,.dead)) i=if i∈qs then .dead else σ i
 | [],σ,i=>by simp[owr]
 | q::qs,σ,i=>by
  rw[List.map_cons,owr,j6X qs]
  by_cases h:i∈qs
  ·simp[h]
  ·by_cases h2:i=q<;>simp[h,h2]
theorem z9I {r:Nat}{x:Root}{qs:List Nat}{σ:Nat→Root}(hr:r∉qs)(i:Nat):owr σ ((r,x)::qs.map fun q=>(q,.dead)) i=if i=r then x else if i∈qs then .dead else σ i:=by
 rw[owr,j6X]
 by_cases h:i=r
 ·subst h;simp[hr]
 ·simp[h]
theorem NC.congr {σ1 σ2:Nat→Root}{m:Md}:∀ {xs:List X} {cs:List Cell} {qs:List Nat},NC σ2 m xs cs qs→(∀ q∈qs,σ1 q=σ2 q)→NC σ1 m xs cs qs
 | _,_,_,.nil,_=>.nil
 | _,_,_,.d h h2,hc=>.d h (h2.congr hc)
 | _,_,_,.nl h2,hc=>.nl (h2.congr hc)
 | _,_,_,.nld (m':=m') h2,hc=>.nld (m':=m') (h2.congr hc)
 | _,_,_,.nlo (m':=m') h2,hc=>.nlo (m':=m') (h2.congr hc)
 | _,_,_,.nlw (m':=m') h2,hc=>.nlw (m':=m') (h2.congr hc)
 | _,_,_,.ref h hf h2,hc=>.ref (by rw[hc _ (by simp)];exact h) hf (h2.congr fun q hq=>hc q (by simp[hq]))
theorem NC.len {σ:Nat→Root}{m:Md}:∀ {xs:List X} {cs:List Cell} {qs:List Nat},NC σ m xs cs qs→cs.length=xs.length
 | _,_,_,.nil=>rfl
 | _,_,_,.d h h2=>by simp[h2.len]
 | _,_,_,.nl h2=>by simp[h2.len]
 | _,_,_,.nld (m':=m') h2=>by simp[h2.len]
 | _,_,_,.nlo (m':=m') h2=>by simp[h2.len]
 | _,_,_,.nlw (m':=m') h2=>by simp[h2.len]
 | _,_,_,.ref h hf h2=>by simp[h2.len]
theorem NC.roots {σ:Nat→Root}{m:Md}:∀ {xs:List X} {cs:List Cell} {qs:List Nat},NC σ m xs cs qs→∀ x∈xs,∀ i∈q8g x,i∈qs
 | _,_,_,.nil,x,hx=>by cases hx
 | _,_,_,.d h h2,x,hx=>by
  rcases List.mem_cons.1 hx with rfl|hx
  ·intro i hi;simp[q8g] at hi
  ·exact h2.roots x hx
 | _,_,_,.nl h2,x,hx=>by
  rcases List.mem_cons.1 hx with rfl|hx
  ·intro i hi;simp[q8g] at hi
  ·exact h2.roots x hx
 | _,_,_,.nld (m':=m') h2,x,hx=>by
  rcases List.mem_cons.1 hx with rfl|hx
  ·intro i hi;simp[q8g] at hi
  ·exact h2.roots x hx
 | _,_,_,.nlo (m':=m') h2,x,hx=>by
  rcases List.mem_cons.1 hx with rfl|hx
  ·intro i hi;simp[q8g] at hi
  ·exact h2.roots x hx
 | _,_,_,.nlw (m':=m') h2,x,hx=>by
  rcases List.mem_cons.1 hx with rfl|hx
  ·intro i hi;simp[q8g] at hi
  ·exact h2.roots x hx
 | _,_,_,.ref h hf h2,x,hx=>by
  rcases List.mem_cons.1 hx with rfl|hx
  ·intro i hi;simp[q8g] at hi;simp[hi]
  ·intro i hi;exact List.mem_cons_of_mem _ (h2.roots x hx i hi)
section
variable {P:Program}{S:Start}{F:Nat→Prop}{g:Nat→G}{w:World}{σ1:Nat→Root}
def mvG (g:Nat→G)(r:Nat)(y:G)(qs:List Nat):Nat→G:=fun i=>if i=r then y else if i∈qs then .dead else g i
theorem z9J {A M D N:List Nat}(h:(A++M++D).Nodup)(hn:N.Nodup)(hd:∀ b∈N,b∉A∧b∉D):(A++N++D).Nodup:=by
 rw[List.append_assoc,List.nodup_append] at h ⊢
 obtain⟨h1,h2,h3⟩:=h
 rw[List.nodup_append] at h2 ⊢
 obtain⟨h4,h5,h6⟩:=h2
 refine⟨h1,⟨hn,h5,fun a ha b hb e=>(hd a ha).2 (e▸hb)⟩,fun a ha b hb e=>?_⟩
 rcases List.mem_append.1 hb with hb|hb
 ·exact (hd b hb).1 (e▸ha)
 ·exact h3 a ha b (List.mem_append.2 (.inr hb)) e
theorem z6l (hs:Sim S F g σ1 w):∀ {qs:List Nat},qs.Nodup→(qs.flatMap fun q=>bl (g q)).Nodup
 | [],_=>List.nodup_nil
 | q::qs,h=>by
  rw[List.nodup_cons] at h
  rw[List.flatMap_cons,List.nodup_append]
  refine⟨hs.nodup q,z6l hs h.2,fun a ha b hb e=>?_⟩
  subst e
  obtain⟨q',hq',hb⟩:=List.mem_flatMap.1 hb
  exact hs.disj q q' (fun e=>h.1 (e▸hq')) a ha hb
theorem Sim.cells (hs:Sim S F g σ1 w){r:Nat}{v:Value}{k:Nat}{L:List Nat}{gs:List (List GC)}(hg:g r=.row v k L gs)(hgs:∀ ge∈gs,ge.length=k){n:Nat}(hown:OwnR w k v n L (q5A gs)){j c:Nat}{ge:List GC}(hj:gs[j]?=some ge)(hjn:j<n){news:List GC}(hc:c+news.length≤k){qs:List Nat}(hnd:(r::qs).Nodup)
  (hL:news.flatMap (·.L)=qs.flatMap fun q=>bl (g q)) (hq:∀ q∈qs,g q≠.none) {T:Nat} (hk:szT P T=some news.length) {u:Value} (hu:u.cells.toList=news.map (·.val)) (h1:∀ x∈news.map (·.val),x.oneCell'=true) {σ' : Nat→Root} (hσ:∀ i,i≠r→i∉qs→σ' i=σ1 i) (hσq:∀ q∈qs,σ' q=.dead) :
  ∃ b cp w',v=.slice (some ⟨b,0,none⟩) n cp∧(storeVar T ⟨b,j*k+c,none⟩ u).run P w=.ok () w' ∧
   (((∀ m b o cs,SM F S.B m b→b<w.heap.size→At w b o cs→SM F S.B m b∧b<w'.heap.size∧At w' b o cs)→(∀ x,x∈gbl gs∨x∈news.flatMap (·.L)→w'.heap[x]?=w.heap[x]?)→(∀ i,Adv (g i) (mvG g r (.row v k L (gs.set j (ge.take c++news++ge.drop (c+news.length)))) qs i))→OwnR w' k v n L (q5A (gs.set j (ge.take c++news++ge.drop (c+news.length)))) →
    z0D (SM F S.B) w' (mvG g r (.row v k L (gs.set j (ge.take c++news++ge.drop (c+news.length)))) qs) (σ' r) (.row v k L (gs.set j (ge.take c++news++ge.drop (c+news.length))))) →
   Sim S F (mvG g r (.row v k L (gs.set j (ge.take c++news++ge.drop (c+news.length)))) qs) σ' w'∧Pres S.B F g w F (mvG g r (.row v k L (gs.set j (ge.take c++news++ge.drop (c+news.length)))) qs) w'):=by
 rw[List.nodup_cons] at hnd
 obtain⟨VA,VM,VD,LA,LM,LD,e1,e2,e3,e4,e5⟩:=j2F hgs hj hc
 obtain⟨e6,e7⟩:=e5 news
 generalize hge' : gs.set j (ge.take c++news++ge.drop (c+news.length))=gs' at e6 e7 ⊢
 obtain⟨b,cp,hv,hbL,w',hrun,hchg,hown'⟩:=hown.store (P:=P) (j:=j) (c:=c) hk hu (by simp) h1 hjn hc
 have hgv:q5l (q5A gs) (j*k+c) (news.map (·.val))=q5A gs':=by rw[e1,e6];exact j7U e2 (by rw[e3];simp)
 rw[hgv] at hown'
 have hbl:bl (g r)=L++(LA++LM++LD):=by rw[hg,← e4];rfl
 have hnr:=hs.nodup r
 have hL2:∀ x,x∈news.flatMap (·.L)→∃ q∈qs,x∈bl (g q):=fun x hx=>by rw[hL] at hx;exact List.mem_flatMap.1 hx
 have hbr:b∈bl (g r):=by rw[hbl];simp[hbL]
 have notb:∀ x,x∈gbl gs∨x∈news.flatMap (·.L)→x≠b:=fun x hx e=>by
  subst e
  rcases hx with hx|hx
  ·rw[hg] at hnr
   exact (List.nodup_append.1 hnr).2.2 x hbL x hx rfl
  ·obtain⟨q,hq',hx⟩:=hL2 x hx
   exact hs.disj r q (fun e=>hnd.1 (e▸hq')) x hbr hx
 refine⟨b,cp,w',hv,hrun,fun hroot=>?_⟩
 have hlt:∀ x,x∈gbl gs∨x∈news.flatMap (·.L)→x<w.heap.size:=fun x hx=>by
  rcases hx with hx|hx
  ·exact (hs.own r x (by rw[hg];simp[bl,hx])).1
  ·obtain⟨q,_,hx⟩:=hL2 x hx
   exact (hs.own q x hx).1
 have gr:mvG g r (.row v k L gs') qs r=.row v k L gs':=by simp[mvG]
 have gq:∀ q∈qs,mvG g r (.row v k L gs') qs q=.dead:=fun q hq=>by
  have:q≠r:=fun e=>hnd.1 (e▸hq)
  simp[mvG,this,hq]
 have go:∀ i,i≠r→i∉qs→mvG g r (.row v k L gs') qs i=g i:=fun i h1 h2=>by simp[mvG,h1,h2]
 have hadv:∀ i,Adv (g i) (mvG g r (.row v k L gs') qs i):=fun i=>by
  by_cases hi:i=r
  ·subst hi;rw[gr,hg];exact .inr ⟨_,_,rfl⟩
  ·by_cases hi2:i∈qs
   ·rw[gq i hi2];exact Adv.dead (hq i hi2)
   ·rw[go i hi hi2];exact Adv.refl _
 have hblr:∀ x,x∈bl (.row v k L gs')→x∈bl (g r)∨∃ q∈qs,x∈bl (g q):=fun x hx=>by
  simp only[bl,e7,List.mem_append] at hx
  rw[hbl]
  simp only[List.mem_append]
  rcases hx with hx|(hx|hx)|hx
  ·exact .inl (.inl hx)
  ·exact .inl (.inr (.inl (.inl hx)))
  ·exact .inr (hL2 x hx)
  ·exact .inl (.inr (.inr hx))
 refine hs.step (fun i=>i=r∨i∈qs) hchg (fun i hi _=>⟨r,.inl rfl,by subst hi;exact hbr⟩) (fun i hi=>⟨go i (fun e=>hi (.inl e)) fun e=>hi (.inr e),hσ i (fun e=>hi (.inl e)) fun e=>hi (.inr e)⟩) (fun i _=>hadv i) (fun _ h=>h) (fun x hx=>⟨Nat.lt_of_lt_of_le (hs.flt x hx) hchg.size,.inl hx⟩)
  (fun hkeep hp i hi=>?_) (fun i hi=>?_) (fun i i' hi hi' hne x hx=>?_) (fun i x hi hx=>?_)
 ·rcases hi with rfl|hi
  ·rw[gr]
   exact hroot hkeep (fun x hx=>hchg.block x (hlt x hx) (notb x hx)) hadv hown'
  ·rw[gq i hi,hσq i hi];trivial
 ·rcases hi with rfl|hi
  ·rw[gr]
   simp only[bl,e7]
   have:(L++LA++LM++LD).Nodup:=by rw[hbl] at hnr;simpa using hnr
   have h2:=z9J (N:=news.flatMap (·.L)) this (by rw[hL];exact z6l hs hnd.2) fun x hx=>by
    obtain⟨q,hq',hx⟩:=hL2 x hx
    have h3:=hs.disj q i (fun e=>hnd.1 (e▸hq')) x hx
    rw[hbl] at h3
    simp only[List.mem_append,not_or] at h3 ⊢
    exact⟨⟨h3.1,h3.2.1.1⟩,h3.2.2⟩
   simpa using h2
  ·rw[gq i hi];exact List.nodup_nil
 ·rcases hi with rfl|hi
  ·rcases hi' with rfl|hi'
   ·exact absurd rfl hne
   ·rw[gq i' hi'];exact List.not_mem_nil
  ·rw[gq i hi] at hx;cases hx
 ·rcases hi with rfl|hi
  ·rw[gr] at hx
   rcases hblr x hx with h|⟨q,hq',h⟩
   ·exact⟨Nat.lt_of_lt_of_le (hs.own i x h).1 hchg.size,(hs.own i x h).2.1,.inr ⟨i,.inl rfl,h⟩⟩
   ·exact⟨Nat.lt_of_lt_of_le (hs.own q x h).1 hchg.size,(hs.own q x h).2.1,.inr ⟨q,.inr hq',h⟩⟩
  ·rw[gq i hi] at hx;cases hx
end
theorem z1e {S1:Md→Nat→Prop}{w:World}{k:Nat}:∀ {es:List (List Cell)} {gs:List (List GC)},all2 (elOk S1 w k) es gs→∀ ge∈gs,ge.length=k
 | [],_,h,ge,hg=>by rw[show _=[] from h] at hg;cases hg
 | e::es,_,⟨g0,r,h1,h2,h3⟩,ge,hg=>by
  subst h1
  rcases List.mem_cons.1 hg with rfl|hg
  ·rw[h2.2.len];exact h2.1
  ·exact z1e h3 ge hg
def hsK (hs:List (Nat×Nat×Nat))(c n:Nat):List (Nat×Nat×Nat):=hs.filter fun p=>Nat.blt p.2.1 c||Nat.ble (c+n) p.2.1
theorem j2G {gs:List (List GC)}{j c:Nat}{ge news:List GC}(hj:gs[j]?=some ge)(hc:c+news.length≤ge.length){i d:Nat}(hd:d<c∨c+news.length≤d):(((gs.set j (ge.take c++news++ge.drop (c+news.length)))[i]?).bind (·[d]?))=(gs[i]?).bind (·[d]?):=by
 rw[List.getElem?_set]
 by_cases hi:j=i
 ·subst hi
  have hlt:=(List.getElem?_eq_some_iff.1 hj).1
  simp only[if_true,ifP hlt,hj,bsS]
  rcases hd with hd|hd
  ·rw[List.append_assoc,List.getElem?_append_left (by simp;omega),List.getElem?_take_of_lt hd]
  ·rw[List.getElem?_append_right (by simp;omega),List.getElem?_drop]
   congr 1
   simp only[List.length_append,List.length_take]
   omega
 ·simp[hi]
theorem j5C {es:List (List Cell)}{j c:Nat}{e cells:List Cell}(h:fzE es)(hj:es[j]?=some e)(hc:∀ x∈cells,fzC x=true):fzE (es.set j (spl e c cells)):=by
 intro e' he x hx
 rcases List.mem_or_eq_of_mem_set he with he|rfl
 ·exact h e' he x hx
 ·have hm:=h e (List.mem_of_getElem? hj)
  simp only[spl,List.mem_append] at hx
  rcases hx with (hx|hx)|hx
  ·exact hm x (List.mem_of_mem_take hx)
  ·exact hc x hx
  ·exact hm x (List.mem_of_mem_drop hx)
theorem cellOk.keepL {S1:Md→Nat→Prop}{w w' : World}(hk:∀ m b o cs,S1 m b→b<w.heap.size→At w b o cs→S1 m b∧b<w'.heap.size∧At w' b o cs):∀ {cs:List Cell} {ge:List GC},all2 (cellOk S1 w) cs ge→(∀ b∈ge.flatMap (·.L),w'.heap[b]?=w.heap[b]?)→all2 (cellOk S1 w') cs ge:=by
 intro cs ge h hL
 exact h.imp_mem fun c gc hgc hc=>hc.keep hk fun b hb=>hL b (List.mem_flatMap.2 ⟨gc,hgc,hb⟩)
theorem NC.alive {σ:Nat→Root}{m:Md}:∀ {xs:List X} {cs:List Cell} {qs:List Nat},NC σ m xs cs qs→∀ q∈qs,∃ c,MC (σ q) c
 | _,_,_,.nil,q,hq=>by cases hq
 | _,_,_,.d h h2,q,hq=>h2.alive q hq
 | _,_,_,.nl h2,q,hq=>h2.alive q hq
 | _,_,_,.nld (m':=m') h2,q,hq=>h2.alive q hq
 | _,_,_,.nlo (m':=m') h2,q,hq=>h2.alive q hq
 | _,_,_,.nlw (m':=m') h2,q,hq=>h2.alive q hq
 | _,_,_,.ref h hf h2,q,hq=>by
  rcases List.mem_cons.1 hq with rfl|hq
  ·exact⟨_,h⟩
  ·exact h2.alive q hq
theorem NC.some {S:Start}{F:Nat→Prop}{g:Nat→G}{w:World}{σ:Nat→Root}{m:Md}{xs:List X}{cs:List Cell}{qs:List Nat}(h:NC σ m xs cs qs)(hs:Sim S F g σ w)(q:Nat)(hq:q∈qs):g q≠.none:=by
 obtain⟨c,hc⟩:=h.alive q hq
 obtain⟨v,k,L,gs,e⟩:=hc.isrow (hs.roots q)
 rw[e];intro h;cases h
section
variable {P:Program}{S:Start}{n:Nat}{ρ:AE}{σ:St}{o:Oper}
theorem all2.spl {α β:Type}{R:α→β→Prop}{ls:List α}{bs:List β}(h:all2 R ls bs){c:Nat}{xs:List α}{ys:List β}(h2:all2 R xs ys):all2 R (Go.A.spl ls c xs) (bs.take c++ys++bs.drop (c+ys.length)):=by
 unfold Go.A.spl
 rw[← h2.len]
 exact ((h.take c).append h2).append (h.drop _)
theorem q3E {T kk:Nat}{x y:Operand}{Y:X}{r c j k:Nat}{m:Md}{es:List (List Cell)}{hh:List (Nat×Nat×Nat)}{e cells:List Cell}{qs:List Nat}(ho:o.op=.store T x y)(hk:szT P T=some kk)(hx:evX ρ x=.pe r none j c)(hσ:fnOf σ r=.deep m k es hh)(hj:es[j]?=some e)(hy:evX ρ y=Y)(hn:NC (fnOf σ) m Y.cells cells qs)
  (hl:Y.cells.length=kk) (hfit:Nat.ble (c+kk) k=true) (hnd:z4O (r::qs)=true) (hsure:z3Y (fnOf σ) Y=true) :
  LT P S o ρ σ [] .u ((r,.deep m k (es.set j (spl e c cells)) (hsK hh c kk))::qs.map fun q=>(q,.dead)):=by
 intro σ1 F g w ρc hs hrd hwr hv
 have hr1:σ1 r=.deep m k es hh:=(hwr (r,_) List.mem_cons_self).trans hσ
 have hq1:∀ q∈qs,σ1 q=fnOf σ q:=fun q hq=>hwr (q,.dead) (List.mem_cons_of_mem _ (List.mem_map.2 ⟨q,hq,rfl⟩))
 have hnd':=q8D hnd
 have hn1:=hn.congr hq1
 have hroot:=hs.roots r
 rw[hr1] at hroot
 cases hg:g r<;>rw[hg] at hroot<;>try exact hroot.elim
 rename_i v k0 L gs
 obtain⟨⟨hk0,hrow⟩,hho,hfz⟩:=hroot
 subst hk0
 have e1:=hv x (by simp[ho,Op.operands])
 have e2:=hv y (by simp[ho,Op.operands])
 rw[hy] at e2
 have hA:z3Y σ1 Y=true:=by
  cases Y with
  | ag cs=>rfl
  | _=>rw[z2d (σ2:=fnOf σ) fun i hi=>hq1 i (hn.roots _ (by simp[X.cells]) i hi)];exact hsure
 have hys:=z3Z hs hA e2
 obtain⟨news,h5,h6,h7,h8,h9⟩:=hn1.ok hs hys
 obtain⟨ge,hge,hel⟩:=hrow.2.get hj
 have hjn:j<es.length:=(List.getElem?_eq_some_iff.1 hj).1
 have hnl:news.length=kk:=by rw[h5.len,hn.len,hl]
 have hfit' : c+kk≤k0:=by simpa using hfit
 have hgl:ge.length=k0:=z1e hrow.2 ge (List.mem_of_getElem? hge)
 obtain⟨b,cp,w',hv',hrun,hsim⟩:=hs.cells (P:=P) (T:=T) (u:=E.ev ρc y) (news:=news) (qs:=qs) (c:=c) (j:=j) hg (z1e hrow.2) hrow.1 hge hjn (by rw[hnl];exact hfit') hnd' h7
  (fun q hq=>hn1.some hs q hq)
  (by rw[hnl];exact hk) h6.symm (by rw[h6];exact h8) (σ':=owr σ1 ((r,.deep m k0 (es.set j (spl e c cells)) (hsK hh c kk))::qs.map fun q=>(q,.dead)))
  (fun i hi1 hi2=>by rw[z9I (List.nodup_cons.1 hnd').1,ifN hi1,ifN hi2]) (fun q hq=>by rw[z9I (List.nodup_cons.1 hnd').1,ifN (fun (e:q=r)=>(List.nodup_cons.1 hnd').1 (e▸hq)),ifP hq])
 rw[hx,vr,hg] at e1
 obtain⟨b',n',cp',e3,e4,e5⟩:=e1 _ _ rfl
 rw[hv'] at e3
 cases e3
 have he:(execOp (E.ev ρc) o).run P w=.ok .skip w':=by
  simp only[execOp,ho,e5,Instr.storeAt,Instr.sureAddr,Sem.run_bind,Sem.run_pure,Result.andThen_ok,hrun]
 rw[he]
 obtain⟨h10,h11⟩:=hsim (fun hkeep hL hadv hown'=>by
  rw[z9I (List.nodup_cons.1 hnd').1,ifP rfl]
  have hLge:∀ (i:Nat) (ge' : List GC),gs[i]?=some ge'→∀ b∈ge'.flatMap (·.L),w'.heap[b]?=w.heap[b]?:=fun i ge' hi b hb=>hL b (.inl (List.mem_flatMap.2 ⟨ge',List.mem_of_getElem? hi,hb⟩))
  refine⟨⟨rfl,by rw[List.length_set];exact hown',?_⟩,fun p hp gc hgc=>?_,fun hm=>j5C (hfz hm) hj (h9 hm)⟩
  ·have hel' : elOk (SM F S.B) w' k0 (spl e c cells) (ge.take c++news++ge.drop (c+news.length)):=by
    refine⟨?_,(cellOk.keepL hkeep hel.2 (hLge j ge hge)).spl (cellOk.keepL hkeep h5 fun b hb=>hL b (.inr hb))⟩
    unfold spl
    simp only[List.length_append,List.length_take,List.length_drop,hn.len,hl,hel.1]
    omega
   refine all2.set ?_ hel'
   exact hrow.2.imp_mem fun e' ge' hm' he'=>⟨he'.1,cellOk.keepL hkeep he'.2 fun b hb=>hL b (.inl (List.mem_flatMap.2 ⟨ge',hm',hb⟩))⟩
  ·simp only[hsK,List.mem_filter,Bool.or_eq_true] at hp
   rw[j2G hge (by rw[hnl,hgl];exact hfit') (by rw[hnl];simpa using hp.2)] at hgc
   exact (hho p hp.1 gc hgc).adv (hadv _))
 exact⟨F,_,h10,fun x v hv=>h11 x v hv,by rw[vr];trivial⟩
theorem j1G {m:Md}:∀ {xs:List X} {ds:List D},asCs m xs=some ds→∀ x∈xs,q8g x=[]
 | [],ds,h,x,hx=>by cases hx
 | y::xs,ds,h,x,hx=>by
  simp only[asCs] at h
  split at h
  ·rename_i y' ys h1 h2
   rcases List.mem_cons.1 hx with rfl|hx
   ·cases x<;>first|rfl|cases h1
   ·exact j1G h2 x hx
  ·cases h
theorem q3F {T kk:Nat}{x y:Operand}{Y:X}{r c j k:Nat}{m:Md}{ds ys:List D}{d d' : D}(ho:o.op=.store T x y)(hk:szT P T=some kk)(hx:evX ρ x=.pe r none j c)(hσ:fnOf σ r=.row m k ds)(hj:ds[j]?=some d)(hy:evX ρ y=Y)(hY:asCs m Y.cells=some ys)(hd:d'.cells=spl d.cells c ys)
  (hl:Y.cells.length=kk) (hfit:Nat.ble (c+kk) k=true) (hsure:z3Y (fnOf σ) Y=true) :
  LT P S o ρ σ [] .u [(r,.row m k (ds.set j d'))]:=by
 intro σ1 F g w ρc hs hrd hwr hv
 have hr1:σ1 r=.row m k ds:=(hwr (r,_) List.mem_cons_self).trans hσ
 have hroot:=hs.roots r
 rw[hr1] at hroot
 cases hg:g r<;>rw[hg] at hroot<;>try exact hroot.elim
 rename_i v k0 L gs
 obtain⟨hk0,hrow⟩:=hroot
 subst hk0
 have e1:=hv x (by simp[ho,Op.operands])
 have e2:=hv y (by simp[ho,Op.operands])
 rw[hy] at e2
 have hA:z3Y σ1 Y=true:=by
  cases Y with
  | ag cs=>rfl
  | _=>rw[z2d (σ2:=fnOf σ) fun i hi=>by rw[j1G hY _ (by simp[X.cells])] at hi;cases hi];exact hsure
 have hys:=z9C hY (z3Z hs hA e2)
 obtain⟨news,h5,h6,h7⟩:=j2A (S1:=SM F S.B) hys
 have hyl:ys.length=kk:=by rw[← hys.len,← hl,(z3Z hs hA e2).len]
 have hnl:news.length=kk:=by rw[h5.len,lnM,hyl]
 obtain⟨ge,hge,hel⟩:=hrow.2.get (i:=j) (a:=elOf m d) (by simp[hj])
 have hjn:j<(ds.map (elOf m)).length:=by rw[lnM];exact (List.getElem?_eq_some_iff.1 hj).1
 have hfit' : c+kk≤k0:=by simpa using hfit
 obtain⟨b,cp,w',hv',hrun,hsim⟩:=hs.cells (P:=P) (T:=T) (u:=E.ev ρc y) (news:=news) (qs:=[]) (c:=c) (j:=j) hg (z1e hrow.2) hrow.1 hge hjn (by rw[hnl];exact hfit') (by simp) (by simp[h7])
  (fun q hq=>by cases hq) (by rw[hnl];exact hk) h6.symm (by rw[h6];exact hys.one) (σ':=owr σ1 [(r,.row m k0 (ds.set j d'))])
  (fun i hi1 hi2=>by rw[owr1];simp[hi1]) (fun q hq=>by cases hq)
 rw[hx,vr,hg] at e1
 obtain⟨b',n',cp',e3,e4,e5⟩:=e1 _ _ rfl
 rw[hv'] at e3
 cases e3
 have he:(execOp (E.ev ρc) o).run P w=.ok .skip w':=by
  simp only[execOp,ho,e5,Instr.storeAt,Instr.sureAddr,Sem.run_bind,Sem.run_pure,Result.andThen_ok,hrun]
 rw[he]
 obtain⟨h10,h11⟩:=hsim (fun hkeep hL hadv hown'=>by
  rw[owr1]
  simp only[if_true]
  refine⟨rfl,by rw[lnM,List.length_set];rw[lnM] at hown';exact hown',?_⟩
  have e6:(ds.set j d').map (elOf m)=(ds.map (elOf m)).set j (spl (elOf m d) c (ys.map (Cell.d m))):=by
   rw[List.map_set]
   congr 1
   simp only[elOf,hd,spl,List.map_append,List.map_take,List.map_drop,lnM]
  rw[e6]
  have hel' : elOk (SM F S.B) w' k0 (spl (elOf m d) c (ys.map (Cell.d m))) (ge.take c++news++ge.drop (c+news.length)):=by
   refine⟨?_,(cellOk.keepL hkeep hel.2 fun b hb=>hL b (.inl (List.mem_flatMap.2 ⟨ge,List.mem_of_getElem? hge,hb⟩))).spl (cellOk.keepL hkeep h5 fun b hb=>hL b (.inr hb))⟩
   have:=hel.1
   unfold spl
   simp only[List.length_append,List.length_take,List.length_drop,lnM,hyl]
   omega
  refine all2.set ?_ hel'
  exact hrow.2.imp_mem fun e' ge' hm' he'=>⟨he'.1,cellOk.keepL hkeep he'.2 fun b hb=>hL b (.inl (List.mem_flatMap.2 ⟨ge',hm',hb⟩))⟩)
 exact⟨F,_,h10,fun x v hv=>h11 x v hv,by rw[vr];trivial⟩
end
theorem k3a {k:Nat}{gs:List (List GC)}{j c:Nat}{ge:List GC}{gc:GC}(hk:∀ g∈gs,g.length=k)(hj:gs[j]?=some ge)(hc:ge[c]?=some gc) :
  ∃ VA VD LA LD,q5A gs=VA++[gc.val]++VD∧gbl gs=LA++gc.L++LD∧∀ x:GC,q5A (gs.set j (ge.take c++[x]++ge.drop (c+1)))=VA++[x.val]++VD∧gbl (gs.set j (ge.take c++[x]++ge.drop (c+1)))=LA++x.L++LD:=by
 have hlt:c<ge.length:=(List.getElem?_eq_some_iff.1 hc).1
 have hgl:=hk ge (List.mem_of_getElem? hj)
 obtain⟨VA,VM,VD,LA,LM,LD,h1,h2,h3,h4,h5⟩:=j2F hk hj (c:=c) (n:=1) (by omega)
 have e:gs.set j (ge.take c++[gc]++ge.drop (c+1))=gs:=by
  have:ge.take c++[gc]++ge.drop (c+1)=ge:=by
   have h6:ge[c]'hlt=gc:=by rw[List.getElem?_eq_getElem hlt] at hc;exact Option.some.inj hc
   rw[← h6,List.append_assoc,List.singleton_append,List.getElem_cons_drop,List.take_append_drop]
  rw[this]
  apply List.ext_getElem?
  intro i
  rw[List.getElem?_set]
  split
  ·rename_i hi;subst hi
   split
   ·exact hj.symm
   ·rename_i h;exact absurd (List.getElem?_eq_some_iff.1 hj).1 h
  ·rfl
 obtain⟨h6,h7⟩:=h5 [gc]
 rw[e] at h6 h7
 exact⟨VA,VD,LA,LD,by simpa using h6,by simpa using h7,fun x=>by have:=h5 [x];simpa using this⟩
section
variable {S:Start}{ρ:AE}{σ:St}
theorem z3m {σ:St}{r q:Nat}{x y:Root}(i:Nat):fnOf (setL (setL σ r x) q y) i=if i=q then y else if i=r then x else fnOf σ i:=by
 rw[q8f,q8f]
theorem Chg.none {w:World}:Chg (fun _=>False) w w:=Chg.refl w
theorem GH.out {r j c k q:Nat}{m:Md}{es:List (List Cell)}{hh:List (Nat×Nat×Nat)}{e:List Cell}{cell:Cell}{x:Root}(hσ:fnOf σ r=.deep m k es hh)(hj:es[j]?=some e)(hc:e[c]?=some cell)(hx:OC cell x)(hq:fnOf σ q=.none) :
  GH S ρ σ ρ (setL (setL σ r (.deep m k (es.set j (spl e c [.u])) ((j,c,q)::hh))) q x):=by
 intro F g w ρc hs hv
 have hqr:q≠r:=fun e=>by rw[e,hσ] at hq;cases hq
 have hroot:=hs.roots r
 rw[hσ] at hroot
 cases hg:g r<;>rw[hg] at hroot<;>try exact hroot.elim
 rename_i v k0 L gs
 obtain⟨⟨hk0,hrow⟩,hho,hfz⟩:=hroot
 subst hk0
 have hgq:g q=.none:=by
  have:=hs.roots q
  rw[hq] at this
  revert this
  cases g q<;>intro h<;>first|rfl|exact h.elim
 obtain⟨ge,hge,hel⟩:=hrow.2.get hj
 obtain⟨gc,hgc,hcl⟩:=hel.2.get hc
 have hcl0:c<ge.length:=(List.getElem?_eq_some_iff.1 hgc).1
 obtain⟨VA,VD,LA,LD,e1,e2,e3⟩:=k3a (z1e hrow.2) hge hgc
 obtain⟨e4,e5⟩:=e3 ⟨gc.val,false,0,[]⟩
 obtain⟨Lq,gq,hxr,hxl⟩:=hx.ok (g:=fun i=>if i=q then .row gc.val gc.k [] [] else g i) hcl
 generalize hgs' : gs.set j (ge.take c++[(⟨gc.val,false,0,[]⟩:GC)]++ge.drop (c+1))=gs' at e4 e5
 let g' : Nat→G:=fun i=>if i=q then .row gc.val gc.k Lq gq else if i=r then .row v k0 L gs' else g i
 have gr:g' r=.row v k0 L gs':=by simp[g',hqr.symm]
 have gqq:g' q=.row gc.val gc.k Lq gq:=by simp[g']
 have go:∀ i,i≠q→i≠r→g' i=g i:=fun i h1 h2=>by simp[g',h1,h2]
 have hbr:bl (g r)=L++(LA++gc.L++LD):=by rw[hg,← e2];rfl
 have hnr:=hs.nodup r
 rw[hbr] at hnr
 have hblr:bl (g' r)=L++(LA++LD):=by rw[gr];simp only[bl,e5,List.append_nil]
 have hblq:bl (g' q)=gc.L:=by rw[gqq];exact hxl
 have hone:gc.val.oneCell'=true:=by
  cases hx with
  | row=>obtain⟨_,_,cs,h,_⟩:=hcl;obtain⟨A,c,e,_⟩:=h.form;rw[e];rfl
  | own=>have h:=hcl.2.2;simp only[owC] at h;obtain⟨L0,cs,L1,h,_⟩:=h;obtain⟨A,c,e,_⟩:=h.form;rw[e];rfl
  | flat=>have h:=hcl.2.2;simp only[owC] at h;obtain⟨L0,cs,L1,h,_⟩:=h;obtain⟨A,c,e,_⟩:=h.form;rw[e];rfl
 have hadv:∀ i,Adv (g i) (g' i):=fun i=>by
  by_cases h1:i=q
  ·subst h1;rw[hgq];trivial
  ·by_cases h2:i=r
   ·subst h2;rw[gr,hg];exact .inr ⟨_,_,rfl⟩
   ·rw[go i h1 h2];exact Adv.refl _
 obtain⟨h1,h2⟩:=hs.step (g':=g') (σ':=fnOf (setL (setL σ r (.deep m k0 (es.set j (spl e c [.u])) ((j,c,q)::hh))) q x)) (F':=F) (w':=w) (fun i=>i=r∨i=q) Chg.none (fun _ h _=>h.elim)
  (fun i hi=>⟨go i (fun e=>hi (.inr e)) fun e=>hi (.inl e),by rw[z3m,ifN fun e=>hi (.inr e),ifN fun e=>hi (.inl e)]⟩) (fun i _=>hadv i) (fun _ h=>h) (fun x hx=>⟨hs.flt x hx,.inl hx⟩)
  (fun hkeep hp i hi=>by
   rcases hi with rfl|rfl
   ·rw[z3m,ifN hqr.symm,ifP rfl,gr]
    refine⟨⟨rfl,?_,?_⟩,fun p hp gc' hgc'=>?_,fun hm=>j5C (hfz hm) hj (by simp[fzC])⟩
    ·rw[List.length_set,show q5A gs'=q5A gs by rw[e4,e1]];exact hrow.1
    ·rw[← hgs']
     refine all2.set hrow.2 ⟨?_,hel.2.spl (c:=c) (xs:=[.u]) (ys:=[⟨gc.val,false,0,[]⟩]) ⟨_,[],rfl,⟨rfl,rfl,hone⟩,rfl⟩⟩
     have:=hel.1
     have:=hel.2.len
     unfold spl
     simp only[List.length_append,List.length_take,List.length_drop,List.length_singleton]
     omega
    ·rcases List.mem_cons.1 hp with rfl|hp
     ·simp only[gqq]
      rw[← hgs'] at hgc'
      have hjlt:=(List.getElem?_eq_some_iff.1 hge).1
      simp only[List.getElem?_set,if_true,ifP hjlt,bsS] at hgc'
      rw[List.append_assoc,List.getElem?_append_right (by simp;omega),List.singleton_append] at hgc'
      simp[Nat.min_eq_left (Nat.le_of_lt hcl0)] at hgc'
      subst hgc'
      intro u k' hu
      cases hu
      rfl
     ·have:(gs[p.1]?).bind (·[p.2.1]?)=some gc'∨gc'=⟨gc.val,false,0,[]⟩∧p.1=j∧p.2.1=c:=by
       by_cases hpj:p.1=j∧p.2.1=c
       ·right
        refine⟨?_,hpj⟩
        rw[← hgs',hpj.1,hpj.2] at hgc'
        have hjlt:=(List.getElem?_eq_some_iff.1 hge).1
        simp only[List.getElem?_set,if_true,ifP hjlt,bsS] at hgc'
        rw[List.append_assoc,List.getElem?_append_right (by simp;omega),List.singleton_append] at hgc'
        simp[Nat.min_eq_left (Nat.le_of_lt hcl0)] at hgc'
        exact hgc'.symm
       ·left
        rw[← hgs'] at hgc'
        by_cases hpj1:p.1=j
        ·rw[← hgc',hpj1]
         exact (j2G (news:=[⟨gc.val,false,0,[]⟩]) hge (by simp;omega) (by simp;have:p.2.1≠c:=fun e=>hpj ⟨hpj1,e⟩;omega)).symm
        ·rw[List.getElem?_set_ne (fun e=>hpj1 e.symm)] at hgc'
         exact hgc'
      rcases this with h|⟨h,h1,h2⟩
      ·exact (hho p hp gc' h).adv (hadv _)
      ·have h3:=(hho p hp gc (by rw[h1,h2,hge];exact hgc)).adv (hadv p.2.2)
       rw[h];exact h3
   ·rw[z3m,ifP rfl,gqq]
    obtain⟨Lq',gq',hxr',hxl'⟩:=hx.ok (g:=g') hcl
    revert hxr
    cases hx with
    | row=>intro hxr;exact hxr
    | own=>intro hxr;exact⟨hxr.1,holesOk.nil,hxr.2.2⟩
    | flat=>intro hxr;exact hxr)
  (fun i hi=>by
   rcases hi with rfl|rfl
   ·rw[hblr]
    have:=z9J (A:=L++LA) (M:=gc.L) (D:=LD) (N:=[]) (by simpa using hnr) List.nodup_nil (by simp)
    simpa using this
   ·rw[hblq]
    rw[← List.append_assoc,← List.append_assoc,List.nodup_append] at hnr
    exact (List.nodup_append.1 hnr.1).2.1)
  (fun i i' hi hi' hne b hb=>by
   have hdis:∀ b,b∈L++(LA++LD)→b∉gc.L:=fun b hb hb2=>by
    rw[← List.append_assoc,← List.append_assoc,List.nodup_append] at hnr
    obtain⟨n1,_,n3⟩:=hnr
    rw[List.nodup_append] at n1
    simp only[List.mem_append] at hb
    rcases hb with hb|hb|hb
    ·exact n1.2.2 b (by simp[hb]) b hb2 rfl
    ·exact n1.2.2 b (by simp[hb]) b hb2 rfl
    ·exact n3 b (by simp[hb2]) b hb rfl
   rcases hi with rfl|rfl<;>rcases hi' with rfl|rfl
   ·exact absurd rfl hne
   ·rw[hblr] at hb;rw[hblq];exact hdis b hb
   ·rw[hblq] at hb;rw[hblr];exact fun h=>hdis b h hb
   ·exact absurd rfl hne)
  (fun i b hi hb=>by
   have hb' : b∈bl (g r):=by
    rw[hbr]
    rcases hi with rfl|rfl
    ·rw[hblr] at hb
     simp only[List.mem_append] at hb ⊢
     rcases hb with hb|hb|hb
     ·exact .inl hb
     ·exact .inr (.inl (.inl hb))
     ·exact .inr (.inr hb)
    ·rw[hblq] at hb;simp[hb]
   exact⟨(hs.own r b hb').1,(hs.own r b hb').2.1,.inr ⟨r,.inl rfl,hb'⟩⟩)
 exact⟨F,g',h1,fun t=>h2 _ _ (hv t)⟩
theorem q3G {r j c k q:Nat}{m:Md}{es:List (List Cell)}{hh:List (Nat×Nat×Nat)}{e:List Cell}{cell:Cell}(hσ:fnOf σ r=.deep m k es hh)(hj:es[j]?=some e)(hc:Nat.blt c e.length=true)(hm:(j,c,q)∈hh)(hx:MC (fnOf σ q) cell)(hf:fzC cell=true∨m=.bo)(hqr:Nat.beq q r=false) :
  GH S ρ σ ρ (setL (setL σ r (.deep m k (es.set j (spl e c [cell])) (hsK hh c 1))) q .dead):=by
 intro F g w ρc hs hv
 have hqr:q≠r:=fun e=>by subst e;simp at hqr
 have hroot:=hs.roots r
 rw[hσ] at hroot
 cases hg:g r<;>rw[hg] at hroot<;>try exact hroot.elim
 rename_i v k0 L gs
 obtain⟨⟨hk0,hrow⟩,hho,hfz⟩:=hroot
 subst hk0
 obtain⟨vq,kq,Lq,gq,hgq⟩:=hx.isrow (hs.roots q)
 obtain⟨ge,hge,hel⟩:=hrow.2.get hj
 have hgl:ge.length=e.length:=hel.2.len
 have hcl0:c<ge.length:=by rw[hgl];simpa using hc
 have hgc:ge[c]?=some ge[c]:=List.getElem?_eq_getElem hcl0
 generalize ge[c]=gc at hgc
 have hval:gc.val=vq:=by
  have:=hho _ hm gc (by rw[hge];exact hgc)
  rw[hgq] at this
  exact this _ _ rfl
 obtain⟨VA,VD,LA,LD,e1,e2,e3⟩:=k3a (z1e hrow.2) hge hgc
 have hqroot:=hs.roots q
 rw[hgq] at hqroot
 have hcell:=hx.ok hqroot
 obtain⟨e4,e5⟩:=e3 ⟨vq,true,kq,Lq++gbl gq⟩
 generalize hgs' : gs.set j (ge.take c++[(⟨vq,true,kq,Lq++gbl gq⟩:GC)]++ge.drop (c+1))=gs' at e4 e5
 let g' : Nat→G:=fun i=>if i=q then .dead else if i=r then .row v k0 L gs' else g i
 have gr:g' r=.row v k0 L gs':=by simp[g',hqr.symm]
 have gqq:g' q=.dead:=by simp[g']
 have go:∀ i,i≠q→i≠r→g' i=g i:=fun i h1 h2=>by simp[g',h1,h2]
 have hbr:bl (g r)=L++(LA++gc.L++LD):=by rw[hg,← e2];rfl
 have hbq:bl (g q)=Lq++gbl gq:=by rw[hgq];rfl
 have hnr:=hs.nodup r
 rw[hbr] at hnr
 have hblr:bl (g' r)=L++LA++(Lq++gbl gq)++LD:=by rw[gr];simp only[bl,e5,List.append_assoc]
 have hadv:∀ i,Adv (g i) (g' i):=fun i=>by
  by_cases h1:i=q
  ·subst h1;rw[gqq,hgq];exact .inl rfl
  ·by_cases h2:i=r
   ·subst h2;rw[gr,hg];exact .inr ⟨_,_,rfl⟩
   ·rw[go i h1 h2];exact Adv.refl _
 have hsub:∀ b,b∈bl (g' r)→b∈bl (g r)∨b∈bl (g q):=fun b hb=>by
  rw[hblr] at hb
  rw[hbr,hbq]
  simp only[List.mem_append] at hb ⊢
  rcases hb with ((hb|hb)|hb|hb)|hb
  ·exact .inl (.inl hb)
  ·exact .inl (.inr (.inl (.inl hb)))
  ·exact .inr (.inl hb)
  ·exact .inr (.inr hb)
  ·exact .inl (.inr (.inr hb))
 obtain⟨h1,h2⟩:=hs.step (g':=g') (σ':=fnOf (setL (setL σ r (.deep m k0 (es.set j (spl e c [cell])) (hsK hh c 1))) q .dead)) (F':=F) (w':=w) (fun i=>i=r∨i=q) Chg.none (fun _ h _=>h.elim)
  (fun i hi=>⟨go i (fun e=>hi (.inr e)) fun e=>hi (.inl e),by rw[z3m,ifN fun e=>hi (.inr e),ifN fun e=>hi (.inl e)]⟩) (fun i _=>hadv i) (fun _ h=>h) (fun x hx=>⟨hs.flt x hx,.inl hx⟩)
  (fun hkeep hp i hi=>by
   rcases hi with rfl|rfl
   ·rw[z3m,ifN hqr.symm,ifP rfl,gr]
    refine⟨⟨rfl,?_,?_⟩,fun p hp gc' hgc'=>?_,fun hm'=>j5C (hfz hm') hj (by
     intro x hx'
     rw[List.mem_singleton] at hx'
     subst hx'
     rcases hf with hf|hf
     ·exact hf
     ·rw[hm'] at hf;cases hf)⟩
    ·rw[List.length_set,show q5A gs'=q5A gs by rw[e4,e1,hval]];exact hrow.1
    ·rw[← hgs']
     refine all2.set hrow.2 ⟨?_,hel.2.spl (c:=c) (xs:=[cell]) (ys:=[⟨vq,true,kq,Lq++gbl gq⟩]) ⟨_,[],rfl,hcell,rfl⟩⟩
     have:=hel.1
     unfold spl
     simp only[List.length_append,List.length_take,List.length_drop,List.length_singleton]
     omega
    ·simp only[hsK,List.mem_filter,Bool.or_eq_true] at hp
     rw[← hgs'] at hgc'
     have:=j2G (c:=c) (news:=[⟨vq,true,kq,Lq++gbl gq⟩]) hge (by simp only[List.length_singleton];omega) (i:=p.1) (d:=p.2.1) (by simpa using hp.2)
     exact (hho p hp.1 gc' (by rw[← this];exact hgc')).adv (hadv _)
   ·rw[z3m,ifP rfl,gqq];trivial)
  (fun i hi=>by
   rcases hi with rfl|rfl
   ·rw[hblr]
    have hq:=hs.nodup q
    rw[hbq] at hq
    refine z9J (M:=gc.L) (by simpa using hnr) hq fun x hx=>?_
    have h3:=hs.disj q i hqr x (by rw[hbq];exact hx)
    rw[hbr] at h3
    simp only[List.mem_append,not_or] at h3 ⊢
    exact⟨⟨h3.1,h3.2.1.1⟩,h3.2.2⟩
   ·rw[gqq];exact List.nodup_nil)
  (fun i i' hi hi' hne b hb=>by
   rcases hi with rfl|rfl<;>rcases hi' with rfl|rfl
   ·exact absurd rfl hne
   ·rw[gqq];exact List.not_mem_nil
   ·rw[gqq] at hb;cases hb
   ·exact absurd rfl hne)
  (fun i b hi hb=>by
   rcases hi with rfl|rfl
   ·rcases hsub b hb with h|h
    ·exact⟨(hs.own i b h).1,(hs.own i b h).2.1,.inr ⟨i,.inl rfl,h⟩⟩
    ·exact⟨(hs.own q b h).1,(hs.own q b h).2.1,.inr ⟨q,.inr rfl,h⟩⟩
   ·rw[gqq] at hb;cases hb)
 exact⟨F,g',h1,fun t=>h2 _ _ (hv t)⟩
theorem j9o {m:Md}{xs:List D}:m=.fz→fzE (xs.map (elOf m)):=fun hm e he c hc=>by
 subst hm
 obtain⟨x,_,rfl⟩:=List.mem_map.1 he
 obtain⟨d,_,rfl⟩:=List.mem_map.1 hc
 cases d<;>rfl
theorem GH.same {r:Nat}{x y:Root}(hσ:fnOf σ r=x)(h:∀ (S1:Md→Nat→Prop) (w:World) (g:Nat→G) (z:G),z0D S1 w g x z→z0D S1 w g y z):GH S ρ σ ρ (setL σ r y):=by
 intro F g w ρc hs hv
 refine⟨F,g,⟨hs.chg,hs.bB,hs.fmono,hs.fnew,hs.flt,fun i=>?_,hs.low,hs.hdr,hs.nodup,hs.disj,hs.own⟩,hv⟩
 rw[q8f]
 by_cases hi:i=r
 ·subst hi;rw[ifP rfl];exact h _ _ _ _ (by rw[← hσ];exact hs.roots i)
 ·rw[ifN hi];exact hs.roots i
theorem q0H {r k:Nat}{m:Md}{xs:List D}{es:List (List Cell)}(hσ:fnOf σ r=.row m k xs)(he:xs.map (elOf m)=es):GH S ρ σ ρ (setL σ r (.deep m k es [])):=
 GH.same hσ fun S1 w g z h=>by
  subst he
  cases z<;>try exact h.elim
  exact⟨h,holesOk.nil,j9o⟩
theorem q2V {r k:Nat}{m:Md}{es es' : List (List Cell)}{hh:List (Nat×Nat×Nat)}(hσ:fnOf σ r=.deep m k es hh)(he:es=es'):GH S ρ σ ρ (setL σ r (.deep m k es' hh)):=
 GH.same hσ fun S1 w g z h=>by subst he;exact h
end
section
variable {P:Program}{S:Start}{n:Nat}{ρ:AE}{σ:St}{o:Oper}
theorem k3F {r' : Nat}{x:Root}{qs:List Nat}{σ:Nat→Root}:owr σ ((qs.map fun q=>(q,.dead))++[(r',x)])=fun i=>if i=r' then x else if i∈qs then .dead else σ i:=by
 induction qs generalizing σ with
 | nil=>funext i;simp[owr]
 | cons q qs ih=>
  rw[List.map_cons,List.cons_append,owr,ih]
  funext i
  by_cases h1:i=r'
  ·simp[h1]
  ·by_cases h2:i∈qs
   ·simp[h1,h2]
   ·by_cases h3:i=q<;>simp[h1,h2,h3]
theorem Sim.regrowL {F:Nat→Prop}{g:Nat→G}{w w' : World}{σ1:Nat→Root}(hs:Sim S F g σ1 w){r' : Nat}{qs:List Nat}(hr' : σ1 r'=.none)(hq:∀ q∈qs,g q≠.none){M:Nat→Prop}(hc:Chg M w w')(hM:∀ b,M b→b<w.heap.size→∃ q∈qs,b∈bl (g q)){v' : Value}{k:Nat}{L' : List Nat}{gs' : List (List GC)}{x:Root}
  (hx:(∀ m b o cs,SM F S.B m b→b<w.heap.size→At w b o cs→SM F S.B m b∧b<w'.heap.size∧At w' b o cs)→∀ g',(∀ i,Adv (g i) (g' i))→z0D (SM F S.B) w' g' x (.row v' k L' gs')) (hnd:(bl (.row v' k L' gs')).Nodup) (hbl:∀ b∈bl (.row v' k L' gs'),b<w'.heap.size∧((∃ q∈qs,b∈bl (g q))∨w.heap.size≤b)) :
  ∃ g',Sim S F g' (owr σ1 ((qs.map fun q=>(q,.dead))++[(r',x)])) w'∧Pres S.B F g w F g' w'∧vr (SM F S.B) w' g' (.ref r' none) v':=by
 have hg2:=j5t hs hr'
 have hrq:r'∉qs:=fun h=>hq r' h hg2
 let g' : Nat→G:=fun i=>if i=r' then .row v' k L' gs' else if i∈qs then .dead else g i
 have gr:g' r'=.row v' k L' gs':=by simp[g']
 have gq:∀ q∈qs,g' q=.dead:=fun q hq=>by
  have:q≠r':=fun e=>hrq (e▸hq)
  simp[g',this,hq]
 have go:∀ i,¬ (i∈qs∨i=r')→g' i=g i:=fun i hi=>by
  have h1:i≠r':=fun e=>hi (.inr e)
  have h2:i∉qs:=fun e=>hi (.inl e)
  simp[g',h1,h2]
 have hadv:∀ i,Adv (g i) (g' i):=fun i=>by
  by_cases h1:i=r'
  ·subst h1;rw[hg2];trivial
  ·by_cases h2:i∈qs
   ·rw[gq i h2];exact Adv.dead (hq i h2)
   ·rw[go i (fun h=>h.elim h2 h1)];exact Adv.refl _
 rw[k3F]
 obtain⟨h1,h2⟩:=hs.step (g':=g') (σ':=fun i=>if i=r' then x else if i∈qs then .dead else σ1 i) (F':=F) (w':=w') (fun i=>i∈qs∨i=r') hc (fun b hb hl=>let ⟨q,h1,h2⟩:=hM b hb hl;⟨q,.inl h1,h2⟩)
  (fun i hi=>⟨go i hi,by simp only[ifN (fun e=>hi (.inr e)),ifN (fun e=>hi (.inl e))]⟩)
  (fun i _=>hadv i) (fun _ h=>h) (fun b hb=>⟨Nat.lt_of_lt_of_le (hs.flt b hb) hc.size,.inl hb⟩)
  (fun hk hp i hi=>by
   by_cases h1:i=r'
   ·subst h1;simp only[if_true,gr];exact hx hk g' hadv
   ·have h2:i∈qs:=hi.resolve_right h1
    simp only[ifN h1,ifP h2,gq i h2];trivial)
  (fun i hi=>by
   by_cases h1:i=r'
   ·subst h1;rw[gr];exact hnd
   ·rw[gq i (hi.resolve_right h1)];exact List.nodup_nil)
  (fun i j hi hj hij b hb=>by
   by_cases h1:i=r'
   ·by_cases h2:j=r'
    ·exact absurd (h1.trans h2.symm) hij
    ·rw[gq j (hj.resolve_right h2)];exact List.not_mem_nil
   ·rw[gq i (hi.resolve_right h1)] at hb;cases hb)
  (fun i b hi hb=>by
   by_cases h1:i=r'
   ·subst h1
    rw[gr] at hb
    obtain⟨h3,h4⟩:=hbl b hb
    refine⟨h3,fun hf=>?_,?_⟩
    ·rcases h4 with ⟨q,_,h4⟩|h4
     ·exact (hs.own q b h4).2.1 hf
     ·have:=hs.flt b hf;omega
    ·rcases h4 with ⟨q,h5,h4⟩|h4
     ·exact .inr ⟨q,.inl h5,h4⟩
     ·exact .inl h4
   ·rw[gq i (hi.resolve_right h1)] at hb;cases hb)
 refine⟨g',h1,h2,?_⟩
 rw[vr,gr]
 intro u q hu
 simp only[G.at] at hu
 cases hu
 rfl
theorem j5D {F:Nat→Prop}{g:Nat→G}{w:World}{σ1:Nat→Root}(hs:Sim S F g σ1 w){r k:Nat}{m:Md}{es:List (List Cell)}{hh:List (Nat×Nat×Nat)}(hr:σ1 r=.deep m k es hh):∃ v L gs,g r=.row v k L gs∧rowOk (SM F S.B) w es v k L gs∧holesOk g hh gs∧(m=.fz→fzE es):=by
 have h:=hs.roots r
 rw[hr] at h
 cases hg:g r<;>rw[hg] at h<;>try exact h.elim
 obtain⟨⟨rfl,h1⟩,h2,h3⟩:=h
 exact⟨_,_,_,rfl,h1,h2,h3⟩
theorem j7W {a b:List (List Cell)}(h1:fzE a)(h2:fzE b):fzE (a++b):=fun e he=>by
 rcases List.mem_append.1 he with h|h
 ·exact h1 e h
 ·exact h2 e h
theorem j4c {S1:Md→Nat→Prop}{w:World}{k:Nat}:∀ {es:List (List Cell)} {gs:List (List GC)},all2 (elOk S1 w k) es gs→∀ u∈q5A gs,u.oneCell'=true
 | [],_,h,u,hu=>by rw[show _=[] from h] at hu;simp[q5A] at hu
 | e::es,_,⟨ge,r,h1,h2,h3⟩,u,hu=>by
  subst h1
  rw[q7g] at hu
  rcases List.mem_append.1 hu with hu|hu
  ·obtain⟨gc,hgc,rfl⟩:=List.mem_map.1 hu
   obtain⟨i,hi⟩:=List.getElem?_of_mem hgc
   obtain⟨c,_,hc⟩:=h2.2.get' hi
   cases c with
   | d m x=>exact hc.2.2.one
   | o m k xs=>obtain⟨_,_,cs,h,_⟩:=hc;obtain⟨A,c,e,_⟩:=h.form;rw[e];rfl
   | w k xs=>have h:=hc.2.2;simp only[owC] at h;obtain⟨L0,cs,L1,h,_⟩:=h;obtain⟨A,c,e,_⟩:=h.form;rw[e];rfl
   | nl k=>rw[hc.2.2];rfl
   | u=>exact hc.2.2
  ·exact j4c h3 u hu
theorem z9K {k:Nat}:∀ {gs:List (List GC)},(∀ ge∈gs,ge.length=k)→(q5A gs).length=gs.length*k
 | [],_=>by simp[q5A]
 | ge::gs,h=>by
  rw[q7g,List.length_append,lnM,h ge (by simp),z9K fun g hg=>h g (by simp[hg]),lnC,Nat.add_mul]
  omega
theorem q2W {T e k b r r2 r' : Nat}{z:List Value}{s x:Operand}{m:Md}{es es2:List (List Cell)}(ho:o.op=.call { callee:=.builtin .append,args:=#[s,x],argTypes:=#[T,T] })(hT:q7D P T=some e)(hk:szT P e=some k)(hb:byT P e=some b)(hz:z2C P e=some z)(hzk:z.length=k)(hk0:Nat.blt 0 k=true)
  (hs:evX ρ s=.ref r none) (hσ:fnOf σ r=.deep m k es []) (hx:evX ρ x=.ref r2 none) (hσ2:fnOf σ r2=.deep m k es2 []) (hmax:(es.length+es2.length)*b≤140737488355328) (hlen:es.length+es2.length≤maxLen) (hr' : fnOf σ r'=.none) (hne:Nat.beq r r2=false) :
  LT P S o ρ σ [] (.ref r' none) [(r,.dead),(r2,.dead),(r',.deep m k (es++es2) [])]:=by
 intro σ1 F g w ρc hsim hrd hwr hv
 have hne:r≠r2:=fun e=>by subst e;simp at hne
 have hr1:σ1 r=.deep m k es []:=(hwr (r,.dead) (by simp)).trans hσ
 have hr2:σ1 r2=.deep m k es2 []:=(hwr (r2,.dead) (by simp)).trans hσ2
 have hr3:σ1 r'=.none:=(hwr (r',.deep m k (es++es2) []) (by simp)).trans hr'
 have e1:=hv s (by simp[ho,Op.operands,Call.operands])
 have e2:=hv x (by simp[ho,Op.operands,Call.operands])
 obtain⟨v,L,gs,hg,hrow,_,hfz⟩:=j5D hsim hr1
 obtain⟨v2,L2,gs2,hg2,hrow2,_,hfz2⟩:=j5D hsim hr2
 rw[hs,vr,hg] at e1
 rw[hx,vr,hg2] at e2
 have e3:=e1 _ _ rfl
 have e4:=e2 _ _ rfl
 obtain⟨A,c2,hv2,_,_⟩:=hrow2.1.form
 have hl2:(q5A gs2).length=es2.length*k:=by rw[z9K (z1e hrow2.2),hrow2.2.len]
 obtain⟨v',w',L',hrun,hown',hchg,hL'⟩:=z9D (P:=P) (ty:=o.type) (w:=w) (A:=A) (c2:=c2) (m2:=es2.length) (news:=q5A gs2) hT hk hb hz hzk (by simpa using hk0) hrow.1 hl2
  (by
   rcases hrow2.1.at with h|⟨b,c',T',cur,h1,h2,_⟩
   ·exact .inl h
   ·rw[hv2] at h1;cases h1;exact .inr ⟨b,0,rfl,h2⟩) (j4c hrow2.2) hmax hlen
 rw[j6Q (P:=P) (w:=w) ho e3 (e4.trans hv2) hrun]
 have hL1:∀ b∈L,b∈bl (g r):=fun b hb=>by rw[hg];simp[bl,hb]
 have n1:=hsim.nodup r
 have n2:=hsim.nodup r2
 rw[hg] at n1
 rw[hg2] at n2
 have b1:∀ b∈gbl gs,b∈bl (g r):=fun b hb=>by rw[hg];simp[bl,hb]
 have b2:∀ b∈gbl gs2,b∈bl (g r2):=fun b hb=>by rw[hg2];simp[bl,hb]
 have n1' : ∀ b∈L,b∉gbl gs:=fun b hb hb2=>(List.nodup_append.1 n1).2.2 b hb b hb2 rfl
 obtain⟨g',h1,h2,h3⟩:=hsim.regrowL (r':=r') (qs:=[r,r2]) (x:=.deep m k (es++es2) []) (v':=v') (k:=k) (L':=L') (gs':=gs++gs2) hr3
  (fun q hq=>by
   simp only[List.mem_cons,List.not_mem_nil,or_false] at hq
   rcases hq with rfl|rfl
   ·rw[hg];intro h;cases h
   ·rw[hg2];intro h;cases h) hchg (fun b hb _=>⟨r,by simp,hL1 b hb⟩)
  (fun hkeep g' _=>⟨⟨rfl,by rw[j3X,List.length_append];exact hown',
   (hrow.2.imp_mem fun e' ge' hm' he'=>⟨he'.1,cellOk.keepL hkeep he'.2 fun b hb=>by
    have hb' : b∈gbl gs:=List.mem_flatMap.2 ⟨ge',hm',hb⟩
    exact hchg.block b (hsim.own r b (b1 b hb')).1 fun h=>n1' b h hb'⟩).append
   (hrow2.2.imp_mem fun e' ge' hm' he'=>⟨he'.1,cellOk.keepL hkeep he'.2 fun b hb=>by
    have hb' : b∈gbl gs2:=List.mem_flatMap.2 ⟨ge',hm',hb⟩
    exact hchg.block b (hsim.own r2 b (b2 b hb')).1 fun h=>hsim.disj r r2 hne b (hL1 b h) (b2 b hb')⟩)⟩,holesOk.nil,fun hm=>j7W (hfz hm) (hfz2 hm)⟩)
  (by
   simp only[bl,j1F]
   rw[List.nodup_append,List.nodup_append]
   refine⟨hown'.nodup,⟨(List.nodup_append.1 n1).2.1,(List.nodup_append.1 n2).2.1,fun a ha b hb e=>hsim.disj r r2 hne a (b1 a ha) (e▸b2 b hb)⟩,fun a ha b hb e=>?_⟩
   subst e
   rcases hL' a ha with h|h
   ·rcases List.mem_append.1 hb with hb|hb
    ·exact n1' a h hb
    ·exact hsim.disj r r2 hne a (hL1 a h) (b2 a hb)
   ·rcases List.mem_append.1 hb with hb|hb
    ·have:=(hsim.own r a (b1 a hb)).1;omega
    ·have:=(hsim.own r2 a (b2 a hb)).1;omega)
  (fun b hb=>by
   simp only[bl,j1F,List.mem_append] at hb
   rcases hb with hb|hb|hb
   ·exact⟨hown'.lst b hb,(hL' b hb).imp (fun h=>⟨r,by simp,hL1 b h⟩) id⟩
   ·exact⟨Nat.lt_of_lt_of_le (hsim.own r b (b1 b hb)).1 hchg.size,.inl ⟨r,by simp,b1 b hb⟩⟩
   ·exact⟨Nat.lt_of_lt_of_le (hsim.own r2 b (b2 b hb)).1 hchg.size,.inl ⟨r2,by simp,b2 b hb⟩⟩)
 exact⟨F,g',h1,h2,h3⟩
end
inductive NCs (σ:Nat→Root) (m:Md) (k:Nat):List X→List (List Cell)→List Nat→Prop
 | nil:NCs σ m k [] [] []
 | cons {x:X} {xs:List X} {e:List Cell} {es:List (List Cell)} {q1 qs:List Nat} (h:NC σ m x.cells e q1) (hk:e.length=k) (hs:z3Y σ x=true) (h2:NCs σ m k xs es qs):NCs σ m k (x::xs) (e::es) (q1++qs)
theorem NCs.alive {σ:Nat→Root}{m:Md}{k:Nat}:∀ {xs:List X} {es:List (List Cell)} {qs:List Nat},NCs σ m k xs es qs→∀ q∈qs,∃ c,MC (σ q) c
 | _,_,_,.nil,q,hq=>by cases hq
 | _,_,_,.cons h _ _ h2,q,hq=>by
  rcases List.mem_append.1 hq with hq|hq
  ·exact h.alive q hq
  ·exact h2.alive q hq
theorem NCs.congr {σ1 σ2:Nat→Root}{m:Md}{k:Nat}:∀ {xs:List X} {es:List (List Cell)} {qs:List Nat},NCs σ2 m k xs es qs→(∀ q∈qs,σ1 q=σ2 q)→NCs σ1 m k xs es qs
 | _,_,_,.nil,_=>.nil
 | _,_,_,.cons (x:=x) h hk hs h2,hc=>.cons (h.congr fun q hq=>hc q (by simp[hq])) hk (by
   cases x with
   | ag cs=>rfl
   | _=>rw[z2d fun i hi=>hc i (List.mem_append.2 (.inl (h.roots _ (by simp[X.cells]) i hi)))];exact hs) (h2.congr fun q hq=>hc q (by simp[hq]))
theorem j9p {S:Start}{F:Nat→Prop}{g:Nat→G}{w:World}{σ1:Nat→Root}(hs:Sim S F g σ1 w){ρ:AE}{ρc:Env}{m:Md}{k:Nat}:∀ (l:List (Nat×Operand)) (i:Nat) (xs:List X) (es:List (List Cell)) (qs:List Nat),l.map (fun p=>(p.1,evX ρ p.2))=idxX i xs→(∀ p∈l,vr (SM F S.B) w g (evX ρ p.2) (E.ev ρc p.2))→NCs σ1 m k xs es qs →
  ∃ vs css gs,l.map (fun p=>(p.1,E.ev ρc p.2))=idxL i vs∧catL k vs css∧vs.length=es.length∧all2 (elOk (SM F S.B) w k) es gs∧q5A gs=css.flatten∧gbl gs=(qs.flatMap fun q=>bl (g q))∧(m=.fz→fzE es)
 | [],i,xs,es,qs,h,_,hn=>by
  cases hn with
  | nil=>exact⟨[],[],[],rfl,trivial,rfl,rfl,rfl,rfl,fun _ e he=>by cases he⟩
  | cons=>simp[idxX] at h
 | p::l,i,xs,es,qs,h,hv,hn=>by
  cases hn with
  | nil=>simp[idxX] at h
  | cons h0 hk hsu h2=>
   simp only[List.map_cons,idxX,List.cons.injEq] at h
   obtain⟨h1,h3⟩:=h
   obtain⟨vs,css,gs,h4,h5,h6,h7,h8,h9,h10⟩:=j9p hs l (i+1) _ _ _ h3 (fun q hq=>hv q (by simp[hq])) h2
   have h11:=hv p (by simp)
   cases h1
   have hys:=z3Z hs hsu h11
   obtain⟨news,k1,k2,k3,k4,k5⟩:=h0.ok hs hys
   have hl:(E.ev ρc p.2).cells.toList.length=k:=by rw[← k2,lnM,k1.len];exact hk
   refine⟨E.ev ρc p.2::vs,(E.ev ρc p.2).cells.toList::css,news::gs,by simp[idxL,h4],⟨by simp,hl,h5⟩,by simp[h6],⟨_,_,rfl,⟨hk,k1⟩,h7⟩,?_,?_,fun hm e he c hc=>?_⟩
   ·rw[q7g,k2,h8,List.flatten_cons]
   ·rw[z1d,k3,h9,List.flatMap_append]
   ·rcases List.mem_cons.1 he with rfl|he
    ·exact k5 hm c hc
    ·exact h10 hm e he c hc
section
variable {P:Program}{S:Start}{n:Nat}{ρ:AE}{σ:St}{o:Oper}
theorem q2X {T e k mm r' : Nat}{m:Md}{z:List Value}{parts:Array (Nat×Operand)}{xs:List X}{es:List (List Cell)}{qs:List Nat}(ho:o.op=.buildSlice T mm parts)(hT:q7D P T=some e)(hk:szT P e=some k)(hz:z2C P e=some z)(hzk:z.length=k)(hp:parts.toList.map (fun p=>(p.1,evX ρ p.2))=idxX 0 xs)(hn:NCs (fnOf σ) m k xs es qs)(hnd:z4O qs=true)
  (hl:es.length=mm) (hk0:Nat.blt 0 k=true) (hm:Nat.blt 0 mm=true) (hm2:Nat.ble (mm*k) 100000=true) (hr:fnOf σ r'=.none):LT P S o ρ σ [] (.ref r' none) ((qs.map fun q=>(q,.dead))++[(r',.deep m k es [])]):=by
 intro σ1 F g w ρc hs _ hwr hv
 have hr1:σ1 r'=.none:=(hwr (r',.deep m k es []) (by simp)).trans hr
 have hq1:∀ q∈qs,σ1 q=fnOf σ q:=fun q hq=>hwr (q,.dead) (List.mem_append.2 (.inl (List.mem_map.2 ⟨q,hq,rfl⟩)))
 have hn1:=hn.congr hq1
 obtain⟨vs,css,gs,h1,h2,h3,h4,h5,h6,h7⟩:=j9p hs (ρc:=ρc) parts.toList 0 xs es qs hp (fun p hp=>hv p.2 (by simp only[ho,Op.operands];simpa using ⟨p.1,by simpa using hp⟩)) hn1
 have hp' : parts.map (fun p=>(p.1,E.ev ρc p.2))=(idxL 0 vs).toArray:=by
  apply Array.ext';simpa using h1
 have hrun:=j6N (P:=P) (w:=w) hT hk hz hzk h2 (h3.trans hl) hk0 hm hm2
 have he:(execOp (E.ev ρc) o).run P w=.ok (.value (.slice (some ⟨w.heap.size,0,none⟩) mm mm)) (w.alloc (.cells css.flatten.toArray e)):=by
  simp only[execOp,ho,hp',Sem.run_bind,hrun,Result.andThen_ok,Sem.run_pure]
 rw[he]
 have hx:=Ext.alloc w (.cells css.flatten.toArray e)
 have hb:=q9L w e css.flatten
 have hlen:css.flatten.length=mm*k:=by rw[← h5,z9K (z1e h4),h4.len,hl]
 have hm2' : mm*k≤100000:=by simpa using hm2
 have hk' : 0<k:=by simpa using hk0
 have hmm:mm≤mm*k:=Nat.le_mul_of_pos_right mm hk'
 have bq:∀ b∈gbl gs,∃ q∈qs,b∈bl (g q):=fun b hb=>by rw[h6] at hb;exact List.mem_flatMap.1 hb
 have hq0:∀ q∈qs,g q≠.none:=fun q hq=>by
  obtain⟨c,hc⟩:=hn1.alive q hq
  obtain⟨v,k,L,gs,e⟩:=hc.isrow (hs.roots q)
  rw[e];intro h;cases h
 obtain⟨g',k1,k2,k3⟩:=hs.regrowL (r':=r') (qs:=qs) (x:=.deep m k es []) (v':=.slice (some ⟨w.heap.size,0,none⟩) mm mm) (k:=k) (L':=[w.heap.size]) (gs':=gs) hr1 hq0 hx (fun _ h _=>h.elim)
  (fun hkeep g' _=>⟨⟨rfl,⟨e,⟨by rw[h5,hlen,hl],.inr ⟨w.heap.size,mm,css.flatten.toArray,by rw[hl],Nat.zero_le _,hb,by rw[hl];exact Nat.le_refl _,by show _≤9223372036854775807;omega,by simpa using hlen,by simp only[h5];rw[hl,← hlen,List.take_length]⟩⟩,by simp[Value.ownBlock]⟩,
   h4.imp_mem fun e' ge' hm' he'=>⟨he'.1,cellOk.keepL hkeep he'.2 fun b hb=>by
    obtain⟨q,_,h8⟩:=bq b (List.mem_flatMap.2 ⟨ge',hm',hb⟩)
    exact hx.block b (hs.own q b h8).1 (fun h=>h)⟩⟩,holesOk.nil,h7⟩)
  (by
   simp only[bl,List.singleton_append,List.nodup_cons]
   refine⟨fun h=>?_,by rw[h6];exact z6l hs (q8D hnd)⟩
   obtain⟨q,_,h8⟩:=bq _ h
   exact Nat.lt_irrefl _ (hs.own q _ h8).1)
  (fun b hb'=>by
   simp only[bl,List.singleton_append,List.mem_cons] at hb'
   rcases hb' with rfl|hb'
   ·exact⟨hb.lt,.inr (Nat.le_refl _)⟩
   ·obtain⟨q,h7,h8⟩:=bq b hb'
    exact⟨Nat.lt_of_lt_of_le (hs.own q b h8).1 hx.size,.inl ⟨q,h7,h8⟩⟩)
 exact⟨F,g',k1,k2,k3⟩
theorem j5E {k:Nat}:∀ {gs:List (List GC)} (n:Nat),(∀ g∈gs,g.length=k)→q5A (gs.take n)=(q5A gs).take (n*k)∧(gbl (gs.take n)).Sublist (gbl gs)
 | [],n,_=>by simp[q5A,gbl]
 | g0::gs,0,_=>by simp[q5A,gbl]
 | g0::gs,n+1,h=>by
  obtain⟨h1,h2⟩:=j5E (gs:=gs) n fun g hg=>h g (by simp[hg])
  have h0:=h g0 (by simp)
  rw[List.take_succ_cons,q7g,q7g,z1d,z1d]
  refine⟨?_,h2.append_left _⟩
  rw[h1,show (n+1)*k=(g0.map (·.val)).length+n*k by rw[lnM,h0,Nat.add_mul];omega,List.take_length_add_append]
theorem OwnR.cut {w:World}{k:Nat}{A:Option Addr}{n c b:Nat}{L:List Nat}{cs:List Value}(h:OwnR w k (.slice A n c) n L cs)(hb:b≤n):OwnR w k (.slice A b c) b L (cs.take (b*k)):=by
 obtain⟨e,⟨hl,h⟩,hL⟩:=h
 have hbk:b*k≤n*k:=Nat.mul_le_mul_right k hb
 refine⟨e,⟨by rw[List.length_take];omega,?_⟩,?_⟩
 ·rcases h with ⟨h,h0⟩|⟨g,cap,cur,h,h0,h1,h2,h3,h4,h5⟩
  ·cases h;left;exact⟨by rw[show b=0 by omega],by omega⟩
  ·cases h
   refine .inr ⟨g,c,cur,rfl,h0,h1,by omega,h3,h4,?_⟩
   have:(cur.toList.take (n*k)).take (b*k)=cs.take (b*k):=by rw[h5]
   rwa[List.take_take,Nat.min_eq_left hbk] at this
 ·rw[hL];cases A<;>rfl
theorem q2Y {T e k r r' : Nat}{x y:Operand}{lo:Option Operand}{m mq:Md}{q:IntKind}{b:Int}{xs:List D}(ho:o.op=.slice T x none (some y) none)(hT:q7D P T=some e)(hk:szT P e=some k)(hx:evX ρ x=.ref r none)(hσ:fnOf σ r=.row m k xs)(hh:evX ρ y=.d mq (.i q b))(h1:0≤b)(h3:b.toNat≤xs.length)(hr' : fnOf σ r'=.none) :
  LT P S o ρ σ [] (.ref r' none) [(r,.dead),(r',.row m k (xs.take b.toNat))]:=by
 intro σ1 F g w ρc hs hrd hwr hv
 have hr1:σ1 r=.row m k xs:=(hwr (r,.dead) (by simp)).trans hσ
 have hr3:σ1 r'=.none:=(hwr (r',.row m k (xs.take b.toNat)) (by simp)).trans hr'
 obtain⟨v,L,gs,hg,hrow⟩:=z8u hs (.inr ⟨m,xs,hr1,rfl⟩)
 have hl:=z1e hrow.2
 obtain⟨A,c,e0,h5,h6⟩:=hrow.1.form
 rw[lnM] at e0
 subst e0
 have e1:=hv x (by simp[ho,Op.operands])
 rw[hx,vr,hg] at e1
 have e2:=e1 _ _ rfl
 rw[lnM] at h5
 have e3:=hv y (by simp[ho,Op.operands])
 rw[hh,vr,rdC] at e3
 replace e3:=e3.1
 rw[← j3L h1] at e3
 have hev:=q0W (P:=P) (w:=w) ho hT hk e2 e3 (by omega)
 have hcut:cutS A 0 b.toNat c k=.slice A b.toNat c:=by
  unfold cutS
  simp only[Nat.zero_mul,Nat.sub_zero]
  by_cases hc:c=0
  ·rw[ifP hc]
  ·rw[ifN hc]
   cases A with
   | none=>rfl
   | some a=>cases a;simp[Addr.add]
 rw[hcut] at hev
 rw[show (execOp (E.ev ρc) o).run P w=.ok (.value (.slice A b.toNat c)) w from hev]
 have hown:=hrow.1
 rw[lnM] at hown
 have hown':=hown.cut h3
 obtain⟨t1,t2⟩:=j5E b.toNat hl
 have n1:=hs.nodup r
 rw[hg] at n1
 obtain⟨g',k1,k2,k3⟩:=hs.regrowL (r':=r') (qs:=[r]) (x:=.row m k (xs.take b.toNat)) (v':=.slice A b.toNat c) (k:=k) (L':=L) (gs':=gs.take b.toNat) hr3
  (fun q hq=>by
   rw[List.mem_singleton] at hq;subst hq
   rw[hg];intro h;cases h) (Ext.refl w) (fun _ h _=>h.elim)
  (fun hkeep g' _=>⟨rfl,by rw[t1,lnM,List.length_take,Nat.min_eq_left h3];exact hown',by rw[List.map_take];exact hrow.2.take _⟩)
  (List.Sublist.nodup (by simp only[bl];exact t2.append_left _) n1)
  (fun b hb=>by
   have:b∈bl (g r):=by
    rw[hg]
    simp only[bl,List.mem_append] at hb ⊢
    exact hb.imp id fun h=>t2.subset h
   exact⟨(hs.own r b this).1,.inl ⟨r,by simp,this⟩⟩)
 exact⟨F,g',k1,k2,k3⟩
theorem q2Z {T e k r r' : Nat}{x y:Operand}{lo:Option Operand}{m mq:Md}{q:IntKind}{b:Int}{es:List (List Cell)}(ho:o.op=.slice T x none (some y) none)(hT:q7D P T=some e)(hk:szT P e=some k)(hx:evX ρ x=.ref r none)(hσ:fnOf σ r=.deep m k es [])(hh:evX ρ y=.d mq (.i q b))(h1:0≤b)(h3:b.toNat≤es.length)(hr' : fnOf σ r'=.none) :
  LT P S o ρ σ [] (.ref r' none) [(r,.dead),(r',.deep m k (es.take b.toNat) [])]:=by
 intro σ1 F g w ρc hs hrd hwr hv
 have hr1:σ1 r=.deep m k es []:=(hwr (r,.dead) (by simp)).trans hσ
 have hr3:σ1 r'=.none:=(hwr (r',.deep m k (es.take b.toNat) []) (by simp)).trans hr'
 obtain⟨v,L,gs,hg,hrow,_,hfz⟩:=j5D hs hr1
 have hl:=z1e hrow.2
 obtain⟨A,c,e0,h5,h6⟩:=hrow.1.form
 subst e0
 have e1:=hv x (by simp[ho,Op.operands])
 rw[hx,vr,hg] at e1
 have e2:=e1 _ _ rfl
 have e3:=hv y (by simp[ho,Op.operands])
 rw[hh,vr,rdC] at e3
 replace e3:=e3.1
 rw[← j3L h1] at e3
 have hev:=q0W (P:=P) (w:=w) ho hT hk e2 e3 (by omega)
 have hcut:cutS A 0 b.toNat c k=.slice A b.toNat c:=by
  unfold cutS
  simp only[Nat.zero_mul,Nat.sub_zero]
  by_cases hc:c=0
  ·rw[ifP hc]
  ·rw[ifN hc]
   cases A with
   | none=>rfl
   | some a=>cases a;simp[Addr.add]
 rw[hcut] at hev
 rw[show (execOp (E.ev ρc) o).run P w=.ok (.value (.slice A b.toNat c)) w from hev]
 have hown':=hrow.1.cut h3
 obtain⟨t1,t2⟩:=j5E b.toNat hl
 have n1:=hs.nodup r
 rw[hg] at n1
 obtain⟨g',k1,k2,k3⟩:=hs.regrowL (r':=r') (qs:=[r]) (x:=.deep m k (es.take b.toNat) []) (v':=.slice A b.toNat c) (k:=k) (L':=L) (gs':=gs.take b.toNat) hr3
  (fun q hq=>by
   rw[List.mem_singleton] at hq;subst hq
   rw[hg];intro h;cases h) (Ext.refl w) (fun _ h _=>h.elim)
  (fun hkeep g' _=>⟨⟨rfl,by rw[t1,List.length_take,Nat.min_eq_left h3];exact hown',hrow.2.take _⟩,holesOk.nil,fun hm e he=>hfz hm e (List.mem_of_mem_take he)⟩)
  (List.Sublist.nodup (by simp only[bl];exact t2.append_left _) n1)
  (fun b hb=>by
   have:b∈bl (g r):=by
    rw[hg]
    simp only[bl,List.mem_append] at hb ⊢
    exact hb.imp id fun h=>t2.subset h
   exact⟨(hs.own r b this).1,.inl ⟨r,by simp,this⟩⟩)
 exact⟨F,g',k1,k2,k3⟩
end
structure TI where
 sz:Nat:=1
 by_:Nat:=0
 agg:Bool:=false
 el:Option Nat:=none
 str:Bool:=false
 fo:List (Option Nat):=[]
 ft:List (Option (Nat×Nat)):=[]
 pl:List (Nat×Nat):=[]
 z:Option (List X):=none
 ik:Option IntKind:=none
 fk:Option (List FK):=none
abbrev Tab:=List (Nat×TI)
def Tab.get:Tab→Nat→Option TI
 | [],_=>none
 | (i,t)::l,T=>bif Nat.beq i T then some t else Tab.get l T
def eqZ1:X→Value→Bool
 | .d _ (.i k n),.int k' m=>rngB k n&&(decide (k=k')&&decide (n=m))
 | .d _ (.b b),.bool c=>b == c
 | .d _ (.s t),.string s=>Nat.beq t.size 0&&Nat.beq s.size 0
 | .nl _,.slice none 0 0=>true
 | .u,_=>true
 | _,_=>false
def eqZ:List X→List Value→Bool
 | [],[]=>true
 | x::xs,v::vs=>eqZ1 x v&&eqZ xs vs
 | _,_=>false
def eqK:List FK→List FK→Bool
 | [],[]=>true
 | .int::xs,.int::ys=>eqK xs ys
 | .str::xs,.str::ys=>eqK xs ys
 | .bool::xs,.bool::ys=>eqK xs ys
 | _,_=>false
def j7X {α:Type}(p:Nat→α→Bool):Nat→List α→Bool
 | _,[]=>true
 | i,x::l=>p i x&&j7X p (i+1) l
def TI.chk (P:Program)(T:Nat)(t:TI):Bool:=
 (szT P T == some t.sz)&&(t.by_ == 0||byT P T == some t.by_)&&(aggT P T == some t.agg)&&(match t.el with|some e=>q7D P T == some e|none=>true)&&(!t.str||strT P T) &&
 j7X (fun i o=>match o with|some k=>z6O P T i == some k|none=>true) 0 t.fo&&j7X (fun i o=>match o with|some (ft,off)=>z4M P T i == some (ft,off)|none=>true) 0 t.ft&&(t.pl.isEmpty||z9u P T == some t.pl) &&
 (match t.z with|some zs=>(match z2C P T with|some z=>eqZ zs z|none=>false)|none=>true)&&(match t.ik with|some k=>(match intT P T with|some k'=>decide (k=k')|none=>false)|none=>true)&&(match t.fk with|some ks=>(match j7R P T with|some ks'=>eqK ks ks'|none=>false)|none=>true)
def Tab.ok (P:Program)(tab:Tab):Bool:=tab.all fun p=>p.2.chk P p.1
theorem k3G {x:X}{v:Value}(h:eqZ1 x v=true)(S1:Md→Nat→Prop)(w:World)(g:Nat→G):vr S1 w g x v:=by
 unfold eqZ1 at h
 split at h
 ·simp only[Bool.and_eq_true,decide_eq_true_eq] at h
  obtain⟨h0,rfl,rfl⟩:=h
  rw[vr,rdC]
  exact⟨rfl,j6G h0⟩
 ·rename_i b c
  have:b=c:=by simpa using h
  subst this
  rw[vr,rdC]
 ·rename_i t s
  simp only[Bool.and_eq_true] at h
  have h1:t=s:=by
   have e1:=Nat.eq_of_beq_eq_true h.1
   have e2:=Nat.eq_of_beq_eq_true h.2
   cases t with|mk a=>cases s with|mk b=>
    congr 1
    have e1:a.size=0:=e1
    have e2:b.size=0:=e2
    rw[Array.eq_empty_of_size_eq_zero e1,Array.eq_empty_of_size_eq_zero e2]
  have hs:t.size≤9223372036854775807:=by rw[Nat.eq_of_beq_eq_true h.1];exact Nat.zero_le _
  subst h1
  rw[vr,rdC]
  exact⟨rfl,hs⟩
 ·rw[vr]
 ·rw[vr];trivial
 ·cases h
theorem j9q:∀ {xs:List X} {vs:List Value},eqZ xs vs=true→∀ (S1:Md→Nat→Prop) (w:World) (g:Nat→G),vrs S1 w g xs vs
 | [],[],_,_,_,_=>by rw[vrs]
 | x::xs,v::vs,h,S1,w,g=>by
  simp only[eqZ,Bool.and_eq_true] at h
  rw[vrs]
  exact⟨v,vs,rfl,k3G h.1 S1 w g,j9q h.2 S1 w g⟩
 | [],_::_,h,_,_,_=>by cases h
 | _::_,[],h,_,_,_=>by cases h
theorem j6Y:∀ {xs ys:List FK},eqK xs ys=true→xs=ys
 | [],[],_=>rfl
 | .int::xs,.int::ys,h=>by rw[j6Y (xs:=xs) (ys:=ys) h]
 | .str::xs,.str::ys,h=>by rw[j6Y (xs:=xs) (ys:=ys) h]
 | .bool::xs,.bool::ys,h=>by rw[j6Y (xs:=xs) (ys:=ys) h]
 | [],_::_,h=>by cases h
 | .int::_,[],h=>by cases h
 | .str::_,[],h=>by cases h
 | .bool::_,[],h=>by cases h
 | .int::_,.str::_,h=>by cases h
 | .int::_,.bool::_,h=>by cases h
 | .str::_,.int::_,h=>by cases h
 | .str::_,.bool::_,h=>by cases h
 | .bool::_,.int::_,h=>by cases h
 | .bool::_,.str::_,h=>by cases h
theorem z9L {α:Type}{p:Nat→α→Bool}:∀ {l:List α} {k i:Nat} {x:α},j7X p k l=true→l[i]?=some x→p (k+i) x=true
 | [],_,_,_,_,h=>by simp at h
 | y::l,k,0,x,h,hx=>by simp at hx;subst hx;simp only[j7X,Bool.and_eq_true] at h;exact h.1
 | y::l,k,i+1,x,h,hx=>by
  simp only[j7X,Bool.and_eq_true] at h
  have:=z9L (i:=i) h.2 (by simpa using hx)
  rwa[show k+1+i=k+(i+1) by omega] at this
section
variable {P:Program}{tab:Tab}{T:Nat}{t:TI}
theorem Tab.chk (h:tab.ok P=true)(hT:tab.get T=some t):t.chk P T=true:=by
 induction tab with
 | nil=>cases hT
 | cons p l ih=>
  simp only[Tab.ok,List.all_cons,Bool.and_eq_true] at h
  simp only[Tab.get] at hT
  cases hb:Nat.beq p.1 T with
  | true=>
   rw[hb] at hT
   simp only[cond_true,Option.some.injEq] at hT
   have:=Nat.eq_of_beq_eq_true hb
   subst this;subst hT
   exact h.1
  | false=>rw[hb] at hT;exact ih h.2 hT
theorem TI.sz' (h:t.chk P T=true):szT P T=some t.sz:=by
 simp only[TI.chk,Bool.and_eq_true] at h;simpa using h.1.1.1.1.1.1.1.1.1.1
theorem TI.by' (h:t.chk P T=true){b:Nat}(hb:t.by_=b+1):byT P T=some t.by_:=by
 simp only[TI.chk,Bool.and_eq_true] at h
 have:=h.1.1.1.1.1.1.1.1.1.2
 rw[hb] at this ⊢
 simpa using this
theorem TI.agg' (h:t.chk P T=true):aggT P T=some t.agg:=by
 simp only[TI.chk,Bool.and_eq_true] at h;simpa using h.1.1.1.1.1.1.1.1.2
theorem TI.el' (h:t.chk P T=true){e:Nat}(he:t.el=some e):q7D P T=some e:=by
 simp only[TI.chk,Bool.and_eq_true] at h
 have:=h.1.1.1.1.1.1.1.2
 rw[he] at this
 simpa using this
theorem TI.str' (h:t.chk P T=true)(he:t.str=true):P.underlying T=some .string:=by
 simp only[TI.chk,Bool.and_eq_true] at h
 have:=h.1.1.1.1.1.1.2
 rw[he] at this
 simp only[Bool.not_true,Bool.false_or] at this
 unfold strT at this
 split at this
 ·rename_i hu;exact hu
 ·cases this
theorem TI.fo' (h:t.chk P T=true){i k:Nat}(he:t.fo[i]?=some (some k)):z6O P T i=some k:=by
 simp only[TI.chk,Bool.and_eq_true] at h
 have:=z9L h.1.1.1.1.1.2 he
 rw[Nat.zero_add] at this
 simpa using this
theorem TI.ft' (h:t.chk P T=true){i:Nat}{p:Nat×Nat}(he:t.ft[i]?=some (some p)):z4M P T i=some p:=by
 simp only[TI.chk,Bool.and_eq_true] at h
 have:=z9L h.1.1.1.1.2 he
 rw[Nat.zero_add] at this
 simpa using this
theorem TI.pl' (h:t.chk P T=true){p:Nat×Nat}{l:List (Nat×Nat)}(he:t.pl=p::l):z9u P T=some t.pl:=by
 simp only[TI.chk,Bool.and_eq_true] at h
 have:=h.1.1.1.2
 rw[he] at this ⊢
 simpa using this
theorem TI.z' (h:t.chk P T=true){zs:List X}(he:t.z=some zs):∃ z,z2C P T=some z∧∀ (S1:Md→Nat→Prop) (w:World) (g:Nat→G),vrs S1 w g zs z:=by
 simp only[TI.chk,Bool.and_eq_true] at h
 have:=h.1.1.2
 rw[he] at this
 simp only at this
 split at this
 ·rename_i z hz;exact⟨z,hz,j9q this⟩
 ·cases this
theorem TI.ik' (h:t.chk P T=true){k:IntKind}(he:t.ik=some k):intT P T=some k:=by
 simp only[TI.chk,Bool.and_eq_true] at h
 have:=h.1.2
 rw[he] at this
 simp only at this
 split at this
 ·rename_i k' hk
  simp only[decide_eq_true_eq] at this
  rw[hk,this]
 ·cases this
theorem TI.fk' (h:t.chk P T=true){ks:List FK}(he:t.fk=some ks):j7R P T=some ks:=by
 simp only[TI.chk,Bool.and_eq_true] at h
 have:=h.2
 rw[he] at this
 simp only at this
 split at this
 ·rename_i k' hk;rw[hk,j6Y this]
 ·cases this
end
def cmpI (op:BinOp)(a b:Int):Option Bool:=match op with
 | .lss=>some (decide (a<b))
 | .leq=>some (decide (a≤b))
 | .gtr=>some (decide (b<a))
 | .geq=>some (decide (b≤a))
 | .eql=>some (decide (a=b))
 | .neq=>some (!decide (a=b))
 | _=>none
def cmpS (op:BinOp)(a b:ByteArray):Option Bool:=match op with
 | .eql=>some (decide (a=b))
 | .neq=>some (!decide (a=b))
 | .lss=>some (Op.bytesLess a.toList b.toList)
 | .gtr=>some (!(Op.bytesLess a.toList b.toList||decide (a=b)))
 | .geq=>some (!Op.bytesLess a.toList b.toList)
 | .leq=>some (Op.bytesLess a.toList b.toList||decide (a=b))
 | _=>none
def opB (op:BinOp):X→X→Option Bool
 | .d _ (.i k a),.d _ (.i k' b)=>if k=k' then cmpI op a b else none
 | .d _ (.s a),.d _ (.s b)=>cmpS op a b
 | _,_=>none
theorem k3H {P:Program}{T:TypeId}{op:BinOp}{x y:X}{r:Bool}(h:opB op x y=some r):∃ u v,cvX x=some u∧cvX y=some v∧Bin P op T u v (.bool r):=by
 unfold opB at h
 split at h
 ·rename_i k a _ k' b
  split at h
  ·rename_i hk
   subst hk
   refine⟨_,_,rfl,rfl,?_⟩
   cases op<;>simp only[cmpI] at h<;>cases h
   ·exact q2z
   ·exact q2A
   ·exact q2v
   ·exact q2w
   ·exact q2x
   ·exact q2y
  ·cases h
 ·rename_i a _ b
  refine⟨_,_,rfl,rfl,?_⟩
  cases op<;>simp only[cmpS] at h<;>cases h
  ·exact q1N
  ·exact q1O
  ·exact q2c
  ·exact q2f
  ·exact q2d
  ·exact q2e
 ·cases h
def opV (tab:Tab)(ρ:AE)(σ:St):Op→Option (X×List Nat)
 | .move x=>some (evX ρ x,[])
 | .assign x=>some (evX ρ x,[])
 | .pick c x y=>match evX ρ c with|.d _ (.b b)=>some (if b then evX ρ x else evX ρ y,[])|_=>none
 | .fieldAddr T x i=>match tab.get T with
  | some t=>match t.fo[i]? with
   | some (some k)=>match evX ρ x with
    | .pb r c=>match fnOf σ r with|.box _=>some (.pb r (c+k),[r])|_=>none
    | .pf m ds=>some (.pf m (ds.drop k),[])
    | .pe r l j c=>match esAt (fnOf σ r) l with|some _=>some (.pe r l j (c+k),[r])|none=>none
    | _=>none
   | _=>none
  | none=>none
 | .load T x=>match tab.get T with
  | some t=>match t.agg with
   | false=>match evX ρ x with
    | .pb r c=>match fnOf σ r with
     | .box cs=>match cs[c]? with|some y=>some (y,[r])|none=>none
     | _=>none
    | .pf m (d::_)=>some (dX m d,[])
    | _=>none
   | true=>match evX ρ x with
    | .pb r c=>match fnOf σ r with
     | .box cs=>match Nat.beq ((cs.drop c).take t.sz).length t.sz with|true=>some (.ag ((cs.drop c).take t.sz),[r])|false=>none
     | _=>none
    | .pf m ds=>match Nat.beq (ds.take t.sz).length t.sz with|true=>some (.ag ((ds.take t.sz).map (dX m)),[])|false=>none
    | _=>none
  | none=>none
 | .nilCheck x=>match evX ρ x with
  | .pb r c=>match fnOf σ r with|.box _=>some (.pb r c,[r])|_=>none
  | _=>none
 | .extract x k=>match evX ρ x with
  | .tu xs=>match xs[k]? with|some y=>some (y,[])|none=>none
  | _=>none
 | .field T x i=>match tab.get T with
  | some t=>match t.ft[i]? with
   | some (some (ft,off))=>match tab.get ft with
    | some tf=>match evX ρ x with
     | .ag xs=>match tf.agg with
      | false=>match xs[off]? with|some y=>some (y,[])|none=>none
      | true=>some (.ag ((xs.drop off).take tf.sz),[])
     | _=>none
    | none=>none
   | _=>none
  | none=>none
 | .unOp .not _ x=>match evX ρ x with|.d _ (.b b)=>some (.d .fz (.b (!b)),[])|_=>none
 | .binOp op _ x y _=>match opB op (evX ρ x) (evX ρ y) with|some b=>some (.d .fz (.b b),[])|none=>none
 | .makeFunc fn first c=>match fn,first.toList with|.func f,[]=>some (.fn f (c.toList.map (evX ρ)),[])|_,_=>none
 | .build T parts=>match tab.get T with
  | some t=>match t.pl,t.z with
   | _::_,some zs=>
    match (parts.toList.all fun p=>z3Y (fnOf σ) (evX ρ p.2))&&z3k t.pl zs.length (parts.toList.map fun p=>(p.1,(evX ρ p.2).cells.length)) with
    | true=>some (.ag (layP t.pl zs (parts.toList.map fun p=>(p.1,(evX ρ p.2).cells))),parts.toList.flatMap fun p=>q8g (evX ρ p.2))
    | false=>none
   | _,_=>none
  | none=>none
 | _=>none
section
variable {P:Program}{S:Start}{ρ:AE}{σ:St}{o:Oper}
theorem q1z {tab:Tab}(ht:tab.ok P=true){v:X}{rd:List Nat}(h:Go.A.opV tab ρ σ o.op=some (v,rd)):LT P S o ρ σ rd v []:=by
 unfold Go.A.opV at h
 split at h
 ·rename_i x ho;cases h;exact LT.mv ho
 ·rename_i x ho;cases h;exact LT.as ho
 ·rename_i c x y ho
  split at h
  ·rename_i hc;cases h;exact q2L ho hc
  ·cases h
 ·rename_i T x i ho
  split at h
  ·rename_i t hT
   split at h
   ·rename_i k hk
    have hf:=TI.fo' (Tab.chk ht hT) hk
    split at h
    ·rename_i r c hx
     split at h
     ·rename_i cs hσ;cases h;exact q3q ho hf hx hσ
     ·cases h
    ·rename_i m ds hx;cases h;exact q3r ho hf hx
    ·rename_i r l j c hx
     split at h
     ·rename_i p hσ;cases h;exact q3s ho hf hx hσ
     ·cases h
    ·cases h
   ·cases h
  ·cases h
 ·rename_i T x ho
  split at h
  ·rename_i t hT
   have hc:=Tab.chk ht hT
   have hag:=TI.agg' hc
   have hsz:=TI.sz' hc
   split at h
   ·rename_i ha
    rw[ha] at hag
    split at h
    ·rename_i r c hx
     split at h
     ·rename_i cs hσ
      split at h
      ·rename_i y hy;cases h;exact q3t ho hag hx hσ hy
      ·cases h
     ·cases h
    ·rename_i m d ds hx;cases h;exact q3u ho hag hx
    ·cases h
   ·rename_i ha
    rw[ha] at hag
    split at h
    ·rename_i r c hx
     split at h
     ·rename_i cs hσ
      split at h
      ·rename_i hl;cases h;exact q2M ho hag hsz hx hσ (Nat.eq_of_beq_eq_true hl)
      ·cases h
     ·cases h
    ·rename_i m ds hx
     split at h
     ·rename_i hl;cases h;exact q2N ho hag hsz hx (Nat.eq_of_beq_eq_true hl)
     ·cases h
    ·cases h
  ·cases h
 ·rename_i x ho
  split at h
  ·rename_i r c hx
   split at h
   ·rename_i cs hσ;cases h;exact q2S ho hx hσ
   ·cases h
  ·cases h
 ·rename_i x k ho
  split at h
  ·rename_i xs hx
   split at h
   ·rename_i y hy;cases h;exact LT.ext ho hx hy
   ·cases h
  ·cases h
 ·rename_i T x i ho
  split at h
  ·rename_i t hT
   split at h
   ·rename_i ft off hf
    have hfy:=TI.ft' (Tab.chk ht hT) hf
    split at h
    ·rename_i tf hft
     have hc:=Tab.chk ht hft
     split at h
     ·rename_i xs hx
      split at h
      ·rename_i ha
       split at h
       ·rename_i y hy;cases h;exact q3B ho hfy (by rw[TI.agg' hc,ha]) hx hy
       ·cases h
      ·rename_i ha
       cases h
       exact q2R ho hfy (by rw[TI.agg' hc,ha]) (TI.sz' hc) hx
     ·cases h
    ·cases h
   ·cases h
  ·cases h
 ·rename_i T x ho
  split at h
  ·rename_i hx;cases h;exact q3A ho hx
  ·cases h
 ·rename_i op T x y U ho
  split at h
  ·rename_i b hb
   cases h
   obtain⟨u,v,h1,h2,h3⟩:=k3H (P:=P) (T:=T) hb
   exact q0G ho rfl rfl h1 h2 (fun _ _=>⟨h3,trivial⟩) rfl
  ·cases h
 ·rename_i fn first c ho
  split at h
  ·rename_i f hf
   cases h
   refine q3C ?_
   rw[ho]
   congr 1
   exact Array.toList_eq_nil_iff.1 hf
  ·cases h
 ·rename_i T parts ho
  split at h
  ·rename_i t hT
   have hc:=Tab.chk ht hT
   split at h
   ·rename_i p l zs hp hz
    split at h
    ·rename_i hok
     cases h
     simp only[Bool.and_eq_true] at hok
     obtain⟨z,hz1,hz2⟩:=TI.z' hc hz
     have:=LT.build (S:=S) (ρ:=ρ) (σ:=σ) ho (TI.pl' hc hp) hz1 hz2 rfl (by simpa[List.all_map] using hok.1) (by simpa[List.map_map,Function.comp_def] using hok.2) rfl
     simpa[List.map_map,Function.comp_def,List.flatMap_map] using this
    ·cases h
   ·cases h
  ·cases h
 ·cases h
end
section
variable {P:Program}{S:Start}{n0 nt:Nat}{Q:q4h}{ρ:AE}{σ:St}{c:Code}
theorem q0d {α β:Type}{f:Nat→α→β→Option β}{xs:List α}{s0 s1:β}(hr:Go.E.eachL f 0 xs s0=some s1)(hl:(xs.length:Int)≤9223372036854775807)(n:Nat)(L:Nat→β→List (Nat×X))(R:Nat→β→List (Nat×Root))
  (h0:GH S ρ σ (ofX (L 0 s0)) (owrL (σ.take n) (R 0 s0)))
  (step:∀ k x s s',xs[k]?=some x→f k x s=some s'→(k:Int)<xs.length→AW P S nt c (z6k (fun ρ' σ'=>GH S ρ' σ' (ofX (L (k+1) s')) (owrL (σ.take n) (R (k+1) s'))) Q) (ofX (L k s)) (owrL (σ.take n) (R k s)))
  (fin:∀ k:Nat,¬ (k:Int)<xs.length→AW P S nt c (z6k (fun _ _=>False) Q) (ofX (L k s1)) (owrL (σ.take n) (R k s1))):AW P S nt (.loop c) Q ρ σ:=by
 refine q0y (α:={ p:Nat×β // p.1≤xs.length∧Go.E.eachL f p.1 (xs.drop p.1) p.2=some s1 }) (fun x=>ofX (L x.1.1 x.1.2)) (fun x=>owrL (σ.take n) (R x.1.1 x.1.2)) (fun x=>xs.length-x.1.1) ⟨(0,s0),Nat.zero_le _,hr⟩ h0 ?_
 rintro⟨⟨k,s⟩,hk,he⟩
 simp only at hk he
 by_cases hlt:k<xs.length
 ·have hx:xs[k]?=some xs[k]:=List.getElem?_eq_getElem hlt
  rw[List.drop_eq_getElem_cons hlt,Go.E.eachL] at he
  obtain⟨s',h1,h2⟩:=Option.bind_eq_some_iff.1 he
  refine (step k xs[k] s s' hx h1 (by omega)).mono fun e ρ' σ' h=>?_
  cases e with
  | normal=>exact⟨⟨(k+1,s'),hlt,h2⟩,h,by simp only;omega⟩
  | _=>exact h
 ·rw[List.drop_of_length_le (by omega),Go.E.eachL] at he
  cases he
  refine (fin k (by omega)).mono fun e ρ' σ' h=>?_
  cases e with
  | normal=>exact h.elim
  | _=>exact h
theorem q0b {α β γ:Type}{f:Nat→α→β→Option (β ⊕ γ)}{xs:List α}{s0:β}{out:β ⊕ γ}(hr:Go.E.findL f 0 xs s0=some out)(hl:(xs.length:Int)≤9223372036854775807)(n:Nat)(L:Nat→β→List (Nat×X))(R:Nat→β→List (Nat×Root))
  (h0:GH S ρ σ (ofX (L 0 s0)) (owrL (σ.take n) (R 0 s0)))
  (step:∀ k x s o,xs[k]?=some x→f k x s=some o→(k:Int)<xs.length→(∀ r1,o=.inr r1→out=.inr r1)→AW P S nt c (z6k (fun ρ' σ'=>∃ s',o=.inl s'∧GH S ρ' σ' (ofX (L (k+1) s')) (owrL (σ.take n) (R (k+1) s'))) Q) (ofX (L k s)) (owrL (σ.take n) (R k s)))
  (fin:∀ (k:Nat) s1,out=.inl s1→¬ (k:Int)<xs.length→AW P S nt c (z6k (fun _ _=>False) Q) (ofX (L k s1)) (owrL (σ.take n) (R k s1))):AW P S nt (.loop c) Q ρ σ:=by
 refine q0y (α:={ p:Nat×β // p.1≤xs.length∧Go.E.findL f p.1 (xs.drop p.1) p.2=some out }) (fun x=>ofX (L x.1.1 x.1.2)) (fun x=>owrL (σ.take n) (R x.1.1 x.1.2)) (fun x=>xs.length-x.1.1) ⟨(0,s0),Nat.zero_le _,hr⟩ h0 ?_
 rintro⟨⟨k,s⟩,hk,he⟩
 simp only at hk he
 by_cases hlt:k<xs.length
 ·have hx:xs[k]?=some xs[k]:=List.getElem?_eq_getElem hlt
  rw[List.drop_eq_getElem_cons hlt,Go.E.findL] at he
  obtain⟨o,h1,h2⟩:=Option.bind_eq_some_iff.1 he
  refine (step k xs[k] s o hx h1 (by omega) (fun r1 e=>by subst e;simpa using h2.symm)).mono fun e ρ' σ' h=>?_
  cases e with
  | normal=>
   obtain⟨s',rfl,h⟩:=h
   exact⟨⟨(k+1,s'),hlt,h2⟩,h,by simp only;omega⟩
  | _=>exact h
 ·rw[List.drop_of_length_le (by omega),Go.E.findL] at he
  cases he
  refine (fin k s rfl (by omega)).mono fun e ρ' σ' h=>?_
  cases e with
  | normal=>exact h.elim
  | _=>exact h
theorem q0i {β:Type}{f:Nat→β→Option β}{m:Nat}{s0 s1:β}(hr:Go.E.eachN f 0 m s0=some s1)(n:Nat)(L:Nat→β→List (Nat×X))(R:Nat→β→List (Nat×Root))
  (h0:GH S ρ σ (ofX (L 0 s0)) (owrL (σ.take n) (R 0 s0)))
  (step:∀ k s s',f k s=some s'→k<m→AW P S nt c (z6k (fun ρ' σ'=>GH S ρ' σ' (ofX (L (k+1) s')) (owrL (σ.take n) (R (k+1) s'))) Q) (ofX (L k s)) (owrL (σ.take n) (R k s)))
  (fin:AW P S nt c (z6k (fun _ _=>False) Q) (ofX (L m s1)) (owrL (σ.take n) (R m s1))):AW P S nt (.loop c) Q ρ σ:=by
 refine q0y (α:={ p:Nat×β // p.1≤m∧Go.E.eachN f p.1 (m-p.1) p.2=some s1 }) (fun x=>ofX (L x.1.1 x.1.2)) (fun x=>owrL (σ.take n) (R x.1.1 x.1.2)) (fun x=>m-x.1.1) ⟨(0,s0),Nat.zero_le _,hr⟩ h0 ?_
 rintro⟨⟨k,s⟩,hk,he⟩
 simp only at hk he
 by_cases hlt:k<m
 ·rw[show m-k=(m-(k+1))+1 by omega,Go.E.eachN] at he
  obtain⟨s',h1,h2⟩:=Option.bind_eq_some_iff.1 he
  refine (step k s s' h1 hlt).mono fun e ρ' σ' h=>?_
  cases e with
  | normal=>exact⟨⟨(k+1,s'),hlt,h2⟩,h,by simp only;omega⟩
  | _=>exact h
 ·have hkm:k=m:=by omega
  subst hkm
  rw[Nat.sub_self,Go.E.eachN] at he
  cases he
  refine fin.mono fun e ρ' σ' h=>?_
  cases e with
  | normal=>exact h.elim
  | _=>exact h
theorem q0u {β γ:Type}{f:Nat→β→Option (β ⊕ γ)}{m:Nat}{s0:β}{out:β ⊕ γ}(hr:Go.E.findN f 0 m s0=some out)(n:Nat)(L:Nat→β→List (Nat×X))(R:Nat→β→List (Nat×Root))
  (h0:GH S ρ σ (ofX (L 0 s0)) (owrL (σ.take n) (R 0 s0)))
  (step:∀ k s o,f k s=some o→k<m→(∀ r1,o=.inr r1→out=.inr r1)→AW P S nt c (z6k (fun ρ' σ'=>∃ s',o=.inl s'∧GH S ρ' σ' (ofX (L (k+1) s')) (owrL (σ.take n) (R (k+1) s'))) Q) (ofX (L k s)) (owrL (σ.take n) (R k s)))
  (fin:∀ s1,out=.inl s1→AW P S nt c (z6k (fun _ _=>False) Q) (ofX (L m s1)) (owrL (σ.take n) (R m s1))):AW P S nt (.loop c) Q ρ σ:=by
 refine q0y (α:={ p:Nat×β // p.1≤m∧Go.E.findN f p.1 (m-p.1) p.2=some out }) (fun x=>ofX (L x.1.1 x.1.2)) (fun x=>owrL (σ.take n) (R x.1.1 x.1.2)) (fun x=>m-x.1.1) ⟨(0,s0),Nat.zero_le _,hr⟩ h0 ?_
 rintro⟨⟨k,s⟩,hk,he⟩
 simp only at hk he
 by_cases hlt:k<m
 ·rw[show m-k=(m-(k+1))+1 by omega,Go.E.findN] at he
  obtain⟨o,h1,h2⟩:=Option.bind_eq_some_iff.1 he
  refine (step k s o h1 hlt (fun r1 e=>by subst e;simpa using h2.symm)).mono fun e ρ' σ' h=>?_
  cases e with
  | normal=>
   obtain⟨s',rfl,h⟩:=h
   exact⟨⟨(k+1,s'),hlt,h2⟩,h,by simp only;omega⟩
  | _=>exact h
 ·have hkm:k=m:=by omega
  subst hkm
  rw[Nat.sub_self,Go.E.findN] at he
  cases he
  refine (fin s rfl).mono fun e ρ' σ' h=>?_
  cases e with
  | normal=>exact h.elim
  | _=>exact h
theorem q0h {β γ:Type}{f:β→Option (β ⊕ γ)}{s0:β}{r:γ}(hr:q5s f s0=some r)(n:Nat)(L:β→List (Nat×X))(R:β→List (Nat×Root))
  (h0:GH S ρ σ (ofX (L s0)) (owrL (σ.take n) (R s0)))
  (step:∀ s o,f s=some o→(∀ r1,o=.inr r1→r=r1)→AW P S nt c (z6k (fun ρ' σ'=>∃ s',o=.inl s'∧GH S ρ' σ' (ofX (L s')) (owrL (σ.take n) (R s'))) Q) (ofX (L s)) (owrL (σ.take n) (R s))):AW P S nt (.loop c) Q ρ σ:=by
 obtain⟨N,hN⟩:=z3l.1 hr
 refine q0y (α:={ p:Nat×β // z6R f p.1 p.2=some r }) (fun x=>ofX (L x.1.2)) (fun x=>owrL (σ.take n) (R x.1.2)) (fun x=>x.1.1) ⟨(N,s0),hN⟩ h0 ?_
 rintro⟨⟨k,s⟩,he⟩
 simp only at he
 cases k with
 | zero=>cases he
 | succ k=>
  rw[z6R] at he
  obtain⟨o,h1,h2⟩:=Option.bind_eq_some_iff.1 he
  refine (step s o h1 (fun r1 e=>by subst e;simpa using h2.symm)).mono fun e ρ' σ' h=>?_
  cases e with
  | normal=>
   obtain⟨s',rfl,h⟩:=h
   exact⟨⟨(k,s'),h2⟩,h,by simp⟩
  | _=>exact h
theorem AW.cut {β:Type}(n:Nat)(L:β→List (Nat×X))(R:β→List (Nat×Root)){M:β→Prop}
  (h1:AW P S nt c (z6k (fun ρ' σ'=>∃ s,M s∧GH S ρ' σ' (ofX (L s)) (owrL (σ.take n) (R s))) Q) ρ σ)
  (h2:∀ s,M s→Q .normal (ofX (L s)) (owrL (σ.take n) (R s))):AW P S nt c Q ρ σ:=by
 intro F g w ρc hs hv
 refine (h1 F g w ρc hs hv).mono fun e ρc' w' ⟨ρ',σ',F',g',k1,k2,k3⟩=>?_
 cases e with
 | normal=>
  obtain⟨s,hm,hg⟩:=k3
  obtain⟨F2,g2,m1,m2⟩:=hg F' g' w' ρc' k1 k2
  exact⟨_,_,F2,g2,m1,m2,h2 s hm⟩
 | _=>exact⟨ρ',σ',F',g',k1,k2,k3⟩
theorem bdE {α β:Type}{o:Option α}{f:α→Option β}{r:β}{G:Prop}(hr:o.bind f=some r)(h:∀ y,o=some y→f y=some r→G):G:=by
 obtain⟨y,h1,h2⟩:=Option.bind_eq_some_iff.1 hr
 exact h y h1 h2
theorem ggE {β:Type}{c:Prop}[Decidable c]{k:Option β}{r:β}{G:Prop}(hr:grd c k=some r)(h:c→k=some r→G):G:=h (z3X hr).1 (z3X hr).2
theorem ifE {β:Type}{c:Prop}[Decidable c]{a b:Option β}{r:β}{G:Prop}(hr:(if c then a else b)=some r)(h1:c→a=some r→G)(h2:¬ c→b=some r→G):G:=by
 by_cases hc:c
 ·exact h1 hc (by rwa[ifP hc] at hr)
 ·exact h2 hc (by rwa[ifN hc] at hr)
end
structure Stp where
 on:Bool
 rd:List Nat
 v:X
 wr:List (Nat×Root)
def Stp.ids (s:Stp):List Nat:=s.wr.map (·.1)
def Chain (P:Program)(S:Start)(ops:Array Oper):List Oper→List Stp→AE→St→Prop
 | [],[],_,_=>True
 | o::l,s::ss,ρ,σ=>q3X ops ρ o=some s.on∧(s.on=true→LT P S o ρ σ s.rd s.v s.wr)∧(s.on=false→s.v=.tu []∧s.wr=[])∧Chain P S ops l ss (putX ρ o.dst s.v) (owrL σ s.wr)
 | _,_,_,_=>False
def endR:List Oper→List Stp→AE→AE
 | o::l,s::ss,ρ=>endR l ss (putX ρ o.dst s.v)
 | _,_,ρ=>ρ
def endS:List Stp→St→St
 | s::ss,σ=>endS ss (owrL σ s.wr)
 | [],σ=>σ
theorem AT.final {P:Program}{S:Start}{ops:Array Oper}{K:AE→St→Lg→Option Nat→Prop}{k:Nat}{l:List Oper}{ρ:AE}{σ:St}{lg:Lg}{hd:Option Nat}(h:AT P S ops K k l ρ σ lg hd) :
  ∃ ρf σf lgf hdf,K ρf σf lgf hdf∧lg <+: lgf∧(∀ j,hd=some j→hdf=some j):=by
 induction h with
 | nil h=>exact⟨_,_,_,_,h,List.prefix_rfl,fun _ h=>h⟩
 | op _ _ _ ih=>obtain⟨a,b,c,d,h1,h2,h3⟩:=ih;exact⟨a,b,c,d,h1,(List.prefix_append _ _).trans h2,h3⟩
 | off _ _ ih=>obtain⟨a,b,c,d,h1,h2,h3⟩:=ih;exact⟨a,b,c,d,h1,(List.prefix_append _ _).trans h2,h3⟩
 | opT _ _ _ ih=>obtain⟨a,b,c,d,h1,h2,h3⟩:=ih;exact⟨a,b,c,d,h1,h2,fun j hj=>by subst hj;exact h3 j rfl⟩
 | gh _ _ ih=>obtain⟨a,b,c,d,h1,h2,h3⟩:=ih;exact⟨a,b,c,d,h1,h2,fun j hj=>by subst hj;exact h3 j rfl⟩
theorem AT.head {P:Program}{S:Start}{ops:Array Oper}{K:AE→St→Lg→Option Nat→Prop}{k:Nat}{l:List Oper}{ρ:AE}{σ:St}{lg:Lg}{hd:Option Nat}(h:AT P S ops K k l ρ σ lg hd):hd=none →
  ∃ ss:List Stp,ss.length≤l.length∧Chain P S ops (l.take ss.length) ss ρ σ∧(∃ lg' hd',AT P S ops K (k+ss.length) (l.drop ss.length) (endR (l.take ss.length) ss ρ) (endS ss σ) lg' hd') ∧
   ∃ ρf σf lgf hdf,K ρf σf lgf hdf∧(lg++ss.map fun s=>(s.rd,s.ids)) <+: lgf∧(hdf=some (k+ss.length)∨(hdf=none∧ss.length=l.length)):=by
 induction h with
 | nil h=>exact fun e=>⟨[],Nat.le_refl _,trivial,⟨_,_,.nil h⟩,_,_,_,_,h,by simp,.inr ⟨e,rfl⟩⟩
 | @op k o rest ρ σ lg hd rd v wr hg hl _ ih=>
  intro e
  obtain⟨ss,h1,h2,⟨lg',hd',h3⟩,ρf,σf,lgf,hdf,h4,h5,h6⟩:=ih e
  refine⟨⟨true,rd,v,wr⟩::ss,by simpa using h1,⟨hg,fun _=>hl,(fun h=>nomatch h),h2⟩,⟨lg',hd',by rw[show k+(⟨true,rd,v,wr⟩::ss:List Stp).length=k+1+ss.length by simp;omega];exact h3⟩,ρf,σf,lgf,hdf,h4,by simpa[Stp.ids] using h5,?_⟩
  rcases h6 with h6|⟨h6,h7⟩
  ·exact .inl (by rw[h6,lnC];congr 1;omega)
  ·exact .inr ⟨h6,by simp[h7]⟩
 | @off k o rest ρ σ lg hd hg _ ih=>
  intro e
  obtain⟨ss,h1,h2,⟨lg',hd',h3⟩,ρf,σf,lgf,hdf,h4,h5,h6⟩:=ih e
  refine⟨⟨false,[],.tu [],[]⟩::ss,by simpa using h1,⟨hg,(fun h=>nomatch h),fun _=>⟨rfl,rfl⟩,h2⟩,⟨lg',hd',by rw[show k+(⟨false,[],.tu [],[]⟩::ss:List Stp).length=k+1+ss.length by simp;omega];exact h3⟩,ρf,σf,lgf,hdf,h4,by simpa[Stp.ids] using h5,?_⟩
  rcases h6 with h6|⟨h6,h7⟩
  ·exact .inl (by rw[h6,lnC];congr 1;omega)
  ·exact .inr ⟨h6,by simp[h7]⟩
 | @opT k o rest ρ ρ' σ σ' lg hd hg hl h _=>
  intro e
  subst e
  obtain⟨a,b,c,d,h1,h2,h3⟩:=h.final
  exact⟨[],Nat.zero_le _,trivial,⟨_,_,.opT hg hl h⟩,a,b,c,d,h1,by simpa using h2,.inl (h3 k rfl)⟩
 | @gh k l ρ ρ' σ σ' lg hd hl h _=>
  intro e
  subst e
  obtain⟨a,b,c,d,h1,h2,h3⟩:=h.final
  exact⟨[],Nat.zero_le _,trivial,⟨_,_,.gh hl h⟩,a,b,c,d,h1,by simpa using h2,.inl (h3 k rfl)⟩
def q6Q (p:Nat→Bool):Nat→List Oper→List Stp→AE→AE
 | k,o::l,s::ss,ρ=>q6Q p (k+1) l ss (bif p k then putX ρ o.dst s.v else ρ)
 | _,_,_,ρ=>ρ
def q9O (p:Nat→Bool):Nat→List Stp→(Nat→Root)→Nat→Root
 | k,s::ss,σ=>q9O p (k+1) ss (bif p k then owr σ s.wr else σ)
 | _,[],σ=>σ
theorem z9j {p q:Nat→Bool}{id:Nat}:∀ {ss:List Stp} {k:Nat} {σ τ:Nat→Root},(∀ j s,ss[j]?=some s→id∈s.ids→p (k+j)=q (k+j))→σ id=τ id→q9O p k ss σ id=q9O q k ss τ id
 | [],k,σ,τ,_,h=>h
 | s::ss,k,σ,τ,hp,h=>by
  rw[q9O,q9O]
  refine z9j (fun j s' hs hi=>by have:=hp (j+1) s' (by simpa using hs) hi;rwa[show k+1+j=k+(j+1) by omega]) ?_
  by_cases hi:id∈s.ids
  ·have:=hp 0 s rfl hi
   rw[Nat.add_zero] at this
   rw[this]
   cases q k with
   | true=>exact z9z _ _ _ _ (.inl h)
   | false=>exact h
  ·have hn:∀ x∈s.wr,x.1≠id:=fun x hx e=>hi (List.mem_map.2 ⟨x,hx,e⟩)
   have hn' : ∀ ρ:Nat→Root,owr ρ s.wr id=ρ id:=fun ρ=>z9y _ _ _ hn
   cases p k<;>cases q k<;>simp only[cond_true,cond_false,hn']<;>exact h
theorem j1H {p:Nat→Bool}{id i:Nat}{s:Stp}{τ:Nat→Root}:∀ {ss:List Stp} {k:Nat} {σ:Nat→Root},ss[i]?=some s→id∈s.ids→p (k+i)=true→(∀ j s',i<j→ss[j]?=some s'→id∈s'.ids→p (k+j)=false)→q9O p k ss σ id=owr τ s.wr id
 | [],_,_,h,_,_,_=>by simp at h
 | s0::ss,k,σ,h,hi,hp,hn=>by
  rw[q9O]
  cases i with
  | zero=>
   simp at h
   subst h
   rw[Nat.add_zero] at hp
   rw[hp,cond_true]
   have:q9O p (k+1) ss (owr σ s0.wr) id=q9O (fun _=>false) (k+1) ss (owr σ s0.wr) id:=z9j (fun j s' hs hi'=>by
    have:=hn (j+1) s' (by omega) (by simpa using hs) hi'
    rwa[show k+1+j=k+(j+1) by omega]) rfl
   rw[this]
   have key:∀ (ss:List Stp) (k:Nat) (σ:Nat→Root),q9O (fun _=>false) k ss σ=σ:=by
    intro ss
    induction ss with
    | nil=>exact fun _ _=>rfl
    | cons s ss ih=>exact fun k σ=>by rw[q9O];exact ih _ _
   rw[key]
   obtain⟨x,hx,e⟩:=List.mem_map.1 hi
   exact z9z _ _ _ _ (.inr ⟨x,hx,e⟩)
  | succ i=>
   exact j1H (i:=i) (by simpa using h) hi (by rwa[show k+1+i=k+(i+1) by omega]) fun j s' hj hs hi'=>by
    have:=hn (j+1) s' (by omega) (by simpa using hs) hi'
    rwa[show k+1+j=k+(j+1) by omega]
theorem z9k {p q:Nat→Bool}{t:Nat}:∀ {l:List Oper} {ss:List Stp} {k:Nat} {ρ τ:AE},(∀ j o,l[j]?=some o→o.dst=some t→p (k+j)=q (k+j))→ρ t=τ t→q6Q p k l ss ρ t=q6Q q k l ss τ t
 | [],ss,k,ρ,τ,_,h=>by simpa[q6Q] using h
 | o::l,[],k,ρ,τ,_,h=>by simpa[q6Q] using h
 | o::l,s::ss,k,ρ,τ,hp,h=>by
  rw[q6Q,q6Q]
  refine z9k (fun j o' ho hd=>by have:=hp (j+1) o' (by simpa using ho) hd;rwa[show k+1+j=k+(j+1) by omega]) ?_
  by_cases hd:o.dst=some t
  ·have:=hp 0 o rfl hd
   rw[Nat.add_zero] at this
   rw[this,hd]
   cases q k with
   | true=>simp[putX,updX]
   | false=>exact h
  ·have hn:∀ (ρ:AE) (v:X),putX ρ o.dst v t=ρ t:=fun ρ v=>by
    cases hdd:o.dst with
    | none=>rfl
    | some d=>
     have hne:t≠d:=fun e=>hd (by rw[hdd,e])
     simp only[putX,updX]
     cases hb:Nat.beq t d with
     | true=>exact absurd (Nat.eq_of_beq_eq_true hb) hne
     | false=>rfl
   cases p k<;>cases q k<;>simp only[cond_true,cond_false,hn]<;>exact h
theorem j4d {p q:Nat→Bool}{i:Nat}{o:Oper}{s:Stp}:∀ {l:List Oper} {ss:List Stp} {k:Nat} {ρ:AE},l[i]?=some o→ss[i]?=some s→(∀ j,q (k+j)=(if j=i then true else p (k+j)))→p (k+i)=false→(∀ j o',l[j]?=some o'→j≠i→∀ t,o.dst=some t→o'.dst≠some t) →
  q6Q q k l ss ρ=putX (q6Q p k l ss ρ) o.dst s.v
 | [],_,_,_,h,_,_,_,_=>by simp at h
 | o0::l,[],_,_,_,h,_,_,_=>by simp at h
 | o0::l,s0::ss,k,ρ,ho,hs,hq,hp,hu=>by
  funext t
  cases i with
  | zero=>
   simp at ho hs
   subst ho;subst hs
   have h0:=hq 0
   rw[Nat.add_zero] at h0 hp
   rw[q6Q,q6Q,h0,hp]
   simp only[if_true,cond_true,cond_false]
   by_cases hd:o0.dst=some t
   ·have e1:q6Q q (k+1) l ss (putX ρ o0.dst s0.v) t=q6Q (fun _=>false) (k+1) l ss (putX ρ o0.dst s0.v) t:=z9k (fun j o' ho' hd'=>absurd hd' (hu (j+1) o' (by simpa using ho') (by omega) t hd)) rfl
    have key:∀ (l:List Oper) (ss:List Stp) (k:Nat) (ρ:AE),q6Q (fun _=>false) k l ss ρ=ρ:=by
     intro l
     induction l with
     | nil=>intro ss k ρ;simp[q6Q]
     | cons o l ih=>
      intro ss k ρ
      cases ss with
      | nil=>simp[q6Q]
      | cons s ss=>rw[q6Q];exact ih _ _ _
    rw[e1,key,hd]
    simp[putX,updX]
   ·have hn:∀ (ρ:AE) (v:X),putX ρ o0.dst v t=ρ t:=fun ρ v=>by
     cases hdd:o0.dst with
     | none=>rfl
     | some d=>
      have hne:t≠d:=fun e=>hd (by rw[hdd,e])
      simp only[putX,updX]
      cases hb:Nat.beq t d with
      | true=>exact absurd (Nat.eq_of_beq_eq_true hb) hne
      | false=>rfl
    rw[hn]
    refine z9k (fun j o' ho' hd'=>?_) (hn _ _)
    have:=hq (j+1)
    rw[show k+1+j=k+(j+1) by omega,this,ifN (by omega)]
  | succ i=>
   rw[q6Q,q6Q]
   have h0:=hq 0
   rw[ifN (by omega)] at h0
   rw[Nat.add_zero] at h0
   rw[h0]
   have:=j4d (i:=i) (l:=l) (ss:=ss) (k:=k+1) (ρ:=bif p k then putX ρ o0.dst s0.v else ρ) (p:=p) (q:=q) (o:=o) (s:=s) (by simpa using ho) (by simpa using hs) (fun j=>by
    have:=hq (j+1)
    rw[show k+1+j=k+(j+1) by omega,this]
    by_cases hj:j=i<;>simp[hj]) (by rwa[show k+1+i=k+(i+1) by omega]) (fun j o' ho' hj=>hu (j+1) o' (by simpa using ho') (by omega))
   rw[this]
theorem Chain.get {P:Program}{S:Start}{ops:Array Oper}:∀ {l:List Oper} {ss:List Stp} {k:Nat} {ρ:AE} {σ:St},Chain P S ops l ss ρ σ→∀ {i:Nat} {o:Oper},l[i]?=some o→∃ s,ss[i]?=some s∧∃ σi:St,fnOf σi=q9O (fun j=>Nat.blt j (k+i)) k ss (fnOf σ) ∧
  q3X ops (q6Q (fun j=>Nat.blt j (k+i)) k l ss ρ) o=some s.on∧(s.on=true→LT P S o (q6Q (fun j=>Nat.blt j (k+i)) k l ss ρ) σi s.rd s.v s.wr)∧(s.on=false→s.v=.tu []∧s.wr=[])
 | [],_,_,_,_,_,i,o,h=>by simp at h
 | o0::l,[],_,_,_,h,_,_,_=>h.elim
 | o0::l,s0::ss,k,ρ,σ,h,0,o,ho=>by
  obtain⟨h1,h2,h3,h4⟩:=h
  simp at ho
  subst ho
  have nolt:∀ j,Nat.blt (k+j) (k+0)=false:=fun j=>by
   cases hb:Nat.blt (k+j) (k+0) with
   | false=>rfl
   | true=>simp at hb;omega
  have e1:q9O (fun j=>Nat.blt j (k+0)) k (s0::ss) (fnOf σ)=fnOf σ:=by
   have key:∀ (ss:List Stp) (m:Nat) (σ:Nat→Root),k≤m→q9O (fun j=>Nat.blt j (k+0)) m ss σ=σ:=by
    intro ss
    induction ss with
    | nil=>exact fun _ _ _=>rfl
    | cons s ss ih=>
     intro m σ hm
     have:Nat.blt m (k+0)=false:=by have:=nolt (m-k);rwa[show k+(m-k)=m by omega] at this
     rw[q9O,this];exact ih _ _ (by omega)
   exact key _ _ _ (Nat.le_refl _)
  have e2:q6Q (fun j=>Nat.blt j (k+0)) k (o0::l) (s0::ss) ρ=ρ:=by
   have key:∀ (l:List Oper) (ss:List Stp) (m:Nat) (ρ:AE),k≤m→q6Q (fun j=>Nat.blt j (k+0)) m l ss ρ=ρ:=by
    intro l
    induction l with
    | nil=>intro ss m ρ _;simp[q6Q]
    | cons o l ih=>
     intro ss m ρ hm
     cases ss with
     | nil=>simp[q6Q]
     | cons s ss=>
      have:Nat.blt m (k+0)=false:=by have:=nolt (m-k);rwa[show k+(m-k)=m by omega] at this
      rw[q6Q,this];exact ih _ _ _ (by omega)
   exact key _ _ _ _ (Nat.le_refl _)
  exact⟨s0,rfl,σ,e1.symm,by rw[e2];exact h1,by rw[e2];exact h2,h3⟩
 | o0::l,s0::ss,k,ρ,σ,h,i+1,o,ho=>by
  obtain⟨h1,h2,h3,h4⟩:=h
  obtain⟨s,g1,σi,g2,g3,g4,g5⟩:=Chain.get (k:=k+1) h4 (i:=i) (o:=o) (by simpa using ho)
  have hb:Nat.blt k (k+1+i)=true:=by simp;omega
  refine⟨s,by simpa using g1,σi,?_,?_,?_,g5⟩
  ·rw[g2,q9O,show k+(i+1)=k+1+i by omega,hb,z6Q];rfl
  ·rw[q6Q,show k+(i+1)=k+1+i by omega,hb];exact g3
  ·rw[q6Q,show k+(i+1)=k+1+i by omega,hb];exact g4
theorem j4e:∀ {l:List Oper} {ss:List Stp} {k:Nat} {ρ:AE} {p:Nat→Bool},(∀ j,j<l.length→p (k+j)=true)→q6Q p k l ss ρ=endR l ss ρ
 | [],ss,k,ρ,p,_=>by simp[q6Q,endR]
 | o::l,[],k,ρ,p,_=>by simp[q6Q,endR]
 | o::l,s::ss,k,ρ,p,h=>by
  have h0:=h 0 (by simp)
  rw[Nat.add_zero] at h0
  rw[q6Q,endR,h0,cond_true]
  exact j4e fun j hj=>by have:=h (j+1) (by simpa using hj);rwa[show k+1+j=k+(j+1) by omega]
theorem j4f:∀ {ss:List Stp} {k:Nat} {σ:St} {p:Nat→Bool},(∀ j,j<ss.length→p (k+j)=true)→q9O p k ss (fnOf σ)=fnOf (endS ss σ)
 | [],k,σ,p,_=>rfl
 | s::ss,k,σ,p,h=>by
  have h0:=h 0 (by simp)
  rw[Nat.add_zero] at h0
  rw[q9O,endS,h0,cond_true,← z6Q]
  exact j4f fun j hj=>by have:=h (j+1) (by simpa using hj);rwa[show k+1+j=k+(j+1) by omega]
def addL (l m:List Nat):List Nat:=l.foldl (fun acc x=>bif acc.contains x then acc else x::acc) m
theorem j6Z:∀ {l m:List Nat} {x:Nat},x∈addL l m→x∈l∨x∈m
 | [],m,x,h=>.inr h
 | y::l,m,x,h=>by
  simp only[addL,List.foldl_cons] at h
  rcases j6Z (l:=l) h with h|h
  ·exact .inl (by simp[h])
  ·cases hc:m.contains y with
   | true=>rw[hc] at h;exact .inr h
   | false=>
    rw[hc] at h
    rcases List.mem_cons.1 h with rfl|h
    ·exact .inl (by simp)
    ·exact .inr h
def clos:List Oper→List (List Nat)→List (List Nat)
 | [],acc=>acc
 | o::l,acc=>clos l (acc++[(q6p o).foldl (fun m d=>addL (acc.getD d []) m) (q6p o)])
theorem j2H:∀ (l:List Oper) (acc:List (List Nat)) (j:Nat),j<acc.length→(clos l acc).getD j []=acc.getD j []
 | [],acc,j,_=>rfl
 | o::l,acc,j,h=>by
  rw[clos,j2H l _ j (by simp;omega)]
  simp only[List.getD_eq_getElem?_getD]
  rw[List.getElem?_append_left h]
theorem j7a:∀ (l:List Oper) (acc:List (List Nat)) (j:Nat) (o:Oper) (x:Nat),l[j]?=some o→x∈(clos l acc).getD (acc.length+j) []→x∈q6p o∨∃ d∈q6p o,x∈(clos l acc).getD d []∧(d<acc.length+j∨(clos l acc).getD d []=[])
 | [],_,_,_,_,h,_=>by simp at h
 | o0::l,acc,0,o,x,h,hx=>by
  simp at h
  subst h
  rw[clos,j2H l _ _ (by simp)] at hx
  simp only[Nat.add_zero,List.getD_eq_getElem?_getD,List.getElem?_concat_length,Option.getD_some] at hx
  have key:∀ (ds:List Nat) (m:List Nat),x∈ds.foldl (fun m d=>addL (acc.getD d []) m) m→x∈m∨∃ d∈ds,x∈acc.getD d []:=by
   intro ds
   induction ds with
   | nil=>exact fun m h=>.inl h
   | cons d ds ih=>
    intro m h
    rw[List.foldl_cons] at h
    rcases ih _ h with h|⟨d',h1,h2⟩
    ·rcases j6Z h with h|h
     ·exact .inr ⟨d,by simp,h⟩
     ·exact .inl h
    ·exact .inr ⟨d',by simp[h1],h2⟩
  rcases key _ _ (by simpa only[List.getD_eq_getElem?_getD] using hx) with h|⟨d,h1,h2⟩
  ·exact .inl h
  ·right
   have hlt:d<acc.length:=by
    rcases Nat.lt_or_ge d acc.length with h|h
    ·exact h
    ·rw[List.getD_eq_getElem?_getD,List.getElem?_eq_none h] at h2;simp at h2
   refine⟨d,h1,?_,.inl (by omega)⟩
   rw[clos,j2H l _ _ (by simp;omega)]
   simp only[List.getD_eq_getElem?_getD] at h2 ⊢
   rw[List.getElem?_append_left hlt];exact h2
 | o0::l,acc,j+1,o,x,h,hx=>by
  rw[clos] at hx ⊢
  have:=j7a l (acc++[(q6p o0).foldl (fun m d=>addL (acc.getD d []) m) (q6p o0)]) j o x (by simpa using h) (by simpa[Nat.add_assoc,Nat.add_comm 1 j] using hx)
  rcases this with h1|⟨d,h1,h2,h3⟩
  ·exact .inl h1
  ·exact .inr ⟨d,h1,h2,h3.imp (fun h=>by simp at h;omega) id⟩
def j9r (l m:List Nat):Bool:=l.any fun x=>m.contains x
def k5a (ops:Array Oper)(lg:Lg)(h:Nat):Bool:=
 let cl:=clos ops.toList []
 (List.range h).all fun j=>(List.range j).all fun i=>
  let a:=lg.getD i ([],[])
  let b:=lg.getD j ([],[])
  !(j9r a.2 b.2||j9r a.2 b.1||j9r a.1 b.2)||(cl.getD j []).contains i
def k3I (ops:Array Oper)(h:Nat):Bool:=
 let cl:=clos ops.toList []
 (List.range h).all fun i=>match ops[i]? with
  | some o=>(o.looksAt ops).all fun t=>(List.range h).all fun j=>match q7U ops j with
    | some d=>!(Nat.beq d t)||(q6p o).contains j||(Nat.ble i j&&(cl.getD j []).contains i)
    | none=>true
  | none=>true
def j7b (ops:Array Oper)(lg:Lg)(hd:Option Nat):Bool:=
 let h:=hd.getD ops.size
 z4v ops h (ownD ops)&&k3I ops h&&k5a ops lg h
section
variable {P:Program}{S:Start}{n:Nat}{Q:q4h}{ρ:AE}{σ:St}{ops:Array Oper}
theorem z9M {h:Nat}{listed:Array Bool}(hB:z4v ops h (ownD ops)=true)(hcl:∀ j oj,ops[j]?=some oj→listed.getD j false=true→∀ d∈q6p oj,listed.getD d false=true):∀ (j:Nat) (o:Oper),ops[j]?=some o→(∀ d∈q6p o,listed.getD d false=true)→∀ x∈(clos ops.toList []).getD j [],listed.getD x false=true:=by
 intro j
 induction j using Nat.strongRecOn with
 | _ j ih=>
  intro o ho hd x hx
  have:=j7a ops.toList [] j o x (by simpa using ho) (by simpa using hx)
  rcases this with h1|⟨d,h1,h2,h3⟩
  ·exact hd x h1
  ·have hdj:d<j:=q9x hB ho d h1
   have hod:∃ od,ops[d]?=some od:=by
    have hlt:d<ops.size:=Nat.lt_trans hdj (Array.getElem?_eq_some_iff.1 ho).1
    exact⟨ops[d],by simp[hlt]⟩
   obtain⟨od,hod⟩:=hod
   exact ih d hdj od hod (hcl d od hod (hd d h1)) x h2
theorem j9s {l m:List Nat}:j9r l m=false↔∀ x∈l,x∉m:=by
 simp[j9r]
theorem AW.draw {id:Nat}(hm:P.follows .mixedOrders=true)(h:AT P S ops (fun ρ σ lg hd=>Q .normal ρ σ∧j7b ops lg hd=true) 0 ops.toList ρ σ [] none):AW P S n (.region id ops true) Q ρ σ:=by
 intro F g w ρc hs hv hok a ha
 have hok' : ops.toList.all (q9K n)=true:=by simpa[z0C] using hok
 have hguards:z5K n ops=true:=z9A hok'
 obtain⟨ss,hss,hch,⟨lg',hd',htail⟩,ρf,σf,lgf,hdf,⟨_,hck⟩,hpre,hh⟩:=h.head rfl
 simp only[List.nil_append,Nat.zero_add] at hpre hh htail
 have hlen:hdf.getD ops.size=ss.length:=by
  rcases hh with hh|⟨hh,h2⟩<;>rw[hh]
  ·rfl
  ·simpa using h2.symm
 simp only[j7b,hlen,Bool.and_eq_true] at hck
 obtain⟨⟨hB,hlook⟩,hord⟩:=hck
 refine wp_region_any hm ?_
 generalize hgen:ss.length=hN at *
 have hB':=hB
 simp only[z4v,Bool.and_eq_true] at hB'
 have hle:hN≤ops.size:=by simpa using hB'.1.1.1
 have hseq:=hB'.2
 have hss' : hN≤ops.toList.length:=by simpa using hss
 -- logs
 have hlg:∀ i s,ss[i]?=some s→lgf.getD i ([],[])=(s.rd,s.ids):=fun i s hi=>by
  obtain⟨r,hr⟩:=hpre
  rw[← hr,List.getD_eq_getElem?_getD,List.getElem?_append_left (by simp;exact (List.getElem?_eq_some_iff.1 hi).1)]
  simp[hi]
 have order:∀ i j si sj,i<j→j<hN→ss[i]?=some si→ss[j]?=some sj→(∃ x,(x∈si.ids∧(x∈sj.ids∨x∈sj.rd))∨(x∈si.rd∧x∈sj.ids))→i∈(clos ops.toList []).getD j []:=fun i j si sj hij hj hsi hsj hx=>by
  have h1:=List.all_eq_true.1 hord j (List.mem_range.2 hj)
  have h2:=List.all_eq_true.1 h1 i (List.mem_range.2 hij)
  rw[hlg i si hsi,hlg j sj hsj] at h2
  simp only[Bool.or_eq_true,Bool.not_eq_true',Bool.or_eq_false_iff,j9s] at h2
  rcases h2 with h2|h2
  ·exfalso
   obtain⟨x,hx⟩:=hx
   rcases hx with ⟨hx,hy|hy⟩|⟨hx,hy⟩
   ·exact h2.1.1 x hx hy
   ·exact h2.1.2 x hx hy
   ·exact h2.2 x hx hy
  ·simpa using h2
 let pl:Array Bool→Nat→Bool:=fun listed j=>listed.getD j false
 let hl:=ops.toList.take hN
 have hlget:∀ {j:Nat} {o:Oper},j<hN→ops[j]?=some o→hl[j]?=some o:=fun {j o} hj ho=>by
  show (ops.toList.take hN)[j]?=some o
  rw[List.getElem?_take,ifP hj];simpa using ho
 have hlget' : ∀ {j:Nat} {o:Oper},hl[j]?=some o→j<hN∧ops[j]?=some o:=fun {j o} ho=>by
  have ho:(ops.toList.take hN)[j]?=some o:=ho
  rw[List.getElem?_take] at ho
  split at ho
  ·exact⟨‹_›,by simpa using ho⟩
  ·cases ho
 let Inv:Array Bool→Env→World→Prop:=fun listed ρc w=>HeadInv .any ops hN listed∧∃ F g,Sim S F g (q9O (pl listed) 0 ss (fnOf σ)) w∧∀ t,vr (SM F S.B) w g (q6Q (pl listed) 0 hl ss ρ t) (ρc t)
 have done:∀ (listed:Array Bool) (ρc:Env) (a:Act) (w' : World),Inv listed ρc w'→Rel n ρc a→(∀ j,j<hN→listed.getD j false=true)→wpAny P .any ops (lift n (Qc S Q)) (ops.size-hN) listed a w':=by
  intro listed ρc a w' ⟨hinv,F',g',k1,k2⟩ hr hall
  have hlisted:listed=Array.replicate hN true++Array.replicate (ops.size-hN) false:=by
   apply Array.ext
   ·simp[hinv.size];omega
   ·intro i h1 h2
    by_cases hi:i<hN
    ·have:=hall i hi
     simp[h1] at this
     rw[this,Array.getElem_append_left (by simpa using hi)]
     simp
    ·have:=hinv.tail i (by omega) (by rw[← hinv.size];exact h1)
     simp[h1] at this
     rw[this,Array.getElem_append_right (by simpa using Nat.le_of_not_lt hi)]
     simp
  have e1:q9O (pl listed) 0 ss (fnOf σ)=fnOf (endS ss σ):=j4f fun j hj=>by rw[Nat.zero_add];exact hall j (by omega)
  have e2:q6Q (pl listed) 0 hl ss ρ=endR hl ss ρ:=j4e fun j hj=>by
   rw[Nat.zero_add]
   refine hall j ?_
   have:hl.length=hN:=by show (ops.toList.take hN).length=hN;simp;omega
   omega
  rw[e1] at k1
  simp only[e2] at k2
  subst hlisted
  have hw:=htail.wl (n:=n) (Qp:=Qc S Q) hguards (fun ρ σ lg hd hq F g w ρc hs hv=>⟨ρ,σ,F,g,hs,hv,hq.1⟩) F' g' w' ρc k1 k2 (by
   refine List.all_eq_true.2 fun o ho=>List.all_eq_true.1 hok' o (List.mem_of_mem_drop ho)) a hr
  have hlen2:(ops.toList.drop hN).length=ops.size-hN:=by simp
  have:=wpAny_of_seq (P:=P) (md:=.any) (ops:=ops) (Q':=lift n (Qc S Q)) (ops.toList.drop hN) hN (Array.replicate hN true++Array.replicate (ops.size-hN) false) a w'
   (fun j=>by simp[List.getElem?_drop]) (by rw[hlen2];exact hseq) hw
  rwa[hlen2] at this
 have main:∀ (c:Nat) (listed:Array Bool) (ρc:Env) (a:Act) (w' : World),((List.range hN).filter (fun j=>!listed.getD j false)).length=c→Inv listed ρc w'→Rel n ρc a →
   wpAny P .any ops (lift n (Qc S Q)) (c+(ops.size-hN)) listed a w':=by
  intro c
  induction c with
  | zero=>
   intro listed ρc a w' hc inv hr
   rw[Nat.zero_add]
   refine done listed ρc a w' inv hr fun j hj=>?_
   have h0:(List.range hN).filter (fun j=>!listed.getD j false)=[]:=List.eq_nil_of_length_eq_zero hc
   have:=List.filter_eq_nil_iff.1 h0 j (List.mem_range.2 hj)
   simpa using this
  | succ c ih=>
   intro listed ρc a w' hc inv hr
   obtain⟨hinv,F',g',k1,k2⟩:=inv
   have hex:∃ j,j<hN∧listed.getD j true=false:=by
    have:((List.range hN).filter (fun j=>!listed.getD j false))≠[]:=fun e=>by rw[e] at hc;simp at hc
    obtain⟨j,hj⟩:=List.exists_mem_of_ne_nil _ this
    rw[List.mem_filter,List.mem_range] at hj
    exact⟨j,hj.1,getD_in (by rw[hinv.size];omega) (by simpa using hj.2)⟩
   obtain⟨j0,hj0,hl0⟩:=hex
   obtain⟨i0,hi0,_⟩:=z3j hB hinv.size j0 j0 (Nat.le_refl _) (by omega) hl0
   rw[show c+1+(ops.size-hN)=(c+(ops.size-hN))+1 by omega]
   refine⟨fun h0=>(by rw[h0] at hi0;cases hi0),fun i hi=>?_⟩
   have hih:i<hN:=by
    rcases Nat.lt_or_ge i hN with hlt|hge
    ·exact hlt
    ·exfalso
     obtain⟨_,oi,hoi,_⟩:=mem_ready.1 hi
     have hlt:i<ops.size:=(Array.getElem?_eq_some_iff.1 hoi).1
     have hsc:Region.sinkB .any ops hN=true∧Region.chainB .any ops hN=true:=by
      have h3:=hB'.1.2
      simp only[Bool.or_eq_true,Bool.and_eq_true] at h3
      rcases h3 with h3|h3
      ·have:=Nat.eq_of_beq_eq_true h3;omega
      ·exact h3
     exact tail_waits hsc.1 hsc.2 (by omega) hinv _ j0 rfl hj0 hl0 i hge hi
   obtain⟨hun,o,ho,hall⟩:=mem_ready.1 hi
   have hunf:listed.getD i false=false:=getD_both hun
   have hmem:o∈ops.toList:=by rw[Array.mem_toList_iff];exact Array.mem_of_getElem? ho
   have hoko:q9K n o=true:=List.all_eq_true.1 hok' o hmem
   obtain⟨s,hsi,σi,e1,e2,e3,e4⟩:=Chain.get (k:=0) hch (hlget hih ho)
   simp only[Nat.zero_add] at e1 e2 e3
   have hdir:∀ d∈q6p o,listed.getD d false=true:=fun d hd=>by
    obtain⟨e,he,hb,rfl⟩:=q9w.1 hd
    exact hall e he hb
   have hclosed:∀ j oj,ops[j]?=some oj→listed.getD j false=true→∀ d∈q6p oj,listed.getD d false=true:=fun j oj hj hlj d hd=>by
    obtain⟨e,he,hb,rfl⟩:=q9w.1 hd
    exact hinv.closed j oj hj hlj e he hb
   have before:∀ x∈(clos ops.toList []).getD i [],listed.getD x false=true:=z9M hB hclosed i o ho hdir
   have behind:∀ j,j<hN→i∈(clos ops.toList []).getD j []→listed.getD j false=false:=fun j hj hij=>by
    cases hlj:listed.getD j false with
    | false=>rfl
    | true=>
     have hoj:ops[j]?=some (ops[j]'(by omega)):=Array.getElem?_eq_getElem (by omega)
     have:=z9M hB hclosed j _ hoj (hclosed j _ hoj hlj) i hij
     rw[hunf] at this;cases this
   -- what the operation looks at is as in the order of the text
   have hlooks:∀ t∈o.looksAt ops,q6Q (pl listed) 0 hl ss ρ t=q6Q (fun j=>Nat.blt j i) 0 hl ss ρ t:=fun t ht=>z9k (fun j o' ho' hd'=>by
    obtain⟨hjh,hoj⟩:=hlget' ho'
    have h1:=List.all_eq_true.1 hlook i (List.mem_range.2 hih)
    simp only[ho] at h1
    have h2:=List.all_eq_true.1 h1 t ht
    have h3:=List.all_eq_true.1 h2 j (List.mem_range.2 hjh)
    have hdj:q7U ops j=some t:=by unfold q7U;rw[hoj];exact hd'
    rw[hdj] at h3
    simp only[Bool.or_eq_true,Bool.not_eq_true',Bool.and_eq_true] at h3
    rcases h3 with (h3|h3)|h3
    ·have:Nat.beq t t=true:=Nat.beq_refl t
     rw[this] at h3;cases h3
    ·have hjd:j∈q6p o:=by simpa using h3
     rw[Nat.zero_add]
     have:Nat.blt j i=true:=by simp;exact q9x hB ho j hjd
     rw[this];exact hdir j hjd
    ·have hij:i≤j:=by simpa using h3.1
     rw[Nat.zero_add]
     have:Nat.blt j i=false:=by cases hb:Nat.blt j i with|false=>rfl|true=>simp at hb;omega
     rw[this];exact behind j hjh (by simpa using h3.2)) rfl
   have hops:∀ x∈o.op.operands,vr (SM F' S.B) w' g' (evX (q6Q (fun j=>Nat.blt j i) 0 hl ss ρ) x) (E.ev ρc x):=fun x hx=>by
    have hvr:VR S F' g' w' (q6Q (pl listed) 0 hl ss ρ) ρc:=k2
    have:=hvr.ev x
    cases x with
    | tmp t=>
     simp only[evX] at this ⊢
     rw[← hlooks t (by simp only[Oper.looksAt,List.mem_append,List.mem_filterMap];exact .inl ⟨.tmp t,by simpa using hx,rfl⟩)]
     exact this
    | _=>exact this
   have hgate:gate ops ρc o=s.on:=by
    have hx:q3X ops (q6Q (pl listed) 0 hl ss ρ) o=some s.on:=by
     rw[← e2]
     unfold q3X
     cases hgd:o.guard with
     | none=>rfl
     | some jw=>
      obtain⟨j,want⟩:=jw
      simp only
      cases hd:(ops[j]?).bind (·.dst) with
      | none=>rfl
      | some d=>
       simp only
       rw[hlooks d (by simp[Oper.looksAt,hgd,hd])]
    exact z5L hx k2
   have hroot:∀ id,(id∈s.rd∨id∈s.ids)→q9O (pl listed) 0 ss (fnOf σ) id=fnOf σi id:=fun id hid=>by
    rw[e1]
    refine z9j (fun j sj hsj hidj=>?_) rfl
    rw[Nat.zero_add]
    have hjh:j<hN:=by have:=(List.getElem?_eq_some_iff.1 hsj).1;omega
    rcases Nat.lt_trichotomy j i with hlt|heq|hgt
    ·have:Nat.blt j i=true:=by simpa using hlt
     rw[this]
     exact before j (order j i sj s hlt hih hsj hsi ⟨id,.inl ⟨hidj,hid.symm⟩⟩)
    ·subst heq
     have:Nat.blt j j=false:=by cases hb:Nat.blt j j with|false=>rfl|true=>simp at hb
     rw[this];exact hunf
    ·have:Nat.blt j i=false:=by cases hb:Nat.blt j i with|false=>rfl|true=>simp at hb;omega
     rw[this]
     refine behind j hjh (order i j s sj hgt hjh hsi hsj ⟨id,?_⟩)
     rcases hid with hid|hid
     ·exact .inr ⟨hid,hidj⟩
     ·exact .inl ⟨hid,.inl hidj⟩
   have hisz:i<listed.size:=by rw[hinv.size];omega
   have hnewS:owr (q9O (pl listed) 0 ss (fnOf σ)) s.wr=q9O (pl (listed.setIfInBounds i true)) 0 ss (fnOf σ):=by
    have hpl:∀ j,j≠i→pl (listed.setIfInBounds i true) j=pl listed j:=fun j hj=>getD_set_ne false (Ne.symm hj)
    have hpi:pl (listed.setIfInBounds i true) i=true:=by simp[pl,hisz]
    funext id
    by_cases hid:id∈s.ids
    ·refine (j1H (τ:=q9O (pl listed) 0 ss (fnOf σ)) hsi hid (by rw[Nat.zero_add];exact hpi) fun j sj hij hsj hidj=>?_).symm
     rw[Nat.zero_add,hpl j (by omega)]
     have hjh:j<hN:=by have:=(List.getElem?_eq_some_iff.1 hsj).1;omega
     exact behind j hjh (order i j s sj hij hjh hsi hsj ⟨id,.inl ⟨hid,.inl hidj⟩⟩)
    ·rw[z9y _ _ _ fun x hx e=>hid (List.mem_map.2 ⟨x,hx,e⟩)]
     refine z9j (fun j sj hsj hidj=>?_) rfl
     rw[Nat.zero_add]
     refine (hpl j fun e=>?_).symm
     subst e
     rw[hsi] at hsj
     cases hsj
     exact hid hidj
   have hnewR:q6Q (pl (listed.setIfInBounds i true)) 0 hl ss ρ=putX (q6Q (pl listed) 0 hl ss ρ) o.dst s.v:=by
    refine j4d (hlget hih ho) hsi (fun j=>?_) (by rw[Nat.zero_add];exact hunf) fun j o' ho' hj t ht hd'=>?_
    ·rw[Nat.zero_add]
     by_cases hj:j=i
     ·subst hj;rw[ifP rfl];simp[pl,hisz]
     ·rw[ifN hj];exact getD_set_ne false (Ne.symm hj)
    ·obtain⟨hjh,hoj⟩:=hlget' ho'
     have hdi:q7U ops i=some t:=by unfold q7U;rw[ho];exact ht
     exact (z4L hB hoj hdi (Ne.symm hj)).2 hd'
   have next:∀ v w'',(∃ F2 g2,Sim S F2 g2 (owr (q9O (pl listed) 0 ss (fnOf σ)) s.wr) w''∧Pres S.B F' g' w' F2 g2 w''∧vr (SM F2 S.B) w'' g2 s.v v)→wpAny P .any ops (lift n (Qc S Q)) (c+(ops.size-hN)) (listed.setIfInBounds i true) (a.put o.dst v) w'':=by
    intro v w'' ⟨F2,g2,m1,m2,m3⟩
    refine ih _ (E.put ρc o.dst v) _ _ ?_ ⟨hinv.set hi hih,F2,g2,by rw[← hnewS];exact m1,?_⟩ (hr.put _ _)
    ·have hcount:∀ (l:List Nat),l.Nodup→i∈l→(l.filter (fun j=>!listed.getD j false)).length=(l.filter (fun j=>!(listed.setIfInBounds i true).getD j false)).length+1:=by
      intro l
      induction l with
      | nil=>intro _ h;cases h
      | cons x l ihl=>
       intro hnd hmem
       rw[List.nodup_cons] at hnd
       by_cases hx:x=i
       ·subst hx
        have hsame:l.filter (fun j=>!listed.getD j false)=l.filter (fun j=>!(listed.setIfInBounds x true).getD j false):=
         List.filter_congr fun y hy=>by
          have hne:x≠y:=fun e=>hnd.1 (by rw[e];exact hy)
          rw[getD_set_ne false hne]
        have hset:(listed.setIfInBounds x true).getD x false=true:=by simp[hisz]
        rw[List.filter_cons,List.filter_cons,ifP (by rw[hunf];rfl),ifN (by rw[hset];decide),hsame,lnC]
       ·have hmem' : i∈l:=by rcases List.mem_cons.1 hmem with h|h;exact absurd h.symm hx;exact h
        have:=ihl hnd.2 hmem'
        rw[List.filter_cons,List.filter_cons,getD_set_ne false (Ne.symm hx)]
        split
        ·rw[lnC,lnC,this]
        ·exact this
     have:=hcount (List.range hN) List.nodup_range (List.mem_range.2 hih)
     omega
    ·rw[hnewR]
     have hvr:VR S F' g' w' (q6Q (pl listed) 0 hl ss ρ) ρc:=k2
     exact (hvr.pres m2).put o.dst m3
   unfold wpOp
   simp only[ho]
   rw[z3W hguards hr,hgate]
   cases hon:s.on with
   | true=>
    rw[ifP rfl]
    have hlt:=e3 hon _ F' g' w' ρc k1 (fun id hid=>hroot id (.inl hid)) (fun p hp=>hroot p.1 (.inr (List.mem_map.2 ⟨p,hp,rfl⟩))) hops
    have hopx:OpX P ops o ρc w' (fun vc w''=>∃ F2 g2,Sim S F2 g2 (owr (q9O (pl listed) 0 ss (fnOf σ)) s.wr) w''∧Pres S.B F' g' w' F2 g2 w''∧vr (SM F2 S.B) w'' g2 s.v vc):=.inl ⟨by rw[hgate,hon],hlt⟩
    rcases (hopx.opW (n:=n)) with ⟨_,hop⟩|⟨hgf,_⟩
    ·exact .inl (hop a _ _ hr hoko next)
    ·rw[hgate,hon] at hgf;cases hgf
   | false=>
    rw[ifN (by decide)]
    obtain⟨h5,h6⟩:=e4 hon
    refine next undef w' ⟨F',g',by rw[h6];exact k1,Pres.refl,?_⟩
    rw[h5,vr];exact⟨[],rfl,by rw[vrs]⟩
 have hc0:((List.range hN).filter (fun j=>!(Array.replicate ops.size false).getD j false)).length=hN:=by
  rw[List.filter_eq_self.2 (fun j _=>by rw[getD_replicate_false];rfl)]
  simp
 have h0S:q9O (pl (Array.replicate ops.size false)) 0 ss (fnOf σ)=fnOf σ:=by
  have key:∀ (ss:List Stp) (k:Nat) (σ:Nat→Root),q9O (pl (Array.replicate ops.size false)) k ss σ=σ:=by
   intro ss
   induction ss with
   | nil=>exact fun _ _=>rfl
   | cons s ss ih=>intro k σ;rw[q9O,show pl (Array.replicate ops.size false) k=false from getD_replicate_false _ _];exact ih _ _
  exact key _ _ _
 have h0R:q6Q (pl (Array.replicate ops.size false)) 0 hl ss ρ=ρ:=by
  have key:∀ (l:List Oper) (ss:List Stp) (k:Nat) (ρ:AE),q6Q (pl (Array.replicate ops.size false)) k l ss ρ=ρ:=by
   intro l
   induction l with
   | nil=>intro ss k ρ;simp[q6Q]
   | cons o l ih=>
    intro ss k ρ
    cases ss with
    | nil=>simp[q6Q]
    | cons s ss=>rw[q6Q,show pl (Array.replicate ops.size false) k=false from getD_replicate_false _ _];exact ih _ _ _
  exact key _ _ _ _
 have hdrew:Ext w { w with drawn:=w.drawn+1 }:=Ext.drawn w _
 obtain⟨q1,q2⟩:=hs.ext (F':=F) hdrew (fun _ h=>h) (fun b hb=>⟨hs.flt b hb,.inl hb⟩)
 have:=main hN _ ρc a { w with drawn:=w.drawn+1 } hc0 ⟨⟨by simp,fun j oj _ hl=>(by rw[getD_replicate_false] at hl;cases hl),fun t _ ht=>by simp[ht]⟩,F,g,by rw[h0S];exact q1,fun t=>by rw[h0R];exact q2 _ _ (hv t)⟩ ha
 rwa[show hN+(ops.size-hN)=ops.size by omega] at this
end
theorem z1f {m:Md}:mle m m=true:=by cases m<;>rfl
theorem q9P {m:Md}:mle m .bo=true:=by cases m<;>rfl
class HasTab (P:Program) where
 tab:Tab
 ok:tab.ok P=true
abbrev Md2:=Option (Nat×Lg×Option Nat)
def q4f (md:Md2)(rd ids:List Nat):Md2:=match md with
 | none=>none
 | some (k,lg,hd)=>some (k+1,lg++[(rd,ids)],hd)
def ghM (md:Md2):Md2:=match md with
 | none=>none
 | some (k,lg,hd)=>some (k,lg,hmin hd k)
def okM2 (ops:Array Oper):Md2→Bool
 | none=>true
 | some (_,lg,hd)=>j7b ops lg hd
def AL (P:Program)(S:Start)(ops:Array Oper)(Q:AE→St→Prop)(md:Md2)(l:List Oper)(ρ:AE)(σ:St):Prop:=match md with
 | none=>∀ k lg hd,AT P S ops (fun ρ σ _ _=>Q ρ σ) k l ρ σ lg hd
 | some (k,lg,hd)=>AT P S ops (fun ρ σ lg hd=>Q ρ σ∧j7b ops lg hd=true) k l ρ σ lg hd
section
variable {P:Program}[HasTab P]{S:Start}{n:Nat}{ops:Array Oper}{Q:AE→St→Prop}{QP:q4h}{o:Oper}{rest:List Oper}{ρ:AE}{σ:St}{d:Nat}{v:X}{rd:List Nat}{md:Md2}
theorem AL.nil (h:Q ρ σ)(hm:okM2 ops md=true:=by kernel_rfl):AL P S ops Q md [] ρ σ:=by
 cases md with
 | none=>exact fun _ _ _=>.nil h
 | some p=>exact .nil ⟨h,hm⟩
theorem q0f {wr:List (Nat×Root)}(hl:LT P S o ρ σ rd v wr)(h:AL P S ops Q (q4f md rd (wr.map (·.1))) rest (updX ρ d v) (owrL σ wr))(hd:o.dst=some d:=by rfl)(hg:q3X ops ρ o=some true:=by rfl):AL P S ops Q md (o::rest) ρ σ:=by
 cases md with
 | none=>exact fun k lg hd'=>.op hg hl (by rw[hd];exact h _ _ _)
 | some p=>obtain⟨k,lg,hd'⟩:=p;exact .op hg hl (by rw[hd];exact h)
theorem q0I {wr:List (Nat×Root)}(hl:LT P S o ρ σ rd v wr)(h:AL P S ops Q (q4f md rd (wr.map (·.1))) rest ρ (owrL σ wr))(hd:o.dst=none:=by rfl)(hg:q3X ops ρ o=some true:=by rfl):AL P S ops Q md (o::rest) ρ σ:=by
 cases md with
 | none=>exact fun k lg hd'=>.op hg hl (by rw[hd];exact h _ _ _)
 | some p=>obtain⟨k,lg,hd'⟩:=p;exact .op hg hl (by rw[hd];exact h)
theorem AL.off (h:AL P S ops Q (q4f md [] []) rest (updX ρ d (.tu [])) σ)(hd:o.dst=some d:=by rfl)(hg:q3X ops ρ o=some false:=by rfl):AL P S ops Q md (o::rest) ρ σ:=by
 cases md with
 | none=>exact fun k lg hd'=>.off hg (by rw[hd];exact h _ _ _)
 | some p=>obtain⟨k,lg,hd'⟩:=p;exact .off hg (by rw[hd];exact h)
theorem AL.gh {ρ' : AE}{σ' : St}(hl:GH S ρ σ ρ' σ')(h:AL P S ops Q (ghM md) rest ρ' σ'):AL P S ops Q md rest ρ σ:=by
 cases md with
 | none=>exact fun k lg hd'=>.gh hl (h _ _ _)
 | some p=>obtain⟨k,lg,hd'⟩:=p;exact .gh hl h
theorem q0k {id:Nat}(h:AL P S ops (fun ρ σ=>QP .normal ρ σ) none ops.toList ρ σ):AW P S n (.region id ops false) QP ρ σ:=q2l (h _ _ _)
theorem q0q {id:Nat}(hm:P.follows .mixedOrders=true:=by kernel_rfl)(h:AL P S ops (fun ρ σ=>QP .normal ρ σ) (some (0,[],none)) ops.toList ρ σ):AW P S n (.region id ops true) QP ρ σ:=AW.draw hm h
theorem AT.bind {K K1:AE→St→Lg→Option Nat→Prop}{l1 l2:List Oper}{k:Nat}{ρ:AE}{σ:St}{lg:Lg}{hd:Option Nat}(h:AT P S ops K1 k l1 ρ σ lg hd)(h2:∀ ρ' σ' lg' hd',K1 ρ' σ' lg' hd'→AT P S ops K (k+l1.length) l2 ρ' σ' lg' hd'):AT P S ops K k (l1++l2) ρ σ lg hd:=by
 induction h with
 | nil h=>exact h2 _ _ _ _ h
 | op hg hl _ ih=>exact .op hg hl (ih fun a b c d e=>by have:=h2 a b c d e;rwa[lnC,show ∀ k m:Nat,k+(m+1)=k+1+m from fun k m=>by omega] at this)
 | off hg _ ih=>exact .off hg (ih fun a b c d e=>by have:=h2 a b c d e;rwa[lnC,show ∀ k m:Nat,k+(m+1)=k+1+m from fun k m=>by omega] at this)
 | opT hg hl _ ih=>exact .opT hg hl (ih fun a b c d e=>by have:=h2 a b c d e;rwa[lnC,show ∀ k m:Nat,k+(m+1)=k+1+m from fun k m=>by omega] at this)
 | gh hl _ ih=>exact .gh hl (ih h2)
theorem V (hv:opV (HasTab.tab P) ρ σ o.op=some (v,rd))(h:AL P S ops Q (q4f md rd []) rest (updX ρ d v) σ)(hd:o.dst=some d:=by rfl)(hg:q3X ops ρ o=some true:=by rfl):AL P S ops Q md (o::rest) ρ σ:=
 q0f (wr:=[]) (q1z HasTab.ok hv) h hd hg
theorem q3Y {T e:Nat}{t te:TI}(hT:(HasTab.tab P).get T=some t)(he:t.el=some e)(hE:(HasTab.tab P).get e=some te):q7D P T=some e∧szT P e=some te.sz:=⟨TI.el' (Tab.chk HasTab.ok hT) he,TI.sz' (Tab.chk HasTab.ok hE)⟩
variable {T e:Nat}{t te:TI}{z:Nat}
theorem NV {zs:List X}(r:Nat)(h:AL P S ops Q (q4f md [] [r]) rest (updX ρ d (.pb r 0)) (setL σ r (.box zs)))(ho:o.op=.alloc T:=by rfl)(hT:(HasTab.tab P).get T=some t:=by rfl)(hz:t.z=some zs:=by rfl)(hr:fnOf σ r=.none:=by rfl)(hd:o.dst=some d:=by rfl)(hg:q3X ops ρ o=some true:=by rfl):AL P S ops Q md (o::rest) ρ σ:=by
 obtain⟨z,h1,h2⟩:=TI.z' (Tab.chk HasTab.ok hT) hz
 exact q0f (LT.alloc ho h1 h2 hr) h hd hg
theorem BX {x:Operand}{X1:X}(r:Nat)(h:AL P S ops Q (q4f md (q8g X1) [r]) rest (updX ρ d (.pb r 0)) (setL σ r (.box X1.cells)))(ho:o.op=.box T x:=by rfl)(hx:evX ρ x=X1:=by rfl)(hs:z3Y (fnOf σ) X1=true:=by rfl)(hr:fnOf σ r=.none:=by rfl)(hd:o.dst=some d:=by rfl)(hg:q3X ops ρ o=some true:=by rfl):AL P S ops Q md (o::rest) ρ σ:=
 q0f (LT.box ho hx hs hr) h hd hg
theorem SB {x y:Operand}{Y:X}{r c:Nat}{cs:List X}(h:AL P S ops Q (q4f md (Y.cells.flatMap q8g) [r]) rest ρ (setL σ r (.box (spl cs c Y.cells))))(ho:o.op=.store T x y:=by rfl)(hT:(HasTab.tab P).get T=some t:=by rfl)(hx:evX ρ x=.pb r c:=by rfl)(hσ:fnOf σ r=.box cs:=by rfl)(hy:evX ρ y=Y:=by rfl)(hl:Y.cells.length=t.sz:=by rfl)(hf:Nat.ble (c+t.sz) cs.length=true:=by rfl)(hs:Y.cells.all (z8Q (fnOf σ))=true:=by rfl)(hd:o.dst=none:=by rfl)(hg:q3X ops ρ o=some true:=by rfl):AL P S ops Q md (o::rest) ρ σ:=
 q0I (q2m ho (TI.sz' (Tab.chk HasTab.ok hT)) hx hσ hy hl hf hs) h hd hg
theorem LE {α:Type}{x:Operand}{m:Md}{r:Nat}{f:α→D}{xs:List α}{k:Nat}(h:AL P S ops Q (q4f md [r] []) rest (updX ρ d (.d .fz (.i .i64 xs.length))) σ)(ho:o.op=.call { callee:=.builtin .len,args:=#[x],argTypes:=#[T] }:=by rfl)(hT:(HasTab.tab P).get T=some t:=by rfl)(he:t.el=some e:=by rfl)(hx:evX ρ x=.ref r none:=by rfl)(hσ:fnOf σ r=.row m k (xs.map f):=by rfl)(hd:o.dst=some d:=by rfl)(hg:q3X ops ρ o=some true:=by rfl):AL P S ops Q md (o::rest) ρ σ:=
 q0f (q0R (k:=xs.length) ho (TI.el' (Tab.chk HasTab.ok hT) he) hx (by rw[hσ];rfl) (by simp)) h hd hg
theorem q3Z {α β:Type}{f:α→β}{xs:List α}{i:Nat}{x:α}(h:xs[i]?=some x):(xs.map f)[i]?=some (f x):=by simp[h]
theorem IF {α:Type}{x i:Operand}{m m' : Md}{f:α→D}{xs:List α}{q:IntKind}{j:Int}{y:α}(h0:0≤j)(hj:xs[j.toNat]?=some y)(h:AL P S ops Q (q4f md [] []) rest (updX ρ d (.pf m (f y).cells)) σ)(ho:o.op=.indexAddr T x i:=by rfl)(hT:(HasTab.tab P).get T=some t:=by rfl)(he:t.el=some e:=by rfl)(hE:(HasTab.tab P).get e=some te:=by rfl)(hx:evX ρ x=.d m (.sl te.sz (xs.map f)):=by rfl)(hi:evX ρ i=.d m' (.i q j):=by rfl)(hd:o.dst=some d:=by rfl)(hg:q3X ops ρ o=some true:=by rfl):AL P S ops Q md (o::rest) ρ σ:=
 q0f (q3v ho (q3Y hT he hE).1 (q3Y hT he hE).2 hx hi h0 (q3Z hj)) h hd hg
theorem L0 {α:Type}(r:Nat)(f:α→D)(h:AL P S ops Q (q4f md [] [r]) rest (updX ρ d (.ref r none)) (setL σ r (.row .fz te.sz (([]:List α).map f))))(ho:o.op=.buildSlice T 0 #[]:=by rfl)(hT:(HasTab.tab P).get T=some t:=by rfl)(he:t.el=some e:=by rfl)(hE:(HasTab.tab P).get e=some te:=by rfl)(hr:fnOf σ r=.none:=by rfl)(hd:o.dst=some d:=by rfl)(hg:q3X ops ρ o=some true:=by rfl):AL P S ops Q md (o::rest) ρ σ:=
 q0f (q1x ho (q3Y hT he hE).1 (q3Y hT he hE).2 hr) h hd hg
theorem AP {α:Type}{s x:Operand}{X1:X}{m' m0:Md}{f:α→D}{xs ys:List α}{zs:List X}{r b1:Nat}(r' : Nat)(m:Md)(hmax:((xs.length:Int)+(ys.length:Int))*te.by_≤140737488355328∧(xs.length:Int)+(ys.length:Int)≤9223372036854775807)(h:AL P S ops Q (q4f md (q8g X1) [r,r']) rest (updX ρ d (.ref r' none)) (setL (setL σ r .dead) r' (.row m te.sz ((xs++ys).map f))))
  (ho:o.op=.call { callee:=.builtin .append,args:=#[s,x],argTypes:=#[T,T] }:=by rfl) (hT:(HasTab.tab P).get T=some t:=by rfl) (he:t.el=some e:=by rfl) (hE:(HasTab.tab P).get e=some te:=by rfl) (hs:evX ρ s=.ref r none:=by rfl) (hx:evX ρ x=X1:=by rfl) (hsrc:srcD (fnOf σ) X1=some (m',te.sz,ys.map f):=by rfl) (hσ:fnOf σ r=.row m0 te.sz (xs.map f):=by rfl) (hz:te.z=some zs:=by rfl) (hb:te.by_=b1+1:=by rfl) (hzl:zs.length=te.sz:=by rfl) (hk0:Nat.blt 0 te.sz=true:=by rfl) (hm:mle m' m=true:=by first|rfl|exact z1f|exact q9P) (hm0:mle m0 m=true:=by first|rfl|exact z1f|exact q9P) (hr:fnOf σ r'=.none:=by rfl) (hd:o.dst=some d:=by rfl) (hg:q3X ops ρ o=some true:=by rfl):AL P S ops Q md (o::rest) ρ σ:=by
 obtain⟨z,h1,h2⟩:=TI.z' (Tab.chk HasTab.ok hE) hz
 refine q0f (q1y (r':=r') ho (q3Y hT he hE).1 (q3Y hT he hE).2 (TI.by' (Tab.chk HasTab.ok hE) hb) h1 (by rw[← hzl,← (h2 (fun _ _=>True) default (fun _=>.none)).len]) hk0 hs hσ hx hsrc hm hm0 ?_ ?_ hr) (by rw[← List.map_append];exact h) hd hg
 ·simp only[lnM]
  have:=hmax.1
  rw[← Int.natCast_add,← Int.natCast_mul] at this
  omega
 ·simp only[lnM]
  show _≤9223372036854775807
  have:=hmax.2
  omega
theorem MK {l c:Operand}{m1 m2:Md}{q q' : IntKind}{j:Int}{zs:List X}{dd:D}{b1:Nat}(r:Nat)(hl:evX ρ l=.d m1 (.i q j))(hc:evX ρ c=.d m2 (.i q' j))(dz:D)(hdz:asCs .fz zs=some dz.cells)(h0:0≤j)(hm:j≤9223372036854775807)(hbm:(te.by_:Int)*j≤281474976710656)(h:AL P S ops Q (q4f md [] [r]) rest (updX ρ d (.ref r none)) (setL σ r (.row .fz te.sz (List.replicate j.toNat dz))))
  (ho:o.op=.makeSlice T l c:=by rfl) (hT:(HasTab.tab P).get T=some t:=by rfl) (he:t.el=some e:=by rfl) (hE:(HasTab.tab P).get e=some te:=by rfl) (hz:te.z=some zs:=by rfl) (hb:te.by_=b1+1:=by rfl) (hzl:zs.length=te.sz:=by rfl) (hr:fnOf σ r=.none:=by rfl) (hd:o.dst=some d:=by rfl) (hg:q3X ops ρ o=some true:=by rfl):AL P S ops Q md (o::rest) ρ σ:=by
 obtain⟨z,h1,h2⟩:=TI.z' (Tab.chk HasTab.ok hE) hz
 exact q0f (LT.mk ho (q3Y hT he hE).1 (q3Y hT he hE).2 (TI.by' (Tab.chk HasTab.ok hE) hb) h1 (by rw[← hzl,← (h2 (fun _ _=>True) default (fun _=>.none)).len]) hl hc h2 hdz h0 hm hbm hr) h hd hg
theorem OB {op:BinOp}{U:Nat}{x y:Operand}{X1 Y1:X}{u1 v1 r1:Value}(z:D)(hB:rngX X1→rngX Y1→Bin P op T u1 v1 r1∧rngD z)(h:AL P S ops Q (q4f md [] []) rest (updX ρ d (.d .fz z)) σ)(ho:o.op=.binOp op T x y U:=by rfl)(hx:evX ρ x=X1:=by rfl)(hy:evX ρ y=Y1:=by rfl)(hu:cvX X1=some u1:=by rfl)(hv:cvX Y1=some v1:=by rfl)(hz:cv z=some r1:=by rfl)(hd:o.dst=some d:=by rfl)(hg:q3X ops ρ o=some true:=by rfl):AL P S ops Q md (o::rest) ρ σ:=
 q0f (q0G ho hx hy hu hv hB hz) h hd hg
theorem CA {f:Nat}{c:Call}{x:Operand}{caps axs args:List X}{pre post:St}{res:X}(ren:List (Nat×Nat))(vw:List Nat)(ok:Ok P f args pre res post)(hp:PassL (fnOf σ) ren vw axs args)(h:AL P S ops Q (q4f md vw ((ren.map fun p=>(p.2,z4P ren (fnOf post p.1))).map (·.1))) rest (updX ρ d (renX ren res)) (owrL σ (ren.map fun p=>(p.2,z4P ren (fnOf post p.1)))))(hpre:PreL (fnOf σ) (fnOf pre) ren ren)
  (ho:o.op=.call c:=by rfl) (hc:c.callee=.value x:=by rfl) (hx:evX ρ x=.fn f caps:=by rfl) (hcb:q8x P f=true:=by kernel_rfl) (ha:c.args.toList.map (evX ρ)++caps=axs:=by rfl) (hchk:z9F ren vw pre post res=true:=by rfl) (hd:o.dst=some d:=by rfl) (hg:q3X ops ρ o=some true:=by rfl):AL P S ops Q md (o::rest) ρ σ:=
 q0f (q0S ren vw ho hc hx hcb ha ok hp hpre hchk) h hd hg
end
end Go.A
