/- A small engine for walks through a Go program: plain lemmas on the model, without conditions of their own. -/
import Derived.Test.YtmblndlpkpaobaaGreatEngC
import Derived.Sort.Grow
import Derived.Deep.Draws
import Derived.Shelf.GgSortFunc.RowK
import Derived.OrdersHeld
import Derived.Laws.CopyRow
import Derived.Laws.IdiomCopy
set_option linter.unusedVariables false
set_option linter.unusedSimpArgs false
set_option linter.ambiguousOpen false
set_option linter.unusedSectionVars false
set_option linter.unnecessarySimpa false
namespace Go.E
open Go
section
variable {P:Program}{n:Nat}{Q:Post}{ρ:Env}{w:World}{ops:Array Oper}{o:Oper}{rest:List Oper}{C:World→Prop}{F:Env→Prop}{R:World→World→Prop}
def QC (R:World→World→Prop)(P:Program)(n:Nat)(ops:Array Oper)(C:World→Prop)(F:Env→Prop):List Oper→Env→Prop
 | [],ρ=>F ρ
 | o :: rest,ρ=>∃ v,(∀ w,C w→OpQ P ops (R w) o ρ w v)∧QC R P n ops C F rest (E.put ρ o.dst v)
theorem QC.nil (h:F ρ):QC R P n ops C F [] ρ:=h
theorem QC.ev {v:Value}{d:Nat}(hg:o.guard=none)(hd:o.dst=some d)(he:∀ w,C w→Ev P ρ o w v)(h:QC R P n ops C F rest (upd ρ d v)):QC R P n ops C F (o :: rest) ρ:=
 ⟨v,fun w hw=>.inl ⟨by simp [gate,hg],by rw [he w hw]; exact⟨rfl,rfl⟩⟩,by rw [hd]; exact h⟩
theorem QC.on (_hG:q3u n ops=true)(hg:gate ops ρ o=true)(h:QC R P n ops C F ({ o with guard:=none } :: rest) ρ):QC R P n ops C F (o :: rest) ρ:=by
 obtain⟨v,h1,h2⟩:=h
 refine⟨v,fun w hw=>.inl ⟨hg,?_⟩,h2⟩
 rcases h1 w hw with h3 | h3
 ·exact h3.2
 ·exact absurd h3.1 (by simp [gate])
theorem QC.off {d:Nat}(_hG:q3u n ops=true)(hg:gate ops ρ o=false)(hd:o.dst=some d)(h:QC R P n ops C F rest (upd ρ d undef)):QC R P n ops C F (o :: rest) ρ:=
 ⟨undef,fun _ _=>.inr ⟨hg,rfl⟩,by rw [hd]; exact h⟩
theorem QC.call {c:Call}{f:FuncId}{x:Operand}{caps:Array Value}{args:List Value}{v:Value}{d:Nat}(hg:o.guard=none)(hd:o.dst=some d)(ho:o.op = .call c)(hx:c.callee = .value x)(hf:E.ev ρ x = .func (.func f) #[] caps)
  (hc:q0a P f=true) (ha:c.args.toList.map (E.ev ρ)++caps.toList=args) (hr:∀ w,C w→Ret P f args.toArray w (fun _=>False) fun u w'=>u=v∧R w w')
  (h:QC R P n ops C F rest (upd ρ d v)):QC R P n ops C F (o :: rest) ρ:=by
 refine⟨v,fun w hw=>.inl ⟨by simp [gate,hg],?_⟩,by rw [hd]; exact h⟩
 simp only [execOp,ho]
 rw [q9V hx hf hc ha]
 exact⟨rfl,Calls.mono (hr w hw) fun _ _ ⟨_,he,_,hv,hch⟩=>⟨by rw [he,hv],hch⟩⟩
def stepsC (R:World→World→Prop)(P:Program)(n:Nat)(ops:Array Oper)(h:Nat)(D:Nat→List Nat)(Ψ:Nat→List Value→World→Prop)(ρ:Env)(w:World):Nat→List Oper→Prop
 | _,[]=>True
 | i,o :: l=>(∀ ρ' w',R w w'→(∀ t,(∀ j,j < h→dstOf ops j≠some t)→ρ' t=ρ t)→(∀ j,(q0g o).contains j=true→Ψ j ((D j).map ρ') w') →
   OpW P n ops o ρ' w' (fun v w''=>R w' w''∧Ψ i ((D i).map (E.put ρ' o.dst v)) w''))∧stepsC R P n ops h D Ψ ρ w (i+1) l
theorem stepsC.get {h:Nat}{D:Nat→List Nat}{Ψ:Nat→List Value→World→Prop}:∀ (l:List Oper)(k i:Nat)(o:Oper),stepsC R P n ops h D Ψ ρ w k l→l[i]? = some o →
  (∀ ρ' w',R w w'→(∀ t,(∀ j,j < h→dstOf ops j≠some t)→ρ' t=ρ t)→(∀ j,(q0g o).contains j=true→Ψ j ((D j).map ρ') w') →
   OpW P n ops o ρ' w' (fun v w''=>R w' w''∧Ψ (k+i) ((D (k+i)).map (E.put ρ' o.dst v)) w''))
 | [],_,_,_,_,hh=>by simp at hh
 | x :: l,k,0,o,hs,hh=>by simp at hh; subst hh; exact hs.1
 | x :: l,k,i+1,o,hs,hh=>by
  have:=stepsC.get l (k+1) i o hs.2 (by simpa using hh)
  rwa [Nat.add_right_comm] at this
structure InvC (R:World→World→Prop) (n:Nat) (ops:Array Oper) (h:Nat) (D:Nat→List Nat) (Ψ:Nat→List Value→World→Prop) (ρ0:Env) (w0:World) (listed:Array Bool) (ρ:Env) (w:World):Prop where
 head:HeadInv .any ops h listed
 ext:R w0 w
 out:∀ t,(∀ j,j < h→dstOf ops j≠some t)→ρ t=ρ0 t
 known:∀ j,j < h→listed.getD j false=true→Ψ j ((D j).map ρ) w
section loose
variable {h:Nat}{D:Nat→List Nat}
theorem CW.looseC {id:Nat}(h:Nat)(D:Nat→List Nat)(Ψ:Nat→List Value→World→Prop)(hm:P.follows .mixedOrders=true)(hB:looseB ops h D=true)
  (htrans:∀ {a b c},R a b→R b c→R a c) (hdraw:∀ w,R w { w with drawn:=w.drawn+1 })
  (hext:∀ i vs w w',Ψ i vs w→R w w'→Ψ i vs w')
  (hstep:stepsC R P n ops h D Ψ ρ w 0 (ops.toList.take h))
  (hend:∀ ρ' w',R w w'→(∀ t,(∀ j,j < h→dstOf ops j≠some t)→ρ' t=ρ t)→(∀ j,j < h→Ψ j ((D j).map ρ') w')→WL P n ops Q (ops.toList.drop h) ρ' w'):CW P n (.region id ops true) Q ρ w:=by
 intro hok a ha
 have hok' : ops.toList.all (okOper n)=true:=by simpa [okCode] using hok
 refine wp_region_any hm ?_
 have hB':=hB
 simp only [looseB,Bool.and_eq_true] at hB'
 have hle:h≤ops.size:=by simpa using hB'.1.1.1
 have hseq:=hB'.2
 -- when the head is through
 have done:∀ (listed:Array Bool) (ρ' : Env) (a:Act) (w' : World),InvC R n ops h D Ψ ρ w listed ρ' w'→Rel n ρ' a→(∀ j,j < h→listed.getD j false=true)→wpAny P .any ops (lift n Q) (ops.size - h) listed a w':=by
  intro listed ρ' a w' inv hr hall
  have hlisted:listed=Array.replicate h true++Array.replicate (ops.size - h) false:=by
   apply Array.ext
   ·simp [inv.head.size]; omega
   ·intro i h1 h2
    by_cases hi:i < h
    ·have:=hall i hi
     simp [h1] at this
     rw [this,Array.getElem_append_left (by simpa using hi)]
     simp
    ·have:=inv.head.tail i (by omega) (by rw [← inv.head.size]; exact h1)
     simp [h1] at this
     rw [this,Array.getElem_append_right (by simpa using Nat.le_of_not_lt hi)]
     simp
  subst hlisted
  have hw:=hend ρ' w' inv.ext inv.out (fun j hj=>inv.known j hj (hall j hj)) (by
   refine List.all_eq_true.2 fun o ho=>List.all_eq_true.1 hok' o (List.mem_of_mem_drop ho)) a hr
  have hlen:(ops.toList.drop h).length=ops.size - h:=by simp
  have:=wpAny_of_seq (P:=P) (md:=.any) (ops:=ops) (Q':=lift n Q) (ops.toList.drop h) h (Array.replicate h true++Array.replicate (ops.size - h) false) a w'
   (fun j=>by simp [List.getElem?_drop]) (by rw [hlen]; exact hseq) hw
  rwa [hlen] at this
 have main:∀ (c:Nat) (listed:Array Bool) (ρ' : Env) (a:Act) (w' : World),((List.range h).filter (fun j=>!listed.getD j false)).length=c→InvC R n ops h D Ψ ρ w listed ρ' w'→Rel n ρ' a →
   wpAny P .any ops (lift n Q) (c+(ops.size - h)) listed a w':=by
  intro c
  induction c with
  | zero=>
   intro listed ρ' a w' hc inv hr
   rw [Nat.zero_add]
   refine done listed ρ' a w' inv hr fun j hj=>?_
   have h0:(List.range h).filter (fun j=>!listed.getD j false)=[]:=List.eq_nil_of_length_eq_zero hc
   have:=List.filter_eq_nil_iff.1 h0 j (List.mem_range.2 hj)
   simpa using this
  | succ c ih=>
   intro listed ρ' a w' hc inv hr
   have hex:∃ j,j < h∧listed.getD j true=false:=by
    have:((List.range h).filter (fun j=>!listed.getD j false))≠[]:=fun e=>by rw [e] at hc; simp at hc
    obtain⟨j,hj⟩:=List.exists_mem_of_ne_nil _ this
    rw [List.mem_filter,List.mem_range] at hj
    exact⟨j,hj.1,getD_in (by rw [inv.head.size]; omega) (by simpa using hj.2)⟩
   obtain⟨j0,hj0,hl0⟩:=hex
   obtain⟨i0,hi0,_⟩:=q4v hB inv.head.size j0 j0 (Nat.le_refl _) (by omega) hl0
   rw [show c+1+(ops.size - h)=(c+(ops.size - h))+1 by omega]
   refine⟨fun h0=>(by rw [h0] at hi0; cases hi0),fun i hi=>?_⟩
   have hih:i < h:=by
    rcases Nat.lt_or_ge i h with hlt | hge
    ·exact hlt
    ·exfalso
     obtain⟨_,oi,hoi,_⟩:=mem_ready.1 hi
     have hlt:i < ops.size:=(Array.getElem?_eq_some_iff.1 hoi).1
     have hsc:Region.sinkB .any ops h=true∧Region.chainB .any ops h=true:=by
      have h3:=hB'.1.2
      simp only [Bool.or_eq_true,Bool.and_eq_true] at h3
      rcases h3 with h3 | h3
      ·have:=Nat.eq_of_beq_eq_true h3; omega
      ·exact h3
     exact tail_waits hsc.1 hsc.2 (by omega) inv.head _ j0 rfl hj0 hl0 i hge hi
   obtain⟨hun,o,ho,hall⟩:=mem_ready.1 hi
   have hmem:o∈ops.toList:=by rw [Array.mem_toList_iff]; exact Array.mem_of_getElem? ho
   have hoko:okOper n o=true:=List.all_eq_true.1 hok' o hmem
   have hguards:q3u n ops=true:=by
    refine List.all_eq_true.2 fun o' ho'=>?_
    have:=List.all_eq_true.1 hok' o' ho'
    simp only [okOper,Bool.and_eq_true] at this
    exact this.1.1
   have hst:=stepsC.get (ops.toList.take h) 0 i o hstep (by rw [List.getElem?_take,if_pos hih]; simpa using ho) ρ' w' inv.ext inv.out (fun j hj=>by
    have hjd:j∈q0g o:=by simpa using hj
    obtain⟨e,he,hb,rfl⟩:=q1T.1 hjd
    have:=q2l hB ho _ hjd
    exact inv.known _ (by omega) (hall e he hb))
   rw [Nat.zero_add] at hst
   -- what holds when it has been carried out
   have next:∀ v w'',(R w' w''∧Ψ i ((D i).map (E.put ρ' o.dst v)) w'')→wpAny P .any ops (lift n Q) (c+(ops.size - h)) (listed.setIfInBounds i true) (a.put o.dst v) w'':=by
    intro v w'' ⟨hx,hΨ⟩
    have hi_size:i < listed.size:=by rw [inv.head.size]; omega
    have hi_un:listed.getD i false=false:=getD_both hun
    refine ih _ (E.put ρ' o.dst v) _ _ ?_ ⟨inv.head.set hi hih,htrans inv.ext hx,fun t ht=>?_,fun j hj hl=>?_⟩ (hr.put _ _)
    ·have hcount:∀ (l:List Nat),l.Nodup→i∈l→(l.filter (fun j=>!listed.getD j false)).length=(l.filter (fun j=>!(listed.setIfInBounds i true).getD j false)).length+1:=by
      intro l
      induction l with
      | nil=>intro _ h; cases h
      | cons x l ihl=>
       intro hnd hmem
       rw [List.nodup_cons] at hnd
       by_cases hx:x=i
       ·subst hx
        have hsame:l.filter (fun j=>!listed.getD j false)=l.filter (fun j=>!(listed.setIfInBounds x true).getD j false):=
         List.filter_congr fun y hy=>by
          have hne:x≠y:=fun e=>hnd.1 (by rw [e]; exact hy)
          rw [getD_set_ne false hne]
        have hset:(listed.setIfInBounds x true).getD x false=true:=by simp [hi_size]
        rw [List.filter_cons,List.filter_cons,if_pos (by rw [hi_un]; rfl),if_neg (by rw [hset]; decide),hsame,List.length_cons]
       ·have hmem' : i∈l:=by rcases List.mem_cons.1 hmem with h | h; exact absurd h.symm hx; exact h
        have:=ihl hnd.2 hmem'
        rw [List.filter_cons,List.filter_cons,getD_set_ne false (Ne.symm hx)]
        split
        ·rw [List.length_cons,List.length_cons,this]
        ·exact this
     have:=hcount (List.range h) List.nodup_range (List.mem_range.2 hih)
     omega
    ·cases hd:o.dst with
     | none=>exact inv.out t ht
     | some d=>
      have hne:t≠d:=fun e=>ht i hih (by unfold dstOf; rw [ho]; simp [hd,e])
      show upd ρ' d v t=ρ t
      rw [q0E _ _ hne]
      exact inv.out t ht
    ·by_cases hji:j=i
     ·subst hji; exact hΨ
     ·rw [getD_set_ne false (Ne.symm hji)] at hl
      have hkn:=hext j _ _ _ (inv.known j hj hl) hx
      obtain⟨oj,hoj⟩:∃ oj,ops[j]? = some oj:=⟨ops[j]'(by omega),by rw [Array.getElem?_eq_getElem (by omega)]⟩
      have hnot:∀ t,o.dst=some t→t ∉ D j:=fun t ht hmemt=>by
       have hdi:dstOf ops i=some t:=by unfold dstOf; rw [ho]; exact ht
       have h5:=(q3F hB hoj hdi (Ne.symm hji)).1 hmemt
       obtain⟨e,he,hb,hon⟩:=q1T.1 h5
       have:=inv.head.closed j oj hoj hl e he hb
       rw [hon,hi_un] at this
       cases this
      rw [q6l hnot]
      exact hkn
   unfold wpOp
   simp only [ho]
   rw [q4m hguards hr]
   rcases hst with ⟨hg,hop⟩ | ⟨hg,hR⟩
   ·rw [if_pos hg]
    exact .inl (hop a _ _ hr hoko next)
   ·rw [if_neg (by rw [hg]; decide)]
    exact next undef w' hR
 have h0:InvC R n ops h D Ψ ρ w (Array.replicate ops.size false) ρ { w with drawn:=w.drawn+1 }:=by
  refine⟨⟨by simp,fun j oj _ hl=>?_,fun t _ ht=>by simp [ht]⟩,hdraw w,fun _ _=>rfl,fun j _ hl=>?_⟩
  ·rw [getD_replicate_false] at hl; cases hl
  ·rw [getD_replicate_false] at hl; cases hl
 have hc0:((List.range h).filter (fun j=>!(Array.replicate ops.size false).getD j false)).length=h:=by
  rw [List.filter_eq_self.2 (fun j _=>by rw [getD_replicate_false]; rfl)]
  simp
 have:=main h _ ρ a _ hc0 h0 ha
 rwa [show h+(ops.size - h)=ops.size by omega] at this
theorem OpQ.opC {o:Oper}{v:Value}(hrefl:∀ w,R w w)(h:OpQ P ops (R w) o ρ w v){S:Value→World→Prop}(hR:∀ w',R w w'→S v w'):OpW P n ops o ρ w S:=by
 rcases h with ⟨hg,h⟩ | ⟨hg,rfl⟩
 ·refine .inl ⟨hg,fun a K Q' ha hok hK=>?_⟩
  unfold Oper.wp
  rw [q1m ha hok]
  generalize (execOp (E.ev ρ) o).run P w=r at h
  cases r with
  | ok x w'=>
   cases x<;>simp only [Oper.quietUpon] at h<;>simp only [Oper.upon]
   case value u=>
    obtain⟨e1,e2⟩:=h
    subst e1; subst e2
    exact hK _ _ (hR _ (hrefl _))
   case skip=>
    obtain⟨e1,e2⟩:=h
    subst e1; subst e2
    exact hK _ _ (hR _ (hrefl _))
   case enter f args=>
    obtain⟨e1,hc⟩:=h
    subst e1
    exact hc.mono fun e w'' ⟨he,hw''⟩=>by subst he; exact hK _ _ (hR _ hw'')
  | halt x w'=>simp only [Oper.quietUpon] at h
 ·exact .inr ⟨hg,hR _ (hrefl _)⟩
theorem QC.vals:∀ (l:List Oper)(k:Nat)(ρ:Env),(∀ j,l[j]? = if j < l.length then ops[k+j]? else none)→(∀ i j,i < j→j < k+l.length→∀ t,dstOf ops i=some t→dstOf ops j≠some t)→QC R P n ops C F l ρ →
  ∃ (vs:Nat→Value) (ρe:Env),F ρe∧(∀ t,(∀ j,k≤j→j < k+l.length→dstOf ops j≠some t)→ρe t=ρ t) ∧
   ∀ j o,k≤j→j < k+l.length→ops[j]? = some o→(∀ d,o.dst=some d→ρe d=vs j) ∧
    ∃ ρj:Env,(∀ t,(∀ i,j≤i→i < k+l.length→dstOf ops i≠some t)→ρj t=ρe t)∧∀ w,C w→OpQ P ops (R w) o ρj w (vs j)
 | [],k,ρ,_,_,h=>⟨fun _=>undef,ρ,h,fun _ _=>rfl,fun j o h1 h2=>by simp at h2; omega⟩
 | o :: l,k,ρ,hl,hd,h=>by
  obtain⟨v,h1,h2⟩:=h
  have hlen:k+1+l.length=k+(o :: l).length:=by simp; omega
  obtain⟨vs,ρe,hF,hout,hvs⟩:=QC.vals l (k+1) (E.put ρ o.dst v) (fun j=>by
   have:=hl (j+1)
   simp only [List.getElem?_cons_succ,List.length_cons] at this
   rw [this]
   by_cases hj:j < l.length
   ·rw [if_pos (by omega),if_pos hj]; congr 1; omega
   ·rw [if_neg (by omega),if_neg hj]) (fun i j hij hj=>hd i j hij (by omega)) h2
  have ho:ops[k]? = some o:=by have:=hl 0; simpa using this.symm
  refine⟨fun j=>if j=k then v else vs j,ρe,hF,fun t ht=>?_,fun j o' hj1 hj2 hoj=>?_⟩
  ·rw [hout t (fun j a b=>ht j (by omega) (by omega))]
   cases hdst:o.dst with
   | none=>rfl
   | some d=>exact q0E _ _ fun e=>ht k (Nat.le_refl _) (by simp) (by unfold dstOf; rw [ho]; simp [hdst,e])
  ·by_cases hjk:j=k
   ·subst hjk
    have:o'=o:=Option.some.inj (hoj.symm.trans ho)
    subst this
    simp only [if_pos]
    refine⟨fun d hdst=>?_,ρ,fun t ht=>?_,h1⟩
    ·rw [hout d (fun i a b=>hd j i (by omega) (by omega) d (by unfold dstOf; rw [ho]; exact hdst))]
     rw [hdst]; exact q2I _ _ _
    ·rw [hout t (fun i a b=>ht i (by omega) (by omega))]
     cases hdst:o'.dst with
     | none=>rfl
     | some d=>exact (q0E _ _ fun e=>ht j (Nat.le_refl _) (by simp) (by unfold dstOf; rw [ho]; simp [hdst,e])).symm
   ·obtain⟨h3,ρj,h4,h5⟩:=hvs j o' (by omega) (by omega) hoj
    simp only [if_neg hjk]
    exact⟨h3,ρj,fun t ht=>h4 t fun i a b=>ht i a (by omega),h5⟩
theorem CW.quietC {id:Nat}(h:Nat)(hrefl:∀ w,R w w)(htrans:∀ {a b c},R a b→R b c→R a c)(hdraw:∀ w,R w { w with drawn:=w.drawn+1 })(hm:P.follows .mixedOrders=true)(hB:(looseB ops h (ownD ops)&&looksB ops h)=true)
  (hq:QC R P n ops (R w) (fun ρ'=>∀ w',R w w'→WL P n ops Q (ops.toList.drop h) ρ' w') (ops.toList.take h) ρ):CW P n (.region id ops true) Q ρ w:=by
 simp only [Bool.and_eq_true] at hB
 obtain⟨hB1,hB2⟩:=hB
 have hle:h≤ops.size:=by
  have:=hB1
  simp only [looseB,Bool.and_eq_true] at this
  simpa using this.1.1.1
 have hlen:(ops.toList.take h).length=h:=by simp; omega
 have hdist:∀ i j,i < j→j < h→∀ t,dstOf ops i=some t→dstOf ops j≠some t:=fun i j hij hj t hi hjt=>by
  have hoj:ops[j]? = some (ops[j]'(by omega)):=Array.getElem?_eq_getElem _
  have:=(q3F hB1 hoj hi (by omega)).2
  unfold dstOf at hjt
  rw [hoj] at hjt
  exact this hjt
 obtain⟨vs,ρe,hF,hout,hvs⟩:=QC.vals (ops.toList.take h) 0 ρ (fun j=>by
  rw [hlen,List.getElem?_take,Nat.zero_add]
  split
  ·simp
  ·rfl) (by rw [hlen]; intro i j hij hj; exact hdist i j hij (by omega)) hq
 rw [hlen,Nat.zero_add] at hout hvs
 intro hok
 refine CW.looseC (R:=R) h (ownD ops) (fun i l _=>l=(if dstOf ops i=none then [] else [vs i])) hm hB1 htrans hdraw (fun _ _ _ _ h _=>h) ?_ ?_ hok
 ·-- each operation of the head
  have hok' : ops.toList.all (okOper n)=true:=by simpa [okCode] using hok
  have main:∀ (l:List Oper) (k:Nat),(∀ j,j < l.length→l[j]? = ops[k+j]?)→k+l.length≤h →
    stepsC R P n ops h (ownD ops) (fun i l _=>l=(if dstOf ops i=none then [] else [vs i])) ρ w k l:=by
   intro l
   induction l with
   | nil=>intro k _ _; trivial
   | cons o l ih=>
    intro k hl hk
    have ho:ops[k]? = some o:=by have:=hl 0 (by simp); simpa using this.symm
    simp only [List.length_cons] at hk
    refine⟨fun ρ' w' hw ho' hp=>?_,ih (k+1) (fun j hj=>by have:=hl (j+1) (by simp; omega); simp only [List.getElem?_cons_succ] at this; rw [this]; congr 1; omega) (by omega)⟩
    obtain⟨h3,ρj,h4,h5⟩:=hvs k o (Nat.zero_le _) (by omega) ho
    have hoko:okOper n o=true:=List.all_eq_true.1 hok' o (by rw [Array.mem_toList_iff]; exact Array.mem_of_getElem? ho)
    have hsame:∀ t∈o.looksAt ops,ρ' t=ρj t:=fun t ht=>by
     by_cases hin:∃ j,j < h∧dstOf ops j=some t
     ·obtain⟨j,hj,hdj⟩:=hin
      have hdir:j∈q0g o:=by
       have h6:=List.all_eq_true.1 hB2 k (List.mem_range.2 (by omega))
       simp only [ho] at h6
       have h7:=List.all_eq_true.1 (List.all_eq_true.1 h6 t ht) j (List.mem_range.2 hj)
       simp only [hdj,Bool.or_eq_true,Bool.not_eq_true'] at h7
       rcases h7 with h7 | h7
       ·have:Nat.beq t t=true:=Nat.beq_refl t
        rw [this] at h7; cases h7
       ·simpa using h7
      have hjk:=q2l hB1 ho j hdir
      have h8:=hp j (by simpa using hdir)
      have hne:dstOf ops j≠none:=by rw [hdj]; simp
      simp only [ownD,hdj,Option.toList_some,List.map_cons,List.map_nil,reduceCtorEq,if_false] at h8
      have h9:ρ' t=vs j:=by injection h8
      obtain⟨oj,hoj⟩:∃ oj,ops[j]? = some oj:=⟨ops[j]'(by omega),by rw [Array.getElem?_eq_getElem (by omega)]⟩
      have hdo:oj.dst=some t:=by unfold dstOf at hdj; rw [hoj] at hdj; exact hdj
      rw [h9,h4 t (fun i a b=>hdist j i (by omega) b t hdj)]
      exact ((hvs j oj (Nat.zero_le _) hj hoj).1 t hdo).symm
     ·have hno:∀ j,j < h→dstOf ops j≠some t:=fun j hj hd=>hin ⟨j,hj,hd⟩
      rw [ho' t hno,h4 t (fun i _ b=>hno i b),hout t (fun j _ b=>hno j b)]
    have hopq:=OpQ.congr hoko hsame (h5 w' hw)
    exact OpQ.opC hrefl hopq fun w'' hx=>⟨hx,by
     simp only [ownD,dstOf,ho,Option.bind_some]
     cases hd:o.dst with
     | none=>simp
     | some d=>simp [E.put,q2I]⟩
  exact main _ 0 (fun j hj=>by rw [hlen] at hj; rw [List.getElem?_take,if_pos hj,Nat.zero_add]; simp) (by rw [hlen]; omega)
 ·intro ρ' w' hw ho' hk
  have:ρ'=ρe:=by
   funext t
   by_cases hin:∃ j,j < h∧dstOf ops j=some t
   ·obtain⟨j,hj,hdj⟩:=hin
    have h8:=hk j hj
    simp only [ownD,hdj,Option.toList_some,List.map_cons,List.map_nil,reduceCtorEq,if_false] at h8
    have h9:ρ' t=vs j:=by injection h8
    obtain⟨oj,hoj⟩:∃ oj,ops[j]? = some oj:=⟨ops[j]'(by omega),by rw [Array.getElem?_eq_getElem (by omega)]⟩
    have hdo:oj.dst=some t:=by unfold dstOf at hdj; rw [hoj] at hdj; exact hdj
    rw [h9]
    exact ((hvs j oj (Nat.zero_le _) hj hoj).1 t hdo).symm
   ·have hno:∀ j,j < h→dstOf ops j≠some t:=fun j hj hd=>hin ⟨j,hj,hd⟩
    rw [ho' t hno,hout t (fun j _ b=>hno j b)]
  rw [this]
  exact hF w' hw
end loose
end
def Gr (w w' : World):Prop:=∃ q os,w'=Sort.grow (w.drewN q) os
theorem Gr.refl (w:World):Gr w w:=⟨0,#[],by simp [Sort.grow,World.drewN]⟩
theorem Gr.trans {a b c:World}(h:Gr a b)(k:Gr b c):Gr a c:=by
 obtain⟨q,os,rfl⟩:=h
 obtain⟨q2,os2,rfl⟩:=k
 exact⟨q+q2,os++os2,by simp [Sort.grow,World.drewN,Array.append_assoc,Nat.add_assoc]⟩
theorem Gr.draw (w:World):Gr w { w with drawn:=w.drawn+1 }:=⟨1,#[],by simp only [Sort.grow,World.drewN,Array.append_empty]⟩
theorem Gr.alloc (w:World)(o:Obj):Gr w (w.alloc o):=⟨0,#[o],Sort.alloc_eq_grow w o⟩
theorem Gr.ext {w w' : World}(h:Gr w w'):Ext w w':=by
 obtain⟨q,os,rfl⟩:=h
 refine⟨rfl,rfl,rfl,by simp [Sort.grow,World.drewN],fun k hk _=>?_⟩
 simp only [Sort.grow,World.drewN]
 rw [Array.getElem?_append_left hk]
section
variable {P:Program}{n d:Nat}{Q:Post}{ρ:Env}{w:World}{ops:Array Oper}{o:Oper}{rest:List Oper}{e:TypeId}{v:Value}{cs:List Value}
theorem WL.boxG {T:TypeId}{x:Operand}(hg:o.guard=none)(hd:o.dst=some d)(ho:o.op = .box T x)(hx:E.ev ρ x=v)(hc:v.cells=cs.toArray)
  (h:∀ b w',Gr w w'→w.heap.size≤b→Blk w' b T cs→WL P n ops Q rest (upd ρ d (.pointer (some ⟨b,0,none⟩))) w'):WL P n ops Q (o :: rest) ρ w:=
 WL.step hg fun a K ha hok hK=>by
  unfold Oper.wp
  rw [q1m ha hok]
  simp only [execOp,ho,hx,Instr.box,newVar,hc,Sem.run_bind,q5h,Result.andThen_ok,Sem.run_pure]
  exact hK _ _ (by rw [hd]; exact h _ _ (Gr.alloc _ _) (Nat.le_refl _) (q4o _ _ _))
theorem WL.litNG {T m:Nat}{z:Value}{parts:Array (Nat × Operand)}{vs:List Value}(hg:o.guard=none)(hd:o.dst=some d)(ho:o.op = .buildSlice T m parts)(hT:elemT P T=some e)(hk:szT P e=some 1)(hz:zeroT P e=some [z])
  (hp:parts.toList.map (fun p=>(p.1,E.ev ρ p.2))=idxL 0 vs) (h1:∀ v∈vs,v.cells=#[v]) (hn:vs.length=m) (hm:Nat.blt 0 m=true) (hm2:Nat.ble m 100000=true)
  (h:∀ g w',Gr w w'→Blk w' g e vs→WL P n ops Q rest (upd ρ d (.slice (some ⟨g,0,none⟩) m m)) w'):WL P n ops Q (o :: rest) ρ w:=
 WL.step hg fun a K ha hok hK=>by
  unfold Oper.wp
  rw [q1m ha hok]
  have hp' : parts.map (fun p=>(p.1,E.ev ρ p.2))=(idxL 0 vs).toArray:=by
   apply Array.ext'; simpa using hp
  have hr:=z6v (P:=P) (w:=w) hT hk hz h1 hn hm hm2
  simp only [execOp,ho,hp',Sem.run_bind,hr,Result.andThen_ok,Sem.run_pure]
  exact hK _ _ (by rw [hd]; exact h _ _ (Gr.alloc _ _) (q4o w e vs))
end
end Go.E
namespace Go.E
open Go
open Rep (rd)
open Sep (own)
section
variable {α:Type} [Sep α]{enc:α→List Value}{ok:α→Prop}
theorem z4A (he:∀ {L w x cs},own L w x cs→L=[]∧cs=enc x∧ok x){w:World}:∀ {xs:List α}{L:List Nat}{cs:List Value},ownL w L xs cs→L=[]∧cs=xs.flatMap enc∧∀ x∈xs,ok x
 | [],_,_,h=>⟨h.1,h.2,by simp⟩
 | x :: xs,_,_,⟨L1,L2,c,r,hL,hc,h1,h2⟩=>by
  obtain⟨a1,a2,a3⟩:=he h1
  obtain⟨b1,b2,b3⟩:=z4A he h2
  refine⟨by rw [hL,a1,b1]; rfl,by rw [hc,a2,b2]; simp,fun y hy=>?_⟩
  rcases List.mem_cons.1 hy with rfl | hy
  ·exact a3
  ·exact b3 y hy
theorem z4B (ho:∀ {w x},ok x→own [] w x (enc x)){w:World}:∀ {xs:List α},(∀ x∈xs,ok x)→ownL w [] xs (xs.flatMap enc)
 | [],_=>⟨rfl,rfl⟩
 | x :: xs,h=>⟨[],[],enc x,xs.flatMap enc,rfl,by simp,ho (h x (by simp)),z4B ho fun y hy=>h y (by simp [hy])⟩
end
section
variable {α:Type}{enc:α→List Value}{k:Nat}
theorem q7u (hk:∀ x,(enc x).length=k):∀ l:List α,(l.flatMap enc).length=l.length*k
 | []=>by simp
 | x :: l=>by simp [q7u hk l,hk,Nat.add_mul]; omega
theorem z1X (hk:∀ x,(enc x).length=k):∀ (l:List α)(t:Nat),t < l.length*k→(l.flatMap enc)[t]? = (l[t / k]?).bind fun x=>(enc x)[t % k]?
 | [],t,h=>by simp at h
 | x :: l,t,h=>by
  have k0:0 < k:=by
   rcases Nat.eq_zero_or_pos k with h0 | h0
   ·rw [h0] at h; simp at h
   ·exact h0
  simp only [List.flatMap_cons]
  by_cases ht:t < k
  ·rw [List.getElem?_append_left (by rw [hk]; exact ht),Nat.div_eq_of_lt ht,Nat.mod_eq_of_lt ht]; rfl
  ·have hm:(x :: l).length*k=l.length*k+k:=by rw [List.length_cons,Nat.add_mul]; omega
   rw [List.getElem?_append_right (by rw [hk]; omega),hk,z1X hk l (t - k) (by omega)]
   have h1:t / k=(t - k) / k+1:=by rw [Nat.div_eq_sub_div k0 (by omega)]
   have h2:t % k=(t - k) % k:=Nat.mod_eq_sub_mod (by omega)
   rw [h1,h2,List.getElem?_cons_succ]
theorem z3y [Inhabited α](hk:∀ x,(enc x).length=k)(l:List α):(Sort.flatK enc k l.toArray).toList=l.flatMap enc:=by
 apply List.ext_getElem?
 intro t
 by_cases ht:t < l.length*k
 ·rw [z1X hk l t ht]
  have k0:0 < k:=by
   rcases Nat.eq_zero_or_pos k with h0 | h0
   ·rw [h0] at ht; simp at ht
   ·exact h0
  have hq:t / k < l.length:=(Nat.div_lt_iff_lt_mul k0).2 ht
  have hm:t % k < k:=Nat.mod_lt _ k0
  have h1:l[t / k]? = some l[t / k]:=List.getElem?_eq_getElem hq
  have hm' : t % k < (enc l[t / k]).length:=by rw [hk]; exact hm
  have h2:(enc l[t / k])[t % k]? = some (enc l[t / k])[t % k]:=List.getElem?_eq_getElem hm'
  rw [h1,Option.bind_some,h2]
  simp [Sort.flatK,ht,hq,hk,hm]
 ·rw [List.getElem?_eq_none (by simp; omega),List.getElem?_eq_none (by rw [q7u hk]; omega)]
end
theorem z6T {w:World}{g:Nat}{e:TypeId}{cur:List Value}{F:Array Value}(h:Blk w g e cur)(hl:F.size≤cur.length):Blk (Sort.putRow id w g 0 F) g e (splice cur 0 F.toList):=by
 have hb:w.heap[g]? = some (.cells cur.toArray e (0,0)):=h
 show (Sort.putRow id w g 0 F).heap[g]? = some (.cells (splice cur 0 F.toList).toArray e (0,0))
 simp only [Sort.putRow,Sort.mapBlock,Array.getElem?_modify,if_true,hb,Option.map_some,Sort.onCells]
 congr 2
 apply Array.ext_getElem?
 intro t
 simp only [Sort.putCells,Array.getElem?_mapIdx]
 by_cases ht:t < F.size
 ·have h1:t < cur.length:=by omega
  simp [splice,h1,ht,List.getElem?_append]
 ·by_cases h1:t < cur.length
  ·simp [splice,h1,ht,List.getElem?_append,List.getElem?_drop,show F.size+(t - F.size)=t by omega]
  ·simp [splice,h1,ht,List.getElem?_append,List.getElem?_drop,show cur.length≤F.size+(t - F.size) by omega]
theorem z6U {w:World}{g:Nat}{F:Array Value}:Chg (· = g) w (Sort.putRow id w g 0 F):=
 ⟨rfl,rfl,rfl,by simp [Sort.putRow,Sort.mapBlock],fun q _ hq=>by simp only [Sort.putRow,Sort.mapBlock,Array.getElem?_modify]; rw [if_neg fun e=>hq e.symm]⟩
theorem z8I {M:Nat→Prop}{w w' : World}{os:Array Obj}(h:Chg M w w'):Chg M w (Sort.grow w' os):=h.trans (.of_ext (Gr.ext ⟨0,os,by simp [World.drewN]⟩))
theorem z4C (w:World)(n:Nat):Ext w (Sort.ahead w n):=⟨rfl,rfl,rfl,Nat.le_refl _,fun _ _ _=>rfl⟩
section
variable {α:Type} [Inhabited α] [Sep α]{enc:α→List Value}{ok:α→Prop}{F0:Nat→Prop}{M:List Nat}{w0 w:World}{fr:List Pr}{ow:List It}{i:Nat}{e:TypeId}
theorem HL.holdsK (he:∀ {L w x cs},own L w x cs→L=[]∧cs=enc x∧ok x)(hk:∀ x,(enc x).length=Rep.sz α){xs:List α}{g m c:Nat}(H:HL F0 M w0 w fr ow)(hi:ow[i]? = some (It.O e xs (.slice (some ⟨g,0,none⟩) m c)))(h0:xs≠[]) :
  Sort.HoldsK enc (Rep.sz α) w g 0 xs.toArray∧g < w.heap.size∧xs.length=m∧m≤maxLen∧(∀ x∈xs,ok x) ∧
   ∀ {w' : World} {ys:List α} {n:Nat} {os:Array Obj},ys.length=xs.length→(∀ y∈ys,ok y)→(∀ {w x},ok x→own [] w x (enc x))→w'=Sort.grow (Sort.putRowK enc (Rep.sz α) (Sort.ahead w n) g 0 ys.toArray) os→HL F0 M w0 w' fr (ow.set i (It.O e ys (.slice (some ⟨g,0,none⟩) m c))):=by
 obtain⟨F,L,C,⟨cs,hr,h3⟩,hN,hF,hupd⟩:=H.upd hi
 obtain⟨A2,c2,he2,hmc,hcm⟩:=hr.form
 injection he2 with e1 e2 e3
 subst e3; subst e2
 obtain⟨rfl,hcs,hok⟩:=z4A he h3
 have hlt:0 < xs.length:=List.length_pos_iff.2 h0
 obtain⟨h1,h2⟩:=hr.own hlt
 rcases h1.2 with ⟨hv,h00⟩ | ⟨g',cap,cur,hv,_,hgb,hn,hcm',hs,ht⟩
 ·omega
 ·injection hv with e1 e2 e3
  injection e1 with e1; injection e1 with e1
  subst e1; subst e3
  have hB:Blk w g e cur.toList:=by simpa [Blk] using hgb
  have hflat:(Sort.flatK enc (Rep.sz α) xs.toArray).toList=cs:=by rw [z3y hk,hcs]
  have hsz:(Sort.flatK enc (Rep.sz α) xs.toArray).size=xs.length*Rep.sz α:=by simp
  have hfit:xs.length*Rep.sz α≤cur.size:=by rw [hs]; exact Nat.mul_le_mul_right _ hn
  refine⟨fun j hj=>?_,hB.lt,rfl,by omega,hok,fun {w' ys n os} hl hoy hown hw'=>?_⟩
  ·have hjc:cs[j]? = some (Sort.flatK enc (Rep.sz α) xs.toArray)[j]!:=by
    rw [← hflat,Array.getElem?_toList,Array.getElem?_eq_getElem hj,getElem!_pos _ j hj]
   have hcj:cur[0+j]? = some (Sort.flatK enc (Rep.sz α) xs.toArray)[j]!:=by
    rw [Nat.zero_add]
    rw [← ht,List.getElem?_take] at hjc
    split at hjc
    ·simpa using hjc
    ·cases hjc
   refine⟨?_,?_⟩
   ·rw [cell_of_row w g (0+j) cur e (0,0) hgb]; exact hcj
   ·unfold World.frozen?; rw [hgb]; simp
  ·have hsy:(Sort.flatK enc (Rep.sz α) ys.toArray).size=xs.length*Rep.sz α:=by simp [hl]
   have hB1:Blk (Sort.ahead w n) g e cur.toList:=hB.ext (z4C w n)
   have hB2:=z6T (F:=Sort.flatK enc (Rep.sz α) ys.toArray) hB1 (by rw [hsy]; simpa using hfit)
   have hc1:Chg (· = g) w (Sort.putRow id (Sort.ahead w n) g 0 (Sort.flatK enc (Rep.sz α) ys.toArray)):=Chg.trans (.of_ext (z4C w n)) z6U
   have hc2:Chg (· = g) w w':=by rw [hw']; exact z8I hc1
   have hB3:Blk w' g e (splice cur.toList 0 (Sort.flatK enc (Rep.sz α) ys.toArray).toList):=by
    rw [hw']; exact hB2.ext (Gr.ext ⟨0,os,rfl⟩)
   rw [z3y hk] at hB3
   have hcl:cs.length=xs.length*Rep.sz α:=h1.1
   have hyl:(ys.flatMap enc).length=xs.length*Rep.sz α:=by rw [q7u hk,hl]
   refine hupd (L':=L) (C':=[]) (hc2.mono fun q _ e=>by rw [h2]; simp [Value.ownBlock,e]) (fun F' _=>⟨ys.flatMap enc,.inl ⟨?_,h2⟩,z4B hown hoy⟩) (by simpa using (List.nodup_append.1 hN).1) (fun q hq=>.inl hq) (fun q hq=>by simp at hq)
   have:=h1.st (w':=w') rfl hB (off:=0) (l:=ys.flatMap enc) (by rw [hyl]; omega) hB3
   rw [hl]
   have hsp:splice cs 0 (ys.flatMap enc)=ys.flatMap enc:=by
    unfold splice; rw [List.drop_eq_nil_of_le (by rw [hyl,hcl]; omega)]; simp
   rw [hsp] at this
   exact this
end
end Go.E
namespace Go.E
open Go
open Rep (rd)
open Sep (own)
def ThB (b:Nat)(T:TypeId)(css:List (List Value))(m:Nat)(w:World):Prop:=∃ cs,css[m]? = some cs∧Blk w b T cs
section
variable {F0:Nat→Prop}{M:List Nat}{w0 w w' : World}{fr ps:List Pr}{ow l:List It}{i j b m:Nat}{T:TypeId}{cs cs' : List Value}{S:Nat→Prop}{css:List (List Value)}
theorem ThB.mono (hb:b < w.heap.size):∀ m a c (T' : Nat→Prop),ThB b T css m a→Chg T' a c→(∀ q,T' q→w.heap.size≤q)→ThB b T css m c:=
 fun _ _ _ _ ⟨cs,h1,h2⟩ hc hT=>⟨cs,h1,(hc.block b h2.lt fun ht=>absurd (hT b ht) (by omega)).trans h2⟩
theorem ThB.get (h:css[m]? = some cs)(hT:ThB b T css m w):Blk w b T cs:=by
 obtain⟨c,h1,h2⟩:=hT
 obtain rfl:cs=c:=Option.some.inj (h.symm.trans h1)
 exact h2
theorem NewI.nil:NewI (fun _=>False) w []:=⟨[],trivial,List.nodup_nil,fun _ h=>by simp [blks] at h⟩
end
section
variable {P:Program}{n d:Nat}{Q:Post}{ρ:Env}{w:World}{ops:Array Oper}{o:Oper}{l:List Oper}{h i m:Nat}{ks:List K2}{Mw:Nat→Prop}{Θ:Nat→World→Prop}{C:List Nat}{os:List (Option Nat)}{K:Nat→World→Prop}{G:Nat→Nat→Prop}{X:World→Prop}
end
end Go.E
namespace Go.E
open Go
open Rep (rd)
open Sep (own)
section
variable {F0:Nat→Prop}{M:List Nat}{w0 w w' : World}{fr:List Pr}{ow:List It}
theorem HL.updP {i:Nat}{o:It}(H:HL F0 M w0 w fr ow)(hi:ow[i]? = some o) :
  ∃ F L C,AllP F w fr∧(∀ q∈L,¬ F q)∧o.p L C F w∧(L++C).Nodup∧(∀ q∈C,F q) ∧
   ∀ {w' : World} {o' : It} {L' C' : List Nat},Chg (·∈L) w w'→(∀ F',(∀ b,F b→F' b)→o'.p L' C' F' w')→(L'++C').Nodup→(∀ q∈L',q∈L∨w.heap.size≤q)→(∀ q∈C',q∈C∨q∈L∨w.heap.size≤q) →
    HL F0 M w0 w' fr (ow.set i o'):=by
 obtain⟨Fr,LC,h1,h2,h3,h4,h5,h6⟩:=H
 have hlt:=h3.lt
 obtain⟨a,b,A,L,C,B,rfl,rfl,rfl,g1,g2,g3⟩:=h3.split hi
 have hnf:∀ q∈L,¬ fz F0 w0 M (Fr++claims (A++(L,C) :: B)) q:=fun q hq=>fz_not h4 h6 rfl hq
 have hb:blks (A++(L,C) :: B)=blks A++((L++C)++blks B):=by rw [q2K]; rfl
 have hcl:claims (A++(L,C) :: B)=claims A++(C++claims B):=by rw [q2U]; rfl
 rw [hb] at h4 h6 hlt
 have h4':=h4
 simp only [List.nodup_append,List.mem_append] at h4'
 obtain⟨n1,⟨n2,⟨⟨n3,n4,n5⟩,n6,n7⟩,n8⟩,n9⟩:=h4'
 refine⟨_,L,C,h2,hnf,g2,by rw [List.nodup_append]; exact⟨n3,n4,n5⟩,fun q hq=>.inr (by rw [hcl]; simp [hq]),fun {w' o' L' C'} hc ho hN hL hC=>?_⟩
 have hF:∀ q,fz F0 w0 M (Fr++claims (A++(L,C) :: B)) q→q < w.heap.size→w'.heap[q]? = w.heap[q]?:=fun q hq hl=>hc.block q hl fun hm=>hnf q hm hq
 have hsub:∀ q,fz F0 w0 M (Fr++claims (A++(L,C) :: B)) q→fz F0 w0 M ((Fr++C.filter (fun q=>!C'.contains q))++claims (A++(L',C') :: B)) q:=by
  refine fz_sub fun q hq=>?_
  rw [hcl] at hq
  rw [q2U]
  simp only [claims,List.mem_append,List.mem_filter] at hq ⊢
  rcases hq with h | h | h | h
  ·simp [h]
  ·simp [h]
  ·by_cases hc' : q∈C'
   ·simp [hc']
   ·left; right; exact⟨h,by simp [hc']⟩
  ·simp [h]
 have hA:∀ q∈blks A,w'.heap[q]? = w.heap[q]?:=fun q hq=>hc.block q (hlt q (by simp [hq])) fun hm=>n8 q hq q (.inl (.inl hm)) rfl
 have hB:∀ q∈blks B,w'.heap[q]? = w.heap[q]?:=fun q hq=>hc.block q (hlt q (by simp [hq])) fun hm=>n7 q (.inl hm) q hq rfl
 refine⟨Fr++C.filter (fun q=>!C'.contains q),A++(L',C') :: B,?_,?_,?_,?_,?_,?_⟩
 ·refine⟨hc.os.trans h1.os,hc.tape.trans h1.tape,hc.output.trans h1.output,Nat.le_trans h1.size hc.size,fun k hk hm=>?_⟩
  refine (hc.block k (Nat.lt_of_lt_of_le hk h1.size) fun hl=>?_).trans (h1.block k hk hm)
  rcases h6 k (by simp [hl]) with h | h
  ·exact hm h
  ·omega
 ·exact (h2.frame hF).mono hsub
 ·rw [List.set_append_right _ _ (Nat.le_refl _),Nat.sub_self,List.set_cons_zero]
  exact AllI.app (AllI.trans hsub hF g1 hA) ⟨ho _ hsub,AllI.trans hsub hF g3 hB⟩
 ·rw [q2K]
  simp only [blks,List.nodup_append,List.mem_append,List.mem_filter]
  rw [List.nodup_append] at hN
  have out:∀ q,q∈L'∨q∈C'→q∈L∨q∈C∨w.heap.size≤q:=fun q hq=>by
   rcases hq with hq | hq
   ·rcases hL q hq with h | h
    ·exact .inl h
    ·exact .inr (.inr h)
   ·rcases hC q hq with h | h | h
    ·exact .inr (.inl h)
    ·exact .inl h
    ·exact .inr (.inr h)
  refine⟨⟨n1,n4.filter _,fun x hx y hy=>n9 x hx y (.inr (.inl (.inr hy.1)))⟩,⟨n2,⟨hN,n6,fun x hx y hy e=>?_⟩,fun x hx y hy e=>?_⟩,fun x hx y hy e=>?_⟩
  ·subst e
   rcases out x hx with h | h | h
   ·exact n7 x (.inl h) x hy rfl
   ·exact n7 x (.inr h) x hy rfl
   ·have:=hlt x (by simp [hy]); omega
  ·subst e
   rcases hy with hy | hy
   ·rcases out x hy with h | h | h
    ·exact n8 x hx x (.inl (.inl h)) rfl
    ·exact n8 x hx x (.inl (.inr h)) rfl
    ·have:=hlt x (by simp [hx]); omega
   ·exact n8 x hx x (.inr hy) rfl
  ·subst e
   rcases hx with hx | hx
   ·rcases hy with hy | hy | hy
    ·exact n9 x hx x (.inl hy) rfl
    ·rcases out x hy with h | h | h
     ·exact n9 x hx x (.inr (.inl (.inl h))) rfl
     ·exact n9 x hx x (.inr (.inl (.inr h))) rfl
     ·have:=h5 x hx; omega
    ·exact n9 x hx x (.inr (.inr hy)) rfl
   ·obtain⟨hx,hx'⟩:=hx
    rcases hy with hy | hy | hy
    ·exact n8 x hy x (.inl (.inr hx)) rfl
    ·rcases hy with hy | hy
     ·rcases hL x hy with h | h
      ·exact n5 x h x hx rfl
      ·have:=hlt x (by simp [hx]); omega
     ·simp [hy] at hx'
    ·exact n7 x (.inr hx) x hy rfl
 ·intro q hq
  rcases List.mem_append.1 hq with hq | hq
  ·exact Nat.lt_of_lt_of_le (h5 q hq) hc.size
  ·exact Nat.lt_of_lt_of_le (hlt q (by simp [(List.mem_filter.1 hq).1])) hc.size
 ·intro q hq
  rw [q2K] at hq
  simp only [blks,List.mem_append,List.mem_filter] at hq
  have:=h1.size
  rcases hq with (hq | hq) | hq | (hq | hq) | hq
  ·exact h6 q (by simp [hq])
  ·exact h6 q (by simp [hq.1])
  ·exact h6 q (by simp [hq])
  ·rcases hL q hq with h | h
   ·exact h6 q (by simp [h])
   ·exact .inr (by omega)
  ·rcases hC q hq with h | h | h
   ·exact h6 q (by simp [h])
   ·exact h6 q (by simp [h])
   ·exact .inr (by omega)
  ·exact h6 q (by simp [hq])
end
section
variable {F0:Nat→Prop}{M:List Nat}{w0 w w' : World}{fr:List Pr}{ow:List It}{i j:Nat}{e:TypeId}{v:Value}{cs:List Value}
variable {P:Program}{n d:Nat}{Q:Post}{ρ:Env}{ops:Array Oper}{o:Oper}{rest:List Oper}
theorem WL.appG {α:Type} [Rep α]{T b:Nat}{z:List Value}{s x:Operand}{xs ys:List α}{A:Option Addr}{c2:Nat}{news:List Value}(hg:o.guard=none)(hd:o.dst=some d)
  (ho:o.op = .call { callee:=.builtin .append,args:=#[s,x],argTypes:=#[T,T] }) (hT:elemT P T=some e) (hk:szT P e=some (Rep.sz α)) (hb:byT P e=some b) (hz:zeroT P e=some z) (hzk:z.length=Rep.sz α)
  (hs:E.ev ρ s=v) (hx:E.ev ρ x = .slice A ys.length c2) (H:HL F0 M w0 w fr ow) (hi:ow[i]? = some (It.G e xs v)) (hy:∀ F,AllP F w fr→rdL F w ys news) (hat:ys.length=0∨∃ b o,A=some ⟨b,o,none⟩∧At w b o news)
  (hmax:((xs.length:Int)+(ys.length:Int))*b≤140737488355328∧(xs.length:Int)+ys.length≤9223372036854775807)
  (h:∀ A m c w',HL F0 M w0 w' fr (ow.set i (It.G e (xs++ys) (.slice A m c)))→WL P n ops Q rest (upd ρ d (.slice A m c)) w'):WL P n ops Q (o :: rest) ρ w:=by
 have h:∀ v' w',(∃ A m c,v' = .slice A m c)→HL F0 M w0 w' fr (ow.set i (It.G e (xs++ys) v'))→WL P n ops Q rest (upd ρ d v') w':=by
  rintro v' w' ⟨A,m,c,rfl⟩ H
  exact h A m c w' H
 obtain⟨F,L,C,hP,hnF,⟨cs,h0,rfl,h3⟩,hN,hF,hupd⟩:=H.updP hi
 have hy0:=hy F hP
 have hm1:(xs.length+ys.length)*b≤140737488355328:=by
  have:(((xs.length+ys.length)*b:Nat):Int)≤140737488355328:=by rw [Int.natCast_mul,Int.natCast_add]; exact hmax.1
  omega
 have hm2:xs.length+ys.length≤maxLen:=by show _≤9223372036854775807; omega
 have hNC:=(List.nodup_append.1 hN).2.1
 rcases h0 with ⟨h1,h2⟩ | ⟨⟨A0,rfl⟩,hx0,rfl,rfl⟩
 ·refine WL.app hg hd ho hT hk hb hz hzk (by simpa using Rep.pos (α:=α)) hs hx h1 hy0.len hat (rdL.one hy0) hm1 hm2 (Nat.zero_le _) fun v' w' hc ho' hnew=>h v' w' (by obtain⟨A,c,e⟩:=ho'.form; exact⟨A,_,c,e⟩) ?_
  have f:∀ b,F b→b < w.heap.size→w'.heap[b]? = w.heap[b]?:=fun b hb hl=>hc.block b hl fun e=>hnF b (by rw [h2]; simpa [blkOf] using e) hb
  refine hupd (L':=v'.ownBlock.toList) (C':=[]) (hc.mono fun q _ e=>by rw [h2]; simpa [blkOf] using e) (fun F' hm=>⟨cs++news,.inl ⟨by rw [List.length_append]; exact ho',rfl⟩,rfl,((h3.frame f).append (hy0.frame f)).mono hm⟩) (by cases v'.ownBlock<;>simp) (fun q hq=>?_) (by simp)
  rcases hnew q (by simpa [blkOf] using hq) with h | h
  ·left; rw [h2]; simpa [blkOf] using h
  ·exact .inr h
 ·-- a slice without room
  obtain rfl:=List.eq_nil_of_length_eq_zero hx0
  obtain⟨v',w',hrun,hE,hv⟩:=z6s (P:=P) (ty:=o.type) (A0:=A0) (c2:=c2) hT hk hb hz hzk hy0.len hat (by simpa using hm1) (by simpa using hm2)
  refine WL.step hg fun a K ha hok hK=>?_
  unfold Oper.wp
  rw [q1m ha hok]
  simp only [execOp,ho,resolve,invoke,builtin,Sem.run_bind,Sem.run_pure,Result.andThen_ok,List.map_toArray,List.map_cons,List.map_nil,hs,hx,hrun]
  refine hK _ _ (by
   rw [hd]
   refine h v' w' ?_ ?_
   ·obtain⟨L',hv,_⟩:=hv
    obtain⟨A,c,e,_⟩:=hv.form
    exact⟨A,_,c,e⟩
   ·obtain⟨L',hv,hn⟩:=hv
    exact hupd (L':=L') (C':=[]) (hE.mono fun q _ e=>e.elim) (fun F' hm=>⟨news,by simpa using hv,rfl,by simpa using (hy0.frame fun b _ hl=>hE.block b hl id).mono hm⟩) (by simpa using hv.nodup) (fun q hq=>.inr (hn q hq)) (by simp))
end
end Go.E
namespace Go.E
open Go
open Rep (rd)
open Sep (own)
section
variable {P:Program}{n d:Nat}{Q:Post}{ρ:Env}{w w0:World}{ops:Array Oper}{o:Oper}{e:TypeId}{F0:Nat→Prop}{M:List Nat}{fr:List Pr}{ow:List It}
theorem Opens.byte {T:TypeId}(hc:P.cellsOf T=1)(ht:P.underlying T=some (.int .u8)):Opens P T UInt8:=by
 refine⟨hc,fun H enc w base spare held fuel cs x h=>?_⟩
 obtain⟨n,rfl,_,hw⟩:=DataW.trod_int ht h
 have hb:=bounds_u8 hw
 refine⟨UInt8.ofNat n.toNat,?_⟩
 show [Value.int .u8 n]=[.int .u8 ((UInt8.ofNat n.toNat).toNat:Int)]
 have:((UInt8.ofNat n.toNat).toNat:Int)=n:=by
  rw [UInt8.toNat_ofNat']; omega
 rw [this]
end
section
variable {P:Program}{n d:Nat}{Q:Post}{ρ:Env}{w:World}{ops:Array Oper}{o:Oper}{l:List Oper}{h i m:Nat}{ks:List K2}{Mw:Nat→Prop}{Θ:Nat→World→Prop}{C:List Nat}{os:List (Option Nat)}{K:Nat→World→Prop}{G:Nat→Nat→Prop}
theorem OpX.on {R:Value→World→Prop}(hg:gate ops ρ o=true)(h:OpX P ops { o with guard:=none } ρ w R):OpX P ops o ρ w R:=by
 rcases h with h | h
 ·exact .inl ⟨hg,h.2⟩
 ·exact absurd h.1 (by simp [gate])
theorem LL2.on (hg:gate ops ρ o=true)(h' : LL2 P n Q ops h ks Mw Θ C os w i ({ o with guard:=none } :: l) ρ K G m):LL2 P n Q ops h ks Mw Θ C os w i (o :: l) ρ K G m:=by
 rcases h' with ⟨u,d,h1,h2,h3,h4,h5,h6⟩ | ⟨φ,d,h1,h2,h3,h4,h5,h6⟩ | ⟨t,g,d,h1,h2,h3,h4,h5,h6⟩ | ⟨u,d,h1,h2,h3,h4,h5,h6⟩ | ⟨φ,d,h1,h2,h3,h4,h5,h6⟩ | ⟨t,s,ψ,φ,h1,h2,h3,h4,h5,h6,h7,h8⟩ | ⟨t,s,ψ,h1,h2,h3,h4,h5,h6,h7⟩
 ·exact .inl ⟨u,d,h1,h2,h3,h4,fun w' a b c=>OpX.on hg (h5 w' a b c),h6⟩
 ·exact .inr (.inl ⟨φ,d,h1,h2,h3,h4,fun w' a b c=>OpX.on hg (h5 w' a b c),h6⟩)
 ·exact .inr (.inr (.inl ⟨t,g,d,h1,h2,h3,h4,fun w' a b c=>OpX.on hg (h5 w' a b c),h6⟩))
 ·exact .inr (.inr (.inr (.inl ⟨u,d,h1,h2,h3,h4,fun w' a b c=>OpX.on hg (h5 w' a b c),h6⟩)))
 ·exact .inr (.inr (.inr (.inr (.inl ⟨φ,d,h1,h2,h3,h4,fun w' a b c=>OpX.on hg (h5 w' a b c),h6⟩))))
 ·exact .inr (.inr (.inr (.inr (.inr (.inl ⟨t,s,ψ,φ,h1,h2,h3,h4,h5,h6,fun w' a b c=>OpX.on hg (h7 w' a b c),h8⟩)))))
 ·exact .inr (.inr (.inr (.inr (.inr (.inr ⟨t,s,ψ,h1,h2,h3,h4,h5,fun w' a b c=>OpX.on hg (h6 w' a b c),h7⟩)))))
theorem LL2.off (hg:gate ops ρ o=false)(hk:ks[i]? = some (.fix undef))(hc:C.contains i=false)(hoo:ownOf os i=i)(hd:o.dst=some d)(hr:LL2 P n Q ops h ks Mw Θ C os w (i+1) l (upd ρ d undef) K G m):LL2 P n Q ops h ks Mw Θ C os w i (o :: l) ρ K G m:=
 .inl ⟨undef,d,hk,hd,hc,hoo,fun _ _ _ _=>.inr ⟨hg,Ext.refl _,rfl⟩,hr⟩
end
end Go.E
namespace Go.E
open Go
open Rep (rd)
open Sep (own)
def Th2 (b:Nat)(T:TypeId)(css:List (List Value))(b2:Nat)(T2:TypeId)(css2:List (List Value))(m:Nat)(w:World):Prop:=ThB b T css m w∧ThB b2 T2 css2 m w
section
variable {F0:Nat→Prop}{M:List Nat}{w0 w w' w'' : World}{fr ps:List Pr}{ow l:List It}{i j b b2 m:Nat}{T T2:TypeId}{cs cs' c2 c2' : List Value}{S:Nat→Prop}{css css2:List (List Value)}
theorem Th2.mono (hb:b < w.heap.size)(hb2:b2 < w.heap.size):∀ m a c (T' : Nat→Prop),Th2 b T css b2 T2 css2 m a→Chg T' a c→(∀ q,T' q→w.heap.size≤q)→Th2 b T css b2 T2 css2 m c:=
 fun m a c T' h hc hT=>⟨ThB.mono hb m a c T' h.1 hc hT,ThB.mono hb2 m a c T' h.2 hc hT⟩
end
section
variable {P:Program}{n d:Nat}{Q:Post}{ρ:Env}{w:World}{ops:Array Oper}{o:Oper}{l:List Oper}{h i m:Nat}{ks:List K2}{Mw:Nat→Prop}{Θ:Nat→World→Prop}{C:List Nat}{os:List (Option Nat)}{K:Nat→World→Prop}{G:Nat→Nat→Prop}{X:World→Prop}
end
section
variable {P:Program}{ρ:Env}{w:World}
end
end Go.E
namespace Go.E
open Go
open Rep (rd)
open Sep (own)
section
variable {P:Program}{n d:Nat}{Q:Post}{ρ:Env}{w:World}{ops:Array Oper}{o:Oper}{l:List Oper}{h i m:Nat}{ks:List K2}{Mw:Nat→Prop}{Θ:Nat→World→Prop}{C:List Nat}{os:List (Option Nat)}{K:Nat→World→Prop}{G:Nat→Nat→Prop}{X:World→Prop}{e:TypeId}{v:Value}{S:Nat→Prop}
end
end Go.E
namespace Go.E
open Go
section
variable {P:Program}{ρ:Env}{o:Oper}{w:World}{T:TypeId}{x:Operand}{i ft off k:Nat}{cs:List Value}{u:Value}
end
end Go.E
namespace Go.E
open Go
open Rep (rd)
open Sep (own)
section
variable {F0:Nat→Prop}{M:List Nat}{w0 w w' : World}{fr:List Pr}{ow:List It}{i j:Nat}{e:TypeId}{v:Value}{cs:List Value}
variable {P:Program}{n d:Nat}{Q:Post}{ρ:Env}{ops:Array Oper}{o:Oper}{rest:List Oper}
end
end Go.E
namespace Go.E
open Go
section
variable {P:Program}{n:Nat}{K:Env→World→Prop}{Q:Post}{ρ:Env}{w:World}{ops:Array Oper}{o:Oper}{S:World→Prop}{listed:Array Bool}{k i:Nat}{v:Value}
abbrev onlyN (K:Env→World→Prop):Post:=fun e ρ w=>e = .normal∧K ρ w
def HW (P:Program)(n:Nat)(ops:Array Oper)(K:Env→World→Prop)(S:World→Prop)(k:Nat)(listed:Array Bool)(ρ:Env)(w:World):Prop:=
 ops.toList.all (okOper n)=true→∀ a,Rel n ρ a→wpAnyH P .any ops (lift n (onlyN K)) S k listed a w
theorem CW.held {id:Nat}(S:World→Prop)(hm:P.follows .mixedOrders=true)(h:∀ w',Ext w w'→HW P n ops (fun ρ w=>Q .normal ρ w) S ops.size (Array.replicate ops.size false) ρ w'):CW P n (.region id ops true) Q ρ w:=by
 intro hok a ha
 have hok' : ops.toList.all (okOper n)=true:=by simpa [okCode] using hok
 refine Code.wp_mono (Q:=lift n (onlyN fun ρ w=>Q .normal ρ w)) (fun e a w ⟨ρ,hr,he,hq⟩=>⟨ρ,hr,by subst he; exact hq⟩) ?_
 exact wp_region_held hm (h { w with drawn:=w.drawn+1 } ⟨rfl,rfl,rfl,Nat.le_refl _,fun _ _ _=>rfl⟩ hok' a ha)
theorem z4D (hok:ops.toList.all (okOper n)=true):q3u n ops=true:=by
 refine List.all_eq_true.2 fun o' ho'=>?_
 have:=List.all_eq_true.1 hok o' ho'
 simp only [okOper,Bool.and_eq_true] at this
 exact this.1.1
theorem HW.take0 (hi:ops[i]? = some o)(hs:Region.noSelect ops=true)(hf:Region.free .any ops listed i=true)(hr:(Region.ready .any ops listed).contains i=true)(hS:S w)
  (hy:(gate ops ρ o=true∧∀ w',S w'→Ev P ρ o w' v)∨(gate ops ρ o=false∧v=undef)) (h:HW P n ops K S k (listed.setIfInBounds i true) (E.put ρ o.dst v) w):HW P n ops K S (k+1) listed ρ w:=fun hok a ha=>by
 have hoko:okOper n o=true:=List.all_eq_true.1 hok o (by rw [Array.mem_toList_iff]; exact Array.mem_of_getElem? hi)
 refine wpAnyH_take (v:=v) hi hs hf hr (fun c a w ⟨ρ,_,he,_⟩=>by cases he) ?_ hS (h hok _ (ha.put _ _))
 rcases hy with ⟨h1,h2⟩ | ⟨h1,h2⟩
 ·refine .inl ⟨by rw [q4m (z4D hok) ha]; exact h1,fun w' hw'=>?_⟩
  rw [q1m ha hoko]; exact h2 w' hw'
 ·exact .inr ⟨by rw [q4m (z4D hok) ha]; exact h1,h2⟩
theorem HW.take {d:Nat}(i:Nat)(hS:S w)(hi:ops[i]? = some o)(hs:(Region.noSelect ops&&Region.free .any ops listed i&&(Region.ready .any ops listed).contains i)=true)(hg:o.guard=none)(hd:o.dst=some d)(he:∀ w',S w'→Ev P ρ o w' v)(h:HW P n ops K S k (listed.setIfInBounds i true) (upd ρ d v) w):HW P n ops K S (k+1) listed ρ w:=by
 simp only [Bool.and_eq_true] at hs
 exact HW.take0 hi hs.1.1 hs.1.2 hs.2 hS (.inl ⟨by simp [gate,hg],he⟩) (by rw [hd]; exact h)
theorem HW.off {d:Nat}(i:Nat)(hS:S w)(hi:ops[i]? = some o)(hs:(Region.noSelect ops&&Region.free .any ops listed i&&(Region.ready .any ops listed).contains i)=true)(hg:gate ops ρ o=false)(hd:o.dst=some d)(h:HW P n ops K S k (listed.setIfInBounds i true) (upd ρ d undef) w):HW P n ops K S (k+1) listed ρ w:=by
 simp only [Bool.and_eq_true] at hs
 exact HW.take0 hi hs.1.1 hs.1.2 hs.2 hS (.inr ⟨hg,rfl⟩) (by rw [hd]; exact h)
theorem HW.eff (i:Nat)(hi:ops[i]? = some o)(hr:Region.ready .any ops listed=[i])(h:WL P n ops (onlyN fun ρ' w'=>S w'∧HW P n ops K S k (listed.setIfInBounds i true) ρ' w') [o] ρ w):HW P n ops K S (k+1) listed ρ w:=fun hok a ha=>by
 have hoko:okOper n o=true:=List.all_eq_true.1 hok o (by rw [Array.mem_toList_iff]; exact Array.mem_of_getElem? hi)
 refine wpAnyH_all hr (by simp) fun j hj=>?_
 obtain rfl:j=i:=by simpa using hj
 have h1:=h (by simp [hoko]) a ha
 unfold wpList at h1
 unfold wpOp
 simp only [hi]
 by_cases hw:Region.wanted o (yielded ops a.tmps)=true
 ·rw [if_pos hw] at h1 ⊢
  rcases h1 with h1 | h1
  ·refine .inl (q7T (fun a' w' h2=>?_) (fun e a' w' he ⟨ρ',_,h3,_⟩=>absurd h3 he) h1)
   unfold wpList at h2
   obtain⟨ρ',hr',_,hS',hH⟩:=h2
   exact⟨hS',hH hok a' hr'⟩
  ·obtain⟨_,a',w',ρ',_,he,_⟩:=h1
   cases he
 ·rw [if_neg hw] at h1 ⊢
  unfold wpList at h1
  obtain⟨ρ',hr',_,hS',hH⟩:=h1
  exact⟨hS',hH hok _ hr'⟩
theorem HW.done (hr:Region.ready .any ops listed=[])(h:K ρ w):HW P n ops K S k listed ρ w:=fun _ a ha=>wpAnyH_done hr ⟨ρ,ha,rfl,h⟩ k
theorem HW.next (hS:S w)(h:HW P n ops K S k listed ρ w):WL P n ops (onlyN fun ρ' w'=>S w'∧HW P n ops K S k listed ρ' w') [] ρ w:=WL.nil ⟨rfl,hS,h⟩
end
end Go.E
namespace Go.E
open Go
open Rep (rd)
open Sep (own)
structure Sp where
 p:List Nat→World→Prop
 frame:∀ {L:List Nat} {w w' : World},p L w→(∀ b∈L,w'.heap[b]? = w.heap[b]?)→p L w'
 lt:∀ {L:List Nat} {w:World},p L w→∀ b∈L,b < w.heap.size
def Sp.S {α:Type} [Sep α](ys:List α)(u:Value):Sp:=⟨fun L w=>ownS L w ys u,fun h hf=>h.frame hf,fun h=>h.lt⟩
def AllSp (w:World):List Nat→List Sp→Prop
 | L,[]=>L=[]
 | L,s :: l=>∃ L1 L2,L=L1++L2∧s.p L1 w∧AllSp w L2 l
theorem AllSp.frame {w w' : World}:∀ {l:List Sp}{L:List Nat},AllSp w L l→(∀ b∈L,w'.heap[b]? = w.heap[b]?)→AllSp w' L l
 | [],_,h,_=>h
 | s :: l,_,⟨L1,L2,e,h1,h2⟩,hf=>by
  subst e
  exact⟨L1,L2,rfl,s.frame h1 fun b hb=>hf b (List.mem_append.2 (.inl hb)),AllSp.frame h2 fun b hb=>hf b (List.mem_append.2 (.inr hb))⟩
theorem AllSp.lt {w:World}:∀ {l:List Sp}{L:List Nat},AllSp w L l→∀ b∈L,b < w.heap.size
 | [],_,h,b,hb=>by rw [show _=_ from h] at hb; simp at hb
 | s :: l,_,⟨L1,L2,e,h1,h2⟩,b,hb=>by
  subst e
  rcases List.mem_append.1 hb with hb | hb
  ·exact s.lt h1 b hb
  ·exact AllSp.lt h2 b hb
theorem AllSp.snoc {w:World}{s:Sp}{M:List Nat}(hs:s.p M w):∀ {l:List Sp}{L:List Nat},AllSp w L l→AllSp w (L++M) (l++[s])
 | [],_,h=>by rw [show _=_ from h]; exact⟨M,[],by simp,hs,rfl⟩
 | t :: l,_,⟨L1,L2,e,h1,h2⟩=>by subst e; exact⟨L1,L2++M,by simp,h1,AllSp.snoc hs h2⟩
def It.W {α:Type} [Sep α](e:TypeId)(xs:List α)(v:Value)(sp:List Sp):It:=
 ⟨fun L C _ w=>∃ cs C1 C2,C=C1++C2∧RowO w e (Rep.sz α) v xs.length L cs∧ownL w C1 xs cs∧AllSp w C2 sp,fun h _=>h,
 by
  rintro L C F w w' ⟨cs,C1,C2,rfl,h1,h2,h3⟩ _ hf
  exact⟨cs,C1,C2,rfl,h1.frm fun b hb=>hf b (by simp [hb]),h2.frame fun b hb=>hf b (by simp [hb]),h3.frame fun b hb=>hf b (by simp [hb])⟩,
 by
  rintro L C F w ⟨cs,C1,C2,rfl,h1,h2,h3⟩ q hq
  simp only [List.mem_append] at hq
  rcases hq with hq | hq | hq
  ·exact h1.lst q hq
  ·exact h2.lt q hq
  ·exact h3.lt q hq⟩
theorem RowO.ownS {α:Type} [Sep α]{w:World}{e:TypeId}{xs:List α}{v:Value}{L C:List Nat}{cs:List Value}(hr:RowO w e (Rep.sz α) v xs.length L cs)(ho:ownL w C xs cs):ownS (L++C) w xs v:=by
 have nilC:xs=[]→C=[]:=fun e=>by subst e; exact ho.1
 rcases hr with ⟨hr,rfl⟩ | ⟨⟨A,rfl⟩,hx0,rfl,rfl⟩
 ·rcases hr.2 with ⟨rfl,hx0⟩ | ⟨g,cap,cur,rfl,_,hg,hn,hc,hs,ht⟩
  ·obtain rfl:=List.eq_nil_of_length_eq_zero hx0
   rw [nilC rfl]
   exact ownS.nil (Nat.zero_le _)
  ·refine⟨_,cap,cs,rfl,hn,hc,.inr ⟨g,0,e,cur.toList,C,rfl,rfl,by simpa [Blk] using hg,fun j u hu=>?_,ho⟩⟩
   rw [Nat.zero_add]
   rw [← ht,List.getElem?_take] at hu
   split at hu
   ·exact hu
   ·cases hu
 ·obtain rfl:=List.eq_nil_of_length_eq_zero hx0
  rw [nilC rfl]
  exact ownS.nil (Nat.zero_le _)
theorem AllI.iff {F:Nat→Prop}{w:World}:∀ {is:List It}{l:List (List Nat × List Nat)},AllI F w is l↔is.length=l.length∧∀ (j:Nat)(it:It)(q:List Nat × List Nat),is[j]? = some it→l[j]? = some q→it.p q.1 q.2 F w
 | [],[]=>⟨fun _=>⟨rfl,fun j it q h=>by simp at h⟩,fun _=>trivial⟩
 | [],_ :: _=>⟨fun h=>h.elim,fun h=>by simp at h⟩
 | _ :: _,[]=>⟨fun h=>h.elim,fun h=>by simp at h⟩
 | i :: is,(L,C) :: l=>by
  constructor
  ·rintro⟨h1,h2⟩
   obtain⟨e,h3⟩:=AllI.iff.1 h2
   refine⟨by simp [e],fun j it q hj hq=>?_⟩
   cases j with
   | zero=>simp at hj hq; subst hj; subst hq; exact h1
   | succ j=>exact h3 j it q (by simpa using hj) (by simpa using hq)
  ·rintro⟨e,h⟩
   exact⟨h 0 i (L,C) rfl rfl,AllI.iff.2 ⟨by simpa using e,fun j it q hj hq=>h (j+1) it q (by simpa using hj) (by simpa using hq)⟩⟩
theorem q9d:∀ {l:List (List Nat × List Nat)}{i:Nat}{q:List Nat × List Nat},l[i]? = some q→(blks l).Perm ((q.1++q.2)++blks (l.set i ([],[])))
 | [],_,_,h=>by simp at h
 | (L,C) :: l,0,q,h=>by simp at h; subst h; simp [blks]
 | (L,C) :: l,i+1,q,h=>by
  have ih:=q9d (l:=l) (i:=i) (q:=q) (by simpa using h)
  simp only [List.set_cons_succ,blks]
  refine (ih.append_left (L++C)).trans ?_
  have:=(List.perm_append_comm (l₁:=L++C) (l₂:=q.1++q.2)).append_right (blks (l.set i ([],[])))
  rw [List.append_assoc (q.1++q.2),List.append_assoc (L++C)] at this
  exact this
section
variable {F0:Nat→Prop}{M:List Nat}{w0 w w' : World}{fr:List Pr}{ow:List It}{i k:Nat}{e:TypeId}{v u:Value}
theorem HL.join {o o2 o' : It}(H:HL F0 M w0 w fr ow)(hi:ow[i]? = some o)(hk:ow[k]? = some o2)(hik:i≠k)
  (ho:∀ F L C L2 C2,o.p L C F w→o2.p L2 C2 F w→o'.p L (C++(L2++C2)) F w):HL F0 M w0 w fr ((ow.set i o').set k It.emp):=by
 obtain⟨Fr,LC,h1,h2,h3,h4,h5,h6⟩:=H
 obtain⟨hlen,hall⟩:=AllI.iff.1 h3
 have hil:i < ow.length:=(List.getElem?_eq_some_iff.1 hi).1
 have hkl:k < ow.length:=(List.getElem?_eq_some_iff.1 hk).1
 obtain⟨q,hq⟩:∃ q,LC[i]? = some q:=⟨_,List.getElem?_eq_getElem (by omega)⟩
 obtain⟨q2,hq2⟩:∃ q,LC[k]? = some q:=⟨_,List.getElem?_eq_getElem (by omega)⟩
 have hLC:∀ j,((LC.set i (q.1,q.2++(q2.1++q2.2))).set k ([],[]))[j]? = if j=k then some ([],[]) else if j=i then some (q.1,q.2++(q2.1++q2.2)) else LC[j]?:=fun j=>by
  rw [List.getElem?_set,List.getElem?_set]
  by_cases hj:k=j
  ·rw [if_pos hj,if_pos hj.symm,if_pos (by simp; omega)]
  ·rw [if_neg hj,if_neg (fun (e:j=k)=>hj e.symm)]
   by_cases hj2:i=j
   ·rw [if_pos hj2,if_pos hj2.symm,if_pos (by omega)]
   ·rw [if_neg hj2,if_neg (fun (e:j=i)=>hj2 e.symm)]
 have hperm:(blks LC).Perm (blks ((LC.set i (q.1,q.2++(q2.1++q2.2))).set k ([],[]))):=by
  have p1:=q9d hq
  have p2:(blks (LC.set i ([],[]))).Perm ((q2.1++q2.2)++blks ((LC.set i ([],[])).set k ([],[]))):=q9d (by rw [List.getElem?_set,if_neg hik]; exact hq2)
  have p3:(blks ((LC.set i (q.1,q.2++(q2.1++q2.2))).set k ([],[]))).Perm ((q.1++(q.2++(q2.1++q2.2)))++blks (((LC.set i (q.1,q.2++(q2.1++q2.2))).set k ([],[])).set i ([],[]))):=q9d (by rw [hLC,if_neg hik,if_pos rfl])
  have e:((LC.set i (q.1,q.2++(q2.1++q2.2))).set k ([],[])).set i ([],[])=(LC.set i ([],[])).set k ([],[]):=by
   rw [List.set_comm _ _ (fun e=>hik e.symm),List.set_set]
  rw [e] at p3
  refine p1.trans (List.Perm.trans ?_ p3.symm)
  refine ((p2.append_left (q.1++q.2))).trans ?_
  simp only [List.append_assoc]
  exact List.Perm.refl _
 have hcl:∀ b,b∈claims LC→b∈claims ((LC.set i (q.1,q.2++(q2.1++q2.2))).set k ([],[])):=fun b hb=>by
  obtain⟨x,hx,hxb⟩:=q6F.1 hb
  obtain⟨j,hj,e⟩:=List.getElem_of_mem hx
  have hj2:LC[j]? = some x:=by rw [List.getElem?_eq_getElem hj,e]
  have hat:((LC.set i (q.1,q.2++(q2.1++q2.2))).set k ([],[]))[i]? = some (q.1,q.2++(q2.1++q2.2)):=by rw [hLC,if_neg hik,if_pos rfl]
  by_cases h1:j=k
  ·subst h1
   rw [hq2] at hj2; cases hj2
   exact q6F.2 ⟨_,List.mem_of_getElem? hat,by simp [hxb]⟩
  ·by_cases h2:j=i
   ·subst h2
    rw [hq] at hj2; cases hj2
    exact q6F.2 ⟨_,List.mem_of_getElem? hat,by simp [hxb]⟩
   ·refine q6F.2 ⟨x,List.mem_of_getElem? (i:=j) ?_,hxb⟩
    rw [hLC,if_neg h1,if_neg h2]; exact hj2
 have hsub:∀ b,fz F0 w0 M (Fr++claims LC) b→fz F0 w0 M (Fr++claims ((LC.set i (q.1,q.2++(q2.1++q2.2))).set k ([],[]))) b:=fz_sub fun b hb=>by
  rcases List.mem_append.1 hb with hb | hb
  ·exact List.mem_append.2 (.inl hb)
  ·exact List.mem_append.2 (.inr (hcl b hb))
 refine⟨Fr,(LC.set i (q.1,q.2++(q2.1++q2.2))).set k ([],[]),h1,h2.mono hsub,AllI.iff.2 ⟨by simp [hlen],fun j it x hj hx=>?_⟩,(hperm.append_left Fr).nodup_iff.1 h4,h5,fun b hb=>h6 b ((hperm.append_left Fr).mem_iff.2 hb)⟩
 rw [hLC] at hx
 rw [List.getElem?_set,List.getElem?_set] at hj
 by_cases h1:j=k
 ·subst h1
  rw [if_pos rfl] at hx hj
  rw [if_pos (by simpa using hkl)] at hj
  cases hx; cases hj
  exact⟨rfl,rfl⟩
 ·rw [if_neg h1] at hx
  rw [if_neg (fun e=>h1 e.symm)] at hj
  by_cases h2:j=i
  ·subst h2
   rw [if_pos rfl] at hx hj
   rw [if_pos hil] at hj
   cases hx; cases hj
   exact o'.mono (ho _ _ _ _ _ (hall j o q hi hq) (hall k o2 q2 hk hq2)) hsub
  ·rw [if_neg h2] at hx
   rw [if_neg (fun e=>h2 e.symm)] at hj
   exact it.mono (hall j it x hj hx) hsub
theorem HL.give {α β:Type} [Sep α] [Sep β]{xs:List α}{ys:List β}{sp:List Sp}{e2:TypeId}(H:HL F0 M w0 w fr ow)(hi:ow[i]? = some (It.W e xs v sp))(hk:ow[k]? = some (It.O e2 ys u))(hik:i≠k) :
  HL F0 M w0 w fr ((ow.set i (It.W e xs v (sp++[Sp.S ys u]))).set k It.emp):=
 H.join hi hk hik fun F L C L2 C2 ⟨cs,C1,C3,e1,h1,h2,h3⟩ ⟨ds,g1,g2⟩=>⟨cs,C1,C3++(L2++C2),by rw [e1,List.append_assoc],h1,h2,h3.snoc (s:=Sp.S ys u) (g1.ownS g2)⟩
end
section
variable {F0:Nat→Prop}{M:List Nat}{w0 w w' : World}{fr:List Pr}{ow:List It}{i j:Nat}{e:TypeId}{v:Value}{cs:List Value}
variable {P:Program}{n d:Nat}{Q:Post}{ρ:Env}{ops:Array Oper}{o:Oper}{rest:List Oper}
end
end Go.E
namespace Go.E
open Go
open Rep (rd)
open Sep (own)
section
variable {F0:Nat→Prop}{M:List Nat}{w0 w w' : World}{fr:List Pr}{ow:List It}{i j:Nat}{e:TypeId}{v:Value}{cs:List Value}
end
end Go.E
namespace Go.E
open Go
section
variable {P:Program}{n:Nat}{K:Env→World→Prop}{Q:Post}{ρ:Env}{w:World}{ops:Array Oper}{o:Oper}{S:World→Prop}{listed:Array Bool}{k i:Nat}{v:Value}
def HW.Do (P:Program)(n:Nat)(ops:Array Oper)(K:Env→World→Prop)(S:World→Prop)(k:Nat)(listed:Array Bool)(ρ:Env)(w:World)(i:Nat):Prop:=
 ∃ o,ops[i]? = some o∧WL P n ops (onlyN fun ρ' w'=>S w'∧HW P n ops K S k (listed.setIfInBounds i true) ρ' w') [o] ρ w
def HW.Dos (P:Program)(n:Nat)(ops:Array Oper)(K:Env→World→Prop)(S:World→Prop)(k:Nat)(listed:Array Bool)(ρ:Env)(w:World):List Nat→Prop
 | []=>True
 | i :: l=>HW.Do P n ops K S k listed ρ w i∧HW.Dos P n ops K S k listed ρ w l
theorem HW.Dos.get:∀ {l:List Nat}{i:Nat},HW.Dos P n ops K S k listed ρ w l→i∈l→HW.Do P n ops K S k listed ρ w i
 | j :: l,i,h,hi=>by
  rcases List.mem_cons.1 hi with rfl | hi
  ·exact h.1
  ·exact HW.Dos.get h.2 hi
theorem HW.some (rs:List Nat)(hr:Region.ready .any ops listed=rs)(hne:rs.isEmpty=false)(h:HW.Dos P n ops K S k listed ρ w rs):HW P n ops K S (k+1) listed ρ w:=fun hok a ha=>by
 refine wpAnyH_all hr (by rintro rfl; cases hne) fun j hj=>?_
 obtain⟨o,hi,h⟩:=h.get hj
 have hoko:okOper n o=true:=List.all_eq_true.1 hok o (by rw [Array.mem_toList_iff]; exact Array.mem_of_getElem? hi)
 have h1:=h (by simp [hoko]) a ha
 unfold wpList at h1
 unfold wpOp
 simp only [hi]
 by_cases hw:Region.wanted o (yielded ops a.tmps)=true
 ·rw [if_pos hw] at h1 ⊢
  rcases h1 with h1 | h1
  ·refine .inl (q7T (fun a' w' h2=>?_) (fun e a' w' he ⟨ρ',_,h3,_⟩=>absurd h3 he) h1)
   unfold wpList at h2
   obtain⟨ρ',hr',_,hS',hH⟩:=h2
   exact⟨hS',hH hok a' hr'⟩
  ·obtain⟨_,a',w',ρ',_,he,_⟩:=h1
   cases he
 ·rw [if_neg hw] at h1 ⊢
  unfold wpList at h1
  obtain⟨ρ',hr',_,hS',hH⟩:=h1
  exact⟨hS',hH hok _ hr'⟩
end
end Go.E
namespace Go.E
open Go
end Go.E
namespace Go.E
open Go
open Rep (rd)
open Sep (own)
section
variable {P:Program}{ρ:Env}{w:World}{o:Oper}
theorem Ev.maxI {T1 T2:TypeId}{x y:Operand}{q r:IntKind}{a b:Int}(ho:o.op = .call { callee:=.builtin .max,args:=#[x,y],argTypes:=#[T1,T2] })(hx:E.ev ρ x = .int q a)(hy:E.ev ρ y = .int r b):Ev P ρ o w (.int q (if b > a then b else a)):=by
 simp [Ev,execOp,ho,hx,hy,resolve,invoke,builtin,Builtin.max_,Builtin.max2,List.foldlM]
theorem Ev.minI {T1 T2:TypeId}{x y:Operand}{q r:IntKind}{a b:Int}(ho:o.op = .call { callee:=.builtin .min,args:=#[x,y],argTypes:=#[T1,T2] })(hx:E.ev ρ x = .int q a)(hy:E.ev ρ y = .int r b):Ev P ρ o w (.int q (if b < a then b else a)):=by
 simp [Ev,execOp,ho,hx,hy,resolve,invoke,builtin,Builtin.min_,Builtin.min2,List.foldlM]
end
theorem z5v {a b:Int}{c:Prop} [Decidable c](ha:I64 a)(hb:I64 b):I64 (if c then b else a):=by
 split
 ·exact hb
 ·exact ha
theorem z4E (off:Nat):∀ (l:List Value)(k:Nat)(cs:Array Value),off+(k+l.length)≤cs.size →
  ((l.zipIdx k).foldl (fun cs (p:Value × Nat)=>cs.setIfInBounds (off+p.2) p.1) cs).toList=cs.toList.take (off+k)++(l++cs.toList.drop (off+(k+l.length)))
 | [],k,cs,_=>by simp
 | x :: l,k,cs,h=>by
  simp only [List.length_cons] at h
  simp only [List.zipIdx_cons,List.foldl_cons]
  rw [z4E off l (k+1) _ (by simp; omega)]
  have hk:off+k < cs.toList.length:=by simp; omega
  have h1:(cs.setIfInBounds (off+k) x).toList.take (off+(k+1))=cs.toList.take (off+k)++[x]:=by
   rw [Array.toList_setIfInBounds,← Nat.add_assoc,List.take_add_one,List.take_set_of_le (Nat.le_refl _)]
   simp only [Array.length_toList] at hk
   simp [hk]
  have h2:(cs.setIfInBounds (off+k) x).toList.drop (off+(k+1+l.length))=cs.toList.drop (off+(k+(x :: l).length)):=by
   rw [Array.toList_setIfInBounds,List.drop_set_of_lt (by omega)]
   congr 1
   simp only [List.length_cons]; omega
  rw [h1,h2]; simp
def catL (k:Nat):List Value→List (List Value)→Prop
 | [],[]=>True
 | v :: vs,c :: cs=>v.cells=c.toArray∧c.length=k∧catL k vs cs
 | _,_=>False
theorem catL.len {k:Nat}:∀ {vs:List Value}{css:List (List Value)},catL k vs css→css.flatten.length=vs.length*k
 | [],[],_=>by simp
 | v :: vs,c :: cs,⟨_,h,h2⟩=>by
  have:=catL.len h2
  simp only [List.flatten_cons,List.length_append,List.length_cons,h,this,Nat.add_mul]; omega
 | [],_ :: _,h=>h.elim
 | _ :: _,[],h=>h.elim
theorem z4F {k:Nat}:∀ (vs:List Value)(css:List (List Value))(j:Nat)(cs:Array Value),catL k vs css→cs.size=(j+vs.length)*k→Instr.fill (fun i=>some (i*k,k)) cs (idxL j vs)=some (cs.toList.take (j*k)++css.flatten).toArray
 | [],[],j,cs,_,h=>by
  simp only [idxL,Instr.fill,List.flatten_nil,List.append_nil]
  congr 1
  apply Array.ext'
  simp at h
  simp [List.take_of_length_le,h]
 | v :: vs,c :: css,j,cs,⟨hv,hc,hr⟩,h=>by
  have hl:(v :: vs).length=vs.length+1:=rfl
  rw [hl] at h
  have hmul:(j+(vs.length+1))*k=j*k+k+vs.length*k:=by rw [Nat.add_mul,Nat.add_mul]; omega
  have hseg:=z4E (j*k) c 0 cs (by rw [hc]; omega)
  simp only [idxL,Instr.fill,hv]
  have e1:¬ ((c.toArray.size≠k||j*k+c.toArray.size > cs.size)=true):=by simp [hc]; omega
  rw [if_neg e1]
  have e2:(c.toArray.zipIdx.foldl (fun cs (x:Value × Nat)=>cs.setIfInBounds (j*k+x.2) x.1) cs)=(cs.toList.take (j*k)++(c++cs.toList.drop (j*k+(0+c.length)))).toArray:=by
   apply Array.ext'
   rw [Nat.add_zero] at hseg
   rw [← Array.foldl_toList]
   refine Eq.trans ?_ hseg
   simp
  have ih:=z4F vs css (j+1) (cs.toList.take (j*k)++(c++cs.toList.drop (j*k+(0+c.length)))).toArray hr (by
   simp [hc]
   rw [Nat.min_eq_left (by omega),Nat.add_mul,Nat.add_mul]
   omega)
  refine (congrArg (fun q=>Instr.fill _ q _) e2).trans (ih.trans ?_)
  congr 1
  apply Array.ext'
  simp only [List.flatten_cons]
  rw [← List.append_assoc,← List.append_assoc]
  rw [List.take_append_of_le_length (by simp [hc,Nat.add_mul]; omega),List.take_of_length_le (by simp [hc,Nat.add_mul]; omega)]
 | [],_ :: _,_,_,h,_=>h.elim
 | _ :: _,[],_,_,h,_=>h.elim
section
variable {F0:Nat→Prop}{M:List Nat}{w0 w w' : World}{fr:List Pr}{ow:List It}{i j:Nat}{e:TypeId}{v:Value}{cs:List Value}
variable {P:Program}{n d:Nat}{Q:Post}{ρ:Env}{ops:Array Oper}{o:Oper}{rest:List Oper}
theorem z8J {T m k:Nat}{z:List Value}{vs:List Value}{css:List (List Value)}(hT:elemT P T=some e)(hk:szT P e=some k)(hz:zeroT P e=some z)(hzk:z.length=k)(h1:catL k vs css)(hn:vs.length=m)(hk0:Nat.blt 0 k=true)(hm:Nat.blt 0 m=true)(hm2:Nat.ble (m*k) 100000=true) :
  (Instr.buildSlice T m (idxL 0 vs).toArray).run P w = .ok (.slice (some ⟨w.heap.size,0,none⟩) m m) (w.alloc (.cells css.flatten.toArray e)):=by
 obtain⟨zv,hzv,hzc⟩:=q3I (P:=P) (w:=w) hz
 have hm' : 0 < m:=by simpa using hm
 have hk' : 0 < k:=by simpa using hk0
 have hm2' : m*k≤100000:=by simpa using hm2
 have hpos:0 < m*k:=Nat.mul_pos hm' hk'
 have n1:¬ 16777216 < m*k:=by omega
 have n2:¬ m*k=0:=by omega
 have n3:¬ (m=0∨k=0):=by omega
 have hf:=z4F vs css 0 ((Array.range (m*k)).map (z.toArray[· % z.toArray.size]!)) h1 (by simp [hn])
 have hnr:=q5h (P:=P) (w:=w) e css.flatten
 have hr:(Array.range (m*k)).map (fun x=>z.toArray[x % z.toArray.size]!)=(Array.range (m*k)).map (z.toArray[· % z.toArray.size]!):=rfl
 unfold Instr.buildSlice
 simp only [Sem.run_bind,run_underlying (q2J hT),Result.andThen_ok,q2k hk,Sem.run_pure]
 simp only [Nat.zero_mul,List.take_zero,List.nil_append] at hf
 simp [n1,n2,hzv,hzc]
 simp only [List.size_toArray] at hf
 simp at hf
 rw [hf]
 simp [hnr]
theorem WL.litG {α:Type} [Rep α]{T m k:Nat}{z:List Value}{parts:Array (Nat × Operand)}{vs:List Value}{css:List (List Value)}{xs:List α}(hg:o.guard=none)(hd:o.dst=some d)(ho:o.op = .buildSlice T m parts)(hT:elemT P T=some e)(hk:szT P e=some k)(hz:zeroT P e=some z)(hzk:z.length=k)
  (hp:parts.toList.map (fun p=>(p.1,E.ev ρ p.2))=idxL 0 vs) (h1:catL k vs css) (hn:vs.length=m) (hk0:Nat.blt 0 k=true) (hm:Nat.blt 0 m=true) (hm2:Nat.ble (m*k) 100000=true) (hx:∀ F,AllP F w fr→rdL F w xs css.flatten) (hs:Rep.sz α=k) (hlen:xs.length=m) (H:HL F0 M w0 w fr ow)
  (h:∀ A q c w',HL F0 M w0 w' fr (ow++[It.G e xs (.slice A q c)])→WL P n ops Q rest (upd ρ d (.slice A q c)) w'):WL P n ops Q (o :: rest) ρ w:=
 WL.step hg fun a K ha hok hK=>by
  unfold Oper.wp
  rw [q1m ha hok]
  have hp' : parts.map (fun p=>(p.1,E.ev ρ p.2))=(idxL 0 vs).toArray:=by
   apply Array.ext'; simpa using hp
  have hr:=z8J (P:=P) (w:=w) hT hk hz hzk h1 hn hk0 hm hm2
  simp only [execOp,ho,hp',Sem.run_bind,hr,Result.andThen_ok,Sem.run_pure]
  refine hK _ _ (by
   rw [hd]
   refine h _ _ _ _ ?_
   have hm2' : m*k≤100000:=by simpa using hm2
   have hk' : 0 < k:=by simpa using hk0
   have:m≤m*k:=Nat.le_mul_of_pos_right m hk'
   have hml:xs.length≤maxLen:=by show _≤9223372036854775807; omega
   have hE:=Ext.alloc w (.cells css.flatten.toArray e)
   have H1:=H.new1 (o:=It.emp) (L:=[]) (C:=[]) (Ext.refl w) (fun _=>⟨rfl,rfl⟩) (by simp) (by simp) fun _ _ _ _ _ h=>h
   obtain⟨F,L,C,hP,hnF,⟨hL,hC⟩,hN,hF,hupd⟩:=H1.updP (i:=ow.length) (o:=It.emp) (by simp)
   subst hL; subst hC
   have hB:=q4o w e css.flatten
   have h2:=hupd (o':=It.G e xs (.slice (some ⟨w.heap.size,0,none⟩) xs.length xs.length)) (L':=[w.heap.size]) (C':=[]) (hE.mono fun q _ e=>e.elim) (fun F' hm=>⟨css.flatten,.inl ⟨Own.of_blk hB (by rw [h1.len,hs,hlen,hn]) (Nat.zero_le _) hml,rfl⟩,rfl,((hx F hP).frame fun b _ hl=>hE.block b hl id).mono hm⟩) (by simp) (fun q hq=>by simp at hq; right; omega) (by simp)
   rw [List.set_append_right _ _ (Nat.le_refl _),Nat.sub_self,List.set_cons_zero,hlen] at h2
   exact h2)
end
theorem ownL.consK {α:Type} [Sep α]{w:World}{x:α}{xs:List α}{c r:List Value}(h:own [] w x c)(h2:ownL w [] xs r):ownL w [] (x :: xs) (c++r):=⟨[],[],c,r,rfl,rfl,h,h2⟩
theorem rdL.consK {α:Type} [Rep α]{S:Nat→Prop}{w:World}{x:α}{xs:List α}{c r:List Value}(h:rd S w x c)(h2:rdL S w xs r):rdL S w (x :: xs) (c++r):=⟨c,r,rfl,h,h2⟩
theorem z7F {w:World}:∀ {xs:List Int}{C:List Nat}{cs:List Value},ownL w C xs cs→C=[]
 | [],_,_,h=>h.1
 | x :: xs,_,_,⟨L1,L2,c,r,hL,_,h1,h2⟩=>by
  obtain⟨h1,_⟩:=h1
  subst h1
  rw [hL,z7F h2]; rfl
theorem z7G {S:Nat→Prop}{w:World}:∀ {xs:List Int}{cs:List Value},rdL S w xs cs→(∀ w',ownL w' [] xs cs)∧(∀ v∈cs,v.oneCell'=true)∧cs.length=xs.length
 | [],_,h=>by rw [show _=_ from h]; exact⟨fun _=>⟨rfl,rfl⟩,by simp,rfl⟩
 | x :: xs,_,⟨c,r,hc,h1,h2⟩=>by
  subst hc
  obtain⟨rfl,hx⟩:=h1
  obtain⟨b1,b2,b3⟩:=z7G h2
  exact⟨fun w'=>ownL.consK ⟨rfl,rfl,hx⟩ (b1 w'),fun v hv=>(List.mem_append.1 hv).elim (fun h=>by simp at h; subst h; rfl) (b2 v),by simp [b3]⟩
section
variable {F0:Nat→Prop}{M:List Nat}{w0 w w' : World}{fr:List Pr}{ow:List It}{i j:Nat}{e:TypeId}{v u:Value}{cs:List Value}
variable {P:Program}{n d:Nat}{Q:Post}{ρ:Env}{ops:Array Oper}{o:Oper}{rest:List Oper}
theorem WL.cpO {T T2:TypeId}{x y:Operand}{xs ys:List Int}{S:Nat→Prop}(hg:o.guard=none)(hd:o.dst=some d)
  (ho:o.op = .call { callee:=.builtin .copy,args:=#[x,y],argTypes:=#[T,T2] }) (hT:elemT P T=some e) (hk:szT P e=some 1)
  (hx:E.ev ρ x=v) (hy:E.ev ρ y=u) (H:HL F0 M w0 w fr ow) (hi:ow[i]? = some (It.O e xs v)) (hr:rdS S w ys u)
  (hlen:ys.length=xs.length) (h:∀ w',HL F0 M w0 w' fr (ow.set i (It.O e ys v))→WL P n ops Q rest (upd ρ d (.int .i64 (ys.length:Int))) w'):WL P n ops Q (o :: rest) ρ w:=by
 refine WL.step hg fun a K ha hok hK=>?_
 unfold Oper.wp
 rw [q1m ha hok]
 have hsz:(P.info? e).map (·.size)=some 1:=hk
 obtain⟨F,L,C,⟨cs,h0,h3⟩,hN,hF,hupd⟩:=H.upd hi
 obtain⟨A,cap,ds,rfl,hc1,hc2,hds,hcase⟩:=hr
 obtain⟨o1,o2,o3⟩:=z7G hds
 obtain rfl:=z7F h3
 by_cases hz:ys=[]
 ·subst hz
  have hxs:xs=[]:=List.eq_nil_of_length_eq_zero hlen.symm
  subst hxs
  obtain⟨A',c',rfl,_⟩:=h0.form
  have hrun:(Builtin.copy_ #[T,T2] o.type #[.slice A' 0 c',.slice A 0 cap]).run P w = .ok (goInt 0) w:=run_copy_none w T T2 o.type e A' A 0 c' 0 cap (q2J hT) hsz rfl
  have hx' : E.ev ρ x = .slice A' 0 c':=hx
  have hy' : E.ev ρ y = .slice A 0 cap:=hy
  simp only [execOp,ho,resolve,invoke,builtin,Sem.run_bind,Sem.run_pure,Result.andThen_ok,List.map_toArray,List.map_cons,List.map_nil,hx',hy',hrun]
  refine hK _ _ ?_
  rw [hd]
  refine h w ?_
  have:ow.set i (It.O e ([]:List Int) (.slice A' 0 c'))=ow:=by
   apply List.ext_getElem?
   intro k
   rw [List.getElem?_set]
   split
   ·next hik=>subst hik; rw [hi]; simp [(List.getElem?_eq_some_iff.1 hi).1]
   ·rfl
  have hv:(.slice A' 0 c' : Value) = .slice A' ([]:List Int).length c':=rfl
  show HL F0 M w0 w fr (ow.set i (It.O e ([]:List Int) (.slice A' 0 c')))
  rw [this]; exact H
 ·obtain⟨b,off,rfl,_,hat⟩:=hcase.resolve_left hz
  have hpos:0 < xs.length:=by rw [← hlen]; exact List.length_pos_iff.2 hz
  obtain⟨h1,h2⟩:=h0.own hpos
  rcases h1.2 with ⟨_,h00⟩ | ⟨g,c',cur,rfl,hb0,hgb,hn,hcm,hs,ht⟩
  ·omega
  ·have hs1:Rep.sz Int=1:=rfl
   rw [hs1,Nat.mul_one] at hs
   have hrun:=run_copy_row (P:=P) w T T2 o.type e g 0 xs.length c' ⟨b,off,none⟩ ys.length cap cur e ds (q2J hT) hsz hgb (by rw [o3,hlen]; simp) (fun j v hv=>by
    have:=hat j v hv
    by_cases hj:j=0
    ·subst hj; simpa [Addr.add] using this
    ·simpa [Addr.add,hj] using this) (by rw [o3,hlen]; omega) o2
   simp only [execOp,ho,resolve,invoke,builtin,Sem.run_bind,Sem.run_pure,Result.andThen_ok,List.map_toArray,List.map_cons,List.map_nil,hx,hy,hrun]
   refine hK _ _ ?_
   rw [hd]
   have e3:(Value.int .i64 (ys.length:Int))=goInt ds.length:=by rw [o3]; rfl
   rw [e3] at h
   refine h _ ?_
   have hB:Blk w g e cur.toList:=by simpa [Blk] using hgb
   have hsp:cur.toList.take 0++ds++cur.toList.drop (0+ds.length)=splice cur.toList 0 ds:=rfl
   rw [hsp]
   have hc:=z0C w g (splice cur.toList 0 ds).toArray
   have hb' : Blk (w.setRow g (splice cur.toList 0 ds).toArray) g e (splice cur.toList 0 ds):=setRow_heap w g _ _ e _ hgb
   have hst:=h1.st (w':=w.setRow g (splice cur.toList 0 ds).toArray) rfl hB (off:=0) (l:=ds) (by rw [o3,hlen,hs1]; omega) hb'
   have hcl:cs.length=xs.length*Rep.sz Int:=h1.1
   have hspl:splice cs 0 ds=ds:=by
    unfold splice
    rw [List.drop_eq_nil_of_le (by rw [hcl,hs1,o3,hlen]; omega)]
    simp
   rw [hspl,← hlen] at hst
   rw [← hlen]
   exact hupd (L':=L) (C':=[]) (hc.mono fun q _ e=>by rw [h2]; simp [Value.ownBlock,e]) (fun F' _=>⟨ds,.inl ⟨hst,by rw [h2]; rfl⟩,o1 _⟩) (by simpa using hN) (fun q hq=>.inl hq) (by simp)
end
end Go.E
namespace Go.E
open Go
open Rep (rd)
open Sep (own)
section
variable {F0:Nat→Prop}{M:List Nat}{w0 w w' : World}{fr:List Pr}{ow:List It}{i j:Nat}{e:TypeId}{v:Value}{cs:List Value}
end
end Go.E
namespace Go.E
open Go
section
variable {P:Program}{ρ:Env}{w:World}
theorem z9M {fn:Func}{t0:Nat}{u0:Value}{t1:Nat}{u1:Value}{t2:Nat}{u2:Value}(hr:fn.results=#[.tmp t0,.tmp t1,.tmp t2])(ht0:Nat.blt t0 fn.ntmps=true)(hu0:ρ t0=u0)(ht1:Nat.blt t1 fn.ntmps=true)(hu1:ρ t1=u1)(ht2:Nat.blt t2 fn.ntmps=true)(hu2:ρ t2=u2):∀ a:Act,Rel fn.ntmps ρ a→(results fn a.tmps).run P w = .ok (.tuple #[u0,u1,u2]) w:=fun a ha=>by
 have h0:a.tmps.getD t0 undef=u0:=(ha.at_ t0 (by simpa using ht0)).trans hu0
 have h1:a.tmps.getD t1 undef=u1:=(ha.at_ t1 (by simpa using ht1)).trans hu1
 have h2:a.tmps.getD t2 undef=u2:=(ha.at_ t2 (by simpa using ht2)).trans hu2
 simp only [Array.getD_eq_getD_getElem?] at h0 h1 h2
 simp [results,hr,h0,h1,h2]
end
end Go.E
namespace Go.E
open Go
open Rep (rd)
open Sep (own)
section
variable {P:Program}{ρ:Env}{w:World}{o:Oper}
theorem HL.bytes {F0:Nat→Prop}{M:List Nat}{w0 w:World}{fr:List Pr}{ow:List It}{i:Nat}{e:TypeId}{xs:List UInt8}{v:Value}(H:HL F0 M w0 w fr ow)(hi:ow[i]? = some (It.O e xs v)):rdS (fun _=>True) w xs v:=by
 obtain⟨F,L,C,⟨cs,h1,h2⟩,_⟩:=H.upd hi
 exact h1.rd (h2.rd.mono fun _ _=>trivial) fun _ _=>trivial
end
end Go.E
namespace Go.E
open Go
open Rep (rd)
open Sep (own)
theorem At.same {w:World}{b o:Nat}{cs ds:List Value}(h1:At w b o cs)(h2:At w b o ds)(hl:cs.length=ds.length):cs=ds:=by
 apply List.ext_getElem?
 intro j
 by_cases hj:j < cs.length
 ·have a1:=h1 j cs[j] (List.getElem?_eq_getElem hj)
  have a2:=h2 j (ds[j]'(by omega)) (List.getElem?_eq_getElem (by omega))
  rw [a1] at a2
  rw [List.getElem?_eq_getElem hj,List.getElem?_eq_getElem (by omega)]
  exact a2
 ·rw [List.getElem?_eq_none (by omega),List.getElem?_eq_none (by omega)]
section
variable {F0:Nat→Prop}{M:List Nat}{w0 w w' : World}{fr:List Pr}{ow:List It}{i j:Nat}{e:TypeId}{v:Value}{cs:List Value}
variable {P:Program}{n d:Nat}{Q:Post}{ρ:Env}{ops:Array Oper}{o:Oper}{rest:List Oper}
theorem WL.appGS {α:Type} [Rep α]{T b:Nat}{z:List Value}{s x:Operand}{xs ys:List α}{u:Value}(hg:o.guard=none)(hd:o.dst=some d)
  (ho:o.op = .call { callee:=.builtin .append,args:=#[s,x],argTypes:=#[T,T] }) (hT:elemT P T=some e) (hk:szT P e=some (Rep.sz α)) (hb:byT P e=some b) (hz:zeroT P e=some z) (hzk:z.length=Rep.sz α)
  (hs:E.ev ρ s=v) (hx:E.ev ρ x=u) (H:HL F0 M w0 w fr ow) (hi:ow[i]? = some (It.G e xs v)) (hj:fr[j]? = some (Pr.S ys u))
  (hmax:((xs.length:Int)+(ys.length:Int))*b≤140737488355328∧(xs.length:Int)+ys.length≤9223372036854775807)
  (h:∀ A m c w',HL F0 M w0 w' fr (ow.set i (It.G e (xs++ys) (.slice A m c)))→WL P n ops Q rest (upd ρ d (.slice A m c)) w'):WL P n ops Q (o :: rest) ρ w:=by
 obtain⟨F,hF⟩:∃ F,AllP F w fr:=by obtain⟨Fr,LC,_,h2,_⟩:=H; exact⟨_,h2⟩
 obtain⟨A,cap,cells,rfl,_,_,hr,hat⟩:=(hF.get hj:rdS F w ys u)
 refine WL.appG (news:=cells) hg hd ho hT hk hb hz hzk hs hx H hi (fun F' hF'=>?_) ?_ hmax h
 ·obtain⟨A',cap',cells',he,_,_,hr',hat'⟩:=(hF'.get hj:rdS F' w ys _)
  have hl:cells.length=cells'.length:=by rw [hr.len,hr'.len]
  rcases hat' with rfl | ⟨b',o',rfl,_,hat'⟩
  ·have e1:cells'=[]:=hr'
   subst e1
   obtain rfl:=List.eq_nil_of_length_eq_zero hl
   exact hr'
  ·rcases hat with rfl | ⟨b1,o1,rfl,_,hat⟩
   ·have e1:cells=[]:=hr
    subst e1
    obtain rfl:=List.eq_nil_of_length_eq_zero hl.symm
    exact hr'
   ·injection he with h1 _ _
    injection h1 with h1
    injection h1 with h1 h2 _
    subst h1; subst h2
    rw [hat.same hat' hl]; exact hr'
 ·rcases hat with rfl | ⟨b,o,rfl,_,hat⟩
  ·exact .inl rfl
  ·exact .inr ⟨b,o,rfl,hat⟩
end
end Go.E
namespace Go.E
open Go
open Rep (rd)
open Sep (own)
theorem rdL.set {α:Type} [Rep α]{F:Nat→Prop}{w:World}{z:α}{l:List Value}(hz:rd F w z l):∀ {xs:List α}{cs:List Value}{k:Nat},rdL F w xs cs→k < xs.length→rdL F w (xs.set k z) (splice cs (k*Rep.sz α) l)
 | [],_,_,_,hk=>by simp at hk
 | x :: xs,_,0,⟨c,r,rfl,hc,hr⟩,_=>by
  have h1:=Rep.len hc
  have h2:=Rep.len hz
  refine⟨l,r,?_,hz,hr⟩
  rw [Nat.zero_mul,splice,List.take_zero,List.nil_append,Nat.zero_add,h2,← h1,List.drop_left]
 | x :: xs,_,k+1,⟨c,r,rfl,hc,hr⟩,hk=>by
  have h1:=Rep.len hc
  have ih:=rdL.set hz (k:=k) hr (by simpa using hk)
  refine⟨c,splice r (k*Rep.sz α) l,?_,hc,ih⟩
  have e:(k+1)*Rep.sz α=c.length+k*Rep.sz α:=by rw [h1,Nat.succ_mul,Nat.add_comm]
  unfold splice
  rw [e,List.take_length_add_append,show c.length+k*Rep.sz α+l.length=c.length+(k*Rep.sz α+l.length) by omega,List.drop_length_add_append]
  simp
section
variable {F0:Nat→Prop}{M:List Nat}{w0 w w' : World}{fr:List Pr}{ow:List It}{i j:Nat}{e:TypeId}{v:Value}{cs:List Value}
variable {P:Program}{n d:Nat}{Q:Post}{ρ:Env}{ops:Array Oper}{o:Oper}{rest:List Oper}
end
end Go.E
namespace Go.E
open Go
theorem ixJ {P:Program}{ρ:Env}{o:Oper}{w:World}{v:Value}{T:TypeId}{x j:Operand}{b off n' c:Nat}{q:IntKind}{m k:Nat}{α:Type}{xs:List α}{y:α}(ho:o.op = .indexAddr T x j)(hT:(elemT P T).bind (szT P)=some k)(hx:E.ev ρ x=v)(hv:v = .slice (some ⟨b,off,none⟩) n' c)(hj:E.ev ρ j = .int q (m:Int))(hn:xs.length=n')(hy:xs[m]? = some y):Ev P ρ o w (.pointer (some ⟨b,off+m*k,none⟩)):=by
 obtain⟨e,h1,h2⟩:=Option.bind_eq_some_iff.1 hT
 exact Ev.ixVN ho h1 h2 hx hv hj (hn▸(List.getElem?_eq_some_iff.1 hy).1)
section
variable {P:Program}{n:Nat}{Q:Post}{ρ:Env}{w w0:World}{ops:Array Oper}{o:Oper}{rest:List Oper}{d:Nat}{v:Value}{F0:Nat→Prop}{M:List Nat}{fr:List Pr}{ow:List It}{C:World→Prop}{F:Env→Prop}
theorem V {x:Operand}  (hg:o.guard=none:=by exact rfl)(hd:o.dst=some d:=by exact rfl)(ho:o.op = .move x:=by exact rfl)(hx:E.ev ρ x=v:=by exact rfl)(h:WL P n ops Q rest (upd ρ d v) w):WL P n ops Q (o :: rest) ρ w:=WL.ev hg hd (Ev.mv ho hx) h
theorem qV {x:Operand}  (hg:o.guard=none:=by exact rfl)(hd:o.dst=some d:=by exact rfl)(ho:o.op = .move x:=by exact rfl)(hx:E.ev ρ x=v:=by exact rfl)(h:QL P n ops C F rest (upd ρ d v)):QL P n ops C F (o :: rest) ρ:=QL.ev hg hd (fun _ hq=>Ev.mv ho hx) h
theorem A {x:Operand}  (hg:o.guard=none:=by exact rfl)(hd:o.dst=some d:=by exact rfl)(ho:o.op = .assign x:=by exact rfl)(hx:E.ev ρ x=v:=by exact rfl)(h:WL P n ops Q rest (upd ρ d v) w):WL P n ops Q (o :: rest) ρ w:=WL.ev hg hd (Ev.as ho hx) h
theorem qA {x:Operand}  (hg:o.guard=none:=by exact rfl)(hd:o.dst=some d:=by exact rfl)(ho:o.op = .assign x:=by exact rfl)(hx:E.ev ρ x=v:=by exact rfl)(h:QL P n ops C F rest (upd ρ d v)):QL P n ops C F (o :: rest) ρ:=QL.ev hg hd (fun _ hq=>Ev.as ho hx) h
theorem D {T:TypeId}{x:Operand}{i b off:Nat}(k:Nat)(hg:o.guard=none:=by exact rfl)(hd:o.dst=some d:=by exact rfl)(ho:o.op = .fieldAddr T x i:=by exact rfl)(hT:fieldT P T i=some k:=by kernel_rfl)(hx:E.ev ρ x = .pointer (some ⟨b,off,none⟩):=by exact rfl)(h:WL P n ops Q rest (upd ρ d (.pointer (some ⟨b,off+k,none⟩))) w):WL P n ops Q (o :: rest) ρ w:=WL.ev hg hd (Ev.fa ho hT hx) h
theorem qD {T:TypeId}{x:Operand}{i b off:Nat}(k:Nat)(hg:o.guard=none:=by exact rfl)(hd:o.dst=some d:=by exact rfl)(ho:o.op = .fieldAddr T x i:=by exact rfl)(hT:fieldT P T i=some k:=by kernel_rfl)(hx:E.ev ρ x = .pointer (some ⟨b,off,none⟩):=by exact rfl)(h:QL P n ops C F rest (upd ρ d (.pointer (some ⟨b,off+k,none⟩)))):QL P n ops C F (o :: rest) ρ:=QL.ev hg hd (fun _ hq=>Ev.fa ho hT hx) h
theorem L {T:TypeId}{x:Operand}{b off T' : Nat}{cs:List Value}(H:HL F0 M w0 w fr ow)(i:Nat)(hg:o.guard=none:=by exact rfl)(hd:o.dst=some d:=by exact rfl)(ho:o.op = .load T x:=by exact rfl)(hT:aggT P T=some false:=by kernel_rfl)(hx:E.ev ρ x = .pointer (some ⟨b,off,none⟩):=by exact rfl)(hi:ow[i]? = some (It.B b T' cs):=by exact rfl)(hc:cs[off]? = some v:=by exact rfl)(h:WL P n ops Q rest (upd ρ d v) w):WL P n ops Q (o :: rest) ρ w:=WL.ev hg hd (Ev.ld ho hT hx ((H.rB hi).cell hc)) h
theorem qL {T:TypeId}{x:Operand}{b off T' : Nat}{cs:List Value}(H:HL F0 M w0 w fr ow)(i:Nat)(hg:o.guard=none:=by exact rfl)(hd:o.dst=some d:=by exact rfl)(ho:o.op = .load T x:=by exact rfl)(hT:aggT P T=some false:=by kernel_rfl)(hx:E.ev ρ x = .pointer (some ⟨b,off,none⟩):=by exact rfl)(hi:ow[i]? = some (It.B b T' cs):=by exact rfl)(hc:cs[off]? = some v:=by exact rfl)(h:QL P n ops (Ext w) F rest (upd ρ d v)):QL P n ops (Ext w) F (o :: rest) ρ:=QL.ev hg hd (fun _ hq=>Ev.ld ho hT hx (((H.ext hq).rB hi).cell hc)) h
theorem LB {T:TypeId}{x:Operand}{b T' : Nat}{cs:List Value}(H:HL F0 M w0 w fr ow)(i:Nat)(hg:o.guard=none:=by exact rfl)(hd:o.dst=some d:=by exact rfl)(ho:o.op = .load T x:=by exact rfl)(hT:aggT P T=some true:=by kernel_rfl)(hx:E.ev ρ x = .pointer (some ⟨b,0,none⟩):=by exact rfl)(hi:ow[i]? = some (It.B b T' cs):=by exact rfl)(hk:szT P T=some cs.length:=by kernel_rfl)(h:WL P n ops Q rest (upd ρ d (.agg cs.toArray)) w):WL P n ops Q (o :: rest) ρ w:=WL.ev hg hd (Ev.lda ho hT hk hx (At.blk (H.rB hi)) rfl) h
theorem qLB {T:TypeId}{x:Operand}{b T' : Nat}{cs:List Value}(H:HL F0 M w0 w fr ow)(i:Nat)(hg:o.guard=none:=by exact rfl)(hd:o.dst=some d:=by exact rfl)(ho:o.op = .load T x:=by exact rfl)(hT:aggT P T=some true:=by kernel_rfl)(hx:E.ev ρ x = .pointer (some ⟨b,0,none⟩):=by exact rfl)(hi:ow[i]? = some (It.B b T' cs):=by exact rfl)(hk:szT P T=some cs.length:=by kernel_rfl)(h:QL P n ops (Ext w) F rest (upd ρ d (.agg cs.toArray))):QL P n ops (Ext w) F (o :: rest) ρ:=QL.ev hg hd (fun _ hq=>Ev.lda ho hT hk hx (At.blk ((H.ext hq).rB hi)) rfl) h
theorem LA {T:TypeId}{x:Operand}{b off:Nat}{cs:List Value}(H:HL F0 M w0 w fr ow)(i:Nat)(hg:o.guard=none:=by exact rfl)(hd:o.dst=some d:=by exact rfl)(ho:o.op = .load T x:=by exact rfl)(hT:aggT P T=some true:=by kernel_rfl)(hx:E.ev ρ x = .pointer (some ⟨b,off,none⟩):=by exact rfl)(hi:fr[i]? = some (Pr.A b off cs):=by exact rfl)(hk:szT P T=some cs.length:=by kernel_rfl)(h:WL P n ops Q rest (upd ρ d (.agg cs.toArray)) w):WL P n ops Q (o :: rest) ρ w:=WL.ev hg hd (Ev.lda ho hT hk hx (H.rA hi) rfl) h
theorem qLA {T:TypeId}{x:Operand}{b off:Nat}{cs:List Value}(H:HL F0 M w0 w fr ow)(i:Nat)(hg:o.guard=none:=by exact rfl)(hd:o.dst=some d:=by exact rfl)(ho:o.op = .load T x:=by exact rfl)(hT:aggT P T=some true:=by kernel_rfl)(hx:E.ev ρ x = .pointer (some ⟨b,off,none⟩):=by exact rfl)(hi:fr[i]? = some (Pr.A b off cs):=by exact rfl)(hk:szT P T=some cs.length:=by kernel_rfl)(h:QL P n ops (Ext w) F rest (upd ρ d (.agg cs.toArray))):QL P n ops (Ext w) F (o :: rest) ρ:=QL.ev hg hd (fun _ hq=>Ev.lda ho hT hk hx ((H.ext hq).rA hi) rfl) h
theorem LC {T:TypeId}{x:Operand}{b off j:Nat}{cs:List Value}(H:HL F0 M w0 w fr ow)(i:Nat)(hg:o.guard=none:=by exact rfl)(hd:o.dst=some d:=by exact rfl)(ho:o.op = .load T x:=by exact rfl)(hT:aggT P T=some false:=by kernel_rfl)(hx:E.ev ρ x = .pointer (some ⟨b,off+j,none⟩):=by exact rfl)(hi:fr[i]? = some (Pr.A b off cs):=by exact rfl)(hc:cs[j]? = some v:=by exact rfl)(h:WL P n ops Q rest (upd ρ d v) w):WL P n ops Q (o :: rest) ρ w:=WL.ev hg hd (Ev.ld ho hT hx ((H.rA hi).cell hc)) h
theorem qLC {T:TypeId}{x:Operand}{b off j:Nat}{cs:List Value}(H:HL F0 M w0 w fr ow)(i:Nat)(hg:o.guard=none:=by exact rfl)(hd:o.dst=some d:=by exact rfl)(ho:o.op = .load T x:=by exact rfl)(hT:aggT P T=some false:=by kernel_rfl)(hx:E.ev ρ x = .pointer (some ⟨b,off+j,none⟩):=by exact rfl)(hi:fr[i]? = some (Pr.A b off cs):=by exact rfl)(hc:cs[j]? = some v:=by exact rfl)(h:QL P n ops (Ext w) F rest (upd ρ d v)):QL P n ops (Ext w) F (o :: rest) ρ:=QL.ev hg hd (fun _ hq=>Ev.ld ho hT hx (((H.ext hq).rA hi).cell hc)) h
theorem L0 {T:TypeId}{x:Operand}{b off:Nat}{cs:List Value}(H:HL F0 M w0 w fr ow)(i:Nat)(hg:o.guard=none:=by exact rfl)(hd:o.dst=some d:=by exact rfl)(ho:o.op = .load T x:=by exact rfl)(hT:aggT P T=some false:=by kernel_rfl)(hx:E.ev ρ x = .pointer (some ⟨b,off,none⟩):=by exact rfl)(hi:fr[i]? = some (Pr.A b off cs):=by exact rfl)(hc:cs[0]? = some v:=by exact rfl)(h:WL P n ops Q rest (upd ρ d v) w):WL P n ops Q (o :: rest) ρ w:=WL.ev hg hd (Ev.ld ho hT hx ((H.rA hi).cell0 hc)) h
theorem qL0 {T:TypeId}{x:Operand}{b off:Nat}{cs:List Value}(H:HL F0 M w0 w fr ow)(i:Nat)(hg:o.guard=none:=by exact rfl)(hd:o.dst=some d:=by exact rfl)(ho:o.op = .load T x:=by exact rfl)(hT:aggT P T=some false:=by kernel_rfl)(hx:E.ev ρ x = .pointer (some ⟨b,off,none⟩):=by exact rfl)(hi:fr[i]? = some (Pr.A b off cs):=by exact rfl)(hc:cs[0]? = some v:=by exact rfl)(h:QL P n ops (Ext w) F rest (upd ρ d v)):QL P n ops (Ext w) F (o :: rest) ρ:=QL.ev hg hd (fun _ hq=>Ev.ld ho hT hx (((H.ext hq).rA hi).cell0 hc)) h
theorem LD {T:TypeId}{x:Operand}{b off T' : Nat}{cs:List Value}(hB:Blk w b T' cs)(hg:o.guard=none:=by exact rfl)(hd:o.dst=some d:=by exact rfl)(ho:o.op = .load T x:=by exact rfl)(hT:aggT P T=some false:=by kernel_rfl)(hx:E.ev ρ x = .pointer (some ⟨b,off,none⟩):=by exact rfl)(hc:cs[off]? = some v:=by exact rfl)(h:WL P n ops Q rest (upd ρ d v) w):WL P n ops Q (o :: rest) ρ w:=WL.ev hg hd (Ev.ld ho hT hx (hB.cell hc)) h
theorem LT {T:TypeId}{x:Operand}{b off j:Nat}{cs:List Value}(hA:At w b off cs)(hg:o.guard=none:=by exact rfl)(hd:o.dst=some d:=by exact rfl)(ho:o.op = .load T x:=by exact rfl)(hT:aggT P T=some false:=by kernel_rfl)(hx:E.ev ρ x = .pointer (some ⟨b,off+j,none⟩):=by exact rfl)(hc:cs[j]? = some v:=by exact rfl)(h:WL P n ops Q rest (upd ρ d v) w):WL P n ops Q (o :: rest) ρ w:=WL.ev hg hd (Ev.ld ho hT hx (hA.cell hc)) h
theorem N {T:TypeId}{x:Operand}{b:Bool}  (hg:o.guard=none:=by exact rfl)(hd:o.dst=some d:=by exact rfl)(ho:o.op = .unOp .not T x:=by exact rfl)(hx:E.ev ρ x = .bool b:=by exact rfl)(h:WL P n ops Q rest (upd ρ d (.bool (!b))) w):WL P n ops Q (o :: rest) ρ w:=WL.ev hg hd (Ev.not ho hx) h
theorem qN {T:TypeId}{x:Operand}{b:Bool}  (hg:o.guard=none:=by exact rfl)(hd:o.dst=some d:=by exact rfl)(ho:o.op = .unOp .not T x:=by exact rfl)(hx:E.ev ρ x = .bool b:=by exact rfl)(h:QL P n ops C F rest (upd ρ d (.bool (!b)))):QL P n ops C F (o :: rest) ρ:=QL.ev hg hd (fun _ hq=>Ev.not ho hx) h
theorem NN {α:Type} [Rep α]{S:Nat→Prop}{w2:World}{xs:List α}{T:TypeId}{x:Operand}(hS:rdS S w2 xs v)(hg:o.guard=none:=by exact rfl)(hd:o.dst=some d:=by exact rfl)(ho:o.op = .call { callee:=.builtin .len,args:=#[x],argTypes:=#[T] }:=by exact rfl)(hT:(elemT P T).isSome=true:=by kernel_rfl)(hx:E.ev ρ x=v:=by exact rfl)(h:WL P n ops Q rest (upd ρ d (.int .i64 (xs.length:Int))) w):WL P n ops Q (o :: rest) ρ w:=WL.ev hg hd (Ev.lenV ho (Option.some_get hT).symm hx hS) h
theorem qNN {α:Type} [Rep α]{S:Nat→Prop}{w2:World}{xs:List α}{T:TypeId}{x:Operand}(hS:rdS S w2 xs v)(hg:o.guard=none:=by exact rfl)(hd:o.dst=some d:=by exact rfl)(ho:o.op = .call { callee:=.builtin .len,args:=#[x],argTypes:=#[T] }:=by exact rfl)(hT:(elemT P T).isSome=true:=by kernel_rfl)(hx:E.ev ρ x=v:=by exact rfl)(h:QL P n ops C F rest (upd ρ d (.int .i64 (xs.length:Int)))):QL P n ops C F (o :: rest) ρ:=QL.ev hg hd (fun _ hq=>Ev.lenV ho (Option.some_get hT).symm hx hS) h
theorem NS {T n' c:Nat}{a:Option Addr}{x:Operand}  (hg:o.guard=none:=by exact rfl)(hd:o.dst=some d:=by exact rfl)(ho:o.op = .call { callee:=.builtin .len,args:=#[x],argTypes:=#[T] }:=by exact rfl)(hT:(elemT P T).isSome=true:=by kernel_rfl)(hx:E.ev ρ x = .slice a n' c:=by exact rfl)(h:WL P n ops Q rest (upd ρ d (.int .i64 (n' : Int))) w):WL P n ops Q (o :: rest) ρ w:=WL.ev hg hd (Ev.lenS ho (Option.some_get hT).symm hx) h
theorem J {T:TypeId}{x j:Operand}{b off n' c:Nat}{q:IntKind}{m:Nat}{α:Type}{xs:List α}{y:α}(k:Nat)(hv:v = .slice (some ⟨b,off,none⟩) n' c)(hy:xs[m]? = some y)(hg:o.guard=none:=by exact rfl)(hd:o.dst=some d:=by exact rfl)(ho:o.op = .indexAddr T x j:=by exact rfl)(hT:(elemT P T).bind (szT P)=some k:=by kernel_rfl)(hx:E.ev ρ x=v:=by exact rfl)(hj:E.ev ρ j = .int q (m:Int):=by exact rfl)(hn:xs.length=n':=by exact rfl)(h:WL P n ops Q rest (upd ρ d (.pointer (some ⟨b,off+m*k,none⟩))) w):WL P n ops Q (o :: rest) ρ w:=WL.ev hg hd (ixJ ho hT hx hv hj hn hy) h
theorem qJ {T:TypeId}{x j:Operand}{b off n' c:Nat}{q:IntKind}{m:Nat}{α:Type}{xs:List α}{y:α}(k:Nat)(hv:v = .slice (some ⟨b,off,none⟩) n' c)(hy:xs[m]? = some y)(hg:o.guard=none:=by exact rfl)(hd:o.dst=some d:=by exact rfl)(ho:o.op = .indexAddr T x j:=by exact rfl)(hT:(elemT P T).bind (szT P)=some k:=by kernel_rfl)(hx:E.ev ρ x=v:=by exact rfl)(hj:E.ev ρ j = .int q (m:Int):=by exact rfl)(hn:xs.length=n':=by exact rfl)(h:QL P n ops C F rest (upd ρ d (.pointer (some ⟨b,off+m*k,none⟩)))):QL P n ops C F (o :: rest) ρ:=QL.ev hg hd (fun _ hq=>ixJ ho hT hx hv hj hn hy) h
theorem B {op:BinOp}{T U:TypeId}{x y:Operand}{u t:Value}  (hg:o.guard=none:=by exact rfl)(hd:o.dst=some d:=by exact rfl)(ho:o.op = .binOp op T x y U:=by exact rfl)(hx:E.ev ρ x=u:=by exact rfl)(hy:E.ev ρ y=t:=by exact rfl)(hb:Bin P op T u t v:=by first | exact Bin.eql | exact Bin.lss | exact Bin.geq | exact Bin.leq | exact Bin.gtr | exact Bin.neq | exact Bin.eqlS | exact Bin.neqS | exact Bin.lssS | exact Bin.leqS | exact Bin.gtrS | exact Bin.geqS | exact Bin.addw | exact Bin.subw | exact Bin.mulw | exact Bin.andT | exact Bin.orT | exact Bin.xorT | exact Bin.andNotT)(h:WL P n ops Q rest (upd ρ d v) w):WL P n ops Q (o :: rest) ρ w:=WL.ev hg hd (Ev.bin ho hx hy hb) h
theorem qB {op:BinOp}{T U:TypeId}{x y:Operand}{u t:Value}  (hg:o.guard=none:=by exact rfl)(hd:o.dst=some d:=by exact rfl)(ho:o.op = .binOp op T x y U:=by exact rfl)(hx:E.ev ρ x=u:=by exact rfl)(hy:E.ev ρ y=t:=by exact rfl)(hb:Bin P op T u t v:=by first | exact Bin.eql | exact Bin.lss | exact Bin.geq | exact Bin.leq | exact Bin.gtr | exact Bin.neq | exact Bin.eqlS | exact Bin.neqS | exact Bin.lssS | exact Bin.leqS | exact Bin.gtrS | exact Bin.geqS | exact Bin.addw | exact Bin.subw | exact Bin.mulw | exact Bin.andT | exact Bin.orT | exact Bin.xorT | exact Bin.andNotT)(h:QL P n ops C F rest (upd ρ d v)):QL P n ops C F (o :: rest) ρ:=QL.ev hg hd (fun _ hq=>Ev.bin ho hx hy hb) h
theorem BN {op:BinOp}{T U:TypeId}{x y:Operand}{u t:Value}(hb:Bin P op T u t v)(hg:o.guard=none:=by exact rfl)(hd:o.dst=some d:=by exact rfl)(ho:o.op = .binOp op T x y U:=by exact rfl)(hx:E.ev ρ x=u:=by exact rfl)(hy:E.ev ρ y=t:=by exact rfl)(h:WL P n ops Q rest (upd ρ d v) w):WL P n ops Q (o :: rest) ρ w:=WL.ev hg hd (Ev.bin ho hx hy hb) h
theorem qBN {op:BinOp}{T U:TypeId}{x y:Operand}{u t:Value}(hb:Bin P op T u t v)(hg:o.guard=none:=by exact rfl)(hd:o.dst=some d:=by exact rfl)(ho:o.op = .binOp op T x y U:=by exact rfl)(hx:E.ev ρ x=u:=by exact rfl)(hy:E.ev ρ y=t:=by exact rfl)(h:QL P n ops C F rest (upd ρ d v)):QL P n ops C F (o :: rest) ρ:=QL.ev hg hd (fun _ hq=>Ev.bin ho hx hy hb) h
theorem AN {T U:TypeId}{x y:Operand}{k n' : Nat}(h1:k < n')(h2:I64 (n' : Int))(hg:o.guard=none:=by exact rfl)(hd:o.dst=some d:=by exact rfl)(ho:o.op = .binOp .add T x y U:=by exact rfl)(hx:E.ev ρ x = .int .i64 (k:Int):=by exact rfl)(hy:E.ev ρ y = .int .i64 ((1:Nat):Int):=by exact rfl)(h:WL P n ops Q rest (upd ρ d (.int .i64 ((k+1:Nat):Int))) w):WL P n ops Q (o :: rest) ρ w:=WL.ev hg hd (Ev.bin ho hx hy (Bin.addN rfl (q9Z h1 h2.2))) h
theorem T {c x y:Operand}  (hg:o.guard=none:=by exact rfl)(hd:o.dst=some d:=by exact rfl)(ho:o.op = .pick c x y:=by exact rfl)(hc:E.ev ρ c = .bool true:=by exact rfl)(hx:E.ev ρ x=v:=by exact rfl)(h:WL P n ops Q rest (upd ρ d v) w):WL P n ops Q (o :: rest) ρ w:=WL.ev hg hd (Ev.pickT ho hc hx) h
theorem qT {c x y:Operand}  (hg:o.guard=none:=by exact rfl)(hd:o.dst=some d:=by exact rfl)(ho:o.op = .pick c x y:=by exact rfl)(hc:E.ev ρ c = .bool true:=by exact rfl)(hx:E.ev ρ x=v:=by exact rfl)(h:QL P n ops C F rest (upd ρ d v)):QL P n ops C F (o :: rest) ρ:=QL.ev hg hd (fun _ hq=>Ev.pickT ho hc hx) h
theorem U {c x y:Operand}  (hg:o.guard=none:=by exact rfl)(hd:o.dst=some d:=by exact rfl)(ho:o.op = .pick c x y:=by exact rfl)(hc:E.ev ρ c = .bool false:=by exact rfl)(hy:E.ev ρ y=v:=by exact rfl)(h:WL P n ops Q rest (upd ρ d v) w):WL P n ops Q (o :: rest) ρ w:=WL.ev hg hd (Ev.pickF ho hc hy) h
theorem qU {c x y:Operand}  (hg:o.guard=none:=by exact rfl)(hd:o.dst=some d:=by exact rfl)(ho:o.op = .pick c x y:=by exact rfl)(hc:E.ev ρ c = .bool false:=by exact rfl)(hy:E.ev ρ y=v:=by exact rfl)(h:QL P n ops C F rest (upd ρ d v)):QL P n ops C F (o :: rest) ρ:=QL.ev hg hd (fun _ hq=>Ev.pickF ho hc hy) h
theorem EX {x:Operand}{k:Nat}{vs:Array Value}  (hg:o.guard=none:=by exact rfl)(hd:o.dst=some d:=by exact rfl)(ho:o.op = .extract x k:=by exact rfl)(hx:E.ev ρ x = .tuple vs:=by exact rfl)(hv:vs[k]? = some v:=by exact rfl)(h:WL P n ops Q rest (upd ρ d v) w):WL P n ops Q (o :: rest) ρ w:=WL.ev hg hd (Ev.ex ho hx hv) h
theorem Z (h:Q .normal ρ w):WL P n ops Q [] ρ w:=WL.nil h
theorem X {id:Nat}(h:WL P n ops Q ops.toList ρ w):CW P n (.region id ops false) Q ρ w:=CW.reg h
theorem Y {x y:Code}(h:CW P n x (thenE (fun ρ w=>CW P n y Q ρ w) Q) ρ w):CW P n (.seq x y) Q ρ w:=CW.seq h
theorem R {y:Code}{id:Nat}(h:WL P n ops (thenE (fun ρ w=>CW P n y Q ρ w) Q) ops.toList ρ w):CW P n (.seq (.region id ops false) y) Q ρ w:=CW.seq (CW.reg h)
theorem K (h:Q .normal ρ w):CW P n .skip Q ρ w:=CW.skip h
theorem G (hG:q3u n ops=true:=by exact rfl)(hg:gate ops ρ o=true:=by exact rfl)(h:WL P n ops Q ({ o with guard:=none } :: rest) ρ w):WL P n ops Q (o :: rest) ρ w:=WL.on hG hg h
theorem O (hG:q3u n ops=true:=by exact rfl)(hg:gate ops ρ o=false:=by exact rfl)(hd:o.dst=some d:=by exact rfl)(h:WL P n ops Q rest (upd ρ d undef) w):WL P n ops Q (o :: rest) ρ w:=WL.off hG hg hd h
theorem qG (hG:q3u n ops=true:=by exact rfl)(hg:gate ops ρ o=true:=by exact rfl)(h:QL P n ops C F ({ o with guard:=none } :: rest) ρ):QL P n ops C F (o :: rest) ρ:=QL.on hG hg h
theorem qO (hG:q3u n ops=true:=by exact rfl)(hg:gate ops ρ o=false:=by exact rfl)(hd:o.dst=some d:=by exact rfl)(h:QL P n ops C F rest (upd ρ d undef)):QL P n ops C F (o :: rest) ρ:=QL.off hG hg hd h
theorem BX {T:TypeId}{x:Operand}{cs:List Value}(H:HL F0 M w0 w fr ow)(hg:o.guard=none:=by exact rfl)(hd:o.dst=some d:=by exact rfl)(ho:o.op = .box T x:=by exact rfl)(hx:E.ev ρ x=v:=by exact rfl)(hc:v.cells=cs.toArray:=by exact rfl)(h:∀ b w',HL F0 M w0 w' fr (ow++[It.B b T cs])→WL P n ops Q rest (upd ρ d (.pointer (some ⟨b,0,none⟩))) w'):WL P n ops Q (o :: rest) ρ w:=WL.boxH hg hd ho hx hc H h
theorem AH {T:TypeId}{cs:List Value}(hT:zeroT P T=some cs)(H:HL F0 M w0 w fr ow)(hg:o.guard=none:=by exact rfl)(hd:o.dst=some d:=by exact rfl)(ho:o.op = .alloc T:=by exact rfl)(h:∀ b w',HL F0 M w0 w' fr (ow++[It.B b T cs])→WL P n ops Q rest (upd ρ d (.pointer (some ⟨b,0,none⟩))) w'):WL P n ops Q (o :: rest) ρ w:=WL.allocH hg hd ho hT H h
theorem SB {T:TypeId}{x y:Operand}{b off TB:Nat}{u:Value}{cs l cs' : List Value}(H:HL F0 M w0 w fr ow)(i:Nat)(hg:o.guard=none:=by exact rfl)(hd:o.dst=none:=by exact rfl)(ho:o.op = .store T x y:=by exact rfl)(hx:E.ev ρ x = .pointer (some ⟨b,off,none⟩):=by exact rfl)(hy:E.ev ρ y=u:=by exact rfl)(hv:u.cells=l.toArray:=by exact rfl)(hk:szT P T=some l.length:=by kernel_rfl)(h1:∀ u∈l,u.oneCell'=true:=by repeat (first | exact all0 | refine all1 rfl ?_))(hi:ow[i]? = some (It.B b TB cs):=by exact rfl)(hfit:Nat.ble (off+l.length) cs.length=true:=by exact rfl)(hcs:splice cs off l=cs':=by exact rfl)
  (h:∀ w',HL F0 M w0 w' fr (ow.set i (It.B b TB cs'))→WL P n ops Q rest ρ w'):WL P n ops Q (o :: rest) ρ w:=WL.stB hg hd ho hk hx hy hv rfl h1 H hi hfit hcs h
theorem En {f:FuncId}{fn:Func}{c:Code}{args:Array Value}{M:Nat→Prop}{R:Value→World→Prop}(hf:P.funcs[f]? = some fn)(hb:fn.body=some c:=by exact rfl)(hok:okCode fn.ntmps c=true:=by exact rfl)(hs:Nat.ble args.size fn.ntmps=true:=by exact rfl)(h:CW P fn.ntmps c (endE P fn fun v w'=>Chg M w w'∧R v w') (argsE args) w):Ret P f args w M R:=enter hf hb hok hs h
theorem cT {c:Operand}{x y:Code}(hc:E.ev ρ c = .bool true:=by exact rfl)(h:CW P n x Q ρ w):CW P n (.cond c x y) Q ρ w:=CW.condT hc h
theorem cF {c:Operand}{x y:Code}(hc:E.ev ρ c = .bool false:=by exact rfl)(h:CW P n y Q ρ w):CW P n (.cond c x y) Q ρ w:=CW.condF hc h
theorem CE {id:Nat}(h:Q (.exit id) ρ w):CW P n (.exit id) Q ρ w:=CW.exit h
theorem CR (h:Q .ret ρ w):CW P n .ret Q ρ w:=CW.ret h
theorem CA {c:Call}{f:FuncId}{x:Operand}{caps:Array Value}{args:List Value}{M:Nat→Prop}{R:Value→World→Prop}(hc:q0a P f=true)(hr:Ret P f args.toArray w M R)(hg:o.guard=none:=by exact rfl)(hd:o.dst=some d:=by exact rfl)(ho:o.op = .call c:=by exact rfl)(hx:c.callee = .value x:=by exact rfl)(hf:E.ev ρ x = .func (.func f) #[] caps:=by exact rfl)(ha:c.args.toList.map (E.ev ρ)++caps.toList=args:=by exact rfl)
  (h:∀ v w',Chg M w w'→R v w'→WL P n ops Q rest (upd ρ d v) w'):WL P n ops Q (o :: rest) ρ w:=WL.call hg hd ho hx hf hc ha hr h
theorem qC {c:Call}{f:FuncId}{x:Operand}{caps:Array Value}{args:List Value}(hc:q0a P f=true)(hr:∀ w,C w→Ret P f args.toArray w (fun _=>False) fun u _=>u=v)(hg:o.guard=none:=by exact rfl)(hd:o.dst=some d:=by exact rfl)(ho:o.op = .call c:=by exact rfl)(hx:c.callee = .value x:=by exact rfl)(hf:E.ev ρ x = .func (.func f) #[] caps:=by exact rfl)(ha:c.args.toList.map (E.ev ρ)++caps.toList=args:=by exact rfl)
  (h:QL P n ops C F rest (upd ρ d v)):QL P n ops C F (o :: rest) ρ:=QL.call hg hd ho hx hf hc ha hr h
theorem HL.kp {fr' : List Pr}{ow' : List It}(H:HL F0 M w0 w fr ow)(h1:fr.take fr'.length=fr')(h2:ow.take ow'.length=ow'):HL F0 M w0 w fr' ow':=by
 have:=H.keep fr'.length ow'.length
 rwa [h1,h2] at this
theorem HL.fin {ow' : List It}(H:HL F0 M w0 w fr ow)(h:ow'.Sublist ow):HL F0 M w0 w [] ow':=H.out (fun _ _=>trivial) h
theorem C0 {G:Prop}(h:G:=by
 repeat' first
  | exact trivial
  | exact rfl
  | (refine HL.kp ‹HL _ _ _ _ _ _› ?_ ?_<;>exact rfl)
  | (refine HL.fin ‹HL _ _ _ _ _ _› ?_; repeat (first | exact List.Sublist.slnil | apply List.Sublist.cons_cons | apply List.Sublist.cons))
  | assumption
  | (refine Nat.sub_lt_sub_left ?_ (Nat.lt_succ_self _); assumption)
  | exact Nat.lt_succ_self _
  | decide
  | (apply q7R; assumption; assumption)
  | (dsimp only; first | decide | (apply q7R; assumption; assumption))
  | apply And.intro
  | apply Exists.intro):G:=h
theorem W0 {G:Prop}(h:G:=by
 refine CW.ret ?_
 apply Exists.intro
 refine⟨?_,?_,?_⟩
 (first | exact res1 rfl rfl rfl | exact res2 rfl rfl rfl rfl rfl | exact z9M rfl rfl rfl rfl rfl rfl rfl)
 (first | exact HL.ext0 ‹HL _ _ _ _ _ _› | exact HL.chg ‹HL _ _ _ _ _ _›)
 exact C0):G:=h
theorem W1 {A0 G:Prop}(a:A0)(h:A0→G:=by
 intro a
 obtain rfl:=sm a
 exact W0):G:=h a
theorem W2 {A0 A1 A2 G:Prop}(a:A0)(b:A1)(c:A2)(h:A0→A1→A2→G:=by
 intro a b c
 obtain rfl:=sm a
 obtain rfl:=b _ rfl
 obtain rfl:=sm c
 exact W0):G:=h a b c
theorem W3 {A0 A1 A2 A3 A4 G:Prop}(a:A0)(b:A1)(c:A2)(d:A3)(e:A4)(h:A0→A1→A2→A3→A4→G:=by
 intro a b c d e
 obtain rfl:=sm a
 obtain rfl:=b _ rfl
 obtain rfl:=sm c
 obtain rfl:=d _ rfl
 obtain rfl:=sm e
 exact W0):G:=h a b c d e
theorem C1 {A0 G:Prop}(a:A0)(h:A0→G:=by
 intro a
 obtain rfl:=sm a
 exact C0):G:=h a
theorem C2 {A0 A1 G:Prop}(a:A0)(b:A1)(h:A0→A1→G:=by
 intro a b
 obtain rfl:=sm a
 obtain rfl:=b _ rfl
 exact C0):G:=h a b
theorem I1 {A0:Prop}{α:Type}{G:α→Prop}(a:A0)(x:α)(h:A0→G x:=by
 intro a
 obtain rfl:=sm a
 exact C0):∃ x,G x:=⟨x,h a⟩
theorem I2 {A0 A1:Prop}{α:Type}{G:α→Prop}(a:A0)(b:A1)(x:α)(h:A0→A1→G x:=by
 intro a b
 obtain rfl:=sm a
 have b:=b _ rfl
 exact C0):∃ x,G x:=⟨x,h a b⟩
section
variable {α:Type}{u u' y:α}{C:World→Prop}{F:Env→Prop}
theorem iD {p:Prop}{i1 i2:Decidable p}{c:Operand}{X Y:Code}(hr:@ite α p i1 u u'=y)(ht:p→u=y→CW P n X Q ρ w)(hf:¬ p→u'=y→CW P n Y Q ρ w)(hc:E.ev ρ c = .bool (@decide p i2):=by exact rfl):CW P n (.cond c X Y) Q ρ w:=CW.condD hc (fun h=>ht h (@ifp α _ i1 _ _ _ h hr)) fun h=>hf h (@ifn α _ i1 _ _ _ h hr)
theorem jD {p:Prop}{i1 i2:Decidable p}{x:Operand}(hr:@ite α p i1 u u'=y)(ht:p→u=y→WL P n ops Q rest (upd ρ d (.bool true)) w)(hf:¬ p→u'=y→WL P n ops Q rest (upd ρ d (.bool false)) w)(hg:o.guard=none:=by exact rfl)(hd:o.dst=some d:=by exact rfl)(ho:o.op = .move x:=by exact rfl)(hx:E.ev ρ x = .bool (@decide p i2):=by exact rfl):WL P n ops Q (o :: rest) ρ w:=WL.mvD hg hd ho hx (fun h=>ht h (@ifp α _ i1 _ _ _ h hr)) fun h=>hf h (@ifn α _ i1 _ _ _ h hr)
theorem kD {p:Prop}{i1 i2:Decidable p}{x:Operand}(hr:@ite α p i1 u u'=y)(ht:p→u=y→QL P n ops C F rest (upd ρ d (.bool true)))(hf:¬ p→u'=y→QL P n ops C F rest (upd ρ d (.bool false)))(hg:o.guard=none:=by exact rfl)(hd:o.dst=some d:=by exact rfl)(ho:o.op = .move x:=by exact rfl)(hx:E.ev ρ x = .bool (@decide p i2):=by exact rfl):QL P n ops C F (o :: rest) ρ:=QL.mvD hg hd ho hx (fun h=>ht h (@ifp α _ i1 _ _ _ h hr)) fun h=>hf h (@ifn α _ i1 _ _ _ h hr)
theorem iB {b:Bool}{i1:Decidable (b=true)}{c:Operand}{X Y:Code}(hr:@ite α (b=true) i1 u u'=y)(ht:b=true→u=y→CW P n X Q ρ w)(hf:¬ b=true→u'=y→CW P n Y Q ρ w)(hc:E.ev ρ c = .bool (b):=by exact rfl):CW P n (.cond c X Y) Q ρ w:=CW.condB hc (fun h=>ht h (@ifp α _ i1 _ _ _ h hr)) fun h=>hf h (@ifn α _ i1 _ _ _ h hr)
theorem jB {b:Bool}{i1:Decidable (b=true)}{x:Operand}(hr:@ite α (b=true) i1 u u'=y)(ht:b=true→u=y→WL P n ops Q rest (upd ρ d (.bool true)) w)(hf:¬ b=true→u'=y→WL P n ops Q rest (upd ρ d (.bool false)) w)(hg:o.guard=none:=by exact rfl)(hd:o.dst=some d:=by exact rfl)(ho:o.op = .move x:=by exact rfl)(hx:E.ev ρ x = .bool (b):=by exact rfl):WL P n ops Q (o :: rest) ρ w:=WL.mvB hg hd ho hx (fun h=>ht h (@ifp α _ i1 _ _ _ h hr)) fun h=>hf h (@ifn α _ i1 _ _ _ h hr)
theorem iN {p:Prop}{i1 i2:Decidable p}{c:Operand}{X Y:Code}(hr:@ite α p i1 u u'=y)(ht:¬ p→u'=y→CW P n X Q ρ w)(hf:p→u=y→CW P n Y Q ρ w)(hc:E.ev ρ c = .bool (!(@decide p i2)):=by exact rfl):CW P n (.cond c X Y) Q ρ w:=CW.condN hc (fun h=>ht h (@ifn α _ i1 _ _ _ h hr)) fun h=>hf h (@ifp α _ i1 _ _ _ h hr)
theorem jN {p:Prop}{i1 i2:Decidable p}{x:Operand}(hr:@ite α p i1 u u'=y)(ht:¬ p→u'=y→WL P n ops Q rest (upd ρ d (.bool true)) w)(hf:p→u=y→WL P n ops Q rest (upd ρ d (.bool false)) w)(hg:o.guard=none:=by exact rfl)(hd:o.dst=some d:=by exact rfl)(ho:o.op = .move x:=by exact rfl)(hx:E.ev ρ x = .bool (!(@decide p i2)):=by exact rfl):WL P n ops Q (o :: rest) ρ w:=WL.mvN hg hd ho hx (fun h=>ht h (@ifn α _ i1 _ _ _ h hr)) fun h=>hf h (@ifp α _ i1 _ _ _ h hr)
theorem kN {p:Prop}{i1 i2:Decidable p}{x:Operand}(hr:@ite α p i1 u u'=y)(ht:¬ p→u'=y→QL P n ops C F rest (upd ρ d (.bool true)))(hf:p→u=y→QL P n ops C F rest (upd ρ d (.bool false)))(hg:o.guard=none:=by exact rfl)(hd:o.dst=some d:=by exact rfl)(ho:o.op = .move x:=by exact rfl)(hx:E.ev ρ x = .bool (!(@decide p i2)):=by exact rfl):QL P n ops C F (o :: rest) ρ:=QL.mvN hg hd ho hx (fun h=>ht h (@ifn α _ i1 _ _ _ h hr)) fun h=>hf h (@ifp α _ i1 _ _ _ h hr)
theorem iM {b:Bool}{i1:Decidable (b=true)}{c:Operand}{X Y:Code}(hr:@ite α (b=true) i1 u u'=y)(ht:¬ b=true→u'=y→CW P n X Q ρ w)(hf:b=true→u=y→CW P n Y Q ρ w)(hc:E.ev ρ c = .bool (!b):=by exact rfl):CW P n (.cond c X Y) Q ρ w:=CW.condBN hc (fun h=>ht h (@ifn α _ i1 _ _ _ h hr)) fun h=>hf h (@ifp α _ i1 _ _ _ h hr)
theorem jM {b:Bool}{i1:Decidable (b=true)}{x:Operand}(hr:@ite α (b=true) i1 u u'=y)(ht:¬ b=true→u'=y→WL P n ops Q rest (upd ρ d (.bool true)) w)(hf:b=true→u=y→WL P n ops Q rest (upd ρ d (.bool false)) w)(hg:o.guard=none:=by exact rfl)(hd:o.dst=some d:=by exact rfl)(ho:o.op = .move x:=by exact rfl)(hx:E.ev ρ x = .bool (!b):=by exact rfl):WL P n ops Q (o :: rest) ρ w:=WL.mvBN hg hd ho hx (fun h=>ht h (@ifn α _ i1 _ _ _ h hr)) fun h=>hf h (@ifp α _ i1 _ _ _ h hr)
theorem kM {b:Bool}{i1:Decidable (b=true)}{x:Operand}(hr:@ite α (b=true) i1 u u'=y)(ht:¬ b=true→u'=y→QL P n ops C F rest (upd ρ d (.bool true)))(hf:b=true→u=y→QL P n ops C F rest (upd ρ d (.bool false)))(hg:o.guard=none:=by exact rfl)(hd:o.dst=some d:=by exact rfl)(ho:o.op = .move x:=by exact rfl)(hx:E.ev ρ x = .bool (!b):=by exact rfl):QL P n ops C F (o :: rest) ρ:=QL.mvBN hg hd ho hx (fun h=>ht h (@ifn α _ i1 _ _ _ h hr)) fun h=>hf h (@ifp α _ i1 _ _ _ h hr)
end
theorem cu (H:HL F0 M w0 w fr ow)(m:Nat)(L:List (Nat × Value))(fr' : List Pr)(ow' : List It)(h1:WL P n ops (thenE (fun ρ' w=>agree ρ' L∧HL F0 M w0 w fr' ow') Q) (rest.take m) ρ w)(h2:∀ σ w',HL F0 M w0 w' fr' ow'→WL P n ops Q (rest.drop m) (ofL σ L) w'):WL P n ops Q rest ρ w:=
 WL.cut m _ h1 fun ρ' w' ⟨ha,hH⟩=>by obtain⟨σ,rfl⟩:=ofL_ex ha; exact h2 σ w' hH
theorem cm {c:Code}(H:HL F0 M w0 w fr ow)(L:List (Nat × Value))(fr' : List Pr)(ow' : List It)(h1:CW P n c (thenE (fun ρ' w=>agree ρ' L∧HL F0 M w0 w fr' ow') Q) ρ w)(h2:∀ σ w',HL F0 M w0 w' fr' ow'→Q .normal (ofL σ L) w'):CW P n c Q ρ w:=
 CW.mid _ h1 fun ρ' w' ⟨ha,hH⟩=>by obtain⟨σ,rfl⟩:=ofL_ex ha; exact h2 σ w' hH
theorem lE {σt β:Type}{α:Type}{f:Nat→α→σt→Option σt}{xs:List α}{s0 q:σt}{c:Code}{id:Nat}(hq:eachL f 0 xs s0=some q)(env:Nat→σt→β→List (Nat × Value))(J:σt→β→World→Prop)(b0:β)(ha:agree ρ (env 0 s0 b0):=by repeat (first | exact trivial | refine⟨rfl,?_⟩))(hJ:J s0 b0 w:=by exact C0)
  (round:∀ k s b σ w,k≤xs.length→eachL f k (xs.drop k) s=some q→J s b w→CW P n c (thenE (fun ρ' w'=>∃ x' : Nat × σt × β,agree ρ' (env x'.1 x'.2.1 x'.2.2)∧(x'.1≤xs.length∧eachL f x'.1 (xs.drop (x'.1)) x'.2.1=some q∧J x'.2.1 x'.2.2 w')∧xs.length - x'.1 < xs.length - k) (blockE id Q)) (ofL σ (env k s b)) w):CW P n (.block id (.loop c)) Q ρ w:=
 CW.block (CW.loop (α:=Nat × σt × β) (fun x=>env x.1 x.2.1 x.2.2) (fun x w=>x.1≤xs.length∧eachL f x.1 (xs.drop (x.1)) x.2.1=some q∧J x.2.1 x.2.2 w) (fun x=>xs.length - x.1) (0,s0,b0) ha ⟨Nat.zero_le _,hq,hJ⟩ fun x σ w h=>round x.1 x.2.1 x.2.2 σ w h.1 h.2.1 h.2.2)
theorem lF {σt β:Type}{α ρt:Type}{f:Nat→α→σt→Option (σt ⊕ ρt)}{xs:List α}{s0:σt}{q:σt ⊕ ρt}{c:Code}{id:Nat}(hq:findL f 0 xs s0=some q)(env:Nat→σt→β→List (Nat × Value))(J:σt→β→World→Prop)(b0:β)(ha:agree ρ (env 0 s0 b0):=by repeat (first | exact trivial | refine⟨rfl,?_⟩))(hJ:J s0 b0 w:=by exact C0)
  (round:∀ k s b σ w,k≤xs.length→findL f k (xs.drop k) s=some q→J s b w→CW P n c (thenE (fun ρ' w'=>∃ x' : Nat × σt × β,agree ρ' (env x'.1 x'.2.1 x'.2.2)∧(x'.1≤xs.length∧findL f x'.1 (xs.drop x'.1) x'.2.1=some q∧J x'.2.1 x'.2.2 w')∧xs.length - x'.1 < xs.length - k) (blockE id Q)) (ofL σ (env k s b)) w):CW P n (.block id (.loop c)) Q ρ w:=
 CW.block (CW.loop (α:=Nat × σt × β) (fun x=>env x.1 x.2.1 x.2.2) (fun x w=>x.1≤xs.length∧findL f x.1 (xs.drop x.1) x.2.1=some q∧J x.2.1 x.2.2 w) (fun x=>xs.length - x.1) (0,s0,b0) ha ⟨Nat.zero_le _,hq,hJ⟩ fun x σ w h=>round x.1 x.2.1 x.2.2 σ w h.1 h.2.1 h.2.2)
theorem lN {σt β:Type}{f:Nat→σt→Option σt}{n' : Nat}{s0 q:σt}{c:Code}{id:Nat}(hq:eachN f 0 n' s0=some q)(env:Nat→σt→β→List (Nat × Value))(J:σt→β→World→Prop)(b0:β)(ha:agree ρ (env 0 s0 b0):=by repeat (first | exact trivial | refine⟨rfl,?_⟩))(hJ:J s0 b0 w:=by exact C0)
  (round:∀ k s b σ w,k≤n'→eachN f k (n' - k) s=some q→J s b w→CW P n c (thenE (fun ρ' w'=>∃ x' : Nat × σt × β,agree ρ' (env x'.1 x'.2.1 x'.2.2)∧(x'.1≤n'∧eachN f x'.1 (n' - x'.1) x'.2.1=some q∧J x'.2.1 x'.2.2 w')∧n' - x'.1 < n' - k) (blockE id Q)) (ofL σ (env k s b)) w):CW P n (.block id (.loop c)) Q ρ w:=
 CW.block (CW.loop (α:=Nat × σt × β) (fun x=>env x.1 x.2.1 x.2.2) (fun x w=>x.1≤n'∧eachN f x.1 (n' - x.1) x.2.1=some q∧J x.2.1 x.2.2 w) (fun x=>n' - x.1) (0,s0,b0) ha ⟨Nat.zero_le _,hq,hJ⟩ fun x σ w h=>round x.1 x.2.1 x.2.2 σ w h.1 h.2.1 h.2.2)
theorem lM {σt β:Type}{ρt:Type}{f:Nat→σt→Option (σt ⊕ ρt)}{n' : Nat}{s0:σt}{q:σt ⊕ ρt}{c:Code}{id:Nat}(hq:findN f 0 n' s0=some q)(env:Nat→σt→β→List (Nat × Value))(J:σt→β→World→Prop)(b0:β)(ha:agree ρ (env 0 s0 b0):=by repeat (first | exact trivial | refine⟨rfl,?_⟩))(hJ:J s0 b0 w:=by exact C0)
  (round:∀ k s b σ w,k≤n'→findN f k (n' - k) s=some q→J s b w→CW P n c (thenE (fun ρ' w'=>∃ x' : Nat × σt × β,agree ρ' (env x'.1 x'.2.1 x'.2.2)∧(x'.1≤n'∧findN f x'.1 (n' - x'.1) x'.2.1=some q∧J x'.2.1 x'.2.2 w')∧n' - x'.1 < n' - k) (blockE id Q)) (ofL σ (env k s b)) w):CW P n (.block id (.loop c)) Q ρ w:=
 CW.block (CW.loop (α:=Nat × σt × β) (fun x=>env x.1 x.2.1 x.2.2) (fun x w=>x.1≤n'∧findN f x.1 (n' - x.1) x.2.1=some q∧J x.2.1 x.2.2 w) (fun x=>n' - x.1) (0,s0,b0) ha ⟨Nat.zero_le _,hq,hJ⟩ fun x σ w h=>round x.1 x.2.1 x.2.2 σ w h.1 h.2.1 h.2.2)
theorem lI {σt β:Type}{ρt:Type}{f:σt→Option (σt ⊕ ρt)}{m0:Nat}{s0:σt}{q:ρt}{c:Code}{id:Nat}(hq:iterN f m0 s0=some q)(env:Nat→σt→β→List (Nat × Value))(J:σt→β→World→Prop)(b0:β)(ha:agree ρ (env m0 s0 b0):=by repeat (first | exact trivial | refine⟨rfl,?_⟩))(hJ:J s0 b0 w:=by exact C0)
  (round:∀ k s b σ w,iterN f k s=some q→J s b w→CW P n c (thenE (fun ρ' w'=>∃ x' : Nat × σt × β,agree ρ' (env x'.1 x'.2.1 x'.2.2)∧(iterN f x'.1 x'.2.1=some q∧J x'.2.1 x'.2.2 w')∧x'.1 < k) (blockE id Q)) (ofL σ (env k s b)) w):CW P n (.block id (.loop c)) Q ρ w:=
 CW.block (CW.loop (α:=Nat × σt × β) (fun x=>env x.1 x.2.1 x.2.2) (fun x w=>iterN f x.1 x.2.1=some q∧J x.2.1 x.2.2 w) (fun x=>x.1) (m0,s0,b0) ha ⟨hq,hJ⟩ fun x σ w h=>round x.1 x.2.1 x.2.2 σ w h.1 h.2)
theorem iE {α σt:Type}{f:Nat→α→σt→Option σt}{xs:List α}{s q:σt}{k:Nat}{c:Operand}{X Y:Code}(hq:eachL f k (xs.drop k) s=some q)(ht:k < xs.length→∀ x z,xs[k]? = some x→f k x s=some z→eachL f (k+1) (xs.drop (k+1)) z=some q→CW P n X Q ρ w)(hf:s=q→CW P n Y Q ρ w)(hc:E.ev ρ c = .bool (decide ((k:Int) < (xs.length:Int))):=by exact rfl):CW P n (.cond c X Y) Q ρ w:=CW.condD hc (fun h=>by obtain⟨x,z,h1,h2,h3⟩:=q4w hq (q0m h); exact ht (q0m h) x z h1 h2 h3) fun h=>hf (q3w hq (q0c h))
theorem iF {α σt ρt β:Type}{f:Nat→α→σt→Option (σt ⊕ ρt)}{xs:List α}{s:σt}{q:σt ⊕ ρt}{k:Nat}{c:Operand}{X Y:Code}{g1:ρt→Option β}{g2:σt→Option β}{r:Option β}(hq:findL f k (xs.drop k) s=some q)(hr:onr g1 g2 q=r)(ht:k < xs.length→∀ x z,xs[k]? = some x→f k x s=some z→(∀ s',z = .inl s'→findL f (k+1) (xs.drop (k+1)) s'=some q)→(∀ r,z = .inr r→q = .inr r)→CW P n X Q ρ w)(hf:g2 s=r→CW P n Y Q ρ w)(hc:E.ev ρ c = .bool (decide ((k:Int) < (xs.length:Int))):=by exact rfl):CW P n (.cond c X Y) Q ρ w:=CW.condD hc (fun h=>by obtain⟨x,z,h1,h2,h3,h4⟩:=q0y hq (q0m h); exact ht (q0m h) x z h1 h2 h3 h4) fun h=>hf (by have e:=q0l hq (q0c h); rw [e] at hr; exact hr)
theorem rs {α:Type} [Rep α]{xs:List α}(H:HL F0 M w0 w fr ow)(i:Nat)(hi:fr[i]? = some (Pr.S xs v):=by exact rfl):rdS (Lt w) w xs v:=H.rS hi
theorem ro {α:Type} [Sep α]{xs:List α}{e:TypeId}(H:HL F0 M w0 w fr ow)(i:Nat)(hi:ow[i]? = some (It.O e xs v):=by exact rfl):rdS (Lt w) w xs v:=H.rO hi
theorem bb {α β:Type}{G:Prop}{x:Option α}{f:α→Option β}{r:β}(h:x.bind f=some r)(k:∀ y,x=some y→f y=some r→G):G:=by obtain⟨y,h1,h2⟩:=bd h; exact k y h1 h2
theorem gg {α:Type}{G c:Prop}{i:Decidable c}{x:Option α}{r:α}(h:@grd α c i x=some r)(k:c→x=some r→G):G:=by obtain⟨h1,h2⟩:=z8E h; exact k h1 h2
theorem cE {u:Value}{K:Value→World→Prop}(H:HL F0 M w0 w fr ow)(k:∀ w',HL F0 M w0 w' fr ow→K u w'):∀ v w',Chg (fun _=>False) w w'→v=u→K v w':=fun _ w' hE e=>by subst e; exact k w' (H.ext hE)
theorem cF' {u:Value}{A:Prop}{K:Value→World→Prop}(H:HL F0 M w0 w fr ow)(k:∀ w',A→HL F0 M w0 w' fr ow→K u w'):∀ v w',Chg (fun _=>False) w w'→v=u∧A→K v w':=fun _ w' hE e=>by obtain⟨rfl,h⟩:=e; exact k w' h (H.ext hE)
theorem NI {α:Type} [Rep α]{xs:List α}{T:TypeId}{x:Operand}(H:HL F0 M w0 w fr ow)(i:Nat)(hi:fr[i]? = some (Pr.S xs v):=by exact rfl)(hg:o.guard=none:=by exact rfl)(hd:o.dst=some d:=by exact rfl)(ho:o.op = .call { callee:=.builtin .len,args:=#[x],argTypes:=#[T] }:=by exact rfl)(hT:(elemT P T).isSome=true:=by kernel_rfl)(hx:E.ev ρ x=v:=by exact rfl)(h:I64 (xs.length:Int)→WL P n ops Q rest (upd ρ d (.int .i64 (xs.length:Int))) w):WL P n ops Q (o :: rest) ρ w:=WL.ev hg hd (Ev.lenV ho (Option.some_get hT).symm hx (H.rS hi)) (h (H.rS hi).I)
abbrev pB (b:Nat):Value:=.pointer (some ⟨b,0,none⟩)
abbrev zN (k:Nat):Value:=.int .i64 (k:Int)
end
end Go.E
namespace Go.E
open Go
section
variable {P:Program}{n:Nat}{Q:Post}{ρ:Env}{w w0:World}{ops:Array Oper}{o:Oper}{rest:List Oper}{d:Nat}{v:Value}{F0:Nat→Prop}{M:List Nat}{fr:List Pr}{ow:List It}{C:World→Prop}{F:Env→Prop}
theorem BO {op:BinOp}{T U:TypeId}{x y:Operand}{u t:Value}  (hg:o.guard=none:=by exact rfl)(hd:o.dst=some d:=by exact rfl)(ho:o.op = .binOp op T x y U:=by exact rfl)(hx:E.ev ρ x=u:=by exact rfl)(hy:E.ev ρ y=t:=by exact rfl)(hb:Bin P op T u t v:=by first | exact Bin.add (by omega) | exact Bin.sub (by omega) | exact Bin.mul (by omega))(h:WL P n ops Q rest (upd ρ d v) w):WL P n ops Q (o :: rest) ρ w:=WL.ev hg hd (Ev.bin ho hx hy hb) h
end
end Go.E
namespace Go.E
section
variable {α:Type}{lt:α→α→Bool}
theorem z3z (irr:∀ a,lt a a=false)(tr:∀ a b c,lt a b=true→lt b c=true→lt a c=true) :
  ∀ {xs ys:List α},xs.Pairwise (fun a b=>lt a b=true)→ys.Pairwise (fun a b=>lt a b=true)→(∀ a,a∈xs↔a∈ys)→xs=ys
 | [],[],_,_,_=>rfl
 | [],y :: ys,_,_,h=>absurd ((h y).2 (by simp)) (by simp)
 | x :: xs,[],_,_,h=>absurd ((h x).1 (by simp)) (by simp)
 | x :: xs,y :: ys,hx,hy,h=>by
  rw [List.pairwise_cons] at hx hy
  have asym:∀ a b,lt a b=true→lt b a=true→False:=fun a b h1 h2=>by have:=tr a b a h1 h2; rw [irr] at this; cases this
  have hxy:x=y:=by
   have h1:=(h x).1 (by simp)
   have h2:=(h y).2 (by simp)
   rcases List.mem_cons.1 h1 with e | h1
   ·exact e
   rcases List.mem_cons.1 h2 with e | h2
   ·exact e.symm
   exact (asym x y (hx.1 y h2) (hy.1 x h1)).elim
  subst hxy
  congr 1
  refine z3z irr tr hx.2 hy.2 fun a=>?_
  constructor
  ·intro ha
   rcases List.mem_cons.1 ((h a).1 (by simp [ha])) with e | h1
   ·subst e; have:=hx.1 _ ha; rw [irr] at this; cases this
   ·exact h1
  ·intro ha
   rcases List.mem_cons.1 ((h a).2 (by simp [ha])) with e | h1
   ·subst e; have:=hy.1 _ ha; rw [irr] at this; cases this
   ·exact h1
theorem z6V (tr:∀ a b c,lt a b=true→lt b c=true→lt a c=true)(tot:∀ a b,lt a b=false→lt b a=false→a=b){l:List α}{o:α}{k:Nat}(hl:l.Pairwise (fun a b=>lt a b=true))
  (hb:∀ a∈l.take k,lt a o=true) (ha:∀ y,l[k]? = some y→lt y o=false∧y≠o):(l.take k++o :: l.drop k).Pairwise (fun a b=>lt a b=true):=by
 have hs:(l.take k++l.drop k).Pairwise (fun a b=>lt a b=true):=by rw [List.take_append_drop]; exact hl
 rw [List.pairwise_append] at hs
 have ho:∀ z∈l.drop k,lt o z=true:=by
  cases hd:l.drop k with
  | nil=>intro z hz; cases hz
  | cons y r=>
   have hy:l[k]? = some y:=by
    have:(l.drop k)[0]? = some y:=by rw [hd]; rfl
    simpa using this
   obtain⟨h1,h2⟩:=ha y hy
   have h3:lt o y=true:=by
    cases h:lt o y with
    | true=>rfl
    | false=>exact absurd (tot _ _ h1 h) h2
   intro z hz
   rcases List.mem_cons.1 hz with e | hz
   ·rw [e]; exact h3
   ·have:=hs.2.1; rw [hd,List.pairwise_cons] at this
    exact tr _ _ _ h3 (this.1 z hz)
 rw [List.pairwise_append,List.pairwise_cons]
 refine⟨hs.1,⟨ho,hs.2.1⟩,fun a h1 b h2=>?_⟩
 rcases List.mem_cons.1 h2 with e | h2
 ·rw [e]; exact hb a h1
 ·exact hs.2.2 a h1 b h2
end
section
variable {α:Type} [DecidableEq α]{lt:α→α→Bool}
def q1h:List α→List α
 | []=>[]
 | [x]=>[x]
 | x :: y :: l=>if x=y then q1h (y :: l) else x :: q1h (y :: l)
theorem q8E {a:α}:∀ {l:List α},a∈q1h l↔a∈l
 | []=>Iff.rfl
 | [x]=>Iff.rfl
 | x :: y :: l=>by
  unfold q1h
  have ih:=q8E (a:=a) (l:=y :: l)
  split
  ·rename_i e; subst e; rw [ih]; simp
  ·rw [List.mem_cons,ih]; simp
theorem q8F (tr:∀ a b c,lt a b=true→lt b c=true→lt a c=true)(tot:∀ a b,lt a b=false→lt b a=false→a=b) :
  ∀ {l:List α},l.Pairwise (fun a b=>lt b a=false)→(q1h l).Pairwise (fun a b=>lt a b=true)
 | [],_=>List.Pairwise.nil
 | [x],_=>by simp [q1h]
 | x :: y :: l,h=>by
  unfold q1h
  rw [List.pairwise_cons] at h
  have ih:=q8F tr tot h.2
  split
  ·exact ih
  ·rename_i hne
   rw [List.pairwise_cons]
   refine⟨fun z hz=>?_,ih⟩
   have h1:lt x y=true:=by
    cases e:lt x y with
    | true=>rfl
    | false=>exact absurd (tot _ _ e (h.1 y (by simp))) hne
   rcases List.mem_cons.1 (q8E.1 hz) with e | hz
   ·rw [e]; exact h1
   ·have h2:=(List.pairwise_cons.1 h.2).1 z hz
    cases e:lt y z with
    | true=>exact tr _ _ _ h1 e
    | false=>rw [← tot _ _ e h2]; exact h1
theorem z0a {a:α}:∀ {l:List α},q1h (l++[a])=if l.getLast? = some a then q1h l else q1h l++[a]
 | []=>by simp [q1h]
 | [x]=>by
  simp only [q1h,List.cons_append,List.nil_append,List.getLast?_singleton,Option.some.injEq]
  by_cases e:x=a
  ·subst e; simp
  ·simp [e]
 | x :: y :: l=>by
  have ih:=z0a (a:=a) (l:=y :: l)
  simp only [List.cons_append] at ih ⊢
  have e:(x :: y :: l).getLast? = (y :: l).getLast?:=by simp [List.getLast?_cons_cons]
  rw [e]
  show (if x=y then q1h (y :: (l++[a])) else x :: q1h (y :: (l++[a])))=_
  rw [ih]
  show _=if (y :: l).getLast? = some a then (if x=y then q1h (y :: l) else x :: q1h (y :: l)) else (if x=y then q1h (y :: l) else x :: q1h (y :: l))++[a]
  split<;>split<;>simp
theorem z0b {l:List α}{i:Nat}{a b:α}(ha:l[i]? = some a)(hb:l[i+1]? = some b):q1h (l.take (i+2))=if a=b then q1h (l.take (i+1)) else q1h (l.take (i+1))++[b]:=by
 have h1:l.take (i+2)=l.take (i+1)++[b]:=by rw [show i+2=(i+1)+1 from rfl,List.take_add_one,hb]; rfl
 have h2:(l.take (i+1)).getLast? = some a:=by rw [List.take_add_one,ha]; simp
 rw [h1,z0a,h2]
 by_cases e:a=b
 ·simp [e]
 ·simp [e]
end
end Go.E
