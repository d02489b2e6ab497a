/- A small engine for walks through a Go program: plain lemmas on the model, without conditions of their own. -/
import Derived.WalkKit
import Derived.Deep.Quiet
import Derived.Still
import Derived.StillTail
import Derived.Maps.AppendAt
import Derived.Laws.StructEq
import Derived.Laws.Slices
set_option linter.unusedVariables false
set_option linter.unusedSimpArgs false
set_option linter.ambiguousOpen false
set_option linter.unusedSectionVars false
set_option linter.unnecessarySimpa false
namespace Go.E
open Go
abbrev Env:=Nat→Value
def upd (ρ:Env)(d:Nat)(v:Value):Env:=fun t=>bif Nat.beq t d then v else ρ t
def put (ρ:Env):Option Nat→Value→Env
 | some d,v=>upd ρ d v
 | none,_=>ρ
def ev (ρ:Env):Operand→Value
 | .tmp t=>ρ t
 | .const v=>v
 | .global g=>.pointer (some ⟨g,0,none⟩)
 | .func f=>.func (.func f) #[] #[]
theorem q8j (ρ:Env)(d:Nat)(v:Value):upd ρ d v d=v:=by simp [upd]
theorem q4F (ρ:Env){d t:Nat}(v:Value)(h:t≠d):upd ρ d v t=ρ t:=by
 have:Nat.beq t d=false:=by
  cases hb:Nat.beq t d with
  | false=>rfl
  | true=>exact absurd (Nat.eq_of_beq_eq_true hb) h
 simp [upd,this]
structure Rel (n:Nat) (ρ:Env) (a:Act):Prop where
 size:a.tmps.size=n
 defers:a.defers=[]
 at_:∀ t,t < n→a.tmps.getD t undef=ρ t
def z5E (n:Nat):Operand→Bool
 | .tmp t=>Nat.blt t n
 | _=>true
def q5L (n:Nat)(o:Oper):Bool:=
 (match o.dst with | some d=>Nat.blt d n | none=>true)&&o.op.operands.toList.all (z5E n)&&(match o.op with | .select ..=>false | _=>true)
def q9h (n:Nat):Code→Bool
 | .skip=>true
 | .region _ ops _=>ops.toList.all (q5L n)
 | .seq a b=>q9h n a&&q9h n b
 | .cond c a b=>z5E n c&&q9h n a&&q9h n b
 | .block _ c=>q9h n c
 | .loop c=>q9h n c
 | .exit _=>true
 | .ret=>true
 | _=>false
theorem Rel.put {n:Nat}{ρ:Env}{a:Act}(h:Rel n ρ a)(dst:Option Nat)(v:Value):Rel n (E.put ρ dst v) (a.put dst v):=by
 cases dst with
 | none=>exact h
 | some d=>
  refine⟨by simp [Act.put,h.size],h.defers,fun t ht=>?_⟩
  by_cases htd:t=d
  ·subst htd
   have:t < a.tmps.size:=by rw [h.size]; exact ht
   simp [Act.put,E.put,q8j,this]
  ·rw [E.put,q4F _ _ htd,← h.at_ t ht]
   simp [Act.put,Array.getElem?_setIfInBounds_ne (Ne.symm htd)]
theorem Rel.eval {n:Nat}{ρ:Env}{a:Act}(h:Rel n ρ a){x:Operand}(hx:z5E n x=true):a.eval x=E.ev ρ x:=by
 cases x with
 | tmp t=>exact h.at_ t (by simpa [z5E] using hx)
 | const v=>rfl
 | global g=>rfl
 | func f=>rfl
abbrev Post:=Exit→Env→World→Prop
@[reducible] def lift (n:Nat) (Q:Post):Exit→Act→World→Prop:=fun e a w=>∃ ρ,Rel n ρ a∧Q e ρ w
def WL (P:Program)(n:Nat)(ops:Array Oper)(Q:Post)(rest:List Oper)(ρ:Env)(w:World):Prop:=
 rest.all (q5L n)=true→∀ a,Rel n ρ a→wpList P ops (lift n Q) rest a w
def CW (P:Program)(n:Nat)(c:Code)(Q:Post)(ρ:Env)(w:World):Prop:=
 q9h n c=true→∀ a,Rel n ρ a→c.wp P (lift n Q) a w
section
variable {P:Program}{n:Nat}{Q:Post}{ρ:Env}{w:World}
@[reducible] def z5F (K:Env→World→Prop) (Q:Post):Post
 | .normal,ρ,w=>K ρ w
 | e,ρ,w=>Q e ρ w
@[reducible] def z5G (id:Nat) (Q:Post):Post
 | .exit id',ρ,w=>if id'=id then Q .normal ρ w else Q (.exit id') ρ w
 | e,ρ,w=>Q e ρ w
theorem CW.mono {c:Code}{Q' : Post}(h:CW P n c Q ρ w)(hq:∀ e ρ w,Q e ρ w→Q' e ρ w):CW P n c Q' ρ w:=
 fun hok a ha=>Code.wp_mono (fun _ _ _ ⟨ρ,hr,q⟩=>⟨ρ,hr,hq _ _ _ q⟩) (h hok a ha)
theorem q1O (h:Q .normal ρ w):CW P n .skip Q ρ w:=fun _ _ ha=>wp_skip ⟨ρ,ha,h⟩
theorem q1w (h:Q .ret ρ w):CW P n .ret Q ρ w:=fun _ _ ha=>wp_ret ⟨ρ,ha,h⟩
theorem q1P {id:Nat}(h:Q (.exit id) ρ w):CW P n (.exit id) Q ρ w:=fun _ _ ha=>wp_exit ⟨ρ,ha,h⟩
theorem CW.seq {x y:Code}(h:CW P n x (z5F (fun ρ w=>CW P n y Q ρ w) Q) ρ w):CW P n (.seq x y) Q ρ w:=by
 intro hok a ha
 simp only [q9h,Bool.and_eq_true] at hok
 refine wp_seq (Code.wp_mono (fun e a w hq=>?_) (h hok.1 a ha))
 obtain⟨ρ',hr,hq⟩:=hq
 cases e with
 | normal=>exact hq hok.2 _ hr
 | _=>exact⟨ρ',hr,hq⟩
theorem CW.block {id:Nat}{c:Code}(h:CW P n c (z5G id Q) ρ w):CW P n (.block id c) Q ρ w:=by
 intro hok a ha
 refine wp_block (Code.wp_mono (fun e a w hq=>?_) (h hok a ha))
 obtain⟨ρ',hr,hq⟩:=hq
 cases e with
 | exit id'=>
  simp only [Exit.inBlock]
  by_cases hid:id'=id
  ·simp only [hid,if_true]; exact⟨ρ',hr,by simpa [z5G,hid] using hq⟩
  ·simp only [hid,if_false]; exact⟨ρ',hr,by simpa [z5G,hid] using hq⟩
 | _=>exact⟨ρ',hr,hq⟩
theorem q0N {c:Operand}{x y:Code}(hc:E.ev ρ c = .bool true)(h:CW P n x Q ρ w):CW P n (.cond c x y) Q ρ w:=by
 intro hok a ha
 simp only [q9h,Bool.and_eq_true] at hok
 exact wp_cond_true ((ha.eval hok.1.1).trans hc) (h hok.1.2 a ha)
theorem q0O {c:Operand}{x y:Code}(hc:E.ev ρ c = .bool false)(h:CW P n y Q ρ w):CW P n (.cond c x y) Q ρ w:=by
 intro hok a ha
 simp only [q9h,Bool.and_eq_true] at hok
 exact wp_cond_false ((ha.eval hok.1.1).trans hc) (h hok.2 a ha)
theorem q0e {c:Operand}{x y:Code}{p:Prop}[Decidable p](hc:E.ev ρ c = .bool (decide p))(ht:p→CW P n x Q ρ w)(hf:¬ p→CW P n y Q ρ w):CW P n (.cond c x y) Q ρ w:=by
 by_cases hp:p
 ·exact q0N (by rw [hc]; simp [hp]) (ht hp)
 ·exact q0O (by rw [hc]; simp [hp]) (hf hp)
theorem q1x {id:Nat}{ops:Array Oper}(h:WL P n ops Q ops.toList ρ w):CW P n (.region id ops false) Q ρ w:=by
 intro hok a ha
 exact wp_region_list (h (by simpa [q9h] using hok) a ha)
def ofL (σ:Env):List (Nat × Value)→Env
 | []=>σ
 | (t,v) :: l=>upd (ofL σ l) t v
def q4R (ρ:Env):List (Nat × Value)→Prop
 | []=>True
 | (t,v) :: l=>ρ t=v∧q4R ρ l
theorem z8l {ρ:Env}:∀ {l:List (Nat × Value)},q4R ρ l→ofL ρ l=ρ
 | [],_=>rfl
 | (t,v) :: l,h=>by
  have ih:=z8l h.2
  funext s
  simp only [ofL]
  by_cases hs:s=t
  ·subst hs; rw [q8j]; exact h.1.symm
  ·rw [q4F _ _ hs,ih]
theorem CW.loop {α:Type}{c:Code}(env:α→List (Nat × Value))(I:α→World→Prop)(μ:α→Nat)(x0:α)(h0:q4R ρ (env x0))(hI:I x0 w)
  (round:∀ x σ w,I x w→CW P n c (z5F (fun ρ' w'=>∃ x',q4R ρ' (env x')∧I x' w'∧μ x' < μ x) Q) (ofL σ (env x)) w):CW P n (.loop c) Q ρ w:=by
 intro hok a ha b k cs
 have key:∀ (m:Nat) (x:α) (ρ:Env) (a:Act) (w:World),μ x=m→Rel n ρ a→q4R ρ (env x)→I x w →
   ∃ e a' w',lift n Q e a' w'∧Arrives P (lone (b.at a (.code c :: .inLoop c :: k)) cs w) b k cs e a' w':=by
  intro m
  induction m using Nat.strongRecOn with
  | _ m ih=>
   intro x ρ a w hm ha hag hi
   obtain⟨e,a₁,w₁,⟨ρ₁,hr₁,hq⟩,harr⟩:=round x ρ w hi hok a (by rw [z8l hag]; exact ha) b (.inLoop c :: k) cs
   cases e with
   | normal=>
    obtain⟨x',hag',hi',hlt⟩:=hq
    obtain⟨e₂,a₂,w₂,hq₂,harr₂⟩:=ih (μ x') (hm▸hlt) x' ρ₁ a₁ w₁ rfl hr₁ hag' hi'
    exact⟨e₂,a₂,w₂,hq₂,.of_steps (Steps.trans harr (.one step_inLoop)) harr₂⟩
   | exit id=>exact⟨_,a₁,w₁,⟨ρ₁,hr₁,hq⟩,.pass (x:=.inLoop c) rfl (fun _ _=>.inl (by simp)) harr⟩
   | goto l=>exact⟨_,a₁,w₁,⟨ρ₁,hr₁,hq⟩,.pass (x:=.inLoop c) rfl (fun _ _=>.inl (by simp)) harr⟩
   | ret=>exact⟨_,a₁,w₁,⟨ρ₁,hr₁,hq⟩,.pass (x:=.inLoop c) rfl (fun _ _=>.inl (by simp)) harr⟩
   | panic ch=>exact⟨_,a₁,w₁,⟨ρ₁,hr₁,hq⟩,.pass (x:=.inLoop c) rfl (fun _ _=>.inl (by simp)) harr⟩
   | outgrown=>exact⟨_,a₁,w₁,⟨ρ₁,hr₁,hq⟩,.pass (x:=.inLoop c) rfl (fun _ _=>.inl (by simp)) harr⟩
 obtain⟨e,a',w',hq,harr⟩:=key _ x0 ρ a w rfl ha h0 hI
 exact⟨e,a',w',hq,.of_steps (.one step_loop) harr⟩
def Ev (P:Program)(ρ:Env)(o:Oper)(w:World)(v:Value):Prop:=(execOp (E.ev ρ) o).run P w = .ok (.value v) w
theorem q4n {a:Act}(ha:Rel n ρ a){o:Oper}(ho:q5L n o=true):execOp a.eval o=execOp (E.ev ρ) o:=by
 simp only [q5L,Bool.and_eq_true] at ho
 refine execOp_congr o (fun cs b hs=>?_) fun x hx=>ha.eval ?_
 ·simp [hs] at ho
 ·exact List.all_eq_true.1 ho.1.2 x (by simpa using hx)
def gate (ops:Array Oper)(ρ:Env)(o:Oper):Bool:=
 match o.guard with
 | none=>true
 | some (j,want)=>match (ops[j]?).bind (·.dst) with
  | some d=>match ρ d with | .bool b=>b == want | _=>false
  | none=>false
def q7t (n:Nat)(ops:Array Oper):Bool:=ops.toList.all fun o=>match o.dst with | some d=>Nat.blt d n | none=>true
theorem q9k {ops:Array Oper}(hg:q7t n ops=true){a:Act}(ha:Rel n ρ a)(o:Oper):Region.wanted o (yielded ops a.tmps)=gate ops ρ o:=by
 unfold Region.wanted gate yielded
 cases hgd:o.guard with
 | none=>rfl
 | some jw=>
  obtain⟨j,want⟩:=jw
  simp only
  cases hj:ops[j]? with
  | none=>simp
  | some oj=>
   cases hd:oj.dst with
   | none=>simp [hd]
   | some d=>
    have hdn:d < n:=by
     have:=List.all_eq_true.1 hg oj (by rw [Array.mem_toList_iff]; exact Array.mem_of_getElem? hj)
     simpa [hd] using this
    have hval:a.tmps[d]? = some (ρ d):=by
     have h1:=ha.at_ d hdn
     have h2:d < a.tmps.size:=by rw [ha.size]; exact hdn
     simp only [Array.getD_eq_getD_getElem?,Array.getElem?_eq_getElem h2,Option.getD_some] at h1
     rw [Array.getElem?_eq_getElem h2,h1]
    simp only [Option.bind_some,hd,hval]
    cases ρ d<;>simp<;>rfl
theorem WL.nil {ops:Array Oper}(h:Q .normal ρ w):WL P n ops Q [] ρ w:=fun _ _ ha=>wpList_nil ⟨ρ,ha,h⟩
theorem q0v {ops:Array Oper}{o:Oper}{rest:List Oper}(hg:o.guard=none)
  (h:∀ (a:Act) (K:Act→World→Prop),Rel n ρ a→q5L n o=true→(∀ v w',WL P n ops Q rest (E.put ρ o.dst v) w'→K (a.put o.dst v) w')→o.wp P a w K (lift n Q)):WL P n ops Q (o :: rest) ρ w:=by
 intro hok a ha
 simp only [List.all_cons,Bool.and_eq_true] at hok
 refine wpList_plain hg fun K hK=>h a K ha hok.1 fun v w' hv=>?_
 exact hK _ _ (hv hok.2 _ (ha.put _ _))
theorem q0b {ops:Array Oper}{o:Oper}{rest:List Oper}{d:Nat}{v:Value}(hg:o.guard=none)(hd:o.dst=some d)(he:Ev P ρ o w v)(h:WL P n ops Q rest (upd ρ d v) w):WL P n ops Q (o :: rest) ρ w:=
 q0v hg fun a K ha hok hK=>by
  unfold Oper.wp
  rw [q4n ha hok,he]
  exact hK _ _ (by rw [hd]; exact h)
theorem WL.on {ops:Array Oper}{o:Oper}{rest:List Oper}(hG:q7t n ops=true)(hg:gate ops ρ o=true)(h:WL P n ops Q ({ o with guard:=none } :: rest) ρ w):WL P n ops Q (o :: rest) ρ w:=by
 intro hok a ha
 have h':=h (by simpa [q5L] using hok) a ha
 unfold wpList at h' ⊢
 rw [if_pos (by simp [Region.wanted])] at h'
 rw [if_pos (by rw [q9k hG ha]; exact hg)]
 exact h'
theorem q2d {ops:Array Oper}{o:Oper}{rest:List Oper}{d:Nat}(hG:q7t n ops=true)(hg:gate ops ρ o=false)(hd:o.dst=some d)(h:WL P n ops Q rest (upd ρ d undef) w):WL P n ops Q (o :: rest) ρ w:=by
 intro hok a ha
 simp only [List.all_cons,Bool.and_eq_true] at hok
 unfold wpList
 rw [if_neg (by rw [q9k hG ha,hg]; decide)]
 have h' : WL P n ops Q rest (E.put ρ o.dst undef) w:=by rw [hd]; exact h
 exact h' hok.2 _ (ha.put _ _)
end
end Go.E
namespace Go.E
open Go
structure Chg (M:Nat→Prop) (w w' : World):Prop where
 os:w'.os=w.os
 tape:w'.tape=w.tape
 output:w'.output=w.output
 size:w.heap.size≤w'.heap.size
 block:∀ k,k < w.heap.size→¬ M k→w'.heap[k]? = w.heap[k]?
abbrev Ext (w w' : World):Prop:=Chg (fun _=>False) w w'
theorem Chg.refl {M:Nat→Prop}(w:World):Chg M w w:=⟨rfl,rfl,rfl,Nat.le_refl _,fun _ _ _=>rfl⟩
theorem Ext.refl (w:World):Ext w w:=Chg.refl w
theorem Chg.trans {M:Nat→Prop}{a b c:World}(h:Chg M a b)(k:Chg M b c):Chg M a c:=
 ⟨k.os.trans h.os,k.tape.trans h.tape,k.output.trans h.output,Nat.le_trans h.size k.size,fun i hi hm=>(k.block i (Nat.lt_of_lt_of_le hi h.size) hm).trans (h.block i hi hm)⟩
theorem Chg.mono {M M' : Nat→Prop}{a b:World}(h:Chg M a b)(hm:∀ k,k < a.heap.size→M k→M' k):Chg M' a b:=
 ⟨h.os,h.tape,h.output,h.size,fun i hi hn=>h.block i hi fun hM=>hn (hm i hi hM)⟩
theorem Chg.of_ext {M:Nat→Prop}{a b:World}(h:Ext a b):Chg M a b:=h.mono fun _ _ hf=>hf.elim
theorem Chg.trans_ext {M:Nat→Prop}{a b c:World}(h:Chg M a b)(k:Ext b c):Chg M a c:=h.trans (.of_ext k)
theorem Ext.below {a b:World}(h:Ext a b):RowKit.Below a.heap.size a b:=⟨h.os,h.tape,h.output,h.size,fun k hk=>h.block k hk id⟩
theorem Ext.alloc (w:World)(o:Obj):Ext w (w.alloc o):=⟨rfl,rfl,rfl,by simp,fun k hk _=>heap_alloc_old w o hk⟩
theorem Ext.drew (w:World):Ext w w.drew:=⟨rfl,rfl,rfl,Nat.le_refl _,fun _ _ _=>rfl⟩
theorem Ext.drawn (w:World)(k:Nat):Ext w { w with drawn:=k }:=⟨rfl,rfl,rfl,Nat.le_refl _,fun _ _ _=>rfl⟩
def Blk (w:World)(b:Nat)(T:TypeId)(cs:List Value):Prop:=w.heap[b]? = some (.cells cs.toArray T (0,0))
theorem Blk.lt {w:World}{b:Nat}{T:TypeId}{cs:List Value}(h:Blk w b T cs):b < w.heap.size:=by
 rcases Nat.lt_or_ge b w.heap.size with hlt | hge
 ·exact hlt
 ·unfold Blk at h; rw [Array.getElem?_eq_none hge] at h; cases h
theorem Blk.chg {M:Nat→Prop}{w w' : World}{b:Nat}{T:TypeId}{cs:List Value}(h:Blk w b T cs)(hc:Chg M w w')(hm:¬ M b):Blk w' b T cs:=(hc.block b h.lt hm).trans h
theorem Blk.ext {w w' : World}{b:Nat}{T:TypeId}{cs:List Value}(h:Blk w b T cs)(hc:Ext w w'):Blk w' b T cs:=h.chg hc id
def At (w:World)(b o:Nat)(cs:List Value):Prop:=∀ j v,cs[j]? = some v→w.cell? ⟨b,o+j,none⟩=some v
theorem At.ofBlk {w:World}{b:Nat}{T:TypeId}{cs:List Value}(h:Blk w b T cs)(o:Nat)(l:List Value)(hl:∀ j v,l[j]? = some v→cs[o+j]? = some v):At w b o l:=by
 intro j v hv
 rw [cell_of_row w b (o+j) _ T (0,0) h]
 simpa using hl j v hv
theorem At.blk {w:World}{b:Nat}{T:TypeId}{cs:List Value}(h:Blk w b T cs):At w b 0 cs:=At.ofBlk h 0 cs fun j v hv=>by simpa using hv
theorem Blk.cell {w:World}{b:Nat}{T:TypeId}{cs:List Value}(h:Blk w b T cs){i:Nat}{v:Value}(hv:cs[i]? = some v):w.cell? ⟨b,i,none⟩=some v:=by
 rw [cell_of_row w b i _ T (0,0) h]; simpa using hv
theorem At.cell {w:World}{b o:Nat}{cs:List Value}(h:At w b o cs){j:Nat}{v:Value}(hv:cs[j]? = some v):w.cell? ⟨b,o+j,none⟩=some v:=h j v hv
theorem At.sub {w:World}{b o:Nat}{cs:List Value}(h:At w b o cs)(j:Nat)(l:List Value)(hl:∀ i v,l[i]? = some v→cs[j+i]? = some v):At w b (o+j) l:=fun i v hv=>by
 have:=h (j+i) v (hl i v hv)
 rwa [← Nat.add_assoc] at this
theorem At.frame {w w' : World}{b o:Nat}{cs:List Value}(h:At w b o cs)(hb:w'.heap[b]? = w.heap[b]?):At w' b o cs:=fun j v hv=>by
 rw [World.cell?_of_block (w:=w) hb]; exact h j v hv
def szT (P:Program)(T:TypeId):Option Nat:=(P.info? T).map (·.size)
def byT (P:Program)(T:TypeId):Option Nat:=(P.info? T).map (·.bytes)
def q6d (P:Program)(T:TypeId):Option (List Value):=((P.info? T).bind (·.zero)).map (·.cells.toList)
def aggT (P:Program)(T:TypeId):Option Bool:=(P.underlying T).map fun | .struct _ | .array ..=>true | _=>false
def q4Y (P:Program)(T:TypeId):Option TypeId:=match P.underlying T with | some (.slice e)=>some e | _=>none
def q7u (P:Program)(T:TypeId)(i:Nat):Option Nat:=match P.underlying T with
 | some (.struct fs)=>(fs[i]?).bind fun f=>match szT P f.type with | some (_+1)=>some f.offset | _=>none
 | _=>none
section
variable {P:Program}{ρ:Env}{w:World}{o:Oper}
theorem q4M {T k:Nat}(h:szT P T=some k):(sizeOf T).run P w = .ok k w:=by
 unfold szT at h
 cases hi:P.info? T with
 | none=>simp [hi] at h
 | some i=>simp [hi] at h; simp [sizeOf,typeInfo,hi,h]
theorem q5f {T e:Nat}(h:q4Y P T=some e):P.underlying T=some (.slice e):=by
 unfold q4Y at h
 split at h
 ·rename_i e' he; cases h; exact he
 ·cases h
theorem q0j {x:Operand}{v:Value}(ho:o.op = .move x)(hx:E.ev ρ x=v):Ev P ρ o w v:=by
 simp [Ev,execOp,ho,hx]
theorem q1m {x:Operand}{v:Value}(ho:o.op = .assign x)(hx:E.ev ρ x=v):Ev P ρ o w v:=by
 simp [Ev,execOp,ho,hx]
theorem q1y {c x y:Operand}{b:Bool}{v u:Value}(ho:o.op = .pick c x y)(hc:E.ev ρ c = .bool b)(hx:E.ev ρ x=v)(hy:E.ev ρ y=u):Ev P ρ o w (if b then v else u):=by
 simp [Ev,execOp,ho,hc,hx,hy,asBool]
theorem q0m {T:TypeId}{x:Operand}{i k:Nat}{b off:Nat}(ho:o.op = .fieldAddr T x i)(hT:q7u P T i=some k)(hx:E.ev ρ x = .pointer (some ⟨b,off,none⟩)) :
  Ev P ρ o w (.pointer (some ⟨b,off+k,none⟩)):=by
 unfold q7u at hT
 split at hT
 ·rename_i fs hfs
  cases hf:fs[i]? with
  | none=>simp [hf] at hT
  | some f=>
   simp only [hf,Option.bind_some] at hT
   split at hT
   ·rename_i m hsz
    cases hT
    have hadd:(⟨b,off,none⟩:Addr).add f.offset=⟨b,off+f.offset,none⟩:=by unfold Addr.add; split<;>simp_all
    simp [Ev,execOp,ho,hx,Instr.fieldAt,run_underlying hfs,hf,Instr.sureAddr,fieldPlace,q4M hsz,hadd]
   ·cases hT
 ·cases hT
theorem Ev.ix {T e k:TypeId}{x i:Operand}{b off n c:Nat}{q:IntKind}{j:Nat}(ho:o.op = .indexAddr T x i)(hT:q4Y P T=some e)(hk:szT P e=some k)
  (hx:E.ev ρ x = .slice (some ⟨b,off,none⟩) n c) (hi:E.ev ρ i = .int q (j:Int)) (hj:j < n):Ev P ρ o w (.pointer (some ⟨b,off+j*k,none⟩)):=by
 have hadd:(⟨b,off,none⟩:Addr).add (j*k)=⟨b,off+j*k,none⟩:=by unfold Addr.add; split<;>simp_all
 have h0:¬ n≤j:=by omega
 simp [Ev,execOp,ho,hx,hi,Instr.indexAt,asIntOf,run_underlying (q5f hT),hj,q4M hk,hadd]
theorem z3z {T:TypeId}{b:Bool}(h:aggT P T=some b):(isAgg T).run P w = .ok b w:=by
 unfold aggT at h
 cases hd:P.underlying T with
 | none=>simp [hd] at h
 | some d=>
  simp only [hd,Option.map_some,Option.some.injEq] at h
  subst h
  simp only [isAgg,Sem.run_bind,run_underlying hd,Result.andThen_ok]
  cases d<;>simp
theorem q7K {b off:Nat}:∀ (cs:List Value) (i:Nat) (acc:Array Value),At w b (off+i) cs→(loadCellsFrom ⟨b,off,none⟩ i cs.length acc).run P w = .ok (acc++cs.toArray) w
 | [],i,acc,_=>by simp [loadCellsFrom]
 | c :: cs,i,acc,h=>by
  have hadd:(⟨b,off,none⟩:Addr).add i=⟨b,off+i,none⟩:=by unfold Addr.add; split<;>simp_all
  have hc:w.cell? ⟨b,off+i,none⟩=some c:=h 0 c rfl
  have ih:=q7K cs (i+1) (acc.push c) (by
   have:=h.sub 1 cs (fun j v hv=>by rw [Nat.add_comm]; simpa using hv)
   rwa [Nat.add_assoc] at this)
  simp only [List.length_cons,loadCellsFrom,Sem.run_bind,hadd]
  rw [show (load ⟨b,off+i,none⟩).run P w = .ok c w by simp [load,Sem.run,hc]]
  simp only [Result.andThen_ok,ih]
  simp
theorem q0h {T:TypeId}{x:Operand}{a:Addr}{v:Value}(ho:o.op = .load T x)(hT:aggT P T=some false)(hx:E.ev ρ x = .pointer (some a))(hc:w.cell? a=some v):Ev P ρ o w v:=by
 simp [Ev,execOp,ho,hx,Instr.loadAt,Instr.sureAddr,loadVar,z3z hT,load,Sem.run,hc]
theorem q0c {T:TypeId}{x:Operand}{b off k:Nat}{cs:List Value}(ho:o.op = .load T x)(hT:aggT P T=some true)(hk:szT P T=some k)(hx:E.ev ρ x = .pointer (some ⟨b,off,none⟩))
  (hc:At w b off cs) (hl:cs.length=k):Ev P ρ o w (.agg cs.toArray):=by
 subst hl
 have:=q7K (P:=P) (w:=w) (b:=b) (off:=off) cs 0 #[] hc
 simp [Ev,execOp,ho,hx,Instr.loadAt,Instr.sureAddr,loadVar,z3z hT,q4M hk,loadCells,this]
theorem q1Q {T e:TypeId}{x:Operand}{A:Option Addr}{n c:Nat}(ho:o.op = .call { callee:=.builtin .len,args:=#[x],argTypes:=#[T] })(hT:q4Y P T=some e)(hx:E.ev ρ x = .slice A n c):Ev P ρ o w (.int .i64 n):=by
 simp [Ev,execOp,ho,hx,resolve,invoke,builtin,Builtin.len_,run_underlying (q5f hT),goInt]
theorem q0w {T:TypeId}{x:Operand}{s:ByteArray}(ho:o.op = .call { callee:=.builtin .len,args:=#[x],argTypes:=#[T] })(hT:P.underlying T=some .string)(hx:E.ev ρ x = .string s):Ev P ρ o w (.int .i64 s.size):=by
 simp [Ev,execOp,ho,hx,resolve,invoke,builtin,Builtin.len_,run_underlying hT,goInt]
theorem q1n {T:TypeId}{x:Operand}{b:Bool}(ho:o.op = .unOp .not T x)(hx:E.ev ρ x = .bool b):Ev P ρ o w (.bool (!b)):=by
 simp [Ev,execOp,ho,hx,Op.unary]
theorem q2e {fn:Fn}{f c:Array Operand}{vs us:Array Value}(ho:o.op = .makeFunc fn f c)(hf:f.map (E.ev ρ)=vs)(hc:c.map (E.ev ρ)=us):Ev P ρ o w (.func fn vs us):=by
 simp [Ev,execOp,ho,hf,hc,Instr.makeFunc]
def Bin (P:Program)(op:BinOp)(T:TypeId)(u v r:Value):Prop:=∀ (x y:Operand) (w:World),((do eqGuard op T x y u v; binOp op T u v):Sem Value).run P w = .ok r w
theorem q0J {op:BinOp}{T U:TypeId}{x y:Operand}{u v r:Value}(ho:o.op = .binOp op T x y U)(hx:E.ev ρ x=u)(hy:E.ev ρ y=v)(h:Bin P op T u v r):Ev P ρ o w r:=by
 simp only [Ev,execOp,ho,hx,hy,Sem.run_bind]
 have:=h x y w
 simp only [Sem.run_bind] at this
 rw [this]
 simp
theorem q8A {op:BinOp}{T:TypeId}{x y:Operand}{k k' : IntKind}{a b:Int}:eqGuard op T x y (.int k a) (.int k' b)=pure ():=by
 cases op<;>simp [eqGuard]<;>rfl
theorem Bin.add {T:TypeId}{a b:Int}(h:-9223372036854775808≤a+b∧a+b≤9223372036854775807):Bin P .add T (.int .i64 a) (.int .i64 b) (.int .i64 (a+b)):=fun x y w=>by
 simp [q8A,binOp,Op.intArith,IntWalk.i64_in _ h]
theorem Bin.sub {T:TypeId}{a b:Int}(h:-9223372036854775808≤a - b∧a - b≤9223372036854775807):Bin P .sub T (.int .i64 a) (.int .i64 b) (.int .i64 (a - b)):=fun x y w=>by
 simp [q8A,binOp,Op.intArith,IntWalk.i64_in _ h]
theorem q1c {T:TypeId}{k:IntKind}{a b:Int}:Bin P .lss T (.int k a) (.int k b) (.bool (decide (a < b))):=fun x y w=>by simp [q8A,binOp,Op.intCmp]
theorem q1r {T:TypeId}{k:IntKind}{a b:Int}:Bin P .leq T (.int k a) (.int k b) (.bool (decide (a≤b))):=fun x y w=>by simp [q8A,binOp,Op.intCmp]
theorem q1s {T:TypeId}{k:IntKind}{a b:Int}:Bin P .gtr T (.int k a) (.int k b) (.bool (decide (b < a))):=fun x y w=>by simp [q8A,binOp,Op.intCmp]
theorem q1t {T:TypeId}{k:IntKind}{a b:Int}:Bin P .geq T (.int k a) (.int k b) (.bool (decide (b≤a))):=fun x y w=>by simp [q8A,binOp,Op.intCmp]
theorem q1u {T:TypeId}{k:IntKind}{a b:Int}:Bin P .eql T (.int k a) (.int k b) (.bool (decide (a=b))):=fun x y w=>by simp [q8A,binOp,Op.intCmp]; rfl
theorem q0U {T:TypeId}{k:IntKind}{a b:Int}:Bin P .neq T (.int k a) (.int k b) (.bool (!decide (a=b))):=fun x y w=>by simp [q8A,binOp,Op.intCmp]; rfl
theorem beqS (s t:ByteArray):(s.toList == t.toList)=decide (s=t):=by
 rw [ByteArray.toList_eq,ByteArray.toList_eq]
 obtain⟨⟨x⟩⟩:=s
 obtain⟨⟨y⟩⟩:=t
 by_cases h:x=y
 ·subst h; simp
 ·simp [h]
theorem z8u {op:BinOp}{T:TypeId}{x y:Operand}{a b:ByteArray}:eqGuard op T x y (.string a) (.string b)=pure ():=by
 cases op<;>simp [eqGuard]<;>rfl
theorem q1d {T:TypeId}{a b:ByteArray}:Bin P .eql T (.string a) (.string b) (.bool (decide (a=b))):=fun x y w=>by simp [z8u,binOp,Op.stringOp,beqS]
theorem q1e {T:TypeId}{a b:ByteArray}:Bin P .neq T (.string a) (.string b) (.bool (!decide (a=b))):=fun x y w=>by simp [z8u,binOp,Op.stringOp,beqS]
end
end Go.E
namespace Go.E
open Go
theorem At.lt {w:World}{b o:Nat}{cs:List Value}(h:At w b o cs){j:Nat}{v:Value}(hv:cs[j]? = some v):b < w.heap.size:=
 World.block_lt_of_cell? w _ (h j v hv)
theorem At.frame' {w w' : World}{b o:Nat}{cs:List Value}(h:At w b o cs)(hb:b < w.heap.size→w'.heap[b]? = w.heap[b]?):At w' b o cs:=fun j v hv=>by
 rw [World.cell?_of_block (w:=w) (hb (h.lt hv))]; exact h j v hv
theorem At.chg {M:Nat→Prop}{w w' : World}{b o:Nat}{cs:List Value}(h:At w b o cs)(hc:Chg M w w')(hm:¬ M b):At w' b o cs:=h.frame' fun hb=>hc.block b hb hm
theorem At.ext {w w' : World}{b o:Nat}{cs:List Value}(h:At w b o cs)(hc:Ext w w'):At w' b o cs:=h.chg hc id
class Rep (α:Type) where
 sz:Nat
 pos:0 < sz
 rd:(Nat→Prop)→World→α→List Value→Prop
 len:∀ {S w x cs},rd S w x cs→cs.length=sz
 one:∀ {S w x cs},rd S w x cs→∀ v∈cs,v.oneCell'=true
 mono:∀ {S S' w x cs},rd S w x cs→(∀ b,S b→S' b)→rd S' w x cs
 frame:∀ {S w w' x cs},rd S w x cs→(∀ b,S b→b < w.heap.size→w'.heap[b]? = w.heap[b]?)→rd S w' x cs
 bound:∀ {S w x cs},rd S w x cs→rd (fun b=>S b∧b < w.heap.size) w x cs
open Rep (rd)
instance:Rep Int where
 sz:=1
 pos:=by decide
 rd _ _ x cs:=cs=[.int .i64 x]∧-9223372036854775808≤x∧x≤9223372036854775807
 len h:=by rw [h.1]; rfl
 one h:=by rw [h.1]; simp [Value.oneCell']
 mono h _:=h
 frame h _:=h
 bound h:=h
instance:Rep Bool where
 sz:=1
 pos:=by decide
 rd _ _ x cs:=cs=[.bool x]
 len h:=by rw [h]; rfl
 one h:=by rw [h]; simp [Value.oneCell']
 mono h _:=h
 frame h _:=h
 bound h:=h
instance:Rep ByteArray where
 sz:=1
 pos:=by decide
 rd _ _ x cs:=cs=[.string x]∧x.size≤9223372036854775807
 len h:=by rw [h.1]; rfl
 one h:=by rw [h.1]; simp [Value.oneCell']
 mono h _:=h
 frame h _:=h
 bound h:=h
def rdL {α:Type}[Rep α](S:Nat→Prop)(w:World):List α→List Value→Prop
 | [],cs=>cs=[]
 | x :: xs,cs=>∃ c r,cs=c++r∧rd S w x c∧rdL S w xs r
section
variable {α:Type}[Rep α]{S S' : Nat→Prop}{w w' : World}
theorem rdL.len:∀ {xs:List α} {cs:List Value},rdL S w xs cs→cs.length=xs.length*Rep.sz α
 | [],_,h=>by rw [h]; simp
 | x :: xs,_,⟨c,r,rfl,hc,hr⟩=>by simp [Rep.len hc,rdL.len hr,Nat.add_mul]; omega
theorem rdL.one:∀ {xs:List α} {cs:List Value},rdL S w xs cs→∀ v∈cs,v.oneCell'=true
 | [],_,h=>by rw [h]; simp
 | x :: xs,_,⟨c,r,rfl,hc,hr⟩=>fun v hv=>by
  rcases List.mem_append.1 hv with h | h
  ·exact Rep.one hc v h
  ·exact rdL.one hr v h
theorem rdL.mono (hS:∀ b,S b→S' b):∀ {xs:List α} {cs:List Value},rdL S w xs cs→rdL S' w xs cs
 | [],_,h=>h
 | _ :: _,_,⟨c,r,e,hc,hr⟩=>⟨c,r,e,Rep.mono hc hS,rdL.mono hS hr⟩
theorem rdL.frame (hf:∀ b,S b→b < w.heap.size→w'.heap[b]? = w.heap[b]?):∀ {xs:List α} {cs:List Value},rdL S w xs cs→rdL S w' xs cs
 | [],_,h=>h
 | _ :: _,_,⟨c,r,e,hc,hr⟩=>⟨c,r,e,Rep.frame hc hf,rdL.frame hf hr⟩
theorem rdL.bound:∀ {xs:List α} {cs:List Value},rdL S w xs cs→rdL (fun b=>S b∧b < w.heap.size) w xs cs
 | [],_,h=>h
 | _ :: _,_,⟨c,r,e,hc,hr⟩=>⟨c,r,e,Rep.bound hc,rdL.bound hr⟩
theorem rdL.append:∀ {xs ys:List α} {cs ds:List Value},rdL S w xs cs→rdL S w ys ds→rdL S w (xs++ys) (cs++ds)
 | [],ys,_,ds,h,h2=>by rw [show _=[] from h]; simpa using h2
 | x :: xs,ys,_,ds,⟨c,r,rfl,hc,hr⟩,h2=>⟨c,r++ds,by simp,hc,rdL.append hr h2⟩
theorem rdL.single {x:α}{c:List Value}(h:rd S w x c):rdL S w [x] c:=⟨c,[],by simp,h,rfl⟩
theorem rdL.get:∀ {xs:List α} {cs:List Value},rdL S w xs cs→∀ i (hi:i < xs.length),∃ c,rd S w xs[i] c∧∀ j v,c[j]? = some v→cs[i*Rep.sz α+j]? = some v
 | x :: xs,_,⟨c,r,rfl,hc,hr⟩,0,_=>⟨c,hc,fun j v hv=>by
   have hj:j < c.length:=(List.getElem?_eq_some_iff.1 hv).1
   rw [Nat.zero_mul,Nat.zero_add,List.getElem?_append_left hj]; exact hv⟩
 | x :: xs,_,⟨c,r,rfl,hc,hr⟩,i+1,hi=>by
   obtain⟨c',hc',hat⟩:=rdL.get hr i (by simpa using hi)
   refine⟨c',hc',fun j v hv=>?_⟩
   have hl:=Rep.len hc
   have hm:(i+1)*Rep.sz α=Rep.sz α+i*Rep.sz α:=by rw [Nat.add_mul]; omega
   rw [List.getElem?_append_right (by omega)]
   have h2:=hat j v hv
   rw [show (i+1)*Rep.sz α+j - c.length=i*Rep.sz α+j by omega]
   exact h2
theorem rdL.take {xs:List α}{cs:List Value}(h:rdL S w xs cs):∀ k,rdL S w (xs.take k) (cs.take (k*Rep.sz α)):=by
 intro k
 induction xs generalizing cs k with
 | nil=>rw [show cs=[] from h]; simp [rdL]
 | cons x xs ih=>
  obtain⟨c,r,rfl,hc,hr⟩:=h
  cases k with
  | zero=>simp [rdL]
  | succ k=>
   refine⟨c,r.take (k*Rep.sz α),?_,hc,ih hr k⟩
   have hl:=Rep.len hc
   have hm:(k+1)*Rep.sz α=c.length+k*Rep.sz α:=by rw [hl,Nat.add_mul]; omega
   rw [hm,List.take_length_add_append]
theorem rdL.drop {xs:List α}{cs:List Value}(h:rdL S w xs cs):∀ k,rdL S w (xs.drop k) (cs.drop (k*Rep.sz α)):=by
 intro k
 induction xs generalizing cs k with
 | nil=>rw [show cs=[] from h]; simp [rdL]
 | cons x xs ih=>
  obtain⟨c,r,rfl,hc,hr⟩:=h
  cases k with
  | zero=>exact⟨c,r,by simp,hc,hr⟩
  | succ k=>
   have hl:=Rep.len hc
   have hm:(k+1)*Rep.sz α=c.length+k*Rep.sz α:=by rw [hl,Nat.add_mul]; omega
   rw [hm,List.drop_length_add_append]
   simpa using ih hr k
end
def rdS {α:Type}[Rep α](S:Nat→Prop)(w:World)(xs:List α)(v:Value):Prop:=
 ∃ A cap cells,v = .slice A xs.length cap∧xs.length≤cap∧cap≤maxLen∧rdL S w xs cells∧(xs=[]∨∃ b o,A=some ⟨b,o,none⟩∧S b∧At w b o cells)
instance {α:Type} [Rep α]:Rep (List α) where
 sz:=1
 pos:=by decide
 rd S w xs cs:=∃ v,cs=[v]∧rdS S w xs v
 len:=by rintro S w x cs ⟨v,rfl,h⟩; rfl
 one:=by rintro S w x cs ⟨v,rfl,A,cap,cells,rfl,h⟩; simp [Value.oneCell']
 mono:=by
  rintro S S' w x cs ⟨v,rfl,A,cap,cells,rfl,h1,h2,h3,h4⟩ hS
  exact⟨_,rfl,A,cap,cells,rfl,h1,h2,h3.mono hS,h4.imp id fun ⟨b,o,e,hb,ha⟩=>⟨b,o,e,hS b hb,ha⟩⟩
 frame:=by
  rintro S w w' x cs ⟨v,rfl,A,cap,cells,rfl,h1,h2,h3,h4⟩ hf
  exact⟨_,rfl,A,cap,cells,rfl,h1,h2,h3.frame hf,h4.imp id fun ⟨b,o,e,hb,ha⟩=>⟨b,o,e,hb,ha.frame' (hf b hb)⟩⟩
 bound:=by
  rintro S w x cs ⟨v,rfl,A,cap,cells,rfl,h1,h2,h3,h4⟩
  refine⟨_,rfl,A,cap,cells,rfl,h1,h2,h3.bound,?_⟩
  rcases h4 with h4 | ⟨b,o,e,hb,ha⟩
  ·exact .inl h4
  ·by_cases hx:x=[]
   ·exact .inl hx
   ·have hl:=h3.len
    have hp:=Rep.pos (α:=α)
    have hx' : 0 < x.length:=List.length_pos_iff.2 hx
    have:0 < cells.length:=by rw [hl]; exact Nat.mul_pos hx' hp
    exact .inr ⟨b,o,e,⟨hb,ha.lt (List.getElem?_eq_getElem this)⟩,ha⟩
section
variable {α:Type}[Rep α]{S S' : Nat→Prop}{w w' : World}
theorem z1w {xs:List α}{v:Value}:rd S w xs [v]↔rdS S w xs v:=⟨fun ⟨_,e,h⟩=>by cases e; exact h,fun h=>⟨v,rfl,h⟩⟩
theorem rdS.mono {xs:List α}{v:Value}(h:rdS S w xs v)(hS:∀ b,S b→S' b):rdS S' w xs v:=z1w.1 (Rep.mono (z1w.2 h) hS)
theorem rdS.bound {xs:List α}{v:Value}(h:rdS S w xs v):rdS (fun b=>S b∧b < w.heap.size) w xs v:=z1w.1 (Rep.bound (z1w.2 h))
theorem rdS.len {xs:List α}{A:Option Addr}{n c:Nat}(h:rdS S w xs (.slice A n c)):n=xs.length:=by
 obtain⟨A',cap,cells,e,_⟩:=h; cases e; rfl
theorem rdS.cap {xs:List α}{A:Option Addr}{n c:Nat}(h:rdS S w xs (.slice A n c)):xs.length≤c∧c≤maxLen:=by
 obtain⟨A',cap,cells,e,h1,h2,_⟩:=h; cases e; exact⟨h1,h2⟩
theorem rdS.form {xs:List α}{v:Value}(h:rdS S w xs v):∃ A c,v = .slice A xs.length c∧xs.length≤c∧c≤maxLen:=by
 obtain⟨A,cap,cells,e,h1,h2,_⟩:=h; exact⟨A,cap,e,h1,h2⟩
theorem rdS.elem {xs:List α}{A:Option Addr}{n c:Nat}(h:rdS S w xs (.slice A n c)){i:Nat}(hi:i < xs.length) :
  ∃ b o cs,A=some ⟨b,o,none⟩∧S b∧rd S w xs[i] cs∧At w b (o+i*Rep.sz α) cs:=by
 obtain⟨A',cap,cells,e,h1,h2,h3,h4⟩:=h
 cases e
 rcases h4 with rfl | ⟨b,o,rfl,hb,ha⟩
 ·simp at hi
 ·obtain⟨cs,hr,hat⟩:=h3.get i hi
  exact⟨b,o,cs,rfl,hb,hr,ha.sub _ cs hat⟩
theorem rdS.nil {A:Option Addr}{c:Nat}(hc:c≤maxLen):rdS S w ([]:List α) (.slice A 0 c):=⟨A,c,[],rfl,Nat.zero_le _,hc,rfl,.inl rfl⟩
end
end Go.E
namespace Go.E
open Go
open Rep (rd)
section
variable {P:Program}{n:Nat}{Q:Post}{ρ:Env}{w:World}{ops:Array Oper}{o:Oper}{rest:List Oper}
theorem q6Y (w:World)(T:TypeId)(cs:List Value):Blk (w.alloc (.cells cs.toArray T)) w.heap.size T cs:=heap_alloc_new w _
theorem q8w (T:TypeId)(cs:List Value):(newRow T cs.toArray).run P w = .ok ⟨w.heap.size,0,none⟩ (w.alloc (.cells cs.toArray T)):=by
 rfl
theorem WL.box {T:TypeId}{x:Operand}{v:Value}{cs:List Value}{d:Nat}(hg:o.guard=none)(hd:o.dst=some d)(ho:o.op = .box T x)(hx:E.ev ρ x=v)(hc:v.cells=cs.toArray)
  (h:∀ b w',Ext w w'→w.heap.size≤b→Blk w' b T cs→WL P n ops Q rest (upd ρ d (.pointer (some ⟨b,0,none⟩))) w'):WL P n ops Q (o :: rest) ρ w:=
 q0v hg fun a K ha hok hK=>by
  unfold Oper.wp
  rw [q4n ha hok]
  simp only [execOp,ho,hx,Instr.box,newVar,hc,Sem.run_bind,q8w,Result.andThen_ok,Sem.run_pure]
  exact hK _ _ (by rw [hd]; exact h _ _ (Ext.alloc _ _) (Nat.le_refl _) (q6Y _ _ _))
theorem q6L {T:TypeId}{cs:List Value}(h:q6d P T=some cs):∃ z,(zeroValue T).run P w = .ok z w∧z.cells=cs.toArray:=by
 unfold q6d at h
 cases hi:P.info? T with
 | none=>simp [hi] at h
 | some i=>
  cases hz:i.zero with
  | none=>simp [hi,hz] at h
  | some z=>
   simp [hi,hz] at h
   exact⟨z,by simp [zeroValue,typeInfo,hi,hz],by rw [← h]⟩
theorem WL.alloc {T:TypeId}{cs:List Value}{d:Nat}(hg:o.guard=none)(hd:o.dst=some d)(ho:o.op = .alloc T)(hT:q6d P T=some cs)
  (h:∀ b w',Ext w w'→w.heap.size≤b→Blk w' b T cs→WL P n ops Q rest (upd ρ d (.pointer (some ⟨b,0,none⟩))) w'):WL P n ops Q (o :: rest) ρ w:=
 q0v hg fun a K ha hok hK=>by
  obtain⟨z,hz,hc⟩:=q6L (w:=w) hT
  unfold Oper.wp
  rw [q4n ha hok]
  simp only [execOp,ho,Instr.alloc,newVar,hz,hc,Sem.run_bind,q8w,Result.andThen_ok,Sem.run_pure]
  exact hK _ _ (by rw [hd]; exact h _ _ (Ext.alloc _ _) (Nat.le_refl _) (q6Y _ _ _))
def q3O (cs:List Value)(off:Nat)(l:List Value):List Value:=cs.take off++l++cs.drop (off+l.length)
theorem z6J (w:World)(b:Nat)(cs:Array Value):Chg (· = b) w (w.setRow b cs):=
 ⟨rfl,rfl,rfl,by simp [World.setRow],fun k _ hk=>by simp only [World.setRow,Array.getElem?_modify]; rw [if_neg (fun e=>hk e.symm)]⟩
theorem z7s {T:TypeId}{b off k:Nat}{TB:TypeId}{v:Value}{cs l:List Value}(hk:szT P T=some k)(hv:v.cells=l.toArray)(hl:l.length=k)(h1:∀ u∈l,u.oneCell'=true)
  (hb:Blk w b TB cs) (hfit:off+k≤cs.length):∃ w',(storeVar T ⟨b,off,none⟩ v).run P w = .ok () w'∧Chg (· = b) w w'∧Blk w' b TB (q3O cs off l):=by
 subst hl
 have hs:=run_storeCells_at P b off TB l 0 cs.toArray w hb (by simpa using hfit) h1
 refine⟨_,?_,z6J w b _,setRow_heap w b _ _ TB _ hb⟩
 simp only [storeVar,hv,Sem.run_bind,q4M hk,Result.andThen_ok,List.size_toArray,ne_eq,not_true_eq_false,if_false]
 simpa [q3O,Sem.run_bind] using hs
theorem WL.st {T:TypeId}{x y:Operand}{b off k:Nat}{TB:TypeId}{v:Value}{cs l:List Value}(hg:o.guard=none)(hd:o.dst=none)(ho:o.op = .store T x y)(hk:szT P T=some k)(hx:E.ev ρ x = .pointer (some ⟨b,off,none⟩))
  (hy:E.ev ρ y=v) (hv:v.cells=l.toArray) (hl:l.length=k) (h1:∀ u∈l,u.oneCell'=true) (hb:Blk w b TB cs) (hfit:off+k≤cs.length)
  (h:∀ w',Chg (· = b) w w'→Blk w' b TB (q3O cs off l)→WL P n ops Q rest ρ w'):WL P n ops Q (o :: rest) ρ w:=
 q0v hg fun a K ha hok hK=>by
  obtain⟨w',hr,hc,hb'⟩:=z7s hk hv hl h1 hb hfit
  unfold Oper.wp
  rw [q4n ha hok]
  simp only [execOp,ho,hx,hy,Instr.storeAt,Instr.sureAddr,Sem.run_bind,Sem.run_pure,Result.andThen_ok,hr]
  exact hK _ _ (by rw [hd]; exact h _ hc hb')
def q2p (P:Program)(f:FuncId):Bool:=match P.funcs[f]? with | some fn=>fn.name != "runtime.NumGoroutine" && fn.body.isSome | none=>false
def Ret (P:Program)(f:FuncId)(args:Array Value)(w:World)(M:Nat→Prop)(R:Value→World→Prop):Prop:=
 Calls P f args w fun e w'=>∃ v,e = .returned v∧Chg M w w'∧R v w'
theorem Ret.mono {f:FuncId}{args:Array Value}{M:Nat→Prop}{R R' : Value→World→Prop}(h:Ret P f args w M R)(hr:∀ v w',Chg M w w'→R v w'→R' v w'):Ret P f args w M R':=
 Calls.mono h fun _ _ ⟨v,he,hc,h1⟩=>⟨v,he,hc,hr v _ hc h1⟩
theorem j1L {f:FuncId}(hf:q2p P f=true)(args:Array Value):(callFunc f args).run P w = .ok (.enter f args) w:=by
 unfold q2p at hf
 cases h:P.funcs[f]? with
 | none=>simp [h] at hf
 | some fn=>
  simp only [h,Bool.and_eq_true] at hf
  have h1:¬ fn.name = "runtime.NumGoroutine" := by simpa using hf.1
  have h2:¬ fn.body=none:=by intro hb; simp [hb] at hf
  simp [callFunc,h,h1,h2,run_program]
theorem j0H {c:Call}{f:FuncId}{x:Operand}{caps:Array Value}{args:List Value}{T:TypeId}(hx:c.callee = .value x)(hf:E.ev ρ x = .func (.func f) #[] caps)(hc:q2p P f=true)(ha:c.args.toList.map (E.ev ρ)++caps.toList=args) :
  ((do let d ← resolve (E.ev ρ) c T; invoke d.target d.args):Sem Next).run P w = .ok (.enter f args.toArray) w:=by
 have ha' : c.args.map (E.ev ρ)++caps=args.toArray:=by
  subst ha; apply Array.ext'; simp
 simp only [resolve,hx,Deferred.ofValue,hf,Sem.run_bind,Sem.run_pure,Result.andThen_ok,invoke,Array.empty_append,ha']
 exact j1L hc _
theorem WL.call {c:Call}{f:FuncId}{x:Operand}{caps:Array Value}{args:List Value}{M:Nat→Prop}{R:Value→World→Prop}{d:Nat}(hg:o.guard=none)(hd:o.dst=some d)(ho:o.op = .call c)(hx:c.callee = .value x)(hf:E.ev ρ x = .func (.func f) #[] caps)
  (hc:q2p P f=true) (ha:c.args.toList.map (E.ev ρ)++caps.toList=args) (hr:Ret P f args.toArray w M R)
  (h:∀ v w',Chg M w w'→R v w'→WL P n ops Q rest (upd ρ d v) w'):WL P n ops Q (o :: rest) ρ w:=
 q0v hg fun a K hrel hok hK=>by
  unfold Oper.wp
  rw [q4n hrel hok]
  simp only [execOp,ho]
  rw [j0H hx hf hc ha]
  exact Calls.mono hr fun e w' ⟨v,he,hch,hv⟩=>by subst he; exact hK _ _ (by rw [hd]; exact h v w' hch hv)
def j7M (args:Array Value):Env:=fun t=>args.getD t undef
@[reducible] def endE (P:Program) (fn:Func) (R:Value→World→Prop):Post
 | .normal,ρ,w | .ret,ρ,w=>∃ v,(∀ a:Act,Rel fn.ntmps ρ a→(results fn a.tmps).run P w = .ok v w)∧R v w
 | _,_,_=>False
theorem enter {f:FuncId}{fn:Func}{c:Code}{args:Array Value}{M:Nat→Prop}{R:Value→World→Prop}(hf:P.funcs[f]? = some fn)(hb:fn.body=some c)(hok:q9h fn.ntmps c=true)(hs:Nat.ble args.size fn.ntmps=true)
  (h:CW P fn.ntmps c (endE P fn fun v w'=>Chg M w w'∧R v w') (j7M args) w):Ret P f args w M R:=by
 have hs' : args.size≤fn.ntmps:=by simpa using hs
 have hrel:Rel fn.ntmps (j7M args) { tmps:=args++Array.replicate (fn.ntmps - args.size) undef,defers:=[] }:=by
  refine⟨by simp; omega,rfl,fun t ht=>?_⟩
  simp only [j7M,Array.getD_eq_getD_getElem?,Array.getElem?_append]
  by_cases hta:t < args.size
  ·simp [hta]
  ·simp [hta,Array.getElem?_replicate]
   split<;>rfl
 refine calls_of_wp hf hb (Code.wp_mono (fun e a w' hq=>?_) (h hok _ hrel))
 obtain⟨ρ',hr,hq⟩:=hq
 cases e with
 | normal=>obtain⟨v,h1,h2⟩:=hq; exact⟨hr.defers,v,h1 a hr,v,rfl,h2.1,h2.2⟩
 | ret=>obtain⟨v,h1,h2⟩:=hq; exact⟨hr.defers,v,h1 a hr,v,rfl,h2.1,h2.2⟩
 | exit id=>exact hq.elim
 | goto l=>exact hq.elim
 | panic c=>exact hq.elim
 | outgrown=>exact hq.elim
theorem endC {fn:Func}{R:Value→World→Prop}{t T k b off:Nat}{cs:List Value}(hr:fn.results=#[.cell t T])(hT:aggT P T=some true)(hk:szT P T=some k)(ht:Nat.blt t fn.ntmps=true)(hv:ρ t = .pointer (some ⟨b,off,none⟩))
  (hc:At w b off cs) (hl:cs.length=k) (h:R (.agg cs.toArray) w):∃ v,(∀ a:Act,Rel fn.ntmps ρ a→(results fn a.tmps).run P w = .ok v w)∧R v w:=by
 subst hl
 refine⟨_,fun a ha=>?_,h⟩
 have h0:a.tmps.getD t undef = .pointer (some ⟨b,off,none⟩):=(ha.at_ t (by simpa using ht)).trans hv
 have h1:=q7K (P:=P) (w:=w) (b:=b) (off:=off) cs 0 #[] hc
 simp only [Array.getD_eq_getD_getElem?] at h0
 simp [results,hr,h0,loadVar,z3z hT,q4M hk,loadCells,h1,asAddr]
theorem k2a {fn:Func}{R:Value→World→Prop}{t T k b off s:Nat}{u:Value}{cs:List Value}(hr:fn.results=#[.cell t T,.tmp s])(hT:aggT P T=some true)(hk:szT P T=some k)(ht:Nat.blt t fn.ntmps=true)(hs:Nat.blt s fn.ntmps=true)(hv:ρ t = .pointer (some ⟨b,off,none⟩))(hu:ρ s=u)
  (hc:At w b off cs) (hl:cs.length=k) (h:R (.tuple #[.agg cs.toArray,u]) w):∃ v,(∀ a:Act,Rel fn.ntmps ρ a→(results fn a.tmps).run P w = .ok v w)∧R v w:=by
 subst hl
 refine⟨_,fun a ha=>?_,h⟩
 have h0:a.tmps.getD t undef = .pointer (some ⟨b,off,none⟩):=(ha.at_ t (by simpa using ht)).trans hv
 have h2:a.tmps.getD s undef=u:=(ha.at_ s (by simpa using hs)).trans hu
 have h1:=q7K (P:=P) (w:=w) (b:=b) (off:=off) cs 0 #[] hc
 simp only [Array.getD_eq_getD_getElem?] at h0 h2
 simp [results,hr,h0,h2,loadVar,z3z hT,q4M hk,loadCells,h1,asAddr]
end
end Go.E
namespace Go.E
open Go
section
variable {P:Program}{n:Nat}{Q:Post}{ρ:Env}{w:World}{ops:Array Oper}{o:Oper}{rest:List Oper}{C:World→Prop}{F:Env→Prop}{R:World→World→Prop}
def OpQ (P:Program)(ops:Array Oper)(C:World→Prop)(o:Oper)(ρ:Env)(w:World)(v:Value):Prop:=
 (gate ops ρ o=true∧Oper.quietUpon P C w v ((execOp (E.ev ρ) o).run P w))∨(gate ops ρ o=false∧v=undef)
def QC (R:World→World→Prop)(P:Program)(n:Nat)(ops:Array Oper)(C:World→Prop)(F:Env→Prop):List Oper→Env→Prop
 | [],ρ=>F ρ
 | o :: rest,ρ=>∃ v,(∀ w,C w→OpQ P ops (R w) o ρ w v)∧QC R P n ops C F rest (E.put ρ o.dst v)
theorem QC.nil (h:F ρ):QC R P n ops C F [] ρ:=h
theorem q1f {v:Value}{d:Nat}(hg:o.guard=none)(hd:o.dst=some d)(he:∀ w,C w→Ev P ρ o w v)(h:QC R P n ops C F rest (upd ρ d v)):QC R P n ops C F (o :: rest) ρ:=
 ⟨v,fun w hw=>.inl ⟨by simp [gate,hg],by rw [he w hw]; exact⟨rfl,rfl⟩⟩,by rw [hd]; exact h⟩
theorem QC.on (_hG:q7t n ops=true)(hg:gate ops ρ o=true)(h:QC R P n ops C F ({ o with guard:=none } :: rest) ρ):QC R P n ops C F (o :: rest) ρ:=by
 obtain⟨v,h1,h2⟩:=h
 refine⟨v,fun w hw=>.inl ⟨hg,?_⟩,h2⟩
 rcases h1 w hw with h3 | h3
 ·exact h3.2
 ·exact absurd h3.1 (by simp [gate])
theorem q2f {d:Nat}(_hG:q7t n ops=true)(hg:gate ops ρ o=false)(hd:o.dst=some d)(h:QC R P n ops C F rest (upd ρ d undef)):QC R P n ops C F (o :: rest) ρ:=
 ⟨undef,fun _ _=>.inr ⟨hg,rfl⟩,by rw [hd]; exact h⟩
theorem QC.call {c:Call}{f:FuncId}{x:Operand}{caps:Array Value}{args:List Value}{v:Value}{d:Nat}(hg:o.guard=none)(hd:o.dst=some d)(ho:o.op = .call c)(hx:c.callee = .value x)(hf:E.ev ρ x = .func (.func f) #[] caps)
  (hc:q2p P f=true) (ha:c.args.toList.map (E.ev ρ)++caps.toList=args) (hr:∀ w,C w→Ret P f args.toArray w (fun _=>False) fun u w'=>u=v∧R w w')
  (h:QC R P n ops C F rest (upd ρ d v)):QC R P n ops C F (o :: rest) ρ:=by
 refine⟨v,fun w hw=>.inl ⟨by simp [gate,hg],?_⟩,by rw [hd]; exact h⟩
 simp only [execOp,ho]
 rw [j0H hx hf hc ha]
 exact⟨rfl,Calls.mono (hr w hw) fun _ _ ⟨_,he,_,hv,hch⟩=>⟨by rw [he,hv],hch⟩⟩
abbrev QL (P:Program)(n:Nat)(ops:Array Oper)(C:World→Prop)(F:Env→Prop):List Oper→Env→Prop:=QC Ext P n ops C F
theorem QL.nil (h:F ρ):QL P n ops C F [] ρ:=h
theorem q0i {v:Value}{d:Nat}(hg:o.guard=none)(hd:o.dst=some d)(he:∀ w,C w→Ev P ρ o w v)(h:QL P n ops C F rest (upd ρ d v)):QL P n ops C F (o :: rest) ρ:=q1f hg hd he h
theorem QL.on (_hG:q7t n ops=true)(hg:gate ops ρ o=true)(h:QL P n ops C F ({ o with guard:=none } :: rest) ρ):QL P n ops C F (o :: rest) ρ:=QC.on _hG hg h
theorem q2g {d:Nat}(_hG:q7t n ops=true)(hg:gate ops ρ o=false)(hd:o.dst=some d)(h:QL P n ops C F rest (upd ρ d undef)):QL P n ops C F (o :: rest) ρ:=q2f _hG hg hd h
theorem QL.call {c:Call}{f:FuncId}{x:Operand}{caps:Array Value}{args:List Value}{v:Value}{d:Nat}(hg:o.guard=none)(hd:o.dst=some d)(ho:o.op = .call c)(hx:c.callee = .value x)(hf:E.ev ρ x = .func (.func f) #[] caps)
  (hc:q2p P f=true) (ha:c.args.toList.map (E.ev ρ)++caps.toList=args) (hr:∀ w,C w→Ret P f args.toArray w (fun _=>False) fun u _=>u=v)
  (h:QL P n ops C F rest (upd ρ d v)):QL P n ops C F (o :: rest) ρ:=
 QC.call hg hd ho hx hf hc ha (fun w hw=>Calls.mono (hr w hw) fun _ _ ⟨u,he,hch,hv⟩=>⟨u,he,hch,hv,hch⟩) h
def OpW (P:Program)(n:Nat)(ops:Array Oper)(o:Oper)(ρ:Env)(w:World)(R:Value→World→Prop):Prop:=
 (gate ops ρ o=true∧∀ (a:Act) (K:Act→World→Prop) (Q:Exit→Act→World→Prop),Rel n ρ a→q5L n o=true→(∀ v w',R v w'→K (a.put o.dst v) w')→o.wp P a w K Q)∨(gate ops ρ o=false∧R undef w)
def q2v (o:Oper):List Nat:=(o.after.toList.filter (Region.binds .any)).map (·.on)
def q3f (ops:Array Oper)(j:Nat):Option Nat:=(ops[j]?).bind (·.dst)
def z0N (ops:Array Oper)(h:Nat)(D:Nat→List Nat):Bool:=
 Nat.ble h ops.size &&
 (List.range ops.size).all (fun j=>match ops[j]? with
  | some o=>(q2v o).all (fun d=>Nat.blt d j) &&
    (List.range ops.size).all (fun i=>match q3f ops i with
     | some t=>Nat.beq i j||((!(D j).contains t||(q2v o).contains i)&&(match o.dst with | some d=>!(Nat.beq d t) | none=>true))
     | none=>true)
  | none=>false) &&
 (Nat.beq h ops.size||(Region.sinkB .any ops h&&Region.chainB .any ops h)) &&
 Region.seqB .any ops (ops.size - h) h (Array.replicate h true++Array.replicate (ops.size - h) false)
def stepsC (R:World→World→Prop)(P:Program)(n:Nat)(ops:Array Oper)(h:Nat)(D:Nat→List Nat)(Ψ:Nat→List Value→World→Prop)(ρ:Env)(w:World):Nat→List Oper→Prop
 | _,[]=>True
 | i,o :: l=>(∀ ρ' w',R w w'→(∀ t,(∀ j,j < h→q3f ops j≠some t)→ρ' t=ρ t)→(∀ j,(q2v o).contains j=true→Ψ j ((D j).map ρ') w') →
   OpW P n ops o ρ' w' (fun v w''=>R w' w''∧Ψ i ((D i).map (E.put ρ' o.dst v)) w''))∧stepsC R P n ops h D Ψ ρ w (i+1) l
theorem stepsC.get {h:Nat}{D:Nat→List Nat}{Ψ:Nat→List Value→World→Prop}:∀ (l:List Oper) (k i:Nat) (o:Oper),stepsC R P n ops h D Ψ ρ w k l→l[i]? = some o →
  (∀ ρ' w',R w w'→(∀ t,(∀ j,j < h→q3f ops j≠some t)→ρ' t=ρ t)→(∀ j,(q2v o).contains j=true→Ψ j ((D j).map ρ') w') →
   OpW P n ops o ρ' w' (fun v w''=>R w' w''∧Ψ (k+i) ((D (k+i)).map (E.put ρ' o.dst v)) w''))
 | [],_,_,_,_,hh=>by simp at hh
 | x :: l,k,0,o,hs,hh=>by simp at hh; subst hh; exact hs.1
 | x :: l,k,i+1,o,hs,hh=>by
  have:=stepsC.get l (k+1) i o hs.2 (by simpa using hh)
  rwa [Nat.add_right_comm] at this
structure InvC (R:World→World→Prop) (n:Nat) (ops:Array Oper) (h:Nat) (D:Nat→List Nat) (Ψ:Nat→List Value→World→Prop) (ρ0:Env) (w0:World) (listed:Array Bool) (ρ:Env) (w:World):Prop where
 head:HeadInv .any ops h listed
 ext:R w0 w
 out:∀ t,(∀ j,j < h→q3f ops j≠some t)→ρ t=ρ0 t
 known:∀ j,j < h→listed.getD j false=true→Ψ j ((D j).map ρ) w
theorem z5H {ρ:Env}{dst:Option Nat}{v:Value}{l:List Nat}(h:∀ t,dst=some t→t ∉ l):l.map (E.put ρ dst v)=l.map ρ:=by
 cases dst with
 | none=>rfl
 | some d=>
  refine List.map_congr_left fun t ht=>?_
  exact q4F ρ v (fun e=>h d rfl (e▸ht))
theorem q6n {o:Oper}{d:Nat}:d∈q2v o↔∃ e∈o.after,Region.binds .any e=true∧e.on=d:=by
 simp only [q2v,List.mem_map,List.mem_filter]
 exact⟨fun ⟨e,⟨h1,h2⟩,h3⟩=>⟨e,by simpa using h1,h2,h3⟩,fun ⟨e,h1,h2,h3⟩=>⟨e,⟨by simpa using h1,h2⟩,h3⟩⟩
section loose
variable {h:Nat}{D:Nat→List Nat}
theorem q6M (hB:z0N ops h D=true){j:Nat}{o:Oper}(hj:ops[j]? = some o):∀ d∈q2v o,d < j:=by
 simp only [z0N,Bool.and_eq_true] at hB
 have hjs:j < ops.size:=(Array.getElem?_eq_some_iff.1 hj).1
 have h1:=List.all_eq_true.1 hB.1.1.2 j (List.mem_range.2 hjs)
 simp only [hj,Bool.and_eq_true] at h1
 intro d hd
 simpa using List.all_eq_true.1 h1.1 d hd
theorem z1x (hB:z0N ops h D=true){i j:Nat}{o:Oper}(hj:ops[j]? = some o){t:Nat}(hi:q3f ops i=some t)(hij:i≠j):(t∈D j→i∈q2v o)∧o.dst≠some t:=by
 simp only [z0N,Bool.and_eq_true] at hB
 have hjs:j < ops.size:=(Array.getElem?_eq_some_iff.1 hj).1
 have his:i < ops.size:=by
  unfold q3f at hi
  cases ho:ops[i]? with
  | none=>simp [ho] at hi
  | some oi=>exact (Array.getElem?_eq_some_iff.1 ho).1
 have h1:=List.all_eq_true.1 hB.1.1.2 j (List.mem_range.2 hjs)
 simp only [hj,Bool.and_eq_true] at h1
 have h2:=List.all_eq_true.1 h1.2 i (List.mem_range.2 his)
 simp only [hi,Bool.or_eq_true,Bool.and_eq_true] at h2
 rcases h2 with h2 | ⟨h2,h3⟩
 ·exact absurd (Nat.eq_of_beq_eq_true h2) hij
 ·refine⟨fun ht=>?_,fun he=>?_⟩
  ·rcases h2 with h2 | h2
   ·simp [ht] at h2
   ·simpa using h2
  ·simp [he] at h3
theorem z2h (hB:z0N ops h D=true){listed:Array Bool}(hs:listed.size=ops.size):∀ (k j:Nat),j≤k→j < ops.size→listed.getD j true=false→∃ i,i∈Region.ready .any ops listed∧i≤j:=by
 intro k
 induction k with
 | zero=>
  intro j hk hj hl
  obtain rfl:j=0:=by omega
  refine⟨0,mem_ready.2 ⟨hl,ops[0],by simp [hj],fun e he hb=>?_⟩,Nat.le_refl _⟩
  have:=q6M hB (Array.getElem?_eq_getElem hj) e.on (q6n.2 ⟨e,he,hb,rfl⟩)
  omega
 | succ k ih=>
  intro j hk hj hl
  by_cases hall:∀ d∈q2v ops[j],listed.getD d true=true
  ·refine⟨j,mem_ready.2 ⟨hl,ops[j],by simp [hj],fun e he hb=>?_⟩,Nat.le_refl _⟩
   have hd:=q6M hB (Array.getElem?_eq_getElem hj) e.on (q6n.2 ⟨e,he,hb,rfl⟩)
   have h1:=hall e.on (q6n.2 ⟨e,he,hb,rfl⟩)
   have hlt:e.on < listed.size:=by rw [hs]; omega
   simp [hlt] at h1 ⊢
   exact h1
  ·have:∃ d∈q2v ops[j],listed.getD d true=false:=by
    refine Classical.byContradiction fun hn=>hall fun d hd=>?_
    cases hv:listed.getD d true with
    | true=>rfl
    | false=>exact absurd ⟨d,hd,hv⟩ hn
   obtain⟨d,hd,hv⟩:=this
   have hdj:=q6M hB (Array.getElem?_eq_getElem hj) d hd
   obtain⟨i,hi,hle⟩:=ih d (by omega) (by omega) hv
   exact⟨i,hi,by omega⟩
def j4p (ops:Array Oper)(h:Nat):Bool:=
 (List.range h).all fun i=>match ops[i]? with
  | some o=>(o.looksAt ops).all fun t=>(List.range h).all fun j=>match q3f ops j with
    | some d=>!(Nat.beq d t)||(q2v o).contains j
    | none=>true
  | none=>true
def ownD (ops:Array Oper)(j:Nat):List Nat:=(q3f ops j).toList
theorem j0n {o:Oper}{ρ ρ' : Env}(h:∀ t∈o.looksAt ops,ρ' t=ρ t):gate ops ρ' o=gate ops ρ o:=by
 unfold gate
 cases hg:o.guard with
 | none=>rfl
 | some jw=>
  obtain⟨j,want⟩:=jw
  simp only
  cases hd:(ops[j]?).bind (·.dst) with
  | none=>rfl
  | some d=>
   simp only
   rw [h d (by simp [Oper.looksAt,hg,hd])]
theorem j0o {o:Oper}{ρ ρ' : Env}(hs:q5L n o=true)(h:∀ t∈o.looksAt ops,ρ' t=ρ t):execOp (E.ev ρ') o=execOp (E.ev ρ) o:=by
 refine execOp_congr o (fun cs b hsel=>?_) fun x hx=>?_
 ·simp [q5L,hsel] at hs
 ·cases x with
  | tmp t=>exact h t (by simp only [Oper.looksAt,List.mem_append,List.mem_filterMap]; exact .inl ⟨.tmp t,by simpa using hx,rfl⟩)
  | const v=>rfl
  | global g=>rfl
  | func f=>rfl
theorem q1z {o:Oper}{ρ ρ' : Env}{v:Value}(hs:q5L n o=true)(h:∀ t∈o.looksAt ops,ρ' t=ρ t)(hq:OpQ P ops C o ρ w v):OpQ P ops C o ρ' w v:=by
 unfold OpQ at *
 rw [j0n h,j0o hs h]
 exact hq
theorem q1A {id:Nat}(h:Nat)(D:Nat→List Nat)(Ψ:Nat→List Value→World→Prop)(hm:P.follows .mixedOrders=true)(hB:z0N ops h D=true)
  (htrans:∀ {a b c},R a b→R b c→R a c) (hdraw:∀ w,R w { w with drawn:=w.drawn+1 })
  (hext:∀ i vs w w',Ψ i vs w→R w w'→Ψ i vs w')
  (hstep:stepsC R P n ops h D Ψ ρ w 0 (ops.toList.take h))
  (hend:∀ ρ' w',R w w'→(∀ t,(∀ j,j < h→q3f ops j≠some t)→ρ' t=ρ t)→(∀ j,j < h→Ψ j ((D j).map ρ') w')→WL P n ops Q (ops.toList.drop h) ρ' w'):CW P n (.region id ops true) Q ρ w:=by
 intro hok a ha
 have hok' : ops.toList.all (q5L n)=true:=by simpa [q9h] using hok
 refine wp_region_any hm ?_
 have hB':=hB
 simp only [z0N,Bool.and_eq_true] at hB'
 have hle:h≤ops.size:=by simpa using hB'.1.1.1
 have hseq:=hB'.2
 -- when the head is through
 have done:∀ (listed:Array Bool) (ρ' : Env) (a:Act) (w' : World),InvC R n ops h D Ψ ρ w listed ρ' w'→Rel n ρ' a→(∀ j,j < h→listed.getD j false=true)→wpAny P .any ops (lift n Q) (ops.size - h) listed a w':=by
  intro listed ρ' a w' inv hr hall
  have hlisted:listed=Array.replicate h true++Array.replicate (ops.size - h) false:=by
   apply Array.ext
   ·simp [inv.head.size]; omega
   ·intro i h1 h2
    by_cases hi:i < h
    ·have:=hall i hi
     simp [h1] at this
     rw [this,Array.getElem_append_left (by simpa using hi)]
     simp
    ·have:=inv.head.tail i (by omega) (by rw [← inv.head.size]; exact h1)
     simp [h1] at this
     rw [this,Array.getElem_append_right (by simpa using Nat.le_of_not_lt hi)]
     simp
  subst hlisted
  have hw:=hend ρ' w' inv.ext inv.out (fun j hj=>inv.known j hj (hall j hj)) (by
   refine List.all_eq_true.2 fun o ho=>List.all_eq_true.1 hok' o (List.mem_of_mem_drop ho)) a hr
  have hlen:(ops.toList.drop h).length=ops.size - h:=by simp
  have:=wpAny_of_seq (P:=P) (md:=.any) (ops:=ops) (Q':=lift n Q) (ops.toList.drop h) h (Array.replicate h true++Array.replicate (ops.size - h) false) a w'
   (fun j=>by simp [List.getElem?_drop]) (by rw [hlen]; exact hseq) hw
  rwa [hlen] at this
 have main:∀ (c:Nat) (listed:Array Bool) (ρ' : Env) (a:Act) (w' : World),((List.range h).filter (fun j=>!listed.getD j false)).length=c→InvC R n ops h D Ψ ρ w listed ρ' w'→Rel n ρ' a →
   wpAny P .any ops (lift n Q) (c+(ops.size - h)) listed a w':=by
  intro c
  induction c with
  | zero=>
   intro listed ρ' a w' hc inv hr
   rw [Nat.zero_add]
   refine done listed ρ' a w' inv hr fun j hj=>?_
   have h0:(List.range h).filter (fun j=>!listed.getD j false)=[]:=List.eq_nil_of_length_eq_zero hc
   have:=List.filter_eq_nil_iff.1 h0 j (List.mem_range.2 hj)
   simpa using this
  | succ c ih=>
   intro listed ρ' a w' hc inv hr
   have hex:∃ j,j < h∧listed.getD j true=false:=by
    have:((List.range h).filter (fun j=>!listed.getD j false))≠[]:=fun e=>by rw [e] at hc; simp at hc
    obtain⟨j,hj⟩:=List.exists_mem_of_ne_nil _ this
    rw [List.mem_filter,List.mem_range] at hj
    exact⟨j,hj.1,getD_in (by rw [inv.head.size]; omega) (by simpa using hj.2)⟩
   obtain⟨j0,hj0,hl0⟩:=hex
   obtain⟨i0,hi0,_⟩:=z2h hB inv.head.size j0 j0 (Nat.le_refl _) (by omega) hl0
   rw [show c+1+(ops.size - h)=(c+(ops.size - h))+1 by omega]
   refine⟨fun h0=>(by rw [h0] at hi0; cases hi0),fun i hi=>?_⟩
   have hih:i < h:=by
    rcases Nat.lt_or_ge i h with hlt | hge
    ·exact hlt
    ·exfalso
     obtain⟨_,oi,hoi,_⟩:=mem_ready.1 hi
     have hlt:i < ops.size:=(Array.getElem?_eq_some_iff.1 hoi).1
     have hsc:Region.sinkB .any ops h=true∧Region.chainB .any ops h=true:=by
      have h3:=hB'.1.2
      simp only [Bool.or_eq_true,Bool.and_eq_true] at h3
      rcases h3 with h3 | h3
      ·have:=Nat.eq_of_beq_eq_true h3; omega
      ·exact h3
     exact tail_waits hsc.1 hsc.2 (by omega) inv.head _ j0 rfl hj0 hl0 i hge hi
   obtain⟨hun,o,ho,hall⟩:=mem_ready.1 hi
   have hmem:o∈ops.toList:=by rw [Array.mem_toList_iff]; exact Array.mem_of_getElem? ho
   have hoko:q5L n o=true:=List.all_eq_true.1 hok' o hmem
   have hguards:q7t n ops=true:=by
    refine List.all_eq_true.2 fun o' ho'=>?_
    have:=List.all_eq_true.1 hok' o' ho'
    simp only [q5L,Bool.and_eq_true] at this
    exact this.1.1
   have hst:=stepsC.get (ops.toList.take h) 0 i o hstep (by rw [List.getElem?_take,if_pos hih]; simpa using ho) ρ' w' inv.ext inv.out (fun j hj=>by
    have hjd:j∈q2v o:=by simpa using hj
    obtain⟨e,he,hb,rfl⟩:=q6n.1 hjd
    have:=q6M hB ho _ hjd
    exact inv.known _ (by omega) (hall e he hb))
   rw [Nat.zero_add] at hst
   -- what holds when it has been carried out
   have next:∀ v w'',(R w' w''∧Ψ i ((D i).map (E.put ρ' o.dst v)) w'')→wpAny P .any ops (lift n Q) (c+(ops.size - h)) (listed.setIfInBounds i true) (a.put o.dst v) w'':=by
    intro v w'' ⟨hx,hΨ⟩
    have hi_size:i < listed.size:=by rw [inv.head.size]; omega
    have hi_un:listed.getD i false=false:=getD_both hun
    refine ih _ (E.put ρ' o.dst v) _ _ ?_ ⟨inv.head.set hi hih,htrans inv.ext hx,fun t ht=>?_,fun j hj hl=>?_⟩ (hr.put _ _)
    ·have hcount:∀ (l:List Nat),l.Nodup→i∈l→(l.filter (fun j=>!listed.getD j false)).length=(l.filter (fun j=>!(listed.setIfInBounds i true).getD j false)).length+1:=by
      intro l
      induction l with
      | nil=>intro _ h; cases h
      | cons x l ihl=>
       intro hnd hmem
       rw [List.nodup_cons] at hnd
       by_cases hx:x=i
       ·subst hx
        have hsame:l.filter (fun j=>!listed.getD j false)=l.filter (fun j=>!(listed.setIfInBounds x true).getD j false):=
         List.filter_congr fun y hy=>by
          have hne:x≠y:=fun e=>hnd.1 (by rw [e]; exact hy)
          rw [getD_set_ne false hne]
        have hset:(listed.setIfInBounds x true).getD x false=true:=by simp [hi_size]
        rw [List.filter_cons,List.filter_cons,if_pos (by rw [hi_un]; rfl),if_neg (by rw [hset]; decide),hsame,List.length_cons]
       ·have hmem' : i∈l:=by rcases List.mem_cons.1 hmem with h | h; exact absurd h.symm hx; exact h
        have:=ihl hnd.2 hmem'
        rw [List.filter_cons,List.filter_cons,getD_set_ne false (Ne.symm hx)]
        split
        ·rw [List.length_cons,List.length_cons,this]
        ·exact this
     have:=hcount (List.range h) List.nodup_range (List.mem_range.2 hih)
     omega
    ·cases hd:o.dst with
     | none=>exact inv.out t ht
     | some d=>
      have hne:t≠d:=fun e=>ht i hih (by unfold q3f; rw [ho]; simp [hd,e])
      show upd ρ' d v t=ρ t
      rw [q4F _ _ hne]
      exact inv.out t ht
    ·by_cases hji:j=i
     ·subst hji; exact hΨ
     ·rw [getD_set_ne false (Ne.symm hji)] at hl
      have hkn:=hext j _ _ _ (inv.known j hj hl) hx
      obtain⟨oj,hoj⟩:∃ oj,ops[j]? = some oj:=⟨ops[j]'(by omega),by rw [Array.getElem?_eq_getElem (by omega)]⟩
      have hnot:∀ t,o.dst=some t→t ∉ D j:=fun t ht hmemt=>by
       have hdi:q3f ops i=some t:=by unfold q3f; rw [ho]; exact ht
       have h5:=(z1x hB hoj hdi (Ne.symm hji)).1 hmemt
       obtain⟨e,he,hb,hon⟩:=q6n.1 h5
       have:=inv.head.closed j oj hoj hl e he hb
       rw [hon,hi_un] at this
       cases this
      rw [z5H hnot]
      exact hkn
   unfold wpOp
   simp only [ho]
   rw [q9k hguards hr]
   rcases hst with ⟨hg,hop⟩ | ⟨hg,hR⟩
   ·rw [if_pos hg]
    exact .inl (hop a _ _ hr hoko next)
   ·rw [if_neg (by rw [hg]; decide)]
    exact next undef w' hR
 have h0:InvC R n ops h D Ψ ρ w (Array.replicate ops.size false) ρ { w with drawn:=w.drawn+1 }:=by
  refine⟨⟨by simp,fun j oj _ hl=>?_,fun t _ ht=>by simp [ht]⟩,hdraw w,fun _ _=>rfl,fun j _ hl=>?_⟩
  ·rw [getD_replicate_false] at hl; cases hl
  ·rw [getD_replicate_false] at hl; cases hl
 have hc0:((List.range h).filter (fun j=>!(Array.replicate ops.size false).getD j false)).length=h:=by
  rw [List.filter_eq_self.2 (fun j _=>by rw [getD_replicate_false]; rfl)]
  simp
 have:=main h _ ρ a _ hc0 h0 ha
 rwa [show h+(ops.size - h)=ops.size by omega] at this
theorem q1R {o:Oper}{v:Value}(hrefl:∀ w,R w w)(h:OpQ P ops (R w) o ρ w v){S:Value→World→Prop}(hR:∀ w',R w w'→S v w'):OpW P n ops o ρ w S:=by
 rcases h with ⟨hg,h⟩ | ⟨hg,rfl⟩
 ·refine .inl ⟨hg,fun a K Q' ha hok hK=>?_⟩
  unfold Oper.wp
  rw [q4n ha hok]
  generalize (execOp (E.ev ρ) o).run P w=r at h
  cases r with
  | ok x w'=>
   cases x<;>simp only [Oper.quietUpon] at h<;>simp only [Oper.upon]
   case value u=>
    obtain⟨e1,e2⟩:=h
    subst e1; subst e2
    exact hK _ _ (hR _ (hrefl _))
   case skip=>
    obtain⟨e1,e2⟩:=h
    subst e1; subst e2
    exact hK _ _ (hR _ (hrefl _))
   case enter f args=>
    obtain⟨e1,hc⟩:=h
    subst e1
    exact hc.mono fun e w'' ⟨he,hw''⟩=>by subst he; exact hK _ _ (hR _ hw'')
  | halt x w'=>simp only [Oper.quietUpon] at h
 ·exact .inr ⟨hg,hR _ (hrefl _)⟩
theorem q1B:∀ (l:List Oper) (k:Nat) (ρ:Env),(∀ j,l[j]? = if j < l.length then ops[k+j]? else none)→(∀ i j,i < j→j < k+l.length→∀ t,q3f ops i=some t→q3f ops j≠some t)→QC R P n ops C F l ρ →
  ∃ (vs:Nat→Value) (ρe:Env),F ρe∧(∀ t,(∀ j,k≤j→j < k+l.length→q3f ops j≠some t)→ρe t=ρ t) ∧
   ∀ j o,k≤j→j < k+l.length→ops[j]? = some o→(∀ d,o.dst=some d→ρe d=vs j) ∧
    ∃ ρj:Env,(∀ t,(∀ i,j≤i→i < k+l.length→q3f ops i≠some t)→ρj t=ρe t)∧∀ w,C w→OpQ P ops (R w) o ρj w (vs j)
 | [],k,ρ,_,_,h=>⟨fun _=>undef,ρ,h,fun _ _=>rfl,fun j o h1 h2=>by simp at h2; omega⟩
 | o :: l,k,ρ,hl,hd,h=>by
  obtain⟨v,h1,h2⟩:=h
  have hlen:k+1+l.length=k+(o :: l).length:=by simp; omega
  obtain⟨vs,ρe,hF,hout,hvs⟩:=q1B l (k+1) (E.put ρ o.dst v) (fun j=>by
   have:=hl (j+1)
   simp only [List.getElem?_cons_succ,List.length_cons] at this
   rw [this]
   by_cases hj:j < l.length
   ·rw [if_pos (by omega),if_pos hj]; congr 1; omega
   ·rw [if_neg (by omega),if_neg hj]) (fun i j hij hj=>hd i j hij (by omega)) h2
  have ho:ops[k]? = some o:=by have:=hl 0; simpa using this.symm
  refine⟨fun j=>if j=k then v else vs j,ρe,hF,fun t ht=>?_,fun j o' hj1 hj2 hoj=>?_⟩
  ·rw [hout t (fun j a b=>ht j (by omega) (by omega))]
   cases hdst:o.dst with
   | none=>rfl
   | some d=>exact q4F _ _ fun e=>ht k (Nat.le_refl _) (by simp) (by unfold q3f; rw [ho]; simp [hdst,e])
  ·by_cases hjk:j=k
   ·subst hjk
    have:o'=o:=Option.some.inj (hoj.symm.trans ho)
    subst this
    simp only [if_pos]
    refine⟨fun d hdst=>?_,ρ,fun t ht=>?_,h1⟩
    ·rw [hout d (fun i a b=>hd j i (by omega) (by omega) d (by unfold q3f; rw [ho]; exact hdst))]
     rw [hdst]; exact q8j _ _ _
    ·rw [hout t (fun i a b=>ht i (by omega) (by omega))]
     cases hdst:o'.dst with
     | none=>rfl
     | some d=>exact (q4F _ _ fun e=>ht j (Nat.le_refl _) (by simp) (by unfold q3f; rw [ho]; simp [hdst,e])).symm
   ·obtain⟨h3,ρj,h4,h5⟩:=hvs j o' (by omega) (by omega) hoj
    simp only [if_neg hjk]
    exact⟨h3,ρj,fun t ht=>h4 t fun i a b=>ht i a (by omega),h5⟩
theorem q1o {id:Nat}(h:Nat)(hrefl:∀ w,R w w)(htrans:∀ {a b c},R a b→R b c→R a c)(hdraw:∀ w,R w { w with drawn:=w.drawn+1 })(hm:P.follows .mixedOrders=true)(hB:(z0N ops h (ownD ops)&&j4p ops h)=true)
  (hq:QC R P n ops (R w) (fun ρ'=>∀ w',R w w'→WL P n ops Q (ops.toList.drop h) ρ' w') (ops.toList.take h) ρ):CW P n (.region id ops true) Q ρ w:=by
 simp only [Bool.and_eq_true] at hB
 obtain⟨hB1,hB2⟩:=hB
 have hle:h≤ops.size:=by
  have:=hB1
  simp only [z0N,Bool.and_eq_true] at this
  simpa using this.1.1.1
 have hlen:(ops.toList.take h).length=h:=by simp; omega
 have hdist:∀ i j,i < j→j < h→∀ t,q3f ops i=some t→q3f ops j≠some t:=fun i j hij hj t hi hjt=>by
  have hoj:ops[j]? = some (ops[j]'(by omega)):=Array.getElem?_eq_getElem _
  have:=(z1x hB1 hoj hi (by omega)).2
  unfold q3f at hjt
  rw [hoj] at hjt
  exact this hjt
 obtain⟨vs,ρe,hF,hout,hvs⟩:=q1B (ops.toList.take h) 0 ρ (fun j=>by
  rw [hlen,List.getElem?_take,Nat.zero_add]
  split
  ·simp
  ·rfl) (by rw [hlen]; intro i j hij hj; exact hdist i j hij (by omega)) hq
 rw [hlen,Nat.zero_add] at hout hvs
 intro hok
 refine q1A (R:=R) h (ownD ops) (fun i l _=>l=(if q3f ops i=none then [] else [vs i])) hm hB1 htrans hdraw (fun _ _ _ _ h _=>h) ?_ ?_ hok
 ·-- each operation of the head
  have hok' : ops.toList.all (q5L n)=true:=by simpa [q9h] using hok
  have main:∀ (l:List Oper) (k:Nat),(∀ j,j < l.length→l[j]? = ops[k+j]?)→k+l.length≤h →
    stepsC R P n ops h (ownD ops) (fun i l _=>l=(if q3f ops i=none then [] else [vs i])) ρ w k l:=by
   intro l
   induction l with
   | nil=>intro k _ _; trivial
   | cons o l ih=>
    intro k hl hk
    have ho:ops[k]? = some o:=by have:=hl 0 (by simp); simpa using this.symm
    simp only [List.length_cons] at hk
    refine⟨fun ρ' w' hw ho' hp=>?_,ih (k+1) (fun j hj=>by have:=hl (j+1) (by simp; omega); simp only [List.getElem?_cons_succ] at this; rw [this]; congr 1; omega) (by omega)⟩
    obtain⟨h3,ρj,h4,h5⟩:=hvs k o (Nat.zero_le _) (by omega) ho
    have hoko:q5L n o=true:=List.all_eq_true.1 hok' o (by rw [Array.mem_toList_iff]; exact Array.mem_of_getElem? ho)
    have hsame:∀ t∈o.looksAt ops,ρ' t=ρj t:=fun t ht=>by
     by_cases hin:∃ j,j < h∧q3f ops j=some t
     ·obtain⟨j,hj,hdj⟩:=hin
      have hdir:j∈q2v o:=by
       have h6:=List.all_eq_true.1 hB2 k (List.mem_range.2 (by omega))
       simp only [ho] at h6
       have h7:=List.all_eq_true.1 (List.all_eq_true.1 h6 t ht) j (List.mem_range.2 hj)
       simp only [hdj,Bool.or_eq_true,Bool.not_eq_true'] at h7
       rcases h7 with h7 | h7
       ·have:Nat.beq t t=true:=Nat.beq_refl t
        rw [this] at h7; cases h7
       ·simpa using h7
      have hjk:=q6M hB1 ho j hdir
      have h8:=hp j (by simpa using hdir)
      have hne:q3f ops j≠none:=by rw [hdj]; simp
      simp only [ownD,hdj,Option.toList_some,List.map_cons,List.map_nil,reduceCtorEq,if_false] at h8
      have h9:ρ' t=vs j:=by injection h8
      obtain⟨oj,hoj⟩:∃ oj,ops[j]? = some oj:=⟨ops[j]'(by omega),by rw [Array.getElem?_eq_getElem (by omega)]⟩
      have hdo:oj.dst=some t:=by unfold q3f at hdj; rw [hoj] at hdj; exact hdj
      rw [h9,h4 t (fun i a b=>hdist j i (by omega) b t hdj)]
      exact ((hvs j oj (Nat.zero_le _) hj hoj).1 t hdo).symm
     ·have hno:∀ j,j < h→q3f ops j≠some t:=fun j hj hd=>hin ⟨j,hj,hd⟩
      rw [ho' t hno,h4 t (fun i _ b=>hno i b),hout t (fun j _ b=>hno j b)]
    have hopq:=q1z hoko hsame (h5 w' hw)
    exact q1R hrefl hopq fun w'' hx=>⟨hx,by
     simp only [ownD,q3f,ho,Option.bind_some]
     cases hd:o.dst with
     | none=>simp
     | some d=>simp [E.put,q8j]⟩
  exact main _ 0 (fun j hj=>by rw [hlen] at hj; rw [List.getElem?_take,if_pos hj,Nat.zero_add]; simp) (by rw [hlen]; omega)
 ·intro ρ' w' hw ho' hk
  have:ρ'=ρe:=by
   funext t
   by_cases hin:∃ j,j < h∧q3f ops j=some t
   ·obtain⟨j,hj,hdj⟩:=hin
    have h8:=hk j hj
    simp only [ownD,hdj,Option.toList_some,List.map_cons,List.map_nil,reduceCtorEq,if_false] at h8
    have h9:ρ' t=vs j:=by injection h8
    obtain⟨oj,hoj⟩:∃ oj,ops[j]? = some oj:=⟨ops[j]'(by omega),by rw [Array.getElem?_eq_getElem (by omega)]⟩
    have hdo:oj.dst=some t:=by unfold q3f at hdj; rw [hoj] at hdj; exact hdj
    rw [h9]
    exact ((hvs j oj (Nat.zero_le _) hj hoj).1 t hdo).symm
   ·have hno:∀ j,j < h→q3f ops j≠some t:=fun j hj hd=>hin ⟨j,hj,hd⟩
    rw [ho' t hno,hout t (fun j _ b=>hno j b)]
  rw [this]
  exact hF w' hw
theorem q0K {id:Nat}(h:Nat)(hm:P.follows .mixedOrders=true)(hB:(z0N ops h (ownD ops)&&j4p ops h)=true)
  (hq:QL P n ops (Ext w) (fun ρ'=>∀ w',Ext w w'→WL P n ops Q (ops.toList.drop h) ρ' w') (ops.toList.take h) ρ):CW P n (.region id ops true) Q ρ w:=
 q1o h Ext.refl (fun a b=>Chg.trans a b) (fun w=>Ext.drawn w _) hm hB hq
theorem q0d {id:Nat}(hm:P.follows .mixedOrders=true)(hB:(z0N ops ops.size (ownD ops)&&j4p ops ops.size)=true)(h:QL P n ops (Ext w) (fun ρ'=>∀ w',Ext w w'→Q .normal ρ' w') ops.toList ρ):CW P n (.region id ops true) Q ρ w:=by
 refine q0K ops.size hm hB ?_
 have e1:ops.toList.take ops.size=ops.toList:=by rw [← Array.length_toList,List.take_length]
 have e2:ops.toList.drop ops.size=[]:=by rw [← Array.length_toList,List.drop_length]
 rw [e1,e2]
 have hmono:∀ (l:List Oper) (ρ:Env) (F1 F2:Env→Prop),(∀ ρ,F1 ρ→F2 ρ)→QL P n ops (Ext w) F1 l ρ→QL P n ops (Ext w) F2 l ρ:=by
  intro l
  induction l with
  | nil=>intro ρ F1 F2 hf hq; exact hf _ hq
  | cons o l ih=>intro ρ F1 F2 hf ⟨v,h1,h2⟩; exact⟨v,h1,ih _ F1 F2 hf h2⟩
 exact hmono _ _ _ _ (fun ρ' hF w' hw'=>WL.nil (hF w' hw')) h
end loose
end
end Go.E
namespace Go.E
open Go
open Rep (rd)
def reps (z:List Value):Nat→List Value
 | 0=>[]
 | n+1=>z++reps z n
theorem z2y (z:List Value):∀ n,(reps z n).length=n*z.length
 | 0=>by simp [reps]
 | n+1=>by simp [reps,z2y z n,Nat.add_mul]; omega
theorem j4q (z:List Value):∀ (n i:Nat),i < n*z.length→(reps z n)[i]? = z[i % z.length]?
 | 0,i,h=>by simp at h
 | n+1,i,h=>by
  have hz:0 < z.length:=by
   rcases Nat.eq_zero_or_pos z.length with h0 | h0
   ·rw [h0] at h; simp at h
   ·exact h0
  simp only [reps]
  by_cases hi:i < z.length
  ·rw [List.getElem?_append_left hi,Nat.mod_eq_of_lt hi]
  ·have hm:(n+1)*z.length=n*z.length+z.length:=by rw [Nat.add_mul]; omega
   rw [hm] at h
   have hmod:i % z.length=(i - z.length) % z.length:=Nat.mod_eq_sub_mod (by omega)
   rw [List.getElem?_append_right (by omega),j4q z n (i - z.length) (by omega),hmod]
theorem z1O (z:Array Value)(n:Nat):(madeCells z (n*z.size))=(reps z.toList n).toArray:=by
 apply Array.ext'
 simp only [madeCells,Array.toList_map,Array.toList_range]
 apply List.ext_getElem?
 intro i
 by_cases hi:i < n*z.size
 ·have hz:0 < z.size:=by
   rcases Nat.eq_zero_or_pos z.size with h0 | h0
   ·rw [h0] at hi; simp at hi
   ·exact h0
  rw [j4q _ _ _ (by simpa using hi),List.getElem?_map,List.getElem?_range hi]
  have hm:i % z.size < z.size:=Nat.mod_lt _ hz
  simp [hm,getElem!_pos]
 ·rw [List.getElem?_eq_none (by simp; omega),List.getElem?_eq_none (by rw [z2y]; simp; omega)]
section
variable {P:Program}{n:Nat}{Q:Post}{ρ:Env}{w:World}{ops:Array Oper}{o:Oper}{rest:List Oper}
theorem j0I {e k b:Nat}{z:List Value}(hk:szT P e=some k)(hb:byT P e=some b)(hz:q6d P e=some z):∃ i v,P.info? e=some i∧i.size=k∧i.bytes=b∧i.zero=some v∧v.cells=z.toArray:=by
 unfold szT at hk; unfold byT at hb; unfold q6d at hz
 cases hi:P.info? e with
 | none=>simp [hi] at hk
 | some i=>
  cases hv:i.zero with
  | none=>simp [hi,hv] at hz
  | some v=>
   simp [hi] at hk hb
   simp [hi,hv] at hz
   exact⟨i,v,rfl,hk,hb,hv,by rw [← hz]⟩
theorem WL.mk {T e k b:Nat}{z:List Value}{l c:Operand}{q q' : IntKind}{m:Nat}{d:Nat}(hg:o.guard=none)(hd:o.dst=some d)(ho:o.op = .makeSlice T l c)(hT:q4Y P T=some e)(hk:szT P e=some k)(hb:byT P e=some b)(hz:q6d P e=some z)(hzk:z.length=k)
  (hl:E.ev ρ l = .int q (m:Int)) (hc:E.ev ρ c = .int q' (m:Int)) (hm:m≤9223372036854775807) (hbm:b*m≤281474976710656)
  (h:∀ g w',Ext w w'→w.heap.size≤g→Blk w' g e (reps z m)→WL P n ops Q rest (upd ρ d (.slice (some ⟨g,0,none⟩) m m)) w'):WL P n ops Q (o :: rest) ρ w:=
 q0v hg fun a K ha hok hK=>by
  obtain⟨i,v,hi,hik,hib,hiv,hvc⟩:=j0I hk hb hz
  have hr:=run_make (P:=P) w T e i v (q5f hT) hi hiv q q' m m (by omega) (by omega) (by rw [hib,← Int.natCast_mul]; exact Int.ofNat_le.2 hbm) (by omega)
  have hcells:madeCells v.cells (m*i.size)=(reps z m).toArray:=by
   have:=z1O v.cells m
   rw [hvc] at this ⊢
   simp only [List.size_toArray,hzk] at this
   rw [hik]
   simpa using this
  unfold Oper.wp
  rw [q4n ha hok]
  simp only [Int.toNat_natCast,hcells] at hr
  simp only [execOp,ho,hl,hc,Sem.run_bind,hr,Result.andThen_ok,Sem.run_pure]
  exact hK _ _ (by rw [hd]; exact h _ _ (Ext.alloc _ _) (Nat.le_refl _) (q6Y _ _ _))
theorem q1S {T e k:Nat}{d:Nat}(hg:o.guard=none)(hd:o.dst=some d)(ho:o.op = .buildSlice T 0 #[])(hT:q4Y P T=some e)(hk:szT P e=some k)
  (h:∀ g w',Ext w w'→w.heap.size≤g→Blk w' g e []→WL P n ops Q rest (upd ρ d (.slice (some ⟨g,0,none⟩) 0 0)) w'):WL P n ops Q (o :: rest) ρ w:=
 q0v hg fun a K ha hok hK=>by
  unfold Oper.wp
  rw [q4n ha hok]
  have hx:(Instr.buildSlice T 0 #[]).run P w = .ok (.slice (some ⟨w.heap.size,0,none⟩) 0 0) (w.alloc (.cells #[] e)):=by
   have:=q8w (P:=P) (w:=w) e []
   have h0:(Array.map (fun _=>default) (Array.range 0):Array Value)=[].toArray:=by apply Array.ext<;>simp
   simp [Instr.buildSlice,run_underlying (q5f hT),q4M hk,Instr.fill]
   rw [h0,this]
   rfl
  simp only [execOp,ho,Sem.run_bind,Array.map_empty,hx,Result.andThen_ok,Sem.run_pure]
  exact hK _ _ (by rw [hd]; exact h _ _ (Ext.alloc _ _) (Nat.le_refl _) (q6Y _ _ []))
theorem j5P (l:List Value):∀ (k:Nat) (cs:Array Value),cs.size=k+l.length →
  (l.zipIdx k).foldl (fun cs (p:Value × Nat)=>cs.setIfInBounds p.2 p.1) cs=cs.extract 0 k++l.toArray:=by
 induction l with
 | nil=>intro k cs h; simp at h ⊢; rw [← h]; simp
 | cons x l ih=>
  intro k cs h
  simp only [List.zipIdx_cons,List.foldl_cons]
  rw [ih (k+1) _ (by simp at h ⊢; omega)]
  apply Array.ext'
  simp only [Array.toList_append,Array.toList_extract]
  have hk:k < cs.toList.length:=by simp at h ⊢; omega
  have h1:(cs.setIfInBounds k x).toList.extract 0 (k+1)=cs.toList.extract 0 k++[x]:=by
   simp only [List.extract_eq_take_drop,Nat.sub_zero,List.drop_zero,Array.toList_setIfInBounds]
   rw [List.take_add_one,List.take_set_of_le (Nat.le_refl _)]
   simp only [Array.length_toList] at hk
   simp [hk]
  rw [h1,List.append_assoc,List.singleton_append]
theorem q0p {T e k:Nat}{x:Operand}{v:Value}{z cs:List Value}{d:Nat}(hg:o.guard=none)(hd:o.dst=some d)(ho:o.op = .buildSlice T 1 #[(0,x)])(hT:q4Y P T=some e)(hk:szT P e=some k)(hz:q6d P e=some z)(hzk:z.length=k)(hk1:Nat.ble k 1000=true)(hk0:Nat.blt 0 k=true)
  (hx:E.ev ρ x=v) (hv:v.cells=cs.toArray) (hl:cs.length=k)
  (h:∀ g w',Ext w w'→w.heap.size≤g→Blk w' g e cs→WL P n ops Q rest (upd ρ d (.slice (some ⟨g,0,none⟩) 1 1)) w'):WL P n ops Q (o :: rest) ρ w:=
 q0v hg fun a K ha hok hK=>by
  obtain⟨zv,hzv,hzc⟩:=q6L (P:=P) (w:=w) hz
  have hk1' : k≤1000:=by simpa using hk1
  have hk0' : 0 < k:=by simpa using hk0
  unfold Oper.wp
  rw [q4n ha hok]
  have hr:(Instr.buildSlice T 1 #[(0,v)]).run P w = .ok (.slice (some ⟨w.heap.size,0,none⟩) 1 1) (w.alloc (.cells cs.toArray e)):=by
   have n1:¬ 16777216 < k:=by omega
   have n2:¬ k=0:=by omega
   have hfold:=j5P cs 0 ((Array.range k).map (z.toArray[· % z.toArray.size]!)) (by simp [hl])
   have hnr:=q8w (P:=P) (w:=w) e cs
   simp [Instr.buildSlice,run_underlying (q5f hT),q4M hk,n1,n2,hzv,hzc]
   simp [Instr.fill,hv,hl]
   simp only [List.size_toArray] at hfold
   simp at hfold
   rw [hfold]
   simp [hnr]
  simp only [execOp,ho,Sem.run_bind,List.map_toArray,List.map_cons,List.map_nil,hx,hr,Result.andThen_ok,Sem.run_pure]
  exact hK _ _ (by rw [hd]; exact h _ _ (Ext.alloc _ _) (Nat.le_refl _) (q6Y _ _ cs))
abbrev Own (w:World)(base:Nat)(e k:Nat)(v:Value)(m:Nat)(cs:List Value):Prop:=w.ownsRow base e k v m cs
theorem Own.of_blk {base e k g m:Nat}{cs:List Value}(h:Blk w g e cs)(hl:cs.length=m*k)(hb:base≤g)(hm:m≤maxLen):Own w base e k (.slice (some ⟨g,0,none⟩) m m) m cs:=
 ⟨hl,.inr ⟨g,m,cs.toArray,rfl,hb,h,Nat.le_refl _,hm,by simpa using hl,by simp [← hl]⟩⟩
abbrev z2z (v:Value):Nat→Prop:=fun b=>v.ownBlock=some b
theorem Own.lt {base e k m:Nat}{v:Value}{cs:List Value}(h:Own w base e k v m cs){b:Nat}(hb:z2z v b):base≤b∧b < w.heap.size:=World.ownsRow.lt h b hb
theorem Own.rd {α:Type}[Rep α]{S:Nat→Prop}{base e m:Nat}{v:Value}{cs:List Value}{xs:List α}(h:Own w base e (Rep.sz α) v m cs)(hr:rdL S w xs cs)(hS:∀ b,z2z v b→S b):m=xs.length∧rdS S w xs v:=by
 have hp:=Rep.pos (α:=α)
 have hm:m=xs.length:=by
  have h1:=h.1
  rw [hr.len] at h1
  exact (Nat.eq_of_mul_eq_mul_right hp h1).symm
 refine⟨hm,?_⟩
 subst hm
 rcases h.2 with ⟨rfl,h0⟩ | ⟨g,cap,cur,rfl,hb,hg,hn,hc,hs,ht⟩
 ·have:xs=[]:=List.eq_nil_of_length_eq_zero h0
  subst this
  exact rdS.nil (by decide)
 ·refine⟨_,cap,cs,rfl,hn,hc,hr,.inr ⟨g,0,rfl,hS g rfl,fun j u hu=>?_⟩⟩
  rw [cell_of_row w g (0+j) cur e (0,0) hg,Nat.zero_add]
  rw [← ht,List.getElem?_take] at hu
  split at hu
  ·simpa using hu
  ·cases hu
theorem WL.app {T e k b:Nat}{z:List Value}{s x:Operand}{base:Nat}{v:Value}{m:Nat}{cs:List Value}{A:Option Addr}{m2 c2:Nat}{news:List Value}{d:Nat}(hg:o.guard=none)(hd:o.dst=some d)
  (ho:o.op = .call { callee:=.builtin .append,args:=#[s,x],argTypes:=#[T,T] }) (hT:q4Y P T=some e) (hk:szT P e=some k) (hb:byT P e=some b) (hz:q6d P e=some z) (hzk:z.length=k) (hk0:Nat.blt 0 k=true)
  (hs:E.ev ρ s=v) (hx:E.ev ρ x = .slice A m2 c2) (hown:Own w base e k v m cs) (hl:news.length=m2*k) (hat:m2=0∨∃ b o,A=some ⟨b,o,none⟩∧At w b o news) (h1:∀ u∈news,u.oneCell'=true)
  (hmax:(m+m2)*b≤140737488355328) (hm:m+m2≤maxLen) (hbase:base≤w.heap.size)
  (h:∀ v' w',Chg (z2z v) w w'→Own w' base e k v' (m+m2) (cs++news)→(∀ g,z2z v' g→z2z v g∨w.heap.size≤g)→WL P n ops Q rest (upd ρ d v') w'):WL P n ops Q (o :: rest) ρ w:=
 q0v hg fun a K ha hok hK=>by
  obtain⟨i,zv,hi,hik,hib,hiv,hvc⟩:=j0I hk hb hz
  have hk0' : 0 < k:=by simpa using hk0
  have key:∃ v' w',(Builtin.append_ #[T,T] o.type #[v,.slice A m2 c2]).run P w = .ok v' w'∧Own w' base e k v' (m+m2) (cs++news)∧Chg (z2z v) w w'∧(∀ g,z2z v' g→z2z v g∨w.heap.size≤g):=by
   cases A with
   | none=>
    have h0:m2=0:=by rcases hat with h0 | ⟨_,_,h0,_⟩; exact h0; cases h0
    subst h0
    have hn:news=[]:=List.eq_nil_of_length_eq_zero (by simpa using hl)
    subst hn
    refine⟨v,w,?_,by simpa using hown,Chg.refl w,fun g hg=>.inl hg⟩
    rcases hown.2 with ⟨rfl,rfl⟩ | ⟨g,cap,cur,rfl,_,_,hnc,_⟩
    ·simp [Builtin.append_,run_underlying (q5f hT),sizeOf,typeInfo,hi,Builtin.lenOf,Builtin.firstCells]
    ·simp [Builtin.append_,run_underlying (q5f hT),sizeOf,typeInfo,hi,Builtin.lenOf,Builtin.firstCells,hnc,storeCells]
   | some ad=>
    have hcells:∀ j u,news[j]? = some u→w.cell? (ad.add j)=some u:=by
     intro j u hu
     rcases hat with h0 | ⟨b2,o2,hA,hat⟩
     ·subst h0
      have hn:news=[]:=List.eq_nil_of_length_eq_zero (by simpa using hl)
      subst hn
      simp at hu
     ·cases hA
      have hadd:(⟨b2,o2,none⟩:Addr).add j=⟨b2,o2+j,none⟩:=by unfold Addr.add; split<;>simp_all
      rw [hadd]; exact hat j u hu
    obtain⟨v',w',hr,ho',hgb,_,hwhere⟩:=run_append_own_at (P:=P) w base T o.type e i zv k b (q5f hT) hi hiv hik hib (by rw [hvc]; simpa using hzk) hk0' v m cs hown ad m2 c2 news hl hcells h1 hm hmax hbase
    refine⟨v',w',hr,ho',⟨hgb.os,hgb.tape,hgb.output,hgb.size,fun q hq hne=>hgb.block q hq fun e=>hne e.symm⟩,fun g hg=>?_⟩
    rcases hwhere with hw | hw
    ·exact .inl (hw.symm.trans hg)
    ·right
     have:some g=some w.heap.size:=hg.symm.trans hw
     cases this
     exact Nat.le_refl _
  obtain⟨v',w',hr,h2,h3,h4⟩:=key
  unfold Oper.wp
  rw [q4n ha hok]
  simp only [execOp,ho,resolve,invoke,builtin,Sem.run_bind,Sem.run_pure,Result.andThen_ok,List.map_toArray,List.map_cons,List.map_nil,hs,hx,hr]
  exact hK _ _ (by rw [hd]; exact h v' w' h3 h2 h4)
def cutS (A:Option Addr)(l h c k:Nat):Value:=.slice (if c=l then A else A.map (·.add (l*k))) (h - l) (c - l)
theorem rdS.cut {α:Type}[Rep α]{S:Nat→Prop}{xs:List α}{A:Option Addr}{m c:Nat}(hx:rdS S w xs (.slice A m c)){l h:Nat}(hlh:l≤h)(hh:h≤xs.length):rdS S w ((xs.take h).drop l) (cutS A l h c (Rep.sz α)):=by
 obtain⟨A',cap,cells,e,h1,h2,h3,h4⟩:=hx
 cases e
 refine⟨if c=l then A else A.map (·.add (l*Rep.sz α)),c - l,(cells.take (h*Rep.sz α)).drop (l*Rep.sz α),by simp [cutS,List.length_drop,List.length_take,Nat.min_eq_left hh],by simp; omega,by omega,(h3.take h).drop l,?_⟩
 rcases h4 with rfl | ⟨b,o,rfl,hb,ha⟩
 ·left; simp
 ·by_cases hlc:c=l
  ·left
   have:l=h:=by omega
   subst this
   simp
  ·right
   refine⟨b,o+l*Rep.sz α,?_,hb,fun j v hv=>?_⟩
   ·have hadd:(⟨b,o,none⟩:Addr).add (l*Rep.sz α)=⟨b,o+l*Rep.sz α,none⟩:=by unfold Addr.add; split<;>simp_all
    simp [if_neg hlc,hadd]
   ·rw [List.getElem?_drop,List.getElem?_take] at hv
    split at hv
    ·rw [Nat.add_assoc]; exact ha _ v hv
    ·cases hv
theorem Ev.slH {T e k:Nat}{x hi:Operand}{A:Option Addr}{m c h:Nat}{q' : IntKind}(ho:o.op = .slice T x none (some hi) none)(hT:q4Y P T=some e)(hk:szT P e=some k)(hx:E.ev ρ x = .slice A m c)
  (hh:E.ev ρ hi = .int q' (h:Int)) (h2:h≤c):Ev P ρ o w (cutS A 0 h c k):=by
 have hu:=q5f hT
 have e1:(Instr.sliceBounds true m c none (some (.int q' h)) none).run P w = .ok (0,h,c) w:=by
  simp [Instr.sliceBounds,run_sliceBound,(by omega:(h:Int)≤c)]
 simp [Ev,execOp,ho,hx,hh,Instr.sliceAt,Instr.slice,run_underlying hu,e1,q4M hk,cutS]
theorem Ev.slL {T e k:Nat}{x lo:Operand}{A:Option Addr}{m c l:Nat}{q:IntKind}(ho:o.op = .slice T x (some lo) none none)(hT:q4Y P T=some e)(hk:szT P e=some k)(hx:E.ev ρ x = .slice A m c)
  (hl:E.ev ρ lo = .int q (l:Int)) (h1:l≤m):Ev P ρ o w (cutS A l m c k):=by
 have hu:=q5f hT
 have e1:(Instr.sliceBounds true m c (some (.int q l)) none none).run P w = .ok (l,m,c) w:=by
  simp [Instr.sliceBounds,run_sliceBound,(by omega:(l:Int)≤m)]
 simp [Ev,execOp,ho,hx,hl,Instr.sliceAt,Instr.slice,run_underlying hu,e1,q4M hk,cutS]
end
end Go.E
namespace Go.E
open Go
open Rep (rd)
section
variable {P:Program}{n:Nat}{Q:Post}{ρ:Env}{w:World}{ops:Array Oper}{o:Oper}{rest:List Oper}
theorem q0C {c x y:Operand}{v:Value}(ho:o.op = .pick c x y)(hc:E.ev ρ c = .bool true)(hx:E.ev ρ x=v):Ev P ρ o w v:=by
 have:=q1y (P:=P) (w:=w) ho hc hx (rfl:E.ev ρ y=_)
 simpa using this
theorem q0P {c x y:Operand}{v:Value}(ho:o.op = .pick c x y)(hc:E.ev ρ c = .bool false)(hy:E.ev ρ y=v):Ev P ρ o w v:=by
 have:=q1y (P:=P) (w:=w) ho hc (rfl:E.ev ρ x=_) hy
 simpa using this
theorem q1I {c:Operand}{x y:Code}{p:Prop}[Decidable p](hc:E.ev ρ c = .bool (!decide p))(ht:¬ p→CW P n x Q ρ w)(hf:p→CW P n y Q ρ w):CW P n (.cond c x y) Q ρ w:=by
 by_cases hp:p
 ·exact q0O (by rw [hc]; simp [hp]) (hf hp)
 ·exact q0N (by rw [hc]; simp [hp]) (ht hp)
def z3A (P:Program)(T:TypeId):Option (List (Nat × Nat)):=match P.underlying T with
 | some (.struct fs)=>fs.toList.mapM fun f=>(szT P f.type).map fun s=>(f.offset,s)
 | _=>none
def lay (places:List (Nat × Nat))(cells:List Value):List (Nat × List Value)→List Value
 | []=>cells
 | (i,l) :: rest=>match places[i]? with
  | some (off,_)=>lay places (cells.take off++l++cells.drop (off+l.length)) rest
  | none=>[]
def z3u (places:List (Nat × Nat))(m:Nat):List (Nat × Nat)→Bool
 | []=>true
 | (i,k) :: rest=>(match places[i]? with | some (off,s)=>Nat.beq s k&&Nat.ble (off+k) m | none=>false)&&z3u places m rest
theorem j1M (l:List Value):∀ (off k:Nat) (cs:List Value),off+k+l.length≤cs.length →
  (l.zipIdx k).foldl (fun (cs:Array Value) (p:Value × Nat)=>cs.setIfInBounds (off+p.2) p.1) cs.toArray=(cs.take (off+k)++l++cs.drop (off+k+l.length)).toArray:=by
 induction l with
 | nil=>intro off k cs h; simp
 | cons x l ih=>
  intro off k cs h
  simp only [List.length_cons] at h
  simp only [List.zipIdx_cons,List.foldl_cons]
  rw [List.setIfInBounds_toArray,ih off (k+1) _ (by simp; omega)]
  congr 1
  have hk:off+k < cs.length:=by omega
  have e1:(cs.set (off+k) x).take (off+(k+1))=cs.take (off+k)++[x]:=by
   rw [show off+(k+1)=(off+k)+1 by omega,List.take_add_one,List.take_set_of_le (Nat.le_refl _)]
   simp [hk]
  have e2:(cs.set (off+k) x).drop (off+(k+1)+l.length)=cs.drop (off+k+(x :: l).length):=by
   rw [List.drop_set_of_lt (by omega)]
   congr 1
   simp; omega
  rw [e1,e2]
  simp
theorem j4r {places:List (Nat × Nat)}:∀ (parts:List (Nat × Value)) (pl:List (Nat × List Value)) (cells:List Value),parts.map (fun p=>(p.1,p.2.cells.toList))=pl→z3u places cells.length (pl.map fun p=>(p.1,p.2.length))=true →
  Instr.fill (fun i=>places.toArray[i]?) cells.toArray parts=some (lay places cells pl).toArray
 | [],pl,cells,h,_=>by subst h; rfl
 | (i,v) :: parts,pl,cells,h,hf=>by
  subst h
  simp only [List.map_cons,z3u,Bool.and_eq_true] at hf
  cases hp:places[i]? with
  | none=>simp [hp] at hf
  | some os=>
   obtain⟨off,s⟩:=os
   simp only [hp,Bool.and_eq_true] at hf
   have h1:s=v.cells.size:=by simpa using Nat.eq_of_beq_eq_true hf.1.1
   have h2:off+v.cells.size≤cells.length:=by simpa using hf.1.2
   have hpa:places.toArray[i]? = some (off,s):=by simpa using hp
   simp only [Instr.fill,hpa,List.map_cons,lay,hp]
   rw [if_neg (by simp only [List.size_toArray,h1]; simp; omega)]
   have hz:v.cells.zipIdx.foldl (fun (cs:Array Value) (x:Value × Nat)=>match x with | (c,j)=>cs.setIfInBounds (off+j) c) cells.toArray=(cells.take off++v.cells.toList++cells.drop (off+v.cells.toList.length)).toArray:=by
    have h3:=j1M v.cells.toList off 0 cells (by simpa using h2)
    simp only [Nat.add_zero] at h3
    rw [← h3,← Array.foldl_toList]
    simp
   rw [hz]
   exact j4r parts _ _ rfl (by
    have hlen:(cells.take off++v.cells.toList++cells.drop (off+v.cells.toList.length)).length=cells.length:=by simp; omega
    rw [hlen]; exact hf.2)
theorem Ev.build {T:TypeId}{parts:Array (Nat × Operand)}{places:List (Nat × Nat)}{z:List Value}{vs:List (Nat × Value)}{pl:List (Nat × List Value)}{cs:List Value}(ho:o.op = .build T parts)(hp:z3A P T=some places)(hz:q6d P T=some z)
  (hv:parts.toList.map (fun p=>(p.1,E.ev ρ p.2))=vs) (hl:vs.map (fun p=>(p.1,p.2.cells.toList))=pl) (hf:z3u places z.length (pl.map fun p=>(p.1,p.2.length))=true) (hc:lay places z pl=cs):Ev P ρ o w (.agg cs.toArray):=by
 subst hc
 obtain⟨zv,hzv,hzc⟩:=q6L (P:=P) (w:=w) hz
 unfold z3A at hp
 split at hp
 ·rename_i fs hfs
  have hm:∀ (g:Field→Sem (Nat × Nat)),(∀ f s,szT P f.type=some s→(g f).run P w = .ok (f.offset,s) w)→∀ (l:List Field) (pl:List (Nat × Nat)),l.mapM (fun f=>(szT P f.type).map fun s=>(f.offset,s))=some pl→(l.mapM g).run P w = .ok pl w:=by
   intro g hg l
   induction l with
   | nil=>intro pl h; simp at h; subst h; simp
   | cons f l ih=>
    intro pl h
    simp only [List.mapM_cons] at h
    cases hs:szT P f.type with
    | none=>simp [hs] at h
    | some s=>
     cases hr:l.mapM (fun f=>(szT P f.type).map fun s=>(f.offset,s)) with
     | none=>simp [hs,hr] at h
     | some r=>
      simp [hs,hr] at h
      subst h
      simp only [List.mapM_cons,Sem.run_bind,hg f s hs,Result.andThen_ok,ih r hr,Sem.run_pure]
  have hg0:∀ (f:Field) s,szT P f.type=some s→((do pure (f.offset,← sizeOf f.type):Sem (Nat × Nat))).run P w = .ok (f.offset,s) w:=fun f s hs=>by
   simp only [Sem.run_bind,q4M hs,Result.andThen_ok,Sem.run_pure]
  have hmap:=hm _ hg0 fs.toList places hp
  have hfill:=j4r (places:=places) vs pl z hl hf
  have hparts:(parts.map fun (p:Nat × Operand)=>(p.1,E.ev ρ p.2)).toList=vs:=by rw [← hv]; simp
  have hmA:(fs.mapM (fun f=>(do pure (f.offset,← sizeOf f.type):Sem (Nat × Nat)))).run P w = .ok places.toArray w:=by
   rw [Array.mapM_eq_mapM_toList]
   rw [show (List.toArray <$> List.mapM (fun f=>(do pure (Field.offset f,← sizeOf f.type):Sem (Nat × Nat))) fs.toList)=((List.mapM (fun f=>(do pure (Field.offset f,← sizeOf f.type):Sem (Nat × Nat))) fs.toList) >>= fun l=>pure l.toArray) from (bind_pure_comp _ _).symm]
   rw [Sem.run_bind,hmap]
   rfl
  simp only [Ev,execOp,ho,Instr.build,Sem.run_bind,hzv,Result.andThen_ok,run_underlying hfs,hmA,hzc]
  simp only [hparts,hfill,Sem.run_pure,Result.andThen_ok]
 ·cases hp
inductive FK where | int | str | bool
def fkT (P:Program)(T:TypeId):Option FK:=match P.underlying T with
 | some (.int _)=>some .int
 | some .string=>some .str
 | some .bool=>some .bool
 | _=>none
def j4N (P:Program):Nat→List Field→Option (List FK)
 | _,[]=>some []
 | i,f :: fs=>if f.name != "_" && Nat.beq f.offset i then (fkT P f.type).bind fun k=>(j4N P (i+1) fs).map (k :: ·) else none
def j5Q (P:Program)(T:TypeId):Option (List FK):=match P.underlying T with
 | some (.struct fs)=>if !P.stoodInHeld T && !P.eqGuardType P.depth T then j4N P 0 fs.toList else none
 | _=>none
def eqF:List FK→List Value→List Value→Option Bool
 | [],[],[]=>some true
 | .int :: r,.int .i64 a :: xs,.int .i64 b :: ys=>(eqF r xs ys).map (decide (a=b) && ·)
 | .str :: r,.string a :: xs,.string b :: ys=>(eqF r xs ys).map (decide (a=b) && ·)
 | .bool :: r,.bool a :: xs,.bool b :: ys=>(eqF r xs ys).map (decide (a=b) && ·)
 | _,_,_=>none
theorem j2S (d:Nat):∀ (fs:List Field) (i:Nat) (ks:List FK) (xs ys:List Value) (us vs:Array Value) (r:Bool),j4N P i fs=some ks→eqF ks xs ys=some r →
  (∀ j v,xs[j]? = some v→us[i+j]? = some v)→(∀ j v,ys[j]? = some v→vs[i+j]? = some v)→(Op.eqFields (d+1) us vs fs).run P w = .ok r w
 | [],_,ks,xs,ys,us,vs,r,h,he,_,_=>by
  simp [j4N] at h; subst h
  cases xs<;>cases ys<;>simp [eqF] at he
  subst he
  simp [Op.eqFields]
 | f :: fs,i,ks,xs,ys,us,vs,r,h,he,hx,hy=>by
  simp only [j4N] at h
  split at h
  ·rename_i hc
   simp only [Bool.and_eq_true] at hc
   cases hk:fkT P f.type with
   | none=>simp [hk] at h
   | some k=>
    cases hr:j4N P (i+1) fs with
    | none=>simp [hk,hr] at h
    | some ks'=>
     simp [hk,hr] at h
     subst h
     have hoff:f.offset=i:=Nat.eq_of_beq_eq_true hc.2
     have hname:f.name ≠ "_" := by simpa using hc.1
     have hagg:aggT P f.type=some false:=by
      unfold fkT at hk; unfold aggT
      cases hu:P.underlying f.type with
      | none=>simp [hu] at hk
      | some dd=>simp only [hu] at hk ⊢; cases dd<;>simp at hk ⊢
     have hpart:∀ (cs:Array Value) v,cs[i]? = some v→(part f.type cs f.offset).run P w = .ok v w:=fun cs v hv=>by
      simp [part,z3z hagg,hoff,hv]
     have tail:=fun xs' ys' r' hE hx' hy'=>j2S d fs (i+1) ks' xs' ys' us vs r' hr hE hx' hy'
     cases xs with
     | nil=>cases k<;>simp [eqF] at he
     | cons x xs=>
      cases ys with
      | nil=>cases k<;>cases x<;>simp [eqF] at he
      | cons y ys=>
       have hx0:=hx 0 x rfl
       have hy0:=hy 0 y rfl
       have hxt:∀ j v,xs[j]? = some v→us[i+1+j]? = some v:=fun j v hv=>by have:=hx (j+1) v (by simpa using hv); rwa [Nat.add_assoc,Nat.add_comm 1]
       have hyt:∀ j v,ys[j]? = some v→vs[i+1+j]? = some v:=fun j v hv=>by have:=hy (j+1) v (by simpa using hv); rwa [Nat.add_assoc,Nat.add_comm 1]
       have fin:∀ (b:Bool),(Op.equalIn (d+1) f.type x y).run P w = .ok b w→(eqF ks' xs ys).map (b && ·)=some r→(Op.eqFields (d+1) us vs (f :: fs)).run P w = .ok r w:=by
        intro b hb hm
        cases hq:eqF ks' xs ys with
        | none=>simp [hq] at hm
        | some r'=>
         simp [hq] at hm
         have ht:=tail xs ys r' hq hxt hyt
         simp only [Op.eqFields,if_pos hname,Sem.run_bind,hpart us x hx0,hpart vs y hy0,Result.andThen_ok,hb]
         cases b
         ·simp at hm; subst hm; simp
         ·simp at hm; subst hm; simp [ht]
       have hu:∀ k',fkT P f.type=some k'→(match k' with | .int=>∃ q,P.underlying f.type=some (.int q) | .str=>P.underlying f.type=some .string | .bool=>P.underlying f.type=some .bool):=by
        intro k' hk'
        unfold fkT at hk'
        split at hk'<;>cases hk'<;>simp [*]
       have huk:=hu k hk
       cases k with
       | int=>
        obtain⟨q,hq⟩:=huk
        cases x with
        | int kx a=>
         cases y with
         | int ky b=>
          cases kx<;>cases ky<;>simp only [eqF] at he<;>first | (cases he; done) | exact fin _ (by rw [run_equalIn_int w d _ .i64 q a b hq]; rfl) he
         | _=>cases kx<;>simp [eqF] at he
        | _=>simp [eqF] at he
       | str=>
        cases x with
        | string a=>
         cases y with
         | string b=>simp only [eqF] at he; exact fin _ (by rw [run_equalIn_string w d _ a b huk,beqS]) he
         | _=>simp [eqF] at he
        | _=>simp [eqF] at he
       | bool=>
        cases x with
        | bool a=>
         cases y with
         | bool b=>simp only [eqF] at he; exact fin _ (by rw [run_equalIn_bool' w d _ a b huk]; cases a<;>cases b<;>rfl) he
         | _=>simp [eqF] at he
        | _=>simp [eqF] at he
  ·cases h
theorem q0D {T:TypeId}{ks:List FK}{xs ys:List Value}{r:Bool}(hT:j5Q P T=some ks)(h:eqF ks xs ys=some r):Bin P .eql T (.agg xs.toArray) (.agg ys.toArray) (.bool r):=fun x y w=>by
 unfold j5Q at hT
 split at hT
 ·rename_i fs hfs
  split at hT
  ·rename_i hc
   simp only [Bool.and_eq_true,Bool.not_eq_true'] at hc
   have hfo:P.fieldsOf T=fs:=by simp [Program.fieldsOf,hfs]
   have hrun:=j2S (P:=P) (w:=w) 9998 fs.toList 0 ks xs ys xs.toArray ys.toArray r hT h (by simp) (by simp)
   have h2:=run_equalIn_struct (P:=P) w 9999 T xs.toArray ys.toArray (by rw [hfo]; exact hfs) hc.1
   rw [hfo,hrun] at h2
   simp only [Sem.run_bind,run_eqGuard_agg w .eql T x y _ _ hc.2,Result.andThen_ok,run_eql_struct,h2]
  ·cases hT
 ·cases hT
theorem q1J {T:TypeId}{ks:List FK}{xs ys:List Value}{r:Bool}(hT:j5Q P T=some ks)(h:eqF ks xs ys=some r):Bin P .neq T (.agg xs.toArray) (.agg ys.toArray) (.bool (!r)):=fun x y w=>by
 unfold j5Q at hT
 split at hT
 ·rename_i fs hfs
  split at hT
  ·rename_i hc
   simp only [Bool.and_eq_true,Bool.not_eq_true'] at hc
   have hfo:P.fieldsOf T=fs:=by simp [Program.fieldsOf,hfs]
   have hrun:=j2S (P:=P) (w:=w) 9998 fs.toList 0 ks xs ys xs.toArray ys.toArray r hT h (by simp) (by simp)
   have h2:=run_equalIn_struct (P:=P) w 9999 T xs.toArray ys.toArray (by rw [hfo]; exact hfs) hc.1
   rw [hfo,hrun] at h2
   simp only [Sem.run_bind,run_eqGuard_agg w .neq T x y _ _ hc.2,Result.andThen_ok,run_neq_struct,h2]
  ·cases hT
 ·cases hT
end
end Go.E
namespace Go.E
open Go
open Rep (rd)
abbrev I64 (n:Int):Prop:=-9223372036854775808≤n∧n≤9223372036854775807
section
variable {P:Program}{n:Nat}{Q:Post}{ρ:Env}{w:World}{ops:Array Oper}{o:Oper}{rest:List Oper}
theorem rdS.el {α:Type}[Rep α]{S:Nat→Prop}{xs:List α}{A:Option Addr}{m c:Nat}(h:rdS S w xs (.slice A m c)){i:Nat}(hi:i < m) :
  ∃ x b o cs,xs[i]? = some x∧A=some ⟨b,o,none⟩∧S b∧rd S w x cs∧At w b (o+i*Rep.sz α) cs:=by
 have hl:=h.len
 subst hl
 obtain⟨b,o,cs,h1,h2,h3,h4⟩:=h.elem hi
 exact⟨_,b,o,cs,List.getElem?_eq_getElem hi,h1,h2,h3,h4⟩
theorem q1N {T e k:TypeId}{x i:Operand}{A:Option Addr}{b off n c:Nat}{q:IntKind}{j:Nat}(ho:o.op = .indexAddr T x i)(hT:q4Y P T=some e)(hk:szT P e=some k)
  (hx:E.ev ρ x = .slice A n c) (hA:A=some ⟨b,off,none⟩) (hi:E.ev ρ i = .int q (j:Int)) (hj:j < n):Ev P ρ o w (.pointer (some ⟨b,off+j*k,none⟩)):=Ev.ix ho hT hk (by rw [hx,hA]) hi hj
theorem Blk.part {b:Nat}{T:TypeId}{cs:List Value}(h:Blk w b T cs)(j k:Nat):At w b j ((cs.drop j).take k):=At.ofBlk h j _ fun i v hv=>by
 rw [List.getElem?_take] at hv
 split at hv
 ·rwa [List.getElem?_drop] at hv
 ·cases hv
theorem At.part {b o:Nat}{cs:List Value}(h:At w b o cs)(j k:Nat):At w b (o+j) ((cs.drop j).take k):=h.sub j _ fun i v hv=>by
 rw [List.getElem?_take] at hv
 split at hv
 ·rwa [List.getElem?_drop] at hv
 ·cases hv
theorem At.cell0 {b o:Nat}{cs:List Value}(h:At w b o cs){v:Value}(hv:cs[0]? = some v):w.cell? ⟨b,o,none⟩=some v:=h 0 v hv
theorem res0 {fn:Func}(hr:fn.results=#[]):∀ a:Act,Rel fn.ntmps ρ a→(results fn a.tmps).run P w = .ok (.tuple #[]) w:=fun _ _=>results_none hr _ _ _
theorem res1 {fn:Func}{t:Nat}{v:Value}(hr:fn.results=#[.tmp t])(ht:Nat.blt t fn.ntmps=true)(hv:ρ t=v):∀ a:Act,Rel fn.ntmps ρ a→(results fn a.tmps).run P w = .ok v w:=fun a ha=>by
 rw [results_tmp hr,ha.at_ t (by simpa using ht),hv]
theorem res2 {fn:Func}{t s:Nat}{v u:Value}(hr:fn.results=#[.tmp t,.tmp s])(ht:Nat.blt t fn.ntmps=true)(hs:Nat.blt s fn.ntmps=true)(hv:ρ t=v)(hu:ρ s=u):∀ a:Act,Rel fn.ntmps ρ a→(results fn a.tmps).run P w = .ok (.tuple #[v,u]) w:=fun a ha=>by
 rw [results_tmp2 hr,ha.at_ t (by simpa using ht),hv,ha.at_ s (by simpa using hs),hu]
theorem resC {fn:Func}{t T k b off:Nat}{cs:List Value}(hr:fn.results=#[.cell t T])(hT:aggT P T=some true)(hk:szT P T=some k)(ht:Nat.blt t fn.ntmps=true)(hv:ρ t = .pointer (some ⟨b,off,none⟩))
  (hc:At w b off cs) (hl:cs.length=k):∀ a:Act,Rel fn.ntmps ρ a→(results fn a.tmps).run P w = .ok (.agg cs.toArray) w:=by
 obtain⟨v,h1,h2⟩:=endC (R:=fun v _=>v = .agg cs.toArray) hr hT hk ht hv hc hl rfl
 subst h2; exact h1
theorem z5I {fn:Func}{t T k b off s:Nat}{u:Value}{cs:List Value}(hr:fn.results=#[.cell t T,.tmp s])(hT:aggT P T=some true)(hk:szT P T=some k)(ht:Nat.blt t fn.ntmps=true)(hs:Nat.blt s fn.ntmps=true)(hv:ρ t = .pointer (some ⟨b,off,none⟩))(hu:ρ s=u)
  (hc:At w b off cs) (hl:cs.length=k):∀ a:Act,Rel fn.ntmps ρ a→(results fn a.tmps).run P w = .ok (.tuple #[.agg cs.toArray,u]) w:=by
 obtain⟨v,h1,h2⟩:=k2a (R:=fun v _=>v = .tuple #[.agg cs.toArray,u]) hr hT hk ht hs hv hu hc hl rfl
 subst h2; exact h1
theorem q0Z {T:TypeId}(hT:P.underlying T=some .bool){a b:Bool}:Bin P .neq T (.bool a) (.bool b) (.bool (!decide (a=b))):=fun x y w=>by
 have h1:(Op.equalIn 10000 T (.bool a) (.bool b)).run P w = .ok (a == b) w:=run_equalIn_bool' w 9999 T a b hT
 have h2:eqGuard .neq T x y (.bool a) (.bool b)=pure ():=by simp [eqGuard]
 simp only [h2,binOp,Op.equal,Op.maxDepth,Sem.run_bind,Sem.run_pure,Result.andThen_ok,h1]
 cases a<;>cases b<;>rfl
end
end Go.E
namespace Go.E
open Go
open Rep (rd)
theorem rdS.frame {α:Type}[Rep α]{S:Nat→Prop}{w w' : World}{xs:List α}{v:Value}(h:rdS S w xs v)(hf:∀ b,S b→b < w.heap.size→w'.heap[b]? = w.heap[b]?):rdS S w' xs v:=z1w.1 (Rep.frame (z1w.2 h) hf)
class Sep (α:Type) extends Rep α where
 own:List Nat→World→α→List Value→Prop
 own_rd:∀ {L w x cs},own L w x cs→rd (fun b=>b∈L) w x cs
 own_frame:∀ {L w w' x cs},own L w x cs→(∀ b∈L,w'.heap[b]? = w.heap[b]?)→own L w' x cs
 own_lt:∀ {L w x cs},own L w x cs→∀ b∈L,b < w.heap.size
open Go.E.Sep (own)
instance:Sep Int where
 own L w x cs:=L=[]∧rd (fun _=>False) w x cs
 own_rd h:=h.2
 own_frame h _:=h
 own_lt h:=by rw [h.1]; simp
instance:Sep ByteArray where
 own L w x cs:=L=[]∧rd (fun _=>False) w x cs
 own_rd h:=h.2
 own_frame h _:=h
 own_lt h:=by rw [h.1]; simp
def ownL {α:Type}[Sep α](w:World):List Nat→List α→List Value→Prop
 | L,[],cs=>L=[]∧cs=[]
 | L,x :: xs,cs=>∃ L1 L2 c r,L=L1++L2∧cs=c++r∧own L1 w x c∧ownL w L2 xs r
section
variable {α:Type}[Sep α]{w w' : World}
theorem ownL.rd:∀ {xs:List α} {L:List Nat} {cs:List Value},ownL w L xs cs→rdL (fun b=>b∈L) w xs cs
 | [],_,_,h=>h.2
 | _ :: _,_,_,⟨L1,L2,c,r,hL,hc,h1,h2⟩=>by
  subst hL
  exact⟨c,r,hc,Rep.mono (Sep.own_rd h1) (fun b hb=>List.mem_append.2 (.inl hb)),(ownL.rd h2).mono fun b hb=>List.mem_append.2 (.inr hb)⟩
theorem ownL.frame:∀ {xs:List α} {L:List Nat} {cs:List Value},ownL w L xs cs→(∀ b∈L,w'.heap[b]? = w.heap[b]?)→ownL w' L xs cs
 | [],_,_,h,_=>h
 | _ :: _,_,_,⟨L1,L2,c,r,hL,hc,h1,h2⟩,hf=>by
  subst hL
  exact⟨L1,L2,c,r,rfl,hc,Sep.own_frame h1 fun b hb=>hf b (List.mem_append.2 (.inl hb)),h2.frame fun b hb=>hf b (List.mem_append.2 (.inr hb))⟩
theorem ownL.lt:∀ {xs:List α} {L:List Nat} {cs:List Value},ownL w L xs cs→∀ b∈L,b < w.heap.size
 | [],_,_,h=>by rw [h.1]; simp
 | _ :: _,_,_,⟨L1,L2,c,r,hL,hc,h1,h2⟩=>by
  subst hL
  intro b hb
  rcases List.mem_append.1 hb with hb | hb
  ·exact Sep.own_lt h1 b hb
  ·exact h2.lt b hb
theorem ownL.append:∀ {xs ys:List α} {L M:List Nat} {cs ds:List Value},ownL w L xs cs→ownL w M ys ds→ownL w (L++M) (xs++ys) (cs++ds)
 | [],ys,_,M,_,ds,h,h2=>by rw [h.1,h.2]; simpa using h2
 | x :: xs,ys,_,M,_,ds,⟨L1,L2,c,r,hL,hc,h1,h2⟩,h3=>by
  subst hL; subst hc
  exact⟨L1,L2++M,c,r++ds,by simp,by simp,h1,h2.append h3⟩
theorem ownL.single {L:List Nat}{x:α}{c:List Value}(h:own L w x c):ownL w L [x] c:=⟨L,[],c,[],by simp,by simp,h,rfl,rfl⟩
theorem ownL.focus:∀ {xs:List α} {L:List Nat} {cs:List Value},ownL w L xs cs→∀ i (hi:i < xs.length),∃ L1 Li L2 c1 ci c2,L=L1++(Li++L2)∧cs=c1++(ci++c2)∧c1.length=i*Rep.sz α∧own Li w xs[i] ci ∧
  ∀ {w' : World} {Li' : List Nat} {x' : α} {ci' : List Value},own Li' w' x' ci'→(∀ b∈L1,w'.heap[b]? = w.heap[b]?)→(∀ b∈L2,w'.heap[b]? = w.heap[b]?)→ownL w' (L1++(Li'++L2)) (xs.set i x') (c1++(ci'++c2))
 | x :: xs,_,_,⟨L1,L2,c,r,hL,hc,h1,h2⟩,0,_=>⟨[],L1,L2,[],c,r,by simpa using hL,by simpa using hc,by simp,h1,fun {_ Li' x' ci'} ho _ hf2=>by
   exact⟨Li',L2,ci',r,by simp,by simp,ho,h2.frame hf2⟩⟩
 | x :: xs,_,_,⟨L1,L2,c,r,hL,hc,h1,h2⟩,i+1,hi=>by
  obtain⟨M1,Mi,M2,d1,di,d2,hL2,hr,hl,ho,hp⟩:=ownL.focus h2 i (by simpa using hi)
  refine⟨L1++M1,Mi,M2,c++d1,di,d2,by rw [hL,hL2]; simp,by rw [hc,hr]; simp,?_,ho,fun {w' Li' x' ci'} ho' hf1 hf2=>?_⟩
  ·have:=Rep.len (Sep.own_rd h1); simp [hl,this,Nat.add_mul]; omega
  ·refine⟨L1,M1++(Li'++M2),c,d1++(ci'++d2),by simp,by simp,Sep.own_frame h1 fun b hb=>hf1 b (List.mem_append.2 (.inl hb)),?_⟩
   exact hp ho' (fun b hb=>hf1 b (List.mem_append.2 (.inr hb))) hf2
theorem ownL.reps {x:α}{z:List Value}(h:own [] w x z):∀ n,ownL w [] (List.replicate n x) (reps z n)
 | 0=>⟨rfl,rfl⟩
 | n+1=>⟨[],[],z,E.reps z n,rfl,rfl,h,ownL.reps h n⟩
end
def ownS {α:Type}[Sep α](L:List Nat)(w:World)(xs:List α)(v:Value):Prop:=
 ∃ A cap cells,v = .slice A xs.length cap∧xs.length≤cap∧cap≤maxLen ∧
  ((xs=[]∧L=[])∨∃ b o e cur L',A=some ⟨b,o,none⟩∧L=b :: L'∧Blk w b e cur∧(∀ j u,cells[j]? = some u→cur[o+j]? = some u)∧ownL w L' xs cells)
section
variable {α:Type}[Sep α]{w w' : World}{L:List Nat}{xs:List α}{v:Value}
theorem ownS.rd (h:ownS L w xs v):rdS (fun b=>b∈L) w xs v:=by
 obtain⟨A,cap,cells,rfl,h1,h2,h3⟩:=h
 rcases h3 with ⟨rfl,rfl⟩ | ⟨b,o,e,cur,L',rfl,rfl,hb,hc,ho⟩
 ·exact⟨A,cap,[],rfl,h1,h2,rfl,.inl rfl⟩
 ·exact⟨_,cap,cells,rfl,h1,h2,ho.rd.mono fun b hb=>List.mem_cons_of_mem _ hb,.inr ⟨b,o,rfl,List.mem_cons_self,At.ofBlk hb o cells hc⟩⟩
theorem ownS.frame (h:ownS L w xs v)(hf:∀ b∈L,w'.heap[b]? = w.heap[b]?):ownS L w' xs v:=by
 obtain⟨A,cap,cells,rfl,h1,h2,h3⟩:=h
 refine⟨A,cap,cells,rfl,h1,h2,?_⟩
 rcases h3 with h3 | ⟨b,o,e,cur,L',rfl,rfl,hb,hc,ho⟩
 ·exact .inl h3
 ·exact .inr ⟨b,o,e,cur,L',rfl,rfl,(hf b List.mem_cons_self).trans hb,hc,ho.frame fun q hq=>hf q (List.mem_cons_of_mem _ hq)⟩
theorem ownS.lt (h:ownS L w xs v):∀ b∈L,b < w.heap.size:=by
 obtain⟨A,cap,cells,rfl,h1,h2,h3⟩:=h
 rcases h3 with ⟨_,rfl⟩ | ⟨b,o,e,cur,L',rfl,rfl,hb,hc,ho⟩
 ·simp
 ·intro q hq
  rcases List.mem_cons.1 hq with rfl | hq
  ·exact hb.lt
  ·exact ho.lt q hq
theorem ownS.nil {A:Option Addr}{c:Nat}(hc:c≤maxLen):ownS [] w ([]:List α) (.slice A 0 c):=⟨A,c,[],rfl,Nat.zero_le _,hc,.inl ⟨rfl,rfl⟩⟩
end
instance {α:Type} [Sep α]:Sep (List α) where
 own L w xs cs:=∃ v,cs=[v]∧ownS L w xs v
 own_rd:=by rintro L w x cs ⟨v,rfl,h⟩; exact⟨v,rfl,h.rd⟩
 own_frame:=by rintro L w w' x cs ⟨v,rfl,h⟩ hf; exact⟨v,rfl,h.frame hf⟩
 own_lt:=by rintro L w x cs ⟨v,rfl,h⟩; exact h.lt
end Go.E
