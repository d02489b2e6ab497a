/- Abstract states of a walk: plain lemmas on the model, without conditions of their own. -/
import Derived.Test.YtnhofaohogianaaGreatEng5
set_option linter.unusedVariables false
set_option linter.unusedSimpArgs false
set_option linter.ambiguousOpen false
set_option linter.unusedSectionVars false
set_option linter.unnecessarySimpa false
open List renaming getElem?_map→Cxz,map_cons→Bhz,not_mem_nil→Cyz,range'→Czz,map_nil→Daz,replicate→Bmz
open Nat renaming beq→Aaz,eq_of_beq_eq_true→Abz,blt→Cwz,ne_of_beq_eq_false→Dbz,lt_of_lt_of_le→Bcz,add_mul→Arz
open Bool renaming and_eq_true→Afz
namespace Go.A
open Go Go.E
inductive Hold (ρ:AE) (σ:St):X→Prop
 | tmp (t:Nat) {x:X} (h:ρ t=x):Hold ρ σ x
 | box (r c:Nat) {cs:List X} {x:X} (h:fnOf σ r=.box cs) (hc:cs[c]?=some x):Hold ρ σ x
 | ag {cs:List X} {x:X} (c:Nat) (h:Hold ρ σ (.ag cs)) (hc:cs[c]?=some x):Hold ρ σ x
 | tu {cs:List X} {x:X} (c:Nat) (h:Hold ρ σ (.tu cs)) (hc:cs[c]?=some x):Hold ρ σ x
 | el {α:Type} {m:Md} {k k' j:Nat} {f:α→D} {xs:List α} {y:α} {zs:List D} (c:Nat) (h:Hold ρ σ (.d m (.sl k (xs.map f)))) (hj:xs[j]?=some y) (hc:(f y).cells[c]?=some (.sl k' zs)):Hold ρ σ (.d m (.sl k' zs))
 | rw {α:Type} {m:Md} {k k' j:Nat} {f:α→D} {xs:List α} {y:α} {zs:List D} (r c:Nat) (h:fnOf σ r=.row m k (xs.map f)) (hj:xs[j]?=some y) (hc:(f y).cells[c]?=some (.sl k' zs)):Hold ρ σ (.d m (.sl k' zs))
theorem Hold.vr {S:Start}{F:Nat→Prop}{g:Nat→G}{w:World}{ρ:AE}{σ:St}{ρc:Env}(hs:Sim S F g (fnOf σ) w)(hv:VR S F g w ρ ρc):∀ {x:X},Hold ρ σ x→∃ v,Go.A.vr (SM F S.B) w g x v
 | _,.tmp t h=>⟨ρc t,h▸hv t⟩
 | _,.box r c h hc=>by
  obtain⟨b,T,vs,_,_,h3⟩:=z6u hs h
  obtain⟨v,_,h4⟩:=h3.get hc
  exact⟨v,h4⟩
 | _,.ag c h hc=>by
  obtain⟨v,h1⟩:=h.vr hs hv
  rw[Go.A.vr] at h1
  obtain⟨vs,_,h2⟩:=h1
  obtain⟨v,_,h4⟩:=h2.get hc
  exact⟨v,h4⟩
 | _,.tu c h hc=>by
  obtain⟨v,h1⟩:=h.vr hs hv
  rw[Go.A.vr] at h1
  obtain⟨vs,_,h2⟩:=h1
  obtain⟨v,_,h4⟩:=h2.get hc
  exact⟨v,h4⟩
 | _,.el c h hj hc=>by
  obtain⟨v,h1⟩:=h.vr hs hv
  rw[Go.A.vr,rdC] at h1
  obtain⟨A,cap,cells,_,_,_,h2,_⟩:=h1
  obtain⟨cs,_,h3,_⟩:=h2.get (i:=_) (by rw[Cxz,hj];rfl)
  obtain⟨v,_,h4⟩:=rdCs.get h3 hc
  exact⟨v,by rw[Go.A.vr];exact h4⟩
 | _,.rw r c h hj hc=>by
  obtain⟨v,L,gs,hg,hrow⟩:=z7t hs (.inr ⟨_,_,h,rfl⟩)
  obtain⟨_,h2,_⟩:=q6t hrow
  obtain⟨cs,_,h3,_⟩:=h2.get (i:=_) (by rw[Cxz,hj];rfl)
  obtain⟨v,_,h4⟩:=rdCs.get h3 hc
  exact⟨v,by rw[Go.A.vr];exact h4⟩
def rngY:X→Prop
 | .d _ (.sl _ xs)=>(xs.length:Int)≤9223372036854775807
 | .d _ x=>rngD x
 | _=>True
theorem k4K {S1:Md→Nat→Prop}{w:World}{g:Nat→G}{x:X}{v:Value}(h:vr S1 w g x v):rngY x:=by
 cases x<;>try trivial
 rename_i m x
 cases x<;>try trivial
 ·rw[vr,rdC] at h;exact h.2
 ·rw[vr,rdC] at h;exact h.2
 ·rw[vr,rdC] at h
  obtain⟨A,cap,cells,_,h1,h2,_⟩:=h
  have h2:cap≤9223372036854775807:=h2
  show _≤(9223372036854775807:Int)
  omega
section
variable {P:Program}{S:Start}{n:Nat}{ρ:AE}{σ:St}{c:Code}{QP:q3Z}
theorem q0O {x:X}(hx:Hold ρ σ x)(h:rngY x→AW P S n c QP ρ σ):AW P S n c QP ρ σ:=by
 intro F g w ρc hs hv
 obtain⟨v,h1⟩:=hx.vr hs hv
 exact h (k4K h1) F g w ρc hs hv
theorem q1Z {r k:Nat}{m:Md}{xs:List D}(hr:fnOf σ r=.row m k xs)(h:(xs.length:Int)≤9223372036854775807→AW P S n c QP ρ σ):AW P S n c QP ρ σ:=by
 intro F g w ρc hs hv
 obtain⟨v,L,gs,hg,hrow⟩:=z7t hs (.inr ⟨m,xs,hr,rfl⟩)
 obtain⟨A,c,_,h1,h2⟩:=hrow.1.form
 have h2:c≤9223372036854775807:=h2
 rw[lnM] at h1
 exact h (by omega) F g w ρc hs hv
theorem q2a {r k:Nat}{m:Md}{es:List (List Cell)}{hh:List (Nat×Nat×Nat)}(hr:fnOf σ r=.deep m k es hh)(h:(es.length:Int)≤9223372036854775807→AW P S n c QP ρ σ):AW P S n c QP ρ σ:=by
 intro F g w ρc hs hv
 obtain⟨v,L,gs,hg,hrow⟩:=z7t hs (.inl ⟨m,hh,hr⟩)
 obtain⟨A,c,_,h1,h2⟩:=hrow.1.form
 have h2:c≤9223372036854775807:=h2
 exact h (by omega) F g w ρc hs hv
end
section
variable {P:Program}{T:TypeId}{X1 Y1:X}{a b:Int}{m m' : Md}
abbrev BR (P:Program)(op:BinOp)(T:TypeId)(X1 Y1:X)(u v:Value)(z:D)(r:Value):Prop:=rngX X1→rngX Y1→Bin P op T u v r∧rngD z
theorem bAdd (h:I64 (a+b)):BR P .add T X1 Y1 (.int .i64 a) (.int .i64 b) (.i .i64 (a+b)) (.int .i64 (a+b)):=fun _ _=>⟨Bin.add h,h⟩
theorem bSub (h:I64 (a-b)):BR P .sub T X1 Y1 (.int .i64 a) (.int .i64 b) (.i .i64 (a-b)) (.int .i64 (a-b)):=fun _ _=>⟨Bin.sub h,h⟩
theorem z5d {p q:Nat}(h:I64 ((p+q:Nat):Int)):BR P .add T X1 Y1 (.int .i64 (p:Int)) (.int .i64 (q:Int)) (.i .i64 ((p+q:Nat):Int)) (.int .i64 ((p+q:Nat):Int)):=fun _ _=>⟨q1Q rfl h,h⟩
theorem k4L {p k:Nat}(hk:k≤4611686018427387904):BR P .sub T (.d m (.i .i64 (p:Int))) Y1 (.int .i64 (p:Int)) (.int .i64 (k:Int)) (.i .i64 ((p:Int)-(k:Int))) (.int .i64 ((p:Int)-(k:Int))):=fun h _=>⟨Bin.sub (j9I h hk),j9I h hk⟩
theorem k6s:BR P .and T X1 Y1 (.int .i64 a) (.int .i64 b) (.i .i64 (j8w a b)) (.int .i64 (j8w a b)):=fun _ _=>⟨q1R,k2j _⟩
theorem k2u {q:IntKind}(h:0≤b∧b<63):BR P .shl T X1 Y1 (.int .i64 1) (.int q b) (.i .i64 ((2 ^ b.toNat:Nat):Int)) (.int .i64 ((2 ^ b.toNat:Nat):Int)):=fun _ _=>⟨q1N h.1 h.2,k4y h.2⟩
theorem k2v {q:IntKind}(h:0≤a∧0≤b∧b<64):BR P .shr T (.d m (.i .i64 a)) Y1 (.int .i64 a) (.int q b) (.i .i64 ((a.toNat >>> b.toNat:Nat):Int)) (.int .i64 ((a.toNat >>> b.toNat:Nat):Int)):=fun h1 _=>⟨q1O h.1 h.2.1 h.2.2,k4z h1⟩
theorem k2w (h:0≤a∧0≤b):BR P .and T (.d m (.i .i64 a)) (.d m' (.i .i64 b)) (.int .i64 a) (.int .i64 b) (.i .i64 ((a.toNat &&& b.toNat:Nat):Int)) (.int .i64 ((a.toNat &&& b.toNat:Nat):Int)):=fun h1 h2=>⟨q1P h.1 h1.2 h.2 h2.2,k4A h h1 h2⟩
theorem bOrI (h:0≤a∧0≤b):BR P .or T (.d m (.i .i64 a)) (.d m' (.i .i64 b)) (.int .i64 a) (.int .i64 b) (.i .i64 ((a.toNat ||| b.toNat:Nat):Int)) (.int .i64 ((a.toNat ||| b.toNat:Nat):Int)):=fun h1 h2=>⟨q2E h.1 h1.2 h.2 h2.2,k6m h h1 h2⟩
theorem bRem (h:b≠0):BR P .rem T (.d m (.i .i64 a)) Y1 (.int .i64 a) (.int .i64 b) (.i .i64 (a.tmod b)) (.int .i64 (a.tmod b)):=fun h1 _=>⟨q1T h,k4B h1⟩
theorem bQuo (h:b≠0)(g:I64 (a.tdiv b)):BR P .quo T X1 Y1 (.int .i64 a) (.int .i64 b) (.i .i64 (a.tdiv b)) (.int .i64 (a.tdiv b)):=fun h1 _=>⟨q1S h g,g⟩
theorem k6t {s t:BA_}(h:s.size+t.size≤9223372036854775807):BR P .add T X1 Y1 (.string s) (.string t) (.s (s++t)) (.string (s++t)):=fun _ _=>⟨q1J h,by simp only[rngD];rw[ByteArray.size_append];exact h⟩
end
section
variable {P:Program}[HasTab P]{S:Start}{n:Nat}{ops:Array Oper}{Q:AE→St→Prop}{QP:q3Z}{o:Oper}{rest:List Oper}{ρ:AE}{σ:St}{d:Nat}{v:X}{rd:List Nat}{md:Md2}{T e:Nat}{t te:TI}{α:Type}{f:α→D}{xs:List α}{k:Nat}{m m' : Md}
theorem z5e {m:Md}:∀ {ds:List D} {c:Nat},z9j [] c (ds.map (Cell.d m))=some (ds.map (dX m))
 | [],c=>rfl
 | x::ds,c=>by simp only[Bhz,z9j,j1P,z5e]
theorem LPa {x:Operand}{r j c:Nat}{y:α}(hj:xs[j]?=some y)(h:AL P S ops Q (q4a md [r] []) rest (updX ρ d (.ag ((((f y).cells.drop c).take t.sz).map (dX m)))) σ)(ho:o.op=.load T x:=by rfl)(hT:(HasTab.tab P).get T=some t:=by rfl)(ha:t.agg=true:=by rfl)(hx:evX ρ x=.pe r none j c:=by rfl)(hσ:fnOf σ r=.row m k (xs.map f):=by rfl)(hl:Aaz (((f y).cells.drop c).take t.sz).length t.sz=true:=by rfl)(hd:o.dst=some d:=by rfl)(hg:q3O ops ρ o=some true:=by rfl):AL P S ops Q md (o::rest) ρ σ:=
 q0f (q0L (hx':=[]) (p:=(k,(xs.map f).map (elOf m))) ho (by rw[TI.agg' (Tab.chk HasTab.ok hT),ha]) (TI.sz' (Tab.chk HasTab.ok hT)) hx (by rw[hσ];rfl) (q3I (q3I hj)) (by have:=Abz hl;simpa[elOf] using this) (.inl rfl) (by rw[elOf,← List.map_drop,← List.map_take];exact z5e)) h hd hg
theorem AL.fz (r:Nat){ds:List D}(hr:fnOf σ r=.row m k ds)(h:AL P S ops Q (ghM md) rest (fun t=>frX r m k ds (ρ t)) (frS r m k ds 0 σ)):AL P S ops Q md rest ρ σ:=AL.gh (q0p hr) h
end
section
variable {S1:Md→Nat→Prop}{w:World}{g1 g2:Nat→G}{l:List (Nat×Nat)}
mutual
theorem k4k (hg:∀ i j,renI l i=some j→g2 j=g1 i):∀ {x:X} {v:Value},vr S1 w g1 x v→vr S1 w g2 (renX l x) v
 | .d m x,v,h=>by rw[renX];rw[vr] at h ⊢;exact h
 | .ag cs,v,h=>by rw[renX];rw[vr] at h ⊢;obtain⟨vs,h1,h2⟩:=h;exact⟨vs,h1,j0x hg h2⟩
 | .tu cs,v,h=>by rw[renX];rw[vr] at h ⊢;obtain⟨vs,h1,h2⟩:=h;exact⟨vs,h1,j0x hg h2⟩
 | .fn f cs,v,h=>by rw[renX];rw[vr] at h ⊢;obtain⟨vs,h1,h2⟩:=h;exact⟨vs,h1,j0x hg h2⟩
 | .ref r p,v,h=>by
  rw[renX]
  cases hr:renI l r with
  | none=>show vr _ _ _ .u _;rw[vr];trivial
  | some j=>show vr _ _ _ (.ref j p) _;rw[vr] at h ⊢;rw[hg r j hr];exact h
 | .vs r p a b,v,h=>by
  rw[renX]
  cases hr:renI l r with
  | none=>show vr _ _ _ .u _;rw[vr];trivial
  | some j=>show vr _ _ _ (.vs j p a b) _;rw[vr] at h ⊢;rw[hg r j hr];exact h
 | .pb r c,v,h=>by
  rw[renX]
  cases hr:renI l r with
  | none=>show vr _ _ _ .u _;rw[vr];trivial
  | some j=>show vr _ _ _ (.pb j c) _;rw[vr] at h ⊢;rw[hg r j hr];exact h
 | .pe r p i c,v,h=>by
  rw[renX]
  cases hr:renI l r with
  | none=>show vr _ _ _ .u _;rw[vr];trivial
  | some j=>show vr _ _ _ (.pe j p i c) _;rw[vr] at h ⊢;rw[hg r j hr];exact h
 | .pf m x,v,h=>by rw[renX];rw[vr] at h ⊢;exact h
 | .nl k,v,h=>by rw[renX];rw[vr] at h ⊢;exact h
 | .kv _,v,h=>by rw[renX];rw[vr] at h ⊢;exact h
 | .pv _ _,v,h=>by rw[renX];rw[vr] at h ⊢;exact h
 | .u,v,h=>by rw[renX];rw[vr];trivial
theorem j0x (hg:∀ i j,renI l i=some j→g2 j=g1 i):∀ {xs:List X} {vs:List Value},vrs S1 w g1 xs vs→vrs S1 w g2 (z5c l xs) vs
 | [],vs,h=>by rw[z5c];rw[vrs] at h ⊢;exact h
 | x::xs,vs,h=>by
  rw[z5c]
  rw[vrs] at h ⊢
  obtain⟨v,r,h1,h2,h3⟩:=h
  exact⟨v,r,h1,k4k hg h2,j0x hg h3⟩
end
end
def okH (l:List (Nat×Nat)):Root→Bool
 | .deep _ _ _ hs=>hs.all fun p=>(renI l p.2.2).isSome
 | _=>true
def renS (l:List (Nat×Nat))(n:Nat)(σ:St):St:=(List.range n).map fun j=>match invI l j with|some i=>renR l (fnOf σ i)|none=>.none
theorem j7M:∀ {l:St} {i:Nat},fnOf l i=(l[i]?).getD .none
 | [],i=>by rw[z0N];simp
 | x::l,0=>rfl
 | x::l,i+1=>by simp only[fnOf];rw[j7M (l:=l)];simp
theorem k0c {l:List (Nat×Nat)}{n:Nat}{σ:St}{j:Nat}:fnOf (renS l n σ) j=if j<n then (match invI l j with|some i=>renR l (fnOf σ i)|none=>.none) else .none:=by
 rw[j7M,renS,Cxz]
 by_cases hj:j<n
 ·rw[List.getElem?_range hj,ifP hj];rfl
 ·rw[List.getElem?_eq_none (by simpa using hj),ifN hj];rfl
def j3i (l:List (Nat×Nat))(n0 n:Nat)(σ:St):Bool:=
 Nat.ble n0 n&&(z3J (l.map (·.1))&&(z3J (l.map (·.2))&&((List.range n0).all (fun i=>match renI l i with|some j=>Aaz j i|none=>false)&&l.all fun p=>Cwz p.2 n&&okH l (fnOf σ p.1))))
def renG (l:List (Nat×Nat))(n:Nat)(g:Nat→G):Nat→G:=fun j=>if j<n then (match invI l j with|some i=>g i|none=>.none) else .none
section
variable {S:Start}{F:Nat→Prop}{g:Nat→G}{w:World}{σ:St}{ρ:AE}
theorem Sim.ren (h:Sim S F g (fnOf σ) w){l:List (Nat×Nat)}{n n0:Nat}(hS:S.n0=n0)(hok:j3i l n0 n σ=true):Sim S F (renG l n g) (fnOf (renS l n σ)) w∧∀ x v,vr (SM F S.B) w g x v→vr (SM F S.B) w (renG l n g) (renX l x) v:=by
 subst hS
 simp only[j3i,Afz] at hok
 obtain⟨hn0,hd1,hd2,hpar,hall⟩:=hok
 have hn0:S.n0≤n:=by simpa using hn0
 have hd1:=q8f hd1
 have hd2:=q8f hd2
 have hp:∀ i,i<S.n0→renI l i=some i:=fun i hi=>by
  have:=List.all_eq_true.1 hpar i (List.mem_range.2 hi)
  split at this
  ·rename_i j hj;rw[hj,Abz this]
  ·cases this
 have hl:∀ i j,renI l i=some j→j<n∧okH l (fnOf σ i)=true:=fun i j hij=>by
  have:=List.all_eq_true.1 hall (i,j) (j0a hij)
  simp only[Afz] at this
  exact⟨by simpa using this.1,this.2⟩
 have hg:∀ i j,renI l i=some j→renG l n g j=g i:=fun i j hij=>by
  simp only[renG,ifP (hl i j hij).1,z6b hd2 hij hd1]
 have hinv:∀ j,(∃ i,renI l i=some j∧renG l n g j=g i∧fnOf (renS l n σ) j=renR l (fnOf σ i))∨(renG l n g j=.none∧fnOf (renS l n σ) j=.none):=fun j=>by
  rw[k0c]
  simp only[renG]
  by_cases hj:j<n
  ·simp only[ifP hj]
   cases hi:invI l j with
   | none=>exact .inr ⟨rfl,rfl⟩
   | some i=>exact .inl ⟨i,j3c hi hd1,by simp,by simp⟩
  ·exact .inr (by simp[hj])
 refine⟨⟨h.chg,h.bB,h.fmono,h.fnew,h.flt,fun j=>?_,h.low,fun j=>?_,fun j=>?_,fun j j' hne b hb=>?_,fun j b hb=>?_⟩,fun x v hv=>k4k hg hv⟩
 ·rcases hinv j with ⟨i,h1,h2,h3⟩|⟨h2,h3⟩
  ·rw[h2,h3]
   have hr:=h.roots i
   have hh:=(hl i j h1).2
   revert hr hh
   cases fnOf σ i<;>intro hr hh<;>cases hgi:g i<;>rw[hgi] at hr<;>try exact hr.elim
   ·trivial
   ·trivial
   ·obtain⟨vs,k1,k2⟩:=hr
    exact⟨vs,k1,j0x hg k2⟩
   ·exact hr
   ·simp only[okH] at hh
    refine⟨hr.1,fun p hp gc hgc=>?_,hr.2.2⟩
    obtain⟨q,hq,rfl⟩:=List.mem_map.1 hp
    obtain⟨j',hj'⟩:=Option.isSome_iff_exists.1 (List.all_eq_true.1 hh q hq)
    simp only[hj',Option.getD_some]
    rw[hg _ _ hj']
    exact hr.2.1 q hq gc hgc
  ·rw[h2,h3];trivial
 ·by_cases hj:j<S.n0
  ·rw[hg j j (hp j hj)];exact h.hdr j
  ·rw[h.low j (Nat.le_of_not_lt hj)];trivial
 ·rcases hinv j with ⟨i,_,h2,_⟩|⟨h2,_⟩
  ·rw[h2];exact h.nodup i
  ·rw[h2];exact List.nodup_nil
 ·rcases hinv j with ⟨i,h1,h2,_⟩|⟨h2,_⟩
  ·rw[h2] at hb
   rcases hinv j' with ⟨i',h1',h2',_⟩|⟨h2',_⟩
   ·rw[h2']
    exact h.disj i i' (fun e=>hne (by subst e;rw[h1] at h1';exact Option.some.inj h1')) b hb
   ·rw[h2'];exact Cyz
  ·rw[h2] at hb;cases hb
 ·rcases hinv j with ⟨i,_,h2,_⟩|⟨h2,_⟩
  ·rw[h2] at hb;exact h.own i b hb
  ·rw[h2] at hb;cases hb
def WkR (l:List (Nat×Nat))(ρ:AE):List (Nat×X)→Prop
 | []=>True
 | (t,x)::L=>Wk x (renX l (ρ t))∧WkR l ρ L
theorem k4l {ρc:Env}{l:List (Nat×Nat)}{g' : Nat→G}(h:∀ t,vr (SM F S.B) w g' (renX l (ρ t)) (ρc t)):∀ {L:List (Nat×X)},WkR l ρ L→VR S F g' w (ofX L) ρc
 | [],_=>fun t=>by simp only[Go.A.ofX];rw[Go.A.vr];trivial
 | (t,x)::L,hl=>fun s=>by
  simp only[Go.A.ofX,updX]
  cases hb:Aaz s t with
  | true=>have:=Abz hb;subst this;exact hl.1.vr (h _)
  | false=>exact k4l h hl.2 s
theorem GH.ren {n0:Nat}(hS:S.n0=n0)(l:List (Nat×Nat))(n:Nat){L:List (Nat×X)}{σt:St}(hL:WkR l ρ L)(hσ:renS l n σ=σt:=by rfl)(hc:j3i l n0 n σ=true:=by rfl):GH S ρ σ (ofX L) σt:=by
 intro F g w ρc hs hv
 subst hσ
 obtain⟨h1,h2⟩:=hs.ren hS hc
 exact⟨F,_,h1,k4l (fun t=>h2 _ _ (hv t)) hL⟩
theorem endA.ren {P:Program}{fn:Func}{e:Exit}{lr:List ResultVar}{xs:List X}{res:X}{post:St}{n0:Nat}(l:List (Nat×Nat))(n:Nat)(he:e=.normal∨e=.ret)(hS:S.n0=n0)(hl:fn.results=lr.toArray)(ht:lr.all (j0n fn.ntmps)=true)(hx:j3d P ρ σ lr=some xs)(hw:Wk res (renX l (tupX xs)))
  (hc:j3i l n0 n σ=true) (hp:renS l n σ=post):endA P S fn res post e ρ σ:=by
 refine⟨he,fun F g w ρc hs hv=>?_⟩
 obtain⟨vs,h1,h2⟩:=j4F hs hv ht hx
 obtain⟨k1,k2⟩:=hs.ren hS hc
 subst hp
 exact⟨tupV vs,fun a ha=>j6a hl (h1 a ha),F,_,k1,hw.vr (k2 _ _ (k6q h2))⟩
end
theorem dT {p:Prop}[Decidable p](h:p):decide p=true:=decide_eq_true h
theorem dF {p:Prop}[Decidable p](h:¬ p):decide p=false:=decide_eq_false h
theorem nT {p:Prop}[Decidable p](h:¬ p):(!decide p)=true:=by simp[h]
theorem nF {p:Prop}[Decidable p](h:p):(!decide p)=false:=by simp[h]
theorem bF {t:Bool}(h:¬ t=true):t=false:=by simpa using h
theorem bnT {t:Bool}(h:¬ t=true):(!t)=true:=by simpa using h
theorem bnF {t:Bool}(h:t=true):(!t)=false:=by simp[h]
section
variable {P:Program}{S:Start}{n:Nat}{QP:q3Z}{ρ:AE}{σ:St}{c:Operand}{x y:Code}{m:Md}{b:Bool}
theorem q0D (hc:evX ρ c=.d m (.b b))(hb:b=true)(h:AW P S n x QP ρ σ):AW P S n (.cond c x y) QP ρ σ:=q0Q hc (fun _=>h) fun e=>by rw[hb] at e;cases e
theorem q0E (hc:evX ρ c=.d m (.b b))(hb:b=false)(h:AW P S n y QP ρ σ):AW P S n (.cond c x y) QP ρ σ:=q0Q hc (fun e=>by rw[hb] at e;cases e) fun _=>h
end
section
variable {P:Program}[HasTab P]{S:Start}{n:Nat}{ops:Array Oper}{Q:AE→St→Prop}{o:Oper}{l rest:List Oper}{ρ:AE}{σ:St}{d:Nat}{md:Md2}{m:Md}{b:Bool}
theorem q0F {rd:List Nat}{b b' : Bool}(e:b=b')(h:LT P S o ρ σ rd (.d m (.b b)) []):LT P S o ρ σ rd (.d .fz (.b b')) []:=by
 subst e
 intro σ1 F g w ρc a1 a2 a3 a4
 have:=h σ1 F g w ρc a1 a2 a3 a4
 revert this
 generalize (execOp (E.ev ρc) o).run P w=r
 intro h
 have key:∀ vc w',(∃ F' g',Sim S F' g' (owr σ1 []) w'∧Pres S.B F g w F' g' w'∧vr (SM F' S.B) w' g' (.d m (.b b)) vc)→∃ F' g',Sim S F' g' (owr σ1 []) w'∧Pres S.B F g w F' g' w'∧vr (SM F' S.B) w' g' (.d .fz (.b b)) vc:=fun vc w' ⟨F',g',h1,h2,h3⟩=>⟨F',g',h1,h2,by rw[vr,rdC] at h3 ⊢;exact h3⟩
 cases r with
 | ok x w'=>
  cases x<;>simp only[j2X] at h ⊢
  case value u=>exact key _ _ h
  case skip=>exact key _ _ h
  case enter f args=>exact h.mono fun e w'' ⟨v,k1,k2⟩=>⟨v,k1,key _ _ k2⟩
 | halt x w'=>simp only[j2X] at h
theorem VT {rd:List Nat}(hv:opV (HasTab.tab P) ρ σ o.op=some (.d m (.b b),rd))(hb:b=true)(h:AL P S ops Q (q4a md rd []) rest (updX ρ d (.d .fz (.b true))) σ)(hd:o.dst=some d:=by rfl)(hg:q3O ops ρ o=some true:=by rfl):AL P S ops Q md (o::rest) ρ σ:=
 q0f (wr:=[]) (q0F hb (q1u (P:=P) (S:=S) HasTab.ok hv)) h hd hg
theorem VF {rd:List Nat}(hv:opV (HasTab.tab P) ρ σ o.op=some (.d m (.b b),rd))(hb:b=false)(h:AL P S ops Q (q4a md rd []) rest (updX ρ d (.d .fz (.b false))) σ)(hd:o.dst=some d:=by rfl)(hg:q3O ops ρ o=some true:=by rfl):AL P S ops Q md (o::rest) ρ σ:=
 q0f (wr:=[]) (q0F hb (q1u (P:=P) (S:=S) HasTab.ok hv)) h hd hg
theorem q2T {β:Type}(k:Nat){M:β→Prop}(L:β→List (Nat×X))(hk:AL P S ops (fun ρ' σ'=>∃ s,M s∧WkL ρ' (L s)∧σ'=σ) none (l.take k) ρ σ)(h:∀ s,M s→AL P S ops Q none (l.drop k) (ofX (L s)) σ):AL P S ops Q none l ρ σ:=by
 intro j lg hd
 have e:l=l.take k++l.drop k:=(List.take_append_drop k l).symm
 rw[e]
 refine AT.bind (hk j lg hd) fun ρ' σ' lg' hd' ⟨s,h1,h2,h3⟩=>?_
 subst h3
 exact .gh (q3w (L s) h2) (h s h1 _ _ _)
end
section
variable {P:Program}{S:Start}{n:Nat}{QP:q3Z}{ρ:AE}{σ:St}{c:Code}
theorem q0e (j:Nat)(L:List (Nat×X))(R:List (Nat×Root))(h1:AW P S n c (z6E (fun ρ' σ'=>GH S ρ' σ' (ofX L) (owrL (σ.take j) R)) QP) ρ σ)(h2:QP .normal (ofX L) (owrL (σ.take j) R)):AW P S n c QP ρ σ:=
 AW.cut (β:=Unit) j (fun _=>L) (fun _=>R) (M:=fun _=>True) (h1.mono fun e ρ' σ' h=>by cases e<;>first|exact⟨(),trivial,h⟩|exact h) fun _ _=>h2
theorem AW.len {α:Type}{xs:List α}{f:α→D}{m:Md}{k:Nat}(hx:Hold ρ σ (.d m (.sl k (xs.map f))))(h:(xs.length:Int)≤9223372036854775807→AW P S n c QP ρ σ):AW P S n c QP ρ σ:=
 q0O hx fun h1=>h (by simpa[rngY] using h1)
theorem q2U {α:Type}{xs:List α}{f:α→D}{m:Md}{k:Nat}(r:Nat)(hr:fnOf σ r=.row m k (xs.map f))(h:(xs.length:Int)≤9223372036854775807→AW P S n c QP ρ σ):AW P S n c QP ρ σ:=
 q1Z hr fun h1=>h (by simpa using h1)
theorem q1x {m:Md}{k:IntKind}{b:Int}(hx:Hold ρ σ (.d m (.i k b)))(h:rngI k b→AW P S n c QP ρ σ):AW P S n c QP ρ σ:=q0O hx h
theorem q2V {m:Md}{t:BA_}(hx:Hold ρ σ (.d m (.s t)))(h:t.size≤9223372036854775807→AW P S n c QP ρ σ):AW P S n c QP ρ σ:=q0O hx h
end
theorem ltN {k n:Nat}(h:k<n):(k:Int)<(n:Int):=by omega
theorem ltI {k:Nat}{b:Int}(h:k<b.toNat):(k:Int)<b:=by omega
theorem geN {n:Nat}:¬ ((n:Nat):Int)<(n:Int):=by omega
theorem geI {b:Int}:¬ ((b.toNat:Nat):Int)<b:=by omega
section
variable {P:Program}[HasTab P]{S:Start}{n:Nat}{ops:Array Oper}{Q:AE→St→Prop}{QP:q3Z}{o:Oper}{rest:List Oper}{ρ:AE}{σ:St}{d:Nat}{md:Md2}{T e:Nat}{t te:TI}{m:Md}
theorem k0d {β:Type}{f:β→X}:∀ {l:List (Nat×β)} {i:Nat},l.map (·.1)=Czz i l.length→l.map (fun p=>(p.1,f p.2))=idxX i (l.map fun p=>f p.2)
 | [],_,_=>rfl
 | p::l,i,h=>by
  simp only[Bhz,lnC,List.range'_succ,List.cons.injEq] at h
  simp only[Bhz,idxX,k0d h.2,h.1]
theorem LIR {α:Type}{f:α→D}{xs:List α}{mm:Nat}{parts:Array (Nat×Operand)}{zs:List X}(r:Nat)(h:AL P S ops Q (q4a md [] [r]) rest (updX ρ d (.ref r none)) (setL σ r (.row m te.sz (xs.map f))))(ho:o.op=.buildSlice T mm parts:=by rfl)(hT:(HasTab.tab P).get T=some t:=by rfl)(he:t.el=some e:=by rfl)(hE:(HasTab.tab P).get e=some te:=by rfl)(hz:te.z=some zs:=by rfl)(hzl:zs.length=te.sz:=by rfl)(hp:parts.toList.map (·.1)=Czz 0 parts.toList.length:=by rfl)(hds:asDs m (parts.toList.map fun p=>evX ρ p.2)=some (xs.map f):=by rfl)(hw:(xs.map f).all (fun d=>Aaz d.cells.length te.sz)=true:=by rfl)(hn:(xs.map f).length=mm:=by rfl)(hk0:Cwz 0 te.sz=true:=by rfl)(hm:Cwz 0 mm=true:=by rfl)(hm2:Nat.ble (mm*te.sz) 100000=true:=by rfl)(hr:fnOf σ r=.none:=by rfl)(hd:o.dst=some d:=by rfl)(hg:q3O ops ρ o=some true:=by rfl):AL P S ops Q md (o::rest) ρ σ:=by
 obtain⟨z,h1,h2⟩:=TI.z' (Tab.chk HasTab.ok hE) hz
 exact q0f (q2h ho (q3P hT he hE).1 (q3P hT he hE).2 h1 (by rw[← hzl,← (h2 (fun _ _=>True) default (fun _=>.none)).len]) (k0d hp) hds hw hn hk0 hm hm2 hr) h hd hg
end
theorem z3L {m:Md}:mle m .bo=true:=by cases m<;>rfl
theorem DA {α:Type}{σ:Nat→Root}{r k:Nat}{m:Md}{f:α→List Cell}{D0:α→D}{xs:List α}(hf:∀ x,DR (f x) (D0 x))(h:σ r=.deep m k (xs.map f) []):DataAt σ r m k (xs.map D0) [r]:=
 .deep h (all2.map hf xs) rfl rfl
theorem k2x {α:Type}{l:List α}{j:Nat}{x:α}(h:l[j]?=some x):l.set j x=l:=by
 apply List.ext_getElem?
 intro i
 rw[List.getElem?_set]
 split
 ·rename_i hi;subst hi
  have hl:=(List.getElem?_eq_some_iff.1 h).1
  rw[ifP hl,h]
 ·rfl
theorem AT.mono {P:Program}{S:Start}{ops:Array Oper}{K K' : AE→St→Lg→Option Nat→Prop}{k:Nat}{l:List Oper}{ρ:AE}{σ:St}{lg:Lg}{hd:Option Nat}(h:AT P S ops K k l ρ σ lg hd)(hk:∀ ρ σ lg hd,K ρ σ lg hd→K' ρ σ lg hd):AT P S ops K' k l ρ σ lg hd:=by
 induction h with
 | nil h=>exact .nil (hk _ _ _ _ h)
 | op hg hl _ ih=>exact .op hg hl ih
 | off hg _ ih=>exact .off hg ih
 | opT hg hl _ ih=>exact .opT hg hl ih
 | gh hl _ ih=>exact .gh hl ih
theorem q1y {S:Start}{ρ:AE}{σ:St}{r k:Nat}{xs:List D}(m:Md)(hr:fnOf σ r=.row .fz k xs):GH S ρ σ ρ (setL σ r (.row m k xs)):=by
 intro F g w ρc hs hv
 refine⟨F,g,⟨hs.chg,hs.bB,hs.fmono,hs.fnew,hs.flt,fun i=>?_,hs.low,hs.hdr,hs.nodup,hs.disj,hs.own⟩,hv⟩
 rw[q6X]
 by_cases hi:i=r
 ·subst hi
  rw[ifP rfl]
  have h:=hs.roots i
  rw[hr] at h
  revert h
  cases g i<;>intro h<;>try exact h.elim
  obtain⟨h1,h2⟩:=h
  obtain⟨k1,k2,k3,k4⟩:=q6t h2
  rename_i v k' L gs
  subst h1
  refine⟨rfl,k1 |> fun q=>by rw[lnM];exact q,?_⟩
  have:(q5k gs).length=xs.length*k':=k2.len
  have h3:rowOk (fun _=>SM F S.B m) w (xs.map (elOf .fz)) v k' L gs:=z8w h2 fun b hb=>by
   cases m with
   | fz=>exact hb
   | bo=>exact .inl hb
  obtain⟨gs2,q1,q2,q3⟩:=j5X (S1:=SM F S.B) (m:=m) (k2.mono fun b hb=>by cases m with|fz=>exact hb|bo=>exact .inl hb)
  clear q1 q2 q3 gs2
  have conv:∀ (ds:List D) (ge:List GC),all2 (cellOk (SM F S.B) w) (ds.map (Cell.d .fz)) ge→all2 (cellOk (SM F S.B) w) (ds.map (Cell.d m)) ge:=by
   intro ds
   induction ds with
   | nil=>exact fun _ h=>h
   | cons d ds ih=>exact fun ge ⟨gc,r,h1,h2,h3⟩=>⟨gc,r,h1,⟨h2.1,h2.2.1,h2.2.2.mono fun b hb=>by cases m with|fz=>exact hb|bo=>exact .inl hb⟩,ih r h3⟩
  have h4:=h2.2
  clear h3 k1 k2 k3 k4 h2 hr this
  induction xs generalizing gs with
  | nil=>exact h4
  | cons x xs ih=>
   obtain⟨ge,r,e1,e2,e3⟩:=h4
   exact⟨ge,r,e1,⟨by have:=e2.1;simpa[elOf] using this,conv _ _ e2.2⟩,ih _ e3⟩
 ·rw[ifN hi];exact hs.roots i
section
variable {P:Program}[HasTab P]{S:Start}{n:Nat}{ops:Array Oper}{Q:AE→St→Prop}{o:Oper}{l rest:List Oper}{ρ:AE}{σ:St}{d:Nat}{md:Md2}
theorem q0a (k:Nat)(L:List (Nat×X))(hk:AL P S ops (fun ρ' σ'=>WkL ρ' L∧σ'=σ) none (l.take k) ρ σ)(h:AL P S ops Q none (l.drop k) (ofX L) σ):AL P S ops Q none l ρ σ:=
 q2T (β:=Unit) (M:=fun _=>True) k (fun _=>L) (fun j lg hd=>(hk j lg hd).mono fun ρ' σ' _ _ h=>⟨(),trivial,h.1,h.2⟩) fun _ _=>h
theorem CB {f:Nat}{c:Call}{x:Operand}{caps axs args:List X}{pre post:St}{res:X}(ren:List (Nat×Nat))(vw:List Nat)(ok:Ok P f args pre res post)(h:AL P S ops Q (q4a md vw ((ren.map fun p=>(p.2,j0m ren (fnOf post p.1))).map (·.1))) rest (updX ρ d (renX ren res)) (owrL σ (ren.map fun p=>(p.2,j0m ren (fnOf post p.1)))))
  (ho:o.op=.call c:=by rfl) (hc:c.callee=.value x:=by rfl) (hx:evX ρ x=.fn f caps:=by rfl) (hcb:q9d P f=true:=by kernel_rfl) (ha:c.args.toList.map (evX ρ)++caps=axs:=by rfl) (hp:PassL (fnOf σ) ren vw axs args:=by repeat (first|exact .nil|refine .cons ?_ ?_|exact .same|exact .ag (.cons .same (.cons .same .nil))|refine .ag ?_|exact .d rfl|exact .d z3L|exact .nld|exact .nl|exact .rd rfl rfl|exact .vd rfl rfl|exact .pb rfl|exact .ref rfl|refine .fn ?_|exact .pf rfl|exact .pf z3L|exact .dd (DA (by exact fun _=>rfl) rfl) rfl|exact .dd (DA OwD.rd rfl) rfl|(refine .dd (DAh (x:=?x) OwD.rd ?hx0 rfl rfl rfl ?he0) rfl;(case hx0=>assumption);(case he0=>rfl))|exact .u))
  (hpre:PreL (fnOf σ) (fnOf pre) ren ren:=by repeat (first|exact trivial|refine And.intro rfl ?_)) (hchk:j4D ren vw pre post res=true:=by rfl) (hd:o.dst=some d:=by rfl) (hg:q3O ops ρ o=some true:=by rfl):AL P S ops Q md (o::rest) ρ σ:=
 CA ren vw ok hp h hpre ho hc hx hcb ha hchk hd hg
end
theorem endA.gh {P:Program}{S:Start}{fn:Func}{res:X}{post:St}{e:Exit}{ρ ρ' : AE}{σ σ' : St}(hg:GH S ρ σ ρ' σ')(h:endA P S fn res post e ρ' σ'):endA P S fn res post e ρ σ:=
 ⟨h.1,fun F g w ρc hs hv=>let ⟨F',g',h1,h2⟩:=hg F g w ρc hs hv;h.2 F' g' w ρc h1 h2⟩
section
variable {P:Program}[HasTab P]{S:Start}{n:Nat}{ops:Array Oper}{Q:AE→St→Prop}{QP:q3Z}{o:Oper}{rest:List Oper}{ρ:AE}{σ:St}{d:Nat}{v:X}{rd:List Nat}{md:Md2}{T e:Nat}{t te:TI}
theorem q3z {x i:Operand}{m m' : Md}{s:BA_}{q:IntKind}{j:Int}{b:UInt8}(ho:o.op=.index T x i)(hT:P.underlying T=some .string)(hx:evX ρ x=.d m (.s s))(hi:evX ρ i=.d m' (.i q j))(h0:0≤j)(hb:s.data[j.toNat]?=some b):LT P S o ρ σ [] (.d .fz (.i .u8 (b.toNat:Int))) []:=
 LT.val fun σ1 F g w ρc hs hr hw=>by
  have e1:=hw x (by simp[ho,Op.operands])
  have e2:=hw i (by simp[ho,Op.operands])
  rw[hx,vr,rdC] at e1
  rw[hi,vr,rdC] at e2
  refine⟨_,q3h (k:=j.toNat) ho hT e1.1 (by rw[e2.1,j5U h0]) hb,?_⟩
  rw[vr,rdC]
  exact⟨rfl,by omega,by have:=b.toNat_lt;omega⟩
theorem q2W {U e:Nat}{x:Operand}{r:Nat}{m:Md}{b:UInt8}(ho:o.op=.convert U T x)(hU:q7i P U=some e)(he:intT P e=some .u8)(hT:P.underlying T=some .string)(hx:evX ρ x=.ref r none)(hσ:fnOf σ r=.row m 1 [.i .u8 (b.toNat:Int)]):LT P S o ρ σ [r] (.d .fz (.s ⟨#[b]⟩)) []:=
 LT.val fun σ1 F g w ρc hs hr hw=>by
  have e1:=hw x (by simp[ho,Op.operands])
  have hq:σ1 r=.row m 1 [.i .u8 (b.toNat:Int)]:=(hr r (by simp)).trans hσ
  obtain⟨v,L,gs,hg,hrow⟩:=z7t hs (.inr ⟨m,_,hq,rfl⟩)
  rw[hx,vr,hg] at e1
  have e1:=e1 _ _ rfl
  obtain⟨k1,k2,_⟩:=q6t hrow
  rcases hrow.1.at with h|⟨g0,c,T0,cur,h1,h2,_⟩
  ·simp only[Bhz,Daz,lnC] at h;omega
  ·have e3:q5k gs=[.int .u8 (b.toNat:Int)]:=by
    obtain⟨c0,r0,q1,q2,q3,q4⟩:=q6k.1 k2
    replace q3:rdCs (SM F S.B m) w [.i .u8 (b.toNat:Int)] c0:=q3
    rw[z9Y] at q3
    obtain⟨v0,q5,q6⟩:=q3
    rw[rdC] at q6
    rw[rdE] at q4
    rw[q1,q4,q5,q6.1];rfl
   rw[e3] at h2
   have hf:∃ A c',v=.slice A 1 c'∧1≤c'∧c'≤maxLen:=by simpa using hrow.1.form
   obtain⟨A,c',q1,q2,q3⟩:=hf
   rw[q1] at h1
   have e5:A=some ⟨g0,0,none⟩:=by injection h1
   refine⟨_,q1w (F:=fun _=>True) (v:=v) ho hU he hT e1 ⟨A,c',[.int .u8 (b.toNat:Int)],q1,q2,q3,⟨[.int .u8 (b.toNat:Int)],[],rfl,rfl,rfl⟩,.inr ⟨g0,0,e5,trivial,h2⟩⟩,by rw[vr,rdC];exact⟨rfl,Nat.le_of_ble_eq_true rfl⟩⟩
theorem LT.mx {T1 T2:Nat}{x y:Operand}{a b:Int}{m m' : Md}(ho:o.op=.call { callee:=.builtin .max,args:=#[x,y],argTypes:=#[T1,T2] })(hx:evX ρ x=.d m (.i .i64 a))(hy:evX ρ y=.d m' (.i .i64 b)):LT P S o ρ σ [] (.d .fz (.i .i64 (if b > a then b else a))) []:=
 LT.val fun σ1 F g w ρc hs hr hw=>by
  have e1:=hw x (by simp[ho,Op.operands,Call.operands])
  have e2:=hw y (by simp[ho,Op.operands,Call.operands])
  rw[hx,vr,rdC] at e1
  rw[hy,vr,rdC] at e2
  exact⟨_,q2P ho e1.1 e2.1,by rw[vr,rdC];exact⟨rfl,j9L e1.2 e2.2⟩⟩
theorem LT.mn {T1 T2:Nat}{x y:Operand}{a b:Int}{m m' : Md}(ho:o.op=.call { callee:=.builtin .min,args:=#[x,y],argTypes:=#[T1,T2] })(hx:evX ρ x=.d m (.i .i64 a))(hy:evX ρ y=.d m' (.i .i64 b)):LT P S o ρ σ [] (.d .fz (.i .i64 (if b<a then b else a))) []:=
 LT.val fun σ1 F g w ρc hs hr hw=>by
  have e1:=hw x (by simp[ho,Op.operands,Call.operands])
  have e2:=hw y (by simp[ho,Op.operands,Call.operands])
  rw[hx,vr,rdC] at e1
  rw[hy,vr,rdC] at e2
  exact⟨_,q2Q ho e1.1 e2.1,by rw[vr,rdC];exact⟨rfl,j9L e1.2 e2.2⟩⟩
end
mutual
def mvX (i j:Nat):X→X
 | .ref r p=>.ref (bif Aaz r i then j else r) p
 | .vs r p a b=>.vs (bif Aaz r i then j else r) p a b
 | .pe r p a b=>.pe (bif Aaz r i then j else r) p a b
 | .ag cs=>.ag (mvXs i j cs)
 | .tu cs=>.tu (mvXs i j cs)
 | .fn f cs=>.fn f (mvXs i j cs)
 | .pb r c=>.pb r c
 | .d m x=>.d m x
 | .pf m x=>.pf m x
 | .nl k=>.nl k
 | .kv v=>.kv v
 | .pv m v=>.pv m v
 | .u=>.u
def mvXs (i j:Nat):List X→List X
 | []=>[]
 | x::xs=>mvX i j x::mvXs i j xs
end
def mvR (i j:Nat):Root→Root
 | .box cs=>.box (mvXs i j cs)
 | .deep m k es hs=>.deep m k es (hs.map fun p=>(p.1,p.2.1,bif Aaz p.2.2 i then j else p.2.2))
 | x=>x
def mvL (i j:Nat):Nat→St→St
 | _,[]=>[]
 | n,x::l=>(bif Aaz n i then .dead else mvR i j x)::mvL i j (n+1) l
theorem j3j {i j:Nat}:∀ {l:St} {n r:Nat},fnOf l r≠.none→fnOf (mvL i j n l) r=if n+r=i then .dead else mvR i j (fnOf l r)
 | [],n,r,h=>absurd (z0N r) h
 | x::l,n,0,h=>by
  simp only[mvL,fnOf,Nat.add_zero]
  cases hb:Aaz n i with
  | true=>simp[Abz hb]
  | false=>have:=Dbz hb;simp[this]
 | x::l,n,r+1,h=>by
  simp only[mvL,fnOf] at h ⊢
  rw[j3j h,show n+1+r=n+(r+1) by omega]
theorem j4L {i j:Nat}:∀ {l:St} {n r:Nat},fnOf l r=.none→n+r≠i→fnOf (mvL i j n l) r=.none
 | [],n,r,_,_=>z0N r
 | x::l,n,0,h,hn=>by
  simp only[fnOf] at h
  simp only[mvL,fnOf,h,mvR]
  have:Aaz n i=false:=by cases hb:Aaz n i with|true=>exact absurd (Abz hb) hn|false=>rfl
  rw[this];rfl
 | x::l,n,r+1,h,hn=>by
  simp only[mvL,fnOf] at h ⊢
  exact j4L h (by omega)
section
variable {S1:Md→Nat→Prop}{w:World}{g g' : Nat→G}{i j:Nat}
theorem bq {r i:Nat}:(Aaz r i=true∧r=i)∨(Aaz r i=false∧r≠i):=by
 cases h:Aaz r i with
 | true=>exact .inl ⟨rfl,Abz h⟩
 | false=>exact .inr ⟨rfl,Dbz h⟩
theorem j7N {r:Nat}{p:Option (Nat×Nat)}{R:Value→Nat→Prop}(hj:g j=.none)(h1:g' j=g i)(h3:∀ r,r≠i→r≠j→g' r=g r)(h:onG (g r) p R):onG (g' (bif Aaz r i then j else r)) p R:=by
 rcases bq (r:=r) (i:=i) with ⟨hb,e⟩|⟨hb,e⟩
 ·rw[hb,cond_true,h1,← e];exact h
 ·rw[hb,cond_false]
  by_cases hr:r=j
  ·rw[hr,hj] at h;exact h.elim
  ·rw[h3 r e hr];exact h
mutual
theorem k6u (hj:g j=.none)(h1:g' j=g i)(h2:g' i=.dead)(h3:∀ r,r≠i→r≠j→g' r=g r):∀ {x:X} {v:Value},vr S1 w g x v→vr S1 w g' (mvX i j x) v
 | .d m x,v,h=>by rw[mvX];rw[vr] at h ⊢;exact h
 | .ag cs,v,h=>by rw[mvX];rw[vr] at h ⊢;obtain⟨vs,k1,k2⟩:=h;exact⟨vs,k1,j4M hj h1 h2 h3 k2⟩
 | .tu cs,v,h=>by rw[mvX];rw[vr] at h ⊢;obtain⟨vs,k1,k2⟩:=h;exact⟨vs,k1,j4M hj h1 h2 h3 k2⟩
 | .ref r p,v,h=>by rw[mvX];rw[vr] at h ⊢;exact j7N hj h1 h3 h
 | .vs r p a b,v,h=>by rw[mvX];rw[vr] at h ⊢;exact j7N hj h1 h3 h
 | .pe r p a b,v,h=>by rw[mvX];rw[vr] at h ⊢;exact j7N hj h1 h3 h
 | .pb r c,v,h=>by
  rw[mvX];rw[vr] at h ⊢
  by_cases hr:r=i
  ·rw[hr,h2];trivial
  ·by_cases hr2:r=j
   ·rw[hr2,hj] at h;exact h.elim
   ·rw[h3 r hr hr2];exact h
 | .pf m xs,v,h=>by rw[mvX];rw[vr] at h ⊢;exact h
 | .fn f cs,v,h=>by rw[mvX];rw[vr] at h ⊢;obtain⟨vs,k1,k2⟩:=h;exact⟨vs,k1,j4M hj h1 h2 h3 k2⟩
 | .nl k,v,h=>by rw[mvX];rw[vr] at h ⊢;exact h
 | .kv _,v,h=>by rw[mvX];rw[vr] at h ⊢;exact h
 | .pv _ _,v,h=>by rw[mvX];rw[vr] at h ⊢;exact h
 | .u,v,h=>by rw[mvX,vr];trivial
theorem j4M (hj:g j=.none)(h1:g' j=g i)(h2:g' i=.dead)(h3:∀ r,r≠i→r≠j→g' r=g r):∀ {xs:List X} {vs:List Value},vrs S1 w g xs vs→vrs S1 w g' (mvXs i j xs) vs
 | [],vs,h=>by rw[mvXs];rw[vrs] at h ⊢;exact h
 | x::xs,vs,h=>by
  rw[mvXs];rw[vrs] at h ⊢
  obtain⟨v,r,k1,k2,k3⟩:=h
  exact⟨v,r,k1,k6u hj h1 h2 h3 k2,j4M hj h1 h2 h3 k3⟩
end
end
section
variable {P:Program}{S:Start}{n:Nat}{QP:q3Z}{ρ:AE}{σ:St}
theorem q2b {i j k:Nat}{m:Md}{xs:List D}(hi:fnOf σ i=.row m k xs)(hj:fnOf σ j=.none):GH S ρ σ (fun t=>mvX i j (ρ t)) (setL (mvL i j 0 σ) j (.row m k xs)):=by
 intro F g w ρc hs hv
 have hgj:g j=.none:=by
  have:=hs.roots j
  rw[hj] at this
  revert this
  cases g j<;>intro h<;>first|rfl|exact h.elim
 have hij:i≠j:=fun e=>by rw[e,hj] at hi;cases hi
 let g' : Nat→G:=fun r=>if r=j then g i else if r=i then .dead else g r
 have h1:g' j=g i:=by simp[g']
 have h2:g' i=.dead:=by simp[g',hij]
 have h3:∀ r,r≠i→r≠j→g' r=g r:=fun r a b=>by simp[g',a,b]
 have hc:∀ r,(r=j∧g' r=g i)∨(r=i∧g' r=.dead)∨(r≠i∧r≠j∧g' r=g r):=fun r=>by
  by_cases a:r=j
  ·exact .inl ⟨a,by rw[a];exact h1⟩
  ·by_cases b:r=i
   ·exact .inr (.inl ⟨b,by rw[b];exact h2⟩)
   ·exact .inr (.inr ⟨b,a,h3 r b a⟩)
 refine⟨F,g',⟨hs.chg,hs.bB,hs.fmono,hs.fnew,hs.flt,fun r=>?_,hs.low,fun r=>?_,fun r=>?_,fun r r' hne b hb=>?_,fun r b hb=>?_⟩,fun t=>k6u hgj h1 h2 h3 (hv t)⟩
 ·rw[q6X]
  have hr:=hs.roots r
  rcases hc r with ⟨a,b⟩|⟨a,b⟩|⟨a,a',b⟩
  ·rw[ifP a,b]
   have:=hs.roots i
   rw[hi] at this
   revert this
   cases g i<;>intro h<;>first|exact h|exact h.elim
  ·rw[ifN (by rw[a];exact hij),b,j3j (by rw[a,hi];intro h;cases h),ifP (by omega)]
   trivial
  ·rw[ifN a',b]
   by_cases hn:fnOf σ r=.none
   ·rw[j4L hn (by omega)]
    rw[hn] at hr
    revert hr
    cases g r<;>intro h<;>first|trivial|exact h.elim
   ·rw[j3j hn,ifN (by omega)]
    revert hr
    cases hσ:fnOf σ r<;>intro hr<;>cases hg:g r<;>rw[hg] at hr<;>try exact hr.elim
    ·trivial
    ·trivial
    ·obtain⟨vs,k1,k2⟩:=hr
     exact⟨vs,k1,j4M hgj h1 h2 h3 k2⟩
    ·exact hr
    ·refine⟨hr.1,fun p hp gc hgc=>?_,hr.2.2⟩
     obtain⟨q,hq,rfl⟩:=List.mem_map.1 hp
     exact j7N hgj h1 h3 (hr.2.1 q hq gc hgc)
 ·rcases hc r with ⟨a,b⟩|⟨a,b⟩|⟨a,a',b⟩
  ·have:=hs.hdr r
   rw[a,hgj] at this
   rw[b,a]
   revert this
   cases S.g0 j<;>intro h<;>simp[j2r] at h ⊢
  ·rw[b,a]
   cases S.g0 i<;>simp[j2r]
  ·rw[b];exact hs.hdr r
 ·rcases hc r with ⟨a,b⟩|⟨a,b⟩|⟨a,a',b⟩<;>rw[b]
  ·exact hs.nodup i
  ·exact List.nodup_nil
  ·exact hs.nodup r
 ·rcases hc r with ⟨a,e⟩|⟨a,e⟩|⟨a,a',e⟩<;>rw[e] at hb<;>rcases hc r' with ⟨c,e'⟩|⟨c,e'⟩|⟨c,c',e'⟩<;>rw[e']
  ·exact absurd (a.trans c.symm) hne
  ·exact Cyz
  ·exact hs.disj i r' (fun h=>c h.symm) b hb
  ·cases hb
  ·cases hb
  ·cases hb
  ·exact hs.disj r i a b hb
  ·exact Cyz
  ·exact hs.disj r r' hne b hb
 ·rcases hc r with ⟨a,e⟩|⟨a,e⟩|⟨a,a',e⟩<;>rw[e] at hb
  ·exact hs.own i b hb
  ·cases hb
  ·exact hs.own r b hb
theorem q1z {q:Nat}{cs:List X}(cs' : List X)(hw:Wks cs' cs)(hq:fnOf σ q=.box cs):GH S ρ σ ρ (setL σ q (.box cs')):=by
 intro F g w ρc hs hv
 refine⟨F,g,⟨hs.chg,hs.bB,hs.fmono,hs.fnew,hs.flt,fun i=>?_,hs.low,hs.hdr,hs.nodup,hs.disj,hs.own⟩,hv⟩
 rw[q6X]
 by_cases hi:i=q
 ·subst hi
  rw[ifP rfl]
  have:=hs.roots i
  rw[hq] at this
  revert this
  cases g i<;>intro h<;>try exact h.elim
  obtain⟨vs,k1,k2⟩:=h
  exact⟨vs,k1,hw.vr k2⟩
 ·rw[ifN hi];exact hs.roots i
end
section
variable {P:Program}[HasTab P]{S:Start}{n:Nat}{QP:q3Z}{ρ:AE}{σ:St}
theorem q2X {id T a b s:Nat}{ops:Array Oper}{o1 o2:Oper}{m:Md}{k U:Nat}{xs:List D}{t:TI}{e:Nat}(hs:ρ s=.d m (.sl k xs))(h:∀ q:Bool,(q=true→xs=[])→QP .normal (updX (updX ρ a (.d m (.sl k xs))) b (.d .fz (.b q))) σ)
  (hl:ops.toList=[o1,o2]:=by rfl) (h1:o1.op=.move (.tmp s):=by rfl) (h2:o2.op=.binOp .eql T (.tmp a) (.const (.slice none 0 0)) U:=by rfl) (hT:(HasTab.tab P).get T=some t:=by rfl) (he:t.el=some e:=by rfl) (d1:o1.dst=some a:=by rfl) (d2:o2.dst=some b:=by rfl) (g1:o1.guard=none:=by rfl) (g2:o2.guard=none:=by rfl):AW P S n (.region id ops false) QP ρ σ:=by
 intro F g w ρc hsim hv
 have hx:=hv s
 rw[hs] at hx
 have hx0:=hx
 rw[vr,rdC] at hx
 obtain⟨A,cap,cells,e1,e2,e3,e4,e5⟩:=hx
 refine q0Z ?_
 rw[hl]
 refine WL.ev g1 d1 (q3c h1 rfl) (WL.ev g2 d2 (q1b h2 (u:=.slice A xs.length cap) (v:=.slice none 0 0) ?_ rfl (q0V (TI.el' (Tab.chk HasTab.ok hT) he))) (WL.nil ⟨_,σ,F,g,hsim,?_,h (decide (A=none)) ?_⟩))
 ·show E.upd ρc a (ρc s) a=_
  simp only[E.upd,Nat.beq_refl,cond_true];exact e1
 ·have:=(hv.put (some a) hx0).put (some b) (show vr (SM F S.B) w g (.d .fz (.b (decide (A=none)))) (.bool (decide (A=none))) by rw[vr,rdC])
  exact this
 ·intro hq
  rcases e5 with h|⟨b,o,h,_⟩
  ·exact h
  ·rw[h] at hq;simp at hq
end
theorem k2y {S1:Md→Nat→Prop}{w:World}{c:D}{v:Value}{m m' : Md}(hc:j6c c=true)(h:rdC (S1 m) w c v):rdC (S1 m') w c v:=by
 cases c<;>first|(rw[rdC] at h ⊢;exact h)|cases hc
theorem j2B {S1:Md→Nat→Prop}{w:World}{m m' : Md}:∀ {ds:List D} {ge:List GC},ds.all j6c=true→all2 (cellOk S1 w) (ds.map (Cell.d m)) ge→all2 (cellOk S1 w) (ds.map (Cell.d m')) ge
 | [],ge,_,h=>h
 | x::ds,ge,hf,h=>by
  obtain⟨gc,r,e1,e2,e3⟩:=h
  simp only[List.all_cons,Afz] at hf
  exact⟨gc,r,e1,⟨e2.1,e2.2.1,k2y hf.1 e2.2.2⟩,j2B hf.2 e3⟩
theorem j4N {S1:Md→Nat→Prop}{w:World}{k:Nat}{m m' : Md}:∀ {xs:List D} {gs:List (List GC)},(∀ x∈xs,z6H x=true)→all2 (elOk S1 w k) (xs.map (elOf m)) gs→all2 (elOk S1 w k) (xs.map (elOf m')) gs
 | [],gs,_,h=>h
 | x::xs,gs,hf,h=>by
  obtain⟨ge,r,e1,e2,e3⟩:=h
  exact⟨ge,r,e1,⟨by have:=e2.1;simpa[elOf] using this,j2B (hf x (by simp)) e2.2⟩,j4N (fun y hy=>hf y (by simp[hy])) e3⟩
theorem j0y {S1:Md→Nat→Prop}{w:World}{g:Nat→G}{z:G}{k:Nat}{m m' : Md}{xs:List D}(hf:∀ x∈xs,z6H x=true)(h:z0r S1 w g (.row m k xs) z):z0r S1 w g (.row m' k xs) z:=by
 revert h
 cases z<;>intro h<;>try exact h.elim
 exact⟨h.1,by have:=h.2.1;rw[lnM] at this ⊢;exact this,j4N hf h.2.2⟩
theorem Sim.alt {S:Start}{F:Nat→Prop}{g:Nat→G}{σ1 σ2:Nat→Root}{w:World}(h:Sim S F g σ1 w)(k:∀ i,z0r (SM F S.B) w g (σ1 i) (g i)→z0r (SM F S.B) w g (σ2 i) (g i)):Sim S F g σ2 w:=
 ⟨h.chg,h.bB,h.fmono,h.fnew,h.flt,fun i=>k i (h.roots i),h.low,h.hdr,h.nodup,h.disj,h.own⟩
section
variable {P:Program}{S:Start}{o:Oper}{ρ:AE}{σ:St}{rd:List Nat}{v:X}
theorem LT.alt {wr wr' : List (Nat×Root)}(h:LT P S o ρ σ rd v wr)(h1:wr'.map (·.1)=wr.map (·.1))(h2:∀ (σ1:Nat→Root) (S1:Md→Nat→Prop) (w:World) (g:Nat→G) (i:Nat),z0r S1 w g (owr σ1 wr i) (g i)→z0r S1 w g (owr σ1 wr' i) (g i)):LT P S o ρ σ rd v wr':=by
 intro σ1 F g w ρc a1 a2 a3 a4
 have a3' : ∀ p∈wr,σ1 p.1=fnOf σ p.1:=fun p hp=>by
  have:p.1∈wr'.map (·.1):=by rw[h1];exact List.mem_map.2 ⟨p,hp,rfl⟩
  obtain⟨q,hq,e⟩:=List.mem_map.1 this
  rw[← e];exact a3 q hq
 have:=h σ1 F g w ρc a1 a2 a3' a4
 revert this
 generalize (execOp (E.ev ρc) o).run P w=r
 intro h
 have key:∀ vc w',(∃ F' g',Sim S F' g' (owr σ1 wr) w'∧Pres S.B F g w F' g' w'∧vr (SM F' S.B) w' g' v vc)→∃ F' g',Sim S F' g' (owr σ1 wr') w'∧Pres S.B F g w F' g' w'∧vr (SM F' S.B) w' g' v vc:=fun vc w' ⟨F',g',k1,k2,k3⟩=>⟨F',g',k1.alt fun i=>h2 σ1 _ _ _ i,k2,k3⟩
 cases r with
 | ok x w'=>
  cases x<;>simp only[j2X] at h ⊢
  case value u=>exact key _ _ h
  case skip=>exact key _ _ h
  case enter f args=>exact h.mono fun e w'' ⟨v,k1,k2⟩=>⟨v,k1,key _ _ k2⟩
 | halt x w'=>simp only[j2X] at h
end
section
variable {P:Program}[HasTab P]{S:Start}{ops:Array Oper}{Q:AE→St→Prop}{o:Oper}{rest:List Oper}{ρ:AE}{σ:St}{d:Nat}{md:Md2}{T e:Nat}{t te:TI}
theorem APf {α:Type}{s x:Operand}{X1:X}{m' m0:Md}{f:α→D}{xs ys:List α}{zs:List X}{r b1:Nat}(r' : Nat)(hflat:∀ y,z6H (f y)=true)(hmax:((xs.length:Int)+(ys.length:Int))*te.by_≤140737488355328∧(xs.length:Int)+(ys.length:Int)≤9223372036854775807)(h:AL P S ops Q (q4a md (q7C X1) [r,r']) rest (updX ρ d (.ref r' none)) (setL (setL σ r .dead) r' (.row .fz te.sz ((xs++ys).map f))))
  (ho:o.op=.call { callee:=.builtin .append,args:=#[s,x],argTypes:=#[T,T] }:=by rfl) (hT:(HasTab.tab P).get T=some t:=by rfl) (he:t.el=some e:=by rfl) (hE:(HasTab.tab P).get e=some te:=by rfl) (hs:evX ρ s=.ref r none:=by rfl) (hx:evX ρ x=X1:=by rfl) (hsrc:srcD (fnOf σ) X1=some (m',te.sz,ys.map f):=by rfl) (hσ:fnOf σ r=.row m0 te.sz (xs.map f):=by rfl) (hz:te.z=some zs:=by rfl) (hb:te.by_=b1+1:=by rfl) (hzl:zs.length=te.sz:=by rfl) (hk0:Cwz 0 te.sz=true:=by rfl) (hr:fnOf σ r'=.none:=by rfl) (hd:o.dst=some d:=by rfl) (hg:q3O ops ρ o=some true:=by rfl):AL P S ops Q md (o::rest) ρ σ:=by
 obtain⟨z,h1,h2⟩:=TI.z' (Tab.chk HasTab.ok hE) hz
 refine q0f (wr:=[(r,.dead),(r',.row .fz te.sz ((xs++ys).map f))]) (LT.alt (q1q (r':=r') (m:=.bo) ho (q3P hT he hE).1 (q3P hT he hE).2 (TI.by' (Tab.chk HasTab.ok hE) hb) h1 (by rw[← hzl,← (h2 (fun _ _=>True) default (fun _=>.none)).len]) hk0 hs hσ hx hsrc q9k q9k ?_ ?_ hr) rfl fun σ1 S1 w g i hi=>?_) h hd hg
 ·simp only[lnM]
  have:=hmax.1
  rw[← Int.natCast_add,← Int.natCast_mul] at this
  omega
 ·simp only[lnM]
  show _≤9223372036854775807
  have:=hmax.2
  omega
 ·revert hi
  simp only[owr]
  split
  ·intro hi
   rw[← List.map_append] at hi
   exact j0y (fun x hx=>by obtain⟨y,_,rfl⟩:=List.mem_map.1 hx;exact hflat y) hi
  ·exact id
theorem AP1 {α:Type}{s x:Operand}{X1:X}{m' m0:Md}{f:α→D}{xs:List α}{y:α}{zs:List X}{r b1:Nat}(r' : Nat)(m:Md)(B:Nat)(hmax:((xs.length:Int)+1)*(B:Int)≤140737488355328∧(xs.length:Int)+1≤9223372036854775807)(h:AL P S ops Q (q4a md (q7C X1) [r,r']) rest (updX ρ d (.ref r' none)) (setL (setL σ r .dead) r' (.row m te.sz ((xs++[y]).map f))))
  (ho:o.op=.call { callee:=.builtin .append,args:=#[s,x],argTypes:=#[T,T] }:=by rfl) (hT:(HasTab.tab P).get T=some t:=by rfl) (he:t.el=some e:=by rfl) (hE:(HasTab.tab P).get e=some te:=by rfl) (hs:evX ρ s=.ref r none:=by rfl) (hx:evX ρ x=X1:=by rfl) (hsrc:srcD (fnOf σ) X1=some (m',te.sz,[y].map f):=by rfl) (hσ:fnOf σ r=.row m0 te.sz (xs.map f):=by rfl) (hz:te.z=some zs:=by rfl) (hb:te.by_=b1+1:=by rfl) (hzl:zs.length=te.sz:=by rfl) (hk0:Cwz 0 te.sz=true:=by rfl) (hm:mle m' m=true:=by first|rfl|exact q9A|exact q9k) (hm0:mle m0 m=true:=by first|rfl|exact q9A|exact q9k) (hr:fnOf σ r'=.none:=by rfl) (hB:te.by_=B:=by rfl) (hd:o.dst=some d:=by rfl) (hg:q3O ops ρ o=some true:=by rfl):AL P S ops Q md (o::rest) ρ σ:=
 AP r' m (by rw[hB];exact hmax) h ho hT he hE hs hx hsrc hσ hz hb hzl hk0 hm hm0 hr hd hg
def toC:X→Option D
 | .d _ (.a _)=>none
 | .d _ x=>some x
 | .nl k=>some (.sl k [])
 | _=>none
def toCs:List X→Option (List D)
 | []=>some []
 | x::xs=>match toC x,toCs xs with
  | some y,some ys=>some (y::ys)
  | _,_=>none
def toE:X→Option D
 | .ag cs=>(toCs cs).map .a
 | x=>toC x
def toEs:List X→Option (List D)
 | []=>some []
 | x::xs=>match toE x,toEs xs with
  | some y,some ys=>some (y::ys)
  | _,_=>none
def leC (m:Md):X→Prop
 | .d m' x=>j6c x=true∨mle m' m=true
 | _=>True
def leCs (m:Md):List X→Prop
 | []=>True
 | x::xs=>leC m x∧leCs m xs
def leE (m:Md):X→Prop
 | .ag cs=>leCs m cs
 | x=>leC m x
def leEs (m:Md):List X→Prop
 | []=>True
 | x::xs=>leE m x∧leEs m xs
theorem k4m {m:Md}{x:X}{d:D}(h:toC x=some d)(hl:leC m x):asC m x=some d:=by
 cases x<;>simp only[toC] at h
 case d m' x=>
  cases x<;>simp only[toC] at h<;>simp only[asC]<;>try exact h
  simp only[leC,j6c,Bool.false_eq_true,false_or] at hl
  rw[ifP hl];exact h
 all_goals first|exact h|cases h
theorem k0e {m:Md}:∀ {xs:List X} {ds:List D},toCs xs=some ds→leCs m xs→asCs m xs=some ds
 | [],_,h,_=>h
 | x::xs,ds,h,hl=>by
  simp only[toCs] at h
  split at h
  ·rename_i y ys h1 h2
   simp only[asCs,k4m h1 hl.1,k0e h2 hl.2];exact h
  ·cases h
theorem k6v {m:Md}{x:X}{d:D}(h:toE x=some d)(hl:leE m x):asD m x=some d:=by
 cases x
 case ag cs=>
  simp only[toE] at h
  cases hc:toCs cs with
  | none=>rw[hc] at h;cases h
  | some ds=>rw[hc] at h;simp only[asD,k0e hc hl];exact h
 all_goals (simp only[toE] at h;exact k4m (m:=m) h hl)
theorem j6f {m:Md}:∀ {xs:List X} {ds:List D},toEs xs=some ds→leEs m xs→asDs m xs=some ds
 | [],_,h,_=>h
 | x::xs,ds,h,hl=>by
  simp only[toEs] at h
  split at h
  ·rename_i y ys h1 h2
   simp only[asDs,k6v h1 hl.1,j6f h2 hl.2];exact h
  ·cases h
theorem LIRm {α:Type}{m:Md}{f:α→D}{ds:List D}{mm:Nat}{parts:Array (Nat×Operand)}{zs:List X}(r:Nat)(xs:List α)(hf:xs.map f=ds)(h:AL P S ops Q (q4a md [] [r]) rest (updX ρ d (.ref r none)) (setL σ r (.row m te.sz (xs.map f))))(ho:o.op=.buildSlice T mm parts:=by rfl)(hT:(HasTab.tab P).get T=some t:=by rfl)(he:t.el=some e:=by rfl)(hE:(HasTab.tab P).get e=some te:=by rfl)(hz:te.z=some zs:=by rfl)(hzl:zs.length=te.sz:=by rfl)(hp:parts.toList.map (·.1)=Czz 0 parts.toList.length:=by rfl)(hds:toEs (parts.toList.map fun p=>evX ρ p.2)=some ds:=by rfl)(hle:leEs m (parts.toList.map fun p=>evX ρ p.2):=by repeat (first|exact trivial|refine And.intro ?_ ?_|exact .inl rfl|exact .inr rfl|exact .inr q9A|exact .inr q9k))(hw:ds.all (fun d=>Aaz d.cells.length te.sz)=true:=by rfl)(hn:ds.length=mm:=by rfl)(hk0:Cwz 0 te.sz=true:=by rfl)(hm:Cwz 0 mm=true:=by rfl)(hm2:Nat.ble (mm*te.sz) 100000=true:=by rfl)(hr:fnOf σ r=.none:=by rfl)(hd:o.dst=some d:=by rfl)(hg:q3O ops ρ o=some true:=by rfl):AL P S ops Q md (o::rest) ρ σ:=by
 subst hf;exact LIR r h ho hT he hE hz hzl hp (j6f hds hle) hw hn hk0 hm hm2 hr hd hg
end
section
variable {S:Start}{F:Nat→Prop}{g:Nat→G}{w w' : World}{σ1:Nat→Root}
theorem Sim.refill (hs:Sim S F g σ1 w){r k:Nat}{m:Md}{es:List D}{v:Value}{L:List Nat}{gs:List (List GC)}{cs:List Value}(hg:g r=.row v k L gs)(hgb:gbl gs=[])(hc:Chg (fun b=>b∈L) w w')(hown:OwnR w' k v es.length L cs)
  (hrd:(∀ m b o cs,SM F S.B m b→b<w.heap.size→At w b o cs→SM F S.B m b∧b<w'.heap.size∧At w' b o cs)→rdE (SM F S.B m) w' k es cs):∃ g',Sim S F g' (owr σ1 [(r,.row m k es)]) w'∧Pres S.B F g w F g' w':=by
 have hbl0:bl (g r)=L:=by rw[hg];simp[bl,hgb]
 have hkp:=hs.keeps (F':=F) hc (fun c hcL _=>⟨r,by rw[hbl0];exact hcL⟩) fun _ h=>h
 obtain⟨gs',q1,q2,q3⟩:=j5X (S1:=SM F S.B) (hrd hkp)
 let g' : Nat→G:=fun i=>if i=r then .row v k L gs' else g i
 have hg0:g' r=.row v k L gs':=by simp[g']
 have hbl' : bl (g' r)=L:=by rw[hg0];simp[bl,q3]
 refine⟨g',hs.step (M:=fun b=>b∈L) (F':=F) (g':=g') (σ':=owr σ1 [(r,.row m k es)]) (· = r) hc (fun c hc _=>⟨r,rfl,by rw[hbl0];exact hc⟩)
   (fun i hi=>⟨by simp[g',hi],by rw[owr1];simp[hi]⟩) (fun i hi=>by subst hi;rw[hg,hg0];exact .inr ⟨L,gs',rfl⟩) (fun _ h=>h)
   (fun c hc'=>⟨Bcz (hs.flt c hc') hc.size,.inl hc'⟩)
   (fun _ _ i hi=>by
    subst hi
    rw[hg0,owr1]
    simp only[if_true]
    exact⟨rfl,by rw[lnM,q2];exact hown,q1⟩)
   (fun i hi=>by subst hi;rw[hbl',← hbl0];exact hs.nodup i) (fun i j hi hj hij=>absurd (hi.trans hj.symm) hij)
   (fun i c hi hc'=>by
    subst hi
    rw[hbl'] at hc'
    have hc0:c∈bl (g i):=by rw[hbl0];exact hc'
    obtain⟨a1,a2,_⟩:=hs.own i c hc0
    exact⟨Bcz a1 hc.size,a2,.inr ⟨i,rfl,hc0⟩⟩)⟩
end
section
variable {P:Program}{S:Start}{o:Oper}{ρ:AE}{σ:St}
theorem q3A {T e k r lo nn:Nat}{m:Md}{ds:List D}{d:D}{z:List Value}{x:Operand}(ho:o.op=.call { callee:=.builtin .clear,args:=#[x],argTypes:=#[T] })(hT:q7i P T=some e)(hk:szT P e=some k)(hz:z2M P e=some z)(hzd:∀ S1 w,rd1 S1 w d z)(hzl:z.length=k)
  (hx:evX ρ x=.vs r none lo nn) (hσ:fnOf σ r=.row m k ds) (hlo:lo≤ds.length) (hnn:nn=ds.length-lo):LT P S o ρ σ [] .u [(r,.row m k (ds.take lo++Bmz (ds.length-lo) d))]:=by
 intro σ1 F g w ρc hs hrd hwr hv
 have hr1:σ1 r=.row m k ds:=(hwr (r,_) List.mem_cons_self).trans hσ
 have hroot:=hs.roots r
 rw[hr1] at hroot
 cases hg:g r<;>rw[hg] at hroot<;>try exact hroot.elim
 rename_i v k0 L gs
 obtain⟨hk0,hrow⟩:=hroot
 subst hk0
 have e1:=hv x (by simp[ho,Op.operands,Call.operands])
 rw[hx,vr,hg] at e1
 obtain⟨A,n,cp,A',cp',h1,h2,h3,h4,h5,h6⟩:=e1 _ _ rfl
 obtain⟨hown,hrdE,hgb,hno⟩:=q6t hrow
 have hz1:∀ u∈z,u.oneCell'=true:=rdCs.one (hzd (fun _=>True) w)
 obtain⟨v',hzv,hvc⟩:=q9z (P:=P) (w:=w) hz
 obtain⟨A2,c2,hv2,h7,h8⟩:=hown.form
 rw[h1] at hv2
 have hn:n=ds.length:=by injection hv2
 have hru:∀ r:Result Next,r=.ok (.value (.tuple #[])) w→True:=fun _ _=>trivial
 by_cases hlm:lo=ds.length
 ·have hnn0:nn=0:=by omega
  rw[hnn0] at h3
  have hrun:(Builtin.clear_ #[T] o.type #[E.ev ρc x]).run P w=.ok (.tuple #[]) w:=by
   rw[h3]
   cases A'<;>simp[Builtin.clear_,run_underlying (q5T hT)]
  have he:(execOp (E.ev ρc) o).run P w=.ok (.value (.tuple #[])) w:=by
   simp only[execOp,ho,resolve,invoke,builtin,Sem.run_bind,Sem.run_pure,Result.andThen_ok,List.map_toArray,Bhz,Daz,hrun]
  rw[he]
  have hxs:ds.take lo++Bmz (ds.length-lo) d=ds:=by subst hlm;simp
  rw[hxs]
  refine⟨F,g,?_,Pres.refl,by rw[vr];trivial⟩
  have:owr σ1 [(r,.row m k0 ds)]=σ1:=by
   funext i;rw[owr1];by_cases hi:i=r
   ·subst hi;simp only[if_true,hr1]
   ·simp only[ifN hi]
  rw[this];exact hs
 ·have hlt:lo<ds.length:=by omega
  obtain⟨eb,hO,hLv⟩:=hown
  rcases hO.2 with ⟨_,h00⟩|⟨b,cap,cur,hvb,hb0,hgbk,hnc,hcm,hsz,htk⟩
  ·omega
  have hLb:L=[b]:=by rw[hLv,hvb];simp[Value.ownBlock]
  rw[h1] at hvb
  injection hvb with f1 f2 f3
  subst f1;subst f3
  rcases h6 with h6|⟨b2,f4,f5⟩
  ·omega
  injection f4 with f4
  injection f4 with f4
  subst f4
  have hlen2:(reps z (ds.length-lo)).length=(ds.length-lo)*k0:=by rw[z2e,hzl]
  have hcells:(Builtin.zeroCells v'.cells (ds.length-lo)).toList=reps z (ds.length-lo):=by
   rw[j1O,hvc]
   have:=z3p z.toArray (ds.length-lo)
   rw[this]
  have hfit:lo*k0+(ds.length-lo)*k0≤cur.size:=by
   rw[← Arz,hsz,show lo+(ds.length-lo)=ds.length by omega];exact Nat.mul_le_mul_right _ hnc
  have hst:=run_storeCells_at P b (lo*k0) eb (reps z (ds.length-lo)) 0 cur w hgbk (by rw[hlen2];simpa using hfit) (j7s hz1 _)
  have hrun:(Builtin.clear_ #[T] o.type #[E.ev ρc x]).run P w=.ok (.tuple #[]) (w.setRow b (q4X cur.toList (lo*k0) (reps z (ds.length-lo))).toArray):=by
   rw[h3,f5]
   simp only[Nat.add_zero] at hst
   have hsp:q4X cur.toList (lo*k0) (reps z (ds.length-lo))=List.take (lo*k0) cur.toList++reps z (ds.length-lo)++List.drop (lo*k0+(reps z (ds.length-lo)).length) cur.toList:=rfl
   rw[hsp]
   obtain⟨q,hq⟩:∃ q,ds.length-lo=q+1:=⟨ds.length-lo-1,by omega⟩
   rw[hnn,hq]
   rw[hq] at hcells hst
   simp[Builtin.clear_,run_underlying (q5T hT),hzv,hcells,hst]
  have he:(execOp (E.ev ρc) o).run P w=.ok (.value (.tuple #[])) (w.setRow b (q4X cur.toList (lo*k0) (reps z (ds.length-lo))).toArray):=by
   simp only[execOp,ho,resolve,invoke,builtin,Sem.run_bind,Sem.run_pure,Result.andThen_ok,List.map_toArray,Bhz,Daz,hrun]
  rw[he]
  have hB:Blk w b eb cur.toList:=by simpa[Blk] using hgbk
  have hc:=z8t w b (q4X cur.toList (lo*k0) (reps z (ds.length-lo))).toArray
  have hb' : Blk (w.setRow b (q4X cur.toList (lo*k0) (reps z (ds.length-lo))).toArray) b eb (q4X cur.toList (lo*k0) (reps z (ds.length-lo))):=setRow_heap w b _ _ eb _ hgbk
  have hcl:(q5k gs).length=ds.length*k0:=hO.1
  have hspl:q4X (q5k gs) (lo*k0) (reps z (ds.length-lo))=(q5k gs).take (lo*k0)++reps z (ds.length-lo):=by
   unfold q4X
   rw[List.drop_eq_nil_of_le (by rw[hlen2,hcl,← Arz,show lo+(ds.length-lo)=ds.length by omega];exact Nat.le_refl _),List.append_nil]
  have hst2:=hO.st (w':=w.setRow b (q4X cur.toList (lo*k0) (reps z (ds.length-lo))).toArray) (by rw[h1];rfl) hB (off:=lo*k0) (l:=reps z (ds.length-lo)) (by rw[hlen2,← Arz,show lo+(ds.length-lo)=ds.length by omega];exact Nat.le_refl _) hb'
  obtain⟨g',k1,k2⟩:=hs.refill (es:=ds.take lo++Bmz (ds.length-lo) d) (m:=m) hg hgb (hc.mono fun q _ e=>by rw[hLb];simp[e]) (cs:=q4X (q5k gs) (lo*k0) (reps z (ds.length-lo)))
   ⟨eb,by rw[List.length_append,List.length_take,List.length_replicate,Nat.min_eq_left hlo,show lo+(ds.length-lo)=ds.length by omega];exact hst2,hLv⟩
   (fun hkp=>by rw[hspl];exact ((hrdE.imp (hkp m)).take lo).append (by have:=j3a (hzd (SM F S.B m) (w.setRow b (q4X cur.toList (lo*k0) (reps z (ds.length-lo))).toArray)) (ds.length-lo);rw[hzl] at this;exact this))
  exact⟨F,g',k1,k2,by rw[vr];trivial⟩
end
section
variable {P:Program}[HasTab P]{S:Start}{ops:Array Oper}{Q:AE→St→Prop}{o:Oper}{rest:List Oper}{ρ:AE}{σ:St}{d:Nat}{md:Md2}{T e:Nat}{t te:TI}
theorem z8y {α:Type}{xs:List α}{lo j:Nat}{y:α}(h:xs[lo+j]?=some y):j<xs.length-lo:=by
 have:=(List.getElem?_eq_some_iff.1 h).1
 omega
end
end Go.A
