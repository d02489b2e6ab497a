/- Abstract states of a walk: plain lemmas on the model, without conditions of their own. -/
import Derived.Test.YtodhafdaelcnlaaGreatEng5
set_option linter.unusedVariables false
set_option linter.unusedSimpArgs false
set_option linter.ambiguousOpen false
set_option linter.unusedSectionVars false
set_option linter.unnecessarySimpa false
open List renaming getElem?_map->Czz,map_cons->Blz,not_mem_nil->Daz,take_append_drop->Ccz,range'->Dbz
open Nat renaming beq->Aaz,eq_of_beq_eq_true->Abz,blt->Cyz,ne_of_beq_eq_false->Dcz
open Bool renaming and_eq_true->Afz
namespace Go.A
open Go Go.E
inductive eM (ρ:AE) (σ:St):X->Prop
 | tmp (t:Nat) {x:X} (h:ρ t=x):eM ρ σ x
 | box (r c:Nat) {cs:List X} {x:X} (h:ak σ r=.box cs) (hc:cs[c]?=some x):eM ρ σ x
 | ag {cs:List X} {x:X} (c:Nat) (h:eM ρ σ (.ag cs)) (hc:cs[c]?=some x):eM ρ σ x
 | tu {cs:List X} {x:X} (c:Nat) (h:eM ρ σ (.tu cs)) (hc:cs[c]?=some x):eM ρ σ x
 | el {α:Type} {m:Md} {k k' j:Nat} {f:α->D} {xs:List α} {y:α} {zs:List D} (c:Nat) (h:eM ρ σ (.d m (.sl k (xs.map f)))) (hj:xs[j]?=some y) (hc:(f y).cells[c]?=some (.sl k' zs)):eM ρ σ (.d m (.sl k' zs))
 | rw {α:Type} {m:Md} {k k' j:Nat} {f:α->D} {xs:List α} {y:α} {zs:List D} (r c:Nat) (h:ak σ r=.row m k (xs.map f)) (hj:xs[j]?=some y) (hc:(f y).cells[c]?=some (.sl k' zs)):eM ρ σ (.d m (.sl k' zs))
theorem eM.vr {S:Start}{F:Nat->Prop}{g:Nat->G}{w:World}{ρ:AE}{σ:St}{ρc:Env}(hs:bu S F g (ak σ) w)(hv:VR S F g w ρ ρc):∀ {x:X},eM ρ σ x->∃ v,Go.A.vr (SM F S.B) w g x v
 | _,.tmp t h=>⟨ρc t,h▸hv t⟩
 | _,.box r c h hc=>by
  obtain⟨b,T,vs,_,_,h3⟩:=pj hs h;obtain⟨v,_,h4⟩:=h3.get hc;exact⟨v,h4⟩
 | _,.ag c h hc=>by
  obtain⟨v,U⟩:=h.vr hs hv;rw[Go.A.vr] at U;obtain⟨vs,_,K⟩:=U;obtain⟨v,_,h4⟩:=K.get hc;exact⟨v,h4⟩
 | _,.tu c h hc=>by
  obtain⟨v,U⟩:=h.vr hs hv;rw[Go.A.vr] at U;obtain⟨vs,_,K⟩:=U;obtain⟨v,_,h4⟩:=K.get hc;exact⟨v,h4⟩
 | _,.el c h hj hc=>by
  obtain⟨v,U⟩:=h.vr hs hv;rw[Go.A.vr,rdC] at U;obtain⟨A,cap,cells,_,_,_,K,_⟩:=U;obtain⟨cs,_,h3,_⟩:=K.get (i:=_) (by rw[Czz,hj];rfl);obtain⟨v,_,h4⟩:=rdCs.get h3 hc;exact⟨v,by rw[Go.A.vr];exact h4⟩
 | _,.rw r c h hj hc=>by
  obtain⟨v,L,gs,hg,hrow⟩:=mM hs (.inr ⟨_,_,h,rfl⟩);obtain⟨_,K,_⟩:=lh hrow;obtain⟨cs,_,h3,_⟩:=K.get (i:=_) (by rw[Czz,hj];rfl);obtain⟨v,_,h4⟩:=rdCs.get h3 hc;exact⟨v,by rw[Go.A.vr];exact h4⟩
def p7:X->Prop
 | .d _ (.sl _ xs)=>(xs.length:Int)<=9223372036854775807
 | .d _ x=>fY x
 | _=>True
theorem T7 {S1:Md->Nat->Prop}{w:World}{g:Nat->G}{x:X}{v:Value}(h:vr S1 w g x v):p7 x:=by
 cases x<;>try trivial
 rename_i m x;cases x<;>try trivial
 rw[vr,rdC] at h;exact h.2;rw[vr,rdC] at h;exact h.2;rw[vr,rdC] at h;obtain⟨A,cap,cells,_,U,K,_⟩:=h;have K:cap<=9223372036854775807:=K;show _<=(9223372036854775807:Int);omega
section
variable {P:Program}{S:Start}{n:Nat}{ρ:AE}{σ:St}{c:Code}{QP:cW}
theorem Dw {x:X}(hx:eM ρ σ x)(h:p7 x->AW P S n c QP ρ σ):AW P S n c QP ρ σ:=by
 intro F g w ρc hs hv;obtain⟨v,U⟩:=hx.vr hs hv;exact h (T7 U) F g w ρc hs hv
theorem R4 {r k:Nat}{m:Md}{xs:List D}(Z:ak σ r=.row m k xs)(h:(xs.length:Int)<=9223372036854775807->AW P S n c QP ρ σ):AW P S n c QP ρ σ:=by
 intro F g w ρc hs hv;obtain⟨v,L,gs,hg,hrow⟩:=mM hs (.inr ⟨m,xs,Z,rfl⟩);obtain⟨A,c,_,U,K⟩:=hrow.1.form;have K:c<=9223372036854775807:=K;rw[bh] at U;exact h (by omega) F g w ρc hs hv
theorem R3 {r k:Nat}{m:Md}{es:List (List Cell)}{hh:List (Nat×Nat×Nat)}(Z:ak σ r=.deep m k es hh)(h:(es.length:Int)<=9223372036854775807->AW P S n c QP ρ σ):AW P S n c QP ρ σ:=by
 intro F g w ρc hs hv;obtain⟨v,L,gs,hg,hrow⟩:=mM hs (.inl ⟨m,hh,Z⟩);obtain⟨A,c,_,U,K⟩:=hrow.1.form;have K:c<=9223372036854775807:=K;exact h (by omega) F g w ρc hs hv
end
section
variable {P:Program}{T:TypeId}{X1 Y1:X}{a b:Int}{m m' : Md}
abbrev BR (P:Program)(op:BinOp)(T:TypeId)(X1 Y1:X)(u v:Value)(z:D)(r:Value):Prop:=gx X1->gx Y1->cK P op T u v r/\fY z
theorem lO (h:aX (a+b)):BR P .add T X1 Y1 (.int .i64 a) (.int .i64 b) (.i .i64 (a+b)) (.int .i64 (a+b)):=λ_ _=>⟨cK.add h,h⟩
theorem Gp (h:aX (a-b)):BR P .sub T X1 Y1 (.int .i64 a) (.int .i64 b) (.i .i64 (a-b)) (.int .i64 (a-b)):=λ_ _=>⟨cK.sub h,h⟩
theorem nU (h:aX (a*b)):BR P .mul T X1 Y1 (.int .i64 a) (.int .i64 b) (.i .i64 (a*b)) (.int .i64 (a*b)):=λ_ _=>⟨SO h,h⟩
theorem iE {p q:Nat}(h:aX ((p+q:Nat):Int)):BR P .add T X1 Y1 (.int .i64 (p:Int)) (.int .i64 (q:Int)) (.i .i64 ((p+q:Nat):Int)) (.int .i64 ((p+q:Nat):Int)):=λ_ _=>⟨Sg rfl h,h⟩
theorem mz {p k:Nat}(hk:k<=4611686018427387904):BR P .sub T (.d m (.i .i64 (p:Int))) Y1 (.int .i64 (p:Int)) (.int .i64 (k:Int)) (.i .i64 ((p:Int)-(k:Int))) (.int .i64 ((p:Int)-(k:Int))):=λh _=>⟨cK.sub (Km h hk),Km h hk⟩
theorem qK:BR P .add T X1 Y1 (.int .i64 a) (.int .i64 b) (.i .i64 (IntKind.i64.wrap (a+b))) (.int .i64 (IntKind.i64.wrap (a+b))):=λ_ _=>⟨S8,Bf _⟩
theorem ID:BR P .mul T X1 Y1 (.int .i64 a) (.int .i64 b) (.i .i64 (IntKind.i64.wrap (a*b))) (.int .i64 (IntKind.i64.wrap (a*b))):=λ_ _=>⟨S7,Bf _⟩
theorem wx:BR P .and T X1 Y1 (.int .i64 a) (.int .i64 b) (.i .i64 (jy a b)) (.int .i64 (jy a b)):=λ_ _=>⟨Se,Bf _⟩
theorem PO:BR P .xor T X1 Y1 (.int .i64 a) (.int .i64 b) (.i .i64 (wD a b)) (.int .i64 (wD a b)):=λ_ _=>⟨Sd,Bf _⟩
theorem HR {q:IntKind}(h:0<=b):BR P .shr T (.d m (.i .i64 a)) Y1 (.int .i64 a) (.int q b) (.i .i64 (mC a b)) (.int .i64 (mC a b)):=λU _=>⟨Sf h,V8 U _⟩
theorem sH {q:IntKind}(h:0<=b/\b<63):BR P .shl T X1 Y1 (.int .i64 1) (.int q b) (.i .i64 ((2 ^ b.toNat:Nat):Int)) (.int .i64 ((2 ^ b.toNat:Nat):Int)):=λ_ _=>⟨SY h.1 h.2,Ui h.2⟩
theorem Ax {q:IntKind}(h:0<=a/\0<=b/\b<64):BR P .shr T (.d m (.i .i64 a)) Y1 (.int .i64 a) (.int q b) (.i .i64 ((a.toNat >>> b.toNat:Nat):Int)) (.int .i64 ((a.toNat >>> b.toNat:Nat):Int)):=λU _=>⟨SX h.1 h.2.1 h.2.2,Uh U⟩
theorem Aw (h:0<=a/\0<=b):BR P .and T (.d m (.i .i64 a)) (.d m' (.i .i64 b)) (.int .i64 a) (.int .i64 b) (.i .i64 ((a.toNat &&& b.toNat:Nat):Int)) (.int .i64 ((a.toNat &&& b.toNat:Nat):Int)):=λU K=>⟨Si h.1 U.2 h.2 K.2,Ug h U K⟩
theorem nS (h:0<=a/\0<=b):BR P .or T (.d m (.i .i64 a)) (.d m' (.i .i64 b)) (.int .i64 a) (.int .i64 b) (.i .i64 ((a.toNat ||| b.toNat:Nat):Int)) (.int .i64 ((a.toNat ||| b.toNat:Nat):Int)):=λU K=>⟨Sx h.1 U.2 h.2 K.2,TM h U K⟩
theorem rb (h:b≠0):BR P .rem T (.d m (.i .i64 a)) Y1 (.int .i64 a) (.int .i64 b) (.i .i64 (a.tmod b)) (.int .i64 (a.tmod b)):=λU _=>⟨Sb h,Uf U⟩
theorem xe (h:b≠0)(g:aX (a.tdiv b)):BR P .quo T X1 Y1 (.int .i64 a) (.int .i64 b) (.i .i64 (a.tdiv b)) (.int .i64 (a.tdiv b)):=λU _=>⟨Sc h g,g⟩
theorem sG {s t:ar}(h:s.size+t.size<=9223372036854775807):BR P .add T X1 Y1 (.string s) (.string t) (.s (s++t)) (.string (s++t)):=λ_ _=>⟨S4 h,by simp only[fY];rw[ByteArray.size_append];exact h⟩
end
section
variable {P:Program}[af P]{S:Start}{n:Nat}{ops:Array Oper}{Q:AE->St->Prop}{QP:cW}{o:Oper}{rest:List Oper}{ρ:AE}{σ:St}{d:Nat}{v:X}{rd:List Nat}{md:da}{T e:Nat}{t te:TI}{α:Type}{f:α->D}{xs:List α}{k:Nat}{m m' : Md}
theorem IE {x i:Operand}{r:Nat}{q:IntKind}{j:Int}{y:α}(hj:xs[j.toNat]?=some y)(h0:0<=j)(h:AL P S ops Q (bb md [r] []) rest (aw ρ d (.pe r none j.toNat 0)) σ)(ho:o.op=.indexAddr T x i:=by rfl)(hT:(af.tab P).get T=some t:=by rfl)(he:t.el=some e:=by rfl)(hE:(af.tab P).get e=some te:=by rfl)(hx:aH ρ x=.ref r none:=by rfl)(hσ:ak σ r=.row m te.sz (xs.map f):=by rfl)(hi:aH ρ i=.d m' (.i q j):=by rfl)(hd:o.dst=some d:=by rfl)(hg:a7 ops ρ o=some true:=by rfl):AL P S ops Q md (o::rest) ρ σ:=
 b8 (Aj ho (cM hT he hE).1 (cM hT he hE).2 hx (by rw[hσ];rfl) hi h0 (a8 (a8 hj))) h hd hg
theorem LP {x:Operand}{r j c:Nat}{y:α}{z:D}(hj:xs[j]?=some y)(h:AL P S ops Q (bb md [r] []) rest (aw ρ d (dX m z)) σ)(ho:o.op=.load T x:=by rfl)(hT:(af.tab P).get T=some t:=by rfl)(ha:t.agg=false:=by rfl)(hx:aH ρ x=.pe r none j c:=by rfl)(hσ:ak σ r=.row m k (xs.map f):=by rfl)(hz:(f y).cells[c]?=some z:=by rfl)(hd:o.dst=some d:=by rfl)(hg:a7 ops ρ o=some true:=by rfl):AL P S ops Q md (o::rest) ρ σ:=
 b8 (Ak (hx':=[]) ho (by rw[TI.agg' (bS.chk af.ok hT),ha]) hx (by rw[hσ];rfl) (a8 (a8 hj)) (by rw[bT,Czz,hz];rfl) (.inl rfl) rfl) h hd hg
theorem Cb {m:Md}:∀ {ds:List D} {c:Nat},pg [] c (ds.map (Cell.d m))=some (ds.map (dX m))
 | [],c=>rfl
 | x::ds,c=>by simp only[Blz,pg,mB,Cb]
theorem GD {x:Operand}{r j c:Nat}{y:α}(hj:xs[j]?=some y)(h:AL P S ops Q (bb md [r] []) rest (aw ρ d (.ag ((((f y).cells.drop c).take t.sz).map (dX m)))) σ)(ho:o.op=.load T x:=by rfl)(hT:(af.tab P).get T=some t:=by rfl)(ha:t.agg=true:=by rfl)(hx:aH ρ x=.pe r none j c:=by rfl)(hσ:ak σ r=.row m k (xs.map f):=by rfl)(hl:Aaz (((f y).cells.drop c).take t.sz).length t.sz=true:=by rfl)(hd:o.dst=some d:=by rfl)(hg:a7 ops ρ o=some true:=by rfl):AL P S ops Q md (o::rest) ρ σ:=
 b8 (Dz (hx':=[]) (p:=(k,(xs.map f).map (bT m))) ho (by rw[TI.agg' (bS.chk af.ok hT),ha]) (TI.sz' (bS.chk af.ok hT)) hx (by rw[hσ];rfl) (a8 (a8 hj)) (by have:=Abz hl;simpa[bT] using this) (.inl rfl) (by rw[bT,← List.map_drop,← List.map_take];exact Cb)) h hd hg
theorem AW.fz {c:Code}(r:Nat){ds:List D}(Z:ak σ r=.row m k ds)(h:AW P S n c QP (λt=>eu r m k ds (ρ t)) (ie r m k ds 0 σ)):AW P S n c QP ρ σ:=AW.gh (qF Z) h
theorem RF (q c r:Nat){k' : Nat}{cs:List X}(m:Md)(k:Nat)(hq:ak σ q=.box cs)(hc:cs[c]?=some (.nl k'))(h:AL P S ops Q (kb md) rest ρ (aO (aO σ r (.row m k [])) q (.box (cs.set c (.ref r none)))))(Z:ak σ r=.none:=by rfl):AL P S ops Q md rest ρ σ:=AL.gh (cX m k hq hc Z) h
theorem RE {c' : Code}(q c r:Nat){k' : Nat}{cs:List X}(m:Md)(k:Nat)(hq:ak σ q=.box cs)(hc:cs[c]?=some (.nl k'))(h:AW P S n c' QP ρ (aO (aO σ r (.row m k [])) q (.box (cs.set c (.ref r none)))))(Z:ak σ r=.none:=by rfl):AW P S n c' QP ρ σ:=AW.gh (cX m k hq hc Z) h
end
section
variable {S1:Md->Nat->Prop}{w:World}{g1 g2:Nat->G}{l:List (Nat×Nat)}
mutual
theorem Je (hg:∀ i j,aW l i=some j->g2 j=g1 i):∀ {x:X} {v:Value},vr S1 w g1 x v->vr S1 w g2 (bf l x) v
 | .d m x,v,h=>by rw[bf];rw[vr] at h ⊢;exact h
 | .ag cs,v,h=>by rw[bf];rw[vr] at h ⊢;obtain⟨vs,U,K⟩:=h;exact⟨vs,U,wV hg K⟩
 | .tu cs,v,h=>by rw[bf];rw[vr] at h ⊢;obtain⟨vs,U,K⟩:=h;exact⟨vs,U,wV hg K⟩
 | .fn f cs,v,h=>by rw[bf];rw[vr] at h ⊢;obtain⟨vs,U,K⟩:=h;exact⟨vs,U,wV hg K⟩
 | .ref r p,v,h=>by
  rw[bf];cases Z:aW l r with
  | none=>show vr _ _ _ .u _;rw[vr];trivial
  | some j=>show vr _ _ _ (.ref j p) _;rw[vr] at h ⊢;rw[hg r j Z];exact h
 | .vs r p a b,v,h=>by
  rw[bf];cases Z:aW l r with
  | none=>show vr _ _ _ .u _;rw[vr];trivial
  | some j=>show vr _ _ _ (.vs j p a b) _;rw[vr] at h ⊢;rw[hg r j Z];exact h
 | .pb r c,v,h=>by
  rw[bf];cases Z:aW l r with
  | none=>show vr _ _ _ .u _;rw[vr];trivial
  | some j=>show vr _ _ _ (.pb j c) _;rw[vr] at h ⊢;rw[hg r j Z];exact h
 | .pe r p i c,v,h=>by
  rw[bf];cases Z:aW l r with
  | none=>show vr _ _ _ .u _;rw[vr];trivial
  | some j=>show vr _ _ _ (.pe j p i c) _;rw[vr] at h ⊢;rw[hg r j Z];exact h
 | .pf m x,v,h=>by rw[bf];rw[vr] at h ⊢;exact h
 | .nl k,v,h=>by rw[bf];rw[vr] at h ⊢;exact h
 | .u,v,h=>by rw[bf];rw[vr];trivial
theorem wV (hg:∀ i j,aW l i=some j->g2 j=g1 i):∀ {xs:List X} {vs:List Value},aU S1 w g1 xs vs->aU S1 w g2 (jx l xs) vs
 | [],vs,h=>by rw[jx];rw[aU] at h ⊢;exact h
 | x::xs,vs,h=>by
  rw[jx];rw[aU] at h ⊢;obtain⟨v,r,U,K,h3⟩:=h;exact⟨v,r,U,Je hg K,wV hg h3⟩
end
end
def DV (l:List (Nat×Nat)):aA->Bool
 | .deep _ _ _ hs=>hs.all λp=>(aW l p.2.2).isSome
 | _=>true
def fH (l:List (Nat×Nat))(n:Nat)(σ:St):St:=(List.range n).map λj=>match cQ l j with|some i=>je l (ak σ i)|none=>.none
theorem Lo:∀ {l:St} {i:Nat},ak l i=(l[i]?).getD .none
 | [],i=>by rw[mU];simp
 | x::l,0=>rfl
 | x::l,i+1=>by simp only[ak];rw[Lo (l:=l)];simp
theorem WR {l:List (Nat×Nat)}{n:Nat}{σ:St}{j:Nat}:ak (fH l n σ) j=if j<n then (match cQ l j with|some i=>je l (ak σ i)|none=>.none) else .none:=by
 rw[Lo,fH,Czz];by_cases hj:j<n;rw[List.getElem?_range hj,ao hj];rfl;rw[List.getElem?_eq_none (by simpa using hj),an hj];rfl
def nO (l:List (Nat×Nat))(n0 n:Nat)(σ:St):Bool:=
 Nat.ble n0 n&&(kp (l.map (·.1))&&(kp (l.map (·.2))&&((List.range n0).all (λi=>match aW l i with|some j=>Aaz j i|none=>false)&&l.all λp=>Cyz p.2 n&&DV l (ak σ p.1))))
def renG (l:List (Nat×Nat))(n:Nat)(g:Nat->G):Nat->G:=λj=>if j<n then (match cQ l j with|some i=>g i|none=>.none) else .none
section
variable {S:Start}{F:Nat->Prop}{g:Nat->G}{w:World}{σ:St}{ρ:AE}
theorem bu.ren (h:bu S F g (ak σ) w){l:List (Nat×Nat)}{n n0:Nat}(hS:S.n0=n0)(hok:nO l n0 n σ=true):bu S F (renG l n g) (ak (fH l n σ)) w/\∀ x v,vr (SM F S.B) w g x v->vr (SM F S.B) w (renG l n g) (bf l x) v:=by
 subst hS;simp only[nO,Afz] at hok;obtain⟨hn0,hd1,hd2,hpar,hall⟩:=hok;have hn0:S.n0<=n:=by simpa using hn0
 have hd1:=qc hd1;have hd2:=qc hd2;have hp:∀ i,i<S.n0->aW l i=some i:=λi hi=>by
  have:=List.all_eq_true.1 hpar i (List.mem_range.2 hi);split at this;rename_i j hj;rw[hj,Abz this];cases this
 have hl:∀ i j,aW l i=some j->j<n/\DV l (ak σ i)=true:=λi j hij=>by
  have:=List.all_eq_true.1 hall (i,j) (Bb hij);simp only[Afz] at this;exact⟨by simpa using this.1,this.2⟩
 have hg:∀ i j,aW l i=some j->renG l n g j=g i:=λi j hij=>by
  simp only[renG,ao (hl i j hij).1,rr hd2 hij hd1]
 have hinv:∀ j,(∃ i,aW l i=some j/\renG l n g j=g i/\ak (fH l n σ) j=je l (ak σ i))∨(renG l n g j=.none/\ak (fH l n σ) j=.none):=λj=>by
  rw[WR];simp only[renG];by_cases hj:j<n;simp only[ao hj];cases hi:cQ l j with
  | none=>exact .inr ⟨rfl,rfl⟩
  | some i=>exact .inl ⟨i,Fh hi hd1,by simp,by simp⟩
  exact .inr (by simp[hj])
 refine⟨⟨h.chg,h.bB,h.fmono,h.fnew,h.flt,λj=>?_,h.low,λj=>?_,λj=>?_,λj j' hne b Y=>?_,λj b Y=>?_⟩,λx v hv=>Je hg hv⟩;rcases hinv j with ⟨i,U,K,h3⟩|⟨K,h3⟩
 rw[K,h3];have Z:=h.roots i;have hh:=(hl i j U).2;revert Z hh;cases ak σ i<;>intro Z hh<;>cases hgi:g i<;>rw[hgi] at Z<;>try exact Z.elim
 trivial;trivial;obtain⟨vs,k1,k2⟩:=Z;exact⟨vs,k1,wV hg k2⟩;exact Z;simp only[DV] at hh;refine⟨Z.1,λp hp gc hgc=>?_,Z.2.2⟩;obtain⟨q,hq,rfl⟩:=List.mem_map.1 hp;obtain⟨j',hj'⟩:=Option.isSome_iff_exists.1 (List.all_eq_true.1 hh q hq);simp only[hj',Option.getD_some];rw[hg _ _ hj'];exact Z.2.1 q hq gc hgc;rw[K,h3];trivial;by_cases hj:j<S.n0;rw[hg j j (hp j hj)];exact h.hdr j;rw[h.low j (Nat.le_of_not_lt hj)];trivial;rcases hinv j with ⟨i,_,K,_⟩|⟨K,_⟩
 rw[K];exact h.nodup i;rw[K];exact List.nodup_nil;rcases hinv j with ⟨i,U,K,_⟩|⟨K,_⟩
 rw[K] at Y;rcases hinv j' with ⟨i',h1',h2',_⟩|⟨h2',_⟩
 rw[h2'];exact h.disj i i' (λe=>hne (by subst e;rw[U] at h1';exact Option.some.inj h1')) b Y;rw[h2'];exact Daz;rw[K] at Y;cases Y;rcases hinv j with ⟨i,_,K,_⟩|⟨K,_⟩
 rw[K] at Y;exact h.own i b Y;rw[K] at Y;cases Y
def sY (l:List (Nat×Nat))(ρ:AE):List (Nat×X)->Prop
 | []=>True
 | (t,x)::L=>Wk x (bf l (ρ t))/\sY l ρ L
theorem Jd {ρc:Env}{l:List (Nat×Nat)}{g' : Nat->G}(h:∀ t,vr (SM F S.B) w g' (bf l (ρ t)) (ρc t)):∀ {L:List (Nat×X)},sY l ρ L->VR S F g' w (ofX L) ρc
 | [],_=>λt=>by simp only[Go.A.ofX];rw[Go.A.vr];trivial
 | (t,x)::L,hl=>λs=>by
  simp only[Go.A.ofX,aw];cases Y:Aaz s t with
  | true=>have:=Abz Y;subst this;exact hl.1.vr (h _)
  | false=>exact Jd h hl.2 s
theorem GH.ren {n0:Nat}(hS:S.n0=n0)(l:List (Nat×Nat))(n:Nat){L:List (Nat×X)}{σt:St}(hL:sY l ρ L)(hσ:fH l n σ=σt:=by rfl)(hc:nO l n0 n σ=true:=by rfl):GH S ρ σ (ofX L) σt:=by
 intro F g w ρc hs hv;subst hσ;obtain⟨U,K⟩:=hs.ren hS hc;exact⟨F,_,U,Jd (λt=>K _ _ (hv t)) hL⟩
theorem dA.ren {P:Program}{fn:Func}{e:Exit}{lr:List ResultVar}{xs:List X}{res:X}{post:St}{n0:Nat}(l:List (Nat×Nat))(n:Nat)(he:e=.normal∨e=.ret)(hS:S.n0=n0)(hl:fn.results=lr.toArray)(ht:lr.all (qW fn.ntmps)=true)(hx:nP P ρ σ lr=some xs)(hw:Wk res (bf l (jM xs)))
  (hc:nO l n0 n σ=true) (hp:fH l n σ=post):dA P S fn res post e ρ σ:=by
 refine⟨he,λF g w ρc hs hv=>?_⟩;obtain⟨vs,U,K⟩:=MH hs hv ht hx;obtain⟨k1,k2⟩:=hs.ren hS hc;subst hp;exact⟨na vs,λa ha=>YW hl (U a ha),F,_,k1,hw.vr (k2 _ _ (TJ K))⟩
end
theorem dT {p:Prop}[Decidable p](h:p):decide p=true:=decide_eq_true h
theorem dF {p:Prop}[Decidable p](h:¬ p):decide p=false:=decide_eq_false h
theorem nT {p:Prop}[Decidable p](h:¬ p):(!decide p)=true:=by simp[h]
theorem nF {p:Prop}[Decidable p](h:p):(!decide p)=false:=by simp[h]
theorem bF {t:Bool}(h:¬ t=true):t=false:=by simpa using h
theorem Bt {t:Bool}(h:¬ t=true):(!t)=true:=by simpa using h
theorem Bu {t:Bool}(h:t=true):(!t)=false:=by simp[h]
section
variable {P:Program}{S:Start}{n:Nat}{QP:cW}{ρ:AE}{σ:St}{c:Operand}{x y:Code}{m:Md}{b:Bool}
theorem jl (hc:aH ρ c=.d m (.b b))(Y:b=true)(h:AW P S n x QP ρ σ):AW P S n (.cond c x y) QP ρ σ:=Iw hc (λ_=>h) λe=>by rw[Y] at e;cases e
theorem iO (hc:aH ρ c=.d m (.b b))(Y:b=false)(h:AW P S n y QP ρ σ):AW P S n (.cond c x y) QP ρ σ:=Iw hc (λe=>by rw[Y] at e;cases e) λ_=>h
end
section
variable {P:Program}[af P]{S:Start}{n:Nat}{ops:Array Oper}{Q:AE->St->Prop}{o:Oper}{l rest:List Oper}{ρ:AE}{σ:St}{d:Nat}{md:da}{m:Md}{b:Bool}
theorem Iz {rd:List Nat}{b b' : Bool}(e:b=b')(h:LT P S o ρ σ rd (.d m (.b b)) []):LT P S o ρ σ rd (.d .fz (.b b')) []:=by
 subst e;intro σ1 F g w ρc W a2 a3 a4;have:=h σ1 F g w ρc W a2 a3 a4;revert this;generalize (execOp (E.ev ρc) o).run P w=r;intro h;have key:∀ vc w',(∃ F' g',bu S F' g' (cq σ1 []) w'/\cr S.B F g w F' g' w'/\vr (SM F' S.B) w' g' (.d m (.b b)) vc)->∃ F' g',bu S F' g' (cq σ1 []) w'/\cr S.B F g w F' g' w'/\vr (SM F' S.B) w' g' (.d .fz (.b b)) vc:=λvc w' ⟨F',g',U,K,h3⟩=>⟨F',g',U,K,by rw[vr,rdC] at h3 ⊢;exact h3⟩
 cases r with
 | ok x w'=>
  cases x<;>simp only[lH] at h ⊢
  case value u=>exact key _ _ h
  case skip=>exact key _ _ h
  case enter f args=>exact h.mono λe w'' ⟨v,k1,k2⟩=>⟨v,k1,key _ _ k2⟩
 | halt x w'=>simp only[lH] at h
theorem VT {rd:List Nat}(hv:opV (af.tab P) ρ σ o.op=some (.d m (.b b),rd))(Y:b=true)(h:AL P S ops Q (bb md rd []) rest (aw ρ d (.d .fz (.b true))) σ)(hd:o.dst=some d:=by rfl)(hg:a7 ops ρ o=some true:=by rfl):AL P S ops Q md (o::rest) ρ σ:=
 b8 (wr:=[]) (Iz Y (Do (P:=P) (S:=S) af.ok hv)) h hd hg
theorem VF {rd:List Nat}(hv:opV (af.tab P) ρ σ o.op=some (.d m (.b b),rd))(Y:b=false)(h:AL P S ops Q (bb md rd []) rest (aw ρ d (.d .fz (.b false))) σ)(hd:o.dst=some d:=by rfl)(hg:a7 ops ρ o=some true:=by rfl):AL P S ops Q md (o::rest) ρ σ:=
 b8 (wr:=[]) (Iz Y (Do (P:=P) (S:=S) af.ok hv)) h hd hg
theorem Rm {β:Type}(k:Nat){M:β->Prop}(L:β->List (Nat×X))(hk:AL P S ops (λρ' σ'=>∃ s,M s/\rf ρ' (L s)/\σ'=σ) none (l.take k) ρ σ)(h:∀ s,M s->AL P S ops Q none (l.drop k) (ofX (L s)) σ):AL P S ops Q none l ρ σ:=by
 intro j lg hd;have e:l=l.take k++l.drop k:=(Ccz k l).symm;rw[e];refine AT.bind (hk j lg hd) λρ' σ' lg' hd' ⟨s,U,K,h3⟩=>?_;subst h3;exact .gh (RI (L s) K) (h s U _ _ _)
end
section
variable {P:Program}{S:Start}{n:Nat}{QP:cW}{ρ:AE}{σ:St}{c:Code}
theorem cy (j:Nat)(L:List (Nat×X))(R:List (Nat×aA))(U:AW P S n c (iW (λρ' σ'=>GH S ρ' σ' (ofX L) (bj (σ.take j) R)) QP) ρ σ)(K:QP .normal (ofX L) (bj (σ.take j) R)):AW P S n c QP ρ σ:=
 AW.cut (β:=Unit) j (λ_=>L) (λ_=>R) (M:=λ_=>True) (U.mono λe ρ' σ' h=>by cases e<;>first|exact⟨(),trivial,h⟩|exact h) λ_ _=>K
theorem AW.len {α:Type}{xs:List α}{f:α->D}{m:Md}{k:Nat}(hx:eM ρ σ (.d m (.sl k (xs.map f))))(h:(xs.length:Int)<=9223372036854775807->AW P S n c QP ρ σ):AW P S n c QP ρ σ:=
 Dw hx λU=>h (by simpa[p7] using U)
theorem Ix {α:Type}{xs:List α}{f:α->D}{m:Md}{k:Nat}(r:Nat)(Z:ak σ r=.row m k (xs.map f))(h:(xs.length:Int)<=9223372036854775807->AW P S n c QP ρ σ):AW P S n c QP ρ σ:=
 R4 Z λU=>h (by simpa using U)
theorem AW.rng {m:Md}{k:IntKind}{b:Int}(hx:eM ρ σ (.d m (.i k b)))(h:fj k b->AW P S n c QP ρ σ):AW P S n c QP ρ σ:=Dw hx h
theorem Rk {m:Md}{t:ar}(hx:eM ρ σ (.d m (.s t)))(h:t.size<=9223372036854775807->AW P S n c QP ρ σ):AW P S n c QP ρ σ:=Dw hx h
end
theorem ltN {k n:Nat}(h:k<n):(k:Int)<(n:Int):=by omega
theorem ltI {k:Nat}{b:Int}(h:k<b.toNat):(k:Int)<b:=by omega
theorem geN {n:Nat}:¬ ((n:Nat):Int)<(n:Int):=by omega
theorem geI {b:Int}:¬ ((b.toNat:Nat):Int)<b:=by omega
section
variable {P:Program}[af P]{S:Start}{n:Nat}{ops:Array Oper}{Q:AE->St->Prop}{QP:cW}{o:Oper}{rest:List Oper}{ρ:AE}{σ:St}{d:Nat}{md:da}{T e:Nat}{t te:TI}{m:Md}
theorem Ef {β:Type}{f:β->X}:∀ {l:List (Nat×β)} {i:Nat},l.map (·.1)=Dbz i l.length->l.map (λp=>(p.1,f p.2))=eT i (l.map λp=>f p.2)
 | [],_,_=>rfl
 | p::l,i,h=>by
  simp only[Blz,bE,List.range'_succ,List.cons.injEq] at h;simp only[Blz,eT,Ef h.2,h.1]
theorem ig {α:Type}{f:α->D}{xs:List α}{mm:Nat}{parts:Array (Nat×Operand)}{zs:List X}(r:Nat)(h:AL P S ops Q (bb md [] [r]) rest (aw ρ d (.ref r none)) (aO σ r (.row m te.sz (xs.map f))))(ho:o.op=.buildSlice T mm parts:=by rfl)(hT:(af.tab P).get T=some t:=by rfl)(he:t.el=some e:=by rfl)(hE:(af.tab P).get e=some te:=by rfl)(hz:te.z=some zs:=by rfl)(hzl:zs.length=te.sz:=by rfl)(hp:parts.toList.map (·.1)=Dbz 0 parts.toList.length:=by rfl)(hds:gE m (parts.toList.map λp=>aH ρ p.2)=some (xs.map f):=by rfl)(hw:(xs.map f).all (λd=>Aaz d.cells.length te.sz)=true:=by rfl)(hn:(xs.map f).length=mm:=by rfl)(hk0:Cyz 0 te.sz=true:=by rfl)(hm:Cyz 0 mm=true:=by rfl)(hm2:Nat.ble (mm*te.sz) 100000=true:=by rfl)(Z:ak σ r=.none:=by rfl)(hd:o.dst=some d:=by rfl)(hg:a7 ops ρ o=some true:=by rfl):AL P S ops Q md (o::rest) ρ σ:=by
 obtain⟨z,U,K⟩:=TI.z' (bS.chk af.ok hE) hz;exact b8 (Ii ho (cM hT he hE).1 (cM hT he hE).2 U (by rw[← hzl,← (K (λ_ _=>True) default (λ_=>.none)).len]) (Ef hp) hds hw hn hk0 hm hm2 Z) h hd hg
end
theorem ko {m:Md}:gl m .bo=true:=by cases m<;>rfl
theorem DA {α:Type}{σ:Nat->aA}{r k:Nat}{m:Md}{f:α->List Cell}{D0:α->D}{xs:List α}(hf:∀ x,DR (f x) (D0 x))(h:σ r=.deep m k (xs.map f) []):cG σ r m k (xs.map D0) [r]:=
 .deep h (aS.map hf xs) rfl rfl
theorem Vq {α:Type}{l:List α}{j:Nat}{x:α}(h:l[j]?=some x):l.set j x=l:=by
 apply List.ext_getElem?;intro i;rw[List.getElem?_set];split;rename_i hi;subst hi;have hl:=(List.getElem?_eq_some_iff.1 h).1;rw[ao hl,h];rfl
theorem AT.mono {P:Program}{S:Start}{ops:Array Oper}{Z6 K' : AE->St->Lg->Option Nat->Prop}{k:Nat}{l:List Oper}{ρ:AE}{σ:St}{lg:Lg}{hd:Option Nat}(h:AT P S ops Z6 k l ρ σ lg hd)(hk:∀ ρ σ lg hd,Z6 ρ σ lg hd->K' ρ σ lg hd):AT P S ops K' k l ρ σ lg hd:=by
 induction h with
 | nil h=>exact .nil (hk _ _ _ _ h)
 | op hg hl _ ih=>exact .op hg hl ih
 | off hg _ ih=>exact .off hg ih
 | opT hg hl _ ih=>exact .opT hg hl ih
 | gh hl _ ih=>exact .gh hl ih
theorem Dn {S:Start}{ρ:AE}{σ:St}{r k:Nat}{xs:List D}(m:Md)(Z:ak σ r=.row .fz k xs):GH S ρ σ ρ (aO σ r (.row m k xs)):=by
 intro F g w ρc hs hv;refine⟨F,g,⟨hs.chg,hs.bB,hs.fmono,hs.fnew,hs.flt,λi=>?_,hs.low,hs.hdr,hs.nodup,hs.disj,hs.own⟩,hv⟩;rw[jC];by_cases hi:i=r;subst hi;rw[ao rfl];have h:=hs.roots i;rw[Z] at h;revert h;cases g i<;>intro h<;>try exact h.elim
 obtain⟨U,K⟩:=h;obtain⟨k1,k2,k3,k4⟩:=lh K;rename_i v k' L gs;subst U;refine⟨rfl,k1 |> λq=>by rw[bh];exact q,?_⟩;have:(b0 gs).length=xs.length*k':=k2.len;have h3:rowOk (λ_=>SM F S.B m) w (xs.map (bT .fz)) v k' L gs:=M8 K λb Y=>by
  cases m with
  | fz=>exact Y
  | bo=>exact .inl Y
 obtain⟨gs2,q1,q2,q3⟩:=qP (S1:=SM F S.B) (m:=m) (k2.mono λb Y=>by cases m with|fz=>exact Y|bo=>exact .inl Y);clear q1 q2 q3 gs2;have conv:∀ (ds:List D) (ge:List GC),aS (aT (SM F S.B) w) (ds.map (Cell.d .fz)) ge->aS (aT (SM F S.B) w) (ds.map (Cell.d m)) ge:=by
  intro ds
  induction ds with
  | nil=>exact λ_ h=>h
  | cons d ds ih=>exact λge ⟨gc,r,U,K,h3⟩=>⟨gc,r,U,⟨K.1,K.2.1,K.2.2.mono λb Y=>by cases m with|fz=>exact Y|bo=>exact .inl Y⟩,ih r h3⟩
 have h4:=K.2;clear h3 k1 k2 k3 k4 K Z this
 induction xs generalizing gs with
 | nil=>exact h4
 | cons x xs ih=>
  obtain⟨ge,r,e1,e2,e3⟩:=h4;exact⟨ge,r,e1,⟨by have:=e2.1;simpa[bT] using this,conv _ _ e2.2⟩,ih _ e3⟩
 rw[an hi];exact hs.roots i
section
variable {P:Program}[af P]{S:Start}{n:Nat}{ops:Array Oper}{Q:AE->St->Prop}{o:Oper}{l rest:List Oper}{ρ:AE}{σ:St}{d:Nat}{md:da}
theorem aV (k:Nat)(L:List (Nat×X))(hk:AL P S ops (λρ' σ'=>rf ρ' L/\σ'=σ) none (l.take k) ρ σ)(h:AL P S ops Q none (l.drop k) (ofX L) σ):AL P S ops Q none l ρ σ:=
 Rm (β:=Unit) (M:=λ_=>True) k (λ_=>L) (λj lg hd=>(hk j lg hd).mono λρ' σ' _ _ h=>⟨(),trivial,h.1,h.2⟩) λ_ _=>h
theorem CB {f:Nat}{c:Call}{x:Operand}{caps axs args:List X}{pre post:St}{res:X}(ren:List (Nat×Nat))(vw:List Nat)(ok:Ok P f args pre res post)(h:AL P S ops Q (bb md vw ((ren.map λp=>(p.2,fD ren (ak post p.1))).map (·.1))) rest (aw ρ d (bf ren res)) (bj σ (ren.map λp=>(p.2,fD ren (ak post p.1)))))
  (ho:o.op=.call c:=by rfl) (hc:c.callee=.value x:=by rfl) (hx:aH ρ x=.fn f caps:=by rfl) (hcb:iJ P f=true:=by kernel_rfl) (ha:c.args.toList.map (aH ρ)++caps=axs:=by rfl) (hp:cC (ak σ) ren vw axs args:=by repeat (first|exact .nil|refine .cons ?_ ?_|exact .same|exact .ag (.cons .same (.cons .same .nil))|refine .ag ?_|exact .d rfl|exact .d ko|exact .nld|exact .nl|exact .rd rfl rfl|exact .vd rfl rfl|exact .pb rfl|exact .ref rfl|refine .fn ?_|exact .pf rfl|exact .pf ko|exact .dd (DA (by exact λ_=>rfl) rfl) rfl|exact .dd (DA ju.rd rfl) rfl|(refine .dd (DAh (x:=?x) ju.rd ?hx0 rfl rfl rfl ?he0) rfl;(case hx0=>assumption);(case he0=>rfl))|exact .u))
  (hpre:cR (ak σ) (ak pre) ren ren:=by repeat (first|exact trivial|refine And.intro rfl ?_)) (hchk:mL ren vw pre post res=true:=by rfl) (hd:o.dst=some d:=by rfl) (hg:a7 ops ρ o=some true:=by rfl):AL P S ops Q md (o::rest) ρ σ:=
 CA ren vw ok hp h hpre ho hc hx hcb ha hchk hd hg
end
theorem dA.gh {P:Program}{S:Start}{fn:Func}{res:X}{post:St}{e:Exit}{ρ ρ' : AE}{σ σ' : St}(hg:GH S ρ σ ρ' σ')(h:dA P S fn res post e ρ' σ'):dA P S fn res post e ρ σ:=
 ⟨h.1,λF g w ρc hs hv=>let ⟨F',g',U,K⟩:=hg F g w ρc hs hv;h.2 F' g' w ρc U K⟩
section
variable {P:Program}[af P]{S:Start}{n:Nat}{ops:Array Oper}{Q:AE->St->Prop}{QP:cW}{o:Oper}{rest:List Oper}{ρ:AE}{σ:St}{d:Nat}{v:X}{rd:List Nat}{md:da}{T e:Nat}{t te:TI}
theorem RD {x i:Operand}{m m' : Md}{s:ar}{q:IntKind}{j:Int}{b:UInt8}(ho:o.op=.index T x i)(hT:P.underlying T=some .string)(hx:aH ρ x=.d m (.s s))(hi:aH ρ i=.d m' (.i q j))(h0:0<=j)(Y:s.data[j.toNat]?=some b):LT P S o ρ σ [] (.d .fz (.i .u8 (b.toNat:Int))) []:=
 LT.val λσ1 F g w ρc hs Z hw=>by
  have e1:=hw x (by simp[ho,Op.operands]);have e2:=hw i (by simp[ho,Op.operands]);rw[hx,vr,rdC] at e1;rw[hi,vr,rdC] at e2;refine⟨_,Q4 (k:=j.toNat) ho hT e1.1 (by rw[e2.1,oY h0]) Y,?_⟩;rw[vr,rdC];exact⟨rfl,by omega,by have:=b.toNat_lt;omega⟩
theorem Rj {Z7 e:Nat}{x:Operand}{r:Nat}{m:Md}{b:UInt8}(ho:o.op=.convert Z7 T x)(hU:db P Z7=some e)(he:ga P e=some .u8)(hT:P.underlying T=some .string)(hx:aH ρ x=.ref r none)(hσ:ak σ r=.row m 1 [.i .u8 (b.toNat:Int)]):LT P S o ρ σ [r] (.d .fz (.s ⟨#[b]⟩)) []:=
 LT.val λσ1 F g w ρc hs Z hw=>by
  have e1:=hw x (by simp[ho,Op.operands]);have hq:σ1 r=.row m 1 [.i .u8 (b.toNat:Int)]:=(Z r (by simp)).trans hσ;obtain⟨v,L,gs,hg,hrow⟩:=mM hs (.inr ⟨m,_,hq,rfl⟩);rw[hx,vr,hg] at e1;have e1:=e1 _ _ rfl;obtain⟨k1,k2,_⟩:=lh hrow;rcases hrow.1.at with h|⟨g0,c,T0,cur,U,K,_⟩
  simp only[Blz,List.map_nil,bE] at h;omega;have e3:b0 gs=[.int .u8 (b.toNat:Int)]:=by
   obtain⟨c0,r0,q1,q2,q3,q4⟩:=gQ.1 k2;replace q3:rdCs (SM F S.B m) w [.i .u8 (b.toNat:Int)] c0:=q3;rw[Fp] at q3;obtain⟨v0,q5,q6⟩:=q3;rw[rdC] at q6;rw[bk] at q4;rw[q1,q4,q5,q6.1];rfl
  rw[e3] at K;have hf:∃ A c',v=.slice A 1 c'/\1<=c'/\c'<=maxLen:=by simpa using hrow.1.form
  obtain⟨A,c',q1,q2,q3⟩:=hf;rw[q1] at U;have e5:A=some ⟨g0,0,none⟩:=by injection U
  refine⟨_,Tc (F:=λ_=>True) (v:=v) ho hU he hT e1 ⟨A,c',[.int .u8 (b.toNat:Int)],q1,q2,q3,⟨[.int .u8 (b.toNat:Int)],[],rfl,rfl,rfl⟩,.inr ⟨g0,0,e5,trivial,K⟩⟩,by rw[vr,rdC];exact⟨rfl,Nat.le_of_ble_eq_true rfl⟩⟩
theorem LT.mx {T1 T2:Nat}{x y:Operand}{a b:Int}{m m' : Md}(ho:o.op=.call { callee:=.builtin .max,args:=#[x,y],argTypes:=#[T1,T2] })(hx:aH ρ x=.d m (.i .i64 a))(hy:aH ρ y=.d m' (.i .i64 b)):LT P S o ρ σ [] (.d .fz (.i .i64 (if b > a then b else a))) []:=
 LT.val λσ1 F g w ρc hs Z hw=>by
  have e1:=hw x (by simp[ho,Op.operands,Call.operands]);have e2:=hw y (by simp[ho,Op.operands,Call.operands]);rw[hx,vr,rdC] at e1;rw[hy,vr,rdC] at e2;exact⟨_,Sj ho e1.1 e2.1,by rw[vr,rdC];exact⟨rfl,Kl e1.2 e2.2⟩⟩
theorem LT.mn {T1 T2:Nat}{x y:Operand}{a b:Int}{m m' : Md}(ho:o.op=.call { callee:=.builtin .min,args:=#[x,y],argTypes:=#[T1,T2] })(hx:aH ρ x=.d m (.i .i64 a))(hy:aH ρ y=.d m' (.i .i64 b)):LT P S o ρ σ [] (.d .fz (.i .i64 (if b<a then b else a))) []:=
 LT.val λσ1 F g w ρc hs Z hw=>by
  have e1:=hw x (by simp[ho,Op.operands,Call.operands]);have e2:=hw y (by simp[ho,Op.operands,Call.operands]);rw[hx,vr,rdC] at e1;rw[hy,vr,rdC] at e2;exact⟨_,Rr ho e1.1 e2.1,by rw[vr,rdC];exact⟨rfl,Kl e1.2 e2.2⟩⟩
end
mutual
def iz (i j:Nat):X->X
 | .ref r p=>.ref (bif Aaz r i then j else r) p
 | .vs r p a b=>.vs (bif Aaz r i then j else r) p a b
 | .pe r p a b=>.pe (bif Aaz r i then j else r) p a b
 | .ag cs=>.ag (iy i j cs)
 | .tu cs=>.tu (iy i j cs)
 | .fn f cs=>.fn f (iy i j cs)
 | .pb r c=>.pb r c
 | .d m x=>.d m x
 | .pf m x=>.pf m x
 | .nl k=>.nl k
 | .u=>.u
def iy (i j:Nat):List X->List X
 | []=>[]
 | x::xs=>iz i j x::iy i j xs
end
def DX (i j:Nat):aA->aA
 | .box cs=>.box (iy i j cs)
 | .deep m k es hs=>.deep m k es (hs.map λp=>(p.1,p.2.1,bif Aaz p.2.2 i then j else p.2.2))
 | x=>x
def lB (i j:Nat):Nat->St->St
 | _,[]=>[]
 | n,x::l=>(bif Aaz n i then .dead else DX i j x)::lB i j (n+1) l
theorem tA {i j:Nat}:∀ {l:St} {n r:Nat},ak l r≠.none->ak (lB i j n l) r=if n+r=i then .dead else DX i j (ak l r)
 | [],n,r,h=>absurd (mU r) h
 | x::l,n,0,h=>by
  simp only[lB,ak,Nat.add_zero];cases Y:Aaz n i with
  | true=>simp[Abz Y]
  | false=>have:=Dcz Y;simp[this]
 | x::l,n,r+1,h=>by
  simp only[lB,ak] at h ⊢;rw[tA h,show n+1+r=n+(r+1) by omega]
theorem FP {i j:Nat}:∀ {l:St} {n r:Nat},ak l r=.none->n+r≠i->ak (lB i j n l) r=.none
 | [],n,r,_,_=>mU r
 | x::l,n,0,h,hn=>by
  simp only[ak] at h;simp only[lB,ak,h,DX];have:Aaz n i=false:=by cases Y:Aaz n i with|true=>exact absurd (Abz Y) hn|false=>rfl
  rw[this];rfl
 | x::l,n,r+1,h,hn=>by
  simp only[lB,ak] at h ⊢;exact FP h (by omega)
section
variable {S1:Md->Nat->Prop}{w:World}{g g' : Nat->G}{i j:Nat}
theorem bq {r i:Nat}:(Aaz r i=true/\r=i)∨(Aaz r i=false/\r≠i):=by
 cases h:Aaz r i with
 | true=>exact .inl ⟨rfl,Abz h⟩
 | false=>exact .inr ⟨rfl,Dcz h⟩
theorem wH {r:Nat}{p:Option (Nat×Nat)}{R:Value->Nat->Prop}(hj:g j=.none)(U:g' j=g i)(h3:∀ r,r≠i->r≠j->g' r=g r)(h:nI (g r) p R):nI (g' (bif Aaz r i then j else r)) p R:=by
 rcases bq (r:=r) (i:=i) with ⟨Y,e⟩|⟨Y,e⟩
 rw[Y,cond_true,U,← e];exact h;rw[Y,cond_false];by_cases Z:r=j;rw[Z,hj] at h;exact h.elim;rw[h3 r e Z];exact h
mutual
theorem D6 (hj:g j=.none)(U:g' j=g i)(K:g' i=.dead)(h3:∀ r,r≠i->r≠j->g' r=g r):∀ {x:X} {v:Value},vr S1 w g x v->vr S1 w g' (iz i j x) v
 | .d m x,v,h=>by rw[iz];rw[vr] at h ⊢;exact h
 | .ag cs,v,h=>by rw[iz];rw[vr] at h ⊢;obtain⟨vs,k1,k2⟩:=h;exact⟨vs,k1,sL hj U K h3 k2⟩
 | .tu cs,v,h=>by rw[iz];rw[vr] at h ⊢;obtain⟨vs,k1,k2⟩:=h;exact⟨vs,k1,sL hj U K h3 k2⟩
 | .ref r p,v,h=>by rw[iz];rw[vr] at h ⊢;exact wH hj U h3 h
 | .vs r p a b,v,h=>by rw[iz];rw[vr] at h ⊢;exact wH hj U h3 h
 | .pe r p a b,v,h=>by rw[iz];rw[vr] at h ⊢;exact wH hj U h3 h
 | .pb r c,v,h=>by
  rw[iz];rw[vr] at h ⊢;by_cases Z:r=i;rw[Z,K];trivial;by_cases hr2:r=j;rw[hr2,hj] at h;exact h.elim;rw[h3 r Z hr2];exact h
 | .pf m xs,v,h=>by rw[iz];rw[vr] at h ⊢;exact h
 | .fn f cs,v,h=>by rw[iz];rw[vr] at h ⊢;obtain⟨vs,k1,k2⟩:=h;exact⟨vs,k1,sL hj U K h3 k2⟩
 | .nl k,v,h=>by rw[iz];rw[vr] at h ⊢;exact h
 | .u,v,h=>by rw[iz,vr];trivial
theorem sL (hj:g j=.none)(U:g' j=g i)(K:g' i=.dead)(h3:∀ r,r≠i->r≠j->g' r=g r):∀ {xs:List X} {vs:List Value},aU S1 w g xs vs->aU S1 w g' (iy i j xs) vs
 | [],vs,h=>by rw[iy];rw[aU] at h ⊢;exact h
 | x::xs,vs,h=>by
  rw[iy];rw[aU] at h ⊢;obtain⟨v,r,k1,k2,k3⟩:=h;exact⟨v,r,k1,D6 hj U K h3 k2,sL hj U K h3 k3⟩
end
end
section
variable {P:Program}{S:Start}{n:Nat}{QP:cW}{ρ:AE}{σ:St}
theorem wb {i j k:Nat}{m:Md}{xs:List D}(hi:ak σ i=.row m k xs)(hj:ak σ j=.none):GH S ρ σ (λt=>iz i j (ρ t)) (aO (lB i j 0 σ) j (.row m k xs)):=by
 intro F g w ρc hs hv;have hgj:g j=.none:=by
  have:=hs.roots j;rw[hj] at this;revert this;cases g j<;>intro h<;>first|rfl|exact h.elim
 have hij:i≠j:=λe=>by rw[e,hj] at hi;cases hi
 let g' : Nat->G:=λr=>if r=j then g i else if r=i then .dead else g r
 have U:g' j=g i:=by simp[g']
 have K:g' i=.dead:=by simp[g',hij]
 have h3:∀ r,r≠i->r≠j->g' r=g r:=λr a b=>by simp[g',a,b]
 have hc:∀ r,(r=j/\g' r=g i)∨(r=i/\g' r=.dead)∨(r≠i/\r≠j/\g' r=g r):=λr=>by
  by_cases a:r=j;exact .inl ⟨a,by rw[a];exact U⟩;by_cases b:r=i;exact .inr (.inl ⟨b,by rw[b];exact K⟩);exact .inr (.inr ⟨b,a,h3 r b a⟩)
 refine⟨F,g',⟨hs.chg,hs.bB,hs.fmono,hs.fnew,hs.flt,λr=>?_,hs.low,λr=>?_,λr=>?_,λr r' hne b Y=>?_,λr b Y=>?_⟩,λt=>D6 hgj U K h3 (hv t)⟩;rw[jC];have Z:=hs.roots r;rcases hc r with ⟨a,b⟩|⟨a,b⟩|⟨a,a',b⟩
 rw[ao a,b];have:=hs.roots i;rw[hi] at this;revert this;cases g i<;>intro h<;>first|exact h|exact h.elim
 rw[an (by rw[a];exact hij),b,tA (by rw[a,hi];intro h;cases h),ao (by omega)];trivial;rw[an a',b];by_cases hn:ak σ r=.none;rw[FP hn (by omega)];rw[hn] at Z;revert Z;cases g r<;>intro h<;>first|trivial|exact h.elim
 rw[tA hn,an (by omega)];revert Z;cases hσ:ak σ r<;>intro Z<;>cases hg:g r<;>rw[hg] at Z<;>try exact Z.elim
 trivial;trivial;obtain⟨vs,k1,k2⟩:=Z;exact⟨vs,k1,sL hgj U K h3 k2⟩;exact Z;refine⟨Z.1,λp hp gc hgc=>?_,Z.2.2⟩;obtain⟨q,hq,rfl⟩:=List.mem_map.1 hp;exact wH hgj U h3 (Z.2.1 q hq gc hgc);rcases hc r with ⟨a,b⟩|⟨a,b⟩|⟨a,a',b⟩
 have:=hs.hdr r;rw[a,hgj] at this;rw[b,a];revert this;cases S.g0 j<;>intro h<;>simp[pk] at h ⊢;rw[b,a];cases S.g0 i<;>simp[pk];rw[b];exact hs.hdr r;rcases hc r with ⟨a,b⟩|⟨a,b⟩|⟨a,a',b⟩<;>rw[b];exact hs.nodup i;exact List.nodup_nil;exact hs.nodup r;rcases hc r with ⟨a,e⟩|⟨a,e⟩|⟨a,a',e⟩<;>rw[e] at Y<;>rcases hc r' with ⟨c,e'⟩|⟨c,e'⟩|⟨c,c',e'⟩<;>rw[e'];exact absurd (a.trans c.symm) hne;exact Daz;exact hs.disj i r' (λh=>c h.symm) b Y;cases Y;cases Y;cases Y;exact hs.disj r i a b Y;exact Daz;exact hs.disj r r' hne b Y;rcases hc r with ⟨a,e⟩|⟨a,e⟩|⟨a,a',e⟩<;>rw[e] at Y;exact hs.own i b Y;cases Y;exact hs.own r b Y
theorem AW.mv {c:Code}(i j:Nat){k:Nat}{m:Md}{xs:List D}(hi:ak σ i=.row m k xs)(h:AW P S n c QP (λt=>iz i j (ρ t)) (aO (lB i j 0 σ) j (.row m k xs)))(hj:ak σ j=.none:=by rfl):AW P S n c QP ρ σ:=AW.gh (wb hi hj) h
theorem fR {q:Nat}{cs:List X}(cs' : List X)(hw:kg cs' cs)(hq:ak σ q=.box cs):GH S ρ σ ρ (aO σ q (.box cs')):=by
 intro F g w ρc hs hv;refine⟨F,g,⟨hs.chg,hs.bB,hs.fmono,hs.fnew,hs.flt,λi=>?_,hs.low,hs.hdr,hs.nodup,hs.disj,hs.own⟩,hv⟩;rw[jC];by_cases hi:i=q;subst hi;rw[ao rfl];have:=hs.roots i;rw[hq] at this;revert this;cases g i<;>intro h<;>try exact h.elim
 obtain⟨vs,k1,k2⟩:=h;exact⟨vs,k1,hw.vr k2⟩;rw[an hi];exact hs.roots i
end
section
variable {P:Program}[af P]{S:Start}{n:Nat}{QP:cW}{ρ:AE}{σ:St}
theorem Ri {id T a b s:Nat}{ops:Array Oper}{o1 o2:Oper}{m:Md}{k Z7:Nat}{xs:List D}{t:TI}{e:Nat}(hs:ρ s=.d m (.sl k xs))(h:∀ q:Bool,(q=true->xs=[])->QP .normal (aw (aw ρ a (.d m (.sl k xs))) b (.d .fz (.b q))) σ)
  (hl:ops.toList=[o1,o2]:=by rfl) (U:o1.op=.move (.tmp s):=by rfl) (K:o2.op=.binOp .eql T (.tmp a) (.const (.slice none 0 0)) Z7:=by rfl) (hT:(af.tab P).get T=some t:=by rfl) (he:t.el=some e:=by rfl) (d1:o1.dst=some a:=by rfl) (d2:o2.dst=some b:=by rfl) (g1:o1.guard=none:=by rfl) (g2:o2.guard=none:=by rfl):AW P S n (.region id ops false) QP ρ σ:=by
 intro F g w ρc hsim hv;have hx:=hv s;rw[hs] at hx;have hx0:=hx;rw[vr,rdC] at hx;obtain⟨A,cap,cells,e1,e2,e3,e4,e5⟩:=hx;refine Df ?_;rw[hl];refine WL.ev g1 d1 (If U rfl) (WL.ev g2 d2 (Dd K (u:=.slice A xs.length cap) (v:=.slice none 0 0) ?_ rfl (SV (TI.el' (bS.chk af.ok hT) he))) (WL.nil ⟨_,σ,F,g,hsim,?_,h (decide (A=none)) ?_⟩));show E.upd ρc a (ρc s) a=_;simp only[E.upd,Nat.beq_refl,cond_true];exact e1;have:=(hv.put (some a) hx0).put (some b) (show vr (SM F S.B) w g (.d .fz (.b (decide (A=none)))) (.bool (decide (A=none))) by rw[vr,rdC]);exact this;intro hq;rcases e5 with h|⟨b,o,h,_⟩
 exact h;rw[h] at hq;simp at hq
end
section
variable {P:Program}[af P]{S:Start}{n:Nat}{ops:Array Oper}{Q:AE->St->Prop}{o:Oper}{l rest:List Oper}{ρ:AE}{σ:St}{d:Nat}{md:da}
theorem An (k j:Nat)(L:List (Nat×X))(R:List (Nat×aA))(hk:AL P S ops (λρ' σ'=>GH S ρ' σ' (ofX L) (bj (σ.take j) R)) none (l.take k) ρ σ)(h:AL P S ops Q none (l.drop k) (ofX L) (bj (σ.take j) R)):AL P S ops Q none l ρ σ:=by
 intro i lg hd;have e:l=l.take k++l.drop k:=(Ccz k l).symm;rw[e];refine AT.bind (hk i lg hd) λρ' σ' lg' hd' U=>?_;exact .gh U (h _ _ _)
end
theorem Vp {S1:Md->Nat->Prop}{w:World}{c:D}{v:Value}{m m' : Md}(hc:qO c=true)(h:rdC (S1 m) w c v):rdC (S1 m') w c v:=by
 cases c<;>first|(rw[rdC] at h ⊢;exact h)|cases hc
theorem M4 {S1:Md->Nat->Prop}{w:World}{m m' : Md}:∀ {ds:List D} {ge:List GC},ds.all qO=true->aS (aT S1 w) (ds.map (Cell.d m)) ge->aS (aT S1 w) (ds.map (Cell.d m')) ge
 | [],ge,_,h=>h
 | x::ds,ge,hf,h=>by
  obtain⟨gc,r,e1,e2,e3⟩:=h;simp only[List.all_cons,Afz] at hf;exact⟨gc,r,e1,⟨e2.1,e2.2.1,Vp hf.1 e2.2.2⟩,M4 hf.2 e3⟩
theorem Ml {S1:Md->Nat->Prop}{w:World}{k:Nat}{m m' : Md}:∀ {xs:List D} {gs:List (List GC)},(∀ x∈xs,kH x=true)->aS (fq S1 w k) (xs.map (bT m)) gs->aS (fq S1 w k) (xs.map (bT m')) gs
 | [],gs,_,h=>h
 | x::xs,gs,hf,h=>by
  obtain⟨ge,r,e1,e2,e3⟩:=h;exact⟨ge,r,e1,⟨by have:=e2.1;simpa[bT] using this,M4 (hf x (by simp)) e2.2⟩,Ml (λy hy=>hf y (by simp[hy])) e3⟩
theorem N5 {S1:Md->Nat->Prop}{w:World}{g:Nat->G}{z:G}{k:Nat}{m m' : Md}{xs:List D}(hf:∀ x∈xs,kH x=true)(h:gZ S1 w g (.row m k xs) z):gZ S1 w g (.row m' k xs) z:=by
 revert h;cases z<;>intro h<;>try exact h.elim
 exact⟨h.1,by have:=h.2.1;rw[bh] at this ⊢;exact this,Ml hf h.2.2⟩
theorem bu.alt {S:Start}{F:Nat->Prop}{g:Nat->G}{σ1 σ2:Nat->aA}{w:World}(h:bu S F g σ1 w)(k:∀ i,gZ (SM F S.B) w g (σ1 i) (g i)->gZ (SM F S.B) w g (σ2 i) (g i)):bu S F g σ2 w:=
 ⟨h.chg,h.bB,h.fmono,h.fnew,h.flt,λi=>k i (h.roots i),h.low,h.hdr,h.nodup,h.disj,h.own⟩
section
variable {P:Program}{S:Start}{o:Oper}{ρ:AE}{σ:St}{rd:List Nat}{v:X}
theorem LT.alt {wr wr' : List (Nat×aA)}(h:LT P S o ρ σ rd v wr)(U:wr'.map (·.1)=wr.map (·.1))(K:∀ (σ1:Nat->aA) (S1:Md->Nat->Prop) (w:World) (g:Nat->G) (i:Nat),gZ S1 w g (cq σ1 wr i) (g i)->gZ S1 w g (cq σ1 wr' i) (g i)):LT P S o ρ σ rd v wr':=by
 intro σ1 F g w ρc W a2 a3 a4;have a3' : ∀ p∈wr,σ1 p.1=ak σ p.1:=λp hp=>by
  have:p.1∈wr'.map (·.1):=by rw[U];exact List.mem_map.2 ⟨p,hp,rfl⟩
  obtain⟨q,hq,e⟩:=List.mem_map.1 this;rw[← e];exact a3 q hq
 have:=h σ1 F g w ρc W a2 a3' a4;revert this;generalize (execOp (E.ev ρc) o).run P w=r;intro h;have key:∀ vc w',(∃ F' g',bu S F' g' (cq σ1 wr) w'/\cr S.B F g w F' g' w'/\vr (SM F' S.B) w' g' v vc)->∃ F' g',bu S F' g' (cq σ1 wr') w'/\cr S.B F g w F' g' w'/\vr (SM F' S.B) w' g' v vc:=λvc w' ⟨F',g',k1,k2,k3⟩=>⟨F',g',k1.alt λi=>K σ1 _ _ _ i,k2,k3⟩
 cases r with
 | ok x w'=>
  cases x<;>simp only[lH] at h ⊢
  case value u=>exact key _ _ h
  case skip=>exact key _ _ h
  case enter f args=>exact h.mono λe w'' ⟨v,k1,k2⟩=>⟨v,k1,key _ _ k2⟩
 | halt x w'=>simp only[lH] at h
end
section
variable {P:Program}[af P]{S:Start}{ops:Array Oper}{Q:AE->St->Prop}{o:Oper}{rest:List Oper}{ρ:AE}{σ:St}{d:Nat}{md:da}{T e:Nat}{t te:TI}
theorem GW {α:Type}{s x:Operand}{X1:X}{m' m0:Md}{f:α->D}{xs ys:List α}{zs:List X}{r b1:Nat}(r' : Nat)(hflat:∀ y,kH (f y)=true)(hmax:((xs.length:Int)+(ys.length:Int))*te.by_<=140737488355328/\(xs.length:Int)+(ys.length:Int)<=9223372036854775807)(h:AL P S ops Q (bb md (dr X1) [r,r']) rest (aw ρ d (.ref r' none)) (aO (aO σ r .dead) r' (.row .fz te.sz ((xs++ys).map f))))
  (ho:o.op=.call { callee:=.builtin .append,args:=#[s,x],argTypes:=#[T,T] }:=by rfl) (hT:(af.tab P).get T=some t:=by rfl) (he:t.el=some e:=by rfl) (hE:(af.tab P).get e=some te:=by rfl) (hs:aH ρ s=.ref r none:=by rfl) (hx:aH ρ x=X1:=by rfl) (hsrc:cU (ak σ) X1=some (m',te.sz,ys.map f):=by rfl) (hσ:ak σ r=.row m0 te.sz (xs.map f):=by rfl) (hz:te.z=some zs:=by rfl) (Y:te.by_=b1+1:=by rfl) (hzl:zs.length=te.sz:=by rfl) (hk0:Cyz 0 te.sz=true:=by rfl) (Z:ak σ r'=.none:=by rfl) (hd:o.dst=some d:=by rfl) (hg:a7 ops ρ o=some true:=by rfl):AL P S ops Q md (o::rest) ρ σ:=by
 obtain⟨z,U,K⟩:=TI.z' (bS.chk af.ok hE) hz;refine b8 (wr:=[(r,.dead),(r',.row .fz te.sz ((xs++ys).map f))]) (LT.alt (Dt (r':=r') (m:=.bo) ho (cM hT he hE).1 (cM hT he hE).2 (TI.by' (bS.chk af.ok hE) Y) U (by rw[← hzl,← (K (λ_ _=>True) default (λ_=>.none)).len]) hk0 hs hσ hx hsrc iY iY ?_ ?_ Z) rfl λσ1 S1 w g i hi=>?_) h hd hg;simp only[bh];have:=hmax.1;rw[← Int.natCast_add,← Int.natCast_mul] at this;omega;simp only[bh];show _<=9223372036854775807;have:=hmax.2;omega;revert hi;simp only[cq];split;intro hi;rw[← List.map_append] at hi;exact N5 (λx hx=>by obtain⟨y,_,rfl⟩:=List.mem_map.1 hx;exact hflat y) hi;exact id
theorem iD {α:Type}{s x:Operand}{X1:X}{m' m0:Md}{f:α->D}{xs:List α}{y:α}{zs:List X}{r b1:Nat}(r' : Nat)(hflat:∀ y,kH (f y)=true)(B:Nat)(hmax:((xs.length:Int)+1)*(B:Int)<=140737488355328/\(xs.length:Int)+1<=9223372036854775807)(h:AL P S ops Q (bb md (dr X1) [r,r']) rest (aw ρ d (.ref r' none)) (aO (aO σ r .dead) r' (.row .fz te.sz ((xs++[y]).map f))))
  (ho:o.op=.call { callee:=.builtin .append,args:=#[s,x],argTypes:=#[T,T] }:=by rfl) (hT:(af.tab P).get T=some t:=by rfl) (he:t.el=some e:=by rfl) (hE:(af.tab P).get e=some te:=by rfl) (hs:aH ρ s=.ref r none:=by rfl) (hx:aH ρ x=X1:=by rfl) (hsrc:cU (ak σ) X1=some (m',te.sz,[y].map f):=by rfl) (hσ:ak σ r=.row m0 te.sz (xs.map f):=by rfl) (hz:te.z=some zs:=by rfl) (Y:te.by_=b1+1:=by rfl) (hzl:zs.length=te.sz:=by rfl) (hk0:Cyz 0 te.sz=true:=by rfl) (Z:ak σ r'=.none:=by rfl) (hB:te.by_=B:=by rfl) (hd:o.dst=some d:=by rfl) (hg:a7 ops ρ o=some true:=by rfl):AL P S ops Q md (o::rest) ρ σ:=
 GW r' hflat (by rw[hB];exact hmax) h ho hT he hE hs hx hsrc hσ hz Y hzl hk0 Z hd hg
theorem Bz {α:Type}{s x:Operand}{X1:X}{m' m0:Md}{f:α->D}{xs:List α}{y:α}{zs:List X}{r b1:Nat}(r' : Nat)(m:Md)(B:Nat)(hmax:((xs.length:Int)+1)*(B:Int)<=140737488355328/\(xs.length:Int)+1<=9223372036854775807)(h:AL P S ops Q (bb md (dr X1) [r,r']) rest (aw ρ d (.ref r' none)) (aO (aO σ r .dead) r' (.row m te.sz ((xs++[y]).map f))))
  (ho:o.op=.call { callee:=.builtin .append,args:=#[s,x],argTypes:=#[T,T] }:=by rfl) (hT:(af.tab P).get T=some t:=by rfl) (he:t.el=some e:=by rfl) (hE:(af.tab P).get e=some te:=by rfl) (hs:aH ρ s=.ref r none:=by rfl) (hx:aH ρ x=X1:=by rfl) (hsrc:cU (ak σ) X1=some (m',te.sz,[y].map f):=by rfl) (hσ:ak σ r=.row m0 te.sz (xs.map f):=by rfl) (hz:te.z=some zs:=by rfl) (Y:te.by_=b1+1:=by rfl) (hzl:zs.length=te.sz:=by rfl) (hk0:Cyz 0 te.sz=true:=by rfl) (hm:gl m' m=true:=by first|rfl|exact kU|exact iY) (hm0:gl m0 m=true:=by first|rfl|exact kU|exact iY) (Z:ak σ r'=.none:=by rfl) (hB:te.by_=B:=by rfl) (hd:o.dst=some d:=by rfl) (hg:a7 ops ρ o=some true:=by rfl):AL P S ops Q md (o::rest) ρ σ:=
 AP r' m (by rw[hB];exact hmax) h ho hT he hE hs hx hsrc hσ hz Y hzl hk0 hm hm0 Z hd hg
def toC:X->Option D
 | .d _ (.a _)=>none
 | .d _ x=>some x
 | .nl k=>some (.sl k [])
 | _=>none
def kX:List X->Option (List D)
 | []=>some []
 | x::xs=>match toC x,kX xs with
  | some y,some ys=>some (y::ys)
  | _,_=>none
def zm:X->Option D
 | .ag cs=>(kX cs).map .a
 | x=>toC x
def kW:List X->Option (List D)
 | []=>some []
 | x::xs=>match zm x,kW xs with
  | some y,some ys=>some (y::ys)
  | _,_=>none
def Ar (m:Md):X->Prop
 | .d m' x=>qO x=true∨gl m' m=true
 | _=>True
def qJ (m:Md):List X->Prop
 | []=>True
 | x::xs=>Ar m x/\qJ m xs
def IC (m:Md):X->Prop
 | .ag cs=>qJ m cs
 | x=>Ar m x
def nK (m:Md):List X->Prop
 | []=>True
 | x::xs=>IC m x/\nK m xs
theorem Jc {m:Md}{x:X}{d:D}(h:toC x=some d)(hl:Ar m x):ke m x=some d:=by
 cases x<;>simp only[toC] at h
 case d m' x=>
  cases x<;>simp only[toC] at h<;>simp only[ke]<;>try exact h
  simp only[Ar,qO,Bool.false_eq_true,false_or] at hl;rw[ao hl];exact h
 all_goals first|exact h|cases h
theorem J9 {m:Md}:∀ {xs:List X} {ds:List D},kX xs=some ds->qJ m xs->eK m xs=some ds
 | [],_,h,_=>h
 | x::xs,ds,h,hl=>by
  simp only[kX] at h;split at h;rename_i y ys U K;simp only[eK,Jc U hl.1,J9 K hl.2];exact h;cases h
theorem P5 {m:Md}{x:X}{d:D}(h:zm x=some d)(hl:IC m x):xf m x=some d:=by
 cases x
 case ag cs=>
  simp only[zm] at h;cases hc:kX cs with
  | none=>rw[hc] at h;cases h
  | some ds=>rw[hc] at h;simp only[xf,J9 hc hl];exact h
 all_goals (simp only[zm] at h;exact Jc (m:=m) h hl)
theorem Eu {m:Md}:∀ {xs:List X} {ds:List D},kW xs=some ds->nK m xs->gE m xs=some ds
 | [],_,h,_=>h
 | x::xs,ds,h,hl=>by
  simp only[kW] at h;split at h;rename_i y ys U K;simp only[gE,P5 U hl.1,Eu K hl.2];exact h;cases h
theorem GE {α:Type}{m:Md}{f:α->D}{ds:List D}{mm:Nat}{parts:Array (Nat×Operand)}{zs:List X}(r:Nat)(xs:List α)(hf:xs.map f=ds)(h:AL P S ops Q (bb md [] [r]) rest (aw ρ d (.ref r none)) (aO σ r (.row m te.sz (xs.map f))))(ho:o.op=.buildSlice T mm parts:=by rfl)(hT:(af.tab P).get T=some t:=by rfl)(he:t.el=some e:=by rfl)(hE:(af.tab P).get e=some te:=by rfl)(hz:te.z=some zs:=by rfl)(hzl:zs.length=te.sz:=by rfl)(hp:parts.toList.map (·.1)=Dbz 0 parts.toList.length:=by rfl)(hds:kW (parts.toList.map λp=>aH ρ p.2)=some ds:=by rfl)(hle:nK m (parts.toList.map λp=>aH ρ p.2):=by repeat (first|exact trivial|refine And.intro ?_ ?_|exact .inl rfl|exact .inr rfl|exact .inr kU|exact .inr iY))(hw:ds.all (λd=>Aaz d.cells.length te.sz)=true:=by rfl)(hn:ds.length=mm:=by rfl)(hk0:Cyz 0 te.sz=true:=by rfl)(hm:Cyz 0 mm=true:=by rfl)(hm2:Nat.ble (mm*te.sz) 100000=true:=by rfl)(Z:ak σ r=.none:=by rfl)(hd:o.dst=some d:=by rfl)(hg:a7 ops ρ o=some true:=by rfl):AL P S ops Q md (o::rest) ρ σ:=by
 subst hf;exact ig r h ho hT he hE hz hzl hp (Eu hds hle) hw hn hk0 hm hm2 Z hd hg
end
end Go.A
