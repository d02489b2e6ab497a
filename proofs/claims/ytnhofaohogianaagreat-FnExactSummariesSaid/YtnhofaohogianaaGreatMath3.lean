/- What those partial functions come to: plain lemmas on data; each bears its conditions in its statement. -/
import Derived.Test.YtnhofaohogianaaGreatMath2
set_option linter.unusedVariables false
set_option linter.unusedSimpArgs false
set_option linter.ambiguousOpen false
set_option linter.unusedSectionVars false
set_option linter.unnecessarySimpa false
open Nat renaming zero_add→Adz,add_sub_cancel→Dzz,le_trans→Bdz
open Bool renaming and_false→Eaz,and_true→Ebz,not_true→Ecz
open Int renaming natCast_nonneg→Dmz
open List renaming any_map→Edz,map_append→Dcz
namespace Go.Proofs.YtnhofaohogianaaGreat
open Go Go.E
theorem j9p (x lo hi:Int):q3W x lo hi=some (decide (lo≤x∧x≤hi)):=by
 unfold q3W;by_cases h:lo≤x<;>simp[h]
theorem j3W (x lo hi:Int):q5f x lo hi=some (decide (lo≤x∧x≤hi)):=by
 unfold q5f;by_cases h:lo≤x<;>simp[h]
def lowB (c:UInt8):Bool:=decide (97≤(c.toNat:Int)∧(c.toNat:Int)≤122)
def digB (c:UInt8):Bool:=decide (48≤(c.toNat:Int)∧(c.toNat:Int)≤57)
theorem z9b (c:UInt8):z1Y c=some (lowB c):=by
 unfold z1Y lowB;by_cases h:97≤(c.toNat:Int)<;>simp[h]
theorem j9q (c:UInt8):z3T c=some (digB c):=by
 unfold z3T digB;by_cases h:48≤(c.toNat:Int)<;>simp[h]
def allN (q:Nat→Bool):Nat→Nat→Bool
 | _,0=>true
 | i,n+1=>q i&&allN q (i+1) n
theorem j2M {q r:Nat→Bool}:∀ {n i:Nat},(∀ k,i≤k→q k=r k)→allN q i n=allN r i n
 | 0,_,_=>rfl
 | n+1,i,h=>by rw[allN,allN,h i (Nat.le_refl _),j2M fun k hk=>h k (by omega)]
theorem z9c {ρ:Type}{c:ρ}{q:Nat→Bool}:∀ {n i:Nat} {f:Nat→Unit→Option (Unit ⊕ ρ)},(∀ k,k<n→f (i+k) ()=some (if q (i+k)=true then .inl () else .inr c))→findN f i n ()=some (if allN q i n=true then .inl () else .inr c)
 | 0,i,f,h=>rfl
 | n+1,i,f,h=>by
  have h0:=h 0 (by omega)
  rw[Nat.add_zero] at h0
  rw[findN,h0]
  by_cases hx:q i=true
  ·rw[ifP hx,bsS]
   show findN f (i+1) n ()=_
   rw[z9c fun k hk=>by have:=h (k+1) (by omega);rwa[show i+(k+1)=i+1+k by omega] at this]
   simp[allN,hx]
  ·rw[ifN hx];simp[allN,hx]
def chr (s:BA_)(k:Nat):UInt8:=s.data.getD k 0
theorem j3X {s:BA_}{k:Nat}(h:k<s.size):s.data[k]?=some (chr s k):=by
 have h' : k<s.data.size:=h
 unfold chr
 rw[Array.getD_eq_getD_getElem?,Array.getElem?_eq_getElem h'];rfl
def z8m:List BA_:=[⟨#[105,102]⟩,⟨#[116,104,101,110]⟩,⟨#[101,108,115,101]⟩,⟨#[116,114,117,101]⟩,⟨#[102,97,108,115,101]⟩,⟨#[108,105,116]⟩,⟨#[110,111,110,101]⟩,⟨#[115,101,108,102]⟩,⟨#[111,102]⟩,⟨#[109,97,120]⟩,⟨#[109,105,110]⟩,⟨#[119,105,116,104]⟩,⟨#[104,97,115]⟩]
def memB (s:BA_)(l:List BA_):Bool:=l.any fun x=>decide (x=s)
theorem k2T {s:BA_}{l:List BA_}:memB s l=true↔s∈l:=by
 unfold memB;rw[List.any_eq_true]
 exact⟨fun ⟨x,h1,h2⟩=>by simp at h2;exact h2▸h1,fun h=>⟨s,h,by simp⟩⟩
theorem k2U {s:BA_}{l:List BA_}(h:s∉l):memB s l=false:=by
 cases hb:memB s l with
 | false=>rfl
 | true=>exact absurd (k2T.1 hb) h
def resB (s:BA_):Bool:=memB s z8m
theorem k2V (l:List BA_)(s:BA_):z0U l s=some (memB s l):=by
 unfold z0U
 have:∀ (l:List BA_) (i:Nat),findL (z7F s) i l ()=some (if memB s l=true then .inr true else .inl ()):=by
  intro l
  induction l with
  | nil=>intro i;rfl
  | cons x l ih=>
   intro i
   rw[findL]
   unfold z7F at ih ⊢
   have hc:memB s (x::l)=(decide (x=s)||memB s l):=rfl
   by_cases h:x=s
   ·rw[ifP h,hc];simp[h]
   ·rw[ifN h,bsS]
    show findL _ (i+1) l ()=_
    rw[ih,hc];simp[h]
 rw[this,bsS]
 cases memB s l<;>rfl
theorem k5i (s:BA_):q9F s=some (resB s):=by
 unfold q9F z1J
 rw[bsS,k2V];rfl
theorem k5j (s:BA_):q9V s=some (resB s):=by
 by_cases h:s∈z8m
 ·unfold z8m at h
  simp only[List.mem_cons,List.not_mem_nil,or_false] at h
  rcases h with h|h|h|h|h|h|h|h|h|h|h|h|h<;>subst h<;>rfl
 ·unfold resB
  rw[k2U h]
  unfold z8m at h
  simp only[List.mem_cons,List.not_mem_nil,or_false,not_or] at h
  obtain⟨h1,h2,h3,h4,h5,h6,h7,h8,h9,h10,h11,h12,h13⟩:=h
  unfold q9V
  rw[ifN h1,ifN h2,ifN h3,ifN h4,ifN h5,ifN h6,ifN h7,ifN h8,ifN h9,ifN h10,ifN h11,ifN h12]
  simp[h13]
def q7B (s:BA_):Bool:=decide (0<s.size∧s.size≤8)&&(lowB (chr s 0)&&allN (fun k=>lowB (chr s k)||digB (chr s k)) 1 (s.size-1) && !resB s)
theorem z1S (s:BA_):q4q s=some (q7B s):=by
 unfold q4q
 rw[z9c (c:=false) (q:=fun k=>lowB (chr s k)||digB (chr s k)) fun k hk=>by
  rw[Adz]
  unfold z5u
  rw[j3X hk,bsS,z9b,bsS]
  cases lowB (chr s k) with
  | true=>rfl
  | false=>
   rw[ifN (by simp),j9q,bsS]
   cases digB (chr s k)<;>rfl]
 rw[bsS]
 by_cases h0:0<s.size
 ·obtain⟨n,hn⟩:∃ n,s.size=n+1:=⟨s.size-1,by omega⟩
  unfold q7B
  rw[hn,allN,Dzz]
  cases ha:allN (fun k=>lowB (chr s k)||digB (chr s k)) (0+1) n with
  | false=>
   rw[Eaz,ifN (by simp)]
   rw[Adz] at ha
   simp[onr,ha]
  | true=>
   rw[Adz] at ha
   try rw[ha]
   simp only[Ebz]
   have hc:=j3X h0
   cases hl:lowB (chr s 0) with
   | false=>
    cases hd:digB (chr s 0) with
    | false=>simp[onr]
    | true=>
     rw[ifP (by simp)]
     show (q3W _ 1 8).bind _=_
     rw[j9p,bsS]
     split
     ·rw[hc,bsS,z9b,hl];simp
     ·simp
   | true=>
    rw[ifP (by simp)]
    show (q3W _ 1 8).bind _=_
    rw[j9p,bsS]
    by_cases h8:n+1≤8
    ·rw[ifP (by simp;omega),hc,bsS,z9b,hl]
     simp[k5j,h8]
    ·rw[ifN (by simp;omega)];simp[h8]
 ·have hs:s.size=0:=by omega
  unfold q7B
  rw[hs,allN,ifP rfl,z3q,j9p,bsS]
  simp
theorem z0o (s:BA_):q4B s=some (q7B s):=by
 unfold q4B z6g
 rw[z9c (c:=false) (q:=fun k=>lowB (chr s k)||(decide (k≠0)&&digB (chr s k))) fun k hk=>by
  rw[Adz]
  unfold j0F
  rw[j3X hk,bsS]
  have e1:(if 97≤((chr s k).toNat:Int) then some (decide (((chr s k).toNat:Int)≤122)) else some false)=some (lowB (chr s k)):=by
   unfold lowB;by_cases h:97≤((chr s k).toNat:Int)<;>simp[h]
  have e2:(if 48≤((chr s k).toNat:Int) then some (decide (((chr s k).toNat:Int)≤57)) else some false)=some (digB (chr s k)):=by
   unfold digB;by_cases h:48≤((chr s k).toNat:Int)<;>simp[h]
  rw[e1,e2,bsS,bsS]
  cases lowB (chr s k) with
  | true=>rfl
  | false=>
   by_cases hk0:k=0
   ·subst hk0;simp
   ·have:¬ ((k:Int)=0):=by omega
    rw[ifN (by simp),ifN this]
    cases digB (chr s k)<;>simp[hk0]]
 rw[bsS]
 by_cases h0:0<s.size
 ·obtain⟨n,hn⟩:∃ n,s.size=n+1:=⟨s.size-1,by omega⟩
  unfold q7B
  rw[hn,allN,Dzz,Adz,j2M (n:=n) (i:=1) (q:=fun k=>lowB (chr s k)||(decide (k≠0)&&digB (chr s k))) (r:=fun k=>lowB (chr s k)||digB (chr s k)) fun k hk=>by simp[show k≠0 by omega]]
  have e0:(lowB (chr s 0)||(decide ((0:Nat)≠0)&&digB (chr s 0)))=lowB (chr s 0):=by simp
  rw[e0]
  cases hA:(lowB (chr s 0)&&allN (fun k=>lowB (chr s k)||digB (chr s k)) 1 n) with
  | false=>simp[onr]
  | true=>
   rw[ifP rfl]
   simp only[onr,bsS]
   by_cases h8:n+1≤8
   ·simp[k5i,h8];omega
   ·simp[h8];omega
 ·have hs:s.size=0:=by omega
  unfold q7B
  rw[hs]
  simp[onr,allN]
def satI (v:Int):Int:=if (-1000000:Int) > (if (1000000:Int)<v then (1000000:Int) else v) then (-1000000:Int) else (if (1000000:Int)<v then (1000000:Int) else v)
def truI (b:Bool):Int:=if b=true then 1 else 0
def k0T (v k:Int):Int:=if k=1 then satI v else if k=2 then j8w v 4095 else if k=3 then truI (!decide (v=0)) else if k=4 then (if 0≤v∧v≤999 then v else 0) else 0
theorem k5k (v:Int):z4y v=some (satI v):=rfl
theorem k5l (a b:Int):z7G a b=some (if b<a then b else a):=by
 unfold z7G
 by_cases h:a<b
 ·rw[ifP h,ifN (by omega)]
 ·rw[ifN h]
  split
  ·rfl
  ·congr 1;omega
theorem k5m (v:Int):z2l v=some (satI v):=by
 unfold z2l
 rw[k5l,bsS,j6T,bsS]
 congr 1
 unfold satI
 split<;>split<;>(try split)<;>(try split)<;>omega
theorem k5n (b:Bool):j0L b=some (truI b):=by unfold j0L truI;cases b<;>rfl
theorem k2W (b:Bool):z3O b=some (truI b):=by unfold z3O truI;cases b<;>rfl
theorem k2X (v k:Int):z5x v k=some (k0T v k):=by
 unfold z5x k0T
 rw[k5k,k5n,j9p]
 by_cases h1:k=1
 ·rw[ifP h1,ifP h1];rfl
 by_cases h2:k=2
 ·rw[ifN h1,ifN h1,ifP h2,ifP h2]
 by_cases h3:k=3
 ·rw[ifN h1,ifN h1,ifN h2,ifN h2,ifP h3,ifP h3];rfl
 by_cases h4:k=4
 ·rw[ifN h1,ifN h1,ifN h2,ifN h2,ifN h3,ifN h3,ifP h4,ifP h4,bsS]
  by_cases h:0≤v∧v≤999<;>simp[h]
 ·rw[ifN h1,ifN h1,ifN h2,ifN h2,ifN h3,ifN h3,ifN h4,ifN h4]
theorem k2Y (v k:Int):z5m v k=some (k0T v k):=by
 unfold z5m k0T
 rw[k5m,k2W,j3W]
 by_cases h1:k=1
 ·rw[ifP h1,ifP h1];rfl
 by_cases h2:k=2
 ·rw[ifN h1,ifN h1,ifP h2,ifP h2]
 by_cases h3:k=3
 ·rw[ifN h1,ifN h1,ifN h2,ifN h2,ifP h3,ifP h3];rfl
 by_cases h4:k=4
 ·rw[ifN h1,ifN h1,ifN h2,ifN h2,ifN h3,ifN h3,ifP h4,ifP h4,bsS]
  by_cases h:0≤v∧v≤999<;>simp[h]
 ·rw[ifN h1,ifN h1,ifN h2,ifN h2,ifN h3,ifN h3,ifN h4,ifN h4]
def j3Y (v k:Int):Bool:=decide (1≤k∧k≤4)&&decide (k0T v k=v)
theorem k2Z (v k:Int):z2u v k=some (j3Y v k):=by
 unfold z2u z3U j3Y
 rw[j9p,bsS,bsS,k2X,bsS]
 by_cases h:1≤k∧k≤4<;>simp[h]
theorem k3a (v k:Int):z2m v k=some (j3Y v k):=by
 unfold z2m j3Y
 rw[j3W,bsS,k2Y,bsS]
 by_cases h:1≤k∧k≤4<;>simp[h]
def opT (n:Int):Int×Int×Int:=
 if 1≤n∧n≤5 then (1,1,1) else if 6≤n∧n≤8 then (2,2,2) else if n=9∨n=10 then (1,1,3) else if n=11 then (2,1,3) else if n=12 then (2,1,2) else (0,0,0)
theorem k6C {n a b c d e:Int}:(if n=a then some (decide (n=a)) else if n=b then some (decide (n=b)) else if n=c then some (decide (n=c)) else if n=d then some (decide (n=d)) else some (decide (n=e)))=some (decide (n=a∨n=b∨n=c∨n=d∨n=e)):=by
 by_cases h1:n=a
 ·simp[h1]
 by_cases h2:n=b
 ·simp[h1,h2]
 by_cases h3:n=c
 ·rw[ifN h1,ifN h2,ifP h3];simp[h3]
 by_cases h4:n=d
 ·rw[ifN h1,ifN h2,ifN h3,ifP h4];simp[h4]
 ·simp[h1,h2,h3,h4]
theorem k6D {n a b c:Int}:(if n=a then some (decide (n=a)) else if n=b then some (decide (n=b)) else some (decide (n=c)))=some (decide (n=a∨n=b∨n=c)):=by
 by_cases h1:n=a
 ·simp[h1]
 by_cases h2:n=b
 ·simp[h1,h2]
 ·simp[h1,h2]
theorem k5o (n:Int):q8l n=some (opT n):=by
 unfold q8l opT
 rw[k6C,k6D]
 simp only[bsS]
 by_cases h1:1≤n∧n≤5
 ·rw[ifP (by simp;omega),ifP h1]
 rw[ifN (by simp;omega),ifN h1]
 by_cases h2:6≤n∧n≤8
 ·rw[ifP (by simp;omega),ifP h2]
 rw[ifN (by simp;omega),ifN h2]
 by_cases h3:n=9
 ·simp[h3]
 by_cases h3' : n=10
 ·simp[h3']
 by_cases h4:n=11
 ·simp[h4]
 by_cases h5:n=12
 ·simp[h5]
 simp[h3,h3',h4,h5]
theorem k5p (n:Int):q8i n=some (opT n):=by
 unfold q8i opT
 rw[j3W,j3W]
 simp only[bsS]
 by_cases h1:1≤n∧n≤5
 ·rw[ifP (by simpa using h1),ifP h1]
 rw[ifN (by simpa using h1),ifN h1]
 by_cases h2:6≤n∧n≤8
 ·rw[ifP (by simpa using h2),ifP h2]
 rw[ifN (by simpa using h2),ifN h2]
 by_cases h3:n=9
 ·rw[ifP h3,ifP (.inl h3)]
 rw[ifN h3]
 by_cases h3' : n=10
 ·rw[ifP h3',ifP (.inr h3')]
 have h33:¬(n=9∨n=10):=by omega
 rw[ifN h3',ifN h33]
 by_cases h4:n=11
 ·rw[ifP h4,ifP h4]
 rw[ifN h4,ifN h4]
 by_cases h5:n=12
 ·rw[ifP h5,ifP h5]
 rw[ifN h5,ifN h5]
theorem k5q (a b:Expr):q6c a b=some (decide (a.Kind=b.Kind)&&(decide (a.N=b.N)&&(decide (a.Pos=b.Pos)&&(decide (a.t__=b.t__)&&(decide (a.Symbol=b.Symbol)&&decide (a.Name=b.Name)))))):=by
 unfold q6c
 by_cases h1:a.Kind=b.Kind
 ·rw[ifP h1,bsS]
  by_cases h2:a.N=b.N
  ·by_cases h3:a.Pos=b.Pos
   ·by_cases h4:a.t__=b.t__
    ·by_cases h5:a.Symbol=b.Symbol
     ·simp[h1,h2,h3,h4,h5]
     ·simp[h1,h2,h3,h4,h5]
    ·simp[h1,h2,h3,h4]
   ·simp[h1,h2,h3]
  ·simp[h1,h2]
 ·simp[h1]
def k0U (k:Int):Int:=if k=4 then 2 else if k=5 then 3 else if k=8 then 1 else 0
def k0V (e:Expr):Bool:=decide ((e.Args.length:Int)=k0U e.Kind)&&((decide (e.Kind=3∨e.Kind=6)||decide (e.Pos=0))&&((decide (e.Kind=3∨e.Kind=8)||decide (e.Name=⟨#[]⟩))&&((decide (e.Kind=1∨e.Kind=4)||decide (e.N=0))&&((decide (e.Kind=1)||decide (e.t__=0))&&(decide (e.Kind=8)||decide (e.Symbol=⟨#[]⟩))))))
theorem k5r (e:Expr):z5l e=some (k0V e):=by
 unfold z5l
 have h0:(if e.Kind=4 then some 2 else if e.Kind=5 then some 3 else if e.Kind=8 then some 1 else some (0:Int))=some (k0U e.Kind):=by
  unfold k0U
  split
  ·rfl
  ·split
   ·rfl
   ·split<;>rfl
 have or2:∀ a b:Prop,[Decidable a]→[Decidable b]→(if a then some true else some (decide b))=some (decide (a∨b)):=fun a b _ _=>by
  by_cases h:a<;>simp[h]
 have or1:∀ (a:Prop) (b:Bool),[Decidable a]→(if a then some true else some b)=some (decide a||b):=fun a b _=>by
  by_cases h:a<;>simp[h]
 have orB:∀ a b:Bool,(if a=true then some true else some b)=some (a||b):=fun a b=>by cases a<;>rfl
 have andB:∀ a b:Bool,(if a=true then some b else some false)=some (a&&b):=fun a b=>by cases a<;>rfl
 rw[h0,bsS]
 unfold k0V
 by_cases hl:(e.Args.length:Int)=k0U e.Kind
 ·rw[ifP hl]
  simp only[or2,or1,orB,andB,bsS]
  simp[hl,Bool.and_assoc]
 ·rw[ifN hl];simp[hl]
def k5s (e:Expr):Bool:=
 if e.Kind=1 then (decide (1≤e.t__∧e.t__≤3)&&j3Y e.N e.t__)&&decide (0≤e.N)
 else if e.Kind=3 then decide (0≤e.Pos∧e.Pos≤3)&&q7B e.Name
 else if e.Kind=6 then decide (0≤e.Pos∧e.Pos≤3)
 else if e.Kind=4 then decide (1≤e.N∧e.N≤12)
 else if e.Kind=8 then q7B e.Symbol&&q7B e.Name
 else true
def z5U (e:Expr):Bool:=(decide (1≤e.Kind∧e.Kind≤8)&&k0V e)&&k5s e
theorem k3b (e:Expr):z5n e=some (z5U e):=by
 unfold z5n z5U
 rw[j3W,bsS,k5r,bsS]
 by_cases hk:1≤e.Kind∧e.Kind≤8
 ·rw[ifP (by simpa using hk),bsS]
  cases k0V e with
  | false=>simp
  | true=>
   rw[ifN (by simp)]
   unfold k5s
   by_cases k1:e.Kind=1
   ·rw[ifP k1,ifP k1,j3W,bsS,k3a,bsS]
    by_cases h:1≤e.t__∧e.t__≤3
    ·cases j3Y e.N e.t__<;>simp[h,hk]
    ·simp[h,hk]
   rw[ifN k1,ifN k1]
   by_cases k3:e.Kind=3
   ·rw[ifP k3,ifP k3,j3W,bsS,z0o]
    by_cases h:0≤e.Pos∧e.Pos≤3
    ·simp[h,hk]
    ·simp[h,hk]
   rw[ifN k3,ifN k3]
   by_cases k6:e.Kind=6
   ·rw[ifP k6,ifP k6,j3W];simp[hk]
   rw[ifN k6,ifN k6]
   by_cases k4:e.Kind=4
   ·rw[ifP k4,ifP k4,j3W];simp[hk]
   rw[ifN k4,ifN k4]
   by_cases k8:e.Kind=8
   ·rw[ifP k8,ifP k8,z0o,bsS,z0o]
    cases q7B e.Symbol<;>simp[hk]
   rw[ifN k8,ifN k8];simp[hk]
 ·rw[ifN (by simpa using hk)];simp[hk]
theorem k3c (e:Expr):q9X e=some (z5U e):=by
 unfold q9X z5U k0V k5s k0U
 simp only[k5q,j9p,k2Z,z1S,bsS]
 have hp3:e.Pos=0→(0≤e.Pos∧e.Pos≤3):=fun h=>by omega
 by_cases k1:e.Kind=1
 ·simp[k1]
  have ht:j3Y e.N e.t__=true→1≤e.t__∧e.t__≤4:=fun h=>by
   unfold j3Y at h;simp at h;exact h.1
  cases hb:j3Y e.N e.t__ with
  | false=>by_cases h4:e.t__=4<;>simp[h4]
  | true=>
   obtain⟨t1,t2⟩:=ht hb
   by_cases h4:e.t__=4
   ·simp[h4]
   ·by_cases hn:e.N<0
    ·have:¬ 0≤e.N:=by omega
     simp[h4,hn,this]
    ·have h0:0≤e.N:=by omega
     have h3:e.t__≤3:=by omega
     by_cases a:e.Args=[]
     ·by_cases p:e.Pos=0
      ·simp[h4,hn,h0,h3,t1,a,p,Bool.and_comm]
      ·simp[h4,hn,h0,h3,t1,a,p]
     ·simp[h4,hn,h0,h3,t1,a]
 by_cases k3:e.Kind=3
 ·simp[k1,k3]
  cases q7B e.Name with
  | false=>simp
  | true=>
   by_cases a:e.Args=[]
   ·by_cases p:0≤e.Pos∧e.Pos≤3
    ·simp[a,p]
    ·have:(decide (0≤e.Pos)&&decide (e.Pos≤3))=false:=by simp;omega
     simp[a,this]
   ·simp[a]
 by_cases k4:e.Kind=4
 ·simp[k1,k3,k4]
  by_cases n:1≤e.N∧e.N≤12
  ·by_cases a:(e.Args.length:Int)=2
   ·by_cases p:e.Pos=0
    ·simp[n,a,p];cases decide (e.t__=0)<;>cases decide (e.Symbol=⟨#[]⟩)<;>cases decide (e.Name=⟨#[]⟩)<;>rfl
    ·simp[n,a,p]
   ·simp[n,a]
  ·have:(decide (1≤e.N)&&decide (e.N≤12))=false:=by simp;omega
   rw[ifN n,this];simp
 have close3:∀ c:Bool,((if c=true then some (decide (0≤e.Pos)&&decide (e.Pos≤3)) else some false).bind fun s9=>
   if s9=true then some (decide (e.N=0)&&(decide (e.Pos=0)&&(decide (e.t__=0)&&(decide (e.Symbol=⟨#[]⟩)&&decide (e.Name=⟨#[]⟩))))) else some false) =
  some (c&&(decide (e.Pos=0)&&(decide (e.Name=⟨#[]⟩)&&(decide (e.N=0)&&(decide (e.t__=0)&&decide (e.Symbol=⟨#[]⟩)))))):=fun c=>by
  cases c with
  | false=>simp
  | true=>
   by_cases p:e.Pos=0
   ·simp[p];cases decide (e.N=0)<;>cases decide (e.t__=0)<;>cases decide (e.Symbol=⟨#[]⟩)<;>cases decide (e.Name=⟨#[]⟩)<;>rfl
   ·simp[p]
 by_cases k5:e.Kind=5
 ·simp[k1,k3,k4,k5]
  simpa using close3 (decide ((e.Args.length:Int)=3))
 by_cases k6:e.Kind=6
 ·simp[k1,k3,k4,k5,k6]
  by_cases a:e.Args=[]
  ·by_cases p:0≤e.Pos∧e.Pos≤3
   ·simp[a,p];cases decide (e.N=0)<;>cases decide (e.t__=0)<;>cases decide (e.Symbol=⟨#[]⟩)<;>cases decide (e.Name=⟨#[]⟩)<;>rfl
   ·have:(decide (0≤e.Pos)&&decide (e.Pos≤3))=false:=by simp;omega
    simp[a,this]
  ·simp[a]
 by_cases k8:e.Kind=8
 ·simp[k1,k3,k4,k5,k6,k8]
  cases q7B e.Symbol with
  | false=>simp
  | true=>
   cases q7B e.Name with
   | false=>simp
   | true=>
    by_cases a:(e.Args.length:Int)=1
    ·by_cases p:e.Pos=0
     ·simp[a,p]
     ·simp[a,p]
    ·simp[a]
 by_cases k2:e.Kind=2
 ·simp[k1,k3,k4,k5,k6,k8,k2]
  simpa using close3 (decide (e.Args=[]))
 by_cases k7:e.Kind=7
 ·simp[k1,k3,k4,k5,k6,k8,k2,k7]
  simpa using close3 (decide (e.Args=[]))
 ·simp[k1,k3,k4,k5,k6,k8,k2,k7]
  intro h1 h2;omega
theorem k3d (e:Expr):∀ m,fuE e≤m→z7I m e=some (allE z5U e):=by
 induction e using z1R with
 | h e ih=>
  intro m hm
  obtain⟨m,rfl⟩:∃ q,m=q+1:=⟨m-1,by have:=z6z e;omega⟩
  show z7H (z7I m) e=_
  unfold z7H
  rw[q4T (c:=false) (q:=allE z5U) fun k x hx=>by
   unfold j4T
   rw[ih x hx m (by have:=z6A hx;omega),bsS]
   cases allE z5U x<;>rfl]
  rw[j3V,bsS]
  cases e.Args.all (allE z5U) with
  | true=>rw[ifP rfl,z3q,k3b,Ebz];rfl
  | false=>rw[ifN (by simp),z6F,Eaz]
theorem k5t (e:Expr):j3p e=some (allE z5U e):=q8H (fuE e) fun m hm=>k3d e m hm
theorem j1D {α:Type}(q:α→Bool)(l:List α):(!l.any fun x=>!q x)=l.all q:=by
 induction l with
 | nil=>rfl
 | cons x l ih=>simp[← ih]
theorem k3e (e:Expr):∀ m,fuE e≤m→q5v m e=some (allE z5U e):=by
 induction e using z1R with
 | h e ih=>
  intro m hm
  obtain⟨m,rfl⟩:∃ q,m=q+1:=⟨m-1,by have:=z6z e;omega⟩
  show q5u (q5v m) e=_
  unfold q5u q3M q3S
  rw[k3c,bsS,j3V]
  cases z5U e with
  | false=>rfl
  | true=>
   rw[ifP rfl,j1B (q:=fun x=>!allE z5U x) fun k x hx=>by
    unfold q5d q5L
    rw[ih x hx m (by have:=z6A hx;omega),bsS,bsS]
    cases allE z5U x<;>rfl]
   rw[Bool.true_and,← j1D]
   cases e.Args.any fun x=>!allE z5U x with
   | true=>
    have:(0:Int)≤((0+e.Args.findIdx fun x=>!allE z5U x:Nat):Int):=Dmz _
    rw[ifP rfl,bsS,z6F,bsS,bsS,decide_eq_true this]
   | false=>rfl
theorem k5u (e:Expr):q7a e=some (allE z5U e):=q8H (fuE e) fun m hm=>k3e e m hm
def j1E (e:Expr):Bool:=decide (cntE e≤24)&&(decide (depE e≤6)&&allE z5U e)
theorem k0W {e:Expr}(h:cntE e≤1099511627776):q8V e=some (j1E e):=by
 unfold q8V j1E
 rw[k0P h,bsS,k0Q h,k5u]
 by_cases h1:cntE e≤24
 ·rw[ifP (by omega),bsS,bsS]
  by_cases h2:depE e≤6
  ·rw[ifP (by simp;omega),bsS];simp[h1,h2]
  ·rw[ifN (by simp;omega)];simp[h1,h2]
 ·rw[ifN (by omega)];simp[h1]
theorem k0X {e:Expr}(h:cntE e≤1099511627776):q8P e=some (j1E e):=by
 unfold q8P j1E
 rw[k2S (by omega) (by omega) h,bsS,k0R h,k5t]
 unfold z9W
 by_cases h1:cntE e≤24
 ·have h24:((cntE e:Nat):Int)≤24:=by omega
  rw[ifP h24,ifP (by omega:(0:Int)≤24-((cntE e:Nat):Int)),bsS,bsS]
  by_cases h2:depE e≤6
  ·rw[ifP (by simp;omega),bsS];simp[h1,h2]
  ·rw[ifN (by simp;omega)];simp[h1,h2]
 ·have h24:¬ ((cntE e:Nat):Int)≤24:=by omega
  rw[ifN h24,ifN (by omega:¬ (0:Int)≤-1)];simp[h1]
theorem q5X {α:Type}{q:α→Bool}{xs:List α}{f:Nat→α→Unit→Option (Unit ⊕ Int)}(h:∀ k x,x∈xs→f k x ()=some (if q x=true then .inr (k:Int) else .inl ())) :
  ((findL f 0 xs ()).bind <| onr (fun r1=>some r1) fun _=>some (-1)).bind (fun y1=>some (decide (0≤y1)))=some (xs.any q):=by
 rw[j1B h]
 cases hq:xs.any q with
 | true=>
  have:(0:Int)≤((0+xs.findIdx q:Nat):Int):=Dmz _
  rw[ifP rfl,bsS,z6F,bsS,decide_eq_true this]
 | false=>rfl
def q4A {α:Type}(bad:List α→α→Bool):List α→List α→Option Nat
 | _,[]=>none
 | pre,x::xs=>if bad pre x=true then some pre.length else q4A bad (pre++[x]) xs
theorem z4m {α β ρ:Type}{bad:List α→α→Bool}{nm:α→β}{c:Nat→ρ}{all:List α}{f:Nat→α→Unit→Option (Unit ⊕ ρ)}{h:Nat→α→List β→Option (List β ⊕ ρ)}
  (hf:∀ pre x post,all=pre++x::post→f pre.length x ()=some (if bad pre x=true then .inr (c pre.length) else .inl ()))
  (hh:∀ pre x post,all=pre++x::post→h pre.length x (pre.map nm)=some (if bad pre x=true then .inr (c pre.length) else .inl ((pre++[x]).map nm))) :
  ∀ (ys pre:List α),all=pre++ys→findL f pre.length ys ()=some (match q4A bad pre ys with|none=>.inl ()|some k=>.inr (c k)) ∧
   findL h pre.length ys (pre.map nm)=some (match q4A bad pre ys with|none=>.inl (all.map nm)|some k=>.inr (c k))
 | [],pre,e=>by
  rw[List.append_nil] at e
  subst e;exact⟨rfl,rfl⟩
 | x::ys,pre,e=>by
  have h1:=hf pre x ys e
  have h2:=hh pre x ys e
  by_cases hb:bad pre x=true
  ·rw[ifP hb] at h1 h2
   simp only[findL,h1,h2,q4A,hb,if_true,bsS]
   exact⟨trivial,trivial⟩
  ·rw[ifN hb] at h1 h2
   have ih:=z4m hf hh ys (pre++[x]) (by rw[e];simp)
   simp only[List.length_append,lnC,List.length_nil,Adz] at ih
   simp only[findL,h1,h2,q4A,hb,bsS]
   exact ih
theorem j7Z {α:Type}{a:α→Bool}{b:List α→α→Bool}:∀ (xs pre:List α),(q4A (fun p x=>a x||b p x) pre xs).isNone=(xs.all (fun x=>!a x)&&(q4A b pre xs).isNone)
 | [],pre=>rfl
 | x::xs,pre=>by
  have ih:=j7Z (a:=a) (b:=b) xs (pre++[x])
  simp only[q4A,List.all_cons]
  by_cases ha:a x=true
  ·simp[ha]
  ·by_cases hb:b pre x=true
   ·simp[ha,hb]
   ·simpa[ha,hb] using ih
def dupB {α:Type}(nm:α→BA_)(pre:List α)(x:α):Bool:=pre.any fun o=>decide (nm o=nm x)
def k0Y {α:Type}(nm:α→BA_)(xs:List α):Bool:=(q4A (dupB nm) [] xs).isNone
theorem j5v {α:Type}{nm:α→BA_}:∀ (xs pre:List α),(q4A (dupB id) (pre.map nm) (xs.map nm))=q4A (dupB nm) pre xs
 | [],pre=>rfl
 | x::xs,pre=>by
  have ih:=j5v (nm:=nm) xs (pre++[x])
  have e:dupB id (pre.map nm) (nm x)=dupB nm pre x:=by simp[dupB,Edz,Function.comp_def]
  rw[List.map_cons,q4A,q4A,e,lnM]
  rw[Dcz] at ih
  rw[show [nm x]=[x].map nm from rfl,ih]
theorem z5V {α ρ:Type}{bad:List α→α→Bool}{c:Nat→ρ}{all:List α}{f:Nat→α→Unit→Option (Unit ⊕ ρ)}
  (hf:∀ pre x post,all=pre++x::post→f pre.length x ()=some (if bad pre x=true then .inr (c pre.length) else .inl ())) :
  ∀ (ys pre:List α),all=pre++ys→findL f pre.length ys ()=some (match q4A bad pre ys with|none=>.inl ()|some k=>.inr (c k)):=fun ys pre e=>
 (z4m (nm:=fun _=>()) (h:=fun k x s=>(f k x ()).map fun|.inl _=>.inl (s++[()])|.inr r=>.inr r) hf (fun pre x post e=>by
  rw[hf pre x post e]
  by_cases hb:bad pre x=true
  ·rw[ifP hb,ifP hb];rfl
  ·rw[ifN hb,ifN hb];simp) ys pre e).1
theorem k0Z (l:List BA_)(s:BA_):z0U l s=some (l.any fun o=>decide (o=s)):=by
 unfold z0U
 rw[q4T (c:=true) (q:=fun o=>!decide (o=s)) fun k x hx=>by
  unfold z7F
  by_cases h:x=s
  ·rw[ifP h,ifN (by simp[h])]
  ·rw[ifN h,ifP (by simp[h])]]
 have e:(l.all fun o=>!decide (o=s))=!(l.any fun o=>decide (o=s)):=by rw[List.not_any_eq_all_not]
 rw[e]
 cases l.any fun o=>decide (o=s)<;>rfl
theorem j9r (l:List BA_):q8N l=some (k0Y id l):=by
 unfold q8N k0Y
 rw[show findL (q9G l) 0 l ()=_ from z5V (bad:=dupB id) (c:=fun _=>false) (all:=l) (f:=q9G l) (fun pre x post e=>by
  unfold q9G
  rw[q3G (by rw[e];simp),show l.take pre.length=pre by rw[e];simp,k0Z,bsS,← apply_ite some];rfl) l [] rfl]
 cases q4A (dupB id) [] l<;>rfl
def z2P (a:At_):Bool:=q7B a.Name&&(decide (1≤a.t__∧a.t__≤4)&&(decide (1≤a.Mode∧a.Mode≤3)&&if a.Mode=3 then decide (a.t__=2) && !a.Circular else !a.Circular||decide (a.t__=2)))
theorem k1a (a:At_):q6x a=some (z2P a):=by
 unfold q6x z2P z3U
 rw[z1S,bsS]
 cases q7B a.Name with
 | false=>rfl
 | true=>
  rw[ifP rfl,z9t,bsS,bsS,bsS]
  by_cases h1:1≤a.t__∧a.t__≤4
  ·rw[decide_eq_true h1,Ecz,ifN (by simp),z9t,bsS,bsS]
   by_cases h2:1≤a.Mode∧a.Mode≤3
   ·rw[decide_eq_true h2,Ecz,ifN (by simp)]
    by_cases h3:a.Mode=3
    ·rw[ifP h3,ifP h3]
     by_cases h4:a.t__=2
     ·rw[ifP h4,decide_eq_true h4];simp
     ·rw[ifN h4,decide_eq_false h4];rfl
    ·rw[ifN h3,ifN h3]
     cases hc:a.Circular with
     | true=>rw[ifP rfl];simp
     | false=>rw[ifN (by simp)];simp
   ·rw[decide_eq_false h2];rfl
  ·rw[decide_eq_false h1];rfl
theorem k1b (a:At_):q6u a=some (z2P a):=by
 unfold q6u z2P
 rw[z0o,bsS]
 cases q7B a.Name with
 | false=>rfl
 | true=>
  rw[ifP rfl,z5O,bsS,bsS]
  by_cases h1:1≤a.t__∧a.t__≤4
  ·rw[decide_eq_true h1,Ecz,ifN (by simp),z5O,bsS,bsS]
   by_cases h2:1≤a.Mode∧a.Mode≤3
   ·rw[decide_eq_true h2,Ecz,ifN (by simp)]
    by_cases h3:a.Mode=3
    ·rw[ifP h3,ifP h3]
     by_cases h4:a.t__=2
     ·rw[ifP h4,decide_eq_true h4]
      cases hc:a.Circular with
      | true=>rfl
      | false=>rfl
     ·rw[ifN h4,decide_eq_false h4];rfl
    ·rw[ifN h3,ifN h3]
     cases hc:a.Circular with
     | true=>simp
     | false=>simp
   ·rw[decide_eq_false h2];rfl
  ·rw[decide_eq_false h1];rfl
def symB (s:Symbol):Bool:=s.as_.all z2P&&(q7B s.Name&&(decide (s.as_.length≤4)&&k0Y (fun a:At_=>a.Name) s.as_))
theorem k3f (s:Symbol):q7G s=some (symB s):=by
 unfold q7G symB
 rw[show findL (q8u s) 0 s.as_ ()=_ from z5V (bad:=fun p x=>!z2P x||dupB (fun a:At_=>a.Name) p x) (c:=fun _=>false) (all:=s.as_) (f:=q8u s) (fun pre x post e=>by
  unfold q8u
  rw[k1a,bsS]
  cases z2P x with
  | false=>rfl
  | true=>
   rw[ifP rfl,q3G (by rw[e];simp),show s.as_.take pre.length=pre by rw[e];simp]
   unfold q3R q4b
   rw[q5X (q:=fun o:At_=>decide (o.Name=x.Name)) fun k y hy=>by
    unfold q5q q7W
    rw[bsS]
    by_cases h:y.Name=x.Name
    ·rw[decide_eq_true h];rfl
    ·rw[decide_eq_false h];rfl]
   rw[bsS,← apply_ite some];rfl) s.as_ [] rfl]
 have hor:=j7Z (a:=fun x:At_=>!z2P x) (b:=dupB (fun a:At_=>a.Name)) s.as_ []
 simp only[Bool.not_not] at hor
 have e2:(s.as_.all fun x=>z2P x)=s.as_.all z2P:=rfl
 unfold k0Y
 rw[e2] at hor
 cases hb:q4A (fun p x=>!z2P x||dupB (fun a:At_=>a.Name) p x) [] s.as_ with
 | some k=>
  rw[hb] at hor
  show some false=_
  have:(s.as_.all z2P&&(q4A (dupB fun a:At_=>a.Name) [] s.as_).isNone)=false:=hor.symm
  congr 1
  cases h1:s.as_.all z2P with
  | false=>rfl
  | true=>rw[h1] at this;simp at this;simp[this]
 | none=>
  rw[hb] at hor
  have:(s.as_.all z2P&&(q4A (dupB fun a:At_=>a.Name) [] s.as_).isNone)=true:=hor.symm
  rw[Bool.and_eq_true] at this
  show ((q4q s.Name).bind _)=_
  rw[z1S,bsS,this.1,this.2]
  cases q7B s.Name with
  | false=>rfl
  | true=>
   rw[ifP rfl,bsS]
   congr 1
   simp;omega
theorem k3g {s:Symbol}(h:s.as_.length≤1048576):q7D s=some (symB s):=by
 unfold q7D symB
 have hloop:∀ (ys:List At_) (i:Nat) (t:List BA_),t.length+ys.length≤1048576→findL q8q i ys t=some (if ys.all z2P=true then .inl (t++ys.map fun a=>a.Name) else .inr false):=by
  intro ys
  induction ys with
  | nil=>intro i t _;simp[findL]
  | cons y ys ih=>
   intro i t ht
   simp only[lnC] at ht
   simp only[findL]
   have e:q8q i y t=some (if z2P y=true then .inl (t++[y.Name]) else .inr false):=by
    unfold q8q
    rw[k1b,bsS]
    cases z2P y with
    | false=>rfl
    | true=>rw[ifP rfl,ifP rfl,q3G (by constructor<;>omega)]
   rw[e,bsS]
   by_cases hy:z2P y=true
   ·rw[ifP hy,show (y::ys).all z2P=ys.all z2P by simp[hy]]
    dsimp only
    rw[ih _ _ (by simp;omega)]
    simp
   ·rw[ifN hy,show (y::ys).all z2P=false by simp[hy]];rfl
 rw[hloop _ _ _ (by simpa using h)]
 cases hA:s.as_.all z2P with
 | false=>rfl
 | true=>
  rw[ifP rfl,bsS,z3q,List.nil_append,z0o,bsS]
  cases q7B s.Name with
  | false=>rfl
  | true=>
   rw[ifP rfl,bsS,lnM]
   by_cases hl:s.as_.length≤4
   ·rw[decide_eq_true (by omega:(s.as_.length:Int)≤4),ifP rfl,j9r,bsS,bsS,decide_eq_true hl]
    have:=j5v (nm:=fun a:At_=>a.Name) s.as_ []
    unfold k0Y
    rw[List.map_nil] at this
    rw[this];rfl
   ·rw[decide_eq_false (by omega:¬ (s.as_.length:Int)≤4),ifN (by simp),decide_eq_false hl];rfl
theorem z8n {r:Rule}{q:Cn}(h:q∈r.cs_):Sz.szd q.tt_≤Sz.szd r∧Sz.szd q.Value≤Sz.szd r:=by
 have h1:=z4K r
 have h2:=q9j q
 have h3:=z1Q h
 have h4:=q7A q.tt_
 have h5:=q7A q.Value
 omega
theorem z5W {g:Gm_}{r:Rule}(h:r∈g.rs_):Sz.szd r≤Sz.szd g:=by
 have h1:=z0M g
 have h3:=z1Q h
 omega
theorem k4s {r:Rule}(h:Sz.szd r≤1048576):r.es_.length≤1048576∧r.cs_.length≤1048576:=by
 have h1:=z4K r
 have h2:=q4P r.es_
 have h3:=q4P r.cs_
 omega
def q8L (n:Int)(e:Expr):Bool:=allE (fun x=>decide (x.Pos≤n)) e
theorem j6U (n:Int)(e:Expr):∀ m,fuE e≤m→z2o m e n=some (q8L n e):=by
 induction e using z1R with
 | h e ih=>
  intro m hm
  obtain⟨m,rfl⟩:∃ q,m=q+1:=⟨m-1,by have:=z6z e;omega⟩
  show z2n (z2o m) e n=_
  unfold z2n
  rw[q4T (c:=false) (q:=q8L n) fun k x hx=>by
   unfold z9l
   rw[ih x hx m (by have:=z6A hx;omega),bsS]
   cases q8L n x<;>rfl]
  have e1:q8L n e=(decide (e.Pos≤n)&&e.Args.all (q8L n)):=by unfold q8L;rw[j3V]
  rw[e1,bsS]
  cases e.Args.all (q8L n) with
  | true=>rw[ifP rfl,z3q,Ebz]
  | false=>rw[ifN (by simp),z6F,Eaz]
theorem j9s (n:Int)(e:Expr):z6N e n=some (q8L n e):=q8H (fuE e) fun m hm=>j6U n e m hm
theorem j6V (n:Int)(e:Expr):∀ m,fuE e≤m→q6g m e n=some (q8L n e):=by
 induction e using z1R with
 | h e ih=>
  intro m hm
  obtain⟨m,rfl⟩:∃ q,m=q+1:=⟨m-1,by have:=z6z e;omega⟩
  show q6f (q6g m) e n=_
  unfold q6f q3Y q4e z7P
  have e1:q8L n e=(decide (e.Pos≤n)&&e.Args.all (q8L n)):=by unfold q8L;rw[j3V]
  rw[bsS,e1]
  cases decide (e.Pos≤n) with
  | false=>rfl
  | true=>
   rw[ifP rfl,q5X (q:=fun x=>!q8L n x) fun k x hx=>by
    unfold q5w q6A
    rw[ih x hx m (by have:=z6A hx;omega),bsS,bsS]
    cases q8L n x<;>rfl]
   rw[Bool.true_and,← j1D];rfl
theorem j9t (n:Int)(e:Expr):q8I e n=some (q8L n e):=q8H (fuE e) fun m hm=>j6V n e m hm
def z3H (e:Expr)(n:Int):Bool:=j1E e&&q8L n e
theorem j3Z {e:Expr}(h:Sz.szd e≤1048576)(n:Int):z6O e n=some (z3H e n):=by
 unfold z6O z3H
 have:=k4r h
 rw[k0W (by omega),bsS]
 cases j1E e with
 | false=>rfl
 | true=>rw[ifP rfl,j9t];rfl
theorem j4a {e:Expr}(h:Sz.szd e≤1048576)(n:Int):z2p e n=some (z3H e n):=by
 unfold z2p z3H
 have:=k4r h
 rw[k0X (by omega),bsS]
 cases j1E e with
 | false=>rfl
 | true=>rw[ifP rfl,j9s];rfl
def eqnB (n:Int)(q:Eqn):Bool:=z3H q.Expr n&&(q7B q.At.Name&&decide (0≤q.At.Pos∧q.At.Pos≤n))
def conB (n:Int)(q:Cn):Bool:=(z3H q.tt_ n&&z3H q.Value n)&&(q7B q.Symbol&&q7B q.Name)
def ruleB (r:Rule):Bool:=(q7B r.Name&&q7B r.Left)&&((decide (r.rt_.length≤3)&&decide (r.cs_.length≤2))&&(r.rt_.all q7B&&(r.es_.all (eqnB (r.rt_.length:Int))&&r.cs_.all (conB (r.rt_.length:Int)))))
theorem j5w {α β γ:Type}{p:α→Bool}{q:β→Bool}{t:γ→Bool}(xs:List α)(ys:List β)(zs:List γ) :
  ((some (if xs.all p=true then (.inl ():Unit ⊕ Bool) else .inr false)).bind <| onr (fun r1=>some r1) fun _=>
   (some (if ys.all q=true then (.inl ():Unit ⊕ Bool) else .inr false)).bind <| onr (fun r1=>some r1) fun _=>
   (some (if zs.all t=true then (.inl ():Unit ⊕ Bool) else .inr false)).bind <| onr (fun r1=>some r1) fun _=>some true)=some (xs.all p&&(ys.all q&&zs.all t)):=by
 cases xs.all p<;>cases ys.all q<;>cases zs.all t<;>rfl
theorem k1c {r:Rule}(h:Sz.szd r≤1048576):q8W r=some (ruleB r):=by
 unfold q8W ruleB
 rw[z1S,bsS]
 cases q7B r.Name with
 | false=>rfl
 | true=>
  rw[ifP rfl,z1S,bsS,bsS]
  cases q7B r.Left with
  | false=>rfl
  | true=>
   rw[Ecz,ifN (by simp),bsS]
   by_cases h3:r.rt_.length≤3
   ·rw[decide_eq_true h3,decide_eq_false (by omega),ifN (by simp),bsS]
    by_cases h2:r.cs_.length≤2
    ·rw[decide_eq_true h2,decide_eq_false (by omega),ifN (by simp)]
     rw[q4T (c:=false) (q:=q7B) fun k x hx=>by
      unfold z5y;rw[z1S,bsS];cases q7B x<;>rfl]
     rw[q4T (c:=false) (q:=eqnB (r.rt_.length:Int)) fun k x hx=>by
      unfold z5z eqnB
      rw[j3Z (Bdz (z7h hx) h),bsS]
      cases z3H x.Expr (r.rt_.length:Int) with
      | false=>rfl
      | true=>
       rw[ifP rfl,z1S,bsS,bsS]
       cases q7B x.At.Name with
       | false=>rfl
       | true=>
        rw[Ecz,ifN (by simp),z9t,bsS,bsS]
        cases decide (0≤x.At.Pos∧x.At.Pos≤(r.rt_.length:Int))<;>rfl]
     rw[q4T (c:=false) (q:=conB (r.rt_.length:Int)) fun k x hx=>by
      have hs:=z8n hx
      unfold z5A conB
      rw[j3Z (Bdz hs.1 h),bsS]
      cases z3H x.tt_ (r.rt_.length:Int) with
      | false=>rfl
      | true=>
       rw[ifP rfl,j3Z (Bdz hs.2 h),bsS,bsS]
       cases z3H x.Value (r.rt_.length:Int) with
       | false=>rfl
       | true=>
        rw[Ecz,ifN (by simp),z1S,bsS,bsS]
        cases q7B x.Symbol with
        | false=>rfl
        | true=>
         rw[Ecz,ifN (by simp),z1S,bsS,bsS]
         cases q7B x.Name<;>rfl]
     exact j5w _ _ _
    ·rw[decide_eq_false h2,decide_eq_true (by omega)];rfl
   ·rw[decide_eq_false h3,decide_eq_true (by omega)];rfl
theorem k1d {r:Rule}(h:Sz.szd r≤1048576):q8Q r=some (ruleB r):=by
 unfold q8Q ruleB
 rw[z0o,bsS]
 cases q7B r.Name with
 | false=>rfl
 | true=>
  rw[ifP rfl,z0o,bsS,bsS]
  cases q7B r.Left with
  | false=>rfl
  | true=>
   rw[Ecz,ifN (by simp),bsS]
   by_cases h3:r.rt_.length≤3
   ·rw[decide_eq_true h3,decide_eq_false (by omega),ifN (by simp),bsS]
    by_cases h2:r.cs_.length≤2
    ·rw[decide_eq_true h2,decide_eq_false (by omega),ifN (by simp)]
     rw[q4T (c:=false) (q:=q7B) fun k x hx=>by
      unfold z5o;rw[z0o,bsS];cases q7B x<;>rfl]
     rw[q4T (c:=false) (q:=eqnB (r.rt_.length:Int)) fun k x hx=>by
      unfold z5p eqnB
      rw[z0o,bsS]
      cases q7B x.At.Name with
      | false=>rw[Bool.false_and,Eaz];rfl
      | true=>
       rw[ifP rfl,z5O,bsS,bsS]
       cases decide (0≤x.At.Pos∧x.At.Pos≤(r.rt_.length:Int)) with
       | false=>rw[Eaz,Eaz];rfl
       | true=>
        rw[Ecz,ifN (by simp),j4a (Bdz (z7h hx) h),bsS,bsS]
        cases z3H x.Expr (r.rt_.length:Int)<;>rfl]
     rw[q4T (c:=false) (q:=conB (r.rt_.length:Int)) fun k x hx=>by
      have hs:=z8n hx
      unfold z5q conB
      rw[z0o,bsS]
      cases q7B x.Symbol with
      | false=>rw[Bool.false_and,Eaz];rfl
      | true=>
       rw[ifP rfl,z0o,bsS,bsS]
       cases q7B x.Name with
       | false=>rw[Eaz,Eaz];rfl
       | true=>
        rw[Ecz,ifN (by simp),j4a (Bdz hs.1 h),bsS,bsS]
        cases z3H x.tt_ (r.rt_.length:Int) with
        | false=>rfl
        | true=>
         rw[Ecz,ifN (by simp),j4a (Bdz hs.2 h),bsS,bsS]
         cases z3H x.Value (r.rt_.length:Int)<;>rfl]
     exact j5w _ _ _
    ·rw[decide_eq_false h2,decide_eq_true (by omega)];rfl
   ·rw[decide_eq_false h3,decide_eq_true (by omega)];rfl
def z4n (p:List Symbol)(x:Symbol):Bool:=!symB x||dupB (fun y:Symbol=>y.Name) p x
def z1D (p:List Rule)(x:Rule):Bool:=!ruleB x||dupB (fun y:Rule=>y.Name) p x
def z6B (g:Gm_):Int:=match q4A z4n [] g.ss_ with
 | some k=>(k:Int)
 | none=>match q4A z1D [] g.rs_ with
  | some k=>(k:Int)
  | none=>-1
theorem k1e {g:Gm_}(h:Sz.szd g≤1048576):q9Z g=some (z6B g):=by
 unfold q9Z z6B
 rw[show findL (z0Y g) 0 g.ss_ ()=_ from z5V (bad:=z4n) (c:=fun k=>(k:Int)) (all:=g.ss_) (f:=z0Y g) (fun pre x post e=>by
  unfold z0Y z4n
  rw[k3f,bsS]
  cases symB x with
  | false=>rfl
  | true=>
   rw[ifP rfl,q3G (by rw[e];simp),show g.ss_.take pre.length=pre by rw[e];simp]
   unfold q4l q4x
   rw[q5X (q:=fun o:Symbol=>decide (o.Name=x.Name)) fun k y hy=>by
    unfold q5S q9W
    rw[bsS]
    by_cases h:y.Name=x.Name
    ·rw[decide_eq_true h];rfl
    ·rw[decide_eq_false h];rfl]
   rw[bsS,← apply_ite some];rfl) g.ss_ [] rfl]
 rw[show findL (z0Z g) 0 g.rs_ ()=_ from z5V (bad:=z1D) (c:=fun k=>(k:Int)) (all:=g.rs_) (f:=z0Z g) (fun pre x post e=>by
  unfold z0Z z1D
  rw[k1c (Bdz (z5W (by rw[e];simp)) h),bsS]
  cases ruleB x with
  | false=>rfl
  | true=>
   rw[ifP rfl,q3G (by rw[e];simp),show g.rs_.take pre.length=pre by rw[e];simp]
   unfold q4r q4D
   rw[q5X (q:=fun o:Rule=>decide (o.Name=x.Name)) fun k y hy=>by
    unfold q5Y q9Y
    rw[bsS]
    by_cases h:y.Name=x.Name
    ·rw[decide_eq_true h];rfl
    ·rw[decide_eq_false h];rfl]
   rw[bsS,← apply_ite some];rfl) g.rs_ [] rfl]
 cases q4A z4n [] g.ss_ with
 | some k=>rfl
 | none=>cases q4A z1D [] g.rs_<;>rfl
theorem j6W {g:Gm_}(h:Sz.szd g≤1048576):g.ss_.length≤1048576∧g.rs_.length≤1048576:=by
 have h1:=z0M g
 have h2:=q4P g.ss_
 have h3:=q4P g.rs_
 omega
theorem k1f {g:Gm_}(h:Sz.szd g≤1048576):z5r g=some (z6B g):=by
 have hl:=j6W h
 unfold z5r z6B
 have h1:=(z4m (bad:=z4n) (nm:=fun y:Symbol=>y.Name) (c:=fun k=>(k:Int)) (all:=g.ss_) (f:=fun k x _=>some (if z4n (g.ss_.take k) x=true then .inr (k:Int) else .inl ())) (h:=z6h) (fun pre x post e=>by
   rw[show g.ss_.take pre.length=pre by rw[e];simp]) (fun pre x post e=>by
  unfold z6h z4n
  rw[k3g (z3C h x (by rw[e];simp)),bsS]
  cases symB x with
  | false=>rfl
  | true=>
   have hp:pre.length≤1048576:=by
     have:g.ss_.length=pre.length+(post.length+1):=by rw[e];simp
     omega
   rw[ifP rfl,k0Z,bsS,Edz,q3G (by rw[lnM];constructor<;>omega),Dcz,← apply_ite some];rfl) g.ss_ [] rfl).2
 have h2:=(z4m (bad:=z1D) (nm:=fun y:Rule=>y.Name) (c:=fun k=>(k:Int)) (all:=g.rs_) (f:=fun k x _=>some (if z1D (g.rs_.take k) x=true then .inr (k:Int) else .inl ())) (h:=z6i) (fun pre x post e=>by
   rw[show g.rs_.take pre.length=pre by rw[e];simp]) (fun pre x post e=>by
  unfold z6i z1D
  rw[k1d (Bdz (z5W (by rw[e];simp)) h),bsS]
  cases ruleB x with
  | false=>rfl
  | true=>
   have hp:pre.length≤1048576:=by
     have:g.rs_.length=pre.length+(post.length+1):=by rw[e];simp
     omega
   rw[ifP rfl,k0Z,bsS,Edz,q3G (by rw[lnM];constructor<;>omega),Dcz,← apply_ite some];rfl) g.rs_ [] rfl).2
 rw[show findL z6h 0 g.ss_ []=_ from h1,show findL z6i 0 g.rs_ []=_ from h2]
 cases q4A z4n [] g.ss_ with
 | some k=>rfl
 | none=>cases q4A z1D [] g.rs_<;>rfl
end Go.Proofs.YtnhofaohogianaaGreat
