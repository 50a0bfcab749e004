/- Contracts: units; the first one of a list. -/
import Derived.Test.YtmdfgncoekfgdaaGreatDoorG7J
import Derived.Test.YtmdfgncoekfgdaaGreatDoorG5J
import Derived.OpenShut
import Derived.ChangeArms
import Derived.Below
namespace Go.Proofs.YtmdfgncoekfgdaaGreatDoor
open Go Go.D
variable {X:aF} {m:M}
structure Un where
 id:Int
 kind:Int
 Cx:Int
 shape:List Pl
 back:Int
 front:Int
abbrev Un.c(u:Un)(w:Value):List Value:=[.int .i64 u.id,.int .i64 u.kind,.int .i64 u.Cx,w,.int .i64 u.back,.int .i64 u.front]
instance:aY Un where
 ty:=87
 sz:=6
 agg:=true
 jN:=[98]
 rep m u cs:=∃w,cs=u.c w/\Sl m u.shape w
 pos:=by decide
 one:=by intro h;cases h
 len:=by rintro _ _ _ ⟨w,rfl,_⟩;rfl
 lO:=by rintro _ _ _ ⟨w,rfl,h⟩;show(true && (true && (true && (one w && (true && (true && true))))))=true;rw[h.one];rfl
 bw:=by
  rintro m m' u cs ⟨w,rfl,h⟩ hk
  exact⟨w,rfl,h.bw fun b c t g hb ht=>hk b c t g hb (by simpa[aY.ty,aY.jN]using ht)⟩
theorem GW:uJ TE 29 87 Un:=⟨af.t29,af.t87,by kernel_rfl,⟨_,rfl⟩,rfl,by kernel_rfl,rfl,rfl⟩
abbrev Un.v(u:Un)(w:Value):Value:=.agg (u.c w).toArray
abbrev Un.zc:List Value:=[.int .i64 0,.int .i64 0,.int .i64 0,.slice none 0 0,.int .i64 0,.int .i64 0]
theorem _root_.Go.D.Sl.QQ{l:List Un}{v:Value}(h:Sl m l v){i:Nat}{u:Un}(hi:l[i]?=some u){k:IntKind}:∃a w,ai TE 29 v (.int k i)=some a/\ag TE m 87 a=some (u.v w)/\Sl m u.shape w:=by
 obtain⟨a,cs,h1,h2,w,rfl,h3⟩:=h.index GW (k:=k) hi
 exact⟨a,w,h1,h2,h3⟩
theorem bP{b:Nat}{u:Un}{w:Value}{e:TypeId}{g:Option Nat}(h:m.get b=.cells (u.c w) e g):ag TE m 87 (.pointer (some ⟨b,0,none⟩))=some (u.v w):=by
 rw[wC,aH h (by simp)];rfl
theorem Un.eE{u:Un}{w:Value}(hw:one w=true):(u.c w).all one=true:=by show(true && (true && (true && (one w && (true && (true && true))))))=true;rw[hw];rfl
def dq(bf:Un->Un->Bool):List Un->Option Un->Option Un
 |[],o=>o
 |x::l,none=>dq bf l (some x)
 |x::l,some b=>dq bf l (some (if bf x b then x else b))
theorem lT(bf:Un->Un->Bool)(x:Un):∀(l:List Un) (o:Option Un),dq bf (l++ [x]) o=match dq bf l o with |none=>some x |some b=>some (if bf x b then x else b)
 |[],none=>rfl
 |[],some b=>rfl
 |y::l,none=>lT bf x l _
 |y::l,some b=>lT bf x l _
def BF(m:M)(o:Option Un)(v:Value):Prop:=match o with |some u=>∃w,v=u.v w/\Sl m u.shape w |none=>v=.agg Un.zc.toArray
def FA(m:M)(b:Nat)(o:Option Un):Prop:=match o with |some u=>∃w,m.get b=.cells (u.c w) 87 none/\Sl m u.shape w |none=>m.get b=.cells Un.zc 87 none
theorem FA.load{b:Nat}{o:Option Un}(h:FA m b o):∃v,ag TE m 87 (.pointer (some ⟨b,0,none⟩))=some v/\BF m o v/\(cells v).length=6/\(cells v).all one=true/\m.get b=.cells (cells v) 87 none:=by
 cases o with
 |none=>
  have h:m.get b=.cells Un.zc 87 none:=h
  refine⟨.agg Un.zc.toArray,?_,rfl,rfl,rfl,h⟩
  rw[wC,aH h (by simp)];rfl
 |some u=>
  obtain⟨w,h,hs⟩:=h
  exact⟨u.v w,bP h,⟨w,rfl,hs⟩,rfl,Un.eE hs.one,h⟩
theorem FA.aD{b:Nat}{o:Option Un}{m':M}(h:FA m b o)(hx:Ext m m'):FA m' b o:=by
 cases o with
 |none=>exact hx.cells h
 |some u=>
  obtain⟨w,h,hs⟩:=h
  exact⟨w,hx.cells h,hs.aD hx⟩
theorem Ja(hX:dF X){l:List Un}{v:Value}{g:Fn}{fi ca:Array Value}(bf:Un->Un->Bool)(hb:l.length < 4611686018427387904)(hl:Sl m l v)
  (hs:∀a b wa wb m1,Ext m m1->C X g (fi.toList++([a.v wa,b.v wb]++ca.toList)) m1 m1.n (.bool (bf a b)) m1):
  ∃r m',C X (.func 132) [v,.func g fi ca] m m.n (.tuple #[r,.bool (dq bf l none).isSome]) m'/\Ext m m'/\BF m' (dq bf l none) r:=by
 have key:=Cl.gen (E:=TE) (X:=X) (f:=132) (args:=[v,.func g fi ca]) (m:=m) (R:=fun v' m' b=>b=m.n/\Ext m m'/\∃r,v'=.tuple #[r,.bool (dq bf l none).isSome]/\BF m' (dq bf l none) r) (hX.no _ rfl) N2 rfl ?_
 ·obtain⟨v',m',b,hc,rfl,hx,r,rfl,hr⟩:=key
  exact⟨r,m',hc,hx,hr⟩
 rw[Tf];dsimp only[aN]
 refine ar fun m1 hn1 hg1 hk1=>?_
 have hx1:Ext m m1:=⟨by omega,fun b hb=>hk1 b hb⟩
 rw[(hl.aD hx1).len GW,au]
 simp only[ptrTo]
 refine Lp.intro (γ:=Nat) (fun i=>l.length-i) (fun i vs m2 lo=>vs=[.bool (dq bf (l.take i) none).isSome,.int .i64 i]/\i<=l.length/\Ext m m2/\m.n < m2.n/\m.n<=lo/\FA m2 m.n (dq bf (l.take i) none)) 0 ⟨rfl,Nat.zero_le _,hx1,by omega,by omega,hg1⟩ ?_
 rintro i vs m2 eZ ⟨rfl,hi,hx2,hn2,hlo,hopt⟩
 simp only[aA,aM,aa,aj]
 refine ak (fun hlt=>?_) (fun hge=>?_)
 ·have hlt:i < l.length:=by simpa using hlt
  obtain⟨u,hu⟩:∃u,l[i]?=some u:=⟨_,List.getElem?_eq_getElem hlt⟩
  obtain⟨q,w,e1,e2,hw⟩:=(hl.aD hx2).QQ (k:=.i64) hu
  rw[e1,aa,e2,aa]
  refine ar fun m3 hn3 hg3 hk3=>?_
  refine av eH hg3 rfl rfl (Un.eE hw.one) fun m4 hn4 hg4 hk4=>?_
  have hx24:Ext m2 m4:=⟨by omega,fun b hb=>by rw[hk4 b (by omega),hk3 b hb]⟩
  have hx4:Ext m m4:=hx2.trans hx24
  have hopt4:=hopt.aD hx24
  have hw4:=hw.aD hx24
  have hstep:dq bf (l.take (i+1)) none=match dq bf (l.take i) none with |none=>some u |some b=>some (if bf u b then u else b):=by
   rw[List.take_add_one,hu];exact lT bf u _ _
  refine cq (fun vs m5 lo=>m4=m5/\m.n<=lo/\vs=[.bool (match dq bf (l.take i) none with |none=>true |some b=>bf u b)]) (fun R hR=>?_) ?_
  ·cases ho:dq bf (l.take i) none with
   |none=>
    simp only[Option.isSome_none,bD,aa,aj,Bool.not_false,bZ]
    exact hR _ _ _ ⟨rfl,by omega,by rw[ho]⟩
   |some b0=>
    simp only[Option.isSome_some,bD,aa,aj,Bool.not_true,aU]
    rw[ho]at hopt4
    obtain⟨w0,hb0,hw0⟩:=hopt4
    rw[bP hg4,aa,bP hb0,aa,bO]
    refine aC (hs u b0 w w0 m4 hx4) ?_
    exact hR _ _ _ ⟨rfl,by have:=hx4.n;omega,by rw[ho]⟩
  ·rintro _ _ lo5 ⟨rfl,hlo5,rfl⟩
   rw[aA,aj]
   refine ak (fun ht=>?_) (fun hf=>?_)
   ·rw[bP hg4,aa]
    obtain⟨v0,_,_,hl6,h16,hg6⟩:=hopt4.load
    refine av eH hg6 rfl (by rw[hl6];rfl) (Un.eE hw.one) fun m6 hn6 hgg6 hk6=>?_
    simp only[aG,aa]
    rw[wrap64 (by omega) (by omega)]
    have hnew:dq bf (l.take (i+1)) none=some u:=by
     rw[hstep]
     cases ho:dq bf (l.take i) none with
     |none=>rfl
     |some b0=>rw[ho]at ht;dsimp only at ht⊢;rw[if_pos ht]
    have hx6:Ext m m6:=⟨by have:=hx4.n;omega,fun b hb=>by rw[hk6 b (by omega),hx4.get b hb]⟩
    refine⟨i+1,by omega,by rw[hnew];simp,by omega,hx6,by omega,by omega,?_⟩
    rw[hnew]
    refine⟨w,hgg6,(hw4.bw fun b c t g hb htt=>?_)⟩
    by_cases hbm:b=m.n
    ·subst hbm
     rw[hg6]at hb
     cases hb
     simp[aY.ty,aY.jN]at htt
    ·rw[hk6 b hbm,hb]
   ·simp only[aG,aa]
    rw[wrap64 (by omega) (by omega)]
    have hnew:dq bf (l.take (i+1)) none=dq bf (l.take i) none:=by
     rw[hstep]
     cases ho:dq bf (l.take i) none with
     |none=>rw[ho]at hf;cases hf
     |some b0=>rw[ho]at hf;dsimp only at hf⊢;rw[if_neg (by rw[hf];simp)]
    exact⟨i+1,by omega,by rw[hnew];simp,by omega,hx4,by omega,hlo5,by rw[hnew];exact hopt4⟩
 ·have hi':i=l.length:=by
   have:¬(i:Int)< (l.length:Int):=by simpa using hge
   omega
  rw[hi',List.take_length]at hopt⊢
  obtain⟨v0,e0,ho,hl6,h16,hg6⟩:=hopt.load
  rw[e0,aa]
  refine av eH hg6 (by rw[hl6];rfl) rfl h16 fun m6 hn6 hgg6 hk6=>?_
  have hsame:∀b,m6.get b=m2.get b:=fun b=>by
   by_cases hbm:b=m.n
   ·subst hbm;rw[hgg6,hg6]
   ·exact hk6 b hbm
  have hx26:Ext m2 m6:=⟨by omega,fun b _=>hsame b⟩
  obtain⟨v7,e7,ho7,_⟩:=(hopt.aD hx26).load
  rw[e7,aa]
  cases hfl:bY (bs [v7,.bool (dq bf l none).isSome])with
  |false=>exact .inr ⟨.inl rfl,by omega,hx2.trans hx26,v7,rfl,ho7⟩
  |true=>
   refine .inl ⟨rfl,by omega,by first |rfl |trivial,.refl,v7,rfl,?_⟩
   cases hfo:dq bf l none with
   |none=>rw[hfo]at ho7;exact ho7
   |some u=>
    rw[hfo]at ho7 hfl
    obtain⟨w,rfl,hw⟩:=ho7
    refine⟨w,rfl,?_⟩
    rcases hw with h |⟨b,o,c,bc,g,rfl,_⟩
    ·exact .inl h
    ·cases hfl
end Go.Proofs.YtmdfgncoekfgdaaGreatDoor
namespace Go.Proofs.YtmdfgncoekfgdaaGreatDoor
open Go Go.D
variable {X:aF} {m:M}
def Rr(o:Option Un):Int:=match o with |some u=>u.id |none=> -1
theorem P4(hX:dF X){o:Option Un}{v:Value}(h:BF m o v):C X (.func 131) [v,.bool o.isSome] m m.n (.int .i64 (Rr o)) m:=by
 refine Cl.flat (hX.no _ rfl) N3 rfl rfl ?_
 rw[Tg];dsimp only[aN]
 refine ar fun m1 hn1 hg1 hk1=>?_
 cases o with
 |none=>
  simp only[Option.isSome_none,bD,aa,aj,Bool.not_false,bZ]
  exact⟨rfl,Nat.le_refl _⟩
 |some u=>
  obtain⟨w,rfl,hw⟩:=h
  simp only[aL]at hg1
  simp only[Option.isSome_some,bD,aa,aj,Bool.not_true,aU,aa,au,bO,aj,bZ,aU,dk,aM,cR,cQ,bI,cE,bD,ptrTo,ff,ef,Nat.zero_add,Nat.reduceAdd,List.getElem?_cons_zero,List.getElem?_cons_succ,List.drop_zero,List.drop_succ_cons,List.take_succ_cons,List.take_zero,Option.map_some,aL,fj,ew,dJ,fg,fh,eu,bt,bA,az hg1]
  exact⟨rfl,Nat.le_refl _⟩
theorem JJ(hX:dF X)(a b:Un)(wa wb:Value):C X (.func 133) [a.v wa,b.v wb] m m.n (.bool (decide (a.back < b.back))) m:=by
 refine Cl.flat (hX.no _ rfl) N1 rfl rfl ?_
 rw[Te];dsimp only[aN]
 refine ar fun m1 hn1 hg1 hk1=>?_
 refine ar fun m2 hn2 hg2 hk2=>?_
 have g1:=(hk2 m.n (by omega)).trans hg1
 simp only[aL]at g1 hg2
 simp only[aa,au,bO,aj,bZ,aU,dk,aM,cR,cQ,bI,cE,bD,ptrTo,ff,ef,Nat.zero_add,Nat.reduceAdd,List.getElem?_cons_zero,List.getElem?_cons_succ,List.drop_zero,List.drop_succ_cons,List.take_succ_cons,List.take_zero,Option.map_some,aL,fj,ew,dJ,fg,fh,eu,cO,bA,az g1,az hg2]
 exact⟨rfl,Nat.le_refl _⟩
theorem EA(hX:dF X)(a b:Un)(wa wb:Value):C X (.func 134) [a.v wa,b.v wb] m m.n (.bool (decide (b.front < a.front))) m:=by
 refine Cl.flat (hX.no _ rfl) N0 rfl rfl ?_
 rw[Td];dsimp only[aN]
 refine ar fun m1 hn1 hg1 hk1=>?_
 refine ar fun m2 hn2 hg2 hk2=>?_
 have g1:=(hk2 m.n (by omega)).trans hg1
 simp only[aL]at g1 hg2
 simp only[aa,au,bO,aj,bZ,aU,dk,aM,cR,cQ,bI,cE,bD,ptrTo,ff,ef,Nat.zero_add,Nat.reduceAdd,List.getElem?_cons_zero,List.getElem?_cons_succ,List.drop_zero,List.drop_succ_cons,List.take_succ_cons,List.take_zero,Option.map_some,aL,fj,ew,dJ,fg,fh,eu,cN,bA,az g1,az hg2]
 exact⟨rfl,Nat.le_refl _⟩
theorem oZ{n:Int}:aE TE m 25 1 [(0,.int .i64 n)]=some (.slice (some ⟨m.n,0,none⟩) 1 1,m.push (.cells [.int .i64 n] 3 none)):=by kernel_rfl
theorem jw{n:Int}{b:Nat}{g:Option Nat}(h:m.get b=.cells [.int .i64 n] 3 g):Sl m [n] (.slice (some ⟨b,0,none⟩) 1 1):=
 .inr ⟨b,0,1,_,g,rfl,h,Nat.le_refl _,fun i x hi=>by
  match i with
  |0=>cases hi;rfl
  |i+1=>cases hi⟩
theorem _root_.Go.D.Ow.LF{n1:Nat}{l:List Int}{v:Value}{n:Int}{P:Value->M->Prop}(h:Ow n1 m l v)(hn:n1<=m.n)(hs:l.length < 268435456)
  (hP:∀v1 m1,Ow n1 m1 (l++ [n]) v1->BG n1 m m1->n1<=m1.low->m.n<=m1.n->P v1 m1):
  aO (aE TE m 25 1 [(0,.int .i64 n)]) fun a m1=>aO (aq TE (m1.wl m1.n) .append [25,25] [v,a]) P:=by
 rw[oZ,au]
 have hx:Ext m (m.push (.cells [.int .i64 n] 3 none)):=Ext.refl.push
 have hpn:(m.push (.cells [.int .i64 n] 3 none)).n=m.n+1:=rfl
 obtain⟨v1,m1,e1,ho,hf,hl,_⟩:=(h.aD hx).append rV (by simp[aY.ty,aY.jN]) (jw (m:=m.push (.cells [.int .i64 n] 3 none)) M.aV) (by omega) (by simp;omega)
 rw[e1,au]
 exact hP v1 m1 ho ((hx.fr hn).trans hf) hl (by have:=hf.n;omega)
def uv(g:Nat->Nat->Int)(w j:Nat):List Int:=(List.range w).map fun i=>g i j
def kz(g:Nat->Nat->Int)(w h:Nat):List Int:=(List.range h).flatMap (uv g w)
theorem Ec{g:Nat->Nat->Int}{i j:Nat}:uv g (i+1) j=uv g i j++ [g i j]:=by simp[uv,List.range_succ]
theorem tB{g:Nat->Nat->Int}{w j:Nat}:kz g w (j+1)=kz g w j++uv g w j:=by simp[kz,List.range_succ]
theorem yJ{g:Nat->Nat->Int}{w j:Nat}:(uv g w j).length=w:=by simp[uv]
theorem ky{g:Nat->Nat->Int}{w:Nat}:∀h,(kz g w h).length=h*w
 |0=>by simp[kz]
 |h+1=>by rw[tB,List.length_append,ky h,yJ,Nat.add_mul,Nat.one_mul]
abbrev FG(w h:Int)(v:Value):Value:=.agg #[.int .i64 w,.int .i64 h,v]
theorem KI(hX:dF X){w h:Nat}(hw:w<=1000)(hh:h<=1000){g:Fn}{fi ca:Array Value}(gz:Nat->Nat->Int)
  (hg:∀i j m1,i < w->j < h->Ext m m1->C X g (fi.toList++([.int .i64 i,.int .i64 j]++ca.toList)) m1 m1.n (.int .i64 (gz i j)) m1) (hpos:0 < w/\0 < h):
  ∃v m',C X (.func 68) [.int .i64 w,.int .i64 h,.func g fi ca] m m.n (FG w h v) m'/\Ext m m'/\Ow m.n m' (kz gz w h) v:=by
 have key:=Cl.heap (E:=TE) (X:=X) (f:=68) (args:=[.int .i64 w,.int .i64 h,.func g fi ca]) (m:=m) (R:=fun v' m' b=>b=m.n/\Ext m m'/\∃v,v'=FG w h v/\Ow m.n m' (kz gz w h) v) (hX.no _ rfl) Ql rfl ?_
 ·obtain⟨v',m',b,hc,rfl,hx,v,rfl,hr⟩:=key
  exact⟨v,m',hc,hx,hr⟩
 rw[F68];dsimp only[aN]
 refine ar fun m1 hn1 hg1 hk1=>?_
 rw[xB rfl rfl,aa]
 refine ar fun m3 hn3 hg3 hk3=>?_
 simp only[ptrTo]
 refine av BV hg3 rfl rfl rfl fun m4 hn4 hg4 hk4=>?_
 have hx4:Ext m m4:=⟨by omega,fun b hb=>by rw[hk4 b (by omega),hk3 b (by omega),hk1 b hb]⟩
 have g04:m4.get m.n=.cells [.int .i64 0,.int .i64 0,.slice none 0 0] 27 none:=by rw[hk4 _ (by omega),hk3 _ (by omega),hg1]
 refine Lp.intro (γ:=Nat) (fun j=>h-j) (fun j vs m8 lo=>vs=[.int .i64 j]/\j<=h/\Ext m m8/\m.n+2<=m8.n/\m.n<=lo/\(∃v,m8.get m1.n=.cells [.int .i64 w,.int .i64 h,v] 27 none/\Ow (m.n+2) m8 (kz gz w j) v)/\∃cs,m8.get m.n=.cells cs 27 none/\cs.length=3) 0
  ⟨rfl,Nat.zero_le _,hx4,by omega,by omega,⟨_,hg4,Ow.nil⟩,_,g04,rfl⟩ ?_
 rintro j vs m8 lo8 ⟨rfl,hj,hx8,hn8,hlo8,⟨v8,hb8,ho8⟩,cs8,hz8,hcl8⟩
 simp only[aA,aM,aa,aj]
 refine ak (fun hlt=>?_) (fun hge=>?_)
 ·have hlt:j < h:=by simpa using hlt
  refine Lp.intro (γ:=Nat) (fun i=>w-i) (fun i vs m9 lo=>vs=[.int .i64 i]/\i<=w/\Ext m m9/\m.n+2<=m9.n/\m.n<=lo/\(∃v,m9.get m1.n=.cells [.int .i64 w,.int .i64 h,v] 27 none/\Ow (m.n+2) m9 (kz gz w j++uv gz i j) v)/\∃cs,m9.get m.n=.cells cs 27 none/\cs.length=3) 0
   ⟨rfl,Nat.zero_le _,hx8,hn8,hlo8,⟨v8,hb8,by simpa[uv]using ho8⟩,cs8,hz8,hcl8⟩ ?_
  rintro i vs m9 lo9 ⟨rfl,hi,hx9,hn9,hlo9,⟨v9,hb9,ho9⟩,cs9,hz9,hcl9⟩
  simp only[aA,aM,aa,aj]
  refine ak (fun hlt2=>?_) (fun hge2=>?_)
  ·have hlt2:i < w:=by simpa using hlt2
   rw[tI,aa,jU,az hb9]
   simp only[Nat.zero_add,List.getElem?_cons_zero,List.getElem?_cons_succ,aa,bO]
   refine aC (hg i j m9 hlt2 hlt hx9) ⟨Nat.le_refl _,?_⟩
   have hsz:(kz gz w j++uv gz i j).length < 268435456:=by
    rw[List.length_append,ky,yJ]
    have:j*w<=1000*1000:=Nat.mul_le_mul (by omega) hw
    omega
   refine ho9.LF hn9 hsz fun v10 m10 ho10 hf10 hlow hn10=>?_
   have hb10:m10.get m1.n=.cells [.int .i64 w,.int .i64 h,v9] 27 none:=by rw[hf10.get _ (by omega),hb9]
   have hz10:m10.get m.n=.cells cs9 27 none:=by rw[hf10.get _ (by omega),hz9]
   have hcv:cells v10=[v10]:=ho10.sl.cells
   refine dS xT hb10 (by rw[hcv];rfl) (by rw[hcv];exact Nat.le_refl _) (by rw[hcv];simp[ho10.sl.one]) fun m11 hn11 hg11 hk11=>?_
   simp only[aG,aa]
   rw[wrap64 (by omega) (by omega)]
   rw[hcv]at hg11
   refine⟨i+1,by omega,by simp,by omega,⟨by have:=hx9.n;omega,fun b hb=>by rw[hk11 b (by omega),hf10.get b (by omega),hx9.get b hb]⟩,by omega,by omega,⟨v10,hg11,?_⟩,cs9,by rw[hk11 _ (by omega),hz10],hcl9⟩
   rw[Ec,<-List.append_assoc]
   refine ho10.bw fun b c t g hb ht=>?_
   by_cases hbm:b=m1.n
   ·subst hbm
    rw[hb10]at hb
    cases hb
    simp[aY.ty,aY.jN]at ht
   ·rw[hk11 b hbm,hb]
  ·have hi':i=w:=by
    have:¬(i:Int)< (w:Int):=by simpa using hge2
    omega
   simp only[aG,aa]
   rw[wrap64 (by omega) (by omega)]
   exact⟨j+1,by omega,by simp,by omega,hx9,hn9,hlo9,⟨v9,hb9,by rw[tB];rw[hi']at ho9;exact ho9⟩,cs9,hz9,hcl9⟩
 ·have hj':j=h:=by
   have:¬(j:Int)< (h:Int):=by simpa using hge
   omega
  subst hj'
  have e:ag TE m8 27 (.pointer (some ⟨m1.n,0,none⟩))=some (FG w j v8):=by rw[pj,aH hb8 (by simp)];rfl
  rw[e,aa]
  have hone:one v8=true:=ho8.sl.one
  refine av BV hz8 rfl (by rw[hcl8];rfl) (by show(true && (true && (one v8 && true)))=true;rw[hone];rfl) fun m12 hn12 hg12 hk12=>?_
  have e2:ag TE m12 27 (.pointer (some ⟨m.n,0,none⟩))=some (FG w j v8):=by rw[pj,aH hg12 (by simp[aL])];rfl
  rw[e2,aa]
  have ho12:Ow (m.n+2) m12 (kz gz w j) v8:=ho8.bw fun b c t g hb ht=>by
   by_cases hbm:b=m.n
   ·subst hbm
    rw[hz8]at hb
    cases hb
    simp[aY.ty,aY.jN]at ht
   ·rw[hk12 b hbm,hb]
  have hfl:bY (bs [FG w j v8])=false:=by
   have hne:kz gz w j≠ []:=fun e=>by
    have:=congrArg List.length e
    rw[ky]at this
    have:=Nat.mul_pos hpos.2 hpos.1
    simp at*
    omega
   rcases ho12 with⟨_,h0⟩ |⟨b,cs,rfl,_⟩
   ·exact absurd h0 hne
   ·rfl
  exact⟨.inl hfl,by omega,⟨by have:=hx8.n;omega,fun b hb=>by rw[hk12 b (by omega),hx8.get b hb]⟩,v8,rfl,ho12.mono (by omega)⟩
end Go.Proofs.YtmdfgncoekfgdaaGreatDoor
namespace Go.Proofs.YtmdfgncoekfgdaaGreatDoor
open Go Go.D
set_option maxRecDepth 100000 in
theorem F14{W:Words}{x0 x1:Value}{m:M}{R:List Value->M->Nat->Prop}:dN TE W Tryz.f14 [x0,x1] m R=
(W.ah (an TE .lss 3 x0 (.int .i64 0)) fun a=>aX a
(W.ah (an TE .add 3 x0 (.int .i64 1)) fun b=>W.ah (iO .neg b) fun c=>W.ah (an TE .rem 3 c x1) fun d=>R [d] m m.n)
(W.ah (an TE .rem 3 x0 x1) fun f=>R [f] m m.n)):=by kernel_rfl
end Go.Proofs.YtmdfgncoekfgdaaGreatDoor
namespace Go.Proofs.YtmdfgncoekfgdaaGreatDoor
open Go Go.D
variable {X:aF} {m:M}
def dR(c n:Int):Int:=if c < 0 then(-(c+1))%n else c%n
theorem ko{c n:Int}(hn:0 < n):0<=dR c n/\dR c n < n:=by
 unfold dR
 split
 ·exact⟨Int.emod_nonneg _ (by omega),Int.emod_lt_of_pos _ hn⟩
 ·exact⟨Int.emod_nonneg _ (by omega),Int.emod_lt_of_pos _ hn⟩
def nb(c:Int):Prop:= -9223372036854775808<=c/\c < 9223372036854775808
theorem qi{c n:Int}(hc:nb c)(hn:0 < n){P:Value->Prop}(h:P (.int .i64 (dR c n))):
  ah (an TE .lss 3 (.int .i64 c) (.int .i64 0)) fun v1=>aX v1
   (ah (an TE .add 3 (.int .i64 c) (.int .i64 1)) fun v2=>ah (iO .neg v2) fun v3=>ah (an TE .rem 3 v3 (.int .i64 n)) fun v4=>P v4)
   (ah (an TE .rem 3 (.int .i64 c) (.int .i64 n)) fun v5=>P v5):=by
 obtain⟨h1,h2⟩:=hc
 simp only[aM,aa,aj]
 refine ak (fun hl=>?_) (fun hl=>?_)
 ·have hl:c < 0:=by simpa using hl
  simp only[aG,aa]
  rw[wrap64 (by omega) (by omega),vJ,aa,wrap64 (by omega) (by omega),mZ (by omega),aa]
  have:dR c n=(0-(c+1)).tmod n:=by
   unfold dR
   rw[if_pos hl,Int.tmod_eq_emod_of_nonneg (by omega),Int.zero_sub]
  rw[<-this];exact h
 ·have hl:¬c < 0:=by simpa using hl
  rw[mZ (by omega),aa]
  have:dR c n=c.tmod n:=by
   unfold dR
   rw[if_neg hl,Int.tmod_eq_emod_of_nonneg (by omega)]
  rw[<-this];exact h
theorem sH(hX:dF X){c n:Int}(hc:nb c)(hn:0 < n):C X (.func 14) [.int .i64 c,.int .i64 n] m m.n (.int .i64 (dR c n)) m:=by
 refine Cl.flat (hX.no _ rfl) QA rfl rfl ?_
 rw[F14];dsimp only[aN]
 exact qi hc hn (P:=fun v=>bs [v]=.int .i64 (dR c n)/\m.n<=m.n) ⟨rfl,Nat.le_refl _⟩
def jL(n lo hi:Int):Bool:=decide (lo<=n) && decide (n<=hi)
end Go.Proofs.YtmdfgncoekfgdaaGreatDoor
namespace Go.Proofs.YtmdfgncoekfgdaaGreatDoor
open Go Go.D Go.ChangeShapes
noncomputable def fX(c:Array Value):List Value:=c.toList.map fun v=>bif bL v then v else undef
noncomputable def HD:Option Obj->Ob
 |some (.cells c _ _)=> .ro (fX c)
 |_=> .dead
noncomputable def M9(W:World):Nat->M
 |0=>{st:=.e,n:=0,low:=0}
 |k+1=>(M9 W k).push (HD W.heap[k]?)
theorem Cy(W:World):∀k,(M9 W k).n=k
 |0=>rfl
 |k+1=>by
  show(M9 W k).n+1=k+1
  rw[Cy W k]
theorem Cz(W:World):∀k b,b < k->(M9 W k).get b=HD W.heap[b]?
 |k+1,b,h=>by
  show((M9 W k).push (HD W.heap[k]?)).get b=_
  by_cases hb:b=k
  ·subst hb
   have:=M.aV (m:=M9 W b) (o:=HD W.heap[b]?)
   rw[Cy]at this
   exact this
  ·rw[M.bQ (by rw[Cy];omega)]
   exact Cz W k b (by omega)
noncomputable def ec(W:World):M:=(M9 W W.heap.size).wl W.heap.size
theorem pV(W:World):(ec W).n=W.heap.size:=Cy W _
theorem qI(W:World){b:Nat}(h:b < W.heap.size):(ec W).get b=HD W.heap[b]?:=Cz W _ b h
noncomputable def su(W:World):Sg:=fun b=>if b < W.heap.size then some ⟨b,none⟩else none
theorem jb{W:World}{b:Nat}{i:BI}(h:su W b=some i):b < W.heap.size/\i=⟨b,none⟩:=by
 unfold su at h
 by_cases hb:b < W.heap.size
 ·rw[if_pos hb]at h;cases h;exact⟨hb,rfl⟩
 ·rw[if_neg hb]at h;cases h
theorem yD{W:World}(hW:2 < W.heap.size):dB Tryz.prog (su W) (ec W) W:=by
 refine⟨fun b i hb=>?_,fun b i hb=>?_,fun b i hb=>?_,fun b b' i i' hb hb' _ _ he=>?_,fun g hg=>?_⟩
 ·rw[pV];exact(jb hb).1
 ·obtain⟨h,rfl⟩:=jb hb
  rw[qI W h]
  cases ho:W.heap[b]? with
  |none=>trivial
  |some o=>
   cases o with
   |cells c e fz=>
    refine⟨rfl,c,e,fz,ho,by simp[fX],fun j u u' hu hu' h1=>?_⟩
    have hu2:(fX c)[j]?=some (bif bL u' then u' else undef):=by
     unfold fX
     rw[List.getElem?_map,Array.getElem?_toList,hu']
     rfl
    rw[hu]at hu2
    simp only[Option.some.injEq]at hu2
    subst hu2
    cases hf:bL u' with
    |true=>exact .flat _ hf
    |false=>rw[hf]at h1;cases h1
   |_=>trivial
 ·obtain⟨h,rfl⟩:=jb hb
  exact h
 ·obtain⟨_,rfl⟩:=jb hb
  obtain⟨_,rfl⟩:=jb hb'
  exact he
 ·have hgs:Tryz.prog.globals.size=3:=by kernel_rfl
  rw[hgs]at hg
  unfold su
  rw[if_pos (by omega)]
theorem lY{α:Type}{Q:Nat->α->Prop}:∀n,(∀i,i < n->∃y,Q i y)->∃l:List α,l.length=n/\∀i y,l[i]?=some y->Q i y
 |0,_=>⟨[],rfl,fun i y h=>by simp at h⟩
 |n+1,h=>by
  obtain⟨l,hl,hq⟩:=lY n fun i hi=>h i (by omega)
  obtain⟨y,hy⟩:=h n (by omega)
  refine⟨l++ [y],by simp[hl],fun i z hz=>?_⟩
  by_cases hi:i < n
  ·rw[List.getElem?_append_left (by omega)]at hz
   exact hq i z hz
  ·rw[List.getElem?_append_right (by omega),hl]at hz
   obtain rfl:i=n:=by
    have:=(List.getElem?_eq_some_iff.1 hz).1
    simp at this;omega
   simp at hz
   subst hz
   exact hy
section
variable {H:Type} {enc:TypeId×Value->H} {W:World} {sp:Nat->Bool} {held:Bool} {base:Nat}
set_option maxRecDepth 10000 in
theorem Ax{t e:TypeId}{α:Type}[aY α]{Py:α->Prop}{v:Value}{fuel:Nat}{x:DataW H×List MemPlace}(ht:Tryz.prog.underlying t=some (.slice e))(hce:Tryz.prog.cellsOf e=aY.sz α)
  (hel:∀fuel cs x,DataW.trod enc Tryz.prog W 0 sp held fuel e cs=some x->∃y:α,Py y/\(∀m,aY.rep m y cs)/\∀u∈cs,bL u=true)
  (hok:Cell.okWide Tryz.prog W .any base t v) (h:DataW.trod enc Tryz.prog W 0 sp held fuel t [v]=some x):
  aJ (su W) v v/\∃l:List α,Fz (ec W) l v/\l.length < 9223372036854775808/\∀y∈l,Py y:=by
 rcases DataW.trod_slice ht h with⟨hv,_⟩ |⟨a,len,cap,elems,rest,n,rfl,hv,rfl,hb,hl,hm,hlen,hels,_,_⟩
 ·simp only[List.cons.injEq,and_true]at hv
  subst hv
  exact⟨.flat _ rfl,[],.inl ⟨rfl,rfl⟩,by simp,fun y hy=>by cases hy⟩
 ·simp only[List.cons.injEq,and_true]at hv
  subst hv
  simp only[Cell.okWide,Cell.ok,ht]at hok
  obtain⟨_,_,_,hspot,row,cells,hsh,_⟩:=hok
  obtain⟨bX,off,spt⟩:=a
  dsimp only at hspot hsh hb
  subst hspot
  unfold World.shape? at hsh
  cases ho:W.heap[bX]? with
  |none=>rw[ho]at hsh;cases hsh
  |some o=>
   rw[ho]at hsh
   cases o with
   |cells c e' fz=>
    have hlt:bX < W.heap.size:=(Array.getElem?_eq_some_iff.1 ho).1
    have hsg:su W bX=some ⟨bX,none⟩:=by unfold su;rw[if_pos hlt]
    refine⟨.slice ⟨bX,off,none⟩ ⟨bX,none⟩ len cap hsg rfl rfl,?_⟩
    have hpos:=aY.pos (α:=α)
    obtain⟨l,hll,hq⟩:=lY (Q:=fun i (y:α)=>Py y/\off+i*aY.sz α+aY.sz α<=(fX c).length/\aY.rep (ec W) y (((fX c).drop (off+i*aY.sz α)).take (aY.sz α))) len fun i hi=>by
     have he:=hels i hi
     rw[List.getElem?_eq_getElem (by omega)]at he
     obtain⟨cs',hcs,htr⟩:=Option.bind_eq_some_iff.1 he
     obtain⟨y,hy,hrep,hfl⟩:=hel _ _ _ htr
     obtain⟨_,hcl,hat⟩:=World.cells?_some hcs
     rw[hce]at hcl hat
     have hat':∀j,j < aY.sz α->c[off+i*aY.sz α+j]?=cs'[j]?:=fun j hj=>by
      have:=hat j hj
      rw[D.du,D.du]at this
      rw[<-this]
      simp only[World.cell?,ho]
      rfl
     have hbound:off+i*aY.sz α+aY.sz α<=(fX c).length:=by
      have:=hat' (aY.sz α-1) (by omega)
      rw[List.getElem?_eq_getElem (by omega)]at this
      have:=(Array.getElem?_eq_some_iff.1 this).1
      unfold fX
      rw[List.length_map,Array.length_toList]
      omega
     refine⟨y,hy,hbound,?_⟩
     have:((fX c).drop (off+i*aY.sz α)).take (aY.sz α)=cs':=by
      apply List.ext_getElem?
      intro j
      by_cases hj:j < aY.sz α
      ·rw[List.getElem?_take_of_lt hj,List.getElem?_drop]
       unfold fX
       rw[List.getElem?_map,Array.getElem?_toList,hat' j hj]
       cases hu:cs'[j]? with
       |none=>rfl
       |some u=>
        rw[Option.map_some,hfl u (List.mem_of_getElem? hu)]
        rfl
      ·rw[List.getElem?_eq_none (by rw[List.length_take];omega),List.getElem?_eq_none (by omega)]
     rw[this]
     exact hrep _
    refine⟨l,.inr ⟨bX,off,cap,fX c,by rw[hll],?_,fun i y hi=>⟨(hq i y hi).2.1,(hq i y hi).2.2⟩⟩,?_,fun y hy=>?_⟩
    ·rw[qI W hlt,ho]
     rfl
    ·have:maxLen < 9223372036854775808:=by unfold maxLen;decide
     omega
    ·obtain⟨i,hi⟩:=List.mem_iff_getElem?.1 hy
     exact(hq i y hi).1
   |_=>cases hsh
theorem CJ{t:TypeId}{n:Nat}{cs:List Value}{fuel:Nat}{x:DataW H×List MemPlace}(ht:Tryz.prog.underlying t=some (.array n 3))(hct:Tryz.prog.cellsOf t=n)
  (h:DataW.trod enc Tryz.prog W 0 sp held fuel t cs=some x):∃l:List Int,cs=l.map (.int .i64)/\l.length=n/\∀z∈l,nb z:=by
 obtain⟨xs,m,rfl,rfl,hcl,hxl,hel⟩:=DataW.trod_array ht h
 rw[hct]at hcl
 have h3:Tryz.prog.underlying 3=some (.int .i64):=by kernel_rfl
 have hc3:Tryz.prog.cellsOf 3=1:=by kernel_rfl
 obtain⟨l,hl,hq⟩:=lY (Q:=fun i (z:Int)=>cs[i]?=some (.int .i64 z)/\nb z) n fun i hi=>by
  have:=hel i hi
  rw[hc3,List.getElem?_eq_getElem (by omega)]at this
  obtain⟨z,hz,_,hwf⟩:=DataW.trod_int h3 this
  refine⟨z,?_,?_⟩
  ·have:=congrArg (fun q:List Value=>q[0]?) hz
   simpa[List.getElem?_take_of_lt,List.getElem?_drop]using this
  ·have hmm:IntKind.i64.min= -9223372036854775808/\IntKind.i64.max=9223372036854775807:=⟨by decide,by decide⟩
   simp only[Lit.wf,Bool.and_eq_true,decide_eq_true_eq,hmm]at hwf
   unfold nb
   omega
 refine⟨l,?_,hl,fun z hz=>?_⟩
 ·apply List.ext_getElem?
  intro i
  by_cases hi:i < n
  ·have hz:l[i]?=some l[i]:=List.getElem?_eq_getElem (by omega)
   rw[(hq i _ hz).1,List.getElem?_map,hz]
   rfl
  ·rw[List.getElem?_eq_none (by omega),List.getElem?_eq_none (by rw[List.length_map];omega)]
 ·obtain⟨i,hi⟩:=List.mem_iff_getElem?.1 hz
  exact(hq i z hi).2
end
end Go.Proofs.YtmdfgncoekfgdaaGreatDoor
namespace Go.Proofs.YtmdfgncoekfgdaaGreatDoor
open Go Go.D Go.ChangeShapes
theorem FR:Tryz.prog.underlying 3=some (.int .i64):=by kernel_rfl
theorem MK:Tryz.prog.underlying 4=some .bool:=by kernel_rfl
theorem MI{k:Int}(h:(Lit.int .i64 k).wf=true):nb k:=by
 have hmm:IntKind.i64.min= -9223372036854775808/\IntKind.i64.max=9223372036854775807:=⟨by decide,by decide⟩
 simp only[Lit.wf,Bool.and_eq_true,decide_eq_true_eq,hmm]at h
 unfold nb
 omega
section
variable {H:Type} {enc:TypeId×Value->H} {W:World} {sp:Nat->Bool} {held:Bool} {base:Nat}
set_option maxRecDepth 100000 in
theorem Ic{v:Value}{d:DataW H}{ps:List MemPlace}(hok:Value.okWide Tryz.prog W .any base 3 v)(h:DataW.Trod enc Tryz.prog W 0 sp held 3 v d ps):
  aJ (su W) v v/\∃z,v=.int .i64 z/\nb z:=by
 obtain⟨fuel,h⟩:=h
 obtain⟨z,hz,_,hwf⟩:=DataW.trod_int FR h
 have hv:v=.int .i64 z:=by
  simp only[Value.okWide,FR]at hok
  cases v with
  |agg cs=>
   exfalso
   revert hok
   simp[Cell.okWide,Cell.ok,FR]
  |int k n=>simpa[Value.cells]using hz
  |_=>simp[Value.cells]at hz
 subst hv
 exact⟨aJ.ir rfl,z,rfl,MI hwf⟩
end
theorem zU{X:aF}(hX:cB Tryz.prog X){W:World}(hW:2 < W.heap.size){f:Nat}{args:List Value}{args':Array Value}{m':M}{b:Bool}(h:C X (.func f) args (ec W) (ec W).n (.bool b) m')(hl:aT (su W) args args'.toList):
  Calls Tryz.prog f args' W fun e W'=>e=.returned (.bool b)/\Go.RowKit.Below W.heap.size W W':=by
 obtain⟨hn,_,n0,hc⟩:=h
 have h1:=hc n0 (Nat.le_refl _) (ec W).n (Nat.le_refl _)
 have hsim:dB Tryz.prog (su W) ((ec W).wl (ec W).n) W:=by
  have:=yD hW
  exact⟨this.mV,this.obj,this.lt,this.inj,this.iG⟩
 refine(pJ af.ok hX h1 hsim hl).mono fun e w' he=>?_
 obtain⟨v',σ',rfl,hv,hev⟩:=he
 have hv':=hv.aK rfl
 subst hv'
 refine⟨rfl,hev.os,hev.tape,hev.output,hev.hle,fun B hB=>hev.heap B hB fun b i hb hi=>?_⟩
 have:=(jb hb).1
 show b < min (ec W).n (ec W).n
 rw[pV]
 omega
end Go.Proofs.YtmdfgncoekfgdaaGreatDoor
