/- putlogref41.Plan, Section. -/
import Derived.Test.YtmdfgncoekfgdaaGreatDoorG17J
import Derived.Test.YtmdfgncoekfgdaaGreatDoorG4J
namespace Go.Proofs.YtmdfgncoekfgdaaGreatDoor
open Go Go.D
variable {X:aF} {m:M}
set_option maxRecDepth 100000 in
theorem xE(hX:cW X){l:List UW}{v:Value}(h:dS m l v)(hlen:l.length < 1000000)(c:Int):
  ∃rv m',C X (.func 16) [.agg #[v],.int .i64 c] m m.n rv m'/\Ext m m'/\
   (((cB (bV l)/\0<=c/\c < 40)/\∃v',rv=.tuple #[cF 40 8 v',.int .i64 0]/\Ow m.n m' (cn (fun(i j:Nat)=>fh (dT (bV l) ⟨(i:Int),c⟩) (j:Int)) 40 8) v')\/(¬(cB (bV l)/\0<=c/\c < 40)/\rv=.tuple #[cF 0 0 (.slice none 0 0),.int .i64 410])):=by
 have key:∃rv m' b,C X (.func 16) [.agg #[v],.int .i64 c] m b rv m'/\b=m.n/\Ext m m'/\
   (((cB (bV l)/\0<=c/\c < 40)/\∃v',rv=.tuple #[cF 40 8 v',.int .i64 0]/\Ow m.n m' (cn (fun(i j:Nat)=>fh (dT (bV l) ⟨(i:Int),c⟩) (j:Int)) 40 8) v')\/(¬(cB (bV l)/\0<=c/\c < 40)/\rv=.tuple #[cF 0 0 (.slice none 0 0),.int .i64 410])):=by
  refine Cl.gen (R:=fun rv m' b=>b=m.n/\Ext m m'/\(((cB (bV l)/\0<=c/\c < 40)/\∃v',rv=.tuple #[cF 40 8 v',.int .i64 0]/\Ow m.n m' (cn (fun(i j:Nat)=>fh (dT (bV l) ⟨(i:Int),c⟩) (j:Int)) 40 8) v')\/(¬(cB (bV l)/\0<=c/\c < 40)/\rv=.tuple #[cF 0 0 (.slice none 0 0),.int .i64 410]))) (hX.no _ rfl) OY rfl ?_
  rw[Y5];dsimp only[aI]
  refine au fun m1 hn1 hg1 hk1=>?_
  refine au fun m2 hn2 hg2 hk2=>?_
  have hx2:Ext m m2:=⟨by omega,fun c hc=>by rw[hk2 c (by omega),hk1 c hc]⟩
  have g1:m2.get m.n=.cells [v] 31 none:=by rw[hk2 _ (by omega)];exact hg1
  have ldF:∀mm:M,mm.get m.n=.cells [v] 31 none->ag TE mm 31 (.pointer (some ⟨m.n,0,none⟩))=some (.agg #[v]):=fun mm h=>by rw[cZ,aE h (by simp)];rfl
  unfold ptrTo
  refine bY (fun vs mm lo=>∃b:Bool,vs=[.bool b]/\(b=true↔¬(cB (bV l)/\0<=c/\c < 40))/\m2=mm/\m.n<=lo) (fun R hR=>?_) ?_
  ·rw[ldF m2 g1,aa]
   refine aC (jr hX (h.aB hx2) hlen) ?_
   rw[aX,aa,aj]
   refine ak (fun hb=>?_) (fun hb=>?_)
   ·have hb:¬cB (bV l):=fun hp=>by rw[fM hp]at hb;exact absurd hb (by decide)
    exact hR _ _ _ ⟨true,rfl,by simp[hb],rfl,by omega⟩
   ·have hP:cB (bV l):=kp.1 (by simpa using hb)
    rw[aH,aa,aj]
    refine ak (fun h0=>?_) (fun h0=>?_)
    ·have h0:c < 0:=by simpa using h0
     exact hR _ _ _ ⟨true,rfl,by simp;intro _ _;omega,rfl,by omega⟩
    ·have h0:¬c < 0:=by simpa using h0
     rw[ck,aa]
     exact hR _ _ _ ⟨_,rfl,by simp[hP];omega,rfl,by omega⟩
  rintro _ _ lo6 ⟨bad,rfl,hbad,rfl,hlo6⟩
  rw[aA,aj]
  refine ak (fun hb=>?_) (fun hb=>?_)
  ·have hb:¬(cB (bV l)/\0<=c/\c < 40):=hbad.1 hb
   have bld:aO TE 27 []=some (cF 0 0 (.slice none 0 0)):=fN
   rw[bld,aa]
   refine aD dw hg2 rfl rfl rfl fun m9 hn9 hg9 hk9=>?_
   have e:ag TE m9 27 (.pointer (some ⟨m1.n,0,none⟩))=some (cF 0 0 (.slice none 0 0)):=by rw[bO,aE hg9 (by simp[aP])];rfl
   rw[e,aa]
   exact .inl ⟨rfl,by omega,rfl,.refl,.inr ⟨hb,rfl⟩⟩
  have hok:cB (bV l)/\0<=c/\c < 40:=Classical.byContradiction fun hc=>by rw[hbad.2 hc]at hb;cases hb
  have hP:=hok.1
  rw[eC rfl rfl,aa]
  refine au fun m13 hn13 hg13 hk13=>?_
  obtain⟨oc,hoc⟩:∃oc,oc=m2.n:=⟨_,rfl⟩
  rw[<-hoc]at hg13⊢
  refine aD dw hg13 rfl rfl rfl fun m14 hn14 hg14 hk14=>?_
  have hg14:m14.get oc=.cells [.int .i64 40,.int .i64 8,.slice none 0 0] 27 none:=hg14
  have hx14:Ext m m14:=⟨by omega,fun c hc=>by rw[hk14 c (by omega),hk13 c (by omega),hx2.get c hc]⟩
  have g014:m14.get m.n=.cells [v] 31 none:=by rw[hk14 _ (by omega),hk13 _ (by omega),g1]
  have g214:m14.get m1.n=.cells [.int .i64 0,.int .i64 0,.slice none 0 0] 27 none:=by rw[hk14 _ (by omega),hk13 _ (by omega),hg2]
  have ld0:∀(mm:M) (l:List Int) (v:Value),zz oc 40 8 mm l v->ag TE mm 3 (.pointer (some ⟨oc,0+0,none⟩))=some (.int .i64 40)/\ag TE mm 3 (.pointer (some ⟨oc,0+1,none⟩))=some (.int .i64 8)/\ag TE mm 25 (.pointer (some ⟨oc,0+2,none⟩))=some v:=fun mm l v g=>by
   refine⟨?_,?_,?_⟩
   ·rw[bu,av g.cell];rfl
   ·rw[bu,av g.cell];rfl
   ·rw[ez,av g.cell];rfl
  simp only[bj,bB,bh,aa]
  obtain⟨gz,hgz⟩:∃gz:Nat->Nat->Int,gz=(fun(i j:Nat)=>fh (dT (bV l) ⟨(i:Int),c⟩) (j:Int)):=⟨_,rfl⟩
  refine Lp.intro (γ:=Nat) (fun j=>8-j) (fun j vs mm lo=>∃v8,vs=[.int .i64 j]/\j<=8/\zz oc 40 8 mm (cn gz 40 j) v8/\(∀c,c < oc->mm.get c=m14.get c)/\m14.n<=mm.n/\m.n<=lo) 0 ⟨_,rfl,Nat.zero_le _,⟨hg14,.nil⟩,fun c hc=>rfl,Nat.le_refl _,by omega⟩ ?_
  rintro j vs m18 lo19 ⟨v8,rfl,hj,hgr,hk,hnm,hlo⟩
  rw[aA,(ld0 _ _ _ hgr).2.1,aa,aH,aa,aj]
  refine ak (fun hlt=>?_) (fun hge=>?_)
  ·have hlt:j < 8:=by
    have:(j:Int)< 8:=by simpa using hlt
    omega
   refine Lp.intro (γ:=Nat) (fun i=>40-i) (fun i vs mm lo=>∃v9,vs=[.int .i64 i]/\i<=40/\zz oc 40 8 mm (cn gz 40 j++iM gz i j) v9/\(∀c,c < oc->mm.get c=m14.get c)/\m14.n<=mm.n/\m.n<=lo) 0 ⟨v8,rfl,Nat.zero_le _,by simpa[iM]using hgr,hk,hnm,hlo⟩ ?_
   rintro i vs m27 lo28 ⟨v9,rfl,hi,hgr9,hk9,hnm9,hlo9⟩
   rw[aA,(ld0 _ _ _ hgr9).1,aa,aH,aa,aj]
   refine ak (fun hlt2=>?_) (fun hge2=>?_)
   ·have hlt2:i < 40:=by
     have:(i:Int)< 40:=by simpa using hlt2
     omega
    have hx27:Ext m m27:=⟨by omega,fun c hc=>by rw[hk9 c (by omega),hx14.get c hc]⟩
    have g027:m27.get m.n=.cells [v] 31 none:=by rw[hk9 _ (by omega),g014]
    have hF27:=h.aB hx27
    have hsz:(cn gz 40 j++iM gz i j).length < 268435456:=by
     rw[List.length_append,cy,jq]
     omega
    rw[(ld0 _ _ _ hgr9).2.2,aa,ldF m27 g027,aa]
    obtain⟨rv,m39,hc39,hx39,ho39⟩:=jS (m:=m27) hX hF27 hlen (i:Int) c
    refine aC hc39 ⟨Nat.le_refl _,?_⟩
    have hF39:=hF27.aB hx39
    have n39:=hx39.n
    refine aC (Cb hX (qW hF39 ho39) (by
                             have:(dT (bV l) ⟨(i:Int),c⟩).length<=(bV l).length:=List.length_filter_le _ _
                             rw[dY]at this;omega) (j:Int)) ⟨Nat.le_refl _,?_⟩
    have hn:fh (dT (bV l) ⟨(i:Int),c⟩) (j:Int)=gz i j:=by rw[hgz]
    rw[hn]
    obtain⟨m45,a,v1,m47,m1',e1,e2,e3,e4,e5,e6,e7⟩:=iZ (gz i j) (hgr9.aB hx39) hsz
    rw[e1,ar,e2,ar,e3,ar,aG,aa,wrap64 (by omega) (by omega)]
    exact⟨i+1,by omega,v1,rfl,by omega,by rw[gF,<-List.append_assoc];exact e5,fun c hc=>by rw[e6 c hc,hx39.get c (by omega),hk9 c hc],by omega,by omega⟩
   ·have hi':i=40:=by
     have:¬(i:Int)< 40:=by simpa using hge2
     omega
    subst hi'
    rw[aG,aa,wrap64 (by omega) (by omega)]
    exact⟨j+1,by omega,v9,rfl,by omega,by rw[gK];exact hgr9,hk9,hnm9,hlo9⟩
  ·have hj':j=8:=by
    have:¬(j:Int)< 8:=by simpa using hge
    omega
   subst hj'
   have e:ag TE m18 27 (.pointer (some ⟨oc,0,none⟩))=some (cF 40 8 v8):=by rw[bO,aE hgr.cell (by simp)];rfl
   have g2:m18.get m1.n=.cells [.int .i64 0,.int .i64 0,.slice none 0 0] 27 none:=by rw[hk _ (by omega),g214]
   rw[e,aa]
   refine aD dw g2 rfl rfl (by show(true && (true && (one v8 && true)))=true;rw[hgr.ow.sl.one];rfl) fun m71 hn71 hg71 hk71=>?_
   have e2:ag TE m71 27 (.pointer (some ⟨m1.n,0,none⟩))=some (cF 40 8 v8):=by rw[bO,aE hg71 (by simp[aP])];rfl
   rw[e2,aa]
   have ho:Ow (oc+1) m71 (cn gz 40 8) v8:=hgr.ow.bt fun b c t g hb ht=>by
    by_cases hbm:b=m1.n
    ·subst hbm
     rw[g2]at hb
     cases hb
     simp[aL.ty,aL.fR]at ht
    ·rw[hk71 b hbm,hb]
   rw[hgz]at ho
   refine .inr ⟨.inl ?_,by omega,⟨by omega,fun c hc=>by rw[hk71 c (by omega),hk c (by omega),hx14.get c hc]⟩,.inl ⟨hok,v8,rfl,ho.mono (by omega)⟩⟩
   rcases ho with⟨_,h0⟩ |⟨b,cs,rfl,_⟩
   ·have:=congrArg List.length h0
    rw[cy]at this
    simp at this
   ·simp[aR,bD,eV,bP,cF]
 obtain⟨rv,m',b,hc,rfl,h1,h2⟩:=key
 exact⟨rv,m',hc,h1,h2⟩
set_option maxRecDepth 100000 in
theorem qg(hX:cW X){l:List UW}{v:Value}(h:dS m l v)(hlen:l.length < 1000000)(c:Int):
  ∃rv m',C X (.func 18) [.agg #[v],.int .i64 c] m m.n rv m'/\Ext m m'/\
   (((cB (bV l)/\0<=c/\c < 40)/\∃v',rv=.tuple #[cF 8 40 v',.int .i64 0]/\Ow m.n m' (cn (fun(i j:Nat)=>fh (dT (bV l) ⟨c,(j:Int)⟩) (i:Int)) 8 40) v')\/(¬(cB (bV l)/\0<=c/\c < 40)/\rv=.tuple #[cF 0 0 (.slice none 0 0),.int .i64 410])):=by
 have key:∃rv m' b,C X (.func 18) [.agg #[v],.int .i64 c] m b rv m'/\b=m.n/\Ext m m'/\
   (((cB (bV l)/\0<=c/\c < 40)/\∃v',rv=.tuple #[cF 8 40 v',.int .i64 0]/\Ow m.n m' (cn (fun(i j:Nat)=>fh (dT (bV l) ⟨c,(j:Int)⟩) (i:Int)) 8 40) v')\/(¬(cB (bV l)/\0<=c/\c < 40)/\rv=.tuple #[cF 0 0 (.slice none 0 0),.int .i64 410])):=by
  refine Cl.gen (R:=fun rv m' b=>b=m.n/\Ext m m'/\(((cB (bV l)/\0<=c/\c < 40)/\∃v',rv=.tuple #[cF 8 40 v',.int .i64 0]/\Ow m.n m' (cn (fun(i j:Nat)=>fh (dT (bV l) ⟨c,(j:Int)⟩) (i:Int)) 8 40) v')\/(¬(cB (bV l)/\0<=c/\c < 40)/\rv=.tuple #[cF 0 0 (.slice none 0 0),.int .i64 410]))) (hX.no _ rfl) OX rfl ?_
  rw[Y4];dsimp only[aI]
  refine au fun m1 hn1 hg1 hk1=>?_
  refine au fun m2 hn2 hg2 hk2=>?_
  have hx2:Ext m m2:=⟨by omega,fun c hc=>by rw[hk2 c (by omega),hk1 c hc]⟩
  have g1:m2.get m.n=.cells [v] 31 none:=by rw[hk2 _ (by omega)];exact hg1
  have ldF:∀mm:M,mm.get m.n=.cells [v] 31 none->ag TE mm 31 (.pointer (some ⟨m.n,0,none⟩))=some (.agg #[v]):=fun mm h=>by rw[cZ,aE h (by simp)];rfl
  unfold ptrTo
  refine bY (fun vs mm lo=>∃b:Bool,vs=[.bool b]/\(b=true↔¬(cB (bV l)/\0<=c/\c < 40))/\m2=mm/\m.n<=lo) (fun R hR=>?_) ?_
  ·rw[ldF m2 g1,aa]
   refine aC (jr hX (h.aB hx2) hlen) ?_
   rw[aX,aa,aj]
   refine ak (fun hb=>?_) (fun hb=>?_)
   ·have hb:¬cB (bV l):=fun hp=>by rw[fM hp]at hb;exact absurd hb (by decide)
    exact hR _ _ _ ⟨true,rfl,by simp[hb],rfl,by omega⟩
   ·have hP:cB (bV l):=kp.1 (by simpa using hb)
    rw[aH,aa,aj]
    refine ak (fun h0=>?_) (fun h0=>?_)
    ·have h0:c < 0:=by simpa using h0
     exact hR _ _ _ ⟨true,rfl,by simp;intro _ _;omega,rfl,by omega⟩
    ·have h0:¬c < 0:=by simpa using h0
     rw[ck,aa]
     exact hR _ _ _ ⟨_,rfl,by simp[hP];omega,rfl,by omega⟩
  rintro _ _ lo6 ⟨bad,rfl,hbad,rfl,hlo6⟩
  rw[aA,aj]
  refine ak (fun hb=>?_) (fun hb=>?_)
  ·have hb:¬(cB (bV l)/\0<=c/\c < 40):=hbad.1 hb
   have bld:aO TE 27 []=some (cF 0 0 (.slice none 0 0)):=fN
   rw[bld,aa]
   refine aD dw hg2 rfl rfl rfl fun m9 hn9 hg9 hk9=>?_
   have e:ag TE m9 27 (.pointer (some ⟨m1.n,0,none⟩))=some (cF 0 0 (.slice none 0 0)):=by rw[bO,aE hg9 (by simp[aP])];rfl
   rw[e,aa]
   exact .inl ⟨rfl,by omega,rfl,.refl,.inr ⟨hb,rfl⟩⟩
  have hok:cB (bV l)/\0<=c/\c < 40:=Classical.byContradiction fun hc=>by rw[hbad.2 hc]at hb;cases hb
  have hP:=hok.1
  rw[eC rfl rfl,aa]
  refine au fun m13 hn13 hg13 hk13=>?_
  obtain⟨oc,hoc⟩:∃oc,oc=m2.n:=⟨_,rfl⟩
  rw[<-hoc]at hg13⊢
  refine aD dw hg13 rfl rfl rfl fun m14 hn14 hg14 hk14=>?_
  have hg14:m14.get oc=.cells [.int .i64 8,.int .i64 40,.slice none 0 0] 27 none:=hg14
  have hx14:Ext m m14:=⟨by omega,fun c hc=>by rw[hk14 c (by omega),hk13 c (by omega),hx2.get c hc]⟩
  have g014:m14.get m.n=.cells [v] 31 none:=by rw[hk14 _ (by omega),hk13 _ (by omega),g1]
  have g214:m14.get m1.n=.cells [.int .i64 0,.int .i64 0,.slice none 0 0] 27 none:=by rw[hk14 _ (by omega),hk13 _ (by omega),hg2]
  have ld0:∀(mm:M) (l:List Int) (v:Value),zz oc 8 40 mm l v->ag TE mm 3 (.pointer (some ⟨oc,0+0,none⟩))=some (.int .i64 8)/\ag TE mm 3 (.pointer (some ⟨oc,0+1,none⟩))=some (.int .i64 40)/\ag TE mm 25 (.pointer (some ⟨oc,0+2,none⟩))=some v:=fun mm l v g=>by
   refine⟨?_,?_,?_⟩
   ·rw[bu,av g.cell];rfl
   ·rw[bu,av g.cell];rfl
   ·rw[ez,av g.cell];rfl
  simp only[bj,bB,bh,aa]
  obtain⟨gz,hgz⟩:∃gz:Nat->Nat->Int,gz=(fun(i j:Nat)=>fh (dT (bV l) ⟨c,(j:Int)⟩) (i:Int)):=⟨_,rfl⟩
  refine Lp.intro (γ:=Nat) (fun j=>40-j) (fun j vs mm lo=>∃v8,vs=[.int .i64 j]/\j<=40/\zz oc 8 40 mm (cn gz 8 j) v8/\(∀c,c < oc->mm.get c=m14.get c)/\m14.n<=mm.n/\m.n<=lo) 0 ⟨_,rfl,Nat.zero_le _,⟨hg14,.nil⟩,fun c hc=>rfl,Nat.le_refl _,by omega⟩ ?_
  rintro j vs m18 lo19 ⟨v8,rfl,hj,hgr,hk,hnm,hlo⟩
  rw[aA,(ld0 _ _ _ hgr).2.1,aa,aH,aa,aj]
  refine ak (fun hlt=>?_) (fun hge=>?_)
  ·have hlt:j < 40:=by
    have:(j:Int)< 40:=by simpa using hlt
    omega
   refine Lp.intro (γ:=Nat) (fun i=>8-i) (fun i vs mm lo=>∃v9,vs=[.int .i64 i]/\i<=8/\zz oc 8 40 mm (cn gz 8 j++iM gz i j) v9/\(∀c,c < oc->mm.get c=m14.get c)/\m14.n<=mm.n/\m.n<=lo) 0 ⟨v8,rfl,Nat.zero_le _,by simpa[iM]using hgr,hk,hnm,hlo⟩ ?_
   rintro i vs m27 lo28 ⟨v9,rfl,hi,hgr9,hk9,hnm9,hlo9⟩
   rw[aA,(ld0 _ _ _ hgr9).1,aa,aH,aa,aj]
   refine ak (fun hlt2=>?_) (fun hge2=>?_)
   ·have hlt2:i < 8:=by
     have:(i:Int)< 8:=by simpa using hlt2
     omega
    have hx27:Ext m m27:=⟨by omega,fun c hc=>by rw[hk9 c (by omega),hx14.get c hc]⟩
    have g027:m27.get m.n=.cells [v] 31 none:=by rw[hk9 _ (by omega),g014]
    have hF27:=h.aB hx27
    have hsz:(cn gz 8 j++iM gz i j).length < 268435456:=by
     rw[List.length_append,cy,jq]
     omega
    rw[(ld0 _ _ _ hgr9).2.2,aa,ldF m27 g027,aa]
    obtain⟨rv,m39,hc39,hx39,ho39⟩:=jS (m:=m27) hX hF27 hlen c (j:Int)
    refine aC hc39 ⟨Nat.le_refl _,?_⟩
    have hF39:=hF27.aB hx39
    have n39:=hx39.n
    refine aC (Cb hX (qW hF39 ho39) (by
                             have:(dT (bV l) ⟨c,(j:Int)⟩).length<=(bV l).length:=List.length_filter_le _ _
                             rw[dY]at this;omega) (i:Int)) ⟨Nat.le_refl _,?_⟩
    have hn:fh (dT (bV l) ⟨c,(j:Int)⟩) (i:Int)=gz i j:=by rw[hgz]
    rw[hn]
    obtain⟨m45,a,v1,m47,m1',e1,e2,e3,e4,e5,e6,e7⟩:=iZ (gz i j) (hgr9.aB hx39) hsz
    rw[e1,ar,e2,ar,e3,ar,aG,aa,wrap64 (by omega) (by omega)]
    exact⟨i+1,by omega,v1,rfl,by omega,by rw[gF,<-List.append_assoc];exact e5,fun c hc=>by rw[e6 c hc,hx39.get c (by omega),hk9 c hc],by omega,by omega⟩
   ·have hi':i=8:=by
     have:¬(i:Int)< 8:=by simpa using hge2
     omega
    subst hi'
    rw[aG,aa,wrap64 (by omega) (by omega)]
    exact⟨j+1,by omega,v9,rfl,by omega,by rw[gK];exact hgr9,hk9,hnm9,hlo9⟩
  ·have hj':j=40:=by
    have:¬(j:Int)< 40:=by simpa using hge
    omega
   subst hj'
   have e:ag TE m18 27 (.pointer (some ⟨oc,0,none⟩))=some (cF 8 40 v8):=by rw[bO,aE hgr.cell (by simp)];rfl
   have g2:m18.get m1.n=.cells [.int .i64 0,.int .i64 0,.slice none 0 0] 27 none:=by rw[hk _ (by omega),g214]
   rw[e,aa]
   refine aD dw g2 rfl rfl (by show(true && (true && (one v8 && true)))=true;rw[hgr.ow.sl.one];rfl) fun m71 hn71 hg71 hk71=>?_
   have e2:ag TE m71 27 (.pointer (some ⟨m1.n,0,none⟩))=some (cF 8 40 v8):=by rw[bO,aE hg71 (by simp[aP])];rfl
   rw[e2,aa]
   have ho:Ow (oc+1) m71 (cn gz 8 40) v8:=hgr.ow.bt fun b c t g hb ht=>by
    by_cases hbm:b=m1.n
    ·subst hbm
     rw[g2]at hb
     cases hb
     simp[aL.ty,aL.fR]at ht
    ·rw[hk71 b hbm,hb]
   rw[hgz]at ho
   refine .inr ⟨.inl ?_,by omega,⟨by omega,fun c hc=>by rw[hk71 c (by omega),hk c (by omega),hx14.get c hc]⟩,.inl ⟨hok,v8,rfl,ho.mono (by omega)⟩⟩
   rcases ho with⟨_,h0⟩ |⟨b,cs,rfl,_⟩
   ·have:=congrArg List.length h0
    rw[cy]at this
    simp at this
   ·simp[aR,bD,eV,bP,cF]
 obtain⟨rv,m',b,hc,rfl,h1,h2⟩:=key
 exact⟨rv,m',hc,h1,h2⟩
end Go.Proofs.YtmdfgncoekfgdaaGreatDoor
namespace Go.Proofs.YtmdfgncoekfgdaaGreatDoor
open Go Go.D
variable {X:aF} {m:M}
theorem JC{us:List Un}(h:¬cB us):gM us=false:=jz h
theorem JG(hX:cW X){l:List UW}{v:Value}(h:dS m l v)(hlen:l.length < 1000000)(hP:¬cB (bV l))(behind:Bool):
  C X (.func 11) [.agg #[v],.bool behind] m m.n (.tuple #[cF 0 0 (.slice none 0 0),.int .i64 410]) m:=by
 refine Cl.flat (hX.no _ rfl) KD rfl (by kernel_rfl) ?_
 rw[VY];dsimp only[aI]
 refine au fun m1 hn1 hg1 hk1=>?_
 refine au fun m2 hn2 hg2 hk2=>?_
 have hx2:Ext m m2:=⟨by omega,fun c hc=>by rw[hk2 c (by omega),hk1 c hc]⟩
 have g1:m2.get m.n=.cells [v] 31 none:=by rw[hk2 _ (by omega)];exact hg1
 have ld:ag TE m2 31 (.pointer (some ⟨m.n,0,none⟩))=some (.agg #[v]):=by rw[cZ,aE g1 (by simp)];rfl
 unfold ptrTo
 rw[ld,aa]
 refine aC (je hX (h.aB hx2) hlen) ?_
 have bld:aO TE 27 []=some (cF 0 0 (.slice none 0 0)):=fN
 rw[JC hP,aX,aa,aj,Bool.not_false,bJ,bld,aa]
 refine aD dw hg2 rfl rfl rfl fun m9 hn9 hg9 hk9=>?_
 have e:ag TE m9 27 (.pointer (some ⟨m1.n,0,none⟩))=some (cF 0 0 (.slice none 0 0)):=by rw[bO,aE hg9 (by simp[aP])];rfl
 rw[e,aa]
 exact⟨rfl,by omega⟩
theorem Jg(hX:cW X){l:List UW}{v:Value}(h:dS m l v)(hlen:l.length < 1000000){c:Int}(hP:¬(cB (bV l)/\0<=c/\c < 40)):
  C X (.func 15) [.agg #[v],.int .i64 c] m m.n (.tuple #[cF 0 0 (.slice none 0 0),.int .i64 410]) m:=by
 refine Cl.flat (hX.no _ rfl) KC rfl (by kernel_rfl) ?_
 rw[VX];dsimp only[aI]
 refine au fun m1 hn1 hg1 hk1=>?_
 refine au fun m2 hn2 hg2 hk2=>?_
 refine au fun m3 hn3 hg3 hk3=>?_
 have hx3:Ext m m3:=⟨by omega,fun c hc=>by rw[hk3 c (by omega),hk2 c (by omega),hk1 c hc]⟩
 have g0:m3.get m.n=.cells [v] 31 none:=by rw[hk3 _ (by omega),hk2 _ (by omega)];exact hg1
 have gc:m3.get m1.n=.cells [.int .i64 c] 3 none:=by rw[hk3 _ (by omega)];exact hg2
 unfold ptrTo
 have ld:ag TE m3 31 (.pointer (some ⟨m.n,0,none⟩))=some (.agg #[v]):=by rw[cZ,aE g0 (by simp)];rfl
 have ldc:ag TE m3 3 (.pointer (some ⟨m1.n,0,none⟩))=some (.int .i64 c):=by rw[bu,av gc];rfl
 refine bY (fun vs mm lo=>vs=[.bool true]/\m3=mm/\m.n<=lo) (fun R hR=>?_) ?_
 ·rw[ld,aa]
  refine aC (je hX (h.aB hx3) hlen) ?_
  rw[aX,aa,aj]
  refine ak (fun hb=>hR _ _ _ ⟨rfl,rfl,by omega⟩) (fun hb=>?_)
  have hF:cB (bV l):=kp.1 (by simpa using hb)
  rw[ldc,aa]
  refine aC (gy hX _ _ _) ?_
  have:eA c 0 39=false:=by
   unfold eA
   cases h1:decide (0<=c)with
   |false=>rfl
   |true=>
    have h1:0<=c:=by simpa using h1
    rw[Bool.true_and,decide_eq_false_iff_not]
    intro h2
    exact hP ⟨hF,h1,by omega⟩
  rw[this,aX,aa]
  exact hR _ _ _ ⟨rfl,rfl,by omega⟩
 rintro _ _ lo7 ⟨rfl,rfl,hlo7⟩
 have bld:aO TE 27 []=some (cF 0 0 (.slice none 0 0)):=fN
 rw[aA,aj,bJ,bld,aa]
 refine aD dw hg3 rfl rfl rfl fun m9 hn9 hg9 hk9=>?_
 have e:ag TE m9 27 (.pointer (some ⟨m2.n,0,none⟩))=some (cF 0 0 (.slice none 0 0)):=by rw[bO,aE hg9 (by simp[aP])];rfl
 rw[e,aa]
 exact⟨rfl,by omega⟩
theorem zQ(hX:cW X){l:List UW}{v:Value}(h:dS m l v)(hlen:l.length < 1000000){c:Int}(hP:¬(cB (bV l)/\0<=c/\c < 40)):
  C X (.func 17) [.agg #[v],.int .i64 c] m m.n (.tuple #[cF 0 0 (.slice none 0 0),.int .i64 410]) m:=by
 refine Cl.flat (hX.no _ rfl) KB rfl (by kernel_rfl) ?_
 rw[VW];dsimp only[aI]
 refine au fun m1 hn1 hg1 hk1=>?_
 refine au fun m2 hn2 hg2 hk2=>?_
 refine au fun m3 hn3 hg3 hk3=>?_
 have hx3:Ext m m3:=⟨by omega,fun c hc=>by rw[hk3 c (by omega),hk2 c (by omega),hk1 c hc]⟩
 have g0:m3.get m.n=.cells [v] 31 none:=by rw[hk3 _ (by omega),hk2 _ (by omega)];exact hg1
 have gc:m3.get m1.n=.cells [.int .i64 c] 3 none:=by rw[hk3 _ (by omega)];exact hg2
 unfold ptrTo
 have ld:ag TE m3 31 (.pointer (some ⟨m.n,0,none⟩))=some (.agg #[v]):=by rw[cZ,aE g0 (by simp)];rfl
 have ldc:ag TE m3 3 (.pointer (some ⟨m1.n,0,none⟩))=some (.int .i64 c):=by rw[bu,av gc];rfl
 refine bY (fun vs mm lo=>vs=[.bool true]/\m3=mm/\m.n<=lo) (fun R hR=>?_) ?_
 ·rw[ld,aa]
  refine aC (je hX (h.aB hx3) hlen) ?_
  rw[aX,aa,aj]
  refine ak (fun hb=>hR _ _ _ ⟨rfl,rfl,by omega⟩) (fun hb=>?_)
  have hF:cB (bV l):=kp.1 (by simpa using hb)
  rw[ldc,aa]
  refine aC (gy hX _ _ _) ?_
  have:eA c 0 39=false:=by
   unfold eA
   cases h1:decide (0<=c)with
   |false=>rfl
   |true=>
    have h1:0<=c:=by simpa using h1
    rw[Bool.true_and,decide_eq_false_iff_not]
    intro h2
    exact hP ⟨hF,h1,by omega⟩
  rw[this,aX,aa]
  exact hR _ _ _ ⟨rfl,rfl,by omega⟩
 rintro _ _ lo7 ⟨rfl,rfl,hlo7⟩
 have bld:aO TE 27 []=some (cF 0 0 (.slice none 0 0)):=fN
 rw[aA,aj,bJ,bld,aa]
 refine aD dw hg3 rfl rfl rfl fun m9 hn9 hg9 hk9=>?_
 have e:ag TE m9 27 (.pointer (some ⟨m2.n,0,none⟩))=some (cF 0 0 (.slice none 0 0)):=by rw[bO,aE hg9 (by simp[aP])];rfl
 rw[e,aa]
 exact⟨rfl,by omega⟩
end Go.Proofs.YtmdfgncoekfgdaaGreatDoor
namespace Go.Proofs.YtmdfgncoekfgdaaGreatDoor
open Go Go.D
variable {X:aF} {m:M}
def Ry(m':M)(r:Value)(w h:Int)(cs:List Int)(e:Int):Prop:=∃v',r=.tuple #[cF w h v',.int .i64 e]/\Sl m' cs v'
def mc(X:aF)(f:Nat)(args:List Value)(m:M)(w h:Int)(cs:List Int)(e:Int):Prop:=∃r m',C X (.func f) args m m.n r m'/\Ext m m'/\Ry m' r w h cs e
def QP(m':M)(r:Value)(ps:List Pl)(e:Int):Prop:=∃v',r=.tuple #[v',.int .i64 e]/\Sl m' ps v'
def Cj(X:aF)(f:Nat)(args:List Value)(m:M)(ps:List Pl)(e:Int):Prop:=∃r m',C X (.func f) args m m.n r m'/\Ext m m'/\QP m' r ps e
theorem mc.mk{f:Nat}{args:List Value}{w h e:Int}{cs:List Int}{v':Value}{m':M}(hc:C X (.func f) args m m.n (.tuple #[cF w h v',.int .i64 e]) m')(hx:Ext m m')(hs:Sl m' cs v'):mc X f args m w h cs e:=⟨_,m',hc,hx,v',rfl,hs⟩
theorem Cj.mk{f:Nat}{args:List Value}{e:Int}{ps:List Pl}{v':Value}{m':M}(hc:C X (.func f) args m m.n (.tuple #[v',.int .i64 e]) m')(hx:Ext m m')(hs:Sl m' ps v'):Cj X f args m ps e:=⟨_,m',hc,hx,v',rfl,hs⟩
theorem O6(hX:cW X){l:List UW}(hlen:l.length < 1000000)(behind:Bool):∃(w h:Int) (cs:List Int) (e:Int),cs.length<=1600/\∀(m:M) (v:Value),dS m l v->
  mc X 11 [.agg #[v],.bool behind] m w h cs e/\mc X 12 [.agg #[v],.bool behind] m w h cs e:=by
 by_cases hP:cB (bV l)
 ·refine⟨40,40,cJ (bV l) behind,0,by unfold cJ;rw[cy];decide,fun m v h=>⟨?_,?_⟩⟩
  ·obtain⟨v',m',hc,hx,ho⟩:=JF hX h hP behind
   exact .mk hc hx ho.sl
  ·obtain⟨rv,m',hc,hx,⟨_,v',rfl,ho⟩ |⟨hn,_⟩⟩:=xK hX h hlen behind
   ·exact .mk hc hx ho.sl
   ·exact absurd hP hn
 ·refine⟨0,0,[],410,by simp,fun m v h=>⟨.mk (JG hX h hlen hP behind) .refl .nil,?_⟩⟩
  obtain⟨rv,m',hc,hx,⟨hy,_⟩ |⟨_,rfl⟩⟩:=xK hX h hlen behind
  ·exact absurd hy hP
  ·exact .mk hc hx .nil
theorem NX(hX:cW X){l:List UW}(hlen:l.length < 1000000)(c:Int):∃(w h:Int) (cs:List Int) (e:Int),cs.length<=1600/\∀(m:M) (v:Value),dS m l v->
  mc X 15 [.agg #[v],.int .i64 c] m w h cs e/\mc X 16 [.agg #[v],.int .i64 c] m w h cs e:=by
 by_cases hP:cB (bV l)/\0<=c/\c < 40
 ·refine⟨40,8,cn (fun(i j:Nat)=>fh (dT (bV l) ⟨(i:Int),c⟩) (j:Int)) 40 8,0,by rw[cy];decide,fun m v h=>⟨?_,?_⟩⟩
  ·obtain⟨v',m',hc,hx,ho⟩:=Jf (c:=c) hX h hP.1 ⟨hP.2.1,by omega⟩
   exact .mk hc hx ho.sl
  ·obtain⟨rv,m',hc,hx,⟨_,v',rfl,ho⟩ |⟨hn,_⟩⟩:=xE hX h hlen c
   ·exact .mk hc hx ho.sl
   ·exact absurd hP hn
 ·refine⟨0,0,[],410,by simp,fun m v h=>⟨.mk (Jg hX h hlen hP) .refl .nil,?_⟩⟩
  obtain⟨rv,m',hc,hx,⟨hy,_⟩ |⟨_,rfl⟩⟩:=xE hX h hlen c
  ·exact absurd hy hP
  ·exact .mk hc hx .nil
theorem NV(hX:cW X){l:List UW}(hlen:l.length < 1000000)(c:Int):∃(w h:Int) (cs:List Int) (e:Int),cs.length<=1600/\∀(m:M) (v:Value),dS m l v->
  mc X 17 [.agg #[v],.int .i64 c] m w h cs e/\mc X 18 [.agg #[v],.int .i64 c] m w h cs e:=by
 by_cases hP:cB (bV l)/\0<=c/\c < 40
 ·refine⟨8,40,cn (fun(i j:Nat)=>fh (dT (bV l) ⟨c,(j:Int)⟩) (i:Int)) 8 40,0,by rw[cy];decide,fun m v h=>⟨?_,?_⟩⟩
  ·obtain⟨v',m',hc,hx,ho⟩:=zP (c:=c) hX h hP.1 ⟨hP.2.1,by omega⟩
   exact .mk hc hx ho.sl
  ·obtain⟨rv,m',hc,hx,⟨_,v',rfl,ho⟩ |⟨hn,_⟩⟩:=qg hX h hlen c
   ·exact .mk hc hx ho.sl
   ·exact absurd hP hn
 ·refine⟨0,0,[],410,by simp,fun m v h=>⟨.mk (zQ hX h hlen hP) .refl .nil,?_⟩⟩
  obtain⟨rv,m',hc,hx,⟨hy,_⟩ |⟨_,rfl⟩⟩:=qg hX h hlen c
  ·exact absurd hy hP
  ·exact .mk hc hx .nil
theorem Ym(hX:cW X){w h:Nat}{l:List Int}(hv:gx w h l=true){w' h':Int}{l':List Int}(hb':l'.length < 4611686018427387904):∃(ps:List Pl) (e:Int),ps.length<=1600/\∀(m:M) (v v':Value),iV m l v->iV m l' v'->
  Cj X 21 [cF w h v,cF w' h' v'] m ps e/\Cj X 22 [cF w h v,cF w' h' v'] m ps e:=by
 obtain⟨w1,w40,h1,h40,hlen, -⟩:=e9 hv
 have hwh:w*h<=40*40:=Nat.mul_le_mul w40 h40
 by_cases hq:gx w h l=true/\gx w' h' l'=true/\(w:Int)=w'/\(h:Int)=h'
 ·obtain⟨-,hd,rfl,rfl⟩:=hq
  refine⟨dB w l l' l.length,0,by have:=iT (w:=w) (l:=l) (l':=l') l.length;omega,fun m v v' h1 h2=>⟨?_,?_⟩⟩
  ·obtain⟨r,m',hc,hx,ho⟩:=zj hX h1 h2 hv hd
   exact .mk hc hx ho.sl
  ·obtain⟨r,m',hc,hx,ho⟩:=xL hX h1 h2 hv hd
   exact .mk hc hx ho.sl
 ·exact⟨[],410,by simp,fun m v v' h1 h2=>⟨.mk (AT hX h1 h2 (by omega) hb' hq) .refl .nil,.mk (xM hX h1 h2 (by omega) hb' hq) .refl .nil⟩⟩
theorem Yk(hX:cW X)(hS:EI X){w h:Int}{l:List Int}(hb:l.length<=1000):∃(t:List UInt8) (e:Int),t.length<=2*l.length+40/\(∀(m:M) (v:Value),iV m l v->(gx w h l=true->KJ m l v)->C X (.func 23) [cF w h v] m m.n (.tuple #[str t,.int .i64 e]) m)/\
  ∀(m:M) (v:Value),iV m l v->C X (.func 24) [cF w h v] m m.n (.tuple #[str t,.int .i64 e]) m:=by
 cases hd:gx w h l with
 |false=>exact⟨[],410,by simp,fun m v h1 _=>Gg hX hd h1 (by omega),fun m v h1=>tQ hX hd h1 (by omega)⟩
 |true=>
  have hd':=hd
  simp only[gx,eA,Bool.and_eq_true,decide_eq_true_eq]at hd'
  obtain⟨⟨⟨⟨a1,a2⟩,b1,b2⟩, -⟩, -⟩:=hd'
  obtain⟨w,rfl⟩:∃w0:Nat,w=w0:=⟨w.toNat,by omega⟩
  obtain⟨h,rfl⟩:∃h0:Nat,h=h0:=⟨h.toNat,by omega⟩
  obtain⟨w1,w40,h1,h40,hlen, -⟩:=e9 hd
  refine⟨dJ w h l,0,?_,fun m v h1 h2=>Dj hX hS hd (h2 rfl),fun m v h1=>tP hX hd h1⟩
  rw[mr hlen,hlen]
  have:h*(2*w+1)=2*(w*h)+h:=by rw[Nat.mul_add,Nat.mul_one,Nat.mul_comm w h,Nat.mul_left_comm]
  omega
theorem QB(hX:cW X)(hS:EI X){s:List UInt8}(hs:s.length<=1000):∃(w h:Int) (cs:List Int) (e:Int),cs.length<=1600/\∀m:M,mc X 28 [str s] m w h cs e/\mc X 29 [str s] m w h cs e:=by
 cases hp:fD s with
 |none=>
  refine⟨0,0,[],410,by simp,fun m=>⟨?_,?_⟩⟩
  ·obtain⟨r,m',hc,hx,hr⟩:=xT (m:=m) (s:=s) hX hS (by omega)
   unfold eE at hr
   rw[hp]at hr
   have hr:r=.tuple #[An,.int .i64 410]:=hr
   subst hr
   exact .mk (v':=.slice none 0 0) hc hx .nil
  ·obtain⟨r,m',hc,hx,hr⟩:=tR (m:=m) (s:=s) hX (by omega)
   unfold eE at hr
   rw[hp]at hr
   have hr:r=.tuple #[An,.int .i64 410]:=hr
   subst hr
   exact .mk (v':=.slice none 0 0) hc hx .nil
 |some p=>
  obtain⟨w,h,l⟩:=p
  obtain⟨hd, -⟩:=tY hp
  obtain⟨w1,w40,h1,h40,hlen, -⟩:=e9 hd
  have hwh:w*h<=40*40:=Nat.mul_le_mul w40 h40
  refine⟨w,h,l,0,by omega,fun m=>⟨?_,?_⟩⟩
  ·obtain⟨r,m',hc,hx,hr⟩:=xT (m:=m) (s:=s) hX hS (by omega)
   unfold eE at hr
   rw[hp]at hr
   obtain⟨v,rfl,ho⟩:=hr
   exact .mk hc hx ho.sl
  ·obtain⟨r,m',hc,hx,hr⟩:=tR (m:=m) (s:=s) hX (by omega)
   unfold eE at hr
   rw[hp]at hr
   obtain⟨v,rfl,ho⟩:=hr
   exact .mk hc hx ho.sl
theorem jR{f:Nat}{args:List Value}{mm:M}{w h e:Int}{cs:List Int}{K:Value->M->M->Nat->Nat->Prop}(hc:mc X f args mm w h cs e)
  (hK:∀(m44 m49:M) (v':Value),Ext mm m49->mm.n<=m44.n->m44.n < m49.n->m49.get m44.n=.cells [.int .i64 w,.int .i64 h,v'] 27 none->Sl m49 cs v'->K (.int .i64 e) m44 m49 mm.n m44.n):
  bz TE X (.func f) args mm fun v43 m44 b45=>ah (cj v43 0) fun v46=>ah (cj v43 1) fun v47=>bW (m44.push (.cells [.int .i64 0,.int .i64 0,.slice none 0 0] 27 none)) fun m48=>aK (aw TE m48 27 (.pointer (some ⟨m44.n,0,none⟩)) v46) fun m49 b50=>K v47 m44 m49 b45 b50:=by
 obtain⟨r,m',hc,hx,v',rfl,hs⟩:=hc
 refine aC hc ?_
 rw[bw,bw]
 simp only[List.getElem?_cons_zero,List.getElem?_cons_succ,aa]
 refine au fun m48 hn48 hg48 hk48=>?_
 refine aD dw hg48 rfl rfl (by show(true && (true && (one v' && true)))=true;rw[hs.one];rfl) fun m49 hn49 hg49 hk49=>?_
 have hx':Ext m' m49:=⟨by omega,fun c hc=>by rw[hk49 c (by omega),hk48 c hc]⟩
 exact hK m' m49 v' (hx.trans hx') hx.n (by omega) hg49 (hs.aB hx')
theorem qQ(hX:cW X){mm:M}{b1 b2:Nat}{w h:Int}{cs:List Int}{v1 v2:Value}(h1:mm.get b1=.cells [.int .i64 w,.int .i64 h,v1] 27 none)(h2:mm.get b2=.cells [.int .i64 w,.int .i64 h,v2] 27 none)
  (s1:Sl mm cs v1) (s2:Sl mm cs v2) (hl:cs.length<=1600) {P:Value->M->Nat->Prop} (hP:P (.bool false) mm mm.n):
  ah (ag TE mm 27 (.pointer (some ⟨b1,0,none⟩))) fun x=>ah (ag TE mm 27 (.pointer (some ⟨b2,0,none⟩))) fun y=>bz TE X (.func 13) [x,y] mm fun z m' b=>ah (fK .not z) fun q=>P q m' b:=by
 rw[(lC h1).2.2.2,aa,(lC h2).2.2.2,aa]
 refine aC (De hX s1 s2 (by omega)) ?_
 rw[decide_eq_true rfl,decide_eq_true rfl,decide_eq_true rfl,Bool.and_self,Bool.and_self,aX,aa]
 exact hP
end Go.Proofs.YtmdfgncoekfgdaaGreatDoor
namespace Go.Proofs.YtmdfgncoekfgdaaGreatDoor
open Go Go.D
set_option maxRecDepth 100000 in
theorem F3{W:Words}{x0 x1 x2 x3 x4 x5 x6 x7 x8 x9 x10:Value}{m:M}{R:List Value->M->Nat->Prop}:dt TE W Tryz.f3 [x0,x1,x2,x3,x4,x5,x6,x7,x8,x9,x10] m R=
(W.bW (M.push m (.cells (cells x1) 23 none)) fun a=>W.bW (M.push a (.cells (cells x4) 24 none)) fun b=>W.bW (M.push b (.cells (cells x7) 27 none)) fun c=>W.bz (.func 8) [] c fun d f g=>W.ah (fK .not d) fun h=>aW h
(R [(.bool false)] f (min m.n g))
(W.bz (.func 9) [x0] f fun i j k=>W.bW (M.push j (.cells [(.slice none 0 0)] 31 none)) fun l=>W.aK (aw TE l 31 (ptrTo j.n) i) fun n o=>W.ah (ag TE n 31 (ptrTo j.n)) fun p=>W.ah (ag TE n 31 (ptrTo j.n)) fun q=>W.ah (ai TE 23 (ptrTo m.n) (.int .i64 0)) fun r=>W.ah (ag TE n 3 r) fun s=>W.ah (ai TE 23 (ptrTo m.n) (.int .i64 1)) fun t=>W.ah (ag TE n 3 t) fun u=>W.ah (ai TE 23 (ptrTo m.n) (.int .i64 2)) fun v=>W.ah (ag TE n 3 v) fun w=>W.bz (.func 10) [q,s,u,w] n fun y z A=>(M.n n<=A)/\(W.aK (az TE z 34 2 [(0,p),(1,y)]) fun B C=>W.aK (an TE C .len [34] [B]) fun D _=>W.Lp (fun E F G H=>W.un F fun I J=>W.un J fun K L=>W.ah (aq TE .lss 3 K D) fun N=>aW N
(W.ah (ai TE 34 B K) fun O=>W.ah (ag TE G 31 O) fun P=>W.bW (M.push G (.cells [(.slice none 0 0)] 31 none)) fun Q=>W.aK (aw TE Q 31 (ptrTo G.n) P) fun S T=>W.ah (ag TE S 31 (ptrTo G.n)) fun U=>W.bz (.func 11) [U,x3] S fun V X Y=>W.ah (cj V 0) fun Z=>W.ah (cj V 1) fun a0=>W.bW (M.push X (.cells [(.int .i64 0),(.int .i64 0),(.slice none 0 0)] 27 none)) fun a1=>W.aK (aw TE a1 27 (ptrTo X.n) Z) fun a2 a3=>W.ah (ag TE a2 31 (ptrTo G.n)) fun a4=>W.bz (.func 12) [a4,x3] a2 fun a5 a6 a7=>W.ah (cj a5 0) fun a8=>W.ah (cj a5 1) fun a9=>W.bW (M.push a6 (.cells [(.int .i64 0),(.int .i64 0),(.slice none 0 0)] 27 none)) fun b0=>W.aK (aw TE b0 27 (ptrTo a6.n) a8) fun b1 b2=>W.jn (fun b3=>W.ah (aq TE .neq 35 a0 a9) fun b4=>aW b4
(b3 [(.bool true)] b1 (min (min (min (min (min H T) Y) a3) a7) b2))
(W.ah (ag TE b1 27 (ptrTo X.n)) fun b5=>W.ah (ag TE b1 27 (ptrTo a6.n)) fun b6=>W.bz (.func 13) [b5,b6] b1 fun b7 b8 b9=>W.ah (fK .not b7) fun c0=>b3 [c0] b8 (min (min (min (min (min (min H T) Y) a3) a7) b2) b9)))
(fun c1 c2 c3=>W.un c1 fun c4 c5=>aW c4
(R [(.bool false)] c2 c3)
(W.bz (.func 14) [x2,(.int .i64 40)] c2 fun c6 c7 c8=>W.aK (az TE c7 25 2 [(0,x2),(1,c6)]) fun c9 d0=>W.aK (an TE d0 .len [25] [c9]) fun d1 _=>W.Lp (fun d2 d3 d4 d5=>W.un d3 fun d6 d7=>W.un d7 fun d8 d9=>W.ah (aq TE .lss 3 d8 d1) fun g0=>aW g0
(W.ah (ai TE 25 c9 d8) fun g1=>W.ah (ag TE d4 3 g1) fun g2=>W.ah (ag TE d4 31 (ptrTo G.n)) fun g3=>W.bz (.func 15) [g3,g2] d4 fun g4 g5 g6=>W.ah (cj g4 0) fun g7=>W.ah (cj g4 1) fun g8=>W.bW (M.push g5 (.cells [(.int .i64 0),(.int .i64 0),(.slice none 0 0)] 27 none)) fun g9=>W.aK (aw TE g9 27 (ptrTo g5.n) g7) fun h0 h1=>W.ah (ag TE h0 31 (ptrTo G.n)) fun h2=>W.bz (.func 16) [h2,g2] h0 fun h3 h4 h5=>W.ah (cj h3 0) fun h6=>W.ah (cj h3 1) fun h7=>W.bW (M.push h4 (.cells [(.int .i64 0),(.int .i64 0),(.slice none 0 0)] 27 none)) fun h8=>W.aK (aw TE h8 27 (ptrTo h4.n) h6) fun h9 i0=>W.ah (ag TE h9 31 (ptrTo G.n)) fun i1=>W.bz (.func 17) [i1,g2] h9 fun i2 i3 i4=>W.ah (cj i2 0) fun i5=>W.ah (cj i2 1) fun i6=>W.bW (M.push i3 (.cells [(.int .i64 0),(.int .i64 0),(.slice none 0 0)] 27 none)) fun i7=>W.aK (aw TE i7 27 (ptrTo i3.n) i5) fun i8 i9=>W.ah (ag TE i8 31 (ptrTo G.n)) fun j0=>W.bz (.func 18) [j0,g2] i8 fun j1 j2 j3=>W.ah (cj j1 0) fun j4=>W.ah (cj j1 1) fun j5=>W.bW (M.push j2 (.cells [(.int .i64 0),(.int .i64 0),(.slice none 0 0)] 27 none)) fun j6=>W.aK (aw TE j6 27 (ptrTo j2.n) j4) fun j7 j8=>W.jn (fun j9=>W.ah (aq TE .neq 35 g8 h7) fun k0=>aW k0
(j9 [(.bool true)] j7 (min (min (min (min (min (min (min (min d5 g6) h1) h5) i0) i4) i9) j3) j8))
(W.ah (aq TE .neq 35 i6 j5) fun k1=>aW k1
(j9 [(.bool true)] j7 (min (min (min (min (min (min (min (min d5 g6) h1) h5) i0) i4) i9) j3) j8))
(W.ah (ag TE j7 27 (ptrTo g5.n)) fun k2=>W.ah (ag TE j7 27 (ptrTo h4.n)) fun k3=>W.bz (.func 13) [k2,k3] j7 fun k4 k5 k6=>W.ah (fK .not k4) fun k7=>aW k7
(j9 [(.bool true)] k5 (min (min (min (min (min (min (min (min (min d5 g6) h1) h5) i0) i4) i9) j3) j8) k6))
(W.ah (ag TE k5 27 (ptrTo i3.n)) fun k8=>W.ah (ag TE k5 27 (ptrTo j2.n)) fun k9=>W.bz (.func 13) [k8,k9] k5 fun l0 l1 l2=>W.ah (fK .not l0) fun l3=>j9 [l3] l1 (min (min (min (min (min (min (min (min (min (min d5 g6) h1) h5) i0) i4) i9) j3) j8) k6) l2)))))
(fun l4 l5 l6=>W.un l4 fun l7 l8=>aW l7
(R [(.bool false)] l5 l6)
(W.ah (aq TE .add 3 d8 (.int .i64 1)) fun l9=>d2 [d6,l9] l5 l6)))
(W.ah (aq TE .add 3 K (.int .i64 1)) fun n0=>E [d6,n0] d4 d5)) [I,(.int .i64 0)] d0 (min c3 c8))))
(W.ah (ai TE 24 (ptrTo a.n) (.int .i64 0)) fun n1=>W.ah (ag TE G 3 n1) fun n2=>W.ah (ai TE 24 (ptrTo a.n) (.int .i64 1)) fun n3=>W.ah (ag TE G 3 n3) fun n4=>W.bz (.func 19) [n2,n4,x5] G fun n5 n6 n7=>W.bW (M.push n6 (.cells [(.int .i64 0),(.int .i64 0),(.slice none 0 0)] 27 none)) fun n8=>W.aK (aw TE n8 27 (ptrTo n6.n) n5) fun n9 o0=>W.ah (ai TE 24 (ptrTo a.n) (.int .i64 0)) fun o1=>W.ah (ag TE n9 3 o1) fun o2=>W.ah (ai TE 24 (ptrTo a.n) (.int .i64 1)) fun o3=>W.ah (ag TE n9 3 o3) fun o4=>W.bz (.func 19) [o2,o4,x6] n9 fun o5 o6 o7=>W.bW (M.push o6 (.cells [(.int .i64 0),(.int .i64 0),(.slice none 0 0)] 27 none)) fun o8=>W.aK (aw TE o8 27 (ptrTo o6.n) o5) fun o9 p0=>W.ah (ae TE 27 (ptrTo b.n) 0) fun p1=>W.ah (ag TE o9 3 p1) fun p2=>W.ah (ae TE 27 (ptrTo b.n) 1) fun p3=>W.ah (ag TE o9 3 p3) fun p4=>W.ah (ae TE 27 (ptrTo b.n) 2) fun p5=>W.ah (ag TE o9 25 p5) fun p6=>W.ah (ae TE 27 (ptrTo b.n) 2) fun p7=>W.ah (ag TE o9 25 p7) fun p8=>W.aK (an TE o9 .len [25] [p8]) fun p9 _=>W.aK (an TE o9 .min [3,3] [p9,(.int .i64 100)]) fun q0 _=>W.ah (slice? TE o9 25 p6 none (some q0) none) fun q1=>W.ah (aO TE 27 [(0,p2),(1,p4),(2,q1)]) fun q2=>W.bW (M.push o9 (.cells [(.int .i64 0),(.int .i64 0),(.slice none 0 0)] 27 none)) fun q3=>W.aK (aw TE q3 27 (ptrTo o9.n) q2) fun q4 q5=>W.aK (an TE q4 .len [9] [x10]) fun q6 _=>W.aK (an TE q4 .min [3,3] [q6,(.int .i64 200)]) fun q7 _=>W.ah (slice? TE q4 9 x10 none (some q7) none) fun q8=>W.aK (az TE q4 42 1 [(0,q8)]) fun q9 r0=>W.ah (ag TE r0 27 (ptrTo n6.n)) fun r1=>W.ah (ag TE r0 27 (ptrTo o6.n)) fun r2=>W.ah (ag TE r0 27 (ptrTo o9.n)) fun r3=>W.ah (ag TE r0 27 (ptrTo n6.n)) fun r4=>W.ah (ai TE 23 (ptrTo m.n) (.int .i64 0)) fun r5=>W.ah (ag TE r0 3 r5) fun r6=>W.ah (ai TE 23 (ptrTo m.n) (.int .i64 1)) fun r7=>W.ah (ag TE r0 3 r7) fun r8=>W.ah (ai TE 23 (ptrTo m.n) (.int .i64 2)) fun r9=>W.ah (ag TE r0 3 r9) fun s0=>W.bz (.func 20) [r4,r6,r8,s0] r0 fun s1 s2 s3=>(M.n r0<=s3)/\(W.aK (az TE s2 44 4 [(0,r1),(1,r2),(2,r3),(3,s1)]) fun s4 s5=>W.aK (an TE s5 .len [44] [s4]) fun s6 _=>W.Lp (fun s7 s8 s9 t0=>W.un s8 fun t1 t2=>W.un t2 fun t3 t4=>W.un t4 fun t5 t6=>W.ah (aq TE .lss 3 t5 s6) fun t7=>aW t7
(W.ah (ai TE 44 s4 t5) fun t8=>W.ah (ag TE s9 27 t8) fun t9=>W.bW (M.push s9 (.cells [(.int .i64 0),(.int .i64 0),(.slice none 0 0)] 27 none)) fun u0=>W.aK (aw TE u0 27 (ptrTo s9.n) t9) fun u1 u2=>W.ah (ag TE u1 27 (ptrTo n6.n)) fun u3=>W.ah (ag TE u1 27 (ptrTo s9.n)) fun u4=>W.bz (.func 21) [u3,u4] u1 fun u5 u6 u7=>W.ah (cj u5 0) fun u8=>W.ah (cj u5 1) fun u9=>W.ah (ag TE u6 27 (ptrTo n6.n)) fun v0=>W.ah (ag TE u6 27 (ptrTo s9.n)) fun v1=>W.bz (.func 22) [v0,v1] u6 fun v2 v3 v4=>W.ah (cj v2 0) fun v5=>W.ah (cj v2 1) fun v6=>W.ah (ag TE v3 27 (ptrTo s9.n)) fun v7=>W.bz (.func 23) [v7] v3 fun v8 v9 w0=>W.ah (cj v8 0) fun w1=>W.ah (cj v8 1) fun w2=>W.ah (ag TE v9 27 (ptrTo s9.n)) fun w3=>W.bz (.func 24) [w3] v9 fun w4 w5 w6=>W.ah (cj w4 0) fun w7=>W.ah (cj w4 1) fun w8=>W.jn (fun w9=>W.ah (ag TE w5 27 (ptrTo s9.n)) fun y0=>W.bz (.func 25) [y0] w5 fun y1 y2 y3=>(M.n w5<=y3)/\(W.ah (ag TE y2 27 (ptrTo s9.n)) fun y4=>W.bz (.func 26) [y4] y2 fun y5 y6 y7=>W.ah (aq TE .neq 4 y1 y5) fun y8=>aW y8
(w9 [(.bool true)] y6 (min (min (min (min (min (min (min t0 u2) u7) v4) w0) w6) y3) y7))
(W.ah (aq TE .neq 35 u9 v6) fun y9=>aW y9
(w9 [(.bool true)] y6 (min (min (min (min (min (min (min t0 u2) u7) v4) w0) w6) y3) y7))
(W.bz (.func 27) [u8,v5] y6 fun z0 z1 z2=>W.ah (fK .not z0) fun z3=>aW z3
(w9 [(.bool true)] z1 (min (min (min (min (min (min (min (min t0 u2) u7) v4) w0) w6) y3) y7) z2))
(W.ah (aq TE .neq 9 w1 w7) fun z4=>aW z4
(w9 [(.bool true)] z1 (min (min (min (min (min (min (min (min t0 u2) u7) v4) w0) w6) y3) y7) z2))
(W.ah (aq TE .neq 35 w2 w8) fun z5=>w9 [z5] z1 (min (min (min (min (min (min (min (min t0 u2) u7) v4) w0) w6) y3) y7) z2)))))))
(fun z6 z7 z8=>W.un z6 fun z9 A0=>aW z9
(R [(.bool false)] z7 z8)
(W.ah (ai TE 42 t3 (.int .i64 0)) fun A1=>W.ah (ag TE z7 9 A1) fun A2=>W.ah (aq TE .add 9 w7 A2) fun A3=>W.aK (az TE z7 42 2 [(0,w7),(1,A3)]) fun A4 A5=>W.aK (an TE (M.wl A5 A5.n) .append [42,42] [t3,A4]) fun A6 A7=>W.aK (an TE A7 .len [9] [w7]) fun A8 _=>W.ah (aq TE .gtr 3 A8 (.int .i64 0)) fun A9=>aW A9
(W.aK (an TE A7 .len [9] [w7]) fun B0 _=>W.bz (.func 14) [x8,B0] A7 fun B1 B2 B3=>W.ah (slice? TE B2 9 w7 none (some B1) none) fun B4=>W.aK (az TE B2 52 1 [(0,x9)]) fun B5 B6=>W.ah (tb TE B6 52 9 B5) fun B7=>W.ah (aq TE .add 9 B4 B7) fun B8=>W.ah (aq TE .add 3 B1 (.int .i64 1)) fun B9=>W.ah (slice? TE B6 9 w7 (some B9) none none) fun C0=>W.ah (aq TE .add 9 B8 C0) fun C1=>W.ah (slice? TE B6 9 w7 none (some B1) none) fun C2=>W.aK (az TE B6 42 2 [(0,C1),(1,C2)]) fun C3 C4=>W.aK (an TE (M.wl C4 C4.n) .append [42,42] [A6,C3]) fun C5 C6=>W.ah (aq TE .add 3 t5 (.int .i64 1)) fun C7=>s7 [t1,C5,C7] C6 (min (min (min z8 (M.low A7)) B3) (M.low C6)))
(W.ah (aq TE .add 3 t5 (.int .i64 1)) fun C8=>s7 [t1,A6,C8] A7 (min z8 (M.low A7))))))
(W.Lp (fun C9 D0 D1 D2=>W.un D0 fun D3 D4=>W.un D4 fun D5 D6=>W.aK (an TE D1 .len [42] [t3]) fun D7 _=>W.ah (aq TE .lss 3 D5 D7) fun D8=>aW D8
(W.ah (ai TE 42 t3 D5) fun D9=>W.ah (ag TE D1 9 D9) fun E0=>W.bz (.func 28) [E0] D1 fun E1 E2 E3=>W.ah (cj E1 0) fun E4=>W.ah (cj E1 1) fun E5=>W.bW (M.push E2 (.cells [(.int .i64 0),(.int .i64 0),(.slice none 0 0)] 27 none)) fun E6=>W.aK (aw TE E6 27 (ptrTo E2.n) E4) fun E7 E8=>W.ah (ai TE 42 t3 D5) fun E9=>W.ah (ag TE E7 9 E9) fun F0=>W.bz (.func 29) [F0] E7 fun F1 F2 F3=>W.ah (cj F1 0) fun F4=>W.ah (cj F1 1) fun F5=>W.bW (M.push F2 (.cells [(.int .i64 0),(.int .i64 0),(.slice none 0 0)] 27 none)) fun F6=>W.aK (aw TE F6 27 (ptrTo F2.n) F4) fun F7 F8=>W.jn (fun F9=>W.ah (aq TE .neq 35 E5 F5) fun G0=>aW G0
(F9 [(.bool true)] F7 (min (min (min (min D2 E3) E8) F3) F8))
(W.ah (ag TE F7 27 (ptrTo E2.n)) fun G1=>W.ah (ag TE F7 27 (ptrTo F2.n)) fun G2=>W.bz (.func 13) [G1,G2] F7 fun G3 G4 G5=>W.ah (fK .not G3) fun G6=>F9 [G6] G4 (min (min (min (min (min D2 E3) E8) F3) F8) G5)))
(fun G7 G8 G9=>W.un G7 fun H0 H1=>aW H0
(R [(.bool false)] G8 G9)
(W.ah (aq TE .add 3 D5 (.int .i64 1)) fun H2=>C9 [D3,H2] G8 G9)))
(R [d] D1 D2)) [t1,(.int .i64 0)] s9 t0)) [I,q9,(.int .i64 0)] s5 (min (min (min (min (min (min H n7) o0) o7) p0) q5) s3)))) [(.bool false),(.int .i64 0)] C (min (min (min (min m.n g) k) o) A)))):=by kernel_rfl
end Go.Proofs.YtmdfgncoekfgdaaGreatDoor
namespace Go.Proofs.YtmdfgncoekfgdaaGreatDoor
open Go Go.D
variable {X:aF} {m:M}
def TL(n1 lb:Nat)(t0:List UInt8)(mm:M)(ts:List (List UInt8))(vt:Value):Prop:=
 Ow n1 mm ts vt\/(ts=[t0]/\vt=.slice (some ⟨lb,0,none⟩) 1 1/\lb < n1/\mm.get lb=.cells [str t0] 9 none)
theorem TL.sl{n1 lb:Nat}{t0:List UInt8}{mm:M}{ts:List (List UInt8)}{vt:Value}(h:TL n1 lb t0 mm ts vt):Sl mm ts vt:=by
 rcases h with h |⟨rfl,rfl,_,h⟩
 ·exact h.sl
 ·exact jN.row (l:=[t0]) h
theorem TL.aB{n1 lb:Nat}{t0:List UInt8}{mm m':M}{ts:List (List UInt8)}{vt:Value}(h:TL n1 lb t0 mm ts vt)(hx:Ext mm m'):TL n1 lb t0 m' ts vt:=by
 rcases h with h |⟨h1,h2,h3,h4⟩
 ·exact .inl (h.aB hx)
 ·exact .inr ⟨h1,h2,h3,hx.cells h4⟩
theorem Bq{n1 lb:Nat}{t0:List UInt8}{mm:M}{ts:List (List UInt8)}{vt:Value}{a b:List UInt8}{P:Value->M->Prop}(h:TL n1 lb t0 mm ts vt)(hn:n1<=mm.n)(hl:ts.length<=1000)
  (hP:∀v' m',TL n1 lb t0 m' (ts++ [a,b]) v'->(∀c,c < n1->m'.get c=mm.get c)->mm.n<=m'.n->n1<=m'.low->P v' m'):
  aK (az TE mm 42 2 [(0,str a),(1,str b)]) fun x m1=>aK (an TE (M.wl m1 (M.n m1)) .append [42,42] [vt,x]) fun v' m'=>P v' m':=by
 have hbs:az TE mm 42 2 [(0,str a),(1,str b)]=some (.slice (some ⟨mm.n,0,none⟩) 2 2,mm.push (.cells ([a,b].map jW) 9 none)):=by kernel_rfl
 rw[hbs,ar]
 have hx:Ext mm (mm.push (.cells ([a,b].map jW) 9 none)):=Ext.refl.push
 have hg:(mm.push (.cells ([a,b].map jW) 9 none)).get mm.n=.cells ([a,b].map jW) 9 none:=M.aN
 have hn1:(mm.push (.cells ([a,b].map jW) 9 none)).n=mm.n+1:=rfl
 generalize mm.push (.cells ([a,b].map jW) 9 none)=m1 at*
 have hy:Sl m1 [a,b] (.slice (some ⟨mm.n,0,none⟩) 2 2):=jN.row (l:=[a,b]) hg
 rcases h with h |⟨rfl,rfl,h3,h4⟩
 ·obtain⟨v',m',e,ho,hf,hlw,_⟩:=(h.aB hx).append wA (by simp[aL.fR]) hy (by omega) (by simp;omega)
  rw[e,ar]
  have:=hf.n
  exact hP v' m' (.inl ho) (fun c hc=>by rw[hf.get c hc,hx.get c (by omega)]) (by omega) hlw
 ·obtain⟨v',m',e,ho,hx',hlw⟩:=jU wA (l:=[t0]) (ys:=[a,b]) (c:=1) (hx.cells h4) (.inl rfl) (jN.row (l:=[t0]) (hx.cells h4)) hy (by simp) (by simp)
  have e:an TE (m1.wl m1.n) .append [42,42] [.slice (some ⟨lb,0,none⟩) 1 1,.slice (some ⟨mm.n,0,none⟩) 2 2]=some (v',m'):=e
  rw[e,ar]
  have:=hx'.n
  exact hP v' m' (.inl (ho.mono (by omega))) (fun c hc=>by rw[hx'.get c (by omega),hx.get c (by omega)]) (by omega) (by omega)
structure DV(m:M)(w h:Int)(l:List Int)(v:Value):Prop where
 sl:iV m l v
 q:gx w h l=true->KJ m l v
 len:l.length<=145
 one:one v=true
 cells:cells v=[v]
theorem DV.aB{m m':M}{w h:Int}{l:List Int}{v:Value}(d:DV m w h l v)(hx:Ext m m'):DV m' w h l v:=⟨d.sl.aB hx,fun e=>(d.q e).aB hx,d.len,d.one,d.cells⟩
theorem DV.own{n1:Nat}{m:M}{w h:Int}{l:List Int}{v:Value}(ho:Ow n1 m l v)(hne:l≠ [])(hl:l.length<=145):DV m w h l v:=⟨.inl ho.sl,fun _=>(ho.Yi hne).q,hl,ho.sl.one,ho.sl.cells⟩
theorem pR{b o:Nat}{k:IntKind}:ai TE 23 (.pointer (some ⟨b,o,none⟩)) (.int k 0)=some (.pointer (some ⟨b,o,none⟩))/\ai TE 23 (.pointer (some ⟨b,o,none⟩)) (.int k 1)=some (.pointer (some ⟨b,o+1,none⟩))/\ai TE 23 (.pointer (some ⟨b,o,none⟩)) (.int k 2)=some (.pointer (some ⟨b,o+2,none⟩)):=by
 refine⟨?_,?_,?_⟩ <;>kernel_rfl
theorem Du{a b:Bool}:aq TE .neq 4 (.bool a) (.bool b)=some (.bool (!decide (a=b))):=by cases a <;>cases b <;>kernel_rfl
set_option maxRecDepth 100000 in
theorem sK(hX:cW X)(hS:EI X)(hsane:∀m1:M,2 < m1.n->C X (.func 8) [] m1 m1.n (.bool true) m1)(hm:2 < m.n){xs:List I6}{vx:Value}(hvx:iV m xs vx)(hok:∀x∈xs,x.ok)(hlx:xs.length < 9223372036854775808)
  {b0 b1 b2:Int} (r0:fP b0) (r1:fP b1) (r2:fP b2) {n:Int} (rn:fP n) {behind:Bool} {s0 s1:Int} (rs0:fP s0) (rs1:fP s1) {ys:List Int} {vy:Value} (hy:iV m ys vy) (hys:∀k∈ys,fP k) (ly:ys.length < 9223372036854775808)
  {zs:List Int} {vz:Value} (hz:iV m zs vz) (hzs:∀k∈zs,fP k) (lz:zs.length < 9223372036854775808) {rw rh:Int} {rl:List Int} {rv:Value} (hr:zx m rl rv) (hcap:∀a p q,rv=.slice a p q->p<=q) (lr:rl.length < 9223372036854775808) {place:Int} (rp:fP place) {c:UInt8} {txt:List UInt8} (ltx:txt.length < 9223372036854775808):
  C X (.func 3) [vx,.agg #[.int .i64 b0,.int .i64 b1,.int .i64 b2],.int .i64 n,.bool behind,.agg #[.int .i64 s0,.int .i64 s1],vy,vz,cF rw rh rv,.int .i64 place,.int .u8 c.toNat,str txt] m m.n (.bool true) m:=by
 refine Cl.flat (hX.no _ rfl) QK rfl rfl ?_
 rw[F3];dsimp only[aI]
 refine au fun m1 hn1 hg1 hk1=>?_
 refine au fun m2 hn2 hg2 hk2=>?_
 refine au fun m3 hn3 hg3 hk3=>?_
 have hx3:Ext m m3:=⟨by omega,fun b hb=>by rw[hk3 b (by omega),hk2 b (by omega),hk1 b hb]⟩
 have gB:m3.get m.n=.cells [.int .i64 b0,.int .i64 b1,.int .i64 b2] 23 none:=by rw[hk3 _ (by omega),hk2 _ (by omega)];exact hg1
 have gS:m3.get m1.n=.cells [.int .i64 s0,.int .i64 s1] 24 none:=by rw[hk3 _ (by omega)];exact hg2
 have gR:m3.get m2.n=.cells [.int .i64 rw,.int .i64 rh,rv] 27 none:=hg3
 refine aC (hsane m3 (by omega)) ?_
 rw[aX,aa,aj,Bool.not_true,aM]
 obtain⟨l,r,m9,hc9,hx9,hF9,hP⟩:=Dw (m:=m3) hX (hvx.aB hx3) hok hlx
 have hl12:l.length<=12:=by have:=hP.len;rwa[dY]at this
 refine aC hc9 ?_
 have n9:=hx9.n
 refine au fun m11 hn11 hg11 hk11=>?_
 have or:one r=true:=hF9.sl.one
 unfold ptrTo
 refine aD kZ hg11 rfl rfl (by show(one r && true)=true;rw[or];rfl) fun m12 hn12 hg12 hk12=>?_
 have hg12:m12.get m9.n=.cells [r] 31 none:=hg12
 have hx12:Ext m9 m12:=⟨by omega,fun b hb=>by rw[hk12 b (by omega),hk11 b hb]⟩
 have ldF:∀{mm:M} {b:Nat} {r:Value},mm.get b=.cells [r] 31 none->ag TE mm 31 (.pointer (some ⟨b,0,none⟩))=some (.agg #[r]):=fun h=>by rw[cZ,aE h (by simp)];rfl
 have hx312:=hx9.trans hx12
 have ldB:∀mm:M,Ext m3 mm->ag TE mm 3 (.pointer (some ⟨m.n,0,none⟩))=some (.int .i64 b0)/\ag TE mm 3 (.pointer (some ⟨m.n,0+1,none⟩))=some (.int .i64 b1)/\ag TE mm 3 (.pointer (some ⟨m.n,0+2,none⟩))=some (.int .i64 b2):=fun mm hx=>by
  refine⟨?_,?_,?_⟩ <;>rw[bu,av (hx.cells gB)] <;>rfl
 have ldS:∀mm:M,Ext m3 mm->ag TE mm 3 (.pointer (some ⟨m1.n,0,none⟩))=some (.int .i64 s0)/\ag TE mm 3 (.pointer (some ⟨m1.n,0+1,none⟩))=some (.int .i64 s1):=fun mm hx=>by
  constructor <;>rw[bu,av (hx.cells gS)] <;>rfl
 rw[ldF hg12,aa,aa,pR.1,aa,(ldB m12 hx312).1,aa,pR.2.1,aa,(ldB m12 hx312).2.1,aa,pR.2.2,aa,(ldB m12 hx312).2.2,aa]
 obtain⟨l2,r2',m23,hc23,hx23,hF23,hl2⟩:=Aa (m:=m12) hX (hF9.aB hx12) hP r0 r1 r2
 refine aC hc23 ⟨Nat.le_refl _,?_⟩
 have n12:=hx12.n
 have n23:=hx23.n
 have hbs26:∀a b:Value,cells a=[a]->cells b=[b]->az TE m23 34 2 [(0,.agg #[a]),(1,.agg #[b])]=some (.slice (some ⟨m23.n,0,none⟩) 2 2,m23.push (.cells [a,b] 31 none)):=fun a b _ _=>by kernel_rfl
 rw[hbs26 r r2' hF9.sl.cells hF23.sl.cells,ar,LG,ar]
 have hx26:Ext m23 (m23.push (.cells [r,r2'] 31 none)):=Ext.refl.push
 have hg26:(m23.push (.cells [r,r2'] 31 none)).get m23.n=.cells [r,r2'] 31 none:=M.aN
 generalize hm26:m23.push (.cells [r,r2'] 31 none)=m26 at*
 have n26:=hx26.n
 have hx326:Ext m3 m26:=hx312.trans (hx23.trans hx26)
 have elem:∀i,i < 2->∃(lf:List UW) (vf p:Value),lf.length < 1000/\dS m26 lf vf/\ai TE 34 (.slice (some ⟨m23.n,0,none⟩) 2 2) (.int .i64 (i:Nat))=some p/\∀mm,Ext m26 mm->ag TE mm 31 p=some (.agg #[vf]):=fun i hi=>by
  rcases(show i=0\/i=1 by omega)with rfl |rfl
  ·exact⟨l,r,.pointer (some ⟨m23.n,0,none⟩),by omega,(hF9.aB hx12).aB (hx23.trans hx26),by kernel_rfl,fun mm hx=>by rw[cZ,aE (hx.cells hg26) (by simp)];rfl⟩
  ·exact⟨l2,r2',.pointer (some ⟨m23.n,1,none⟩),by omega,hF23.aB hx26,by kernel_rfl,fun mm hx=>by rw[cZ,aE (hx.cells hg26) (by simp)];rfl⟩
 refine Lp.intro (γ:=Nat) (fun i=>2-i) (fun i vs mm lo=>∃z,vs=[z,.int .i64 i]/\i<=2/\Ext m26 mm/\m.n<=lo) 0 ⟨_,rfl,Nat.zero_le _,.refl,by omega⟩ ?_
 rintro i vs m30 lo31 ⟨z,rfl,hi,hx30,hlo31⟩
 have n30:=hx30.n
 rw[aA,aA,aH,aa,aj]
 refine ak (fun hlt=>?_) (fun hge=>?_)
 ·have hi2:i < 2:=by
   have:(i:Int)< ((2:Nat):Int):=of_decide_eq_true hlt
   omega
  obtain⟨lf,vf,p,hlf,hFf,e1,e2⟩:=elem i hi2
  rw[e1,aa,e2 m30 hx30,aa]
  refine au fun m39 hn39 hg39 hk39=>?_
  refine aD kZ hg39 rfl rfl (by show(one vf && true)=true;rw[hFf.sl.one];rfl) fun m40 hn40 hg40 hk40=>?_
  have hg40:m40.get m30.n=.cells [vf] 31 none:=hg40
  have hx40:Ext m30 m40:=⟨by omega,fun b hb=>by rw[hk40 b (by omega),hk39 b hb]⟩
  have n40:=hx40.n
  have hF40:=hFf.aB (hx30.trans hx40)
  rw[ldF hg40,aa]
  obtain⟨we,he,ce,ee,hce,hE⟩:=O6 (X:=X) hX (l:=lf) (by omega) behind
  refine jR (hE m40 vf hF40).1 fun m44 m49 va hx49 h44 h44' hg49 hs49=>?_
  rw[ldF (hx49.cells hg40),aa]
  refine jR (hE m49 vf (hF40.aB hx49)).2 fun m53 m58 vb hx58 h53 h53' hg58 hs58=>?_
  have n49:=hx49.n
  have n58:=hx58.n
  refine bY (fun vs mm lo=>vs=[.bool false]/\m58=mm/\m.n<=lo) (fun R hR=>?_) ?_
  ·rw[bI,aa,aj,decide_eq_true rfl,Bool.not_true,aM]
   exact qQ hX (hx58.cells hg49) hg58 (hs49.aB hx58) hs58 hce (hR _ _ _ ⟨rfl,rfl,by omega⟩)
  rintro _ _ lo ⟨rfl,rfl,hlo⟩
  rw[aA,aj,aM]
  refine aC (rK hX rn (by decide)) ?_
  have hbs77:∀a b:Int,az TE m58 25 2 [(0,.int .i64 a),(1,.int .i64 b)]=some (.slice (some ⟨m58.n,0,none⟩) 2 2,m58.push (.cells ([a,b].map (Value.int .i64)) 3 none)):=fun a b=>by kernel_rfl
  rw[hbs77,ar]
  obtain⟨ks,hks⟩:∃ks,ks=[n,cM n 40]:=⟨_,rfl⟩
  rw[<-hks]
  have hx77:Ext m58 (m58.push (.cells (ks.map (Value.int .i64)) 3 none)):=Ext.refl.push
  have hg77:(m58.push (.cells (ks.map (Value.int .i64)) 3 none)).get m58.n=.cells (ks.map (Value.int .i64)) 3 none:=M.aN
  generalize hm77:m58.push (.cells (ks.map (Value.int .i64)) 3 none)=m77 at*
  have hkl:ks.length=2:=by rw[hks];rfl
  have hsk:Sl m77 ks (.slice (some ⟨m58.n,0,none⟩) 2 2):=by
   have:=kL.row (c:=2) hg77
   rwa[hkl]at this
  rw[hsk.len eK,ar,hkl]
  have n77:=hx77.n
  have hg77F:m77.get m30.n=.cells [vf] 31 none:=hx77.cells (hx58.cells (hx49.cells hg40))
  have hF77:=((hF40.aB hx49).aB hx58).aB hx77
  refine Lp.intro (γ:=Nat) (fun j=>2-j) (fun j vs mm lo=>∃z,vs=[z,.int .i64 j]/\j<=2/\Ext m77 mm/\m.n<=lo) 0 ⟨_,rfl,Nat.zero_le _,.refl,by omega⟩ ?_
  rintro j vs m81 lo82 ⟨z',rfl,hj,hx81,hlo82⟩
  have n81:=hx81.n
  rw[aA,aA,aH,aa,aj]
  refine ak (fun hlt2=>?_) (fun hge2=>?_)
  ·have hj2:j < 2:=by
    have:(j:Int)< ((2:Nat):Int):=of_decide_eq_true hlt2
    omega
   obtain⟨k,hk⟩:∃k,ks[j]?=some k:=⟨_,List.getElem?_eq_getElem (by omega)⟩
   obtain⟨q,q1,q2⟩:=(hsk.aB hx81).iD (k:=.i64) hk
   have hF81:=hF77.aB hx81
   have g81:=hx81.cells hg77F
   rw[q1,aa,q2,aa,ldF g81,aa]
   obtain⟨wp,hp,cp,ep,hcp,hPl⟩:=NX (X:=X) hX (l:=lf) (by omega) k
   obtain⟨ws,hs,cs,es,hcs,hSe⟩:=NV (X:=X) hX (l:=lf) (by omega) k
   refine jR (hPl m81 vf hF81).1 fun m92 m97 va' hx97 h92 h92' hg97 hs97=>?_
   have n97:=hx97.n
   rw[ldF (hx97.cells g81),aa]
   refine jR (hPl m97 vf (hF81.aB hx97)).2 fun m101 m106 vb' hx106 h101 h101' hg106 hs106=>?_
   have n106:=hx106.n
   rw[ldF (hx106.cells (hx97.cells g81)),aa]
   refine jR (hSe m106 vf ((hF81.aB hx97).aB hx106)).1 fun m110 m115 vd' hx115 h110 h110' hg115 hs115=>?_
   have n115:=hx115.n
   rw[ldF (hx115.cells (hx106.cells (hx97.cells g81))),aa]
   refine jR (hSe m115 vf (((hF81.aB hx97).aB hx106).aB hx115)).2 fun m119 m124 vh' hx124 h119 h119' hg124 hs124=>?_
   have n124:=hx124.n
   refine bY (fun vs mm lo=>vs=[.bool false]/\m124=mm/\m.n<=lo) (fun R hR=>?_) ?_
   ·rw[bI,aa,aj,decide_eq_true rfl,Bool.not_true,aM,bI,aa,aj,decide_eq_true rfl,Bool.not_true,aM]
    refine qQ hX (hx124.cells (hx115.cells (hx106.cells hg97))) (hx124.cells (hx115.cells hg106)) (((hs97.aB hx106).aB hx115).aB hx124) ((hs106.aB hx115).aB hx124) hcp ?_
    rw[aj,aM]
    exact qQ hX (hx124.cells hg115) hg124 (hs115.aB hx124) hs124 hcs (hR _ _ _ ⟨rfl,rfl,by omega⟩)
   rintro _ _ lo ⟨rfl,rfl,hlo'⟩
   rw[aA,aj,aM,aG,aa,wrap64 (by omega) (by omega)]
   exact⟨j+1,by omega,z',rfl,by omega,hx81.trans (hx97.trans (hx106.trans (hx115.trans hx124))),hlo'⟩
  ·rw[aG,aa,wrap64 (by omega) (by omega)]
   exact⟨i+1,by omega,z',rfl,by omega,hx30.trans (hx40.trans (hx49.trans (hx58.trans (hx77.trans hx81)))),hlo82⟩
 have hx330:=hx326.trans hx30
 rw[BU.1,aa,(ldS m30 hx330).1,aa,BU.2,aa,(ldS m30 hx330).2,aa]
 obtain⟨w,h,va,m153,hw,hh,hcA,hx153,hoA⟩:=ub (m:=m30) hX rs0 rs1 ((hy.aB hx3).aB hx330) hys ly
 refine aC hcA ?_
 have pw:=fw (c:=s0) (n:=12) (by omega)
 have ph:=fw (c:=s1) (n:=12) (by omega)
 have hw12:1<=w/\w<=12:=by omega
 have hh12:1<=h/\h<=12:=by omega
 have hwp:0 < w*h:=Nat.mul_pos (by omega) (by omega)
 have hwh:w*h<=12*12:=Nat.mul_le_mul hw12.2 hh12.2
 have vA:gx w h (fx ys (w*h))=true:=yK hw12 hh12
 have hneA:fx ys (w*h)≠ []:=fun e=>by have:=congrArg List.length e;rw[gJ]at this;simp at this;omega
 have hlA:(fx ys (w*h)).length=w*h:=gJ
 generalize fx ys (w*h)=lA at*
 have n153:=hx153.n
 refine au fun m155 hn155 hg155 hk155=>?_
 refine aD dw hg155 rfl rfl (by show(true && (true && (one va && true)))=true;rw[hoA.sl.one];rfl) fun m156 hn156 hg156 hk156=>?_
 have hg156:m156.get m153.n=.cells [.int .i64 w,.int .i64 h,va] 27 none:=hg156
 have hx156:Ext m153 m156:=⟨by omega,fun b hb=>by rw[hk156 b (by omega),hk155 b hb]⟩
 have n156:=hx156.n
 have hx3156:=hx330.trans (hx153.trans hx156)
 rw[aa,(ldS m156 hx3156).1,aa,aa,(ldS m156 hx3156).2,aa]
 obtain⟨w',h',vb,m163,hw',hh',hcB,hx163,hoB⟩:=ub (m:=m156) hX rs0 rs1 ((hz.aB hx3).aB hx3156) hzs lz
 refine aC hcB ?_
 have hw12':1<=w'/\w'<=12:=by omega
 have hh12':1<=h'/\h'<=12:=by omega
 have hwp':0 < w'*h':=Nat.mul_pos (by omega) (by omega)
 have hwh':w'*h'<=12*12:=Nat.mul_le_mul hw12'.2 hh12'.2
 have hneB:fx zs (w'*h')≠ []:=fun e=>by have:=congrArg List.length e;rw[gJ]at this;simp at this;omega
 have hlB:(fx zs (w'*h')).length=w'*h':=gJ
 generalize fx zs (w'*h')=lB at*
 have n163:=hx163.n
 refine au fun m165 hn165 hg165 hk165=>?_
 refine aD dw hg165 rfl rfl (by show(true && (true && (one vb && true)))=true;rw[hoB.sl.one];rfl) fun m166 hn166 hg166 hk166=>?_
 have hg166:m166.get m163.n=.cells [.int .i64 w',.int .i64 h',vb] 27 none:=hg166
 have hx166:Ext m163 m166:=⟨by omega,fun b hb=>by rw[hk166 b (by omega),hk165 b hb]⟩
 have n166:=hx166.n
 have hx3166:=hx3156.trans (hx163.trans hx166)
 obtain⟨d0,d1,d2, -⟩:=lC (hx3166.cells gR)
 have hr166:zx m166 rl rv:=(hr.aB hx3).aB hx3166
 rw[bj,aa,d0,aa,bB,aa,d1,aa,bh,aa,d2,aa,aa,d2,aa,hr166.len eK,ar,iQ,ar]
 obtain⟨kr,hkr⟩:∃kr:Nat,kr=min rl.length 100:=⟨_,rfl⟩
 rw[show min (rl.length:Int) 100=(kr:Int) by omega]
 obtain⟨rv',hsl,hR',hQ',h1',h2'⟩:∃rv',slice? TE m166 25 rv none (some (.int .i64 kr)) none=some rv'/\iV m166 (rl.take 100) rv'/\(rl.take 100≠ []->KJ m166 (rl.take 100) rv')/\one rv'=true/\cells rv'=[rv']:=by
  have hlt:(rl.take 100).length=kr:=by rw[List.length_take];omega
  rcases hr166 with⟨rfl,rfl⟩ |⟨b,o,cp,bc,rfl,hb,hel⟩
  ·obtain rfl:kr=0:=by simpa using hkr
   exact⟨.slice none 0 0,by kernel_rfl,.inl .nil,fun h=>absurd rfl h,rfl,rfl⟩
  ·have hcp:=hcap _ _ _ rfl
   have hb1:nT m166 b af.t25.es:=.inr ⟨_,hb⟩
   have hS:iV m166 (rl.take 100) (.slice (some ⟨b,o,none⟩) kr cp):=.inr (.inr ⟨b,o,cp,bc,by rw[hlt],hb,fun i x hi=>by
    have hil:=(List.getElem?_eq_some_iff.1 hi).1
    rw[hlt]at hil
    rw[List.getElem?_take_of_lt (by omega)]at hi
    exact hel i x hi⟩)
   exact⟨_,tJ (ti:=af.t25) (e:=3) oe rfl (by decide) hb1 hcp (by omega),hS,fun _=>⟨hS,b,o,cp,by rw[hlt],by omega,.inr ⟨_,hb⟩⟩,rfl,rfl⟩
 rw[hsl,aa,lY rfl rfl (by rw[h2'];rfl),aa,h2']
 refine au fun m180 hn180 hg180 hk180=>?_
 refine aD dw hg180 rfl rfl (by show(true && (true && (one rv' && true)))=true;rw[h1'];rfl) fun m181 hn181 hg181 hk181=>?_
 have hg181:m181.get m166.n=.cells [.int .i64 rw,.int .i64 rh,rv'] 27 none:=hg181
 have hx181:Ext m166 m181:=⟨by omega,fun b hb=>by rw[hk181 b (by omega),hk180 b hb]⟩
 have n181:=hx181.n
 rw[iR,ar,iQ,ar]
 obtain⟨kt,hkt⟩:∃kt:Nat,kt=min txt.length 200:=⟨_,rfl⟩
 rw[show min (txt.length:Int) 200=(kt:Int) by omega,iL (by omega),aa]
 obtain⟨t0,ht0⟩:∃t0,t0=txt.take kt:=⟨_,rfl⟩
 rw[<-ht0]
 have lt0:t0.length<=200:=by rw[ht0,List.length_take];omega
 have hbs187:az TE m181 42 1 [(0,str t0)]=some (.slice (some ⟨m181.n,0,none⟩) 1 1,m181.push (.cells [str t0] 9 none)):=by kernel_rfl
 rw[hbs187,ar]
 have hx187:Ext m181 (m181.push (.cells [str t0] 9 none)):=Ext.refl.push
 have hg187:(m181.push (.cells [str t0] 9 none)).get m181.n=.cells [str t0] 9 none:=M.aN
 have hn187:(m181.push (.cells [str t0] 9 none)).n=m181.n+1:=rfl
 generalize hm187:m181.push (.cells [str t0] 9 none)=m187 at*
 have gA:m187.get m153.n=.cells [.int .i64 w,.int .i64 h,va] 27 none:=hx187.cells (hx181.cells (hx166.cells (hx163.cells hg156)))
 have gB':m187.get m163.n=.cells [.int .i64 w',.int .i64 h',vb] 27 none:=hx187.cells (hx181.cells hg166)
 have gO:m187.get m166.n=.cells [.int .i64 rw,.int .i64 rh,rv'] 27 none:=hx187.cells hg181
 have hx3187:=hx3166.trans (hx181.trans hx187)
 rw[(lC gA).2.2.2,aa,(lC gB').2.2.2,aa,(lC gO).2.2.2,aa,aa,aa,(ldB m187 hx3187).1,aa,aa,(ldB m187 hx3187).2.1,aa,aa,(ldB m187 hx3187).2.2,aa]
 have hoA187:=(((hoA.aB hx156).aB hx163).aB hx166).aB (hx181.trans hx187)
 have hoB187:=(hoB.aB hx166).aB (hx181.trans hx187)
 obtain⟨wb,hb,lb,vB,m199,hc199,hx199,ho199,hneb,hlb⟩:=zZ (m:=m187) (w:=w) (h:=h) (n:=b1) hX hoA187.sl hneA (by omega) r0 r2
 refine aC hc199 ⟨Nat.le_refl _,?_⟩
 have n199:=hx199.n
 have hbs202:∀(p q s:Value),cells p=[p]->cells q=[q]->cells s=[s]->∀t:Value,cells t=[t]->az TE m199 44 4 [(0,cF w h p),(1,cF w' h' q),(2,cF rw rh s),(3,cF wb hb t)]=some (.slice (some ⟨m199.n,0,none⟩) 4 4,m199.push (.cells [.int .i64 w,.int .i64 h,p,.int .i64 w',.int .i64 h',q,.int .i64 rw,.int .i64 rh,s,.int .i64 wb,.int .i64 hb,t] 27 none)):=fun p q s _ _ _ t _=>by kernel_rfl
 rw[hbs202 va vb rv' hoA.sl.cells hoB.sl.cells h2' vB ho199.sl.cells,ar,LF,ar]
 have hx202:Ext m199 (m199.push (.cells [.int .i64 w,.int .i64 h,va,.int .i64 w',.int .i64 h',vb,.int .i64 rw,.int .i64 rh,rv',.int .i64 wb,.int .i64 hb,vB] 27 none)):=Ext.refl.push
 have hg202:(m199.push (.cells [.int .i64 w,.int .i64 h,va,.int .i64 w',.int .i64 h',vb,.int .i64 rw,.int .i64 rh,rv',.int .i64 wb,.int .i64 hb,vB] 27 none)).get m199.n=.cells [.int .i64 w,.int .i64 h,va,.int .i64 w',.int .i64 h',vb,.int .i64 rw,.int .i64 rh,rv',.int .i64 wb,.int .i64 hb,vB] 27 none:=M.aN
 generalize hm202:m199.push (.cells [.int .i64 w,.int .i64 h,va,.int .i64 w',.int .i64 h',vb,.int .i64 rw,.int .i64 rh,rv',.int .i64 wb,.int .i64 hb,vB] 27 none)=m202 at*
 have n202:=hx202.n
 have hxA:=hx199.trans hx202
 have gA2:=hxA.cells gA
 have DA:DV m202 w h lA va:=DV.own (hoA187.aB hxA) hneA (by omega)
 have DB:DV m202 w' h' lB vb:=DV.own (hoB187.aB hxA) hneB (by omega)
 have DO:DV m202 rw rh (rl.take 100) rv':=by
  have hxO:=(hx181.trans hx187).trans hxA
  refine⟨hR'.aB hxO,fun hd=>(hQ' fun e=>?_).aB hxO,by rw[List.length_take];omega,h1',h2'⟩
  rw[e]at hd
  simp only[gx,eA,Bool.and_eq_true,decide_eq_true_eq]at hd
  obtain⟨⟨⟨⟨a1,a2⟩,a3,a4⟩,a5⟩, -⟩:=hd
  obtain⟨u,rfl⟩:∃u:Nat,rw=u:=⟨rw.toNat,by omega⟩
  obtain⟨v,rfl⟩:∃u:Nat,rh=u:=⟨rh.toNat,by omega⟩
  have:=Nat.mul_pos (show 0 < u by omega) (show 0 < v by omega)
  rw[<-Int.natCast_mul]at a5
  simp at a5
  omega
 have DC:DV m202 wb hb lb vB:=DV.own (ho199.aB hx202) hneb (by omega)
 have elem2:∀i,i < 4->∃(wi hi:Int) (li:List Int) (vi p:Value),DV m202 wi hi li vi/\ai TE 44 (.slice (some ⟨m199.n,0,none⟩) 4 4) (.int .i64 (i:Nat))=some p/\∀mm,Ext m202 mm->ag TE mm 27 p=some (cF wi hi vi):=fun i hi=>by
  rcases(show i=0\/i=1\/i=2\/i=3 by omega)with rfl |rfl |rfl |rfl
  ·exact⟨_,_,_,_,.pointer (some ⟨m199.n,0,none⟩),DA,by kernel_rfl,fun mm hx=>by rw[bO,aE (hx.cells hg202) (by simp)];rfl⟩
  ·exact⟨_,_,_,_,.pointer (some ⟨m199.n,3,none⟩),DB,by kernel_rfl,fun mm hx=>by rw[bO,aE (hx.cells hg202) (by simp)];rfl⟩
  ·exact⟨_,_,_,_,.pointer (some ⟨m199.n,6,none⟩),DO,by kernel_rfl,fun mm hx=>by rw[bO,aE (hx.cells hg202) (by simp)];rfl⟩
  ·exact⟨_,_,_,_,.pointer (some ⟨m199.n,9,none⟩),DC,by kernel_rfl,fun mm hx=>by rw[bO,aE (hx.cells hg202) (by simp)];rfl⟩
 have hTL0:TL m202.n m181.n t0 m202 [t0] (.slice (some ⟨m181.n,0,none⟩) 1 1):=.inr ⟨rfl,rfl,by omega,hxA.cells hg187⟩
 refine Lp.intro (γ:=Nat) (fun i=>4-i) (fun i vs mm lo=>∃z vt ts,vs=[z,vt,.int .i64 i]/\i<=4/\Ext m202 mm/\m.n<=lo/\TL m202.n m181.n t0 mm ts vt/\ts.length<=1+4*i/\(∀t∈ts,t.length<=1000)/\ts[0]?=some t0) 0
  ⟨_,_,[t0],rfl,Nat.zero_le _,.refl,by omega,hTL0,by simp,fun t ht=>by rw[List.mem_singleton]at ht;subst ht;omega,rfl⟩ ?_
 rintro i vs m206 lo207 ⟨z2,vt,ts,rfl,hi4,hx206,hlo207,hTL,hlts,htsl,hts0⟩
 have n206:=hx206.n
 rw[aA,aA,aA,aH,aa,aj]
 refine ak (fun hlt=>?_) (fun hge=>?_)
 ·have hi2:i < 4:=by
   have:(i:Int)< ((4:Nat):Int):=of_decide_eq_true hlt
   omega
  obtain⟨wi,hi,li,vi,p,hD,e1,e2⟩:=elem2 i hi2
  rw[e1,aa,e2 m206 hx206,aa]
  refine au fun m217 hn217 hg217 hk217=>?_
  refine aD dw hg217 rfl rfl (by show(true && (true && (one vi && true)))=true;rw[hD.one];rfl) fun m218 hn218 hg218 hk218=>?_
  have gd:m218.get m206.n=.cells [.int .i64 wi,.int .i64 hi,vi] 27 none:=hg218
  have hx218:Ext m206 m218:=⟨by omega,fun b hb=>by rw[hk218 b (by omega),hk217 b hb]⟩
  have n218:=hx218.n
  have hx2218:=hx206.trans hx218
  have gA218:=hx2218.cells gA2
  have hDl:=hD.len
  obtain⟨ps,ec,hps,hC⟩:=Ym (X:=X) hX vA (w':=wi) (h':=hi) (l':=li) (by omega)
  obtain⟨t,et,htl,hP1,hP2⟩:=Yk (X:=X) hX hS (w:=wi) (h:=hi) (l:=li) (by omega)
  rw[(lC gA218).2.2.2,aa,(lC gd).2.2.2,aa]
  obtain⟨r222,m223,hc222,hx223,vp,rfl,hsp⟩:=(hC m218 va vi (DA.aB hx2218).sl (hD.aB hx2218).sl).1
  refine aC hc222 ?_
  rw[bw,bw]
  simp only[List.getElem?_cons_zero,List.getElem?_cons_succ,aa]
  have n223:=hx223.n
  have hx2223:=hx2218.trans hx223
  rw[(lC (hx223.cells gA218)).2.2.2,aa,(lC (hx223.cells gd)).2.2.2,aa]
  obtain⟨r229,m230,hc229,hx230,vp',rfl,hsp'⟩:=(hC m223 va vi (DA.aB hx2223).sl (hD.aB hx2223).sl).2
  refine aC hc229 ?_
  rw[bw,bw]
  simp only[List.getElem?_cons_zero,List.getElem?_cons_succ,aa]
  have n230:=hx230.n
  have hx2230:=hx2223.trans hx230
  have gd230:=hx230.cells (hx223.cells gd)
  have D230:=hD.aB hx2230
  rw[(lC gd230).2.2.2,aa]
  refine aC (hP1 m230 vi D230.sl D230.q) ?_
  rw[bw,bw]
  simp only[List.getElem?_cons_zero,List.getElem?_cons_succ,aa]
  rw[(lC gd230).2.2.2,aa]
  refine aC (hP2 m230 vi D230.sl) ?_
  rw[bw,bw]
  simp only[List.getElem?_cons_zero,List.getElem?_cons_succ,aa]
  refine bY (fun vs mm lo=>vs=[.bool false]/\m230=mm/\m.n<=lo) (fun R hR=>?_) ?_
  ·rw[(lC gd230).2.2.2,aa]
   refine aC (ej hX D230.sl (by omega)) ⟨Nat.le_refl _,?_⟩
   rw[(lC gd230).2.2.2,aa]
   refine aC (eR hX D230.sl (by omega)) ?_
   rw[Du,aa,aj,decide_eq_true rfl,Bool.not_true,aM,bI,aa,aj,decide_eq_true rfl,Bool.not_true,aM]
   refine aC (tg hX (hsp.aB hx230) hsp' (by omega)) ?_
   rw[decide_eq_true rfl,aX,aa,aj,Bool.not_true,aM,vo,aa,aj,decide_eq_true rfl,Bool.not_true,aM,bI,aa]
   exact hR _ _ _ ⟨by simp,rfl,by omega⟩
  rintro _ _ lo ⟨rfl,rfl,hlo⟩
  have hx30':Ext m206 m230:=hx218.trans (hx223.trans hx230)
  have hTL230:=hTL.aB hx30'
  obtain⟨pp,cs0,q1,q2,q3⟩:=hTL230.sl.index mj (k:=.i64) hts0
  have q3:cs0=[str t0]:=q3
  subst q3
  have q1:ai TE 42 vt (.int .i64 0)=some pp:=q1
  have q2:ag TE m230 9 pp=some (str t0):=q2
  rw[aA,aj,aM,q1,aa,q2,aa,kY (by omega),aa]
  refine Bq hTL230 (by omega) (by omega) fun vt1 m274 hTL1 hk1' hn1' hlow1=>?_
  have htsl1:∀x∈ts++ [t,t++t0],x.length<=1000:=fun x hx=>by
   rcases List.mem_append.1 hx with hx |hx
   ·exact htsl x hx
   ·simp only[List.mem_cons,List.not_mem_nil,or_false]at hx
    rcases hx with rfl |rfl
    ·omega
    ·rw[List.length_append];omega
  have hts01:(ts++ [t,t++t0])[0]?=some t0:=by rw[List.getElem?_append_left (List.getElem?_eq_some_iff.1 hts0).1,hts0]
  have hl1:(ts++ [t,t++t0]).length=ts.length+2:=by simp
  have hx274:Ext m202 m274:=⟨by omega,fun b hb=>by rw[hk1' b hb,hx30'.get b (by omega),hx206.get b hb]⟩
  rw[iR,ar,bX,aa,aj]
  refine ak (fun hgt=>?_) (fun hgt=>?_)
  ·have hgt:0 < t.length:=by
    have:(0:Int)< (t.length:Int):=of_decide_eq_true hgt
    omega
   rw[ar]
   refine aC (rK hX rp (by omega)) ?_
   have pk:=fw (c:=place) (n:=(t.length:Int)) (by omega)
   obtain⟨k,hk⟩:∃k:Nat,cM place t.length=(k:Int):=⟨(cM place t.length).toNat,by omega⟩
   rw[hk]at pk⊢
   have hkl:k < t.length:=by omega
   have htk:(t.take k).length=k:=by rw[List.length_take];omega
   have hdk:(t.drop (k+1)).length=t.length-(k+1):=List.length_drop
   have hbs283:az TE m274 52 1 [(0,.int .u8 c.toNat)]=some (.slice (some ⟨m274.n,0,none⟩) 1 1,m274.push (.cells [.int .u8 c.toNat] 5 none)):=by kernel_rfl
   rw[iL (by omega),aa,hbs283,ar]
   have hx283:Ext m274 (m274.push (.cells [.int .u8 c.toNat] 5 none)):=Ext.refl.push
   have hg283:(m274.push (.cells [.int .u8 c.toNat] 5 none)).get m274.n=.cells [.int .u8 c.toNat] 5 none:=M.aN
   generalize hm283:m274.push (.cells [.int .u8 c.toNat] 5 none)=m283 at*
   have n283:=hx283.n
   rw[Et hg283,aa,kY (by rw[htk];simp;omega),aa,aG,aa,wrap64 (by omega) (by omega),show((k:Int)+1)=((k+1:Nat):Int) by omega,lH (by omega),aa,kY (by rw[List.length_append,htk,hdk];simp;omega),aa,iL (by omega),aa]
   refine Bq (hTL1.aB hx283) (by omega) (by omega) fun vt2 m293 hTL2 hk2' hn2' hlow2=>?_
   rw[aG,aa,wrap64 (by omega) (by omega)]
   refine⟨i+1,by omega,z2,vt2,_,rfl,by omega,⟨by omega,fun b hb=>by rw[hk2' b hb,hx283.get b (by omega),hx274.get b hb]⟩,by omega,hTL2,by rw[List.length_append,hl1];simp;omega,fun x hx=>?_,by rw[List.getElem?_append_left (List.getElem?_eq_some_iff.1 hts01).1,hts01]⟩
   rcases List.mem_append.1 hx with hx |hx
   ·exact htsl1 x hx
   ·simp only[List.mem_cons,List.not_mem_nil,or_false]at hx
    rcases hx with rfl |rfl
    ·rw[List.length_append,List.length_append,htk,hdk];simp;omega
    ·rw[htk];omega
  ·rw[aG,aa,wrap64 (by omega) (by omega)]
   exact⟨i+1,by omega,z2,vt1,_,rfl,by omega,hx274,by omega,hTL1,by rw[hl1];omega,htsl1,hts01⟩
 ·refine Lp.intro (γ:=Nat) (fun j=>ts.length-j) (fun j vs mm lo=>∃z,vs=[z,.int .i64 j]/\j<=ts.length/\Ext m206 mm/\m.n<=lo) 0 ⟨_,rfl,Nat.zero_le _,.refl,hlo207⟩ ?_
  rintro j vs m298 lo299 ⟨z3,rfl,hj,hx298,hlo299⟩
  have n298:=hx298.n
  have hTLm:=hTL.aB hx298
  rw[aA,aA,hTLm.sl.len mj,ar,aH,aa,aj]
  refine ak (fun hlt=>?_) (fun hge2=>⟨rfl,hlo299⟩)
  have hjl:j < ts.length:=by simpa using hlt
  obtain⟨s,hs⟩:∃s,ts[j]?=some s:=⟨_,List.getElem?_eq_getElem hjl⟩
  have hsl:=htsl s (List.mem_of_getElem? hs)
  have idx:∀mm:M,Ext m298 mm->∃p,ai TE 42 vt (.int .i64 j)=some p/\ag TE mm 9 p=some (str s):=fun mm hx=>by
   obtain⟨p,cs0,q1,q2,q3⟩:=(hTLm.aB hx).sl.index mj (k:=.i64) hs
   have q3:cs0=[str s]:=q3
   subst q3
   exact⟨p,q1,q2⟩
  obtain⟨p,q1,q2⟩:=idx m298 .refl
  rw[q1,aa,q2,aa]
  obtain⟨wp,hp,cp,ep,hcp,hPa⟩:=QB (X:=X) hX hS hsl
  refine jR (hPa m298).1 fun m309 m314 va' hx314 h309 h309' hg314 hs314=>?_
  have n314:=hx314.n
  obtain⟨p',q1',q2'⟩:=idx m314 hx314
  obtain rfl:p=p':=Option.some.inj (q1.symm.trans q1')
  rw[aa,q2',aa]
  refine jR (hPa m314).2 fun m319 m324 vb' hx324 h319 h319' hg324 hs324=>?_
  have n324:=hx324.n
  refine bY (fun vs mm lo=>vs=[.bool false]/\m324=mm/\m.n<=lo) (fun R hR=>?_) ?_
  ·rw[bI,aa,aj,decide_eq_true rfl,Bool.not_true,aM]
   exact qQ hX (hx324.cells hg314) hg324 (hs314.aB hx324) hs324 hcp (hR _ _ _ ⟨rfl,rfl,by omega⟩)
  rintro _ _ lo ⟨rfl,rfl,hlo⟩
  rw[aA,aj,aM,aG,aa,wrap64 (by omega) (by omega)]
  exact⟨j+1,by omega,z3,rfl,by omega,hx298.trans (hx314.trans hx324),hlo⟩
end Go.Proofs.YtmdfgncoekfgdaaGreatDoor
namespace Go.Proofs.YtmdfgncoekfgdaaGreatDoor
open Go Go.D
noncomputable abbrev XP:aF:=Gq lg (mQ hO)
theorem Pe:cQ Tryz.prog XP:=Gn FU (wU Kk rfl rfl)
theorem Pf:cW XP:=⟨fun f hf args m=>by
 simp only[Bool.or_eq_false_iff]at hf
 obtain⟨⟨⟨⟨⟨⟨⟨⟨⟨⟨⟨h1,h2⟩,h3⟩,h4⟩,h5⟩, -⟩, -⟩, -⟩, -⟩, -⟩, -⟩, -⟩:=hf
 refine Gp (xB h1 args m) ?_
 show(bif Nat.beq f hO.cc then JO hO.T args m else bif Nat.beq f hO.st then rr hO.T hO.U args m else bif Nat.beq f hO.jn then Kt args m else bif Nat.beq f hO.gs then Ku hO.S args m else none)=none
 rw[show Nat.beq f hO.cc=false from h4,show Nat.beq f hO.st=false from h5,show Nat.beq f hO.jn=false from h2,show Nat.beq f hO.gs=false from h3]
 rfl⟩
theorem JT(m:M)(h:2 < m.n):C XP (.func 8) [] m m.n (.bool true) m:=
 Cl.known (fun l=>by
  have:=zS (m.wl l) h
  show Gq lg (mQ hO) _ _ _=_
  unfold Gq
  rw[this]) (Nat.le_refl _) ⟨_,rfl⟩
theorem Ng:EI XP:=by
 constructor <;>intro args m r h <;>(show Gq lg (mQ hO) _ _ _=_)<;>unfold Gq <;>rw[xB (by kernel_rfl)] <;>exact h
end Go.Proofs.YtmdfgncoekfgdaaGreatDoor
