/- The functions that sort places .. -/
import Derived.Test.YtigpcbodmjjaiaaGreatDoorG15J
import Derived.Test.YtigpcbodmjjaiaaGreatDoorG17J
namespace Go.Proofs.YtigpcbodmjjaiaaGreatDoor
open Go Go.D Go.Shelf Go.RowKit Go.Lib Go.Sort Go.Proofs Go.Proofs.Tryz
instance:Inhabited Pl:=⟨⟨0,0⟩⟩
instance:Inhabited Fc:=⟨⟨0,0⟩⟩
def Ys:aeN->Option Pl
 |[.int .i64 a,.int .i64 b]=>some ⟨a,b⟩
 |_=>none
def Yt:aeN->Option Fc
 |[.int .i64 a,.int .i64 b]=>some ⟨a,b⟩
 |_=>none
def qR:Qr Pl:=⟨233,2,Ys,Pl.c,qM (ltOf (jS Pl.x Pl.y)),okF 195⟩
def yd:Qr Fc:=⟨33,2,Yt,Fc.c,qM (ltOf (jS Fc.un Fc.side)),okF 34⟩
theorem M1:Qg Tryz.prog qR where
 Za:=enters_of func233 (by kernel_rfl) rfl
 dec:=λcs x h=>by
  unfold qR Ys at h
  dsimp only at h
  split at h
  ·cases h;rfl
  ·cases h
 flat:=λ_=>rfl
 len:=λ_=>rfl
 res:=λl=>(kI (lX _ _) l).length_eq
 more:=λmore h=>by rw[okF_eq h];rfl
 go:=λmore cI off cap l w H hH hblk hl=>by
  rw[okF_eq H]
  have eg:∀args w,(callFunc 195 args).run Tryz.prog w=.ok (.enter 195 args) w:=enters_of func195 (by kernel_rfl) rfl
  have a0:CmpLays Tryz.prog 195 #[] Pl.c 2 (jS Pl.x Pl.y) cI off l.toArray.size w:=λ_ _ _ _ x y=>Tryz.TR (x.x,x.y) (y.x,y.y) _
  have b0:HoldsK Pl.c 2 w cI off l.toArray:=by
   unfold HoldsK
   rw[nR (enc:=Pl.c) (k:=2) (λ_=>rfl)];exact hH
  have h:=AnyQ.slices_SortFunc_eq Tryz.W2 2 isAgg141 sizeOf141 Pl.c (λ_=>rfl) (λx v hv=>by simp[Pl.c]at hv;rcases hv with rfl |rfl <;>rfl) (jS Pl.x Pl.y) (lX _ _) 195 #[] cI off cap l.toArray w eg a0 b0 hblk (by grind)
  refine Calls.mono h ?_
  rintro e w' ⟨rfl,n,os,rfl⟩
  refine⟨rfl,n,os,?_⟩
  have e:=nR (enc:=Pl.c) (k:=2) (λ_=>rfl) (qM (ltOf (jS Pl.x Pl.y)) l)
  have e2:(qM (ltOf (jS Pl.x Pl.y)) l).toArray=pdq (ltOf (jS Pl.x Pl.y)) l.toArray 0 l.toArray.size (Lib.bitLen l.toArray.size) true true:=by
   unfold qM
   simp
  rw[e2]at e
  unfold sortWorldK putRowK
  rw[e];rfl
 none:=λmore w H=>by
  rw[okF_eq H]
  exact AnyF.slices_SortFunc_none Tryz.W2 none 0 _ w
theorem M4:Qg Tryz.prog yd where
 Za:=enters_of func33 (by kernel_rfl) rfl
 dec:=λcs x h=>by
  unfold yd Yt at h
  dsimp only at h
  split at h
  ·cases h;rfl
  ·cases h
 flat:=λ_=>rfl
 len:=λ_=>rfl
 res:=λl=>(kI (lX _ _) l).length_eq
 more:=λmore h=>by rw[okF_eq h];rfl
 go:=λmore cI off cap l w H hH hblk hl=>by
  rw[okF_eq H]
  have eg:∀args w,(callFunc 34 args).run Tryz.prog w=.ok (.enter 34 args) w:=enters_of func34 (by kernel_rfl) rfl
  have a0:CmpLays Tryz.prog 34 #[] Fc.c 2 (jS Fc.un Fc.side) cI off l.toArray.size w:=λ_ _ _ _ x y=>Tryz.TS (x.un,x.side) (y.un,y.side) _
  have b0:HoldsK Fc.c 2 w cI off l.toArray:=by
   unfold HoldsK
   rw[nR (enc:=Fc.c) (k:=2) (λ_=>rfl)];exact hH
  have h:=AnyQ.slices_SortFunc_eq Tryz.W3 2 isAgg53 sizeOf53 Fc.c (λ_=>rfl) (λx v hv=>by simp[Fc.c]at hv;rcases hv with rfl |rfl <;>rfl) (jS Fc.un Fc.side) (lX _ _) 34 #[] cI off cap l.toArray w eg a0 b0 hblk (by grind)
  refine Calls.mono h ?_
  rintro e w' ⟨rfl,n,os,rfl⟩
  refine⟨rfl,n,os,?_⟩
  have e:=nR (enc:=Fc.c) (k:=2) (λ_=>rfl) (qM (ltOf (jS Fc.un Fc.side)) l)
  have e2:(qM (ltOf (jS Fc.un Fc.side)) l).toArray=pdq (ltOf (jS Fc.un Fc.side)) l.toArray 0 l.toArray.size (Lib.bitLen l.toArray.size) true true:=by
   unfold qM
   simp
  rw[e2]at e
  unfold sortWorldK putRowK
  rw[e];rfl
 none:=λmore w H=>by
  rw[okF_eq H]
  exact AnyF.slices_SortFunc_none Tryz.W3 none 0 _ w
theorem IB(x y:Pl):(tm x y < 0)↔ltOf (jS Pl.x Pl.y) x y:=by
 rw[qD,abv]
 unfold tm dt
 grind
theorem Q3(p q:Pl):qM (ltOf (jS Pl.x Pl.y)) [p,q]=[fS p q,yS p q]:=by
 have hO:=lX Pl.x Pl.y
 have H:=kI hO [p,q]
 have hs:=(pdq_sorts (ltOf (jS Pl.x Pl.y)) hO [p,q].toArray 0 2 (Lib.bitLen 2) true true (abh _) (aa4 _) (Or.inl rfl)).2 0 1 (aa4 _) (by decide) (by decide)
 obtain⟨d,hd⟩:∃d,d=qM (ltOf (jS Pl.x Pl.y)) [p,q]:=⟨_,rfl⟩
 have a0:pdq (ltOf (jS Pl.x Pl.y)) [p,q].toArray 0 2 (Lib.bitLen 2) true true=d.toArray:=by rw[hd];unfold qM;simp
 rw[a0]at hs
 rw[<-hd]at H⊢
 unfold fS yS
 have hlen:=H.length_eq
 match d,hlen with
 |[a,b],_=>
  have hs:ltOf (jS Pl.x Pl.y) b a=false:=by grind
  have hc:(a=p/\b=q)\/(a=q/\b=p):=by
   have ha:a∈ [p,q]:=H.mem_iff.1 (by simp);rw[abp,abE]at ha;rcases ha with rfl |rfl
   ·have:=(List.perm_cons a).1 H
    simp_all
   ·have h2:[a,b].Perm [a,p]:=H.trans (List.Perm.swap _ _ _)
    have:=(List.perm_cons a).1 h2
    simp_all
  rcases hc with⟨rfl,rfl⟩ |⟨rfl,rfl⟩
  ·have:¬tm b a < 0:=λh=>by rw[(IB _ _).1 h]at hs;cases hs
   rw[abd this,abd this]
  by_cases h:tm a b < 0
  ·grind
  rw[abd h,abd h];have h1:¬ltOf (jS Pl.x Pl.y) a b=true:=λq=>h ((IB _ _).2 q)
  have e:a=b:=by
   rw[qD,abv]at h1
   rw[qD,acj]at hs
   cases a;cases b
   grind
  rw[e]
theorem Dx{α:Type}{N:Qr α}(hd:∀x,N.dec (N.enc x)=some x)(hk:∀x,(N.enc x).length=N.k)(H:0 < N.k)(d0:∀l,(N.res l).length=l.length){m:M}{b c:Nat}{l:List α}{more:aeN}{e:TypeId}{g:Option Nat}(hg:m.get b=.cells (l.flatMap N.enc) e g)(e0:0 < l.length)(hl:l.length<=1000)(a0:N.ok more)(lw:Nat):
  oW N (.func N.S) (aeL b 0 l.length c::more) (m.wl lw)=some (.tuple #[],(m.set b (.cells ((N.res l).flatMap N.enc) e g)).wl (min lw b)):=by
 have g0:=iw hk l;have b0:(m.wl lw).get b=.cells (l.flatMap N.enc) e g:=hg;have hmul:l.length<=l.length*N.k:=Nat.le_mul_of_pos_right _ H;have c1:Nat.ble 1 (l.length*N.k):=abT (by omega);have c2:Nat.ble (0+l.length*N.k) (l.flatMap N.enc).length:=abT (by omega);have c3:Nat.ble l.length 1048576:=abT (by omega);have e1:((l.flatMap N.enc).drop 0).take (l.length*N.k)=l.flatMap N.enc:=by grind
 have e2:(l.flatMap N.enc).take 0++((N.res l).flatMap N.enc++(l.flatMap N.enc).drop (0+l.length*N.k))=(N.res l).flatMap N.enc:=by
  grind
 unfold oW;dsimp only;rw[show Nat.beq N.S N.S=true from acq _,cond_true];rw[b0];dsimp only;rw[a0,c1,c2,c3];simp only[aeA,aet,cond_true,e1,EI hd hk l,e2];rfl
theorem M0{α:Type}{N:Qr α}{m:M}{more:aeN}(H:N.ok more):oW N (.func N.S) (aeQ::more) m=some (.tuple #[],m):=by
 unfold oW
 simp_all
theorem BJ{α:Type}{N:Qr α}{f:Nat}(h:Nat.beq f N.S=false)(args:aeN)(m:M):oW N (.func f) args m=none:=by
 unfold oW
 grind
theorem wz{α:Type}[aZ α]{enc:α->aeN}(he:∀(m:M) (x:α) (cs:aeN),aZ.rep m x cs->cs=enc x){m:M}:∀(l:List α) (cs:aeN),cs.length=l.length*aZ.sz α->(∀i x,l[i]?=some x->aZ.rep m x (chunk cs (aZ.sz α) i))->cs=l.flatMap enc
 |[],cs,h,_=>by
  simp_all
 |x::r,cs,h,H=>by
  rw[abr,acg,acW]at h
  have h0:=he m x _ (H 0 x rfl)
  have h1:=wz he r (cs.drop (aZ.sz α)) (by grind) λi y hi=>by
   have:=H (i+1) y hi
   simp only[chunk,acg,acW]at this
   simp only[chunk,ac2]
   rw[adT (aZ.sz α)]
   exact this
  rw[acw,<-h0,<-h1]
  simp only[chunk,ac4,abU]
  exact(ab5 _ _).symm
theorem QO{α:Type}[aZ α]{N:Qr α}(i0:aZ.eB α=[])(a0:aZ.sz α=N.k)(e0:0 < N.k)(hd:∀x,N.dec (N.enc x)=some x)(hk:∀x,(N.enc x).length=N.k)(H:∀l,(N.res l).length=l.length)
  (he:∀(m:M) (x:α) (cs:aeN),aZ.rep m x cs->cs=N.enc x) (j0:∀(m:M) (x:α),aZ.rep m x (N.enc x)) {more:aeN} (b0:N.ok more)
  {X:aK} (d0:∀{args:aeN} {m:M} {r:aeM×M},oW N (.func N.S) args m=some r->X (.func N.S) args m=some r)
  {m:M} {n1:Nat} {l:List α} {v:aeM} (hn:n1<=m.n) (hw:Ow n1 m l v) (hl:l.length<=1000):
  ∃m' b,C X (.func N.S) (v::more) m b (.tuple #[]) m'/\Ow n1 m' (N.res l) v/\n1<=b/\m'.n=m.n/\∀c,(∀a n k,v=.slice (some a) n k->c≠a.block)->m'.get c=m.get c:=by
 rcases hw with⟨rfl,rfl⟩ |⟨b,cs,rfl,h2,h3,h4,h5,h6⟩
 ·refine⟨m,m.n,Cl.known (λlw=>d0 (M0 b0)) (aa4 _) ⟨_,rfl⟩,?_,hn,rfl,λ_ _=>rfl⟩;have:N.res ([]:List α)=[]:=adE.1 (H []);rw[this];exact Ow.nil
 ·have g0:cs=l.flatMap N.enc:=wz he l cs h5 h6
  subst g0
  have hb:=M.bk h4
  have h0:((N.res l).flatMap N.enc).length=(N.res l).length*aZ.sz α:=by rw[iw hk,a0]
  refine⟨m.set b (.cells ((N.res l).flatMap N.enc) (aZ.ty α) (some (aZ.sz α))),b,Cl.Ov (λlw _=>d0 (Dx hd hk e0 H h4 h2 hl b0 lw)) (aa4 _) (Nat.le_of_lt hb),?_,h3,rfl,λc hc=>M.dP (hc _ _ _ rfl)⟩
  refine .inr ⟨b,_,by grind,by grind,h3,M.eK hb,h0,λi x hi=>?_⟩
  have k0:∀(l:List α) (i:Nat) (x:α),l[i]?=some x->chunk (l.flatMap N.enc) (aZ.sz α) i=N.enc x:=by
   intro l
   induction l with
   |nil=>intro i x hi;simp at hi
   |cons y r ih=>
    intro i x hi
    rw[acw,a0]
    cases i with
    |zero=>
     cases hi
     simp only[chunk,ac4,abU]
     grind
    |succ i=>
     have:=ih i x hi
     rw[a0]at this
     simp only[chunk]at this⊢
     rw[acg,acW,adT,List.drop_append,hk,ac3 (by grind),ab6,aei]
     grind
  grind
theorem QP{X:aK}(H:∀{args:aeN} {m:M} {r:aeM×M},oW qR (.func qR.S) args m=some r->X (.func qR.S) args m=some r)(hF:∀{args:aeN} {m:M} {r:aeM×M},oW yd (.func yd.S) args m=some r->X (.func yd.S) args m=some r):zG X (qM (ltOf (jS Fc.un Fc.side))) where
 perm:=kI (lX _ _)
 pl:=λm b p q h=>by
  have h':m.get b=.cells ([p,q].flatMap qR.enc) 141 none:=by rw[h];rfl
  have hb:=M.bk h
  have e:(qR.res [p,q]).flatMap qR.enc=(fS p q).c++(yS p q).c:=by
   show(qM (ltOf (jS Pl.x Pl.y)) [p,q]).flatMap Pl.c=_
   rw[Q3]
   simp
  refine Cl.Ov (λlw _=>H ?_) (aa4 _) (Nat.le_of_lt hb)
  have:=Dx (N:=qR) (c:=2) (more:=[.func (.func 195) #[] #[]]) (λ_=>rfl) (λ_=>rfl) (by decide) (λl=>(kI (lX _ _) l).length_eq) h' (by grind) (by grind) rfl lw
  grind
 fc:=λm n1 l v hn hw hl=>QO (N:=yd) rfl rfl (by decide) (λ_=>rfl) (λ_=>rfl) (λl=>(kI (lX _ _) l).length_eq) (λ_ _ _ h=>h) (λ_ _=>rfl) rfl hF hn hw hl
end Go.Proofs.YtigpcbodmjjaiaaGreatDoor
