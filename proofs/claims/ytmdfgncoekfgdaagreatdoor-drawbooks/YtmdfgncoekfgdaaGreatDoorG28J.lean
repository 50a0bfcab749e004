/-  -/
import Derived.Test.YtmdfgncoekfgdaaGreatDoorG16J
import Derived.Test.YtmdfgncoekfgdaaGreatDoorXaJ
namespace Go.Proofs.YtmdfgncoekfgdaaGreatDoor
open Go Go.D Go.Shelf Go.RowKit Go.Lib Go.Sort Go.Proofs
theorem xY{α:Type}{N:JQ α}(hd:∀x,N.dec (N.enc x)=some x)(hk:∀x,(N.enc x).length=N.k)(hk0:0 < N.k)(hres:∀l,(N.res l).length=l.length){m:M}{b c:Nat}{l:List α}{more:List Value}{e:TypeId}{g:Option Nat}(hg:m.get b=.cells (l.flatMap N.enc) e g)(hne:0 < l.length)(hl:l.length<=1000)(hok:N.ok more=true)(lw:Nat):
  kL N (.func N.S) (.slice (some ⟨b,0,none⟩) l.length c::more) (m.wl lw)=some (.tuple #[],(m.set b (.cells ((N.res l).flatMap N.enc) e g)).wl (min lw b)):=by
 have hfl:=fQ hk l
 have hg':(m.wl lw).get b=.cells (l.flatMap N.enc) e g:=hg
 have hmul:l.length<=l.length*N.k:=Nat.le_mul_of_pos_right _ hk0
 have c1:Nat.ble 1 (l.length*N.k)=true:=Nat.ble_eq_true_of_le (by omega)
 have c2:Nat.ble (0+l.length*N.k) (l.flatMap N.enc).length=true:=Nat.ble_eq_true_of_le (by omega)
 have c3:Nat.ble l.length 1048576=true:=Nat.ble_eq_true_of_le (by omega)
 have e1:((l.flatMap N.enc).drop 0).take (l.length*N.k)=l.flatMap N.enc:=by rw[List.drop_zero,List.take_of_length_le (by omega)]
 have e2:(l.flatMap N.enc).take 0++((N.res l).flatMap N.enc++(l.flatMap N.enc).drop (0+l.length*N.k))=(N.res l).flatMap N.enc:=by
  rw[List.take_zero,List.nil_append,List.drop_eq_nil_of_le (by omega),List.append_nil]
 unfold kL
 dsimp only
 rw[show Nat.beq N.S N.S=true from Nat.beq_refl _,cond_true]
 rw[hg']
 dsimp only
 rw[hok,c1,c2,c3]
 simp only[Option.isNone_none,Bool.and_self,cond_true,e1,zP hd hk l,e2]
 rfl
theorem GP{α:Type}{N:JQ α}{m:M}{more:List Value}(hok:N.ok more=true):kL N (.func N.S) (.slice none 0 0::more) m=some (.tuple #[],m):=by
 unfold kL
 dsimp only
 rw[show Nat.beq N.S N.S=true from Nat.beq_refl _,cond_true]
 show(bif N.ok more then some (Value.tuple #[],m)else none)=_
 rw[hok];rfl
theorem mC{α:Type}{N:JQ α}{f:Nat}(h:Nat.beq f N.S=false)(args:List Value)(m:M):kL N (.func f) args m=none:=by
 unfold kL
 dsimp only
 rw[h,cond_false]
noncomputable abbrev XP:aF:=yV jP (yV (kL qJ) (yV (kL xZ) (kL pX)))
theorem QT:cB Tryz.prog XP:=vY Ha (vY (vQ GQ rfl) (vY (vQ GU rfl) (vQ DT rfl)))
theorem QU:dF XP:=⟨fun f hf args m=>by
 simp only[Bool.or_eq_false_iff]at hf
 obtain⟨⟨⟨⟨⟨⟨⟨⟨⟨⟨h1, -⟩, -⟩, -⟩, -⟩,h6⟩,h7⟩,h8⟩, -⟩, -⟩, -⟩:=hf
 exact sO (oH h1 args m) (sO (mC h7 args m) (sO (mC h8 args m) (mC h6 args m)))⟩
theorem LG(m:M)(h:2 < m.n):C XP (.func 8) [] m m.n (.bool true) m:=
 Cl.known (fun l=>by
  have:=AA (m.wl l) h
  show yV jP _ _ _ _=_
  unfold yV
  rw[this]) (Nat.le_refl _) ⟨_,rfl⟩
theorem QS{args:List Value}{m:M}{r:Value×M}(h:kL qJ (.func 367) args m=some r):XP (.func 367) args m=some r:=by
 show yV jP _ _ _ _=_
 unfold yV
 rw[oH (by kernel_rfl)]
 dsimp only
 rw[h]
theorem QV{args:List Value}{m:M}{r:Value×M}(h:kL xZ (.func 183) args m=some r):XP (.func 183) args m=some r:=by
 show yV jP _ _ _ _=_
 unfold yV
 rw[oH (by kernel_rfl)]
 dsimp only
 rw[mC (by kernel_rfl)]
 dsimp only
 rw[h]
theorem OU{args:List Value}{m:M}{r:Value×M}(h:kL pX (.func 103) args m=some r):XP (.func 103) args m=some r:=by
 show yV jP _ _ _ _=_
 unfold yV
 rw[oH (by kernel_rfl)]
 dsimp only
 rw[mC (by kernel_rfl)]
 dsimp only
 rw[mC (by kernel_rfl)]
 dsimp only
 exact h
theorem qV{α:Type}[aY α]{enc:α->List Value}(he:∀(m:M) (x:α) (cs:List Value),aY.rep m x cs->cs=enc x){m:M}:∀(l:List α) (cs:List Value),cs.length=l.length*aY.sz α->(∀i x,l[i]?=some x->aY.rep m x (chunk cs (aY.sz α) i))->cs=l.flatMap enc
 |[],cs,h,_=>by
  have:cs=[]:=List.eq_nil_of_length_eq_zero (by simpa using h)
  rw[this];rfl
 |x::r,cs,h,hr=>by
  rw[List.length_cons,Nat.add_mul,Nat.one_mul]at h
  have h0:=he m x _ (hr 0 x rfl)
  have h1:=qV he r (cs.drop (aY.sz α)) (by rw[List.length_drop];omega) fun i y hi=>by
   have:=hr (i+1) y hi
   simp only[chunk,Nat.add_mul,Nat.one_mul]at this
   simp only[chunk,List.drop_drop]
   rw[Nat.add_comm (aY.sz α)]
   exact this
  rw[List.flatMap_cons,<-h0,<-h1]
  simp only[chunk,Nat.zero_mul,List.drop_zero]
  exact(List.take_append_drop _ _).symm
end Go.Proofs.YtmdfgncoekfgdaaGreatDoor
namespace Go.Proofs.YtmdfgncoekfgdaaGreatDoor
open Go Go.D Go.Shelf Go.RowKit Go.Lib Go.Sort Go.Proofs
theorem Cb{α:Type}[aY α]{N:JQ α}(hty:aY.jN α=[])(hsz:aY.sz α=N.k)(hk0:0 < N.k)(hd:∀x,N.dec (N.enc x)=some x)(hk:∀x,(N.enc x).length=N.k)(hres:∀l,(N.res l).length=l.length)
  (he:∀(m:M) (x:α) (cs:List Value),aY.rep m x cs->cs=N.enc x) (he':∀(m:M) (x:α),aY.rep m x (N.enc x)) {more:List Value} (hok:N.ok more=true)
  (hXP:∀{args:List Value} {m:M} {r:Value×M},kL N (.func N.S) args m=some r->XP (.func N.S) args m=some r)
  {m:M} {n1:Nat} {l:List α} {v:Value} (hn:n1<=m.n) (hw:Ow n1 m l v) (hl:l.length<=1000):
  ∃m' b,C XP (.func N.S) (v::more) m b (.tuple #[]) m'/\Ow n1 m' (N.res l) v/\n1<=b/\m'.n=m.n/\∀c,(∀a n k,v=.slice (some a) n k->c≠a.block)->m'.get c=m.get c:=by
 rcases hw with⟨rfl,rfl⟩ |⟨b,cs,rfl,h2,h3,h4,h5,h6⟩
 ·refine⟨m,m.n,Cl.known (fun lw=>hXP (GP hok)) (Nat.le_refl _) ⟨_,rfl⟩,?_,hn,rfl,fun _ _=>rfl⟩
  have:N.res ([]:List α)=[]:=List.length_eq_zero_iff.1 (hres [])
  rw[this]
  exact Ow.nil
 ·have hcs:cs=l.flatMap N.enc:=qV he l cs h5 h6
  subst hcs
  have hb:=M.aI h4
  have hrl:((N.res l).flatMap N.enc).length=(N.res l).length*aY.sz α:=by rw[fQ hk,hsz]
  refine⟨m.set b (.cells ((N.res l).flatMap N.enc) (aY.ty α) (some (aY.sz α))),b,Cl.HZ (fun lw _=>hXP (xY hd hk hk0 hres h4 h2 hl hok lw)) (Nat.le_refl _) (Nat.le_of_lt hb),?_,h3,rfl,fun c hc=>M.cp (hc _ _ _ rfl)⟩
  refine .inr ⟨b,_,by rw[hres],by rw[hres];exact h2,h3,M.cA hb,hrl,fun i x hi=>?_⟩
  have hch:∀(l:List α) (i:Nat) (x:α),l[i]?=some x->chunk (l.flatMap N.enc) (aY.sz α) i=N.enc x:=by
   intro l
   induction l with
   |nil=>intro i x hi;simp at hi
   |cons y r ih=>
    intro i x hi
    rw[List.flatMap_cons,hsz]
    cases i with
    |zero=>
     cases hi
     simp only[chunk,Nat.zero_mul,List.drop_zero]
     rw[List.take_append_of_le_length (by rw[hk];exact Nat.le_refl _),List.take_of_length_le (by rw[hk];exact Nat.le_refl _)]
    |succ i=>
     have:=ih i x hi
     rw[hsz]at this
     simp only[chunk]at this⊢
     rw[Nat.add_mul,Nat.one_mul,Nat.add_comm,List.drop_append,hk,List.drop_eq_nil_of_le (by rw[hk];omega),List.nil_append,Nat.add_sub_cancel_left]
     exact this
  rw[hch _ i x hi]
  exact he' _ _
theorem OT:xF XP (nK (ltOf (iW Ct.a Ct.b))) where
 perm:=je (jV _ _)
 pl:=fun m b p q h=>by
  have h':m.get b=.cells ([p,q].flatMap qJ.enc) 98 none:=by rw[h];rfl
  have hb:=M.aI h
  have e:(qJ.res [p,q]).flatMap qJ.enc=(eZ p q).c++(tA p q).c:=by
   show(nK (ltOf (iW Pl.x Pl.y)) [p,q]).flatMap Pl.c=_
   rw[KC]
   simp
  refine Cl.HZ (fun lw _=>QS ?_) (Nat.le_refl _) (Nat.le_of_lt hb)
  have:=xY (N:=qJ) (c:=2) (more:=[.func (.func 331) #[] #[]]) (fun _=>rfl) (fun _=>rfl) (by decide) (fun l=>(je (jV _ _) l).length_eq) h' (by show 0 < 2;decide) (by show 2<=1000;decide) rfl lw
  rw[e]at this
  exact this
 ct:=fun m n1 l v hn hw hl=>Cb (N:=xZ) rfl rfl (by decide) (fun _=>rfl) (fun _=>rfl) (fun l=>(je (jV _ _) l).length_eq) (fun _ _ _ h=>h) (fun _ _=>rfl) rfl QV hn hw hl
 int:=fun m n1 l v hn hw hl=>Cb (N:=pX) rfl rfl (by decide) (fun _=>rfl) (fun _=>rfl) (fun l=>(fN l).length_eq) (fun _ _ _ h=>h) (fun _ _=>rfl) rfl OU hn hw hl
end Go.Proofs.YtmdfgncoekfgdaaGreatDoor
