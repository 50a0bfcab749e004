/- The program logic over D, its .. -/
import Derived.Test.YtigpcbodmjjaiaaGreatDoorG1J
namespace Go.D
open Go
section
section
variable {E:Env} {m:M} {T:TypeId} {ti:TI} {e:TypeId} {b n:Nat} {cs:aeN} {te:TypeId} {k:Nat}
theorem pZ{i y:Nat}(h:i<=y):sq (aeP i) y=some i:=by
 unfold sq
 grind
end
section
variable {E:Env} {α:Type} [aZ α] {n1:Nat} {m:M} {T:TypeId}
theorem qc(hT:ur E T α){ys:List α}{y:aeM}{b:Nat}{te:TypeId}(h:m.get b=.cells [] te none)(hy:Sl m ys y)(d0:ys≠ [])(hs:ys.length<=1000000):
  ∃v' m1,aw E (m.wl m.n) .append [T,T] [aeL b 0 0 0,y]=some (v',m1)/\Ow m.n m1 ys v'/\Ext m m1/\m1.low=m.n:=by
 have⟨ti,ei,t1,t2,t3,t4,t5,t6⟩:=hT;have⟨news,e1,e2,e3,e4,e5⟩:=hy.first;have g0:=aZ.pos (α:=α);have a0:0 < ys.length:=aev.2 d0
 have hc:(Nat.beq ti.es 0 ||Nat.blt 65536 ei.bytes || !news.all D.one ||Nat.blt 268435456 (0+ys.length) || !Nat.beq news.length (ys.length*ti.es) || !gV ei.zero ti.es)=false:=by
  have c1:Nat.beq ti.es 0=false:=by
   cases hb:Nat.beq ti.es 0 with
   |false=>rfl
   |true=>have:=abn hb;omega
  have c2:Nat.blt 65536 ei.bytes=false:=by
   cases hb:Nat.blt 65536 ei.bytes with
   |false=>rfl
   |true=>rw[adb]at hb;omega
  have c3:Nat.blt 268435456 (0+ys.length)=false:=by
   cases hb:Nat.blt 268435456 (0+ys.length)with
   |false=>rfl
   |true=>rw[adb]at hb;omega
  simp_all
 have H:first? (m.wl m.n) ti.es ys.length y=some news:=by rw[cy,t3];exact e2
 have b0:Nat.ble (0+ys.length) 0=false:=by
  cases hb:Nat.ble (0+ys.length) 0 with
  |false=>rfl
  |true=>have:=abB hb;omega
 have hg:(m.wl m.n).get b=.cells [] te none:=h;refine⟨aeL m.n 0 ys.length ys.length,(m.wl m.n).push (.cells news (aZ.ty α) (some (aZ.sz α))),?_,?_,⟨acs _,λc hc=>by rw[M.cD (m:=m.wl m.n) hc];rfl⟩,rfl⟩
 ·simp only[aw,eA,t1,e1,t2,t4,H,hc,b0,abm,lZ,hg];have e0:(bif Nat.beq 0 0 then some []else loadCells (m.wl m.n) ⟨b,0,none⟩ (0*ti.es))=some ([]:aeN):=rfl;simp only[e0,e1,cond_true,abV,ab6,t3];rfl
 exact .inr ⟨m.n,news,rfl,a0,aa4 _,M.aU (m:=m.wl m.n),e3,λi x hi=>aZ.aF (e5 i x hi) ⟨acs _,λc hc=>by rw[M.cD (m:=m.wl m.n) hc];rfl⟩⟩
end
end
section
section
variable {E:Env} {m m1:M} {T U:TypeId} {v':aeM} {c:Nat}
theorem uG{a:Addr}{vs:aeN}(h:storeCells m a vs=some m1)(H:c≠a.block):m1.get c=m.get c:=by
 unfold storeCells at h
 cases hb:m.get a.block with
 |cells cs e g=>
  simp only[hb]at h
  cases hc:(a.spot.isNone && Nat.ble (a.off+vs.length) cs.length && vs.all one)with
  |true=>rw[hc,cond_true]at h;cases h;exact M.dP H
  |false=>rw[hc,abm]at h;cases h
 |_=>simp only[hb]at h;cases h
theorem Ep{e k:Nat}{base:Option Addr}{sl sc H:Nat}{news:aeN}(h:lZ m e k base sl sc H news=some (v',m1))(hc:c < m.n)(hs:∀a,base=some a->c≠a.block):m1.get c=m.get c:=by
 unfold lZ at h
 cases base with
 |none=>
  cases h1:(Nat.beq sl 0 && Nat.beq sc 0)with
  |true=>rw[h1,cond_true]at h;cases h;exact M.cD hc
  |false=>rw[h1,abm]at h;cases h
 |some a=>
  cases hb:m.get a.block with
  |cells cs te g=>
   cases ho:(bif Nat.beq sl 0 then some []else loadCells m a (sl*k))with
   |none=>simp only[hb,ho]at h;cases h
   |some fR=>
    simp only[hb,ho]at h
    cases h1:(g.isNone ||(g==some k && Nat.blt (a.off+sc*k) cs.length))with
    |true=>rw[h1,cond_true]at h;cases h;exact M.cD hc
    |false=>
     rw[h1,abm]at h
     cases h2:(g==some k && Nat.beq a.off 0 && a.spot.isNone && Nat.beq (sl*k) cs.length && Nat.beq sc sl && Nat.beq te e)with
     |true=>rw[h2,cond_true]at h;cases h;rw[M.cD (m:=m.set a.block .dead) hc,M.dP (hs a rfl)]
     |false=>rw[h2,abm]at h;cases h
  |_=>simp only[hb]at h;cases h
theorem Ag{s x:aeM}(h:eA E m T U s x=some (v',m1))(hc:c < m.n)(hs:∀a n k,s=.slice (some a) n k->c≠a.block):m1.get c=m.get c:=by
 unfold eA at h;split at h
 ·rename_i ti ui base sl sc n _ _ _;split at h;·cases h
  ·rename_i e _ _
   cases h1:E.ty.get e with
   |none=>simp only[h1]at h;cases h
   |some ei=>
    cases h2:first? m ti.es n x with
    |none=>simp only[h1,h2]at h;cases h
    |some news=>
     simp only[h1,h2]at h
     cases h3:(Nat.beq ti.es 0 ||Nat.blt 65536 ei.bytes || !news.all one ||Nat.blt 268435456 (sl+n) || !Nat.beq news.length (n*ti.es) || !gV ei.zero ti.es)with
     |true=>rw[h3,cond_true]at h;cases h
     |false=>
      rw[h3,abm]at h
      cases h4:Nat.ble (sl+n) sc with
      |false=>rw[h4,abm]at h;exact Ep h hc λa ha=>hs a sl sc (by rw[ha])
      |true=>
       rw[h4,cond_true]at h
       cases base with
       |none=>
        cases H:Nat.beq n 0 with
        |true=>rw[H,cond_true]at h;cases h;rfl
        |false=>rw[H,abm]at h;cases h
       |some a=>
        dsimp only at h
        cases H:Nat.beq n 0 with
        |true=>rw[H,cond_true]at h;cases h;rfl
        |false=>
         rw[H,abm]at h
         cases h6:storeCells m (a.add (sl*ti.es)) news with
         |none=>rw[h6]at h;cases h
         |some m2=>
          rw[h6]at h;cases h;refine uG h6 ?_
          have:(a.add (sl*ti.es)).block=a.block:=by unfold Addr.add;split <;>rfl
          rw[this];exact hs a sl sc rfl
  cases h
 cases h
theorem fx{s x:aeM}(h:aw E (m.wl m.n) .append [T,U] [s,x]=some (v',m1))(H:c < m.n)(hs:∀a n k,s=.slice (some a) n k->c≠a.block):m1.get c=m.get c:=
 (Ag (m:=m.wl m.n) h H hs).trans rfl
end
end
section
variable {m:M}
def Hf{α:Type}[aZ α](m:M)(l:List α)(v:aeM):Prop:=
 (v=.slice none 0 0/\l=[])\/∃b o c H,v=.slice (some ⟨b,o,none⟩) l.length c/\m.get b=.ro H/\
  ∀i x,l[i]?=some x->o+i*aZ.sz α+aZ.sz α<=H.length/\aZ.rep m x ((H.drop (o+i*aZ.sz α)).take (aZ.sz α))
theorem Ext.ro{m m':M}(h:Ext m m'){b:Nat}{c:aeN}(H:m.get b=.ro c):m'.get b=.ro c:=by
 rw[h.get b ?_,H];rcases adS b m.n with h' |h';·exact h'
 rw[M.jl h']at H;cases H
section
variable {α:Type} [aZ α] {m':M} {l:List α} {v:aeM} {E:Env} {T t:TypeId}
theorem Hf.aF(h:Hf m l v)(he:Ext m m'):Hf m' l v:=by
 rcases h with h |⟨b,o,c,bc,h1,h2,H⟩;·exact .inl h
 exact .inr ⟨b,o,c,bc,h1,Ext.ro he h2,λi x hi=>⟨(H i x hi).1,aZ.aF (H i x hi).2 he⟩⟩
theorem Hf.form(h:Hf m l v):∃a c,v=.slice a l.length c:=by
 rcases h with⟨rfl,rfl⟩ |⟨b,o,c,H,rfl,_⟩
 ·simp_all
 ·grind
theorem Hf.len(h:Hf m l v)(H:oP E T t α):aw E m .len [T] [v]=some (aeP l.length,m):=by have⟨ti,te,h1,⟨e,h2⟩,_⟩:=H;obtain⟨a,c,rfl⟩:=h.form;simp only[aw,oL,h1,h2,abi]
theorem Cm{b o n:Nat}{cs:aeN}(h:m.get b=.ro cs)(H:o+n<=cs.length)(h1:((cs.drop o).take n).all one):D.loadCells m ⟨b,o,none⟩ n=some ((cs.drop o).take n):=by
 unfold D.loadCells
 have:Nat.ble (o+n) cs.length:=abT H
 grind
theorem vH{b o:Nat}{cs:aeN}{u:aeM}(h:m.get b=.ro cs)(hu:cs[o]?=some u)(h1:one u):D.cellAt m ⟨b,o,none⟩=some u:=by
 unfold D.cellAt
 grind
theorem Hf.index(h:Hf m l v)(hT:oP E T t α){k:IntKind}{i:Nat}{x:α}(hi:l[i]?=some x):
  ∃p cs,an E T v (.int k i)=some p/\ah E m t p=some (aZ.val α cs)/\aZ.rep m x cs:=by
 have⟨ti,te,h1,⟨e,h2⟩,h3,h4,h5,h6⟩:=hT;have h0:=(aa9.1 hi).1;rcases h with⟨_,rfl⟩ |⟨b,o,c,bc,rfl,hb,d0⟩
 ·grind
 have⟨hle,hr⟩:=d0 i x hi;have g0:=aZ.pos (α:=α);refine⟨aeK b (o+i*aZ.sz α),_,?_,?_,hr⟩
 ·have hc:0<=(i:Int)/\(i:Int)< (l.length:Int)/\0 < ti.es:=⟨by omega,by omega,by omega⟩
  simp only[an,h1,h2];rw[abe hc,aV rfl,h3];rfl
 ·have H:=aZ.fB hr
  simp only[D.ah,D.loadVar,h4]
  unfold aZ.val
  cases ha:aZ.agg α with
  |true=>rw[h5,ha,h6];rw[Cm hb hle H];rfl
  |false=>
   rw[h5,ha];have hs:=aZ.one ha;rw[hs]at H⊢;simp only[hs]at hle;have a0:o+i*1 < bc.length:=by omega
   have b0:bc[o+i*1]?=some bc[o+i*1]:=aa5 a0
   have e0:(bc.drop (o+i*1)).take 1=[bc[o+i*1]]:=by rw[List.take_one,List.head?_drop,b0];rfl
   rw[e0]at H⊢;rw[vH hb b0 (by grind)];rfl
def oJ{α:Type}[aZ α](m:M)(l:List α)(v:aeM):Prop:=Sl m l v\/Hf m l v
theorem oJ.aF(h:oJ m l v)(he:Ext m m'):oJ m' l v:=h.elim (λh=> .inl (h.aF he)) λh=> .inr (h.aF he)
theorem oJ.len(h:oJ m l v)(H:oP E T t α):aw E m .len [T] [v]=some (aeP l.length,m):=h.elim (λh=>h.len H) λh=>h.len H
theorem oJ.index(h:oJ m l v)(H:oP E T t α){k:IntKind}{i:Nat}{x:α}(hi:l[i]?=some x):
  ∃p cs,an E T v (.int k i)=some p/\ah E m t p=some (aZ.val α cs)/\aZ.rep m x cs:=h.elim (λh=>h.index H hi) λh=>h.index H hi
end
end
end Go.D
