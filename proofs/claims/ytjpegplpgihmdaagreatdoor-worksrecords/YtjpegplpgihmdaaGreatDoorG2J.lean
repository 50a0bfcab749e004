/- The program logic over D, its .. -/
import Derived.Test.YtjpegplpgihmdaaGreatDoorG1J
set_option linter.defProp false
namespace Go.D
open Go
variable{i n n1 o:Nat}{m m1:M}{a b cs:ν}
section
structure Nt(n1:Nat)(m m1:M):Prop where
 n:m.n<=m1.n
 get:∀c,c < n1->m1.get c=m.get c
def Nt.refl:Nt n1 m m:=⟨ID _,λ_ _=>rfl⟩
def Nt.trans{m2:M}(h:Nt n1 m m1)(F:Nt n1 m1 m2):Nt n1 m m2:=⟨WA h.n F.n,λc H=>by rw[F.get c H,h.get c H]⟩
def Nt.ext(h:Nt m.n m m1):Ext m m1:=⟨h.n,h.get⟩
def Ext.fr(h:Ext m m1){n1:Nat}(F:n1<=m.n):Nt n1 m m1:=⟨h.n,λc H=>h.get c ac⟩
def Nt.mono{n2:Nat}(h:Nt n1 m m1)(F:n2<=n1):Nt n2 m m1:=⟨h.n,λc H=>h.get c ac⟩
def chunk(cs:ν)(k i:Nat):ν:=(cs.drop (i*k)).take k
def dw{k:Nat}(F:a.length=n*k)(hi:i<n):chunk (a++b) k i=chunk a k i:=by unfold chunk;have:(i+1)*k<=n*k:=N5 _ hi;grind
def dD{k:Nat}(F:a.length=n*k)(hi:n<=i):chunk (a++b) k i=chunk b k (i-n):=by unfold chunk;have:n*k<=i*k:=N5 _ hi;rw[TO,F,I2 ac,List.nil_append,QK]
def afb{F:ν}{k:Nat}(hi:i<n):chunk ((F.drop o).take (n*k)) k i=(F.drop (o+i*k)).take k:=by unfold chunk;have:(i+1)*k<=n*k:=N5 _ hi;rw[Wl,zP,Ul];grind
theorem qN{p:Φ->Bool}{k:Nat}:∀(n:Nat) (cs:ν),cs.length=n*k->(∀i,i<n->(chunk cs k i).all p)->cs.all p=true
 |0,cs,F,_=>by grind
 |n+1,cs,F,h=>by rw[Qi,No]at F;have H:=h 0 ac;simp only[chunk,Qt,MP]at H;have hd:=qN (k:=k) n (cs.drop k) be λi hi=>(by have:=h (i+1) ac;simp only[chunk,Qi,No]at this;simp only[chunk,zP];rw[Nat.add_comm k];exact this);rw[<-Zd k cs,YW,H,hd];rfl
def Ow{α:Type}[aQ α](n1:Nat)(m:M)(l:List α)(v:Φ):Prop:=
 (v=.slice none 0 0/\l=[])\/∃b cs,v=.slice (some ⟨b,0,none⟩) l.length l.length/\0 < l.length/\n1<=b/\m.get b=.cells cs (aQ.ty α) (some (aQ.sz α))/\cs.length=l.length*aQ.sz α/\
  ∀i x,l[i]?=some x->aQ.rep m x (chunk cs (aQ.sz α) i)
def Ow.nil{α:Type}[aQ α]{n1:Nat}{m:M}:Ow n1 m ([]:List α) U7:=.inl ⟨rfl,rfl⟩
def Ow.sl{α:Type}[aQ α]{n1:Nat}{m:M}{l:List α}{v:Φ}(h:Ow n1 m l v):Sl m l v:=by rcases h with h|⟨b,cs,F,h2,h3,H,h5,h6⟩;exact .inl h;refine .inr ⟨b,0,_,cs,_,F,H,ac,λi x hi=>?_⟩;rw[Zp];exact h6 i x hi
def Ow.aY{α:Type}[aQ α]{n1:Nat}{m m':M}{l:List α}{v:Φ}(h:Ow n1 m l v)(F:∀b c t g,m.get b=.cells c t g->t∈aQ.ty α::aQ.dQ α->m'.get b=.cells c t g):Ow n1 m' l v:=by rcases h with h|⟨b,cs,H,h2,h3,h4,h5,h6⟩;exact .inl h;exact .inr ⟨b,cs,H,h2,h3,F _ _ _ _ h4 F3,h5,λi x hi=>aQ.aY (h6 i x hi) λb c t g hb ht=>F b c t g hb (Wm _ ht)⟩
def Ow.an{α:Type}[aQ α]{n1:Nat}{m m':M}{l:List α}{v:Φ}(h:Ow n1 m l v)(he:Ext m m'):Ow n1 m' l v:=h.aY λ_ _ _ _ F _=>he.cells F
def Ow.mono{α:Type}[aQ α]{n1 n2:Nat}{m:M}{l:List α}{v:Φ}(h:Ow n1 m l v)(hn:n2<=n1):Ow n2 m l v:=by rcases h with h|⟨b,cs,F,H,h3,h4⟩;exact .inl h;exact .inr ⟨b,cs,F,H,ac,h4⟩
def Ow.flat{α:Type}[aQ α]{n1:Nat}{m:M}{l:List α}{v:Φ}(h:Ow n1 m l v)(F:l≠ []):aZ v=false:=by rcases h with⟨_,rfl⟩|⟨b,cs,rfl,_⟩;grind;rfl
def vu(E:Env)(T:TypeId)(α:Type)[aQ α]:Prop:=
 ∃ti F,E.ty.get T=some ti/\ti.d=.slice (aQ.ty α)/\ti.es=aQ.sz α/\E.ty.get (aQ.ty α)=some F/\F.bytes<=65536/\iK F.zero (aQ.sz α)=true
section
variable {E:Env} {α:Type} [aQ α] {n1:Nat} {m:M} {l ys:List α} {v y:Φ} {T:TypeId}
theorem Sl.first(h:Sl m ys y):∃news,ko y=some ys.length/\first? m (aQ.sz α) ys.length y=some news/\news.length=ys.length*aQ.sz α/\news.all D.one/\∀i x,ys[i]?=some x->aQ.rep m x (chunk news (aQ.sz α) i):=by rcases h with⟨rfl,rfl⟩|⟨b,o,c,bc,g,rfl,hb,hlen,H⟩;exact⟨[],rfl,rfl,co,rfl,be⟩;have hl:((bc.drop o).take (ys.length*aQ.sz α)).length=ys.length*aQ.sz α:=be;have F:∀i x,ys[i]?=some x->aQ.rep m x (chunk ((bc.drop o).take (ys.length*aQ.sz α)) (aQ.sz α) i):=λi x hi=>(by rw[afb (Zv.1 hi).1];exact H i x hi);refine⟨_,rfl,?_,hl,?_,F⟩;unfold first?;(cases hn:Nat.beq ys.length 0 with|true=>simp_all|false=>exact aI hb hlen);exact qN ys.length _ hl λi hi=>aQ.iH (F i _ (Iy hi))
theorem Ow.append(hT:vu E T α)(n0:aQ.ty α∉aQ.dQ α)(h:Ow n1 m l v)(hy:Sl m ys y)(hn:n1<=m.n)(hs:l.length+ys.length<=268435456):
  ∃v' m1,aR E (m.wl m.n) .append [T,T] [v,y]=some (v',m1)/\Ow n1 m1 (l++ys) v'/\Nt n1 m m1/\n1<=m1.low/\m1.n<=m.n+1:=by
 have⟨ti,ei,t1,t2,t3,t4,t5,t6⟩:=hT;have⟨news,e1,e2,e3,e4,e5⟩:=hy.first;have k0:=aQ.pos (α:=α);have hc:(Nat.beq ti.es 0 ||Nat.blt 65536 ei.bytes || !news.all D.one ||Nat.blt 268435456 (l.length+ys.length) || !Nat.beq news.length (ys.length*ti.es) || !iK ei.zero ti.es)=false:=by
  have c1:Nat.beq ti.es 0=false:=by
   cases H:Nat.beq ti.es 0 with
   |false=>rfl
   |true=>have:=NN H;omega
  have c2:Nat.blt 65536 ei.bytes=false:=by
   cases H:Nat.blt 65536 ei.bytes with
   |false=>rfl
   |true=>rw[T4]at H;omega
  have c3:Nat.blt 268435456 (l.length+ys.length)=false:=by
   cases H:Nat.blt 268435456 (l.length+ys.length)with
   |false=>rfl
   |true=>rw[T4]at H;omega
  simp_all
 have F:first? (m.wl m.n) ti.es ys.length y=some news:=by rw[cQ,t3];exact e2
 rcases h with⟨rfl,rfl⟩|⟨b,cs,rfl,h2,h3,h4,h5,h6⟩
 ·
  cases b0:ys with
  |nil=>subst b0;refine⟨U7,m.wl m.n,?_,.inl ⟨rfl,rfl⟩,⟨ID _,λ_ _=>rfl⟩,hn,by show m.n<=_;omega⟩;simp only[aR,eC,t1,e1,t2,t4,F];simp only[H8]at hc⊢;rw[hc];rfl
  |cons y0 h0=>
   rw[<-b0];have e0:0<ys.length:=be
   have d0:Nat.ble (0+ys.length) 0=false:=by
    cases H:Nat.ble (0+ys.length) 0 with
    |false=>rfl
    |true=>have:=IG H;omega
   refine⟨RZ m.n 0 ys.length ys.length,(m.wl m.n).push (.cells news (aQ.ty α) (some (aQ.sz α))),?_,?_,⟨by show m.n<=m.n+1;omega,λc hc=>by rw[M.cH (by show c<m.n;omega)];rfl⟩,hn,by show m.n+1<=_;omega⟩;·simp only[aR,eC,t1,e1,t2,t4,F];simp only[H8]at hc;rw[hc,d0];simp only[sI,oH];have:(Nat.beq 0 0 && Nat.beq 0 0):=rfl;rw[this,t3];simp only[gc,Zp];rfl
   refine .inr ⟨m.n,news,co,be,hn,M.aU (m:=m.wl m.n),be,λi x hi=>?_⟩;have:=e5 i x be;exact aQ.an this ⟨by show m.n<=m.n+1;omega,λc hc=>by rw[M.cH (m:=m.wl m.n) hc];rfl⟩
 ·
  have o0:=M.aP h4;cases b0:ys with
  |nil=>
   subst b0;refine⟨RZ b 0 l.length l.length,m.wl m.n,?_,?_,⟨ID _,λ_ _=>rfl⟩,hn,by show m.n<=_;omega⟩
   ·simp only[aR,eC,t1,e1,t2,t4,F];simp only[H8,Nb]at hc⊢;rw[hc];have:Nat.ble l.length l.length:=Ox (ID _);grind
   rw[Y4];exact .inr ⟨b,cs,rfl,h2,h3,h4,h5,λi x hi=>aQ.aY (m:=m) (h6 i x hi) λ_ _ _ _ H _=>H⟩
  |cons y0 h0=>
   rw[<-b0];have e0:0<ys.length:=be
   have d0:Nat.ble (l.length+ys.length) l.length=false:=by
    cases H:Nat.ble (l.length+ys.length) l.length with
    |false=>rfl
    |true=>have:=IG H;omega
   have hold:(bif Nat.beq l.length 0 then some []else loadCells (m.wl m.n) ⟨b,0,none⟩ (l.length*aQ.sz α))=some cs:=by
    cases H:Nat.beq l.length 0 with
    |true=>have:=NN H;omega
    |false=>simp only[sI,cj];rw[aI h4 ac,MP,OO ac]
   have g1:((some (aQ.sz α):Option Nat).isNone ||((some (aQ.sz α):Option Nat)==some (aQ.sz α) && Nat.blt (0+l.length*aQ.sz α) cs.length))=false:=by
    have:Nat.blt (0+l.length*aQ.sz α) cs.length=false:=by
     cases H:Nat.blt (0+l.length*aQ.sz α) cs.length with
     |false=>rfl
     |true=>rw[T4]at H;omega
    grind
   have g2:((some (aQ.sz α):Option Nat)==some (aQ.sz α) && Nat.beq 0 0 && (none:Option Nat).isNone && Nat.beq (l.length*aQ.sz α) cs.length && Nat.beq l.length l.length && Nat.beq (aQ.ty α) (aQ.ty α)):=by
    simp_all
   refine⟨RZ m.n 0 (l.length+ys.length) (l.length+ys.length),((m.wl m.n).set b .dead).push (.cells (cs++news) (aQ.ty α) (some (aQ.sz α))),?_,?_,⟨by show m.n<=m.n+1;omega,λc hc=>?_⟩,?_,by show m.n+1<=_;omega⟩;·simp only[aR,eC,t1,e1,t2,t4,F];rw[hc,d0];simp only[sI,oH,t3];have hg:(m.wl m.n).get b=.cells cs (aQ.ty α) (some (aQ.sz α)):=h4;simp only[hg,hold,g1,sI];rw[g2];rfl
   ·have g0:∀c,c<m.n->c≠b->(((m.wl m.n).set b .dead).push (.cells (cs++news) (aQ.ty α) (some (aQ.sz α)))).get c=m.get c:=λc hc i0=>by rw[M.cH (by show c<m.n;exact hc),M.dY i0];rfl
    have l0:∀x c,aQ.rep m x c->aQ.rep (α:=α) (((m.wl m.n).set b .dead).push (.cells (cs++news) (aQ.ty α) (some (aQ.sz α)))) x c:=λx c hx=>by refine aQ.aY hx λb' c' t g H ht=>?_;rw[g0 b' (M.aP H) be,H]
    refine .inr ⟨m.n,cs++news,co,be,hn,M.aU (m:=(m.wl m.n).set b .dead),be,λi x hi=>?_⟩;by_cases j0:i<l.length
    ·rw[dw h5 j0];grind
    ·rw[dD h5 ac];grind
   ·rw[M.cH (by show c<m.n;omega),M.dY ac];rfl
   show n1<=min m.n b;omega
end
end
section
variable{E:Env}{m:M}{T:TypeId}{ti:TI}{e:TypeId}{b n:Nat}{cs:ν}{te:TypeId}{k:Nat}
def ju{y:Nat}(h:i<=y):vo (Ω i) y=some i:=by unfold vo;grind
theorem Gr(t1:E.ty.get T=some ti)(t2:ti.d=.slice e)(t3:ti.es=k)(hk:0<k)(h:m.get b=.cells cs te (some k))(hn:0<n){i c:Nat}(hc:i<=n)(F:c<=n):
  slice? E m T (RZ b 0 c n) none (some (Ω i)) none=some (RZ b 0 i n):=by have b1:eP c n none (some (Ω i)) none=some (0,i,n):=(by unfold eP;simp only[ju hc]);have e1:Nat.beq ti.es 0=false:=(by cases H:Nat.beq ti.es 0 with|false=>rfl|true=>have:=NN H;omega);have e2:Nat.ble c n:=Ox F;have e3:Nat.beq k ti.es:=dg;have e4:Nat.beq n 0=false:=(by cases H:Nat.beq n 0 with|false=>rfl|true=>have:=NN H;omega);simp only[slice?,t1,t2,b1,h,e1,e2,e3,e4,Pq,L7,sI,gc,SL];simp only[Qt,Addr.add,Ot,TA]
theorem AU(t1:E.ty.get T=some ti)(t2:ti.d=.slice e)(t3:ti.es=k)(hk:0<k)(h:m.get b=.cells cs te (some k))(hl:cs.length=n*k){j:Nat}(F:j<=n):
  slice? E m T (RZ b 0 n n) (some (Ω j)) none none=some (RZ b (j*k) (n-j) (n-j)):=by have H:eP n n (some (Ω j)) none none=some (j,n,n):=(by unfold eP;simp only[ju F]);have e1:Nat.beq ti.es 0=false:=(by cases hb:Nat.beq ti.es 0 with|false=>rfl|true=>have:=NN hb;omega);have e2:Nat.ble n n:=Ox (ID _);have e3:Nat.beq k ti.es:=dg;have e4:Nat.beq (0+n*ti.es) cs.length:=dg;simp only[slice?,t1,t2,H,h,e1,e2,e3,e4,Pq,L7,sI,gc,Pj,SQ,Wh];rw[t3,bk rfl,Zp]
theorem Iq(t1:E.ty.get T=some ti)(t2:ti.d=.slice e)(t3:ti.es=k)(hk:0<k)(h:m.get b=.cells cs te (some k)){i j:Nat}(hi:i<=j)(F:j<=n):
  ∃w,slice? E m T (RZ b 0 n n) (some (Ω i)) (some (Ω j)) (some (Ω n))=some w:=by have H:eP n n (some (Ω i)) (some (Ω j)) (some (Ω n))=some (i,j,n):=(by unfold eP;simp only[ju F,ju hi,ju (ID n)]);have e1:Nat.beq ti.es 0=false:=(by cases hb:Nat.beq ti.es 0 with|false=>rfl|true=>have:=NN hb;omega);have e2:Nat.ble n n:=Ox (ID _);have e3:Nat.beq k ti.es:=dg;simp only[slice?,t1,t2,H,h,e1,e2,e3,Pq,L7,sI,gc];grind
theorem Ip(t1:E.ty.get T=some ti)(t2:ti.d=.slice e)(t3:ti.es=k)(hk:0<k)(h:m.get b=.cells cs te (some k))(hl:cs.length=n*k){c:Nat}(F:c<=n):
  slice? E m T (RZ b 0 c n) (some (Ω c)) (some (Ω n)) none=some (RZ b (c*k) (n-c) (n-c)):=by have H:eP c n (some (Ω c)) (some (Ω n)) none=some (c,n,n):=(by unfold eP;simp only[ju F,ju (ID n)]);have e1:Nat.beq ti.es 0=false:=(by cases hb:Nat.beq ti.es 0 with|false=>rfl|true=>have:=NN hb;omega);have e2:Nat.ble c n:=Ox F;have e3:Nat.beq k ti.es:=dg;have e4:Nat.beq (0+n*ti.es) cs.length:=dg;simp only[slice?,t1,t2,H,h,e1,e2,e3,e4,Pq,L7,sI,gc,Pj,SQ,Wh];rw[t3,bk rfl,Zp]
section
variable {E:Env} {α:Type} [aQ α] {n1:Nat} {m:M} {T:TypeId}
theorem acj(hT:vu E T α){b n i j:Nat}{cs:ν}{te:TypeId}(h:m.get b=.cells cs te (some (aQ.sz α)))(hl:cs.length=n*aQ.sz α)(k0:cs.all one)(hi:i<=j)(hj:j<=n)(hs:n<=1000000):
  ∃m1,aR E (m.wl m.n) .append [T,T] [RZ b 0 i n,RZ b (j*aQ.sz α) (n-j) (n-j)]=some (RZ b 0 (i+(n-j)) n,m1)/\
   m1.n=m.n/\(m1.low=m.n\/m1.low=b)/\(∀c,c≠b->m1.get c=m.get c)/\m1.get b=.cells (cs.take (i*aQ.sz α)++(cs.drop (j*aQ.sz α)++cs.drop (i*aQ.sz α+(n-j)*aQ.sz α))) te (some (aQ.sz α)):=by have⟨ti,ei,t1,t2,t3,t4,t5,t6⟩:=hT;have l0:=aQ.pos (α:=α);have e0:=M.aP h;have hmul:j*aQ.sz α<=n*aQ.sz α:=N5 _ hj;have n0:(n-j)*aQ.sz α=n*aQ.sz α-j*aQ.sz α:=QK _ _ _;have b0:(bif Nat.beq (n-j) 0 then some []else loadCells (m.wl m.n) ⟨b,j*aQ.sz α,none⟩ ((n-j)*ti.es))=some (cs.drop (j*aQ.sz α)):=(by cases hb:Nat.beq (n-j) 0 with|true=>have:=NN hb;grind|false=>simp only[sI,cj,t3];rw[aI h ac,OO be]);have F:first? (m.wl m.n) ti.es (n-j) (RZ b (j*aQ.sz α) (n-j) (n-j))=some (cs.drop (j*aQ.sz α)):=b0;have g0:(cs.drop (j*aQ.sz α)).length=(n-j)*aQ.sz α:=be;have h0:(cs.drop (j*aQ.sz α)).all one:=(by grind);have hc:(Nat.beq ti.es 0 ||Nat.blt 65536 ei.bytes || !(cs.drop (j*aQ.sz α)).all one ||Nat.blt 268435456 (i+(n-j)) || !Nat.beq (cs.drop (j*aQ.sz α)).length ((n-j)*ti.es) || !iK ei.zero ti.es)=false:=(by have c1:Nat.beq ti.es 0=false:=(by cases hb:Nat.beq ti.es 0 with|false=>rfl|true=>have:=NN hb;omega);have c2:Nat.blt 65536 ei.bytes=false:=(by cases hb:Nat.blt 65536 ei.bytes with|false=>rfl|true=>rw[T4]at hb;omega);have c3:Nat.blt 268435456 (i+(n-j))=false:=(by cases hb:Nat.blt 268435456 (i+(n-j))with|false=>rfl|true=>rw[T4]at hb;omega);simp_all);have H:Nat.ble (i+(n-j)) n:=Ox ac;cases hz:Nat.beq (n-j) 0 with|true=>have d0:=NN hz;refine⟨m.wl m.n,?_,rfl,.inl rfl,λ_ _=>rfl,?_⟩;simp only[aR,eC,t1,t2,t4,ko,F,hc,H,hz,gc,sI,O6];show m.get b=_;rw[h,d0,Qt,Nb,I2 be,List.nil_append,Zd]|false=>have d0:0<n-j:=(by grind);have i0:storeCells (m.wl m.n) (Addr.add ⟨b,0,none⟩ (i*ti.es)) (cs.drop (j*aQ.sz α))=some ((m.wl m.n).set b (.cells (cs.take (i*aQ.sz α)++(cs.drop (j*aQ.sz α)++cs.drop (i*aQ.sz α+(n-j)*aQ.sz α))) te (some (aQ.sz α)))):=(by have j0:i*aQ.sz α<=j*aQ.sz α:=N5 _ hi;rw[t3,bk rfl,Zp,oM (m:=m.wl m.n) h ac h0,g0]);refine⟨(m.wl m.n).set b (.cells (cs.take (i*aQ.sz α)++(cs.drop (j*aQ.sz α)++cs.drop (i*aQ.sz α+(n-j)*aQ.sz α))) te (some (aQ.sz α))),?_,rfl,.inr (show min m.n b=b by omega),λc hc=>M.dY (m:=m.wl m.n) hc,M.get_set_same (m:=m.wl m.n) e0⟩;simp only[aR,eC,t1,t2,t4,ko,F,hc,H,hz,gc,sI,i0,O6]
theorem Cw(hT:vu E T α){b o n:Nat}{cs z:ν}{te:TypeId}{g:Option Nat}(h:m.get b=.cells cs te g)(hz:∃v,gW E (aQ.ty α)=some v/\cells v=z)(b0:z.length=aQ.sz α)(d0:z.all one)(hn:0<n)(hl:o+n*aQ.sz α<=cs.length):
  ∃m1,aR E (m.wl m.n) .clear [T] [RZ b o n n]=some (.tuple #[],m1)/\m1.n=m.n/\m1.low=b/\(∀c,c≠b->m1.get c=m.get c)/\
   m1.get b=.cells (cs.take o++(gD z n++cs.drop (o+n*aQ.sz α))) te g:=by have⟨ti,ei,t1,t2,t3,t4,t5,t6⟩:=hT;obtain⟨v,hv,rfl⟩:=hz;have e0:=M.aP h;have F:∀k,(gD (cells v) k).length=k*aQ.sz α/\(gD (cells v) k).all one:=(by intro k;induction k with|zero=>simp[gD]|succ k ih=>simp only[gD,N7,YW,b0,d0,ih,Qi,No,SQ,and_true];omega);have hb:Nat.beq n 0=false:=(by cases hq:Nat.beq n 0 with|false=>rfl|true=>have:=NN hq;omega);have H:=oM (m:=m.wl m.n) (o:=o) h (vs:=gD (cells v) n) be (F n).2;rw[(F n).1]at H;refine⟨(m.wl m.n).set b (.cells (cs.take o++(gD (cells v) n++cs.drop (o+n*aQ.sz α))) te g),?_,rfl,show min m.n b=b by omega,λc hc=>M.dY (m:=m.wl m.n) hc,M.get_set_same (m:=m.wl m.n) e0⟩;simp only[aR,sF,t1,t2,hb,sI,hv,H,O6]
theorem mr(hT:vu E T α){ys:List α}{y:Φ}{b:Nat}{te:TypeId}(h:m.get b=.cells [] te none)(hy:Sl m ys y)(d0:ys≠ [])(hs:ys.length<=1000000):
  ∃v' m1,aR E (m.wl m.n) .append [T,T] [RZ b 0 0 0,y]=some (v',m1)/\Ow m.n m1 ys v'/\Ext m m1/\m1.low=m.n:=by have⟨ti,ei,t1,t2,t3,t4,t5,t6⟩:=hT;have⟨news,e1,e2,e3,e4,e5⟩:=hy.first;have g0:=aQ.pos (α:=α);have H:0<ys.length:=Lj.2 d0;have hc:(Nat.beq ti.es 0 ||Nat.blt 65536 ei.bytes || !news.all D.one ||Nat.blt 268435456 (0+ys.length) || !Nat.beq news.length (ys.length*ti.es) || !iK ei.zero ti.es)=false:=(by have c1:Nat.beq ti.es 0=false:=(by cases hb:Nat.beq ti.es 0 with|false=>rfl|true=>have:=NN hb;omega);have c2:Nat.blt 65536 ei.bytes=false:=(by cases hb:Nat.blt 65536 ei.bytes with|false=>rfl|true=>rw[T4]at hb;omega);have c3:Nat.blt 268435456 (0+ys.length)=false:=(by cases hb:Nat.blt 268435456 (0+ys.length)with|false=>rfl|true=>rw[T4]at hb;omega);simp_all);have F:first? (m.wl m.n) ti.es ys.length y=some news:=(by rw[cQ,t3];exact e2);have b0:Nat.ble (0+ys.length) 0=false:=(by cases hb:Nat.ble (0+ys.length) 0 with|false=>rfl|true=>have:=IG hb;omega);have hg:(m.wl m.n).get b=.cells [] te none:=h;refine⟨RZ m.n 0 ys.length ys.length,(m.wl m.n).push (.cells news (aQ.ty α) (some (aQ.sz α))),?_,?_,⟨LW _,λc hc=>by rw[M.cH (m:=m.wl m.n) hc];rfl⟩,rfl⟩;simp only[aR,eC,t1,e1,t2,t4,F,hc,b0,sI,oH,hg];have e0:(bif Nat.beq 0 0 then some []else loadCells (m.wl m.n) ⟨b,0,none⟩ (0*ti.es))=some ([]:ν):=rfl;simp only[e0,e1,gc,Zp,List.nil_append,t3];rfl;exact .inr ⟨m.n,news,rfl,H,ID _,M.aU (m:=m.wl m.n),e3,λi x hi=>aQ.an (e5 i x hi) ⟨LW _,λc hc=>by rw[M.cH (m:=m.wl m.n) hc];rfl⟩⟩
end
end
section
variable{E:Env}{m m1:M}{T U:TypeId}{v':Φ}{c:Nat}
def xP{a:Addr}{vs:ν}(h:storeCells m a vs=some m1)(F:c≠a.block):m1.get c=m.get c:=by unfold storeCells at h;cases H:m.get a.block with|cells cs e g=>simp only[H]at h;(cases hc:(a.spot.isNone && Nat.ble (a.off+vs.length) cs.length && vs.all one)with|true=>rw[hc,gc]at h;cases h;exact M.dY F|false=>rw[hc,sI]at h;cases h)|_=>simp only[H]at h;cases h
def adx{e k:Nat}{base:Option Addr}{sl sc F:Nat}{news:ν}(h:oH m e k base sl sc F news=some (v',m1))(hc:c<m.n)(hs:∀a,base=some a->c≠a.block):m1.get c=m.get c:=by unfold oH at h;cases base with|none=>(cases H:(Nat.beq sl 0 && Nat.beq sc 0)with|true=>rw[H,gc]at h;cases h;exact M.cH hc|false=>rw[H,sI]at h;cases h)|some a=>cases hb:m.get a.block with|cells cs te g=>(cases ho:(bif Nat.beq sl 0 then some []else loadCells m a (sl*k))with|none=>simp only[hb,ho]at h;cases h|some iE=>simp only[hb,ho]at h;cases H:(g.isNone ||(g==some k && Nat.blt (a.off+sc*k) cs.length))with|true=>rw[H,gc]at h;cases h;exact M.cH hc|false=>rw[H,sI]at h;cases h2:(g==some k && Nat.beq a.off 0 && a.spot.isNone && Nat.beq (sl*k) cs.length && Nat.beq sc sl && Nat.beq te e)with|true=>rw[h2,gc]at h;cases h;rw[M.cH (m:=m.set a.block .dead) hc,M.dY (hs a rfl)]|false=>rw[h2,sI]at h;cases h)|_=>simp only[hb]at h;cases h
def ab0{s x:Φ}(h:eC E m T U s x=some (v',m1))(hc:c<m.n)(hs:∀a n k,s=.slice (some a) n k->c≠a.block):m1.get c=m.get c:=by unfold eC at h;split at h;rename_i ti ui base sl H n _ _ _;split at h;(cases h;rename_i e _ _;(cases h1:E.ty.get e with|none=>simp only[h1]at h;cases h|some ei=>cases h2:first? m ti.es n x with|none=>simp only[h1,h2]at h;cases h|some news=>simp only[h1,h2]at h;cases h3:(Nat.beq ti.es 0 ||Nat.blt 65536 ei.bytes || !news.all one ||Nat.blt 268435456 (sl+n) || !Nat.beq news.length (n*ti.es) || !iK ei.zero ti.es)with|true=>rw[h3,gc]at h;cases h|false=>rw[h3,sI]at h;cases h4:Nat.ble (sl+n) H with|false=>rw[h4,sI]at h;exact adx h hc λa ha=>hs a sl H (by rw[ha])|true=>rw[h4,gc]at h;cases base with|none=>(cases F:Nat.beq n 0 with|true=>rw[F,gc]at h;cases h;rfl|false=>rw[F,sI]at h;cases h)|some a=>dsimp only at h;cases F:Nat.beq n 0 with|true=>rw[F,gc]at h;cases h;rfl|false=>rw[F,sI]at h;cases h6:storeCells m (a.add (sl*ti.es)) news with|none=>rw[h6]at h;cases h|some m2=>rw[h6]at h;cases h;apply xP h6;have:(a.add (sl*ti.es)).block=a.block:=(by unfold Addr.add;split <;>rfl);rw[this];exact hs a sl H rfl);cases h);cases h
def ik{s x:Φ}(h:aR E (m.wl m.n) .append [T,U] [s,x]=some (v',m1))(F:c<m.n)(H:∀a n k,s=.slice (some a) n k->c≠a.block):m1.get c=m.get c:=
 (ab0 (m:=m.wl m.n) h F H).trans rfl
end
section
variable {m:M}
def K5{α:Type}[aQ α](m:M)(l:List α)(v:Φ):Prop:=
 (v=.slice none 0 0/\l=[])\/∃b o c F,v=.slice (some ⟨b,o,none⟩) l.length c/\m.get b=.ro F/\
  ∀i x,l[i]?=some x->o+i*aQ.sz α+aQ.sz α<=F.length/\aQ.rep m x ((F.drop (o+i*aQ.sz α)).take (aQ.sz α))
def Ext.ro{m m':M}(h:Ext m m'){b:Nat}{c:ν}(F:m.get b=.ro c):m'.get b=.ro c:=by rw[h.get b ?_,F];rcases Nd b m.n with H|H;exact H;rw[M.jP H]at F;cases F
section
variable {α:Type} [aQ α] {m':M} {l:List α} {v:Φ} {E:Env} {T t:TypeId}
def K5.an(h:K5 m l v)(he:Ext m m'):K5 m' l v:=by rcases h with h|⟨b,o,c,H,h1,h2,F⟩;exact .inl h;exact .inr ⟨b,o,c,H,h1,Ext.ro he h2,λi x hi=>⟨(F i x hi).1,aQ.an (F i x hi).2 he⟩⟩
def K5.form(h:K5 m l v):∃a c,v=.slice a l.length c:=by rcases h with⟨rfl,rfl⟩|⟨b,o,c,F,rfl,_⟩;simp_all;grind
def K5.len(h:K5 m l v)(F:qQ E T t α):aR E m .len [T] [v]=some (Ω l.length,m):=by have⟨ti,te,H,⟨e,h2⟩,_⟩:=F;obtain⟨a,c,rfl⟩:=h.form;simp only[aR,qz,H,h2,O6]
def wE{b:Nat}(h:m.get b=.ro cs)(F:o+n<=cs.length)(H:((cs.drop o).take n).all one):D.loadCells m ⟨b,o,none⟩ n=some ((cs.drop o).take n):=by unfold D.loadCells;have:Nat.ble (o+n) cs.length:=Ox F;grind
def Eg{b:Nat}{u:Φ}(h:m.get b=.ro cs)(hu:cs[o]?=some u)(F:one u):D.cellAt m ⟨b,o,none⟩=some u:=by unfold D.cellAt;grind
theorem K5.index(h:K5 m l v)(hT:qQ E T t α){k:IntKind}{i:Nat}{x:α}(hi:l[i]?=some x):
  ∃p cs,aE E T v (.int k i)=some p/\aC E m t p=some (aQ.val α cs)/\aQ.rep m x cs:=by have⟨ti,te,h1,⟨e,h2⟩,h3,h4,h5,h6⟩:=hT;have i0:=(Zv.1 hi).1;rcases h with⟨_,rfl⟩|⟨b,o,c,H,rfl,hb,e0⟩;grind;have⟨hle,hr⟩:=e0 i x hi;have h0:=aQ.pos (α:=α);refine⟨Ψ b (o+i*aQ.sz α),_,?_,?_,hr⟩;have hc:0<=(i:Int)/\(i:Int)< (l.length:Int)/\0<ti.es:=⟨ac,ac,ac⟩;simp only[aE,h1,h2];rw[F6 hc,bk rfl,h3];rfl;have F:=aQ.iH hr;simp only[D.aC,D.loadVar,h4];unfold aQ.val;cases ha:aQ.agg α with|true=>rw[h5,ha,h6];rw[wE hb hle F];rfl|false=>rw[h5,ha];have hs:=aQ.one ha;rw[hs]at F⊢;simp only[hs]at hle;have b0:o+i*1<H.length:=ac;have d0:H[o+i*1]?=some H[o+i*1]:=Iy b0;have g0:(H.drop (o+i*1)).take 1=[H[o+i*1]]:=(by rw[List.take_one,List.head?_drop,d0];rfl);rw[g0]at F⊢;rw[Eg hb d0 be];rfl
def vt{α:Type}[aQ α](m:M)(l:List α)(v:Φ):Prop:=Sl m l v\/K5 m l v
def vt.an(h:vt m l v)(he:Ext m m'):vt m' l v:=h.elim (λh=> .inl (h.an he)) λh=> .inr (h.an he)
def vt.len(h:vt m l v)(F:qQ E T t α):aR E m .len [T] [v]=some (Ω l.length,m):=h.elim (λh=>h.len F) λh=>h.len F
def vt.index(h:vt m l v)(F:qQ E T t α){k:IntKind}{i:Nat}{x:α}(hi:l[i]?=some x):
  ∃p cs,aE E T v (.int k i)=some p/\aC E m t p=some (aQ.val α cs)/\aQ.rep m x cs:=h.elim (λh=>h.index F hi) λh=>h.index F hi
