/- putlogref12.Block. -/
import Derived.Test.YtmdfgncoekfgdaaGreatDoorG12J
import Derived.Test.YtmdfgncoekfgdaaGreatDoorG5J
import Derived.Test.YtmdfgncoekfgdaaGreatDoorBtJ
import Derived.Test.YtmdfgncoekfgdaaGreatDoorG7J
import Derived.Test.YtmdfgncoekfgdaaGreatDoorG11J
import Derived.Test.YtmdfgncoekfgdaaGreatDoorG8J
namespace Go.Proofs.YtmdfgncoekfgdaaGreatDoor
open Go Go.D
variable {X:aF} {m:M}
theorem rH{b:Nat}{L:List Pl}{i:Nat}{p:Pl}{g:Option Nat}{x:Int}{P:M->Nat->Prop}(h:m.get b=.cells (nJ L) 98 g)(hi:L[i]?=some p)
  (hP:∀m1,m1.n=m.n->m1.get b=.cells (nJ (L.set i ⟨x,p.y⟩)) 98 g->(∀c,c≠b->m1.get c=m.get c)->P m1 b):aO (aB TE m 3 (.pointer (some ⟨b,i*2+0,none⟩)) (.int .i64 x)) P:=by
 have hil:=(List.getElem?_eq_some_iff.1 hi).1
 have hl:=iT L
 refine dS nB h rfl (by rw[hl];show i*2+0+1<=_;omega) rfl fun m1 h1 h2 h3=>hP m1 h1 ?_ h3
 rw[h2,Nat.add_zero,show i*2+(cells (Value.int .i64 x)).length=i*2+1 from rfl]
 have:=kn (cs:=nJ L) (i:=i*2) (x:=Value.int .i64 x) (by rw[hl];omega)
 rw[show cells (Value.int .i64 x)=[Value.int .i64 x]from rfl,this,sG x hi]
set_option maxRecDepth 100000 in
theorem JH(hX:dF X){n i0 i1 i2 i3 i4 i5:Int}(hn:nb n)(h0:nb i0)(h1:nb i1)(h2:nb i2)(h3:nb i3)(h4:nb i4)(h5:nb i5):
  ∃(u:Un) (w:Value) (m':M),C X (.func 53) [.int .i64 n,.agg #[.int .i64 i0,.int .i64 i1,.int .i64 i2,.int .i64 i3,.int .i64 i4,.int .i64 i5]] m m.n (u.v w) m'/\Ext m m'/\Sl m' u.shape w/\u.shape.length<=4:=by
 have key:∃r m' b,C X (.func 53) [.int .i64 n,.agg #[.int .i64 i0,.int .i64 i1,.int .i64 i2,.int .i64 i3,.int .i64 i4,.int .i64 i5]] m b r m'/\b=m.n/\∃(u:Un) (w:Value),r=u.v w/\Ext m m'/\Sl m' u.shape w/\u.shape.length<=4:=by
  refine Cl.heap (R:=fun r m' b=>b=m.n/\∃(u:Un) (w:Value),r=u.v w/\Ext m m'/\Sl m' u.shape w/\u.shape.length<=4) (hX.no _ rfl) Qt rfl ?_
  rw[F53];dsimp only[aN]
  refine ar fun m1 hn1 hg1 hk1=>?_
  refine ar fun m2 hn2 hg2 hk2=>?_
  have hx2:Ext m m2:=⟨by omega,fun c hc=>by rw[hk2 c (by omega),hk1 c hc]⟩
  have g1:m2.get m.n=.cells [.int .i64 i0,.int .i64 i1,.int .i64 i2,.int .i64 i3,.int .i64 i4,.int .i64 i5] 85 none:=by rw[hk2 _ (by omega)];exact hg1
  unfold ptrTo
  have ld:∀{mm:M} {i:Nat} {x:Int},Ext m2 mm->[i0,i1,i2,i3,i4,i5][i]?=some x->ai TE 85 (.pointer (some ⟨m.n,0,none⟩)) (.int .i64 i)=some (.pointer (some ⟨m.n,i,none⟩))/\ag TE mm 3 (.pointer (some ⟨m.n,i,none⟩))=some (.int .i64 x):=fun{mm i x} hx hi=>by
   have hil:=(List.getElem?_eq_some_iff.1 hi).1
   refine⟨by have:=Ng (b:=m.n) (o:=0) (k:=.i64) (i:=i) hil;rwa[Nat.zero_add]at this,?_⟩
   have hc:[Value.int .i64 i0,.int .i64 i1,.int .i64 i2,.int .i64 i3,.int .i64 i4,.int .i64 i5][i]?=some (.int .i64 x):=by
    have:([i0,i1,i2,i3,i4,i5].map (Value.int .i64))[i]?=some (.int .i64 x):=by rw[List.getElem?_map,hi];rfl
    exact this
   rw[bA,az (hx.cells g1),hc]
  have d0a:ai TE 85 (.pointer (some ⟨m.n,0,none⟩)) (.int .i64 0)=some (.pointer (some ⟨m.n,0,none⟩)):=(@ld m2 0 i0 .refl rfl).1
  have d0b:=(@ld m2 0 i0 .refl rfl).2
  have d1a:ai TE 85 (.pointer (some ⟨m.n,0,none⟩)) (.int .i64 1)=some (.pointer (some ⟨m.n,1,none⟩)):=(@ld m2 1 i1 .refl rfl).1
  have d1b:=(@ld m2 1 i1 .refl rfl).2
  have d2a:ai TE 85 (.pointer (some ⟨m.n,0,none⟩)) (.int .i64 2)=some (.pointer (some ⟨m.n,2,none⟩)):=(@ld m2 2 i2 .refl rfl).1
  have d2b:=(@ld m2 2 i2 .refl rfl).2
  have d3a:ai TE 85 (.pointer (some ⟨m.n,0,none⟩)) (.int .i64 3)=some (.pointer (some ⟨m.n,3,none⟩)):=(@ld m2 3 i3 .refl rfl).1
  have d3b:=(@ld m2 3 i3 .refl rfl).2
  rw[d0a,aa,d0b,aa]
  refine aC (dz hX h0 (by decide)) ?_
  rw[dt,aa]
  rw[d1a,aa,d1b,aa]
  refine aC (dz hX h1 (by decide)) ?_
  rw[dt,aa]
  rw[d2a,aa,d2b,aa]
  refine aC (dz hX h2 (by decide)) ?_
  rw[aG,aa,dt,aa,aG,aa,kU,au]
  rw[d3a,aa,d3b,aa]
  refine aC (dz hX h3 (by decide)) ?_
  rw[aG,aa,dt,aa,aG,aa]
  generalize IntKind.i64.wrap (4*dR i0 9)=x0
  generalize IntKind.i64.wrap (4*dR i1 6)=y0
  generalize min (IntKind.i64.wrap _) (40:Int)=x1
  generalize IntKind.i64.wrap (y0+_)=y1
  have bp:∀a b:Int,aW TE 98 [(0,.int .i64 a),(1,.int .i64 b)]=some (Pl.v ⟨a,b⟩):=fun a b=>ez rfl rfl
  rw[bp,aa,bp,aa,bp,aa,bp,aa]
  obtain⟨L,hL⟩:∃L:List Pl,L=[⟨x0,y0⟩,⟨x1,y0⟩,⟨x1,y1⟩,⟨x0,y1⟩]:=⟨_,rfl⟩
  have hbs:aE TE m2 45 4 [(0,Pl.v ⟨x0,y0⟩),(1,Pl.v ⟨x1,y0⟩),(2,Pl.v ⟨x1,y1⟩),(3,Pl.v ⟨x0,y1⟩)]=some (.slice (some ⟨m2.n,0,none⟩) 4 4,m2.push (.cells (nJ L) 98 none)):=by rw[hL];kernel_rfl
  rw[hbs,au]
  have hx37:Ext m2 (m2.push (.cells (nJ L) 98 none)):=Ext.refl.push
  generalize hm37:m2.push (.cells (nJ L) 98 none)=m37 at*
  have hg37:m37.get m2.n=.cells (nJ L) 98 none:=by rw[<-hm37];exact M.aV
  have hn37:m37.n=m2.n+1:=by rw[<-hm37];rfl
  have d4a:ai TE 85 (.pointer (some ⟨m.n,0,none⟩)) (.int .i64 4)=some (.pointer (some ⟨m.n,4,none⟩)):=(@ld m37 4 i4 hx37 rfl).1
  have d4b:=(@ld m37 4 i4 hx37 rfl).2
  rw[d4a,aa,d4b,aa]
  refine aC (dz hX h4 (by decide)) ?_
  have gz:m37.get m1.n=.cells Un.zc 87 none:=by rw[hx37.get _ (by omega),hg2]
  have hne:m1.n≠m2.n:=by omega
  have fin:∀(mm:M) (lo0:Nat) (w:Value) (shp:List Pl),(∀c,c≠m2.n->c < m37.n->mm.get c=m37.get c)->m37.n<=mm.n->m.n<=lo0->Sl mm shp w->shp.length<=4->(∃a n c,w=.slice (some a) n c)->mm.get m.n=.cells [.int .i64 i0,.int .i64 i1,.int .i64 i2,.int .i64 i3,.int .i64 i4,.int .i64 i5] 85 none/\mm.get m1.n=.cells Un.zc 87 none/\
    ∀(u:Un) (m':M) (lo:Nat),u.shape=shp->mm.n=m'.n->m'.get m1.n=.cells (u.c w) 87 none->(∀c,c≠m1.n->m'.get c=mm.get c)->min lo0 (min m1.n mm.n)<=lo->(bY (bs [u.v w])=false\/lo < m.n)/\min m.n lo=m.n/\∃(u':Un) (w':Value),bs [u.v w]=u'.v w'/\Ext m m'/\Sl m' u'.shape w'/\u'.shape.length<=4:=by
   intro mm lo0 w shp hk hnm hlo hs hl hw
   refine⟨by rw[hk _ (by omega) (by omega),hx37.get _ (by omega),g1],by rw[hk _ hne (by omega),gz],fun u m' lo hu hnn hg hk' hlo'=>⟨.inl ?_,by omega,u,w,rfl,⟨by omega,fun c hc=>by rw[hk' c (by omega),hk c (by omega) (by omega),hx37.get c (by omega),hx2.get c hc]⟩,?_,by rw[hu];exact hl⟩⟩
   ·obtain⟨a,k,c,rfl⟩:=hw
    show bY (u.v (.slice (some a) k c))=false
    simp[bY,gg,bL]
   ·rw[hu]
    refine hs.bw fun b cs t g hb ht=>?_
    by_cases e:b=m1.n
    ·subst e
     rw[hk _ hne (by omega),gz]at hb
     cases hb
     exact absurd ht (by decide)
    ·rw[hk' b e,hb]
  have hsl37:∀{mm:M} {L':List Pl},mm.get m2.n=.cells (nJ L') 98 none->L'.length=4->Sl mm L' (.slice (some ⟨m2.n,0,none⟩) 4 4):=fun{mm L'} h hl=>by
   have:=Aw (c:=4) h
   rwa[hl]at this
  have hix:∀i,i < 4->ai TE 45 (.slice (some ⟨m2.n,0,none⟩) 4 4) (.int .i64 (i:Nat))=some (.pointer (some ⟨m2.n,i*2,none⟩)):=fun i hi=>Ie hi
  have x0':ai TE 45 (.slice (some ⟨m2.n,0,none⟩) 4 4) (.int .i64 0)=some (.pointer (some ⟨m2.n,0*2,none⟩)):=hix 0 (by decide)
  have x1':ai TE 45 (.slice (some ⟨m2.n,0,none⟩) 4 4) (.int .i64 1)=some (.pointer (some ⟨m2.n,1*2,none⟩)):=hix 1 (by decide)
  have x2':ai TE 45 (.slice (some ⟨m2.n,0,none⟩) 4 4) (.int .i64 2)=some (.pointer (some ⟨m2.n,2*2,none⟩)):=hix 2 (by decide)
  have x3':ai TE 45 (.slice (some ⟨m2.n,0,none⟩) 4 4) (.int .i64 3)=some (.pointer (some ⟨m2.n,3*2,none⟩)):=hix 3 (by decide)
  have tail:∀(mm:M) (lo0:Nat) (w:Value) (shp:List Pl),(∀c,c≠m2.n->c < m37.n->mm.get c=m37.get c)->m37.n<=mm.n->m.n<=lo0->Sl mm shp w->shp.length<=4->(∃a n c,w=.slice (some a) n c)->_:=fun mm lo0 w shp a b c d e f=>by
   obtain⟨f1,f2,f3⟩:=fin mm lo0 w shp a b c d e f
   exact Bx hX (R:=fun vs m' lo=>(bY (bs vs)=false\/lo < m.n)/\min m.n lo=m.n/\∃(u:Un) (w:Value),bs vs=u.v w/\Ext m m'/\Sl m' u.shape w/\u.shape.length<=4) (lo0:=lo0) f1 f2 d hn h5 f3
  have ldp:∀{mm:M} {L':List Pl} {i:Nat} {p:Pl},mm.get m2.n=.cells (nJ L') 98 none->L'[i]?=some p->ag TE mm 98 (.pointer (some ⟨m2.n,i*2,none⟩))=some p.v:=fun{mm L' i p} h hi=>by
   have hil:=(List.getElem?_eq_some_iff.1 hi).1
   rw[rO,aH h (by rw[iT];omega)]
   have:=uY hi
   unfold chunk at this
   rw[this];rfl
  rw[bI,aa,aj]
  refine ak (fun _=>?_) (fun _=>?_)
  ·rw[dc,aa,x2',aa,bC,aa]
   refine rH (L:=L) (i:=2) (p:=⟨x1,y1⟩) hg37 (by rw[hL];rfl) fun m47 hn47 hg47 hk47=>?_
   rw[aG,aa,x3',aa,bC,aa]
   refine rH (i:=3) (p:=⟨x0,y1⟩) hg47 (by rw[hL];rfl) fun m52 hn52 hg52 hk52=>?_
   exact tail m52 _ _ _ (fun c h _=>by rw[hk52 c h,hk47 c h]) (by omega) (by omega) (hsl37 hg52 (by rw[hL];rfl)) (by rw[hL];exact Nat.le_refl _) ⟨_,_,_,rfl⟩
  rw[bI,aa,aj]
  refine ak (fun _=>?_) (fun _=>?_)
  ·rw[aG,aa,x0',aa,bC,aa]
   refine rH (L:=L) (i:=0) (p:=⟨x0,y0⟩) hg37 (by rw[hL];rfl) fun m47 hn47 hg47 hk47=>?_
   rw[dc,aa,x1',aa,bC,aa]
   refine rH (i:=1) (p:=⟨x1,y0⟩) hg47 (by rw[hL];rfl) fun m52 hn52 hg52 hk52=>?_
   exact tail m52 _ _ _ (fun c h _=>by rw[hk52 c h,hk47 c h]) (by omega) (by omega) (hsl37 hg52 (by rw[hL];rfl)) (by rw[hL];exact Nat.le_refl _) ⟨_,_,_,rfl⟩
  rw[bI,aa,aj]
  have tri:∀(p q r:Pl) (lo0:Nat),m.n<=lo0->∀m193:M,m37.push (.cells (nJ [p,q,r]) 98 none)=m193->Sl m193 [p,q,r] (.slice (some ⟨m37.n,0,none⟩) 3 3)/\(∀c,c≠m2.n->c < m37.n->m193.get c=m37.get c)/\m37.n<=m193.n:=fun p q r lo0 h m193 hm=>by
   have hg:m193.get m37.n=.cells (nJ [p,q,r]) 98 none:=by rw[<-hm];exact M.aV
   refine⟨Aw (l:=[p,q,r]) hg,fun c _ hc=>by rw[<-hm];exact M.bQ hc,by rw[<-hm];exact Nat.le_succ _⟩
  have bs3:∀p q r:Pl,aE TE m37 45 3 [(0,p.v),(1,q.v),(2,r.v)]=some (.slice (some ⟨m37.n,0,none⟩) 3 3,m37.push (.cells (nJ [p,q,r]) 98 none)):=fun p q r=>by kernel_rfl
  refine ak (fun _=>?_) (fun _=>?_)
  ·rw[x0',aa,ldp (i:=0) (p:=⟨x0,y0⟩) hg37 (by rw[hL];rfl),aa,x1',aa,ldp (i:=1) (p:=⟨x1,y0⟩) hg37 (by rw[hL];rfl),aa,x2',aa,ldp (i:=2) (p:=⟨x1,y1⟩) hg37 (by rw[hL];rfl),aa,bs3,au]
   generalize hm:m37.push (.cells (nJ [⟨x0,y0⟩,⟨x1,y0⟩,⟨x1,y1⟩]) 98 none)=m193
   obtain⟨s1,s2,s3⟩:=tri _ _ _ m.n (Nat.le_refl _) m193 hm
   exact tail m193 _ _ _ s2 s3 (by omega) s1 (by simp) ⟨_,_,_,rfl⟩
  rw[bI,aa,aj]
  refine ak (fun _=>?_) (fun _=>?_)
  ·rw[x0',aa,ldp (i:=0) (p:=⟨x0,y0⟩) hg37 (by rw[hL];rfl),aa,x2',aa,ldp (i:=2) (p:=⟨x1,y1⟩) hg37 (by rw[hL];rfl),aa,x3',aa,ldp (i:=3) (p:=⟨x0,y1⟩) hg37 (by rw[hL];rfl),aa,bs3,au]
   generalize hm:m37.push (.cells (nJ [⟨x0,y0⟩,⟨x1,y1⟩,⟨x0,y1⟩]) 98 none)=m193
   obtain⟨s1,s2,s3⟩:=tri _ _ _ m.n (Nat.le_refl _) m193 hm
   exact tail m193 _ _ _ s2 s3 (by omega) s1 (by simp) ⟨_,_,_,rfl⟩
  exact tail m37 _ _ _ (fun c _ _=>rfl) (Nat.le_refl _) (by omega) (hsl37 hg37 (by rw[hL];rfl)) (by rw[hL];exact Nat.le_refl _) ⟨_,_,_,rfl⟩
 obtain⟨r,m',b,hc,rfl,u,w,rfl,h1,h2,h3⟩:=key
 exact⟨u,w,m',hc,h1,h2,h3⟩
end Go.Proofs.YtmdfgncoekfgdaaGreatDoor
namespace Go.Proofs.YtmdfgncoekfgdaaGreatDoor
open Go Go.D
variable {X:aF} {m:M}
def gC(u:Un):List Un->List Un
 |[]=> [u]
 |a::r=>if u.id < a.id then u::a::r else a::gC u r
theorem wG{u:Un}:∀{p q:List Un},(∀x∈p,¬u.id < x.id)->gC u (p++q)=p++gC u q
 |[],q,_=>rfl
 |a::p,q,h=>by
  rw[List.cons_append,gC,if_neg (h a (by simp)),wG fun x hx=>h x (by simp[hx])];rfl
theorem zv{u x:Un}:∀{p:List Un},(∃y∈p,u.id < y.id)->gC u (p++ [x])=gC u p++ [x]
 |[],h=>by obtain⟨y,hy,_⟩:=h;cases hy
 |a::p,h=>by
  rw[List.cons_append,gC,gC]
  by_cases e:u.id < a.id
  ·rw[if_pos e,if_pos e];rfl
  ·rw[if_neg e,if_neg e,zv]
   ·rfl
   ·obtain⟨y,hy,hlt⟩:=h
    rcases List.mem_cons.1 hy with rfl |hy
    ·exact absurd hlt e
    ·exact⟨y,hy,hlt⟩
structure Zb(oc:Nat)(m m1:M):Prop where
 n:m.n<=m1.n
 lo:∀c,c < oc->m1.get c=m.get c
 get:∀c,c < m.n->c≠oc->(∀cs g,m.get c≠.cells cs 87 g)->m1.get c=m.get c
structure Df(oc:Nat)(mm:M)(acc:List UW)(r:Value):Prop where
 cell:mm.get oc=.cells [r] 31 none
 ow:Ow (oc+1) mm acc r
 sh:∀x∈acc,Sl mm x.u.shape x.w
 ln:∀x∈acc,x.u.shape.length < 1000000
theorem Df.Y7{oc:Nat}{mm:M}{acc:List UW}{r:Value}(h:Df oc mm acc r):eF mm acc r:=
 ⟨h.ow.sl,h.sh,h.ln,by
  rcases h.ow with⟨_,h⟩ |⟨b,cs,h1,h2,h3,h4,h5,h6⟩
  ·exact .inl h
  ·exact .inr ⟨b,0,_,cs,_,h1,Nat.le_refl _,h4,.inr rfl⟩⟩
theorem Df.aD{oc:Nat}{mm m':M}{acc:List UW}{r:Value}(h:Df oc mm acc r)(hx:Ext mm m'):Df oc m' acc r:=⟨hx.cells h.cell,h.ow.aD hx,fun x hx'=>(h.sh x hx').aD hx,h.ln⟩
theorem fy{α:Type}[aY α]{n1:Nat}{l:List α}{v:Value}(h:Ow n1 m l v){a:Addr}{n k:Nat}(e:v=.slice (some a) n k):∃cs g,m.get a.block=.cells cs (aY.ty α) g/\n1<=a.block:=by
 rcases h with⟨rfl,_⟩ |⟨b,cs,rfl,h2,h3,h4,_⟩
 ·cases e
 ·cases e;exact⟨_,_,h4,h3⟩
theorem KA{oc:Nat}{mm:M}{acc:List UW}{r w:Value}{u:Un}(h:Df oc mm acc r)(hw:Sl mm u.shape w)(hl:u.shape.length < 1000000)(hal:acc.length < 1000000):
  ∃m81 r' m83 m85,aE TE mm 29 1 [(0,u.v w)]=some (.slice (some ⟨mm.n,0,none⟩) 1 1,m81)/\aq TE (M.wl m81 (M.n m81)) .append [29,29] [r,.slice (some ⟨mm.n,0,none⟩) 1 1]=some (r',m83)/\
   aB TE m83 29 (.pointer (some ⟨oc,0+0,none⟩)) r'=some (m85,oc)/\oc+1<=m83.low/\Df oc m85 (acc++ [⟨u,w⟩]) r'/\Zb oc mm m85:=by
 have hoc:=M.aI h.cell
 have ow':one w=true:=hw.one
 have hx81:Ext mm (mm.push (.cells (UW.c ⟨u,w⟩) 87 none)):=Ext.refl.push
 refine⟨mm.push (.cells (UW.c ⟨u,w⟩) 87 none),?_⟩
 have hb1:aE TE mm 29 1 [(0,u.v w)]=some (.slice (some ⟨mm.n,0,none⟩) 1 1,mm.push (.cells (UW.c ⟨u,w⟩) 87 none)):=Cj (x:=⟨u,w⟩)
 generalize hm81:mm.push (.cells (UW.c ⟨u,w⟩) 87 none)=m81 at*
 have hg81:m81.get mm.n=.cells (UW.c ⟨u,w⟩) 87 none:=by rw[<-hm81];exact M.aV
 have n81:m81.n=mm.n+1:=by rw[<-hm81];rfl
 have h81:=h.aD hx81
 obtain⟨r',m83,ha,ho83,hf83,hl83,hn83⟩:=Ow.append (y:=.slice (some ⟨mm.n,0,none⟩) 1 1) (ys:=[(⟨u,w⟩:UW)]) JL (by simp[aY.jN]) h81.ow (uQ hg81 ow') (by omega) (by simp;omega)
 have n83:=hf83.n
 have g83:m83.get oc=.cells [r] 31 none:=by rw[hf83.get _ (by omega),h81.cell]
 have hst:=lG (E:=TE) (o:=0+0) (x:=r') LZ g83 (by rw[ho83.sl.cells];rfl) (by rw[ho83.sl.cells];simp) (by rw[ho83.sl.cells];simp[ho83.sl.one])
 refine⟨r',m83,_,hb1,ha,hst,hl83,?_⟩
 have hset:∀c,c≠oc->(m83.set oc (.cells (([r]:List Value).take (0+0)++(cells r'++([r]:List Value).drop (0+0+(cells r').length))) 31 none)).get c=m83.get c:=fun c hc=>M.cp hc
 have g85:(m83.set oc (.cells (([r]:List Value).take (0+0)++(cells r'++([r]:List Value).drop (0+0+(cells r').length))) 31 none)).get oc=.cells [r'] 31 none:=by
  rw[M.cA (M.aI g83),ho83.sl.cells];rfl
 have hnset:(m83.set oc (.cells (([r]:List Value).take (0+0)++(cells r'++([r]:List Value).drop (0+0+(cells r').length))) 31 none)).n=m83.n:=rfl
 generalize m83.set oc (.cells (([r]:List Value).take (0+0)++(cells r'++([r]:List Value).drop (0+0+(cells r').length))) 31 none)=m85 at*
 have bw:∀c,c < m81.n->c≠oc->(∀cs g,m81.get c≠.cells cs 87 g)->m85.get c=m81.get c:=fun c hc hne ht=>by
  rw[hset c hne,gA ha hc fun a n k e he=>?_]
  obtain⟨cs,g,hg,_⟩:=fy h81.ow e
  rw[<-he]at hg
  exact ht _ _ hg
 have keepS:∀(shp:List Pl) (v:Value),Sl m81 shp v->Sl m85 shp v:=fun shp v hs=>hs.bw fun b cs t g hb ht=>by
  have ht:t=98:=by simpa[aY.ty,aY.jN]using ht
  subst ht
  rw[bw b (M.aI hb) (fun e=>by subst e;rw[h81.cell]at hb;cases hb) (fun cs' g' e=>by rw[hb]at e;cases e),hb]
 refine⟨⟨g85,ho83.bw fun b c t g hb ht=>?_,fun x hx=>?_,fun x hx=>?_⟩,⟨by omega,fun c hc=>?_,fun c hc hne ht=>?_⟩⟩
 ·have ht:t=87:=by simpa[aY.ty,aY.jN]using ht
  rw[hset b (fun e=>by subst e;rw[g83]at hb;cases hb;exact absurd ht (by decide)),hb]
 ·rcases List.mem_append.1 hx with hx |hx
  ·exact keepS _ _ (h81.sh x hx)
  ·rw[List.mem_singleton]at hx
   subst hx
   exact keepS _ _ (hw.aD hx81)
 ·rcases List.mem_append.1 hx with hx |hx
  ·exact h.ln x hx
  ·rw[List.mem_singleton]at hx
   subst hx
   exact hl
 ·rw[hset c (by omega),hf83.get c (by omega),hx81.get c (by omega)]
 ·rw[bw c (by omega) hne (fun cs g e=>ht cs g (by rw[<-e,hx81.get c (by omega)])),hx81.get c (by omega)]
theorem qf(hX:dF X){oc:Nat}{mm:M}{acc:List UW}{r w:Value}{u:Un}(h:Df oc mm acc r)(hw:Sl mm u.shape w)(hl:u.shape.length < 1000000)(hal:acc.length < 1000000):
  ∃w' m78 m81 r' m83 m85,C X (.func 57) [u.v w] mm mm.n (u.v w') m78/\aE TE m78 29 1 [(0,u.v w')]=some (.slice (some ⟨m78.n,0,none⟩) 1 1,m81)/\
   aq TE (M.wl m81 (M.n m81)) .append [29,29] [r,.slice (some ⟨m78.n,0,none⟩) 1 1]=some (r',m83)/\
   aB TE m83 29 (.pointer (some ⟨oc,0+0,none⟩)) r'=some (m85,oc)/\oc+1<=m83.low/\Df oc m85 (acc++ [⟨u,w'⟩]) r'/\Zb oc mm m85:=by
 have hoc:=M.aI h.cell
 obtain⟨w',m78,hc,hx78,hs78⟩:=Fm hX hw hl
 have n78:=hx78.n
 obtain⟨m81,r',m83,m85,h1,h2,h3,h4,h5,h6⟩:=KA (h.aD hx78) hs78 hl hal
 exact⟨w',m78,m81,r',m83,m85,hc,h1,h2,h3,h4,h5,⟨by have:=h6.n;omega,fun c hc=>by rw[h6.lo c hc,hx78.get c (by omega)],fun c hc hne ht=>by rw[h6.get c (by omega) hne (fun cs g e=>ht cs g (by rw[<-e,hx78.get c hc])),hx78.get c hc]⟩⟩
open Classical in
def oD(l:List UW)(u:Un)(m':M)(rv:Value):Prop:=
 if gP (cd l)=true/\gP (gC u (cd l))=true then∃l' r,rv=.tuple #[.agg #[r],.int .i64 0]/\cd l'=gC u (cd l)/\eF m' l' r else rv=.tuple #[.agg #[.slice none 0 0],.int .i64 120]
theorem oD.no{l:List UW}{u:Un}{m':M}(h:¬(gP (cd l)=true/\gP (gC u (cd l))=true)):oD l u m' (.tuple #[.agg #[.slice none 0 0],.int .i64 120]):=by unfold oD;rw[if_neg h]
theorem oD.yes{l l':List UW}{u:Un}{m':M}{r:Value}(h1:gP (cd l)=true)(h2:gP (gC u (cd l))=true)(h3:cd l'=gC u (cd l))(h4:eF m' l' r):oD l u m' (.tuple #[.agg #[r],.int .i64 0]):=by unfold oD;rw[if_pos ⟨h1,h2⟩];exact⟨l',r,rfl,h3,h4⟩
theorem CK(u:Un)(l:List Un):gC u l≠ []:=by
 cases l with
 |nil=>simp[gC]
 |cons a r=>rw[gC];split <;>simp
set_option maxRecDepth 100000 in
theorem OQ(hX:dF X){l:List UW}{v w:Value}{u:Un}(h:eF m l v)(hlen:l.length < 1000)(hw:Sl m u.shape w)(hul:u.shape.length < 1000000):
  ∃rv m',C X (.func 52) [.agg #[v],u.v w] m m.n rv m'/\Ext m m'/\oD l u m' rv:=by
 have key:∃rv m' b,C X (.func 52) [.agg #[v],u.v w] m b rv m'/\b=m.n/\Ext m m'/\oD l u m' rv:=by
  refine Cl.gen (R:=fun rv m' b=>b=m.n/\Ext m m'/\oD l u m' rv) (hX.no _ rfl) Qu rfl ?_
  rw[F52];dsimp only[aN]
  refine ar fun m1 hn1 hg1 hk1=>?_
  refine ar fun m2 hn2 hg2 hk2=>?_
  refine ar fun m3 hn3 hg3 hk3=>?_
  simp only[aL]at hg1 hg2
  have hx3:Ext m m3:=⟨by omega,fun c hc=>by rw[hk3 c (by omega),hk2 c (by omega),hk1 c hc]⟩
  have g1:m3.get m.n=.cells [v] 31 none:=by rw[hk3 _ (by omega),hk2 _ (by omega)];exact hg1
  have g2:m3.get m1.n=.cells (u.c w) 87 none:=by rw[hk3 _ (by omega)];exact hg2
  unfold ptrTo
  rw[eo,aH g1 (by simp)]
  show ah (some (Value.agg #[v])) _
  rw[aa]
  refine aC (sB hX (h.aD hx3) (by omega)) ?_
  rw[bD,aa,aj]
  have hfail:∀(mm:M) (lo:Nat),(∀c,c < m3.n->mm.get c=m3.get c)->¬(gP (cd l)=true/\gP (gC u (cd l))=true)->m.n<=lo->
    aO (aB TE mm 31 (.pointer (some ⟨m2.n,0,none⟩)) (.agg #[.slice none 0 0])) fun m10 b11=>ah (ag TE m10 31 (.pointer (some ⟨m2.n,0,none⟩))) fun v12=>
     (bY (bs [v12,.int .i64 120])=true/\m.n<=min lo b11/\m.n=m.n/\Ext m m/\oD l u m (bs [v12,.int .i64 120]))\/
     ((bY (bs [v12,.int .i64 120])=false\/min lo b11 < m.n)/\min m.n (min lo b11)=m.n/\Ext m m10/\oD l u m10 (bs [v12,.int .i64 120])):=by
   intro mm lo hk hno hlo
   have g3:mm.get m2.n=.cells [.slice none 0 0] 31 none:=by rw[hk _ (by omega),hg3]
   refine av uN g3 rfl rfl rfl fun m10 hn10 hg10 hk10=>?_
   have hg10:m10.get m2.n=.cells [.slice none 0 0] 31 none:=hg10
   rw[eo,aH hg10 (by simp)]
   show ah (some (Value.agg #[.slice none 0 0])) _
   rw[aa]
   exact .inl ⟨rfl,by omega,rfl,.refl,.no hno⟩
  have bld:aW TE 31 []=some (.agg #[.slice none 0 0]):=Fv
  refine ak (fun hb=>?_) (fun hb=>?_)
  ·have hb:gP (cd l)=false:=by simpa using hb
   rw[bld,aa]
   exact hfail m3 (min m.n m3.n) (fun _ _=>rfl) (fun hh=>by rw[hb]at hh;exact absurd hh.1 (by decide)) (by omega)
  have hfl:gP (cd l)=true:=by simpa using hb
  refine ar fun m13 hn13 hg13 hk13=>?_
  obtain⟨oc,hoc⟩:∃oc,oc=m3.n:=⟨_,rfl⟩
  rw[<-hoc]at hg13⊢
  have hx13:Ext m3 m13:=⟨by omega,fun c hc=>hk13 c hc⟩
  refine Lp.intro (γ:=Nat) (fun i=>l.length-i) (fun i vs mm lo=>∃(done:Bool) (acc:List UW) (r:Value),vs=[.bool done,.int .i64 i]/\i<=l.length/\Df oc mm acc r/\(∀c,c < oc->mm.get c=m3.get c)/\m.n<=lo/\m13.n<=mm.n/\
   (done=false->cd acc=(cd l).take i/\∀x∈(cd l).take i,¬u.id < x.id)/\(done=true->cd acc=gC u ((cd l).take i)/\∃x∈(cd l).take i,u.id < x.id)/\acc.length<=i+1) 0
   ⟨false,[],_,rfl,Nat.zero_le _,⟨hg13,.nil,fun x hx=>(by cases hx),fun x hx=>(by cases hx)⟩,fun c hc=>hk13 c (by omega),by omega,Nat.le_refl _,fun _=>⟨rfl,fun x hx=>(by simp at hx)⟩,fun h=>(by cases h),Nat.zero_le _⟩ ?_
  rintro i vs mm lo1 ⟨done,acc,r,rfl,hi,hgr,hk,hlo,hnm,hd0,hd1,hal⟩
  have gf:mm.get m.n=.cells [v] 31 none:=by rw[hk _ (by omega),g1]
  have gu:mm.get m1.n=.cells (u.c w) 87 none:=by rw[hk _ (by omega),g2]
  have hxm:Ext m mm:=⟨by omega,fun c hc=>by rw[hk c (by omega),hx3.get c hc]⟩
  have hF:=h.aD hxm
  have ldF:∀m':M,m'.get m.n=.cells [v] 31 none->ag TE m' 29 (.pointer (some ⟨m.n,0+0,none⟩))=some v:=fun m' h=>by rw[fD,az h];rfl
  have ldO:∀(m':M) acc r,Df oc m' acc r->ag TE m' 29 (.pointer (some ⟨oc,0+0,none⟩))=some r:=fun m' acc r h=>by rw[fD,az h.cell];rfl
  rw[aA,aA,bR,aa,ldF mm gf,aa,hF.sl.len eP,au,aM,aa,aj]
  refine ak (fun hlt=>?_) (fun hge=>?_)
  ·have hlt:i < l.length:=by simpa using hlt
   obtain⟨x,hx⟩:∃x,l[i]?=some x:=⟨_,List.getElem?_eq_getElem hlt⟩
   have hxm':=List.mem_of_getElem? hx
   have htk:(cd l).take (i+1)=(cd l).take i++ [x.u]:=by rw[List.take_add_one,km hx];rfl
   refine cq (fun vs m' lo=>vs=[.bool (!done && decide (u.id < x.u.id))]/\mm=m'/\lo1=lo) (fun R hR=>?_) ?_
   ·rw[bD,aa,aj]
    refine ak (fun h1=>?_) (fun h1=>?_)
    ·obtain⟨q,q0,f1,f2,f3⟩:=BR hF.sl hx
     obtain⟨l0, -⟩:=iD gu
     rw[aa,ldF mm gf,aa,f1,aa,f2,aa,f3,aa,bt,aa,l0,aa,cQ,aa]
     exact hR _ _ _ ⟨by rw[h1,Bool.true_and],rfl,rfl⟩
    ·exact hR _ _ _ ⟨by rw[h1,Bool.false_and],rfl,rfl⟩
   rintro _ _ _ ⟨rfl,rfl,rfl⟩
   rw[aA,aj]
   have step:∀(m':M) (acc':List UW) (r':Value),Df oc m' acc' r'->(∀c,c < oc->m'.get c=m3.get c)->m13.n<=m'.n->acc'.length < 100000->
     ∃q w' m78 m81 r'' m83 m85,ai TE 29 v (.int .i64 i)=some q/\ag TE m' 87 q=some x.v/\C X (.func 57) [x.v] m' m'.n (x.u.v w') m78/\aE TE m78 29 1 [(0,x.u.v w')]=some (.slice (some ⟨m78.n,0,none⟩) 1 1,m81)/\
      aq TE (M.wl m81 (M.n m81)) .append [29,29] [r',.slice (some ⟨m78.n,0,none⟩) 1 1]=some (r'',m83)/\
      aB TE m83 29 (.pointer (some ⟨oc,0+0,none⟩)) r''=some (m85,oc)/\oc+1<=m83.low/\Df oc m85 (acc'++ [⟨x.u,w'⟩]) r''/\(∀c,c < oc->m85.get c=m3.get c)/\m13.n<=m85.n:=by
    intro m' acc' r' hg hk' hn' hal'
    have hxm2:Ext m m':=⟨by omega,fun c hc=>by rw[hk' c (by omega),hx3.get c hc]⟩
    obtain⟨q,q1,q2,_⟩:=(h.aD hxm2).sl.iQ (k:=.i64) hx
    obtain⟨w',m78,m81,r'',m83,m85,h1,h2,h3,h4,h5,h6,h7⟩:=qf hX hg ((h.aD hxm2).sh x hxm') (h.ln x hxm') (by omega)
    exact⟨q,w',m78,m81,r'',m83,m85,q1,q2,h1,h2,h3,h4,h5,h6,fun c hc=>by rw[h7.lo c hc,hk' c hc],by have:=h7.n;omega⟩
   refine ak (fun h1=>?_) (fun h1=>?_)
   ·rw[Bool.and_eq_true]at h1
    obtain⟨h1,h2⟩:=h1
    have hdone:done=false:=by simpa using h1
    have hlt2:u.id < x.u.id:=by simpa using h2
    obtain⟨e1,e2⟩:=hd0 hdone
    have hal0:acc.length<=i:=by
     have:=congrArg List.length e1
     rw[dZ,List.length_take]at this
     omega
    obtain⟨wa,m45,m48,ra,m50,m52,a1,a2,a3,a4,a5,a6,a7⟩:=qf hX hgr (hw.aD hxm) hul (by omega)
    obtain⟨q,wb,m61,m64,rb,m66,m68,b1,b2,b3,b4,b5,b6,b7,b8,b9,b10⟩:=step m52 _ ra a6 (fun c hc=>by rw[a7.lo c hc,hk c hc]) (by have:=a7.n;omega) (by rw[List.length_append];simp;omega)
    have gf52:m52.get m.n=.cells [v] 31 none:=by rw[a7.lo _ (by omega),gf]
    rw[bR,aa,ldO mm acc r hgr,aa,bP gu,aa]
    refine aC a1 ⟨Nat.le_refl _,?_⟩
    rw[a2,au,a3,au,aa,a4,au,aa,ldO m52 _ _ a6,aa,aa,ldF m52 gf52,aa,b1,aa,b2,aa]
    refine aC b3 ⟨Nat.le_refl _,?_⟩
    rw[b4,au,b5,au,aa,b6,au,aG,aa,wrap64 (by omega) (by omega)]
    have:=a7.n
    refine⟨i+1,by omega,true,_,rb,rfl,by omega,b8,b9,by omega,b10,(fun h=>by cases h),fun _=>⟨?_,x.u,by rw[htk];simp,hlt2⟩,by simp;omega⟩
    rw[htk,wG e2]
    show cd ((acc++ [⟨u,wa⟩])++ [⟨x.u,wb⟩])=_
    unfold cd at e1⊢
    rw[List.map_append,List.map_append,e1]
    simp[gC,hlt2]
   ·obtain⟨q,wb,m78,m81,rb,m83,m85,b1,b2,b3,b4,b5,b6,b7,b8,b9,b10⟩:=step mm _ r hgr hk hnm (by omega)
    rw[bR,aa,ldO mm acc r hgr,aa,aa,ldF mm gf,aa,b1,aa,b2,aa]
    refine aC b3 ⟨Nat.le_refl _,?_⟩
    rw[b4,au,b5,au,aa,b6,au,aG,aa,wrap64 (by omega) (by omega)]
    refine⟨i+1,by omega,done,_,rb,rfl,by omega,b8,b9,by omega,b10,fun hd=>?_,fun hd=>?_,by simp;omega⟩
    ·obtain⟨e1,e2⟩:=hd0 hd
     have hn:¬u.id < x.u.id:=by
      rw[hd,Bool.not_false,Bool.true_and]at h1
      simpa using h1
     refine⟨?_,fun y hy=>?_⟩
     ·rw[htk]
      unfold cd at e1⊢
      rw[List.map_append,e1];rfl
     ·rw[htk]at hy
      rcases List.mem_append.1 hy with hy |hy
      ·exact e2 y hy
      ·rw[List.mem_singleton]at hy;subst hy;exact hn
    ·obtain⟨e1,y,hy,hlt2⟩:=hd1 hd
     refine⟨?_,y,by rw[htk];simp[hy],hlt2⟩
     rw[htk,zv ⟨y,hy,hlt2⟩]
     unfold cd at e1⊢
     rw[List.map_append,e1];rfl
  ·have hi':i=l.length:=by
    have:¬(i:Int)< (l.length:Int):=by simpa using hge
    omega
   subst hi'
   rw[List.take_of_length_le (by rw[dZ];exact Nat.le_refl _)]at hd0 hd1
   have fin:∀(m':M) (acc':List UW) (r':Value) (lo':Nat),Df oc m' acc' r'->(∀c,c < oc->m'.get c=m3.get c)->m13.n<=m'.n->m.n<=lo'->cd acc'=gC u (cd l)->acc'.length < 100000->
     C X (.func 61) [.agg #[r']] m' m'.n (.bool (gP (gC u (cd l)))) m'/\ag TE m' 31 (.pointer (some ⟨oc,0,none⟩))=some (.agg #[r'])/\
     (gP (gC u (cd l))=true->aO (aB TE m' 31 (.pointer (some ⟨m2.n,0,none⟩)) (.agg #[r'])) fun m112 b113=>ah (ag TE m112 31 (.pointer (some ⟨m2.n,0,none⟩))) fun v12=>
      (bY (bs [v12,.int .i64 0])=true/\m.n<=min lo' b113/\m.n=m.n/\Ext m m/\oD l u m (bs [v12,.int .i64 0]))\/
      ((bY (bs [v12,.int .i64 0])=false\/min lo' b113 < m.n)/\min m.n (min lo' b113)=m.n/\Ext m m112/\oD l u m112 (bs [v12,.int .i64 0]))):=by
    intro m' acc' r' lo' hg hk' hn' hlo' hus hal'
    refine⟨by rw[<-hus];exact sB hX hg.Y7 (by omega),by rw[eo,aH hg.cell (by simp)];rfl,fun hv=>?_⟩
    have g3:m'.get m2.n=.cells [.slice none 0 0] 31 none:=by rw[hk' _ (by omega),hg3]
    refine av uN g3 rfl rfl (by show(one r' && true)=true;rw[hg.ow.sl.one];rfl) fun m10 hn10 hg10 hk10=>?_
    have hg10:m10.get m2.n=.cells [r'] 31 none:=hg10
    rw[eo,aH hg10 (by simp)]
    show ah (some (Value.agg #[r'])) _
    rw[aa]
    have hfab:eF m10 acc' r':=hg.Y7.bw fun c cs t g hb ht=>by
     rw[hk10 c (fun e=>by subst e;rw[g3]at hb;cases hb;rcases ht with ht |ht <;>exact absurd ht (by decide)),hb]
    refine .inr ⟨.inl ?_,by omega,⟨by omega,fun c hc=>by rw[hk10 c (by omega),hk' c (by omega),hx3.get c hc]⟩,.yes hfl hv hus hfab⟩
    have hne:acc'≠ []:=fun e=>by
     rw[e]at hus
     exact CK u (cd l) hus.symm
    obtain⟨bb,hv',_⟩:=Own.of hg.ow hne
    rw[hv']
    simp[bs,bY,gg,bL]
   rw[bD,aa,aj]
   refine ak (fun h1=>?_) (fun h1=>?_)
   ·have hdone:done=false:=by simpa using h1
    obtain⟨e1,e2⟩:=hd0 hdone
    obtain⟨wa,m93,m96,ra,m98,m100,a1,a2,a3,a4,a5,a6,a7⟩:=qf hX hgr (hw.aD hxm) hul (by omega)
    have hus:cd (acc++ [⟨u,wa⟩])=gC u (cd l):=by
     have:gC u (cd l++ [])=cd l++gC u []:=wG e2
     rw[List.append_nil]at this
     rw[this]
     unfold cd at e1⊢
     rw[List.map_append,e1];rfl
    have n7:=a7.n
    obtain⟨f1,f2,f3⟩:=fin m100 _ ra (min (min (min lo1 mm.n) m98.low) oc) a6 (fun c hc=>by rw[a7.lo c hc,hk c hc]) (by omega) (by omega) hus (by simp;omega)
    rw[bR,aa,ldO mm acc r hgr,aa,bP gu,aa]
    refine aC a1 ⟨Nat.le_refl _,?_⟩
    rw[a2,au,a3,au,aa,a4,au,f2,aa]
    refine aC f1 ?_
    rw[bD,aa,aj]
    have hmin:min (min (min (min lo1 mm.n) m98.low) oc) m100.n=min (min (min lo1 mm.n) m98.low) oc:=by have:=M.aI a6.cell;omega
    rw[hmin]
    cases hfv:gP (gC u (cd l))with
    |false=>
     rw[Bool.not_false,bZ,bld,aa]
     exact hfail m100 _ (fun c hc=>by rw[a7.lo c (by omega),hk c (by omega)]) (fun hh=>by rw[hfv]at hh;exact absurd hh.2 (by decide)) (by omega)
    |true=>
     rw[Bool.not_true,aU,f2,aa]
     exact f3 hfv
   ·have hdone:done=true:=by simpa using h1
    obtain⟨e1,_⟩:=hd1 hdone
    obtain⟨f1,f2,f3⟩:=fin mm acc r (min lo1 mm.n) hgr hk hnm (by omega) e1 (by omega)
    rw[f2,aa]
    refine aC f1 ?_
    rw[bD,aa,aj]
    cases hfv:gP (gC u (cd l))with
    |false=>
     rw[Bool.not_false,bZ,bld,aa]
     exact hfail mm _ (fun c hc=>hk c (by omega)) (fun hh=>by rw[hfv]at hh;exact absurd hh.2 (by decide)) (by omega)
    |true=>
     rw[Bool.not_true,aU,f2,aa]
     exact f3 hfv
 obtain⟨rv,m',b,hc,rfl,h1,h2⟩:=key
 exact⟨rv,m',hc,h1,h2⟩
end Go.Proofs.YtmdfgncoekfgdaaGreatDoor
namespace Go.Proofs.YtmdfgncoekfgdaaGreatDoor
open Go Go.D
variable {X:aF} {m:M}
structure I6 where
 a:Int
 b:Int
 c:Int
 d:Int
 e:Int
 f:Int
def I6.c'(x:I6):List Value:=[.int .i64 x.a,.int .i64 x.b,.int .i64 x.c,.int .i64 x.d,.int .i64 x.e,.int .i64 x.f]
def I6.ok(x:I6):Prop:=nb x.a/\nb x.b/\nb x.c/\nb x.d/\nb x.e/\nb x.f
instance:aY I6 where
 ty:=85
 sz:=6
 agg:=true
 jN:=[]
 rep _ x cs:=cs=x.c'
 pos:=by decide
 one:=by intro h;cases h
 len:=by rintro _ _ _ rfl;rfl
 lO:=by rintro _ _ _ rfl;rfl
 bw:=by rintro _ _ _ _ rfl _;rfl
theorem Au:uJ TE 22 85 I6:=⟨af.t22,af.t85,by kernel_rfl,⟨_,rfl⟩,rfl,by kernel_rfl,rfl,rfl⟩
theorem P5{l:List I6}{v:Value}(h:Af m l v){i:Nat}{x:I6}(hx:l[i]?=some x):∃b o,ai TE 22 v (.int .i64 i)=some (.pointer (some ⟨b,o,none⟩))/\ag TE m 85 (.pointer (some ⟨b,o,none⟩))=some (.agg x.c'.toArray)/\ag TE m 3 (.pointer (some ⟨b,o+5,none⟩))=some (.int .i64 x.f):=by
 obtain⟨p,cs,e1,e2,e3⟩:=h.index Au (k:=.i64) hx
 have e3:cs=x.c':=e3
 subst e3
 have hlt:=(List.getElem?_eq_some_iff.1 hx).1
 rcases h with h |h
 ·obtain⟨b,o,bc,g,cs,f1,hb,hr,hle,hj⟩:=h.iF Au (k:=.i64) hx
  have hr:cs=x.c':=hr
  subst hr
  rw[e1]at f1
  cases f1
  refine⟨b,o,e1,e2,?_⟩
  rw[bA,az hb,hj 5 (by decide)];rfl
 ·rcases h with⟨_,rfl⟩ |⟨b,o,c,bc,rfl,hb,hel⟩
  ·simp at hx
  ·obtain⟨hle,hr⟩:=hel i x hx
   have hr:(bc.drop (o+i*6)).take 6=x.c':=hr
   have f1:ai TE 22 (.slice (some ⟨b,o,none⟩) l.length c) (.int .i64 i)=some (.pointer (some ⟨b,o+i*6,none⟩)):=by
    have hc:0<=(i:Int)/\(i:Int)< (l.length:Int)/\0 < af.t22.es:=⟨by omega,by omega,by decide⟩
    have hd:af.t22.d=.slice 85:=rfl
    simp only[ai,PD,hd]
    rw[if_pos hc,aZ rfl];rfl
   rw[e1]at f1
   cases f1
   refine⟨b,o+i*6,e1,e2,?_⟩
   have h5:bc[o+i*6+5]?=some (.int .i64 x.f):=by
    have:=congrArg (·[5]?) hr
    simp only[List.getElem?_take_of_lt (show 5 < 6 by decide),List.getElem?_drop]at this
    rw[this];rfl
   rw[bA,vu hb h5 rfl]
set_option maxRecDepth 100000 in
theorem Er(hX:dF X){xs:List I6}{v:Value}(hv:Af m xs v)(hok:∀x∈xs,x.ok)(hlen:xs.length < 9223372036854775808):
  ∃l r m',C X (.func 9) [v] m m.n (.agg #[r]) m'/\Ext m m'/\eF m' l r/\cS (cd l):=by
 have key:∃rv m' b,C X (.func 9) [v] m b rv m'/\b=m.n/\Ext m m'/\∃l r,rv=.agg #[r]/\eF m' l r/\cS (cd l):=by
  refine Cl.gen (R:=fun rv m' b=>b=m.n/\Ext m m'/\∃l r,rv=.agg #[r]/\eF m' l r/\cS (cd l)) (hX.no _ rfl) Sq rfl ?_
  rw[F9];dsimp only[aN]
  refine ar fun m1 hn1 hg1 hk1=>?_
  refine ar fun m2 hn2 hg2 hk2=>?_
  have hx2:Ext m m2:=⟨by omega,fun c hc=>by rw[hk2 c (by omega),hk1 c hc]⟩
  have g1:m2.get m.n=.cells [.slice none 0 0] 31 none:=by rw[hk2 _ (by omega),hg1]
  have fab0:∀mm:M,eF mm [] (.slice none 0 0):=fun mm=>⟨.nil,fun x hx=>(by cases hx),fun x hx=>(by cases hx),.inl rfl⟩
  have fabp0:cS (cd []):=⟨by simp[cd],fun u hu=>(by simp[cd]at hu),fun i a b ha=>(by simp[cd]at ha),fun i k a b _ ha=>(by simp[cd]at ha)⟩
  unfold ptrTo
  refine Lp.intro (γ:=Nat) (fun i=>12-i) (fun i vs mm lo=>∃l r,vs=[.int .i64 i]/\i<=12/\Ext m mm/\m2.n<=mm.n/\mm.get m.n=.cells [.slice none 0 0] 31 none/\mm.get m1.n=.cells [r] 31 none/\eF mm l r/\cS (cd l)/\m.n<=lo/\(l=[]->r=.slice none 0 0)) 0
   ⟨[],_,rfl,by omega,hx2,Nat.le_refl _,g1,hg2,fab0 _,fabp0,Nat.le_refl _,fun _=>rfl⟩ ?_
  rintro i vs mm lo ⟨l,r,rfl,hi,hx,hnm,ga,gb,hF,hP,hlo,hnil⟩
  have hll:l.length<=12:=by have:=hP.len;rwa[dZ]at this
  rw[aA]
  refine cq (fun vs m' lo'=>vs=[.bool (decide (i < xs.length) && decide (i < 12))]/\mm=m'/\lo=lo') (fun R hR=>?_) ?_
  ·rw[(hv.aD hx).len Au,au,aM,aa,aj]
   refine ak (fun h=>?_) (fun h=>?_)
   ·have h:i < xs.length:=by simpa using h
    rw[aM,aa]
    refine hR _ _ _ ⟨?_,rfl,rfl⟩
    rw[decide_eq_true h,Bool.true_and]
    congr 2
    rw[decide_eq_decide];omega
   ·have h:¬i < xs.length:=by simpa using h
    exact hR _ _ _ ⟨by rw[decide_eq_false h];rfl,rfl,rfl⟩
  rintro _ _ _ ⟨rfl,rfl,rfl⟩
  rw[aA,aj]
  have ldF:∀(m':M) (b:Nat) (r:Value),m'.get b=.cells [r] 31 none->ag TE m' 31 (.pointer (some ⟨b,0,none⟩))=some (.agg #[r]):=fun m' b r h=>by rw[eo,aH h (by simp)];rfl
  refine ak (fun h=>?_) (fun h=>?_)
  ·simp only[Bool.and_eq_true,decide_eq_true_eq]at h
   obtain⟨hix,hi12⟩:=h
   obtain⟨x,hxi⟩:∃x,xs[i]?=some x:=⟨_,List.getElem?_eq_getElem hix⟩
   obtain⟨k0,k1,k2,k3,k4,k5⟩:=hok x (List.mem_of_getElem? hxi)
   obtain⟨b,o,e1,e2,e3⟩:=P5 (hv.aD hx) hxi
   have e4:ai TE 85 (.pointer (some ⟨b,o,none⟩)) (.int .i64 5)=some (.pointer (some ⟨b,o+5,none⟩)):=Ng (i:=5) (by decide)
   rw[ldF mm _ _ gb,aa,dt,aa,e1,aa,e4,aa,e3,aa]
   refine aC (dz hX k5 (by decide)) ⟨Nat.le_refl _,?_⟩
   rw[aG,aa,aa,e2,aa]
   obtain⟨u,w,m30,hc30,hx30,hs30,hl30⟩:=JH (m:=mm) hX (nz _) k0 k1 k2 k3 k4 k5
   refine aC hc30 ⟨Nat.le_refl _,?_⟩
   obtain⟨rv,m33,hc33,hx33,hr33⟩:=OQ (m:=m30) hX (hF.aD hx30) (by omega) hs30 (by omega)
   refine aC hc33 ⟨Nat.le_refl _,?_⟩
   have n30:=hx30.n
   have n33:=hx33.n
   have hx333:=hx30.trans hx33
   by_cases hc:gP (cd l)=true/\gP (gC u (cd l))=true
   ·unfold oD at hr33
    rw[if_pos hc]at hr33
    obtain⟨l',r',rfl,hus,hF'⟩:=hr33
    rw[aR,aR]
    simp only[List.getElem?_cons_zero,List.getElem?_cons_succ,aa]
    refine ar fun m37 hn37 hg37 hk37=>?_
    have or:one r'=true:=hF'.sl.one
    refine av uN hg37 rfl rfl (by show(one r' && true)=true;rw[or];rfl) fun um hn38 hg38 hk38=>?_
    have hg38:um.get m33.n=.cells [r'] 31 none:=hg38
    have hx38:Ext m33 um:=⟨by omega,fun c hc=>by rw[hk38 c (by omega),hk37 c hc]⟩
    rw[bI,aa,aj,decide_eq_true rfl,bZ,ldF um _ _ hg38,aa]
    have gb38:um.get m1.n=.cells [r] 31 none:=hx38.cells (hx333.cells gb)
    refine av uN gb38 rfl rfl (by show(one r' && true)=true;rw[or];rfl) fun m42 hn42 hg42 hk42=>?_
    have hg42:m42.get m1.n=.cells [r'] 31 none:=hg42
    rw[aG,aa,wrap64 (by omega) (by omega)]
    refine⟨i+1,by omega,l',r',rfl,by omega,⟨by have:=hx.n;omega,fun c hc=>by rw[hk42 c (by omega),hx38.get c (by have:=hx.n;omega),hx333.get c (by have:=hx.n;omega),hx.get c hc]⟩,by omega,?_,hg42,?_,?_,by have:=hx.n;omega,fun e=>?_⟩
    ·rw[hk42 _ (by omega),hx38.get _ (by omega),hx333.get _ (by omega),ga]
    ·exact(hF'.aD hx38).bw fun c cs t g hb ht=>by
      rw[hk42 c (fun e=>by subst e;rw[gb38]at hb;cases hb;rcases ht with ht |ht <;>exact absurd ht (by decide)),hb]
    ·rw[hus];exact zK.1 hc.2
    ·rw[e]at hus
     exact absurd hus.symm (CK u _)
   ·unfold oD at hr33
    rw[if_neg hc]at hr33
    subst hr33
    rw[aR,aR]
    simp only[List.getElem?_cons_zero,List.getElem?_cons_succ,aa]
    refine ar fun m37 hn37 hg37 hk37=>?_
    refine av uN hg37 rfl rfl rfl fun um hn38 hg38 hk38=>?_
    have hx38:Ext m33 um:=⟨by omega,fun c hc=>by rw[hk38 c (by omega),hk37 c hc]⟩
    rw[bI,aa,aj,show decide ((120:Int)=0)=false from rfl,aU,aG,aa,wrap64 (by omega) (by omega)]
    have hxx:=hx333.trans hx38
    exact⟨i+1,by omega,l,r,rfl,by omega,hx.trans hxx,by have:=hxx.n;omega,hxx.cells ga,hxx.cells gb,hF.aD hxx,hP,by have:=hx.n;omega,hnil⟩
  ·rw[ldF mm _ _ gb,aa]
   have or:one r=true:=hF.sl.one
   refine av uN ga rfl rfl (by show(one r && true)=true;rw[or];rfl) fun m47 hn47 hg47 hk47=>?_
   have hg47:m47.get m.n=.cells [r] 31 none:=hg47
   rw[ldF m47 _ _ hg47,aa]
   have hF47:eF m47 l r:=hF.bw fun c cs t g hb ht=>by
    rw[hk47 c (fun e=>by subst e;rw[ga]at hb;cases hb;rcases ht with ht |ht <;>exact absurd ht (by decide)),hb]
   have hx47:Ext m m47:=⟨by have:=hx.n;omega,fun c hc=>by rw[hk47 c (by omega),hx.get c hc]⟩
   by_cases hl:l=[]
   ·have hr:=hnil hl
    subst hl
    subst hr
    exact .inl ⟨rfl,by omega,rfl,.refl,[],_,rfl,fab0 m,fabp0⟩
   ·refine .inr ⟨.inl ?_,by omega,hx47,l,r,rfl,hF47,hP⟩
    rcases hF.cap with h |⟨bb,o,c,bc,g,rfl,_⟩
    ·exact absurd h hl
    ·simp[bs,bY,gg,bL]
 obtain⟨rv,m',b,hc,rfl,h1,l,r,rfl,h2,h3⟩:=key
 exact⟨l,r,m',hc,h1,h2,h3⟩
end Go.Proofs.YtmdfgncoekfgdaaGreatDoor
namespace Go.Proofs.YtmdfgncoekfgdaaGreatDoor
open Go Go.D Go.ChangeShapes Go.WideShapes Go.ChangeAt Go.RowKit
theorem BT:Tryz.prog.underlying 22=some (.slice 85):=by kernel_rfl
theorem PB:Tryz.prog.underlying 85=some (.array 6 3):=by kernel_rfl
section
variable {H:Type} {enc:TypeId×Value->H} {W W':World} {sp:Nat->Bool} {held:Bool} {base:Nat}
theorem Jj:∀fuel cs x,DataW.trod enc Tryz.prog W 0 sp held fuel 85 cs=some x->∃y:I6,y.ok/\(∀m,aY.rep m y cs)/\∀u∈cs,bL u=true:=by
 intro fuel cs x h
 obtain⟨l,rfl,hl,hr⟩:=CJ PB (by kernel_rfl) h
 match l,hl,hr with
 |[a,b,c,d,e,f],_,hr=>
  refine⟨⟨a,b,c,d,e,f⟩,⟨hr _ (by simp),hr _ (by simp),hr _ (by simp),hr _ (by simp),hr _ (by simp),hr _ (by simp)⟩,fun m=>rfl,fun u hu=>?_⟩
  obtain⟨z,_,rfl⟩:=List.mem_map.1 hu
  rfl
end
end Go.Proofs.YtmdfgncoekfgdaaGreatDoor
namespace Go.Proofs.YtmdfgncoekfgdaaGreatDoor
open Go Go.D
set_option maxRecDepth 100000 in
theorem SA{W:Words}{x0 x1:Value}{m:M}{R:List Value->M->Nat->Prop}:dN TE W Tryz.f331 [x0,x1] m R=
(W.bW (M.push m (.cells (cells x0) 98 none)) fun a=>W.bW (M.push a (.cells (cells x1) 98 none)) fun b=>W.ah (ae TE 98 (ptrTo m.n) 0) fun c=>W.ah (ag TE b 3 c) fun d=>W.ah (ae TE 98 (ptrTo a.n) 0) fun f=>W.ah (ag TE b 3 f) fun g=>W.bB (.func 186) [d,g] b fun h i j=>(M.n b<=j)/\(W.ah (ae TE 98 (ptrTo m.n) 1) fun k=>W.ah (ag TE i 3 k) fun l=>W.ah (ae TE 98 (ptrTo a.n) 1) fun n=>W.ah (ag TE i 3 n) fun o=>W.bB (.func 186) [l,o] i fun p q r=>W.aO (aE TE q 25 2 [(0,h),(1,p)]) fun s t=>W.bB (.func 185) [s] t fun u v w=>R [u] v (min (min (min m.n j) r) w))):=by kernel_rfl
set_option maxRecDepth 100000 in
theorem SB{W:Words}{x0 x1 x2 x3:Value}{m:M}{R:List Value->M->Nat->Prop}:dN TE W Tryz.f330 [x0,x1,x2,x3] m R=
(W.bW (M.push m (.cells (cells x0) 98 none)) fun a=>W.bW (M.push a (.cells (cells x1) 98 none)) fun b=>W.bW (M.push b (.cells (cells x2) 98 none)) fun c=>W.bW (M.push c (.cells (cells x3) 98 none)) fun d=>W.bW (M.push d (.cells [(.int .i64 0),(.int .i64 0)] 98 none)) fun f=>W.bW (M.push f (.cells [(.int .i64 0),(.int .i64 0)] 98 none)) fun g=>W.ah (ag TE g 98 (ptrTo m.n)) fun h=>W.ah (ag TE g 98 (ptrTo a.n)) fun i=>W.aO (aE TE g 45 2 [(0,h),(1,i)]) fun j k=>W.ah (ag TE k 98 (ptrTo b.n)) fun l=>W.ah (ag TE k 98 (ptrTo c.n)) fun n=>W.aO (aE TE k 45 2 [(0,l),(1,n)]) fun o p=>W.bB (.func 367) [j,(.func (.func 331) #[] #[])] p fun q r s=>W.bB (.func 367) [o,(.func (.func 331) #[] #[])] r fun t u v=>W.ah (ai TE 45 j (.int .i64 0)) fun w=>W.ah (ag TE u 98 w) fun y=>W.ah (ai TE 45 o (.int .i64 0)) fun z=>W.ah (ag TE u 98 z) fun A=>W.aO (aE TE u 45 2 [(0,y),(1,A)]) fun B C=>W.bB (.func 368) [B,(.func (.func 331) #[] #[])] C fun D E F=>(M.n C<=F)/\(W.ah (ai TE 45 j (.int .i64 1)) fun G=>W.ah (ag TE E 98 G) fun H=>W.ah (ai TE 45 o (.int .i64 1)) fun I=>W.ah (ag TE E 98 I) fun J=>W.aO (aE TE E 45 2 [(0,H),(1,J)]) fun K L=>W.bB (.func 369) [K,(.func (.func 331) #[] #[])] L fun N O P=>W.aO (aB TE O 98 (ptrTo d.n) D) fun Q S=>W.aO (aB TE Q 98 (ptrTo f.n) N) fun T U=>ah (ag TE T 98 (ptrTo d.n)) fun V=>ah (ag TE T 98 (ptrTo f.n)) fun X=>R [V,X] T (min (min (min (min (min (min m.n s) v) F) P) S) U))):=by kernel_rfl
set_option maxRecDepth 100000 in
theorem Sz{W:Words}{x0 x1:Value}{m:M}{R:List Value->M->Nat->Prop}:dN TE W Tryz.f368 [x0,x1] m R=
(W.bW (M.push m (.cells [(.int .i64 0),(.int .i64 0)] 98 none)) fun a=>W.aO (aq TE a .len [45] [x0]) fun b _=>W.ah (an TE .lss 3 b (.int .i64 1)) fun c=>aX c
False
(W.ah (ai TE 45 x0 (.int .i64 0)) fun d=>W.ah (ag TE a 98 d) fun f=>W.bW (M.push a (.cells [(.int .i64 0),(.int .i64 0)] 98 none)) fun g=>W.aO (aB TE g 98 (ptrTo a.n) f) fun h i=>W.Lp (fun j k l n=>W.un k fun o p=>W.aO (aq TE l .len [45] [x0]) fun q _=>W.ah (an TE .lss 3 o q) fun r=>aX r
(W.ah (ai TE 45 x0 o) fun s=>W.ah (ag TE l 98 s) fun t=>W.ah (ag TE l 98 (ptrTo a.n)) fun u=>ku x1 fun v w y=>W.bB v (w.toList++([t,u]++y.toList)) l fun z A B=>W.ah (an TE .gtr 3 z (.int .i64 0)) fun C=>aX C
(W.ah (ai TE 45 x0 o) fun D=>W.ah (ag TE A 98 D) fun E=>W.aO (aB TE A 98 (ptrTo a.n) E) fun F G=>W.ah (an TE .add 3 o (.int .i64 1)) fun H=>j [H] F (min (min n B) G))
(W.ah (an TE .add 3 o (.int .i64 1)) fun I=>j [I] A (min n B)))
(W.ah (ag TE l 98 (ptrTo a.n)) fun J=>W.aO (aB TE l 98 (ptrTo m.n) J) fun K L=>ah (ag TE K 98 (ptrTo m.n)) fun N=>R [N] K (min n L))) [(.int .i64 1)] h (min m.n i))):=by kernel_rfl
set_option maxRecDepth 100000 in
theorem Sy{W:Words}{x0 x1:Value}{m:M}{R:List Value->M->Nat->Prop}:dN TE W Tryz.f369 [x0,x1] m R=
(W.bW (M.push m (.cells [(.int .i64 0),(.int .i64 0)] 98 none)) fun a=>W.aO (aq TE a .len [45] [x0]) fun b _=>W.ah (an TE .lss 3 b (.int .i64 1)) fun c=>aX c
False
(W.ah (ai TE 45 x0 (.int .i64 0)) fun d=>W.ah (ag TE a 98 d) fun f=>W.bW (M.push a (.cells [(.int .i64 0),(.int .i64 0)] 98 none)) fun g=>W.aO (aB TE g 98 (ptrTo a.n) f) fun h i=>W.Lp (fun j k l n=>W.un k fun o p=>W.aO (aq TE l .len [45] [x0]) fun q _=>W.ah (an TE .lss 3 o q) fun r=>aX r
(W.ah (ai TE 45 x0 o) fun s=>W.ah (ag TE l 98 s) fun t=>W.ah (ag TE l 98 (ptrTo a.n)) fun u=>ku x1 fun v w y=>W.bB v (w.toList++([t,u]++y.toList)) l fun z A B=>W.ah (an TE .lss 3 z (.int .i64 0)) fun C=>aX C
(W.ah (ai TE 45 x0 o) fun D=>W.ah (ag TE A 98 D) fun E=>W.aO (aB TE A 98 (ptrTo a.n) E) fun F G=>W.ah (an TE .add 3 o (.int .i64 1)) fun H=>j [H] F (min (min n B) G))
(W.ah (an TE .add 3 o (.int .i64 1)) fun I=>j [I] A (min n B)))
(W.ah (ag TE l 98 (ptrTo a.n)) fun J=>W.aO (aB TE l 98 (ptrTo m.n) J) fun K L=>ah (ag TE K 98 (ptrTo m.n)) fun N=>R [N] K (min n L))) [(.int .i64 1)] h (min m.n i))):=by kernel_rfl
set_option maxRecDepth 100000 in
theorem SR{W:Words}{x0:Value}{m:M}{R:List Value->M->Nat->Prop}:dN TE W Tryz.f185 [x0] m R=
(W.aO (aq TE m .len [25] [x0]) fun a _=>W.Lp (fun b c d f=>W.un c fun g h=>W.un h fun i j=>W.ah (an TE .lss 3 i a) fun k=>aX k
(W.ah (ai TE 25 x0 i) fun l=>W.ah (ag TE d 3 l) fun n=>W.ah (an TE .neq 3 n (.int .i64 0)) fun o=>aX o
(R [n] d f)
(W.ah (an TE .add 3 i (.int .i64 1)) fun p=>b [g,p] d f))
(R [(.int .i64 0)] d f)) [(.int .i64 0),(.int .i64 0)] m m.n):=by kernel_rfl
set_option maxRecDepth 100000 in
theorem SE{W:Words}{x0 x1:Value}{m:M}{R:List Value->M->Nat->Prop}:dN TE W Tryz.f287 [x0,x1] m R=
(W.bW (M.push m (.cells (cells x1) 45 none)) fun a=>W.bW (M.push a (.cells [(.int .i64 0),(.int .i64 0),(.int .i64 0),(.int .i64 0)] 113 none)) fun b=>W.bW (M.push b (.cells [(.bool false)] 4 none)) fun c=>W.jn (fun d=>W.bB (.func 157) [x0] c fun f g h=>W.ah (iO .not f) fun i=>aX i
(d [(.bool true)] g (min m.n h))
(W.ah (ag TE g 45 (ptrTo m.n)) fun j=>W.bB (.func 157) [j] g fun k l n=>W.ah (iO .not k) fun o=>aX o
(d [(.bool true)] l (min (min m.n h) n))
(W.ah (ag TE l 45 (ptrTo m.n)) fun p=>W.bB (.func 102) [x0,p] l fun q r s=>d [q] r (min (min (min m.n h) n) s))))
(fun t u v=>W.un t fun w y=>aX w
(W.ah (aW TE 113 []) fun z=>W.aO (aB TE u 113 (ptrTo a.n) z) fun A B=>W.aO (aB TE A 4 (ptrTo b.n) (.bool false)) fun C D=>ah (ag TE C 113 (ptrTo a.n)) fun E=>ah (ag TE C 4 (ptrTo b.n)) fun F=>R [E,F] C (min (min v B) D))
(W.bB (.func 158) [x0] u fun G H I=>ku G fun J K L=>W.RF J K.toList L.toList H (min v I) (fun N O P=>W.un N fun Q S=>W.un S fun T U=>W.vM U (W.bW (M.push O (.cells [(.int .i64 0),(.int .i64 0)] 98 none)) fun V=>W.aO (aB TE V 98 (ptrTo O.n) Q) fun X Y=>W.bW (M.push X (.cells [(.int .i64 0),(.int .i64 0)] 98 none)) fun Z=>W.aO (aB TE Z 98 (ptrTo X.n) T) fun a0 a1=>W.HA H.n O a0 fun a2=>W.ah (ag TE a2 45 (ptrTo m.n)) fun a3=>W.bB (.func 158) [a3] a2 fun a4 a5 a6=>ku a4 fun a7 a8 a9=>W.RF a7 a8.toList a9.toList a5 (min (min (min (min O.n Y) a1) H.n) a6) (fun b0 b1 b2=>W.un b0 fun b3 b4=>W.un b4 fun b5 b6=>W.vM b6 (W.bW (M.push b1 (.cells [(.int .i64 0),(.int .i64 0)] 98 none)) fun b7=>W.aO (aB TE b7 98 (ptrTo b1.n) b3) fun b8 b9=>W.bW (M.push b8 (.cells [(.int .i64 0),(.int .i64 0)] 98 none)) fun c0=>W.aO (aB TE c0 98 (ptrTo b8.n) b5) fun c1 c2=>W.HA a5.n b1 c1 fun c3=>W.jn (fun c4=>W.ah (ag TE c3 98 (ptrTo O.n)) fun c5=>W.ah (ag TE c3 98 (ptrTo X.n)) fun c6=>W.ah (ag TE c3 98 (ptrTo b1.n)) fun c7=>W.bB (.func 159) [c5,c6,c7] c3 fun c8 c9 d0=>W.ah (an TE .neq 3 c8 (.int .i64 0)) fun d1=>aX d1
(c4 [(.bool true)] c9 (min (min (min (min b1.n b9) c2) a5.n) d0))
(W.ah (ag TE c9 98 (ptrTo O.n)) fun d2=>W.ah (ag TE c9 98 (ptrTo X.n)) fun d3=>W.ah (ag TE c9 98 (ptrTo b8.n)) fun d4=>W.bB (.func 159) [d2,d3,d4] c9 fun d5 d6 d7=>W.ah (an TE .neq 3 d5 (.int .i64 0)) fun d8=>c4 [d8] d6 (min (min (min (min (min b1.n b9) c2) a5.n) d0) d7)))
(fun d9 g0 g1=>W.un d9 fun g2 g3=>aX g2
(b2 c3 .normal g0 g1)
(W.ah (ag TE g0 98 (ptrTo O.n)) fun g4=>W.ah (ag TE g0 98 (ptrTo X.n)) fun g5=>W.ah (ag TE g0 98 (ptrTo b1.n)) fun g6=>W.ah (ag TE g0 98 (ptrTo b8.n)) fun g7=>W.bB (.func 330) [g4,g5,g6,g7] g0 fun g8 g9 h0=>W.ah (cx g8 0) fun h1=>W.ah (cx g8 1) fun h2=>W.bW (M.push g9 (.cells [(.int .i64 0),(.int .i64 0)] 98 none)) fun h3=>W.bW (M.push h3 (.cells [(.int .i64 0),(.int .i64 0)] 98 none)) fun h4=>W.aO (aB TE h4 98 (ptrTo g9.n) h1) fun h5 h6=>W.aO (aB TE h5 98 (ptrTo h3.n) h2) fun h7 h8=>W.jn (fun h9=>W.ah (ag TE h7 98 (ptrTo g9.n)) fun i0=>W.ah (ag TE h7 98 (ptrTo h3.n)) fun i1=>W.ah (an TE .eql 98 i0 i1) fun i2=>aX i2
(h9 [(.bool true)] h7 (min (min (min g1 h0) h6) h8))
(W.ah (ag TE h7 98 (ptrTo g9.n)) fun i3=>W.ah (ag TE h7 98 (ptrTo h3.n)) fun i4=>W.bB (.func 331) [i3,i4] h7 fun i5 i6 i7=>W.ah (an TE .gtr 3 i5 (.int .i64 0)) fun i8=>h9 [i8] i6 (min (min (min (min g1 h0) h6) h8) i7)))
(fun i9 j0 j1=>W.un i9 fun j2 j3=>aX j2
(b2 c3 .normal j0 j1)
(W.ah (ag TE j0 98 (ptrTo O.n)) fun j4=>W.ah (ag TE j0 98 (ptrTo X.n)) fun j5=>W.bB (.func 331) [j4,j5] j0 fun j6 j7 j8=>W.ah (an TE .gtr 3 j6 (.int .i64 0)) fun j9=>aX j9
(W.ah (ag TE j7 98 (ptrTo h3.n)) fun k0=>W.ah (ag TE j7 98 (ptrTo g9.n)) fun k1=>W.aO (aB TE j7 98 (ptrTo g9.n) k0) fun k2 k3=>W.aO (aB TE k2 98 (ptrTo h3.n) k1) fun k4 k5=>W.ah (ag TE k4 98 (ptrTo g9.n)) fun k6=>W.ah (ag TE k4 98 (ptrTo h3.n)) fun k7=>W.ah (aW TE 113 [(0,k6),(1,k7)]) fun k8=>W.aO (aB TE k4 113 (ptrTo a.n) k8) fun k9 l0=>W.aO (aB TE k9 4 (ptrTo b.n) (.bool true)) fun l1 l2=>b2 c3 .ret l1 (min (min (min (min (min j1 j8) k3) k5) l0) l2))
(W.ah (ag TE j7 98 (ptrTo g9.n)) fun l3=>W.ah (ag TE j7 98 (ptrTo h3.n)) fun l4=>W.ah (aW TE 113 [(0,l3),(1,l4)]) fun l5=>W.aO (aB TE j7 113 (ptrTo a.n) l5) fun l6 l7=>W.aO (aB TE l6 4 (ptrTo b.n) (.bool true)) fun l8 l9=>b2 c3 .ret l8 (min (min (min j1 j8) l7) l9)))))))) (fun n0 n1=>P a2 .normal n0 n1) [(.ret,fun n2 n3=>P a2 .ret n2 n3)])) (fun n4 n5=>W.ah (aW TE 113 []) fun n6=>W.aO (aB TE n4 113 (ptrTo a.n) n6) fun n7 n8=>W.aO (aB TE n7 4 (ptrTo b.n) (.bool false)) fun n9 o0=>ah (ag TE n9 113 (ptrTo a.n)) fun o1=>ah (ag TE n9 4 (ptrTo b.n)) fun o2=>R [o1,o2] n9 (min (min n5 n8) o0)) [(.ret,fun o3 o4=>ah (ag TE o3 113 (ptrTo a.n)) fun o5=>ah (ag TE o3 4 (ptrTo b.n)) fun o6=>R [o5,o6] o3 o4)]))):=by kernel_rfl
set_option maxRecDepth 100000 in
theorem Tu{W:Words}{x0:Value}{m:M}{R:List Value->M->Nat->Prop}:dN TE W Tryz.f101 [x0] m R=
(W.bW (M.push m (.cells (cells x0) 45 none)) fun a=>W.ah (ag TE a 45 (ptrTo m.n)) fun b=>W.bB (.func 157) [b] a fun c d f=>W.ah (iO .not c) fun g=>aX g
(R [(.int .i64 0)] d (min m.n f))
(W.bW (M.push d (.cells [(.int .i64 0)] 3 none)) fun h=>W.aO (aB TE h 3 (ptrTo d.n) (.int .i64 0)) fun i j=>W.ah (ag TE i 45 (ptrTo m.n)) fun k=>W.bB (.func 158) [k] i fun l n o=>ku l fun p q r=>W.RF p q.toList r.toList n (min (min (min m.n f) j) o) (fun s t u=>W.un s fun v w=>W.un w fun y z=>W.vM z (W.bW (M.push t (.cells [(.int .i64 0),(.int .i64 0)] 98 none)) fun A=>W.aO (aB TE A 98 (ptrTo t.n) v) fun B C=>W.bW (M.push B (.cells [(.int .i64 0),(.int .i64 0)] 98 none)) fun D=>W.aO (aB TE D 98 (ptrTo B.n) y) fun E F=>W.HA n.n t E fun G=>W.ah (ag TE G 3 (ptrTo d.n)) fun H=>W.ah (ag TE G 45 (ptrTo m.n)) fun I=>W.ah (ai TE 45 I (.int .i64 0)) fun J=>W.ah (ag TE G 98 J) fun K=>W.ah (ag TE G 98 (ptrTo t.n)) fun L=>W.ah (ag TE G 98 (ptrTo B.n)) fun N=>W.bB (.func 159) [K,L,N] G fun O P Q=>(M.n G<=Q)/\(W.ah (an TE .add 3 H O) fun S=>W.aO (aB TE P 3 (ptrTo d.n) S) fun T U=>u G .normal T (min (min (min (min (min t.n C) F) n.n) Q) U)))) (fun V X=>W.ah (ag TE V 3 (ptrTo d.n)) fun Y=>R [Y] V X) [])):=by kernel_rfl
end Go.Proofs.YtmdfgncoekfgdaaGreatDoor
namespace Go.Proofs.YtmdfgncoekfgdaaGreatDoor
open Go Go.D
variable {X:aF} {m:M}
theorem cS.lt{us:List Un}(h:cS us):∀(d i:Nat) (a b:Un),us[i]?=some a->us[i+d+1]?=some b->a.id < b.id
 |0,i,a,b,ha,hb=>h.Mr i a b ha hb
 |d+1,i,a,b,ha,hb=>by
  obtain⟨c,hc⟩:∃c,us[i+d+1]?=some c:=⟨_,List.getElem?_eq_getElem (by have:=(List.getElem?_eq_some_iff.1 hb).1;omega)⟩
  have h1:=h.lt d i a c ha hc
  have h2:=h.Mr (i+d+1) c b hc (by rw[<-hb];congr 1)
  omega
theorem cS.Pf{us:List Un}(h:cS us){i k:Nat}{a b:Un}(hik:i < k)(ha:us[i]?=some a)(hb:us[k]?=some b):a.id < b.id:=
 h.lt (k-i-1) i a b ha (by rw[<-hb];congr 1;omega)
theorem CW(hX:dF X)(u:Un)(w:Value)(id:Int):C X (.func 154) [u.v w,.int .i64 id] m m.n (.int .i64 (iz u.id id)) m:=by
 refine Cl.flat (hX.no _ rfl) NW rfl rfl ?_
 rw[S9];dsimp only[aN]
 refine ar fun m1 hn1 hg1 hk1=>?_
 simp only[aL]at hg1
 have hg1:m1.get m.n=.cells (u.c w) 87 none:=hg1
 obtain⟨l0,_⟩:=iD hg1
 unfold ptrTo
 rw[bt,aa,l0,aa]
 refine aC (lx hX _ _) ?_
 exact⟨rfl,by omega⟩
theorem PL{a:Int}:an TE .shr 224 (.int .u64 a) (.int .u64 1)=some (.int .u64 (a.fdiv 2)):=by kernel_rfl
theorem PN{n:Nat}:an TE .shr 224 (.int .u64 (n:Int)) (.int .u64 1)=some (.int .u64 ((n/2:Nat):Int)):=by
 rw[PL,Int.fdiv_eq_ediv_of_nonneg _ (by omega)];rfl
theorem Pz{n:Nat}(h:n < 1000):IntKind.wrap .u64 (n:Int)=n:=by
 have e:IntKind.u64.wrap (n:Int)=(n:Int)%18446744073709551616:=by
  unfold IntKind.wrap
  simp[IntKind.bits,IntKind.signed]
 rw[e];omega
theorem DY(hX:dF X){l:List UW}{v:Value}(h:Sl m l v)(hP:cS (cd l))(id:Int):
  ∃(i:Nat) (is:Bool),C X (.func 153) [v,.int .i64 id,.func (.func 154) #[] #[]] m m.n (.tuple #[.int .i64 i,.bool is]) m/\
   (is=true->∃x,l[i]?=some x/\x.u.id=id)/\(is=false->∀x∈l,x.u.id≠id):=by
 have hl:l.length<=12:=by have:=hP.len;rwa[dZ]at this
 have key:∃rv m' b,C X (.func 153) [v,.int .i64 id,.func (.func 154) #[] #[]] m b rv m'/\(m'=m/\b=m.n/\∃(i:Nat) (is:Bool),rv=.tuple #[.int .i64 i,.bool is]/\
   (is=true->∃x,l[i]?=some x/\x.u.id=id)/\(is=false->∀x∈l,x.u.id≠id)):=by
  refine Cl.gen (R:=fun rv m' b=>m'=m/\b=m.n/\∃(i:Nat) (is:Bool),rv=.tuple #[.int .i64 i,.bool is]/\
   (is=true->∃x,l[i]?=some x/\x.u.id=id)/\(is=false->∀x∈l,x.u.id≠id)) (hX.no _ rfl) NX rfl ?_
  rw[Ta];dsimp only[aN]
  rw[h.len eP,au]
  refine Lp.intro (γ:=Nat×Nat) (fun s=>s.2-s.1) (fun s vs mm lo=>vs=[.int .i64 s.1,.int .i64 s.2]/\s.1<=s.2/\s.2<=l.length/\m=mm/\m.n<=lo/\(∀k x,k < s.1->l[k]?=some x->x.u.id < id)/\∀k x,s.2<=k->l[k]?=some x->id<=x.u.id) (0,l.length)
   ⟨rfl,Nat.zero_le _,Nat.le_refl _,rfl,Nat.le_refl _,fun k x hk=>by omega,fun k x hk hx=>by have:=(List.getElem?_eq_some_iff.1 hx).1;omega⟩ ?_
  rintro⟨i,j⟩ vs mm lo ⟨rfl,hij,hj,rfl,hlo,hlow,hhigh⟩
  dsimp only at hij hj hlow hhigh⊢
  rw[aA,aA,aM,aa,aj]
  refine ak (fun hlt=>?_) (fun hge=>?_)
  ·have hlt:i < j:=by simpa using hlt
   obtain⟨x,hx⟩:∃x,l[(i+j)/2]?=some x:=⟨_,List.getElem?_eq_getElem (by omega)⟩
   obtain⟨a,e1,e2,_⟩:=h.iQ (k:=.i64) hx
   have hx':=km hx
   rw[aG,aa,wrap64 (by omega) (by omega),show(i:Int)+(j:Int)=((i+j:Nat):Int) by omega,Bm,Pz (by omega),aa,PN,aa,Bn,wrap64 (by omega) (by omega),aa,e1,aa,e2,aa,bO]
   refine aC (CW hX x.u x.w id) ?_
   rw[aM,aa,aj]
   have hmono:∀k y,l[k]?=some y->(k < (i+j)/2->y.u.id < x.u.id)/\((i+j)/2 < k->x.u.id < y.u.id):=fun k y hk=>⟨fun hlt=>hP.Pf hlt (km hk) hx',fun hlt=>hP.Pf hlt hx' (km hk)⟩
   refine ak (fun hc=>?_) (fun hc=>?_)
   ·have hc:x.u.id < id:=by
     unfold iz at hc
     by_cases h1:x.u.id < id
     ·exact h1
     ·rw[if_neg h1]at hc
      split at hc <;>simp at hc
    rw[aG,aa,wrap64 (by omega) (by omega)]
    refine⟨((i+j)/2+1,j),by dsimp only;omega,by dsimp only;simp,by dsimp only;omega,hj,rfl,by omega,fun k y hk hy=>?_,hhigh⟩
    by_cases e:k=(i+j)/2
    ·subst e;rw[hx]at hy;cases hy;exact hc
    ·have:=(hmono k y hy).1 (by dsimp only at hk;omega);omega
   ·have hc:id<=x.u.id:=by
     unfold iz at hc
     by_cases h1:x.u.id < id
     ·rw[if_pos h1]at hc;simp at hc
     ·omega
    refine⟨(i,(i+j)/2),by dsimp only;omega,rfl,by dsimp only;omega,by dsimp only;omega,rfl,by omega,hlow,fun k y hk hy=>?_⟩
    by_cases e:k=(i+j)/2
    ·subst e;rw[hx]at hy;cases hy;exact hc
    ·have:=(hmono k y hy).2 (by dsimp only at hk;omega);omega
  ·have hij':i=j:=by
    have:¬(i:Int)< (j:Int):=by simpa using hge
    omega
   subst hij'
   refine cq (fun vs m' lo'=>∃is,vs=[.int .i64 i,.bool is]/\m=m'/\m.n<=lo'/\(is=true->∃x,l[i]?=some x/\x.u.id=id)/\(is=false->∀x∈l,x.u.id≠id)) (fun R hR=>?_) ?_
   ·rw[aM,aa,aj]
    refine ak (fun hlt=>?_) (fun hge=>?_)
    ·have hlt:i < l.length:=by simpa using hlt
     obtain⟨x,hx⟩:∃x,l[i]?=some x:=⟨_,List.getElem?_eq_getElem hlt⟩
     obtain⟨a,e1,e2,_⟩:=h.iQ (k:=.i64) hx
     rw[e1,aa,e2,aa,bO]
     refine aC (CW hX x.u x.w id) ?_
     rw[bI,aa]
     refine hR _ _ _ ⟨_,rfl,rfl,by omega,fun he=>⟨x,hx,?_⟩,fun he y hy hyi=>?_⟩
     ·have he:iz x.u.id id=0:=by simpa using he
      unfold iz at he
      by_cases h1:x.u.id < id
      ·rw[if_pos h1]at he;omega
      ·rw[if_neg h1]at he
       by_cases h2:id < x.u.id
       ·rw[if_pos h2]at he;omega
       ·omega
     ·have he:¬iz x.u.id id=0:=by simpa using he
      obtain⟨k,hk⟩:=List.getElem?_of_mem hy
      by_cases e:k=i
      ·subst e;rw[hx]at hk;cases hk
       apply he
       unfold iz
       rw[if_neg (by omega),if_neg (by omega)]
      ·by_cases e2:k < i
       ·have:=hlow k y e2 hk;omega
       ·have:=hhigh i x (Nat.le_refl _) hx
        have:=hP.Pf (show i < k by omega) (km hx) (km hk)
        omega
    ·have hge:l.length<=i:=by
      have:¬(i:Int)< (l.length:Int):=by simpa using hge
      omega
     refine hR _ _ _ ⟨false,rfl,rfl,hlo,fun h=>(by cases h),fun _ y hy hyi=>?_⟩
     obtain⟨k,hk⟩:=List.getElem?_of_mem hy
     have:=hlow k y (by have:=(List.getElem?_eq_some_iff.1 hk).1;omega) hk
     omega
   rintro _ _ lo' ⟨is,rfl,rfl,hlo',h1,h2⟩
   rw[aA,aA]
   exact .inl ⟨rfl,hlo',rfl,rfl,i,is,rfl,h1,h2⟩
 obtain⟨rv,m',b,hc,rfl,rfl,i,is,rfl,h1,h2⟩:=key
 exact⟨i,is,hc,h1,h2⟩
end Go.Proofs.YtmdfgncoekfgdaaGreatDoor
namespace Go.Proofs.YtmdfgncoekfgdaaGreatDoor
open Go Go.D
variable {X:aF} {m:M}
theorem mu{u:Un}(h:gX u=true):aP u.shape=true:=by
 simp only[gX,Bool.and_eq_true]at h
 exact h.2
def eL(us:List Un)(id:Int):Option Un:=us.find? fun u=>decide (u.id=id)
theorem lU{us:List Un}(hP:cS us){i:Nat}{a:Un}(h:us[i]?=some a):eL us a.id=some a:=by
 unfold eL
 cases e:us.find? fun u=>decide (u.id=a.id)with
 |none=>
  have:=List.find?_eq_none.1 e a (List.mem_of_getElem? h)
  simp at this
 |some b=>
  have h1:=List.find?_some e
  have h1:b.id=a.id:=by simpa using h1
  obtain⟨k,hk⟩:=List.getElem?_of_mem (List.mem_of_find?_eq_some e)
  rcases Nat.lt_trichotomy i k with hlt |rfl |hlt
  ·have:=hP.Pf hlt h hk;omega
  ·rw[h]at hk;cases hk;rfl
  ·have:=hP.Pf hlt hk h;omega
theorem AY{us:List Un}{id:Int}(h:∀u∈us,u.id≠id):eL us id=none:=by
 unfold eL
 rw[List.find?_eq_none]
 intro x hx
 simpa using h x hx
theorem AX{us:List Un}{id:Int}{u:Un}(h:eL us id=some u):u∈us/\u.id=id:=by
 unfold eL at h
 exact⟨List.mem_of_find?_eq_some h,by simpa using List.find?_some h⟩
theorem wM(hX:dF X){l:List UW}{v:Value}(h:eF m l v)(hP:cS (cd l))(id:Int):
  ∃ov m',C X (.func 98) [.agg #[v],.int .i64 id] m m.n (.tuple #[ov,.bool (eL (cd l) id).isSome]) m'/\Ext m m'/\BF m' (eL (cd l) id) ov:=by
 have hl:l.length<=12:=by have:=hP.len;rwa[dZ]at this
 have key:∃rv m' b,C X (.func 98) [.agg #[v],.int .i64 id] m b rv m'/\b=m.n/\∃ov,rv=.tuple #[ov,.bool (eL (cd l) id).isSome]/\Ext m m'/\BF m' (eL (cd l) id) ov:=by
  refine Cl.gen (R:=fun rv m' b=>b=m.n/\∃ov,rv=.tuple #[ov,.bool (eL (cd l) id).isSome]/\Ext m m'/\BF m' (eL (cd l) id) ov) (hX.no _ rfl) Qi rfl ?_
  rw[F98];dsimp only[aN]
  refine ar fun m1 hn1 hg1 hk1=>?_
  refine ar fun m2 hn2 hg2 hk2=>?_
  have hx2:Ext m m2:=⟨by omega,fun c hc=>by rw[hk2 c (by omega),hk1 c hc]⟩
  have g1:m2.get m.n=.cells [v] 31 none:=by rw[hk2 _ (by omega)];exact hg1
  have hF:=h.aD hx2
  unfold ptrTo
  rw[eo,aH g1 (by simp)]
  simp only[List.drop_zero,List.take_succ_cons,List.take_zero,Option.map_some,aa]
  refine aC (qs hX hF (by omega)) ?_
  rw[jk hP,bD,aa,aj,Bool.not_true,aU,bR,aa,fD,az g1]
  simp only[Nat.zero_add,List.getElem?_cons_zero,aa]
  obtain⟨i,is,hc,hyes,hno⟩:=DY (m:=m2) hX hF.sl hP id
  refine aC hc ?_
  rw[aR,aR]
  simp only[List.getElem?_cons_zero,List.getElem?_cons_succ,aa]
  rw[bD,aa,aj]
  refine ak (fun hb=>?_) (fun hb=>?_)
  ·have his:is=false:=by simpa using hb
   have e:eL (cd l) id=none:=AY fun u hu=>by
    obtain⟨x,hx,rfl⟩:=Am hu
    exact hno his x hx
   rw[e]
   have bld:aW TE 87 []=some (.agg Un.zc.toArray):=Fu
   rw[bld,aa]
   refine av eH hg2 rfl rfl rfl fun m9 hn9 hg9 hk9=>?_
   rw[wC,aH hg9 (by simp[aL])]
   refine .inl ⟨by kernel_rfl,by omega,trivial,_,rfl,.refl,rfl⟩
  ·have his:is=true:=by simpa using hb
   obtain⟨x,hx,rfl⟩:=hyes his
   rw[lU hP (km hx)]
   obtain⟨a,e1,e2,hone⟩:=hF.sl.iQ (k:=.i64) hx
   have hxm:=List.mem_of_getElem? hx
   have hv:=(mu (hP.val x.u (List.mem_map.2 ⟨x,hxm,rfl⟩)))
   have h38:=cC hv
   have ldv:ag TE m2 29 (.pointer (some ⟨m.n,0,none⟩))=some v:=by rw[fD,az g1];rfl
   rw[ldv,aa,e1,aa,e2,aa]
   refine ar fun m28 hn28 hg28 hk28=>?_
   refine av eH hg28 rfl rfl (Un.eE hone) fun m29 hn29 hg29 hk29=>?_
   have hg29:m29.get m2.n=.cells x.c 87 none:=hg29
   have hx29:Ext m2 m29:=⟨by omega,fun c hc=>by rw[hk29 c (by omega),hk28 c hc]⟩
   obtain⟨-, -, -,l3, -, -⟩:=iD hg29
   rw[bd,aa,l3,aa]
   obtain⟨w',m34,hc34,ho34,hx34⟩:=tU (m:=m29) hX ((hF.sh x hxm).aD hx29) (by intro e;rw[e]at h38;simp at h38) (by omega)
   refine aC hc34 ?_
   have n34:=hx34.n
   have o7:one w'=true:=ho34.sl.one
   have g34:=hx34.cells hg29
   rw[aa]
   refine dS BU g34 (by rw[ho34.sl.cells];rfl) (by rw[ho34.sl.cells];show 3+1<=6;omega) (by rw[ho34.sl.cells];simp[o7]) fun m37 hn37 hg37 hk37=>?_
   have hg37:m37.get m2.n=.cells (x.u.c w') 87 none:=by rw[hg37,ho34.sl.cells];rfl
   rw[bP hg37,aa]
   have g237:m37.get m1.n=.cells Un.zc 87 none:=by rw[hk37 _ (by omega),hx34.get _ (by omega),hx29.get _ (by omega),hg2]
   refine av eH g237 rfl rfl (Un.eE o7) fun m40 hn40 hg40 hk40=>?_
   have hg40:m40.get m1.n=.cells (x.u.c w') 87 none:=hg40
   rw[bP hg40,aa]
   have hsl:Sl m40 x.u.shape w':=ho34.sl.bw fun b c t g hb ht=>by
    have h1:b≠m2.n:=fun e=>by subst e;rw[g34]at hb;cases hb;simp[aY.ty,aY.jN]at ht
    rw[hk40 b (fun e=>by subst e;rw[<-hk37 _ h1,g237]at hb;cases hb;simp[aY.ty,aY.jN]at ht),hk37 b h1,hb]
   have hxx:Ext m m40:=⟨by have:=hx29.n;omega,fun c hc=>by rw[hk40 c (by omega),hk37 c (by omega),hx34.get c (by have:=hx29.n;omega),hx29.get c (by omega),hx2.get c hc]⟩
   rcases ho34 with⟨_,h0⟩ |⟨b,cs,rfl,_⟩
   ·rw[h0]at h38;simp at h38
   ·exact .inr ⟨.inl (by simp[bs,bY,gg,bL]),by omega,_,rfl,hxx,_,rfl,hsl⟩
 obtain⟨rv,m',b,hc,rfl,ov,rfl,h1,h2⟩:=key
 exact⟨ov,m',hc,h1,h2⟩
end Go.Proofs.YtmdfgncoekfgdaaGreatDoor
namespace Go.Proofs.YtmdfgncoekfgdaaGreatDoor
open Go Go.D Go.pN
theorem cS.pair{us:List Un}(h:cS us):us.Pairwise (fun a b=>a.id < b.id):=by
 rw[List.pairwise_iff_getElem]
 intro i j hi hj hij
 exact h.Pf hij (List.getElem?_eq_getElem hi) (List.getElem?_eq_getElem hj)
theorem cS.find{us:List Un}(h:cS us){u:Un}(hu:u∈us):eL us u.id=some u:=by
 obtain⟨i,hi⟩:=List.getElem?_of_mem hu
 exact lU h hi
theorem cS.Nh{us:List Un}(h:cS us){u:Un}(hu:u∈us):0<=u.id/\u.id<=99:=by
 have:=h.val u hu
 simp only[gX,jL,Bool.and_eq_true,decide_eq_true_eq]at this
 omega
def Sv(us:List Un)(x y:Int):Bool:=us.any fun w=>decide (0<=nv w.shape x y)
structure Za(us:List Un)(x y:Int)(front back:Int):Prop where
 n1:(eL us front).isSome=decide (0<=front)
 n2:(eL us back).isSome=decide (0<=back)
 same:(eL us front).isSome=(eL us back).isSome
 any:(eL us front).isSome=Sv us x y
 out:∀w∈us,nv w.shape x y < 0->w.id≠front/\w.id≠back
 Z7:∀w∈us,0<=nv w.shape x y->∃u v,eL us front=some u/\eL us back=some v/\¬u.front < w.front/\(w.front=u.front->front<=w.id)/\¬w.back < v.back/\(w.back=v.back->back<=w.id)
end Go.Proofs.YtmdfgncoekfgdaaGreatDoor
namespace Go.Proofs.YtmdfgncoekfgdaaGreatDoor
open Go Go.D
variable {X:aF} {m:M}
section
variable {α:Type} [aY α] {T:TypeId} {ti:TI}
theorem so{x:α}{cs:List Value}{b:Nat}{g:Option Nat}(h:m.get b=.cells cs (aY.ty α) g)(hr:aY.rep m x cs):Sl m [x] (.slice (some ⟨b,0,none⟩) 1 1):=
 .inr ⟨b,0,1,_,g,rfl,h,by rw[aY.len hr];simp,fun i y hi=>by
  match i with
  |0=>
   cases hi
   have hl:=aY.len hr
   rw[Nat.zero_mul,Nat.zero_add,List.drop_zero,<-hl,List.take_length]
   exact hr
  |i+1=>cases hi⟩
theorem zA{m m1:M}{e k sl sc need:Nat}{base:Option Addr}{news:List Value}{v':Value}(h:jA m e k base sl sc need news=some (v',m1)):v'=.slice (some ⟨m.n,0,none⟩) need need:=by
 unfold jA at h
 split at h
 ·cases hb:(Nat.beq sl 0 && Nat.beq sc 0)with
  |true=>rw[hb,cond_true]at h;cases h;rfl
  |false=>rw[hb,cond_false]at h;cases h
 ·split at h
  ·rename_i a _ _ c te g eO _ _
   cases h1:(g.isNone ||(g==some k && Nat.blt (a.off+sc*k) c.length))with
   |true=>rw[h1,cond_true]at h;cases h;rfl
   |false=>
    rw[h1,cond_false]at h
    cases h2:(g==some k && Nat.beq a.off 0 && a.spot.isNone && Nat.beq (sl*k) c.length && Nat.beq sc sl && Nat.beq te e)with
    |true=>rw[h2,cond_true]at h;cases h;rfl
    |false=>rw[h2,cond_false]at h;cases h
  ·cases h
theorem pM{E:Env}{m m1:M}{T U:TypeId}{sl sc n:Nat}{base:Option Addr}{x v':Value}(h:aq E (m.wl m.n) .append [T,U] [.slice base sl sc,x]=some (v',m1))(hn:kX x=some n)(hlt:sc < sl+n):
  v'=.slice (some ⟨m.n,0,none⟩) (sl+n) (sl+n):=by
 have h:dD E (m.wl m.n) T U (.slice base sl sc) x=some (v',m1):=h
 unfold dD at h
 rw[hn]at h
 split at h
 ·rename_i ti ui base' sl' sc' n' _ _ hs hn'
  cases hs;cases hn'
  split at h
  ·cases h
  ·rename_i e _ _
   cases h1:E.ty.get e with
   |none=>simp only[h1]at h;cases h
   |some ei=>
    cases h2:first? (m.wl m.n) ti.es n x with
    |none=>simp only[h1,h2]at h;cases h
    |some news=>
     simp only[h1,h2]at h
     cases h3:(Nat.beq ti.es 0 ||Nat.blt 65536 ei.bytes || !news.all one ||Nat.blt 268435456 (sl+n) || !Nat.beq news.length (n*ti.es) || !fT ei.zero ti.es)with
     |true=>rw[h3,cond_true]at h;cases h
     |false=>
      rw[h3,cond_false]at h
      have h4:Nat.ble (sl+n) sc=false:=by
       cases hb:Nat.ble (sl+n) sc with
       |false=>rfl
       |true=>have:=Nat.le_of_ble_eq_true hb;omega
      rw[h4,cond_false]at h
      exact(zA h).trans rfl
  ·cases h
 ·cases h
theorem Hj(hT:BH TE T α)(hty:aY.jN α=[])(t1:TE.ty.get T=some ti)(t2:ti.size=1){n1 oc o:Nat}{cs:List Value}{tc:TypeId}{g:Option Nat}{r a:Value}{x:α}{m1:M}{acc:List α}
  (hc:m.get oc=.cells cs tc g) (ho:cs[o]?=some r) (hoc:oc < n1) (hn:n1<=m.n) (hw:Ow n1 m acc r) (hx:Ext m m1) (hs:Sl m1 [x] a) (hal:acc.length < 1000000):
  ∃r' m2 m3,((∃k,r'=.slice (some ⟨m1.n,0,none⟩) k k)/\∀c,c < m1.n->c≠oc->(∀ad n k,r=.slice (some ad) n k->c≠ad.block)->m3.get c=m1.get c)/\aq TE (M.wl m1 (M.n m1)) .append [T,T] [r,a]=some (r',m2)/\aB TE m2 T (.pointer (some ⟨oc,o,none⟩)) r'=some (m3,oc)/\n1<=m2.low/\m3.get oc=.cells (cs.set o r') tc g/\Ow n1 m3 (acc++ [x]) r'/\m1.n<=m3.n/\
   (∀c,c < n1->c≠oc->m3.get c=m.get c)/\(∀c,c < m1.n->c≠oc->(∀cs g,m1.get c≠.cells cs (aY.ty α) g)->m3.get c=m1.get c):=by
 have hlt:=M.aI hc
 have hxn:=hx.n
 have hw1:=hw.aD hx
 obtain⟨r',m2,e1,h1,h2,h3,h4⟩:=hw1.append hT (by rw[hty];simp) hs (by omega) (by simp;omega)
 have hn2:=h2.n
 have g2:m2.get oc=.cells cs tc g:=by rw[h2.get _ hoc,hx.cells hc]
 have holt:o < cs.length:=(List.getElem?_eq_some_iff.1 ho).1
 have hst:=lG (E:=TE) (o:=o) (x:=r') t1 g2 (by rw[h1.sl.cells,t2];rfl) (by rw[h1.sl.cells];simp;omega) (by rw[h1.sl.cells];simp[h1.sl.one])
 have hset:cs.take o++(cells r'++cs.drop (o+(cells r').length))=cs.set o r':=by
  rw[h1.sl.cells];exact kn holt
 rw[hset]at hst
 have hk:∀c,c≠oc->(m2.set oc (.cells (cs.set o r') tc g)).get c=m2.get c:=fun c hc=>M.cp hc
 have hfr:∃k,r'=.slice (some ⟨m1.n,0,none⟩) k k:=by
  obtain⟨ba,bc,rfl⟩:=hs.form
  rcases hw with⟨rfl,_⟩ |⟨b,cs',rfl,_⟩
  ·exact⟨_,pM e1 rfl (by simp)⟩
  ·exact⟨_,pM e1 rfl (by simp)⟩
 refine⟨r',m2,_,⟨hfr,fun c hc1 hc2 hc3=>by rw[hk c hc2,gA e1 hc1 hc3]⟩,e1,hst,h3,M.cA (M.aI g2),h1.PY hty fun c hc1 hc2=>hk c (by omega),?_,fun c hc1 hc2=>?_,fun c hc1 hc2 hc3=>?_⟩
 ·show m1.n<=m2.n
  exact hn2
 ·rw[hk c hc2,h2.get c hc1,hx.get c (by omega)]
 ·rw[hk c hc2,gA e1 hc1 fun ad n k e he=>?_]
  obtain⟨cs',g',hg',_⟩:=fy hw1 e
  rw[<-he]at hg'
  exact hc3 _ _ hg'
theorem yO(hT:BH TE T α)(hty:aY.jN α=[])(t1:TE.ty.get T=some ti)(t2:ti.size=1){n1 oc o:Nat}{cs:List Value}{tc:TypeId}{g:Option Nat}{r a:Value}{x:α}{m1:M}{acc:List α}
  (hc:m.get oc=.cells cs tc g) (ho:cs[o]?=some r) (hoc:oc < n1) (hn:n1<=m.n) (hw:Ow n1 m acc r) (hx:Ext m m1) (hs:Sl m1 [x] a) (hal:acc.length < 1000000):
  ∃r' m2 m3,aq TE (M.wl m1 (M.n m1)) .append [T,T] [r,a]=some (r',m2)/\aB TE m2 T (.pointer (some ⟨oc,o,none⟩)) r'=some (m3,oc)/\n1<=m2.low/\m3.get oc=.cells (cs.set o r') tc g/\Ow n1 m3 (acc++ [x]) r'/\m1.n<=m3.n/\
   (∀c,c < n1->c≠oc->m3.get c=m.get c)/\(∀c,c < m1.n->c≠oc->(∀cs g,m1.get c≠.cells cs (aY.ty α) g)->m3.get c=m1.get c):=by
 obtain⟨r',m2,m3,_,h⟩:=Hj hT hty t1 t2 hc ho hoc hn hw hx hs hal
 exact⟨r',m2,m3,h⟩
end
structure Fc where
 un:Int
 side:Int
deriving DecidableEq
abbrev Fc.c(f:Fc):List Value:=[.int .i64 f.un,.int .i64 f.side]
abbrev Fc.v(f:Fc):Value:=.agg (f.c).toArray
instance:aY Fc where
 ty:=107
 sz:=2
 agg:=true
 jN:=[]
 rep _ f cs:=cs=f.c
 pos:=by decide
 one:=by intro h;cases h
 len:=by rintro _ _ _ rfl;rfl
 lO:=by rintro _ _ _ rfl;rfl
 bw:=by rintro _ _ _ _ rfl _;rfl
theorem vT:uJ TE 102 107 Fc:=⟨af.t102,af.t107,by kernel_rfl,⟨_,rfl⟩,rfl,by kernel_rfl,rfl,rfl⟩
theorem OP:BH TE 102 Fc:=⟨af.t102,af.t107,by kernel_rfl,rfl,rfl,by kernel_rfl,by decide,rfl⟩
end Go.Proofs.YtmdfgncoekfgdaaGreatDoor
namespace Go.Proofs.YtmdfgncoekfgdaaGreatDoor
open Go Go.D
def oS(p q:Pl):Int:=if iz p.x q.x=0 then iz p.y q.y else iz p.x q.x
def eZ(p q:Pl):Pl:=if oS q p < 0 then q else p
def tA(p q:Pl):Pl:=if oS q p < 0 then p else q
def wm(p q:Pl):Pl:=if 0 < oS q p then q else p
def wk(p q:Pl):Pl:=if oS q p < 0 then q else p
def gG(p q r s:Pl):Pl:=wm (eZ p q) (eZ r s)
def xI(p q r s:Pl):Pl:=wk (tA p q) (tA r s)
theorem vi(p q r s:Pl):gG p q r s=p\/gG p q r s=q\/gG p q r s=r\/gG p q r s=s:=by
 unfold gG wm eZ
 split <;>split <;>split <;>simp
theorem BY(p q r s:Pl):xI p q r s=p\/xI p q r s=q\/xI p q r s=r\/xI p q r s=s:=by
 unfold xI wk tA
 split <;>split <;>split <;>simp
def jK(l:List Pl)(i:Nat):Pl:=dj l ((i+1)%l.length)
theorem oA{l:List Pl}{i:Nat}{p:Pl}(h:l[i]?=some p):dj l i=p:=by unfold dj;rw[h];rfl
theorem fG{l:List Pl}{i:Nat}(h:i < l.length):l[i]?=some (dj l i):=by unfold dj;rw[List.getElem?_eq_getElem h];rfl
theorem gZ{l:List Pl}{i:Nat}(h:i < l.length):l[(i+1)%l.length]?=some (jK l i):=fG (Nat.mod_lt _ (by omega))
def lK(p q r s:Pl):Option (Pl×Pl):=
 if bE p q r≠0\/bE p q s≠0 then none
 else if gG p q r s=xI p q r s\/0 < oS (gG p q r s) (xI p q r s)then none
 else if 0 < oS p q then some (xI p q r s,gG p q r s)else some (gG p q r s,xI p q r s)
def uU(a b:List Pl)(i:Nat):Option (Pl×Pl):=(List.range b.length).findSome? fun k=>lK (dj a i) (jK a i) (dj b k) (jK b k)
def oG(a b:List Pl):Option (Pl×Pl):=(List.range a.length).findSome? fun i=>uU a b i
def gE(a b:List Pl):Option (Pl×Pl):=if aP a && aP b && !cH a b then oG a b else none
theorem sx{p q r s:Pl}{x:Pl×Pl}(h:lK p q r s=some x):bE p q r=0/\bE p q s=0/\x.1≠x.2/\(x.1=p\/x.1=q\/x.1=r\/x.1=s)/\(x.2=p\/x.2=q\/x.2=r\/x.2=s):=by
 unfold lK at h
 split at h
 ·cases h
 ·rename_i h1
  split at h
  ·cases h
  ·rename_i h2
   have h1:bE p q r=0/\bE p q s=0:=by
    constructor
    ·exact Classical.byContradiction fun q=>h1 (.inl q)
    ·exact Classical.byContradiction fun q=>h1 (.inr q)
   have h2:gG p q r s≠xI p q r s:=fun e=>h2 (.inl e)
   split at h
   ·cases h;exact⟨h1.1,h1.2,fun e=>h2 e.symm,BY _ _ _ _,vi _ _ _ _⟩
   ·cases h;exact⟨h1.1,h1.2,h2,vi _ _ _ _,BY _ _ _ _⟩
theorem gI(p q:Pl):bE p q p=0:=by
 unfold bE
 rw[Int.sub_self,Int.sub_self,Int.mul_zero,Int.mul_zero,Int.sub_self]
theorem gH(p q:Pl):bE p q q=0:=by
 unfold bE
 rw[Int.mul_comm (q.y-p.y),Int.sub_self]
theorem par{dx dy ux uy vx vy:Int}(hd:dx≠0\/dy≠0)(e1:dx*uy-dy*ux=0)(e2:dx*vy-dy*vx=0):ux*vy-uy*vx=0:=by
 have a1:dx*(ux*vy-uy*vx)=0:=by
  have:dx*(ux*vy-uy*vx)=ux*(dx*vy-dy*vx)-vx*(dx*uy-dy*ux):=by grind
  rw[this,e1,e2,Int.mul_zero,Int.mul_zero,Int.sub_self]
 have a2:dy*(ux*vy-uy*vx)=0:=by
  have:dy*(ux*vy-uy*vx)=uy*(dx*vy-dy*vx)-vy*(dx*uy-dy*ux):=by grind
  rw[this,e1,e2,Int.mul_zero,Int.mul_zero,Int.sub_self]
 rcases hd with hd |hd
 ·exact(Int.mul_eq_zero.1 a1).resolve_left hd
 ·exact(Int.mul_eq_zero.1 a2).resolve_left hd
theorem Ma{p q:Pl}(h:p≠q):q.x-p.x≠0\/q.y-p.y≠0:=by
 by_cases e:q.x-p.x=0
 ·refine .inr fun h'=>h ?_
  cases p;cases q
  simp only[Pl.mk.injEq]at*
  omega
 ·exact .inl e
theorem rM{p q a b c:Pl}(hpq:p≠q)(ha:bE p q a=0)(hb:bE p q b=0)(hc:bE p q c=0):bE a b c=0:=by
 have hd:=Ma hpq
 have c1:=par hd ha hb
 have c2:=par hd hb hc
 have c3:=par hd ha hc
 unfold bE
 grind
theorem pT{p q r s:Pl}(hpq:p≠q)(h1:bE p q r=0)(h2:bE p q s=0):bE r s p=0/\bE r s q=0:=
 ⟨rM hpq h1 h2 (gI p q),rM hpq h1 h2 (gH p q)⟩
theorem jt{l:List Pl}(h:aP l=true){i:Nat}(hi:i < l.length):dj l i≠jK l i:=by
 have h3:=cC h
 intro e
 have hn:(i+1)%l.length < l.length:=Nat.mod_lt _ (by omega)
 have hk:(i+2)%l.length < l.length:=Nat.mod_lt _ (by omega)
 have ne1:(i+2)%l.length≠i:=by
  by_cases h1:i+2 < l.length
  ·rw[Nat.mod_eq_of_lt h1];omega
  ·rw[Nat.mod_eq_sub_mod (by omega),Nat.mod_eq_of_lt (by omega)];omega
 have ne2:(i+2)%l.length≠(i+1)%l.length:=by
  by_cases h1:i+2 < l.length
  ·rw[Nat.mod_eq_of_lt h1,Nat.mod_eq_of_lt (by omega)];omega
  ·by_cases h2:i+1 < l.length
   ·rw[Nat.mod_eq_of_lt h2,Nat.mod_eq_sub_mod (by omega),Nat.mod_eq_of_lt (by omega)];omega
   ·rw[Nat.mod_eq_sub_mod (show i+2>=l.length by omega),Nat.mod_eq_sub_mod (show i+1>=l.length by omega),Nat.mod_eq_of_lt (by omega),Nat.mod_eq_of_lt (by omega)];omega
 have:=kK h (fG hi) (gZ hi) (fG hk) ne1 ne2
 rw[e]at this
 unfold bE at this
 simp at this
theorem Jl{l:List Pl}(h:aP l=true){i j:Nat}(hi:i < l.length)(hj:j < l.length){P Q:Pl}(hPQ:P≠Q)(h1:bE (dj l i) (jK l i) P=0)(h2:bE (dj l i) (jK l i) Q=0)(h3:bE (dj l j) (jK l j) P=0)(h4:bE (dj l j) (jK l j) Q=0):i=j:=by
 have hlen:=cC h
 obtain⟨e1,e2⟩:=pT (jt h hi) h1 h2
 obtain⟨e3,e4⟩:=pT (jt h hj) h3 h4
 have g1:bE (dj l i) (jK l i) (dj l j)=0:=rM hPQ e1 e2 e3
 have g2:bE (dj l i) (jK l i) (jK l j)=0:=rM hPQ e1 e2 e4
 refine Classical.byContradiction fun hne=>?_
 have hn:(i+1)%l.length < l.length:=Nat.mod_lt _ (by omega)
 have hm:(j+1)%l.length < l.length:=Nat.mod_lt _ (by omega)
 by_cases hj1:j=(i+1)%l.length
 ·have ne1:(j+1)%l.length≠i:=by
   subst hj1
   by_cases h1:i+1 < l.length
   ·rw[Nat.mod_eq_of_lt h1]
    by_cases h2:i+2 < l.length
    ·rw[Nat.mod_eq_of_lt h2];omega
    ·rw[Nat.mod_eq_sub_mod (by omega),Nat.mod_eq_of_lt (by omega)];omega
   ·have:i+1=l.length:=by omega
    rw[this,Nat.mod_self,Nat.zero_add,Nat.mod_eq_of_lt (by omega)];omega
  have ne2:(j+1)%l.length≠(i+1)%l.length:=by
   rw[<-hj1]
   by_cases h2:j+1 < l.length
   ·rw[Nat.mod_eq_of_lt h2];omega
   ·have:j+1=l.length:=by omega
    rw[this,Nat.mod_self];omega
  have:=kK h (fG hi) (gZ hi) (gZ hj) ne1 ne2
  omega
 ·have:=kK h (fG hi) (gZ hi) (fG hj) (fun e=>hne e.symm) hj1
  omega
structure Ct where
 a:Int
 b:Int
 p:Pl
 q:Pl
 back:Int
 front:Int
deriving DecidableEq
def dp(u v:Un):Option Ct:=if iY u v then(gE u.shape v.shape).map fun s=>⟨u.id,v.id,s.1,s.2,max u.back v.back,min u.front v.front⟩else none
def tE(l:List Pl)(i:Nat):Option (Pl×Pl):=if(dj l i).y=0/\(jK l i).y=0 then some (dj l i,jK l i)else none
def dm(u:Un):Option Ct:=if gX u then((List.range u.shape.length).findSome? (tE u.shape)).map fun s=>⟨u.id, -1,s.1,s.2,u.back,u.front⟩else none
def eS:List Un->List (Un×Un)
 |[]=> []
 |x::r=>r.map (fun y=>(x,y))++eS r
def cf(us:List Un):List Ct:=us.filterMap dm++(eS us).filterMap fun p=>dp p.1 p.2
def Sa(p q:Pl)(c:Ct):Bool:=decide ((q.x-p.x)*(c.p.y-p.y)=(q.y-p.y)*(c.p.x-p.x)) && decide ((q.x-p.x)*(c.q.y-p.y)=(q.y-p.y)*(c.q.x-p.x))
def fx(id:Int)(c:Ct):Bool:=decide (c.a=id) ||decide (c.b=id)
def nR(l:List Pl)(i:Nat)(c:Ct):Bool:=Sa (dj l i) (jK l i) c
theorem Ck{p q:Pl}{c:Ct}:Sa p q c=true↔bE p q c.p=0/\bE p q c.q=0:=by
 unfold Sa bE
 rw[Bool.and_eq_true,decide_eq_true_eq,decide_eq_true_eq]
 constructor
 ·rintro⟨h1,h2⟩;exact⟨by omega,by omega⟩
 ·rintro⟨h1,h2⟩;exact⟨by omega,by omega⟩
theorem fH:∀{us:List Un} {u v:Un},(u,v)∈eS us->u∈us/\v∈us
 |[],u,v,h=>by simp[eS]at h
 |x::r,u,v,h=>by
  rw[eS,List.mem_append]at h
  rcases h with h |h
  ·obtain⟨y,hy,e⟩:=List.mem_map.1 h
   cases e
   exact⟨by simp,by simp[hy]⟩
  ·have:=fH h
   exact⟨by simp[this.1],by simp[this.2]⟩
theorem qk:∀{us:List Un},us.Pairwise (fun a b=>a.id < b.id)->∀{u v:Un},(u,v)∈eS us->u.id < v.id
 |[],_,u,v,h=>by simp[eS]at h
 |x::r,hp,u,v,h=>by
  rw[List.pairwise_cons]at hp
  rw[eS,List.mem_append]at h
  rcases h with h |h
  ·obtain⟨y,hy,e⟩:=List.mem_map.1 h
   cases e
   exact hp.1 _ hy
  ·exact qk hp.2 h
structure Ms(a b:List Pl)(P Q:Pl):Prop where
 ne:P≠Q
 va:aP a=true
 vb:aP b=true
 ea:∃i,i < a.length/\bE (dj a i) (jK a i) P=0/\bE (dj a i) (jK a i) Q=0
 eb:∃k,k < b.length/\bE (dj b k) (jK b k) P=0/\bE (dj b k) (jK b k) Q=0
theorem Ay{a b:List Pl}{x:Pl×Pl}(h:gE a b=some x):Ms a b x.1 x.2:=by
 unfold gE at h
 split at h
 ·rename_i hv
  simp only[Bool.and_eq_true]at hv
  unfold oG at h
  obtain⟨i,hi,h⟩:=List.exists_of_findSome?_eq_some h
  unfold uU at h
  obtain⟨k,hk,h⟩:=List.exists_of_findSome?_eq_some h
  rw[List.mem_range]at hi hk
  obtain⟨t1,t2,hne,m1,m2⟩:=sx h
  have hpq:=jt hv.1.1 hi
  obtain⟨t3,t4⟩:=pT hpq t1 t2
  refine⟨hne,hv.1.1,hv.1.2,⟨i,hi,?_,?_⟩,⟨k,hk,?_,?_⟩⟩
  ·rcases m1 with e |e |e |e <;>rw[e] <;>first |exact gI _ _ |exact gH _ _ |exact t1 |exact t2
  ·rcases m2 with e |e |e |e <;>rw[e] <;>first |exact gI _ _ |exact gH _ _ |exact t1 |exact t2
  ·rcases m1 with e |e |e |e <;>rw[e] <;>first |exact gI _ _ |exact gH _ _ |exact t3 |exact t4
  ·rcases m2 with e |e |e |e <;>rw[e] <;>first |exact gI _ _ |exact gH _ _ |exact t3 |exact t4
 ·cases h
end Go.Proofs.YtmdfgncoekfgdaaGreatDoor
