/- Walks in which some regions do .. -/
import Derived.Test.YthffgohpkjpkbaaGreatDoorG7J
set_option maxHeartbeats 1000000
set_option linter.defProp false
set_option maxRecDepth 100000
namespace Go.D
open Go
def rP(S:List Nat):Code->Code
 |.region i ops d=>bif S.contains i then .goto 0 else .region i ops d
 |.seq a b=> .seq (rP S a) (rP S b)
 |.cond c x y=> .cond c (rP S x) (rP S y)
 |.block i c=> .block i (rP S c)
 |.loop c=> .loop (rP S c)
 |.scope c=> .scope (rP S c)
 |c=>c
def SL(S:List Nat)(fn:Func):Func:={fn with body:=fn.body.map (rP S)}
variable{E:Env}{X:aF}{S:List Nat}
theorem Cq{F b2:Fr->Option (Ex×Fr)}(h:∀fr r,F fr=some r->b2 fr=some r):∀(n:Nat) (fr:Fr) (r:Ex×Fr),jS F n fr=some r->jS b2 n fr=some r
 |0,_,_,e=>e
 |n+1,fr,r,e=>by unfold jS at e⊢;cases H:F fr with|none=>rw[H]at e;cases e|some x=>rw[H]at e;rw[h _ _ H];have⟨a,b⟩:=x;cases a with|normal=>exact Cq h n _ _ e|_=>exact e
theorem jW{call:aF}{n:Nat}:∀(c:Code) (fr:Fr) (r:Ex×Fr),bF E call n (rP S c) fr=some r->bF E call n c fr=some r
 |.region i ops d,fr,r,e=>by unfold rP at e;(cases H:S.contains i with|true=>rw[H]at e;cases e|false=>rw[H]at e;exact e)
 |.seq a b,fr,r,e=>by simp only[rP,bF]at e⊢;(cases F:bF E call n (rP S a) fr with|none=>rw[F]at e;cases e|some x=>rw[F]at e;rw[jW a _ _ F];have⟨a',b0⟩:=x;cases a' with|normal=>exact jW b _ _ e|_=>exact e)
 |.cond c x y,fr,r,e=>by simp only[rP,bF]at e⊢;split at e;rename_i t _;(cases t with|true=>exact jW x _ _ e|false=>exact jW y _ _ e);cases e
 |.block i c,fr,r,e=>by simp only[rP,bF]at e⊢;(cases F:bF E call n (rP S c) fr with|none=>rw[F]at e;cases e|some x=>rw[F]at e;rw[jW c _ _ F];exact e)
 |.loop c,fr,r,e=>by simp only[rP,bF]at e⊢;exact Cq (jW c) n fr r e
 |.scope c,fr,r,e=>by simp only[rP,bF]at e⊢;exact jW c fr r e
 |.skip,_,_,e=>e
 |.label _,_,_,e=>e
 |.rangeFunc ..,_,_,e=>e
 |.exit _,_,_,e=>e
 |.ret,_,_,e=>e
 |.goto _,_,_,e=>e
 |.refuse _,_,_,e=>e
def Cl.bodyC{f:Nat}{fn:Func}{args:ν}{m:M}{rd:Nat}{R:ν->M->Nat->Prop}(H:∀l,X (.func f) args (m.wl l)=none)(hf:E.fn.get f=some fn)(hl:Nat.ble args.length fn.ntmps)
  (h:WU E (aH E X) rd (SL S fn) args m R):
  ∃vs m' lo,R vs m' lo/\m.n<=m'.n/\∃n0,∀n,n0<=n->∀l,l<=m.n->
   bT E X n (.func f) args (m.wl l)=some (bif aZ (aP vs) && Nat.ble m.n lo then(aP vs,m.wl l)else(aP vs,m'.wl (min l lo))):=by refine Cl.WJ (fn':=SL S fn) H hf hl rfl (λb' F=>?_) h;obtain⟨b,hb,rfl⟩:=R7.1 (F:fn.body.map (rP S)=some b');exact⟨b,hb,λ_ _ _ _ h=>jW b _ _ h⟩
def Cl.genC{f:Nat}{fn:Func}{args:ν}{m:M}{R:O->M->Nat->Prop}(hX:∀l,X (.func f) args (m.wl l)=none)(hf:E.fn.get f=some fn)(hl:Nat.ble args.length fn.ntmps)
  (h:fQ E (aH E X) (SL S fn) args m λvs m' lo=>(aZ (aP vs)/\m.n<=lo/\R (aP vs) m m.n)\/((aZ (aP vs)=false\/lo<m.n)/\R (aP vs) m' (min m.n lo))):
  ∃v m' b,Cl E X (.func f) args m b v m'/\R v m' b:=by have⟨vs,s,lo,h,hn,hr⟩:=Cl.bodyC hX hf hl h;rcases h with⟨F,H,hR⟩|⟨F,hR⟩;exact⟨_,_,_,.of_flat F H hr,hR⟩;exact⟨_,_,_,.uk hn F hr,hR⟩
end Go.D
namespace Go.Proofs.YthffgohpkjpkbaaGreatDoor
open Go Go.D Go.Proofs.Tryz
section
set_option maxRecDepth 100000
set_option maxHeartbeats 0
variable{W:Words}{x0 x1 x2 x3 x4:O}{m:M}{R:ν->M->Nat->Prop}
def F178:=cN (P:=fQ TE W f178 [x0] m R)
def F228:=cN (P:=fQ TE W f228 [x0] m R)
def F128:=cN (P:=fQ TE W f128 [x0,x1] m R)
def F177:=cN (P:=fQ TE W (SL [5] f177) [x0,x1,x2,x3,x4] m R)
def F219:=cN (P:=fQ TE W f219 [x0,x1,x2,x3] m R)
end
section
variable {X:aF} {m:M}
def acU(hX:cp X):xw X 228 [.int .u64 2] m (I 2) m:=by apply Cl.fG hX (U5 func228);rw[F228];dsimp only[aH];refine xr (λF H lo=>F=[.int .u64 2,I 0]/\m=H/\m.n<=lo) (λR hR=>?_) ?_;apply aA (v:=P6) bv;rw[ag];exact hR ⟨rfl,rfl,R8 _⟩;rintro _ _ b0 ⟨rfl,rfl,h1⟩;rw[av,av];refine xr (λF H lo=>F=[.int .u64 2,I 0]/\m=H/\m.n<=lo) (λR hR=>?_) ?_;apply aA (v:=P6) bv;rw[ag];exact hR ⟨rfl,rfl,h1⟩;rintro _ _ iH ⟨rfl,rfl,h2⟩;rw[av,av];refine xr (λF H lo=>F=[.int .u64 2,I 0]/\m=H/\m.n<=lo) (λR hR=>?_) ?_;apply aA (v:=P6) bv;rw[ag];exact hR ⟨rfl,rfl,h2⟩;rintro _ _ d0 ⟨rfl,rfl,h3⟩;rw[av,av];apply aA (v:=.int .u8 2) bv;apply aA (v:=.int .u8 2) bv;apply aA (v:=I 2) bv;apply aA (v:=I 2) bv;exact⟨rfl,h3⟩
def UR(F:cp X):xw X 178 [.int .u64 2] m (I 2) m:=by apply Cl.fG F (U5 func178);rw[F178];dsimp only[aH];apply aw (acU F);exact⟨rfl,Z⟩
variable{b:Nat}{p q:Pl}{g:Option Nat}
def ixp:aD TE 41 (.slice (some ⟨b,0,none⟩) 2 2) (.int .i64 0)=some (.pointer (some ⟨b,0,none⟩)):=bv
def ixq:aD TE 41 (.slice (some ⟨b,0,none⟩) 2 2) (.int .i64 1)=some (.pointer (some ⟨b,2,none⟩)):=bv
def Na(F:m.get b=.cells (p.c++q.c) 46 g):aC TE m 46 (Ω b 0)=some p.v/\aC TE m 46 (Ω b 2)=some q.v:=by rw[qR,qR];exact⟨by rw[aI (n:=2) F (by show 0+2<=4;decide)];rfl,by rw[aI (n:=2) F (by show 2+2<=4;decide)];rfl⟩
def SD(m:M)(b:Nat)(p q:Pl)(mm:M)(lo:Nat):Prop:=
 (¬vB q p < 0/\mm=m/\m.n<=lo)\/(vB q p < 0/\lo < m.n/\b<=lo/\mm.n=m.n/\mm.get b=.cells (q.c++p.c) 46 none/\∀c,c≠b->mm.get c=m.get c)
def SD.gen{vs:ν}{mm:M}{lo:Nat}(h:SD m b p q mm lo)(F:vs=[]):(aZ (aP vs)/\m.n<=lo/\(aP vs=.tuple #[]/\SD m b p q m m.n))\/((aZ (aP vs)=false\/lo<m.n)/\(aP vs=.tuple #[]/\SD m b p q mm (min m.n lo))):=by subst F;rcases h with⟨H,rfl,h3⟩|h;exact .inl ⟨rfl,h3,rfl,.inl ⟨H,rfl,R8 _⟩⟩;exact .inr ⟨.inr h.2.1,rfl,.inr J⟩
def abH(hX:cp X)(hg:m.get b=.cells (p.c++q.c) 46 none):
  ∃m' lo,C X (.func 219) [Hr b 0 2 2,I 0,I 2,.func (.func 83) #[] #[]] m lo (.tuple #[]) m'/\SD m b p q m' lo:=by have hb:=M.aM hg;have H:∀R:ν->M->Nat->Prop,(∀vs F lo,vs=[]->SD m b p q F lo->R vs F lo)->fQ TE (aH TE X) f219 [Hr b 0 2 2,I 0,I 2,.func (.func 83) #[] #[]] m R:=(by intro R hR;rw[F219];dsimp only[aH];apply aA (v:=I 1) bv;refine Lp.intro (γ:=Nat) (λi=>2-i) (λi vs F lo=>(i=1/\vs=[I 1]/\m=F/\m.n<=lo)\/(i=2/\vs=[I 2]/\SD m b p q F lo)) 1 (.inl ⟨rfl,rfl,rfl,R8 _⟩) ?_;rintro i _ F lo (⟨rfl,rfl,rfl,b0⟩|⟨rfl,rfl,hd⟩);rw[av];apply aA (v:=VT) bv;rw[ag];show lY true _ _;rw[bN];refine Lp.intro (γ:=Nat) (λi=>i) (λi vs F lo=>(i=1/\vs=[I 1]/\m=F/\m.n<=lo)\/(i=0/\vs=[I 0]/\SD m b p q F lo)) 1 (.inl ⟨rfl,rfl,rfl,b0⟩) ?_;rintro i _ F lo (⟨rfl,rfl,rfl,b0⟩|⟨rfl,rfl,hd⟩);rw[av];refine xr (λvs F lo=>vs=[.bool (decide (vB q p<0))]/\m=F/\m.n<=lo) (λQ hQ=>?_) ?_;apply aA (v:=VT) bv;rw[ag];show lY true _ _;rw[bN,ixq,Y,(Na hg).2,Y];apply aA (v:=I 0) bv;rw[ixp,Y,(Na hg).1,Y,cj];apply aw (sH hX q p);rw[aK,Y];grind;rintro _ _ iH ⟨rfl,rfl,d0⟩;rw[av,ag];refine af (λc=>?_) (λc=>?_);have c:vB q p<0:=J;apply aA (v:=I 0) bv;apply aA (v:=I 0) bv;rw[ixp,Y,(Na hg).1,Y,ixq,Y,(Na hg).2,Y,Y];refine bS fR hg rfl (by show 2+2<=4;decide) rfl λm1 k0 e0 g0=>?_;rw[Y];refine bS fR e0 rfl (by show 0+2<=4;decide) rfl λm2 l0 h0 i0=>?_;apply aA (v:=I 0) bv;refine⟨0,Nat.zero_lt_one,.inr ⟨rfl,rfl,.inr ⟨c,Z,Z,Z,h0,λk hk=>(i0 k hk).trans (g0 k hk)⟩⟩⟩;have c:¬vB q p<0:=J;apply aA (v:=I 2) bv;exact⟨2,ce,.inr ⟨rfl,rfl,.inl ⟨c,rfl,d0⟩⟩⟩;rw[av];refine xr (λvs m' j0=>vs=[P6]/\F=m'/\j0=lo) (λQ hQ=>?_) ?_;apply aA (v:=P6) bv;rw[ag];exact hQ ⟨rfl,rfl,rfl⟩;rintro _ _ _ ⟨rfl,rfl,rfl⟩;rw[av,ag];show lY false _ _;rw[aT];apply aA (v:=I 2) bv;grind;rw[av];apply aA (v:=P6) bv;rw[ag];exact hR _ _ _ rfl hd);obtain⟨v,m',lo,hc,rfl,hd⟩:=Cl.HR (R:=λv m' lo=>v=.tuple #[]/\SD m b p q m' lo) (hX.no _ rfl) (U5 func219) rfl (H _ λvs F lo hv hd=>hd.gen hv);exact⟨m',lo,hc,hd⟩
def Ur(hX:cp X)(hg:m.get b=.cells (p.c++q.c) 46 none):
  ∃m' lo,C X (.func 177) [Hr b 0 2 2,I 0,I 2,I 2,.func (.func 83) #[] #[]] m lo (.tuple #[]) m'/\SD m b p q m' lo:=by have H:∀R:ν->M->Nat->Prop,(∀F mm lo,F=[]->SD m b p q mm lo->R F mm lo)->fQ TE (aH TE X) (SL [5] f177) [Hr b 0 2 2,I 0,I 2,I 2,.func (.func 83) #[] #[]] m R:=(by intro R hR;rw[F177];dsimp only[aH];refine Lp.intro (γ:=Unit) (λ_=>0) (λ_ F mm lo=>F=[I 2,I 0,VT,VT,I 2]/\m=mm/\m.n=lo) () ⟨rfl,rfl,rfl⟩ ?_;rintro _ _ _ _ ⟨rfl,rfl,rfl⟩;rw[av,av,av,av,av];apply aA (v:=I 2) bv;apply aA (v:=VT) bv;rw[ag];show lY true _ _;rw[bN];have⟨m',lo,hc,hd⟩:=abH hX hg;apply aw hc;refine hR _ _ _ rfl ?_;rcases hd with⟨h1,rfl,h3⟩|⟨h1,h2,h3⟩;exact .inl ⟨h1,rfl,Z⟩;exact .inr ⟨h1,Z,Z,h3.2⟩);obtain⟨v,m',lo,hc,rfl,hd⟩:=Cl.genC (R:=λv m' lo=>v=.tuple #[]/\SD m b p q m' lo) (λl=>hX.no _ rfl _ _) (U5 func177) rfl (H _ λF mm lo hv hd=>hd.gen hv);exact⟨m',lo,hc,hd⟩
def Ue(hX:cp X)(h:∀args m,X (.func 128) args m=none):Di X:=⟨λm b p q hg=>by have H:∀R:ν->M->Nat->Prop,(∀vs mm lo,vs=[]->SD m b p q mm lo->R vs mm lo)->fQ TE (aH TE X) f128 [Hr b 0 2 2,.func (.func 83) #[] #[]] m R:=(by intro R hR;rw[F128];dsimp only[aH];rw[show aR TE m .len [41] [Hr b 0 2 2]=some (I 2,m) by kernel_rfl,an];apply aA (v:=.int .u64 2) bv;apply aw (UR hX);have⟨m',lo,hc,hd⟩:=Ur hX hg;apply aw hc;refine hR _ _ _ rfl ?_;rcases hd with⟨F,rfl,h3⟩|⟨F,h2,h3⟩;exact .inl ⟨F,rfl,Z⟩;exact .inr ⟨F,Z,Z,h3.2⟩);have hb:=M.aM hg;obtain⟨v,m',lo,hc,rfl,hd⟩:=Cl.HR (R:=λv m' lo=>v=.tuple #[]/\SD m b p q m' lo) h (U5 func128) rfl (H _ λvs mm lo hv hd=>hd.gen hv);refine⟨m',lo,hc,?_⟩;unfold iH HM;rcases hd with⟨F,rfl,h3⟩|⟨F,h2,h3,h4,h5,h6⟩;rw[ND F,ND F];exact⟨Z,rfl,hg,λ_ _=>rfl⟩;rw[UG F,UG F];exact⟨h3,h4,h5,h6⟩⟩
