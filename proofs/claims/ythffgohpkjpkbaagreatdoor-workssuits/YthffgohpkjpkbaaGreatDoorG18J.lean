/- Walks in which some regions do .. -/
import Derived.Test.YthffgohpkjpkbaaGreatDoorG7J
set_option maxHeartbeats 1000000
set_option linter.defProp false
set_option maxRecDepth 100000
namespace Go.D
open Go
def rL(S:List Nat):Code->Code
 |.region i ops d=>bif S.contains i then .goto 0 else .region i ops d
 |.seq a b=> .seq (rL S a) (rL S b)
 |.cond c x y=> .cond c (rL S x) (rL S y)
 |.block i c=> .block i (rL S c)
 |.loop c=> .loop (rL S c)
 |.scope c=> .scope (rL S c)
 |c=>c
def Su(S:List Nat)(fn:Func):Func:={fn with body:=fn.body.map (rL S)}
variable{E:Env}{X:aF}{S:List Nat}
theorem B7{F b2:Fr->Option (Ex×Fr)}(h:∀fr r,F fr=some r->b2 fr=some r):∀(n:Nat) (fr:Fr) (r:Ex×Fr),jS F n fr=some r->jS b2 n fr=some r
 |0,_,_,e=>e
 |n+1,fr,r,e=>by unfold jS at e⊢;cases H:F fr with|none=>rw[H]at e;cases e|some x=>rw[H]at e;rw[h _ _ H];have⟨a,b⟩:=x;cases a with|normal=>exact B7 h n _ _ e|_=>exact e
theorem jX{call:aF}{n:Nat}:∀(c:Code) (fr:Fr) (r:Ex×Fr),bF E call n (rL S c) fr=some r->bF E call n c fr=some r
 |.region i ops d,fr,r,e=>by unfold rL at e;(cases H:S.contains i with|true=>rw[H]at e;cases e|false=>rw[H]at e;exact e)
 |.seq a b,fr,r,e=>by simp only[rL,bF]at e⊢;(cases F:bF E call n (rL S a) fr with|none=>rw[F]at e;cases e|some x=>rw[F]at e;rw[jX a _ _ F];have⟨a',b0⟩:=x;cases a' with|normal=>exact jX b _ _ e|_=>exact e)
 |.cond c x y,fr,r,e=>by simp only[rL,bF]at e⊢;split at e;rename_i t _;(cases t with|true=>exact jX x _ _ e|false=>exact jX y _ _ e);cases e
 |.block i c,fr,r,e=>by simp only[rL,bF]at e⊢;(cases F:bF E call n (rL S c) fr with|none=>rw[F]at e;cases e|some x=>rw[F]at e;rw[jX c _ _ F];exact e)
 |.loop c,fr,r,e=>by simp only[rL,bF]at e⊢;exact B7 (jX c) n fr r e
 |.scope c,fr,r,e=>by simp only[rL,bF]at e⊢;exact jX c fr r e
 |.skip,_,_,e=>e
 |.label _,_,_,e=>e
 |.rangeFunc ..,_,_,e=>e
 |.exit _,_,_,e=>e
 |.ret,_,_,e=>e
 |.goto _,_,_,e=>e
 |.refuse _,_,_,e=>e
def Cl.bodyC{f:Nat}{fn:Func}{args:Ω}{m:M}{rd:Nat}{R:Ω->M->Nat->Prop}(H:∀l,X (.func f) args (m.wl l)=none)(hf:E.fn.get f=some fn)(hl:Nat.ble args.length fn.ntmps)
  (h:Wu E (aG E X) rd (Su S fn) args m R):
  ∃vs m' lo,R vs m' lo/\m.n<=m'.n/\∃n0,∀n,n0<=n->∀l,l<=m.n->
   bT E X n (.func f) args (m.wl l)=some (bif aZ (aM vs) && Nat.ble m.n lo then(aM vs,m.wl l)else(aM vs,m'.wl (min l lo))):=by refine Cl.Wi (fn':=Su S fn) H hf hl rfl (λb' F=>?_) h;obtain⟨b,hb,rfl⟩:=ZL.1 (F:fn.body.map (rL S)=some b');exact⟨b,hb,λ_ _ _ _ h=>jX b _ _ h⟩
def Cl.genC{f:Nat}{fn:Func}{args:Ω}{m:M}{R:Φ->M->Nat->Prop}(hX:∀l,X (.func f) args (m.wl l)=none)(hf:E.fn.get f=some fn)(hl:Nat.ble args.length fn.ntmps)
  (h:fP E (aG E X) (Su S fn) args m λvs m' lo=>(aZ (aM vs)/\m.n<=lo/\R (aM vs) m m.n)\/((aZ (aM vs)=false\/lo<m.n)/\R (aM vs) m' (min m.n lo))):
  ∃v m' b,Cl E X (.func f) args m b v m'/\R v m' b:=by have⟨vs,s,lo,h,hn,hr⟩:=Cl.bodyC hX hf hl h;rcases h with⟨F,H,hR⟩|⟨F,hR⟩;exact⟨_,_,_,.of_flat F H hr,hR⟩;exact⟨_,_,_,.tY hn F hr,hR⟩
end Go.D
namespace Go.Proofs.YthffgohpkjpkbaaGreatDoor
open Go Go.D Go.Proofs.Tryz
section
set_option maxRecDepth 100000
set_option maxHeartbeats 0
variable{W:Words}{x0 x1 x2 x3 x4:Φ}{m:M}{R:Ω->M->Nat->Prop}
def F178:=cN (P:=fP TE W f178 [x0] m R)
def F228:=cN (P:=fP TE W f228 [x0] m R)
def F128:=cN (P:=fP TE W f128 [x0,x1] m R)
def F177:=cN (P:=fP TE W (Su [5] f177) [x0,x1,x2,x3,x4] m R)
def F219:=cN (P:=fP TE W f219 [x0,x1,x2,x3] m R)
end
section
variable {X:aF} {m:M}
def QT(hX:cy X):C X (.func 228) [.int .u64 2] m m.n (ν 2) m:=by apply Cl.fG hX (Us func228);rw[F228];dsimp only[aG];refine aX (λF H lo=>F=[.int .u64 2,ν 0]/\m=H/\m.n<=lo) (λR hR=>?_) ?_;apply aA (v:=L4) bv;rw[ag];exact hR _ _ _ ⟨rfl,rfl,Aj _⟩;rintro _ _ b0 ⟨rfl,rfl,h1⟩;rw[av,av];refine aX (λF H lo=>F=[.int .u64 2,ν 0]/\m=H/\m.n<=lo) (λR hR=>?_) ?_;apply aA (v:=L4) bv;rw[ag];exact hR _ _ _ ⟨rfl,rfl,h1⟩;rintro _ _ ja ⟨rfl,rfl,h2⟩;rw[av,av];refine aX (λF H lo=>F=[.int .u64 2,ν 0]/\m=H/\m.n<=lo) (λR hR=>?_) ?_;apply aA (v:=L4) bv;rw[ag];exact hR _ _ _ ⟨rfl,rfl,h2⟩;rintro _ _ d0 ⟨rfl,rfl,h3⟩;rw[av,av];apply aA (v:=.int .u8 2) bv;apply aA (v:=.int .u8 2) bv;apply aA (v:=ν 2) bv;apply aA (v:=ν 2) bv;exact⟨rfl,h3⟩
def Uw(F:cy X):C X (.func 178) [.int .u64 2] m m.n (ν 2) m:=by apply Cl.fG F (Us func178);rw[F178];dsimp only[aG];apply aw (QT F);exact⟨rfl,ac⟩
variable{b:Nat}{p q:Pl}{g:Option Nat}
def ixp:aE TE 41 (.slice (some ⟨b,0,none⟩) 2 2) (.int .i64 0)=some (.pointer (some ⟨b,0,none⟩)):=bv
def ixq:aE TE 41 (.slice (some ⟨b,0,none⟩) 2 2) (.int .i64 1)=some (.pointer (some ⟨b,2,none⟩)):=bv
def MV(F:m.get b=.cells (p.c++q.c) 46 g):aC TE m 46 (Ψ b 0)=some p.v/\aC TE m 46 (Ψ b 2)=some q.v:=by rw[qN,qN];exact⟨by rw[aI (n:=2) F (by show 0+2<=4;decide)];rfl,by rw[aI (n:=2) F (by show 2+2<=4;decide)];rfl⟩
def SD(m:M)(b:Nat)(p q:Pl)(mm:M)(lo:Nat):Prop:=
 (¬vo q p < 0/\mm=m/\m.n<=lo)\/(vo q p < 0/\lo < m.n/\b<=lo/\mm.n=m.n/\mm.get b=.cells (q.c++p.c) 46 none/\∀c,c≠b->mm.get c=m.get c)
def SD.gen{vs:Ω}{mm:M}{lo:Nat}(h:SD m b p q mm lo)(F:vs=[]):(aZ (aM vs)/\m.n<=lo/\(aM vs=.tuple #[]/\SD m b p q m m.n))\/((aZ (aM vs)=false\/lo<m.n)/\(aM vs=.tuple #[]/\SD m b p q mm (min m.n lo))):=by subst F;rcases h with⟨H,rfl,h3⟩|h;exact .inl ⟨rfl,h3,rfl,.inl ⟨H,rfl,Aj _⟩⟩;exact .inr ⟨.inr h.2.1,rfl,.inr be⟩
def UK(hX:cy X)(hg:m.get b=.cells (p.c++q.c) 46 none):
  ∃m' lo,C X (.func 219) [RR b 0 2 2,ν 0,ν 2,.func (.func 83) #[] #[]] m lo (.tuple #[]) m'/\SD m b p q m' lo:=by have hb:=M.aP hg;have H:∀R:Ω->M->Nat->Prop,(∀vs F lo,vs=[]->SD m b p q F lo->R vs F lo)->fP TE (aG TE X) f219 [RR b 0 2 2,ν 0,ν 2,.func (.func 83) #[] #[]] m R:=(by intro R hR;rw[F219];dsimp only[aG];apply aA (v:=ν 1) bv;refine Lp.intro (γ:=Nat) (λi=>2-i) (λi vs F lo=>(i=1/\vs=[ν 1]/\m=F/\m.n<=lo)\/(i=2/\vs=[ν 2]/\SD m b p q F lo)) 1 (.inl ⟨rfl,rfl,rfl,Aj _⟩) ?_;rintro i _ F lo (⟨rfl,rfl,rfl,b0⟩|⟨rfl,rfl,hd⟩);rw[av];apply aA (v:=WB) bv;rw[ag];show lI true _ _;rw[bN];refine Lp.intro (γ:=Nat) (λi=>i) (λi vs F lo=>(i=1/\vs=[ν 1]/\m=F/\m.n<=lo)\/(i=0/\vs=[ν 0]/\SD m b p q F lo)) 1 (.inl ⟨rfl,rfl,rfl,b0⟩) ?_;rintro i _ F lo (⟨rfl,rfl,rfl,b0⟩|⟨rfl,rfl,hd⟩);rw[av];refine aX (λvs F lo=>vs=[.bool (decide (vo q p<0))]/\m=F/\m.n<=lo) (λQ hQ=>?_) ?_;apply aA (v:=WB) bv;rw[ag];show lI true _ _;rw[bN,ixq,ae,(MV hg).2,ae];apply aA (v:=ν 0) bv;rw[ixp,ae,(MV hg).1,ae,cx];apply aw (sw hX q p);rw[aK,ae];grind;rintro _ _ ja ⟨rfl,rfl,d0⟩;rw[av,ag];refine af (λc=>?_) (λc=>?_);have c:vo q p<0:=be;apply aA (v:=ν 0) bv;apply aA (v:=ν 0) bv;rw[ixp,ae,(MV hg).1,ae,ixq,ae,(MV hg).2,ae,ae];refine bV fQ hg rfl (by show 2+2<=4;decide) rfl λm1 k0 e0 g0=>?_;rw[ae];refine bV fQ e0 rfl (by show 0+2<=4;decide) rfl λm2 l0 h0 i0=>?_;apply aA (v:=ν 0) bv;refine⟨0,Nat.zero_lt_one,.inr ⟨rfl,rfl,.inr ⟨c,ac,ac,ac,h0,λk hk=>(i0 k hk).trans (g0 k hk)⟩⟩⟩;have c:¬vo q p<0:=be;apply aA (v:=ν 2) bv;exact⟨2,ce,.inr ⟨rfl,rfl,.inl ⟨c,rfl,d0⟩⟩⟩;rw[av];refine aX (λvs m' j0=>vs=[L4]/\F=m'/\j0=lo) (λQ hQ=>?_) ?_;apply aA (v:=L4) bv;rw[ag];exact hQ _ _ _ ⟨rfl,rfl,rfl⟩;rintro _ _ _ ⟨rfl,rfl,rfl⟩;rw[av,ag];show lI false _ _;rw[aT];apply aA (v:=ν 2) bv;grind;rw[av];apply aA (v:=L4) bv;rw[ag];exact hR _ _ _ rfl hd);obtain⟨v,m',lo,hc,rfl,hd⟩:=Cl.Hz (R:=λv m' lo=>v=.tuple #[]/\SD m b p q m' lo) (hX.no _ rfl) (Us func219) rfl (H _ λvs F lo hv hd=>hd.gen hv);exact⟨m',lo,hc,hd⟩
def T7(hX:cy X)(hg:m.get b=.cells (p.c++q.c) 46 none):
  ∃m' lo,C X (.func 177) [RR b 0 2 2,ν 0,ν 2,ν 2,.func (.func 83) #[] #[]] m lo (.tuple #[]) m'/\SD m b p q m' lo:=by have H:∀R:Ω->M->Nat->Prop,(∀F mm lo,F=[]->SD m b p q mm lo->R F mm lo)->fP TE (aG TE X) (Su [5] f177) [RR b 0 2 2,ν 0,ν 2,ν 2,.func (.func 83) #[] #[]] m R:=(by intro R hR;rw[F177];dsimp only[aG];refine Lp.intro (γ:=Unit) (λ_=>0) (λ_ F mm lo=>F=[ν 2,ν 0,WB,WB,ν 2]/\m=mm/\m.n=lo) () ⟨rfl,rfl,rfl⟩ ?_;rintro _ _ _ _ ⟨rfl,rfl,rfl⟩;rw[av,av,av,av,av];apply aA (v:=ν 2) bv;apply aA (v:=WB) bv;rw[ag];show lI true _ _;rw[bN];have⟨m',lo,hc,hd⟩:=UK hX hg;apply aw hc;refine hR _ _ _ rfl ?_;rcases hd with⟨h1,rfl,h3⟩|⟨h1,h2,h3⟩;exact .inl ⟨h1,rfl,ac⟩;exact .inr ⟨h1,ac,ac,h3.2⟩);obtain⟨v,m',lo,hc,rfl,hd⟩:=Cl.genC (R:=λv m' lo=>v=.tuple #[]/\SD m b p q m' lo) (λl=>hX.no _ rfl _ _) (Us func177) rfl (H _ λF mm lo hv hd=>hd.gen hv);exact⟨m',lo,hc,hd⟩
def TR(hX:cy X)(h:∀args m,X (.func 128) args m=none):C1 X:=⟨λm b p q hg=>by have H:∀R:Ω->M->Nat->Prop,(∀vs mm lo,vs=[]->SD m b p q mm lo->R vs mm lo)->fP TE (aG TE X) f128 [RR b 0 2 2,.func (.func 83) #[] #[]] m R:=(by intro R hR;rw[F128];dsimp only[aG];rw[show aR TE m .len [41] [RR b 0 2 2]=some (ν 2,m) by kernel_rfl,an];apply aA (v:=.int .u64 2) bv;apply aw (Uw hX);have⟨m',lo,hc,hd⟩:=T7 hX hg;apply aw hc;refine hR _ _ _ rfl ?_;rcases hd with⟨F,rfl,h3⟩|⟨F,h2,h3⟩;exact .inl ⟨F,rfl,ac⟩;exact .inr ⟨F,ac,ac,h3.2⟩);have hb:=M.aP hg;obtain⟨v,m',lo,hc,rfl,hd⟩:=Cl.Hz (R:=λv m' lo=>v=.tuple #[]/\SD m b p q m' lo) h (Us func128) rfl (H _ λvs mm lo hv hd=>hd.gen hv);refine⟨m',lo,hc,?_⟩;unfold ja Gi;rcases hd with⟨F,rfl,h3⟩|⟨F,h2,h3,h4,h5,h6⟩;rw[MO F,MO F];exact⟨ac,rfl,hg,λ_ _=>rfl⟩;rw[QL F,QL F];exact⟨h3,h4,h5,h6⟩⟩
