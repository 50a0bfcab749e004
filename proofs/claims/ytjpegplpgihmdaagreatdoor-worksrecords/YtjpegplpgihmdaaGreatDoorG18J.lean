/- Walks in which some regions do .. -/
import Derived.Test.YtjpegplpgihmdaaGreatDoorG7J
set_option maxHeartbeats 1000000
set_option linter.defProp false
set_option maxRecDepth 100000
namespace Go.D
open Go
def rp(S:List Nat):Code->Code
 |.region i ops d=>bif S.contains i then .goto 0 else .region i ops d
 |.seq a b=> .seq (rp S a) (rp S b)
 |.cond c x y=> .cond c (rp S x) (rp S y)
 |.block i c=> .block i (rp S c)
 |.loop c=> .loop (rp S c)
 |.scope c=> .scope (rp S c)
 |c=>c
def RW(S:List Nat)(fn:Func):Func:={fn with body:=fn.body.map (rp S)}
variable{E:Env}{X:aF}{S:List Nat}
theorem BJ{F b2:Fr->Option (Ex×Fr)}(h:∀fr r,F fr=some r->b2 fr=some r):∀(n:Nat) (fr:Fr) (r:Ex×Fr),jN F n fr=some r->jN b2 n fr=some r
 |0,_,_,e=>e
 |n+1,fr,r,e=>by unfold jN at e⊢;cases H:F fr with|none=>rw[H]at e;cases e|some x=>rw[H]at e;rw[h _ _ H];have⟨a,b⟩:=x;cases a with|normal=>exact BJ h n _ _ e|_=>exact e
theorem jR{call:aF}{n:Nat}:∀(c:Code) (fr:Fr) (r:Ex×Fr),bH E call n (rp S c) fr=some r->bH E call n c fr=some r
 |.region i ops d,fr,r,e=>by unfold rp at e;(cases H:S.contains i with|true=>rw[H]at e;cases e|false=>rw[H]at e;exact e)
 |.seq a b,fr,r,e=>by simp only[rp,bH]at e⊢;(cases F:bH E call n (rp S a) fr with|none=>rw[F]at e;cases e|some x=>rw[F]at e;rw[jR a _ _ F];have⟨a',b0⟩:=x;cases a' with|normal=>exact jR b _ _ e|_=>exact e)
 |.cond c x y,fr,r,e=>by simp only[rp,bH]at e⊢;split at e;rename_i t _;(cases t with|true=>exact jR x _ _ e|false=>exact jR y _ _ e);cases e
 |.block i c,fr,r,e=>by simp only[rp,bH]at e⊢;(cases F:bH E call n (rp S c) fr with|none=>rw[F]at e;cases e|some x=>rw[F]at e;rw[jR c _ _ F];exact e)
 |.loop c,fr,r,e=>by simp only[rp,bH]at e⊢;exact BJ (jR c) n fr r e
 |.scope c,fr,r,e=>by simp only[rp,bH]at e⊢;exact jR c fr r e
 |.skip,_,_,e=>e
 |.label _,_,_,e=>e
 |.rangeFunc ..,_,_,e=>e
 |.exit _,_,_,e=>e
 |.ret,_,_,e=>e
 |.goto _,_,_,e=>e
 |.refuse _,_,_,e=>e
def Cl.bodyC{f:Nat}{fn:Func}{args:ν}{m:M}{rd:Nat}{R:ν->M->Nat->Prop}(H:∀l,X (.func f) args (m.wl l)=none)(hf:E.fn.get f=some fn)(hl:Nat.ble args.length fn.ntmps)
  (h:VX E (aG E X) rd (RW S fn) args m R):
  ∃vs m' lo,R vs m' lo/\m.n<=m'.n/\∃n0,∀n,n0<=n->∀l,l<=m.n->
   bU E X n (.func f) args (m.wl l)=some (bif aZ (aM vs) && Nat.ble m.n lo then(aM vs,m.wl l)else(aM vs,m'.wl (min l lo))):=by refine Cl.VN (fn':=RW S fn) H hf hl rfl (λb' F=>?_) h;obtain⟨b,hb,rfl⟩:=Qp.1 (F:fn.body.map (rp S)=some b');exact⟨b,hb,λ_ _ _ _ h=>jR b _ _ h⟩
def Cl.genC{f:Nat}{fn:Func}{args:ν}{m:M}{R:Φ->M->Nat->Prop}(hX:∀l,X (.func f) args (m.wl l)=none)(hf:E.fn.get f=some fn)(hl:Nat.ble args.length fn.ntmps)
  (h:fP E (aG E X) (RW S fn) args m λvs m' lo=>(aZ (aM vs)/\m.n<=lo/\R (aM vs) m m.n)\/((aZ (aM vs)=false\/lo<m.n)/\R (aM vs) m' (min m.n lo))):
  ∃v m' b,Cl E X (.func f) args m b v m'/\R v m' b:=by have⟨vs,s,lo,h,hn,hr⟩:=Cl.bodyC hX hf hl h;rcases h with⟨F,H,hR⟩|⟨F,hR⟩;exact⟨_,_,_,.of_flat F H hr,hR⟩;exact⟨_,_,_,.tG hn F hr,hR⟩
end Go.D
namespace Go.Proofs.YtjpegplpgihmdaaGreatDoor
open Go Go.D Go.Proofs.Tryz
section
set_option maxRecDepth 100000
set_option maxHeartbeats 0
variable{W:Words}{x0 x1 x2 x3 x4:Φ}{m:M}{R:ν->M->Nat->Prop}
def F320:=cL (P:=fP TE W f320 [x0] m R)
def F298:=cL (P:=fP TE W f298 [x0] m R)
def F306:=cL (P:=fP TE W f306 [x0,x1] m R)
def F319:=cL (P:=fP TE W (RW [5] f319) [x0,x1,x2,x3,x4] m R)
def F326:=cL (P:=fP TE W f326 [x0,x1,x2,x3] m R)
end
section
variable {X:aF} {m:M}
def abp(hX:cp X):C X (.func 298) [.int .u64 2] m m.n (Ω 2) m:=by apply Cl.fG hX (MZ func298);rw[F298];dsimp only[aG];refine aX (λF H lo=>F=[.int .u64 2,Ω 0]/\m=H/\m.n<=lo) (λR hR=>?_) ?_;apply aA (v:=IA) bv;rw[ag];exact hR _ _ _ ⟨rfl,rfl,ID _⟩;rintro _ _ b0 ⟨rfl,rfl,h1⟩;rw[av,av];refine aX (λF H lo=>F=[.int .u64 2,Ω 0]/\m=H/\m.n<=lo) (λR hR=>?_) ?_;apply aA (v:=IA) bv;rw[ag];exact hR _ _ _ ⟨rfl,rfl,h1⟩;rintro _ _ iT ⟨rfl,rfl,h2⟩;rw[av,av];refine aX (λF H lo=>F=[.int .u64 2,Ω 0]/\m=H/\m.n<=lo) (λR hR=>?_) ?_;apply aA (v:=IA) bv;rw[ag];exact hR _ _ _ ⟨rfl,rfl,h2⟩;rintro _ _ d0 ⟨rfl,rfl,h3⟩;rw[av,av];apply aA (v:=.int .u8 2) bv;apply aA (v:=.int .u8 2) bv;apply aA (v:=Ω 2) bv;apply aA (v:=Ω 2) bv;exact⟨rfl,h3⟩
def adA(F:cp X):C X (.func 320) [.int .u64 2] m m.n (Ω 2) m:=by apply Cl.fG F (MZ func320);rw[F320];dsimp only[aG];apply aw (abp F);exact⟨rfl,ac⟩
variable{b:Nat}{p q:Pl}{g:Option Nat}
def ixp:aE TE 42 (.slice (some ⟨b,0,none⟩) 2 2) (.int .i64 0)=some (.pointer (some ⟨b,0,none⟩)):=bv
def ixq:aE TE 42 (.slice (some ⟨b,0,none⟩) 2 2) (.int .i64 1)=some (.pointer (some ⟨b,2,none⟩)):=bv
def Mv(F:m.get b=.cells (p.c++q.c) 85 g):aC TE m 85 (Ψ b 0)=some p.v/\aC TE m 85 (Ψ b 2)=some q.v:=by rw[qu,qu];exact⟨by rw[aI (n:=2) F (by show 0+2<=4;decide)];rfl,by rw[aI (n:=2) F (by show 2+2<=4;decide)];rfl⟩
def SD(m:M)(b:Nat)(p q:Pl)(mm:M)(lo:Nat):Prop:=
 (¬uM q p < 0/\mm=m/\m.n<=lo)\/(uM q p < 0/\lo < m.n/\b<=lo/\mm.n=m.n/\mm.get b=.cells (q.c++p.c) 85 none/\∀c,c≠b->mm.get c=m.get c)
def SD.gen{vs:ν}{mm:M}{lo:Nat}(h:SD m b p q mm lo)(F:vs=[]):(aZ (aM vs)/\m.n<=lo/\(aM vs=.tuple #[]/\SD m b p q m m.n))\/((aZ (aM vs)=false\/lo<m.n)/\(aM vs=.tuple #[]/\SD m b p q mm (min m.n lo))):=by subst F;rcases h with⟨H,rfl,h3⟩|h;exact .inl ⟨rfl,h3,rfl,.inl ⟨H,rfl,ID _⟩⟩;exact .inr ⟨.inr h.2.1,rfl,.inr be⟩
def Uh(hX:cp X)(hg:m.get b=.cells (p.c++q.c) 85 none):
  ∃m' lo,C X (.func 326) [RZ b 0 2 2,Ω 0,Ω 2,.func (.func 280) #[] #[]] m lo (.tuple #[]) m'/\SD m b p q m' lo:=by have hb:=M.aP hg;have H:∀R:ν->M->Nat->Prop,(∀vs F lo,vs=[]->SD m b p q F lo->R vs F lo)->fP TE (aG TE X) f326 [RZ b 0 2 2,Ω 0,Ω 2,.func (.func 280) #[] #[]] m R:=(by intro R hR;rw[F326];dsimp only[aG];apply aA (v:=Ω 1) bv;refine Lp.intro (γ:=Nat) (λi=>2-i) (λi vs F lo=>(i=1/\vs=[Ω 1]/\m=F/\m.n<=lo)\/(i=2/\vs=[Ω 2]/\SD m b p q F lo)) 1 (.inl ⟨rfl,rfl,rfl,ID _⟩) ?_;rintro i _ F lo (⟨rfl,rfl,rfl,b0⟩|⟨rfl,rfl,hd⟩);rw[av];apply aA (v:=HT) bv;rw[ag];show lR true _ _;rw[bM];refine Lp.intro (γ:=Nat) (λi=>i) (λi vs F lo=>(i=1/\vs=[Ω 1]/\m=F/\m.n<=lo)\/(i=0/\vs=[Ω 0]/\SD m b p q F lo)) 1 (.inl ⟨rfl,rfl,rfl,b0⟩) ?_;rintro i _ F lo (⟨rfl,rfl,rfl,b0⟩|⟨rfl,rfl,hd⟩);rw[av];refine aX (λvs F lo=>vs=[.bool (decide (uM q p<0))]/\m=F/\m.n<=lo) (λQ hQ=>?_) ?_;apply aA (v:=HT) bv;rw[ag];show lR true _ _;rw[bM,ixq,ae,(Mv hg).2,ae];apply aA (v:=Ω 0) bv;rw[ixp,ae,(Mv hg).1,ae,ck];apply aw (rR hX q p);rw[aK,ae];grind;rintro _ _ iT ⟨rfl,rfl,d0⟩;rw[av,ag];refine af (λc=>?_) (λc=>?_);have c:uM q p<0:=be;apply aA (v:=Ω 0) bv;apply aA (v:=Ω 0) bv;rw[ixp,ae,(Mv hg).1,ae,ixq,ae,(Mv hg).2,ae,ae];refine bW fQ hg rfl (by show 2+2<=4;decide) rfl λm1 k0 e0 g0=>?_;rw[ae];refine bW fQ e0 rfl (by show 0+2<=4;decide) rfl λm2 l0 h0 i0=>?_;apply aA (v:=Ω 0) bv;refine⟨0,Nat.zero_lt_one,.inr ⟨rfl,rfl,.inr ⟨c,ac,ac,ac,h0,λk hk=>(i0 k hk).trans (g0 k hk)⟩⟩⟩;have c:¬uM q p<0:=be;apply aA (v:=Ω 2) bv;exact⟨2,ce,.inr ⟨rfl,rfl,.inl ⟨c,rfl,d0⟩⟩⟩;rw[av];refine aX (λvs m' j0=>vs=[IA]/\F=m'/\j0=lo) (λQ hQ=>?_) ?_;apply aA (v:=IA) bv;rw[ag];exact hQ _ _ _ ⟨rfl,rfl,rfl⟩;rintro _ _ _ ⟨rfl,rfl,rfl⟩;rw[av,ag];show lR false _ _;rw[aT];apply aA (v:=Ω 2) bv;grind;rw[av];apply aA (v:=IA) bv;rw[ag];exact hR _ _ _ rfl hd);obtain⟨v,m',lo,hc,rfl,hd⟩:=Cl.Hj (R:=λv m' lo=>v=.tuple #[]/\SD m b p q m' lo) (hX.no _ rfl) (MZ func326) rfl (H _ λvs F lo hv hd=>hd.gen hv);exact⟨m',lo,hc,hd⟩
def Ty(hX:cp X)(hg:m.get b=.cells (p.c++q.c) 85 none):
  ∃m' lo,C X (.func 319) [RZ b 0 2 2,Ω 0,Ω 2,Ω 2,.func (.func 280) #[] #[]] m lo (.tuple #[]) m'/\SD m b p q m' lo:=by have H:∀R:ν->M->Nat->Prop,(∀F mm lo,F=[]->SD m b p q mm lo->R F mm lo)->fP TE (aG TE X) (RW [5] f319) [RZ b 0 2 2,Ω 0,Ω 2,Ω 2,.func (.func 280) #[] #[]] m R:=(by intro R hR;rw[F319];dsimp only[aG];refine Lp.intro (γ:=Unit) (λ_=>0) (λ_ F mm lo=>F=[Ω 2,Ω 0,HT,HT,Ω 2]/\m=mm/\m.n=lo) () ⟨rfl,rfl,rfl⟩ ?_;rintro _ _ _ _ ⟨rfl,rfl,rfl⟩;rw[av,av,av,av,av];apply aA (v:=Ω 2) bv;apply aA (v:=HT) bv;rw[ag];show lR true _ _;rw[bM];have⟨m',lo,hc,hd⟩:=Uh hX hg;apply aw hc;refine hR _ _ _ rfl ?_;rcases hd with⟨h1,rfl,h3⟩|⟨h1,h2,h3⟩;exact .inl ⟨h1,rfl,ac⟩;exact .inr ⟨h1,ac,ac,h3.2⟩);obtain⟨v,m',lo,hc,rfl,hd⟩:=Cl.genC (R:=λv m' lo=>v=.tuple #[]/\SD m b p q m' lo) (λl=>hX.no _ rfl _ _) (MZ func319) rfl (H _ λF mm lo hv hd=>hd.gen hv);exact⟨m',lo,hc,hd⟩
def Tl(hX:cp X)(h:∀args m,X (.func 306) args m=none):CK X:=⟨λm b p q hg=>by have H:∀R:ν->M->Nat->Prop,(∀vs mm lo,vs=[]->SD m b p q mm lo->R vs mm lo)->fP TE (aG TE X) f306 [RZ b 0 2 2,.func (.func 280) #[] #[]] m R:=(by intro R hR;rw[F306];dsimp only[aG];rw[show aR TE m .len [42] [RZ b 0 2 2]=some (Ω 2,m) by kernel_rfl,ak];apply aA (v:=.int .u64 2) bv;apply aw (adA hX);have⟨m',lo,hc,hd⟩:=Ty hX hg;apply aw hc;refine hR _ _ _ rfl ?_;rcases hd with⟨F,rfl,h3⟩|⟨F,h2,h3⟩;exact .inl ⟨F,rfl,ac⟩;exact .inr ⟨F,ac,ac,h3.2⟩);have hb:=M.aP hg;obtain⟨v,m',lo,hc,rfl,hd⟩:=Cl.Hj (R:=λv m' lo=>v=.tuple #[]/\SD m b p q m' lo) h (MZ func306) rfl (H _ λvs mm lo hv hd=>hd.gen hv);refine⟨m',lo,hc,?_⟩;unfold iT He;rcases hd with⟨F,rfl,h3⟩|⟨F,h2,h3,h4,h5,h6⟩;rw[Od F,Od F];exact⟨ac,rfl,hg,λ_ _=>rfl⟩;rw[F6 F,F6 F];exact⟨h3,h4,h5,h6⟩⟩
