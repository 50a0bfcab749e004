/- slices.BinarySearchFunc and .. -/
import Derived.Test.YtmdfgncoekfgdaaGreatDoorG4J
import Derived.Test.YtmdfgncoekfgdaaGreatDoorG7J
import Derived.Test.YtmdfgncoekfgdaaGreatDoorG4J
import Derived.Test.YtmdfgncoekfgdaaGreatDoorG6J
import Derived.Laws.CopyRow
import Derived.Deep.WholeRow
import Derived.Lib.AppendZerosOnto
import Derived.Test.YtmdfgncoekfgdaaGreatDoorTabJ
import Derived.Shelf.Spec.SlicesInsert
import Derived.WalkKit
set_option maxRecDepth 100000
noncomputable section
namespace Go.Proofs.YtmdfgncoekfgdaaGreatDoor
open Go Go.D
section
variable {X:aG} {m:M}
theorem _root_.Go.D.Lp.nc{F:(aee->M->Nat->Prop)->aee->M->Nat->Prop}{vs:aee}{m:M}{lo:Nat}{γ:Type}(μ:γ->Nat)(I:γ->aee->M->Nat->Prop)(g0:γ)(h0:I g0 vs m lo)
  (h:∀g vs m lo,I g vs m lo->∀P:aee->M->Nat->Prop,(∀H vs m lo,μ H < μ g->I H vs m lo->P vs m lo)->F P vs m lo):Lp F vs m lo:=
 Lp.intro μ I g0 h0 λg vs m lo hI=>h g vs m lo hI _ λH vs m lo h1 h2=>⟨H,h1,h2⟩
theorem ai{α:Type}{x:Option α}{v:α}{P:α->Prop}(h:x=some v)(F:P v):aj x P:=by rw[h];exact F
abbrev WL(T t:TypeId)(W:Words)(x0 x1 x2:aed)(m:M)(R:aee->M->Nat->Prop):Prop:=
(W.aT (av TE m .len [T] [x0]) λv1 _=>(W.Lp (λP2 i0 H F=>W.un i0 λv6 r7=>W.un r7 λv8 r9=>(W.aj (aw TE .lss 3 v6 v8) λv10=>(bD v10
(W.aj (aw TE .add 3 v6 v8) λv11=>(W.aj (IN TE H 3 224 v11) λv12=>(W.aj (aw TE .shr 224 v12 (.int .u64 1)) λj0=>(W.aj (IN TE H 224 3 j0) λa0=>(W.aj (ak TE T x0 a0) λk0=>(W.aj (ah TE H t k0) λl0=>(jN x2 λg17 f18 o0=>(W.bt g17 (f18.toList++([l0,x1]++o0.toList)) H λv20 b0 d0=>(W.aj (aw TE .lss 3 v20 (.int .i64 0)) λq0=>(bD q0
(W.aj (aw TE .add 3 a0 (.int .i64 1)) λv24=>(P2 [v24,v8] b0 (min F d0)))
(P2 [v6,a0] b0 (min F d0))))))))))))
(W.jn (λe0=>(W.aj (aw TE .lss 3 v6 v1) λr0=>(bD r0
(W.aj (ak TE T x0 v6) λv30=>(W.aj (ah TE H t v30) λv31=>(jN x2 λs0 f33 u0=>(W.bt s0 (f33.toList++([v31,x1]++u0.toList)) H λv0 z0 A0=>(W.aj (aw TE .eql 3 v0 (.int .i64 0)) λB0=>(e0 [v6,B0] z0 (min F A0)))))))
(e0 [v6,.bool false] H F))))
(λg0 C0 h0=>W.un g0 λD0 E0=>W.un E0 λF0 G0=>(R [D0,F0] C0 h0)))))) [.int .i64 0,v1] m (M.n m)))
theorem M8{W:Words}{x0 x1 x2:aed}{m:M}{R:aee->M->Nat->Prop}:dm TE W Tryz.f153 [x0,x1,x2] m R=WL 29 87 W x0 x1 x2 m R:=by kernel_rfl
theorem M9{W:Words}{x0 x1 x2:aed}{m:M}{R:aee->M->Nat->Prop}:dm TE W Tryz.f278 [x0,x1,x2] m R=WL 58 89 W x0 x1 x2 m R:=by kernel_rfl
def gJ{α:Type}(key:α->Int)(l:List α)(id:Int):Nat:=(l.filter λx=>decide (key x < id)).length
theorem Fi{α:Type}{key:α->Int}{l:List α}{id:Int}:gJ key l id<=l.length:=acg _ _
theorem vv{α:Type}{key:α->Int}{l:List α}{id:Int}(h:l.Pairwise λa b=>key a < key b):
  l.take (gJ key l id)=l.filter (λx=>decide (key x < id))/\l.drop (gJ key l id)=l.filter (λx=>decide (id<=key x)):=by
 unfold gJ
 induction l with
 |nil=>exact⟨rfl,rfl⟩
 |cons a r ih=>
  rw[acw]at h;obtain⟨F,H⟩:=ih h.2;by_cases e:key a < id
  ·have e2:¬id<=key a:=by omega
   simp only[abf,aaX e,aat e2,abq,abJ,if_false,aaJ,aa6,aaT,F,H];first |exact⟨rfl,rfl⟩ |exact⟨trivial,rfl⟩ |exact⟨rfl,trivial⟩ |exact⟨trivial,trivial⟩
  have e2:id<=key a:=by omega
  have h0:(r.filter λx=>decide (key x < id))=[]:=by rw[acr];intro z hz;have:=h.1 z hz;simp;omega
  have h1:(r.filter λx=>decide (id<=key x))=r:=by rw[acD];intro z hz;have:=h.1 z hz;simp;omega
  simp only[abf,aat e,aaX e2,h0,h1,abq,abJ,if_false,abc,abi,aa0];first |exact⟨rfl,rfl⟩ |exact⟨trivial,rfl⟩ |exact⟨rfl,trivial⟩ |exact⟨trivial,trivial⟩
theorem Oc{α:Type}{key:α->Int}{l:List α}{id:Int}{i:Nat}(hi:i<=l.length)(h1:∀k x,k < i->l[k]?=some x->key x < id)(h2:∀k x,i<=k->l[k]?=some x->id<=key x):gJ key l id=i:=by
 have e:l=l.take i++l.drop i:=(abV i l).symm;unfold gJ;rw[e,abY,acD.2,acr.2,abk,aap];·omega
 ·intro x H;obtain⟨k,F⟩:=aaN H;rw[aaW]at F;have:=h2 _ x (by omega) F;simp;omega
 intro x H;obtain⟨k,F⟩:=aaN H;have a0:=(Ω.1 F).1;rw[aap]at a0;rw[aaI (by omega)]at F;have:=h1 k x (by omega) F;simpa using this
theorem nm{T t:TypeId}{α:Type}[aP α](hT:uF TE T t α){f:Nat}{fn:Func}(hX:IQ X f)(hf:TE.fn.get f=some fn)(hn:Nat.ble 3 fn.ntmps=true)
  (hF:∀{W:Words} {x0 x1 x2:aed} {m:M} {R:aee->M->Nat->Prop},dm TE W fn [x0,x1,x2] m R=WL T t W x0 x1 x2 m R)
  {l:List α} {v:aed} {g:Fn} {fi ca:Array aed} {id:Int} (key:α->Int) (hb:l.length < 400) (hl:Sl m l v) (g0:l.Pairwise λa b=>key a < key b)
  (hs:∀x∈l,∀cs,aP.rep m x cs->C X g (fi.toList++([aP.val α cs,.int .i64 id]++ca.toList)) m m.n (.int .i64 (kj (key x) id)) m):
  C X (.func f) [v,.int .i64 id,.func g fi ca] m m.n (.tuple #[.int .i64 (gJ key l id:Nat),.bool (l.any λx=>decide (key x=id))]) m:=by
 have d0:∀i k x y,i < k->l[i]?=some x->l[k]?=some y->key x < key y:=λi k x y l0 H hy=>by rw[abH]at g0;obtain⟨h1,rfl⟩:=Ω.1 H;obtain⟨h2,rfl⟩:=Ω.1 hy;exact g0 i k h1 h2 l0
 refine Cl.flat hX hf hn rfl ?_;rw[hF];dsimp only[WL,aI];rw[hl.len hT,aE];refine Lp.intro (γ:=Nat×Nat) (λs=>s.2-s.1) (λs vs mm lo=>vs=[.int .i64 s.1,.int .i64 s.2]/\s.1<=s.2/\s.2<=l.length/\m=mm/\m.n<=lo/\(∀k x,k < s.1->l[k]?=some x->key x < id)/\∀k x,s.2<=k->l[k]?=some x->id<=key x) (0,l.length) ⟨rfl,aaQ _,Ξ _,rfl,Ξ _,λk x hk=>by omega,λk x hk H=>by have:=(Ω.1 H).1;omega⟩ ?_;rintro⟨i,j⟩ vs mm lo ⟨rfl,o0,hj,rfl,r0,a0,F⟩;dsimp only at o0 hj a0 F⊢;rw[aH,aH,aX,ae,an];refine aq (λb0=>?_) (λe0=>?_)
 ·have b0:i < j:=by simpa using b0
  obtain⟨x,H⟩:∃x,l[(i+j)/2]?=some x:=⟨_,Φ (by omega)⟩
  obtain⟨a,cs,e1,e2,hr⟩:=hl.index hT (k:=.i64) H;rw[aQ,ae,wrap64 (by omega) (by omega),show(i:Int)+(j:Int)=((i+j:Nat):Int) by omega,wO,PR (by omega),ae,PV,ae,wP,wrap64 (by omega) (by omega),ae,e1,ae,e2,ae,bY];refine az (hs x (aac H) cs hr) ?_;rw[aX,ae,an];refine aq (λhc=>?_) (λhc=>?_)
  ·have hc:key x < id:=by
    unfold kj at hc;by_cases h1:key x < id;·exact h1
    rw[aaa h1]at hc;split at hc <;>simp at hc
   rw[aQ,ae,wrap64 (by omega) (by omega)];refine⟨((i+j)/2+1,j),by dsimp only;omega,by dsimp only;simp,by dsimp only;omega,hj,rfl,by omega,λk y hk hy=>?_,F⟩;by_cases e:k=(i+j)/2;·subst e;rw[H]at hy;cases hy;exact hc
   have:=d0 k _ y x (by dsimp only at hk;omega) hy H;omega
  have hc:id<=key x:=by
   unfold kj at hc;by_cases h1:key x < id;·rw[aaf h1]at hc;simp at hc
   omega
  refine⟨(i,(i+j)/2),by dsimp only;omega,rfl,by dsimp only;omega,by dsimp only;omega,rfl,by omega,a0,λk y hk hy=>?_⟩;by_cases e:k=(i+j)/2;·subst e;rw[H]at hy;cases hy;exact hc
  have:=d0 _ k x y (by dsimp only at hk;omega) H hy;omega
 have h0:i=j:=by
  have:¬(i:Int)< (j:Int):=by simpa using e0
  omega
 subst h0;have i0:=Oc (key:=key) (id:=id) hj a0 F;refine cG (λvs m' j0=>vs=[.int .i64 i,.bool (l.any λx=>decide (key x=id))]/\m=m'/\m.n<=j0) (λR hR=>?_) ?_
 ·rw[aX,ae,an];refine aq (λb0=>?_) (λe0=>?_)
  ·have b0:i < l.length:=by simpa using b0
   obtain⟨x,H⟩:∃x,l[i]?=some x:=⟨_,Φ b0⟩
   obtain⟨a,cs,e1,e2,hr⟩:=hl.index hT (k:=.i64) H;rw[e1,ae,e2,ae,bY];refine az (hs x (aac H) cs hr) ?_;rw[aY,ae];refine hR _ _ _ ⟨?_,rfl,by omega⟩
   have e:(kj (key x) id=0)↔(∃y∈l,key y=id):=by
    constructor
    ·intro he;refine⟨x,aac H,?_⟩;unfold kj at he;by_cases h1:key x < id;·rw[aaf h1]at he;omega
     rw[aaa h1]at he;by_cases h2:id < key x;·rw[aaf h2]at he;omega
     omega
    rintro⟨y,hy,he⟩;obtain⟨k,hk⟩:=aaN hy
    have q0:k=i:=by
     rcases abS k i with h |h |h;·have:=a0 k y h hk;omega
     ·exact h
     have:=F i x (Ξ _) H;have:=d0 i k x y h H hk;omega
    subst q0;rw[H]at hk;cases hk;unfold kj;rw[aaa (by omega),aaa (by omega)]
   have e':decide (kj (key x) id=0)=l.any λx=>decide (key x=id):=by rw[Bool.eq_iff_iff,decide_eq_true_iff,e,ace];simp
   rw[<-e']
  have e0:l.length=i:=by
   have:¬(i:Int)< (l.length:Int):=by simpa using e0
   omega
  refine hR _ _ _ ⟨?_,rfl,by omega⟩
  have:(l.any λx=>decide (key x=id))=false:=by rw[abF];intro y hy;obtain⟨k,hk⟩:=aaN hy;have:=a0 k y (by have:=(Ω.1 hk).1;omega) hk;simp;omega
  rw[this]
 rintro _ _ j0 ⟨rfl,rfl,k0⟩;rw[aH,aH];exact⟨by rw[i0];rfl,k0⟩
end
section
section
variable {W:Words}{x0 x1 x2 x3 x4 x5 x6 x7:aed}{m:M}{R RP:aee->M->Nat->Prop}{CP:Fn->aee->M->(M->Nat->Prop)->Prop}
theorem YP:dm TE W Tryz.f240 [x0] m R=ν W m 25 1 [(0,x0)] λa b=>R [a] b m.n:=by kernel_rfl
theorem YK:dm TE W Tryz.f249 [x0] m R=ς W m x0 87 λa=>W.jn (λb=>ε W 87 (φ m) 1 λc=>δ W a 3 c λc=>η W .eql 3 c (χ 0) λc=>bD c (ε W 87 (φ m) 2 λc=>δ W a 3 c λc=>η W .eql 3 c (χ 0) λc=>bD c (ε W 87 (φ m) 3 λc=>δ W a 45 c λc=>κ W a .len [45] [c] λc _=>η W .eql 3 c (χ 0) λc=>bD c (ε W 87 (φ m) 4 λc=>δ W a 3 c λc=>η W .eql 3 c (χ 0) λc=>bD c (ε W 87 (φ m) 5 λc=>δ W a 3 c λc=>η W .eql 3 c (χ 0) λc=>b [c] a m.n) (b [aei] a m.n)) (b [aei] a m.n)) (b [aei] a m.n)) (b [aei] a m.n)) (λa b c=>W.un a λa _=>R [a] b c):=by kernel_rfl
theorem F45:dm TE W Tryz.f45 [x0,x1,x2,x3] m R=ς W m x0 31 λa=>W.Lp (λa b c d=>W.un b λb f=>W.un f λf _=>κ W c .len [25] [x1] λg _=>η W .lss 3 f g λg=>bD g (δ W c 31 (φ m) λg=>ζ W 25 x1 f λh=>δ W c 3 h λh=>ψ W 98 [g,h] c λg h i=>(c.n<=i)/\(ξ W g 0 λc=>ξ W g 1 λg=>υ W h [χ 0,χ 0,χ 0,aeg,χ 0,χ 0] 87 λj=>ι W j 87 (φ h) c λc j=>W.jn (λa=>bD g (ε W 87 (φ h) 3 λb=>δ W c 45 b λb=>ψ W 119 [b,x2,x3] c λb c f=>η W .geq 3 b (χ 0) λb=>a [b] c (min (min (min d i) j) f)) (a [aei] c (min (min d i) j))) (λc d g=>W.un c λc _=>bD c (R [aeh] d g) (η W .add 3 f (χ 1) λc=>a [b,c] d g)))) (R [aei] c d)) [aei,χ 0] a m.n:=by kernel_rfl
theorem ZA:dm TE W Tryz.f116 [x0,x1] m R=ς W m x0 60 λa=>W.jn (λb=>ε W 60 (φ m) 0 λc=>ε W 31 c 0 λc=>δ W a 29 c λc=>κ W a .len [29] [c] λc _=>η W .eql 3 c (χ 0) λc=>bD c (b [aeh] a m.n) (ψ W 95 [x1,χ 16] a λa c d=>η W .eql 3 a (χ 15) λa=>b [a] c (min m.n d))) (λa b c=>W.un a λa _=>bD a (ψ W 95 [x1,χ 100] b λa b d=>R [a] b (min c d)) (ε W 60 (φ m) 0 λa=>ε W 31 a 0 λa=>δ W b 29 a λa=>η W .quo 3 x1 (χ 16) λd=>ε W 60 (φ m) 0 λf=>ε W 31 f 0 λf=>δ W b 29 f λf=>κ W b .len [29] [f] λf _=>ψ W 95 [d,f] b λd f g=>(b.n<=g)/\(ζ W 29 a d λa=>ε W 87 a 0 λa=>δ W f 3 a λa=>R [a] f (min c g)))):=by kernel_rfl
theorem F41:dm TE W Tryz.f41 [x0,x1] m R=ς W m x0 60 λa=>ς W a x1 85 λb=>υ W b [χ 0,χ 0,χ 0,χ 0,aeg,χ 0,χ 0,χ 0,χ 0,χ 0,χ 0,χ 0,χ 0,χ 0,aei] 91 λc=>ζ W 85 (φ a) (χ 0) λd=>δ W c 3 d λd=>ψ W 95 [d,χ 8] c λc d f=>η W .eql 3 c (χ 0) λg=>bD g (bD g (ζ W 85 (φ a) (χ 1) λc=>δ W d 3 c λc=>ζ W 85 (φ a) (χ 2) λg=>δ W d 3 g λg=>ζ W 85 (φ a) (χ 3) λh=>δ W d 3 h λh=>ζ W 85 (φ a) (χ 4) λi=>δ W d 3 i λi=>ζ W 85 (φ a) (χ 4) λj=>δ W d 3 j λj=>η W .quo 3 j (χ 4) λj=>ζ W 85 (φ a) (χ 5) λk=>δ W d 3 k λk=>ζ W 85 (φ a) (χ 5) λa=>δ W d 3 a λa=>η W .quo 3 a (χ 8) λa=>θ W 85 [(0,g),(1,h),(2,i),(3,j),(4,k),(5,a)] λa=>ψ W 53 [c,a] d λa c d=>θ W 91 [(0,(χ 1)),(1,a)] λa=>ι W c 91 (φ b) a λa c=>aj (ah TE a 91 (φ b)) λb=>R [b] a (min (min (min m.n f) d) c)) (η W .eql 3 c (χ 2) λg=>bD g (δ W d 60 (φ m) λc=>ζ W 85 (φ a) (χ 1) λa=>δ W d 3 a λa=>ψ W 116 [c,a] d λa c d=>θ W 91 [(0,(χ 2)),(2,a)] λa=>ι W c 91 (φ b) a λa c=>aj (ah TE a 91 (φ b)) λb=>R [b] a (min (min (min m.n f) d) c)) (η W .eql 3 c (χ 3) λg=>bD g (δ W d 60 (φ m) λc=>ζ W 85 (φ a) (χ 1) λg=>δ W d 3 g λg=>ψ W 116 [c,g] d λc g h=>(d.n<=h)/\(ζ W 85 (φ a) (χ 2) λd=>δ W g 3 d λd=>ψ W 95 [d,χ 4] g λd i j=>(g.n<=j)/\(ζ W 85 (φ a) (χ 3) λg=>δ W i 3 g λg=>ψ W 95 [g,χ 4] i λg k l=>(i.n<=l)/\(θ W 91 [(0,(χ 3)),(2,c),(3,d),(4,g)] λc=>υ W k [χ 0,χ 0,χ 0,χ 0,aeg,χ 0,χ 0,χ 0,χ 0,χ 0,χ 0,χ 0,χ 0,χ 0,aei] 91 λd=>ι W d 91 (φ k) c λc d=>ε W 91 (φ k) 3 λg=>δ W c 3 g λg=>ε W 91 (φ k) 4 λi=>δ W c 3 i λi=>η W .eql 3 g i λg=>bD g (ε W 91 (φ k) 3 λg=>δ W c 3 g λg=>η W .add 3 g (χ 2) λg=>η W .rem 3 g (χ 4) λg=>ε W 91 (φ k) 4 λi=>ι W c 3 i g λc g=>ε W 91 (φ k) 2 λi=>δ W c 3 i λi=>η W .add 3 i (χ 40) λi=>ζ W 85 (φ a) (χ 4) λa=>δ W c 3 a λa=>ψ W 95 [a,χ 20] c λa n o=>(c.n<=o)/\(η W .add 3 i a λa=>η W .rem 3 a (χ 100) λa=>ε W 91 (φ k) 1 λc=>ε W 87 c 0 λc=>ι W n 3 c a λa c=>δ W a 91 (φ k) λi=>ι W a 91 (φ b) i λa i=>aj (ah TE a 91 (φ b)) λb=>R [b] a (min (min (min (min (min (min (min (min (min m.n f) h) j) l) d) g) o) c) i))) (ε W 91 (φ k) 2 λg=>δ W c 3 g λg=>η W .add 3 g (χ 40) λg=>ζ W 85 (φ a) (χ 4) λa=>δ W c 3 a λa=>ψ W 95 [a,χ 20] c λa i n=>(c.n<=n)/\(η W .add 3 g a λa=>η W .rem 3 a (χ 100) λa=>ε W 91 (φ k) 1 λc=>ε W 87 c 0 λc=>ι W i 3 c a λa c=>δ W a 91 (φ k) λg=>ι W a 91 (φ b) g λa g=>aj (ah TE a 91 (φ b)) λb=>R [b] a (min (min (min (min (min (min (min (min m.n f) h) j) l) d) n) c) g))))))) (η W .eql 3 c (χ 4) λg=>bD g (δ W d 60 (φ m) λc=>ζ W 85 (φ a) (χ 1) λg=>δ W d 3 g λg=>ψ W 116 [c,g] d λc g h=>(d.n<=h)/\(ζ W 85 (φ a) (χ 2) λd=>δ W g 3 d λd=>ψ W 95 [d,χ 7] g λd i j=>(g.n<=j)/\(η W .sub 3 d (χ 3) λd=>η W .mul 3 (χ 4) d λd=>ζ W 85 (φ a) (χ 3) λg=>δ W i 3 g λg=>ψ W 95 [g,χ 5] i λg k l=>(i.n<=l)/\(η W .sub 3 g (χ 2) λg=>η W .mul 3 (χ 4) g λg=>θ W 91 [(0,(χ 4)),(2,c),(3,d),(4,g)] λc=>υ W k [χ 0,χ 0,χ 0,χ 0,aeg,χ 0,χ 0,χ 0,χ 0,χ 0,χ 0,χ 0,χ 0,χ 0,aei] 91 λd=>ι W d 91 (φ k) c λc d=>W.jn (λa=>ε W 91 (φ k) 3 λb=>δ W c 3 b λb=>η W .eql 3 b (χ 0) λb=>bD b (ε W 91 (φ k) 4 λb=>δ W c 3 b λb=>η W .eql 3 b (χ 0) λb=>a [b] c (min (min (min (min (min m.n f) h) j) l) d)) (a [aei] c (min (min (min (min (min m.n f) h) j) l) d))) (λc d f=>W.un c λc _=>bD c (ζ W 85 (φ a) (χ 4) λa=>δ W d 3 a λa=>ψ W 95 [a,χ 3] d λa c d=>η W .add 3 (χ 1) a λa=>ε W 91 (φ k) 3 λg=>ι W c 3 g a λa c=>δ W a 91 (φ k) λg=>ι W a 91 (φ b) g λa g=>aj (ah TE a 91 (φ b)) λb=>R [b] a (min (min (min f d) c) g)) (δ W d 91 (φ k) λa=>ι W d 91 (φ b) a λa c=>aj (ah TE a 91 (φ b)) λb=>R [b] a (min f c))))))) (η W .eql 3 c (χ 5) λc=>bD c (ζ W 85 (φ a) (χ 1) λc=>δ W d 3 c λc=>ψ W 95 [c,χ 20] d λc g h=>(d.n<=h)/\(δ W g 60 (φ m) λd=>ζ W 85 (φ a) (χ 2) λi=>δ W g 3 i λi=>ψ W 116 [d,i] g λd i j=>(g.n<=j)/\(ζ W 85 (φ a) (χ 3) λg=>δ W i 3 g λg=>ψ W 95 [g,χ 6] i λg k l=>(i.n<=l)/\(η W .sub 3 g (χ 2) λg=>ζ W 85 (φ a) (χ 4) λi=>δ W k 3 i λi=>ψ W 95 [i,χ 5] k λi n o=>(k.n<=o)/\(η W .add 3 (χ 1) i λi=>ζ W 85 (φ a) (χ 4) λa=>δ W n 3 a λa=>ψ W 95 [a,χ 2] n λa k n=>η W .eql 3 a (χ 0) λa=>θ W 89 [(0,c),(1,d),(2,g),(3,i),(4,a)] λa=>θ W 91 [(0,(χ 5)),(5,a)] λa=>ι W k 91 (φ b) a λa c=>aj (ah TE a 91 (φ b)) λb=>R [b] a (min (min (min (min (min (min (min m.n f) h) j) l) o) n) c)))))) (ζ W 85 (φ a) (χ 2) λc=>δ W d 3 c λc=>ψ W 95 [c,χ 2] d λc g h=>(d.n<=h)/\(η W .add 3 (χ 6) c λc=>ζ W 85 (φ a) (χ 1) λd=>δ W g 3 d λd=>ψ W 95 [d,χ 12] g λd i j=>(g.n<=j)/\(θ W 91 [(0,c),(2,d)] λc=>υ W i [χ 0,χ 0,χ 0,χ 0,aeg,χ 0,χ 0,χ 0,χ 0,χ 0,χ 0,χ 0,χ 0,χ 0,aei] 91 λd=>ι W d 91 (φ i) c λc d=>ε W 60 (φ m) 1 λg=>δ W c 58 g λg=>κ W c .len [58] [g] λg _=>η W .gtr 3 g (χ 0) λg=>bD g (ε W 60 (φ m) 1 λg=>δ W c 58 g λg=>ζ W 85 (φ a) (χ 1) λa=>δ W c 3 a λa=>ε W 60 (φ m) 1 λk=>δ W c 58 k λk=>κ W c .len [58] [k] λk _=>ψ W 95 [a,k] c λa k l=>(c.n<=l)/\(ζ W 58 g a λa=>ε W 89 a 0 λa=>δ W k 3 a λa=>ε W 91 (φ i) 2 λc=>ι W k 3 c a λa c=>δ W a 91 (φ i) λg=>ι W a 91 (φ b) g λa g=>aj (ah TE a 91 (φ b)) λb=>R [b] a (min (min (min (min (min (min (min m.n f) h) j) d) l) c) g))) (δ W c 91 (φ i) λa=>ι W c 91 (φ b) a λa c=>aj (ah TE a 91 (φ b)) λb=>R [b] a (min (min (min (min (min m.n f) h) j) d) c)))))))))) (η W .eql 3 c (χ 1) λg=>bD g (ζ W 85 (φ a) (χ 1) λc=>δ W d 3 c λc=>ζ W 85 (φ a) (χ 2) λg=>δ W d 3 g λg=>ζ W 85 (φ a) (χ 3) λh=>δ W d 3 h λh=>ζ W 85 (φ a) (χ 4) λi=>δ W d 3 i λi=>ζ W 85 (φ a) (χ 4) λj=>δ W d 3 j λj=>η W .quo 3 j (χ 4) λj=>ζ W 85 (φ a) (χ 5) λk=>δ W d 3 k λk=>ζ W 85 (φ a) (χ 5) λa=>δ W d 3 a λa=>η W .quo 3 a (χ 8) λa=>θ W 85 [(0,g),(1,h),(2,i),(3,j),(4,k),(5,a)] λa=>ψ W 53 [c,a] d λa c d=>θ W 91 [(0,(χ 1)),(1,a)] λa=>ι W c 91 (φ b) a λa c=>aj (ah TE a 91 (φ b)) λb=>R [b] a (min (min (min m.n f) d) c)) (η W .eql 3 c (χ 2) λg=>bD g (δ W d 60 (φ m) λc=>ζ W 85 (φ a) (χ 1) λa=>δ W d 3 a λa=>ψ W 116 [c,a] d λa c d=>θ W 91 [(0,(χ 2)),(2,a)] λa=>ι W c 91 (φ b) a λa c=>aj (ah TE a 91 (φ b)) λb=>R [b] a (min (min (min m.n f) d) c)) (η W .eql 3 c (χ 3) λg=>bD g (δ W d 60 (φ m) λc=>ζ W 85 (φ a) (χ 1) λg=>δ W d 3 g λg=>ψ W 116 [c,g] d λc g h=>(d.n<=h)/\(ζ W 85 (φ a) (χ 2) λd=>δ W g 3 d λd=>ψ W 95 [d,χ 4] g λd i j=>(g.n<=j)/\(ζ W 85 (φ a) (χ 3) λg=>δ W i 3 g λg=>ψ W 95 [g,χ 4] i λg k l=>(i.n<=l)/\(θ W 91 [(0,(χ 3)),(2,c),(3,d),(4,g)] λc=>υ W k [χ 0,χ 0,χ 0,χ 0,aeg,χ 0,χ 0,χ 0,χ 0,χ 0,χ 0,χ 0,χ 0,χ 0,aei] 91 λd=>ι W d 91 (φ k) c λc d=>ε W 91 (φ k) 3 λg=>δ W c 3 g λg=>ε W 91 (φ k) 4 λi=>δ W c 3 i λi=>η W .eql 3 g i λg=>bD g (ε W 91 (φ k) 3 λg=>δ W c 3 g λg=>η W .add 3 g (χ 2) λg=>η W .rem 3 g (χ 4) λg=>ε W 91 (φ k) 4 λi=>ι W c 3 i g λc g=>ε W 91 (φ k) 2 λi=>δ W c 3 i λi=>η W .add 3 i (χ 40) λi=>ζ W 85 (φ a) (χ 4) λa=>δ W c 3 a λa=>ψ W 95 [a,χ 20] c λa n o=>(c.n<=o)/\(η W .add 3 i a λa=>η W .rem 3 a (χ 100) λa=>ε W 91 (φ k) 1 λc=>ε W 87 c 0 λc=>ι W n 3 c a λa c=>δ W a 91 (φ k) λi=>ι W a 91 (φ b) i λa i=>aj (ah TE a 91 (φ b)) λb=>R [b] a (min (min (min (min (min (min (min (min (min m.n f) h) j) l) d) g) o) c) i))) (ε W 91 (φ k) 2 λg=>δ W c 3 g λg=>η W .add 3 g (χ 40) λg=>ζ W 85 (φ a) (χ 4) λa=>δ W c 3 a λa=>ψ W 95 [a,χ 20] c λa i n=>(c.n<=n)/\(η W .add 3 g a λa=>η W .rem 3 a (χ 100) λa=>ε W 91 (φ k) 1 λc=>ε W 87 c 0 λc=>ι W i 3 c a λa c=>δ W a 91 (φ k) λg=>ι W a 91 (φ b) g λa g=>aj (ah TE a 91 (φ b)) λb=>R [b] a (min (min (min (min (min (min (min (min m.n f) h) j) l) d) n) c) g))))))) (η W .eql 3 c (χ 4) λg=>bD g (δ W d 60 (φ m) λc=>ζ W 85 (φ a) (χ 1) λg=>δ W d 3 g λg=>ψ W 116 [c,g] d λc g h=>(d.n<=h)/\(ζ W 85 (φ a) (χ 2) λd=>δ W g 3 d λd=>ψ W 95 [d,χ 7] g λd i j=>(g.n<=j)/\(η W .sub 3 d (χ 3) λd=>η W .mul 3 (χ 4) d λd=>ζ W 85 (φ a) (χ 3) λg=>δ W i 3 g λg=>ψ W 95 [g,χ 5] i λg k l=>(i.n<=l)/\(η W .sub 3 g (χ 2) λg=>η W .mul 3 (χ 4) g λg=>θ W 91 [(0,(χ 4)),(2,c),(3,d),(4,g)] λc=>υ W k [χ 0,χ 0,χ 0,χ 0,aeg,χ 0,χ 0,χ 0,χ 0,χ 0,χ 0,χ 0,χ 0,χ 0,aei] 91 λd=>ι W d 91 (φ k) c λc d=>W.jn (λa=>ε W 91 (φ k) 3 λb=>δ W c 3 b λb=>η W .eql 3 b (χ 0) λb=>bD b (ε W 91 (φ k) 4 λb=>δ W c 3 b λb=>η W .eql 3 b (χ 0) λb=>a [b] c (min (min (min (min (min m.n f) h) j) l) d)) (a [aei] c (min (min (min (min (min m.n f) h) j) l) d))) (λc d f=>W.un c λc _=>bD c (ζ W 85 (φ a) (χ 4) λa=>δ W d 3 a λa=>ψ W 95 [a,χ 3] d λa c d=>η W .add 3 (χ 1) a λa=>ε W 91 (φ k) 3 λg=>ι W c 3 g a λa c=>δ W a 91 (φ k) λg=>ι W a 91 (φ b) g λa g=>aj (ah TE a 91 (φ b)) λb=>R [b] a (min (min (min f d) c) g)) (δ W d 91 (φ k) λa=>ι W d 91 (φ b) a λa c=>aj (ah TE a 91 (φ b)) λb=>R [b] a (min f c))))))) (η W .eql 3 c (χ 5) λc=>bD c (ζ W 85 (φ a) (χ 1) λc=>δ W d 3 c λc=>ψ W 95 [c,χ 20] d λc g h=>(d.n<=h)/\(δ W g 60 (φ m) λd=>ζ W 85 (φ a) (χ 2) λi=>δ W g 3 i λi=>ψ W 116 [d,i] g λd i j=>(g.n<=j)/\(ζ W 85 (φ a) (χ 3) λg=>δ W i 3 g λg=>ψ W 95 [g,χ 6] i λg k l=>(i.n<=l)/\(η W .sub 3 g (χ 2) λg=>ζ W 85 (φ a) (χ 4) λi=>δ W k 3 i λi=>ψ W 95 [i,χ 5] k λi n o=>(k.n<=o)/\(η W .add 3 (χ 1) i λi=>ζ W 85 (φ a) (χ 4) λa=>δ W n 3 a λa=>ψ W 95 [a,χ 2] n λa k n=>η W .eql 3 a (χ 0) λa=>θ W 89 [(0,c),(1,d),(2,g),(3,i),(4,a)] λa=>θ W 91 [(0,(χ 5)),(5,a)] λa=>ι W k 91 (φ b) a λa c=>aj (ah TE a 91 (φ b)) λb=>R [b] a (min (min (min (min (min (min (min m.n f) h) j) l) o) n) c)))))) (ζ W 85 (φ a) (χ 2) λc=>δ W d 3 c λc=>ψ W 95 [c,χ 2] d λc g h=>(d.n<=h)/\(η W .add 3 (χ 6) c λc=>ζ W 85 (φ a) (χ 1) λd=>δ W g 3 d λd=>ψ W 95 [d,χ 12] g λd i j=>(g.n<=j)/\(θ W 91 [(0,c),(2,d)] λc=>υ W i [χ 0,χ 0,χ 0,χ 0,aeg,χ 0,χ 0,χ 0,χ 0,χ 0,χ 0,χ 0,χ 0,χ 0,aei] 91 λd=>ι W d 91 (φ i) c λc d=>ε W 60 (φ m) 1 λg=>δ W c 58 g λg=>κ W c .len [58] [g] λg _=>η W .gtr 3 g (χ 0) λg=>bD g (ε W 60 (φ m) 1 λg=>δ W c 58 g λg=>ζ W 85 (φ a) (χ 1) λa=>δ W c 3 a λa=>ε W 60 (φ m) 1 λk=>δ W c 58 k λk=>κ W c .len [58] [k] λk _=>ψ W 95 [a,k] c λa k l=>(c.n<=l)/\(ζ W 58 g a λa=>ε W 89 a 0 λa=>δ W k 3 a λa=>ε W 91 (φ i) 2 λc=>ι W k 3 c a λa c=>δ W a 91 (φ i) λg=>ι W a 91 (φ b) g λa g=>aj (ah TE a 91 (φ b)) λb=>R [b] a (min (min (min (min (min (min (min m.n f) h) j) d) l) c) g))) (δ W c 91 (φ i) λa=>ι W c 91 (φ b) a λa c=>aj (ah TE a 91 (φ b)) λb=>R [b] a (min (min (min (min (min m.n f) h) j) d) c)))))))))):=by kernel_rfl
theorem F42:dm TE W Tryz.f42 [x0,x1] m R=ς W m x0 60 λa=>ς W a x1 91 λb=>υ W b [aeg,aeg] 60 λc=>δ W c 60 (φ m) λd=>ψ W 99 [d] c λc d f=>ο W .not c λc=>bD c (θ W 60 [] λa=>ι W d 60 (φ b) a λa c=>aj (ah TE a 60 (φ b)) λb=>R [b,χ 170] a (min (min m.n f) c)) (δ W d 60 (φ m) λc=>δ W d 91 (φ a) λa=>ψ W 117 [c,a] d λa c d=>ξ W a 0 λg=>ξ W a 1 λa=>ι W c 60 (φ b) g λc g=>aj (ah TE c 60 (φ b)) λb=>R [b,a] c (min (min (min m.n f) d) g)):=by kernel_rfl
theorem F43:dm TE W Tryz.f43 [x0] m R=ς W m x0 91 λa=>δ W a 91 (φ m) λb=>ψ W 118 [b] a λa b c=>ξ W a 0 λd=>ξ W a 1 λa=>υ W b [.nilFunc,.nilFunc,.nilFunc,.nilFunc,.nilFunc] 186 λf=>ι W f 186 (φ b) d λd f=>ο W .not a λa=>bD a (R [aeg,aeg] d (min (min m.n c) f)) (ε W 186 (φ b) 1 λa=>δ W d 95 a λa=>δ W d 91 (φ m) λb=>jN a λa g h=>W.bt a (g.toList++([b]++h.toList)) d λa b d=>ξ W a 0 λg=>ξ W a 1 λa=>R [g,a] b (min (min (min m.n c) f) d)):=by kernel_rfl
theorem Zz:dm TE W Tryz.f118 [x0] m R=ς W m x0 91 λa=>υ W a [.nilFunc,.nilFunc,.nilFunc,.nilFunc,.nilFunc] 186 λb=>ψ W 177 [] b λc d f=>(b.n<=f)/\(ε W 91 (φ m) 0 λb=>δ W d 3 b λb=>W.aj (dn TE d 260 c b true) λb=>ξ W b 0 λc=>ξ W b 1 λb=>υ W d [.nilFunc,.nilFunc,.nilFunc,.nilFunc,.nilFunc] 186 λg=>ι W g 186 (φ d) c λc g=>bD b (W.jn (λb=>δ W c 186 (φ d) λh=>ε W 186 (φ d) 0 λd=>δ W c 181 d λd=>δ W c 91 (φ m) λi=>jN d λd j k=>W.bt d (j.toList++([i]++k.toList)) c λd i j=>(c.n<=j)/\(bD d (ε W 91 (φ m) 5 λc=>δ W i 89 c λd=>θ W 89 [] λk=>η W .eql 89 d k λd=>ι W i 186 (φ a) h λa h=>((i.n<=h)\/(gM (some (.v c)) h/\True))/\(b [d] a (min (min (min (min m.n f) g) j) h))) (ι W i 186 (φ a) h λa c=>((i.n<=c)\/(True/\True))/\(b [aei] a (min (min (min (min m.n f) g) j) c))))) (λb c d=>W.un b λb _=>aj (ah TE c 186 (φ a)) λa=>R [a,b] c d)) (ψ W 178 [] c λb h i=>(c.n<=i)/\(ε W 91 (φ m) 0 λc=>δ W h 3 c λc=>W.aj (dn TE h 260 b c true) λb=>ξ W b 0 λc=>ξ W b 1 λb=>ι W h 186 (φ d) c λc h=>W.jn (λj=>δ W c 186 (φ d) λk=>bD b (ε W 186 (φ d) 0 λb=>δ W c 181 b λb=>δ W c 91 (φ m) λd=>jN b λb l n=>W.bt b (l.toList++([d]++n.toList)) c λb d l=>(c.n<=l)/\(bD b (ε W 91 (φ m) 0 λb=>δ W d 3 b λb=>η W .eql 3 b (χ 5) λb=>bD b (ι W d 186 (φ a) k λa b=>((d.n<=b)\/(True/\True))/\(j [aeh] a (min (min (min (min (min (min m.n f) g) i) h) l) b))) (ε W 91 (φ m) 5 λb=>δ W d 89 b λc=>θ W 89 [] λn=>η W .eql 89 c n λc=>ι W d 186 (φ a) k λa k=>((d.n<=k)\/(gM (some (.v b)) k/\True))/\(j [c] a (min (min (min (min (min (min m.n f) g) i) h) l) k)))) (ι W d 186 (φ a) k λa b=>((d.n<=b)\/(True/\True))/\(j [aei] a (min (min (min (min (min (min m.n f) g) i) h) l) b))))) (ι W c 186 (φ a) k λa b=>((c.n<=b)\/(True/\True))/\(j [aei] a (min (min (min (min (min m.n f) g) i) h) b)))) (λb c d=>W.un b λb _=>aj (ah TE c 186 (φ a)) λa=>R [a,b] c d)))):=by kernel_rfl
theorem Zb:dm TE W Tryz.f177 [] m R=W.bZ (M.push m (.map [] 0)) λa=>θ W 186 [(0,(.func (.func 238) #[] #[])),(1,(.func (.func 239) #[] #[])),(2,(.func (.func 241) #[] #[])),(3,(.func (.func 243) #[] #[])),(4,(.func (.func 244) #[] #[]))] λb=>W.aT (fN TE a 260 (.map (some m.n)) (χ 1) b) λa b=>θ W 186 [(0,(.func (.func 247) #[] #[])),(1,(.func (.func 250) #[] #[])),(2,(.func (.func 251) #[] #[])),(3,(.func (.func 254) #[] #[])),(4,(.func (.func 258) #[] #[]))] λc=>W.aT (fN TE a 260 (.map (some m.n)) (χ 2) c) λa c=>θ W 186 [(0,(.func (.func 260) #[] #[])),(1,(.func (.func 262) #[] #[])),(2,(.func (.func 263) #[] #[])),(4,(.func (.func 265) #[] #[]))] λd=>W.aT (fN TE a 260 (.map (some m.n)) (χ 3) d) λa d=>θ W 186 [(0,(.func (.func 266) #[] #[])),(1,(.func (.func 267) #[] #[])),(2,(.func (.func 268) #[] #[])),(3,(.func (.func 270) #[] #[])),(4,(.func (.func 271) #[] #[]))] λf=>W.aT (fN TE a 260 (.map (some m.n)) (χ 4) f) λa f=>R [.map (some m.n)] a (min (min (min (min m.n b) c) d) f):=by kernel_rfl
theorem Za:dm TE W Tryz.f178 [] m R=W.bZ (M.push m (.map [] 0)) λa=>θ W 186 [(0,(.func (.func 275) #[] #[])),(1,(.func (.func 276) #[] #[])),(2,(.func (.func 277) #[] #[])),(4,(.func (.func 281) #[] #[]))] λb=>W.aT (fN TE a 260 (.map (some m.n)) (χ 5) b) λa b=>θ W 186 [(0,(.func (.func 272) #[] #[])),(1,(.func (.func 273) #[] #[])),(4,(.func (.func 274) #[] #[])),(2,(.func (.func 282) #[] #[])),(3,(.func (.func 284) #[] #[]))] λc=>W.aT (fN TE a 260 (.map (some m.n)) (χ 6) c) λa c=>θ W 186 [(0,(.func (.func 272) #[] #[])),(1,(.func (.func 273) #[] #[])),(4,(.func (.func 274) #[] #[])),(2,(.func (.func 285) #[] #[])),(3,(.func (.func 286) #[] #[]))] λd=>W.aT (fN TE a 260 (.map (some m.n)) (χ 7) d) λa d=>R [.map (some m.n)] a (min (min (min m.n b) c) d):=by kernel_rfl
theorem Zd:dm TE W Tryz.f175 [x0] m R=ς W m x0 60 λa=>υ W a [aeg,aeg] 60 λb=>ε W 60 (φ m) 1 λc=>δ W b 58 c λc=>ψ W 237 [c] b λb c d=>θ W 60 [(1,b)] λb=>υ W c [aeg,aeg] 60 λf=>ι W f 60 (φ c) b λb f=>ε W 60 (φ m) 0 λg=>ε W 31 g 0 λg=>δ W b 29 g λg=>κ W b .len [29] [g] λh _=>W.Lp (λb d f i=>W.un d λd _=>η W .lss 3 d h λh=>bD h (ζ W 29 g d λa=>δ W f 87 a λa=>υ W f [χ 0,χ 0,χ 0,aeg,χ 0,χ 0] 87 λg=>ι W g 87 (φ f) a λa g=>ε W 87 (φ f) 3 λh=>δ W a 45 h λh=>ψ W 155 [h] a λa h j=>ε W 87 (φ f) 3 λk=>ι W h 45 k a λa h=>ε W 60 (φ c) 0 λk=>ε W 31 k 0 λk=>δ W a 29 k λk=>δ W a 87 (φ f) λf=>ν W a 29 1 [(0,f)] λa f=>κ W (M.wl f f.n) .append [29,29] [k,a] λa f=>ε W 60 (φ c) 0 λc=>ε W 31 c 0 λc=>ι W f 29 c a λa c=>η W .add 3 d (χ 1) λd=>b [d] a (min (min (min (min (min i g) j) h) (M.low f)) c)) (δ W f 60 (φ c) λb=>ι W f 60 (φ a) b λb c=>aj (ah TE b 60 (φ a)) λa=>R [a] b (min i c))) [χ 0] b (min (min m.n d) f):=by kernel_rfl
end
end
section
section
variable {W:Words}{x0 x1 x2 x3 x4 x5 x6 x7:aed}{m:M}{R RP:aee->M->Nat->Prop}{CP:Fn->aee->M->(M->Nat->Prop)->Prop}
theorem YR:dm TE W Tryz.f238 [x0] m R=ς W m x0 91 λa=>W.jn (λb=>ε W 91 (φ m) 1 λc=>δ W a 87 c λc=>ψ W 120 [c] a λa c d=>bD a (ε W 91 (φ m) 2 λa=>δ W c 3 a λa=>η W .eql 3 a (χ 0) λa=>bD a (ε W 91 (φ m) 3 λa=>δ W c 3 a λa=>η W .eql 3 a (χ 0) λa=>bD a (ε W 91 (φ m) 4 λa=>δ W c 3 a λa=>η W .eql 3 a (χ 0) λa=>b [a] c (min m.n d)) (b [aei] c (min m.n d))) (b [aei] c (min m.n d))) (b [aei] c (min m.n d))) (λa b c=>W.un a λa _=>R [a] b c):=by kernel_rfl
theorem YQ:dm TE W Tryz.f239 [x0] m R=ς W m x0 91 λa=>ε W 91 (φ m) 1 λb=>ε W 87 b 0 λb=>δ W a 3 b λb=>ψ W 240 [b] a λa b c=>R [a,aeg] b (min m.n c):=by kernel_rfl
theorem YO:dm TE W Tryz.f241 [x0,x1] m R=ς W m x1 91 λa=>ε W 91 (φ m) 1 λb=>δ W a 87 b λb=>ψ W 242 [x0,b] a λ_ a b=>R [] a (min m.n b):=by kernel_rfl
theorem YM:dm TE W Tryz.f247 [x0] m R=ς W m x0 91 λa=>W.jn (λb=>ε W 91 (φ m) 2 λc=>δ W a 3 c λc=>ψ W 248 [c] a λa c d=>bD a (ε W 91 (φ m) 3 λa=>δ W c 3 a λa=>η W .eql 3 a (χ 0) λa=>bD a (ε W 91 (φ m) 4 λa=>δ W c 3 a λa=>η W .eql 3 a (χ 0) λa=>bD a (ε W 91 (φ m) 1 λa=>δ W c 87 a λa=>ψ W 249 [a] c λa c f=>bD a (ε W 91 (φ m) 1 λa=>ε W 87 a 0 λa=>δ W c 3 a λa=>η W .eql 3 a (χ 0) λa=>b [a] c (min (min m.n d) f)) (b [aei] c (min (min m.n d) f))) (b [aei] c (min m.n d))) (b [aei] c (min m.n d))) (b [aei] c (min m.n d))) (λa b c=>W.un a λa _=>R [a] b c):=by kernel_rfl
theorem YJ:dm TE W Tryz.f250 [x0] m R=ς W m x0 91 λa=>ε W 91 (φ m) 2 λb=>δ W a 3 b λb=>ψ W 240 [b] a λa b c=>R [a,aeg] b (min m.n c):=by kernel_rfl
theorem YI:dm TE W Tryz.f251 [x0,x1] m R=ς W m x1 91 λa=>ε W 91 (φ m) 2 λb=>δ W a 3 b λb=>ψ W 252 [x0,b] a λ_ a b=>ε W 91 (φ m) 2 λc=>δ W a 3 c λc=>ψ W 253 [x0,c] a λ_ a c=>R [] a (min (min m.n b) c):=by kernel_rfl
theorem YE:dm TE W Tryz.f260 [x0] m R=ς W m x0 91 λa=>W.jn (λb=>ε W 91 (φ m) 2 λc=>δ W a 3 c λc=>ψ W 248 [c] a λa c d=>bD a (ε W 91 (φ m) 1 λa=>ε W 87 a 0 λa=>δ W c 3 a λa=>ψ W 248 [a] c λa c f=>bD a (ε W 91 (φ m) 2 λa=>δ W c 3 a λa=>ε W 91 (φ m) 1 λg=>ε W 87 g 0 λg=>δ W c 3 g λg=>η W .neq 3 a g λa=>bD a (ε W 91 (φ m) 1 λa=>δ W c 87 a λa=>ψ W 249 [a] c λa c g=>bD a (ε W 91 (φ m) 3 λa=>δ W c 3 a λa=>ψ W 261 [a,χ 0,χ 7] c λa c h=>bD a (ε W 91 (φ m) 4 λa=>δ W c 3 a λa=>ψ W 261 [a,χ 0,χ 7] c λa c i=>bD a (ε W 91 (φ m) 3 λa=>δ W c 3 a λa=>ε W 91 (φ m) 4 λj=>δ W c 3 j λj=>η W .neq 3 a j λa=>b [a] c (min (min (min (min (min m.n d) f) g) h) i)) (b [aei] c (min (min (min (min (min m.n d) f) g) h) i))) (b [aei] c (min (min (min (min m.n d) f) g) h))) (b [aei] c (min (min (min m.n d) f) g))) (b [aei] c (min (min m.n d) f))) (b [aei] c (min (min m.n d) f))) (b [aei] c (min m.n d))) (λa b c=>W.un a λa _=>R [a] b c):=by kernel_rfl
theorem YC:dm TE W Tryz.f262 [x0] m R=ς W m x0 91 λa=>ε W 91 (φ m) 2 λb=>δ W a 3 b λb=>ε W 91 (φ m) 1 λc=>ε W 87 c 0 λc=>δ W a 3 c λc=>κ W a .min [3,3] [b,c] λb _=>ε W 91 (φ m) 2 λc=>δ W a 3 c λc=>ε W 91 (φ m) 1 λd=>ε W 87 d 0 λd=>δ W a 3 d λd=>κ W a .max [3,3] [c,d] λc _=>ν W a 25 2 [(0,b),(1,c)] λa b=>R [a,aeg] b m.n:=by kernel_rfl
theorem YB:dm TE W Tryz.f263 [x0,x1] m R=ς W m x1 91 λa=>ε W 91 (φ m) 2 λb=>δ W a 3 b λb=>ψ W 257 [x0,b] a λa b c=>υ W b [χ 0,χ 0,χ 0,aeg,χ 0,χ 0] 87 λd=>ι W d 87 (φ b) a λa d=>δ W a 87 (φ b) λf=>υ W a [χ 0,χ 0,χ 0,aeg,χ 0,χ 0] 87 λg=>ι W g 87 (φ a) f λf g=>ε W 87 (φ b) 3 λh=>δ W f 45 h λh=>ε W 91 (φ m) 3 λi=>δ W f 3 i λi=>ε W 91 (φ m) 4 λj=>δ W f 3 j λj=>ψ W 264 [h,i,j] f λf h i=>ξ W f 0 λj=>ξ W f 1 λk=>ξ W f 2 λf=>ε W 87 (φ b) 3 λl=>ι W h 45 l j λh j=>ε W 87 (φ a) 3 λl=>ι W h 45 l k λh k=>η W .eql 35 f (χ 0) λf=>ψ W 176 [f] h λ_ f h=>ε W 91 (φ m) 1 λl=>ε W 87 l 0 λl=>δ W f 3 l λl=>ε W 87 (φ a) 0 λn=>ι W f 3 n l λf l=>ε W 91 (φ m) 2 λn=>δ W f 3 n λn=>ψ W 252 [x0,n] f λ_ f n=>ε W 91 (φ m) 2 λo=>δ W f 3 o λo=>ψ W 253 [x0,o] f λ_ f o=>δ W f 87 (φ b) λb=>ψ W 242 [x0,b] f λ_ b f=>δ W b 87 (φ a) λa=>ψ W 242 [x0,a] b λ_ a b=>R [] a (min (min (min (min (min (min (min (min (min (min (min (min m.n c) d) g) i) j) k) h) l) n) o) f) b):=by kernel_rfl
theorem Yz:dm TE W Tryz.f266 [x0] m R=ς W m x0 91 λa=>W.jn (λb=>ε W 91 (φ m) 2 λc=>δ W a 3 c λc=>ψ W 248 [c] a λa c d=>bD a (ε W 91 (φ m) 3 λa=>δ W c 3 a λa=>ψ W 261 [a,χ (-40),χ 40] c λa c f=>bD a (ε W 91 (φ m) 4 λa=>δ W c 3 a λa=>ψ W 261 [a,χ (-40),χ 40] c λa c g=>bD a (ε W 91 (φ m) 3 λa=>δ W c 3 a λa=>η W .neq 3 a (χ 0) λa=>bD a (ε W 91 (φ m) 1 λa=>δ W c 87 a λa=>ψ W 249 [a] c λa c h=>bD a (ε W 91 (φ m) 1 λa=>ε W 87 a 0 λa=>δ W c 3 a λa=>η W .eql 3 a (χ 0) λa=>b [a] c (min (min (min (min m.n d) f) g) h)) (b [aei] c (min (min (min (min m.n d) f) g) h))) (ε W 91 (φ m) 4 λa=>δ W c 3 a λa=>η W .neq 3 a (χ 0) λa=>bD a (ε W 91 (φ m) 1 λa=>δ W c 87 a λa=>ψ W 249 [a] c λa c h=>bD a (ε W 91 (φ m) 1 λa=>ε W 87 a 0 λa=>δ W c 3 a λa=>η W .eql 3 a (χ 0) λa=>b [a] c (min (min (min (min m.n d) f) g) h)) (b [aei] c (min (min (min (min m.n d) f) g) h))) (b [aei] c (min (min (min m.n d) f) g)))) (b [aei] c (min (min (min m.n d) f) g))) (b [aei] c (min (min m.n d) f))) (b [aei] c (min m.n d))) (λa b c=>W.un a λa _=>R [a] b c):=by kernel_rfl
theorem Yy:dm TE W Tryz.f267 [x0] m R=ς W m x0 91 λa=>ε W 91 (φ m) 2 λb=>δ W a 3 b λb=>ψ W 240 [b] a λa b c=>R [a,aeg] b (min m.n c):=by kernel_rfl
theorem Yx:dm TE W Tryz.f268 [x0,x1] m R=ς W m x1 91 λa=>ε W 91 (φ m) 2 λb=>δ W a 3 b λb=>ψ W 257 [x0,b] a λb c d=>(a.n<=d)/\(ε W 91 (φ m) 3 λa=>δ W c 3 a λa=>ε W 91 (φ m) 4 λf=>δ W c 3 f λf=>ψ W 269 [b,a,f] c λa b f=>(c.n<=f)/\(ξ W a 0 λc=>ξ W a 1 λa=>υ W b [χ 0,χ 0,χ 0,aeg,χ 0,χ 0] 87 λg=>ι W g 87 (φ b) c λc g=>η W .eql 35 a (χ 0) λa=>ψ W 176 [a] c λ_ a c=>ε W 91 (φ m) 2 λh=>δ W a 3 h λh=>ψ W 252 [x0,h] a λ_ a h=>δ W a 87 (φ b) λb=>ψ W 242 [x0,b] a λ_ a b=>R [] a (min (min (min (min (min (min m.n d) f) g) c) h) b))):=by kernel_rfl
theorem Yv:dm TE W Tryz.f272 [x0] m R=ς W m x0 91 λa=>W.jn (λb=>ε W 91 (φ m) 2 λc=>δ W a 3 c λc=>ψ W 261 [c,χ 0,χ 99] a λa c d=>bD a (ε W 91 (φ m) 3 λa=>δ W c 3 a λa=>η W .eql 3 a (χ 0) λa=>bD a (ε W 91 (φ m) 4 λa=>δ W c 3 a λa=>η W .eql 3 a (χ 0) λa=>bD a (ε W 91 (φ m) 1 λa=>δ W c 87 a λa=>ψ W 249 [a] c λa c f=>bD a (ε W 91 (φ m) 1 λa=>ε W 87 a 0 λa=>δ W c 3 a λa=>η W .eql 3 a (χ 0) λa=>b [a] c (min (min m.n d) f)) (b [aei] c (min (min m.n d) f))) (b [aei] c (min m.n d))) (b [aei] c (min m.n d))) (b [aei] c (min m.n d))) (λa b c=>W.un a λa _=>R [a] b c):=by kernel_rfl
theorem Yu:dm TE W Tryz.f273 [x0] m R=ς W m x0 91 λa=>ε W 91 (φ m) 2 λb=>δ W a 3 b λb=>ψ W 240 [b] a λa b c=>R [aeg,a] b (min m.n c):=by kernel_rfl
theorem Yt:dm TE W Tryz.f275 [x0] m R=ς W m x0 91 λa=>W.jn (λb=>ε W 91 (φ m) 5 λc=>δ W a 89 c λc=>ψ W 210 [c] a λa c d=>bD a (ε W 91 (φ m) 2 λa=>δ W c 3 a λa=>η W .eql 3 a (χ 0) λa=>bD a (ε W 91 (φ m) 3 λa=>δ W c 3 a λa=>η W .eql 3 a (χ 0) λa=>bD a (ε W 91 (φ m) 4 λa=>δ W c 3 a λa=>η W .eql 3 a (χ 0) λa=>bD a (ε W 91 (φ m) 1 λa=>δ W c 87 a λa=>ψ W 249 [a] c λa c f=>bD a (ε W 91 (φ m) 1 λa=>ε W 87 a 0 λa=>δ W c 3 a λa=>η W .eql 3 a (χ 0) λa=>b [a] c (min (min m.n d) f)) (b [aei] c (min (min m.n d) f))) (b [aei] c (min m.n d))) (b [aei] c (min m.n d))) (b [aei] c (min m.n d))) (b [aei] c (min m.n d))) (λa b c=>W.un a λa _=>R [a] b c):=by kernel_rfl
theorem Ys:dm TE W Tryz.f276 [x0] m R=ς W m x0 91 λa=>ε W 91 (φ m) 5 λb=>ε W 89 b 1 λb=>δ W a 3 b λb=>ψ W 240 [b] a λb c d=>(a.n<=d)/\(ε W 91 (φ m) 5 λa=>ε W 89 a 0 λa=>δ W c 3 a λa=>ψ W 240 [a] c λa c f=>R [b,a] c (min (min m.n d) f)):=by kernel_rfl
theorem Yr:dm TE W Tryz.f277 [x0,x1] m R=ς W m x1 91 λa=>aj (cP x0) λb=>ε W 258 b 0 λb=>ε W 60 b 1 λb=>δ W a 58 b λb=>ε W 91 (φ m) 5 λc=>ε W 89 c 0 λc=>δ W a 3 c λc=>ψ W 278 [b,c,.func (.func 279) #[] #[]] a λa b c=>ξ W a 0 λd=>ξ W a 1 λa=>ο W .not a λa=>ψ W 176 [a] b λ_ a b=>aj (cP x0) λf=>ε W 258 f 0 λf=>ε W 60 f 1 λf=>δ W a 58 f λf=>ε W 91 (φ m) 5 λg=>δ W a 89 g λg=>ν W a 58 1 [(0,g)] λa g=>ψ W 280 [f,d,a] g λa d f=>aj (cP x0) λg=>ε W 258 g 0 λg=>ε W 60 g 1 λg=>ι W d 58 g a λa d=>R [] a (min (min (min (min m.n c) b) f) d):=by kernel_rfl
theorem Yo:dm TE W Tryz.f282 [x0,x1] m R=ς W m x1 91 λa=>ε W 91 (φ m) 2 λb=>δ W a 3 b λb=>ψ W 283 [x0,b,aei] a λ_ a b=>R [] a (min m.n b):=by kernel_rfl
theorem Ym:dm TE W Tryz.f285 [x0,x1] m R=ς W m x1 91 λa=>ε W 91 (φ m) 2 λb=>δ W a 3 b λb=>ψ W 283 [x0,b,aeh] a λ_ a b=>R [] a (min m.n b):=by kernel_rfl
theorem Yq:dm TE W Tryz.f279 [x0,x1] m R=ς W m x0 89 λa=>ε W 89 (φ m) 0 λb=>δ W a 3 b λb=>ψ W 186 [b,x1] a λa b c=>R [a] b (min m.n c):=by kernel_rfl
end
end
section
variable {X:aG} {m:M}
def jU{α:Type}[aP α](n1:Nat)(m:M)(l:List α)(v:aed):Prop:=
 Ow n1 m l v\/(l=[]/\∃b,v=.slice (some ⟨b,0,none⟩) 0 0/\n1<=b/\m.get b=.cells [] (aP.ty α) none)
section
variable {α:Type} [aP α]
theorem jU.sl{n1:Nat}{l:List α}{v:aed}(h:jU n1 m l v):Sl m l v:=by
 rcases h with h |⟨rfl,b,rfl,H,F⟩;·exact h.sl
 exact .inr ⟨b,0,0,[],none,rfl,F,by simp,λi x hi=>by simp at hi⟩
theorem jU.aD{n1:Nat}{m':M}{l:List α}{v:aed}(h:jU n1 m l v)(F:Ext m m'):jU n1 m' l v:=
 h.imp (λh=>h.aD F) λ⟨H,b,h2,h3,h4⟩=>⟨H,b,h2,h3,F.cells h4⟩
theorem jU.mono{n1 n2:Nat}{l:List α}{v:aed}(h:jU n1 m l v)(F:n2<=n1):jU n2 m l v:=
 h.imp (λh=>h.mono F) λ⟨H,b,h2,h3,h4⟩=>⟨H,b,h2,by omega,h4⟩
theorem jU.FA{n1:Nat}{m':M}{l:List α}{v:aed}(ht:aP.fx α=[])(h:jU n1 m l v)(F:∀c,n1<=c->c < m.n->m'.get c=m.get c):jU n1 m' l v:=
 h.imp (λh=>h.FA ht F) λ⟨h1,b,h2,H,h4⟩=>⟨h1,b,h2,H,by rw[F b H (M.aL h4),h4]⟩
theorem CK{T:TypeId}(hT:AF TE T α){a0 a:Addr}{c:Nat}:av TE (m.wl m.n) .append [T,T] [.slice (some a0) 0 0,.slice (some a) 0 c]=some (.slice (some a0) 0 0,m.wl m.n):=by
 obtain⟨F,H,t1,t2,t3,t4,t5,t6⟩:=hT;have b0:=aP.pos (α:=α)
 have c1:Nat.beq F.es 0=false:=by
  cases hb:Nat.beq F.es 0 with
  |false=>rfl
  |true=>have:=aab hb;omega
 have c2:Nat.blt 65536 H.bytes=false:=by
  cases hb:Nat.blt 65536 H.bytes with
  |false=>rfl
  |true=>rw[abZ]at hb;omega
 have hf:first? (m.wl m.n) F.es 0 (.slice (some a) 0 c)=some []:=rfl
 have hc:(Nat.beq F.es 0 ||Nat.blt 65536 H.bytes || !([]:aee).all D.one ||Nat.blt 268435456 (0+0) || !Nat.beq ([]:aee).length (0*F.es) || !fL H.zero F.es)=false:=by
  have c4:Nat.beq ([]:aee).length (0*F.es)=true:=by rw[ab0];rfl
  rw[c1,c2,c4,t3,t6];rfl
 simp only[av,dQ,t1,t2,t4,iS,hf];rw[hc];rfl
abbrev WK(T:TypeId)(W:Words)(x0:aed)(m:M)(R:aee->M->Nat->Prop):Prop:=
(W.aj (aw TE .eql T x0 (.slice none 0 0)) λv1=>(bD v1
(R [.slice none 0 0] m (M.n m))
(W.aT (aK TE m T 0 []) λv2 F=>(W.aT (av TE (M.wl F (M.n F)) .append [T,T] [v2,x0]) λv4 H=>(R [v4] H (min (M.n m) (M.low H)))))))
theorem CB{T:TypeId}(hT:AF TE T α){f:Nat}{fn:Func}(hX:IQ X f)(hf:TE.fn.get f=some fn)(hn:Nat.ble 1 fn.ntmps=true)
  (hF:∀{W:Words} {x0:aed} {m:M} {R:aee->M->Nat->Prop},dm TE W fn [x0] m R=WK T W x0 m R)
  (h1:aw TE .eql T aeg aeg=some aeh) (h2:∀a n c,aw TE .eql T (.slice (some a) n c) aeg=some aei)
  (h3:∀m:M,aK TE m T 0 []=some (aec m.n 0 0 0,m.push (.cells [] (aP.ty α) none)))
  {l:List α} {v:aed} (hl:Sl m l v) (hs:l.length<=1000000):∃v' m',C X (.func f) [v] m m.n v' m'/\Ext m m'/\jU m.n m' l v':=by
 have key:∃v' m' b,C X (.func f) [v] m b v' m'/\b=m.n/\Ext m m'/\jU m.n m' l v':=by
  refine Cl.gen (R:=λv' m' b=>b=m.n/\Ext m m'/\jU m.n m' l v') hX hf hn ?_;rw[hF];dsimp only[WK,aI];rcases hl with⟨rfl,rfl⟩ |⟨b,o,c,bc,g,rfl,hb,hlen,d0⟩
  ·rw[h1,ae,an,bU];exact .inl ⟨rfl,Ξ _,rfl,.refl,.inl Ow.nil⟩
  have hl:Sl m l (aec b o l.length c):=.inr ⟨b,o,c,bc,g,rfl,hb,hlen,d0⟩;rw[h2,ae,an,aM,h3,aE];have F:Ext m (m.push (.cells [] (aP.ty α) none)):=Ext.refl.push;by_cases H:l=[]
  ·subst H;rw[abc,CK hT,aE];exact .inr ⟨.inl rfl,by show min m.n _=m.n;simp[M.uN,M.qd],F.wl,.inr ⟨rfl,m.n,rfl,Ξ _,M.bJ⟩⟩
  obtain⟨v',m1,e1,a0,he,b0⟩:=lO (m:=m.push (.cells [] (aP.ty α) none)) hT (b:=m.n) M.bJ (hl.aD F) H hs;rw[e1,aE];have e0:=a0.flat H;rw[M.qd]at b0;exact .inr ⟨.inl e0,by omega,F.trans he,.inl (a0.mono (by rw[M.qd];omega))⟩
 obtain⟨v',m',b,hc,rfl,h⟩:=key;exact⟨v',m',hc,h⟩
end
theorem To{W:Words}{x0:aed}{m:M}{R:aee->M->Nat->Prop}:dm TE W Tryz.f237 [x0] m R=WK 58 W x0 m R:=by kernel_rfl
theorem Tn{W:Words}{x0:aed}{m:M}{R:aee->M->Nat->Prop}:dm TE W Tryz.f379 [x0] m R=WK 29 W x0 m R:=by kernel_rfl
theorem Es(F:cV X){l:List Mk}{v:aed}(H:Sl m l v)(hs:l.length<=1000000):∃v' m',C X (.func 237) [v] m m.n v' m'/\Ext m m'/\jU m.n m' l v':=
 CB Aw (F.no _ rfl) Sa rfl To (by kernel_rfl) (λ_ _ _=>by kernel_rfl) (λ_=>by kernel_rfl) H hs
theorem Er(F:cV X){l:List UW}{v:aed}(H:Sl m l v)(hs:l.length<=1000000):∃v' m',C X (.func 379) [v] m m.n v' m'/\Ext m m'/\jU m.n m' l v':=
 CB tf (F.no _ rfl) Rt rfl Tn (by kernel_rfl) (λ_ _ _=>by kernel_rfl) (λ_=>by kernel_rfl) H hs
structure PD(S n1:Nat)(mm:M)(acc:List UW)(ms:List Mk)(r vm:aed):Prop where
 cell:mm.get S=.cells [r,vm] 60 none
 ow:Ow (S+1) mm acc r
 sh:∀x∈acc,Sl mm x.u.shape x.w
 ln:∀x∈acc,x.u.shape.length < 1000000
 Xy:jU n1 mm ms vm
theorem PD.WJ{S n1:Nat}{F:M}{acc:List UW}{ms:List Mk}{r H:aed}(h:PD S n1 F acc ms r H):cJ F acc r:=
 ⟨h.ow.sl,h.sh,h.ln,by
  rcases h.ow with⟨_,h⟩ |⟨b,cs,h1,h2,h3,h4,h5,h6⟩
  ·exact .inl h
  ·exact .inr ⟨b,0,_,cs,_,h1,Ξ _,h4,.inr rfl⟩⟩
theorem qK(hX:cV X){l:List UW}{ms:List Mk}{r vm:aed}(hF:cJ m l r)(p1:∀x∈l,x.u.shape≠ [])(K1:l.length<=1000)(hm:Sl m ms vm)(r1:ms.length<=1000000):
  ∃r' F m' l',C X (.func 175) [.agg #[r,vm]] m m.n (.agg #[r',F]) m'/\Ext m m'/\bR l'=bR l/\cJ m' l' r'/\jU m.n m' ms F:=by
 have key:=Cl.gen (E:=TE) (X:=X) (f:=175) (args:=[.agg #[r,vm]]) (m:=m) (R:=λv' m' b=>b=m.n/\∃r' F l',v'=.agg #[r',F]/\Ext m m'/\bR l'=bR l/\cJ m' l' r'/\jU m.n m' ms F) (hX.no _ rfl) Sr rfl ?_
 ·obtain⟨v',m',b,hc,rfl,r',F,l',rfl,h1,h2,h3,h4⟩:=key;exact⟨r',F,m',l',hc,h1,h2,h3,h4⟩
 rw[Zd];dsimp only[aI,δ,ε,ζ,η,θ,ι,κ,ν,ς,υ,φ,χ,ψ];refine au λm1 V1 s1 u1=>?_;refine au λm2 X1 v1 M0=>?_;have E0:Ext m m2:=⟨by omega,λc hc=>by rw[M0 c (by omega),u1 c hc]⟩
 have g1:m2.get m.n=.cells [r,vm] 60 none:=by rw[M0 _ (by omega)];exact s1
 have g2:m2.get m1.n=.cells [aeg,aeg] 60 none:=v1;unfold ptrTo;rw[bX,ae,pj,aF g1];simp only[aaq,aad,aah,ae];obtain⟨F,m6,w1,s0,u0⟩:=Es (m:=m2) hX (hm.aD E0) r1;refine az w1 ?_;have L1:=s0.n;have k0:one F=true:=u0.sl.one;obtain⟨am,cm,z1⟩:=u0.sl.form;have N0:aR TE 60 [(1,F)]=some (.agg #[aeg,F]):=by rw[z1];exact EB rfl
 rw[N0,ae];refine au λm9 Y1 A1 B1=>?_;refine aC EU A1 rfl rfl (by show(true && (one F && true))=true;rw[k0];rfl) λv0 N1 O0 P0=>?_;have g10:v0.get m6.n=.cells [aeg,F] 60 none:=O0;have e0:Ext m6 v0:=⟨by omega,λc hc=>by rw[P0 c (by omega),B1 c hc]⟩
 have Q0:=(E0.trans s0).trans e0;have O1:=E0.n;have G1:=e0.cells (s0.cells g1);rw[bK,ae,bu,ae,eJ,aF G1];simp only[aaq,aad,ae];rw[(hF.sl.aD Q0).len eg,aE];refine Lp.nc (γ:=Nat) (λi=>l.length-i) (λi vs mm lo=>∃acc r',vs=[.int .i64 i]/\i<=l.length/\bR acc=(bR l).take i/\PD m6.n m2.n mm acc ms r' F/\(∀c,c < m6.n->mm.get c=v0.get c)/\v0.n<=mm.n/\m.n<=lo) 0 ⟨[],_,rfl,aaQ _,rfl,⟨g10,Ow.nil,λx hx=>(by cases hx),λx hx=>(by cases hx),u0.aD e0⟩,λ_ _=>rfl,Ξ _,by omega⟩ ?_;rintro i vs mm lo ⟨acc,r',rfl,hi,l0,hS,hk,a2,c2⟩ P hP;have F0:Ext m mm:=⟨by omega,λc hc=>by rw[hk c (by omega),Q0.get c hc]⟩
 have P1:acc.length=i:=by have:=congrArg List.length l0;rw[dE,aap,dE]at this;omega
 rw[aH,aX,ae,an];refine aq (λz0=>?_) (λC1=>?_)
 ·have z0:i < l.length:=by simpa using z0
  obtain⟨x,hx⟩:∃x,l[i]?=some x:=⟨_,Φ z0⟩
  have d0:=aac hx;obtain⟨a,e1,e2,k0⟩:=(hF.sl.aD F0).mI (k:=.i64) hx;rw[e1,ae,e2,ae];refine au λd2 Q1 S0 T0=>?_;refine aC ep S0 rfl rfl (Un.eN k0) λG0 S1 U0 V0=>?_;have C0:Ext mm G0:=⟨by omega,λc hc=>by rw[V0 c (by omega),T0 c hc]⟩
  have gu:G0.get mm.n=.cells x.c 87 none:=U0;obtain⟨-, -, -,l3, -, -⟩:=pV gu;rw[bA,ae,l3,ae];obtain⟨w',i2,X0,b0,o0⟩:=ij (m:=G0) hX ((hF.sh x d0).aD (F0.trans C0)) (p1 x d0) (by have:=hF.ln x d0;omega);refine az X0 ?_;have n31:=o0.n;have o7:one w'=true:=b0.sl.one;have Y0:=o0.cells gu;rw[ae];refine bW kG Y0 (by rw[b0.sl.cells];rfl) (by rw[b0.sl.cells];show 3+1<=6;omega) (by rw[b0.sl.cells];simp[o7]) λH T1 a1 D0=>?_;have D1:H.get mm.n=.cells (x.u.c w') 87 none:=by rw[a1,b0.sl.cells];rfl
  have q0:∀c,c < mm.n->H.get c=mm.get c:=λc hc=>by rw[D0 c (by omega),o0.get c (by omega),C0.get c hc]
  have g0:Ext mm H:=⟨by omega,q0⟩
  have a0:PD m6.n m2.n H acc ms r' F:=⟨g0.cells hS.cell,hS.ow.aD g0,λy hy=>(hS.sh y hy).aD g0,hS.ln,hS.Xy.aD g0⟩
  have c1:Sl H x.u.shape w':=b0.sl.bH λb c t g hb ht=>by
   have h1:b≠mm.n:=λe=>by subst e;rw[Y0]at hb;cases hb;simp[aP.ty,aP.fx]at ht
   rw[D0 b h1,hb]
  rw[bK,ae,bu,ae,eJ,aF a0.cell];simp only[aaq,aad,ae];rw[cg D1,ae];have E1:aK TE H 29 1 [(0,x.u.v w')]=some (aec H.n 0 1 1,H.push (.cells (UW.c ⟨x.u,w'⟩) 87 none)):=um (x:=⟨x.u,w'⟩);rw[E1,aE];have d1:Ext H (H.push (.cells (UW.c ⟨x.u,w'⟩) 87 none)):=Ext.refl.push;obtain⟨r2,j2,j0,e3,e4,h5,h6,h7,h8,h9,F1⟩:=UG (α:=UW) (o:=0) (x:=⟨x.u,w'⟩) tf rfl AS rfl a0.cell rfl (acU _) (by have:=M.aL a0.cell;omega) a0.ow d1 (sA (M.bJ) o7) (by omega);rw[e3,aE,bu,ae];simp only[aaq]at e4⊢;rw[e4,aE,aQ,ae,wrap64 (by omega) (by omega)];have h8:H.n+1<=j0.n:=h8;have i1:∀c,c < H.n->(H.push (.cells (UW.c ⟨x.u,w'⟩) 87 none)).get c=H.get c:=λc hc=>M.cE hc
  have H0:∀c,c < H.n->c≠m6.n->(∀cs g,H.get c≠.cells cs 87 g)->j0.get c=H.get c:=λc hc h1 h2=>by rw[F1 c (by show c < H.n+1;omega) h1 (λcs g=>by rw[i1 c hc];exact h2 cs g),i1 c hc]
  have j1:∀{sh:List Pl} {w:aed},Sl H sh w->Sl j0 sh w:=λhs=>hs.bH λb c t g hb ht=>by
   have ht:t=98:=by simpa[aP.ty,aP.fx]using ht
   subst ht;rw[H0 b (M.aL hb) (λe=>by subst e;rw[a0.cell]at hb;cases hb) (λcs g' e=>by rw[e]at hb;cases hb),hb]
  have A0:jU m2.n j0 ms F:=by
   rcases a0.Xy with(⟨h1,h2⟩ |⟨b,cs,h1,h2,h3,h4,I0,J0⟩) |⟨h1,b,h2,h3,h4⟩;·exact .inl (.inl ⟨h1,h2⟩)
   ·have K0:j0.get b=H.get b:=H0 b (M.aL h4) (λe=>by subst e;rw[a0.cell]at h4;cases h4) (λH1 g' e=>by rw[e]at h4;cases h4);exact .inl (.inr ⟨b,cs,h1,h2,h3,by rw[K0,h4],I0,λi y hy=>J0 i y hy⟩)
   have K0:j0.get b=H.get b:=H0 b (M.aL h4) (λe=>by subst e;rw[a0.cell]at h4;cases h4) (λH1 g' e=>by rw[e]at h4;cases h4);exact .inr ⟨h1,b,h2,h3,by rw[K0,h4]⟩
  refine hP (i+1) _ _ _ (by omega) ⟨acc++ [⟨x.u,w'⟩],r2,by push_cast;rfl,z0,?_,⟨h6,h7,λy hy=>?_,λy hy=>?_,A0⟩,λc hc=>?_,by omega,by omega⟩
  ·rw[abo,nu hx,<-l0];unfold bR;rw[abh];rfl
  ·rcases aaR.1 hy with hy |hy;·exact j1 (a0.sh y hy)
   rw[abu]at hy;subst hy;exact j1 c1
  ·rcases aaR.1 hy with hy |hy;·exact hS.ln y hy
   rw[abu]at hy;subst hy;exact hF.ln x d0
  rw[h9 c (by omega) (by omega),q0 c (by omega),hk c hc]
 have I1:i=l.length:=by
  have:¬(i:Int)< (l.length:Int):=by simpa using C1
  omega
 have er:one r'=true:=hS.ow.sl.one;rw[ph,aJ (n:=2) hS.cell (by show 0+2<=2;decide),aag,ae];have k1:mm.get m1.n=.cells [aeg,aeg] 60 none:=by rw[hk _ (by omega),e0.get _ (by omega),s0.get _ (by omega),g2]
 refine aC EU k1 rfl rfl (by show(one r' && (one F && true))=true;rw[er,u0.sl.one];rfl) λB0 U1 o1 h0=>?_;have J1:B0.get m1.n=.cells [r',F] 60 none:=o1;rw[ph,aJ (n:=2) J1 (by show 0+2<=2;decide),aag,ae];have L0:Ext m B0:=⟨by omega,λc hc=>by rw[h0 c (by omega),F0.get c hc]⟩
 have A0:jU m.n B0 ms F:=by
  rcases hS.Xy with(⟨h1,h2⟩ |⟨b,cs,h1,h2,h3,h4,I0,J0⟩) |⟨h1,b,h2,h3,h4⟩;·exact .inl (.inl ⟨h1,h2⟩)
  ·exact .inl (.inr ⟨b,cs,h1,h2,by omega,by rw[h0 b (by omega),h4],I0,λi y hy=>J0 i y hy⟩)
  exact .inr ⟨h1,b,h2,by omega,by rw[h0 b (by omega),h4]⟩
 have r0:cJ B0 acc r':=hS.WJ.bH λc cs t g hc ht=>by rw[h0 c (λe=>by subst e;rw[k1]at hc;cases hc;rcases ht with h |h <;>simp at h),hc]
 have i0:bR acc=bR l:=by rw[l0,I1,<-dE,abB]
 rcases hS.ow with⟨h1,h2⟩ |⟨b,cs,h1, -⟩
 ·rcases A0 with(⟨h3,h4⟩ |⟨b,cs,h3,hh⟩) |⟨h3,b,h4,hh⟩
  ·subst h1 h3;subst h2 h4;exact .inl ⟨by first |rfl |trivial,by omega,by first |rfl |trivial,_,_,[],rfl,.refl,i0,FG m,.inl Ow.nil⟩
  ·exact .inr ⟨.inl (by rw[h1,h3];first |rfl |trivial),by omega,r',F,acc,rfl,L0,i0,r0,.inl (.inr ⟨b,cs,h3,hh⟩)⟩
  exact .inr ⟨.inl (by rw[h1,h4];first |rfl |trivial),by omega,r',F,acc,rfl,L0,i0,r0,.inr ⟨h3,b,h4,hh⟩⟩
 exact .inr ⟨.inl (by rw[h1];rfl),by omega,r',F,acc,rfl,L0,i0,r0,A0⟩
end
end Go.Proofs.YtmdfgncoekfgdaaGreatDoor
namespace Go.D
open Go
section
section
variable {P:Program} {E:Env} {X:aG} {σ:Sg} {m m1:M} {w w':World} {f:Nat} {args:aee} {v:aed} {args':Array aed}
theorem Cl.calls(hE:E.OK P)(F:cQ P X)(hc:Cl E X (.func f) args m m.n v m1)(hs:dY P σ m w)(hl:bC σ args args'.toList):
  CallsIn Fence.wide 0 P f args' w (db P σ (m.wl m.n) w v (m1.wl m.n))/\(callFunc f args').run P w=.ok (.enter f args') w:=by obtain⟨hn,_,H,h⟩:=hc;have h1:=h (H+1) (by omega) m.n (Ξ _);rw[acQ]at h1;exact qE hE F (iD hE F H) h1 (hs.low m.n) hl
theorem db.flat(H:dY P σ m w)(hv:cy v=true){e:Ending}(h:db P σ (m.wl m.n) w v (m1.wl m.n) e w'):db P σ m w v m e w':=by obtain⟨v',σ',rfl,F,he⟩:=h;have:=F.aU hv;subst this;exact⟨_,σ,rfl,.flat _ hv,Ev.kept H (λB hB=>he.heap B hB λb i hb _=>H.nG b i hb) he.hle he.os he.tape he.output⟩
theorem Ev.row(hs:dY P σ m w){σ':Sg}(he:Ev P σ (m.wl m.n) w σ' (m1.wl m.n) w'){b n:Nat}{cs:aee}{t:TypeId}{k:Nat}(hb:m.n<=b)(hg:m1.get b=.cells cs t (some k))(hf:∀u∈cs,cy u=true){u':aed}
  (hv:aS σ' (aec b 0 n n) u') (hn:0 < n):∃τ,aS τ (aec m.n 0 n n) u'/\Ev P σ m w τ (m.push (.cells cs t (some k))) w':=by
 have go:∀i:BI,σ' b=some i->Ev P σ m w (σ.add m.n i) (m.push (.cells cs t (some k))) w':=by
  intro i hi
  have d0:σ b=none:=by
   cases h:σ b with
   |none=>rfl
   |some j=>have:=hs.nG b j h;omega
  obtain⟨_,F⟩:=he.new b i hi d0
  have F:w.heap.size<=i.dg:=by
   rcases F with h |⟨b0,i0,h1,_,h2⟩;·exact h
   have:=hs.nG b0 i0 h1;have h2:m.n<=b0:=h2;omega
  have e0:Holds σ' i w' (.cells cs t (some k)):=by have:=he.mL.obj b i hi;rw[show(m1.wl m.n).get b=.cells cs t (some k)from hg]at this;exact this
  obtain⟨dg,gr⟩:=i;refine Ev.Ra hs (λB hB=>he.heap B hB λb i hb _=>hs.nG b i hb) he.hle F (he.mL.lt b _ hi) ?_ he.os he.tape he.output;obtain⟨c',h1,h2,h3,h4⟩:=e0;refine⟨c',h1,h2,⟨h3.1,λj u u' hu h0=>?_⟩,h4⟩;have g0:=hf u (aac hu);have:=(h3.2 j u u' hu h0).aU g0;subst this;exact .flat _ g0
 have a0:∀i:BI,(σ.add m.n i) m.n=some i:=λi=>by unfold Sg.add;rw[aaf rfl]
 cases hv with
 |flat _ h=>cases h
 |slice a i _ _ h j0 H=>exact⟨_,.slice ⟨m.n,0,none⟩ i n n (a0 i) rfl H,go i h⟩
 |fJ a i _ _ c' k' sz N h j0 H hc=>exact⟨_,.fJ ⟨m.n,0,none⟩ i n n c' k' sz N (a0 i) rfl H hc,go i h⟩
 |empty a a' i c' k' sz N h H ho=>omega
end
end
section
abbrev fI:=Fn->aee->M->Option M
noncomputable section
variable (E:Env)
def je(pan:fI)(T:Tr aed)(m:M):Op->Option M
 |.call c=>match c.callee with
  |.value f=>match ev T f with
   |.func g first captured=>pan g (first.toList++(c.args.toList.map (ev T)++captured.toList)) m
   |_=>none
  |_=>none
 |_=>none
def eQ(call:aG)(pan:fI)(ops:Array Oper):List Oper->Fr->Option Fr
 |[],_=>none
 |o::rest,fr=>
  bif bV ops fr.T o then
   match dt o.op E call fr.T fr.m with
   |some (v,m)=>eQ call pan ops rest {T:=put fr.T o.dst v,m:=m}
   |none=>(je pan fr.T fr.m o.op).map λm=>{fr with m:=m}
  else eQ call pan ops rest {fr with T:=put fr.T o.dst undef}
def Ae:Op->Bool
 |.call c=>match c.callee with |.value _=>true |_=>false
 |_=>false
def wS(ops:Array Oper):Nat:=ops.toList.findIdx λo=>Ae o.op
def behind(ops:Array Oper)(p i:Nat):Bool:=Nat.blt p i && ((Region.before ops).getD i 0).testBit p
def gV:Op->Bool
 |.load ..=>true
 |o=>eO o
def BC:Op->Bool
 |.alloc _=>true
 |_=>false
def iO(ops:Array Oper)(o:Oper):Bool:=ops.toList.all λq=> !BC q.op ||(match q.dst with |some d=> !(eI ops o).contains d |none=>true)
def ru(E:Env)(o:Oper):Bool:=match o.guard,o.op with
 |none,.alloc t=>(eZ E t).isSome
 |_,_=>false
def cX(call:aG)(pan:fI)(ops:Array Oper)(p:Nat)(m:M):List Oper->Nat->Tr aed->Option M->Option M
 |[],_,_,r=>r
 |o::l,j,T,r=>
  bif Nat.beq j p then
   bif iO ops o && bV ops T o then
    match je pan T {m with low:=m.n} o.op with
    |some m'=>cX call pan ops p m l (j+1) T (some {m' with low:=min m.low m'.low})
    |none=>none
   else none
  else bif behind ops p j ||(Nat.blt p j && ru E o)then cX call pan ops p m l (j+1) T r
  else bif gV o.op && iO ops o then
   bif bV ops T o then
    match dt o.op E call T {m with low:=m.n}with
    |some (v,_)=>cX call pan ops p m l (j+1) (put T o.dst v) r
    |none=>none
   else cX call pan ops p m l (j+1) (put T o.dst undef) r
  else none
def dD(F:Bool)(call:aG)(pan:fI)(n:Nat):Code->Fr->Option Fr
 |.region _ ops d,fr=>bif d then(bif F then(cX E call pan ops (wS ops) fr.m ops.toList 0 fr.T none).map λm=>{fr with m:=m}else none)else eQ E call pan ops ops.toList fr
 |.seq a b,fr=>
  match bz E call n a fr with
  |some (.normal,fr)=>dD F call pan n b fr
  |some _=>none
  |none=>dD F call pan n a fr
 |.cond c x y,fr=>match ev fr.T c with
  |.bool t=>bif t then dD F call pan n x fr else dD F call pan n y fr
  |_=>none
 |.block _ c,fr=>dD F call pan n c fr
 |.scope c,fr=>dD F call pan n c fr
 |_,_=>none
def hZ(X:aG)(B:fI):Nat->fI
 |0,_,_,_=>none
 |n+1,.func f,args,m=>
  match B (.func f) args m with
  |some m'=>some m'
  |none=>
   match E.fn.get f with
   |none=>none
   |some fn=>
    match fn.body with
    |none=>none
    |some body=>
     bif Nat.ble args.length fn.ntmps && eM body && (X (.func f) args m).isNone then
      (dD E true (bO E X n) (hZ X B n) n body {T:=enter args 0,m:={m with low:=m.n}}).map λfr=>{fr.m with low:=min m.low fr.m.low}
     else none
 |_+1,_,_,_=>none
end
section
variable {E:Env} {P:Program} {call:aG} {pan:fI} {nt:Nat} {σ σ':Sg} {m m':M} {w w':World} {a:Act} {iv:aed}
def AD(P:Program)(iv:aed)(σ:Sg)(m:M)(w:World)(m':M):Ending->World->Prop:=λe w'=>e=.panicked [{v:=iv,recovered:=false}]/\∃σ',Ev P σ m w σ' m' w'
structure se(P:Program)(iv:aed)(pan:fI):Prop where
 func:∀f args m m',pan (.func f) args m=some m'->∀σ w (args':Array aed),dY P σ m w->bC σ args args'.toList->
  CallsIn Fence.wide 0 P f args' w (AD P iv σ m w m')/\(callFunc f args').run P w=.ok (.enter f args') w
 only:∀g args m m',pan g args m=some m'->∃f,g=.func f
theorem Bt{f:FuncId}{args:Array aed}(h:CallsIn Fence.wide 0 P f args w (AD P iv σ m w m'))(o:Oper)(a:Act)(next:Act->World->Prop)(Q:Exit->Act->World->Prop)
  (H:∀σ' w',Ev P σ m w σ' m' w'->Q (.panic [{v:=iv,recovered:=false}]) a w'):o.uponIn (dk none) 0 P a next Q (.ok (.enter f args) w):=by
 refine⟨λhh=>by simp[dk,Fence.wide]at hh,?_⟩;have h2:CallsIn (dk none) (0-1) P f args w (AD P iv σ m w m'):=⟨trivial,λcs _=>h.2 cs (room_wide _)⟩
 refine h2.mono λe w' he=>?_;obtain⟨rfl,σ',F⟩:=he;exact H σ' w' F
theorem tp(a0:se P iv pan)(hs:dY P σ m w){T:Tr aed}{o:Oper}(h:je pan T m o.op=some m')
  (hT:∀x∈o.op.operands.toList,aS σ (ev T x) (a.eval x)) (next:Act->World->Prop) (Q:Exit->Act->World->Prop)
  (hk:∀σ' w',Ev P σ m w σ' m' w'->Q (.panic [{v:=iv,recovered:=false}]) a w'):o.uponIn (dk none) 0 P a next Q ((execOp a.eval o).run P w):=by
 unfold je at h;split at h
 ·rename_i c ho;split at h
  ·rename_i f hc;unfold execOp;rw[ho]at hT⊢;dsimp only;have hT:∀x∈c.operands.toList,aS σ (ev T x) (a.eval x):=hT;have b0:bC σ (c.args.toList.map (ev T)) (c.args.toList.map a.eval):=iC _ (λx hx=>hT x (by simp[Call.operands];exact .inr (by simpa using hx)));have e0:c.args.map a.eval=(c.args.toList.map a.eval).toArray:=by apply abl;simp
   have hf:aS σ (ev T f) (a.eval f):=hT f (by simp[Call.operands,hc]);unfold resolve;rw[hc];split at h
   ·rename_i g first captured hg
    rw[hg]at hf
    obtain⟨g,rfl⟩:=a0.only _ _ _ _ h
    obtain⟨fv,d0⟩:∃x,a.eval f=x:=⟨_,rfl⟩
    rw[d0]at hf
    cases hf with
    |flat _ hh=>
     simp only[d0,Deferred.ofValue,aan,aaL,aai,invoke];simp only[cy,Ψ,acq]at hh
     obtain⟨h1,h2⟩:=a0.func g _ m m' h σ w (first++c.args.map a.eval++captured) hs (by rw[e0];simp only[abO,hh.1,hh.2,abz,abk];exact b0)
     rw[h2];exact Bt h1 o a next Q hk
    |func g _ _ H F ha hb h1 h2=>
     simp only[d0,Deferred.ofValue,aan,aaL,aai,invoke]
     obtain⟨q1,q2⟩:=a0.func g _ m m' h σ w (H++c.args.map a.eval++F) hs (by
      rw[e0];simp only[abO];have e1:bC σ first.toList H.toList:=⟨by simpa using ha,λj u u' x y=>h1 j u u' (by simpa using x) (by simpa using y)⟩
      have e2:bC σ captured.toList F.toList:=⟨by simpa using hb,λj u u' x y=>h2 j u u' (by simpa using x) (by simpa using y)⟩
      rw[aa7];exact e1.append (b0.append e2))
     rw[q2];exact Bt q1 o a next Q hk
   cases h
  cases h
 cases h
theorem mT(hE:E.OK P)(cz:cQ P call)(F:se P iv pan){ops:Array Oper}(d0:∀o∈ops.toList,eD nt P.globals.size o=true){Q:Exit->Act->World->Prop}{ds:List Deferred}:
  ∀(l:List Oper),(∀o∈l,eD nt P.globals.size o=true)->∀(fr H:Fr),eQ E call pan ops l fr=some H->∀(σ:Sg) (a:Act) (w:World),di σ fr.T a nt->a.defers=ds->dY P σ fr.m w->(∀σ' a' w',di σ' H.T a' nt->a'.defers=ds->Ev P σ fr.m w σ' H.m w'->Q (.panic [{v:=iv,recovered:=false}]) a' w')->wpListIn (dk none) 0 P ops Q l a w
 |[],_,fr,H,h,σ,a,w,hf,hd,hs,k=>by
  unfold eQ at h
  cases h
 |o::l,hl,fr,H,h,σ,a,w,hf,hd,hs,k=>by
  unfold eQ at h
  have hw:=hf.wanted d0 o
  have a0:=du (hl o aaP)
  have e0:=λo ho=>hl o (aaZ _ ho)
  unfold wpListIn
  rw[<-hw]
  cases g0:bV ops fr.T o with
  |false=>
   rw[g0]at h
   simp only[cond_false]at h
   rw[aaa (by simp)]
   refine⟨λ_ _=>trivial,?_⟩
   refine mT hE cz F d0 l e0 _ _ h σ (a.put o.dst undef) w (hf.put a0 aS.undef) ?_ hs k
   rw[<-hd];cases o.dst <;>rfl
  |true=>
   rw[g0]at h
   simp only[cond_true]at h
   rw[aaf rfl]
   have b0:∀x∈o.op.operands.toList,aS σ (ev fr.T x) (a.eval x):=λx hx=>hf.vN hs (eC (hl o aaP) x hx)
   refine⟨λ_ _=>trivial,?_⟩
   cases ho:dt o.op E call fr.T fr.m with
   |some p=>
    obtain⟨v,m1⟩:=p
    rw[ho]at h
    simp only at h
    have h0:=nV hE cz hs ho (a:=a) b0
    rw[Oper.semAt_eq _ _ _ (λc hc=>by rw[hc]at ho;simp[dt]at ho)]
    refine h0.2 none 0 o a _ Q λσ' w' v' hv he=>?_
    refine mT hE cz F d0 l e0 _ _ h σ' (a.put o.dst v') w' ((hf.mono he.ext).put a0 hv) ?_ he.mL λi0 a2 w2 j0 k0 l0=>k i0 a2 w2 j0 k0 (he.trans l0)
    rw[<-hd];cases o.dst <;>rfl
   |none=>
    rw[ho]at h
    simp only[aaj]at h
    obtain⟨m1,h1,rfl⟩:=h
    rw[Oper.semAt_eq _ _ _ (λc hc=>by rw[hc]at h1;simp[je]at h1)]
    exact tp F hs h1 b0 _ Q λσ' w' he=>k σ' a w' (hf.mono he.ext) hd he
theorem AY(hE:E.OK P)(hs:dY P σ m w){call:aG}{T:Tr aed}{a:Act}{o:Oper}{v:aed}{m1:M}(hp:gV o.op=true)(h:dt o.op E call T m=some (v,m1))
  (H:∀x∈o.op.operands.toList,aS σ (ev T x) (a.eval x)):∃v',(execOp a.eval o).run P w=.ok (.value v') w/\aS σ v v':=by
 cases F:eO o.op with
 |true=>exact vq hE F h H
 |false=>
  cases ho:o.op with
  |load t x=>
   rw[ho]at h H;unfold execOp;rw[ho];dsimp only;simp only[dt,qi]at h;split at h
   ·rename_i ad hx;split at h
    ·rename_i z hz;cases h;have h1:=H x (by simp[Op.operands]);rw[hx]at h1;obtain⟨i,hi,_,he⟩:=h1.eP;obtain⟨v',q1,q2,_⟩:=lT (w:=w) hE hs hi hz;refine⟨v',?_,q2⟩;rw[he];rw[aan];have:(Instr.loadAt t (aeb i.dg ad.off)).run P w=.ok v' w:=by simpa[Instr.loadAt,Instr.sureAddr]using q1
     rw[this];rfl
    cases h
   cases h
  |_=>rw[ho]at hp F;simp[gV,F]at hp
def tM(E:Env)(call:aG)(pan:fI)(ops:Array Oper)(p:Nat)(m m':M)(T:Tr aed)(o:Oper)(j:Nat)(F:Tr aed):Prop:=
 (j=p/\F=T/\iO ops o=true/\bV ops T o=true/\∃m1,je pan T {m with low:=m.n} o.op=some m1/\m'={m1 with low:=min m.low m1.low})\/
 (j≠p/\behind ops p j=true/\F=T)\/
 (j≠p/\behind ops p j=false/\ru E o=true/\F=T)\/
 (j≠p/\behind ops p j=false/\gV o.op=true/\iO ops o=true/\((bV ops T o=false/\F=put T o.dst undef)\/(bV ops T o=true/\∃v m1,dt o.op E call T {m with low:=m.n}=some (v,m1)/\F=put T o.dst v)))
theorem ew{ops:Array Oper}{p:Nat}{m m':M}:∀(l:List Oper) (j:Nat) (T:Tr aed) (r:Option M),cX E call pan ops p m l j T r=some m'->
  (p < j->r=some m')/\(r=none->p < j+l.length)/\∃tr:Nat->Tr aed,tr j=T/\∀i o,l[i]?=some o->tM E call pan ops p m m' (tr (j+i)) o (j+i) (tr (j+i+1))
 |[],j,T,r,h=>by
  unfold cX at h
  exact⟨λ_=>h,λhr=>(by rw[hr]at h;cases h),λ_=>T,rfl,λi o h=>by simp at h⟩
 |o::l,j,T,r,h=>by
  have key:∀T1 r1,tM E call pan ops p m m' T o j T1->cX E call pan ops p m l (j+1) T1 r1=some m'->∃tr:Nat->Tr aed,tr j=T/\∀i o',(o::l)[i]?=some o'->tM E call pan ops p m m' (tr (j+i)) o' (j+i) (tr (j+i+1)):=by
   intro T1 r1 h1 h2
   obtain⟨_,_,tr,t1,t3⟩:=ew l (j+1) T1 r1 h2
   refine⟨λk=>if k=j then T else tr k,by simp,?_⟩
   intro i o' hi
   cases i with
   |zero=>
    simp only[aad,aae]at hi
    subst hi
    simp only[abC,abq]
    rw[aaa (by omega),t1]
    exact h1
   |succ i=>
    have:=t3 i o' (by simpa using hi)
    simp only
    rw[aaa (by omega),aaa (by omega)]
    have e:j+1+i=j+(i+1):=by omega
    rw[e]at this
    exact this
  have hlen:j+(o::l).length=j+1+l.length:=by simp only[aaJ];omega
  rw[hlen]
  unfold cX at h
  cases F:Nat.beq j p with
  |true=>
   obtain rfl:=aab F
   rw[F,cond_true]at h
   cases hw:(iO ops o && bV ops T o)with
   |false=>rw[hw]at h;cases h
   |true=>
    rw[hw,cond_true]at h
    simp only[Ψ]at hw
    split at h
    ·rename_i m1 h1
     obtain⟨q1,_,_⟩:=ew l (j+1) T _ h
     have e1:=q1 (by omega)
     simp only[aae]at e1
     exact⟨λhh=>by omega,λ_=>by omega,key T _ (.inl ⟨rfl,rfl,hw.1,hw.2,m1,h1,e1.symm⟩) h⟩
    ·cases h
  |false=>
   have H:j≠p:=λe=>by rw[e,aa4]at F;cases F
   rw[F,cond_false]at h
   cases hb:behind ops p j with
   |true=>
    rw[hb,aaM,cond_true]at h
    obtain⟨q1,q2,_⟩:=ew l (j+1) T _ h
    exact⟨λhh=>q1 (by omega),q2,key T _ (.inr (.inl ⟨H,hb,rfl⟩)) h⟩
   |false=>
    rw[hb,aaE]at h
    cases a0:(Nat.blt p j && ru E o)with
    |true=>
     rw[a0,cond_true]at h
     simp only[Ψ]at a0
     obtain⟨q1,q2,_⟩:=ew l (j+1) T _ h
     exact⟨λhh=>q1 (by omega),q2,key T _ (.inr (.inr (.inl ⟨H,hb,a0.2,rfl⟩))) h⟩
    |false=>
    rw[a0,cond_false]at h
    cases hp:(gV o.op && iO ops o)with
    |false=>rw[hp]at h;cases h
    |true=>
     rw[hp,cond_true]at h
     simp only[Ψ]at hp
     cases hw:bV ops T o with
     |false=>
      rw[hw,cond_false]at h
      obtain⟨q1,q2,_⟩:=ew l (j+1) _ _ h
      exact⟨λhh=>q1 (by omega),q2,key _ _ (.inr (.inr (.inr ⟨H,hb,hp.1,hp.2,.inl ⟨hw,rfl⟩⟩))) h⟩
     |true=>
      rw[hw,cond_true]at h
      split at h
      ·rename_i v m1 h1
       obtain⟨q1,q2,_⟩:=ew l (j+1) _ _ h
       exact⟨λhh=>q1 (by omega),q2,key _ _ (.inr (.inr (.inr ⟨H,hb,hp.1,hp.2,.inr ⟨hw,v,m1,h1,rfl⟩⟩))) h⟩
      ·cases h
def nT(ops:Array Oper)(p i:Nat):Prop:=i=p\/behind ops p i=true
theorem nT.reach{ops:Array Oper}{p i:Nat}(h:nT ops p i):i=p\/Reach ops p i:=by
 rcases h with h |h;·exact .inl h
 unfold behind at h;simp only[Ψ]at h;exact .inr (gH h.2)
structure xD(ops:Array Oper)(p nt:Nat)(tr:Nat->Tr aed)(ds:List Deferred)(σ:Sg)(L:Nat->Prop)(a:Act):Prop where
 out:∀i,L i->¬nT ops p i
 lt:∀i,L i->i < ops.size
 closed:xG ops L
 Dd:a.tmps.size=nt
 defs:a.defers=ds
 tmp:∀t,t < nt->(∀q∈ops.toList,BC q.op=true->q.dst≠some t)->∃q,q<=ops.size/\aS σ (gn (tr q) t) (a.eval (.tmp t))/\(∀i o,L i->ops[i]?=some o->o.dst=some t->i < q)/\(∀i o,¬L i->ops[i]?=some o->o.dst=some t->i < q->nT ops p i)
theorem zq{T:Tr aed}{dst:Option Tmp}{v:aed}{t:Nat}(h:dst≠some t):gn (put T dst v) t=gn T t:=by
 cases dst with
 |none=>rfl
 |some d=>rw[wY,aaa];intro e;exact h (by rw[e])
section
variable {ops:Array Oper} {p:Nat} {tr:Nat->Tr aed} {L:Nat->Prop} {ds:List Deferred}
theorem Hf{j:Nat}{o:Oper}{T F:Tr aed}(h:tM E call pan ops p m m' T o j F)(H:nT ops p j):F=T:=by
 rcases h with⟨_,h,_⟩ |⟨_,_,h⟩ |⟨_,_,_,h⟩ |⟨h1,h2,_⟩;·exact h
 ·exact h
 ·exact h
 rcases H with h |h;·exact absurd h h1
 rw[h2]at h;cases h
theorem Bp{j:Nat}{o:Oper}{T F:Tr aed}{t:Nat}(h:tM E call pan ops p m m' T o j F)(H:o.dst≠some t):gn F t=gn T t:=by
 rcases h with⟨_,h,_⟩ |⟨_,_,h⟩ |⟨_,_,_,h⟩ |⟨_,_,_,_,⟨_,h⟩ |⟨_,v,m1,_,h⟩⟩;·rw[h]
 ·rw[h]
 ·rw[h]
 ·rw[h,zq H]
 rw[h,zq H]
theorem vt(F:∀j o,ops[j]?=some o->tM E call pan ops p m m' (tr j) o j (tr (j+1))){t:Nat}{i:Nat}:∀k,i<=k->k<=ops.size->(∀j o,i<=j->j < k->ops[j]?=some o->o.dst=some t->nT ops p j)->gn (tr k) t=gn (tr i) t
 |0,h,_,_=>by
  obtain rfl:i=0:=by omega
  rfl
 |k+1,h,hk,hh=>by
  by_cases H:i=k+1
  ·subst H;rfl
  ·have ih:=vt F k (by omega) (by omega) (λj o h1 h2=>hh j o h1 (by omega))
   have ho:ops[k]?=some ops[k]:=by simp[show k < ops.size by omega]
   rw[<-ih]
   have hs:=F k _ ho
   by_cases hd:(ops[k]).dst=some t
   ·rw[Hf hs (hh k _ (by omega) (by omega) ho hd)]
   ·exact Bp hs hd
theorem BA{o:Oper}{t:Nat}(h:iO ops o=true)(H:t∈eI ops o):∀q∈ops.toList,BC q.op=true->q.dst≠some t:=by intro q hq F hd;have:=aay.1 h q hq;rw[F,hd]at this;simp only[aal,aaE,aba,List.contains_eq_mem,aby]at this;exact this H
theorem xD.names(h:xD ops p nt tr ds σ L a)(ord:uH ops)(a0:∀j o,ops[j]?=some o->tM E call pan ops p m m' (tr j) o j (tr (j+1))){j:Nat}{o:Oper}(hj:¬L j)(H:¬nT ops p j\/j=p)(ho:ops[j]?=some o)
  (e0:∀e∈o.after,Region.binds .any e=true->L e.on) (g0:iO ops o=true) {t:Nat} (ht:t < nt) (hn:t∈eI ops o):aS σ (gn (tr j) t) (a.eval (.tmp t)):=by
 have j0:j < ops.size:=(aaF.1 ho).1;obtain⟨q,hq,hv,hw,b0⟩:=h.tmp t ht (BA g0 hn)
 have e:gn (tr j) t=gn (tr q) t:=by
  rcases Nat.le_total q j with h0 |i0
  ·refine vt a0 j h0 (by omega) λi oi h1 h2 F hd=>?_;rcases ord.apart i j oi o F ho h2 with hr |⟨_,h3⟩
   ·have hL:=hr.listed h.closed (λo' d0=>by rw[ho]at d0;cases d0;exact e0);have:=hw i oi hL F hd;omega
   exact absurd hn (h3 t hd)
  refine(vt a0 q i0 hq λi oi h1 h2 F hd=>?_).symm;rcases Nat.eq_or_lt_of_le h1 with rfl |h1
  ·rcases H with H |H;·exact absurd (b0 j oi hj F hd h2) H
   exact .inl H
  refine b0 i oi (λhL=>?_) F hd h2;rcases ord.apart j i o oi ho F h1 with hr |⟨h3,_⟩;·exact hj (hr.gE h.closed hL)
  exact absurd hn (h3 t hd)
 rw[e];exact hv
theorem xD.next(h:xD ops p nt tr ds σ L a)(ord:uH ops){j:Nat}{o:Oper}(hj:¬L j)(h0:¬nT ops p j)(ho:ops[j]?=some o)(d0:∀e∈o.after,Region.binds .any e=true->L e.on)
  {v v':aed} (hT:tr (j+1)=put (tr j) o.dst v) (hv:aS σ v v'):xD ops p nt tr ds σ (λi=>i=j\/L i) (a.put o.dst v') where
 out:=λi hi=>by
  rcases hi with rfl |hi
  ·exact h0
  ·exact h.out i hi
 lt:=λi hi=>by
  rcases hi with rfl |hi
  ·exact(aaF.1 ho).1
  ·exact h.lt i hi
 closed:=λi o' a0 hi e he hb=>by
  rcases hi with rfl |hi
  ·rw[ho]at a0;cases a0
   exact .inr (d0 e he hb)
  ·exact .inr (h.closed i o' a0 hi e he hb)
 Dd:=by rw[rh];exact h.Dd
 defs:=by rw[put_defers];exact h.defs
 tmp:=λt ht e0=>by
  have k0:j < ops.size:=(aaF.1 ho).1
  have self:∀d,o.dst=some d->d∈eI ops o:=λd hd=>by unfold eI;rw[hd];simp
  by_cases hd:o.dst=some t
  ·refine⟨j+1,by omega,?_,λi oi hi F H=>?_,λi oi hi F H g0=>?_⟩
   ·rw[hT,hd,wY,aaf rfl]
    have:(a.put (some t) v').eval (.tmp t)=v':=by simp[Act.eval,Act.put,h.Dd,ht]
    rw[this]
    exact hv
   ·rcases hi with rfl |hi
    ·omega
    ·refine aaO λhc=>?_
     have b0:j≠i:=λe=>hj (e ▸ hi)
     rcases ord.apart j i o oi ho F (by omega)with hr |⟨h3,_⟩
     ·exact hj (hr.gE h.closed hi)
     ·exact h3 t H (self t hd)
   ·have b0:i≠j:=λe=>hi (.inl e)
    rcases ord.apart i j oi o F ho (by omega)with hr |⟨_,h3⟩
    ·exact absurd (.inr (hr.listed h.closed (λo' a0=>by rw[ho]at a0;cases a0;exact d0))) hi
    ·exact absurd (self t hd) (h3 t H)
  ·obtain⟨q,hq,hv,hw,i0⟩:=h.tmp t ht e0
   refine⟨q,hq,?_,λi oi hi F H=>?_,λi oi hi F H g0=>i0 i oi (λhL=>hi (.inr hL)) F H g0⟩
   ·have:(a.put o.dst v').eval (.tmp t)=a.eval (.tmp t):=by
     cases j0:o.dst with
     |none=>rfl
     |some d=>
      have b0:d≠t:=λe=>hd (by rw[j0,e])
      simp[Act.eval,Act.put,acR,b0]
    rw[this]
    exact hv
   ·rcases hi with rfl |hi
    ·rw[ho]at F;cases F
     exact absurd H hd
    ·exact hw i oi hi F H
theorem xD.Og(h:xD ops p nt tr ds σ L a){j:Nat}{o:Oper}(e0:¬nT ops p j)(ho:ops[j]?=some o)(g0:∀e∈o.after,Region.binds .any e=true->L e.on)(d0:BC o.op=true)
  {v':aed}:xD ops p nt tr ds σ (λi=>i=j\/L i) (a.put o.dst v') where
 out:=λi hi=>by
  rcases hi with rfl |hi
  ·exact e0
  ·exact h.out i hi
 lt:=λi hi=>by
  rcases hi with rfl |hi
  ·exact(aaF.1 ho).1
  ·exact h.lt i hi
 closed:=λi o' b0 hi e he hb=>by
  rcases hi with rfl |hi
  ·rw[ho]at b0;cases b0
   exact .inr (g0 e he hb)
  ·exact .inr (h.closed i o' b0 hi e he hb)
 Dd:=by rw[rh];exact h.Dd
 defs:=by rw[put_defers];exact h.defs
 tmp:=λt ht a0=>by
  have hd:o.dst≠some t:=a0 o (by simpa using abx ho) d0
  obtain⟨q,hq,hv,hw,h0⟩:=h.tmp t ht a0
  refine⟨q,hq,?_,λi oi hi F H=>?_,λi oi hi F H i0=>h0 i oi (λhL=>hi (.inr hL)) F H i0⟩
  ·have:(a.put o.dst v').eval (.tmp t)=a.eval (.tmp t):=by
    cases j0:o.dst with
    |none=>rfl
    |some d=>
     have k0:d≠t:=λe=>hd (by rw[j0,e])
     simp[Act.eval,Act.put,acR,k0]
   rw[this]
   exact hv
  ·rcases hi with rfl |hi
   ·rw[ho]at F;cases F
    exact absurd H hd
   ·exact hw i oi hi F H
theorem Ev.more(F:dY P σ m w)(hle:w.heap.size<=w'.heap.size)(hh:∀B,B < w.heap.size->w'.heap[B]?=w.heap[B]?)(h1:w'.os=w.os)(h2:w'.tape=w.tape)(h3:w'.output=w.output):Ev P σ m w σ m w':=
 ⟨λ_ _ h=>h,⟨F.nG,λb i H=>(F.obj b i H).bH (λ_ _ h=>h) (hh _ (F.lt b i H)),λb i H=>acf (F.lt b i H) hle,F.inj,F.jE⟩,Ξ _,Ξ _,hle,
  λb i h h'=>(by rw[h]at h';cases h'),λ_ _ _=>rfl,λB hB _=>hh B hB,h1,h2,h3⟩
theorem yR{o:Oper}(h:ru E o=true):o.guard=none/\BC o.op=true/\∃t z,o.op=.alloc t/\eZ E t=some z:=by
 unfold ru at h;split at h
 ·rename_i t H F;obtain⟨z,hz⟩:=adA.1 h;exact⟨H,by rw[F];rfl,t,z,F,hz⟩
 cases h
theorem Oh(hE:E.OK P)(F:dY P σ m w){o:Oper}(h:ru E o=true):∃v' w',(execOp a.eval o).run P w=.ok (.value v') w'/\Ev P σ m w σ m w':=by obtain⟨-, -,t,z,H,hz⟩:=yR h;obtain⟨σ',w',v',hr, -,he⟩:=tK hE (F.low m.n) hz;refine⟨v',w',?_,Ev.more F he.hle (λB hB=>he.heap B hB λb i hb _=>F.nG b i hb) he.os he.tape he.output⟩;unfold execOp;rw[H];dsimp only;rw[aan,hr];rfl
theorem xI(hE:E.OK P)(q0:se P iv pan)(r0:∀o∈ops.toList,eD nt P.globals.size o=true)(hd:qk ops=true){T:Tr aed}(h:cX E call pan ops p m ops.toList 0 T none=some m')
  (hf:di σ T a nt) (hs:dY P σ m w) {Q:Exit->Act->World->Prop} (k:∀σ' a' w',a'.defers=a.defers->Ev P σ m w σ' m' w'->Q (.panic [{v:=iv,recovered:=false}]) a' w'):
  wpAnyIn (dk none) 0 P .any ops Q ops.size (Array.replicate ops.size false) a w:=by
 have ord:=rq hd;obtain⟨_,b0,tr,t0,I0⟩:=ew ops.toList 0 T none h;have b0:p < ops.size:=by have:=b0 rfl;simpa using this
 have s0:∀j o,ops[j]?=some o->tM E call pan ops p m m' (tr j) o j (tr (j+1)):=by intro j o ho;have:=I0 j o (by simpa using ho);simpa using this
 subst t0
 have main:∀(fuel:Nat) (listed:Array Bool) (a1:Act) (w1:World),Ev P σ m w σ m w1->listed.size=ops.size->CT listed ops.size<=fuel->xD ops p nt tr a.defers σ (λi=>listed.getD i false=true) a1->wpAnyIn (dk none) 0 P .any ops Q fuel listed a1 w1:=by
  have ready_all:∀(listed:Array Bool),listed.size=ops.size->Region.ready .any ops listed=[]->∀i,i < ops.size->listed.getD i false=true:=by
   intro listed g0 hr i
   induction i using Nat.strongRecOn with
   |_ i ih=>
    intro hi;refine aaO λhn=>?_;obtain⟨o,ho⟩:=wZ (ops:=ops) hi
    have:i∈Region.ready .any ops listed:=mem_ready.2 ⟨by rw[my _ _ (by omega)];simpa using hn,o,ho,λe he hb=>by have:=ord.lt i o ho e he hb;exact ih e.on this (by omega)⟩
    rw[hr]at this;cases this
  intro fuel
  induction fuel with
  |zero=>intro listed a1 w1 h0 g0 hu h1;have u0:=λi hi=>uQ (l:=listed) (k:=ops.size) (by omega) i hi;exact absurd (.inl rfl) (h1.out p (u0 p b0))
  |succ fuel ih=>
   intro listed a1 w1 h0 g0 hu h1;refine⟨λhr=>absurd (.inl rfl) (h1.out p (ready_all listed g0 hr p b0)),λj hj=>?_⟩;obtain⟨r1,o,ho,j0⟩:=mem_ready.1 hj;have J0:j < ops.size:=(aaF.1 ho).1
   have l0:¬listed.getD j false=true:=by rw[my _ _ (by omega)]at r1;rw[r1];simp
   have H:¬nT ops p j\/j=p:=by
    by_cases v0:j=p;·exact .inr v0
    refine .inl λz0=>?_;rcases z0.reach with h2 |h2;·exact v0 h2
    have hL:=h2.listed h1.closed (λo' k0=>by rw[ho]at k0;cases k0;exact j0);exact h1.out p hL (.inl rfl)
   have A0:=r0 o (by simpa using abx ho);have hs:=h0.mL;have d0:iO ops o=true->∀t,t < nt->t∈eI ops o->aS σ (gn (tr j) t) (a1.eval (.tmp t)):=λF t ht hn=>h1.names ord s0 l0 H ho j0 F ht hn
   have hw:iO ops o=true->bV ops (tr j) o=Region.wanted o (yielded ops a1.tmps):=by intro F;refine mM (σ:=σ) λq want d hg hd=>?_;have K0:=hd;simp only[acG]at hd;obtain⟨o',k0,L0⟩:=hd;have B0:=du (r0 o' (by simpa using abx k0)) d L0;refine⟨by rw[h1.Dd];exact B0,d0 F d B0 ?_⟩;unfold eI;rw[hg];simp only[K0];simp
   have i0:iO ops o=true->∀x∈o.op.operands.toList,aS σ (ev (tr j) x) (a1.eval x):=by
    intro F x hx;have C0:=eC A0 x hx
    exact wD hs (λt ht=>by subst ht;exact d0 F t (mY C0) (by unfold eI;simp only[aaR];exact .inr (.inl (acL.2 ⟨.tmp t,hx,rfl⟩)))) C0
   have D0:∀{Q:(Nat->Prop)->Prop},Q (λi=>i=j\/listed.getD i false=true)->Q (λi=>(listed.setIfInBounds j true).getD i false=true):=λ{Q} h=>by
    have:(λi=>(listed.setIfInBounds j true).getD i false=true)=(λi=>i=j\/listed.getD i false=true):=by
     funext i
     exact propext (wu listed (by omega) i)
    rw[this];exact h
   have E0:CT (listed.setIfInBounds j true) ops.size<=fuel:=by have:=zx (l:=listed) (j:=j) (by omega) l0 ops.size;rw[aaf J0]at this;omega
   have next:∀(v v':aed),tr (j+1)=put (tr j) o.dst v->aS σ v v'->¬nT ops p j->wpAnyIn (dk none) 0 P .any ops Q fuel (listed.setIfInBounds j true) (a1.put o.dst v') w1:=λv v' h2 h3 h4=>
    ih _ _ _ h0 (by simpa using g0) E0 (D0 (Q:=λL=>xD ops p nt tr a.defers σ L (a1.put o.dst v')) (h1.next ord l0 h4 ho j0 h2 h3))
   unfold wpOpIn;rw[ho];dsimp only;rcases s0 j o ho with⟨_,_,F,a0,m1,hp,M0⟩ |⟨e0,hb,_⟩ |⟨e0,hb,F0,_⟩ |⟨e0,hb,N0,F,⟨a0,hT⟩ |⟨a0,v,m1,o0,hT⟩⟩
   ·rw[<-hw F,a0,aaf rfl];refine⟨λ_ _=>trivial,?_⟩;rw[Oper.semAt_eq _ _ _ (λc hc=>by rw[hc]at hp;simp[je]at hp)];refine tp q0 (hs.low m.n) hp (i0 F) _ Q λσ' w' he=>k σ' a1 w' h1.defs ?_;rw[M0];exact h0.trans he.vo
   ·rcases H with H |H;·exact absurd (.inr hb) H
    exact absurd H e0
   ·obtain⟨hg,G0,t,z,H0, -⟩:=yR F0;have a0:Region.wanted o (yielded ops a1.tmps)=true:=by unfold Region.wanted;rw[hg]
    rw[a0,aaf rfl];refine⟨λ_ _=>trivial,?_⟩;rw[Oper.semAt_eq _ _ _ (λc hc=>by rw[hc]at H0;cases H0)];obtain⟨v',w2,hr,he⟩:=Oh (a:=a1) hE hs F0;rw[hr];exact ih _ _ _ (h0.trans he) (by simpa using g0) E0 (D0 (Q:=λL=>xD ops p nt tr a.defers σ L (a1.put o.dst v')) (h1.Og (H.resolve_right e0) ho j0 G0))
   ·rw[<-hw F,a0,aaa (by simp)];exact⟨λ_ _=>trivial,next undef undef hT aS.undef (H.resolve_right e0)⟩
   rw[<-hw F,a0,aaf rfl];refine⟨λ_ _=>trivial,?_⟩;rw[Oper.semAt_eq _ _ _ (λc hc=>by rw[hc]at o0;simp[dt]at o0)];obtain⟨v',hr,hv⟩:=AY hE (hs.low m.n) N0 o0 (i0 F);rw[hr];exact next v v' hT hv (H.resolve_right e0)
 refine main ops.size _ a w (Ev.refl hs) (by simp) ?_ ?_
 ·have:∀k,CT (Array.replicate ops.size false) k<=k:=by
   intro k
   induction k with
   |zero=>simp[CT]
   |succ k ih=>unfold CT;split <;>omega
  exact this _
 have hL:∀i,¬(Array.replicate ops.size false).getD i false=true:=by intro i;simp[abd,acZ];split <;>simp
 exact{
  out:=λi hi=>absurd hi (hL i)
  lt:=λi hi=>absurd hi (hL i)
  closed:=λj o ho hj=>absurd hj (hL j)
  Dd:=hf.1
  defs:=rfl
  tmp:=λt ht _=>⟨0,by omega,hf.2 t ht,λi o hi=>absurd hi (hL i),λi o _ _ _ hi=>by omega⟩}
end
theorem vI(hE:E.OK P)(cz:cQ P call)(d0:se P iv pan){n:Nat}{dr:Bool}:∀(c:Code) (fr H:Fr),cW nt P.globals.size c=true->eM c=true->dD E dr call pan n c fr=some H->
  ∀(σ:Sg) (a:Act) (w:World) (Q:Exit->Act->World->Prop),di σ fr.T a nt->dY P σ fr.m w->
  (∀σ' a' w',(dr=false->di σ' H.T a' nt)->a'.defers=a.defers->Ev P σ fr.m w σ' H.m w'->Q (.panic [{v:=iv,recovered:=false}]) a' w')->c.wpIn (dk none) 0 P Q a w:=by
 intro c
 induction c with
 |region id ops d=>
  intro fr H F _ h σ a w Q hf hs k
  unfold cW at F
  simp only[Ψ]at F
  have b0:∀o∈ops.toList,eD nt P.globals.size o=true:=aay.1 F.1
  unfold dD at h
  cases d with
  |true=>
   rw[cond_true]at h
   cases dr with
   |false=>cases h
   |true=>
    simp only[cond_true,aaj]at h;obtain⟨m1,h1,rfl⟩:=h;have hd:qk ops=true:=by simpa using F.2
    have hw:Ev P σ fr.m w σ fr.m {w with drawn:=w.drawn+1}:=Ev.of_heap hs rfl rfl rfl rfl;exact wpIn_region_any hE.mixed (xI hE d0 b0 hd h1 hf hw.mL λσ' a' w' h2 h3=>k σ' a' w' (λh=>by cases h) h2 (hw.trans h3))
  |false=>rw[cond_false]at h;exact wpIn_region_list (mT hE cz d0 b0 ops.toList b0 fr H h σ a w hf rfl hs λσ' a' w' h1 h2 h3=>k σ' a' w' (λ_=>h1) h2 h3)
 |seq x y e0 g0=>
  intro fr H F a0 h σ a w Q hf hs k
  unfold cW at F
  unfold eM at a0
  simp only[Ψ]at F a0
  unfold dD at h
  refine wpIn_seq ?_
  cases hx:bz E call n x fr with
  |none=>rw[hx]at h;exact e0 fr H F.1 a0.1 h σ a w _ hf hs k
  |some p=>
   obtain⟨e1,h0⟩:=p
   rw[hx]at h
   cases e1 with
   |normal=>refine fY hE cz x fr .normal h0 F.1 hx none 0 0 σ a w _ a.defers (.inl rfl) hf hs ⟨[],rfl,trivial⟩ (aaQ _) λj0 a1 w1 k0 u0 l0 i0=>?_;exact g0 h0 H F.2 a0.2 h j0 a1 w1 Q k0 i0.mL λo0 a2 w2 q0 r0 s0=>k o0 a2 w2 q0 (r0.trans (l0 a0.1)) (i0.trans s0)
   |exit id=>cases h
   |ret=>cases h
 |cond c x y e0 g0=>
  intro fr H F a0 h σ a w Q hf hs k
  unfold cW at F
  unfold eM at a0
  simp only[Ψ]at F a0
  unfold dD at h
  have hc:=hf.vN hs F.1
  cases hv:ev fr.T c with
  |bool t=>
   rw[hv]at h hc
   refine wpIn_cond hc.bool ?_
   cases t with
   |true=>exact e0 fr H F.2.1 a0.1 h σ a w Q hf hs k
   |false=>exact g0 fr H F.2.2 a0.2 h σ a w Q hf hs k
  |_=>rw[hv]at h;cases h
 |block id c ih=>intro fr H F a0 h σ a w Q hf hs k;unfold cW at F;unfold eM at a0;unfold dD at h;exact wpIn_block (ih fr H F a0 h σ a w _ hf hs k)
 |scope c ih=>intro fr H F a0 h σ a w Q hf hs k;unfold cW at F;unfold eM at a0;unfold dD at h;exact uM (ih fr H F a0 h σ a w _ hf hs k)
 |_=>intro fr H _ _ h;simp[dD]at h
theorem Kr(hE:E.OK P){X:aG}{B:fI}(hX:cQ P X)(hB:se P iv B):∀n,se P iv (hZ E X B n)
 |0=>⟨λf args m m' h=>(by unfold hZ at h;cases h),λg args m m' h=>(by unfold hZ at h;cases h)⟩
 |n+1=>by
  refine⟨λf args m m' h σ w args' hs hl=>?_,λg args m m' h=>?_⟩
  ·unfold hZ at h
   split at h
   ·rename_i m1 hb
    cases h
    exact hB.func f args m m' hb σ w args' hs hl
   ·split at h
    ·cases h
    ·rename_i fn a0
     have b0:=hE.fn f fn a0
     have H:=hE.code a0
     split at h
     ·cases h
     ·rename_i body F
      cases hc:(Nat.ble args.length fn.ntmps && eM body && (X (.func f) args m).isNone)with
      |false=>rw[hc]at h;cases h
      |true=>
       rw[hc]at h
       simp only[cond_true,aaj]at h
       obtain⟨fr,h,rfl⟩:=h
       simp only[Ψ]at hc
       have hc:=hc.1
       refine⟨?_,mj b0 F H⟩
       unfold jA at H
       rw[F]at H
       simp only[Ψ]at H
       have d0:=ky (nt:=fn.ntmps) hl (aar hc.1)
       refine callsIn_of_wp_marks b0 F trivial ?_
       refine vI hE (iD hE hX n) (Kr hE hX hB n) body _ fr H.1 hc.2 h σ _ w _ d0 (hs.low m.n) λe0 a1 w1 i0 g0 h0=>?_
       show LeavesInM Fence.wide 0 P fn a1.tmps (AD P iv σ m w _) a1.defers (.panicking _) w1
       rw[g0]
       exact⟨rfl,e0,h0.vo⟩
  ·cases g with
   |func f=>exact⟨f,rfl⟩
   |_=>unfold hZ at h;cases h
end
end
section
section
variable {E:Env} {X:aG} {B:fI}
theorem nS{call:aG}{pan:fI}(H:∀g args m m',pan g args m=some m'->call g args m=none){ops:Array Oper}:∀(l:List Oper) (fr F:Fr),eQ E call pan ops l fr=some F->vM E call ops l fr=none
 |[],fr,F,h=>by unfold eQ at h;cases h
 |o::l,fr,F,h=>by
  unfold eQ at h
  rw[kr]
  cases hw:bV ops fr.T o with
  |false=>
   rw[hw]at h
   simp only[cond_false]at h⊢
   exact nS H l _ _ h
  |true=>
   rw[hw]at h
   simp only[cond_true]at h⊢
   cases ho:dt o.op E call fr.T fr.m with
   |none=>rfl
   |some p=>
    obtain⟨v,m1⟩:=p
    rw[ho]at h
    exact nS H l _ _ h
theorem uW{call:aG}{T:Tr aed}{o:Op}(hp:gV o=true){m1 m2:M}(h1:m2.st=m1.st)(h2:m2.n=m1.n):dt o E call T m2=(dt o E call T m1).map λp=>(p.1,m2):=by
 cases o <;>simp[gV,eO]at hp <;>simp only[dt]
 case move=>rfl
 case assign=>rfl
 case pick=>unfold nW;split <;>rfl
 case build=>unfold oV;split <;>rfl
 case load=>
  obtain⟨st1,n1,F⟩:=m1;obtain⟨WH,n2,H⟩:=m2;simp only at h1 h2;subst h1;subst h2;unfold qi;split
  ·rename_i a _
   have:∀t,loadVar E ⟨WH,n2,H⟩ t a=loadVar E ⟨WH,n2,F⟩ t a:=λt=>by unfold loadVar D.loadCells D.cellAt;rfl
   rw[this];split <;>rfl
  rfl
 case nilCheck=>unfold fS;split <;>rfl
 case binOp=>unfold yQ;split <;>rfl
 case unOp=>unfold Hm;split <;>rfl
 case makeFunc=>unfold ia;split <;>rfl
 case fieldAddr=>unfold iA;split <;>rfl
 case field=>unfold oU;split <;>rfl
 case indexAddr=>unfold iz;split <;>rfl
 case index=>unfold oT;split <;>rfl
 case extract=>
  unfold jg;split;·split <;>rfl
  rfl
theorem mU{call:aG}{pan:fI}(hp:∀g args m m',pan g args m=some m'->call g args m=none){ops:Array Oper}{p:Nat}{m m':M}:∀(l:List Oper) (j:Nat) (T:Tr aed) (r:Option M) (m0:M),m0.st=m.st->m0.n=m.n->
  cX E call pan ops p m l j T r=some m'->j<=p->p < j+l.length->fO E call ops l j ⟨T,m0⟩=none
 |[],j,T,r,m0,_,_,h,h1,h2=>by simp only[abc]at h2;omega
 |o::l,j,T,r,m0,e1,e2,h,h1,h2=>by
  simp only[aaJ]at h2
  have e3:({m0 with low:=m0.n}:M)={m with low:=m.n}:=by
   cases m0;cases m;simp only at e1 e2;subst e1;subst e2;rfl
  unfold cX at h
  rw[fA]
  cases a0:Nat.beq j p with
  |true=>
   rw[a0,cond_true]at h
   cases hw:(iO ops o && bV ops T o)with
   |false=>rw[hw]at h;cases h
   |true=>
    rw[hw,cond_true]at h
    simp only[Ψ]at hw
    have hw:=hw.2
    split at h
    ·rename_i m1 H
     simp only[hw,cond_true]
     have:dt o.op E call T {m0 with low:=m0.n}=none:=by
      rw[e3]
      unfold je at H
      split at H
      ·rename_i c hc
       split at H
       ·rename_i f hf
        split at H
        ·rename_i g first captured hg
         rw[hc]
         simp only[dt,kM,hf,hg,hp _ _ _ _ H]
        ·cases H
       ·cases H
      ·cases H
     rw[this]
    ·cases h
  |false=>
   have e0:j≠p:=λe=>by rw[e,aa4]at a0;cases a0
   have b0:Nat.blt p j=false:=by rw[eK];simp;omega
   have hb:behind ops p j=false:=by
    unfold behind
    rw[b0]
    rfl
   rw[a0,cond_false,hb,b0,aaz,aaE,cond_false]at h
   cases F:(gV o.op && iO ops o)with
   |false=>rw[F]at h;cases h
   |true=>
    rw[F,cond_true]at h
    simp only[Ψ]at F
    have F:=F.1
    cases hw:bV ops T o with
    |false=>
     rw[hw,cond_false]at h
     simp only[hw,cond_false]
     exact mU hp l (j+1) _ r m0 e1 e2 h (by omega) (by omega)
    |true=>
     rw[hw,cond_true]at h
     simp only[hw,cond_true]
     split at h
     ·rename_i v m1 H
      have h4:=uW (E:=E) (call:=call) (T:=T) (m1:={m with low:=m.n}) (m2:={m0 with low:=m0.n}) F e1 e2
      rw[H]at h4
      simp only[aag]at h4
      rw[h4]
      simp only
      have d0:Nat.ble m0.n m0.n=true:=Nat.ble_self_eq_true m0.n
      rw[d0]
      simp only[aaM,cond_true]
      exact mU hp l (j+1) _ r _ e1 e2 h (by omega) (by omega)
     ·cases h
theorem sK{call:aG}{pan:fI}(hp:∀g args m m',pan g args m=some m'->call g args m=none){n:Nat}{dr:Bool}:∀(c:Code) (fr F:Fr),dD E dr call pan n c fr=some F->bz E call n c fr=none:=by
 intro c
 induction c with
 |region id ops d=>
  intro fr F h
  unfold dD at h
  cases d with
  |true=>
   rw[cond_true]at h
   cases dr with
   |false=>cases h
   |true=>simp only[cond_true,aaj]at h;obtain⟨m1,h1,rfl⟩:=h;unfold bz;obtain⟨_,b0,_⟩:=ew _ _ _ _ h1;have:=mU hp ops.toList 0 fr.T none fr.m rfl rfl h1 (aaQ _) (b0 rfl);simp only[cond_true,this,aa2]
  |false=>unfold bz;have h:eQ E call pan ops ops.toList fr=some F:=h;have:=nS hp _ _ _ h;simp only[cond_false,this,aa2]
 |seq x y a0 H=>
  intro fr F h
  unfold dD at h
  unfold bz
  cases hx:bz E call n x fr with
  |none=>rfl
  |some p=>
   obtain⟨e1,d0⟩:=p
   rw[hx]at h
   cases e1 with
   |normal=>exact H _ _ h
   |exit id=>cases h
   |ret=>cases h
 |cond c x y a0 H=>
  intro fr F h
  unfold dD at h
  unfold bz
  cases hv:ev fr.T c with
  |bool t=>
   rw[hv]at h
   cases t with
   |true=>exact a0 _ _ h
   |false=>exact H _ _ h
  |_=>rfl
 |block id c ih=>intro fr F h;unfold dD at h;unfold bz;rw[ih _ _ h]
 |scope c ih=>intro fr F h;unfold dD at h;unfold bz;exact ih _ _ h
 |_=>intro fr F h;simp[dD]at h
theorem Br(hB:∀g args m m',B g args m=some m'->∀n,bO E X n g args m=none):∀n g args m m',hZ E X B n g args m=some m'->bO E X n g args m=none
 |0,g,args,m,m',h=>by unfold hZ at h;cases h
 |n+1,g,args,m,m',h=>by
  have h0:=h
  cases g with
  |func f=>
   unfold hZ at h
   split at h
   ·rename_i m1 hb
    exact hB _ _ _ _ hb (n+1)
   ·split at h
    ·cases h
    ·rename_i fn a0
     split at h
     ·cases h
     ·rename_i body F
      cases H:(Nat.ble args.length fn.ntmps && eM body && (X (.func f) args m).isNone)with
      |false=>rw[H]at h;cases h
      |true=>
       rw[H]at h
       simp only[cond_true,aaj]at h
       obtain⟨fr,h,rfl⟩:=h
       have:=sK (Br hB n) _ _ _ h
       simp only[Ψ]at H
       have b0:X (.func f) args m=none:=Option.isNone_iff_eq_none.1 H.2
       have H:=H.1
       unfold bO
       rw[b0,a0]
       simp only[F,H.1,cond_true,this]
  |_=>unfold hZ at h;cases h
end
noncomputable section
variable (E:Env) (X:aG) (B:fI)
def Cp(f:Fn)(args:aee)(m:M)(b:Nat)(m':M):Prop:=
 m.n<=m'.n/\b<=m.n/\∃F,∀n,F<=n->∀l,l<=m.n->hZ E X B n f args (m.wl l)=some (m'.wl (min l b))
@[reducible] def dA:Fn->aee->M->(M->Nat->Prop)->Prop:=λg args m P=>∃m1 b,Cp E X B g args m b m1/\P m1 b
variable (W:Words) (CP:Fn->aee->M->(M->Nat->Prop)->Prop)
def Bs(o:Op)(K:KT)(m:M)(lo:Nat)(PN:M->Nat->Prop):Prop:=match o with
 |.call c=>match c.callee with
  |.value f=>aj (jY K f) λf=>jN f λg F H=>aj (wE K c.args.toList) λargs=>CP g (F.toList++(args++H.toList)) m λm1 b=>PN m1 (min lo b)
  |_=>False
 |_=>False
def uO(ops:Array Oper):List Oper->St->(M->Nat->Prop)->Prop
 |[],_,_=>False
 |o::rest,s,F=>yA ops s.K o
   (λK=>match Ae o.op with
    |true=>Bs CP o.op K s.m s.lo F\/QF E W o.op false none K s.m s.lo λv m lo=>uO ops rest ⟨mS K o.dst (.v v),m,lo⟩ F
    |false=>QF E W o.op false none K s.m s.lo λv m lo=>uO ops rest ⟨mS K o.dst (.v v),m,lo⟩ F)
   (λK=>uO ops rest ⟨mS K o.dst .u,s.m,s.lo⟩ F)
def CD:Code->Bool
 |.region _ ops _=>ops.toList.any λo=>Ae o.op
 |.seq a b=>CD a ||CD b
 |.cond _ x y=>CD x ||CD y
 |.block _ c=>CD c
 |.scope c=>CD c
 |_=>false
def pT(ops:Array Oper)(p:Nat):List Oper->Nat->St->(M->Nat->Prop)->Prop
 |[],_,_,_=>True
 |o::rest,j,s,F=>match Nat.beq j p with
  |true=>match iO ops o with
   |true=>yA ops s.K o (λK=>Bs CP o.op K s.m s.lo F/\pT ops p rest (j+1) ⟨K,s.m,s.lo⟩ F) (λ_=>False)
   |false=>False
  |false=>match behind ops p j ||(Nat.blt p j && ru E o)with
   |true=>pT ops p rest (j+1) s F
   |false=>match gV o.op && iO ops o with
    |true=>yA ops s.K o (λK=>QF E W o.op false none K s.m s.lo λv _ _=>pT ops p rest (j+1) ⟨mS K o.dst (.v v),s.m,s.lo⟩ F) (λK=>pT ops p rest (j+1) ⟨mS K o.dst .u,s.m,s.lo⟩ F)
    |false=>False
def AN(H:Bool):Code->List Nat->St->(M->Nat->Prop)->Prop
 |.region _ ops d,_,s,F=>match d with
  |true=>(match H && Nat.blt (wS ops) ops.size with
   |true=>pT E W CP ops (wS ops) ops.toList 0 s F
   |false=>False)
  |false=>uO E W CP ops ops.toList s F
 |.seq a b,rd,s,F=>match CD a with
  |true=>AN H a rd s F\/sj E W a (reads b++rd) s (λe s'=>e.IK (AN H b rd s' F) False)
  |false=>sj E W a (reads b++rd) s (λe s'=>e.IK (AN H b rd s' F) False)
 |.cond c x y,rd,s,F=>aj (jY s.K c) λv=>bD v (AN H x rd s F) (AN H y rd s F)
 |.block _ c,rd,s,F=>AN H c rd s F
 |.scope c,rd,s,F=>AN H c rd s F
 |_,_,_,_=>False
def qP(fn:Func)(args:aee)(m:M)(PN:M->Nat->Prop):Prop:=
 match fn.body with
 |some body=>match eM body with |true=>AN E W CP true body (tn fn.results.toList) ⟨sX args 0,m,m.n⟩ PN |false=>False
 |none=>False
end
section
variable {E:Env} {X:aG} {B:fI}
theorem vH{o:Op}{K:KT}{T:Tr aed}{m:M}{lo:Nat}{PN:M->Nat->Prop}(h:Bs (dA E X B) o K m lo PN)(F:Kn K T)(H:lo<=m.n):
  ∃m1 b,PN m1 (min lo b)/\m.n<=m1.n/\b<=m.n/\∃n0,∀n,n0<=n->je (hZ E X B n) T (m.wl lo) o=some (m1.wl (min lo b))/\
   ∀call:aG,(∀g args m m',hZ E X B n g args m=some m'->call g args m=none)->dt o E call T (m.wl lo)=none:=by
 unfold Bs at h;split at h
 ·rename_i c;split at h
  ·rename_i f hf;obtain⟨_,h1,h⟩:=aZ.1 h;obtain⟨g,fi,ca,rfl,h⟩:=od.1 h;obtain⟨args,h2,m1,b,⟨hn,hb,n0,hc⟩,hP⟩:=aZ.1 h;refine⟨m1,b,hP,hn,hb,n0,λn hn=>?_⟩;have e:=hc n hn lo H;refine⟨?_,λcall cz=>?_⟩;·simp only[je,hf,bd F h1,fZ F h2,e]
   simp only[dt,kM,hf,bd F h1,fZ F h2,cz _ _ _ _ e]
  exact h.elim
 exact h.elim
variable (hN:∀n g args m m',hZ E X B n g args m=some m'->bO E X n g args m=none)
include hN
theorem nH{ops:Array Oper}:∀(l:List Oper) (s:St) (PN:M->Nat->Prop),uO E (aI E X) (dA E X B) ops l s PN->∀T,Kn s.K T->s.lo<=s.m.n->
  ∃m1 b0 T',PN m1 b0/\s.m.n<=m1.n/\b0<=m1.n/\(∀t,(∀o∈l,∀d,o.dst=some d->d≠t)->T'.get t=T.get t)/\∃n0,∀n,n0<=n->eQ E (bO E X n) (hZ E X B n) ops l ⟨T,s.m.wl s.lo⟩=some ⟨T',m1.wl b0⟩
 |[],s,PN,h,T,hk,H=>h.elim
 |o::rest,s,PN,h,T,hk,H=>by
  unfold uO at h
  obtain⟨K1,hk,⟨hw,h⟩ |⟨hw,h⟩⟩:=lv h hk
  ·have h:Bs (dA E X B) o.op K1 s.m s.lo PN\/QF E (aI E X) o.op false none K1 s.m s.lo λv m lo=>uO E (aI E X) (dA E X B) ops rest ⟨mS K1 o.dst (.v v),m,lo⟩ PN:=by
    revert h
    cases Ae o.op with
    |true=>exact id
    |false=>exact .inr
   rcases h with h |h
   ·obtain⟨m1,b,hP,hn,hb,n0,hr⟩:=vH h hk H
    refine⟨m1,_,T,hP,hn,by omega,λ_ _=>rfl,n0,λn hn=>?_⟩
    obtain⟨e1,e2⟩:=hr n hn
    unfold eQ
    rw[mN hw]
    dsimp only[cond_true]
    rw[e2 _ (hN n)]
    dsimp only
    rw[e1]
    rfl
   ·obtain⟨v,m1,w,d0,h0,_,n1,g0⟩:=sq h hk H
    obtain⟨m2,nz,T',hP,F,a0,hT,n2,hr⟩:=nH rest _ PN d0 (put T o.dst v) (hk.put _ (.v v)) (by show min s.lo w<=m1.n;omega)
    dsimp only at F hr
    refine⟨m2,nz,T',hP,by omega,a0,λt ht=>?_,max n1 n2,λn hn=>?_⟩
    ·rw[hT t λo' e0=>ht o' (aaZ _ e0),ko _ _ _ _ (ht o aaP)]
    ·unfold eQ
     rw[mN hw]
     dsimp only[cond_true]
     rw[g0 n (by omega) s.lo H]
     exact hr n (by omega)
  ·obtain⟨m2,nz,T',hP,F,a0,hT,n2,hr⟩:=nH rest _ PN h (put T o.dst undef) (hk.put _ .u) H
   refine⟨m2,nz,T',hP,F,a0,λt ht=>?_,n2,λn hn=>?_⟩
   ·rw[hT t λo' e0=>ht o' (aaZ _ e0),ko _ _ _ _ (ht o aaP)]
   ·unfold eQ
    rw[mN hw]
    exact hr n hn
omit hN in
theorem iI{ops:Array Oper}{p:Nat}:∀(l:List Oper) (j:Nat) (s:St) (PN:M->Nat->Prop),pT E (aI E X) (dA E X B) ops p l j s PN->∀T,Kn s.K T->s.lo<=s.m.n->
  (j<=p->p < j+l.length->∃m1 F,PN m1 F/\s.m.n<=m1.n/\F<=m1.n/\∃n0,∀n,n0<=n->cX E (bO E X n) (hZ E X B n) ops p (s.m.wl s.lo) l j T none=some (m1.wl F))/\
  (p < j->∃n0,∀n,n0<=n->∀m1,cX E (bO E X n) (hZ E X B n) ops p (s.m.wl s.lo) l j T (some m1)=some m1)
 |[],j,s,PN,h,T,hk,a0=>⟨λh1 h2=>(by simp only[abc]at h2;omega),λ_=>⟨0,λn _ m1=>rfl⟩⟩
 |o::rest,j,s,PN,h,T,hk,a0=>by
  unfold pT at h
  simp only[aaJ]
  cases H:Nat.beq j p with
  |true=>
   obtain rfl:=aab H
   rw[H]at h
   dsimp only at h
   cases g0:iO ops o with
   |false=>rw[g0]at h;exact h.elim
   |true=>
   rw[g0]at h
   obtain⟨K1,hk,⟨hw,h⟩ |⟨hw,h⟩⟩:=lv h hk
   ·obtain⟨ha,hb⟩:=h
    refine⟨λ_ _=>?_,λhh=>by omega⟩
    obtain⟨n2,hr⟩:=(iI rest (j+1) _ PN hb T hk a0).2 (by omega)
    obtain⟨m1,b,hP,hn,k0,n0,hp⟩:=vH (lo:=s.m.n) (PN:=λm1 F=>PN m1 (min s.lo F)) (by
     have:∀{o K m} {PN:M->Nat->Prop} {lo:Nat},lo<=m.n->Bs (dA E X B) o K m lo PN->Bs (dA E X B) o K m m.n (λm1 F=>PN m1 (min lo F)):=by
      intro o K m PN lo a0 hh
      unfold Bs at hh⊢
      split at hh
      ·split at hh
       ·rename_i f hf
        obtain⟨f',h1,hh⟩:=aZ.1 hh
        obtain⟨g,fi,ca,rfl,hh⟩:=od.1 hh
        obtain⟨args,h2,m1,b,hC,hP⟩:=aZ.1 hh
        refine aZ.2 ⟨_,h1,od.2 ⟨g,fi,ca,rfl,aZ.2 ⟨args,h2,m1,b,hC,?_⟩⟩⟩
        have hb:=hC.2.1
        show PN m1 (min lo (min m.n b))
        rw[Nat.min_eq_right hb]
        exact hP
       ·exact hh
      ·exact hh
     exact this a0 ha) hk (Ξ _)
    refine⟨m1,min s.lo (min s.m.n b),hP,hn,by omega,max n0 n2,λn l0=>?_⟩
    obtain⟨q1,_⟩:=hp n (by omega)
    unfold cX
    rw[H,cond_true,g0,hw,aco,cond_true]
    have e1:je (hZ E X B n) T {s.m.wl s.lo with low:=(s.m.wl s.lo).n} o.op=some (m1.wl (min s.m.n b)):=q1
    rw[e1]
    exact hr n (by omega) _
   ·exact h.elim
  |false=>
   rw[H]at h
   have o0:j≠p:=λe=>by rw[e,aa4]at H;cases H
   dsimp only at h
   cases hb:(behind ops p j ||(Nat.blt p j && ru E o))with
   |true=>
    rw[hb]at h
    obtain⟨i1,i2⟩:=iI rest (j+1) s PN h T hk a0
    refine⟨λh1 h2=>?_,λh1=>?_⟩
    ·obtain⟨m1,F,hP,hn,b0,n0,hr⟩:=i1 (by omega) (by omega)
     refine⟨m1,F,hP,hn,b0,n0,λn hn=>?_⟩
     unfold cX
     rw[H,cond_false,hb,cond_true]
     exact hr n hn
    ·obtain⟨n0,hr⟩:=i2 (by omega)
     refine⟨n0,λn hn m1=>?_⟩
     unfold cX
     rw[H,cond_false,hb,cond_true]
     exact hr n hn m1
   |false=>
    rw[hb]at h
    dsimp only at h
    cases d0:(gV o.op && iO ops o)with
    |false=>rw[d0]at h;exact h.elim
    |true=>
     rw[d0]at h
     have i0:gV o.op=true:=by simp only[Ψ]at d0;exact d0.1
     obtain⟨K1,hk,⟨hw,h⟩ |⟨hw,h⟩⟩:=lv h hk
     ·obtain⟨v,m1,w,h0,_,_,n1,j0⟩:=sq h hk a0
      obtain⟨i1,i2⟩:=iI rest (j+1) _ PN h0 (put T o.dst v) (hk.put _ (.v v)) a0
      have e0:∀n,n1<=n->∃m2,dt o.op E (bO E X n) T {s.m.wl s.lo with low:=(s.m.wl s.lo).n}=some (v,m2):=λn hn=>by
       have e:=uW (E:=E) (call:=bO E X n) (T:=T) (m1:=s.m.wl s.lo) (m2:={s.m.wl s.lo with low:=(s.m.wl s.lo).n}) i0 rfl rfl
       rw[j0 n hn s.lo a0]at e
       exact⟨_,e⟩
      refine⟨λh1 h2=>?_,λh1=>?_⟩
      ·obtain⟨m1,F,hP,hn,b0,n0,hr⟩:=i1 (by omega) (by omega)
       refine⟨m1,F,hP,hn,b0,max n0 n1,λn hn=>?_⟩
       obtain⟨m2,e2⟩:=e0 n (by omega)
       unfold cX
       rw[H,cond_false,hb,cond_false,d0,cond_true,hw,cond_true,e2]
       exact hr n (by omega)
      ·obtain⟨n0,hr⟩:=i2 (by omega)
       refine⟨max n0 n1,λn hn m1=>?_⟩
       obtain⟨m2,e2⟩:=e0 n (by omega)
       unfold cX
       rw[H,cond_false,hb,cond_false,d0,cond_true,hw,cond_true,e2]
       exact hr n (by omega) m1
     ·obtain⟨i1,i2⟩:=iI rest (j+1) _ PN h (put T o.dst undef) (hk.put _ .u) a0
      refine⟨λh1 h2=>?_,λh1=>?_⟩
      ·obtain⟨m1,F,hP,hn,b0,n0,hr⟩:=i1 (by omega) (by omega)
       refine⟨m1,F,hP,hn,b0,n0,λn hn=>?_⟩
       unfold cX
       rw[H,cond_false,hb,cond_false,d0,cond_true,hw,cond_false]
       exact hr n hn
      ·obtain⟨n0,hr⟩:=i2 (by omega)
       refine⟨n0,λn hn m1=>?_⟩
       unfold cX
       rw[H,cond_false,hb,cond_false,d0,cond_true,hw,cond_false]
       exact hr n hn m1
theorem il{dr:Bool}:∀(c:Code) (rd:List Nat) (s:St) (PN:M->Nat->Prop),AN E (aI E X) (dA E X B) dr c rd s PN->∀T,Kn s.K T->s.lo<=s.m.n->
  ∃m1 H T',PN m1 H/\s.m.n<=m1.n/\H<=m1.n/\(∀t,t∉assigned c->T'.get t=T.get t)/\∃n0,∀n,n0<=n->dD E dr (bO E X n) (hZ E X B n) n c ⟨T,s.m.wl s.lo⟩=some ⟨T',m1.wl H⟩
 |.region id ops d,_,s,PN,h,T,hk,a0=>by
  unfold AN at h
  cases d with
  |true=>
   dsimp only at h
   cases hc:(dr && Nat.blt (wS ops) ops.size)with
   |false=>rw[hc]at h;exact h.elim
   |true=>
    rw[hc]at h
    simp only[Ψ]at hc
    obtain⟨rfl,b0⟩:=hc
    rw[eK]at b0
    have b0:wS ops < ops.toList.length:=by simpa using b0
    obtain⟨m1,H,hP,hn,F,hr⟩:=(iI ops.toList 0 s PN h T hk a0).1 (aaQ _) (by omega)
    refine⟨m1,H,T,hP,hn,F,λt ht=>rfl,?_⟩
    obtain⟨n0,hr⟩:=hr
    refine⟨n0,λn hn=>?_⟩
    unfold dD
    simp only[cond_true,hr n hn,aag]
  |false=>
   obtain⟨m1,H,T',hP,hn,F,hT,n0,hr⟩:=nH hN ops.toList s PN h T hk a0
   refine⟨m1,H,T',hP,hn,F,λt ht=>hT t λo ho d hd e=>ht ?_,n0,λn hn=>?_⟩
   ·subst e
    unfold assigned
    exact acL.2 ⟨o,ho,hd⟩
   ·unfold dD
    exact hr n hn
 |.seq a b,rd,s,PN,h,T,hk,a0=>by
  unfold AN at h
  have h:AN E (aI E X) (dA E X B) dr a rd s PN\/sj E (aI E X) a (reads b++rd) s (λe s'=>e.IK (AN E (aI E X) (dA E X B) dr b rd s' PN) False):=by
   revert h
   cases CD a with
   |true=>exact id
   |false=>exact .inr
  rcases h with h |h
  ·obtain⟨m1,H,T',hP,hn,F,hT,n0,hr⟩:=il a rd s PN h T hk a0
   refine⟨m1,H,T',hP,hn,F,λt ht=>hT t λh=>ht (by unfold assigned;exact adh _ h),n0,λn hn=>?_⟩
   have e1:=hr n hn
   unfold dD
   rw[sK (hN n) _ _ _ e1]
   exact e1
  ·obtain⟨e,s1,T1,h1,g0,h0,d0,n1,e0⟩:=dz a _ s _ h T hk a0
   cases e with
   |normal=>
    obtain⟨m1,H,T',hP,hn,F,hT,n0,hr⟩:=il b rd s1 PN h1 T1 g0 d0
    refine⟨m1,H,T',hP,by omega,F,λt ht=>?_,max n0 n1,λn hn=>?_⟩
    ·rw[hT t λh=>ht (by unfold assigned;exact adL _ h)]
     exact dM a _ _ _ (e0 n1 (Ξ _)) λh=>ht (by unfold assigned;exact adh _ h)
    ·unfold dD
     rw[e0 n (by omega)]
     exact hr n (by omega)
   |exit id=>exact h1.elim
   |ret=>exact h1.elim
 |.cond c x y,rd,s,PN,h,T,hk,a0=>by
  unfold AN at h
  obtain⟨_,hb,h⟩:=aZ.1 h
  obtain⟨b,rfl,h⟩:=uz.1 h
  cases b with
  |true=>
   obtain⟨m1,H,T',hP,hn,F,hT,n0,hr⟩:=il x rd s PN h T hk a0
   refine⟨m1,H,T',hP,hn,F,λt ht=>hT t λh=>ht (by unfold assigned;exact adh _ h),n0,λn hn=>?_⟩
   unfold dD
   rw[bd hk hb]
   exact hr n hn
  |false=>
   obtain⟨m1,H,T',hP,hn,F,hT,n0,hr⟩:=il y rd s PN h T hk a0
   refine⟨m1,H,T',hP,hn,F,λt ht=>hT t λh=>ht (by unfold assigned;exact adL _ h),n0,λn hn=>?_⟩
   unfold dD
   rw[bd hk hb]
   exact hr n hn
 |.block id c,rd,s,PN,h,T,hk,a0=>by
  unfold AN at h
  obtain⟨m1,H,T',hP,hn,F,hT,n0,hr⟩:=il c rd s PN h T hk a0
  refine⟨m1,H,T',hP,hn,F,λt ht=>hT t λh=>ht (by unfold assigned;exact h),n0,λn hn=>?_⟩
  unfold dD
  exact hr n hn
 |.scope c,rd,s,PN,h,T,hk,a0=>by
  unfold AN at h
  obtain⟨m1,H,T',hP,hn,F,hT,n0,hr⟩:=il c rd s PN h T hk a0
  refine⟨m1,H,T',hP,hn,F,λt ht=>hT t λh=>ht (by unfold assigned;exact h),n0,λn hn=>?_⟩
  unfold dD
  exact hr n hn
 |.skip,_,_,_,h,_,_,_=>h.elim
 |.label _,_,_,_,h,_,_,_=>h.elim
 |.loop _,_,_,_,h,_,_,_=>h.elim
 |.rangeFunc ..,_,_,_,h,_,_,_=>h.elim
 |.exit _,_,_,_,h,_,_,_=>h.elim
 |.ret,_,_,_,h,_,_,_=>h.elim
 |.goto _,_,_,_,h,_,_,_=>h.elim
 |.refuse _,_,_,_,h,_,_,_=>h.elim
theorem Cp.body{f:Nat}{fn:Func}{args:aee}{m:M}{PN:M->Nat->Prop}(hf:E.fn.get f=some fn)(hl:Nat.ble args.length fn.ntmps=true)(hX:IQ X f)(hb:∀args m,B (.func f) args m=none)(h:qP E (aI E X) (dA E X B) fn args m PN):
  ∃m' lo,PN m' lo/\Cp E X B (.func f) args m (min m.n lo) m':=by
 unfold qP at h;split at h
 ·rename_i body H
  have a0:eM body=true:=by
   revert h
   cases eM body with
   |true=>exact λ_=>rfl
   |false=>exact λh=>h.elim
  rw[a0]at h
  obtain⟨m1,F,T',hP,hn,b0,hT,n0,hr⟩:=il hN _ _ _ _ h (enter args 0) (kz _ _) (Ξ _)
  refine⟨m1,F,hP,hn,acI _ _,n0+1,λn hn l d0=>?_⟩
  obtain⟨n,rfl⟩:∃k,n=k+1:=⟨n-1,by omega⟩
  have e1:dD E true (bO E X n) (hZ E X B n) n body {T:=enter args 0,m:={m.wl l with low:=(m.wl l).n}}=some ⟨T',m1.wl F⟩:=hr n (by omega)
  unfold hZ
  simp only[hb,hf,H,hl,a0,hX _ _,acv,aco,cond_true,e1,aag]
  show some (m1.wl (min l F))=some (m1.wl (min l (min m.n F)))
  congr 2
  omega
 exact h.elim
end
end
section
noncomputable section
variable (E:Env)
def js:List Oper->Tr aed->Option (Tr aed)
 |[],T=>some T
 |o::os,T=>match o.guard,o.op with
  |none,.assign x=>js os (put T o.dst (ev T x))
  |none,.move x=>js os (put T o.dst (ev T x))
  |_,_=>none
def kJ(r:aed):List Oper->Tr aed->Option (Tr aed)
 |[],_=>none
 |o::os,T=>match o.guard,o.op with
  |none,.call c=>match c.callee with
   |.builtin .recover=>bif c.args.toList.isEmpty then js os (put T o.dst r)else none
   |_=>none
  |_,_=>none
def pQ(r:aed)(ex:Code->Fr->Option (Ex×Fr))(g:Nat)(args:aee)(m:M):Option M:=
 match E.cl.get g with
 |some c=>
  bif Nat.ble args.length c.fn.ntmps && (c.fn.results.toList.isEmpty && eM c.rest)then
   match kJ r c.ops.toList (enter args 0)with
   |some T=>match ex c.rest {T:=T,m:={m with low:=m.n}}with
    |some (.exit _,_) |none=>none
    |some (_,fr)=>some {fr.m with low:=min m.low fr.m.low}
   |none=>none
  else none
 |none=>none
def ik(X:aG)(B:fI)(r:aed)(n:Nat)(d:Gd)(args:aee)(m:M):Option (aed×M):=
 bif Nat.ble args.length d.fn.ntmps && eM d.post then
  match jS (bz E (bO E X n) n) d.pre {T:=enter args 0,m:={m with low:=m.n}}with
  |some (.normal,fr)=>
   match d.mf.guard,d.mf.dst,d.mf.op,d.de.guard,d.de.op with
   |none,some H,.makeFunc (.func g) fi ca,none,.defer c=>
    match c.callee with
    |.value (.tmp t)=>
     bif Nat.beq t H && (c.args.toList.isEmpty && fi.toList.isEmpty)then
      match dD E false (bO E X n) (hZ E X B n) n d.post {T:=put (put fr.T (some H) (.func (.func g) #[] (ca.toList.map (ev fr.T)).toArray)) d.de.dst undef,m:=fr.m}with
      |none=>none
      |some F=>match pQ E r (bz E (bO E X n) n) g (ca.toList.map (ev fr.T)) F.m with
       |some m3=>xN E d.fn m {F with m:=m3}
       |none=>none
     else none
    |_=>none
   |_,_,_,_,_=>none
  |_=>none
 else none
end
section
variable {E:Env} {P:Program} {call:aG} {nt:Nat} {σ σ':Sg} {m m':M} {w w':World} {a:Act} {r:aed}
theorem vR{ops:Array Oper}(b0:∀o∈ops.toList,eD nt P.globals.size o=true){n:Nat}{cs:List Frame}(hs:dY P σ m w){Q:Exit->Act->List Frame->World->Prop}{ds:List Deferred}{T':Tr aed}:
  ∀(l:List Oper) (i:Nat) (T:Tr aed) (a:Act),(∀j o,l[j]?=some o->ops[i+j]?=some o)->js l T=some T'->di σ T a nt->a.defers=ds->
  (∀a',di σ T' a' nt->a'.defers=ds->Q .normal a' cs w)->wpOpsSIn Fence.wide n P ops Q (List.range' i l.length) a cs w
 |[],i,T,a,_,h,hf,hd,hQ=>by
  cases h
  simp only[abc,List.range'_zero,wpOpsSIn]
  exact hQ a hf hd
 |o::l,i,T,a,hi,h,hf,hd,hQ=>by
  have ho:ops[i]?=some o:=by have:=hi 0 o rfl;simpa using this
  have e0:o∈ops.toList:=by simpa using abx ho
  have d0:=b0 o e0
  have next:∀(v v':aed),js l (put T o.dst v)=some T'->aS σ v v'->wpOpsSIn Fence.wide n P ops Q (List.range' (i+1) l.length) (a.put o.dst v') cs w:=λv v' h1 h2=>
   vR b0 hs l (i+1) _ _ (λj o' hj=>by have:=hi (j+1) o' (by simpa using hj);rw[show i+1+j=i+(j+1) by omega];exact this) h1 (hf.put (du d0) h2) (by rw[put_defers];exact hd) hQ
  simp only[aaJ,ac2,wpOpsSIn,ho]
  refine⟨λ_ _=>trivial,?_⟩
  unfold js at h
  have hw:o.guard=none->Region.wanted o (yielded ops a.tmps)=true:=by
   intro hg
   unfold Region.wanted
   rw[hg]
  have F:∀x∈o.op.operands.toList,aS σ (ev T x) (a.eval x):=λx hx=>hf.vN hs (eC d0 x hx)
  split at h
  ·rename_i x hg H
   rw[aaf (hw hg)]
   have a0:(execOp a.eval o).run P w=.ok (.value (a.eval x)) w:=by
    unfold execOp
    rw[H]
    rfl
   rw[a0]
   exact next _ _ h (F x (by rw[H];simp[Op.operands]))
  ·rename_i x hg H
   rw[aaf (hw hg)]
   have a0:(execOp a.eval o).run P w=.ok (.value (a.eval x)) w:=by
    unfold execOp
    rw[H]
    rfl
   rw[a0]
   exact next _ _ h (F x (by rw[H];simp[Op.operands]))
  ·cases h
theorem Bl{ops:Array Oper}(H:∀o∈ops.toList,eD nt P.globals.size o=true){n:Nat}{F:Frame}{cs:List Frame}(hu:F.mode=.panicking [{v:=r,recovered:=false}])(hr:cy r=true)(hs:dY P σ m w){Q:Exit->Act->List Frame->World->Prop}{ds:List Deferred}{T T':Tr aed}{a:Act}
  (h:kJ r ops.toList T=some T') (hf:di σ T a nt) (hd:a.defers=ds)
  (hQ:∀a',di σ T' a' nt->a'.defers=ds->Q .normal a' ({F with mode:=.panicking [{v:=r,recovered:=true}]}::cs) w):wpOpsSIn Fence.wide n P ops Q (List.range' 0 ops.toList.length) a (F::cs) w:=by
 cases hl:ops.toList with
 |nil=>rw[hl]at h;cases h
 |cons o l=>
  rw[hl]at h;have ho:ops[0]?=some o:=by rw[<-aaY,hl];rfl
  have a0:o∈ops.toList:=by rw[hl];exact aaP
  have b0:=H o a0;simp only[aaJ,ac2,wpOpsSIn,ho];refine⟨λ_ _=>trivial,?_⟩;unfold kJ at h;dsimp only at h;split at h
  ·rename_i c hg h0;have hw:Region.wanted o (yielded ops a.tmps)=true:=by unfold Region.wanted;rw[hg]
   rw[aaf hw];split at h
   ·rename_i hc
    cases d0:c.args.toList.isEmpty with
    |false=>rw[d0]at h;cases h
    |true=>
     rw[d0,cond_true]at h
     have e0:(execOp a.eval o).run P w=.ok .recover w:=by unfold execOp;rw[h0];unfold resolve;dsimp only;rw[hc];simp only[aan,aaL,aai,invoke,Go.builtin]
     rw[e0];have g0:recoverD (F::cs)=some (r,{F with mode:=.panicking [{v:=r,recovered:=true}]}::cs):=by simp[recoverD,hu]
     simp only[g0];refine vR H hs l 1 _ _ (λj o' hj=>?_) h (hf.put (du b0) (.flat _ hr)) (by rw[put_defers];exact hd) hQ;rw[<-aaY,hl,show 1+j=j+1 by omega];exact hj
   cases h
  cases h
theorem Et(hE:E.OK P)(cz:cQ P call){n:Nat}{g:Nat}{args:aee}{m3:M}(hr:cy r=true)(h:pQ E r (bz E call n) g args m=some m3){args':Array aed}(hs:dY P σ m w)(hl:bC σ args args'.toList):
  CallsDIn Fence.wide 0 P g args' (.panicking [{v:=r,recovered:=false}]) w (λe u' w'=>u'=.panicking [{v:=r,recovered:=true}]/\∃v,e=.returned v/\∃σ',Ev P σ m w σ' m3 w')/\(callFunc g args').run P w=.ok (.enter g args') w:=by
 unfold pQ at h;split at h
 ·rename_i c hc
  obtain⟨g0,H⟩:=hE.cl g c hc
  have a0:=hE.Qg hc
  refine⟨?_,mj g0 H a0⟩
  unfold jA at a0
  rw[H]at a0
  simp only[Ψ]at a0
  cases hb:(Nat.ble args.length c.fn.ntmps && (c.fn.results.toList.isEmpty && eM c.rest))with
  |false=>rw[hb]at h;cases h
  |true=>
   rw[hb]at h;simp only[cond_true]at h;simp only[Ψ,acq]at hb;obtain⟨hle,h0,o0⟩:=hb;have hle:=aar hle;have F:=a0.1;unfold cW at F;simp only[Ψ]at F;have b0:=F.1;unfold cW at b0;simp only[Ψ]at b0;have i0:∀o∈c.ops.toList,eD c.fn.ntmps P.globals.size o=true:=aay.1 b0.1;have j0:=ky (nt:=c.fn.ntmps) hl hle;split at h
   ·rename_i T hT
    have fin:∀(e:Ex) (fr:Fr),e=.normal\/e=.ret->bz E call n c.rest {T:=T,m:={m with low:=m.n}}=some (e,fr)->m3={fr.m with low:=min m.low fr.m.low}->
      CallsDIn Fence.wide 0 P g args' (.panicking [{v:=r,recovered:=false}]) w (λe u' w'=>u'=.panicking [{v:=r,recovered:=true}]/\∃v,e=.returned v/\∃σ',Ev P σ m w σ' m3 w'):=by
     intro e fr e0 hex hm
     subst hm
     refine callsDIn_of_wpSIn g0 H trivial λd0 cs hu=>wpSIn_seq (wpSIn_region ?_)
     rw[ac7,<-aas]
     refine Bl (nt:=c.fn.ntmps) i0 hu hr hs hT j0 rfl λa' q0 k0=>?_
     refine wpSIn_of_wpIn rfl ?_
     refine fY hE cz c.rest _ e fr F.2 hex none 0 w.heap.size σ a' w _ [] (.inl rfl) q0 (hs.low m.n) ⟨[],by rw[k0];rfl,trivial⟩ (Ξ _) λr0 a1 w1 A0 B0 s0 u0=>?_
     have l0:a1.defers=[]:=(s0 o0).trans k0
     have v0:(results c.fn a1.tmps).run P w1=.ok (.tuple #[]) w1:=by have:c.fn.results= #[]:=abm (by rw[<-aas,h0];rfl);unfold results;rw[this];simp
     have hq:a1.defers=[]/\∃u',({d0 with mode:=.panicking [{v:=r,recovered:=true}]}:Frame)::cs={d0 with mode:=u'}::cs/\∃v,(results c.fn a1.tmps).run P w1=.ok v w1/\
       (u'=.panicking [{v:=r,recovered:=true}]/\∃v',Ending.returned v=.returned v'/\∃σ',Ev P σ m w σ' {fr.m with low:=min m.low fr.m.low} w1):=
      ⟨l0,_,rfl,_,v0,rfl,_,rfl,r0,u0.vo⟩
     rcases e0 with rfl |rfl <;>exact hq
    split at h;·cases h
    ·cases h
    ·rename_i e fr z0 hex
     cases h
     refine fin e fr ?_ hex rfl
     cases e with
     |normal=>exact .inl rfl
     |ret=>exact .inr rfl
     |exit id=>exact absurd rfl (z0 id)
   cases h
 cases h
theorem CF(hE:E.OK P){X:aG}{B:fI}(hX:cQ P X)(hB:se P r B)(hr:cy r=true){n:Nat}{f:FuncId}{d:Gd}(hd:E.df.get f=some d){args:aee}{v:aed}(h:ik E X B r n d args m=some (v,m')){args':Array aed}(hs:dY P σ m w)(hl:bC σ args args'.toList):
  CallsIn Fence.wide 0 P f args' w (db P σ m w v m')/\(callFunc f args').run P w=.ok (.enter f args') w:=by
 have cz:=iD hE hX n
 obtain⟨E0,a0⟩:=hE.df f d hd
 have b0:=hE.Qf hd
 refine⟨?_,mj E0 a0 b0⟩
 unfold jA at b0
 rw[a0]at b0
 simp only[Ψ]at b0
 unfold ik at h
 cases hle:(Nat.ble args.length d.fn.ntmps && eM d.post)with
 |false=>rw[hle]at h;cases h
 |true=>
  rw[hle]at h;simp only[cond_true]at h;simp only[Ψ]at hle;obtain⟨hle,d0⟩:=hle;have hle:=aar hle;have F0:=ky (nt:=d.fn.ntmps) hl hle;have P0:=hs.low m.n;have F:=lS _ _ b0.1;unfold cW at F;simp only[Ψ]at F;have e0:=F.1;unfold cW at e0;simp only[Ψ]at e0;have q0:∀o∈(#[d.mf,d.de]:Array Oper).toList,eD d.fn.ntmps P.globals.size o=true:=aay.1 e0.1;refine callsIn_of_wp_marks E0 a0 trivial ?_;split at h
  ·rename_i fr hex;refine kb hE cz d.pre _ _ .normal fr b0.1 hex 0 w.heap.size σ _ w _ [] F0 P0 ⟨[],rfl,trivial⟩ (Ξ _) λg0 a1 w1 s0 Q0 u0=>?_;obtain⟨v0,h0,G0⟩:=Q0;have h0:a1.defers=v0:=by rw[h0,abk]
   dsimp only;split at h
   ·rename_i td g fi ca c S0 i0 z0 T0 U0;split at h
    ·rename_i t H0
     cases H:(Nat.beq t td && (c.args.toList.isEmpty && fi.toList.isEmpty))with
     |false=>rw[H]at h;cases h
     |true=>
      rw[H]at h;simp only[cond_true]at h;simp only[Ψ,acq]at H;obtain⟨ht,V0,X0⟩:=H;obtain rfl:=aab ht;have I0:fi= #[]:=abm (by rw[<-aas,X0];rfl);have J0:c.args= #[]:=abm (by rw[<-aas,V0];rfl);subst I0;have j0:=q0 d.mf (by simp);have K0:=q0 d.de (by simp);have r0:bC g0 (ca.toList.map (ev fr.T)) (ca.toList.map a1.eval):=iC _ (λo hx=>s0.vN u0.mL (eC j0 o (by rw[z0];simpa[Op.operands]using hx)));let cv:aed:=.func (.func g) #[] (ca.toList.map a1.eval).toArray
      have Y0:aS g0 (.func (.func g) #[] (ca.toList.map (ev fr.T)).toArray) cv:=.func g _ _ _ _ rfl (by simp) (λj u u' p q=>by simp at p) (λj u u' p q=>r0.2 j u u' (by simpa using p) (by simpa using q));have c1:ca.map a1.eval=(ca.toList.map a1.eval).toArray:=by apply abl;simp
      let dd:Deferred:={target:=.fn (.func g) (ca.toList.map a1.eval).toArray,args:= #[]}
      let a2:Act:=a1.put (some t) cv
      let a3:Act:=({a2 with defers:=dd::a2.defers}:Act).put d.de.dst undef
      have L0:di g0 (put fr.T (some t) (.func (.func g) #[] (ca.toList.map (ev fr.T)).toArray)) a2 d.fn.ntmps:=s0.put (λx hx=>du j0 x (by rw[i0];exact hx)) Y0
      have d1:di g0 (put (put fr.T (some t) (.func (.func g) #[] (ca.toList.map (ev fr.T)).toArray)) d.de.dst undef) a3 d.fn.ntmps:=
       di.put (a:=({a2 with defers:=dd::a2.defers}:Act)) ⟨L0.1,L0.2⟩ (du K0) aS.undef
      have e1:t < d.fn.ntmps:=du j0 t i0
      have g1:a2.eval (.tmp t)=cv:=by
       have:t < a1.tmps.size:=by rw[s0.1];exact e1
       simp[a2,Act.put,Act.eval,this]
      refine wpIn_seq (wpIn_region_list ?_);unfold wpListIn;have h1:Region.wanted d.mf (yielded #[d.mf,d.de] a1.tmps)=true:=by unfold Region.wanted;rw[S0]
      rw[aaf h1];refine⟨λ_ _=>trivial,?_⟩;rw[Oper.semAt_eq _ _ _ (λc hc=>by rw[z0]at hc;cases hc)]
      have A0:(execOp a1.eval d.mf).run P w1=.ok (.value cv) w1:=by unfold execOp;rw[z0];simp[Instr.makeFunc,cv,c1]
      rw[A0,Oper.uponIn_value];unfold wpListIn;rw[i0];have i1:Region.wanted d.de (yielded #[d.mf,d.de] (a1.put (some t) cv).tmps)=true:=by unfold Region.wanted;rw[T0]
      rw[aaf i1];refine⟨λ_ _=>trivial,?_⟩
      have B0:(d.de.semAt (dk none).round a2.eval).run P w1=.ok (.defer dd) w1:=by show(d.de.semAt none a2.eval).run P w1=_;rw[Oper.semAt_none];unfold execOp;rw[U0];unfold resolve;dsimp only;rw[H0];dsimp only;rw[g1,J0];simp[Deferred.ofValue,cv,dd]
      have l0:(d.de.semAt (dk none).round (a1.put (some t) cv).eval).run P w1=.ok (.defer dd) w1:=B0;rw[l0,Oper.uponIn_defer];unfold wpListIn
      have C0:a3.defers=dd::v0:=by show(Act.put _ _ _).defers=_;rw[put_defers];show dd::(a1.put (some t) cv).defers=_;rw[put_defers,h0]
      show d.post.wpIn (dk none) 0 P _ a3 w1;split at h;·cases h
      rename_i j1 M0;split at h
      ·rename_i m3 N0;refine vI hE cz (Kr hE hX hB n) d.post _ j1 F.2 d0 M0 g0 a3 w1 _ d1 u0.mL λs1 a4 w2 D0 k1 o0=>?_;have D0:=D0 rfl;show LeavesInM Fence.wide 0 P d.fn a4.tmps (db P σ m w v m') a4.defers (.panicking _) w2;rw[k1,C0];have O0:=G0.ev o0;obtain⟨o1,p1⟩:=Et (args':= #[]++(ca.toList.map a1.eval).toArray) hE cz hr N0 o0.mL (by simpa using r0.mono o0.ext);refine⟨by simp,.inr ⟨λhh=>by simp[Fence.wide]at hh,.func g,_,g,_,rfl,p1,λ_ _=>trivial,o1.mono λe u' w' hx=>?_⟩⟩;obtain⟨rfl,v',rfl,σ',k0⟩:=hx;exact iT v0 w' (O0.ev k0) ((u0.trans o0).trans k0) λw4 r1=>sS hE h b0.2.2 hs (D0.mono k0.ext) r1
      cases h
    cases h
   cases h
  cases h
end
end
section
noncomputable section
variable (E:Env) (W:Words) (CP:Fn->aee->M->(M->Nat->Prop)->Prop)
def Kh:List Code->List Nat
 |[]=> []
 |c::cs=>reads c++Kh cs
def Xv:List Code->List Nat->St->(Ex->St->Prop)->Prop
 |[],_,s,Q=>Q .normal s
 |c::cs,rd,s,Q=>sj E W c (Kh cs++rd) s λe F=>e.IK (Xv cs rd F Q) (Q e F)
def KL:List Oper->KT->Option KT
 |[],K=>some K
 |o::os,K=>match o.guard,o.op with
  |none,.assign x=>(match jY K x with |some v=>KL os (mS K o.dst (.v v)) |none=>none)
  |none,.move x=>(match jY K x with |some v=>KL os (mS K o.dst (.v v)) |none=>none)
  |_,_=>none
def QS(r:aed):List Oper->KT->Option KT
 |[],_=>none
 |o::os,K=>match o.guard,o.op with
  |none,.call c=>match c.callee with
   |.builtin .recover=>bif c.args.toList.isEmpty then KL os (mS K o.dst (.v r))else none
   |_=>none
  |_,_=>none
def IW(r:aed)(g:Nat)(args:aee)(m:M)(lo:Nat)(Q:M->Nat->Prop):Prop:=match E.cl.get g with
 |some c=>match Nat.ble args.length c.fn.ntmps && (c.fn.results.toList.isEmpty && eM c.rest)with
  |true=>aj (QS r c.ops.toList (sX args 0)) λK=>sj E W c.rest [] ⟨K,m,m.n⟩ λe s=>match e with
   |.exit _=>False
   |_=>Q s.m (min lo s.lo)
  |false=>False
 |none=>False
def Ux(r:aed)(d:Gd)(g:Nat)(H:aee)(K:KT)(m:M)(lo:Nat)(R RP:aee->M->Nat->Prop):Prop:=
 (sj E W d.post (tn d.fn.results.toList) ⟨K,m,lo⟩ λe s=>match e with
  |.exit _=>False
  |_=>IW E W .nilIface g H s.m s.lo λm3 F=>vn E s.K m3 d.fn.results.toList λvs=>R vs m3 F)\/
 match eM d.post with
 |true=>AN E W CP false d.post (tn d.fn.results.toList) ⟨K,m,lo⟩ λm2 nz=>IW E W r g H m2 nz λm3 F=>vn E (forget K (assigned d.post)) m3 d.fn.results.toList λvs=>RP vs m3 F
 |false=>False
def Uy(r:aed)(d:Gd)(args:aee)(m:M)(R RP:aee->M->Nat->Prop):Prop:=
 Xv E W d.pre (reads d.post++tn d.fn.results.toList) ⟨sX args 0,m,m.n⟩ λe s=>match e with
  |.exit _=>False
  |.ret=>vn E s.K s.m d.fn.results.toList λvs=>R vs s.m s.lo
  |.normal=>match d.mf.guard,d.mf.dst,d.mf.op,d.de.guard,d.de.op with
   |none,some H,.makeFunc (.func g) fi ca,none,.defer c=>match c.callee with
    |.value (.tmp t)=>match Nat.beq t H && (c.args.toList.isEmpty && fi.toList.isEmpty)with
     |true=>aj (wE s.K ca.toList) λF=>Ux E W CP r d g F (mS (mS s.K (some H) (.v (.func (.func g) #[] F.toArray))) d.de.dst .u) s.m s.lo R RP
     |false=>False
    |_=>False
   |_,_,_,_,_=>False
section
variable {E:Env} {X:aG} {B:fI} {r:aed}
theorem yB:∀(cs:List Code) (rd:List Nat) (s:St) (Q:Ex->St->Prop),Xv E (aI E X) cs rd s Q->∀T,Kn s.K T->s.lo<=s.m.n->
  ∃e H T',Q e H/\Kn H.K T'/\s.m.n<=H.m.n/\H.lo<=H.m.n/\∃n0,∀n,n0<=n->jS (bz E (bO E X n) n) cs ⟨T,s.m.wl s.lo⟩=some (e,⟨T',H.m.wl H.lo⟩)
 |[],_,s,Q,h,T,hk,a0=>⟨.normal,s,T,h,hk,Ξ _,a0,0,λn _=>rfl⟩
 |c::cs,rd,s,Q,h,T,hk,a0=>by
  obtain⟨e,s1,T1,h1,b0,d0,F,n1,e0⟩:=dz c _ s _ h T hk a0
  cases e with
  |normal=>
   obtain⟨e,s2,T2,h2,h0,i0,g0,n2,j0⟩:=yB cs rd s1 Q h1 T1 b0 F
   exact⟨e,s2,T2,h2,h0,abD d0 i0,g0,max n1 n2,λn hn=>by simp only[jS,e0 n (by omega),j0 n (by omega)]⟩
  |exit id=>exact⟨_,s1,T1,h1,b0,d0,F,n1,λn hn=>by simp only[jS,e0 n hn]⟩
  |ret=>exact⟨_,s1,T1,h1,b0,d0,F,n1,λn hn=>by simp only[jS,e0 n hn]⟩
theorem qn:∀(l:List Oper) (K H:KT) (T:Tr aed),KL l K=some H->Kn K T->∃T',js l T=some T'/\Kn H T'
 |[],K,H,T,h,hk=>by cases h;exact⟨T,rfl,hk⟩
 |o::l,K,H,T,h,hk=>by
  unfold KL at h
  unfold js
  split at h
  ·rename_i x hg F
   try simp only[hg,F]
   split at h
   ·rename_i v hv
    rw[bd hk hv]
    exact qn l _ H _ h (hk.put _ (.v v))
   ·cases h
  ·rename_i x hg F
   try simp only[hg,F]
   split at h
   ·rename_i v hv
    rw[bd hk hv]
    exact qn l _ H _ h (hk.put _ (.v v))
   ·cases h
  ·cases h
theorem DB{l:List Oper}{K F:KT}{T:Tr aed}(h:QS r l K=some F)(hk:Kn K T):∃T',kJ r l T=some T'/\Kn F T':=by
 cases l with
 |nil=>cases h
 |cons o l=>
  unfold QS at h;unfold kJ;dsimp only at h;split at h
  ·rename_i c hg H;simp only[hg,H];split at h
   ·rename_i hc
    try simp only[hc]
    cases he:c.args.toList.isEmpty with
    |false=>rw[he]at h;cases h
    |true=>rw[he,cond_true]at h;rw[cond_true];exact qn l _ F _ h (hk.put _ (.v r))
   cases h
  cases h
theorem qm:∀(l:List Oper) (T H:Tr aed),js l T=some H->iN l T=some H
 |[],T,H,h=>h
 |o::l,T,H,h=>by
  unfold js at h
  unfold iN
  split at h
  ·rename_i x hg F
   simp only[hg,F]
   exact qm l _ H h
  ·rename_i x hg F
   simp only[hg,F]
   exact qm l _ H h
  ·cases h
theorem Bn{l:List Oper}{T F:Tr aed}(h:kJ .nilIface l T=some F):iN l T=some F:=by
 cases l with
 |nil=>cases h
 |cons o l=>
  unfold kJ at h;dsimp only at h;split at h
  ·rename_i c hg H;split at h
   ·rename_i hc
    cases he:c.args.toList.isEmpty with
    |false=>rw[he]at h;cases h
    |true=>rw[he,cond_true]at h;unfold iN;simp only[hg,H,hc,he,cond_true];exact qm l _ F h
   cases h
  cases h
theorem MY{ex:Code->Fr->Option (Ex×Fr)}{g:Nat}{args:aee}{m F:M}(h:pQ E .nilIface ex g args m=some F):Ao E ex g args m=some F:=by
 unfold pQ at h;unfold Ao;split at h
 ·rename_i c hc
  simp only[hc]
  cases H:(Nat.ble args.length c.fn.ntmps && (c.fn.results.toList.isEmpty && eM c.rest))with
  |false=>rw[H]at h;cases h
  |true=>
   rw[H,cond_true]at h;rw[cond_true];split at h
   ·rename_i T hT;simp only[Bn hT];exact h
   cases h
 cases h
theorem uP{g:Nat}{args:aee}{m:M}{lo:Nat}{Q:M->Nat->Prop}(h:IW E (aI E X) r g args m lo Q)(d0:lo<=m.n):
  ∃m3 H,Q m3 H/\m.n<=m3.n/\H<=m3.n/\∃n0,∀n,n0<=n->pQ E r (bz E (bO E X n) n) g args (m.wl lo)=some (m3.wl H):=by
 unfold IW at h;split at h
 ·rename_i c hc
  cases hb:(Nat.ble args.length c.fn.ntmps && (c.fn.results.toList.isEmpty && eM c.rest))with
  |false=>rw[hb]at h;exact h.elim
  |true=>
   rw[hb]at h
   obtain⟨K,hK,h⟩:=aZ.1 h
   obtain⟨T,hT,a0⟩:=DB hK (kz args 0)
   obtain⟨e,s,T',hQ,e0,F,b0,n0,hr⟩:=dz c.rest [] _ _ h T a0 (Ξ _)
   have F:m.n<=s.m.n:=F
   have hex:∀n,n0<=n->bz E (bO E X n) n c.rest {T:=T,m:={m.wl lo with low:=(m.wl lo).n}}=some (e,⟨T',s.m.wl s.lo⟩):=hr
   cases e with
   |exit id=>exact hQ.elim
   |normal=>refine⟨s.m,min lo s.lo,hQ,F,by omega,n0,λn F=>?_⟩;unfold pQ;simp only[hc,hb,cond_true,hT,hex n F];rfl
   |ret=>refine⟨s.m,min lo s.lo,hQ,F,by omega,n0,λn F=>?_⟩;unfold pQ;simp only[hc,hb,cond_true,hT,hex n F];rfl
 exact h.elim
def Hl(m m':M)(l lo:Nat)(vs:aee):aed×M:=bif bP (aO vs) && Nat.ble m.n lo then(aO vs,m.wl l)else(aO vs,m'.wl (min l lo))
theorem uB{fn:Func}{T:Tr aed}{m m':M}{l lo:Nat}{vs:aee}(h:∀l,fD E T (m'.wl l) fn.results.toList=some vs):xN E fn (m.wl l) ⟨T,m'.wl lo⟩=some (Hl m m' l lo vs):=by
 have F:result? E fn T (m'.wl lo)=some (aO vs):=by
  unfold result?
  rw[h lo]
  match vs with
  |[]=>rfl
  |[v]=>rfl
  |v::w::vs=>rfl
 unfold xN Hl;dsimp only;rw[F];dsimp only;rw[show(m.wl l).n=m.n from rfl,show(m'.wl lo).low=lo from rfl];cases (bP (aO vs) && Nat.ble m.n lo)<;>rfl
theorem mh(hN:∀n g args m m',hZ E X B n g args m=some m'->bO E X n g args m=none){d:Gd}{args:aee}{m:M}{R RP:aee->M->Nat->Prop}
  (hl:Nat.ble args.length d.fn.ntmps=true) (h:Uy E (aI E X) (dA E X B) r d args m R RP):
  (∃vs m' lo,R vs m' lo/\m.n<=m'.n/\∃n0,∀n,n0<=n->∀l,l<=m.n->nk E (bz E (bO E X n) n) d args (m.wl l)=some (Hl m m' l lo vs)/\ik E X B r n d args (m.wl l)=none)\/
  (∃vs m' lo,RP vs m' lo/\m.n<=m'.n/\∃n0,∀n,n0<=n->∀l,l<=m.n->ik E X B r n d args (m.wl l)=some (Hl m m' l lo vs)):=by
 obtain⟨e,s1,T1,H,q0,r0,o0,n1,I0⟩:=yB _ _ _ _ h (enter args 0) (kz _ _) (Ξ _)
 have r0:m.n<=s1.m.n:=r0
 have b0:∀n,n1<=n->∀l,jS (bz E (bO E X n) n) d.pre {T:=enter args 0,m:={m.wl l with low:=(m.wl l).n}}=some (e,⟨T1,s1.m.wl s1.lo⟩):=λn hn _=>I0 n hn
 cases e with
 |exit id=>exact H.elim
 |ret=>
  obtain⟨vs,hR,a0⟩:=fR q0 H;refine .inl ⟨vs,s1.m,s1.lo,hR,r0,n1,λn hn l E0=>⟨?_,?_⟩⟩
  ·unfold nk;simp only[hl,cond_true,b0 n hn l];exact uB a0
  ·unfold ik
   cases eM d.post with
   |false=>simp only[hl,aaw,cond_false]
   |true=>simp only[hl,aaH,cond_true,b0 n hn l]
 |normal=>
  dsimp only at H;split at H
  ·rename_i td g fi ca c s0 g0 u0 v0 z0;split at H
   ·rename_i t h0
    cases F:(Nat.beq t td && (c.args.toList.isEmpty && fi.toList.isEmpty))with
    |false=>rw[F]at H;exact H.elim
    |true=>
     rw[F]at H;obtain⟨d0,F0,H⟩:=aZ.1 H;have A0:=fZ q0 F0;have B0:Kn (mS (mS s1.K (some td) (.v (.func (.func g) #[] d0.toArray))) d.de.dst .u) (put (put T1 (some td) (.func (.func g) #[] d0.toArray)) d.de.dst undef):=(q0.put (some td) (.v (.func (.func g) #[] d0.toArray))).put d.de.dst .u;unfold Ux at H;rcases H with H |H
     ·obtain⟨e2,s2,T2,h2,J0,i0,j0,n2,C0⟩:=dz _ _ _ _ H _ B0 o0;have i0:s1.m.n<=s2.m.n:=i0;have e0:∀n,n2<=n->bz E (bO E X n) n d.post {T:=put (put T1 (some td) (.func (.func g) #[] d0.toArray)) d.de.dst undef,m:=s1.m.wl s1.lo}=some (e2,⟨T2,s2.m.wl s2.lo⟩):=C0;have K0:∀id,e2≠.exit id:=λid he=>by rw[he]at h2;exact h2
      have h2:IW E (aI E X) .nilIface g d0 s2.m s2.lo λm3 k0=>vn E s2.K m3 d.fn.results.toList λvs=>R vs m3 k0:=by
       cases e2 with
       |exit id=>exact h2.elim
       |normal=>exact h2
       |ret=>exact h2
      obtain⟨m3,k0,h3,L0,G0,n3,D0⟩:=uP h2 j0;obtain⟨vs,hR,a0⟩:=fR J0 h3;refine .inl ⟨vs,m3,k0,hR,by omega,max n1 (max n2 n3),λn hn l E0=>⟨?_,?_⟩⟩
      ·unfold nk
       simp only[hl,cond_true,b0 n (by omega) l,s0,g0,u0,v0,z0,h0,F,A0,e0 n (by omega)]
       have H0:=MY (D0 n (by omega))
       cases e2 with
       |exit id=>exact absurd rfl (K0 id)
       |normal=>simp only[H0];exact uB (fn:=d.fn) a0
       |ret=>simp only[H0];exact uB (fn:=d.fn) a0
      ·unfold ik
       cases l0:eM d.post with
       |false=>simp only[hl,aaw,cond_false]
       |true=>
        simp only[hl,aaH,cond_true,b0 n (by omega) l,s0,g0,u0,v0,z0,h0,F,A0]
        cases hp:dD E false (bO E X n) (hZ E X B n) n d.post {T:=put (put T1 (some td) (.func (.func g) #[] d0.toArray)) d.de.dst undef,m:=s1.m.wl s1.lo}with
        |none=>rfl
        |some O0=>have:=sK (hN n) _ _ _ hp;rw[e0 n (by omega)]at this;cases this
     ·cases l0:eM d.post with
      |false=>rw[l0]at H;exact H.elim
      |true=>
       rw[l0]at H;obtain⟨m2,nz,T2,h2,i0,j0,M0,n2,C0⟩:=il hN _ _ _ _ H _ B0 o0;have i0:s1.m.n<=m2.n:=i0;obtain⟨m3,k0,h3,L0,G0,n3,D0⟩:=uP h2 j0
       have N0:Kn (forget (mS (mS s1.K (some td) (.v (.func (.func g) #[] d0.toArray))) d.de.dst .u) (assigned d.post)) T2:=by intro t k ht;rw[M0 t (ig _ _ ht).1];exact B0 t k (ig _ _ ht).2
       obtain⟨vs,hR,a0⟩:=fR N0 h3;refine .inr ⟨vs,m3,k0,hR,by omega,max n1 (max n2 n3),λn hn l E0=>?_⟩;have e0:dD E false (bO E X n) (hZ E X B n) n d.post {T:=put (put T1 (some td) (.func (.func g) #[] d0.toArray)) d.de.dst undef,m:=s1.m.wl s1.lo}=some ⟨T2,m2.wl nz⟩:=C0 n (by omega);unfold ik;simp only[hl,l0,aaH,cond_true,b0 n (by omega) l,s0,g0,u0,v0,z0,h0,F,A0,e0,D0 n (by omega)];exact uB (fn:=d.fn) a0
   exact H.elim
  exact H.elim
end
end
end
section
section
variable {P:Program} {σ:Sg} {m m':M} {w w':World}
theorem eu(w:World)(dT sT ty elem:TypeId)(g o F a0:Nat)(a:Addr)(H b0:Nat)(cur:Array aed)(t:TypeId)(cs:aee){ei:TypeInfo}
  (hu:P.underlying dT=some (.slice elem)) (g0:P.info? elem=some ei)
  (hg:w.heap[g]?=some (.cells cur t (0,0))) (hn:cs.length=min H F*ei.size)
  (d0:∀j v,cs[j]?=some v->w.cell? (a.add j)=some v) (e0:o+cs.length<=cur.size) (h1:∀v∈cs,v.oneCell'=true):
  (Builtin.copy_ #[dT,sT] ty #[aec g o F a0,.slice (some a) H b0]).run P w=
   .ok (goInt (min H F:Nat)) (w.setRow g (cur.toList.take o++cs++cur.toList.drop (o+cs.length)).toArray):=by have hl:=run_loadCells_list (P:=P) w a cs d0;have h0:=run_storeCells_at P g o t cs 0 cur w hg (by simpa using e0) h1;have hm:Nat.min H F=min H F:=rfl;rw[hn]at hl;simp[Builtin.copy_,aak hu,Builtin.lenOf,Builtin.firstCells,sizeOf,typeInfo,g0,hm,hl,h0]
structure PG where
 S:Nat
 k:Nat
 e:Nat
def pD(N:PG):aG:=λfn args m=>
 match fn with
 |.func f=>
  bif Nat.beq f N.S then
   match args with
   |[.slice (some a) n c,.int .i64 i,.slice (some b) 1 1]=>
    match m.get a.block,m.get b.block with
    |.cells cs H (some k),.cells ds F none=>
     if(a.off=0/\a.spot=none/\b.off=0/\b.spot=none)/\(c=n/\cs.length=n*N.k/\ds.length=N.k/\k=N.k/\H=N.e/\F=N.e)/\(0<=i/\i < n/\n < 1000000/\a.block≠b.block)/\cs.all one=true/\ds.all one=true then
      some (.slice (some ⟨m.n,0,none⟩) (n+1) (n+1),(m.set a.block .dead).push (.cells (cs.take (i.toNat*N.k)++(ds++cs.drop (i.toNat*N.k))) N.e (some N.k)))
     else none
    |_,_=>none
   |_=>none
  else none
 |_=>none
structure Nr(P:Program)(N:PG):Prop where
 FK:∀args w,(callFunc N.S args).run P w=.ok (.enter N.S args) w
 pos:0 < N.k
 go:∀(B V n i C:Nat) (row vrow:Array aed) (w:World),w.heap[B]?=some (.cells row N.e (0,0))->w.heap[V]?=some (.cells vrow N.e (0,0))->V≠B->i < n->n<=C->C*N.k<=row.size->vrow.size=N.k->n < 1000000->
  (∀u∈row.toList.take (n*N.k),u.oneCell'=true)->(∀u∈vrow.toList,u.oneCell'=true)->
  Calls P N.S #[.slice (some ⟨B,0,none⟩) n C,.int .i64 i,.slice (some ⟨V,0,none⟩) 1 1] w λe w'=>(w'.os=w.os/\w'.tape=w.tape/\w'.output=w.output)/\
   ((n+1<=C/\e=.returned (.slice (some ⟨B,0,none⟩) (n+1) C)/\w'.heap.size=w.heap.size/\(∀b,b≠B->w'.heap[b]?=w.heap[b]?)/\
     w'.heap[B]?=some (.cells (row.toList.take (i*N.k)++(vrow.toList++(row.toList.take (n*N.k)).drop (i*N.k))++row.toList.drop ((n+1)*N.k)).toArray N.e (0,0)))\/
    (∃(D:Nat) (rest:aee),n+1<=D/\rest.length=(D-(n+1))*N.k/\e=.returned (.slice (some ⟨w.heap.size,0,none⟩) (n+1) D)/\
     w'.heap=w.heap.push (.cells (row.toList.take (i*N.k)++(vrow.toList++(row.toList.take (n*N.k)).drop (i*N.k))++rest).toArray N.e (0,0))))
theorem HC(N:PG):fC (pD N):=λfn args m v m' h=>by
 unfold pD at h
 split at h
 ·rename_i f
  cases F:Nat.beq f N.S with
  |false=>rw[F]at h;cases h
  |true=>
   rw[F,cond_true]at h
   split at h
   ·split at h
    ·rename_i cs te k ds H hg hd
     split at h
     ·cases h
      exact(LK.GS hg).trans LK.push
     ·cases h
    ·cases h
   ·cases h
 ·cases h
theorem FB{N:PG}(h:Nr P N)(hS:Nat.beq tP N.S=false):cQ P (pD N):=by
 refine⟨λf args m v m' F σ w args' hs hl=>?_,λl args m v m' F=>by simp[pD]at F,HC N,λa m v m' b F=>by unfold pD at F;dsimp only at F;rw[show Nat.beq tP N.S=false from hS]at F;cases F⟩
 unfold pD at F
 dsimp only at F
 cases hf:Nat.beq f N.S with
 |false=>rw[hf]at F;cases F
 |true=>
  obtain rfl:=aab hf;rw[hf,cond_true]at F;refine⟨?_,h.FK args' w⟩;refine callsIn_wide.2 ?_;split at F
  ·rename_i a n c i b;split at F
   ·rename_i cs te k ds e1 hg hd;split at F
    ·rename_i hc;obtain⟨⟨a0,a1,b0,b1⟩,⟨c1,c2,c3,rfl,rfl,rfl⟩,⟨i0,i1,i2,H0⟩,o1,o2⟩:=hc;have c1:=c1.symm;subst c1;cases F;obtain⟨j,rfl⟩:∃j:Nat,i=j:=⟨i.toNat,by omega⟩
     have hj:j < n:=by omega
     simp only[ab8];obtain⟨x1,l1,q0,hv,I0⟩:=hl.cases;obtain⟨x2,l2,rfl,J0,K0⟩:=I0.cases;obtain⟨x3,l3,rfl,L0,M0⟩:=K0.cases;obtain rfl:=M0.nil_eq;have e2:=J0.aU rfl;subst e2;obtain⟨bi,a',c',k0,rfl,r0⟩:=hv.dK;obtain⟨bj,b',d',z0,rfl,l0⟩:=L0.dK;obtain⟨row,r1,r2,r3,r4⟩:=hs.cells k0 hg;obtain⟨H,s1,s2,s3,s4⟩:=hs.cells z0 hd;obtain⟨g1,g2,g3⟩:=r4;obtain⟨t1,t2⟩:=s4;have A0:=h.pos;have d0:m.get a.block≠.dead:=by rw[hg];simp
     have N0:bj.dg≠bi.dg:=λq=>H0 (hs.inj a.block b.block bi bj k0 z0 d0 (by rw[hd];simp) q.symm)
     have O0:a'=⟨bi.dg,0,none⟩/\n<=c'/\c'*N.k<=row.size/\(n+1<=c'->c'*N.k=row.size):=by
      rcases r0 with⟨P0,rfl,⟨B0,_⟩ |⟨k,sz,C,hk,hh⟩⟩ |⟨h0,_⟩;·rw[g1]at B0;cases B0
      ·rw[g1]at hk;simp only[aae,aaG]at hk;obtain⟨rfl,rfl,rfl⟩:=hk;refine⟨by rw[a0],?_⟩;rw[a0]at hh;rcases hh with rfl |⟨q1,q2,q3⟩;·refine⟨Ξ _,by omega,λq=>by omega⟩
       exact⟨q1,by omega,λ_=>by omega⟩
      omega
     obtain⟨rfl,Q0,S0,T0⟩:=O0
     have C0:b'=⟨bj.dg,0,none⟩/\d'=1:=by
      rcases l0 with⟨P0,rfl,⟨_,rfl⟩ |⟨k,sz,C,hk,_⟩⟩ |⟨h0,_⟩;·exact⟨by rw[b0],rfl⟩
      ·rw[t1]at hk;cases hk
      omega
     obtain⟨rfl,rfl⟩:=C0;have s0:args'= #[aec bi.dg 0 n c',.int .i64 j,aec bj.dg 0 1 1]:=by apply abl;rw[q0]
     subst s0;have U0:H.toList.take ds.length=H.toList:=aa5 (by simp;omega);rw[U0]at s3;rw[c2]at r3 r2 g1;have hmul:j*N.k<=n*N.k:=aaD _ (by omega);have V0:(n+1)*N.k=n*N.k+N.k:=by rw[aao,abg]
     have g0:bC σ (cs.take (j*N.k)++(ds++cs.drop (j*N.k))) (row.toList.take (j*N.k)++(H.toList++(row.toList.take (n*N.k)).drop (j*N.k))):=by have:=(r3.take (j*N.k)).append (s3.append (r3.drop (j*N.k)));rw[ab1,abL hmul]at this;exact this
     have hlen:(cs.take (j*N.k)++(ds++cs.drop (j*N.k))).length=(n+1)*N.k:=by simp only[aam,aap,aaK];omega
     refine(h.go bi.dg bj.dg n j c' row H w r1 s1 N0 hj Q0 S0 (by omega) i2 (r3.kN o1) (s3.kN o2)).mono ?_;rintro en w2 ⟨⟨ho,ht,hu⟩,hh⟩;rcases hh with⟨j0,rfl,X0,D0,E0⟩ |⟨D,rest,hD,u0,rfl,v0⟩
     ·have F0:=T0 j0;have Y0:(n+1)*N.k<=row.size:=by rw[<-F0];exact aaD _ j0
      have e0:=g0.1;rw[hlen]at e0
      have o0:(row.toList.take (j*N.k)++(H.toList++(row.toList.take (n*N.k)).drop (j*N.k))++row.toList.drop ((n+1)*N.k)).toArray.size=row.size:=by rw[abE,aam,<-e0,aaK,aas];omega
      have d1:=Ev.Kg (ob:=.cells (cs.take (j*N.k)++(ds++cs.drop (j*N.k))) N.e (some N.k)) (gr:=some (N.k,(n+1)*N.k,row.size)) (w':=w2) hs k0 d0
       ⟨_,E0,by rw[hlen,o0];exact Y0,by rw[hlen,e0];simp only[acH];exact g0.mono (Sg.qs hs.jh),by rw[hlen,o0];exact⟨rfl,A0,by omega⟩⟩ D0 X0 ho ht hu
      refine⟨_,_,rfl,?_,d1⟩;exact .fJ ⟨m.n,0,none⟩ ⟨bi.dg,some (N.k,(n+1)*N.k,row.size)⟩ _ _ _ N.k ((n+1)*N.k) row.size (Sg.add_same _ _) rfl rfl (.inr ⟨j0,by simp,by simp[F0]⟩)
     have hw:=Ev.write (w':=w) (ob:=.dead) hs k0 d0 trivial (λ_ _=>rfl) rfl rfl rfl rfl;obtain⟨g1,g2⟩:=sR (e:=N.e) (k:=N.k) (sl:=n+1) (n:=0) (N:=D) (rest:=rest) (news:=[]) (new':=[]) hw.mL g0 bC.nil hlen (by simp) A0 (by omega) hD (by simpa using u0);simp only[abk]at g1;have G0:=(hw.trans g1).trans (Ev.of_heap (w':=w2) g1.mL (by rw[v0];rfl) ho ht hu);exact⟨_,_,rfl,g2,G0⟩
    cases F
   cases F
  cases F
end
end
section
section
variable {E:Env} {X:aG}
theorem Cl.VO{f:Nat}{fn:Func}{args:aee}{m:M}{R:aee->M->Nat->Prop}(hX:∀l,X (.func f) args (m.wl l)=none)(hf:E.fn.get f=some fn)(hl:Nat.ble args.length fn.ntmps=true)
  (h:dm E (aI E X) fn args m R):
  ∃vs m' lo,R vs m' lo/\m.n<=m'.n/\∃n0,∀n,n0<=n->∀l,l<=m.n->
   bO E X n (.func f) args (m.wl l)=some (bif bP (aO vs) && Nat.ble m.n lo then(aO vs,m.wl l)else(aO vs,m'.wl (min l lo))):=by
 unfold dm at h;split at h
 ·rename_i body hb
  obtain⟨e,F,T',H,h0,hn,j0,n0,hr⟩:=dz _ _ _ _ h (enter args 0) (kz _ _) (Ξ _)
  have b0:(∀id,e≠.exit id)/\vn E F.K F.m fn.results.toList λvs=>R vs F.m F.lo:=by
   cases e with
   |exit id=>exact H.elim
   |normal=>exact⟨λ_ h=>(by cases h),H⟩
   |ret=>exact⟨λ_ h=>(by cases h),H⟩
  obtain⟨i0,a0⟩:=b0
  obtain⟨vs,hR,a0⟩:=fR h0 a0
  refine⟨vs,F.m,F.lo,hR,hn,n0+1,λn k0 l l0=>?_⟩
  obtain⟨n,rfl⟩:∃k,n=k+1:=⟨n-1,by omega⟩
  have d0:bz E (bO E X n) n body {T:=enter args 0,m:={m.wl l with low:=(m.wl l).n}}=some (e,⟨T',F.m.wl F.lo⟩):=hr n (by omega)
  have e0:=qc (fn:=fn) (a0 F.lo)
  have g0:X (.func f) args (m.wl l)=none:=hX l
  have fin:(bif bP (aO vs) && Nat.ble (m.wl l).n (F.m.wl F.lo).low then some (aO vs,m.wl l)else some (aO vs,{F.m.wl F.lo with low:=min (m.wl l).low (F.m.wl F.lo).low}))=
    some (bif bP (aO vs) && Nat.ble m.n F.lo then(aO vs,m.wl l)else(aO vs,F.m.wl (min l F.lo))):=by
   cases hc:(bP (aO vs) && Nat.ble m.n F.lo)with
   |true=>have:(bP (aO vs) && Nat.ble (m.wl l).n (F.m.wl F.lo).low)=true:=hc;rw[this];rfl
   |false=>have:(bP (aO vs) && Nat.ble (m.wl l).n (F.m.wl F.lo).low)=false:=hc;rw[this];rfl
  cases e with
  |exit id=>exact(i0 id rfl).elim
  |normal=>simp only[bO,g0,hf,hb,hl,cond_true,d0,e0];exact fin
  |ret=>simp only[bO,g0,hf,hb,hl,cond_true,d0,e0];exact fin
 exact h.elim
theorem Cl.XH{f:Nat}{fn:Func}{args:aee}{m:M}{R:aed->M->Nat->Prop}(hX:∀l,X (.func f) args (m.wl l)=none)(hf:E.fn.get f=some fn)(hl:Nat.ble args.length fn.ntmps=true)
  (h:dm E (aI E X) fn args m λvs m' lo=>(bP (aO vs)=true/\m.n<=lo/\R (aO vs) m m.n)\/((bP (aO vs)=false\/lo < m.n)/\R (aO vs) m' (min m.n lo))):
  ∃v m' b,Cl E X (.func f) args m b v m'/\R v m' b:=by
 obtain⟨vs,m',lo,h,hn,hr⟩:=Cl.VO hX hf hl h;rcases h with⟨F,H,hR⟩ |⟨F,hR⟩;·exact⟨_,_,_,.of_flat F H hr,hR⟩
 exact⟨_,_,_,.uq hn F hr,hR⟩
end
noncomputable section
def pG(E:Env)(X:aG)(B:fI)(r:aed)(f:Nat)(d:Gd):aG:=λfn args m=>match fn with
 |.func g=>match Nat.beq g f with
  |true=>open Classical in if h:∃p,∃F,∀n,F<=n->ik E X B r n d args m=some p then some (Classical.choose h)else none
  |false=>none
 |_=>none
end
section
variable {E:Env} {X:aG} {B:fI} {r:aed} {f:Nat} {d:Gd} {P:Program}
theorem mP{g:Fn}{args:aee}{m:M}{p:aed×M}(h:pG E X B r f d g args m=some p):g=.func f/\∃n0,∀n,n0<=n->ik E X B r n d args m=some p:=by
 unfold pG at h;split at h
 ·rename_i H;split at h
  ·rename_i F;have:=aab F;subst this;split at h
   ·rename_i hex;cases h;exact⟨rfl,ac5 hex⟩
   cases h
  cases h
 cases h
theorem Dh{args:aee}{m:M}{p:aed×M}(h:∃n0,∀n,n0<=n->ik E X B r n d args m=some p):pG E X B r f d (.func f) args m=some p:=by
 unfold pG;simp only[aa4];have hex:∃p,∃n0,∀n,n0<=n->ik E X B r n d args m=some p:=⟨p,h⟩
 rw[dif_pos hex];obtain⟨n0,F⟩:=h;obtain⟨n1,H⟩:=ac5 hex;have a:=F (max n0 n1) (by omega);have b:=H (max n0 n1) (by omega);rw[a]at b;exact b.symm
theorem Di{args:aee}{m:M}(h:∃n0,∀n,n0<=n->ik E X B r n d args m=none):pG E X B r f d (.func f) args m=none:=by
 cases F:pG E X B r f d (.func f) args m with
 |none=>rfl
 |some p=>obtain⟨-,n0,H⟩:=mP F;obtain⟨n1,h1⟩:=h;have a:=H (max n0 n1) (by omega);rw[h1 (max n0 n1) (by omega)]at a;cases a
theorem iq{g:Nat}(F:Nat.beq g f=false)(args:aee)(m:M):pG E X B r f d (.func g) args m=none:=by unfold pG;simp only[F]
theorem sJ{call:aG}{pan:fI}(hc:fC call)(hp:∀g args m m',pan g args m=some m'->LK m m'){ops:Array Oper}:∀(l:List Oper) (fr F:Fr),eQ E call pan ops l fr=some F->LK fr.m F.m
 |[],fr,F,h=>by unfold eQ at h;cases h
 |o::l,fr,F,h=>by
  unfold eQ at h
  cases hw:bV ops fr.T o with
  |false=>rw[hw]at h;exact sJ hc hp l {fr with T:=put fr.T o.dst undef} F h
  |true=>
   rw[hw]at h
   simp only[cond_true]at h
   cases ho:dt o.op E call fr.T fr.m with
   |some p=>
    obtain⟨v,m1⟩:=p
    rw[ho]at h
    exact(Kx hc ho).trans (sJ hc hp l {T:=put fr.T o.dst v,m:=m1} F h)
   |none=>
    rw[ho]at h
    simp only[aaj]at h
    obtain⟨m1,H,rfl⟩:=h
    unfold je at H
    split at H
    ·split at H
     ·split at H
      ·exact hp _ _ _ _ H
      ·cases H
     ·cases H
    ·cases H
theorem kK{call:aG}{pan:fI}(H:∀g args m m',pan g args m=some m'->LK m m'){ops:Array Oper}{p:Nat}{m m':M}:∀(l:List Oper) (j:Nat) (T:Tr aed) (r:Option M),(∀m1,r=some m1->LK m m1)->cX E call pan ops p m l j T r=some m'->LK m m'
 |[],j,T,r,hr,h=>by unfold cX at h;exact hr _ h
 |o::l,j,T,r,hr,h=>by
  unfold cX at h
  cases a0:Nat.beq j p with
  |true=>
   rw[a0,cond_true]at h
   cases hw:(iO ops o && bV ops T o)with
   |false=>rw[hw]at h;cases h
   |true=>
    rw[hw,cond_true]at h
    split at h
    ·rename_i m1 F
     refine kK H l (j+1) T _ (λm2 e=>?_) h
     cases e
     unfold je at F
     split at F
     ·split at F
      ·split at F
       ·exact LK.low (LK.vP (x:=m.n) (H _ _ _ _ F))
       ·cases F
      ·cases F
     ·cases F
    ·cases h
  |false=>
   rw[a0,cond_false]at h
   cases hb:(behind ops p j ||(Nat.blt p j && ru E o))with
   |true=>
    rw[hb,cond_true]at h
    exact kK H l (j+1) T r hr h
   |false=>
    rw[hb,cond_false]at h
    cases b0:(gV o.op && iO ops o)with
    |false=>rw[b0]at h;cases h
    |true=>
     rw[b0,cond_true]at h
     cases hw:bV ops T o with
     |false=>
      rw[hw,cond_false]at h
      exact kK H l (j+1) _ r hr h
     |true=>
      rw[hw,cond_true]at h
      split at h
      ·exact kK H l (j+1) _ r hr h
      ·cases h
theorem Fl{call:aG}{pan:fI}(hc:fC call)(hp:∀g args m m',pan g args m=some m'->LK m m'){n:Nat}{dr:Bool}:∀(c:Code) (fr F:Fr),dD E dr call pan n c fr=some F->LK fr.m F.m:=by
 intro c
 induction c with
 |region id ops d=>
  intro fr F h
  unfold dD at h
  cases d with
  |true=>
   rw[cond_true]at h
   cases dr with
   |false=>cases h
   |true=>simp only[cond_true,aaj]at h;obtain⟨m1,h1,rfl⟩:=h;exact kK hp _ _ _ _ (λm1 h=>by cases h) h1
  |false=>exact sJ hc hp _ _ _ h
 |seq x y H a0=>
  intro fr F h
  unfold dD at h
  cases hx:bz E call n x fr with
  |none=>rw[hx]at h;exact H _ _ h
  |some p=>
   obtain⟨e,b0⟩:=p
   rw[hx]at h
   cases e with
   |normal=>exact(eS hc x fr .normal b0 hx).trans (a0 _ _ h)
   |exit id=>cases h
   |ret=>cases h
 |cond c x y H a0=>
  intro fr F h;unfold dD at h;split at h
  ·rename_i t _
   cases t with
   |true=>exact H _ _ h
   |false=>exact a0 _ _ h
  cases h
 |block id c ih=>intro fr F h;unfold dD at h;exact ih _ _ h
 |scope c ih=>intro fr F h;unfold dD at h;exact ih _ _ h
 |_=>intro fr F h;simp[dD]at h
theorem Ks(F:fC X)(H:∀g args m m',B g args m=some m'->LK m m'):∀n g args m m',hZ E X B n g args m=some m'->LK m m'
 |0,g,args,m,m',h=>by unfold hZ at h;cases h
 |n+1,g,args,m,m',h=>by
  cases g with
  |func f=>
   unfold hZ at h
   split at h
   ·rename_i m1 hb
    cases h
    exact H _ _ _ _ hb
   ·split at h
    ·cases h
    ·rename_i fn _
     split at h
     ·cases h
     ·rename_i body _
      cases hc:(Nat.ble args.length fn.ntmps && eM body && (X (.func f) args m).isNone)with
      |false=>rw[hc]at h;cases h
      |true=>
       rw[hc]at h
       simp only[cond_true,aaj]at h
       obtain⟨fr,h,rfl⟩:=h
       exact LK.vP (x:=m.n) (Fl (rW F n) (Ks F H n) _ _ _ h)
  |_=>unfold hZ at h;cases h
theorem Ps{call:aG}(H:fC call){n g:Nat}{args:aee}{m m':M}(h:pQ E r (bz E call n) g args m=some m'):LK m m':=by
 unfold pQ at h;split at h
 ·rename_i c _
  cases F:(Nat.ble args.length c.fn.ntmps && (c.fn.results.toList.isEmpty && eM c.rest))with
  |false=>rw[F]at h;cases h
  |true=>
   rw[F,cond_true]at h;split at h
   ·rename_i T _;split at h;·cases h
    ·cases h
    rename_i e fr _ hex;cases h;exact LK.vP (x:=m.n) (eS H _ _ _ _ hex)
   cases h
 cases h
theorem M4(hX:fC X)(hB:∀g args m m',B g args m=some m'->LK m m'){n:Nat}{args:aee}{m m':M}{v:aed}(h:ik E X B r n d args m=some (v,m')):LK m m':=by
 have cz:=rW (E:=E) hX n
 unfold ik at h
 cases hle:(Nat.ble args.length d.fn.ntmps && eM d.post)with
 |false=>rw[hle]at h;cases h
 |true=>
  rw[hle,cond_true]at h;split at h
  ·rename_i fr hex;have h1:LK m fr.m:=LK.vP (x:=m.n) (rM cz _ _ _ _ hex);split at h
   ·rename_i td g fi ca c g0 d0 h0 i0 j0;split at h
    ·rename_i t e0
     cases F:(Nat.beq t td && (c.args.toList.isEmpty && fi.toList.isEmpty))with
     |false=>rw[F]at h;cases h
     |true=>
      rw[F,cond_true]at h;split at h;·cases h
      rename_i H a0;split at h
      ·rename_i m3 b0;have h2:LK fr.m H.m:=Fl cz (Ks hX hB n) d.post ⟨put (put fr.T (some td) (.func (.func g) #[] (ca.toList.map (ev fr.T)).toArray)) d.de.dst undef,fr.m⟩ H a0;exact Af (fr:={H with m:=m3}) ((h1.trans h2).trans (Ps cz b0)) h
      cases h
    cases h
   cases h
  cases h
theorem JV(hE:E.OK P)(hX:cQ P X)(hB:se P r B)(F:∀g args m m',B g args m=some m'->LK m m')(hr:cy r=true)(hd:E.df.get f=some d)(hS:Nat.beq tP f=false):cQ P (pG E X B r f d):=by
 refine⟨λg args m v m' h σ w args' hs hl=>?_,λl args m v m' h=>?_,λg args m v m' h=>?_,λa m v m' b h=>?_⟩
 ·obtain⟨hg,H,h0⟩:=mP h;cases hg;exact CF hE hX hB hr hd (h0 H (Ξ _)) hs hl
 ·cases (mP h).1
 ·obtain⟨-,H,h0⟩:=mP h;exact M4 hX.bH F (h0 H (Ξ _))
 rw[iq hS]at h;cases h
end
end
end Go.D
namespace Go.Proofs
section
open Go.D Go.Shelf Go.RowKit Go.Lib
theorem gQ{w:World}{B:Nat}{row:Array aed}{t:TypeId}(F:w.heap[B]?=some (.cells row t (0,0))){j:Nat}:w.cell? ⟨B,j,none⟩=row[j]?:=by simp[World.cell?,F]
theorem iy{w:World}{B:Nat}{row r:Array aed}{t:TypeId}(F:w.heap[B]?=some (.cells row t (0,0))):(w.setRow B r).heap[B]?=some (.cells r t (0,0)):=by simp[World.setRow,abP,F]
theorem iw{w:World}{B V:Nat}{r:Array aed}(h:V≠B):(w.setRow B r).heap[V]?=w.heap[V]?:=by simp only[World.setRow,abP];rw[aaa (Ne.symm h)]
theorem setRow_size{w:World}{B:Nat}{r:Array aed}:(w.setRow B r).heap.size=w.heap.size:=by simp[World.setRow]
set_option maxHeartbeats 4000000 in
theorem Tryz.BZ(B V n i C:Nat)(row F:Array aed)(w:World)(hB:w.heap[B]?=some (.cells row 87 (0,0)))(hV:w.heap[V]?=some (.cells F 87 (0,0)))(q0:V≠B)(hi:i < n)(A0:n<=C)(hC:C*6<=row.size)(B0:F.size=6)(hn:n < 1000000)
  (h1:∀u∈row.toList.take (n*6),u.oneCell'=true) (h2:∀u∈F.toList,u.oneCell'=true) (g0:n+1<=C):
  Calls Tryz.prog 362 #[.slice (some ⟨B,0,none⟩) n C,.int .i64 i,.slice (some ⟨V,0,none⟩) 1 1] w λe w'=>e=.returned (.slice (some ⟨B,0,none⟩) (n+1) C)/\
   ∃r1:Array aed,w'=(w.drew.setRow B r1).setRow B (row.toList.take (i*6)++(F.toList++(row.toList.take (n*6)).drop (i*6))++row.toList.drop ((n+1)*6)).toArray:=by
 have hu:Tryz.prog.underlying 29=some (.slice 87):=by kernel_rfl
 obtain⟨ei,h0,L0,i0,M0⟩:=info_parts (P:=Tryz.prog) (e:=87) (z:=.agg #[.int .i64 0,.int .i64 0,.int .i64 0,aeg,.int .i64 0,.int .i64 0]) (size:=6) (bytes:=64) (by kernel_rfl)
 have C0:i*6+6<=n*6:=by have:=aaD 6 (show i+1<=n from hi);omega
 have D0:n*6<=C*6:=aaD _ A0
 have N0:¬((i:Int)=(n:Int)):=by omega
 have O0:IntKind.i64.wrap ((i:Int)+1)=(i:Int)+1:=by rw[IntKind.wrap_i64];omega
 have P0:IntKind.i64.wrap ((n:Int)+1)=(n:Int)+1:=by rw[IntKind.wrap_i64];omega
 have Q0:i<=n:=by omega
 have S0:(0:Int)<=(i:Int)+1:=by omega
 have T0:(0:Int)<=(n:Int)+1:=by omega
 have U0:((i:Int)+1).toNat=i+1:=by omega
 have K0:((n:Int)+1).toNat=n+1:=by omega
 have u0:=aak hu
 have mixed:Tryz.prog.follows .mixedOrders=true:=by kernel_rfl
 obtain⟨H,a0⟩:∃H,H=(row.toList.take (n*6)).drop (i*6):=⟨_,rfl⟩
 have b0:H.length=(n-i)*6:=by rw[a0,aaK,aap,aas,abj];omega
 have E0:∀v∈H,v.oneCell'=true:=λv hv=>h1 v (by rw[a0]at hv;exact acj hv)
 have r0:∀j v,H[j]?=some v->row[i*6+j]?=some v:=λj v hj=>by
  rw[a0,aaW,abX]at hj;split at hj;·rwa[aaY]at hj
  cases hj
 have j0:F.toList.length=1*6:=by rw[aas,B0,abg]
 have hmul:n*6+6<=row.size:=by have:=aaD 6 g0;omega
 have F0:∀w,(Go.sizeOf 87).run Tryz.prog w=.ok 6 w:=λw=>by simp[Go.sizeOf,typeInfo,h0,i0]
 have G0:∀lb cb,(callFunc 380 #[.slice (some ⟨V,0,none⟩) 1 1,.slice (some ⟨B,(i+1)*6,none⟩) lb cb]).run Tryz.prog w=.ok (.value aei) w:=λlb cb=>by
  rw[run_callFunc_extern Tryz.func380 (by kernel_rfl) (by kernel_rfl) (by kernel_rfl) (e:=Extern.SlicesOverlaps.overlaps #[29,29] #[4]) (by kernel_rfl),
   Lib.run_overlaps_apart w 29 4 87 hu 6 F0 ⟨V,0,none⟩ ⟨B,(i+1)*6,none⟩ 1 1 lb cb q0 87 87 F.size row.size (by simp[World.shape?,hV]) (by simp[World.shape?,hB]) (by omega) (by simp[World.frozen?,hV]) (by simp[World.frozen?,hV])]
  rfl
 have V0:¬(C=i+1):=by omega
 have X0:(i:Int)<=(n:Int)+1:=by omega
 have Y0:¬(C=i):=by omega
 obtain⟨r1,e0⟩:∃r1:Array aed,r1=(row.toList.take ((i+1)*6)++H++row.toList.drop ((i+1)*6+H.length)).toArray:=⟨_,rfl⟩
 have k0:w.drew.heap[B]?=some (.cells row 87 (0,0)):=hB
 have s0:∀ty dc sc,(Builtin.copy_ #[29,29] ty #[.slice (some ⟨B,(i+1)*6,none⟩) (n-i) dc,.slice (some ⟨B,i*6,none⟩) (n+1-i) sc]).run Tryz.prog w.drew=.ok (goInt (min (n+1-i) (n-i):Nat)) (w.drew.setRow B r1):=λty dc sc=>by
  rw[e0]
  exact eu w.drew _ _ ty 87 B ((i+1)*6) (n-i) dc ⟨B,i*6,none⟩ (n+1-i) sc row 87 H hu h0 k0
   (by rw[b0,i0];congr 1;omega) (λj v hj=>by rw[Addr.add_lit,gQ k0];exact r0 j v hj) (by rw[b0,abj,aao];omega) E0
 have H0:(w.drew.setRow B r1).heap[B]?=some (.cells r1 87 (0,0)):=iy k0
 have I0:(w.drew.setRow B r1).heap[V]?=some (.cells F 87 (0,0)):=by rw[iw q0];exact hV
 have d0:(row.toList.take ((i+1)*6)++H).length=(n+1)*6:=by rw[aam,b0,aap,aas,aao,aao,abj];omega
 have v0:r1.size=row.size:=by rw[e0,abE,aam,d0,aaK,aas,b0,aao,aao,abj];omega
 obtain⟨r2,l0⟩:∃r2:Array aed,r2=(r1.toList.take (i*6)++F.toList++r1.toList.drop (i*6+F.toList.length)).toArray:=⟨_,rfl⟩
 have z0:∀ty dc,(Builtin.copy_ #[29,29] ty #[.slice (some ⟨B,i*6,none⟩) (n+1-i) dc,.slice (some ⟨V,0,none⟩) 1 1]).run Tryz.prog (w.drew.setRow B r1)=.ok (goInt (min 1 (n+1-i):Nat)) ((w.drew.setRow B r1).setRow B r2):=λty dc=>by
  rw[l0]
  exact eu _ _ _ ty 87 B (i*6) (n+1-i) dc ⟨V,0,none⟩ 1 1 r1 87 F.toList hu h0 H0
   (by rw[j0,i0];congr 1;omega) (λj v hj=>by rw[Addr.add_lit,gQ I0,aaq];rwa[aaY]at hj) (by rw[j0,v0];omega) h2
 have e2:r2=(row.toList.take (i*6)++(F.toList++(row.toList.take (n*6)).drop (i*6))++row.toList.drop ((n+1)*6)).toArray:=by
  have ht:(i+1)*6+H.length=(n+1)*6:=by rw[b0,aao,aao,abj];omega
  have o0:(row.toList.take ((i+1)*6)).length=(i+1)*6:=by rw[aap,aas,aao];omega
  have J0:i*6+F.toList.length=(i+1)*6:=by rw[j0,aao]
  rw[l0,e0,ht,J0]
  congr 1
  simp only[aa7]
  rw[abG (by rw[o0,aao];omega),ab1,abL (by rw[aao];omega),acM (by rw[o0];exact Ξ _),abr (by rw[o0];exact Ξ _),abz,a0]
 rw[<-a0]at e2⊢
 rw[<-e2]
 clear b0 r0 d0 e0 l0 e2 C0 D0 hmul
 go_enter Tryz.func362,Tryz.ntmps362
 go_wp2_with (simp only[G0])
 go_region_law_o (refine step_copy_runI rfl _ _ 29 29 rfl _ _ (by simp[Act.eval,Act.put]) (by simp[Act.eval,Act.put]) (s0 _ _ _) ?_)
 go_wp2_with (at_builtin;refine wpList_copy_runI _ rfl _ _ 29 29 rfl _ _ rfl rfl (z0 _ _) ?_)
 go_ret
 exact⟨rfl,r1,rfl⟩
set_option maxHeartbeats 4000000 in
theorem Tryz.Ca(B V n i C:Nat)(row H:Array aed)(w:World)(hB:w.heap[B]?=some (.cells row 87 (0,0)))(hV:w.heap[V]?=some (.cells H 87 (0,0)))(e1:V≠B)(hi:i < n)(O0:n<=C)(hC:C*6<=row.size)(P0:H.size=6)(hn:n < 1000000)
  (h1:∀u∈row.toList.take (n*6),u.oneCell'=true) (h2:∀u∈H.toList,u.oneCell'=true) (q0:C < n+1):
  Calls Tryz.prog 362 #[.slice (some ⟨B,0,none⟩) n C,.int .i64 i,.slice (some ⟨V,0,none⟩) 1 1] w λe w'=>∃(D:Nat) (rest:aee) (F r1:Array aed),n+1<=D/\rest.length=(D-(n+1))*6/\e=.returned (.slice (some ⟨w.heap.size,0,none⟩) (n+1) D)/\
   w'=((w.alloc (.cells F 87)).drew.setRow w.heap.size r1).drew.setRow w.heap.size (row.toList.take (i*6)++(H.toList++(row.toList.take (n*6)).drop (i*6))++rest).toArray:=by
 have hu:Tryz.prog.underlying 29=some (.slice 87):=by kernel_rfl
 obtain⟨ei,r0,C0,s0,D0⟩:=info_parts (P:=Tryz.prog) (e:=87) (z:=.agg #[.int .i64 0,.int .i64 0,.int .i64 0,aeg,.int .i64 0,.int .i64 0]) (size:=6) (bytes:=64) (by kernel_rfl)
 have Q0:i*6+6<=n*6:=by have:=aaD 6 (show i+1<=n from hi);omega
 have S0:n*6<=C*6:=aaD _ O0
 have g1:¬((i:Int)=(n:Int)):=by omega
 have i1:IntKind.i64.wrap ((i:Int)+1)=(i:Int)+1:=by rw[IntKind.wrap_i64];omega
 have j1:IntKind.i64.wrap ((n:Int)+1)=(n:Int)+1:=by rw[IntKind.wrap_i64];omega
 have k1:i<=n:=by omega
 have o1:(0:Int)<=(i:Int)+1:=by omega
 have p1:(0:Int)<=(n:Int)+1:=by omega
 have s1:((i:Int)+1).toNat=i+1:=by omega
 have a1:((n:Int)+1).toNat=n+1:=by omega
 have u0:=aak hu
 have mixed:Tryz.prog.follows .mixedOrders=true:=by kernel_rfl
 obtain⟨b0,d0⟩:∃b0,b0=(row.toList.take (n*6)).drop (i*6):=⟨_,rfl⟩
 have i0:b0.length=(n-i)*6:=by rw[d0,aaK,aap,aas,abj];omega
 have T0:∀v∈b0,v.oneCell'=true:=λv hv=>h1 v (by rw[d0]at hv;exact acj hv)
 have E0:∀j v,b0[j]?=some v->row[i*6+j]?=some v:=λj v hj=>by
  rw[d0,aaW,abX]at hj;split at hj;·rwa[aaY]at hj
  cases hj
 have j0:H.toList.length=1*6:=by rw[aas,P0,abg]
 have u1:(C:Int)< (n:Int)+1:=by omega
 have F0:(n:Int)+1-(i:Int)=((n+1-i:Nat):Int):=by omega
 have v1:IntKind.i64.wrap ((n:Int)+1-(i:Int))=(n:Int)+1-(i:Int):=by rw[IntKind.wrap_i64];omega
 have v0:i+(n+1-i)=n+1:=by omega
 have G0:B < w.heap.size:=(aaF.1 hB).1
 have H0:V < w.heap.size:=(aaF.1 hV).1
 have U0:w.drew.heap[B]?=some (.cells row 87 (0,0)):=hB
 obtain⟨a0,holds⟩:∃a0,a0=row.toList.take (i*6):=⟨_,rfl⟩
 have h0:a0.length=i*6:=by rw[holds,aap,aas];omega
 have hold:(Builtin.firstCells ei.size i (.slice (some ⟨B,0,none⟩) i C)).run Tryz.prog w.drew=.ok a0.toArray w.drew:=by
  rw[s0]
  exact run_firstCells_some w.drew 6 i ⟨B,0,none⟩ i C a0 h0 (λj v hj=>by
   rw[Addr.add_lit,gQ U0,aaq];rw[holds,abX]at hj;split at hj;·rwa[aaY]at hj
   cases hj)
 obtain⟨G,hG⟩:∃G,G=grownCap w (n+1) C 87:=⟨_,rfl⟩
 obtain⟨z,hz⟩:∃z:aed,z=.agg #[.int .i64 0,.int .i64 0,.int .i64 0,aeg,.int .i64 0,.int .i64 0]:=⟨_,rfl⟩
 rw[<-hz]at C0
 have z0:z.cells.size=6:=by rw[hz];rfl
 have V0:n+1<=G:=by rw[hG];exact grownCap_ge w _ _ _
 obtain⟨F,g0⟩:∃F:Array aed,F=a0.toArray++Builtin.zeroCells z.cells (n+1-i)++Builtin.zeroCells z.cells (G-(n+1)):=⟨_,rfl⟩
 have I0:∀ty,(Builtin.append_ #[29,3] ty #[.slice (some ⟨B,0,none⟩) i C,.int .i64 ((n:Int)+1-(i:Int))]).run Tryz.prog w=.ok (.slice (some ⟨w.heap.size,0,none⟩) (n+1) G) (w.drew.alloc (.cells F 87)):=λty=>by have h:=Lib.run_append_grow_zeros w 29 3 ty 87 ei z .i64 .i64 hu (by kernel_rfl) r0 C0 (some ⟨B,0,none⟩) i C a0 hold (n+1-i) (by omega) (by omega) (by omega) (by omega) (by rw[D0];omega) (by rw[D0,v0];exact growslice_fits q0 (by omega));rw[v0,<-hG,<-g0]at h;rw[F0];exact h
 obtain⟨N,hN⟩:∃N,N=w.heap.size:=⟨_,rfl⟩
 rw[<-hN]at I0⊢
 have A0:F.size=n*6+6+(G-(n+1))*6:=by rw[g0];simp only[Array.size_append,abE,size_zeroCells,z0,h0,abj,aao];omega
 have X0:B≠N:=by omega
 have w1:V≠N:=by omega
 have aN:(w.alloc (.cells F 87)).heap[N]?=some (.cells F 87 (0,0)):=by rw[hN];show(w.heap.push _)[w.heap.size]?=_;simp
 have aB:(w.alloc (.cells F 87)).heap[B]?=some (.cells row 87 (0,0)):=by rw[<-hB];show(w.heap.push _)[B]?=_;rw[ab2 G0,ab5 G0]
 have aV:(w.alloc (.cells F 87)).heap[V]?=some (.cells H 87 (0,0)):=by rw[<-hV];show(w.heap.push _)[V]?=_;rw[ab2 H0,ab5 H0]
 obtain⟨r1,k0⟩:∃r1:Array aed,r1=(F.toList.take (i*6)++H.toList++F.toList.drop (i*6+H.toList.length)).toArray:=⟨_,rfl⟩
 have J0:∀(W:World),W.heap=(w.alloc (.cells F 87)).heap->∀ty dc,(Builtin.copy_ #[29,29] ty #[.slice (some ⟨N,i*6,none⟩) (n+1-i) dc,.slice (some ⟨V,0,none⟩) 1 1]).run Tryz.prog W=.ok (goInt (min 1 (n+1-i):Nat)) (W.setRow N r1):=λW hW ty dc=>by
  rw[k0]
  exact eu W _ _ ty 87 N (i*6) (n+1-i) dc ⟨V,0,none⟩ 1 1 F 87 H.toList hu r0 (by rw[hW];exact aN)
   (by rw[j0,s0];congr 1;omega) (λj v hj=>by rw[Addr.add_lit,gQ (by rw[hW];exact aV),aaq];rwa[aaY]at hj) (by rw[j0,A0];omega) h2
 have l0:r1.size=F.size:=by rw[k0,abE,aam,aam,j0,aap,aaK,aas];omega
 obtain⟨r2,B0⟩:∃r2:Array aed,r2=(r1.toList.take ((i+1)*6)++b0++r1.toList.drop ((i+1)*6+b0.length)).toArray:=⟨_,rfl⟩
 have K0:∀(W:World),W.heap=((w.alloc (.cells F 87)).setRow N r1).heap->∀ty dc sc,(Builtin.copy_ #[29,29] ty #[.slice (some ⟨N,(i+1)*6,none⟩) (n-i) dc,.slice (some ⟨B,i*6,none⟩) (n-i) sc]).run Tryz.prog W=.ok (goInt (min (n-i) (n-i):Nat)) (W.setRow N r2):=λW hW ty dc sc=>by
  rw[B0]
  exact eu W _ _ ty 87 N ((i+1)*6) (n-i) dc ⟨B,i*6,none⟩ (n-i) sc r1 87 b0 hu r0 (by rw[hW];exact iy aN)
   (by rw[i0,s0,acQ]) (λj v hj=>by rw[Addr.add_lit,gQ (by rw[hW,iw X0];exact aB)];exact E0 j v hj) (by rw[i0,l0,A0,aao,abj];omega) T0
 obtain⟨rest,e0⟩:∃rest,rest=(Builtin.zeroCells z.cells (G-(n+1))).toList:=⟨_,rfl⟩
 have e2:r2=(a0++(H.toList++b0)++rest).toArray:=by
  have L0:i*6+H.toList.length=(i+1)*6:=by rw[j0,aao]
  have hL:F.toList=a0++((Builtin.zeroCells z.cells (n+1-i)).toList++rest):=by rw[g0,e0,abO,abO,aa7]
  have M0:(Builtin.zeroCells z.cells (n+1-i)).toList.length=(n+1-i)*6:=by rw[aas,size_zeroCells,z0]
  have hA:(a0++H.toList).length=(i+1)*6:=by rw[aam,h0,L0]
  have hD:(i+1)*6+b0.length=(n+1)*6:=by rw[i0,aao,aao,abj];omega
  have Y0:(F.toList.drop ((i+1)*6)).drop b0.length=rest:=by rw[abp,hD,hL,<-aa7,acV,aam,h0,M0,abr (by rw[aam,h0,M0,abj,aao];omega)];rw[show(n+1)*6-(i*6+(n+1-i)*6)=0 by rw[abj,aao];omega];rfl
  have ht:F.toList.take (i*6)=a0:=by rw[hL,abG (by omega),aa5 (by omega)]
  rw[B0,k0,L0,ht]
  congr 1
  rw[adV,acH hA,acV,hA,abr (by rw[hA];omega),abz,acE,Y0]
  simp only[aa7]
 have N0:rest.length=(G-(n+1))*6:=by rw[e0,aas,size_zeroCells,z0]
 have c1:G<=9223372036854775807:=by have:=grownCap_le_maxLen w (n+1) C 87 (by unfold maxLen;omega);rw[<-hG]at this;unfold maxLen at this;omega
 have z1:¬(G=i):=by omega
 have d1:¬(G=i+1):=by omega
 have A1:¬(C=i):=by omega
 have B1:(i:Int)<=(n:Int):=by omega
 rw[<-d0,<-holds]
 have o0:∀e w',e=Ending.returned (.slice (some ⟨N,0,none⟩) (n+1) G)->w'=((w.alloc (.cells F 87)).drew.setRow N r1).drew.setRow N r2->∃(D:Nat) (rest:aee) (F r1:Array aed),n+1<=D/\rest.length=(D-(n+1))*6/\e=.returned (.slice (some ⟨N,0,none⟩) (n+1) D)/\
  w'=((w.alloc (.cells F 87)).drew.setRow N r1).drew.setRow N (a0++(H.toList++b0)++rest).toArray:=λe w' h1 h2=>⟨G,rest,F,r1,V0,N0,h1,by rw[h2,e2]⟩
 clear F0 v0 hold g0 hG A0 i0 E0 h0 e0 e2 k0 B0 l0 holds d0 Q0 S0 N0 hN
 refine Calls.mono (R:=λe w'=>e=Ending.returned (.slice (some ⟨N,0,none⟩) (n+1) G)/\w'=((w.alloc (.cells F 87)).drew.setRow N r1).drew.setRow N r2) ?_ (λe w' h=>o0 e w' h.1 h.2)
 clear o0
 have hE:(w.alloc (.cells F 87)).drew.heap=(w.alloc (.cells F 87)).heap:=rfl
 have hF:((w.alloc (.cells F 87)).drew.setRow N r1).drew.heap=((w.alloc (.cells F 87)).setRow N r1).heap:=rfl
 go_enter Tryz.func362,Tryz.ntmps362
 go_wp2_with (first
  |(at_builtin;refine Lib.wpList_append_run _ rfl _ _ _ _ rfl _ _ rfl rfl _ _ (I0 _) ?_)
  |(at_builtin;refine wpList_copy_runI _ rfl _ _ 29 29 rfl _ _ rfl rfl (J0 _ hE _ _) ?_))
 go_region_law_o (refine step_copy_runI rfl _ _ 29 29 rfl _ _ (by simp[Act.eval,Act.put]) (by simp[Act.eval,Act.put]) (K0 _ hF _ _ _) ?_)
 go_wp2
 go_ret
 exact⟨rfl,rfl⟩
theorem Tryz.Rj:Nr Tryz.prog ⟨362,6,87⟩ where
 FK:=enters_of Tryz.func362 (by kernel_rfl) rfl
 pos:=by show 0 < 6;decide
 go:=λB V n i C row H w hB hV b0 hi d0 hC e0 hn h1 h2=>by
  by_cases F:n+1<=C
  ·refine(Tryz.BZ B V n i C row H w hB hV b0 hi d0 hC e0 hn h1 h2 F).mono ?_
   rintro e w' ⟨rfl,r1,rfl⟩
   refine⟨⟨rfl,rfl,rfl⟩,.inl ⟨F,rfl,?_,λb hb=>?_,?_⟩⟩
   ·rw[setRow_size,setRow_size];rfl
   ·rw[iw hb,iw hb];rfl
   ·exact iy (iy (show w.drew.heap[B]?=_ from hB))
  ·refine(Tryz.Ca B V n i C row H w hB hV b0 hi d0 hC e0 hn h1 h2 (by omega)).mono ?_
   rintro e w' ⟨D,rest,g0,r1,hD,a0,rfl,rfl⟩
   refine⟨⟨rfl,rfl,rfl⟩,.inr ⟨D,rest,hD,a0,rfl,?_⟩⟩
   have h:∀r2:Array aed,(((w.alloc (.cells g0 87)).setRow w.heap.size r1).setRow w.heap.size r2)=w.alloc (.cells r2 87):=λr2=>by rw[World.setRow_alloc_new,World.setRow_alloc_new]
   exact congrArg World.heap (h _)
set_option maxHeartbeats 4000000 in
theorem Tryz.Cb(B V n i C:Nat)(row F:Array aed)(w:World)(hB:w.heap[B]?=some (.cells row 89 (0,0)))(hV:w.heap[V]?=some (.cells F 89 (0,0)))(q0:V≠B)(hi:i < n)(A0:n<=C)(hC:C*5<=row.size)(B0:F.size=5)(hn:n < 1000000)
  (h1:∀u∈row.toList.take (n*5),u.oneCell'=true) (h2:∀u∈F.toList,u.oneCell'=true) (g0:n+1<=C):
  Calls Tryz.prog 280 #[.slice (some ⟨B,0,none⟩) n C,.int .i64 i,.slice (some ⟨V,0,none⟩) 1 1] w λe w'=>e=.returned (.slice (some ⟨B,0,none⟩) (n+1) C)/\
   ∃r1:Array aed,w'=(w.drew.setRow B r1).setRow B (row.toList.take (i*5)++(F.toList++(row.toList.take (n*5)).drop (i*5))++row.toList.drop ((n+1)*5)).toArray:=by
 have hu:Tryz.prog.underlying 58=some (.slice 89):=by kernel_rfl
 obtain⟨ei,h0,L0,i0,M0⟩:=info_parts (P:=Tryz.prog) (e:=89) (z:=.agg #[.int .i64 0,.int .i64 0,.int .i64 0,.int .i64 0,aei]) (size:=5) (bytes:=40) (by kernel_rfl)
 have C0:i*5+5<=n*5:=by have:=aaD 5 (show i+1<=n from hi);omega
 have D0:n*5<=C*5:=aaD _ A0
 have N0:¬((i:Int)=(n:Int)):=by omega
 have O0:IntKind.i64.wrap ((i:Int)+1)=(i:Int)+1:=by rw[IntKind.wrap_i64];omega
 have P0:IntKind.i64.wrap ((n:Int)+1)=(n:Int)+1:=by rw[IntKind.wrap_i64];omega
 have Q0:i<=n:=by omega
 have S0:(0:Int)<=(i:Int)+1:=by omega
 have T0:(0:Int)<=(n:Int)+1:=by omega
 have U0:((i:Int)+1).toNat=i+1:=by omega
 have K0:((n:Int)+1).toNat=n+1:=by omega
 have u0:=aak hu
 have mixed:Tryz.prog.follows .mixedOrders=true:=by kernel_rfl
 obtain⟨H,a0⟩:∃H,H=(row.toList.take (n*5)).drop (i*5):=⟨_,rfl⟩
 have b0:H.length=(n-i)*5:=by rw[a0,aaK,aap,aas,abj];omega
 have E0:∀v∈H,v.oneCell'=true:=λv hv=>h1 v (by rw[a0]at hv;exact acj hv)
 have r0:∀j v,H[j]?=some v->row[i*5+j]?=some v:=λj v hj=>by
  rw[a0,aaW,abX]at hj;split at hj;·rwa[aaY]at hj
  cases hj
 have j0:F.toList.length=1*5:=by rw[aas,B0,abg]
 have hmul:n*5+5<=row.size:=by have:=aaD 5 g0;omega
 have F0:∀w,(Go.sizeOf 89).run Tryz.prog w=.ok 5 w:=λw=>by simp[Go.sizeOf,typeInfo,h0,i0]
 have G0:∀lb cb,(callFunc 327 #[.slice (some ⟨V,0,none⟩) 1 1,.slice (some ⟨B,(i+1)*5,none⟩) lb cb]).run Tryz.prog w=.ok (.value aei) w:=λlb cb=>by
  rw[run_callFunc_extern Tryz.func327 (by kernel_rfl) (by kernel_rfl) (by kernel_rfl) (e:=Extern.SlicesOverlaps.overlaps #[58,58] #[4]) (by kernel_rfl),
   Lib.run_overlaps_apart w 58 4 89 hu 5 F0 ⟨V,0,none⟩ ⟨B,(i+1)*5,none⟩ 1 1 lb cb q0 89 89 F.size row.size (by simp[World.shape?,hV]) (by simp[World.shape?,hB]) (by omega) (by simp[World.frozen?,hV]) (by simp[World.frozen?,hV])]
  rfl
 have V0:¬(C=i+1):=by omega
 have X0:(i:Int)<=(n:Int)+1:=by omega
 have Y0:¬(C=i):=by omega
 obtain⟨r1,e0⟩:∃r1:Array aed,r1=(row.toList.take ((i+1)*5)++H++row.toList.drop ((i+1)*5+H.length)).toArray:=⟨_,rfl⟩
 have k0:w.drew.heap[B]?=some (.cells row 89 (0,0)):=hB
 have s0:∀ty dc sc,(Builtin.copy_ #[58,58] ty #[.slice (some ⟨B,(i+1)*5,none⟩) (n-i) dc,.slice (some ⟨B,i*5,none⟩) (n+1-i) sc]).run Tryz.prog w.drew=.ok (goInt (min (n+1-i) (n-i):Nat)) (w.drew.setRow B r1):=λty dc sc=>by
  rw[e0]
  exact eu w.drew _ _ ty 89 B ((i+1)*5) (n-i) dc ⟨B,i*5,none⟩ (n+1-i) sc row 89 H hu h0 k0
   (by rw[b0,i0];congr 1;omega) (λj v hj=>by rw[Addr.add_lit,gQ k0];exact r0 j v hj) (by rw[b0,abj,aao];omega) E0
 have H0:(w.drew.setRow B r1).heap[B]?=some (.cells r1 89 (0,0)):=iy k0
 have I0:(w.drew.setRow B r1).heap[V]?=some (.cells F 89 (0,0)):=by rw[iw q0];exact hV
 have d0:(row.toList.take ((i+1)*5)++H).length=(n+1)*5:=by rw[aam,b0,aap,aas,aao,aao,abj];omega
 have v0:r1.size=row.size:=by rw[e0,abE,aam,d0,aaK,aas,b0,aao,aao,abj];omega
 obtain⟨r2,l0⟩:∃r2:Array aed,r2=(r1.toList.take (i*5)++F.toList++r1.toList.drop (i*5+F.toList.length)).toArray:=⟨_,rfl⟩
 have z0:∀ty dc,(Builtin.copy_ #[58,58] ty #[.slice (some ⟨B,i*5,none⟩) (n+1-i) dc,.slice (some ⟨V,0,none⟩) 1 1]).run Tryz.prog (w.drew.setRow B r1)=.ok (goInt (min 1 (n+1-i):Nat)) ((w.drew.setRow B r1).setRow B r2):=λty dc=>by
  rw[l0]
  exact eu _ _ _ ty 89 B (i*5) (n+1-i) dc ⟨V,0,none⟩ 1 1 r1 89 F.toList hu h0 H0
   (by rw[j0,i0];congr 1;omega) (λj v hj=>by rw[Addr.add_lit,gQ I0,aaq];rwa[aaY]at hj) (by rw[j0,v0];omega) h2
 have e2:r2=(row.toList.take (i*5)++(F.toList++(row.toList.take (n*5)).drop (i*5))++row.toList.drop ((n+1)*5)).toArray:=by
  have ht:(i+1)*5+H.length=(n+1)*5:=by rw[b0,aao,aao,abj];omega
  have o0:(row.toList.take ((i+1)*5)).length=(i+1)*5:=by rw[aap,aas,aao];omega
  have J0:i*5+F.toList.length=(i+1)*5:=by rw[j0,aao]
  rw[l0,e0,ht,J0]
  congr 1
  simp only[aa7]
  rw[abG (by rw[o0,aao];omega),ab1,abL (by rw[aao];omega),acM (by rw[o0];exact Ξ _),abr (by rw[o0];exact Ξ _),abz,a0]
 rw[<-a0]at e2⊢
 rw[<-e2]
 clear b0 r0 d0 e0 l0 e2 C0 D0 hmul
 go_enter Tryz.func280,Tryz.ntmps280
 go_wp2_with (simp only[G0])
 go_region_law_o (refine step_copy_runI rfl _ _ 58 58 rfl _ _ (by simp[Act.eval,Act.put]) (by simp[Act.eval,Act.put]) (s0 _ _ _) ?_)
 go_wp2_with (at_builtin;refine wpList_copy_runI _ rfl _ _ 58 58 rfl _ _ rfl rfl (z0 _ _) ?_)
 go_ret
 exact⟨rfl,r1,rfl⟩
set_option maxHeartbeats 4000000 in
theorem Tryz.Cc(B V n i C:Nat)(row H:Array aed)(w:World)(hB:w.heap[B]?=some (.cells row 89 (0,0)))(hV:w.heap[V]?=some (.cells H 89 (0,0)))(e1:V≠B)(hi:i < n)(O0:n<=C)(hC:C*5<=row.size)(P0:H.size=5)(hn:n < 1000000)
  (h1:∀u∈row.toList.take (n*5),u.oneCell'=true) (h2:∀u∈H.toList,u.oneCell'=true) (q0:C < n+1):
  Calls Tryz.prog 280 #[.slice (some ⟨B,0,none⟩) n C,.int .i64 i,.slice (some ⟨V,0,none⟩) 1 1] w λe w'=>∃(D:Nat) (rest:aee) (F r1:Array aed),n+1<=D/\rest.length=(D-(n+1))*5/\e=.returned (.slice (some ⟨w.heap.size,0,none⟩) (n+1) D)/\
   w'=((w.alloc (.cells F 89)).drew.setRow w.heap.size r1).drew.setRow w.heap.size (row.toList.take (i*5)++(H.toList++(row.toList.take (n*5)).drop (i*5))++rest).toArray:=by
 have hu:Tryz.prog.underlying 58=some (.slice 89):=by kernel_rfl
 obtain⟨ei,r0,C0,s0,D0⟩:=info_parts (P:=Tryz.prog) (e:=89) (z:=.agg #[.int .i64 0,.int .i64 0,.int .i64 0,.int .i64 0,aei]) (size:=5) (bytes:=40) (by kernel_rfl)
 have Q0:i*5+5<=n*5:=by have:=aaD 5 (show i+1<=n from hi);omega
 have S0:n*5<=C*5:=aaD _ O0
 have g1:¬((i:Int)=(n:Int)):=by omega
 have i1:IntKind.i64.wrap ((i:Int)+1)=(i:Int)+1:=by rw[IntKind.wrap_i64];omega
 have j1:IntKind.i64.wrap ((n:Int)+1)=(n:Int)+1:=by rw[IntKind.wrap_i64];omega
 have k1:i<=n:=by omega
 have o1:(0:Int)<=(i:Int)+1:=by omega
 have p1:(0:Int)<=(n:Int)+1:=by omega
 have s1:((i:Int)+1).toNat=i+1:=by omega
 have a1:((n:Int)+1).toNat=n+1:=by omega
 have u0:=aak hu
 have mixed:Tryz.prog.follows .mixedOrders=true:=by kernel_rfl
 obtain⟨b0,d0⟩:∃b0,b0=(row.toList.take (n*5)).drop (i*5):=⟨_,rfl⟩
 have i0:b0.length=(n-i)*5:=by rw[d0,aaK,aap,aas,abj];omega
 have T0:∀v∈b0,v.oneCell'=true:=λv hv=>h1 v (by rw[d0]at hv;exact acj hv)
 have E0:∀j v,b0[j]?=some v->row[i*5+j]?=some v:=λj v hj=>by
  rw[d0,aaW,abX]at hj;split at hj;·rwa[aaY]at hj
  cases hj
 have j0:H.toList.length=1*5:=by rw[aas,P0,abg]
 have u1:(C:Int)< (n:Int)+1:=by omega
 have F0:(n:Int)+1-(i:Int)=((n+1-i:Nat):Int):=by omega
 have v1:IntKind.i64.wrap ((n:Int)+1-(i:Int))=(n:Int)+1-(i:Int):=by rw[IntKind.wrap_i64];omega
 have v0:i+(n+1-i)=n+1:=by omega
 have G0:B < w.heap.size:=(aaF.1 hB).1
 have H0:V < w.heap.size:=(aaF.1 hV).1
 have U0:w.drew.heap[B]?=some (.cells row 89 (0,0)):=hB
 obtain⟨a0,holds⟩:∃a0,a0=row.toList.take (i*5):=⟨_,rfl⟩
 have h0:a0.length=i*5:=by rw[holds,aap,aas];omega
 have hold:(Builtin.firstCells ei.size i (.slice (some ⟨B,0,none⟩) i C)).run Tryz.prog w.drew=.ok a0.toArray w.drew:=by
  rw[s0]
  exact run_firstCells_some w.drew 5 i ⟨B,0,none⟩ i C a0 h0 (λj v hj=>by
   rw[Addr.add_lit,gQ U0,aaq];rw[holds,abX]at hj;split at hj;·rwa[aaY]at hj
   cases hj)
 obtain⟨G,hG⟩:∃G,G=grownCap w (n+1) C 89:=⟨_,rfl⟩
 obtain⟨z,hz⟩:∃z:aed,z=.agg #[.int .i64 0,.int .i64 0,.int .i64 0,.int .i64 0,aei]:=⟨_,rfl⟩
 rw[<-hz]at C0
 have z0:z.cells.size=5:=by rw[hz];rfl
 have V0:n+1<=G:=by rw[hG];exact grownCap_ge w _ _ _
 obtain⟨F,g0⟩:∃F:Array aed,F=a0.toArray++Builtin.zeroCells z.cells (n+1-i)++Builtin.zeroCells z.cells (G-(n+1)):=⟨_,rfl⟩
 have I0:∀ty,(Builtin.append_ #[58,3] ty #[.slice (some ⟨B,0,none⟩) i C,.int .i64 ((n:Int)+1-(i:Int))]).run Tryz.prog w=.ok (.slice (some ⟨w.heap.size,0,none⟩) (n+1) G) (w.drew.alloc (.cells F 89)):=λty=>by have h:=Lib.run_append_grow_zeros w 58 3 ty 89 ei z .i64 .i64 hu (by kernel_rfl) r0 C0 (some ⟨B,0,none⟩) i C a0 hold (n+1-i) (by omega) (by omega) (by omega) (by omega) (by rw[D0];omega) (by rw[D0,v0];exact growslice_fits q0 (by omega));rw[v0,<-hG,<-g0]at h;rw[F0];exact h
 obtain⟨N,hN⟩:∃N,N=w.heap.size:=⟨_,rfl⟩
 rw[<-hN]at I0⊢
 have A0:F.size=n*5+5+(G-(n+1))*5:=by rw[g0];simp only[Array.size_append,abE,size_zeroCells,z0,h0,abj,aao];omega
 have X0:B≠N:=by omega
 have w1:V≠N:=by omega
 have aN:(w.alloc (.cells F 89)).heap[N]?=some (.cells F 89 (0,0)):=by rw[hN];show(w.heap.push _)[w.heap.size]?=_;simp
 have aB:(w.alloc (.cells F 89)).heap[B]?=some (.cells row 89 (0,0)):=by rw[<-hB];show(w.heap.push _)[B]?=_;rw[ab2 G0,ab5 G0]
 have aV:(w.alloc (.cells F 89)).heap[V]?=some (.cells H 89 (0,0)):=by rw[<-hV];show(w.heap.push _)[V]?=_;rw[ab2 H0,ab5 H0]
 obtain⟨r1,k0⟩:∃r1:Array aed,r1=(F.toList.take (i*5)++H.toList++F.toList.drop (i*5+H.toList.length)).toArray:=⟨_,rfl⟩
 have J0:∀(W:World),W.heap=(w.alloc (.cells F 89)).heap->∀ty dc,(Builtin.copy_ #[58,58] ty #[.slice (some ⟨N,i*5,none⟩) (n+1-i) dc,.slice (some ⟨V,0,none⟩) 1 1]).run Tryz.prog W=.ok (goInt (min 1 (n+1-i):Nat)) (W.setRow N r1):=λW hW ty dc=>by
  rw[k0]
  exact eu W _ _ ty 89 N (i*5) (n+1-i) dc ⟨V,0,none⟩ 1 1 F 89 H.toList hu r0 (by rw[hW];exact aN)
   (by rw[j0,s0];congr 1;omega) (λj v hj=>by rw[Addr.add_lit,gQ (by rw[hW];exact aV),aaq];rwa[aaY]at hj) (by rw[j0,A0];omega) h2
 have l0:r1.size=F.size:=by rw[k0,abE,aam,aam,j0,aap,aaK,aas];omega
 obtain⟨r2,B0⟩:∃r2:Array aed,r2=(r1.toList.take ((i+1)*5)++b0++r1.toList.drop ((i+1)*5+b0.length)).toArray:=⟨_,rfl⟩
 have K0:∀(W:World),W.heap=((w.alloc (.cells F 89)).setRow N r1).heap->∀ty dc sc,(Builtin.copy_ #[58,58] ty #[.slice (some ⟨N,(i+1)*5,none⟩) (n-i) dc,.slice (some ⟨B,i*5,none⟩) (n-i) sc]).run Tryz.prog W=.ok (goInt (min (n-i) (n-i):Nat)) (W.setRow N r2):=λW hW ty dc sc=>by
  rw[B0]
  exact eu W _ _ ty 89 N ((i+1)*5) (n-i) dc ⟨B,i*5,none⟩ (n-i) sc r1 89 b0 hu r0 (by rw[hW];exact iy aN)
   (by rw[i0,s0,acQ]) (λj v hj=>by rw[Addr.add_lit,gQ (by rw[hW,iw X0];exact aB)];exact E0 j v hj) (by rw[i0,l0,A0,aao,abj];omega) T0
 obtain⟨rest,e0⟩:∃rest,rest=(Builtin.zeroCells z.cells (G-(n+1))).toList:=⟨_,rfl⟩
 have e2:r2=(a0++(H.toList++b0)++rest).toArray:=by
  have L0:i*5+H.toList.length=(i+1)*5:=by rw[j0,aao]
  have hL:F.toList=a0++((Builtin.zeroCells z.cells (n+1-i)).toList++rest):=by rw[g0,e0,abO,abO,aa7]
  have M0:(Builtin.zeroCells z.cells (n+1-i)).toList.length=(n+1-i)*5:=by rw[aas,size_zeroCells,z0]
  have hA:(a0++H.toList).length=(i+1)*5:=by rw[aam,h0,L0]
  have hD:(i+1)*5+b0.length=(n+1)*5:=by rw[i0,aao,aao,abj];omega
  have Y0:(F.toList.drop ((i+1)*5)).drop b0.length=rest:=by rw[abp,hD,hL,<-aa7,acV,aam,h0,M0,abr (by rw[aam,h0,M0,abj,aao];omega)];rw[show(n+1)*5-(i*5+(n+1-i)*5)=0 by rw[abj,aao];omega];rfl
  have ht:F.toList.take (i*5)=a0:=by rw[hL,abG (by omega),aa5 (by omega)]
  rw[B0,k0,L0,ht]
  congr 1
  rw[adV,acH hA,acV,hA,abr (by rw[hA];omega),abz,acE,Y0]
  simp only[aa7]
 have N0:rest.length=(G-(n+1))*5:=by rw[e0,aas,size_zeroCells,z0]
 have c1:G<=9223372036854775807:=by have:=grownCap_le_maxLen w (n+1) C 89 (by unfold maxLen;omega);rw[<-hG]at this;unfold maxLen at this;omega
 have z1:¬(G=i):=by omega
 have d1:¬(G=i+1):=by omega
 have A1:¬(C=i):=by omega
 have B1:(i:Int)<=(n:Int):=by omega
 rw[<-d0,<-holds]
 have o0:∀e w',e=Ending.returned (.slice (some ⟨N,0,none⟩) (n+1) G)->w'=((w.alloc (.cells F 89)).drew.setRow N r1).drew.setRow N r2->∃(D:Nat) (rest:aee) (F r1:Array aed),n+1<=D/\rest.length=(D-(n+1))*5/\e=.returned (.slice (some ⟨N,0,none⟩) (n+1) D)/\
  w'=((w.alloc (.cells F 89)).drew.setRow N r1).drew.setRow N (a0++(H.toList++b0)++rest).toArray:=λe w' h1 h2=>⟨G,rest,F,r1,V0,N0,h1,by rw[h2,e2]⟩
 clear F0 v0 hold g0 hG A0 i0 E0 h0 e0 e2 k0 B0 l0 holds d0 Q0 S0 N0 hN
 refine Calls.mono (R:=λe w'=>e=Ending.returned (.slice (some ⟨N,0,none⟩) (n+1) G)/\w'=((w.alloc (.cells F 89)).drew.setRow N r1).drew.setRow N r2) ?_ (λe w' h=>o0 e w' h.1 h.2)
 clear o0
 have hE:(w.alloc (.cells F 89)).drew.heap=(w.alloc (.cells F 89)).heap:=rfl
 have hF:((w.alloc (.cells F 89)).drew.setRow N r1).drew.heap=((w.alloc (.cells F 89)).setRow N r1).heap:=rfl
 go_enter Tryz.func280,Tryz.ntmps280
 go_wp2_with (first
  |(at_builtin;refine Lib.wpList_append_run _ rfl _ _ _ _ rfl _ _ rfl rfl _ _ (I0 _) ?_)
  |(at_builtin;refine wpList_copy_runI _ rfl _ _ 58 58 rfl _ _ rfl rfl (J0 _ hE _ _) ?_))
 go_region_law_o (refine step_copy_runI rfl _ _ 58 58 rfl _ _ (by simp[Act.eval,Act.put]) (by simp[Act.eval,Act.put]) (K0 _ hF _ _ _) ?_)
 go_wp2
 go_ret
 exact⟨rfl,rfl⟩
theorem Tryz.Rk:Nr Tryz.prog ⟨280,5,89⟩ where
 FK:=enters_of Tryz.func280 (by kernel_rfl) rfl
 pos:=by show 0 < 5;decide
 go:=λB V n i C row H w hB hV b0 hi d0 hC e0 hn h1 h2=>by
  by_cases F:n+1<=C
  ·refine(Tryz.Cb B V n i C row H w hB hV b0 hi d0 hC e0 hn h1 h2 F).mono ?_
   rintro e w' ⟨rfl,r1,rfl⟩
   refine⟨⟨rfl,rfl,rfl⟩,.inl ⟨F,rfl,?_,λb hb=>?_,?_⟩⟩
   ·rw[setRow_size,setRow_size];rfl
   ·rw[iw hb,iw hb];rfl
   ·exact iy (iy (show w.drew.heap[B]?=_ from hB))
  ·refine(Tryz.Cc B V n i C row H w hB hV b0 hi d0 hC e0 hn h1 h2 (by omega)).mono ?_
   rintro e w' ⟨D,rest,g0,r1,hD,a0,rfl,rfl⟩
   refine⟨⟨rfl,rfl,rfl⟩,.inr ⟨D,rest,hD,a0,rfl,?_⟩⟩
   have h:∀r2:Array aed,(((w.alloc (.cells g0 89)).setRow w.heap.size r1).setRow w.heap.size r2)=w.alloc (.cells r2 89):=λr2=>by rw[World.setRow_alloc_new,World.setRow_alloc_new]
   exact congrArg World.heap (h _)
end
section
open Go.D Go.RowKit
theorem Tryz.KG(w:World):Calls Tryz.prog 176 #[aei] w λe w'=>e=.panicked [{v:=.iface 254 (.agg #[]),recovered:=false}]/\w'=w:=by
 go_enter Tryz.func176,Tryz.ntmps176
 go_wp2
 have F:(Instr.panic (.iface 254 (.agg #[]))).run Tryz.prog w=(.halt (.panic (.iface 254 (.agg #[]))) w:Result aed):=by rfl
 rw[F]
 exact⟨rfl,rfl,rfl⟩
abbrev rJ:aed:=.iface 254 (.agg #[])
def lI:fI:=λg args m=>match g with
 |.func f=>bif Nat.beq f 176 then(match args with |[.bool false]=>some m |_=>none)else none
 |_=>none
theorem oZ{g:Fn}{args:aee}{m m':M}(h:lI g args m=some m'):g=.func 176/\args=[aei]/\m'=m:=by
 unfold lI at h;split at h
 ·rename_i f
  cases F:Nat.beq f 176 with
  |false=>rw[F]at h;cases h
  |true=>
   rw[F,cond_true]at h;have:=aab F;subst this;split at h;·cases h;exact⟨rfl,rfl,rfl⟩
   cases h
 cases h
theorem KH:se Tryz.prog rJ lI:=by
 refine⟨λf args m m' h σ w args' hs hl=>?_,λg args m m' h=>⟨_,(oZ h).1⟩⟩;obtain⟨hg,rfl,rfl⟩:=oZ h;cases hg;obtain⟨x1,l1,F,hv,a0⟩:=hl.cases;obtain rfl:=a0.nil_eq;have e1:=hv.aU rfl;subst e1;have H:args'= #[aei]:=by apply abl;rw[F]
 subst H;refine⟨callsIn_wide.2 ((Tryz.KG w).mono ?_),enters_of Tryz.func176 (by kernel_rfl) rfl _ _⟩;rintro e w' ⟨rfl,rfl⟩;exact⟨rfl,σ,.refl hs⟩
theorem KJ:∀g args m m',lI g args m=some m'->LK m m':=λg args m m' h=>by
 obtain⟨-, -,rfl⟩:=oZ h
 exact .refl
end
end Go.Proofs
namespace Go.Proofs.YtmdfgncoekfgdaaGreatDoor
open Go Go.D
variable {X:aG} {m:M}
section
variable {α:Type} [aP α]
theorem Ix{cs:aee}{k i j p:Nat}{c:aed}(F:j < k):chunk (cs.set (i*k+j) c) k p=if p=i then(chunk cs k p).set j c else chunk cs k p:=by
 unfold chunk;by_cases e:p=i
 ·subst e;rw[aaf rfl,adS,aaa (by omega),show p*k+j-p*k=j by omega,adQ]
 rw[aaa e];by_cases h:p < i
 ·have:(p+1)*k<=i*k:=aaD _ h;rw[aao,abg]at this;rw[adS,aaa (by omega),adQ,adz (by rw[aap];omega)]
 have:(i+1)*k<=p*k:=aaD _ (by omega);rw[aao,abg]at this;rw[adS,aaf (by omega)]
theorem DH(b0:aP.fx α=[]){n1:Nat}{l:List α}{v:aed}(h:Ow n1 m l v){i:Nat}{x:α}(hi:l[i]?=some x){T t0:TypeId}(hT:uF TE T t0 α):
  ∃b,(∀q,ak TE T v (.int q i)=some (aeb b (0+i*aP.sz α)))/\n1<=b/\(∃cs g,m.get b=.cells cs (aP.ty α) g)/\b < m.n/\
   (∃cs,aP.rep m x cs/\∀j,j < aP.sz α->cellAt m ⟨b,0+i*aP.sz α+j,none⟩=cs[j]?)/\
   ∀(k:Nat) (t:TypeId) (ti:TI) (y:α) (c:aed),TE.ty.get t=some ti->ti.size=1->cells c=[c]->one c=true->k < aP.sz α->(∀cs,aP.rep m x cs->∀m',aP.rep m' y (cs.set k c))->
    ∀P:M->Nat->Prop,(∀m1,m1.n=m.n->Ow n1 m1 (l.set i y) v->(∀c,c≠b->m1.get c=m.get c)->P m1 b)->
    aT (aA TE m t (aeb b (0+i*aP.sz α+k)) c) P:=by
 have F:=(Ω.1 hi).1;rcases h with⟨_,rfl⟩ |⟨b,cs,rfl,h2,h3,h4,h5,h6⟩;·simp at hi
 obtain⟨d0,te,t1,⟨e,t2⟩,t3,t4,t5,t6⟩:=hT;have h0:=aP.pos (α:=α);have hmul:(i+1)*aP.sz α<=l.length*aP.sz α:=aaD _ F;rw[aao,abg]at hmul;refine⟨b,λq=>?_,h3,⟨cs,_,h4⟩,M.aL h4,⟨_,h6 i x hi,λj hj=>?_⟩,λk t ti y c ht e0 hc h1 hk hy P hP=>?_⟩
 ·have H:0<=(i:Int)/\(i:Int)< (l.length:Int)/\0 < d0.es:=⟨by omega,by omega,by omega⟩
  simp only[ak,t1,t2];rw[aaf H,bw rfl,t3];rfl
 ·rw[aF h4];unfold chunk;rw[aaI hj,aaW,aaq]
 refine bW ht h4 (by rw[hc,e0];rfl) (by rw[hc];simp;omega) (by rw[hc];simp[h1]) λm1 hn hg g0=>?_;rw[hc]at hg
 have a0:cs.take (0+i*aP.sz α+k)++([c]++cs.drop (0+i*aP.sz α+k+ [c].length))=cs.set (i*aP.sz α+k) c:=by rw[aaq];exact ir (by omega)
 rw[a0]at hg;refine hP m1 hn (.inr ⟨b,_,by rw[abM],by rw[abM];exact h2,h3,hg,by rw[abM,abM];exact h5,λp z hz=>?_⟩) g0;rw[Ix hk];by_cases e:p=i
 ·subst e;rw[aaf rfl];rw[acs F]at hz;cases hz;exact hy _ (h6 p x hi) m1
 rw[aaa e];rw[adf (Ne.symm e)]at hz;exact aP.bH (h6 p z hz) λb c t g _ h=>by rw[b0]at h;cases h
theorem OB(j0:aP.fx α=[]){N:PG}(hk:N.k=aP.sz α)(he:N.e=aP.ty α)(hX:∀args m,X (.func N.S) args m=pD N (.func N.S) args m){n1:Nat}{l:List α}{v:aed}(h:Ow n1 m l v){i bx:Nat}{x:α}{cs:aee}(hi:i < l.length)(hl:l.length < 1000000)
  (hx:m.get bx=.cells cs (aP.ty α) none) (hr:aP.rep m x cs) (k0:n1<=m.n):
  ∃rv m' b,C X (.func N.S) [v,.int .i64 i,aec bx 0 1 1] m b rv m'/\n1<=b/\Ow n1 m' (l.take i++x::l.drop i) rv/\m.n<=m'.n/\bP rv=false/\(∃k,rv=aec m.n 0 k k)/\(∀c,c < m.n->(∀a n k,v=.slice (some a) n k->c≠a.block)->m'.get c=m.get c):=by
 rcases h with⟨_,rfl⟩ |⟨b,row,rfl,h2,h3,h4,h5,h6⟩;·simp at hi
 have q0:=M.aL h4;have a0:cs.length=aP.sz α:=aP.len hr;have l0:b≠bx:=λe=>by subst e;rw[h4]at hx;cases hx
 have e0:row.all one=true:=nn l.length row h5 λj H=>aP.kN (h6 j _ (Φ H));have hmul:(i+1)*aP.sz α<=l.length*aP.sz α:=aaD _ hi;rw[aao,abg]at hmul
 have g0:∀lw,X (.func N.S) [aec b 0 l.length l.length,.int .i64 i,aec bx 0 1 1] (m.wl lw)=
   some (aec m.n 0 (l.length+1) (l.length+1),(((m.wl m.n).set b .dead).push (.cells (row.take (i*aP.sz α)++(cs++row.drop (i*aP.sz α))) (aP.ty α) (some (aP.sz α)))).wl (min lw b)):=λlw=>by
  rw[hX]
  unfold pD
  dsimp only
  rw[aa4,cond_true]
  show(match(m.wl lw).get b,(m.wl lw).get bx with |.cells cs te (some k),.cells ds r0 none=>_ |_,_=>none)=_
  rw[M.cR,M.cR,h4,hx]
  dsimp only
  rw[aaf (by refine⟨⟨rfl,rfl,rfl,rfl⟩,⟨rfl,by rw[hk];exact h5,by rw[hk];exact a0,hk.symm,he.symm,he.symm⟩,⟨by omega,by omega,hl,l0⟩,e0,aP.kN hr⟩)]
  rw[ab8,hk,he]
  rfl
 have i0:∀c,c < m.n->c≠b->(((m.wl m.n).set b .dead).push (.cells (row.take (i*aP.sz α)++(cs++row.drop (i*aP.sz α))) (aP.ty α) (some (aP.sz α)))).get c=m.get c:=λc hc b0=>by rw[M.cE (by show c < m.n;exact hc),M.cL b0];rfl
 refine⟨_,_,b,Cl.Ld (λlw _=>g0 lw) (by show m.n<=m.n+1;omega) (by omega),h3,?_,by show m.n<=m.n+1;omega,rfl,⟨_,rfl⟩,λc hc b0=>i0 c hc (b0 _ _ _ rfl)⟩;have d0:(row.take (i*aP.sz α)).length=i*aP.sz α:=by rw[aap];omega
 refine .inr ⟨m.n,_,?_,by simp;omega,k0,M.bJ (m:=(m.wl m.n).set b .dead),?_,λj z H=>?_⟩
 ·congr 1 <;>simp[aap,aaK] <;>omega
 ·simp only[aam,aaJ,aap,aaK,a0,h5];rw[show min i l.length+(l.length-i+1)=l.length+1 by omega,aao,abg];omega
 have F:∀z c,aP.rep m z c->aP.rep (α:=α) (((m.wl m.n).set b .dead).push (.cells (row.take (i*aP.sz α)++(cs++row.drop (i*aP.sz α))) (aP.ty α) (some (aP.sz α)))) z c:=λz c hz=>aP.bH hz λb c t g _ h=>by rw[j0]at h;cases h
 have o0:(l.take i).length=i:=by rw[aap];omega
 by_cases h1:j < i
 ·rw[cN (n:=i) d0 h1];rw[aa9 (by omega),aaI h1]at H
  have:chunk (row.take (i*aP.sz α)) (aP.sz α) j=chunk row (aP.sz α) j:=by
   conv=>rhs;rw[<-abV (i*aP.sz α) row]
   rw[cN (n:=i) d0 h1]
  rw[this];exact F _ _ (h6 j z H)
 rw[cS (n:=i) d0 (by omega)];rw[aa1 (by omega),o0]at H;by_cases h0:j=i
 ·subst h0;rw[acO]at H⊢;cases H
  have:chunk (cs++row.drop (j*aP.sz α)) (aP.sz α) 0=cs:=by rw[cN (n:=1) (by omega) (by omega)];unfold chunk;rw[ab0,aa0,<-a0,abB]
  rw[this];exact F _ _ hr
 obtain⟨d,hd⟩:∃d,j-i=d+1:=⟨j-i-1,by omega⟩
 rw[hd]at H⊢;rw[aah,aaW]at H;rw[cS (n:=1) (by omega) (by omega)]
 have:chunk (row.drop (i*aP.sz α)) (aP.sz α) (d+1-1)=chunk row (aP.sz α) (i+d):=by unfold chunk;rw[abp,ad4,aao]
 rw[this];exact F _ _ (h6 _ z H)
end
end Go.Proofs.YtmdfgncoekfgdaaGreatDoor
