/- What functions of the program .. -/
import Derived.Test.YtigpcbodmjjaiaaGreatDoorG10J
set_option maxRecDepth 100000
namespace Go.Proofs.YtigpcbodmjjaiaaGreatDoor
open Go Go.D Go.Proofs.Tryz
section
section
variable {X:aK}{x0 x1 x2 x3:aeM}{m:M}{R:aeN->M->Nat->Prop}{W:Words}
theorem F28:dE TE (aL TE X) f28 [x0,x1] m R=ρ m x0 38 λa=>ρ a x1 62 λb=>ε 38 (υ m) 0 λc=>δ b 33 c λc=>ε 62 (υ a) 2 λd=>δ b 3 d λd=>χ X 71 [c,d] b λb c d=>ξ b 0 λf=>ξ b 1 λb=>ς c [φ 0,φ 0,φ 0,aeQ,φ 0,φ 0] 60 λg=>ι g 60 (υ c) f λc f=>ε 38 (υ m) 0 λg=>δ c 33 g λg=>ε 62 (υ a) 3 λh=>δ c 3 h λh=>χ X 71 [g,h] c λc g h=>ξ c 0 λi=>ξ c 1 λc=>ς g [φ 0,φ 0,φ 0,aeQ,φ 0,φ 0] 60 λj=>ι j 60 (υ g) i λg i=>ε 62 (υ a) 0 λj=>δ g 3 j λj=>η .eql 3 j (φ 9) λj=>aR j (jn (λa=>aR b (a [c] g (Γ m.n d f h i)) (a [aeS] g (Γ m.n d f h i))) (λa b c=>un a λa _=>R [a] b c)) (jn (λc=>aR b (c [aeR] g (Γ m.n d f h i)) (ε 62 (υ a) 0 λb=>δ g 3 b λb=>η .neq 3 b (φ 4) λb=>aR b (ε 62 (υ a) 0 λa=>δ g 3 a λa=>η .neq 3 a (φ 5) λa=>c [a] g (Γ m.n d f h i)) (c [aeS] g (Γ m.n d f h i)))) (λa b c=>un a λa _=>R [a] b c)):=by kernel_rfl
theorem F10:dE TE (aL TE X) f10 [x0,x1] m R=ρ m x1 53 λa=>Lp (λa b c d=>un b λb f=>un f λf _=>κ c .len [35] [x0] λg _=>η .lss 3 f g λg=>aR g (ζ 35 x0 f λg=>δ c 53 g λg=>δ c 53 (υ m) λh=>η .eql 53 g h λg=>aR g (R [aeR] c d) (η .add 3 f (φ 1) λf=>a [b,f] c d)) (R [aeS] c d)) [aeS,φ 0] a m.n:=by kernel_rfl
theorem F74:dE TE (aL TE X) f74 [x0,x1] m R=ρ m x0 53 λa=>ρ a x1 53 λb=>jn (λc=>ε 53 (υ m) 0 λd=>δ b 3 d λd=>ε 53 (υ a) 0 λf=>δ b 3 f λf=>η .lss 3 d f λd=>aR d (c [aeR] b m.n) (ε 53 (υ m) 0 λd=>δ b 3 d λd=>ε 53 (υ a) 0 λf=>δ b 3 f λf=>η .eql 3 d f λd=>aR d (ε 53 (υ m) 1 λd=>δ b 3 d λd=>ε 53 (υ a) 1 λa=>δ b 3 a λa=>η .lss 3 d a λa=>c [a] b m.n) (c [aeS] b m.n))) (λa b c=>un a λa _=>R [a] b c):=by kernel_rfl
theorem F30:dE TE (aL TE X) f30 [x0,x1] m R=jn (λa=>η .lss 3 x0 (φ 0) λb=>aR b (η .add 3 x0 (φ 1) λb=>ο .neg b λb=>a [b] m m.n) (a [x0] m m.n)) (λa b c=>un a λa _=>η .rem 3 a x1 λa=>R [a] b c):=by kernel_rfl
theorem F29:dE TE (aL TE X) f29 [x0,x1] m R=ρ m x0 33 λa=>Lp (λa b c d=>un b λb f=>un f λf _=>jn (λa=>κ c .len [23] [x1] λb _=>η .lss 3 f b λb=>aR b (η .lss 3 f (φ 4) λb=>a [b] c d) (a [aeS] c d)) (λc d g=>un c λc _=>aR c (η .mul 3 (φ 10) f λc=>θ 79 [(0,c)] λc=>ς d [φ 0,aeQ] 79 λh=>ι h 79 (υ d) c λc h=>Lp (λc g h i=>un g λg _=>η .lss 3 g (φ 4) λj=>aR j (jn (λa=>ζ 23 x1 f λb=>ζ 153 b g λb=>δ h 3 b λb=>χ X 30 [b,φ 100] h λb c j=>(h.n<=j)/\(ζ 23 x1 f λh=>ζ 153 h g λh=>δ c 3 h λh=>η .quo 3 h (φ 16) λh=>χ X 30 [h,φ 6] c λh k l=>(c.n<=l)/\(η .sub 3 h (φ 2) λc=>θ 53 [(0,b),(1,c)] λb=>ς k [φ 0,φ 0] 53 λc=>ι c 53 (υ k) b λb c=>jn (λa=>ε 33 (υ m) 0 λd=>ε 30 d 0 λd=>δ b 28 d λd=>κ b .len [28] [d] λd _=>η .gtr 3 d (φ 0) λd=>aR d (ε 33 (υ m) 0 λd=>ε 30 d 0 λd=>δ b 28 d λd=>ζ 23 x1 f λf=>ζ 153 f g λf=>δ b 3 f λf=>ε 33 (υ m) 0 λg=>ε 30 g 0 λg=>δ b 28 g λg=>κ b .len [28] [g] λg _=>χ X 30 [f,g] b λf g h=>(b.n<=h)/\(ζ 28 d f λb=>ε 60 b 0 λb=>δ g 3 b λb=>ε 53 (υ k) 0 λd=>ι g 3 d b λb d=>a [] b (Δ i j l c h d))) (a [] b (ω i j l c))) (λ_ b c=>jn (λa=>ε 79 (υ d) 1 λd=>δ b 35 d λd=>δ b 53 (υ k) λh=>χ X 10 [d,h] b λb d h=>aR b (a [aeR] d (min c h)) (ζ 23 x1 f λb=>ζ 153 b g λb=>δ d 3 b λb=>η .quo 3 b (φ 128) λb=>χ X 30 [b,φ 4] d λb d f=>η .eql 3 b (φ 3) λb=>a [b] d (ψ c h f))) (λb c f=>un b λb _=>aR b (a [] c f) (Lp (λb c f g=>un c λc _=>jn (λa=>ε 79 (υ d) 1 λb=>δ f 35 b λb=>κ f .len [35] [b] λb _=>η .lss 3 c b λb=>aR b (ε 79 (υ d) 1 λb=>δ f 35 b λb=>ζ 35 b c λb=>δ f 53 b λb=>δ f 53 (υ k) λc=>χ X 74 [b,c] f λb c d=>a [b] c (min g d)) (a [aeS] f g)) (λf g h=>un f λf _=>aR f (η .add 3 c (φ 1) λa=>b [a] g h) (ε 79 (υ d) 1 λb=>δ g 35 b λb=>ai (slice? TE g 35 b none (some c) (some c)) λb=>δ g 53 (υ k) λf=>ν g 35 1 [(0,f)] λf g=>ε 79 (υ d) 1 λi=>δ g 35 i λi=>ai (slice? TE g 35 i (some c) none none) λc=>κ (M.wl g g.n) .append [35,35] [f,c] λc f=>(g.n<=M.low f)/\(κ (M.wl f f.n) .append [35,35] [b,c] λb c=>ε 79 (υ d) 1 λd=>ι c 35 d b λb d=>a [] b (ω h (M.low f) (M.low c) d))))) [φ 0] c f)))))) (λ_ a b=>η .add 3 g (φ 1) λd=>c [d] a b)) (δ h 79 (υ d) λc=>ν h 41 1 [(0,c)] λc d=>κ (M.wl d d.n) .append [41,41] [b,c] λb c=>η .add 3 f (φ 1) λd=>a [b,d] c (min i (M.low c)))) [φ 0] c (min g h)) (R [b] d g))) [aeQ,φ 0] a m.n:=by kernel_rfl
theorem F7:dE TE W Tryz.f7 [x0,x1,x2,x3] m R=W.bE (M.push m (.cells (cells x0) 25 none)) λa=>W.bE (M.push a (.cells [aeQ,aeQ,aeQ,aeQ,aeQ,aeQ,aeQ,aeQ] 43 none)) λb=>W.ai (ah TE b 25 (ptrTo m.n)) λc=>W.aP (aw TE b .len [22] [x1]) λd _=>W.aP (aw TE b .min [3,3] [d,.int .i64 3]) λd _=>W.ai (slice? TE b 22 x1 none (some d) none) λd=>W.bh (.func 25) [c,d] b λc d f=>(b.n<=f)/\(W.ai (bz c 0) λb=>W.ai (bz c 1) λ_=>W.bE (M.push d (.cells [aeQ,aeQ,aeQ,aeQ,aeQ] 38 none)) λc=>W.aP (aD TE c 38 (ptrTo d.n) b) λb c=>W.ai (ah TE b 38 (ptrTo d.n)) λg=>W.bE (M.push b (.cells [aeQ,aeQ,aeQ,aeQ,aeQ] 38 none)) λh=>W.aP (aD TE h 38 (ptrTo b.n) g) λg h=>W.Lp (λc f g h=>W.un f λf i=>W.un i λi _=>W.jn (λa=>W.aP (aw TE g .len [22] [x1]) λb _=>W.ai (az TE .lss 3 i b) λb=>aR b (W.ai (az TE .lss 3 i (.int .i64 9)) λb=>a [b] g h) (a [aeS] g h)) (λg h j=>W.un g λg _=>aR g (W.jn (λa=>W.ai (ah TE h 38 (ptrTo b.n)) λc=>W.ai (an TE 22 x1 i) λg=>W.ai (ah TE h 89 g) λg=>W.bh (.func 26) [c,g] h λc g i=>(h.n<=i)/\(W.bE (M.push g (.cells [.int .i64 0,.int .i64 0,.int .i64 0,.int .i64 0,aeQ,.int .i64 0,.int .i64 0,.int .i64 0,.int .i64 0,.int .i64 0,.int .i64 0] 62 none)) λh=>W.aP (aD TE h 62 (ptrTo g.n) c) λc h=>W.ai (ah TE c 38 (ptrTo b.n)) λk=>W.ai (ah TE c 62 (ptrTo g.n)) λl=>W.bh (.func 27) [k,l] c λc k l=>W.ai (bz c 0) λn=>W.ai (bz c 1) λc=>W.bE (M.push k (.cells [aeQ,aeQ,aeQ,aeQ,aeQ] 38 none)) λo=>W.aP (aD TE o 38 (ptrTo k.n) n) λn o=>W.jn (λa=>W.ai (az TE .eql 46 c (.int .i64 0)) λb=>aR b (W.ai (ah TE n 38 (ptrTo d.n)) λb=>W.ai (ah TE n 62 (ptrTo g.n)) λc=>W.bh (.func 28) [b,c] n λb c d=>a [b] c (min (min (min (min (min j i) h) l) o) d)) (a [aeS] n (min (min (min (min j i) h) l) o))) (λc d h=>W.un c λc _=>aR c (W.ai (ah TE d 38 (ptrTo k.n)) λc=>W.aP (aD TE d 38 (ptrTo b.n) c) λb c=>W.ai (ah TE b 62 (ptrTo g.n)) λd=>W.aP (aG TE b 39 1 [(0,d)]) λb d=>W.aP (aw TE (M.wl d d.n) .append [39,39] [f,b]) λb d=>a [b] d (min (min h c) (M.low d))) (a [f] d h)))) (λa b d=>W.un a λa _=>W.ai (az TE .add 3 i (.int .i64 1)) λf=>c [a,f] b d)) (W.ai (ah TE h 38 (ptrTo d.n)) λb=>W.ai (af TE 38 (ptrTo d.n) 0) λc=>W.ai (ah TE h 33 c) λc=>W.bh (.func 29) [c,x3] h λc d g=>(h.n<=g)/\(W.ai (aJ TE 43 [(0,b),(1,f),(3,c)]) λb=>W.bE (M.push d (.cells [aeQ,aeQ,aeQ,aeQ,aeQ,aeQ,aeQ,aeQ] 43 none)) λc=>W.aP (aD TE c 43 (ptrTo d.n) b) λb c=>W.Lp (λb c g h=>W.un c λc i=>W.un i λi _=>W.aP (aw TE g .len [39] [f]) λf _=>W.ai (az TE .lss 3 i f) λf=>aR f (W.Lp (λa c f g=>W.un c λc h=>W.un h λh _=>W.ai (az TE .lss 3 h i) λj=>aR j (W.jn (λa=>W.jn (λa=>W.aP (aw TE f .len [26] [x2]) λb _=>W.ai (az TE .lss 3 c b) λb=>aR b (W.ai (an TE 26 x2 c) λb=>W.ai (ah TE f 3 b) λb=>W.bh (.func 30) [b,.int .i64 2] f λb c d=>W.ai (az TE .eql 3 b (.int .i64 0)) λb=>a [b] c (min g d)) (a [aeS] f g)) (λb c f=>W.un b λb _=>aR b (W.ai (af TE 43 (ptrTo d.n) 2) λb=>W.ai (ah TE c 40 b) λb=>W.ai (aJ TE 69 [(0,h),(1,i)]) λg=>W.aP (aG TE c 40 1 [(0,g)]) λc g=>W.aP (aw TE (M.wl g g.n) .append [40,40] [b,c]) λb c=>W.ai (af TE 43 (ptrTo d.n) 2) λd=>W.aP (aD TE c 40 d b) λb d=>a [] b (min (min f (M.low c)) d)) (a [] c f))) (λ_ b d=>W.ai (az TE .add 3 c (.int .i64 1)) λc=>W.ai (az TE .add 3 h (.int .i64 1)) λf=>a [c,f] b d)) (W.ai (az TE .add 3 i (.int .i64 1)) λa=>b [c,a] f g)) [c,.int .i64 0] g h) (W.ai (ah TE g 43 (ptrTo d.n)) λb=>W.aP (aD TE g 43 (ptrTo a.n) b) λb c=>ai (ah TE b 43 (ptrTo a.n)) λa=>R [a] b (min h c))) [.int .i64 0,.int .i64 0] b (min (min j g) c))))) [aeQ,.int .i64 3] g (min (min (min m.n f) c) h)):=by kernel_rfl
end
end
def dT(t:List Nat)(b a:Nat):Bool:=(t.getD b 0).testBit a
def oj(t:List Nat)(p:Nat×Nat):List Nat:=t.set p.2 (t.getD p.2 0 |||2 ^ p.1)
def rC:List Nat:=List.replicate 8 0
def qL(ps:List (Nat×Nat)):List Nat:=ps.foldl oj rC
def sP(k:Nat)(t:List Nat)(b:Nat):List Nat:=if(t.getD b 0).testBit k=true then t.set b (t.getD b 0 |||t.getD k 0)else t
def oh(n:Nat)(t:List Nat)(k:Nat):List Nat:=(List.range n).foldl (sP k) t
def pU(n:Nat)(t:List Nat):List Nat:=(List.range n).foldl (oh n) t
theorem uU(t:List Nat)(p:Nat×Nat):(oj t p).length=t.length:=by unfold oj;rw[List.length_set]
theorem yr(k:Nat)(t:List Nat)(b:Nat):(sP k t b).length=t.length:=by unfold sP;split <;>simp
theorem jK{β:Type}(f:List Nat->β->List Nat)(h:∀t x,(f t x).length=t.length):∀(l:List β) (t:List Nat),(l.foldl f t).length=t.length
 |[],_=>rfl
 |x::r,t=>by rw[ac6,jK f h r,h]
theorem sE(ps:List (Nat×Nat)):(qL ps).length=8:=by unfold qL;rw[jK _ uU];rfl
theorem uS(n:Nat)(t:List Nat)(k:Nat):(oh n t k).length=t.length:=by unfold oh;rw[jK _ (yr k)]
theorem GC(n:Nat)(t:List Nat):(pU n t).length=t.length:=by unfold pU;rw[jK _ (uS n)]
theorem yW(t:List Nat)(i j x:Nat)(hi:i < t.length):(t.set i x).getD j 0=if i=j then x else t.getD j 0:=by
 grind
theorem Se{t:List Nat}{p:Nat×Nat}(h:p.2 < t.length)(b a:Nat):dT (oj t p) b a=(dT t b a ||(decide (p.2=b) && decide (p.1=a))):=by
 unfold dT oj
 grind
theorem GW:∀(ps:List (Nat×Nat)) (t:List Nat),(∀p∈ps,p.2 < t.length)->∀b a,dT (ps.foldl oj t) b a=(dT t b a ||ps.any λp=>decide (p.2=b) && decide (p.1=a))
 |[],t,_,b,a=>by simp
 |p::r,t,h,b,a=>by
  rw[ac6,GW r _ (λq H=>by rw[uU];exact h q (abS _ H)),Se (h p abN),List.any_cons,Bool.or_assoc]
theorem IJ(b a:Nat):dT rC b a=false:=by
 unfold dT rC
 grind
theorem Wu{k:Nat}{t:List Nat}{i:Nat}(hi:i < t.length)(b a:Nat):dT (sP k t i) b a=(dT t b a ||(decide (i=b) && dT t i k && dT t k a)):=by
 unfold sP;split
 ·rename_i h
  unfold dT
  grind
 ·rename_i h
  unfold dT
  grind
theorem IK{k:Nat}{t:List Nat}:∀n:Nat,n<=t.length->∀b a,dT ((List.range n).foldl (sP k) t) b a=(dT t b a ||(decide (b < n) && dT t b k && dT t k a))
 |0,_,b,a=>by simp
 |n+1,hn,b,a=>by
  have H:=IK (k:=k) (t:=t) n (by omega)
  rw[acO,ac9,ac6,List.foldl_nil,Wu (by rw[jK _ (yr k)];omega),H,H,H]
  grind
theorem IL{n k:Nat}{t:List Nat}(H:n<=t.length)(b a:Nat):dT (oh n t k) b a=(dT t b a ||(decide (b < n) && dT t b k && dT t k a)):=IK n H b a
def SB(n:Nat)(t:List Nat):Prop:=∀b a,dT t b a=true->b < n/\a < n
theorem SB.pass{n k:Nat}{t:List Nat}(H:n<=t.length)(h:SB n t):SB n (oh n t k):=by
 intro b a e;rw[IL H,acI,abc,abc]at e;rcases e with e |⟨⟨_,e1⟩,e2⟩;·exact h b a e
 exact⟨(h b k e1).1,(h k a e2).2⟩
structure ClT(n:Nat)(t c:List Nat):Prop where
 len:c.length=t.length
 bd:SB n c
 sub:∀b a,dT t b a=true->dT c b a=true
 tr:∀b j a,dT c b j=true->dT c j a=true->dT c b a=true
 least:∀S:Nat->Nat->Prop,(∀b a,dT t b a=true->S b a)->(∀b j a,S b j->S j a->S b a)->∀b a,dT c b a=true->S b a
theorem Bl{n:Nat}{t:List Nat}(hn:n<=t.length)(hb:SB n t):ClT n t (pU n t):=by
 have key:∀m,m<=n->∃c,c=(List.range m).foldl (oh n) t/\c.length=t.length/\SB n c/\(∀b a,dT t b a->dT c b a)/\(∀b j a,j < m->dT c b j->dT c j a->dT c b a)/\∀S:Nat->Nat->Prop,(∀b a,dT t b a->S b a)->(∀b j a,S b j->S j a->S b a)->∀b a,dT c b a->S b a:=by
  intro m
  induction m with
  |zero=>exact λ_=>⟨t,rfl,rfl,hb,λ_ _ h=>h,λb j a h=>absurd h (by omega),λS h _ b a e=>h b a e⟩
  |succ k ih=>
   intro hk;obtain⟨c,hc,h1,h2,h3,h4,h5⟩:=ih (by omega)
   have hp:∀b a,dT (oh n c k) b a↔(dT c b a\/(dT c b k/\dT c k a)):=by
    intro b a;rw[IL (by omega),acI,abc,abc,abv];constructor
    ·grind
    rintro(e |⟨H,e2⟩)
    ·grind
    exact .inr ⟨⟨(h2 b k H).1,H⟩,e2⟩
   refine⟨oh n c k,?_,by rw[uS,h1],h2.pass (by omega),λb a e=>(hp b a).2 (.inl (h3 b a e)),λb j a hj H e2=>?_,λS s1 s2 b a e=>?_⟩;·rw[acO,ac9,<-hc];rfl
   ·grind
   rw[hp]at e;rcases e with e |⟨H,e2⟩;·exact h5 S s1 s2 b a e
   exact s2 b k a (h5 S s1 s2 b k H) (h5 S s1 s2 k a e2)
 have⟨c,hc,h1,h2,h3,h4,h5⟩:=key n (aa4 n);have hc:pU n t=c:=hc.symm;rw[hc];exact⟨h1,h2,h3,λb j a H e2=>h4 b j a (h2 b j H).2 H e2,h5⟩
theorem IM{n:Nat}{ps:List (Nat×Nat)}(hn:n<=8)(h:∀p∈ps,p.1 < n/\p.2 < n):SB n (qL ps):=by
 intro b a e
 unfold qL at e
 rw[GW ps rC (λp H=>by have:=h p H;show p.2 < 8;omega),IJ,adt,acA]at e
 grind
structure De(n:Nat)(ps:List (Nat×Nat)):Prop where
 le:n<=8
 len:ps.length<=28
 ok:∀p∈ps,p.1 < n/\p.2 < n/\p.1≠p.2
 ir:∀a,dT (pU n (qL ps)) a a=false
theorem De.Ra{n:Nat}{ps:List (Nat×Nat)}(r:Nat->Nat)(h1:n<=8)(H:ps.length<=28)(h3:∀p∈ps,p.1 < n/\p.2 < n/\r p.1 < r p.2):De n ps:=by
 have hb:∀p∈ps,p.1 < n/\p.2 < n:=by grind
 refine⟨h1,H,λp hp=>?_,λa=>?_⟩
 ·grind
 ·cases e:dT (pU n (qL ps)) a a with
  |false=>rfl
  |true=>
   have:=(Bl (n:=n) (t:=qL ps) (by rw[sE];exact h1) (IM h1 hb)).least (λb a=>r a < r b) (λb a e=>?_) (λb j a h1 H=>Nat.lt_trans H h1) a a e;·omega
   ·unfold qL at e
    rw[GW ps rC (λp hp=>by have:=hb p hp;show p.2 < 8;omega),IJ,adt,acA]at e
    grind
theorem De.of_lt{n:Nat}{ps:List (Nat×Nat)}(h1:n<=8)(H:ps.length<=28)(h3:∀p∈ps,p.1 < p.2/\p.2 < n):De n ps:=
 .Ra id h1 H λp hp=>by grind
def BR(n:Nat)(t acc:List Nat)(x:Nat):Bool:=(List.range n).all λa=> !dT t x a ||acc.contains a
def SY(n:Nat)(t acc:List Nat)(x:Nat):Bool:= !acc.contains x && BR n t acc x
def vZ(n:Nat)(t acc:List Nat):Option Nat:=(List.range n).find? (SY n t acc)
def iJ(n:Nat)(t:List Nat):Nat->List Nat->List Nat
 |0,acc=>acc
 |f+1,acc=>match vZ n t acc with
  |some x=>iJ n t f (acc++ [x])
  |none=>acc
structure Ai(n:Nat)(t l:List Nat):Prop where
 Qm:l.Nodup
 lt:∀x∈l,x < n
 pre:∀p x q,l=p++x::q->∀a,a < n->dT t x a=true->a∈p
theorem ph{n:Nat}{t acc:List Nat}{x:Nat}:BR n t acc x↔∀a,a < n->dT t x a->a∈acc:=by
 unfold BR
 grind
theorem Ai.nil{n:Nat}{t:List Nat}:Ai n t []:=⟨List.nodup_nil,λx H=>(by cases H),λp x q h=>(by simp at h)⟩
theorem Ai.push{n:Nat}{t l:List Nat}{x:Nat}(h:Ai n t l)(hx:x < n)(hn:x∉l)(hr:BR n t l x):Ai n t (l++ [x]):=by
 refine⟨?_,λy H=>?_,λp y q e a ha hb=>?_⟩
 ·rw[adl];exact⟨h.Qm,by simp,by grind⟩
 ·rcases abC.1 H with H |H;·exact h.lt y H
  ·grind
 rcases List.eq_nil_or_concat q with rfl |⟨q',z,rfl⟩
 ·have:=List.append_inj' e (by simp);have⟨e1,e2⟩:=this;simp only[ac7,and_true]at e2;subst e1 e2;exact ph.1 hr a ha hb
 have e':l++ [x]=(p++y::q')++ [z]:=by grind
 have:=(List.append_inj' e' (by simp)).1;exact h.pre p y q' this a ha hb
theorem Ai.TM{n:Nat}{t l:List Nat}{x:Nat}(h:Ai n t (l++ [x])):Ai n t l/\x < n/\x∉l/\BR n t l x:=by have H:=h.Qm;rw[adl]at H;refine⟨⟨H.1,λy hy=>h.lt y (by grind),λp y q e a ha hb=>h.pre p y (q++ [x]) (by grind) a ha hb⟩,h.lt x (by simp),λhx=>H.2.2 x hx x (by simp) rfl,ph.2 λa ha hb=>h.pre l x [] rfl a ha hb⟩
theorem AG{n:Nat}{t acc:List Nat}(b0:∀b j a,dT t b j->dT t j a->dT t b a)(d0:∀a,dT t a a=false){x:Nat}(hx:x < n)(hn:x∉acc):∃y,vZ n t acc=some y:=by
 have key:∀d x,x < n->x∉acc->(List.range n).countP (λa=>dT t x a)<=d->∃y,y < n/\y∉acc/\BR n t acc y:=by
  intro d
  induction d with
  |zero=>
   intro x hx hn hc
   refine⟨x,hx,hn,ph.2 λa ha hb=>?_⟩
   simp_all
  |succ d ih=>
   intro x hx hn hc;by_cases hr:BR n t acc x=true
   ·grind
   have:∃a,a < n/\dT t x a/\a∉acc:=by refine abA λa0=>hr (ph.2 λa ha hb=>abA λH=>a0 ⟨a,ha,hb,H⟩)
   have⟨a,ha,hb,H⟩:=this;refine ih a ha H ?_
   have e0:(List.range n).countP (λc=>dT t a c)< (List.range n).countP (λc=>dT t x c):=by
    have h1:(List.range n).countP (λc=>dT t x c)=(List.range n).countP (λc=>dT t x c && dT t a c)+(List.range n).countP (λc=>dT t x c && !dT t a c):=by
     rw[ado,ado,ado]
     have:=(adD (λc=>dT t a c) ((List.range n).filter λc=>dT t x c)).length_eq
     rw[abO,adZ,adZ]at this
     have e1:∀c,(dT t x c && dT t a c)=(dT t a c && dT t x c):=λc=>Bool.and_comm _ _
     have e2:∀c,(dT t x c && !dT t a c)=(!dT t a c && dT t x c):=λc=>Bool.and_comm _ _
     simp_all
    have h2:(List.range n).countP (λc=>dT t x c && dT t a c)=(List.range n).countP (λc=>dT t a c):=by
     refine List.countP_congr λc _=>?_
     grind
    have h3:0 < (List.range n).countP (λc=>dT t x c && !dT t a c):=List.countP_pos_iff.2 ⟨a,acE.2 ha,by grind⟩;omega
   omega
 obtain⟨y,h1,h2,h3⟩:=key _ x hx hn (aa4 _)
 have:((List.range n).find? (SY n t acc)).isSome:=by rw[List.find?_isSome];exact⟨y,acE.2 h1,by unfold SY;rw[h3];simpa using h2⟩
 exact adf.1 this
theorem uY{n:Nat}{t acc:List Nat}{y:Nat}(h:vZ n t acc=some y):y < n/\y∉acc/\BR n t acc y:=by
 unfold vZ at h
 have h1:=adO h
 have H:=acE.1 (acV h)
 unfold SY at h1
 grind
theorem BE:∀{a b:List Nat},a.Nodup->(∀x∈a,x∈b)->a.length<=b.length
 |[],b,_,_=>abh _
 |x::a,b,h,H=>by
  rw[List.nodup_cons]at h
  have hx:=H x abN
  have:=BE (b:=b.erase x) h.2 λy hy=>(List.mem_erase_of_ne (λe=>h.1 (by grind))).2 (H y (abS _ hy))
  grind
theorem NT{n:Nat}{l:List Nat}(h:l.Nodup)(H:∀x∈l,x < n):l.length<=n:=by have:=BE (b:=List.range n) h λx hx=>acE.2 (H x hx);rwa[adF]at this
theorem missing{n:Nat}{l:List Nat}(hl:l.length < n):∃x,x < n/\x∉l:=by
 refine abA λH=>?_
 have:=BE (a:=List.range n) (b:=l) List.nodup_range λx hx=>abA λa0=>H ⟨x,acE.1 hx,a0⟩
 grind
def rH(l:List Nat):Nat:=l.foldl (λs x=>s |||2 ^ x) 0
theorem uJ(l:List Nat)(x:Nat):rH (l++ [x])=rH l |||2 ^ x:=by unfold rH;rw[ac9];rfl
theorem pg:∀(l:List Nat) (a:Nat),(rH l).testBit a=l.contains a:=by
 intro l
 rw[<-List.reverse_reverse l]
 generalize l.reverse=r
 induction r with
 |nil=>intro a;simp[rH]
 |cons x r H=>
  intro a
  rw[List.reverse_cons,uJ,Nat.testBit_or,H,Nat.testBit_two_pow]
  grind
theorem QT{l:List Nat}{n:Nat}(h:∀x∈l,x < n):rH l < 2 ^ n:=by
 refine ad7 _ λi hi=>?_
 rw[pg,adr,acj]
 grind
theorem yK{n:Nat}{t:List Nat}(H:∀b j a,dT t b j->dT t j a->dT t b a)(a0:∀a,dT t a a=false):∀(f:Nat) (acc:List Nat),Ai n t acc->acc.length+f=n->Ai n t (iJ n t f acc)/\(iJ n t f acc).length=n
 |0,acc,h,hl=>⟨h,by simpa[iJ]using hl⟩
 |f+1,acc,h,hl=>by
  obtain⟨x,hx,hn⟩:=missing (show acc.length < n by omega)
  have⟨y,hy⟩:=AG (acc:=acc) H a0 hx hn
  have⟨h1,h2,h3⟩:=uY hy
  have:=yK H a0 f (acc++ [y]) (h.push h1 h2 h3) (by grind)
  unfold iJ
  grind
theorem Ai.all{n:Nat}{t l:List Nat}(h:Ai n t l)(hl:l.length=n){x:Nat}(hx:x < n):x∈l:=by
 refine abA λhn=>?_
 have:=NT (n:=n) (l:=x::l) (List.nodup_cons.2 ⟨hn,h.Qm⟩) (λy H=>by
  rcases abp.1 H with rfl |H;·exact hx
  exact h.lt y H)
 grind
def wH(t l:List Nat)(k:Nat):List Nat:=l.filter λx=>dT t k x
def xU(t l:List Nat)(k:Nat):List Nat:=l.filter λx=> !dT t k x && !decide (x=k)
def oQ(t l:List Nat)(k:Nat):List Nat:=wH t l k++k::xU t l k
theorem kj{α:Type}{p:α->Bool}:∀{l a b:List α} {x:α},l.filter p=a++x::b->∃c d,l=c++x::d/\a=c.filter p/\p x=true
 |[],a,b,x,h=>by simp at h
 |y::r,a,b,x,h=>by
  rw[abZ]at h
  by_cases H:p y=true
  ·rw[abe H]at h
   match a with
   |[]=>
    grind
   |z::a'=>
    simp only[aci,ac7]at h
    obtain⟨rfl,h⟩:=h
    obtain⟨c,d,rfl,e,hx⟩:=kj h
    grind
  ·rw[abd H]at h
   obtain⟨c,d,rfl,e,hx⟩:=kj h
   grind
theorem uh{α:Type}:∀{a b p q:List α} {x:α},a++b=p++x::q->(∃r,a=p++x::r)\/∃r,p=a++r/\b=r++x::q
 |[],b,p,q,x,h=> .inr ⟨p,rfl,h⟩
 |y::a,b,[],q,x,h=>by
  grind
 |y::a,b,z::p,q,x,h=>by
  simp only[aci,ac7]at h
  obtain⟨rfl,h⟩:=h
  rcases uh h with⟨r,rfl⟩ |⟨r,rfl,e⟩
  ·grind
  ·grind
theorem Dj{n:Nat}{t l:List Nat}{k:Nat}(h:Ai n t l)(H:l.length=n)(hk:k < n)(a0:∀a,dT t a a=false):(oQ t l k).Perm l:=by
 have h1:((l.filter λx=>dT t k x)++l.filter λx=> !dT t k x).Perm l:=adD _ l
 have h2:(k::xU t l k).Perm (l.filter λx=> !dT t k x):=by
  have hm:k∈l.filter λx=> !dT t k x:=abW.2 ⟨h.all H hk,by grind⟩
  have b0:(l.filter λx=> !dT t k x).Nodup:=h.Qm.filter _
  have e:xU t l k=(l.filter λx=> !dT t k x).filter λx=> !decide (x=k):=by
   unfold xU
   rw[adZ]
   congr 1
   grind
  grind
 exact(h2.append_left _).trans h1
theorem Th{n:Nat}{t l:List Nat}{k:Nat}(a0:∀b j a,dT t b j->dT t j a->dT t b a)(b0:∀a,dT t a a=false)(h:Ai n t l)(hl:l.length=n)(hk:k < n):Ai n t (oQ t l k):=by
 have hp:=Dj h hl hk b0;refine⟨hp.nodup_iff.2 h.Qm,λx hx=>h.lt x (hp.mem_iff.1 hx),λp x q e a ha hb=>?_⟩;rcases uh (e:wH t l k++k::xU t l k=p++x::q)with⟨r,e1⟩ |⟨r,rfl,H⟩
 ·obtain⟨c,d,hc,rfl,hx⟩:=kj (e1:l.filter _=_);exact abW.2 ⟨h.pre c x d hc a ha hb,a0 _ _ _ hx hb⟩
 ·match r with
  |[]=>simp only[ab6,ac7]at H;obtain⟨rfl,_⟩:=H;exact adP _ (abW.2 ⟨h.all hl ha,hb⟩)
  |z::r'=>
   simp only[aci,ac7]at H;obtain⟨rfl,H⟩:=H;obtain⟨c,d,hc,rfl,hx⟩:=kj (H:l.filter _=_);have d0:=h.pre c x d hc a ha hb;by_cases h1:dT t k a=true;·exact adP _ (abW.2 ⟨h.all hl ha,h1⟩)
   ·grind
structure Qn where
 id:Int
 pD:List Fc
structure qP where
 y:Yd
 ts:List Tk
 ps:List (Nat×Nat)
 qs:List Qn
structure Ls where
 task:Int
 f:Fc
 q:Int
deriving DecidableEq
def NP(a b p:Pl):Bool:= !decide (Hj (Hj (b.x-a.x)*Hj (p.y-a.y))=Hj (Hj (b.y-a.y)*Hj (p.x-a.x)))
def Au(u:Un)(p q:Pl):Fc:=match(List.range u.shape.length).find? λi=> !NP (gA u.shape i) (LC u.shape i) p && !NP (gA u.shape i) (LC u.shape i) q with
 |some i=>⟨u.id,i⟩
 |none=>⟨u.id,0⟩
def mg(H:List Fc->List Fc)(us:List Un)(t:Tk):List Fc:=match cj us t.id with
 |none=> []
 |some u=>
  if t.kind=4 then H (nT u)
  else if t.kind=5 then(if(⟨t.id,t.side⟩:Fc)∈nT u then [⟨t.id,t.side⟩]else [])
  else if t.kind=9 then(match cj us t.other with
   |none=> []
   |some v=>match jP u v with
    |some c=> [Au u c.p c.q,Au v c.p c.q]
    |none=> [])
  else []
def np(s:qP):List Nat:=pU s.ts.length (qL s.ps)
def FD(t:Tk)(f:Fc):Bool:=decide (t.kind=8) && decide (t.id=f.un) && decide (t.side=f.side)
def qT(s:qP)(T:List Nat)(i:Nat)(f:Fc)(k:Nat):Bool:=match s.ts[k]? with
 |some t=>FD t f && dT T i k
 |none=>false
def DE(s:qP)(T:List Nat)(i:Nat)(f:Fc):Bool:=decide (f∈s.y.rc) ||(List.range s.ts.length).any (qT s T i f)
def AH(s:qP)(i:Nat)(f:Fc):List Ls:=(List.range s.qs.length).filterMap λq=>match s.qs[q]? with
 |some x=>if f∈x.pD then some ⟨i,f,q⟩else none
 |none=>none
def qZ(H:List Fc->List Fc)(s:qP)(T:List Nat)(i:Nat):List Ls:=match s.ts[i]? with
 |some t=>(mg H s.y.us t).flatMap λf=>if DE s T i f=true then []else AH s i f
 |none=> []
def fE(H:List Fc->List Fc)(s:qP):List Ls:=(List.range s.ts.length).flatMap (qZ H s (np s))
theorem Ki{sf:List Fc->List Fc}{s:qP}{x:Ls}(h:x∈fE sf s):∃(i q:Nat) (t:Tk) (y:Qn),x.task=i/\x.q=q/\s.ts[i]?=some t/\s.qs[q]?=some y/\x.f∈mg sf s.y.us t/\x.f∈y.pD/\x.f∉s.y.rc/\
  ∀(k:Nat) (u:Tk),s.ts[k]?=some u->dT (np s) i k->FD u x.f=false:=by
 unfold fE at h;obtain⟨i, -,h⟩:=ad9.1 h;unfold qZ at h;split at h
 ·rename_i t ht;have⟨f,hf,h⟩:=ad9.1 h;split at h;·cases h
  rename_i H;unfold AH at h;obtain⟨q, -,h⟩:=adx.1 h;split at h
  ·rename_i y hy;split at h
   ·rename_i hn
    cases h
    unfold DE at H
    rw[acI,abv,acA]at H
    refine⟨i,q,t,y,rfl,rfl,ht,hy,hf,hn,λhr=>H (.inl hr),λk u hu hb=>?_⟩
    cases hc:FD u f with
    |false=>rfl
    |true=>
     refine absurd (.inr ⟨k,acE.2 (aa9.1 hu).1,?_⟩) H
     unfold qT
     grind
   cases h
  cases h
 cases h
section
variable {X:aK} {m:M}
theorem mT(H:cC X){c n:Int}(hc:lN c)(hn:0 < n):C X (.func 30) [aeP c,aeP n] m m.n (aeP (dR c n)) m:=by refine Cl.cd (H.no _ rfl) (aa3 func30) rfl rfl ?_;rw[F30];dsimp only[η,ο,φ];simp only[jn,aB];exact mS hc hn (P:=λv=>bC [v]=aeP (dR c n)/\m.n<=m.n) ⟨rfl,aa4 _⟩
theorem ER(hX:cC X)(a b:Fc):C X (.func 74) [a.v,b.v] m m.n (.bool (decide (ik a b))) m:=by
 refine Cl.cd (hX.no _ rfl) (aa3 func74) rfl rfl ?_;rw[F74];dsimp only[δ,ε,η,ρ,υ];refine av λm1 h0 H i0=>?_;refine av λm2 j0 d0 e0=>?_;have g1:m2.get m.n=.cells a.c 53 none:=by rw[e0 _ (by omega)];exact H
 have g2:m2.get m1.n=.cells b.c 53 none:=d0;obtain⟨a0,a1, -⟩:=tP g1;obtain⟨b0,b1, -⟩:=tP g2;unfold ptrTo;simp only[cW,dm,ae];refine aW (λvs mm lo=>vs=[.bool (decide (ik a b))]/\m.n<=lo/\m2=mm) (λQ hQ=>?_) ?_
 ·rw[a0,ae,b0,ae,aM,ae,aj];refine ak (λc=>hQ _ _ _ ⟨?_,aa4 _,rfl⟩) (λc=>?_);·rw[abl (show ik a b from .inl (aba c))]
  have c:=aa6 c;rw[ae,ae,aS,ae,aj];refine ak (λc1=>?_) (λc1=>hQ _ _ _ ⟨?_,aa4 _,rfl⟩)
  ·have c1:=aba c1
   rw[a1,ae,b1,ae,aM,ae]
   refine hQ _ _ _ ⟨?_,aa4 _,rfl⟩
   congr 2
   apply decide_eq_decide.2
   unfold ik
   omega
  have c1:=aa6 c1;rw[abk (by unfold ik;omega)]
 rintro _ mm lo ⟨rfl,g0,rfl⟩;rw[aB];exact⟨rfl,g0⟩
theorem tJ(hX:cC X){l:List Fc}{v:aeM}(h:Sl m l v)(hl:l.length < 1000000)(f:Fc):C X (.func 10) [v,f.v] m m.n (.bool (decide (f∈l))) m:=by
 refine Cl.cd (hX.no _ rfl) (aa3 func10) rfl rfl ?_;rw[F10];dsimp only[δ,ζ,η,κ,ρ,υ,φ];refine av λm1 i0 d0 e0=>?_;have g1:m1.get m.n=.cells f.c 53 none:=d0;have h1:=h.aF (m':=m1) ⟨by omega,e0⟩;unfold ptrTo;refine Lp.intro (γ:=Nat) (λi=>l.length-i) (λi vs mm lo=>∃z,vs=[z,aeP i]/\i<=l.length/\m1=mm/\m.n<=lo/\f∉l.take i) 0 ⟨_,rfl,abh _,rfl,aa4 _,by simp⟩ ?_;rintro i vs mm lo ⟨z,rfl,hi,rfl,H,a0⟩;rw[aB,aB,h1.len gH,aA,aM,ae,aj];refine ak (λb0=>?_) (λg0=>?_)
 ·have b0:i < l.length:=by grind
  obtain⟨x,hx⟩:∃x,l[i]?=some x:=⟨_,aa5 b0⟩
  have⟨p,e1,e2⟩:=tQ h1 hx;rw[e1,ae,e2,ae,(tP g1).2.2,ae,PE,ae,aj];refine ak (λc=>⟨?_,H⟩) (λc=>?_)
  ·have c:=aba c;subst c;rw[abl (abb hx)];rfl
  rw[aQ,ae,wrap64 (by omega) (by omega)];refine⟨i+1,by omega,z,rfl,by omega,rfl,H,?_⟩;rw[abt,hx];simp only[ab9,abC,abE,not_or];exact⟨a0,λe=>aa6 c e.symm⟩
 have h0:i=l.length:=by have:¬(i:Int)< (l.length:Int):=aa6 g0;omega
 subst h0;rw[abR]at a0;exact⟨by rw[abk a0];rfl,H⟩
def uW(us:List Un)(t:Tk):Bool:=if t.kind=9 then(cj us t.id).isSome && (cj us t.other).isSome else(cj us t.id).isSome ||(!decide (t.kind=4) && !decide (t.kind=5))
theorem Lw.is{us:List Un}{id:Int}{m':M}{u:Un}{w:aeM}{b:Bool}(h:Lw us id m' u w b):(cj us id).isSome=b:=by rw[h.eq];cases b <;>rfl
theorem DR(hX:cC X){y:Yd}{r r2 st rc mo:aeM}{t:Tk}{w:aeM}(hV:oO m y r r2 st rc mo)(hP:rz y)(hw:one w):
  C X (.func 28) [yv r r2 st rc mo,t.v w] m m.n (.bool (uW y.us t)) m:=by
 refine Cl.cd (hX.no _ rfl) (aa3 func28) rfl rfl ?_;have⟨⟨l,b0,hF⟩,e0,⟨kl,H0,hK⟩,I0,J0⟩:=hV;have g0:cn (bP l):=by rw[b0];exact hP.tR
 have v0:l.length<=12:=by have:=hP.tR.len;rwa[<-b0,cS]at this
 rw[F28];dsimp only[δ,ε,η,ι,ξ,ρ,ς,υ,φ,χ,Γ];refine av λm1 K0 n0 L0=>?_;refine av λm2 N0 o0 p0=>?_;have h0:Ext m m2:=⟨by omega,by grind⟩
 have g1:m2.get m.n=.cells (yc r r2 st rc mo) 38 none:=by rw[p0 _ (by omega)];exact n0
 have g2:m2.get m1.n=.cells (t.c w) 62 none:=o0;unfold ptrTo;simp only[cX,cz,ck,cG,ae];rw[(fF g1).1,ae,(oK g2).2.1,ae];obtain⟨rv,m8,c8,x8,f8⟩:=jm (m:=m2) hX (hF.aF h0) (by omega) e0.one t.id;refine aE c8 ?_;obtain⟨u,wu,b,rfl,fu⟩:=f8.S9 g0;have n8:=x8.n;rw[aH,aH];simp only[aa8,aa7,ae];refine av λm12 y0 i0 q0=>?_;refine aC du i0 rfl rfl (Un.cR fu.sl.one) λm13 z0 A0 B0=>?_;have H:Ext m2 m13:=x8.trans ⟨by omega,by grind⟩;have n13:=H.n;rw[(fF (H.cells g1)).1,ae,(oK (H.cells g2)).2.2.1,ae];obtain⟨rv,m20,r0,j0,f20⟩:=jm (m:=m13) hX (hF.aF (h0.trans H)) (by omega) e0.one t.other;refine aE r0 ?_;obtain⟨u2,O0,b2,rfl,k0⟩:=f20.S9 g0;have n20:=j0.n;rw[aH,aH];simp only[aa8,aa7,ae];refine av λm24 C0 l0 D0=>?_
 refine aC du l0 rfl rfl (Un.cR k0.sl.one) λs0 E0 F0 G0=>?_;have u0:Ext m2 s0:=H.trans (j0.trans ⟨by omega,by grind⟩);have i1:=fu.is;have i2:=k0.is;rw[b0]at i1 i2;have a0:uW y.us t=if t.kind=9 then b && b2 else b ||(!decide (t.kind=4) && !decide (t.kind=5)):=by unfold uW;rw[i1,i2]
 rw[(oK (u0.cells g2)).1,ae,aS,ae,aj];refine ak (λc=>?_) (λc=>?_)
 ·have c:=aba c;rw[abe c]at a0;refine aW (λvs mm lo=>vs=[.bool (b && b2)]/\m.n<=lo) (λQ hQ=>?_) ?_
  ·rw[aj];exact ak (λc=>hQ _ _ _ ⟨by grind,by omega⟩) (λc=>hQ _ _ _ ⟨by grind,by omega⟩)
  rintro _ mm lo ⟨rfl,d0⟩;rw[aB];exact⟨by rw[a0];rfl,d0⟩
 have c:=aa6 c;rw[abd c]at a0;refine aW (λvs mm lo=>vs=[.bool (b ||(!decide (t.kind=4) && !decide (t.kind=5)))]/\m.n<=lo) (λQ hQ=>?_) ?_
 ·rw[aj];refine ak (λc=>hQ _ _ _ ⟨by grind,by omega⟩) (λc=>?_);rw[ae,bR,ae,aj];refine ak (λc1=>?_) (λc1=>hQ _ _ _ ⟨by grind,by omega⟩);rw[ae,bR,ae];exact hQ _ _ _ ⟨by grind,by omega⟩
 rintro _ mm lo ⟨rfl,d0⟩;rw[aB];exact⟨by rw[a0];rfl,d0⟩
section
variable {α:Type} [aZ α] {T t:TypeId}
theorem TP(hA:ur TE T α)(hT:oP TE T t α)(h0:aZ.eB α=[]){n1:Nat}{l:List α}{v:aeM}(h:Ow n1 m l v)(hn:n1<=m.n)(z0:l.length < 1000000){k:Nat}(hk:k<=l.length){x:α}{xv:aeM}{cs:aeN}
  (b0:aG TE m T 1 [(0,xv)]=some (aeL m.n 0 1 1,m.push (.cells cs (aZ.ty α) none))) (hr:∀m',aZ.rep m' x cs)
  (z1:slice? TE m T aeQ none (some (.int .i64 (0:Nat))) (some (.int .i64 (0:Nat)))=some aeQ) (z2:∀m',slice? TE m' T aeQ (some (aeP (0:Nat))) none none=some aeQ):
  ∃v1 m1 v2 v3 m2 v4 m3,slice? TE m T v none (some (aeP k)) (some (aeP k))=some v1/\aG TE m T 1 [(0,xv)]=some (aeL m.n 0 1 1,m1)/\Ext m m1/\slice? TE m1 T v (some (aeP k)) none none=some v2/\
   aw TE (m1.wl m1.n) .append [T,T] [aeL m.n 0 1 1,v2]=some (v3,m2)/\m1.n<=m2.low/\aw TE (m2.wl m2.n) .append [T,T] [v1,v3]=some (v4,m3)/\Ow n1 m3 (l.take k++x::l.drop k) v4/\m.n<=m3.n/\n1<=m3.low/\∀c,c < n1->m3.get c=m.get c:=by
 obtain⟨m1,d0⟩:∃y,y=m.push (.cells cs (aZ.ty α) none):=⟨_,rfl⟩
 rw[<-d0]at b0;have H:Ext m m1:=d0 ▸ Ext.refl.push;have A0:m1.n=m.n+1:=by rw[d0];rfl
 have i0:m1.get m.n=.cells cs (aZ.ty α) none:=by rw[d0];exact M.aU
 have a0:Ap m1.n m1 [x] (aeL m.n 0 1 1):=.inr ⟨m.n,cs,_,rfl,i0,iD i0 (hr _)⟩;have⟨ti,te,t1,⟨e,t2⟩,t3,t4⟩:=id hT;have B0:(l.drop k).length=l.length-k:=adJ;rcases h with⟨rfl,rfl⟩ |⟨b,p0,rfl,j0,q0,hb,k0,r0⟩
 ·obtain rfl:k=0:=by grind
  obtain⟨v3,m2,e3,w3,n3,l3,f3⟩:=a0.xO hA h0 (y:=aeQ) (ys:=[]) .nil (aa4 _) (by simp)
  obtain⟨v4,m3,e4,w4,f4,l4, -⟩:=(Ow.nil (α:=α) (n1:=n1) (m:=m2)).append hA (by grind) w3.sl (by omega) (by simp)
  refine⟨_,m1,_,v3,m2,v4,m3,z1,b0,H,z2 m1,e3,l3,e4,?_,by have:=f4.n;omega,l4,λc hc=>by rw[f4.get c hc,f3 c (by omega),H.get c (by omega)]⟩
  grind
 have l0:m1.get b=_:=H.cells hb;have hlen:=k0;have C0:=M.bk hb;have s1:=JF (E:=TE) (n:=l.length) (i:=k) t1 t2 t3 aZ.pos hb hk;obtain⟨a',s2,s0⟩:=oX (E:=TE) (o:=0) (n:=l.length) (c:=l.length) (j:=k) t1 t2 (by rw[t3];exact aZ.pos) l0 (.inr (by rw[t3])) (aa4 _) hk;have e0:Ow n1 m l (aeL b 0 l.length l.length):=.inr ⟨b,p0,rfl,j0,q0,hb,k0,r0⟩
 have n0:∃v3 m2,aw TE (m1.wl m1.n) .append [T,T] [aeL m.n 0 1 1,.slice (some a') (l.length-k) (l.length-k)]=some (v3,m2)/\Sl m2 (x::l.drop k) v3/\m1.n<=m2.low/\m1.n<=m2.n/\∀c,c < m1.n->m2.get c=m1.get c:=by
  by_cases g0:k < l.length
  ·have hy:Sl m1 (l.drop k) (.slice (some a') (l.length-k) (l.length-k)):=by rw[s0 g0,t3];have:=(e0.aF H).sl.part (i:=k) (k:=l.length-k) (c':=l.length-k) (by omega);rwa[aby (by omega)]at this
   obtain⟨v3,m2,e3,w3,n3,l3,f3⟩:=a0.xO hA h0 hy (aa4 _) (by grind);exact⟨v3,m2,e3,w3.sl,l3,n3,f3⟩
  obtain rfl:k=l.length:=by omega
  rw[aea];refine⟨_,m1.wl m1.n,append_nil hA (aa4 _) (by decide) (.inl ⟨_,_,rfl⟩),?_,aa4 _,aa4 _,λ_ _=>rfl⟩;rw[adK];exact a0.sl.aF Ext.refl.wl
 have⟨v3,m2,e3,w3,l3,n3,f3⟩:=n0;have u0:m2.get b=_:=(f3 b (by omega)).trans l0;have x2:Ext m m2:=H.trans ⟨n3,f3⟩;by_cases g0:k < l.length
 ·have v0:(l.take k).length=k:=by grind
  have o0:Sl m2 (l.take k) (aeL b 0 (l.take k).length k):=by
   have:=(e0.aF x2).sl.part (i:=0) (k:=k) (c':=k) (by omega)
   grind
  obtain⟨v4,m3,e4,w4,x4,l4⟩:=wF hA u0 (.inr ⟨rfl,by rw[hlen,abV];exact Nat.mul_lt_mul_of_pos_right g0 aZ.pos⟩) o0 w3 (by grind) (by grind);rw[v0]at e4;have n2:=x2.n;have n4:=x4.n;refine⟨_,m1,_,v3,m2,v4,m3,s1,b0,H,s2,e3,l3,e4,?_,by omega,by omega,λc hc=>by rw[x4.get c (by omega),x2.get c (by omega)]⟩;rcases w4 with h |⟨b',y0,h1,h2,h3,h4⟩
  ·simp_all
  exact .inr ⟨b',y0,h1,h2,by omega,h4⟩
 ·obtain rfl:k=l.length:=by omega
  obtain⟨v4,m3,e4,w4,f4,l4, -⟩:=(e0.aF x2).append hA (by grind) w3 (by grind) (by grind)
  refine⟨_,m1,_,v3,m2,v4,m3,s1,b0,H,s2,e3,l3,e4,?_,by have:=f4.n;have:=x2.n;omega,l4,λc hc=>by rw[f4.get c hc,x2.get c (by omega)]⟩
  grind
end
structure YN(q:Qn):Prop where
 id:0<=q.id/\q.id<=99
 len:q.pD.length<=4
 ok:∀f∈q.pD,(0<=f.un/\f.un<=99)/\ -2<=f.side/\f.side<=7
 xN:q.pD.Pairwise ik
structure QW where
 q:Qn
 w:aeM
abbrev QW.c(x:QW):aeN:=[.int .i64 x.q.id,x.w]
abbrev QW.v(x:QW):aeM:=.agg (x.c).toArray
instance:aZ QW where
 ty:=79
 sz:=2
 agg:=true
 eB:=[]
 rep _ x cs:=cs=x.c/\one x.w=true
 pos:=by decide
 one:=by grind
 len:=by grind
 fB:=by rintro _ x _ ⟨rfl,h⟩;show(true && (one x.w && true))=true;rw[h];rfl
 aY:=by grind
theorem rF:oP TE 41 79 QW:=⟨ag.t41,ag.t79,by kernel_rfl,⟨_,rfl⟩,rfl,by kernel_rfl,rfl,rfl⟩
theorem WB:ur TE 41 QW:=⟨ag.t41,ag.t79,by kernel_rfl,rfl,rfl,by kernel_rfl,by decide,rfl⟩
theorem TT{x:QW}:aG TE m 41 1 [(0,x.v)]=some (.slice (some ⟨m.n,0,none⟩) 1 1,m.push (.cells x.c 79 none)):=by kernel_rfl
def Qh(m:M)(l:List QW):Prop:=∀x∈l,Sl m x.q.pD x.w/\YN x.q
theorem Qh.aY{l:List QW}{m':M}(h:Qh m l)(hk:∀c cs g,m.get c=.cells cs 53 g->m'.get c=.cells cs 53 g):Qh m' l:=λx hx=>
 ⟨(h x hx).1.aY λc cs t g hc H=>by
  have H:t=53:=by simpa[aZ.ty,aZ.eB]using H
  subst H
  exact hk c cs g hc,(h x hx).2⟩
theorem Ql{b:Nat}{x:QW}{g:Option Nat}(h:m.get b=.cells x.c 79 g):ah TE m 3 (aeK b (0+0))=some (aeP x.q.id)/\ah TE m 35 (aeK b (0+1))=some x.w/\ah TE m 79 (aeK b 0)=some x.v:=by
 refine⟨?_,?_,?_⟩;·rw[bI,aI h];rfl
 ·rw[qC,aI h];rfl
 rw[Rk,aN (n:=2) h (by grind)];rfl
theorem Y1{l:List I4}{v:aeM}(h:oJ m l v){i:Nat}{x:I4}(hx:l[i]?=some x):∃b o,an TE 23 v (aeP i)=some (aeK b o)/\∀(j:Nat) (z:Int),j < 4->x.c'[j]?=some (aeP z)->ah TE m 3 (aeK b (o+j))=some (aeP z):=by
 have⟨p,cs,e1,e2,e3⟩:=h.index ye (k:=.i64) hx;have d0:=(aa9.1 hx).1;rcases h with h |h
 ·have⟨b,o,bc,g,cs,f1,hb,H,hle,hj⟩:=h.gM ye (k:=.i64) hx;have H:cs=x.c':=H;subst H;refine⟨b,o,f1,λj z a0 hz=>?_⟩;rw[bI,aI hb,hj j a0,hz]
 rcases h with⟨_,rfl⟩ |⟨b,o,c,bc,rfl,hb,b0⟩
 ·grind
 have⟨hle,H⟩:=b0 i x hx;have H:(bc.drop (o+i*4)).take 4=x.c':=H
 have f1:an TE 23 (aeL b o l.length c) (aeP i)=some (aeK b (o+i*4)):=by
  have hc:0<=(i:Int)/\(i:Int)< (l.length:Int)/\0 < ag.t23.es:=⟨by omega,by omega,by decide⟩
  have hd:ag.t23.d=.slice 153:=rfl;simp only[an,W1,hd];rw[abe hc,aV rfl];rfl
 refine⟨b,o+i*4,f1,λj z a0 hz=>?_⟩
 have h5:bc[o+i*4+j]?=some (aeP z):=by
  grind
 rw[bI,vH hb h5 rfl]
theorem Uh{x:I4}(H:x.ok){k:Nat}(hk:k < 4):∃z,x.c'[k]?=some (aeP z)/\lN z:=by
 have⟨h1,h2,h3,h4⟩:=H;rcases(by omega:k=0\/k=1\/k=2\/k=3)with rfl |rfl |rfl |rfl;·exact⟨_,rfl,h1⟩
 ·exact⟨_,rfl,h2⟩
 ·exact⟨_,rfl,h3⟩
 exact⟨_,rfl,h4⟩
theorem Sj{l:List Fc}{f:Fc}{k:Nat}(hs:l.Pairwise ik)(hn:f∉l)(h1:∀y∈l.take k,ik y f)(h2:∀y,l[k]?=some y->¬ik y f):(l.take k++f::l.drop k).Pairwise ik:=by
 have h3:∀y∈l.drop k,ik f y:=by
  by_cases H:k < l.length
  ·rw[ab1 H];have hk:=aa5 H;have e:ik f l[k]:=(HT (a:=f) (b:=l[k]) λe=>hn (by grind)).resolve_right (h2 _ hk);intro y hy;rcases abp.1 hy with rfl |hy;·exact e
   have a0:=hs.sublist (ad6 k l);rw[ab1 H,aca]at a0;exact rS _ _ _ e (a0.1 y hy)
  ·rw[ac3 (by omega)]
   grind
 rw[ab8,aca];refine⟨hs.sublist (List.take_sublist k l),⟨h3,hs.sublist (ad6 k l)⟩,λy hy z hz=>?_⟩;rcases abp.1 hz with rfl |hz
 ·grind
 exact rS _ _ _ (h1 y hy) (h3 z hz)
theorem YA{n:Int}:aJ TE 79 [(0,aeP n)]=some (QW.v ⟨⟨n,[]⟩,aeQ⟩):=GL rfl
set_option maxHeartbeats 2000000 in
theorem yx(hX:cC X){l:List UW}{r vm:aeM}(hF:dg m l r)(hP:cn (bP l)){xs:List I4}{vq:aeM}(hq:oJ m xs vq)(F1:∀x∈xs,x.ok)(hlen:xs.length < 9223372036854775808):
  ∃qs v m',C X (.func 29) [.agg #[r,vm],vq] m m.n v m'/\Ext m m'/\Sl m' qs v/\Qh m' qs/\qs.length<=4/\qs.Pairwise λa b=>a.q.id < b.q.id:=by
 have m2:l.length<=12:=by have:=hP.len;rwa[cS]at this
 have key:=Cl.iX (E:=TE) (X:=X) (f:=29) (args:=[.agg #[r,vm],vq]) (m:=m) (R:=λrv m' b=>b=m.n/\∃qs,Ext m m'/\Sl m' qs rv/\Qh m' qs/\qs.length<=4/\qs.Pairwise λa b=>a.q.id < b.q.id) (hX.no _ rfl) (aa3 func29) rfl ?_
 ·obtain⟨rv,m',b,hc,rfl,qs,h⟩:=key;exact⟨qs,rv,m',hc,h⟩
 have H:∀R:aeN->M->Nat->Prop,(∀(qs:List QW) (v:aeM) (m':M) (lo:Nat),m.n<=lo->Ext m m'->Sl m' qs v->Qh m' qs->qs.length<=4->qs.Pairwise (λa b=>a.q.id < b.q.id)->R [v] m' lo)->dE TE (aL TE X) f29 [.agg #[r,vm],vq] m R:=by
  intro R hR;rw[F29];dsimp only[δ,ε,ζ,η,θ,ι,κ,ν,ρ,ς,υ,φ,χ,Δ,ψ,ω];refine av λm1 J2 G1 H1=>?_;have A0:Ext m m1:=⟨by omega,H1⟩
  have gs:m1.get m.n=.cells [r,vm] 33 none:=G1;unfold ptrTo;simp only[bZ,bO,iN,cW,ae];refine Lp.intro (γ:=Nat) (λi=>4-i) (λi vs mm lo=>∃qs v,vs=[v,.int .i64 i]/\i<=4/\Ext m1 mm/\m.n<=lo/\Ow m1.n mm qs v/\Qh mm qs/\qs.length<=i/\(∀x∈qs,x.q.id < 10*i)/\qs.Pairwise λa b=>a.q.id < b.q.id) 0 ⟨[],_,rfl,by omega,.refl,aa4 _,.nil,λx hx=>(by cases hx),by simp,λx hx=>(by cases hx),.nil⟩ ?_;rintro i vs mm lo ⟨qs,v,rfl,hi,j0,p0,I0,J0,K2,K0,L0⟩;have N0:oJ mm xs vq:=(hq.aF A0).aF j0;have nm:=j0.n;rw[aB,aB];refine aW (λvs m' b0=>∃b:Bool,vs=[.bool b]/\mm=m'/\m.n<=b0/\(b=true->i < xs.length/\i < 4)) (λQ hQ=>?_) ?_
  ·rw[N0.len ye,aA,aM,ae,aj];refine ak (λc=>?_) (λ_=>hQ _ _ _ ⟨_,rfl,rfl,p0,λh=>by cases h⟩);have c:(i:Int)< (xs.length:Int):=aba c;rw[aM,ae];refine hQ _ _ _ ⟨_,rfl,rfl,p0,λh=>?_⟩;have:=aba h;omega
  rintro _ _ fS ⟨b,rfl,rfl,O0,hb⟩;rw[aB,aj];refine ak (λc=>?_) (λ_=>hR _ _ _ _ O0 (A0.trans j0) I0.sl J0 (by omega) L0);have⟨I1,L2⟩:=hb c;obtain⟨x,hx⟩:∃x,xs[i]?=some x:=⟨_,aa5 I1⟩
  have Q0:=F1 x (abb hx);rw[gE,ae,wrap64 (by omega) (by omega),YA,ae];refine av λm21 o2 q0 b1=>?_;refine aC SE q0 rfl rfl rfl λm22 u2 r0 c1=>?_;have gq:m22.get mm.n=.cells (QW.c ⟨⟨10*(i:Int),[]⟩,aeQ⟩) 79 none:=r0;have J1:Ext mm m22:=⟨by omega,by grind⟩
  have i1:mm.n < m22.n:=by omega
  clear q0 b1 r0 c1;refine Lp.intro (γ:=Nat) (λk=>4-k) (λk vs m' lo=>∃(ns:List Fc) (w:aeM),vs=[.int .i64 k]/\k<=4/\Ext mm m'/\m.n<=lo/\m'.get mm.n=.cells (QW.c ⟨⟨10*(i:Int),ns⟩,w⟩) 79 none/\Ow (mm.n+1) m' ns w/\ns.length<=k/\(∀f∈ns,(0<=f.un/\f.un<=99)/\ -2<=f.side/\f.side<=7)/\ns.Pairwise ik/\mm.n < m'.n) 0 ⟨[],_,rfl,by omega,J1,by omega,gq,.nil,by simp,λf hf=>(by cases hf),.nil,i1⟩ ?_;rintro k vs h0 M2 ⟨ns,w,rfl,hk,a0,y2,gq,B0,N2,i0,C0,z2⟩;rw[aB,aM,ae,aj];refine ak (λc=>?_) (λc=>?_)
  ·have D0:k < 4:=by grind
   have⟨z,hz,s0⟩:=Uh Q0 D0;have n26:=a0.n
   have el:∀{ma:M},Ext mm ma->∃b o,an TE 23 vq (.int .i64 i)=some (.pointer (some ⟨b,o,none⟩))/\an TE 153 (.pointer (some ⟨b,o,none⟩)) (.int .i64 k)=some (.pointer (some ⟨b,o+k,none⟩))/\ah TE ma 3 (.pointer (some ⟨b,o+k,none⟩))=some (.int .i64 z):=λhe=>by have⟨b,o,e1,e2⟩:=Y1 (N0.aF he) hx;exact⟨b,o,e1,OC D0,e2 k z D0 hz⟩
   refine aW (λvs m' b0=>∃(ns:List Fc) (w:aeM),vs=[]/\Ext mm m'/\m.n<=b0/\m'.get mm.n=.cells (QW.c ⟨⟨10*(i:Int),ns⟩,w⟩) 79 none/\Ow (mm.n+1) m' ns w/\ns.length<=k+1/\(∀f∈ns,(0<=f.un/\f.un<=99)/\ -2<=f.side/\f.side<=7)/\ns.Pairwise ik/\mm.n < m'.n) (λQ hQ=>?_) ?_
   ·have⟨b,o,e1,e2,e3⟩:=el a0;have p1:=kY (c:=z) (show(0:Int)< 100 by decide);rw[e1,ae,e2,ae,e3,ae];refine aE (mT hX s0 (by decide)) ⟨aa4 _,?_⟩;rw[ae,e2,ae,e3,ae,kB (by decide),ae];have p2:=kY (c:=IntKind.i64.wrap (z.tdiv 16)) (show(0:Int)< 6 by decide);refine aE (mT hX (mn _) (by decide)) ⟨aa4 _,?_⟩;rw[dD,ae,wrap64 (by omega) (by omega),zy,ae];obtain⟨f0,K1⟩:∃f:Fc,f=⟨dR z 100,dR (IntKind.i64.wrap (z.tdiv 16)) 6-2⟩:=⟨_,rfl⟩
    rw[<-K1];have l0:(0<=f0.un/\f0.un<=99)/\ -2<=f0.side/\f0.side<=7:=by grind
    refine av λO2 A2 u0 j1=>?_;refine aC sA u0 rfl rfl rfl λE0 B2 v0 k1=>?_;have gf:E0.get h0.n=.cells f0.c 53 none:=v0;have n0:Ext h0 E0:=⟨by omega,by grind⟩
    have l1:h0.n < E0.n:=by omega
    clear u0 j1 v0 k1;refine aW (λvs m' b0=>∃f:Fc,vs=[]/\Ext h0 m'/\m.n<=b0/\m'.get h0.n=.cells f.c 53 none/\((0<=f.un/\f.un<=99)/\ -2<=f.side/\f.side<=7)/\h0.n < m'.n) (λQ2 d0=>?_) ?_
    ·have o1:=(j0.trans (a0.trans n0)).cells gs;have hu:=(hF.aF (A0.trans (j0.trans (a0.trans n0)))).sl;rw[BN o1,ae,hu.len dF,aA,bV,ae,aj];refine ak (λc=>?_) (λ_=>d0 _ _ _ ⟨f0,rfl,n0,by omega,gf,l0,l1⟩);have c:=aba c;have⟨b',o',d1,d2,d3⟩:=el (a0.trans n0);rw[e1]at d1;cases d1;rw[ae,ae,e2,ae,d3,ae,ae,hu.len dF,aA];obtain⟨j,hj,e⟩:=jC (c:=z) (n:=l.length) (by omega);refine aE (mT hX s0 (by omega)) ⟨aa4 _,?_⟩;rw[e];obtain⟨y,hy⟩:∃y,l[j]?=some y:=⟨_,aa5 hj⟩
     have⟨pb,po,g1,g2,g3⟩:=sy hu hy;rw[g1,ae,g2,ae,g3,ae];have r1:=hP.id0 (u:=y.u) (abQ.2 ⟨y,abb hy,rfl⟩);refine cg uz gf rfl (by show 0+0+1<=2;decide) rfl λP2 C2 u1 w1=>d0 _ _ _ ⟨⟨y.u.id,f0.side⟩,rfl,⟨by omega,λc hc=>by rw[w1 c (by omega),n0.get c hc]⟩,by omega,u1,⟨r1,l0.2⟩,by omega⟩
    rintro _ F0 T2 ⟨f,rfl,k0,D2,gf,y1,E2⟩;have e0:=k0.cells gq;have g0:=B0.aF k0;have b3:=k0.n;refine aW (λvs m' b0=>∃b:Bool,vs=[.bool b]/\F0=m'/\m.n<=b0/\(b=false->f∉ns)) (λQ2 d0=>?_) ?_
    ·rw[(Ql e0).2.1,ae,(tP gf).2.2,ae];refine aE (tJ hX g0.sl (by omega) f) ?_;rw[aj];refine ak (λ_=>d0 _ _ _ ⟨_,rfl,rfl,by omega,λh=>by cases h⟩) (λc=>?_);have c:=aa6 c;have⟨b',o',d1,d2,d3⟩:=el (a0.trans k0);rw[e1]at d1;cases d1;rw[ae,e2,ae,d3,ae,kB (by decide),ae];refine aE (mT hX (mn _) (by decide)) ?_;rw[aS,ae];exact d0 _ _ _ ⟨_,rfl,rfl,by omega,λ_=>c⟩
    rintro _ _ c3 ⟨b5,rfl,rfl,y0,L1⟩;rw[aB,aj];refine ak (λ_=>hQ _ _ _ ⟨ns,w,rfl,a0.trans k0,y0,e0,g0,by omega,i0,C0,by omega⟩) (λc=>?_);have N1:=L1 c;refine Lp.intro (γ:=Nat) (λj=>ns.length-j) (λj vs m' lo=>vs=[.int .i64 j]/\j<=ns.length/\F0=m'/\m.n<=lo/\∀y∈ns.take j,ik y f) 0 ⟨rfl,abh _,rfl,y0,λy hy=>by cases hy⟩ ?_;rintro j _ _ i3 ⟨rfl,hj,rfl,z1,A1⟩;rw[aB];refine aW (λvs m' b0=>∃b:Bool,vs=[.bool b]/\F0=m'/\m.n<=b0/\(b=true->∃y,ns[j]?=some y/\ik y f)/\(b=false->∀y,ns[j]?=some y->¬ik y f)) (λQ2 d0=>?_) ?_
    ·rw[(Ql e0).2.1,ae,g0.sl.len gH,aA,aM,ae,aj];refine ak (λB1=>?_) (λO1=>?_)
     ·have B1:j < ns.length:=by grind
      obtain⟨y,hy⟩:∃y,ns[j]?=some y:=⟨_,aa5 B1⟩
      have⟨p,g1,g2⟩:=tQ g0.sl hy;rw[ae,g1,ae,g2,ae,(tP gf).2.2,ae];refine aE (ER hX y f) ?_;refine d0 _ _ _ ⟨_,rfl,rfl,by omega,λc=>⟨y,hy,aba c⟩,λc z hz=>?_⟩;rw[hy]at hz;cases hz;exact aa6 c
     refine d0 _ _ _ ⟨false,rfl,rfl,z1,λc=>(by cases c),λ_ z hz=>?_⟩;have:¬(j:Int)< (ns.length:Int):=aa6 O1;have:=(aa9.1 hz).1;omega
    rintro _ _ j3 ⟨b7,rfl,rfl,C1,P1,T1⟩;rw[aB,aj];refine ak (λc=>?_) (λc=>?_)
    ·have⟨y,hy,b2⟩:=P1 c;have:=(aa9.1 hy).1;rw[aQ,ae,wrap64 (by omega) (by omega)];refine⟨j+1,by omega,rfl,by omega,rfl,C1,λz hz=>?_⟩;rw[abt,hy]at hz;rcases abC.1 hz with hz |hz;·exact A1 z hz
     simp only[ab9,abE]at hz;rw[hz];exact b2
    obtain⟨v1,F2,v2,v3,G2,v4,D1,g1,g2,z0,g3,g4,g5,g6,w4,n4,l4,k4⟩:=TP (x:=f) (k:=j) Hb gH rfl g0 (by omega) (by omega) hj BZ (λ_=>rfl) (by kernel_rfl) (λ_=>by kernel_rfl);rw[(Ql e0).2.1,ae,g1,ae,(tP gf).2.2,ae,g2,aA,(Ql (z0.cells e0)).2.1,ae,g3,ae,g4,aA];refine⟨g5,?_⟩;rw[g6,aA];have G0:D1.get mm.n=.cells (QW.c ⟨⟨10*(i:Int),ns⟩,w⟩) 79 none:=by grind
    refine cg MR G0 (by rw[w4.sl.cells];rfl) (by rw[w4.sl.cells];show 0+1+1<=2;decide) (by rw[w4.sl.cells];simp[w4.sl.one]) λH2 c2 H0 o0=>?_;have n131:=z0.n;refine hQ _ _ _ ⟨ns.take j++f::ns.drop j,v4,rfl,⟨by omega,λc hc=>by rw[o0 c (by omega),k4 c (by omega),k0.get c (by omega),a0.get c hc]⟩,by omega,?_,w4.tH rfl λc h1 h2=>o0 c (by omega),?_,?_,Sj C0 N1 A1 (T1 c),by omega⟩;·rw[H0,w4.sl.cells];rfl
    ·rw[abO,abr,acr,adJ];omega
    intro y hy;rcases abC.1 hy with hy |hy;·exact i0 y (ads hy)
    rcases abp.1 hy with rfl |hy;·exact y1
    exact i0 y (aer hy)
   rintro _ m' b0 ⟨i2,w',rfl,a1,a2,a3,a4,a5,a6,a7,a8⟩;rw[aQ,ae,wrap64 (by omega) (by omega)];exact⟨k+1,by omega,i2,w',rfl,by omega,a1,a2,a3,a4,a5,a6,a7,a8⟩
  rw[(Ql gq).2.2,ae];refine eT (T:=41) (x:=(⟨⟨10*(i:Int),ns⟩,w⟩:QW)) WB rfl (I0.aF a0) (by grind) (by omega) TT (λ_=>⟨rfl,B0.sl.one⟩) λr' I2 w2 n2 k2 j2 l2=>?_;rw[aQ,ae,wrap64 (by omega) (by omega)];have n26:=a0.n
  have E1:Qh h0 (qs++ [⟨⟨10*(i:Int),ns⟩,w⟩]):=λy hy=>by
   rcases abC.1 hy with hy |hy;·exact J0.aY (λc cs g hc=>a0.cells hc) y hy
   rw[abE.1 hy];exact⟨B0.sl,by grind,by grind,i0,C0⟩
  refine⟨i+1,by omega,_,r',rfl,by omega,⟨by omega,λc hc=>by rw[k2 c hc,a0.get c (by omega),j0.get c hc]⟩,by omega,w2,E1.aY λc cs g hc=>?_,by grind,λy hy=>?_,?_⟩;·rw[j2 c (M.bk hc) (λk3 g' e=>by rw[hc]at e;cases e),hc]
  ·rcases abC.1 hy with hy |hy;·have:=K0 y hy;omega
   rw[abE.1 hy];show 10*(i:Int)< _;omega
  rw[ab8];refine⟨L0,List.pairwise_singleton _ _,λa ha b hb=>?_⟩;rw[abE.1 hb];exact K0 a ha
 refine H _ λqs v m' lo p0 hx h1 h2 h3 h4=>?_;show(bB v=true/\m.n<=lo/\(m.n=m.n/\∃qs,Ext m m/\Sl m qs v/\Qh m qs/\qs.length<=4/\qs.Pairwise λa b=>a.q.id < b.q.id))\/((bB v=false\/lo < m.n)/\(min m.n lo=m.n/\∃qs,Ext m m'/\Sl m' qs v/\Qh m' qs/\qs.length<=4/\qs.Pairwise λa b=>a.q.id < b.q.id));rcases h1 with⟨rfl,rfl⟩ |⟨b,o,c,bc,g,rfl,hr⟩;·exact .inl ⟨rfl,p0,rfl,[],.refl,.nil,λx hx=>(by cases hx),by simp,.nil⟩
 exact .inr ⟨.inl rfl,by omega,qs,hx,.inr ⟨b,o,c,bc,g,rfl,hr⟩,h2,h3,h4⟩
abbrev ND(p:Nat×Nat):aeN:=[.int .i64 p.1,.int .i64 p.2]
instance:aZ (Nat×Nat) where
 ty:=69
 sz:=2
 agg:=true
 eB:=[]
 rep _ p cs:=cs=ND p
 pos:=by decide
 one:=by grind
 len:=by grind
 fB:=by rintro _ _ _ rfl;rfl
 aY:=by grind
theorem BK:oP TE 40 69 (Nat×Nat):=⟨ag.t40,ag.t69,by kernel_rfl,⟨_,rfl⟩,rfl,by kernel_rfl,rfl,rfl⟩
theorem WD:ur TE 40 (Nat×Nat):=⟨ag.t40,ag.t69,by kernel_rfl,rfl,rfl,by kernel_rfl,by decide,rfl⟩
theorem TU{p:Nat×Nat}:aG TE m 40 1 [(0,.agg (ND p).toArray)]=some (.slice (some ⟨m.n,0,none⟩) 1 1,m.push (.cells (ND p) 69 none)):=by kernel_rfl
abbrev scc(r r2 st rc mo tv pv qv:aeM):aeN:=[r,r2,st,rc,mo,tv,pv,qv]
abbrev zM(r r2 st rc mo tv pv qv:aeM):aeM:=.agg (scc r r2 st rc mo tv pv qv).toArray
structure Lt(s:qP):Prop where
 y:rz s.y
 ts:∀t∈s.ts,dS t=true/\uW s.y.us t=true
 od:De s.ts.length s.ps
 qs:∀q∈s.qs,YN q
 ql:s.qs.length<=4
 xN:s.qs.Pairwise λa b=>a.id < b.id
theorem Lt.tl{s:qP}(h:Lt s):s.ts.length<=8:=h.od.le
structure YG(s:qP):Prop extends Lt s where
 tl6:s.ts.length<=6
 plt:∀p∈s.ps,p.1 < p.2/\p.2 < s.ts.length
 pl15:s.ps.length<=15
 rc9:s.y.rc.length<=9
structure wY(m:M)(s:qP)(r r2 st rc mo tv pv qv:aeM):Prop where
 y:oO m s.y r r2 st rc mo
 ts:∃l:List TW,l.map TW.t=s.ts/\Sl m l tv/\Dd m l
 ps:Sl m s.ps pv
 qs:∃l:List QW,l.map QW.q=s.qs/\Sl m l qv/\Qh m l
theorem wY.aY{s:qP}{r r2 st rc mo tv pv qv:aeM}{m':M}(h:wY m s r r2 st rc mo tv pv qv)(hk:∀c cs t g,m.get c=.cells cs t g->t≠43->t≠38->m'.get c=.cells cs t g):wY m' s r r2 st rc mo tv pv qv:=by
 have⟨h1,⟨l,h2,h3,h4⟩,h5,⟨q,h6,h7,h8⟩⟩:=h
 refine⟨h1.aY λc cs t g H ht=>hk c cs t g H (by grind) (by grind),⟨l,h2,h3.aY λc cs t g H ht=>hk c cs t g H ?_ ?_,h4.aY λc cs g H=>hk c cs _ g H (by decide) (by decide)⟩,h5.aY λc cs t g H ht=>hk c cs t g H ?_ ?_,⟨q,h6,h7.aY λc cs t g H ht=>hk c cs t g H ?_ ?_,h8.aY λc cs g H=>hk c cs _ g H (by decide) (by decide)⟩⟩ <;>
  (simp only[aZ.ty,aZ.eB,abp,ab0,or_false]at ht;subst ht;decide)
theorem wY.aF{s:qP}{r r2 st rc mo tv pv qv:aeM}{m':M}(h:wY m s r r2 st rc mo tv pv qv)(H:Ext m m'):wY m' s r r2 st rc mo tv pv qv:=h.aY λ_ _ _ _ hc _ _=>H.cells hc
theorem wY.fB{s:qP}{r r2 st rc mo tv pv qv:aeM}(h:wY m s r r2 st rc mo tv pv qv):(scc r r2 st rc mo tv pv qv).all one:=by have⟨h1,⟨l,h2,H,h4⟩,h5,⟨q,h6,h7,h8⟩⟩:=h;have⟨⟨l',_,k2⟩,k3,⟨k,_,k5⟩,k6,k7⟩:=h1;show(one r && (one r2 && (one st && (one rc && (one mo && (one tv && (one pv && (one qv && true))))))))=true;rw[k2.sl.one,k3.one,k5.sl.one,k6.one,k7.one,H.one,h5.one,h7.one];rfl
theorem wY.flat{s:qP}{r r2 st rc mo tv pv qv:aeM}{m':M}(h:wY m' s r r2 st rc mo tv pv qv)(hf:D.bF r/\D.bF r2/\D.bF st/\D.bF rc/\D.bF mo/\D.bF tv/\D.bF pv/\D.bF qv)(m:M):wY m s r r2 st rc mo tv pv qv:=by have⟨h1,⟨l,h2,h3,h4⟩,h5,⟨q,h6,h7,h8⟩⟩:=h;have⟨f1,f2,f3,f4,f5,f6,f7,f8⟩:=hf;obtain⟨e1,rfl⟩:=im h3 f6;obtain⟨e2,rfl⟩:=im h5 f7;obtain⟨e3,rfl⟩:=im h7 f8;subst e1 e3;exact⟨h1.flat ⟨f1,f2,f3,f4,f5⟩ m,⟨[],h2,.nil,λx H=>(by cases H)⟩,e2 ▸ .nil,⟨[],h6,.nil,λx H=>(by cases H)⟩⟩
section
variable {b:Nat} {r r2 st rc mo tv pv qv:aeM} {g:Option Nat}
theorem qS(h:m.get b=.cells (scc r r2 st rc mo tv pv qv) 43 g):
  ah TE m 38 (aeK b (0+0))=some (yv r r2 st rc mo)/\ah TE m 39 (aeK b (0+5))=some tv/\ah TE m 40 (aeK b (0+6))=some pv/\ah TE m 41 (aeK b (0+7))=some qv/\
  ah TE m 43 (aeK b 0)=some (zM r r2 st rc mo tv pv qv):=by
 refine⟨?_,?_,?_,?_,?_⟩;·rw[HZ,aN (n:=5) h (by grind)];rfl
 ·rw[Rr,aI h];rfl
 ·rw[HY,aI h];rfl
 ·rw[Rq,aI h];rfl
 rw[Rp,aN (n:=8) h (by simp_all)];rfl
end
def Tw:Nat->Nat
 |0=>0
 |i+1=>Tw i+i
theorem Tv{i:Nat}(h:i<=6):Tw i<=15:=by
 match i,h with
 |0,_=>decide
 |1,_=>decide
 |2,_=>decide
 |3,_=>decide
 |4,_=>decide
 |5,_=>decide
 |6,_=>decide
theorem Wo{r r2 st rc mo tv qv:aeM}(h1:cells tv=[tv])(H:cells qv=[qv]):aJ TE 43 [(0,yv r r2 st rc mo),(1,tv),(3,qv)]=some (zM r r2 st rc mo tv aeQ qv):=by rw[zr rfl (by grind) (by grind),h1,H];rfl
set_option maxHeartbeats 4000000 in
theorem Kc(hX:cC X){xs:List I6}{ks:List I4}{vb vk va:aeM}(hv:Ff m xs vb)(I3:∀x∈xs,x.ok)(hlen:xs.length < 9223372036854775808)(hk:oJ m ks vk)(B2:∀x∈ks,x.ok)(J1:ks.length < 9223372036854775808)(J3:one va=true)
  {ws:List I6} {vw:aeM} (hw:Ff m ws vw) (o1:∀x∈ws,x.ok) (K3:ws.length < 9223372036854775808) {ps:List Int} {vp:aeM} (hp:oJ m ps vp) (C2:∀x∈ps,lN x) (L3:ps.length < 9223372036854775808)
  {qs:List I4} {vq:aeM} (hq:oJ m qs vq) (D2:∀x∈qs,x.ok) (K1:qs.length < 9223372036854775808):
  ∃s r r2 st rc mo tv pv qv m',C X (.func 7) [.agg #[vb,vk,va],vw,vp,vq] m m.n (zM r r2 st rc mo tv pv qv) m'/\Ext m m'/\YG s/\wY m' s r r2 st rc mo tv pv qv:=by
 have key:=Cl.iX (E:=TE) (X:=X) (f:=7) (args:=[.agg #[vb,vk,va],vw,vp,vq]) (m:=m) (R:=λrv m' b=>b=m.n/\∃s r r2 st rc mo tv pv qv,rv=zM r r2 st rc mo tv pv qv/\Ext m m'/\YG s/\wY m' s r r2 st rc mo tv pv qv) (hX.no _ rfl) (aa3 func7) rfl ?_
 ·obtain⟨rv,m',b,hc,rfl,s,r,r2,st,rc,mo,tv,pv,qv,rfl,h⟩:=key;exact⟨s,r,r2,st,rc,mo,tv,pv,qv,m',hc,h⟩
 have H:∀R:aeN->M->Nat->Prop,(∀(s:qP) (r r2 st rc mo tv pv qv:aeM) (m':M) (lo:Nat),m.n<=lo->Ext m m'->YG s->wY m' s r r2 st rc mo tv pv qv->R [zM r r2 st rc mo tv pv qv] m' lo)->dE TE (aL TE X) Tryz.f7 [.agg #[vb,vk,va],vw,vp,vq] m R:=by
  intro R hR;rw[F7];dsimp only[aL];refine av λm1 l5 E2 N3=>?_;refine av λm2 m5 F2 G2=>?_;have O0:Ext m m2:=⟨by omega,by grind⟩
  have g1:m2.get m.n=.cells [vb,vk,va] 25 none:=by rw[G2 _ (by omega)];exact E2
  have gz:m2.get m1.n=.cells (scc aeQ aeQ aeQ aeQ aeQ aeQ aeQ aeQ) 43 none:=F2;clear E2 N3 F2 G2;unfold ptrTo;simp only[cX,lC,ae];have H2:=hw.aF O0;rw[show ah TE m2 25 (.pointer (some ⟨m.n,0,none⟩))=some (.agg #[vb,vk,va]) by rw[Ck,aN (n:=3) g1 (by grind)];rfl,ae,H2.r.len nz,aA,ko,aA];obtain⟨kr,n5⟩:∃kr:Nat,kr=min ws.length 3:=⟨_,rfl⟩
  rw[show min (ws.length:Int) 3=(kr:Int) by omega];obtain⟨v6,e6,s6,c6,o6⟩:=H2.to nz (by kernel_rfl) (i:=kr) (by omega);rw[e6,ae];obtain⟨y,r,r2,st,rc,mo,l0,v0,m8,c8,x8,hyp,y0, -, -, -,I2⟩:=Ke (m:=m2) hX (hv.aF O0) I3 hlen (hk.aF O0) B2 J1 J3 s6.r (λx hx=>o1 x (ads hx)) (by grind);refine aE c8 ⟨aa4 _,?_⟩;have n8:=x8.n;rw[aH,aH];simp only[aa8,aa7,ae];refine av λm12 D4 p1 L1=>?_;refine aC mJ p1 rfl rfl y0.fB λm13 E4 r1 J2=>?_;have gY:m13.get m8.n=.cells (yc r r2 st rc mo) 38 none:=r1;have u1:Ext m8 m13:=⟨by omega,by grind⟩
  rw[(fF gY).2.2.2.2,ae];refine av λm16 F4 v1 K2=>?_;refine aC mJ v1 rfl rfl y0.fB λm17 G4 w1 L2=>?_;have gN:m17.get m13.n=.cells (yc r r2 st rc mo) 38 none:=w1;have z0:Ext m13 m17:=⟨by omega,by grind⟩
  have n13:=u1.n;have n17:=z0.n;have o5:m8.n < m13.n:=by omega
  have H4:m13.n < m17.n:=by omega
  have y1:=u1.trans z0;have Q0:=O0.trans x8;have N1:=y0.aF y1;have O3:=x8.cells gz;have c4:=hw.r.aF Q0;clear p1 L1 r1 J2 v1 K2 w1 L2;refine Lp.intro (γ:=Nat) (λi=>9-i) (λi vs mm lo=>∃l v z,vs=[v,.int .i64 i]/\3<=i/\i<=9/\m.n<=lo/\Ext m8 mm/\m17.n<=mm.n/\mm.get m8.n=.cells (yc r r2 st rc mo) 38 none/\Lr mm m13.n z/\Ow m17.n mm l v/\Dd mm l/\(∀x∈l,uW y.us x.t=true)/\l.length+3<=i) 3 ⟨[],_,y,rfl,by omega,by omega,by omega,y1,aa4 _,z0.cells gY,⟨hyp,_,_,_,_,_,gN,N1⟩,.nil,λx hx=>(by cases hx),λx hx=>(by cases hx),aa4 _⟩ ?_;rintro i vs mm lo ⟨l,v,z,rfl,r5,hi,O1,e0,u5,gy,hz,A0,c1,M2,v5⟩;have N2:oJ mm ws vw:=c4.aF e0;rw[aB,aB];refine aW (λvs m' g0=>∃b:Bool,vs=[.bool b]/\mm=m'/\m.n<=g0/\(b=true->i < ws.length/\i < 9)) (λQ hQ=>?_) ?_
  ·rw[N2.len nz,aA,aM,ae,aj]
   refine ak (λc=>?_) (λ_=>hQ _ _ _ ⟨_,rfl,rfl,O1,λh=>by cases h⟩)
   have c:(i:Int)< (ws.length:Int):=aba c
   rw[aM,ae]
   grind
  rintro _ _ fS ⟨b,rfl,rfl,J4,hb⟩;rw[aB,aj];refine ak (λc=>?_) (λ_=>?_)
  ·have⟨d4,w5⟩:=hb c;refine aW (λvs m' g0=>∃l v z,vs=[v]/\m.n<=g0/\Ext m8 m'/\m17.n<=m'.n/\m'.get m8.n=.cells (yc r r2 st rc mo) 38 none/\Lr m' m13.n z/\Ow m17.n m' l v/\Dd m' l/\(∀x∈l,uW y.us x.t=true)/\l.length+3<=i+1) (λQ hQ=>?_) ?_
   ·have⟨P1,a1,a2,a3,a4,a5,d1,O2⟩:=id hz
    obtain⟨x,hx⟩:∃x,ws[i]?=some x:=⟨_,aa5 d4⟩
    obtain⟨bb,o,f1,f2, -⟩:=OD N2 hx
    rw[(fF d1).2.2.2.2,ae,f1,ae,f2,ae]
    have⟨q0,q1,q2,q3,q4,q5⟩:=o1 x (abb hx)
    have⟨t,w,B0,e4,P2,hs,y5⟩:=DQ (m:=mm) hX O2 P1 q0 q1 q2 q3 q4 q5
    refine aE e4 ⟨aa4 _,?_⟩
    have n50:=P2.n
    refine av λz5 K4 z1 T2=>?_
    refine aC og z1 rfl rfl (Tk.cR hs.one) λe1 L4 A1 c3=>?_
    have gt:e1.get B0.n=.cells (t.c w) 62 none:=A1
    have r0:Ext B0 e1:=⟨by omega,by grind⟩
    have A5:=r0.n
    have N4:B0.n < e1.n:=by omega
    have T1:=P2.trans r0
    clear z1 T2 A1 c3
    rw[(fF (T1.cells d1)).2.2.2.2,ae,gQ gt,ae]
    obtain⟨rv,d3,f4,i1,g4⟩:=Am (m:=e1) (t:=t) hX (O2.aF T1) P1 (hs.aF r0) (by omega)
    refine aE f4 ?_
    have B5:=i1.n
    obtain⟨b1,b2,b3,b4,b5,k,rfl,ob,e3,h4⟩:=LI g4
    rw[aH,aH]
    simp only[aa8,aa7,ae]
    refine av λC5 O4 B1 g3=>?_
    refine aC mJ B1 rfl rfl ob λu0 R4 C1 h3=>?_
    have gn:u0.get d3.n=.cells (yc b1 b2 b3 b4 b5) 38 none:=C1
    have k0:Ext d3 u0:=⟨by omega,λc hc=>by grind⟩
    have D5:=k0.n
    have b0:=T1.trans (i1.trans k0)
    clear B1 g3 C1 h3
    have D1:u0.get B0.n=.cells (t.c w) 62 none:=(i1.trans k0).cells gt
    refine aW (λvs m' g0=>∃b:Bool,vs=[.bool b]/\u0=m'/\m.n<=g0/\(b=true->k=0/\uW y.us t=true)) (λQ2 j1=>?_) ?_
    ·rw[aS,ae,aj]
     refine ak (λc=>?_) (λ_=>j1 _ _ _ ⟨_,rfl,rfl,by omega,λh=>by cases h⟩)
     have c:k=0:=aba c
     rw[(fF (b0.cells gy)).2.2.2.2,ae,gQ D1,ae]
     refine aE (DR (m:=u0) (t:=t) hX (y0.aF (e0.trans b0)) hyp hs.one) ?_
     grind
    rintro _ _ E5 ⟨G5,rfl,rfl,i3,j4⟩
    rw[aB,aj]
    refine ak (λc=>?_) (λ_=>hQ _ _ _ ⟨l,v,z,rfl,i3,e0.trans b0,by omega,b0.cells gy,hz.aF b0,A0.aF b0,c1.aY λc cs g hc=>b0.cells hc,M2,by omega⟩)
    obtain⟨rfl,W4⟩:=j4 c
    cases hD:uE z t with
    |none=>exact absurd (h4 hD) (by decide)
    |some z2=>
    obtain⟨-,k4⟩:=e3 z2 hD
    have C0:dS t=true:=by
     unfold uE at hD
     grind
    have j3:rz z2:=by unfold uE at hD;rw[abe C0]at hD;exact Dv P1 C0 hD
    rw[(fF gn).2.2.2.2,ae]
    refine aC mJ (b0.cells d1) rfl rfl ob λh0 c5 l3 s0=>?_
    have d5:h0.get m13.n=.cells (yc b1 b2 b3 b4 b5) 38 none:=l3
    have i0:∀c cs t' g,u0.get c=.cells cs t' g->t'≠38->h0.get c=.cells cs t' g:=λc cs t' g hc ht=>by rw[s0 c (λe=>by subst e;rw[b0.cells d1]at hc;cases hc;exact ht rfl),hc]
    have m3:oO h0 z2 b1 b2 b3 b4 b5:=(k4.aF k0).aY λc cs t' g hc ht=>i0 c cs t' g hc (by grind)
    have c2:Ow m17.n h0 l v:=(A0.aF b0).tH rfl λc h1 h2=>s0 c (by omega)
    have d2:Dd h0 l:=(c1.aY λc cs g hc=>b0.cells hc).aY λc cs g hc=>i0 c cs _ g hc (by decide)
    have n3:h0.get B0.n=.cells (t.c w) 62 none:=i0 _ _ _ _ D1 (by decide)
    rw[gQ n3,ae]
    have e5:Sl h0 t.un.shape w:=(hs.aF (r0.trans (i1.trans k0))).aY λc cs t' g hc ht=>i0 c cs t' g hc (by
     have ht:t'=141:=by simpa[aZ.ty,aZ.eB]using ht
     grind)
    refine eT (T:=39) (x:=(⟨t,w⟩:TW)) P6 rfl c2 (by omega) (by omega) HE (λ_=>⟨rfl,hs.one⟩) λr' o3 w2 n2 k2 r3 l2=>?_
    have D0:∀c cs t' g,h0.get c=.cells cs t' g->t'≠62->o3.get c=.cells cs t' g:=λc cs t' g hc ht=>by rw[r3 c (M.bk hc) λH5 g' e=>by rw[hc]at e;cases e;exact ht rfl,hc]
    have u3:oO o3 z2 b1 b2 b3 b4 b5:=m3.aY λc cs t' g hc ht=>D0 c cs t' g hc (by grind)
    have l4:Dd h0 (l++ [⟨t,w⟩]):=λx hx=>by
     rcases abC.1 hx with hx |hx;·exact d2 x hx
     ·grind
    refine hQ _ _ _ ⟨_,r',z2,rfl,by omega,⟨by grind,λc hc=>by rw[k2 c (by omega),s0 c (by omega),b0.get c (by omega),e0.get c hc]⟩,by omega,by rw[k2 _ (by omega),s0 _ (by omega)];exact b0.cells gy,⟨j3,_,_,_,_,_,by grind,u3⟩,w2,l4.aY λc cs g hc=>D0 c cs _ g hc (by decide),λx hx=>?_,by grind⟩
    grind
   rintro _ m' g0 ⟨l',v',z',rfl,a1,a2,a3,a4,a5,a6,a7,a8,a9⟩;rw[aB,aQ,ae,wrap64 (by omega) (by omega)];exact⟨i+1,by omega,l',v',z',rfl,by omega,by omega,a1,a2,a3,a4,a5,a6,a7,a8,by omega⟩
  have E0:=y0.aF e0;obtain⟨⟨ul,m4,hF⟩,I5, -⟩:=id E0;rw[(fF gy).2.2.2.2,ae,(fF gy).1,ae];have n4:cn (bP ul):=by rw[m4];exact hyp.tR
  have⟨e2,qv,a0,o4,n0,g2,v3,J5,r4⟩:=yx (m:=mm) (vm:=r2) hX hF n4 ((hq.aF Q0).aF e0) D2 K1;refine aE o4 ⟨aa4 _,?_⟩;have K5:=n0.n;rw[Wo A0.sl.cells g2.cells,ae]
  have i2:(scc r r2 st rc mo v aeQ qv).all one=true:=by have⟨⟨_,_,k2⟩,k3,⟨_,_,k5⟩,k6,k7⟩:=E0;show(one r && (one r2 && (one st && (one rc && (one mo && (one v && (true && (one qv && true))))))))=true;rw[k2.sl.one,k3.one,k5.sl.one,k6.one,k7.one,A0.sl.one,g2.one];rfl
  refine av λL5 f5 E1 w3=>?_;refine aC MQ E1 rfl rfl i2 λj2 g5 F1 y3=>?_;have gS:j2.get a0.n=.cells (scc r r2 st rc mo v aeQ qv) 43 none:=F1;have u4:Ext a0 j2:=⟨by omega,λc hc=>by grind⟩
  have z3:a0.n < j2.n:=by omega
  clear E1 w3 F1 y3;have N5:l.length<=6:=by omega
  have A3:oJ a0 ps vp:=((hp.aF Q0).aF e0).aF n0;have o2:=(A0.sl.aF n0)
  refine Lp.intro (γ:=Nat) (λi=>l.length-i) (λi vs ma lo=>∃(n:Nat) (pl:List (Nat×Nat)) (pv:aeM),vs=[.int .i64 n,.int .i64 i]/\i<=l.length/\n=Tw i/\m.n<=lo/\Ext a0 ma/\ma.get a0.n=.cells (scc r r2 st rc mo v pv qv) 43 none/\Ow (a0.n+1) ma pl pv/\(∀p∈pl,p.1 < p.2/\p.2 < l.length)/\pl.length<=n/\a0.n < ma.n) 0 ⟨0,[],_,rfl,by omega,rfl,by omega,u4,gS,.nil,λp hp=>(by cases hp),aa4 _,z3⟩ ?_;rintro i' vs ma O5 ⟨n,pl,pv,rfl,d6,hn,B3,d0,gS,o0,F0,k1,G1⟩;have u2:=o2.aF d0;rw[aB,aB,u2.len jR,aA,aM,ae,aj];have h5:=Tv (show i'<=6 by omega);refine ak (λc=>?_) (λc=>?_)
  ·have i5:i' < l.length:=by grind
   refine Lp.intro (γ:=Nat) (λk=>i'-k) (λk vs mb lo=>∃(n:Nat) (pl:List (Nat×Nat)) (pv:aeM),vs=[.int .i64 n,.int .i64 k]/\k<=i'/\n=Tw i'+k/\m.n<=lo/\Ext a0 mb/\mb.get a0.n=.cells (scc r r2 st rc mo v pv qv) 43 none/\Ow (a0.n+1) mb pl pv/\(∀p∈pl,p.1 < p.2/\p.2 < l.length)/\pl.length<=n/\a0.n < mb.n) 0 ⟨n,pl,pv,rfl,by omega,by omega,B3,d0,gS,o0,F0,k1,G1⟩ ?_;clear u2 gS o0 F0 k1 d0 G1;rintro k vs mb f6 ⟨n',pl,pv,rfl,g6,v4,H1,l1,gS,o0,F0,k1,I1⟩;have C3:=A3.aF l1;rw[aB,aB,aM,ae,aj];refine ak (λc=>?_) (λc=>?_)
   ·have h6:k < i':=by grind
    refine aW (λvs mc g0=>∃(pl:List (Nat×Nat)) (pv:aeM),vs=[]/\m.n<=g0/\Ext a0 mc/\mc.get a0.n=.cells (scc r r2 st rc mo v pv qv) 43 none/\Ow (a0.n+1) mc pl pv/\(∀p∈pl,p.1 < p.2/\p.2 < l.length)/\pl.length<=n'+1/\a0.n < mc.n) (λQ hQ=>?_) ?_
    ·refine aW (λvs mc g0=>∃b:Bool,vs=[.bool b]/\mb=mc/\m.n<=g0) (λQ2 j1=>?_) ?_
     ·rw[C3.len dV,aA,aM,ae,aj];refine ak (λc=>?_) (λ_=>j1 _ _ _ ⟨_,rfl,rfl,H1⟩);have c:(n':Int)< (ps.length:Int):=aba c;obtain⟨x,hx⟩:∃x,ps[n']?=some x:=⟨_,aa5 (by omega)⟩
      have⟨p,cs,f1,f2,f3⟩:=C3.index dV (k:=.i64) hx;obtain rfl:cs=[.int .i64 x]:=f3;have f2:ah TE mb 3 p=some (.int .i64 x):=f2;rw[f1,ae,f2,ae];refine aE (mT hX (C2 x (abb hx)) (by decide)) ?_;rw[aS,ae];exact j1 _ _ _ ⟨_,rfl,rfl,by grind⟩
     rintro _ _ w4 ⟨b6,rfl,rfl,D3⟩
     rw[aB,aj]
     refine ak (λ_=>?_) (λ_=>hQ _ _ _ ⟨pl,pv,rfl,D3,l1,gS,o0,F0,by omega,I1⟩)
     rw[(qS gS).2.2.1,ae,show aJ TE 69 [(0,.int .i64 k),(1,.int .i64 i')]=some (.agg (ND (k,i')).toArray) by kernel_rfl,ae]
     refine eT (T:=40) (x:=((k,i'):Nat×Nat)) WD rfl o0 (by omega) (by omega) TU (λ_=>rfl) λr' E3 w2 n2 k2 r3 l2=>?_
     have y4:E3.get a0.n=.cells (scc r r2 st rc mo v pv qv) 43 none:=by grind
     refine cg WZ y4 (by rw[w2.sl.cells];rfl) (by rw[w2.sl.cells];show 0+6+1<=8;decide) (by rw[w2.sl.cells];simp[w2.sl.one]) λj5 z4 v2 G0=>?_
     refine hQ _ _ _ ⟨_,r',rfl,by omega,⟨by grind,λc hc=>by rw[G0 c (by omega),k2 c (by omega),l1.get c hc]⟩,by rw[v2,w2.sl.cells];rfl,w2.tH rfl λc h1 h2=>G0 c (by omega),λp hp=>?_,by grind,by omega⟩
     grind
    rintro _ mc w4 ⟨A4,p0,rfl,a1,a2,a3,a4,a5,a6,a7⟩;rw[aQ,ae,wrap64 (by omega) (by omega),aQ,ae,wrap64 (by omega) (by omega)];exact⟨k+1,by omega,n'+1,A4,p0,rfl,by omega,by omega,a1,a2,a3,a4,a5,a6,a7⟩
   obtain rfl:k=i':=by
    grind
   rw[aQ,ae,wrap64 (by omega) (by omega)];exact⟨k+1,by omega,n',pl,pv,rfl,by omega,v4,H1,l1,gS,o0,F0,k1,I1⟩
  rw[(qS gS).2.2.2.2,ae];have xz:=d0;have B4:ma.get m1.n=.cells (scc aeQ aeQ aeQ aeQ aeQ aeQ aeQ aeQ) 43 none:=(e0.trans (n0.trans d0)).cells O3;have F3:wY ma ⟨y,l.map TW.t,pl,e2.map QW.q⟩ r r2 st rc mo v pv qv:=⟨E0.aF (n0.trans d0),⟨l,rfl,u2,c1.aY λc cs g hc=>(n0.trans d0).cells hc⟩,o0.sl,⟨e2,rfl,g2.aF d0,v3.aY λc cs g hc=>d0.cells hc⟩⟩
  refine aC MQ B4 rfl rfl F3.fB λG3 C4 y2 A2=>?_;have H3:G3.get m1.n=.cells (scc r r2 st rc mo v pv qv) 43 none:=y2;rw[(qS H3).2.2.2.2,ae];have i6:=d0.n;have j6:=e0.n;refine hR ⟨y,l.map TW.t,pl,e2.map QW.q⟩ _ _ _ _ _ _ _ _ _ _ (by omega) ⟨by omega,λc hc=>by rw[A2 c (by omega),d0.get c (by omega),n0.get c (by omega),e0.get c (by omega),Q0.get c hc]⟩ ⟨⟨hyp,λt ht=>?_,.of_lt (by grind) (by grind) (λp hp=>by grind),λq hq=>?_,by grind,?_⟩,by grind,λp hp=>by grind,by grind,I2⟩ (F3.aY λc cs t g hc h1 h2=>by grind)
  ·obtain⟨x,hx,rfl⟩:=abQ.1 ht;exact⟨(c1 x hx).2.2,M2 x hx⟩
  ·obtain⟨x,hx,rfl⟩:=abQ.1 hq;exact(v3 x hx).2
  exact adm.2 r4
 refine H _ λs r r2 st rc mo tv pv qv m' lo O1 hx h1 h2=>?_;show(bB (zM r r2 st rc mo tv pv qv)=true/\m.n<=lo/\(m.n=m.n/\∃s r' H0 I0 J0 K0 L0 p0 N0,zM r r2 st rc mo tv pv qv=zM r' H0 I0 J0 K0 L0 p0 N0/\Ext m m/\YG s/\wY m s r' H0 I0 J0 K0 L0 p0 N0))\/((bB (zM r r2 st rc mo tv pv qv)=false\/lo < m.n)/\(min m.n lo=m.n/\∃s r' H0 I0 J0 K0 L0 p0 N0,zM r r2 st rc mo tv pv qv=zM r' H0 I0 J0 K0 L0 p0 N0/\Ext m m'/\YG s/\wY m' s r' H0 I0 J0 K0 L0 p0 N0));cases hf:bB (zM r r2 st rc mo tv pv qv);·exact .inr ⟨.inl rfl,by omega,s,r,r2,st,rc,mo,tv,pv,qv,rfl,hx,h1,h2⟩
 have j0:(D.bF r && (D.bF r2 && (D.bF st && (D.bF rc && (D.bF mo && (D.bF tv && (D.bF pv && (D.bF qv && true))))))))=true:=hf;simp only[abc]at j0;exact .inl ⟨rfl,O1,rfl,s,r,r2,st,rc,mo,tv,pv,qv,rfl,.refl,h1,h2.flat ⟨j0.1,j0.2.1,j0.2.2.1,j0.2.2.2.1,j0.2.2.2.2.1,j0.2.2.2.2.2.1,j0.2.2.2.2.2.2.1,j0.2.2.2.2.2.2.2.1⟩ m⟩
end
section
section
variable {X:aK}{x0 x1 x2:aeM}{m:M}{R:aeN->M->Nat->Prop}
theorem aaG:dE TE (aL TE X) f112 [x0] m R=ρ m x0 75 λa=>jn (λb=>ε 75 (υ m) 0 λc=>δ a 3 c λc=>η .lss 3 c (φ 0) λc=>aR c (b [aeR] a m.n) (ε 75 (υ m) 0 λc=>δ a 3 c λc=>η .gtr 3 c (φ 8) λc=>aR c (b [aeR] a m.n) (ε 75 (υ m) 1 λc=>δ a 40 c λc=>κ a .len [40] [c] λc _=>η .gtr 3 c (φ 28) λc=>b [c] a m.n))) (λa b c=>un a λa _=>aR a (R [aeS] b c) (ε 75 (υ m) 1 λa=>δ b 40 a λa=>χ X 166 [a,.func (.func 167) #[] #[υ m]] b λa b d=>ο .not a λa=>R [a] b (min c d))):=by kernel_rfl
theorem aad:dE TE (aL TE X) f167 [x0,x1] m R=ρ m x0 69 λa=>jn (λb=>ζ 69 (υ m) (φ 0) λc=>δ a 3 c λc=>ζ 69 (υ m) (φ 1) λd=>δ a 3 d λd=>κ a .min [3,3] [c,d] λc _=>η .lss 3 c (φ 0) λc=>aR c (b [aeR] a m.n) (ζ 69 (υ m) (φ 0) λc=>δ a 3 c λc=>ζ 69 (υ m) (φ 1) λd=>δ a 3 d λd=>κ a .max [3,3] [c,d] λc _=>ε 75 x1 0 λd=>δ a 3 d λd=>η .geq 3 c d λc=>aR c (b [aeR] a m.n) (ζ 69 (υ m) (φ 0) λc=>δ a 3 c λc=>ζ 69 (υ m) (φ 1) λd=>δ a 3 d λd=>η .eql 3 c d λc=>b [c] a m.n))) (λa b c=>un a λa _=>R [a] b c):=by kernel_rfl
theorem aaF:dE TE (aL TE X) f113 [x0] m R=ρ m x0 75 λa=>ς a [φ 0,φ 0,φ 0,φ 0,φ 0,φ 0,φ 0,φ 0] 120 λb=>ς b [φ 0,φ 0,φ 0,φ 0,φ 0,φ 0,φ 0,φ 0] 120 λc=>ε 75 (υ m) 1 λd=>δ c 40 d λd=>κ c .len [40] [d] λf _=>Lp (λc g h i=>un g λg _=>η .lss 3 g f λf=>aR f (ζ 40 d g λa=>δ h 69 a λa=>ς h [φ 0,φ 0] 69 λd=>ι d 69 (υ h) a λa d=>ζ 69 (υ h) (φ 1) λf=>δ a 3 f λf=>ζ 120 (υ b) f λj=>δ a 3 j λj=>ζ 69 (υ h) (φ 0) λh=>δ a 3 h λh=>η .shl 3 (φ 1) h λh=>η .or 3 j h λh=>ζ 120 (υ b) f λb=>ι a 3 b h λa b=>η .add 3 g (φ 1) λf=>c [f] a (ψ i d b)) (ε 75 (υ m) 0 λc=>δ h 3 c λc=>Lp (λd f g h=>un f λf _=>η .lss 3 f c λc=>aR c (ε 75 (υ m) 0 λa=>δ g 3 a λa=>Lp (λc g h i=>un g λg _=>η .lss 3 g a λa=>aR a (jn (λa=>ζ 120 (υ b) g λc=>δ h 3 c λc=>η .shr 3 c f λc=>η .and 3 c (φ 1) λc=>η .eql 3 c (φ 1) λc=>aR c (ζ 120 (υ b) g λc=>δ h 3 c λc=>ζ 120 (υ b) f λd=>δ h 3 d λd=>η .or 3 c d λc=>ζ 120 (υ b) g λb=>ι h 3 b c λb c=>a [] b (min i c)) (a [] h i)) (λ_ a b=>η .add 3 g (φ 1) λd=>c [d] a b)) (η .add 3 f (φ 1) λa=>d [a] h i)) [φ 0] g h) (ε 75 (υ m) 0 λc=>δ g 3 c λc=>Lp (λd f g h=>un f λf i=>un i λi _=>η .lss 3 i c λc=>aR c (ζ 120 (υ b) i λc=>δ g 3 c λc=>η .shr 3 c i λc=>η .and 3 c (φ 1) λc=>η .eql 3 c (φ 1) λc=>aR c (δ g 120 (υ b) λb=>ι g 120 (υ a) b λb c=>ai (ah TE b 120 (υ a)) λa=>R [a,aeS] b (min h c)) (η .add 3 i (φ 1) λa=>d [f,a] g h)) (δ g 120 (υ b) λb=>ι g 120 (υ a) b λb c=>ai (ah TE b 120 (υ a)) λa=>R [a,aeR] b (min h c))) [aeS,φ 0] g h)) [φ 0] h i)) [φ 0] c m.n:=by kernel_rfl
theorem F50:dE TE (aL TE X) f50 [x0] m R=ρ m x0 75 λa=>ς a [φ 0,φ 0,φ 0,φ 0,φ 0,φ 0,φ 0,φ 0] 120 λb=>δ b 75 (υ m) λc=>χ X 112 [c] b λb c d=>ο .not b λb=>aR b (θ 120 [] λb=>ι c 120 (υ a) b λb c=>ai (ah TE b 120 (υ a)) λa=>R [a,aeS] b (ψ m.n d c)) (δ c 75 (υ m) λb=>χ X 113 [b] c λb c f=>ξ b 0 λg=>ξ b 1 λb=>ι c 120 (υ a) g λc g=>ai (ah TE c 120 (υ a)) λa=>R [a,b] c (ω m.n d f g)):=by kernel_rfl
theorem F53:dE TE (aL TE X) f53 [x0] m R=ρ m x0 75 λa=>δ a 75 (υ m) λb=>χ X 50 [b] a λa b c=>ξ a 0 λd=>ξ a 1 λa=>ς b [φ 0,φ 0,φ 0,φ 0,φ 0,φ 0,φ 0,φ 0] 120 λf=>ι f 120 (υ b) d λb d=>R [a] b (ψ m.n c d):=by kernel_rfl
theorem F49:dE TE (aL TE X) f49 [x0,x1,x2] m R=ρ m x0 75 λa=>δ a 75 (υ m) λb=>χ X 50 [b] a λa b c=>ξ a 0 λd=>ξ a 1 λa=>ς b [φ 0,φ 0,φ 0,φ 0,φ 0,φ 0,φ 0,φ 0] 120 λf=>ι f 120 (υ b) d λd f=>jn (λg=>aR a (κ d .min [3,3] [x1,x2] λa _=>η .geq 3 a (φ 0) λa=>aR a (κ d .max [3,3] [x1,x2] λa _=>ε 75 (υ m) 0 λh=>δ d 3 h λh=>η .lss 3 a h λa=>aR a (ζ 120 (υ b) x2 λa=>δ d 3 a λa=>η .shr 3 a x1 λa=>η .and 3 a (φ 1) λa=>η .eql 3 a (φ 1) λa=>g [a] d (ψ m.n c f)) (g [aeS] d (ψ m.n c f))) (g [aeS] d (ψ m.n c f))) (g [aeS] d (ψ m.n c f))) (λa b c=>un a λa _=>R [a] b c):=by kernel_rfl
theorem aaH:dE TE (aL TE X) f111 [x0,x1] m R=ρ m x1 120 λa=>Lp (λa b c d=>un b λb f=>un f λf _=>κ c .len [26] [b] λg _=>η .lss 3 g x0 λg=>aR g (Lp (λb c d f=>un c λc g=>un g λg h=>un h λh _=>η .lss 3 h x0 λi=>aR i (jn (λa=>η .shr 3 g h λb=>η .and 3 b (φ 1) λb=>η .eql 3 b (φ 0) λb=>aR b (ζ 120 (υ m) h λb=>δ d 3 b λb=>η .andNot 3 b g λb=>η .eql 3 b (φ 0) λb=>a [b] d f) (a [aeS] d f)) (λd f i=>un d λd _=>aR d (ν f 26 1 [(0,h)] λb d=>κ (M.wl d d.n) .append [26,26] [c,b] λb c=>η .shl 3 (φ 1) h λd=>η .or 3 g d λd=>a [b,d] c (min i (M.low c))) (η .add 3 h (φ 1) λa=>b [c,g,a] f i))) (a [c,g] d f)) [b,f,φ 0] c d) (R [b] c d)) [aeQ,φ 0] a m.n:=by kernel_rfl
theorem F48:dE TE (aL TE X) f48 [x0] m R=ρ m x0 75 λa=>δ a 75 (υ m) λb=>χ X 50 [b] a λa b c=>ξ a 0 λd=>ξ a 1 λa=>ς b [φ 0,φ 0,φ 0,φ 0,φ 0,φ 0,φ 0,φ 0] 120 λf=>ι f 120 (υ b) d λd f=>ο .not a λa=>aR a (R [aeQ,φ 150] d (ψ m.n c f)) (ε 75 (υ m) 0 λa=>δ d 3 a λa=>δ d 120 (υ b) λb=>χ X 111 [a,b] d λa b d=>R [a,φ 0] b (ω m.n c f d)):=by kernel_rfl
theorem F17:dE TE (aL TE X) f17 [x0,x1] m R=ρ m x0 75 λa=>δ a 75 (υ m) λb=>χ X 50 [b] a λa b c=>ξ a 0 λd=>ξ a 1 λa=>ς b [φ 0,φ 0,φ 0,φ 0,φ 0,φ 0,φ 0,φ 0] 120 λf=>ι f 120 (υ b) d λd f=>jn (λb=>ο .not a λa=>aR a (b [aeR] d (ψ m.n c f)) (κ d .len [26] [x1] λa _=>ε 75 (υ m) 0 λg=>δ d 3 g λg=>η .neq 3 a g λa=>b [a] d (ψ m.n c f))) (λa c d=>un a λa _=>aR a (R [aeS] c d) (κ c .len [26] [x1] λa _=>Lp (λc d f g=>un d λd h=>un h λh i=>un i λi _=>η .lss 3 i a λa=>aR a (ζ 26 x1 i λa=>δ f 3 a λa=>jn (λc=>η .lss 3 a (φ 0) λd=>aR d (c [aeR] f g) (ε 75 (υ m) 0 λd=>δ f 3 d λd=>η .geq 3 a d λd=>aR d (c [aeR] f g) (η .shr 3 h a λd=>η .and 3 d (φ 1) λd=>η .eql 3 d (φ 1) λd=>aR d (c [aeR] f g) (ζ 120 (υ b) a λa=>δ f 3 a λa=>η .andNot 3 a h λa=>η .neq 3 a (φ 0) λa=>c [a] f g)))) (λb f g=>un b λb _=>aR b (R [aeS] f g) (η .shl 3 (φ 1) a λa=>η .or 3 h a λa=>η .add 3 i (φ 1) λb=>c [d,a,b] f g))) (R [aeR] f g)) [aeS,φ 0,φ 0] c d)):=by kernel_rfl
theorem aae:dE TE (aL TE X) f166 [x0,x1] m R=χ X 216 [x0,x1] m λa b c=>η .geq 3 a (φ 0) λa=>R [a] b (min m.n c):=by kernel_rfl
end
end
section
variable {X:aK} {m:M}
theorem P0{t:TypeId}{k:Nat}(hk:k < 9):az TE .shl t (aeP 1) (aeP k)=some (aeP ((2 ^ k:Nat):Int)):=by
 show(if(k:Int)< 0 then none else some (Value.int .i64 (IntKind.i64.wrap (1*2 ^ (min (k:Int).toNat 64)))))=_;rw[abd (by omega),Int.toNat_natCast,adQ (by omega)];have h1:(1*2 ^ k:Int)=((2 ^ k:Nat):Int):=by grind
 have H:2 ^ k<=2 ^ 8:=adR (by decide) (by omega);rw[h1];generalize 2 ^ k=z at H;rw[wrap64 (by omega) (by omega)]
theorem uX{a:Nat}(h:a < 2 ^ 64):(BitVec.ofInt 64 (a:Int)).toNat=a:=by
 grind
theorem Sh{t:TypeId}{a b:Nat}(H:a < 256)(hb:b < 256):az TE .or t (aeP a) (aeP b)=some (aeP ((a |||b:Nat):Int)):=by
 have h:(BitVec.ofInt 64 (a:Int) |||BitVec.ofInt 64 (b:Int)).toNat=a |||b:=by
  grind
 have a0:a |||b < 256:=Nat.or_lt_two_pow (n:=8) H hb
 show(if IntKind.i64=IntKind.i64 then some (Value.int .i64 (IntKind.i64.wrap ((BitVec.ofInt 64 (a:Int) |||BitVec.ofInt 64 (b:Int)).toNat:Int)))else none)=_;rw[abe rfl,h,wrap64 (by omega) (by omega)]
theorem ES{t:TypeId}{a k:Nat}(hk:k < 64):az TE .shr t (aeP a) (aeP k)=some (aeP ((a/2 ^ k:Nat):Int)):=by
 show(if(k:Int)< 0 then none else some (Value.int .i64 ((a:Int).fdiv (2 ^ (min (k:Int).toNat 64)))))=_
 grind
theorem zB{t:TypeId}{a:Nat}(H:a < 256):az TE .and t (aeP a) (aeP 1)=some (aeP ((a%2:Nat):Int)):=by
 have h:(BitVec.ofInt 64 (a:Int) &&& BitVec.ofInt 64 1).toNat=a%2:=by
  grind
 show(if IntKind.i64=IntKind.i64 then some (Value.int .i64 (IntKind.i64.wrap ((BitVec.ofInt 64 (a:Int) &&& BitVec.ofInt 64 1).toNat:Int)))else none)=_;rw[abe rfl,h,wrap64 (by omega) (by omega)]
theorem xM{a k:Nat}:decide (((a/2 ^ k%2:Nat):Int)=1)=a.testBit k:=by
 grind
theorem PZ{a k:Nat}:decide (((a/2 ^ k%2:Nat):Int)=0)= !a.testBit k:=by
 grind
theorem ET{t:TypeId}{a b:Nat}(ha:a < 256)(hb:b < 256):∃c:Nat,az TE .andNot t (aeP a) (aeP b)=some (aeP (c:Int))/\(c=0↔∀i,a.testBit i->b.testBit i):=by
 obtain⟨c,hc⟩:∃c,c=(BitVec.ofInt 64 (a:Int) &&& ~~~(BitVec.ofInt 64 (b:Int))).toNat:=⟨_,rfl⟩
 have hle:c<=a:=by rw[hc,BitVec.toNat_and,uX (by omega)];exact Nat.and_le_left
 have H:∀i,c.testBit i=(a.testBit i && (decide (i < 64) && !b.testBit i)):=by intro i;rw[hc,BitVec.testBit_toNat,BitVec.getLsbD_and,BitVec.getLsbD_not,<-BitVec.testBit_toNat,<-BitVec.testBit_toNat,uX (by omega),uX (by omega)]
 refine⟨c,?_,?_⟩
 ·show(if IntKind.i64=IntKind.i64 then some (Value.int .i64 (IntKind.i64.wrap ((BitVec.ofInt 64 (a:Int) &&& ~~~(BitVec.ofInt 64 (b:Int))).toNat:Int)))else none)=_;rw[abe rfl,<-hc,wrap64 (by omega) (by omega)]
 constructor
 ·rintro rfl i hi
  have:=H i
  rw[Nat.zero_testBit,hi,abG]at this
  cases a0:b.testBit i with
  |true=>rfl
  |false=>
   rw[a0,acx,ad5]at this
   have b0:i < 64:=by
    rcases adS i 64 with h |h;·exact h
    rw[Nat.testBit_lt_two_pow (acL ha (acb (by decide:256<=2 ^ 64) (adR (by decide) h)))]at hi;cases hi
   rw[abl b0]at this;cases this
 ·intro h
  apply Nat.eq_of_testBit_eq
  intro i
  rw[H,Nat.zero_testBit]
  cases d0:a.testBit i with
  |false=>rfl
  |true=>rw[h i d0];simp
abbrev HH(n:Nat)(pv:aeM):aeM:=.agg #[.int .i64 n,pv]
theorem AF{b:Nat}{n:Nat}{pv:aeM}{g:Option Nat}(h:m.get b=.cells [aeP n,pv] 75 g):ah TE m 3 (aeK b (0+0))=some (aeP n)/\ah TE m 40 (aeK b (0+1))=some pv/\ah TE m 75 (aeK b 0)=some (HH n pv):=by
 refine⟨?_,?_,?_⟩;·rw[bI,aI h];rfl
 ·rw[HY,aI h];rfl
 rw[Rl,aN (n:=2) h (by grind)];rfl
theorem RH{W:Words}{x0 x1:aeM}{m:M}{R:aeN->M->Nat->Prop}:eL TE W f216 [x0,x1] m R=zW 40 69 W x0 x1 m R:=by kernel_rfl
theorem ppf{b:Nat}{p:Nat×Nat}{g:Option Nat}(h:m.get b=.cells (ND p) 69 g):ah TE m 3 (aeK b 0)=some (aeP p.1)/\ah TE m 3 (aeK b (0+1))=some (aeP p.2):=by
 refine⟨?_,?_⟩;·rw[bI,aI h];rfl
 rw[bI,aI h];rfl
theorem OB{b o:Nat}:an TE 69 (aeK b o) (aeP 0)=some (aeK b o)/\an TE 69 (aeK b o) (aeP 1)=some (aeK b (o+1)):=by constructor <;>kernel_rfl
theorem FV(hX:cC X){n:Nat}{ps:List (Nat×Nat)}{pv:aeM}(hO:De n ps)(hp:Sl m ps pv):C X (.func 112) [HH n pv] m m.n aeR m:=by
 refine Cl.cd (hX.no _ rfl) (aa3 func112) rfl rfl ?_;rw[aaG];dsimp only[δ,ε,η,κ,ο,ρ,υ,φ,χ];refine av λm1 k0 b0 e0=>?_;have g1:m1.get m.n=.cells [aeP n,pv] 75 none:=b0;have g0:Ext m m1:=⟨by omega,e0⟩
 have H:=hp.aF g0;have hle:=hO.le;have hlen:=hO.len;obtain⟨d0,d1, -⟩:=AF g1;unfold ptrTo;simp only[ee,pM,ae];refine aW (λvs mm lo=>vs=[aeS]/\m1=mm/\m.n<=lo) (λQ hQ=>?_) ?_
 ·rw[d0,ae,aM,ae,aj,abk (by omega),aO,ae,bV,ae,aj,abk (by omega),aO,d1,ae,H.len BK,aA,bV,ae,abk (by omega)];exact hQ _ _ _ ⟨rfl,rfl,aa4 _⟩
 rintro _ _ lo ⟨rfl,rfl,l0⟩;rw[aB,aj,aO,d1,ae]
 have hc:C X (.func 166) [pv,.func (.func 167) #[] #[aeK m.n 0]] m1 m1.n aeS m1:=by
  refine Cl.cd (hX.no _ rfl) (aa3 func166) rfl rfl ?_;rw[aae];dsimp only[η,φ,χ];refine aE (fm BK (hX.no _ rfl) (aa3 func216) rfl RH (λ_=>false) (by omega) H λp h0 cs hr=>?_) ?_
  ·have hr:cs=ND p:=hr;subst hr;have⟨h1,h2⟩:=hO.ok p h0;refine Cl.cd (args:=[.agg (ND p).toArray,aeK m.n 0]) (hX.no _ rfl) (aa3 func167) rfl rfl ?_;rw[aad];dsimp only[δ,ε,ζ,η,κ,ρ,υ,φ];refine av λm2 n0 j0 o0=>?_;have g2:m2.get m1.n=.cells (ND p) 69 none:=j0;have gO:m2.get m.n=.cells [aeP n,pv] 75 none:=by grind
   have⟨q0,q1⟩:=ppf g2;have⟨i0,i1⟩:=OB (b:=m1.n) (o:=0);unfold ptrTo;refine aW (λvs mm lo=>vs=[aeS]/\m2=mm/\m1.n<=lo) (λQ hQ=>?_) ?_
   ·rw[i0,ae,q0,ae,i1,ae,q1,ae,ko,aA,aM,ae,aj,abk (by omega),aO];simp only[ae,q0,q1];rw[qz,aA,ee,ae,(AF gO).1,ae,cB,ae,aj,abk (by omega),aO,aS,ae,abk (by omega)];exact hQ _ _ _ ⟨rfl,rfl,aa4 _⟩
   rintro _ _ fS ⟨rfl,rfl,a0⟩;rw[aB];exact⟨rfl,a0⟩
  rw[cB,ae,il];refine⟨?_,by omega⟩;show Value.bool (ps.any λ_=>false)=_;rw[ac1.2 λx _=>by decide]
 refine aE hc ?_;rw[bj,ae];exact⟨rfl,by omega⟩
abbrev vN(t:List Nat):aeN:=t.map λx:Nat=>Value.int .i64 (x:Int)
abbrev SJ(t:List Nat):aeM:=.agg (vN t).toArray
def B8(t:List Nat):Prop:=∀x∈t,x < 256
theorem B8.getD{t:List Nat}(h:B8 t)(i:Nat):t.getD i 0 < 256:=by
 rw[List.getD_eq_getElem?_getD]
 cases e:t[i]? with
 |none=>decide
 |some x=>exact h x (abb e)
theorem B8.set{t:List Nat}(h:B8 t){i v:Nat}(hv:v < 256):B8 (t.set i v):=λx H=>by
 rcases List.mem_or_eq_of_mem_set H with H |rfl
 ·exact h x H
 ·exact hv
theorem Zf:B8 rC:=by unfold B8 rC;decide
theorem SR{a b:Nat}(H:a < 256)(hb:b < 256):a |||b < 256:=Nat.or_lt_two_pow (n:=8) H hb
theorem BU{k:Nat}(h:k < 8):2 ^ k < 256:=by
 have:2 ^ k < 2 ^ 8:=Nat.pow_lt_pow_right (by decide) h
 grind
theorem B8.pair{t:List Nat}(h:B8 t){p:Nat×Nat}(H:p.1 < 8):B8 (oj t p):=h.set (SR (h.getD _) (BU H))
theorem B8.row{t:List Nat}(h:B8 t)(k b:Nat):B8 (sP k t b):=by
 unfold sP;split;·exact h.set (SR (h.getD _) (h.getD _))
 exact h
theorem Gi{b i:Nat}(hi:i < 8):an TE 120 (aeK b 0) (aeP i)=some (aeK b i):=by rcases(by omega:i=0\/i=1\/i=2\/i=3\/i=4\/i=5\/i=6\/i=7)with rfl |rfl |rfl |rfl |rfl |rfl |rfl |rfl <;>kernel_rfl
theorem pE{T:Nat}{t:List Nat}{g:Option Nat}(h:m.get T=.cells (vN t) 120 g){i:Nat}(hi:i < t.length):ah TE m 3 (aeK T i)=some (aeP (t.getD i 0:Nat)):=by
 rw[bI,aI h]
 grind
theorem MZ{T:Nat}{t:List Nat}(h:m.get T=.cells (vN t) 120 none){i v:Nat}(hi:i < t.length){P:M->Nat->Prop}
  (H:∀m1,m1.n=m.n->m1.get T=.cells (vN (t.set i v)) 120 none->(∀c,c≠T->m1.get c=m.get c)->P m1 T):
  aP (aD TE m 3 (aeK T i) (aeP (v:Int))) P:=by
 refine cg uz h rfl (by show i+1<=(vN t).length;rw[abH];omega) rfl λm1 hn hg hk=>H m1 hn ?_ hk
 rw[hg]
 congr 1
 show(vN t).take i++(Value.int .i64 (v:Int)::(vN t).drop (i+1))=(t.set i v).map λx:Nat=>Value.int .i64 (x:Int)
 rw[List.map_set]
 exact kG (by grind)
theorem Co{T:Nat}{t:List Nat}{g:Option Nat}(h:m.get T=.cells (vN t) 120 g)(H:t.length=8):ah TE m 120 (aeK T 0)=some (SJ t):=by rw[Oi,aN (n:=8) h (by grind)];show some (Value.agg (((vN t).drop 0).take 8).toArray)=_;rw[abU,aby (by grind)]
theorem cU{t:List Nat}:cells (SJ t)=vN t:=rfl
theorem qk{t:List Nat}:(vN t).all one:=by rw[abw];intro x H;obtain⟨y,_,rfl⟩:=abQ.1 H;rfl
def qN(n:Nat)(ps:List (Nat×Nat)):List Nat:=pU n (qL ps)
theorem Wv{n:Nat}{ps:List (Nat×Nat)}(h:De n ps):SB n (qL ps):=IM h.le λp H=>⟨(h.ok p H).1,(h.ok p H).2.1⟩
theorem zo{n:Nat}{ps:List (Nat×Nat)}(h:De n ps):ClT n (qL ps) (qN n ps):=Bl (by rw[sE];exact h.le) (Wv h)
theorem eY{n:Nat}{ps:List (Nat×Nat)}:(qN n ps).length=8:=by unfold qN;rw[GC,sE]
theorem Bm{n:Nat}{ps:List (Nat×Nat)}(h:De n ps)(a:Nat):dT (qN n ps) a a=false:=h.ir a
theorem AV{α β:Type}(f:β->α->β)(l:List α)(x:β){i:Nat}{y:α}(h:l[i]?=some y):(l.take (i+1)).foldl f x=f ((l.take i).foldl f x) y:=by rw[abt,h,ac9];rfl
theorem nQ{β:Type}(f:β->Nat->β)(x:β)(i:Nat):(List.range (i+1)).foldl f x=f ((List.range i).foldl f x) i:=by rw[acO,ac9];rfl
theorem Pz{t:List Nat}{b:Bool}:bB (.tuple #[SJ t,.bool b]):=by
 have h:(vN t).all D.bF:=by rw[abw];intro x H;obtain⟨y,_,rfl⟩:=abQ.1 H;rfl
 simp[bB,dG,bF]
set_option maxHeartbeats 1000000 in
theorem FW(hX:cC X){n:Nat}{ps:List (Nat×Nat)}{pv:aeM}(hO:De n ps)(hp:Sl m ps pv):C X (.func 113) [HH n pv] m m.n (.tuple #[SJ (qN n ps),aeR]) m:=by
 refine Cl.cd (hX.no _ rfl) (aa3 func113) rfl Pz ?_;have hle:=hO.le;have hlen:=hO.len;rw[aaF];dsimp only[δ,ε,ζ,η,ι,κ,ρ,ς,υ,φ,ψ];refine av λm1 d1 k0 D0=>?_;refine av λm2 j1 l0 n0=>?_;refine av λm3 k1 o0 g0=>?_;have p0:Ext m m3:=⟨by omega,by grind⟩
 have g1:m3.get m.n=.cells [.int .i64 n,pv] 75 none:=by rw[g0 _ (by omega),n0 _ (by omega)];exact k0
 have gz:m3.get m1.n=.cells (vN rC) 120 none:=by rw[g0 _ (by omega)];exact l0
 have gT:m3.get m2.n=.cells (vN rC) 120 none:=o0;clear k0 D0 l0 n0 o0 g0;have E0:=hp.aF p0;unfold ptrTo;simp only[ee,pM,ae];rw[(AF g1).2.1,ae,E0.len BK,aA];have l1:m2.n < m3.n:=by omega
 refine Lp.intro (γ:=Nat) (λi=>ps.length-i) (λi vs mm lo=>vs=[.int .i64 i]/\i<=ps.length/\m.n<=lo/\(∀c,c < m2.n->mm.get c=m3.get c)/\m3.n<=mm.n/\mm.get m2.n=.cells (vN ((ps.take i).foldl oj rC)) 120 none/\B8 ((ps.take i).foldl oj rC)) 0 ⟨rfl,abh _,aa4 _,λ_ _=>rfl,aa4 _,gT,Zf⟩ ?_;rintro i vs mm lo ⟨rfl,hi,a0,H,b0,gT,h8⟩;have ext:∀{ma:M},(∀c,c < m2.n->ma.get c=m3.get c)->m3.n<=ma.n->Ext m ma:=λh1 h2=>⟨by omega,λc hc=>by rw[h1 c (by omega),p0.get c hc]⟩
 have r0:=hp.aF (ext H b0);have gO:∀{ma:M},(∀c,c < m2.n->ma.get c=m3.get c)->ma.get m.n=.cells [.int .i64 n,pv] 75 none:=λh=>(h _ (by omega)).trans g1;rw[aB,aM,ae,aj];have o1:∀i,((ps.take i).foldl oj rC).length=8:=λi=>by rw[jK _ uU];rfl
 refine ak (λc=>?_) (λc=>?_)
 ·have F0:i < ps.length:=by grind
  obtain⟨p,hx⟩:∃x,ps[i]?=some x:=⟨_,aa5 F0⟩
  have p1:=hO.ok p (abb hx);have⟨a,cs,e1,e2,e3⟩:=r0.index BK (k:=.i64) hx;obtain rfl:cs=ND p:=e3;have e2:ah TE mm 69 a=some (.agg (ND p).toArray):=e2;rw[e1,ae,e2,ae];refine av λm16 L0 s0 N0=>?_;refine aC WX s0 rfl rfl rfl λm17 O0 u0 Q0=>?_;have g17:m17.get mm.n=.cells (ND p) 69 none:=u0;have v0:Ext mm m17:=⟨by omega,by grind⟩
  have n17:=v0.n;have⟨q0,q1⟩:=ppf g17;have⟨i0,i1⟩:=OB (b:=mm.n) (o:=0);have e0:=v0.cells gT;rw[i1,ae,q1,ae,Gi (by omega),ae,pE e0 (by grind),ae,i0,ae,q0,ae,P0 (by omega),ae,Sh (h8.getD _) (BU (by omega)),ae,ae];refine MZ e0 (by grind) λG0 y0 d0 z0=>?_;rw[aQ,ae,wrap64 (by omega) (by omega)];refine⟨i+1,by omega,rfl,by omega,by omega,by grind,by omega,?_,?_⟩;·rw[AV oj ps rC hx];exact d0
  rw[AV oj ps rC hx];exact h8.pair (by omega)
 obtain rfl:i=ps.length:=by
  grind
 rw[abR]at gT h8;clear r0 hi;rw[(AF (gO H)).1,ae];have r1:∀k,((List.range k).foldl (oh n) (qL ps)).length=8:=λk=>by rw[jK _ (λt x=>uS n t x),sE]
 refine Lp.intro (γ:=Nat) (λk=>n-k) (λk vs mm lo=>vs=[.int .i64 k]/\k<=n/\m.n<=lo/\(∀c,c < m2.n->mm.get c=m3.get c)/\m3.n<=mm.n/\mm.get m2.n=.cells (vN ((List.range k).foldl (oh n) (qL ps))) 120 none/\B8 ((List.range k).foldl (oh n) (qL ps))) 0 ⟨rfl,abh _,a0,H,b0,gT,h8⟩ ?_;clear H b0 gT h8 a0;rintro k vs ma fS ⟨rfl,hk,a0,H,b0,gT,h8⟩;rw[aB,aM,ae,aj];refine ak (λc=>?_) (λc=>?_)
 ·have u1:k < n:=by grind
  rw[(AF (gO H)).1,ae];obtain⟨t1,h0⟩:∃t,t=(List.range k).foldl (oh n) (qL ps):=⟨_,rfl⟩
  have H0:t1.length=8:=by grind
  rw[<-h0]at gT h8;have v1:∀b,((List.range b).foldl (sP k) t1).length=8:=λb=>by rw[jK _ (λt x=>yr k t x),H0]
  refine Lp.intro (γ:=Nat) (λb=>n-b) (λb vs mm lo=>vs=[.int .i64 b]/\b<=n/\m.n<=lo/\(∀c,c < m2.n->mm.get c=m3.get c)/\m3.n<=mm.n/\mm.get m2.n=.cells (vN ((List.range b).foldl (sP k) t1)) 120 none/\B8 ((List.range b).foldl (sP k) t1)) 0 ⟨rfl,abh _,a0,H,b0,gT,h8⟩ ?_;clear H b0 gT h8 a0;rintro b vs mb I0 ⟨rfl,hb,a0,H,b0,gT,h8⟩;rw[aB,aM,ae,aj];refine ak (λc=>?_) (λc=>?_)
  ·have w1:b < n:=by grind
   obtain⟨t2,j0⟩:∃t,t=(List.range b).foldl (sP k) t1:=⟨_,rfl⟩
   have y1:t2.length=8:=by grind
   rw[<-j0]at gT h8;refine aW (λvs mm lo=>vs=[]/\m.n<=lo/\(∀c,c < m2.n->mm.get c=m3.get c)/\m3.n<=mm.n/\mm.get m2.n=.cells (vN (sP k t2 b)) 120 none) (λQ hQ=>?_) ?_
   ·rw[Gi (i:=b) (by omega),ae,pE gT (by omega),ae,ES (by omega),ae,zB (acR (adu _ _) (h8.getD b)),ae,aS,ae,aj,xM];unfold sP at hQ;refine ak (λe=>?_) (λe=>hQ _ _ _ ⟨rfl,a0,H,b0,by grind⟩);rw[abe e]at hQ;rw[ae,pE gT (i:=b) (by omega),ae,Gi (i:=k) (by omega),ae,pE gT (i:=k) (by omega),ae,Sh (h8.getD b) (h8.getD k),ae,ae];exact MZ gT (by omega) λG0 y0 d0 z0=>hQ _ _ _ ⟨rfl,by omega,by grind,by omega,d0⟩
   rintro _ mc z1 ⟨rfl,a1,a2,a3,a4⟩;rw[aQ,ae,wrap64 (by omega) (by omega)];refine⟨b+1,by omega,rfl,by omega,a1,a2,a3,?_,?_⟩;·rw[nQ,<-j0];exact a4
   rw[nQ,<-j0];exact h8.row k b
  obtain rfl:b=n:=by
   grind
  rw[aQ,ae,wrap64 (by omega) (by omega)];refine⟨k+1,by omega,rfl,by omega,a0,H,b0,?_,?_⟩;·rw[nQ,<-h0];exact gT
  rw[nQ,<-h0];exact h8
 obtain rfl:k=n:=by
  grind
 have gT:ma.get m2.n=.cells (vN (qN k ps)) 120 none:=gT;have h8:B8 (qN k ps):=h8;rw[(AF (gO H)).1,ae];refine Lp.intro (γ:=Nat) (λa=>k-a) (λa vs mm lo=>∃z,vs=[z,.int .i64 a]/\a<=k/\ma=mm/\m.n<=lo) 0 ⟨_,rfl,abh _,rfl,a0⟩ ?_;rintro a vs mb I0 ⟨z,rfl,ha,rfl,A0⟩;rw[aB,aB,aM,ae,aj];refine ak (λc=>?_) (λc=>?_)
 ·have A1:a < k:=by grind
  rw[Gi (i:=a) (by omega),ae,pE gT (by rw[eY];omega),ae,ES (by omega),ae,zB (acR (adu _ _) (h8.getD a)),ae,aS,ae,aj,xM];have B0:=Bm hO a;unfold dT at B0;rw[B0,aO,aQ,ae,wrap64 (by omega) (by omega)];exact⟨a+1,by omega,z,rfl,by omega,rfl,A0⟩
 rw[Co gT eY,ae];refine aC uC ((H _ (by omega)).trans gz) (by rw[cU,abH,eY];rfl) (by rw[cU,abH,abH,eY];rfl) (by rw[cU];exact qk) λJ0 b1 C0 c1=>?_;have K0:J0.get m1.n=.cells (vN (qN k ps)) 120 none:=C0;rw[Co K0 eY,ae];exact⟨rfl,by omega⟩
theorem tg(hX:cC X){n:Nat}{ps:List (Nat×Nat)}{pv:aeM}(hO:De n ps)(hp:Sl m ps pv):C X (.func 50) [HH n pv] m m.n (.tuple #[SJ (qN n ps),aeR]) m:=by
 refine Cl.cd (hX.no _ rfl) (aa3 func50) rfl Pz ?_;rw[F50];dsimp only[δ,θ,ι,ξ,ο,ρ,ς,υ,φ,χ,ψ,ω];refine av λm1 j0 b0 k0=>?_;refine av λm2 l0 d0 e0=>?_;have g0:Ext m m2:=⟨by omega,by grind⟩
 have g1:m2.get m.n=.cells [aeP n,pv] 75 none:=by rw[e0 _ (by omega)];exact b0
 have gz:m2.get m1.n=.cells (vN rC) 120 none:=d0;have H:=hp.aF g0;unfold ptrTo;rw[(AF g1).2.2,ae];refine aE (FV hX hO H) ?_;rw[bj,ae,aj];show iW false _ _;rw[aO,(AF g1).2.2,ae];refine aE (FW hX hO H) ?_;rw[aH,aH];simp only[aa8,aa7,ae];refine aC uC gz (by rw[cU,abH,eY];rfl) (by rw[cU,abH,abH,eY];rfl) (by rw[cU];exact qk) λm18 h0 a0 i0=>?_;have g18:m18.get m1.n=.cells (vN (qN n ps)) 120 none:=a0;rw[Co g18 eY,ae];exact⟨rfl,by omega⟩
theorem JV(hX:cC X){n:Nat}{ps:List (Nat×Nat)}{pv:aeM}(hO:De n ps)(hp:Sl m ps pv):C X (.func 53) [HH n pv] m m.n aeR m:=by refine Cl.cd (hX.no _ rfl) (aa3 func53) rfl rfl ?_;rw[F53];dsimp only[δ,ι,ξ,ρ,ς,υ,φ,χ,ψ];refine av λm1 d0 H a0=>?_;have g1:m1.get m.n=.cells [aeP n,pv] 75 none:=H;unfold ptrTo;rw[(AF g1).2.2,ae];refine aE (tg hX hO (hp.aF ⟨by omega,a0⟩)) ?_;rw[aH,aH];simp only[aa8,aa7,ae];refine av λm8 e0 b0 g0=>?_;refine aC uC b0 (by rw[cU,abH,eY];rfl) (by rw[cU,abH,eY];rfl) (by rw[cU];exact qk) λm9 h0 i0 j0=>?_;exact⟨rfl,by omega⟩
theorem B8.cl{n:Nat}{ps:List (Nat×Nat)}(h:De n ps):B8 (qN n ps):=by
 intro x H
 have⟨i,hi⟩:=abx H
 have e:(qN n ps).getD i 0=x:=by grind
 have hle:=h.le
 show x < 2 ^ 8
 refine ad7 x λj hj=>?_
 cases hb:x.testBit j with
 |false=>rfl
 |true=>have:=((zo h).bd i j (by unfold dT;rw[e];exact hb)).2;omega
theorem yF(hX:cC X){n:Nat}{ps:List (Nat×Nat)}{pv:aeM}(hO:De n ps)(hp:Sl m ps pv){a b:Nat}(ha:a < n)(hb:b < n):C X (.func 49) [HH n pv,aeP a,aeP b] m m.n (.bool (dT (qN n ps) b a)) m:=by
 refine Cl.cd (hX.no _ rfl) (aa3 func49) rfl rfl ?_;rw[F49];dsimp only[δ,ε,ζ,η,ι,κ,ξ,ρ,ς,υ,φ,χ,ψ];refine av λm1 g0 H a0=>?_;have hle:=hO.le;have g1:m1.get m.n=.cells [aeP n,pv] 75 none:=H;unfold ptrTo;rw[(AF g1).2.2,ae];refine aE (tg hX hO (hp.aF ⟨by omega,a0⟩)) ?_;rw[aH,aH];simp only[aa8,aa7,ae];refine av λm8 h0 b0 i0=>?_;refine aC uC b0 (by rw[cU,abH,eY];rfl) (by rw[cU,abH,eY];rfl) (by rw[cU];exact qk) λm9 j0 d0 k0=>?_;have g9:m9.get m1.n=.cells (vN (qN n ps)) 120 none:=d0;have gO:m9.get m.n=.cells [aeP n,pv] 75 none:=by grind
 refine aW (λvs mm lo=>vs=[.bool (dT (qN n ps) b a)]/\m.n<=lo) (λQ hQ=>?_) ?_
 ·rw[aj,bL,ko,aA,cB,ae,aj,abl (by omega),bL,qz,aA,ee,ae,(AF gO).1,ae,aM,ae,aj,abl (by omega),bL];rw[Gi (i:=b) (by omega),ae,pE g9 (by rw[eY];omega),ae,ES (by omega),ae,zB (acR (adu _ _) ((B8.cl hO).getD b)),ae,aS,ae,xM];exact hQ _ _ _ ⟨rfl,by omega⟩
 rintro _ mm lo ⟨rfl,e0⟩;rw[aB];exact⟨rfl,e0⟩
abbrev ri(l:List Nat):List Int:=l.map λx:Nat=>(x:Int)
theorem Hs{l:List Nat}{n x:Nat}(h:∀y∈l,y < n)(H:n<=8):rH l < 256:=by have:=QT h;exact acL this (adR (n:=2) (by decide) H)
theorem DG{n:Nat}{t acc:List Nat}{x:Nat}(H:SB n t):(∀i,(t.getD x 0).testBit i->(rH acc).testBit i)↔BR n t acc x:=by
 rw[ph];constructor
 ·intro h a _ e
  have:=h a e
  rw[pg,adr,abv]at this
  grind
 intro h i e;rw[pg,adr,abv];exact h i (H x i e).2 e
theorem Ai.front{n:Nat}{t a b:List Nat}(h:Ai n t (a++b)):Ai n t a:=
 ⟨(adl.1 h.Qm).1,λx H=>h.lt x (adP _ H),λp x q e a' h1 h2=>h.pre p x (q++b) (by grind) a' h1 h2⟩
theorem yE{x:Int}:aG TE m 26 1 [(0,.int .i64 x)]=some (.slice (some ⟨m.n,0,none⟩) 1 1,m.push (.cells [.int .i64 x] 3 none)):=by kernel_rfl
theorem zE:ur TE 26 Int:=⟨ag.t26,ag.t3,by kernel_rfl,rfl,rfl,by kernel_rfl,by decide,rfl⟩
theorem NO(hX:cC X){n:Nat}{ps:List (Nat×Nat)}(hO:De n ps):
  ∃r m',C X (.func 111) [aeP n,SJ (qN n ps)] m m.n r m'/\Ext m m'/\Ow m.n m' (ri (iJ n (qN n ps) n [])) r:=by
 have key:=Cl.iX (E:=TE) (X:=X) (f:=111) (args:=[aeP n,SJ (qN n ps)]) (m:=m) (R:=λrv m' bb=>bb=m.n/\Ext m m'/\Ow m.n m' (ri (iJ n (qN n ps) n [])) rv) (hX.no _ rfl) (aa3 func111) rfl ?_
 ·obtain⟨rv,m',bb,hc,rfl,hx,hr⟩:=key;exact⟨rv,m',hc,hx,hr⟩
 have hle:=hO.le;have j0:=zo hO;have hlen:=eY (n:=n) (ps:=ps);have h8:=B8.cl hO;have q0:=Bm hO
 have H:∀R:aeN->M->Nat->Prop,(∀(v:aeM) (m':M) (lo:Nat),m.n<=lo->Ext m m'->Ow m.n m' (ri (iJ n (qN n ps) n [])) v->R [v] m' lo)->dE TE (aL TE X) f111 [aeP n,SJ (qN n ps)] m R:=by
  intro R hR;generalize qN n ps=t at*;rw[aaH];dsimp only[δ,ζ,η,κ,ν,ρ,υ,φ];refine av λm1 B0 k0 l0=>?_;have gT:m1.get m.n=.cells (vN t) 120 none:=k0;have r0:Ext m m1:=⟨by omega,l0⟩
  have C0:m.n < m1.n:=by omega
  clear k0 l0;unfold ptrTo;refine Lp.intro (γ:=List Nat) (λacc=>n-acc.length) (λacc vs mm lo=>∃v,vs=[v,aeP (rH acc:Nat)]/\acc.length<=n/\m.n<=lo/\Ext m1 mm/\Ow m1.n mm (ri acc) v/\Ai n t acc/\iJ n t (n-acc.length) acc=iJ n t n []) [] ⟨_,rfl,abh _,aa4 _,.refl,.nil,.nil,rfl⟩ ?_;rintro acc vs mm lo ⟨v,rfl,D0,d0,b0,g0,n0,a0⟩;have s0:(ri acc).length=acc.length:=abH _;rw[aB,aB,g0.sl.len dV,s0,aA,aM,ae,aj];refine ak (λc=>?_) (λc=>?_)
  ·have u0:acc.length < n:=by grind
   have h0:rH acc < 256:=Hs (x:=0) n0.lt hle;refine Lp.intro (γ:=Nat) (λx=>n-x) (λx vs ma lo=>vs=[v,aeP (rH acc:Nat),aeP x]/\x<=n/\mm=ma/\m.n<=lo/\∀y,y < x->SY n t acc y=false) 0 ⟨rfl,abh _,rfl,d0,λy hy=>by omega⟩ ?_;rintro x vs _ fS ⟨rfl,hx,rfl,e0,i0⟩;rw[aB,aB,aB,aM,ae,aj];refine ak (λc=>?_) (λc=>?_)
   ·have E0:x < n:=by grind
    refine aW (λvs ma lo=>vs=[.bool (SY n t acc x)]/\mm=ma/\m.n<=lo) (λQ hQ=>?_) ?_
    ·rw[ES (by omega),ae,zB (acR (adu _ _) h0),ae,aS,ae,aj,PZ,pg]
     unfold SY at hQ
     refine ak (λe=>?_) (λe=>hQ _ _ _ ⟨by grind,rfl,e0⟩)
     rw[Gi (i:=x) (by omega),ae,pE (b0.cells gT) (i:=x) (by omega),ae]
     have⟨z,hz,v0⟩:=ET (t:=3) (h8.getD x) h0
     rw[hz,ae,aS,ae]
     refine hQ _ _ _ ⟨?_,rfl,e0⟩
     rw[e,abG]
     congr 2
     rw[adv,abv,<-DG j0.bd,<-v0]
     omega
    rintro _ _ F0 ⟨rfl,rfl,o0⟩;rw[aB,aj];refine ak (λe=>?_) (λe=>?_)
    ·refine eT (T:=26) (x:=(x:Int)) zE rfl g0 (by have:=b0.n;omega) (by grind) yE (λ_=>rfl) λr' G0 w2 n2 k2 H0 l2=>?_;rw[P0 (by omega),ae,Sh h0 (BU (by omega)),ae]
     have p0:vZ n t acc=some x:=by
      unfold vZ;refine pJ (i:=x) (by grind) e λj y hj hy=>?_;have:j < n:=by omega
      rw[adY this]at hy;cases hy;exact i0 j hj
     have⟨p1,p2,p3⟩:=uY p0;refine⟨acc++ [x],by grind,r',by rw[uJ],by grind,by grind,⟨by have:=b0.n;omega,λc hc=>by rw[k2 c hc,b0.get c hc]⟩,?_,n0.push p1 p2 p3,?_⟩;·unfold ri;rw[abM];exact w2
     rw[<-a0,abO,aem];obtain⟨f,hf⟩:∃f,n-acc.length=f+1:=⟨n-acc.length-1,by omega⟩
     rw[hf,show n-(acc.length+1)=f by omega];show _=match vZ n t acc with |some x=>iJ n t f (acc++ [x]) |none=>acc
     rw[p0]
    rw[aQ,ae,wrap64 (by omega) (by omega)];refine⟨x+1,by omega,rfl,by omega,rfl,o0,λy hy=>?_⟩;by_cases he:y=x;·rw[he];exact e
    exact i0 y (by omega)
   exfalso
   obtain rfl:x=n:=by have:¬(x:Int)< (n:Int):=aa6 c;omega
   have⟨z,y0,z0⟩:=missing u0;have⟨y,hy⟩:=AG j0.tr q0 y0 z0;have A0:SY x t acc y:=by unfold vZ at hy;exact adO hy
   have:=i0 y (uY hy).1;rw[A0]at this;cases this
  have hn:acc.length=n:=by have:¬(acc.length:Int)< (n:Int):=aa6 c;omega
  rw[hn,aea]at a0;have a0:acc=iJ n t n []:=a0;refine hR _ _ _ d0 (r0.trans b0) ?_;rw[<-a0];exact g0.mono (by omega)
 refine H _ λv m' lo d0 hx hr=>FM (Q:=m.n=m.n) rfl hr d0 hx
theorem NS(hX:cC X){n:Nat}{ps:List (Nat×Nat)}{pv:aeM}(hO:De n ps)(hp:Sl m ps pv):
  ∃r m',C X (.func 48) [HH n pv] m m.n (.tuple #[r,aeP 0]) m'/\Ext m m'/\Sl m' (ri (iJ n (qN n ps) n [])) r:=by
 have key:=Cl.iX (E:=TE) (X:=X) (f:=48) (args:=[HH n pv]) (m:=m) (R:=λrv m' bb=>bb=m.n/\Ext m m'/\∃r,rv=.tuple #[r,aeP 0]/\Sl m' (ri (iJ n (qN n ps) n [])) r) (hX.no _ rfl) (aa3 func48) rfl ?_
 ·obtain⟨rv,m',bb,hc,rfl,hx,r,rfl,hr⟩:=key;exact⟨r,m',hc,hx,hr⟩
 rw[F48];dsimp only[δ,ε,ι,ξ,ο,ρ,ς,υ,φ,χ,ψ,ω];refine av λm1 k0 b0 d0=>?_;have H:Ext m m1:=⟨by omega,d0⟩
 have g1:m1.get m.n=.cells [aeP n,pv] 75 none:=b0;unfold ptrTo;rw[(AF g1).2.2,ae];refine aE (tg hX hO (hp.aF H)) ?_;rw[aH,aH];simp only[aa8,aa7,ae];refine av λm8 l0 e0 n0=>?_;refine aC uC e0 (by rw[cU,abH,eY];rfl) (by rw[cU,abH,eY];rfl) (by rw[cU];exact qk) λm9 o0 g0 p0=>?_;have g9:m9.get m1.n=.cells (vN (qN n ps)) 120 none:=g0;have x9:Ext m1 m9:=⟨by omega,by grind⟩
 have n9:=x9.n;rw[bj,ae,aj];show iW false _ _;rw[aO,ee,ae,(AF (x9.cells g1)).1,ae,Co g9 eY,ae];have⟨r,m16,h0,a0,i0⟩:=NO (m:=m9) hX hO;refine aE h0 ?_;have hs:=i0.sl;have j0:=H.trans (x9.trans a0);have n16:=a0.n;rcases hs with⟨rfl,e⟩ |⟨b,o,c,bc,g,rfl,hr⟩;·exact .inl ⟨rfl,by omega,trivial,.refl,_,rfl,by rw[e];exact .nil⟩
 exact .inr ⟨.inl rfl,by omega,j0,_,rfl,.inr ⟨b,o,c,bc,g,rfl,hr⟩⟩
theorem Ko(hX:cC X){n:Nat}{ps:List (Nat×Nat)}{pv:aeM}(hO:De n ps)(hp:Sl m ps pv){l:List Nat}{lv:aeM}(hl:Sl m (ri l) lv)(d0:Ai n (qN n ps) l)(z0:l.length=n):
  C X (.func 17) [HH n pv,lv] m m.n aeR m:=by
 refine Cl.cd (hX.no _ rfl) (aa3 func17) rfl rfl ?_;have hle:=hO.le;have h8:=B8.cl hO;have j0:=zo hO;rw[F17];dsimp only[δ,ε,ζ,η,ι,κ,ξ,ο,ρ,ς,υ,φ,χ,ψ];refine av λm1 A0 k0 l0=>?_;have e0:Ext m m1:=⟨by omega,l0⟩
 have g1:m1.get m.n=.cells [aeP n,pv] 75 none:=k0;unfold ptrTo;rw[(AF g1).2.2,ae];refine aE (tg hX hO (hp.aF e0)) ?_;rw[aH,aH];simp only[aa8,aa7,ae];refine av λm8 B0 n0 C0=>?_;refine aC uC n0 (by rw[cU,abH,eY];rfl) (by rw[cU,abH,eY];rfl) (by rw[cU];exact qk) λm9 D0 o0 E0=>?_;have g9:m9.get m1.n=.cells (vN (qN n ps)) 120 none:=o0;have x9:Ext m1 m9:=⟨by omega,by grind⟩
 have gO:=x9.cells g1;have a0:=hl.aF (e0.trans x9);have p0:(ri l).length=n:=by grind
 refine aW (λvs mm lo=>vs=[aeS]/\m9=mm/\m.n<=lo) (λQ hQ=>?_) ?_
 ·rw[bj,ae,aj];show iW false _ _;rw[aO,a0.len dV,aA,ee,ae,(AF gO).1,ae,bR,ae];exact hQ _ _ _ ⟨by grind,rfl,by omega⟩
 rintro _ _ lo ⟨rfl,rfl,q0⟩;rw[aB,aj,aO,a0.len dV,aA,p0];refine Lp.intro (γ:=Nat) (λi=>n-i) (λi vs mm lo=>∃z,vs=[z,aeP (rH (l.take i):Nat),aeP i]/\i<=n/\m9=mm/\m.n<=lo) 0 ⟨_,rfl,abh _,rfl,q0⟩ ?_;rintro i vs _ fS ⟨z,rfl,hi,rfl,H⟩;rw[aB,aB,aB,aM,ae,aj];refine ak (λc=>?_) (λc=>⟨rfl,H⟩);have F0:i < n:=by grind
 obtain⟨x,hx⟩:∃x,l[i]?=some x:=⟨_,aa5 (by omega)⟩
 have r0:(ri l)[i]?=some (x:Int):=by grind
 have⟨p,cs,e1,e2,e3⟩:=a0.index dV (k:=.i64) r0;obtain rfl:cs=[aeP (x:Int)]:=e3;have e2:ah TE m9 3 p=some (aeP (x:Int)):=e2
 have g0:Ai n (qN n ps) (l.take i++ [x]):=by
  have:l.take i++ [x]++l.drop (i+1)=l:=by have:=ab5 (i+1) l;rw[abt,hx]at this;exact this
  rw[<-this]at d0;exact d0.front
 have⟨s0,G0,u0,v0⟩:=g0.TM;have b0:rH (l.take i)< 256:=Hs (x:=0) s0.lt hle;rw[e1,ae,e2,ae];refine aW (λvs mm lo=>vs=[aeS]/\m9=mm/\m.n<=lo) (λQ hQ=>?_) ?_
 ·have h0:(rH (l.take i)).testBit x=false:=by rw[pg,adr,abk u0]
  rw[aM,ae,aj,abk (by omega),aO,ee,ae,(AF gO).1,ae,cB,ae,aj,abk (by omega),aO,ES (by omega),ae,zB (acR (adu _ _) b0),ae,aS,ae,aj,xM,h0,aO];rw[Gi (i:=x) (by omega),ae,pE g9 (i:=x) (by rw[eY];omega),ae];have⟨z,hz,y0⟩:=ET (t:=3) (h8.getD x) b0;have:z=0:=y0.2 ((DG j0.bd).2 v0);subst this;rw[hz,ae,bR,ae];exact hQ _ _ _ ⟨rfl,rfl,H⟩
 rintro _ _ H0 ⟨rfl,rfl,i0⟩;rw[aB,aj,aO,P0 (by omega),ae,Sh b0 (BU (by omega)),ae,aQ,ae,wrap64 (by omega) (by omega)];refine⟨i+1,by omega,z,?_,by omega,rfl,i0⟩;rw[abt,hx];show _=[z,aeP ((rH (l.take i++ [x]):Nat):Int),_]
 rw[uJ];rfl
end
section
section
variable {X:aK}{x0 x1 x2:aeM}{m:M}{R:aeN->M->Nat->Prop}{W:Words}
theorem F96:dE TE (aL TE X) f96 [x0,x1,x2] m R=jn (λa=>η .leq 3 x1 x0 λb=>aR b (η .leq 3 x0 x2 λb=>a [b] m m.n) (a [aeS] m m.n)) (λa b c=>un a λa _=>R [a] b c):=by kernel_rfl
theorem aaE:dE TE (aL TE X) f114 [x0] m R=ai (eU x0) λa=>ε 62 a 0 λa=>δ m 3 a λa=>η .eql 3 a (φ 1) λb=>aR b (ai (eU x0) λa=>ε 62 a 1 λa=>ε 60 a 0 λa=>ai (eU x0) λb=>ε 62 b 1 λb=>ε 60 b 1 λb=>ai (eU x0) λc=>ε 62 c 1 λc=>ε 60 c 2 λc=>ai (eU x0) λd=>ε 62 d 1 λd=>ε 60 d 4 λd=>ai (eU x0) λf=>ε 62 f 1 λf=>ε 60 f 5 λf=>ν m 192 5 [(0,a),(1,b),(2,c),(3,d),(4,f)] λa b=>R [a] b m.n) (η .eql 3 a (φ 4) λb=>aR b (ai (eU x0) λa=>ε 62 a 2 λa=>ai (eU x0) λb=>ε 62 b 5 λb=>ν m 192 2 [(0,a),(1,b)] λa b=>R [a] b m.n) (jn (λb=>η .eql 3 a (φ 5) λc=>aR c (b [c] m m.n) (η .eql 3 a (φ 8) λa=>b [a] m m.n)) (λb c d=>un b λb _=>aR b (ai (eU x0) λa=>ε 62 a 2 λa=>ai (eU x0) λb=>ε 62 b 4 λb=>ν c 192 2 [(0,a),(1,b)] λa b=>R [a] b d) (η .eql 3 a (φ 9) λa=>aR a (ai (eU x0) λa=>ε 62 a 2 λa=>ai (eU x0) λb=>ε 62 b 3 λb=>ai (eU x0) λf=>ε 62 f 5 λf=>ν c 192 3 [(0,a),(1,b),(2,f)] λa b=>R [a] b d) (ai (eU x0) λa=>ε 62 a 2 λa=>ν c 192 1 [(0,a)] λa b=>R [a] b d))))):=by kernel_rfl
theorem aaD:dE TE (aL TE X) f115 [x0,x1] m R=ρ m x0 60 λa=>ρ a x1 60 λb=>jn (λc=>ε 60 (υ m) 0 λd=>δ b 3 d λd=>ε 60 (υ a) 0 λf=>δ b 3 f λf=>η .eql 3 d f λd=>aR d (ε 60 (υ m) 1 λd=>δ b 3 d λd=>ε 60 (υ a) 1 λf=>δ b 3 f λf=>η .eql 3 d f λd=>aR d (ε 60 (υ m) 2 λd=>δ b 3 d λd=>ε 60 (υ a) 2 λf=>δ b 3 f λf=>η .eql 3 d f λd=>aR d (ε 60 (υ m) 4 λd=>δ b 3 d λd=>ε 60 (υ a) 4 λf=>δ b 3 f λf=>η .eql 3 d f λd=>aR d (ε 60 (υ m) 5 λd=>δ b 3 d λd=>ε 60 (υ a) 5 λf=>δ b 3 f λf=>η .eql 3 d f λd=>aR d (ε 60 (υ m) 3 λd=>δ b 58 d λd=>ε 60 (υ a) 3 λa=>δ b 58 a λa=>χ X 168 [d,a] b λa b d=>c [a] b (min m.n d)) (c [aeS] b m.n)) (c [aeS] b m.n)) (c [aeS] b m.n)) (c [aeS] b m.n)) (c [aeS] b m.n)) (λa b c=>un a λa _=>R [a] b c):=by kernel_rfl
theorem F51:dE TE (aL TE X) f51 [x0] m R=ρ m x0 62 λa=>ε 62 (υ m) 0 λb=>δ a 3 b λb=>χ X 96 [b,φ 1,φ 9] a λa b c=>ο .not a λa=>aR a (R [aeS] b (min m.n c)) (ε 62 (υ m) 0 λa=>δ b 3 a λa=>θ 62 [(0,a)] λa=>ς b [φ 0,φ 0,φ 0,φ 0,aeQ,φ 0,φ 0,φ 0,φ 0,φ 0,φ 0] 62 λd=>ι d 62 (υ b) a λa d=>χ X 114 [υ m] a λa f g=>χ X 114 [υ b] f λf h i=>κ h .len [192] [f] λj _=>Lp (λc d g h=>un d λd _=>η .lss 3 d j λi=>aR i (ζ 192 f d λb=>δ g 195 b λb=>ζ 192 a d λa=>δ g 195 a λa=>ai (eU a) λa=>δ g 3 a λa=>ai (eU b) λb=>ι g 3 b a λa b=>η .add 3 d (φ 1) λd=>c [d] a (min h b)) (jn (λa=>ε 62 (υ m) 0 λc=>δ g 3 c λc=>η .eql 3 c (φ 1) λc=>aR c (ε 62 (υ m) 1 λc=>ε 60 c 3 λc=>δ g 58 c λc=>ε 62 (υ b) 1 λb=>ε 60 b 3 λb=>ι g 58 b c λb c=>a [] b (min h c)) (a [] g h)) (λ_ a c=>jn (λd=>ε 62 (υ b) 2 λf=>δ a 3 f λf=>ε 62 (υ m) 2 λg=>δ a 3 g λg=>η .neq 3 f g λf=>aR f (d [aeR] a c) (ε 62 (υ b) 3 λf=>δ a 3 f λf=>ε 62 (υ m) 3 λg=>δ a 3 g λg=>η .neq 3 f g λf=>aR f (d [aeR] a c) (ε 62 (υ b) 4 λf=>δ a 3 f λf=>ε 62 (υ m) 4 λg=>δ a 3 g λg=>η .neq 3 f g λf=>aR f (d [aeR] a c) (ε 62 (υ b) 5 λf=>δ a 3 f λf=>ε 62 (υ m) 5 λg=>δ a 3 g λg=>η .neq 3 f g λf=>aR f (d [aeR] a c) (ε 62 (υ b) 1 λb=>δ a 60 b λb=>ε 62 (υ m) 1 λf=>δ a 60 f λf=>χ X 115 [b,f] a λa b f=>ο .not a λa=>d [a] b (min c f)))))) (λa b c=>un a λa _=>aR a (R [aeS] b c) (ε 62 (υ m) 0 λa=>δ b 3 a λa=>η .eql 3 a (φ 1) λa=>aR a (jn (λa=>ε 62 (υ m) 1 λd=>δ b 60 d λd=>χ X 116 [d] b λb d f=>aR b (ε 62 (υ m) 1 λb=>ε 60 b 1 λb=>δ d 3 b λb=>χ X 96 [b,φ 6,φ 8] d λb d g=>a [b] d (ψ c f g)) (a [aeS] d (min c f))) (λa b c=>un a λa _=>R [a] b c)) (jn (λa=>ε 62 (υ m) 2 λd=>δ b 3 d λd=>χ X 96 [d,φ 0,φ 99] b λb d f=>aR b (ε 62 (υ m) 3 λb=>δ d 3 b λb=>χ X 96 [b,φ 0,φ 99] d λb d g=>a [b] d (ψ c f g)) (a [aeS] d (min c f))) (λa b c=>un a λa _=>jn (λd=>aR a (ε 62 (υ m) 4 λa=>δ b 3 a λa=>χ X 96 [a,φ (-2),φ 7] b λa b f=>aR a (ε 62 (υ m) 5 λa=>δ b 3 a λa=>χ X 96 [a,φ 0,φ 7] b λa b g=>aR a (ε 62 (υ m) 0 λa=>δ b 3 a λa=>η .neq 3 a (φ 9) λa=>aR a (d [aeR] b (ψ c f g)) (ε 62 (υ m) 2 λa=>δ b 3 a λa=>ε 62 (υ m) 3 λh=>δ b 3 h λh=>η .lss 3 a h λa=>d [a] b (ψ c f g))) (d [aeS] b (ψ c f g))) (d [aeS] b (min c f))) (d [aeS] b c)) (λa b c=>un a λa _=>R [a] b c)))))))) [φ 0] h (Γ m.n c d g i)):=by kernel_rfl
theorem F98:dE TE W f98 [x0,x1,x2] m R=W.aP (aw TE m .len [34] [x0]) λa _=>W.Lp (λb c d f=>W.un c λc g=>W.un g λg _=>W.ai (az TE .lss 3 g a) λa=>aR a (W.ai (an TE 34 x0 g) λa=>W.ai (ah TE d 113 a) λa=>W.bE (M.push d (.cells [.int .i64 0,.int .i64 0,.int .i64 0,aeQ,.int .i64 0,.int .i64 0,aeQ] 113 none)) λh=>W.aP (aD TE h 113 (ptrTo d.n) a) λa h=>W.jn (λb=>W.ai (ah TE a 113 (ptrTo d.n)) λc=>ia x2 λi j k=>W.bh i (j.toList++([c]++k.toList)) a λa c i=>W.ai (cZ .not a) λa=>aR a (b [aeR] c (min (min f h) i)) (W.ai (az TE .gtr 3 g (.int .i64 0)) λa=>aR a (W.ai (az TE .sub 3 g (.int .i64 1)) λa=>W.ai (an TE 34 x0 a) λa=>W.ai (ah TE c 113 a) λa=>W.ai (ah TE c 113 (ptrTo d.n)) λd=>ia x1 λg j k=>W.bh g (j.toList++([a,d]++k.toList)) c λa c d=>W.ai (az TE .geq 3 a (.int .i64 0)) λa=>b [a] c (min (min (min f h) i) d)) (b [aeS] c (min (min f h) i)))) (λa d f=>W.un a λa _=>aR a (R [aeS] d f) (W.ai (az TE .add 3 g (.int .i64 1)) λa=>b [c,a] d f))) (R [aeR] d f)) [aeS,.int .i64 0] m m.n:=by kernel_rfl
theorem aaL:dE TE W f100 [x0,x1,x2] m R=W.aP (aw TE m .len [35] [x0]) λa _=>W.Lp (λb c d f=>W.un c λc g=>W.un g λg _=>W.ai (az TE .lss 3 g a) λa=>aR a (W.ai (an TE 35 x0 g) λa=>W.ai (ah TE d 53 a) λa=>W.bE (M.push d (.cells [.int .i64 0,.int .i64 0] 53 none)) λh=>W.aP (aD TE h 53 (ptrTo d.n) a) λa h=>W.jn (λb=>W.ai (ah TE a 53 (ptrTo d.n)) λc=>ia x2 λi j k=>W.bh i (j.toList++([c]++k.toList)) a λa c i=>W.ai (cZ .not a) λa=>aR a (b [aeR] c (min (min f h) i)) (W.ai (az TE .gtr 3 g (.int .i64 0)) λa=>aR a (W.ai (az TE .sub 3 g (.int .i64 1)) λa=>W.ai (an TE 35 x0 a) λa=>W.ai (ah TE c 53 a) λa=>W.ai (ah TE c 53 (ptrTo d.n)) λd=>ia x1 λg j k=>W.bh g (j.toList++([a,d]++k.toList)) c λa c d=>W.ai (az TE .geq 3 a (.int .i64 0)) λa=>b [a] c (min (min (min f h) i) d)) (b [aeS] c (min (min f h) i)))) (λa d f=>W.un a λa _=>aR a (R [aeS] d f) (W.ai (az TE .add 3 g (.int .i64 1)) λa=>b [c,a] d f))) (R [aeR] d f)) [aeS,.int .i64 0] m m.n:=by kernel_rfl
theorem aaJ:dE TE W f102 [x0,x1,x2] m R=W.aP (aw TE m .len [36] [x0]) λa _=>W.Lp (λb c d f=>W.un c λc g=>W.un g λg _=>W.ai (az TE .lss 3 g a) λa=>aR a (W.ai (an TE 36 x0 g) λa=>W.ai (ah TE d 109 a) λa=>W.bE (M.push d (.cells [.int .i64 0,.int .i64 0,.int .i64 0] 109 none)) λh=>W.aP (aD TE h 109 (ptrTo d.n) a) λa h=>W.jn (λb=>W.ai (ah TE a 109 (ptrTo d.n)) λc=>ia x2 λi j k=>W.bh i (j.toList++([c]++k.toList)) a λa c i=>W.ai (cZ .not a) λa=>aR a (b [aeR] c (min (min f h) i)) (W.ai (az TE .gtr 3 g (.int .i64 0)) λa=>aR a (W.ai (az TE .sub 3 g (.int .i64 1)) λa=>W.ai (an TE 36 x0 a) λa=>W.ai (ah TE c 109 a) λa=>W.ai (ah TE c 109 (ptrTo d.n)) λd=>ia x1 λg j k=>W.bh g (j.toList++([a,d]++k.toList)) c λa c d=>W.ai (az TE .geq 3 a (.int .i64 0)) λa=>b [a] c (min (min (min f h) i) d)) (b [aeS] c (min (min f h) i)))) (λa d f=>W.un a λa _=>aR a (R [aeS] d f) (W.ai (az TE .add 3 g (.int .i64 1)) λa=>b [c,a] d f))) (R [aeR] d f)) [aeS,.int .i64 0] m m.n:=by kernel_rfl
theorem F99:dE TE (aL TE X) f99 [x0,x1] m R=ρ m x0 113 λa=>ρ a x1 113 λb=>ε 113 (υ m) 0 λc=>ε 60 c 0 λc=>δ b 3 c λc=>ε 113 (υ a) 0 λa=>ε 60 a 0 λa=>δ b 3 a λa=>χ X 59 [c,a] b λa b c=>R [a] b (min m.n c):=by kernel_rfl
theorem aaK:dE TE (aL TE X) f101 [x0,x1] m R=ρ m x0 53 λa=>ρ a x1 53 λb=>ε 53 (υ m) 0 λc=>δ b 3 c λc=>ε 53 (υ a) 0 λd=>δ b 3 d λd=>χ X 59 [c,d] b λc d f=>(b.n<=f)/\(ε 53 (υ m) 1 λb=>δ d 3 b λb=>ε 53 (υ a) 1 λa=>δ d 3 a λa=>χ X 59 [b,a] d λa b d=>ν b 26 2 [(0,c),(1,a)] λa b=>χ X 80 [a] b λa b c=>R [a] b (ω m.n f d c)):=by kernel_rfl
theorem aaI:dE TE (aL TE X) f103 [x0,x1] m R=ρ m x0 109 λa=>ρ a x1 109 λb=>ε 109 (υ m) 0 λc=>δ b 3 c λc=>ε 109 (υ a) 0 λd=>δ b 3 d λd=>χ X 59 [c,d] b λc d f=>(b.n<=f)/\(ε 109 (υ m) 1 λb=>δ d 3 b λb=>ε 109 (υ a) 1 λa=>δ d 3 a λa=>χ X 59 [b,a] d λa b d=>ν b 26 2 [(0,c),(1,a)] λa b=>χ X 80 [a] b λa b c=>R [a] b (ω m.n f d c)):=by kernel_rfl
theorem F94:dE TE (aL TE X) f94 [x0,x1] m R=ρ m x0 33 λa=>ρ a x1 3 λb=>ς b [φ 0,φ 0,φ 0,aeQ,φ 0,φ 0] 60 λc=>ε 33 (υ m) 0 λd=>ε 30 d 0 λd=>δ c 28 d λd=>χ X 145 [d,.func (.func 154) #[] #[υ a]] c λa c d=>η .lss 3 a (φ 0) λf=>aR f (θ 60 [] λa=>ι c 60 (υ b) a λa c=>ai (ah TE a 60 (υ b)) λb=>R [b,aeS] a (ψ m.n d c)) (ε 33 (υ m) 0 λf=>ε 30 f 0 λf=>δ c 28 f λf=>ζ 28 f a λa=>δ c 60 a λa=>ι c 60 (υ b) a λa c=>ai (ah TE a 60 (υ b)) λb=>R [b,aeR] a (ψ m.n d c)):=by kernel_rfl
theorem aaf:dE TE (aL TE X) f154 [x0,x1] m R=ρ m x0 60 λa=>ε 60 (υ m) 0 λb=>δ a 3 b λb=>δ a 3 x1 λc=>η .eql 3 b c λb=>R [b] a m.n:=by kernel_rfl
theorem F40:dE TE (aL TE X) f40 [x0] m R=ρ m x0 38 λa=>jn (λb=>ε 38 (υ m) 0 λc=>δ a 33 c λc=>χ X 91 [c] a λa c d=>ο .not a λa=>aR a (b [aeR] c (min m.n d)) (ε 38 (υ m) 1 λa=>δ c 34 a λa=>κ c .len [34] [a] λa _=>η .gtr 3 a (φ 12) λa=>aR a (b [aeR] c (min m.n d)) (ε 38 (υ m) 2 λa=>δ c 35 a λa=>κ c .len [35] [a] λa _=>η .gtr 3 a (φ 60) λa=>aR a (b [aeR] c (min m.n d)) (ε 38 (υ m) 3 λa=>δ c 36 a λa=>κ c .len [36] [a] λa _=>η .gtr 3 a (φ 20) λa=>b [a] c (min m.n d))))) (λa b c=>un a λa _=>aR a (R [aeS] b c) (bE (M.push b (.map [] 0)) λa=>ς a [.map none] 173 λd=>ι d 173 (υ a) (.map (some b.n)) λb d=>ς b [φ 0] 3 λf=>ι f 3 (υ b) (φ 0) λf g=>ς f [.nilFunc] 174 λh=>ι h 174 (υ f) (.func (.func 92) #[] #[υ a,υ b]) λh i=>δ h 174 (υ f) λj=>ε 38 (υ m) 0 λk=>ε 33 k 1 λk=>δ h 31 k λk=>ia j λj l n=>bh TE X j (l.toList++([k]++n.toList)) h λ_ h j=>jn (λk=>ε 38 (υ m) 1 λl=>δ h 34 l λl=>χ X 98 [l,.func (.func 99) #[] #[],.func (.func 93) #[] #[υ f,υ m]] h λf h l=>aR f (ε 38 (υ m) 2 λf=>δ h 35 f λf=>χ X 100 [f,.func (.func 101) #[] #[],.func (.func 95) #[] #[]] h λf h n=>aR f (ε 38 (υ m) 3 λf=>δ h 36 f λf=>χ X 102 [f,.func (.func 103) #[] #[],.func (.func 97) #[] #[]] h λf h o=>aR f (δ h 173 (υ a) λa=>κ h .len [173] [a] λa _=>δ h 3 (υ b) λf=>η .eql 3 a f λa=>aR a (δ h 3 (υ b) λa=>η .leq 3 a (φ 20) λa=>k [a] h (Λ c d g i j l n o)) (k [aeS] h (Λ c d g i j l n o))) (k [aeS] h (Λ c d g i j l n o))) (k [aeS] h (Θ c d g i j l n))) (k [aeS] h (Δ c d g i j l))) (λa b c=>un a λa _=>R [a] b c))):=by kernel_rfl
theorem F92:dE TE (aL TE X) f92 [x0,x1,x2] m R=κ m .len [31] [x0] λa _=>Lp (λb c d f=>un c λc _=>η .lss 3 c a λa=>aR a (ζ 31 x0 c λa=>δ d 137 a λa=>ς d [φ 0,φ 0,φ 0,φ 0,aeS] 137 λg=>ι g 137 (υ d) a λa g=>δ a 173 x1 λh=>ε 137 (υ d) 0 λd=>δ a 3 d λd=>aP (lW TE a 173 h d aeR) λa d=>δ a 3 x2 λh=>η .add 3 h (φ 1) λh=>ι a 3 x2 h λa h=>η .add 3 c (φ 1) λc=>b [c] a (ω f g d h)) (R [] d f)) [φ 0] m m.n:=by kernel_rfl
theorem F93:dE TE (aL TE X) f93 [x0,x1,x2] m R=ρ m x0 113 λa=>δ a 174 x1 λb=>ε 113 (υ m) 1 λc=>δ a 31 c λc=>ia b λb d f=>bh TE X b (d.toList++([c]++f.toList)) a λ_ a b=>ε 38 x2 0 λc=>δ a 33 c λc=>ε 113 (υ m) 0 λd=>ε 60 d 0 λd=>δ a 3 d λd=>χ X 94 [c,d] a λa c d=>ξ a 0 λf=>ξ a 1 λa=>ς c [φ 0,φ 0,φ 0,aeQ,φ 0,φ 0] 60 λg=>ι g 60 (υ c) f λc f=>jn (λg=>ο .not a λa=>aR a (ε 113 (υ m) 0 λa=>δ c 60 a λa=>ν c 28 1 [(0,a)] λa c=>θ 30 [(0,a)] λa=>ε 113 (υ m) 1 λh=>δ c 31 h λh=>θ 33 [(0,a),(1,h)] λa=>χ X 91 [a] c λa c h=>g [a] c (Γ m.n b d f h)) (g [aeS] c (ω m.n b d f))) (λa b c=>un a λa _=>R [a] b c):=by kernel_rfl
theorem F95:dE TE (aL TE X) f95 [x0] m R=ρ m x0 53 λa=>jn (λb=>ε 53 (υ m) 0 λc=>δ a 3 c λc=>χ X 96 [c,φ 0,φ 99] a λa c d=>aR a (ε 53 (υ m) 1 λa=>δ c 3 a λa=>χ X 96 [a,φ (-2),φ 7] c λa c f=>b [a] c (ψ m.n d f)) (b [aeS] c (min m.n d))) (λa b c=>un a λa _=>R [a] b c):=by kernel_rfl
theorem F97:dE TE (aL TE X) f97 [x0] m R=ρ m x0 109 λa=>jn (λb=>ε 109 (υ m) 0 λc=>δ a 3 c λc=>η .geq 3 c (φ 0) λc=>aR c (ε 109 (υ m) 0 λc=>δ a 3 c λc=>ε 109 (υ m) 1 λd=>δ a 3 d λd=>η .lss 3 c d λc=>aR c (ε 109 (υ m) 1 λc=>δ a 3 c λc=>η .leq 3 c (φ 99) λc=>aR c (ε 109 (υ m) 2 λc=>δ a 3 c λc=>χ X 96 [c,φ 0,φ 7] a λa c d=>b [a] c (min m.n d)) (b [aeS] a m.n)) (b [aeS] a m.n)) (b [aeS] a m.n)) (λa b c=>un a λa _=>R [a] b c):=by kernel_rfl
theorem aac:dE TE (aL TE X) f168 [x0,x1] m R=κ m .len [58] [x0] λa _=>κ m .len [58] [x1] λb _=>η .neq 3 a b λa=>aR a (R [aeS] m m.n) (κ m .len [58] [x0] λa _=>Lp (λb c d f=>un c λc g=>un g λg _=>η .lss 3 g a λa=>aR a (ζ 58 x0 g λa=>δ d 141 a λa=>ζ 58 x1 g λh=>δ d 141 h λh=>η .neq 141 a h λa=>aR a (R [aeS] d f) (η .add 3 g (φ 1) λa=>b [c,a] d f)) (R [aeR] d f)) [aeS,φ 0] m m.n):=by kernel_rfl
end
end
section
variable {X:aK} {m:M}
theorem iB(hX:cC X){a lo hi:Int}:C X (.func 96) [aeP a,aeP lo,aeP hi] m m.n (.bool (cQ a lo hi)) m:=by
 refine Cl.cd (hX.no _ rfl) (aa3 func96) rfl rfl ?_;rw[F96];dsimp only[η];refine aW (λvs mm l=>vs=[.bool (cQ a lo hi)]/\m.n<=l) (λQ H=>?_) ?_
 ·rw[cp,ae,aj];refine ak (λc=>?_) (λc=>H _ _ _ ⟨by unfold cQ;rw[c];rfl,aa4 _⟩);rw[cp,ae];exact H _ _ _ ⟨by unfold cQ;rw[c];rfl,aa4 _⟩
 rintro _ mm l ⟨rfl,hl⟩;rw[aB];exact⟨rfl,hl⟩
theorem R3(hX:cC X){l:List Pl}{v w:aeM}(h1:Sl m l v)(h2:Sl m l w)(hl:l.length < 1000000):C X (.func 168) [v,w] m m.n aeR m:=by
 refine Cl.cd (hX.no _ rfl) (aa3 func168) rfl rfl ?_;rw[aac];dsimp only[δ,ζ,η,κ,φ];rw[h1.len cx,aA,h2.len cx,aA,bR,ae,aj,abl rfl];show iW false _ _;rw[aO,aA];refine Lp.intro (γ:=Nat) (λi=>l.length-i) (λi vs mm lo=>∃z,vs=[z,aeP i]/\i<=l.length/\m=mm/\m.n<=lo) 0 ⟨_,rfl,abh _,rfl,aa4 _⟩ ?_;rintro i vs _ lo ⟨z,rfl,hi,rfl,H⟩;rw[aB,aB,aM,ae,aj];refine ak (λc=>?_) (λc=>⟨rfl,H⟩);have a0:i < l.length:=by grind
 obtain⟨x,hx⟩:∃x,l[i]?=some x:=⟨_,aa5 a0⟩
 have⟨a,e1,e2⟩:=h1.dZ (k:=.i64) hx;have⟨b,e3,e4⟩:=h2.dZ (k:=.i64) hx;rw[e1,ae,e2,ae,e3,ae,e4,ae,NU,ae,aj,abl rfl];show iW false _ _;rw[aO,aQ,ae,wrap64 (by omega) (by omega)];exact⟨i+1,by omega,z,rfl,by omega,rfl,H⟩
theorem DD(hX:cC X){u:Un}{v w:aeM}(h1:Sl m u.shape v)(h2:Sl m u.shape w)(hl:u.shape.length < 1000000):C X (.func 115) [u.v v,u.v w] m m.n aeR m:=by
 refine Cl.cd (hX.no _ rfl) (aa3 func115) rfl rfl ?_;rw[aaD];dsimp only[δ,ε,η,ρ,υ,χ];refine av λm1 h0 d0 i0=>?_;refine av λm2 j0 e0 g0=>?_;have g1:m2.get m.n=.cells (u.c v) 60 none:=by rw[g0 _ (by omega)];exact d0
 have g2:m2.get m1.n=.cells (u.c w) 60 none:=e0;have H:Ext m m2:=⟨by omega,by grind⟩
 have⟨a0,a1,a2,a3,a4,a5⟩:=kU g1;have⟨b0,b1,b2,b3,b4,b5⟩:=kU g2;unfold ptrTo;simp only[bs,cM,cL,bH,cK,cJ,ae];refine aW (λvs mm lo=>vs=[aeR]/\m.n<=lo) (λQ hQ=>?_) ?_
 ·simp only[a0,a1,a2,a3,a4,a5,b0,b1,b2,b3,b4,b5,ae,aS,aj,decide_true,bL];refine aE (R3 hX (h1.aF H) (h2.aF H) hl) ?_;exact hQ _ _ _ ⟨rfl,by omega⟩
 rintro _ mm l ⟨rfl,hl⟩;rw[aB];exact⟨rfl,hl⟩
structure IP where
 b:Nat
 o:Nat
instance:aZ IP where
 ty:=195
 sz:=1
 agg:=false
 eB:=[]
 rep _ x cs:=cs=[.pointer (some ⟨x.b,x.o,none⟩)]
 pos:=by decide
 one:=by grind
 len:=by grind
 fB:=by rintro _ _ _ rfl;rfl
 aY:=by grind
theorem Fw:oP TE 192 195 IP:=⟨ag.t192,ag.t195,by kernel_rfl,⟨_,rfl⟩,rfl,by kernel_rfl,rfl,rfl⟩
abbrev qW(x:IP):aeM:=.pointer (some ⟨x.b,x.o,none⟩)
theorem TF{l:List IP}{b:Nat}{g:Option Nat}(h:m.get b=.cells (l.map qW) 195 g):Sl m l (aeL b 0 l.length l.length):=
 .inr ⟨b,0,l.length,_,g,rfl,h,by rw[abH];show 0+l.length*1<=_;omega,λi x hi=>by
  show((l.map qW).drop (0+i*1)).take 1=[qW x]
  have H:=(aa9.1 hi).1
  rw[abV,Nat.mul_one,ab1 (by grind),acf,acF,List.getElem_map,(aa9.1 hi).2]⟩
def jF(t:Tk):List (Nat×Int):=if t.kind=1 then [(1,t.un.id),(2,t.un.kind),(3,t.un.dA),(5,t.un.back),(6,t.un.front)]
 else if t.kind=4 then [(7,t.id),(10,t.dA)]
 else if t.kind=5\/t.kind=8 then [(7,t.id),(9,t.side)]
 else if t.kind=9 then [(7,t.id),(8,t.other),(10,t.dA)]
 else [(7,t.id)]
theorem Q9{t:Tk}{w:aeM}{p:Nat×Int}(h:p∈jF t):(t.c w)[p.1]?=some (aeP p.2)/\p.1 < 11:=by
 unfold jF at h;split at h
 ·grind
 split at h
 ·simp only[abp,ab0,or_false]at h;rcases h with rfl |rfl <;>exact⟨rfl,by simp⟩
 split at h
 ·simp only[abp,ab0,or_false]at h;rcases h with rfl |rfl <;>exact⟨rfl,by simp⟩
 split at h
 ·simp only[abp,ab0,or_false]at h;rcases h with rfl |rfl |rfl <;>exact⟨rfl,by simp⟩
 ·grind
abbrev Nw(b:Nat)(t:Tk):List IP:=(jF t).map λp=>⟨b,p.1⟩
theorem Ba(hX:cC X){t:Tk}{w:aeM}{b:Nat}(g:m.get b=.cells (t.c w) 62 none):
  ∃r m',C X (.func 114) [aeK b 0] m m.n r m'/\Ext m m'/\Sl m' (Nw b t) r:=by
 have key:=Cl.iX (E:=TE) (X:=X) (f:=114) (args:=[aeK b 0]) (m:=m) (R:=λrv m' bb=>bb=m.n/\Ext m m'/\Sl m' (Nw b t) rv) (hX.no _ rfl) (aa3 func114) rfl ?_
 ·obtain⟨rv,m',bb,hc,rfl,hx,hr⟩:=key;exact⟨rv,m',hc,hx,hr⟩
 have H:∀R:aeN->M->Nat->Prop,(∀(L:List IP) (m':M) (lo:Nat),L=Nw b t->m'=m.push (.cells (L.map qW) 195 none)->m.n<=lo->R [aeL m.n 0 L.length L.length] m' lo)->dE TE (aL TE X) f114 [aeK b 0] m R:=by
  intro R hR;unfold Nw jF at hR;rw[aaE];dsimp only[δ,ε,η,ν,φ];simp only[gC,cz,dI,ck,cG,cF,dk,bs,cM,cL,cK,cJ,ae];rw[(oK g).1,ae,aS,ae,aj];have b5:∀p q r s u:IP,aG TE m 192 5 [(0,qW p),(1,qW q),(2,qW r),(3,qW s),(4,qW u)]=some (aeL m.n 0 5 5,m.push (.cells ([p,q,r,s,u].map qW) 195 none)):=λ_ _ _ _ _=>by kernel_rfl
  have b3:∀p q r:IP,aG TE m 192 3 [(0,qW p),(1,qW q),(2,qW r)]=some (aeL m.n 0 3 3,m.push (.cells ([p,q,r].map qW) 195 none)):=λ_ _ _=>by kernel_rfl
  have b2:∀p q:IP,aG TE m 192 2 [(0,qW p),(1,qW q)]=some (aeL m.n 0 2 2,m.push (.cells ([p,q].map qW) 195 none)):=λ_ _=>by kernel_rfl
  have b1:∀p:IP,aG TE m 192 1 [(0,qW p)]=some (aeL m.n 0 1 1,m.push (.cells ([p].map qW) 195 none)):=λ_=>by kernel_rfl
  refine ak (λc=>?_) (λc=>?_)
  ·rw[abe (aba c)]at hR;show aP (aG TE m 192 5 [(0,qW ⟨b,1⟩),(1,qW ⟨b,2⟩),(2,qW ⟨b,3⟩),(3,qW ⟨b,5⟩),(4,qW ⟨b,6⟩)]) _;rw[b5,aA];exact hR _ _ _ rfl rfl (aa4 _)
  rw[abd (aa6 c)]at hR;rw[aS,ae,aj];refine ak (λc=>?_) (λc=>?_)
  ·rw[abe (aba c)]at hR;show aP (aG TE m 192 2 [(0,qW ⟨b,7⟩),(1,qW ⟨b,10⟩)]) _;rw[b2,aA];exact hR _ _ _ rfl rfl (aa4 _)
  rw[abd (aa6 c)]at hR;refine aW (λvs mm lo=>vs=[.bool (decide (t.kind=5\/t.kind=8))]/\m=mm/\m.n<=lo) (λQ hQ=>?_) ?_
  ·rw[aS,ae,aj];refine ak (λc=>hQ _ _ _ ⟨?_,rfl,aa4 _⟩) (λc=>?_);·rw[c,abl (Or.inl (aba c))]
   ·rw[aS,ae]
    refine hQ _ _ _ ⟨?_,rfl,aa4 _⟩
    have c:=aa6 c
    congr 2
    exact decide_eq_decide.2 ⟨λh=> .inr h,λh=>h.resolve_left c⟩
  rintro _ _ lo ⟨rfl,rfl,a0⟩;rw[aB,aj];refine ak (λc=>?_) (λc=>?_)
  ·rw[abe (aba c)]at hR;show aP (aG TE m 192 2 [(0,qW ⟨b,7⟩),(1,qW ⟨b,9⟩)]) _;rw[b2,aA];exact hR _ _ _ rfl rfl a0
  rw[abd (aa6 c)]at hR;rw[aS,ae,aj];refine ak (λc=>?_) (λc=>?_)
  ·rw[abe (aba c)]at hR;show aP (aG TE m 192 3 [(0,qW ⟨b,7⟩),(1,qW ⟨b,8⟩),(2,qW ⟨b,10⟩)]) _;rw[b3,aA];exact hR _ _ _ rfl rfl a0
  rw[abd (aa6 c)]at hR;show aP (aG TE m 192 1 [(0,qW ⟨b,7⟩)]) _;rw[b1,aA];exact hR _ _ _ rfl rfl a0
 refine H _ λL m' lo hL hm a0=> .inr ⟨.inl rfl,by omega,?_,?_⟩;·rw[hm];exact Ext.refl.push
 show Sl m' (Nw b t) (aeL m.n 0 L.length L.length);rw[<-hL,hm];exact TF M.aU
abbrev uf(k:Int):aeN:=Tk.c ⟨k,⟨0,0,0,[],0,0⟩,0,0,0,0⟩ (.slice none 0 0)
def pA(cs:aeN)(l:List (Nat×Int)):aeN:=l.foldl (λcs p=>cs.set p.1 (.int .i64 p.2)) cs
theorem AE:∀(l:List (Nat×Int)) (cs:aeN),(pA cs l).length=cs.length
 |[],_=>rfl
 |p::l,cs=>by show(pA (cs.set p.1 _) l).length=_;rw[AE l,List.length_set]
theorem BA(u:Un)(h:eX u)(H:u.id=0):u=⟨0,0,0,[],0,0⟩:=by
 have⟨a,b,c,d,e,f⟩:=u
 unfold eX at h
 grind
theorem Im{t:Tk}(h:dS t)(k:t.kind=1):jO t.un/\cQ t.un.kind 6 8/\t.id=0/\t.other=0/\t.side=0/\t.dA=0:=by
 unfold dS at h
 grind
theorem Il{t:Tk}(h:dS t)(k:t.kind≠1):t.un=⟨0,0,0,[],0,0⟩/\cQ t.id 0 99/\cQ t.other 0 99/\cQ t.side (-2) 7/\cQ t.dA 0 7/\(t.kind=9->t.id < t.other)/\
  pA (uf t.kind) (jF t)=Tk.c t aeQ:=by
 have hk:=rU h;unfold dS at h;rw[abd k]at h;have h0:cQ 0 0 99:=by decide
 have h1:cQ 0 (-2) 7:=by decide
 have h2:cQ 0 0 7:=by decide
 have⟨kd,un,id,ot,sd,mt⟩:=t;simp only[]at h k hk;split at h
 ·rename_i c;simp only[abc,abv]at h;obtain⟨⟨⟨⟨⟨H,e2⟩,e3⟩,rfl⟩,rfl⟩,rfl⟩:=h;have:=BA un H e2;subst this;refine⟨rfl,e3,h0,h1,h2,λe=>?_,?_⟩
  ·grind
  unfold jF;simp only[];rw[abd k,abd (by omega),abd (by omega),abd (by omega)];rfl
 split at h
 ·rename_i c;simp only[abc,abv]at h;obtain⟨⟨⟨⟨⟨H,e2⟩,e3⟩,rfl⟩,rfl⟩,e4⟩:=h;have:=BA un H e2;subst this;refine⟨rfl,e3,h0,h1,e4,λe=>?_,?_⟩
  ·grind
  unfold jF;simp only[];rw[abd k,abe c];rfl
 split at h
 ·rename_i c;simp only[abc,abv]at h;obtain⟨⟨⟨⟨⟨H,e2⟩,e3⟩,rfl⟩,e4⟩,rfl⟩:=h;have:=BA un H e2;subst this;refine⟨rfl,e3,h0,e4,h2,λe=>?_,?_⟩
  ·grind
  unfold jF;simp only[];rw[abd k,abd (by omega),abe c];rfl
 split at h
 ·rename_i c;simp only[abc,abv]at h;obtain⟨⟨⟨⟨⟨⟨H,e2⟩,e3⟩,e4⟩,rfl⟩,e5⟩,e6⟩:=h;have:=BA un H e2;subst this;refine⟨rfl,e3,e4,h1,e5,λ_=>e6,?_⟩;unfold jF;simp only[];rw[abd k,abd (by omega),abd (by omega),abe c];rfl
 cases h
theorem TQ{t:Tk}(h:dS t)(k:t.kind=1):pA (uf t.kind) (jF t)=Tk.c {t with un:={t.un with shape:=[]}} aeQ:=by obtain⟨-, -,H,e2,e3,e4⟩:=Im h k;have⟨kd,un,id,ot,sd,mt⟩:=t;simp only[]at H e2 e3 e4 k;subst H e2 e3 e4 k;rfl
set_option maxHeartbeats 1000000 in
theorem xV(hX:cC X){t:Tk}{w:aeM}(hw:Sl m t.un.shape w)(w1:t.un.shape.length < 100000)(hf:dS t=true):C X (.func 51) [t.v w] m m.n aeR m:=by
 refine Cl.cd (hX.no _ rfl) (aa3 func51) rfl rfl ?_;have p0:=rU hf;rw[F51];dsimp only[δ,ε,ζ,η,θ,ι,κ,ο,ρ,ς,υ,φ,χ,Γ,ψ];refine av λm1 y1 F0 G0=>?_;have g1:m1.get m.n=.cells (t.c w) 62 none:=F0;have H0:Ext m m1:=⟨by omega,G0⟩
 unfold ptrTo;simp only[cz,dI,ck,cG,cF,dk,cM,bH,ae];rw[(oK g1).1,ae];refine aE (iB hX) ?_;rw[bj,ae,show cQ t.kind 1 9=true by unfold cQ;rw[abl p0.1,abl p0.2];rfl,aj];show iW false _ _;have bt:aJ TE 62 [(0,.int .i64 t.kind)]=some (Tk.v ⟨t.kind,⟨0,0,0,[],0,0⟩,0,0,0,0⟩ aeQ):=sj rfl;rw[aO,(oK g1).1,ae,bt,ae];refine av λm11 d1 h0 q0=>?_;refine aC og h0 rfl rfl rfl λm12 h1 i0 r0=>?_;have gP:m12.get m1.n=.cells (uf t.kind) 62 none:=i0;have n0:Ext m1 m12:=⟨by omega,by grind⟩
 have i1:m1.n < m12.n:=by omega
 clear h0 q0 i0 r0;have⟨z1,m15,I0,d0,J0⟩:=Ba (m:=m12) hX (n0.cells g1);refine aE I0 ?_;have n15:=d0.n;have⟨v17,m18,K0,e0,o0⟩:=Ba (m:=m15) (t:=⟨t.kind,⟨0,0,0,[],0,0⟩,0,0,0,0⟩) hX (d0.cells gP);refine aE K0 ?_;have n18:=e0.n
 have s0:Nw m1.n ⟨t.kind,⟨0,0,0,[],0,0⟩,0,0,0,0⟩=Nw m1.n t:=by
  unfold Nw jF;simp only[];split;·rfl
  split;·rfl
  split;·rfl
  split <;>rfl
 rw[s0]at o0;have L0:=J0.aF e0;have N0:(Nw m1.n t).length=(jF t).length:=abH _
 have A1:(jF t).length<=5:=by
  unfold jF;split;·simp
  split;·simp
  split;·simp
  split <;>simp
 rw[o0.len Fw,aA,N0];have j0:=e0.cells (d0.cells gP);have g18:=e0.cells (d0.cells (n0.cells g1));have u0:=hw.aF (H0.trans (n0.trans (d0.trans e0)));refine Lp.intro (γ:=Nat) (λi=>(jF t).length-i) (λi vs H lo=>vs=[.int .i64 i]/\i<=(jF t).length/\m.n<=lo/\H.n=m18.n/\H.get m1.n=.cells (pA (uf t.kind) ((jF t).take i)) 62 none/\∀c,c≠m1.n->H.get c=m18.get c) 0 ⟨rfl,abh _,by omega,rfl,j0,λ_ _=>rfl⟩ ?_;rintro i vs H lo ⟨rfl,hi,O0,hn,gP,v0⟩;have gT:H.get m.n=.cells (t.c w) 62 none:=by grind
 have kp:∀{l:List IP} {v:aeM},Sl m18 l v->Sl H l v:=λh=>h.aY λc cs t' g hc ht=>by
  have ht:t'=195:=by simpa[aZ.ty,aZ.eB]using ht
  subst ht;rw[v0 c (by grind),hc]
 have y0:=kp o0;have z0:=kp L0;rw[aB,aM,ae,aj];refine ak (λc=>?_) (λc=>?_)
 ·have Q0:i < (jF t).length:=by grind
  obtain⟨p,hp⟩:∃p,(jF t)[i]?=some p:=⟨_,aa5 Q0⟩
  have⟨pv,plt⟩:=Q9 (w:=w) (abb hp)
  obtain⟨a,cs,e1,e2,e3⟩:=y0.index Fw (k:=.i64) (show(Nw m1.n t)[i]?=some ⟨m1.n,p.1⟩ by grind)
  obtain rfl:cs=[.pointer (some ⟨m1.n,p.1,none⟩)]:=e3
  have e2:ah TE H 195 a=some (.pointer (some ⟨m1.n,p.1,none⟩)):=e2
  obtain⟨a',cs,e4,e5,e6⟩:=z0.index Fw (k:=.i64) (show(Nw m.n t)[i]?=some ⟨m.n,p.1⟩ by grind)
  obtain rfl:cs=[.pointer (some ⟨m.n,p.1,none⟩)]:=e6
  have e5:ah TE H 195 a'=some (.pointer (some ⟨m.n,p.1,none⟩)):=e5
  rw[e1,ae,e2,ae,e4,ae,e5,ae,gC,ae,bI,aI gT,pv,ae,gC,ae]
  have k0:(pA (uf t.kind) ((jF t).take i)).length=11:=by rw[AE];rfl
  refine cg uz gP rfl (by show p.1+1<=_;rw[k0];omega) rfl λB1 j1 A0 k1=>?_
  rw[aQ,ae,wrap64 (by omega) (by omega)]
  refine⟨i+1,by omega,rfl,by omega,by omega,by omega,?_,by grind⟩
  rw[A0]
  congr 1
  rw[abt,hp]
  show(pA (uf t.kind) ((jF t).take i)).take p.1++(Value.int .i64 p.2::(pA (uf t.kind) ((jF t).take i)).drop (p.1+1))=pA (uf t.kind) ((jF t).take i++ [p])
  unfold pA
  rw[ac9]
  exact kG (by show p.1 < (pA (uf t.kind) ((jF t).take i)).length;rw[k0];exact plt)
 obtain rfl:i=(jF t).length:=by have:¬(i:Int)< ((jF t).length:Int):=aa6 c;omega
 rw[abR]at gP;have g0:Sl H t.un.shape w:=mN u0 j0 v0;refine aW (λvs m' lo=>∃w',vs=[]/\m.n<=lo/\m'.get m.n=.cells (t.c w) 62 none/\m'.get m1.n=.cells (t.c w') 62 none/\Sl m' t.un.shape w/\Sl m' t.un.shape w'/\m.n<=m'.n) (λQ hQ=>?_) ?_
 ·rw[(oK gT).1,ae,aS,ae,aj];refine ak (λk=>?_) (λk=>?_)
  ·rw[TQ hf (aba k)]at gP;rw[(vM gT).2.2.2.1,ae];refine MY gP g0.one g0.cells λC1 l1 B0 C0=>?_;have l0:=mN g0 gP C0;exact hQ _ _ _ ⟨w,rfl,by omega,by grind,B0,l0,l0,by omega⟩
  obtain⟨e1, -, -, -, -, -,e2⟩:=Il hf (aa6 k);rw[e2]at gP;exact hQ _ _ _ ⟨_,rfl,O0,gT,gP,g0,by rw[e1];exact .nil,by omega⟩
 rintro _ D0 fS ⟨w',rfl,o1,gT,gP,E0,c1,p1⟩;have⟨a0,a1,a2,a3,a4⟩:=oK gT;have⟨b0,b1,b2,b3,b4⟩:=oK gP;refine aW (λvs H lo=>vs=[aeS]/\D0=H/\m.n<=lo) (λQ hQ=>?_) ?_
 ·have nt:∀z:Int,(!decide (z=z))=false:=by grind
  simp only[a1,a2,a3,a4,b1,b2,b3,b4,ae,bR,aj,nt,aO,rB gT,rB gP];refine aE (DD hX c1 E0 (by omega)) ?_;rw[bj,ae];exact hQ _ _ _ ⟨rfl,rfl,by omega⟩
 rintro _ _ D1 ⟨rfl,rfl,r1⟩;rw[aB,aj,aO,a0,ae,aS,ae,aj];refine ak (λk=>?_) (λk=>?_)
 ·obtain⟨u1,u2, -⟩:=Im hf (aba k);refine aW (λvs H lo=>vs=[aeR]/\m.n<=lo) (λQ hQ=>?_) ?_
  ·rw[rB gT,ae];refine aE (mI hX E0 (by omega)) ?_;rw[u1,aj,bL,(vM gT).2.1,ae];refine aE (iB hX) ?_;rw[u2];exact hQ _ _ _ ⟨rfl,by omega⟩
  rintro _ H l ⟨rfl,hl⟩;rw[aB];exact⟨rfl,hl⟩
 obtain⟨-,u1,u2,u3,u4,u5, -⟩:=Il hf (aa6 k);refine aW (λvs H lo=>vs=[aeR]/\D0=H/\m.n<=lo) (λQ hQ=>?_) ?_
 ·rw[a1,ae];refine aE (iB hX) ?_;rw[u1,aj,bL,a2,ae];refine aE (iB hX) ?_;rw[u2];exact hQ _ _ _ ⟨rfl,rfl,by omega⟩
 rintro _ _ E1 ⟨rfl,rfl,v1⟩;rw[aB];refine aW (λvs H lo=>vs=[aeR]/\m.n<=lo) (λQ hQ=>?_) ?_
 ·rw[aj,bL,a3,ae];refine aE (iB hX) ?_;rw[u3,aj,bL,a4,ae];refine aE (iB hX) ?_;rw[u4,aj,bL,a0,ae,bR,ae,aj];refine ak (λc=>hQ _ _ _ ⟨rfl,by omega⟩) (λc=>?_);rw[abu]at c;have:=u5 (aba c);rw[a1,ae,a2,ae,aM,ae,abl this];exact hQ _ _ _ ⟨rfl,by omega⟩
 rintro _ H l ⟨rfl,hl⟩;rw[aB];exact⟨rfl,hl⟩
theorem YV{a b:Int}:JW [a,b]=if a=0 then b else a:=by
 unfold JW
 grind
theorem LQ(hX:cC X){x y:KW}(h:x.u.id < y.u.id):C X (.func 99) [x.v,y.v] m m.n (aeP (-1)) m:=by
 refine Cl.cd (hX.no _ rfl) (aa3 func99) rfl rfl ?_;rw[F99];dsimp only[δ,ε,ρ,υ,χ];refine av λm1 d0 H e0=>?_;refine av λm2 g0 a0 b0=>?_;have g1:m2.get m.n=.cells x.c 113 none:=by rw[b0 _ (by omega)];exact H
 have g2:m2.get m1.n=.cells y.c 113 none:=a0;unfold ptrTo;rw[cq,ae,bs,ae,(LF g1).1,ae,cq,ae,bs,ae,(LF g2).1,ae];refine aE (eo hX _ _) ?_;exact⟨by unfold dt;rw[abe h];rfl,by omega⟩
theorem Fj(H:cC X)(x y:Fc):C X (.func 101) [x.v,y.v] m m.n (aeP (JW [dt x.un y.un,dt x.side y.side])) m:=by
 refine Cl.cd (H.no _ rfl) (aa3 func101) rfl rfl ?_;rw[aaK];dsimp only[δ,ε,ν,ρ,υ,χ,ω];refine av λm1 h0 d0 i0=>?_;refine av λm2 j0 e0 g0=>?_;have g1:m2.get m.n=.cells x.c 53 none:=by rw[g0 _ (by omega)];exact d0
 have g2:m2.get m1.n=.cells y.c 53 none:=e0;obtain⟨a0,a1, -⟩:=tP g1;obtain⟨b0,b1, -⟩:=tP g2;unfold ptrTo;simp only[cW,dm,ae];rw[a0,ae,b0,ae];refine aE (eo H _ _) ⟨aa4 _,?_⟩;rw[a1,ae,b1,ae];refine aE (eo H _ _) ?_;rw[mZ,aA];obtain⟨m18,hm⟩:∃q,q=m2.push (.cells ([dt x.un y.un,dt x.side y.side].map (.int .i64)) 3 none):=⟨_,rfl⟩
 rw[<-hm];have g18:m18.get m2.n=.cells ([dt x.un y.un,dt x.side y.side].map (.int .i64)) 3 none:=by rw[hm];exact M.aU
 have n18:m2.n<=m18.n:=by rw[hm];exact acs _
 refine aE (HC H (nA g18) (by grind)) ?_;exact⟨rfl,by omega⟩
theorem Dl(H:cC X)(x y:Mo):C X (.func 103) [x.v,y.v] m m.n (aeP (JW [dt x.a y.a,dt x.b y.b])) m:=by
 refine Cl.cd (H.no _ rfl) (aa3 func103) rfl rfl ?_;rw[aaI];dsimp only[δ,ε,ν,ρ,υ,χ,ω];refine av λm1 h0 d0 i0=>?_;refine av λm2 j0 e0 g0=>?_;have g1:m2.get m.n=.cells x.c 109 none:=by rw[g0 _ (by omega)];exact d0
 have g2:m2.get m1.n=.cells y.c 109 none:=e0;obtain⟨a0,a1, -⟩:=NX g1;obtain⟨b0,b1, -⟩:=NX g2;unfold ptrTo;simp only[dQ,eH,ae];rw[a0,ae,b0,ae];refine aE (eo H _ _) ⟨aa4 _,?_⟩;rw[a1,ae,b1,ae];refine aE (eo H _ _) ?_;rw[mZ,aA];obtain⟨m18,hm⟩:∃q,q=m2.push (.cells ([dt x.a y.a,dt x.b y.b].map (.int .i64)) 3 none):=⟨_,rfl⟩
 rw[<-hm];have g18:m18.get m2.n=.cells ([dt x.a y.a,dt x.b y.b].map (.int .i64)) 3 none:=by rw[hm];exact M.aU
 have n18:m2.n<=m18.n:=by rw[hm];exact acs _
 refine aE (HC H (nA g18) (by grind)) ?_;exact⟨rfl,by omega⟩
theorem Cn{a b c d:Int}(h:a < c\/a=c/\b < d):JW [dt a c,dt b d] < 0:=by
 rw[YV]
 unfold dt
 grind
abbrev P5(T t:TypeId)(z:aeN)(W:Words)(x0 x1 x2:aeM)(m:M)(R:aeN->M->Nat->Prop):Prop:=
(W.aP (aw TE m .len [T] [x0]) λv1 _=>(W.Lp (λP2 i0 m4 a0=>W.un i0 λv6 r7=>W.un r7 λv8 r9=>(W.ai (az TE .lss 3 v8 v1) λv10=>(aR v10
(W.ai (an TE T x0 v8) λv11=>(W.ai (ah TE m4 t v11) λv12=>(W.bE (M.push m4 (.cells z t none)) λm13=>(W.aP (aD TE m13 t (ptrTo (M.n m4)) v12) λm14 d0=>(W.jn (λe0=>(W.ai (ah TE m14 t (ptrTo (M.n m4))) λv20=>(ia x2 λg21 f22 j0=>(W.bh g21 (f22.toList++([v20]++j0.toList)) m14 λv24 H g0=>(W.ai (cZ .not v24) λv27=>(aR v27
(e0 [.bool true] H (min (min a0 d0) g0))
(W.ai (az TE .gtr 3 v8 (.int .i64 0)) λv28=>(aR v28
(W.ai (az TE .sub 3 v8 (.int .i64 1)) λv29=>(W.ai (an TE T x0 v29) λv30=>(W.ai (ah TE H t v30) λv31=>(W.ai (ah TE H t (ptrTo (M.n m4))) λv32=>(ia x1 λk0 f34 l0=>(W.bh k0 (f34.toList++([v31,v32]++l0.toList)) H λv36 n0 o0=>(W.ai (az TE .geq 3 v36 (.int .i64 0)) λv39=>(e0 [v39] n0 (min (min (min a0 d0) g0) o0)))))))))
(e0 [.bool false] H (min (min a0 d0) g0))))))))))
(λh0 m18 b0=>W.un h0 λv40 q0=>(aR v40
(R [.bool false] m18 b0)
(W.ai (az TE .add 3 v8 (.int .i64 1)) λp0=>(P2 [v6,p0] m18 b0)))))))))
(R [.bool true] m4 a0)))) [.bool false,.int .i64 0] m (M.n m)))
theorem Wy{W:Words}{x0 x1 x2:aeM}{m:M}{R:aeN->M->Nat->Prop}:dE TE W f98 [x0,x1,x2] m R=P5 34 113 [aeP 0,aeP 0,aeP 0,aeQ,aeP 0,aeP 0,aeQ] W x0 x1 x2 m R:=F98
theorem Wz{W:Words}{x0 x1 x2:aeM}{m:M}{R:aeN->M->Nat->Prop}:dE TE W f100 [x0,x1,x2] m R=P5 35 53 [aeP 0,aeP 0] W x0 x1 x2 m R:=aaL
theorem Wx{W:Words}{x0 x1 x2:aeM}{m:M}{R:aeN->M->Nat->Prop}:dE TE W f102 [x0,x1,x2] m R=P5 36 109 [aeP 0,aeP 0,aeP 0] W x0 x1 x2 m R:=aaJ
theorem GZ{T t:TypeId}{te:TI}{α:Type}[aZ α](hT:oP TE T t α)(q0:aZ.agg α)(r0:TE.ty.get t=some te)(s0:te.size=aZ.sz α)(k0:∀(mm:M) (b:Nat) (cs:aeN),mm.get b=.cells cs t none->cs.length=aZ.sz α->ah TE mm t (aeK b 0)=some (.agg cs.toArray)){z:aeN}(hz:z.length=aZ.sz α)
  {m:M} {l:List α} {v:aeM} {g1 g2:Fn} {f1 c1 f2 c2:Array aeM} {R:aeN->M->Nat->Prop} (val:α->aeN) (e0:∀m x cs,aZ.rep m x cs->cs=val x) (hb:l.length < 1000000)
  (J:Nat->M->Nat->Prop) (u0:∀i m1 m2 lo,J i m1 lo->Ext m1 m2->J i m2 lo) (l0:∀i m1 lo b,J i m1 lo->m.n<=b->J i m1 (min lo b)) (hn:∀i m1 lo,J i m1 lo->m.n<=m1.n) (hl:∀i m1 lo,J i m1 lo->Sl m1 l v)
  (hr:∀i x m1 H,l[i]?=some x->J i m1 H->∃b m2,C X g2 (f2.toList++([.agg (val x).toArray]++c2.toList)) m1 b aeR m2/\J (i+1) m2 (min H b)/\m1.n<=m2.n/\∀c,m.n<=c->c < m1.n->m2.get c=m1.get c)
  (hc:∀i x y m1,l[i]?=some x->l[i+1]?=some y->m.n<=m1.n->∃k:Int,k < 0/\C X g1 (f1.toList++([.agg (val x).toArray,.agg (val y).toArray]++c1.toList)) m1 m1.n (aeP k) m1)
  (h0:J 0 m m.n) (hR:∀m2 fS,J l.length m2 fS->R [aeR] m2 fS):P5 T t z (aL TE X) v (.func g1 f1 c1) (.func g2 f2 c2) m R:=by
 dsimp only[P5,aL];rw[(hl 0 m m.n h0).len hT,aA];refine Lp.intro (γ:=Nat) (λi=>l.length-i) (λi vs m1 lo=>∃w,vs=[w,aeP i]/\i<=l.length/\J i m1 lo) 0 ⟨_,rfl,abh _,h0⟩ ?_;rintro i vs m1 H ⟨w,rfl,hi,hJ⟩;rw[aB,aB,aM,ae,aj];refine ak (λc=>?_) (λc=>?_)
 ·have v0:i < l.length:=by grind
  obtain⟨x,hx⟩:∃x,l[i]?=some x:=⟨_,aa5 v0⟩
  have g0:∀cs:aeN,aZ.val α cs=.agg cs.toArray:=λcs=>by unfold aZ.val;rw[q0];rfl
  have⟨a,cs,e1,e2,e3⟩:=(hl i m1 H hJ).index hT (k:=.i64) hx;have j0:=e0 _ _ _ e3;subst j0;have b0:(val x).length=aZ.sz α:=aZ.len e3;have y0:(val x).all one:=aZ.fB e3;rw[g0]at e2;rw[e1,ae,e2,ae];refine av λm13 E0 n0 F0=>?_;unfold ptrTo;refine aC r0 n0 (by show(val x).length=_;rw[b0,s0]) (by show(val x).length=_;rw[b0,hz]) y0 λm14 G0 a0 H0=>?_;have a0:m14.get m1.n=.cells (val x) t none:=a0;have z0:Ext m1 m14:=⟨by omega,by grind⟩
  have A0:=hn i m1 H hJ;refine aW (λvs mm lo=>vs=[aeS]/\J (i+1) mm lo) (λQ hQ=>?_) ?_
  ·rw[k0 _ _ _ a0 b0,ae,cf];obtain⟨b,o0,B0,d0,I0,J0⟩:=hr i x m14 (min H m1.n) hx (l0 _ _ _ _ (u0 _ _ _ _ hJ z0) A0);refine aE B0 ?_;rw[bj,ae,aj];show iW false _ _;rw[aO,bV,ae,aj];refine ak (λc=>?_) (λc=>hQ _ _ _ ⟨rfl,d0⟩);have K0:0 < i:=by grind
   rw[dD,ae,wrap64 (by omega) (by omega),show(i:Int)-1=((i-1:Nat):Int) by omega];obtain⟨y,hy⟩:∃y,l[i-1]?=some y:=⟨_,aa5 (by omega)⟩
   obtain⟨a',L0,e4,e5,e6⟩:=(hl _ _ _ d0).index hT (k:=.i64) hy;have j0:=e0 _ _ _ e6;subst j0;rw[g0]at e5;have p0:o0.get m1.n=.cells (val x) t none:=by grind
   rw[e4,ae,e5,ae,k0 _ _ _ p0 b0,ae,cf];have i0:=hn _ _ _ d0;obtain⟨k,hk,C0⟩:=hc (i-1) y x o0 hy (by grind) i0;refine aE C0 ?_;rw[cB,ae,abk (by omega)];exact hQ _ _ _ ⟨rfl,l0 _ _ _ _ d0 i0⟩
  rintro _ mm lo ⟨rfl,D0⟩;rw[aB,aj,aO,aQ,ae,wrap64 (by omega) (by omega)];exact⟨i+1,by omega,w,rfl,by omega,D0⟩
 obtain rfl:i=l.length:=by have:¬(i:Int)< (l.length:Int):=aa6 c;omega
 exact hR _ _ hJ
theorem LN(hX:cC X){l:List UW}{r vm:aeM}(hF:dg m l r)(hlen:l.length < 1000000){id:Int}(b0:∀x∈l,x.u.id≠id):
  C X (.func 94) [.agg #[r,vm],aeP id] m m.n (.tuple #[.agg Un.zc.toArray,aeS]) m:=by
 refine Cl.cd (hX.no _ rfl) (aa3 func94) rfl rfl ?_;rw[F94];dsimp only[δ,ε,ζ,η,θ,ι,ρ,ς,υ,φ,χ,ψ];refine av λm1 p0 d0 q0=>?_;refine av λm2 r0 e0 g0=>?_;refine av λm3 s0 h0 H=>?_;have i0:Ext m m3:=⟨by omega,by grind⟩
 have g1:m3.get m.n=.cells [r,vm] 33 none:=by rw[H _ (by omega),g0 _ (by omega)];exact d0
 have g2:m3.get m1.n=.cells [aeP id] 3 none:=by rw[H _ (by omega)];exact e0
 have g3:m3.get m2.n=.cells Un.zc 60 none:=h0;have j0:=hF.aF i0;unfold ptrTo;rw[bZ,ae,bO,ae,BN g1,ae];refine aE (fm dF (hX.no _ rfl) (aa3 func145) rfl AR (l:=l) (λx=>decide (x.u.id=id)) (by omega) j0.sl λx hx cs hr=>?_) ?_
 ·obtain⟨rfl,hw⟩:cs=x.c/\one x.w:=hr;refine Cl.cd (args:=[x.v,aeK m1.n 0]) (hX.no _ rfl) (aa3 func154) rfl rfl ?_;rw[aaf];dsimp only[δ,ε,η,ρ,υ];refine av λm4 u0 k0 l0=>?_;have g4:m4.get m3.n=.cells (x.u.c x.w) 60 none:=k0;have l4:ah TE m4 3 (aeK m1.n 0)=some (aeP id):=by rw[bI,aI (show m4.get m1.n=_ from(l0 _ (by omega)).trans g2)];rfl
  unfold ptrTo;rw[bs,ae,(kU g4).1,ae,l4,ae,aS,ae];exact⟨rfl,aa4 _⟩
 rw[tI λx hx=>abk (b0 x hx),aM,ae,aj];rw[abl (by decide),bL,show aJ TE 60 []=some (.agg Un.zc.toArray)from ni,ae];refine aC du g3 rfl rfl rfl λm12 n0 a0 o0=>?_;have g12:m12.get m2.n=.cells (Un.c ⟨0,0,0,[],0,0⟩ aeQ) 60 none:=a0;rw[bT g12,ae];exact⟨rfl,by omega⟩
def rY:Nat->List Int->List MapEntry
 |_,[]=> []
 |k,z::l=>{key:=.int .i64 z,val:=.bool true,born:=k}::rY (k+1) l
theorem Be:∀(l:List Int) (k:Nat) (z:Int),rY k (l++ [z])=rY k l++ [{key:=aeP z,val:=aeR,born:=k+l.length}]
 |[],_,_=>rfl
 |a::l,k,z=>by
  show _::rY (k+1) (l++ [z])=_::(rY (k+1) l++_)
  rw[Be l (k+1) z,abr,show k+1+l.length=k+(l.length+1) by omega]
theorem EH:∀(l:List Int) (k:Nat),(rY k l).length=l.length
 |[],_=>rfl
 |a::l,k=>by show(rY (k+1) l).length+1=_;rw[EH l];rfl
theorem YR{a b:Int}:eq? TE 3 (.int .i64 a) (.int .i64 b)=some (decide (a=b)):=by kernel_rfl
theorem WU{z:Int}:keyed TE 3 (.int .i64 z):=by kernel_rfl
theorem AX{z:Int}:∀(l:List Int) (k i:Nat),z∉l->findKey TE 3 (aeP z) (rY k l) i=some none
 |[],_,_,_=>rfl
 |a::l,k,i,h=>by
  rw[abp,not_or]at h
  show(match eq? TE 3 (aeP z) (aeP a)with |some true=>_ |some false=>findKey TE 3 (aeP z) (rY (k+1) l) (i+1) |none=>none)=_
  rw[YR,abk h.1]
  exact AX l (k+1) (i+1) h.2
theorem BC:TE.ty.get 173=some ag.t173:=by kernel_rfl
theorem NN{b:Nat}{z:Int}{l:List Int}{P:M->Nat->Prop}(h:m.get b=.map (rY 0 l) l.length)(H:z∉l)
  (hP:∀m1,m1.n=m.n->m1.get b=.map (rY 0 (l++ [z])) (l++ [z]).length->(∀c,c≠b->m1.get c=m.get c)->P m1 b):
  aP (lW TE m 173 (.map (some b)) (aeP z) aeR) P:=by
 have hb:b < m.n:=by refine Nat.lt_of_not_le λhle=>?_;rw[M.jl hle]at h;cases h
 have e:lW TE m 173 (.map (some b)) (aeP z) aeR=some (m.set b (.map (rY 0 (l++ [z])) (l++ [z]).length),b):=by simp only[lW,eM,BC,ag.t173,h,WU,cond_true,AX l 0 0 H];rw[Be,abO,abV];rfl
 rw[e,aA];exact hP _ rfl (M.eK hb) λc hc=>M.dP hc
theorem Oo{b:Nat}{l:List Int}(h:m.get b=.map (rY 0 l) l.length):aw TE m .len [173] [.map (some b)]=some (aeP l.length,m):=by
 have:aw TE m .len [173] [.map (some b)]=(oL TE m 173 (.map (some b))).map (·,m):=rfl
 rw[this];have:oL TE m 173 (.map (some b))=some (aeP (rY 0 l).length):=by simp[oL,BC,ag.t173,h]
 rw[this,EH];rfl
structure lO(mp sb cb:Nat)(l:List Int)(m:M):Prop where
 em:m.get mp=.map (rY 0 l) l.length
 es:m.get sb=.cells [.map (some mp)] 173 none
 ec:m.get cb=.cells [.int .i64 (l.length:Int)] 3 none
theorem lO.aF{mp sb cb:Nat}{l:List Int}{m':M}(h:lO mp sb cb l m)(h1:mp < m.n)(H:Ext m m'):lO mp sb cb l m':=
 ⟨by rw[H.get _ h1];exact h.em,H.cells h.es,H.cells h.ec⟩
theorem Ib{b mp:Nat}{g:Option Nat}(h:m.get b=.cells [.map (some mp)] 173 g):ah TE m 173 (aeK b 0)=some (.map (some mp)):=by rw[Og,aI h];rfl
theorem Cp{b:Nat}{z:Int}{g:Option Nat}(h:m.get b=.cells [aeP z] 3 g):ah TE m 3 (aeK b 0)=some (aeP z):=by rw[bI,aI h];rfl
theorem HI(hX:cC X){mp sb H:Nat}{ids:List Int}{l:List Mk}{v:aeM}(hN:lO mp sb H ids m)(hl:Sl m l v)(hd:mp < m.n/\mp≠sb/\mp≠H/\sb≠H)(C0:(ids++l.map Mk.id).Nodup)(hlen:ids.length+l.length < 1000000):
  ∃rv b m',C X (.func 92) [v,aeK sb 0,aeK H 0] m b rv m'/\lO mp sb H (ids++l.map Mk.id) m'/\min (min mp H) m.n<=b/\(b<=H\/l=[])/\m.n<=m'.n/\∀c,c < m.n->c≠mp->c≠H->m'.get c=m.get c:=by
 have D0:=M.bk hN.ec;have E0:=M.bk hN.es;have key:=Cl.iX (E:=TE) (X:=X) (f:=92) (args:=[v,aeK sb 0,aeK H 0]) (m:=m) (R:=λrv m' b=>lO mp sb H (ids++l.map Mk.id) m'/\min (min mp H) m.n<=b/\(b<=H\/l=[])/\m.n<=m'.n/\∀c,c < m.n->c≠mp->c≠H->m'.get c=m.get c) (hX.no _ rfl) (aa3 func92) rfl ?_
 ·have⟨rv,m',b,hc,h⟩:=key;exact⟨rv,b,m',hc,h⟩
 rw[F92];dsimp only[δ,ε,ζ,η,ι,κ,ς,υ,φ,ω];rw[hl.len dU,aA];refine Lp.intro (γ:=Nat) (λi=>l.length-i) (λi vs mm lo=>vs=[aeP i]/\i<=l.length/\lO mp sb H (ids++(l.take i).map Mk.id) mm/\min (min mp H) m.n<=lo/\m.n<=mm.n/\(∀c,c < m.n->c≠mp->c≠H->mm.get c=m.get c)/\(i=0->mm=m/\lo=m.n)/\(0 < i->lo<=H)) 0 ⟨rfl,abh _,by grind,by omega,aa4 _,λ_ _ _ _=>rfl,λ_=>⟨rfl,rfl⟩,λh=>absurd h (by decide)⟩ ?_;rintro i vs mm lo ⟨rfl,hi,hS,F0,r0,g0,h0,h1⟩
 have s0:Sl mm l v:=hl.aY λc cs t g hc ht=>by
  have ht:t=137:=by simpa[aZ.ty,aZ.eB]using ht
  subst ht;rw[g0 c (M.bk hc) (λe=>by subst e;rw[hN.em]at hc;cases hc) (λe=>by subst e;rw[hN.ec]at hc;cases hc),hc]
 rw[aB,aM,ae,aj];refine ak (λc=>?_) (λc=>?_)
 ·have i0:i < l.length:=by grind
  obtain⟨x,hx⟩:∃x,l[i]?=some x:=⟨_,aa5 i0⟩
  have⟨p,e1,e2⟩:=s0.wE (k:=.i64) hx;rw[e1,ae,e2,ae];refine av λm11 u0 j0 v0=>?_;refine aC uB j0 rfl rfl rfl λm12 y0 k0 z0=>?_;have g12:m12.get mm.n=.cells x.c 137 none:=k0;have l0:Ext mm m12:=⟨by omega,by grind⟩
  have a0:=hS.aF (by omega) l0;have n12:=l0.n;have n0:(l.take (i+1)).map Mk.id=(l.take i).map Mk.id++ [x.id]:=by rw[abt,hx];simp
  have o0:x.id∉ids++(l.take i).map Mk.id:=by
   have G0:ids++l.map Mk.id=(ids++(l.take i).map Mk.id)++x.id::(l.drop (i+1)).map Mk.id:=by
    conv=>lhs;rw[<-ab5 i l,ab1 i0]
    grind
   grind
  unfold ptrTo;rw[Ib a0.es,ae,bW,ae,(Db g12).1,ae];refine NN a0.em o0 λm17 A0 p0 b0=>?_;have d0:m17.get H=.cells [aeP ((ids++(l.take i).map Mk.id).length:Int)] 3 none:=by rw[b0 _ (λe=>hd.2.2.1 e.symm)];exact a0.ec
  have H0:(ids++(l.take i).map Mk.id).length<=ids.length+l.length:=by grind
  rw[Cp d0,ae,aQ,ae,wrap64 (by omega) (by omega)];refine cg uz d0 rfl (by show 0+1<=1;decide) rfl λm21 B0 q0 e0=>?_;rw[aQ,ae,wrap64 (by omega) (by omega)];refine⟨i+1,by omega,rfl,by omega,⟨?_,?_,?_⟩,by omega,by omega,by grind,λh=>absurd h (by omega),λ_=>by omega⟩;·rw[e0 mp hd.2.2.1,p0,n0,abL]
  ·rw[e0 sb hd.2.2.2,b0 sb (λe=>hd.2.1 e.symm)];exact a0.es
  have e:((ids++((l.take i).map Mk.id++ [x.id])).length:Int)=((ids++(l.take i).map Mk.id).length:Int)+1:=by grind
  rw[q0,n0,e];rfl
 obtain rfl:i=l.length:=by
  grind
 rw[abR]at hS;by_cases hz:l.length=0
 ·obtain⟨rfl,rfl⟩:=h0 hz;exact .inl ⟨rfl,aa4 _,hS,by omega,.inr (adE.1 hz),aa4 _,λ_ _ _ _=>rfl⟩
 have:=h1 (by omega);exact .inr ⟨.inr (by omega),hS,by omega,.inl (by omega),r0,g0⟩
theorem LO(H:cC X){f:Fc}(h:(0<=f.un/\f.un<=99)/\ -2<=f.side/\f.side<=7):C X (.func 95) [f.v] m m.n aeR m:=by
 refine Cl.cd (H.no _ rfl) (aa3 func95) rfl rfl ?_;rw[F95];dsimp only[δ,ε,ρ,υ,φ,χ,ψ];refine av λm1 d0 b0 e0=>?_;have g1:m1.get m.n=.cells f.c 53 none:=b0;obtain⟨a0,a1, -⟩:=tP g1;unfold ptrTo;refine aW (λvs mm lo=>vs=[aeR]/\m.n<=lo) (λQ hQ=>?_) ?_
 ·rw[cW,ae,a0,ae];refine aE (iB H) ?_;rw[show cQ f.un 0 99=true by unfold cQ;rw[abl h.1.1,abl h.1.2];rfl,aj,bL,dm,ae,a1,ae];refine aE (iB H) ?_;rw[show cQ f.side (-2) 7=true by unfold cQ;rw[abl h.2.1,abl h.2.2];rfl];exact hQ _ _ _ ⟨rfl,by omega⟩
 rintro _ mm l ⟨rfl,hl⟩;rw[aB];exact⟨rfl,hl⟩
theorem Fi(hX:cC X){x:Mo}(h:0<=x.a/\x.a < x.b/\x.b<=99/\0<=x.dA/\x.dA<=7):C X (.func 97) [x.v] m m.n aeR m:=by
 refine Cl.cd (hX.no _ rfl) (aa3 func97) rfl rfl ?_;rw[F97];dsimp only[δ,ε,η,ρ,υ,φ,χ];refine av λm1 b0 H d0=>?_;have g1:m1.get m.n=.cells x.c 109 none:=H;obtain⟨a0,a1,a2, -⟩:=NX g1;unfold ptrTo;simp only[dQ,eH,oG,ae];refine aW (λvs mm lo=>vs=[aeR]/\m.n<=lo) (λQ hQ=>?_) ?_
 ·simp only[a0,a1,a2,ae,cB,aM,cp,aj];rw[abl h.1,bL,abl h.2.1,bL,abl h.2.2.1,bL];refine aE (iB hX) ?_;rw[show cQ x.dA 0 7=true by unfold cQ;rw[abl h.2.2.2.1,abl h.2.2.2.2];rfl];exact hQ _ _ _ ⟨rfl,by omega⟩
 rintro _ mm l ⟨rfl,hl⟩;rw[aB];exact⟨rfl,hl⟩
theorem S2{b:Nat}{v:aeM}{g:Option Nat}(h:m.get b=.cells [v] 174 g):ah TE m 174 (aeK b 0)=some v:=by rw[Of,aI h];rfl
abbrev HJ(H cb:Nat):aeM:=.func (.func 92) #[] #[.pointer (some ⟨H,0,none⟩),.pointer (some ⟨cb,0,none⟩)]
theorem Qu{x:UW}:aG TE m 28 1 [(0,x.u.v x.w)]=some (.slice (some ⟨m.n,0,none⟩) 1 1,m.push (.cells x.c 60 none)):=by kernel_rfl
set_option maxHeartbeats 1000000 in
theorem LL(hX:cC X){mp sb cb nb yb:Nat}{ids:List Int}{y:Yd}{r r2 st rc mo:aeM}{x:KW}(hN:lO mp sb cb ids m)(hd:mp < m.n/\mp≠sb/\mp≠cb/\sb≠cb)(gn:m.get nb=.cells [HJ sb cb] 174 none)
  (gy:m.get yb=.cells (yc r r2 st rc mo) 38 none) {l:List UW} (hF:dg m l r) (hlen:l.length < 1000000) (q0:∀u∈l,u.u.id≠x.u.id) (r0:Sl m x.u.shape x.w) (s0:x.u.shape.length < 1000000) (j0:Sl m x.ms x.mv)
  (u0:cn [x.u]) (v0:iV [x.u] x.ms) (y0:(ids++x.ms.map Mk.id).Nodup) (z0:ids.length+x.ms.length < 1000000):
  ∃b m',C X (.func 93) [x.v,.pointer (some ⟨nb,0,none⟩),.pointer (some ⟨yb,0,none⟩)] m b aeR m'/\lO mp sb cb (ids++x.ms.map Mk.id) m'/\min (min mp cb) m.n<=b/\(b<=cb\/x.ms=[])/\m.n<=m'.n/\∀c,c < m.n->c≠mp->c≠cb->m'.get c=m.get c:=by
 have c1:=M.bk hN.ec;have d1:=M.bk hN.es;have e1:=M.bk gn;have g1:=M.bk gy;have key:=Cl.iX (E:=TE) (X:=X) (f:=93) (args:=[x.v,.pointer (some ⟨nb,0,none⟩),.pointer (some ⟨yb,0,none⟩)]) (m:=m) (R:=λrv m' b=>rv=aeR/\lO mp sb cb (ids++x.ms.map Mk.id) m'/\min (min mp cb) m.n<=b/\(b<=cb\/x.ms=[])/\m.n<=m'.n/\∀c,c < m.n->c≠mp->c≠cb->m'.get c=m.get c) (hX.no _ rfl) (aa3 func93) rfl ?_
 ·obtain⟨rv,m',b,H,rfl,h⟩:=key;exact⟨b,m',H,h⟩
 rw[F93];dsimp only[δ,ε,θ,ι,ν,ξ,ο,ρ,ς,υ,φ,χ,Γ,ω];refine av λm1 i1 A0 B0=>?_;have gk:m1.get m.n=.cells x.c 113 none:=A0;have x1:Ext m m1:=⟨by omega,B0⟩
 have j1:m.n < m1.n:=by omega
 unfold ptrTo;simp only[cq,eG,cX,bs,ae];rw[S2 (x1.cells gn),ae,(LF gk).2.2.1,ae,cf];obtain⟨rv,k0,m9,c9,C0,J0,h0,n9,S8⟩:=HI (m:=m1) hX (hN.aF hd.1 x1) (j0.aF x1) ⟨by omega,hd.2⟩ y0 z0;refine aE c9 ?_
 have kp:∀{α:Type} [aZ α] {l:List α} {v:aeM},aZ.eB α=[]->aZ.ty α≠3->Sl m l v->Sl m9 l v:=λ{α _ l v} D0 E0 h=>h.aY λc cs t g H ht=>by rw[D0,abE]at ht;subst ht;rw[S8 c (by have:=M.bk H;omega) (λe=>by subst e;rw[hN.em]at H;cases H) (λe=>by subst e;rw[hN.ec]at H;simp only[Ob.cells.injEq]at H;exact E0 H.2.1.symm),x1.cells H]
 have i0:m9.get m.n=.cells x.c 113 none:=by grind
 have F0:m9.get yb=.cells (yc r r2 st rc mo) 38 none:=by rw[S8 _ (by omega) (λe=>by subst e;rw[hN.em]at gy;cases gy) (λe=>by subst e;rw[hN.ec]at gy;cases gy)];exact x1.cells gy
 have G0:dg m9 l r:=hF.aY λc cs t g H ht=>by rw[S8 c (by have:=M.bk H;omega) (λe=>by subst e;rw[hN.em]at H;cases H) (λe=>by subst e;rw[hN.ec]at H;cases H;exact absurd ht (by decide)),x1.cells H]
 have g0:=kp rfl (by decide) r0;have b0:=kp rfl (by decide) j0;rw[(fF F0).1,ae,(LF i0).1,ae];refine aE (LN hX G0 hlen q0) ?_;rw[aH,aH];simp only[aa8,aa7,ae];refine av λm21 K0 l0 L0=>?_;refine aC du l0 rfl rfl rfl λm22 N0 O0 Q0=>?_;have a0:Ext m9 m22:=⟨by omega,by grind⟩
 have n22:=a0.n;have n0:mp < m9.n:=by omega
 refine aW (λvs m' lo=>vs=[aeR]/\Ext m22 m'/\lo=min (min m.n k0) lo/\min m.n k0<=lo) (λQ hQ=>?_) ?_
 ·rw[bj,ae,aj];show iW true _ _;rw[bL,(LF (a0.cells i0)).2.1,ae,Qu (x:=⟨x.u,x.w⟩),aA];obtain⟨m32,d0⟩:∃q,q=m22.push (.cells (UW.c ⟨x.u,x.w⟩) 60 none):=⟨_,rfl⟩
  rw[<-d0];have H0:m32.get m22.n=.cells (UW.c ⟨x.u,x.w⟩) 60 none:=by rw[d0];exact M.aU
  have e0:Ext m22 m32:=d0 ▸ Ext.refl.push;have o0:=Ip H0 g0.one (g0.aF (a0.trans e0)) s0;have n32:=e0.n;rw[show aJ TE 30 [(0,.slice (some ⟨m22.n,0,none⟩) 1 1)]=some (.agg #[.slice (some ⟨m22.n,0,none⟩) 1 1])from zt rfl,ae,(LF (e0.cells (a0.cells i0))).2.2.1,ae];rw[show aJ TE 33 [(0,.agg #[.slice (some ⟨m22.n,0,none⟩) 1 1]),(1,x.mv)]=some (.agg #[.slice (some ⟨m22.n,0,none⟩) 1 1,x.mv]) by rw[nY rfl (by rw[b0.cells];rfl),b0.cells];rfl,ae];refine aE (Bp hX o0 u0 (b0.aF (a0.trans e0)) v0) ?_;exact hQ _ _ _ ⟨rfl,e0,by omega,by omega⟩
 rintro _ m' lo ⟨rfl,x',a1,b1⟩;rw[aB];have I0:=C0.aF n0 (a0.trans x');have n':=x'.n;by_cases H:lo < m.n;·refine .inr ⟨.inr H,rfl,I0,by omega,h0.imp (λh=>by omega) id,by omega,λc h1 h2 h3=>by rw[x'.get c (by omega),a0.get c (by omega),S8 c (by omega) h2 h3,x1.get c h1]⟩
 have p0:x.ms=[]:=by
  grind
 refine .inl ⟨rfl,by omega,by first |rfl |trivial,?_,by omega,.inr p0,aa4 _,by grind⟩;rw[p0,adp,abJ];exact hN
theorem Mb:TE.ty.get 113=some ag.t113:=by kernel_rfl
theorem LV(hX:cC X){l:List Fc}{v:aeM}(hl:Sl m l v)(hlen:l.length < 1000000)(a0:∀f∈l,(0<=f.un/\f.un<=99)/\ -2<=f.side/\f.side<=7)(H:l.Pairwise ik):
  C X (.func 100) [v,.func (.func 101) #[] #[],.func (.func 95) #[] #[]] m m.n aeR m:=by
 refine Cl.cd (hX.no _ rfl) (aa3 func100) rfl rfl ?_;rw[Wz]
 refine GZ gH rfl sA rfl (λmm b cs h hc=>?_) rfl Fc.c (λm x cs h=>h) hlen (λi m1 lo=>Ext m m1/\m.n<=lo) (λi m1 m2 lo h hx=>⟨h.1.trans hx,h.2⟩) (λi m1 lo b h hb=>⟨h.1,by omega⟩) (λi m1 lo h=>h.1.n) (λi m1 lo h=>hl.aF h.1)
  (λi x m1 lo hx h=>⟨m1.n,m1,LO hX (a0 x (abb hx)),⟨h.1,by have:=h.1.n;omega⟩,aa4 _,λ_ _ _=>rfl⟩) (λi x y m1 hx hy _=>?_) ⟨.refl,aa4 _⟩ (λm2 lo h=>⟨rfl,h.2⟩)
 ·rw[xJ,aN (n:=2) h (by rw[hc];decide),abU,aby (by rw[hc];decide)];rfl
 refine⟨_,?_,Fj hX x y⟩;have h1:=aa9.1 hx;have h2:=aa9.1 hy;have:=abF.1 H i (i+1) h1.1 h2.1 (by omega);rw[h1.2,h2.2]at this;exact Cn this
theorem LR(hX:cC X){l:List Mo}{v:aeM}(hl:Sl m l v)(hlen:l.length < 1000000)(a0:∀x∈l,0<=x.a/\x.a < x.b/\x.b<=99/\0<=x.dA/\x.dA<=7)(H:l.Pairwise lP):
  C X (.func 102) [v,.func (.func 103) #[] #[],.func (.func 97) #[] #[]] m m.n aeR m:=by
 refine Cl.cd (hX.no _ rfl) (aa3 func102) rfl rfl ?_;rw[Wx]
 refine GZ ny rfl BD rfl (λmm b cs h hc=>?_) rfl Mo.c (λm x cs h=>h) hlen (λi m1 lo=>Ext m m1/\m.n<=lo) (λi m1 m2 lo h hx=>⟨h.1.trans hx,h.2⟩) (λi m1 lo b h hb=>⟨h.1,by omega⟩) (λi m1 lo h=>h.1.n) (λi m1 lo h=>hl.aF h.1)
  (λi x m1 lo hx h=>⟨m1.n,m1,Fi hX (a0 x (abb hx)),⟨h.1,by have:=h.1.n;omega⟩,aa4 _,λ_ _ _=>rfl⟩) (λi x y m1 hx hy _=>?_) ⟨.refl,aa4 _⟩ (λm2 lo h=>⟨rfl,h.2⟩)
 ·rw[Eh,aN (n:=3) h (by rw[hc];decide),abU,aby (by rw[hc];decide)];rfl
 refine⟨_,?_,Dl hX x y⟩;have h1:=aa9.1 hx;have h2:=aa9.1 hy;have:=abF.1 H i (i+1) h1.1 h2.1 (by omega);rw[h1.2,h2.2]at this;exact Cn this
abbrev jT(l:List KW):List Int:=(l.flatMap KW.ms).map Mk.id
theorem AS{H:List KW}{i:Nat}{x:KW}(h:H[i]?=some x):jT (H.take (i+1))=jT (H.take i)++x.ms.map Mk.id:=by unfold jT;rw[abt,h,acG,abM];simp
set_option maxHeartbeats 1000000 in
theorem LU(hX:cC X){mp sb cb nb yb:Nat}{ids:List Int}{y:Yd}{r r2 st rc mo:aeM}{H:List KW}(hN:lO mp sb cb ids m)(hd:mp < m.n/\mp≠sb/\mp≠cb/\sb≠cb)(gn:m.get nb=.cells [HJ sb cb] 174 none)
  (gy:m.get yb=.cells (yc r r2 st rc mo) 38 none) {l:List UW} (hF:dg m l r) (hlen:l.length < 1000000) (hK:Lv m H st) (j0:H.length < 1000000) (k0:∀x∈H,∀u∈l,u.u.id≠x.u.id)
  (l0:∀x∈H,cn [x.u]) (n0:∀x∈H,iV [x.u] x.ms) (g0:(ids++jT H).Nodup) (o0:(ids++jT H).length < 1000000) (h0:H.Pairwise λa b=>a.u.id < b.u.id):
  ∃b m',C X (.func 98) [st,.func (.func 99) #[] #[],.func (.func 93) #[] #[.pointer (some ⟨nb,0,none⟩),.pointer (some ⟨yb,0,none⟩)]] m b aeR m'/\lO mp sb cb (ids++jT H) m'/\min (min mp cb) m.n<=b/\m.n<=m'.n/\∀c,c < m.n->c≠mp->c≠cb->m'.get c=m.get c:=by
 have q0:=M.bk hN.ec;have key:=Cl.iX (E:=TE) (X:=X) (f:=98) (args:=[st,.func (.func 99) #[] #[],.func (.func 93) #[] #[.pointer (some ⟨nb,0,none⟩),.pointer (some ⟨yb,0,none⟩)]]) (m:=m) (R:=λrv m' b=>rv=aeR/\lO mp sb cb (ids++jT H) m'/\min (min mp cb) m.n<=b/\m.n<=m'.n/\∀c,c < m.n->c≠mp->c≠cb->m'.get c=m.get c) (hX.no _ rfl) (aa3 func98) rfl ?_
 ·grind
 rw[Wy]
 have b0:∀{m1:M},(∀c,c < m.n->c≠mp->c≠cb->m1.get c=m.get c)->∀c cs t g,m.get c=.cells cs t g->t≠3->m1.get c=.cells cs t g:=λd0 c cs t g hc ht=>by rw[d0 c (M.bk hc) (λe=>by subst e;rw[hN.em]at hc;cases hc) (λe=>by subst e;rw[hN.ec]at hc;cases hc;exact ht rfl),hc]
 have kK:∀{m1:M},(∀c,c < m.n->c≠mp->c≠cb->m1.get c=m.get c)->Lv m1 H st:=λd0=>hK.aY λc cs t g hc ht=>b0 d0 c cs t g hc (by grind)
 refine GZ gZ rfl Mb rfl (λmm b cs h hc=>?_) rfl KW.c (λm x cs h=>h.1) j0
  (λi m1 lo=>lO mp sb cb (ids++jT (H.take i)) m1/\min (min mp cb) m.n<=lo/\m.n<=m1.n/\(∀c,c < m.n->c≠mp->c≠cb->m1.get c=m.get c)/\(lo<=cb\/(H.take i).flatMap KW.ms=[]))
  (λi m1 m2 lo h hx=>⟨h.1.aF (by grind) hx,h.2.1,by have:=hx.n;have:=h.2.2.1;omega,λc h1 h2 h3=>by rw[hx.get c (by grind),h.2.2.2.1 c h1 h2 h3],h.2.2.2.2⟩)
  (λi m1 lo b h hb=>⟨h.1,by grind,h.2.2.1,h.2.2.2.1,h.2.2.2.2.imp (λh=>by omega) id⟩) (λi m1 lo h=>h.2.2.1) (λi m1 lo h=>(kK h.2.2.2.1).sl)
  (λi x m1 lo hx h=>?_) (λi x y m1 hx hy _=>?_) ⟨by grind,by omega,aa4 _,λ_ _ _ _=>rfl,.inr rfl⟩ (λm2 lo h=>?_)
 ·rw[Eg,aN (n:=7) h (by rw[hc];decide),abU,aby (by rw[hc];decide)];rfl
 ·have⟨h1,h2,h3,h4,h5⟩:=h;have a0:=abb hx;have e0:=kK h4
  have p0:ids++jT H=(ids++jT (H.take i)++x.ms.map Mk.id)++jT (H.drop (i+1)):=by
   conv=>lhs;rw[<-ab5 (i+1) H]
   have e:jT (H.take (i+1)++H.drop (i+1))=jT (H.take (i+1))++jT (H.drop (i+1)):=by unfold jT;rw[acG,abM]
   rw[e,AS hx];simp only[abL]
  rw[p0]at g0 o0
  have i0:(ids++jT (H.take i)).length+x.ms.length < 1000000:=by
   have e1:(ids++jT (H.take i)++x.ms.map Mk.id++jT (H.drop (i+1))).length=((ids++jT (H.take i)).length+x.ms.length)+(jT (H.drop (i+1))).length:=by rw[abO,abO,abH]
   omega
  obtain⟨b,m2,c1,c2,c3,c4,c5,c6⟩:=LL (m:=m1) (x:=x) (y:=y) hX h1 ⟨by omega,hd.2⟩ (b0 h4 _ _ _ _ gn (by decide)) (b0 h4 _ _ _ _ gy (by decide)) (hF.aY λc cs t g hc ht=>b0 h4 c cs t g hc (by rcases ht with rfl |rfl <;>decide)) hlen (k0 x a0) (e0.sh x a0) (e0.ln x a0) (e0.mv x a0) (l0 x a0) (n0 x a0) (adl.1 g0).1 i0;refine⟨b,m2,c1,⟨?_,by omega,by omega,λc k1 k2 k3=>by rw[c6 c (by omega) k2 k3,h4 c k1 k2 k3],?_⟩,c5,λc k1 k2=>c6 c k2 (by omega) (by omega)⟩;·rw[AS hx,<-abL];exact c2
  rcases c4 with c4 |c4;·exact .inl (by omega)
  rcases h5 with h5 |h5;·exact .inl (by omega)
  refine .inr ?_;rw[abt,hx,acG,h5];simp[c4]
 ·refine⟨-1,by decide,LQ hX ?_⟩;have h1:=aa9.1 hx;have h2:=aa9.1 hy;have:=abF.1 h0 i (i+1) h1.1 h2.1 (by omega);rw[h1.2,h2.2]at this;exact this
 rw[abR]at h;have⟨h1,h2,h3,h4,h5⟩:=h;by_cases hc:lo < m.n;·exact .inr ⟨.inr hc,rfl,h1,by omega,h3,h4⟩
 have h5:=h5.resolve_left (by omega);refine .inl ⟨rfl,by omega,rfl,?_,by omega,aa4 _,λ_ _ _ _=>rfl⟩;rw[show jT H=[] by unfold jT;rw[h5];rfl,abJ];exact hN
theorem Cq{y:Yd}(hP:rz y){H:List KW}(a0:Qo H=y.st){x:KW}(hx:x∈H):x.k∈y.st:=by
 grind
theorem Sn{y:Yd}{kl:List KW}(H:Qo kl=y.st):(allM y.ms y.st).map Mk.id=y.ms.map Mk.id++jT kl:=by
 unfold allM jT
 rw[abM,<-H]
 congr 2
 unfold Qo
 rw[List.flatMap_map]
set_option maxHeartbeats 1000000 in
theorem Al(hX:cC X){y:Yd}{r r2 st rc mo:aeM}(hV:oO m y r r2 st rc mo)(hP:rz y):C X (.func 40) [yv r r2 st rc mo] m m.n aeR m:=by
 refine Cl.cd (hX.no _ rfl) (aa3 func40) rfl rfl ?_;have⟨⟨l,l0,hF⟩,H0,⟨kl,e0,hK⟩,I0,J0⟩:=hV;have c1:cn (bP l):=by rw[l0];exact hP.tR
 have d1:iV (bP l) y.ms:=by rw[l0];exact hP.HO
 have o1:l.length<=12:=by have:=hP.tR.len;rwa[<-l0,cS]at this
 have p1:kl.length<=12:=by have:=hP.Tx;rwa[<-e0,tG]at this
 have r1:=hP.TJ;have u1:=hP.WQ;have o0:=Sn (y:=y) e0;have g0:=hP.Qm;have v1:(y.ms.map Mk.id++jT kl).length<=20:=by rw[<-o0,abH];exact hP.Lx
 rw[o0]at g0;rw[F40];dsimp only[δ,ε,η,ι,κ,ο,ρ,ς,υ,φ,χ,Δ,Θ,Λ];refine av λm1 J1 e1 h1=>?_;have g1:m1.get m.n=.cells (yc r r2 st rc mo) 38 none:=e1;have x1:Ext m m1:=⟨by omega,h1⟩
 unfold ptrTo;simp only[cX,eW,eh,iP,cN,ae];refine aW (λvs mm lo=>vs=[aeS]/\m1=mm/\m.n<=lo) (λQ hQ=>?_) ?_
 ·rw[(fF g1).1,ae];refine aE (Bp hX (hF.aF x1) c1 (H0.aF x1) d1) ?_;rw[bj,ae,aj];show iW false _ _;rw[aO,(fF g1).2.1,ae,(hK.aF x1).sl.len gZ,aA,bV,ae,aj,abk (by omega),aO,(fF g1).2.2.1,ae,(I0.aF x1).len gH,aA,bV,ae,aj,abk (by omega),aO,(fF g1).2.2.2.1,ae,(J0.aF x1).len ny,aA,bV,ae,abk (by omega)];exact hQ _ _ _ ⟨rfl,rfl,by omega⟩
 rintro _ _ lo ⟨rfl,rfl,K1⟩;rw[aB,aj,aO];refine av λh0 w1 p0 K0=>?_;refine av λL1 y1 q0 r0=>?_;refine cg BC q0 rfl (by show 0+1<=1;decide) rfl λa0 z1 s0 u0=>?_;refine av λN1 A1 v0 i0=>?_;refine cg uz v0 rfl (by show 0+1<=1;decide) rfl λn0 B1 y0 j0=>?_;refine av λO1 C1 z0 b0=>?_;refine cg To z0 rfl (by show 0+1<=1;decide) rfl λH D1 A0 d0=>?_;have gn:H.get n0.n=.cells [HJ h0.n a0.n] 174 none:=A0;have F0:Ext m1 H:=⟨by omega,by grind⟩
 have hN:lO m1.n h0.n a0.n [] H:=by
  refine⟨?_,?_,?_⟩;·rw[d0 _ (by omega),b0 _ (by omega),j0 _ (by omega),i0 _ (by omega),u0 _ (by omega),r0 _ (by omega)];exact p0
  ·rw[d0 _ (by omega),b0 _ (by omega),j0 _ (by omega),i0 _ (by omega)];exact s0
  rw[d0 _ (by omega),b0 _ (by omega)];exact y0
 have P1:m1.n < h0.n/\h0.n < a0.n/\a0.n < n0.n/\n0.n < H.n:=by omega
 clear p0 K0 q0 r0 s0 u0 v0 i0 y0 j0 z0 b0 A0 d0;have B0:=x1.trans F0;rw[S2 gn,ae,(xR (F0.cells g1)).2.2,ae,cf];have E1:=(adl.1 g0).1;have T1:y.ms.length<=20:=hP.HO.len;obtain⟨rv,a2,i1,j1,C0,F1, -,n44,L0⟩:=HI (m:=H) hX hN (H0.aF B0) ⟨by omega,by omega,by omega,by omega⟩ (by grind) (by grind);refine aE j1 ?_;rw[ab6]at C0
 have N0:∀{ma:M},(∀c,c < H.n->c≠m1.n->c≠a0.n->ma.get c=H.get c)->H.n<=ma.n->Ext m ma/\ma.get m.n=.cells (yc r r2 st rc mo) 38 none/\ma.get n0.n=.cells [HJ h0.n a0.n] 174 none:=λO0 hn=>
  ⟨⟨by omega,λc hc=>by rw[O0 c (by omega) (by omega) (by omega),B0.get c hc]⟩,by rw[O0 _ (by omega) (by omega) (by omega)];exact F0.cells g1,by grind⟩
 have⟨Q0,D0,a1⟩:=N0 L0 n44;refine aW (λvs mm lo=>vs=[aeR]/\m.n<=lo) (λQ hQ=>?_) ?_
 ·rw[(fF D0).2.1,ae]
  obtain⟨b2,k1,l1,k0,G1,c2,H1⟩:=LU (m:=i1) (y:=y) hX C0 ⟨by omega,by omega,by omega,by omega⟩ a1 D0 (hF.aF Q0) (by omega) (hK.aF Q0) (by omega)
   (λx hx u hu=>by have:=hP.off x.k (Cq hP e0 hx) u.u (by rw[<-l0];exact abQ.2 ⟨u,hu,rfl⟩);exact this)
   (λx hx=>hP.Ox x.k (Cq hP e0 hx)) (λx hx=>hP.Gd x.k (Cq hP e0 hx)) g0 (by omega)
   (by have:=hP.xN;rw[<-e0]at this;exact(adm (f:=KW.k) (R:=λa b:Kp=>a.un.id < b.un.id)).1 this)
  refine aE l1 ?_;have G0:∀c,c < H.n->c≠m1.n->c≠a0.n->k1.get c=H.get c:=by grind
  obtain⟨b1,E0,I1⟩:=N0 G0 (by omega);rw[aj,bL,(fF E0).2.2.1,ae];refine aE (LV hX (I0.aF b1) (by omega) hP.Ns hP.DH) ?_;rw[aj,bL,(fF E0).2.2.2.1,ae];refine aE (LR hX (J0.aF b1) (by omega) hP.NW hP.DX) ?_;rw[aj,bL,Ib k0.es,ae,Oo k0.em,aA,Cp k0.ec,ae,aS,ae,aj,abl rfl,bL,ae,cp,ae,abl (by omega)];exact hQ _ _ _ ⟨rfl,by omega⟩
 rintro _ mm l ⟨rfl,hl⟩;rw[aB];exact⟨rfl,hl⟩
end
section
section
variable {X:aK}{x0 x1 x2:aeM}{m:M}{R:aeN->M->Nat->Prop}{W:Words}
theorem F46:dE TE (aL TE X) f46 [x0,x1,x2] m R=jn (λa=>η .leq 3 x1 x0 λb=>aR b (η .leq 3 x0 x2 λb=>a [b] m m.n) (a [aeS] m m.n)) (λa b c=>un a λa _=>R [a] b c):=by kernel_rfl
theorem F34:dE TE (aL TE X) f34 [x0,x1] m R=ρ m x0 53 λa=>ρ a x1 53 λb=>ε 53 (υ m) 0 λc=>δ b 3 c λc=>ε 53 (υ a) 0 λd=>δ b 3 d λd=>χ X 59 [c,d] b λc d f=>(b.n<=f)/\(ε 53 (υ m) 1 λb=>δ d 3 b λb=>ε 53 (υ a) 1 λa=>δ d 3 a λa=>χ X 59 [b,a] d λa b d=>ν b 26 2 [(0,c),(1,a)] λa b=>χ X 80 [a] b λa b c=>R [a] b (ω m.n f d c)):=by kernel_rfl
theorem F62:dE TE W f62 [x0,x1] m R=W.Lp (λa b c d=>W.un b λb f=>W.un f λf _=>W.aP (aw TE c .len [41] [x0]) λg _=>W.ai (az TE .lss 3 f g) λg=>aR g (W.ai (az TE .sub 3 f (.int .i64 1)) λg=>W.ai (an TE 41 x0 g) λg=>W.ai (ah TE c 79 g) λg=>W.ai (an TE 41 x0 f) λh=>W.ai (ah TE c 79 h) λh=>ia x1 λi j k=>W.bh i (j.toList++([g,h]++k.toList)) c λc g h=>W.ai (az TE .geq 3 c (.int .i64 0)) λc=>aR c (R [aeS] g (min d h)) (W.ai (az TE .add 3 f (.int .i64 1)) λc=>a [b,c] g (min d h))) (R [aeR] c d)) [aeS,.int .i64 1] m m.n:=by kernel_rfl
theorem aaz:dE TE W f119 [x0,x1] m R=W.Lp (λa b c d=>W.un b λb f=>W.un f λf _=>W.aP (aw TE c .len [35] [x0]) λg _=>W.ai (az TE .lss 3 f g) λg=>aR g (W.ai (az TE .sub 3 f (.int .i64 1)) λg=>W.ai (an TE 35 x0 g) λg=>W.ai (ah TE c 53 g) λg=>W.ai (an TE 35 x0 f) λh=>W.ai (ah TE c 53 h) λh=>ia x1 λi j k=>W.bh i (j.toList++([g,h]++k.toList)) c λc g h=>W.ai (az TE .geq 3 c (.int .i64 0)) λc=>aR c (R [aeS] g (min d h)) (W.ai (az TE .add 3 f (.int .i64 1)) λc=>a [b,c] g (min d h))) (R [aeR] c d)) [aeS,.int .i64 1] m m.n:=by kernel_rfl
theorem F57:dE TE (aL TE X) f57 [x0] m R=ρ m x0 79 λa=>jn (λb=>ε 79 (υ m) 0 λc=>δ a 3 c λc=>χ X 46 [c,φ 0,φ 99] a λa c d=>aR a (ε 79 (υ m) 1 λa=>δ c 35 a λa=>κ c .len [35] [a] λa _=>η .leq 3 a (φ 6) λa=>aR a (ε 79 (υ m) 1 λa=>δ c 35 a λa=>χ X 64 [a,.func (.func 118) #[] #[]] c λa c f=>ο .not a λa=>aR a (ε 79 (υ m) 1 λa=>δ c 35 a λa=>χ X 119 [a,.func (.func 34) #[] #[]] c λa c g=>b [a] c (ω m.n d f g)) (b [aeS] c (ψ m.n d f))) (b [aeS] c (min m.n d))) (b [aeS] c (min m.n d))) (λa b c=>un a λa _=>R [a] b c):=by kernel_rfl
theorem aaA:dE TE (aL TE X) f118 [x0] m R=ρ m x0 53 λa=>jn (λb=>ε 53 (υ m) 0 λc=>δ a 3 c λc=>χ X 46 [c,φ 0,φ 99] a λa c d=>ο .not a λa=>aR a (b [aeR] c (min m.n d)) (ε 53 (υ m) 1 λa=>δ c 3 a λa=>χ X 46 [a,φ (-2),φ 7] c λa c f=>ο .not a λa=>b [a] c (ψ m.n d f))) (λa b c=>un a λa _=>R [a] b c):=by kernel_rfl
theorem F84:dE TE (aL TE X) f84 [x0,x1] m R=ρ m x0 38 λa=>ρ a x1 3 λb=>ς b [φ 0,φ 0,φ 0,aeQ,φ 0,φ 0] 60 λc=>ε 38 (υ m) 0 λd=>ε 33 d 0 λd=>ε 30 d 0 λd=>δ c 28 d λd=>χ X 145 [d,.func (.func 146) #[] #[υ a]] c λa c d=>η .lss 3 a (φ 0) λf=>aR f (θ 60 [] λa=>ι c 60 (υ b) a λa c=>ai (ah TE a 60 (υ b)) λb=>R [b,aeS] a (ψ m.n d c)) (ε 38 (υ m) 0 λf=>ε 33 f 0 λf=>ε 30 f 0 λf=>δ c 28 f λf=>ζ 28 f a λa=>δ c 60 a λa=>ι c 60 (υ b) a λa c=>ai (ah TE a 60 (υ b)) λb=>R [b,aeR] a (ψ m.n d c)):=by kernel_rfl
theorem aam:dE TE (aL TE X) f146 [x0,x1] m R=ρ m x0 60 λa=>ε 60 (υ m) 0 λb=>δ a 3 b λb=>δ a 3 x1 λc=>η .eql 3 b c λb=>R [b] a m.n:=by kernel_rfl
theorem F55:dE TE (aL TE X) f55 [x0,x1] m R=ρ m x0 38 λa=>ρ a x1 62 λb=>ε 62 (υ a) 0 λc=>δ b 3 c λc=>jn (λa=>η .eql 3 c (φ 4) λd=>aR d (a [d] b m.n) (η .eql 3 c (φ 5) λc=>a [c] b m.n)) (λb d f=>un b λb _=>aR b (ε 62 (υ a) 2 λa=>δ d 3 a λa=>χ X 117 [a,υ m] d λa b c=>R [a] b (min f c)) (η .eql 3 c (φ 9) λb=>aR b (jn (λb=>ε 62 (υ a) 2 λc=>δ d 3 c λc=>χ X 117 [c,υ m] d λc d g=>aR c (ε 62 (υ a) 3 λa=>δ d 3 a λa=>χ X 117 [a,υ m] d λa c d=>b [a] c (ψ f g d)) (b [aeS] d (min f g))) (λa b c=>un a λa _=>R [a] b c)) (R [aeR] d f))):=by kernel_rfl
theorem aaB:dE TE (aL TE X) f117 [x0,x1] m R=δ m 38 x1 λa=>χ X 84 [a,x0] m λa b c=>ξ a 0 λd=>ξ a 1 λa=>ς b [φ 0,φ 0,φ 0,aeQ,φ 0,φ 0] 60 λf=>ι f 60 (υ b) d λb d=>R [a] b (ψ m.n c d):=by kernel_rfl
theorem F47:dE TE (aL TE X) f47 [x0] m R=ρ m x0 43 λa=>ς a [φ 0,aeQ] 75 λb=>ε 43 (υ m) 1 λc=>δ b 39 c λc=>κ b .len [39] [c] λc _=>ε 43 (υ m) 2 λd=>δ b 40 d λd=>θ 75 [(0,c),(1,d)] λc=>ι b 75 (υ a) c λb c=>ai (ah TE b 75 (υ a)) λa=>R [a] b (min m.n c):=by kernel_rfl
theorem F23:dE TE (aL TE X) f23 [x0] m R=ρ m x0 43 λa=>jn (λb=>δ a 43 (υ m) λc=>χ X 47 [c] a λa c d=>χ X 53 [a] c λa c f=>ο .not a λa=>aR a (b [aeR] c (ψ m.n d f)) (ε 43 (υ m) 0 λa=>δ c 38 a λa=>χ X 40 [a] c λa c g=>ο .not a λa=>aR a (b [aeR] c (ω m.n d f g)) (ε 43 (υ m) 3 λa=>δ c 41 a λa=>κ c .len [41] [a] λa _=>η .gtr 3 a (φ 10) λa=>b [a] c (ω m.n d f g)))) (λa b c=>un a λa _=>aR a (R [aeS] b c) (jn (λa=>ε 43 (υ m) 1 λd=>δ b 39 d λd=>χ X 60 [d,.func (.func 54) #[] #[υ m]] b λb d f=>ο .not b λb=>aR b (ε 43 (υ m) 3 λb=>δ d 41 b λb=>χ X 61 [b,.func (.func 56) #[] #[]] d λb d g=>ο .not b λb=>aR b (ε 43 (υ m) 3 λb=>δ d 41 b λb=>χ X 62 [b,.func (.func 58) #[] #[]] d λb d h=>a [b] d (ω c f g h)) (a [aeS] d (ψ c f g))) (a [aeS] d (min c f))) (λa b c=>un a λa _=>R [a] b c))):=by kernel_rfl
theorem F54:dE TE (aL TE X) f54 [x0,x1] m R=ρ m x0 62 λa=>jn (λb=>δ a 62 (υ m) λc=>χ X 51 [c] a λa c d=>ο .not a λa=>aR a (b [aeR] c (min m.n d)) (ε 43 x1 0 λa=>δ c 38 a λa=>δ c 62 (υ m) λf=>χ X 55 [a,f] c λa c f=>ο .not a λa=>b [a] c (ψ m.n d f))) (λa b c=>un a λa _=>R [a] b c):=by kernel_rfl
theorem F56:dE TE (aL TE X) f56 [x0] m R=ρ m x0 79 λa=>δ a 79 (υ m) λb=>χ X 57 [b] a λa b c=>ο .not a λa=>R [a] b (min m.n c):=by kernel_rfl
theorem F58:dE TE (aL TE X) f58 [x0,x1] m R=ρ m x0 79 λa=>ρ a x1 79 λb=>ε 79 (υ m) 0 λc=>δ b 3 c λc=>ε 79 (υ a) 0 λa=>δ b 3 a λa=>χ X 59 [c,a] b λa b c=>R [a] b (min m.n c):=by kernel_rfl
theorem F87:dE TE (aL TE X) f87 [x0,x1] m R=ρ m x0 60 λa=>ρ a x1 143 λb=>ς b [φ 0,φ 0] 53 λc=>ε 60 (υ m) 3 λd=>δ c 58 d λd=>κ c .len [58] [d] λf _=>Lp (λc g h i=>un g λg _=>η .lss 3 g f λf=>aR f (ζ 58 d g λd=>δ h 141 d λd=>ς h [φ 0,φ 0] 141 λf=>ι f 141 (υ h) d λd f=>ε 60 (υ m) 3 λj=>δ d 58 j λj=>η .add 3 g (φ 1) λk=>ε 60 (υ m) 3 λl=>δ d 58 l λl=>κ d .len [58] [l] λl _=>η .rem 3 k l λk=>ζ 58 j k λj=>δ d 141 j λj=>ς d [φ 0,φ 0] 141 λk=>ι k 141 (υ d) j λj k=>jn (λb=>ε 143 (υ a) 0 λc=>δ j 141 c λc=>χ X 150 [c,υ d,υ h] j λc g j=>ο .not c λc=>aR c (ε 143 (υ a) 1 λa=>δ g 141 a λa=>χ X 150 [a,υ d,υ h] g λa c d=>ο .not a λa=>b [a] c (Γ i f k j d)) (b [aeS] g (ω i f k j))) (λa d f=>un a λa _=>aR a (ε 60 (υ m) 0 λa=>δ d 3 a λa=>θ 53 [(0,a),(1,g)] λa=>ι d 53 (υ b) a λa c=>ai (ah TE a 53 (υ b)) λb=>R [b] a (min f c)) (η .add 3 g (φ 1) λa=>c [a] d f))) (ε 60 (υ m) 0 λa=>δ h 3 a λa=>θ 53 [(0,a)] λa=>ι h 53 (υ b) a λa c=>ai (ah TE a 53 (υ b)) λb=>R [b] a (min i c))) [φ 0] c m.n:=by kernel_rfl
theorem aai:dE TE W f150 [x0,x1,x2] m R=aaY W m x0 141 λa=>aaP W 141 x1 0 λb=>aaO W a 3 b λb=>aaP W 141 x2 0 λc=>aaO W a 3 c λc=>aaR W .sub 3 b c λb=>aaP W 141 (aa0 m) 1 λc=>aaO W a 3 c λc=>aaP W 141 x2 1 λd=>aaO W a 3 d λd=>aaR W .sub 3 c d λc=>aaR W .mul 3 b c λb=>aaP W 141 x1 1 λc=>aaO W a 3 c λc=>aaP W 141 x2 1 λd=>aaO W a 3 d λd=>aaR W .sub 3 c d λc=>aaP W 141 (aa0 m) 0 λd=>aaO W a 3 d λd=>aaP W 141 x2 0 λf=>aaO W a 3 f λf=>aaR W .sub 3 d f λd=>aaR W .mul 3 c d λc=>aaR W .neq 3 b c λb=>R [b] a m.n:=by kernel_rfl
theorem F37:dE TE (aL TE X) f37 [x0,x1] m R=ρ m x0 38 λa=>ρ a x1 62 λb=>δ b 38 (υ m) λc=>ε 62 (υ a) 2 λd=>δ b 3 d λd=>χ X 84 [c,d] b λb c d=>ξ b 0 λf=>ξ b 1 λb=>ς c [φ 0,φ 0,φ 0,aeQ,φ 0,φ 0] 60 λg=>ι g 60 (υ c) f λf g=>ο .not b λb=>aR b (R [aeQ] f (ψ m.n d g)) (jn (λb=>ε 62 (υ a) 0 λh=>δ f 3 h λh=>η .eql 3 h (φ 4) λi=>aR i (δ f 60 (υ c) λa=>χ X 85 [a] f λa b c=>χ X 33 [a,.func (.func 34) #[] #[]] b λ_ b f=>R [a] b (Γ m.n d g c f)) (η .eql 3 h (φ 5) λi=>aR i (ε 62 (υ a) 2 λh=>δ f 3 h λh=>ε 62 (υ a) 4 λa=>δ f 3 a λa=>θ 53 [(0,h),(1,a)] λa=>ς f [φ 0,φ 0] 53 λh=>ι h 53 (υ f) a λa h=>δ a 60 (υ c) λc=>χ X 85 [c] a λc i j=>(a.n<=j)/\(δ i 53 (υ f) λa=>χ X 36 [c,a] i λa c i=>aR a (δ c 53 (υ f) λa=>ν c 35 1 [(0,a)] λa b=>R [a] b (Δ m.n d g h j i)) (b [aeQ] c (Δ m.n d g h j i)))) (η .eql 3 h (φ 9) λh=>aR h (δ f 38 (υ m) λh=>ε 62 (υ a) 3 λa=>δ f 3 a λa=>χ X 84 [h,a] f λa f h=>ξ a 0 λi=>ξ a 1 λa=>ς f [φ 0,φ 0,φ 0,aeQ,φ 0,φ 0] 60 λj=>ι j 60 (υ f) i λi j=>δ i 60 (υ c) λk=>δ i 60 (υ f) λl=>χ X 86 [k,l] i λi k l=>ξ i 0 λn=>ξ i 1 λi=>ς k [φ 0,φ 0,φ 0,φ 0,φ 0,φ 0,φ 0,φ 0] 145 λo=>ι o 145 (υ k) n λn o=>jn (λb=>aR a (b [i] n (Θ m.n d g h j l o)) (b [aeS] n (Θ m.n d g h j l o))) (λa d g=>un a λa _=>aR a (δ d 60 (υ c) λa=>ε 145 (υ k) 2 λb=>δ d 143 b λb=>χ X 87 [a,b] d λa b c=>(d.n<=c)/\(δ b 60 (υ f) λd=>ε 145 (υ k) 2 λf=>δ b 143 f λf=>χ X 87 [d,f] b λb d f=>ν d 35 2 [(0,a),(1,b)] λa b=>R [a] b (ψ g c f))) (b [aeQ] d g))) (b [aeQ] f (ψ m.n d g))))) (λa b c=>un a λ_ _=>R [aeQ] b c)):=by kernel_rfl
theorem F18:dE TE (aL TE X) f18 [x0,x1] m R=ρ m x0 38 λa=>ρ a x1 62 λb=>jn (λc=>δ b 38 (υ m) λd=>χ X 40 [d] b λb d f=>ο .not b λb=>aR b (c [aeR] d (min m.n f)) (δ d 62 (υ a) λa=>χ X 51 [a] d λa b d=>ο .not a λa=>c [a] b (ψ m.n f d))) (λb c d=>un b λb _=>aR b (R [aeQ,φ 290] c d) (δ c 38 (υ m) λb=>δ c 62 (υ a) λa=>χ X 37 [b,a] c λa b c=>R [a,φ 0] b (min d c))):=by kernel_rfl
theorem F36:dE TE (aL TE X) f36 [x0,x1] m R=ρ m x1 53 λa=>δ a 53 (υ m) λb=>χ X 83 [x0,b] a λa b c=>η .geq 3 a (φ 0) λa=>R [a] b (min m.n c):=by kernel_rfl
theorem F83:dE TE (aL TE X) f83 [x0,x1] m R=ρ m x1 53 λa=>κ a .len [35] [x0] λb _=>Lp (λa c d f=>un c λc g=>un g λg _=>η .lss 3 g b λb=>aR b (δ d 53 (υ m) λb=>ζ 35 x0 g λh=>δ d 53 h λh=>η .eql 53 b h λb=>aR b (R [g] d f) (η .add 3 g (φ 1) λb=>a [c,b] d f)) (R [φ (-1)] d f)) [φ 0,φ 0] a m.n:=by kernel_rfl
theorem F60:dE TE (aL TE X) f60 [x0,x1] m R=χ X 121 [x0,x1] m λa b c=>η .geq 3 a (φ 0) λa=>R [a] b (min m.n c):=by kernel_rfl
theorem F61:dE TE (aL TE X) f61 [x0,x1] m R=χ X 122 [x0,x1] m λa b c=>η .geq 3 a (φ 0) λa=>R [a] b (min m.n c):=by kernel_rfl
theorem F64:dE TE (aL TE X) f64 [x0,x1] m R=χ X 123 [x0,x1] m λa b c=>η .geq 3 a (φ 0) λa=>R [a] b (min m.n c):=by kernel_rfl
end
end
end Go.Proofs.YtigpcbodmjjaiaaGreatDoor
