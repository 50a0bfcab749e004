/- What functions of the program .. -/
import Derived.Test.YthffgohpkjpkbaaGreatDoorBtJ
import Derived.Sort.Grow
set_option maxHeartbeats 1000000
set_option linter.defProp false
set_option maxRecDepth 100000
open Go Go.D Go.Proofs.Tryz
namespace Go.Proofs.YthffgohpkjpkbaaGreatDoor
variable{m:M}{R:ν->M->Nat->Prop}
section
set_option maxRecDepth 100000
set_option maxHeartbeats 0
variable{W:Words}{x0 x1 x2:O}{m:M}{R:ν->M->Nat->Prop}
def F234:=cN (P:=dB TE W f234 [x0] m R)
def F191:=cN (P:=dB TE W f191 [x0,x1,x2] m R)
def F188:=cN (P:=dB TE W f188 [x0] m R)
def F235:=cN (P:=dB TE W f235 [x0,x1] m R)
def F236:=cN (P:=dB TE W f236 [x0] m R)
abbrev δ:=λa b c=>aS (aC TE a b c)
abbrev ε:=λa b c=>aS (az TE a b c)
abbrev ζ:=λa b c=>aS (aD TE a b c)
abbrev η:=λa b c d=>aS (bE TE a b c d)
abbrev θ:=λa b=>aS (bz TE a b)
abbrev ι:=λa b c d=>dh (bh TE a b c d)
abbrev κ:=λa b c d=>dh (aR TE a b c d)
abbrev aeD:=λa b c d=>dh (aQ TE a b c d)
abbrev ξ:=λa b=>aS (mz a b)
abbrev ο:=λa b=>aS (Dr a b)
abbrev ς:=λ(m:M) (x:O) (t:Nat)=>nW (M.push m (.cells (cells x) t none))
abbrev υ:=λ(m:M) (l:ν) (t:Nat)=>nW (M.push m (.cells l t none))
abbrev χ:=λm:M=>ptrTo m.n
abbrev ψ:=Value.int .i64
abbrev ω:=λ(X:aF) (f:Nat)=>lU TE X (.func f)
abbrev Γ:=λa b c:Nat=>(min (min a b) c)
abbrev Δ:=λa b c d:Nat=>(min (min (min a b) c) d)
abbrev Θ:=λa b c d e:Nat=>(min (min (min (min a b) c) d) e)
abbrev Λ:=λa b c d e f:Nat=>(min (min (min (min (min a b) c) d) e) f)
abbrev Ξ:=λa b c d e f g:Nat=>(min (min (min (min (min (min a b) c) d) e) f) g)
abbrev aeC:=λa b c d e f g h:Nat=>(min (min (min (min (min (min (min a b) c) d) e) f) g) h)
abbrev aeF:=λa b c d e f g h i:Nat=>(min (min (min (min (min (min (min (min a b) c) d) e) f) g) h) i)
abbrev aeA:=λa b c d e f g h i j:Nat=>(min (min (min (min (min (min (min (min (min a b) c) d) e) f) g) h) i) j)
abbrev aaq:=λa b c d e f g h i j k:Nat=>(min (min (min (min (min (min (min (min (min (min a b) c) d) e) f) g) h) i) j) k)
abbrev aar:=λa b c d e f g h i j k l:Nat=>(min (min (min (min (min (min (min (min (min (min (min a b) c) d) e) f) g) h) i) j) k) l)
abbrev aas:=λa b c d e f g h i j k l m:Nat=>(min (min (min (min (min (min (min (min (min (min (min (min a b) c) d) e) f) g) h) i) j) k) l) m)
abbrev aat:=λa b c d e f g h i j k l m n:Nat=>(min (min (min (min (min (min (min (min (min (min (min (min (min a b) c) d) e) f) g) h) i) j) k) l) m) n)
abbrev SQ:=λ(W:Words) a b c=>W.aS (aC TE a b c)
abbrev Ju:=λ(W:Words) a b c=>W.aS (az TE a b c)
abbrev Po:=λ(W:Words) a b c=>W.aS (aD TE a b c)
abbrev Sb:=λ(W:Words) a b c d=>W.aS (bE TE a b c d)
abbrev JK:=λ(W:Words) a b=>W.aS (bz TE a b)
abbrev VG:=λ(W:Words) a b c d=>W.dh (bh TE a b c d)
abbrev I1:=λ(W:Words) a b c d=>W.dh (aR TE a b c d)
abbrev SN:=λ(W:Words) a b c d=>W.dh (aQ TE a b c d)
abbrev aaC:=λ(W:Words) a b=>W.aS (mz a b)
abbrev Uz:=λ(W:Words) a b=>W.aS (Dr a b)
abbrev aaE:=λ(W:Words) (m:M) (x:O) (t:Nat)=>W.nW (M.push m (.cells (cells x) t none))
abbrev RA:=λ(W:Words) (m:M) (l:ν) (t:Nat)=>W.nW (M.push m (.cells l t none))
abbrev Ve:=λm:M=>ptrTo m.n
abbrev DV:=Value.int .i64
abbrev NV:=λ(W:Words) (f:Nat)=>W.lU (.func f)
def F189{W:Words}{x0 x1:O}{m:M}{R:ν->M->Nat->Prop}:dB TE W f189 [x0,x1] m R=W.jn (λa=>NV W 188 [x0] m λb c d=>Uz W .not b λb=>iS b (a [VT] c (min m.n d)) (NV W 188 [x1] c λb c f=>Uz W .not b λb=>a [b] c (Γ m.n d f))) (λa b c=>W.un a λa _=>iS a (R [P6] b c) (NV W 236 [x0] b λa b d=>NV W 236 [x1] b λb f g=>I1 W (M.wl f f.n) .append [303,303] [a,b] λa b=>W.Lp (λb c d f=>W.un c λc g=>W.un g λg _=>I1 W d .len [303] [a] λh _=>Sb W .lss 3 g h λh=>iS h (Sb W .add 3 g (DV 1) λh=>W.Lp (λc d f h=>W.un d λd i=>W.un i λi _=>I1 W f .len [303] [a] λj _=>Sb W .lss 3 i j λj=>iS j (Po W 303 a g λb=>Ju W 307 b 1 λb=>SQ W f 3 b λb=>Po W 303 a i λj=>Ju W 307 j 2 λj=>SQ W f 3 j λj=>Sb W .mul 3 b j λb=>Po W 303 a i λj=>Ju W 307 j 1 λj=>SQ W f 3 j λj=>Po W 303 a g λk=>Ju W 307 k 2 λk=>SQ W f 3 k λk=>Sb W .mul 3 j k λj=>Sb W .sub 3 b j λb=>Po W 303 a g λj=>Ju W 307 j 2 λj=>SQ W f 3 j λj=>Po W 303 a i λk=>Ju W 307 k 0 λk=>SQ W f 3 k λk=>Sb W .mul 3 j k λj=>Po W 303 a i λk=>Ju W 307 k 2 λk=>SQ W f 3 k λk=>Po W 303 a g λl=>Ju W 307 l 0 λl=>SQ W f 3 l λl=>Sb W .mul 3 k l λk=>Sb W .sub 3 j k λj=>Po W 303 a g λk=>Ju W 307 k 0 λk=>SQ W f 3 k λk=>Po W 303 a i λl=>Ju W 307 l 1 λl=>SQ W f 3 l λl=>Sb W .mul 3 k l λk=>Po W 303 a i λl=>Ju W 307 l 0 λl=>SQ W f 3 l λl=>Po W 303 a g λg=>Ju W 307 g 1 λg=>SQ W f 3 g λg=>Sb W .mul 3 l g λg=>Sb W .sub 3 k g λg=>JK W 309 [(0,b),(1,j),(2,g)] λb=>RA W f [DV 0,DV 0,DV 0] 309 λg=>VG W g 309 (Ve f) b λb g=>Ju W 309 (Ve f) 2 λj=>SQ W b 3 j λj=>Sb W .eql 3 j (DV 0) λj=>iS j (Sb W .add 3 i (DV 1) λa=>c [d,a] b (min h g)) (Ju W 309 (Ve f) 2 λj=>SQ W b 3 j λj=>Sb W .lss 3 j (DV 0) λj=>iS j (Ju W 309 (Ve f) 0 λj=>SQ W b 3 j λj=>Uz W .neg j λj=>Ju W 309 (Ve f) 1 λk=>SQ W b 3 k λk=>Uz W .neg k λk=>Ju W 309 (Ve f) 2 λl=>SQ W b 3 l λl=>Uz W .neg l λl=>JK W 309 [(0,j),(1,k),(2,l)] λj=>VG W b 309 (Ve f) j λb j=>W.Lp (λb g h j=>W.un g λg k=>W.un k λk _=>I1 W h .len [303] [a] λl _=>Sb W .lss 3 k l λl=>iS l (iS g (Po W 303 a k λc=>Ju W 307 c 0 λc=>SQ W h 3 c λc=>Ju W 309 (Ve f) 0 λd=>SQ W h 3 d λd=>Sb W .mul 3 c d λc=>Po W 303 a k λd=>Ju W 307 d 1 λd=>SQ W h 3 d λd=>Ju W 309 (Ve f) 1 λg=>SQ W h 3 g λg=>Sb W .mul 3 d g λd=>Sb W .add 3 c d λc=>Po W 303 a k λa=>Ju W 307 a 2 λa=>SQ W h 3 a λa=>Ju W 309 (Ve f) 2 λd=>SQ W h 3 d λd=>Sb W .mul 3 a d λa=>Sb W .add 3 c a λa=>Sb W .geq 3 a (DV 0) λa=>Sb W .add 3 k (DV 1) λc=>b [a,c] h j) (Sb W .add 3 k (DV 1) λa=>b [P6,a] h j)) (iS g (SQ W h 309 (Ve f) λa=>SN W h 305 1 [(0,a)] λa b=>I1 W (M.wl b b.n) .append [305,305] [d,a] λa b=>Sb W .add 3 i (DV 1) λd=>c [a,d] b (min j (M.low b))) (Sb W .add 3 i (DV 1) λa=>c [d,a] h j))) [VT,DV 0] b (Γ h g j)) (W.Lp (λb g h j=>W.un g λg k=>W.un k λk _=>I1 W h .len [303] [a] λl _=>Sb W .lss 3 k l λl=>iS l (iS g (Po W 303 a k λc=>Ju W 307 c 0 λc=>SQ W h 3 c λc=>Ju W 309 (Ve f) 0 λd=>SQ W h 3 d λd=>Sb W .mul 3 c d λc=>Po W 303 a k λd=>Ju W 307 d 1 λd=>SQ W h 3 d λd=>Ju W 309 (Ve f) 1 λg=>SQ W h 3 g λg=>Sb W .mul 3 d g λd=>Sb W .add 3 c d λc=>Po W 303 a k λa=>Ju W 307 a 2 λa=>SQ W h 3 a λa=>Ju W 309 (Ve f) 2 λd=>SQ W h 3 d λd=>Sb W .mul 3 a d λa=>Sb W .add 3 c a λa=>Sb W .geq 3 a (DV 0) λa=>Sb W .add 3 k (DV 1) λc=>b [a,c] h j) (Sb W .add 3 k (DV 1) λa=>b [P6,a] h j)) (iS g (SQ W h 309 (Ve f) λa=>SN W h 305 1 [(0,a)] λa b=>I1 W (M.wl b b.n) .append [305,305] [d,a] λa b=>Sb W .add 3 i (DV 1) λd=>c [a,d] b (min j (M.low b))) (Sb W .add 3 i (DV 1) λa=>c [d,a] h j))) [VT,DV 0] b (min h g)))) (Sb W .add 3 g (DV 1) λa=>b [d,a] f h)) [c,h] d f) (W.Lp (λa b d f=>W.un b λb g=>W.un g λg _=>I1 W d .len [305] [c] λh _=>Sb W .lss 3 g h λh=>iS h (W.Lp (λb d f h=>W.un d λd i=>W.un i λi _=>Sb W .lss 3 i g λj=>iS j (W.Lp (λa d f h=>W.un d λd j=>W.un j λj _=>Sb W .lss 3 j i λk=>iS k (Po W 305 c g λb=>SQ W f 309 b λb=>RA W f [DV 0,DV 0,DV 0] 309 λg=>VG W g 309 (Ve f) b λb g=>Po W 305 c i λi=>SQ W b 309 i λi=>RA W b [DV 0,DV 0,DV 0] 309 λk=>VG W k 309 (Ve b) i λi k=>Po W 305 c j λc=>SQ W i 309 c λc=>RA W i [DV 0,DV 0,DV 0] 309 λl=>VG W l 309 (Ve i) c λc l=>Ju W 309 (Ve f) 0 λn=>SQ W c 3 n λn=>Ju W 309 (Ve b) 1 λo=>SQ W c 3 o λo=>Ju W 309 (Ve i) 2 λp=>SQ W c 3 p λp=>Sb W .mul 3 o p λo=>Ju W 309 (Ve b) 2 λp=>SQ W c 3 p λp=>Ju W 309 (Ve i) 1 λq=>SQ W c 3 q λq=>Sb W .mul 3 p q λp=>Sb W .sub 3 o p λo=>Sb W .mul 3 n o λn=>Ju W 309 (Ve f) 1 λo=>SQ W c 3 o λo=>Ju W 309 (Ve b) 0 λp=>SQ W c 3 p λp=>Ju W 309 (Ve i) 2 λq=>SQ W c 3 q λq=>Sb W .mul 3 p q λp=>Ju W 309 (Ve b) 2 λq=>SQ W c 3 q λq=>Ju W 309 (Ve i) 0 λr=>SQ W c 3 r λr=>Sb W .mul 3 q r λq=>Sb W .sub 3 p q λp=>Sb W .mul 3 o p λo=>Sb W .sub 3 n o λn=>Ju W 309 (Ve f) 2 λf=>SQ W c 3 f λf=>Ju W 309 (Ve b) 0 λo=>SQ W c 3 o λo=>Ju W 309 (Ve i) 1 λp=>SQ W c 3 p λp=>Sb W .mul 3 o p λo=>Ju W 309 (Ve b) 1 λb=>SQ W c 3 b λb=>Ju W 309 (Ve i) 0 λi=>SQ W c 3 i λi=>Sb W .mul 3 b i λb=>Sb W .sub 3 o b λb=>Sb W .mul 3 f b λb=>Sb W .add 3 n b λb=>Sb W .neq 3 b (DV 0) λb=>iS b (R [VT] c (Δ h g k l)) (Sb W .add 3 j (DV 1) λb=>a [d,b] c (Δ h g k l))) (Sb W .add 3 i (DV 1) λa=>b [d,a] f h)) [d,DV 0] f h) (Sb W .add 3 g (DV 1) λb=>a [d,b] f h)) [b,DV 0] d f) (R [P6] d f)) [P6,DV 0] d f)) [Z9,DV 0] b (Δ c d g (M.low b)))):=bv
def F147:=cN (P:=dB TE W f147 [x0,x1] m R)
def F146:=cN (P:=dB TE W f146 [x0] m R)
def F148:=cN (P:=dB TE W f148 [x0,x1] m R)
def F160:=cN (P:=dB TE W f160 [x0,x1] m R)
def F62:=cN (P:=dB TE W f62 [x0] m R)
def F28:=cN (P:=dB TE W f28 [x0,x1] m R)
def F116:=cN (P:=dB TE W f116 [x0,x1,x2] m R)
def F207:=cN (P:=dB TE W f207 [x0,x1] m R)
def F117{X:aF}{x0:O}{m:M}{R:ν->M->Nat->Prop}:dB TE (aH TE X) f117 [x0] m R=ς m x0 29 λa=>υ a [P6] 4 λb=>ε 29 (χ m) 0 λc=>δ b 27 c λc=>κ b .len [27] [c] λc _=>η .gtr 3 c (ψ 12) λc=>iS c (ι b 4 (χ a) P6 λb c=>aS (aC TE b 4 (χ a)) λa=>R [a] b (min m.n c)) (ε 29 (χ m) 0 λc=>δ b 27 c λc=>κ b .len [27] [c] λd _=>Lp (λb f g h=>un f λf _=>η .lss 3 f d λd=>iS d (ζ 27 c f λc=>δ g 43 c λc=>υ g [ψ 0,ψ 0,ψ 0,Z9,ψ 0,ψ 0] 43 λd=>ι d 43 (χ g) c λc d=>jn (λa=>δ c 43 (χ g) λb=>ω X 62 [b] c λb c i=>ο .not b λb=>iS b (a [VT] c (Γ h d i)) (η .gtr 3 f (ψ 0) λb=>iS b (ε 43 (χ g) 0 λb=>δ c 3 b λb=>ε 29 (χ m) 0 λg=>δ c 27 g λg=>η .sub 3 f (ψ 1) λf=>ζ 27 g f λf=>ε 43 f 0 λf=>δ c 3 f λf=>η .leq 3 b f λb=>a [b] c (Γ h d i)) (a [P6] c (Γ h d i)))) (λc d g=>un c λc _=>iS c (ι d 4 (χ a) P6 λb c=>aS (aC TE b 4 (χ a)) λa=>R [a] b (min g c)) (η .add 3 f (ψ 1) λa=>b [a] d g))) (δ g 29 (χ m) λb=>ω X 159 [b] g λb c d=>rO b λb f g=>RF TE X b f.toList g.toList c (min h d) (λb d f=>un b λb g=>un g λg h=>N9 h (υ d [ψ 0,ψ 0,ψ 0,Z9,ψ 0,ψ 0] 43 λh=>ι h 43 (χ d) b λb h=>υ b [ψ 0,ψ 0,ψ 0,Z9,ψ 0,ψ 0] 43 λi=>ι i 43 (χ b) g λg i=>Wo c.n d g λg=>δ g 43 (χ d) λj=>δ g 43 (χ b) λb=>ω X 160 [j,b] g λb j k=>iS b (ι j 4 (χ a) P6 λa b=>f g .ret a (Λ d.n h i c.n k b)) (f g .normal j (Θ d.n h i c.n k)))) (λb c=>ι b 4 (χ a) VT λb d=>aS (aC TE b 4 (χ a)) λa=>R [a] b (min c d)) [(.ret,λb c=>aS (aC TE b 4 (χ a)) λa=>R [a] b c)])) [ψ 0] b m.n):=bv
def F159:=cN (P:=dB TE W f159 [x0] m R)
def F99:=cN (P:=dB TE W f99 [x0] m R)
def F163:=cN (P:=dB TE W f163 [x0] m R)
def F98:=cN (P:=dB TE W f98 [x0,x1] m R)
def F43:=cN (P:=dB TE W f43 [x0,x1] m R)
def F119:=cN (P:=dB TE W f119 [x0,x1] m R)
def F71:=cN (P:=dB TE W f71 [x0] m R)
def F209:=cN (P:=dB TE W f209 [x0,x1] m R)
def F208:=cN (P:=dB TE W f208 [x0,x1,x2] m R)
def F161:=cN (P:=dB TE W f161 [x0,x1] m R)
end
section
set_option maxRecDepth 100000
set_option maxHeartbeats 0
abbrev F79{W:Words}{x0 x1:O}:=cN (P:=dB TE W f79 [x0,x1] m R)
abbrev F126{W:Words}{x0 x1:O}:=cN (P:=dB TE W f126 [x0,x1] m R)
def F176{X:aF}{x0 x1:O}:dB TE (aH TE X) f176 [x0,x1] m R=ς m x1 41 λa=>υ a [ψ 0] 3 λb=>υ b [ψ 0] 3 λc=>ι c 3 (χ b) (ψ 0) λc d=>ω X 80 [x0] c λc f g=>rO c λc h i=>RF TE X c h.toList i.toList f (Γ m.n d g) (λc d g=>un c λc h=>un h λh i=>N9 i (υ d [ψ 0,ψ 0] 46 λi=>ι i 46 (χ d) c λc i=>υ c [ψ 0,ψ 0] 46 λj=>ι j 46 (χ c) h λh j=>Wo f.n d h λh=>δ h 41 (χ m) λk=>ω X 124 [k,.func (.func 218) #[] #[χ d,χ c]] h λc k l=>ο .not c λc=>iS c (δ k 3 (χ b) λb=>ι k 3 (χ a) b λa b=>g h .ret a (Λ d.n i j f.n l b)) (δ k 3 (χ b) λa=>η .add 3 a (ψ 1) λa=>ι k 3 (χ b) a λa b=>g h .normal a (Λ d.n i j f.n l b)))) (λb c=>ι b 3 (χ a) (ψ (-1)) λb d=>aS (aC TE b 3 (χ a)) λa=>R [a] b (min c d)) [(.ret,λb c=>aS (aC TE b 3 (χ a)) λa=>R [a] b c)]:=bv
abbrev F218{W:Words}{x0 x1 x2:O}:=cN (P:=dB TE W f218 [x0,x1,x2] m R)
end
end Go.Proofs.YthffgohpkjpkbaaGreatDoor
namespace Go.yn
structure V where
 x:Int
 y:Int
 w:Int
def V.dot(f p:V):Int:=f.x*p.x+f.y*p.y+f.w*p.w
def oy(p q r:V):Int:=p.x*(q.y*r.w-q.w*r.y)-p.y*(q.x*r.w-q.w*r.x)+p.w*(q.x*r.y-q.y*r.x)
def radon{p q r s:V}(hp:0<p.w):∃a b c d:Int,(a≠0\/b≠0\/c≠0\/d≠0)/\a*p.x+b*q.x+c*r.x+d*s.x=0/\a*p.y+b*q.y+c*r.y+d*s.y=0/\a*p.w+b*q.w+c*r.w+d*s.w=0:=by by_cases F:oy q r s=0/\oy p r s=0/\oy p q s=0/\oy p q r=0;have hd:=F.2.2.2;unfold oy at hd;by_cases h1:q.x*r.w-r.x*q.w=0/\r.x*p.w-p.x*r.w=0/\p.x*q.w-q.x*p.w=0;by_cases h2:q.y*r.w-r.y*q.w=0/\r.y*p.w-p.y*r.w=0/\p.y*q.w-q.y*p.w=0;exact⟨q.w, -p.w,0,0,.inr (.inl Z),J,J,J⟩;exact⟨q.y*r.w-r.y*q.w,r.y*p.w-p.y*r.w,p.y*q.w-q.y*p.w,0,J,J,J,J⟩;exact⟨q.x*r.w-r.x*q.w,r.x*p.w-p.x*r.w,p.x*q.w-q.x*p.w,0,J,J,J,J⟩;exact⟨oy q r s,-oy p r s,oy p q s,-oy p q r,J,by unfold oy;grind,by unfold oy;grind,by unfold oy;grind⟩
def Ao{A B C D u v w z:Int}(hA:0<=A)(hB:0<=B)(hC:0<=C)(hD:0<=D)(hs:0<A\/0<B\/0<C\/0<D)(hu:A≠0->0<u)(hv:B≠0->0<v)(hw:C≠0->0<w)(hz:D≠0->0<z):0<A*u+B*v+C*w+D*z:=by have k:∀{a b:Int},0<=a->(a≠0->0<b)->0<=a*b/\(0<a->0<a*b):=λ{a b} h1 F=>(by by_cases h:a=0;subst h;simp;exact⟨Uv (ID Z (F h)),λh'=>ID h' (F h)⟩);have k1:=k hA hu;have k2:=k hB hv;have k3:=k hC hw;have k4:=k hD hz;omega
def aaS{f0 f1 f2 f3 p0 F p2 p3:V}{R:List V}(w0:0<p0.w)(w1:0<F.w)(w2:0<p2.w)(w3:0<p3.w)
  (h0:∀f,f=f1\/f=f2\/f=f3\/f∈R->0<f.dot p0) (h1:∀f,f=f0\/f=f2\/f=f3\/f∈R->0<f.dot F)
  (h2:∀f,f=f0\/f=f1\/f=f3\/f∈R->0<f.dot p2) (h3:∀f,f=f0\/f=f1\/f=f2\/f∈R->0<f.dot p3):
  ∃q:V,0<q.w/\∀f,f=f0\/f=f1\/f=f2\/f=f3\/f∈R->0<f.dot q:=by have⟨a,b,c,d,hn,hx,hy,hw⟩:=radon (q:=F) (r:=p2) (s:=p3) w0;have b0:0<a\/0<b\/0<c\/0<d:=Ng λhc=>(by have:=Ao (A:= -a) (B:= -b) (C:= -c) (D:= -d) Z Z Z Z Z (λ_=>w0) (λ_=>w1) (λ_=>w2) (λ_=>w3);simp only[Sv]at this;omega);have d0:0 < -a\/0 < -b\/0 < -c\/0 < -d:=Ng λhc=>(by have:=Ao (A:=a) (B:=b) (C:=c) (D:=d) Z Z Z Z Z (λ_=>w0) (λ_=>w1) (λ_=>w2) (λ_=>w3);omega);obtain⟨A,hA⟩:∃A,A=max a 0:=⟨_,rfl⟩;obtain⟨B,hB⟩:∃A,A=max b 0:=⟨_,rfl⟩;obtain⟨C,hC⟩:∃A,A=max c 0:=⟨_,rfl⟩;obtain⟨D,hD⟩:∃A,A=max d 0:=⟨_,rfl⟩;have e1:∀f:V,f.dot ⟨A*p0.x+B*F.x+C*p2.x+D*p3.x,A*p0.y+B*F.y+C*p2.y+D*p3.y,A*p0.w+B*F.w+C*p2.w+D*p3.w⟩=A*f.dot p0+B*f.dot F+C*f.dot p2+D*f.dot p3:=λf=>(by unfold V.dot;grind);have e2:∀f:V,A*f.dot p0+B*f.dot F+C*f.dot p2+D*f.dot p3=(A-a)*f.dot p0+(B-b)*f.dot F+(C-c)*f.dot p2+(D-d)*f.dot p3:=λf=>(by have:a*f.dot p0+b*f.dot F+c*f.dot p2+d*f.dot p3=f.x*(a*p0.x+b*F.x+c*p2.x+d*p3.x)+f.y*(a*p0.y+b*F.y+c*p2.y+d*p3.y)+f.w*(a*p0.w+b*F.w+c*p2.w+d*p3.w):=(by unfold V.dot;grind);rw[hx,hy,hw]at this;simp only[Int.sub_mul];omega);refine⟨⟨A*p0.x+B*F.x+C*p2.x+D*p3.x,A*p0.y+B*F.y+C*p2.y+D*p3.y,A*p0.w+B*F.w+C*p2.w+D*p3.w⟩,?_,λf hf=>?_⟩;rotate_left;rw[e1 f];rcases hf with rfl|rfl|rfl|rfl|hf;rcases JX 0 a with ha|ha;rw[e2];exact Ao Z Z Z Z Z (λh=>absurd h Z) (λ_=>h1 _ co) (λ_=>h2 _ co) (λ_=>h3 _ co);exact Ao Z Z Z Z Z (λh=>absurd h Z) (λ_=>h1 _ co) (λ_=>h2 _ co) (λ_=>h3 _ co);rcases JX 0 b with ha|ha;rw[e2];exact Ao Z Z Z Z Z (λ_=>h0 _ co) (λh=>absurd h Z) (λ_=>h2 _ co) (λ_=>h3 _ co);exact Ao Z Z Z Z Z (λ_=>h0 _ co) (λh=>absurd h Z) (λ_=>h2 _ co) (λ_=>h3 _ co);rcases JX 0 c with ha|ha;rw[e2];exact Ao Z Z Z Z Z (λ_=>h0 _ co) (λ_=>h1 _ co) (λh=>absurd h Z) (λ_=>h3 _ co);exact Ao Z Z Z Z Z (λ_=>h0 _ co) (λ_=>h1 _ co) (λh=>absurd h Z) (λ_=>h3 _ co);rcases JX 0 d with ha|ha;rw[e2];exact Ao Z Z Z Z Z (λ_=>h0 _ co) (λ_=>h1 _ co) (λ_=>h2 _ co) (λh=>absurd h Z);exact Ao Z Z Z Z Z (λ_=>h0 _ co) (λ_=>h1 _ co) (λ_=>h2 _ co) (λh=>absurd h Z);exact Ao Z Z Z Z Z (λ_=>h0 _ (by simp[hf])) (λ_=>h1 _ (by simp[hf])) (λ_=>h2 _ (by simp[hf])) (λ_=>h3 _ (by simp[hf]));exact Ao Z Z Z Z Z (λ_=>w0) (λ_=>w1) (λ_=>w2) (λ_=>w3)
theorem HN:∀(n:Nat) (F:List V),F.length<=n->(∀f∈F,∀g∈F,∀h∈F,∃p:V,0<p.w/\0<f.dot p/\0<g.dot p/\0<h.dot p)->∃p:V,0<p.w/\∀f∈F,0<f.dot p
 |_,[],_,_=>⟨⟨0,0,1⟩,ce,co⟩
 |_,[f],_,h=>by obtain⟨p,hp,h1,_,_⟩:=h f co f co f co;exact⟨p,hp,by simpa using h1⟩
 |_,[f,g],_,h=>by obtain⟨p,hp,h1,h2,_⟩:=h f co g co g co;exact⟨p,hp,by simpa using⟨h1,h2⟩⟩
 |_,[f,g,k],_,h=>by obtain⟨p,hp,h1,h2,h3⟩:=h f co g co k co;exact⟨p,hp,by simpa using⟨h1,h2,h3⟩⟩
 |0,_::_::_::_::_,hl,_=>by simp at hl
 |n+1,f0::f1::f2::f3::R,hl,h=>by have hl:R.length+3<=n:=(by simp only[Rq]at hl;omega);obtain⟨p0,w0,k0⟩:=HN n (f1::f2::f3::R) (by simp only[Rq];omega) λf hf g hg k hk=>h f (.tail _ hf) g (.tail _ hg) k (.tail _ hk);have s1:∀f,f∈f0::f2::f3::R->f∈f0::f1::f2::f3::R:=λf hf=>(by simp only[VM]at hf⊢;rcases hf with hf|hf|hf|hf <;>simp[hf]);have s2:∀f,f∈f0::f1::f3::R->f∈f0::f1::f2::f3::R:=λf hf=>(by simp only[VM]at hf⊢;rcases hf with hf|hf|hf|hf <;>simp[hf]);have s3:∀f,f∈f0::f1::f2::R->f∈f0::f1::f2::f3::R:=λf hf=>(by simp only[VM]at hf⊢;rcases hf with hf|hf|hf|hf <;>simp[hf]);obtain⟨p1,w1,k1⟩:=HN n (f0::f2::f3::R) (by simp only[Rq];omega) λf hf g hg k hk=>h f (s1 f hf) g (s1 g hg) k (s1 k hk);obtain⟨p2,w2,k2⟩:=HN n (f0::f1::f3::R) (by simp only[Rq];omega) λf hf g hg k hk=>h f (s2 f hf) g (s2 g hg) k (s2 k hk);obtain⟨p3,w3,k3⟩:=HN n (f0::f1::f2::R) (by simp only[Rq];omega) λf hf g hg k hk=>h f (s3 f hf) g (s3 g hg) k (s3 k hk);obtain⟨q,wq,kq⟩:=aaS (f0:=f0) (f1:=f1) (f2:=f2) (f3:=f3) (R:=R) w0 w1 w2 w3 (λf hf=>k0 f (by simpa using hf)) (λf hf=>k1 f (by simpa using hf)) (λf hf=>k2 f (by simpa using hf)) (λf hf=>k3 f (by simpa using hf));exact⟨q,wq,λf hf=>kq f (by simpa using hf)⟩
def V.go(p:V)(D N:Int)(d:V):V:=⟨D*p.x+N*d.x,D*p.y+N*d.y,D*p.w+N*d.w⟩
def qY(f p d:V)(D N:Int):f.dot (p.go D N d)=D*f.dot p+N*f.dot d:=by unfold V.dot V.go;grind
theorem ratio(p d:V):∀(L:List V),(∀f∈L,0<=f.dot p)->(∃f∈L,f.dot d<0)->∃i∈L,i.dot d<0/\∀j∈L,j.dot d<0->i.dot p*(-(j.dot d))<=j.dot p*(-(i.dot d))
 |[],_,h=>by have⟨f,hf,_⟩:=h;cases hf
 |f::L,hp,h=>by by_cases hL:∃g∈L,g.dot d<0;obtain⟨i,hi,h1,h2⟩:=ratio p d L (λg hg=>hp g (.tail _ hg)) hL;by_cases hf:f.dot d<0;by_cases hc:i.dot p*(-(f.dot d))<=f.dot p*(-(i.dot d));refine⟨i,.tail _ hi,h1,λj F hd=>?_⟩;rcases VM.1 F with rfl|F;exact hc;exact h2 j F hd;refine⟨f,.head _,hf,λj F hd=>?_⟩;rcases VM.1 F with rfl|F;exact N5 _;have h2:=h2 j F hd;have hc:f.dot p*(-(i.dot d))<=i.dot p*(-(f.dot d)):=Z;generalize f.dot p=fp at*;generalize i.dot p=ip at*;generalize j.dot p=jp at*;generalize f.dot d=fd at*;generalize i.dot d=id at*;generalize j.dot d=jd at*;have a1:(fp*(-id))*(-jd)<=(ip*(-fd))*(-jd):=Rf hc Z;have a2:(ip*(-jd))*(-fd)<=(jp*(-id))*(-fd):=Rf h2 Z;have a3:(fp*(-jd))*(-id)<=(jp*(-fd))*(-id):=(by have b1:(fp*(-jd))*(-id)=(fp*(-id))*(-jd):=J;have b2:(ip*(-fd))*(-jd)=(ip*(-jd))*(-fd):=J;have b3:(jp*(-fd))*(-id)=(jp*(-id))*(-fd):=J;omega);exact Int.le_of_mul_le_mul_right a3 Z;refine⟨i,.tail _ hi,h1,λj F hd=>?_⟩;rcases VM.1 F with rfl|F;exact absurd hd hf;exact h2 j F hd;have⟨g,hg,hd⟩:=h;rcases VM.1 hg with rfl|hg;refine⟨g,.head _,hd,λj F b0=>?_⟩;rcases VM.1 F with rfl|F;exact N5 _;exact absurd ⟨j,F,b0⟩ hL;exact absurd ⟨g,hg,hd⟩ hL
def step{L:List V}{p d:V}(hw:0<p.w)(hd:d.w=0)(F:∀f∈L,0<=f.dot p)(hb:∃f∈L,f.dot d<0):
  ∃i∈L,i.dot d<0/\∃D N:Int,0<D/\0<=N/\0<(p.go D N d).w/\(∀f∈L,0<=f.dot (p.go D N d))/\i.dot (p.go D N d)=0:=by have⟨i,hi,h1,h2⟩:=ratio p d L F hb;refine⟨i,hi,h1, -(i.dot d),i.dot p,Z,F i hi,?_,λf hf=>?_,?_⟩;show 0 < -(i.dot d)*p.w+i.dot p*d.w;rw[hd,Q4,Int.add_zero];exact ID Z hw;rw[qY];by_cases b0:f.dot d<0;have:=h2 f hf b0;have e1: -(i.dot d)*f.dot p=f.dot p*(-(i.dot d)):=Int.mul_comm _ _;have e2:i.dot p* -(f.dot d)= -(i.dot p*f.dot d):=tG _ _;omega;have a1:0<= -(i.dot d)*f.dot p:=TL Z (F f hf);have a2:0<=i.dot p*f.dot d:=TL (F i hi) Z;omega;rw[qY,Sv,Int.mul_comm (i.dot p)];omega
def sq_nonneg(a:Int):0<=a*a:=by rcases Int.le_total 0 a with h|h;exact TL h h;exact Int.mul_nonneg_of_nonpos_of_nonpos h h
def CY{L:List V}(hb:∀d:V,d.w=0->d.x≠0\/d.y≠0->∃f∈L,f.dot d<0){p:V}(hw:0<p.w)(hp:∀f∈L,0<=f.dot p)(g:V)(hg:0<g.dot p):
  ∃i∈L,∃k∈L,∃v:V,0<v.w/\(∀f∈L,0<=f.dot v)/\i.dot v=0/\k.dot v=0/\i.x*k.y-k.x*i.y≠0/\0<g.dot v:=by obtain⟨d,hd,b0,d0⟩:∃d:V,d.w=0/\(d.x≠0\/d.y≠0)/\0<=g.dot d:=(by by_cases h:g.x=0/\g.y=0;exact⟨⟨1,0,0⟩,rfl,.inl ce,by simp[V.dot,h.1]⟩;refine⟨⟨g.x,g.y,0⟩,rfl,by show g.x≠0\/g.y≠0;omega,?_⟩;have:=sq_nonneg g.x;have:=sq_nonneg g.y;show 0<=g.x*g.x+g.y*g.y+g.w*0;omega);have⟨i,hi,hid,D,N,hD,hN,w1,p1,z1⟩:=step hw hd hp (hb d hd b0);have g1:0<g.dot (p.go D N d):=(by rw[qY];have:=ID hD hg;have:=TL hN d0;omega);generalize p.go D N d=q at*;have j0:i.x≠0\/i.y≠0:=Ng λhc=>(by have e1:i.x=0:=Z;have e2:i.y=0:=Z;simp[V.dot,e1,e2,hd]at hid);obtain⟨e,he,e0,g0,F⟩:∃e:V,e.w=0/\(e.x≠0\/e.y≠0)/\0<=g.dot e/\(e=⟨i.y, -i.x,0⟩\/e=⟨-i.y,i.x,0⟩):=(by rcases Int.le_total 0 (g.x*i.y-g.y*i.x)with h|h;refine⟨⟨i.y, -i.x,0⟩,rfl,by show i.y≠0\/ -i.x≠0;omega,?_,.inl rfl⟩;show 0<=g.x*i.y+g.y*(-i.x)+g.w*0;rw[tG];omega;refine⟨⟨-i.y,i.x,0⟩,rfl,by show -i.y≠0\/i.x≠0;omega,?_,.inr rfl⟩;show 0<=g.x*(-i.y)+g.y*i.x+g.w*0;rw[tG];omega);have⟨k,hk,k0,D',N',h0,i0,w2,p2,z2⟩:=step w1 he p1 (hb e he e0);refine⟨i,hi,k,hk,q.go D' N' e,w2,p2,?_,z2,?_,?_⟩;rw[qY,z1];rcases F with rfl|rfl <;>(unfold V.dot;grind);intro hc;rcases F with rfl|rfl;have:k.dot ⟨i.y, -i.x,0⟩= -(i.x*k.y-k.x*i.y):=(by unfold V.dot;grind);omega;have:k.dot ⟨-i.y,i.x,0⟩=i.x*k.y-k.x*i.y:=(by unfold V.dot;grind);omega;rw[qY];have:=ID h0 g1;have:=TL i0 g0;omega
def meet(f g:V):V:=⟨f.y*g.w-g.y*f.w,f.w*g.x-g.w*f.x,f.x*g.y-g.x*f.y⟩
def V.neg(p:V):V:=⟨-p.x, -p.y, -p.w⟩
def norm(p:V):V:=if p.w < 0 then p.neg else p
def Ho{p:V}(h:p.w≠0):0<(norm p).w:=by unfold norm;split;show 0 < -p.w;omega;omega
def HB{f g v:V}(F:f.dot v=0)(hg:g.dot v=0)(h:V):v.w*h.dot (norm (meet f g))=(norm (meet f g)).w*h.dot v:=by have ex:(meet f g).w*v.x=v.w*(meet f g).x:=(by unfold V.dot at F hg;unfold meet;grind);have ey:(meet f g).w*v.y=v.w*(meet f g).y:=(by unfold V.dot at F hg;unfold meet;grind);have key:v.w*h.dot (meet f g)=(meet f g).w*h.dot v:=(by unfold V.dot;grind);unfold norm;split;have e1:h.dot (meet f g).neg= -(h.dot (meet f g)):=(by unfold V.dot V.neg;grind);have e2:(meet f g).neg.w= -(meet f g).w:=rfl;rw[e1,e2,tG,Sv,key];exact key
def lP(L:List V)(v:V):Prop:=∃f∈L,∃g∈L,(meet f g).w≠0/\v=norm (meet f g)/\∀h∈L,0<=h.dot v
def uI{L:List V}(hb:∀d:V,d.w=0->d.x≠0\/d.y≠0->∃f∈L,f.dot d<0){p:V}(hw:0<p.w)(hp:∀f∈L,0<=f.dot p)(g:V)(hg:0<g.dot p):∃v,lP L v/\0<v.w/\0<g.dot v:=by have⟨i,hi,k,hk,v,wv,pv,z1,z2,hn,gv⟩:=CY hb hw hp g hg;have hm:(meet i k).w≠0:=hn;have F:=Ho hm;refine⟨norm (meet i k),⟨i,hi,k,hk,hm,rfl,λh hh=>?_⟩,F,?_⟩;have e:=HB z1 z2 h;have:=TL (Uv F) (pv h hh);rw[<-e]at this;exact Int.nonneg_of_mul_nonneg_right this wv;have e:=HB z1 z2 g;have:=ID F gv;rw[<-e]at this;exact Int.pos_of_mul_pos_right this wv
theorem three{L:List V}(e0:∃f,f∈L)(hb:∀d:V,d.w=0->d.x≠0\/d.y≠0->∃f∈L,f.dot d<0){p:V}(hw:0<p.w)(hp:∀f∈L,0<f.dot p):
  ∃a b c,lP L a/\lP L b/\lP L c/\oy a b c≠0:=by have d0:∀f∈L,0<=f.dot p:=λf hf=>Uv (hp f hf);obtain⟨a,ca,wa,_⟩:=uI hb hw d0 ⟨0,0,1⟩ (by show 0<0*p.x+0*p.y+1*p.w;omega);have e0:p.x*a.w-a.x*p.w≠0\/p.y*a.w-a.y*p.w≠0:=Ng λhc=>(by obtain⟨f,hf,g,hg,hm,rfl,h0⟩:=ca;have hz:f.dot (norm (meet f g))=0:=(by unfold norm;split <;>(unfold V.dot;simp only[V.neg,meet];grind));have h1:=hp f hf;have e:(norm (meet f g)).w*f.dot p=p.w*f.dot (norm (meet f g)):=(by unfold V.dot;grind);rw[hz,Q4]at e;have:=ID wa h1;omega);obtain⟨b,cb,wb,l0⟩:=uI hb hw d0 ⟨(p.x*a.w-a.x*p.w)*a.w,(p.y*a.w-a.y*p.w)*a.w, -((p.x*a.w-a.x*p.w)*a.x+(p.y*a.w-a.y*p.w)*a.y)⟩ (by have e:(V.mk ((p.x*a.w-a.x*p.w)*a.w) ((p.y*a.w-a.y*p.w)*a.w) (-((p.x*a.w-a.x*p.w)*a.x+(p.y*a.w-a.y*p.w)*a.y))).dot p=(p.x*a.w-a.x*p.w)*(p.x*a.w-a.x*p.w)+(p.y*a.w-a.y*p.w)*(p.y*a.w-a.y*p.w):=(by unfold V.dot;grind);rw[e];generalize p.x*a.w-a.x*p.w=u at*;generalize p.y*a.w-a.y*p.w=v at*;have h1:=sq_nonneg u;have h2:=sq_nonneg v;have h3:u≠0->u*u≠0:=λh F=>(by rcases M5.1 F with F|F <;>exact h F);have h4:v≠0->v*v≠0:=λh F=>(by rcases M5.1 F with F|F <;>exact h F);rcases e0 with h|h;have:=h3 h;omega;have:=h4 h;omega);have j0:a.y*b.w-a.w*b.y≠0\/a.w*b.x-a.x*b.w≠0:=Ng λhc=>(by have e1:a.y*b.w-a.w*b.y=0:=Z;have e2:a.w*b.x-a.x*b.w=0:=Z;have:(V.mk ((p.x*a.w-a.x*p.w)*a.w) ((p.y*a.w-a.y*p.w)*a.w) (-((p.x*a.w-a.x*p.w)*a.x+(p.y*a.w-a.y*p.w)*a.y))).dot b=0:=(by unfold V.dot;grind);omega);obtain⟨g,hg⟩:∃g:V,g=⟨a.y*b.w-a.w*b.y,a.w*b.x-a.x*b.w,a.x*b.y-a.y*b.x⟩:=⟨_,rfl⟩;have b0:∀c:V,oy a b c=g.dot c:=λc=>(by rw[hg];unfold oy V.dot;grind);have k0:g.x≠0\/g.y≠0:=(by rw[hg];exact j0);obtain⟨q,wq,pq,gq⟩:∃q:V,0<q.w/\(∀f∈L,0<=f.dot q)/\g.dot q≠0:=(by by_cases g0:g.dot p=0;obtain⟨K,hK⟩:∃K:Int,0<K/\∀f∈L, -K<=f.x*g.x+f.y*g.y:=(by have i0:∀L:List V,∃K:Int,0<K/\∀f∈L, -K<=f.x*g.x+f.y*g.y:=λL=>(by induction L with|nil=>exact⟨1,ce,λf hf=>by cases hf⟩|cons f L ih=>have⟨K,h1,h2⟩:=ih;refine⟨max K (-(f.x*g.x+f.y*g.y)),Z,λh hh=>?_⟩;rcases VM.1 hh with rfl|hh;omega;have:=h2 h hh;omega);exact i0 L);refine⟨p.go K 1 ⟨g.x,g.y,0⟩,?_,λf hf=>?_,?_⟩;show 0<K*p.w+1*0;have:=ID hK.1 hw;omega;rw[qY];have h1:=hK.2 f hf;have h2:f.dot ⟨g.x,g.y,0⟩=f.x*g.x+f.y*g.y:=(by unfold V.dot;grind);have h3:K*1<=K*f.dot p:=Sd (by have:=hp f hf;omega) (Uv hK.1);omega;rw[qY,g0,Q4];have h2:g.dot ⟨g.x,g.y,0⟩=g.x*g.x+g.y*g.y:=(by unfold V.dot;grind);rw[h2];have h1:=sq_nonneg g.x;have h2:=sq_nonneg g.y;have h3:g.x≠0->g.x*g.x≠0:=λh F=>(by rcases M5.1 F with F|F <;>exact h F);have h4:g.y≠0->g.y*g.y≠0:=λh F=>(by rcases M5.1 F with F|F <;>exact h F);rcases k0 with h|h;have:=h3 h;omega;have:=h4 h;omega;exact⟨p,hw,d0,g0⟩);rcases Int.lt_or_gt_of_ne gq with h|h;have e:∀c,(V.neg g).dot c= -(g.dot c):=λc=>(by unfold V.dot V.neg;grind);obtain⟨c,cc,_,hc⟩:=uI hb wq pq (V.neg g) (by rw[e];omega);exact⟨a,b,c,ca,cb,cc,by rw[b0];rw[e]at hc;omega⟩;have⟨c,cc,_,hc⟩:=uI hb wq pq g h;exact⟨a,b,c,ca,cb,cc,by rw[b0];omega⟩
end Go.yn
namespace Go.Proofs.YthffgohpkjpkbaaGreatDoor
variable{i lo0 n1:Nat}{p q:Pl}{A B F dx dy x:Int}{a b:List Pl}{g:Option Nat}
section
open Go Go.D Go.yn Go.Proofs.Tryz
def Pl.h(p:Pl):V:=⟨p.x,p.y,1⟩
def oo(a b:Pl):V:=⟨a.y-b.y,b.x-a.x,(b.y-a.y)*a.x-(b.x-a.x)*a.y⟩
def nD(a b c:Pl):(oo a b).dot c.h=dW a b c:=by unfold V.dot oo Pl.h dW;grind
def jF(l:List Pl)(i:Nat):Pl:=(l[i]?).getD ⟨0,0⟩
def yl{l:List Pl}(h:i<l.length):l[i]?=some (jF l i):=by unfold jF;rw[QC h];rfl
def VW{l:List Pl}(h:q∈l):∃k,k<l.length/\jF l k=q:=by obtain⟨k,F,rfl⟩:=List.getElem_of_mem h;exact⟨k,F,by unfold jF;rw[QC F];rfl⟩
def J5{l:List Pl}(h:i<l.length):jF l i∈l:=QP (yl h)
def iO(l:List Pl)(i:Nat):V:=oo (jF l i) (jF l ((i+1)%l.length))
def uG(l:List Pl):List V:=(List.range l.length).map (iO l)
def nf{l:List Pl}{f:V}:f∈uG l↔∃i,i<l.length/\f=iO l i:=by unfold uG;grind
def lin1{ax ay bx:Int}(h:ax*dy-ay*dx=bx*dy-F*dx):(bx-ax)*dy=(F-ay)*dx:=by grind
def lin2{uy vx vy:Int}(h1:F*dy=uy*dx)(h2:vx*dy=vy*dx):(F*vy-uy*vx)*dx=0/\(F*vy-uy*vx)*dy=0:=by grind
section
variable {l:List Pl} (hv:bO l=true)
include hv
theorem wR{k:Nat}(hi:i<l.length)(F:k<l.length)(h1:k≠i)(h2:k≠(i+1)%l.length):0<(iO l i).dot (jF l k).h:=by unfold iO;rw[nD];exact IE hv (yl hi) (yl (T7 _ Z)) (yl F) h1 h2
theorem oK{k:Nat}(hi:i<l.length)(hk:k<l.length):0<=(iO l i).dot (jF l k).h:=by by_cases F:k=i;subst F;unfold iO;rw[nD];unfold dW;grind;by_cases h2:k=(i+1)%l.length;unfold iO;rw[nD,<-h2];unfold dW;grind;exact Uv (wR hv hi hk F h2)
theorem AN:∃p:V,0<p.w/\∀f∈uG l,0<f.dot p:=by have⟨h3,_⟩:=dM hv;refine⟨⟨(jF l 0).x+(jF l 1).x+(jF l 2).x,(jF l 0).y+(jF l 1).y+(jF l 2).y,3⟩,(show(0:Int)< 3 by decide),λf hf=>?_⟩;obtain⟨i,hi,rfl⟩:=nf.1 hf;have e:(iO l i).dot ⟨(jF l 0).x+(jF l 1).x+(jF l 2).x,(jF l 0).y+(jF l 1).y+(jF l 2).y,3⟩=(iO l i).dot (jF l 0).h+(iO l i).dot (jF l 1).h+(iO l i).dot (jF l 2).h:=(by unfold V.dot Pl.h;grind);rw[e];have n0:=oK hv hi (k:=0) Z;have n1:=oK hv hi (k:=1) Z;have n2:=oK hv hi (k:=2) Z;have:∃k,k<3/\k≠i/\k≠(i+1)%l.length:=(by generalize (i+1)%l.length=j;by_cases a0:0≠i/\0≠j;exact⟨0,Z,a0.1,a0.2⟩;by_cases F:1≠i/\1≠j;exact⟨1,Z,F.1,F.2⟩;exact⟨2,Z,Z,Z⟩);have⟨k,hk,k1,k2⟩:=this;have hp:=wR hv hi (k:=k) Z k1 k2;grind
theorem wS(d:V)(hd:d.w=0)(F:d.x≠0\/d.y≠0):∃f∈uG l,f.dot d<0:=Ng λhc=>by have⟨h3,_⟩:=dM hv;have hE:∀i,i<l.length->(jF l i).x*d.y-(jF l i).y*d.x<=(jF l ((i+1)%l.length)).x*d.y-(jF l ((i+1)%l.length)).y*d.x:=λi hi=>(by have h:¬(iO l i).dot d<0:=λh=>hc ⟨_,nf.2 ⟨i,hi,rfl⟩,h⟩;have e:(iO l i).dot d=((jF l ((i+1)%l.length)).x*d.y-(jF l ((i+1)%l.length)).y*d.x)-((jF l i).x*d.y-(jF l i).y*d.x):=(by unfold iO oo V.dot;grind);omega);have hC:∀k,k<l.length->∀j,j<=k->(jF l j).x*d.y-(jF l j).y*d.x<=(jF l k).x*d.y-(jF l k).y*d.x:=(by intro k;induction k with|zero=>intro _ j hj;rw[Nat.le_zero.1 hj];exact N5 _|succ k ih=>intro hk j hj;by_cases e:j=k+1;grind;have h1:=ih Z j Z;have h2:=hE k Z;rw[VD hk]at h2;omega);have hL:=hE (l.length-1) Z;rw[LU Z,PI]at hL;have c1:=hC 1 Z 0 Z;have c2:=hC 2 Z 1 Z;have c3:=hC (l.length-1) Z 2 Z;have ht:=wR hv (i:=0) (k:=2) Z Z Z (by rw[VD Z];omega);unfold iO at ht;rw[Jf,VD (by omega:1<l.length),nD]at ht;generalize jF l 0=a at*;generalize jF l 1=b at*;generalize jF l 2=c at*;have e1:=lin1 (show a.x*d.y-a.y*d.x=b.x*d.y-b.y*d.x by omega);have e2:=lin1 (show a.x*d.y-a.y*d.x=c.x*d.y-c.y*d.x by omega);unfold dW at ht;have⟨t1,t2⟩:=lin2 e1 e2;rcases F with h|h;rcases M5.1 t1 with h'|h';omega;grind;rcases M5.1 t2 with h'|h';omega;grind
omit hv in
theorem KP(G:Nat->Int):∀n,0 < n->∃k,k < n/\∀j,j < n->G j<=G k
 |1,_=>⟨0,Z,λj F=>by rw[show j=0 by omega];exact N5 _⟩
 |n+2,_=>by obtain⟨k,hk,h⟩:=KP G (n+1) Z;by_cases hc:G k<=G (n+1);refine⟨n+1,Z,λj F=>?_⟩;grind;refine⟨k,Z,λj F=>?_⟩;grind
theorem MR{g p:V}(hg:∀q∈l,g.dot q.h<=0)(hw:0<p.w)(hp:∀f∈uG l,0<=f.dot p):g.dot p<=0:=by have⟨h3,_⟩:=dM hv;obtain⟨k,hk,F⟩:=KP (λk=>g.dot (jF l k).h) l.length Z;obtain⟨r,hr,b0,d0⟩:∃r,r<l.length/\(r+1)%l.length=k/\r≠(k+1)%l.length:=(by by_cases e:k=0;refine⟨l.length-1,Z,?_,?_⟩;rw[LU Z,PI,e];rw[e,VD Z];omega;refine⟨k-1,Z,?_,?_⟩;rw[LU Z,VD hk];by_cases e2:k+1=l.length;rw[e2,PI];omega;rw[VD Z];omega);have hn:(k+1)%l.length<l.length:=T7 _ Z;have e0:(k+1)%l.length≠k:=(by by_cases e2:k+1=l.length;rw[e2,PI];omega;rw[VD Z];omega);have hT:=wR hv hr hn (λe=>d0 e.symm) (by rw[b0];exact e0);have p1:=hp _ (nf.2 ⟨r,hr,rfl⟩);have p2:=hp _ (nf.2 ⟨k,hk,rfl⟩);have m1:=F _ hn;have m2:=F _ hr;have m3:=hg _ (J5 hk);unfold iO at hT p1 p2;rw[b0]at hT p1;have m1:g.dot (jF l ((k+1)%l.length)).h<=g.dot (jF l k).h:=m1;have m2:g.dot (jF l r).h<=g.dot (jF l k).h:=m2;generalize jF l r=a at*;generalize jF l k=b at*;generalize jF l ((k+1)%l.length)=c at*;have id:(oo a b).dot c.h*(g.dot p-p.w*g.dot b.h)=(oo a b).dot p*(g.dot c.h-g.dot b.h)+(oo b c).dot p*(g.dot a.h-g.dot b.h):=(by unfold oo V.dot Pl.h;grind);have r1:(oo a b).dot p*(g.dot c.h-g.dot b.h)<=0:=Hc p1 Z;have r2:(oo b c).dot p*(g.dot a.h-g.dot b.h)<=0:=Hc p2 Z;have r3:p.w*g.dot b.h<=0:=Hc (Uv hw) m3;refine Ng λhc=>?_;have:0<(oo a b).dot c.h*(g.dot p-p.w*g.dot b.h):=ID hT Z;omega
end
def Sep(a b:List Pl):Prop:=∃f∈uG a,∀q∈b,f.dot q.h<=0
def Kw(F:bO a){h:V}(hh:∃q∈a,0<h.dot q.h):∃p:V,0<p.w/\(∀f∈uG a,0<f.dot p)/\0<h.dot p:=by have⟨c,wc,hc⟩:=AN F;have⟨q,hq,b0⟩:=hh;obtain⟨k,hk,rfl⟩:=VW hq;obtain⟨K,hK⟩:∃K:Int,K=max 1 (1-h.dot c):=⟨_,rfl⟩;refine⟨(jF a k).h.go K 1 c,?_,λf hf=>?_,?_⟩;show 0<K*1+1*c.w;omega;rw[qY];obtain⟨i,hi,rfl⟩:=nf.1 hf;have h1:=oK F hi hk;have h2:=hc _ hf;have:=TL (show 0<=K by omega) h1;omega;rw[qY];have:K*1<=K*h.dot (jF a k).h:=Sd Z Z;omega
def KI(h:¬Sep a b):∀f∈uG a,∃q∈b,0<f.dot q.h:=λf F=>Ng λhc=>h ⟨f,F,λq hq=>by grind⟩
def adx(ha:bO a)(hb:bO b)(h1:¬Sep a b)(h2:¬Sep b a):
  ∃u v w,lP (uG a++uG b) u/\lP (uG a++uG b) v/\lP (uG a++uG b) w/\oy u v w≠0:=by have pa:∀h∈uG b,∃p:V,0<p.w/\(∀f∈uG a,0<f.dot p)/\0<h.dot p:=λh F=>Kw ha (KI h2 h F);have pb:∀h∈uG a,∃p:V,0<p.w/\(∀f∈uG b,0<f.dot p)/\0<h.dot p:=λh F=>Kw hb (KI h1 h F);obtain⟨p,hw,hp⟩:=HN _ (uG a++uG b) (R8 _) λf hf g hg h F=>(by rcases IF.1 hf with hf|hf <;>rcases IF.1 hg with hg|hg <;>rcases IF.1 F with F|F;have⟨p,w,h'⟩:=AN ha;exact⟨p,w,h' _ hf,h' _ hg,h' _ F⟩;grind;grind;grind;grind;grind;grind;have⟨p,w,h'⟩:=AN hb;exact⟨p,w,h' _ hf,h' _ hg,h' _ F⟩);refine three ?_ (λd hd b0=>?_) hw hp;obtain⟨f,hf,_⟩:=wS ha ⟨1,0,0⟩ rfl (.inl ce);exact⟨f,IF.2 (.inl hf)⟩;have⟨f,hf,h⟩:=wS ha d hd b0;grind
def Hq(ha:bO a)(hb:bO b){L:List V}(hL:∀f,f∈uG a\/f∈uG b->f∈L)(hs:Sep a b){u v w:V}(hu:lP L u)(hv:lP L v)(hw:lP L w):oy u v w=0:=by have⟨f,hf,b0⟩:=hs;have hz:∀{c:V},lP L c->f.dot c=0:=λ{c} F=>(by obtain⟨i,hi,k,hk,hm,rfl,h0⟩:=F;have h1:=h0 f (hL f (.inl hf));have h2:=MR hb b0 (Ho hm) λg hg=>h0 g (hL g (.inr hg));omega);have hu:=hz hu;have hv:=hz hv;have hw:=hz hw;have d0:f.x≠0\/f.y≠0:=Ng λF=>(by have⟨h3,_⟩:=dM ha;have⟨p,_,hp⟩:=AN ha;have:=hp f hf;obtain⟨i,hi,rfl⟩:=nf.1 hf;unfold iO at F this;generalize jF a i=s at*;generalize jF a ((i+1)%a.length)=t at*;have e1:s.y-t.y=0:=(by have:¬((s.y-t.y)≠0\/(t.x-s.x)≠0):=F;omega);have e2:t.x-s.x=0:=(by have:¬((s.y-t.y)≠0\/(t.x-s.x)≠0):=F;omega);have e3:(oo s t).dot p=0:=(by unfold oo V.dot;grind);omega);have t1:f.x*oy u v w=0:=(by have:f.x*oy u v w=f.dot u*(v.y*w.w-v.w*w.y)-f.dot v*(u.y*w.w-u.w*w.y)+f.dot w*(u.y*v.w-u.w*v.y):=(by unfold oy V.dot;grind);grind);have t2:f.y*oy u v w=0:=(by have:f.y*oy u v w= -(f.dot u*(v.x*w.w-v.w*w.x))+f.dot v*(u.x*w.w-u.w*w.x)-f.dot w*(u.x*v.w-u.w*v.x):=(by unfold oy V.dot;grind);grind);rcases d0 with h|h;exact(M5.1 t1).resolve_left h;exact(M5.1 t2).resolve_left h
end
variable{X:aF}{m:M}
def BF(a b:List Pl)(i:Nat):Bool:=match a[i]?,a[(i+1)%a.length]? with
 |some p,some q=> !(b.any λc=>decide (0 < dW p q c))
 |_,_=>false
def eH(a b:List Pl):Int:=match(List.range a.length).find? (BF a b)with |some i=>i |none=> -1
def ia(a b:List Pl):Bool:=bO a && bO b && decide (eH a b < 0) && decide (eH b a < 0)
def acv(hX:cp X){a b c:Pl}{ba bb:Nat}(ha:m.get ba=.cells a.c 46 none)(hb:m.get bb=.cells b.c 46 none)(sa:a.sm 1000000)(sb:b.sm 1000000)(sc:c.sm 1000000):
  xw X 218 [c.v,ptrTo ba,ptrTo bb] m (.bool (decide (0<dW a b c))) m:=by apply Cl.fl hX (U5 func218);rw[F218];dsimp only[aH];refine ah λm1 e0 b0 d0=>?_;have F:Ext m m1:=⟨Z,d0⟩;unfold ptrTo;rw[bY (F.cells ha),Y,bY (F.cells hb),Y,bY b0,Y];apply aw (AD hX sa sb sc);rw[cC,Y];exact⟨rfl,Z⟩
def aeu(h:∀j,j<a.length->BF a b j=false):eH a b= -1:=by unfold eH;grind
theorem find_range{p:Nat->Bool}:∀{n k:Nat},k<n->(∀j,j<k->p j=false)->p k->(List.range n).find? p=some k
 |n+1,k,F,h,hp=>by simp_all
def acC{k:Nat}(F:k<a.length)(h:∀j,j<k->BF a b j=false)(hs:BF a b k):eH a b=k:=by unfold eH;rw[find_range F h hs]
def El(hX:cp X){a b:List Pl}{va vb:O}(ha:Sl m a va)(hb:Sl m b vb)(la:a.length<1000000)(lb:b.length<1000000)(sa:∀p∈a,p.sm 1000000)(sb:∀p∈b,p.sm 1000000):
  xw X 176 [va,vb] m (I (eH a b)) m:=by
 apply Cl.fl hX (U5 func176);rw[F176];dsimp only[δ,η,ι,ο,ς,υ,χ,ψ,ω,Γ,Λ];refine ah λm1 Q1 B0 T1=>?_;refine ah λm2 a2 O0 P0=>?_;refine ah λm3 b2 Q0 e0=>?_;unfold ptrTo;refine aj yy Q0 rfl rfl rfl λm4 c2 a1 g0=>?_;have h0:Ext m m4:=⟨Z,J⟩;have⟨m7,hc,F,d2,e2⟩:=CV (m:=m4) hX ha.cells;apply aw hc;rw[cj];have g17:m7.get m.n=.cells (cells vb) 41 none:=(by rw[F.get _ Z,g0 _ Z,e0 _ Z,P0 _ Z,B0]);have b1:m7.get m1.n=.cells [I 0] 3 none:=(by rw[F.get _ Z,g0 _ Z,e0 _ Z,O0]);have c1:m7.get m2.n=.cells [I 0] 3 none:=(by rw[F.get _ Z,a1];rfl);rw[hb.cells]at g17;refine⟨.ob λ_=>False,mO a,_,λk mm=>m7.n<=mm.n/\(∀c,c<m7.n->c≠m1.n->c≠m2.n->mm.get c=m7.get c)/\mm.get m1.n=.cells [I 0] 3 none/\mm.get m2.n=.cells [I k] 3 none/\(∀j,j<k->BF a b j=false),λe mm=>e=.ret/\mm.get m1.n=.cells [I (eH a b)] 3 none,m.n,⟨_,rfl⟩,zo hX (v:=va) (b:=m4.n) Z,Z,?_,?_,?_,⟨R8 _,λ_ _ _ _=>rfl,b1,c1,λj hj=>Z⟩,?_,?_,?_⟩;rintro i mm ⟨h1,h2,h3,h4,h5⟩;refine⟨J,?_⟩;refine ha.aX λb c t g hb ht=>?_;have:=M.aM hb;rw[h2 b Z Z Z,F.get b Z,h0.get b this,hb];rintro i mm d1 ⟨h1,h2,h3,h4,h5⟩ hk;exact⟨by have:=hk.n;omega,λc hc n1 n2=>by rw[hk.get c Z Z,h2 c hc n1 n2],by rw[hk.get _ Z Z,h3],by rw[hk.get _ Z Z,h4],h5⟩;rintro e mm d1 ⟨h,h'⟩ hk;have:=M.aM h';exact⟨h,by rw[hk.get _ this Z,h']⟩;rintro k args m10 p1 hx ⟨h1,h2,h3,h4,h5⟩;obtain⟨pa,pb,d0,i0,rfl⟩:=zn hx;have e1:k<a.length:=(Nr.1 d0).1;rw[av,av];show N9 [] _;unfold N9;refine ah λm16 u1 j0 v1=>?_;refine aj fR j0 rfl rfl rfl λm17 w1 k0 y1=>?_;refine ah λm19 A1 l0 n0=>?_;refine aj fR l0 rfl rfl rfl λm20 B1 o0 p0=>?_;have iF:∀c,c<m10.n->m20.get c=m10.get c:=J;refine⟨λc _ hc=>iF c hc,λm22 G1 b0=>?_⟩;dsimp only;have r1:m22.get m10.n=.cells pa.c 46 none:=(by rw[b0 _ Z,p0 _ Z,n0 _ Z,k0];rfl);have r2:m22.get m17.n=.cells pb.c 46 none:=(by rw[b0 _ Z,o0];rfl);have g1:∀c,c<m7.n->c≠m1.n->c≠m2.n->m22.get c=m7.get c:=J;have r3:m22.get m.n=.cells [vb] 41 none:=J;have r4:m22.get m2.n=.cells [I k] 3 none:=J;have r5:m22.get m1.n=.cells [I 0] 3 none:=J;rw[oP,aG r3];show aS (some vb) _;rw[Y];have i1:Sl m22 b vb:=hb.aX λb c t g hb ht=>(by have:=M.aM hb;rw[g1 b Z Z Z,F.get b Z,h0.get b this,hb]);refine aw (vg hX (λc=>decide (0<dW pa pb c)) Z i1 λc hc=>?_) ?_;exact acv hX r1 r2 (sa _ (QP d0)) (sa _ (QP i0)) (sb c hc);have q0:BF a b k= !(b.any λc=>decide (0<dW pa pb c)):=(by unfold BF;rw[d0,i0]);rw[bB,Y,ag,<-q0];refine af (λhs=>?_) (λhs=>?_);rw[bP,aG r4];show aS (some (Value.int .i64 k)) _;rw[Y];refine aj yy r5 rfl rfl rfl λg2 H1 r0 s0=>?_;refine⟨Z,λc j1 k1 l1=>s0 c J,rfl,?_⟩;rw[acC e1 h5 hs];exact r0;rw[bP,aG r4];show aS (some (Value.int .i64 k)) _;rw[Y,aO,Y,wrap64];refine aj yy r4 rfl rfl rfl λi2 K1 u0 y0=>?_;refine⟨Z,λc j1 k1 l1=>y0 c J,Z,J,J,u0,λj hj=>?_⟩;by_cases e:j=k;rw[e];exact hs;exact h5 j Z;rintro mm iH ⟨h1,h2,h3,h4,h5⟩ o1;refine aj yy h3 rfl rfl rfl λj2 L1 A0 O1=>?_;rw[bP,aG A0];show aS (some (Value.int .i64 (-1))) _;rw[Y];refine⟨?_,Z⟩;rw[uF]at h5;rw[aeu h5];rfl;rintro e mm iH k2 ⟨rfl,h'⟩ o1
 refine⟨_,RV.2 rfl,rfl,?_⟩;dsimp only;rw[bP,aG h'];show aS (some (Value.int .i64 (eH a b))) _;rw[Y];exact⟨rfl,Z⟩
def Ef(a b:List Pl):Int×Int×Bool:=
 if bO a && bO b then(if 0<=eH a b then(0,eH a b,true)else if 0<=eH b a then(1,eH b a,true)else(0,0,false))else(0,0,false)
theorem Qo(F:cp X){a b:List Pl}{va vb:O}(ha:Sl m a va)(hb:Sl m b vb)(la:a.length<1000000)(lb:b.length<1000000):
  xw X 126 [va,vb] m (.tuple #[I (Ef a b).1,I (Ef a b).2.1,.bool (Ef a b).2.2]) m:=by apply Cl.fl F (U5 func126);rw[F126];dsimp only[aH];refine xr (λvs mm lo=>vs=[.bool (!(bO a && bO b))]/\m=mm/\m.n<=lo) (λR hR=>?_) ?_;apply aw (mg F ha Z);rw[bB,Y,ag];refine af (λh=>?_) (λh=>?_);have h:bO a=false:=J;exact hR ⟨J,rfl,Z⟩;have h:bO a:=J;apply aw (mg F hb Z);rw[bB,Y];exact hR ⟨J,rfl,Z⟩;rintro _ _ lo ⟨rfl,rfl,b0⟩;rw[av,ag];refine af (λh=>?_) (λh=>?_);have h:(bO a && bO b)=false:=(by cases h':(bO a && bO b)with|false=>rfl|true=>rw[h']at h;cases h);unfold Ef;rw[ND J];exact⟨rfl,b0⟩;have h:(bO a && bO b):=(by cases h':(bO a && bO b)with|true=>rfl|false=>rw[h']at h;cases h);unfold Ef;rw[UG h];rw[G4]at h;apply aw (El F ha hb la lb (me h.1) (me h.2));rw[cZ,Y,ag];refine af (λh1=>?_) (λh1=>?_);have h1:0<=eH a b:=J;rw[UG h1];exact⟨rfl,Z⟩;have h1:¬0<=eH a b:=J;rw[ND h1];apply aw (El F hb ha lb la (me h.2) (me h.1));rw[cZ,Y,ag];refine af (λh2=>?_) (λh2=>?_);have h2:0<=eH b a:=J;rw[UG h2];exact⟨rfl,Z⟩;have h2:¬0<=eH b a:=J;rw[ND h2];exact⟨rfl,Z⟩
def sB(F:cp X){a b:List Pl}{va vb:O}(ha:Sl m a va)(hb:Sl m b vb)(la:a.length<1000000)(lb:b.length<1000000):
  xw X 79 [va,vb] m (.bool (ia a b)) m:=by apply Cl.fl F (U5 func79);rw[F79];dsimp only[aH];apply aw (Qo F ha hb la lb);rw[aE,aE,aE];simp only[XW,Q7,Y];refine xr (λvs mm lo=>vs=[.bool (ia a b)]/\m=mm/\m.n<=lo) (λR hR=>?_) ?_;apply aw (mg F ha Z);rw[ag];refine af (λh=>?_) (λh=>?_);apply aw (mg F hb Z);rw[ag];refine af (λh'=>?_) (λh'=>?_);rw[bB,Y];refine hR ⟨?_,rfl,Z⟩;unfold ia Ef;rw[h,h',Xc,UG rfl,DO];by_cases h1:0<=eH a b;rw[UG h1,C8 (show¬eH a b<0 by omega)];rfl;rw[ND h1,RO (show eH a b<0 by omega)];by_cases h2:0<=eH b a;rw[UG h2,C8 (show¬eH b a<0 by omega)];rfl;rw[ND h2,RO (show eH b a<0 by omega)];rfl;exact hR ⟨by unfold ia;rw[h',Vc];rfl,rfl,Z⟩;exact hR ⟨by unfold ia;rw[h];rfl,rfl,Z⟩;rintro _ _ lo ⟨rfl,rfl,b0⟩;rw[av];exact⟨rfl,b0⟩
def adm(hX:cp X)(p:Pl):xw X 234 [p.v] m (.bool (!p.off)) m:=by apply Cl.fl hX (U5 func234);rw[F234];dsimp only[aH];refine ah λm1 b0 F d0=>?_;simp only[bd]at F;refine xr (λvs mm lo=>vs=[.bool (!p.off)]/\lo=m.n) (λR hR=>?_) ?_;simp only[Y,an,cj,ag,bN,aT,cI,aK,cZ,cC,aJ,bZ,bB,ptrTo,cG,lF,Jf,Nat.reduceAdd,XW,Q7,Mf,UZ,SF,N2,F4,bd,nH,lN,jX,nF,nG,lM,cV,dZ,bP,aG F];have ho:p.off= !(decide (0<=p.x) && decide (p.x<=40) && decide (0<=p.y) && decide (p.y<=40)):=(by unfold Pl.off;by_cases h1:0<=p.x <;>by_cases h2:p.x<=40 <;>by_cases h3:0<=p.y <;>by_cases h4:p.y<=40 <;>simp[h1,h2,h3,h4] <;>omega);refine af (λh1=>?_) (λh1=>hR ⟨J,rfl⟩);refine af (λh2=>?_) (λh2=>hR ⟨J,rfl⟩);refine af (λh3=>?_) (λh3=>hR ⟨J,rfl⟩);exact hR ⟨J,rfl⟩;rintro _ mm lo ⟨rfl,rfl⟩;rw[av];exact⟨rfl,R8 _⟩
def aeI(hX:cp X)(a b c:Pl):xw X 191 [a.v,b.v,c.v] m (I (Kk a b c)) m:=by apply Cl.fl hX (U5 func191);rw[F191];dsimp only[aH];refine ah λm1 h0 d0 i0=>?_;refine ah λm2 j0 e0 g0=>?_;refine ah λm3 k0 F b0=>?_;have g1:=(b0 m.n Z).trans ((g0 m.n Z).trans d0);have g2:=(b0 m1.n Z).trans e0;simp only[bd]at g1 g2 F;simp only[Y,an,cj,ag,bN,aT,cI,aK,cZ,cC,aJ,bZ,bB,ptrTo,cG,lF,Jf,Nat.reduceAdd,XW,Q7,Mf,UZ,SF,N2,F4,bd,nH,lN,jX,nF,nG,lM,cV,dZ,bP,aG g1,aG g2,aG F,fa,kO];exact⟨rfl,R8 _⟩
def BL(F:cp X){a b c:Pl}(ha:a.sm 1000000)(hb:b.sm 1000000)(hc:c.sm 1000000):xw X 191 [a.v,b.v,c.v] m (I (dW a b c)) m:=by rw[<-GQ ha hb hc];exact aeI F a b c
def JI(hX:cp X){l:List Pl}{v:O}(hl:Sl m l v){i:Nat}{q:Pl}(hb:l.length<4611686018427387904)(hi:i<l.length)(hq:l[(i+1)%l.length]?=some q):xw X 235 [v,I i] m q.v m:=by apply Cl.fl hX (U5 func235);rw[F235];dsimp only[aH];refine ah λm1 g0 b0 d0=>?_;have F:Ext m m1:=⟨Z,d0⟩;rw[aO,Y,wrap64,(hl.ak F).len cO,an,show((i:Int)+1)=((i+1:Nat):Int) by omega,AM Z,Y];have⟨a,e1,e2⟩:=(hl.ak F).fN (k:=.i64) hq;rw[e1,Y,e2,Y];unfold ptrTo;refine aj fR b0 rfl rfl rfl λm7 h0 e0 i0=>?_;rw[bY e0,Y];exact⟨rfl,Z⟩
def pT(hX:cp X){l:List Pl}{v:O}(hl:Sl m l v)(hb:l.length<4611686018427387904):xw X 188 [v] m (.bool (bO l)) m:=by
 apply Cl.fl hX (U5 func188);rw[F188];dsimp only[aH];refine xr (λvs mm lo=>vs=[.bool (!(decide (3<=l.length) && decide (l.length<=8)))]/\m=mm/\lo=m.n) (λR hR=>?_) ?_;rw[hl.len cO];simp only[Y,an,cj,ag,bN,aT,cI,aK,cZ,cC,aJ,bZ,bB,ptrTo,cG,lF,Jf,Nat.reduceAdd,XW,Q7,Mf,UZ,SF,N2,F4,bd,nH,lN,jX,nF,nG,lM];refine af (λh=>hR ⟨J,rfl,rfl⟩) (λh=>?_);have h3:3<=l.length:=J;refine hR ⟨?_,rfl,rfl⟩;have:decide ((8:Int)< l.length)= !(decide (l.length<=8)):=J;rw[this];simp[h3];rintro _ _ _ ⟨rfl,rfl,rfl⟩;rw[av,ag];refine af (λh=>?_) (λh=>?_);refine⟨?_,R8 _⟩;simp only[yC]at h;simp only[aP,bO,h,Ns];simp only[HO,G4,Xo]at h;have⟨h3,h8⟩:=h;refine Lp.intro (γ:=Nat) (λi=>l.length-i) (λi vs mm lo=>vs=[P6,I i]/\i<=l.length/\m=mm/\lo=m.n/\∀j p,j<i->l[j]?=some p->p.off=false) 0 ⟨rfl,Vw _,rfl,rfl,λj p hj=>Z⟩ ?_;rintro i vs mm lo ⟨rfl,hi,rfl,rfl,g0⟩;rw[av,av,hl.len cO,an,aK,Y,ag];refine af (λF=>?_) (λr0=>?_);have F:i<l.length:=J;obtain⟨p,hp⟩:∃p,l[i]?=some p:=⟨_,QC F⟩;have⟨q,e1,e2⟩:=hl.fN (k:=.i64) hp;rw[e1,Y,e2,Y];apply aw (adm hX p);rw[bB,Y,ag,OB];refine af (λho=>?_) (λho=>?_);refine⟨?_,Z⟩;have:l.any Pl.off:=U7.2 ⟨p,QP hp,ho⟩;simp[aP,bO,this];rw[aO,Y,wrap64];refine⟨i+1,Z,rfl,Z,rfl,Z,λj q hj hq=>?_⟩;by_cases e:j=i;subst e;rw[hp]at hq;cases hq;exact ho;exact g0 j q Z hq;have s0:i=l.length:=(by have:¬(i:Int)< (l.length:Int):=J;omega);have o0:l.any Pl.off=false:=(by rw[J3];intro p hp;have⟨j,hj⟩:=MI hp;rw[g0 j p J hj];decide);have l0:∀p∈l,p.sm 1000000:=λp hp=>Pl.QI J;have hv:∀r,rJ l=r->bO l=r:=λr hr=>(by simp[bO,h3,h8,o0,hr]);refine Lp.intro (γ:=Nat) (λi=>l.length-i) (λi vs mm lo=>vs=[P6,I i]/\i<=l.length/\m=mm/\lo=m.n/\∀j,j<i->Qc l j) 0 ⟨rfl,Vw _,rfl,rfl,λj hj=>Z⟩ ?_;rintro i vs mm lo ⟨rfl,hi,rfl,rfl,h0⟩;rw[av,av,hl.len cO,an,aK,Y,ag];refine af (λF=>?_) (λr0=>?_);have F:i<l.length:=J;obtain⟨pa,b0⟩:∃p,l[i]?=some p:=⟨_,QC F⟩;have u0:(i+1)%l.length<l.length:=T7 _ Z;obtain⟨pb,d0⟩:∃p,l[(i+1)%l.length]?=some p:=⟨_,QC u0⟩;refine Lp.intro (γ:=Nat) (λk=>l.length-k) (λk vs mm lo=>vs=[P6,I k]/\k<=l.length/\m=mm/\lo=m.n/\∀j c,j<k->l[j]?=some c->j=i\/j=(i+1)%l.length\/0<dW pa pb c) 0 ⟨rfl,Vw _,rfl,rfl,λj c hj=>Z⟩ ?_;rintro k vs mm lo ⟨rfl,hk,rfl,rfl,i0⟩;rw[av,av,hl.len cO,an,aK,Y,ag];refine af (λj0=>?_) (λB0=>?_);have j0:k<l.length:=J;obtain⟨pc,e0⟩:∃p,l[k]?=some p:=⟨_,QC j0⟩;refine xr (λvs mm lo=>vs=[.bool (!(k==i ||k==(i+1)%l.length ||decide (0<dW pa pb pc)))]/\m=mm/\lo=m.n) (λR hR=>?_) ?_;rw[bZ,Y,ag];refine af (λp0=>?_) (λhe=>?_);have p0:k≠i:=J;rw[aO,Y,wrap64,an,show((i:Int)+1)=((i+1:Nat):Int) by omega,AM Z,Y,bZ,Y,ag];refine af (λk0=>?_) (λO0=>?_);have k0:k≠(i+1)%l.length:=J;have⟨q,e1,e2⟩:=hl.fN (k:=.i64) b0;rw[e1,Y,e2,Y];refine aw (JI hX hl hb F d0) ⟨R8 _,?_⟩;have⟨q,e1,e2⟩:=hl.fN (k:=.i64) e0;rw[e1,Y,e2,Y];apply aw (BL hX (l0 _ (QP b0)) (l0 _ (QP d0)) (l0 _ (QP e0)));rw[cI,Y];refine hR ⟨?_,rfl,Z⟩;have:decide (dW pa pb pc<=0)= !(decide (0<dW pa pb pc)):=J;rw[this];simp[p0,k0];refine hR ⟨?_,rfl,rfl⟩
 have:k=(i+1)%l.length:=(by have h':(k:Int)=(((i+1)%l.length:Nat):Int):=J;omega);simp[this];refine hR ⟨?_,rfl,rfl⟩;have:k=i:=J;simp[this];rintro _ _ _ ⟨rfl,rfl,rfl⟩;rw[av,ag];refine af (λq0=>?_) (λn0=>?_);have hc:rJ l=false:=(by cases hc:rJ l with|false=>rfl|true=>simp only[rJ,SB,QJ]at hc;have h2:=(wL b0 d0).1 (hc i F) k pc e0;simp only[yC,UP,beq_eq_false_iff_ne,SU]at q0;omega);exact⟨by rw[hv false hc];rfl,R8 _⟩;rw[aO,Y,wrap64];refine⟨k+1,Z,rfl,Z,rfl,rfl,λj c hj hc=>?_⟩;by_cases y0:j<k;exact i0 j c y0 hc;have:j=k:=Z;subst this;rw[e0]at hc;cases hc;simp only[HO,QA,beq_iff_eq,Xo]at n0;omega;have P0:k=l.length:=(by have:¬(k:Int)< (l.length:Int):=J;omega);rw[aO,Y,wrap64];refine⟨i+1,Z,rfl,Z,rfl,rfl,λj hj=>?_⟩;by_cases A0:j<i;exact h0 j A0;have:j=i:=Z;subst this;rw[wL b0 d0];intro q c hq;exact i0 q c J hq;have s0:i=l.length:=(by have:¬(i:Int)< (l.length:Int):=J;omega);have hc:rJ l:=SB.2 λj hj=>h0 j J;exact⟨by rw[hv true hc];rfl,R8 _⟩
abbrev wr(x:Int):Int:=IntKind.i64.wrap x
def Kc(x:Int):wr x=if x%18446744073709551616>=9223372036854775808 then x%18446744073709551616-18446744073709551616 else x%18446744073709551616:=by unfold wr IntKind.wrap;simp[IntKind.bits,IntKind.signed]
def yu(x:Int):wr x%18446744073709551616=x%18446744073709551616:=by rw[Kc];split <;>omega
def pJ{y:Int}(h:x%18446744073709551616=y%18446744073709551616):wr x=wr y:=by rw[Kc,Kc,h]
def GJ(a b:Int):IntKind.i64.wrap (IntKind.i64.wrap a+b)=IntKind.i64.wrap (a+b):=pJ (by have:=yu a;grind)
def GI(a b:Int):IntKind.i64.wrap (a+IntKind.i64.wrap b)=IntKind.i64.wrap (a+b):=pJ (by have:=yu b;grind)
def Bl(a b:Int):IntKind.i64.wrap (IntKind.i64.wrap a-b)=IntKind.i64.wrap (a-b):=pJ (by have:=yu a;grind)
def Bk(a b:Int):IntKind.i64.wrap (a-IntKind.i64.wrap b)=IntKind.i64.wrap (a-b):=pJ (by have:=yu b;grind)
def GH(a b:Int):IntKind.i64.wrap (IntKind.i64.wrap a*b)=IntKind.i64.wrap (a*b):=pJ (by have:=yu a;show(wr a*b)%_=_;rw[Nq,this,<-Nq])
def GG(a b:Int):IntKind.i64.wrap (a*IntKind.i64.wrap b)=IntKind.i64.wrap (a*b):=pJ (by have:=yu b;show(a*wr b)%_=_;rw[Nq,this,<-Nq])
def tL(N x:Int):Prop:= -N<=x/\x<=N
def tL.mul{a b:Int}(F:tL A a)(hb:tL B b):tL (A*B) (a*b):=by have⟨a1,a2⟩:=F;have⟨b1,b2⟩:=hb;have h1:0<=(A-a)*(B+b):=TL Z Z;have h2:0<=(A+a)*(B-b):=TL Z Z;have h3:0<=(A-a)*(B-b):=TL Z Z;have h4:0<=(A+a)*(B+b):=TL Z Z;constructor <;>grind
def tL.add{a b:Int}(F:tL A a)(hb:tL B b):tL (A+B) (a+b):=by have⟨a1,a2⟩:=F;have⟨b1,b2⟩:=hb;constructor <;>omega
def tL.sub{a b:Int}(F:tL A a)(hb:tL B b):tL (A+B) (a-b):=by have⟨a1,a2⟩:=F;have⟨b1,b2⟩:=hb;constructor <;>omega
def tL.wr{N:Int}(h:tL N x)(F:N<9223372036854775808):IntKind.i64.wrap x=x:=wrap64 (by have:=h.1;omega) (by have:=h.2;omega)
structure Ln where
 v:yn.V
variable{L:List Ln}
structure Pt where
 v:yn.V
variable{acc:List Pt}
def vC(p:yn.V):ν:=[.int .i64 p.x,.int .i64 p.y,.int .i64 p.w]
instance:aL Ln where
 ty:=307
 sz:=3
 agg:=true
 dN:=[]
 rep _ p cs:=cs=vC p.v
 pos:=ce
 one:=J
 len:=by rintro _ _ _ rfl;rfl
 iy:=by rintro _ _ _ rfl;rfl
 aX:=J
instance:aL Pt where
 ty:=309
 sz:=3
 agg:=true
 dN:=[]
 rep _ p cs:=cs=vC p.v
 pos:=ce
 one:=J
 len:=by rintro _ _ _ rfl;rfl
 iy:=by rintro _ _ _ rfl;rfl
 aX:=J
def Fh:qs TE 303 307 Ln:=⟨ai.t303,ai.t307,bv,⟨_,rfl⟩,rfl,bv,rfl,rfl⟩
def Tf:vp TE 303 Ln:=⟨ai.t303,ai.t307,bv,rfl,rfl,bv,ce,rfl⟩
def PQ:qs TE 305 309 Pt:=⟨ai.t305,ai.t309,bv,⟨_,rfl⟩,rfl,bv,rfl,rfl⟩
def aal:vp TE 305 Pt:=⟨ai.t305,ai.t309,bv,rfl,rfl,bv,ce,rfl⟩
def row_one{α:Type}[aL α]{b:Nat}{cs:ν}{x:α}{g:Option Nat}(h:m.get b=.cells cs (aL.ty α) g)(F:aL.rep m x cs):Sl m [x] (Hr b 0 1 1):=by refine .inr ⟨b,0,1,cs,g,rfl,h,by rw[aL.len F];simp,λi y hi=>?_⟩;match i with|0=>cases hi;have:(cs.drop (0+0*aL.sz α)).take (aL.sz α)=cs:=(by rw[Vk,Jf,Mf,MM (by rw[aL.len F];exact R8 _)]);grind|i+1=>simp at hi
def Gp{l:List Pl}(h:l[i]?=some p):jF l i=p:=by unfold jF;rw[h];rfl
def HH(hX:cp X){l:List Pl}{v:O}(hl:Sl m l v)(hv:bO l):∃r m',xw X 236 [v] m r m'/\Ext m m'/\Ow m.n m' ((uG l).map Ln.mk) r:=by
 have key:∃r m' b,C X (.func 236) [v] m b r m'/\b=m.n/\Ext m m'/\Ow m.n m' ((uG l).map Ln.mk) r:=(by have⟨h3,h8⟩:=dM hv;have j0:=Bs hv;refine Cl.heap (R:=λr m' b=>b=m.n/\Ext m m'/\Ow m.n m' ((uG l).map Ln.mk) r) (hX.no _ rfl) (U5 func236) rfl ?_;rw[F236];dsimp only[aH];refine Lp.intro (γ:=Nat) (λi=>l.length-i) (λi vs mm lo=>∃r,vs=[r,I i]/\i<=l.length/\Ext m mm/\m.n<=lo/\Ow m.n mm (((List.range i).map (iO l)).map Ln.mk) r) 0 ⟨_,rfl,Vw _,.refl,R8 _,.nil⟩ ?_;rintro i vs mm lo ⟨r,rfl,hi,hx,o1,h0⟩;have hn:=hx.n;rw[av,av,(hl.ak hx).len cO,an,aK,Y,ag];refine af (λi0=>?_) (λp1=>?_);have i0:i<l.length:=J;obtain⟨p,hp⟩:∃p,l[i]?=some p:=⟨_,QC i0⟩;obtain⟨q,hq⟩:∃p,l[(i+1)%l.length]?=some p:=⟨_,QC (T7 _ Z)⟩;have⟨a,e1,e2⟩:=(hl.ak hx).fN (k:=.i64) hp;rw[e1,Y,e2,Y];refine ah λm13 B0 k0 O0=>?_;unfold ptrTo;refine aj fR k0 rfl rfl rfl λm14 P0 l0 Q0=>?_;have F:Ext mm m14:=⟨Z,J⟩;apply aw (JI hX ((hl.ak hx).ak F) Z i0 hq);refine ah λm19 a1 n0 c1=>?_;refine aj fR n0 rfl rfl rfl λm20 d1 o0 i1=>?_;have b0:Ext m14 m20:=⟨Z,J⟩;have g1:m20.get mm.n=.cells [I p.x,I p.y] 46 none:=(by rw[b0.get _ Z,l0];rfl);have g2:m20.get m14.n=.cells [I q.x,I q.y] 46 none:=o0;have bp:=Pl.on (j0 p (QP hp));have bq:=Pl.on (j0 q (QP hq));have b1:tL 40 p.x:=⟨Z,Z⟩;have b2:tL 40 p.y:=⟨Z,Z⟩;have b3:tL 80 (q.x-p.x):=⟨Z,Z⟩;have b4:tL 80 (q.y-p.y):=⟨Z,Z⟩;have w3:IntKind.i64.wrap ((q.y-p.y)*p.x-(q.x-p.x)*p.y)=(q.y-p.y)*p.x-(q.x-p.x)*p.y:=((b4.mul b1).sub (b3.mul b2)).wr ce;have w1:IntKind.i64.wrap (p.y-q.y)=p.y-q.y:=wrap64;have w2:IntKind.i64.wrap (q.x-p.x)=q.x-p.x:=wrap64;simp only[cV,dZ,bP,aG g1,aG g2,Jf,XW,Q7,Y,fa,kO,Bl,Bk,GH,GG,w1,w2,w3];have bl:∀a b c:Int,bz TE 307 [(0,I a),(1,I b),(2,I c)]=some (.agg #[I a,I b,I c]):=λa b c=>Ay rfl rfl rfl;rw[bl,Y];obtain⟨L,hL⟩:∃L:yn.V,L=⟨p.y-q.y,q.x-p.x,(q.y-p.y)*p.x-(q.x-p.x)*p.y⟩:=⟨_,rfl⟩;have s0:iO l i=L:=(by unfold iO oo;rw[Gp hp,Gp hq,hL]);have u0:∀a b c:Int,aQ TE m20 303 1 [(0,.agg #[I a,I b,I c])]=some (Hr m20.n 0 1 1,m20.push (.cells [.int .i64 a,.int .i64 b,.int .i64 c] 307 none)):=λa b c=>bv;rw[u0,an];have d0:Ext m20 (m20.push (.cells [.int .i64 (p.y-q.y),.int .i64 (q.x-p.x),.int .i64 ((q.y-p.y)*p.x-(q.x-p.x)*p.y)] 307 none)):=Ext.refl.push;generalize e0:m20.push (.cells [.int .i64 (p.y-q.y),.int .i64 (q.x-p.x),.int .i64 ((q.y-p.y)*p.x-(q.x-p.x)*p.y)] 307 none)=p0 at*;have q0:p0.get m20.n=.cells (vC L) 307 none:=(by rw[<-e0,hL];exact M.aU);have j1:p0.n=m20.n+1:=(by rw[<-e0];rfl);obtain⟨v',y0,ha,r0,g0,k1,l1⟩:=Ow.append (y:=Hr m20.n 0 1 1) (ys:=[Ln.mk L]) Tf (by simp[aL.dN]) (h0.ak (F.trans (b0.trans d0))) (row_one q0 rfl) Z J;rw[ha,an,aO,Y,wrap64];have r1:=g0.n;refine⟨i+1,Z,v',rfl,Z,⟨Z,λb hb=>by rw[g0.get b hb,d0.get b Z,b0.get b Z,F.get b Z,hx.get b hb]⟩,Z,?_⟩;rw[Oz,MN,MN];show Ow m.n y0 (_++ [Ln.mk (iO l i)]) v';rw[s0];exact r0;have A0:i=l.length:=(by have:¬(i:Int)< (l.length:Int):=J;omega);subst A0;refine⟨.inl (h0.flat ?_),Z,hx,h0⟩;intro h;have:=congrArg List.length h;rw[Xh,Xh,List.length_range,JW]at this;omega)
 obtain⟨r,m',b,hc,rfl,h1,h2⟩:=key;exact⟨r,m',hc,h1,h2⟩
section
open Go Go.D Go.yn Go.Proofs.Tryz
variable {X:aF} {m:M}
def Q8{v:O}(h:Sl m L v){i:Nat}{x:Ln}(hx:L[i]?=some x):∃a a0 a1 a2,aD TE 303 v (I i)=some a/\az TE 307 a 0=some a0/\aC TE m 3 a0=some (I x.v.x)/\
  az TE 307 a 1=some a1/\aC TE m 3 a1=some (I x.v.y)/\az TE 307 a 2=some a2/\aC TE m 3 a2=some (I x.v.w):=by have⟨b,o,bc,g,cs,e1,F,hr,_,hj⟩:=h.iI Fh (k:=.i64) hx;have hr:cs=vC x.v:=hr;subst hr;refine⟨_,_,_,_,e1,Av,?_,Au,?_,acA,?_⟩;rw[bP,aG F,hj 0 ce];rfl;rw[bP,aG F,hj 1 ce];rfl;rw[bP,aG F,hj 2 ce];rfl
def Qn{L:List Pt}{v:O}(h:Sl m L v){i:Nat}{x:Pt}(hx:L[i]?=some x):∃a,aD TE 305 v (I i)=some a/\aC TE m 309 a=some (.agg (vC x.v).toArray):=by have⟨p,cs,e1,e2,F⟩:=h.index PQ (k:=.i64) hx;have F:cs=vC x.v:=F;subst F;exact⟨p,e1,e2⟩
def BdL(p:V):Prop:=tL 80 p.x/\tL 80 p.y/\tL 6400 p.w
def BdP(p:V):Prop:=tL 1024000 p.x/\tL 1024000 p.y/\tL 12800 p.w
def tL.mono(h:tL A x)(F:A<=B):tL B x:=⟨by have:=h.1;omega,by have:=h.2;omega⟩
def tL.neg(h:tL A x):tL A (-x):=⟨by have:=h.2;omega,by have:=h.1;omega⟩
def KO{f g:V}(F:BdL f)(hg:BdL g):BdP (meet f g):=by have⟨f1,f2,f3⟩:=F;have⟨g1,g2,g3⟩:=hg;exact⟨((f2.mul g3).sub (g2.mul f3)).mono ce,((f3.mul g1).sub (g3.mul f1)).mono ce,((f1.mul g2).sub (g1.mul f2)).mono ce⟩
def KJ{p:V}(h:BdP p):BdP (norm p):=by unfold norm;split;exact⟨h.1.neg,h.2.1.neg,h.2.2.neg⟩;exact h
def Oh(L:List Ln)(p:V):Bool:=L.all λx=>decide (0<=x.v.dot p)
def Lf{v21 va:O}{B k:Nat}{p:V}{mm:M}{P:ν->M->Nat->Prop}(hL:Sl mm L v21)(hB:mm.get B=.cells (vC p) 309 none)(h0:Ow n1 mm acc va)(j2:n1<=mm.n)
  (G1:∀x∈L,BdL x.v) (H1:BdP p) (e2:acc.length<=1000) (hk:k<1000) (hlen:L.length<=16)
  (hP:∀q0 m' r0,mm.n<=m'.n->(∀c,c<n1->m'.get c=mm.get c)->min lo0 n1<=r0->Ow n1 m' (if Oh L p then acc++ [Pt.mk p]else acc) q0->P [q0,I ((k+1:Nat):Int)] m' r0):
  (Lp (λi0 o0 F d0=>un o0 λj0 s0=>un s0 λb0 g2=>(dh (aR TE F .len [303] [v21]) λu0 _=>(aS (bE TE .lss 3 b0 u0) λy0=>(iS y0
(iS j0
(aS (aD TE 303 v21 b0) λA0=>(aS (az TE 307 A0 0) λB0=>(aS (aC TE F 3 B0) λv124=>(aS (az TE 309 (ptrTo B) 0) λO0=>(aS (aC TE F 3 O0) λP0=>(aS (bE TE .mul 3 v124 P0) λv127=>(aS (aD TE 303 v21 b0) λQ0=>(aS (az TE 307 Q0 1) λd1=>(aS (aC TE F 3 d1) λv130=>(aS (az TE 309 (ptrTo B) 1) λv131=>(aS (aC TE F 3 v131) λg1=>(aS (bE TE .mul 3 v130 g1) λh1=>(aS (bE TE .add 3 v127 h1) λi1=>(aS (aD TE 303 v21 b0) λj1=>(aS (az TE 307 j1 2) λk1=>(aS (aC TE F 3 k1) λo1=>(aS (az TE 309 (ptrTo B) 2) λv138=>(aS (aC TE F 3 v138) λv139=>(aS (bE TE .mul 3 o1 v139) λp1=>(aS (bE TE .add 3 i1 p1) λv141=>(aS (bE TE .geq 3 v141 (I 0)) λr1=>(aS (bE TE .add 3 b0 (I 1)) λv143=>(i0 [r1,v143] F d0)))))))))))))))))))))))
(aS (bE TE .add 3 b0 (I 1)) λu1=>(i0 [P6,u1] F d0)))
(iS j0
(aS (aC TE F 309 (ptrTo B)) λv145=>(dh (aQ TE F 305 1 [(0,v145)]) λv146 k0=>(dh (aR TE (M.wl k0 (M.n k0)) .append [305,305] [va,v146]) λv148 n0=>(aS (bE TE .add 3 (I k) (I 1)) λv1=>(P [v148,v1] n0 (min d0 (M.low n0)))))))
(aS (bE TE .add 3 (I k) (I 1)) λw1=>(P [va,w1] F d0))))))) [VT,I 0] mm lo0):=by refine Lp.intro (γ:=Nat) (λi=>L.length-i) (λi vs m' lo=>vs=[.bool (Oh (L.take i) p),I i]/\i<=L.length/\mm=m'/\lo0=lo) 0 ⟨rfl,Vw _,rfl,rfl⟩ ?_;rintro i vs m' lo ⟨rfl,hi,rfl,rfl⟩;rw[av,av,hL.len Fh,an,aK,Y,ag,ag];refine af (λp0=>?_) (λK1=>?_);have p0:i<L.length:=(by simpa using p0);obtain⟨x,hx⟩:∃x,L[i]?=some x:=⟨_,QC p0⟩;have g0:Oh (L.take (i+1)) p=(Oh (L.take i) p && decide (0<=x.v.dot p)):=(by unfold Oh;rw[Z8,hx,My,JH];simp);refine af (λe0=>?_) (λe0=>?_);have⟨a,a0,a1,a2,e1,f0,l0,f1,l1,f2,l2⟩:=Q8 hL hx;have L1:mm.get B=.cells [I p.x,I p.y,I p.w] 309 none:=hB;have⟨b1,b2,b3⟩:=G1 x (QP hx);have⟨c1,c2,c3⟩:=H1;have hw:IntKind.i64.wrap (x.v.x*p.x+x.v.y*p.y+x.v.w*p.w)=x.v.dot p:=(((b1.mul c1).add (b2.mul c2)).add (b3.mul c3)).wr ce;simp only[e1,f0,l0,f1,l1,f2,l2,Y,ptrTo,mL,mK,mJ,bP,aG L1,Jf,XW,Q7,kO,aO,GJ,GI,hw,cZ];rw[wrap64];exact⟨i+1,Z,by rw[g0,e0,DO];rfl,Z,by first|rfl|trivial,by first|rfl|trivial⟩;rw[aO,Y,wrap64];exact⟨i+1,Z,by rw[g0,e0,Ns];rfl,Z,rfl,rfl⟩;have O1:i=L.length:=(by have:¬(i:Int)< (L.length:Int):=(by simpa using K1);omega);subst O1;rw[MM (R8 _)];refine af (λe0=>?_) (λe0=>?_);unfold ptrTo;rw[aev,aI hB (by simp[vC])];show aS (some (Value.agg #[I p.x,I p.y,I p.w])) _;rw[Y];have Q1:aQ TE mm 305 1 [(0,.agg #[I p.x,I p.y,I p.w])]=some (Hr mm.n 0 1 1,mm.push (.cells (vC p) 309 none)):=bv;rw[Q1,an];have y1:Ext mm (mm.push (.cells (vC p) 309 none)):=Ext.refl.push;generalize A1:mm.push (.cells (vC p) 309 none)=m1 at*;have T1:m1.get mm.n=.cells (vC p) 309 none:=(by rw[<-A1];exact M.aU);have i2:m1.n=mm.n+1:=(by rw[<-A1];rfl);obtain⟨v',m2,ha,d2,B1,k2,o2⟩:=Ow.append (y:=Hr mm.n 0 1 1) (ys:=[Pt.mk p]) aal (by simp[aL.dN]) (h0.ak y1) (row_one T1 rfl) Z (by simp;omega);rw[ha,an,aO,Y,wrap64];have h2:=B1.n;apply hP v' m2 _ Z (λc hc=>by rw[B1.get c hc,y1.get c Z]) Z;rw[UG e0];exact d2;rw[aO,Y,wrap64];refine hP va mm lo0 (R8 _) (λ_ _=>rfl) Z ?_;rw[ND (by rw[e0];decide)];exact h0
def PD{va:O}{mm:M}{R:ν->M->Nat->Prop}(i0:Sl mm acc va)(o1:∀x∈acc,BdP x.v)(a6:acc.length<=1000)(e6:n1<=mm.n)
  (hT:∀m' o0 (u v w:Pt),u∈acc->v∈acc->w∈acc->oy u.v v.v w.v≠0->min lo0 n1<=o0->R [VT] m' o0)
  (hF:∀m' o0,(∀(i k n:Nat) (u v w:Pt),n<k->k<i->acc[i]?=some u->acc[k]?=some v->acc[n]?=some w->oy u.v v.v w.v=0)->min lo0 n1<=o0->R [P6] m' o0):
  (Lp (λG1 p1 p0 q0=>un p1 λH1 K1=>un K1 λj0 b6=>(dh (aR TE p0 .len [305] [va]) λv201 _=>(aS (bE TE .lss 3 j0 v201) λL1=>(iS L1
(Lp (λO1 r1 y0 r0=>un r1 λA0 Q1=>un Q1 λk0 c6=>(aS (bE TE .lss 3 k0 j0) λT1=>(iS T1
(Lp (λd2 u1 e0 h0=>un u1 λB0 i2=>un i2 λv218 d6=>(aS (bE TE .lss 3 v218 k0) λj2=>(iS j2
(aS (aD TE 305 va j0) λk2=>(aS (aC TE e0 309 k2) λv222=>(nW (M.push e0 (.cells [I 0,I 0,I 0] 309 none)) λl2=>(dh (bh TE l2 309 (ptrTo (M.n e0)) v222) λb0 O0=>(aS (aD TE 305 va k0) λv226=>(aS (aC TE b0 309 v226) λv227=>(nW (M.push b0 (.cells [I 0,I 0,I 0] 309 none)) λo2=>(dh (bh TE o2 309 (ptrTo (M.n b0)) v227) λd0 P0=>(aS (aD TE 305 va v218) λu2=>(aS (aC TE d0 309 u2) λv232=>(nW (M.push d0 (.cells [I 0,I 0,I 0] 309 none)) λv2=>(dh (bh TE v2 309 (ptrTo (M.n d0)) v232) λF Q0=>(aS (az TE 309 (ptrTo (M.n e0)) 0) λv236=>(aS (aC TE F 3 v236) λw2=>(aS (az TE 309 (ptrTo (M.n b0)) 1) λy2=>(aS (aC TE F 3 y2) λz2=>(aS (az TE 309 (ptrTo (M.n d0)) 2) λA2=>(aS (aC TE F 3 A2) λB2=>(aS (bE TE .mul 3 z2 B2) λG2=>(aS (az TE 309 (ptrTo (M.n b0)) 2) λL2=>(aS (aC TE F 3 L2) λM2=>(aS (az TE 309 (ptrTo (M.n d0)) 1) λO2=>(aS (aC TE F 3 O2) λP2=>(aS (bE TE .mul 3 M2 P2) λQ2=>(aS (bE TE .sub 3 G2 Q2) λT2=>(aS (bE TE .mul 3 w2 T2) λU2=>(aS (az TE 309 (ptrTo (M.n e0)) 1) λd3=>(aS (aC TE F 3 d3) λe3=>(aS (az TE 309 (ptrTo (M.n b0)) 0) λi3=>(aS (aC TE F 3 i3) λj3=>(aS (az TE 309 (ptrTo (M.n d0)) 2) λk3=>(aS (aC TE F 3 k3) λl3=>(aS (bE TE .mul 3 j3 l3) λn3=>(aS (az TE 309 (ptrTo (M.n b0)) 2) λo3=>(aS (aC TE F 3 o3) λr3=>(aS (az TE 309 (ptrTo (M.n d0)) 0) λu3=>(aS (aC TE F 3 u3) λw3=>(aS (bE TE .mul 3 r3 w3) λy3=>(aS (bE TE .sub 3 n3 y3) λA3=>(aS (bE TE .mul 3 e3 A3) λB3=>(aS (bE TE .sub 3 U2 B3) λG3=>(aS (az TE 309 (ptrTo (M.n e0)) 2) λO3=>(aS (aC TE F 3 O3) λb4=>(aS (az TE 309 (ptrTo (M.n b0)) 0) λc4=>(aS (aC TE F 3 c4) λd4=>(aS (az TE 309 (ptrTo (M.n d0)) 1) λe4=>(aS (aC TE F 3 e4) λf4=>(aS (bE TE .mul 3 d4 f4) λg4=>(aS (az TE 309 (ptrTo (M.n b0)) 1) λj4=>(aS (aC TE F 3 j4) λk4=>(aS (az TE 309 (ptrTo (M.n d0)) 0) λl4=>(aS (aC TE F 3 l4) λn4=>(aS (bE TE .mul 3 k4 n4) λo4=>(aS (bE TE .sub 3 g4 o4) λr4=>(aS (bE TE .mul 3 b4 r4) λu4=>(aS (bE TE .add 3 G3 u4) λw4=>(aS (bE TE .neq 3 w4 (I 0)) λy4=>(iS y4
(R [VT] F (min (min (min h0 O0) P0) Q0))
(aS (bE TE .add 3 v218 (I 1)) λA4=>(d2 [B0,A4] F (min (min (min h0 O0) P0) Q0)))))))))))))))))))))))))))))))))))))))))))))))))))))))))))))
(aS (bE TE .add 3 k0 (I 1)) λB4=>(O1 [B0,B4] e0 h0))))) [A0,I 0] y0 r0)
(aS (bE TE .add 3 j0 (I 1)) λO4=>(G1 [A0,O4] y0 r0))))) [H1,I 0] p0 q0)
(R [P6] p0 q0))))) [P6,I 0] mm lo0):=by
 refine Lp.intro (γ:=Nat) (λi=>acc.length-i) (λi vs m' lo=>vs=[P6,I i]/\i<=acc.length/\Ext mm m'/\min lo0 n1<=lo/\∀(i' k n:Nat) (u v w:Pt),i'<i->n<k->k<i'->acc[i']?=some u->acc[k]?=some v->acc[n]?=some w->oy u.v v.v w.v=0) 0 ⟨rfl,Vw _,.refl,RQ _ _,λi' _ _ _ _ _ h=>Z⟩ ?_;rintro i vs m1 f6 ⟨rfl,hi,R4,d1,W4⟩;rw[av,av,(i0.ak R4).len PQ,an,aK,Y,ag];refine af (λv1=>?_) (λi5=>?_);have v1:i<acc.length:=(by simpa using v1);obtain⟨u,hu⟩:∃u,acc[i]?=some u:=⟨_,QC v1⟩;refine Lp.intro (γ:=Nat) (λk=>i-k) (λk vs m' lo=>vs=[P6,I k]/\k<=i/\Ext mm m'/\min lo0 n1<=lo/\∀(k' n:Nat) (v w:Pt),k'<k->n<k'->acc[k']?=some v->acc[n]?=some w->oy u.v v.v w.v=0) 0 ⟨rfl,Vw _,R4,d1,λk' _ _ _ h=>Z⟩ ?_;rintro k vs m2 iH ⟨rfl,hk,a5,i1,b5⟩;rw[av,av,aK,Y,ag];refine af (λj1=>?_) (λc5=>?_);have j1:k<i:=(by simpa using j1);obtain⟨v,hv⟩:∃u,acc[k]?=some u:=⟨_,wo⟩;refine Lp.intro (γ:=Nat) (λn=>k-n) (λn vs m' lo=>vs=[P6,I n]/\n<=k/\Ext mm m'/\min lo0 n1<=lo/\∀(n':Nat) (w:Pt),n'<n->acc[n']?=some w->oy u.v v.v w.v=0) 0 ⟨rfl,Vw _,a5,i1,λn' _ h=>Z⟩ ?_;rintro n vs m3 g6 ⟨rfl,hn,l0,d5,e5⟩;rw[av,av,aK,Y,ag];refine af (λk1=>?_) (λf5=>?_);have k1:n<k:=(by simpa using k1);obtain⟨w,hw⟩:∃u,acc[n]?=some u:=⟨_,wo⟩;have h6:=l0.n;have⟨a,e1,e2⟩:=Qn (i0.ak l0) hu;rw[e1,Y,e2,Y];unfold ptrTo;refine ah λm4 i6 j5 k5=>?_;refine aj Bv j5 rfl rfl rfl λm5 j6 l5 n5=>?_;have w1:Ext m3 m5:=⟨Z,λb hb=>by rw[n5 b Z,k5 b hb]⟩;have⟨a,e1,e2⟩:=Qn (i0.ak (l0.trans w1)) hv;rw[e1,Y,e2,Y];refine ah λm6 k6 o5 r5=>?_;refine aj Bv o5 rfl rfl rfl λm7 l6 u5 v5=>?_;have y1:Ext m5 m7:=⟨Z,λb hb=>by rw[v5 b Z,r5 b hb]⟩;have⟨a,e1,e2⟩:=Qn (i0.ak (l0.trans (w1.trans y1))) hw;rw[e1,Y,e2,Y];refine ah λm8 n6 w5 y5=>?_;refine aj Bv w5 rfl rfl rfl λm9 o6 z5 A5=>?_;have A1:Ext m7 m9:=⟨Z,λb hb=>by rw[A5 b Z,y5 b hb]⟩;have g1:m9.get m3.n=.cells [I u.v.x,I u.v.y,I u.v.w] 309 none:=(by rw[A1.get _ Z,y1.get _ Z,l5];rfl);have g2:m9.get m5.n=.cells [I v.v.x,I v.v.y,I v.v.w] 309 none:=(by rw[A1.get _ Z,u5];rfl);have g3:m9.get m7.n=.cells [I w.v.x,I w.v.y,I w.v.w] 309 none:=z5;have⟨a1,a2,a3⟩:=o1 u (QP hu);have⟨b1,b2,b3⟩:=o1 v (QP hv);have⟨c1,c2,c3⟩:=o1 w (QP hw);have B5:IntKind.i64.wrap (u.v.x*(v.v.y*w.v.w-v.v.w*w.v.y)-u.v.y*(v.v.x*w.v.w-v.v.w*w.v.x)+u.v.w*(v.v.x*w.v.y-v.v.y*w.v.x))=oy u.v v.v w.v:=(((a1.mul ((b2.mul c3).sub (b3.mul c2))).sub (a2.mul ((b1.mul c3).sub (b3.mul c1)))).add (a3.mul ((b1.mul c2).sub (b2.mul c1)))).wr ce;simp only[Y,mL,mK,mJ,bP,aG g1,aG g2,aG g3,Jf,XW,Q7,kO,aO,fa,GJ,GI,Bl,Bk,GH,GG,B5,bZ,ag];refine af (λO5=>?_) (λhe=>?_);exact hT _ _ u v w (QP hu) (QP hv) (QP hw) (by simpa using O5) Z;rw[wrap64];refine⟨n+1,Z,rfl,Z,l0.trans (w1.trans (y1.trans A1)),Z,λn' w' s0 g0=>?_⟩;by_cases e:n'=n;subst e;rw[hw]at g0;cases g0;simpa using he;exact e5 n' w' Z g0;have s0:n=k:=(by have:¬(n:Int)< (k:Int):=(by simpa using f5);omega);subst s0;rw[aO,Y,wrap64];refine⟨n+1,Z,rfl,Z,l0,d5,λk' n' v' w' u0 l1 n0 g0=>?_⟩;by_cases e:k'=n;subst e;rw[hv]at n0;cases n0;exact e5 n' w' l1 g0;exact b5 k' n' v' w' Z l1 n0 g0
 have u0:k=i:=(by have:¬(k:Int)< (i:Int):=(by simpa using c5);omega);subst u0;rw[aO,Y,wrap64];refine⟨k+1,Z,rfl,Z,a5,i1,λi' k' n' u' v' w' g5 s0 u0 B1 n0 g0=>?_⟩;by_cases e:i'=k;subst e;rw[hu]at B1;cases B1;exact b5 k' n' v' w' u0 s0 n0 g0;exact W4 i' k' n' u' v' w' Z s0 u0 B1 n0 g0;have g5:i=acc.length:=(by have:¬(i:Int)< (acc.length:Int):=(by simpa using i5);omega);subst g5;exact hF _ _ (λi k n u v w h1 h2 h3 h4 h5=>W4 i k n u v w (Nr.1 h3).1 h1 h2 h3 h4 h5) d1
end
section
open Go Go.D Go.yn Go.Proofs.Tryz
variable {X:aF} {m:M}
def G8(hi:i<a.length):BF a b i↔∀q∈b,(iO a i).dot q.h<=0:=by obtain⟨p,hp⟩:∃p,a[i]?=some p:=⟨_,QC hi⟩;obtain⟨q,hq⟩:∃p,a[(i+1)%a.length]?=some p:=⟨_,QC (T7 _ Z)⟩;unfold BF iO;rw[hp,hq,Gp hp,Gp hq];simp only[yC,J3,Xo];constructor;intro h c F;have:=h c F;rw[nD];omega;intro h c F;have:=h c F;rw[nD]at this;omega
def Kq:Sep a b↔¬eH a b<0:=by constructor;rintro⟨f,hf,h⟩ F;obtain⟨i,hi,rfl⟩:=nf.1 hf;have hs:=(G8 hi).2 h;unfold eH at F;(cases hc:(List.range a.length).find? (BF a b)with|some k=>rw[hc]at F;simp only at F;omega|none=>grind);intro h;unfold eH at h;cases hc:(List.range a.length).find? (BF a b)with|some k=>have h1:=VI hc;have h2:=QJ.1 (Se hc);exact⟨_,nf.2 ⟨k,h2,rfl⟩,(G8 h2).1 h1⟩|none=>rw[hc]at h;exact absurd ce h
def Hj(F:bO a)(hb:bO b):ia a b↔¬Sep a b/\¬Sep b a:=by unfold ia;rw[F,hb];simp only[Xc,DO,G4,Xo];rw[Kq,Kq];grind
def SI(p q r:V):oy q p r= -oy p q r:=by unfold oy;grind
def WD(p q r:V):oy p r q= -oy p q r:=by unfold oy;grind
def ZW(p r:V):oy p p r=0:=by unfold oy;grind
def ZU(p r:V):oy r p p=0:=by unfold oy;grind
def ab1(p r:V):oy p r p=0:=by unfold oy;grind
def VJ(h:∀(i k n:Nat) (u v w:Pt),n<k->k<i->acc[i]?=some u->acc[k]?=some v->acc[n]?=some w->oy u.v v.v w.v=0){u v w:Pt}(hu:u∈acc)(hv:v∈acc)(hw:w∈acc):oy u.v v.v w.v=0:=by have⟨i,hi⟩:=MI hu;have⟨k,hk⟩:=MI hv;have⟨n,F⟩:=MI hw;by_cases e1:i=k;subst e1;rw[hi]at hk;cases hk;exact ZW _ _;by_cases e2:k=n;subst e2;rw[hk]at F;cases F;exact ZU _ _;by_cases e3:i=n;subst e3;rw[hi]at F;cases F;exact ab1 _ _;have s1:=SI u.v v.v w.v;have s2:=WD u.v v.v w.v;have s3:=SI u.v w.v v.v;have s4:=WD v.v u.v w.v;have s5:=SI v.v w.v u.v;grind
def M1{f g:V}(h:(meet f g).w≠0):norm (meet g f)=norm (meet f g):=by have e:meet g f=(meet f g).neg:=(by unfold meet V.neg;grind);rw[e];have hw:(meet f g).neg.w= -(meet f g).w:=rfl;unfold norm;by_cases F:(meet f g).w<0;grind;rw[ND F,UG J];unfold V.neg;grind
structure yq(L:List Ln)(acc:List Pt)(i k:Nat):Prop where
 snd:∀p∈acc,lP (L.map (·.v)) p.v
 cpl:∀(i' k':Nat) (f g:Ln),(i' < i\/(i'=i/\k' < k))->i' < k'->L[i']?=some f->L[k']?=some g->(meet f.v g.v).w≠0->Oh L (norm (meet f.v g.v))=true->Pt.mk (norm (meet f.v g.v))∈acc
def FU{p:V}:Oh L p↔∀f∈L.map (·.v),0<=f.dot p:=by unfold Oh;grind
def yq.skip{k:Nat}{f g:Ln}(h:yq L acc i k)(hf:L[i]?=some f)(hg:L[k]?=some g)(hn:¬((meet f.v g.v).w≠0/\Oh L (norm (meet f.v g.v)))):yq L acc i (k+1):=
 ⟨h.snd,λi' k' f' g' hk F b0 d0 h1 h2=>by by_cases e:i'=i/\k'=k;grind;exact h.cpl i' k' f' g' Z F b0 d0 h1 h2⟩
def yq.add{k:Nat}{f g:Ln}(h:yq L acc i k)(hf:L[i]?=some f)(hg:L[k]?=some g)(h1:(meet f.v g.v).w≠0)(h2:Oh L (norm (meet f.v g.v))):yq L (acc++ [Pt.mk (norm (meet f.v g.v))]) i (k+1):=
 ⟨λp F=>by rcases IF.1 F with F|F;exact h.snd p F;rw[RV]at F;subst F;exact⟨f.v,Ja.2 ⟨f,QP hf,rfl⟩,g.v,Ja.2 ⟨g,QP hg,rfl⟩,h1,rfl,FU.1 h2⟩,λi' k' f' g' hk b0 d0 e0 n1 n2=>by by_cases e:i'=i/\k'=k;grind;exact IF.2 (.inl (h.cpl i' k' f' g' Z b0 d0 e0 n1 n2))⟩
def yq.next{k:Nat}(h:yq L acc i k)(hk:L.length<=k){k':Nat}(b0:k'<=i+2):yq L acc (i+1) k':=
 ⟨h.snd,λi' j f g hc F hf hg h1 h2=>h.cpl i' j f g J F hf hg h1 h2⟩
def yq.CY{k:Nat}(h:yq L acc L.length k){v:V}(hv:lP (L.map (·.v)) v):Pt.mk v∈acc:=by obtain⟨f,hf,g,hg,hm,rfl,h0⟩:=hv;obtain⟨x,hx,rfl⟩:=Ja.1 hf;obtain⟨y,hy,rfl⟩:=Ja.1 hg;have⟨i,hi⟩:=MI hx;have⟨j,F⟩:=MI hy;have li:=(Nr.1 hi).1;have lj:=(Nr.1 F).1;rcases TJ i j with e|e|e;exact h.cpl i j x y Z e hi F hm (FU.2 h0);subst e;rw[hi]at F;cases F;exfalso;apply hm;show x.v.x*x.v.y-x.v.x*x.v.y=0;omega;rw[<-M1 (f:=x.v) (g:=y.v) hm]at h0⊢;refine h.cpl j i y x Z e F hi ?_ (FU.2 h0);intro h';apply hm;have:(meet y.v x.v).w= -(meet x.v y.v).w:=(by show y.v.x*x.v.y-x.v.x*y.v.y= -(x.v.x*y.v.y-y.v.x*x.v.y);omega);omega
def Lv{l:List Pl}(hv:bO l):∀f∈uG l,BdL f:=by intro f hf;obtain⟨i,hi,rfl⟩:=nf.1 hf;have⟨h3,_⟩:=dM hv;have F:=Bs hv;have b1:=Pl.on (F _ (J5 hi));have b2:=Pl.on (F _ (J5 (l:=l) (i:=(i+1)%l.length) (T7 _ Z)));unfold iO oo;generalize jF l i=p at*;generalize jF l ((i+1)%l.length)=q at*;have c1:tL 40 p.x:=⟨Z,Z⟩;have c2:tL 40 p.y:=⟨Z,Z⟩;have c3:tL 80 (q.x-p.x):=⟨Z,Z⟩;have c4:tL 80 (q.y-p.y):=⟨Z,Z⟩;exact⟨⟨J,J⟩,c3,((c4.mul c1).sub (c3.mul c2)).mono ce⟩
def Tp(m22:M)(n0:Nat)(L:List Ln)(i k:Nat)(vs:ν)(mm:M)(lo:Nat):Prop:=
 ∃F acc,vs=[F,.int .i64 k]/\i+1<=k/\k<=L.length/\Ext m22 mm/\n0<=lo/\Ow m22.n mm acc F/\yq L acc i k/\acc.length<=16*i+k
theorem zK(hX:cp X){a b:List Pl}{va vb:O}(ha:Sl m a va)(hb:Sl m b vb)(la:a.length<1000000)(lb:b.length<1000000):
  xw X 189 [va,vb] m (.bool (ia a b)) m:=by
 apply Cl.fl hX (U5 func189);rw[F189];dsimp only[aH,SQ,Ju,Po,Sb,JK,VG,I1,SN,Uz,RA,Ve,DV,NV,Γ,Δ];refine xr (λvs mm lo=>vs=[.bool (!(bO a && bO b))]/\m=mm/\m.n<=lo) (λR hR=>?_) ?_
 ·apply aw (pT hX ha Z);rw[bB,Y,ag];refine af (λh=>?_) (λh=>?_);have h:bO a=false:=J;exact hR ⟨J,rfl,Z⟩;have h:bO a:=J;apply aw (pT hX hb Z);rw[bB,Y];exact hR ⟨J,rfl,Z⟩
 rintro _ _ lo ⟨rfl,rfl,l1⟩;rw[av,ag];refine af (λh=>?_) (λh=>?_)
 ·refine⟨?_,l1⟩;have:(bO a && bO b)=false:=(by cases h':(bO a && bO b)with|false=>rfl|true=>rw[h']at h;cases h);unfold ia;rw[this];rfl
 have hv:(bO a && bO b):=(by cases h':(bO a && bO b)with|true=>rfl|false=>rw[h']at h;cases h);rw[G4]at hv;have⟨j0,k0⟩:=hv;have⟨Q2,T2⟩:=dM j0;have⟨U2,b3⟩:=dM k0;have⟨ra,m16,o1,b1,p1⟩:=HH hX ha j0;apply aw o1;have⟨rb,m19,r1,c1,u1⟩:=HH (m:=m16) hX (hb.ak b1) k0;apply aw r1;have n16:=b1.n;have n19:=c1.n;have c3:((uG a).map Ln.mk).length=a.length:=(by simp[uG]);have d3:((uG b).map Ln.mk).length=b.length:=(by simp[uG]);obtain⟨vL,m22,v1,d1,w1,A2,B2⟩:=Ow.append Tf (by simp[aL.dN]) (p1.ak c1) u1.sl Z J;rw[v1,an];obtain⟨L,hL⟩:∃L,L=(uG a).map Ln.mk++(uG b).map Ln.mk:=⟨_,rfl⟩;rw[<-hL]at d1;have y0:=d1.sl;have y1:L.length<=16:=J;have A1:L.map (·.v)=uG a++uG b:=(by rw[hL,MN,Je,Je];simp[Function.comp_def]);have A0:∀x∈L,BdL x.v:=λx hx=>(by have:x.v∈L.map (·.v):=Ja.2 ⟨x,hx,rfl⟩;rw[A1]at this;rcases IF.1 this with h|h;exact Lv j0 _ h;exact Lv k0 _ h);have n22:=w1.n;have fin:∀(mm:M) (lo:Nat) (r:Bool),r=ia a b->m.n<=lo->aP [Value.bool r]=.bool (ia a b)/\m.n<=lo:=λmm lo r hr l1=>⟨by rw[<-hr];rfl,l1⟩;have bp:∀a b c:Int,bz TE 309 [(0,I a),(1,I b),(2,I c)]=some (.agg #[I a,I b,I c]):=λa b c=>abu rfl rfl rfl;refine Lp.intro (γ:=Nat) (λi=>L.length-i) (λi vs mm lo=>∃vc acc,vs=[vc,I i]/\i<=L.length/\Ext m22 mm/\m.n<=lo/\Ow m22.n mm acc vc/\yq L acc i 0/\acc.length<=16*i) 0 ⟨_,[],rfl,Vw _,.refl,Z,.nil,⟨λp hp=>(by cases hp),λi' k' f g h=>Z⟩,Vw _⟩ ?_;rintro i vs mm e3 ⟨vc,acc,rfl,hi,hx,B1,r0,F,G1⟩;rw[av,av,(y0.ak hx).len Fh,an,aK,Y,ag];refine af (λH1=>?_) (λg3=>?_)
 ·have H1:i<L.length:=J;obtain⟨f,hf⟩:∃f,L[i]?=some f:=⟨_,QC H1⟩;rw[aO,Y,wrap64];refine Lp.intro (γ:=Nat) (λk=>L.length-k) (Tp m22 m.n L i) (i+1) ⟨vc,acc,rfl,R8 _,Z,hx,B1,r0,⟨F.snd,λi' k' f g hc K1 hf hg h1 h2=>F.cpl i' k' f g Z K1 hf hg h1 h2⟩,Z⟩ ?_;rintro k vs d0 iH ⟨vc,acc,rfl,K1,hk,b0,L1,r0,F,G1⟩;have n36:=b0.n;rw[av,av,(y0.ak b0).len Fh,an,aK,Y,ag];refine af (λg1=>?_) (λG2=>?_)
  ·have g1:k<L.length:=J;obtain⟨g,hg⟩:∃f,L[k]?=some f:=⟨_,QC g1⟩;have⟨a1,i3,j3,a12,e1,f10,b2,f11,c2,f12,d2⟩:=Q8 (y0.ak b0) hf;have⟨a2,a20,a21,a22,e2,f20,g2,f21,i2,f22,j2⟩:=Q8 (y0.ak b0) hg;have bf:=A0 f (QP hf);have bg:=A0 g (QP hg);have bm:=KO bf bg;have bn:=KJ bm;have wx:IntKind.i64.wrap (f.v.y*g.v.w-g.v.y*f.v.w)=(meet f.v g.v).x:=bm.1.wr ce;have wy:IntKind.i64.wrap (f.v.w*g.v.x-g.v.w*f.v.x)=(meet f.v g.v).y:=bm.2.1.wr ce;have ww:IntKind.i64.wrap (f.v.x*g.v.y-g.v.x*f.v.y)=(meet f.v g.v).w:=bm.2.2.wr ce;simp only[e1,f10,b2,f11,c2,f12,d2,e2,f20,g2,f21,i2,f22,j2,Y,kO,fa,Bl,Bk,wx,wy,ww,bp];refine ah λk3 L2 O1 M2=>?_;unfold ptrTo;refine aj Bv O1 rfl rfl rfl λh0 O2 l0 P2=>?_;have n0:Ext d0 h0:=⟨Z,J⟩;have l0:h0.get d0.n=.cells (vC (meet f.v g.v)) 309 none:=l0;have B0:h0.get d0.n=.cells [I (meet f.v g.v).x,I (meet f.v g.v).y,I (meet f.v g.v).w] 309 none:=l0;have k2:∀mm:M,∀x y w:Int,mm.get d0.n=.cells [I x,I y,I w] 309 none->aC TE mm 3 (Ω d0.n (0+0))=some (I x)/\aC TE mm 3 (Ω d0.n (0+1))=some (I y)/\aC TE mm 3 (Ω d0.n (0+2))=some (I w):=λmm x y w h=>(by refine⟨?_,?_,?_⟩ <;>rw[bP,aG h] <;>rfl)
   have s0:∀(g0:O) (m':M) (e0:Nat) (o0:List Pt),h0.n<=m'.n->(∀c,c<m22.n->m'.get c=m22.get c)->m.n<=e0->Ow m22.n m' o0 g0->yq L o0 i (k+1)->o0.length<=acc.length+1->
     ∃g',L.length-g'<L.length-k/\Tp m22 m.n L i g' [g0,Value.int .i64 ((k+1:Nat):Int)] m' e0:=λg0 m' e0 o0 h1 h2 h3 h4 h5 h6=>
    ⟨k+1,Z,g0,o0,rfl,Z,Z,⟨Z,h2⟩,h3,h4,h5,Z⟩
   have P0:∀c,c<m22.n->h0.get c=m22.get c:=λc hc=>(by rw[n0.get c Z,b0.get c hc])
   have Q1:∀(p:V) (mm:M) (e0:Nat),p=norm (meet f.v g.v)->(meet f.v g.v).w≠0->mm.get d0.n=.cells (vC p) 309 none->Ext d0 mm->h0.n<=mm.n->m.n<=e0->∀(g0:O) (m':M) (p0:Nat),mm.n<=m'.n->(∀c,c<m22.n->m'.get c=mm.get c)->min e0 m22.n<=p0->
     Ow m22.n m' (if Oh L p then acc++ [Pt.mk p]else acc) g0->∃g',L.length-g'<L.length-k/\Tp m22 m.n L i g' [g0,Value.int .i64 ((k+1:Nat):Int)] m' p0:=by
    intro p mm e0 hp hw l3 T1 Q0 i1 g0 m' p0 h1 h2 h3 h4;by_cases HM:Oh L p=true;·rw[UG HM]at h4;refine s0 g0 m' p0 _ Z (λc hc=>by rw[h2 c hc,T1.get c Z,b0.get c hc]) Z h4 ?_ co;rw[hp]at HM⊢;exact F.add hf hg hw HM
    ·rw[ND HM]at h4;refine s0 g0 m' p0 _ Z (λc hc=>by rw[h2 c hc,T1.get c Z,b0.get c hc]) Z h4 ?_ Z;exact F.skip hf hg λh=>HM J
   obtain⟨q0,q1,q2⟩:=k2 h0 _ _ _ B0;rw[mJ,Y,q2,Y,aJ,Y,ag];refine af (λhw=>?_) (λhw=>?_)
   ·have hw:(meet f.v g.v).w=0:=J;rw[aO,Y,wrap64];exact s0 vc h0 _ acc (R8 _) P0 Z (r0.ak n0) (F.skip hf hg λh=>h.1 hw) Z
   have hw:(meet f.v g.v).w≠0:=J;rw[Y,q2,Y,aK,Y,ag];refine af (λj1=>?_) (λk1=>?_)
   ·have j1:(meet f.v g.v).w<0:=J;have Q0:norm (meet f.v g.v)=(meet f.v g.v).neg:=(by unfold norm;rw[UG j1]);have nx:∀{N x:Int},tL N x->N<9223372036854775808->IntKind.i64.wrap (0-x)= -x:=λ{N x} h hN=>(by rw[wrap64 (by have:=h.2;omega) (by have:=h.1;omega)];omega);rw[mL,Y,q0,Y,E5,Y,mK,Y,q1,Y,E5,Y,Y,q2,Y,E5,Y,nx bm.1 ce,nx bm.2.1 ce,nx bm.2.2 ce,bp,Y];refine aj Bv B0 rfl rfl rfl λO0 l2 i0 o2=>?_;have i0:O0.get d0.n=.cells (vC (norm (meet f.v g.v))) 309 none:=(by rw[Q0];exact i0);have u0:Ext d0 O0:=⟨Z,J⟩;exact Lf (P:=λvs mm lo=>∃g',L.length-g'<L.length-k/\Tp m22 m.n L i g' vs mm lo) (n1:=m22.n) (y0.ak (b0.trans u0)) i0 (r0.ak u0) Z A0 bn Z Z y1 (Q1 _ O0 _ rfl hw i0 u0 Z Z)
   have k1:¬(meet f.v g.v).w<0:=J;have Q0:norm (meet f.v g.v)=meet f.v g.v:=(by unfold norm;rw[ND k1]);exact Lf (P:=λvs mm lo=>∃g',L.length-g'<L.length-k/\Tp m22 m.n L i g' vs mm lo) (n1:=m22.n) (y0.ak (b0.trans n0)) l0 (r0.ak n0) Z A0 bm Z Z y1 (Q1 _ h0 _ Q0.symm hw l0 n0 (R8 _) Z)
  have u2:k=L.length:=(by grind);subst u2;rw[Y];exact⟨i+1,Z,vc,acc,rfl,Z,b0,L1,r0,F.next (R8 _) Z,Z⟩
 have v2:i=L.length:=(by grind);subst v2;have m3:=hx.n;have w2:∀x∈acc,BdP x.v:=λx hx=>(by have⟨f,hf,g,hg,_,e,_⟩:=F.snd x hx;rw[e];obtain⟨f',y2,rfl⟩:=Ja.1 hf;obtain⟨g',z2,rfl⟩:=Ja.1 hg;exact KJ (KO (A0 _ y2) (A0 _ z2)));refine PD (R:=λvs _ lo=>aP vs=.bool (ia a b)/\m.n<=lo) (n1:=m22.n) r0.sl w2 Z Z (λm' e0 u v w hu hv hw hd i1=>fin m' e0 true ?_ Z) (λm' e0 hz i1=>fin m' e0 false ?_ Z)
 ·refine((Hj j0 k0).2 ⟨λhs=>hd ?_,λhs=>hd ?_⟩).symm;exact Hq j0 k0 (L:=L.map (·.v)) J hs (F.snd _ hu) (F.snd _ hv) (F.snd _ hw);exact Hq k0 j0 (L:=L.map (·.v)) J hs (F.snd _ hu) (F.snd _ hv) (F.snd _ hw)
 ·cases ho:ia a b with
  |false=>rfl
  |true=>exfalso;have⟨s1,s2⟩:=(Hj j0 k0).1 ho;have⟨u,v,w,cu,cv,cw,hd⟩:=adx j0 k0 s1 s2;rw[<-A1]at cu cv cw;exact hd (VJ hz (F.CY cu) (F.CY cv) (F.CY cw))
end
structure UW where
 u:Un
 w:O
abbrev UW.c(x:UW):ν:=x.u.c x.w
abbrev UW.v(x:UW):O:=x.u.v x.w
instance:aL UW where
 ty:=43
 sz:=6
 agg:=true
 dN:=[]
 rep _ x cs:=cs=x.c/\one x.w=true
 pos:=ce
 one:=J
 len:=dg
 iy:=by rintro _ x _ ⟨rfl,h⟩;exact Un.dp h
 aX:=J
def cY:qs TE 27 43 UW:=⟨ai.t27,ai.t43,bv,⟨_,rfl⟩,rfl,bv,rfl,rfl⟩
def zt:vp TE 27 UW:=⟨ai.t27,ai.t43,bv,rfl,rfl,bv,ce,rfl⟩
def Own(n1:Nat)(m:M)(l:List UW)(b:Nat):Prop:=0 < l.length/\n1<=b/\∃cs,m.get b=.cells cs 43 (some 6)/\cs.length=l.length*6/\∀i x,l[i]?=some x->aL.rep m x (chunk cs 6 i)
def Own.ow{l:List UW}{b:Nat}(h:Own n1 m l b):Ow n1 m l (Hr b 0 l.length l.length):=by have⟨F,h2,cs,h3,h4,h5⟩:=h;exact .inr ⟨b,cs,rfl,F,h2,h3,h4,h5⟩
def Own.of{l:List UW}{v:O}(h:Ow n1 m l v)(F:l≠ []):∃b,v=Hr b 0 l.length l.length/\Own n1 m l b:=by rcases h with⟨_,h⟩|⟨b,cs,rfl,h1,h2,h3,h4,h5⟩;grind;exact⟨b,rfl,h1,h2,cs,h3,h4,h5⟩
def Own.aX{l:List UW}{b:Nat}{m':M}(h:Own n1 m l b)(hb:m'.get b=m.get b):Own n1 m' l b:=by have⟨F,h2,cs,h3,h4,h5⟩:=h;exact⟨F,h2,cs,J,h4,λi x hi=>h5 i x hi⟩
def WB:eq? TE 46 p.v q.v=some (decide (p=q)):=by have e:eq? TE 46 p.v q.v=some ((p.x==q.x) && ((p.y==q.y) && true)):=bv;rw[e];have⟨a,b⟩:=p;have⟨c,d⟩:=q;by_cases F:a=c <;>by_cases h2:b=d <;>simp[F,h2]
def AP{x:UW}:aQ TE m 27 1 [(0,x.v)]=some (.slice (some ⟨m.n,0,none⟩) 1 1,m.push (.cells x.c 43 none)):=bv
def Ee{x:UW}{b:Nat}(h:m.get b=.cells x.c 43 g)(hw:one x.w):Sl m [x] (Hr b 0 1 1):=
 .inr ⟨b,0,1,_,g,rfl,h,R8 _,λi y hi=>by match i with|0=>cases hi;exact⟨rfl,hw⟩|i+1=>cases hi⟩
def Pl.nW(p:Pl):Prop:=0<=p.x/\p.x<=40/\0<=p.y/\p.y<=40
theorem _root_.Go.D.Sl.gR{l:List UW}{v:O}(h:Sl m l v){i:Nat}{x:UW}(hi:l[i]?=some x){k:IntKind}:∃a,aD TE 27 v (.int k i)=some a/\aC TE m 43 a=some x.v/\one x.w:=by obtain⟨a,cs,F,h2,rfl,h3⟩:=h.index cY (k:=k) hi;exact⟨a,F,h2,h3⟩
def KU{b:Nat}{x:UW}{e:TypeId}(h:m.get b=.cells x.c e g):aC TE m 43 (Ω b 0)=some x.v:=bQ h
def kR(u:Un):Bool:=dv u.id 0 99 && dv u.kind 1 8 && dv u.du 0 7 && decide (0<=u.back) && decide (u.back < u.front) && decide (u.front<=8) && bO u.shape
def mP(a b:Un):Bool:=kR a && kR b && decide (max a.back b.back < min a.front b.front)
def iP(a b:Un):Bool:=mP a b && ia a.shape b.shape
def AX(hX:cp X)(n lo hi:Int):xw X 116 [I n,I lo,I hi] m (.bool (dv n lo hi)) m:=by apply Cl.fl hX (U5 func116);rw[F116];dsimp only[aH];refine xr (λvs m2 F=>vs=[.bool (dv n lo hi)]/\m.n<=F) (λR hR=>?_) ?_;simp only[cI,Y,ag];refine af (λh=>hR ⟨by simp[dv,h],R8 _⟩) (λh=>hR ⟨by simp[dv,h],R8 _⟩);rintro _ m2 F ⟨rfl,hl⟩;rw[av];exact⟨rfl,hl⟩
def kS{b:Nat}{u:Un}{w:O}(h:m.get b=.cells (u.c w) 43 g):
  aC TE m 3 (Ω b (0+0))=some (I u.id)/\aC TE m 3 (Ω b (0+1))=some (I u.kind)/\aC TE m 3 (Ω b (0+2))=some (I u.du)/\
  aC TE m 41 (Ω b (0+3))=some w/\aC TE m 3 (Ω b (0+4))=some (I u.back)/\aC TE m 3 (Ω b (0+5))=some (I u.front):=by refine⟨?_,?_,?_,?_,?_,?_⟩ <;>first|(rw[bP,aG h];rfl)|(rw[oP,aG h];rfl)
def ll(hX:cp X){u:Un}{w:O}(hw:Sl m u.shape w)(hb:u.shape.length<4611686018427387904):xw X 62 [u.v w] m (.bool (kR u)) m:=by apply Cl.fl hX (U5 func62);rw[F62];dsimp only[aH];refine ah λm1 g0 b0 d0=>?_;simp only[bd]at b0;have e0:Ext m m1:=⟨Z,d0⟩;have b0:m1.get m.n=.cells (u.c w) 43 none:=b0;have⟨l0,l1,l2,l3,l4,l5⟩:=kS b0;unfold ptrTo;refine xr (λvs mm lo=>vs=[.bool (dv u.id 0 99 && dv u.kind 1 8 && dv u.du 0 7)]/\m1=mm/\m.n<=lo) (λR hR=>?_) ?_;rw[aW,Y,l0,Y];apply aw (AX hX _ _ _);rw[ag];refine af (λh1=>?_) (λh1=>hR ⟨J,rfl,Z⟩);rw[dm,Y,l1,Y];apply aw (AX hX _ _ _);rw[ag];refine af (λh2=>?_) (λh2=>hR ⟨J,rfl,Z⟩);rw[ck,Y,l2,Y];apply aw (AX hX _ _ _);exact hR ⟨J,rfl,Z⟩;rintro _ _ lo ⟨rfl,rfl,F⟩;rw[av];refine xr (λvs mm lo=>vs=[.bool (kR u)]/\m.n<=lo) (λR hR=>?_) ?_;rw[ag];refine af (λh=>?_) (λh=>hR ⟨by unfold kR;rw[h];rfl,F⟩);simp only[bA,dk,dj,Y,l3,l4,l5,cI,aK,ag];refine af (λh1=>?_) (λh1=>hR ⟨by unfold kR;rw[h,h1];rfl,F⟩);refine af (λh2=>?_) (λh2=>hR ⟨by unfold kR;rw[h,h1,h2];rfl,F⟩);refine af (λh3=>?_) (λh3=>hR ⟨by unfold kR;rw[h,h1,h2,h3];rfl,F⟩);apply aw (mg hX (hw.ak e0) hb);exact hR ⟨by unfold kR;rw[h,h1,h2,h3];rfl,Z⟩;rintro _ mm lo ⟨rfl,F⟩;rw[av];exact⟨rfl,F⟩
def lC(hX:cp X){u:Un}{w:O}(hw:Sl m u.shape w)(hb:u.shape.length<4611686018427387904):xw X 146 [u.v w] m (.bool (kR u)) m:=by apply Cl.fl hX (U5 func146);rw[F146];dsimp only[aH];refine ah λm1 g0 b0 d0=>?_;simp only[bd]at b0;have e0:Ext m m1:=⟨Z,d0⟩;have b0:m1.get m.n=.cells (u.c w) 43 none:=b0;have⟨l0,l1,l2,l3,l4,l5⟩:=kS b0;unfold ptrTo;have n1:dv u.id 0 99=(!(decide (u.id<0)) && !(decide (99<u.id))):=(by unfold dv;by_cases a:u.id<0 <;>by_cases b:99<u.id <;>simp[a,b] <;>omega);have n2:dv u.kind 1 8=(!(decide (u.kind<1)) && !(decide (8<u.kind))):=(by unfold dv;by_cases a:u.kind<1 <;>by_cases b:8<u.kind <;>simp[a,b] <;>omega);have n3:dv u.du 0 7=(!(decide (u.du<0)) && !(decide (7<u.du))):=(by unfold dv;by_cases a:u.du<0 <;>by_cases b:7<u.du <;>simp[a,b] <;>omega);refine aY (λvs mm lo=>vs=[.bool (!(dv u.id 0 99 && dv u.kind 1 8 && dv u.du 0 7))]/\m1=mm/\m.n<=lo) (λR hR=>?_) ?_;simp only[aW,dm,ck,Y,l0,l1,l2,aK,cC,ag];rw[n1,n2,n3]at hR;refine af (λh1=>hR _ _ _ ⟨J,rfl,R8 _⟩) (λh1=>?_);refine af (λh2=>hR _ _ _ ⟨J,rfl,R8 _⟩) (λh2=>?_);refine af (λh3=>hR _ _ _ ⟨J,rfl,R8 _⟩) (λh3=>?_);refine af (λh4=>hR _ _ _ ⟨J,rfl,R8 _⟩) (λh4=>?_);refine af (λh5=>hR _ _ _ ⟨J,rfl,R8 _⟩) (λh5=>?_);exact hR _ _ _ ⟨J,rfl,R8 _⟩;rintro _ _ lo ⟨rfl,rfl,F⟩;rw[av,ag];refine af (λh=>?_) (λh=>?_);refine⟨?_,F⟩;have h:(dv u.id 0 99 && dv u.kind 1 8 && dv u.du 0 7)=false:=(by cases h':(dv u.id 0 99 && dv u.kind 1 8 && dv u.du 0 7)with|false=>rfl|true=>rw[h']at h;cases h);unfold kR;rw[h];rfl;have h:(dv u.id 0 99 && dv u.kind 1 8 && dv u.du 0 7):=(by cases h':(dv u.id 0 99 && dv u.kind 1 8 && dv u.du 0 7)with|true=>rfl|false=>rw[h']at h;cases h);refine aY (λvs mm lo=>vs=[.bool (kR u)]/\m.n<=lo) (λR hR=>?_) ?_;simp only[bA,dk,dj,Y,l3,l4,l5,cI,cZ,aK,ag];refine af (λh1=>?_) (λh1=>hR _ _ _ ⟨by unfold kR;rw[h,h1];rfl,F⟩);refine af (λh2=>?_) (λh2=>hR _ _ _ ⟨by unfold kR;rw[h,h1,h2];rfl,F⟩);refine af (λh3=>?_) (λh3=>hR _ _ _ ⟨by unfold kR;rw[h,h1,h2,h3];rfl,F⟩);apply aw (pT hX (hw.ak e0) hb);exact hR _ _ _ ⟨by unfold kR;rw[h,h1,h2,h3];rfl,Z⟩;rintro _ mm lo ⟨rfl,F⟩;rw[av];exact⟨rfl,F⟩
def zD(hX:cp X){a b:Un}{va vb:O}(ha:Sl m a.shape va)(hb:Sl m b.shape vb)(la:a.shape.length<4611686018427387904)(lb:b.shape.length<4611686018427387904):
  xw X 28 [a.v va,b.v vb] m (.tuple #[I (max a.back b.back),I (min a.front b.front),.bool (mP a b)]) m:=by apply Cl.fl hX (U5 func28);rw[F28];dsimp only[aH];refine ah λm1 g0 d0 h0=>?_;refine ah λm2 i0 F j0=>?_;simp only[bd]at d0 F;have b0:Ext m m2:=⟨Z,J⟩;have g1:m2.get m.n=.cells (a.c va) 43 none:=J;have g2:m2.get m1.n=.cells (b.c vb) 43 none:=F;obtain⟨-, -, -, -,a4,a5⟩:=kS g1;obtain⟨-, -, -, -,b4,b5⟩:=kS g2;unfold ptrTo;simp only[dk,dj,Y,a4,a5,b4,b5,AQ,uA,an];refine xr (λvs mm lo=>vs=[I (max a.back b.back),I (min a.front b.front),.bool (mP a b)]/\m.n<=lo) (λR hR=>?_) ?_;rw[aK,Y,ag];refine af (λh=>?_) (λh=>hR ⟨by unfold mP;rw[h,Vc],Z⟩);rw[bQ g1,Y];apply aw (ll hX (ha.ak b0) la);rw[ag];refine af (λh1=>?_) (λh1=>hR ⟨by unfold mP;rw[h1];rfl,Z⟩);rw[bQ g2,Y];apply aw (ll hX (hb.ak b0) lb);exact hR ⟨by unfold mP;rw[h,h1,DO,UY],Z⟩;rintro _ mm lo ⟨rfl,e0⟩;rw[av,av,av];exact⟨rfl,e0⟩
def IH(F:cp X){a b:Un}{va vb:O}(ha:Sl m a.shape va)(hb:Sl m b.shape vb)(la:a.shape.length<4611686018427387904)(lb:b.shape.length<4611686018427387904):
  ∃x y,xw X 28 [a.v va,b.v vb] m (.tuple #[I x,I y,.bool (mP a b)]) m:=⟨_,_,zD F ha hb la lb⟩
def lQ{u:Un}(h:kR u):u.shape.length<=8:=by unfold kR at h;rw[G4]at h;exact(dM h.2).2
def zC(hX:cp X){a b:Un}{va vb:O}(ha:Sl m a.shape va)(hb:Sl m b.shape vb)(la:a.shape.length<4611686018427387904)(lb:b.shape.length<4611686018427387904):
  xw X 160 [a.v va,b.v vb] m (.bool (iP a b)) m:=by apply Cl.fl hX (U5 func160);rw[F160];dsimp only[aH];refine ah λm1 g0 d0 h0=>?_;refine ah λm2 i0 b0 j0=>?_;simp only[bd]at d0 b0;have F:Ext m m2:=⟨Z,J⟩;have g1:m2.get m.n=.cells (a.c va) 43 none:=J;have g2:m2.get m1.n=.cells (b.c vb) 43 none:=b0;obtain⟨-, -, -,a3, -, -⟩:=kS g1;obtain⟨-, -, -,b3, -, -⟩:=kS g2;unfold ptrTo;rw[bQ g1,Y,bQ g2,Y];have⟨x,y,hc⟩:=IH (m:=m2) hX (ha.ak F) (hb.ak F) la lb;apply aw hc;rw[aE,aE,aE];simp only[XW,Q7,Y];refine xr (λvs mm lo=>vs=[.bool (iP a b)]/\m.n<=lo) (λR hR=>?_) ?_;rw[ag];refine af (λh=>?_) (λh=>hR ⟨by unfold iP;rw[h];rfl,Z⟩);have h':=h;unfold mP at h';simp only[G4]at h';rw[bA,Y,a3,Y,bA,Y,b3,Y];apply aw (sB hX (ha.ak F) (hb.ak F) (by have:=lQ h'.1.1;omega) (by have:=lQ h'.1.2;omega));exact hR ⟨by unfold iP;rw[h];rfl,Z⟩;rintro _ mm lo ⟨rfl,e0⟩;rw[av];exact⟨rfl,e0⟩
def zJ(hX:cp X){a b:Un}{va vb:O}(ha:Sl m a.shape va)(hb:Sl m b.shape vb)(la:a.shape.length<4611686018427387904)(lb:b.shape.length<4611686018427387904):
  xw X 148 [a.v va,b.v vb] m (.bool (mP a b)) m:=by apply Cl.fl hX (U5 func148);rw[F148];dsimp only[aH];refine ah λm1 g0 d0 h0=>?_;refine ah λm2 i0 F j0=>?_;simp only[bd]at d0 F;have b0:Ext m m2:=⟨Z,J⟩;have g1:m2.get m.n=.cells (a.c va) 43 none:=J;have g2:m2.get m1.n=.cells (b.c vb) 43 none:=F;obtain⟨-, -, -, -,a4,a5⟩:=kS g1;obtain⟨-, -, -, -,b4,b5⟩:=kS g2;unfold ptrTo;refine xr (λvs mm lo=>vs=[.bool (mP a b)]/\m.n<=lo) (λR hR=>?_) ?_;rw[bQ g1,Y];apply aw (lC hX (ha.ak b0) la);rw[ag];refine af (λh1=>?_) (λh1=>hR ⟨by unfold mP;rw[h1];rfl,Z⟩);rw[bQ g2,Y];apply aw (lC hX (hb.ak b0) lb);rw[ag];refine af (λh2=>?_) (λh2=>hR ⟨by unfold mP;rw[h2,Vc];rfl,Z⟩);simp only[dk,dj,Y,a4,a5,b4,b5,AQ,uA,an,aK];exact hR ⟨by unfold mP;rw[h1,h2,DO,DO],Z⟩;rintro _ mm lo ⟨rfl,e0⟩;rw[av];exact⟨rfl,e0⟩
def Fm(hX:cp X){a b:Un}{va vb:O}(ha:Sl m a.shape va)(hb:Sl m b.shape vb)(la:a.shape.length<4611686018427387904)(lb:b.shape.length<4611686018427387904):
  xw X 147 [a.v va,b.v vb] m (.bool (iP a b)) m:=by apply Cl.fl hX (U5 func147);rw[F147];dsimp only[aH];refine ah λm1 g0 d0 h0=>?_;refine ah λm2 i0 b0 j0=>?_;simp only[bd]at d0 b0;have F:Ext m m2:=⟨Z,J⟩;have g1:m2.get m.n=.cells (a.c va) 43 none:=J;have g2:m2.get m1.n=.cells (b.c vb) 43 none:=b0;obtain⟨-, -, -,a3, -, -⟩:=kS g1;obtain⟨-, -, -,b3, -, -⟩:=kS g2;unfold ptrTo;refine xr (λvs mm lo=>vs=[.bool (iP a b)]/\m.n<=lo) (λR hR=>?_) ?_;rw[bQ g1,Y,bQ g2,Y];apply aw (zJ hX (ha.ak F) (hb.ak F) la lb);rw[ag];refine af (λh=>?_) (λh=>hR ⟨by unfold iP;rw[h];rfl,Z⟩);have h':=h;unfold mP at h';simp only[G4]at h';rw[bA,Y,a3,Y,bA,Y,b3,Y];apply aw (zK hX (ha.ak F) (hb.ak F) (by have:=lQ h'.1.1;omega) (by have:=lQ h'.1.2;omega));exact hR ⟨by unfold iP;rw[h];rfl,Z⟩;rintro _ mm lo ⟨rfl,e0⟩;rw[av];exact⟨rfl,e0⟩
end Go.Proofs.YthffgohpkjpkbaaGreatDoor
namespace Go.D
open Go
section
variable{E:Env}{m:M}{T:TypeId}{ti:TI}{e:TypeId}{b n:Nat}{cs:ν}{te:TypeId}{g:Option Nat}
theorem Ed(t1:E.ty.get T=some ti)(t2:ti.d=.slice e)(hk:0<ti.es)(h:m.get b=.cells cs te g)(hg:g=none\/g=some ti.es){o c i:Nat}(F:n<=c)(hi:i<=c):
  slice? E m T (Hr b o n c) none (some (I i)) none=some (Hr b o i c):=by have b1:eP n c none (some (I i)) none=some (0,i,c):=(by unfold eP;simp only[jz hi]);have e1:Nat.beq ti.es 0=false:=(by cases hb:Nat.beq ti.es 0 with|false=>rfl|true=>have:=L6 hb;omega);have e2:Nat.ble n c:=S0 F;have e0:(⟨b,o,none⟩:Addr).add (0*ti.es)=⟨b,o,none⟩:=(by rw[bs rfl,Vk];rfl);rcases hg with rfl|rfl;simp only[slice?,t1,t2,b1,h,e1,e2,No,Jd,I2,IJ,e0];grind;have e3:Nat.beq ti.es ti.es:=Nk _;simp only[slice?,t1,t2,b1,h,e1,e2,e3,No,Jd,I2,gc,IJ,e0];grind
theorem oJ(t1:E.ty.get T=some ti)(t2:ti.d=.slice e)(hk:0<ti.es)(h:m.get b=.cells cs te g)(hg:g=none\/g=some ti.es){o c j:Nat}(F:n<=c)(hj:j<=n):
  ∃a',slice? E m T (Hr b o n c) (some (I j)) none none=some (.slice (some a') (n-j) (c-j))/\(j<c->a'=⟨b,o+j*ti.es,none⟩):=by have b1:eP n c (some (I j)) none none=some (j,n,c):=(by unfold eP;simp only[jz hj]);have e1:Nat.beq ti.es 0=false:=(by cases hb:Nat.beq ti.es 0 with|false=>rfl|true=>have:=L6 hb;omega);have e2:Nat.ble n c:=S0 F;have e0:(⟨b,o,none⟩:Addr).add (j*ti.es)=⟨b,o+j*ti.es,none⟩:=bs (a:=⟨b,o,none⟩) rfl _;have e4:j<c->Nat.beq c j=false:=λb0=>(by cases hb:Nat.beq c j with|false=>rfl|true=>have:=L6 hb;omega);rcases hg with rfl|rfl;refine⟨bif Nat.beq c j then⟨b,o,none⟩else(⟨b,o,none⟩:Addr).add (j*ti.es),?_,J⟩;simp only[slice?,t1,t2,b1,h,e1,e2,No,Jd,I2];have e3:Nat.beq ti.es ti.es:=Nk _;refine⟨bif Nat.beq c j && !((none:Option O).isNone && Nat.beq (o+c*ti.es) cs.length)then⟨b,o,none⟩else(⟨b,o,none⟩:Addr).add (j*ti.es),?_,J⟩;simp only[slice?,t1,t2,b1,h,e1,e2,e3,No,Jd,I2,gc]
def Ow.xI{α:Type}[aL α]{n1:Nat}{m m':M}{l:List α}{v:O}(ht:aL.dN α=[])(h:Ow n1 m l v)(hk:∀c,n1<=c->c<m.n->m'.get c=m.get c):Ow n1 m' l v:=by rcases h with h|⟨b,cs,h1,h2,F,h4,h5,h6⟩;exact .inl h;exact .inr ⟨b,cs,h1,h2,F,by rw[hk b F (M.aM h4),h4],h5,λi x hi=>aL.aX (h6 i x hi) λb c t g _ h=>J⟩
def SlC{α:Type}[aL α](m:M)(l:List α)(v:O):Prop:=
 Sl m l v/\∃b o c F g,v=.slice (some ⟨b,o,none⟩) l.length c/\l.length<=c/\m.get b=.cells F (aL.ty α) g/\(g=none\/g=some (aL.sz α))
def Ow.slc{α:Type}[aL α]{n1:Nat}{l:List α}{v:O}(h:Ow n1 m l v)(F:l≠ []):SlC m l v:=by refine⟨h.sl,?_⟩;rcases h with⟨_,rfl⟩|⟨b,cs,h1,h2,h3,h4,h5,h6⟩;grind;grind
def SlC.ak{α:Type}[aL α]{m':M}{l:List α}{v:O}(h:SlC m l v)(he:Ext m m'):SlC m' l v:=by have⟨F,b,o,c,bc,g,h2,h3,h4,h5⟩:=h;exact⟨F.ak he,b,o,c,bc,g,h2,h3,he.cells h4,h5⟩
def Sl.part{α:Type}[aL α]{l:List α}{b o c:Nat}(h:Sl m l (Hr b o l.length c)){i k:Nat}(F:i+k<=l.length){c':Nat}:Sl m ((l.drop i).take k) (Hr b (o+i*aL.sz α) k c'):=by have hlen:((l.drop i).take k).length=k:=J;rcases h with⟨h,_⟩|⟨b',o',c1,bc,g,he,hb,hle,b0⟩;cases h;cases he;refine .inr ⟨b,_,c',bc,g,by rw[hlen],hb,?_,λj x hj=>?_⟩;rw[hlen];have:(i+k)*aL.sz α<=l.length*aL.sz α:=MO _ F;grind;grind
end
end Go.D
namespace Go.Proofs.YthffgohpkjpkbaaGreatDoor
variable{us:List Un}{F i n oc sl:Nat}{a b x:UW}{m' m1 mm:M}{r v':O}{acc:List UW}{base:Option Addr}
variable{X:aF}{m:M}
structure cq(us:List Un):Prop where
 len:us.length<=12
 val:∀u∈us,kR u=true
 ym:∀(i:Nat) (a b:Un),us[i]?=some a->us[i+1]?=some b->a.id < b.id
 apart:∀(i k:Nat) (a b:Un),i < k->us[i]?=some a->us[k]?=some b->iP a b=false
open Classical in
noncomputable def iT(us:List Un):Bool:=decide (cq us)
open Classical in
theorem fg(h:cq us):iT us=true:=by unfold iT;exact RO h
open Classical in
theorem qX(h:¬cq us):iT us=false:=by unfold iT;exact C8 h
open Classical in
theorem qj:iT us=true↔cq us:=by unfold iT;exact decide_eq_true_iff
def NT(a b:Un):mP a b=mP b a:=by unfold mP;grind
def Jh(a b:List Pl):ia a b=ia b a:=by unfold ia;grind
def qJ(a b:Un):iP a b=iP b a:=by unfold iP;rw[NT,Jh]
def bH(l:List UW):List Un:=l.map (·.u)
def kg{l:List UW}(h:l[i]?=some x):(bH l)[i]?=some x.u:=by unfold bH;rw[Uo,h];rfl
def cx{l:List UW}:(bH l).length=l.length:=by unfold bH;rw[Xh]
def rY{l:List UW}{u:Un}(h:(bH l)[i]?=some u):∃x,l[i]?=some x/\x.u=u:=by unfold bH at h;rw[Uo]at h;cases F:l[i]? with|none=>rw[F]at h;cases h|some x=>rw[F]at h;cases h;exact⟨x,rfl,rfl⟩
def rX{l:List UW}{u:Un}(h:u∈bH l):∃x∈l,x.u=u:=by unfold bH at h;obtain⟨x,F,rfl⟩:=Ja.1 h;exact⟨x,F,rfl⟩
structure cD(m:M)(l:List UW)(v:O):Prop where
 sl:Sl m l v
 sh:∀x∈l,Sl m x.u.shape x.w
 ln:∀x∈l,x.u.shape.length < 1000000
 cap:l=[]\/∃b o c bc g,v=.slice (some ⟨b,o,none⟩) l.length c/\l.length<=c/\m.get b=.cells bc 43 g/\(g=none\/g=some 6)
def cD.ak{l:List UW}{v:O}(h:cD m l v)(F:Ext m m'):cD m' l v:=
 ⟨h.sl.ak F,λx b0=>(h.sh x b0).ak F,h.ln,h.cap.imp id λ⟨b,o,c,bc,g,h1,h2,h3,h4⟩=>⟨b,o,c,bc,g,h1,h2,F.cells h3,h4⟩⟩
def cD.aX{l:List UW}{v:O}(h:cD m l v)(F:∀c cs t g,m.get c=.cells cs t g->(t=43\/t=46)->m'.get c=.cells cs t g):cD m' l v:=
 ⟨h.sl.aX λb c t g hb ht=>F b c t g hb (.inl (by simpa[aL.ty,aL.dN]using ht)),λx hx=>(h.sh x hx).aX λb c t g hb ht=>F b c t g hb (.inr (by simpa[aL.ty,aL.dN]using ht)),h.ln,
  h.cap.imp id λ⟨b,o,c,bc,g,h1,h2,h3,h4⟩=>⟨b,o,c,bc,g,h1,h2,F _ _ _ _ h3 (.inl rfl),h4⟩⟩
def js:List UW->List (ν)
 |[]=> []
 |a::r=>r.map (λb=> [a.v,b.v])++js r
def adq{l:List UW}(h:l[i]?=some a):js (l.drop i)=(l.drop (i+1)).map (λb=> [a.v,b.v])++js (l.drop (i+1)):=by have hi:=(Nr.1 h).1;rw[Mr hi,(Nr.1 h).2,js]
theorem abl{r:List UW}:js (x::r)=r.map (λb=> [x.v,b.v])++js r:=rfl
def adf(hX:cp X){l:List UW}{v:O}{b:Nat}(hlen:l.length<1000000):
  GenF TE X (.ob λo=>∃cs g,o=.cells cs 43 g) (.func 207) [] [ptrTo b] (js l) (λm=>m.get b=.cells [v] 29 none/\cD m l v):=by
 intro y n0 B ux wn m hD hI hJ hy i1 hB d0 h0;refine Cl.gen (R:=λv m2 b=>B<=b/\(ux (js l).length m2\/wn m2)) (hX.no _ rfl) (U5 func207) rfl ?_;rw[show([]:ν)++ .func (.yield y) #[] #[]::[ptrTo b]=[.func (.yield y) #[] #[],ptrTo b]from rfl,F207];dsimp only[aH];have ld:∀m1:M,m1.get b=.cells [v] 29 none->aC TE m1 27 (Ω b (0+0))=some v:=λm1 h=>(by rw[dV,aG h];rfl);unfold ptrTo;rw[bk,Y,ld m (hD _ _ h0).1,Y,(hD _ _ h0).2.sl.len cY,an];refine Lp.intro (γ:=Nat) (λi=>l.length-i) (λi vs m1 lo=>∃P,vs=[I i]/\i<=l.length/\js l=P++js (l.drop i)/\ux P.length m1/\n0<=m1.n/\m.n<=m1.n/\B<=lo/\((lo=m.n/\P=[])\/lo<m.n)) 0 ⟨[],rfl,Vw _,rfl,h0,i1,R8 _,Z,.inl ⟨rfl,rfl⟩⟩ ?_;rintro i vs m1 g2 ⟨P,rfl,hi,hP,j0,j1,H1,i2,g0⟩;rw[av,aK,Y,ag];refine af (λF=>?_) (λj2=>?_)
 ·have F:i<l.length:=J;obtain⟨a,ha⟩:∃a,l[i]?=some a:=⟨_,QC F⟩;obtain⟨q,e1,e2,ow⟩:=(hD _ _ j0).2.sl.gR (k:=.i64) ha;rw[e1,Y,e2,Y];refine ah λm13 K1 r0 L1=>?_;refine aj dO r0 rfl rfl (Un.dp ow) λm14 O1 s0 Q1=>?_;have u0:Ext m1 m14:=⟨Z,J⟩;have i0:=hI _ _ _ j0 u0;obtain⟨y0,A0⟩:=hD _ _ i0;rw[Y,ld m14 y0,Y,aO,Y,wrap64,show((i:Int)+1)=((i+1:Nat):Int) by omega];obtain⟨a',c',e0,k1⟩:∃a' c',slice? TE m14 27 v (some (I ((i+1:Nat):Int))) none none=some (.slice (some a') (l.length-(i+1)) c')/\∀(mm:M),cD mm l v->∀j x,l[i+1+j]?=some x->∃q,aD TE 27 (.slice (some a') (l.length-(i+1)) c') (I j)=some q/\aC TE mm 43 q=some x.v:=(by rcases A0.cap with h|⟨ab,o,c,bc,g,hv,l1,hg,o1⟩;rw[h]at F;simp at F;obtain⟨a',h1,h2⟩:=oJ (E:=TE) (m:=m14) (T:=27) (ti:=ai.t27) (e:=43) (b:=ab) (cs:=bc) (te:=43) (g:=g) (n:=l.length) (o:=o) (c:=c) (j:=i+1) GP rfl ce hg o1 l1 F;refine⟨a',c-(i+1),J,λmm p1 j x hx=>?_⟩;have hj:=(Nr.1 hx).1;have r1:=h2 Z;subst r1;have e0:=p1.sl;rw[hv]at e0;have hp:=Sl.part (i:=i+1) (k:=l.length-(i+1)) (c':=c-(i+1)) e0 Z;have u1:((l.drop (i+1)).take (l.length-(i+1)))[j]?=some x:=(by rw[XM Z,Sa];exact hx);have⟨q,q1,q2,_⟩:=hp.gR (k:=.i64) u1;exact⟨q,q1,q2⟩);rw[e0,Y];have ln:aR TE m14 .len [27] [.slice (some a') (l.length-(i+1)) c']=some (I (l.length-(i+1):Nat),m14):=XJ;rw[ln,an];have k0:=hP;rw[adq ha,<-NZ]at k0;have B0:∀j x,l[i+1+j]?=some x->(js l)[P.length+j]?=some [a.v,x.v]:=λj x hx=>(by have hj:=(Nr.1 hx).1;have v1:(l.drop (i+1))[j]?=some x:=J;rw[k0,NZ,OV Z,Ms,Xs J,Uo,v1];rfl)
  refine Lp.intro (γ:=Nat) (λj=>l.length-j) (λj vs m2 lo=>vs=[I j]/\j<=l.length-(i+1)/\ux (P.length+j) m2/\m1.n<m2.n/\m2.get m1.n=.cells a.c 43 none/\B<=lo/\((lo=m.n/\P=[]/\j=0)\/lo<m.n)) 0
   ⟨rfl,Vw _,i0,Z,s0,Z,by
    rcases g0 with⟨h1,h2⟩|h;·exact .inl ⟨Z,h2,rfl⟩
    exact .inr Z⟩ ?_
  rintro j vs m2 iH ⟨rfl,hj,l0,k2,O0,P0,o0⟩;rw[av,aK,Y,ag];refine af (λQ0=>?_) (λT1=>?_)
  ·have Q0:j<l.length-(i+1):=J;obtain⟨x,hx⟩:∃x,l[i+1+j]?=some x:=⟨_,wo⟩;obtain⟨q,q1,q2⟩:=k1 m2 (hD _ _ l0).2 j x hx;obtain⟨_,_,_,ox⟩:=(hD _ _ l0).2.sl.gR (k:=.i64) hx;rw[q1,Y,q2,Y];refine ah λl2 a2 a1 b2=>?_;refine aj dO a1 rfl rfl (Un.dp ox) λp0 c2 b1 d2=>?_;have b0:Ext m2 p0:=⟨Z,J⟩;rw[KU (b0.cells O0),Y,KU (x:=x) b1,Y,cj];obtain⟨v2,m4,b4,hc,o2,u2,w1,c1⟩:=d0 (P.length+j) [a.v,x.v] p0 Z (B0 j x hx) (hI _ _ _ l0 b0);apply aw hc;have w2:p0.n<=m4.n:=hc.1;rcases c1 with⟨rfl,y1⟩|⟨rfl,A1⟩;rw[bB,Y,ag,No,aT,aO,Y,wrap64];have d1:m4.get m1.n=.cells a.c 43 none:=(by have g1:=b0.cells O0;rw[w1 m1.n j1 Z ⟨_,_,g1⟩,g1]);exact⟨j+1,Z,rfl,Z,y1,Z,d1,Z,.inr Z⟩;rw[bB,Y,ag,ME,bN];exact .inr ⟨.inr Z,Z,.inr A1⟩
  have y2:j=l.length-(i+1):=(by have:¬(j:Int)< ((l.length-(i+1):Nat):Int):=J;omega);have q0:(P++(l.drop (i+1)).map λb=> [a.v,b.v]).length=P.length+j:=J;rw[Y];refine⟨i+1,Z,_,rfl,Z,k0,J,Z,Z,P0,?_⟩;rcases o0 with⟨h1,h2,h3⟩|h;·refine .inl ⟨h1,?_⟩;rw[<-BJ,q0,h2,h3];rfl
  exact .inr h
 have B1:i=l.length:=(by have:¬(i:Int)< (l.length:Int):=J;omega);subst B1;have G1:js l=P:=(by rw[hP,List.drop_of_length_le (R8 _)];simp[js]);rw[G1];rcases g0 with⟨h1,h2⟩|h;·subst h2;exact .inl ⟨rfl,Z,Z,.inl h0⟩
 exact .inr ⟨.inr h,Z,.inl j0⟩
def ph:List UW->List (UW×UW)
 |[]=> []
 |a::r=>r.map (λb=>(a,b))++ph r
theorem yV:∀l:List UW,js l=(ph l).map λp=> [p.1.v,p.2.v]
 |[]=>rfl
 |a::r=>by rw[abl,ph,MN,Je,yV r];rfl
theorem B9:∀{l:List UW} {p:UW×UW},p∈ph l->p.1∈l/\p.2∈l/\∃(i j:Nat),i<j/\l[i]?=some p.1/\l[j]?=some p.2
 |[],p,h=>by cases h
 |a::r,p,h=>by rw[ph]at h;rcases IF.1 h with h|h;obtain⟨b,F,rfl⟩:=Ja.1 h;have⟨j,hj⟩:=MI F;exact⟨co,J,0,j+1,Z,rfl,J⟩;have⟨h1,h2,i,j,h3,h4,h5⟩:=B9 h;exact⟨J,J,i+1,j+1,Z,J,J⟩
def MV:∀{l:List UW} (i j:Nat) (a b:UW),i<j->l[i]?=some a->l[j]?=some b->(a,b)∈ph l:=by intro l;induction l with|nil=>intro i j a b _ ha;simp at ha|cons x r ih=>intro i j a b F ha hb;rw[ph,IF];match i,j,F with|0,j+1,_=>grind|i+1,j+1,F=>exact .inr (ih i j a b Z (by simpa using ha) (by simpa using hb))
def acM{l:List UW}{k:Nat}{args:ν}(h:(js l)[k]?=some args):∃p,(ph l)[k]?=some p/\args=[p.1.v,p.2.v]:=by rw[yV,Uo]at h;cases F:(ph l)[k]? with|none=>rw[F]at h;cases h|some p=>rw[F]at h;cases h;exact⟨p,rfl,rfl⟩
def Qz(hX:cp X){v:O}(hv:cells v=[v]):∃m',xw X 159 [.agg #[v]] m (.func (.func 207) #[] #[ptrTo m.n]) m'/\Ext m m'/\m'.n=m.n+1/\m'.get m.n=.cells [v] 29 none:=by have key:∃r m' b,C X (.func 159) [.agg #[v]] m b r m'/\b=m.n/\r=.func (.func 207) #[] #[ptrTo m.n]/\Ext m m'/\m'.n=m.n+1/\m'.get m.n=.cells [v] 29 none:=(by refine Cl.heap (R:=λr m' b=>b=m.n/\r=.func (.func 207) #[] #[ptrTo m.n]/\Ext m m'/\m'.n=m.n+1/\m'.get m.n=.cells [v] 29 none) (hX.no _ rfl) (U5 func159) rfl ?_;rw[F159];dsimp only[aH];refine ah λm1 F b0 d0=>?_;exact⟨.inl rfl,Z,rfl,⟨Z,d0⟩,F,b0⟩);obtain⟨r,m',b,hc,rfl,rfl,h1,h2,h3⟩:=key;exact⟨m',hc,h1,h2,h3⟩
def zA{l:List UW}{v:O}(h:Sl m l v){i:Nat}{x:UW}(F:l[i]?=some x):∃a a0,aD TE 27 v (I i)=some a/\az TE 43 a 0=some a0/\aC TE m 3 a0=some (I x.u.id):=by have⟨b,o,bc,g,cs,e1,hb,hr,_,hj⟩:=h.iI cY (k:=.i64) F;obtain⟨rfl,_⟩:=hr;refine⟨_,_,e1,aW,?_⟩;rw[bP,aG hb,hj 0 ce];rfl
def Td{l:List UW}(F:l[i]?=some a)(hb:l[i+1]?=some b)(h:b.u.id<=a.u.id):¬cq (bH l):=λhf=>by have:=hf.ym i _ _ (kg F) (kg hb);omega
def OG{l:List UW}(F:a∈l)(h:kR a.u=false):¬cq (bH l):=λhf=>by have:=hf.val a.u (Ja.2 ⟨a,F,rfl⟩);grind
def Iq{l:List UW}{j:Nat}(F:i<j)(ha:l[i]?=some a)(hb:l[j]?=some b)(h:iP a.u b.u):¬cq (bH l):=λhf=>by have:=hf.apart i j _ _ F (kg ha) (kg hb);grind
def uD(hX:cp X){l:List UW}{v:O}(h:cD m l v)(hlen:l.length<1000000):xw X 117 [.agg #[v]] m (.bool (iT (bH l))) m:=by
 apply Cl.fl hX (U5 func117);rw[F117];dsimp only[δ,ε,ζ,η,ι,κ,ο,ς,υ,χ,ψ,ω,Γ,Θ,Λ];refine ah λm1 m3 T1 n3=>?_;refine ah λm2 o3 a1 a2=>?_;have g0:Ext m m2:=⟨Z,J⟩;have g1:m2.get m.n=.cells [v] 29 none:=(by rw[a2 _ Z,T1];rfl);have y0:∀mm:M,Ext m2 mm->aC TE mm 27 (Ω m.n (0+0))=some v:=λmm F=>(by rw[dV,aG (F.cells g1)];rfl);have b1:∀(mm:M) (lo:Nat),Ext m2 mm->m.n<=lo->¬cq (bH l)->dh (bh TE mm 4 (Ω m1.n 0) P6) λm7 b8=>aS (aC TE m7 4 (Ω m1.n 0)) λv9=>aP [v9]=.bool (iT (bH l))/\m.n<=min lo b8:=(by intro mm lo F b2 hn;refine aj E9 (F.cells a1) rfl rfl rfl λm7 r3 c2 u3=>?_;rw[sQ,aG c2];show aS (some (Value.bool false)) _;rw[Y,qX hn];exact⟨rfl,Z⟩);unfold ptrTo;rw[bk,Y,y0 m2 .refl,Y,(h.sl.ak g0).len cY,an,cC,Y,ag];refine af (λd2=>?_) (λhle=>?_);have d2:(12:Int)< l.length:=J;exact b1 m2 m.n .refl (R8 _) λhf=>(by have:=hf.len;rw[cx]at this;omega);have hle:¬(12:Int)< l.length:=J;rw[Y,y0 m2 .refl,Y,(h.sl.ak g0).len cY,an];refine Lp.intro (γ:=Nat) (λi=>l.length-i) (λi vs mm lo=>vs=[I i]/\i<=l.length/\Ext m2 mm/\m.n<=lo/\(∀j x,j<i->l[j]?=some x->kR x.u)/\(∀j a b,j+1<i->l[j]?=some a->l[j+1]?=some b->a.u.id<b.u.id)) 0 ⟨rfl,Vw _,.refl,R8 _,λj x hj=>Z,λj a b hj=>Z⟩ ?_;rintro i vs mm lo ⟨rfl,hi,F,b2,k0,n0⟩;rw[av,aK,Y,ag];have w3:=F.n;refine af (λc1=>?_) (λy3=>?_);have c1:i<l.length:=J;obtain⟨x,h0⟩:∃a,l[i]?=some a:=⟨_,QC c1⟩;have A0:=QP h0;have d1:=h.sl.ak (g0.trans F);have⟨q,e1,e2,ow⟩:=d1.gR (k:=.i64) h0;rw[e1,Y,e2,Y];refine ah λm22 G2 i1 L2=>?_;refine aj dO i1 rfl rfl (Un.dp ow) λm23 M2 j1 O2=>?_;have e0:Ext mm m23:=⟨Z,J⟩;have g23:m23.get mm.n=.cells (x.u.c x.w) 43 none:=j1;have k1:=(g0.trans F).trans e0;refine xr (λvs m' lo=>∃bad,vs=[.bool bad]/\m23=m'/\m.n<=lo/\(bad->¬cq (bH l))/\(bad=false->kR x.u/\∀a,0<i->l[i-1]?=some a->a.u.id<x.u.id)) (λR hR=>?_) ?_;rw[bQ g23,Y];apply aw (ll hX ((h.sh x A0).ak k1) (by have:=h.ln x A0;omega));rw[bB,Y,ag];refine af (λhb=>?_) (λhb=>?_);exact hR ⟨true,rfl,rfl,Z,λ_=>OG A0 J,λh=>by cases h⟩;have hb:kR x.u:=J;rw[cC,Y,ag];refine af (λhp=>?_) (λhp=>?_);have hp:0<i:=J;obtain⟨a,ha⟩:∃a,l[i-1]?=some a:=⟨_,wo⟩;obtain⟨l0, -⟩:=kS g23;have⟨q,q0,f1,f2,f3⟩:=zA (h.sl.ak k1) ha;rw[aW,Y,l0,Y,Y,y0 m23 (F.trans e0),Y,fa,Y,wrap64,show((i:Int)-1)=((i-1:Nat):Int) by omega,f1,Y,f2,Y,f3,Y,cI,Y];refine hR ⟨_,rfl,rfl,Z,λhh=>?_,λhh=>⟨hb,λa' _ l1=>?_⟩⟩;have hh:x.u.id<=a.u.id:=J;exact Td ha J hh;rw[ha]at l1;cases l1;have hh:¬x.u.id<=a.u.id:=J;omega;have hp:¬0<i:=J;exact hR ⟨false,rfl,rfl,Z,λh=>(by cases h),λ_=>⟨hb,λa h=>absurd h hp⟩⟩;rintro _ _ g2 ⟨bad,rfl,rfl,o0,o1,B0⟩;rw[av,ag];refine af (λhb=>?_) (λhb=>?_);exact b1 m23 g2 (F.trans e0) o0 (o1 hb);have⟨h1,h2⟩:=B0 hb;rw[aO,Y,wrap64];refine⟨i+1,Z,rfl,Z,F.trans e0,o0,λj y hj hy=>?_,λj a b hj ha O0=>?_⟩;by_cases e:j=i;subst e;rw[h0]at hy;cases hy;exact h1;exact k0 j y Z hy;by_cases e:j+1=i;subst e;rw[h0]at O0;cases O0;exact h2 a Z J;exact n0 j a b Z ha O0;have i2:i=l.length:=(by grind);subst i2;have j2:=F.cells g1;rw[cW,aI j2 co]
 show aS (some (Value.agg #[v])) _;rw[Y];have⟨b0,p1,p0,P2,Q2⟩:=Qz (m:=mm) hX h.sl.cells;apply aw p1;rw[cj];have d0:=(g0.trans F).trans p0;have gr:b0.get m1.n=.cells [P6] 4 none:=p0.cells (F.cells a1);refine⟨_,js l,_,λk m'=>b0.n<=m'.n/\(∀c,c<b0.n->m'.get c=b0.get c)/\∀k' p,k'<k->(ph l)[k']?=some p->iP p.1.u p.2.u=false,λe m'=>e=.ret/\m'.get m1.n=.cells [P6] 4 none/\¬cq (bH l),m.n,⟨_,rfl⟩,adf hX (v:=v) (b:=mm.n) hlen,Z,?_,?_,?_,⟨R8 _,λ_ _=>rfl,λk' p hk=>Z⟩,?_,?_,?_⟩;rintro k m' ⟨h1,h2,h3⟩;have he:Ext b0 m':=⟨h1,h2⟩;exact⟨J,(h.ak d0).ak he⟩;rintro k m' k2 ⟨h1,h2,h3⟩ hk;exact⟨by have:=hk.n;omega,λc hc=>by rw[hk.get c Z Z,h2 c hc],h3⟩;rintro e m' k2 ⟨h1,h2,h3⟩ hk;have:=M.aM h2;exact⟨h1,by rw[hk.get _ this Z,h2],h3⟩;rintro k args i0 T2 l2 ⟨h1,h2,h3⟩;obtain⟨⟨a,b⟩,hp,rfl⟩:=acM l2;have⟨ha,hb,i',j',o2,u2,v2⟩:=B9 (QP hp);have u1:Ext b0 i0:=⟨h1,h2⟩;have hF:=(h.ak d0).ak u1;have oa:one a.w:=(hF.sh a ha).one;have ob:one b.w:=(hF.sh b hb).one;rw[av,av];show N9 [] _;unfold N9;refine ah λA3 U2 v1 b3=>?_;refine aj dO v1 rfl rfl (Un.dp oa) λw2 c3 w1 d3=>?_;refine ah λm64 e3 y1 A1=>?_;refine aj dO y1 rfl rfl (Un.dp ob) λy2 g3 B1 G1=>?_;have iF:∀c,c<i0.n->y2.get c=i0.get c:=J;refine⟨λc _ hc=>iF c hc,λj0 i3 r0=>?_⟩;dsimp only;have r1:j0.get i0.n=.cells (a.u.c a.w) 43 none:=(by rw[r0 _ Z,G1 _ Z,A1 _ Z,w1];rfl);have r2:j0.get w2.n=.cells (b.u.c b.w) 43 none:=(by rw[r0 _ Z,B1];rfl);have H1:∀c,c<b0.n->j0.get c=b0.get c:=J;have s0:Ext b0 j0:=⟨Z,H1⟩;have u0:=(h.ak d0).ak s0;rw[bQ r1,Y,bQ r2,Y];apply aw (zC hX (u0.sh a ha) (u0.sh b hb) (by have:=h.ln a ha;omega) (by have:=h.ln b hb;omega));rw[ag];refine af (λho=>?_) (λho=>?_);refine aj E9 (s0.cells gr) rfl rfl rfl λB3 j3 K1 L1=>?_;exact⟨Z,λc G3 O3 _=>L1 c Z,rfl,K1,Iq o2 u2 v2 ho⟩;refine⟨Z,λc _ _ _=>rfl,Z,H1,λk' p P0 Q0=>?_⟩;by_cases e:k'=k;subst e;rw[hp]at Q0;cases Q0;exact ho;exact h3 k' p Z Q0;rintro m' iH ⟨h1,h2,h3⟩ O1;have z2:m'.get m1.n=.cells [P6] 4 none:=J;refine aj E9 z2 rfl rfl rfl λb4 k3 Q1 l3=>?_;rw[sQ,aG Q1];show aS (some (Value.bool true)) _;rw[Y];refine⟨?_,Z⟩;rw[fg];rfl;refine⟨by rw[cx];omega,λu hu=>?_,λi a b ha hb=>?_,λi k a b A2 ha hb=>?_⟩;obtain⟨x,F,rfl⟩:=rX hu;have⟨j,hj⟩:=MI F;exact k0 j x (Nr.1 hj).1 hj;obtain⟨x,F,rfl⟩:=rY ha;obtain⟨y,hy,rfl⟩:=rY hb;exact n0 i x y (Nr.1 hy).1 F hy;obtain⟨x,F,rfl⟩:=rY ha;obtain⟨y,hy,rfl⟩:=rY hb;have:=MV i k x y A2 F hy;have⟨k',P0⟩:=MI this;have B2:=(Nr.1 P0).1;exact h3 k' (x,y) (by rw[yV,Xh];exact B2) P0;rintro e m' iH c4 ⟨rfl,h2,h3⟩ O1;refine⟨_,RV.2 rfl,rfl,?_⟩;dsimp only;rw[sQ,aG h2];show aS (some (Value.bool false)) _;rw[Y,qX h3];exact⟨rfl,Z⟩
def nS(hX:cp X){l:List UW}{v:O}(h:cD m l v)(hlen:l.length<1000000):xw X 99 [.agg #[v]] m (.bool (iT (bH l))) m:=by
 apply Cl.fl hX (U5 func99);rw[F99];dsimp only[aH];refine ah λm1 y1 Q0 a1=>?_;have b1:Ext m m1:=⟨Z,a1⟩;have g1:m1.get m.n=.cells [v] 29 none:=Q0;have b0:aC TE m1 27 (Ω m.n (0+0))=some v:=(by rw[dV,aG g1];rfl);have h1:=h.ak b1;unfold ptrTo;rw[bk,Y,b0,Y,h1.sl.len cY,an,cC,Y,ag];refine af (λc1=>?_) (λhle=>?_);have c1:(12:Int)< l.length:=J;refine⟨?_,R8 _⟩;rw[qX λhf=>by have:=hf.len;rw[cx]at this;omega];rfl;have hle:¬(12:Int)< l.length:=J;have p0:∀(lo:Nat),m.n<=lo->¬cq (bH l)->aP [Value.bool false]=.bool (iT (bH l))/\m.n<=lo:=λlo n0 hn=>⟨by rw[qX hn];rfl,n0⟩;refine Lp.intro (γ:=Nat) (λi=>l.length-i) (λi vs mm lo=>vs=[P6,I i]/\i<=l.length/\m1=mm/\m.n<=lo/\(∀j x,j<i->l[j]?=some x->kR x.u)/\(∀j a b,j+1<i->l[j]?=some a->l[j+1]?=some b->a.u.id<b.u.id)/\(∀j k a b,k<i->j<k->l[j]?=some a->l[k]?=some b->iP a.u b.u=false)) 0 ⟨rfl,Vw _,rfl,R8 _,λj x hj=>Z,λj a b hj=>Z,λj k a b hk=>Z⟩ ?_;rintro i vs mm lo ⟨rfl,hi,rfl,n0,i0,j0,r0⟩;rw[av,av,Y,b0,Y,h1.sl.len cY,an,aK,Y,ag];refine af (λs0=>?_) (λA1=>?_);have s0:i<l.length:=J;obtain⟨x,d0⟩:∃a,l[i]?=some a:=⟨_,QC s0⟩;have g0:=QP d0;have⟨q,e1,e2,ow⟩:=h1.sl.gR (k:=.i64) d0;refine xr (λvs m' lo=>∃bad,vs=[.bool bad]/\m1=m'/\m.n<=lo/\(bad->¬cq (bH l))/\(bad=false->kR x.u/\∀a,0<i->l[i-1]?=some a->a.u.id<x.u.id)) (λR hR=>?_) ?_;rw[Y,b0,Y,e1,Y,e2,Y];apply aw (lC hX (u:=x.u) (w:=x.w) (h1.sh x g0) (by have:=h.ln x g0;omega));rw[bB,Y,ag];refine af (λhb=>?_) (λhb=>?_);exact hR ⟨true,rfl,rfl,Z,λ_=>OG g0 J,λh=>by cases h⟩;have hb:kR x.u:=J;rw[cC,Y,ag];refine af (λhp=>?_) (λhp=>?_);have hp:0<i:=J;obtain⟨a,F⟩:∃a,l[i-1]?=some a:=⟨_,wo⟩;have⟨q,q0,f1,f2,f3⟩:=zA h1.sl F;have⟨q',B1,d1,i1,j1⟩:=zA h1.sl d0;rw[Y,b0,Y,d1,Y,i1,Y,j1,Y,Y,b0,Y,fa,Y,wrap64,show((i:Int)-1)=((i-1:Nat):Int) by omega,f1,Y,f2,Y,f3,Y,cI,Y];refine hR ⟨_,rfl,rfl,Z,λhh=>?_,λhh=>⟨hb,λa' _ u0=>?_⟩⟩;have hh:x.u.id<=a.u.id:=J;exact Td F J hh;rw[F]at u0;cases u0;have hh:¬x.u.id<=a.u.id:=J;omega;have hp:¬0<i:=J;exact hR ⟨false,rfl,rfl,Z,λh=>(by cases h),λ_=>⟨hb,λa h=>absurd h hp⟩⟩;rintro _ _ k1 ⟨bad,rfl,rfl,k0,y0,o0⟩;rw[av,ag];refine af (λhb=>p0 k1 k0 (y0 hb)) (λhb=>?_);have⟨l1,o1⟩:=o0 hb;refine Lp.intro (γ:=Nat) (λk=>i-k) (λk vs mm lo=>vs=[P6,I k]/\k<=i/\m1=mm/\m.n<=lo/\∀j a,j<k->l[j]?=some a->iP a.u x.u=false) 0 ⟨rfl,Vw _,rfl,k0,λj a hj=>Z⟩ ?_;rintro k vs mm iH ⟨rfl,hk,rfl,A0,B0⟩;rw[av,av,aK,Y,ag];refine af (λl0=>?_) (λw1=>?_);have l0:k<i:=J;obtain⟨y,h0⟩:∃a,l[k]?=some a:=⟨_,wo⟩;have O0:=QP h0;have⟨q',p1,r1,_⟩:=h1.sl.gR (k:=.i64) h0;rw[Y,b0,Y,e1,Y,e2,Y,Y,b0,Y,p1,Y,r1,Y];apply aw (Fm hX (a:=x.u) (va:=x.w) (b:=y.u) (vb:=y.w) (h1.sh x g0) (h1.sh y O0) (by have:=h.ln x g0;omega) (by have:=h.ln y O0;omega));rw[ag];refine af (λho=>?_) (λho=>?_);exact p0 _ Z (Iq l0 h0 d0 (by rw[qJ];exact ho));rw[aO,Y,wrap64];refine⟨k+1,Z,rfl,Z,rfl,Z,λj a hj F=>?_⟩;by_cases e:j=k;subst e;rw[h0]at F;cases F;rw[qJ];exact ho;exact B0 j a Z F;have P0:k=i:=(by grind);subst P0;rw[aO,Y,wrap64]
 refine⟨k+1,Z,rfl,Z,rfl,A0,λj y hj hy=>?_,λj a b hj F e0=>?_,λj k' a b P0 hj F e0=>?_⟩;by_cases e:j=k;subst e;rw[d0]at hy;cases hy;exact l1;exact i0 j y Z hy;by_cases e:j+1=k;subst e;rw[d0]at e0;cases e0;exact o1 a Z J;exact j0 j a b Z F e0;by_cases e:k'=k;subst e;rw[d0]at e0;cases e0;exact B0 j a hj F;exact r0 j k' a b Z hj F e0;have u1:i=l.length:=(by grind);subst u1;refine⟨?_,n0⟩;rw[fg];rfl;refine⟨by rw[cx];omega,λu hu=>?_,λi a b F hb=>?_,λi k a b v1 F hb=>?_⟩;obtain⟨x,hx,rfl⟩:=rX hu;have⟨j,hj⟩:=MI hx;exact i0 j x (Nr.1 hj).1 hj;obtain⟨x,hx,rfl⟩:=rY F;obtain⟨y,hy,rfl⟩:=rY hb;exact j0 i x y (Nr.1 hy).1 hx hy;obtain⟨x,hx,rfl⟩:=rY F;obtain⟨y,hy,rfl⟩:=rY hb;exact r0 i k x y (Nr.1 hy).1 v1 hx hy
def rV(x:Int):nK (IntKind.i64.wrap x):=by have h:=Kc x;unfold wr at h;unfold nK;grind
def fm(F:cp X){c n:Int}(hc:nK c)(hn:0<n):xw X 98 [I c,I n] m (I (gG c n)) m:=by apply Cl.fl F (U5 func98);rw[F98];dsimp only[aH];exact yS hc hn (P:=λv=>aP [v]=I (gG c n)/\m.n<=m.n) ⟨rfl,R8 _⟩
theorem EM(hX:cp X){u:Un}{w:O}(hw:Sl m u.shape w)(hl:u.shape.length<1000000):
  ∃w' m',xw X 163 [u.v w] m (u.v w') m'/\Ext m m'/\Sl m' u.shape w':=by have key:∃r m' b,C X (.func 163) [u.v w] m b r m'/\b=m.n/\∃w',r=u.v w'/\Ext m m'/\Sl m' u.shape w':=(by refine Cl.heap (R:=λr m' b=>b=m.n/\∃w',r=u.v w'/\Ext m m'/\Sl m' u.shape w') (hX.no _ rfl) (U5 func163) rfl ?_;rw[F163];dsimp only[aH];refine ah λm1 B0 s0 O0=>?_;refine ah λm2 P0 k0 Q0=>?_;simp only[bd]at s0;have l0:Ext m m2:=⟨Z,J⟩;have g1:m2.get m.n=.cells (u.c w) 43 none:=J;unfold ptrTo;rw[tH,an];have b0:Ext m2 (m2.push (.cells [] 46 none)):=Ext.refl.push;generalize n0:m2.push (.cells [] 46 none)=m4 at*;have o0:m4.get m2.n=.cells [] 46 none:=(by rw[<-n0];exact M.aU);have a1:m4.n=m2.n+1:=(by rw[<-n0];rfl);have g14:=b0.cells g1;obtain⟨-, -, -,l3, -, -⟩:=kS g14;rw[bA,Y,l3,Y];obtain⟨v7,m8,ha,F,d0,b1,u0⟩:∃v' m1,aR TE (m4.wl m4.n) .append [41,41] [Hr m2.n 0 0 0,w]=some (v',m1)/\Sl m1 u.shape v'/\Ext m4 m1/\m1.low=m4.n/\∃a n c,v'=.slice (some a) n c:=(by have j0:=(hw.ak l0).ak b0;by_cases he:u.shape=[];rw[he]at j0⊢;obtain⟨a,c,rfl⟩:=j0.form;refine⟨Hr m2.n 0 0 0,m4.wl m4.n,?_,.inr ⟨m2.n,0,0,[],none,rfl,o0,co,J⟩,⟨R8 _,λ_ _=>rfl⟩,rfl,_,_,_,rfl⟩;(cases a with|none=>kernel_rfl|some a=>kernel_rfl);obtain⟨v',m1,h1,h2,h3,h4⟩:=mD zu o0 j0 he Z;have⟨a,c,hv⟩:=h2.sl.form;refine⟨v',m1,h1,h2.sl,h3,h4,?_⟩;rcases h2 with⟨_,h⟩|⟨b,cs,rfl,_⟩;exact absurd h he;exact⟨_,_,_,rfl⟩);rw[ha,an,Y];have n8:=d0.n;have g18:=d0.cells g14;have o7:one v7:=F.one;refine bS uN g18 (by rw[F.cells];rfl) (by rw[F.cells];simp) (by rw[F.cells];simp[o7]) λm10 y0 e0 g0=>?_;have e0:m10.get m.n=.cells (u.c v7) 43 none:=(by rw[e0,F.cells];rfl);rw[bQ e0,Y];have p0:m10.get m1.n=.cells Un.zc 43 none:=(by rw[g0 _ Z,d0.get _ Z,b0.get _ Z,k0]);refine aj dO p0 rfl rfl (Un.dp o7) λm13 A0 h0 i0=>?_;have h0:m13.get m1.n=.cells (u.c v7) 43 none:=h0;rw[bQ h0,Y];obtain⟨a,n,c,rfl⟩:=u0;refine⟨.inl ?_,Z,_,rfl,⟨Z,λb hb=>by rw[i0 b Z,g0 b Z,d0.get b Z,b0.get b Z,l0.get b hb]⟩,?_⟩;show aZ (u.v (.slice (some a) n c))=false;simp[aZ,ep,bL];refine F.aX λb cs t g hb ht=>?_;have q0:b≠m.n:=(by rintro rfl;rw[g18]at hb;cases hb;revert ht;decide);have r0:b≠m1.n:=(by rintro rfl;rw[d0.get _ Z,b0.get _ Z,k0]at hb;cases hb;revert ht;decide);rw[i0 b r0,g0 b q0,hb]);obtain⟨r,m',b,hc,rfl,w',rfl,h1,h2⟩:=key;exact⟨w',m',hc,h1,h2⟩
def Vi{b o:Nat}{k:IntKind}(hi:i<6):aD TE 62 (Ω b o) (.int k i)=some (Ω b (o+i)):=by rcases(show i=0\/i=1\/i=2\/i=3\/i=4\/i=5 by omega)with rfl|rfl|rfl|rfl|rfl|rfl <;>kernel_rfl
def JZ(hX:cp X){R:ν->M->Nat->Prop}{b6 rc lo0:Nat}{mm:M}{w:O}{e0:List Pl}{n i0 i1 i2 i3 i4 i5:Int}(hb:mm.get b6=.cells [I i0,I i1,I i2,I i3,I i4,I i5] 62 none)
  (hr:mm.get rc=.cells Un.zc 43 none) (hw:Sl mm e0 w) (hn:nK n) (h5:nK i5)
  (hR:∀(u:Un) (m':M) (lo:Nat),u.shape=e0->mm.n=m'.n->m'.get rc=.cells (u.c w) 43 none->(∀c,c≠rc->m'.get c=mm.get c)->min lo0 (min rc mm.n)<=lo->R [u.v w] m' lo):
  (aS (aD TE 62 (Ω b6 0) (I 5)) λA0=>(aS (aC TE mm 3 A0) λB0=>(lU TE X (.func 98) [B0,I 4] mm λO0 F h0=>(aS (bE TE .eql 3 O0 (I 3)) λP0=>(iS P0
(aS (aD TE 62 (Ω b6 0) (I 5)) λQ0=>(aS (aC TE F 3 Q0) λa1=>(aS (bE TE .quo 3 a1 (I 4)) λb1=>(lU TE X (.func 98) [b1,I 4] F λj0 k0 c1=>(aS (bE TE .add 3 j0 (I 1)) λd1=>(aS (aD TE 62 (Ω b6 0) (I 5)) λe1=>(aS (aC TE k0 3 e1) λg1=>(aS (bE TE .quo 3 g1 (I 16)) λh1=>(lU TE X (.func 98) [h1,I 4] k0 λj1 l0 k1=>(aS (bE TE .add 3 d1 j1) λl1=>(lU TE X (.func 98) [I n,I 100] l0 λo1 b0 n0=>((M.n l0<=n0)/\(aS (aD TE 62 (Ω b6 0) (I 5)) λp1=>(aS (aC TE b0 3 p1) λr1=>(aS (bE TE .quo 3 r1 (I 64)) λu1=>(lU TE X (.func 98) [u1,I 8] b0 λv1 o0 p0=>((M.n b0<=p0)/\(aS (bE TE .add 3 (I 1) v1) λw1=>(aS (aD TE 62 (Ω b6 0) (I 5)) λy1=>(aS (aC TE o0 3 y1) λA1=>(aS (bE TE .quo 3 A1 (I 512)) λB1=>(lU TE X (.func 98) [B1,I 8] o0 λG1 H1 K1=>(aS (bz TE 43 [(0,o1),(1,w1),(2,G1),(3,w),(4,j0),(5,l1)]) λL1=>(dh (bh TE H1 43 (Ω rc 0) L1) λq0 O1=>(aS (aC TE q0 43 (Ω rc 0)) λQ1=>(R [Q1] q0 (min (min (min (min (min (min (min lo0 h0) c1) k1) n0) p0) K1) O1)))))))))))))))))))))))))))
(lU TE X (.func 98) [I n,I 100] F λT1 d0 r0=>((M.n F<=r0)/\(aS (aD TE 62 (Ω b6 0) (I 5)) λa2=>(aS (aC TE d0 3 a2) λb2=>(aS (bE TE .quo 3 b2 (I 64)) λc2=>(lU TE X (.func 98) [c2,I 8] d0 λd2 s0 u0=>((M.n d0<=u0)/\(aS (bE TE .add 3 (I 1) d2) λe2=>(aS (aD TE 62 (Ω b6 0) (I 5)) λg2=>(aS (aC TE s0 3 g2) λh2=>(aS (bE TE .quo 3 h2 (I 512)) λj2=>(lU TE X (.func 98) [j2,I 8] s0 λk2 l2 o2=>(aS (bz TE 43 [(0,T1),(1,e2),(2,k2),(3,w),(4,(I 0)),(5,(I 4))]) λu2=>(dh (bh TE l2 43 (Ω rc 0) u2) λy0 v2=>(aS (aC TE y0 43 (Ω rc 0)) λw2=>(R [w2] y0 (min (min (min (min (min lo0 h0) r0) u0) o2) v2)))))))))))))))))))))):=by have e5:aD TE 62 (Ω b6 0) (I 5)=some (Ω b6 5):=Vi (i:=5) ce;have l5:aC TE mm 3 (Ω b6 5)=some (I i5):=(by rw[bP,aG hb];rfl);have ow:one w:=hw.one;have y2:∀a b c d e:Int,bz TE 43 [(0,I a),(1,I b),(2,I c),(3,w),(4,I d),(5,I e)]=some (Un.v ⟨a,b,c,e0,d,e⟩ w):=λa b c d e=>(by have:=aeg (x0:=I a) (x1:=I b) (x2:=I c) (x3:=w) (x4:=I d) (x5:=I e) rfl rfl rfl (by rw[hw.cells];rfl) rfl rfl;rw[this,hw.cells];rfl);have fin:∀(u:Un) (lo:Nat),u.shape=e0->min lo0 mm.n<=lo->dh (bh TE mm 43 (Ω rc 0) (u.v w)) λm' b=>aS (aC TE m' 43 (Ω rc 0)) λv=>R [v] m' (min lo b):=λu lo hu B2=>(by refine aj dO hr rfl rfl (Un.dp ow) λm' z2 g0 A2=>?_;have g0:m'.get rc=.cells (u.c w) 43 none:=g0;rw[bQ g0,Y];exact hR u m' _ hu z2.symm g0 A2 Z);rw[e5,Y,l5,Y];apply aw (fm hX h5 ce);rw[aJ,Y,ag];refine af (λ_=>?_) (λ_=>?_);rw[Y,l5,Y,rp ce,Y];apply aw (fm hX (rV _) ce);rw[aO,Y,Y,l5,Y,rp ce,Y];apply aw (fm hX (rV _) ce);rw[aO,Y];refine aw (fm hX hn ce) ⟨R8 _,?_⟩;rw[Y,l5,Y,rp ce,Y];refine aw (fm hX (rV _) ce) ⟨R8 _,?_⟩;rw[aO,Y,Y,l5,Y,rp ce,Y];apply aw (fm hX (rV _) ce);rw[y2,Y];exact fin _ _ rfl Z;refine aw (fm hX hn ce) ⟨R8 _,?_⟩;rw[Y,l5,Y,rp ce,Y];refine aw (fm hX (rV _) ce) ⟨R8 _,?_⟩;rw[aO,Y,Y,l5,Y,rp ce,Y];apply aw (fm hX (rV _) ce);rw[y2,Y];exact fin _ _ rfl Z
def AE{b:Nat}{L:List Pl}{p:Pl}{g:Option Nat}{x:Int}{P:M->Nat->Prop}(h:m.get b=.cells (AO L) 46 g)(hi:L[i]?=some p)
  (F:∀m1,m1.n=m.n->m1.get b=.cells (AO (L.set i ⟨x,p.y⟩)) 46 g->(∀c,c≠b->m1.get c=m.get c)->P m1 b):dh (bh TE m 3 (Ω b (i*2+0)) (I x)) P:=by have b0:=(Nr.1 hi).1;have hl:=wT L;refine bS yy h rfl (by rw[hl];show i*2+0+1<=_;omega) rfl λm1 h1 h2 h3=>F m1 h1 ?_ h3;rw[h2,OX,show i*2+(cells (Value.int .i64 x)).length=i*2+1 from rfl];have:=np (cs:=AO L) (i:=i*2) (x:=Value.int .i64 x) J;rw[show cells (Value.int .i64 x)=[Value.int .i64 x]from rfl,this,Hf x hi]
def Ig(hX:cp X){n i0 i1 i2 i3 i4 i5:Int}(hn:nK n)(h0:nK i0)(h1:nK i1)(h2:nK i2)(h3:nK i3)(h4:nK i4)(h5:nK i5):
  ∃(u:Un) (w:O) (m':M),xw X 43 [I n,.agg #[I i0,I i1,I i2,I i3,I i4,I i5]] m (u.v w) m'/\Ext m m'/\Sl m' u.shape w/\u.shape.length<=4:=by
 have key:∃r m' b,C X (.func 43) [I n,.agg #[I i0,I i1,I i2,I i3,I i4,I i5]] m b r m'/\b=m.n/\∃(u:Un) (w:O),r=u.v w/\Ext m m'/\Sl m' u.shape w/\u.shape.length<=4:=by
  refine Cl.heap (R:=λr m' b=>b=m.n/\∃(u:Un) (w:O),r=u.v w/\Ext m m'/\Sl m' u.shape w/\u.shape.length<=4) (hX.no _ rfl) (U5 func43) rfl ?_;rw[F43];dsimp only[aH];refine ah λm1 T1 e1 j1=>?_;refine ah λm2 a2 k1 A0=>?_;have l1:Ext m m2:=⟨Z,λc hc=>by rw[A0 c Z,j1 c hc]⟩
  have g1:m2.get m.n=.cells [I i0,I i1,I i2,I i3,I i4,I i5] 62 none:=by rw[A0 _ Z];exact e1
  unfold ptrTo;have ld:∀{mm:M} {i:Nat} {x:Int},Ext m2 mm->[i0,i1,i2,i3,i4,i5][i]?=some x->aD TE 62 (Ω m.n 0) (I i)=some (Ω m.n i)/\aC TE mm 3 (Ω m.n i)=some (I x):=λ{mm i x} hx hi=>by
   have B0:=(Nr.1 hi).1;refine⟨by have:=Vi (b:=m.n) (o:=0) (k:=.i64) (i:=i) B0;rwa[Jf]at this,?_⟩;have hc:[Value.int .i64 i0,I i1,I i2,I i3,I i4,I i5][i]?=some (I x):=by
    have:([i0,i1,i2,i3,i4,i5].map (Value.int .i64))[i]?=some (I x):=by rw[Uo,hi];rfl
    exact this
   rw[bP,aG (hx.cells g1),hc]
  have o1:aD TE 62 (Ω m.n 0) (I 0)=some (Ω m.n 0):=(@ld m2 0 i0 .refl rfl).1;have p1:=(@ld m2 0 i0 .refl rfl).2;have r1:aD TE 62 (Ω m.n 0) (I 1)=some (Ω m.n 1):=(@ld m2 1 i1 .refl rfl).1;have u1:=(@ld m2 1 i1 .refl rfl).2;have v1:aD TE 62 (Ω m.n 0) (I 2)=some (Ω m.n 2):=(@ld m2 2 i2 .refl rfl).1;have w1:=(@ld m2 2 i2 .refl rfl).2;have A1:aD TE 62 (Ω m.n 0) (I 3)=some (Ω m.n 3):=(@ld m2 3 i3 .refl rfl).1;have B1:=(@ld m2 3 i3 .refl rfl).2;rw[o1,Y,p1,Y];apply aw (fm hX h0 ce);rw[kO,Y];rw[r1,Y,u1,Y];apply aw (fm hX h1 ce);rw[kO,Y];rw[v1,Y,w1,Y];apply aw (fm hX h2 ce);rw[aO,Y,kO,Y,aO,Y,uA,an];rw[A1,Y,B1,Y];apply aw (fm hX h3 ce);rw[aO,Y,kO,Y,aO,Y];generalize IntKind.i64.wrap (4*gG i0 9)=x0;generalize IntKind.i64.wrap (4*gG i1 6)=y0;generalize min (IntKind.i64.wrap _) (40:Int)=x1;generalize IntKind.i64.wrap (y0+_)=y1;have bp:∀a b:Int,bz TE 46 [(0,I a),(1,I b)]=some (Pl.v ⟨a,b⟩):=λa b=>ri rfl rfl;rw[bp,Y,bp,Y,bp,Y,bp,Y];obtain⟨L,hL⟩:∃L:List Pl,L=[⟨x0,y0⟩,⟨x1,y0⟩,⟨x1,y1⟩,⟨x0,y1⟩]:=⟨_,rfl⟩
  have G1:aQ TE m2 41 4 [(0,Pl.v ⟨x0,y0⟩),(1,Pl.v ⟨x1,y0⟩),(2,Pl.v ⟨x1,y1⟩),(3,Pl.v ⟨x0,y1⟩)]=some (Hr m2.n 0 4 4,m2.push (.cells (AO L) 46 none)):=by rw[hL];kernel_rfl
  rw[G1,an];have g0:Ext m2 (m2.push (.cells (AO L) 46 none)):=Ext.refl.push;generalize q0:m2.push (.cells (AO L) 46 none)=F at*;have d0:F.get m2.n=.cells (AO L) 46 none:=by rw[<-q0];exact M.aU
  have O1:F.n=m2.n+1:=by rw[<-q0];rfl
  have H1:aD TE 62 (Ω m.n 0) (I 4)=some (Ω m.n 4):=(@ld F 4 i4 g0 rfl).1;have K1:=(@ld F 4 i4 g0 rfl).2;rw[H1,Y,K1,Y];apply aw (fm hX h4 ce);have gz:F.get m1.n=.cells Un.zc 43 none:=by rw[g0.get _ Z,k1]
  have O0:m1.n≠m2.n:=Z
  have fin:∀(mm:M) (lo0:Nat) (w:O) (e0:List Pl),(∀c,c≠m2.n->c<F.n->mm.get c=F.get c)->F.n<=mm.n->m.n<=lo0->Sl mm e0 w->e0.length<=4->(∃a n c,w=.slice (some a) n c)->mm.get m.n=.cells [I i0,I i1,I i2,I i3,I i4,I i5] 62 none/\mm.get m1.n=.cells Un.zc 43 none/\
    ∀(u:Un) (m':M) (lo:Nat),u.shape=e0->mm.n=m'.n->m'.get m1.n=.cells (u.c w) 43 none->(∀c,c≠m1.n->m'.get c=mm.get c)->min lo0 (min m1.n mm.n)<=lo->(aZ (aP [u.v w])=false\/lo<m.n)/\min m.n lo=m.n/\∃(u':Un) (w':O),aP [u.v w]=u'.v w'/\Ext m m'/\Sl m' u'.shape w'/\u'.shape.length<=4:=by
   intro mm lo0 w e0 hk b2 c2 hs hl hw;refine⟨by rw[hk _ Z Z,g0.get _ Z,g1],by rw[hk _ O0 Z,gz],λu m' lo hu d2 hg P0 Q1=>⟨.inl ?_,Z,u,w,rfl,⟨Z,λc hc=>by rw[P0 c Z,hk c Z Z,g0.get c Z,l1.get c hc]⟩,?_,by rw[hu];exact hl⟩⟩;·obtain⟨a,k,c,rfl⟩:=hw;show aZ (u.v (.slice (some a) k c))=false;simp[aZ,ep,bL]
   ·rw[hu];refine hs.aX λb cs t g hb ht=>?_;by_cases e:b=m1.n;·subst e;rw[hk _ O0 Z,gz]at hb;cases hb;exact absurd ht ce
    rw[P0 b e,hb]
  have j0:∀{mm:M} {L':List Pl},mm.get m2.n=.cells (AO L') 46 none->L'.length=4->Sl mm L' (Hr m2.n 0 4 4):=λ{mm L'} h hl=>by have:=PU (c:=4) h;rwa[hl]at this
  have p0:∀i,i<4->aD TE 41 (Hr m2.n 0 4 4) (I (i:Nat))=some (Ω m2.n (i*2)):=λi hi=>ada hi;have r0:aD TE 41 (Hr m2.n 0 4 4) (I 0)=some (Ω m2.n (0*2)):=p0 0 ce;have Q0:aD TE 41 (Hr m2.n 0 4 4) (I 1)=some (Ω m2.n (1*2)):=p0 1 ce;have s0:aD TE 41 (Hr m2.n 0 4 4) (I 2)=some (Ω m2.n (2*2)):=p0 2 ce;have a1:aD TE 41 (Hr m2.n 0 4 4) (I 3)=some (Ω m2.n (3*2)):=p0 3 ce;have tail:∀(mm:M) (lo0:Nat) (w:O) (e0:List Pl),(∀c,c≠m2.n->c<F.n->mm.get c=F.get c)->F.n<=mm.n->m.n<=lo0->Sl mm e0 w->e0.length<=4->(∃a n c,w=.slice (some a) n c)->_:=λmm lo0 w e0 a b c d e f=>by have⟨f1,f2,f3⟩:=fin mm lo0 w e0 a b c d e f;exact JZ hX (R:=λvs m' lo=>(aZ (aP vs)=false\/lo<m.n)/\min m.n lo=m.n/\∃(u:Un) (w:O),aP vs=u.v w/\Ext m m'/\Sl m' u.shape w/\u.shape.length<=4) (lo0:=lo0) f1 f2 d hn h5 f3
  have Na:∀{mm:M} {L':List Pl} {i:Nat} {p:Pl},mm.get m2.n=.cells (AO L') 46 none->L'[i]?=some p->aC TE mm 46 (Ω m2.n (i*2))=some p.v:=λ{mm L' i p} h hi=>by have B0:=(Nr.1 hi).1;rw[qR,aI h (by rw[wT];omega)];have:=Ek hi;unfold chunk at this;rw[this];rfl
  rw[aJ,Y,ag];refine af (λ_=>?_) (λ_=>?_);·rw[fa,Y,s0,Y,cV,Y];refine AE (L:=L) (i:=2) (p:=⟨x1,y1⟩) d0 (by rw[hL];rfl) λL1 b1 k0 l0=>?_;rw[aO,Y,a1,Y,cV,Y];refine AE (i:=3) (p:=⟨x0,y1⟩) k0 (by rw[hL];rfl) λu0 c1 n0 o0=>?_;exact tail u0 _ _ _ (λc h _=>by rw[o0 c h,l0 c h]) Z Z (j0 n0 (by rw[hL];rfl)) (by rw[hL];exact R8 _) ⟨_,_,_,rfl⟩
  rw[aJ,Y,ag];refine af (λ_=>?_) (λ_=>?_);·rw[aO,Y,r0,Y,cV,Y];refine AE (L:=L) (i:=0) (p:=⟨x0,y0⟩) d0 (by rw[hL];rfl) λL1 b1 k0 l0=>?_;rw[fa,Y,Q0,Y,cV,Y];refine AE (i:=1) (p:=⟨x1,y0⟩) k0 (by rw[hL];rfl) λu0 c1 n0 o0=>?_;exact tail u0 _ _ _ (λc h _=>by rw[o0 c h,l0 c h]) Z Z (j0 n0 (by rw[hL];rfl)) (by rw[hL];exact R8 _) ⟨_,_,_,rfl⟩
  rw[aJ,Y,ag];have tri:∀(p q r:Pl) (lo0:Nat),m.n<=lo0->∀b0:M,F.push (.cells (AO [p,q,r]) 46 none)=b0->Sl b0 [p,q,r] (Hr F.n 0 3 3)/\(∀c,c≠m2.n->c<F.n->b0.get c=F.get c)/\F.n<=b0.n:=λp q r lo0 h b0 hm=>by
   have hg:b0.get F.n=.cells (AO [p,q,r]) 46 none:=by rw[<-hm];exact M.aU
   refine⟨PU (l:=[p,q,r]) hg,λc _ hc=>by rw[<-hm];exact M.cH hc,by rw[<-hm];exact Nc _⟩
  have d1:∀p q r:Pl,aQ TE F 41 3 [(0,p.v),(1,q.v),(2,r.v)]=some (Hr F.n 0 3 3,F.push (.cells (AO [p,q,r]) 46 none)):=λp q r=>bv
  refine af (λ_=>?_) (λ_=>?_);·rw[r0,Y,Na (i:=0) (p:=⟨x0,y0⟩) d0 (by rw[hL];rfl),Y,Q0,Y,Na (i:=1) (p:=⟨x1,y0⟩) d0 (by rw[hL];rfl),Y,s0,Y,Na (i:=2) (p:=⟨x1,y1⟩) d0 (by rw[hL];rfl),Y,d1,an];generalize hm:F.push (.cells (AO [⟨x0,y0⟩,⟨x1,y0⟩,⟨x1,y1⟩]) 46 none)=b0;obtain⟨s1,s2,s3⟩:=tri _ _ _ m.n (R8 _) b0 hm;exact tail b0 _ _ _ s2 s3 Z s1 co ⟨_,_,_,rfl⟩
  rw[aJ,Y,ag];refine af (λ_=>?_) (λ_=>?_);·rw[r0,Y,Na (i:=0) (p:=⟨x0,y0⟩) d0 (by rw[hL];rfl),Y,s0,Y,Na (i:=2) (p:=⟨x1,y1⟩) d0 (by rw[hL];rfl),Y,a1,Y,Na (i:=3) (p:=⟨x0,y1⟩) d0 (by rw[hL];rfl),Y,d1,an];generalize hm:F.push (.cells (AO [⟨x0,y0⟩,⟨x1,y1⟩,⟨x0,y1⟩]) 46 none)=b0;obtain⟨s1,s2,s3⟩:=tri _ _ _ m.n (R8 _) b0 hm;exact tail b0 _ _ _ s2 s3 Z s1 co ⟨_,_,_,rfl⟩
  exact tail F _ _ _ (λc _ _=>rfl) (R8 _) Z (j0 d0 (by rw[hL];rfl)) (by rw[hL];exact R8 _) ⟨_,_,_,rfl⟩
 obtain⟨r,m',b,hc,rfl,u,w,rfl,h1,h2,h3⟩:=key;exact⟨u,w,m',hc,h1,h2,h3⟩
def jt(u:Un):List Un->List Un
 |[]=> [u]
 |a::r=>if u.id < a.id then u::a::r else a::jt u r
theorem FR{u:Un}:∀{p q:List Un},(∀x∈p,¬u.id<x.id)->jt u (p++q)=p++jt u q
 |[],q,_=>rfl
 |a::p,q,h=>by rw[Nw,jt,ND (h a co),FR λx F=>h x J];rfl
theorem HL{u x:Un}:∀{p:List Un},(∃y∈p,u.id<y.id)->jt u (p++ [x])=jt u p++ [x]
 |[],h=>J
 |a::p,h=>by rw[Nw,jt,jt];by_cases e:u.id<a.id;grind;rw[ND e,ND e,HL];rfl;grind
structure KeU(oc:Nat)(m m1:M):Prop where
 n:m.n<=m1.n
 lo:∀c,c < oc->m1.get c=m.get c
 get:∀c,c < m.n->c≠oc->(∀cs g,m.get c≠.cells cs 43 g)->m1.get c=m.get c
structure Iw(oc:Nat)(mm:M)(acc:List UW)(r:O):Prop where
 cell:mm.get oc=.cells [r] 29 none
 ow:Ow (oc+1) mm acc r
 sh:∀x∈acc,Sl mm x.u.shape x.w
 ln:∀x∈acc,x.u.shape.length < 1000000
def Iw.xU(h:Iw F mm acc r):cD mm acc r:=
 ⟨h.ow.sl,h.sh,h.ln,by rcases h.ow with⟨_,h⟩|⟨b,cs,h1,h2,h3,h4,h5,h6⟩;grind;exact .inr ⟨b,0,_,cs,_,h1,R8 _,h4,.inr rfl⟩⟩
def Iw.ak(h:Iw oc mm acc r)(F:Ext mm m'):Iw oc m' acc r:=⟨F.cells h.cell,h.ow.ak F,λx b0=>(h.sh x b0).ak F,h.ln⟩
def Cb{α:Type}[aL α]{n1:Nat}{l:List α}{v:O}(h:Ow n1 m l v){a:Addr}{n k:Nat}(e:v=.slice (some a) n k):∃cs g,m.get a.block=.cells cs (aL.ty α) g/\n1<=a.block:=by rcases h with⟨rfl,_⟩|⟨b,cs,rfl,F,h3,h4,_⟩;cases e;grind
def Up{w:O}{u:Un}(h:Iw oc mm acc r)(hw:Sl mm u.shape w)(hl:u.shape.length<1000000)(O0:acc.length<1000000):
  ∃b0 r' F g0,aQ TE mm 27 1 [(0,u.v w)]=some (Hr mm.n 0 1 1,b0)/\aR TE (M.wl b0 (M.n b0)) .append [27,27] [r,Hr mm.n 0 1 1]=some (r',F)/\
   bh TE F 27 (Ω oc (0+0)) r'=some (g0,oc)/\oc+1<=F.low/\Iw oc g0 (acc++ [⟨u,w⟩]) r'/\KeU oc mm g0:=by have P0:=M.aM h.cell;have r0:one w:=hw.one;have e0:Ext mm (mm.push (.cells (UW.c ⟨u,w⟩) 43 none)):=Ext.refl.push;refine⟨mm.push (.cells (UW.c ⟨u,w⟩) 43 none),?_⟩;have s0:aQ TE mm 27 1 [(0,u.v w)]=some (Hr mm.n 0 1 1,mm.push (.cells (UW.c ⟨u,w⟩) 43 none)):=AP (x:=⟨u,w⟩);generalize j0:mm.push (.cells (UW.c ⟨u,w⟩) 43 none)=b0 at*;have o0:b0.get mm.n=.cells (UW.c ⟨u,w⟩) 43 none:=(by rw[<-j0];exact M.aU);have Q0:b0.n=mm.n+1:=(by rw[<-j0];rfl);have h0:=h.ak e0;obtain⟨r',F,ha,d0,i0,p0,B0⟩:=Ow.append (y:=Hr mm.n 0 1 1) (ys:=[(⟨u,w⟩:UW)]) zt (by simp[aL.dN]) h0.ow (Ee o0 r0) Z J;have a1:=i0.n;have q0:F.get oc=.cells [r] 29 none:=(by rw[i0.get _ Z,h0.cell]);have u0:=wF (E:=TE) (o:=0+0) (x:=r') GP q0 (by rw[d0.sl.cells];rfl) (by rw[d0.sl.cells];simp) (by rw[d0.sl.cells];simp[d0.sl.one]);refine⟨r',F,_,s0,ha,u0,p0,?_⟩;have k0:∀c,c≠oc->(F.set oc (.cells (([r]:ν).take (0+0)++(cells r'++([r]:ν).drop (0+0+(cells r').length))) 29 none)).get c=F.get c:=λc hc=>M.dY hc;have y0:(F.set oc (.cells (([r]:ν).take (0+0)++(cells r'++([r]:ν).drop (0+0+(cells r').length))) 29 none)).get oc=.cells [r'] 29 none:=(by rw[M.get_set_same (M.aM q0),d0.sl.cells];rfl);have A0:(F.set oc (.cells (([r]:ν).take (0+0)++(cells r'++([r]:ν).drop (0+0+(cells r').length))) 29 none)).n=F.n:=rfl;generalize F.set oc (.cells (([r]:ν).take (0+0)++(cells r'++([r]:ν).drop (0+0+(cells r').length))) 29 none)=g0 at*;have aX:∀c,c<b0.n->c≠oc->(∀cs g,b0.get c≠.cells cs 43 g)->g0.get c=b0.get c:=λc hc l0 ht=>(by rw[k0 c l0,il ha hc λa n k e he=>?_];have⟨cs,g,hg,_⟩:=Cb h0.ow e;rw[<-he]at hg;exact ht _ _ hg);have HI:∀(n0:List Pl) (v:O),Sl b0 n0 v->Sl g0 n0 v:=λn0 v hs=>hs.aX λb cs t g hb ht=>(by have ht:t=46:=(by simpa[aL.ty,aL.dN]using ht);subst ht;rw[aX b (M.aM hb) (λe=>by subst e;rw[h0.cell]at hb;cases hb) J,hb]);refine⟨⟨y0,d0.aX λb c t g hb ht=>?_,λx hx=>?_,λx hx=>?_⟩,⟨Z,λc hc=>?_,λc hc l0 ht=>?_⟩⟩;have ht:t=43:=(by simpa[aL.ty,aL.dN]using ht);grind;rcases IF.1 hx with hx|hx;exact HI _ _ (h0.sh x hx);rw[RV]at hx;subst hx;exact HI _ _ (hw.ak e0);rcases IF.1 hx with hx|hx;exact h.ln x hx;grind;rw[k0 c Z,i0.get c Z,e0.get c Z];rw[aX c Z l0 (λcs g e=>ht cs g (by rw[<-e,e0.get c Z])),e0.get c Z]
def pV(hX:cp X){oc:Nat}{mm:M}{acc:List UW}{r w:O}{u:Un}(h:Iw oc mm acc r)(hw:Sl mm u.shape w)(hl:u.shape.length<1000000)(i0:acc.length<1000000):
  ∃w' b0 d0 r' e0 g0,xw X 163 [u.v w] mm (u.v w') b0/\aQ TE b0 27 1 [(0,u.v w')]=some (Hr b0.n 0 1 1,d0)/\
   aR TE (M.wl d0 (M.n d0)) .append [27,27] [r,Hr b0.n 0 1 1]=some (r',e0)/\
   bh TE e0 27 (Ω oc (0+0)) r'=some (g0,oc)/\oc+1<=e0.low/\Iw oc g0 (acc++ [⟨u,w'⟩]) r'/\KeU oc mm g0:=by have k0:=M.aM h.cell;have⟨w',b0,hc,F,h0⟩:=EM hX hw hl;have l0:=F.n;have⟨d0,r',e0,g0,h1,h2,h3,h4,h5,h6⟩:=Up (h.ak F) h0 hl i0;exact⟨w',b0,d0,r',e0,g0,hc,h1,h2,h3,h4,h5,⟨by have:=h6.n;omega,λc hc=>by rw[h6.lo c hc,F.get c Z],λc hc j0 ht=>by rw[h6.get c Z j0 (λcs g e=>ht cs g (by rw[<-e,F.get c hc])),F.get c hc]⟩⟩
open Classical in
def rQ(l:List UW)(u:Un)(m':M)(F:O):Prop:=
 if iT (bH l)=true/\iT (jt u (bH l))=true then∃l' r,F=.tuple #[.agg #[r],.int .i64 0]/\bH l'=jt u (bH l)/\cD m' l' r else F=.tuple #[.agg #[.slice none 0 0],.int .i64 120]
def rQ.no{l:List UW}{u:Un}(h:¬(iT (bH l)/\iT (jt u (bH l)))):rQ l u m' (.tuple #[.agg #[Z9],I 120]):=by unfold rQ;rw[ND h]
def rQ.yes{l F:List UW}{u:Un}(h1:iT (bH l))(h2:iT (jt u (bH l)))(h3:bH F=jt u (bH l))(h4:cD m' F r):rQ l u m' (.tuple #[.agg #[r],I 0]):=by unfold rQ;rw[UG ⟨h1,h2⟩];exact⟨F,r,rfl,h3,h4⟩
def Le(u:Un)(l:List Un):jt u l≠ []:=by cases l with|nil=>simp[jt]|cons a r=>rw[jt];split <;>simp
theorem Ti(hX:cp X){l:List UW}{v w:O}{u:Un}(h:cD m l v)(hlen:l.length<1000)(hw:Sl m u.shape w)(A1:u.shape.length<1000000):
  ∃rv m',xw X 119 [.agg #[v],u.v w] m rv m'/\Ext m m'/\rQ l u m' rv:=by
 have key:∃rv m' b,C X (.func 119) [.agg #[v],u.v w] m b rv m'/\b=m.n/\Ext m m'/\rQ l u m' rv:=by
  refine Cl.gen (R:=λrv m' b=>b=m.n/\Ext m m'/\rQ l u m' rv) (hX.no _ rfl) (U5 func119) rfl ?_;rw[F119];dsimp only[aH];refine ah λm1 L2 c2 M2=>?_;refine ah λm2 O2 d2 P2=>?_;refine ah λm3 Q2 T2 U2=>?_;simp only[bd]at c2 d2;have i2:Ext m m3:=⟨Z,J⟩
  have g1:m3.get m.n=.cells [v] 29 none:=J
  have g2:m3.get m1.n=.cells (u.c w) 43 none:=J
  unfold ptrTo;rw[cW,aI g1 co];show aS (some (Value.agg #[v])) _;rw[Y];apply aw (nS hX (h.ak i2) Z);rw[bB,Y,ag]
  have g0:∀(mm:M) (lo:Nat),(∀c,c<m3.n->mm.get c=m3.get c)->¬(iT (bH l)/\iT (jt u (bH l)))->m.n<=lo->
    dh (bh TE mm 29 (Ω m2.n 0) (.agg #[Z9])) λm10 o1=>aS (aC TE m10 29 (Ω m2.n 0)) λv12=>
     (aZ (aP [v12,I 120])/\m.n<=min lo o1/\m.n=m.n/\Ext m m/\rQ l u m (aP [v12,I 120]))\/
     ((aZ (aP [v12,I 120])=false\/min lo o1<m.n)/\min m.n (min lo o1)=m.n/\Ext m m10/\rQ l u m10 (aP [v12,I 120])):=by
   intro mm lo hk j2 k2;have g3:mm.get m2.n=.cells [Z9] 29 none:=J
   refine aj im g3 rfl rfl rfl λm10 B1 b0 d1=>?_;have b0:m10.get m2.n=.cells [Z9] 29 none:=b0;rw[cW,aI b0 co];show aS (some (Value.agg #[Z9])) _;rw[Y];exact .inl ⟨rfl,Z,rfl,.refl,.no j2⟩
  have p1:bz TE 29 []=some (.agg #[Z9]):=EV;refine af (λhb=>?_) (λhb=>?_)
  ·have hb:iT (bH l)=false:=J
   rw[p1,Y];exact g0 m3 (min m.n m3.n) (λ_ _=>rfl) J Z
  have l2:iT (bH l):=J
  refine ah λm13 z2 i1 j1=>?_;obtain⟨oc,o2⟩:∃oc,oc=m3.n:=⟨_,rfl⟩
  rw[<-o2]at i1⊢;have A2:Ext m3 m13:=⟨Z,λc hc=>j1 c hc⟩
  refine Lp.intro (γ:=Nat) (λi=>l.length-i) (λi vs mm lo=>∃(done:Bool) (acc:List UW) (r:O),vs=[.bool done,I i]/\i<=l.length/\Iw oc mm acc r/\(∀c,c<oc->mm.get c=m3.get c)/\m.n<=lo/\m13.n<=mm.n/\(done=false->bH acc=(bH l).take i/\∀x∈(bH l).take i,¬u.id<x.id)/\(done->bH acc=jt u ((bH l).take i)/\∃x∈(bH l).take i,u.id<x.id)/\acc.length<=i+1) 0 ⟨false,[],_,rfl,Vw _,⟨i1,.nil,λx hx=>(by cases hx),λx hx=>(by cases hx)⟩,λc hc=>j1 c Z,Z,R8 _,λ_=>⟨rfl,λx hx=>J⟩,λh=>(by cases h),Vw _⟩ ?_;rintro i vs mm p0 ⟨done,acc,r,rfl,hi,h0,hk,k2,G1,B0,r1,c3⟩;have gf:mm.get m.n=.cells [v] 29 none:=J
  have gu:mm.get m1.n=.cells (u.c w) 43 none:=J
  have u1:Ext m mm:=⟨Z,J⟩
  have hF:=h.ak u1;have O0:∀m':M,m'.get m.n=.cells [v] 29 none->aC TE m' 27 (Ω m.n (0+0))=some v:=λm' h=>by rw[dV,aG h];rfl
  have P0:∀(m':M) acc r,Iw oc m' acc r->aC TE m' 27 (Ω oc (0+0))=some r:=λm' acc r h=>by rw[dV,aG h.cell];rfl
  rw[av,av,bk,Y,O0 mm gf,Y,hF.sl.len cY,an,aK,Y,ag];refine af (λH1=>?_) (λd3=>?_)
  ·have H1:i<l.length:=J
   obtain⟨x,hx⟩:∃x,l[i]?=some x:=⟨_,QC H1⟩
   have k1:=QP hx;have Q0:(bH l).take (i+1)=(bH l).take i++ [x.u]:=by rw[Z8,kg hx];rfl
   refine xr (λvs m' lo=>vs=[.bool (!done && decide (u.id<x.u.id))]/\mm=m'/\p0=lo) (λR hR=>?_) ?_
   ·rw[bB,Y,ag];refine af (λh1=>?_) (λh1=>?_);·have⟨q,q0,f1,f2,f3⟩:=zA hF.sl hx;obtain⟨l0, -⟩:=kS gu;rw[Y,O0 mm gf,Y,f1,Y,f2,Y,f3,Y,aW,Y,l0,Y,cC,Y];exact hR ⟨J,rfl,rfl⟩
    exact hR ⟨J,rfl,rfl⟩
   rintro _ _ _ ⟨rfl,rfl,rfl⟩;rw[av,ag]
   have step:∀(m':M) (F:List UW) (r':O),Iw oc m' F r'->(∀c,c<oc->m'.get c=m3.get c)->m13.n<=m'.n->F.length<100000->
     ∃q w' i0 k0 r0 n0 j0,aD TE 27 v (I i)=some q/\aC TE m' 43 q=some x.v/\xw X 163 [x.v] m' (x.u.v w') i0/\aQ TE i0 27 1 [(0,x.u.v w')]=some (Hr i0.n 0 1 1,k0)/\
      aR TE (M.wl k0 (M.n k0)) .append [27,27] [r',Hr i0.n 0 1 1]=some (r0,n0)/\
      bh TE n0 27 (Ω oc (0+0)) r0=some (j0,oc)/\oc+1<=n0.low/\Iw oc j0 (F++ [⟨x.u,w'⟩]) r0/\(∀c,c<oc->j0.get c=m3.get c)/\m13.n<=j0.n:=by
    intro m' F r' hg K1 u2 L1;have l1:Ext m m':=⟨Z,J⟩
    have⟨q,q1,q2,_⟩:=(h.ak l1).sl.gR (k:=.i64) hx;obtain⟨w',i0,k0,r0,n0,j0,h1,h2,h3,h4,h5,h6,h7⟩:=pV hX hg ((h.ak l1).sh x k1) (h.ln x k1) Z;exact⟨q,w',i0,k0,r0,n0,j0,q1,q2,h1,h2,h3,h4,h5,h6,λc hc=>by rw[h7.lo c hc,K1 c hc],by have:=h7.n;omega⟩
   refine af (λh1=>?_) (λh1=>?_)
   ·rw[G4]at h1;have⟨h1,h2⟩:=h1;have d0:done=false:=J
    have e0:u.id<x.u.id:=J
    have⟨e1,e2⟩:=B0 d0;have B2:acc.length<=i:=by have:=congrArg List.length e1;rw[cx,ZO]at this;omega
    obtain⟨wa,e3,i3,ra,j3,c1,a1,a2,a3,a4,a5,a6,a7⟩:=pV hX h0 (hw.ak u1) A1 Z;obtain⟨q,wb,k3,m64,rb,l3,n3,b1,b2,b3,b4,b5,b6,b7,b8,b9,v1⟩:=step c1 _ ra a6 (λc hc=>by rw[a7.lo c hc,hk c hc]) (by have:=a7.n;omega) J;have O1:c1.get m.n=.cells [v] 29 none:=by rw[a7.lo _ Z,gf]
    rw[bk,Y,P0 mm acc r h0,Y,bQ gu,Y];refine aw a1 ⟨R8 _,?_⟩;rw[a2,an,a3,an,Y,a4,an,Y,P0 c1 _ _ a6,Y,Y,O0 c1 O1,Y,b1,Y,b2,Y];refine aw b3 ⟨R8 _,?_⟩;rw[b4,an,b5,an,Y,b6,an,aO,Y,wrap64];have:=a7.n;refine⟨i+1,Z,true,_,rb,rfl,Z,b8,b9,Z,v1,(λh=>by cases h),λ_=>⟨?_,x.u,J,e0⟩,J⟩;rw[Q0,FR e2];show bH ((acc++ [⟨u,wa⟩])++ [⟨x.u,wb⟩])=_;unfold bH at e1⊢;rw[MN,MN,e1];simp[jt,e0]
   obtain⟨q,wb,i0,k0,rb,n0,j0,b1,b2,b3,b4,b5,b6,b7,b8,b9,v1⟩:=step mm _ r h0 hk G1 Z;rw[bk,Y,P0 mm acc r h0,Y,Y,O0 mm gf,Y,b1,Y,b2,Y];refine aw b3 ⟨R8 _,?_⟩;rw[b4,an,b5,an,Y,b6,an,aO,Y,wrap64];refine⟨i+1,Z,done,_,rb,rfl,Z,b8,b9,Z,v1,λhd=>?_,λhd=>?_,J⟩
   ·have⟨e1,e2⟩:=B0 hd;have hn:¬u.id<x.u.id:=by rw[hd,ME,DO]at h1;simpa using h1
    refine⟨?_,λy hy=>?_⟩;·rw[Q0];unfold bH at e1⊢;rw[MN,e1];rfl
    rw[Q0]at hy;rcases IF.1 hy with hy|hy;·exact e2 y hy
    rw[RV]at hy;subst hy;exact hn
   have⟨e1,y,hy,e0⟩:=r1 hd;refine⟨?_,y,J,e0⟩;rw[Q0,HL ⟨y,hy,e0⟩];unfold bH at e1⊢;rw[MN,e1];rfl
  have v2:i=l.length:=by
   have:¬(i:Int)< (l.length:Int):=J
   omega
  subst v2;rw[MM (by rw[cx];exact R8 _)]at B0 r1
  have fin:∀(m':M) (F:List UW) (r':O) (s0:Nat),Iw oc m' F r'->(∀c,c<oc->m'.get c=m3.get c)->m13.n<=m'.n->m.n<=s0->bH F=jt u (bH l)->F.length<100000->
    xw X 99 [.agg #[r']] m' (.bool (iT (jt u (bH l)))) m'/\aC TE m' 29 (Ω oc 0)=some (.agg #[r'])/\
    (iT (jt u (bH l))->dh (bh TE m' 29 (Ω m2.n 0) (.agg #[r'])) λu0 y0=>aS (aC TE u0 29 (Ω m2.n 0)) λv12=>
     (aZ (aP [v12,I 0])/\m.n<=min s0 y0/\m.n=m.n/\Ext m m/\rQ l u m (aP [v12,I 0]))\/
     ((aZ (aP [v12,I 0])=false\/min s0 y0<m.n)/\min m.n (min s0 y0)=m.n/\Ext m u0/\rQ l u u0 (aP [v12,I 0]))):=by
   intro m' F r' s0 hg K1 u2 G2 o0 L1;refine⟨by rw[<-o0];exact nS hX hg.xU Z,by rw[cW,aI hg.cell co];rfl,λhv=>?_⟩;have g3:m'.get m2.n=.cells [Z9] 29 none:=J
   refine aj im g3 rfl rfl (by show(one r' && true)=true;rw[hg.ow.sl.one];rfl) λm10 B1 b0 d1=>?_;have b0:m10.get m2.n=.cells [r'] 29 none:=b0;rw[cW,aI b0 co];show aS (some (Value.agg #[r'])) _;rw[Y];have Q1:cD m10 F r':=hg.xU.aX λc cs t g hb ht=>by rw[d1 c J,hb]
   refine .inr ⟨.inl ?_,Z,⟨Z,J⟩,.yes l2 hv o0 Q1⟩;have w2:F≠ []:=λe=>by rw[e]at o0;exact Le u (bH l) o0.symm
   have⟨bb,y2,_⟩:=Own.of hg.ow w2;rw[y2];simp[aP,aZ,ep,bL]
  rw[bB,Y,ag];refine af (λh1=>?_) (λh1=>?_)
  ·have d0:done=false:=J
   have⟨e1,e2⟩:=B0 d0;obtain⟨wa,o3,r3,ra,w1,A0,a1,a2,a3,a4,a5,a6,a7⟩:=pV hX h0 (hw.ak u1) A1 Z;have o0:bH (acc++ [⟨u,wa⟩])=jt u (bH l):=by have:jt u (bH l++ [])=bH l++jt u []:=FR e2;rw[NC]at this;rw[this];unfold bH at e1⊢;rw[MN,e1];rfl
   have n7:=a7.n;obtain⟨f1,f2,f3⟩:=fin A0 _ ra (min (min (min p0 mm.n) w1.low) oc) a6 (λc hc=>by rw[a7.lo c hc,hk c hc]) Z Z o0 J;rw[bk,Y,P0 mm acc r h0,Y,bQ gu,Y];refine aw a1 ⟨R8 _,?_⟩;rw[a2,an,a3,an,Y,a4,an,f2,Y];apply aw f1;rw[bB,Y,ag];have T1:min (min (min (min p0 mm.n) w1.low) oc) A0.n=min (min (min p0 mm.n) w1.low) oc:=J
   rw[T1];cases y1:iT (jt u (bH l))with
   |false=>rw[ME,bN,p1,Y];exact g0 A0 _ (λc hc=>by rw[a7.lo c Z,hk c Z]) J Z
   |true=>rw[No,aT,f2,Y];exact f3 y1
  ·have d0:done:=J
   have⟨e1,_⟩:=r1 d0;obtain⟨f1,f2,f3⟩:=fin mm acc r (min p0 mm.n) h0 hk G1 Z e1 Z;rw[f2,Y];apply aw f1;rw[bB,Y,ag];cases y1:iT (jt u (bH l))with
   |false=>rw[ME,bN,p1,Y];exact g0 mm _ (λc hc=>hk c Z) J Z
   |true=>rw[No,aT,f2,Y];exact f3 y1
 obtain⟨rv,m',b,hc,rfl,h1,h2⟩:=key;exact⟨rv,m',hc,h1,h2⟩
structure I6 where
 a:Int
 b:Int
 c:Int
 d:Int
 e:Int
 f:Int
def I6.c'(x:I6):ν:=[.int .i64 x.a,.int .i64 x.b,.int .i64 x.c,.int .i64 x.d,.int .i64 x.e,.int .i64 x.f]
def I6.ok(x:I6):Prop:=nK x.a/\nK x.b/\nK x.c/\nK x.d/\nK x.e/\nK x.f
instance:aL I6 where
 ty:=62
 sz:=6
 agg:=true
 dN:=[]
 rep _ x cs:=cs=x.c'
 pos:=ce
 one:=J
 len:=by rintro _ _ _ rfl;rfl
 iy:=by rintro _ _ _ rfl;rfl
 aX:=J
def yE:qs TE 22 62 I6:=⟨ai.t22,ai.t62,bv,⟨_,rfl⟩,rfl,bv,rfl,rfl⟩
def Wv{l:List I6}{v:O}(h:wj m l v){i:Nat}{x:I6}(hx:l[i]?=some x):∃b o,aD TE 22 v (I i)=some (Ω b o)/\aC TE m 62 (Ω b o)=some (.agg x.c'.toArray)/\aC TE m 3 (Ω b (o+5))=some (I x.f):=by have⟨p,cs,e1,e2,e3⟩:=h.index yE (k:=.i64) hx;have e3:cs=x.c':=e3;subst e3;have d0:=(Nr.1 hx).1;rcases h with h|h;have⟨b,o,bc,g,cs,f1,hb,F,hle,hj⟩:=h.iI yE (k:=.i64) hx;have F:cs=x.c':=F;subst F;rw[e1]at f1;cases f1;refine⟨b,o,e1,e2,?_⟩;rw[bP,aG hb,hj 5 ce];rfl;rcases h with⟨_,rfl⟩|⟨b,o,c,bc,rfl,hb,b0⟩;grind;have⟨hle,F⟩:=b0 i x hx;have F:(bc.drop (o+i*6)).take 6=x.c':=F;have f1:aD TE 22 (Hr b o l.length c) (I i)=some (Ω b (o+i*6)):=(by have hc:0<=(i:Int)/\(i:Int)< (l.length:Int)/\0<ai.t22.es:=⟨Z,Z,ce⟩;have hd:ai.t22.d=.slice 62:=rfl;simp only[aD,Wh,hd];rw[UG hc,bs rfl];rfl);rw[e1]at f1;cases f1;refine⟨b,o+i*6,e1,e2,?_⟩;have h5:bc[o+i*6+5]?=some (I x.f):=(by have:=congrArg (·[5]?) F;simp only[XM (show 5<6 by decide),Sa]at this;rw[this];rfl);rw[bP,ES hb h5 rfl]
def M8(hX:cp X){xs:List I6}{v:O}(hv:wj m xs v)(u1:∀x∈xs,x.ok)(hlen:xs.length<9223372036854775808):
  ∃l r m',xw X 71 [v] m (.agg #[r]) m'/\Ext m m'/\cD m' l r/\cq (bH l):=by
 have key:∃rv m' b,C X (.func 71) [v] m b rv m'/\b=m.n/\Ext m m'/\∃l r,rv=.agg #[r]/\cD m' l r/\cq (bH l):=(by refine Cl.gen (R:=λrv m' b=>b=m.n/\Ext m m'/\∃l r,rv=.agg #[r]/\cD m' l r/\cq (bH l)) (hX.no _ rfl) (U5 func71) rfl ?_;rw[F71];dsimp only[aH];refine ah λm1 T1 a2 b2=>?_;refine ah λm2 c2 v1 d2=>?_;have w1:Ext m m2:=⟨Z,J⟩;have g1:m2.get m.n=.cells [Z9] 29 none:=J;have s0:∀mm:M,cD mm [] Z9:=λmm=>⟨.nil,λx hx=>(by cases hx),λx hx=>(by cases hx),.inl rfl⟩;have h0:cq (bH []):=⟨by simp[bH],λu hu=>(by simp[bH]at hu),λi a b ha=>(by simp[bH]at ha),λi k a b _ ha=>(by simp[bH]at ha)⟩;unfold ptrTo;refine Lp.intro (γ:=Nat) (λi=>12-i) (λi vs mm lo=>∃l r,vs=[I i]/\i<=12/\Ext m mm/\m2.n<=mm.n/\mm.get m.n=.cells [Z9] 29 none/\mm.get m1.n=.cells [r] 29 none/\cD mm l r/\cq (bH l)/\m.n<=lo/\(l=[]->r=Z9)) 0 ⟨[],_,rfl,Z,w1,R8 _,g1,v1,s0 _,h0,R8 _,λ_=>rfl⟩ ?_;rintro i vs mm lo ⟨l,r,rfl,hi,hx,g2,ga,gb,hF,hP,i2,u0⟩;have j2:l.length<=12:=(by have:=hP.len;rwa[cx]at this);rw[av];refine xr (λvs m' y1=>vs=[.bool (decide (i<xs.length) && decide (i<12))]/\mm=m'/\lo=y1) (λR hR=>?_) ?_;rw[(hv.ak hx).len yE,an,aK,Y,ag];refine af (λh=>?_) (λh=>?_);have h:i<xs.length:=J;rw[aK,Y];refine hR ⟨?_,rfl,rfl⟩;rw[RO h,DO];congr 2;rw[ge];omega;have h:¬i<xs.length:=J;exact hR ⟨J,rfl,rfl⟩;rintro _ _ _ ⟨rfl,rfl,rfl⟩;rw[av,ag];have p0:∀(m':M) (b:Nat) (r:O),m'.get b=.cells [r] 29 none->aC TE m' 29 (Ω b 0)=some (.agg #[r]):=λm' b r h=>(by rw[cW,aI h co];rfl);refine af (λh=>?_) (λh=>?_);simp only[G4,Xo]at h;have⟨A1,K1⟩:=h;obtain⟨x,P0⟩:∃x,xs[i]?=some x:=⟨_,QC A1⟩;have⟨k0,k1,k2,k3,k4,k5⟩:=u1 x (QP P0);have⟨b,o,e1,e2,e3⟩:=Wv (hv.ak hx) P0;have e4:aD TE 62 (Ω b o) (I 5)=some (Ω b (o+5)):=Vi (i:=5) ce;rw[p0 mm _ _ gb,Y,kO,Y,e1,Y,e4,Y,e3,Y];refine aw (fm hX k5 ce) ⟨R8 _,?_⟩;rw[aO,Y,Y,e2,Y];obtain⟨u,w,B1,Q0,i0,a1,L1⟩:=Ig (m:=mm) hX (rV _) k0 k1 k2 k3 k4 k5;refine aw Q0 ⟨R8 _,?_⟩;obtain⟨rv,B0,b1,y0,F⟩:=Ti (m:=B1) hX (hF.ak i0) Z a1 Z;refine aw b1 ⟨R8 _,?_⟩;have n30:=i0.n;have n33:=y0.n;have d0:=i0.trans y0;by_cases hc:iT (bH l)/\iT (jt u (bH l))=true;unfold rQ at F;rw[UG hc]at F;obtain⟨l',r',rfl,O0,c1⟩:=F;rw[aE,aE];simp only[XW,Q7,Y];refine ah λG1 d1 j0 i1=>?_;have or:one r':=c1.sl.one;refine aj im j0 rfl rfl (by show(one r' && true)=true;rw[or];rfl) λg0 j1 e0 l1=>?_;have e0:g0.get B0.n=.cells [r'] 29 none:=e0;have b0:Ext B0 g0:=⟨Z,J⟩;rw[aJ,Y,ag,RO rfl,bN,p0 g0 _ _ e0,Y];have o1:g0.get m1.n=.cells [r] 29 none:=b0.cells (d0.cells gb);refine aj im o1 rfl rfl J λH1 O1 l0 n0=>?_;have l0:H1.get m1.n=.cells [r'] 29 none:=l0;rw[aO,Y,wrap64];refine⟨i+1,Z,l',r',rfl,Z,⟨J,λc hc=>by rw[n0 c Z,b0.get c (by have:=hx.n;omega),d0.get c (by have:=hx.n;omega),hx.get c hc]⟩,Z,?_,l0,?_,?_,J,λe=>?_⟩;rw[n0 _ Z,b0.get _ Z,d0.get _ Z,ga];exact(c1.ak b0).aX λc cs t g hb ht=>(by rw[n0 c J,hb]);rw[O0];exact qj.1 hc.2;rw[e]at O0;exact absurd O0.symm (Le u _);unfold rQ at F;rw[ND hc]at F;subst F;rw[aE,aE];simp only[XW,Q7,Y];refine ah λG1 d1 j0 i1=>?_;refine aj im j0 rfl rfl rfl λg0 j1 e0 l1=>?_;have b0:Ext B0 g0:=⟨Z,J⟩;rw[aJ,Y,ag,show decide ((120:Int)=0)=false from rfl,aT,aO,Y,wrap64];have q0:=d0.trans b0;exact⟨i+1,Z,l,r,rfl,Z,hx.trans q0,J,q0.cells ga,q0.cells gb,hF.ak q0,hP,J,u0⟩;rw[p0 mm _ _ gb,Y];have or:one r:=hF.sl.one;refine aj im ga rfl rfl (by show(one r && true)=true;rw[or];rfl) λr0 Q1 o0 A0=>?_;have o0:r0.get m.n=.cells [r] 29 none:=o0;rw[p0 r0 _ _ o0,Y];have p1:cD r0 l r:=hF.aX λc cs t g hb ht=>(by rw[A0 c J,hb]);have r1:Ext m r0:=⟨J,λc hc=>by rw[A0 c Z,hx.get c hc]⟩;by_cases hl:l=[];have hr:=u0 hl;subst hl;subst hr;exact .inl ⟨rfl,Z,rfl,.refl,[],_,rfl,s0 m,h0⟩;refine .inr ⟨.inl ?_,Z,r1,l,r,rfl,p1,hP⟩;rcases hF.cap with h|⟨bb,o,c,bc,g,rfl,_⟩;exact absurd h hl;simp[aP,aZ,ep,bL])
 obtain⟨rv,m',b,hc,rfl,h1,l,r,rfl,h2,h3⟩:=key;exact⟨l,r,m',hc,h1,h2,h3⟩
section
open Go Go.D Go.ChangeShapes Go.WideShapes Go.ChangeAt Go.RowKit Go.Proofs.Tryz
def tP:Tryz.prog.underlying 22=some (.slice 62):=bv
def OL:Tryz.prog.underlying 62=some (.array 6 3):=bv
section
variable {H:Type} {enc:TypeId×O->H} {W W':World} {sp:Nat->Bool} {held:Bool} {base:Nat}
def JJ:∀fuel cs x,DataW.trod enc Tryz.prog W 0 sp held fuel 62 cs=some x->∃y:I6,y.ok/\(∀m,aL.rep m y cs)/\∀u∈cs,bL u:=by intro fuel cs x h;obtain⟨l,rfl,hl,F⟩:=FO OL bv h;match l,hl,F with|[a,b,c,d,e,f],_,F=>refine⟨⟨a,b,c,d,e,f⟩,⟨F _ co,F _ co,F _ co,F _ co,F _ co,F _ co⟩,λm=>rfl,λu hu=>?_⟩;obtain⟨z,_,rfl⟩:=Ja.1 hu;rfl
theorem PY{v:O}{d:DataW H}{ps:List MemPlace}(F:Value.okWide Tryz.prog W .any base 22 v)(h:DataW.Trod enc Tryz.prog W 0 sp held 22 v d ps):
  bw (Ai W) v v/\∃l:List I6,LL (fF W) l v/\l.length<9223372036854775808/\∀y∈l,y.ok:=by simp only[Value.okWide,tP]at F;have⟨fuel,h⟩:=h;have hv:v.cells.toList=[v]:=(by cases v with|agg cs=>exfalso;revert F;simp[Cell.okWide,Cell.ok,tP]|_=>rfl);rw[hv]at h;obtain⟨a,l,b,c,d⟩:=Fj (α:=I6) (v:=v) tP bv JJ F h;grind
def Ub{v:O}{d:DataW H}{ps:List MemPlace}(hb:Below W.heap.size W W')(h:DataW.Trod enc Tryz.prog W 0 (λ_=>true) true 22 v d ps)(F:∀x∈ps,x.block<W.heap.size)(sp:Nat->Bool)(hs:∀x∈ps,sp x.block):DataW.Trod enc Tryz.prog W' 0 sp true 22 v d ps:=
 WideElems.Trod_stays laidOut bv (Mv bv) h (λx hx=>hb.same (F x hx)) hs
end
end
section
set_option maxRecDepth 100000
set_option maxHeartbeats 0
variable{W:Words}{x0 x1 x2 x3:O}{m:M}{R:ν->M->Nat->Prop}
def F83:=cN (P:=dB TE W f83 [x0,x1] m R)
def F82:=cN (P:=dB TE W f82 [x0,x1,x2,x3] m R)
def F129:=cN (P:=dB TE W f129 [x0,x1] m R)
def F130:=cN (P:=dB TE W f130 [x0,x1] m R)
def F95:=cN (P:=dB TE W f95 [x0] m R)
def F29{X:aF}{x0 x1:O}{m:M}{R:ν->M->Nat->Prop}:dB TE (aH TE X) f29 [x0,x1] m R=ς m x1 41 λa=>υ a [ψ 0,ψ 0,ψ 0,ψ 0] 48 λb=>υ b [P6] 4 λc=>jn (λa=>ω X 78 [x0] c λb c d=>ο .not b λb=>iS b (a [VT] c (min m.n d)) (δ c 41 (χ m) λb=>ω X 78 [b] c λb c f=>ο .not b λb=>iS b (a [VT] c (Γ m.n d f)) (δ c 41 (χ m) λb=>ω X 79 [x0,b] c λb c g=>a [b] c (Δ m.n d f g)))) (λc d f=>un c λc _=>iS c (θ 48 [] λc=>ι d 48 (χ a) c λc d=>ι c 4 (χ b) P6 λc g=>aS (aC TE c 48 (χ a)) λa=>aS (aC TE c 4 (χ b)) λb=>R [a,b] c (Γ f d g)) (ω X 80 [x0] d λc d g=>rO c λc h i=>RF TE X c h.toList i.toList d (min f g) (λc f g=>un c λc h=>un h λh i=>N9 i (υ f [ψ 0,ψ 0] 46 λi=>ι i 46 (χ f) c λc i=>υ c [ψ 0,ψ 0] 46 λj=>ι j 46 (χ c) h λh j=>Wo d.n f h λh=>δ h 41 (χ m) λk=>ω X 80 [k] h λk l n=>rO k λk o p=>RF TE X k o.toList p.toList l (Θ f.n i j d.n n) (λd g h=>un d λd i=>un i λi j=>N9 j (υ g [ψ 0,ψ 0] 46 λj=>ι j 46 (χ g) d λd j=>υ d [ψ 0,ψ 0] 46 λk=>ι k 46 (χ d) i λi k=>Wo l.n g i λi=>jn (λa=>δ i 46 (χ f) λb=>δ i 46 (χ c) λh=>δ i 46 (χ g) λn=>ω X 81 [b,h,n] i λb h i=>η .neq 3 b (ψ 0) λb=>iS b (a [VT] h (Θ g.n j k l.n i)) (δ h 46 (χ f) λb=>δ h 46 (χ c) λc=>δ h 46 (χ d) λd=>ω X 81 [b,c,d] h λb c d=>η .neq 3 b (ψ 0) λb=>a [b] c (Λ g.n j k l.n i d))) (λj k l=>un j λj _=>iS j (h i .normal k l) (δ k 46 (χ f) λj=>δ k 46 (χ c) λn=>δ k 46 (χ g) λg=>δ k 46 (χ d) λd=>ω X 82 [j,n,g,d] k λd g j=>ξ d 0 λk=>ξ d 1 λd=>υ g [ψ 0,ψ 0] 46 λn=>υ n [ψ 0,ψ 0] 46 λo=>ι o 46 (χ g) k λk o=>ι k 46 (χ n) d λd k=>jn (λa=>δ d 46 (χ g) λb=>δ d 46 (χ n) λc=>η .eql 46 b c λb=>iS b (a [VT] d (Δ l j o k)) (δ d 46 (χ g) λb=>δ d 46 (χ n) λc=>ω X 83 [b,c] d λb c d=>η .gtr 3 b (ψ 0) λb=>a [b] c (Θ l j o k d))) (λd j k=>un d λd _=>iS d (h i .normal j k) (δ j 46 (χ f) λd=>δ j 46 (χ c) λc=>ω X 83 [d,c] j λc d f=>η .gtr 3 c (ψ 0) λc=>iS c (δ d 46 (χ n) λc=>δ d 46 (χ g) λj=>ι d 46 (χ g) c λc d=>ι c 46 (χ n) j λc j=>δ c 46 (χ g) λg=>δ c 46 (χ n) λl=>θ 48 [(0,g),(1,l)] λg=>ι c 48 (χ a) g λa c=>ι a 4 (χ b) VT λa b=>h i .ret a (Λ k f d j c b)) (δ d 46 (χ g) λc=>δ d 46 (χ n) λg=>θ 48 [(0,c),(1,g)] λc=>ι d 48 (χ a) c λa c=>ι a 4 (χ b) VT λa b=>h i .ret a (Δ k f c b)))))))) (λa b=>g h .normal a b) [(.ret,λa b=>g h .ret a b)])) (λc d=>θ 48 [] λf=>ι c 48 (χ a) f λc f=>ι c 4 (χ b) P6 λc g=>aS (aC TE c 48 (χ a)) λa=>aS (aC TE c 4 (χ b)) λb=>R [a,b] c (Γ d f g)) [(.ret,λc d=>aS (aC TE c 48 (χ a)) λa=>aS (aC TE c 4 (χ b)) λb=>R [a,b] c d)])):=bv
end
theorem cq.lt(h:cq us):∀(d i:Nat) (a b:Un),us[i]?=some a->us[i+d+1]?=some b->a.id<b.id
 |0,i,a,b,F,hb=>h.ym i a b F hb
 |d+1,i,a,b,F,hb=>by obtain⟨c,hc⟩:∃c,us[i+d+1]?=some c:=⟨_,QC J⟩;have h1:=h.lt d i a c F hc;have h2:=h.ym (i+d+1) c b hc J;omega
def cq.XF(h:cq us){i k:Nat}{a b:Un}(F:i<k)(ha:us[i]?=some a)(hb:us[k]?=some b):a.id<b.id:=
 h.lt (k-i-1) i a b ha J
def Bc(hX:cp X)(u:Un)(w:O)(id:Int):xw X 209 [u.v w,I id] m (I (dt u.id id)) m:=by apply Cl.fl hX (U5 func209);rw[F209];dsimp only[aH];refine ah λm1 b0 F d0=>?_;simp only[bd]at F;have F:m1.get m.n=.cells (u.c w) 43 none:=F;have⟨l0,_⟩:=kS F;unfold ptrTo;rw[aW,Y,l0,Y];apply aw (gj hX _ _);exact⟨rfl,Z⟩
def shr_u{a:Int}:bE TE .shr 220 (.int .u64 a) (.int .u64 1)=some (.int .u64 (a.fdiv 2)):=bv
def Wk:bE TE .shr 220 (.int .u64 (n:Int)) (.int .u64 1)=some (.int .u64 ((n/2:Nat):Int)):=by rw[shr_u,Int.fdiv_eq_ediv_of_nonneg _ Z];rfl
def Wd(h:n<1000):IntKind.wrap .u64 (n:Int)=n:=by have e:IntKind.u64.wrap (n:Int)=(n:Int)%18446744073709551616:=(by unfold IntKind.wrap;simp[IntKind.bits,IntKind.signed]);grind
def ad6(hX:cp X){l:List UW}{v:O}(h:Sl m l v)(hP:cq (bH l))(id:Int):
  ∃(i:Nat) (is:Bool),xw X 208 [v,I id,.func (.func 209) #[] #[]] m (.tuple #[I i,.bool is]) m/\(is->∃x,l[i]?=some x/\x.u.id=id)/\(is=false->∀x∈l,x.u.id≠id):=by have hl:l.length<=12:=(by have:=hP.len;rwa[cx]at this);have key:∃rv m' b,C X (.func 208) [v,I id,.func (.func 209) #[] #[]] m b rv m'/\(m'=m/\b=m.n/\∃(i:Nat) (is:Bool),rv=.tuple #[I i,.bool is]/\(is->∃x,l[i]?=some x/\x.u.id=id)/\(is=false->∀x∈l,x.u.id≠id)):=(by refine Cl.gen (R:=λrv m' b=>m'=m/\b=m.n/\∃(i:Nat) (is:Bool),rv=.tuple #[I i,.bool is]/\(is->∃x,l[i]?=some x/\x.u.id=id)/\(is=false->∀x∈l,x.u.id≠id)) (hX.no _ rfl) (U5 func208) rfl ?_;rw[F208];dsimp only[aH];rw[h.len cY,an];refine Lp.intro (γ:=Nat×Nat) (λs=>s.2-s.1) (λs vs mm lo=>vs=[I s.1,I s.2]/\s.1<=s.2/\s.2<=l.length/\m=mm/\m.n<=lo/\(∀k x,k<s.1->l[k]?=some x->x.u.id<id)/\∀k x,s.2<=k->l[k]?=some x->id<=x.u.id) (0,l.length) ⟨rfl,Vw _,R8 _,rfl,R8 _,λk x hk=>Z,J⟩ ?_;rintro⟨i,j⟩ vs mm lo ⟨rfl,l0,hj,rfl,n0,d0,b0⟩;dsimp only at l0 hj d0 b0⊢;rw[av,av,aK,Y,ag];refine af (λF=>?_) (λg0=>?_);have F:i<j:=J;obtain⟨x,hx⟩:∃x,l[(i+j)/2]?=some x:=⟨_,wo⟩;have⟨a,e1,e2,_⟩:=h.gR (k:=.i64) hx;have h0:=kg hx;rw[aO,Y,wrap64,show(i:Int)+(j:Int)=((i+j:Nat):Int) by omega,C0,Wd Z,Y,Wk,Y,C1,wrap64,Y,e1,Y,e2,Y,cj];apply aw (Bc hX x.u x.w id);rw[aK,Y,ag];have e0:∀k y,l[k]?=some y->(k<(i+j)/2->y.u.id<x.u.id)/\((i+j)/2<k->x.u.id<y.u.id):=λk y hk=>⟨λF=>hP.XF F (kg hk) h0,λF=>hP.XF F h0 (kg hk)⟩;refine af (λhc=>?_) (λhc=>?_);have hc:x.u.id<id:=(by unfold dt at hc;by_cases h1:x.u.id<id;exact h1;rw[ND h1]at hc;split at hc <;>simp at hc);rw[aO,Y,wrap64];refine⟨((i+j)/2+1,j),J,J,J,hj,rfl,Z,λk y hk hy=>?_,b0⟩;by_cases e:k=(i+j)/2;subst e;rw[hx]at hy;cases hy;exact hc;have:=(e0 k y hy).1 J;omega;have hc:id<=x.u.id:=(by unfold dt at hc;by_cases h1:x.u.id<id;rw[UG h1]at hc;simp at hc;omega);refine⟨(i,(i+j)/2),J,rfl,J,J,rfl,Z,d0,λk y hk hy=>?_⟩;by_cases e:k=(i+j)/2;subst e;rw[hx]at hy;cases hy;exact hc;have:=(e0 k y hy).2 J;omega;have i0:i=j:=(by have:¬(i:Int)< (j:Int):=J;omega);subst i0;refine xr (λvs m' j0=>∃is,vs=[I i,.bool is]/\m=m'/\m.n<=j0/\(is->∃x,l[i]?=some x/\x.u.id=id)/\(is=false->∀x∈l,x.u.id≠id)) (λR hR=>?_) ?_;rw[aK,Y,ag];refine af (λF=>?_) (λg0=>?_);have F:i<l.length:=J;obtain⟨x,hx⟩:∃x,l[i]?=some x:=⟨_,QC F⟩;have⟨a,e1,e2,_⟩:=h.gR (k:=.i64) hx;rw[e1,Y,e2,Y,cj];apply aw (Bc hX x.u x.w id);rw[aJ,Y];refine hR ⟨_,rfl,rfl,Z,λhe=>⟨x,hx,?_⟩,λhe y hy o0=>?_⟩;have he:dt x.u.id id=0:=J;unfold dt at he;by_cases h1:x.u.id<id;rw[UG h1]at he;omega;rw[ND h1]at he;by_cases h2:id<x.u.id;rw[UG h2]at he;omega;omega;have he:¬dt x.u.id id=0:=J;have⟨k,hk⟩:=MI hy;by_cases e:k=i;subst e;rw[hx]at hk;cases hk;apply he;unfold dt;rw[iJ,iJ];by_cases e2:k<i;have:=d0 k y e2 hk;omega;have:=b0 i x (R8 _) hx;have:=hP.XF (show i<k by omega) (kg hx) (kg hk);omega;have g0:l.length<=i:=(by have:¬(i:Int)< (l.length:Int):=J;omega);refine hR ⟨false,rfl,rfl,n0,λh=>(by cases h),λ_ y hy o0=>?_⟩;have⟨k,hk⟩:=MI hy;have:=d0 k y J hk;omega;rintro _ _ j0 ⟨is,rfl,rfl,k0,h1,h2⟩;rw[av,av];exact .inl ⟨rfl,k0,rfl,rfl,i,is,rfl,h1,h2⟩);obtain⟨rv,m',b,hc,rfl,rfl,i,is,rfl,h1,h2⟩:=key;exact⟨i,is,hc,h1,h2⟩
def oG{u:Un}(h:kR u):bO u.shape:=by simp only[kR,G4]at h;grind
def cz(us:List Un)(id:Int):Option Un:=us.find? λu=>decide (u.id=id)
def qe(hP:cq us){i:Nat}{a:Un}(h:us[i]?=some a):cz us a.id=some a:=by unfold cz;cases e:us.find? λu=>decide (u.id=a.id)with|none=>grind|some b=>have h1:=VI e;have h1:b.id=a.id:=J;have⟨k,hk⟩:=MI (Se e);rcases TJ i k with F|rfl|F;have:=hP.XF F h hk;omega;grind;have:=hP.XF F hk h;omega
def vS{id:Int}(h:∀u∈us,u.id≠id):cz us id=none:=by unfold cz;grind
def eT{id:Int}{u:Un}(h:cz us id=some u):u∈us/\u.id=id:=by unfold cz at h;grind
def Sw(hX:cp X){l:List UW}{v:O}(h:cD m l v)(hP:cq (bH l))(id:Int):
  ∃ov m',xw X 161 [.agg #[v],I id] m (.tuple #[ov,.bool (cz (bH l) id).isSome]) m'/\Ext m m'/\N7 m' (cz (bH l) id) ov/\(∀u,cz (bH l) id=some u->∃w,ov=u.v w/\Ow m.n m' u.shape w):=by
 have hl:l.length<=12:=(by have:=hP.len;rwa[cx]at this)
 have key:∃rv m' b,C X (.func 161) [.agg #[v],I id] m b rv m'/\b=m.n/\∃ov,rv=.tuple #[ov,.bool (cz (bH l) id).isSome]/\Ext m m'/\N7 m' (cz (bH l) id) ov/\(∀u,cz (bH l) id=some u->∃w,ov=u.v w/\Ow m.n m' u.shape w):=(by refine Cl.gen (R:=λrv m' b=>b=m.n/\∃ov,rv=.tuple #[ov,.bool (cz (bH l) id).isSome]/\Ext m m'/\N7 m' (cz (bH l) id) ov/\(∀u,cz (bH l) id=some u->∃w,ov=u.v w/\Ow m.n m' u.shape w)) (hX.no _ rfl) (U5 func161) rfl ?_;rw[F161];dsimp only[aH];refine ah λm1 B1 b1 G1=>?_;refine ah λm2 H1 s0 c1=>?_;have u0:Ext m m2:=⟨Z,J⟩;have g1:m2.get m.n=.cells [v] 29 none:=(by rw[c1 _ Z];exact b1);have hF:=h.ak u0;unfold ptrTo;rw[cW,aI g1 co];simp only[Mf,SF,N2,F4,Y];apply aw (uD hX hF Z);rw[fg hP,bB,Y,ag,No,aT,bk,Y,dV,aG g1];simp only[Jf,XW,Y];have⟨i,is,hc,y0,d1⟩:=ad6 (m:=m2) hX hF.sl hP id;apply aw hc;rw[aE,aE];simp only[XW,Q7,Y];rw[bB,Y,ag];refine af (λhb=>?_) (λhb=>?_);have o0:is=false:=J;have e:cz (bH l) id=none:=vS λu hu=>(by obtain⟨x,hx,rfl⟩:=rX hu;exact d1 o0 x hx);rw[e];have i1:bz TE 43 []=some (.agg Un.zc.toArray):=qo;rw[i1,Y];refine aj dO s0 rfl rfl rfl λm9 K1 j1 L1=>?_;rw[oO,aI j1 (by simp[bd])];refine .inl ⟨bv,Z,trivial,_,rfl,.refl,rfl,λu h=>by cases h⟩;have o0:is:=J;obtain⟨x,hx,rfl⟩:=y0 o0;rw[qe hP (kg hx)];have⟨a,e1,e2,A0⟩:=hF.sl.gR (k:=.i64) hx;have B0:=QP hx;have hv:=(oG (hP.val x.u (Ja.2 ⟨x,B0,rfl⟩)));have O0:=dM hv;have k1:aC TE m2 27 (Ω m.n 0)=some v:=(by rw[dV,aG g1];rfl);rw[k1,Y,e1,Y,e2,Y];refine ah λO1 r1 P0 u1=>?_;refine aj dO P0 rfl rfl (Un.dp A0) λp0 v1 d0 w1=>?_;have d0:p0.get m2.n=.cells x.c 43 none:=d0;have g0:Ext m2 p0:=⟨Z,J⟩;obtain⟨-, -, -,l3, -, -⟩:=kS d0;rw[bA,Y,l3,Y];obtain⟨w',l1,Q0,F,e0⟩:=rf (m:=p0) hX ((hF.sh x B0).ak g0) J Z;apply aw Q0;have n34:=e0.n;have o7:one w':=F.sl.one;have q0:=e0.cells d0;rw[Y];refine bS uN q0 (by rw[F.sl.cells];rfl) (by rw[F.sl.cells];show 3+1<=6;omega) (by rw[F.sl.cells];simp[o7]) λa1 y1 i0 b0=>?_;have i0:a1.get m2.n=.cells (x.u.c w') 43 none:=(by rw[i0,F.sl.cells];rfl);rw[bQ i0,Y];have j0:a1.get m1.n=.cells Un.zc 43 none:=(by rw[b0 _ Z,e0.get _ Z,g0.get _ Z,s0]);refine aj dO j0 rfl rfl (Un.dp o7) λk0 A1 l0 n0=>?_;have l0:k0.get m1.n=.cells (x.u.c w') 43 none:=l0;rw[bQ l0,Y];have o1:Sl k0 x.u.shape w':=F.sl.aX λb c t g hb ht=>(by have h1:b≠m2.n:=λe=>(by subst e;rw[q0]at hb;cases hb;simp[aL.ty,aL.dN]at ht);rw[n0 b (λe=>by subst e;rw[<-b0 _ h1,j0]at hb;cases hb;simp[aL.ty,aL.dN]at ht),b0 b h1,hb]);have r0:∀b c t g,l1.get b=.cells c t g->t∈aL.ty Pl::aL.dN Pl->k0.get b=.cells c t g:=λb c t g hb ht=>(by have h1:b≠m2.n:=λe=>(by subst e;rw[q0]at hb;cases hb;simp[aL.ty,aL.dN]at ht);rw[n0 b (λe=>by subst e;rw[<-b0 _ h1,j0]at hb;cases hb;simp[aL.ty,aL.dN]at ht),b0 b h1,hb]);have Q1:Ow m.n k0 x.u.shape w':=(F.mono J).aX r0;have p1:Ext m k0:=⟨J,λc hc=>by rw[n0 c Z,b0 c Z,e0.get c J,g0.get c Z,u0.get c hc]⟩;rcases F with⟨_,h0⟩|⟨b,cs,rfl,_⟩;rw[h0]at O0;simp at O0;exact .inr ⟨.inl (by simp[aP,aZ,ep,bL]),Z,_,rfl,p1,⟨_,rfl,o1⟩,J⟩);obtain⟨rv,m',b,hc,rfl,ov,rfl,h1,h2,h3⟩:=key
 exact⟨ov,m',hc,h1,h2,h3⟩
def Lm(hX:cp X){l:List UW}{v:O}(h:cD m l v)(hP:cq (bH l))(id:Int):
  ∃F m',xw X 161 [.agg #[v],I id] m (.tuple #[F,.bool (cz (bH l) id).isSome]) m'/\Ext m m'/\N7 m' (cz (bH l) id) F:=by obtain⟨F,m',h1,h2,h3, -⟩:=Sw hX h hP id;grind
section
open Go Go.D Go.yn Go.Proofs.Tryz
def cq.find(h:cq us){u:Un}(hu:u∈us):cz us u.id=some u:=by have⟨i,hi⟩:=MI hu;exact qe h hi
end
section
variable {X:aF} {m:M}
section
variable {α:Type} [aL α] {T:TypeId} {ti:TI}
def lz{x:α}{cs:ν}{b:Nat}{g:Option Nat}(h:m.get b=.cells cs (aL.ty α) g)(F:aL.rep m x cs):Sl m [x] (Hr b 0 1 1):=
 .inr ⟨b,0,1,_,g,rfl,h,by rw[aL.len F];simp,λi y hi=>by match i with|0=>cases hi;have hl:=aL.len F;grind|i+1=>cases hi⟩
def HP{m:M}{e k sc:Nat}{news:ν}(h:oU m e k base sl sc F news=some (v',m1)):v'=Hr m.n 0 F F:=by unfold oU at h;grind
theorem ni{E:Env}{m:M}{T U:TypeId}{x:O}(h:aR E (m.wl m.n) .append [T,U] [.slice base sl F,x]=some (v',m1))(hn:kC x=some n)(e0:F<sl+n):
  v'=Hr m.n 0 (sl+n) (sl+n):=by have h:eD E (m.wl m.n) T U (.slice base sl F) x=some (v',m1):=h;unfold eD at h;rw[hn]at h;split at h;rename_i ti ui b0 g0 h0 n' _ _ hs d0;(cases hs;cases d0;split at h;cases h;rename_i e _ _;(cases h1:E.ty.get e with|none=>simp only[h1]at h;cases h|some ei=>cases h2:first? (m.wl m.n) ti.es n x with|none=>simp only[h1,h2]at h;cases h|some news=>simp only[h1,h2]at h;cases h3:(Nat.beq ti.es 0 ||Nat.blt 65536 ei.bytes || !news.all one ||Nat.blt 268435456 (sl+n) || !Nat.beq news.length (n*ti.es) || !iM ei.zero ti.es)with|true=>rw[h3,gc]at h;cases h|false=>rw[h3,I2]at h;have h4:Nat.ble (sl+n) F=false:=(by cases hb:Nat.ble (sl+n) F with|false=>rfl|true=>have:=Jg hb;omega);rw[h4,I2]at h;exact(HP h).trans rfl);cases h);cases h
def BT(hT:vp TE T α)(k0:aL.dN α=[])(t1:TE.ty.get T=some ti)(t2:ti.size=1){n1 oc o:Nat}{cs:ν}{tc:TypeId}{g:Option Nat}{r a:O}{x:α}{m1:M}{acc:List α}
  (hc:m.get oc=.cells cs tc g) (ho:cs[o]?=some r) (l0:oc<n1) (hn:n1<=m.n) (hw:Ow n1 m acc r) (hx:Ext m m1) (hs:Sl m1 [x] a) (p0:acc.length<1000000):
  ∃F m2 m3,((∃k,F=Hr m1.n 0 k k)/\∀c,c<m1.n->c≠oc->(∀ad n k,r=.slice (some ad) n k->c≠ad.block)->m3.get c=m1.get c)/\aR TE (M.wl m1 (M.n m1)) .append [T,T] [r,a]=some (F,m2)/\bh TE m2 T (Ω oc o) F=some (m3,oc)/\n1<=m2.low/\m3.get oc=.cells (cs.set o F) tc g/\Ow n1 m3 (acc++ [x]) F/\m1.n<=m3.n/\(∀c,c<n1->c≠oc->m3.get c=m.get c)/\(∀c,c<m1.n->c≠oc->(∀cs g,m1.get c≠.cells cs (aL.ty α) g)->m3.get c=m1.get c):=by have q0:=M.aM hc;have r0:=hx.n;have e0:=hw.ak hx;obtain⟨F,m2,e1,h1,h2,h3,h4⟩:=e0.append hT J hs Z J;have s0:=h2.n;have g2:m2.get oc=.cells cs tc g:=(by rw[h2.get _ l0,hx.cells hc]);have g0:o<cs.length:=(Nr.1 ho).1;have h0:=wF (E:=TE) (o:=o) (x:=F) t1 g2 (by rw[h1.sl.cells,t2];rfl) (by rw[h1.sl.cells];simp;omega) (by rw[h1.sl.cells];simp[h1.sl.one]);have i0:cs.take o++(cells F++cs.drop (o+(cells F).length))=cs.set o F:=(by rw[h1.sl.cells];exact np g0);rw[i0]at h0;have hk:∀c,c≠oc->(m2.set oc (.cells (cs.set o F) tc g)).get c=m2.get c:=λc hc=>M.dY hc;have n0:∃k,F=Hr m1.n 0 k k:=(by obtain⟨ba,bc,rfl⟩:=hs.form;rcases hw with⟨rfl,_⟩|⟨b,o0,rfl,_⟩;exact⟨_,ni e1 rfl co⟩;exact⟨_,ni e1 rfl co⟩);refine⟨F,m2,_,⟨n0,λc b0 d0 j0=>by rw[hk c d0,il e1 b0 j0]⟩,e1,h0,h3,M.get_set_same (M.aM g2),h1.xI k0 λc b0 d0=>hk c Z,?_,λc b0 d0=>?_,λc b0 d0 j0=>?_⟩;show m1.n<=m2.n;grind;rw[hk c d0,h2.get c b0,hx.get c Z];rw[hk c d0,il e1 b0 λad n k e he=>?_];have⟨o0,g',u0,_⟩:=Cb e0 e;grind
def Qm(hT:vp TE T α)(b0:aL.dN α=[])(t1:TE.ty.get T=some ti)(t2:ti.size=1){n1 F o:Nat}{cs:ν}{tc:TypeId}{g:Option Nat}{r a:O}{x:α}{m1:M}{acc:List α}
  (hc:m.get F=.cells cs tc g) (ho:cs[o]?=some r) (d0:F<n1) (hn:n1<=m.n) (hw:Ow n1 m acc r) (hx:Ext m m1) (hs:Sl m1 [x] a) (e0:acc.length<1000000):
  ∃r' m2 m3,aR TE (M.wl m1 (M.n m1)) .append [T,T] [r,a]=some (r',m2)/\bh TE m2 T (Ω F o) r'=some (m3,F)/\n1<=m2.low/\m3.get F=.cells (cs.set o r') tc g/\Ow n1 m3 (acc++ [x]) r'/\m1.n<=m3.n/\(∀c,c<n1->c≠F->m3.get c=m.get c)/\(∀c,c<m1.n->c≠F->(∀cs g,m1.get c≠.cells cs (aL.ty α) g)->m3.get c=m1.get c):=by have⟨r',m2,m3,_,h⟩:=BT hT b0 t1 t2 hc ho d0 hn hw hx hs e0;grind
end
structure Fc where
 un:Int
 side:Int
deriving DecidableEq
abbrev Fc.c(f:Fc):ν:=[.int .i64 f.un,.int .i64 f.side]
abbrev Fc.v(f:Fc):O:=.agg (f.c).toArray
instance:aL Fc where
 ty:=103
 sz:=2
 agg:=true
 dN:=[]
 rep _ f cs:=cs=f.c
 pos:=ce
 one:=J
 len:=J
 iy:=by rintro _ _ _ rfl;rfl
 aX:=J
def lv:qs TE 34 103 Fc:=⟨ai.t34,ai.t103,bv,⟨_,rfl⟩,rfl,bv,rfl,rfl⟩
def Gq:vp TE 34 Fc:=⟨ai.t34,ai.t103,bv,rfl,rfl,bv,ce,rfl⟩
end
section
def vB(p q:Pl):Int:=if dt p.x q.x=0 then dt p.y q.y else dt p.x q.x
def iH(p q:Pl):Pl:=if vB q p < 0 then q else p
def HM(p q:Pl):Pl:=if vB q p < 0 then p else q
def HC(p q:Pl):Pl:=if 0 < vB q p then q else p
def HA(p q:Pl):Pl:=if vB q p < 0 then q else p
def rG(p q r s:Pl):Pl:=HC (iH p q) (iH r s)
def Od(p q r s:Pl):Pl:=HA (HM p q) (HM r s)
def nxP(l:List Pl)(i:Nat):Pl:=jF l ((i+1)%l.length)
def Gn{l:List Pl}{p:Pl}(h:l[i]?=some p):jF l i=p:=by unfold jF;rw[h];rfl
def wI(p q r s:Pl):Option (Pl×Pl):=
 if dW p q r≠0\/dW p q s≠0 then none
 else if rG p q r s=Od p q r s\/0 < vB (rG p q r s) (Od p q r s)then none
 else if 0 < vB p q then some (Od p q r s,rG p q r s)else some (rG p q r s,Od p q r s)
def Kr(a b:List Pl)(i:Nat):Option (Pl×Pl):=(List.range b.length).findSome? λk=>wI (jF a i) (nxP a i) (jF b k) (nxP b k)
def BH(a b:List Pl):Option (Pl×Pl):=(List.range a.length).findSome? λi=>Kr a b i
def pQ(a b:List Pl):Option (Pl×Pl):=if bO a && bO b && !ia a b then BH a b else none
structure Ct where
 a:Int
 b:Int
 p:Pl
 q:Pl
 back:Int
 front:Int
deriving DecidableEq
def se(u v:Un):Option Ct:=if mP u v then(pQ u.shape v.shape).map λs=>⟨u.id,v.id,s.1,s.2,max u.back v.back,min u.front v.front⟩else none
end
abbrev Ct.c'(x:Ct):ν:=[.int .i64 x.a,.int .i64 x.b,.int .i64 x.p.x,.int .i64 x.p.y,.int .i64 x.q.x,.int .i64 x.q.y,.int .i64 x.back,.int .i64 x.front]
abbrev Ct.v(x:Ct):O:=.agg (x.c').toArray
abbrev Ct.zc:ν:=[.int .i64 0,.int .i64 0,.int .i64 0,.int .i64 0,.int .i64 0,.int .i64 0,.int .i64 0,.int .i64 0]
instance:aL Ct where
 ty:=50
 sz:=8
 agg:=true
 dN:=[]
 rep _ x cs:=cs=x.c'
 pos:=ce
 one:=J
 len:=dg
 iy:=by rintro _ _ _ rfl;rfl
 aX:=J
def IX:qs TE 117 50 Ct:=⟨ai.t117,ai.t50,bv,⟨_,rfl⟩,rfl,bv,rfl,rfl⟩
def J8:vp TE 117 Ct:=⟨ai.t117,ai.t50,bv,rfl,rfl,bv,ce,rfl⟩
structure Mk where
 id:Int
 un:Int
 side:Int
 kind:Int
 DB:Bool
deriving DecidableEq
abbrev Mk.c(x:Mk):ν:=[.int .i64 x.id,.int .i64 x.un,.int .i64 x.side,.int .i64 x.kind,.bool x.DB]
abbrev Mk.v(x:Mk):O:=.agg (x.c).toArray
instance:aL Mk where
 ty:=68
 sz:=5
 agg:=true
 dN:=[]
 rep _ x cs:=cs=x.c
 pos:=ce
 one:=J
 len:=dg
 iy:=by rintro _ _ _ rfl;rfl
 aX:=J
def cJ:qs TE 30 68 Mk:=⟨ai.t30,ai.t68,bv,⟨_,rfl⟩,rfl,bv,rfl,rfl⟩
def pH:vp TE 30 Mk:=⟨ai.t30,ai.t68,bv,rfl,rfl,bv,ce,rfl⟩
end Go.Proofs.YthffgohpkjpkbaaGreatDoor
namespace Go.D
open Go
section
variable{P:Program}{σ:Sg}{m:M}{w w':World}
def Ev.kept(h:eW P σ m w)(hk:∀B,B<w.heap.size->w'.heap[B]?=w.heap[B]?)(hle:w.heap.size<=w'.heap.size)(ho:w'.os=w.os)(ht:w'.tape=w.tape)(hu:w'.output=w.output):Ev P σ m w σ m w':=⟨λ_ _ x=>x,⟨h.vd,λb i F=>(h.obj b i F).aX (λ_ _ x=>x) (hk _ (h.lt b i F)),λb i F=>Z1 (h.lt b i F) hle,h.inj,h.mI⟩,R8 _,R8 _,hle,λb i x y=>J,λ_ _ _=>rfl,λB hB _=>hk B hB,ho,ht,hu⟩
def ins(x:Int):List Int->List Int
 |[]=> [x]
 |y::l=>bif x<=y then x::y::l else y::ins x l
end
section
section
variable {P:Program} {σ:Sg} {m m':M} {w w':World}
def LK.MC{b:Nat}{cs:ν}{e:TypeId}{g:Option Nat}{o:Ob}(h:m.get b=.cells cs e g):LK m (m.set b o):=λc r hc=>by have hb:b<m.n:=M.oh J;have F:c≠b:=J;exact⟨r,by rw[M.cF _ _ _ _ hb,ND F];exact hc⟩
variable {α:Type}
