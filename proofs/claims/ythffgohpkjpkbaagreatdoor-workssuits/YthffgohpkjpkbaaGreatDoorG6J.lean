/- What functions of the program .. -/
import Derived.Test.YthffgohpkjpkbaaGreatDoorBtJ
import Derived.Sort.Grow
set_option linter.defProp false
set_option maxRecDepth 100000
open Go Go.D Go.Proofs.Tryz
namespace Go.Proofs.YthffgohpkjpkbaaGreatDoor
variable{m:M}{R:Ω->M->Nat->Prop}
section
set_option maxRecDepth 100000
set_option maxHeartbeats 0
variable{W:Words}{x0 x1 x2:Φ}{m:M}{R:Ω->M->Nat->Prop}
def F234:=cN (P:=dC TE W f234 [x0] m R)
def F191:=cN (P:=dC TE W f191 [x0,x1,x2] m R)
def F188:=cN (P:=dC TE W f188 [x0] m R)
def F235:=cN (P:=dC TE W f235 [x0,x1] m R)
def F236:=cN (P:=dC TE W f236 [x0] m R)
abbrev δ:=λa b c=>aS (aC TE a b c)
abbrev ε:=λa b c=>aS (az TE a b c)
abbrev ζ:=λa b c=>aS (aE TE a b c)
abbrev η:=λa b c d=>aS (bE TE a b c d)
abbrev θ:=λa b=>aS (bz TE a b)
abbrev ι:=λa b c d=>dh (bh TE a b c d)
abbrev κ:=λa b c d=>dh (aR TE a b c d)
abbrev aeg:=λa b c d=>dh (aO TE a b c d)
abbrev ξ:=λa b=>aS (mB a b)
abbrev ο:=λa b=>aS (C9 a b)
abbrev ς:=λ(m:M) (x:Φ) (t:Nat)=>nf (M.push m (.cells (cells x) t none))
abbrev υ:=λ(m:M) (l:Ω) (t:Nat)=>nf (M.push m (.cells l t none))
abbrev χ:=λm:M=>ptrTo m.n
abbrev ψ:=Value.int .i64
abbrev ω:=λ(X:aF) (f:Nat)=>lV TE X (.func f)
abbrev Γ:=λa b c:Nat=>(min (min a b) c)
abbrev Δ:=λa b c d:Nat=>(min (min (min a b) c) d)
abbrev Θ:=λa b c d e:Nat=>(min (min (min (min a b) c) d) e)
abbrev Λ:=λa b c d e f:Nat=>(min (min (min (min (min a b) c) d) e) f)
abbrev Ξ:=λa b c d e f g:Nat=>(min (min (min (min (min (min a b) c) d) e) f) g)
abbrev aed:=λa b c d e f g h:Nat=>(min (min (min (min (min (min (min a b) c) d) e) f) g) h)
abbrev aeb:=λa b c d e f g h i:Nat=>(min (min (min (min (min (min (min (min a b) c) d) e) f) g) h) i)
abbrev aee:=λa b c d e f g h i j:Nat=>(min (min (min (min (min (min (min (min (min a b) c) d) e) f) g) h) i) j)
abbrev aaa:=λa b c d e f g h i j k:Nat=>(min (min (min (min (min (min (min (min (min (min a b) c) d) e) f) g) h) i) j) k)
abbrev aab:=λa b c d e f g h i j k l:Nat=>(min (min (min (min (min (min (min (min (min (min (min a b) c) d) e) f) g) h) i) j) k) l)
abbrev aac:=λa b c d e f g h i j k l m:Nat=>(min (min (min (min (min (min (min (min (min (min (min (min a b) c) d) e) f) g) h) i) j) k) l) m)
abbrev aad:=λa b c d e f g h i j k l m n:Nat=>(min (min (min (min (min (min (min (min (min (min (min (min (min a b) c) d) e) f) g) h) i) j) k) l) m) n)
abbrev QK:=λ(W:Words) a b c=>W.aS (aC TE a b c)
abbrev Nx:=λ(W:Words) a b c=>W.aS (az TE a b c)
abbrev PJ:=λ(W:Words) a b c=>W.aS (aE TE a b c)
abbrev TT:=λ(W:Words) a b c d=>W.aS (bE TE a b c d)
abbrev TJ:=λ(W:Words) a b=>W.aS (bz TE a b)
abbrev Vb:=λ(W:Words) a b c d=>W.dh (bh TE a b c d)
abbrev Vs:=λ(W:Words) a b c d=>W.dh (aR TE a b c d)
abbrev No:=λ(W:Words) a b c d=>W.dh (aO TE a b c d)
abbrev aam:=λ(W:Words) a b=>W.aS (mB a b)
abbrev RM:=λ(W:Words) a b=>W.aS (C9 a b)
abbrev aao:=λ(W:Words) (m:M) (x:Φ) (t:Nat)=>W.nf (M.push m (.cells (cells x) t none))
abbrev Zw:=λ(W:Words) (m:M) (l:Ω) (t:Nat)=>W.nf (M.push m (.cells l t none))
abbrev Rq:=λm:M=>ptrTo m.n
abbrev Mh:=Value.int .i64
abbrev vg:=λ(W:Words) (f:Nat)=>W.lV (.func f)
def F189{W:Words}{x0 x1:Φ}{m:M}{R:Ω->M->Nat->Prop}:dC TE W f189 [x0,x1] m R=W.jn (λa=>vg W 188 [x0] m λb c d=>RM W .not b λb=>iU b (a [WB] c (min m.n d)) (vg W 188 [x1] c λb c f=>RM W .not b λb=>a [b] c (Γ m.n d f))) (λa b c=>W.un a λa _=>iU a (R [L4] b c) (vg W 236 [x0] b λa b d=>vg W 236 [x1] b λb f g=>Vs W (M.wl f f.n) .append [303,303] [a,b] λa b=>W.Lp (λb c d f=>W.un c λc g=>W.un g λg _=>Vs W d .len [303] [a] λh _=>TT W .lss 3 g h λh=>iU h (TT W .add 3 g (Mh 1) λh=>W.Lp (λc d f h=>W.un d λd i=>W.un i λi _=>Vs W f .len [303] [a] λj _=>TT W .lss 3 i j λj=>iU j (PJ W 303 a g λb=>Nx W 307 b 1 λb=>QK W f 3 b λb=>PJ W 303 a i λj=>Nx W 307 j 2 λj=>QK W f 3 j λj=>TT W .mul 3 b j λb=>PJ W 303 a i λj=>Nx W 307 j 1 λj=>QK W f 3 j λj=>PJ W 303 a g λk=>Nx W 307 k 2 λk=>QK W f 3 k λk=>TT W .mul 3 j k λj=>TT W .sub 3 b j λb=>PJ W 303 a g λj=>Nx W 307 j 2 λj=>QK W f 3 j λj=>PJ W 303 a i λk=>Nx W 307 k 0 λk=>QK W f 3 k λk=>TT W .mul 3 j k λj=>PJ W 303 a i λk=>Nx W 307 k 2 λk=>QK W f 3 k λk=>PJ W 303 a g λl=>Nx W 307 l 0 λl=>QK W f 3 l λl=>TT W .mul 3 k l λk=>TT W .sub 3 j k λj=>PJ W 303 a g λk=>Nx W 307 k 0 λk=>QK W f 3 k λk=>PJ W 303 a i λl=>Nx W 307 l 1 λl=>QK W f 3 l λl=>TT W .mul 3 k l λk=>PJ W 303 a i λl=>Nx W 307 l 0 λl=>QK W f 3 l λl=>PJ W 303 a g λg=>Nx W 307 g 1 λg=>QK W f 3 g λg=>TT W .mul 3 l g λg=>TT W .sub 3 k g λg=>TJ W 309 [(0,b),(1,j),(2,g)] λb=>Zw W f [Mh 0,Mh 0,Mh 0] 309 λg=>Vb W g 309 (Rq f) b λb g=>Nx W 309 (Rq f) 2 λj=>QK W b 3 j λj=>TT W .eql 3 j (Mh 0) λj=>iU j (TT W .add 3 i (Mh 1) λa=>c [d,a] b (min h g)) (Nx W 309 (Rq f) 2 λj=>QK W b 3 j λj=>TT W .lss 3 j (Mh 0) λj=>iU j (Nx W 309 (Rq f) 0 λj=>QK W b 3 j λj=>RM W .neg j λj=>Nx W 309 (Rq f) 1 λk=>QK W b 3 k λk=>RM W .neg k λk=>Nx W 309 (Rq f) 2 λl=>QK W b 3 l λl=>RM W .neg l λl=>TJ W 309 [(0,j),(1,k),(2,l)] λj=>Vb W b 309 (Rq f) j λb j=>W.Lp (λb g h j=>W.un g λg k=>W.un k λk _=>Vs W h .len [303] [a] λl _=>TT W .lss 3 k l λl=>iU l (iU g (PJ W 303 a k λc=>Nx W 307 c 0 λc=>QK W h 3 c λc=>Nx W 309 (Rq f) 0 λd=>QK W h 3 d λd=>TT W .mul 3 c d λc=>PJ W 303 a k λd=>Nx W 307 d 1 λd=>QK W h 3 d λd=>Nx W 309 (Rq f) 1 λg=>QK W h 3 g λg=>TT W .mul 3 d g λd=>TT W .add 3 c d λc=>PJ W 303 a k λa=>Nx W 307 a 2 λa=>QK W h 3 a λa=>Nx W 309 (Rq f) 2 λd=>QK W h 3 d λd=>TT W .mul 3 a d λa=>TT W .add 3 c a λa=>TT W .geq 3 a (Mh 0) λa=>TT W .add 3 k (Mh 1) λc=>b [a,c] h j) (TT W .add 3 k (Mh 1) λa=>b [L4,a] h j)) (iU g (QK W h 309 (Rq f) λa=>No W h 305 1 [(0,a)] λa b=>Vs W (M.wl b b.n) .append [305,305] [d,a] λa b=>TT W .add 3 i (Mh 1) λd=>c [a,d] b (min j (M.low b))) (TT W .add 3 i (Mh 1) λa=>c [d,a] h j))) [WB,Mh 0] b (Γ h g j)) (W.Lp (λb g h j=>W.un g λg k=>W.un k λk _=>Vs W h .len [303] [a] λl _=>TT W .lss 3 k l λl=>iU l (iU g (PJ W 303 a k λc=>Nx W 307 c 0 λc=>QK W h 3 c λc=>Nx W 309 (Rq f) 0 λd=>QK W h 3 d λd=>TT W .mul 3 c d λc=>PJ W 303 a k λd=>Nx W 307 d 1 λd=>QK W h 3 d λd=>Nx W 309 (Rq f) 1 λg=>QK W h 3 g λg=>TT W .mul 3 d g λd=>TT W .add 3 c d λc=>PJ W 303 a k λa=>Nx W 307 a 2 λa=>QK W h 3 a λa=>Nx W 309 (Rq f) 2 λd=>QK W h 3 d λd=>TT W .mul 3 a d λa=>TT W .add 3 c a λa=>TT W .geq 3 a (Mh 0) λa=>TT W .add 3 k (Mh 1) λc=>b [a,c] h j) (TT W .add 3 k (Mh 1) λa=>b [L4,a] h j)) (iU g (QK W h 309 (Rq f) λa=>No W h 305 1 [(0,a)] λa b=>Vs W (M.wl b b.n) .append [305,305] [d,a] λa b=>TT W .add 3 i (Mh 1) λd=>c [a,d] b (min j (M.low b))) (TT W .add 3 i (Mh 1) λa=>c [d,a] h j))) [WB,Mh 0] b (min h g)))) (TT W .add 3 g (Mh 1) λa=>b [d,a] f h)) [c,h] d f) (W.Lp (λa b d f=>W.un b λb g=>W.un g λg _=>Vs W d .len [305] [c] λh _=>TT W .lss 3 g h λh=>iU h (W.Lp (λb d f h=>W.un d λd i=>W.un i λi _=>TT W .lss 3 i g λj=>iU j (W.Lp (λa d f h=>W.un d λd j=>W.un j λj _=>TT W .lss 3 j i λk=>iU k (PJ W 305 c g λb=>QK W f 309 b λb=>Zw W f [Mh 0,Mh 0,Mh 0] 309 λg=>Vb W g 309 (Rq f) b λb g=>PJ W 305 c i λi=>QK W b 309 i λi=>Zw W b [Mh 0,Mh 0,Mh 0] 309 λk=>Vb W k 309 (Rq b) i λi k=>PJ W 305 c j λc=>QK W i 309 c λc=>Zw W i [Mh 0,Mh 0,Mh 0] 309 λl=>Vb W l 309 (Rq i) c λc l=>Nx W 309 (Rq f) 0 λn=>QK W c 3 n λn=>Nx W 309 (Rq b) 1 λo=>QK W c 3 o λo=>Nx W 309 (Rq i) 2 λp=>QK W c 3 p λp=>TT W .mul 3 o p λo=>Nx W 309 (Rq b) 2 λp=>QK W c 3 p λp=>Nx W 309 (Rq i) 1 λq=>QK W c 3 q λq=>TT W .mul 3 p q λp=>TT W .sub 3 o p λo=>TT W .mul 3 n o λn=>Nx W 309 (Rq f) 1 λo=>QK W c 3 o λo=>Nx W 309 (Rq b) 0 λp=>QK W c 3 p λp=>Nx W 309 (Rq i) 2 λq=>QK W c 3 q λq=>TT W .mul 3 p q λp=>Nx W 309 (Rq b) 2 λq=>QK W c 3 q λq=>Nx W 309 (Rq i) 0 λr=>QK W c 3 r λr=>TT W .mul 3 q r λq=>TT W .sub 3 p q λp=>TT W .mul 3 o p λo=>TT W .sub 3 n o λn=>Nx W 309 (Rq f) 2 λf=>QK W c 3 f λf=>Nx W 309 (Rq b) 0 λo=>QK W c 3 o λo=>Nx W 309 (Rq i) 1 λp=>QK W c 3 p λp=>TT W .mul 3 o p λo=>Nx W 309 (Rq b) 1 λb=>QK W c 3 b λb=>Nx W 309 (Rq i) 0 λi=>QK W c 3 i λi=>TT W .mul 3 b i λb=>TT W .sub 3 o b λb=>TT W .mul 3 f b λb=>TT W .add 3 n b λb=>TT W .neq 3 b (Mh 0) λb=>iU b (R [WB] c (Δ h g k l)) (TT W .add 3 j (Mh 1) λb=>a [d,b] c (Δ h g k l))) (TT W .add 3 i (Mh 1) λa=>b [d,a] f h)) [d,Mh 0] f h) (TT W .add 3 g (Mh 1) λb=>a [d,b] f h)) [b,Mh 0] d f) (R [L4] d f)) [L4,Mh 0] d f)) [LF,Mh 0] b (Δ c d g (M.low b)))):=bv
def F147:=cN (P:=dC TE W f147 [x0,x1] m R)
def F146:=cN (P:=dC TE W f146 [x0] m R)
def F148:=cN (P:=dC TE W f148 [x0,x1] m R)
def F160:=cN (P:=dC TE W f160 [x0,x1] m R)
def F62:=cN (P:=dC TE W f62 [x0] m R)
def F28:=cN (P:=dC TE W f28 [x0,x1] m R)
def F116:=cN (P:=dC TE W f116 [x0,x1,x2] m R)
def F207:=cN (P:=dC TE W f207 [x0,x1] m R)
def F117{X:aF}{x0:Φ}{m:M}{R:Ω->M->Nat->Prop}:dC TE (aG TE X) f117 [x0] m R=ς m x0 29 λa=>υ a [L4] 4 λb=>ε 29 (χ m) 0 λc=>δ b 27 c λc=>κ b .len [27] [c] λc _=>η .gtr 3 c (ψ 12) λc=>iU c (ι b 4 (χ a) L4 λb c=>aS (aC TE b 4 (χ a)) λa=>R [a] b (min m.n c)) (ε 29 (χ m) 0 λc=>δ b 27 c λc=>κ b .len [27] [c] λd _=>Lp (λb f g h=>un f λf _=>η .lss 3 f d λd=>iU d (ζ 27 c f λc=>δ g 43 c λc=>υ g [ψ 0,ψ 0,ψ 0,LF,ψ 0,ψ 0] 43 λd=>ι d 43 (χ g) c λc d=>jn (λa=>δ c 43 (χ g) λb=>ω X 62 [b] c λb c i=>ο .not b λb=>iU b (a [WB] c (Γ h d i)) (η .gtr 3 f (ψ 0) λb=>iU b (ε 43 (χ g) 0 λb=>δ c 3 b λb=>ε 29 (χ m) 0 λg=>δ c 27 g λg=>η .sub 3 f (ψ 1) λf=>ζ 27 g f λf=>ε 43 f 0 λf=>δ c 3 f λf=>η .leq 3 b f λb=>a [b] c (Γ h d i)) (a [L4] c (Γ h d i)))) (λc d g=>un c λc _=>iU c (ι d 4 (χ a) L4 λb c=>aS (aC TE b 4 (χ a)) λa=>R [a] b (min g c)) (η .add 3 f (ψ 1) λa=>b [a] d g))) (δ g 29 (χ m) λb=>ω X 159 [b] g λb c d=>rK b λb f g=>RF TE X b f.toList g.toList c (min h d) (λb d f=>un b λb g=>un g λg h=>NV h (υ d [ψ 0,ψ 0,ψ 0,LF,ψ 0,ψ 0] 43 λh=>ι h 43 (χ d) b λb h=>υ b [ψ 0,ψ 0,ψ 0,LF,ψ 0,ψ 0] 43 λi=>ι i 43 (χ b) g λg i=>VZ c.n d g λg=>δ g 43 (χ d) λj=>δ g 43 (χ b) λb=>ω X 160 [j,b] g λb j k=>iU b (ι j 4 (χ a) L4 λa b=>f g .ret a (Λ d.n h i c.n k b)) (f g .normal j (Θ d.n h i c.n k)))) (λb c=>ι b 4 (χ a) WB λb d=>aS (aC TE b 4 (χ a)) λa=>R [a] b (min c d)) [(.ret,λb c=>aS (aC TE b 4 (χ a)) λa=>R [a] b c)])) [ψ 0] b m.n):=bv
def F159:=cN (P:=dC TE W f159 [x0] m R)
def F99:=cN (P:=dC TE W f99 [x0] m R)
def F163:=cN (P:=dC TE W f163 [x0] m R)
def F98:=cN (P:=dC TE W f98 [x0,x1] m R)
def F43:=cN (P:=dC TE W f43 [x0,x1] m R)
def F119:=cN (P:=dC TE W f119 [x0,x1] m R)
def F71:=cN (P:=dC TE W f71 [x0] m R)
def F209:=cN (P:=dC TE W f209 [x0,x1] m R)
def F208:=cN (P:=dC TE W f208 [x0,x1,x2] m R)
def F161:=cN (P:=dC TE W f161 [x0,x1] m R)
end
section
set_option maxRecDepth 100000
set_option maxHeartbeats 0
abbrev F79{W:Words}{x0 x1:Φ}:=cN (P:=dC TE W f79 [x0,x1] m R)
abbrev F126{W:Words}{x0 x1:Φ}:=cN (P:=dC TE W f126 [x0,x1] m R)
def F176{X:aF}{x0 x1:Φ}:dC TE (aG TE X) f176 [x0,x1] m R=ς m x1 41 λa=>υ a [ψ 0] 3 λb=>υ b [ψ 0] 3 λc=>ι c 3 (χ b) (ψ 0) λc d=>ω X 80 [x0] c λc f g=>rK c λc h i=>RF TE X c h.toList i.toList f (Γ m.n d g) (λc d g=>un c λc h=>un h λh i=>NV i (υ d [ψ 0,ψ 0] 46 λi=>ι i 46 (χ d) c λc i=>υ c [ψ 0,ψ 0] 46 λj=>ι j 46 (χ c) h λh j=>VZ f.n d h λh=>δ h 41 (χ m) λk=>ω X 124 [k,.func (.func 218) #[] #[χ d,χ c]] h λc k l=>ο .not c λc=>iU c (δ k 3 (χ b) λb=>ι k 3 (χ a) b λa b=>g h .ret a (Λ d.n i j f.n l b)) (δ k 3 (χ b) λa=>η .add 3 a (ψ 1) λa=>ι k 3 (χ b) a λa b=>g h .normal a (Λ d.n i j f.n l b)))) (λb c=>ι b 3 (χ a) (ψ (-1)) λb d=>aS (aC TE b 3 (χ a)) λa=>R [a] b (min c d)) [(.ret,λb c=>aS (aC TE b 3 (χ a)) λa=>R [a] b c)]:=bv
abbrev F218{W:Words}{x0 x1 x2:Φ}:=cN (P:=dC TE W f218 [x0,x1,x2] m R)
end
end Go.Proofs.YthffgohpkjpkbaaGreatDoor
namespace Go.xV
structure V where
 x:Int
 y:Int
 w:Int
def V.dot(f p:V):Int:=f.x*p.x+f.y*p.y+f.w*p.w
def oA(p q r:V):Int:=p.x*(q.y*r.w-q.w*r.y)-p.y*(q.x*r.w-q.w*r.x)+p.w*(q.x*r.y-q.y*r.x)
def radon{p q r s:V}(hp:0<p.w):∃a b c d:Int,(a≠0\/b≠0\/c≠0\/d≠0)/\a*p.x+b*q.x+c*r.x+d*s.x=0/\a*p.y+b*q.y+c*r.y+d*s.y=0/\a*p.w+b*q.w+c*r.w+d*s.w=0:=by by_cases F:oA q r s=0/\oA p r s=0/\oA p q s=0/\oA p q r=0;have hd:=F.2.2.2;unfold oA at hd;by_cases h1:q.x*r.w-r.x*q.w=0/\r.x*p.w-p.x*r.w=0/\p.x*q.w-q.x*p.w=0;by_cases h2:q.y*r.w-r.y*q.w=0/\r.y*p.w-p.y*r.w=0/\p.y*q.w-q.y*p.w=0;exact⟨q.w, -p.w,0,0,.inr (.inl ac),be,be,be⟩;exact⟨q.y*r.w-r.y*q.w,r.y*p.w-p.y*r.w,p.y*q.w-q.y*p.w,0,be,be,be,be⟩;exact⟨q.x*r.w-r.x*q.w,r.x*p.w-p.x*r.w,p.x*q.w-q.x*p.w,0,be,be,be,be⟩;exact⟨oA q r s,-oA p r s,oA p q s,-oA p q r,be,by unfold oA;grind,by unfold oA;grind,by unfold oA;grind⟩
def Ab{A B C D u v w z:Int}(hA:0<=A)(hB:0<=B)(hC:0<=C)(hD:0<=D)(hs:0<A\/0<B\/0<C\/0<D)(hu:A≠0->0<u)(hv:B≠0->0<v)(hw:C≠0->0<w)(hz:D≠0->0<z):0<A*u+B*v+C*w+D*z:=by have k:∀{a b:Int},0<=a->(a≠0->0<b)->0<=a*b/\(0<a->0<a*b):=λ{a b} h1 F=>(by by_cases h:a=0;subst h;simp;exact⟨N8 (IB ac (F h)),λh'=>IB h' (F h)⟩);have k1:=k hA hu;have k2:=k hB hv;have k3:=k hC hw;have k4:=k hD hz;omega
def Xr{f0 f1 f2 f3 p0 F p2 p3:V}{R:List V}(w0:0<p0.w)(w1:0<F.w)(w2:0<p2.w)(w3:0<p3.w)
  (h0:∀f,f=f1\/f=f2\/f=f3\/f∈R->0<f.dot p0) (h1:∀f,f=f0\/f=f2\/f=f3\/f∈R->0<f.dot F)
  (h2:∀f,f=f0\/f=f1\/f=f3\/f∈R->0<f.dot p2) (h3:∀f,f=f0\/f=f1\/f=f2\/f∈R->0<f.dot p3):
  ∃q:V,0<q.w/\∀f,f=f0\/f=f1\/f=f2\/f=f3\/f∈R->0<f.dot q:=by have⟨a,b,c,d,hn,hx,hy,hw⟩:=radon (q:=F) (r:=p2) (s:=p3) w0;have b0:0<a\/0<b\/0<c\/0<d:=Mz λhc=>(by have:=Ab (A:= -a) (B:= -b) (C:= -c) (D:= -d) ac ac ac ac ac (λ_=>w0) (λ_=>w1) (λ_=>w2) (λ_=>w3);simp only[Jl]at this;omega);have d0:0 < -a\/0 < -b\/0 < -c\/0 < -d:=Mz λhc=>(by have:=Ab (A:=a) (B:=b) (C:=c) (D:=d) ac ac ac ac ac (λ_=>w0) (λ_=>w1) (λ_=>w2) (λ_=>w3);omega);obtain⟨A,hA⟩:∃A,A=max a 0:=⟨_,rfl⟩;obtain⟨B,hB⟩:∃A,A=max b 0:=⟨_,rfl⟩;obtain⟨C,hC⟩:∃A,A=max c 0:=⟨_,rfl⟩;obtain⟨D,hD⟩:∃A,A=max d 0:=⟨_,rfl⟩;have e1:∀f:V,f.dot ⟨A*p0.x+B*F.x+C*p2.x+D*p3.x,A*p0.y+B*F.y+C*p2.y+D*p3.y,A*p0.w+B*F.w+C*p2.w+D*p3.w⟩=A*f.dot p0+B*f.dot F+C*f.dot p2+D*f.dot p3:=λf=>(by unfold V.dot;grind);have e2:∀f:V,A*f.dot p0+B*f.dot F+C*f.dot p2+D*f.dot p3=(A-a)*f.dot p0+(B-b)*f.dot F+(C-c)*f.dot p2+(D-d)*f.dot p3:=λf=>(by have:a*f.dot p0+b*f.dot F+c*f.dot p2+d*f.dot p3=f.x*(a*p0.x+b*F.x+c*p2.x+d*p3.x)+f.y*(a*p0.y+b*F.y+c*p2.y+d*p3.y)+f.w*(a*p0.w+b*F.w+c*p2.w+d*p3.w):=(by unfold V.dot;grind);rw[hx,hy,hw]at this;simp only[Int.sub_mul];omega);refine⟨⟨A*p0.x+B*F.x+C*p2.x+D*p3.x,A*p0.y+B*F.y+C*p2.y+D*p3.y,A*p0.w+B*F.w+C*p2.w+D*p3.w⟩,?_,λf hf=>?_⟩;rotate_left;rw[e1 f];rcases hf with rfl|rfl|rfl|rfl|hf;rcases Ue 0 a with ha|ha;rw[e2];exact Ab ac ac ac ac ac (λh=>absurd h ac) (λ_=>h1 _ co) (λ_=>h2 _ co) (λ_=>h3 _ co);exact Ab ac ac ac ac ac (λh=>absurd h ac) (λ_=>h1 _ co) (λ_=>h2 _ co) (λ_=>h3 _ co);rcases Ue 0 b with ha|ha;rw[e2];exact Ab ac ac ac ac ac (λ_=>h0 _ co) (λh=>absurd h ac) (λ_=>h2 _ co) (λ_=>h3 _ co);exact Ab ac ac ac ac ac (λ_=>h0 _ co) (λh=>absurd h ac) (λ_=>h2 _ co) (λ_=>h3 _ co);rcases Ue 0 c with ha|ha;rw[e2];exact Ab ac ac ac ac ac (λ_=>h0 _ co) (λ_=>h1 _ co) (λh=>absurd h ac) (λ_=>h3 _ co);exact Ab ac ac ac ac ac (λ_=>h0 _ co) (λ_=>h1 _ co) (λh=>absurd h ac) (λ_=>h3 _ co);rcases Ue 0 d with ha|ha;rw[e2];exact Ab ac ac ac ac ac (λ_=>h0 _ co) (λ_=>h1 _ co) (λ_=>h2 _ co) (λh=>absurd h ac);exact Ab ac ac ac ac ac (λ_=>h0 _ co) (λ_=>h1 _ co) (λ_=>h2 _ co) (λh=>absurd h ac);exact Ab ac ac ac ac ac (λ_=>h0 _ (by simp[hf])) (λ_=>h1 _ (by simp[hf])) (λ_=>h2 _ (by simp[hf])) (λ_=>h3 _ (by simp[hf]));exact Ab ac ac ac ac ac (λ_=>w0) (λ_=>w1) (λ_=>w2) (λ_=>w3)
theorem Hu:∀(n:Nat) (F:List V),F.length<=n->(∀f∈F,∀g∈F,∀h∈F,∃p:V,0<p.w/\0<f.dot p/\0<g.dot p/\0<h.dot p)->∃p:V,0<p.w/\∀f∈F,0<f.dot p
 |_,[],_,_=>⟨⟨0,0,1⟩,ce,co⟩
 |_,[f],_,h=>by obtain⟨p,hp,h1,_,_⟩:=h f co f co f co;exact⟨p,hp,by simpa using h1⟩
 |_,[f,g],_,h=>by obtain⟨p,hp,h1,h2,_⟩:=h f co g co g co;exact⟨p,hp,by simpa using⟨h1,h2⟩⟩
 |_,[f,g,k],_,h=>by obtain⟨p,hp,h1,h2,h3⟩:=h f co g co k co;exact⟨p,hp,by simpa using⟨h1,h2,h3⟩⟩
 |0,_::_::_::_::_,hl,_=>by simp at hl
 |n+1,f0::f1::f2::f3::R,hl,h=>by have hl:R.length+3<=n:=(by simp only[Vz]at hl;omega);obtain⟨p0,w0,k0⟩:=Hu n (f1::f2::f3::R) (by simp only[Vz];omega) λf hf g hg k hk=>h f (.tail _ hf) g (.tail _ hg) k (.tail _ hk);have s1:∀f,f∈f0::f2::f3::R->f∈f0::f1::f2::f3::R:=λf hf=>(by simp only[OS]at hf⊢;rcases hf with hf|hf|hf|hf <;>simp[hf]);have s2:∀f,f∈f0::f1::f3::R->f∈f0::f1::f2::f3::R:=λf hf=>(by simp only[OS]at hf⊢;rcases hf with hf|hf|hf|hf <;>simp[hf]);have s3:∀f,f∈f0::f1::f2::R->f∈f0::f1::f2::f3::R:=λf hf=>(by simp only[OS]at hf⊢;rcases hf with hf|hf|hf|hf <;>simp[hf]);obtain⟨p1,w1,k1⟩:=Hu n (f0::f2::f3::R) (by simp only[Vz];omega) λf hf g hg k hk=>h f (s1 f hf) g (s1 g hg) k (s1 k hk);obtain⟨p2,w2,k2⟩:=Hu n (f0::f1::f3::R) (by simp only[Vz];omega) λf hf g hg k hk=>h f (s2 f hf) g (s2 g hg) k (s2 k hk);obtain⟨p3,w3,k3⟩:=Hu n (f0::f1::f2::R) (by simp only[Vz];omega) λf hf g hg k hk=>h f (s3 f hf) g (s3 g hg) k (s3 k hk);obtain⟨q,wq,kq⟩:=Xr (f0:=f0) (f1:=f1) (f2:=f2) (f3:=f3) (R:=R) w0 w1 w2 w3 (λf hf=>k0 f (by simpa using hf)) (λf hf=>k1 f (by simpa using hf)) (λf hf=>k2 f (by simpa using hf)) (λf hf=>k3 f (by simpa using hf));exact⟨q,wq,λf hf=>kq f (by simpa using hf)⟩
def V.go(p:V)(D N:Int)(d:V):V:=⟨D*p.x+N*d.x,D*p.y+N*d.y,D*p.w+N*d.w⟩
def qV(f p d:V)(D N:Int):f.dot (p.go D N d)=D*f.dot p+N*f.dot d:=by unfold V.dot V.go;grind
theorem ratio(p d:V):∀(L:List V),(∀f∈L,0<=f.dot p)->(∃f∈L,f.dot d<0)->∃i∈L,i.dot d<0/\∀j∈L,j.dot d<0->i.dot p*(-(j.dot d))<=j.dot p*(-(i.dot d))
 |[],_,h=>by have⟨f,hf,_⟩:=h;cases hf
 |f::L,hp,h=>by by_cases hL:∃g∈L,g.dot d<0;obtain⟨i,hi,h1,h2⟩:=ratio p d L (λg hg=>hp g (.tail _ hg)) hL;by_cases hf:f.dot d<0;by_cases hc:i.dot p*(-(f.dot d))<=f.dot p*(-(i.dot d));refine⟨i,.tail _ hi,h1,λj F hd=>?_⟩;rcases OS.1 F with rfl|F;exact hc;exact h2 j F hd;refine⟨f,.head _,hf,λj F hd=>?_⟩;rcases OS.1 F with rfl|F;exact Vf _;have h2:=h2 j F hd;have hc:f.dot p*(-(i.dot d))<=i.dot p*(-(f.dot d)):=ac;generalize f.dot p=fp at*;generalize i.dot p=ip at*;generalize j.dot p=jp at*;generalize f.dot d=fd at*;generalize i.dot d=id at*;generalize j.dot d=jd at*;have a1:(fp*(-id))*(-jd)<=(ip*(-fd))*(-jd):=UB hc ac;have a2:(ip*(-jd))*(-fd)<=(jp*(-id))*(-fd):=UB h2 ac;have a3:(fp*(-jd))*(-id)<=(jp*(-fd))*(-id):=(by have b1:(fp*(-jd))*(-id)=(fp*(-id))*(-jd):=be;have b2:(ip*(-fd))*(-jd)=(ip*(-jd))*(-fd):=be;have b3:(jp*(-fd))*(-id)=(jp*(-id))*(-fd):=be;omega);exact Int.le_of_mul_le_mul_right a3 ac;refine⟨i,.tail _ hi,h1,λj F hd=>?_⟩;rcases OS.1 F with rfl|F;exact absurd hd hf;exact h2 j F hd;have⟨g,hg,hd⟩:=h;rcases OS.1 hg with rfl|hg;refine⟨g,.head _,hd,λj F b0=>?_⟩;rcases OS.1 F with rfl|F;exact Vf _;exact absurd ⟨j,F,b0⟩ hL;exact absurd ⟨g,hg,hd⟩ hL
def step{L:List V}{p d:V}(hw:0<p.w)(hd:d.w=0)(F:∀f∈L,0<=f.dot p)(hb:∃f∈L,f.dot d<0):
  ∃i∈L,i.dot d<0/\∃D N:Int,0<D/\0<=N/\0<(p.go D N d).w/\(∀f∈L,0<=f.dot (p.go D N d))/\i.dot (p.go D N d)=0:=by have⟨i,hi,h1,h2⟩:=ratio p d L F hb;refine⟨i,hi,h1, -(i.dot d),i.dot p,ac,F i hi,?_,λf hf=>?_,?_⟩;show 0 < -(i.dot d)*p.w+i.dot p*d.w;rw[hd,Tq,Int.add_zero];exact IB ac hw;rw[qV];by_cases b0:f.dot d<0;have:=h2 f hf b0;have e1: -(i.dot d)*f.dot p=f.dot p*(-(i.dot d)):=Int.mul_comm _ _;have e2:i.dot p* -(f.dot d)= -(i.dot p*f.dot d):=Hm _ _;omega;have a1:0<= -(i.dot d)*f.dot p:=Sd ac (F f hf);have a2:0<=i.dot p*f.dot d:=Sd (F i hi) ac;omega;rw[qV,Jl,Int.mul_comm (i.dot p)];omega
def sq_nonneg(a:Int):0<=a*a:=by rcases Int.le_total 0 a with h|h;exact Sd h h;exact Int.mul_nonneg_of_nonpos_of_nonpos h h
def CG{L:List V}(hb:∀d:V,d.w=0->d.x≠0\/d.y≠0->∃f∈L,f.dot d<0){p:V}(hw:0<p.w)(hp:∀f∈L,0<=f.dot p)(g:V)(hg:0<g.dot p):
  ∃i∈L,∃k∈L,∃v:V,0<v.w/\(∀f∈L,0<=f.dot v)/\i.dot v=0/\k.dot v=0/\i.x*k.y-k.x*i.y≠0/\0<g.dot v:=by obtain⟨d,hd,b0,d0⟩:∃d:V,d.w=0/\(d.x≠0\/d.y≠0)/\0<=g.dot d:=(by by_cases h:g.x=0/\g.y=0;exact⟨⟨1,0,0⟩,rfl,.inl ce,by simp[V.dot,h.1]⟩;refine⟨⟨g.x,g.y,0⟩,rfl,by show g.x≠0\/g.y≠0;omega,?_⟩;have:=sq_nonneg g.x;have:=sq_nonneg g.y;show 0<=g.x*g.x+g.y*g.y+g.w*0;omega);have⟨i,hi,hid,D,N,hD,hN,w1,p1,z1⟩:=step hw hd hp (hb d hd b0);have g1:0<g.dot (p.go D N d):=(by rw[qV];have:=IB hD hg;have:=Sd hN d0;omega);generalize p.go D N d=q at*;have j0:i.x≠0\/i.y≠0:=Mz λhc=>(by have e1:i.x=0:=ac;have e2:i.y=0:=ac;simp[V.dot,e1,e2,hd]at hid);obtain⟨e,he,e0,g0,F⟩:∃e:V,e.w=0/\(e.x≠0\/e.y≠0)/\0<=g.dot e/\(e=⟨i.y, -i.x,0⟩\/e=⟨-i.y,i.x,0⟩):=(by rcases Int.le_total 0 (g.x*i.y-g.y*i.x)with h|h;refine⟨⟨i.y, -i.x,0⟩,rfl,by show i.y≠0\/ -i.x≠0;omega,?_,.inl rfl⟩;show 0<=g.x*i.y+g.y*(-i.x)+g.w*0;rw[Hm];omega;refine⟨⟨-i.y,i.x,0⟩,rfl,by show -i.y≠0\/i.x≠0;omega,?_,.inr rfl⟩;show 0<=g.x*(-i.y)+g.y*i.x+g.w*0;rw[Hm];omega);have⟨k,hk,k0,D',N',h0,i0,w2,p2,z2⟩:=step w1 he p1 (hb e he e0);refine⟨i,hi,k,hk,q.go D' N' e,w2,p2,?_,z2,?_,?_⟩;rw[qV,z1];rcases F with rfl|rfl <;>(unfold V.dot;grind);intro hc;rcases F with rfl|rfl;have:k.dot ⟨i.y, -i.x,0⟩= -(i.x*k.y-k.x*i.y):=(by unfold V.dot;grind);omega;have:k.dot ⟨-i.y,i.x,0⟩=i.x*k.y-k.x*i.y:=(by unfold V.dot;grind);omega;rw[qV];have:=IB h0 g1;have:=Sd i0 g0;omega
def meet(f g:V):V:=⟨f.y*g.w-g.y*f.w,f.w*g.x-g.w*f.x,f.x*g.y-g.x*f.y⟩
def V.neg(p:V):V:=⟨-p.x, -p.y, -p.w⟩
def norm(p:V):V:=if p.w < 0 then p.neg else p
def G6{p:V}(h:p.w≠0):0<(norm p).w:=by unfold norm;split;show 0 < -p.w;omega;omega
def Hi{f g v:V}(F:f.dot v=0)(hg:g.dot v=0)(h:V):v.w*h.dot (norm (meet f g))=(norm (meet f g)).w*h.dot v:=by have ex:(meet f g).w*v.x=v.w*(meet f g).x:=(by unfold V.dot at F hg;unfold meet;grind);have ey:(meet f g).w*v.y=v.w*(meet f g).y:=(by unfold V.dot at F hg;unfold meet;grind);have key:v.w*h.dot (meet f g)=(meet f g).w*h.dot v:=(by unfold V.dot;grind);unfold norm;split;have e1:h.dot (meet f g).neg= -(h.dot (meet f g)):=(by unfold V.dot V.neg;grind);have e2:(meet f g).neg.w= -(meet f g).w:=rfl;rw[e1,e2,Hm,Jl,key];exact key
def lQ(L:List V)(v:V):Prop:=∃f∈L,∃g∈L,(meet f g).w≠0/\v=norm (meet f g)/\∀h∈L,0<=h.dot v
def uw{L:List V}(hb:∀d:V,d.w=0->d.x≠0\/d.y≠0->∃f∈L,f.dot d<0){p:V}(hw:0<p.w)(hp:∀f∈L,0<=f.dot p)(g:V)(hg:0<g.dot p):∃v,lQ L v/\0<v.w/\0<g.dot v:=by have⟨i,hi,k,hk,v,wv,pv,z1,z2,hn,gv⟩:=CG hb hw hp g hg;have hm:(meet i k).w≠0:=hn;have F:=G6 hm;refine⟨norm (meet i k),⟨i,hi,k,hk,hm,rfl,λh hh=>?_⟩,F,?_⟩;have e:=Hi z1 z2 h;have:=Sd (N8 F) (pv h hh);rw[<-e]at this;exact Int.nonneg_of_mul_nonneg_right this wv;have e:=Hi z1 z2 g;have:=IB F gv;rw[<-e]at this;exact Int.pos_of_mul_pos_right this wv
theorem three{L:List V}(e0:∃f,f∈L)(hb:∀d:V,d.w=0->d.x≠0\/d.y≠0->∃f∈L,f.dot d<0){p:V}(hw:0<p.w)(hp:∀f∈L,0<f.dot p):
  ∃a b c,lQ L a/\lQ L b/\lQ L c/\oA a b c≠0:=by have d0:∀f∈L,0<=f.dot p:=λf hf=>N8 (hp f hf);obtain⟨a,ca,wa,_⟩:=uw hb hw d0 ⟨0,0,1⟩ (by show 0<0*p.x+0*p.y+1*p.w;omega);have e0:p.x*a.w-a.x*p.w≠0\/p.y*a.w-a.y*p.w≠0:=Mz λhc=>(by obtain⟨f,hf,g,hg,hm,rfl,h0⟩:=ca;have hz:f.dot (norm (meet f g))=0:=(by unfold norm;split <;>(unfold V.dot;simp only[V.neg,meet];grind));have h1:=hp f hf;have e:(norm (meet f g)).w*f.dot p=p.w*f.dot (norm (meet f g)):=(by unfold V.dot;grind);rw[hz,Tq]at e;have:=IB wa h1;omega);obtain⟨b,cb,wb,l0⟩:=uw hb hw d0 ⟨(p.x*a.w-a.x*p.w)*a.w,(p.y*a.w-a.y*p.w)*a.w, -((p.x*a.w-a.x*p.w)*a.x+(p.y*a.w-a.y*p.w)*a.y)⟩ (by have e:(V.mk ((p.x*a.w-a.x*p.w)*a.w) ((p.y*a.w-a.y*p.w)*a.w) (-((p.x*a.w-a.x*p.w)*a.x+(p.y*a.w-a.y*p.w)*a.y))).dot p=(p.x*a.w-a.x*p.w)*(p.x*a.w-a.x*p.w)+(p.y*a.w-a.y*p.w)*(p.y*a.w-a.y*p.w):=(by unfold V.dot;grind);rw[e];generalize p.x*a.w-a.x*p.w=u at*;generalize p.y*a.w-a.y*p.w=v at*;have h1:=sq_nonneg u;have h2:=sq_nonneg v;have h3:u≠0->u*u≠0:=λh F=>(by rcases Dz.1 F with F|F <;>exact h F);have h4:v≠0->v*v≠0:=λh F=>(by rcases Dz.1 F with F|F <;>exact h F);rcases e0 with h|h;have:=h3 h;omega;have:=h4 h;omega);have j0:a.y*b.w-a.w*b.y≠0\/a.w*b.x-a.x*b.w≠0:=Mz λhc=>(by have e1:a.y*b.w-a.w*b.y=0:=ac;have e2:a.w*b.x-a.x*b.w=0:=ac;have:(V.mk ((p.x*a.w-a.x*p.w)*a.w) ((p.y*a.w-a.y*p.w)*a.w) (-((p.x*a.w-a.x*p.w)*a.x+(p.y*a.w-a.y*p.w)*a.y))).dot b=0:=(by unfold V.dot;grind);omega);obtain⟨g,hg⟩:∃g:V,g=⟨a.y*b.w-a.w*b.y,a.w*b.x-a.x*b.w,a.x*b.y-a.y*b.x⟩:=⟨_,rfl⟩;have b0:∀c:V,oA a b c=g.dot c:=λc=>(by rw[hg];unfold oA V.dot;grind);have k0:g.x≠0\/g.y≠0:=(by rw[hg];exact j0);obtain⟨q,wq,pq,gq⟩:∃q:V,0<q.w/\(∀f∈L,0<=f.dot q)/\g.dot q≠0:=(by by_cases g0:g.dot p=0;obtain⟨K,hK⟩:∃K:Int,0<K/\∀f∈L, -K<=f.x*g.x+f.y*g.y:=(by have i0:∀L:List V,∃K:Int,0<K/\∀f∈L, -K<=f.x*g.x+f.y*g.y:=λL=>(by induction L with|nil=>exact⟨1,ce,λf hf=>by cases hf⟩|cons f L ih=>have⟨K,h1,h2⟩:=ih;refine⟨max K (-(f.x*g.x+f.y*g.y)),ac,λh hh=>?_⟩;rcases OS.1 hh with rfl|hh;omega;have:=h2 h hh;omega);exact i0 L);refine⟨p.go K 1 ⟨g.x,g.y,0⟩,?_,λf hf=>?_,?_⟩;show 0<K*p.w+1*0;have:=IB hK.1 hw;omega;rw[qV];have h1:=hK.2 f hf;have h2:f.dot ⟨g.x,g.y,0⟩=f.x*g.x+f.y*g.y:=(by unfold V.dot;grind);have h3:K*1<=K*f.dot p:=M4 (by have:=hp f hf;omega) (N8 hK.1);omega;rw[qV,g0,Tq];have h2:g.dot ⟨g.x,g.y,0⟩=g.x*g.x+g.y*g.y:=(by unfold V.dot;grind);rw[h2];have h1:=sq_nonneg g.x;have h2:=sq_nonneg g.y;have h3:g.x≠0->g.x*g.x≠0:=λh F=>(by rcases Dz.1 F with F|F <;>exact h F);have h4:g.y≠0->g.y*g.y≠0:=λh F=>(by rcases Dz.1 F with F|F <;>exact h F);rcases k0 with h|h;have:=h3 h;omega;have:=h4 h;omega;exact⟨p,hw,d0,g0⟩);rcases Int.lt_or_gt_of_ne gq with h|h;have e:∀c,(V.neg g).dot c= -(g.dot c):=λc=>(by unfold V.dot V.neg;grind);obtain⟨c,cc,_,hc⟩:=uw hb wq pq (V.neg g) (by rw[e];omega);exact⟨a,b,c,ca,cb,cc,by rw[b0];rw[e]at hc;omega⟩;have⟨c,cc,_,hc⟩:=uw hb wq pq g h;exact⟨a,b,c,ca,cb,cc,by rw[b0];omega⟩
end Go.xV
namespace Go.Proofs.YthffgohpkjpkbaaGreatDoor
variable{i lo0 n1:Nat}{p q:Pl}{A B F dx dy x:Int}{a b:List Pl}{g:Option Nat}
section
open Go Go.D Go.xV Go.Proofs.Tryz
def Pl.h(p:Pl):V:=⟨p.x,p.y,1⟩
def oz(a b:Pl):V:=⟨a.y-b.y,b.x-a.x,(b.y-a.y)*a.x-(b.x-a.x)*a.y⟩
def nG(a b c:Pl):(oz a b).dot c.h=dZ a b c:=by unfold V.dot oz Pl.h dZ;grind
def jC(l:List Pl)(i:Nat):Pl:=(l[i]?).getD ⟨0,0⟩
def xU{l:List Pl}(h:i<l.length):l[i]?=some (jC l i):=by unfold jC;rw[Np h];rfl
def abc{l:List Pl}(h:q∈l):∃k,k<l.length/\jC l k=q:=by obtain⟨k,F,rfl⟩:=List.getElem_of_mem h;exact⟨k,F,by unfold jC;rw[Np F];rfl⟩
def JS{l:List Pl}(h:i<l.length):jC l i∈l:=Jc (xU h)
def iR(l:List Pl)(i:Nat):V:=oz (jC l i) (jC l ((i+1)%l.length))
def uv(l:List Pl):List V:=(List.range l.length).map (iR l)
def ni{l:List Pl}{f:V}:f∈uv l↔∃i,i<l.length/\f=iR l i:=by unfold uv;grind
def lin1{ax ay bx:Int}(h:ax*dy-ay*dx=bx*dy-F*dx):(bx-ax)*dy=(F-ay)*dx:=by grind
def lin2{uy vx vy:Int}(h1:F*dy=uy*dx)(h2:vx*dy=vy*dx):(F*vy-uy*vx)*dx=0/\(F*vy-uy*vx)*dy=0:=by grind
section
variable {l:List Pl} (hv:bL l=true)
include hv
theorem wF{k:Nat}(hi:i<l.length)(F:k<l.length)(h1:k≠i)(h2:k≠(i+1)%l.length):0<(iR l i).dot (jC l k).h:=by unfold iR;rw[nG];exact adz hv (xU hi) (xU (Rh _ ac)) (xU F) h1 h2
theorem oN{k:Nat}(hi:i<l.length)(hk:k<l.length):0<=(iR l i).dot (jC l k).h:=by by_cases F:k=i;subst F;unfold iR;rw[nG];unfold dZ;grind;by_cases h2:k=(i+1)%l.length;unfold iR;rw[nG,<-h2];unfold dZ;grind;exact N8 (wF hv hi hk F h2)
theorem Az:∃p:V,0<p.w/\∀f∈uv l,0<f.dot p:=by have⟨h3,_⟩:=dH hv;refine⟨⟨(jC l 0).x+(jC l 1).x+(jC l 2).x,(jC l 0).y+(jC l 1).y+(jC l 2).y,3⟩,(show(0:Int)< 3 by decide),λf hf=>?_⟩;obtain⟨i,hi,rfl⟩:=ni.1 hf;have e:(iR l i).dot ⟨(jC l 0).x+(jC l 1).x+(jC l 2).x,(jC l 0).y+(jC l 1).y+(jC l 2).y,3⟩=(iR l i).dot (jC l 0).h+(iR l i).dot (jC l 1).h+(iR l i).dot (jC l 2).h:=(by unfold V.dot Pl.h;grind);rw[e];have n0:=oN hv hi (k:=0) ac;have n1:=oN hv hi (k:=1) ac;have n2:=oN hv hi (k:=2) ac;have:∃k,k<3/\k≠i/\k≠(i+1)%l.length:=(by generalize (i+1)%l.length=j;by_cases a0:0≠i/\0≠j;exact⟨0,ac,a0.1,a0.2⟩;by_cases F:1≠i/\1≠j;exact⟨1,ac,F.1,F.2⟩;exact⟨2,ac,ac,ac⟩);have⟨k,hk,k1,k2⟩:=this;have hp:=wF hv hi (k:=k) ac k1 k2;grind
theorem wG(d:V)(hd:d.w=0)(F:d.x≠0\/d.y≠0):∃f∈uv l,f.dot d<0:=Mz λhc=>by have⟨h3,_⟩:=dH hv;have hE:∀i,i<l.length->(jC l i).x*d.y-(jC l i).y*d.x<=(jC l ((i+1)%l.length)).x*d.y-(jC l ((i+1)%l.length)).y*d.x:=λi hi=>(by have h:¬(iR l i).dot d<0:=λh=>hc ⟨_,ni.2 ⟨i,hi,rfl⟩,h⟩;have e:(iR l i).dot d=((jC l ((i+1)%l.length)).x*d.y-(jC l ((i+1)%l.length)).y*d.x)-((jC l i).x*d.y-(jC l i).y*d.x):=(by unfold iR oz V.dot;grind);omega);have hC:∀k,k<l.length->∀j,j<=k->(jC l j).x*d.y-(jC l j).y*d.x<=(jC l k).x*d.y-(jC l k).y*d.x:=(by intro k;induction k with|zero=>intro _ j hj;rw[Nat.le_zero.1 hj];exact Vf _|succ k ih=>intro hk j hj;by_cases e:j=k+1;grind;have h1:=ih ac j ac;have h2:=hE k ac;rw[T5 hk]at h2;omega);have hL:=hE (l.length-1) ac;rw[RE ac,SA]at hL;have c1:=hC 1 ac 0 ac;have c2:=hC 2 ac 1 ac;have c3:=hC (l.length-1) ac 2 ac;have ht:=wF hv (i:=0) (k:=2) ac ac ac (by rw[T5 ac];omega);unfold iR at ht;rw[LU,T5 (by omega:1<l.length),nG]at ht;generalize jC l 0=a at*;generalize jC l 1=b at*;generalize jC l 2=c at*;have e1:=lin1 (show a.x*d.y-a.y*d.x=b.x*d.y-b.y*d.x by omega);have e2:=lin1 (show a.x*d.y-a.y*d.x=c.x*d.y-c.y*d.x by omega);unfold dZ at ht;have⟨t1,t2⟩:=lin2 e1 e2;rcases F with h|h;rcases Dz.1 t1 with h'|h';omega;grind;rcases Dz.1 t2 with h'|h';omega;grind
omit hv in
theorem KB(G:Nat->Int):∀n,0 < n->∃k,k < n/\∀j,j < n->G j<=G k
 |1,_=>⟨0,ac,λj F=>by rw[show j=0 by omega];exact Vf _⟩
 |n+2,_=>by obtain⟨k,hk,h⟩:=KB G (n+1) ac;by_cases hc:G k<=G (n+1);refine⟨n+1,ac,λj F=>?_⟩;grind;refine⟨k,ac,λj F=>?_⟩;grind
theorem aby{g p:V}(hg:∀q∈l,g.dot q.h<=0)(hw:0<p.w)(hp:∀f∈uv l,0<=f.dot p):g.dot p<=0:=by have⟨h3,_⟩:=dH hv;obtain⟨k,hk,F⟩:=KB (λk=>g.dot (jC l k).h) l.length ac;obtain⟨r,hr,b0,d0⟩:∃r,r<l.length/\(r+1)%l.length=k/\r≠(k+1)%l.length:=(by by_cases e:k=0;refine⟨l.length-1,ac,?_,?_⟩;rw[RE ac,SA,e];rw[e,T5 ac];omega;refine⟨k-1,ac,?_,?_⟩;rw[RE ac,T5 hk];by_cases e2:k+1=l.length;rw[e2,SA];omega;rw[T5 ac];omega);have hn:(k+1)%l.length<l.length:=Rh _ ac;have e0:(k+1)%l.length≠k:=(by by_cases e2:k+1=l.length;rw[e2,SA];omega;rw[T5 ac];omega);have hT:=wF hv hr hn (λe=>d0 e.symm) (by rw[b0];exact e0);have p1:=hp _ (ni.2 ⟨r,hr,rfl⟩);have p2:=hp _ (ni.2 ⟨k,hk,rfl⟩);have m1:=F _ hn;have m2:=F _ hr;have m3:=hg _ (JS hk);unfold iR at hT p1 p2;rw[b0]at hT p1;have m1:g.dot (jC l ((k+1)%l.length)).h<=g.dot (jC l k).h:=m1;have m2:g.dot (jC l r).h<=g.dot (jC l k).h:=m2;generalize jC l r=a at*;generalize jC l k=b at*;generalize jC l ((k+1)%l.length)=c at*;have id:(oz a b).dot c.h*(g.dot p-p.w*g.dot b.h)=(oz a b).dot p*(g.dot c.h-g.dot b.h)+(oz b c).dot p*(g.dot a.h-g.dot b.h):=(by unfold oz V.dot Pl.h;grind);have r1:(oz a b).dot p*(g.dot c.h-g.dot b.h)<=0:=O7 p1 ac;have r2:(oz b c).dot p*(g.dot a.h-g.dot b.h)<=0:=O7 p2 ac;have r3:p.w*g.dot b.h<=0:=O7 (N8 hw) m3;refine Mz λhc=>?_;have:0<(oz a b).dot c.h*(g.dot p-p.w*g.dot b.h):=IB hT ac;omega
end
def Sep(a b:List Pl):Prop:=∃f∈uv a,∀q∈b,f.dot q.h<=0
def Ki(F:bL a){h:V}(hh:∃q∈a,0<h.dot q.h):∃p:V,0<p.w/\(∀f∈uv a,0<f.dot p)/\0<h.dot p:=by have⟨c,wc,hc⟩:=Az F;have⟨q,hq,b0⟩:=hh;obtain⟨k,hk,rfl⟩:=abc hq;obtain⟨K,hK⟩:∃K:Int,K=max 1 (1-h.dot c):=⟨_,rfl⟩;refine⟨(jC a k).h.go K 1 c,?_,λf hf=>?_,?_⟩;show 0<K*1+1*c.w;omega;rw[qV];obtain⟨i,hi,rfl⟩:=ni.1 hf;have h1:=oN F hi hk;have h2:=hc _ hf;have:=Sd (show 0<=K by omega) h1;omega;rw[qV];have:K*1<=K*h.dot (jC a k).h:=M4 ac ac;omega
def Kv(h:¬Sep a b):∀f∈uv a,∃q∈b,0<f.dot q.h:=λf F=>Mz λhc=>h ⟨f,F,λq hq=>by grind⟩
def ada(ha:bL a)(hb:bL b)(h1:¬Sep a b)(h2:¬Sep b a):
  ∃u v w,lQ (uv a++uv b) u/\lQ (uv a++uv b) v/\lQ (uv a++uv b) w/\oA u v w≠0:=by have pa:∀h∈uv b,∃p:V,0<p.w/\(∀f∈uv a,0<f.dot p)/\0<h.dot p:=λh F=>Ki ha (Kv h2 h F);have pb:∀h∈uv a,∃p:V,0<p.w/\(∀f∈uv b,0<f.dot p)/\0<h.dot p:=λh F=>Ki hb (Kv h1 h F);obtain⟨p,hw,hp⟩:=Hu _ (uv a++uv b) (Aj _) λf hf g hg h F=>(by rcases L3.1 hf with hf|hf <;>rcases L3.1 hg with hg|hg <;>rcases L3.1 F with F|F;have⟨p,w,h'⟩:=Az ha;exact⟨p,w,h' _ hf,h' _ hg,h' _ F⟩;grind;grind;grind;grind;grind;grind;have⟨p,w,h'⟩:=Az hb;exact⟨p,w,h' _ hf,h' _ hg,h' _ F⟩);refine three ?_ (λd hd b0=>?_) hw hp;obtain⟨f,hf,_⟩:=wG ha ⟨1,0,0⟩ rfl (.inl ce);exact⟨f,L3.2 (.inl hf)⟩;have⟨f,hf,h⟩:=wG ha d hd b0;grind
def G7(ha:bL a)(hb:bL b){L:List V}(hL:∀f,f∈uv a\/f∈uv b->f∈L)(hs:Sep a b){u v w:V}(hu:lQ L u)(hv:lQ L v)(hw:lQ L w):oA u v w=0:=by have⟨f,hf,b0⟩:=hs;have hz:∀{c:V},lQ L c->f.dot c=0:=λ{c} F=>(by obtain⟨i,hi,k,hk,hm,rfl,h0⟩:=F;have h1:=h0 f (hL f (.inl hf));have h2:=aby hb b0 (G6 hm) λg hg=>h0 g (hL g (.inr hg));omega);have hu:=hz hu;have hv:=hz hv;have hw:=hz hw;have d0:f.x≠0\/f.y≠0:=Mz λF=>(by have⟨h3,_⟩:=dH ha;have⟨p,_,hp⟩:=Az ha;have:=hp f hf;obtain⟨i,hi,rfl⟩:=ni.1 hf;unfold iR at F this;generalize jC a i=s at*;generalize jC a ((i+1)%a.length)=t at*;have e1:s.y-t.y=0:=(by have:¬((s.y-t.y)≠0\/(t.x-s.x)≠0):=F;omega);have e2:t.x-s.x=0:=(by have:¬((s.y-t.y)≠0\/(t.x-s.x)≠0):=F;omega);have e3:(oz s t).dot p=0:=(by unfold oz V.dot;grind);omega);have t1:f.x*oA u v w=0:=(by have:f.x*oA u v w=f.dot u*(v.y*w.w-v.w*w.y)-f.dot v*(u.y*w.w-u.w*w.y)+f.dot w*(u.y*v.w-u.w*v.y):=(by unfold oA V.dot;grind);grind);have t2:f.y*oA u v w=0:=(by have:f.y*oA u v w= -(f.dot u*(v.x*w.w-v.w*w.x))+f.dot v*(u.x*w.w-u.w*w.x)-f.dot w*(u.x*v.w-u.w*v.x):=(by unfold oA V.dot;grind);grind);rcases d0 with h|h;exact(Dz.1 t1).resolve_left h;exact(Dz.1 t2).resolve_left h
end
variable{X:aF}{m:M}
def yu(a b:List Pl)(i:Nat):Bool:=match a[i]?,a[(i+1)%a.length]? with
 |some p,some q=> !(b.any λc=>decide (0 < dZ p q c))
 |_,_=>false
def eA(a b:List Pl):Int:=match(List.range a.length).find? (yu a b)with |some i=>i |none=> -1
def gD(a b:List Pl):Bool:=bL a && bL b && decide (eA a b < 0) && decide (eA b a < 0)
def Ux(hX:cy X){a b c:Pl}{ba bb:Nat}(ha:m.get ba=.cells a.c 46 none)(hb:m.get bb=.cells b.c 46 none)(sa:a.sm 1000000)(sb:b.sm 1000000)(sc:c.sm 1000000):
  C X (.func 218) [c.v,ptrTo ba,ptrTo bb] m m.n (.bool (decide (0<dZ a b c))) m:=by apply Cl.fl hX (Us func218);rw[F218];dsimp only[aG];refine ah λm1 e0 b0 d0=>?_;have F:Ext m m1:=⟨ac,d0⟩;unfold ptrTo;rw[bY (F.cells ha),ae,bY (F.cells hb),ae,bY b0,ae];apply aw (Aq hX sa sb sc);rw[cz,ae];exact⟨rfl,ac⟩
def HH(h:∀j,j<a.length->yu a b j=false):eA a b= -1:=by unfold eA;grind
theorem find_range{p:Nat->Bool}:∀{n k:Nat},k<n->(∀j,j<k->p j=false)->p k->(List.range n).find? p=some k
 |n+1,k,F,h,hp=>by simp_all
def ad8{k:Nat}(F:k<a.length)(h:∀j,j<k->yu a b j=false)(hs:yu a b k):eA a b=k:=by unfold eA;rw[find_range F h hs]
def D4(hX:cy X){a b:List Pl}{va vb:Φ}(ha:Sl m a va)(hb:Sl m b vb)(la:a.length<1000000)(lb:b.length<1000000)(sa:∀p∈a,p.sm 1000000)(sb:∀p∈b,p.sm 1000000):
  C X (.func 176) [va,vb] m m.n (ν (eA a b)) m:=by
 apply Cl.fl hX (Us func176);rw[F176];dsimp only[δ,η,ι,ο,ς,υ,χ,ψ,ω,Γ,Λ];refine ah λm1 a2 B0 b2=>?_;refine ah λm2 c2 O0 P0=>?_;refine ah λm3 d2 Q0 e0=>?_;unfold ptrTo;refine aj zV Q0 rfl rfl rfl λm4 e2 a1 g0=>?_;have h0:Ext m m4:=⟨ac,be⟩;have⟨m7,hc,F,g2,i2⟩:=CD (m:=m4) hX ha.cells;apply aw hc;rw[cx];have g17:m7.get m.n=.cells (cells vb) 41 none:=(by rw[F.get _ ac,g0 _ ac,e0 _ ac,P0 _ ac,B0]);have b1:m7.get m1.n=.cells [ν 0] 3 none:=(by rw[F.get _ ac,g0 _ ac,e0 _ ac,O0]);have c1:m7.get m2.n=.cells [ν 0] 3 none:=(by rw[F.get _ ac,a1];rfl);rw[hb.cells]at g17;refine⟨.ob λ_=>False,mQ a,_,λk mm=>m7.n<=mm.n/\(∀c,c<m7.n->c≠m1.n->c≠m2.n->mm.get c=m7.get c)/\mm.get m1.n=.cells [ν 0] 3 none/\mm.get m2.n=.cells [ν k] 3 none/\(∀j,j<k->yu a b j=false),λe mm=>e=.ret/\mm.get m1.n=.cells [ν (eA a b)] 3 none,m.n,⟨_,rfl⟩,yZ hX (v:=va) (b:=m4.n) ac,ac,?_,?_,?_,⟨Aj _,λ_ _ _ _=>rfl,b1,c1,λj hj=>ac⟩,?_,?_,?_⟩;rintro i mm ⟨h1,h2,h3,h4,h5⟩;refine⟨be,?_⟩;refine ha.aY λb c t g hb ht=>?_;have:=M.aP hb;rw[h2 b ac ac ac,F.get b ac,h0.get b this,hb];rintro i mm d1 ⟨h1,h2,h3,h4,h5⟩ hk;exact⟨by have:=hk.n;omega,λc hc n1 n2=>by rw[hk.get c ac ac,h2 c hc n1 n2],by rw[hk.get _ ac ac,h3],by rw[hk.get _ ac ac,h4],h5⟩;rintro e mm d1 ⟨h,h'⟩ hk;have:=M.aP h';exact⟨h,by rw[hk.get _ this ac,h']⟩;rintro k args m10 p1 hx ⟨h1,h2,h3,h4,h5⟩;obtain⟨pa,pb,d0,i0,rfl⟩:=yY hx;have e1:k<a.length:=(Vc.1 d0).1;rw[av,av];show NV [] _;unfold NV;refine ah λm16 u1 j0 v1=>?_;refine aj fQ j0 rfl rfl rfl λm17 w1 k0 y1=>?_;refine ah λm19 A1 l0 n0=>?_;refine aj fQ l0 rfl rfl rfl λm20 B1 o0 p0=>?_;have iJ:∀c,c<m10.n->m20.get c=m10.get c:=be;refine⟨λc _ hc=>iJ c hc,λm22 G1 b0=>?_⟩;dsimp only;have r1:m22.get m10.n=.cells pa.c 46 none:=(by rw[b0 _ ac,p0 _ ac,n0 _ ac,k0];rfl);have r2:m22.get m17.n=.cells pb.c 46 none:=(by rw[b0 _ ac,o0];rfl);have g1:∀c,c<m7.n->c≠m1.n->c≠m2.n->m22.get c=m7.get c:=be;have r3:m22.get m.n=.cells [vb] 41 none:=be;have r4:m22.get m2.n=.cells [ν k] 3 none:=be;have r5:m22.get m1.n=.cells [ν 0] 3 none:=be;rw[qP,aH r3];show aS (some vb) _;rw[ae];have i1:Sl m22 b vb:=hb.aY λb c t g hb ht=>(by have:=M.aP hb;rw[g1 b ac ac ac,F.get b ac,h0.get b this,hb]);refine aw (uS hX (λc=>decide (0<dZ pa pb c)) ac i1 λc hc=>?_) ?_;exact Ux hX r1 r2 (sa _ (Jc d0)) (sa _ (Jc i0)) (sb c hc);have q0:yu a b k= !(b.any λc=>decide (0<dZ pa pb c)):=(by unfold yu;rw[d0,i0]);rw[bB,ae,ag,<-q0];refine af (λhs=>?_) (λhs=>?_);rw[bR,aH r4];show aS (some (Value.int .i64 k)) _;rw[ae];refine aj zV r5 rfl rfl rfl λj2 H1 r0 s0=>?_;refine⟨ac,λc j1 k1 l1=>s0 c be,rfl,?_⟩;rw[ad8 e1 h5 hs];exact r0;rw[bR,aH r4];show aS (some (Value.int .i64 k)) _;rw[ae,aL,ae,wrap64];refine aj zV r4 rfl rfl rfl λk2 K1 u0 y0=>?_;refine⟨ac,λc j1 k1 l1=>y0 c be,ac,be,be,u0,λj hj=>?_⟩;by_cases e:j=k;rw[e];exact hs;exact h5 j ac;rintro mm ja ⟨h1,h2,h3,h4,h5⟩ o1;refine aj zV h3 rfl rfl rfl λl2 O1 A0 T1=>?_;rw[bR,aH A0];show aS (some (Value.int .i64 (-1))) _;rw[ae];refine⟨?_,ac⟩;rw[ur]at h5;rw[HH h5];rfl;rintro e mm ja o2 ⟨rfl,h'⟩ o1
 refine⟨_,PY.2 rfl,rfl,?_⟩;dsimp only;rw[bR,aH h'];show aS (some (Value.int .i64 (eA a b))) _;rw[ae];exact⟨rfl,ac⟩
def DW(a b:List Pl):Int×Int×Bool:=
 if bL a && bL b then(if 0<=eA a b then(0,eA a b,true)else if 0<=eA b a then(1,eA b a,true)else(0,0,false))else(0,0,false)
theorem P3(F:cy X){a b:List Pl}{va vb:Φ}(ha:Sl m a va)(hb:Sl m b vb)(la:a.length<1000000)(lb:b.length<1000000):
  C X (.func 126) [va,vb] m m.n (.tuple #[ν (DW a b).1,ν (DW a b).2.1,.bool (DW a b).2.2]) m:=by apply Cl.fl F (Us func126);rw[F126];dsimp only[aG];refine aX (λvs mm lo=>vs=[.bool (!(bL a && bL b))]/\m=mm/\m.n<=lo) (λR hR=>?_) ?_;apply aw (mi F ha ac);rw[bB,ae,ag];refine af (λh=>?_) (λh=>?_);have h:bL a=false:=be;exact hR _ _ _ ⟨be,rfl,ac⟩;have h:bL a:=be;apply aw (mi F hb ac);rw[bB,ae];exact hR _ _ _ ⟨be,rfl,ac⟩;rintro _ _ lo ⟨rfl,rfl,b0⟩;rw[av,ag];refine af (λh=>?_) (λh=>?_);have h:(bL a && bL b)=false:=(by cases h':(bL a && bL b)with|false=>rfl|true=>rw[h']at h;cases h);unfold DW;rw[MO be];exact⟨rfl,b0⟩;have h:(bL a && bL b):=(by cases h':(bL a && bL b)with|true=>rfl|false=>rw[h']at h;cases h);unfold DW;rw[QL h];rw[IG]at h;apply aw (D4 F ha hb la lb (mh h.1) (mh h.2));rw[cZ,ae,ag];refine af (λh1=>?_) (λh1=>?_);have h1:0<=eA a b:=be;rw[QL h1];exact⟨rfl,ac⟩;have h1:¬0<=eA a b:=be;rw[MO h1];apply aw (D4 F hb ha lb la (mh h.2) (mh h.1));rw[cZ,ae,ag];refine af (λh2=>?_) (λh2=>?_);have h2:0<=eA b a:=be;rw[QL h2];exact⟨rfl,ac⟩;have h2:¬0<=eA b a:=be;rw[MO h2];exact⟨rfl,ac⟩
def sf(F:cy X){a b:List Pl}{va vb:Φ}(ha:Sl m a va)(hb:Sl m b vb)(la:a.length<1000000)(lb:b.length<1000000):
  C X (.func 79) [va,vb] m m.n (.bool (gD a b)) m:=by apply Cl.fl F (Us func79);rw[F79];dsimp only[aG];apply aw (P3 F ha hb la lb);rw[aD,aD,aD];simp only[LB,IM,ae];refine aX (λvs mm lo=>vs=[.bool (gD a b)]/\m=mm/\m.n<=lo) (λR hR=>?_) ?_;apply aw (mi F ha ac);rw[ag];refine af (λh=>?_) (λh=>?_);apply aw (mi F hb ac);rw[ag];refine af (λh'=>?_) (λh'=>?_);rw[bB,ae];refine hR _ _ _ ⟨?_,rfl,ac⟩;unfold gD DW;rw[h,h',QJ,QL rfl,Dn];by_cases h1:0<=eA a b;rw[QL h1,Qr (show¬eA a b<0 by omega)];rfl;rw[MO h1,L5 (show eA a b<0 by omega)];by_cases h2:0<=eA b a;rw[QL h2,Qr (show¬eA b a<0 by omega)];rfl;rw[MO h2,L5 (show eA b a<0 by omega)];rfl;exact hR _ _ _ ⟨by unfold gD;rw[h',SJ];rfl,rfl,ac⟩;exact hR _ _ _ ⟨by unfold gD;rw[h];rfl,rfl,ac⟩;rintro _ _ lo ⟨rfl,rfl,b0⟩;rw[av];exact⟨rfl,b0⟩
def Qq(hX:cy X)(p:Pl):C X (.func 234) [p.v] m m.n (.bool (!p.off)) m:=by apply Cl.fl hX (Us func234);rw[F234];dsimp only[aG];refine ah λm1 b0 F d0=>?_;simp only[bd]at F;refine aX (λvs mm lo=>vs=[.bool (!p.off)]/\lo=m.n) (λR hR=>?_) ?_;simp only[ae,an,cx,ag,bN,aT,cO,aK,cZ,cz,aJ,bZ,bB,ptrTo,cH,lF,LU,Nat.reduceAdd,LB,IM,NJ,SU,FU,GI,Br,bd,nJ,lO,jY,nH,nI,lN,cW,eh,bR,aH F];have ho:p.off= !(decide (0<=p.x) && decide (p.x<=40) && decide (0<=p.y) && decide (p.y<=40)):=(by unfold Pl.off;by_cases h1:0<=p.x <;>by_cases h2:p.x<=40 <;>by_cases h3:0<=p.y <;>by_cases h4:p.y<=40 <;>simp[h1,h2,h3,h4] <;>omega);refine af (λh1=>?_) (λh1=>hR _ _ _ ⟨be,rfl⟩);refine af (λh2=>?_) (λh2=>hR _ _ _ ⟨be,rfl⟩);refine af (λh3=>?_) (λh3=>hR _ _ _ ⟨be,rfl⟩);exact hR _ _ _ ⟨be,rfl⟩;rintro _ mm lo ⟨rfl,rfl⟩;rw[av];exact⟨rfl,Aj _⟩
def abw(hX:cy X)(a b c:Pl):C X (.func 191) [a.v,b.v,c.v] m m.n (ν (J6 a b c)) m:=by apply Cl.fl hX (Us func191);rw[F191];dsimp only[aG];refine ah λm1 h0 d0 i0=>?_;refine ah λm2 j0 e0 g0=>?_;refine ah λm3 k0 F b0=>?_;have g1:=(b0 m.n ac).trans ((g0 m.n ac).trans d0);have g2:=(b0 m1.n ac).trans e0;simp only[bd]at g1 g2 F;simp only[ae,an,cx,ag,bN,aT,cO,aK,cZ,cz,aJ,bZ,bB,ptrTo,cH,lF,LU,Nat.reduceAdd,LB,IM,NJ,SU,FU,GI,Br,bd,nJ,lO,jY,nH,nI,lN,cW,eh,bR,aH g1,aH g2,aH F,eZ,kO];exact⟨rfl,Aj _⟩
def Bs(F:cy X){a b c:Pl}(ha:a.sm 1000000)(hb:b.sm 1000000)(hc:c.sm 1000000):C X (.func 191) [a.v,b.v,c.v] m m.n (ν (dZ a b c)) m:=by rw[<-Gz ha hb hc];exact abw F a b c
def Jt(hX:cy X){l:List Pl}{v:Φ}(hl:Sl m l v){i:Nat}{q:Pl}(hb:l.length<4611686018427387904)(hi:i<l.length)(hq:l[(i+1)%l.length]?=some q):C X (.func 235) [v,ν i] m m.n q.v m:=by apply Cl.fl hX (Us func235);rw[F235];dsimp only[aG];refine ah λm1 g0 b0 d0=>?_;have F:Ext m m1:=⟨ac,d0⟩;rw[aL,ae,wrap64,(hl.ak F).len cR,an,show((i:Int)+1)=((i+1:Nat):Int) by omega,Ay ac,ae];have⟨a,e1,e2⟩:=(hl.ak F).fL (k:=.i64) hq;rw[e1,ae,e2,ae];unfold ptrTo;refine aj fQ b0 rfl rfl rfl λm7 h0 e0 i0=>?_;rw[bY e0,ae];exact⟨rfl,ac⟩
def pV(hX:cy X){l:List Pl}{v:Φ}(hl:Sl m l v)(hb:l.length<4611686018427387904):C X (.func 188) [v] m m.n (.bool (bL l)) m:=by
 apply Cl.fl hX (Us func188);rw[F188];dsimp only[aG];refine aX (λvs mm lo=>vs=[.bool (!(decide (3<=l.length) && decide (l.length<=8)))]/\m=mm/\lo=m.n) (λR hR=>?_) ?_;rw[hl.len cR];simp only[ae,an,cx,ag,bN,aT,cO,aK,cZ,cz,aJ,bZ,bB,ptrTo,cH,lF,LU,Nat.reduceAdd,LB,IM,NJ,SU,FU,GI,Br,bd,nJ,lO,jY,nH,nI,lN];refine af (λh=>hR _ _ _ ⟨be,rfl,rfl⟩) (λh=>?_);have h3:3<=l.length:=be;refine hR _ _ _ ⟨?_,rfl,rfl⟩;have:decide ((8:Int)< l.length)= !(decide (l.length<=8)):=be;rw[this];simp[h3];rintro _ _ _ ⟨rfl,rfl,rfl⟩;rw[av,ag];refine af (λh=>?_) (λh=>?_);refine⟨?_,Aj _⟩;simp only[UC]at h;simp only[aM,bL,h,F7];simp only[UY,IG,Mj]at h;have⟨h3,h8⟩:=h;refine Lp.intro (γ:=Nat) (λi=>l.length-i) (λi vs mm lo=>vs=[L4,ν i]/\i<=l.length/\m=mm/\lo=m.n/\∀j p,j<i->l[j]?=some p->p.off=false) 0 ⟨rfl,ZX _,rfl,rfl,λj p hj=>ac⟩ ?_;rintro i vs mm lo ⟨rfl,hi,rfl,rfl,g0⟩;rw[av,av,hl.len cR,an,aK,ae,ag];refine af (λF=>?_) (λr0=>?_);have F:i<l.length:=be;obtain⟨p,hp⟩:∃p,l[i]?=some p:=⟨_,Np F⟩;have⟨q,e1,e2⟩:=hl.fL (k:=.i64) hp;rw[e1,ae,e2,ae];apply aw (Qq hX p);rw[bB,ae,ag,HZ];refine af (λho=>?_) (λho=>?_);refine⟨?_,ac⟩;have:l.any Pl.off:=WC.2 ⟨p,Jc hp,ho⟩;simp[aM,bL,this];rw[aL,ae,wrap64];refine⟨i+1,ac,rfl,ac,rfl,ac,λj q hj hq=>?_⟩;by_cases e:j=i;subst e;rw[hp]at hq;cases hq;exact ho;exact g0 j q ac hq;have s0:i=l.length:=(by have:¬(i:Int)< (l.length:Int):=be;omega);have o0:l.any Pl.off=false:=(by rw[W5];intro p hp;have⟨j,hj⟩:=RL hp;rw[g0 j p be hj];decide);have l0:∀p∈l,p.sm 1000000:=λp hp=>Pl.Qp be;have hv:∀r,ql l=r->bL l=r:=λr hr=>(by simp[bL,h3,h8,o0,hr]);refine Lp.intro (γ:=Nat) (λi=>l.length-i) (λi vs mm lo=>vs=[L4,ν i]/\i<=l.length/\m=mm/\lo=m.n/\∀j,j<i->Ms l j) 0 ⟨rfl,ZX _,rfl,rfl,λj hj=>ac⟩ ?_;rintro i vs mm lo ⟨rfl,hi,rfl,rfl,h0⟩;rw[av,av,hl.len cR,an,aK,ae,ag];refine af (λF=>?_) (λr0=>?_);have F:i<l.length:=be;obtain⟨pa,b0⟩:∃p,l[i]?=some p:=⟨_,Np F⟩;have u0:(i+1)%l.length<l.length:=Rh _ ac;obtain⟨pb,d0⟩:∃p,l[(i+1)%l.length]?=some p:=⟨_,Np u0⟩;refine Lp.intro (γ:=Nat) (λk=>l.length-k) (λk vs mm lo=>vs=[L4,ν k]/\k<=l.length/\m=mm/\lo=m.n/\∀j c,j<k->l[j]?=some c->j=i\/j=(i+1)%l.length\/0<dZ pa pb c) 0 ⟨rfl,ZX _,rfl,rfl,λj c hj=>ac⟩ ?_;rintro k vs mm lo ⟨rfl,hk,rfl,rfl,i0⟩;rw[av,av,hl.len cR,an,aK,ae,ag];refine af (λj0=>?_) (λB0=>?_);have j0:k<l.length:=be;obtain⟨pc,e0⟩:∃p,l[k]?=some p:=⟨_,Np j0⟩;refine aX (λvs mm lo=>vs=[.bool (!(k==i ||k==(i+1)%l.length ||decide (0<dZ pa pb pc)))]/\m=mm/\lo=m.n) (λR hR=>?_) ?_;rw[bZ,ae,ag];refine af (λp0=>?_) (λhe=>?_);have p0:k≠i:=be;rw[aL,ae,wrap64,an,show((i:Int)+1)=((i+1:Nat):Int) by omega,Ay ac,ae,bZ,ae,ag];refine af (λk0=>?_) (λO0=>?_);have k0:k≠(i+1)%l.length:=be;have⟨q,e1,e2⟩:=hl.fL (k:=.i64) b0;rw[e1,ae,e2,ae];refine aw (Jt hX hl hb F d0) ⟨Aj _,?_⟩;have⟨q,e1,e2⟩:=hl.fL (k:=.i64) e0;rw[e1,ae,e2,ae];apply aw (Bs hX (l0 _ (Jc b0)) (l0 _ (Jc d0)) (l0 _ (Jc e0)));rw[cO,ae];refine hR _ _ _ ⟨?_,rfl,ac⟩;have:decide (dZ pa pb pc<=0)= !(decide (0<dZ pa pb pc)):=be;rw[this];simp[p0,k0];refine hR _ _ _ ⟨?_,rfl,rfl⟩
 have:k=(i+1)%l.length:=(by have h':(k:Int)=(((i+1)%l.length:Nat):Int):=be;omega);simp[this];refine hR _ _ _ ⟨?_,rfl,rfl⟩;have:k=i:=be;simp[this];rintro _ _ _ ⟨rfl,rfl,rfl⟩;rw[av,ag];refine af (λq0=>?_) (λn0=>?_);have hc:ql l=false:=(by cases hc:ql l with|false=>rfl|true=>simp only[ql,RT,M6]at hc;have h2:=(wz b0 d0).1 (hc i F) k pc e0;simp only[UC,Pz,beq_eq_false_iff_ne,T8]at q0;omega);exact⟨by rw[hv false hc];rfl,Aj _⟩;rw[aL,ae,wrap64];refine⟨k+1,ac,rfl,ac,rfl,rfl,λj c hj hc=>?_⟩;by_cases y0:j<k;exact i0 j c y0 hc;have:j=k:=ac;subst this;rw[e0]at hc;cases hc;simp only[UY,ZG,beq_iff_eq,Mj]at n0;omega;have P0:k=l.length:=(by have:¬(k:Int)< (l.length:Int):=be;omega);rw[aL,ae,wrap64];refine⟨i+1,ac,rfl,ac,rfl,rfl,λj hj=>?_⟩;by_cases A0:j<i;exact h0 j A0;have:j=i:=ac;subst this;rw[wz b0 d0];intro q c hq;exact i0 q c be hq;have s0:i=l.length:=(by have:¬(i:Int)< (l.length:Int):=be;omega);have hc:ql l:=RT.2 λj hj=>h0 j be;exact⟨by rw[hv true hc];rfl,Aj _⟩
abbrev wr(x:Int):Int:=IntKind.i64.wrap x
def JZ(x:Int):wr x=if x%18446744073709551616>=9223372036854775808 then x%18446744073709551616-18446744073709551616 else x%18446744073709551616:=by unfold wr IntKind.wrap;simp[IntKind.bits,IntKind.signed]
def yh(x:Int):wr x%18446744073709551616=x%18446744073709551616:=by rw[JZ];split <;>omega
def pJ{y:Int}(h:x%18446744073709551616=y%18446744073709551616):wr x=wr y:=by rw[JZ,JZ,h]
def Gr(a b:Int):IntKind.i64.wrap (IntKind.i64.wrap a+b)=IntKind.i64.wrap (a+b):=pJ (by have:=yh a;grind)
def Gq(a b:Int):IntKind.i64.wrap (a+IntKind.i64.wrap b)=IntKind.i64.wrap (a+b):=pJ (by have:=yh b;grind)
def AV(a b:Int):IntKind.i64.wrap (IntKind.i64.wrap a-b)=IntKind.i64.wrap (a-b):=pJ (by have:=yh a;grind)
def AU(a b:Int):IntKind.i64.wrap (a-IntKind.i64.wrap b)=IntKind.i64.wrap (a-b):=pJ (by have:=yh b;grind)
def Gp(a b:Int):IntKind.i64.wrap (IntKind.i64.wrap a*b)=IntKind.i64.wrap (a*b):=pJ (by have:=yh a;show(wr a*b)%_=_;rw[Jw,this,<-Jw])
def Gn(a b:Int):IntKind.i64.wrap (a*IntKind.i64.wrap b)=IntKind.i64.wrap (a*b):=pJ (by have:=yh b;show(a*wr b)%_=_;rw[Jw,this,<-Jw])
def tD(N x:Int):Prop:= -N<=x/\x<=N
def tD.mul{a b:Int}(F:tD A a)(hb:tD B b):tD (A*B) (a*b):=by have⟨a1,a2⟩:=F;have⟨b1,b2⟩:=hb;have h1:0<=(A-a)*(B+b):=Sd ac ac;have h2:0<=(A+a)*(B-b):=Sd ac ac;have h3:0<=(A-a)*(B-b):=Sd ac ac;have h4:0<=(A+a)*(B+b):=Sd ac ac;constructor <;>grind
def tD.add{a b:Int}(F:tD A a)(hb:tD B b):tD (A+B) (a+b):=by have⟨a1,a2⟩:=F;have⟨b1,b2⟩:=hb;constructor <;>omega
def tD.sub{a b:Int}(F:tD A a)(hb:tD B b):tD (A+B) (a-b):=by have⟨a1,a2⟩:=F;have⟨b1,b2⟩:=hb;constructor <;>omega
def tD.wr{N:Int}(h:tD N x)(F:N<9223372036854775808):IntKind.i64.wrap x=x:=wrap64 (by have:=h.1;omega) (by have:=h.2;omega)
structure Ln where
 v:xV.V
variable{L:List Ln}
structure Pt where
 v:xV.V
variable{acc:List Pt}
def vC(p:xV.V):Ω:=[.int .i64 p.x,.int .i64 p.y,.int .i64 p.w]
instance:aQ Ln where
 ty:=307
 sz:=3
 agg:=true
 dU:=[]
 rep _ p cs:=cs=vC p.v
 pos:=ce
 one:=be
 len:=by rintro _ _ _ rfl;rfl
 iL:=by rintro _ _ _ rfl;rfl
 aY:=be
instance:aQ Pt where
 ty:=309
 sz:=3
 agg:=true
 dU:=[]
 rep _ p cs:=cs=vC p.v
 pos:=ce
 one:=be
 len:=by rintro _ _ _ rfl;rfl
 iL:=by rintro _ _ _ rfl;rfl
 aY:=be
def EW:rp TE 303 307 Ln:=⟨ai.t303,ai.t307,bv,⟨_,rfl⟩,rfl,bv,rfl,rfl⟩
def SY:vU TE 303 Ln:=⟨ai.t303,ai.t307,bv,rfl,rfl,bv,ce,rfl⟩
def Pw:rp TE 305 309 Pt:=⟨ai.t305,ai.t309,bv,⟨_,rfl⟩,rfl,bv,rfl,rfl⟩
def ZT:vU TE 305 Pt:=⟨ai.t305,ai.t309,bv,rfl,rfl,bv,ce,rfl⟩
def row_one{α:Type}[aQ α]{b:Nat}{cs:Ω}{x:α}{g:Option Nat}(h:m.get b=.cells cs (aQ.ty α) g)(F:aQ.rep m x cs):Sl m [x] (RR b 0 1 1):=by refine .inr ⟨b,0,1,cs,g,rfl,h,by rw[aQ.len F];simp,λi y hi=>?_⟩;match i with|0=>cases hi;have:(cs.drop (0+0*aQ.sz α)).take (aQ.sz α)=cs:=(by rw[So,LU,NJ,Vq (by rw[aQ.len F];exact Aj _)]);grind|i+1=>simp at hi
def F1{l:List Pl}(h:l[i]?=some p):jC l i=p:=by unfold jC;rw[h];rfl
def Ho(hX:cy X){l:List Pl}{v:Φ}(hl:Sl m l v)(hv:bL l):∃r m',C X (.func 236) [v] m m.n r m'/\Ext m m'/\Ow m.n m' ((uv l).map Ln.mk) r:=by
 have key:∃r m' b,C X (.func 236) [v] m b r m'/\b=m.n/\Ext m m'/\Ow m.n m' ((uv l).map Ln.mk) r:=(by have⟨h3,h8⟩:=dH hv;have j0:=Bd hv;refine Cl.heap (R:=λr m' b=>b=m.n/\Ext m m'/\Ow m.n m' ((uv l).map Ln.mk) r) (hX.no _ rfl) (Us func236) rfl ?_;rw[F236];dsimp only[aG];refine Lp.intro (γ:=Nat) (λi=>l.length-i) (λi vs mm lo=>∃r,vs=[r,ν i]/\i<=l.length/\Ext m mm/\m.n<=lo/\Ow m.n mm (((List.range i).map (iR l)).map Ln.mk) r) 0 ⟨_,rfl,ZX _,.refl,Aj _,.nil⟩ ?_;rintro i vs mm lo ⟨r,rfl,hi,hx,o1,h0⟩;have hn:=hx.n;rw[av,av,(hl.ak hx).len cR,an,aK,ae,ag];refine af (λi0=>?_) (λp1=>?_);have i0:i<l.length:=be;obtain⟨p,hp⟩:∃p,l[i]?=some p:=⟨_,Np i0⟩;obtain⟨q,hq⟩:∃p,l[(i+1)%l.length]?=some p:=⟨_,Np (Rh _ ac)⟩;have⟨a,e1,e2⟩:=(hl.ak hx).fL (k:=.i64) hp;rw[e1,ae,e2,ae];refine ah λm13 B0 k0 O0=>?_;unfold ptrTo;refine aj fQ k0 rfl rfl rfl λm14 P0 l0 Q0=>?_;have F:Ext mm m14:=⟨ac,be⟩;apply aw (Jt hX ((hl.ak hx).ak F) ac i0 hq);refine ah λm19 a1 n0 c1=>?_;refine aj fQ n0 rfl rfl rfl λm20 d1 o0 i1=>?_;have b0:Ext m14 m20:=⟨ac,be⟩;have g1:m20.get mm.n=.cells [ν p.x,ν p.y] 46 none:=(by rw[b0.get _ ac,l0];rfl);have g2:m20.get m14.n=.cells [ν q.x,ν q.y] 46 none:=o0;have bp:=Pl.on (j0 p (Jc hp));have bq:=Pl.on (j0 q (Jc hq));have b1:tD 40 p.x:=⟨ac,ac⟩;have b2:tD 40 p.y:=⟨ac,ac⟩;have b3:tD 80 (q.x-p.x):=⟨ac,ac⟩;have b4:tD 80 (q.y-p.y):=⟨ac,ac⟩;have w3:IntKind.i64.wrap ((q.y-p.y)*p.x-(q.x-p.x)*p.y)=(q.y-p.y)*p.x-(q.x-p.x)*p.y:=((b4.mul b1).sub (b3.mul b2)).wr ce;have w1:IntKind.i64.wrap (p.y-q.y)=p.y-q.y:=wrap64;have w2:IntKind.i64.wrap (q.x-p.x)=q.x-p.x:=wrap64;simp only[cW,eh,bR,aH g1,aH g2,LU,LB,IM,ae,eZ,kO,AV,AU,Gp,Gn,w1,w2,w3];have bl:∀a b c:Int,bz TE 307 [(0,ν a),(1,ν b),(2,ν c)]=some (.agg #[ν a,ν b,ν c]):=λa b c=>Al rfl rfl rfl;rw[bl,ae];obtain⟨L,hL⟩:∃L:xV.V,L=⟨p.y-q.y,q.x-p.x,(q.y-p.y)*p.x-(q.x-p.x)*p.y⟩:=⟨_,rfl⟩;have s0:iR l i=L:=(by unfold iR oz;rw[F1 hp,F1 hq,hL]);have u0:∀a b c:Int,aO TE m20 303 1 [(0,.agg #[ν a,ν b,ν c])]=some (RR m20.n 0 1 1,m20.push (.cells [.int .i64 a,.int .i64 b,.int .i64 c] 307 none)):=λa b c=>bv;rw[u0,an];have d0:Ext m20 (m20.push (.cells [.int .i64 (p.y-q.y),.int .i64 (q.x-p.x),.int .i64 ((q.y-p.y)*p.x-(q.x-p.x)*p.y)] 307 none)):=Ext.refl.push;generalize e0:m20.push (.cells [.int .i64 (p.y-q.y),.int .i64 (q.x-p.x),.int .i64 ((q.y-p.y)*p.x-(q.x-p.x)*p.y)] 307 none)=p0 at*;have q0:p0.get m20.n=.cells (vC L) 307 none:=(by rw[<-e0,hL];exact M.aU);have j1:p0.n=m20.n+1:=(by rw[<-e0];rfl);obtain⟨v',y0,ha,r0,g0,k1,l1⟩:=Ow.append (y:=RR m20.n 0 1 1) (ys:=[Ln.mk L]) SY (by simp[aQ.dU]) (h0.ak (F.trans (b0.trans d0))) (row_one q0 rfl) ac be;rw[ha,an,aL,ae,wrap64];have r1:=g0.n;refine⟨i+1,ac,v',rfl,ac,⟨ac,λb hb=>by rw[g0.get b hb,d0.get b ac,b0.get b ac,F.get b ac,hx.get b hb]⟩,ac,?_⟩;rw[ZH,Xj,Xj];show Ow m.n y0 (_++ [Ln.mk (iR l i)]) v';rw[s0];exact r0;have A0:i=l.length:=(by have:¬(i:Int)< (l.length:Int):=be;omega);subst A0;refine⟨.inl (h0.flat ?_),ac,hx,h0⟩;intro h;have:=congrArg List.length h;rw[MB,MB,List.length_range,Vt]at this;omega)
 obtain⟨r,m',b,hc,rfl,h1,h2⟩:=key;exact⟨r,m',hc,h1,h2⟩
section
open Go Go.D Go.xV Go.Proofs.Tryz
variable {X:aF} {m:M}
def QN{v:Φ}(h:Sl m L v){i:Nat}{x:Ln}(hx:L[i]?=some x):∃a a0 a1 a2,aE TE 303 v (ν i)=some a/\az TE 307 a 0=some a0/\aC TE m 3 a0=some (ν x.v.x)/\
  az TE 307 a 1=some a1/\aC TE m 3 a1=some (ν x.v.y)/\az TE 307 a 2=some a2/\aC TE m 3 a2=some (ν x.v.w):=by have⟨b,o,bc,g,cs,e1,F,hr,_,hj⟩:=h.jc EW (k:=.i64) hx;have hr:cs=vC x.v:=hr;subst hr;refine⟨_,_,_,_,e1,Ai,?_,Ah,?_,ab4,?_⟩;rw[bR,aH F,hj 0 ce];rfl;rw[bR,aH F,hj 1 ce];rfl;rw[bR,aH F,hj 2 ce];rfl
def P1{L:List Pt}{v:Φ}(h:Sl m L v){i:Nat}{x:Pt}(hx:L[i]?=some x):∃a,aE TE 305 v (ν i)=some a/\aC TE m 309 a=some (.agg (vC x.v).toArray):=by have⟨p,cs,e1,e2,F⟩:=h.index Pw (k:=.i64) hx;have F:cs=vC x.v:=F;subst F;exact⟨p,e1,e2⟩
def BdL(p:V):Prop:=tD 80 p.x/\tD 80 p.y/\tD 6400 p.w
def BdP(p:V):Prop:=tD 1024000 p.x/\tD 1024000 p.y/\tD 12800 p.w
def tD.mono(h:tD A x)(F:A<=B):tD B x:=⟨by have:=h.1;omega,by have:=h.2;omega⟩
def tD.neg(h:tD A x):tD A (-x):=⟨by have:=h.2;omega,by have:=h.1;omega⟩
def KA{f g:V}(F:BdL f)(hg:BdL g):BdP (meet f g):=by have⟨f1,f2,f3⟩:=F;have⟨g1,g2,g3⟩:=hg;exact⟨((f2.mul g3).sub (g2.mul f3)).mono ce,((f3.mul g1).sub (g3.mul f1)).mono ce,((f1.mul g2).sub (g1.mul f2)).mono ce⟩
def Kw{p:V}(h:BdP p):BdP (norm p):=by unfold norm;split;exact⟨h.1.neg,h.2.1.neg,h.2.2.neg⟩;exact h
def N0(L:List Ln)(p:V):Bool:=L.all λx=>decide (0<=x.v.dot p)
def K0{v21 va:Φ}{B k:Nat}{p:V}{mm:M}{P:Ω->M->Nat->Prop}(hL:Sl mm L v21)(hB:mm.get B=.cells (vC p) 309 none)(h0:Ow n1 mm acc va)(o2:n1<=mm.n)
  (G1:∀x∈L,BdL x.v) (H1:BdP p) (i2:acc.length<=1000) (hk:k<1000) (hlen:L.length<=16)
  (hP:∀q0 m' r0,mm.n<=m'.n->(∀c,c<n1->m'.get c=mm.get c)->min lo0 n1<=r0->Ow n1 m' (if N0 L p then acc++ [Pt.mk p]else acc) q0->P [q0,ν ((k+1:Nat):Int)] m' r0):
  (Lp (λi0 o0 F d0=>un o0 λj0 s0=>un s0 λb0 j2=>(dh (aR TE F .len [303] [v21]) λu0 _=>(aS (bE TE .lss 3 b0 u0) λy0=>(iU y0
(iU j0
(aS (aE TE 303 v21 b0) λA0=>(aS (az TE 307 A0 0) λB0=>(aS (aC TE F 3 B0) λv124=>(aS (az TE 309 (ptrTo B) 0) λO0=>(aS (aC TE F 3 O0) λP0=>(aS (bE TE .mul 3 v124 P0) λv127=>(aS (aE TE 303 v21 b0) λQ0=>(aS (az TE 307 Q0 1) λd1=>(aS (aC TE F 3 d1) λv130=>(aS (az TE 309 (ptrTo B) 1) λv131=>(aS (aC TE F 3 v131) λg1=>(aS (bE TE .mul 3 v130 g1) λh1=>(aS (bE TE .add 3 v127 h1) λi1=>(aS (aE TE 303 v21 b0) λj1=>(aS (az TE 307 j1 2) λk1=>(aS (aC TE F 3 k1) λo1=>(aS (az TE 309 (ptrTo B) 2) λv138=>(aS (aC TE F 3 v138) λv139=>(aS (bE TE .mul 3 o1 v139) λp1=>(aS (bE TE .add 3 i1 p1) λv141=>(aS (bE TE .geq 3 v141 (ν 0)) λr1=>(aS (bE TE .add 3 b0 (ν 1)) λv143=>(i0 [r1,v143] F d0)))))))))))))))))))))))
(aS (bE TE .add 3 b0 (ν 1)) λu1=>(i0 [L4,u1] F d0)))
(iU j0
(aS (aC TE F 309 (ptrTo B)) λv145=>(dh (aO TE F 305 1 [(0,v145)]) λv146 k0=>(dh (aR TE (M.wl k0 (M.n k0)) .append [305,305] [va,v146]) λv148 n0=>(aS (bE TE .add 3 (ν k) (ν 1)) λv1=>(P [v148,v1] n0 (min d0 (M.low n0)))))))
(aS (bE TE .add 3 (ν k) (ν 1)) λw1=>(P [va,w1] F d0))))))) [WB,ν 0] mm lo0):=by refine Lp.intro (γ:=Nat) (λi=>L.length-i) (λi vs m' lo=>vs=[.bool (N0 (L.take i) p),ν i]/\i<=L.length/\mm=m'/\lo0=lo) 0 ⟨rfl,ZX _,rfl,rfl⟩ ?_;rintro i vs m' lo ⟨rfl,hi,rfl,rfl⟩;rw[av,av,hL.len EW,an,aK,ae,ag,ag];refine af (λp0=>?_) (λK1=>?_);have p0:i<L.length:=(by simpa using p0);obtain⟨x,hx⟩:∃x,L[i]?=some x:=⟨_,Np p0⟩;have g0:N0 (L.take (i+1)) p=(N0 (L.take i) p && decide (0<=x.v.dot p)):=(by unfold N0;rw[Tv,hx,OR,Nk];simp);refine af (λe0=>?_) (λe0=>?_);have⟨a,a0,a1,a2,e1,f0,l0,f1,l1,f2,l2⟩:=QN hL hx;have O1:mm.get B=.cells [ν p.x,ν p.y,ν p.w] 309 none:=hB;have⟨b1,b2,b3⟩:=G1 x (Jc hx);have⟨c1,c2,c3⟩:=H1;have hw:IntKind.i64.wrap (x.v.x*p.x+x.v.y*p.y+x.v.w*p.w)=x.v.dot p:=(((b1.mul c1).add (b2.mul c2)).add (b3.mul c3)).wr ce;simp only[e1,f0,l0,f1,l1,f2,l2,ae,ptrTo,mN,mM,mL,bR,aH O1,LU,LB,IM,kO,aL,Gr,Gq,hw,cZ];rw[wrap64];exact⟨i+1,ac,by rw[g0,e0,Dn];rfl,ac,by first|rfl|trivial,by first|rfl|trivial⟩;rw[aL,ae,wrap64];exact⟨i+1,ac,by rw[g0,e0,F7];rfl,ac,rfl,rfl⟩;have T1:i=L.length:=(by have:¬(i:Int)< (L.length:Int):=(by simpa using K1);omega);subst T1;rw[Vq (Aj _)];refine af (λe0=>?_) (λe0=>?_);unfold ptrTo;rw[acH,aI hB (by simp[vC])];show aS (some (Value.agg #[ν p.x,ν p.y,ν p.w])) _;rw[ae];have d2:aO TE mm 305 1 [(0,.agg #[ν p.x,ν p.y,ν p.w])]=some (RR mm.n 0 1 1,mm.push (.cells (vC p) 309 none)):=bv;rw[d2,an];have y1:Ext mm (mm.push (.cells (vC p) 309 none)):=Ext.refl.push;generalize A1:mm.push (.cells (vC p) 309 none)=m1 at*;have e2:m1.get mm.n=.cells (vC p) 309 none:=(by rw[<-A1];exact M.aU);have k2:m1.n=mm.n+1:=(by rw[<-A1];rfl);obtain⟨v',m2,ha,g2,B1,u2,v2⟩:=Ow.append (y:=RR mm.n 0 1 1) (ys:=[Pt.mk p]) ZT (by simp[aQ.dU]) (h0.ak y1) (row_one e2 rfl) ac (by simp;omega);rw[ha,an,aL,ae,wrap64];have h2:=B1.n;apply hP v' m2 _ ac (λc hc=>by rw[B1.get c hc,y1.get c ac]) ac;rw[QL e0];exact g2;rw[aL,ae,wrap64];refine hP va mm lo0 (Aj _) (λ_ _=>rfl) ac ?_;rw[MO (by rw[e0];decide)];exact h0
def abU{va:Φ}{mm:M}{R:Ω->M->Nat->Prop}(i0:Sl mm acc va)(o1:∀x∈acc,BdP x.v)(e6:acc.length<=1000)(i6:n1<=mm.n)
  (hT:∀m' o0 (u v w:Pt),u∈acc->v∈acc->w∈acc->oA u.v v.v w.v≠0->min lo0 n1<=o0->R [WB] m' o0)
  (hF:∀m' o0,(∀(i k n:Nat) (u v w:Pt),n<k->k<i->acc[i]?=some u->acc[k]?=some v->acc[n]?=some w->oA u.v v.v w.v=0)->min lo0 n1<=o0->R [L4] m' o0):
  (Lp (λG1 p1 p0 q0=>un p1 λH1 K1=>un K1 λj0 f6=>(dh (aR TE p0 .len [305] [va]) λv201 _=>(aS (bE TE .lss 3 j0 v201) λO1=>(iU O1
(Lp (λT1 r1 y0 r0=>un r1 λA0 d2=>un d2 λk0 g6=>(aS (bE TE .lss 3 k0 j0) λi2=>(iU i2
(Lp (λj2 u1 e0 h0=>un u1 λB0 k2=>un k2 λv218 h6=>(aS (bE TE .lss 3 v218 k0) λl2=>(iU l2
(aS (aE TE 305 va j0) λo2=>(aS (aC TE e0 309 o2) λv222=>(nf (M.push e0 (.cells [ν 0,ν 0,ν 0] 309 none)) λu2=>(dh (bh TE u2 309 (ptrTo (M.n e0)) v222) λb0 O0=>(aS (aE TE 305 va k0) λv226=>(aS (aC TE b0 309 v226) λv227=>(nf (M.push b0 (.cells [ν 0,ν 0,ν 0] 309 none)) λv2=>(dh (bh TE v2 309 (ptrTo (M.n b0)) v227) λd0 P0=>(aS (aE TE 305 va v218) λw2=>(aS (aC TE d0 309 w2) λv232=>(nf (M.push d0 (.cells [ν 0,ν 0,ν 0] 309 none)) λy2=>(dh (bh TE y2 309 (ptrTo (M.n d0)) v232) λF Q0=>(aS (az TE 309 (ptrTo (M.n e0)) 0) λv236=>(aS (aC TE F 3 v236) λz2=>(aS (az TE 309 (ptrTo (M.n b0)) 1) λA2=>(aS (aC TE F 3 A2) λB2=>(aS (az TE 309 (ptrTo (M.n d0)) 2) λG2=>(aS (aC TE F 3 G2) λM2=>(aS (bE TE .mul 3 B2 M2) λO2=>(aS (az TE 309 (ptrTo (M.n b0)) 2) λP2=>(aS (aC TE F 3 P2) λQ2=>(aS (az TE 309 (ptrTo (M.n d0)) 1) λT2=>(aS (aC TE F 3 T2) λd3=>(aS (bE TE .mul 3 Q2 d3) λe3=>(aS (bE TE .sub 3 O2 e3) λi3=>(aS (bE TE .mul 3 z2 i3) λj3=>(aS (az TE 309 (ptrTo (M.n e0)) 1) λk3=>(aS (aC TE F 3 k3) λl3=>(aS (az TE 309 (ptrTo (M.n b0)) 0) λn3=>(aS (aC TE F 3 n3) λo3=>(aS (az TE 309 (ptrTo (M.n d0)) 2) λr3=>(aS (aC TE F 3 r3) λu3=>(aS (bE TE .mul 3 o3 u3) λw3=>(aS (az TE 309 (ptrTo (M.n b0)) 2) λy3=>(aS (aC TE F 3 y3) λA3=>(aS (az TE 309 (ptrTo (M.n d0)) 0) λB3=>(aS (aC TE F 3 B3) λG3=>(aS (bE TE .mul 3 A3 G3) λO3=>(aS (bE TE .sub 3 w3 O3) λb4=>(aS (bE TE .mul 3 l3 b4) λc4=>(aS (bE TE .sub 3 j3 c4) λd4=>(aS (az TE 309 (ptrTo (M.n e0)) 2) λe4=>(aS (aC TE F 3 e4) λf4=>(aS (az TE 309 (ptrTo (M.n b0)) 0) λg4=>(aS (aC TE F 3 g4) λj4=>(aS (az TE 309 (ptrTo (M.n d0)) 1) λk4=>(aS (aC TE F 3 k4) λl4=>(aS (bE TE .mul 3 j4 l4) λn4=>(aS (az TE 309 (ptrTo (M.n b0)) 1) λo4=>(aS (aC TE F 3 o4) λr4=>(aS (az TE 309 (ptrTo (M.n d0)) 0) λu4=>(aS (aC TE F 3 u4) λw4=>(aS (bE TE .mul 3 r4 w4) λy4=>(aS (bE TE .sub 3 n4 y4) λA4=>(aS (bE TE .mul 3 f4 A4) λB4=>(aS (bE TE .add 3 d4 B4) λO4=>(aS (bE TE .neq 3 O4 (ν 0)) λR4=>(iU R4
(R [WB] F (min (min (min h0 O0) P0) Q0))
(aS (bE TE .add 3 v218 (ν 1)) λW4=>(j2 [B0,W4] F (min (min (min h0 O0) P0) Q0)))))))))))))))))))))))))))))))))))))))))))))))))))))))))))))
(aS (bE TE .add 3 k0 (ν 1)) λa5=>(T1 [B0,a5] e0 h0))))) [A0,ν 0] y0 r0)
(aS (bE TE .add 3 j0 (ν 1)) λb5=>(G1 [A0,b5] y0 r0))))) [H1,ν 0] p0 q0)
(R [L4] p0 q0))))) [L4,ν 0] mm lo0):=by
 refine Lp.intro (γ:=Nat) (λi=>acc.length-i) (λi vs m' lo=>vs=[L4,ν i]/\i<=acc.length/\Ext mm m'/\min lo0 n1<=lo/\∀(i' k n:Nat) (u v w:Pt),i'<i->n<k->k<i'->acc[i']?=some u->acc[k]?=some v->acc[n]?=some w->oA u.v v.v w.v=0) 0 ⟨rfl,ZX _,.refl,CW _ _,λi' _ _ _ _ _ h=>ac⟩ ?_;rintro i vs m1 j6 ⟨rfl,hi,c5,d1,d5⟩;rw[av,av,(i0.ak c5).len Pw,an,aK,ae,ag];refine af (λv1=>?_) (λn5=>?_);have v1:i<acc.length:=(by simpa using v1);obtain⟨u,hu⟩:∃u,acc[i]?=some u:=⟨_,Np v1⟩;refine Lp.intro (γ:=Nat) (λk=>i-k) (λk vs m' lo=>vs=[L4,ν k]/\k<=i/\Ext mm m'/\min lo0 n1<=lo/\∀(k' n:Nat) (v w:Pt),k'<k->n<k'->acc[k']?=some v->acc[n]?=some w->oA u.v v.v w.v=0) 0 ⟨rfl,ZX _,c5,d1,λk' _ _ _ h=>ac⟩ ?_;rintro k vs m2 ja ⟨rfl,hk,e5,i1,f5⟩;rw[av,av,aK,ae,ag];refine af (λj1=>?_) (λg5=>?_);have j1:k<i:=(by simpa using j1);obtain⟨v,hv⟩:∃u,acc[k]?=some u:=⟨_,vW⟩;refine Lp.intro (γ:=Nat) (λn=>k-n) (λn vs m' lo=>vs=[L4,ν n]/\n<=k/\Ext mm m'/\min lo0 n1<=lo/\∀(n':Nat) (w:Pt),n'<n->acc[n']?=some w->oA u.v v.v w.v=0) 0 ⟨rfl,ZX _,e5,i1,λn' _ h=>ac⟩ ?_;rintro n vs m3 k6 ⟨rfl,hn,l0,i5,j5⟩;rw[av,av,aK,ae,ag];refine af (λk1=>?_) (λk5=>?_);have k1:n<k:=(by simpa using k1);obtain⟨w,hw⟩:∃u,acc[n]?=some u:=⟨_,vW⟩;have l6:=l0.n;have⟨a,e1,e2⟩:=P1 (i0.ak l0) hu;rw[e1,ae,e2,ae];unfold ptrTo;refine ah λm4 n6 o5 r5=>?_;refine aj Bg o5 rfl rfl rfl λm5 o6 u5 v5=>?_;have w1:Ext m3 m5:=⟨ac,λb hb=>by rw[v5 b ac,r5 b hb]⟩;have⟨a,e1,e2⟩:=P1 (i0.ak (l0.trans w1)) hv;rw[e1,ae,e2,ae];refine ah λm6 r6 w5 y5=>?_;refine aj Bg w5 rfl rfl rfl λm7 s6 z5 A5=>?_;have y1:Ext m5 m7:=⟨ac,λb hb=>by rw[A5 b ac,y5 b hb]⟩;have⟨a,e1,e2⟩:=P1 (i0.ak (l0.trans (w1.trans y1))) hw;rw[e1,ae,e2,ae];refine ah λm8 u6 B5 O5=>?_;refine aj Bg B5 rfl rfl rfl λm9 v6 a6 b6=>?_;have A1:Ext m7 m9:=⟨ac,λb hb=>by rw[b6 b ac,O5 b hb]⟩;have g1:m9.get m3.n=.cells [ν u.v.x,ν u.v.y,ν u.v.w] 309 none:=(by rw[A1.get _ ac,y1.get _ ac,u5];rfl);have g2:m9.get m5.n=.cells [ν v.v.x,ν v.v.y,ν v.v.w] 309 none:=(by rw[A1.get _ ac,z5];rfl);have g3:m9.get m7.n=.cells [ν w.v.x,ν w.v.y,ν w.v.w] 309 none:=a6;have⟨a1,a2,a3⟩:=o1 u (Jc hu);have⟨b1,b2,b3⟩:=o1 v (Jc hv);have⟨c1,c2,c3⟩:=o1 w (Jc hw);have c6:IntKind.i64.wrap (u.v.x*(v.v.y*w.v.w-v.v.w*w.v.y)-u.v.y*(v.v.x*w.v.w-v.v.w*w.v.x)+u.v.w*(v.v.x*w.v.y-v.v.y*w.v.x))=oA u.v v.v w.v:=(((a1.mul ((b2.mul c3).sub (b3.mul c2))).sub (a2.mul ((b1.mul c3).sub (b3.mul c1)))).add (a3.mul ((b1.mul c2).sub (b2.mul c1)))).wr ce;simp only[ae,mN,mM,mL,bR,aH g1,aH g2,aH g3,LU,LB,IM,kO,aL,eZ,Gr,Gq,AV,AU,Gp,Gn,c6,bZ,ag];refine af (λd6=>?_) (λhe=>?_);exact hT _ _ u v w (Jc hu) (Jc hv) (Jc hw) (by simpa using d6) ac;rw[wrap64];refine⟨n+1,ac,rfl,ac,l0.trans (w1.trans (y1.trans A1)),ac,λn' w' s0 g0=>?_⟩;by_cases e:n'=n;subst e;rw[hw]at g0;cases g0;simpa using he;exact j5 n' w' ac g0;have s0:n=k:=(by have:¬(n:Int)< (k:Int):=(by simpa using k5);omega);subst s0;rw[aL,ae,wrap64];refine⟨n+1,ac,rfl,ac,l0,i5,λk' n' v' w' u0 l1 n0 g0=>?_⟩;by_cases e:k'=n;subst e;rw[hv]at n0;cases n0;exact j5 n' w' l1 g0;exact f5 k' n' v' w' ac l1 n0 g0
 have u0:k=i:=(by have:¬(k:Int)< (i:Int):=(by simpa using g5);omega);subst u0;rw[aL,ae,wrap64];refine⟨k+1,ac,rfl,ac,e5,i1,λi' k' n' u' v' w' l5 s0 u0 B1 n0 g0=>?_⟩;by_cases e:i'=k;subst e;rw[hu]at B1;cases B1;exact f5 k' n' v' w' u0 s0 n0 g0;exact d5 i' k' n' u' v' w' ac s0 u0 B1 n0 g0;have l5:i=acc.length:=(by have:¬(i:Int)< (acc.length:Int):=(by simpa using n5);omega);subst l5;exact hF _ _ (λi k n u v w h1 h2 h3 h4 h5=>d5 i k n u v w (Vc.1 h3).1 h1 h2 h3 h4 h5) d1
end
section
open Go Go.D Go.xV Go.Proofs.Tryz
variable {X:aF} {m:M}
def GM(hi:i<a.length):yu a b i↔∀q∈b,(iR a i).dot q.h<=0:=by obtain⟨p,hp⟩:∃p,a[i]?=some p:=⟨_,Np hi⟩;obtain⟨q,hq⟩:∃p,a[(i+1)%a.length]?=some p:=⟨_,Np (Rh _ ac)⟩;unfold yu iR;rw[hp,hq,F1 hp,F1 hq];simp only[UC,W5,Mj];constructor;intro h c F;have:=h c F;rw[nG];omega;intro h c F;have:=h c F;rw[nG]at this;omega
def Kc:Sep a b↔¬eA a b<0:=by constructor;rintro⟨f,hf,h⟩ F;obtain⟨i,hi,rfl⟩:=ni.1 hf;have hs:=(GM hi).2 h;unfold eA at F;(cases hc:(List.range a.length).find? (yu a b)with|some k=>rw[hc]at F;simp only at F;omega|none=>grind);intro h;unfold eA at h;cases hc:(List.range a.length).find? (yu a b)with|some k=>have h1:=List.find?_some hc;have h2:=M6.1 (Jf hc);exact⟨_,ni.2 ⟨k,h2,rfl⟩,(GM h2).1 h1⟩|none=>rw[hc]at h;exact absurd ce h
def GZ(F:bL a)(hb:bL b):gD a b↔¬Sep a b/\¬Sep b a:=by unfold gD;rw[F,hb];simp only[QJ,Dn,IG,Mj];rw[Kc,Kc];grind
def Sp(p q r:V):oA q p r= -oA p q r:=by unfold oA;grind
def Wd(p q r:V):oA p r q= -oA p q r:=by unfold oA;grind
def Zu(p r:V):oA p p r=0:=by unfold oA;grind
def Zs(p r:V):oA r p p=0:=by unfold oA;grind
def Zt(p r:V):oA p r p=0:=by unfold oA;grind
def Vk(h:∀(i k n:Nat) (u v w:Pt),n<k->k<i->acc[i]?=some u->acc[k]?=some v->acc[n]?=some w->oA u.v v.v w.v=0){u v w:Pt}(hu:u∈acc)(hv:v∈acc)(hw:w∈acc):oA u.v v.v w.v=0:=by have⟨i,hi⟩:=RL hu;have⟨k,hk⟩:=RL hv;have⟨n,F⟩:=RL hw;by_cases e1:i=k;subst e1;rw[hi]at hk;cases hk;exact Zu _ _;by_cases e2:k=n;subst e2;rw[hk]at F;cases F;exact Zs _ _;by_cases e3:i=n;subst e3;rw[hi]at F;cases F;exact Zt _ _;have s1:=Sp u.v v.v w.v;have s2:=Wd u.v v.v w.v;have s3:=Sp u.v w.v v.v;have s4:=Wd v.v u.v w.v;have s5:=Sp v.v w.v u.v;grind
def aaD{f g:V}(h:(meet f g).w≠0):norm (meet g f)=norm (meet f g):=by have e:meet g f=(meet f g).neg:=(by unfold meet V.neg;grind);rw[e];have hw:(meet f g).neg.w= -(meet f g).w:=rfl;unfold norm;by_cases F:(meet f g).w<0;grind;rw[MO F,QL be];unfold V.neg;grind
structure xX(L:List Ln)(acc:List Pt)(i k:Nat):Prop where
 snd:∀p∈acc,lQ (L.map (·.v)) p.v
 cpl:∀(i' k':Nat) (f g:Ln),(i' < i\/(i'=i/\k' < k))->i' < k'->L[i']?=some f->L[k']?=some g->(meet f.v g.v).w≠0->N0 L (norm (meet f.v g.v))=true->Pt.mk (norm (meet f.v g.v))∈acc
def Fz{p:V}:N0 L p↔∀f∈L.map (·.v),0<=f.dot p:=by unfold N0;grind
def xX.skip{k:Nat}{f g:Ln}(h:xX L acc i k)(hf:L[i]?=some f)(hg:L[k]?=some g)(hn:¬((meet f.v g.v).w≠0/\N0 L (norm (meet f.v g.v)))):xX L acc i (k+1):=
 ⟨h.snd,λi' k' f' g' hk F b0 d0 h1 h2=>by by_cases e:i'=i/\k'=k;grind;exact h.cpl i' k' f' g' ac F b0 d0 h1 h2⟩
def xX.add{k:Nat}{f g:Ln}(h:xX L acc i k)(hf:L[i]?=some f)(hg:L[k]?=some g)(h1:(meet f.v g.v).w≠0)(h2:N0 L (norm (meet f.v g.v))):xX L (acc++ [Pt.mk (norm (meet f.v g.v))]) i (k+1):=
 ⟨λp F=>by rcases L3.1 F with F|F;exact h.snd p F;rw[PY]at F;subst F;exact⟨f.v,NL.2 ⟨f,Jc hf,rfl⟩,g.v,NL.2 ⟨g,Jc hg,rfl⟩,h1,rfl,Fz.1 h2⟩,λi' k' f' g' hk b0 d0 e0 n1 n2=>by by_cases e:i'=i/\k'=k;grind;exact L3.2 (.inl (h.cpl i' k' f' g' ac b0 d0 e0 n1 n2))⟩
def xX.next{k:Nat}(h:xX L acc i k)(hk:L.length<=k){k':Nat}(b0:k'<=i+2):xX L acc (i+1) k':=
 ⟨h.snd,λi' j f g hc F hf hg h1 h2=>h.cpl i' j f g be F hf hg h1 h2⟩
def xX.CG{k:Nat}(h:xX L acc L.length k){v:V}(hv:lQ (L.map (·.v)) v):Pt.mk v∈acc:=by obtain⟨f,hf,g,hg,hm,rfl,h0⟩:=hv;obtain⟨x,hx,rfl⟩:=NL.1 hf;obtain⟨y,hy,rfl⟩:=NL.1 hg;have⟨i,hi⟩:=RL hx;have⟨j,F⟩:=RL hy;have li:=(Vc.1 hi).1;have lj:=(Vc.1 F).1;rcases Sk i j with e|e|e;exact h.cpl i j x y ac e hi F hm (Fz.2 h0);subst e;rw[hi]at F;cases F;exfalso;apply hm;show x.v.x*x.v.y-x.v.x*x.v.y=0;omega;rw[<-aaD (f:=x.v) (g:=y.v) hm]at h0⊢;refine h.cpl j i y x ac e F hi ?_ (Fz.2 h0);intro h';apply hm;have:(meet y.v x.v).w= -(meet x.v y.v).w:=(by show y.v.x*x.v.y-x.v.x*y.v.y= -(x.v.x*y.v.y-y.v.x*x.v.y);omega);omega
def Lf{l:List Pl}(hv:bL l):∀f∈uv l,BdL f:=by intro f hf;obtain⟨i,hi,rfl⟩:=ni.1 hf;have⟨h3,_⟩:=dH hv;have F:=Bd hv;have b1:=Pl.on (F _ (JS hi));have b2:=Pl.on (F _ (JS (l:=l) (i:=(i+1)%l.length) (Rh _ ac)));unfold iR oz;generalize jC l i=p at*;generalize jC l ((i+1)%l.length)=q at*;have c1:tD 40 p.x:=⟨ac,ac⟩;have c2:tD 40 p.y:=⟨ac,ac⟩;have c3:tD 80 (q.x-p.x):=⟨ac,ac⟩;have c4:tD 80 (q.y-p.y):=⟨ac,ac⟩;exact⟨⟨be,be⟩,c3,((c4.mul c1).sub (c3.mul c2)).mono ce⟩
def S7(m22:M)(n0:Nat)(L:List Ln)(i k:Nat)(vs:Ω)(mm:M)(lo:Nat):Prop:=
 ∃F acc,vs=[F,.int .i64 k]/\i+1<=k/\k<=L.length/\Ext m22 mm/\n0<=lo/\Ow m22.n mm acc F/\xX L acc i k/\acc.length<=16*i+k
theorem zy(hX:cy X){a b:List Pl}{va vb:Φ}(ha:Sl m a va)(hb:Sl m b vb)(la:a.length<1000000)(lb:b.length<1000000):
  C X (.func 189) [va,vb] m m.n (.bool (gD a b)) m:=by
 apply Cl.fl hX (Us func189);rw[F189];dsimp only[aG,QK,Nx,PJ,TT,TJ,Vb,Vs,No,RM,Zw,Rq,Mh,vg,Γ,Δ];refine aX (λvs mm lo=>vs=[.bool (!(bL a && bL b))]/\m=mm/\m.n<=lo) (λR hR=>?_) ?_
 ·apply aw (pV hX ha ac);rw[bB,ae,ag];refine af (λh=>?_) (λh=>?_);have h:bL a=false:=be;exact hR _ _ _ ⟨be,rfl,ac⟩;have h:bL a:=be;apply aw (pV hX hb ac);rw[bB,ae];exact hR _ _ _ ⟨be,rfl,ac⟩
 rintro _ _ lo ⟨rfl,rfl,l1⟩;rw[av,ag];refine af (λh=>?_) (λh=>?_)
 ·refine⟨?_,l1⟩;have:(bL a && bL b)=false:=(by cases h':(bL a && bL b)with|false=>rfl|true=>rw[h']at h;cases h);unfold gD;rw[this];rfl
 have hv:(bL a && bL b):=(by cases h':(bL a && bL b)with|true=>rfl|false=>rw[h']at h;cases h);rw[IG]at hv;have⟨j0,k0⟩:=hv;have⟨c3,d3⟩:=dH j0;have⟨e3,g3⟩:=dH k0;have⟨ra,m16,o1,b1,p1⟩:=Ho hX ha j0;apply aw o1;have⟨rb,m19,r1,c1,u1⟩:=Ho (m:=m16) hX (hb.ak b1) k0;apply aw r1;have n16:=b1.n;have n19:=c1.n;have i3:((uv a).map Ln.mk).length=a.length:=(by simp[uv]);have j3:((uv b).map Ln.mk).length=b.length:=(by simp[uv]);obtain⟨vL,m22,v1,d1,w1,G2,M2⟩:=Ow.append SY (by simp[aQ.dU]) (p1.ak c1) u1.sl ac be;rw[v1,an];obtain⟨L,hL⟩:∃L,L=(uv a).map Ln.mk++(uv b).map Ln.mk:=⟨_,rfl⟩;rw[<-hL]at d1;have y0:=d1.sl;have y1:L.length<=16:=be;have A1:L.map (·.v)=uv a++uv b:=(by rw[hL,Xj,DC,DC];simp[Function.comp_def]);have A0:∀x∈L,BdL x.v:=λx hx=>(by have:x.v∈L.map (·.v):=NL.2 ⟨x,hx,rfl⟩;rw[A1]at this;rcases L3.1 this with h|h;exact Lf j0 _ h;exact Lf k0 _ h);have n22:=w1.n;have fin:∀(mm:M) (lo:Nat) (r:Bool),r=gD a b->m.n<=lo->aM [Value.bool r]=.bool (gD a b)/\m.n<=lo:=λmm lo r hr l1=>⟨by rw[<-hr];rfl,l1⟩;have bp:∀a b c:Int,bz TE 309 [(0,ν a),(1,ν b),(2,ν c)]=some (.agg #[ν a,ν b,ν c]):=λa b c=>adL rfl rfl rfl;refine Lp.intro (γ:=Nat) (λi=>L.length-i) (λi vs mm lo=>∃vc acc,vs=[vc,ν i]/\i<=L.length/\Ext m22 mm/\m.n<=lo/\Ow m22.n mm acc vc/\xX L acc i 0/\acc.length<=16*i) 0 ⟨_,[],rfl,ZX _,.refl,ac,.nil,⟨λp hp=>(by cases hp),λi' k' f g h=>ac⟩,ZX _⟩ ?_;rintro i vs mm k3 ⟨vc,acc,rfl,hi,hx,B1,r0,F,G1⟩;rw[av,av,(y0.ak hx).len EW,an,aK,ae,ag];refine af (λH1=>?_) (λl3=>?_)
 ·have H1:i<L.length:=be;obtain⟨f,hf⟩:∃f,L[i]?=some f:=⟨_,Np H1⟩;rw[aL,ae,wrap64];refine Lp.intro (γ:=Nat) (λk=>L.length-k) (S7 m22 m.n L i) (i+1) ⟨vc,acc,rfl,Aj _,ac,hx,B1,r0,⟨F.snd,λi' k' f g hc K1 hf hg h1 h2=>F.cpl i' k' f g ac K1 hf hg h1 h2⟩,ac⟩ ?_;rintro k vs d0 ja ⟨vc,acc,rfl,K1,hk,b0,O1,r0,F,G1⟩;have n36:=b0.n;rw[av,av,(y0.ak b0).len EW,an,aK,ae,ag];refine af (λg1=>?_) (λO2=>?_)
  ·have g1:k<L.length:=be;obtain⟨g,hg⟩:∃f,L[k]?=some f:=⟨_,Np g1⟩;have⟨a1,m3,n3,a12,e1,f10,d2,f11,g2,f12,i2⟩:=QN (y0.ak b0) hf;have⟨a2,a20,a21,a22,e2,f20,j2,f21,k2,f22,l2⟩:=QN (y0.ak b0) hg;have bf:=A0 f (Jc hf);have bg:=A0 g (Jc hg);have bm:=KA bf bg;have bn:=Kw bm;have wx:IntKind.i64.wrap (f.v.y*g.v.w-g.v.y*f.v.w)=(meet f.v g.v).x:=bm.1.wr ce;have wy:IntKind.i64.wrap (f.v.w*g.v.x-g.v.w*f.v.x)=(meet f.v g.v).y:=bm.2.1.wr ce;have ww:IntKind.i64.wrap (f.v.x*g.v.y-g.v.x*f.v.y)=(meet f.v g.v).w:=bm.2.2.wr ce;simp only[e1,f10,d2,f11,g2,f12,i2,e2,f20,j2,f21,k2,f22,l2,ae,kO,eZ,AV,AU,wx,wy,ww,bp];refine ah λo3 P2 T1 Q2=>?_;unfold ptrTo;refine aj Bg T1 rfl rfl rfl λh0 T2 l0 b3=>?_;have n0:Ext d0 h0:=⟨ac,be⟩;have l0:h0.get d0.n=.cells (vC (meet f.v g.v)) 309 none:=l0;have B0:h0.get d0.n=.cells [ν (meet f.v g.v).x,ν (meet f.v g.v).y,ν (meet f.v g.v).w] 309 none:=l0;have o2:∀mm:M,∀x y w:Int,mm.get d0.n=.cells [ν x,ν y,ν w] 309 none->aC TE mm 3 (Ψ d0.n (0+0))=some (ν x)/\aC TE mm 3 (Ψ d0.n (0+1))=some (ν y)/\aC TE mm 3 (Ψ d0.n (0+2))=some (ν w):=λmm x y w h=>(by refine⟨?_,?_,?_⟩ <;>rw[bR,aH h] <;>rfl)
   have s0:∀(g0:Φ) (m':M) (e0:Nat) (o0:List Pt),h0.n<=m'.n->(∀c,c<m22.n->m'.get c=m22.get c)->m.n<=e0->Ow m22.n m' o0 g0->xX L o0 i (k+1)->o0.length<=acc.length+1->
     ∃g',L.length-g'<L.length-k/\S7 m22 m.n L i g' [g0,Value.int .i64 ((k+1:Nat):Int)] m' e0:=λg0 m' e0 o0 h1 h2 h3 h4 h5 h6=>
    ⟨k+1,ac,g0,o0,rfl,ac,ac,⟨ac,h2⟩,h3,h4,h5,ac⟩
   have P0:∀c,c<m22.n->h0.get c=m22.get c:=λc hc=>(by rw[n0.get c ac,b0.get c hc])
   have b2:∀(p:V) (mm:M) (e0:Nat),p=norm (meet f.v g.v)->(meet f.v g.v).w≠0->mm.get d0.n=.cells (vC p) 309 none->Ext d0 mm->h0.n<=mm.n->m.n<=e0->∀(g0:Φ) (m':M) (p0:Nat),mm.n<=m'.n->(∀c,c<m22.n->m'.get c=mm.get c)->min e0 m22.n<=p0->
     Ow m22.n m' (if N0 L p then acc++ [Pt.mk p]else acc) g0->∃g',L.length-g'<L.length-k/\S7 m22 m.n L i g' [g0,Value.int .i64 ((k+1:Nat):Int)] m' p0:=by
    intro p mm e0 hp hw r3 c2 Q0 i1 g0 m' p0 h1 h2 h3 h4;by_cases Gi:N0 L p=true;·rw[QL Gi]at h4;refine s0 g0 m' p0 _ ac (λc hc=>by rw[h2 c hc,c2.get c ac,b0.get c hc]) ac h4 ?_ co;rw[hp]at Gi⊢;exact F.add hf hg hw Gi
    ·rw[MO Gi]at h4;refine s0 g0 m' p0 _ ac (λc hc=>by rw[h2 c hc,c2.get c ac,b0.get c hc]) ac h4 ?_ ac;exact F.skip hf hg λh=>Gi be
   obtain⟨q0,q1,q2⟩:=o2 h0 _ _ _ B0;rw[mL,ae,q2,ae,aJ,ae,ag];refine af (λhw=>?_) (λhw=>?_)
   ·have hw:(meet f.v g.v).w=0:=be;rw[aL,ae,wrap64];exact s0 vc h0 _ acc (Aj _) P0 ac (r0.ak n0) (F.skip hf hg λh=>h.1 hw) ac
   have hw:(meet f.v g.v).w≠0:=be;rw[ae,q2,ae,aK,ae,ag];refine af (λj1=>?_) (λk1=>?_)
   ·have j1:(meet f.v g.v).w<0:=be;have Q0:norm (meet f.v g.v)=(meet f.v g.v).neg:=(by unfold norm;rw[QL j1]);have nx:∀{N x:Int},tD N x->N<9223372036854775808->IntKind.i64.wrap (0-x)= -x:=λ{N x} h hN=>(by rw[wrap64 (by have:=h.2;omega) (by have:=h.1;omega)];omega);rw[mN,ae,q0,ae,EM,ae,mM,ae,q1,ae,EM,ae,ae,q2,ae,EM,ae,nx bm.1 ce,nx bm.2.1 ce,nx bm.2.2 ce,bp,ae];refine aj Bg B0 rfl rfl rfl λO0 u2 i0 v2=>?_;have i0:O0.get d0.n=.cells (vC (norm (meet f.v g.v))) 309 none:=(by rw[Q0];exact i0);have u0:Ext d0 O0:=⟨ac,be⟩;exact K0 (P:=λvs mm lo=>∃g',L.length-g'<L.length-k/\S7 m22 m.n L i g' vs mm lo) (n1:=m22.n) (y0.ak (b0.trans u0)) i0 (r0.ak u0) ac A0 bn ac ac y1 (b2 _ O0 _ rfl hw i0 u0 ac ac)
   have k1:¬(meet f.v g.v).w<0:=be;have Q0:norm (meet f.v g.v)=meet f.v g.v:=(by unfold norm;rw[MO k1]);exact K0 (P:=λvs mm lo=>∃g',L.length-g'<L.length-k/\S7 m22 m.n L i g' vs mm lo) (n1:=m22.n) (y0.ak (b0.trans n0)) l0 (r0.ak n0) ac A0 bm ac ac y1 (b2 _ h0 _ Q0.symm hw l0 n0 (Aj _) ac)
  have w2:k=L.length:=(by grind);subst w2;rw[ae];exact⟨i+1,ac,vc,acc,rfl,ac,b0,O1,r0,F.next (Aj _) ac,ac⟩
 have y2:i=L.length:=(by grind);subst y2;have u3:=hx.n;have z2:∀x∈acc,BdP x.v:=λx hx=>(by have⟨f,hf,g,hg,_,e,_⟩:=F.snd x hx;rw[e];obtain⟨f',A2,rfl⟩:=NL.1 hf;obtain⟨g',B2,rfl⟩:=NL.1 hg;exact Kw (KA (A0 _ A2) (A0 _ B2)));refine abU (R:=λvs _ lo=>aM vs=.bool (gD a b)/\m.n<=lo) (n1:=m22.n) r0.sl z2 ac ac (λm' e0 u v w hu hv hw hd i1=>fin m' e0 true ?_ ac) (λm' e0 hz i1=>fin m' e0 false ?_ ac)
 ·refine((GZ j0 k0).2 ⟨λhs=>hd ?_,λhs=>hd ?_⟩).symm;exact G7 j0 k0 (L:=L.map (·.v)) be hs (F.snd _ hu) (F.snd _ hv) (F.snd _ hw);exact G7 k0 j0 (L:=L.map (·.v)) be hs (F.snd _ hu) (F.snd _ hv) (F.snd _ hw)
 ·cases ho:gD a b with
  |false=>rfl
  |true=>exfalso;have⟨s1,s2⟩:=(GZ j0 k0).1 ho;have⟨u,v,w,cu,cv,cw,hd⟩:=ada j0 k0 s1 s2;rw[<-A1]at cu cv cw;exact hd (Vk hz (F.CG cu) (F.CG cv) (F.CG cw))
end
structure UW where
 u:Un
 w:Φ
abbrev UW.c(x:UW):Ω:=x.u.c x.w
abbrev UW.v(x:UW):Φ:=x.u.v x.w
instance:aQ UW where
 ty:=43
 sz:=6
 agg:=true
 dU:=[]
 rep _ x cs:=cs=x.c/\one x.w=true
 pos:=ce
 one:=be
 len:=dg
 iL:=by rintro _ x _ ⟨rfl,h⟩;exact Un.dt h
 aY:=be
def cM:rp TE 27 43 UW:=⟨ai.t27,ai.t43,bv,⟨_,rfl⟩,rfl,bv,rfl,rfl⟩
def zh:vU TE 27 UW:=⟨ai.t27,ai.t43,bv,rfl,rfl,bv,ce,rfl⟩
def Own(n1:Nat)(m:M)(l:List UW)(b:Nat):Prop:=0 < l.length/\n1<=b/\∃cs,m.get b=.cells cs 43 (some 6)/\cs.length=l.length*6/\∀i x,l[i]?=some x->aQ.rep m x (chunk cs 6 i)
def Own.ow{l:List UW}{b:Nat}(h:Own n1 m l b):Ow n1 m l (RR b 0 l.length l.length):=by have⟨F,h2,cs,h3,h4,h5⟩:=h;exact .inr ⟨b,cs,rfl,F,h2,h3,h4,h5⟩
def Own.of{l:List UW}{v:Φ}(h:Ow n1 m l v)(F:l≠ []):∃b,v=RR b 0 l.length l.length/\Own n1 m l b:=by rcases h with⟨_,h⟩|⟨b,cs,rfl,h1,h2,h3,h4,h5⟩;grind;exact⟨b,rfl,h1,h2,cs,h3,h4,h5⟩
def Own.aY{l:List UW}{b:Nat}{m':M}(h:Own n1 m l b)(hb:m'.get b=m.get b):Own n1 m' l b:=by have⟨F,h2,cs,h3,h4,h5⟩:=h;exact⟨F,h2,cs,be,h4,λi x hi=>h5 i x hi⟩
def Wb:eq? TE 46 p.v q.v=some (decide (p=q)):=by have e:eq? TE 46 p.v q.v=some ((p.x==q.x) && ((p.y==q.y) && true)):=bv;rw[e];have⟨a,b⟩:=p;have⟨c,d⟩:=q;by_cases F:a=c <;>by_cases h2:b=d <;>simp[F,h2]
def AB{x:UW}:aO TE m 27 1 [(0,x.v)]=some (.slice (some ⟨m.n,0,none⟩) 1 1,m.push (.cells x.c 43 none)):=bv
def DV{x:UW}{b:Nat}(h:m.get b=.cells x.c 43 g)(hw:one x.w):Sl m [x] (RR b 0 1 1):=
 .inr ⟨b,0,1,_,g,rfl,h,Aj _,λi y hi=>by match i with|0=>cases hi;exact⟨rfl,hw⟩|i+1=>cases hi⟩
def Pl.nf(p:Pl):Prop:=0<=p.x/\p.x<=40/\0<=p.y/\p.y<=40
theorem _root_.Go.D.Sl.gh{l:List UW}{v:Φ}(h:Sl m l v){i:Nat}{x:UW}(hi:l[i]?=some x){k:IntKind}:∃a,aE TE 27 v (.int k i)=some a/\aC TE m 43 a=some x.v/\one x.w:=by obtain⟨a,cs,F,h2,rfl,h3⟩:=h.index cM (k:=k) hi;exact⟨a,F,h2,h3⟩
def KF{b:Nat}{x:UW}{e:TypeId}(h:m.get b=.cells x.c e g):aC TE m 43 (Ψ b 0)=some x.v:=bQ h
def jD(u:Un):Bool:=di u.id 0 99 && di u.kind 1 8 && di u.cD 0 7 && decide (0<=u.back) && decide (u.back < u.front) && decide (u.front<=8) && bL u.shape
def mD(a b:Un):Bool:=jD a && jD b && decide (max a.back b.back < min a.front b.front)
def gR(a b:Un):Bool:=mD a b && gD a.shape b.shape
def AI(hX:cy X)(n lo hi:Int):C X (.func 116) [ν n,ν lo,ν hi] m m.n (.bool (di n lo hi)) m:=by apply Cl.fl hX (Us func116);rw[F116];dsimp only[aG];refine aX (λvs m2 F=>vs=[.bool (di n lo hi)]/\m.n<=F) (λR hR=>?_) ?_;simp only[cO,ae,ag];refine af (λh=>hR _ _ _ ⟨by simp[di,h],Aj _⟩) (λh=>hR _ _ _ ⟨by simp[di,h],Aj _⟩);rintro _ m2 F ⟨rfl,hl⟩;rw[av];exact⟨rfl,hl⟩
def ji{b:Nat}{u:Un}{w:Φ}(h:m.get b=.cells (u.c w) 43 g):
  aC TE m 3 (Ψ b (0+0))=some (ν u.id)/\aC TE m 3 (Ψ b (0+1))=some (ν u.kind)/\aC TE m 3 (Ψ b (0+2))=some (ν u.cD)/\
  aC TE m 41 (Ψ b (0+3))=some w/\aC TE m 3 (Ψ b (0+4))=some (ν u.back)/\aC TE m 3 (Ψ b (0+5))=some (ν u.front):=by refine⟨?_,?_,?_,?_,?_,?_⟩ <;>first|(rw[bR,aH h];rfl)|(rw[qP,aH h];rfl)
def lg(hX:cy X){u:Un}{w:Φ}(hw:Sl m u.shape w)(hb:u.shape.length<4611686018427387904):C X (.func 62) [u.v w] m m.n (.bool (jD u)) m:=by apply Cl.fl hX (Us func62);rw[F62];dsimp only[aG];refine ah λm1 g0 b0 d0=>?_;simp only[bd]at b0;have e0:Ext m m1:=⟨ac,d0⟩;have b0:m1.get m.n=.cells (u.c w) 43 none:=b0;have⟨l0,l1,l2,l3,l4,l5⟩:=ji b0;unfold ptrTo;refine aX (λvs mm lo=>vs=[.bool (di u.id 0 99 && di u.kind 1 8 && di u.cD 0 7)]/\m1=mm/\m.n<=lo) (λR hR=>?_) ?_;rw[aW,ae,l0,ae];apply aw (AI hX _ _ _);rw[ag];refine af (λh1=>?_) (λh1=>hR _ _ _ ⟨be,rfl,ac⟩);rw[cX,ae,l1,ae];apply aw (AI hX _ _ _);rw[ag];refine af (λh2=>?_) (λh2=>hR _ _ _ ⟨be,rfl,ac⟩);rw[cj,ae,l2,ae];apply aw (AI hX _ _ _);exact hR _ _ _ ⟨be,rfl,ac⟩;rintro _ _ lo ⟨rfl,rfl,F⟩;rw[av];refine aX (λvs mm lo=>vs=[.bool (jD u)]/\m.n<=lo) (λR hR=>?_) ?_;rw[ag];refine af (λh=>?_) (λh=>hR _ _ _ ⟨by unfold jD;rw[h];rfl,F⟩);simp only[bA,dp,dn,ae,l3,l4,l5,cO,aK,ag];refine af (λh1=>?_) (λh1=>hR _ _ _ ⟨by unfold jD;rw[h,h1];rfl,F⟩);refine af (λh2=>?_) (λh2=>hR _ _ _ ⟨by unfold jD;rw[h,h1,h2];rfl,F⟩);refine af (λh3=>?_) (λh3=>hR _ _ _ ⟨by unfold jD;rw[h,h1,h2,h3];rfl,F⟩);apply aw (mi hX (hw.ak e0) hb);exact hR _ _ _ ⟨by unfold jD;rw[h,h1,h2,h3];rfl,ac⟩;rintro _ mm lo ⟨rfl,F⟩;rw[av];exact⟨rfl,F⟩
def lz(hX:cy X){u:Un}{w:Φ}(hw:Sl m u.shape w)(hb:u.shape.length<4611686018427387904):C X (.func 146) [u.v w] m m.n (.bool (jD u)) m:=by apply Cl.fl hX (Us func146);rw[F146];dsimp only[aG];refine ah λm1 g0 b0 d0=>?_;simp only[bd]at b0;have e0:Ext m m1:=⟨ac,d0⟩;have b0:m1.get m.n=.cells (u.c w) 43 none:=b0;have⟨l0,l1,l2,l3,l4,l5⟩:=ji b0;unfold ptrTo;have n1:di u.id 0 99=(!(decide (u.id<0)) && !(decide (99<u.id))):=(by unfold di;by_cases a:u.id<0 <;>by_cases b:99<u.id <;>simp[a,b] <;>omega);have n2:di u.kind 1 8=(!(decide (u.kind<1)) && !(decide (8<u.kind))):=(by unfold di;by_cases a:u.kind<1 <;>by_cases b:8<u.kind <;>simp[a,b] <;>omega);have n3:di u.cD 0 7=(!(decide (u.cD<0)) && !(decide (7<u.cD))):=(by unfold di;by_cases a:u.cD<0 <;>by_cases b:7<u.cD <;>simp[a,b] <;>omega);refine aX (λvs mm lo=>vs=[.bool (!(di u.id 0 99 && di u.kind 1 8 && di u.cD 0 7))]/\m1=mm/\m.n<=lo) (λR hR=>?_) ?_;simp only[aW,cX,cj,ae,l0,l1,l2,aK,cz,ag];rw[n1,n2,n3]at hR;refine af (λh1=>hR _ _ _ ⟨be,rfl,Aj _⟩) (λh1=>?_);refine af (λh2=>hR _ _ _ ⟨be,rfl,Aj _⟩) (λh2=>?_);refine af (λh3=>hR _ _ _ ⟨be,rfl,Aj _⟩) (λh3=>?_);refine af (λh4=>hR _ _ _ ⟨be,rfl,Aj _⟩) (λh4=>?_);refine af (λh5=>hR _ _ _ ⟨be,rfl,Aj _⟩) (λh5=>?_);exact hR _ _ _ ⟨be,rfl,Aj _⟩;rintro _ _ lo ⟨rfl,rfl,F⟩;rw[av,ag];refine af (λh=>?_) (λh=>?_);refine⟨?_,F⟩;have h:(di u.id 0 99 && di u.kind 1 8 && di u.cD 0 7)=false:=(by cases h':(di u.id 0 99 && di u.kind 1 8 && di u.cD 0 7)with|false=>rfl|true=>rw[h']at h;cases h);unfold jD;rw[h];rfl;have h:(di u.id 0 99 && di u.kind 1 8 && di u.cD 0 7):=(by cases h':(di u.id 0 99 && di u.kind 1 8 && di u.cD 0 7)with|true=>rfl|false=>rw[h']at h;cases h);refine aX (λvs mm lo=>vs=[.bool (jD u)]/\m.n<=lo) (λR hR=>?_) ?_;simp only[bA,dp,dn,ae,l3,l4,l5,cO,cZ,aK,ag];refine af (λh1=>?_) (λh1=>hR _ _ _ ⟨by unfold jD;rw[h,h1];rfl,F⟩);refine af (λh2=>?_) (λh2=>hR _ _ _ ⟨by unfold jD;rw[h,h1,h2];rfl,F⟩);refine af (λh3=>?_) (λh3=>hR _ _ _ ⟨by unfold jD;rw[h,h1,h2,h3];rfl,F⟩);apply aw (pV hX (hw.ak e0) hb);exact hR _ _ _ ⟨by unfold jD;rw[h,h1,h2,h3];rfl,ac⟩;rintro _ mm lo ⟨rfl,F⟩;rw[av];exact⟨rfl,F⟩
def zo(hX:cy X){a b:Un}{va vb:Φ}(ha:Sl m a.shape va)(hb:Sl m b.shape vb)(la:a.shape.length<4611686018427387904)(lb:b.shape.length<4611686018427387904):
  C X (.func 28) [a.v va,b.v vb] m m.n (.tuple #[ν (max a.back b.back),ν (min a.front b.front),.bool (mD a b)]) m:=by apply Cl.fl hX (Us func28);rw[F28];dsimp only[aG];refine ah λm1 g0 d0 h0=>?_;refine ah λm2 i0 F j0=>?_;simp only[bd]at d0 F;have b0:Ext m m2:=⟨ac,be⟩;have g1:m2.get m.n=.cells (a.c va) 43 none:=be;have g2:m2.get m1.n=.cells (b.c vb) 43 none:=F;obtain⟨-, -, -, -,a4,a5⟩:=ji g1;obtain⟨-, -, -, -,b4,b5⟩:=ji g2;unfold ptrTo;simp only[dp,dn,ae,a4,a5,b4,b5,AD,ug,an];refine aX (λvs mm lo=>vs=[ν (max a.back b.back),ν (min a.front b.front),.bool (mD a b)]/\m.n<=lo) (λR hR=>?_) ?_;rw[aK,ae,ag];refine af (λh=>?_) (λh=>hR _ _ _ ⟨by unfold mD;rw[h,SJ],ac⟩);rw[bQ g1,ae];apply aw (lg hX (ha.ak b0) la);rw[ag];refine af (λh1=>?_) (λh1=>hR _ _ _ ⟨by unfold mD;rw[h1];rfl,ac⟩);rw[bQ g2,ae];apply aw (lg hX (hb.ak b0) lb);exact hR _ _ _ ⟨by unfold mD;rw[h,h1,Dn,Mn],ac⟩;rintro _ mm lo ⟨rfl,e0⟩;rw[av,av,av];exact⟨rfl,e0⟩
def Ip(F:cy X){a b:Un}{va vb:Φ}(ha:Sl m a.shape va)(hb:Sl m b.shape vb)(la:a.shape.length<4611686018427387904)(lb:b.shape.length<4611686018427387904):
  ∃x y,C X (.func 28) [a.v va,b.v vb] m m.n (.tuple #[ν x,ν y,.bool (mD a b)]) m:=⟨_,_,zo F ha hb la lb⟩
def lS{u:Un}(h:jD u):u.shape.length<=8:=by unfold jD at h;rw[IG]at h;exact(dH h.2).2
def zn(hX:cy X){a b:Un}{va vb:Φ}(ha:Sl m a.shape va)(hb:Sl m b.shape vb)(la:a.shape.length<4611686018427387904)(lb:b.shape.length<4611686018427387904):
  C X (.func 160) [a.v va,b.v vb] m m.n (.bool (gR a b)) m:=by apply Cl.fl hX (Us func160);rw[F160];dsimp only[aG];refine ah λm1 g0 d0 h0=>?_;refine ah λm2 i0 b0 j0=>?_;simp only[bd]at d0 b0;have F:Ext m m2:=⟨ac,be⟩;have g1:m2.get m.n=.cells (a.c va) 43 none:=be;have g2:m2.get m1.n=.cells (b.c vb) 43 none:=b0;obtain⟨-, -, -,a3, -, -⟩:=ji g1;obtain⟨-, -, -,b3, -, -⟩:=ji g2;unfold ptrTo;rw[bQ g1,ae,bQ g2,ae];have⟨x,y,hc⟩:=Ip (m:=m2) hX (ha.ak F) (hb.ak F) la lb;apply aw hc;rw[aD,aD,aD];simp only[LB,IM,ae];refine aX (λvs mm lo=>vs=[.bool (gR a b)]/\m.n<=lo) (λR hR=>?_) ?_;rw[ag];refine af (λh=>?_) (λh=>hR _ _ _ ⟨by unfold gR;rw[h];rfl,ac⟩);have h':=h;unfold mD at h';simp only[IG]at h';rw[bA,ae,a3,ae,bA,ae,b3,ae];apply aw (sf hX (ha.ak F) (hb.ak F) (by have:=lS h'.1.1;omega) (by have:=lS h'.1.2;omega));exact hR _ _ _ ⟨by unfold gR;rw[h];rfl,ac⟩;rintro _ mm lo ⟨rfl,e0⟩;rw[av];exact⟨rfl,e0⟩
def zx(hX:cy X){a b:Un}{va vb:Φ}(ha:Sl m a.shape va)(hb:Sl m b.shape vb)(la:a.shape.length<4611686018427387904)(lb:b.shape.length<4611686018427387904):
  C X (.func 148) [a.v va,b.v vb] m m.n (.bool (mD a b)) m:=by apply Cl.fl hX (Us func148);rw[F148];dsimp only[aG];refine ah λm1 g0 d0 h0=>?_;refine ah λm2 i0 F j0=>?_;simp only[bd]at d0 F;have b0:Ext m m2:=⟨ac,be⟩;have g1:m2.get m.n=.cells (a.c va) 43 none:=be;have g2:m2.get m1.n=.cells (b.c vb) 43 none:=F;obtain⟨-, -, -, -,a4,a5⟩:=ji g1;obtain⟨-, -, -, -,b4,b5⟩:=ji g2;unfold ptrTo;refine aX (λvs mm lo=>vs=[.bool (mD a b)]/\m.n<=lo) (λR hR=>?_) ?_;rw[bQ g1,ae];apply aw (lz hX (ha.ak b0) la);rw[ag];refine af (λh1=>?_) (λh1=>hR _ _ _ ⟨by unfold mD;rw[h1];rfl,ac⟩);rw[bQ g2,ae];apply aw (lz hX (hb.ak b0) lb);rw[ag];refine af (λh2=>?_) (λh2=>hR _ _ _ ⟨by unfold mD;rw[h2,SJ];rfl,ac⟩);simp only[dp,dn,ae,a4,a5,b4,b5,AD,ug,an,aK];exact hR _ _ _ ⟨by unfold mD;rw[h1,h2,Dn,Dn],ac⟩;rintro _ mm lo ⟨rfl,e0⟩;rw[av];exact⟨rfl,e0⟩
def acC(hX:cy X){a b:Un}{va vb:Φ}(ha:Sl m a.shape va)(hb:Sl m b.shape vb)(la:a.shape.length<4611686018427387904)(lb:b.shape.length<4611686018427387904):
  C X (.func 147) [a.v va,b.v vb] m m.n (.bool (gR a b)) m:=by apply Cl.fl hX (Us func147);rw[F147];dsimp only[aG];refine ah λm1 g0 d0 h0=>?_;refine ah λm2 i0 b0 j0=>?_;simp only[bd]at d0 b0;have F:Ext m m2:=⟨ac,be⟩;have g1:m2.get m.n=.cells (a.c va) 43 none:=be;have g2:m2.get m1.n=.cells (b.c vb) 43 none:=b0;obtain⟨-, -, -,a3, -, -⟩:=ji g1;obtain⟨-, -, -,b3, -, -⟩:=ji g2;unfold ptrTo;refine aX (λvs mm lo=>vs=[.bool (gR a b)]/\m.n<=lo) (λR hR=>?_) ?_;rw[bQ g1,ae,bQ g2,ae];apply aw (zx hX (ha.ak F) (hb.ak F) la lb);rw[ag];refine af (λh=>?_) (λh=>hR _ _ _ ⟨by unfold gR;rw[h];rfl,ac⟩);have h':=h;unfold mD at h';simp only[IG]at h';rw[bA,ae,a3,ae,bA,ae,b3,ae];apply aw (zy hX (ha.ak F) (hb.ak F) (by have:=lS h'.1.1;omega) (by have:=lS h'.1.2;omega));exact hR _ _ _ ⟨by unfold gR;rw[h];rfl,ac⟩;rintro _ mm lo ⟨rfl,e0⟩;rw[av];exact⟨rfl,e0⟩
end Go.Proofs.YthffgohpkjpkbaaGreatDoor
namespace Go.D
open Go
section
variable{E:Env}{m:M}{T:TypeId}{ti:TI}{e:TypeId}{b n:Nat}{cs:Ω}{te:TypeId}{g:Option Nat}
theorem DU(t1:E.ty.get T=some ti)(t2:ti.d=.slice e)(hk:0<ti.es)(h:m.get b=.cells cs te g)(hg:g=none\/g=some ti.es){o c i:Nat}(F:n<=c)(hi:i<=c):
  slice? E m T (RR b o n c) none (some (ν i)) none=some (RR b o i c):=by have b1:eS n c none (some (ν i)) none=some (0,i,c):=(by unfold eS;simp only[jy hi]);have e1:Nat.beq ti.es 0=false:=(by cases hb:Nat.beq ti.es 0 with|false=>rfl|true=>have:=VA hb;omega);have e2:Nat.ble n c:=Bq F;have e0:(⟨b,o,none⟩:Addr).add (0*ti.es)=⟨b,o,none⟩:=(by rw[bs rfl,So];rfl);rcases hg with rfl|rfl;simp only[slice?,t1,t2,b1,h,e1,e2,T9,Vr,JC,Sr,e0];grind;have e3:Nat.beq ti.es ti.es:=WD _;simp only[slice?,t1,t2,b1,h,e1,e2,e3,T9,Vr,JC,gc,Sr,e0];grind
theorem oL(t1:E.ty.get T=some ti)(t2:ti.d=.slice e)(hk:0<ti.es)(h:m.get b=.cells cs te g)(hg:g=none\/g=some ti.es){o c j:Nat}(F:n<=c)(hj:j<=n):
  ∃a',slice? E m T (RR b o n c) (some (ν j)) none none=some (.slice (some a') (n-j) (c-j))/\(j<c->a'=⟨b,o+j*ti.es,none⟩):=by have b1:eS n c (some (ν j)) none none=some (j,n,c):=(by unfold eS;simp only[jy hj]);have e1:Nat.beq ti.es 0=false:=(by cases hb:Nat.beq ti.es 0 with|false=>rfl|true=>have:=VA hb;omega);have e2:Nat.ble n c:=Bq F;have e0:(⟨b,o,none⟩:Addr).add (j*ti.es)=⟨b,o+j*ti.es,none⟩:=bs (a:=⟨b,o,none⟩) rfl _;have e4:j<c->Nat.beq c j=false:=λb0=>(by cases hb:Nat.beq c j with|false=>rfl|true=>have:=VA hb;omega);rcases hg with rfl|rfl;refine⟨bif Nat.beq c j then⟨b,o,none⟩else(⟨b,o,none⟩:Addr).add (j*ti.es),?_,be⟩;simp only[slice?,t1,t2,b1,h,e1,e2,T9,Vr,JC];have e3:Nat.beq ti.es ti.es:=WD _;refine⟨bif Nat.beq c j && !((none:Option Φ).isNone && Nat.beq (o+c*ti.es) cs.length)then⟨b,o,none⟩else(⟨b,o,none⟩:Addr).add (j*ti.es),?_,be⟩;simp only[slice?,t1,t2,b1,h,e1,e2,e3,T9,Vr,JC,gc]
def Ow.zF{α:Type}[aQ α]{n1:Nat}{m m':M}{l:List α}{v:Φ}(ht:aQ.dU α=[])(h:Ow n1 m l v)(hk:∀c,n1<=c->c<m.n->m'.get c=m.get c):Ow n1 m' l v:=by rcases h with h|⟨b,cs,h1,h2,F,h4,h5,h6⟩;exact .inl h;exact .inr ⟨b,cs,h1,h2,F,by rw[hk b F (M.aP h4),h4],h5,λi x hi=>aQ.aY (h6 i x hi) λb c t g _ h=>be⟩
def Z0{α:Type}[aQ α](m:M)(l:List α)(v:Φ):Prop:=
 Sl m l v/\∃b o c F g,v=.slice (some ⟨b,o,none⟩) l.length c/\l.length<=c/\m.get b=.cells F (aQ.ty α) g/\(g=none\/g=some (aQ.sz α))
def Ow.slc{α:Type}[aQ α]{n1:Nat}{l:List α}{v:Φ}(h:Ow n1 m l v)(F:l≠ []):Z0 m l v:=by refine⟨h.sl,?_⟩;rcases h with⟨_,rfl⟩|⟨b,cs,h1,h2,h3,h4,h5,h6⟩;grind;grind
def Z0.ak{α:Type}[aQ α]{m':M}{l:List α}{v:Φ}(h:Z0 m l v)(he:Ext m m'):Z0 m' l v:=by have⟨F,b,o,c,bc,g,h2,h3,h4,h5⟩:=h;exact⟨F.ak he,b,o,c,bc,g,h2,h3,he.cells h4,h5⟩
def Sl.part{α:Type}[aQ α]{l:List α}{b o c:Nat}(h:Sl m l (RR b o l.length c)){i k:Nat}(F:i+k<=l.length){c':Nat}:Sl m ((l.drop i).take k) (RR b (o+i*aQ.sz α) k c'):=by have hlen:((l.drop i).take k).length=k:=be;rcases h with⟨h,_⟩|⟨b',o',c1,bc,g,he,hb,hle,b0⟩;cases h;cases he;refine .inr ⟨b,_,c',bc,g,by rw[hlen],hb,?_,λj x hj=>?_⟩;rw[hlen];have:(i+k)*aQ.sz α<=l.length*aQ.sz α:=WQ _ F;grind;grind
end
end Go.D
namespace Go.Proofs.YthffgohpkjpkbaaGreatDoor
variable{us:List Un}{F i n oc sl:Nat}{a b x:UW}{m' m1 mm:M}{r v':Φ}{acc:List UW}{base:Option Addr}
variable{X:aF}{m:M}
structure cq(us:List Un):Prop where
 len:us.length<=12
 val:∀u∈us,jD u=true
 zg:∀(i:Nat) (a b:Un),us[i]?=some a->us[i+1]?=some b->a.id < b.id
 apart:∀(i k:Nat) (a b:Un),i < k->us[i]?=some a->us[k]?=some b->gR a b=false
open Classical in
noncomputable def iV(us:List Un):Bool:=decide (cq us)
open Classical in
theorem eQ(h:cq us):iV us=true:=by unfold iV;exact L5 h
open Classical in
theorem qU(h:¬cq us):iV us=false:=by unfold iV;exact Qr h
open Classical in
theorem qi:iV us=true↔cq us:=by unfold iV;exact decide_eq_true_iff
def acG(a b:Un):mD a b=mD b a:=by unfold mD;grind
def acR(a b:List Pl):gD a b=gD b a:=by unfold gD;grind
def nW(a b:Un):gR a b=gR b a:=by unfold gR;rw[acG,acR]
def bH(l:List UW):List Un:=l.map (·.u)
def kh{l:List UW}(h:l[i]?=some x):(bH l)[i]?=some x.u:=by unfold bH;rw[U2,h];rfl
def cE{l:List UW}:(bH l).length=l.length:=by unfold bH;rw[MB]
def rR{l:List UW}{u:Un}(h:(bH l)[i]?=some u):∃x,l[i]?=some x/\x.u=u:=by unfold bH at h;rw[U2]at h;cases F:l[i]? with|none=>rw[F]at h;cases h|some x=>rw[F]at h;cases h;exact⟨x,rfl,rfl⟩
def rQ{l:List UW}{u:Un}(h:u∈bH l):∃x∈l,x.u=u:=by unfold bH at h;obtain⟨x,F,rfl⟩:=NL.1 h;exact⟨x,F,rfl⟩
structure cC(m:M)(l:List UW)(v:Φ):Prop where
 sl:Sl m l v
 sh:∀x∈l,Sl m x.u.shape x.w
 ln:∀x∈l,x.u.shape.length < 1000000
 cap:l=[]\/∃b o c bc g,v=.slice (some ⟨b,o,none⟩) l.length c/\l.length<=c/\m.get b=.cells bc 43 g/\(g=none\/g=some 6)
def cC.ak{l:List UW}{v:Φ}(h:cC m l v)(F:Ext m m'):cC m' l v:=
 ⟨h.sl.ak F,λx b0=>(h.sh x b0).ak F,h.ln,h.cap.imp id λ⟨b,o,c,bc,g,h1,h2,h3,h4⟩=>⟨b,o,c,bc,g,h1,h2,F.cells h3,h4⟩⟩
def cC.aY{l:List UW}{v:Φ}(h:cC m l v)(F:∀c cs t g,m.get c=.cells cs t g->(t=43\/t=46)->m'.get c=.cells cs t g):cC m' l v:=
 ⟨h.sl.aY λb c t g hb ht=>F b c t g hb (.inl (by simpa[aQ.ty,aQ.dU]using ht)),λx hx=>(h.sh x hx).aY λb c t g hb ht=>F b c t g hb (.inr (by simpa[aQ.ty,aQ.dU]using ht)),h.ln,
  h.cap.imp id λ⟨b,o,c,bc,g,h1,h2,h3,h4⟩=>⟨b,o,c,bc,g,h1,h2,F _ _ _ _ h3 (.inl rfl),h4⟩⟩
def jt:List UW->List (Ω)
 |[]=> []
 |a::r=>r.map (λb=> [a.v,b.v])++jt r
def IV{l:List UW}(h:l[i]?=some a):jt (l.drop i)=(l.drop (i+1)).map (λb=> [a.v,b.v])++jt (l.drop (i+1)):=by have hi:=(Vc.1 h).1;rw[Tt hi,(Vc.1 h).2,jt]
theorem IW{r:List UW}:jt (x::r)=r.map (λb=> [x.v,b.v])++jt r:=rfl
def adq(hX:cy X){l:List UW}{v:Φ}{b:Nat}(hlen:l.length<1000000):
  Z5 TE X (.ob λo=>∃cs g,o=.cells cs 43 g) (.func 207) [] [ptrTo b] (jt l) (λm=>m.get b=.cells [v] 29 none/\cC m l v):=by
 intro y n0 B I J m hD hI hJ hy i1 hB d0 h0;refine Cl.gen (R:=λv m2 b=>B<=b/\(I (jt l).length m2\/J m2)) (hX.no _ rfl) (Us func207) rfl ?_;rw[show([]:Ω)++ .func (.yield y) #[] #[]::[ptrTo b]=[.func (.yield y) #[] #[],ptrTo b]from rfl,F207];dsimp only[aG];have ld:∀m1:M,m1.get b=.cells [v] 29 none->aC TE m1 27 (Ψ b (0+0))=some v:=λm1 h=>(by rw[dX,aH h];rfl);unfold ptrTo;rw[bk,ae,ld m (hD _ _ h0).1,ae,(hD _ _ h0).2.sl.len cM,an];refine Lp.intro (γ:=Nat) (λi=>l.length-i) (λi vs m1 lo=>∃P,vs=[ν i]/\i<=l.length/\jt l=P++jt (l.drop i)/\I P.length m1/\n0<=m1.n/\m.n<=m1.n/\B<=lo/\((lo=m.n/\P=[])\/lo<m.n)) 0 ⟨[],rfl,ZX _,rfl,h0,i1,Aj _,ac,.inl ⟨rfl,rfl⟩⟩ ?_;rintro i vs m1 j2 ⟨P,rfl,hi,hP,j0,j1,H1,k2,g0⟩;rw[av,aK,ae,ag];refine af (λF=>?_) (λl2=>?_)
 ·have F:i<l.length:=be;obtain⟨a,ha⟩:∃a,l[i]?=some a:=⟨_,Np F⟩;obtain⟨q,e1,e2,ow⟩:=(hD _ _ j0).2.sl.gh (k:=.i64) ha;rw[e1,ae,e2,ae];refine ah λm13 K1 r0 O1=>?_;refine aj dN r0 rfl rfl (Un.dt ow) λm14 T1 s0 a2=>?_;have u0:Ext m1 m14:=⟨ac,be⟩;have i0:=hI _ _ _ j0 u0;obtain⟨y0,A0⟩:=hD _ _ i0;rw[ae,ld m14 y0,ae,aL,ae,wrap64,show((i:Int)+1)=((i+1:Nat):Int) by omega];obtain⟨a',c',e0,k1⟩:∃a' c',slice? TE m14 27 v (some (ν ((i+1:Nat):Int))) none none=some (.slice (some a') (l.length-(i+1)) c')/\∀(mm:M),cC mm l v->∀j x,l[i+1+j]?=some x->∃q,aE TE 27 (.slice (some a') (l.length-(i+1)) c') (ν j)=some q/\aC TE mm 43 q=some x.v:=(by rcases A0.cap with h|⟨ab,o,c,bc,g,hv,l1,hg,o1⟩;rw[h]at F;simp at F;obtain⟨a',h1,h2⟩:=oL (E:=TE) (m:=m14) (T:=27) (ti:=ai.t27) (e:=43) (b:=ab) (cs:=bc) (te:=43) (g:=g) (n:=l.length) (o:=o) (c:=c) (j:=i+1) Gy rfl ce hg o1 l1 F;refine⟨a',c-(i+1),be,λmm p1 j x hx=>?_⟩;have hj:=(Vc.1 hx).1;have r1:=h2 ac;subst r1;have e0:=p1.sl;rw[hv]at e0;have hp:=Sl.part (i:=i+1) (k:=l.length-(i+1)) (c':=c-(i+1)) e0 ac;have u1:((l.drop (i+1)).take (l.length-(i+1)))[j]?=some x:=(by rw[TP ac,Ns];exact hx);have⟨q,q1,q2,_⟩:=hp.gh (k:=.i64) u1;exact⟨q,q1,q2⟩);rw[e0,ae];have ln:aR TE m14 .len [27] [.slice (some a') (l.length-(i+1)) c']=some (ν (l.length-(i+1):Nat),m14):=Xg;rw[ln,an];have k0:=hP;rw[IV ha,<-ZA]at k0;have B0:∀j x,l[i+1+j]?=some x->(jt l)[P.length+j]?=some [a.v,x.v]:=λj x hx=>(by have hj:=(Vc.1 hx).1;have v1:(l.drop (i+1))[j]?=some x:=be;rw[k0,ZA,T4 ac,H6,RH be,U2,v1];rfl)
  refine Lp.intro (γ:=Nat) (λj=>l.length-j) (λj vs m2 lo=>vs=[ν j]/\j<=l.length-(i+1)/\I (P.length+j) m2/\m1.n<m2.n/\m2.get m1.n=.cells a.c 43 none/\B<=lo/\((lo=m.n/\P=[]/\j=0)\/lo<m.n)) 0
   ⟨rfl,ZX _,i0,ac,s0,ac,by
    rcases g0 with⟨h1,h2⟩|h;·exact .inl ⟨ac,h2,rfl⟩
    exact .inr ac⟩ ?_
  rintro j vs m2 ja ⟨rfl,hj,l0,o2,O0,P0,o0⟩;rw[av,aK,ae,ag];refine af (λQ0=>?_) (λb2=>?_)
  ·have Q0:j<l.length-(i+1):=be;obtain⟨x,hx⟩:∃x,l[i+1+j]?=some x:=⟨_,vW⟩;obtain⟨q,q1,q2⟩:=k1 m2 (hD _ _ l0).2 j x hx;obtain⟨_,_,_,ox⟩:=(hD _ _ l0).2.sl.gh (k:=.i64) hx;rw[q1,ae,q2,ae];refine ah λu2 c2 a1 d2=>?_;refine aj dN a1 rfl rfl (Un.dt ox) λp0 g2 b1 i2=>?_;have b0:Ext m2 p0:=⟨ac,be⟩;rw[KF (b0.cells O0),ae,KF (x:=x) b1,ae,cx];obtain⟨v2,m4,b4,hc,w2,y2,w1,c1⟩:=d0 (P.length+j) [a.v,x.v] p0 ac (B0 j x hx) (hI _ _ _ l0 b0);apply aw hc;have z2:p0.n<=m4.n:=hc.1;rcases c1 with⟨rfl,y1⟩|⟨rfl,A1⟩;rw[bB,ae,ag,T9,aT,aL,ae,wrap64];have d1:m4.get m1.n=.cells a.c 43 none:=(by have g1:=b0.cells O0;rw[w1 m1.n j1 ac ⟨_,_,g1⟩,g1]);exact⟨j+1,ac,rfl,ac,y1,ac,d1,ac,.inr ac⟩;rw[bB,ae,ag,F5,bN];exact .inr ⟨.inr ac,ac,.inr A1⟩
  have A2:j=l.length-(i+1):=(by have:¬(j:Int)< ((l.length-(i+1):Nat):Int):=be;omega);have q0:(P++(l.drop (i+1)).map λb=> [a.v,b.v]).length=P.length+j:=be;rw[ae];refine⟨i+1,ac,_,rfl,ac,k0,be,ac,ac,P0,?_⟩;rcases o0 with⟨h1,h2,h3⟩|h;·refine .inl ⟨h1,?_⟩;rw[<-Ak,q0,h2,h3];rfl
  exact .inr h
 have B1:i=l.length:=(by have:¬(i:Int)< (l.length:Int):=be;omega);subst B1;have G1:jt l=P:=(by rw[hP,List.drop_of_length_le (Aj _)];simp[jt]);rw[G1];rcases g0 with⟨h1,h2⟩|h;·subst h2;exact .inl ⟨rfl,ac,ac,.inl h0⟩
 exact .inr ⟨.inr h,ac,.inl j0⟩
def ph:List UW->List (UW×UW)
 |[]=> []
 |a::r=>r.map (λb=>(a,b))++ph r
theorem yG:∀l:List UW,jt l=(ph l).map λp=> [p.1.v,p.2.v]
 |[]=>rfl
 |a::r=>by rw[IW,ph,Xj,DC,yG r];rfl
theorem BJ:∀{l:List UW} {p:UW×UW},p∈ph l->p.1∈l/\p.2∈l/\∃(i j:Nat),i<j/\l[i]?=some p.1/\l[j]?=some p.2
 |[],p,h=>by cases h
 |a::r,p,h=>by rw[ph]at h;rcases L3.1 h with h|h;obtain⟨b,F,rfl⟩:=NL.1 h;have⟨j,hj⟩:=RL F;exact⟨co,be,0,j+1,ac,rfl,be⟩;have⟨h1,h2,i,j,h3,h4,h5⟩:=BJ h;exact⟨be,be,i+1,j+1,ac,be,be⟩
def MI:∀{l:List UW} (i j:Nat) (a b:UW),i<j->l[i]?=some a->l[j]?=some b->(a,b)∈ph l:=by intro l;induction l with|nil=>intro i j a b _ ha;simp at ha|cons x r ih=>intro i j a b F ha hb;rw[ph,L3];match i,j,F with|0,j+1,_=>grind|i+1,j+1,F=>exact .inr (ih i j a b ac (by simpa using ha) (by simpa using hb))
def Qg{l:List UW}{k:Nat}{args:Ω}(h:(jt l)[k]?=some args):∃p,(ph l)[k]?=some p/\args=[p.1.v,p.2.v]:=by rw[yG,U2]at h;cases F:(ph l)[k]? with|none=>rw[F]at h;cases h|some p=>rw[F]at h;cases h;exact⟨p,rfl,rfl⟩
def Qf(hX:cy X){v:Φ}(hv:cells v=[v]):∃m',C X (.func 159) [.agg #[v]] m m.n (.func (.func 207) #[] #[ptrTo m.n]) m'/\Ext m m'/\m'.n=m.n+1/\m'.get m.n=.cells [v] 29 none:=by have key:∃r m' b,C X (.func 159) [.agg #[v]] m b r m'/\b=m.n/\r=.func (.func 207) #[] #[ptrTo m.n]/\Ext m m'/\m'.n=m.n+1/\m'.get m.n=.cells [v] 29 none:=(by refine Cl.heap (R:=λr m' b=>b=m.n/\r=.func (.func 207) #[] #[ptrTo m.n]/\Ext m m'/\m'.n=m.n+1/\m'.get m.n=.cells [v] 29 none) (hX.no _ rfl) (Us func159) rfl ?_;rw[F159];dsimp only[aG];refine ah λm1 F b0 d0=>?_;exact⟨.inl rfl,ac,rfl,⟨ac,d0⟩,F,b0⟩);obtain⟨r,m',b,hc,rfl,rfl,h1,h2,h3⟩:=key;exact⟨m',hc,h1,h2,h3⟩
def zm{l:List UW}{v:Φ}(h:Sl m l v){i:Nat}{x:UW}(F:l[i]?=some x):∃a a0,aE TE 27 v (ν i)=some a/\az TE 43 a 0=some a0/\aC TE m 3 a0=some (ν x.u.id):=by have⟨b,o,bc,g,cs,e1,hb,hr,_,hj⟩:=h.jc cM (k:=.i64) F;obtain⟨rfl,_⟩:=hr;refine⟨_,_,e1,aW,?_⟩;rw[bR,aH hb,hj 0 ce];rfl
def SV{l:List UW}(F:l[i]?=some a)(hb:l[i+1]?=some b)(h:b.u.id<=a.u.id):¬cq (bH l):=λhf=>by have:=hf.zg i _ _ (kh F) (kh hb);omega
def On{l:List UW}(F:a∈l)(h:jD a.u=false):¬cq (bH l):=λhf=>by have:=hf.val a.u (NL.2 ⟨a,F,rfl⟩);grind
def H4{l:List UW}{j:Nat}(F:i<j)(ha:l[i]?=some a)(hb:l[j]?=some b)(h:gR a.u b.u):¬cq (bH l):=λhf=>by have:=hf.apart i j _ _ F (kh ha) (kh hb);grind
def um(hX:cy X){l:List UW}{v:Φ}(h:cC m l v)(hlen:l.length<1000000):C X (.func 117) [.agg #[v]] m m.n (.bool (iV (bH l))) m:=by
 apply Cl.fl hX (Us func117);rw[F117];dsimp only[δ,ε,ζ,η,ι,κ,ο,ς,υ,χ,ψ,ω,Γ,Θ,Λ];refine ah λm1 u3 b2 w3=>?_;refine ah λm2 y3 a1 c2=>?_;have g0:Ext m m2:=⟨ac,be⟩;have g1:m2.get m.n=.cells [v] 29 none:=(by rw[c2 _ ac,b2];rfl);have y0:∀mm:M,Ext m2 mm->aC TE mm 27 (Ψ m.n (0+0))=some v:=λmm F=>(by rw[dX,aH (F.cells g1)];rfl);have b1:∀(mm:M) (lo:Nat),Ext m2 mm->m.n<=lo->¬cq (bH l)->dh (bh TE mm 4 (Ψ m1.n 0) L4) λm7 b8=>aS (aC TE m7 4 (Ψ m1.n 0)) λv9=>aM [v9]=.bool (iV (bH l))/\m.n<=min lo b8:=(by intro mm lo F d2 hn;refine aj Gx (F.cells a1) rfl rfl rfl λm7 A3 g2 B3=>?_;rw[sE,aH g2];show aS (some (Value.bool false)) _;rw[ae,qU hn];exact⟨rfl,ac⟩);unfold ptrTo;rw[bk,ae,y0 m2 .refl,ae,(h.sl.ak g0).len cM,an,cz,ae,ag];refine af (λi2=>?_) (λhle=>?_);have i2:(12:Int)< l.length:=be;exact b1 m2 m.n .refl (Aj _) λhf=>(by have:=hf.len;rw[cE]at this;omega);have hle:¬(12:Int)< l.length:=be;rw[ae,y0 m2 .refl,ae,(h.sl.ak g0).len cM,an];refine Lp.intro (γ:=Nat) (λi=>l.length-i) (λi vs mm lo=>vs=[ν i]/\i<=l.length/\Ext m2 mm/\m.n<=lo/\(∀j x,j<i->l[j]?=some x->jD x.u)/\(∀j a b,j+1<i->l[j]?=some a->l[j+1]?=some b->a.u.id<b.u.id)) 0 ⟨rfl,ZX _,.refl,Aj _,λj x hj=>ac,λj a b hj=>ac⟩ ?_;rintro i vs mm lo ⟨rfl,hi,F,d2,k0,n0⟩;rw[av,aK,ae,ag];have G3:=F.n;refine af (λc1=>?_) (λO3=>?_);have c1:i<l.length:=be;obtain⟨x,h0⟩:∃a,l[i]?=some a:=⟨_,Np c1⟩;have A0:=Jc h0;have d1:=h.sl.ak (g0.trans F);have⟨q,e1,e2,ow⟩:=d1.gh (k:=.i64) h0;rw[e1,ae,e2,ae];refine ah λm22 O2 i1 P2=>?_;refine aj dN i1 rfl rfl (Un.dt ow) λm23 Q2 j1 T2=>?_;have e0:Ext mm m23:=⟨ac,be⟩;have g23:m23.get mm.n=.cells (x.u.c x.w) 43 none:=j1;have k1:=(g0.trans F).trans e0;refine aX (λvs m' lo=>∃bad,vs=[.bool bad]/\m23=m'/\m.n<=lo/\(bad->¬cq (bH l))/\(bad=false->jD x.u/\∀a,0<i->l[i-1]?=some a->a.u.id<x.u.id)) (λR hR=>?_) ?_;rw[bQ g23,ae];apply aw (lg hX ((h.sh x A0).ak k1) (by have:=h.ln x A0;omega));rw[bB,ae,ag];refine af (λhb=>?_) (λhb=>?_);exact hR _ _ _ ⟨true,rfl,rfl,ac,λ_=>On A0 be,λh=>by cases h⟩;have hb:jD x.u:=be;rw[cz,ae,ag];refine af (λhp=>?_) (λhp=>?_);have hp:0<i:=be;obtain⟨a,ha⟩:∃a,l[i-1]?=some a:=⟨_,vW⟩;obtain⟨l0, -⟩:=ji g23;have⟨q,q0,f1,f2,f3⟩:=zm (h.sl.ak k1) ha;rw[aW,ae,l0,ae,ae,y0 m23 (F.trans e0),ae,eZ,ae,wrap64,show((i:Int)-1)=((i-1:Nat):Int) by omega,f1,ae,f2,ae,f3,ae,cO,ae];refine hR _ _ _ ⟨_,rfl,rfl,ac,λhh=>?_,λhh=>⟨hb,λa' _ l1=>?_⟩⟩;have hh:x.u.id<=a.u.id:=be;exact SV ha be hh;rw[ha]at l1;cases l1;have hh:¬x.u.id<=a.u.id:=be;omega;have hp:¬0<i:=be;exact hR _ _ _ ⟨false,rfl,rfl,ac,λh=>(by cases h),λ_=>⟨hb,λa h=>absurd h hp⟩⟩;rintro _ _ j2 ⟨bad,rfl,rfl,o0,o1,B0⟩;rw[av,ag];refine af (λhb=>?_) (λhb=>?_);exact b1 m23 j2 (F.trans e0) o0 (o1 hb);have⟨h1,h2⟩:=B0 hb;rw[aL,ae,wrap64];refine⟨i+1,ac,rfl,ac,F.trans e0,o0,λj y hj hy=>?_,λj a b hj ha O0=>?_⟩;by_cases e:j=i;subst e;rw[h0]at hy;cases hy;exact h1;exact k0 j y ac hy;by_cases e:j+1=i;subst e;rw[h0]at O0;cases O0;exact h2 a ac be;exact n0 j a b ac ha O0;have k2:i=l.length:=(by grind);subst k2;have l2:=F.cells g1;rw[cY,aI l2 co]
 show aS (some (Value.agg #[v])) _;rw[ae];have⟨b0,p1,p0,b3,c3⟩:=Qf (m:=mm) hX h.sl.cells;apply aw p1;rw[cx];have d0:=(g0.trans F).trans p0;have gr:b0.get m1.n=.cells [L4] 4 none:=p0.cells (F.cells a1);refine⟨_,jt l,_,λk m'=>b0.n<=m'.n/\(∀c,c<b0.n->m'.get c=b0.get c)/\∀k' p,k'<k->(ph l)[k']?=some p->gR p.1.u p.2.u=false,λe m'=>e=.ret/\m'.get m1.n=.cells [L4] 4 none/\¬cq (bH l),m.n,⟨_,rfl⟩,adq hX (v:=v) (b:=mm.n) hlen,ac,?_,?_,?_,⟨Aj _,λ_ _=>rfl,λk' p hk=>ac⟩,?_,?_,?_⟩;rintro k m' ⟨h1,h2,h3⟩;have he:Ext b0 m':=⟨h1,h2⟩;exact⟨be,(h.ak d0).ak he⟩;rintro k m' o2 ⟨h1,h2,h3⟩ hk;exact⟨by have:=hk.n;omega,λc hc=>by rw[hk.get c ac ac,h2 c hc],h3⟩;rintro e m' o2 ⟨h1,h2,h3⟩ hk;have:=M.aP h2;exact⟨h1,by rw[hk.get _ this ac,h2],h3⟩;rintro k args i0 d3 u2 ⟨h1,h2,h3⟩;obtain⟨⟨a,b⟩,hp,rfl⟩:=Qg u2;have⟨ha,hb,i',j',v2,w2,y2⟩:=BJ (Jc hp);have u1:Ext b0 i0:=⟨h1,h2⟩;have hF:=(h.ak d0).ak u1;have oa:one a.w:=(hF.sh a ha).one;have ob:one b.w:=(hF.sh b hb).one;rw[av,av];show NV [] _;unfold NV;refine ah λb4 e3 v1 g3=>?_;refine aj dN v1 rfl rfl (Un.dt oa) λz2 i3 w1 j3=>?_;refine ah λm64 k3 y1 A1=>?_;refine aj dN y1 rfl rfl (Un.dt ob) λA2 l3 B1 G1=>?_;have iJ:∀c,c<i0.n->A2.get c=i0.get c:=be;refine⟨λc _ hc=>iJ c hc,λj0 m3 r0=>?_⟩;dsimp only;have r1:j0.get i0.n=.cells (a.u.c a.w) 43 none:=(by rw[r0 _ ac,G1 _ ac,A1 _ ac,w1];rfl);have r2:j0.get z2.n=.cells (b.u.c b.w) 43 none:=(by rw[r0 _ ac,B1];rfl);have H1:∀c,c<b0.n->j0.get c=b0.get c:=be;have s0:Ext b0 j0:=⟨ac,H1⟩;have u0:=(h.ak d0).ak s0;rw[bQ r1,ae,bQ r2,ae];apply aw (zn hX (u0.sh a ha) (u0.sh b hb) (by have:=h.ln a ha;omega) (by have:=h.ln b hb;omega));rw[ag];refine af (λho=>?_) (λho=>?_);refine aj Gx (s0.cells gr) rfl rfl rfl λc4 n3 K1 O1=>?_;exact⟨ac,λc d4 e4 _=>O1 c ac,rfl,K1,H4 v2 w2 y2 ho⟩;refine⟨ac,λc _ _ _=>rfl,ac,H1,λk' p P0 Q0=>?_⟩;by_cases e:k'=k;subst e;rw[hp]at Q0;cases Q0;exact ho;exact h3 k' p ac Q0;rintro m' ja ⟨h1,h2,h3⟩ T1;have B2:m'.get m1.n=.cells [L4] 4 none:=be;refine aj Gx B2 rfl rfl rfl λf4 o3 a2 r3=>?_;rw[sE,aH a2];show aS (some (Value.bool true)) _;rw[ae];refine⟨?_,ac⟩;rw[eQ];rfl;refine⟨by rw[cE];omega,λu hu=>?_,λi a b ha hb=>?_,λi k a b G2 ha hb=>?_⟩;obtain⟨x,F,rfl⟩:=rQ hu;have⟨j,hj⟩:=RL F;exact k0 j x (Vc.1 hj).1 hj;obtain⟨x,F,rfl⟩:=rR ha;obtain⟨y,hy,rfl⟩:=rR hb;exact n0 i x y (Vc.1 hy).1 F hy;obtain⟨x,F,rfl⟩:=rR ha;obtain⟨y,hy,rfl⟩:=rR hb;have:=MI i k x y G2 F hy;have⟨k',P0⟩:=RL this;have M2:=(Vc.1 P0).1;exact h3 k' (x,y) (by rw[yG,MB];exact M2) P0;rintro e m' ja g4 ⟨rfl,h2,h3⟩ T1;refine⟨_,PY.2 rfl,rfl,?_⟩;dsimp only;rw[sE,aH h2];show aS (some (Value.bool false)) _;rw[ae,qU h3];exact⟨rfl,ac⟩
def nS(hX:cy X){l:List UW}{v:Φ}(h:cC m l v)(hlen:l.length<1000000):C X (.func 99) [.agg #[v]] m m.n (.bool (iV (bH l))) m:=by
 apply Cl.fl hX (Us func99);rw[F99];dsimp only[aG];refine ah λm1 y1 Q0 a1=>?_;have b1:Ext m m1:=⟨ac,a1⟩;have g1:m1.get m.n=.cells [v] 29 none:=Q0;have b0:aC TE m1 27 (Ψ m.n (0+0))=some v:=(by rw[dX,aH g1];rfl);have h1:=h.ak b1;unfold ptrTo;rw[bk,ae,b0,ae,h1.sl.len cM,an,cz,ae,ag];refine af (λc1=>?_) (λhle=>?_);have c1:(12:Int)< l.length:=be;refine⟨?_,Aj _⟩;rw[qU λhf=>by have:=hf.len;rw[cE]at this;omega];rfl;have hle:¬(12:Int)< l.length:=be;have p0:∀(lo:Nat),m.n<=lo->¬cq (bH l)->aM [Value.bool false]=.bool (iV (bH l))/\m.n<=lo:=λlo n0 hn=>⟨by rw[qU hn];rfl,n0⟩;refine Lp.intro (γ:=Nat) (λi=>l.length-i) (λi vs mm lo=>vs=[L4,ν i]/\i<=l.length/\m1=mm/\m.n<=lo/\(∀j x,j<i->l[j]?=some x->jD x.u)/\(∀j a b,j+1<i->l[j]?=some a->l[j+1]?=some b->a.u.id<b.u.id)/\(∀j k a b,k<i->j<k->l[j]?=some a->l[k]?=some b->gR a.u b.u=false)) 0 ⟨rfl,ZX _,rfl,Aj _,λj x hj=>ac,λj a b hj=>ac,λj k a b hk=>ac⟩ ?_;rintro i vs mm lo ⟨rfl,hi,rfl,n0,i0,j0,r0⟩;rw[av,av,ae,b0,ae,h1.sl.len cM,an,aK,ae,ag];refine af (λs0=>?_) (λA1=>?_);have s0:i<l.length:=be;obtain⟨x,d0⟩:∃a,l[i]?=some a:=⟨_,Np s0⟩;have g0:=Jc d0;have⟨q,e1,e2,ow⟩:=h1.sl.gh (k:=.i64) d0;refine aX (λvs m' lo=>∃bad,vs=[.bool bad]/\m1=m'/\m.n<=lo/\(bad->¬cq (bH l))/\(bad=false->jD x.u/\∀a,0<i->l[i-1]?=some a->a.u.id<x.u.id)) (λR hR=>?_) ?_;rw[ae,b0,ae,e1,ae,e2,ae];apply aw (lz hX (u:=x.u) (w:=x.w) (h1.sh x g0) (by have:=h.ln x g0;omega));rw[bB,ae,ag];refine af (λhb=>?_) (λhb=>?_);exact hR _ _ _ ⟨true,rfl,rfl,ac,λ_=>On g0 be,λh=>by cases h⟩;have hb:jD x.u:=be;rw[cz,ae,ag];refine af (λhp=>?_) (λhp=>?_);have hp:0<i:=be;obtain⟨a,F⟩:∃a,l[i-1]?=some a:=⟨_,vW⟩;have⟨q,q0,f1,f2,f3⟩:=zm h1.sl F;have⟨q',B1,d1,i1,j1⟩:=zm h1.sl d0;rw[ae,b0,ae,d1,ae,i1,ae,j1,ae,ae,b0,ae,eZ,ae,wrap64,show((i:Int)-1)=((i-1:Nat):Int) by omega,f1,ae,f2,ae,f3,ae,cO,ae];refine hR _ _ _ ⟨_,rfl,rfl,ac,λhh=>?_,λhh=>⟨hb,λa' _ u0=>?_⟩⟩;have hh:x.u.id<=a.u.id:=be;exact SV F be hh;rw[F]at u0;cases u0;have hh:¬x.u.id<=a.u.id:=be;omega;have hp:¬0<i:=be;exact hR _ _ _ ⟨false,rfl,rfl,ac,λh=>(by cases h),λ_=>⟨hb,λa h=>absurd h hp⟩⟩;rintro _ _ k1 ⟨bad,rfl,rfl,k0,y0,o0⟩;rw[av,ag];refine af (λhb=>p0 k1 k0 (y0 hb)) (λhb=>?_);have⟨l1,o1⟩:=o0 hb;refine Lp.intro (γ:=Nat) (λk=>i-k) (λk vs mm lo=>vs=[L4,ν k]/\k<=i/\m1=mm/\m.n<=lo/\∀j a,j<k->l[j]?=some a->gR a.u x.u=false) 0 ⟨rfl,ZX _,rfl,k0,λj a hj=>ac⟩ ?_;rintro k vs mm ja ⟨rfl,hk,rfl,A0,B0⟩;rw[av,av,aK,ae,ag];refine af (λl0=>?_) (λw1=>?_);have l0:k<i:=be;obtain⟨y,h0⟩:∃a,l[k]?=some a:=⟨_,vW⟩;have O0:=Jc h0;have⟨q',p1,r1,_⟩:=h1.sl.gh (k:=.i64) h0;rw[ae,b0,ae,e1,ae,e2,ae,ae,b0,ae,p1,ae,r1,ae];apply aw (acC hX (a:=x.u) (va:=x.w) (b:=y.u) (vb:=y.w) (h1.sh x g0) (h1.sh y O0) (by have:=h.ln x g0;omega) (by have:=h.ln y O0;omega));rw[ag];refine af (λho=>?_) (λho=>?_);exact p0 _ ac (H4 l0 h0 d0 (by rw[nW];exact ho));rw[aL,ae,wrap64];refine⟨k+1,ac,rfl,ac,rfl,ac,λj a hj F=>?_⟩;by_cases e:j=k;subst e;rw[h0]at F;cases F;rw[nW];exact ho;exact B0 j a ac F;have P0:k=i:=(by grind);subst P0;rw[aL,ae,wrap64]
 refine⟨k+1,ac,rfl,ac,rfl,A0,λj y hj hy=>?_,λj a b hj F e0=>?_,λj k' a b P0 hj F e0=>?_⟩;by_cases e:j=k;subst e;rw[d0]at hy;cases hy;exact l1;exact i0 j y ac hy;by_cases e:j+1=k;subst e;rw[d0]at e0;cases e0;exact o1 a ac be;exact j0 j a b ac F e0;by_cases e:k'=k;subst e;rw[d0]at e0;cases e0;exact B0 j a hj F;exact r0 j k' a b ac hj F e0;have u1:i=l.length:=(by grind);subst u1;refine⟨?_,n0⟩;rw[eQ];rfl;refine⟨by rw[cE];omega,λu hu=>?_,λi a b F hb=>?_,λi k a b v1 F hb=>?_⟩;obtain⟨x,hx,rfl⟩:=rQ hu;have⟨j,hj⟩:=RL hx;exact i0 j x (Vc.1 hj).1 hj;obtain⟨x,hx,rfl⟩:=rR F;obtain⟨y,hy,rfl⟩:=rR hb;exact j0 i x y (Vc.1 hy).1 hx hy;obtain⟨x,hx,rfl⟩:=rR F;obtain⟨y,hy,rfl⟩:=rR hb;exact r0 i k x y (Vc.1 hy).1 v1 hx hy
def rO(x:Int):pI (IntKind.i64.wrap x):=by have h:=JZ x;unfold wr at h;unfold pI;grind
def fh(F:cy X){c n:Int}(hc:pI c)(hn:0<n):C X (.func 98) [ν c,ν n] m m.n (ν (gL c n)) m:=by apply Cl.fl F (Us func98);rw[F98];dsimp only[aG];exact tS hc hn (P:=λv=>aM [v]=ν (gL c n)/\m.n<=m.n) ⟨rfl,Aj _⟩
theorem Et(hX:cy X){u:Un}{w:Φ}(hw:Sl m u.shape w)(hl:u.shape.length<1000000):
  ∃w' m',C X (.func 163) [u.v w] m m.n (u.v w') m'/\Ext m m'/\Sl m' u.shape w':=by have key:∃r m' b,C X (.func 163) [u.v w] m b r m'/\b=m.n/\∃w',r=u.v w'/\Ext m m'/\Sl m' u.shape w':=(by refine Cl.heap (R:=λr m' b=>b=m.n/\∃w',r=u.v w'/\Ext m m'/\Sl m' u.shape w') (hX.no _ rfl) (Us func163) rfl ?_;rw[F163];dsimp only[aG];refine ah λm1 B0 s0 O0=>?_;refine ah λm2 P0 k0 Q0=>?_;simp only[bd]at s0;have l0:Ext m m2:=⟨ac,be⟩;have g1:m2.get m.n=.cells (u.c w) 43 none:=be;unfold ptrTo;rw[tn,an];have b0:Ext m2 (m2.push (.cells [] 46 none)):=Ext.refl.push;generalize n0:m2.push (.cells [] 46 none)=m4 at*;have o0:m4.get m2.n=.cells [] 46 none:=(by rw[<-n0];exact M.aU);have a1:m4.n=m2.n+1:=(by rw[<-n0];rfl);have g14:=b0.cells g1;obtain⟨-, -, -,l3, -, -⟩:=ji g14;rw[bA,ae,l3,ae];obtain⟨v7,m8,ha,F,d0,b1,u0⟩:∃v' m1,aR TE (m4.wl m4.n) .append [41,41] [RR m2.n 0 0 0,w]=some (v',m1)/\Sl m1 u.shape v'/\Ext m4 m1/\m1.low=m4.n/\∃a n c,v'=.slice (some a) n c:=(by have j0:=(hw.ak l0).ak b0;by_cases he:u.shape=[];rw[he]at j0⊢;obtain⟨a,c,rfl⟩:=j0.form;refine⟨RR m2.n 0 0 0,m4.wl m4.n,?_,.inr ⟨m2.n,0,0,[],none,rfl,o0,co,be⟩,⟨Aj _,λ_ _=>rfl⟩,rfl,_,_,_,rfl⟩;(cases a with|none=>kernel_rfl|some a=>kernel_rfl);obtain⟨v',m1,h1,h2,h3,h4⟩:=mF zi o0 j0 he ac;have⟨a,c,hv⟩:=h2.sl.form;refine⟨v',m1,h1,h2.sl,h3,h4,?_⟩;rcases h2 with⟨_,h⟩|⟨b,cs,rfl,_⟩;exact absurd h he;exact⟨_,_,_,rfl⟩);rw[ha,an,ae];have n8:=d0.n;have g18:=d0.cells g14;have o7:one v7:=F.one;refine bV uD g18 (by rw[F.cells];rfl) (by rw[F.cells];simp) (by rw[F.cells];simp[o7]) λm10 y0 e0 g0=>?_;have e0:m10.get m.n=.cells (u.c v7) 43 none:=(by rw[e0,F.cells];rfl);rw[bQ e0,ae];have p0:m10.get m1.n=.cells Un.zc 43 none:=(by rw[g0 _ ac,d0.get _ ac,b0.get _ ac,k0]);refine aj dN p0 rfl rfl (Un.dt o7) λm13 A0 h0 i0=>?_;have h0:m13.get m1.n=.cells (u.c v7) 43 none:=h0;rw[bQ h0,ae];obtain⟨a,n,c,rfl⟩:=u0;refine⟨.inl ?_,ac,_,rfl,⟨ac,λb hb=>by rw[i0 b ac,g0 b ac,d0.get b ac,b0.get b ac,l0.get b hb]⟩,?_⟩;show aZ (u.v (.slice (some a) n c))=false;simp[aZ,eC,bO];refine F.aY λb cs t g hb ht=>?_;have q0:b≠m.n:=(by rintro rfl;rw[g18]at hb;cases hb;revert ht;decide);have r0:b≠m1.n:=(by rintro rfl;rw[d0.get _ ac,b0.get _ ac,k0]at hb;cases hb;revert ht;decide);rw[i0 b r0,g0 b q0,hb]);obtain⟨r,m',b,hc,rfl,w',rfl,h1,h2⟩:=key;exact⟨w',m',hc,h1,h2⟩
def UQ{b o:Nat}{k:IntKind}(hi:i<6):aE TE 62 (Ψ b o) (.int k i)=some (Ψ b (o+i)):=by rcases(show i=0\/i=1\/i=2\/i=3\/i=4\/i=5 by omega)with rfl|rfl|rfl|rfl|rfl|rfl <;>kernel_rfl
def acI(hX:cy X){R:Ω->M->Nat->Prop}{b6 rc lo0:Nat}{mm:M}{w:Φ}{e0:List Pl}{n i0 i1 i2 i3 i4 i5:Int}(hb:mm.get b6=.cells [ν i0,ν i1,ν i2,ν i3,ν i4,ν i5] 62 none)
  (hr:mm.get rc=.cells Un.zc 43 none) (hw:Sl mm e0 w) (hn:pI n) (h5:pI i5)
  (hR:∀(u:Un) (m':M) (lo:Nat),u.shape=e0->mm.n=m'.n->m'.get rc=.cells (u.c w) 43 none->(∀c,c≠rc->m'.get c=mm.get c)->min lo0 (min rc mm.n)<=lo->R [u.v w] m' lo):
  (aS (aE TE 62 (Ψ b6 0) (ν 5)) λA0=>(aS (aC TE mm 3 A0) λB0=>(lV TE X (.func 98) [B0,ν 4] mm λO0 F h0=>(aS (bE TE .eql 3 O0 (ν 3)) λP0=>(iU P0
(aS (aE TE 62 (Ψ b6 0) (ν 5)) λQ0=>(aS (aC TE F 3 Q0) λa1=>(aS (bE TE .quo 3 a1 (ν 4)) λb1=>(lV TE X (.func 98) [b1,ν 4] F λj0 k0 c1=>(aS (bE TE .add 3 j0 (ν 1)) λd1=>(aS (aE TE 62 (Ψ b6 0) (ν 5)) λe1=>(aS (aC TE k0 3 e1) λg1=>(aS (bE TE .quo 3 g1 (ν 16)) λh1=>(lV TE X (.func 98) [h1,ν 4] k0 λj1 l0 k1=>(aS (bE TE .add 3 d1 j1) λl1=>(lV TE X (.func 98) [ν n,ν 100] l0 λo1 b0 n0=>((M.n l0<=n0)/\(aS (aE TE 62 (Ψ b6 0) (ν 5)) λp1=>(aS (aC TE b0 3 p1) λr1=>(aS (bE TE .quo 3 r1 (ν 64)) λu1=>(lV TE X (.func 98) [u1,ν 8] b0 λv1 o0 p0=>((M.n b0<=p0)/\(aS (bE TE .add 3 (ν 1) v1) λw1=>(aS (aE TE 62 (Ψ b6 0) (ν 5)) λy1=>(aS (aC TE o0 3 y1) λA1=>(aS (bE TE .quo 3 A1 (ν 512)) λB1=>(lV TE X (.func 98) [B1,ν 8] o0 λG1 H1 K1=>(aS (bz TE 43 [(0,o1),(1,w1),(2,G1),(3,w),(4,j0),(5,l1)]) λO1=>(dh (bh TE H1 43 (Ψ rc 0) O1) λq0 T1=>(aS (aC TE q0 43 (Ψ rc 0)) λa2=>(R [a2] q0 (min (min (min (min (min (min (min lo0 h0) c1) k1) n0) p0) K1) T1)))))))))))))))))))))))))))
(lV TE X (.func 98) [ν n,ν 100] F λb2 d0 r0=>((M.n F<=r0)/\(aS (aE TE 62 (Ψ b6 0) (ν 5)) λc2=>(aS (aC TE d0 3 c2) λd2=>(aS (bE TE .quo 3 d2 (ν 64)) λe2=>(lV TE X (.func 98) [e2,ν 8] d0 λg2 s0 u0=>((M.n d0<=u0)/\(aS (bE TE .add 3 (ν 1) g2) λh2=>(aS (aE TE 62 (Ψ b6 0) (ν 5)) λj2=>(aS (aC TE s0 3 j2) λk2=>(aS (bE TE .quo 3 k2 (ν 512)) λl2=>(lV TE X (.func 98) [l2,ν 8] s0 λo2 u2 v2=>(aS (bz TE 43 [(0,b2),(1,h2),(2,o2),(3,w),(4,(ν 0)),(5,(ν 4))]) λw2=>(dh (bh TE u2 43 (Ψ rc 0) w2) λy0 y2=>(aS (aC TE y0 43 (Ψ rc 0)) λz2=>(R [z2] y0 (min (min (min (min (min lo0 h0) r0) u0) v2) y2)))))))))))))))))))))):=by have e5:aE TE 62 (Ψ b6 0) (ν 5)=some (Ψ b6 5):=UQ (i:=5) ce;have l5:aC TE mm 3 (Ψ b6 5)=some (ν i5):=(by rw[bR,aH hb];rfl);have ow:one w:=hw.one;have A2:∀a b c d e:Int,bz TE 43 [(0,ν a),(1,ν b),(2,ν c),(3,w),(4,ν d),(5,ν e)]=some (Un.v ⟨a,b,c,e0,d,e⟩ w):=λa b c d e=>(by have:=th (x0:=ν a) (x1:=ν b) (x2:=ν c) (x3:=w) (x4:=ν d) (x5:=ν e) rfl rfl rfl (by rw[hw.cells];rfl) rfl rfl;rw[this,hw.cells];rfl);have fin:∀(u:Un) (lo:Nat),u.shape=e0->min lo0 mm.n<=lo->dh (bh TE mm 43 (Ψ rc 0) (u.v w)) λm' b=>aS (aC TE m' 43 (Ψ rc 0)) λv=>R [v] m' (min lo b):=λu lo hu M2=>(by refine aj dN hr rfl rfl (Un.dt ow) λm' B2 g0 G2=>?_;have g0:m'.get rc=.cells (u.c w) 43 none:=g0;rw[bQ g0,ae];exact hR u m' _ hu B2.symm g0 G2 ac);rw[e5,ae,l5,ae];apply aw (fh hX h5 ce);rw[aJ,ae,ag];refine af (λ_=>?_) (λ_=>?_);rw[ae,l5,ae,ri ce,ae];apply aw (fh hX (rO _) ce);rw[aL,ae,ae,l5,ae,ri ce,ae];apply aw (fh hX (rO _) ce);rw[aL,ae];refine aw (fh hX hn ce) ⟨Aj _,?_⟩;rw[ae,l5,ae,ri ce,ae];refine aw (fh hX (rO _) ce) ⟨Aj _,?_⟩;rw[aL,ae,ae,l5,ae,ri ce,ae];apply aw (fh hX (rO _) ce);rw[A2,ae];exact fin _ _ rfl ac;refine aw (fh hX hn ce) ⟨Aj _,?_⟩;rw[ae,l5,ae,ri ce,ae];refine aw (fh hX (rO _) ce) ⟨Aj _,?_⟩;rw[aL,ae,ae,l5,ae,ri ce,ae];apply aw (fh hX (rO _) ce);rw[A2,ae];exact fin _ _ rfl ac
def Ar{b:Nat}{L:List Pl}{p:Pl}{g:Option Nat}{x:Int}{P:M->Nat->Prop}(h:m.get b=.cells (AA L) 46 g)(hi:L[i]?=some p)
  (F:∀m1,m1.n=m.n->m1.get b=.cells (AA (L.set i ⟨x,p.y⟩)) 46 g->(∀c,c≠b->m1.get c=m.get c)->P m1 b):dh (bh TE m 3 (Ψ b (i*2+0)) (ν x)) P:=by have b0:=(Vc.1 hi).1;have hl:=wH L;refine bV zV h rfl (by rw[hl];show i*2+0+1<=_;omega) rfl λm1 h1 h2 h3=>F m1 h1 ?_ h3;rw[h2,MU,show i*2+(cells (Value.int .i64 x)).length=i*2+1 from rfl];have:=pS (cs:=AA L) (i:=i*2) (x:=Value.int .i64 x) be;rw[show cells (Value.int .i64 x)=[Value.int .i64 x]from rfl,this,GV x hi]
def HU(hX:cy X){n i0 i1 i2 i3 i4 i5:Int}(hn:pI n)(h0:pI i0)(h1:pI i1)(h2:pI i2)(h3:pI i3)(h4:pI i4)(h5:pI i5):
  ∃(u:Un) (w:Φ) (m':M),C X (.func 43) [ν n,.agg #[ν i0,ν i1,ν i2,ν i3,ν i4,ν i5]] m m.n (u.v w) m'/\Ext m m'/\Sl m' u.shape w/\u.shape.length<=4:=by
 have key:∃r m' b,C X (.func 43) [ν n,.agg #[ν i0,ν i1,ν i2,ν i3,ν i4,ν i5]] m b r m'/\b=m.n/\∃(u:Un) (w:Φ),r=u.v w/\Ext m m'/\Sl m' u.shape w/\u.shape.length<=4:=by
  refine Cl.heap (R:=λr m' b=>b=m.n/\∃(u:Un) (w:Φ),r=u.v w/\Ext m m'/\Sl m' u.shape w/\u.shape.length<=4) (hX.no _ rfl) (Us func43) rfl ?_;rw[F43];dsimp only[aG];refine ah λm1 b2 e1 j1=>?_;refine ah λm2 c2 k1 A0=>?_;have l1:Ext m m2:=⟨ac,λc hc=>by rw[A0 c ac,j1 c hc]⟩
  have g1:m2.get m.n=.cells [ν i0,ν i1,ν i2,ν i3,ν i4,ν i5] 62 none:=by rw[A0 _ ac];exact e1
  unfold ptrTo;have ld:∀{mm:M} {i:Nat} {x:Int},Ext m2 mm->[i0,i1,i2,i3,i4,i5][i]?=some x->aE TE 62 (Ψ m.n 0) (ν i)=some (Ψ m.n i)/\aC TE mm 3 (Ψ m.n i)=some (ν x):=λ{mm i x} hx hi=>by
   have B0:=(Vc.1 hi).1;refine⟨by have:=UQ (b:=m.n) (o:=0) (k:=.i64) (i:=i) B0;rwa[LU]at this,?_⟩;have hc:[Value.int .i64 i0,ν i1,ν i2,ν i3,ν i4,ν i5][i]?=some (ν x):=by
    have:([i0,i1,i2,i3,i4,i5].map (Value.int .i64))[i]?=some (ν x):=by rw[U2,hi];rfl
    exact this
   rw[bR,aH (hx.cells g1),hc]
  have o1:aE TE 62 (Ψ m.n 0) (ν 0)=some (Ψ m.n 0):=(@ld m2 0 i0 .refl rfl).1;have p1:=(@ld m2 0 i0 .refl rfl).2;have r1:aE TE 62 (Ψ m.n 0) (ν 1)=some (Ψ m.n 1):=(@ld m2 1 i1 .refl rfl).1;have u1:=(@ld m2 1 i1 .refl rfl).2;have v1:aE TE 62 (Ψ m.n 0) (ν 2)=some (Ψ m.n 2):=(@ld m2 2 i2 .refl rfl).1;have w1:=(@ld m2 2 i2 .refl rfl).2;have A1:aE TE 62 (Ψ m.n 0) (ν 3)=some (Ψ m.n 3):=(@ld m2 3 i3 .refl rfl).1;have B1:=(@ld m2 3 i3 .refl rfl).2;rw[o1,ae,p1,ae];apply aw (fh hX h0 ce);rw[kO,ae];rw[r1,ae,u1,ae];apply aw (fh hX h1 ce);rw[kO,ae];rw[v1,ae,w1,ae];apply aw (fh hX h2 ce);rw[aL,ae,kO,ae,aL,ae,ug,an];rw[A1,ae,B1,ae];apply aw (fh hX h3 ce);rw[aL,ae,kO,ae,aL,ae];generalize IntKind.i64.wrap (4*gL i0 9)=x0;generalize IntKind.i64.wrap (4*gL i1 6)=y0;generalize min (IntKind.i64.wrap _) (40:Int)=x1;generalize IntKind.i64.wrap (y0+_)=y1;have bp:∀a b:Int,bz TE 46 [(0,ν a),(1,ν b)]=some (Pl.v ⟨a,b⟩):=λa b=>qZ rfl rfl;rw[bp,ae,bp,ae,bp,ae,bp,ae];obtain⟨L,hL⟩:∃L:List Pl,L=[⟨x0,y0⟩,⟨x1,y0⟩,⟨x1,y1⟩,⟨x0,y1⟩]:=⟨_,rfl⟩
  have G1:aO TE m2 41 4 [(0,Pl.v ⟨x0,y0⟩),(1,Pl.v ⟨x1,y0⟩),(2,Pl.v ⟨x1,y1⟩),(3,Pl.v ⟨x0,y1⟩)]=some (RR m2.n 0 4 4,m2.push (.cells (AA L) 46 none)):=by rw[hL];kernel_rfl
  rw[G1,an];have g0:Ext m2 (m2.push (.cells (AA L) 46 none)):=Ext.refl.push;generalize q0:m2.push (.cells (AA L) 46 none)=F at*;have d0:F.get m2.n=.cells (AA L) 46 none:=by rw[<-q0];exact M.aU
  have T1:F.n=m2.n+1:=by rw[<-q0];rfl
  have H1:aE TE 62 (Ψ m.n 0) (ν 4)=some (Ψ m.n 4):=(@ld F 4 i4 g0 rfl).1;have K1:=(@ld F 4 i4 g0 rfl).2;rw[H1,ae,K1,ae];apply aw (fh hX h4 ce);have gz:F.get m1.n=.cells Un.zc 43 none:=by rw[g0.get _ ac,k1]
  have O0:m1.n≠m2.n:=ac
  have fin:∀(mm:M) (lo0:Nat) (w:Φ) (e0:List Pl),(∀c,c≠m2.n->c<F.n->mm.get c=F.get c)->F.n<=mm.n->m.n<=lo0->Sl mm e0 w->e0.length<=4->(∃a n c,w=.slice (some a) n c)->mm.get m.n=.cells [ν i0,ν i1,ν i2,ν i3,ν i4,ν i5] 62 none/\mm.get m1.n=.cells Un.zc 43 none/\
    ∀(u:Un) (m':M) (lo:Nat),u.shape=e0->mm.n=m'.n->m'.get m1.n=.cells (u.c w) 43 none->(∀c,c≠m1.n->m'.get c=mm.get c)->min lo0 (min m1.n mm.n)<=lo->(aZ (aM [u.v w])=false\/lo<m.n)/\min m.n lo=m.n/\∃(u':Un) (w':Φ),aM [u.v w]=u'.v w'/\Ext m m'/\Sl m' u'.shape w'/\u'.shape.length<=4:=by
   intro mm lo0 w e0 hk d2 e2 hs hl hw;refine⟨by rw[hk _ ac ac,g0.get _ ac,g1],by rw[hk _ O0 ac,gz],λu m' lo hu g2 hg P0 a2=>⟨.inl ?_,ac,u,w,rfl,⟨ac,λc hc=>by rw[P0 c ac,hk c ac ac,g0.get c ac,l1.get c hc]⟩,?_,by rw[hu];exact hl⟩⟩;·obtain⟨a,k,c,rfl⟩:=hw;show aZ (u.v (.slice (some a) k c))=false;simp[aZ,eC,bO]
   ·rw[hu];refine hs.aY λb cs t g hb ht=>?_;by_cases e:b=m1.n;·subst e;rw[hk _ O0 ac,gz]at hb;cases hb;exact absurd ht ce
    rw[P0 b e,hb]
  have j0:∀{mm:M} {L':List Pl},mm.get m2.n=.cells (AA L') 46 none->L'.length=4->Sl mm L' (RR m2.n 0 4 4):=λ{mm L'} h hl=>by have:=PB (c:=4) h;rwa[hl]at this
  have p0:∀i,i<4->aE TE 41 (RR m2.n 0 4 4) (ν (i:Nat))=some (Ψ m2.n (i*2)):=λi hi=>Xq hi;have r0:aE TE 41 (RR m2.n 0 4 4) (ν 0)=some (Ψ m2.n (0*2)):=p0 0 ce;have Q0:aE TE 41 (RR m2.n 0 4 4) (ν 1)=some (Ψ m2.n (1*2)):=p0 1 ce;have s0:aE TE 41 (RR m2.n 0 4 4) (ν 2)=some (Ψ m2.n (2*2)):=p0 2 ce;have a1:aE TE 41 (RR m2.n 0 4 4) (ν 3)=some (Ψ m2.n (3*2)):=p0 3 ce;have tail:∀(mm:M) (lo0:Nat) (w:Φ) (e0:List Pl),(∀c,c≠m2.n->c<F.n->mm.get c=F.get c)->F.n<=mm.n->m.n<=lo0->Sl mm e0 w->e0.length<=4->(∃a n c,w=.slice (some a) n c)->_:=λmm lo0 w e0 a b c d e f=>by have⟨f1,f2,f3⟩:=fin mm lo0 w e0 a b c d e f;exact acI hX (R:=λvs m' lo=>(aZ (aM vs)=false\/lo<m.n)/\min m.n lo=m.n/\∃(u:Un) (w:Φ),aM vs=u.v w/\Ext m m'/\Sl m' u.shape w/\u.shape.length<=4) (lo0:=lo0) f1 f2 d hn h5 f3
  have MV:∀{mm:M} {L':List Pl} {i:Nat} {p:Pl},mm.get m2.n=.cells (AA L') 46 none->L'[i]?=some p->aC TE mm 46 (Ψ m2.n (i*2))=some p.v:=λ{mm L' i p} h hi=>by have B0:=(Vc.1 hi).1;rw[qN,aI h (by rw[wH];omega)];have:=D3 hi;unfold chunk at this;rw[this];rfl
  rw[aJ,ae,ag];refine af (λ_=>?_) (λ_=>?_);·rw[eZ,ae,s0,ae,cW,ae];refine Ar (L:=L) (i:=2) (p:=⟨x1,y1⟩) d0 (by rw[hL];rfl) λO1 b1 k0 l0=>?_;rw[aL,ae,a1,ae,cW,ae];refine Ar (i:=3) (p:=⟨x0,y1⟩) k0 (by rw[hL];rfl) λu0 c1 n0 o0=>?_;exact tail u0 _ _ _ (λc h _=>by rw[o0 c h,l0 c h]) ac ac (j0 n0 (by rw[hL];rfl)) (by rw[hL];exact Aj _) ⟨_,_,_,rfl⟩
  rw[aJ,ae,ag];refine af (λ_=>?_) (λ_=>?_);·rw[aL,ae,r0,ae,cW,ae];refine Ar (L:=L) (i:=0) (p:=⟨x0,y0⟩) d0 (by rw[hL];rfl) λO1 b1 k0 l0=>?_;rw[eZ,ae,Q0,ae,cW,ae];refine Ar (i:=1) (p:=⟨x1,y0⟩) k0 (by rw[hL];rfl) λu0 c1 n0 o0=>?_;exact tail u0 _ _ _ (λc h _=>by rw[o0 c h,l0 c h]) ac ac (j0 n0 (by rw[hL];rfl)) (by rw[hL];exact Aj _) ⟨_,_,_,rfl⟩
  rw[aJ,ae,ag];have tri:∀(p q r:Pl) (lo0:Nat),m.n<=lo0->∀b0:M,F.push (.cells (AA [p,q,r]) 46 none)=b0->Sl b0 [p,q,r] (RR F.n 0 3 3)/\(∀c,c≠m2.n->c<F.n->b0.get c=F.get c)/\F.n<=b0.n:=λp q r lo0 h b0 hm=>by
   have hg:b0.get F.n=.cells (AA [p,q,r]) 46 none:=by rw[<-hm];exact M.aU
   refine⟨PB (l:=[p,q,r]) hg,λc _ hc=>by rw[<-hm];exact M.cI hc,by rw[<-hm];exact Og _⟩
  have d1:∀p q r:Pl,aO TE F 41 3 [(0,p.v),(1,q.v),(2,r.v)]=some (RR F.n 0 3 3,F.push (.cells (AA [p,q,r]) 46 none)):=λp q r=>bv
  refine af (λ_=>?_) (λ_=>?_);·rw[r0,ae,MV (i:=0) (p:=⟨x0,y0⟩) d0 (by rw[hL];rfl),ae,Q0,ae,MV (i:=1) (p:=⟨x1,y0⟩) d0 (by rw[hL];rfl),ae,s0,ae,MV (i:=2) (p:=⟨x1,y1⟩) d0 (by rw[hL];rfl),ae,d1,an];generalize hm:F.push (.cells (AA [⟨x0,y0⟩,⟨x1,y0⟩,⟨x1,y1⟩]) 46 none)=b0;obtain⟨s1,s2,s3⟩:=tri _ _ _ m.n (Aj _) b0 hm;exact tail b0 _ _ _ s2 s3 ac s1 co ⟨_,_,_,rfl⟩
  rw[aJ,ae,ag];refine af (λ_=>?_) (λ_=>?_);·rw[r0,ae,MV (i:=0) (p:=⟨x0,y0⟩) d0 (by rw[hL];rfl),ae,s0,ae,MV (i:=2) (p:=⟨x1,y1⟩) d0 (by rw[hL];rfl),ae,a1,ae,MV (i:=3) (p:=⟨x0,y1⟩) d0 (by rw[hL];rfl),ae,d1,an];generalize hm:F.push (.cells (AA [⟨x0,y0⟩,⟨x1,y1⟩,⟨x0,y1⟩]) 46 none)=b0;obtain⟨s1,s2,s3⟩:=tri _ _ _ m.n (Aj _) b0 hm;exact tail b0 _ _ _ s2 s3 ac s1 co ⟨_,_,_,rfl⟩
  exact tail F _ _ _ (λc _ _=>rfl) (Aj _) ac (j0 d0 (by rw[hL];rfl)) (by rw[hL];exact Aj _) ⟨_,_,_,rfl⟩
 obtain⟨r,m',b,hc,rfl,u,w,rfl,h1,h2,h3⟩:=key;exact⟨u,w,m',hc,h1,h2,h3⟩
def ju(u:Un):List Un->List Un
 |[]=> [u]
 |a::r=>if u.id < a.id then u::a::r else a::ju u r
theorem Fx{u:Un}:∀{p q:List Un},(∀x∈p,¬u.id<x.id)->ju u (p++q)=p++ju u q
 |[],q,_=>rfl
 |a::p,q,h=>by rw[UP,ju,MO (h a co),Fx λx F=>h x be];rfl
theorem Ht{u x:Un}:∀{p:List Un},(∃y∈p,u.id<y.id)->ju u (p++ [x])=ju u p++ [x]
 |[],h=>be
 |a::p,h=>by rw[UP,ju,ju];by_cases e:u.id<a.id;grind;rw[MO e,MO e,Ht];rfl;grind
structure KeU(oc:Nat)(m m1:M):Prop where
 n:m.n<=m1.n
 lo:∀c,c < oc->m1.get c=m.get c
 get:∀c,c < m.n->c≠oc->(∀cs g,m.get c≠.cells cs 43 g)->m1.get c=m.get c
structure Ia(oc:Nat)(mm:M)(acc:List UW)(r:Φ):Prop where
 cell:mm.get oc=.cells [r] 29 none
 ow:Ow (oc+1) mm acc r
 sh:∀x∈acc,Sl mm x.u.shape x.w
 ln:∀x∈acc,x.u.shape.length < 1000000
def Ia.qj(h:Ia F mm acc r):cC mm acc r:=
 ⟨h.ow.sl,h.sh,h.ln,by rcases h.ow with⟨_,h⟩|⟨b,cs,h1,h2,h3,h4,h5,h6⟩;grind;exact .inr ⟨b,0,_,cs,_,h1,Aj _,h4,.inr rfl⟩⟩
def Ia.ak(h:Ia oc mm acc r)(F:Ext mm m'):Ia oc m' acc r:=⟨F.cells h.cell,h.ow.ak F,λx b0=>(h.sh x b0).ak F,h.ln⟩
def BL{α:Type}[aQ α]{n1:Nat}{l:List α}{v:Φ}(h:Ow n1 m l v){a:Addr}{n k:Nat}(e:v=.slice (some a) n k):∃cs g,m.get a.block=.cells cs (aQ.ty α) g/\n1<=a.block:=by rcases h with⟨rfl,_⟩|⟨b,cs,rfl,F,h3,h4,_⟩;cases e;grind
def ab8{w:Φ}{u:Un}(h:Ia oc mm acc r)(hw:Sl mm u.shape w)(hl:u.shape.length<1000000)(O0:acc.length<1000000):
  ∃b0 r' F g0,aO TE mm 27 1 [(0,u.v w)]=some (RR mm.n 0 1 1,b0)/\aR TE (M.wl b0 (M.n b0)) .append [27,27] [r,RR mm.n 0 1 1]=some (r',F)/\
   bh TE F 27 (Ψ oc (0+0)) r'=some (g0,oc)/\oc+1<=F.low/\Ia oc g0 (acc++ [⟨u,w⟩]) r'/\KeU oc mm g0:=by have P0:=M.aP h.cell;have r0:one w:=hw.one;have e0:Ext mm (mm.push (.cells (UW.c ⟨u,w⟩) 43 none)):=Ext.refl.push;refine⟨mm.push (.cells (UW.c ⟨u,w⟩) 43 none),?_⟩;have s0:aO TE mm 27 1 [(0,u.v w)]=some (RR mm.n 0 1 1,mm.push (.cells (UW.c ⟨u,w⟩) 43 none)):=AB (x:=⟨u,w⟩);generalize j0:mm.push (.cells (UW.c ⟨u,w⟩) 43 none)=b0 at*;have o0:b0.get mm.n=.cells (UW.c ⟨u,w⟩) 43 none:=(by rw[<-j0];exact M.aU);have Q0:b0.n=mm.n+1:=(by rw[<-j0];rfl);have h0:=h.ak e0;obtain⟨r',F,ha,d0,i0,p0,B0⟩:=Ow.append (y:=RR mm.n 0 1 1) (ys:=[(⟨u,w⟩:UW)]) zh (by simp[aQ.dU]) h0.ow (DV o0 r0) ac be;have a1:=i0.n;have q0:F.get oc=.cells [r] 29 none:=(by rw[i0.get _ ac,h0.cell]);have u0:=wh (E:=TE) (o:=0+0) (x:=r') Gy q0 (by rw[d0.sl.cells];rfl) (by rw[d0.sl.cells];simp) (by rw[d0.sl.cells];simp[d0.sl.one]);refine⟨r',F,_,s0,ha,u0,p0,?_⟩;have k0:∀c,c≠oc->(F.set oc (.cells (([r]:Ω).take (0+0)++(cells r'++([r]:Ω).drop (0+0+(cells r').length))) 29 none)).get c=F.get c:=λc hc=>M.ee hc;have y0:(F.set oc (.cells (([r]:Ω).take (0+0)++(cells r'++([r]:Ω).drop (0+0+(cells r').length))) 29 none)).get oc=.cells [r'] 29 none:=(by rw[M.get_set_same (M.aP q0),d0.sl.cells];rfl);have A0:(F.set oc (.cells (([r]:Ω).take (0+0)++(cells r'++([r]:Ω).drop (0+0+(cells r').length))) 29 none)).n=F.n:=rfl;generalize F.set oc (.cells (([r]:Ω).take (0+0)++(cells r'++([r]:Ω).drop (0+0+(cells r').length))) 29 none)=g0 at*;have aY:∀c,c<b0.n->c≠oc->(∀cs g,b0.get c≠.cells cs 43 g)->g0.get c=b0.get c:=λc hc l0 ht=>(by rw[k0 c l0,iy ha hc λa n k e he=>?_];have⟨cs,g,hg,_⟩:=BL h0.ow e;rw[<-he]at hg;exact ht _ _ hg);have Hq:∀(n0:List Pl) (v:Φ),Sl b0 n0 v->Sl g0 n0 v:=λn0 v hs=>hs.aY λb cs t g hb ht=>(by have ht:t=46:=(by simpa[aQ.ty,aQ.dU]using ht);subst ht;rw[aY b (M.aP hb) (λe=>by subst e;rw[h0.cell]at hb;cases hb) be,hb]);refine⟨⟨y0,d0.aY λb c t g hb ht=>?_,λx hx=>?_,λx hx=>?_⟩,⟨ac,λc hc=>?_,λc hc l0 ht=>?_⟩⟩;have ht:t=43:=(by simpa[aQ.ty,aQ.dU]using ht);grind;rcases L3.1 hx with hx|hx;exact Hq _ _ (h0.sh x hx);rw[PY]at hx;subst hx;exact Hq _ _ (hw.ak e0);rcases L3.1 hx with hx|hx;exact h.ln x hx;grind;rw[k0 c ac,i0.get c ac,e0.get c ac];rw[aY c ac l0 (λcs g e=>ht cs g (by rw[<-e,e0.get c ac])),e0.get c ac]
def pX(hX:cy X){oc:Nat}{mm:M}{acc:List UW}{r w:Φ}{u:Un}(h:Ia oc mm acc r)(hw:Sl mm u.shape w)(hl:u.shape.length<1000000)(i0:acc.length<1000000):
  ∃w' b0 d0 r' e0 g0,C X (.func 163) [u.v w] mm mm.n (u.v w') b0/\aO TE b0 27 1 [(0,u.v w')]=some (RR b0.n 0 1 1,d0)/\
   aR TE (M.wl d0 (M.n d0)) .append [27,27] [r,RR b0.n 0 1 1]=some (r',e0)/\
   bh TE e0 27 (Ψ oc (0+0)) r'=some (g0,oc)/\oc+1<=e0.low/\Ia oc g0 (acc++ [⟨u,w'⟩]) r'/\KeU oc mm g0:=by have k0:=M.aP h.cell;have⟨w',b0,hc,F,h0⟩:=Et hX hw hl;have l0:=F.n;have⟨d0,r',e0,g0,h1,h2,h3,h4,h5,h6⟩:=ab8 (h.ak F) h0 hl i0;exact⟨w',b0,d0,r',e0,g0,hc,h1,h2,h3,h4,h5,⟨by have:=h6.n;omega,λc hc=>by rw[h6.lo c hc,F.get c ac],λc hc j0 ht=>by rw[h6.get c ac j0 (λcs g e=>ht cs g (by rw[<-e,F.get c hc])),F.get c hc]⟩⟩
open Classical in
def rM(l:List UW)(u:Un)(m':M)(F:Φ):Prop:=
 if iV (bH l)=true/\iV (ju u (bH l))=true then∃l' r,F=.tuple #[.agg #[r],.int .i64 0]/\bH l'=ju u (bH l)/\cC m' l' r else F=.tuple #[.agg #[.slice none 0 0],.int .i64 120]
def rM.no{l:List UW}{u:Un}(h:¬(iV (bH l)/\iV (ju u (bH l)))):rM l u m' (.tuple #[.agg #[LF],ν 120]):=by unfold rM;rw[MO h]
def rM.yes{l F:List UW}{u:Un}(h1:iV (bH l))(h2:iV (ju u (bH l)))(h3:bH F=ju u (bH l))(h4:cC m' F r):rM l u m' (.tuple #[.agg #[r],ν 0]):=by unfold rM;rw[QL ⟨h1,h2⟩];exact⟨F,r,rfl,h3,h4⟩
def KZ(u:Un)(l:List Un):ju u l≠ []:=by cases l with|nil=>simp[ju]|cons a r=>rw[ju];split <;>simp
theorem S1(hX:cy X){l:List UW}{v w:Φ}{u:Un}(h:cC m l v)(hlen:l.length<1000)(hw:Sl m u.shape w)(A1:u.shape.length<1000000):
  ∃rv m',C X (.func 119) [.agg #[v],u.v w] m m.n rv m'/\Ext m m'/\rM l u m' rv:=by
 have key:∃rv m' b,C X (.func 119) [.agg #[v],u.v w] m b rv m'/\b=m.n/\Ext m m'/\rM l u m' rv:=by
  refine Cl.gen (R:=λrv m' b=>b=m.n/\Ext m m'/\rM l u m' rv) (hX.no _ rfl) (Us func119) rfl ?_;rw[F119];dsimp only[aG];refine ah λm1 P2 i2 Q2=>?_;refine ah λm2 T2 j2 c3=>?_;refine ah λm3 d3 e3 i3=>?_;simp only[bd]at i2 j2;have k2:Ext m m3:=⟨ac,be⟩
  have g1:m3.get m.n=.cells [v] 29 none:=be
  have g2:m3.get m1.n=.cells (u.c w) 43 none:=be
  unfold ptrTo;rw[cY,aI g1 co];show aS (some (Value.agg #[v])) _;rw[ae];apply aw (nS hX (h.ak k2) ac);rw[bB,ae,ag]
  have g0:∀(mm:M) (lo:Nat),(∀c,c<m3.n->mm.get c=m3.get c)->¬(iV (bH l)/\iV (ju u (bH l)))->m.n<=lo->
    dh (bh TE mm 29 (Ψ m2.n 0) (.agg #[LF])) λm10 o1=>aS (aC TE m10 29 (Ψ m2.n 0)) λv12=>
     (aZ (aM [v12,ν 120])/\m.n<=min lo o1/\m.n=m.n/\Ext m m/\rM l u m (aM [v12,ν 120]))\/
     ((aZ (aM [v12,ν 120])=false\/min lo o1<m.n)/\min m.n (min lo o1)=m.n/\Ext m m10/\rM l u m10 (aM [v12,ν 120])):=by
   intro mm lo hk l2 o2;have g3:mm.get m2.n=.cells [LF] 29 none:=be
   refine aj iz g3 rfl rfl rfl λm10 B1 b0 d1=>?_;have b0:m10.get m2.n=.cells [LF] 29 none:=b0;rw[cY,aI b0 co];show aS (some (Value.agg #[LF])) _;rw[ae];exact .inl ⟨rfl,ac,rfl,.refl,.no l2⟩
  have p1:bz TE 29 []=some (.agg #[LF]):=EC;refine af (λhb=>?_) (λhb=>?_)
  ·have hb:iV (bH l)=false:=be
   rw[p1,ae];exact g0 m3 (min m.n m3.n) (λ_ _=>rfl) be ac
  have u2:iV (bH l):=be
  refine ah λm13 B2 i1 j1=>?_;obtain⟨oc,v2⟩:∃oc,oc=m3.n:=⟨_,rfl⟩
  rw[<-v2]at i1⊢;have G2:Ext m3 m13:=⟨ac,λc hc=>j1 c hc⟩
  refine Lp.intro (γ:=Nat) (λi=>l.length-i) (λi vs mm lo=>∃(done:Bool) (acc:List UW) (r:Φ),vs=[.bool done,ν i]/\i<=l.length/\Ia oc mm acc r/\(∀c,c<oc->mm.get c=m3.get c)/\m.n<=lo/\m13.n<=mm.n/\(done=false->bH acc=(bH l).take i/\∀x∈(bH l).take i,¬u.id<x.id)/\(done->bH acc=ju u ((bH l).take i)/\∃x∈(bH l).take i,u.id<x.id)/\acc.length<=i+1) 0 ⟨false,[],_,rfl,ZX _,⟨i1,.nil,λx hx=>(by cases hx),λx hx=>(by cases hx)⟩,λc hc=>j1 c ac,ac,Aj _,λ_=>⟨rfl,λx hx=>be⟩,λh=>(by cases h),ZX _⟩ ?_;rintro i vs mm p0 ⟨done,acc,r,rfl,hi,h0,hk,o2,G1,B0,r1,j3⟩;have gf:mm.get m.n=.cells [v] 29 none:=be
  have gu:mm.get m1.n=.cells (u.c w) 43 none:=be
  have u1:Ext m mm:=⟨ac,be⟩
  have hF:=h.ak u1;have O0:∀m':M,m'.get m.n=.cells [v] 29 none->aC TE m' 27 (Ψ m.n (0+0))=some v:=λm' h=>by rw[dX,aH h];rfl
  have P0:∀(m':M) acc r,Ia oc m' acc r->aC TE m' 27 (Ψ oc (0+0))=some r:=λm' acc r h=>by rw[dX,aH h.cell];rfl
  rw[av,av,bk,ae,O0 mm gf,ae,hF.sl.len cM,an,aK,ae,ag];refine af (λH1=>?_) (λk3=>?_)
  ·have H1:i<l.length:=be
   obtain⟨x,hx⟩:∃x,l[i]?=some x:=⟨_,Np H1⟩
   have k1:=Jc hx;have Q0:(bH l).take (i+1)=(bH l).take i++ [x.u]:=by rw[Tv,kh hx];rfl
   refine aX (λvs m' lo=>vs=[.bool (!done && decide (u.id<x.u.id))]/\mm=m'/\p0=lo) (λR hR=>?_) ?_
   ·rw[bB,ae,ag];refine af (λh1=>?_) (λh1=>?_);·have⟨q,q0,f1,f2,f3⟩:=zm hF.sl hx;obtain⟨l0, -⟩:=ji gu;rw[ae,O0 mm gf,ae,f1,ae,f2,ae,f3,ae,aW,ae,l0,ae,cz,ae];exact hR _ _ _ ⟨be,rfl,rfl⟩
    exact hR _ _ _ ⟨be,rfl,rfl⟩
   rintro _ _ _ ⟨rfl,rfl,rfl⟩;rw[av,ag]
   have step:∀(m':M) (F:List UW) (r':Φ),Ia oc m' F r'->(∀c,c<oc->m'.get c=m3.get c)->m13.n<=m'.n->F.length<100000->
     ∃q w' i0 k0 r0 n0 j0,aE TE 27 v (ν i)=some q/\aC TE m' 43 q=some x.v/\C X (.func 163) [x.v] m' m'.n (x.u.v w') i0/\aO TE i0 27 1 [(0,x.u.v w')]=some (RR i0.n 0 1 1,k0)/\
      aR TE (M.wl k0 (M.n k0)) .append [27,27] [r',RR i0.n 0 1 1]=some (r0,n0)/\
      bh TE n0 27 (Ψ oc (0+0)) r0=some (j0,oc)/\oc+1<=n0.low/\Ia oc j0 (F++ [⟨x.u,w'⟩]) r0/\(∀c,c<oc->j0.get c=m3.get c)/\m13.n<=j0.n:=by
    intro m' F r' hg K1 w2 O1;have l1:Ext m m':=⟨ac,be⟩
    have⟨q,q1,q2,_⟩:=(h.ak l1).sl.gh (k:=.i64) hx;obtain⟨w',i0,k0,r0,n0,j0,h1,h2,h3,h4,h5,h6,h7⟩:=pX hX hg ((h.ak l1).sh x k1) (h.ln x k1) ac;exact⟨q,w',i0,k0,r0,n0,j0,q1,q2,h1,h2,h3,h4,h5,h6,λc hc=>by rw[h7.lo c hc,K1 c hc],by have:=h7.n;omega⟩
   refine af (λh1=>?_) (λh1=>?_)
   ·rw[IG]at h1;have⟨h1,h2⟩:=h1;have d0:done=false:=be
    have e0:u.id<x.u.id:=be
    have⟨e1,e2⟩:=B0 d0;have M2:acc.length<=i:=by have:=congrArg List.length e1;rw[cE,PK]at this;omega
    obtain⟨wa,l3,n3,ra,o3,c1,a1,a2,a3,a4,a5,a6,a7⟩:=pX hX h0 (hw.ak u1) A1 ac;obtain⟨q,wb,r3,m64,rb,u3,w3,b1,b2,b3,b4,b5,b6,b7,b8,b9,v1⟩:=step c1 _ ra a6 (λc hc=>by rw[a7.lo c hc,hk c hc]) (by have:=a7.n;omega) be;have T1:c1.get m.n=.cells [v] 29 none:=by rw[a7.lo _ ac,gf]
    rw[bk,ae,P0 mm acc r h0,ae,bQ gu,ae];refine aw a1 ⟨Aj _,?_⟩;rw[a2,an,a3,an,ae,a4,an,ae,P0 c1 _ _ a6,ae,ae,O0 c1 T1,ae,b1,ae,b2,ae];refine aw b3 ⟨Aj _,?_⟩;rw[b4,an,b5,an,ae,b6,an,aL,ae,wrap64];have:=a7.n;refine⟨i+1,ac,true,_,rb,rfl,ac,b8,b9,ac,v1,(λh=>by cases h),λ_=>⟨?_,x.u,be,e0⟩,be⟩;rw[Q0,Fx e2];show bH ((acc++ [⟨u,wa⟩])++ [⟨x.u,wb⟩])=_;unfold bH at e1⊢;rw[Xj,Xj,e1];simp[ju,e0]
   obtain⟨q,wb,i0,k0,rb,n0,j0,b1,b2,b3,b4,b5,b6,b7,b8,b9,v1⟩:=step mm _ r h0 hk G1 ac;rw[bk,ae,P0 mm acc r h0,ae,ae,O0 mm gf,ae,b1,ae,b2,ae];refine aw b3 ⟨Aj _,?_⟩;rw[b4,an,b5,an,ae,b6,an,aL,ae,wrap64];refine⟨i+1,ac,done,_,rb,rfl,ac,b8,b9,ac,v1,λhd=>?_,λhd=>?_,be⟩
   ·have⟨e1,e2⟩:=B0 hd;have hn:¬u.id<x.u.id:=by rw[hd,F5,Dn]at h1;simpa using h1
    refine⟨?_,λy hy=>?_⟩;·rw[Q0];unfold bH at e1⊢;rw[Xj,e1];rfl
    rw[Q0]at hy;rcases L3.1 hy with hy|hy;·exact e2 y hy
    rw[PY]at hy;subst hy;exact hn
   have⟨e1,y,hy,e0⟩:=r1 hd;refine⟨?_,y,be,e0⟩;rw[Q0,Ht ⟨y,hy,e0⟩];unfold bH at e1⊢;rw[Xj,e1];rfl
  have y2:i=l.length:=by
   have:¬(i:Int)< (l.length:Int):=be
   omega
  subst y2;rw[Vq (by rw[cE];exact Aj _)]at B0 r1
  have fin:∀(m':M) (F:List UW) (r':Φ) (s0:Nat),Ia oc m' F r'->(∀c,c<oc->m'.get c=m3.get c)->m13.n<=m'.n->m.n<=s0->bH F=ju u (bH l)->F.length<100000->
    C X (.func 99) [.agg #[r']] m' m'.n (.bool (iV (ju u (bH l)))) m'/\aC TE m' 29 (Ψ oc 0)=some (.agg #[r'])/\
    (iV (ju u (bH l))->dh (bh TE m' 29 (Ψ m2.n 0) (.agg #[r'])) λu0 y0=>aS (aC TE u0 29 (Ψ m2.n 0)) λv12=>
     (aZ (aM [v12,ν 0])/\m.n<=min s0 y0/\m.n=m.n/\Ext m m/\rM l u m (aM [v12,ν 0]))\/
     ((aZ (aM [v12,ν 0])=false\/min s0 y0<m.n)/\min m.n (min s0 y0)=m.n/\Ext m u0/\rM l u u0 (aM [v12,ν 0]))):=by
   intro m' F r' s0 hg K1 w2 O2 o0 O1;refine⟨by rw[<-o0];exact nS hX hg.qj ac,by rw[cY,aI hg.cell co];rfl,λhv=>?_⟩;have g3:m'.get m2.n=.cells [LF] 29 none:=be
   refine aj iz g3 rfl rfl (by show(one r' && true)=true;rw[hg.ow.sl.one];rfl) λm10 B1 b0 d1=>?_;have b0:m10.get m2.n=.cells [r'] 29 none:=b0;rw[cY,aI b0 co];show aS (some (Value.agg #[r'])) _;rw[ae];have c2:cC m10 F r':=hg.qj.aY λc cs t g hb ht=>by rw[d1 c be,hb]
   refine .inr ⟨.inl ?_,ac,⟨ac,be⟩,.yes u2 hv o0 c2⟩;have z2:F≠ []:=λe=>by rw[e]at o0;exact KZ u (bH l) o0.symm
   have⟨bb,A2,_⟩:=Own.of hg.ow z2;rw[A2];simp[aM,aZ,eC,bO]
  rw[bB,ae,ag];refine af (λh1=>?_) (λh1=>?_)
  ·have d0:done=false:=be
   have⟨e1,e2⟩:=B0 d0;obtain⟨wa,y3,A3,ra,w1,A0,a1,a2,a3,a4,a5,a6,a7⟩:=pX hX h0 (hw.ak u1) A1 ac;have o0:bH (acc++ [⟨u,wa⟩])=ju u (bH l):=by have:ju u (bH l++ [])=bH l++ju u []:=Fx e2;rw[Vy]at this;rw[this];unfold bH at e1⊢;rw[Xj,e1];rfl
   have n7:=a7.n;obtain⟨f1,f2,f3⟩:=fin A0 _ ra (min (min (min p0 mm.n) w1.low) oc) a6 (λc hc=>by rw[a7.lo c hc,hk c hc]) ac ac o0 be;rw[bk,ae,P0 mm acc r h0,ae,bQ gu,ae];refine aw a1 ⟨Aj _,?_⟩;rw[a2,an,a3,an,ae,a4,an,f2,ae];apply aw f1;rw[bB,ae,ag];have d2:min (min (min (min p0 mm.n) w1.low) oc) A0.n=min (min (min p0 mm.n) w1.low) oc:=be
   rw[d2];cases y1:iV (ju u (bH l))with
   |false=>rw[F5,bN,p1,ae];exact g0 A0 _ (λc hc=>by rw[a7.lo c ac,hk c ac]) be ac
   |true=>rw[T9,aT,f2,ae];exact f3 y1
  ·have d0:done:=be
   have⟨e1,_⟩:=r1 d0;obtain⟨f1,f2,f3⟩:=fin mm acc r (min p0 mm.n) h0 hk G1 ac e1 ac;rw[f2,ae];apply aw f1;rw[bB,ae,ag];cases y1:iV (ju u (bH l))with
   |false=>rw[F5,bN,p1,ae];exact g0 mm _ (λc hc=>hk c ac) be ac
   |true=>rw[T9,aT,f2,ae];exact f3 y1
 obtain⟨rv,m',b,hc,rfl,h1,h2⟩:=key;exact⟨rv,m',hc,h1,h2⟩
structure I6 where
 a:Int
 b:Int
 c:Int
 d:Int
 e:Int
 f:Int
def I6.c'(x:I6):Ω:=[.int .i64 x.a,.int .i64 x.b,.int .i64 x.c,.int .i64 x.d,.int .i64 x.e,.int .i64 x.f]
def I6.ok(x:I6):Prop:=pI x.a/\pI x.b/\pI x.c/\pI x.d/\pI x.e/\pI x.f
instance:aQ I6 where
 ty:=62
 sz:=6
 agg:=true
 dU:=[]
 rep _ x cs:=cs=x.c'
 pos:=ce
 one:=be
 len:=by rintro _ _ _ rfl;rfl
 iL:=by rintro _ _ _ rfl;rfl
 aY:=be
def yp:rp TE 22 62 I6:=⟨ai.t22,ai.t62,bv,⟨_,rfl⟩,rfl,bv,rfl,rfl⟩
def V5{l:List I6}{v:Φ}(h:vT m l v){i:Nat}{x:I6}(hx:l[i]?=some x):∃b o,aE TE 22 v (ν i)=some (Ψ b o)/\aC TE m 62 (Ψ b o)=some (.agg x.c'.toArray)/\aC TE m 3 (Ψ b (o+5))=some (ν x.f):=by have⟨p,cs,e1,e2,e3⟩:=h.index yp (k:=.i64) hx;have e3:cs=x.c':=e3;subst e3;have d0:=(Vc.1 hx).1;rcases h with h|h;have⟨b,o,bc,g,cs,f1,hb,F,hle,hj⟩:=h.jc yp (k:=.i64) hx;have F:cs=x.c':=F;subst F;rw[e1]at f1;cases f1;refine⟨b,o,e1,e2,?_⟩;rw[bR,aH hb,hj 5 ce];rfl;rcases h with⟨_,rfl⟩|⟨b,o,c,bc,rfl,hb,b0⟩;grind;have⟨hle,F⟩:=b0 i x hx;have F:(bc.drop (o+i*6)).take 6=x.c':=F;have f1:aE TE 22 (RR b o l.length c) (ν i)=some (Ψ b (o+i*6)):=(by have hc:0<=(i:Int)/\(i:Int)< (l.length:Int)/\0<ai.t22.es:=⟨ac,ac,ce⟩;have hd:ai.t22.d=.slice 62:=rfl;simp only[aE,VS,hd];rw[QL hc,bs rfl];rfl);rw[e1]at f1;cases f1;refine⟨b,o+i*6,e1,e2,?_⟩;have h5:bc[o+i*6+5]?=some (ν x.f):=(by have:=congrArg (·[5]?) F;simp only[TP (show 5<6 by decide),Ns]at this;rw[this];rfl);rw[bR,Ez hb h5 rfl]
def aef(hX:cy X){xs:List I6}{v:Φ}(hv:vT m xs v)(u1:∀x∈xs,x.ok)(hlen:xs.length<9223372036854775808):
  ∃l r m',C X (.func 71) [v] m m.n (.agg #[r]) m'/\Ext m m'/\cC m' l r/\cq (bH l):=by
 have key:∃rv m' b,C X (.func 71) [v] m b rv m'/\b=m.n/\Ext m m'/\∃l r,rv=.agg #[r]/\cC m' l r/\cq (bH l):=(by refine Cl.gen (R:=λrv m' b=>b=m.n/\Ext m m'/\∃l r,rv=.agg #[r]/\cC m' l r/\cq (bH l)) (hX.no _ rfl) (Us func71) rfl ?_;rw[F71];dsimp only[aG];refine ah λm1 b2 c2 d2=>?_;refine ah λm2 g2 v1 i2=>?_;have w1:Ext m m2:=⟨ac,be⟩;have g1:m2.get m.n=.cells [LF] 29 none:=be;have s0:∀mm:M,cC mm [] LF:=λmm=>⟨.nil,λx hx=>(by cases hx),λx hx=>(by cases hx),.inl rfl⟩;have h0:cq (bH []):=⟨by simp[bH],λu hu=>(by simp[bH]at hu),λi a b ha=>(by simp[bH]at ha),λi k a b _ ha=>(by simp[bH]at ha)⟩;unfold ptrTo;refine Lp.intro (γ:=Nat) (λi=>12-i) (λi vs mm lo=>∃l r,vs=[ν i]/\i<=12/\Ext m mm/\m2.n<=mm.n/\mm.get m.n=.cells [LF] 29 none/\mm.get m1.n=.cells [r] 29 none/\cC mm l r/\cq (bH l)/\m.n<=lo/\(l=[]->r=LF)) 0 ⟨[],_,rfl,ac,w1,Aj _,g1,v1,s0 _,h0,Aj _,λ_=>rfl⟩ ?_;rintro i vs mm lo ⟨l,r,rfl,hi,hx,j2,ga,gb,hF,hP,l2,u0⟩;have o2:l.length<=12:=(by have:=hP.len;rwa[cE]at this);rw[av];refine aX (λvs m' y1=>vs=[.bool (decide (i<xs.length) && decide (i<12))]/\mm=m'/\lo=y1) (λR hR=>?_) ?_;rw[(hv.ak hx).len yp,an,aK,ae,ag];refine af (λh=>?_) (λh=>?_);have h:i<xs.length:=be;rw[aK,ae];refine hR _ _ _ ⟨?_,rfl,rfl⟩;rw[L5 h,Dn];congr 2;rw[ge];omega;have h:¬i<xs.length:=be;exact hR _ _ _ ⟨be,rfl,rfl⟩;rintro _ _ _ ⟨rfl,rfl,rfl⟩;rw[av,ag];have p0:∀(m':M) (b:Nat) (r:Φ),m'.get b=.cells [r] 29 none->aC TE m' 29 (Ψ b 0)=some (.agg #[r]):=λm' b r h=>(by rw[cY,aI h co];rfl);refine af (λh=>?_) (λh=>?_);simp only[IG,Mj]at h;have⟨A1,K1⟩:=h;obtain⟨x,P0⟩:∃x,xs[i]?=some x:=⟨_,Np A1⟩;have⟨k0,k1,k2,k3,k4,k5⟩:=u1 x (Jc P0);have⟨b,o,e1,e2,e3⟩:=V5 (hv.ak hx) P0;have e4:aE TE 62 (Ψ b o) (ν 5)=some (Ψ b (o+5)):=UQ (i:=5) ce;rw[p0 mm _ _ gb,ae,kO,ae,e1,ae,e4,ae,e3,ae];refine aw (fh hX k5 ce) ⟨Aj _,?_⟩;rw[aL,ae,ae,e2,ae];obtain⟨u,w,B1,Q0,i0,a1,O1⟩:=HU (m:=mm) hX (rO _) k0 k1 k2 k3 k4 k5;refine aw Q0 ⟨Aj _,?_⟩;obtain⟨rv,B0,b1,y0,F⟩:=S1 (m:=B1) hX (hF.ak i0) ac a1 ac;refine aw b1 ⟨Aj _,?_⟩;have n30:=i0.n;have n33:=y0.n;have d0:=i0.trans y0;by_cases hc:iV (bH l)/\iV (ju u (bH l))=true;unfold rM at F;rw[QL hc]at F;obtain⟨l',r',rfl,O0,c1⟩:=F;rw[aD,aD];simp only[LB,IM,ae];refine ah λG1 d1 j0 i1=>?_;have or:one r':=c1.sl.one;refine aj iz j0 rfl rfl (by show(one r' && true)=true;rw[or];rfl) λg0 j1 e0 l1=>?_;have e0:g0.get B0.n=.cells [r'] 29 none:=e0;have b0:Ext B0 g0:=⟨ac,be⟩;rw[aJ,ae,ag,L5 rfl,bN,p0 g0 _ _ e0,ae];have o1:g0.get m1.n=.cells [r] 29 none:=b0.cells (d0.cells gb);refine aj iz o1 rfl rfl be λH1 T1 l0 n0=>?_;have l0:H1.get m1.n=.cells [r'] 29 none:=l0;rw[aL,ae,wrap64];refine⟨i+1,ac,l',r',rfl,ac,⟨be,λc hc=>by rw[n0 c ac,b0.get c (by have:=hx.n;omega),d0.get c (by have:=hx.n;omega),hx.get c hc]⟩,ac,?_,l0,?_,?_,be,λe=>?_⟩;rw[n0 _ ac,b0.get _ ac,d0.get _ ac,ga];exact(c1.ak b0).aY λc cs t g hb ht=>(by rw[n0 c be,hb]);rw[O0];exact qi.1 hc.2;rw[e]at O0;exact absurd O0.symm (KZ u _);unfold rM at F;rw[MO hc]at F;subst F;rw[aD,aD];simp only[LB,IM,ae];refine ah λG1 d1 j0 i1=>?_;refine aj iz j0 rfl rfl rfl λg0 j1 e0 l1=>?_;have b0:Ext B0 g0:=⟨ac,be⟩;rw[aJ,ae,ag,show decide ((120:Int)=0)=false from rfl,aT,aL,ae,wrap64];have q0:=d0.trans b0;exact⟨i+1,ac,l,r,rfl,ac,hx.trans q0,be,q0.cells ga,q0.cells gb,hF.ak q0,hP,be,u0⟩;rw[p0 mm _ _ gb,ae];have or:one r:=hF.sl.one;refine aj iz ga rfl rfl (by show(one r && true)=true;rw[or];rfl) λr0 a2 o0 A0=>?_;have o0:r0.get m.n=.cells [r] 29 none:=o0;rw[p0 r0 _ _ o0,ae];have p1:cC r0 l r:=hF.aY λc cs t g hb ht=>(by rw[A0 c be,hb]);have r1:Ext m r0:=⟨be,λc hc=>by rw[A0 c ac,hx.get c hc]⟩;by_cases hl:l=[];have hr:=u0 hl;subst hl;subst hr;exact .inl ⟨rfl,ac,rfl,.refl,[],_,rfl,s0 m,h0⟩;refine .inr ⟨.inl ?_,ac,r1,l,r,rfl,p1,hP⟩;rcases hF.cap with h|⟨bb,o,c,bc,g,rfl,_⟩;exact absurd h hl;simp[aM,aZ,eC,bO])
 obtain⟨rv,m',b,hc,rfl,h1,l,r,rfl,h2,h3⟩:=key;exact⟨l,r,m',hc,h1,h2,h3⟩
section
open Go Go.D Go.ChangeShapes Go.WideShapes Go.ChangeAt Go.RowKit Go.Proofs.Tryz
def tH:Tryz.prog.underlying 22=some (.slice 62):=bv
def u_six:Tryz.prog.underlying 62=some (.array 6 3):=bv
section
variable {H:Type} {enc:TypeId×Φ->H} {W W':World} {sp:Nat->Bool} {held:Bool} {base:Nat}
def Ju:∀fuel cs x,DataW.trod enc Tryz.prog W 0 sp held fuel 62 cs=some x->∃y:I6,y.ok/\(∀m,aQ.rep m y cs)/\∀u∈cs,bO u:=by intro fuel cs x h;obtain⟨l,rfl,hl,F⟩:=KY u_six bv h;match l,hl,F with|[a,b,c,d,e,f],_,F=>refine⟨⟨a,b,c,d,e,f⟩,⟨F _ co,F _ co,F _ co,F _ co,F _ co,F _ co⟩,λm=>rfl,λu hu=>?_⟩;obtain⟨z,_,rfl⟩:=NL.1 hu;rfl
theorem adF{v:Φ}{d:DataW H}{ps:List MemPlace}(F:Value.okWide Tryz.prog W .any base 22 v)(h:DataW.Trod enc Tryz.prog W 0 sp held 22 v d ps):
  bw (zW W) v v/\∃l:List I6,Lv (fF W) l v/\l.length<9223372036854775808/\∀y∈l,y.ok:=by simp only[Value.okWide,tH]at F;have⟨fuel,h⟩:=h;have hv:v.cells.toList=[v]:=(by cases v with|agg cs=>exfalso;revert F;simp[Cell.okWide,Cell.ok,tH]|_=>rfl);rw[hv]at h;obtain⟨a,l,b,c,d⟩:=EY (α:=I6) (v:=v) tH bv Ju F h;grind
def abC{v:Φ}{d:DataW H}{ps:List MemPlace}(hb:Below W.heap.size W W')(h:DataW.Trod enc Tryz.prog W 0 (λ_=>true) true 22 v d ps)(F:∀x∈ps,x.block<W.heap.size)(sp:Nat->Bool)(hs:∀x∈ps,sp x.block):DataW.Trod enc Tryz.prog W' 0 sp true 22 v d ps:=
 WideElems.Trod_stays laidOut bv (Ds bv) h (λx hx=>hb.same (F x hx)) hs
end
end
section
set_option maxRecDepth 100000
set_option maxHeartbeats 0
variable{W:Words}{x0 x1 x2 x3:Φ}{m:M}{R:Ω->M->Nat->Prop}
def F83:=cN (P:=dC TE W f83 [x0,x1] m R)
def F82:=cN (P:=dC TE W f82 [x0,x1,x2,x3] m R)
def F129:=cN (P:=dC TE W f129 [x0,x1] m R)
def F130:=cN (P:=dC TE W f130 [x0,x1] m R)
def F95:=cN (P:=dC TE W f95 [x0] m R)
def F29{X:aF}{x0 x1:Φ}{m:M}{R:Ω->M->Nat->Prop}:dC TE (aG TE X) f29 [x0,x1] m R=ς m x1 41 λa=>υ a [ψ 0,ψ 0,ψ 0,ψ 0] 48 λb=>υ b [L4] 4 λc=>jn (λa=>ω X 78 [x0] c λb c d=>ο .not b λb=>iU b (a [WB] c (min m.n d)) (δ c 41 (χ m) λb=>ω X 78 [b] c λb c f=>ο .not b λb=>iU b (a [WB] c (Γ m.n d f)) (δ c 41 (χ m) λb=>ω X 79 [x0,b] c λb c g=>a [b] c (Δ m.n d f g)))) (λc d f=>un c λc _=>iU c (θ 48 [] λc=>ι d 48 (χ a) c λc d=>ι c 4 (χ b) L4 λc g=>aS (aC TE c 48 (χ a)) λa=>aS (aC TE c 4 (χ b)) λb=>R [a,b] c (Γ f d g)) (ω X 80 [x0] d λc d g=>rK c λc h i=>RF TE X c h.toList i.toList d (min f g) (λc f g=>un c λc h=>un h λh i=>NV i (υ f [ψ 0,ψ 0] 46 λi=>ι i 46 (χ f) c λc i=>υ c [ψ 0,ψ 0] 46 λj=>ι j 46 (χ c) h λh j=>VZ d.n f h λh=>δ h 41 (χ m) λk=>ω X 80 [k] h λk l n=>rK k λk o p=>RF TE X k o.toList p.toList l (Θ f.n i j d.n n) (λd g h=>un d λd i=>un i λi j=>NV j (υ g [ψ 0,ψ 0] 46 λj=>ι j 46 (χ g) d λd j=>υ d [ψ 0,ψ 0] 46 λk=>ι k 46 (χ d) i λi k=>VZ l.n g i λi=>jn (λa=>δ i 46 (χ f) λb=>δ i 46 (χ c) λh=>δ i 46 (χ g) λn=>ω X 81 [b,h,n] i λb h i=>η .neq 3 b (ψ 0) λb=>iU b (a [WB] h (Θ g.n j k l.n i)) (δ h 46 (χ f) λb=>δ h 46 (χ c) λc=>δ h 46 (χ d) λd=>ω X 81 [b,c,d] h λb c d=>η .neq 3 b (ψ 0) λb=>a [b] c (Λ g.n j k l.n i d))) (λj k l=>un j λj _=>iU j (h i .normal k l) (δ k 46 (χ f) λj=>δ k 46 (χ c) λn=>δ k 46 (χ g) λg=>δ k 46 (χ d) λd=>ω X 82 [j,n,g,d] k λd g j=>ξ d 0 λk=>ξ d 1 λd=>υ g [ψ 0,ψ 0] 46 λn=>υ n [ψ 0,ψ 0] 46 λo=>ι o 46 (χ g) k λk o=>ι k 46 (χ n) d λd k=>jn (λa=>δ d 46 (χ g) λb=>δ d 46 (χ n) λc=>η .eql 46 b c λb=>iU b (a [WB] d (Δ l j o k)) (δ d 46 (χ g) λb=>δ d 46 (χ n) λc=>ω X 83 [b,c] d λb c d=>η .gtr 3 b (ψ 0) λb=>a [b] c (Θ l j o k d))) (λd j k=>un d λd _=>iU d (h i .normal j k) (δ j 46 (χ f) λd=>δ j 46 (χ c) λc=>ω X 83 [d,c] j λc d f=>η .gtr 3 c (ψ 0) λc=>iU c (δ d 46 (χ n) λc=>δ d 46 (χ g) λj=>ι d 46 (χ g) c λc d=>ι c 46 (χ n) j λc j=>δ c 46 (χ g) λg=>δ c 46 (χ n) λl=>θ 48 [(0,g),(1,l)] λg=>ι c 48 (χ a) g λa c=>ι a 4 (χ b) WB λa b=>h i .ret a (Λ k f d j c b)) (δ d 46 (χ g) λc=>δ d 46 (χ n) λg=>θ 48 [(0,c),(1,g)] λc=>ι d 48 (χ a) c λa c=>ι a 4 (χ b) WB λa b=>h i .ret a (Δ k f c b)))))))) (λa b=>g h .normal a b) [(.ret,λa b=>g h .ret a b)])) (λc d=>θ 48 [] λf=>ι c 48 (χ a) f λc f=>ι c 4 (χ b) L4 λc g=>aS (aC TE c 48 (χ a)) λa=>aS (aC TE c 4 (χ b)) λb=>R [a,b] c (Γ d f g)) [(.ret,λc d=>aS (aC TE c 48 (χ a)) λa=>aS (aC TE c 4 (χ b)) λb=>R [a,b] c d)])):=bv
end
theorem cq.lt(h:cq us):∀(d i:Nat) (a b:Un),us[i]?=some a->us[i+d+1]?=some b->a.id<b.id
 |0,i,a,b,F,hb=>h.zg i a b F hb
 |d+1,i,a,b,F,hb=>by obtain⟨c,hc⟩:∃c,us[i+d+1]?=some c:=⟨_,Np be⟩;have h1:=h.lt d i a c F hc;have h2:=h.zg (i+d+1) c b hc be;omega
def cq.Xd(h:cq us){i k:Nat}{a b:Un}(F:i<k)(ha:us[i]?=some a)(hb:us[k]?=some b):a.id<b.id:=
 h.lt (k-i-1) i a b ha be
def AN(hX:cy X)(u:Un)(w:Φ)(id:Int):C X (.func 209) [u.v w,ν id] m m.n (ν (dv u.id id)) m:=by apply Cl.fl hX (Us func209);rw[F209];dsimp only[aG];refine ah λm1 b0 F d0=>?_;simp only[bd]at F;have F:m1.get m.n=.cells (u.c w) 43 none:=F;have⟨l0,_⟩:=ji F;unfold ptrTo;rw[aW,ae,l0,ae];apply aw (gC hX _ _);exact⟨rfl,ac⟩
def shr_u{a:Int}:bE TE .shr 220 (.int .u64 a) (.int .u64 1)=some (.int .u64 (a.fdiv 2)):=bv
def VV:bE TE .shr 220 (.int .u64 (n:Int)) (.int .u64 1)=some (.int .u64 ((n/2:Nat):Int)):=by rw[shr_u,Int.fdiv_eq_ediv_of_nonneg _ ac];rfl
def VO(h:n<1000):IntKind.wrap .u64 (n:Int)=n:=by have e:IntKind.u64.wrap (n:Int)=(n:Int)%18446744073709551616:=(by unfold IntKind.wrap;simp[IntKind.bits,IntKind.signed]);grind
def Mm(hX:cy X){l:List UW}{v:Φ}(h:Sl m l v)(hP:cq (bH l))(id:Int):
  ∃(i:Nat) (is:Bool),C X (.func 208) [v,ν id,.func (.func 209) #[] #[]] m m.n (.tuple #[ν i,.bool is]) m/\(is->∃x,l[i]?=some x/\x.u.id=id)/\(is=false->∀x∈l,x.u.id≠id):=by have hl:l.length<=12:=(by have:=hP.len;rwa[cE]at this);have key:∃rv m' b,C X (.func 208) [v,ν id,.func (.func 209) #[] #[]] m b rv m'/\(m'=m/\b=m.n/\∃(i:Nat) (is:Bool),rv=.tuple #[ν i,.bool is]/\(is->∃x,l[i]?=some x/\x.u.id=id)/\(is=false->∀x∈l,x.u.id≠id)):=(by refine Cl.gen (R:=λrv m' b=>m'=m/\b=m.n/\∃(i:Nat) (is:Bool),rv=.tuple #[ν i,.bool is]/\(is->∃x,l[i]?=some x/\x.u.id=id)/\(is=false->∀x∈l,x.u.id≠id)) (hX.no _ rfl) (Us func208) rfl ?_;rw[F208];dsimp only[aG];rw[h.len cM,an];refine Lp.intro (γ:=Nat×Nat) (λs=>s.2-s.1) (λs vs mm lo=>vs=[ν s.1,ν s.2]/\s.1<=s.2/\s.2<=l.length/\m=mm/\m.n<=lo/\(∀k x,k<s.1->l[k]?=some x->x.u.id<id)/\∀k x,s.2<=k->l[k]?=some x->id<=x.u.id) (0,l.length) ⟨rfl,ZX _,Aj _,rfl,Aj _,λk x hk=>ac,be⟩ ?_;rintro⟨i,j⟩ vs mm lo ⟨rfl,l0,hj,rfl,n0,d0,b0⟩;dsimp only at l0 hj d0 b0⊢;rw[av,av,aK,ae,ag];refine af (λF=>?_) (λg0=>?_);have F:i<j:=be;obtain⟨x,hx⟩:∃x,l[(i+j)/2]?=some x:=⟨_,vW⟩;have⟨a,e1,e2,_⟩:=h.gh (k:=.i64) hx;have h0:=kh hx;rw[aL,ae,wrap64,show(i:Int)+(j:Int)=((i+j:Nat):Int) by omega,CI,VO ac,ae,VV,ae,CJ,wrap64,ae,e1,ae,e2,ae,cx];apply aw (AN hX x.u x.w id);rw[aK,ae,ag];have e0:∀k y,l[k]?=some y->(k<(i+j)/2->y.u.id<x.u.id)/\((i+j)/2<k->x.u.id<y.u.id):=λk y hk=>⟨λF=>hP.Xd F (kh hk) h0,λF=>hP.Xd F h0 (kh hk)⟩;refine af (λhc=>?_) (λhc=>?_);have hc:x.u.id<id:=(by unfold dv at hc;by_cases h1:x.u.id<id;exact h1;rw[MO h1]at hc;split at hc <;>simp at hc);rw[aL,ae,wrap64];refine⟨((i+j)/2+1,j),be,be,be,hj,rfl,ac,λk y hk hy=>?_,b0⟩;by_cases e:k=(i+j)/2;subst e;rw[hx]at hy;cases hy;exact hc;have:=(e0 k y hy).1 be;omega;have hc:id<=x.u.id:=(by unfold dv at hc;by_cases h1:x.u.id<id;rw[QL h1]at hc;simp at hc;omega);refine⟨(i,(i+j)/2),be,rfl,be,be,rfl,ac,d0,λk y hk hy=>?_⟩;by_cases e:k=(i+j)/2;subst e;rw[hx]at hy;cases hy;exact hc;have:=(e0 k y hy).2 be;omega;have i0:i=j:=(by have:¬(i:Int)< (j:Int):=be;omega);subst i0;refine aX (λvs m' j0=>∃is,vs=[ν i,.bool is]/\m=m'/\m.n<=j0/\(is->∃x,l[i]?=some x/\x.u.id=id)/\(is=false->∀x∈l,x.u.id≠id)) (λR hR=>?_) ?_;rw[aK,ae,ag];refine af (λF=>?_) (λg0=>?_);have F:i<l.length:=be;obtain⟨x,hx⟩:∃x,l[i]?=some x:=⟨_,Np F⟩;have⟨a,e1,e2,_⟩:=h.gh (k:=.i64) hx;rw[e1,ae,e2,ae,cx];apply aw (AN hX x.u x.w id);rw[aJ,ae];refine hR _ _ _ ⟨_,rfl,rfl,ac,λhe=>⟨x,hx,?_⟩,λhe y hy o0=>?_⟩;have he:dv x.u.id id=0:=be;unfold dv at he;by_cases h1:x.u.id<id;rw[QL h1]at he;omega;rw[MO h1]at he;by_cases h2:id<x.u.id;rw[QL h2]at he;omega;omega;have he:¬dv x.u.id id=0:=be;have⟨k,hk⟩:=RL hy;by_cases e:k=i;subst e;rw[hx]at hk;cases hk;apply he;unfold dv;rw[jq,jq];by_cases e2:k<i;have:=d0 k y e2 hk;omega;have:=b0 i x (Aj _) hx;have:=hP.Xd (show i<k by omega) (kh hx) (kh hk);omega;have g0:l.length<=i:=(by have:¬(i:Int)< (l.length:Int):=be;omega);refine hR _ _ _ ⟨false,rfl,rfl,n0,λh=>(by cases h),λ_ y hy o0=>?_⟩;have⟨k,hk⟩:=RL hy;have:=d0 k y be hk;omega;rintro _ _ j0 ⟨is,rfl,rfl,k0,h1,h2⟩;rw[av,av];exact .inl ⟨rfl,k0,rfl,rfl,i,is,rfl,h1,h2⟩);obtain⟨rv,m',b,hc,rfl,rfl,i,is,rfl,h1,h2⟩:=key;exact⟨i,is,hc,h1,h2⟩
def oJ{u:Un}(h:jD u):bL u.shape:=by simp only[jD,IG]at h;grind
def cp(us:List Un)(id:Int):Option Un:=us.find? λu=>decide (u.id=id)
def om(hP:cq us){i:Nat}{a:Un}(h:us[i]?=some a):cp us a.id=some a:=by unfold cp;cases e:us.find? λu=>decide (u.id=a.id)with|none=>grind|some b=>have h1:=List.find?_some e;have h1:b.id=a.id:=be;have⟨k,hk⟩:=RL (Jf e);rcases Sk i k with F|rfl|F;have:=hP.Xd F h hk;omega;grind;have:=hP.Xd F hk h;omega
def vH{id:Int}(h:∀u∈us,u.id≠id):cp us id=none:=by unfold cp;grind
def fx{id:Int}{u:Un}(h:cp us id=some u):u∈us/\u.id=id:=by unfold cp at h;grind
def Sb(hX:cy X){l:List UW}{v:Φ}(h:cC m l v)(hP:cq (bH l))(id:Int):
  ∃ov m',C X (.func 161) [.agg #[v],ν id] m m.n (.tuple #[ov,.bool (cp (bH l) id).isSome]) m'/\Ext m m'/\NT m' (cp (bH l) id) ov/\(∀u,cp (bH l) id=some u->∃w,ov=u.v w/\Ow m.n m' u.shape w):=by
 have hl:l.length<=12:=(by have:=hP.len;rwa[cE]at this)
 have key:∃rv m' b,C X (.func 161) [.agg #[v],ν id] m b rv m'/\b=m.n/\∃ov,rv=.tuple #[ov,.bool (cp (bH l) id).isSome]/\Ext m m'/\NT m' (cp (bH l) id) ov/\(∀u,cp (bH l) id=some u->∃w,ov=u.v w/\Ow m.n m' u.shape w):=(by refine Cl.gen (R:=λrv m' b=>b=m.n/\∃ov,rv=.tuple #[ov,.bool (cp (bH l) id).isSome]/\Ext m m'/\NT m' (cp (bH l) id) ov/\(∀u,cp (bH l) id=some u->∃w,ov=u.v w/\Ow m.n m' u.shape w)) (hX.no _ rfl) (Us func161) rfl ?_;rw[F161];dsimp only[aG];refine ah λm1 B1 b1 G1=>?_;refine ah λm2 H1 s0 c1=>?_;have u0:Ext m m2:=⟨ac,be⟩;have g1:m2.get m.n=.cells [v] 29 none:=(by rw[c1 _ ac];exact b1);have hF:=h.ak u0;unfold ptrTo;rw[cY,aI g1 co];simp only[NJ,FU,GI,Br,ae];apply aw (um hX hF ac);rw[eQ hP,bB,ae,ag,T9,aT,bk,ae,dX,aH g1];simp only[LU,LB,ae];have⟨i,is,hc,y0,d1⟩:=Mm (m:=m2) hX hF.sl hP id;apply aw hc;rw[aD,aD];simp only[LB,IM,ae];rw[bB,ae,ag];refine af (λhb=>?_) (λhb=>?_);have o0:is=false:=be;have e:cp (bH l) id=none:=vH λu hu=>(by obtain⟨x,hx,rfl⟩:=rQ hu;exact d1 o0 x hx);rw[e];have i1:bz TE 43 []=some (.agg Un.zc.toArray):=qo;rw[i1,ae];refine aj dN s0 rfl rfl rfl λm9 K1 j1 O1=>?_;rw[qO,aI j1 (by simp[bd])];refine .inl ⟨bv,ac,trivial,_,rfl,.refl,rfl,λu h=>by cases h⟩;have o0:is:=be;obtain⟨x,hx,rfl⟩:=y0 o0;rw[om hP (kh hx)];have⟨a,e1,e2,A0⟩:=hF.sl.gh (k:=.i64) hx;have B0:=Jc hx;have hv:=(oJ (hP.val x.u (NL.2 ⟨x,B0,rfl⟩)));have O0:=dH hv;have k1:aC TE m2 27 (Ψ m.n 0)=some v:=(by rw[dX,aH g1];rfl);rw[k1,ae,e1,ae,e2,ae];refine ah λT1 r1 P0 u1=>?_;refine aj dN P0 rfl rfl (Un.dt A0) λp0 v1 d0 w1=>?_;have d0:p0.get m2.n=.cells x.c 43 none:=d0;have g0:Ext m2 p0:=⟨ac,be⟩;obtain⟨-, -, -,l3, -, -⟩:=ji d0;rw[bA,ae,l3,ae];obtain⟨w',l1,Q0,F,e0⟩:=qX (m:=p0) hX ((hF.sh x B0).ak g0) be ac;apply aw Q0;have n34:=e0.n;have o7:one w':=F.sl.one;have q0:=e0.cells d0;rw[ae];refine bV uD q0 (by rw[F.sl.cells];rfl) (by rw[F.sl.cells];show 3+1<=6;omega) (by rw[F.sl.cells];simp[o7]) λa1 y1 i0 b0=>?_;have i0:a1.get m2.n=.cells (x.u.c w') 43 none:=(by rw[i0,F.sl.cells];rfl);rw[bQ i0,ae];have j0:a1.get m1.n=.cells Un.zc 43 none:=(by rw[b0 _ ac,e0.get _ ac,g0.get _ ac,s0]);refine aj dN j0 rfl rfl (Un.dt o7) λk0 A1 l0 n0=>?_;have l0:k0.get m1.n=.cells (x.u.c w') 43 none:=l0;rw[bQ l0,ae];have o1:Sl k0 x.u.shape w':=F.sl.aY λb c t g hb ht=>(by have h1:b≠m2.n:=λe=>(by subst e;rw[q0]at hb;cases hb;simp[aQ.ty,aQ.dU]at ht);rw[n0 b (λe=>by subst e;rw[<-b0 _ h1,j0]at hb;cases hb;simp[aQ.ty,aQ.dU]at ht),b0 b h1,hb]);have r0:∀b c t g,l1.get b=.cells c t g->t∈aQ.ty Pl::aQ.dU Pl->k0.get b=.cells c t g:=λb c t g hb ht=>(by have h1:b≠m2.n:=λe=>(by subst e;rw[q0]at hb;cases hb;simp[aQ.ty,aQ.dU]at ht);rw[n0 b (λe=>by subst e;rw[<-b0 _ h1,j0]at hb;cases hb;simp[aQ.ty,aQ.dU]at ht),b0 b h1,hb]);have a2:Ow m.n k0 x.u.shape w':=(F.mono be).aY r0;have p1:Ext m k0:=⟨be,λc hc=>by rw[n0 c ac,b0 c ac,e0.get c be,g0.get c ac,u0.get c hc]⟩;rcases F with⟨_,h0⟩|⟨b,cs,rfl,_⟩;rw[h0]at O0;simp at O0;exact .inr ⟨.inl (by simp[aM,aZ,eC,bO]),ac,_,rfl,p1,⟨_,rfl,o1⟩,be⟩);obtain⟨rv,m',b,hc,rfl,ov,rfl,h1,h2,h3⟩:=key
 exact⟨ov,m',hc,h1,h2,h3⟩
def K8(hX:cy X){l:List UW}{v:Φ}(h:cC m l v)(hP:cq (bH l))(id:Int):
  ∃F m',C X (.func 161) [.agg #[v],ν id] m m.n (.tuple #[F,.bool (cp (bH l) id).isSome]) m'/\Ext m m'/\NT m' (cp (bH l) id) F:=by obtain⟨F,m',h1,h2,h3, -⟩:=Sb hX h hP id;grind
section
open Go Go.D Go.xV Go.Proofs.Tryz
def cq.find(h:cq us){u:Un}(hu:u∈us):cp us u.id=some u:=by have⟨i,hi⟩:=RL hu;exact om h hi
end
section
variable {X:aF} {m:M}
section
variable {α:Type} [aQ α] {T:TypeId} {ti:TI}
def lv{x:α}{cs:Ω}{b:Nat}{g:Option Nat}(h:m.get b=.cells cs (aQ.ty α) g)(F:aQ.rep m x cs):Sl m [x] (RR b 0 1 1):=
 .inr ⟨b,0,1,_,g,rfl,h,by rw[aQ.len F];simp,λi y hi=>by match i with|0=>cases hi;have hl:=aQ.len F;grind|i+1=>cases hi⟩
def aa9{m:M}{e k sc:Nat}{news:Ω}(h:oU m e k base sl sc F news=some (v',m1)):v'=RR m.n 0 F F:=by unfold oU at h;grind
theorem np{E:Env}{m:M}{T U:TypeId}{x:Φ}(h:aR E (m.wl m.n) .append [T,U] [.slice base sl F,x]=some (v',m1))(hn:kB x=some n)(e0:F<sl+n):
  v'=RR m.n 0 (sl+n) (sl+n):=by have h:eG E (m.wl m.n) T U (.slice base sl F) x=some (v',m1):=h;unfold eG at h;rw[hn]at h;split at h;rename_i ti ui b0 g0 h0 n' _ _ hs d0;(cases hs;cases d0;split at h;cases h;rename_i e _ _;(cases h1:E.ty.get e with|none=>simp only[h1]at h;cases h|some ei=>cases h2:first? (m.wl m.n) ti.es n x with|none=>simp only[h1,h2]at h;cases h|some news=>simp only[h1,h2]at h;cases h3:(Nat.beq ti.es 0 ||Nat.blt 65536 ei.bytes || !news.all one ||Nat.blt 268435456 (sl+n) || !Nat.beq news.length (n*ti.es) || !iO ei.zero ti.es)with|true=>rw[h3,gc]at h;cases h|false=>rw[h3,JC]at h;have h4:Nat.ble (sl+n) F=false:=(by cases hb:Nat.ble (sl+n) F with|false=>rfl|true=>have:=U7 hb;omega);rw[h4,JC]at h;exact(aa9 h).trans rfl);cases h);cases h
def BA(hT:vU TE T α)(k0:aQ.dU α=[])(t1:TE.ty.get T=some ti)(t2:ti.size=1){n1 oc o:Nat}{cs:Ω}{tc:TypeId}{g:Option Nat}{r a:Φ}{x:α}{m1:M}{acc:List α}
  (hc:m.get oc=.cells cs tc g) (ho:cs[o]?=some r) (l0:oc<n1) (hn:n1<=m.n) (hw:Ow n1 m acc r) (hx:Ext m m1) (hs:Sl m1 [x] a) (p0:acc.length<1000000):
  ∃F m2 m3,((∃k,F=RR m1.n 0 k k)/\∀c,c<m1.n->c≠oc->(∀ad n k,r=.slice (some ad) n k->c≠ad.block)->m3.get c=m1.get c)/\aR TE (M.wl m1 (M.n m1)) .append [T,T] [r,a]=some (F,m2)/\bh TE m2 T (Ψ oc o) F=some (m3,oc)/\n1<=m2.low/\m3.get oc=.cells (cs.set o F) tc g/\Ow n1 m3 (acc++ [x]) F/\m1.n<=m3.n/\(∀c,c<n1->c≠oc->m3.get c=m.get c)/\(∀c,c<m1.n->c≠oc->(∀cs g,m1.get c≠.cells cs (aQ.ty α) g)->m3.get c=m1.get c):=by have q0:=M.aP hc;have r0:=hx.n;have e0:=hw.ak hx;obtain⟨F,m2,e1,h1,h2,h3,h4⟩:=e0.append hT be hs ac be;have s0:=h2.n;have g2:m2.get oc=.cells cs tc g:=(by rw[h2.get _ l0,hx.cells hc]);have g0:o<cs.length:=(Vc.1 ho).1;have h0:=wh (E:=TE) (o:=o) (x:=F) t1 g2 (by rw[h1.sl.cells,t2];rfl) (by rw[h1.sl.cells];simp;omega) (by rw[h1.sl.cells];simp[h1.sl.one]);have i0:cs.take o++(cells F++cs.drop (o+(cells F).length))=cs.set o F:=(by rw[h1.sl.cells];exact pS g0);rw[i0]at h0;have hk:∀c,c≠oc->(m2.set oc (.cells (cs.set o F) tc g)).get c=m2.get c:=λc hc=>M.ee hc;have n0:∃k,F=RR m1.n 0 k k:=(by obtain⟨ba,bc,rfl⟩:=hs.form;rcases hw with⟨rfl,_⟩|⟨b,o0,rfl,_⟩;exact⟨_,np e1 rfl co⟩;exact⟨_,np e1 rfl co⟩);refine⟨F,m2,_,⟨n0,λc b0 d0 j0=>by rw[hk c d0,iy e1 b0 j0]⟩,e1,h0,h3,M.get_set_same (M.aP g2),h1.zF k0 λc b0 d0=>hk c ac,?_,λc b0 d0=>?_,λc b0 d0 j0=>?_⟩;show m1.n<=m2.n;grind;rw[hk c d0,h2.get c b0,hx.get c ac];rw[hk c d0,iy e1 b0 λad n k e he=>?_];have⟨o0,g',u0,_⟩:=BL e0 e;grind
def PZ(hT:vU TE T α)(b0:aQ.dU α=[])(t1:TE.ty.get T=some ti)(t2:ti.size=1){n1 F o:Nat}{cs:Ω}{tc:TypeId}{g:Option Nat}{r a:Φ}{x:α}{m1:M}{acc:List α}
  (hc:m.get F=.cells cs tc g) (ho:cs[o]?=some r) (d0:F<n1) (hn:n1<=m.n) (hw:Ow n1 m acc r) (hx:Ext m m1) (hs:Sl m1 [x] a) (e0:acc.length<1000000):
  ∃r' m2 m3,aR TE (M.wl m1 (M.n m1)) .append [T,T] [r,a]=some (r',m2)/\bh TE m2 T (Ψ F o) r'=some (m3,F)/\n1<=m2.low/\m3.get F=.cells (cs.set o r') tc g/\Ow n1 m3 (acc++ [x]) r'/\m1.n<=m3.n/\(∀c,c<n1->c≠F->m3.get c=m.get c)/\(∀c,c<m1.n->c≠F->(∀cs g,m1.get c≠.cells cs (aQ.ty α) g)->m3.get c=m1.get c):=by have⟨r',m2,m3,_,h⟩:=BA hT b0 t1 t2 hc ho d0 hn hw hx hs e0;grind
end
structure Fc where
 un:Int
 side:Int
deriving DecidableEq
abbrev Fc.c(f:Fc):Ω:=[.int .i64 f.un,.int .i64 f.side]
abbrev Fc.v(f:Fc):Φ:=.agg (f.c).toArray
instance:aQ Fc where
 ty:=103
 sz:=2
 agg:=true
 dU:=[]
 rep _ f cs:=cs=f.c
 pos:=ce
 one:=be
 len:=be
 iL:=by rintro _ _ _ rfl;rfl
 aY:=be
def lq:rp TE 34 103 Fc:=⟨ai.t34,ai.t103,bv,⟨_,rfl⟩,rfl,bv,rfl,rfl⟩
def F2:vU TE 34 Fc:=⟨ai.t34,ai.t103,bv,rfl,rfl,bv,ce,rfl⟩
end
section
def vo(p q:Pl):Int:=if dv p.x q.x=0 then dv p.y q.y else dv p.x q.x
def ja(p q:Pl):Pl:=if vo q p < 0 then q else p
def Gi(p q:Pl):Pl:=if vo q p < 0 then p else q
def Hj(p q:Pl):Pl:=if 0 < vo q p then q else p
def Hh(p q:Pl):Pl:=if vo q p < 0 then q else p
def rD(p q r s:Pl):Pl:=Hj (ja p q) (ja r s)
def NW(p q r s:Pl):Pl:=Hh (Gi p q) (Gi r s)
def nxP(l:List Pl)(i:Nat):Pl:=jC l ((i+1)%l.length)
def F0{l:List Pl}{p:Pl}(h:l[i]?=some p):jC l i=p:=by unfold jC;rw[h];rfl
def wk(p q r s:Pl):Option (Pl×Pl):=
 if dZ p q r≠0\/dZ p q s≠0 then none
 else if rD p q r s=NW p q r s\/0 < vo (rD p q r s) (NW p q r s)then none
 else if 0 < vo p q then some (NW p q r s,rD p q r s)else some (rD p q r s,NW p q r s)
def Ke(a b:List Pl)(i:Nat):Option (Pl×Pl):=(List.range b.length).findSome? λk=>wk (jC a i) (nxP a i) (jC b k) (nxP b k)
def Bp(a b:List Pl):Option (Pl×Pl):=(List.range a.length).findSome? λi=>Ke a b i
def oM(a b:List Pl):Option (Pl×Pl):=if bL a && bL b && !gD a b then Bp a b else none
structure Ct where
 a:Int
 b:Int
 p:Pl
 q:Pl
 back:Int
 front:Int
deriving DecidableEq
def oY(u v:Un):Option Ct:=if mD u v then(oM u.shape v.shape).map λs=>⟨u.id,v.id,s.1,s.2,max u.back v.back,min u.front v.front⟩else none
end
abbrev Ct.c'(x:Ct):Ω:=[.int .i64 x.a,.int .i64 x.b,.int .i64 x.p.x,.int .i64 x.p.y,.int .i64 x.q.x,.int .i64 x.q.y,.int .i64 x.back,.int .i64 x.front]
abbrev Ct.v(x:Ct):Φ:=.agg (x.c').toArray
abbrev Ct.zc:Ω:=[.int .i64 0,.int .i64 0,.int .i64 0,.int .i64 0,.int .i64 0,.int .i64 0,.int .i64 0,.int .i64 0]
instance:aQ Ct where
 ty:=50
 sz:=8
 agg:=true
 dU:=[]
 rep _ x cs:=cs=x.c'
 pos:=ce
 one:=be
 len:=dg
 iL:=by rintro _ _ _ rfl;rfl
 aY:=be
def ID:rp TE 117 50 Ct:=⟨ai.t117,ai.t50,bv,⟨_,rfl⟩,rfl,bv,rfl,rfl⟩
def JV:vU TE 117 Ct:=⟨ai.t117,ai.t50,bv,rfl,rfl,bv,ce,rfl⟩
structure Mk where
 id:Int
 un:Int
 side:Int
 kind:Int
 Gh:Bool
deriving DecidableEq
abbrev Mk.c(x:Mk):Ω:=[.int .i64 x.id,.int .i64 x.un,.int .i64 x.side,.int .i64 x.kind,.bool x.Gh]
abbrev Mk.v(x:Mk):Φ:=.agg (x.c).toArray
instance:aQ Mk where
 ty:=68
 sz:=5
 agg:=true
 dU:=[]
 rep _ x cs:=cs=x.c
 pos:=ce
 one:=be
 len:=dg
 iL:=by rintro _ _ _ rfl;rfl
 aY:=be
def cS:rp TE 30 68 Mk:=⟨ai.t30,ai.t68,bv,⟨_,rfl⟩,rfl,bv,rfl,rfl⟩
def tz:vU TE 30 Mk:=⟨ai.t30,ai.t68,bv,rfl,rfl,bv,ce,rfl⟩
end Go.Proofs.YthffgohpkjpkbaaGreatDoor
namespace Go.D
open Go
section
variable{P:Program}{σ:Sg}{m:M}{w w':World}
def Ev.kept(h:eW P σ m w)(hk:∀B,B<w.heap.size->w'.heap[B]?=w.heap[B]?)(hle:w.heap.size<=w'.heap.size)(ho:w'.os=w.os)(ht:w'.tape=w.tape)(hu:w'.output=w.output):Ev P σ m w σ m w':=⟨λ_ _ x=>x,⟨h.uP,λb i F=>(h.obj b i F).aY (λ_ _ x=>x) (hk _ (h.lt b i F)),λb i F=>LA (h.lt b i F) hle,h.inj,h.mK⟩,Aj _,Aj _,hle,λb i x y=>be,λ_ _ _=>rfl,λB hB _=>hk B hB,ho,ht,hu⟩
def ins(x:Int):List Int->List Int
 |[]=> [x]
 |y::l=>bif x<=y then x::y::l else y::ins x l
end
section
section
variable {P:Program} {σ:Sg} {m m':M} {w w':World}
def LK.Ml{b:Nat}{cs:Ω}{e:TypeId}{g:Option Nat}{o:Ob}(h:m.get b=.cells cs e g):LK m (m.set b o):=λc r hc=>by have hb:b<m.n:=M.oj be;have F:c≠b:=be;exact⟨r,by rw[M.cG _ _ _ _ hb,MO F];exact hc⟩
variable {α:Type}
