/- What functions of the program .. -/
import Derived.Test.YtigpcbodmjjaiaaGreatDoorG4J
set_option maxRecDepth 100000
open Go Go.D Go.Proofs.Tryz
namespace Go.Proofs.YtigpcbodmjjaiaaGreatDoor
section
section
variable {X:aK}{x0 x1 x2:aeM}{m:M}{R:aeN->M->Nat->Prop}{W:Words}
theorem Zp:eL TE (aL TE X) f298 [x0] m R=ρ m x0 141 λa=>jn (λb=>ε 141 (υ m) 0 λc=>δ a 3 c λc=>η .geq 3 c (φ 0) λc=>aR c (ε 141 (υ m) 0 λc=>δ a 3 c λc=>η .leq 3 c (φ 40) λc=>aR c (ε 141 (υ m) 1 λc=>δ a 3 c λc=>η .geq 3 c (φ 0) λc=>aR c (ε 141 (υ m) 1 λc=>δ a 3 c λc=>η .leq 3 c (φ 40) λc=>b [c] a m.n) (b [aeS] a m.n)) (b [aeS] a m.n)) (b [aeS] a m.n)) (λa b c=>un a λa _=>R [a] b c):=by kernel_rfl
theorem ZF:eL TE W f223 [x0,x1,x2] m R=aaY W m x0 141 λa=>aaY W a x1 141 λb=>aaY W b x2 141 λc=>aaP W 141 (aa0 a) 0 λd=>aaO W c 3 d λd=>aaP W 141 (aa0 m) 0 λf=>aaO W c 3 f λf=>aaR W .sub 3 d f λd=>aaP W 141 (aa0 b) 1 λf=>aaO W c 3 f λf=>aaP W 141 (aa0 m) 1 λg=>aaO W c 3 g λg=>aaR W .sub 3 f g λf=>aaR W .mul 3 d f λd=>aaP W 141 (aa0 a) 1 λa=>aaO W c 3 a λa=>aaP W 141 (aa0 m) 1 λf=>aaO W c 3 f λf=>aaR W .sub 3 a f λa=>aaP W 141 (aa0 b) 0 λb=>aaO W c 3 b λb=>aaP W 141 (aa0 m) 0 λf=>aaO W c 3 f λf=>aaR W .sub 3 b f λb=>aaR W .mul 3 a b λa=>aaR W .sub 3 d a λa=>R [a] c m.n:=by kernel_rfl
theorem ZI:eL TE (aL TE X) f220 [x0] m R=jn (λa=>κ m .len [58] [x0] λb _=>η .lss 3 b (φ 3) λb=>aR b (a [aeR] m m.n) (κ m .len [58] [x0] λb _=>η .gtr 3 b (φ 8) λb=>a [b] m m.n)) (λa b c=>un a λa _=>aR a (R [aeS] b c) (Lp (λa b c d=>un b λb f=>un f λf _=>κ c .len [58] [x0] λg _=>η .lss 3 f g λg=>aR g (ζ 58 x0 f λg=>δ c 141 g λg=>χ X 298 [g] c λc g h=>ο .not c λc=>aR c (R [aeS] g (min d h)) (η .add 3 f (φ 1) λc=>a [b,c] g (min d h))) (Lp (λa b c d=>un b λb f=>un f λf _=>κ c .len [58] [x0] λg _=>η .lss 3 f g λg=>aR g (Lp (λb c d g=>un c λc h=>un h λh _=>κ d .len [58] [x0] λi _=>η .lss 3 h i λi=>aR i (jn (λa=>η .neq 3 h f λb=>aR b (η .add 3 f (φ 1) λb=>κ d .len [58] [x0] λc _=>η .rem 3 b c λb=>η .neq 3 h b λb=>aR b (ζ 58 x0 f λb=>δ d 141 b λb=>χ X 299 [x0,f] d λc f i=>(d.n<=i)/\(ζ 58 x0 h λd=>δ f 141 d λd=>χ X 223 [b,c,d] f λb c d=>η .leq 3 b (φ 0) λb=>a [b] c (ψ g i d))) (a [aeS] d g)) (a [aeS] d g)) (λa d f=>un a λa _=>aR a (R [aeS] d f) (η .add 3 h (φ 1) λa=>b [c,a] d f))) (η .add 3 f (φ 1) λb=>a [c,b] d g)) [b,φ 0] c d) (R [aeR] c d)) [b,φ 0] c d)) [aeS,φ 0] b c)):=by kernel_rfl
theorem Zo:eL TE (aL TE X) f299 [x0,x1] m R=ς m [φ 0,φ 0] 141 λa=>η .add 3 x1 (φ 1) λb=>κ a .len [58] [x0] λc _=>η .rem 3 b c λb=>ζ 58 x0 b λb=>δ a 141 b λb=>ι a 141 (υ m) b λa b=>ai (ah TE a 141 (υ m)) λc=>R [c] a (min m.n b):=by kernel_rfl
theorem Zn:eL TE W f300 [x0] m R=W.Lp (λa b c d=>W.un b λb f=>W.un f λf _=>aaU W c .len [58] [x0] λg _=>aaR W .lss 3 f g λg=>aR g (aaQ W 58 x0 f λg=>aaO W c 141 g λg=>aaZ W c [aa1 0,aa1 0] 141 λh=>aaT W h 141 (aa0 c) g λg h=>aa2 W 299 [x0,f] g λg i j=>aaZ W i [aa1 0,aa1 0] 141 λk=>aaT W k 141 (aa0 i) g λg k=>aaP W 141 (aa0 c) 1 λl=>aaO W g 3 l λl=>aaP W 141 (aa0 i) 1 λn=>aaO W g 3 n λn=>aaR W .sub 3 l n λl=>aaP W 141 (aa0 i) 0 λn=>aaO W g 3 n λn=>aaP W 141 (aa0 c) 0 λo=>aaO W g 3 o λo=>aaR W .sub 3 n o λn=>aaP W 141 (aa0 i) 1 λo=>aaO W g 3 o λo=>aaP W 141 (aa0 c) 1 λp=>aaO W g 3 p λp=>aaR W .sub 3 o p λo=>aaP W 141 (aa0 c) 0 λp=>aaO W g 3 p λp=>aaR W .mul 3 o p λo=>aaP W 141 (aa0 i) 0 λi=>aaO W g 3 i λi=>aaP W 141 (aa0 c) 0 λp=>aaO W g 3 p λp=>aaR W .sub 3 i p λi=>aaP W 141 (aa0 c) 1 λc=>aaO W g 3 c λc=>aaR W .mul 3 i c λc=>aaR W .sub 3 o c λc=>aaS W 341 [(0,l),(1,n),(2,c)] λc=>aaV W g 337 1 [(0,c)] λc g=>aaU W (M.wl g g.n) .append [337,337] [b,c] λb c=>aaR W .add 3 f (aa1 1) λf=>a [b,f] c (Γ d h j k (M.low c))) (R [b] c d)) [aeQ,aa1 0] m m.n:=by kernel_rfl
theorem ZH:eL TE W f221 [x0,x1] m R=W.jn (λa=>aa2 W 220 [x0] m λb c d=>aaX W .not b λb=>aR b (a [aeR] c (min m.n d)) (aa2 W 220 [x1] c λb c f=>aaX W .not b λb=>a [b] c (ψ m.n d f))) (λa b c=>W.un a λa _=>aR a (R [aeS] b c) (aa2 W 300 [x0] b λa b d=>aa2 W 300 [x1] b λb f g=>aaU W (M.wl f f.n) .append [337,337] [a,b] λa b=>W.Lp (λb c d f=>W.un c λc g=>W.un g λg _=>aaU W d .len [337] [a] λh _=>aaR W .lss 3 g h λh=>aR h (aaR W .add 3 g (aa1 1) λh=>W.Lp (λc d f h=>W.un d λd i=>W.un i λi _=>aaU W f .len [337] [a] λj _=>aaR W .lss 3 i j λj=>aR j (aaQ W 337 a g λb=>aaP W 341 b 1 λb=>aaO W f 3 b λb=>aaQ W 337 a i λj=>aaP W 341 j 2 λj=>aaO W f 3 j λj=>aaR W .mul 3 b j λb=>aaQ W 337 a i λj=>aaP W 341 j 1 λj=>aaO W f 3 j λj=>aaQ W 337 a g λk=>aaP W 341 k 2 λk=>aaO W f 3 k λk=>aaR W .mul 3 j k λj=>aaR W .sub 3 b j λb=>aaQ W 337 a g λj=>aaP W 341 j 2 λj=>aaO W f 3 j λj=>aaQ W 337 a i λk=>aaP W 341 k 0 λk=>aaO W f 3 k λk=>aaR W .mul 3 j k λj=>aaQ W 337 a i λk=>aaP W 341 k 2 λk=>aaO W f 3 k λk=>aaQ W 337 a g λl=>aaP W 341 l 0 λl=>aaO W f 3 l λl=>aaR W .mul 3 k l λk=>aaR W .sub 3 j k λj=>aaQ W 337 a g λk=>aaP W 341 k 0 λk=>aaO W f 3 k λk=>aaQ W 337 a i λl=>aaP W 341 l 1 λl=>aaO W f 3 l λl=>aaR W .mul 3 k l λk=>aaQ W 337 a i λl=>aaP W 341 l 0 λl=>aaO W f 3 l λl=>aaQ W 337 a g λg=>aaP W 341 g 1 λg=>aaO W f 3 g λg=>aaR W .mul 3 l g λg=>aaR W .sub 3 k g λg=>aaS W 343 [(0,b),(1,j),(2,g)] λb=>aaZ W f [aa1 0,aa1 0,aa1 0] 343 λg=>aaT W g 343 (aa0 f) b λb g=>aaP W 343 (aa0 f) 2 λj=>aaO W b 3 j λj=>aaR W .eql 3 j (aa1 0) λj=>aR j (aaR W .add 3 i (aa1 1) λa=>c [d,a] b (min h g)) (aaP W 343 (aa0 f) 2 λj=>aaO W b 3 j λj=>aaR W .lss 3 j (aa1 0) λj=>aR j (aaP W 343 (aa0 f) 0 λj=>aaO W b 3 j λj=>aaX W .neg j λj=>aaP W 343 (aa0 f) 1 λk=>aaO W b 3 k λk=>aaX W .neg k λk=>aaP W 343 (aa0 f) 2 λl=>aaO W b 3 l λl=>aaX W .neg l λl=>aaS W 343 [(0,j),(1,k),(2,l)] λj=>aaT W b 343 (aa0 f) j λb j=>W.Lp (λb g h j=>W.un g λg k=>W.un k λk _=>aaU W h .len [337] [a] λl _=>aaR W .lss 3 k l λl=>aR l (aR g (aaQ W 337 a k λc=>aaP W 341 c 0 λc=>aaO W h 3 c λc=>aaP W 343 (aa0 f) 0 λd=>aaO W h 3 d λd=>aaR W .mul 3 c d λc=>aaQ W 337 a k λd=>aaP W 341 d 1 λd=>aaO W h 3 d λd=>aaP W 343 (aa0 f) 1 λg=>aaO W h 3 g λg=>aaR W .mul 3 d g λd=>aaR W .add 3 c d λc=>aaQ W 337 a k λa=>aaP W 341 a 2 λa=>aaO W h 3 a λa=>aaP W 343 (aa0 f) 2 λd=>aaO W h 3 d λd=>aaR W .mul 3 a d λa=>aaR W .add 3 c a λa=>aaR W .geq 3 a (aa1 0) λa=>aaR W .add 3 k (aa1 1) λc=>b [a,c] h j) (aaR W .add 3 k (aa1 1) λa=>b [aeS,a] h j)) (aR g (aaO W h 343 (aa0 f) λa=>aaV W h 339 1 [(0,a)] λa b=>aaU W (M.wl b b.n) .append [339,339] [d,a] λa b=>aaR W .add 3 i (aa1 1) λd=>c [a,d] b (min j (M.low b))) (aaR W .add 3 i (aa1 1) λa=>c [d,a] h j))) [aeR,aa1 0] b (ψ h g j)) (W.Lp (λb g h j=>W.un g λg k=>W.un k λk _=>aaU W h .len [337] [a] λl _=>aaR W .lss 3 k l λl=>aR l (aR g (aaQ W 337 a k λc=>aaP W 341 c 0 λc=>aaO W h 3 c λc=>aaP W 343 (aa0 f) 0 λd=>aaO W h 3 d λd=>aaR W .mul 3 c d λc=>aaQ W 337 a k λd=>aaP W 341 d 1 λd=>aaO W h 3 d λd=>aaP W 343 (aa0 f) 1 λg=>aaO W h 3 g λg=>aaR W .mul 3 d g λd=>aaR W .add 3 c d λc=>aaQ W 337 a k λa=>aaP W 341 a 2 λa=>aaO W h 3 a λa=>aaP W 343 (aa0 f) 2 λd=>aaO W h 3 d λd=>aaR W .mul 3 a d λa=>aaR W .add 3 c a λa=>aaR W .geq 3 a (aa1 0) λa=>aaR W .add 3 k (aa1 1) λc=>b [a,c] h j) (aaR W .add 3 k (aa1 1) λa=>b [aeS,a] h j)) (aR g (aaO W h 343 (aa0 f) λa=>aaV W h 339 1 [(0,a)] λa b=>aaU W (M.wl b b.n) .append [339,339] [d,a] λa b=>aaR W .add 3 i (aa1 1) λd=>c [a,d] b (min j (M.low b))) (aaR W .add 3 i (aa1 1) λa=>c [d,a] h j))) [aeR,aa1 0] b (min h g)))) (aaR W .add 3 g (aa1 1) λa=>b [d,a] f h)) [c,h] d f) (W.Lp (λa b d f=>W.un b λb g=>W.un g λg _=>aaU W d .len [339] [c] λh _=>aaR W .lss 3 g h λh=>aR h (W.Lp (λb d f h=>W.un d λd i=>W.un i λi _=>aaR W .lss 3 i g λj=>aR j (W.Lp (λa d f h=>W.un d λd j=>W.un j λj _=>aaR W .lss 3 j i λk=>aR k (aaQ W 339 c g λb=>aaO W f 343 b λb=>aaZ W f [aa1 0,aa1 0,aa1 0] 343 λg=>aaT W g 343 (aa0 f) b λb g=>aaQ W 339 c i λi=>aaO W b 343 i λi=>aaZ W b [aa1 0,aa1 0,aa1 0] 343 λk=>aaT W k 343 (aa0 b) i λi k=>aaQ W 339 c j λc=>aaO W i 343 c λc=>aaZ W i [aa1 0,aa1 0,aa1 0] 343 λl=>aaT W l 343 (aa0 i) c λc l=>aaP W 343 (aa0 f) 0 λn=>aaO W c 3 n λn=>aaP W 343 (aa0 b) 1 λo=>aaO W c 3 o λo=>aaP W 343 (aa0 i) 2 λp=>aaO W c 3 p λp=>aaR W .mul 3 o p λo=>aaP W 343 (aa0 b) 2 λp=>aaO W c 3 p λp=>aaP W 343 (aa0 i) 1 λq=>aaO W c 3 q λq=>aaR W .mul 3 p q λp=>aaR W .sub 3 o p λo=>aaR W .mul 3 n o λn=>aaP W 343 (aa0 f) 1 λo=>aaO W c 3 o λo=>aaP W 343 (aa0 b) 0 λp=>aaO W c 3 p λp=>aaP W 343 (aa0 i) 2 λq=>aaO W c 3 q λq=>aaR W .mul 3 p q λp=>aaP W 343 (aa0 b) 2 λq=>aaO W c 3 q λq=>aaP W 343 (aa0 i) 0 λr=>aaO W c 3 r λr=>aaR W .mul 3 q r λq=>aaR W .sub 3 p q λp=>aaR W .mul 3 o p λo=>aaR W .sub 3 n o λn=>aaP W 343 (aa0 f) 2 λf=>aaO W c 3 f λf=>aaP W 343 (aa0 b) 0 λo=>aaO W c 3 o λo=>aaP W 343 (aa0 i) 1 λp=>aaO W c 3 p λp=>aaR W .mul 3 o p λo=>aaP W 343 (aa0 b) 1 λb=>aaO W c 3 b λb=>aaP W 343 (aa0 i) 0 λi=>aaO W c 3 i λi=>aaR W .mul 3 b i λb=>aaR W .sub 3 o b λb=>aaR W .mul 3 f b λb=>aaR W .add 3 n b λb=>aaR W .neq 3 b (aa1 0) λb=>aR b (R [aeR] c (ω h g k l)) (aaR W .add 3 j (aa1 1) λb=>a [d,b] c (ω h g k l))) (aaR W .add 3 i (aa1 1) λa=>b [d,a] f h)) [d,aa1 0] f h) (aaR W .add 3 g (aa1 1) λb=>a [d,b] f h)) [b,aa1 0] d f) (R [aeS] d f)) [aeS,aa1 0] d f)) [aeQ,aa1 0] b (ω c d g (M.low b)))):=by kernel_rfl
theorem Z7:eL TE (aL TE X) f173 [x0,x1] m R=ρ m x0 60 λa=>ρ a x1 60 λb=>jn (λc=>δ b 60 (υ m) λd=>δ b 60 (υ a) λf=>χ X 174 [d,f] b λb d f=>aR b (ε 60 (υ m) 3 λb=>δ d 58 b λb=>ε 60 (υ a) 3 λa=>δ d 58 a λa=>χ X 221 [b,a] d λa b d=>c [a] b (ψ m.n f d)) (c [aeS] d (min m.n f))) (λa b c=>un a λa _=>R [a] b c):=by kernel_rfl
theorem Z8:eL TE (aL TE X) f172 [x0] m R=ρ m x0 60 λa=>jn (λb=>ε 60 (υ m) 0 λc=>δ a 3 c λc=>η .lss 3 c (φ 0) λc=>aR c (b [aeR] a m.n) (ε 60 (υ m) 0 λc=>δ a 3 c λc=>η .gtr 3 c (φ 99) λc=>aR c (b [aeR] a m.n) (ε 60 (υ m) 1 λc=>δ a 3 c λc=>η .lss 3 c (φ 1) λc=>aR c (b [aeR] a m.n) (ε 60 (υ m) 1 λc=>δ a 3 c λc=>η .gtr 3 c (φ 8) λc=>aR c (b [aeR] a m.n) (ε 60 (υ m) 2 λc=>δ a 3 c λc=>η .lss 3 c (φ 0) λc=>aR c (b [aeR] a m.n) (ε 60 (υ m) 2 λc=>δ a 3 c λc=>η .gtr 3 c (φ 7) λc=>b [c] a m.n)))))) (λa b c=>un a λa _=>aR a (R [aeS] b c) (jn (λa=>ε 60 (υ m) 4 λd=>δ b 3 d λd=>η .geq 3 d (φ 0) λd=>aR d (ε 60 (υ m) 4 λd=>δ b 3 d λd=>ε 60 (υ m) 5 λf=>δ b 3 f λf=>η .lss 3 d f λd=>aR d (ε 60 (υ m) 5 λd=>δ b 3 d λd=>η .leq 3 d (φ 8) λd=>aR d (ε 60 (υ m) 3 λd=>δ b 58 d λd=>χ X 220 [d] b λb d f=>a [b] d (min c f)) (a [aeS] b c)) (a [aeS] b c)) (a [aeS] b c)) (λa b c=>un a λa _=>R [a] b c))):=by kernel_rfl
theorem Z6:eL TE (aL TE X) f174 [x0,x1] m R=ρ m x0 60 λa=>ρ a x1 60 λb=>jn (λc=>δ b 60 (υ m) λd=>χ X 172 [d] b λb d f=>aR b (δ d 60 (υ a) λb=>χ X 172 [b] d λb d g=>aR b (ε 60 (υ m) 4 λb=>δ d 3 b λb=>ε 60 (υ a) 4 λh=>δ d 3 h λh=>κ d .max [3,3] [b,h] λb _=>ε 60 (υ m) 5 λh=>δ d 3 h λh=>ε 60 (υ a) 5 λa=>δ d 3 a λa=>κ d .min [3,3] [h,a] λa _=>η .lss 3 b a λa=>c [a] d (ψ m.n f g)) (c [aeS] d (ψ m.n f g))) (c [aeS] d (min m.n f))) (λa b c=>un a λa _=>R [a] b c):=by kernel_rfl
theorem ZO:eL TE (aL TE X) f197 [x0,x1] m R=ρ m x0 60 λa=>ρ a x1 60 λb=>δ b 60 (υ m) λc=>δ b 60 (υ a) λd=>χ X 148 [c,d] b λb c d=>ξ b 0 λ_=>ξ b 1 λ_=>ξ b 2 λb=>jn (λf=>aR b (ε 60 (υ m) 3 λb=>δ c 58 b λb=>ε 60 (υ a) 3 λa=>δ c 58 a λa=>χ X 191 [b,a] c λa b c=>f [a] b (ψ m.n d c)) (f [aeS] c (min m.n d))) (λa b c=>un a λa _=>R [a] b c):=by kernel_rfl
theorem aaC:eL TE (aL TE X) f116 [x0] m R=ρ m x0 60 λa=>jn (λb=>ε 60 (υ m) 0 λc=>δ a 3 c λc=>χ X 169 [c,φ 0,φ 99] a λa c d=>aR a (ε 60 (υ m) 1 λa=>δ c 3 a λa=>χ X 169 [a,φ 1,φ 8] c λa c f=>aR a (ε 60 (υ m) 2 λa=>δ c 3 a λa=>χ X 169 [a,φ 0,φ 7] c λa c g=>b [a] c (ω m.n d f g)) (b [aeS] c (ψ m.n d f))) (b [aeS] c (min m.n d))) (λa b c=>un a λa _=>jn (λd=>aR a (ε 60 (υ m) 4 λa=>δ b 3 a λa=>η .leq 3 (φ 0) a λa=>aR a (ε 60 (υ m) 4 λa=>δ b 3 a λa=>ε 60 (υ m) 5 λf=>δ b 3 f λf=>η .lss 3 a f λa=>aR a (ε 60 (υ m) 5 λa=>δ b 3 a λa=>η .leq 3 a (φ 8) λa=>aR a (ε 60 (υ m) 3 λa=>δ b 58 a λa=>χ X 170 [a] b λa b f=>d [a] b (min c f)) (d [aeS] b c)) (d [aeS] b c)) (d [aeS] b c)) (d [aeS] b c)) (λa b c=>un a λa _=>R [a] b c)):=by kernel_rfl
theorem aak:eL TE (aL TE X) f148 [x0,x1] m R=ρ m x0 60 λa=>ρ a x1 60 λb=>ε 60 (υ m) 4 λc=>δ b 3 c λc=>ε 60 (υ a) 4 λd=>δ b 3 d λd=>κ b .max [3,3] [c,d] λc _=>ε 60 (υ m) 5 λd=>δ b 3 d λd=>ε 60 (υ a) 5 λf=>δ b 3 f λf=>κ b .min [3,3] [d,f] λd _=>jn (λf=>η .lss 3 c d λg=>aR g (δ b 60 (υ m) λg=>χ X 116 [g] b λb g h=>aR b (δ g 60 (υ a) λa=>χ X 116 [a] g λa b g=>f [c,d,a] b (ψ m.n h g)) (f [c,d,aeS] g (min m.n h))) (f [c,d,aeS] b m.n)) (λa b c=>un a λa d=>un d λd f=>un f λf _=>R [a,d,f] b c):=by kernel_rfl
theorem aab:eL TE (aL TE X) f169 [x0,x1,x2] m R=jn (λa=>η .leq 3 x1 x0 λb=>aR b (η .leq 3 x0 x2 λb=>a [b] m m.n) (a [aeS] m m.n)) (λa b c=>un a λa _=>R [a] b c):=by kernel_rfl
theorem Zu:eL TE (aL TE X) f236 [x0,x1] m R=ε 30 x1 0 λa=>δ m 28 a λa=>κ m .len [28] [a] λb _=>Lp (λc d f g=>un d λd _=>η .lss 3 d b λb=>aR b (ζ 28 a d λa=>δ f 60 a λa=>ς f [φ 0,φ 0,φ 0,aeQ,φ 0,φ 0] 60 λb=>ι b 60 (υ f) a λa b=>ε 30 x1 0 λh=>δ a 28 h λh=>η .add 3 d (φ 1) λi=>ai (slice? TE a 28 h (some i) none none) λh=>κ a .len [28] [h] λi _=>Lp (λa b g j=>un b λb _=>η .lss 3 b i λi=>aR i (ζ 28 h b λc=>δ g 60 c λc=>ς g [φ 0,φ 0,φ 0,aeQ,φ 0,φ 0] 60 λd=>ι d 60 (υ g) c λc d=>δ c 60 (υ f) λf=>δ c 60 (υ g) λg=>ia x0 λh i k=>bh TE X h (i.toList++([f,g]++k.toList)) c λc f g=>ο .not c λc=>aR c (R [] f (ψ j d g)) (η .add 3 b (φ 1) λb=>a [b] f (ψ j d g))) (η .add 3 d (φ 1) λa=>c [a] g j)) [φ 0] a (min g b)) (R [] f g)) [φ 0] m m.n:=by kernel_rfl
theorem aah:eL TE (aL TE X) f152 [x0] m R=ρ m x0 30 λa=>ς a [aeS] 4 λb=>ε 30 (υ m) 0 λc=>δ b 28 c λc=>κ b .len [28] [c] λc _=>η .gtr 3 c (φ 12) λc=>aR c (ι b 4 (υ a) aeS λb c=>ai (ah TE b 4 (υ a)) λa=>R [a] b (min m.n c)) (ε 30 (υ m) 0 λc=>δ b 28 c λc=>κ b .len [28] [c] λd _=>Lp (λb f g h=>un f λf _=>η .lss 3 f d λd=>aR d (ζ 28 c f λc=>δ g 60 c λc=>ς g [φ 0,φ 0,φ 0,aeQ,φ 0,φ 0] 60 λd=>ι d 60 (υ g) c λc d=>jn (λa=>δ c 60 (υ g) λb=>χ X 116 [b] c λb c i=>ο .not b λb=>aR b (a [aeR] c (ψ h d i)) (η .gtr 3 f (φ 0) λb=>aR b (ε 60 (υ g) 0 λb=>δ c 3 b λb=>ε 30 (υ m) 0 λg=>δ c 28 g λg=>η .sub 3 f (φ 1) λf=>ζ 28 g f λf=>ε 60 f 0 λf=>δ c 3 f λf=>η .leq 3 b f λb=>a [b] c (ψ h d i)) (a [aeS] c (ψ h d i)))) (λc d g=>un c λc _=>aR c (ι d 4 (υ a) aeS λb c=>ai (ah TE b 4 (υ a)) λa=>R [a] b (min g c)) (η .add 3 f (φ 1) λa=>b [a] d g))) (δ g 30 (υ m) λb=>χ X 196 [b] g λb c d=>ia b λb f g=>RF TE X b f.toList g.toList c (min h d) (λb d f=>un b λb g=>un g λg h=>IW h (ς d [φ 0,φ 0,φ 0,aeQ,φ 0,φ 0] 60 λh=>ι h 60 (υ d) b λb h=>ς b [φ 0,φ 0,φ 0,aeQ,φ 0,φ 0] 60 λi=>ι i 60 (υ b) g λg i=>Q8 c.n d g λg=>δ g 60 (υ d) λj=>δ g 60 (υ b) λb=>χ X 197 [j,b] g λb j k=>aR b (ι j 4 (υ a) aeS λa b=>f g .ret a (Δ d.n h i c.n k b)) (f g .normal j (Γ d.n h i c.n k)))) (λb c=>ι b 4 (υ a) aeR λb d=>ai (ah TE b 4 (υ a)) λa=>R [a] b (min c d)) [(.ret,λb c=>ai (ah TE b 4 (υ a)) λa=>R [a] b c)])) [φ 0] b m.n):=by kernel_rfl
theorem ZP:eL TE (aL TE X) f196 [x0] m R=ρ m x0 30 λa=>R [.func (.func 236) #[] #[υ m]] a m.n:=by kernel_rfl
theorem aat:eL TE (aL TE X) f128 [x0] m R=ρ m x0 30 λa=>ε 30 (υ m) 0 λb=>δ a 28 b λb=>κ a .len [28] [b] λb _=>η .gtr 3 b (φ 12) λb=>aR b (R [aeS] a m.n) (Lp (λa b c d=>un b λb f=>un f λf _=>ε 30 (υ m) 0 λg=>δ c 28 g λg=>κ c .len [28] [g] λg _=>η .lss 3 f g λg=>aR g (jn (λa=>ε 30 (υ m) 0 λb=>δ c 28 b λb=>ζ 28 b f λb=>δ c 60 b λb=>χ X 172 [b] c λb c g=>ο .not b λb=>aR b (a [aeR] c (min d g)) (η .gtr 3 f (φ 0) λb=>aR b (ε 30 (υ m) 0 λb=>δ c 28 b λb=>ζ 28 b f λb=>ε 60 b 0 λb=>δ c 3 b λb=>ε 30 (υ m) 0 λh=>δ c 28 h λh=>η .sub 3 f (φ 1) λf=>ζ 28 h f λf=>ε 60 f 0 λf=>δ c 3 f λf=>η .leq 3 b f λb=>a [b] c (min d g)) (a [aeS] c (min d g)))) (λc d g=>un c λc _=>aR c (R [aeS] d g) (Lp (λb c d g=>un c λc h=>un h λh _=>η .lss 3 h f λi=>aR i (ε 30 (υ m) 0 λa=>δ d 28 a λa=>ζ 28 a f λa=>δ d 60 a λa=>ε 30 (υ m) 0 λf=>δ d 28 f λf=>ζ 28 f h λf=>δ d 60 f λf=>χ X 173 [a,f] d λa d f=>aR a (R [aeS] d (min g f)) (η .add 3 h (φ 1) λa=>b [c,a] d (min g f))) (η .add 3 f (φ 1) λb=>a [c,b] d g)) [b,φ 0] d g))) (R [aeR] c d)) [aeS,φ 0] a m.n):=by kernel_rfl
theorem ZJ:eL TE (aL TE X) f219 [x0] m R=ρ m x0 60 λa=>ς a [φ 0,φ 0,φ 0,aeQ,φ 0,φ 0] 60 λb=>ν b 58 0 [] λb c=>ε 60 (υ m) 3 λd=>δ c 58 d λd=>κ (M.wl c c.n) .append [58,58] [b,d] λb c=>ε 60 (υ m) 3 λd=>ι c 58 d b λb d=>δ b 60 (υ m) λf=>ι b 60 (υ a) f λb f=>ai (ah TE b 60 (υ a)) λa=>R [a] b (ω m.n (M.low c) d f):=by kernel_rfl
theorem aau:eL TE (aL TE X) f127 [x0,x1] m R=η .lss 3 x0 (φ 0) λa=>aR a (η .add 3 x0 (φ 1) λa=>ο .neg a λa=>η .rem 3 a x1 λa=>R [a] m m.n) (η .rem 3 x0 x1 λa=>R [a] m m.n):=by kernel_rfl
theorem F67:eL TE (aL TE X) f67 [x0,x1] m R=ρ m x1 89 λa=>ς a [φ 0,φ 0,φ 0,aeQ,φ 0,φ 0] 60 λb=>ζ 89 (υ m) (φ 0) λc=>δ b 3 c λc=>χ X 127 [c,φ 9] b λb c d=>η .mul 3 (φ 4) b λb=>ζ 89 (υ m) (φ 1) λf=>δ c 3 f λf=>χ X 127 [f,φ 6] c λc f g=>η .mul 3 (φ 4) c λc=>ζ 89 (υ m) (φ 2) λh=>δ f 3 h λh=>χ X 127 [h,φ 4] f λf h i=>η .add 3 (φ 1) f λf=>η .mul 3 (φ 4) f λf=>η .add 3 b f λf=>κ h .min [3,3] [f,φ 40] λf _=>ζ 89 (υ m) (φ 3) λj=>δ h 3 j λj=>χ X 127 [j,φ 2] h λh j k=>η .add 3 (φ 1) h λh=>η .mul 3 (φ 4) h λh=>η .add 3 c h λh=>θ 141 [(0,b),(1,c)] λl=>θ 141 [(0,f),(1,c)] λc=>θ 141 [(0,f),(1,h)] λn=>θ 141 [(0,b),(1,h)] λh=>ν j 58 4 [(0,l),(1,c),(2,n),(3,h)] λc h=>ζ 89 (υ m) (φ 4) λj=>δ h 3 j λj=>χ X 127 [j,φ 8] h λh j l=>η .eql 3 h (φ 4) λn=>aR n (η .sub 3 f (φ 1) λf=>ζ 58 c (φ 2) λh=>ε 141 h 0 λh=>ι j 3 h f λf h=>η .add 3 b (φ 1) λb=>ζ 58 c (φ 3) λj=>ε 141 j 0 λj=>ι f 3 j b λb f=>ζ 89 (υ m) (φ 5) λj=>δ b 3 j λj=>χ X 127 [j,φ 4] b λb j n=>η .eql 3 b (φ 3) λb=>aR b (ζ 89 (υ m) (φ 5) λb=>δ j 3 b λb=>η .quo 3 b (φ 4) λb=>χ X 127 [b,φ 4] j λb j o=>η .add 3 b (φ 1) λp=>ζ 89 (υ m) (φ 5) λq=>δ j 3 q λq=>η .quo 3 q (φ 16) λq=>χ X 127 [q,φ 4] j λj q r=>η .add 3 p j λj=>χ X 127 [x0,φ 100] q λp s t=>(q.n<=t)/\(ζ 89 (υ m) (φ 5) λq=>δ s 3 q λq=>η .quo 3 q (φ 64) λq=>χ X 127 [q,φ 8] s λq u v=>(s.n<=v)/\(η .add 3 (φ 1) q λq=>ζ 89 (υ m) (φ 5) λs=>δ u 3 s λs=>η .quo 3 s (φ 512) λs=>χ X 127 [s,φ 8] u λs u w=>θ 60 [(0,p),(1,q),(2,s),(3,c),(4,b),(5,j)] λb=>ι u 60 (υ a) b λb c=>ai (ah TE b 60 (υ a)) λa=>R [a] b (min (aaN m.n d g i k l h f n o r t v w) c)))) (χ X 127 [x0,φ 100] j λb o p=>(j.n<=p)/\(ζ 89 (υ m) (φ 5) λj=>δ o 3 j λj=>η .quo 3 j (φ 64) λj=>χ X 127 [j,φ 8] o λj q r=>(o.n<=r)/\(η .add 3 (φ 1) j λj=>ζ 89 (υ m) (φ 5) λo=>δ q 3 o λo=>η .quo 3 o (φ 512) λo=>χ X 127 [o,φ 8] q λo q s=>θ 60 [(0,b),(1,j),(2,o),(3,c),(4,(φ 0)),(5,(φ 4))] λb=>ι q 60 (υ a) b λb c=>ai (ah TE b 60 (υ a)) λa=>R [a] b (aaM m.n d g i k l h f n p r s c))))) (η .eql 3 h (φ 5) λn=>aR n (η .add 3 b (φ 1) λb=>ζ 58 c (φ 0) λh=>ε 141 h 0 λh=>ι j 3 h b λb h=>η .sub 3 f (φ 1) λf=>ζ 58 c (φ 1) λj=>ε 141 j 0 λj=>ι b 3 j f λb f=>ζ 89 (υ m) (φ 5) λj=>δ b 3 j λj=>χ X 127 [j,φ 4] b λb j n=>η .eql 3 b (φ 3) λb=>aR b (ζ 89 (υ m) (φ 5) λb=>δ j 3 b λb=>η .quo 3 b (φ 4) λb=>χ X 127 [b,φ 4] j λb j o=>η .add 3 b (φ 1) λp=>ζ 89 (υ m) (φ 5) λq=>δ j 3 q λq=>η .quo 3 q (φ 16) λq=>χ X 127 [q,φ 4] j λj q r=>η .add 3 p j λj=>χ X 127 [x0,φ 100] q λp s t=>(q.n<=t)/\(ζ 89 (υ m) (φ 5) λq=>δ s 3 q λq=>η .quo 3 q (φ 64) λq=>χ X 127 [q,φ 8] s λq u v=>(s.n<=v)/\(η .add 3 (φ 1) q λq=>ζ 89 (υ m) (φ 5) λs=>δ u 3 s λs=>η .quo 3 s (φ 512) λs=>χ X 127 [s,φ 8] u λs u w=>θ 60 [(0,p),(1,q),(2,s),(3,c),(4,b),(5,j)] λb=>ι u 60 (υ a) b λb c=>ai (ah TE b 60 (υ a)) λa=>R [a] b (min (aaN m.n d g i k l h f n o r t v w) c)))) (χ X 127 [x0,φ 100] j λb o p=>(j.n<=p)/\(ζ 89 (υ m) (φ 5) λj=>δ o 3 j λj=>η .quo 3 j (φ 64) λj=>χ X 127 [j,φ 8] o λj q r=>(o.n<=r)/\(η .add 3 (φ 1) j λj=>ζ 89 (υ m) (φ 5) λo=>δ q 3 o λo=>η .quo 3 o (φ 512) λo=>χ X 127 [o,φ 8] q λo q s=>θ 60 [(0,b),(1,j),(2,o),(3,c),(4,(φ 0)),(5,(φ 4))] λb=>ι q 60 (υ a) b λb c=>ai (ah TE b 60 (υ a)) λa=>R [a] b (aaM m.n d g i k l h f n p r s c))))) (η .eql 3 h (φ 6) λb=>aR b (ζ 58 c (φ 0) λb=>δ j 141 b λb=>ζ 58 c (φ 1) λf=>δ j 141 f λf=>ζ 58 c (φ 2) λc=>δ j 141 c λc=>ν j 58 3 [(0,b),(1,f),(2,c)] λb c=>ζ 89 (υ m) (φ 5) λf=>δ c 3 f λf=>χ X 127 [f,φ 4] c λc f h=>η .eql 3 c (φ 3) λc=>aR c (ζ 89 (υ m) (φ 5) λc=>δ f 3 c λc=>η .quo 3 c (φ 4) λc=>χ X 127 [c,φ 4] f λc f j=>η .add 3 c (φ 1) λn=>ζ 89 (υ m) (φ 5) λo=>δ f 3 o λo=>η .quo 3 o (φ 16) λo=>χ X 127 [o,φ 4] f λf o p=>η .add 3 n f λf=>χ X 127 [x0,φ 100] o λn q r=>(o.n<=r)/\(ζ 89 (υ m) (φ 5) λo=>δ q 3 o λo=>η .quo 3 o (φ 64) λo=>χ X 127 [o,φ 8] q λo s t=>(q.n<=t)/\(η .add 3 (φ 1) o λo=>ζ 89 (υ m) (φ 5) λq=>δ s 3 q λq=>η .quo 3 q (φ 512) λq=>χ X 127 [q,φ 8] s λq s u=>θ 60 [(0,n),(1,o),(2,q),(3,b),(4,c),(5,f)] λb=>ι s 60 (υ a) b λb c=>ai (ah TE b 60 (υ a)) λa=>R [a] b (aaM m.n d g i k l h j p r t u c)))) (χ X 127 [x0,φ 100] f λc j n=>(f.n<=n)/\(ζ 89 (υ m) (φ 5) λf=>δ j 3 f λf=>η .quo 3 f (φ 64) λf=>χ X 127 [f,φ 8] j λf o p=>(j.n<=p)/\(η .add 3 (φ 1) f λf=>ζ 89 (υ m) (φ 5) λj=>δ o 3 j λj=>η .quo 3 j (φ 512) λj=>χ X 127 [j,φ 8] o λj o q=>θ 60 [(0,c),(1,f),(2,j),(3,b),(4,(φ 0)),(5,(φ 4))] λb=>ι o 60 (υ a) b λb c=>ai (ah TE b 60 (υ a)) λa=>R [a] b (Ψ m.n d g i k l h n p q c))))) (η .eql 3 h (φ 7) λb=>aR b (ζ 58 c (φ 0) λb=>δ j 141 b λb=>ζ 58 c (φ 2) λf=>δ j 141 f λf=>ζ 58 c (φ 3) λc=>δ j 141 c λc=>ν j 58 3 [(0,b),(1,f),(2,c)] λb c=>ζ 89 (υ m) (φ 5) λf=>δ c 3 f λf=>χ X 127 [f,φ 4] c λc f h=>η .eql 3 c (φ 3) λc=>aR c (ζ 89 (υ m) (φ 5) λc=>δ f 3 c λc=>η .quo 3 c (φ 4) λc=>χ X 127 [c,φ 4] f λc f j=>η .add 3 c (φ 1) λn=>ζ 89 (υ m) (φ 5) λo=>δ f 3 o λo=>η .quo 3 o (φ 16) λo=>χ X 127 [o,φ 4] f λf o p=>η .add 3 n f λf=>χ X 127 [x0,φ 100] o λn q r=>(o.n<=r)/\(ζ 89 (υ m) (φ 5) λo=>δ q 3 o λo=>η .quo 3 o (φ 64) λo=>χ X 127 [o,φ 8] q λo s t=>(q.n<=t)/\(η .add 3 (φ 1) o λo=>ζ 89 (υ m) (φ 5) λq=>δ s 3 q λq=>η .quo 3 q (φ 512) λq=>χ X 127 [q,φ 8] s λq s u=>θ 60 [(0,n),(1,o),(2,q),(3,b),(4,c),(5,f)] λb=>ι s 60 (υ a) b λb c=>ai (ah TE b 60 (υ a)) λa=>R [a] b (aaM m.n d g i k l h j p r t u c)))) (χ X 127 [x0,φ 100] f λc j n=>(f.n<=n)/\(ζ 89 (υ m) (φ 5) λf=>δ j 3 f λf=>η .quo 3 f (φ 64) λf=>χ X 127 [f,φ 8] j λf o p=>(j.n<=p)/\(η .add 3 (φ 1) f λf=>ζ 89 (υ m) (φ 5) λj=>δ o 3 j λj=>η .quo 3 j (φ 512) λj=>χ X 127 [j,φ 8] o λj o q=>θ 60 [(0,c),(1,f),(2,j),(3,b),(4,(φ 0)),(5,(φ 4))] λb=>ι o 60 (υ a) b λb c=>ai (ah TE b 60 (υ a)) λa=>R [a] b (Ψ m.n d g i k l h n p q c))))) (ζ 89 (υ m) (φ 5) λb=>δ j 3 b λb=>χ X 127 [b,φ 4] j λb f h=>η .eql 3 b (φ 3) λb=>aR b (ζ 89 (υ m) (φ 5) λb=>δ f 3 b λb=>η .quo 3 b (φ 4) λb=>χ X 127 [b,φ 4] f λb f j=>η .add 3 b (φ 1) λn=>ζ 89 (υ m) (φ 5) λo=>δ f 3 o λo=>η .quo 3 o (φ 16) λo=>χ X 127 [o,φ 4] f λf o p=>η .add 3 n f λf=>χ X 127 [x0,φ 100] o λn q r=>(o.n<=r)/\(ζ 89 (υ m) (φ 5) λo=>δ q 3 o λo=>η .quo 3 o (φ 64) λo=>χ X 127 [o,φ 8] q λo s t=>(q.n<=t)/\(η .add 3 (φ 1) o λo=>ζ 89 (υ m) (φ 5) λq=>δ s 3 q λq=>η .quo 3 q (φ 512) λq=>χ X 127 [q,φ 8] s λq s u=>θ 60 [(0,n),(1,o),(2,q),(3,c),(4,b),(5,f)] λb=>ι s 60 (υ a) b λb c=>ai (ah TE b 60 (υ a)) λa=>R [a] b (aaM m.n d g i k l h j p r t u c)))) (χ X 127 [x0,φ 100] f λb j n=>(f.n<=n)/\(ζ 89 (υ m) (φ 5) λf=>δ j 3 f λf=>η .quo 3 f (φ 64) λf=>χ X 127 [f,φ 8] j λf o p=>(j.n<=p)/\(η .add 3 (φ 1) f λf=>ζ 89 (υ m) (φ 5) λj=>δ o 3 j λj=>η .quo 3 j (φ 512) λj=>χ X 127 [j,φ 8] o λj o q=>θ 60 [(0,b),(1,f),(2,j),(3,c),(4,(φ 0)),(5,(φ 4))] λb=>ι o 60 (υ a) b λb c=>ai (ah TE b 60 (υ a)) λa=>R [a] b (Ψ m.n d g i k l h n p q c)))))))):=by kernel_rfl
theorem Z9:eL TE (aL TE X) f171 [x0,x1] m R=ρ m x0 30 λa=>ρ a x1 60 λb=>ς b [aeQ] 30 λc=>δ c 30 (υ m) λd=>χ X 128 [d] c λc d f=>ο .not c λc=>aR c (θ 30 [] λa=>ι d 30 (υ b) a λa c=>ai (ah TE a 30 (υ b)) λb=>R [b,φ 120] a (ψ m.n f c)) (ς d [aeQ] 30 λc=>Lp (λc f g h=>un f λf i=>un i λi _=>ε 30 (υ m) 0 λj=>δ g 28 j λj=>κ g .len [28] [j] λj _=>η .lss 3 i j λj=>aR j (jn (λb=>ο .not f λc=>aR c (ε 30 (υ m) 0 λc=>δ g 28 c λc=>ζ 28 c i λc=>ε 60 c 0 λc=>δ g 3 c λc=>ε 60 (υ a) 0 λa=>δ g 3 a λa=>η .gtr 3 c a λa=>b [a] g h) (b [aeS] g h)) (λb g h=>un b λb _=>aR b (ε 30 (υ d) 0 λb=>δ g 28 b λb=>δ g 60 (υ a) λa=>χ X 219 [a] g λa f j=>(g.n<=j)/\(ν f 28 1 [(0,a)] λa f=>κ (M.wl f f.n) .append [28,28] [b,a] λa b=>ε 30 (υ d) 0 λf=>ι b 28 f a λa f=>ε 30 (υ d) 0 λg=>δ a 28 g λg=>ε 30 (υ m) 0 λk=>δ a 28 k λk=>ζ 28 k i λk=>δ a 60 k λk=>χ X 219 [k] a λk l n=>(a.n<=n)/\(ν l 28 1 [(0,k)] λa k=>κ (M.wl k k.n) .append [28,28] [g,a] λa g=>ε 30 (υ d) 0 λd=>ι g 28 d a λa d=>η .add 3 i (φ 1) λi=>c [aeR,i] a (Θ h j (M.low b) f n (M.low g) d)))) (ε 30 (υ d) 0 λa=>δ g 28 a λa=>ε 30 (υ m) 0 λb=>δ g 28 b λb=>ζ 28 b i λb=>δ g 60 b λb=>χ X 219 [b] g λb j k=>(g.n<=k)/\(ν j 28 1 [(0,b)] λb g=>κ (M.wl g g.n) .append [28,28] [a,b] λa b=>ε 30 (υ d) 0 λd=>ι b 28 d a λa d=>η .add 3 i (φ 1) λg=>c [f,g] a (ω h k (M.low b) d))))) (ο .not f λc=>aR c (ε 30 (υ d) 0 λc=>δ g 28 c λc=>δ g 60 (υ a) λa=>χ X 219 [a] g λa f i=>(g.n<=i)/\(ν f 28 1 [(0,a)] λa f=>κ (M.wl f f.n) .append [28,28] [c,a] λa c=>ε 30 (υ d) 0 λf=>ι c 28 f a λa f=>δ a 30 (υ d) λg=>χ X 128 [g] a λa g j=>ο .not a λa=>aR a (θ 30 [] λa=>ι g 30 (υ b) a λa d=>ai (ah TE a 30 (υ b)) λb=>R [b,φ 120] a (Δ h i (M.low c) f j d)) (δ g 30 (υ d) λa=>ι g 30 (υ b) a λa d=>ai (ah TE a 30 (υ b)) λb=>R [b,φ 0] a (Δ h i (M.low c) f j d)))) (δ g 30 (υ d) λa=>χ X 128 [a] g λa c f=>ο .not a λa=>aR a (θ 30 [] λa=>ι c 30 (υ b) a λa c=>ai (ah TE a 30 (υ b)) λb=>R [b,φ 120] a (ψ h f c)) (δ c 30 (υ d) λa=>ι c 30 (υ b) a λa c=>ai (ah TE a 30 (υ b)) λb=>R [b,φ 0] a (ψ h f c))))) [aeS,φ 0] c (min m.n f)):=by kernel_rfl
theorem aax:eL TE (aL TE X) f124 [x0] m R=ς m [aeQ] 30 λa=>ς a [aeQ] 30 λb=>Lp (λb c d f=>un c λc _=>jn (λa=>κ d .len [22] [x0] λb _=>η .lss 3 c b λb=>aR b (η .lss 3 c (φ 12) λb=>a [b] d f) (a [aeS] d f)) (λd f g=>un d λd _=>aR d (δ f 30 (υ a) λd=>η .mul 3 (φ 3) c λh=>ζ 22 x0 c λi=>ζ 89 i (φ 5) λi=>δ f 3 i λi=>χ X 127 [i,φ 3] f λi j k=>(f.n<=k)/\(η .add 3 h i λf=>ζ 22 x0 c λh=>δ j 89 h λh=>χ X 67 [f,h] j λf h i=>(j.n<=i)/\(χ X 171 [d,f] h λd f j=>(h.n<=j)/\(ξ d 0 λh=>ξ d 1 λd=>ς f [aeQ] 30 λl=>ι l 30 (υ f) h λh l=>η .eql 46 d (φ 0) λd=>aR d (δ h 30 (υ f) λd=>ι h 30 (υ a) d λa d=>η .add 3 c (φ 1) λc=>b [c] a (Δ g k i j l d)) (η .add 3 c (φ 1) λa=>b [a] h (Γ g k i j l)))))) (δ f 30 (υ a) λa=>ι f 30 (υ m) a λa b=>ai (ah TE a 30 (υ m)) λc=>R [c] a (min g b)))) [φ 0] b m.n:=by kernel_rfl
theorem Zs:eL TE (aL TE X) f238 [x0,x1] m R=ρ m x0 60 λa=>ε 60 (υ m) 0 λb=>δ a 3 b λb=>χ X 59 [b,x1] a λa b c=>R [a] b (min m.n c):=by kernel_rfl
theorem Zt:eL TE (aL TE X) f237 [x0,x1,x2] m R=κ m .len [28] [x0] λa _=>Lp (λb c d f=>un c λc g=>un g λg _=>η .lss 3 c g λh=>aR h (η .add 3 c g λa=>ai (Qp TE d 3 159 a) λa=>η .shr 159 a (.int .u64 1) λa=>ai (Qp TE d 159 3 a) λa=>ζ 28 x0 a λh=>δ d 60 h λh=>ia x2 λi j k=>bh TE X i (j.toList++([h,x1]++k.toList)) d λd h i=>η .lss 3 d (φ 0) λd=>aR d (η .add 3 a (φ 1) λa=>b [a,g] h (min f i)) (b [c,a] h (min f i))) (jn (λb=>η .lss 3 c a λa=>aR a (ζ 28 x0 c λa=>δ d 60 a λa=>ia x2 λg h i=>bh TE X g (h.toList++([a,x1]++i.toList)) d λa d g=>η .eql 3 a (φ 0) λa=>b [c,a] d (min f g)) (b [c,aeS] d f)) (λa b c=>un a λa d=>un d λd _=>R [a,d] b c))) [φ 0,a] m m.n:=by kernel_rfl
theorem ZN:eL TE (aL TE X) f198 [x0,x1] m R=ρ m x0 30 λa=>ς a [φ 0,φ 0,φ 0,aeQ,φ 0,φ 0] 60 λb=>δ b 30 (υ m) λc=>χ X 152 [c] b λb c d=>ο .not b λb=>aR b (θ 60 [] λb=>ι c 60 (υ a) b λb c=>ai (ah TE b 60 (υ a)) λa=>R [a,aeS] b (ψ m.n d c)) (ε 30 (υ m) 0 λb=>δ c 28 b λb=>χ X 237 [b,x1,.func (.func 238) #[] #[]] c λb c f=>ξ b 0 λg=>ξ b 1 λb=>ο .not b λb=>aR b (θ 60 [] λb=>ι c 60 (υ a) b λb c=>ai (ah TE b 60 (υ a)) λa=>R [a,aeS] b (ω m.n d f c)) (ε 30 (υ m) 0 λb=>δ c 28 b λb=>ζ 28 b g λb=>δ c 60 b λb=>ς c [φ 0,φ 0,φ 0,aeQ,φ 0,φ 0] 60 λg=>ι g 60 (υ c) b λb g=>ε 60 (υ c) 3 λh=>δ b 58 h λh=>χ X 82 [h] b λb h i=>ε 60 (υ c) 3 λj=>ι h 58 j b λb h=>δ b 60 (υ c) λc=>ι b 60 (υ a) c λb c=>ai (ah TE b 60 (υ a)) λa=>R [a,aeR] b (Θ m.n d f g i h c))):=by kernel_rfl
end
end
section
section
variable {X:aK}{x0 x1 x2:aeM}{m:M}{R:aeN->M->Nat->Prop}
theorem ZU:eL TE (aL TE X) f191 [x0,x1] m R=χ X 231 [x0,x1] m λa b c=>ξ a 0 λ_=>ξ a 1 λ_=>ξ a 2 λa=>jn (λd=>χ X 170 [x0] b λb f g=>aR b (χ X 170 [x1] f λb f h=>aR b (ο .not a λa=>d [a] f (ω m.n c g h)) (d [aeS] f (ω m.n c g h))) (d [aeS] f (ψ m.n c g))) (λa b c=>un a λa _=>R [a] b c):=by kernel_rfl
theorem Zy:eL TE (aL TE X) f231 [x0,x1] m R=jn (λa=>χ X 170 [x0] m λb c d=>ο .not b λb=>aR b (a [aeR] c (min m.n d)) (χ X 170 [x1] c λb c f=>ο .not b λb=>a [b] c (ψ m.n d f))) (λa b c=>un a λa _=>aR a (R [φ 0,φ 0,aeS] b c) (χ X 308 [x0,x1] b λa b d=>η .geq 3 a (φ 0) λf=>aR f (R [φ 0,a,aeR] b (min c d)) (χ X 308 [x1,x0] b λa b f=>η .geq 3 a (φ 0) λg=>aR g (R [φ 1,a,aeR] b (ψ c d f)) (R [φ 0,φ 0,aeS] b (ψ c d f))))):=by kernel_rfl
theorem Zh:eL TE (aL TE X) f308 [x0,x1] m R=ρ m x1 58 λa=>ς a [φ 0] 3 λb=>ς b [φ 0] 3 λc=>ι c 3 (υ b) (φ 0) λc d=>χ X 192 [x0] c λc f g=>ia c λc h i=>RF TE X c h.toList i.toList f (ψ m.n d g) (λc d g=>un c λc h=>un h λh i=>IW i (ς d [φ 0,φ 0] 141 λi=>ι i 141 (υ d) c λc i=>ς c [φ 0,φ 0] 141 λj=>ι j 141 (υ c) h λh j=>Q8 f.n d h λh=>δ h 58 (υ m) λk=>χ X 217 [k,.func (.func 332) #[] #[υ d,υ c]] h λc k l=>ο .not c λc=>aR c (δ k 3 (υ b) λb=>ι k 3 (υ a) b λa b=>g h .ret a (Δ d.n i j f.n l b)) (δ k 3 (υ b) λa=>η .add 3 a (φ 1) λa=>ι k 3 (υ b) a λa b=>g h .normal a (Δ d.n i j f.n l b)))) (λb c=>ι b 3 (υ a) (φ (-1)) λb d=>ai (ah TE b 3 (υ a)) λa=>R [a] b (min c d)) [(.ret,λb c=>ai (ah TE b 3 (υ a)) λa=>R [a] b c)]:=by kernel_rfl
theorem Zg:eL TE (aL TE X) f332 [x0,x1,x2] m R=ρ m x0 141 λa=>δ a 141 x1 λb=>δ a 141 x2 λc=>δ a 141 (υ m) λd=>χ X 193 [b,c,d] a λa b c=>η .gtr 3 a (φ 0) λa=>R [a] b (min m.n c):=by kernel_rfl
end
end
end Go.Proofs.YtigpcbodmjjaiaaGreatDoor
namespace Go.uk
structure V where
 x:Int
 y:Int
 w:Int
def V.dot(f p:V):Int:=f.x*p.x+f.y*p.y+f.w*p.w
def lH(p q r:V):Int:=p.x*(q.y*r.w-q.w*r.y)-p.y*(q.x*r.w-q.w*r.x)+p.w*(q.x*r.y-q.y*r.x)
theorem W7{p q r s:V}(hp:0 < p.w):∃a b c d:Int,(a≠0\/b≠0\/c≠0\/d≠0)/\a*p.x+b*q.x+c*r.x+d*s.x=0/\a*p.y+b*q.y+c*r.y+d*s.y=0/\a*p.w+b*q.w+c*r.w+d*s.w=0:=by
 by_cases H:lH q r s=0/\lH p r s=0/\lH p q s=0/\lH p q r=0
 ·have hd:=H.2.2.2;unfold lH at hd;by_cases h1:q.x*r.w-r.x*q.w=0/\r.x*p.w-p.x*r.w=0/\p.x*q.w-q.x*p.w=0
  ·by_cases h2:q.y*r.w-r.y*q.w=0/\r.y*p.w-p.y*r.w=0/\p.y*q.w-q.y*p.w=0;·exact⟨q.w, -p.w,0,0,.inr (.inl (by omega)),by grind,by grind,by grind⟩
   exact⟨q.y*r.w-r.y*q.w,r.y*p.w-p.y*r.w,p.y*q.w-q.y*p.w,0,by grind,by grind,by grind,by grind⟩
  exact⟨q.x*r.w-r.x*q.w,r.x*p.w-p.x*r.w,p.x*q.w-q.x*p.w,0,by grind,by grind,by grind,by grind⟩
 exact⟨lH q r s,-lH p r s,lH p q s,-lH p q r,by grind,by unfold lH;grind,by unfold lH;grind,by unfold lH;grind⟩
theorem wK{A B C D u v w z:Int}(hA:0<=A)(hB:0<=B)(hC:0<=C)(hD:0<=D)(hs:0 < A\/0 < B\/0 < C\/0 < D)(hu:A≠0->0 < u)(hv:B≠0->0 < v)(hw:C≠0->0 < w)(hz:D≠0->0 < z):0 < A*u+B*v+C*w+D*z:=by
 have k:∀{a b:Int},0<=a->(a≠0->0 < b)->0<=a*b/\(0 < a->0 < a*b):=λ{a b} h1 H=>by
  by_cases h:a=0;·subst h;simp
  exact⟨ady (ade (by omega) (H h)),λh'=>ade h' (H h)⟩
 have k1:=k hA hu;have k2:=k hB hv;have k3:=k hC hw;have k4:=k hD hz;omega
theorem Ui{f0 f1 f2 f3 p0 H p2 p3:V}{R:List V}(w0:0 < p0.w)(w1:0 < H.w)(w2:0 < p2.w)(w3:0 < p3.w)
  (h0:∀f,f=f1\/f=f2\/f=f3\/f∈R->0 < f.dot p0) (h1:∀f,f=f0\/f=f2\/f=f3\/f∈R->0 < f.dot H)
  (h2:∀f,f=f0\/f=f1\/f=f3\/f∈R->0 < f.dot p2) (h3:∀f,f=f0\/f=f1\/f=f2\/f∈R->0 < f.dot p3):
  ∃q:V,0 < q.w/\∀f,f=f0\/f=f1\/f=f2\/f=f3\/f∈R->0 < f.dot q:=by
 have⟨a,b,c,d,hn,hx,hy,hw⟩:=W7 (q:=H) (r:=p2) (s:=p3) w0
 have a0:0 < a\/0 < b\/0 < c\/0 < d:=abA λhc=>by have:=wK (A:= -a) (B:= -b) (C:= -c) (D:= -d) (by omega) (by omega) (by omega) (by omega) (by omega) (λ_=>w0) (λ_=>w1) (λ_=>w2) (λ_=>w3);simp only[aeH]at this;omega
 have b0:0 < -a\/0 < -b\/0 < -c\/0 < -d:=abA λhc=>by have:=wK (A:=a) (B:=b) (C:=c) (D:=d) (by omega) (by omega) (by omega) (by omega) (by omega) (λ_=>w0) (λ_=>w1) (λ_=>w2) (λ_=>w3);omega
 obtain⟨A,hA⟩:∃A,A=max a 0:=⟨_,rfl⟩
 obtain⟨B,hB⟩:∃A,A=max b 0:=⟨_,rfl⟩
 obtain⟨C,hC⟩:∃A,A=max c 0:=⟨_,rfl⟩
 obtain⟨D,hD⟩:∃A,A=max d 0:=⟨_,rfl⟩
 have e1:∀f:V,f.dot ⟨A*p0.x+B*H.x+C*p2.x+D*p3.x,A*p0.y+B*H.y+C*p2.y+D*p3.y,A*p0.w+B*H.w+C*p2.w+D*p3.w⟩=A*f.dot p0+B*f.dot H+C*f.dot p2+D*f.dot p3:=λf=>by unfold V.dot;grind
 have e2:∀f:V,A*f.dot p0+B*f.dot H+C*f.dot p2+D*f.dot p3=(A-a)*f.dot p0+(B-b)*f.dot H+(C-c)*f.dot p2+(D-d)*f.dot p3:=λf=>by
  have:a*f.dot p0+b*f.dot H+c*f.dot p2+d*f.dot p3=f.x*(a*p0.x+b*H.x+c*p2.x+d*p3.x)+f.y*(a*p0.y+b*H.y+c*p2.y+d*p3.y)+f.w*(a*p0.w+b*H.w+c*p2.w+d*p3.w):=by unfold V.dot;grind
  rw[hx,hy,hw]at this;simp only[Int.sub_mul];omega
 refine⟨⟨A*p0.x+B*H.x+C*p2.x+D*p3.x,A*p0.y+B*H.y+C*p2.y+D*p3.y,A*p0.w+B*H.w+C*p2.w+D*p3.w⟩,?_,λf hf=>?_⟩
 rotate_left
 ·rw[e1 f];rcases hf with rfl |rfl |rfl |rfl |hf
  ·rcases aeb 0 a with ha |ha
   ·rw[e2];exact wK (by omega) (by omega) (by omega) (by omega) (by omega) (λh=>absurd h (by omega)) (λ_=>h1 _ (by simp)) (λ_=>h2 _ (by simp)) (λ_=>h3 _ (by simp))
   exact wK (by omega) (by omega) (by omega) (by omega) (by omega) (λh=>absurd h (by omega)) (λ_=>h1 _ (by simp)) (λ_=>h2 _ (by simp)) (λ_=>h3 _ (by simp))
  ·rcases aeb 0 b with ha |ha
   ·rw[e2];exact wK (by omega) (by omega) (by omega) (by omega) (by omega) (λ_=>h0 _ (by simp)) (λh=>absurd h (by omega)) (λ_=>h2 _ (by simp)) (λ_=>h3 _ (by simp))
   exact wK (by omega) (by omega) (by omega) (by omega) (by omega) (λ_=>h0 _ (by simp)) (λh=>absurd h (by omega)) (λ_=>h2 _ (by simp)) (λ_=>h3 _ (by simp))
  ·rcases aeb 0 c with ha |ha
   ·rw[e2];exact wK (by omega) (by omega) (by omega) (by omega) (by omega) (λ_=>h0 _ (by simp)) (λ_=>h1 _ (by simp)) (λh=>absurd h (by omega)) (λ_=>h3 _ (by simp))
   exact wK (by omega) (by omega) (by omega) (by omega) (by omega) (λ_=>h0 _ (by simp)) (λ_=>h1 _ (by simp)) (λh=>absurd h (by omega)) (λ_=>h3 _ (by simp))
  ·rcases aeb 0 d with ha |ha
   ·rw[e2];exact wK (by omega) (by omega) (by omega) (by omega) (by omega) (λ_=>h0 _ (by simp)) (λ_=>h1 _ (by simp)) (λ_=>h2 _ (by simp)) (λh=>absurd h (by omega))
   exact wK (by omega) (by omega) (by omega) (by omega) (by omega) (λ_=>h0 _ (by simp)) (λ_=>h1 _ (by simp)) (λ_=>h2 _ (by simp)) (λh=>absurd h (by omega))
  exact wK (by omega) (by omega) (by omega) (by omega) (by omega) (λ_=>h0 _ (by simp[hf])) (λ_=>h1 _ (by simp[hf])) (λ_=>h2 _ (by simp[hf])) (λ_=>h3 _ (by simp[hf]))
 ·exact wK (by omega) (by omega) (by omega) (by omega) (by omega) (λ_=>w0) (λ_=>w1) (λ_=>w2) (λ_=>w3)
theorem Eo:∀(n:Nat) (F:List V),F.length<=n->(∀f∈F,∀g∈F,∀h∈F,∃p:V,0 < p.w/\0 < f.dot p/\0 < g.dot p/\0 < h.dot p)->∃p:V,0 < p.w/\∀f∈F,0 < f.dot p
 |_,[],_,_=>⟨⟨0,0,1⟩,by decide,by simp⟩
 |_,[f],_,h=>by
  obtain⟨p,hp,h1,_,_⟩:=h f (by simp) f (by simp) f (by simp)
  exact⟨p,hp,by simpa using h1⟩
 |_,[f,g],_,h=>by
  obtain⟨p,hp,h1,h2,_⟩:=h f (by simp) g (by simp) g (by simp)
  exact⟨p,hp,by simpa using⟨h1,h2⟩⟩
 |_,[f,g,k],_,h=>by
  obtain⟨p,hp,h1,h2,h3⟩:=h f (by simp) g (by simp) k (by simp)
  exact⟨p,hp,by simpa using⟨h1,h2,h3⟩⟩
 |0,_::_::_::_::_,hl,_=>by simp at hl
 |n+1,f0::f1::f2::f3::R,hl,h=>by
  have hl:R.length+3<=n:=by simp only[abr]at hl;omega
  obtain⟨p0,w0,k0⟩:=Eo n (f1::f2::f3::R) (by simp only[abr];omega) λf H g hg k hk=>h f (.tail _ H) g (.tail _ hg) k (.tail _ hk)
  have s1:∀f,f∈f0::f2::f3::R->f∈f0::f1::f2::f3::R:=λf H=>by simp only[abp]at H⊢;rcases H with H |H |H |H <;>simp[H]
  have s2:∀f,f∈f0::f1::f3::R->f∈f0::f1::f2::f3::R:=λf H=>by simp only[abp]at H⊢;rcases H with H |H |H |H <;>simp[H]
  have s3:∀f,f∈f0::f1::f2::R->f∈f0::f1::f2::f3::R:=λf H=>by simp only[abp]at H⊢;rcases H with H |H |H |H <;>simp[H]
  obtain⟨p1,w1,k1⟩:=Eo n (f0::f2::f3::R) (by simp only[abr];omega) λf H g hg k hk=>h f (s1 f H) g (s1 g hg) k (s1 k hk)
  obtain⟨p2,w2,k2⟩:=Eo n (f0::f1::f3::R) (by simp only[abr];omega) λf H g hg k hk=>h f (s2 f H) g (s2 g hg) k (s2 k hk)
  obtain⟨p3,w3,k3⟩:=Eo n (f0::f1::f2::R) (by simp only[abr];omega) λf H g hg k hk=>h f (s3 f H) g (s3 g hg) k (s3 k hk)
  obtain⟨q,wq,kq⟩:=Ui (f0:=f0) (f1:=f1) (f2:=f2) (f3:=f3) (R:=R) w0 w1 w2 w3 (λf H=>k0 f (by simpa using H)) (λf H=>k1 f (by simpa using H)) (λf H=>k2 f (by simpa using H)) (λf H=>k3 f (by simpa using H))
  exact⟨q,wq,λf H=>kq f (by simpa using H)⟩
def V.go(p:V)(D N:Int)(d:V):V:=⟨D*p.x+N*d.x,D*p.y+N*d.y,D*p.w+N*d.w⟩
theorem nV(f p d:V)(D N:Int):f.dot (p.go D N d)=D*f.dot p+N*f.dot d:=by unfold V.dot V.go;grind
theorem ratio(p d:V):∀(L:List V),(∀f∈L,0<=f.dot p)->(∃f∈L,f.dot d < 0)->∃i∈L,i.dot d < 0/\∀j∈L,j.dot d < 0->i.dot p*(-(j.dot d))<=j.dot p*(-(i.dot d))
 |[],_,h=>by have⟨f,hf,_⟩:=h;cases hf
 |f::L,hp,h=>by
  by_cases hL:∃g∈L,g.dot d < 0
  ·obtain⟨i,hi,h1,h2⟩:=ratio p d L (λg hg=>hp g (.tail _ hg)) hL
   by_cases hf:f.dot d < 0
   ·by_cases hc:i.dot p*(-(f.dot d))<=f.dot p*(-(i.dot d))
    ·refine⟨i,.tail _ hi,h1,λj H hd=>?_⟩
     rcases abp.1 H with rfl |H
     ·exact hc
     ·exact h2 j H hd
    ·refine⟨f,.head _,hf,λj H hd=>?_⟩
     rcases abp.1 H with rfl |H
     ·exact aej _
     ·have h2:=h2 j H hd
      have hc:f.dot p*(-(i.dot d))<=i.dot p*(-(f.dot d)):=by omega
      generalize f.dot p=fp at*
      generalize i.dot p=ip at*
      generalize j.dot p=jp at*
      generalize f.dot d=fd at*
      generalize i.dot d=id at*
      generalize j.dot d=jd at*
      have a1:(fp*(-id))*(-jd)<=(ip*(-fd))*(-jd):=adU hc (by omega)
      have a2:(ip*(-jd))*(-fd)<=(jp*(-id))*(-fd):=adU h2 (by omega)
      have a3:(fp*(-jd))*(-id)<=(jp*(-fd))*(-id):=by
       have b1:(fp*(-jd))*(-id)=(fp*(-id))*(-jd):=by grind
       have b2:(ip*(-fd))*(-jd)=(ip*(-jd))*(-fd):=by grind
       have b3:(jp*(-fd))*(-id)=(jp*(-id))*(-fd):=by grind
       omega
      exact Int.le_of_mul_le_mul_right a3 (by omega)
   ·refine⟨i,.tail _ hi,h1,λj H hd=>?_⟩
    rcases abp.1 H with rfl |H
    ·exact absurd hd hf
    ·exact h2 j H hd
  ·have⟨g,hg,hd⟩:=h
   rcases abp.1 hg with rfl |hg
   ·refine⟨g,.head _,hd,λj H a0=>?_⟩
    rcases abp.1 H with rfl |H
    ·exact aej _
    ·exact absurd ⟨j,H,a0⟩ hL
   ·exact absurd ⟨g,hg,hd⟩ hL
theorem step{L:List V}{p d:V}(hw:0 < p.w)(hd:d.w=0)(H:∀f∈L,0<=f.dot p)(hb:∃f∈L,f.dot d < 0):
  ∃i∈L,i.dot d < 0/\∃D N:Int,0 < D/\0<=N/\0 < (p.go D N d).w/\(∀f∈L,0<=f.dot (p.go D N d))/\i.dot (p.go D N d)=0:=by
 have⟨i,hi,h1,h2⟩:=ratio p d L H hb;refine⟨i,hi,h1, -(i.dot d),i.dot p,by omega,H i hi,?_,λf hf=>?_,?_⟩
 ·show 0 < -(i.dot d)*p.w+i.dot p*d.w;rw[hd,aeB,Int.add_zero];exact ade (by omega) hw
 ·rw[nV];by_cases a0:f.dot d < 0
  ·have:=h2 f hf a0;have e1: -(i.dot d)*f.dot p=f.dot p*(-(i.dot d)):=Int.mul_comm _ _;have e2:i.dot p* -(f.dot d)= -(i.dot p*f.dot d):=aek _ _;omega
  have a1:0<= -(i.dot d)*f.dot p:=acd (by omega) (H f hf);have a2:0<=i.dot p*f.dot d:=acd (H i hi) (by omega);omega
 rw[nV,aeH,Int.mul_comm (i.dot p)];omega
theorem sq_nonneg(a:Int):0<=a*a:=by
 rcases Int.le_total 0 a with h |h;·exact acd h h
 exact Int.mul_nonneg_of_nonpos_of_nonpos h h
theorem zm{L:List V}(hb:∀d:V,d.w=0->d.x≠0\/d.y≠0->∃f∈L,f.dot d < 0){p:V}(hw:0 < p.w)(hp:∀f∈L,0<=f.dot p)(g:V)(hg:0 < g.dot p):
  ∃i∈L,∃k∈L,∃v:V,0 < v.w/\(∀f∈L,0<=f.dot v)/\i.dot v=0/\k.dot v=0/\i.x*k.y-k.x*i.y≠0/\0 < g.dot v:=by
 obtain⟨d,hd,a0,b0⟩:∃d:V,d.w=0/\(d.x≠0\/d.y≠0)/\0<=g.dot d:=by
  by_cases h:g.x=0/\g.y=0;·exact⟨⟨1,0,0⟩,rfl,.inl (by decide),by simp[V.dot,h.1]⟩
  refine⟨⟨g.x,g.y,0⟩,rfl,by show g.x≠0\/g.y≠0;omega,?_⟩;have:=sq_nonneg g.x;have:=sq_nonneg g.y;show 0<=g.x*g.x+g.y*g.y+g.w*0;omega
 have⟨i,hi,d0,D,N,hD,hN,w1,p1,z1⟩:=step hw hd hp (hb d hd a0)
 have g1:0 < g.dot (p.go D N d):=by rw[nV];have:=ade hD hg;have:=acd hN b0;omega
 generalize p.go D N d=q at*
 have j0:i.x≠0\/i.y≠0:=abA λhc=>by
  have e1:i.x=0:=by omega
  have e2:i.y=0:=by omega
  simp[V.dot,e1,e2,hd]at d0
 obtain⟨e,he,e0,g0,H⟩:∃e:V,e.w=0/\(e.x≠0\/e.y≠0)/\0<=g.dot e/\(e=⟨i.y, -i.x,0⟩\/e=⟨-i.y,i.x,0⟩):=by
  rcases Int.le_total 0 (g.x*i.y-g.y*i.x)with h |h
  ·refine⟨⟨i.y, -i.x,0⟩,rfl,by show i.y≠0\/ -i.x≠0;omega,?_,.inl rfl⟩;show 0<=g.x*i.y+g.y*(-i.x)+g.w*0;rw[aek];omega
  refine⟨⟨-i.y,i.x,0⟩,rfl,by show -i.y≠0\/i.x≠0;omega,?_,.inr rfl⟩;show 0<=g.x*(-i.y)+g.y*i.x+g.w*0;rw[aek];omega
 have⟨k,hk,k0,D',N',h0,i0,w2,p2,z2⟩:=step w1 he p1 (hb e he e0);refine⟨i,hi,k,hk,q.go D' N' e,w2,p2,?_,z2,?_,?_⟩
 ·rw[nV,z1];rcases H with rfl |rfl <;>(unfold V.dot;grind)
 ·intro hc;rcases H with rfl |rfl
  ·have:k.dot ⟨i.y, -i.x,0⟩= -(i.x*k.y-k.x*i.y):=by unfold V.dot;grind
   omega
  have:k.dot ⟨-i.y,i.x,0⟩=i.x*k.y-k.x*i.y:=by unfold V.dot;grind
  omega
 rw[nV];have:=ade h0 g1;have:=acd i0 g0;omega
def meet(f g:V):V:=⟨f.y*g.w-g.y*f.w,f.w*g.x-g.w*f.x,f.x*g.y-g.x*f.y⟩
def V.neg(p:V):V:=⟨-p.x, -p.y, -p.w⟩
def norm(p:V):V:=if p.w < 0 then p.neg else p
theorem DU{p:V}(h:p.w≠0):0 < (norm p).w:=by
 unfold norm;split;·show 0 < -p.w;omega
 omega
theorem Ea{f g v:V}(H:f.dot v=0)(hg:g.dot v=0)(h:V):v.w*h.dot (norm (meet f g))=(norm (meet f g)).w*h.dot v:=by
 have ex:(meet f g).w*v.x=v.w*(meet f g).x:=by unfold V.dot at H hg;unfold meet;grind
 have ey:(meet f g).w*v.y=v.w*(meet f g).y:=by unfold V.dot at H hg;unfold meet;grind
 have key:v.w*h.dot (meet f g)=(meet f g).w*h.dot v:=by unfold V.dot;grind
 unfold norm;split
 ·have e1:h.dot (meet f g).neg= -(h.dot (meet f g)):=by unfold V.dot V.neg;grind
  have e2:(meet f g).neg.w= -(meet f g).w:=rfl;rw[e1,e2,aek,aeH,key]
 exact key
def js(L:List V)(v:V):Prop:=∃f∈L,∃g∈L,(meet f g).w≠0/\v=norm (meet f g)/\∀h∈L,0<=h.dot v
theorem qI{L:List V}(hb:∀d:V,d.w=0->d.x≠0\/d.y≠0->∃f∈L,f.dot d < 0){p:V}(hw:0 < p.w)(hp:∀f∈L,0<=f.dot p)(g:V)(hg:0 < g.dot p):∃v,js L v/\0 < v.w/\0 < g.dot v:=by
 have⟨i,hi,k,hk,v,wv,pv,z1,z2,hn,gv⟩:=zm hb hw hp g hg;have hm:(meet i k).w≠0:=hn;have H:=DU hm;refine⟨norm (meet i k),⟨i,hi,k,hk,hm,rfl,λh hh=>?_⟩,H,?_⟩
 ·have e:=Ea z1 z2 h;have:=acd (ady H) (pv h hh);rw[<-e]at this;exact Int.nonneg_of_mul_nonneg_right this wv
 have e:=Ea z1 z2 g;have:=ade H gv;rw[<-e]at this;exact Int.pos_of_mul_pos_right this wv
theorem three{L:List V}(d0:∃f,f∈L)(hb:∀d:V,d.w=0->d.x≠0\/d.y≠0->∃f∈L,f.dot d < 0){p:V}(hw:0 < p.w)(hp:∀f∈L,0 < f.dot p):
  ∃a b c,js L a/\js L b/\js L c/\lH a b c≠0:=by
 have b0:∀f∈L,0<=f.dot p:=λf hf=>ady (hp f hf);obtain⟨a,ca,wa,_⟩:=qI hb hw b0 ⟨0,0,1⟩ (by show 0 < 0*p.x+0*p.y+1*p.w;omega)
 have d0:p.x*a.w-a.x*p.w≠0\/p.y*a.w-a.y*p.w≠0:=abA λhc=>by
  obtain⟨f,hf,g,hg,hm,rfl,h0⟩:=ca
  have hz:f.dot (norm (meet f g))=0:=by unfold norm;split <;>(unfold V.dot;simp only[V.neg,meet];grind)
  have h1:=hp f hf
  have e:(norm (meet f g)).w*f.dot p=p.w*f.dot (norm (meet f g)):=by
   unfold V.dot
   grind
  rw[hz,aeB]at e;have:=ade wa h1;omega
 obtain⟨b,cb,wb,k0⟩:=qI hb hw b0 ⟨(p.x*a.w-a.x*p.w)*a.w,(p.y*a.w-a.y*p.w)*a.w, -((p.x*a.w-a.x*p.w)*a.x+(p.y*a.w-a.y*p.w)*a.y)⟩ (by
  have e:(V.mk ((p.x*a.w-a.x*p.w)*a.w) ((p.y*a.w-a.y*p.w)*a.w) (-((p.x*a.w-a.x*p.w)*a.x+(p.y*a.w-a.y*p.w)*a.y))).dot p=(p.x*a.w-a.x*p.w)*(p.x*a.w-a.x*p.w)+(p.y*a.w-a.y*p.w)*(p.y*a.w-a.y*p.w):=by unfold V.dot;grind
  rw[e];generalize p.x*a.w-a.x*p.w=u at*;generalize p.y*a.w-a.y*p.w=v at*;have h1:=sq_nonneg u;have h2:=sq_nonneg v;have h3:u≠0->u*u≠0:=λh H=>by rcases acX.1 H with H |H <;>exact h H
  have h4:v≠0->v*v≠0:=λh H=>by rcases acX.1 H with H |H <;>exact h H
  rcases d0 with h |h;·have:=h3 h;omega
  have:=h4 h;omega)
 have i0:a.y*b.w-a.w*b.y≠0\/a.w*b.x-a.x*b.w≠0:=abA λhc=>by
  have e1:a.y*b.w-a.w*b.y=0:=by omega
  have e2:a.w*b.x-a.x*b.w=0:=by omega
  have:(V.mk ((p.x*a.w-a.x*p.w)*a.w) ((p.y*a.w-a.y*p.w)*a.w) (-((p.x*a.w-a.x*p.w)*a.x+(p.y*a.w-a.y*p.w)*a.y))).dot b=0:=by unfold V.dot;grind
  omega
 obtain⟨g,hg⟩:∃g:V,g=⟨a.y*b.w-a.w*b.y,a.w*b.x-a.x*b.w,a.x*b.y-a.y*b.x⟩:=⟨_,rfl⟩
 have a0:∀c:V,lH a b c=g.dot c:=λc=>by rw[hg];unfold lH V.dot;grind
 have j0:g.x≠0\/g.y≠0:=by rw[hg];exact i0
 obtain⟨q,wq,pq,gq⟩:∃q:V,0 < q.w/\(∀f∈L,0<=f.dot q)/\g.dot q≠0:=by
  by_cases e0:g.dot p=0
  ·obtain⟨K,hK⟩:∃K:Int,0 < K/\∀f∈L, -K<=f.x*g.x+f.y*g.y:=by
    have g0:∀L:List V,∃K:Int,0 < K/\∀f∈L, -K<=f.x*g.x+f.y*g.y:=λL=>by
     induction L with
     |nil=>exact⟨1,by decide,λf hf=>by cases hf⟩
     |cons f L ih=>
      have⟨K,h1,h2⟩:=ih;refine⟨max K (-(f.x*g.x+f.y*g.y)),by omega,λh hh=>?_⟩;rcases abp.1 hh with rfl |hh;·omega
      have:=h2 h hh;omega
    exact g0 L
   refine⟨p.go K 1 ⟨g.x,g.y,0⟩,?_,λf hf=>?_,?_⟩
   ·show 0 < K*p.w+1*0;have:=ade hK.1 hw;omega
   ·rw[nV];have h1:=hK.2 f hf;have h2:f.dot ⟨g.x,g.y,0⟩=f.x*g.x+f.y*g.y:=by unfold V.dot;grind
    have h3:K*1<=K*f.dot p:=adX (by have:=hp f hf;omega) (ady hK.1);omega
   rw[nV,e0,aeB];have h2:g.dot ⟨g.x,g.y,0⟩=g.x*g.x+g.y*g.y:=by unfold V.dot;grind
   rw[h2];have h1:=sq_nonneg g.x;have h2:=sq_nonneg g.y;have h3:g.x≠0->g.x*g.x≠0:=λh H=>by rcases acX.1 H with H |H <;>exact h H
   have h4:g.y≠0->g.y*g.y≠0:=λh H=>by rcases acX.1 H with H |H <;>exact h H
   rcases j0 with h |h;·have:=h3 h;omega
   have:=h4 h;omega
  exact⟨p,hw,b0,e0⟩
 rcases Int.lt_or_gt_of_ne gq with h |h
 ·have e:∀c,(V.neg g).dot c= -(g.dot c):=λc=>by unfold V.dot V.neg;grind
  obtain⟨c,cc,_,hc⟩:=qI hb wq pq (V.neg g) (by rw[e];omega);exact⟨a,b,c,ca,cb,cc,by rw[a0];rw[e]at hc;omega⟩
 have⟨c,cc,_,hc⟩:=qI hb wq pq g h;exact⟨a,b,c,ca,cb,cc,by rw[a0];omega⟩
end Go.uk
namespace Go.Proofs.YtigpcbodmjjaiaaGreatDoor
section
open Go Go.D Go.uk
def Pl.h(p:Pl):V:=⟨p.x,p.y,1⟩
def lF(a b:Pl):V:=⟨a.y-b.y,b.x-a.x,(b.y-a.y)*a.x-(b.x-a.x)*a.y⟩
theorem kO(a b c:Pl):(lF a b).dot c.h=di a b c:=by unfold V.dot lF Pl.h di;grind
def gA(l:List Pl)(i:Nat):Pl:=(l[i]?).getD ⟨0,0⟩
theorem ug{l:List Pl}{i:Nat}(h:i < l.length):l[i]?=some (gA l i):=by unfold gA;rw[aa5 h];rfl
theorem Si{l:List Pl}{q:Pl}(h:q∈l):∃k,k < l.length/\gA l k=q:=by obtain⟨k,hk,rfl⟩:=List.getElem_of_mem h;exact⟨k,hk,by unfold gA;rw[aa5 hk];rfl⟩
theorem GY{l:List Pl}{i:Nat}(h:i < l.length):gA l i∈l:=abb (ug h)
def fL(l:List Pl)(i:Nat):V:=lF (gA l i) (gA l ((i+1)%l.length))
def qH(l:List Pl):List V:=(List.range l.length).map (fL l)
theorem kv{l:List Pl}{f:V}:f∈qH l↔∃i,i < l.length/\f=fL l i:=by
 unfold qH
 grind
theorem Xd{ax ay bx H dx dy:Int}(h:ax*dy-ay*dx=bx*dy-H*dx):(bx-ax)*dy=(H-ay)*dx:=by
 grind
theorem YX{H uy vx vy dx dy:Int}(h1:H*dy=uy*dx)(h2:vx*dy=vy*dx):(H*vy-uy*vx)*dx=0/\(H*vy-uy*vx)*dy=0:=by
 grind
section
variable {l:List Pl} (hv:bJ l=true)
include hv
theorem sV{i k:Nat}(hi:i < l.length)(hk:k < l.length)(h1:k≠i)(H:k≠(i+1)%l.length):0 < (fL l i).dot (gA l k).h:=by unfold fL;rw[kO];exact Fk hv (ug hi) (ug (acQ _ (by omega))) (ug hk) h1 H
theorem lU{i k:Nat}(hi:i < l.length)(hk:k < l.length):0<=(fL l i).dot (gA l k).h:=by
 by_cases h1:k=i
 ·subst h1
  unfold fL
  rw[kO]
  unfold di
  grind
 by_cases H:k=(i+1)%l.length
 ·unfold fL
  rw[kO,<-H]
  unfold di
  grind
 exact ady (sV hv hi hk h1 H)
theorem xG:∃p:V,0 < p.w/\∀f∈qH l,0 < f.dot p:=by
 have⟨h3,_⟩:=eR hv
 refine⟨⟨(gA l 0).x+(gA l 1).x+(gA l 2).x,(gA l 0).y+(gA l 1).y+(gA l 2).y,3⟩,(show(0:Int)< 3 by decide),λf hf=>?_⟩
 obtain⟨i,hi,rfl⟩:=kv.1 hf
 have e:(fL l i).dot ⟨(gA l 0).x+(gA l 1).x+(gA l 2).x,(gA l 0).y+(gA l 1).y+(gA l 2).y,3⟩=(fL l i).dot (gA l 0).h+(fL l i).dot (gA l 1).h+(fL l i).dot (gA l 2).h:=by unfold V.dot Pl.h;grind
 rw[e]
 have n0:=lU hv hi (k:=0) (by omega)
 have n1:=lU hv hi (k:=1) (by omega)
 have n2:=lU hv hi (k:=2) (by omega)
 have:∃k,k < 3/\k≠i/\k≠(i+1)%l.length:=by
  generalize (i+1)%l.length=j;by_cases a0:0≠i/\0≠j;·exact⟨0,by omega,a0.1,a0.2⟩
  by_cases H:1≠i/\1≠j;·exact⟨1,by omega,H.1,H.2⟩
  exact⟨2,by omega,by omega,by omega⟩
 have⟨k,hk,k1,k2⟩:=this
 have hp:=sV hv hi (k:=k) (by omega) k1 k2
 grind
theorem sW(d:V)(hd:d.w=0)(H:d.x≠0\/d.y≠0):∃f∈qH l,f.dot d < 0:=abA λhc=>by
 have⟨h3,_⟩:=eR hv
 have hE:∀i,i < l.length->(gA l i).x*d.y-(gA l i).y*d.x<=(gA l ((i+1)%l.length)).x*d.y-(gA l ((i+1)%l.length)).y*d.x:=λi hi=>by
  have h:¬(fL l i).dot d < 0:=λh=>hc ⟨_,kv.2 ⟨i,hi,rfl⟩,h⟩
  have e:(fL l i).dot d=((gA l ((i+1)%l.length)).x*d.y-(gA l ((i+1)%l.length)).y*d.x)-((gA l i).x*d.y-(gA l i).y*d.x):=by
   unfold fL lF V.dot
   grind
  omega
 have hC:∀k,k < l.length->∀j,j<=k->(gA l j).x*d.y-(gA l j).y*d.x<=(gA l k).x*d.y-(gA l k).y*d.x:=by
  intro k
  induction k with
  |zero=>intro _ j hj;rw[Nat.le_zero.1 hj];exact aej _
  |succ k ih=>
   intro hk j hj
   by_cases e:j=k+1
   ·grind
   ·have h1:=ih (by omega) j (by omega)
    have h2:=hE k (by omega)
    rw[acM hk]at h2
    omega
 have hL:=hE (l.length-1) (by omega)
 rw[ad1 (by omega),aec]at hL
 have c1:=hC 1 (by omega) 0 (by omega)
 have c2:=hC 2 (by omega) 1 (by omega)
 have c3:=hC (l.length-1) (by omega) 2 (by omega)
 have ht:=sV hv (i:=0) (k:=2) (by omega) (by omega) (by omega) (by rw[acM (by omega)];omega)
 unfold fL at ht
 rw[abV,acM (by omega:1 < l.length),kO]at ht
 generalize gA l 0=a at*
 generalize gA l 1=b at*
 generalize gA l 2=c at*
 have e1:=Xd (show a.x*d.y-a.y*d.x=b.x*d.y-b.y*d.x by omega)
 have e2:=Xd (show a.x*d.y-a.y*d.x=c.x*d.y-c.y*d.x by omega)
 unfold di at ht
 have⟨t1,t2⟩:=YX e1 e2
 rcases H with h |h
 ·rcases acX.1 t1 with h' |h'
  ·omega
  ·grind
 ·rcases acX.1 t2 with h' |h'
  ·omega
  ·grind
omit hv in
theorem HQ(G:Nat->Int):∀n,0 < n->∃k,k < n/\∀j,j < n->G j<=G k
 |1,_=>⟨0,by omega,λj H=>by rw[show j=0 by omega];exact aej _⟩
 |n+2,_=>by
  obtain⟨k,hk,h⟩:=HQ G (n+1) (by omega)
  by_cases hc:G k<=G (n+1)
  ·refine⟨n+1,by omega,λj H=>?_⟩
   grind
  ·refine⟨k,by omega,λj H=>?_⟩
   grind
theorem JR{g p:V}(hg:∀q∈l,g.dot q.h<=0)(hw:0 < p.w)(hp:∀f∈qH l,0<=f.dot p):g.dot p<=0:=by
 have⟨h3,_⟩:=eR hv;obtain⟨k,hk,H⟩:=HQ (λk=>g.dot (gA l k).h) l.length (by omega)
 obtain⟨r,hr,a0,b0⟩:∃r,r < l.length/\(r+1)%l.length=k/\r≠(k+1)%l.length:=by
  by_cases e:k=0
  ·refine⟨l.length-1,by omega,?_,?_⟩;·rw[ad1 (by omega),aec,e]
   rw[e,acM (by omega)];omega
  refine⟨k-1,by omega,?_,?_⟩;·rw[ad1 (by omega),acM hk]
  by_cases e2:k+1=l.length;·rw[e2,aec];omega
  rw[acM (by omega)];omega
 have hn:(k+1)%l.length < l.length:=acQ _ (by omega)
 have d0:(k+1)%l.length≠k:=by
  by_cases e2:k+1=l.length;·rw[e2,aec];omega
  rw[acM (by omega)];omega
 have hT:=sV hv hr hn (λe=>b0 e.symm) (by rw[a0];exact d0);have p1:=hp _ (kv.2 ⟨r,hr,rfl⟩);have p2:=hp _ (kv.2 ⟨k,hk,rfl⟩);have m1:=H _ hn;have m2:=H _ hr;have m3:=hg _ (GY hk);unfold fL at hT p1 p2;rw[a0]at hT p1;have m1:g.dot (gA l ((k+1)%l.length)).h<=g.dot (gA l k).h:=m1;have m2:g.dot (gA l r).h<=g.dot (gA l k).h:=m2;generalize gA l r=a at*;generalize gA l k=b at*;generalize gA l ((k+1)%l.length)=c at*
 have id:(lF a b).dot c.h*(g.dot p-p.w*g.dot b.h)=(lF a b).dot p*(g.dot c.h-g.dot b.h)+(lF b c).dot p*(g.dot a.h-g.dot b.h):=by
  unfold lF V.dot Pl.h
  grind
 have r1:(lF a b).dot p*(g.dot c.h-g.dot b.h)<=0:=ada p1 (by omega);have r2:(lF b c).dot p*(g.dot a.h-g.dot b.h)<=0:=ada p2 (by omega);have r3:p.w*g.dot b.h<=0:=ada (ady hw) m3;refine abA λhc=>?_;have:0 < (lF a b).dot c.h*(g.dot p-p.w*g.dot b.h):=ade hT (by omega);omega
end
def Sep(a b:List Pl):Prop:=∃f∈qH a,∀q∈b,f.dot q.h<=0
theorem Hz{a:List Pl}(H:bJ a){h:V}(hh:∃q∈a,0 < h.dot q.h):∃p:V,0 < p.w/\(∀f∈qH a,0 < f.dot p)/\0 < h.dot p:=by
 have⟨c,wc,hc⟩:=xG H;have⟨q,hq,a0⟩:=hh;obtain⟨k,hk,rfl⟩:=Si hq;obtain⟨K,hK⟩:∃K:Int,K=max 1 (1-h.dot c):=⟨_,rfl⟩
 refine⟨(gA a k).h.go K 1 c,?_,λf hf=>?_,?_⟩
 ·show 0 < K*1+1*c.w;omega
 ·rw[nV];obtain⟨i,hi,rfl⟩:=kv.1 hf;have h1:=lU H hi hk;have h2:=hc _ hf;have:=acd (show 0<=K by omega) h1;omega
 rw[nV];have:K*1<=K*h.dot (gA a k).h:=adX (by omega) (by omega);omega
theorem HK{a b:List Pl}(h:¬Sep a b):∀f∈qH a,∃q∈b,0 < f.dot q.h:=λf H=>abA λhc=>h ⟨f,H,λq hq=>by
 grind⟩
theorem MV{a b:List Pl}(ha:bJ a)(hb:bJ b)(h1:¬Sep a b)(h2:¬Sep b a):
  ∃u v w,js (qH a++qH b) u/\js (qH a++qH b) v/\js (qH a++qH b) w/\lH u v w≠0:=by
 have pa:∀h∈qH b,∃p:V,0 < p.w/\(∀f∈qH a,0 < f.dot p)/\0 < h.dot p:=λh H=>Hz ha (HK h2 h H);have pb:∀h∈qH a,∃p:V,0 < p.w/\(∀f∈qH b,0 < f.dot p)/\0 < h.dot p:=λh H=>Hz hb (HK h1 h H)
 obtain⟨p,hw,hp⟩:=Eo _ (qH a++qH b) (aa4 _) λf hf g hg h H=>by
  rcases abC.1 hf with hf |hf <;>rcases abC.1 hg with hg |hg <;>rcases abC.1 H with H |H
  ·have⟨p,w,h'⟩:=xG ha;exact⟨p,w,h' _ hf,h' _ hg,h' _ H⟩
  ·grind
  ·grind
  ·grind
  ·grind
  ·grind
  ·grind
  have⟨p,w,h'⟩:=xG hb;exact⟨p,w,h' _ hf,h' _ hg,h' _ H⟩
 refine three ?_ (λd hd a0=>?_) hw hp
 ·obtain⟨f,hf,_⟩:=sW ha ⟨1,0,0⟩ rfl (.inl (by decide));exact⟨f,abC.2 (.inl hf)⟩
 ·have⟨f,hf,h⟩:=sW ha d hd a0
  grind
theorem DV{a b:List Pl}(ha:bJ a)(hb:bJ b){L:List V}(hL:∀f,f∈qH a\/f∈qH b->f∈L)(hs:Sep a b){u v w:V}(hu:js L u)(hv:js L v)(hw:js L w):lH u v w=0:=by
 have⟨f,hf,a0⟩:=hs
 have hz:∀{c:V},js L c->f.dot c=0:=λ{c} H=>by obtain⟨i,hi,k,hk,hm,rfl,h0⟩:=H;have h1:=h0 f (hL f (.inl hf));have h2:=JR hb a0 (DU hm) λg hg=>h0 g (hL g (.inr hg));omega
 have hu:=hz hu;have hv:=hz hv;have hw:=hz hw
 have b0:f.x≠0\/f.y≠0:=abA λH=>by
  have⟨h3,_⟩:=eR ha;have⟨p,_,hp⟩:=xG ha;have:=hp f hf;obtain⟨i,hi,rfl⟩:=kv.1 hf;unfold fL at H this;generalize gA a i=s at*;generalize gA a ((i+1)%a.length)=t at*;have e1:s.y-t.y=0:=by have:¬((s.y-t.y)≠0\/(t.x-s.x)≠0):=H;omega
  have e2:t.x-s.x=0:=by have:¬((s.y-t.y)≠0\/(t.x-s.x)≠0):=H;omega
  have e3:(lF s t).dot p=0:=by unfold lF V.dot;grind
  omega
 have t1:f.x*lH u v w=0:=by
  have:f.x*lH u v w=f.dot u*(v.y*w.w-v.w*w.y)-f.dot v*(u.y*w.w-u.w*w.y)+f.dot w*(u.y*v.w-u.w*v.y):=by unfold lH V.dot;grind
  grind
 have t2:f.y*lH u v w=0:=by
  have:f.y*lH u v w= -(f.dot u*(v.x*w.w-v.w*w.x))+f.dot v*(u.x*w.w-u.w*w.x)-f.dot w*(u.x*v.w-u.w*v.x):=by unfold lH V.dot;grind
  grind
 rcases b0 with h |h;·exact(acX.1 t1).resolve_left h
 exact(acX.1 t2).resolve_left h
end
section
variable {X:aK} {m:M}
def yi(a b:List Pl)(i:Nat):Bool:=match a[i]?,a[(i+1)%a.length]? with
 |some p,some q=> !(b.any λc=>decide (0 < di p q c))
 |_,_=>false
def dH(a b:List Pl):Int:=match(List.range a.length).find? (yi a b)with |some i=>i |none=> -1
def fA(a b:List Pl):Bool:=bJ a && bJ b && decide (dH a b < 0) && decide (dH b a < 0)
theorem Rv(hX:cC X){a b c:Pl}{ba bb:Nat}(ha:m.get ba=.cells a.c 141 none)(hb:m.get bb=.cells b.c 141 none)(sa:a.sm 1000000)(sb:b.sm 1000000)(sc:c.sm 1000000):
  C X (.func 332) [c.v,ptrTo ba,ptrTo bb] m m.n (.bool (decide (0 < di a b c))) m:=by
 refine Cl.flat (hX.no _ rfl) (aa3 func332) rfl rfl ?_;rw[Zg];dsimp only[δ,η,ρ,υ,φ,χ];refine av λm1 d0 a0 b0=>?_;have H:Ext m m1:=⟨by omega,b0⟩
 unfold ptrTo;rw[bS (H.cells ha),ae,bS (H.cells hb),ae,bS a0,ae];refine aE (xC hX sa sb sc) ?_;rw[bV,ae];exact⟨rfl,by omega⟩
theorem EA{a b:List Pl}(h:∀j,j < a.length->yi a b j=false):dH a b= -1:=by
 unfold dH
 grind
theorem Gm{p:Nat->Bool}:∀{n k:Nat},k < n->(∀j,j < k->p j=false)->p k->(List.range n).find? p=some k
 |n+1,k,hk,h,H=>by
  simp_all
theorem Ez{a b:List Pl}{k:Nat}(hk:k < a.length)(h:∀j,j < k->yi a b j=false)(H:yi a b k):dH a b=k:=by unfold dH;rw[Gm hk h H]
theorem AD(hX:cC X){a b:List Pl}{va vb:aeM}(ha:Sl m a va)(hb:Sl m b vb)(la:a.length < 1000000)(lb:b.length < 1000000)(sa:∀p∈a,p.sm 1000000)(sb:∀p∈b,p.sm 1000000):
  C X (.func 308) [va,vb] m m.n (aeP (dH a b)) m:=by
 refine Cl.flat (hX.no _ rfl) (aa3 func308) rfl rfl ?_;rw[Zh];dsimp only[δ,η,ι,ο,ρ,ς,υ,φ,χ,Δ,ψ];refine av λm1 o1 y0 p1=>?_;refine av λm2 u1 z0 A0=>?_;refine av λm3 v1 B0 d0=>?_;unfold ptrTo;refine aC uz B0 rfl rfl rfl λm4 w1 C0 e0=>?_;have g0:Ext m m4:=⟨by omega,by grind⟩
 have⟨m7,hc,H,y1,z1⟩:=zi (m:=m4) hX ha.cells;refine aE hc ?_;rw[cf];have g17:m7.get m.n=.cells (cells vb) 58 none:=by rw[H.get _ (by omega),e0 _ (by omega),d0 _ (by omega),A0 _ (by omega),y0]
 have D0:m7.get m1.n=.cells [aeP 0] 3 none:=by rw[H.get _ (by omega),e0 _ (by omega),d0 _ (by omega),z0]
 have E0:m7.get m2.n=.cells [aeP 0] 3 none:=by rw[H.get _ (by omega),C0];rfl
 rw[hb.cells]at g17
 refine⟨λ_=>False,kc a,_,λk mm=>m7.n<=mm.n/\(∀c,c < m7.n->c≠m1.n->c≠m2.n->mm.get c=m7.get c)/\mm.get m1.n=.cells [aeP 0] 3 none/\mm.get m2.n=.cells [aeP k] 3 none/\(∀j,j < k->yi a b j=false),
  λe mm=>e=.ret/\mm.get m1.n=.cells [aeP (dH a b)] 3 none,m.n,⟨_,rfl⟩,vB hX (v:=va) (b:=m4.n) (by omega),by omega,?_,?_,?_,⟨aa4 _,λ_ _ _ _=>rfl,D0,E0,λj hj=>by omega⟩,?_,?_,?_⟩
 ·rintro i mm ⟨h1,h2,h3,h4,h5⟩;refine⟨by grind,?_⟩;refine ha.aY λb c t g hb ht=>?_;have:=M.bk hb;rw[h2 b (by omega) (by omega) (by omega),H.get b (by omega),g0.get b this,hb]
 ·rintro i mm F0 ⟨h1,h2,h3,h4,h5⟩ hk;exact⟨by have:=hk.n;omega,λc hc n1 n2=>by rw[hk.get c (by omega) (by omega),h2 c hc n1 n2],by rw[hk.get _ (by omega) (by omega),h3],by rw[hk.get _ (by omega) (by omega),h4],h5⟩
 ·rintro e mm F0 ⟨h,h'⟩ hk;have:=M.bk h';exact⟨h,by rw[hk.get _ this (by omega),h']⟩
 ·rintro k args m10 O0 hx ⟨h1,h2,h3,h4,h5⟩;obtain⟨pa,pb,b0,h0,rfl⟩:=vA hx;have G0:k < a.length:=(aa9.1 b0).1;rw[aB,aB];show IW [] _;unfold IW;refine av λm16 Q0 i0 a1=>?_;refine aC dh i0 rfl rfl rfl λm17 b1 j0 c1=>?_;refine av λm19 d1 k0 l0=>?_;refine aC dh k0 rfl rfl rfl λm20 e1 n0 o0=>?_;have fR:∀c,c < m10.n->m20.get c=m10.get c:=by grind
  refine⟨λc _ hc=>fR c hc,λm22 g1 a0=>?_⟩;dsimp only;have r1:m22.get m10.n=.cells pa.c 141 none:=by rw[a0 _ (by omega),o0 _ (by omega),l0 _ (by omega),j0];rfl
  have r2:m22.get m17.n=.cells pb.c 141 none:=by rw[a0 _ (by omega),n0];rfl
  have H0:∀c,c < m7.n->c≠m1.n->c≠m2.n->m22.get c=m7.get c:=by grind
  have r3:m22.get m.n=.cells [vb] 58 none:=by grind
  have r4:m22.get m2.n=.cells [aeP k] 3 none:=by grind
  have r5:m22.get m1.n=.cells [aeP 0] 3 none:=by grind
  rw[tD,aI r3];show ai (some vb) _;rw[ae]
  have I0:Sl m22 b vb:=hb.aY λb c t g hb ht=>by have:=M.bk hb;rw[H0 b (by omega) (by omega) (by omega),H.get b (by omega),g0.get b this,hb]
  refine aE (ry hX (λc=>decide (0 < di pa pb c)) (by omega) I0 λc hc=>?_) ?_;·exact Rv hX r1 r2 (sa _ (abb b0)) (sa _ (abb h0)) (sb c hc)
  have p0:yi a b k= !(b.any λc=>decide (0 < di pa pb c)):=by unfold yi;rw[b0,h0]
  rw[bj,ae,aj,<-p0];refine ak (λhs=>?_) (λhs=>?_)
  ·rw[bI,aI r4];show ai (some (Value.int .i64 k)) _;rw[ae];refine aC uz r5 rfl rfl rfl λA1 i1 q0 r0=>?_;refine⟨by omega,λc J0 K0 L0=>r0 c (by grind),rfl,?_⟩;rw[Ez G0 h5 hs];exact q0
  rw[bI,aI r4];show ai (some (Value.int .i64 k)) _;rw[ae,aQ,ae,wrap64 (by omega) (by omega)];refine aC uz r4 rfl rfl rfl λB1 j1 s0 u0=>?_;refine⟨by omega,λc J0 K0 L0=>u0 c (by grind),by omega,by grind,by grind,s0,λj hj=>?_⟩;by_cases e:j=k;·rw[e];exact hs
  exact h5 j (by omega)
 ·rintro mm fS ⟨h1,h2,h3,h4,h5⟩ N0;refine aC uz h3 rfl rfl rfl λC1 k1 v0 l1=>?_;rw[bI,aI v0];show ai (some (Value.int .i64 (-1))) _;rw[ae];refine⟨?_,by omega⟩;rw[qG]at h5;rw[EA h5];rfl
 rintro e mm fS D1 ⟨rfl,h'⟩ N0;refine⟨_,abE.2 rfl,rfl,?_⟩;dsimp only;rw[bI,aI h'];show ai (some (Value.int .i64 (dH a b))) _;rw[ae];exact⟨rfl,by omega⟩
def As(a b:List Pl):Int×Int×Bool:=
 if bJ a && bJ b then(if 0<=dH a b then(0,dH a b,true)else if 0<=dH b a then(1,dH b a,true)else(0,0,false))else(0,0,false)
theorem Ny(H:cC X){a b:List Pl}{va vb:aeM}(ha:Sl m a va)(hb:Sl m b vb)(la:a.length < 1000000)(lb:b.length < 1000000):
  C X (.func 231) [va,vb] m m.n (.tuple #[aeP (As a b).1,aeP (As a b).2.1,.bool (As a b).2.2]) m:=by
 refine Cl.flat (H.no _ rfl) (aa3 func231) rfl rfl ?_;rw[Zy];dsimp only[η,ο,φ,χ,ψ];refine aW (λvs mm lo=>vs=[.bool (!(bJ a && bJ b))]/\m=mm/\m.n<=lo) (λR hR=>?_) ?_
 ·refine aE (jz H ha (by omega)) ?_;rw[bj,ae,aj];refine ak (λh=>?_) (λh=>?_)
  ·have h:bJ a=false:=by grind
   exact hR _ _ _ ⟨by grind,rfl,by omega⟩
  have h:bJ a:=by grind
  refine aE (jz H hb (by omega)) ?_;rw[bj,ae];exact hR _ _ _ ⟨by grind,rfl,by omega⟩
 rintro _ _ lo ⟨rfl,rfl,a0⟩;rw[aB,aj];refine ak (λh=>?_) (λh=>?_)
 ·have h:(bJ a && bJ b)=false:=by
   cases h':(bJ a && bJ b)with
   |false=>rfl
   |true=>rw[h']at h;cases h
  unfold As;rw[abd (by grind)];exact⟨rfl,a0⟩
 have h:(bJ a && bJ b):=by
  cases h':(bJ a && bJ b)with
  |true=>rfl
  |false=>rw[h']at h;cases h
 unfold As;rw[abe h];rw[abc]at h;refine aE (AD H ha hb la lb (jy h.1) (jy h.2)) ?_;rw[cB,ae,aj];refine ak (λh1=>?_) (λh1=>?_)
 ·have h1:0<=dH a b:=by grind
  rw[abe h1];exact⟨rfl,by omega⟩
 have h1:¬0<=dH a b:=by grind
 rw[abd h1];refine aE (AD H hb ha lb la (jy h.2) (jy h.1)) ?_;rw[cB,ae,aj];refine ak (λh2=>?_) (λh2=>?_)
 ·have h2:0<=dH b a:=by grind
  rw[abe h2];exact⟨rfl,by omega⟩
 have h2:¬0<=dH b a:=by grind
 rw[abd h2];exact⟨rfl,by omega⟩
theorem vW(H:cC X){a b:List Pl}{va vb:aeM}(ha:Sl m a va)(hb:Sl m b vb)(la:a.length < 1000000)(lb:b.length < 1000000):
  C X (.func 191) [va,vb] m m.n (.bool (fA a b)) m:=by
 refine Cl.flat (H.no _ rfl) (aa3 func191) rfl rfl ?_;rw[ZU];dsimp only[ξ,ο,χ,ψ,ω];refine aE (Ny H ha hb la lb) ?_;rw[aH,aH,aH];simp only[aa8,aa7,ae];refine aW (λvs mm lo=>vs=[.bool (fA a b)]/\m=mm/\m.n<=lo) (λR hR=>?_) ?_
 ·refine aE (jz H ha (by omega)) ?_;rw[aj];refine ak (λh=>?_) (λh=>?_)
  ·refine aE (jz H hb (by omega)) ?_;rw[aj];refine ak (λh'=>?_) (λh'=>?_)
   ·rw[bj,ae];refine hR _ _ _ ⟨?_,rfl,by omega⟩;unfold fA As;rw[h,h',aet,abe rfl,abG];by_cases h1:0<=dH a b;·rw[abe h1,abk (show¬dH a b < 0 by omega)];rfl
    rw[abd h1,abl (show dH a b < 0 by omega)];by_cases h2:0<=dH b a;·rw[abe h2,abk (show¬dH b a < 0 by omega)];rfl
    rw[abd h2,abl (show dH b a < 0 by omega)];rfl
   exact hR _ _ _ ⟨by unfold fA;rw[h',adC];rfl,rfl,by omega⟩
  exact hR _ _ _ ⟨by unfold fA;rw[h];rfl,rfl,by omega⟩
 rintro _ _ lo ⟨rfl,rfl,a0⟩;rw[aB];exact⟨rfl,a0⟩
end
section
variable {X:aK} {m:M}
theorem NM(hX:cC X)(p:Pl):C X (.func 298) [p.v] m m.n (.bool (!p.off)) m:=by
 refine Cl.flat (hX.no _ rfl) (aa3 func298) rfl rfl ?_;rw[Zp];dsimp only[δ,ε,η,ρ,υ,φ];refine av λm1 a0 H b0=>?_;simp only[aT]at H;refine aW (λvs mm lo=>vs=[.bool (!p.off)]/\lo=m.n) (λR hR=>?_) ?_
 ·simp only[ae,aA,cf,aj,bL,aO,cp,aM,cB,bV,aS,bR,bj,ptrTo,gC,ji,abV,Nat.reduceAdd,aa8,aa7,abU,acv,acf,acF,abi,aT,kR,jr,iy,kP,kQ,jq,bY,cO,bI,aI H]
  have ho:p.off= !(decide (0<=p.x) && decide (p.x<=40) && decide (0<=p.y) && decide (p.y<=40)):=by unfold Pl.off;by_cases h1:0<=p.x <;>by_cases h2:p.x<=40 <;>by_cases h3:0<=p.y <;>by_cases h4:p.y<=40 <;>simp[h1,h2,h3,h4] <;>omega
  refine ak (λh1=>?_) (λh1=>hR _ _ _ ⟨by grind,rfl⟩);refine ak (λh2=>?_) (λh2=>hR _ _ _ ⟨by grind,rfl⟩);refine ak (λh3=>?_) (λh3=>hR _ _ _ ⟨by grind,rfl⟩);exact hR _ _ _ ⟨by grind,rfl⟩
 rintro _ mm lo ⟨rfl,rfl⟩;rw[aB];exact⟨rfl,aa4 _⟩
theorem Nl(hX:cC X)(a b c:Pl):C X (.func 223) [a.v,b.v,c.v] m m.n (aeP (Hn a b c)) m:=by refine Cl.flat (hX.no _ rfl) (aa3 func223) rfl rfl ?_;rw[ZF];dsimp only[aL,aaO,aaP,aaR,aaY,aa0];refine av λm1 g0 b0 h0=>?_;refine av λm2 i0 d0 e0=>?_;refine av λm3 j0 H a0=>?_;have g1:=(a0 m.n (by omega)).trans ((e0 m.n (by omega)).trans b0);have g2:=(a0 m1.n (by omega)).trans d0;simp only[aT]at g1 g2 H;simp only[ae,aA,cf,aj,bL,aO,cp,aM,cB,bV,aS,bR,bj,ptrTo,gC,ji,abV,Nat.reduceAdd,aa8,aa7,abU,acv,acf,acF,abi,aT,kR,jr,iy,kP,kQ,jq,bY,cO,bI,aI g1,aI g2,aI H,dD,gE];exact⟨rfl,aa4 _⟩
theorem yq(H:cC X){a b c:Pl}(ha:a.sm 1000000)(hb:b.sm 1000000)(hc:c.sm 1000000):C X (.func 223) [a.v,b.v,c.v] m m.n (aeP (di a b c)) m:=by rw[<-Ds ha hb hc];exact Nl H a b c
theorem Gt(hX:cC X){l:List Pl}{v:aeM}(hl:Sl m l v){i:Nat}{q:Pl}(hb:l.length < 4611686018427387904)(hi:i < l.length)(hq:l[(i+1)%l.length]?=some q):C X (.func 299) [v,aeP i] m m.n q.v m:=by
 refine Cl.flat (hX.no _ rfl) (aa3 func299) rfl rfl ?_;rw[Zo];dsimp only[δ,ζ,η,ι,κ,ς,υ,φ];refine av λm1 e0 a0 b0=>?_;have H:Ext m m1:=⟨by omega,b0⟩
 rw[aQ,ae,wrap64 (by omega) (by omega),(hl.aF H).len cx,aA,show((i:Int)+1)=((i+1:Nat):Int) by omega,sR (by omega),ae];have⟨a,e1,e2⟩:=(hl.aF H).dZ (k:=.i64) hq;rw[e1,ae,e2,ae];unfold ptrTo;refine aC dh a0 rfl rfl rfl λm7 g0 d0 h0=>?_;rw[bS d0,ae];exact⟨rfl,by omega⟩
theorem mQ(hX:cC X){l:List Pl}{v:aeM}(hl:Sl m l v)(hb:l.length < 4611686018427387904):C X (.func 220) [v] m m.n (.bool (bJ l)) m:=by
 refine Cl.flat (hX.no _ rfl) (aa3 func220) rfl rfl ?_;rw[ZI];dsimp only[δ,ζ,η,κ,ο,φ,χ,ψ];refine aW (λvs mm lo=>vs=[.bool (!(decide (3<=l.length) && decide (l.length<=8)))]/\m=mm/\lo=m.n) (λR hR=>?_) ?_
 ·rw[hl.len cx];simp only[ae,aA,cf,aj,bL,aO,cp,aM,cB,bV,aS,bR,bj,ptrTo,gC,ji,abV,Nat.reduceAdd,aa8,aa7,abU,acv,acf,acF,abi,aT,kR,jr,iy,kP,kQ,jq];refine ak (λh=>hR _ _ _ ⟨by grind,rfl,rfl⟩) (λh=>?_);have h3:3<=l.length:=by grind
  refine hR _ _ _ ⟨?_,rfl,rfl⟩;have:decide ((8:Int)< l.length)= !(decide (l.length<=8)):=by grind
  rw[this];simp[h3]
 rintro _ _ _ ⟨rfl,rfl,rfl⟩;rw[aB,aj];refine ak (λh=>?_) (λh=>?_)
 ·refine⟨?_,aa4 _⟩;simp only[abz]at h;simp only[bC,bJ,h,acS]
 simp only[abu,abc,abv]at h;have⟨h3,h8⟩:=h;refine Lp.intro (γ:=Nat) (λi=>l.length-i) (λi vs mm lo=>vs=[aeS,aeP i]/\i<=l.length/\m=mm/\lo=m.n/\∀j p,j < i->l[j]?=some p->p.off=false) 0 ⟨rfl,abh _,rfl,rfl,λj p hj=>by omega⟩ ?_;rintro i vs mm lo ⟨rfl,hi,rfl,rfl,e0⟩;rw[aB,aB,hl.len cx,aA,aM,ae,aj];refine ak (λH=>?_) (λq0=>?_)
 ·have H:i < l.length:=by grind
  obtain⟨p,hp⟩:∃p,l[i]?=some p:=⟨_,aa5 H⟩
  have⟨q,e1,e2⟩:=hl.dZ (k:=.i64) hp;rw[e1,ae,e2,ae];refine aE (NM hX p) ?_;rw[bj,ae,aj,aeC];refine ak (λho=>?_) (λho=>?_)
  ·refine⟨?_,by omega⟩;have:l.any Pl.off:=acA.2 ⟨p,abb hp,ho⟩;simp[bC,bJ,this]
  rw[aQ,ae,wrap64 (by omega) (by omega)];refine⟨i+1,by omega,rfl,by omega,rfl,by omega,λj q hj hq=>?_⟩;by_cases e:j=i;·subst e;rw[hp]at hq;cases hq;exact ho
  exact e0 j q (by omega) hq
 have r0:i=l.length:=by
  have:¬(i:Int)< (l.length:Int):=by grind
  omega
 have n0:l.any Pl.off=false:=by rw[ac1];intro p hp;have⟨j,hj⟩:=abx hp;rw[e0 j p (by grind) hj];decide
 have k0:∀p∈l,p.sm 1000000:=λp hp=>Pl.NL (by grind);have hv:∀r,oI l=r->bJ l=r:=λr hr=>by simp[bJ,h3,h8,n0,hr]
 refine Lp.intro (γ:=Nat) (λi=>l.length-i) (λi vs mm lo=>vs=[aeS,aeP i]/\i<=l.length/\m=mm/\lo=m.n/\∀j,j < i->Np l j) 0 ⟨rfl,abh _,rfl,rfl,λj hj=>by omega⟩ ?_;rintro i vs mm lo ⟨rfl,hi,rfl,rfl,g0⟩;rw[aB,aB,hl.len cx,aA,aM,ae,aj];refine ak (λH=>?_) (λq0=>?_)
 ·have H:i < l.length:=by grind
  obtain⟨pa,a0⟩:∃p,l[i]?=some p:=⟨_,aa5 H⟩
  have s0:(i+1)%l.length < l.length:=acQ _ (by omega);obtain⟨pb,b0⟩:∃p,l[(i+1)%l.length]?=some p:=⟨_,aa5 s0⟩
  refine Lp.intro (γ:=Nat) (λk=>l.length-k) (λk vs mm lo=>vs=[aeS,aeP k]/\k<=l.length/\m=mm/\lo=m.n/\∀j c,j < k->l[j]?=some c->j=i\/j=(i+1)%l.length\/0 < di pa pb c) 0 ⟨rfl,abh _,rfl,rfl,λj c hj=>by omega⟩ ?_;rintro k vs mm lo ⟨rfl,hk,rfl,rfl,h0⟩;rw[aB,aB,hl.len cx,aA,aM,ae,aj];refine ak (λi0=>?_) (λy0=>?_)
  ·have i0:k < l.length:=by grind
   obtain⟨pc,d0⟩:∃p,l[k]?=some p:=⟨_,aa5 i0⟩
   refine aW (λvs mm lo=>vs=[.bool (!(k==i ||k==(i+1)%l.length ||decide (0 < di pa pb pc)))]/\m=mm/\lo=m.n) (λR hR=>?_) ?_
   ·rw[bR,ae,aj];refine ak (λo0=>?_) (λhe=>?_)
    ·have o0:k≠i:=by grind
     rw[aQ,ae,wrap64 (by omega) (by omega),aA,show((i:Int)+1)=((i+1:Nat):Int) by omega,sR (by omega),ae,bR,ae,aj];refine ak (λj0=>?_) (λz0=>?_)
     ·have j0:k≠(i+1)%l.length:=by grind
      have⟨q,e1,e2⟩:=hl.dZ (k:=.i64) a0;rw[e1,ae,e2,ae];refine aE (Gt hX hl hb H b0) ⟨aa4 _,?_⟩;have⟨q,e1,e2⟩:=hl.dZ (k:=.i64) d0;rw[e1,ae,e2,ae];refine aE (yq hX (k0 _ (abb a0)) (k0 _ (abb b0)) (k0 _ (abb d0))) ?_;rw[cp,ae];refine hR _ _ _ ⟨?_,rfl,by omega⟩;have:decide (di pa pb pc<=0)= !(decide (0 < di pa pb pc)):=by grind
      rw[this];simp[o0,j0]
     refine hR _ _ _ ⟨?_,rfl,rfl⟩
     have:k=(i+1)%l.length:=by
      have h':(k:Int)=(((i+1)%l.length:Nat):Int):=by grind
      omega
     simp[this]
    refine hR _ _ _ ⟨?_,rfl,rfl⟩;have:k=i:=by grind
    simp[this]
   rintro _ _ _ ⟨rfl,rfl,rfl⟩;rw[aB,aj];refine ak (λp0=>?_) (λl0=>?_)
   ·have hc:oI l=false:=by
     cases hc:oI l with
     |false=>rfl
     |true=>simp only[oI,abw,acE]at hc;have h2:=(sO a0 b0).1 (hc i H) k pc d0;simp only[abz,acB,beq_eq_false_iff_ne,acj]at p0;omega
    exact⟨by rw[hv false hc];rfl,aa4 _⟩
   rw[aQ,ae,wrap64 (by omega) (by omega)];refine⟨k+1,by omega,rfl,by omega,rfl,rfl,λj c hj hc=>?_⟩;by_cases u0:j < k;·exact h0 j c u0 hc
   have:j=k:=by omega
   subst this;rw[d0]at hc;cases hc;simp only[abu,acI,beq_iff_eq,abv]at l0;omega
  have A0:k=l.length:=by
   have:¬(k:Int)< (l.length:Int):=by grind
   omega
  rw[aQ,ae,wrap64 (by omega) (by omega)];refine⟨i+1,by omega,rfl,by omega,rfl,rfl,λj hj=>?_⟩;by_cases v0:j < i;·exact g0 j v0
  have:j=i:=by omega
  subst this;rw[sO a0 b0];intro q c hq;exact h0 q c (by grind) hq
 have r0:i=l.length:=by
  have:¬(i:Int)< (l.length:Int):=by grind
  omega
 have hc:oI l:=abw.2 λj hj=>g0 j (by grind);exact⟨by rw[hv true hc];rfl,aa4 _⟩
end
section
variable {X:aK} {m:M}
abbrev wr(x:Int):Int:=IntKind.i64.wrap x
theorem Hg(x:Int):wr x=if x%18446744073709551616>=9223372036854775808 then x%18446744073709551616-18446744073709551616 else x%18446744073709551616:=by unfold wr IntKind.wrap;simp[IntKind.bits,IntKind.signed]
theorem uv(x:Int):wr x%18446744073709551616=x%18446744073709551616:=by rw[Hg];split <;>omega
theorem mH{x y:Int}(h:x%18446744073709551616=y%18446744073709551616):wr x=wr y:=by rw[Hg,Hg,h]
theorem Di(a b:Int):IntKind.i64.wrap (IntKind.i64.wrap a+b)=IntKind.i64.wrap (a+b):=mH (by
 have:=uv a
 grind)
theorem Dh(a b:Int):IntKind.i64.wrap (a+IntKind.i64.wrap b)=IntKind.i64.wrap (a+b):=mH (by
 have:=uv b
 grind)
theorem xT(a b:Int):IntKind.i64.wrap (IntKind.i64.wrap a-b)=IntKind.i64.wrap (a-b):=mH (by
 have:=uv a
 grind)
theorem xS(a b:Int):IntKind.i64.wrap (a-IntKind.i64.wrap b)=IntKind.i64.wrap (a-b):=mH (by
 have:=uv b
 grind)
theorem Dg(a b:Int):IntKind.i64.wrap (IntKind.i64.wrap a*b)=IntKind.i64.wrap (a*b):=mH (by
 have:=uv a
 show(wr a*b)%_=_
 rw[aed,this,<-aed])
theorem Df(a b:Int):IntKind.i64.wrap (a*IntKind.i64.wrap b)=IntKind.i64.wrap (a*b):=mH (by
 have:=uv b
 show(a*wr b)%_=_
 rw[aed,this,<-aed])
def qh(N x:Int):Prop:= -N<=x/\x<=N
theorem qh.mul{A B a b:Int}(H:qh A a)(hb:qh B b):qh (A*B) (a*b):=by have⟨a1,a2⟩:=H;have⟨b1,b2⟩:=hb;have h1:0<=(A-a)*(B+b):=acd (by omega) (by omega);have h2:0<=(A+a)*(B-b):=acd (by omega) (by omega);have h3:0<=(A-a)*(B-b):=acd (by omega) (by omega);have h4:0<=(A+a)*(B+b):=acd (by omega) (by omega);constructor <;>grind
theorem qh.add{A B a b:Int}(H:qh A a)(hb:qh B b):qh (A+B) (a+b):=by have⟨a1,a2⟩:=H;have⟨b1,b2⟩:=hb;constructor <;>omega
theorem qh.sub{A B a b:Int}(H:qh A a)(hb:qh B b):qh (A+B) (a-b):=by have⟨a1,a2⟩:=H;have⟨b1,b2⟩:=hb;constructor <;>omega
theorem qh.wr{N x:Int}(h:qh N x)(H:N < 9223372036854775808):IntKind.i64.wrap x=x:=wrap64 (by have:=h.1;omega) (by have:=h.2;omega)
structure Ln where
 v:uk.V
structure Pt where
 v:uk.V
def vC(p:uk.V):aeN:=[.int .i64 p.x,.int .i64 p.y,.int .i64 p.w]
instance:aZ Ln where
 ty:=341
 sz:=3
 agg:=true
 eB:=[]
 rep _ p cs:=cs=vC p.v
 pos:=by decide
 one:=by grind
 len:=by rintro _ _ _ rfl;rfl
 fB:=by rintro _ _ _ rfl;rfl
 aY:=by grind
instance:aZ Pt where
 ty:=343
 sz:=3
 agg:=true
 eB:=[]
 rep _ p cs:=cs=vC p.v
 pos:=by decide
 one:=by grind
 len:=by rintro _ _ _ rfl;rfl
 fB:=by rintro _ _ _ rfl;rfl
 aY:=by grind
theorem BL:oP TE 337 341 Ln:=⟨ag.t337,ag.t341,by kernel_rfl,⟨_,rfl⟩,rfl,by kernel_rfl,rfl,rfl⟩
theorem P7:ur TE 337 Ln:=⟨ag.t337,ag.t341,by kernel_rfl,rfl,rfl,by kernel_rfl,by decide,rfl⟩
theorem M7:oP TE 339 343 Pt:=⟨ag.t339,ag.t343,by kernel_rfl,⟨_,rfl⟩,rfl,by kernel_rfl,rfl,rfl⟩
theorem WC:ur TE 339 Pt:=⟨ag.t339,ag.t343,by kernel_rfl,rfl,rfl,by kernel_rfl,by decide,rfl⟩
theorem row_one{α:Type}[aZ α]{b:Nat}{cs:aeN}{x:α}{g:Option Nat}(h:m.get b=.cells cs (aZ.ty α) g)(H:aZ.rep m x cs):Sl m [x] (aeL b 0 1 1):=by
 refine .inr ⟨b,0,1,cs,g,rfl,h,by rw[aZ.len H];simp,λi y hi=>?_⟩
 match i with
 |0=>
  cases hi
  have:(cs.drop (0+0*aZ.sz α)).take (aZ.sz α)=cs:=by rw[ac4,abV,abU,aby (by rw[aZ.len H];exact aa4 _)]
  grind
 |i+1=>simp at hi
theorem CT{l:List Pl}{i:Nat}{p:Pl}(h:l[i]?=some p):gA l i=p:=by unfold gA;rw[h];rfl
theorem Ek(hX:cC X){l:List Pl}{v:aeM}(hl:Sl m l v)(hv:bJ l):∃r m',C X (.func 300) [v] m m.n r m'/\Ext m m'/\Ow m.n m' ((qH l).map Ln.mk) r:=by
 have key:∃r m' b,C X (.func 300) [v] m b r m'/\b=m.n/\Ext m m'/\Ow m.n m' ((qH l).map Ln.mk) r:=by
  have⟨h3,h8⟩:=eR hv;have i0:=xW hv;refine Cl.heap (R:=λr m' b=>b=m.n/\Ext m m'/\Ow m.n m' ((qH l).map Ln.mk) r) (hX.no _ rfl) (aa3 func300) rfl ?_;rw[Zn];dsimp only[aL,aaO,aaP,aaQ,aaR,aaS,aaT,aaU,aaV,aaZ,aa0,aa1,aa2,Γ];refine Lp.intro (γ:=Nat) (λi=>l.length-i) (λi vs mm lo=>∃r,vs=[r,aeP i]/\i<=l.length/\Ext m mm/\m.n<=lo/\Ow m.n mm (((List.range i).map (fL l)).map Ln.mk) r) 0 ⟨_,rfl,abh _,.refl,aa4 _,.nil⟩ ?_;rintro i vs mm lo ⟨r,rfl,hi,hx,J0,g0⟩;have hn:=hx.n;rw[aB,aB,(hl.aF hx).len cx,aA,aM,ae,aj];refine ak (λh0=>?_) (λK0=>?_)
  ·have h0:i < l.length:=by grind
   obtain⟨p,hp⟩:∃p,l[i]?=some p:=⟨_,aa5 h0⟩
   obtain⟨q,hq⟩:∃p,l[(i+1)%l.length]?=some p:=⟨_,aa5 (acQ _ (by omega))⟩
   have⟨a,e1,e2⟩:=(hl.aF hx).dZ (k:=.i64) hp;rw[e1,ae,e2,ae];refine av λm13 y0 j0 z0=>?_;unfold ptrTo;refine aC dh j0 rfl rfl rfl λm14 A0 k0 B0=>?_;have H:Ext mm m14:=⟨by omega,by grind⟩
   refine aE (Gt hX ((hl.aF hx).aF H) (by omega) h0 hq) ?_;refine av λm19 C0 l0 D0=>?_;refine aC dh l0 rfl rfl rfl λm20 E0 n0 F0=>?_;have a0:Ext m14 m20:=⟨by omega,by grind⟩
   have g1:m20.get mm.n=.cells [aeP p.x,aeP p.y] 141 none:=by rw[a0.get _ (by omega),k0];rfl
   have g2:m20.get m14.n=.cells [aeP q.x,aeP q.y] 141 none:=n0;have bp:=Pl.on (i0 p (abb hp));have bq:=Pl.on (i0 q (abb hq));have b1:qh 40 p.x:=⟨by omega,by omega⟩
   have b2:qh 40 p.y:=⟨by omega,by omega⟩
   have b3:qh 80 (q.x-p.x):=⟨by omega,by omega⟩
   have b4:qh 80 (q.y-p.y):=⟨by omega,by omega⟩
   have w3:IntKind.i64.wrap ((q.y-p.y)*p.x-(q.x-p.x)*p.y)=(q.y-p.y)*p.x-(q.x-p.x)*p.y:=((b4.mul b1).sub (b3.mul b2)).wr (by decide);have w1:IntKind.i64.wrap (p.y-q.y)=p.y-q.y:=wrap64 (by omega) (by omega);have w2:IntKind.i64.wrap (q.x-p.x)=q.x-p.x:=wrap64 (by omega) (by omega);simp only[bY,cO,bI,aI g1,aI g2,abV,aa8,aa7,ae,dD,gE,xT,xS,Dg,Df,w1,w2,w3];have bl:∀a b c:Int,aJ TE 341 [(0,aeP a),(1,aeP b),(2,aeP c)]=some (.agg #[aeP a,aeP b,aeP c]):=λa b c=>wW rfl rfl rfl;rw[bl,ae];obtain⟨L,hL⟩:∃L:uk.V,L=⟨p.y-q.y,q.x-p.x,(q.y-p.y)*p.x-(q.x-p.x)*p.y⟩:=⟨_,rfl⟩
   have r0:fL l i=L:=by unfold fL lF;rw[CT hp,CT hq,hL]
   have s0:∀a b c:Int,aG TE m20 337 1 [(0,.agg #[aeP a,aeP b,aeP c])]=some (aeL m20.n 0 1 1,m20.push (.cells [.int .i64 a,.int .i64 b,.int .i64 c] 341 none)):=λa b c=>by kernel_rfl
   rw[s0,aA];have b0:Ext m20 (m20.push (.cells [.int .i64 (p.y-q.y),.int .i64 (q.x-p.x),.int .i64 ((q.y-p.y)*p.x-(q.x-p.x)*p.y)] 341 none)):=Ext.refl.push;generalize d0:m20.push (.cells [.int .i64 (p.y-q.y),.int .i64 (q.x-p.x),.int .i64 ((q.y-p.y)*p.x-(q.x-p.x)*p.y)] 341 none)=o0 at*;have p0:o0.get m20.n=.cells (vC L) 341 none:=by rw[<-d0,hL];exact M.aU
   have G0:o0.n=m20.n+1:=by rw[<-d0];rfl
   obtain⟨v',u0,ha,q0,e0,H0,I0⟩:=Ow.append (y:=aeL m20.n 0 1 1) (ys:=[Ln.mk L]) P7 (by simp[aZ.eB]) (g0.aF (H.trans (a0.trans b0))) (row_one p0 rfl) (by omega) (by grind);rw[ha,aA,aQ,ae,wrap64 (by omega) (by omega)];have L0:=e0.n;refine⟨i+1,by omega,v',rfl,by omega,⟨by omega,λb hb=>by rw[e0.get b hb,b0.get b (by omega),a0.get b (by omega),H.get b (by omega),hx.get b hb]⟩,by omega,?_⟩;rw[acO,abM,abM];show Ow m.n u0 (_++ [Ln.mk (fL l i)]) v';rw[r0];exact q0
  have v0:i=l.length:=by
   have:¬(i:Int)< (l.length:Int):=by grind
   omega
  subst v0;refine⟨.inl (g0.flat ?_),by omega,hx,g0⟩;intro h;have:=congrArg List.length h;rw[abH,abH,adF,abI]at this;omega
 obtain⟨r,m',b,hc,rfl,h1,h2⟩:=key;exact⟨r,m',hc,h1,h2⟩
end
section
open Go Go.D Go.uk
variable {X:aK} {m:M}
theorem Oj{L:List Ln}{v:aeM}(h:Sl m L v){i:Nat}{x:Ln}(hx:L[i]?=some x):∃a a0 a1 a2,an TE 337 v (aeP i)=some a/\af TE 341 a 0=some a0/\ah TE m 3 a0=some (aeP x.v.x)/\
  af TE 341 a 1=some a1/\ah TE m 3 a1=some (aeP x.v.y)/\af TE 341 a 2=some a2/\ah TE m 3 a2=some (aeP x.v.w):=by
 have⟨b,o,bc,g,cs,e1,H,hr,_,hj⟩:=h.gM BL (k:=.i64) hx;have hr:cs=vC x.v:=hr;subst hr;refine⟨_,_,_,_,e1,wO,?_,wN,?_,wM,?_⟩;·rw[bI,aI H,hj 0 (by decide)];rfl
 ·rw[bI,aI H,hj 1 (by decide)];rfl
 rw[bI,aI H,hj 2 (by decide)];rfl
theorem Nx{L:List Pt}{v:aeM}(h:Sl m L v){i:Nat}{x:Pt}(hx:L[i]?=some x):∃a,an TE 339 v (aeP i)=some a/\ah TE m 343 a=some (.agg (vC x.v).toArray):=by have⟨p,cs,e1,e2,H⟩:=h.index M7 (k:=.i64) hx;have H:cs=vC x.v:=H;subst H;exact⟨p,e1,e2⟩
def YJ(p:V):Prop:=qh 80 p.x/\qh 80 p.y/\qh 6400 p.w
def WS(p:V):Prop:=qh 1024000 p.x/\qh 1024000 p.y/\qh 12800 p.w
theorem qh.mono{A B x:Int}(h:qh A x)(H:A<=B):qh B x:=⟨by have:=h.1;omega,by have:=h.2;omega⟩
theorem qh.neg{A x:Int}(h:qh A x):qh A (-x):=⟨by have:=h.2;omega,by have:=h.1;omega⟩
theorem HP{f g:V}(H:YJ f)(hg:YJ g):WS (meet f g):=by have⟨f1,f2,f3⟩:=H;have⟨g1,g2,g3⟩:=hg;exact⟨((f2.mul g3).sub (g2.mul f3)).mono (by decide),((f3.mul g1).sub (g3.mul f1)).mono (by decide),((f1.mul g2).sub (g1.mul f2)).mono (by decide)⟩
theorem HL{p:V}(h:WS p):WS (norm p):=by
 unfold norm;split;·exact⟨h.1.neg,h.2.1.neg,h.2.2.neg⟩
 exact h
def LG(L:List Ln)(p:V):Bool:=L.all λx=>decide (0<=x.v.dot p)
theorem Ij{L:List Ln}{v21 va:aeM}{B n1 k lo0:Nat}{acc:List Pt}{p:V}{mm:M}{P:aeN->M->Nat->Prop}(hL:Sl mm L v21)(hB:mm.get B=.cells (vC p) 343 none)(h0:Ow n1 mm acc va)(A1:n1<=mm.n)
  (i1:∀x∈L,YJ x.v) (j1:WS p) (w1:acc.length<=1000) (hk:k < 1000) (hlen:L.length<=16)
  (hP:∀q0 m' r0,mm.n<=m'.n->(∀c,c < n1->m'.get c=mm.get c)->min lo0 n1<=r0->Ow n1 m' (if LG L p then acc++ [Pt.mk p]else acc) q0->P [q0,aeP ((k+1:Nat):Int)] m' r0):
  (Lp (λi0 o0 H d0=>un o0 λj0 s0=>un s0 λb0 y1=>(aP (aw TE H .len [337] [v21]) λu0 _=>(ai (az TE .lss 3 b0 u0) λv0=>(aR v0
(aR j0
(ai (an TE 337 v21 b0) λy0=>(ai (af TE 341 y0 0) λz0=>(ai (ah TE H 3 z0) λv124=>(ai (af TE 343 (ptrTo B) 0) λA0=>(ai (ah TE H 3 A0) λB0=>(ai (az TE .mul 3 v124 B0) λv127=>(ai (an TE 337 v21 b0) λC0=>(ai (af TE 341 C0 1) λD0=>(ai (ah TE H 3 D0) λv130=>(ai (af TE 343 (ptrTo B) 1) λv131=>(ai (ah TE H 3 v131) λE0=>(ai (az TE .mul 3 v130 E0) λF0=>(ai (az TE .add 3 v127 F0) λG0=>(ai (an TE 337 v21 b0) λH0=>(ai (af TE 341 H0 2) λI0=>(ai (ah TE H 3 I0) λJ0=>(ai (af TE 343 (ptrTo B) 2) λv138=>(ai (ah TE H 3 v138) λv139=>(ai (az TE .mul 3 J0 v139) λK0=>(ai (az TE .add 3 G0 K0) λv141=>(ai (az TE .geq 3 v141 (aeP 0)) λL0=>(ai (az TE .add 3 b0 (aeP 1)) λv143=>(i0 [L0,v143] H d0)))))))))))))))))))))))
(ai (az TE .add 3 b0 (aeP 1)) λN0=>(i0 [aeS,N0] H d0)))
(aR j0
(ai (ah TE H 343 (ptrTo B)) λv145=>(aP (aG TE H 339 1 [(0,v145)]) λv146 k0=>(aP (aw TE (M.wl k0 (M.n k0)) .append [339,339] [va,v146]) λv148 n0=>(ai (az TE .add 3 (aeP k) (aeP 1)) λO0=>(P [v148,O0] n0 (min d0 (M.low n0)))))))
(ai (az TE .add 3 (aeP k) (aeP 1)) λQ0=>(P [va,Q0] H d0))))))) [aeR,aeP 0] mm lo0):=by
 refine Lp.intro (γ:=Nat) (λi=>L.length-i) (λi vs m' lo=>vs=[.bool (LG (L.take i) p),aeP i]/\i<=L.length/\mm=m'/\lo0=lo) 0 ⟨rfl,abh _,rfl,rfl⟩ ?_;rintro i vs m' lo ⟨rfl,hi,rfl,rfl⟩;rw[aB,aB,hL.len BL,aA,aM,ae,aj,aj];refine ak (λp0=>?_) (λk1=>?_)
 ·have p0:i < L.length:=by simpa using p0
  obtain⟨x,hx⟩:∃x,L[i]?=some x:=⟨_,aa5 p0⟩
  have g0:LG (L.take (i+1)) p=(LG (L.take i) p && decide (0<=x.v.dot p)):=by unfold LG;rw[abt,hx,ab9,adV];simp
  refine ak (λe0=>?_) (λe0=>?_)
  ·have⟨a,a0,a1,a2,e1,f0,l0,f1,l1,f2,l2⟩:=Oj hL hx;have o1:mm.get B=.cells [aeP p.x,aeP p.y,aeP p.w] 343 none:=hB;have⟨b1,b2,b3⟩:=i1 x (abb hx);have⟨c1,c2,c3⟩:=j1;have hw:IntKind.i64.wrap (x.v.x*p.x+x.v.y*p.y+x.v.w*p.w)=x.v.dot p:=(((b1.mul c1).add (b2.mul c2)).add (b3.mul c3)).wr (by decide);simp only[e1,f0,l0,f1,l1,f2,l2,ae,ptrTo,jW,jV,jU,bI,aI o1,abV,aa8,aa7,gE,aQ,Di,Dh,hw,cB];rw[wrap64 (by omega) (by omega)];exact⟨i+1,by omega,by rw[g0,e0,abG];rfl,by omega,by first |rfl |trivial,by first |rfl |trivial⟩
  rw[aQ,ae,wrap64 (by omega) (by omega)];exact⟨i+1,by omega,by rw[g0,e0,acS];rfl,by omega,rfl,rfl⟩
 have p1:i=L.length:=by
  have:¬(i:Int)< (L.length:Int):=by simpa using k1
  omega
 subst p1;rw[aby (aa4 _)];refine ak (λe0=>?_) (λe0=>?_)
 ·unfold ptrTo;rw[Od,aN hB (by simp[vC])];show ai (some (Value.agg #[aeP p.x,aeP p.y,aeP p.w])) _;rw[ae];have r1:aG TE mm 339 1 [(0,.agg #[aeP p.x,aeP p.y,aeP p.w])]=some (aeL mm.n 0 1 1,mm.push (.cells (vC p) 343 none)):=by kernel_rfl
  rw[r1,aA];have d1:Ext mm (mm.push (.cells (vC p) 343 none)):=Ext.refl.push;generalize g1:mm.push (.cells (vC p) 343 none)=m1 at*;have u1:m1.get mm.n=.cells (vC p) 343 none:=by rw[<-g1];exact M.aU
  have z1:m1.n=mm.n+1:=by rw[<-g1];rfl
  obtain⟨v',m2,ha,v1,h1,B1,C1⟩:=Ow.append (y:=aeL mm.n 0 1 1) (ys:=[Pt.mk p]) WC (by simp[aZ.eB]) (h0.aF d1) (row_one u1 rfl) (by omega) (by simp;omega);rw[ha,aA,aQ,ae,wrap64 (by omega) (by omega)];have h2:=h1.n;refine hP v' m2 _ (by omega) (λc hc=>by rw[h1.get c hc,d1.get c (by omega)]) (by omega) ?_;rw[abe e0];exact v1
 rw[aQ,ae,wrap64 (by omega) (by omega)];refine hP va mm lo0 (aa4 _) (λ_ _=>rfl) (by omega) ?_;rw[abd (by rw[e0];decide)];exact h0
theorem MU{va:aeM}{lo0 n1:Nat}{acc:List Pt}{mm:M}{R:aeN->M->Nat->Prop}(h0:Sl mm acc va)(H0:∀x∈acc,WS x.v)(b4:acc.length<=1000)(f4:n1<=mm.n)
  (hT:∀m' n0 (u v w:Pt),u∈acc->v∈acc->w∈acc->lH u.v v.v w.v≠0->min lo0 n1<=n0->R [aeR] m' n0)
  (hF:∀m' n0,(∀(i k n:Nat) (u v w:Pt),n < k->k < i->acc[i]?=some u->acc[k]?=some v->acc[n]?=some w->lH u.v v.v w.v=0)->min lo0 n1<=n0->R [aeS] m' n0):
  (Lp (λi1 I0 o0 p0=>un I0 λj1 k1=>un k1 λi0 c4=>(aP (aw TE o0 .len [339] [va]) λv201 _=>(ai (az TE .lss 3 i0 v201) λl1=>(aR l1
(Lp (λo1 J0 u0 q0=>un J0 λv0 p1=>un p1 λj0 d4=>(ai (az TE .lss 3 j0 i0) λr1=>(aR r1
(Lp (λu1 K0 d0 g0=>un K0 λy0 v1=>un v1 λv218 e4=>(ai (az TE .lss 3 v218 j0) λw1=>(aR w1
(ai (an TE 339 va i0) λy1=>(ai (ah TE d0 343 y1) λv222=>(bE (M.push d0 (.cells [aeP 0,aeP 0,aeP 0] 343 none)) λz1=>(aP (aD TE z1 343 (ptrTo (M.n d0)) v222) λa0 z0=>(ai (an TE 339 va j0) λv226=>(ai (ah TE a0 343 v226) λv227=>(bE (M.push a0 (.cells [aeP 0,aeP 0,aeP 0] 343 none)) λA1=>(aP (aD TE A1 343 (ptrTo (M.n a0)) v227) λb0 A0=>(ai (an TE 339 va v218) λB1=>(ai (ah TE b0 343 B1) λv232=>(bE (M.push b0 (.cells [aeP 0,aeP 0,aeP 0] 343 none)) λC1=>(aP (aD TE C1 343 (ptrTo (M.n b0)) v232) λH B0=>(ai (af TE 343 (ptrTo (M.n d0)) 0) λv236=>(ai (ah TE H 3 v236) λD1=>(ai (af TE 343 (ptrTo (M.n a0)) 1) λE1=>(ai (ah TE H 3 E1) λF1=>(ai (af TE 343 (ptrTo (M.n b0)) 2) λG1=>(ai (ah TE H 3 G1) λH1=>(ai (az TE .mul 3 F1 H1) λI1=>(ai (af TE 343 (ptrTo (M.n a0)) 2) λJ1=>(ai (ah TE H 3 J1) λK1=>(ai (af TE 343 (ptrTo (M.n b0)) 1) λL1=>(ai (ah TE H 3 L1) λN1=>(ai (az TE .mul 3 K1 N1) λO1=>(ai (az TE .sub 3 I1 O1) λP1=>(ai (az TE .mul 3 D1 P1) λT1=>(ai (af TE 343 (ptrTo (M.n d0)) 1) λd2=>(ai (ah TE H 3 d2) λi2=>(ai (af TE 343 (ptrTo (M.n a0)) 0) λj2=>(ai (ah TE H 3 j2) λk2=>(ai (af TE 343 (ptrTo (M.n b0)) 2) λl2=>(ai (ah TE H 3 l2) λo2=>(ai (az TE .mul 3 k2 o2) λu2=>(ai (af TE 343 (ptrTo (M.n a0)) 2) λv2=>(ai (ah TE H 3 v2) λw2=>(ai (af TE 343 (ptrTo (M.n b0)) 0) λy2=>(ai (ah TE H 3 y2) λz2=>(ai (az TE .mul 3 w2 z2) λA2=>(ai (az TE .sub 3 u2 A2) λB2=>(ai (az TE .mul 3 i2 B2) λC2=>(ai (az TE .sub 3 T1 C2) λD2=>(ai (af TE 343 (ptrTo (M.n d0)) 2) λE2=>(ai (ah TE H 3 E2) λF2=>(ai (af TE 343 (ptrTo (M.n a0)) 0) λG2=>(ai (ah TE H 3 G2) λH2=>(ai (af TE 343 (ptrTo (M.n b0)) 1) λI2=>(ai (ah TE H 3 I2) λJ2=>(ai (az TE .mul 3 H2 J2) λK2=>(ai (af TE 343 (ptrTo (M.n a0)) 1) λL2=>(ai (ah TE H 3 L2) λM2=>(ai (af TE 343 (ptrTo (M.n b0)) 0) λN2=>(ai (ah TE H 3 N2) λO2=>(ai (az TE .mul 3 M2 O2) λP2=>(ai (az TE .sub 3 K2 P2) λQ2=>(ai (az TE .mul 3 F2 Q2) λT2=>(ai (az TE .add 3 D2 T2) λd3=>(ai (az TE .neq 3 d3 (aeP 0)) λe3=>(aR e3
(R [aeR] H (min (min (min g0 z0) A0) B0))
(ai (az TE .add 3 v218 (aeP 1)) λi3=>(u1 [y0,i3] H (min (min (min g0 z0) A0) B0)))))))))))))))))))))))))))))))))))))))))))))))))))))))))))))
(ai (az TE .add 3 j0 (aeP 1)) λj3=>(o1 [y0,j3] d0 g0))))) [v0,aeP 0] u0 q0)
(ai (az TE .add 3 i0 (aeP 1)) λk3=>(i1 [v0,k3] u0 q0))))) [j1,aeP 0] o0 p0)
(R [aeS] o0 p0))))) [aeS,aeP 0] mm lo0):=by
 refine Lp.intro (γ:=Nat) (λi=>acc.length-i) (λi vs m' lo=>vs=[aeS,aeP i]/\i<=acc.length/\Ext mm m'/\min lo0 n1<=lo/\∀(i' k n:Nat) (u v w:Pt),i' < i->n < k->k < i'->acc[i']?=some u->acc[k]?=some v->acc[n]?=some w->lH u.v v.v w.v=0) 0 ⟨rfl,abh _,.refl,adW _ _,λi' _ _ _ _ _ h=>by omega⟩ ?_;rintro i vs m1 g4 ⟨rfl,hi,l3,C0,n3⟩;rw[aB,aB,(h0.aF l3).len M7,aA,aM,ae,aj];refine ak (λL0=>?_) (λA3=>?_)
 ·have L0:i < acc.length:=by simpa using L0
  obtain⟨u,hu⟩:∃u,acc[i]?=some u:=⟨_,aa5 L0⟩
  refine Lp.intro (γ:=Nat) (λk=>i-k) (λk vs m' lo=>vs=[aeS,aeP k]/\k<=i/\Ext mm m'/\min lo0 n1<=lo/\∀(k' n:Nat) (v w:Pt),k' < k->n < k'->acc[k']?=some v->acc[n]?=some w->lH u.v v.v w.v=0) 0 ⟨rfl,abh _,l3,C0,λk' _ _ _ h=>by omega⟩ ?_;rintro k vs m2 fS ⟨rfl,hk,o3,D0,r3⟩;rw[aB,aB,aM,ae,aj];refine ak (λE0=>?_) (λu3=>?_)
  ·have E0:k < i:=by simpa using E0
   obtain⟨v,hv⟩:∃u,acc[k]?=some u:=⟨_,aa5 (by omega)⟩
   refine Lp.intro (γ:=Nat) (λn=>k-n) (λn vs m' lo=>vs=[aeS,aeP n]/\n<=k/\Ext mm m'/\min lo0 n1<=lo/\∀(n':Nat) (w:Pt),n' < n->acc[n']?=some w->lH u.v v.v w.v=0) 0 ⟨rfl,abh _,o3,D0,λn' _ h=>by omega⟩ ?_;rintro n vs m3 j4 ⟨rfl,hn,k0,v3,w3⟩;rw[aB,aB,aM,ae,aj];refine ak (λF0=>?_) (λy3=>?_)
   ·have F0:n < k:=by simpa using F0
    obtain⟨w,hw⟩:∃u,acc[n]?=some u:=⟨_,aa5 (by omega)⟩
    have k4:=k0.n;have⟨a,e1,e2⟩:=Nx (h0.aF k0) hu;rw[e1,ae,e2,ae];unfold ptrTo;refine av λm4 l4 B3 C3=>?_;refine aC xX B3 rfl rfl rfl λm5 n4 D3 E3=>?_;have N0:Ext m3 m5:=⟨by omega,λb hb=>by rw[E3 b (by omega),C3 b hb]⟩
    have⟨a,e1,e2⟩:=Nx (h0.aF (k0.trans N0)) hv;rw[e1,ae,e2,ae];refine av λm6 o4 F3 G3=>?_;refine aC xX F3 rfl rfl rfl λm7 r4 H3 I3=>?_;have O0:Ext m5 m7:=⟨by omega,λb hb=>by rw[I3 b (by omega),G3 b hb]⟩
    have⟨a,e1,e2⟩:=Nx (h0.aF (k0.trans (N0.trans O0))) hw;rw[e1,ae,e2,ae];refine av λm8 u4 J3 K3=>?_;refine aC xX J3 rfl rfl rfl λm9 v4 L3 N3=>?_;have Q0:Ext m7 m9:=⟨by omega,λb hb=>by rw[N3 b (by omega),K3 b hb]⟩
    have g1:m9.get m3.n=.cells [aeP u.v.x,aeP u.v.y,aeP u.v.w] 343 none:=by rw[Q0.get _ (by omega),O0.get _ (by omega),D3];rfl
    have g2:m9.get m5.n=.cells [aeP v.v.x,aeP v.v.y,aeP v.v.w] 343 none:=by rw[Q0.get _ (by omega),H3];rfl
    have g3:m9.get m7.n=.cells [aeP w.v.x,aeP w.v.y,aeP w.v.w] 343 none:=L3;have⟨a1,a2,a3⟩:=H0 u (abb hu);have⟨b1,b2,b3⟩:=H0 v (abb hv);have⟨c1,c2,c3⟩:=H0 w (abb hw);have O3:IntKind.i64.wrap (u.v.x*(v.v.y*w.v.w-v.v.w*w.v.y)-u.v.y*(v.v.x*w.v.w-v.v.w*w.v.x)+u.v.w*(v.v.x*w.v.y-v.v.y*w.v.x))=lH u.v v.v w.v:=(((a1.mul ((b2.mul c3).sub (b3.mul c2))).sub (a2.mul ((b1.mul c3).sub (b3.mul c1)))).add (a3.mul ((b1.mul c2).sub (b2.mul c1)))).wr (by decide);simp only[ae,jW,jV,jU,bI,aI g1,aI g2,aI g3,abV,aa8,aa7,gE,aQ,dD,Di,Dh,xT,xS,Dg,Df,O3,bR,aj];refine ak (λa4=>?_) (λhe=>?_);·exact hT _ _ u v w (abb hu) (abb hv) (abb hw) (by simpa using a4) (by omega)
    rw[wrap64 (by omega) (by omega)];refine⟨n+1,by omega,rfl,by omega,k0.trans (N0.trans (O0.trans Q0)),by omega,λn' w' r0 e0=>?_⟩;by_cases e:n'=n;·subst e;rw[hw]at e0;cases e0;simpa using he
    exact w3 n' w' (by omega) e0
   have r0:n=k:=by
    have:¬(n:Int)< (k:Int):=by simpa using y3
    omega
   subst r0;rw[aQ,ae,wrap64 (by omega) (by omega)];refine⟨n+1,by omega,rfl,by omega,k0,v3,λk' n' v' w' s0 G0 l0 e0=>?_⟩;by_cases e:k'=n;·subst e;rw[hv]at l0;cases l0;exact w3 n' w' G0 e0
   exact r3 k' n' v' w' (by omega) G0 l0 e0
  have s0:k=i:=by
   have:¬(k:Int)< (i:Int):=by simpa using u3
   omega
  subst s0;rw[aQ,ae,wrap64 (by omega) (by omega)];refine⟨k+1,by omega,rfl,by omega,o3,D0,λi' k' n' u' v' w' z3 r0 s0 d1 l0 e0=>?_⟩;by_cases e:i'=k;·subst e;rw[hu]at d1;cases d1;exact r3 k' n' v' w' s0 r0 l0 e0
  exact n3 i' k' n' u' v' w' (by omega) r0 s0 d1 l0 e0
 have z3:i=acc.length:=by
  have:¬(i:Int)< (acc.length:Int):=by simpa using A3
  omega
 subst z3;exact hF _ _ (λi k n u v w h1 h2 h3 h4 h5=>n3 i k n u v w (aa9.1 h3).1 h1 h2 h3 h4 h5) C0
end
section
open Go Go.D Go.uk
variable {X:aK} {m:M}
theorem DC{a b:List Pl}{i:Nat}(hi:i < a.length):yi a b i↔∀q∈b,(fL a i).dot q.h<=0:=by
 obtain⟨p,hp⟩:∃p,a[i]?=some p:=⟨_,aa5 hi⟩
 obtain⟨q,hq⟩:∃p,a[(i+1)%a.length]?=some p:=⟨_,aa5 (acQ _ (by omega))⟩
 unfold yi fL;rw[hp,hq,CT hp,CT hq];simp only[abz,ac1,abv];constructor
 ·intro h c H;have:=h c H;rw[kO];omega
 intro h c H;have:=h c H;rw[kO]at this;omega
theorem Ht{a b:List Pl}:Sep a b↔¬dH a b < 0:=by
 constructor
 ·rintro⟨f,hf,h⟩ H
  obtain⟨i,hi,rfl⟩:=kv.1 hf
  have hs:=(DC hi).2 h
  unfold dH at H
  cases hc:(List.range a.length).find? (yi a b)with
  |some k=>rw[hc]at H;simp only at H;omega
  |none=>
   grind
 ·intro h
  unfold dH at h
  cases hc:(List.range a.length).find? (yi a b)with
  |some k=>have h1:=adO hc;have h2:=acE.1 (acV hc);exact⟨_,kv.2 ⟨k,h2,rfl⟩,(DC h2).1 h1⟩
  |none=>rw[hc]at h;exact absurd (by decide) h
theorem DL{a b:List Pl}(H:bJ a)(hb:bJ b):fA a b↔¬Sep a b/\¬Sep b a:=by
 unfold fA
 rw[H,hb]
 simp only[aet,abG,abc,abv]
 rw[Ht,Ht]
 grind
theorem PJ(p q r:V):lH q p r= -lH p q r:=by unfold lH;grind
theorem Tb(p q r:V):lH p r q= -lH p q r:=by unfold lH;grind
theorem Wb(p r:V):lH p p r=0:=by unfold lH;grind
theorem V9(p r:V):lH r p p=0:=by unfold lH;grind
theorem Wa(p r:V):lH p r p=0:=by unfold lH;grind
theorem R8{acc:List Pt}(h:∀(i k n:Nat) (u v w:Pt),n < k->k < i->acc[i]?=some u->acc[k]?=some v->acc[n]?=some w->lH u.v v.v w.v=0){u v w:Pt}(hu:u∈acc)(hv:v∈acc)(hw:w∈acc):lH u.v v.v w.v=0:=by
 have⟨i,hi⟩:=abx hu
 have⟨k,hk⟩:=abx hv
 have⟨n,H⟩:=abx hw
 by_cases e1:i=k
 ·subst e1;rw[hi]at hk;cases hk;exact Wb _ _
 by_cases e2:k=n
 ·subst e2;rw[hk]at H;cases H;exact V9 _ _
 by_cases e3:i=n
 ·subst e3;rw[hi]at H;cases H;exact Wa _ _
 have s1:=PJ u.v v.v w.v
 have s2:=Tb u.v v.v w.v
 have s3:=PJ u.v w.v v.v
 have s4:=Tb v.v u.v w.v
 have s5:=PJ v.v w.v u.v
 grind
theorem JZ{f g:V}(h:(meet f g).w≠0):norm (meet g f)=norm (meet f g):=by
 have e:meet g f=(meet f g).neg:=by
  unfold meet V.neg
  grind
 rw[e];have hw:(meet f g).neg.w= -(meet f g).w:=rfl;unfold norm;by_cases h1:(meet f g).w < 0
 ·grind
 ·rw[abd h1,abe (by grind)]
  unfold V.neg
  grind
structure um(L:List Ln)(acc:List Pt)(i k:Nat):Prop where
 snd:∀p∈acc,js (L.map (·.v)) p.v
 WR:∀(i' k':Nat) (f g:Ln),(i' < i\/(i'=i/\k' < k))->i' < k'->L[i']?=some f->L[k']?=some g->(meet f.v g.v).w≠0->LG L (norm (meet f.v g.v))=true->Pt.mk (norm (meet f.v g.v))∈acc
theorem Cw{L:List Ln}{p:V}:LG L p↔∀f∈L.map (·.v),0<=f.dot p:=by
 unfold LG
 grind
theorem um.skip{L:List Ln}{acc:List Pt}{i k:Nat}{f g:Ln}(h:um L acc i k)(hf:L[i]?=some f)(hg:L[k]?=some g)(hn:¬((meet f.v g.v).w≠0/\LG L (norm (meet f.v g.v)))):um L acc i (k+1):=
 ⟨h.snd,λi' k' f' g' hk H a0 b0 h1 h2=>by
  by_cases e:i'=i/\k'=k
  ·grind
  ·exact h.WR i' k' f' g' (by omega) H a0 b0 h1 h2⟩
theorem um.add{L:List Ln}{acc:List Pt}{i k:Nat}{f g:Ln}(h:um L acc i k)(hf:L[i]?=some f)(hg:L[k]?=some g)(h1:(meet f.v g.v).w≠0)(h2:LG L (norm (meet f.v g.v))):um L (acc++ [Pt.mk (norm (meet f.v g.v))]) i (k+1):=
 ⟨λp H=>by
  rcases abC.1 H with H |H
  ·exact h.snd p H
  ·rw[abE]at H
   subst H
   exact⟨f.v,abQ.2 ⟨f,abb hf,rfl⟩,g.v,abQ.2 ⟨g,abb hg,rfl⟩,h1,rfl,Cw.1 h2⟩,
  λi' k' f' g' hk a0 b0 d0 n1 n2=>by
  by_cases e:i'=i/\k'=k
  ·grind
  ·exact abC.2 (.inl (h.WR i' k' f' g' (by omega) a0 b0 d0 n1 n2))⟩
theorem um.next{L:List Ln}{acc:List Pt}{i k:Nat}(h:um L acc i k)(hk:L.length<=k){k':Nat}(a0:k'<=i+2):um L acc (i+1) k':=
 ⟨h.snd,λi' j f g hc H hf hg h1 h2=>h.WR i' j f g (by grind) H hf hg h1 h2⟩
theorem um.zm{L:List Ln}{acc:List Pt}{k:Nat}(h:um L acc L.length k){v:V}(hv:js (L.map (·.v)) v):Pt.mk v∈acc:=by
 obtain⟨f,hf,g,hg,hm,rfl,h0⟩:=hv;obtain⟨x,hx,rfl⟩:=abQ.1 hf;obtain⟨y,hy,rfl⟩:=abQ.1 hg;have⟨i,hi⟩:=abx hx;have⟨j,H⟩:=abx hy;have li:=(aa9.1 hi).1;have lj:=(aa9.1 H).1;rcases adn i j with e |e |e;·exact h.WR i j x y (by omega) e hi H hm (Cw.2 h0)
 ·subst e;rw[hi]at H;cases H;exfalso;apply hm;show x.v.x*x.v.y-x.v.x*x.v.y=0;omega
 rw[<-JZ (f:=x.v) (g:=y.v) hm]at h0⊢;refine h.WR j i y x (by omega) e H hi ?_ (Cw.2 h0);intro h';apply hm;have:(meet y.v x.v).w= -(meet x.v y.v).w:=by show y.v.x*x.v.y-x.v.x*y.v.y= -(x.v.x*y.v.y-y.v.x*x.v.y);omega
 omega
theorem Iv{l:List Pl}(hv:bJ l):∀f∈qH l,YJ f:=by
 intro f hf;obtain⟨i,hi,rfl⟩:=kv.1 hf;have⟨h3,_⟩:=eR hv;have H:=xW hv;have b1:=Pl.on (H _ (GY hi));have b2:=Pl.on (H _ (GY (l:=l) (i:=(i+1)%l.length) (acQ _ (by omega))));unfold fL lF;generalize gA l i=p at*;generalize gA l ((i+1)%l.length)=q at*;have c1:qh 40 p.x:=⟨by omega,by omega⟩
 have c2:qh 40 p.y:=⟨by omega,by omega⟩
 have c3:qh 80 (q.x-p.x):=⟨by omega,by omega⟩
 have c4:qh 80 (q.y-p.y):=⟨by omega,by omega⟩
 exact⟨⟨by grind,by grind⟩,c3,((c4.mul c1).sub (c3.mul c2)).mono (by decide)⟩
def Qi(m22:M)(n0:Nat)(L:List Ln)(i k:Nat)(vs:aeN)(mm:M)(lo:Nat):Prop:=
 ∃H acc,vs=[H,.int .i64 k]/\i+1<=k/\k<=L.length/\Ext m22 mm/\n0<=lo/\Ow m22.n mm acc H/\um L acc i k/\acc.length<=16*i+k
theorem vV(hX:cC X){a b:List Pl}{va vb:aeM}(ha:Sl m a va)(hb:Sl m b vb)(la:a.length < 1000000)(lb:b.length < 1000000):
  C X (.func 221) [va,vb] m m.n (.bool (fA a b)) m:=by
 refine Cl.flat (hX.no _ rfl) (aa3 func221) rfl rfl ?_;rw[ZH];dsimp only[aL,aaO,aaP,aaQ,aaR,aaS,aaT,aaU,aaV,aaX,aaZ,aa0,aa1,aa2,ψ,ω];refine aW (λvs mm lo=>vs=[.bool (!(bJ a && bJ b))]/\m=mm/\m.n<=lo) (λR hR=>?_) ?_
 ·refine aE (mQ hX ha (by omega)) ?_;rw[bj,ae,aj];refine ak (λh=>?_) (λh=>?_)
  ·have h:bJ a=false:=by grind
   exact hR _ _ _ ⟨by grind,rfl,by omega⟩
  have h:bJ a:=by grind
  refine aE (mQ hX hb (by omega)) ?_;rw[bj,ae];exact hR _ _ _ ⟨by grind,rfl,by omega⟩
 rintro _ _ lo ⟨rfl,rfl,J0⟩;rw[aB,aj];refine ak (λh=>?_) (λh=>?_)
 ·refine⟨?_,J0⟩
  have:(bJ a && bJ b)=false:=by
   cases h':(bJ a && bJ b)with
   |false=>rfl
   |true=>rw[h']at h;cases h
  unfold fA;rw[this];rfl
 have hv:(bJ a && bJ b):=by
  cases h':(bJ a && bJ b)with
  |true=>rfl
  |false=>rw[h']at h;cases h
 rw[abc]at hv;have⟨i0,j0⟩:=hv;have⟨b2,c2⟩:=eR i0;have⟨d2,g2⟩:=eR j0;have⟨ra,m16,K0,C0,L0⟩:=Ek hX ha i0;refine aE K0 ?_;have⟨rb,m19,N0,D0,O0⟩:=Ek (m:=m16) hX (hb.aF C0) j0;refine aE N0 ?_;have n16:=C0.n;have n19:=D0.n;have i2:((qH a).map Ln.mk).length=a.length:=by simp[qH]
 have j2:((qH b).map Ln.mk).length=b.length:=by simp[qH]
 obtain⟨vL,m22,Q0,E0,b1,J1,K1⟩:=Ow.append P7 (by simp[aZ.eB]) (L0.aF D0) O0.sl (by omega) (by grind);rw[Q0,aA];obtain⟨L,hL⟩:∃L,L=(qH a).map Ln.mk++(qH b).map Ln.mk:=⟨_,rfl⟩
 rw[<-hL]at E0;have u0:=E0.sl;have c1:L.length<=16:=by grind
 have d1:L.map (·.v)=qH a++qH b:=by rw[hL,abM,aeD,aeD];simp[Function.comp_def]
 have v0:∀x∈L,YJ x.v:=λx hx=>by
  have:x.v∈L.map (·.v):=abQ.2 ⟨x,hx,rfl⟩
  rw[d1]at this;rcases abC.1 this with h |h;·exact Iv i0 _ h
  exact Iv j0 _ h
 have n22:=b1.n;have fin:∀(mm:M) (lo:Nat) (r:Bool),r=fA a b->m.n<=lo->bC [Value.bool r]=.bool (fA a b)/\m.n<=lo:=λmm lo r hr J0=>⟨by rw[<-hr];rfl,J0⟩
 have bp:∀a b c:Int,aJ TE 343 [(0,aeP a),(1,aeP b),(2,aeP c)]=some (.agg #[aeP a,aeP b,aeP c]):=λa b c=>wV rfl rfl rfl;refine Lp.intro (γ:=Nat) (λi=>L.length-i) (λi vs mm lo=>∃vc acc,vs=[vc,aeP i]/\i<=L.length/\Ext m22 mm/\m.n<=lo/\Ow m22.n mm acc vc/\um L acc i 0/\acc.length<=16*i) 0 ⟨_,[],rfl,abh _,.refl,by omega,.nil,⟨λp hp=>(by cases hp),λi' k' f g h=>by omega⟩,abh _⟩ ?_;rintro i vs mm k2 ⟨vc,acc,rfl,hi,hx,g1,p0,H,i1⟩;rw[aB,aB,(u0.aF hx).len BL,aA,aM,ae,aj];refine ak (λj1=>?_) (λl2=>?_)
 ·have j1:i < L.length:=by grind
  obtain⟨f,hf⟩:∃f,L[i]?=some f:=⟨_,aa5 j1⟩
  rw[aQ,ae,wrap64 (by omega) (by omega)];refine Lp.intro (γ:=Nat) (λk=>L.length-k) (Qi m22 m.n L i) (i+1) ⟨vc,acc,rfl,aa4 _,by omega,hx,g1,p0,⟨H.snd,λi' k' f g hc k1 hf hg h1 h2=>H.WR i' k' f g (by omega) k1 hf hg h1 h2⟩,by omega⟩ ?_;rintro k vs b0 fS ⟨vc,acc,rfl,k1,hk,a0,l1,p0,H,i1⟩;have n36:=a0.n;rw[aB,aB,(u0.aF a0).len BL,aA,aM,ae,aj];refine ak (λF0=>?_) (λL1=>?_)
  ·have F0:k < L.length:=by grind
   obtain⟨g,hg⟩:∃f,L[k]?=some f:=⟨_,aa5 F0⟩
   have⟨a1,m2,o2,a12,e1,f10,u1,f11,v1,f12,w1⟩:=Oj (u0.aF a0) hf;have⟨a2,a20,a21,a22,e2,f20,y1,f21,z1,f22,A1⟩:=Oj (u0.aF a0) hg;have bf:=v0 f (abb hf);have bg:=v0 g (abb hg);have bm:=HP bf bg;have bn:=HL bm;have wx:IntKind.i64.wrap (f.v.y*g.v.w-g.v.y*f.v.w)=(meet f.v g.v).x:=bm.1.wr (by decide);have wy:IntKind.i64.wrap (f.v.w*g.v.x-g.v.w*f.v.x)=(meet f.v g.v).y:=bm.2.1.wr (by decide);have ww:IntKind.i64.wrap (f.v.x*g.v.y-g.v.x*f.v.y)=(meet f.v g.v).w:=bm.2.2.wr (by decide);simp only[e1,f10,u1,f11,v1,f12,w1,e2,f20,y1,f21,z1,f22,A1,ae,gE,dD,xT,xS,wx,wy,ww,bp];refine av λu2 N1 o1 O1=>?_;unfold ptrTo;refine aC xX o1 rfl rfl rfl λg0 P1 k0 T1=>?_;have l0:Ext b0 g0:=⟨by omega,by grind⟩
   have k0:g0.get b0.n=.cells (vC (meet f.v g.v)) 343 none:=k0;have y0:g0.get b0.n=.cells [aeP (meet f.v g.v).x,aeP (meet f.v g.v).y,aeP (meet f.v g.v).w] 343 none:=k0
   have B1:∀mm:M,∀x y w:Int,mm.get b0.n=.cells [aeP x,aeP y,aeP w] 343 none->ah TE mm 3 (aeK b0.n (0+0))=some (aeP x)/\ah TE mm 3 (aeK b0.n (0+1))=some (aeP y)/\ah TE mm 3 (aeK b0.n (0+2))=some (aeP w):=λmm x y w h=>by refine⟨?_,?_,?_⟩ <;>rw[bI,aI h] <;>rfl
   have r0:∀(e0:aeM) (m':M) (d0:Nat) (n0:List Pt),g0.n<=m'.n->(∀c,c < m22.n->m'.get c=m22.get c)->m.n<=d0->Ow m22.n m' n0 e0->um L n0 i (k+1)->n0.length<=acc.length+1->
     ∃g',L.length-g' < L.length-k/\Qi m22 m.n L i g' [e0,Value.int .i64 ((k+1:Nat):Int)] m' d0:=λe0 m' d0 n0 h1 h2 h3 h4 h5 h6=>
    ⟨k+1,by omega,e0,n0,rfl,by omega,by omega,⟨by omega,h2⟩,h3,h4,h5,by omega⟩
   have A0:∀c,c < m22.n->g0.get c=m22.get c:=λc hc=>by rw[l0.get c (by omega),a0.get c hc]
   have p1:∀(p:V) (mm:M) (d0:Nat),p=norm (meet f.v g.v)->(meet f.v g.v).w≠0->mm.get b0.n=.cells (vC p) 343 none->Ext b0 mm->g0.n<=mm.n->m.n<=d0->∀(e0:aeM) (m':M) (o0:Nat),mm.n<=m'.n->(∀c,c < m22.n->m'.get c=mm.get c)->min d0 m22.n<=o0->
     Ow m22.n m' (if LG L p then acc++ [Pt.mk p]else acc) e0->∃g',L.length-g' < L.length-k/\Qi m22 m.n L i g' [e0,Value.int .i64 ((k+1:Nat):Int)] m' o0:=by
    intro p mm d0 hp hw v2 r1 B0 G0 e0 m' o0 h1 h2 h3 h4
    by_cases yS:LG L p=true
    ·rw[abe yS]at h4;refine r0 e0 m' o0 _ (by omega) (λc hc=>by rw[h2 c hc,r1.get c (by omega),a0.get c hc]) (by omega) h4 ?_ (by simp);rw[hp]at yS⊢;exact H.add hf hg hw yS
    ·rw[abd yS]at h4;refine r0 e0 m' o0 _ (by omega) (λc hc=>by rw[h2 c hc,r1.get c (by omega),a0.get c hc]) (by omega) h4 ?_ (by omega);exact H.skip hf hg λh=>yS (by grind)
   obtain⟨q0,q1,q2⟩:=B1 g0 _ _ _ y0;rw[jU,ae,q2,ae,aS,ae,aj];refine ak (λhw=>?_) (λhw=>?_)
   ·have hw:(meet f.v g.v).w=0:=by grind
    rw[aQ,ae,wrap64 (by omega) (by omega)];exact r0 vc g0 _ acc (aa4 _) A0 (by omega) (p0.aF l0) (H.skip hf hg λh=>h.1 hw) (by omega)
   have hw:(meet f.v g.v).w≠0:=by grind
   rw[ae,q2,ae,aM,ae,aj];refine ak (λH0=>?_) (λI0=>?_)
   ·have H0:(meet f.v g.v).w < 0:=by grind
    have B0:norm (meet f.v g.v)=(meet f.v g.v).neg:=by unfold norm;rw[abe H0]
    have nx:∀{N x:Int},qh N x->N < 9223372036854775808->IntKind.i64.wrap (0-x)= -x:=λ{N x} h hN=>by rw[wrap64 (by have:=h.2;omega) (by have:=h.1;omega)];omega
    rw[jW,ae,q0,ae,Bz,ae,jV,ae,q1,ae,Bz,ae,ae,q2,ae,Bz,ae,nx bm.1 (by decide),nx bm.2.1 (by decide),nx bm.2.2 (by decide),bp,ae];refine aC xX y0 rfl rfl rfl λz0 C1 h0 D1=>?_;have h0:z0.get b0.n=.cells (vC (norm (meet f.v g.v))) 343 none:=by rw[B0];exact h0
    have s0:Ext b0 z0:=⟨by omega,by grind⟩
    exact Ij (P:=λvs mm lo=>∃g',L.length-g' < L.length-k/\Qi m22 m.n L i g' vs mm lo) (n1:=m22.n) (u0.aF (a0.trans s0)) h0 (p0.aF s0) (by omega) v0 bn (by omega) (by omega) c1 (p1 _ z0 _ rfl hw h0 s0 (by omega) (by omega))
   have I0:¬(meet f.v g.v).w < 0:=by grind
   have B0:norm (meet f.v g.v)=meet f.v g.v:=by unfold norm;rw[abd I0]
   exact Ij (P:=λvs mm lo=>∃g',L.length-g' < L.length-k/\Qi m22 m.n L i g' vs mm lo) (n1:=m22.n) (u0.aF (a0.trans l0)) k0 (p0.aF l0) (by omega) v0 bm (by omega) (by omega) c1 (p1 _ g0 _ B0.symm hw k0 l0 (aa4 _) (by omega))
  have E1:k=L.length:=by
   grind
  subst E1;rw[ae];exact⟨i+1,by omega,vc,acc,rfl,by omega,a0,l1,p0,H.next (aa4 _) (by omega),by omega⟩
 have F1:i=L.length:=by
  grind
 subst F1;have w2:=hx.n
 have G1:∀x∈acc,WS x.v:=λx hx=>by have⟨f,hf,g,hg,_,e,_⟩:=H.snd x hx;rw[e];obtain⟨f',H1,rfl⟩:=abQ.1 hf;obtain⟨g',I1,rfl⟩:=abQ.1 hg;exact HL (HP (v0 _ H1) (v0 _ I1))
 refine MU (R:=λvs _ lo=>bC vs=.bool (fA a b)/\m.n<=lo) (n1:=m22.n) p0.sl G1 (by omega) (by omega) (λm' d0 u v w hu hv hw hd G0=>fin m' d0 true ?_ (by omega)) (λm' d0 hz G0=>fin m' d0 false ?_ (by omega))
 ·refine((DL i0 j0).2 ⟨λhs=>hd ?_,λhs=>hd ?_⟩).symm;·exact DV i0 j0 (L:=L.map (·.v)) (by grind) hs (H.snd _ hu) (H.snd _ hv) (H.snd _ hw)
  exact DV j0 i0 (L:=L.map (·.v)) (by grind) hs (H.snd _ hu) (H.snd _ hv) (H.snd _ hw)
 ·cases ho:fA a b with
  |false=>rfl
  |true=>exfalso;have⟨s1,s2⟩:=(DL i0 j0).1 ho;have⟨u,v,w,cu,cv,cw,hd⟩:=MV i0 j0 s1 s2;rw[<-d1]at cu cv cw;exact hd (R8 hz (H.zm cu) (H.zm cv) (H.zm cw))
end
end Go.Proofs.YtigpcbodmjjaiaaGreatDoor
namespace Go.D
open Go
section
variable {E:Env} {α:Type} [aZ α] {n1:Nat} {m:M} {l ys:List α} {v y:aeM} {T:TypeId}
end
end Go.D
namespace Go.Proofs.YtigpcbodmjjaiaaGreatDoor
section
variable {X:aK} {m:M}
structure UW where
 u:Un
 w:aeM
abbrev UW.c(x:UW):aeN:=x.u.c x.w
abbrev UW.v(x:UW):aeM:=x.u.v x.w
instance:aZ UW where
 ty:=60
 sz:=6
 agg:=true
 eB:=[]
 rep _ x cs:=cs=x.c/\one x.w=true
 pos:=by decide
 one:=by grind
 len:=by simp_all
 fB:=by rintro _ x _ ⟨rfl,h⟩;exact Un.cR h
 aY:=by grind
theorem dF:oP TE 28 60 UW:=⟨ag.t28,ag.t60,by kernel_rfl,⟨_,rfl⟩,rfl,by kernel_rfl,rfl,rfl⟩
theorem WA:ur TE 28 UW:=⟨ag.t28,ag.t60,by kernel_rfl,rfl,rfl,by kernel_rfl,by decide,rfl⟩
def Own(n1:Nat)(m:M)(l:List UW)(b:Nat):Prop:=0 < l.length/\n1<=b/\∃cs,m.get b=.cells cs 60 (some 6)/\cs.length=l.length*6/\∀i x,l[i]?=some x->aZ.rep m x (chunk cs 6 i)
theorem Own.ow{n1:Nat}{l:List UW}{b:Nat}(h:Own n1 m l b):Ow n1 m l (aeL b 0 l.length l.length):=by have⟨h1,H,cs,h3,h4,h5⟩:=h;exact .inr ⟨b,cs,rfl,h1,H,h3,h4,h5⟩
theorem Own.of{n1:Nat}{l:List UW}{v:aeM}(h:Ow n1 m l v)(H:l≠ []):∃b,v=aeL b 0 l.length l.length/\Own n1 m l b:=by
 rcases h with⟨_,h⟩ |⟨b,cs,rfl,h1,h2,h3,h4,h5⟩
 ·grind
 exact⟨b,rfl,h1,h2,cs,h3,h4,h5⟩
theorem Own.aY{n1:Nat}{l:List UW}{b:Nat}{m':M}(h:Own n1 m l b)(hb:m'.get b=m.get b):Own n1 m' l b:=by have⟨h1,H,cs,h3,h4,h5⟩:=h;exact⟨h1,H,cs,by grind,h4,λi x hi=>h5 i x hi⟩
theorem Ta{p q:Pl}:eq? TE 141 p.v q.v=some (decide (p=q)):=by
 have e:eq? TE 141 p.v q.v=some ((p.x==q.x) && ((p.y==q.y) && true)):=by kernel_rfl
 rw[e];have⟨a,b⟩:=p;have⟨c,d⟩:=q;by_cases h1:a=c <;>by_cases H:b=d <;>simp[h1,H]
end
section
variable {m:M}
theorem HD{x:UW}:aG TE m 28 1 [(0,x.v)]=some (.slice (some ⟨m.n,0,none⟩) 1 1,m.push (.cells x.c 60 none)):=by kernel_rfl
theorem JH{x:UW}{b:Nat}{g:Option Nat}(h:m.get b=.cells x.c 60 g)(hw:one x.w):Sl m [x] (aeL b 0 1 1):=
 .inr ⟨b,0,1,_,g,rfl,h,aa4 _,λi y hi=>by
  match i with
  |0=>cases hi;exact⟨rfl,hw⟩
  |i+1=>cases hi⟩
end
section
variable {X:aK} {m:M}
def Pl.bE(p:Pl):Prop:=0<=p.x/\p.x<=40/\0<=p.y/\p.y<=40
theorem _root_.Go.D.Sl.gj{l:List UW}{v:aeM}(h:Sl m l v){i:Nat}{x:UW}(hi:l[i]?=some x){k:IntKind}:∃a,an TE 28 v (.int k i)=some a/\ah TE m 60 a=some x.v/\one x.w:=by obtain⟨a,cs,h1,H,rfl,h3⟩:=h.index dF (k:=k) hi;exact⟨a,h1,H,h3⟩
theorem HV{b:Nat}{x:UW}{e:TypeId}{g:Option Nat}(h:m.get b=.cells x.c e g):ah TE m 60 (aeK b 0)=some x.v:=bT h
def jO(u:Un):Bool:=cQ u.id 0 99 && cQ u.kind 1 8 && cQ u.dA 0 7 && decide (0<=u.back) && decide (u.back < u.front) && decide (u.front<=8) && bJ u.shape
def ke(a b:Un):Bool:=jO a && jO b && decide (max a.back b.back < min a.front b.front)
def iq(a b:Un):Bool:=ke a b && fA a.shape b.shape
theorem Cr(hX:cC X)(n lo hi:Int):C X (.func 169) [aeP n,aeP lo,aeP hi] m m.n (.bool (cQ n lo hi)) m:=by
 refine Cl.flat (hX.no _ rfl) (aa3 func169) rfl rfl ?_;rw[aab];dsimp only[η];refine aW (λvs m2 H=>vs=[.bool (cQ n lo hi)]/\m.n<=H) (λR hR=>?_) ?_
 ·simp only[cp,ae,aj];refine ak (λh=>hR _ _ _ ⟨by simp[cQ,h],aa4 _⟩) (λh=>hR _ _ _ ⟨by simp[cQ,h],aa4 _⟩)
 rintro _ m2 H ⟨rfl,hl⟩;rw[aB];exact⟨rfl,hl⟩
theorem kU{b:Nat}{u:Un}{w:aeM}{g:Option Nat}(h:m.get b=.cells (u.c w) 60 g):
  ah TE m 3 (aeK b (0+0))=some (aeP u.id)/\ah TE m 3 (aeK b (0+1))=some (aeP u.kind)/\ah TE m 3 (aeK b (0+2))=some (aeP u.dA)/\
  ah TE m 58 (aeK b (0+3))=some w/\ah TE m 3 (aeK b (0+4))=some (aeP u.back)/\ah TE m 3 (aeK b (0+5))=some (aeP u.front):=by refine⟨?_,?_,?_,?_,?_,?_⟩ <;>first |(rw[bI,aI h];rfl) |(rw[tD,aI h];rfl)
theorem mI(hX:cC X){u:Un}{w:aeM}(hw:Sl m u.shape w)(hb:u.shape.length < 4611686018427387904):C X (.func 116) [u.v w] m m.n (.bool (jO u)) m:=by
 refine Cl.flat (hX.no _ rfl) (aa3 func116) rfl rfl ?_;rw[aaC];dsimp only[δ,ε,η,ρ,υ,φ,χ,ψ,ω];refine av λm1 e0 a0 b0=>?_;simp only[aT]at a0;have d0:Ext m m1:=⟨by omega,b0⟩
 have a0:m1.get m.n=.cells (u.c w) 60 none:=a0;have⟨l0,l1,l2,l3,l4,l5⟩:=kU a0;unfold ptrTo;refine aW (λvs mm lo=>vs=[.bool (cQ u.id 0 99 && cQ u.kind 1 8 && cQ u.dA 0 7)]/\m1=mm/\m.n<=lo) (λR hR=>?_) ?_
 ·rw[bs,ae,l0,ae];refine aE (Cr hX _ _ _) ?_;rw[aj];refine ak (λh1=>?_) (λh1=>hR _ _ _ ⟨by grind,rfl,by omega⟩);rw[cM,ae,l1,ae];refine aE (Cr hX _ _ _) ?_;rw[aj];refine ak (λh2=>?_) (λh2=>hR _ _ _ ⟨by grind,rfl,by omega⟩);rw[cL,ae,l2,ae];refine aE (Cr hX _ _ _) ?_;exact hR _ _ _ ⟨by grind,rfl,by omega⟩
 rintro _ _ lo ⟨rfl,rfl,H⟩;rw[aB];refine aW (λvs mm lo=>vs=[.bool (jO u)]/\m.n<=lo) (λR hR=>?_) ?_
 ·rw[aj];refine ak (λh=>?_) (λh=>hR _ _ _ ⟨by unfold jO;rw[h];rfl,H⟩);simp only[bH,cK,cJ,ae,l3,l4,l5,cp,aM,aj];refine ak (λh1=>?_) (λh1=>hR _ _ _ ⟨by unfold jO;rw[h,h1];rfl,H⟩);refine ak (λh2=>?_) (λh2=>hR _ _ _ ⟨by unfold jO;rw[h,h1,h2];rfl,H⟩);refine ak (λh3=>?_) (λh3=>hR _ _ _ ⟨by unfold jO;rw[h,h1,h2,h3];rfl,H⟩);refine aE (jz hX (hw.aF d0) hb) ?_;exact hR _ _ _ ⟨by unfold jO;rw[h,h1,h2,h3];rfl,by omega⟩
 rintro _ mm lo ⟨rfl,H⟩;rw[aB];exact⟨rfl,H⟩
theorem je(hX:cC X){u:Un}{w:aeM}(hw:Sl m u.shape w)(hb:u.shape.length < 4611686018427387904):C X (.func 172) [u.v w] m m.n (.bool (jO u)) m:=by
 refine Cl.flat (hX.no _ rfl) (aa3 func172) rfl rfl ?_;rw[Z8];dsimp only[δ,ε,η,ρ,υ,φ,χ];refine av λm1 e0 a0 b0=>?_;simp only[aT]at a0;have d0:Ext m m1:=⟨by omega,b0⟩
 have a0:m1.get m.n=.cells (u.c w) 60 none:=a0;have⟨l0,l1,l2,l3,l4,l5⟩:=kU a0;unfold ptrTo;have n1:cQ u.id 0 99=(!(decide (u.id < 0)) && !(decide (99 < u.id))):=by unfold cQ;by_cases a:u.id < 0 <;>by_cases b:99 < u.id <;>simp[a,b] <;>omega
 have n2:cQ u.kind 1 8=(!(decide (u.kind < 1)) && !(decide (8 < u.kind))):=by unfold cQ;by_cases a:u.kind < 1 <;>by_cases b:8 < u.kind <;>simp[a,b] <;>omega
 have n3:cQ u.dA 0 7=(!(decide (u.dA < 0)) && !(decide (7 < u.dA))):=by unfold cQ;by_cases a:u.dA < 0 <;>by_cases b:7 < u.dA <;>simp[a,b] <;>omega
 refine aW (λvs mm lo=>vs=[.bool (!(cQ u.id 0 99 && cQ u.kind 1 8 && cQ u.dA 0 7))]/\m1=mm/\m.n<=lo) (λR hR=>?_) ?_
 ·simp only[bs,cM,cL,ae,l0,l1,l2,aM,bV,aj];rw[n1,n2,n3]at hR;refine ak (λh1=>hR _ _ _ ⟨by grind,rfl,aa4 _⟩) (λh1=>?_);refine ak (λh2=>hR _ _ _ ⟨by grind,rfl,aa4 _⟩) (λh2=>?_);refine ak (λh3=>hR _ _ _ ⟨by grind,rfl,aa4 _⟩) (λh3=>?_);refine ak (λh4=>hR _ _ _ ⟨by grind,rfl,aa4 _⟩) (λh4=>?_);refine ak (λh5=>hR _ _ _ ⟨by grind,rfl,aa4 _⟩) (λh5=>?_);exact hR _ _ _ ⟨by grind,rfl,aa4 _⟩
 rintro _ _ lo ⟨rfl,rfl,H⟩;rw[aB,aj];refine ak (λh=>?_) (λh=>?_)
 ·refine⟨?_,H⟩
  have h:(cQ u.id 0 99 && cQ u.kind 1 8 && cQ u.dA 0 7)=false:=by
   cases h':(cQ u.id 0 99 && cQ u.kind 1 8 && cQ u.dA 0 7)with
   |false=>rfl
   |true=>rw[h']at h;cases h
  unfold jO;rw[h];rfl
 have h:(cQ u.id 0 99 && cQ u.kind 1 8 && cQ u.dA 0 7):=by
  cases h':(cQ u.id 0 99 && cQ u.kind 1 8 && cQ u.dA 0 7)with
  |true=>rfl
  |false=>rw[h']at h;cases h
 refine aW (λvs mm lo=>vs=[.bool (jO u)]/\m.n<=lo) (λR hR=>?_) ?_
 ·simp only[bH,cK,cJ,ae,l3,l4,l5,cp,cB,aM,aj];refine ak (λh1=>?_) (λh1=>hR _ _ _ ⟨by unfold jO;rw[h,h1];rfl,H⟩);refine ak (λh2=>?_) (λh2=>hR _ _ _ ⟨by unfold jO;rw[h,h1,h2];rfl,H⟩);refine ak (λh3=>?_) (λh3=>hR _ _ _ ⟨by unfold jO;rw[h,h1,h2,h3];rfl,H⟩);refine aE (mQ hX (hw.aF d0) hb) ?_;exact hR _ _ _ ⟨by unfold jO;rw[h,h1,h2,h3];rfl,by omega⟩
 rintro _ mm lo ⟨rfl,H⟩;rw[aB];exact⟨rfl,H⟩
theorem vJ(hX:cC X){a b:Un}{va vb:aeM}(ha:Sl m a.shape va)(hb:Sl m b.shape vb)(la:a.shape.length < 4611686018427387904)(lb:b.shape.length < 4611686018427387904):
  C X (.func 148) [a.v va,b.v vb] m m.n (.tuple #[aeP (max a.back b.back),aeP (min a.front b.front),.bool (ke a b)]) m:=by
 refine Cl.flat (hX.no _ rfl) (aa3 func148) rfl rfl ?_;rw[aak];dsimp only[δ,ε,η,κ,ρ,υ,χ,ψ];refine av λm1 e0 b0 g0=>?_;refine av λm2 h0 H i0=>?_;simp only[aT]at b0 H;have a0:Ext m m2:=⟨by omega,by grind⟩
 have g1:m2.get m.n=.cells (a.c va) 60 none:=by grind
 have g2:m2.get m1.n=.cells (b.c vb) 60 none:=H;obtain⟨-, -, -, -,a4,a5⟩:=kU g1;obtain⟨-, -, -, -,b4,b5⟩:=kU g2;unfold ptrTo;simp only[cK,cJ,ae,a4,a5,b4,b5,qz,ko,aA];refine aW (λvs mm lo=>vs=[aeP (max a.back b.back),aeP (min a.front b.front),.bool (ke a b)]/\m.n<=lo) (λR hR=>?_) ?_
 ·rw[aM,ae,aj];refine ak (λh=>?_) (λh=>hR _ _ _ ⟨by unfold ke;rw[h,adC],by omega⟩);rw[bT g1,ae];refine aE (mI hX (ha.aF a0) la) ?_;rw[aj];refine ak (λh1=>?_) (λh1=>hR _ _ _ ⟨by unfold ke;rw[h1];rfl,by omega⟩);rw[bT g2,ae];refine aE (mI hX (hb.aF a0) lb) ?_;exact hR _ _ _ ⟨by unfold ke;rw[h,h1,abG,ad5],by omega⟩
 rintro _ mm lo ⟨rfl,d0⟩;rw[aB,aB,aB];exact⟨rfl,d0⟩
theorem Fm(H:cC X){a b:Un}{va vb:aeM}(ha:Sl m a.shape va)(hb:Sl m b.shape vb)(la:a.shape.length < 4611686018427387904)(lb:b.shape.length < 4611686018427387904):
  ∃x y,C X (.func 148) [a.v va,b.v vb] m m.n (.tuple #[aeP x,aeP y,.bool (ke a b)]) m:=⟨_,_,vJ H ha hb la lb⟩
theorem jt{u:Un}(h:jO u):u.shape.length<=8:=by unfold jO at h;rw[abc]at h;exact(eR h.2).2
theorem Dn(hX:cC X){a b:Un}{va vb:aeM}(ha:Sl m a.shape va)(hb:Sl m b.shape vb)(la:a.shape.length < 4611686018427387904)(lb:b.shape.length < 4611686018427387904):
  C X (.func 197) [a.v va,b.v vb] m m.n (.bool (iq a b)) m:=by
 refine Cl.flat (hX.no _ rfl) (aa3 func197) rfl rfl ?_;rw[ZO];dsimp only[δ,ε,ξ,ρ,υ,χ,ψ];refine av λm1 e0 b0 g0=>?_;refine av λm2 h0 a0 i0=>?_;simp only[aT]at b0 a0;have H:Ext m m2:=⟨by omega,by grind⟩
 have g1:m2.get m.n=.cells (a.c va) 60 none:=by grind
 have g2:m2.get m1.n=.cells (b.c vb) 60 none:=a0;obtain⟨-, -, -,a3, -, -⟩:=kU g1;obtain⟨-, -, -,b3, -, -⟩:=kU g2;unfold ptrTo;rw[bT g1,ae,bT g2,ae];have⟨x,y,hc⟩:=Fm (m:=m2) hX (ha.aF H) (hb.aF H) la lb;refine aE hc ?_;rw[aH,aH,aH];simp only[aa8,aa7,ae];refine aW (λvs mm lo=>vs=[.bool (iq a b)]/\m.n<=lo) (λR hR=>?_) ?_
 ·rw[aj];refine ak (λh=>?_) (λh=>hR _ _ _ ⟨by unfold iq;rw[h];rfl,by omega⟩);have h':=h;unfold ke at h';simp only[abc]at h';rw[bH,ae,a3,ae,bH,ae,b3,ae];refine aE (vW hX (ha.aF H) (hb.aF H) (by have:=jt h'.1.1;omega) (by have:=jt h'.1.2;omega)) ?_;exact hR _ _ _ ⟨by unfold iq;rw[h];rfl,by omega⟩
 rintro _ mm lo ⟨rfl,d0⟩;rw[aB];exact⟨rfl,d0⟩
theorem vT(hX:cC X){a b:Un}{va vb:aeM}(ha:Sl m a.shape va)(hb:Sl m b.shape vb)(la:a.shape.length < 4611686018427387904)(lb:b.shape.length < 4611686018427387904):
  C X (.func 174) [a.v va,b.v vb] m m.n (.bool (ke a b)) m:=by
 refine Cl.flat (hX.no _ rfl) (aa3 func174) rfl rfl ?_;rw[Z6];dsimp only[δ,ε,η,κ,ρ,υ,χ,ψ];refine av λm1 e0 b0 g0=>?_;refine av λm2 h0 H i0=>?_;simp only[aT]at b0 H;have a0:Ext m m2:=⟨by omega,by grind⟩
 have g1:m2.get m.n=.cells (a.c va) 60 none:=by grind
 have g2:m2.get m1.n=.cells (b.c vb) 60 none:=H;obtain⟨-, -, -, -,a4,a5⟩:=kU g1;obtain⟨-, -, -, -,b4,b5⟩:=kU g2;unfold ptrTo;refine aW (λvs mm lo=>vs=[.bool (ke a b)]/\m.n<=lo) (λR hR=>?_) ?_
 ·rw[bT g1,ae];refine aE (je hX (ha.aF a0) la) ?_;rw[aj];refine ak (λh1=>?_) (λh1=>hR _ _ _ ⟨by unfold ke;rw[h1];rfl,by omega⟩);rw[bT g2,ae];refine aE (je hX (hb.aF a0) lb) ?_;rw[aj];refine ak (λh2=>?_) (λh2=>hR _ _ _ ⟨by unfold ke;rw[h2,adC];rfl,by omega⟩);simp only[cK,cJ,ae,a4,a5,b4,b5,qz,ko,aA,aM];exact hR _ _ _ ⟨by unfold ke;rw[h1,h2,abG,abG],by omega⟩
 rintro _ mm lo ⟨rfl,d0⟩;rw[aB];exact⟨rfl,d0⟩
theorem BP(hX:cC X){a b:Un}{va vb:aeM}(ha:Sl m a.shape va)(hb:Sl m b.shape vb)(la:a.shape.length < 4611686018427387904)(lb:b.shape.length < 4611686018427387904):
  C X (.func 173) [a.v va,b.v vb] m m.n (.bool (iq a b)) m:=by
 refine Cl.flat (hX.no _ rfl) (aa3 func173) rfl rfl ?_;rw[Z7];dsimp only[δ,ε,ρ,υ,χ,ψ];refine av λm1 e0 b0 g0=>?_;refine av λm2 h0 a0 i0=>?_;simp only[aT]at b0 a0;have H:Ext m m2:=⟨by omega,by grind⟩
 have g1:m2.get m.n=.cells (a.c va) 60 none:=by grind
 have g2:m2.get m1.n=.cells (b.c vb) 60 none:=a0;obtain⟨-, -, -,a3, -, -⟩:=kU g1;obtain⟨-, -, -,b3, -, -⟩:=kU g2;unfold ptrTo;refine aW (λvs mm lo=>vs=[.bool (iq a b)]/\m.n<=lo) (λR hR=>?_) ?_
 ·rw[bT g1,ae,bT g2,ae];refine aE (vT hX (ha.aF H) (hb.aF H) la lb) ?_;rw[aj];refine ak (λh=>?_) (λh=>hR _ _ _ ⟨by unfold iq;rw[h];rfl,by omega⟩);have h':=h;unfold ke at h';simp only[abc]at h';rw[bH,ae,a3,ae,bH,ae,b3,ae];refine aE (vV hX (ha.aF H) (hb.aF H) (by have:=jt h'.1.1;omega) (by have:=jt h'.1.2;omega)) ?_;exact hR _ _ _ ⟨by unfold iq;rw[h];rfl,by omega⟩
 rintro _ mm lo ⟨rfl,d0⟩;rw[aB];exact⟨rfl,d0⟩
end
end Go.Proofs.YtigpcbodmjjaiaaGreatDoor
namespace Go.D
open Go
section
section
variable {E:Env} {α:Type} [aZ α] {n1:Nat} {m:M} {l ys:List α} {v y:aeM} {T:TypeId}
end
end
section
section
variable {E:Env} {m:M} {T:TypeId} {ti:TI} {e:TypeId} {b n:Nat} {cs:aeN} {te:TypeId} {g:Option Nat}
theorem Aq(t1:E.ty.get T=some ti)(t2:ti.d=.slice e)(hk:0 < ti.es)(h:m.get b=.cells cs te g)(hg:g=none\/g=some ti.es){o c i:Nat}(H:n<=c)(hi:i<=c):
  slice? E m T (aeL b o n c) none (some (aeP i)) none=some (aeL b o i c):=by
 have b1:fO n c none (some (aeP i)) none=some (0,i,c):=by unfold fO;simp only[pZ hi]
 have e1:Nat.beq ti.es 0=false:=by
  cases hb:Nat.beq ti.es 0 with
  |false=>rfl
  |true=>have:=abn hb;omega
 have e2:Nat.ble n c:=abT H;have e0:(⟨b,o,none⟩:Addr).add (0*ti.es)=⟨b,o,none⟩:=by rw[aV rfl,ac4];rfl
 rcases hg with rfl |rfl
 ·simp only[slice?,t1,t2,b1,h,e1,e2,ab7,adi,abm,adg,e0]
  grind
 ·have e3:Nat.beq ti.es ti.es:=acq _
  simp only[slice?,t1,t2,b1,h,e1,e2,e3,ab7,adi,abm,cond_true,adg,e0]
  grind
theorem oX(t1:E.ty.get T=some ti)(t2:ti.d=.slice e)(hk:0 < ti.es)(h:m.get b=.cells cs te g)(hg:g=none\/g=some ti.es){o c j:Nat}(H:n<=c)(hj:j<=n):
  ∃a',slice? E m T (aeL b o n c) (some (aeP j)) none none=some (.slice (some a') (n-j) (c-j))/\(j < c->a'=⟨b,o+j*ti.es,none⟩):=by
 have b1:fO n c (some (aeP j)) none none=some (j,n,c):=by unfold fO;simp only[pZ hj]
 have e1:Nat.beq ti.es 0=false:=by
  cases hb:Nat.beq ti.es 0 with
  |false=>rfl
  |true=>have:=abn hb;omega
 have e2:Nat.ble n c:=abT H;have e0:(⟨b,o,none⟩:Addr).add (j*ti.es)=⟨b,o+j*ti.es,none⟩:=aV (a:=⟨b,o,none⟩) rfl _
 have e4:j < c->Nat.beq c j=false:=λa0=>by
  cases hb:Nat.beq c j with
  |false=>rfl
  |true=>have:=abn hb;omega
 rcases hg with rfl |rfl
 ·refine⟨bif Nat.beq c j then⟨b,o,none⟩else(⟨b,o,none⟩:Addr).add (j*ti.es),?_,by grind⟩;simp only[slice?,t1,t2,b1,h,e1,e2,ab7,adi,abm]
 have e3:Nat.beq ti.es ti.es:=acq _;refine⟨bif Nat.beq c j && !((none:Option aeM).isNone && Nat.beq (o+c*ti.es) cs.length)then⟨b,o,none⟩else(⟨b,o,none⟩:Addr).add (j*ti.es),?_,by grind⟩;simp only[slice?,t1,t2,b1,h,e1,e2,e3,ab7,adi,abm,cond_true]
theorem Ow.tH{α:Type}[aZ α]{n1:Nat}{m m':M}{l:List α}{v:aeM}(ht:aZ.eB α=[])(h:Ow n1 m l v)(hk:∀c,n1<=c->c < m.n->m'.get c=m.get c):Ow n1 m' l v:=by
 rcases h with h |⟨b,cs,h1,h2,H,h4,h5,h6⟩;·exact .inl h
 exact .inr ⟨b,cs,h1,h2,H,by rw[hk b H (M.bk h4),h4],h5,λi x hi=>aZ.aY (h6 i x hi) λb c t g _ h=>by grind⟩
def SlC{α:Type}[aZ α](m:M)(l:List α)(v:aeM):Prop:=
 Sl m l v/\∃b o c H g,v=.slice (some ⟨b,o,none⟩) l.length c/\l.length<=c/\m.get b=.cells H (aZ.ty α) g/\(g=none\/g=some (aZ.sz α))
theorem Ow.slc{α:Type}[aZ α]{n1:Nat}{l:List α}{v:aeM}(h:Ow n1 m l v)(H:l≠ []):SlC m l v:=by
 refine⟨h.sl,?_⟩;rcases h with⟨_,rfl⟩ |⟨b,cs,h1,h2,h3,h4,h5,h6⟩
 ·grind
 ·grind
theorem Sl.part{α:Type}[aZ α]{l:List α}{b o c:Nat}(h:Sl m l (aeL b o l.length c)){i k:Nat}(H:i+k<=l.length){c':Nat}:Sl m ((l.drop i).take k) (aeL b (o+i*aZ.sz α) k c'):=by
 have hlen:((l.drop i).take k).length=k:=by grind
 rcases h with⟨h,_⟩ |⟨b',o',c1,bc,g,he,hb,hle,a0⟩;·cases h
 cases he;refine .inr ⟨b,_,c',bc,g,by rw[hlen],hb,?_,λj x hj=>?_⟩
 ·rw[hlen]
  have:(i+k)*aZ.sz α<=l.length*aZ.sz α:=ab4 _ H
  grind
 ·grind
end
end
end Go.D
namespace Go.Proofs.YtigpcbodmjjaiaaGreatDoor
section
variable {X:aK} {m:M}
structure cn(us:List Un):Prop where
 len:us.length<=12
 val:∀u∈us,jO u=true
 xN:∀(i:Nat) (a b:Un),us[i]?=some a->us[i+1]?=some b->a.id < b.id
 apart:∀(i k:Nat) (a b:Un),i < k->us[i]?=some a->us[k]?=some b->iq a b=false
open Classical in
noncomputable def fQ(us:List Un):Bool:=decide (cn us)
open Classical in
theorem fH{us:List Un}(h:cn us):fQ us=true:=by unfold fQ;exact abl h
open Classical in
theorem nU{us:List Un}(h:¬cn us):fQ us=false:=by unfold fQ;exact abk h
open Classical in
theorem ng{us:List Un}:fQ us=true↔cn us:=by unfold fQ;exact decide_eq_true_iff
theorem Ld(a b:Un):ke a b=ke b a:=by
 unfold ke
 grind
theorem FN(a b:List Pl):fA a b=fA b a:=by
 unfold fA
 grind
theorem nG(a b:Un):iq a b=iq b a:=by unfold iq;rw[Ld,FN]
def bP(l:List UW):List Un:=l.map (·.u)
theorem ja{l:List UW}{i:Nat}{x:UW}(h:l[i]?=some x):(bP l)[i]?=some x.u:=by unfold bP;rw[ack,h];rfl
theorem cS{l:List UW}:(bP l).length=l.length:=by unfold bP;rw[abH]
theorem oR{l:List UW}{i:Nat}{u:Un}(h:(bP l)[i]?=some u):∃x,l[i]?=some x/\x.u=u:=by
 unfold bP at h
 rw[ack]at h
 cases H:l[i]? with
 |none=>rw[H]at h;cases h
 |some x=>rw[H]at h;cases h;exact⟨x,rfl,rfl⟩
theorem By{l:List UW}{u:Un}(h:u∈bP l):∃x∈l,x.u=u:=by unfold bP at h;obtain⟨x,H,rfl⟩:=abQ.1 h;exact⟨x,H,rfl⟩
structure dg(m:M)(l:List UW)(v:aeM):Prop where
 sl:Sl m l v
 sh:∀x∈l,Sl m x.u.shape x.w
 ln:∀x∈l,x.u.shape.length < 1000000
 cap:l=[]\/∃b o c bc g,v=.slice (some ⟨b,o,none⟩) l.length c/\l.length<=c/\m.get b=.cells bc 60 g/\(g=none\/g=some 6)
theorem dg.aF{l:List UW}{v:aeM}{m':M}(h:dg m l v)(H:Ext m m'):dg m' l v:=
 ⟨h.sl.aF H,λx a0=>(h.sh x a0).aF H,h.ln,h.cap.imp id λ⟨b,o,c,bc,g,h1,h2,h3,h4⟩=>⟨b,o,c,bc,g,h1,h2,H.cells h3,h4⟩⟩
theorem dg.aY{l:List UW}{v:aeM}{m':M}(h:dg m l v)(hk:∀c cs t g,m.get c=.cells cs t g->(t=60\/t=141)->m'.get c=.cells cs t g):dg m' l v:=
 ⟨h.sl.aY λb c t g H ht=>hk b c t g H (.inl (by simpa[aZ.ty,aZ.eB]using ht)),λx hx=>(h.sh x hx).aY λb c t g H ht=>hk b c t g H (.inr (by simpa[aZ.ty,aZ.eB]using ht)),h.ln,
  h.cap.imp id λ⟨b,o,c,bc,g,h1,h2,h3,h4⟩=>⟨b,o,c,bc,g,h1,h2,hk _ _ _ _ h3 (.inl rfl),h4⟩⟩
def gI:List UW->List (aeN)
 |[]=> []
 |a::r=>r.map (λb=> [a.v,b.v])++gI r
theorem FK{l:List UW}{i:Nat}{a:UW}(h:l[i]?=some a):gI (l.drop i)=(l.drop (i+1)).map (λb=> [a.v,b.v])++gI (l.drop (i+1)):=by have hi:=(aa9.1 h).1;rw[ab1 hi,(aa9.1 h).2,gI]
theorem FL{x:UW}{r:List UW}:gI (x::r)=r.map (λb=> [x.v,b.v])++gI r:=rfl
theorem JT(hX:cC X){l:List UW}{v:aeM}{b:Nat}(hlen:l.length < 1000000):
  Sy TE X (λo=>∃cs g,o=.cells cs 60 g) (.func 236) [] [ptrTo b] (gI l) (λm=>m.get b=.cells [v] 30 none/\dg m l v):=by
 intro y n0 B I J m hD hI hJ hy H0 hB b0 h0;refine Cl.gen (R:=λv m2 b=>B<=b/\(I (gI l).length m2\/J m2)) (hX.no _ rfl) (aa3 func236) rfl ?_;rw[show([]:aeN)++ .func (.yield y) #[] #[]::[ptrTo b]=[.func (.yield y) #[] #[],ptrTo b]from rfl,Zu];dsimp only[δ,ε,ζ,η,ι,κ,ο,ς,υ,φ,ψ];have ld:∀m1:M,m1.get b=.cells [v] 30 none->ah TE m1 28 (aeK b (0+0))=some v:=λm1 h=>by rw[eO,aI h];rfl
 unfold ptrTo;rw[bO,ae,ld m (hD _ _ h0).1,ae,(hD _ _ h0).2.sl.len dF,aA];refine Lp.intro (γ:=Nat) (λi=>l.length-i) (λi vs m1 lo=>∃P,vs=[aeP i]/\i<=l.length/\gI l=P++gI (l.drop i)/\I P.length m1/\n0<=m1.n/\m.n<=m1.n/\B<=lo/\((lo=m.n/\P=[])\/lo < m.n)) 0 ⟨[],rfl,abh _,rfl,h0,H0,aa4 _,by omega,.inl ⟨rfl,rfl⟩⟩ ?_;rintro i vs m1 z1 ⟨P,rfl,hi,hP,i0,I0,j1,A1,e0⟩;rw[aB,aM,ae,aj];refine ak (λH=>?_) (λB1=>?_)
 ·have H:i < l.length:=by grind
  obtain⟨a,ha⟩:∃a,l[i]?=some a:=⟨_,aa5 H⟩
  obtain⟨q,e1,e2,ow⟩:=(hD _ _ i0).2.sl.gj (k:=.i64) ha;rw[e1,ae,e2,ae];refine av λm13 k1 q0 l1=>?_;refine aC du q0 rfl rfl (Un.cR ow) λm14 o1 r0 p1=>?_;have s0:Ext m1 m14:=⟨by omega,by grind⟩
  have g0:=hI _ _ _ i0 s0;obtain⟨u0,v0⟩:=hD _ _ g0;rw[ae,ld m14 u0,ae,aQ,ae,wrap64 (by omega) (by omega),show((i:Int)+1)=((i+1:Nat):Int) by omega]
  obtain⟨a',c',d0,J0⟩:∃a' c',slice? TE m14 28 v (some (aeP ((i+1:Nat):Int))) none none=some (.slice (some a') (l.length-(i+1)) c')/\∀(mm:M),dg mm l v->∀j x,l[i+1+j]?=some x->∃q,an TE 28 (.slice (some a') (l.length-(i+1)) c') (aeP j)=some q/\ah TE mm 60 q=some x.v:=by
   rcases v0.cap with h |⟨ab,o,c,bc,g,hv,K0,hg,L0⟩;·rw[h]at H;simp at H
   obtain⟨a',h1,h2⟩:=oX (E:=TE) (m:=m14) (T:=28) (ti:=ag.t28) (e:=60) (b:=ab) (cs:=bc) (te:=60) (g:=g) (n:=l.length) (o:=o) (c:=c) (j:=i+1) SH rfl (by decide) hg L0 K0 H;refine⟨a',c-(i+1),by grind,λmm N0 j x hx=>?_⟩;have hj:=(aa9.1 hx).1;have O0:=h2 (by omega);subst O0;have d0:=N0.sl;rw[hv]at d0;have hp:=Sl.part (i:=i+1) (k:=l.length-(i+1)) (c':=c-(i+1)) d0 (by omega)
   have Q0:((l.drop (i+1)).take (l.length-(i+1)))[j]?=some x:=by rw[acy (by omega),acz];exact hx
   have⟨q,q1,q2,_⟩:=hp.gj (k:=.i64) Q0;exact⟨q,q1,q2⟩
  rw[d0,ae];have ln:aw TE m14 .len [28] [.slice (some a') (l.length-(i+1)) c']=some (aeP (l.length-(i+1):Nat),m14):=Ud;rw[ln,aA];have j0:=hP;rw[FK ha,<-abL]at j0
  have y0:∀j x,l[i+1+j]?=some x->(gI l)[P.length+j]?=some [a.v,x.v]:=λj x hx=>by
   have hj:=(aa9.1 hx).1;have a1:(l.drop (i+1))[j]?=some x:=by grind
   rw[j0,abL,acp (by omega),aei,acJ (by grind),ack,a1];rfl
  refine Lp.intro (γ:=Nat) (λj=>l.length-j) (λj vs m2 lo=>vs=[aeP j]/\j<=l.length-(i+1)/\I (P.length+j) m2/\m1.n < m2.n/\m2.get m1.n=.cells a.c 60 none/\B<=lo/\((lo=m.n/\P=[]/\j=0)\/lo < m.n)) 0
   ⟨rfl,abh _,g0,by omega,r0,by omega,by
    rcases e0 with⟨h1,h2⟩ |h;·exact .inl ⟨by omega,h2,rfl⟩
    exact .inr (by omega)⟩ ?_
  rintro j vs m2 fS ⟨rfl,hj,k0,C1,z0,A0,l0⟩;rw[aB,aM,ae,aj];refine ak (λB0=>?_) (λr1=>?_)
  ·have B0:j < l.length-(i+1):=by grind
   obtain⟨x,hx⟩:∃x,l[i+1+j]?=some x:=⟨_,aa5 (by omega)⟩
   obtain⟨q,q1,q2⟩:=J0 m2 (hD _ _ k0).2 j x hx;obtain⟨_,_,_,ox⟩:=(hD _ _ k0).2.sl.gj (k:=.i64) hx;rw[q1,ae,q2,ae];refine av λD1 u1 C0 v1=>?_;refine aC du C0 rfl rfl (Un.cR ox) λo0 w1 D0 y1=>?_;have a0:Ext m2 o0:=⟨by omega,by grind⟩
   rw[HV (a0.cells z0),ae,HV (x:=x) D0,ae,cf];obtain⟨v2,m4,b4,hc,E1,F1,b1,E0⟩:=b0 (P.length+j) [a.v,x.v] o0 (by omega) (y0 j x hx) (hI _ _ _ k0 a0);refine aE hc ?_;have G1:o0.n<=m4.n:=hc.1;rcases E0 with⟨rfl,c1⟩ |⟨rfl,d1⟩
   ·rw[bj,ae,aj,ab7,aO,aQ,ae,wrap64 (by omega) (by omega)]
    have F0:m4.get m1.n=.cells a.c 60 none:=by have G0:=a0.cells z0;rw[b1 m1.n I0 (by omega) ⟨_,_,G0⟩,G0]
    exact⟨j+1,by omega,rfl,by omega,c1,by omega,F0,by omega,.inr (by omega)⟩
   rw[bj,ae,aj,acx,bL];exact .inr ⟨.inr (by omega),by omega,.inr d1⟩
  have H1:j=l.length-(i+1):=by
   have:¬(j:Int)< ((l.length-(i+1):Nat):Int):=by grind
   omega
  have p0:(P++(l.drop (i+1)).map λb=> [a.v,b.v]).length=P.length+j:=by grind
  rw[ae];refine⟨i+1,by omega,_,rfl,by omega,j0,by grind,by omega,by omega,A0,?_⟩;rcases l0 with⟨h1,h2,h3⟩ |h
  ·refine .inl ⟨h1,?_⟩;rw[<-adE,p0,h2,h3];rfl
  exact .inr h
 have g1:i=l.length:=by
  have:¬(i:Int)< (l.length:Int):=by grind
  omega
 subst g1;have i1:gI l=P:=by rw[hP,ael (aa4 _)];simp[gI]
 rw[i1];rcases e0 with⟨h1,h2⟩ |h
 ·subst h2;exact .inl ⟨rfl,by omega,by omega,.inl h0⟩
 exact .inr ⟨.inr h,by omega,.inl i0⟩
def mu:List UW->List (UW×UW)
 |[]=> []
 |a::r=>r.map (λb=>(a,b))++mu r
theorem uT:∀l:List UW,gI l=(mu l).map λp=> [p.1.v,p.2.v]
 |[]=>rfl
 |a::r=>by
  rw[FL,mu,abM,aeD,uT r]
  rfl
theorem yA:∀{l:List UW} {p:UW×UW},p∈mu l->p.1∈l/\p.2∈l/\∃(i j:Nat),i < j/\l[i]?=some p.1/\l[j]?=some p.2
 |[],p,h=>by cases h
 |a::r,p,h=>by
  rw[mu]at h
  rcases abC.1 h with h |h
  ·obtain⟨b,H,rfl⟩:=abQ.1 h
   have⟨j,hj⟩:=abx H
   exact⟨by simp,by grind,0,j+1,by omega,rfl,by grind⟩
  ·have⟨h1,h2,i,j,h3,h4,h5⟩:=yA h
   exact⟨by grind,by grind,i+1,j+1,by omega,by grind,by grind⟩
theorem JU:∀{l:List UW} (i j:Nat) (a b:UW),i < j->l[i]?=some a->l[j]?=some b->(a,b)∈mu l:=by
 intro l
 induction l with
 |nil=>intro i j a b _ ha;simp at ha
 |cons x r ih=>
  intro i j a b H ha hb
  rw[mu,abC]
  match i,j,H with
  |0,j+1,_=>
   grind
  |i+1,j+1,H=>exact .inr (ih i j a b (by omega) (by simpa using ha) (by simpa using hb))
theorem NH{l:List UW}{k:Nat}{args:aeN}(h:(gI l)[k]?=some args):∃p,(mu l)[k]?=some p/\args=[p.1.v,p.2.v]:=by
 rw[uT,ack]at h
 cases H:(mu l)[k]? with
 |none=>rw[H]at h;cases h
 |some p=>rw[H]at h;cases h;exact⟨p,rfl,rfl⟩
theorem NG(hX:cC X){v:aeM}(hv:cells v=[v]):∃m',C X (.func 196) [.agg #[v]] m m.n (.func (.func 236) #[] #[ptrTo m.n]) m'/\Ext m m'/\m'.n=m.n+1/\m'.get m.n=.cells [v] 30 none:=by
 have key:∃r m' b,C X (.func 196) [.agg #[v]] m b r m'/\b=m.n/\r=.func (.func 236) #[] #[ptrTo m.n]/\Ext m m'/\m'.n=m.n+1/\m'.get m.n=.cells [v] 30 none:=by refine Cl.heap (R:=λr m' b=>b=m.n/\r=.func (.func 236) #[] #[ptrTo m.n]/\Ext m m'/\m'.n=m.n+1/\m'.get m.n=.cells [v] 30 none) (hX.no _ rfl) (aa3 func196) rfl ?_;rw[ZP];dsimp only[ρ,υ];refine av λm1 H a0 b0=>?_;exact⟨.inl rfl,by omega,rfl,⟨by omega,b0⟩,H,a0⟩
 obtain⟨r,m',b,hc,rfl,rfl,h1,h2,h3⟩:=key;exact⟨m',hc,h1,h2,h3⟩
theorem sy{l:List UW}{v:aeM}(h:Sl m l v){i:Nat}{x:UW}(H:l[i]?=some x):∃a a0,an TE 28 v (aeP i)=some a/\af TE 60 a 0=some a0/\ah TE m 3 a0=some (aeP x.u.id):=by have⟨b,o,bc,g,cs,e1,hb,hr,_,hj⟩:=h.gM dF (k:=.i64) H;obtain⟨rfl,_⟩:=hr;refine⟨_,_,e1,bs,?_⟩;rw[bI,aI hb,hj 0 (by decide)];rfl
theorem P4{l:List UW}{i:Nat}{a b:UW}(H:l[i]?=some a)(hb:l[i+1]?=some b)(h:b.u.id<=a.u.id):¬cn (bP l):=λhf=>by
 have:=hf.xN i _ _ (ja H) (ja hb)
 omega
theorem LY{l:List UW}{a:UW}(H:a∈l)(h:jO a.u=false):¬cn (bP l):=λhf=>by
 have:=hf.val a.u (abQ.2 ⟨a,H,rfl⟩)
 grind
theorem EY{l:List UW}{i j:Nat}{a b:UW}(H:i < j)(ha:l[i]?=some a)(hb:l[j]?=some b)(h:iq a.u b.u):¬cn (bP l):=λhf=>by
 have:=hf.apart i j _ _ H (ja ha) (ja hb)
 grind
theorem AU(hX:cC X){l:List UW}{v:aeM}(h:dg m l v)(hlen:l.length < 1000000):C X (.func 152) [.agg #[v]] m m.n (.bool (fQ (bP l))) m:=by
 refine Cl.flat (hX.no _ rfl) (aa3 func152) rfl rfl ?_;rw[aah];dsimp only[δ,ε,ζ,η,ι,κ,ο,ρ,ς,υ,φ,χ,Γ,Δ,ψ];refine av λm1 y2 p1 z2=>?_;refine av λm2 A2 C0 u1=>?_;have e0:Ext m m2:=⟨by omega,by grind⟩
 have g1:m2.get m.n=.cells [v] 30 none:=by rw[u1 _ (by omega),p1];rfl
 have u0:∀mm:M,Ext m2 mm->ah TE mm 28 (aeK m.n (0+0))=some v:=λmm H=>by rw[eO,aI (H.cells g1)];rfl
 have D0:∀(mm:M) (lo:Nat),Ext m2 mm->m.n<=lo->¬cn (bP l)->aP (aD TE mm 4 (aeK m1.n 0) aeS) λm7 b8=>ai (ah TE m7 4 (aeK m1.n 0)) λv9=>bC [v9]=.bool (fQ (bP l))/\m.n<=min lo b8:=by intro mm lo H v1 hn;refine aC Fp (H.cells C0) rfl rfl rfl λm7 B2 w1 C2=>?_;rw[vg,aI w1];show ai (some (Value.bool false)) _;rw[ae,nU hn];exact⟨rfl,by omega⟩
 unfold ptrTo;rw[bO,ae,u0 m2 .refl,ae,(h.sl.aF e0).len dF,aA,bV,ae,aj];refine ak (λy1=>?_) (λhle=>?_)
 ·have y1:(12:Int)< l.length:=by grind
  exact D0 m2 m.n .refl (aa4 _) λhf=>by have:=hf.len;rw[cS]at this;omega
 have hle:¬(12:Int)< l.length:=by grind
 rw[ae,u0 m2 .refl,ae,(h.sl.aF e0).len dF,aA];refine Lp.intro (γ:=Nat) (λi=>l.length-i) (λi vs mm lo=>vs=[aeP i]/\i<=l.length/\Ext m2 mm/\m.n<=lo/\(∀j x,j < i->l[j]?=some x->jO x.u)/\(∀j a b,j+1 < i->l[j]?=some a->l[j+1]?=some b->a.u.id < b.u.id)) 0 ⟨rfl,abh _,.refl,aa4 _,λj x hj=>by omega,λj a b hj=>by omega⟩ ?_;rintro i vs mm lo ⟨rfl,hi,H,v1,j0,k0⟩;rw[aB,aM,ae,aj];have D2:=H.n;refine ak (λE0=>?_) (λE2=>?_)
 ·have E0:i < l.length:=by grind
  obtain⟨x,g0⟩:∃a,l[i]?=some a:=⟨_,aa5 E0⟩
  have v0:=abb g0;have F0:=h.sl.aF (e0.trans H);have⟨q,e1,e2,ow⟩:=F0.gj (k:=.i64) g0;rw[e1,ae,e2,ae];refine av λm22 N1 G0 O1=>?_;refine aC du G0 rfl rfl (Un.cR ow) λm23 P1 H0 T1=>?_;have d0:Ext mm m23:=⟨by omega,by grind⟩
  have g23:m23.get mm.n=.cells (x.u.c x.w) 60 none:=H0;have I0:=(e0.trans H).trans d0;refine aW (λvs m' lo=>∃bad,vs=[.bool bad]/\m23=m'/\m.n<=lo/\(bad->¬cn (bP l))/\(bad=false->jO x.u/\∀a,0 < i->l[i-1]?=some a->a.u.id < x.u.id)) (λR hR=>?_) ?_
  ·rw[bT g23,ae];refine aE (mI hX ((h.sh x v0).aF I0) (by have:=h.ln x v0;omega)) ?_;rw[bj,ae,aj];refine ak (λhb=>?_) (λhb=>?_);·exact hR _ _ _ ⟨true,rfl,rfl,by omega,λ_=>LY v0 (by grind),λh=>by cases h⟩
   have hb:jO x.u:=by grind
   rw[bV,ae,aj];refine ak (λhp=>?_) (λhp=>?_)
   ·have hp:0 < i:=by grind
    obtain⟨a,ha⟩:∃a,l[i-1]?=some a:=⟨_,aa5 (by omega)⟩
    obtain⟨l0, -⟩:=kU g23;have⟨q,q0,f1,f2,f3⟩:=sy (h.sl.aF I0) ha;rw[bs,ae,l0,ae,ae,u0 m23 (H.trans d0),ae,dD,ae,wrap64 (by omega) (by omega),show((i:Int)-1)=((i-1:Nat):Int) by omega,f1,ae,f2,ae,f3,ae,cp,ae];refine hR _ _ _ ⟨_,rfl,rfl,by omega,λhh=>?_,λhh=>⟨hb,λa' _ J0=>?_⟩⟩
    ·have hh:x.u.id<=a.u.id:=by grind
     exact P4 ha (by grind) hh
    rw[ha]at J0;cases J0;have hh:¬x.u.id<=a.u.id:=by grind
    omega
   have hp:¬0 < i:=by grind
   exact hR _ _ _ ⟨false,rfl,rfl,by omega,λh=>(by cases h),λ_=>⟨hb,λa h=>absurd h hp⟩⟩
  rintro _ _ z1 ⟨bad,rfl,rfl,n0,K0,y0⟩;rw[aB,aj];refine ak (λhb=>?_) (λhb=>?_);·exact D0 m23 z1 (H.trans d0) n0 (K0 hb)
  have⟨h1,h2⟩:=y0 hb;rw[aQ,ae,wrap64 (by omega) (by omega)];refine⟨i+1,by omega,rfl,by omega,H.trans d0,n0,λj y hj hy=>?_,λj a b hj ha z0=>?_⟩
  ·by_cases e:j=i;·subst e;rw[g0]at hy;cases hy;exact h1
   exact j0 j y (by omega) hy
  by_cases e:j+1=i;·subst e;rw[g0]at z0;cases z0;exact h2 a (by omega) (by grind)
  exact k0 j a b (by omega) ha z0
 have A1:i=l.length:=by
  grind
 subst A1;have B1:=H.cells g1;rw[ez,aN B1 (by simp)];show ai (some (Value.agg #[v])) _;rw[ae];have⟨a0,L0,o0,a2,b2⟩:=NG (m:=mm) hX h.sl.cells;refine aE L0 ?_;rw[cf];have b0:=(e0.trans H).trans o0;have gr:a0.get m1.n=.cells [aeS] 4 none:=o0.cells (H.cells C0)
 refine⟨_,gI l,_,λk m'=>a0.n<=m'.n/\(∀c,c < a0.n->m'.get c=a0.get c)/\∀k' p,k' < k->(mu l)[k']?=some p->iq p.1.u p.2.u=false,
  λe m'=>e=.ret/\m'.get m1.n=.cells [aeS] 4 none/\¬cn (bP l),m.n,⟨_,rfl⟩,JT hX (v:=v) (b:=mm.n) hlen,by omega,?_,?_,?_,⟨aa4 _,λ_ _=>rfl,λk' p hk=>by omega⟩,?_,?_,?_⟩
 ·rintro k m' ⟨h1,h2,h3⟩;have he:Ext a0 m':=⟨h1,h2⟩
  exact⟨by grind,(h.aF b0).aF he⟩
 ·rintro k m' C1 ⟨h1,h2,h3⟩ hk;exact⟨by have:=hk.n;omega,λc hc=>by rw[hk.get c (by omega) (by omega),h2 c hc],h3⟩
 ·rintro e m' C1 ⟨h1,h2,h3⟩ hk;have:=M.bk h2;exact⟨h1,by rw[hk.get _ this (by omega),h2],h3⟩
 ·rintro k args h0 c2 D1 ⟨h1,h2,h3⟩;obtain⟨⟨a,b⟩,hp,rfl⟩:=NH D1;have⟨ha,hb,i',j',E1,F1,G1⟩:=yA (abb hp);have N0:Ext a0 h0:=⟨h1,h2⟩
  have hF:=(h.aF b0).aF N0;have oa:one a.w:=(hF.sh a ha).one;have ob:one b.w:=(hF.sh b hb).one;rw[aB,aB];show IW [] _;unfold IW;refine av λF2 d2 O0 g2=>?_;refine aC du O0 rfl rfl (Un.cR oa) λH1 i2 Q0 j2=>?_;refine av λm64 k2 a1 b1=>?_;refine aC du a1 rfl rfl (Un.cR ob) λI1 l2 c1 d1=>?_;have fR:∀c,c < h0.n->I1.get c=h0.get c:=by grind
  refine⟨λc _ hc=>fR c hc,λi0 o2 p0=>?_⟩;dsimp only;have r1:i0.get h0.n=.cells (a.u.c a.w) 60 none:=by rw[p0 _ (by omega),d1 _ (by omega),b1 _ (by omega),Q0];rfl
  have r2:i0.get H1.n=.cells (b.u.c b.w) 60 none:=by rw[p0 _ (by omega),c1];rfl
  have i1:∀c,c < a0.n->i0.get c=a0.get c:=by grind
  have r0:Ext a0 i0:=⟨by omega,i1⟩
  have s0:=(h.aF b0).aF r0;rw[bT r1,ae,bT r2,ae];refine aE (Dn hX (s0.sh a ha) (s0.sh b hb) (by have:=h.ln a ha;omega) (by have:=h.ln b hb;omega)) ?_;rw[aj];refine ak (λho=>?_) (λho=>?_)
  ·refine aC Fp (r0.cells gr) rfl rfl rfl λG2 u2 j1 k1=>?_;exact⟨by omega,λc H2 I2 _=>k1 c (by omega),rfl,j1,EY E1 F1 G1 ho⟩
  refine⟨by omega,λc _ _ _=>rfl,by omega,i1,λk' p A0 B0=>?_⟩;by_cases e:k'=k;·subst e;rw[hp]at B0;cases B0;exact ho
  exact h3 k' p (by omega) B0
 ·rintro m' fS ⟨h1,h2,h3⟩ l1;have J1:m'.get m1.n=.cells [aeS] 4 none:=by grind
  refine aC Fp J1 rfl rfl rfl λJ2 v2 o1 w2=>?_;rw[vg,aI o1];show ai (some (Value.bool true)) _;rw[ae];refine⟨?_,by omega⟩;rw[fH];·rfl
  refine⟨by rw[cS];omega,λu hu=>?_,λi a b ha hb=>?_,λi k a b K1 ha hb=>?_⟩
  ·obtain⟨x,H,rfl⟩:=By hu;have⟨j,hj⟩:=abx H;exact j0 j x (aa9.1 hj).1 hj
  ·obtain⟨x,H,rfl⟩:=oR ha;obtain⟨y,hy,rfl⟩:=oR hb;exact k0 i x y (aa9.1 hy).1 H hy
  obtain⟨x,H,rfl⟩:=oR ha;obtain⟨y,hy,rfl⟩:=oR hb;have:=JU i k x y K1 H hy;have⟨k',A0⟩:=abx this;have L1:=(aa9.1 A0).1;exact h3 k' (x,y) (by rw[uT,abH];exact L1) A0
 rintro e m' fS K2 ⟨rfl,h2,h3⟩ l1;refine⟨_,abE.2 rfl,rfl,?_⟩;dsimp only;rw[vg,aI h2];show ai (some (Value.bool false)) _;rw[ae,nU h3];exact⟨rfl,by omega⟩
theorem kX(hX:cC X){l:List UW}{v:aeM}(h:dg m l v)(hlen:l.length < 1000000):C X (.func 128) [.agg #[v]] m m.n (.bool (fQ (bP l))) m:=by
 refine Cl.flat (hX.no _ rfl) (aa3 func128) rfl rfl ?_;rw[aat];dsimp only[δ,ε,ζ,η,κ,ο,ρ,υ,φ,χ];refine av λm1 b1 B0 C0=>?_;have D0:Ext m m1:=⟨by omega,C0⟩
 have g1:m1.get m.n=.cells [v] 30 none:=B0;have a0:ah TE m1 28 (aeK m.n (0+0))=some v:=by rw[eO,aI g1];rfl
 have h1:=h.aF D0;unfold ptrTo;rw[bO,ae,a0,ae,h1.sl.len dF,aA,bV,ae,aj];refine ak (λE0=>?_) (λhle=>?_)
 ·have E0:(12:Int)< l.length:=by grind
  refine⟨?_,aa4 _⟩;rw[nU λhf=>by have:=hf.len;rw[cS]at this;omega];rfl
 have hle:¬(12:Int)< l.length:=by grind
 have o0:∀(lo:Nat),m.n<=lo->¬cn (bP l)->bC [Value.bool false]=.bool (fQ (bP l))/\m.n<=lo:=λlo l0 hn=>⟨by rw[nU hn];rfl,l0⟩
 refine Lp.intro (γ:=Nat) (λi=>l.length-i) (λi vs mm lo=>vs=[aeS,aeP i]/\i<=l.length/\m1=mm/\m.n<=lo/\(∀j x,j < i->l[j]?=some x->jO x.u)/\(∀j a b,j+1 < i->l[j]?=some a->l[j+1]?=some b->a.u.id < b.u.id)/\(∀j k a b,k < i->j < k->l[j]?=some a->l[k]?=some b->iq a.u b.u=false)) 0 ⟨rfl,abh _,rfl,aa4 _,λj x hj=>by omega,λj a b hj=>by omega,λj k a b hk=>by omega⟩ ?_;rintro i vs mm lo ⟨rfl,hi,rfl,l0,h0,i0,p0⟩;rw[aB,aB,ae,a0,ae,h1.sl.len dF,aA,aM,ae,aj];refine ak (λr0=>?_) (λc1=>?_)
 ·have r0:i < l.length:=by grind
  obtain⟨x,b0⟩:∃a,l[i]?=some a:=⟨_,aa5 r0⟩
  have e0:=abb b0;have⟨q,e1,e2,ow⟩:=h1.sl.gj (k:=.i64) b0;refine aW (λvs m' lo=>∃bad,vs=[.bool bad]/\m1=m'/\m.n<=lo/\(bad->¬cn (bP l))/\(bad=false->jO x.u/\∀a,0 < i->l[i-1]?=some a->a.u.id < x.u.id)) (λR hR=>?_) ?_
  ·rw[ae,a0,ae,e1,ae,e2,ae];refine aE (je hX (u:=x.u) (w:=x.w) (h1.sh x e0) (by have:=h.ln x e0;omega)) ?_;rw[bj,ae,aj];refine ak (λhb=>?_) (λhb=>?_);·exact hR _ _ _ ⟨true,rfl,rfl,by omega,λ_=>LY e0 (by grind),λh=>by cases h⟩
   have hb:jO x.u:=by grind
   rw[bV,ae,aj];refine ak (λhp=>?_) (λhp=>?_)
   ·have hp:0 < i:=by grind
    obtain⟨a,H⟩:∃a,l[i-1]?=some a:=⟨_,aa5 (by omega)⟩
    have⟨q,q0,f1,f2,f3⟩:=sy h1.sl H;have⟨q',d1,F0,G0,H0⟩:=sy h1.sl b0;rw[ae,a0,ae,F0,ae,G0,ae,H0,ae,ae,a0,ae,dD,ae,wrap64 (by omega) (by omega),show((i:Int)-1)=((i-1:Nat):Int) by omega,f1,ae,f2,ae,f3,ae,cp,ae];refine hR _ _ _ ⟨_,rfl,rfl,by omega,λhh=>?_,λhh=>⟨hb,λa' _ s0=>?_⟩⟩
    ·have hh:x.u.id<=a.u.id:=by grind
     exact P4 H (by grind) hh
    rw[H]at s0;cases s0;have hh:¬x.u.id<=a.u.id:=by grind
    omega
   have hp:¬0 < i:=by grind
   exact hR _ _ _ ⟨false,rfl,rfl,by omega,λh=>(by cases h),λ_=>⟨hb,λa h=>absurd h hp⟩⟩
  rintro _ _ I0 ⟨bad,rfl,rfl,j0,u0,n0⟩;rw[aB,aj];refine ak (λhb=>o0 I0 j0 (u0 hb)) (λhb=>?_);have⟨J0,K0⟩:=n0 hb;refine Lp.intro (γ:=Nat) (λk=>i-k) (λk vs mm lo=>vs=[aeS,aeP k]/\k<=i/\m1=mm/\m.n<=lo/\∀j a,j < k->l[j]?=some a->iq a.u x.u=false) 0 ⟨rfl,abh _,rfl,j0,λj a hj=>by omega⟩ ?_;rintro k vs mm fS ⟨rfl,hk,rfl,v0,y0⟩;rw[aB,aB,aM,ae,aj];refine ak (λk0=>?_) (λa1=>?_)
  ·have k0:k < i:=by grind
   obtain⟨y,g0⟩:∃a,l[k]?=some a:=⟨_,aa5 (by omega)⟩
   have z0:=abb g0;have⟨q',L0,N0,_⟩:=h1.sl.gj (k:=.i64) g0;rw[ae,a0,ae,e1,ae,e2,ae,ae,a0,ae,L0,ae,N0,ae];refine aE (BP hX (a:=x.u) (va:=x.w) (b:=y.u) (vb:=y.w) (h1.sh x e0) (h1.sh y z0) (by have:=h.ln x e0;omega) (by have:=h.ln y z0;omega)) ?_;rw[aj];refine ak (λho=>?_) (λho=>?_);·exact o0 _ (by omega) (EY k0 g0 b0 (by rw[nG];exact ho))
   rw[aQ,ae,wrap64 (by omega) (by omega)];refine⟨k+1,by omega,rfl,by omega,rfl,by omega,λj a hj H=>?_⟩;by_cases e:j=k;·subst e;rw[g0]at H;cases H;rw[nG];exact ho
   exact y0 j a (by omega) H
  have A0:k=i:=by
   grind
  subst A0;rw[aQ,ae,wrap64 (by omega) (by omega)];refine⟨k+1,by omega,rfl,by omega,rfl,v0,λj y hj hy=>?_,λj a b hj H d0=>?_,λj k' a b A0 hj H d0=>?_⟩
  ·by_cases e:j=k;·subst e;rw[b0]at hy;cases hy;exact J0
   exact h0 j y (by omega) hy
  ·by_cases e:j+1=k;·subst e;rw[b0]at d0;cases d0;exact K0 a (by omega) (by grind)
   exact i0 j a b (by omega) H d0
  by_cases e:k'=k;·subst e;rw[b0]at d0;cases d0;exact y0 j a hj H
  exact p0 j k' a b (by omega) hj H d0
 have O0:i=l.length:=by
  grind
 subst O0;refine⟨?_,l0⟩;rw[fH];·rfl
 refine⟨by rw[cS];omega,λu hu=>?_,λi a b H hb=>?_,λi k a b Q0 H hb=>?_⟩
 ·obtain⟨x,hx,rfl⟩:=By hu;have⟨j,hj⟩:=abx hx;exact h0 j x (aa9.1 hj).1 hj
 ·obtain⟨x,hx,rfl⟩:=oR H;obtain⟨y,hy,rfl⟩:=oR hb;exact i0 i x y (aa9.1 hy).1 hx hy
 obtain⟨x,hx,rfl⟩:=oR H;obtain⟨y,hy,rfl⟩:=oR hb;exact p0 i k x y (aa9.1 hy).1 Q0 hx hy
theorem mn(x:Int):lN (IntKind.i64.wrap x):=by
 have h:=Hg x
 unfold wr at h
 unfold lN
 grind
theorem ed(H:cC X){c n:Int}(hc:lN c)(hn:0 < n):C X (.func 127) [aeP c,aeP n] m m.n (aeP (dR c n)) m:=by refine Cl.flat (H.no _ rfl) (aa3 func127) rfl rfl ?_;rw[aau];dsimp only[η,ο,φ];exact mS hc hn (P:=λv=>bC [v]=aeP (dR c n)/\m.n<=m.n) ⟨rfl,aa4 _⟩
theorem Bk(hX:cC X){u:Un}{w:aeM}(hw:Sl m u.shape w)(hl:u.shape.length < 1000000):
  ∃w' m',C X (.func 219) [u.v w] m m.n (u.v w') m'/\Ext m m'/\Sl m' u.shape w':=by
 have key:∃r m' b,C X (.func 219) [u.v w] m b r m'/\b=m.n/\∃w',r=u.v w'/\Ext m m'/\Sl m' u.shape w':=by
  refine Cl.heap (R:=λr m' b=>b=m.n/\∃w',r=u.v w'/\Ext m m'/\Sl m' u.shape w') (hX.no _ rfl) (aa3 func219) rfl ?_;rw[ZJ];dsimp only[δ,ε,ι,κ,ν,ρ,ς,υ,φ,ω];refine av λm1 y0 r0 z0=>?_;refine av λm2 A0 j0 B0=>?_;simp only[aT]at r0;have k0:Ext m m2:=⟨by omega,by grind⟩
  have g1:m2.get m.n=.cells (u.c w) 60 none:=by grind
  unfold ptrTo;rw[pX,aA];have a0:Ext m2 (m2.push (.cells [] 141 none)):=Ext.refl.push;generalize l0:m2.push (.cells [] 141 none)=m4 at*;have n0:m4.get m2.n=.cells [] 141 none:=by rw[<-l0];exact M.aU
  have C0:m4.n=m2.n+1:=by rw[<-l0];rfl
  have g14:=a0.cells g1;obtain⟨-, -, -,l3, -, -⟩:=kU g14;rw[bH,ae,l3,ae]
  obtain⟨v7,m8,ha,H,b0,D0,s0⟩:∃v' m1,aw TE (m4.wl m4.n) .append [58,58] [aeL m2.n 0 0 0,w]=some (v',m1)/\Sl m1 u.shape v'/\Ext m4 m1/\m1.low=m4.n/\∃a n c,v'=.slice (some a) n c:=by
   have i0:=(hw.aF k0).aF a0;by_cases he:u.shape=[]
   ·rw[he]at i0⊢
    obtain⟨a,c,rfl⟩:=i0.form
    refine⟨aeL m2.n 0 0 0,m4.wl m4.n,?_,.inr ⟨m2.n,0,0,[],none,rfl,n0,by simp,by grind⟩,⟨aa4 _,λ_ _=>rfl⟩,rfl,_,_,_,rfl⟩
    cases a with
    |none=>kernel_rfl
    |some a=>kernel_rfl
   obtain⟨v',m1,h1,h2,h3,h4⟩:=qc zC n0 i0 he (by omega);have⟨a,c,hv⟩:=h2.sl.form;refine⟨v',m1,h1,h2.sl,h3,h4,?_⟩;rcases h2 with⟨_,h⟩ |⟨b,cs,rfl,_⟩;·exact absurd h he
   exact⟨_,_,_,rfl⟩
  rw[ha,aA,ae];have n8:=b0.n;have g18:=b0.cells g14;have o7:one v7:=H.one;refine cg Dr g18 (by rw[H.cells];rfl) (by rw[H.cells];simp) (by rw[H.cells];simp[o7]) λm10 u0 d0 e0=>?_;have d0:m10.get m.n=.cells (u.c v7) 60 none:=by rw[d0,H.cells];rfl
  rw[bT d0,ae];have o0:m10.get m1.n=.cells Un.zc 60 none:=by rw[e0 _ (by omega),b0.get _ (by omega),a0.get _ (by omega),j0]
  refine aC du o0 rfl rfl (Un.cR o7) λm13 v0 g0 h0=>?_;have g0:m13.get m1.n=.cells (u.c v7) 60 none:=g0;rw[bT g0,ae];obtain⟨a,n,c,rfl⟩:=s0;refine⟨.inl ?_,by omega,_,rfl,⟨by omega,λb hb=>by rw[h0 b (by omega),e0 b (by omega),b0.get b (by omega),a0.get b (by omega),k0.get b hb]⟩,?_⟩
  ·show bB (u.v (.slice (some a) n c))=false;simp[bB,dG,bF]
  refine H.aY λb cs t g hb ht=>?_
  have p0:b≠m.n:=by rintro rfl;rw[g18]at hb;cases hb;revert ht;decide
  have q0:b≠m1.n:=by rintro rfl;rw[b0.get _ (by omega),a0.get _ (by omega),j0]at hb;cases hb;revert ht;decide
  rw[h0 b q0,e0 b p0,hb]
 obtain⟨r,m',b,hc,rfl,w',rfl,h1,h2⟩:=key;exact⟨w',m',hc,h1,h2⟩
theorem RK{b o:Nat}{k:IntKind}{i:Nat}(hi:i < 6):an TE 89 (aeK b o) (.int k i)=some (aeK b (o+i)):=by rcases(show i=0\/i=1\/i=2\/i=3\/i=4\/i=5 by omega)with rfl |rfl |rfl |rfl |rfl |rfl <;>kernel_rfl
theorem GQ(hX:cC X){R:aeN->M->Nat->Prop}{b6 rc lo0:Nat}{mm:M}{w:aeM}{d0:List Pl}{n i0 i1 i2 i3 i4 i5:Int}(hb:mm.get b6=.cells [aeP i0,aeP i1,aeP i2,aeP i3,aeP i4,aeP i5] 89 none)
  (hr:mm.get rc=.cells Un.zc 60 none) (hw:Sl mm d0 w) (hn:lN n) (h5:lN i5)
  (hR:∀(u:Un) (m':M) (lo:Nat),u.shape=d0->mm.n=m'.n->m'.get rc=.cells (u.c w) 60 none->(∀c,c≠rc->m'.get c=mm.get c)->min lo0 (min rc mm.n)<=lo->R [u.v w] m' lo):
  (ai (an TE 89 (aeK b6 0) (aeP 5)) λv0=>(ai (ah TE mm 3 v0) λy0=>(bh TE X (.func 127) [y0,aeP 4] mm λz0 H g0=>(ai (az TE .eql 3 z0 (aeP 3)) λA0=>(aR A0
(ai (an TE 89 (aeK b6 0) (aeP 5)) λB0=>(ai (ah TE H 3 B0) λC0=>(ai (az TE .quo 3 C0 (aeP 4)) λD0=>(bh TE X (.func 127) [D0,aeP 4] H λh0 j0 E0=>(ai (az TE .add 3 h0 (aeP 1)) λF0=>(ai (an TE 89 (aeK b6 0) (aeP 5)) λG0=>(ai (ah TE j0 3 G0) λH0=>(ai (az TE .quo 3 H0 (aeP 16)) λI0=>(bh TE X (.func 127) [I0,aeP 4] j0 λJ0 k0 K0=>(ai (az TE .add 3 F0 J0) λL0=>(bh TE X (.func 127) [aeP n,aeP 100] k0 λN0 a0 l0=>((M.n k0<=l0)/\(ai (an TE 89 (aeK b6 0) (aeP 5)) λO0=>(ai (ah TE a0 3 O0) λQ0=>(ai (az TE .quo 3 Q0 (aeP 64)) λa1=>(bh TE X (.func 127) [a1,aeP 8] a0 λb1 n0 o0=>((M.n a0<=o0)/\(ai (az TE .add 3 (aeP 1) b1) λc1=>(ai (an TE 89 (aeK b6 0) (aeP 5)) λd1=>(ai (ah TE n0 3 d1) λe1=>(ai (az TE .quo 3 e1 (aeP 512)) λg1=>(bh TE X (.func 127) [g1,aeP 8] n0 λh1 j1 k1=>(ai (aJ TE 60 [(0,N0),(1,c1),(2,h1),(3,w),(4,h0),(5,L0)]) λl1=>(aP (aD TE j1 60 (aeK rc 0) l1) λp0 o1=>(ai (ah TE p0 60 (aeK rc 0)) λp1=>(R [p1] p0 (min (min (min (min (min (min (min lo0 g0) E0) K0) l0) o0) k1) o1)))))))))))))))))))))))))))
(bh TE X (.func 127) [aeP n,aeP 100] H λr1 b0 q0=>((M.n H<=q0)/\(ai (an TE 89 (aeK b6 0) (aeP 5)) λu1=>(ai (ah TE b0 3 u1) λv1=>(ai (az TE .quo 3 v1 (aeP 64)) λw1=>(bh TE X (.func 127) [w1,aeP 8] b0 λy1 r0 s0=>((M.n b0<=s0)/\(ai (az TE .add 3 (aeP 1) y1) λz1=>(ai (an TE 89 (aeK b6 0) (aeP 5)) λA1=>(ai (ah TE r0 3 A1) λB1=>(ai (az TE .quo 3 B1 (aeP 512)) λC1=>(bh TE X (.func 127) [C1,aeP 8] r0 λD1 E1 F1=>(ai (aJ TE 60 [(0,r1),(1,z1),(2,D1),(3,w),(4,(aeP 0)),(5,(aeP 4))]) λG1=>(aP (aD TE E1 60 (aeK rc 0) G1) λu0 H1=>(ai (ah TE u0 60 (aeK rc 0)) λI1=>(R [I1] u0 (min (min (min (min (min lo0 g0) q0) s0) F1) H1)))))))))))))))))))))):=by
 have e5:an TE 89 (aeK b6 0) (aeP 5)=some (aeK b6 5):=RK (i:=5) (by decide);have l5:ah TE mm 3 (aeK b6 5)=some (aeP i5):=by rw[bI,aI hb];rfl
 have ow:one w:=hw.one
 have J1:∀a b c d e:Int,aJ TE 60 [(0,aeP a),(1,aeP b),(2,aeP c),(3,w),(4,aeP d),(5,aeP e)]=some (Un.v ⟨a,b,c,d0,d,e⟩ w):=λa b c d e=>by have:=pW (x0:=aeP a) (x1:=aeP b) (x2:=aeP c) (x3:=w) (x4:=aeP d) (x5:=aeP e) rfl rfl rfl (by rw[hw.cells];rfl) rfl rfl;rw[this,hw.cells];rfl
 have fin:∀(u:Un) (lo:Nat),u.shape=d0->min lo0 mm.n<=lo->aP (aD TE mm 60 (aeK rc 0) (u.v w)) λm' b=>ai (ah TE m' 60 (aeK rc 0)) λv=>R [v] m' (min lo b):=λu lo hu N1=>by refine aC du hr rfl rfl (Un.cR ow) λm' K1 e0 L1=>?_;have e0:m'.get rc=.cells (u.c w) 60 none:=e0;rw[bT e0,ae];exact hR u m' _ hu K1.symm e0 L1 (by omega)
 rw[e5,ae,l5,ae];refine aE (ed hX h5 (by decide)) ?_;rw[aS,ae,aj];refine ak (λ_=>?_) (λ_=>?_)
 ·rw[ae,l5,ae,kB (by decide),ae];refine aE (ed hX (mn _) (by decide)) ?_;rw[aQ,ae,ae,l5,ae,kB (by decide),ae];refine aE (ed hX (mn _) (by decide)) ?_;rw[aQ,ae];refine aE (ed hX hn (by decide)) ⟨aa4 _,?_⟩;rw[ae,l5,ae,kB (by decide),ae];refine aE (ed hX (mn _) (by decide)) ⟨aa4 _,?_⟩;rw[aQ,ae,ae,l5,ae,kB (by decide),ae];refine aE (ed hX (mn _) (by decide)) ?_;rw[J1,ae];exact fin _ _ rfl (by omega)
 refine aE (ed hX hn (by decide)) ⟨aa4 _,?_⟩;rw[ae,l5,ae,kB (by decide),ae];refine aE (ed hX (mn _) (by decide)) ⟨aa4 _,?_⟩;rw[aQ,ae,ae,l5,ae,kB (by decide),ae];refine aE (ed hX (mn _) (by decide)) ?_;rw[J1,ae];exact fin _ _ rfl (by omega)
theorem xD{b:Nat}{L:List Pl}{i:Nat}{p:Pl}{g:Option Nat}{x:Int}{P:M->Nat->Prop}(h:m.get b=.cells (xH L) 141 g)(hi:L[i]?=some p)
  (H:∀m1,m1.n=m.n->m1.get b=.cells (xH (L.set i ⟨x,p.y⟩)) 141 g->(∀c,c≠b->m1.get c=m.get c)->P m1 b):aP (aD TE m 3 (aeK b (i*2+0)) (aeP x)) P:=by have a0:=(aa9.1 hi).1;have hl:=sX L;refine cg uz h rfl (by rw[hl];show i*2+0+1<=_;omega) rfl λm1 h1 h2 h3=>H m1 h1 ?_ h3;rw[h2,acY,show i*2+(cells (Value.int .i64 x)).length=i*2+1 from rfl];have:=kG (cs:=xH L) (i:=i*2) (x:=Value.int .i64 x) (by grind);rw[show cells (Value.int .i64 x)=[Value.int .i64 x]from rfl,this,DK x hi]
theorem EO(hX:cC X){n i0 i1 i2 i3 i4 i5:Int}(hn:lN n)(h0:lN i0)(h1:lN i1)(h2:lN i2)(h3:lN i3)(h4:lN i4)(h5:lN i5):
  ∃(u:Un) (w:aeM) (m':M),C X (.func 67) [aeP n,.agg #[aeP i0,aeP i1,aeP i2,aeP i3,aeP i4,aeP i5]] m m.n (u.v w) m'/\Ext m m'/\Sl m' u.shape w/\u.shape.length<=4:=by
 have key:∃r m' b,C X (.func 67) [aeP n,.agg #[aeP i0,aeP i1,aeP i2,aeP i3,aeP i4,aeP i5]] m b r m'/\b=m.n/\∃(u:Un) (w:aeM),r=u.v w/\Ext m m'/\Sl m' u.shape w/\u.shape.length<=4:=by
  refine Cl.heap (R:=λr m' b=>b=m.n/\∃(u:Un) (w:aeM),r=u.v w/\Ext m m'/\Sl m' u.shape w/\u.shape.length<=4) (hX.no _ rfl) (aa3 func67) rfl ?_;rw[F67];dsimp only[δ,ε,ζ,η,θ,ι,κ,ν,ρ,ς,υ,φ,χ,aaM,aaN,Ψ];refine av λm1 r1 H0 I0=>?_;refine av λm2 u1 J0 v0=>?_;have K0:Ext m m2:=⟨by omega,λc hc=>by rw[v0 c (by omega),I0 c hc]⟩
  have g1:m2.get m.n=.cells [aeP i0,aeP i1,aeP i2,aeP i3,aeP i4,aeP i5] 89 none:=by rw[v0 _ (by omega)];exact H0
  unfold ptrTo
  have ld:∀{mm:M} {i:Nat} {x:Int},Ext m2 mm->[i0,i1,i2,i3,i4,i5][i]?=some x->an TE 89 (aeK m.n 0) (aeP i)=some (aeK m.n i)/\ah TE mm 3 (aeK m.n i)=some (aeP x):=λ{mm i x} hx hi=>by
   have z0:=(aa9.1 hi).1;refine⟨by have:=RK (b:=m.n) (o:=0) (k:=.i64) (i:=i) z0;rwa[abV]at this,?_⟩
   have hc:[Value.int .i64 i0,aeP i1,aeP i2,aeP i3,aeP i4,aeP i5][i]?=some (aeP x):=by
    have:([i0,i1,i2,i3,i4,i5].map (Value.int .i64))[i]?=some (aeP x):=by rw[ack,hi];rfl
    exact this
   rw[bI,aI (hx.cells g1),hc]
  have L0:an TE 89 (aeK m.n 0) (aeP 0)=some (aeK m.n 0):=(@ld m2 0 i0 .refl rfl).1;have N0:=(@ld m2 0 i0 .refl rfl).2;have O0:an TE 89 (aeK m.n 0) (aeP 1)=some (aeK m.n 1):=(@ld m2 1 i1 .refl rfl).1;have Q0:=(@ld m2 1 i1 .refl rfl).2;have a1:an TE 89 (aeK m.n 0) (aeP 2)=some (aeK m.n 2):=(@ld m2 2 i2 .refl rfl).1;have b1:=(@ld m2 2 i2 .refl rfl).2;have c1:an TE 89 (aeK m.n 0) (aeP 3)=some (aeK m.n 3):=(@ld m2 3 i3 .refl rfl).1;have d1:=(@ld m2 3 i3 .refl rfl).2;rw[L0,ae,N0,ae];refine aE (ed hX h0 (by decide)) ?_;rw[gE,ae];rw[O0,ae,Q0,ae];refine aE (ed hX h1 (by decide)) ?_;rw[gE,ae];rw[a1,ae,b1,ae];refine aE (ed hX h2 (by decide)) ?_;rw[aQ,ae,gE,ae,aQ,ae,ko,aA];rw[c1,ae,d1,ae];refine aE (ed hX h3 (by decide)) ?_
  rw[aQ,ae,gE,ae,aQ,ae];generalize IntKind.i64.wrap (4*dR i0 9)=x0;generalize IntKind.i64.wrap (4*dR i1 6)=y0;generalize min (IntKind.i64.wrap _) (40:Int)=x1;generalize IntKind.i64.wrap (y0+_)=y1;have bp:∀a b:Int,aJ TE 141 [(0,aeP a),(1,aeP b)]=some (Pl.v ⟨a,b⟩):=λa b=>mE rfl rfl;rw[bp,ae,bp,ae,bp,ae,bp,ae];obtain⟨L,hL⟩:∃L:List Pl,L=[⟨x0,y0⟩,⟨x1,y0⟩,⟨x1,y1⟩,⟨x0,y1⟩]:=⟨_,rfl⟩
  have e1:aG TE m2 58 4 [(0,Pl.v ⟨x0,y0⟩),(1,Pl.v ⟨x1,y0⟩),(2,Pl.v ⟨x1,y1⟩),(3,Pl.v ⟨x0,y1⟩)]=some (aeL m2.n 0 4 4,m2.push (.cells (xH L) 141 none)):=by rw[hL];kernel_rfl
  rw[e1,aA];have e0:Ext m2 (m2.push (.cells (xH L) 141 none)):=Ext.refl.push;generalize q0:m2.push (.cells (xH L) 141 none)=H at*;have b0:H.get m2.n=.cells (xH L) 141 none:=by rw[<-q0];exact M.aU
  have o1:H.n=m2.n+1:=by rw[<-q0];rfl
  have j1:an TE 89 (aeK m.n 0) (aeP 4)=some (aeK m.n 4):=(@ld H 4 i4 e0 rfl).1;have k1:=(@ld H 4 i4 e0 rfl).2;rw[j1,ae,k1,ae];refine aE (ed hX h4 (by decide)) ?_;have gz:H.get m1.n=.cells Un.zc 60 none:=by rw[e0.get _ (by omega),J0]
  have A0:m1.n≠m2.n:=by omega
  have fin:∀(mm:M) (lo0:Nat) (w:aeM) (d0:List Pl),(∀c,c≠m2.n->c < H.n->mm.get c=H.get c)->H.n<=mm.n->m.n<=lo0->Sl mm d0 w->d0.length<=4->(∃a n c,w=.slice (some a) n c)->mm.get m.n=.cells [aeP i0,aeP i1,aeP i2,aeP i3,aeP i4,aeP i5] 89 none/\mm.get m1.n=.cells Un.zc 60 none/\
    ∀(u:Un) (m':M) (lo:Nat),u.shape=d0->mm.n=m'.n->m'.get m1.n=.cells (u.c w) 60 none->(∀c,c≠m1.n->m'.get c=mm.get c)->min lo0 (min m1.n mm.n)<=lo->(bB (bC [u.v w])=false\/lo < m.n)/\min m.n lo=m.n/\∃(u':Un) (w':aeM),bC [u.v w]=u'.v w'/\Ext m m'/\Sl m' u'.shape w'/\u'.shape.length<=4:=by
   intro mm lo0 w d0 hk v1 w1 hs hl hw
   refine⟨by rw[hk _ (by omega) (by omega),e0.get _ (by omega),g1],by rw[hk _ A0 (by omega),gz],λu m' lo hu z1 hg B0 p1=>⟨.inl ?_,by omega,u,w,rfl,⟨by omega,λc hc=>by rw[B0 c (by omega),hk c (by omega) (by omega),e0.get c (by omega),K0.get c hc]⟩,?_,by rw[hu];exact hl⟩⟩
   ·obtain⟨a,k,c,rfl⟩:=hw;show bB (u.v (.slice (some a) k c))=false;simp[bB,dG,bF]
   ·rw[hu];refine hs.aY λb cs t g hb ht=>?_;by_cases e:b=m1.n
    ·subst e;rw[hk _ A0 (by omega),gz]at hb;cases hb;exact absurd ht (by decide)
    rw[B0 b e,hb]
  have g0:∀{mm:M} {L':List Pl},mm.get m2.n=.cells (xH L') 141 none->L'.length=4->Sl mm L' (aeL m2.n 0 4 4):=λ{mm L'} h hl=>by have:=Nb (c:=4) h;rwa[hl]at this
  have p0:∀i,i < 4->an TE 58 (aeL m2.n 0 4 4) (aeP (i:Nat))=some (aeK m2.n (i*2)):=λi hi=>Ug hi;have r0:an TE 58 (aeL m2.n 0 4 4) (aeP 0)=some (aeK m2.n (0*2)):=p0 0 (by decide);have C0:an TE 58 (aeL m2.n 0 4 4) (aeP 1)=some (aeK m2.n (1*2)):=p0 1 (by decide);have s0:an TE 58 (aeL m2.n 0 4 4) (aeP 2)=some (aeK m2.n (2*2)):=p0 2 (by decide);have D0:an TE 58 (aeL m2.n 0 4 4) (aeP 3)=some (aeK m2.n (3*2)):=p0 3 (by decide)
  have tail:∀(mm:M) (lo0:Nat) (w:aeM) (d0:List Pl),(∀c,c≠m2.n->c < H.n->mm.get c=H.get c)->H.n<=mm.n->m.n<=lo0->Sl mm d0 w->d0.length<=4->(∃a n c,w=.slice (some a) n c)->_:=λmm lo0 w d0 a b c d e f=>by have⟨f1,f2,f3⟩:=fin mm lo0 w d0 a b c d e f;exact GQ hX (R:=λvs m' lo=>(bB (bC vs)=false\/lo < m.n)/\min m.n lo=m.n/\∃(u:Un) (w:aeM),bC vs=u.v w/\Ext m m'/\Sl m' u.shape w/\u.shape.length<=4) (lo0:=lo0) f1 f2 d hn h5 f3
  have j0:∀{mm:M} {L':List Pl} {i:Nat} {p:Pl},mm.get m2.n=.cells (xH L') 141 none->L'[i]?=some p->ah TE mm 141 (aeK m2.n (i*2))=some p.v:=λ{mm L' i p} h hi=>by have z0:=(aa9.1 hi).1;rw[lh,aN h (by rw[sX];omega)];have:=AB hi;unfold chunk at this;rw[this];rfl
  rw[aS,ae,aj];refine ak (λ_=>?_) (λ_=>?_)
  ·rw[dD,ae,s0,ae,bY,ae];refine xD (L:=L) (i:=2) (p:=⟨x1,y1⟩) b0 (by rw[hL];rfl) λl1 E0 k0 l0=>?_;rw[aQ,ae,D0,ae,bY,ae];refine xD (i:=3) (p:=⟨x0,y1⟩) k0 (by rw[hL];rfl) λu0 F0 n0 o0=>?_;exact tail u0 _ _ _ (λc h _=>by rw[o0 c h,l0 c h]) (by omega) (by omega) (g0 n0 (by rw[hL];rfl)) (by rw[hL];exact aa4 _) ⟨_,_,_,rfl⟩
  rw[aS,ae,aj];refine ak (λ_=>?_) (λ_=>?_)
  ·rw[aQ,ae,r0,ae,bY,ae];refine xD (L:=L) (i:=0) (p:=⟨x0,y0⟩) b0 (by rw[hL];rfl) λl1 E0 k0 l0=>?_;rw[dD,ae,C0,ae,bY,ae];refine xD (i:=1) (p:=⟨x1,y0⟩) k0 (by rw[hL];rfl) λu0 F0 n0 o0=>?_;exact tail u0 _ _ _ (λc h _=>by rw[o0 c h,l0 c h]) (by omega) (by omega) (g0 n0 (by rw[hL];rfl)) (by rw[hL];exact aa4 _) ⟨_,_,_,rfl⟩
  rw[aS,ae,aj]
  have Tw:∀(p q r:Pl) (lo0:Nat),m.n<=lo0->∀a0:M,H.push (.cells (xH [p,q,r]) 141 none)=a0->Sl a0 [p,q,r] (aeL H.n 0 3 3)/\(∀c,c≠m2.n->c < H.n->a0.get c=H.get c)/\H.n<=a0.n:=λp q r lo0 h a0 hm=>by
   have hg:a0.get H.n=.cells (xH [p,q,r]) 141 none:=by rw[<-hm];exact M.aU
   refine⟨Nb (l:=[p,q,r]) hg,λc _ hc=>by rw[<-hm];exact M.cD hc,by rw[<-hm];exact acs _⟩
  have G0:∀p q r:Pl,aG TE H 58 3 [(0,p.v),(1,q.v),(2,r.v)]=some (aeL H.n 0 3 3,H.push (.cells (xH [p,q,r]) 141 none)):=λp q r=>by kernel_rfl
  refine ak (λ_=>?_) (λ_=>?_)
  ·rw[r0,ae,j0 (i:=0) (p:=⟨x0,y0⟩) b0 (by rw[hL];rfl),ae,C0,ae,j0 (i:=1) (p:=⟨x1,y0⟩) b0 (by rw[hL];rfl),ae,s0,ae,j0 (i:=2) (p:=⟨x1,y1⟩) b0 (by rw[hL];rfl),ae,G0,aA];generalize hm:H.push (.cells (xH [⟨x0,y0⟩,⟨x1,y0⟩,⟨x1,y1⟩]) 141 none)=a0;obtain⟨s1,s2,s3⟩:=Tw _ _ _ m.n (aa4 _) a0 hm;exact tail a0 _ _ _ s2 s3 (by omega) s1 (by simp) ⟨_,_,_,rfl⟩
  rw[aS,ae,aj];refine ak (λ_=>?_) (λ_=>?_)
  ·rw[r0,ae,j0 (i:=0) (p:=⟨x0,y0⟩) b0 (by rw[hL];rfl),ae,s0,ae,j0 (i:=2) (p:=⟨x1,y1⟩) b0 (by rw[hL];rfl),ae,D0,ae,j0 (i:=3) (p:=⟨x0,y1⟩) b0 (by rw[hL];rfl),ae,G0,aA];generalize hm:H.push (.cells (xH [⟨x0,y0⟩,⟨x1,y1⟩,⟨x0,y1⟩]) 141 none)=a0;obtain⟨s1,s2,s3⟩:=Tw _ _ _ m.n (aa4 _) a0 hm;exact tail a0 _ _ _ s2 s3 (by omega) s1 (by simp) ⟨_,_,_,rfl⟩
  exact tail H _ _ _ (λc _ _=>rfl) (aa4 _) (by omega) (g0 b0 (by rw[hL];rfl)) (by rw[hL];exact aa4 _) ⟨_,_,_,rfl⟩
 obtain⟨r,m',b,hc,rfl,u,w,rfl,h1,h2,h3⟩:=key;exact⟨u,w,m',hc,h1,h2,h3⟩
end
end Go.Proofs.YtigpcbodmjjaiaaGreatDoor
