/- What functions of the program .. -/
import Derived.Test.YtigpcbodmjjaiaaGreatDoorG3J
set_option maxRecDepth 100000
open Go Go.D Go.Proofs.Tryz
namespace Go.Proofs.YtigpcbodmjjaiaaGreatDoor
section
section
variable {X:aK}{x0 x1 x2:Φ}{m:M}{R:Bt->M->Nat->Prop}{W:Words}
theorem ZF:dP TE (aL TE X) f298 [x0] m R=ρ m x0 141 λa=>jn (λb=>ε 141 (υ m) 0 λc=>δ a 3 c λc=>η .geq 3 c (χ 0) λc=>aR c (ε 141 (υ m) 0 λc=>δ a 3 c λc=>η .leq 3 c (χ 40) λc=>aR c (ε 141 (υ m) 1 λc=>δ a 3 c λc=>η .geq 3 c (χ 0) λc=>aR c (ε 141 (υ m) 1 λc=>δ a 3 c λc=>η .leq 3 c (χ 40) λc=>b [c] a m.n) (b [Zf] a m.n)) (b [Zf] a m.n)) (b [Zf] a m.n)) (λa b c=>un a λa _=>R [a] b c):=by kernel_rfl
theorem ZV:dP TE W f223 [x0,x1,x2] m R=JA W m x0 141 λa=>JA W a x1 141 λb=>JA W b x2 141 λc=>Wo W 141 (IJ a) 0 λd=>Fm W c 3 d λd=>Wo W 141 (IJ m) 0 λf=>Fm W c 3 f λf=>LH W .sub 3 d f λd=>Wo W 141 (IJ b) 1 λf=>Fm W c 3 f λf=>Wo W 141 (IJ m) 1 λg=>Fm W c 3 g λg=>LH W .sub 3 f g λf=>LH W .mul 3 d f λd=>Wo W 141 (IJ a) 1 λa=>Fm W c 3 a λa=>Wo W 141 (IJ m) 1 λf=>Fm W c 3 f λf=>LH W .sub 3 a f λa=>Wo W 141 (IJ b) 0 λb=>Fm W c 3 b λb=>Wo W 141 (IJ m) 0 λf=>Fm W c 3 f λf=>LH W .sub 3 b f λb=>LH W .mul 3 a b λa=>LH W .sub 3 d a λa=>R [a] c m.n:=by kernel_rfl
theorem ZY:dP TE (aL TE X) f220 [x0] m R=jn (λa=>κ m .len [58] [x0] λb _=>η .lss 3 b (χ 3) λb=>aR b (a [Ku] m m.n) (κ m .len [58] [x0] λb _=>η .gtr 3 b (χ 8) λb=>a [b] m m.n)) (λa b c=>un a λa _=>aR a (R [Zf] b c) (Lp (λa b c d=>un b λb f=>un f λf _=>κ c .len [58] [x0] λg _=>η .lss 3 f g λg=>aR g (ζ 58 x0 f λg=>δ c 141 g λg=>ψ X 298 [g] c λc g h=>ο .not c λc=>aR c (R [Zf] g (min d h)) (η .add 3 f (χ 1) λc=>a [b,c] g (min d h))) (Lp (λa b c d=>un b λb f=>un f λf _=>κ c .len [58] [x0] λg _=>η .lss 3 f g λg=>aR g (Lp (λb c d g=>un c λc h=>un h λh _=>κ d .len [58] [x0] λi _=>η .lss 3 h i λi=>aR i (jn (λa=>η .neq 3 h f λb=>aR b (η .add 3 f (χ 1) λb=>κ d .len [58] [x0] λc _=>η .rem 3 b c λb=>η .neq 3 h b λb=>aR b (ζ 58 x0 f λb=>δ d 141 b λb=>ψ X 299 [x0,f] d λc f i=>(d.n<=i)/\(ζ 58 x0 h λd=>δ f 141 d λd=>ψ X 223 [b,c,d] f λb c d=>η .leq 3 b (χ 0) λb=>a [b] c (ω g i d))) (a [Zf] d g)) (a [Zf] d g)) (λa d f=>un a λa _=>aR a (R [Zf] d f) (η .add 3 h (χ 1) λa=>b [c,a] d f))) (η .add 3 f (χ 1) λb=>a [c,b] d g)) [b,χ 0] c d) (R [Ku] c d)) [b,χ 0] c d)) [Zf,χ 0] b c)):=by kernel_rfl
theorem abv:dP TE (aL TE X) f299 [x0,x1] m R=ς m [χ 0,χ 0] 141 λa=>η .add 3 x1 (χ 1) λb=>κ a .len [58] [x0] λc _=>η .rem 3 b c λb=>ζ 58 x0 b λb=>δ a 141 b λb=>ι a 141 (υ m) b λa b=>ai (ah TE a 141 (υ m)) λc=>R [c] a (min m.n b):=by kernel_rfl
theorem ab3:dP TE W f300 [x0] m R=W.Lp (λa b c d=>W.un b λb f=>W.un f λf _=>Ke W c .len [58] [x0] λg _=>LH W .lss 3 f g λg=>aR g (Zt W 58 x0 f λg=>Fm W c 141 g λg=>Wb W c [Nn 0,Nn 0] 141 λh=>ZC W h 141 (IJ c) g λg h=>RI W 299 [x0,f] g λg i j=>Wb W i [Nn 0,Nn 0] 141 λk=>ZC W k 141 (IJ i) g λg k=>Wo W 141 (IJ c) 1 λl=>Fm W g 3 l λl=>Wo W 141 (IJ i) 1 λn=>Fm W g 3 n λn=>LH W .sub 3 l n λl=>Wo W 141 (IJ i) 0 λn=>Fm W g 3 n λn=>Wo W 141 (IJ c) 0 λo=>Fm W g 3 o λo=>LH W .sub 3 n o λn=>Wo W 141 (IJ i) 1 λo=>Fm W g 3 o λo=>Wo W 141 (IJ c) 1 λp=>Fm W g 3 p λp=>LH W .sub 3 o p λo=>Wo W 141 (IJ c) 0 λp=>Fm W g 3 p λp=>LH W .mul 3 o p λo=>Wo W 141 (IJ i) 0 λi=>Fm W g 3 i λi=>Wo W 141 (IJ c) 0 λp=>Fm W g 3 p λp=>LH W .sub 3 i p λi=>Wo W 141 (IJ c) 1 λc=>Fm W g 3 c λc=>LH W .mul 3 i c λc=>LH W .sub 3 o c λc=>RW W 341 [(0,l),(1,n),(2,c)] λc=>Oq W g 337 1 [(0,c)] λc g=>Ke W (M.wl g g.n) .append [337,337] [b,c] λb c=>LH W .add 3 f (Nn 1) λf=>a [b,f] c (Δ d h j k (M.low c))) (R [b] c d)) [YM,Nn 0] m m.n:=by kernel_rfl
theorem abI:dP TE W f221 [x0,x1] m R=W.jn (λa=>RI W 220 [x0] m λb c d=>Qt W .not b λb=>aR b (a [Ku] c (min m.n d)) (RI W 220 [x1] c λb c f=>Qt W .not b λb=>a [b] c (ω m.n d f))) (λa b c=>W.un a λa _=>aR a (R [Zf] b c) (RI W 300 [x0] b λa b d=>RI W 300 [x1] b λb f g=>Ke W (M.wl f f.n) .append [337,337] [a,b] λa b=>W.Lp (λb c d f=>W.un c λc g=>W.un g λg _=>Ke W d .len [337] [a] λh _=>LH W .lss 3 g h λh=>aR h (LH W .add 3 g (Nn 1) λh=>W.Lp (λc d f h=>W.un d λd i=>W.un i λi _=>Ke W f .len [337] [a] λj _=>LH W .lss 3 i j λj=>aR j (Zt W 337 a g λb=>Wo W 341 b 1 λb=>Fm W f 3 b λb=>Zt W 337 a i λj=>Wo W 341 j 2 λj=>Fm W f 3 j λj=>LH W .mul 3 b j λb=>Zt W 337 a i λj=>Wo W 341 j 1 λj=>Fm W f 3 j λj=>Zt W 337 a g λk=>Wo W 341 k 2 λk=>Fm W f 3 k λk=>LH W .mul 3 j k λj=>LH W .sub 3 b j λb=>Zt W 337 a g λj=>Wo W 341 j 2 λj=>Fm W f 3 j λj=>Zt W 337 a i λk=>Wo W 341 k 0 λk=>Fm W f 3 k λk=>LH W .mul 3 j k λj=>Zt W 337 a i λk=>Wo W 341 k 2 λk=>Fm W f 3 k λk=>Zt W 337 a g λl=>Wo W 341 l 0 λl=>Fm W f 3 l λl=>LH W .mul 3 k l λk=>LH W .sub 3 j k λj=>Zt W 337 a g λk=>Wo W 341 k 0 λk=>Fm W f 3 k λk=>Zt W 337 a i λl=>Wo W 341 l 1 λl=>Fm W f 3 l λl=>LH W .mul 3 k l λk=>Zt W 337 a i λl=>Wo W 341 l 0 λl=>Fm W f 3 l λl=>Zt W 337 a g λg=>Wo W 341 g 1 λg=>Fm W f 3 g λg=>LH W .mul 3 l g λg=>LH W .sub 3 k g λg=>RW W 343 [(0,b),(1,j),(2,g)] λb=>Wb W f [Nn 0,Nn 0,Nn 0] 343 λg=>ZC W g 343 (IJ f) b λb g=>Wo W 343 (IJ f) 2 λj=>Fm W b 3 j λj=>LH W .eql 3 j (Nn 0) λj=>aR j (LH W .add 3 i (Nn 1) λa=>c [d,a] b (min h g)) (Wo W 343 (IJ f) 2 λj=>Fm W b 3 j λj=>LH W .lss 3 j (Nn 0) λj=>aR j (Wo W 343 (IJ f) 0 λj=>Fm W b 3 j λj=>Qt W .neg j λj=>Wo W 343 (IJ f) 1 λk=>Fm W b 3 k λk=>Qt W .neg k λk=>Wo W 343 (IJ f) 2 λl=>Fm W b 3 l λl=>Qt W .neg l λl=>RW W 343 [(0,j),(1,k),(2,l)] λj=>ZC W b 343 (IJ f) j λb j=>W.Lp (λb g h j=>W.un g λg k=>W.un k λk _=>Ke W h .len [337] [a] λl _=>LH W .lss 3 k l λl=>aR l (aR g (Zt W 337 a k λc=>Wo W 341 c 0 λc=>Fm W h 3 c λc=>Wo W 343 (IJ f) 0 λd=>Fm W h 3 d λd=>LH W .mul 3 c d λc=>Zt W 337 a k λd=>Wo W 341 d 1 λd=>Fm W h 3 d λd=>Wo W 343 (IJ f) 1 λg=>Fm W h 3 g λg=>LH W .mul 3 d g λd=>LH W .add 3 c d λc=>Zt W 337 a k λa=>Wo W 341 a 2 λa=>Fm W h 3 a λa=>Wo W 343 (IJ f) 2 λd=>Fm W h 3 d λd=>LH W .mul 3 a d λa=>LH W .add 3 c a λa=>LH W .geq 3 a (Nn 0) λa=>LH W .add 3 k (Nn 1) λc=>b [a,c] h j) (LH W .add 3 k (Nn 1) λa=>b [Zf,a] h j)) (aR g (Fm W h 343 (IJ f) λa=>Oq W h 339 1 [(0,a)] λa b=>Ke W (M.wl b b.n) .append [339,339] [d,a] λa b=>LH W .add 3 i (Nn 1) λd=>c [a,d] b (min j (M.low b))) (LH W .add 3 i (Nn 1) λa=>c [d,a] h j))) [Ku,Nn 0] b (ω h g j)) (W.Lp (λb g h j=>W.un g λg k=>W.un k λk _=>Ke W h .len [337] [a] λl _=>LH W .lss 3 k l λl=>aR l (aR g (Zt W 337 a k λc=>Wo W 341 c 0 λc=>Fm W h 3 c λc=>Wo W 343 (IJ f) 0 λd=>Fm W h 3 d λd=>LH W .mul 3 c d λc=>Zt W 337 a k λd=>Wo W 341 d 1 λd=>Fm W h 3 d λd=>Wo W 343 (IJ f) 1 λg=>Fm W h 3 g λg=>LH W .mul 3 d g λd=>LH W .add 3 c d λc=>Zt W 337 a k λa=>Wo W 341 a 2 λa=>Fm W h 3 a λa=>Wo W 343 (IJ f) 2 λd=>Fm W h 3 d λd=>LH W .mul 3 a d λa=>LH W .add 3 c a λa=>LH W .geq 3 a (Nn 0) λa=>LH W .add 3 k (Nn 1) λc=>b [a,c] h j) (LH W .add 3 k (Nn 1) λa=>b [Zf,a] h j)) (aR g (Fm W h 343 (IJ f) λa=>Oq W h 339 1 [(0,a)] λa b=>Ke W (M.wl b b.n) .append [339,339] [d,a] λa b=>LH W .add 3 i (Nn 1) λd=>c [a,d] b (min j (M.low b))) (LH W .add 3 i (Nn 1) λa=>c [d,a] h j))) [Ku,Nn 0] b (min h g)))) (LH W .add 3 g (Nn 1) λa=>b [d,a] f h)) [c,h] d f) (W.Lp (λa b d f=>W.un b λb g=>W.un g λg _=>Ke W d .len [339] [c] λh _=>LH W .lss 3 g h λh=>aR h (W.Lp (λb d f h=>W.un d λd i=>W.un i λi _=>LH W .lss 3 i g λj=>aR j (W.Lp (λa d f h=>W.un d λd j=>W.un j λj _=>LH W .lss 3 j i λk=>aR k (Zt W 339 c g λb=>Fm W f 343 b λb=>Wb W f [Nn 0,Nn 0,Nn 0] 343 λg=>ZC W g 343 (IJ f) b λb g=>Zt W 339 c i λi=>Fm W b 343 i λi=>Wb W b [Nn 0,Nn 0,Nn 0] 343 λk=>ZC W k 343 (IJ b) i λi k=>Zt W 339 c j λc=>Fm W i 343 c λc=>Wb W i [Nn 0,Nn 0,Nn 0] 343 λl=>ZC W l 343 (IJ i) c λc l=>Wo W 343 (IJ f) 0 λn=>Fm W c 3 n λn=>Wo W 343 (IJ b) 1 λo=>Fm W c 3 o λo=>Wo W 343 (IJ i) 2 λp=>Fm W c 3 p λp=>LH W .mul 3 o p λo=>Wo W 343 (IJ b) 2 λp=>Fm W c 3 p λp=>Wo W 343 (IJ i) 1 λq=>Fm W c 3 q λq=>LH W .mul 3 p q λp=>LH W .sub 3 o p λo=>LH W .mul 3 n o λn=>Wo W 343 (IJ f) 1 λo=>Fm W c 3 o λo=>Wo W 343 (IJ b) 0 λp=>Fm W c 3 p λp=>Wo W 343 (IJ i) 2 λq=>Fm W c 3 q λq=>LH W .mul 3 p q λp=>Wo W 343 (IJ b) 2 λq=>Fm W c 3 q λq=>Wo W 343 (IJ i) 0 λr=>Fm W c 3 r λr=>LH W .mul 3 q r λq=>LH W .sub 3 p q λp=>LH W .mul 3 o p λo=>LH W .sub 3 n o λn=>Wo W 343 (IJ f) 2 λf=>Fm W c 3 f λf=>Wo W 343 (IJ b) 0 λo=>Fm W c 3 o λo=>Wo W 343 (IJ i) 1 λp=>Fm W c 3 p λp=>LH W .mul 3 o p λo=>Wo W 343 (IJ b) 1 λb=>Fm W c 3 b λb=>Wo W 343 (IJ i) 0 λi=>Fm W c 3 i λi=>LH W .mul 3 b i λb=>LH W .sub 3 o b λb=>LH W .mul 3 f b λb=>LH W .add 3 n b λb=>LH W .neq 3 b (Nn 0) λb=>aR b (R [Ku] c (Γ h g k l)) (LH W .add 3 j (Nn 1) λb=>a [d,b] c (Γ h g k l))) (LH W .add 3 i (Nn 1) λa=>b [d,a] f h)) [d,Nn 0] f h) (LH W .add 3 g (Nn 1) λb=>a [d,b] f h)) [b,Nn 0] d f) (R [Zf] d f)) [Zf,Nn 0] d f)) [YM,Nn 0] b (Γ c d g (M.low b)))):=by kernel_rfl
theorem aan:dP TE (aL TE X) f173 [x0,x1] m R=ρ m x0 60 λa=>ρ a x1 60 λb=>jn (λc=>δ b 60 (υ m) λd=>δ b 60 (υ a) λf=>ψ X 174 [d,f] b λb d f=>aR b (ε 60 (υ m) 3 λb=>δ d 58 b λb=>ε 60 (υ a) 3 λa=>δ d 58 a λa=>ψ X 221 [b,a] d λa b d=>c [a] b (ω m.n f d)) (c [Zf] d (min m.n f))) (λa b c=>un a λa _=>R [a] b c):=by kernel_rfl
theorem aao:dP TE (aL TE X) f172 [x0] m R=ρ m x0 60 λa=>jn (λb=>ε 60 (υ m) 0 λc=>δ a 3 c λc=>η .lss 3 c (χ 0) λc=>aR c (b [Ku] a m.n) (ε 60 (υ m) 0 λc=>δ a 3 c λc=>η .gtr 3 c (χ 99) λc=>aR c (b [Ku] a m.n) (ε 60 (υ m) 1 λc=>δ a 3 c λc=>η .lss 3 c (χ 1) λc=>aR c (b [Ku] a m.n) (ε 60 (υ m) 1 λc=>δ a 3 c λc=>η .gtr 3 c (χ 8) λc=>aR c (b [Ku] a m.n) (ε 60 (υ m) 2 λc=>δ a 3 c λc=>η .lss 3 c (χ 0) λc=>aR c (b [Ku] a m.n) (ε 60 (υ m) 2 λc=>δ a 3 c λc=>η .gtr 3 c (χ 7) λc=>b [c] a m.n)))))) (λa b c=>un a λa _=>aR a (R [Zf] b c) (jn (λa=>ε 60 (υ m) 4 λd=>δ b 3 d λd=>η .geq 3 d (χ 0) λd=>aR d (ε 60 (υ m) 4 λd=>δ b 3 d λd=>ε 60 (υ m) 5 λf=>δ b 3 f λf=>η .lss 3 d f λd=>aR d (ε 60 (υ m) 5 λd=>δ b 3 d λd=>η .leq 3 d (χ 8) λd=>aR d (ε 60 (υ m) 3 λd=>δ b 58 d λd=>ψ X 220 [d] b λb d f=>a [b] d (min c f)) (a [Zf] b c)) (a [Zf] b c)) (a [Zf] b c)) (λa b c=>un a λa _=>R [a] b c))):=by kernel_rfl
theorem aam:dP TE (aL TE X) f174 [x0,x1] m R=ρ m x0 60 λa=>ρ a x1 60 λb=>jn (λc=>δ b 60 (υ m) λd=>ψ X 172 [d] b λb d f=>aR b (δ d 60 (υ a) λb=>ψ X 172 [b] d λb d g=>aR b (ε 60 (υ m) 4 λb=>δ d 3 b λb=>ε 60 (υ a) 4 λh=>δ d 3 h λh=>κ d .max [3,3] [b,h] λb _=>ε 60 (υ m) 5 λh=>δ d 3 h λh=>ε 60 (υ a) 5 λa=>δ d 3 a λa=>κ d .min [3,3] [h,a] λa _=>η .lss 3 b a λa=>c [a] d (ω m.n f g)) (c [Zf] d (ω m.n f g))) (c [Zf] d (min m.n f))) (λa b c=>un a λa _=>R [a] b c):=by kernel_rfl
theorem ad1:dP TE (aL TE X) f197 [x0,x1] m R=ρ m x0 60 λa=>ρ a x1 60 λb=>δ b 60 (υ m) λc=>δ b 60 (υ a) λd=>ψ X 148 [c,d] b λb c d=>ξ b 0 λ_=>ξ b 1 λ_=>ξ b 2 λb=>jn (λf=>aR b (ε 60 (υ m) 3 λb=>δ c 58 b λb=>ε 60 (υ a) 3 λa=>δ c 58 a λa=>ψ X 191 [b,a] c λa b c=>f [a] b (ω m.n d c)) (f [Zf] c (min m.n d))) (λa b c=>un a λa _=>R [a] b c):=by kernel_rfl
theorem aaT:dP TE (aL TE X) f116 [x0] m R=ρ m x0 60 λa=>jn (λb=>ε 60 (υ m) 0 λc=>δ a 3 c λc=>ψ X 169 [c,χ 0,χ 99] a λa c d=>aR a (ε 60 (υ m) 1 λa=>δ c 3 a λa=>ψ X 169 [a,χ 1,χ 8] c λa c f=>aR a (ε 60 (υ m) 2 λa=>δ c 3 a λa=>ψ X 169 [a,χ 0,χ 7] c λa c g=>b [a] c (Γ m.n d f g)) (b [Zf] c (ω m.n d f))) (b [Zf] c (min m.n d))) (λa b c=>un a λa _=>jn (λd=>aR a (ε 60 (υ m) 4 λa=>δ b 3 a λa=>η .leq 3 (χ 0) a λa=>aR a (ε 60 (υ m) 4 λa=>δ b 3 a λa=>ε 60 (υ m) 5 λf=>δ b 3 f λf=>η .lss 3 a f λa=>aR a (ε 60 (υ m) 5 λa=>δ b 3 a λa=>η .leq 3 a (χ 8) λa=>aR a (ε 60 (υ m) 3 λa=>δ b 58 a λa=>ψ X 170 [a] b λa b f=>d [a] b (min c f)) (d [Zf] b c)) (d [Zf] b c)) (d [Zf] b c)) (d [Zf] b c)) (λa b c=>un a λa _=>R [a] b c)):=by kernel_rfl
theorem aaB:dP TE (aL TE X) f148 [x0,x1] m R=ρ m x0 60 λa=>ρ a x1 60 λb=>ε 60 (υ m) 4 λc=>δ b 3 c λc=>ε 60 (υ a) 4 λd=>δ b 3 d λd=>κ b .max [3,3] [c,d] λc _=>ε 60 (υ m) 5 λd=>δ b 3 d λd=>ε 60 (υ a) 5 λf=>δ b 3 f λf=>κ b .min [3,3] [d,f] λd _=>jn (λf=>η .lss 3 c d λg=>aR g (δ b 60 (υ m) λg=>ψ X 116 [g] b λb g h=>aR b (δ g 60 (υ a) λa=>ψ X 116 [a] g λa b g=>f [c,d,a] b (ω m.n h g)) (f [c,d,Zf] g (min m.n h))) (f [c,d,Zf] b m.n)) (λa b c=>un a λa d=>un d λd f=>un f λf _=>R [a,d,f] b c):=by kernel_rfl
theorem aar:dP TE (aL TE X) f169 [x0,x1,x2] m R=jn (λa=>η .leq 3 x1 x0 λb=>aR b (η .leq 3 x0 x2 λb=>a [b] m m.n) (a [Zf] m m.n)) (λa b c=>un a λa _=>R [a] b c):=by kernel_rfl
theorem ZK:dP TE (aL TE X) f236 [x0,x1] m R=ε 30 x1 0 λa=>δ m 28 a λa=>κ m .len [28] [a] λb _=>Lp (λc d f g=>un d λd _=>η .lss 3 d b λb=>aR b (ζ 28 a d λa=>δ f 60 a λa=>ς f [χ 0,χ 0,χ 0,YM,χ 0,χ 0] 60 λb=>ι b 60 (υ f) a λa b=>ε 30 x1 0 λh=>δ a 28 h λh=>η .add 3 d (χ 1) λi=>ai (slice? TE a 28 h (some i) none none) λh=>κ a .len [28] [h] λi _=>Lp (λa b g j=>un b λb _=>η .lss 3 b i λi=>aR i (ζ 28 h b λc=>δ g 60 c λc=>ς g [χ 0,χ 0,χ 0,YM,χ 0,χ 0] 60 λd=>ι d 60 (υ g) c λc d=>δ c 60 (υ f) λf=>δ c 60 (υ g) λg=>gL x0 λh i k=>bs TE X h (i.toList++([f,g]++k.toList)) c λc f g=>ο .not c λc=>aR c (R [] f (ω j d g)) (η .add 3 b (χ 1) λb=>a [b] f (ω j d g))) (η .add 3 d (χ 1) λa=>c [a] g j)) [χ 0] a (min g b)) (R [] f g)) [χ 0] m m.n:=by kernel_rfl
theorem aax:dP TE (aL TE X) f152 [x0] m R=ρ m x0 30 λa=>ς a [Zf] 4 λb=>ε 30 (υ m) 0 λc=>δ b 28 c λc=>κ b .len [28] [c] λc _=>η .gtr 3 c (χ 12) λc=>aR c (ι b 4 (υ a) Zf λb c=>ai (ah TE b 4 (υ a)) λa=>R [a] b (min m.n c)) (ε 30 (υ m) 0 λc=>δ b 28 c λc=>κ b .len [28] [c] λd _=>Lp (λb f g h=>un f λf _=>η .lss 3 f d λd=>aR d (ζ 28 c f λc=>δ g 60 c λc=>ς g [χ 0,χ 0,χ 0,YM,χ 0,χ 0] 60 λd=>ι d 60 (υ g) c λc d=>jn (λa=>δ c 60 (υ g) λb=>ψ X 116 [b] c λb c i=>ο .not b λb=>aR b (a [Ku] c (ω h d i)) (η .gtr 3 f (χ 0) λb=>aR b (ε 60 (υ g) 0 λb=>δ c 3 b λb=>ε 30 (υ m) 0 λg=>δ c 28 g λg=>η .sub 3 f (χ 1) λf=>ζ 28 g f λf=>ε 60 f 0 λf=>δ c 3 f λf=>η .leq 3 b f λb=>a [b] c (ω h d i)) (a [Zf] c (ω h d i)))) (λc d g=>un c λc _=>aR c (ι d 4 (υ a) Zf λb c=>ai (ah TE b 4 (υ a)) λa=>R [a] b (min g c)) (η .add 3 f (χ 1) λa=>b [a] d g))) (δ g 30 (υ m) λb=>ψ X 196 [b] g λb c d=>gL b λb f g=>RF TE X b f.toList g.toList c (min h d) (λb d f=>un b λb g=>un g λg h=>GX h (ς d [χ 0,χ 0,χ 0,YM,χ 0,χ 0] 60 λh=>ι h 60 (υ d) b λb h=>ς b [χ 0,χ 0,χ 0,YM,χ 0,χ 0] 60 λi=>ι i 60 (υ b) g λg i=>P7 c.n d g λg=>δ g 60 (υ d) λj=>δ g 60 (υ b) λb=>ψ X 197 [j,b] g λb j k=>aR b (ι j 4 (υ a) Zf λa b=>f g .ret a (Θ d.n h i c.n k b)) (f g .normal j (Δ d.n h i c.n k)))) (λb c=>ι b 4 (υ a) Ku λb d=>ai (ah TE b 4 (υ a)) λa=>R [a] b (min c d)) [(.ret,λb c=>ai (ah TE b 4 (υ a)) λa=>R [a] b c)])) [χ 0] b m.n):=by kernel_rfl
theorem Z5:dP TE (aL TE X) f196 [x0] m R=ρ m x0 30 λa=>R [.func (.func 236) #[] #[υ m]] a m.n:=by kernel_rfl
theorem aaK:dP TE (aL TE X) f128 [x0] m R=ρ m x0 30 λa=>ε 30 (υ m) 0 λb=>δ a 28 b λb=>κ a .len [28] [b] λb _=>η .gtr 3 b (χ 12) λb=>aR b (R [Zf] a m.n) (Lp (λa b c d=>un b λb f=>un f λf _=>ε 30 (υ m) 0 λg=>δ c 28 g λg=>κ c .len [28] [g] λg _=>η .lss 3 f g λg=>aR g (jn (λa=>ε 30 (υ m) 0 λb=>δ c 28 b λb=>ζ 28 b f λb=>δ c 60 b λb=>ψ X 172 [b] c λb c g=>ο .not b λb=>aR b (a [Ku] c (min d g)) (η .gtr 3 f (χ 0) λb=>aR b (ε 30 (υ m) 0 λb=>δ c 28 b λb=>ζ 28 b f λb=>ε 60 b 0 λb=>δ c 3 b λb=>ε 30 (υ m) 0 λh=>δ c 28 h λh=>η .sub 3 f (χ 1) λf=>ζ 28 h f λf=>ε 60 f 0 λf=>δ c 3 f λf=>η .leq 3 b f λb=>a [b] c (min d g)) (a [Zf] c (min d g)))) (λc d g=>un c λc _=>aR c (R [Zf] d g) (Lp (λb c d g=>un c λc h=>un h λh _=>η .lss 3 h f λi=>aR i (ε 30 (υ m) 0 λa=>δ d 28 a λa=>ζ 28 a f λa=>δ d 60 a λa=>ε 30 (υ m) 0 λf=>δ d 28 f λf=>ζ 28 f h λf=>δ d 60 f λf=>ψ X 173 [a,f] d λa d f=>aR a (R [Zf] d (min g f)) (η .add 3 h (χ 1) λa=>b [c,a] d (min g f))) (η .add 3 f (χ 1) λb=>a [c,b] d g)) [b,χ 0] d g))) (R [Ku] c d)) [Zf,χ 0] a m.n):=by kernel_rfl
theorem abN:dP TE (aL TE X) f219 [x0] m R=ρ m x0 60 λa=>ς a [χ 0,χ 0,χ 0,YM,χ 0,χ 0] 60 λb=>ν b 58 0 [] λb c=>ε 60 (υ m) 3 λd=>δ c 58 d λd=>κ (M.wl c c.n) .append [58,58] [b,d] λb c=>ε 60 (υ m) 3 λd=>ι c 58 d b λb d=>δ b 60 (υ m) λf=>ι b 60 (υ a) f λb f=>ai (ah TE b 60 (υ a)) λa=>R [a] b (Γ m.n (M.low c) d f):=by kernel_rfl
theorem aaL:dP TE (aL TE X) f127 [x0,x1] m R=η .lss 3 x0 (χ 0) λa=>aR a (η .add 3 x0 (χ 1) λa=>ο .neg a λa=>η .rem 3 a x1 λa=>R [a] m m.n) (η .rem 3 x0 x1 λa=>R [a] m m.n):=by kernel_rfl
theorem F67:dP TE (aL TE X) f67 [x0,x1] m R=ρ m x1 89 λa=>ς a [χ 0,χ 0,χ 0,YM,χ 0,χ 0] 60 λb=>ζ 89 (υ m) (χ 0) λc=>δ b 3 c λc=>ψ X 127 [c,χ 9] b λb c d=>η .mul 3 (χ 4) b λb=>ζ 89 (υ m) (χ 1) λf=>δ c 3 f λf=>ψ X 127 [f,χ 6] c λc f g=>η .mul 3 (χ 4) c λc=>ζ 89 (υ m) (χ 2) λh=>δ f 3 h λh=>ψ X 127 [h,χ 4] f λf h i=>η .add 3 (χ 1) f λf=>η .mul 3 (χ 4) f λf=>η .add 3 b f λf=>κ h .min [3,3] [f,χ 40] λf _=>ζ 89 (υ m) (χ 3) λj=>δ h 3 j λj=>ψ X 127 [j,χ 2] h λh j k=>η .add 3 (χ 1) h λh=>η .mul 3 (χ 4) h λh=>η .add 3 c h λh=>θ 141 [(0,b),(1,c)] λl=>θ 141 [(0,f),(1,c)] λc=>θ 141 [(0,f),(1,h)] λn=>θ 141 [(0,b),(1,h)] λh=>ν j 58 4 [(0,l),(1,c),(2,n),(3,h)] λc h=>ζ 89 (υ m) (χ 4) λj=>δ h 3 j λj=>ψ X 127 [j,χ 8] h λh j l=>η .eql 3 h (χ 4) λn=>aR n (η .sub 3 f (χ 1) λf=>ζ 58 c (χ 2) λh=>ε 141 h 0 λh=>ι j 3 h f λf h=>η .add 3 b (χ 1) λb=>ζ 58 c (χ 3) λj=>ε 141 j 0 λj=>ι f 3 j b λb f=>ζ 89 (υ m) (χ 5) λj=>δ b 3 j λj=>ψ X 127 [j,χ 4] b λb j n=>η .eql 3 b (χ 3) λb=>aR b (ζ 89 (υ m) (χ 5) λb=>δ j 3 b λb=>η .quo 3 b (χ 4) λb=>ψ X 127 [b,χ 4] j λb j o=>η .add 3 b (χ 1) λp=>ζ 89 (υ m) (χ 5) λq=>δ j 3 q λq=>η .quo 3 q (χ 16) λq=>ψ X 127 [q,χ 4] j λj q r=>η .add 3 p j λj=>ψ X 127 [x0,χ 100] q λp s t=>(q.n<=t)/\(ζ 89 (υ m) (χ 5) λq=>δ s 3 q λq=>η .quo 3 q (χ 64) λq=>ψ X 127 [q,χ 8] s λq u v=>(s.n<=v)/\(η .add 3 (χ 1) q λq=>ζ 89 (υ m) (χ 5) λs=>δ u 3 s λs=>η .quo 3 s (χ 512) λs=>ψ X 127 [s,χ 8] u λs u w=>θ 60 [(0,p),(1,q),(2,s),(3,c),(4,b),(5,j)] λb=>ι u 60 (υ a) b λb c=>ai (ah TE b 60 (υ a)) λa=>R [a] b (min (Qy m.n d g i k l h f n o r t v w) c)))) (ψ X 127 [x0,χ 100] j λb o p=>(j.n<=p)/\(ζ 89 (υ m) (χ 5) λj=>δ o 3 j λj=>η .quo 3 j (χ 64) λj=>ψ X 127 [j,χ 8] o λj q r=>(o.n<=r)/\(η .add 3 (χ 1) j λj=>ζ 89 (υ m) (χ 5) λo=>δ q 3 o λo=>η .quo 3 o (χ 512) λo=>ψ X 127 [o,χ 8] q λo q s=>θ 60 [(0,b),(1,j),(2,o),(3,c),(4,(χ 0)),(5,(χ 4))] λb=>ι q 60 (υ a) b λb c=>ai (ah TE b 60 (υ a)) λa=>R [a] b (Y3 m.n d g i k l h f n p r s c))))) (η .eql 3 h (χ 5) λn=>aR n (η .add 3 b (χ 1) λb=>ζ 58 c (χ 0) λh=>ε 141 h 0 λh=>ι j 3 h b λb h=>η .sub 3 f (χ 1) λf=>ζ 58 c (χ 1) λj=>ε 141 j 0 λj=>ι b 3 j f λb f=>ζ 89 (υ m) (χ 5) λj=>δ b 3 j λj=>ψ X 127 [j,χ 4] b λb j n=>η .eql 3 b (χ 3) λb=>aR b (ζ 89 (υ m) (χ 5) λb=>δ j 3 b λb=>η .quo 3 b (χ 4) λb=>ψ X 127 [b,χ 4] j λb j o=>η .add 3 b (χ 1) λp=>ζ 89 (υ m) (χ 5) λq=>δ j 3 q λq=>η .quo 3 q (χ 16) λq=>ψ X 127 [q,χ 4] j λj q r=>η .add 3 p j λj=>ψ X 127 [x0,χ 100] q λp s t=>(q.n<=t)/\(ζ 89 (υ m) (χ 5) λq=>δ s 3 q λq=>η .quo 3 q (χ 64) λq=>ψ X 127 [q,χ 8] s λq u v=>(s.n<=v)/\(η .add 3 (χ 1) q λq=>ζ 89 (υ m) (χ 5) λs=>δ u 3 s λs=>η .quo 3 s (χ 512) λs=>ψ X 127 [s,χ 8] u λs u w=>θ 60 [(0,p),(1,q),(2,s),(3,c),(4,b),(5,j)] λb=>ι u 60 (υ a) b λb c=>ai (ah TE b 60 (υ a)) λa=>R [a] b (min (Qy m.n d g i k l h f n o r t v w) c)))) (ψ X 127 [x0,χ 100] j λb o p=>(j.n<=p)/\(ζ 89 (υ m) (χ 5) λj=>δ o 3 j λj=>η .quo 3 j (χ 64) λj=>ψ X 127 [j,χ 8] o λj q r=>(o.n<=r)/\(η .add 3 (χ 1) j λj=>ζ 89 (υ m) (χ 5) λo=>δ q 3 o λo=>η .quo 3 o (χ 512) λo=>ψ X 127 [o,χ 8] q λo q s=>θ 60 [(0,b),(1,j),(2,o),(3,c),(4,(χ 0)),(5,(χ 4))] λb=>ι q 60 (υ a) b λb c=>ai (ah TE b 60 (υ a)) λa=>R [a] b (Y3 m.n d g i k l h f n p r s c))))) (η .eql 3 h (χ 6) λb=>aR b (ζ 58 c (χ 0) λb=>δ j 141 b λb=>ζ 58 c (χ 1) λf=>δ j 141 f λf=>ζ 58 c (χ 2) λc=>δ j 141 c λc=>ν j 58 3 [(0,b),(1,f),(2,c)] λb c=>ζ 89 (υ m) (χ 5) λf=>δ c 3 f λf=>ψ X 127 [f,χ 4] c λc f h=>η .eql 3 c (χ 3) λc=>aR c (ζ 89 (υ m) (χ 5) λc=>δ f 3 c λc=>η .quo 3 c (χ 4) λc=>ψ X 127 [c,χ 4] f λc f j=>η .add 3 c (χ 1) λn=>ζ 89 (υ m) (χ 5) λo=>δ f 3 o λo=>η .quo 3 o (χ 16) λo=>ψ X 127 [o,χ 4] f λf o p=>η .add 3 n f λf=>ψ X 127 [x0,χ 100] o λn q r=>(o.n<=r)/\(ζ 89 (υ m) (χ 5) λo=>δ q 3 o λo=>η .quo 3 o (χ 64) λo=>ψ X 127 [o,χ 8] q λo s t=>(q.n<=t)/\(η .add 3 (χ 1) o λo=>ζ 89 (υ m) (χ 5) λq=>δ s 3 q λq=>η .quo 3 q (χ 512) λq=>ψ X 127 [q,χ 8] s λq s u=>θ 60 [(0,n),(1,o),(2,q),(3,b),(4,c),(5,f)] λb=>ι s 60 (υ a) b λb c=>ai (ah TE b 60 (υ a)) λa=>R [a] b (Y3 m.n d g i k l h j p r t u c)))) (ψ X 127 [x0,χ 100] f λc j n=>(f.n<=n)/\(ζ 89 (υ m) (χ 5) λf=>δ j 3 f λf=>η .quo 3 f (χ 64) λf=>ψ X 127 [f,χ 8] j λf o p=>(j.n<=p)/\(η .add 3 (χ 1) f λf=>ζ 89 (υ m) (χ 5) λj=>δ o 3 j λj=>η .quo 3 j (χ 512) λj=>ψ X 127 [j,χ 8] o λj o q=>θ 60 [(0,c),(1,f),(2,j),(3,b),(4,(χ 0)),(5,(χ 4))] λb=>ι o 60 (υ a) b λb c=>ai (ah TE b 60 (υ a)) λa=>R [a] b (Ω m.n d g i k l h n p q c))))) (η .eql 3 h (χ 7) λb=>aR b (ζ 58 c (χ 0) λb=>δ j 141 b λb=>ζ 58 c (χ 2) λf=>δ j 141 f λf=>ζ 58 c (χ 3) λc=>δ j 141 c λc=>ν j 58 3 [(0,b),(1,f),(2,c)] λb c=>ζ 89 (υ m) (χ 5) λf=>δ c 3 f λf=>ψ X 127 [f,χ 4] c λc f h=>η .eql 3 c (χ 3) λc=>aR c (ζ 89 (υ m) (χ 5) λc=>δ f 3 c λc=>η .quo 3 c (χ 4) λc=>ψ X 127 [c,χ 4] f λc f j=>η .add 3 c (χ 1) λn=>ζ 89 (υ m) (χ 5) λo=>δ f 3 o λo=>η .quo 3 o (χ 16) λo=>ψ X 127 [o,χ 4] f λf o p=>η .add 3 n f λf=>ψ X 127 [x0,χ 100] o λn q r=>(o.n<=r)/\(ζ 89 (υ m) (χ 5) λo=>δ q 3 o λo=>η .quo 3 o (χ 64) λo=>ψ X 127 [o,χ 8] q λo s t=>(q.n<=t)/\(η .add 3 (χ 1) o λo=>ζ 89 (υ m) (χ 5) λq=>δ s 3 q λq=>η .quo 3 q (χ 512) λq=>ψ X 127 [q,χ 8] s λq s u=>θ 60 [(0,n),(1,o),(2,q),(3,b),(4,c),(5,f)] λb=>ι s 60 (υ a) b λb c=>ai (ah TE b 60 (υ a)) λa=>R [a] b (Y3 m.n d g i k l h j p r t u c)))) (ψ X 127 [x0,χ 100] f λc j n=>(f.n<=n)/\(ζ 89 (υ m) (χ 5) λf=>δ j 3 f λf=>η .quo 3 f (χ 64) λf=>ψ X 127 [f,χ 8] j λf o p=>(j.n<=p)/\(η .add 3 (χ 1) f λf=>ζ 89 (υ m) (χ 5) λj=>δ o 3 j λj=>η .quo 3 j (χ 512) λj=>ψ X 127 [j,χ 8] o λj o q=>θ 60 [(0,c),(1,f),(2,j),(3,b),(4,(χ 0)),(5,(χ 4))] λb=>ι o 60 (υ a) b λb c=>ai (ah TE b 60 (υ a)) λa=>R [a] b (Ω m.n d g i k l h n p q c))))) (ζ 89 (υ m) (χ 5) λb=>δ j 3 b λb=>ψ X 127 [b,χ 4] j λb f h=>η .eql 3 b (χ 3) λb=>aR b (ζ 89 (υ m) (χ 5) λb=>δ f 3 b λb=>η .quo 3 b (χ 4) λb=>ψ X 127 [b,χ 4] f λb f j=>η .add 3 b (χ 1) λn=>ζ 89 (υ m) (χ 5) λo=>δ f 3 o λo=>η .quo 3 o (χ 16) λo=>ψ X 127 [o,χ 4] f λf o p=>η .add 3 n f λf=>ψ X 127 [x0,χ 100] o λn q r=>(o.n<=r)/\(ζ 89 (υ m) (χ 5) λo=>δ q 3 o λo=>η .quo 3 o (χ 64) λo=>ψ X 127 [o,χ 8] q λo s t=>(q.n<=t)/\(η .add 3 (χ 1) o λo=>ζ 89 (υ m) (χ 5) λq=>δ s 3 q λq=>η .quo 3 q (χ 512) λq=>ψ X 127 [q,χ 8] s λq s u=>θ 60 [(0,n),(1,o),(2,q),(3,c),(4,b),(5,f)] λb=>ι s 60 (υ a) b λb c=>ai (ah TE b 60 (υ a)) λa=>R [a] b (Y3 m.n d g i k l h j p r t u c)))) (ψ X 127 [x0,χ 100] f λb j n=>(f.n<=n)/\(ζ 89 (υ m) (χ 5) λf=>δ j 3 f λf=>η .quo 3 f (χ 64) λf=>ψ X 127 [f,χ 8] j λf o p=>(j.n<=p)/\(η .add 3 (χ 1) f λf=>ζ 89 (υ m) (χ 5) λj=>δ o 3 j λj=>η .quo 3 j (χ 512) λj=>ψ X 127 [j,χ 8] o λj o q=>θ 60 [(0,b),(1,f),(2,j),(3,c),(4,(χ 0)),(5,(χ 4))] λb=>ι o 60 (υ a) b λb c=>ai (ah TE b 60 (υ a)) λa=>R [a] b (Ω m.n d g i k l h n p q c)))))))):=by kernel_rfl
theorem aap:dP TE (aL TE X) f171 [x0,x1] m R=ρ m x0 30 λa=>ρ a x1 60 λb=>ς b [YM] 30 λc=>δ c 30 (υ m) λd=>ψ X 128 [d] c λc d f=>ο .not c λc=>aR c (θ 30 [] λa=>ι d 30 (υ b) a λa c=>ai (ah TE a 30 (υ b)) λb=>R [b,χ 120] a (ω m.n f c)) (ς d [YM] 30 λc=>Lp (λc f g h=>un f λf i=>un i λi _=>ε 30 (υ m) 0 λj=>δ g 28 j λj=>κ g .len [28] [j] λj _=>η .lss 3 i j λj=>aR j (jn (λb=>ο .not f λc=>aR c (ε 30 (υ m) 0 λc=>δ g 28 c λc=>ζ 28 c i λc=>ε 60 c 0 λc=>δ g 3 c λc=>ε 60 (υ a) 0 λa=>δ g 3 a λa=>η .gtr 3 c a λa=>b [a] g h) (b [Zf] g h)) (λb g h=>un b λb _=>aR b (ε 30 (υ d) 0 λb=>δ g 28 b λb=>δ g 60 (υ a) λa=>ψ X 219 [a] g λa f j=>(g.n<=j)/\(ν f 28 1 [(0,a)] λa f=>κ (M.wl f f.n) .append [28,28] [b,a] λa b=>ε 30 (υ d) 0 λf=>ι b 28 f a λa f=>ε 30 (υ d) 0 λg=>δ a 28 g λg=>ε 30 (υ m) 0 λk=>δ a 28 k λk=>ζ 28 k i λk=>δ a 60 k λk=>ψ X 219 [k] a λk l n=>(a.n<=n)/\(ν l 28 1 [(0,k)] λa k=>κ (M.wl k k.n) .append [28,28] [g,a] λa g=>ε 30 (υ d) 0 λd=>ι g 28 d a λa d=>η .add 3 i (χ 1) λi=>c [Ku,i] a (Λ h j (M.low b) f n (M.low g) d)))) (ε 30 (υ d) 0 λa=>δ g 28 a λa=>ε 30 (υ m) 0 λb=>δ g 28 b λb=>ζ 28 b i λb=>δ g 60 b λb=>ψ X 219 [b] g λb j k=>(g.n<=k)/\(ν j 28 1 [(0,b)] λb g=>κ (M.wl g g.n) .append [28,28] [a,b] λa b=>ε 30 (υ d) 0 λd=>ι b 28 d a λa d=>η .add 3 i (χ 1) λg=>c [f,g] a (Γ h k (M.low b) d))))) (ο .not f λc=>aR c (ε 30 (υ d) 0 λc=>δ g 28 c λc=>δ g 60 (υ a) λa=>ψ X 219 [a] g λa f i=>(g.n<=i)/\(ν f 28 1 [(0,a)] λa f=>κ (M.wl f f.n) .append [28,28] [c,a] λa c=>ε 30 (υ d) 0 λf=>ι c 28 f a λa f=>δ a 30 (υ d) λg=>ψ X 128 [g] a λa g j=>ο .not a λa=>aR a (θ 30 [] λa=>ι g 30 (υ b) a λa d=>ai (ah TE a 30 (υ b)) λb=>R [b,χ 120] a (Θ h i (M.low c) f j d)) (δ g 30 (υ d) λa=>ι g 30 (υ b) a λa d=>ai (ah TE a 30 (υ b)) λb=>R [b,χ 0] a (Θ h i (M.low c) f j d)))) (δ g 30 (υ d) λa=>ψ X 128 [a] g λa c f=>ο .not a λa=>aR a (θ 30 [] λa=>ι c 30 (υ b) a λa c=>ai (ah TE a 30 (υ b)) λb=>R [b,χ 120] a (ω h f c)) (δ c 30 (υ d) λa=>ι c 30 (υ b) a λa c=>ai (ah TE a 30 (υ b)) λb=>R [b,χ 0] a (ω h f c))))) [Zf,χ 0] c (min m.n f)):=by kernel_rfl
theorem aaO:dP TE (aL TE X) f124 [x0] m R=ς m [YM] 30 λa=>ς a [YM] 30 λb=>Lp (λb c d f=>un c λc _=>jn (λa=>κ d .len [22] [x0] λb _=>η .lss 3 c b λb=>aR b (η .lss 3 c (χ 12) λb=>a [b] d f) (a [Zf] d f)) (λd f g=>un d λd _=>aR d (δ f 30 (υ a) λd=>η .mul 3 (χ 3) c λh=>ζ 22 x0 c λi=>ζ 89 i (χ 5) λi=>δ f 3 i λi=>ψ X 127 [i,χ 3] f λi j k=>(f.n<=k)/\(η .add 3 h i λf=>ζ 22 x0 c λh=>δ j 89 h λh=>ψ X 67 [f,h] j λf h i=>(j.n<=i)/\(ψ X 171 [d,f] h λd f j=>(h.n<=j)/\(ξ d 0 λh=>ξ d 1 λd=>ς f [YM] 30 λl=>ι l 30 (υ f) h λh l=>η .eql 46 d (χ 0) λd=>aR d (δ h 30 (υ f) λd=>ι h 30 (υ a) d λa d=>η .add 3 c (χ 1) λc=>b [c] a (Θ g k i j l d)) (η .add 3 c (χ 1) λa=>b [a] h (Δ g k i j l)))))) (δ f 30 (υ a) λa=>ι f 30 (υ m) a λa b=>ai (ah TE a 30 (υ m)) λc=>R [c] a (min g b)))) [χ 0] b m.n:=by kernel_rfl
theorem ZI:dP TE (aL TE X) f238 [x0,x1] m R=ρ m x0 60 λa=>ε 60 (υ m) 0 λb=>δ a 3 b λb=>ψ X 59 [b,x1] a λa b c=>R [a] b (min m.n c):=by kernel_rfl
theorem ad3:dP TE (aL TE X) f237 [x0,x1,x2] m R=κ m .len [28] [x0] λa _=>Lp (λb c d f=>un c λc g=>un g λg _=>η .lss 3 c g λh=>aR h (η .add 3 c g λa=>ai (SZ TE d 3 159 a) λa=>η .shr 159 a (.int .u64 1) λa=>ai (SZ TE d 159 3 a) λa=>ζ 28 x0 a λh=>δ d 60 h λh=>gL x2 λi j k=>bs TE X i (j.toList++([h,x1]++k.toList)) d λd h i=>η .lss 3 d (χ 0) λd=>aR d (η .add 3 a (χ 1) λa=>b [a,g] h (min f i)) (b [c,a] h (min f i))) (jn (λb=>η .lss 3 c a λa=>aR a (ζ 28 x0 c λa=>δ d 60 a λa=>gL x2 λg h i=>bs TE X g (h.toList++([a,x1]++i.toList)) d λa d g=>η .eql 3 a (χ 0) λa=>b [c,a] d (min f g)) (b [c,Zf] d f)) (λa b c=>un a λa d=>un d λd _=>R [a,d] b c))) [χ 0,a] m m.n:=by kernel_rfl
theorem Z3:dP TE (aL TE X) f198 [x0,x1] m R=ρ m x0 30 λa=>ς a [χ 0,χ 0,χ 0,YM,χ 0,χ 0] 60 λb=>δ b 30 (υ m) λc=>ψ X 152 [c] b λb c d=>ο .not b λb=>aR b (θ 60 [] λb=>ι c 60 (υ a) b λb c=>ai (ah TE b 60 (υ a)) λa=>R [a,Zf] b (ω m.n d c)) (ε 30 (υ m) 0 λb=>δ c 28 b λb=>ψ X 237 [b,x1,.func (.func 238) #[] #[]] c λb c f=>ξ b 0 λg=>ξ b 1 λb=>ο .not b λb=>aR b (θ 60 [] λb=>ι c 60 (υ a) b λb c=>ai (ah TE b 60 (υ a)) λa=>R [a,Zf] b (Γ m.n d f c)) (ε 30 (υ m) 0 λb=>δ c 28 b λb=>ζ 28 b g λb=>δ c 60 b λb=>ς c [χ 0,χ 0,χ 0,YM,χ 0,χ 0] 60 λg=>ι g 60 (υ c) b λb g=>ε 60 (υ c) 3 λh=>δ b 58 h λh=>ψ X 82 [h] b λb h i=>ε 60 (υ c) 3 λj=>ι h 58 j b λb h=>δ b 60 (υ c) λc=>ι b 60 (υ a) c λb c=>ai (ah TE b 60 (υ a)) λa=>R [a,Ku] b (Λ m.n d f g i h c))):=by kernel_rfl
end
end
section
section
variable {X:aK}{x0 x1 x2:Φ}{m:M}{R:Bt->M->Nat->Prop}
theorem aaa:dP TE (aL TE X) f191 [x0,x1] m R=ψ X 231 [x0,x1] m λa b c=>ξ a 0 λ_=>ξ a 1 λ_=>ξ a 2 λa=>jn (λd=>ψ X 170 [x0] b λb f g=>aR b (ψ X 170 [x1] f λb f h=>aR b (ο .not a λa=>d [a] f (Γ m.n c g h)) (d [Zf] f (Γ m.n c g h))) (d [Zf] f (ω m.n c g))) (λa b c=>un a λa _=>R [a] b c):=by kernel_rfl
theorem ZO:dP TE (aL TE X) f231 [x0,x1] m R=jn (λa=>ψ X 170 [x0] m λb c d=>ο .not b λb=>aR b (a [Ku] c (min m.n d)) (ψ X 170 [x1] c λb c f=>ο .not b λb=>a [b] c (ω m.n d f))) (λa b c=>un a λa _=>aR a (R [χ 0,χ 0,Zf] b c) (ψ X 308 [x0,x1] b λa b d=>η .geq 3 a (χ 0) λf=>aR f (R [χ 0,a,Ku] b (min c d)) (ψ X 308 [x1,x0] b λa b f=>η .geq 3 a (χ 0) λg=>aR g (R [χ 1,a,Ku] b (ω c d f)) (R [χ 0,χ 0,Zf] b (ω c d f))))):=by kernel_rfl
theorem abC:dP TE (aL TE X) f308 [x0,x1] m R=ρ m x1 58 λa=>ς a [χ 0] 3 λb=>ς b [χ 0] 3 λc=>ι c 3 (υ b) (χ 0) λc d=>ψ X 192 [x0] c λc f g=>gL c λc h i=>RF TE X c h.toList i.toList f (ω m.n d g) (λc d g=>un c λc h=>un h λh i=>GX i (ς d [χ 0,χ 0] 141 λi=>ι i 141 (υ d) c λc i=>ς c [χ 0,χ 0] 141 λj=>ι j 141 (υ c) h λh j=>P7 f.n d h λh=>δ h 58 (υ m) λk=>ψ X 217 [k,.func (.func 332) #[] #[υ d,υ c]] h λc k l=>ο .not c λc=>aR c (δ k 3 (υ b) λb=>ι k 3 (υ a) b λa b=>g h .ret a (Θ d.n i j f.n l b)) (δ k 3 (υ b) λa=>η .add 3 a (χ 1) λa=>ι k 3 (υ b) a λa b=>g h .normal a (Θ d.n i j f.n l b)))) (λb c=>ι b 3 (υ a) (χ (-1)) λb d=>ai (ah TE b 3 (υ a)) λa=>R [a] b (min c d)) [(.ret,λb c=>ai (ah TE b 3 (υ a)) λa=>R [a] b c)]:=by kernel_rfl
theorem Zw:dP TE (aL TE X) f332 [x0,x1,x2] m R=ρ m x0 141 λa=>δ a 141 x1 λb=>δ a 141 x2 λc=>δ a 141 (υ m) λd=>ψ X 193 [b,c,d] a λa b c=>η .gtr 3 a (χ 0) λa=>R [a] b (min m.n c):=by kernel_rfl
end
end
end Go.Proofs.YtigpcbodmjjaiaaGreatDoor
namespace Go.tL
structure V where
 x:Int
 y:Int
 w:Int
def V.dot(f p:V):Int:=f.x*p.x+f.y*p.y+f.w*p.w
def mw(p q r:V):Int:=p.x*(q.y*r.w-q.w*r.y)-p.y*(q.x*r.w-q.w*r.x)+p.w*(q.x*r.y-q.y*r.x)
theorem W1{p q r s:V}(hp:0<p.w):∃a b c d:Int,(a≠0\/b≠0\/c≠0\/d≠0)/\a*p.x+b*q.x+c*r.x+d*s.x=0/\a*p.y+b*q.y+c*r.y+d*s.y=0/\a*p.w+b*q.w+c*r.w+d*s.w=0:=by
 by_cases H:mw q r s=0/\mw p r s=0/\mw p q s=0/\mw p q r=0
 ·have hd:=H.2.2.2;unfold mw at hd;by_cases h1:q.x*r.w-r.x*q.w=0/\r.x*p.w-p.x*r.w=0/\p.x*q.w-q.x*p.w=0
  ·by_cases h2:q.y*r.w-r.y*q.w=0/\r.y*p.w-p.y*r.w=0/\p.y*q.w-q.y*p.w=0;·exact⟨q.w, -p.w,0,0,.inr (.inl (by omega)),by grind,by grind,by grind⟩
   exact⟨q.y*r.w-r.y*q.w,r.y*p.w-p.y*r.w,p.y*q.w-q.y*p.w,0,by grind,by grind,by grind,by grind⟩
  exact⟨q.x*r.w-r.x*q.w,r.x*p.w-p.x*r.w,p.x*q.w-q.x*p.w,0,by grind,by grind,by grind,by grind⟩
 exact⟨mw q r s,-mw p r s,mw p q s,-mw p q r,by grind,by unfold mw;grind,by unfold mw;grind,by unfold mw;grind⟩
theorem wg{A B C D u v w z:Int}(hA:0<=A)(hB:0<=B)(hC:0<=C)(hD:0<=D)(hs:0<A\/0<B\/0<C\/0<D)(hu:A≠0->0<u)(hv:B≠0->0<v)(hw:C≠0->0<w)(hz:D≠0->0<z):0<A*u+B*v+C*w+D*z:=by
 have k:∀{a b:Int},0<=a->(a≠0->0<b)->0<=a*b/\(0<a->0<a*b):=λ{a b} h1 H=>by
  by_cases h:a=0;·subst h;simp
  exact⟨EA (Dk (by omega) (H h)),λh'=>Dk h' (H h)⟩
 have k1:=k hA hu;have k2:=k hB hv;have k3:=k hC hw;have k4:=k hD hz;omega
theorem T6{f0 f1 f2 f3 p0 H p2 p3:V}{R:List V}(w0:0<p0.w)(w1:0<H.w)(w2:0<p2.w)(w3:0<p3.w)
  (h0:∀f,f=f1\/f=f2\/f=f3\/f∈R->0<f.dot p0) (h1:∀f,f=f0\/f=f2\/f=f3\/f∈R->0<f.dot H)
  (h2:∀f,f=f0\/f=f1\/f=f3\/f∈R->0<f.dot p2) (h3:∀f,f=f0\/f=f1\/f=f2\/f∈R->0<f.dot p3):
  ∃q:V,0<q.w/\∀f,f=f0\/f=f1\/f=f2\/f=f3\/f∈R->0<f.dot q:=by
 have⟨a,b,c,d,hn,hx,hy,hw⟩:=W1 (q:=H) (r:=p2) (s:=p3) w0;have a0:0<a\/0<b\/0<c\/0<d:=Ty λhc=>by have:=wg (A:= -a) (B:= -b) (C:= -c) (D:= -d) (by omega) (by omega) (by omega) (by omega) (by omega) (λ_=>w0) (λ_=>w1) (λ_=>w2) (λ_=>w3);simp only[zE]at this;omega
 have b0:0 < -a\/0 < -b\/0 < -c\/0 < -d:=Ty λhc=>by have:=wg (A:=a) (B:=b) (C:=c) (D:=d) (by omega) (by omega) (by omega) (by omega) (by omega) (λ_=>w0) (λ_=>w1) (λ_=>w2) (λ_=>w3);omega
 obtain⟨A,hA⟩:∃A,A=max a 0:=⟨_,rfl⟩
 obtain⟨B,hB⟩:∃A,A=max b 0:=⟨_,rfl⟩
 obtain⟨C,hC⟩:∃A,A=max c 0:=⟨_,rfl⟩
 obtain⟨D,hD⟩:∃A,A=max d 0:=⟨_,rfl⟩
 have e1:∀f:V,f.dot ⟨A*p0.x+B*H.x+C*p2.x+D*p3.x,A*p0.y+B*H.y+C*p2.y+D*p3.y,A*p0.w+B*H.w+C*p2.w+D*p3.w⟩=A*f.dot p0+B*f.dot H+C*f.dot p2+D*f.dot p3:=λf=>by unfold V.dot;grind
 have e2:∀f:V,A*f.dot p0+B*f.dot H+C*f.dot p2+D*f.dot p3=(A-a)*f.dot p0+(B-b)*f.dot H+(C-c)*f.dot p2+(D-d)*f.dot p3:=λf=>by
  have:a*f.dot p0+b*f.dot H+c*f.dot p2+d*f.dot p3=f.x*(a*p0.x+b*H.x+c*p2.x+d*p3.x)+f.y*(a*p0.y+b*H.y+c*p2.y+d*p3.y)+f.w*(a*p0.w+b*H.w+c*p2.w+d*p3.w):=by unfold V.dot;grind
  rw[hx,hy,hw]at this;simp only[Int.sub_mul];omega
 refine⟨⟨A*p0.x+B*H.x+C*p2.x+D*p3.x,A*p0.y+B*H.y+C*p2.y+D*p3.y,A*p0.w+B*H.w+C*p2.w+D*p3.w⟩,?_,λf hf=>?_⟩
 rotate_left
 ·rw[e1 f];rcases hf with rfl|rfl|rfl|rfl|hf
  ·rcases OV 0 a with ha|ha;·rw[e2];exact wg (by omega) (by omega) (by omega) (by omega) (by omega) (λh=>absurd h (by omega)) (λ_=>h1 _ (by simp)) (λ_=>h2 _ (by simp)) (λ_=>h3 _ (by simp))
   exact wg (by omega) (by omega) (by omega) (by omega) (by omega) (λh=>absurd h (by omega)) (λ_=>h1 _ (by simp)) (λ_=>h2 _ (by simp)) (λ_=>h3 _ (by simp))
  ·rcases OV 0 b with ha|ha;·rw[e2];exact wg (by omega) (by omega) (by omega) (by omega) (by omega) (λ_=>h0 _ (by simp)) (λh=>absurd h (by omega)) (λ_=>h2 _ (by simp)) (λ_=>h3 _ (by simp))
   exact wg (by omega) (by omega) (by omega) (by omega) (by omega) (λ_=>h0 _ (by simp)) (λh=>absurd h (by omega)) (λ_=>h2 _ (by simp)) (λ_=>h3 _ (by simp))
  ·rcases OV 0 c with ha|ha;·rw[e2];exact wg (by omega) (by omega) (by omega) (by omega) (by omega) (λ_=>h0 _ (by simp)) (λ_=>h1 _ (by simp)) (λh=>absurd h (by omega)) (λ_=>h3 _ (by simp))
   exact wg (by omega) (by omega) (by omega) (by omega) (by omega) (λ_=>h0 _ (by simp)) (λ_=>h1 _ (by simp)) (λh=>absurd h (by omega)) (λ_=>h3 _ (by simp))
  ·rcases OV 0 d with ha|ha;·rw[e2];exact wg (by omega) (by omega) (by omega) (by omega) (by omega) (λ_=>h0 _ (by simp)) (λ_=>h1 _ (by simp)) (λ_=>h2 _ (by simp)) (λh=>absurd h (by omega))
   exact wg (by omega) (by omega) (by omega) (by omega) (by omega) (λ_=>h0 _ (by simp)) (λ_=>h1 _ (by simp)) (λ_=>h2 _ (by simp)) (λh=>absurd h (by omega))
  exact wg (by omega) (by omega) (by omega) (by omega) (by omega) (λ_=>h0 _ (by simp[hf])) (λ_=>h1 _ (by simp[hf])) (λ_=>h2 _ (by simp[hf])) (λ_=>h3 _ (by simp[hf]))
 ·exact wg (by omega) (by omega) (by omega) (by omega) (by omega) (λ_=>w0) (λ_=>w1) (λ_=>w2) (λ_=>w3)
theorem DZ:∀(n:Nat) (F:List V),F.length<=n->(∀f∈F,∀g∈F,∀h∈F,∃p:V,0<p.w/\0<f.dot p/\0<g.dot p/\0<h.dot p)->∃p:V,0<p.w/\∀f∈F,0<f.dot p
 |_,[],_,_=>⟨⟨0,0,1⟩,by decide,by simp⟩
 |_,[f],_,h=>by
  obtain⟨p,hp,h1,_,_⟩:=h f (by simp) f (by simp) f (by simp);exact⟨p,hp,by simpa using h1⟩
 |_,[f,g],_,h=>by
  obtain⟨p,hp,h1,h2,_⟩:=h f (by simp) g (by simp) g (by simp);exact⟨p,hp,by simpa using⟨h1,h2⟩⟩
 |_,[f,g,k],_,h=>by
  obtain⟨p,hp,h1,h2,h3⟩:=h f (by simp) g (by simp) k (by simp);exact⟨p,hp,by simpa using⟨h1,h2,h3⟩⟩
 |0,_::_::_::_::_,hl,_=>by simp at hl
 |n+1,f0::f1::f2::f3::R,hl,h=>by
  have hl:R.length+3<=n:=by simp only[zG]at hl;omega
  obtain⟨p0,w0,k0⟩:=DZ n (f1::f2::f3::R) (by simp only[zG];omega) λf H g hg k hk=>h f (.tail _ H) g (.tail _ hg) k (.tail _ hk);have s1:∀f,f∈f0::f2::f3::R->f∈f0::f1::f2::f3::R:=λf H=>by simp only[RN]at H⊢;rcases H with H|H|H|H <;>simp[H]
  have s2:∀f,f∈f0::f1::f3::R->f∈f0::f1::f2::f3::R:=λf H=>by simp only[RN]at H⊢;rcases H with H|H|H|H <;>simp[H]
  have s3:∀f,f∈f0::f1::f2::R->f∈f0::f1::f2::f3::R:=λf H=>by simp only[RN]at H⊢;rcases H with H|H|H|H <;>simp[H]
  obtain⟨p1,w1,k1⟩:=DZ n (f0::f2::f3::R) (by simp only[zG];omega) λf H g hg k hk=>h f (s1 f H) g (s1 g hg) k (s1 k hk);obtain⟨p2,w2,k2⟩:=DZ n (f0::f1::f3::R) (by simp only[zG];omega) λf H g hg k hk=>h f (s2 f H) g (s2 g hg) k (s2 k hk);obtain⟨p3,w3,k3⟩:=DZ n (f0::f1::f2::R) (by simp only[zG];omega) λf H g hg k hk=>h f (s3 f H) g (s3 g hg) k (s3 k hk);obtain⟨q,wq,kq⟩:=T6 (f0:=f0) (f1:=f1) (f2:=f2) (f3:=f3) (R:=R) w0 w1 w2 w3 (λf H=>k0 f (by simpa using H)) (λf H=>k1 f (by simpa using H)) (λf H=>k2 f (by simpa using H)) (λf H=>k3 f (by simpa using H));exact⟨q,wq,λf H=>kq f (by simpa using H)⟩
def V.go(p:V)(D N:Int)(d:V):V:=⟨D*p.x+N*d.x,D*p.y+N*d.y,D*p.w+N*d.w⟩
theorem nN(f p d:V)(D N:Int):f.dot (p.go D N d)=D*f.dot p+N*f.dot d:=by unfold V.dot V.go;grind
theorem ratio(p d:V):∀(L:List V),(∀f∈L,0<=f.dot p)->(∃f∈L,f.dot d<0)->∃i∈L,i.dot d<0/\∀j∈L,j.dot d<0->i.dot p*(-(j.dot d))<=j.dot p*(-(i.dot d))
 |[],_,h=>by have⟨f,hf,_⟩:=h;cases hf
 |f::L,hp,h=>by
  by_cases hL:∃g∈L,g.dot d<0
  ·obtain⟨i,hi,h1,h2⟩:=ratio p d L (λg hg=>hp g (.tail _ hg)) hL;by_cases hf:f.dot d<0
   ·by_cases hc:i.dot p*(-(f.dot d))<=f.dot p*(-(i.dot d))
    ·refine⟨i,.tail _ hi,h1,λj H hd=>?_⟩;rcases RN.1 H with rfl|H;·exact hc
     ·exact h2 j H hd
    ·refine⟨f,.head _,hf,λj H hd=>?_⟩;rcases RN.1 H with rfl|H;·exact On _
     ·have h2:=h2 j H hd;have hc:f.dot p*(-(i.dot d))<=i.dot p*(-(f.dot d)):=by omega
      generalize f.dot p=fp at*;generalize i.dot p=ip at*;generalize j.dot p=jp at*;generalize f.dot d=fd at*;generalize i.dot d=id at*;generalize j.dot d=jd at*;have a1:(fp*(-id))*(-jd)<=(ip*(-fd))*(-jd):=Wf hc (by omega);have a2:(ip*(-jd))*(-fd)<=(jp*(-id))*(-fd):=Wf h2 (by omega);have a3:(fp*(-jd))*(-id)<=(jp*(-fd))*(-id):=by
       have b1:(fp*(-jd))*(-id)=(fp*(-id))*(-jd):=by grind
       have b2:(ip*(-fd))*(-jd)=(ip*(-jd))*(-fd):=by grind
       have b3:(jp*(-fd))*(-id)=(jp*(-id))*(-fd):=by grind
       omega
      exact Int.le_of_mul_le_mul_right a3 (by omega)
   ·refine⟨i,.tail _ hi,h1,λj H hd=>?_⟩;rcases RN.1 H with rfl|H;·exact absurd hd hf
    ·exact h2 j H hd
  ·have⟨g,hg,hd⟩:=h;rcases RN.1 hg with rfl|hg
   ·refine⟨g,.head _,hd,λj H a0=>?_⟩;rcases RN.1 H with rfl|H;·exact On _
    ·exact absurd ⟨j,H,a0⟩ hL
   ·exact absurd ⟨g,hg,hd⟩ hL
theorem step{L:List V}{p d:V}(hw:0<p.w)(hd:d.w=0)(H:∀f∈L,0<=f.dot p)(hb:∃f∈L,f.dot d<0):
  ∃i∈L,i.dot d<0/\∃D N:Int,0<D/\0<=N/\0<(p.go D N d).w/\(∀f∈L,0<=f.dot (p.go D N d))/\i.dot (p.go D N d)=0:=by
 have⟨i,hi,h1,h2⟩:=ratio p d L H hb;refine⟨i,hi,h1, -(i.dot d),i.dot p,by omega,H i hi,?_,λf hf=>?_,?_⟩;·show 0 < -(i.dot d)*p.w+i.dot p*d.w;rw[hd,BV,Int.add_zero];exact Dk (by omega) hw
 ·rw[nN];by_cases a0:f.dot d<0;·have:=h2 f hf a0;have e1: -(i.dot d)*f.dot p=f.dot p*(-(i.dot d)):=Int.mul_comm _ _;have e2:i.dot p* -(f.dot d)= -(i.dot p*f.dot d):=RO _ _;omega
  have a1:0<= -(i.dot d)*f.dot p:=KQ (by omega) (H f hf);have a2:0<=i.dot p*f.dot d:=KQ (H i hi) (by omega);omega
 rw[nN,zE,Int.mul_comm (i.dot p)];omega
theorem sq_nonneg(a:Int):0<=a*a:=by
 rcases Int.le_total 0 a with h|h;·exact KQ h h
 exact Int.mul_nonneg_of_nonpos_of_nonpos h h
theorem zd{L:List V}(hb:∀d:V,d.w=0->d.x≠0\/d.y≠0->∃f∈L,f.dot d<0){p:V}(hw:0<p.w)(hp:∀f∈L,0<=f.dot p)(g:V)(hg:0<g.dot p):
  ∃i∈L,∃k∈L,∃v:V,0<v.w/\(∀f∈L,0<=f.dot v)/\i.dot v=0/\k.dot v=0/\i.x*k.y-k.x*i.y≠0/\0<g.dot v:=by
 obtain⟨d,hd,a0,b0⟩:∃d:V,d.w=0/\(d.x≠0\/d.y≠0)/\0<=g.dot d:=by
  by_cases h:g.x=0/\g.y=0;·exact⟨⟨1,0,0⟩,rfl,.inl (by decide),by simp[V.dot,h.1]⟩
  refine⟨⟨g.x,g.y,0⟩,rfl,by show g.x≠0\/g.y≠0;omega,?_⟩;have:=sq_nonneg g.x;have:=sq_nonneg g.y;show 0<=g.x*g.x+g.y*g.y+g.w*0;omega
 have⟨i,hi,d0,D,N,hD,hN,w1,p1,z1⟩:=step hw hd hp (hb d hd a0);have g1:0<g.dot (p.go D N d):=by rw[nN];have:=Dk hD hg;have:=KQ hN b0;omega
 generalize p.go D N d=q at*;have k0:i.x≠0\/i.y≠0:=Ty λhc=>by
  have e1:i.x=0:=by omega
  have e2:i.y=0:=by omega
  simp[V.dot,e1,e2,hd]at d0
 obtain⟨e,he,e0,g0,H⟩:∃e:V,e.w=0/\(e.x≠0\/e.y≠0)/\0<=g.dot e/\(e=⟨i.y, -i.x,0⟩\/e=⟨-i.y,i.x,0⟩):=by
  rcases Int.le_total 0 (g.x*i.y-g.y*i.x)with h|h;·refine⟨⟨i.y, -i.x,0⟩,rfl,by show i.y≠0\/ -i.x≠0;omega,?_,.inl rfl⟩;show 0<=g.x*i.y+g.y*(-i.x)+g.w*0;rw[RO];omega
  refine⟨⟨-i.y,i.x,0⟩,rfl,by show -i.y≠0\/i.x≠0;omega,?_,.inr rfl⟩;show 0<=g.x*(-i.y)+g.y*i.x+g.w*0;rw[RO];omega
 have⟨k,hk,l0,D',N',i0,j0,w2,p2,z2⟩:=step w1 he p1 (hb e he e0);refine⟨i,hi,k,hk,q.go D' N' e,w2,p2,?_,z2,?_,?_⟩;·rw[nN,z1];rcases H with rfl|rfl <;>(unfold V.dot;grind)
 ·intro hc;rcases H with rfl|rfl
  ·have:k.dot ⟨i.y, -i.x,0⟩= -(i.x*k.y-k.x*i.y):=by unfold V.dot;grind
   omega
  have:k.dot ⟨-i.y,i.x,0⟩=i.x*k.y-k.x*i.y:=by unfold V.dot;grind
  omega
 rw[nN];have:=Dk i0 g1;have:=KQ j0 g0;omega
def meet(f g:V):V:=⟨f.y*g.w-g.y*f.w,f.w*g.x-g.w*f.x,f.x*g.y-g.x*f.y⟩
def V.neg(p:V):V:=⟨-p.x, -p.y, -p.w⟩
def norm(p:V):V:=if p.w < 0 then p.neg else p
theorem DG{p:V}(h:p.w≠0):0<(norm p).w:=by
 unfold norm;split;·show 0 < -p.w;omega
 omega
theorem DM{f g v:V}(H:f.dot v=0)(hg:g.dot v=0)(h:V):v.w*h.dot (norm (meet f g))=(norm (meet f g)).w*h.dot v:=by
 have ex:(meet f g).w*v.x=v.w*(meet f g).x:=by unfold V.dot at H hg;unfold meet;grind
 have ey:(meet f g).w*v.y=v.w*(meet f g).y:=by unfold V.dot at H hg;unfold meet;grind
 have key:v.w*h.dot (meet f g)=(meet f g).w*h.dot v:=by unfold V.dot;grind
 unfold norm;split
 ·have e1:h.dot (meet f g).neg= -(h.dot (meet f g)):=by unfold V.dot V.neg;grind
  have e2:(meet f g).neg.w= -(meet f g).w:=rfl;rw[e1,e2,RO,zE,key]
 exact key
def jb(L:List V)(v:V):Prop:=∃f∈L,∃g∈L,(meet f g).w≠0/\v=norm (meet f g)/\∀h∈L,0<=h.dot v
theorem qy{L:List V}(hb:∀d:V,d.w=0->d.x≠0\/d.y≠0->∃f∈L,f.dot d<0){p:V}(hw:0<p.w)(hp:∀f∈L,0<=f.dot p)(g:V)(hg:0<g.dot p):∃v,jb L v/\0<v.w/\0<g.dot v:=by
 have⟨i,hi,k,hk,v,wv,pv,z1,z2,hn,gv⟩:=zd hb hw hp g hg;have hm:(meet i k).w≠0:=hn;have H:=DG hm;refine⟨norm (meet i k),⟨i,hi,k,hk,hm,rfl,λh hh=>?_⟩,H,?_⟩;·have e:=DM z1 z2 h;have:=KQ (EA H) (pv h hh);rw[<-e]at this;exact Int.nonneg_of_mul_nonneg_right this wv
 have e:=DM z1 z2 g;have:=Dk H gv;rw[<-e]at this;exact Int.pos_of_mul_pos_right this wv
theorem three{L:List V}(d0:∃f,f∈L)(hb:∀d:V,d.w=0->d.x≠0\/d.y≠0->∃f∈L,f.dot d<0){p:V}(hw:0<p.w)(hp:∀f∈L,0<f.dot p):
  ∃a b c,jb L a/\jb L b/\jb L c/\mw a b c≠0:=by
 have b0:∀f∈L,0<=f.dot p:=λf hf=>EA (hp f hf);obtain⟨a,ca,wa,_⟩:=qy hb hw b0 ⟨0,0,1⟩ (by show 0<0*p.x+0*p.y+1*p.w;omega);have d0:p.x*a.w-a.x*p.w≠0\/p.y*a.w-a.y*p.w≠0:=Ty λhc=>by
  obtain⟨f,hf,g,hg,hm,rfl,h0⟩:=ca;have hz:f.dot (norm (meet f g))=0:=by unfold norm;split <;>(unfold V.dot;simp only[V.neg,meet];grind)
  have h1:=hp f hf;have e:(norm (meet f g)).w*f.dot p=p.w*f.dot (norm (meet f g)):=by
   unfold V.dot;grind
  rw[hz,BV]at e;have:=Dk wa h1;omega
 obtain⟨b,cb,wb,k0⟩:=qy hb hw b0 ⟨(p.x*a.w-a.x*p.w)*a.w,(p.y*a.w-a.y*p.w)*a.w, -((p.x*a.w-a.x*p.w)*a.x+(p.y*a.w-a.y*p.w)*a.y)⟩ (by
  have e:(V.mk ((p.x*a.w-a.x*p.w)*a.w) ((p.y*a.w-a.y*p.w)*a.w) (-((p.x*a.w-a.x*p.w)*a.x+(p.y*a.w-a.y*p.w)*a.y))).dot p=(p.x*a.w-a.x*p.w)*(p.x*a.w-a.x*p.w)+(p.y*a.w-a.y*p.w)*(p.y*a.w-a.y*p.w):=by unfold V.dot;grind
  rw[e];generalize p.x*a.w-a.x*p.w=u at*;generalize p.y*a.w-a.y*p.w=v at*;have h1:=sq_nonneg u;have h2:=sq_nonneg v;have h3:u≠0->u*u≠0:=λh H=>by rcases F7.1 H with H|H <;>exact h H
  have h4:v≠0->v*v≠0:=λh H=>by rcases F7.1 H with H|H <;>exact h H
  rcases d0 with h|h;·have:=h3 h;omega
  have:=h4 h;omega)
 have i0:a.y*b.w-a.w*b.y≠0\/a.w*b.x-a.x*b.w≠0:=Ty λhc=>by
  have e1:a.y*b.w-a.w*b.y=0:=by omega
  have e2:a.w*b.x-a.x*b.w=0:=by omega
  have:(V.mk ((p.x*a.w-a.x*p.w)*a.w) ((p.y*a.w-a.y*p.w)*a.w) (-((p.x*a.w-a.x*p.w)*a.x+(p.y*a.w-a.y*p.w)*a.y))).dot b=0:=by unfold V.dot;grind
  omega
 obtain⟨g,hg⟩:∃g:V,g=⟨a.y*b.w-a.w*b.y,a.w*b.x-a.x*b.w,a.x*b.y-a.y*b.x⟩:=⟨_,rfl⟩
 have a0:∀c:V,mw a b c=g.dot c:=λc=>by rw[hg];unfold mw V.dot;grind
 have j0:g.x≠0\/g.y≠0:=by rw[hg];exact i0
 obtain⟨q,wq,pq,gq⟩:∃q:V,0<q.w/\(∀f∈L,0<=f.dot q)/\g.dot q≠0:=by
  by_cases e0:g.dot p=0
  ·obtain⟨K,hK⟩:∃K:Int,0<K/\∀f∈L, -K<=f.x*g.x+f.y*g.y:=by
    have g0:∀L:List V,∃K:Int,0<K/\∀f∈L, -K<=f.x*g.x+f.y*g.y:=λL=>by
     induction L with
     |nil=>exact⟨1,by decide,λf hf=>by cases hf⟩
     |cons f L ih=>
      have⟨K,h1,h2⟩:=ih;refine⟨max K (-(f.x*g.x+f.y*g.y)),by omega,λh hh=>?_⟩;rcases RN.1 hh with rfl|hh;·omega
      have:=h2 h hh;omega
    exact g0 L
   refine⟨p.go K 1 ⟨g.x,g.y,0⟩,?_,λf hf=>?_,?_⟩;·show 0<K*p.w+1*0;have:=Dk hK.1 hw;omega
   ·rw[nN];have h1:=hK.2 f hf;have h2:f.dot ⟨g.x,g.y,0⟩=f.x*g.x+f.y*g.y:=by unfold V.dot;grind
    have h3:K*1<=K*f.dot p:=Tz (by have:=hp f hf;omega) (EA hK.1);omega
   rw[nN,e0,BV];have h2:g.dot ⟨g.x,g.y,0⟩=g.x*g.x+g.y*g.y:=by unfold V.dot;grind
   rw[h2];have h1:=sq_nonneg g.x;have h2:=sq_nonneg g.y;have h3:g.x≠0->g.x*g.x≠0:=λh H=>by rcases F7.1 H with H|H <;>exact h H
   have h4:g.y≠0->g.y*g.y≠0:=λh H=>by rcases F7.1 H with H|H <;>exact h H
   rcases j0 with h|h;·have:=h3 h;omega
   have:=h4 h;omega
  exact⟨p,hw,b0,e0⟩
 rcases Int.lt_or_gt_of_ne gq with h|h
 ·have e:∀c,(V.neg g).dot c= -(g.dot c):=λc=>by unfold V.dot V.neg;grind
  obtain⟨c,cc,_,hc⟩:=qy hb wq pq (V.neg g) (by rw[e];omega);exact⟨a,b,c,ca,cb,cc,by rw[a0];rw[e]at hc;omega⟩
 have⟨c,cc,_,hc⟩:=qy hb wq pq g h;exact⟨a,b,c,ca,cb,cc,by rw[a0];omega⟩
end Go.tL
namespace Go.Proofs.YtigpcbodmjjaiaaGreatDoor
section
open Go Go.D Go.tL Go.Proofs.Tryz
def Pl.h(p:Pl):V:=⟨p.x,p.y,1⟩
def lG(a b:Pl):V:=⟨a.y-b.y,b.x-a.x,(b.y-a.y)*a.x-(b.x-a.x)*a.y⟩
theorem kJ(a b c:Pl):(lG a b).dot c.h=df a b c:=by unfold V.dot lG Pl.h df;grind
def gj(l:List Pl)(i:Nat):Pl:=(l[i]?).getD ⟨0,0⟩
theorem tI{l:List Pl}{i:Nat}(h:i<l.length):l[i]?=some (gj l i):=by unfold gj;rw[Fx h];rfl
theorem RX{l:List Pl}{q:Pl}(h:q∈l):∃k,k<l.length/\gj l k=q:=by obtain⟨k,hk,rfl⟩:=List.getElem_of_mem h;exact⟨k,hk,by unfold gj;rw[Fx hk];rfl⟩
theorem GG{l:List Pl}{i:Nat}(h:i<l.length):gj l i∈l:=LZ (tI h)
def fE(l:List Pl)(i:Nat):V:=lG (gj l i) (gj l ((i+1)%l.length))
def qw(l:List Pl):List V:=(List.range l.length).map (fE l)
theorem kg{l:List Pl}{f:V}:f∈qw l↔∃i,i<l.length/\f=fE l i:=by
 unfold qw;grind
theorem Xc{ax ay bx H dx dy:Int}(h:ax*dy-ay*dx=bx*dy-H*dx):(bx-ax)*dy=(H-ay)*dx:=by
 grind
theorem aew{H uy vx vy dx dy:Int}(h1:H*dy=uy*dx)(h2:vx*dy=vy*dx):(H*vy-uy*vx)*dx=0/\(H*vy-uy*vx)*dy=0:=by
 grind
section
variable {l:List Pl} (hv:bI l=true)
include hv
theorem sF{i k:Nat}(hi:i<l.length)(hk:k<l.length)(h1:k≠i)(H:k≠(i+1)%l.length):0<(fE l i).dot (gj l k).h:=by unfold fE;rw[kJ];exact abK hv (tI hi) (tI (TH _ (by omega))) (tI hk) h1 H
theorem lU{i k:Nat}(hi:i<l.length)(hk:k<l.length):0<=(fE l i).dot (gj l k).h:=by
 by_cases h1:k=i
 ·subst h1;unfold fE;rw[kJ];unfold df;grind
 by_cases H:k=(i+1)%l.length
 ·unfold fE;rw[kJ,<-H];unfold df;grind
 exact EA (sF hv hi hk h1 H)
theorem wR:∃p:V,0<p.w/\∀f∈qw l,0<f.dot p:=by
 have⟨h3,_⟩:=eC hv;refine⟨⟨(gj l 0).x+(gj l 1).x+(gj l 2).x,(gj l 0).y+(gj l 1).y+(gj l 2).y,3⟩,(show(0:Int)< 3 by decide),λf hf=>?_⟩;obtain⟨i,hi,rfl⟩:=kg.1 hf;have e:(fE l i).dot ⟨(gj l 0).x+(gj l 1).x+(gj l 2).x,(gj l 0).y+(gj l 1).y+(gj l 2).y,3⟩=(fE l i).dot (gj l 0).h+(fE l i).dot (gj l 1).h+(fE l i).dot (gj l 2).h:=by unfold V.dot Pl.h;grind
 rw[e];have n0:=lU hv hi (k:=0) (by omega);have n1:=lU hv hi (k:=1) (by omega);have n2:=lU hv hi (k:=2) (by omega);have:∃k,k<3/\k≠i/\k≠(i+1)%l.length:=by
  generalize (i+1)%l.length=j;by_cases a0:0≠i/\0≠j;·exact⟨0,by omega,a0.1,a0.2⟩
  by_cases H:1≠i/\1≠j;·exact⟨1,by omega,H.1,H.2⟩
  exact⟨2,by omega,by omega,by omega⟩
 have⟨k,hk,k1,k2⟩:=this;have hp:=sF hv hi (k:=k) (by omega) k1 k2;grind
theorem sH(d:V)(hd:d.w=0)(H:d.x≠0\/d.y≠0):∃f∈qw l,f.dot d<0:=Ty λhc=>by
 have⟨h3,_⟩:=eC hv;have hE:∀i,i<l.length->(gj l i).x*d.y-(gj l i).y*d.x<=(gj l ((i+1)%l.length)).x*d.y-(gj l ((i+1)%l.length)).y*d.x:=λi hi=>by
  have h:¬(fE l i).dot d<0:=λh=>hc ⟨_,kg.2 ⟨i,hi,rfl⟩,h⟩;have e:(fE l i).dot d=((gj l ((i+1)%l.length)).x*d.y-(gj l ((i+1)%l.length)).y*d.x)-((gj l i).x*d.y-(gj l i).y*d.x):=by
   unfold fE lG V.dot;grind
  omega
 have hC:∀k,k<l.length->∀j,j<=k->(gj l j).x*d.y-(gj l j).y*d.x<=(gj l k).x*d.y-(gj l k).y*d.x:=by
  intro k;induction k with
  |zero=>intro _ j hj;rw[Nat.le_zero.1 hj];exact On _
  |succ k ih=>
   intro hk j hj;by_cases e:j=k+1;·grind
   ·have h1:=ih (by omega) j (by omega);have h2:=hE k (by omega);rw[Rl hk]at h2;omega
 have hL:=hE (l.length-1) (by omega);rw[BH (by omega),Gi]at hL;have c1:=hC 1 (by omega) 0 (by omega);have c2:=hC 2 (by omega) 1 (by omega);have c3:=hC (l.length-1) (by omega) 2 (by omega);have ht:=sF hv (i:=0) (k:=2) (by omega) (by omega) (by omega) (by rw[Rl (by omega)];omega);unfold fE at ht;rw[Wl,Rl (by omega:1<l.length),kJ]at ht;generalize gj l 0=a at*;generalize gj l 1=b at*;generalize gj l 2=c at*;have e1:=Xc (show a.x*d.y-a.y*d.x=b.x*d.y-b.y*d.x by omega);have e2:=Xc (show a.x*d.y-a.y*d.x=c.x*d.y-c.y*d.x by omega);unfold df at ht;have⟨t1,t2⟩:=aew e1 e2;rcases H with h|h
 ·rcases F7.1 t1 with h'|h';·omega
  ·grind
 ·rcases F7.1 t2 with h'|h';·omega
  ·grind
omit hv in
theorem Hz(G:Nat->Int):∀n,0 < n->∃k,k < n/\∀j,j < n->G j<=G k
 |1,_=>⟨0,by omega,λj H=>by rw[show j=0 by omega];exact On _⟩
 |n+2,_=>by
  obtain⟨k,hk,h⟩:=Hz G (n+1) (by omega)
  by_cases hc:G k<=G (n+1)
  ·refine⟨n+1,by omega,λj H=>?_⟩
   grind
  ·refine⟨k,by omega,λj H=>?_⟩
   grind
theorem Jw{g p:V}(hg:∀q∈l,g.dot q.h<=0)(hw:0<p.w)(hp:∀f∈qw l,0<=f.dot p):g.dot p<=0:=by
 have⟨h3,_⟩:=eC hv;obtain⟨k,hk,H⟩:=Hz (λk=>g.dot (gj l k).h) l.length (by omega);obtain⟨r,hr,a0,b0⟩:∃r,r<l.length/\(r+1)%l.length=k/\r≠(k+1)%l.length:=by
  by_cases e:k=0
  ·refine⟨l.length-1,by omega,?_,?_⟩;·rw[BH (by omega),Gi,e]
   rw[e,Rl (by omega)];omega
  refine⟨k-1,by omega,?_,?_⟩;·rw[BH (by omega),Rl hk]
  by_cases e2:k+1=l.length;·rw[e2,Gi];omega
  rw[Rl (by omega)];omega
 have hn:(k+1)%l.length<l.length:=TH _ (by omega);have d0:(k+1)%l.length≠k:=by
  by_cases e2:k+1=l.length;·rw[e2,Gi];omega
  rw[Rl (by omega)];omega
 have hT:=sF hv hr hn (λe=>b0 e.symm) (by rw[a0];exact d0);have p1:=hp _ (kg.2 ⟨r,hr,rfl⟩);have p2:=hp _ (kg.2 ⟨k,hk,rfl⟩);have m1:=H _ hn;have m2:=H _ hr;have m3:=hg _ (GG hk);unfold fE at hT p1 p2;rw[a0]at hT p1;have m1:g.dot (gj l ((k+1)%l.length)).h<=g.dot (gj l k).h:=m1;have m2:g.dot (gj l r).h<=g.dot (gj l k).h:=m2;generalize gj l r=a at*;generalize gj l k=b at*;generalize gj l ((k+1)%l.length)=c at*;have id:(lG a b).dot c.h*(g.dot p-p.w*g.dot b.h)=(lG a b).dot p*(g.dot c.h-g.dot b.h)+(lG b c).dot p*(g.dot a.h-g.dot b.h):=by
  unfold lG V.dot Pl.h;grind
 have r1:(lG a b).dot p*(g.dot c.h-g.dot b.h)<=0:=Wp p1 (by omega);have r2:(lG b c).dot p*(g.dot a.h-g.dot b.h)<=0:=Wp p2 (by omega);have r3:p.w*g.dot b.h<=0:=Wp (EA hw) m3;refine Ty λhc=>?_;have:0<(lG a b).dot c.h*(g.dot p-p.w*g.dot b.h):=Dk hT (by omega);omega
end
def Sep(a b:List Pl):Prop:=∃f∈qw a,∀q∈b,f.dot q.h<=0
theorem Hk{a:List Pl}(H:bI a){h:V}(hh:∃q∈a,0<h.dot q.h):∃p:V,0<p.w/\(∀f∈qw a,0<f.dot p)/\0<h.dot p:=by
 have⟨c,wc,hc⟩:=wR H;have⟨q,hq,a0⟩:=hh;obtain⟨k,hk,rfl⟩:=RX hq;obtain⟨K,hK⟩:∃K:Int,K=max 1 (1-h.dot c):=⟨_,rfl⟩
 refine⟨(gj a k).h.go K 1 c,?_,λf hf=>?_,?_⟩;·show 0<K*1+1*c.w;omega
 ·rw[nN];obtain⟨i,hi,rfl⟩:=kg.1 hf;have h1:=lU H hi hk;have h2:=hc _ hf;have:=KQ (show 0<=K by omega) h1;omega
 rw[nN];have:K*1<=K*h.dot (gj a k).h:=Tz (by omega) (by omega);omega
theorem Hu{a b:List Pl}(h:¬Sep a b):∀f∈qw a,∃q∈b,0<f.dot q.h:=λf H=>Ty λhc=>h ⟨f,H,λq hq=>by
 grind⟩
theorem Mz{a b:List Pl}(ha:bI a)(hb:bI b)(h1:¬Sep a b)(h2:¬Sep b a):
  ∃u v w,jb (qw a++qw b) u/\jb (qw a++qw b) v/\jb (qw a++qw b) w/\mw u v w≠0:=by
 have pa:∀h∈qw b,∃p:V,0<p.w/\(∀f∈qw a,0<f.dot p)/\0<h.dot p:=λh H=>Hk ha (Hu h2 h H);have pb:∀h∈qw a,∃p:V,0<p.w/\(∀f∈qw b,0<f.dot p)/\0<h.dot p:=λh H=>Hk hb (Hu h1 h H);obtain⟨p,hw,hp⟩:=DZ _ (qw a++qw b) (Ox _) λf hf g hg h H=>by
  rcases OH.1 hf with hf|hf <;>rcases OH.1 hg with hg|hg <;>rcases OH.1 H with H|H
  ·have⟨p,w,h'⟩:=wR ha;exact⟨p,w,h' _ hf,h' _ hg,h' _ H⟩
  ·grind
  ·grind
  ·grind
  ·grind
  ·grind
  ·grind
  have⟨p,w,h'⟩:=wR hb;exact⟨p,w,h' _ hf,h' _ hg,h' _ H⟩
 refine three ?_ (λd hd a0=>?_) hw hp;·obtain⟨f,hf,_⟩:=sH ha ⟨1,0,0⟩ rfl (.inl (by decide));exact⟨f,OH.2 (.inl hf)⟩
 ·have⟨f,hf,h⟩:=sH ha d hd a0;grind
theorem DH{a b:List Pl}(ha:bI a)(hb:bI b){L:List V}(hL:∀f,f∈qw a\/f∈qw b->f∈L)(hs:Sep a b){u v w:V}(hu:jb L u)(hv:jb L v)(hw:jb L w):mw u v w=0:=by
 have⟨f,hf,a0⟩:=hs;have hz:∀{c:V},jb L c->f.dot c=0:=λ{c} H=>by obtain⟨i,hi,k,hk,hm,rfl,h0⟩:=H;have h1:=h0 f (hL f (.inl hf));have h2:=Jw hb a0 (DG hm) λg hg=>h0 g (hL g (.inr hg));omega
 have hu:=hz hu;have hv:=hz hv;have hw:=hz hw;have b0:f.x≠0\/f.y≠0:=Ty λH=>by
  have⟨h3,_⟩:=eC ha;have⟨p,_,hp⟩:=wR ha;have:=hp f hf;obtain⟨i,hi,rfl⟩:=kg.1 hf;unfold fE at H this;generalize gj a i=s at*;generalize gj a ((i+1)%a.length)=t at*;have e1:s.y-t.y=0:=by have:¬((s.y-t.y)≠0\/(t.x-s.x)≠0):=H;omega
  have e2:t.x-s.x=0:=by have:¬((s.y-t.y)≠0\/(t.x-s.x)≠0):=H;omega
  have e3:(lG s t).dot p=0:=by unfold lG V.dot;grind
  omega
 have t1:f.x*mw u v w=0:=by
  have:f.x*mw u v w=f.dot u*(v.y*w.w-v.w*w.y)-f.dot v*(u.y*w.w-u.w*w.y)+f.dot w*(u.y*v.w-u.w*v.y):=by unfold mw V.dot;grind
  grind
 have t2:f.y*mw u v w=0:=by
  have:f.y*mw u v w= -(f.dot u*(v.x*w.w-v.w*w.x))+f.dot v*(u.x*w.w-u.w*w.x)-f.dot w*(u.x*v.w-u.w*v.x):=by unfold mw V.dot;grind
  grind
 rcases b0 with h|h;·exact(F7.1 t1).resolve_left h
 exact(F7.1 t2).resolve_left h
end
section
variable {X:aK} {m:M}
def xP(a b:List Pl)(i:Nat):Bool:=match a[i]?,a[(i+1)%a.length]? with
 |some p,some q=> !(b.any λc=>decide (0 < df p q c))
 |_,_=>false
def dD(a b:List Pl):Int:=match(List.range a.length).find? (xP a b)with |some i=>i |none=> -1
def fw(a b:List Pl):Bool:=bI a && bI b && decide (dD a b < 0) && decide (dD b a < 0)
theorem Rg(hX:cd X){a b c:Pl}{ba bb:Nat}(ha:m.get ba=.cells a.c 141 none)(hb:m.get bb=.cells b.c 141 none)(sa:a.sm 1000000)(sb:b.sm 1000000)(sc:c.sm 1000000):
  C X (.func 332) [c.v,ptrTo ba,ptrTo bb] m m.n (.bool (decide (0<df a b c))) m:=by
 refine Cl.fl hX (Kg func332) ?_;rw[Zw];dsimp only[δ,η,ρ,υ,χ,ψ];refine aw λm1 d0 a0 b0=>?_;have H:Ext m m1:=⟨by omega,b0⟩
 unfold ptrTo;rw[bT (H.cells ha),ae,bT (H.cells hb),ae,bT a0,ae];refine aG (wK hX sa sb sc) ?_;rw[bP,ae];exact⟨rfl,by omega⟩
theorem acC{a b:List Pl}(h:∀j,j<a.length->xP a b j=false):dD a b= -1:=by
 unfold dD;grind
theorem aeD{p:Nat->Bool}:∀{n k:Nat},k<n->(∀j,j<k->p j=false)->p k->(List.range n).find? p=some k
 |n+1,k,hk,h,H=>by
  simp_all
theorem Eh{a b:List Pl}{k:Nat}(hk:k<a.length)(h:∀j,j<k->xP a b j=false)(H:xP a b k):dD a b=k:=by unfold dD;rw[aeD hk h H]
theorem Ao(hX:cd X){a b:List Pl}{va vb:Φ}(ha:Sl m a va)(hb:Sl m b vb)(la:a.length<1000000)(lb:b.length<1000000)(sa:∀p∈a,p.sm 1000000)(sb:∀p∈b,p.sm 1000000):
  C X (.func 308) [va,vb] m m.n (YR (dD a b)) m:=by
 refine Cl.fl hX (Kg func308) ?_;rw[abC];dsimp only[δ,η,ι,ο,ρ,ς,υ,χ,ψ,Θ,ω];refine aw λm1 o1 y0 p1=>?_;refine aw λm2 u1 z0 A0=>?_;refine aw λm3 v1 B0 d0=>?_;unfold ptrTo;refine aC rf B0 rfl rfl rfl λm4 w1 C0 e0=>?_;have g0:Ext m m4:=⟨by omega,by grind⟩
 have⟨m7,hc,H,y1,z1⟩:=yY (m:=m4) hX ha.cells;refine aG hc ?_;rw[cg];have g17:m7.get m.n=.cells (cells vb) 58 none:=by rw[H.get _ (by omega),e0 _ (by omega),d0 _ (by omega),A0 _ (by omega),y0]
 have D0:m7.get m1.n=.cells [YR 0] 3 none:=by rw[H.get _ (by omega),e0 _ (by omega),d0 _ (by omega),z0]
 have E0:m7.get m2.n=.cells [YR 0] 3 none:=by rw[H.get _ (by omega),C0];rfl
 rw[hb.cells]at g17
 refine⟨.ob λ_=>False,jW a,_,λk mm=>m7.n<=mm.n/\(∀c,c<m7.n->c≠m1.n->c≠m2.n->mm.get c=m7.get c)/\mm.get m1.n=.cells [YR 0] 3 none/\mm.get m2.n=.cells [YR k] 3 none/\(∀j,j<k->xP a b j=false),
  λe mm=>e=.ret/\mm.get m1.n=.cells [YR (dD a b)] 3 none,m.n,⟨_,rfl⟩,uT hX (v:=va) (b:=m4.n) (by omega),by omega,?_,?_,?_,⟨Ox _,λ_ _ _ _=>rfl,D0,E0,λj hj=>by omega⟩,?_,?_,?_⟩
 ·rintro i mm ⟨h1,h2,h3,h4,h5⟩;refine⟨by grind,?_⟩;refine ha.aV λb c t g hb ht=>?_;have:=M.aU hb;rw[h2 b (by omega) (by omega) (by omega),H.get b (by omega),g0.get b this,hb]
 ·rintro i mm F0 ⟨h1,h2,h3,h4,h5⟩ hk;exact⟨by have:=hk.n;omega,λc hc n1 n2=>by rw[hk.get c (by omega) (by omega),h2 c hc n1 n2],by rw[hk.get _ (by omega) (by omega),h3],by rw[hk.get _ (by omega) (by omega),h4],h5⟩
 ·rintro e mm F0 ⟨h,h'⟩ hk;have:=M.aU h';exact⟨h,by rw[hk.get _ this (by omega),h']⟩
 ·rintro k args m10 O0 hx ⟨h1,h2,h3,h4,h5⟩;obtain⟨pa,pb,b0,i0,rfl⟩:=uS hx;have G0:k<a.length:=(OJ.1 b0).1;rw[aB,aB];show GX [] _;unfold GX;refine aw λm16 P0 j0 a1=>?_;refine aC dd j0 rfl rfl rfl λm17 b1 k0 c1=>?_;refine aw λm19 d1 l0 m0=>?_;refine aC dd l0 rfl rfl rfl λm20 e1 n0 o0=>?_;have fh:∀c,c<m10.n->m20.get c=m10.get c:=by grind
  refine⟨λc _ hc=>fh c hc,λm22 g1 a0=>?_⟩;dsimp only;have r1:m22.get m10.n=.cells pa.c 141 none:=by rw[a0 _ (by omega),o0 _ (by omega),m0 _ (by omega),k0];rfl
  have r2:m22.get m17.n=.cells pb.c 141 none:=by rw[a0 _ (by omega),n0];rfl
  have H0:∀c,c<m7.n->c≠m1.n->c≠m2.n->m22.get c=m7.get c:=by grind
  have r3:m22.get m.n=.cells [vb] 58 none:=by grind
  have r4:m22.get m2.n=.cells [YR k] 3 none:=by grind
  have r5:m22.get m1.n=.cells [YR 0] 3 none:=by grind
  rw[qj,aI r3];show ai (some vb) _;rw[ae];have I0:Sl m22 b vb:=hb.aV λb c t g hb ht=>by have:=M.aU hb;rw[H0 b (by omega) (by omega) (by omega),H.get b (by omega),g0.get b this,hb]
  refine aG (qX hX (λc=>decide (0<df pa pb c)) (by omega) I0 λc hc=>?_) ?_;·exact Rg hX r1 r2 (sa _ (LZ b0)) (sa _ (LZ i0)) (sb c hc)
  have p0:xP a b k= !(b.any λc=>decide (0<df pa pb c)):=by unfold xP;rw[b0,i0]
  rw[bk,ae,aj,<-p0];refine an (λhs=>?_) (λhs=>?_);·rw[bF,aI r4];show ai (some (Value.int .i64 k)) _;rw[ae];refine aC rf r5 rfl rfl rfl λA1 i1 q0 r0=>?_;refine⟨by omega,λc J0 K0 L0=>r0 c (by grind),rfl,?_⟩;rw[Eh G0 h5 hs];exact q0
  rw[bF,aI r4];show ai (some (Value.int .i64 k)) _;rw[ae,aP,ae,wrap64];refine aC rf r4 rfl rfl rfl λB1 j1 s0 u0=>?_;refine⟨by omega,λc J0 K0 L0=>u0 c (by grind),by omega,by grind,by grind,s0,λj hj=>?_⟩;by_cases e:j=k;·rw[e];exact hs
  exact h5 j (by omega)
 ·rintro mm fO ⟨h1,h2,h3,h4,h5⟩ N0;refine aC rf h3 rfl rfl rfl λC1 k1 v0 l1=>?_;rw[bF,aI v0];show ai (some (Value.int .i64 (-1))) _;rw[ae];refine⟨?_,by omega⟩;rw[qu]at h5;rw[acC h5];rfl
 rintro e mm fO D1 ⟨rfl,h'⟩ N0;refine⟨_,Qk.2 rfl,rfl,?_⟩;dsimp only;rw[bF,aI h'];show ai (some (Value.int .i64 (dD a b))) _;rw[ae];exact⟨rfl,by omega⟩
def Ad(a b:List Pl):Int×Int×Bool:=
 if bI a && bI b then(if 0<=dD a b then(0,dD a b,true)else if 0<=dD b a then(1,dD b a,true)else(0,0,false))else(0,0,false)
theorem Nb(H:cd X){a b:List Pl}{va vb:Φ}(ha:Sl m a va)(hb:Sl m b vb)(la:a.length<1000000)(lb:b.length<1000000):
  C X (.func 231) [va,vb] m m.n (.tuple #[YR (Ad a b).1,YR (Ad a b).2.1,.bool (Ad a b).2.2]) m:=by
 refine Cl.fl H (Kg func231) ?_;rw[ZO];dsimp only[η,ο,χ,ψ,ω];refine aZ (λvs mm lo=>vs=[.bool (!(bI a && bI b))]/\m=mm/\m.n<=lo) (λR hR=>?_) ?_
 ·refine aG (jm H ha (by omega)) ?_;rw[bk,ae,aj];refine an (λh=>?_) (λh=>?_)
  ·have h:bI a=false:=by grind
   exact hR _ _ _ ⟨by grind,rfl,by omega⟩
  have h:bI a:=by grind
  refine aG (jm H hb (by omega)) ?_;rw[bk,ae];exact hR _ _ _ ⟨by grind,rfl,by omega⟩
 rintro _ _ lo ⟨rfl,rfl,a0⟩;rw[aB,aj];refine an (λh=>?_) (λh=>?_)
 ·have h:(bI a && bI b)=false:=by
   cases h':(bI a && bI b)with
   |false=>rfl
   |true=>rw[h']at h;cases h
  unfold Ad;rw[QL (by grind)];exact⟨rfl,a0⟩
 have h:(bI a && bI b):=by
  cases h':(bI a && bI b)with
  |true=>rfl
  |false=>rw[h']at h;cases h
 unfold Ad;rw[Tf h];rw[JJ]at h;refine aG (Ao H ha hb la lb (jl h.1) (jl h.2)) ?_;rw[cI,ae,aj];refine an (λh1=>?_) (λh1=>?_)
 ·have h1:0<=dD a b:=by grind
  rw[Tf h1];exact⟨rfl,by omega⟩
 have h1:¬0<=dD a b:=by grind
 rw[QL h1];refine aG (Ao H hb ha lb la (jl h.2) (jl h.1)) ?_;rw[cI,ae,aj];refine an (λh2=>?_) (λh2=>?_)
 ·have h2:0<=dD b a:=by grind
  rw[Tf h2];exact⟨rfl,by omega⟩
 have h2:¬0<=dD b a:=by grind
 rw[QL h2];exact⟨rfl,by omega⟩
theorem vB(H:cd X){a b:List Pl}{va vb:Φ}(ha:Sl m a va)(hb:Sl m b vb)(la:a.length<1000000)(lb:b.length<1000000):
  C X (.func 191) [va,vb] m m.n (.bool (fw a b)) m:=by
 refine Cl.fl H (Kg func191) ?_;rw[aaa];dsimp only[ξ,ο,ψ,Γ,ω];refine aG (Nb H ha hb la lb) ?_;rw[aH,aH,aH];simp only[zi,F9,ae];refine aZ (λvs mm lo=>vs=[.bool (fw a b)]/\m=mm/\m.n<=lo) (λR hR=>?_) ?_
 ·refine aG (jm H ha (by omega)) ?_;rw[aj];refine an (λh=>?_) (λh=>?_)
  ·refine aG (jm H hb (by omega)) ?_;rw[aj];refine an (λh'=>?_) (λh'=>?_)
   ·rw[bk,ae];refine hR _ _ _ ⟨?_,rfl,by omega⟩;unfold fw Ad;rw[h,h',MO,Tf rfl,ZD];by_cases h1:0<=dD a b;·rw[Tf h1,Dh (show¬dD a b<0 by omega)];rfl
    rw[QL h1,IH (show dD a b<0 by omega)];by_cases h2:0<=dD b a;·rw[Tf h2,Dh (show¬dD b a<0 by omega)];rfl
    rw[QL h2,IH (show dD b a<0 by omega)];rfl
   exact hR _ _ _ ⟨by unfold fw;rw[h',Qv];rfl,rfl,by omega⟩
  exact hR _ _ _ ⟨by unfold fw;rw[h];rfl,rfl,by omega⟩
 rintro _ _ lo ⟨rfl,rfl,a0⟩;rw[aB];exact⟨rfl,a0⟩
end
section
variable {X:aK} {m:M}
theorem aea(hX:cd X)(p:Pl):C X (.func 298) [p.v] m m.n (.bool (!p.off)) m:=by
 refine Cl.fl hX (Kg func298) ?_;rw[ZF];dsimp only[δ,ε,η,ρ,υ,χ];refine aw λm1 a0 H b0=>?_;simp only[aT]at H;refine aZ (λvs mm lo=>vs=[.bool (!p.off)]/\lo=m.n) (λR hR=>?_) ?_
 ·simp only[ae,az,cg,aj,bH,aN,cz,aM,cI,bP,aS,bL,bk,ptrTo,gB,iS,Wl,Nat.reduceAdd,zi,F9,QA,Qc,Wa,zI,TN,aT,kN,ja,ij,kL,kM,iZ,bY,cN,bF,aI H];have ho:p.off= !(decide (0<=p.x) && decide (p.x<=40) && decide (0<=p.y) && decide (p.y<=40)):=by unfold Pl.off;by_cases h1:0<=p.x <;>by_cases h2:p.x<=40 <;>by_cases h3:0<=p.y <;>by_cases h4:p.y<=40 <;>simp[h1,h2,h3,h4] <;>omega
  refine an (λh1=>?_) (λh1=>hR _ _ _ ⟨by grind,rfl⟩);refine an (λh2=>?_) (λh2=>hR _ _ _ ⟨by grind,rfl⟩);refine an (λh3=>?_) (λh3=>hR _ _ _ ⟨by grind,rfl⟩);exact hR _ _ _ ⟨by grind,rfl⟩
 rintro _ mm lo ⟨rfl,rfl⟩;rw[aB];exact⟨rfl,Ox _⟩
theorem MX(hX:cd X)(a b c:Pl):C X (.func 223) [a.v,b.v,c.v] m m.n (YR (Hb a b c)) m:=by refine Cl.fl hX (Kg func223) ?_;rw[ZV];dsimp only[aL,Fm,Wo,LH,JA,IJ];refine aw λm1 g0 b0 i0=>?_;refine aw λm2 j0 d0 e0=>?_;refine aw λm3 k0 H a0=>?_;have g1:=(a0 m.n (by omega)).trans ((e0 m.n (by omega)).trans b0);have g2:=(a0 m1.n (by omega)).trans d0;simp only[aT]at g1 g2 H;simp only[ae,az,cg,aj,bH,aN,cz,aM,cI,bP,aS,bL,bk,ptrTo,gB,iS,Wl,Nat.reduceAdd,zi,F9,QA,Qc,Wa,zI,TN,aT,kN,ja,ij,kL,kM,iZ,bY,cN,bF,aI g1,aI g2,aI H,dt,fH];exact⟨rfl,Ox _⟩
theorem xW(H:cd X){a b c:Pl}(ha:a.sm 1000000)(hb:b.sm 1000000)(hc:c.sm 1000000):C X (.func 223) [a.v,b.v,c.v] m m.n (YR (df a b c)) m:=by rw[<-Da ha hb hc];exact MX H a b c
theorem Gc(hX:cd X){l:List Pl}{v:Φ}(hl:Sl m l v){i:Nat}{q:Pl}(hb:l.length<4611686018427387904)(hi:i<l.length)(hq:l[(i+1)%l.length]?=some q):C X (.func 299) [v,YR i] m m.n q.v m:=by
 refine Cl.fl hX (Kg func299) ?_;rw[abv];dsimp only[δ,ζ,η,ι,κ,ς,υ,χ];refine aw λm1 e0 a0 b0=>?_;have H:Ext m m1:=⟨by omega,b0⟩
 rw[aP,ae,wrap64,(hl.aE H).len cA,az,show((i:Int)+1)=((i+1:Nat):Int) by omega,sB (by omega),ae];have⟨a,e1,e2⟩:=(hl.aE H).dX (k:=.i64) hq;rw[e1,ae,e2,ae];unfold ptrTo;refine aC dd a0 rfl rfl rfl λm7 g0 d0 i0=>?_;rw[bT d0,ae];exact⟨rfl,by omega⟩
theorem mN(hX:cd X){l:List Pl}{v:Φ}(hl:Sl m l v)(hb:l.length<4611686018427387904):C X (.func 220) [v] m m.n (.bool (bI l)) m:=by
 refine Cl.fl hX (Kg func220) ?_;rw[ZY];dsimp only[δ,ζ,η,κ,ο,χ,ψ,ω];refine aZ (λvs mm lo=>vs=[.bool (!(decide (3<=l.length) && decide (l.length<=8)))]/\m=mm/\lo=m.n) (λR hR=>?_) ?_
 ·rw[hl.len cA];simp only[ae,az,cg,aj,bH,aN,cz,aM,cI,bP,aS,bL,bk,ptrTo,gB,iS,Wl,Nat.reduceAdd,zi,F9,QA,Qc,Wa,zI,TN,aT,kN,ja,ij,kL,kM,iZ];refine an (λh=>hR _ _ _ ⟨by grind,rfl,rfl⟩) (λh=>?_);have h3:3<=l.length:=by grind
  refine hR _ _ _ ⟨?_,rfl,rfl⟩;have:decide ((8:Int)< l.length)= !(decide (l.length<=8)):=by grind
  rw[this];simp[h3]
 rintro _ _ _ ⟨rfl,rfl,rfl⟩;rw[aB,aj];refine an (λh=>?_) (λh=>?_);·refine⟨?_,Ox _⟩;simp only[Jd]at h;simp only[bh,bI,h,zJ]
 simp only[Q0,JJ,EU]at h;have⟨h3,h8⟩:=h;refine Lp.intro (γ:=Nat) (λi=>l.length-i) (λi vs mm lo=>vs=[Zf,YR i]/\i<=l.length/\m=mm/\lo=m.n/\∀j p,j<i->l[j]?=some p->p.off=false) 0 ⟨rfl,ZE _,rfl,rfl,λj p hj=>by omega⟩ ?_;rintro i vs mm lo ⟨rfl,hi,rfl,rfl,e0⟩;rw[aB,aB,hl.len cA,az,aM,ae,aj];refine an (λH=>?_) (λq0=>?_)
 ·have H:i<l.length:=by grind
  obtain⟨p,hp⟩:∃p,l[i]?=some p:=⟨_,Fx H⟩
  have⟨q,e1,e2⟩:=hl.dX (k:=.i64) hp;rw[e1,ae,e2,ae];refine aG (aea hX p) ?_;rw[bk,ae,aj,Mt];refine an (λho=>?_) (λho=>?_);·refine⟨?_,by omega⟩;have:l.any Pl.off:=JL.2 ⟨p,LZ hp,ho⟩;simp[bh,bI,this]
  rw[aP,ae,wrap64];refine⟨i+1,by omega,rfl,by omega,rfl,by omega,λj q hj hq=>?_⟩;by_cases e:j=i;·subst e;rw[hp]at hq;cases hq;exact ho
  exact e0 j q (by omega) hq
 have r0:i=l.length:=by
  have:¬(i:Int)< (l.length:Int):=by grind
  omega
 have n0:l.any Pl.off=false:=by rw[VS];intro p hp;have⟨j,hj⟩:=ZZ hp;rw[e0 j p (by grind) hj];decide
 have l0:∀p∈l,p.sm 1000000:=λp hp=>Pl.Nv (by grind);have hv:∀r,oI l=r->bI l=r:=λr hr=>by simp[bI,h3,h8,n0,hr]
 refine Lp.intro (γ:=Nat) (λi=>l.length-i) (λi vs mm lo=>vs=[Zf,YR i]/\i<=l.length/\m=mm/\lo=m.n/\∀j,j<i->M0 l j) 0 ⟨rfl,ZE _,rfl,rfl,λj hj=>by omega⟩ ?_;rintro i vs mm lo ⟨rfl,hi,rfl,rfl,g0⟩;rw[aB,aB,hl.len cA,az,aM,ae,aj];refine an (λH=>?_) (λq0=>?_)
 ·have H:i<l.length:=by grind
  obtain⟨pa,a0⟩:∃p,l[i]?=some p:=⟨_,Fx H⟩
  have s0:(i+1)%l.length<l.length:=TH _ (by omega);obtain⟨pb,b0⟩:∃p,l[(i+1)%l.length]?=some p:=⟨_,Fx s0⟩
  refine Lp.intro (γ:=Nat) (λk=>l.length-k) (λk vs mm lo=>vs=[Zf,YR k]/\k<=l.length/\m=mm/\lo=m.n/\∀j c,j<k->l[j]?=some c->j=i\/j=(i+1)%l.length\/0<df pa pb c) 0 ⟨rfl,ZE _,rfl,rfl,λj c hj=>by omega⟩ ?_;rintro k vs mm lo ⟨rfl,hk,rfl,rfl,i0⟩;rw[aB,aB,hl.len cA,az,aM,ae,aj];refine an (λj0=>?_) (λy0=>?_)
  ·have j0:k<l.length:=by grind
   obtain⟨pc,d0⟩:∃p,l[k]?=some p:=⟨_,Fx j0⟩
   refine aZ (λvs mm lo=>vs=[.bool (!(k==i ||k==(i+1)%l.length ||decide (0<df pa pb pc)))]/\m=mm/\lo=m.n) (λR hR=>?_) ?_
   ·rw[bL,ae,aj];refine an (λo0=>?_) (λhe=>?_)
    ·have o0:k≠i:=by grind
     rw[aP,ae,wrap64,az,show((i:Int)+1)=((i+1:Nat):Int) by omega,sB (by omega),ae,bL,ae,aj];refine an (λk0=>?_) (λz0=>?_)
     ·have k0:k≠(i+1)%l.length:=by grind
      have⟨q,e1,e2⟩:=hl.dX (k:=.i64) a0;rw[e1,ae,e2,ae];refine aG (Gc hX hl hb H b0) ⟨Ox _,?_⟩;have⟨q,e1,e2⟩:=hl.dX (k:=.i64) d0;rw[e1,ae,e2,ae];refine aG (xW hX (l0 _ (LZ a0)) (l0 _ (LZ b0)) (l0 _ (LZ d0))) ?_;rw[cz,ae];refine hR _ _ _ ⟨?_,rfl,by omega⟩;have:decide (df pa pb pc<=0)= !(decide (0<df pa pb pc)):=by grind
      rw[this];simp[o0,k0]
     refine hR _ _ _ ⟨?_,rfl,rfl⟩;have:k=(i+1)%l.length:=by
      have h':(k:Int)=(((i+1)%l.length:Nat):Int):=by grind
      omega
     simp[this]
    refine hR _ _ _ ⟨?_,rfl,rfl⟩;have:k=i:=by grind
    simp[this]
   rintro _ _ _ ⟨rfl,rfl,rfl⟩;rw[aB,aj];refine an (λp0=>?_) (λm0=>?_)
   ·have hc:oI l=false:=by
     cases hc:oI l with
     |false=>rfl
     |true=>simp only[oI,Jl,Bv]at hc;have h2:=(sy a0 b0).1 (hc i H) k pc d0;simp only[Jd,Kz,beq_eq_false_iff_ne,Nd]at p0;omega
    exact⟨by rw[hv false hc];rfl,Ox _⟩
   rw[aP,ae,wrap64];refine⟨k+1,by omega,rfl,by omega,rfl,rfl,λj c hj hc=>?_⟩;by_cases u0:j<k;·exact i0 j c u0 hc
   have:j=k:=by omega
   subst this;rw[d0]at hc;cases hc;simp only[Q0,Qf,beq_iff_eq,EU]at m0;omega
  have A0:k=l.length:=by
   have:¬(k:Int)< (l.length:Int):=by grind
   omega
  rw[aP,ae,wrap64];refine⟨i+1,by omega,rfl,by omega,rfl,rfl,λj hj=>?_⟩;by_cases v0:j<i;·exact g0 j v0
  have:j=i:=by omega
  subst this;rw[sy a0 b0];intro q c hq;exact i0 q c (by grind) hq
 have r0:i=l.length:=by
  have:¬(i:Int)< (l.length:Int):=by grind
  omega
 have hc:oI l:=Jl.2 λj hj=>g0 j (by grind);exact⟨by rw[hv true hc];rfl,Ox _⟩
end
section
variable {X:aK} {m:M}
abbrev wr(x:Int):Int:=IntKind.i64.wrap x
theorem GR(x:Int):wr x=if x%18446744073709551616>=9223372036854775808 then x%18446744073709551616-18446744073709551616 else x%18446744073709551616:=by unfold wr IntKind.wrap;simp[IntKind.bits,IntKind.signed]
theorem tQ(x:Int):wr x%18446744073709551616=x%18446744073709551616:=by rw[GR];split <;>omega
theorem mD{x y:Int}(h:x%18446744073709551616=y%18446744073709551616):wr x=wr y:=by rw[GR,GR,h]
theorem CS(a b:Int):IntKind.i64.wrap (IntKind.i64.wrap a+b)=IntKind.i64.wrap (a+b):=mD (by
 have:=tQ a;grind)
theorem CR(a b:Int):IntKind.i64.wrap (a+IntKind.i64.wrap b)=IntKind.i64.wrap (a+b):=mD (by
 have:=tQ b;grind)
theorem xD(a b:Int):IntKind.i64.wrap (IntKind.i64.wrap a-b)=IntKind.i64.wrap (a-b):=mD (by
 have:=tQ a;grind)
theorem xC(a b:Int):IntKind.i64.wrap (a-IntKind.i64.wrap b)=IntKind.i64.wrap (a-b):=mD (by
 have:=tQ b;grind)
theorem CQ(a b:Int):IntKind.i64.wrap (IntKind.i64.wrap a*b)=IntKind.i64.wrap (a*b):=mD (by
 have:=tQ a;show(wr a*b)%_=_;rw[Rs,this,<-Rs])
theorem CP(a b:Int):IntKind.i64.wrap (a*IntKind.i64.wrap b)=IntKind.i64.wrap (a*b):=mD (by
 have:=tQ b;show(a*wr b)%_=_;rw[Rs,this,<-Rs])
def pX(N x:Int):Prop:= -N<=x/\x<=N
theorem pX.mul{A B a b:Int}(H:pX A a)(hb:pX B b):pX (A*B) (a*b):=by have⟨a1,a2⟩:=H;have⟨b1,b2⟩:=hb;have h1:0<=(A-a)*(B+b):=KQ (by omega) (by omega);have h2:0<=(A+a)*(B-b):=KQ (by omega) (by omega);have h3:0<=(A-a)*(B-b):=KQ (by omega) (by omega);have h4:0<=(A+a)*(B+b):=KQ (by omega) (by omega);constructor <;>grind
theorem pX.add{A B a b:Int}(H:pX A a)(hb:pX B b):pX (A+B) (a+b):=by have⟨a1,a2⟩:=H;have⟨b1,b2⟩:=hb;constructor <;>omega
theorem pX.sub{A B a b:Int}(H:pX A a)(hb:pX B b):pX (A+B) (a-b):=by have⟨a1,a2⟩:=H;have⟨b1,b2⟩:=hb;constructor <;>omega
theorem pX.wr{N x:Int}(h:pX N x)(H:N<9223372036854775808):IntKind.i64.wrap x=x:=wrap64 (by have:=h.1;omega) (by have:=h.2;omega)
structure Ln where
 v:tL.V
structure Pt where
 v:tL.V
def vC(p:tL.V):Bt:=[.int .i64 p.x,.int .i64 p.y,.int .i64 p.w]
instance:aW Ln where
 ty:=341
 sz:=3
 agg:=true
 cT:=[]
 rep _ p cs:=cs=vC p.v
 pos:=by decide
 one:=by grind
 len:=by rintro _ _ _ rfl;rfl
 dS:=by rintro _ _ _ rfl;rfl
 aV:=by grind
instance:aW Pt where
 ty:=343
 sz:=3
 agg:=true
 cT:=[]
 rep _ p cs:=cs=vC p.v
 pos:=by decide
 one:=by grind
 len:=by rintro _ _ _ rfl;rfl
 dS:=by rintro _ _ _ rfl;rfl
 aV:=by grind
theorem Bp:oU TE 337 341 Ln:=⟨ag.t337,ag.t341,by kernel_rfl,⟨_,rfl⟩,rfl,by kernel_rfl,rfl,rfl⟩
theorem PM:qH TE 337 Ln:=⟨ag.t337,ag.t341,by kernel_rfl,rfl,rfl,by kernel_rfl,by decide,rfl⟩
theorem ML:oU TE 339 343 Pt:=⟨ag.t339,ag.t343,by kernel_rfl,⟨_,rfl⟩,rfl,by kernel_rfl,rfl,rfl⟩
theorem adV:qH TE 339 Pt:=⟨ag.t339,ag.t343,by kernel_rfl,rfl,rfl,by kernel_rfl,by decide,rfl⟩
theorem row_one{α:Type}[aW α]{b:Nat}{cs:Bt}{x:α}{g:Option Nat}(h:m.get b=.cells cs (aW.ty α) g)(H:aW.rep m x cs):Sl m [x] (KI b 0 1 1):=by
 refine .inr ⟨b,0,1,cs,g,rfl,h,by rw[aW.len H];simp,λi y hi=>?_⟩;match i with
 |0=>
  cases hi;have:(cs.drop (0+0*aW.sz α)).take (aW.sz α)=cs:=by rw[JE,Wl,QA,QM (by rw[aW.len H];exact Ox _)]
  grind
 |i+1=>simp at hi
theorem CD{l:List Pl}{i:Nat}{p:Pl}(h:l[i]?=some p):gj l i=p:=by unfold gj;rw[h];rfl
theorem DV(hX:cd X){l:List Pl}{v:Φ}(hl:Sl m l v)(hv:bI l):∃r m',C X (.func 300) [v] m m.n r m'/\Ext m m'/\Ow m.n m' ((qw l).map Ln.mk) r:=by
 have key:∃r m' b,C X (.func 300) [v] m b r m'/\b=m.n/\Ext m m'/\Ow m.n m' ((qw l).map Ln.mk) r:=by
  have⟨h3,h8⟩:=eC hv;have j0:=xF hv;refine Cl.heap (R:=λr m' b=>b=m.n/\Ext m m'/\Ow m.n m' ((qw l).map Ln.mk) r) (hX.no _ rfl) (Kg func300) rfl ?_;rw[ab3];dsimp only[aL,Fm,Wo,Zt,LH,RW,ZC,Ke,Oq,Wb,IJ,Nn,RI,Δ];refine Lp.intro (γ:=Nat) (λi=>l.length-i) (λi vs mm lo=>∃r,vs=[r,YR i]/\i<=l.length/\Ext m mm/\m.n<=lo/\Ow m.n mm (((List.range i).map (fE l)).map Ln.mk) r) 0 ⟨_,rfl,ZE _,.refl,Ox _,.nil⟩ ?_;rintro i vs mm lo ⟨r,rfl,hi,hx,J0,g0⟩;have hn:=hx.n;rw[aB,aB,(hl.aE hx).len cA,az,aM,ae,aj];refine an (λi0=>?_) (λK0=>?_)
  ·have i0:i<l.length:=by grind
   obtain⟨p,hp⟩:∃p,l[i]?=some p:=⟨_,Fx i0⟩
   obtain⟨q,hq⟩:∃p,l[(i+1)%l.length]?=some p:=⟨_,Fx (TH _ (by omega))⟩
   have⟨a,e1,e2⟩:=(hl.aE hx).dX (k:=.i64) hp;rw[e1,ae,e2,ae];refine aw λm13 y0 k0 z0=>?_;unfold ptrTo;refine aC dd k0 rfl rfl rfl λm14 A0 l0 B0=>?_;have H:Ext mm m14:=⟨by omega,by grind⟩
   refine aG (Gc hX ((hl.aE hx).aE H) (by omega) i0 hq) ?_;refine aw λm19 C0 m0 D0=>?_;refine aC dd m0 rfl rfl rfl λm20 E0 n0 F0=>?_;have a0:Ext m14 m20:=⟨by omega,by grind⟩
   have g1:m20.get mm.n=.cells [YR p.x,YR p.y] 141 none:=by rw[a0.get _ (by omega),l0];rfl
   have g2:m20.get m14.n=.cells [YR q.x,YR q.y] 141 none:=n0;have bp:=Pl.on (j0 p (LZ hp));have bq:=Pl.on (j0 q (LZ hq));have b1:pX 40 p.x:=⟨by omega,by omega⟩
   have b2:pX 40 p.y:=⟨by omega,by omega⟩
   have b3:pX 80 (q.x-p.x):=⟨by omega,by omega⟩
   have b4:pX 80 (q.y-p.y):=⟨by omega,by omega⟩
   have w3:IntKind.i64.wrap ((q.y-p.y)*p.x-(q.x-p.x)*p.y)=(q.y-p.y)*p.x-(q.x-p.x)*p.y:=((b4.mul b1).sub (b3.mul b2)).wr (by decide);have w1:IntKind.i64.wrap (p.y-q.y)=p.y-q.y:=wrap64;have w2:IntKind.i64.wrap (q.x-p.x)=q.x-p.x:=wrap64;simp only[bY,cN,bF,aI g1,aI g2,Wl,zi,F9,ae,dt,fH,xD,xC,CQ,CP,w1,w2,w3];have bl:∀a b c:Int,aJ TE 341 [(0,YR a),(1,YR b),(2,YR c)]=some (.agg #[YR a,YR b,YR c]):=λa b c=>wE rfl rfl rfl;rw[bl,ae];obtain⟨L,hL⟩:∃L:tL.V,L=⟨p.y-q.y,q.x-p.x,(q.y-p.y)*p.x-(q.x-p.x)*p.y⟩:=⟨_,rfl⟩
   have r0:fE l i=L:=by unfold fE lG;rw[CD hp,CD hq,hL]
   have s0:∀a b c:Int,aF TE m20 337 1 [(0,.agg #[YR a,YR b,YR c])]=some (KI m20.n 0 1 1,m20.push (.cells [.int .i64 a,.int .i64 b,.int .i64 c] 341 none)):=λa b c=>by kernel_rfl
   rw[s0,az];have b0:Ext m20 (m20.push (.cells [.int .i64 (p.y-q.y),.int .i64 (q.x-p.x),.int .i64 ((q.y-p.y)*p.x-(q.x-p.x)*p.y)] 341 none)):=Ext.refl.push;generalize d0:m20.push (.cells [.int .i64 (p.y-q.y),.int .i64 (q.x-p.x),.int .i64 ((q.y-p.y)*p.x-(q.x-p.x)*p.y)] 341 none)=o0 at*;have p0:o0.get m20.n=.cells (vC L) 341 none:=by rw[<-d0,hL];exact M.aX
   have G0:o0.n=m20.n+1:=by rw[<-d0];rfl
   obtain⟨v',u0,ha,q0,e0,H0,I0⟩:=Ow.append (y:=KI m20.n 0 1 1) (ys:=[Ln.mk L]) PM (by simp[aW.cT]) (g0.aE (H.trans (a0.trans b0))) (row_one p0 rfl) (by omega) (by grind);rw[ha,az,aP,ae,wrap64];have L0:=e0.n;refine⟨i+1,by omega,v',rfl,by omega,⟨by omega,λb hb=>by rw[e0.get b hb,b0.get b (by omega),a0.get b (by omega),H.get b (by omega),hx.get b hb]⟩,by omega,?_⟩;rw[Gm,Cu,Cu];show Ow m.n u0 (_++ [Ln.mk (fE l i)]) v';rw[r0];exact q0
  have v0:i=l.length:=by
   have:¬(i:Int)< (l.length:Int):=by grind
   omega
  subst v0;refine⟨.inl (g0.flat ?_),by omega,hx,g0⟩;intro h;have:=congrArg List.length h;rw[Gv,Gv,QR,GK]at this;omega
 obtain⟨r,m',b,hc,rfl,h1,h2⟩:=key;exact⟨r,m',hc,h1,h2⟩
end
section
open Go Go.D Go.tL Go.Proofs.Tryz
variable {X:aK} {m:M}
theorem NQ{L:List Ln}{v:Φ}(h:Sl m L v){i:Nat}{x:Ln}(hx:L[i]?=some x):∃a a0 a1 a2,ak TE 337 v (YR i)=some a/\af TE 341 a 0=some a0/\ah TE m 3 a0=some (YR x.v.x)/\
  af TE 341 a 1=some a1/\ah TE m 3 a1=some (YR x.v.y)/\af TE 341 a 2=some a2/\ah TE m 3 a2=some (YR x.v.w):=by
 have⟨b,o,bc,g,cs,e1,H,hr,_,hj⟩:=h.fa Bp (k:=.i64) hx;have hr:cs=vC x.v:=hr;subst hr;refine⟨_,_,_,_,e1,wm,?_,wk,?_,wj,?_⟩;·rw[bF,aI H,hj 0 (by decide)];rfl
 ·rw[bF,aI H,hj 1 (by decide)];rfl
 rw[bF,aI H,hj 2 (by decide)];rfl
theorem Na{L:List Pt}{v:Φ}(h:Sl m L v){i:Nat}{x:Pt}(hx:L[i]?=some x):∃a,ak TE 339 v (YR i)=some a/\ah TE m 343 a=some (.agg (vC x.v).toArray):=by have⟨p,cs,e1,e2,H⟩:=h.index ML (k:=.i64) hx;have H:cs=vC x.v:=H;subst H;exact⟨p,e1,e2⟩
def YT(p:V):Prop:=pX 80 p.x/\pX 80 p.y/\pX 6400 p.w
def WI(p:V):Prop:=pX 1024000 p.x/\pX 1024000 p.y/\pX 12800 p.w
theorem pX.mono{A B x:Int}(h:pX A x)(H:A<=B):pX B x:=⟨by have:=h.1;omega,by have:=h.2;omega⟩
theorem pX.neg{A x:Int}(h:pX A x):pX A (-x):=⟨by have:=h.2;omega,by have:=h.1;omega⟩
theorem Hy{f g:V}(H:YT f)(hg:YT g):WI (meet f g):=by have⟨f1,f2,f3⟩:=H;have⟨g1,g2,g3⟩:=hg;exact⟨((f2.mul g3).sub (g2.mul f3)).mono (by decide),((f3.mul g1).sub (g3.mul f1)).mono (by decide),((f1.mul g2).sub (g1.mul f2)).mono (by decide)⟩
theorem Hv{p:V}(h:WI p):WI (norm p):=by
 unfold norm;split;·exact⟨h.1.neg,h.2.1.neg,h.2.2.neg⟩
 exact h
def Ld(L:List Ln)(p:V):Bool:=L.all λx=>decide (0<=x.v.dot p)
theorem HP{L:List Ln}{v21 va:Φ}{B n1 k lo0:Nat}{acc:List Pt}{p:V}{mm:M}{P:Bt->M->Nat->Prop}(hL:Sl mm L v21)(hB:mm.get B=.cells (vC p) 343 none)(i0:Ow n1 mm acc va)(A1:n1<=mm.n)
  (i1:∀x∈L,YT x.v) (j1:WI p) (w1:acc.length<=1000) (hk:k<1000) (hlen:L.length<=16)
  (hP:∀q0 m' r0,mm.n<=m'.n->(∀c,c<n1->m'.get c=mm.get c)->min lo0 n1<=r0->Ow n1 m' (if Ld L p then acc++ [Pt.mk p]else acc) q0->P [q0,YR ((k+1:Nat):Int)] m' r0):
  (Lp (λj0 o0 H d0=>un o0 λk0 s0=>un s0 λb0 y1=>(aO (av TE H .len [337] [v21]) λu0 _=>(ai (aA TE .lss 3 b0 u0) λv0=>(aR v0
(aR k0
(ai (ak TE 337 v21 b0) λy0=>(ai (af TE 341 y0 0) λz0=>(ai (ah TE H 3 z0) λv124=>(ai (af TE 343 (ptrTo B) 0) λA0=>(ai (ah TE H 3 A0) λB0=>(ai (aA TE .mul 3 v124 B0) λv127=>(ai (ak TE 337 v21 b0) λC0=>(ai (af TE 341 C0 1) λD0=>(ai (ah TE H 3 D0) λv130=>(ai (af TE 343 (ptrTo B) 1) λv131=>(ai (ah TE H 3 v131) λE0=>(ai (aA TE .mul 3 v130 E0) λF0=>(ai (aA TE .add 3 v127 F0) λG0=>(ai (ak TE 337 v21 b0) λH0=>(ai (af TE 341 H0 2) λI0=>(ai (ah TE H 3 I0) λJ0=>(ai (af TE 343 (ptrTo B) 2) λv138=>(ai (ah TE H 3 v138) λv139=>(ai (aA TE .mul 3 J0 v139) λK0=>(ai (aA TE .add 3 G0 K0) λv141=>(ai (aA TE .geq 3 v141 (YR 0)) λL0=>(ai (aA TE .add 3 b0 (YR 1)) λv143=>(j0 [L0,v143] H d0)))))))))))))))))))))))
(ai (aA TE .add 3 b0 (YR 1)) λN0=>(j0 [Zf,N0] H d0)))
(aR k0
(ai (ah TE H 343 (ptrTo B)) λv145=>(aO (aF TE H 339 1 [(0,v145)]) λv146 m0=>(aO (av TE (M.wl m0 (M.n m0)) .append [339,339] [va,v146]) λv148 n0=>(ai (aA TE .add 3 (YR k) (YR 1)) λO0=>(P [v148,O0] n0 (min d0 (M.low n0)))))))
(ai (aA TE .add 3 (YR k) (YR 1)) λP0=>(P [va,P0] H d0))))))) [Ku,YR 0] mm lo0):=by
 refine Lp.intro (γ:=Nat) (λi=>L.length-i) (λi vs m' lo=>vs=[.bool (Ld (L.take i) p),YR i]/\i<=L.length/\mm=m'/\lo0=lo) 0 ⟨rfl,ZE _,rfl,rfl⟩ ?_;rintro i vs m' lo ⟨rfl,hi,rfl,rfl⟩;rw[aB,aB,hL.len Bp,az,aM,ae,aj,aj];refine an (λp0=>?_) (λk1=>?_)
 ·have p0:i<L.length:=by simpa using p0
  obtain⟨x,hx⟩:∃x,L[i]?=some x:=⟨_,Fx p0⟩
  have g0:Ld (L.take (i+1)) p=(Ld (L.take i) p && decide (0<=x.v.dot p)):=by unfold Ld;rw[Q1,hx,Gf,VU];simp
  refine an (λe0=>?_) (λe0=>?_);·have⟨a,a0,a1,a2,e1,f0,l0,f1,l1,f2,l2⟩:=NQ hL hx;have o1:mm.get B=.cells [YR p.x,YR p.y,YR p.w] 343 none:=hB;have⟨b1,b2,b3⟩:=i1 x (LZ hx);have⟨c1,c2,c3⟩:=j1;have hw:IntKind.i64.wrap (x.v.x*p.x+x.v.y*p.y+x.v.w*p.w)=x.v.dot p:=(((b1.mul c1).add (b2.mul c2)).add (b3.mul c3)).wr (by decide);simp only[e1,f0,l0,f1,l1,f2,l2,ae,ptrTo,jQ,jP,jO,bF,aI o1,Wl,zi,F9,fH,aP,CS,CR,hw,cI];rw[wrap64];exact⟨i+1,by omega,by rw[g0,e0,ZD];rfl,by omega,by first|rfl|trivial,by first|rfl|trivial⟩
  rw[aP,ae,wrap64];exact⟨i+1,by omega,by rw[g0,e0,zJ];rfl,by omega,rfl,rfl⟩
 have p1:i=L.length:=by
  have:¬(i:Int)< (L.length:Int):=by simpa using k1
  omega
 subst p1;rw[QM (Ox _)];refine an (λe0=>?_) (λe0=>?_)
 ·unfold ptrTo;rw[NK,aQ hB (by simp[vC])];show ai (some (Value.agg #[YR p.x,YR p.y,YR p.w])) _;rw[ae];have r1:aF TE mm 339 1 [(0,.agg #[YR p.x,YR p.y,YR p.w])]=some (KI mm.n 0 1 1,mm.push (.cells (vC p) 343 none)):=by kernel_rfl
  rw[r1,az];have d1:Ext mm (mm.push (.cells (vC p) 343 none)):=Ext.refl.push;generalize g1:mm.push (.cells (vC p) 343 none)=m1 at*;have u1:m1.get mm.n=.cells (vC p) 343 none:=by rw[<-g1];exact M.aX
  have z1:m1.n=mm.n+1:=by rw[<-g1];rfl
  obtain⟨v',m2,ha,v1,h1,B1,C1⟩:=Ow.append (y:=KI mm.n 0 1 1) (ys:=[Pt.mk p]) adV (by simp[aW.cT]) (i0.aE d1) (row_one u1 rfl) (by omega) (by simp;omega);rw[ha,az,aP,ae,wrap64];have h2:=h1.n;refine hP v' m2 _ (by omega) (λc hc=>by rw[h1.get c hc,d1.get c (by omega)]) (by omega) ?_;rw[Tf e0];exact v1
 rw[aP,ae,wrap64];refine hP va mm lo0 (Ox _) (λ_ _=>rfl) (by omega) ?_;rw[QL (by rw[e0];decide)];exact i0
theorem My{va:Φ}{lo0 n1:Nat}{acc:List Pt}{mm:M}{R:Bt->M->Nat->Prop}(i0:Sl mm acc va)(H0:∀x∈acc,WI x.v)(c4:acc.length<=1000)(g4:n1<=mm.n)
  (hT:∀m' n0 (u v w:Pt),u∈acc->v∈acc->w∈acc->mw u.v v.v w.v≠0->min lo0 n1<=n0->R [Ku] m' n0)
  (hF:∀m' n0,(∀(i k n:Nat) (u v w:Pt),n<k->k<i->acc[i]?=some u->acc[k]?=some v->acc[n]?=some w->mw u.v v.v w.v=0)->min lo0 n1<=n0->R [Zf] m' n0):
  (Lp (λi1 I0 o0 p0=>un I0 λj1 k1=>un k1 λj0 d4=>(aO (av TE o0 .len [339] [va]) λv201 _=>(ai (aA TE .lss 3 j0 v201) λl1=>(aR l1
(Lp (λo1 J0 u0 q0=>un J0 λv0 p1=>un p1 λk0 e4=>(ai (aA TE .lss 3 k0 j0) λr1=>(aR r1
(Lp (λu1 K0 d0 g0=>un K0 λy0 v1=>un v1 λv218 f4=>(ai (aA TE .lss 3 v218 k0) λw1=>(aR w1
(ai (ak TE 339 va j0) λy1=>(ai (ah TE d0 343 y1) λv222=>(bC (M.push d0 (.cells [YR 0,YR 0,YR 0] 343 none)) λz1=>(aO (aD TE z1 343 (ptrTo (M.n d0)) v222) λa0 z0=>(ai (ak TE 339 va k0) λv226=>(ai (ah TE a0 343 v226) λv227=>(bC (M.push a0 (.cells [YR 0,YR 0,YR 0] 343 none)) λA1=>(aO (aD TE A1 343 (ptrTo (M.n a0)) v227) λb0 A0=>(ai (ak TE 339 va v218) λB1=>(ai (ah TE b0 343 B1) λv232=>(bC (M.push b0 (.cells [YR 0,YR 0,YR 0] 343 none)) λC1=>(aO (aD TE C1 343 (ptrTo (M.n b0)) v232) λH B0=>(ai (af TE 343 (ptrTo (M.n d0)) 0) λv236=>(ai (ah TE H 3 v236) λD1=>(ai (af TE 343 (ptrTo (M.n a0)) 1) λE1=>(ai (ah TE H 3 E1) λF1=>(ai (af TE 343 (ptrTo (M.n b0)) 2) λG1=>(ai (ah TE H 3 G1) λH1=>(ai (aA TE .mul 3 F1 H1) λI1=>(ai (af TE 343 (ptrTo (M.n a0)) 2) λJ1=>(ai (ah TE H 3 J1) λK1=>(ai (af TE 343 (ptrTo (M.n b0)) 1) λL1=>(ai (ah TE H 3 L1) λN1=>(ai (aA TE .mul 3 K1 N1) λO1=>(ai (aA TE .sub 3 I1 O1) λP1=>(ai (aA TE .mul 3 D1 P1) λT1=>(ai (af TE 343 (ptrTo (M.n d0)) 1) λd2=>(ai (ah TE H 3 d2) λi2=>(ai (af TE 343 (ptrTo (M.n a0)) 0) λj2=>(ai (ah TE H 3 j2) λk2=>(ai (af TE 343 (ptrTo (M.n b0)) 2) λl2=>(ai (ah TE H 3 l2) λo2=>(ai (aA TE .mul 3 k2 o2) λu2=>(ai (af TE 343 (ptrTo (M.n a0)) 2) λv2=>(ai (ah TE H 3 v2) λw2=>(ai (af TE 343 (ptrTo (M.n b0)) 0) λy2=>(ai (ah TE H 3 y2) λz2=>(ai (aA TE .mul 3 w2 z2) λA2=>(ai (aA TE .sub 3 u2 A2) λB2=>(ai (aA TE .mul 3 i2 B2) λC2=>(ai (aA TE .sub 3 T1 C2) λD2=>(ai (af TE 343 (ptrTo (M.n d0)) 2) λE2=>(ai (ah TE H 3 E2) λF2=>(ai (af TE 343 (ptrTo (M.n a0)) 0) λG2=>(ai (ah TE H 3 G2) λH2=>(ai (af TE 343 (ptrTo (M.n b0)) 1) λI2=>(ai (ah TE H 3 I2) λJ2=>(ai (aA TE .mul 3 H2 J2) λK2=>(ai (af TE 343 (ptrTo (M.n a0)) 1) λL2=>(ai (ah TE H 3 L2) λM2=>(ai (af TE 343 (ptrTo (M.n b0)) 0) λN2=>(ai (ah TE H 3 N2) λO2=>(ai (aA TE .mul 3 M2 O2) λP2=>(ai (aA TE .sub 3 K2 P2) λQ2=>(ai (aA TE .mul 3 F2 Q2) λT2=>(ai (aA TE .add 3 D2 T2) λd3=>(ai (aA TE .neq 3 d3 (YR 0)) λe3=>(aR e3
(R [Ku] H (min (min (min g0 z0) A0) B0))
(ai (aA TE .add 3 v218 (YR 1)) λi3=>(u1 [y0,i3] H (min (min (min g0 z0) A0) B0)))))))))))))))))))))))))))))))))))))))))))))))))))))))))))))
(ai (aA TE .add 3 k0 (YR 1)) λj3=>(o1 [y0,j3] d0 g0))))) [v0,YR 0] u0 q0)
(ai (aA TE .add 3 j0 (YR 1)) λk3=>(i1 [v0,k3] u0 q0))))) [j1,YR 0] o0 p0)
(R [Zf] o0 p0))))) [Zf,YR 0] mm lo0):=by
 refine Lp.intro (γ:=Nat) (λi=>acc.length-i) (λi vs m' lo=>vs=[Zf,YR i]/\i<=acc.length/\Ext mm m'/\min lo0 n1<=lo/\∀(i' k n:Nat) (u v w:Pt),i'<i->n<k->k<i'->acc[i']?=some u->acc[k]?=some v->acc[n]?=some w->mw u.v v.v w.v=0) 0 ⟨rfl,ZE _,.refl,RU _ _,λi' _ _ _ _ _ h=>by omega⟩ ?_;rintro i vs m1 j4 ⟨rfl,hi,l3,C0,n3⟩;rw[aB,aB,(i0.aE l3).len ML,az,aM,ae,aj];refine an (λL0=>?_) (λA3=>?_)
 ·have L0:i<acc.length:=by simpa using L0
  obtain⟨u,hu⟩:∃u,acc[i]?=some u:=⟨_,Fx L0⟩
  refine Lp.intro (γ:=Nat) (λk=>i-k) (λk vs m' lo=>vs=[Zf,YR k]/\k<=i/\Ext mm m'/\min lo0 n1<=lo/\∀(k' n:Nat) (v w:Pt),k'<k->n<k'->acc[k']?=some v->acc[n]?=some w->mw u.v v.v w.v=0) 0 ⟨rfl,ZE _,l3,C0,λk' _ _ _ h=>by omega⟩ ?_;rintro k vs m2 fO ⟨rfl,hk,o3,D0,r3⟩;rw[aB,aB,aM,ae,aj];refine an (λE0=>?_) (λu3=>?_)
  ·have E0:k<i:=by simpa using E0
   obtain⟨v,hv⟩:∃u,acc[k]?=some u:=⟨_,qp⟩
   refine Lp.intro (γ:=Nat) (λn=>k-n) (λn vs m' lo=>vs=[Zf,YR n]/\n<=k/\Ext mm m'/\min lo0 n1<=lo/\∀(n':Nat) (w:Pt),n'<n->acc[n']?=some w->mw u.v v.v w.v=0) 0 ⟨rfl,ZE _,o3,D0,λn' _ h=>by omega⟩ ?_;rintro n vs m3 k4 ⟨rfl,hn,l0,v3,w3⟩;rw[aB,aB,aM,ae,aj];refine an (λF0=>?_) (λy3=>?_)
   ·have F0:n<k:=by simpa using F0
    obtain⟨w,hw⟩:∃u,acc[n]?=some u:=⟨_,qp⟩
    have l4:=l0.n;have⟨a,e1,e2⟩:=Na (i0.aE l0) hu;rw[e1,ae,e2,ae];unfold ptrTo;refine aw λm4 n4 B3 C3=>?_;refine aC xG B3 rfl rfl rfl λm5 o4 D3 E3=>?_;have N0:Ext m3 m5:=⟨by omega,λb hb=>by rw[E3 b (by omega),C3 b hb]⟩
    have⟨a,e1,e2⟩:=Na (i0.aE (l0.trans N0)) hv;rw[e1,ae,e2,ae];refine aw λm6 r4 G3 H3=>?_;refine aC xG G3 rfl rfl rfl λm7 u4 I3 J3=>?_;have O0:Ext m5 m7:=⟨by omega,λb hb=>by rw[J3 b (by omega),H3 b hb]⟩
    have⟨a,e1,e2⟩:=Na (i0.aE (l0.trans (N0.trans O0))) hw;rw[e1,ae,e2,ae];refine aw λm8 v4 K3 L3=>?_;refine aC xG K3 rfl rfl rfl λm9 w4 N3 O3=>?_;have P0:Ext m7 m9:=⟨by omega,λb hb=>by rw[O3 b (by omega),L3 b hb]⟩
    have g1:m9.get m3.n=.cells [YR u.v.x,YR u.v.y,YR u.v.w] 343 none:=by rw[P0.get _ (by omega),O0.get _ (by omega),D3];rfl
    have g2:m9.get m5.n=.cells [YR v.v.x,YR v.v.y,YR v.v.w] 343 none:=by rw[P0.get _ (by omega),I3];rfl
    have g3:m9.get m7.n=.cells [YR w.v.x,YR w.v.y,YR w.v.w] 343 none:=N3;have⟨a1,a2,a3⟩:=H0 u (LZ hu);have⟨b1,b2,b3⟩:=H0 v (LZ hv);have⟨c1,c2,c3⟩:=H0 w (LZ hw);have a4:IntKind.i64.wrap (u.v.x*(v.v.y*w.v.w-v.v.w*w.v.y)-u.v.y*(v.v.x*w.v.w-v.v.w*w.v.x)+u.v.w*(v.v.x*w.v.y-v.v.y*w.v.x))=mw u.v v.v w.v:=(((a1.mul ((b2.mul c3).sub (b3.mul c2))).sub (a2.mul ((b1.mul c3).sub (b3.mul c1)))).add (a3.mul ((b1.mul c2).sub (b2.mul c1)))).wr (by decide);simp only[ae,jQ,jP,jO,bF,aI g1,aI g2,aI g3,Wl,zi,F9,fH,aP,dt,CS,CR,xD,xC,CQ,CP,a4,bL,aj];refine an (λb4=>?_) (λhe=>?_);·exact hT _ _ u v w (LZ hu) (LZ hv) (LZ hw) (by simpa using b4) (by omega)
    rw[wrap64];refine⟨n+1,by omega,rfl,by omega,l0.trans (N0.trans (O0.trans P0)),by omega,λn' w' r0 e0=>?_⟩;by_cases e:n'=n;·subst e;rw[hw]at e0;cases e0;simpa using he
    exact w3 n' w' (by omega) e0
   have r0:n=k:=by
    have:¬(n:Int)< (k:Int):=by simpa using y3
    omega
   subst r0;rw[aP,ae,wrap64];refine⟨n+1,by omega,rfl,by omega,l0,v3,λk' n' v' w' s0 G0 m0 e0=>?_⟩;by_cases e:k'=n;·subst e;rw[hv]at m0;cases m0;exact w3 n' w' G0 e0
   exact r3 k' n' v' w' (by omega) G0 m0 e0
  have s0:k=i:=by
   have:¬(k:Int)< (i:Int):=by simpa using u3
   omega
  subst s0;rw[aP,ae,wrap64];refine⟨k+1,by omega,rfl,by omega,o3,D0,λi' k' n' u' v' w' z3 r0 s0 d1 m0 e0=>?_⟩;by_cases e:i'=k;·subst e;rw[hu]at d1;cases d1;exact r3 k' n' v' w' s0 r0 m0 e0
  exact n3 i' k' n' u' v' w' (by omega) r0 s0 d1 m0 e0
 have z3:i=acc.length:=by
  have:¬(i:Int)< (acc.length:Int):=by simpa using A3
  omega
 subst z3;exact hF _ _ (λi k n u v w h1 h2 h3 h4 h5=>n3 i k n u v w (OJ.1 h3).1 h1 h2 h3 h4 h5) C0
end
section
open Go Go.D Go.tL Go.Proofs.Tryz
variable {X:aK} {m:M}
theorem Dj{a b:List Pl}{i:Nat}(hi:i<a.length):xP a b i↔∀q∈b,(fE a i).dot q.h<=0:=by
 obtain⟨p,hp⟩:∃p,a[i]?=some p:=⟨_,Fx hi⟩
 obtain⟨q,hq⟩:∃p,a[(i+1)%a.length]?=some p:=⟨_,Fx (TH _ (by omega))⟩
 unfold xP fE;rw[hp,hq,CD hp,CD hq];simp only[Jd,VS,EU];constructor;·intro h c H;have:=h c H;rw[kJ];omega
 intro h c H;have:=h c H;rw[kJ]at this;omega
theorem Hg{a b:List Pl}:Sep a b↔¬dD a b<0:=by
 constructor
 ·rintro⟨f,hf,h⟩ H;obtain⟨i,hi,rfl⟩:=kg.1 hf;have hs:=(Dj hi).2 h;unfold dD at H;cases hc:(List.range a.length).find? (xP a b)with
  |some k=>rw[hc]at H;simp only at H;omega
  |none=>
   grind
 ·intro h;unfold dD at h;cases hc:(List.range a.length).find? (xP a b)with
  |some k=>have h1:=List.find?_some hc;have h2:=Bv.1 (ZT hc);exact⟨_,kg.2 ⟨k,h2,rfl⟩,(Dj h2).1 h1⟩
  |none=>rw[hc]at h;exact absurd (by decide) h
theorem Dw{a b:List Pl}(H:bI a)(hb:bI b):fw a b↔¬Sep a b/\¬Sep b a:=by
 unfold fw;rw[H,hb];simp only[MO,ZD,JJ,EU];rw[Hg,Hg];grind
theorem Pq(p q r:V):mw q p r= -mw p q r:=by unfold mw;grind
theorem SY(p q r:V):mw p r q= -mw p q r:=by unfold mw;grind
theorem V0(p r:V):mw p p r=0:=by unfold mw;grind
theorem adD(p r:V):mw r p p=0:=by unfold mw;grind
theorem adr(p r:V):mw p r p=0:=by unfold mw;grind
theorem RQ{acc:List Pt}(h:∀(i k n:Nat) (u v w:Pt),n<k->k<i->acc[i]?=some u->acc[k]?=some v->acc[n]?=some w->mw u.v v.v w.v=0){u v w:Pt}(hu:u∈acc)(hv:v∈acc)(hw:w∈acc):mw u.v v.v w.v=0:=by
 have⟨i,hi⟩:=ZZ hu;have⟨k,hk⟩:=ZZ hv;have⟨n,H⟩:=ZZ hw;by_cases e1:i=k;·subst e1;rw[hi]at hk;cases hk;exact V0 _ _
 by_cases e2:k=n;·subst e2;rw[hk]at H;cases H;exact adD _ _
 by_cases e3:i=n;·subst e3;rw[hi]at H;cases H;exact adr _ _
 have s1:=Pq u.v v.v w.v;have s2:=SY u.v v.v w.v;have s3:=Pq u.v w.v v.v;have s4:=SY v.v u.v w.v;have s5:=Pq v.v w.v u.v;grind
theorem JG{f g:V}(h:(meet f g).w≠0):norm (meet g f)=norm (meet f g):=by
 have e:meet g f=(meet f g).neg:=by
  unfold meet V.neg;grind
 rw[e];have hw:(meet f g).neg.w= -(meet f g).w:=rfl;unfold norm;by_cases h1:(meet f g).w<0;·grind
 ·rw[QL h1,Tf (by grind)];unfold V.neg;grind
structure tM(L:List Ln)(acc:List Pt)(i k:Nat):Prop where
 snd:∀p∈acc,jb (L.map (·.v)) p.v
 WE:∀(i' k':Nat) (f g:Ln),(i' < i\/(i'=i/\k' < k))->i' < k'->L[i']?=some f->L[k']?=some g->(meet f.v g.v).w≠0->Ld L (norm (meet f.v g.v))=true->Pt.mk (norm (meet f.v g.v))∈acc
theorem Cd{L:List Ln}{p:V}:Ld L p↔∀f∈L.map (·.v),0<=f.dot p:=by
 unfold Ld;grind
theorem tM.skip{L:List Ln}{acc:List Pt}{i k:Nat}{f g:Ln}(h:tM L acc i k)(hf:L[i]?=some f)(hg:L[k]?=some g)(hn:¬((meet f.v g.v).w≠0/\Ld L (norm (meet f.v g.v)))):tM L acc i (k+1):=
 ⟨h.snd,λi' k' f' g' hk H a0 b0 h1 h2=>by
  by_cases e:i'=i/\k'=k;·grind
  ·exact h.WE i' k' f' g' (by omega) H a0 b0 h1 h2⟩
theorem tM.add{L:List Ln}{acc:List Pt}{i k:Nat}{f g:Ln}(h:tM L acc i k)(hf:L[i]?=some f)(hg:L[k]?=some g)(h1:(meet f.v g.v).w≠0)(h2:Ld L (norm (meet f.v g.v))):tM L (acc++ [Pt.mk (norm (meet f.v g.v))]) i (k+1):=
 ⟨λp H=>by
  rcases OH.1 H with H|H;·exact h.snd p H
  ·rw[Qk]at H;subst H;exact⟨f.v,LY.2 ⟨f,LZ hf,rfl⟩,g.v,LY.2 ⟨g,LZ hg,rfl⟩,h1,rfl,Cd.1 h2⟩,
  λi' k' f' g' hk a0 b0 d0 n1 n2=>by
  by_cases e:i'=i/\k'=k;·grind
  ·exact OH.2 (.inl (h.WE i' k' f' g' (by omega) a0 b0 d0 n1 n2))⟩
theorem tM.next{L:List Ln}{acc:List Pt}{i k:Nat}(h:tM L acc i k)(hk:L.length<=k){k':Nat}(a0:k'<=i+2):tM L acc (i+1) k':=
 ⟨h.snd,λi' j f g hc H hf hg h1 h2=>h.WE i' j f g (by grind) H hf hg h1 h2⟩
theorem tM.zd{L:List Ln}{acc:List Pt}{k:Nat}(h:tM L acc L.length k){v:V}(hv:jb (L.map (·.v)) v):Pt.mk v∈acc:=by
 obtain⟨f,hf,g,hg,hm,rfl,h0⟩:=hv;obtain⟨x,hx,rfl⟩:=LY.1 hf;obtain⟨y,hy,rfl⟩:=LY.1 hg;have⟨i,hi⟩:=ZZ hx;have⟨j,H⟩:=ZZ hy;have li:=(OJ.1 hi).1;have lj:=(OJ.1 H).1;rcases QS i j with e|e|e;·exact h.WE i j x y (by omega) e hi H hm (Cd.2 h0)
 ·subst e;rw[hi]at H;cases H;exfalso;apply hm;show x.v.x*x.v.y-x.v.x*x.v.y=0;omega
 rw[<-JG (f:=x.v) (g:=y.v) hm]at h0⊢;refine h.WE j i y x (by omega) e H hi ?_ (Cd.2 h0);intro h';apply hm;have:(meet y.v x.v).w= -(meet x.v y.v).w:=by show y.v.x*x.v.y-x.v.x*y.v.y= -(x.v.x*y.v.y-y.v.x*x.v.y);omega
 omega
theorem HZ{l:List Pl}(hv:bI l):∀f∈qw l,YT f:=by
 intro f hf;obtain⟨i,hi,rfl⟩:=kg.1 hf;have⟨h3,_⟩:=eC hv;have H:=xF hv;have b1:=Pl.on (H _ (GG hi));have b2:=Pl.on (H _ (GG (l:=l) (i:=(i+1)%l.length) (TH _ (by omega))));unfold fE lG;generalize gj l i=p at*;generalize gj l ((i+1)%l.length)=q at*;have c1:pX 40 p.x:=⟨by omega,by omega⟩
 have c2:pX 40 p.y:=⟨by omega,by omega⟩
 have c3:pX 80 (q.x-p.x):=⟨by omega,by omega⟩
 have c4:pX 80 (q.y-p.y):=⟨by omega,by omega⟩
 exact⟨⟨by grind,by grind⟩,c3,((c4.mul c1).sub (c3.mul c2)).mono (by decide)⟩
def PZ(m22:M)(n0:Nat)(L:List Ln)(i k:Nat)(vs:Bt)(mm:M)(lo:Nat):Prop:=
 ∃H acc,vs=[H,.int .i64 k]/\i+1<=k/\k<=L.length/\Ext m22 mm/\n0<=lo/\Ow m22.n mm acc H/\tM L acc i k/\acc.length<=16*i+k
theorem vA(hX:cd X){a b:List Pl}{va vb:Φ}(ha:Sl m a va)(hb:Sl m b vb)(la:a.length<1000000)(lb:b.length<1000000):
  C X (.func 221) [va,vb] m m.n (.bool (fw a b)) m:=by
 refine Cl.fl hX (Kg func221) ?_;rw[abI];dsimp only[aL,Fm,Wo,Zt,LH,RW,ZC,Ke,Oq,Qt,Wb,IJ,Nn,RI,Γ,ω];refine aZ (λvs mm lo=>vs=[.bool (!(bI a && bI b))]/\m=mm/\m.n<=lo) (λR hR=>?_) ?_
 ·refine aG (mN hX ha (by omega)) ?_;rw[bk,ae,aj];refine an (λh=>?_) (λh=>?_)
  ·have h:bI a=false:=by grind
   exact hR _ _ _ ⟨by grind,rfl,by omega⟩
  have h:bI a:=by grind
  refine aG (mN hX hb (by omega)) ?_;rw[bk,ae];exact hR _ _ _ ⟨by grind,rfl,by omega⟩
 rintro _ _ lo ⟨rfl,rfl,J0⟩;rw[aB,aj];refine an (λh=>?_) (λh=>?_)
 ·refine⟨?_,J0⟩;have:(bI a && bI b)=false:=by
   cases h':(bI a && bI b)with
   |false=>rfl
   |true=>rw[h']at h;cases h
  unfold fw;rw[this];rfl
 have hv:(bI a && bI b):=by
  cases h':(bI a && bI b)with
  |true=>rfl
  |false=>rw[h']at h;cases h
 rw[JJ]at hv;have⟨j0,k0⟩:=hv;have⟨b2,c2⟩:=eC j0;have⟨d2,g2⟩:=eC k0;have⟨ra,m16,K0,C0,L0⟩:=DV hX ha j0;refine aG K0 ?_;have⟨rb,m19,N0,D0,O0⟩:=DV (m:=m16) hX (hb.aE C0) k0;refine aG N0 ?_;have n16:=C0.n;have n19:=D0.n;have i2:((qw a).map Ln.mk).length=a.length:=by simp[qw]
 have j2:((qw b).map Ln.mk).length=b.length:=by simp[qw]
 obtain⟨vL,m22,P0,E0,b1,J1,K1⟩:=Ow.append PM (by simp[aW.cT]) (L0.aE D0) O0.sl (by omega) (by grind);rw[P0,az];obtain⟨L,hL⟩:∃L,L=(qw a).map Ln.mk++(qw b).map Ln.mk:=⟨_,rfl⟩
 rw[<-hL]at E0;have u0:=E0.sl;have c1:L.length<=16:=by grind
 have d1:L.map (·.v)=qw a++qw b:=by rw[hL,Cu,Nh,Nh];simp[Function.comp_def]
 have v0:∀x∈L,YT x.v:=λx hx=>by
  have:x.v∈L.map (·.v):=LY.2 ⟨x,hx,rfl⟩
  rw[d1]at this;rcases OH.1 this with h|h;·exact HZ j0 _ h
  exact HZ k0 _ h
 have n22:=b1.n;have fin:∀(mm:M) (lo:Nat) (r:Bool),r=fw a b->m.n<=lo->bh [Value.bool r]=.bool (fw a b)/\m.n<=lo:=λmm lo r hr J0=>⟨by rw[<-hr];rfl,J0⟩
 have bp:∀a b c:Int,aJ TE 343 [(0,YR a),(1,YR b),(2,YR c)]=some (.agg #[YR a,YR b,YR c]):=λa b c=>wD rfl rfl rfl;refine Lp.intro (γ:=Nat) (λi=>L.length-i) (λi vs mm lo=>∃vc acc,vs=[vc,YR i]/\i<=L.length/\Ext m22 mm/\m.n<=lo/\Ow m22.n mm acc vc/\tM L acc i 0/\acc.length<=16*i) 0 ⟨_,[],rfl,ZE _,.refl,by omega,.nil,⟨λp hp=>(by cases hp),λi' k' f g h=>by omega⟩,ZE _⟩ ?_;rintro i vs mm k2 ⟨vc,acc,rfl,hi,hx,g1,p0,H,i1⟩;rw[aB,aB,(u0.aE hx).len Bp,az,aM,ae,aj];refine an (λj1=>?_) (λl2=>?_)
 ·have j1:i<L.length:=by grind
  obtain⟨f,hf⟩:∃f,L[i]?=some f:=⟨_,Fx j1⟩
  rw[aP,ae,wrap64];refine Lp.intro (γ:=Nat) (λk=>L.length-k) (PZ m22 m.n L i) (i+1) ⟨vc,acc,rfl,Ox _,by omega,hx,g1,p0,⟨H.snd,λi' k' f g hc k1 hf hg h1 h2=>H.WE i' k' f g (by omega) k1 hf hg h1 h2⟩,by omega⟩ ?_;rintro k vs b0 fO ⟨vc,acc,rfl,k1,hk,a0,l1,p0,H,i1⟩;have n36:=a0.n;rw[aB,aB,(u0.aE a0).len Bp,az,aM,ae,aj];refine an (λF0=>?_) (λL1=>?_)
  ·have F0:k<L.length:=by grind
   obtain⟨g,hg⟩:∃f,L[k]?=some f:=⟨_,Fx F0⟩
   have⟨a1,m2,o2,a12,e1,f10,u1,f11,v1,f12,w1⟩:=NQ (u0.aE a0) hf;have⟨a2,a20,a21,a22,e2,f20,y1,f21,z1,f22,A1⟩:=NQ (u0.aE a0) hg;have bf:=v0 f (LZ hf);have bg:=v0 g (LZ hg);have bm:=Hy bf bg;have bn:=Hv bm;have wx:IntKind.i64.wrap (f.v.y*g.v.w-g.v.y*f.v.w)=(meet f.v g.v).x:=bm.1.wr (by decide);have wy:IntKind.i64.wrap (f.v.w*g.v.x-g.v.w*f.v.x)=(meet f.v g.v).y:=bm.2.1.wr (by decide);have ww:IntKind.i64.wrap (f.v.x*g.v.y-g.v.x*f.v.y)=(meet f.v g.v).w:=bm.2.2.wr (by decide);simp only[e1,f10,u1,f11,v1,f12,w1,e2,f20,y1,f21,z1,f22,A1,ae,fH,dt,xD,xC,wx,wy,ww,bp];refine aw λu2 N1 o1 O1=>?_;unfold ptrTo;refine aC xG o1 rfl rfl rfl λg0 P1 l0 T1=>?_;have m0:Ext b0 g0:=⟨by omega,by grind⟩
   have l0:g0.get b0.n=.cells (vC (meet f.v g.v)) 343 none:=l0;have y0:g0.get b0.n=.cells [YR (meet f.v g.v).x,YR (meet f.v g.v).y,YR (meet f.v g.v).w] 343 none:=l0;have B1:∀mm:M,∀x y w:Int,mm.get b0.n=.cells [YR x,YR y,YR w] 343 none->ah TE mm 3 (Ga b0.n (0+0))=some (YR x)/\ah TE mm 3 (Ga b0.n (0+1))=some (YR y)/\ah TE mm 3 (Ga b0.n (0+2))=some (YR w):=λmm x y w h=>by refine⟨?_,?_,?_⟩ <;>rw[bF,aI h] <;>rfl
   have r0:∀(e0:Φ) (m':M) (d0:Nat) (n0:List Pt),g0.n<=m'.n->(∀c,c<m22.n->m'.get c=m22.get c)->m.n<=d0->Ow m22.n m' n0 e0->tM L n0 i (k+1)->n0.length<=acc.length+1->
     ∃g',L.length-g'<L.length-k/\PZ m22 m.n L i g' [e0,Value.int .i64 ((k+1:Nat):Int)] m' d0:=λe0 m' d0 n0 h1 h2 h3 h4 h5 h6=>
    ⟨k+1,by omega,e0,n0,rfl,by omega,by omega,⟨by omega,h2⟩,h3,h4,h5,by omega⟩
   have A0:∀c,c<m22.n->g0.get c=m22.get c:=λc hc=>by rw[m0.get c (by omega),a0.get c hc]
   have p1:∀(p:V) (mm:M) (d0:Nat),p=norm (meet f.v g.v)->(meet f.v g.v).w≠0->mm.get b0.n=.cells (vC p) 343 none->Ext b0 mm->g0.n<=mm.n->m.n<=d0->∀(e0:Φ) (m':M) (o0:Nat),mm.n<=m'.n->(∀c,c<m22.n->m'.get c=mm.get c)->min d0 m22.n<=o0->
     Ow m22.n m' (if Ld L p then acc++ [Pt.mk p]else acc) e0->∃g',L.length-g'<L.length-k/\PZ m22 m.n L i g' [e0,Value.int .i64 ((k+1:Nat):Int)] m' o0:=by
    intro p mm d0 hp hw v2 r1 B0 G0 e0 m' o0 h1 h2 h3 h4;by_cases yJ:Ld L p=true;·rw[Tf yJ]at h4;refine r0 e0 m' o0 _ (by omega) (λc hc=>by rw[h2 c hc,r1.get c (by omega),a0.get c hc]) (by omega) h4 ?_ (by simp);rw[hp]at yJ⊢;exact H.add hf hg hw yJ
    ·rw[QL yJ]at h4;refine r0 e0 m' o0 _ (by omega) (λc hc=>by rw[h2 c hc,r1.get c (by omega),a0.get c hc]) (by omega) h4 ?_ (by omega);exact H.skip hf hg λh=>yJ (by grind)
   obtain⟨q0,q1,q2⟩:=B1 g0 _ _ _ y0;rw[jO,ae,q2,ae,aS,ae,aj];refine an (λhw=>?_) (λhw=>?_)
   ·have hw:(meet f.v g.v).w=0:=by grind
    rw[aP,ae,wrap64];exact r0 vc g0 _ acc (Ox _) A0 (by omega) (p0.aE m0) (H.skip hf hg λh=>h.1 hw) (by omega)
   have hw:(meet f.v g.v).w≠0:=by grind
   rw[ae,q2,ae,aM,ae,aj];refine an (λH0=>?_) (λI0=>?_)
   ·have H0:(meet f.v g.v).w<0:=by grind
    have B0:norm (meet f.v g.v)=(meet f.v g.v).neg:=by unfold norm;rw[Tf H0]
    have nx:∀{N x:Int},pX N x->N<9223372036854775808->IntKind.i64.wrap (0-x)= -x:=λ{N x} h hN=>by rw[wrap64 (by have:=h.2;omega) (by have:=h.1;omega)];omega
    rw[jQ,ae,q0,ae,Bg,ae,jP,ae,q1,ae,Bg,ae,ae,q2,ae,Bg,ae,nx bm.1 (by decide),nx bm.2.1 (by decide),nx bm.2.2 (by decide),bp,ae];refine aC xG y0 rfl rfl rfl λz0 C1 i0 D1=>?_;have i0:z0.get b0.n=.cells (vC (norm (meet f.v g.v))) 343 none:=by rw[B0];exact i0
    have s0:Ext b0 z0:=⟨by omega,by grind⟩
    exact HP (P:=λvs mm lo=>∃g',L.length-g'<L.length-k/\PZ m22 m.n L i g' vs mm lo) (n1:=m22.n) (u0.aE (a0.trans s0)) i0 (p0.aE s0) (by omega) v0 bn (by omega) (by omega) c1 (p1 _ z0 _ rfl hw i0 s0 (by omega) (by omega))
   have I0:¬(meet f.v g.v).w<0:=by grind
   have B0:norm (meet f.v g.v)=meet f.v g.v:=by unfold norm;rw[QL I0]
   exact HP (P:=λvs mm lo=>∃g',L.length-g'<L.length-k/\PZ m22 m.n L i g' vs mm lo) (n1:=m22.n) (u0.aE (a0.trans m0)) l0 (p0.aE m0) (by omega) v0 bm (by omega) (by omega) c1 (p1 _ g0 _ B0.symm hw l0 m0 (Ox _) (by omega))
  have E1:k=L.length:=by
   grind
  subst E1;rw[ae];exact⟨i+1,by omega,vc,acc,rfl,by omega,a0,l1,p0,H.next (Ox _) (by omega),by omega⟩
 have F1:i=L.length:=by
  grind
 subst F1;have w2:=hx.n;have G1:∀x∈acc,WI x.v:=λx hx=>by have⟨f,hf,g,hg,_,e,_⟩:=H.snd x hx;rw[e];obtain⟨f',H1,rfl⟩:=LY.1 hf;obtain⟨g',I1,rfl⟩:=LY.1 hg;exact Hv (Hy (v0 _ H1) (v0 _ I1))
 refine My (R:=λvs _ lo=>bh vs=.bool (fw a b)/\m.n<=lo) (n1:=m22.n) p0.sl G1 (by omega) (by omega) (λm' d0 u v w hu hv hw hd G0=>fin m' d0 true ?_ (by omega)) (λm' d0 hz G0=>fin m' d0 false ?_ (by omega))
 ·refine((Dw j0 k0).2 ⟨λhs=>hd ?_,λhs=>hd ?_⟩).symm;·exact DH j0 k0 (L:=L.map (·.v)) (by grind) hs (H.snd _ hu) (H.snd _ hv) (H.snd _ hw)
  exact DH k0 j0 (L:=L.map (·.v)) (by grind) hs (H.snd _ hu) (H.snd _ hv) (H.snd _ hw)
 ·cases ho:fw a b with
  |false=>rfl
  |true=>exfalso;have⟨s1,s2⟩:=(Dw j0 k0).1 ho;have⟨u,v,w,cu,cv,cw,hd⟩:=Mz j0 k0 s1 s2;rw[<-d1]at cu cv cw;exact hd (RQ hz (H.zd cu) (H.zd cv) (H.zd cw))
end
section
variable {X:aK} {m:M}
structure UW where
 u:Un
 w:Φ
abbrev UW.c(x:UW):Bt:=x.u.c x.w
abbrev UW.v(x:UW):Φ:=x.u.v x.w
instance:aW UW where
 ty:=60
 sz:=6
 agg:=true
 cT:=[]
 rep _ x cs:=cs=x.c/\one x.w=true
 pos:=by decide
 one:=by grind
 len:=by simp_all
 dS:=by rintro _ x _ ⟨rfl,h⟩;exact Un.cH h
 aV:=by grind
theorem dc:oU TE 28 60 UW:=⟨ag.t28,ag.t60,by kernel_rfl,⟨_,rfl⟩,rfl,by kernel_rfl,rfl,rfl⟩
theorem PJ:qH TE 28 UW:=⟨ag.t28,ag.t60,by kernel_rfl,rfl,rfl,by kernel_rfl,by decide,rfl⟩
def Own(n1:Nat)(m:M)(l:List UW)(b:Nat):Prop:=0 < l.length/\n1<=b/\∃cs,m.get b=.cells cs 60 (some 6)/\cs.length=l.length*6/\∀i x,l[i]?=some x->aW.rep m x (chunk cs 6 i)
theorem Own.ow{n1:Nat}{l:List UW}{b:Nat}(h:Own n1 m l b):Ow n1 m l (KI b 0 l.length l.length):=by have⟨h1,H,cs,h3,h4,h5⟩:=h;exact .inr ⟨b,cs,rfl,h1,H,h3,h4,h5⟩
theorem Own.of{n1:Nat}{l:List UW}{v:Φ}(h:Ow n1 m l v)(H:l≠ []):∃b,v=KI b 0 l.length l.length/\Own n1 m l b:=by
 rcases h with⟨_,h⟩|⟨b,cs,rfl,h1,h2,h3,h4,h5⟩;·grind
 exact⟨b,rfl,h1,h2,cs,h3,h4,h5⟩
theorem Own.aV{n1:Nat}{l:List UW}{b:Nat}{m':M}(h:Own n1 m l b)(hb:m'.get b=m.get b):Own n1 m' l b:=by have⟨h1,H,cs,h3,h4,h5⟩:=h;exact⟨h1,H,cs,by grind,h4,λi x hi=>h5 i x hi⟩
theorem SV{p q:Pl}:eq? TE 141 p.v q.v=some (decide (p=q)):=by
 have e:eq? TE 141 p.v q.v=some ((p.x==q.x) && ((p.y==q.y) && true)):=by kernel_rfl
 rw[e];have⟨a,b⟩:=p;have⟨c,d⟩:=q;by_cases h1:a=c <;>by_cases H:b=d <;>simp[h1,H]
end
section
variable {m:M}
theorem BE{x:UW}:aF TE m 28 1 [(0,x.v)]=some (.slice (some ⟨m.n,0,none⟩) 1 1,m.push (.cells x.c 60 none)):=by kernel_rfl
theorem Aa{x:UW}{b:Nat}{g:Option Nat}(h:m.get b=.cells x.c 60 g)(hw:one x.w):Sl m [x] (KI b 0 1 1):=
 .inr ⟨b,0,1,_,g,rfl,h,Ox _,λi y hi=>by
  match i with
  |0=>cases hi;exact⟨rfl,hw⟩
  |i+1=>cases hi⟩
end
section
variable {X:aK} {m:M}
def Pl.bC(p:Pl):Prop:=0<=p.x/\p.x<=40/\0<=p.y/\p.y<=40
theorem _root_.Go.D.Sl.eY{l:List UW}{v:Φ}(h:Sl m l v){i:Nat}{x:UW}(hi:l[i]?=some x){k:IntKind}:∃a,ak TE 28 v (.int k i)=some a/\ah TE m 60 a=some x.v/\one x.w:=by obtain⟨a,cs,h1,H,rfl,h3⟩:=h.index dc (k:=k) hi;exact⟨a,h1,H,h3⟩
theorem HE{b:Nat}{x:UW}{e:TypeId}{g:Option Nat}(h:m.get b=.cells x.c e g):ah TE m 60 (Ga b 0)=some x.v:=bU h
def jD(u:Un):Bool:=cR u.id 0 99 && cR u.kind 1 8 && cR u.du 0 7 && decide (0<=u.back) && decide (u.back < u.front) && decide (u.front<=8) && bI u.shape
def jX(a b:Un):Bool:=jD a && jD b && decide (max a.back b.back < min a.front b.front)
def hZ(a b:Un):Bool:=jX a b && fw a.shape b.shape
theorem BZ(hX:cd X)(n lo hi:Int):C X (.func 169) [YR n,YR lo,YR hi] m m.n (.bool (cR n lo hi)) m:=by
 refine Cl.fl hX (Kg func169) ?_;rw[aar];dsimp only[η];refine aZ (λvs m2 H=>vs=[.bool (cR n lo hi)]/\m.n<=H) (λR hR=>?_) ?_;·simp only[cz,ae,aj];refine an (λh=>hR _ _ _ ⟨by simp[cR,h],Ox _⟩) (λh=>hR _ _ _ ⟨by simp[cR,h],Ox _⟩)
 rintro _ m2 H ⟨rfl,hl⟩;rw[aB];exact⟨rfl,hl⟩
theorem kz{b:Nat}{u:Un}{w:Φ}{g:Option Nat}(h:m.get b=.cells (u.c w) 60 g):
  ah TE m 3 (Ga b (0+0))=some (YR u.id)/\ah TE m 3 (Ga b (0+1))=some (YR u.kind)/\ah TE m 3 (Ga b (0+2))=some (YR u.du)/\
  ah TE m 58 (Ga b (0+3))=some w/\ah TE m 3 (Ga b (0+4))=some (YR u.back)/\ah TE m 3 (Ga b (0+5))=some (YR u.front):=by refine⟨?_,?_,?_,?_,?_,?_⟩ <;>first|(rw[bF,aI h];rfl)|(rw[qj,aI h];rfl)
theorem mE(hX:cd X){u:Un}{w:Φ}(hw:Sl m u.shape w)(hb:u.shape.length<4611686018427387904):C X (.func 116) [u.v w] m m.n (.bool (jD u)) m:=by
 refine Cl.fl hX (Kg func116) ?_;rw[aaT];dsimp only[δ,ε,η,ρ,υ,χ,ψ,Γ,ω];refine aw λm1 e0 a0 b0=>?_;simp only[aT]at a0;have d0:Ext m m1:=⟨by omega,b0⟩
 have a0:m1.get m.n=.cells (u.c w) 60 none:=a0;have⟨l0,l1,l2,l3,l4,l5⟩:=kz a0;unfold ptrTo;refine aZ (λvs mm lo=>vs=[.bool (cR u.id 0 99 && cR u.kind 1 8 && cR u.du 0 7)]/\m1=mm/\m.n<=lo) (λR hR=>?_) ?_;·rw[bz,ae,l0,ae];refine aG (BZ hX _ _ _) ?_;rw[aj];refine an (λh1=>?_) (λh1=>hR _ _ _ ⟨by grind,rfl,by omega⟩);rw[cM,ae,l1,ae];refine aG (BZ hX _ _ _) ?_;rw[aj];refine an (λh2=>?_) (λh2=>hR _ _ _ ⟨by grind,rfl,by omega⟩);rw[cL,ae,l2,ae];refine aG (BZ hX _ _ _) ?_;exact hR _ _ _ ⟨by grind,rfl,by omega⟩
 rintro _ _ lo ⟨rfl,rfl,H⟩;rw[aB];refine aZ (λvs mm lo=>vs=[.bool (jD u)]/\m.n<=lo) (λR hR=>?_) ?_;·rw[aj];refine an (λh=>?_) (λh=>hR _ _ _ ⟨by unfold jD;rw[h];rfl,H⟩);simp only[bD,cK,cJ,ae,l3,l4,l5,cz,aM,aj];refine an (λh1=>?_) (λh1=>hR _ _ _ ⟨by unfold jD;rw[h,h1];rfl,H⟩);refine an (λh2=>?_) (λh2=>hR _ _ _ ⟨by unfold jD;rw[h,h1,h2];rfl,H⟩);refine an (λh3=>?_) (λh3=>hR _ _ _ ⟨by unfold jD;rw[h,h1,h2,h3];rfl,H⟩);refine aG (jm hX (hw.aE d0) hb) ?_;exact hR _ _ _ ⟨by unfold jD;rw[h,h1,h2,h3];rfl,by omega⟩
 rintro _ mm lo ⟨rfl,H⟩;rw[aB];exact⟨rfl,H⟩
theorem iP(hX:cd X){u:Un}{w:Φ}(hw:Sl m u.shape w)(hb:u.shape.length<4611686018427387904):C X (.func 172) [u.v w] m m.n (.bool (jD u)) m:=by
 refine Cl.fl hX (Kg func172) ?_;rw[aao];dsimp only[δ,ε,η,ρ,υ,χ,ψ];refine aw λm1 e0 a0 b0=>?_;simp only[aT]at a0;have d0:Ext m m1:=⟨by omega,b0⟩
 have a0:m1.get m.n=.cells (u.c w) 60 none:=a0;have⟨l0,l1,l2,l3,l4,l5⟩:=kz a0;unfold ptrTo;have n1:cR u.id 0 99=(!(decide (u.id<0)) && !(decide (99<u.id))):=by unfold cR;by_cases a:u.id<0 <;>by_cases b:99<u.id <;>simp[a,b] <;>omega
 have n2:cR u.kind 1 8=(!(decide (u.kind<1)) && !(decide (8<u.kind))):=by unfold cR;by_cases a:u.kind<1 <;>by_cases b:8<u.kind <;>simp[a,b] <;>omega
 have n3:cR u.du 0 7=(!(decide (u.du<0)) && !(decide (7<u.du))):=by unfold cR;by_cases a:u.du<0 <;>by_cases b:7<u.du <;>simp[a,b] <;>omega
 refine aZ (λvs mm lo=>vs=[.bool (!(cR u.id 0 99 && cR u.kind 1 8 && cR u.du 0 7))]/\m1=mm/\m.n<=lo) (λR hR=>?_) ?_;·simp only[bz,cM,cL,ae,l0,l1,l2,aM,bP,aj];rw[n1,n2,n3]at hR;refine an (λh1=>hR _ _ _ ⟨by grind,rfl,Ox _⟩) (λh1=>?_);refine an (λh2=>hR _ _ _ ⟨by grind,rfl,Ox _⟩) (λh2=>?_);refine an (λh3=>hR _ _ _ ⟨by grind,rfl,Ox _⟩) (λh3=>?_);refine an (λh4=>hR _ _ _ ⟨by grind,rfl,Ox _⟩) (λh4=>?_);refine an (λh5=>hR _ _ _ ⟨by grind,rfl,Ox _⟩) (λh5=>?_);exact hR _ _ _ ⟨by grind,rfl,Ox _⟩
 rintro _ _ lo ⟨rfl,rfl,H⟩;rw[aB,aj];refine an (λh=>?_) (λh=>?_)
 ·refine⟨?_,H⟩;have h:(cR u.id 0 99 && cR u.kind 1 8 && cR u.du 0 7)=false:=by
   cases h':(cR u.id 0 99 && cR u.kind 1 8 && cR u.du 0 7)with
   |false=>rfl
   |true=>rw[h']at h;cases h
  unfold jD;rw[h];rfl
 have h:(cR u.id 0 99 && cR u.kind 1 8 && cR u.du 0 7):=by
  cases h':(cR u.id 0 99 && cR u.kind 1 8 && cR u.du 0 7)with
  |true=>rfl
  |false=>rw[h']at h;cases h
 refine aZ (λvs mm lo=>vs=[.bool (jD u)]/\m.n<=lo) (λR hR=>?_) ?_;·simp only[bD,cK,cJ,ae,l3,l4,l5,cz,cI,aM,aj];refine an (λh1=>?_) (λh1=>hR _ _ _ ⟨by unfold jD;rw[h,h1];rfl,H⟩);refine an (λh2=>?_) (λh2=>hR _ _ _ ⟨by unfold jD;rw[h,h1,h2];rfl,H⟩);refine an (λh3=>?_) (λh3=>hR _ _ _ ⟨by unfold jD;rw[h,h1,h2,h3];rfl,H⟩);refine aG (mN hX (hw.aE d0) hb) ?_;exact hR _ _ _ ⟨by unfold jD;rw[h,h1,h2,h3];rfl,by omega⟩
 rintro _ mm lo ⟨rfl,H⟩;rw[aB];exact⟨rfl,H⟩
theorem vi(hX:cd X){a b:Un}{va vb:Φ}(ha:Sl m a.shape va)(hb:Sl m b.shape vb)(la:a.shape.length<4611686018427387904)(lb:b.shape.length<4611686018427387904):
  C X (.func 148) [a.v va,b.v vb] m m.n (.tuple #[YR (max a.back b.back),YR (min a.front b.front),.bool (jX a b)]) m:=by
 refine Cl.fl hX (Kg func148) ?_;rw[aaB];dsimp only[δ,ε,η,κ,ρ,υ,ψ,ω];refine aw λm1 e0 b0 g0=>?_;refine aw λm2 i0 H j0=>?_;simp only[aT]at b0 H;have a0:Ext m m2:=⟨by omega,by grind⟩
 have g1:m2.get m.n=.cells (a.c va) 60 none:=by grind
 have g2:m2.get m1.n=.cells (b.c vb) 60 none:=H;obtain⟨-, -, -, -,a4,a5⟩:=kz g1;obtain⟨-, -, -, -,b4,b5⟩:=kz g2;unfold ptrTo;simp only[cK,cJ,ae,a4,a5,b4,b5,qi,kf,az];refine aZ (λvs mm lo=>vs=[YR (max a.back b.back),YR (min a.front b.front),.bool (jX a b)]/\m.n<=lo) (λR hR=>?_) ?_;·rw[aM,ae,aj];refine an (λh=>?_) (λh=>hR _ _ _ ⟨by unfold jX;rw[h,Qv],by omega⟩);rw[bU g1,ae];refine aG (mE hX (ha.aE a0) la) ?_;rw[aj];refine an (λh1=>?_) (λh1=>hR _ _ _ ⟨by unfold jX;rw[h1];rfl,by omega⟩);rw[bU g2,ae];refine aG (mE hX (hb.aE a0) lb) ?_;exact hR _ _ _ ⟨by unfold jX;rw[h,h1,ZD,Nx],by omega⟩
 rintro _ mm lo ⟨rfl,d0⟩;rw[aB,aB,aB];exact⟨rfl,d0⟩
theorem EW(H:cd X){a b:Un}{va vb:Φ}(ha:Sl m a.shape va)(hb:Sl m b.shape vb)(la:a.shape.length<4611686018427387904)(lb:b.shape.length<4611686018427387904):
  ∃x y,C X (.func 148) [a.v va,b.v vb] m m.n (.tuple #[YR x,YR y,.bool (jX a b)]) m:=⟨_,_,vi H ha hb la lb⟩
theorem jc{u:Un}(h:jD u):u.shape.length<=8:=by unfold jD at h;rw[JJ]at h;exact(eC h.2).2
theorem CW(hX:cd X){a b:Un}{va vb:Φ}(ha:Sl m a.shape va)(hb:Sl m b.shape vb)(la:a.shape.length<4611686018427387904)(lb:b.shape.length<4611686018427387904):
  C X (.func 197) [a.v va,b.v vb] m m.n (.bool (hZ a b)) m:=by
 refine Cl.fl hX (Kg func197) ?_;rw[ad1];dsimp only[δ,ε,ξ,ρ,υ,ψ,ω];refine aw λm1 e0 b0 g0=>?_;refine aw λm2 i0 a0 j0=>?_;simp only[aT]at b0 a0;have H:Ext m m2:=⟨by omega,by grind⟩
 have g1:m2.get m.n=.cells (a.c va) 60 none:=by grind
 have g2:m2.get m1.n=.cells (b.c vb) 60 none:=a0;obtain⟨-, -, -,a3, -, -⟩:=kz g1;obtain⟨-, -, -,b3, -, -⟩:=kz g2;unfold ptrTo;rw[bU g1,ae,bU g2,ae];have⟨x,y,hc⟩:=EW (m:=m2) hX (ha.aE H) (hb.aE H) la lb;refine aG hc ?_;rw[aH,aH,aH];simp only[zi,F9,ae];refine aZ (λvs mm lo=>vs=[.bool (hZ a b)]/\m.n<=lo) (λR hR=>?_) ?_;·rw[aj];refine an (λh=>?_) (λh=>hR _ _ _ ⟨by unfold hZ;rw[h];rfl,by omega⟩);have h':=h;unfold jX at h';simp only[JJ]at h';rw[bD,ae,a3,ae,bD,ae,b3,ae];refine aG (vB hX (ha.aE H) (hb.aE H) (by have:=jc h'.1.1;omega) (by have:=jc h'.1.2;omega)) ?_;exact hR _ _ _ ⟨by unfold hZ;rw[h];rfl,by omega⟩
 rintro _ mm lo ⟨rfl,d0⟩;rw[aB];exact⟨rfl,d0⟩
theorem vz(hX:cd X){a b:Un}{va vb:Φ}(ha:Sl m a.shape va)(hb:Sl m b.shape vb)(la:a.shape.length<4611686018427387904)(lb:b.shape.length<4611686018427387904):
  C X (.func 174) [a.v va,b.v vb] m m.n (.bool (jX a b)) m:=by
 refine Cl.fl hX (Kg func174) ?_;rw[aam];dsimp only[δ,ε,η,κ,ρ,υ,ψ,ω];refine aw λm1 e0 b0 g0=>?_;refine aw λm2 i0 H j0=>?_;simp only[aT]at b0 H;have a0:Ext m m2:=⟨by omega,by grind⟩
 have g1:m2.get m.n=.cells (a.c va) 60 none:=by grind
 have g2:m2.get m1.n=.cells (b.c vb) 60 none:=H;obtain⟨-, -, -, -,a4,a5⟩:=kz g1;obtain⟨-, -, -, -,b4,b5⟩:=kz g2;unfold ptrTo;refine aZ (λvs mm lo=>vs=[.bool (jX a b)]/\m.n<=lo) (λR hR=>?_) ?_;·rw[bU g1,ae];refine aG (iP hX (ha.aE a0) la) ?_;rw[aj];refine an (λh1=>?_) (λh1=>hR _ _ _ ⟨by unfold jX;rw[h1];rfl,by omega⟩);rw[bU g2,ae];refine aG (iP hX (hb.aE a0) lb) ?_;rw[aj];refine an (λh2=>?_) (λh2=>hR _ _ _ ⟨by unfold jX;rw[h2,Qv];rfl,by omega⟩);simp only[cK,cJ,ae,a4,a5,b4,b5,qi,kf,az,aM];exact hR _ _ _ ⟨by unfold jX;rw[h1,h2,ZD,ZD],by omega⟩
 rintro _ mm lo ⟨rfl,d0⟩;rw[aB];exact⟨rfl,d0⟩
theorem aeQ(hX:cd X){a b:Un}{va vb:Φ}(ha:Sl m a.shape va)(hb:Sl m b.shape vb)(la:a.shape.length<4611686018427387904)(lb:b.shape.length<4611686018427387904):
  C X (.func 173) [a.v va,b.v vb] m m.n (.bool (hZ a b)) m:=by
 refine Cl.fl hX (Kg func173) ?_;rw[aan];dsimp only[δ,ε,ρ,υ,ψ,ω];refine aw λm1 e0 b0 g0=>?_;refine aw λm2 i0 a0 j0=>?_;simp only[aT]at b0 a0;have H:Ext m m2:=⟨by omega,by grind⟩
 have g1:m2.get m.n=.cells (a.c va) 60 none:=by grind
 have g2:m2.get m1.n=.cells (b.c vb) 60 none:=a0;obtain⟨-, -, -,a3, -, -⟩:=kz g1;obtain⟨-, -, -,b3, -, -⟩:=kz g2;unfold ptrTo;refine aZ (λvs mm lo=>vs=[.bool (hZ a b)]/\m.n<=lo) (λR hR=>?_) ?_;·rw[bU g1,ae,bU g2,ae];refine aG (vz hX (ha.aE H) (hb.aE H) la lb) ?_;rw[aj];refine an (λh=>?_) (λh=>hR _ _ _ ⟨by unfold hZ;rw[h];rfl,by omega⟩);have h':=h;unfold jX at h';simp only[JJ]at h';rw[bD,ae,a3,ae,bD,ae,b3,ae];refine aG (vA hX (ha.aE H) (hb.aE H) (by have:=jc h'.1.1;omega) (by have:=jc h'.1.2;omega)) ?_;exact hR _ _ _ ⟨by unfold hZ;rw[h];rfl,by omega⟩
 rintro _ mm lo ⟨rfl,d0⟩;rw[aB];exact⟨rfl,d0⟩
end
end Go.Proofs.YtigpcbodmjjaiaaGreatDoor
namespace Go.D
open Go
section
section
variable {E:Env} {m:M} {T:TypeId} {ti:TI} {e:TypeId} {b n:Nat} {cs:Bt} {te:TypeId} {g:Option Nat}
theorem zZ(t1:E.ty.get T=some ti)(t2:ti.d=.slice e)(hk:0<ti.es)(h:m.get b=.cells cs te g)(hg:g=none\/g=some ti.es){o c i:Nat}(H:n<=c)(hi:i<=c):
  slice? E m T (KI b o n c) none (some (YR i)) none=some (KI b o i c):=by
 have b1:fF n c none (some (YR i)) none=some (0,i,c):=by unfold fF;simp only[pT hi]
 have e1:Nat.beq ti.es 0=false:=by
  cases hb:Nat.beq ti.es 0 with
  |false=>rfl
  |true=>have:=vZ hb;omega
 have e2:Nat.ble n c:=Cc H;have e0:(⟨b,o,none⟩:Addr).add (0*ti.es)=⟨b,o,none⟩:=by rw[bj rfl,JE];rfl
 rcases hg with rfl|rfl
 ·simp only[slice?,t1,t2,b1,h,e1,e2,V8,Cz,T4,KA,e0];grind
 ·have e3:Nat.beq ti.es ti.es:=QO _;simp only[slice?,t1,t2,b1,h,e1,e2,e3,V8,Cz,T4,cond_true,KA,e0];grind
theorem ph(t1:E.ty.get T=some ti)(t2:ti.d=.slice e)(hk:0<ti.es)(h:m.get b=.cells cs te g)(hg:g=none\/g=some ti.es){o c j:Nat}(H:n<=c)(hj:j<=n):
  ∃a',slice? E m T (KI b o n c) (some (YR j)) none none=some (.slice (some a') (n-j) (c-j))/\(j<c->a'=⟨b,o+j*ti.es,none⟩):=by
 have b1:fF n c (some (YR j)) none none=some (j,n,c):=by unfold fF;simp only[pT hj]
 have e1:Nat.beq ti.es 0=false:=by
  cases hb:Nat.beq ti.es 0 with
  |false=>rfl
  |true=>have:=vZ hb;omega
 have e2:Nat.ble n c:=Cc H;have e0:(⟨b,o,none⟩:Addr).add (j*ti.es)=⟨b,o+j*ti.es,none⟩:=bj (a:=⟨b,o,none⟩) rfl _;have e4:j<c->Nat.beq c j=false:=λa0=>by
  cases hb:Nat.beq c j with
  |false=>rfl
  |true=>have:=vZ hb;omega
 rcases hg with rfl|rfl;·refine⟨bif Nat.beq c j then⟨b,o,none⟩else(⟨b,o,none⟩:Addr).add (j*ti.es),?_,by grind⟩;simp only[slice?,t1,t2,b1,h,e1,e2,V8,Cz,T4]
 have e3:Nat.beq ti.es ti.es:=QO _;refine⟨bif Nat.beq c j && !((none:Option Φ).isNone && Nat.beq (o+c*ti.es) cs.length)then⟨b,o,none⟩else(⟨b,o,none⟩:Addr).add (j*ti.es),?_,by grind⟩;simp only[slice?,t1,t2,b1,h,e1,e2,e3,V8,Cz,T4,cond_true]
theorem Ow.om{α:Type}[aW α]{n1:Nat}{m m':M}{l:List α}{v:Φ}(ht:aW.cT α=[])(h:Ow n1 m l v)(hk:∀c,n1<=c->c<m.n->m'.get c=m.get c):Ow n1 m' l v:=by
 rcases h with h|⟨b,cs,h1,h2,H,h4,h5,h6⟩;·exact .inl h
 exact .inr ⟨b,cs,h1,h2,H,by rw[hk b H (M.aU h4),h4],h5,λi x hi=>aW.aV (h6 i x hi) λb c t g _ h=>by grind⟩
def SlC{α:Type}[aW α](m:M)(l:List α)(v:Φ):Prop:=
 Sl m l v/\∃b o c H g,v=.slice (some ⟨b,o,none⟩) l.length c/\l.length<=c/\m.get b=.cells H (aW.ty α) g/\(g=none\/g=some (aW.sz α))
theorem Ow.slc{α:Type}[aW α]{n1:Nat}{l:List α}{v:Φ}(h:Ow n1 m l v)(H:l≠ []):SlC m l v:=by
 refine⟨h.sl,?_⟩;rcases h with⟨_,rfl⟩|⟨b,cs,h1,h2,h3,h4,h5,h6⟩;·grind
 ·grind
theorem Sl.part{α:Type}[aW α]{l:List α}{b o c:Nat}(h:Sl m l (KI b o l.length c)){i k:Nat}(H:i+k<=l.length){c':Nat}:Sl m ((l.drop i).take k) (KI b (o+i*aW.sz α) k c'):=by
 have hlen:((l.drop i).take k).length=k:=by grind
 rcases h with⟨h,_⟩|⟨b',o',c1,bc,g,he,hb,hle,a0⟩;·cases h
 cases he;refine .inr ⟨b,_,c',bc,g,by rw[hlen],hb,?_,λj x hj=>?_⟩
 ·rw[hlen];have:(i+k)*aW.sz α<=l.length*aW.sz α:=ZW _ H;grind
 ·grind
end
end
end Go.D
namespace Go.Proofs.YtigpcbodmjjaiaaGreatDoor
section
variable {X:aK} {m:M}
structure cq(us:List Un):Prop where
 len:us.length<=12
 val:∀u∈us,jD u=true
 tP:∀(i:Nat) (a b:Un),us[i]?=some a->us[i+1]?=some b->a.id < b.id
 apart:∀(i k:Nat) (a b:Un),i < k->us[i]?=some a->us[k]?=some b->hZ a b=false
open Classical in
noncomputable def fL(us:List Un):Bool:=decide (cq us)
open Classical in
theorem fC{us:List Un}(h:cq us):fL us=true:=by unfold fL;exact IH h
open Classical in
theorem nM{us:List Un}(h:¬cq us):fL us=false:=by unfold fL;exact Dh h
open Classical in
theorem nd{us:List Un}:fL us=true↔cq us:=by unfold fL;exact decide_eq_true_iff
theorem KG(a b:Un):jX a b=jX b a:=by
 unfold jX;grind
theorem Fy(a b:List Pl):fw a b=fw b a:=by
 unfold fw;grind
theorem nC(a b:Un):hZ a b=hZ b a:=by unfold hZ;rw[KG,Fy]
def bM(l:List UW):List Un:=l.map (·.u)
theorem fP{l:List UW}{i:Nat}{x:UW}(h:l[i]?=some x):(bM l)[i]?=some x.u:=by unfold bM;rw[Z0,h];rfl
theorem cx{l:List UW}:(bM l).length=l.length:=by unfold bM;rw[Gv]
theorem oV{l:List UW}{i:Nat}{u:Un}(h:(bM l)[i]?=some u):∃x,l[i]?=some x/\x.u=u:=by
 unfold bM at h;rw[Z0]at h;cases H:l[i]? with
 |none=>rw[H]at h;cases h
 |some x=>rw[H]at h;cases h;exact⟨x,rfl,rfl⟩
theorem Bf{l:List UW}{u:Un}(h:u∈bM l):∃x∈l,x.u=u:=by unfold bM at h;obtain⟨x,H,rfl⟩:=LY.1 h;exact⟨x,H,rfl⟩
structure cP(m:M)(l:List UW)(v:Φ):Prop where
 sl:Sl m l v
 sh:∀x∈l,Sl m x.u.shape x.w
 ln:∀x∈l,x.u.shape.length < 1000000
 cap:l=[]\/∃b o c bc g,v=.slice (some ⟨b,o,none⟩) l.length c/\l.length<=c/\m.get b=.cells bc 60 g/\(g=none\/g=some 6)
theorem cP.aE{l:List UW}{v:Φ}{m':M}(h:cP m l v)(H:Ext m m'):cP m' l v:=
 ⟨h.sl.aE H,λx a0=>(h.sh x a0).aE H,h.ln,h.cap.imp id λ⟨b,o,c,bc,g,h1,h2,h3,h4⟩=>⟨b,o,c,bc,g,h1,h2,H.cells h3,h4⟩⟩
theorem cP.aV{l:List UW}{v:Φ}{m':M}(h:cP m l v)(hk:∀c cs t g,m.get c=.cells cs t g->(t=60\/t=141)->m'.get c=.cells cs t g):cP m' l v:=
 ⟨h.sl.aV λb c t g H ht=>hk b c t g H (.inl (by simpa[aW.ty,aW.cT]using ht)),λx hx=>(h.sh x hx).aV λb c t g H ht=>hk b c t g H (.inr (by simpa[aW.ty,aW.cT]using ht)),h.ln,
  h.cap.imp id λ⟨b,o,c,bc,g,h1,h2,h3,h4⟩=>⟨b,o,c,bc,g,h1,h2,hk _ _ _ _ h3 (.inl rfl),h4⟩⟩
def gE:List UW->List (Bt)
 |[]=> []
 |a::r=>r.map (λb=> [a.v,b.v])++gE r
theorem acK{l:List UW}{i:Nat}{a:UW}(h:l[i]?=some a):gE (l.drop i)=(l.drop (i+1)).map (λb=> [a.v,b.v])++gE (l.drop (i+1)):=by have hi:=(OJ.1 h).1;rw[JK hi,(OJ.1 h).2,gE]
theorem abk{x:UW}{r:List UW}:gE (x::r)=r.map (λb=> [x.v,b.v])++gE r:=rfl
theorem Jy(hX:cd X){l:List UW}{v:Φ}{b:Nat}(hlen:l.length<1000000):
  Sa TE X (.ob λo=>∃cs g,o=.cells cs 60 g) (.func 236) [] [ptrTo b] (gE l) (λm=>m.get b=.cells [v] 30 none/\cP m l v):=by
 intro y n0 B I J m hD hI hJ hy G0 hB b0 h0;refine Cl.gen (R:=λv m2 b=>B<=b/\(I (gE l).length m2\/J m2)) (hX.no _ rfl) (Kg func236) rfl ?_;rw[show([]:Bt)++ .func (.yield y) #[] #[]::[ptrTo b]=[.func (.yield y) #[] #[],ptrTo b]from rfl,ZK];dsimp only[δ,ε,ζ,η,ι,κ,ο,ς,υ,χ,ω];have ld:∀m1:M,m1.get b=.cells [v] 30 none->ah TE m1 28 (Ga b (0+0))=some v:=λm1 h=>by rw[dT,aI h];rfl
 unfold ptrTo;rw[bJ,ae,ld m (hD _ _ h0).1,ae,(hD _ _ h0).2.sl.len dc,az];refine Lp.intro (γ:=Nat) (λi=>l.length-i) (λi vs m1 lo=>∃P,vs=[YR i]/\i<=l.length/\gE l=P++gE (l.drop i)/\I P.length m1/\n0<=m1.n/\m.n<=m1.n/\B<=lo/\((lo=m.n/\P=[])\/lo<m.n)) 0 ⟨[],rfl,ZE _,rfl,h0,G0,Ox _,by omega,.inl ⟨rfl,rfl⟩⟩ ?_;rintro i vs m1 y1 ⟨P,rfl,hi,hP,i0,H0,i1,z1,e0⟩;rw[aB,aM,ae,aj];refine an (λH=>?_) (λA1=>?_)
 ·have H:i<l.length:=by grind
  obtain⟨a,ha⟩:∃a,l[i]?=some a:=⟨_,Fx H⟩
  obtain⟨q,e1,e2,ow⟩:=(hD _ _ i0).2.sl.eY (k:=.i64) ha;rw[e1,ae,e2,ae];refine aw λm13 j1 p0 k1=>?_;refine aC dm p0 rfl rfl (Un.cH ow) λm14 l1 q0 o1=>?_;have r0:Ext m1 m14:=⟨by omega,by grind⟩
  have g0:=hI _ _ _ i0 r0;obtain⟨s0,u0⟩:=hD _ _ g0;rw[ae,ld m14 s0,ae,aP,ae,wrap64,show((i:Int)+1)=((i+1:Nat):Int) by omega];obtain⟨a',c',d0,I0⟩:∃a' c',slice? TE m14 28 v (some (YR ((i+1:Nat):Int))) none none=some (.slice (some a') (l.length-(i+1)) c')/\∀(mm:M),cP mm l v->∀j x,l[i+1+j]?=some x->∃q,ak TE 28 (.slice (some a') (l.length-(i+1)) c') (YR j)=some q/\ah TE mm 60 q=some x.v:=by
   rcases u0.cap with h|⟨ab,o,c,bc,g,hv,J0,hg,K0⟩;·rw[h]at H;simp at H
   obtain⟨a',h1,h2⟩:=ph (E:=TE) (m:=m14) (T:=28) (ti:=ag.t28) (e:=60) (b:=ab) (cs:=bc) (te:=60) (g:=g) (n:=l.length) (o:=o) (c:=c) (j:=i+1) Mx rfl (by decide) hg K0 J0 H;refine⟨a',c-(i+1),by grind,λmm L0 j x hx=>?_⟩;have hj:=(OJ.1 hx).1;have N0:=h2 (by omega);subst N0;have d0:=L0.sl;rw[hv]at d0;have hp:=Sl.part (i:=i+1) (k:=l.length-(i+1)) (c':=c-(i+1)) d0 (by omega);have O0:((l.drop (i+1)).take (l.length-(i+1)))[j]?=some x:=by rw[NU (by omega),Kb];exact hx
   have⟨q,q1,q2,_⟩:=hp.eY (k:=.i64) O0;exact⟨q,q1,q2⟩
  rw[d0,ae];have ln:av TE m14 .len [28] [.slice (some a') (l.length-(i+1)) c']=some (YR (l.length-(i+1):Nat),m14):=aev;rw[ln,az];have j0:=hP;rw[acK ha,<-WO]at j0;have v0:∀j x,l[i+1+j]?=some x->(gE l)[P.length+j]?=some [a.v,x.v]:=λj x hx=>by
   have hj:=(OJ.1 hx).1;have P0:(l.drop (i+1))[j]?=some x:=by grind
   rw[j0,WO,zC (by omega),Gg,QH (by grind),Z0,P0];rfl
  refine Lp.intro (γ:=Nat) (λj=>l.length-j) (λj vs m2 lo=>vs=[YR j]/\j<=l.length-(i+1)/\I (P.length+j) m2/\m1.n<m2.n/\m2.get m1.n=.cells a.c 60 none/\B<=lo/\((lo=m.n/\P=[]/\j=0)\/lo<m.n)) 0
   ⟨rfl,ZE _,g0,by omega,q0,by omega,by
    rcases e0 with⟨h1,h2⟩|h;·exact .inl ⟨by omega,h2,rfl⟩
    exact .inr (by omega)⟩ ?_
  rintro j vs m2 fO ⟨rfl,hj,k0,B1,y0,z0,l0⟩;rw[aB,aM,ae,aj];refine an (λA0=>?_) (λp1=>?_)
  ·have A0:j<l.length-(i+1):=by grind
   obtain⟨x,hx⟩:∃x,l[i+1+j]?=some x:=⟨_,qp⟩
   obtain⟨q,q1,q2⟩:=I0 m2 (hD _ _ k0).2 j x hx;obtain⟨_,_,_,ox⟩:=(hD _ _ k0).2.sl.eY (k:=.i64) hx;rw[q1,ae,q2,ae];refine aw λC1 r1 B0 u1=>?_;refine aC dm B0 rfl rfl (Un.cH ox) λm0 v1 C0 w1=>?_;have a0:Ext m2 m0:=⟨by omega,by grind⟩
   rw[HE (a0.cells y0),ae,HE (x:=x) C0,ae,cg];obtain⟨v2,m4,b4,hc,D1,E1,a1,D0⟩:=b0 (P.length+j) [a.v,x.v] m0 (by omega) (v0 j x hx) (hI _ _ _ k0 a0);refine aG hc ?_;have F1:m0.n<=m4.n:=hc.1;rcases D0 with⟨rfl,b1⟩|⟨rfl,c1⟩
   ·rw[bk,ae,aj,V8,aN,aP,ae,wrap64];have E0:m4.get m1.n=.cells a.c 60 none:=by have F0:=a0.cells y0;rw[a1 m1.n H0 (by omega) ⟨_,_,F0⟩,F0]
    exact⟨j+1,by omega,rfl,by omega,b1,by omega,E0,by omega,.inr (by omega)⟩
   rw[bk,ae,aj,Km,bH];exact .inr ⟨.inr (by omega),by omega,.inr c1⟩
  have G1:j=l.length-(i+1):=by
   have:¬(j:Int)< ((l.length-(i+1):Nat):Int):=by grind
   omega
  have o0:(P++(l.drop (i+1)).map λb=> [a.v,b.v]).length=P.length+j:=by grind
  rw[ae];refine⟨i+1,by omega,_,rfl,by omega,j0,by grind,by omega,by omega,z0,?_⟩;rcases l0 with⟨h1,h2,h3⟩|h;·refine .inl ⟨h1,?_⟩;rw[<-Pj,o0,h2,h3];rfl
  exact .inr h
 have d1:i=l.length:=by
  have:¬(i:Int)< (l.length:Int):=by grind
  omega
 subst d1;have g1:gE l=P:=by rw[hP,Wd (Ox _)];simp[gE]
 rw[g1];rcases e0 with⟨h1,h2⟩|h;·subst h2;exact .inl ⟨rfl,by omega,by omega,.inl h0⟩
 exact .inr ⟨.inr h,by omega,.inl i0⟩
def mq:List UW->List (UW×UW)
 |[]=> []
 |a::r=>r.map (λb=>(a,b))++mq r
theorem um:∀l:List UW,gE l=(mq l).map λp=> [p.1.v,p.2.v]
 |[]=>rfl
 |a::r=>by
  rw[abk,mq,Cu,Nh,um r];rfl
theorem yl:∀{l:List UW} {p:UW×UW},p∈mq l->p.1∈l/\p.2∈l/\∃(i j:Nat),i<j/\l[i]?=some p.1/\l[j]?=some p.2
 |[],p,h=>by cases h
 |a::r,p,h=>by
  rw[mq]at h;rcases OH.1 h with h|h
  ·obtain⟨b,H,rfl⟩:=LY.1 h;have⟨j,hj⟩:=ZZ H;exact⟨by simp,by grind,0,j+1,by omega,rfl,by grind⟩
  ·have⟨h1,h2,i,j,h3,h4,h5⟩:=yl h;exact⟨by grind,by grind,i+1,j+1,by omega,by grind,by grind⟩
theorem Jz:∀{l:List UW} (i j:Nat) (a b:UW),i<j->l[i]?=some a->l[j]?=some b->(a,b)∈mq l:=by
 intro l;induction l with
 |nil=>intro i j a b _ ha;simp at ha
 |cons x r ih=>
  intro i j a b H ha hb;rw[mq,OH];match i,j,H with
  |0,j+1,_=>
   grind
  |i+1,j+1,H=>exact .inr (ih i j a b (by omega) (by simpa using ha) (by simpa using hb))
theorem Ni{l:List UW}{k:Nat}{args:Bt}(h:(gE l)[k]?=some args):∃p,(mq l)[k]?=some p/\args=[p.1.v,p.2.v]:=by
 rw[um,Z0]at h;cases H:(mq l)[k]? with
 |none=>rw[H]at h;cases h
 |some p=>rw[H]at h;cases h;exact⟨p,rfl,rfl⟩
theorem aeI(hX:cd X){v:Φ}(hv:cells v=[v]):∃m',C X (.func 196) [.agg #[v]] m m.n (.func (.func 236) #[] #[ptrTo m.n]) m'/\Ext m m'/\m'.n=m.n+1/\m'.get m.n=.cells [v] 30 none:=by
 have key:∃r m' b,C X (.func 196) [.agg #[v]] m b r m'/\b=m.n/\r=.func (.func 236) #[] #[ptrTo m.n]/\Ext m m'/\m'.n=m.n+1/\m'.get m.n=.cells [v] 30 none:=by refine Cl.heap (R:=λr m' b=>b=m.n/\r=.func (.func 236) #[] #[ptrTo m.n]/\Ext m m'/\m'.n=m.n+1/\m'.get m.n=.cells [v] 30 none) (hX.no _ rfl) (Kg func196) rfl ?_;rw[Z5];dsimp only[ρ,υ];refine aw λm1 H a0 b0=>?_;exact⟨.inl rfl,by omega,rfl,⟨by omega,b0⟩,H,a0⟩
 obtain⟨r,m',b,hc,rfl,rfl,h1,h2,h3⟩:=key;exact⟨m',hc,h1,h2,h3⟩
theorem rV{l:List UW}{v:Φ}(h:Sl m l v){i:Nat}{x:UW}(H:l[i]?=some x):∃a a0,ak TE 28 v (YR i)=some a/\af TE 60 a 0=some a0/\ah TE m 3 a0=some (YR x.u.id):=by have⟨b,o,bc,g,cs,e1,hb,hr,_,hj⟩:=h.fa dc (k:=.i64) H;obtain⟨rfl,_⟩:=hr;refine⟨_,_,e1,bz,?_⟩;rw[bF,aI hb,hj 0 (by decide)];rfl
theorem PG{l:List UW}{i:Nat}{a b:UW}(H:l[i]?=some a)(hb:l[i+1]?=some b)(h:b.u.id<=a.u.id):¬cq (bM l):=λhf=>by
 have:=hf.tP i _ _ (fP H) (fP hb);omega
theorem Ly{l:List UW}{a:UW}(H:a∈l)(h:jD a.u=false):¬cq (bM l):=λhf=>by
 have:=hf.val a.u (LY.2 ⟨a,H,rfl⟩);grind
theorem ED{l:List UW}{i j:Nat}{a b:UW}(H:i<j)(ha:l[i]?=some a)(hb:l[j]?=some b)(h:hZ a.u b.u):¬cq (bM l):=λhf=>by
 have:=hf.apart i j _ _ H (fP ha) (fP hb);grind
theorem AG(hX:cd X){l:List UW}{v:Φ}(h:cP m l v)(hlen:l.length<1000000):C X (.func 152) [.agg #[v]] m m.n (.bool (fL (bM l))) m:=by
 refine Cl.fl hX (Kg func152) ?_;rw[aax];dsimp only[δ,ε,ζ,η,ι,κ,ο,ρ,ς,υ,χ,ψ,Δ,Θ,ω];refine aw λm1 y2 p1 z2=>?_;refine aw λm2 A2 C0 u1=>?_;have e0:Ext m m2:=⟨by omega,by grind⟩
 have g1:m2.get m.n=.cells [v] 30 none:=by rw[u1 _ (by omega),p1];rfl
 have u0:∀mm:M,Ext m2 mm->ah TE mm 28 (Ga m.n (0+0))=some v:=λmm H=>by rw[dT,aI (H.cells g1)];rfl
 have D0:∀(mm:M) (lo:Nat),Ext m2 mm->m.n<=lo->¬cq (bM l)->aO (aD TE mm 4 (Ga m1.n 0) Zf) λm7 b8=>ai (ah TE m7 4 (Ga m1.n 0)) λv9=>bh [v9]=.bool (fL (bM l))/\m.n<=min lo b8:=by intro mm lo H v1 hn;refine aC EY (H.cells C0) rfl rfl rfl λm7 B2 w1 C2=>?_;rw[uH,aI w1];show ai (some (Value.bool false)) _;rw[ae,nM hn];exact⟨rfl,by omega⟩
 unfold ptrTo;rw[bJ,ae,u0 m2 .refl,ae,(h.sl.aE e0).len dc,az,bP,ae,aj];refine an (λy1=>?_) (λhle=>?_)
 ·have y1:(12:Int)< l.length:=by grind
  exact D0 m2 m.n .refl (Ox _) λhf=>by have:=hf.len;rw[cx]at this;omega
 have hle:¬(12:Int)< l.length:=by grind
 rw[ae,u0 m2 .refl,ae,(h.sl.aE e0).len dc,az];refine Lp.intro (γ:=Nat) (λi=>l.length-i) (λi vs mm lo=>vs=[YR i]/\i<=l.length/\Ext m2 mm/\m.n<=lo/\(∀j x,j<i->l[j]?=some x->jD x.u)/\(∀j a b,j+1<i->l[j]?=some a->l[j+1]?=some b->a.u.id<b.u.id)) 0 ⟨rfl,ZE _,.refl,Ox _,λj x hj=>by omega,λj a b hj=>by omega⟩ ?_;rintro i vs mm lo ⟨rfl,hi,H,v1,k0,m0⟩;rw[aB,aM,ae,aj];have D2:=H.n;refine an (λE0=>?_) (λE2=>?_)
 ·have E0:i<l.length:=by grind
  obtain⟨x,g0⟩:∃a,l[i]?=some a:=⟨_,Fx E0⟩
  have v0:=LZ g0;have F0:=h.sl.aE (e0.trans H);have⟨q,e1,e2,ow⟩:=F0.eY (k:=.i64) g0;rw[e1,ae,e2,ae];refine aw λm22 N1 G0 O1=>?_;refine aC dm G0 rfl rfl (Un.cH ow) λm23 P1 H0 T1=>?_;have d0:Ext mm m23:=⟨by omega,by grind⟩
  have g23:m23.get mm.n=.cells (x.u.c x.w) 60 none:=H0;have I0:=(e0.trans H).trans d0;refine aZ (λvs m' lo=>∃bad,vs=[.bool bad]/\m23=m'/\m.n<=lo/\(bad->¬cq (bM l))/\(bad=false->jD x.u/\∀a,0<i->l[i-1]?=some a->a.u.id<x.u.id)) (λR hR=>?_) ?_
  ·rw[bU g23,ae];refine aG (mE hX ((h.sh x v0).aE I0) (by have:=h.ln x v0;omega)) ?_;rw[bk,ae,aj];refine an (λhb=>?_) (λhb=>?_);·exact hR _ _ _ ⟨true,rfl,rfl,by omega,λ_=>Ly v0 (by grind),λh=>by cases h⟩
   have hb:jD x.u:=by grind
   rw[bP,ae,aj];refine an (λhp=>?_) (λhp=>?_)
   ·have hp:0<i:=by grind
    obtain⟨a,ha⟩:∃a,l[i-1]?=some a:=⟨_,qp⟩
    obtain⟨l0, -⟩:=kz g23;have⟨q,q0,f1,f2,f3⟩:=rV (h.sl.aE I0) ha;rw[bz,ae,l0,ae,ae,u0 m23 (H.trans d0),ae,dt,ae,wrap64,show((i:Int)-1)=((i-1:Nat):Int) by omega,f1,ae,f2,ae,f3,ae,cz,ae];refine hR _ _ _ ⟨_,rfl,rfl,by omega,λhh=>?_,λhh=>⟨hb,λa' _ J0=>?_⟩⟩
    ·have hh:x.u.id<=a.u.id:=by grind
     exact PG ha (by grind) hh
    rw[ha]at J0;cases J0;have hh:¬x.u.id<=a.u.id:=by grind
    omega
   have hp:¬0<i:=by grind
   exact hR _ _ _ ⟨false,rfl,rfl,by omega,λh=>(by cases h),λ_=>⟨hb,λa h=>absurd h hp⟩⟩
  rintro _ _ z1 ⟨bad,rfl,rfl,n0,K0,y0⟩;rw[aB,aj];refine an (λhb=>?_) (λhb=>?_);·exact D0 m23 z1 (H.trans d0) n0 (K0 hb)
  have⟨h1,h2⟩:=y0 hb;rw[aP,ae,wrap64];refine⟨i+1,by omega,rfl,by omega,H.trans d0,n0,λj y hj hy=>?_,λj a b hj ha z0=>?_⟩
  ·by_cases e:j=i;·subst e;rw[g0]at hy;cases hy;exact h1
   exact k0 j y (by omega) hy
  by_cases e:j+1=i;·subst e;rw[g0]at z0;cases z0;exact h2 a (by omega) (by grind)
  exact m0 j a b (by omega) ha z0
 have A1:i=l.length:=by
  grind
 subst A1;have B1:=H.cells g1;rw[eo,aQ B1 (by simp)];show ai (some (Value.agg #[v])) _;rw[ae];have⟨a0,L0,o0,a2,b2⟩:=aeI (m:=mm) hX h.sl.cells;refine aG L0 ?_;rw[cg];have b0:=(e0.trans H).trans o0;have gr:a0.get m1.n=.cells [Zf] 4 none:=o0.cells (H.cells C0)
 refine⟨_,gE l,_,λk m'=>a0.n<=m'.n/\(∀c,c<a0.n->m'.get c=a0.get c)/\∀k' p,k'<k->(mq l)[k']?=some p->hZ p.1.u p.2.u=false,
  λe m'=>e=.ret/\m'.get m1.n=.cells [Zf] 4 none/\¬cq (bM l),m.n,⟨_,rfl⟩,Jy hX (v:=v) (b:=mm.n) hlen,by omega,?_,?_,?_,⟨Ox _,λ_ _=>rfl,λk' p hk=>by omega⟩,?_,?_,?_⟩
 ·rintro k m' ⟨h1,h2,h3⟩;have he:Ext a0 m':=⟨h1,h2⟩
  exact⟨by grind,(h.aE b0).aE he⟩
 ·rintro k m' C1 ⟨h1,h2,h3⟩ hk;exact⟨by have:=hk.n;omega,λc hc=>by rw[hk.get c (by omega) (by omega),h2 c hc],h3⟩
 ·rintro e m' C1 ⟨h1,h2,h3⟩ hk;have:=M.aU h2;exact⟨h1,by rw[hk.get _ this (by omega),h2],h3⟩
 ·rintro k args i0 c2 D1 ⟨h1,h2,h3⟩;obtain⟨⟨a,b⟩,hp,rfl⟩:=Ni D1;have⟨ha,hb,i',j',E1,F1,G1⟩:=yl (LZ hp);have N0:Ext a0 i0:=⟨h1,h2⟩
  have hF:=(h.aE b0).aE N0;have oa:one a.w:=(hF.sh a ha).one;have ob:one b.w:=(hF.sh b hb).one;rw[aB,aB];show GX [] _;unfold GX;refine aw λF2 d2 O0 g2=>?_;refine aC dm O0 rfl rfl (Un.cH oa) λH1 i2 P0 j2=>?_;refine aw λm64 k2 a1 b1=>?_;refine aC dm a1 rfl rfl (Un.cH ob) λI1 l2 c1 d1=>?_;have fh:∀c,c<i0.n->I1.get c=i0.get c:=by grind
  refine⟨λc _ hc=>fh c hc,λj0 o2 p0=>?_⟩;dsimp only;have r1:j0.get i0.n=.cells (a.u.c a.w) 60 none:=by rw[p0 _ (by omega),d1 _ (by omega),b1 _ (by omega),P0];rfl
  have r2:j0.get H1.n=.cells (b.u.c b.w) 60 none:=by rw[p0 _ (by omega),c1];rfl
  have i1:∀c,c<a0.n->j0.get c=a0.get c:=by grind
  have r0:Ext a0 j0:=⟨by omega,i1⟩
  have s0:=(h.aE b0).aE r0;rw[bU r1,ae,bU r2,ae];refine aG (CW hX (s0.sh a ha) (s0.sh b hb) (by have:=h.ln a ha;omega) (by have:=h.ln b hb;omega)) ?_;rw[aj];refine an (λho=>?_) (λho=>?_);·refine aC EY (r0.cells gr) rfl rfl rfl λG2 u2 j1 k1=>?_;exact⟨by omega,λc H2 I2 _=>k1 c (by omega),rfl,j1,ED E1 F1 G1 ho⟩
  refine⟨by omega,λc _ _ _=>rfl,by omega,i1,λk' p A0 B0=>?_⟩;by_cases e:k'=k;·subst e;rw[hp]at B0;cases B0;exact ho
  exact h3 k' p (by omega) B0
 ·rintro m' fO ⟨h1,h2,h3⟩ l1;have J1:m'.get m1.n=.cells [Zf] 4 none:=by grind
  refine aC EY J1 rfl rfl rfl λJ2 v2 o1 w2=>?_;rw[uH,aI o1];show ai (some (Value.bool true)) _;rw[ae];refine⟨?_,by omega⟩;rw[fC];·rfl
  refine⟨by rw[cx];omega,λu hu=>?_,λi a b ha hb=>?_,λi k a b K1 ha hb=>?_⟩;·obtain⟨x,H,rfl⟩:=Bf hu;have⟨j,hj⟩:=ZZ H;exact k0 j x (OJ.1 hj).1 hj
  ·obtain⟨x,H,rfl⟩:=oV ha;obtain⟨y,hy,rfl⟩:=oV hb;exact m0 i x y (OJ.1 hy).1 H hy
  obtain⟨x,H,rfl⟩:=oV ha;obtain⟨y,hy,rfl⟩:=oV hb;have:=Jz i k x y K1 H hy;have⟨k',A0⟩:=ZZ this;have L1:=(OJ.1 A0).1;exact h3 k' (x,y) (by rw[um,Gv];exact L1) A0
 rintro e m' fO K2 ⟨rfl,h2,h3⟩ l1;refine⟨_,Qk.2 rfl,rfl,?_⟩;dsimp only;rw[uH,aI h2];show ai (some (Value.bool false)) _;rw[ae,nM h3];exact⟨rfl,by omega⟩
theorem kU(hX:cd X){l:List UW}{v:Φ}(h:cP m l v)(hlen:l.length<1000000):C X (.func 128) [.agg #[v]] m m.n (.bool (fL (bM l))) m:=by
 refine Cl.fl hX (Kg func128) ?_;rw[aaK];dsimp only[δ,ε,ζ,η,κ,ο,ρ,υ,χ,ψ];refine aw λm1 b1 B0 C0=>?_;have D0:Ext m m1:=⟨by omega,C0⟩
 have g1:m1.get m.n=.cells [v] 30 none:=B0;have a0:ah TE m1 28 (Ga m.n (0+0))=some v:=by rw[dT,aI g1];rfl
 have h1:=h.aE D0;unfold ptrTo;rw[bJ,ae,a0,ae,h1.sl.len dc,az,bP,ae,aj];refine an (λE0=>?_) (λhle=>?_)
 ·have E0:(12:Int)< l.length:=by grind
  refine⟨?_,Ox _⟩;rw[nM λhf=>by have:=hf.len;rw[cx]at this;omega];rfl
 have hle:¬(12:Int)< l.length:=by grind
 have o0:∀(lo:Nat),m.n<=lo->¬cq (bM l)->bh [Value.bool false]=.bool (fL (bM l))/\m.n<=lo:=λlo m0 hn=>⟨by rw[nM hn];rfl,m0⟩
 refine Lp.intro (γ:=Nat) (λi=>l.length-i) (λi vs mm lo=>vs=[Zf,YR i]/\i<=l.length/\m1=mm/\m.n<=lo/\(∀j x,j<i->l[j]?=some x->jD x.u)/\(∀j a b,j+1<i->l[j]?=some a->l[j+1]?=some b->a.u.id<b.u.id)/\(∀j k a b,k<i->j<k->l[j]?=some a->l[k]?=some b->hZ a.u b.u=false)) 0 ⟨rfl,ZE _,rfl,Ox _,λj x hj=>by omega,λj a b hj=>by omega,λj k a b hk=>by omega⟩ ?_;rintro i vs mm lo ⟨rfl,hi,rfl,m0,i0,j0,p0⟩;rw[aB,aB,ae,a0,ae,h1.sl.len dc,az,aM,ae,aj];refine an (λr0=>?_) (λc1=>?_)
 ·have r0:i<l.length:=by grind
  obtain⟨x,b0⟩:∃a,l[i]?=some a:=⟨_,Fx r0⟩
  have e0:=LZ b0;have⟨q,e1,e2,ow⟩:=h1.sl.eY (k:=.i64) b0;refine aZ (λvs m' lo=>∃bad,vs=[.bool bad]/\m1=m'/\m.n<=lo/\(bad->¬cq (bM l))/\(bad=false->jD x.u/\∀a,0<i->l[i-1]?=some a->a.u.id<x.u.id)) (λR hR=>?_) ?_
  ·rw[ae,a0,ae,e1,ae,e2,ae];refine aG (iP hX (u:=x.u) (w:=x.w) (h1.sh x e0) (by have:=h.ln x e0;omega)) ?_;rw[bk,ae,aj];refine an (λhb=>?_) (λhb=>?_);·exact hR _ _ _ ⟨true,rfl,rfl,by omega,λ_=>Ly e0 (by grind),λh=>by cases h⟩
   have hb:jD x.u:=by grind
   rw[bP,ae,aj];refine an (λhp=>?_) (λhp=>?_)
   ·have hp:0<i:=by grind
    obtain⟨a,H⟩:∃a,l[i-1]?=some a:=⟨_,qp⟩
    have⟨q,q0,f1,f2,f3⟩:=rV h1.sl H;have⟨q',d1,F0,G0,H0⟩:=rV h1.sl b0;rw[ae,a0,ae,F0,ae,G0,ae,H0,ae,ae,a0,ae,dt,ae,wrap64,show((i:Int)-1)=((i-1:Nat):Int) by omega,f1,ae,f2,ae,f3,ae,cz,ae];refine hR _ _ _ ⟨_,rfl,rfl,by omega,λhh=>?_,λhh=>⟨hb,λa' _ s0=>?_⟩⟩
    ·have hh:x.u.id<=a.u.id:=by grind
     exact PG H (by grind) hh
    rw[H]at s0;cases s0;have hh:¬x.u.id<=a.u.id:=by grind
    omega
   have hp:¬0<i:=by grind
   exact hR _ _ _ ⟨false,rfl,rfl,by omega,λh=>(by cases h),λ_=>⟨hb,λa h=>absurd h hp⟩⟩
  rintro _ _ I0 ⟨bad,rfl,rfl,k0,u0,n0⟩;rw[aB,aj];refine an (λhb=>o0 I0 k0 (u0 hb)) (λhb=>?_);have⟨J0,K0⟩:=n0 hb;refine Lp.intro (γ:=Nat) (λk=>i-k) (λk vs mm lo=>vs=[Zf,YR k]/\k<=i/\m1=mm/\m.n<=lo/\∀j a,j<k->l[j]?=some a->hZ a.u x.u=false) 0 ⟨rfl,ZE _,rfl,k0,λj a hj=>by omega⟩ ?_;rintro k vs mm fO ⟨rfl,hk,rfl,v0,y0⟩;rw[aB,aB,aM,ae,aj];refine an (λl0=>?_) (λa1=>?_)
  ·have l0:k<i:=by grind
   obtain⟨y,g0⟩:∃a,l[k]?=some a:=⟨_,qp⟩
   have z0:=LZ g0;have⟨q',L0,N0,_⟩:=h1.sl.eY (k:=.i64) g0;rw[ae,a0,ae,e1,ae,e2,ae,ae,a0,ae,L0,ae,N0,ae];refine aG (aeQ hX (a:=x.u) (va:=x.w) (b:=y.u) (vb:=y.w) (h1.sh x e0) (h1.sh y z0) (by have:=h.ln x e0;omega) (by have:=h.ln y z0;omega)) ?_;rw[aj];refine an (λho=>?_) (λho=>?_);·exact o0 _ (by omega) (ED l0 g0 b0 (by rw[nC];exact ho))
   rw[aP,ae,wrap64];refine⟨k+1,by omega,rfl,by omega,rfl,by omega,λj a hj H=>?_⟩;by_cases e:j=k;·subst e;rw[g0]at H;cases H;rw[nC];exact ho
   exact y0 j a (by omega) H
  have A0:k=i:=by
   grind
  subst A0;rw[aP,ae,wrap64];refine⟨k+1,by omega,rfl,by omega,rfl,v0,λj y hj hy=>?_,λj a b hj H d0=>?_,λj k' a b A0 hj H d0=>?_⟩
  ·by_cases e:j=k;·subst e;rw[b0]at hy;cases hy;exact J0
   exact i0 j y (by omega) hy
  ·by_cases e:j+1=k;·subst e;rw[b0]at d0;cases d0;exact K0 a (by omega) (by grind)
   exact j0 j a b (by omega) H d0
  by_cases e:k'=k;·subst e;rw[b0]at d0;cases d0;exact y0 j a hj H
  exact p0 j k' a b (by omega) hj H d0
 have O0:i=l.length:=by
  grind
 subst O0;refine⟨?_,m0⟩;rw[fC];·rfl
 refine⟨by rw[cx];omega,λu hu=>?_,λi a b H hb=>?_,λi k a b P0 H hb=>?_⟩;·obtain⟨x,hx,rfl⟩:=Bf hu;have⟨j,hj⟩:=ZZ hx;exact i0 j x (OJ.1 hj).1 hj
 ·obtain⟨x,hx,rfl⟩:=oV H;obtain⟨y,hy,rfl⟩:=oV hb;exact j0 i x y (OJ.1 hy).1 hx hy
 obtain⟨x,hx,rfl⟩:=oV H;obtain⟨y,hy,rfl⟩:=oV hb;exact p0 i k x y (OJ.1 hy).1 P0 hx hy
theorem mj(x:Int):lM (IntKind.i64.wrap x):=by
 have h:=GR x;unfold wr at h;unfold lM;grind
theorem dY(H:cd X){c n:Int}(hc:lM c)(hn:0<n):C X (.func 127) [YR c,YR n] m m.n (YR (dR c n)) m:=by refine Cl.fl H (Kg func127) ?_;rw[aaL];dsimp only[η,ο,χ];exact mP hc hn (P:=λv=>bh [v]=YR (dR c n)/\m.n<=m.n) ⟨rfl,Ox _⟩
theorem AU(hX:cd X){u:Un}{w:Φ}(hw:Sl m u.shape w)(hl:u.shape.length<1000000):
  ∃w' m',C X (.func 219) [u.v w] m m.n (u.v w') m'/\Ext m m'/\Sl m' u.shape w':=by
 have key:∃r m' b,C X (.func 219) [u.v w] m b r m'/\b=m.n/\∃w',r=u.v w'/\Ext m m'/\Sl m' u.shape w':=by
  refine Cl.heap (R:=λr m' b=>b=m.n/\∃w',r=u.v w'/\Ext m m'/\Sl m' u.shape w') (hX.no _ rfl) (Kg func219) rfl ?_;rw[abN];dsimp only[δ,ε,ι,κ,ν,ρ,ς,υ,χ,Γ];refine aw λm1 y0 r0 z0=>?_;refine aw λm2 A0 k0 B0=>?_;simp only[aT]at r0;have l0:Ext m m2:=⟨by omega,by grind⟩
  have g1:m2.get m.n=.cells (u.c w) 60 none:=by grind
  unfold ptrTo;rw[pR,az];have a0:Ext m2 (m2.push (.cells [] 141 none)):=Ext.refl.push;generalize m0:m2.push (.cells [] 141 none)=m4 at*;have n0:m4.get m2.n=.cells [] 141 none:=by rw[<-m0];exact M.aX
  have C0:m4.n=m2.n+1:=by rw[<-m0];rfl
  have g14:=a0.cells g1;obtain⟨-, -, -,l3, -, -⟩:=kz g14;rw[bD,ae,l3,ae];obtain⟨v7,m8,ha,H,b0,D0,s0⟩:∃v' m1,av TE (m4.wl m4.n) .append [58,58] [KI m2.n 0 0 0,w]=some (v',m1)/\Sl m1 u.shape v'/\Ext m4 m1/\m1.low=m4.n/\∃a n c,v'=.slice (some a) n c:=by
   have j0:=(hw.aE l0).aE a0;by_cases he:u.shape=[]
   ·rw[he]at j0⊢;obtain⟨a,c,rfl⟩:=j0.form;refine⟨KI m2.n 0 0 0,m4.wl m4.n,?_,.inr ⟨m2.n,0,0,[],none,rfl,n0,by simp,by grind⟩,⟨Ox _,λ_ _=>rfl⟩,rfl,_,_,_,rfl⟩;cases a with
    |none=>kernel_rfl
    |some a=>kernel_rfl
   obtain⟨v',m1,h1,h2,h3,h4⟩:=ik uZ n0 j0 he (by omega);have⟨a,c,hv⟩:=h2.sl.form;refine⟨v',m1,h1,h2.sl,h3,h4,?_⟩;rcases h2 with⟨_,h⟩|⟨b,cs,rfl,_⟩;·exact absurd h he
   exact⟨_,_,_,rfl⟩
  rw[ha,az,ae];have n8:=b0.n;have g18:=b0.cells g14;have o7:one v7:=H.one;refine bS vj g18 (by rw[H.cells];rfl) (by rw[H.cells];simp) (by rw[H.cells];simp[o7]) λm10 u0 d0 e0=>?_;have d0:m10.get m.n=.cells (u.c v7) 60 none:=by rw[d0,H.cells];rfl
  rw[bU d0,ae];have o0:m10.get m1.n=.cells Un.zc 60 none:=by rw[e0 _ (by omega),b0.get _ (by omega),a0.get _ (by omega),k0]
  refine aC dm o0 rfl rfl (Un.cH o7) λm13 v0 g0 i0=>?_;have g0:m13.get m1.n=.cells (u.c v7) 60 none:=g0;rw[bU g0,ae];obtain⟨a,n,c,rfl⟩:=s0;refine⟨.inl ?_,by omega,_,rfl,⟨by omega,λb hb=>by rw[i0 b (by omega),e0 b (by omega),b0.get b (by omega),a0.get b (by omega),l0.get b hb]⟩,?_⟩;·show bA (u.v (.slice (some a) n c))=false;simp[bA,dC,bw]
  refine H.aV λb cs t g hb ht=>?_;have p0:b≠m.n:=by rintro rfl;rw[g18]at hb;cases hb;revert ht;decide
  have q0:b≠m1.n:=by rintro rfl;rw[b0.get _ (by omega),a0.get _ (by omega),k0]at hb;cases hb;revert ht;decide
  rw[i0 b q0,e0 b p0,hb]
 obtain⟨r,m',b,hc,rfl,w',rfl,h1,h2⟩:=key;exact⟨w',m',hc,h1,h2⟩
theorem Rt{b o:Nat}{k:IntKind}{i:Nat}(hi:i<6):ak TE 89 (Ga b o) (.int k i)=some (Ga b (o+i)):=by rcases(show i=0\/i=1\/i=2\/i=3\/i=4\/i=5 by omega)with rfl|rfl|rfl|rfl|rfl|rfl <;>kernel_rfl
theorem acn(hX:cd X){R:Bt->M->Nat->Prop}{b6 rc lo0:Nat}{mm:M}{w:Φ}{d0:List Pl}{n i0 i1 i2 i3 i4 i5:Int}(hb:mm.get b6=.cells [YR i0,YR i1,YR i2,YR i3,YR i4,YR i5] 89 none)
  (hr:mm.get rc=.cells Un.zc 60 none) (hw:Sl mm d0 w) (hn:lM n) (h5:lM i5)
  (hR:∀(u:Un) (m':M) (lo:Nat),u.shape=d0->mm.n=m'.n->m'.get rc=.cells (u.c w) 60 none->(∀c,c≠rc->m'.get c=mm.get c)->min lo0 (min rc mm.n)<=lo->R [u.v w] m' lo):
  (ai (ak TE 89 (Ga b6 0) (YR 5)) λv0=>(ai (ah TE mm 3 v0) λy0=>(bs TE X (.func 127) [y0,YR 4] mm λz0 H g0=>(ai (aA TE .eql 3 z0 (YR 3)) λA0=>(aR A0
(ai (ak TE 89 (Ga b6 0) (YR 5)) λB0=>(ai (ah TE H 3 B0) λC0=>(ai (aA TE .quo 3 C0 (YR 4)) λD0=>(bs TE X (.func 127) [D0,YR 4] H λj0 k0 E0=>(ai (aA TE .add 3 j0 (YR 1)) λF0=>(ai (ak TE 89 (Ga b6 0) (YR 5)) λG0=>(ai (ah TE k0 3 G0) λH0=>(ai (aA TE .quo 3 H0 (YR 16)) λI0=>(bs TE X (.func 127) [I0,YR 4] k0 λJ0 l0 K0=>(ai (aA TE .add 3 F0 J0) λL0=>(bs TE X (.func 127) [YR n,YR 100] l0 λN0 a0 m0=>((M.n l0<=m0)/\(ai (ak TE 89 (Ga b6 0) (YR 5)) λO0=>(ai (ah TE a0 3 O0) λP0=>(ai (aA TE .quo 3 P0 (YR 64)) λa1=>(bs TE X (.func 127) [a1,YR 8] a0 λb1 n0 o0=>((M.n a0<=o0)/\(ai (aA TE .add 3 (YR 1) b1) λc1=>(ai (ak TE 89 (Ga b6 0) (YR 5)) λd1=>(ai (ah TE n0 3 d1) λe1=>(ai (aA TE .quo 3 e1 (YR 512)) λg1=>(bs TE X (.func 127) [g1,YR 8] n0 λh1 j1 k1=>(ai (aJ TE 60 [(0,N0),(1,c1),(2,h1),(3,w),(4,j0),(5,L0)]) λl1=>(aO (aD TE j1 60 (Ga rc 0) l1) λp0 o1=>(ai (ah TE p0 60 (Ga rc 0)) λp1=>(R [p1] p0 (min (min (min (min (min (min (min lo0 g0) E0) K0) m0) o0) k1) o1)))))))))))))))))))))))))))
(bs TE X (.func 127) [YR n,YR 100] H λr1 b0 q0=>((M.n H<=q0)/\(ai (ak TE 89 (Ga b6 0) (YR 5)) λu1=>(ai (ah TE b0 3 u1) λv1=>(ai (aA TE .quo 3 v1 (YR 64)) λw1=>(bs TE X (.func 127) [w1,YR 8] b0 λy1 r0 s0=>((M.n b0<=s0)/\(ai (aA TE .add 3 (YR 1) y1) λz1=>(ai (ak TE 89 (Ga b6 0) (YR 5)) λA1=>(ai (ah TE r0 3 A1) λB1=>(ai (aA TE .quo 3 B1 (YR 512)) λC1=>(bs TE X (.func 127) [C1,YR 8] r0 λD1 E1 F1=>(ai (aJ TE 60 [(0,r1),(1,z1),(2,D1),(3,w),(4,(YR 0)),(5,(YR 4))]) λG1=>(aO (aD TE E1 60 (Ga rc 0) G1) λu0 H1=>(ai (ah TE u0 60 (Ga rc 0)) λI1=>(R [I1] u0 (min (min (min (min (min lo0 g0) q0) s0) F1) H1)))))))))))))))))))))):=by
 have e5:ak TE 89 (Ga b6 0) (YR 5)=some (Ga b6 5):=Rt (i:=5) (by decide);have l5:ah TE mm 3 (Ga b6 5)=some (YR i5):=by rw[bF,aI hb];rfl
 have ow:one w:=hw.one;have J1:∀a b c d e:Int,aJ TE 60 [(0,YR a),(1,YR b),(2,YR c),(3,w),(4,YR d),(5,YR e)]=some (Un.v ⟨a,b,c,d0,d,e⟩ w):=λa b c d e=>by have:=pQ (x0:=YR a) (x1:=YR b) (x2:=YR c) (x3:=w) (x4:=YR d) (x5:=YR e) rfl rfl rfl (by rw[hw.cells];rfl) rfl rfl;rw[this,hw.cells];rfl
 have fin:∀(u:Un) (lo:Nat),u.shape=d0->min lo0 mm.n<=lo->aO (aD TE mm 60 (Ga rc 0) (u.v w)) λm' b=>ai (ah TE m' 60 (Ga rc 0)) λv=>R [v] m' (min lo b):=λu lo hu N1=>by refine aC dm hr rfl rfl (Un.cH ow) λm' K1 e0 L1=>?_;have e0:m'.get rc=.cells (u.c w) 60 none:=e0;rw[bU e0,ae];exact hR u m' _ hu K1.symm e0 L1 (by omega)
 rw[e5,ae,l5,ae];refine aG (dY hX h5 (by decide)) ?_;rw[aS,ae,aj];refine an (λ_=>?_) (λ_=>?_);·rw[ae,l5,ae,km (by decide),ae];refine aG (dY hX (mj _) (by decide)) ?_;rw[aP,ae,ae,l5,ae,km (by decide),ae];refine aG (dY hX (mj _) (by decide)) ?_;rw[aP,ae];refine aG (dY hX hn (by decide)) ⟨Ox _,?_⟩;rw[ae,l5,ae,km (by decide),ae];refine aG (dY hX (mj _) (by decide)) ⟨Ox _,?_⟩;rw[aP,ae,ae,l5,ae,km (by decide),ae];refine aG (dY hX (mj _) (by decide)) ?_;rw[J1,ae];exact fin _ _ rfl (by omega)
 refine aG (dY hX hn (by decide)) ⟨Ox _,?_⟩;rw[ae,l5,ae,km (by decide),ae];refine aG (dY hX (mj _) (by decide)) ⟨Ox _,?_⟩;rw[aP,ae,ae,l5,ae,km (by decide),ae];refine aG (dY hX (mj _) (by decide)) ?_;rw[J1,ae];exact fin _ _ rfl (by omega)
theorem wM{b:Nat}{L:List Pl}{i:Nat}{p:Pl}{g:Option Nat}{x:Int}{P:M->Nat->Prop}(h:m.get b=.cells (wT L) 141 g)(hi:L[i]?=some p)
  (H:∀m1,m1.n=m.n->m1.get b=.cells (wT (L.set i ⟨x,p.y⟩)) 141 g->(∀c,c≠b->m1.get c=m.get c)->P m1 b):aO (aD TE m 3 (Ga b (i*2+0)) (YR x)) P:=by have a0:=(OJ.1 hi).1;have hl:=sI L;refine bS rf h rfl (by rw[hl];show i*2+0+1<=_;omega) rfl λm1 h1 h2 h3=>H m1 h1 ?_ h3;rw[h2,PD,show i*2+(cells (Value.int .i64 x)).length=i*2+1 from rfl];have:=iO (cs:=wT L) (i:=i*2) (x:=Value.int .i64 x) (by grind);rw[show cells (Value.int .i64 x)=[Value.int .i64 x]from rfl,this,Dv x hi]
theorem Eu(hX:cd X){n i0 i1 i2 i3 i4 i5:Int}(hn:lM n)(h0:lM i0)(h1:lM i1)(h2:lM i2)(h3:lM i3)(h4:lM i4)(h5:lM i5):
  ∃(u:Un) (w:Φ) (m':M),C X (.func 67) [YR n,.agg #[YR i0,YR i1,YR i2,YR i3,YR i4,YR i5]] m m.n (u.v w) m'/\Ext m m'/\Sl m' u.shape w/\u.shape.length<=4:=by
 have key:∃r m' b,C X (.func 67) [YR n,.agg #[YR i0,YR i1,YR i2,YR i3,YR i4,YR i5]] m b r m'/\b=m.n/\∃(u:Un) (w:Φ),r=u.v w/\Ext m m'/\Sl m' u.shape w/\u.shape.length<=4:=by
  refine Cl.heap (R:=λr m' b=>b=m.n/\∃(u:Un) (w:Φ),r=u.v w/\Ext m m'/\Sl m' u.shape w/\u.shape.length<=4) (hX.no _ rfl) (Kg func67) rfl ?_;rw[F67];dsimp only[δ,ε,ζ,η,θ,ι,κ,ν,ρ,ς,υ,χ,ψ,Y3,Qy,Ω];refine aw λm1 p1 G0 H0=>?_;refine aw λm2 r1 I0 u0=>?_;have J0:Ext m m2:=⟨by omega,λc hc=>by rw[u0 c (by omega),H0 c hc]⟩
  have g1:m2.get m.n=.cells [YR i0,YR i1,YR i2,YR i3,YR i4,YR i5] 89 none:=by rw[u0 _ (by omega)];exact G0
  unfold ptrTo;have ld:∀{mm:M} {i:Nat} {x:Int},Ext m2 mm->[i0,i1,i2,i3,i4,i5][i]?=some x->ak TE 89 (Ga m.n 0) (YR i)=some (Ga m.n i)/\ah TE mm 3 (Ga m.n i)=some (YR x):=λ{mm i x} hx hi=>by
   have v0:=(OJ.1 hi).1;refine⟨by have:=Rt (b:=m.n) (o:=0) (k:=.i64) (i:=i) v0;rwa[Wl]at this,?_⟩;have hc:[Value.int .i64 i0,YR i1,YR i2,YR i3,YR i4,YR i5][i]?=some (YR x):=by
    have:([i0,i1,i2,i3,i4,i5].map (Value.int .i64))[i]?=some (YR x):=by rw[Z0,hi];rfl
    exact this
   rw[bF,aI (hx.cells g1),hc]
  have K0:ak TE 89 (Ga m.n 0) (YR 0)=some (Ga m.n 0):=(@ld m2 0 i0 .refl rfl).1;have L0:=(@ld m2 0 i0 .refl rfl).2;have N0:ak TE 89 (Ga m.n 0) (YR 1)=some (Ga m.n 1):=(@ld m2 1 i1 .refl rfl).1;have O0:=(@ld m2 1 i1 .refl rfl).2;have P0:ak TE 89 (Ga m.n 0) (YR 2)=some (Ga m.n 2):=(@ld m2 2 i2 .refl rfl).1;have a1:=(@ld m2 2 i2 .refl rfl).2;have b1:ak TE 89 (Ga m.n 0) (YR 3)=some (Ga m.n 3):=(@ld m2 3 i3 .refl rfl).1;have c1:=(@ld m2 3 i3 .refl rfl).2;rw[K0,ae,L0,ae];refine aG (dY hX h0 (by decide)) ?_;rw[fH,ae];rw[N0,ae,O0,ae];refine aG (dY hX h1 (by decide)) ?_;rw[fH,ae];rw[P0,ae,a1,ae];refine aG (dY hX h2 (by decide)) ?_;rw[aP,ae,fH,ae,aP,ae,kf,az];rw[b1,ae,c1,ae];refine aG (dY hX h3 (by decide)) ?_;rw[aP,ae,fH,ae,aP,ae];generalize IntKind.i64.wrap (4*dR i0 9)=x0;generalize IntKind.i64.wrap (4*dR i1 6)=y0;generalize min (IntKind.i64.wrap _) (40:Int)=x1;generalize IntKind.i64.wrap (y0+_)=y1;have bp:∀a b:Int,aJ TE 141 [(0,YR a),(1,YR b)]=some (Pl.v ⟨a,b⟩):=λa b=>mB rfl rfl;rw[bp,ae,bp,ae,bp,ae,bp,ae];obtain⟨L,hL⟩:∃L:List Pl,L=[⟨x0,y0⟩,⟨x1,y0⟩,⟨x1,y1⟩,⟨x0,y1⟩]:=⟨_,rfl⟩
  have d1:aF TE m2 58 4 [(0,Pl.v ⟨x0,y0⟩),(1,Pl.v ⟨x1,y0⟩),(2,Pl.v ⟨x1,y1⟩),(3,Pl.v ⟨x0,y1⟩)]=some (KI m2.n 0 4 4,m2.push (.cells (wT L) 141 none)):=by rw[hL];kernel_rfl
  rw[d1,az];have e0:Ext m2 (m2.push (.cells (wT L) 141 none)):=Ext.refl.push;generalize p0:m2.push (.cells (wT L) 141 none)=H at*;have b0:H.get m2.n=.cells (wT L) 141 none:=by rw[<-p0];exact M.aX
  have l1:H.n=m2.n+1:=by rw[<-p0];rfl
  have e1:ak TE 89 (Ga m.n 0) (YR 4)=some (Ga m.n 4):=(@ld H 4 i4 e0 rfl).1;have j1:=(@ld H 4 i4 e0 rfl).2;rw[e1,ae,j1,ae];refine aG (dY hX h4 (by decide)) ?_;have gz:H.get m1.n=.cells Un.zc 60 none:=by rw[e0.get _ (by omega),I0]
  have z0:m1.n≠m2.n:=by omega
  have fin:∀(mm:M) (lo0:Nat) (w:Φ) (d0:List Pl),(∀c,c≠m2.n->c<H.n->mm.get c=H.get c)->H.n<=mm.n->m.n<=lo0->Sl mm d0 w->d0.length<=4->(∃a n c,w=.slice (some a) n c)->mm.get m.n=.cells [YR i0,YR i1,YR i2,YR i3,YR i4,YR i5] 89 none/\mm.get m1.n=.cells Un.zc 60 none/\
    ∀(u:Un) (m':M) (lo:Nat),u.shape=d0->mm.n=m'.n->m'.get m1.n=.cells (u.c w) 60 none->(∀c,c≠m1.n->m'.get c=mm.get c)->min lo0 (min m1.n mm.n)<=lo->(bA (bh [u.v w])=false\/lo<m.n)/\min m.n lo=m.n/\∃(u':Un) (w':Φ),bh [u.v w]=u'.v w'/\Ext m m'/\Sl m' u'.shape w'/\u'.shape.length<=4:=by
   intro mm lo0 w d0 hk u1 v1 hs hl hw;refine⟨by rw[hk _ (by omega) (by omega),e0.get _ (by omega),g1],by rw[hk _ z0 (by omega),gz],λu m' lo hu w1 hg A0 o1=>⟨.inl ?_,by omega,u,w,rfl,⟨by omega,λc hc=>by rw[A0 c (by omega),hk c (by omega) (by omega),e0.get c (by omega),J0.get c hc]⟩,?_,by rw[hu];exact hl⟩⟩;·obtain⟨a,k,c,rfl⟩:=hw;show bA (u.v (.slice (some a) k c))=false;simp[bA,dC,bw]
   ·rw[hu];refine hs.aV λb cs t g hb ht=>?_;by_cases e:b=m1.n;·subst e;rw[hk _ z0 (by omega),gz]at hb;cases hb;exact absurd ht (by decide)
    rw[A0 b e,hb]
  have g0:∀{mm:M} {L':List Pl},mm.get m2.n=.cells (wT L') 141 none->L'.length=4->Sl mm L' (KI m2.n 0 4 4):=λ{mm L'} h hl=>by have:=MP (c:=4) h;rwa[hl]at this
  have o0:∀i,i<4->ak TE 58 (KI m2.n 0 4 4) (YR (i:Nat))=some (Ga m2.n (i*2)):=λi hi=>abF hi;have q0:ak TE 58 (KI m2.n 0 4 4) (YR 0)=some (Ga m2.n (0*2)):=o0 0 (by decide);have B0:ak TE 58 (KI m2.n 0 4 4) (YR 1)=some (Ga m2.n (1*2)):=o0 1 (by decide);have r0:ak TE 58 (KI m2.n 0 4 4) (YR 2)=some (Ga m2.n (2*2)):=o0 2 (by decide);have C0:ak TE 58 (KI m2.n 0 4 4) (YR 3)=some (Ga m2.n (3*2)):=o0 3 (by decide);have tail:∀(mm:M) (lo0:Nat) (w:Φ) (d0:List Pl),(∀c,c≠m2.n->c<H.n->mm.get c=H.get c)->H.n<=mm.n->m.n<=lo0->Sl mm d0 w->d0.length<=4->(∃a n c,w=.slice (some a) n c)->_:=λmm lo0 w d0 a b c d e f=>by have⟨f1,f2,f3⟩:=fin mm lo0 w d0 a b c d e f;exact acn hX (R:=λvs m' lo=>(bA (bh vs)=false\/lo<m.n)/\min m.n lo=m.n/\∃(u:Un) (w:Φ),bh vs=u.v w/\Ext m m'/\Sl m' u.shape w/\u.shape.length<=4) (lo0:=lo0) f1 f2 d hn h5 f3
  have j0:∀{mm:M} {L':List Pl} {i:Nat} {p:Pl},mm.get m2.n=.cells (wT L') 141 none->L'[i]?=some p->ah TE mm 141 (Ga m2.n (i*2))=some p.v:=λ{mm L' i p} h hi=>by have v0:=(OJ.1 hi).1;rw[ll,aQ h (by rw[sI];omega)];have:=An hi;unfold chunk at this;rw[this];rfl
  rw[aS,ae,aj];refine an (λ_=>?_) (λ_=>?_);·rw[dt,ae,r0,ae,bY,ae];refine wM (L:=L) (i:=2) (p:=⟨x1,y1⟩) b0 (by rw[hL];rfl) λk1 D0 k0 l0=>?_;rw[aP,ae,C0,ae,bY,ae];refine wM (i:=3) (p:=⟨x0,y1⟩) k0 (by rw[hL];rfl) λs0 E0 m0 n0=>?_;exact tail s0 _ _ _ (λc h _=>by rw[n0 c h,l0 c h]) (by omega) (by omega) (g0 m0 (by rw[hL];rfl)) (by rw[hL];exact Ox _) ⟨_,_,_,rfl⟩
  rw[aS,ae,aj];refine an (λ_=>?_) (λ_=>?_);·rw[aP,ae,q0,ae,bY,ae];refine wM (L:=L) (i:=0) (p:=⟨x0,y0⟩) b0 (by rw[hL];rfl) λk1 D0 k0 l0=>?_;rw[dt,ae,B0,ae,bY,ae];refine wM (i:=1) (p:=⟨x1,y0⟩) k0 (by rw[hL];rfl) λs0 E0 m0 n0=>?_;exact tail s0 _ _ _ (λc h _=>by rw[n0 c h,l0 c h]) (by omega) (by omega) (g0 m0 (by rw[hL];rfl)) (by rw[hL];exact Ox _) ⟨_,_,_,rfl⟩
  rw[aS,ae,aj];have Tm:∀(p q r:Pl) (lo0:Nat),m.n<=lo0->∀a0:M,H.push (.cells (wT [p,q,r]) 141 none)=a0->Sl a0 [p,q,r] (KI H.n 0 3 3)/\(∀c,c≠m2.n->c<H.n->a0.get c=H.get c)/\H.n<=a0.n:=λp q r lo0 h a0 hm=>by
   have hg:a0.get H.n=.cells (wT [p,q,r]) 141 none:=by rw[<-hm];exact M.aX
   refine⟨MP (l:=[p,q,r]) hg,λc _ hc=>by rw[<-hm];exact M.cy hc,by rw[<-hm];exact Pz _⟩
  have F0:∀p q r:Pl,aF TE H 58 3 [(0,p.v),(1,q.v),(2,r.v)]=some (KI H.n 0 3 3,H.push (.cells (wT [p,q,r]) 141 none)):=λp q r=>by kernel_rfl
  refine an (λ_=>?_) (λ_=>?_);·rw[q0,ae,j0 (i:=0) (p:=⟨x0,y0⟩) b0 (by rw[hL];rfl),ae,B0,ae,j0 (i:=1) (p:=⟨x1,y0⟩) b0 (by rw[hL];rfl),ae,r0,ae,j0 (i:=2) (p:=⟨x1,y1⟩) b0 (by rw[hL];rfl),ae,F0,az];generalize hm:H.push (.cells (wT [⟨x0,y0⟩,⟨x1,y0⟩,⟨x1,y1⟩]) 141 none)=a0;obtain⟨s1,s2,s3⟩:=Tm _ _ _ m.n (Ox _) a0 hm;exact tail a0 _ _ _ s2 s3 (by omega) s1 (by simp) ⟨_,_,_,rfl⟩
  rw[aS,ae,aj];refine an (λ_=>?_) (λ_=>?_);·rw[q0,ae,j0 (i:=0) (p:=⟨x0,y0⟩) b0 (by rw[hL];rfl),ae,r0,ae,j0 (i:=2) (p:=⟨x1,y1⟩) b0 (by rw[hL];rfl),ae,C0,ae,j0 (i:=3) (p:=⟨x0,y1⟩) b0 (by rw[hL];rfl),ae,F0,az];generalize hm:H.push (.cells (wT [⟨x0,y0⟩,⟨x1,y1⟩,⟨x0,y1⟩]) 141 none)=a0;obtain⟨s1,s2,s3⟩:=Tm _ _ _ m.n (Ox _) a0 hm;exact tail a0 _ _ _ s2 s3 (by omega) s1 (by simp) ⟨_,_,_,rfl⟩
  exact tail H _ _ _ (λc _ _=>rfl) (Ox _) (by omega) (g0 b0 (by rw[hL];rfl)) (by rw[hL];exact Ox _) ⟨_,_,_,rfl⟩
 obtain⟨r,m',b,hc,rfl,u,w,rfl,h1,h2,h3⟩:=key;exact⟨u,w,m',hc,h1,h2,h3⟩
end
end Go.Proofs.YtigpcbodmjjaiaaGreatDoor
