/- What functions of the program .. -/
import Derived.Test.YtigpcbodmjjaiaaGreatDoorG7J
set_option maxRecDepth 100000
namespace Go.Proofs.YtigpcbodmjjaiaaGreatDoor
open Go Go.D Go.Proofs.Tryz
section
section
variable {X:aK}{x0 x1 x2:Φ}{m:M}{R:Bt->M->Nat->Prop}{W:Words}
theorem aaj:dk TE (aL TE X) f177 [x0,x1,x2] m R=jn (λa=>η .geq 3 x0 x1 λb=>aR b (η .leq 3 x0 x2 λb=>a [b] m m.n) (a [Zf] m m.n)) (λa b c=>un a λa _=>R [a] b c):=by kernel_rfl
theorem aah:dk TE W f179 [x0] m R=JA W m x0 62 λa=>Wo W 62 (IJ m) 0 λb=>Fm W a 3 b λb=>LH W .eql 3 b (Nn 1) λc=>aR c (Wo W 62 (IJ m) 1 λb=>Wo W 60 b 0 λb=>Fm W a 3 b λb=>Wo W 62 (IJ m) 1 λc=>Wo W 60 c 1 λc=>Fm W a 3 c λc=>Wo W 62 (IJ m) 1 λd=>Wo W 60 d 2 λd=>Fm W a 3 d λd=>Wo W 62 (IJ m) 1 λf=>Wo W 60 f 4 λf=>Fm W a 3 f λf=>Wo W 62 (IJ m) 1 λg=>Wo W 60 g 5 λg=>Fm W a 3 g λg=>Oq W a 26 5 [(0,b),(1,c),(2,d),(3,f),(4,g)] λa b=>W.Lp (λa b c d=>W.un b λb f=>W.un f λf _=>Wo W 62 (IJ m) 1 λg=>Wo W 60 g 3 λg=>Fm W c 58 g λg=>Ke W c .len [58] [g] λg _=>LH W .lss 3 f g λg=>aR g (Wo W 62 (IJ m) 1 λg=>Wo W 60 g 3 λg=>Fm W c 58 g λg=>Zt W 58 g f λg=>Wo W 141 g 0 λg=>Fm W c 3 g λg=>Wo W 62 (IJ m) 1 λh=>Wo W 60 h 3 λh=>Fm W c 58 h λh=>Zt W 58 h f λh=>Wo W 141 h 1 λh=>Fm W c 3 h λh=>Oq W c 26 2 [(0,g),(1,h)] λc g=>Ke W (M.wl g g.n) .append [26,26] [b,c] λb c=>LH W .add 3 f (Nn 1) λf=>a [b,f] c (min d (M.low c))) (R [b] c d)) [a,Nn 0] b m.n) (W.jn (λc=>LH W .eql 3 b (Nn 2) λd=>aR d (c [d] a m.n) (LH W .eql 3 b (Nn 3) λd=>aR d (c [d] a m.n) (LH W .eql 3 b (Nn 6) λd=>aR d (c [d] a m.n) (LH W .eql 3 b (Nn 7) λb=>c [b] a m.n)))) (λa c d=>W.un a λa _=>aR a (Wo W 62 (IJ m) 2 λa=>Fm W c 3 a λa=>Oq W c 26 1 [(0,a)] λa b=>R [a] b d) (LH W .eql 3 b (Nn 4) λa=>aR a (Wo W 62 (IJ m) 2 λa=>Fm W c 3 a λa=>Wo W 62 (IJ m) 5 λb=>Fm W c 3 b λb=>Oq W c 26 2 [(0,a),(1,b)] λa b=>R [a] b d) (W.jn (λa=>LH W .eql 3 b (Nn 5) λf=>aR f (a [f] c d) (LH W .eql 3 b (Nn 8) λb=>a [b] c d)) (λa c d=>W.un a λa _=>aR a (Wo W 62 (IJ m) 2 λa=>Fm W c 3 a λa=>Wo W 62 (IJ m) 4 λb=>Fm W c 3 b λb=>Oq W c 26 2 [(0,a),(1,b)] λa b=>R [a] b d) (LH W .eql 3 b (Nn 9) λa=>aR a (Wo W 62 (IJ m) 2 λa=>Fm W c 3 a λa=>Wo W 62 (IJ m) 3 λb=>Fm W c 3 b λb=>Wo W 62 (IJ m) 5 λf=>Fm W c 3 f λf=>Oq W c 26 3 [(0,a),(1,b),(2,f)] λa b=>R [a] b d) (R [YM] c d))))))):=by kernel_rfl
theorem aai:dk TE (aL TE X) f178 [x0,x1] m R=ς m [χ 0,χ 0,χ 0,χ 0,YM,χ 0,χ 0,χ 0,χ 0,χ 0,χ 0] 62 λa=>θ 62 [(0,x0)] λb=>ς a [χ 0,χ 0,χ 0,χ 0,YM,χ 0,χ 0,χ 0,χ 0,χ 0,χ 0] 62 λc=>ι c 62 (υ a) b λb c=>η .eql 3 x0 (χ 1) λd=>aR d (jn (λa=>κ b .len [26] [x1] λd _=>η .lss 3 d (χ 11) λd=>aR d (a [Ku] b (min m.n c)) (κ b .len [26] [x1] λd _=>η .gtr 3 d (χ 21) λd=>aR d (a [Ku] b (min m.n c)) (κ b .len [26] [x1] λd _=>η .rem 3 d (χ 2) λd=>η .eql 3 d (χ 0) λd=>a [d] b (min m.n c)))) (λb c d=>un b λb _=>aR b (θ 62 [] λa=>ι c 62 (υ m) a λa b=>ai (ah TE a 62 (υ m)) λc=>R [c,Zf] a (min d b)) (ζ 26 x1 (χ 0) λb=>δ c 3 b λb=>ζ 26 x1 (χ 1) λf=>δ c 3 f λf=>ζ 26 x1 (χ 2) λg=>δ c 3 g λg=>ζ 26 x1 (χ 3) λh=>δ c 3 h λh=>ζ 26 x1 (χ 4) λi=>δ c 3 i λi=>θ 60 [(0,b),(1,f),(2,g),(4,h),(5,i)] λb=>ε 62 (υ a) 1 λf=>ι c 60 f b λb c=>Lp (λb c d f=>un c λc _=>κ d .len [26] [x1] λg _=>η .lss 3 c g λg=>aR g (ε 62 (υ a) 1 λg=>ε 60 g 3 λg=>δ d 58 g λg=>ζ 26 x1 c λh=>δ d 3 h λh=>η .add 3 c (χ 1) λi=>ζ 26 x1 i λi=>δ d 3 i λi=>θ 141 [(0,h),(1,i)] λh=>ν d 58 1 [(0,h)] λd h=>κ (M.wl h h.n) .append [58,58] [g,d] λd g=>ε 62 (υ a) 1 λa=>ε 60 a 3 λa=>ι g 58 a d λa d=>η .add 3 c (χ 2) λc=>b [c] a (ω f (M.low g) d)) (δ d 62 (υ a) λa=>ι d 62 (υ m) a λa b=>ai (ah TE a 62 (υ m)) λc=>R [c,Ku] a (min f b))) [χ 5] b (min d c)))) (jn (λa=>jn (λa=>η .eql 3 x0 (χ 4) λd=>aR d (a [Ku] b (min m.n c)) (η .eql 3 x0 (χ 5) λd=>aR d (a [Ku] b (min m.n c)) (η .eql 3 x0 (χ 8) λd=>a [d] b (min m.n c)))) (λb c d=>un b λb _=>aR b (a [χ 2] c d) (a [χ 1] c d))) (λb c d=>un b λb _=>jn (λa=>η .eql 3 x0 (χ 9) λf=>aR f (a [χ 3] c d) (a [b] c d)) (λb c d=>un b λb _=>κ c .len [26] [x1] λf _=>η .neq 3 f b λb=>aR b (θ 62 [] λa=>ι c 62 (υ m) a λa b=>ai (ah TE a 62 (υ m)) λc=>R [c,Zf] a (min d b)) (ζ 26 x1 (χ 0) λb=>δ c 3 b λb=>ε 62 (υ a) 2 λf=>ι c 3 f b λb c=>jn (λf=>η .eql 3 x0 (χ 4) λg=>aR g (ζ 26 x1 (χ 1) λg=>δ b 3 g λg=>ε 62 (υ a) 5 λa=>ι b 3 a g λa b=>f [] a (ω d c b)) (f [] b (min d c))) (λ_ b c=>jn (λd=>jn (λa=>η .eql 3 x0 (χ 5) λd=>aR d (a [Ku] b c) (η .eql 3 x0 (χ 8) λd=>a [d] b c)) (λb c f=>un b λb _=>aR b (ζ 26 x1 (χ 1) λb=>δ c 3 b λb=>ε 62 (υ a) 4 λa=>ι c 3 a b λa b=>d [] a (min f b)) (d [] c f))) (λ_ b c=>jn (λd=>η .eql 3 x0 (χ 9) λf=>aR f (ζ 26 x1 (χ 1) λf=>δ b 3 f λf=>ε 62 (υ a) 3 λg=>ι b 3 g f λb f=>ζ 26 x1 (χ 2) λg=>δ b 3 g λg=>ε 62 (υ a) 5 λa=>ι b 3 a g λa b=>d [] a (ω c f b)) (d [] b c)) (λ_ b c=>δ b 62 (υ a) λa=>ι b 62 (υ m) a λa b=>ai (ah TE a 62 (υ m)) λd=>R [d,Ku] a (min c b)))))))):=by kernel_rfl
theorem F39:dk TE (aL TE X) f39 [x0,x1] m R=ρ m x0 62 λa=>ρ a x1 62 λb=>jn (λc=>ε 62 (υ m) 0 λd=>δ b 3 d λd=>ε 62 (υ a) 0 λf=>δ b 3 f λf=>η .eql 3 d f λd=>aR d (ε 62 (υ m) 2 λd=>δ b 3 d λd=>ε 62 (υ a) 2 λf=>δ b 3 f λf=>η .eql 3 d f λd=>aR d (ε 62 (υ m) 3 λd=>δ b 3 d λd=>ε 62 (υ a) 3 λf=>δ b 3 f λf=>η .eql 3 d f λd=>aR d (ε 62 (υ m) 4 λd=>δ b 3 d λd=>ε 62 (υ a) 4 λf=>δ b 3 f λf=>η .eql 3 d f λd=>aR d (ε 62 (υ m) 5 λd=>δ b 3 d λd=>ε 62 (υ a) 5 λf=>δ b 3 f λf=>η .eql 3 d f λd=>aR d (ε 62 (υ m) 1 λd=>δ b 60 d λd=>ε 62 (υ a) 1 λa=>δ b 60 a λa=>ψ X 89 [d,a] b λa b d=>c [a] b (min m.n d)) (c [Zf] b m.n)) (c [Zf] b m.n)) (c [Zf] b m.n)) (c [Zf] b m.n)) (c [Zf] b m.n)) (λa b c=>un a λa _=>R [a] b c):=by kernel_rfl
theorem aaG:dk TE (aL TE X) f132 [x0] m R=ρ m x0 62 λa=>jn (λb=>ε 62 (υ m) 0 λc=>δ a 3 c λc=>ψ X 177 [c,χ 1,χ 9] a λa c d=>ο .not a λa=>aR a (b [Ku] c (min m.n d)) (ε 62 (υ m) 1 λa=>ε 60 a 3 λa=>δ c 58 a λa=>κ c .len [58] [a] λa _=>η .gtr 3 a (χ 8) λa=>b [a] c (min m.n d))) (λa b c=>un a λa _=>aR a (R [Zf] b c) (ε 62 (υ m) 0 λa=>δ b 3 a λa=>δ b 62 (υ m) λd=>ψ X 179 [d] b λd f g=>(b.n<=g)/\(ψ X 178 [a,d] f λa b d=>(f.n<=d)/\(ξ a 0 λf=>ξ a 1 λa=>ς b [χ 0,χ 0,χ 0,χ 0,YM,χ 0,χ 0,χ 0,χ 0,χ 0,χ 0] 62 λh=>ι h 62 (υ b) f λf h=>jn (λi=>ο .not a λa=>aR a (i [Ku] f (Γ c g d h)) (δ f 62 (υ b) λa=>δ f 62 (υ m) λb=>ψ X 39 [a,b] f λa b f=>ο .not a λa=>i [a] b (Δ c g d h f))) (λa b c=>un a λa _=>aR a (R [Zf] b c) (ε 62 (υ m) 0 λa=>δ b 3 a λa=>η .eql 3 a (χ 1) λa=>aR a (jn (λa=>ε 62 (υ m) 1 λd=>δ b 60 d λd=>ψ X 172 [d] b λb d f=>aR b (ε 62 (υ m) 1 λb=>ε 60 b 1 λb=>δ d 3 b λb=>ψ X 177 [b,χ 6,χ 8] d λb d g=>a [b] d (ω c f g)) (a [Zf] d (min c f))) (λa b c=>un a λa _=>R [a] b c)) (jn (λa=>ε 62 (υ m) 2 λd=>δ b 3 d λd=>ψ X 177 [d,χ 0,χ 99] b λb d f=>aR b (ε 62 (υ m) 3 λb=>δ d 3 b λb=>ψ X 177 [b,χ 0,χ 99] d λb d g=>aR b (ε 62 (υ m) 4 λb=>δ d 3 b λb=>ψ X 177 [b,χ (-2),χ 7] d λb d h=>aR b (ε 62 (υ m) 5 λb=>δ d 3 b λb=>ψ X 177 [b,χ 0,χ 7] d λb d i=>aR b (ε 62 (υ m) 0 λb=>δ d 3 b λb=>η .neq 3 b (χ 9) λb=>aR b (a [Ku] d (Δ c f g h i)) (ε 62 (υ m) 2 λb=>δ d 3 b λb=>ε 62 (υ m) 3 λj=>δ d 3 j λj=>η .lss 3 b j λb=>a [b] d (Δ c f g h i))) (a [Zf] d (Δ c f g h i))) (a [Zf] d (Γ c f g h))) (a [Zf] d (ω c f g))) (a [Zf] d (min c f))) (λa b c=>un a λa _=>R [a] b c)))))))):=by kernel_rfl
theorem F71:dk TE (aL TE X) f71 [x0,x1] m R=ρ m x0 33 λa=>ς a [χ 0,χ 0,χ 0,YM,χ 0,χ 0] 60 λb=>Lp (λb c d f=>un c λc g=>un g λg _=>ε 33 (υ m) 0 λh=>ε 30 h 0 λh=>δ d 28 h λh=>κ d .len [28] [h] λh _=>η .lss 3 g h λh=>aR h (ε 33 (υ m) 0 λh=>ε 30 h 0 λh=>δ d 28 h λh=>ζ 28 h g λh=>ε 60 h 0 λh=>δ d 3 h λh=>η .eql 3 h x1 λh=>aR h (ε 33 (υ m) 0 λb=>ε 30 b 0 λb=>δ d 28 b λb=>ζ 28 b g λb=>δ d 60 b λb=>ι d 60 (υ a) b λb c=>ai (ah TE b 60 (υ a)) λa=>R [a,Ku] b (min f c)) (η .add 3 g (χ 1) λa=>b [c,a] d f)) (θ 60 [] λb=>ι d 60 (υ a) b λb c=>ai (ah TE b 60 (υ a)) λa=>R [a,Zf] b (min f c))) [Zf,χ 0] b m.n:=by kernel_rfl
theorem aag:dk TE (aL TE X) f180 [x0,x1] m R=ρ m x0 38 λa=>Lp (λa b c d=>un b λb f=>un f λf _=>ε 38 (υ m) 1 λg=>δ c 34 g λg=>κ c .len [34] [g] λg _=>η .lss 3 f g λg=>aR g (ε 38 (υ m) 1 λg=>δ c 34 g λg=>ζ 34 g f λg=>ε 113 g 0 λg=>ε 60 g 0 λg=>δ c 3 g λg=>η .eql 3 g x1 λg=>aR g (R [f] c d) (η .add 3 f (χ 1) λf=>a [b,f] c d)) (R [χ (-1)] c d)) [χ 0,χ 0] a m.n:=by kernel_rfl
theorem F73:dk TE (aL TE X) f73 [x0,x1] m R=ρ m x0 53 λa=>ρ a x1 53 λb=>jn (λc=>ε 53 (υ m) 0 λd=>δ b 3 d λd=>ε 53 (υ a) 0 λf=>δ b 3 f λf=>η .lss 3 d f λd=>aR d (c [Ku] b m.n) (ε 53 (υ m) 0 λd=>δ b 3 d λd=>ε 53 (υ a) 0 λf=>δ b 3 f λf=>η .eql 3 d f λd=>aR d (ε 53 (υ m) 1 λd=>δ b 3 d λd=>ε 53 (υ a) 1 λa=>δ b 3 a λa=>η .lss 3 d a λa=>c [a] b m.n) (c [Zf] b m.n))) (λa b c=>un a λa _=>R [a] b c):=by kernel_rfl
theorem aaH:dk TE (aL TE X) f131 [x0] m R=ρ m x0 38 λa=>jn (λb=>ε 38 (υ m) 0 λc=>δ a 33 c λc=>ψ X 176 [c] a λa c d=>ο .not a λa=>aR a (b [Ku] c (min m.n d)) (ε 38 (υ m) 1 λa=>δ c 34 a λa=>κ c .len [34] [a] λa _=>η .gtr 3 a (χ 12) λa=>aR a (b [Ku] c (min m.n d)) (ε 38 (υ m) 2 λa=>δ c 35 a λa=>κ c .len [35] [a] λa _=>η .gtr 3 a (χ 60) λa=>aR a (b [Ku] c (min m.n d)) (ε 38 (υ m) 3 λa=>δ c 36 a λa=>κ c .len [36] [a] λa _=>η .gtr 3 a (χ 20) λa=>b [a] c (min m.n d))))) (λa b c=>un a λa _=>aR a (R [Zf] b c) (ν b 31 0 [] λa b=>ε 38 (υ m) 0 λd=>ε 33 d 1 λd=>δ b 31 d λd=>κ (M.wl b b.n) .append [31,31] [a,d] λa b=>Lp (λa b c d=>un b λb f=>un f λf g=>un g λg _=>ε 38 (υ m) 1 λh=>δ c 34 h λh=>κ c .len [34] [h] λh _=>η .lss 3 g h λh=>aR h (ε 38 (υ m) 1 λh=>δ c 34 h λh=>ζ 34 h g λh=>δ c 113 h λh=>ς c [χ 0,χ 0,χ 0,YM,χ 0,χ 0,YM] 113 λi=>ι i 113 (υ c) h λh i=>ε 38 (υ m) 0 λj=>δ h 33 j λj=>ε 113 (υ c) 0 λk=>ε 60 k 0 λk=>δ h 3 k λk=>ψ X 71 [j,k] h λh j k=>ξ h 0 λl=>ξ h 1 λh=>ς j [χ 0,χ 0,χ 0,YM,χ 0,χ 0] 60 λn=>ι n 60 (υ j) l λj l=>jn (λa=>aR h (a [Ku] j (Γ d i k l)) (η .gtr 3 g (χ 0) λb=>aR b (ε 113 (υ c) 0 λb=>ε 60 b 0 λb=>δ j 3 b λb=>ε 38 (υ m) 1 λf=>δ j 34 f λf=>η .sub 3 g (χ 1) λg=>ζ 34 f g λf=>ε 113 f 0 λf=>ε 60 f 0 λf=>δ j 3 f λf=>η .leq 3 b f λb=>aR b (a [Ku] j (Γ d i k l)) (ε 113 (υ c) 0 λb=>δ j 60 b λb=>ν j 28 1 [(0,b)] λb f=>θ 30 [(0,b)] λb=>ε 113 (υ c) 1 λc=>δ f 31 c λc=>θ 33 [(0,b),(1,c)] λb=>ψ X 176 [b] f λb c f=>ο .not b λb=>a [b] c (Δ d i k l f))) (ε 113 (υ c) 0 λb=>δ j 60 b λb=>ν j 28 1 [(0,b)] λb f=>θ 30 [(0,b)] λb=>ε 113 (υ c) 1 λc=>δ f 31 c λc=>θ 33 [(0,b),(1,c)] λb=>ψ X 176 [b] f λb c f=>ο .not b λb=>a [b] c (Δ d i k l f)))) (λd h i=>un d λd _=>aR d (R [Zf] h i) (ε 113 (υ c) 1 λc=>δ h 31 c λc=>κ (M.wl h h.n) .append [31,31] [f,c] λc d=>η .add 3 g (χ 1) λf=>a [b,c,f] d (min i (M.low d))))) (Lp (λa b c d=>un b λb g=>un g λg _=>κ c .len [31] [f] λh _=>η .lss 3 g h λh=>aR h (Lp (λb c d h=>un c λc i=>un i λi _=>η .lss 3 i g λj=>aR j (ζ 31 f g λa=>ε 137 a 0 λa=>δ d 3 a λa=>ζ 31 f i λf=>ε 137 f 0 λf=>δ d 3 f λf=>η .eql 3 a f λa=>aR a (R [Zf] d h) (η .add 3 i (χ 1) λa=>b [c,a] d h)) (η .add 3 g (χ 1) λb=>a [c,b] d h)) [b,χ 0] c d) (κ c .len [31] [f] λa _=>η .gtr 3 a (χ 20) λa=>aR a (R [Zf] c d) (Lp (λa b c d=>un b λb f=>un f λf _=>ε 38 (υ m) 2 λg=>δ c 35 g λg=>κ c .len [35] [g] λg _=>η .lss 3 f g λg=>aR g (ε 38 (υ m) 2 λg=>δ c 35 g λg=>ζ 35 g f λg=>δ c 53 g λg=>ς c [χ 0,χ 0] 53 λh=>ι h 53 (υ c) g λg h=>jn (λa=>ε 53 (υ c) 0 λb=>δ g 3 b λb=>ψ X 177 [b,χ 0,χ 99] g λb g i=>ο .not b λb=>aR b (a [Ku] g (ω d h i)) (ε 53 (υ c) 1 λb=>δ g 3 b λb=>ψ X 177 [b,χ (-2),χ 7] g λb g j=>ο .not b λb=>aR b (a [Ku] g (Γ d h i j)) (η .gtr 3 f (χ 0) λb=>aR b (ε 38 (υ m) 2 λb=>δ g 35 b λb=>η .sub 3 f (χ 1) λf=>ζ 35 b f λb=>δ g 53 b λb=>δ g 53 (υ c) λc=>ψ X 73 [b,c] g λb c f=>ο .not b λb=>a [b] c (Δ d h i j f)) (a [Zf] g (Γ d h i j))))) (λc d g=>un c λc _=>aR c (R [Zf] d g) (η .add 3 f (χ 1) λc=>a [b,c] d g))) (Lp (λa b c d=>un b λb f=>un f λf _=>ε 38 (υ m) 3 λg=>δ c 36 g λg=>κ c .len [36] [g] λg _=>η .lss 3 f g λg=>aR g (ε 38 (υ m) 3 λg=>δ c 36 g λg=>ζ 36 g f λg=>δ c 109 g λg=>ς c [χ 0,χ 0,χ 0] 109 λh=>ι h 109 (υ c) g λg h=>jn (λa=>ε 109 (υ c) 0 λb=>δ g 3 b λb=>ψ X 177 [b,χ 0,χ 99] g λb f g=>ο .not b λb=>aR b (a [Ku] f (ω d h g)) (ε 109 (υ c) 1 λb=>δ f 3 b λb=>ψ X 177 [b,χ 0,χ 99] f λb f i=>ο .not b λb=>aR b (a [Ku] f (Γ d h g i)) (ε 109 (υ c) 0 λb=>δ f 3 b λb=>ε 109 (υ c) 1 λj=>δ f 3 j λj=>η .geq 3 b j λb=>aR b (a [Ku] f (Γ d h g i)) (ε 109 (υ c) 2 λb=>δ f 3 b λb=>ψ X 177 [b,χ 0,χ 7] f λb c f=>ο .not b λb=>a [b] c (Δ d h g i f))))) (λd g h=>un d λd _=>aR d (R [Zf] g h) (jn (λa=>η .gtr 3 f (χ 0) λb=>aR b (ε 109 (υ c) 0 λb=>δ g 3 b λb=>ε 38 (υ m) 3 λd=>δ g 36 d λd=>η .sub 3 f (χ 1) λi=>ζ 36 d i λd=>ε 109 d 0 λd=>δ g 3 d λd=>η .lss 3 b d λb=>aR b (a [Ku] g h) (ε 109 (υ c) 0 λb=>δ g 3 b λb=>ε 38 (υ m) 3 λd=>δ g 36 d λd=>η .sub 3 f (χ 1) λi=>ζ 36 d i λd=>ε 109 d 0 λd=>δ g 3 d λd=>η .eql 3 b d λb=>aR b (ε 109 (υ c) 1 λb=>δ g 3 b λb=>ε 38 (υ m) 3 λc=>δ g 36 c λc=>η .sub 3 f (χ 1) λd=>ζ 36 c d λc=>ε 109 c 1 λc=>δ g 3 c λc=>η .leq 3 b c λb=>a [b] g h) (a [Zf] g h))) (a [Zf] g h)) (λc d g=>un c λc _=>aR c (R [Zf] d g) (η .add 3 f (χ 1) λc=>a [b,c] d g))))) (R [Ku] c d)) [b,χ 0] c d)) [b,χ 0] c d))) [b,χ 0] c d)) [Zf,a,χ 0] b (min c (M.low b)))):=by kernel_rfl
theorem adp:dk TE (aL TE X) f225 [x0] m R=ς m [χ 0,χ 0,χ 0,χ 0,χ 0] 298 λa=>θ 298 [(0,(χ 9)),(1,(χ 3)),(2,(χ 9)),(3,(χ 1))] λb=>θ 298 [(0,(χ 8)),(1,(χ 3)),(2,(χ 6)),(3,(χ 4)),(4,(χ 1))] λc=>θ 298 [(0,(χ 7)),(1,(χ 3)),(2,(χ 5)),(3,(χ 5)),(4,(χ 1))] λd=>θ 298 [(0,(χ 6)),(1,(χ 3)),(2,(χ 4)),(3,(χ 6)),(4,(χ 3))] λf=>θ 298 [(0,(χ 3)),(1,(χ 2)),(2,(χ 5)),(3,(χ 3))] λg=>θ 298 [(0,(χ 5)),(1,(χ 2)),(2,(χ 2)),(3,(χ 7)),(4,(χ 1))] λh=>θ 298 [(0,(χ 8)),(1,(χ 3)),(2,(χ 8)),(3,(χ 1)),(4,(χ 4))] λi=>θ 298 [(0,(χ 10)),(1,(χ 1)),(2,(χ 9))] λj=>ν a 344 8 [(0,b),(1,c),(2,d),(3,f),(4,g),(5,h),(6,i),(7,j)] λa b=>jn (λa=>η .lss 3 x0 (χ 0) λc=>aR c (a [Ku] b m.n) (η .gtr 3 x0 (χ 7) λc=>a [c] b m.n)) (λb c d=>un b λb _=>aR b (θ 298 [] λa=>ι c 298 (υ m) a λa b=>ai (ah TE a 298 (υ m)) λc=>R [c,χ 80] a (min d b)) (ζ 344 a x0 λa=>δ c 298 a λa=>ι c 298 (υ m) a λa b=>ai (ah TE a 298 (υ m)) λc=>R [c,χ 0] a (min d b))):=by kernel_rfl
theorem aaf:dk TE (aL TE X) f181 [x0,x1] m R=ψ X 225 [x0] m λa b c=>ξ a 0 λd=>ξ a 1 λa=>ς b [χ 0,χ 0,χ 0,χ 0,χ 0] 298 λf=>ι f 298 (υ b) d λd f=>ψ X 225 [x1] d λd g h=>ξ d 0 λi=>ξ d 1 λd=>ς g [χ 0,χ 0,χ 0,χ 0,χ 0] 298 λj=>ι j 298 (υ g) i λi j=>jn (λk=>η .eql 46 a (χ 0) λa=>aR a (η .eql 46 d (χ 0) λa=>aR a (ε 298 (υ b) 2 λa=>δ i 3 a λa=>ε 298 (υ g) 2 λd=>δ i 3 d λd=>η .add 3 d (χ 1) λd=>η .leq 3 a d λa=>aR a (ε 298 (υ b) 3 λa=>δ i 3 a λa=>η .add 3 a (χ 1) λa=>ε 298 (υ g) 3 λd=>δ i 3 d λd=>η .geq 3 a d λa=>aR a (ε 298 (υ b) 4 λa=>δ i 3 a λa=>ε 298 (υ g) 4 λb=>δ i 3 b λb=>η .add 3 b (χ 1) λb=>η .leq 3 a b λa=>k [a] i (Δ m.n c f h j)) (k [Zf] i (Δ m.n c f h j))) (k [Zf] i (Δ m.n c f h j))) (k [Zf] i (Δ m.n c f h j))) (k [Zf] i (Δ m.n c f h j))) (λa b c=>un a λa _=>R [a] b c):=by kernel_rfl
theorem aad:dk TE (aL TE X) f183 [x0,x1] m R=ψ X 225 [x0] m λa b c=>ξ a 0 λd=>ξ a 1 λa=>ς b [χ 0,χ 0,χ 0,χ 0,χ 0] 298 λf=>ι f 298 (υ b) d λd f=>ψ X 225 [x1] d λd g h=>ξ d 0 λi=>ξ d 1 λd=>ς g [χ 0,χ 0,χ 0,χ 0,χ 0] 298 λj=>ι j 298 (υ g) i λi j=>jn (λk=>η .eql 46 a (χ 0) λa=>aR a (η .eql 46 d (χ 0) λa=>aR a (ε 298 (υ b) 2 λa=>δ i 3 a λa=>ε 298 (υ g) 2 λd=>δ i 3 d λd=>η .leq 3 a d λa=>aR a (ε 298 (υ b) 3 λa=>δ i 3 a λa=>ε 298 (υ g) 3 λd=>δ i 3 d λd=>η .geq 3 a d λa=>aR a (ε 298 (υ b) 4 λa=>δ i 3 a λa=>ε 298 (υ g) 4 λb=>δ i 3 b λb=>η .add 3 b (χ 1) λb=>η .leq 3 a b λa=>k [a] i (Δ m.n c f h j)) (k [Zf] i (Δ m.n c f h j))) (k [Zf] i (Δ m.n c f h j))) (k [Zf] i (Δ m.n c f h j))) (k [Zf] i (Δ m.n c f h j))) (λa b c=>un a λa _=>R [a] b c):=by kernel_rfl
theorem aae:dk TE (aL TE X) f182 [x0,x1,x2] m R=ρ m x0 33 λa=>δ a 33 (υ m) λb=>ψ X 71 [b,x1] a λa b c=>ξ a 0 λd=>ξ a 1 λa=>ς b [χ 0,χ 0,χ 0,YM,χ 0,χ 0] 60 λf=>ι f 60 (υ b) d λd f=>jn (λg=>aR a (η .eql 3 x2 (χ (-1)) λa=>aR a (g [Ku] d (ω m.n c f)) (η .eql 3 x2 (χ (-2)) λa=>aR a (g [Ku] d (ω m.n c f)) (η .geq 3 x2 (χ 0) λa=>aR a (ε 60 (υ b) 3 λa=>δ d 58 a λa=>κ d .len [58] [a] λa _=>η .lss 3 x2 a λa=>g [a] d (ω m.n c f)) (g [Zf] d (ω m.n c f))))) (g [Zf] d (ω m.n c f))) (λa b c=>un a λa _=>R [a] b c):=by kernel_rfl
theorem F72:dk TE (aL TE X) f72 [x0,x1] m R=ρ m x0 38 λa=>ρ a x1 53 λb=>Lp (λb c d f=>un c λc g=>un g λg _=>ε 38 (υ m) 2 λh=>δ d 35 h λh=>κ d .len [35] [h] λh _=>η .lss 3 g h λh=>aR h (ε 38 (υ m) 2 λh=>δ d 35 h λh=>ζ 35 h g λh=>δ d 53 h λh=>δ d 53 (υ a) λa=>η .eql 53 h a λa=>aR a (R [Ku] d f) (η .add 3 g (χ 1) λa=>b [c,a] d f)) (R [Zf] d f)) [Zf,χ 0] b m.n:=by kernel_rfl
end
end
section
variable {X:aK} {m:M}
section
variable {α:Type} [aW α] {T:TypeId}
def Ap(n1:Nat)(m:M)(l:List α)(v:Φ):Prop:=Ow n1 m l v\/∃b cs H,v=.slice (some ⟨b,0,none⟩) l.length l.length/\m.get b=.cells cs H none/\Sl m l v
theorem Ap.sl{n1:Nat}{l:List α}{v:Φ}(h:Ap n1 m l v):Sl m l v:=by
 rcases h with h|⟨_,_,_,_,_,h⟩;·exact h.sl
 exact h
theorem Ap.aE{n1:Nat}{l:List α}{v:Φ}{m':M}(h:Ap n1 m l v)(H:Ext m m'):Ap n1 m' l v:=by
 rcases h with h|⟨b,cs,te,h1,h2,h3⟩;·exact .inl (h.aE H)
 exact .inr ⟨b,cs,te,h1,H.cells h2,h3.aE H⟩
theorem Ap.append(hT:qH TE T α)(a0:aW.cT α=[]){n1:Nat}{l ys:List α}{v y:Φ}(h:Ap n1 m l v)(hy:Sl m ys y)(H:ys≠ [])(hn:n1<=m.n)(hs:l.length+ys.length<=1000000):
  ∃v' m1,av TE (m.wl m.n) .append [T,T] [v,y]=some (v',m1)/\Ow n1 m1 (l++ys) v'/\m.n<=m1.n/\n1<=m1.low/\∀c,c<n1->m1.get c=m.get c:=by
 have hlen:=Fu.2 H;rcases h with h|⟨b,cs,te,rfl,h2,h3⟩;·obtain⟨v',m1,e1,ho,hf,hl,_⟩:=h.append hT (by grind) hy hn (by omega);exact⟨v',m1,e1,ho,hf.n,hl,λc hc=>hf.get c hc⟩
 obtain⟨v',m1,e1,ho,hx,hl⟩:=vU hT h2 (.inl rfl) h3 hy (by omega) (by omega);exact⟨v',m1,e1,ho.mono hn,hx.n,by omega,λc hc=>hx.get c (by omega)⟩
end
theorem nw{l:List Int}{b:Nat}{g:Option Nat}(h:m.get b=.cells (l.map (.int .i64)) 3 g):Sl m l (KI b 0 l.length l.length):=
 .inr ⟨b,0,l.length,_,g,rfl,h,by rw[Gv];show 0+l.length*1<=_;omega,λi x hi=>by
  show((l.map (Value.int .i64)).drop (0+i*1)).take 1=[YR x]
  have H:=(OJ.1 hi).1;rw[Wl,Nat.mul_one,JK (by grind),Wa,zI,List.getElem_map,(OJ.1 hi).2]⟩
theorem MQ{α:Type}[aW α]{l:List α}{a:Addr}{n k:Nat}{m':M}{lo:Nat}{P:Prop}(h:Sl m' l (.slice (some a) n k))(H:m.n<=lo)(hx:Ext m m'):
  P\/((bA (bh [Value.slice (some a) n k])=false\/lo<m.n)/\(min m.n lo=m.n/\Ext m m'/\Sl m' l (.slice (some a) n k))):=.inr ⟨.inl rfl,by omega,hx,h⟩
theorem iF(hX:cd X)(n lo hi:Int):C X (.func 177) [YR n,YR lo,YR hi] m m.n (.bool (cR n lo hi)) m:=by
 refine Cl.fG hX (Kg func177) ?_;rw[aaj];dsimp only[η];refine aZ (λvs m2 H=>vs=[.bool (cR n lo hi)]/\m.n<=H) (λR hR=>?_) ?_;·simp only[cz,cI,ae,aj];refine an (λh=>hR _ _ _ ⟨by simp[cR,h],Ox _⟩) (λh=>hR _ _ _ ⟨by simp[cR,h],Ox _⟩)
 rintro _ m2 H ⟨rfl,hl⟩;rw[aB];exact⟨rfl,hl⟩
theorem abq{a:Int}:aF TE m 26 1 [(0,.int .i64 a)]=some (.slice (some ⟨m.n,0,none⟩) 1 1,m.push (.cells ([a].map (.int .i64)) 3 none)):=by kernel_rfl
theorem mX{a b:Int}:aF TE m 26 2 [(0,.int .i64 a),(1,.int .i64 b)]=some (.slice (some ⟨m.n,0,none⟩) 2 2,m.push (.cells ([a,b].map (.int .i64)) 3 none)):=by kernel_rfl
theorem DU{a b c:Int}:aF TE m 26 3 [(0,.int .i64 a),(1,.int .i64 b),(2,.int .i64 c)]=some (.slice (some ⟨m.n,0,none⟩) 3 3,m.push (.cells ([a,b,c].map (.int .i64)) 3 none)):=by kernel_rfl
theorem NS{a b c d e:Int}:aF TE m 26 5 [(0,.int .i64 a),(1,.int .i64 b),(2,.int .i64 c),(3,.int .i64 d),(4,.int .i64 e)]=some (.slice (some ⟨m.n,0,none⟩) 5 5,m.push (.cells ([a,b,c,d,e].map (.int .i64)) 3 none)):=by kernel_rfl
theorem BL(hX:cd X){t:Tk}{w:Φ}(hw:Sl m t.un.shape w)(hl:t.un.shape.length<100000):
  ∃r m',C X (.func 179) [t.v w] m m.n r m'/\Ext m m'/\Sl m' (fS t) r:=by
 refine Cl.EL hX (Kg func179) ?_;rw[aah];dsimp only[aL,Fm,Wo,Zt,LH,Ke,Oq,JA,IJ,Nn];refine aw λm1 G0 A0 B0=>?_;have g1:m1.get m.n=.cells (t.c w) 62 none:=A0;have i0:Ext m m1:=⟨by omega,B0⟩
 have⟨tk,tid,Jf,q0,r0⟩:=nq g1;obtain⟨u0,u1,u2, -,u4,u5⟩:=rX g1;unfold ptrTo;simp only[cn,di,bZ,cE,cD,dh,bz,cM,cL,bD,cK,cJ,ae];simp only[tk,u0,u1,u2,u4,u5,ae,aS,aj];refine an (λc=>?_) (λc=>?_)
 ·have k1:t.kind=1:=NT c;rw[NS,az];have e0:fS t=[t.un.id,t.un.kind,t.un.du,t.un.back,t.un.front]++t.un.shape.flatMap λp=> [p.x,p.y]:=by unfold fS;rw[Tf k1]
  obtain⟨m2,a0⟩:∃x,x=m1.push (.cells ([t.un.id,t.un.kind,t.un.du,t.un.back,t.un.front].map (.int .i64)) 3 none):=⟨_,rfl⟩
  rw[<-a0];have H0:m2.n=m1.n+1:=by rw[a0];exact M.iQ
  have j0:m2.get m1.n=.cells ([t.un.id,t.un.kind,t.un.du,t.un.back,t.un.front].map (.int .i64)) 3 none:=by rw[a0];exact M.aX
  have C0:Ext m1 m2:=a0 ▸ Ext.refl.push;have I0:Ap m1.n m2 [t.un.id,t.un.kind,t.un.du,t.un.back,t.un.front] (KI m1.n 0 5 5):=.inr ⟨m1.n,_,_,rfl,j0,nw j0⟩;clear a0 j0;refine Lp.intro (γ:=Nat) (λi=>t.un.shape.length-i) (λi vs H lo=>∃r,vs=[r,YR i]/\i<=t.un.shape.length/\Ext m1 H/\m.n<=lo/\Ap m1.n H ([t.un.id,t.un.kind,t.un.du,t.un.back,t.un.front]++(t.un.shape.take i).flatMap λp=> [p.x,p.y]) r) 0 ⟨_,rfl,ZE _,C0,by omega,by grind⟩ ?_;rintro i vs H lo ⟨r,rfl,hi,d0,k0,ho⟩;have nm:=d0.n;have s0:=(hw.aE i0).aE d0;obtain⟨-, -, -,v3, -, -⟩:=rX (d0.cells g1);rw[aB,aB,v3,ae,s0.len cA,az,aM,ae,aj];refine an (λv0=>?_) (λD0=>?_)
  ·have v0:i<t.un.shape.length:=by grind
   obtain⟨p,hp⟩:∃p,t.un.shape[i]?=some p:=⟨_,Fx v0⟩
   have⟨b0,o0,bc,g0,cs,e1,y0,l0,_,z0⟩:=s0.fa cA (k:=.i64) hp;have l0:cs=p.c:=l0;subst l0;have fl:=td (t.un.shape.take i);rw[Gy]at fl;have lx:ah TE H 3 (Ga b0 (o0+0))=some (YR p.x):=by rw[bF,aI y0,z0 0 (by decide)];rfl
   have ly:ah TE H 3 (Ga b0 (o0+1))=some (YR p.y):=by rw[bF,aI y0,z0 1 (by decide)];rfl
   rw[ae,e1,ae,bY,ae,lx,ae,ae,e1,ae,cN,ae,ly,ae,mX,az];obtain⟨m3,n0⟩:∃x,x=H.push (.cells ([p.x,p.y].map (.int .i64)) 3 none):=⟨_,rfl⟩
   rw[<-n0];have p0:Ext H m3:=n0 ▸ Ext.refl.push;have E0:m3.get H.n=.cells ([p.x,p.y].map (.int .i64)) 3 none:=by rw[n0];exact M.aX
   have n3:=p0.n;obtain⟨r',m5,q1,q2,q3,q4,q5⟩:=(ho.aE p0).append aei rfl (nw E0) (by simp) (by omega) (by grind);have q1:av TE (M.wl m3 (M.n m3)) .append [26,26] [r,KI H.n 0 2 2]=some (r',m5):=q1;rw[q1,az,aP,ae,wrap64];refine⟨i+1,by omega,r',rfl,by omega,⟨by omega,λc hc=>by rw[q5 c hc,p0.get c (by omega),d0.get c hc]⟩,by omega,.inl ?_⟩;rw[Q1,hp,rJ,<-WO];exact q2
  ·have F0:i=t.un.shape.length:=by
    have:¬(i:Int)< (t.un.shape.length:Int):=Ja D0;omega
   subst F0;rw[V9]at ho;have hs:=ho.sl;rw[<-e0]at hs;obtain⟨a,k,rfl⟩:=hs.form;cases a with
   |none=>
    rcases hs with⟨h,_⟩|⟨b,o,c,bc,g,h,_⟩;·rw[e0]at h;simp at h
    cases h
   |some a=>exact MQ hs k0 (i0.trans d0)
 have k1:t.kind≠1:=Ja c
 have fin:∀{l:List Int} {k:Nat},fS t=l->l.length=k->∀{m2:M},m2=m1.push (.cells (l.map (.int .i64)) 3 none)->∀{lo:Nat},m.n<=lo->∀{Q:Prop},Q->
   (bA (bh [Value.slice (some ⟨m1.n,0,none⟩) k k])/\m.n<=lo/\(Q/\Ext m m/\Sl m (fS t) (KI m1.n 0 k k)))\/((bA (bh [Value.slice (some ⟨m1.n,0,none⟩) k k])=false\/lo<m.n)/\(min m.n lo=m.n/\Ext m m2/\Sl m2 (fS t) (KI m1.n 0 k k))):=by
  rintro l k e rfl m2 rfl lo k0 Q -;rw[e];exact MQ (nw M.aX) k0 (i0.trans Ext.refl.push)
 refine aZ (λvs H lo=>vs=[.bool (decide (t.kind=2\/t.kind=3\/t.kind=6\/t.kind=7))]/\m1=H/\lo=m.n) (λQ hQ=>?_) ?_
 ·refine an (λc=>hQ _ _ _ ⟨by grind,rfl,rfl⟩) (λc2=>?_);refine an (λc=>hQ _ _ _ ⟨by grind,rfl,rfl⟩) (λc3=>?_);refine an (λc=>hQ _ _ _ ⟨by grind,rfl,rfl⟩) (λc6=>hQ _ _ _ ⟨?_,rfl,rfl⟩);have c2:=Ja c2;have c3:=Ja c3;have c6:=Ja c6;congr 2;rw[decide_eq_decide];omega
 rintro _ _ _ ⟨rfl,rfl,rfl⟩;simp only[tid,Jf,q0,r0,ae];rw[aB,aj];refine an (λc=>?_) (λc=>?_);·rw[abq,az];exact fin (l:=[t.id]) (by unfold fS;rw[QL k1,Tf (NT c)]) rfl rfl (Ox _) (by grind)
 have c2:=Ja c;refine an (λc=>?_) (λc=>?_);·rw[mX,az];exact fin (l:=[t.id,t.du]) (by unfold fS;rw[QL k1,QL c2,Tf (NT c)]) rfl rfl (Ox _) (by grind)
 have c4:=Ja c;refine aZ (λvs H lo=>vs=[.bool (decide (t.kind=5\/t.kind=8))]/\m1=H/\lo=m.n) (λQ hQ=>?_) ?_
 ·refine an (λc=>hQ _ _ _ ⟨by grind,rfl,rfl⟩) (λc5=>hQ _ _ _ ⟨?_,rfl,rfl⟩);have c5:=Ja c5;congr 2;rw[decide_eq_decide];omega
 rintro _ _ _ ⟨rfl,rfl,rfl⟩;simp only[tid,Jf,q0,r0,ae];rw[aB,aj];refine an (λc=>?_) (λc=>?_);·rw[mX,az];exact fin (l:=[t.id,t.side]) (by unfold fS;rw[QL k1,QL c2,QL c4,Tf (NT c)]) rfl rfl (Ox _) (by grind)
 have c5:=Ja c;refine an (λc=>?_) (λc=>?_);·rw[DU,az];exact fin (l:=[t.id,t.other,t.du]) (by unfold fS;rw[QL k1,QL c2,QL c4,QL c5,Tf (NT c)]) rfl rfl (Ox _) (by grind)
 have c9:=Ja c;have e:fS t=[]:=by unfold fS;rw[QL k1,QL c2,QL c4,QL c5,QL c9]
 rw[e];exact .inl ⟨rfl,Ox _,by grind,.refl,.nil⟩
abbrev Tk.z:Tk:=⟨0,.z,0,0,0,0⟩
def GP(o:Option Tk)(m':M)(H:Φ):Prop:=match o with
 |some t=>∃w,H=.tuple #[t.v w,.bool true]/\Sl m' t.un.shape w
 |none=>H=.tuple #[Tk.z.v (.slice none 0 0),.bool false]
theorem Qo{t:Tk}{w b:Φ}(h:bA (.tuple #[t.v w,b])):Go.D.bw w:=by
 have H:((true && (true && (true && (true && (Go.D.bw w && (true && (true && (true && (true && (true && (true && true))))))))))) && (dC b && true)):=h;grind
theorem GP.flat{o:Option Tk}{m':M}{v b:Φ}(h:GP o m' (.tuple #[v,b]))(H:bA (.tuple #[v,b]))(m:M):GP o m (.tuple #[v,b]):=by
 unfold GP at h⊢;split at h;·have⟨w,e,hs⟩:=h;cases e;exact⟨w,rfl,(kS hs (Qo H) m).2⟩
 exact h
theorem abX{k:Int}:aJ TE 62 [(0,YR k)]=some (Tk.v ⟨k,.z,0,0,0,0⟩ YM):=rP rfl
theorem KL:aJ TE 62 []=some (Tk.z.v YM):=KM
section
variable {b:Nat} {t:Tk} {w:Φ} {g:Option Nat} {P:M->Nat->Prop}
theorem zX{j:Nat}{v:Int}(h:m.get b=.cells (t.c w) 62 g)(hj:7<=j)(H:j<=10)
  (hP:∀m1,m1.n=m.n->m1.get b=.cells ((t.c w).set j (YR v)) 62 g->(∀c,c≠b->m1.get c=m.get c)->P m1 b):
  aO (aD TE m 3 (Ga b (0+j)) (YR v)) P:=by
 refine bS rf h rfl (by show 0+j+1<=11;omega) rfl λm1 hn hg hk=>hP m1 hn ?_ hk;rw[hg];congr 1;have:(cells (Value.int .i64 v))=[YR v]:=rfl;rw[this,Wl];exact iO (by show j<11;omega)
theorem MB{u:Un}{w':Φ}(h:m.get b=.cells (t.c w) 62 g)(h1:one w')
  (H:∀m1,m1.n=m.n->m1.get b=.cells (Tk.c {t with un:=u} w') 62 g->(∀c,c≠b->m1.get c=m.get c)->P m1 b):
  aO (aD TE m 60 (Ga b (0+1)) (u.v w')) P:=
 bS dm h rfl (by show 0+1+6<=11;decide) (Un.cH h1) λm1 hn hg hk=>H m1 hn hg hk
theorem MC{w':Φ}(h:m.get b=.cells (t.c w) 62 g)(h1:one w')(H:cells w'=[w'])
  (hP:∀m1,m1.n=m.n->m1.get b=.cells (t.c w') 62 g->(∀c,c≠b->m1.get c=m.get c)->P m1 b):
  aO (aD TE m 58 (Ga b (0+1+3)) w') P:=
 bS vj h (by rw[H];rfl) (by grind) (by grind) λm1 hn hg hk=>hP m1 hn (by simp_all) hk
end
theorem ym:∀(l:List Int) (k:Nat) (x y:Int),l[2*k]?=some x->l[2*k+1]?=some y->(gV l)[k]?=some ⟨x,y⟩
 |[],k,x,y,h,_=>by simp at h
 |[a],k,x,y,h,H=>by
  cases k with
  |zero=>simp at H
  |succ k=>simp[show 2*(k+1)=2*k+1+1 by omega]at h
 |a::b::r,0,x,y,h,H=>by
  cases h;cases H;rfl
 |a::b::r,k+1,x,y,h,H=>by
  rw[show 2*(k+1)=2*k+1+1 by omega]at h H;simp only[F9]at h H;show(gV r)[k]?=_;exact ym r k x y h H
theorem nB:∀(l:List Int),(gV l).length=l.length/2
 |[]=>rfl
 |[a]=>by simp[gV]
 |a::b::r=>by
  show(gV r).length+1=(r.length+1+1)/2;rw[nB r];omega
theorem ady(hX:cd X){k:Int}{l:List Int}{v:Φ}(hv:Sl m l v)(hl:l.length<1000000):
  ∃rv m',C X (.func 178) [YR k,v] m m.n rv m'/\Ext m m'/\GP (yu k l) m' rv:=by
 refine Cl.EL hX (Kg func178) ?_;rw[aai];dsimp only[δ,ε,ζ,η,θ,ι,κ,ν,ς,υ,χ,ω];refine aw λm1 E1 i1 j1=>?_;rw[abX,ae];refine aw λm3 F1 D0 l1=>?_;refine aC mF D0 rfl rfl rfl λm4 G1 E0 o1=>?_;have gz:m4.get m.n=.cells (Tk.z.c YM) 62 none:=by grind
 have ga:m4.get m1.n=.cells (Tk.c ⟨k,.z,0,0,0,0⟩ YM) 62 none:=E0;have d0:Ext m m4:=⟨by omega,by grind⟩
 obtain⟨A,hA⟩:∃A,A=m1.n:=⟨_,rfl⟩
 rw[<-hA]at ga⊢;have r1:m.n<A:=by omega
 have H1:A<m4.n:=by omega
 clear i1 j1 D0 l1 E0 o1;unfold ptrTo;simp only[di,bZ,cE,cD,dh,bD,ae,aS,aj]
 have fin:∀{mm:M} {t:Tk} {w:Φ} {lo:Nat} {Q:Prop},Q->mm.get A=.cells (t.c w) 62 none->mm.get m.n=.cells (Tk.z.c YM) 62 none->Sl mm t.un.shape w->yu k l=some t->m.n<=mm.n->(∀c,c<m.n->mm.get c=m.get c)->m.n<=lo->
   ai (ah TE mm 62 (Ga A 0)) λv=>aO (aD TE mm 62 (Ga m.n 0) v) λm' b=>ai (ah TE m' 62 (Ga m.n 0)) λv'=>
    (bA (bh [v',Ku])/\m.n<=min lo b/\(Q/\Ext m m/\GP (yu k l) m (bh [v',Ku])))\/((bA (bh [v',Ku])=false\/min lo b<m.n)/\(min m.n (min lo b)=m.n/\Ext m m'/\GP (yu k l) m' (bh [v',Ku]))):=by
  intro mm t w lo Q hQ ga gz hs ho hn hk H;rw[gI ga,ae];refine aC mF gz rfl rfl (Tk.cH hs.one) λm' u1 e0 F0=>?_;have e0:m'.get m.n=.cells (t.c w) 62 none:=e0;rw[gI e0,ae];have v1:Sl m' t.un.shape w:=hs.aV λc cs ty g hc ht=>by rw[F0 c (λe=>by subst e;rw[gz]at hc;cases hc;simp[aW.ty,aW.cT]at ht),hc]
  have hr:GP (yu k l) m' (.tuple #[t.v w,Ku]):=by unfold GP;rw[ho];exact⟨w,rfl,v1⟩
  show(bA (.tuple #[t.v w,Ku])/\_/\(Q/\Ext m m/\GP _ m (.tuple #[t.v w,Ku])))\/((bA (.tuple #[t.v w,Ku])=false\/_)/\(_/\Ext m m'/\GP _ m' (.tuple #[t.v w,Ku])));cases hf:bA (.tuple #[t.v w,Ku]);·exact .inr ⟨.inl rfl,by omega,⟨by omega,by grind⟩,hr⟩
  ·exact .inl ⟨rfl,by omega,hQ,.refl,hr.flat hf m⟩
 have bad:∀{mm:M} {lo:Nat} {Q:Prop},Q->mm.get m.n=.cells (Tk.z.c YM) 62 none->yu k l=none->m.n<=lo->
   ai (aJ TE 62 []) λv=>aO (aD TE mm 62 (Ga m.n 0) v) λm' b=>ai (ah TE m' 62 (Ga m.n 0)) λv'=>
    (bA (bh [v',Zf])/\m.n<=min lo b/\(Q/\Ext m m/\GP (yu k l) m (bh [v',Zf])))\/((bA (bh [v',Zf])=false\/min lo b<m.n)/\(min m.n (min lo b)=m.n/\Ext m m'/\GP (yu k l) m' (bh [v',Zf]))):=by
  intro mm lo Q hQ gz ho H;rw[KL,ae];refine aC mF gz rfl rfl rfl λm' u1 e0 F0=>?_;have e0:m'.get m.n=.cells (Tk.z.c YM) 62 none:=e0;rw[gI e0,ae];exact .inl ⟨rfl,by omega,hQ,.refl,by unfold GP;rw[ho];rfl⟩
 have b0:∀{mm:M} {i:Nat},Ext m mm->i<l.length->∃a,ak TE 26 v (YR i)=some a/\ah TE mm 3 a=some (YR (l.getD i 0)):=by
  intro mm i hx hi;have:=(hv.aE hx).PF (k:=.i64) (show l[i]?=some (l.getD i 0) by grind);grind
 refine an (λc=>?_) (λc=>?_)
 ·have k1:k=1:=NT c;have ho:yu k l=if 11<=l.length/\l.length<=21/\l.length%2=1 then some ⟨1,⟨l.getD 0 0,l.getD 1 0,l.getD 2 0,gV (l.drop 5),l.getD 3 0,l.getD 4 0⟩,0,0,0,0⟩else none:=by unfold yu;rw[Tf k1]
  refine aZ (λvs mm lo=>vs=[.bool (!decide (11<=l.length/\l.length<=21/\l.length%2=1))]/\m4=mm/\m.n<=lo) (λQ hQ=>?_) ?_
  ·rw[(hv.aE d0).len je,az,aM,ae,aj];refine an (λc=>hQ _ _ _ ⟨?_,rfl,by omega⟩) (λc1=>?_);·have c:=NT c;rw[tx];rfl
   have c1:=Ja c1;rw[az,bP,ae,aj];refine an (λc=>hQ _ _ _ ⟨?_,rfl,by omega⟩) (λc2=>?_);·have c:=NT c;rw[tx];rfl
   have c2:=Ja c2;rw[az,tF (by decide),ae,aS,ae];refine hQ _ _ _ ⟨?_,rfl,by omega⟩;congr 2;rw[<-decide_not,decide_eq_decide];have:(l.length:Int).tmod 2=((l.length%2:Nat):Int):=by grind
   rw[this];omega
  rintro _ _ lo ⟨rfl,rfl,H⟩;rw[aB,aj];refine an (λc=>?_) (λc=>?_);·rw[Jd]at c;rw[QL (Ja c)]at ho;exact bad (by grind) gz ho H
  rw[Q0]at c;have hc:=NT c;rw[Tf hc]at ho;obtain⟨a0,p0,q0⟩:=b0 d0 (show 0<l.length by omega);obtain⟨a1,p1,q1⟩:=b0 d0 (show 1<l.length by omega);obtain⟨a2,p2,q2⟩:=b0 d0 (show 2<l.length by omega);obtain⟨a3,p3,q3⟩:=b0 d0 (show 3<l.length by omega);obtain⟨a4,p4,q4⟩:=b0 d0 (show 4<l.length by omega);have p0:ak TE 26 v (YR 0)=some a0:=p0;have p1:ak TE 26 v (YR 1)=some a1:=p1;have p2:ak TE 26 v (YR 2)=some a2:=p2;have p3:ak TE 26 v (YR 3)=some a3:=p3;have p4:ak TE 26 v (YR 4)=some a4:=p4;rw[p0,ae,q0,ae,p1,ae,q1,ae,p2,ae,q2,ae,p3,ae,q3,ae,p4,ae,q4,ae];rw[show aJ TE 60 [(0,YR (l.getD 0 0)),(1,YR (l.getD 1 0)),(2,YR (l.getD 2 0)),(4,YR (l.getD 3 0)),(5,YR (l.getD 4 0))]=some (Un.v ⟨l.getD 0 0,l.getD 1 0,l.getD 2 0,[],l.getD 3 0,l.getD 4 0⟩ YM)from rQ rfl rfl rfl rfl rfl,ae];refine MB ga rfl λI1 B1 G0 H0=>?_;obtain⟨L,hL⟩:∃L,L=l.drop 5:=⟨_,rfl⟩
  have J1:L.length=l.length-5:=by grind
  refine Lp.intro (γ:=Nat) (λj=>L.length-j) (λj vs mm lo=>∃r,vs=[YR ((5+2*j:Nat):Int)]/\2*j<=L.length/\m4.n<=mm.n/\m.n<=lo/\(∀c,c<A->mm.get c=m4.get c)/\mm.get A=.cells (Tk.c ⟨k,⟨l.getD 0 0,l.getD 1 0,l.getD 2 0,[],l.getD 3 0,l.getD 4 0⟩,0,0,0,0⟩ r) 62 none/\Ow (A+1) mm ((gV L).take j) r) 0 ⟨_,rfl,by omega,by omega,by omega,λc hc=>H0 c (by omega),G0,Ow.nil⟩ ?_;rintro j vs mm K1 ⟨r,rfl,hj,L1,I0,J0,K0,y0⟩;have r0:Ext m mm:=⟨by omega,λc hc=>by rw[J0 c (by omega),d0.get c hc]⟩
  rw[aB,(hv.aE r0).len je,az,aM,ae,aj];refine an (λL0=>?_) (λN1=>?_)
  ·have L0:5+2*j<l.length:=by grind
   have⟨a,e1,e2⟩:=b0 r0 L0;obtain⟨a',e3,e4⟩:=b0 r0 (show 5+2*j+1<l.length by omega);have e3:ak TE 26 v (YR (((5+2*j:Nat):Int)+1))=some a':=e3;have hp:(gV L)[j]?=some ⟨l.getD (5+2*j) 0,l.getD (5+2*j+1) 0⟩:=by
    refine ym _ _ _ _ ?_ ?_;·grind
    ·grind
   have lr:ah TE mm 58 (Ga A (0+1+3))=some r:=(rX K0).2.2.2.1;rw[lr,ae,e1,ae,e2,ae,aP,ae,wrap64,e3,ae,e4,ae];rw[show aJ TE 141 [(0,YR (l.getD (5+2*j) 0)),(1,YR (l.getD (5+2*j+1) 0))]=some (Pl.v ⟨l.getD (5+2*j) 0,l.getD (5+2*j+1) 0⟩)from mB rfl rfl,ae];have O1:((gV L).take j).length<=j:=by grind
   have pp:=nB L;refine fq (T:=58) (x:=(⟨l.getD (5+2*j) 0,l.getD (5+2*j+1) 0⟩:Pl)) uZ rfl y0 (by omega) (by omega) FC (λ_=>rfl) λr' m2 w2 n2 k2 P1 l2=>?_;have N0:m2.get A=_:=(k2 A (by omega)).trans K0;refine MC N0 w2.sl.one w2.sl.cells λT1 C1 O0 P0=>?_;rw[aP,ae,wrap64];refine⟨j+1,by omega,r',by grind,by omega,by omega,by omega,by grind,O0,?_⟩;rw[Q1,hp];exact w2.om rfl λc b2 d2=>P0 c (by omega)
  have g2:2*j=L.length:=by
   grind
  have pp:=nB L;rw[QM (by omega)]at y0;have b1:mm.get A=.cells (Tk.c ⟨1,⟨l.getD 0 0,l.getD 1 0,l.getD 2 0,gV (l.drop 5),l.getD 3 0,l.getD 4 0⟩,0,0,0,0⟩ r) 62 none:=by grind
  exact fin (by grind) b1 ((J0 _ r1).trans gz) (hL ▸ y0.sl) ho (by omega) (λc hc=>r0.get c hc) I0
 have k1:k≠1:=Ja c;obtain⟨M,hM⟩:∃M:Nat,M=if k=4\/k=5\/k=8 then 2 else if k=9 then 3 else 1:=⟨_,rfl⟩
 have ho:yu k l=if l.length=M then some (if k=9 then⟨k,.z,l.getD 0 0,l.getD 1 0,0,l.getD 2 0⟩else if k=5\/k=8 then⟨k,.z,l.getD 0 0,0,l.getD 1 0,0⟩else if k=4 then⟨k,.z,l.getD 0 0,0,0,l.getD 1 0⟩else⟨k,.z,l.getD 0 0,0,0,0⟩)else none:=by
  unfold yu;grind
 refine aZ (λvs mm lo=>vs=[YR (if k=4\/k=5\/k=8 then 2 else 1)]/\m4=mm/\m.n<=lo) (λQ hQ=>?_) ?_
 ·refine aZ (λvs mm lo=>vs=[.bool (decide (k=4\/k=5\/k=8))]/\m4=mm/\m.n<=lo) (λR hR=>?_) ?_
  ·refine an (λc=>hR _ _ _ ⟨by grind,rfl,by omega⟩) (λc4=>?_);refine an (λc=>hR _ _ _ ⟨by grind,rfl,by omega⟩) (λc5=>hR _ _ _ ⟨?_,rfl,by omega⟩);have c4:=Ja c4;have c5:=Ja c5;congr 2;rw[decide_eq_decide];omega
  rintro _ _ lo ⟨rfl,rfl,H⟩;rw[aB,aj];refine an (λc=>hQ _ _ _ ⟨by grind,rfl,H⟩) (λc=>hQ _ _ _ ⟨by grind,rfl,H⟩)
 rintro _ _ lo ⟨rfl,rfl,H⟩;rw[aB];refine aZ (λvs mm lo=>vs=[YR (M:Int)]/\m4=mm/\m.n<=lo) (λQ hQ=>?_) ?_
 ·refine an (λc=>hQ _ _ _ ⟨?_,rfl,H⟩) (λc=>hQ _ _ _ ⟨?_,rfl,H⟩);·have c:=NT c;subst c;rw[hM];rfl
  have c:=Ja c;rw[hM,QL c];split <;>rfl
 rintro _ _ lo ⟨rfl,rfl,H⟩;rw[aB,(hv.aE d0).len je,az,bL,ae,aj];refine an (λc=>?_) (λc=>?_);·rw[Jd]at c;have c:=Ja c;rw[im]at ho;exact bad (by grind) gz ho H
 rw[Q0]at c;have c:=NT c;have w1:l.length=M:=by omega
 rw[Tf w1]at ho;have h2:1<=M:=by grind
 obtain⟨a0,p0,q0⟩:=b0 d0 (show 0<l.length by omega);have p0:ak TE 26 v (YR 0)=some a0:=p0;rw[p0,ae,q0,ae];refine zX (j:=7) ga (by omega) (by omega) λd1 g1 j0 s0=>?_;have j0:d1.get A=.cells (Tk.c ⟨k,.z,l.getD 0 0,0,0,0⟩ YM) 62 none:=j0;refine aZ (λvs mm lo=>vs=[]/\mm.n=m4.n/\(∀c,c≠A->mm.get c=m4.get c)/\m.n<=lo/\mm.get A=.cells (Tk.c (if k=4 then⟨k,.z,l.getD 0 0,0,0,l.getD 1 0⟩else⟨k,.z,l.getD 0 0,0,0,0⟩) YM) 62 none) (λQ hQ=>?_) ?_
 ·refine an (λc=>?_) (λc=>hQ _ _ _ ⟨rfl,g1,s0,by omega,by grind⟩);have c:=NT c;have y1:M=2:=by grind
  obtain⟨a1,p1,q1⟩:=b0 (mm:=d1) ⟨by omega,λc hc=>by rw[s0 c (by omega),d0.get c hc]⟩ (show 1<l.length by omega);have p1:ak TE 26 v (YR 1)=some a1:=p1;rw[p1,ae,q1,ae];refine zX (j:=10) j0 (by omega) (by omega) λmm hn hg hk=>hQ _ _ _ ⟨rfl,by omega,by grind,by omega,by simp_all⟩
 rintro _ u0 lo ⟨rfl,z0,k0,H,l0⟩;refine aZ (λvs mm lo=>vs=[]/\mm.n=m4.n/\(∀c,c≠A->mm.get c=m4.get c)/\m.n<=lo/\mm.get A=.cells (Tk.c (if k=5\/k=8 then⟨k,.z,l.getD 0 0,0,l.getD 1 0,0⟩else if k=4 then⟨k,.z,l.getD 0 0,0,0,l.getD 1 0⟩else⟨k,.z,l.getD 0 0,0,0,0⟩) YM) 62 none) (λQ hQ=>?_) ?_
 ·refine aZ (λvs mm lo=>vs=[.bool (decide (k=5\/k=8))]/\u0=mm/\m.n<=lo) (λR hR=>?_) ?_
  ·refine an (λc=>hR _ _ _ ⟨by grind,rfl,H⟩) (λc5=>hR _ _ _ ⟨?_,rfl,H⟩);have c5:=Ja c5;congr 2;rw[decide_eq_decide];omega
  rintro _ _ lo ⟨rfl,rfl,H⟩;rw[aB,aj];refine an (λc=>?_) (λc=>hQ _ _ _ ⟨rfl,z0,k0,H,by grind⟩);have c:=NT c;have y1:M=2:=by grind
  rw[im]at l0;obtain⟨a1,p1,q1⟩:=b0 (mm:=u0) ⟨by omega,λc hc=>by rw[k0 c (by omega),d0.get c hc]⟩ (show 1<l.length by omega);have p1:ak TE 26 v (YR 1)=some a1:=p1;rw[p1,ae,q1,ae];refine zX (j:=9) l0 (by omega) (by omega) λmm hn hg hk=>hQ _ _ _ ⟨rfl,by omega,by grind,by omega,by simp_all⟩
 rintro _ h1 lo ⟨rfl,A0,g0,H,n0⟩;refine aZ (λvs mm lo=>vs=[]/\mm.n=m4.n/\(∀c,c≠A->mm.get c=m4.get c)/\m.n<=lo/\mm.get A=.cells (Tk.c (if k=9 then⟨k,.z,l.getD 0 0,l.getD 1 0,0,l.getD 2 0⟩else if k=5\/k=8 then⟨k,.z,l.getD 0 0,0,l.getD 1 0,0⟩else if k=4 then⟨k,.z,l.getD 0 0,0,0,l.getD 1 0⟩else⟨k,.z,l.getD 0 0,0,0,0⟩) YM) 62 none) (λQ hQ=>?_) ?_
 ·refine an (λc=>?_) (λc=>hQ _ _ _ ⟨rfl,A0,g0,H,by grind⟩);have c:=NT c;have i2:M=3:=by grind
  rw[im,im]at n0;obtain⟨a1,p1,q1⟩:=b0 (mm:=h1) ⟨by omega,λc hc=>by rw[g0 c (by omega),d0.get c hc]⟩ (show 1<l.length by omega);have p1:ak TE 26 v (YR 1)=some a1:=p1;rw[p1,ae,q1,ae];refine zX (j:=8) n0 (by omega) (by omega) λv0 z1 i0 B0=>?_;have i0:v0.get A=.cells (Tk.c ⟨k,.z,l.getD 0 0,l.getD 1 0,0,0⟩ YM) 62 none:=i0;obtain⟨a2,p2,q2⟩:=b0 (mm:=v0) ⟨by omega,λc hc=>by rw[B0 c (by omega),g0 c (by omega),d0.get c hc]⟩ (show 2<l.length by omega);have p2:ak TE 26 v (YR 2)=some a2:=p2;rw[p2,ae,q2,ae];refine zX (j:=10) i0 (by omega) (by omega) λmm hn hg hk=>hQ _ _ _ ⟨rfl,by omega,by grind,by omega,by simp_all⟩
 rintro _ D1 lo ⟨rfl,A1,o0,H,C0⟩;refine fin (by grind) C0 ((o0 _ (by omega)).trans gz) ?_ ho (by omega) (λc hc=>by rw[o0 c (by omega),d0.get c hc]) H;split;·exact .nil
 split;·exact .nil
 split <;>exact .nil
theorem adz{k:Int}{l:List Int}{p:Tk}(h:yu k l=some p):p.un.shape.length<=l.length:=by
 unfold yu at h;split at h
 ·split at h;·cases h;show(gV (l.drop 5)).length<=_;rw[nB,VY];omega
  cases h
 repeat' (split at h)
 all_goals first|(cases h;exact ZE _)|cases h
theorem Ah(hX:cd X){a b:Tk}{va vb:Φ}(ha:Sl m a.un.shape va)(hb:Sl m b.un.shape vb)(la:a.un.shape.length<4611686018427387904):
  C X (.func 39) [a.v va,b.v vb] m m.n (.bool (decide (a=b))) m:=by
 refine Cl.fG hX (Kg func39) ?_;rw[F39];dsimp only[δ,ε,η,ρ,υ,ψ];refine aw λm1 o0 k0 p0=>?_;refine aw λm2 q0 l0 n0=>?_;have d0:Ext m m2:=⟨by omega,by grind⟩
 have g1:m2.get m.n=.cells (a.c va) 62 none:=by rw[n0 _ (by omega)];exact k0
 have g2:m2.get m1.n=.cells (b.c vb) 62 none:=l0;have⟨a0,a1,a2,a3,a4⟩:=nq g1;have⟨b0,b1,b2,b3,b4⟩:=nq g2;have au:=rh g1;have bu:=rh g2;unfold ptrTo;simp only[cn,di,bZ,cE,cD,dh,ae,a0,a1,a2,a3,a4,b0,b1,b2,b3,b4,au,bu,aS,aj];have⟨k,u,id,ot,sd,ma⟩:=a;have⟨k',u',e0,g0,i0,j0⟩:=b;refine aZ (λvs m' lo=>vs=[.bool (decide ((⟨k,u,id,ot,sd,ma⟩:Tk)=⟨k',u',e0,g0,i0,j0⟩))]/\m.n<=lo) (λR hR=>?_) ?_
 ·have no:∀{mm:M} {lo:Nat},¬((⟨k,u,id,ot,sd,ma⟩:Tk)=⟨k',u',e0,g0,i0,j0⟩)->m.n<=lo->R [Zf] mm lo:=λh H=>hR _ _ _ ⟨by grind,H⟩;refine an (λc0=>?_) (λc=>no (λe=>Ja c (by grind)) (by omega));refine an (λc1=>?_) (λc=>no (λe=>Ja c (by grind)) (by omega));refine an (λc2=>?_) (λc=>no (λe=>Ja c (by grind)) (by omega));refine an (λc3=>?_) (λc=>no (λe=>Ja c (by grind)) (by omega));refine an (λc4=>?_) (λc=>no (λe=>Ja c (by grind)) (by omega));refine aG (uc hX (ha.aE d0) (hb.aE d0) la) (hR _ _ _ ⟨?_,by omega⟩);congr 2;rw[decide_eq_decide,Tk.mk.injEq];have:=NT c0;have:=NT c1;have:=NT c2;have:=NT c3;have:=NT c4;simp_all
 rintro _ _ lo ⟨rfl,H⟩;rw[aB];exact⟨rfl,H⟩
theorem Ed(hX:cd X){t:Tk}{w:Φ}(hw:Sl m t.un.shape w)(hl:t.un.shape.length<100000):
  C X (.func 132) [t.v w] m m.n (.bool (dB t)) m:=by
 rw[<-Om];refine Cl.fG hX (Kg func132) ?_;rw[aaG];dsimp only[δ,ε,η,ι,κ,ξ,ο,ρ,ς,υ,χ,ψ,Γ,Δ,ω];refine aw λm1 N0 A0 B0=>?_;have g1:m1.get m.n=.cells (t.c w) 62 none:=A0;have C0:Ext m m1:=⟨by omega,B0⟩
 have n0:=hw.aE C0;obtain⟨k0, -, -, -, -⟩:=nq g1;obtain⟨-, -, -,v3, -, -⟩:=rX g1;unfold ptrTo;simp only[cn,di,bZ,cE,cD,dh,cM,bD,ae];obtain⟨B,hB⟩:∃B,B=sY t:=⟨_,rfl⟩
 rw[<-hB];unfold sY at hB;refine aZ (λvs mm lo=>vs=[.bool (!(cR t.kind 1 9 && decide (t.un.shape.length<=8)))]/\m1=mm/\m.n<=lo) (λQ H=>?_) ?_
 ·rw[k0,ae];refine aG (iF hX _ _ _) ?_;rw[bk,ae,aj];refine an (λc=>H _ _ _ ⟨?_,rfl,by omega⟩) (λc=>?_);·rw[Jd]at c;rw[c];rfl
  rw[Q0]at c;rw[v3,ae,n0.len cA,az,bP,ae];refine H _ _ _ ⟨?_,rfl,by omega⟩;rw[c,ZD];congr 2;rw[<-decide_not,decide_eq_decide];omega
 rintro _ _ lo ⟨rfl,rfl,D0⟩;rw[aB,aj];refine an (λc=>?_) (λc=>?_);·rw[Jd]at c;rw[c]at hB;rw[hB];exact⟨rfl,D0⟩
 rw[Q0]at c;rw[c,ZD]at hB;rw[k0,ae,gI g1,ae];have⟨O0,m23,E0,u0,F0⟩:=BL (m:=m1) hX n0 hl;refine aG E0 ⟨Ox _,?_⟩;have nl:(fS t).length<1000000:=by
  unfold fS;split;·rw[NN,td];simp only[zG,GK];omega
  grind
 have⟨rv,q0,G0,v0,g0⟩:=ady (m:=m23) (k:=t.kind) hX F0 nl;refine aG G0 ⟨Ox _,?_⟩;have n23:=u0.n;have n26:=v0.n;obtain⟨p,wp,ok,rfl,sp,lp,e0⟩:∃(p:Tk) (wp:Φ) (ok:Bool),rv=.tuple #[p.v wp,.bool ok]/\Sl q0 p.un.shape wp/\p.un.shape.length<4611686018427387904/\decide (yu t.kind (fS t)=some t)=(ok && decide (p=t)):=by
  unfold GP at g0;cases e:yu t.kind (fS t)with
  |none=>rw[e]at g0;exact⟨.z,_,false,g0,.nil,by decide,by simp⟩
  |some p=>
   rw[e]at g0;have⟨wp,h1,h2⟩:=g0;have:=adz e;grind
 rw[aH,aH];simp only[zi,F9,ae];refine aw λP0 I0 y0 J0=>?_;refine aC mF y0 rfl rfl (Tk.cH sp.one) λr0 K0 j0 L0=>?_;have j0:r0.get q0.n=.cells (p.c wp) 62 none:=j0;have p0:Ext q0 r0:=⟨by omega,by grind⟩
 have b0:=(u0.trans v0).trans p0;have d0:=b0.cells g1;refine aZ (λvs mm lo=>vs=[.bool (!decide (yu t.kind (fS t)=some t))]/\r0=mm/\m.n<=lo) (λQ H=>?_) ?_
 ·rw[bk,ae,aj];refine an (λc=>H _ _ _ ⟨?_,rfl,by omega⟩) (λc=>?_);·rw[Jd]at c;rw[e0,c];rfl
  rw[Q0]at c;rw[gI j0,ae,gI d0,ae];refine aG (Ah hX (sp.aE p0) (n0.aE b0) lp) ?_;rw[bk,ae];exact H _ _ _ ⟨by grind,rfl,by omega⟩
 rintro _ _ fO ⟨rfl,rfl,z0⟩;rw[aB,aj];refine an (λc=>?_) (λc=>?_);·rw[Jd]at c;rw[c,zJ]at hB;rw[hB];exact⟨rfl,z0⟩
 rw[Q0]at c;rw[c,ZD]at hB;have⟨k0,i0,o0,s0,a0⟩:=nq d0;obtain⟨-,ku, -, -, -, -⟩:=rX d0;have uu:=rh d0;simp only[cM,ae,k0,i0,o0,s0,a0,ku,uu,aS,bL,aM,aj];refine an (λc1=>?_) (λc1=>?_)
 ·rw[Tf (NT c1)]at hB;refine aZ (λvs mm lo=>vs=[.bool B]/\m.n<=lo) (λQ H=>?_) ?_;·refine aG (iP hX (n0.aE b0) (by omega)) ?_;rw[aj];refine an (λc=>?_) (λc=>H _ _ _ ⟨by grind,by omega⟩);rw[ku,ae];refine aG (iF hX _ _ _) ?_;exact H _ _ _ ⟨by grind,by omega⟩
  rintro _ _ H0 ⟨rfl,l0⟩;rw[aB];exact⟨rfl,l0⟩
 rw[QL (Ja c1)]at hB;refine aZ (λvs mm lo=>vs=[.bool B]/\m.n<=lo) (λQ H=>?_) ?_;·refine aG (iF hX _ _ _) ?_;rw[aj];refine an (λc=>?_) (λc=>H _ _ _ ⟨by grind,by omega⟩);rw[o0,ae];refine aG (iF hX _ _ _) ?_;rw[aj];refine an (λd=>?_) (λd=>H _ _ _ ⟨by grind,by omega⟩);rw[s0,ae];refine aG (iF hX _ _ _) ?_;rw[aj];refine an (λe=>?_) (λe=>H _ _ _ ⟨by grind,by omega⟩);rw[a0,ae];refine aG (iF hX _ _ _) ?_;rw[aj];refine an (λf=>?_) (λf=>H _ _ _ ⟨by grind,by omega⟩);rw[k0,ae,bL,ae,aj,i0,ae,o0,ae,aM,ae];refine an (λg=>H _ _ _ ⟨by grind,by omega⟩) (λg=>H _ _ _ ⟨by grind,by omega⟩)
 rintro _ _ H0 ⟨rfl,l0⟩;rw[aB];exact⟨rfl,l0⟩
theorem Qd{u:Un}{w b:Φ}(h:bA (.tuple #[u.v w,b])):Go.D.bw w:=by
 have H:((true && (true && (true && (Go.D.bw w && (true && (true && true)))))) && (dC b && true)):=h;grind
theorem fJ.flat{us:List Un}{id:Int}{m':M}{v b:Φ}(h:fJ us id m' (.tuple #[v,b]))(H:bA (.tuple #[v,b]))(m:M):fJ us id m (.tuple #[v,b]):=by
 unfold fJ at h⊢;split at h;·have⟨w,e,hs⟩:=h;cases e;exact⟨w,rfl,(kS hs (Qd H) m).2⟩
 exact h
theorem Ej{us:List Un}{id:Int}{m':M}{v b:Φ}{lo:Nat}{Q:Prop}(hQ:Q)(h:fJ us id m' (.tuple #[v,b]))(H:m.n<=lo)(hx:Ext m m'):
  (bA (bh [v,b])/\m.n<=lo/\(Q/\Ext m m/\fJ us id m (bh [v,b])))\/((bA (bh [v,b])=false\/lo<m.n)/\(min m.n lo=m.n/\Ext m m'/\fJ us id m' (bh [v,b]))):=by
 cases hf:bA (bh [v,b]);·exact .inr ⟨.inl rfl,by omega,hx,h⟩
 exact .inl ⟨rfl,H,hQ,.refl,h.flat hf m⟩
theorem iW(hX:cd X){l:List UW}{v vm:Φ}(h:cP m l v)(hl:l.length<1000000)(h1:one vm)(id:Int):
  ∃rv m',C X (.func 71) [.agg #[v,vm],YR id] m m.n rv m'/\Ext m m'/\fJ (bM l) id m' rv:=by
 refine Cl.EL hX (Kg func71) ?_;rw[F71];dsimp only[δ,ε,ζ,η,θ,ι,κ,ρ,ς,υ,χ];refine aw λm1 C0 j0 D0=>?_;refine aw λm2 E0 k0 l0=>?_;have n0:Ext m m2:=⟨by omega,by grind⟩
 have g1:m2.get m.n=.cells [v,vm] 33 none:=by rw[l0 _ (by omega)];exact j0
 have g2:m2.get m1.n=.cells Un.zc 60 none:=k0;have hF:=h.aE n0;obtain⟨-,o0, -, -⟩:=jC g1;unfold ptrTo;simp only[bV,bJ,ae];refine Lp.intro (γ:=Nat) (λi=>l.length-i) (λi vs mm lo=>∃z,vs=[z,YR i]/\i<=l.length/\m2=mm/\m.n<=lo/\(bM (l.take i)).find? (λy=>decide (y.id=id))=none) 0 ⟨_,rfl,ZE _,rfl,by omega,rfl⟩ ?_;rintro i vs mm lo ⟨z,rfl,hi,rfl,p0,b0⟩;rw[aB,aB,o0,ae,hF.sl.len dc,az,aM,ae,aj];refine an (λe0=>?_) (λF0=>?_)
 ·have e0:i<l.length:=by grind
  obtain⟨x,hx⟩:∃x,l[i]?=some x:=⟨_,Fx e0⟩
  have⟨q,q0,f1,f2,f3⟩:=rV hF.sl hx;have⟨q',q1,q2,ow⟩:=hF.sl.eY (k:=.i64) hx;obtain rfl:q=q':=Option.some.inj (f1.symm.trans q1);have r0:=LZ hx;rw[ae,f1,ae,f2,ae,f3,ae,aS,ae,aj];have s0:bM (l.take (i+1))=bM (l.take i)++ [x.u]:=by unfold bM;rw[Q1,hx,Cu];rfl
  refine an (λc=>?_) (λc=>?_)
  ·rw[ae,f1,ae,q2,ae];refine aC dm g2 rfl rfl (Un.cH ow) λg0 z0 H i0=>?_;have H:g0.get m1.n=.cells (x.u.c x.w) 60 none:=H;rw[bU H,ae];have d0:ck (bM l) id=some x.u:=by
    have e:bM l=bM (l.take (i+1))++bM (l.drop (i+1)):=by unfold bM;rw[<-Cu,Gw]
    unfold ck;grind
   refine Ej (m':=g0) (by grind) ?_ (by omega) ⟨by omega,by grind⟩;unfold fJ;rw[d0];exact⟨x.w,rfl,(hF.sh x r0).aV λc cs t g hc ht=>by rw[i0 c (λe=>by subst e;rw[g2]at hc;cases hc;simp[aW.ty,aW.cT]at ht),hc]⟩
  rw[aP,ae,wrap64 (by grind) (by omega)];refine⟨i+1,by omega,z,rfl,by omega,rfl,p0,?_⟩;rw[s0,List.find?_append,b0];simp[c]
 have u0:i=l.length:=by
  grind
 subst u0;rw[V9]at b0;have v0:aJ TE 60 []=some (.agg Un.zc.toArray):=ng;rw[v0,ae];refine aC dm g2 rfl rfl rfl λy0 A0 a0 B0=>?_;have a0:y0.get m1.n=.cells (Un.c ⟨0,0,0,[],0,0⟩ YM) 60 none:=a0;rw[bU a0,ae];refine .inl ⟨rfl,by omega,by grind,.refl,?_⟩;unfold fJ ck;rw[b0];rfl
theorem Az{l:List KW}{st:Φ}(h:Sl m l st){i:Nat}{x:KW}(hx:l[i]?=some x):∃b o,ak TE 34 st (YR i)=some (Ga b o)/\ah TE m 3 (Ga b (o+0+0))=some (YR x.u.id)/\ah TE m 113 (Ga b o)=some x.v/\one x.w/\one x.mv:=by
 have⟨b,o,bc,g,cs,e1,hb,hr,hle,hj⟩:=h.fa eM (k:=.i64) hx;obtain⟨rfl,h1,h2⟩:cs=x.c/\one x.w/\one x.mv:=hr;have hle:o+7<=bc.length:=hle;refine⟨b,o,e1,?_,?_,h1,h2⟩;·rw[bF,aI hb];exact hj 0 (by show 0<7;decide)
 have⟨p,H,e2,e3,e4⟩:=h.index eM (k:=.i64) hx;obtain rfl:p=Ga b o:=Option.some.inj (e2.symm.trans e1);obtain⟨rfl,_⟩:H=x.c/\_:=e4;exact e3
theorem vo(hX:cd X){y:Yd}{r r2 st rc mo:Φ}{H:List KW}(hk:Sl m H st)(hl:H.length<1000000)(h1:(yc r r2 st rc mo).all one)(id:Int):
  C X (.func 180) [yv r r2 st rc mo,YR id] m m.n (YR (idx (λx:KW=>decide (x.u.id=id)) H)) m:=by
 refine Cl.fG hX (Kg func180) ?_;rw[aag];dsimp only[δ,ε,ζ,η,κ,ρ,υ,χ];refine aw λm1 j0 g0 i0=>?_;have g1:m1.get m.n=.cells (yc r r2 st rc mo) 38 none:=g0;have a0:=hk.aE (m':=m1) ⟨by omega,i0⟩;obtain⟨-,l1, -, -, -⟩:=dW g1;unfold ptrTo;simp only[dG,bW,bz,ae];refine Lp.intro (γ:=Nat) (λi=>H.length-i) (λi vs mm lo=>∃z,vs=[z,YR i]/\i<=H.length/\m1=mm/\m.n<=lo/\∀j x,j<i->H[j]?=some x->x.u.id≠id) 0 ⟨_,rfl,ZE _,rfl,by omega,λj x hj=>by omega⟩ ?_;rintro i vs mm lo ⟨z,rfl,hi,rfl,b0,d0⟩;rw[aB,aB,l1,ae,a0.len eM,az,aM,ae,aj];refine an (λe0=>?_) (λk0=>?_)
 ·have e0:i<H.length:=by grind
  obtain⟨x,hx⟩:∃x,H[i]?=some x:=⟨_,Fx e0⟩
  obtain⟨b,o,e1,e2, -⟩:=Az a0 hx;rw[ae,e1,ae,bW,ae,bz,ae,e2,ae,aS,ae,aj];refine an (λc=>⟨?_,b0⟩) (λc=>?_);·rw[Cf (i:=i) hx (by exact c) λj y hj hy=>by grind];rfl
  rw[aP,ae,wrap64];refine⟨i+1,by omega,z,rfl,by omega,rfl,b0,λj y hj hy=>?_⟩;by_cases e:j=i;·subst e;rw[hx]at hy;cases hy;exact Ja c
  exact d0 j y (by omega) hy
 have l0:i=H.length:=by
  grind
 refine⟨?_,b0⟩;rw[sW λy hy=>?_];rfl;have⟨j,hj⟩:=ZZ hy;simpa using d0 j y (by grind) hj
theorem vR(hX:cd X)(a b:Fc):C X (.func 73) [a.v,b.v] m m.n (.bool (decide (gZ a b))) m:=by
 refine Cl.fG hX (Kg func73) ?_;rw[F73];dsimp only[δ,ε,η,ρ,υ];refine aw λm1 k0 H l0=>?_;refine aw λm2 n0 a0 b0=>?_;have g1:m2.get m.n=.cells a.c 53 none:=by rw[b0 _ (by omega)];exact H
 have g2:m2.get m1.n=.cells b.c 53 none:=a0;have d0:ah TE m2 3 (Ga m.n (0+0))=some (YR a.un):=by rw[bF,aI g1];rfl
 have e0:ah TE m2 3 (Ga m.n (0+1))=some (YR a.side):=by rw[bF,aI g1];rfl
 have g0:ah TE m2 3 (Ga m1.n (0+0))=some (YR b.un):=by rw[bF,aI g2];rfl
 have i0:ah TE m2 3 (Ga m1.n (0+1))=some (YR b.side):=by rw[bF,aI g2];rfl
 unfold ptrTo;refine aZ (λvs mm lo=>vs=[.bool (decide (gZ a b))]/\m.n<=lo) (λR hR=>?_) ?_
 ·simp only[cW,dj,ae,d0,e0,g0,i0,aM,aS,aj];refine an (λc=>hR _ _ _ ⟨by rw[IH (show gZ a b from .inl (NT c))],by omega⟩) (λc1=>?_);have c1:=Ja c1;refine an (λc=>hR _ _ _ ⟨?_,by omega⟩) (λc=>hR _ _ _ ⟨?_,by omega⟩)
  ·have c:=NT c;congr 2;rw[decide_eq_decide];unfold gZ;omega
  have c:=Ja c;rw[Dh];unfold gZ;omega
 rintro _ _ lo ⟨rfl,j0⟩;rw[aB];exact⟨rfl,j0⟩
theorem lZ{l:List Fc}{v:Φ}(h:Sl m l v){i:Nat}{x:Fc}(H:l[i]?=some x):∃p,ak TE 35 v (YR i)=some p/\ah TE m 53 p=some x.v:=by have⟨p,cs,e1,e2,e3⟩:=h.index dA (k:=.i64) H;obtain rfl:cs=x.c:=e3;exact⟨p,e1,e2⟩
theorem Pm{a b:Fc}:aA TE .eql 53 a.v b.v=some (.bool (decide (a=b))):=by
 have h:aA TE .eql 53 a.v b.v=some (.bool ((a.un==b.un) && ((a.side==b.side) && true))):=by kernel_rfl
 rw[h];have⟨H,a2⟩:=a;have⟨b1,b2⟩:=b;congr 2;grind
theorem qM(hX:cd X){l:List Fc}{r r2 st rc mo:Φ}(hr:Sl m l rc)(hl:l.length<1000000)(f:Fc):
  C X (.func 72) [yv r r2 st rc mo,f.v] m m.n (.bool (decide (f∈l))) m:=by
 refine Cl.fG hX (Kg func72) ?_;rw[F72];dsimp only[δ,ε,ζ,η,κ,ρ,υ,χ];refine aw λm1 k0 e0 l0=>?_;refine aw λm2 n0 g0 i0=>?_;have g1:m2.get m.n=.cells (yc r r2 st rc mo) 38 none:=by rw[i0 _ (by omega)];exact e0
 have g2:m2.get m1.n=.cells f.c 53 none:=g0;have b0:=hr.aE (m':=m2) ⟨by omega,by grind⟩;obtain⟨-, -,l2, -, -⟩:=dW g1;have lf:ah TE m2 53 (Ga m1.n 0)=some f.v:=by rw[sU,aQ (n:=2) g2 (by grind)];rfl
 unfold ptrTo;simp only[dF,ae];refine Lp.intro (γ:=Nat) (λi=>l.length-i) (λi vs mm lo=>∃z,vs=[z,YR i]/\i<=l.length/\m2=mm/\m.n<=lo/\f∉l.take i) 0 ⟨_,rfl,ZE _,rfl,by omega,by simp⟩ ?_;rintro i vs mm lo ⟨z,rfl,hi,rfl,H,a0⟩;rw[aB,aB,l2,ae,b0.len dA,az,aM,ae,aj];refine an (λd0=>?_) (λo0=>?_)
 ·have d0:i<l.length:=by grind
  obtain⟨x,hx⟩:∃x,l[i]?=some x:=⟨_,Fx d0⟩
  have⟨p,e1,e2⟩:=lZ b0 hx;rw[ae,e1,ae,e2,ae,lf,ae,Pm,ae,aj];refine an (λc=>⟨?_,H⟩) (λc=>?_);·have c:=NT c;subst c;rw[IH (LZ hx)];rfl
  rw[aP,ae,wrap64];refine⟨i+1,by omega,z,rfl,by omega,rfl,H,?_⟩;rw[Q1,hx];simp only[Gf,OH,Qk,not_or];exact⟨a0,λe=>Ja c e.symm⟩
 have j0:i=l.length:=by
  grind
 subst j0;rw[V9]at a0;exact⟨by rw[Dh a0];rfl,H⟩
theorem AN(hX:cd X){l:List UW}{v vm:Φ}(h:cP m l v)(hl:l.length<1000000)(h1:one vm)(id side:Int):
  C X (.func 182) [.agg #[v,vm],YR id,YR side] m m.n (.bool (yT (bM l) id side)) m:=by
 refine Cl.fG hX (Kg func182) ?_;rw[aae];dsimp only[δ,ε,η,ι,κ,ξ,ρ,ς,υ,χ,ψ,ω];refine aw λm1 j0 a0 b0=>?_;have g1:m1.get m.n=.cells [v,vm] 33 none:=a0;have d0:Ext m m1:=⟨by omega,b0⟩
 unfold ptrTo;rw[(jC g1).2.2.2,ae];have⟨rv,m4,c4,x4,fr⟩:=iW (m:=m1) hX (h.aE d0) hl h1 id;refine aG c4 ?_;have n4:=x4.n;obtain⟨u,w,ok,rfl,hs,hB⟩:∃(u:Un) (w:Φ) (ok:Bool),rv=.tuple #[u.v w,.bool ok]/\Sl m4 u.shape w/\yT (bM l) id side=(ok && (decide (side= -1) ||decide (side= -2) ||decide (0<=side) && decide (side<(u.shape.length:Int)))):=by
  unfold fJ at fr;unfold yT;cases e:ck (bM l) id with
  |none=>rw[e]at fr;exact⟨.z,YM,false,fr,.nil,rfl⟩
  |some u=>rw[e]at fr;have⟨w,h1,h2⟩:=fr;exact⟨u,w,true,h1,h2,by simp⟩
 rw[aH,aH];simp only[zi,F9,ae];refine aw λm8 k0 e0 l0=>?_;refine aC dm e0 rfl rfl (Un.cH hs.one) λm9 n0 H o0=>?_;have H:m9.get m4.n=.cells (u.c w) 60 none:=H;have g0:=hs.aE (m':=m9) ⟨by omega,by grind⟩;obtain⟨-, -, -,l3, -, -⟩:=kz H;refine aZ (λvs mm lo=>vs=[.bool (yT (bM l) id side)]/\m.n<=lo) (λR hR=>?_) ?_;·rw[aj];refine an (λc=>?_) (λc=>hR _ _ _ ⟨by grind,by omega⟩);rw[aS,ae,aj];refine an (λc1=>hR _ _ _ ⟨by grind,by omega⟩) (λc1=>?_);rw[aS,ae,aj];refine an (λc2=>hR _ _ _ ⟨by grind,by omega⟩) (λc2=>?_);rw[cI,ae,aj];refine an (λc3=>?_) (λc3=>hR _ _ _ ⟨by grind,by omega⟩);rw[bD,ae,l3,ae,g0.len cA,az,aM,ae];exact hR _ _ _ ⟨by grind,by omega⟩
 rintro _ _ lo ⟨rfl,i0⟩;rw[aB];exact⟨rfl,i0⟩
structure Sf where
 de:Int
 gr:Int
 st:Int
 po:Int
 sa:Int
abbrev Sf.c(x:Sf):Bt:=[.int .i64 x.de,.int .i64 x.gr,.int .i64 x.st,.int .i64 x.po,.int .i64 x.sa]
abbrev Sf.v(x:Sf):Φ:=.agg (x.c).toArray
instance:aW Sf where
 ty:=298
 sz:=5
 agg:=true
 cT:=[]
 rep _ x cs:=cs=x.c
 pos:=by decide
 one:=by grind
 len:=by simp_all
 dS:=by rintro _ _ _ rfl;rfl
 aV:=by grind
theorem abM:oU TE 344 298 Sf:=⟨ag.t344,ag.t298,by kernel_rfl,⟨_,rfl⟩,rfl,by kernel_rfl,rfl,rfl⟩
def ri:List Sf:=[⟨9,3,9,1,0⟩,⟨8,3,6,4,1⟩,⟨7,3,5,5,1⟩,⟨6,3,4,6,3⟩,⟨3,2,5,3,0⟩,⟨5,2,2,7,1⟩,⟨8,3,8,1,4⟩,⟨10,1,9,0,0⟩]
def jG(a:Int):Option Sf:=if 0<=a/\a<=7 then ri[a.toNat]? else none
def dz(a b:Int):Bool:=match jG a,jG b with
 |some x,some y=>decide (x.st<=y.st+1) && decide (y.po<=x.po+1) && decide (x.sa<=y.sa+1)
 |_,_=>false
def cZ(a b:Int):Bool:=match jG a,jG b with
 |some x,some y=>decide (x.st<=y.st) && decide (y.po<=x.po) && decide (x.sa<=y.sa+1)
 |_,_=>false
def mI(a:Int):Φ:=match jG a with
 |some x=> .tuple #[x.v,.int .i64 0]
 |none=> .tuple #[Sf.v ⟨0,0,0,0,0⟩,.int .i64 80]
theorem Jg:∃m',aF TE m 344 8 [(0,Sf.v ⟨9,3,9,1,0⟩),(1,Sf.v ⟨8,3,6,4,1⟩),(2,Sf.v ⟨7,3,5,5,1⟩),(3,Sf.v ⟨6,3,4,6,3⟩),(4,Sf.v ⟨3,2,5,3,0⟩),(5,Sf.v ⟨5,2,2,7,1⟩),(6,Sf.v ⟨8,3,8,1,4⟩),(7,Sf.v ⟨10,1,9,0,0⟩)]=some (KI m.n 0 8 8,m')/\m'=m.push (.cells (ri.flatMap Sf.c) 298 none):=⟨_,by kernel_rfl,rfl⟩
theorem aeu{b:Nat}{g:Option Nat}(h:m.get b=.cells (ri.flatMap Sf.c) 298 g):Sl m ri (KI b 0 8 8):=
 .inr ⟨b,0,8,_,g,rfl,h,by decide,λi x hi=>by
  have:i<8:=(OJ.1 hi).1;match i,hi with
  |0,hi=>cases hi;rfl
  |1,hi=>cases hi;rfl
  |2,hi=>cases hi;rfl
  |3,hi=>cases hi;rfl
  |4,hi=>cases hi;rfl
  |5,hi=>cases hi;rfl
  |6,hi=>cases hi;rfl
  |7,hi=>cases hi;rfl
  |i+8,_=>omega⟩
theorem nu(hX:cd X)(a:Int):C X (.func 225) [YR a] m m.n (mI a) m:=by
 refine Cl.th (hX.no _ rfl) (Kg func225) rfl (by unfold mI;split <;>rfl) ?_;rw[adp];dsimp only[δ,ζ,η,θ,ι,ν,ς,υ,χ];refine aw λm1 p0 i0 q0=>?_;rw[show aJ TE 298 [(0,YR 9),(1,YR 3),(2,YR 9),(3,YR 1)]=some (Sf.v ⟨9,3,9,1,0⟩) by kernel_rfl,ae];rw[show aJ TE 298 [(0,YR 8),(1,YR 3),(2,YR 6),(3,YR 4),(4,YR 1)]=some (Sf.v ⟨8,3,6,4,1⟩) by kernel_rfl,ae];rw[show aJ TE 298 [(0,YR 7),(1,YR 3),(2,YR 5),(3,YR 5),(4,YR 1)]=some (Sf.v ⟨7,3,5,5,1⟩) by kernel_rfl,ae];rw[show aJ TE 298 [(0,YR 6),(1,YR 3),(2,YR 4),(3,YR 6),(4,YR 3)]=some (Sf.v ⟨6,3,4,6,3⟩) by kernel_rfl,ae];rw[show aJ TE 298 [(0,YR 3),(1,YR 2),(2,YR 5),(3,YR 3)]=some (Sf.v ⟨3,2,5,3,0⟩) by kernel_rfl,ae];rw[show aJ TE 298 [(0,YR 5),(1,YR 2),(2,YR 2),(3,YR 7),(4,YR 1)]=some (Sf.v ⟨5,2,2,7,1⟩) by kernel_rfl,ae];rw[show aJ TE 298 [(0,YR 8),(1,YR 3),(2,YR 8),(3,YR 1),(4,YR 4)]=some (Sf.v ⟨8,3,8,1,4⟩) by kernel_rfl,ae];rw[show aJ TE 298 [(0,YR 10),(1,YR 1),(2,YR 9)]=some (Sf.v ⟨10,1,9,0,0⟩) by kernel_rfl,ae];have⟨m11,a0,H⟩:=Jg (m:=m1);rw[a0,az];have b0:m11.get m1.n=.cells (ri.flatMap Sf.c) 298 none:=by rw[H];exact M.aX
 have j0:m11.n=m1.n+1:=by rw[H];exact M.iQ
 have gz:m11.get m.n=.cells (Sf.c ⟨0,0,0,0,0⟩) 298 none:=by rw[H,M.cy (by omega)];exact i0
 have hs:=aeu b0;have d0:∀{mm:M} {x:Sf},mm.get m.n=.cells x.c 298 none->ah TE mm 298 (Ga m.n 0)=some x.v:=λh=>by rw[NL,aQ (n:=5) h (by grind)];rfl
 clear H a0;unfold ptrTo;refine aZ (λvs mm lo=>vs=[.bool (!decide (0<=a/\a<=7))]/\m11=mm/\m.n<=lo) (λR hR=>?_) ?_
 ·rw[aM,ae,aj];refine an (λc=>hR _ _ _ ⟨?_,rfl,by omega⟩) (λc=>?_);·have c:=NT c;rw[tx];rfl
  have c:=Ja c;rw[bP,ae];refine hR _ _ _ ⟨?_,rfl,by omega⟩;congr 2;rw[<-decide_not,decide_eq_decide];omega
 rintro _ _ lo ⟨rfl,rfl,r0⟩;rw[aB,aj];refine an (λc=>?_) (λc=>?_);·rw[Jd]at c;rw[show aJ TE 298 []=some (Sf.v ⟨0,0,0,0,0⟩) by kernel_rfl,ae];refine aC tS gz rfl rfl rfl λm21 k0 e0 l0=>?_;rw[d0 (x:=⟨0,0,0,0,0⟩) e0,ae];refine⟨?_,by omega⟩;unfold mI jG;rw[QL (Ja c)];rfl
 rw[Q0]at c;have c:=NT c;obtain⟨x,hx⟩:∃x,ri[a.toNat]?=some x:=⟨_,Fx (show a.toNat<8 by omega)⟩
 have⟨p,cs,e1,e2,e3⟩:=hs.index abM (k:=.i64) hx;obtain rfl:cs=x.c:=e3;rw[show((a.toNat:Nat):Int)=a by omega]at e1;have e2:ah TE m11 298 p=some x.v:=e2;rw[e1,ae,e2,ae];refine aC tS gz rfl rfl rfl λs0 n0 g0 o0=>?_;rw[d0 (x:=x) g0,ae];refine⟨?_,by omega⟩;unfold mI jG;rw[Tf c,hx];rfl
theorem lT(a:Int):∃(x:Sf) (e:Int),mI a=.tuple #[x.v,YR e]/\(decide (e=0)->jG a=some x)/\(decide (e=0)=false->jG a=none):=by
 unfold mI;cases jG a with
 |none=>exact⟨_,_,rfl,by grind,λ_=>rfl⟩
 |some x=>exact⟨x,0,rfl,λ_=>rfl,by grind⟩
theorem se{a:Int}{x:Sf}(h:jG a=some x):(0<=x.st/\x.st<=10)/\(0<=x.po/\x.po<=10)/\(0<=x.sa/\x.sa<=10):=by
 unfold jG at h;split at h;·have hm:=LZ h;simp only[ri,RN,ZX,or_false]at hm;rcases hm with rfl|rfl|rfl|rfl|rfl|rfl|rfl|rfl <;>decide
 cases h
theorem YV{b:Nat}{x:Sf}{g:Option Nat}(h:m.get b=.cells x.c 298 g):ah TE m 3 (Ga b (0+2))=some (YR x.st)/\ah TE m 3 (Ga b (0+3))=some (YR x.po)/\ah TE m 3 (Ga b (0+4))=some (YR x.sa):=by refine⟨?_,?_,?_⟩ <;>(rw[bF,aI h];rfl)
theorem Fa(hX:cd X)(a b:Int):C X (.func 181) [YR a,YR b] m m.n (.bool (dz a b)) m:=by
 refine Cl.fG hX (Kg func181) ?_;rw[aaf];dsimp only[δ,ε,η,ι,ξ,ς,υ,χ,ψ,Δ];have⟨x,e,h1,H,i0⟩:=lT a;have⟨y,f,h2,a0,j0⟩:=lT b;refine aG (nu hX a) ?_;rw[h1,aH,aH];simp only[zi,F9,ae];refine aw λm6 q0 k0 r0=>?_;refine aC tS k0 rfl rfl rfl λm7 s0 l0 u0=>?_;refine aG (nu hX b) ?_;rw[h2,aH,aH];simp only[zi,F9,ae];refine aw λm14 o0 b0 d0=>?_;refine aC tS b0 rfl rfl rfl λm15 p0 e0 g0=>?_;have g1:m15.get m.n=.cells x.c 298 none:=by rw[g0 _ (by omega),d0 _ (by omega)];exact l0
 have g2:m15.get m7.n=.cells y.c 298 none:=e0;have⟨x0,x1,x2⟩:=YV g1;have⟨y0,y1,y2⟩:=YV g2;unfold ptrTo;refine aZ (λvs mm lo=>vs=[.bool (dz a b)]/\m.n<=lo) (λR hR=>?_) ?_
 ·simp only[oC,oB,oA,ae,x0,x1,x2,y0,y1,y2,aS,cz,cI,aP,aj];refine an (λc1=>?_) (λc1=>hR _ _ _ ⟨by unfold dz;rw[i0 c1],by omega⟩);refine an (λc2=>?_) (λc2=>hR _ _ _ ⟨by unfold dz;rw[H c1,j0 c2],by omega⟩);have⟨s1,s2,s3⟩:=se (H c1);have⟨t1,t2,t3⟩:=se (a0 c2);have hS:dz a b=(decide (x.st<=y.st+1) && decide (y.po<=x.po+1) && decide (x.sa<=y.sa+1)):=by unfold dz;rw[H c1,a0 c2]
  rw[wrap64 (x:=y.st+1) (by omega) (by omega),wrap64 (x:=x.po+1) (by omega) (by omega),wrap64 (x:=y.sa+1) (by omega) (by omega)];refine an (λc3=>?_) (λc3=>hR _ _ _ ⟨by grind,by omega⟩);refine an (λc4=>?_) (λc4=>hR _ _ _ ⟨by grind,by omega⟩);exact hR _ _ _ ⟨by grind,by omega⟩
 rintro _ _ lo ⟨rfl,n0⟩;rw[aB];exact⟨rfl,n0⟩
theorem vu(hX:cd X)(a b:Int):C X (.func 183) [YR a,YR b] m m.n (.bool (cZ a b)) m:=by
 refine Cl.fG hX (Kg func183) ?_;rw[aad];dsimp only[δ,ε,η,ι,ξ,ς,υ,χ,ψ,Δ];have⟨x,e,h1,H,i0⟩:=lT a;have⟨y,f,h2,a0,j0⟩:=lT b;refine aG (nu hX a) ?_;rw[h1,aH,aH];simp only[zi,F9,ae];refine aw λm6 q0 k0 r0=>?_;refine aC tS k0 rfl rfl rfl λm7 s0 l0 u0=>?_;refine aG (nu hX b) ?_;rw[h2,aH,aH];simp only[zi,F9,ae];refine aw λm14 o0 b0 d0=>?_;refine aC tS b0 rfl rfl rfl λm15 p0 e0 g0=>?_;have g1:m15.get m.n=.cells x.c 298 none:=by rw[g0 _ (by omega),d0 _ (by omega)];exact l0
 have g2:m15.get m7.n=.cells y.c 298 none:=e0;have⟨x0,x1,x2⟩:=YV g1;have⟨y0,y1,y2⟩:=YV g2;unfold ptrTo;refine aZ (λvs mm lo=>vs=[.bool (cZ a b)]/\m.n<=lo) (λR hR=>?_) ?_
 ·simp only[oC,oB,oA,ae,x0,x1,x2,y0,y1,y2,aS,cz,cI,aP,aj];refine an (λc1=>?_) (λc1=>hR _ _ _ ⟨by unfold cZ;rw[i0 c1],by omega⟩);refine an (λc2=>?_) (λc2=>hR _ _ _ ⟨by unfold cZ;rw[H c1,j0 c2],by omega⟩);have⟨s1,s2,s3⟩:=se (H c1);have⟨t1,t2,t3⟩:=se (a0 c2);have hS:cZ a b=(decide (x.st<=y.st) && decide (y.po<=x.po) && decide (x.sa<=y.sa+1)):=by unfold cZ;rw[H c1,a0 c2]
  rw[wrap64 (x:=y.sa+1) (by omega) (by omega)];refine an (λc3=>?_) (λc3=>hR _ _ _ ⟨by grind,by omega⟩);refine an (λc4=>?_) (λc4=>hR _ _ _ ⟨by grind,by omega⟩);exact hR _ _ _ ⟨by grind,by omega⟩
 rintro _ _ lo ⟨rfl,n0⟩;rw[aB];exact⟨rfl,n0⟩
section
variable {α:Type} [aW α] {T:TypeId}
theorem Ap.wZ(hT:qH TE T α)(a0:aW.cT α=[]){n1:Nat}{l ys:List α}{v y:Φ}(h:Ap n1 m l v)(hy:Sl m ys y)(hn:n1<=m.n)(hs:l.length+ys.length<=1000000):
  ∃v' m1,av TE (m.wl m.n) .append [T,T] [v,y]=some (v',m1)/\Ap n1 m1 (l++ys) v'/\m.n<=m1.n/\n1<=m1.low/\∀c,c<n1->m1.get c=m.get c:=by
 by_cases H:ys=[]
 ·subst H;rcases h with h|⟨b,cs,te,rfl,h2,h3⟩;·obtain⟨v',m1,e1,ho,hf,hl,_⟩:=h.append hT (by grind) hy hn (by omega);exact⟨v',m1,e1,.inl ho,hf.n,hl,λc hc=>hf.get c hc⟩
  refine⟨_,m.wl m.n,append_nil hT (Ox _) (by grind) ?_,?_,Ox _,hn,λ_ _=>rfl⟩
  ·rcases hy with⟨rfl,_⟩|⟨b',o,c,bc,g,rfl,_⟩;·grind
   ·grind
  rw[Zu];exact .inr ⟨b,cs,te,rfl,h2,h3.aE Ext.refl.wl⟩
 have⟨v',m1,e1,ho,h1,h2,h3⟩:=h.append hT a0 hy H hn hs;exact⟨v',m1,e1,.inl ho,h1,h2,h3⟩
theorem Ap.Za{n1 b:Nat}{g:Option Nat}(h:m.get b=.cells [] (aW.ty α) none):Ap n1 m ([]:List α) (KI b 0 0 0):=
 .inr ⟨b,[],_,rfl,h,.inr ⟨b,0,0,[],none,rfl,h,by simp,by grind⟩⟩
end
theorem HT{b:Nat}{x:UW}(h:m.get b=.cells x.c 60 none)(h1:one x.w)(H:Sl m x.u.shape x.w)(hl:x.u.shape.length<1000000):cP m [x] (KI b 0 1 1):=
 ⟨gU h ⟨rfl,h1⟩,by grind,by grind,.inr ⟨b,0,1,_,none,rfl,Ox _,h,.inl rfl⟩⟩
section
variable {b:Nat} {x:KW} {g:Option Nat}
theorem EJ(h:m.get b=.cells x.c 113 g):ah TE m 3 (Ga b (0+0+0))=some (YR x.u.id)/\ah TE m 60 (Ga b (0+0))=some (x.u.v x.w)/\ah TE m 31 (Ga b (0+6))=some x.mv/\ah TE m 113 (Ga b 0)=some x.v:=by
 refine⟨?_,?_,?_,?_⟩;·rw[bF,aI h];rfl
 ·rw[nF,aQ (n:=6) h (by simp_all)];rfl
 ·rw[ki,aI h];rfl
 rw[DS,aQ (n:=7) h (by simp_all)];rfl
end
theorem NJ{l:List Mk}{v:Φ}(h:Sl m l v){i:Nat}{x:Mk}(H:l[i]?=some x):∃b o,ak TE 31 v (YR i)=some (Ga b o)/\ah TE m 3 (Ga b (o+0))=some (YR x.id):=by have⟨b,o,bc,g,cs,e1,hb,hr,hle,hj⟩:=h.fa dv (k:=.i64) H;obtain rfl:cs=x.c:=hr;refine⟨b,o,e1,?_⟩;rw[bF,aI hb];exact hj 0 (by show 0<5;decide)
theorem qq{b:Nat}{x:Fc}{g:Option Nat}(h:m.get b=.cells x.c 53 g):ah TE m 3 (Ga b (0+0))=some (YR x.un)/\ah TE m 3 (Ga b (0+1))=some (YR x.side)/\ah TE m 53 (Ga b 0)=some x.v:=by
 refine⟨?_,?_,?_⟩;·rw[bF,aI h];rfl
 ·rw[bF,aI h];rfl
 rw[sU,aQ (n:=2) h (by grind)];rfl
theorem NI{b:Nat}{x:Mo}{g:Option Nat}(h:m.get b=.cells x.c 109 g):ah TE m 3 (Ga b (0+0))=some (YR x.a)/\ah TE m 3 (Ga b (0+1))=some (YR x.b)/\ah TE m 3 (Ga b (0+2))=some (YR x.du)/\ah TE m 109 (Ga b 0)=some x.v:=by
 refine⟨?_,?_,?_,?_⟩;·rw[bF,aI h];rfl
 ·rw[bF,aI h];rfl
 ·rw[bF,aI h];rfl
 rw[DT,aQ (n:=3) h (by grind)];rfl
theorem Au{l:List Mo}{v:Φ}(h:Sl m l v){i:Nat}{x:Mo}(hx:l[i]?=some x):∃b o,ak TE 36 v (YR i)=some (Ga b o)/\ah TE m 109 (Ga b o)=some x.v/\
  ah TE m 3 (Ga b (o+0))=some (YR x.a)/\ah TE m 3 (Ga b (o+1))=some (YR x.b):=by
 have⟨b,o,bc,g,cs,e1,hb,hr,hle,hj⟩:=h.fa jH (k:=.i64) hx;obtain rfl:cs=x.c:=hr;refine⟨b,o,e1,?_,?_,?_⟩;·have⟨p,H,e2,e3,e4⟩:=h.index jH (k:=.i64) hx;obtain rfl:p=Ga b o:=Option.some.inj (e2.symm.trans e1);obtain rfl:H=x.c:=e4;exact e3
 ·rw[bF,aI hb];exact hj 0 (by show 0<3;decide)
 rw[bF,aI hb];exact hj 1 (by show 1<3;decide)
set_option maxHeartbeats 1000000 in
theorem EV(hX:cd X){y:Yd}{r r2 st rc mo:Φ}(hV:lR m y r r2 st rc mo)(hP:qG y):C X (.func 131) [yv r r2 st rc mo] m m.n Ku m:=by
 have H4:=hV.dS;have⟨⟨l,G1,hF⟩,i3,⟨kl,j3,hK⟩,k3,l3⟩:=hV;have j4:l.length<=12:=by have:=hP.qE.len;rwa[<-G1,cx]at this
 have k4:kl.length<=12:=by have:=hP.Qq;rwa[<-j3,qn]at this
 have m3:=hP.Jf;have l4:=hP.Ss;have m4:=hP.SF;refine Cl.fG hX (Kg func131) ?_;rw[aaH];dsimp only[δ,ε,ζ,η,θ,ι,κ,ν,ξ,ο,ρ,ς,υ,χ,ψ,Γ,Δ,ω];refine aw λm1 J4 n3 o3=>?_;have g1:m1.get m.n=.cells (yc r r2 st rc mo) 38 none:=n3;have I0:Ext m m1:=⟨by omega,o3⟩
 have d2:=hF.aE I0;have J0:=i3.aE I0;have l1:=hK.aE I0;have B1:=k3.aE I0;have C1:=l3.aE I0;obtain⟨y0,y1,y2,y3, -⟩:=dW g1;unfold ptrTo;simp only[cF,dG,dF,eV,cB,ae];have n4:y.ms.length<=20:=hP.BN.len;refine aZ (λvs mm lo=>vs=[Zf]/\m1=mm/\m.n<=lo) (λQ hQ=>?_) ?_
 ·rw[y0,ae];refine aG (kT hX d2 (by omega) J0 (by omega)) ?_;rw[G1,fC hP.qE,fV.2 hP.BN,bk,ae,aj];show gH false _ _;rw[aN,y1,ae,l1.sl.len eM,az,bP,ae,aj,tx,aN,y2,ae,B1.len dA,az,bP,ae,aj,tx,aN,y3,ae,C1.len jH,az,bP,ae,tx];exact hQ _ _ _ ⟨rfl,rfl,by omega⟩
 rintro _ _ r3 ⟨rfl,rfl,o4⟩;rw[aB,aj,aN,iG,az];obtain⟨m5,K0⟩:∃x,x=m1.push (.cells [] 137 none):=⟨_,rfl⟩
 rw[<-K0];have K4:m5.n=m1.n+1:=by rw[K0];exact M.iQ
 have v3:m5.get m1.n=.cells [] 137 none:=by rw[K0];exact M.aX
 have H1:Ext m1 m5:=K0 ▸ Ext.refl.push;clear K0;rw[(xB (H1.cells g1)).2.2,ae];obtain⟨v31,m32,q1,q2,q3,q4,q5⟩:=(Ap.Za (n1:=m1.n) (g:=none) v3).wZ vd rfl (J0.aE H1) (by omega) (by grind);rw[q1,az];rw[Zi]at q2;have D1:m.n<=min r3 m32.low:=by omega
 have g2:Ext m1 m32:=⟨by omega,λc hc=>by rw[q5 c hc,H1.get c hc]⟩
 clear q1 q4 q5;refine Lp.intro (γ:=Nat) (λi=>kl.length-i) (λi vs mm lo=>∃z v,vs=[z,v,.int .i64 i]/\i<=kl.length/\Ext m1 mm/\m.n<=lo/\Ap m1.n mm (y.ms++(y.st.take i).flatMap Kp.ms) v) 0 ⟨_,_,rfl,ZE _,g2,D1,by grind⟩ ?_;rintro i vs mm lo ⟨z,v,rfl,hi,n0,a0,I1⟩;have nm:=n0.n;obtain⟨z0,z1,z2,z3, -⟩:=dW (n0.cells g1);have i2:=l1.aE n0;rw[aB,aB,aB,z1,ae,i2.sl.len eM,az,aM,ae,aj];refine an (λd0=>?_) (λJ1=>?_)
 ·have d0:i < kl.length:=by grind
  obtain⟨x,hx⟩:∃x,kl[i]?=some x:=⟨_,Fx d0⟩
  have G0:=LZ hx;have L0:y.st[i]?=some x.k:=by grind
  have N0:=LZ L0;have⟨b,o,e1,e2,e3,o1,o2⟩:=Az i2.sl hx;rw[ae,e1,ae,e3,ae];refine aw λL4 r4 l2 u4=>?_;refine aC Bj l2 rfl rfl (KW.cH o1 o2) λr1 v4 m2 w4=>?_;have v1:r1.get mm.n=.cells x.c 113 none:=m2;have g0:Ext mm r1:=⟨by omega,by grind⟩
  have n52:=g0.n;obtain⟨w0,w1,w2,w3, -⟩:=dW ((n0.trans g0).cells g1);obtain⟨k0,k1,k2, -⟩:=EJ v1;rw[w0,ae,bW,ae,bz,ae,k0,ae]
  have v2:ck (bM l) x.u.id=none:=by rw[G1];exact rH λu hu=>hP.off _ N0 u hu
  have A2:=d2.aE (n0.trans g0);obtain⟨rv,N4,A3,B2,f60⟩:=iW (m:=r1) hX A2 (by omega) (J0.one) x.u.id;refine aG A3 ?_;unfold fJ at f60;rw[v2]at f60;dsimp only at f60;subst f60;rw[aH,aH];simp only[zi,F9,ae];have n60:=B2.n;refine aw λm64 y4 C2 D2=>?_;refine aC dm C2 rfl rfl rfl λe0 z4 A4 E2=>?_;have i0:Ext r1 e0:=⟨by omega,λc hc=>by rw[E2 c (by omega),D2 c (by omega),B2.get c hc]⟩
  have p0:=n0.trans (g0.trans i0);obtain⟨k0,k1,k2, -⟩:=EJ (i0.cells v1);have E1:=l1.aE p0
  have s0:∀{R:Bt->M->Nat->Prop} {H:Nat},(∀H0 H,Ext e0 H0->m.n<=H->R [Zf] H0 H)->m.n<=H->
    ai (ah TE e0 60 (.pointer (some ⟨mm.n,0+0,none⟩))) λB3=>(aO (aF TE e0 28 1 [(0,B3)]) λC3 O0=>(ai (aJ TE 30 [(0,C3)]) λD3=>(ai (af TE 113 (.pointer (some ⟨mm.n,0,none⟩)) 1) λF2=>(ai (ah TE O0 31 F2) λG2=>(ai (aJ TE 33 [(0,D3),(1,G2)]) λH2=>(bs TE X (.func 176) [H2] O0 λI2 J2 K2=>(ai (cU .not I2) λL2=>(R [L2] J2 (min H K2))))))))):=by
   intro R H hR v0
   rw[k1,ae,show(x.u.v x.w)=UW.v ⟨x.u,x.w⟩from rfl,BE,az]
   obtain⟨O0,P0⟩:∃q,q=e0.push (.cells (UW.c ⟨x.u,x.w⟩) 60 none):=⟨_,rfl⟩
   rw[<-P0]
   have A0:Ext e0 O0:=P0 ▸ Ext.refl.push
   have M2:O0.get e0.n=.cells (UW.c ⟨x.u,x.w⟩) 60 none:=by rw[P0];exact M.aX
   have j0:=E1.aE A0
   obtain⟨-, -,j2, -⟩:=EJ ((i0.trans A0).cells v1)
   rw[zl rfl,ae,cO,ae,j2,ae]
   rw[show aJ TE 33 [(0,.agg (cells (Value.slice (some ⟨e0.n,0,none⟩) 1 1)).toArray),(1,x.mv)]=some (.agg #[.slice (some ⟨e0.n,0,none⟩) 1 1,x.mv]) by rw[nR rfl (by rw[(j0.mv x G0).cells];rfl),(j0.mv x G0).cells];rfl,ae]
   have N2:=HT M2 o1 (j0.sh x G0) (j0.ln x G0)
   have O2:=hP.FO _ N0
   have E3:x.ms.length<=20:=O2.len
   refine aG (kT hX N2 (by simp) (j0.mv x G0) (by omega)) ?_
   rw[show bM [(⟨x.u,x.w⟩:UW)]=[x.u]from rfl,fC (hP.NY _ N0),fV.2 O2,bk,ae]
   exact hR _ _ A0 (by have:=A0.n;omega)
  refine aZ (λvs H0 H=>vs=[Zf]/\Ext e0 H0/\m.n<=H) (λQ hQ=>?_) ?_
  ·rw[aj,aN,bP,ae,aj];simp only[bW,bz,ae];refine an (λc=>?_) (λc=>s0 (λH0 H h1 h2=>hQ _ _ _ ⟨rfl,h1,h2⟩) (by omega));obtain⟨j,rfl⟩:∃j,i=j+1:=⟨i-1,by grind⟩
   obtain⟨x',q0⟩:∃x',kl[j]?=some x':=⟨_,qp⟩
   obtain⟨b',o',r0,K1, -⟩:=Az E1.sl q0;obtain⟨u0,u1,u2,u3, -⟩:=dW (p0.cells g1)
   have B4:x'.u.id < x.u.id:=by
    have hj:y.st[j]?=some x'.k:=by grind
    have h1:=OJ.1 hj;have h2:=OJ.1 L0;have:=Px.1 hP.tP j (j+1) h1.1 h2.1 (by omega);rwa[h1.2,h2.2]at this
   rw[k0,ae,u1,ae,dt,ae,wrap64,show((j+1:Nat):Int)-1=(j:Int) by omega,r0,ae,bW,ae,bz,ae,K1,ae,cz,ae,aj,tx,aN];exact s0 (λH0 H h1 h2=>hQ _ _ _ ⟨rfl,h1,h2⟩) (by omega)
  rintro _ O4 C4 ⟨rfl,B0,G3⟩;have n69:=B0.n;rw[aB,aj,aN,cO,ae];obtain⟨-, -,j2, -⟩:=EJ ((i0.trans B0).cells v1);rw[j2,ae];have a1:=p0.trans B0;have P2:=l1.aE a1
  have Q2:(y.ms++(y.st.take i).flatMap Kp.ms).length+x.ms.length<=20:=by
   have e:allM y.ms y.st=(y.ms++(y.st.take i).flatMap Kp.ms)++(x.ms++(y.st.drop (i+1)).flatMap Kp.ms):=by
    unfold allM;conv=>lhs;rw[<-Gw i y.st]
    rw[rJ,JK (OJ.1 L0).1,Fw,(OJ.1 L0).2];simp
   grind
  obtain⟨T2,D4,p1,p2,p3,p4,p5⟩:=(I1.aE ((g0.trans i0).trans B0)).wZ vd rfl (P2.mv x G0) (by omega) (by omega);rw[p1,az,aP,ae,wrap64];refine⟨i+1,by omega,z,T2,rfl,by omega,⟨by omega,λc hc=>by rw[p5 c hc,a1.get c hc]⟩,by omega,?_⟩;rw[Q1,L0,rJ,<-WO];simpa using p2
 have H3:i=y.st.length:=by
  grind
 subst H3;rw[V9]at I1;have A1:=I1.sl;obtain⟨A,hA⟩:∃A,A=y.ms++y.st.flatMap Kp.ms:=⟨_,rfl⟩
 rw[<-hA]at A1;have Q2:A.length<=20:=by rw[hA];exact m3
 have I3:∀{i j:Nat} {a b:Mk},j < i->A[i]?=some a->A[j]?=some b->a.id≠b.id:=by
  intro i j a b J3 ha hb e
  have h1:=OJ.1 ha
  have h2:=OJ.1 hb
  have hn:=hP.Y8
  unfold allM at hn
  rw[<-hA,List.Nodup,Te]at hn
  have:=Px.1 hn j i h2.1 h1.1 J3
  grind
 refine Lp.intro (γ:=Nat) (λi=>A.length-i) (λi vs m' lo=>∃z,vs=[z,.int .i64 i]/\i<=A.length/\mm=m'/\m.n<=lo) 0 ⟨_,rfl,ZE _,rfl,a0⟩ ?_;rintro i _ _ lo ⟨z,rfl,hi,rfl,a0⟩;rw[aB,aB,A1.len dv,az,aM,ae,aj];refine an (λd0=>?_) (λJ1=>?_)
 ·have d0:i < A.length:=by grind
  obtain⟨a,ha⟩:∃a,A[i]?=some a:=⟨_,Fx d0⟩
  have⟨b0,o0,ea,la⟩:=NJ A1 ha;refine Lp.intro (γ:=Nat) (λk=>i-k) (λk vs m' lo=>∃z,vs=[z,.int .i64 k]/\k<=i/\mm=m'/\m.n<=lo) 0 ⟨_,rfl,ZE _,rfl,a0⟩ ?_;rintro k _ _ lo ⟨z,rfl,hk,rfl,a0⟩;rw[aB,aB,aM,ae,aj];refine an (λF1=>?_) (λE4=>?_)
  ·have F1:k < i:=by grind
   obtain⟨c,hc⟩:∃c,A[k]?=some c:=⟨_,qp⟩
   have⟨b1,o1,ec,lc⟩:=NJ A1 hc;rw[ea,ae,bX,ae,la,ae,ec,ae,bX,ae,lc,ae,aS,ae,aj,Dh (I3 F1 ha hc),aN,aP,ae,wrap64];exact⟨k+1,by omega,z,by grind,by omega,rfl,a0⟩
  rw[aP,ae,wrap64];exact⟨i+1,by omega,z,by grind,by omega,rfl,a0⟩
 rw[az,bP,ae,aj,tx,aN];refine Lp.intro (γ:=Nat) (λi=>y.rc.length-i) (λi vs m' lo=>∃z,vs=[z,.int .i64 i]/\i<=y.rc.length/\Ext m1 m'/\m.n<=lo) 0 ⟨_,rfl,ZE _,n0,a0⟩ ?_;rintro j _ a3 lo ⟨z,rfl,hj,l0,a0⟩;have L1:=B1.aE l0;obtain⟨-, -,u2, -, -⟩:=dW (l0.cells g1);have R4:=l0.n;rw[aB,aB,u2,ae,L1.len dA,az,aM,ae,aj];refine an (λd0=>?_) (λJ1=>?_)
 ·have d0:j < y.rc.length:=by grind
  obtain⟨x,hx⟩:∃x,y.rc[j]?=some x:=⟨_,Fx d0⟩
  have⟨p,e1,e2⟩:=lZ L1 hx;have⟨⟨b1,b2⟩,b3,b4⟩:=hP.M5 x (LZ hx);rw[ae,e1,ae,e2,ae];refine aw λF4 K3 N1 L3=>?_;refine aC qI N1 rfl rfl rfl λc1 N3 O1 O3=>?_;have c3:c1.get a3.n=.cells x.c 53 none:=O1;have d1:Ext a3 c1:=⟨by omega,by grind⟩
  have⟨f0,f1,fv⟩:=qq c3;have C0:=l0.trans d1;simp only[cW,dj,ae];refine aZ (λvs m' H=>vs=[Zf]/\c1=m'/\m.n<=H) (λQ hQ=>?_) ?_
  ·rw[f0,ae];refine aG (iF hX _ _ _) ?_;rw[show cR x.un 0 99=true by unfold cR;simp;omega,bk,ae,aj];show gH false _ _;rw[aN,f1,ae];refine aG (iF hX _ _ _) ?_;rw[show cR x.side (-2) 7=true by unfold cR;simp;omega,bk,ae,aj];show gH false _ _;rw[aN,bP,ae,aj];refine an (λc=>?_) (λc=>hQ _ _ _ ⟨rfl,rfl,by omega⟩);obtain⟨q,rfl⟩:∃q,j=q+1:=⟨j-1,by grind⟩
   obtain⟨x',q0⟩:∃x',y.rc[q]?=some x':=⟨_,qp⟩
   have P1:=L1.aE d1;have⟨p',r0,K1⟩:=lZ P1 q0;obtain⟨-, -,a4, -, -⟩:=dW (C0.cells g1)
   have i1:gZ x' x:=by have h1:=OJ.1 q0;have h2:=OJ.1 hx;have:=Px.1 hP.Dq q (q+1) h1.1 h2.1 (by omega);rwa[h1.2,h2.2]at this
   rw[a4,ae,dt,ae,wrap64,show((q+1:Nat):Int)-1=(q:Int) by omega,r0,ae,K1,ae,fv,ae];refine aG (vR hX _ _) ?_;rw[IH i1,bk,ae];exact hQ _ _ _ ⟨rfl,rfl,by omega⟩
  rintro _ _ H ⟨rfl,rfl,v0⟩;rw[aB,aj,aN,aP,ae,wrap64];exact⟨j+1,by omega,z,by grind,by omega,C0,v0⟩
 refine Lp.intro (γ:=Nat) (λi=>y.mo.length-i) (λi vs m' lo=>∃z,vs=[z,.int .i64 i]/\i<=y.mo.length/\Ext m1 m'/\m.n<=lo) 0 ⟨_,rfl,ZE _,l0,a0⟩ ?_;rintro j _ d3 lo ⟨z,rfl,hj,D0,a0⟩;have T1:=C1.aE D0;obtain⟨-, -, -,u3, -⟩:=dW (D0.cells g1);have W4:=D0.n;rw[aB,aB,u3,ae,T1.len jH,az,aM,ae,aj];refine an (λd0=>?_) (λJ1=>⟨rfl,a0⟩);have d0:j < y.mo.length:=by grind
 obtain⟨x,hx⟩:∃x,y.mo[j]?=some x:=⟨_,Fx d0⟩
 obtain⟨p,o,e1,e2, -, -⟩:=Au T1 hx;have⟨b1,b2,b3,b4,b5⟩:=hP.NH x (LZ hx);rw[ae,e1,ae,e2,ae];refine aw λG4 c4 a2 d4=>?_;refine aC Bk a2 rfl rfl rfl λE0 e4 c2 f4=>?_;have g3:E0.get d3.n=.cells x.c 109 none:=c2;have j1:Ext d3 E0:=⟨by omega,by grind⟩
 obtain⟨f0,f1,f2, -⟩:=NI g3;have F0:=D0.trans j1;obtain⟨-, -, -,g4, -⟩:=dW (F0.cells g1);simp only[dO,eF,oG,ae];refine aZ (λvs m' H=>vs=[Zf]/\E0=m'/\m.n<=H) (λQ hQ=>?_) ?_
 ·rw[f0,ae];refine aG (iF hX _ _ _) ?_;rw[show cR x.a 0 99=true by unfold cR;simp;omega,bk,ae,aj];show gH false _ _;rw[aN,f1,ae];refine aG (iF hX _ _ _) ?_;rw[show cR x.b 0 99=true by unfold cR;simp;omega,bk,ae,aj];show gH false _ _;rw[aN,f0,ae,f1,ae,cI,ae,aj,tx,aN,f2,ae];refine aG (iF hX _ _ _) ?_;rw[show cR x.du 0 7=true by unfold cR;simp;omega,bk,ae];exact hQ _ _ _ ⟨rfl,rfl,by omega⟩
 rintro _ _ a5 ⟨rfl,rfl,D1⟩;rw[aB,aj,aN];refine aZ (λvs m' H=>vs=[Zf]/\E0=m'/\m.n<=H) (λQ hQ=>?_) ?_
 ·rw[bP,ae,aj];refine an (λc=>?_) (λc=>hQ _ _ _ ⟨rfl,rfl,by omega⟩);obtain⟨q,rfl⟩:∃q,j=q+1:=⟨j-1,by grind⟩
  obtain⟨x',q0⟩:∃x',y.mo[q]?=some x':=⟨_,qp⟩
  obtain⟨b',o',r0, -,h3,h4⟩:=Au (T1.aE j1) q0
  have i1:lP x' x:=by have h1:=OJ.1 q0;have h2:=OJ.1 hx;have:=Px.1 hP.DJ q (q+1) h1.1 h2.1 (by omega);rwa[h1.2,h2.2]at this
  unfold lP at i1;rw[f0,ae,g4,ae,dt,ae,wrap64,show((q+1:Nat):Int)-1=(q:Int) by omega,r0,ae,dO,ae,h3,ae,aM,ae,aj,tx,aN];rw[ae,ae,ae,r0,ae,dO,ae,h3,ae,aS,ae,aj];refine an (λc=>?_) (λc=>hQ _ _ _ ⟨rfl,rfl,by omega⟩);have c:=NT c;rw[f1,ae,ae,ae,r0,ae,eF,ae,h4,ae,cz,ae,tx];exact hQ _ _ _ ⟨rfl,rfl,by omega⟩
 rintro _ _ H ⟨rfl,rfl,v0⟩;rw[aB,aj,aN,aP,ae,wrap64];exact⟨j+1,by omega,z,by grind,by omega,F0,v0⟩
end
section
section
variable {X:aK}{x0 x1:Φ}{m:M}{R:Bt->M->Nat->Prop}{W:Words}
theorem aaE:dk TE (aL TE X) f134 [x0,x1] m R=ρ m x0 33 λa=>ς a [YM,YM] 33 λb=>δ b 33 (υ m) λc=>ψ X 176 [c] b λb c d=>ο .not b λb=>aR b (θ 33 [] λb=>ι c 33 (υ a) b λb c=>ai (ah TE b 33 (υ a)) λa=>R [a,χ 0,χ 170] b (ω m.n d c)) (δ c 33 (υ m) λb=>ψ X 184 [b] c λb c f=>ς c [YM,YM] 33 λg=>ι g 33 (υ c) b λb g=>Lp (λb d f g=>un d λd h=>un h λh i=>un i λi _=>κ f .len [146] [x1] λj _=>η .lss 3 i j λj=>aR j (η .geq 3 i (χ 40) λj=>aR j (θ 33 [] λb=>ι f 33 (υ a) b λb c=>ai (ah TE b 33 (υ a)) λa=>R [a,i,χ 170] b (min g c)) (δ f 33 (υ c) λj=>ζ 146 x1 i λk=>δ f 184 k λk=>ψ X 185 [j,k] f λj k l=>(f.n<=l)/\(ξ j 0 λf=>ξ j 1 λj=>ς k [YM,YM] 33 λn=>ι n 33 (υ k) f λf n=>η .neq 46 j (χ 0) λj=>aR j (θ 33 [] λb=>ι f 33 (υ a) b λb c=>ai (ah TE b 33 (υ a)) λa=>R [a,i,χ 170] b (Γ g l n c)) (δ f 33 (υ k) λa=>ι f 33 (υ c) a λa c=>η .add 3 i (χ 1) λf=>b [d,h,f] a (Γ g l n c))))) (δ f 33 (υ c) λb=>κ f .len [146] [x1] λc _=>ι f 33 (υ a) b λb d=>ai (ah TE b 33 (υ a)) λa=>R [a,c,χ 0] b (min g d))) [χ 0,χ 0,χ 0] b (Γ m.n d f g)):=by kernel_rfl
theorem aaF:dk TE W f133 [x0,x1] m R=JA W m x0 38 λa=>JA W a x1 62 λb=>Wo W 38 (IJ m) 0 λc=>Fm W b 33 c λc=>Wo W 62 (IJ a) 2 λd=>Fm W b 3 d λd=>RI W 71 [c,d] b λb c d=>JW W b 0 λf=>JW W b 1 λb=>Wb W c [Nn 0,Nn 0,Nn 0,YM,Nn 0,Nn 0] 60 λg=>ZC W g 60 (IJ c) f λf g=>Wo W 62 (IJ a) 0 λh=>Fm W f 3 h λh=>LH W .eql 3 h (Nn 1) λi=>aR i (Wo W 62 (IJ a) 1 λb=>Fm W f 60 b λb=>RW W 184 [(0,(Nn 1)),(1,b)] λb=>Oq W f 146 1 [(0,b)] λb c=>Fm W c 38 (IJ m) λf=>Wo W 62 (IJ a) 1 λa=>Wo W 60 a 0 λa=>Fm W c 3 a λa=>RI W 180 [f,a] c λa f h=>(c.n<=h)/\(LH W .lss 3 a (Nn 0) λa=>R [b,a] f (Γ m.n d g h))) (LH W .eql 3 h (Nn 2) λi=>aR i (W.jn (λc=>Wo W 62 (IJ a) 2 λa=>Fm W f 3 a λa=>RW W 184 [(0,(Nn 2)),(2,a)] λa=>Oq W f 146 1 [(0,a)] λa f=>aR b (Wo W 38 (IJ m) 1 λb=>Fm W f 34 b λb=>Ke W f .len [34] [b] λb _=>LH W .lss 3 b (Nn 12) λb=>c [a,b] f (ω m.n d g)) (c [a,Zf] f (ω m.n d g))) (λa b c=>W.un a λa d=>W.un d λd _=>R [a,d] b c)) (LH W .eql 3 h (Nn 3) λi=>aR i (Fm W f 38 (IJ m) λb=>Wo W 62 (IJ a) 2 λa=>Fm W f 3 a λa=>RI W 180 [b,a] f λa b c=>LH W .lss 3 a (Nn 0) λf=>aR f (R [YM,Zf] b (Γ m.n d g c)) (Wo W 38 (IJ m) 1 λf=>Fm W b 34 f λf=>Zt W 34 f a λf=>Wo W 113 f 0 λf=>Fm W b 60 f λf=>RW W 184 [(0,(Nn 1)),(1,f)] λf=>Oq W b 146 1 [(0,f)] λb f=>W.Lp (λb c d f=>W.un c λc g=>W.un g λg _=>Wo W 38 (IJ m) 1 λh=>Fm W d 34 h λh=>Zt W 34 h a λh=>Wo W 113 h 1 λh=>Fm W d 31 h λh=>Ke W d .len [31] [h] λh _=>LH W .lss 3 g h λh=>aR h (Wo W 38 (IJ m) 1 λh=>Fm W d 34 h λh=>Zt W 34 h a λa=>Wo W 113 a 1 λa=>Fm W d 31 a λa=>Zt W 31 a g λa=>Fm W d 137 a λa=>RW W 184 [(0,(Nn 5)),(5,a)] λa=>Oq W d 146 1 [(0,a)] λa d=>Ke W (M.wl d d.n) .append [146,146] [c,a] λa c=>LH W .add 3 g (Nn 1) λd=>b [a,d] c (min f (M.low c))) (R [c,Ku] d f)) [b,Nn 0] f (Γ m.n d g c))) (LH W .eql 3 h (Nn 4) λi=>aR i (W.Lp (λd f g h=>W.un f λf i=>W.un i λi j=>W.un j λj _=>Wo W 38 (IJ m) 0 λk=>Wo W 33 k 0 λk=>Wo W 30 k 0 λk=>Fm W g 28 k λk=>Ke W g .len [28] [k] λk _=>LH W .lss 3 j k λk=>aR k (Wo W 38 (IJ m) 0 λk=>Wo W 33 k 0 λk=>Wo W 30 k 0 λk=>Fm W g 28 k λk=>Zt W 28 k j λk=>Fm W g 60 k λk=>Wb W g [Nn 0,Nn 0,Nn 0,YM,Nn 0,Nn 0] 60 λl=>ZC W l 60 (IJ g) k λk l=>Fm W k 60 (IJ c) λc=>Fm W k 60 (IJ g) λn=>RI W 130 [c,n] k λc k n=>JW W c 0 λo=>JW W c 1 λc=>Wb W k [Nn 0,Nn 0,Nn 0,Nn 0,Nn 0,Nn 0,Nn 0,Nn 0] 145 λp=>ZC W p 145 (IJ k) o λk o=>W.jn (λd=>aR b (aR c (Wo W 62 (IJ a) 5 λa=>Fm W k 3 a λa=>Wo W 60 (IJ g) 2 λb=>Fm W k 3 b λb=>RI W 181 [a,b] k λa b c=>Qt W .not a λa=>d [a] b (Δ h l n o c)) (d [Zf] k (Γ h l n o))) (d [Zf] k (Γ h l n o))) (λa b c=>W.un a λa _=>aR a (R [YM,Zf] b c) (LH W .add 3 j (Nn 1) λa=>d [f,i,a] b c))) (Wo W 62 (IJ a) 5 λd=>Fm W g 3 d λd=>Wo W 60 (IJ c) 2 λf=>ZC W g 3 f d λd f=>Wo W 62 (IJ a) 2 λa=>Fm W d 3 a λa=>RW W 184 [(0,(Nn 2)),(2,a)] λa=>Fm W d 60 (IJ c) λc=>RW W 184 [(0,(Nn 1)),(1,c)] λc=>Oq W d 146 2 [(0,a),(1,c)] λa c=>R [a,b] c (min h f))) [YM,Zf,Nn 0] f (ω m.n d g)) (LH W .eql 3 h (Nn 5) λi=>aR i (W.Lp (λb c d f=>W.un c λc g=>W.un g λg _=>Wo W 38 (IJ m) 0 λh=>Wo W 33 h 1 λh=>Fm W d 31 h λh=>Ke W d .len [31] [h] λh _=>LH W .lss 3 g h λh=>aR h (W.jn (λb=>Wo W 38 (IJ m) 0 λh=>Wo W 33 h 1 λh=>Fm W d 31 h λh=>Zt W 31 h g λg=>Fm W d 137 g λg=>Wb W d [Nn 0,Nn 0,Nn 0,Nn 0,Zf] 137 λh=>ZC W h 137 (IJ d) g λg h=>W.jn (λb=>Wo W 137 (IJ d) 1 λc=>Fm W g 3 c λc=>Wo W 62 (IJ a) 2 λi=>Fm W g 3 i λi=>LH W .eql 3 c i λc=>aR c (Wo W 137 (IJ d) 2 λc=>Fm W g 3 c λc=>Wo W 62 (IJ a) 4 λa=>Fm W g 3 a λa=>LH W .eql 3 c a λa=>aR a (Wo W 137 (IJ d) 4 λa=>Fm W g 4 a λa=>aR a (Wo W 137 (IJ d) 3 λa=>Fm W g 3 a λa=>LH W .eql 3 a (Nn 1) λa=>aR a (b [Ku] g (min f h)) (Wo W 137 (IJ d) 3 λa=>Fm W g 3 a λa=>LH W .eql 3 a (Nn 4) λa=>aR a (b [Ku] g (min f h)) (Wo W 137 (IJ d) 3 λa=>Fm W g 3 a λa=>LH W .eql 3 a (Nn 5) λa=>b [a] g (min f h)))) (b [Zf] g (min f h))) (b [Zf] g (min f h))) (b [Zf] g (min f h))) (λa f g=>W.un a λa _=>aR a (Wo W 137 (IJ d) 0 λa=>Fm W f 3 a λa=>RW W 184 [(0,(Nn 6)),(2,a)] λa=>Oq W f 146 1 [(0,a)] λa d=>Ke W (M.wl d d.n) .append [146,146] [c,a] λa c=>b [a] c (min g (M.low c))) (b [c] f g))) (λa c d=>W.un a λa _=>LH W .add 3 g (Nn 1) λf=>b [a,f] c d)) (Wo W 38 (IJ m) 0 λb=>Fm W d 33 b λb=>Wo W 62 (IJ a) 2 λg=>Fm W d 3 g λg=>Wo W 62 (IJ a) 4 λa=>Fm W d 3 a λa=>RI W 182 [b,g,a] d λa b d=>R [c,a] b (min f d))) [YM,Nn 0] f (ω m.n d g)) (LH W .eql 3 h (Nn 6) λi=>aR i (Wo W 62 (IJ a) 2 λa=>Fm W f 3 a λa=>RW W 184 [(0,(Nn 7)),(2,a)] λa=>Oq W f 146 1 [(0,a)] λa b=>R [a,Ku] b (ω m.n d g)) (LH W .eql 3 h (Nn 7) λi=>aR i (Wo W 62 (IJ a) 2 λa=>Fm W f 3 a λa=>RW W 184 [(0,(Nn 6)),(2,a)] λa=>Oq W f 146 1 [(0,a)] λa b=>R [a,Ku] b (ω m.n d g)) (LH W .eql 3 h (Nn 8) λh=>aR h (Wo W 62 (IJ a) 2 λb=>Fm W f 3 b λb=>Wo W 62 (IJ a) 4 λc=>Fm W f 3 c λc=>RW W 53 [(0,b),(1,c)] λb=>Wb W f [Nn 0,Nn 0] 53 λc=>ZC W c 53 (IJ f) b λb c=>W.jn (λh=>Wo W 38 (IJ m) 0 λi=>Fm W b 33 i λi=>Wo W 62 (IJ a) 2 λj=>Fm W b 3 j λj=>Wo W 62 (IJ a) 4 λa=>Fm W b 3 a λa=>RI W 182 [i,j,a] b λa b i=>aR a (Wo W 38 (IJ m) 2 λa=>Fm W b 35 a λa=>Ke W b .len [35] [a] λa _=>LH W .lss 3 a (Nn 60) λa=>aR a (h [YM,Ku] b (Δ m.n d g c i)) (Fm W b 38 (IJ m) λa=>Fm W b 53 (IJ f) λf=>RI W 72 [a,f] b λa b f=>h [YM,a] b (Θ m.n d g c i f))) (h [YM,Zf] b (Δ m.n d g c i))) (λa b c=>W.un a λa d=>W.un d λd _=>R [a,d] b c)) (Wo W 38 (IJ m) 0 λh=>Fm W f 33 h λh=>Wo W 62 (IJ a) 3 λi=>Fm W f 3 i λi=>RI W 71 [h,i] f λf h i=>JW W f 0 λj=>JW W f 1 λf=>Wb W h [Nn 0,Nn 0,Nn 0,YM,Nn 0,Nn 0] 60 λk=>ZC W k 60 (IJ h) j λj k=>Fm W j 60 (IJ c) λl=>Fm W j 60 (IJ h) λn=>RI W 130 [l,n] j λj l n=>JW W j 0 λo=>JW W j 1 λj=>Wb W l [Nn 0,Nn 0,Nn 0,Nn 0,Nn 0,Nn 0,Nn 0,Nn 0] 145 λp=>ZC W p 145 (IJ l) o λl o=>W.Lp (λd g i k=>W.un g λg l=>W.un l λl _=>Wo W 38 (IJ m) 3 λn=>Fm W i 36 n λn=>Ke W i .len [36] [n] λn _=>LH W .lss 3 l n λn=>aR n (aR g (LH W .add 3 l (Nn 1) λa=>d [Ku,a] i k) (Wo W 38 (IJ m) 3 λb=>Fm W i 36 b λb=>Zt W 36 b l λb=>Wo W 109 b 0 λb=>Fm W i 3 b λb=>Wo W 62 (IJ a) 2 λc=>Fm W i 3 c λc=>LH W .eql 3 b c λb=>aR b (Wo W 38 (IJ m) 3 λb=>Fm W i 36 b λb=>Zt W 36 b l λb=>Wo W 109 b 1 λb=>Fm W i 3 b λb=>Wo W 62 (IJ a) 3 λa=>Fm W i 3 a λa=>LH W .eql 3 b a λa=>LH W .add 3 l (Nn 1) λb=>d [a,b] i k) (LH W .add 3 l (Nn 1) λa=>d [Zf,a] i k))) (W.jn (λd=>aR b (aR f (aR j (Wo W 62 (IJ a) 5 λb=>Fm W i 3 b λb=>Wo W 60 (IJ c) 2 λc=>Fm W i 3 c λc=>RI W 183 [b,c] i λb c f=>aR b (Wo W 62 (IJ a) 5 λa=>Fm W c 3 a λa=>Wo W 60 (IJ h) 2 λb=>Fm W c 3 b λb=>RI W 183 [a,b] c λa b c=>aR a (Wo W 38 (IJ m) 3 λa=>Fm W b 36 a λa=>Ke W b .len [36] [a] λa _=>LH W .lss 3 a (Nn 20) λa=>aR a (d [YM,Ku] b (ω k f c)) (d [YM,g] b (ω k f c))) (d [YM,Zf] b (ω k f c))) (d [YM,Zf] c (min k f))) (d [YM,Zf] i k)) (d [YM,Zf] i k)) (d [YM,Zf] i k)) (λa b c=>W.un a λa d=>W.un d λd _=>R [a,d] b c))) [Zf,Nn 0] l (Λ m.n d g i k n o))))))))):=by kernel_rfl
theorem F70:dk TE (aL TE X) f70 [x0,x1] m R=ρ m x0 38 λa=>ρ a x1 62 λb=>ς b [YM,YM] 33 λc=>jn (λb=>δ c 38 (υ m) λd=>ψ X 131 [d] c λc d f=>ο .not c λc=>aR c (b [Ku] d (min m.n f)) (δ d 62 (υ a) λa=>ψ X 132 [a] d λa c d=>ο .not a λa=>b [a] c (ω m.n f d))) (λc d f=>un c λc _=>aR c (θ 33 [] λa=>ι d 33 (υ b) a λa c=>ai (ah TE a 33 (υ b)) λb=>R [YM,b,Zf] a (min f c)) (δ d 38 (υ m) λc=>δ d 62 (υ a) λa=>ψ X 133 [c,a] d λa c d=>ξ a 0 λg=>ξ a 1 λa=>ο .not a λa=>aR a (θ 33 [] λa=>ι c 33 (υ b) a λa c=>ai (ah TE a 33 (υ b)) λb=>R [YM,b,Zf] a (ω f d c)) (ε 38 (υ m) 0 λa=>δ c 33 a λa=>ψ X 134 [a,g] c λa c h=>ξ a 0 λi=>ξ a 1 λ_=>ξ a 2 λa=>ς c [YM,YM] 33 λj=>ι j 33 (υ c) i λi j=>δ i 33 (υ c) λc=>η .eql 46 a (χ 0) λa=>ι i 33 (υ b) c λc i=>ai (ah TE c 33 (υ b)) λb=>R [g,b,a] c (Δ f d h j i)))):=by kernel_rfl
theorem F27:dk TE W f27 [x0,x1] m R=JA W m x0 38 λa=>JA W a x1 62 λb=>Wb W b [YM,YM,YM,YM,YM] 38 λc=>Fm W c 38 (IJ m) λd=>Fm W c 62 (IJ a) λf=>RI W 70 [d,f] c λc d f=>JW W c 0 λ_=>JW W c 1 λg=>JW W c 2 λc=>Wb W d [YM,YM] 33 λh=>ZC W h 33 (IJ d) g λg h=>Qt W .not c λc=>aR c (RW W 38 [] λa=>ZC W g 38 (IJ b) a λa c=>ai (ah TE a 38 (IJ b)) λb=>R [b,Nn 270] a (Γ m.n f h c)) (Fm W g 33 (IJ d) λc=>RW W 38 [(0,c)] λc=>Wb W g [YM,YM,YM,YM,YM] 38 λd=>ZC W d 38 (IJ g) c λc d=>W.jn (λb=>Wo W 62 (IJ a) 0 λi=>Fm W c 3 i λi=>LH W .eql 3 i (Nn 2) λi=>aR i (Wo W 38 (IJ m) 0 λi=>Fm W c 33 i λi=>Wo W 62 (IJ a) 2 λj=>Fm W c 3 j λj=>RI W 71 [i,j] c λc i j=>JW W c 0 λk=>JW W c 1 λ_=>Wb W i [Nn 0,Nn 0,Nn 0,YM,Nn 0,Nn 0] 60 λc=>ZC W c 60 (IJ i) k λc k=>Fm W c 60 (IJ i) λi=>RW W 113 [(0,i)] λi=>Wb W c [Nn 0,Nn 0,Nn 0,YM,Nn 0,Nn 0,YM] 113 λl=>ZC W l 113 (IJ c) i λi l=>W.Lp (λd f h i=>W.un f λf _=>Wo W 38 (IJ m) 0 λj=>Wo W 33 j 1 λj=>Fm W h 31 j λj=>Ke W h .len [31] [j] λj _=>LH W .lss 3 f j λj=>aR j (W.jn (λb=>Wo W 38 (IJ m) 0 λd=>Wo W 33 d 1 λd=>Fm W h 31 d λd=>Zt W 31 d f λd=>Wo W 137 d 1 λd=>Fm W h 3 d λd=>Wo W 62 (IJ a) 2 λa=>Fm W h 3 a λa=>LH W .eql 3 d a λa=>aR a (Wo W 113 (IJ c) 1 λa=>Fm W h 31 a λa=>Wo W 38 (IJ m) 0 λd=>Wo W 33 d 1 λd=>Fm W h 31 d λd=>Zt W 31 d f λd=>Fm W h 137 d λd=>Oq W h 31 1 [(0,d)] λd f=>Ke W (M.wl f f.n) .append [31,31] [a,d] λa d=>Wo W 113 (IJ c) 1 λc=>ZC W d 31 c a λa c=>b [] a (ω i (M.low d) c)) (b [] h i)) (λ_ a b=>LH W .add 3 f (Nn 1) λc=>d [c] a b)) (W.Lp (λd f h i=>W.un f λf _=>W.jn (λb=>Wo W 38 (IJ m) 1 λc=>Fm W h 34 c λc=>Ke W h .len [34] [c] λc _=>LH W .lss 3 f c λc=>aR c (Wo W 38 (IJ m) 1 λc=>Fm W h 34 c λc=>Zt W 34 c f λc=>Wo W 113 c 0 λc=>Wo W 60 c 0 λc=>Fm W h 3 c λc=>Wo W 62 (IJ a) 2 λa=>Fm W h 3 a λa=>LH W .lss 3 c a λa=>b [a] h i) (b [Zf] h i)) (λa h i=>W.un a λa _=>aR a (LH W .add 3 f (Nn 1) λa=>d [a] h i) (Wo W 38 (IJ g) 1 λa=>Fm W h 34 a λa=>Wo W 38 (IJ m) 1 λd=>Fm W h 34 d λd=>W.ai (slice? TE h 34 d none (some f) none) λd=>Ke W (M.wl h h.n) .append [34,34] [a,d] λa d=>Wo W 38 (IJ g) 1 λh=>ZC W d 34 h a λa h=>Wo W 38 (IJ g) 1 λj=>Fm W a 34 j λj=>Fm W a 113 (IJ c) λc=>Oq W a 34 1 [(0,c)] λa c=>Ke W (M.wl c c.n) .append [34,34] [j,a] λa c=>Wo W 38 (IJ g) 1 λj=>ZC W c 34 j a λa j=>Wo W 38 (IJ g) 1 λk=>Fm W a 34 k λk=>Wo W 38 (IJ m) 1 λl=>Fm W a 34 l λl=>W.ai (slice? TE a 34 l (some f) none none) λf=>Ke W (M.wl a a.n) .append [34,34] [k,f] λa f=>Wo W 38 (IJ g) 1 λg=>ZC W f 34 g a λa g=>b [] a (Λ i (M.low d) h (M.low c) j (M.low f) g)))) [Nn 0] h i)) [Nn 0] i (Λ m.n f h d j k l)) (W.Lp (λc d f h=>W.un d λd _=>Wo W 38 (IJ m) 1 λi=>Fm W f 34 i λi=>Ke W f .len [34] [i] λi _=>LH W .lss 3 d i λi=>aR i (W.jn (λb=>W.jn (λb=>Wo W 62 (IJ a) 0 λc=>Fm W f 3 c λc=>LH W .neq 3 c (Nn 3) λc=>aR c (b [Ku] f h) (Wo W 38 (IJ m) 1 λc=>Fm W f 34 c λc=>Zt W 34 c d λc=>Wo W 113 c 0 λc=>Wo W 60 c 0 λc=>Fm W f 3 c λc=>Wo W 62 (IJ a) 2 λa=>Fm W f 3 a λa=>LH W .neq 3 c a λa=>b [a] f h)) (λa c f=>W.un a λa _=>aR a (Wo W 38 (IJ g) 1 λa=>Fm W c 34 a λa=>Wo W 38 (IJ m) 1 λh=>Fm W c 34 h λh=>Zt W 34 h d λd=>Fm W c 113 d λd=>Oq W c 34 1 [(0,d)] λc d=>Ke W (M.wl d d.n) .append [34,34] [a,c] λa c=>Wo W 38 (IJ g) 1 λd=>ZC W c 34 d a λa d=>b [] a (ω f (M.low c) d)) (b [] c f))) (λ_ a b=>LH W .add 3 d (Nn 1) λd=>c [d] a b)) (b [] f h)) [Nn 0] c (Γ m.n f h d))) (λ_ c d=>Wo W 62 (IJ a) 2 λf=>Fm W c 3 f λf=>Wo W 62 (IJ a) 4 λh=>Fm W c 3 h λh=>RW W 53 [(0,f),(1,h)] λf=>Wb W c [Nn 0,Nn 0] 53 λh=>ZC W h 53 (IJ c) f λf h=>W.jn (λb=>Wo W 62 (IJ a) 0 λa=>Fm W f 3 a λa=>LH W .eql 3 a (Nn 8) λa=>aR a (Fm W f 38 (IJ m) λa=>Fm W f 53 (IJ c) λc=>RI W 72 [a,c] f λa c f=>Qt W .not a λa=>b [a] c (ω d h f)) (b [Zf] f (min d h))) (λd f h=>W.un d λd _=>W.Lp (λd f h i=>W.un f λf j=>W.un j λj _=>Wo W 38 (IJ m) 2 λk=>Fm W h 35 k λk=>Ke W h .len [35] [k] λk _=>LH W .lss 3 j k λk=>aR k (W.jn (λa=>W.jn (λa=>aR f (Fm W h 53 (IJ c) λb=>Wo W 38 (IJ m) 2 λc=>Fm W h 35 c λc=>Zt W 35 c j λc=>Fm W h 53 c λc=>RI W 73 [b,c] h λb c d=>a [b] c (min i d)) (a [Zf] h i)) (λb d h=>W.un b λb _=>aR b (Wo W 38 (IJ g) 2 λb=>Fm W d 35 b λb=>Fm W d 53 (IJ c) λc=>Oq W d 35 1 [(0,c)] λc d=>Ke W (M.wl d d.n) .append [35,35] [b,c] λb c=>Wo W 38 (IJ g) 2 λd=>ZC W c 35 d b λb d=>a [Zf] b (ω h (M.low c) d)) (a [f] d h))) (λa b c=>W.un a λa _=>Wo W 38 (IJ g) 2 λf=>Fm W b 35 f λf=>Wo W 38 (IJ m) 2 λh=>Fm W b 35 h λh=>Zt W 35 h j λh=>Fm W b 53 h λh=>Oq W b 35 1 [(0,h)] λb h=>Ke W (M.wl h h.n) .append [35,35] [f,b] λb f=>Wo W 38 (IJ g) 2 λg=>ZC W f 35 g b λb g=>LH W .add 3 j (Nn 1) λh=>d [a,h] b (ω c (M.low f) g))) (W.jn (λa=>aR f (Wo W 38 (IJ g) 2 λb=>Fm W h 35 b λb=>Fm W h 53 (IJ c) λc=>Oq W h 35 1 [(0,c)] λc d=>Ke W (M.wl d d.n) .append [35,35] [b,c] λb c=>Wo W 38 (IJ g) 2 λd=>ZC W c 35 d b λb d=>a [] b (ω i (M.low c) d)) (a [] h i)) (λ_ c d=>Wo W 62 (IJ a) 2 λf=>Fm W c 3 f λf=>Wo W 62 (IJ a) 3 λh=>Fm W c 3 h λh=>Wo W 62 (IJ a) 5 λi=>Fm W c 3 i λi=>RW W 109 [(0,f),(1,h),(2,i)] λf=>Wb W c [Nn 0,Nn 0,Nn 0] 109 λh=>ZC W h 109 (IJ c) f λf h=>Wo W 62 (IJ a) 0 λi=>Fm W f 3 i λi=>LH W .eql 3 i (Nn 9) λi=>W.Lp (λd f h i=>W.un f λf j=>W.un j λj _=>Wo W 38 (IJ m) 3 λk=>Fm W h 36 k λk=>Ke W h .len [36] [k] λk _=>LH W .lss 3 j k λk=>aR k (W.jn (λb=>Wo W 38 (IJ m) 3 λd=>Fm W h 36 d λd=>Zt W 36 d j λd=>Fm W h 109 d λd=>Wb W h [Nn 0,Nn 0,Nn 0] 109 λj=>ZC W j 109 (IJ h) d λd j=>W.jn (λa=>W.jn (λa=>aR f (Wo W 109 (IJ c) 0 λb=>Fm W d 3 b λb=>Wo W 109 (IJ h) 0 λf=>Fm W d 3 f λf=>LH W .lss 3 b f λb=>aR b (a [Ku] d (min i j)) (Wo W 109 (IJ c) 0 λb=>Fm W d 3 b λb=>Wo W 109 (IJ h) 0 λf=>Fm W d 3 f λf=>LH W .eql 3 b f λb=>aR b (Wo W 109 (IJ c) 1 λb=>Fm W d 3 b λb=>Wo W 109 (IJ h) 1 λc=>Fm W d 3 c λc=>LH W .leq 3 b c λb=>a [b] d (min i j)) (a [Zf] d (min i j)))) (a [Zf] d (min i j))) (λb d h=>W.un b λb _=>aR b (Wo W 38 (IJ g) 3 λb=>Fm W d 36 b λb=>Fm W d 109 (IJ c) λc=>Oq W d 36 1 [(0,c)] λc d=>Ke W (M.wl d d.n) .append [36,36] [b,c] λb c=>Wo W 38 (IJ g) 3 λd=>ZC W c 36 d b λb d=>a [Zf] b (ω h (M.low c) d)) (a [f] d h))) (λd f i=>W.un d λd _=>W.jn (λb=>Wo W 62 (IJ a) 0 λa=>Fm W f 3 a λa=>LH W .neq 3 a (Nn 9) λa=>aR a (b [Ku] f i) (Wo W 109 (IJ c) 0 λa=>Fm W f 3 a λa=>Wo W 109 (IJ h) 0 λd=>Fm W f 3 d λd=>LH W .neq 3 a d λa=>aR a (b [Ku] f i) (Wo W 109 (IJ c) 1 λa=>Fm W f 3 a λa=>Wo W 109 (IJ h) 1 λc=>Fm W f 3 c λc=>LH W .neq 3 a c λa=>b [a] f i))) (λa c f=>W.un a λa _=>aR a (Wo W 38 (IJ g) 3 λa=>Fm W c 36 a λa=>Fm W c 109 (IJ h) λh=>Oq W c 36 1 [(0,h)] λc h=>Ke W (M.wl h h.n) .append [36,36] [a,c] λa c=>Wo W 38 (IJ g) 3 λg=>ZC W c 36 g a λa g=>b [d] a (ω f (M.low c) g)) (b [d] c f)))) (λa b c=>W.un a λa _=>LH W .add 3 j (Nn 1) λf=>d [a,f] b c)) (W.jn (λa=>aR f (Wo W 38 (IJ g) 3 λb=>Fm W h 36 b λb=>Fm W h 109 (IJ c) λc=>Oq W h 36 1 [(0,c)] λc d=>Ke W (M.wl d d.n) .append [36,36] [b,c] λb c=>Wo W 38 (IJ g) 3 λd=>ZC W c 36 d b λb d=>a [] b (ω i (M.low c) d)) (a [] h i)) (λ_ a c=>Fm W a 38 (IJ g) λd=>ZC W a 38 (IJ b) d λa d=>ai (ah TE a 38 (IJ b)) λb=>R [b,Nn 0] a (min c d)))) [i,Nn 0] f (min d h)))) [d,Nn 0] f h))):=by kernel_rfl
theorem F66:dk TE (aL TE X) f66 [x0,x1] m R=jn (λa=>η .lss 3 x0 (χ 0) λb=>aR b (η .add 3 x0 (χ 1) λb=>ο .neg b λb=>a [b] m m.n) (a [x0] m m.n)) (λa b c=>un a λa _=>η .rem 3 a x1 λa=>R [a] b c):=by kernel_rfl
theorem F68:dk TE (aL TE X) f68 [x0,x1] m R=ρ m x0 33 λa=>ε 33 (υ m) 0 λb=>ε 30 b 0 λb=>δ a 28 b λb=>κ a .len [28] [b] λb _=>η .eql 3 b (χ 0) λb=>aR b (ψ X 66 [x1,χ 100] a λa b c=>R [a] b (min m.n c)) (ε 33 (υ m) 0 λb=>ε 30 b 0 λb=>δ a 28 b λb=>ε 33 (υ m) 0 λc=>ε 30 c 0 λc=>δ a 28 c λc=>κ a .len [28] [c] λc _=>ψ X 66 [x1,c] a λc d f=>(a.n<=f)/\(ζ 28 b c λa=>ε 60 a 0 λa=>δ d 3 a λa=>R [a] d (min m.n f))):=by kernel_rfl
theorem F26:dk TE (aL TE X) f26 [x0,x1] m R=ρ m x0 38 λa=>ρ a x1 89 λb=>ς b [χ 0,χ 0,χ 0,χ 0,YM,χ 0,χ 0,χ 0,χ 0,χ 0,χ 0] 62 λc=>ζ 89 (υ a) (χ 0) λd=>δ c 3 d λd=>ψ X 66 [d,χ 9] c λc d f=>η .add 3 (χ 1) c λc=>θ 62 [(0,c)] λc=>ς d [χ 0,χ 0,χ 0,χ 0,YM,χ 0,χ 0,χ 0,χ 0,χ 0,χ 0] 62 λg=>ι g 62 (υ d) c λc g=>ε 38 (υ m) 0 λh=>δ c 33 h λh=>ς c [YM,YM] 33 λi=>ι i 33 (υ c) h λh i=>jn (λb=>ε 62 (υ d) 0 λj=>δ h 3 j λj=>η .eql 3 j (χ 1) λk=>aR k (ζ 89 (υ a) (χ 1) λc=>δ h 3 c λc=>ζ 89 (υ a) (χ 2) λj=>δ h 3 j λj=>ζ 89 (υ a) (χ 3) λk=>δ h 3 k λk=>ζ 89 (υ a) (χ 4) λl=>δ h 3 l λl=>ζ 89 (υ a) (χ 4) λn=>δ h 3 n λn=>η .quo 3 n (χ 4) λn=>ζ 89 (υ a) (χ 5) λo=>δ h 3 o λo=>θ 89 [(0,j),(1,k),(2,l),(3,n),(4,(χ 0)),(5,o)] λj=>ψ X 67 [c,j] h λc h j=>ε 62 (υ d) 1 λk=>ι h 60 k c λc h=>ζ 89 (υ a) (χ 5) λa=>δ c 3 a λa=>ψ X 66 [a,χ 3] c λa c k=>η .add 3 (χ 6) a λa=>ε 62 (υ d) 1 λd=>ε 60 d 1 λd=>ι c 3 d a λa c=>b [] a (Ξ m.n f g i j h k c)) (η .eql 3 j (χ 3) λk=>aR k (δ h 33 (υ c) λc=>ζ 89 (υ a) (χ 1) λj=>δ h 3 j λj=>ψ X 68 [c,j] h λc h j=>ε 62 (υ d) 2 λk=>ι h 3 k c λc h=>ε 38 (υ m) 1 λk=>δ c 34 k λk=>κ c .len [34] [k] λk _=>η .gtr 3 k (χ 0) λk=>aR k (ε 38 (υ m) 1 λk=>δ c 34 k λk=>ζ 89 (υ a) (χ 1) λa=>δ c 3 a λa=>ε 38 (υ m) 1 λl=>δ c 34 l λl=>κ c .len [34] [l] λl _=>ψ X 66 [a,l] c λa l n=>(c.n<=n)/\(ζ 34 k a λa=>ε 113 a 0 λa=>ε 60 a 0 λa=>δ l 3 a λa=>ε 62 (υ d) 2 λc=>ι l 3 c a λa c=>b [] a (Ξ m.n f g i j h n c))) (b [] c (Θ m.n f g i j h))) (η .eql 3 j (χ 2) λk=>aR k (δ h 33 (υ c) λc=>ζ 89 (υ a) (χ 1) λa=>δ h 3 a λa=>ψ X 68 [c,a] h λa c h=>ε 62 (υ d) 2 λd=>ι c 3 d a λa c=>b [] a (Θ m.n f g i h c)) (η .eql 3 j (χ 4) λk=>aR k (δ h 33 (υ c) λc=>ζ 89 (υ a) (χ 1) λj=>δ h 3 j λj=>ψ X 68 [c,j] h λc h j=>ε 62 (υ d) 2 λk=>ι h 3 k c λc h=>ζ 89 (υ a) (χ 2) λa=>δ c 3 a λa=>ψ X 66 [a,χ 8] c λa c k=>ε 62 (υ d) 5 λd=>ι c 3 d a λa c=>b [] a (Ξ m.n f g i j h k c)) (jn (λa=>η .eql 3 j (χ 5) λb=>aR b (a [b] h (Γ m.n f g i)) (η .eql 3 j (χ 8) λb=>a [b] h (Γ m.n f g i))) (λf g h=>un f λf _=>aR f (δ g 33 (υ c) λf=>ζ 89 (υ a) (χ 1) λi=>δ g 3 i λi=>ψ X 68 [f,i] g λf g i=>ε 62 (υ d) 2 λj=>ι g 3 j f λf g=>ζ 89 (υ a) (χ 2) λj=>δ f 3 j λj=>ψ X 66 [j,χ 6] f λf j k=>η .sub 3 f (χ 2) λf=>ε 62 (υ d) 4 λl=>ι j 3 l f λf j=>jn (λb=>ε 33 (υ c) 1 λc=>δ f 31 c λc=>κ f .len [31] [c] λc _=>η .gtr 3 c (χ 0) λc=>aR c (ζ 89 (υ a) (χ 3) λa=>δ f 3 a λa=>ψ X 66 [a,χ 2] f λa c d=>η .eql 3 a (χ 0) λa=>b [a] c (Θ h i g k j d)) (b [Zf] f (Δ h i g k j))) (λf g h=>un f λf _=>aR f (ε 33 (υ c) 1 λf=>δ g 31 f λf=>ζ 89 (υ a) (χ 2) λa=>δ g 3 a λa=>ε 33 (υ c) 1 λc=>δ g 31 c λc=>κ g .len [31] [c] λc _=>ψ X 66 [a,c] g λa c i=>(g.n<=i)/\(ζ 31 f a λa=>δ c 137 a λa=>ς c [χ 0,χ 0,χ 0,χ 0,Zf] 137 λf=>ι f 137 (υ c) a λa f=>ε 137 (υ c) 1 λg=>δ a 3 g λg=>ε 62 (υ d) 2 λj=>ι a 3 j g λa g=>ε 137 (υ c) 2 λc=>δ a 3 c λc=>ε 62 (υ d) 4 λd=>ι a 3 d c λa c=>b [] a (Δ h i f g c))) (b [] g h))) (jn (λa=>η .eql 3 j (χ 6) λb=>aR b (a [b] g h) (η .eql 3 j (χ 7) λb=>a [b] g h)) (λf g h=>un f λf _=>aR f (ζ 89 (υ a) (χ 1) λf=>δ g 3 f λf=>ψ X 66 [f,χ 12] g λf g i=>ε 62 (υ d) 2 λj=>ι g 3 j f λf g=>ε 33 (υ c) 1 λj=>δ f 31 j λj=>κ f .len [31] [j] λj _=>η .gtr 3 j (χ 0) λj=>aR j (ε 33 (υ c) 1 λj=>δ f 31 j λj=>ζ 89 (υ a) (χ 1) λa=>δ f 3 a λa=>ε 33 (υ c) 1 λc=>δ f 31 c λc=>κ f .len [31] [c] λc _=>ψ X 66 [a,c] f λa c k=>(f.n<=k)/\(ζ 31 j a λa=>ε 137 a 0 λa=>δ c 3 a λa=>ε 62 (υ d) 2 λd=>ι c 3 d a λa c=>b [] a (Δ h i g k c))) (b [] f (ω h i g))) (ζ 89 (υ a) (χ 3) λf=>δ g 3 f λf=>ψ X 66 [f,χ 8] g λf i j=>(g.n<=j)/\(ν i 26 3 [(0,(χ 5)),(1,(χ 5)),(2,f)] λf g=>ζ 89 (υ a) (χ 2) λi=>δ g 3 i λi=>ψ X 66 [i,χ 3] g λi k l=>(g.n<=l)/\(ζ 26 f i λf=>δ k 3 f λf=>ε 62 (υ d) 5 λg=>ι k 3 g f λf g=>ε 62 (υ d) 3 λi=>ι f 3 i (χ 1) λf i=>ε 33 (υ c) 0 λc=>δ f 30 c λc=>ψ X 69 [c] f λc f k=>Lp (λf g h i=>un g λg _=>κ h .len [138] [c] λj _=>η .lss 3 g j λj=>aR j (jn (λb=>ζ 89 (υ a) (χ 1) λa=>δ h 3 a λa=>κ h .len [138] [c] λf _=>ψ X 66 [a,f] h λa f h=>η .add 3 g a λa=>κ f .len [138] [c] λg _=>η .rem 3 a g λa=>ζ 138 c a λa=>δ f 145 a λa=>ς f [χ 0,χ 0,χ 0,χ 0,χ 0,χ 0,χ 0,χ 0] 145 λc=>ι c 145 (υ f) a λa c=>ε 145 (υ f) 1 λg=>δ a 3 g λg=>η .neq 3 g (χ (-1)) λg=>aR g (ε 145 (υ f) 0 λg=>δ a 3 g λg=>ε 62 (υ d) 2 λj=>ι a 3 j g λa g=>ε 145 (υ f) 1 λf=>δ a 3 f λf=>ε 62 (υ d) 3 λd=>ι a 3 d f λa d=>b [] a (Δ i h c g d)) (b [] a (ω i h c))) (λ_ a b=>η .add 3 g (χ 1) λc=>f [c] a b)) (b [] h i)) [χ 0] f (Θ h j l g i k)))))))))))) (λ_ a c=>δ a 62 (υ d) λd=>ι a 62 (υ b) d λa d=>ai (ah TE a 62 (υ b)) λb=>R [b] a (min c d)):=by kernel_rfl
theorem F25:dk TE (aL TE X) f25 [x0,x1] m R=ρ m x0 25 λa=>ς a [YM,YM,YM,YM,YM] 38 λb=>ε 25 (υ m) 0 λc=>δ b 22 c λc=>ε 25 (υ m) 0 λd=>δ b 22 d λd=>κ b .len [22] [d] λd _=>κ b .min [3,3] [d,χ 5] λd _=>ai (slice? TE b 22 c none (some d) none) λc=>ε 25 (υ m) 0 λd=>ι b 22 d c λb c=>δ b 25 (υ m) λd=>ψ X 65 [d] b λb d f=>θ 38 [(0,b)] λb=>ς d [YM,YM,YM,YM,YM] 38 λg=>ι g 38 (υ d) b λb g=>δ b 38 (υ d) λh=>ς b [YM,YM,YM,YM,YM] 38 λi=>ι i 38 (υ b) h λh i=>Lp (λc f g h=>un f λf i=>un i λi _=>jn (λa=>κ g .len [22] [x1] λb _=>η .lss 3 i b λb=>aR b (η .lss 3 i (χ 9) λb=>a [b] g h) (a [Zf] g h)) (λg h j=>un g λg _=>aR g (jn (λa=>δ h 38 (υ b) λc=>ζ 22 x1 i λg=>δ h 89 g λg=>ψ X 26 [c,g] h λc g k=>(h.n<=k)/\(ς g [χ 0,χ 0,χ 0,χ 0,YM,χ 0,χ 0,χ 0,χ 0,χ 0,χ 0] 62 λh=>ι h 62 (υ g) c λc h=>δ c 38 (υ b) λl=>δ c 62 (υ g) λn=>ψ X 27 [l,n] c λc l n=>ξ c 0 λo=>ξ c 1 λc=>ς l [YM,YM,YM,YM,YM] 38 λp=>ι p 38 (υ l) o λo p=>η .neq 46 c (χ 0) λc=>aR c (a [f] o (Δ j k h n p)) (δ o 38 (υ l) λc=>ι o 38 (υ b) c λb c=>η .lss 3 i (χ 3) λi=>aR i (δ b 38 (υ l) λg=>ι b 38 (υ d) g λb d=>a [f] b (Λ j k h n p c d)) (δ b 62 (υ g) λd=>ν b 39 1 [(0,d)] λb d=>κ (M.wl d d.n) .append [39,39] [f,b] λb d=>a [b] d (Λ j k h n p c (M.low d)))))) (λa b d=>un a λa _=>η .add 3 i (χ 1) λf=>c [a,f] b d)) (δ h 38 (υ d) λb=>ι h 38 (υ a) b λb c=>ai (ah TE b 38 (υ a)) λa=>R [a,f] b (min j c)))) [YM,χ 0] h (Δ m.n c f g i):=by kernel_rfl
end
end
section
variable {X:aK} {m:M}
structure AW where
 a:Ac
 w:Φ
abbrev AW.c(x:AW):Bt:=x.a.c x.w
abbrev AW.v(x:AW):Φ:=x.a.v x.w
theorem Ac.cH{a:Ac}{w:Φ}(h:one w):(a.c w).all one:=by show(true && (true && (true && (true && (one w && true)))))=true;rw[h];rfl
instance:aW AW where
 ty:=184
 sz:=15
 agg:=true
 cT:=[]
 rep _ x cs:=cs=x.c/\one x.w=true
 pos:=by decide
 one:=by grind
 len:=by simp_all
 dS:=by rintro _ x _ ⟨rfl,h⟩;exact Ac.cH h
 aV:=by grind
theorem MM:oU TE 146 184 AW:=⟨ag.t146,ag.t184,by kernel_rfl,⟨_,rfl⟩,rfl,by kernel_rfl,rfl,rfl⟩
theorem PN:qH TE 146 AW:=⟨ag.t146,ag.t184,by kernel_rfl,rfl,rfl,by kernel_rfl,by decide,rfl⟩
theorem YI{l:List AW}{v:Φ}(h:Sl m l v){i:Nat}{x:AW}(H:l[i]?=some x):∃p,ak TE 146 v (YR i)=some p/\ah TE m 184 p=some x.v:=by have⟨p,cs,e1,e2,e3⟩:=h.index MM (k:=.i64) H;obtain⟨rfl, -⟩:cs=x.c/\_:=e3;exact⟨p,e1,e2⟩
structure zz(m:M)(l:List AW)(v:Φ):Prop where
 sl:Sl m l v
 sh:∀x∈l,Sl m x.a.un.shape x.w
 ln:∀x∈l,x.a.un.shape.length < 1000000
 kd:∀x∈l,x.a.kind≠3/\x.a.kind≠4
theorem zz.aV{l:List AW}{v:Φ}{m':M}(h:zz m l v)(hk:∀c cs t g,m.get c=.cells cs t g->(t=184\/t=141)->m'.get c=.cells cs t g):zz m' l v:=
 ⟨h.sl.aV λc cs t g H ht=>hk c cs t g H (.inl (by simpa[aW.ty,aW.cT]using ht)),λx hx=>(h.sh x hx).aV λc cs t g H ht=>hk c cs t g H (.inr (by simpa[aW.ty,aW.cT]using ht)),h.ln,h.kd⟩
theorem zz.aE{l:List AW}{v:Φ}{m':M}(h:zz m l v)(H:Ext m m'):zz m' l v:=h.aV λ_ _ _ _ hc _=>H.cells hc
theorem Ak{us:List Un}{ms:List Mk}{a:Ac}:∀{l:List Ac},gA us ms (l++ [a])=(gA us ms l).bind λp=>sg p.1 p.2 a
 |[]=>by
  simp only[Zi,gA];grind
 |b::r=>by
  rw[Jv,gA,gA];cases sg us ms b with
  |none=>rfl
  |some p=>exact Ak
theorem Al{us:List Un}{ms:List Mk}{q:List Ac}:∀{l:List Ac},gA us ms l=none->gA us ms (l++q)=none
 |[],h=>by cases h
 |b::r,h=>by
  rw[Jv,gA];rw[gA]at h;cases e:sg us ms b with
  |none=>rfl
  |some p=>
   rw[e]at h;exact Al h
theorem gC.dC{vs:List Un}{H:List Mk}{m':M}{r r2:Φ}(h:gC vs H m' (.agg #[r,r2]))(hf:D.dC (.agg #[r,r2]))(m:M):gC vs H m (.agg #[r,r2]):=
 gC.flat (t:=Ku) h (by show(D.dC (.agg #[r,r2]) && (true && true))=true;rw[hf];rfl) m
def tK(D:Option (List Un×List Mk))(m':M)(H:Φ):Prop:=match D with
 |some (vs,ns)=>∃r r2 n,H=.tuple #[.agg #[r,r2],.int .i64 n,.int .i64 0]/\gC vs ns m' (.agg #[r,r2])
 |none=>∃n,H=.tuple #[.agg #[.slice none 0 0,.slice none 0 0],.int .i64 n,.int .i64 170]
theorem tK.flat{D:Option (List Un×List Mk)}{m':M}{v t u:Φ}(h:tK D m' (.tuple #[v,t,u]))(hf:bA (.tuple #[v,t,u]))(m:M):tK D m (.tuple #[v,t,u]):=by
 unfold tK at h⊢;split at h;·have⟨r,r2,n,e,hs⟩:=h;cases e;have H:(D.dC (.agg #[r,r2]) && (true && (true && true))):=hf;rw[JJ]at H;exact⟨r,r2,n,rfl,hs.dC H.1 m⟩
 exact h
theorem Hi{D:Option (List Un×List Mk)}{m':M}{v t u:Φ}{lo:Nat}{Q:Prop}(hQ:Q)(h:tK D m' (.tuple #[v,t,u]))(H:m.n<=lo)(hx:Ext m m'):
  (bA (bh [v,t,u])/\m.n<=lo/\(Q/\Ext m m/\tK D m (bh [v,t,u])))\/((bA (bh [v,t,u])=false\/lo<m.n)/\(min m.n lo=m.n/\Ext m m'/\tK D m' (bh [v,t,u]))):=by
 cases hf:bA (bh [v,t,u]);·exact .inr ⟨.inl rfl,by omega,hx,h⟩
 exact .inl ⟨rfl,H,hQ,.refl,h.flat hf m⟩
set_option maxHeartbeats 1000000 in
theorem MW(hX:cd X){l:List UW}{ms:List Mk}{v vm va:Φ}{H:List AW}(hF:cP m l v)(hP:cq (bM l))(hm:Sl m ms vm)(hM:il (bM l) ms)(ha:zz m H va)(P1:H.length<=40):
  ∃rv m',C X (.func 134) [.agg #[v,vm],va] m m.n rv m'/\Ext m m'/\tK (gA (bM l) ms (H.map AW.a)) m' rv:=by
 have G1:l.length<=12:=by have:=hP.len;rwa[cx]at this
 have T1:=hM.len;refine Cl.EL hX (Kg func134) ?_;rw[aaE];dsimp only[δ,ζ,η,θ,ι,κ,ξ,ο,ρ,ς,υ,χ,ψ,Γ,ω];refine aw λm1 a2 c1 b2=>?_;refine aw λm2 c2 d1 i1=>?_;have j0:Ext m m2:=⟨by omega,by grind⟩
 have g1:m2.get m.n=.cells [v,vm] 33 none:=by rw[i1 _ (by omega)];exact c1
 have gz:m2.get m1.n=.cells [YM,YM] 33 none:=d1;unfold ptrTo;rw[(jC g1).2.2.2,ae];refine aG (kT hX (hF.aE j0) (by omega) (hm.aE j0) (by omega)) ?_;rw[fC hP,fV.2 hM,bk,ae,aj];show gH false _ _;rw[aN,(jC g1).2.2.2,ae];obtain⟨acc,q,q2,m14,j1,B0,k1,f14,C0⟩:=AT hX (hF.aE j0) (by omega) (hm.aE j0) (by omega);refine aG j1 ?_;have n14:=B0.n;refine aw λm16 H1 D0 I1=>?_;refine aC eH D0 rfl rfl (by show(one q && (one q2 && true))=true;rw[f14.sl.one,C0.one];rfl) λm17 J1 a0 K1=>?_;have a0:m17.get m14.n=.cells [q,q2] 33 none:=a0;obtain⟨S,hS⟩:∃S,S=m14.n:=⟨_,rfl⟩
 rw[<-hS]at a0⊢;have n0:Ext m14 m17:=⟨by omega,by grind⟩
 have d2:m2.n<=S:=by omega
 have E0:m.n<=min (min (min m.n m2.n) m2.n) m14.n:=by omega
 generalize min (min (min m.n m2.n) m2.n) m14.n=g2 at E0;have F0:gC (bM l) ms m17 (.agg #[q,q2]):=⟨acc,q,q2,rfl,k1,f14.aE n0,C0.aE n0⟩
 have l1:∀c,c < S->m17.get c=m14.get c:=λc hc=>n0.get c (by omega)
 refine Lp.intro (γ:=Nat) (λi=>H.length-i) (λi vs mm lo=>∃z1 z2 r r2 ws ns,vs=[z1,z2,.int .i64 i]/\i<=H.length/\(∀c,c < S->mm.get c=m14.get c)/\S < mm.n/\m.n<=lo/\mm.get S=.cells [r,r2] 33 none/\gC ws ns mm (.agg #[r,r2])/\gA (bM l) ms ((H.take i).map AW.a)=some (ws,ns)) 0
  ⟨_,_,q,q2,_,_,rfl,ZE _,l1,by omega,by omega,a0,F0,rfl⟩ ?_
 rintro i vs mm lo ⟨z1,z2,r,r2,ws,ns,rfl,hi,hk,i2,E0,gS,y0,b0⟩;have⟨p1,r1⟩:=Hj hP hM b0;have z0:Ext m2 mm:=⟨by omega,λc hc=>by rw[hk c (by omega),B0.get c hc]⟩
 have k0:=(ha.aE j0).aE z0;have G0:=z0.cells gz
 have bad:∀{A0:M} {o0:Nat} {n:Int} {Q:Prop},Q->A0.get m1.n=.cells [YM,YM] 33 none->m.n<=o0->gA (bM l) ms (H.map AW.a)=none->
   ai (aJ TE 33 []) λv=>aO (aD TE A0 33 (.pointer (some ⟨m1.n,0,none⟩)) v) λm' b=>ai (ah TE m' 33 (.pointer (some ⟨m1.n,0,none⟩))) λv'=>
    (bA (bh [v',.int .i64 n,.int .i64 170])=true/\m.n<=min o0 b/\(Q/\Ext m m/\tK (gA (bM l) ms (H.map AW.a)) m (bh [v',.int .i64 n,.int .i64 170])))\/((bA (bh [v',.int .i64 n,.int .i64 170])=false\/min o0 b < m.n)/\(min m.n (min o0 b)=m.n/\Ext m m'/\tK (gA (bM l) ms (H.map AW.a)) m' (bh [v',.int .i64 n,.int .i64 170]))):=by
  intro A0 o0 n Q hQ g L1 e
  rw[qA,ae]
  refine aC eH g rfl rfl rfl λm' j2 u1 k2=>?_
  rw[(jC u1).2.2.2,ae]
  exact .inl ⟨rfl,by omega,hQ,.refl,by unfold tK;rw[e];exact⟨n,rfl⟩⟩
 rw[aB,aB,aB,k0.sl.len MM,az,aM,ae,aj];refine an (λH0=>?_) (λv1=>?_)
 ·have H0:i < H.length:=by grind
  obtain⟨x,hx⟩:∃x,H[i]?=some x:=⟨_,Fx H0⟩
  have d0:=LZ hx
  have⟨p,e1,e2⟩:=YI k0.sl hx
  have w1:(H.take (i+1)).map AW.a=(H.take i).map AW.a++ [x.a]:=by rw[Q1,hx,Cu];rfl
  have r0:gA (bM l) ms ((H.take (i+1)).map AW.a)=sg ws ns x.a:=by rw[w1,Ak,b0];rfl
  have I0:H.map AW.a=(H.take (i+1)).map AW.a++(H.drop (i+1)).map AW.a:=by rw[<-Cu,Gw]
  rw[cI,ae,aj,tx,aN,(jC gS).2.2.2,ae,e1,ae,e2,ae]
  have⟨J0,r',l2,er,eu,ef,es⟩:=y0
  cases er
  have o2:J0.length<=12:=by have:=p1.len;rwa[<-eu,cx]at this
  have u2:=r1.len
  obtain⟨rv,y1,A1,s0,l0⟩:=Jh (m:=mm) (a:=x.a) hX ef (by omega) es (by omega) (k0.sh x d0) (k0.ln x d0) (k0.kd x d0).1 (k0.kd x d0).2
  refine aG A1 ⟨Ox _,?_⟩
  have n40:=s0.n
  rw[eu]at l0
  unfold oJ at l0
  cases K0:sg ws ns x.a with
  |none=>rw[K0]at l0 r0;subst l0;rw[aH,aH];simp only[zi,F9,ae];refine aw λB1 L0 p0 e0=>?_;refine aC eH p0 rfl rfl rfl λu0 N0 g0 i0=>?_;rw[bL,ae,aj,Dh (show¬(170:Int)=0 by decide),Km,bH];refine bad (by grind) ?_ (by omega) (by rw[I0];exact Al r0);rw[i0 _ (by omega),e0 _ (by omega),s0.get _ (by omega)];exact G0
  |some d=>
   have⟨C1,D1⟩:=d;rw[K0]at l0 r0;obtain⟨t1,t2,rfl,st⟩:=l0
   have o1:one t1=true/\one t2=true:=by have⟨_,_,_,e,_,h1,h2⟩:=st;cases e;exact⟨h1.sl.one,h2.one⟩
   rw[aH,aH];simp only[zi,F9,ae];refine aw λB1 L0 p0 e0=>?_;refine aC eH p0 rfl rfl (by show(one t1 && (one t2 && true))=true;rw[o1.1,o1.2];rfl) λu0 N0 g0 i0=>?_;have g0:u0.get y1.n=.cells [t1,t2] 33 none:=g0;rw[bL,ae,aj,IH (show(0:Int)=0 from rfl),V8,aN,(jC g0).2.2.2,ae];have O0:u0.get S=.cells [r,r2] 33 none:=by rw[i0 _ (by omega),e0 _ (by omega),s0.get _ (by omega)];exact gS
   refine aC eH O0 rfl rfl (by grind) λv2 N1 P0 v0=>?_;rw[aP,ae,wrap64];refine⟨i+1,by omega,z1,z2,t1,t2,C1,D1,by grind,by omega,λc hc=>by rw[v0 c (by omega),i0 c (by omega),e0 c (by omega),s0.get c (by omega),hk c hc],by omega,by omega,P0,?_,r0⟩;refine st.aV λc cs t g hc ht=>?_;have w2:=M.aU hc;have E1:u0.get c=.cells cs t g:=by grind
   rw[v0 c (λe=>by grind),E1]
 have F1:i=H.length:=by have:¬(i:Int)< (H.length:Int):=Ja v1;omega
 subst F1;rw[V9]at b0;rw[(jC gS).2.2.2,ae,az]
 have o1:one r=true/\one r2=true:=by have⟨_,_,_,e,_,h1,h2⟩:=y0;cases e;exact⟨h1.sl.one,h2.one⟩
 refine aC eH G0 rfl rfl (by show(one r && (one r2 && true))=true;rw[o1.1,o1.2];rfl) λa1 O1 q0 b1=>?_;have q0:a1.get m1.n=.cells [r,r2] 33 none:=q0;rw[(jC q0).2.2.2,ae];refine Hi (m':=a1) (by grind) ?_ (by omega) ⟨by omega,λc hc=>by rw[b1 c (by omega),z0.get c (by omega),j0.get c hc]⟩;unfold tK;rw[b0];exact⟨r,r2,_,rfl,y0.aV λc cs t g hc ht=>by grind⟩
def wQ(u v:Un):Bool:=(eh u v).isSome
def zR(D:Option (List Ac))(m':M)(H:Φ):Prop:=match D with
 |some L=>∃al v,H=.tuple #[v,.bool true]/\al.map AW.a=L/\zz m' al v
 |none=>∃v,H=.tuple #[v,.bool false]
theorem zz.nil{m:M}:zz m [] YM:=⟨.nil,λx H=>(by cases H),λx H=>(by cases H),λx H=>(by cases H)⟩
theorem zR.flat{D:Option (List Ac)}{m':M}{v t:Φ}(h:zR D m' (.tuple #[v,t]))(hf:bA (.tuple #[v,t]))(m:M):zR D m (.tuple #[v,t]):=by
 unfold zR at h⊢;split at h
 ·have⟨al,v',e,e1,hs⟩:=h;cases e;have h1:=hs.sl;obtain⟨a,c,rfl⟩:=h1.form;cases a with
  |some a=>exact absurd (show(false && (true && true))=true from hf) (by decide)
  |none=>
   have hv:Go.D.bw (.slice none al.length c):=by
    have a0:(Go.D.bw (.slice none al.length c) && (true && true)):=hf;grind
   have⟨e2,e3⟩:=kS h1 hv m;subst e2;exact⟨[],_,rfl,e1,⟨e3,λx H=>(by cases H),λx H=>(by cases H),λx H=>(by cases H)⟩⟩
 exact h
theorem FF{x:AW}:aF TE m 146 1 [(0,x.v)]=some (.slice (some ⟨m.n,0,none⟩) 1 1,m.push (.cells x.c 184 none)):=by kernel_rfl
theorem Ti{x y:AW}:aF TE m 146 2 [(0,x.v),(1,y.v)]=some (.slice (some ⟨m.n,0,none⟩) 2 2,m.push (.cells (x.c++y.c) 184 none)):=by kernel_rfl
theorem Tv{x y:AW}{b:Nat}{g:Option Nat}(h:m.get b=.cells (x.c++y.c) 184 g)(h1:one x.w)(H:one y.w):Sl m [x,y] (KI b 0 2 2):=
 .inr ⟨b,0,2,_,g,rfl,h,Ox _,λi z hi=>by
  match i with
  |0=>cases hi;exact⟨rfl,h1⟩
  |1=>cases hi;exact⟨rfl,H⟩
  |i+2=>simp at hi⟩
theorem yB{x:AW}{P:Φ->M->Prop}(h1:one x.w)(hs:Sl m x.a.un.shape x.w)(hl:x.a.un.shape.length<1000000)(hk:x.a.kind≠3/\x.a.kind≠4)
  (hP:∀m1,Ext m m1->m1.n=m.n+1->m1.get m.n=.cells x.c 184 none->zz m1 [x] (KI m.n 0 1 1)->P (KI m.n 0 1 1) m1):
  aO (aF TE m 146 1 [(0,x.v)]) P:=by rw[FF,az];have H:Ext m (m.push (.cells x.c 184 none)):=Ext.refl.push;have hg:(m.push (.cells x.c 184 none)).get m.n=.cells x.c 184 none:=M.aX;exact hP _ H M.iQ hg ⟨gU hg ⟨rfl,h1⟩,λy hy=>by rw[Qk.1 hy];exact hs.aE H,by grind,by grind⟩
theorem zn{k id:Int}:aJ TE 184 [(0,YR k),(2,YR id)]=some (AW.v ⟨lQ k id,YM⟩):=zM rfl rfl
theorem Gz{u:Un}{w:Φ}:aJ TE 184 [(0,YR 1),(1,u.v w)]=some (AW.v ⟨fI u,w⟩):=acb rfl rfl
theorem Wi{x:Mk}:aJ TE 184 [(0,YR 5),(5,x.v)]=some (AW.v ⟨jY x,YM⟩):=zL rfl rfl
theorem zo{a b:Int}:aJ TE 53 [(0,YR a),(1,YR b)]=some (Fc.v ⟨a,b⟩):=adv rfl rfl
theorem tj{α:Type}{p:α->Bool}:∀{l:List α} {i:Nat} {x:α},l[i]?=some x->p x->(∀j y,j<i->l[j]?=some y->p y=false)->l.find? p=some x
 |[],i,x,h,_,_=>by grind
 |a::l,0,x,h,H,_=>by grind
 |a::l,i+1,x,h,H,hn=>by
  rw[List.find?_cons,hn 0 a (by omega) rfl];exact tj (by simpa using h) H λj y hj hy=>hn (j+1) y (by omega) (by grind)
structure KY(us:List Un)(id:Int)(m':M)(u:Un)(w:Φ)(b:Bool):Prop where
 sl:Sl m' u.shape w
 ln:u.shape.length < 1000000
 eq:ck us id=if b=true then some u else none
 z:b=false->u=.z
theorem fJ.SP{us:List Un}{id:Int}{m':M}{H:Φ}(h:fJ us id m' H)(hP:cq us):∃u w b,H=.tuple #[u.v w,.bool b]/\KY us id m' u w b:=by
 unfold fJ at h;cases e:ck us id with
 |none=>rw[e]at h;exact⟨.z,YM,false,h,.nil,by decide,by grind,λ_=>rfl⟩
 |some u=>rw[e]at h;have⟨w,h1,h2⟩:=h;have:=jc (hP.val u (fX e).1);exact⟨u,w,true,h1,h2,by omega,by grind,λh=>by cases h⟩
theorem KY.aE{us:List Un}{id:Int}{m' m'':M}{u:Un}{w:Φ}{b:Bool}(h:KY us id m' u w b)(H:Ext m' m''):KY us id m'' u w b:=⟨h.sl.aE H,h.ln,h.eq,h.z⟩
theorem Ri{u:Un}:(fI u).kind≠3/\(fI u).kind≠4:=⟨(by decide:(1:Int)≠3),(by decide:(1:Int)≠4)⟩
theorem Ze{x:Mk}:(jY x).kind≠3/\(jY x).kind≠4:=⟨(by decide:(5:Int)≠3),(by decide:(5:Int)≠4)⟩
theorem Od{k id:Int}(h:k≠3/\k≠4):(lQ k id).kind≠3/\(lQ k id).kind≠4:=h
theorem JN:([]:List Pl).length<1000000:=by decide
theorem aee{b:Nat}{x:Mk}{g:Option Nat}(h:m.get b=.cells x.c 137 g):ah TE m 4 (Ga b (0+4))=some (.bool x.Hq):=by rw[uH,aI h];rfl
set_option maxHeartbeats 4000000 in
theorem KS(hX:cd X){y:Yd}{r r2 st rc mo:Φ}{t:Tk}{w:Φ}(hV:lR m y r r2 st rc mo)(hP:qG y)(hw:Sl m t.un.shape w)(u5:t.un.shape.length < 100000)(v5:1<=t.kind/\t.kind<=9):
  ∃rv m',C X (.func 133) [yv r r2 st rc mo,t.v w] m m.n rv m'/\Ext m m'/\zR (jA wQ dz cZ y t) m' rv:=by
 refine Cl.EL hX (Kg func133) ?_;have N2:=hV.dS;have⟨⟨l,u0,hF⟩,N0,⟨kl,T1,hK⟩,O2,C3⟩:=hV;have P2:cq (bM l):=by rw[u0];exact hP.qE
 have R4:l.length<=12:=by have:=hP.qE.len;rwa[<-u0,cx]at this
 have W4:kl.length<=12:=by have:=hP.Qq;rwa[<-T1,qn]at this
 have a5:=hP.Ss;have b5:=hP.SF;have D3:=hP.BN.len
 have H:∀R:Bt->M->Nat->Prop,(∀(v:Φ) (b:Bool) (m':M) (lo:Nat),m.n<=lo->Ext m m'->zR (jA wQ dz cZ y t) m' (.tuple #[v,.bool b])->R [v,.bool b] m' lo)->dk TE (aL TE X) f133 [yv r r2 st rc mo,t.v w] m R:=by
  intro R hR;rw[aaF];dsimp only[aL,Fm,Wo,Zt,LH,RW,ZC,Ke,Oq,JW,Qt,JA,Wb,IJ,Nn,RI,Γ,Δ,Θ,Λ,ω];refine aw λm1 w5 Q2 E3=>?_;refine aw λm2 y5 T2 d3=>?_;have g3:Ext m m2:=⟨by omega,by grind⟩
  have g1:m2.get m.n=.cells (yc r r2 st rc mo) 38 none:=by rw[d3 _ (by omega)];exact Q2
  have g2:m2.get m1.n=.cells (t.c w) 62 none:=T2;clear Q2 E3 T2 d3;unfold ptrTo;simp only[cF,dG,dF,eV,bV,cB,bJ,cn,di,bZ,cE,cD,dh,bz,ae];rw[(dW g1).1,ae,(nq g2).2.1,ae];obtain⟨rv,m8,c8,x8,f8⟩:=iW (m:=m2) hX (hF.aE g3) (by omega) N0.one t.id;refine aG c8 ?_;obtain⟨u,wu,is,rfl,fu⟩:=f8.SP P2;have n8:=x8.n;rw[aH,aH];simp only[zi,F9,ae];refine aw λm12 d5 H1 d2=>?_;refine aC dm H1 rfl rfl (Un.cH fu.sl.one) λm13 e5 I1 i3=>?_;have gu:m13.get m8.n=.cells (u.c wu) 60 none:=I1;have O0:Ext m8 m13:=⟨by omega,by grind⟩
  have A0:=x8.trans O0;have d0:=g3.trans A0;have g1:=A0.cells g1;have g2:=A0.cells g2;have fu:=fu.aE O0;have n13:=O0.n;clear H1 d2 I1 i3;have⟨tk,tid,Jf,G3,z5⟩:=nq g2;rw[u0]at fu;have i2:m.n<=min (min m.n m2.n) m8.n:=by omega
  generalize min (min m.n m2.n) m8.n=H3 at i2;obtain⟨D,hD⟩:∃D,D=jA wQ dz cZ y t:=⟨_,rfl⟩
  rw[<-hD]at hR;unfold jA at hD;have I3:(ck y.us t.id).isSome=is:=by rw[fu.eq];cases is <;>rfl
  rw[tk,ae,aS,ae,aj];refine an (λk1=>?_) (λk1=>?_)
  ·rw[Tf (NT k1)]at hD;rw[rh g2,ae,Gz,ae];refine yB (x:=⟨fI t.un,w⟩) hw.one (hw.aE d0) (by show t.un.shape.length < 1000000;omega) Ri λm22 n0 n22 _ a22=>?_;rw[(dW (n0.cells g1)).2.2.2.2,ae,(rX (n0.cells g2)).1,ae];refine aG (vo (y:=y) hX (hK.aE (d0.trans n0)).sl (by omega) N2 _) ⟨Ox _,?_⟩;rw[aM,ae,Rn];have e:(y.st.any λk=>decide (k.un.id=t.un.id))=kl.any λx=>decide (x.u.id=t.un.id):=by rw[<-T1];unfold EK;rw[List.any_map];rfl
   rw[e]at hD;refine hR _ _ _ _ (by omega) (d0.trans n0) ?_;cases hc:kl.any λx=>decide (x.u.id=t.un.id)
   ·rw[QL (by grind)]at hD;rw[hD];exact⟨_,_,rfl,rfl,a22⟩
   rw[Tf hc]at hD;rw[hD];exact⟨_,rfl⟩
  rw[QL (Ja k1)]at hD;rw[aS,ae,aj];refine an (λk2=>?_) (λk2=>?_)
  ·rw[Tf (NT k2),I3]at hD
   refine aZ (λvs mm lo=>∃v b,vs=[v,.bool b]/\m.n<=lo/\Ext m mm/\zR D mm (.tuple #[v,.bool b])) (λQ hQ=>?_) ?_
   ·rw[tid,ae,zn,ae];refine yB (x:=⟨lQ 2 t.id,YM⟩) rfl .nil JN (Od (by decide)) λm22 n0 n22 _ a22=>?_;rw[aj];refine an (λc=>?_) (λc=>hQ _ _ _ ⟨_,_,rfl,by omega,d0.trans n0,by rw[QL (by grind)]at hD;rw[hD];exact⟨_,rfl⟩⟩);rw[(dW (n0.cells g1)).2.1,ae,(hK.aE (d0.trans n0)).sl.len eM,az,aM,ae];refine hQ _ _ _ ⟨_,_,rfl,by omega,d0.trans n0,?_⟩;rw[c,ZD]at hD;have e:y.st.length=kl.length:=by grind
    by_cases p0:kl.length < 12
    ·rw[Tf (by grind)]at hD;rw[hD,IH (show(kl.length:Int)< 12 by omega)];exact⟨_,_,rfl,rfl,a22⟩
    rw[QL (by grind)]at hD;rw[hD,Dh (show¬(kl.length:Int)< 12 by omega)];exact⟨_,rfl⟩
   rintro _ mm lo ⟨v,b,rfl,h1,h2,h3⟩
   rw[aB,aB]
   grind
  rw[QL (Ja k2)]at hD;rw[aS,ae,aj];refine an (λk3=>?_) (λk3=>?_)
  ·rw[Tf (NT k3)]at hD;rw[(dW g1).2.2.2.2,ae,tid,ae];have v0:=hK.aE d0;refine aG (vo (y:=y) hX v0.sl (by omega) N2 _) ?_
   have e0:∀p:KW->Bool,(∀x,p x=decide (x.u.id=t.id))->(y.st.find? λk=>decide (k.un.id=t.id))=(kl.find? p).map KW.k:=λp hp=>by
    rw[<-T1];unfold EK
    rw[List.find?_map]
    congr 2
    funext x
    exact(hp x).symm
   rcases kG (λx:KW=>decide (x.u.id=t.id)) kl with⟨e1,e2⟩ |⟨i,x,e1,e2,e3,e4⟩
   ·rw[e1,aM,ae,aj,IH (by decide),bH];have:kl.find? (λx:KW=>decide (x.u.id=t.id))=none:=Fl.2 λx hx=>by grind
    rw[e0 _ λ_=>rfl,this]at hD;exact hR _ _ _ _ (by omega) d0 (by rw[hD];exact⟨_,rfl⟩)
   rw[e0 _ λ_=>rfl,tj e2 e3 e4]at hD;have hD:D=some (fI x.u::x.ms.map jY):=hD;have K0:=LZ e2;rw[e1,aM,ae,aj,tx,aN,(dW g1).2.1,ae];have⟨b0,o0,bc,g0,cs,q1,q2,q3,q4,q5⟩:=v0.sl.fa eM (k:=.i64) e2;obtain⟨rfl,o1,o2⟩:cs=x.c/\one x.w=true/\one x.mv=true:=q3;have A5:=M.aU q2;rw[q1,ae,bW,ae];have q4:o0+7<=bc.length:=q4
   have lu:ah TE m13 60 (.pointer (some ⟨b0,o0+0,none⟩))=some (x.u.v x.w):=by
    rw[nF,aQ (n:=6) q2 (by omega)]
    have:(bc.drop (o0+0)).take 6=x.u.c x.w:=by
     apply OG;intro j;rw[FM];split
     ·rename_i hj
      rw[Kb,PD,q5 j (by show j < 7;omega)]
      match j,hj with
      |0,_=>rfl
      |1,_=>rfl
      |2,_=>rfl
      |3,_=>rfl
      |4,_=>rfl
      |5,_=>rfl
      |j+6,hj=>omega
     rename_i hj;exact(M8 (by grind)).symm
    rw[this];rfl
   rw[lu,ae,Gz,ae];refine yB (x:=⟨fI x.u,x.w⟩) o1 (v0.sh x K0) (v0.ln x K0) Ri λm64 J3 B5 K3 a64=>?_
   have f5:x.ms.length<=20:=by
    have hm:x.k∈y.st:=by grind
    exact(hP.FO _ hm).len
   refine Lp.intro (γ:=Nat) (λj=>x.ms.length-j) (λj vs mm lo=>∃v,vs=[v,.int .i64 j]/\j<=x.ms.length/\Ext m13 mm/\m.n<=lo/\Ap m13.n mm (⟨fI x.u,x.w⟩::(x.ms.take j).map λk=>(⟨jY k,YM⟩:AW)) v) 0 ⟨_,rfl,ZE _,J3,by omega,.inr ⟨_,_,_,rfl,K3,a64.sl⟩⟩ ?_;rintro j vs mm lo ⟨v,rfl,hj,i0,k0,j2⟩;have nm:=i0.n;have E1:=v0.aE i0
   have lm:ah TE mm 31 (.pointer (some ⟨b0,o0+6,none⟩))=some x.mv:=by rw[ki,aI (i0.cells q2)];exact q5 6 (by show 6 < 7;decide)
   rw[aB,aB,(dW (i0.cells g1)).2.1,ae,q1,ae,cO,ae,lm,ae,(E1.mv x K0).len dv,az,aM,ae,aj];refine an (λp0=>?_) (λB0=>?_)
   ·have p0:j < x.ms.length:=by grind
    obtain⟨z,hz⟩:∃z,x.ms[j]?=some z:=⟨_,Fx p0⟩
    have⟨p,p1,p2⟩:=(E1.mv x K0).qZ (k:=.i64) hz;rw[ae,q1,ae,cO,ae,lm,ae,p1,ae,p2,ae,Wi,ae,FF,az];obtain⟨j3,P0⟩:∃q,q=mm.push (.cells (AW.c ⟨jY z,YM⟩) 184 none):=⟨_,rfl⟩
    rw[<-P0];have J0:Ext mm j3:=P0 ▸ Ext.refl.push;have l3:j3.get mm.n=.cells (AW.c ⟨jY z,YM⟩) 184 none:=by rw[P0];exact M.aX
    obtain⟨v',C5,s1,s2,s3,s4,s5⟩:=(j2.aE J0).append PN rfl (gU (x:=(⟨jY z,YM⟩:AW)) l3 ⟨rfl,rfl⟩) (by simp) (by have:=J0.n;omega) (by grind);rw[s1,az,aP,ae,wrap64];have:=J0.n;refine⟨j+1,by omega,v',by grind,by omega,⟨by omega,λc hc=>by rw[s5 c hc,J0.get c (by omega),i0.get c hc]⟩,by omega,.inl ?_⟩;rw[Q1,hz,Cu];exact s2
   have C0:j=x.ms.length:=by have:¬(j:Int)< (x.ms.length:Int):=Ja B0;omega
   subst C0;rw[V9]at j2;refine hR _ _ _ _ k0 (d0.trans i0) ?_;rw[hD];refine⟨_,_,rfl,by simp_all,j2.sl,λa ha=>?_,λa ha=>?_,λa ha=>?_⟩
   ·rcases RN.1 ha with rfl |ha;·exact E1.sh x K0
    obtain⟨k,_,rfl⟩:=LY.1 ha;exact .nil
   ·rcases RN.1 ha with rfl |ha;·exact E1.ln x K0
    obtain⟨k,_,rfl⟩:=LY.1 ha;exact JN
   rcases RN.1 ha with rfl |ha;·exact Ri
   obtain⟨k,_,rfl⟩:=LY.1 ha;exact Ze
  rw[QL (Ja k3)]at hD;rw[aS,ae,aj];refine an (λk4=>?_) (λk4=>?_)
  ·rw[Tf (NT k4),fu.eq]at hD;have m3:=hF.aE d0;refine Lp.intro (γ:=Nat) (λj=>l.length-j) (λj vs mm lo=>∃z1 z2,vs=[z1,z2,.int .i64 j]/\j<=l.length/\Ext m13 mm/\m.n<=lo/\(is=true->((bM (l.take j)).all λv=> !wQ u v ||dz t.du v.du)=true)) 0 ⟨_,_,rfl,ZE _,.refl,by omega,λ_=>rfl⟩ ?_;rintro j vs mm lo ⟨z1,z2,rfl,hj,i0,k0,r0⟩;have nm:=i0.n;have F1:=m3.aE i0;rw[aB,aB,aB,(xB (i0.cells g1)).2.1,ae,F1.sl.len dc,az,aM,ae,aj];refine an (λp0=>?_) (λB0=>?_)
   ·have p0:j < l.length:=by grind
    obtain⟨x,hx⟩:∃x,l[j]?=some x:=⟨_,Fx p0⟩
    have v2:=LZ hx;have⟨q,q1,q2,ow⟩:=F1.sl.eY (k:=.i64) hx;rw[ae,q1,ae,q2,ae];refine aw λg5 L3 y2 N3=>?_;refine aC dm y2 rfl rfl (Un.cH ow) λd1 O3 A2 d4=>?_;have J1:d1.get mm.n=.cells (x.u.c x.w) 60 none:=A2;have i1:Ext mm d1:=⟨by omega,λc hc=>by grind⟩
    have D0:=i0.trans i1;rw[bU (D0.cells gu),ae,bU J1,ae];refine aG (qb hX (fu.aE D0).sl ((F1.sh x v2).aE i1) fu.ln (F1.ln x v2)) ?_;rw[aH,aH];simp only[zi,F9,ae];refine aw λh5 f4 B2 g4=>?_;refine aC oY B2 (by rw[aT];exact eQ _) (by rw[aT];exact eQ _) (by rw[aT];exact nP _) λK1 h4 j4 l4=>?_;have j1:Ext d1 K1:=⟨by omega,λc hc=>by grind⟩
    have j0:=D0.trans j1;have m4:bM (l.take (j+1))=bM (l.take j)++ [x.u]:=by unfold bM;rw[Q1,hx,Cu];rfl
    refine aZ (λvs m' L0=>vs=[.bool (is && (wQ u x.u && !dz t.du x.u.du))]/\K1=m'/\m.n<=L0) (λQ hQ=>?_) ?_
    ·rw[aj];refine an (λc=>?_) (λc=>hQ _ _ _ ⟨by grind,rfl,by omega⟩);rw[aj];refine an (λd=>?_) (λd=>hQ _ _ _ ⟨by unfold wQ;rw[d,zJ,Qv],rfl,by omega⟩);rw[(nq (j0.cells g2)).2.2.2.2,ae,cL,ae,(kz (j1.cells J1)).2.2.1,ae];refine aG (Fa hX _ _) ?_;rw[bk,ae];exact hQ _ _ _ ⟨by unfold wQ;rw[c,d];rfl,rfl,by omega⟩
    rintro _ _ fO ⟨rfl,rfl,s0⟩;rw[aB,aj];refine an (λc=>?_) (λc=>?_)
    ·rw[JJ,JJ]at c;have⟨ci,ct,cs⟩:=c;rw[ci,Tf rfl,Bd,QL]at hD;·exact hR _ _ _ _ s0 (d0.trans j0) (by rw[hD];exact⟨_,rfl⟩)
     intro r0;rw[<-u0,Jl]at r0;have:=r0 x.u (LY.2 ⟨x,v2,rfl⟩);rw[ct]at this;rw[Jd]at cs;rw[cs]at this;cases this
    rw[aP,ae,wrap64];refine⟨j+1,by omega,z1,z2,by grind,by omega,j0,s0,λhi=>?_⟩;rw[m4,VU,r0 hi,ZD];rw[hi,ZD]at c;simp only[Zb,List.all_nil,Nx];cases hr:wQ u x.u;·rfl
    rw[hr,ZD,Q0]at c;rw[c];rfl
   ·have C0:j=l.length:=by
     have:¬(j:Int)< (l.length:Int):=Ja B0
     omega
    subst C0
    rw[V9,u0]at r0
    rw[(nq (i0.cells g2)).2.2.2.2,ae,cL,ae]
    have n3:=i0.cells gu
    refine bS rf n3 rfl (by show 0+2+1<=6;decide) rfl λy0 n4 C2 E0=>?_
    have o3:y0.get m8.n=.cells (Un.c {u with du:=t.du} wu) 60 none:=C2
    have r3:m1.n≠m8.n:=by grind
    have u3:=(fu.aE i0).sl
    have G1:Sl y0 u.shape wu:=u3.aV λc cs t g hc ht=>by rw[E0 c (λe=>by subst e;rw[n3]at hc;cases hc;simp[aW.ty,aW.cT]at ht),hc]
    rw[(nq ((E0 _ r3).trans (i0.cells g2))).2.1,ae,zn,ae,bU o3,ae,Gz,ae,Ti,az]
    obtain⟨L1,F0⟩:∃q,q=y0.push (.cells (AW.c ⟨lQ 2 t.id,YM⟩++AW.c ⟨fI {u with du:=t.du},wu⟩) 184 none):=⟨_,rfl⟩
    rw[<-F0]
    have G0:Ext y0 L1:=F0 ▸ Ext.refl.push
    have D2:L1.get y0.n=.cells (AW.c ⟨lQ 2 t.id,YM⟩++AW.c ⟨fI {u with du:=t.du},wu⟩) 184 none:=by rw[F0];exact M.aX
    have n155:=G0.n
    refine hR _ _ _ _ (by omega) ⟨by omega,λc hc=>by rw[G0.get c (by omega),E0 c (by omega),i0.get c (by omega),d0.get c hc]⟩ ?_
    cases hi:is with
    |false=>rw[hi]at hD;rw[hD];exact⟨_,rfl⟩
    |true=>
     rw[hi,Tf rfl,Bd,Tf (r0 hi)]at hD;rw[hD];refine⟨_,_,rfl,rfl,Tv D2 rfl u3.one,λa ha=>?_,λa ha=>?_,λa ha=>?_⟩
     ·rcases RN.1 ha with rfl |ha;·exact .nil
      rw[Qk.1 ha];exact G1.aE G0
     ·rcases RN.1 ha with rfl |ha;·exact JN
      rw[Qk.1 ha];exact fu.ln
     rcases RN.1 ha with rfl |ha;·exact Od (by decide)
     rw[Qk.1 ha];exact Ri
  rw[QL (Ja k4)]at hD;rw[aS,ae,aj];refine an (λk5=>?_) (λk5=>?_)
  ·rw[Tf (NT k5)]at hD;have v3:=N0.aE d0;refine Lp.intro (γ:=Nat) (λj=>y.ms.length-j) (λj vs mm lo=>∃v,vs=[v,.int .i64 j]/\j<=y.ms.length/\Ext m13 mm/\m.n<=lo/\Ow m13.n mm (((y.ms.take j).filter (rN t)).map λx=>(⟨lQ 6 x.id,YM⟩:AW)) v) 0 ⟨_,rfl,ZE _,.refl,by omega,Ow.nil⟩ ?_;rintro j vs mm lo ⟨v,rfl,hj,i0,k0,E2⟩;have nm:=i0.n;have w3:=v3.aE i0;rw[aB,aB,(xB (i0.cells g1)).2.2,ae,w3.len dv,az,aM,ae,aj];refine an (λp0=>?_) (λB0=>?_)
   ·have p0:j < y.ms.length:=by grind
    obtain⟨x,hx⟩:∃x,y.ms[j]?=some x:=⟨_,Fx p0⟩
    have⟨p,p1,p2⟩:=w3.qZ (k:=.i64) hx;refine aZ (λvs m' L0=>∃v',vs=[v']/\Ext m13 m'/\m.n<=L0/\Ow m13.n m' (((y.ms.take (j+1)).filter (rN t)).map λx=>(⟨lQ 6 x.id,YM⟩:AW)) v') (λQ hQ=>?_) ?_
    ·rw[ae,p1,ae,p2,ae];refine aw λi5 o4 F2 r4=>?_;refine aC tT F2 rfl rfl rfl λr1 u4 G2 v4=>?_;have N1:r1.get mm.n=.cells x.c 137 none:=G2;have u1:Ext mm r1:=⟨by omega,λc hc=>by grind⟩
     have j0:=i0.trans u1;obtain⟨a0,a1,a2,a3, -⟩:=CL N1;have a4:=aee N1;obtain⟨-,b1, -,b3, -⟩:=nq (j0.cells g2);have O1:=E2.aE u1;refine aZ (λvs m' L0=>vs=[.bool (rN t x)]/\r1=m'/\m.n<=L0) (λQ' H0=>?_) ?_
     ·rw[dn,ae,a1,ae,b1,ae,aS,ae,aj];unfold rN at H0;refine an (λc1=>?_) (λc1=>H0 _ _ _ ⟨by grind,rfl,by omega⟩);rw[eE,ae,a2,ae,b3,ae,aS,ae,aj];refine an (λc2=>?_) (λc2=>H0 _ _ _ ⟨by grind,rfl,by omega⟩);rw[jU,ae,a4,ae,aj];refine an (λc3=>?_) (λc3=>H0 _ _ _ ⟨by grind,rfl,by omega⟩);rw[jV,ae,a3,ae,aS,ae,aj];refine an (λc4=>H0 _ _ _ ⟨by grind,rfl,by omega⟩) (λc4=>?_);rw[ae,a3,ae,aS,ae,aj];refine an (λc5=>H0 _ _ _ ⟨by grind,rfl,by omega⟩) (λc5=>?_);rw[ae,a3,ae,aS,ae];exact H0 _ _ _ ⟨by grind,rfl,by omega⟩
     rintro _ _ fO ⟨rfl,rfl,s0⟩;rw[aB,aj];refine an (λc=>?_) (λc=>?_)
     ·rw[bX,ae,a0,ae,zn,ae]
      have D5:((y.ms.take j).filter (rN t)).length<=j:=by have:=Ei (rN t) (y.ms.take j);rw[Gy]at this;omega
      refine fq (T:=146) (x:=(⟨lQ 6 x.id,YM⟩:AW)) PN rfl O1 (by omega) (by grind) FF (λ_=>⟨rfl,rfl⟩) λr' j5 w2 n2 k2 E5 l2=>?_;refine hQ _ _ _ ⟨r',rfl,⟨by omega,λc hc=>by rw[k2 c hc,j0.get c hc]⟩,by omega,?_⟩;rw[Q1,hx,WN,Cu];simp only[Gf,Lm,c,RK,Wm,Kt,Rj];exact w2
     refine hQ _ _ _ ⟨v,rfl,j0,s0,?_⟩;rw[Q1,hx,WN,Cu];simp only[Gf,Lm,c,Wm,Rj,Zu];simpa using O1
    rintro _ m' L0 ⟨v',rfl,h1,h2,h3⟩;rw[aB,aP,ae,wrap64];exact⟨j+1,by omega,v',by grind,by omega,h1,h2,h3⟩
   have C0:j=y.ms.length:=by have:¬(j:Int)< (y.ms.length:Int):=Ja B0;omega
   subst C0;rw[V9]at E2;obtain⟨-,b1, -,b3, -⟩:=nq (i0.cells g2);rw[(dW (i0.cells g1)).1,ae,b1,ae,b3,ae];refine aG (AN hX (hF.aE (d0.trans i0)) (by omega) N0.one _ _) ?_;rw[u0];refine hR _ _ _ _ (by omega) (d0.trans i0) ?_;cases hf:yT y.us t.id t.side
   ·rw[QL (by grind)]at hD;rw[hD];exact⟨_,rfl⟩
   rw[Tf hf]at hD;rw[hD];refine⟨_,_,rfl,by simp_all,E2.sl,λa ha=>?_,λa ha=>?_,λa ha=>?_⟩;·obtain⟨k,_,rfl⟩:=LY.1 ha;exact .nil
   ·obtain⟨k,_,rfl⟩:=LY.1 ha;exact JN
   obtain⟨k,_,rfl⟩:=LY.1 ha;exact Od (by decide)
  rw[QL (Ja k5)]at hD;rw[aS,ae,aj];refine an (λk6=>?_) (λk6=>?_)
  ·rw[Tf (NT k6)]at hD;rw[tid,ae,zn,ae];refine yB (x:=⟨lQ 7 t.id,YM⟩) rfl .nil JN (Od (by decide)) λm22 n0 n22 _ a22=>?_;exact hR _ _ _ _ (by omega) (d0.trans n0) (by rw[hD];exact⟨_,_,rfl,rfl,a22⟩)
  rw[QL (Ja k6)]at hD;rw[aS,ae,aj];refine an (λk7=>?_) (λk7=>?_)
  ·rw[Tf (NT k7)]at hD;rw[tid,ae,zn,ae];refine yB (x:=⟨lQ 6 t.id,YM⟩) rfl .nil JN (Od (by decide)) λm22 n0 n22 _ a22=>?_;exact hR _ _ _ _ (by omega) (d0.trans n0) (by rw[hD];exact⟨_,_,rfl,rfl,a22⟩)
  rw[QL (Ja k7)]at hD;rw[aS,ae,aj];refine an (λk8=>?_) (λk8=>?_)
  ·rw[Tf (NT k8)]at hD;rw[tid,ae,G3,ae,zo,ae];refine aw λl5 w4 H2 y4=>?_;refine aC qI H2 rfl rfl rfl λv1 z4 I2 A4=>?_;have y3:v1.get m13.n=.cells (Fc.c ⟨t.id,t.side⟩) 53 none:=I2;have q0:Ext m13 v1:=⟨by omega,λc hc=>by grind⟩
   have j0:=d0.trans q0;obtain⟨-,b1, -,b3, -⟩:=nq (q0.cells g2);have B4:y.rc.length < 1000000:=by omega
   refine aZ (λvs mm lo=>∃b,vs=[YM,.bool b]/\v1=mm/\m.n<=lo/\D=if b=true then some []else none) (λQ hQ=>?_) ?_
   ·rw[(dW (q0.cells g1)).1,ae,b1,ae,b3,ae];refine aG (AN hX (hF.aE j0) (by omega) N0.one _ _) ?_;rw[u0,aj];refine an (λc=>?_) (λc=>hQ _ _ _ ⟨false,rfl,rfl,by omega,by grind⟩);rw[c,ZD]at hD;rw[(dW (q0.cells g1)).2.2.1,ae,(O2.aE j0).len dA,az,aM,ae,aj];refine an (λd=>hQ _ _ _ ⟨true,rfl,rfl,by omega,?_⟩) (λd=>?_)
    ·have d:=NT d;rw[Tf (by grind)]at hD;exact hD
    have d:=Ja d;rw[(dW (q0.cells g1)).2.2.2.2,ae,(qq y3).2.2,ae];refine aG (qM hX (O2.aE j0) B4 _) ?_;refine hQ _ _ _ ⟨_,rfl,rfl,by omega,?_⟩;rw[Dh (show¬y.rc.length < 60 by omega),Qw]at hD;exact hD
   rintro _ _ lo ⟨b,rfl,rfl,z3,J2⟩;rw[aB,aB];refine hR _ _ _ _ z3 j0 ?_;rw[J2];cases b;·exact⟨_,rfl⟩
   exact⟨[],_,rfl,rfl,.nil⟩
  rw[QL (Ja k8),fu.eq]at hD;rw[(dW g1).1,ae,Jf,ae];obtain⟨G5,w1,A3,P1,f280⟩:=iW (m:=m13) hX (hF.aE d0) (by omega) N0.one t.other;refine aG A3 ?_;obtain⟨u2,w2,H5,rfl,y1⟩:=f280.SP P2;rw[u0]at y1;have n280:=P1.n;rw[aH,aH];simp only[zi,F9,ae];refine aw λm5 C4 K2 D4=>?_;refine aC dm K2 rfl rfl (Un.cH y1.sl.one) λz0 E4 L2 F4=>?_;have gv:z0.get w1.n=.cells (u2.c w2) 60 none:=L2;have A1:Ext w1 z0:=⟨by omega,λc hc=>by grind⟩
  have j0:=P1.trans A1;rw[bU (j0.cells gu),ae,bU gv,ae];refine aG (qb hX (fu.aE j0).sl (y1.aE A1).sl fu.ln y1.ln) ?_;rw[aH,aH];simp only[zi,F9,ae];refine aw λn5 G4 M2 H4=>?_;refine aC oY M2 (by rw[aT];exact eQ _) (by rw[aT];exact eQ _) (by rw[aT];exact nP _) λB1 J4 K4 L4=>?_;have I0:Ext z0 B1:=⟨by omega,λc hc=>by grind⟩
  have C1:=j0.trans I0;have B3:=d0.trans C1;have n295:=I0.n;have D1:=C3.aE B3;obtain⟨-,b1,b2, -,b4⟩:=nq (C1.cells g2);have o5:m.n<=min (min (min (min H3 m13.n) w1.n) z0.n) z0.n:=by omega
  refine Lp.intro (γ:=Nat) (λj=>y.mo.length-j) (λj vs mm lo=>vs=[.bool ((y.mo.take j).any λx=>decide (x.a=t.id) && decide (x.b=t.other)),.int .i64 j]/\j<=y.mo.length/\B1=mm/\m.n<=lo) 0 ⟨rfl,ZE _,rfl,by omega⟩ ?_;rintro j vs mm lo ⟨rfl,hj,rfl,k0⟩;rw[aB,aB,(dW (C1.cells g1)).2.2.2.1,ae,D1.len jH,az,aM,ae,aj];refine an (λp0=>?_) (λB0=>?_)
  ·have p0:j < y.mo.length:=by grind
   obtain⟨x,hx⟩:∃x,y.mo[j]?=some x:=⟨_,Fx p0⟩
   obtain⟨b,o,e1, -,l0,l1⟩:=Au D1 hx
   have r5:((y.mo.take (j+1)).any λx=>decide (x.a=t.id) && decide (x.b=t.other))=(((y.mo.take j).any λx=>decide (x.a=t.id) && decide (x.b=t.other)) ||(decide (x.a=t.id) && decide (x.b=t.other))):=by rw[Q1,hx,List.any_append];simp
   have ej:((j+1:Nat):Int)=(j:Int)+1:=by omega
   rw[aj];refine an (λc=>?_) (λc=>?_)
   ·rw[aP,ae,wrap64];exact⟨j+1,by omega,by grind,by omega,rfl,k0⟩
   rw[ae,e1,ae,dO,ae,l0,ae,b1,ae,aS,ae,aj];refine an (λc1=>?_) (λc1=>?_)
   ·rw[ae,e1,ae,eF,ae,l1,ae,b2,ae,aS,ae,aP,ae,wrap64];exact⟨j+1,by omega,by grind,by omega,rfl,k0⟩
   rw[aP,ae,wrap64];exact⟨j+1,by omega,by grind,by omega,rfl,k0⟩
  have C0:j=y.mo.length:=by have:¬(j:Int)< (y.mo.length:Int):=Ja B0;omega
  subst C0;rw[V9];obtain⟨A,hA⟩:∃A,A=y.mo.any λx=>decide (x.a=t.id) && decide (x.b=t.other):=⟨_,rfl⟩
  rw[<-hA]at hD⊢;have N4:=kz (C1.cells gu);have O4:=kz (I0.cells gv);refine aZ (λvs mm lo=>∃b,vs=[YM,.bool b]/\B1=mm/\m.n<=lo/\D=if b=true then some []else none) (λQ hQ=>?_) ?_
  ·rw[aj];refine an (λc=>?_) (λc=>hQ _ _ _ ⟨false,rfl,rfl,k0,by grind⟩);rw[c,Tf rfl,Bd,y1.eq]at hD;rw[aj];refine an (λc2=>?_) (λc2=>hQ _ _ _ ⟨false,rfl,rfl,k0,by grind⟩);rw[c2,Tf rfl,Bd]at hD;rw[aj];unfold wQ at hD;refine an (λc3=>?_) (λc3=>hQ _ _ _ ⟨false,rfl,rfl,k0,by grind⟩);rw[c3,ZD]at hD;rw[b4,ae,cL,ae,N4.2.2.1,ae];refine aG (vu hX _ _) ?_;rw[aj];refine an (λc4=>?_) (λc4=>hQ _ _ _ ⟨false,rfl,rfl,by omega,by grind⟩);rw[c4,ZD]at hD;rw[b4,ae,cL,ae,O4.2.2.1,ae];refine aG (vu hX _ _) ?_;rw[aj];refine an (λc5=>?_) (λc5=>hQ _ _ _ ⟨false,rfl,rfl,by omega,by grind⟩);rw[c5,ZD]at hD;rw[(dW (C1.cells g1)).2.2.2.1,ae,D1.len jH,az,aM,ae,aj];refine an (λc6=>hQ _ _ _ ⟨true,rfl,rfl,by omega,?_⟩) (λc6=>hQ _ _ _ ⟨A,rfl,rfl,by omega,?_⟩)
   ·have c6:=NT c6;rw[Tf (by grind)]at hD;exact hD
   have c6:=Ja c6;rw[Dh (show¬y.mo.length < 20 by omega),Qw]at hD;exact hD
  rintro _ _ fO ⟨b,rfl,rfl,s0,J2⟩;rw[aB,aB];refine hR _ _ _ _ s0 B3 ?_;rw[J2];cases b;·exact⟨_,rfl⟩
  exact⟨[],_,rfl,rfl,.nil⟩
 refine H _ λv b m' lo i2 hx hs=>?_;show(bA (.tuple #[v,.bool b])=true/\m.n<=lo/\(m.n=m.n/\Ext m m/\zR _ m (.tuple #[v,.bool b])))\/((bA (.tuple #[v,.bool b])=false\/lo < m.n)/\(min m.n lo=m.n/\Ext m m'/\zR _ m' (.tuple #[v,.bool b])));cases hf:bA (.tuple #[v,.bool b]);·exact .inr ⟨.inl rfl,by omega,hx,hs⟩
 exact .inl ⟨rfl,i2,rfl,.refl,hs.flat hf m⟩
theorem PS{iI:Un->Un->Bool}{a0 H:Int->Int->Bool}{y:Yd}{t:Tk}{L:List Ac}(hP:qG y)(h:jA iI a0 H y t=some L):L.length<=40:=by
 have b0:=hP.BN.len;unfold jA at h;split at h;·grind
 split at h;·grind
 split at h
 ·obtain⟨k,hk,rfl⟩:=Tq.1 h;have:=(hP.FO k (ZT hk)).len;grind
 split at h
 ·have⟨u,hu,h⟩:=Me.1 h;grind
 split at h;·grind
 split at h;·grind
 split at h;·grind
 split at h;·grind
 ·have⟨u,hu,h⟩:=Me.1 h;have⟨v,hv,h⟩:=Me.1 h;grind
noncomputable def kb(iI:Un->Un->Bool)(a0 H:Int->Int->Bool)(y:Yd)(t:Tk):Option (List Un×List Mk):=if dB t=true then(jA iI a0 H y t).bind λl=>gA y.us y.ms l else none
def zQ(D:Option (List Un×List Mk))(m':M)(H:Φ):Prop:=match D with
 |some (vs,ns)=>∃v r r2,H=.tuple #[v,.agg #[r,r2],.bool true]/\gC vs ns m' (.agg #[r,r2])
 |none=>∃v r r2,H=.tuple #[v,.agg #[r,r2],.bool false]/\one r=true/\one r2=true
theorem zQ.flat{D:Option (List Un×List Mk)}{m':M}{v t u:Φ}(h:zQ D m' (.tuple #[v,t,u]))(hf:bA (.tuple #[v,t,u]))(m:M):zQ D m (.tuple #[v,t,u]):=by
 unfold zQ at h⊢;split at h;·have⟨v',r,r2,e,hs⟩:=h;cases e;have H:(D.dC v && (D.dC (.agg #[r,r2]) && (true && true))):=hf;rw[JJ,JJ]at H;exact⟨v,r,r2,rfl,hs.dC H.2.1 m⟩
 exact h
set_option maxHeartbeats 1000000 in
theorem abS(hX:cd X){y:Yd}{r r2 st rc mo:Φ}{t:Tk}{w:Φ}(hV:lR m y r r2 st rc mo)(hP:qG y)(hw:Sl m t.un.shape w)(r0:t.un.shape.length < 100000):
  ∃rv m',C X (.func 70) [yv r r2 st rc mo,t.v w] m m.n rv m'/\Ext m m'/\zQ (kb wQ dz cZ y t) m' rv:=by
 refine Cl.EL hX (Kg func70) ?_
 have H:∀R:Bt->M->Nat->Prop,(∀(v t' u:Φ) (m':M) (lo:Nat),m.n<=lo->Ext m m'->zQ (kb wQ dz cZ y t) m' (.tuple #[v,t',u])->R [v,t',u] m' lo)->dk TE (aL TE X) f70 [yv r r2 st rc mo,t.v w] m R:=by
  intro R hR
  rw[F70];dsimp only[δ,ε,η,θ,ι,ξ,ο,ρ,ς,υ,χ,ψ,Δ,ω]
  refine aw λm1 k1 s0 F0=>?_
  refine aw λm2 l1 u0 v0=>?_
  refine aw λm3 p1 y0 n0=>?_
  have e0:Ext m m3:=⟨by omega,by grind⟩
  have g1:m3.get m.n=.cells (yc r r2 st rc mo) 38 none:=by rw[n0 _ (by omega),v0 _ (by omega)];exact s0
  have g2:m3.get m1.n=.cells (t.c w) 62 none:=by rw[n0 _ (by omega)];exact u0
  have gz:m3.get m2.n=.cells [YM,YM] 33 none:=y0
  clear s0 F0 u0 v0 y0 n0
  unfold ptrTo
  have o0:=hV.aE e0
  have z0:=hw.aE e0
  have bad:∀{mm:M} {lo:Nat} {v:Φ},mm.get m2.n=.cells [YM,YM] 33 none->m.n<=lo->(∀c,c < m.n->mm.get c=m.get c)->m.n<=mm.n->kb wQ dz cZ y t=none->
    ai (aJ TE 33 []) λv20=>aO (aD TE mm 33 (.pointer (some ⟨m2.n,0,none⟩)) v20) λm21 G0=>ai (ah TE m21 33 (.pointer (some ⟨m2.n,0,none⟩))) λv23=>R [v,v23,Zf] m21 (min lo G0):=by
   intro mm lo v g j0 hk hn e
   rw[qA,ae]
   refine aC eH g rfl rfl rfl λm' r1 H0 u1=>?_
   rw[(jC H0).2.2.2,ae]
   refine hR _ _ _ _ _ (by omega) ⟨by omega,by grind⟩ ?_
   rw[e]
   exact⟨v,_,_,rfl,rfl,rfl⟩
  refine aZ (λvs mm lo=>vs=[.bool (!dB t)]/\m3=mm/\m.n<=lo) (λQ hQ=>?_) ?_
  ·rw[(dW g1).2.2.2.2,ae];refine aG (EV hX o0 hP) ?_;rw[bk,ae,aj];show gH false _ _;rw[aN,gI g2,ae];refine aG (Ed hX z0 r0) ?_;rw[bk,ae];exact hQ _ _ _ ⟨rfl,rfl,by omega⟩
  rintro _ _ lo ⟨rfl,rfl,j0⟩
  rw[aB,aj]
  refine an (λc=>?_) (λc=>?_)
  ·rw[Jd]at c;exact bad gz j0 (λc hc=>e0.get c hc) (by omega) (by unfold kb;rw[QL (by grind)])
  rw[Q0]at c
  have hS:kb wQ dz cZ y t=(jA wQ dz cZ y t).bind λl=>gA y.us y.ms l:=by unfold kb;rw[Tf c]
  rw[(dW g1).2.2.2.2,ae,gI g2,ae]
  have⟨rv,I0,J0,b0,a27⟩:=KS (m:=m3) hX o0 hP z0 r0 (rG c)
  refine aG J0 ?_
  have n27:=b0.n
  unfold zR at a27
  cases hA:jA wQ dz cZ y t with
  |none=>rw[hA]at a27 hS;obtain⟨v,rfl⟩:=a27;rw[aH,aH];simp only[zi,F9,ae];rw[bk,ae,aj,Km,bH];exact bad (b0.cells gz) (by omega) (λc hc=>by rw[b0.get c (by omega),e0.get c hc]) (by omega) hS
  |some L=>
   rw[hA]at a27 hS
   obtain⟨al,v,rfl,hL,A0⟩:=a27
   have K0:al.length<=40:=by have:=PS hP hA;rwa[<-hL,Gv]at this
   rw[aH,aH]
   simp only[zi,F9,ae]
   rw[bk,ae,aj,V8,aN,cF,ae,(dW (b0.cells g1)).1,ae]
   obtain⟨⟨l,p0,hF⟩,L0, -⟩:=o0.aE b0
   obtain⟨N0,k0,O0,q0,d0⟩:=MW (m:=I0) hX hF (by rw[p0];exact hP.qE) L0 (by rw[p0];exact hP.BN) A0 K0
   refine aG O0 ?_
   rw[p0,hL]at d0
   have hS:kb wQ dz cZ y t=gA y.us y.ms L:=hS
   have n39:=q0.n
   have B0:=(b0.trans q0).cells gz
   have b1:∀c,c < m.n->k0.get c=m.get c:=λc hc=>by rw[q0.get c (by omega),b0.get c (by omega),e0.get c hc]
   obtain⟨q,q2,n,e,rfl,o1,o2,a0⟩:∃q q2 n e,N0=.tuple #[.agg #[q,q2],.int .i64 n,.int .i64 e]/\one q=true/\one q2=true/\(match gA y.us y.ms L with |some (vs,ns)=>e=0/\gC vs ns k0 (.agg #[q,q2]) |none=>e=170):=by
    unfold tK at d0
    cases hr:gA y.us y.ms L with
    |none=>rw[hr]at d0;obtain⟨n,rfl⟩:=d0;exact⟨_,_,n,170,rfl,rfl,rfl,rfl⟩
    |some d=>have⟨vs,ns⟩:=d;rw[hr]at d0;obtain⟨q,q2,n,rfl,hs⟩:=d0;have⟨_,_,_,e,_,h1,h2⟩:=id hs;cases e;exact⟨q,q2,n,0,rfl,h1.sl.one,h2.one,rfl,hs⟩
   rw[aH,aH,aH]
   simp only[zi,F9,ae]
   refine aw λv1 c1 C0 d1=>?_
   refine aC eH C0 rfl rfl (by show(one q && (one q2 && true))=true;rw[o1,o2];rfl) λD0 e1 g0 i1=>?_
   have g0:D0.get k0.n=.cells [q,q2] 33 none:=g0
   rw[(jC g0).2.2.2,ae,aS,ae]
   have l0:Ext k0 D0:=⟨by omega,by grind⟩
   refine aC eH (l0.cells B0) rfl rfl (by grind) λP0 j1 i0 E0=>?_
   have i0:P0.get m2.n=.cells [q,q2] 33 none:=i0
   rw[(jC i0).2.2.2,ae]
   refine hR _ _ _ _ _ (by omega) ⟨by omega,by grind⟩ ?_
   rw[hS]
   unfold zQ
   cases hr:gA y.us y.ms L with
   |none=>rw[hr]at a0;have a0:e=170:=a0;subst a0;exact⟨v,q,q2,rfl,o1,o2⟩
   |some d=>have⟨vs,ns⟩:=d;rw[hr]at a0;obtain⟨rfl,hs⟩:=a0;refine⟨v,q,q2,rfl,hs.aV λc cs t g hc ht=>?_⟩;have a1:=l0.cells hc;rw[E0 c (by grind),a1]
 refine H _ λv t' u m' lo j0 hx hs=>?_;show(bA (.tuple #[v,t',u])=true/\m.n<=lo/\(m.n=m.n/\Ext m m/\zQ _ m (.tuple #[v,t',u])))\/((bA (.tuple #[v,t',u])=false\/lo < m.n)/\(min m.n lo=m.n/\Ext m m'/\zQ _ m' (.tuple #[v,t',u])));cases hf:bA (.tuple #[v,t',u]);·exact .inr ⟨.inl rfl,by omega,hx,hs⟩
 exact .inl ⟨rfl,j0,rfl,.refl,hs.flat hf m⟩
section
variable {α:Type} (R:α->α->Prop) [DecidableRel R]
def DY(l:List α)(x:α):List α:=(l.filter λy=>decide (R y x))++x::(l.filter λy=>decide (R x y))
def nW(l:List α)(x:α)(add:Bool)(i:Nat)(acc:List α):Prop:=if add=true then acc=l.take i/\∀y∈l.take i,R y x else acc=DY R (l.take i) x/\∃y∈l.take i,¬R y x
variable {R}
theorem filter_none{p:α->Bool}{l:List α}(h:∀y∈l,p y=false):l.filter p=[]:=OD.2 λy H=>by grind
theorem nW.on(H:∀a b c,R a b->R b c->R a c)(a0:∀a,¬R a a){l:List α}{x n:α}{i:Nat}{acc:List α}(h:nW R l x true i acc)(hn:l[i]?=some n)(b0:R n x):nW R l x true (i+1) (acc++ [n]):=by
 unfold nW at h⊢;rw[Tf rfl]at h⊢;obtain⟨rfl,h2⟩:=h;rw[Q1,hn];grind
theorem nW.put(H:∀a b c,R a b->R b c->R a c)(a0:∀a,¬R a a){l:List α}{x n:α}{i:Nat}{acc:List α}(h:nW R l x true i acc)(hn:l[i]?=some n)(b0:¬R n x):nW R l x false (i+1) (acc++ [x]++if R x n then [n]else []):=by
 unfold nW at h⊢;rw[Tf rfl]at h;rw[QL (by decide)];obtain⟨rfl,h2⟩:=h;rw[Q1,hn];refine⟨?_,n,by simp,b0⟩;unfold DY;rw[WN,WN,QJ.2 λy hy=>IH (h2 y hy),filter_none (l:=l.take i) (p:=λy=>decide (R x y)) λy hy=>Dh λhc=>a0 _ (H _ _ _ hc (h2 y hy))];grind
theorem nW.off(e0:∀a b c,R a b->R b c->R a c){l:List α}{x n:α}{i:Nat}{acc:List α}(hs:l.Pairwise R)(h:nW R l x false i acc)(hn:l[i]?=some n):¬R n x/\nW R l x false (i+1) (acc++if R x n then [n]else []):=by
 unfold nW at h⊢;rw[QL (by decide)]at h⊢;obtain⟨rfl,y,hy,a0⟩:=h;have b0:¬R n x:=by
  intro hc;have⟨j,H⟩:=ZZ hy;rw[FM]at H;split at H
  ·rename_i d0;have h1:=OJ.1 H;have h2:=OJ.1 hn;have:=Px.1 hs j i h1.1 h2.1 d0;grind
  cases H
 refine⟨b0,?_,y,?_,a0⟩
 ·rw[Q1,hn];unfold DY;grind
 ·grind
theorem nW.fin{l:List α}{x:α}{add:Bool}{acc:List α}(H:∀a,¬R a a)(a0:∀a b c,R a b->R b c->R a c)(h:nW R l x add l.length acc):(acc++if add=true then [x]else [])=DY R l x:=by
 unfold nW at h;rw[V9]at h;cases add with
 |false=>rw[QL (by decide)]at h⊢;rw[h.1,Zu]
 |true=>
  rw[Tf rfl]at h⊢;obtain⟨rfl,h2⟩:=h;unfold DY;rw[QJ.2 λy hy=>IH (h2 y hy),filter_none (p:=λy=>decide (R x y)) λy hy=>Dh λhc=>H _ (a0 _ _ _ hc (h2 y hy))]
theorem nW.nil{l:List α}{x:α}:nW R l x true 0 []:=by
 unfold nW;grind
end
theorem rB(a b c:Fc):gZ a b->gZ b c->gZ a c:=by unfold gZ;omega
theorem BP(a:Fc):¬gZ a a:=by unfold gZ;omega
theorem BO(a b c:Mo):lP a b->lP b c->lP a c:=by unfold lP;omega
theorem FK(a:Mo):¬lP a a:=by unfold lP;omega
theorem HC{a b:Fc}(h:a≠b):gZ a b\/gZ b a:=by
 unfold gZ;have⟨H,a2⟩:=a;have⟨b1,b2⟩:=b;grind
theorem acX{α:Type}{f:α->Int}{l:List α}{x:α}{k:Nat}(hs:l.Pairwise λa b=>f a<f b)(hk:k<=l.length)(h1:∀y∈l.take k,f y<f x)(h2:∀y,l[k]?=some y->f x<f y):Cb f l x=l.take k++x::l.drop k:=by
 have h3:∀y∈l.drop k,f x<f y:=by
  by_cases a0:k<l.length
  ·rw[JK a0];have e:=h2 _ (Fx a0);intro y H;rcases RN.1 H with rfl|H;·exact e
   ·have b0:=hs.sublist (Ee k l);rw[JK a0,Zv]at b0;grind
  ·grind
 unfold Cb;conv=>lhs;rw[<-Gw k l]
 rw[WN,WN,QJ.2 λy H=>IH (h1 y H),filter_none (l:=l.take k) (p:=λy=>decide (f x<f y)) λy H=>Dh (by grind),
  filter_none (l:=l.drop k) (p:=λy=>decide (f y<f x)) λy H=>Dh (by grind),QJ.2 λy H=>IH (h3 y H)]
 simp
structure nh(O:Nat)(m:M)(r r2:Φ)(sl:List KW)(rl:List Fc)(ml:List Mo)(st rc mo:Φ):Prop where
 cell:m.get O=.cells (yc r r2 st rc mo) 38 none
 st:Ow (O+1) m sl st
 rc:Ow (O+1) m rl rc
 mo:Ow (O+1) m ml mo
 lt:O < m.n
theorem nh.aE{O:Nat}{r r2:Φ}{sl:List KW}{rl:List Fc}{ml:List Mo}{st rc mo:Φ}{m':M}(h:nh O m r r2 sl rl ml st rc mo)(H:Ext m m'):nh O m' r r2 sl rl ml st rc mo:=
 ⟨H.cells h.cell,h.st.aE H,h.rc.aE H,h.mo.aE H,IV h.lt H.n⟩
theorem Nu{x:KW}:aF TE m 34 1 [(0,x.v)]=some (.slice (some ⟨m.n,0,none⟩) 1 1,m.push (.cells x.c 113 none)):=by kernel_rfl
theorem BG{x:Fc}:aF TE m 35 1 [(0,x.v)]=some (.slice (some ⟨m.n,0,none⟩) 1 1,m.push (.cells x.c 53 none)):=by kernel_rfl
theorem ac5{x:Mo}:aF TE m 36 1 [(0,x.v)]=some (.slice (some ⟨m.n,0,none⟩) 1 1,m.push (.cells x.c 109 none)):=by kernel_rfl
section
variable {O:Nat} {r r2:Φ} {sl:List KW} {rl:List Fc} {ml:List Mo} {st rc mo:Φ}
theorem nh.qd(h:nh O m r r2 sl rl ml st rc mo){x:KW}(h1:one x.w/\one x.mv)(hl:sl.length<1000000):
  ∃a m1 r' m2 m3,aF TE m 34 1 [(0,x.v)]=some (a,m1)/\av TE (M.wl m1 (M.n m1)) .append [34,34] [st,a]=some (r',m2)/\aD TE m2 34 (Ga O (0+2)) r'=some (m3,O)/\O+1<=m2.low/\
   nh O m3 r r2 (sl++ [x]) rl ml r' rc mo/\m.n<=m3.n/\(∀c,c<O->m3.get c=m.get c)/\(∀c cs t g,m.get c=.cells cs t g->t≠113->t≠38->m3.get c=.cells cs t g)/\(∀c,c<m.n->c≠O->(∀a n k,st=.slice (some a) n k->c≠a.block)->m3.get c=m.get c)/\(∀a n k,r'=.slice (some a) n k->m.n<=a.block):=by
 obtain⟨m1,b0⟩:∃q,q=m.push (.cells x.c 113 none):=⟨_,rfl⟩
 have a0:Ext m m1:=b0 ▸ Ext.refl.push;have e0:m1.get m.n=.cells x.c 113 none:=by rw[b0];exact M.aX
 have j0:=h.lt;have k0:=a0.n;obtain⟨r',m2,m3,⟨⟨_,pf⟩,pn⟩,p1,p2,p3,p4,p5,p6,p7,p8⟩:=yg (n1:=O+1) (o:=2) CE rfl Mw rfl h.cell (by rfl) (by omega) (by omega) h.st a0 (gU (x:=x) e0 ⟨rfl,h1⟩) hl;have p2:aD TE m2 34 (Ga O (0+2)) r'=some (m3,O):=p2;have fh:∀c cs t g,m.get c=.cells cs t g->t≠113->t≠38->m3.get c=.cells cs t g:=λc cs t g H g0 i0=>by have l0:=M.aU H;have d0:=a0.cells H;rw[p8 c (by omega) (λe=>by subst e;rw[h.cell]at H;cases H;exact i0 rfl) λn0 g' e=>by rw[d0]at e;cases e;exact g0 rfl,d0]
 refine⟨_,m1,r',m2,m3,b0 ▸ Nu,p1,p2,p3,⟨p4,p5,h.rc.aV λc cs t g H ht=>fh c cs t g H ?_ ?_,h.mo.aV λc cs t g H ht=>fh c cs t g H ?_ ?_,by omega⟩,by omega,λc H=>p7 c (by omega) (by omega),fh,λc H h1 h2=>by rw[pn c (by omega) h1 h2,a0.get c H],by grind⟩ <;>
  (simp only[aW.ty,aW.cT,RN,ZX,or_false]at ht;subst ht;decide)
theorem nh.sD(h:nh O m r r2 sl rl ml st rc mo){x:Fc}(hl:rl.length<1000000):
  ∃a m1 r' m2 m3,aF TE m 35 1 [(0,x.v)]=some (a,m1)/\av TE (M.wl m1 (M.n m1)) .append [35,35] [rc,a]=some (r',m2)/\aD TE m2 35 (Ga O (0+3)) r'=some (m3,O)/\O+1<=m2.low/\
   nh O m3 r r2 sl (rl++ [x]) ml st r' mo/\m.n<=m3.n/\(∀c,c<O->m3.get c=m.get c)/\(∀c cs t g,m.get c=.cells cs t g->t≠53->t≠38->m3.get c=.cells cs t g)/\(∀c,c<m.n->c≠O->(∀a n k,rc=.slice (some a) n k->c≠a.block)->m3.get c=m.get c)/\(∀a n k,r'=.slice (some a) n k->m.n<=a.block):=by
 obtain⟨m1,b0⟩:∃q,q=m.push (.cells x.c 53 none):=⟨_,rfl⟩
 have a0:Ext m m1:=b0 ▸ Ext.refl.push;have e0:m1.get m.n=.cells x.c 53 none:=by rw[b0];exact M.aX
 have j0:=h.lt;have k0:=a0.n;obtain⟨r',m2,m3,⟨⟨_,pf⟩,pn⟩,p1,p2,p3,p4,p5,p6,p7,p8⟩:=yg (n1:=O+1) (o:=3) ve rfl CZ rfl h.cell (by rfl) (by omega) (by omega) h.rc a0 (gU (x:=x) e0 rfl) hl;have p2:aD TE m2 35 (Ga O (0+3)) r'=some (m3,O):=p2;have fh:∀c cs t g,m.get c=.cells cs t g->t≠53->t≠38->m3.get c=.cells cs t g:=λc cs t g H g0 i0=>by have l0:=M.aU H;have d0:=a0.cells H;rw[p8 c (by omega) (λe=>by subst e;rw[h.cell]at H;cases H;exact i0 rfl) λn0 g' e=>by rw[d0]at e;cases e;exact g0 rfl,d0]
 refine⟨_,m1,r',m2,m3,b0 ▸ BG,p1,p2,p3,⟨p4,h.st.aV λc cs t g H ht=>fh c cs t g H ?_ ?_,p5,h.mo.aV λc cs t g H ht=>fh c cs t g H ?_ ?_,by omega⟩,by omega,λc H=>p7 c (by omega) (by omega),fh,λc H h1 h2=>by rw[pn c (by omega) h1 h2,a0.get c H],by grind⟩ <;>
  (simp only[aW.ty,aW.cT,RN,ZX,or_false]at ht;subst ht;decide)
theorem nh.sE(h:nh O m r r2 sl rl ml st rc mo){x:Mo}(hl:ml.length<1000000):
  ∃a m1 r' m2 m3,aF TE m 36 1 [(0,x.v)]=some (a,m1)/\av TE (M.wl m1 (M.n m1)) .append [36,36] [mo,a]=some (r',m2)/\aD TE m2 36 (Ga O (0+4)) r'=some (m3,O)/\O+1<=m2.low/\
   nh O m3 r r2 sl rl (ml++ [x]) st rc r'/\m.n<=m3.n/\(∀c,c<O->m3.get c=m.get c)/\(∀c cs t g,m.get c=.cells cs t g->t≠109->t≠38->m3.get c=.cells cs t g)/\(∀c,c<m.n->c≠O->(∀a n k,mo=.slice (some a) n k->c≠a.block)->m3.get c=m.get c)/\(∀a n k,r'=.slice (some a) n k->m.n<=a.block):=by
 obtain⟨m1,b0⟩:∃q,q=m.push (.cells x.c 109 none):=⟨_,rfl⟩
 have a0:Ext m m1:=b0 ▸ Ext.refl.push;have e0:m1.get m.n=.cells x.c 109 none:=by rw[b0];exact M.aX
 have j0:=h.lt;have k0:=a0.n;obtain⟨r',m2,m3,⟨⟨_,pf⟩,pn⟩,p1,p2,p3,p4,p5,p6,p7,p8⟩:=yg (n1:=O+1) (o:=4) PL rfl adt rfl h.cell (by rfl) (by omega) (by omega) h.mo a0 (gU (x:=x) e0 rfl) hl;have p2:aD TE m2 36 (Ga O (0+4)) r'=some (m3,O):=p2;have fh:∀c cs t g,m.get c=.cells cs t g->t≠109->t≠38->m3.get c=.cells cs t g:=λc cs t g H g0 i0=>by have l0:=M.aU H;have d0:=a0.cells H;rw[p8 c (by omega) (λe=>by subst e;rw[h.cell]at H;cases H;exact i0 rfl) λn0 g' e=>by rw[d0]at e;cases e;exact g0 rfl,d0]
 refine⟨_,m1,r',m2,m3,b0 ▸ ac5,p1,p2,p3,⟨p4,h.st.aV λc cs t g H ht=>fh c cs t g H ?_ ?_,h.rc.aV λc cs t g H ht=>fh c cs t g H ?_ ?_,p5,by omega⟩,by omega,λc H=>p7 c (by omega) (by omega),fh,λc H h1 h2=>by rw[pn c (by omega) h1 h2,a0.get c H],by grind⟩ <;>
  (simp only[aW.ty,aW.cT,RN,ZX,or_false]at ht;subst ht;decide)
theorem nh.PO(h:nh O m r r2 sl rl ml st rc mo){a v':Φ}{m2:M}{e0:List KW}(e:av TE (m.wl m.n) .append [34,34] [st,a]=some (v',m2))(ho:Ow (O+1) m2 e0 v')(hn:m.n<=m2.n)(l0:O+1<=m2.low)(hk:∀c,c<O+1->m2.get c=m.get c):
  ∃m3,aD TE m2 34 (Ga O (0+2)) v'=some (m3,O)/\nh O m3 r r2 e0 rl ml v' rc mo/\m.n<=m3.n/\(∀c,c<O->m3.get c=m.get c)/\(∀c cs t g,m.get c=.cells cs t g->t≠113->t≠38->m3.get c=.cells cs t g)/\(∀c,c<m.n->c≠O->(∀a n k,st=.slice (some a) n k->c≠a.block)->m3.get c=m.get c):=by
 have g2:m2.get O=.cells (yc r r2 st rc mo) 38 none:=by rw[hk O (by omega)];exact h.cell
 have d0:=pg (E:=TE) (o:=0+2) (x:=v') Mw g2 (by rw[ho.sl.cells];rfl) (by rw[ho.sl.cells];show 0+2+1<=5;decide) (by rw[ho.sl.cells];simp[ho.sl.one]);obtain⟨m3,a0⟩:∃q,q=m2.set O (.cells (yc r r2 v' rc mo) 38 none):=⟨_,rfl⟩
 have d0:aD TE m2 34 (Ga O (0+2)) v'=some (m3,O):=by rw[d0,a0,ho.sl.cells];rfl
 have n0:m3.n=m2.n:=by rw[a0];rfl
 have i0:m3.get O=.cells (yc r r2 v' rc mo) 38 none:=by rw[a0];exact M.dw (M.aU g2)
 have g0:∀c,c≠O->m3.get c=m2.get c:=λc H=>by rw[a0];exact M.dg H
 have b0:∀c,c<m.n->c≠O->(∀a n k,st=.slice (some a) n k->c≠a.block)->m3.get c=m.get c:=λc H h1 h2=>by rw[g0 c h1,fg e H h2]
 have fh:∀c cs t g,m.get c=.cells cs t g->t≠113->t≠38->m3.get c=.cells cs t g:=λc cs t g H j0 o0=>by
  have k0:=M.aU H;rw[b0 c k0 (by grind) λad n k es e=>?_,H];have:=h.st.sl;rw[es]at this;rcases this with⟨h1,_⟩|⟨b,o,cc,bc,g',h1,h2,_⟩;·cases h1
  cases h1;rw[e,h2]at H;cases H;exact j0 rfl
 refine⟨m3,d0,⟨i0,?_,h.rc.aV λc cs t g H ht=>fh c cs t g H ?_ ?_,h.mo.aV λc cs t g H ht=>fh c cs t g H ?_ ?_,?_⟩,by omega,by grind,fh,b0⟩;·exact ho.om rfl λc h1 _=>g0 c (by omega)
 any_goals (simp only[aW.ty,aW.cT,RN,ZX,or_false]at ht;subst ht;decide)
 have:=h.lt;omega
end
structure jZ(m0:M)(O:Nat)(m:M)(r r2:Φ)(k:List Kp)(rl:List Fc)(ml:List Mo)(rc mo:Φ):Prop where
 ex:∃sl st,EK sl=k/\nh O m r r2 sl rl ml st rc mo/\∀x∈sl,Sl m x.u.shape x.w/\Sl m x.ms x.mv/\x.u.shape.length < 1000000/\x.ms.length < 1000000
 x:Ext m0 m
 o:m0.n=O
section
variable {m0:M} {O:Nat} {r r2:Φ} {k:List Kp} {rl:List Fc} {ml:List Mo} {rc mo:Φ}
theorem jZ.aE{m':M}(h:jZ m0 O m r r2 k rl ml rc mo)(H:Ext m m'):jZ m0 O m' r r2 k rl ml rc mo:=by have⟨⟨sl,st,h1,h2,h3⟩,h4,h5⟩:=h;exact⟨⟨sl,st,h1,h2.aE H,λx hm=>⟨(h3 x hm).1.aE H,(h3 x hm).2.1.aE H,(h3 x hm).2.2⟩⟩,h4.trans H,h5⟩
theorem jZ.Zc(h:jZ m0 O m r r2 k rl ml rc mo):ah TE m 35 (Ga O (0+3))=some rc:=by have⟨⟨sl,st,h1,H,h3⟩,h4,h5⟩:=h;exact(dW H.cell).2.2.1
theorem jZ.Zd(h:jZ m0 O m r r2 k rl ml rc mo):ah TE m 36 (Ga O (0+4))=some mo:=by have⟨⟨sl,st,h1,H,h3⟩,h4,h5⟩:=h;exact(dW H.cell).2.2.2.1
theorem jZ.lt(h:jZ m0 O m r r2 k rl ml rc mo):O<m.n:=by have⟨⟨sl,st,h1,H,h3⟩,h4,h5⟩:=h;exact H.lt
theorem HM{m':M}{sl:List KW}(H:∀x∈sl,Sl m x.u.shape x.w/\Sl m x.ms x.mv/\x.u.shape.length<1000000/\x.ms.length<1000000)(hk:∀c cs t g,m.get c=.cells cs t g->(t=141\/t=137)->m'.get c=.cells cs t g):
  ∀x∈sl,Sl m' x.u.shape x.w/\Sl m' x.ms x.mv/\x.u.shape.length<1000000/\x.ms.length<1000000:=λx hx=>
 ⟨(H x hx).1.aV λc cs t g hc ht=>hk c cs t g hc (.inl (by simpa[aW.ty,aW.cT]using ht)),(H x hx).2.1.aV λc cs t g hc ht=>hk c cs t g hc (.inr (by simpa[aW.ty,aW.cT]using ht)),(H x hx).2.2⟩
theorem jZ.sD(h:jZ m0 O m r r2 k rl ml rc mo){x:Fc}(hl:rl.length<1000000):
  ∃a m1 H m2 m3,aF TE m 35 1 [(0,x.v)]=some (a,m1)/\av TE (M.wl m1 (M.n m1)) .append [35,35] [rc,a]=some (H,m2)/\aD TE m2 35 (Ga O (0+3)) H=some (m3,O)/\O+1<=m2.low/\
   jZ m0 O m3 r r2 k (rl++ [x]) ml H mo/\m.n<=m3.n/\(∀c,c<m.n->c≠O->(∀a n k,rc=.slice (some a) n k->c≠a.block)->m3.get c=m.get c)/\(∀a n k,H=.slice (some a) n k->m.n<=a.block):=by have⟨⟨sl,st,h1,h2,h3⟩,h4,h5⟩:=h;have a0:=h4.n;have⟨a,m1,H,m2,m3,e1,e2,e3,e4,k1,k2,k3,k4,k5,k6⟩:=h2.sD (x:=x) hl;exact⟨a,m1,H,m2,m3,e1,e2,e3,e4,⟨⟨sl,st,h1,k1,HM h3 λc cs t g hc ht=>k4 c cs t g hc (by grind) (by grind)⟩,⟨by omega,λc hc=>by rw[k3 c (by omega),h4.get c hc]⟩,h5⟩,k2,k5,k6⟩
theorem jZ.sE(h:jZ m0 O m r r2 k rl ml rc mo){x:Mo}(hl:ml.length<1000000):
  ∃a m1 H m2 m3,aF TE m 36 1 [(0,x.v)]=some (a,m1)/\av TE (M.wl m1 (M.n m1)) .append [36,36] [mo,a]=some (H,m2)/\aD TE m2 36 (Ga O (0+4)) H=some (m3,O)/\O+1<=m2.low/\
   jZ m0 O m3 r r2 k rl (ml++ [x]) rc H/\m.n<=m3.n/\(∀c,c<m.n->c≠O->(∀a n k,mo=.slice (some a) n k->c≠a.block)->m3.get c=m.get c)/\(∀a n k,H=.slice (some a) n k->m.n<=a.block):=by have⟨⟨sl,st,h1,h2,h3⟩,h4,h5⟩:=h;have a0:=h4.n;have⟨a,m1,H,m2,m3,e1,e2,e3,e4,k1,k2,k3,k4,k5,k6⟩:=h2.sE (x:=x) hl;exact⟨a,m1,H,m2,m3,e1,e2,e3,e4,⟨⟨sl,st,h1,k1,HM h3 λc cs t g hc ht=>k4 c cs t g hc (by grind) (by grind)⟩,⟨by omega,λc hc=>by rw[k3 c (by omega),h4.get c hc]⟩,h5⟩,k2,k5,k6⟩
end
end
end Go.Proofs.YtigpcbodmjjaiaaGreatDoor
