/- What functions of the program .. -/
import Derived.Test.YtigpcbodmjjaiaaGreatDoorG7J
set_option maxRecDepth 100000
namespace Go.Proofs.YtigpcbodmjjaiaaGreatDoor
open Go Go.D Go.Proofs.Tryz
section
section
variable {X:aM}{x0 x1 x2:aes}{m:M}{R:aet->M->Nat->Prop}{W:Words}
theorem ZQ:dp TE (aO TE X) f177 [x0,x1,x2] m R=jn (λa=>η .geq 3 x0 x1 λb=>aU b (η .leq 3 x0 x2 λb=>a [b] m m.n) (a [aey] m m.n)) (λa b c=>un a λa _=>R [a] b c):=by kernel_rfl
theorem ZO:dp TE W f179 [x0] m R=aaP W m x0 62 λa=>aaG W 62 (aaR m) 0 λb=>aaF W a 3 b λb=>aaI W .eql 3 b (aaS 1) λc=>aU c (aaG W 62 (aaR m) 1 λb=>aaG W 60 b 0 λb=>aaF W a 3 b λb=>aaG W 62 (aaR m) 1 λc=>aaG W 60 c 1 λc=>aaF W a 3 c λc=>aaG W 62 (aaR m) 1 λd=>aaG W 60 d 2 λd=>aaF W a 3 d λd=>aaG W 62 (aaR m) 1 λf=>aaG W 60 f 4 λf=>aaF W a 3 f λf=>aaG W 62 (aaR m) 1 λg=>aaG W 60 g 5 λg=>aaF W a 3 g λg=>aaM W a 26 5 [(0,b),(1,c),(2,d),(3,f),(4,g)] λa b=>W.Lp (λa b c d=>W.un b λb f=>W.un f λf _=>aaG W 62 (aaR m) 1 λg=>aaG W 60 g 3 λg=>aaF W c 58 g λg=>aaL W c .len [58] [g] λg _=>aaI W .lss 3 f g λg=>aU g (aaG W 62 (aaR m) 1 λg=>aaG W 60 g 3 λg=>aaF W c 58 g λg=>aaH W 58 g f λg=>aaG W 141 g 0 λg=>aaF W c 3 g λg=>aaG W 62 (aaR m) 1 λh=>aaG W 60 h 3 λh=>aaF W c 58 h λh=>aaH W 58 h f λh=>aaG W 141 h 1 λh=>aaF W c 3 h λh=>aaM W c 26 2 [(0,g),(1,h)] λc g=>aaL W (M.wl g g.n) .append [26,26] [b,c] λb c=>aaI W .add 3 f (aaS 1) λf=>a [b,f] c (min d (M.low c))) (R [b] c d)) [a,aaS 0] b m.n) (W.jn (λc=>aaI W .eql 3 b (aaS 2) λd=>aU d (c [d] a m.n) (aaI W .eql 3 b (aaS 3) λd=>aU d (c [d] a m.n) (aaI W .eql 3 b (aaS 6) λd=>aU d (c [d] a m.n) (aaI W .eql 3 b (aaS 7) λb=>c [b] a m.n)))) (λa c d=>W.un a λa _=>aU a (aaG W 62 (aaR m) 2 λa=>aaF W c 3 a λa=>aaM W c 26 1 [(0,a)] λa b=>R [a] b d) (aaI W .eql 3 b (aaS 4) λa=>aU a (aaG W 62 (aaR m) 2 λa=>aaF W c 3 a λa=>aaG W 62 (aaR m) 5 λb=>aaF W c 3 b λb=>aaM W c 26 2 [(0,a),(1,b)] λa b=>R [a] b d) (W.jn (λa=>aaI W .eql 3 b (aaS 5) λf=>aU f (a [f] c d) (aaI W .eql 3 b (aaS 8) λb=>a [b] c d)) (λa c d=>W.un a λa _=>aU a (aaG W 62 (aaR m) 2 λa=>aaF W c 3 a λa=>aaG W 62 (aaR m) 4 λb=>aaF W c 3 b λb=>aaM W c 26 2 [(0,a),(1,b)] λa b=>R [a] b d) (aaI W .eql 3 b (aaS 9) λa=>aU a (aaG W 62 (aaR m) 2 λa=>aaF W c 3 a λa=>aaG W 62 (aaR m) 3 λb=>aaF W c 3 b λb=>aaG W 62 (aaR m) 5 λf=>aaF W c 3 f λf=>aaM W c 26 3 [(0,a),(1,b),(2,f)] λa b=>R [a] b d) (R [aew] c d))))))):=by kernel_rfl
theorem ZP:dp TE (aO TE X) f178 [x0,x1] m R=ς m [χ 0,χ 0,χ 0,χ 0,aew,χ 0,χ 0,χ 0,χ 0,χ 0,χ 0] 62 λa=>θ 62 [(0,x0)] λb=>ς a [χ 0,χ 0,χ 0,χ 0,aew,χ 0,χ 0,χ 0,χ 0,χ 0,χ 0] 62 λc=>ι c 62 (υ a) b λb c=>η .eql 3 x0 (χ 1) λd=>aU d (jn (λa=>κ b .len [26] [x1] λd _=>η .lss 3 d (χ 11) λd=>aU d (a [aex] b (min m.n c)) (κ b .len [26] [x1] λd _=>η .gtr 3 d (χ 21) λd=>aU d (a [aex] b (min m.n c)) (κ b .len [26] [x1] λd _=>η .rem 3 d (χ 2) λd=>η .eql 3 d (χ 0) λd=>a [d] b (min m.n c)))) (λb c d=>un b λb _=>aU b (θ 62 [] λa=>ι c 62 (υ m) a λa b=>aj (ah TE a 62 (υ m)) λc=>R [c,aey] a (min d b)) (ζ 26 x1 (χ 0) λb=>δ c 3 b λb=>ζ 26 x1 (χ 1) λf=>δ c 3 f λf=>ζ 26 x1 (χ 2) λg=>δ c 3 g λg=>ζ 26 x1 (χ 3) λh=>δ c 3 h λh=>ζ 26 x1 (χ 4) λi=>δ c 3 i λi=>θ 60 [(0,b),(1,f),(2,g),(4,h),(5,i)] λb=>ε 62 (υ a) 1 λf=>ι c 60 f b λb c=>Lp (λb c d f=>un c λc _=>κ d .len [26] [x1] λg _=>η .lss 3 c g λg=>aU g (ε 62 (υ a) 1 λg=>ε 60 g 3 λg=>δ d 58 g λg=>ζ 26 x1 c λh=>δ d 3 h λh=>η .add 3 c (χ 1) λi=>ζ 26 x1 i λi=>δ d 3 i λi=>θ 141 [(0,h),(1,i)] λh=>ν d 58 1 [(0,h)] λd h=>κ (M.wl h h.n) .append [58,58] [g,d] λd g=>ε 62 (υ a) 1 λa=>ε 60 a 3 λa=>ι g 58 a d λa d=>η .add 3 c (χ 2) λc=>b [c] a (ω f (M.low g) d)) (δ d 62 (υ a) λa=>ι d 62 (υ m) a λa b=>aj (ah TE a 62 (υ m)) λc=>R [c,aex] a (min f b))) [χ 5] b (min d c)))) (jn (λa=>jn (λa=>η .eql 3 x0 (χ 4) λd=>aU d (a [aex] b (min m.n c)) (η .eql 3 x0 (χ 5) λd=>aU d (a [aex] b (min m.n c)) (η .eql 3 x0 (χ 8) λd=>a [d] b (min m.n c)))) (λb c d=>un b λb _=>aU b (a [χ 2] c d) (a [χ 1] c d))) (λb c d=>un b λb _=>jn (λa=>η .eql 3 x0 (χ 9) λf=>aU f (a [χ 3] c d) (a [b] c d)) (λb c d=>un b λb _=>κ c .len [26] [x1] λf _=>η .neq 3 f b λb=>aU b (θ 62 [] λa=>ι c 62 (υ m) a λa b=>aj (ah TE a 62 (υ m)) λc=>R [c,aey] a (min d b)) (ζ 26 x1 (χ 0) λb=>δ c 3 b λb=>ε 62 (υ a) 2 λf=>ι c 3 f b λb c=>jn (λf=>η .eql 3 x0 (χ 4) λg=>aU g (ζ 26 x1 (χ 1) λg=>δ b 3 g λg=>ε 62 (υ a) 5 λa=>ι b 3 a g λa b=>f [] a (ω d c b)) (f [] b (min d c))) (λ_ b c=>jn (λd=>jn (λa=>η .eql 3 x0 (χ 5) λd=>aU d (a [aex] b c) (η .eql 3 x0 (χ 8) λd=>a [d] b c)) (λb c f=>un b λb _=>aU b (ζ 26 x1 (χ 1) λb=>δ c 3 b λb=>ε 62 (υ a) 4 λa=>ι c 3 a b λa b=>d [] a (min f b)) (d [] c f))) (λ_ b c=>jn (λd=>η .eql 3 x0 (χ 9) λf=>aU f (ζ 26 x1 (χ 1) λf=>δ b 3 f λf=>ε 62 (υ a) 3 λg=>ι b 3 g f λb f=>ζ 26 x1 (χ 2) λg=>δ b 3 g λg=>ε 62 (υ a) 5 λa=>ι b 3 a g λa b=>d [] a (ω c f b)) (d [] b c)) (λ_ b c=>δ b 62 (υ a) λa=>ι b 62 (υ m) a λa b=>aj (ah TE a 62 (υ m)) λd=>R [d,aex] a (min c b)))))))):=by kernel_rfl
theorem F39:dp TE (aO TE X) f39 [x0,x1] m R=ρ m x0 62 λa=>ρ a x1 62 λb=>jn (λc=>ε 62 (υ m) 0 λd=>δ b 3 d λd=>ε 62 (υ a) 0 λf=>δ b 3 f λf=>η .eql 3 d f λd=>aU d (ε 62 (υ m) 2 λd=>δ b 3 d λd=>ε 62 (υ a) 2 λf=>δ b 3 f λf=>η .eql 3 d f λd=>aU d (ε 62 (υ m) 3 λd=>δ b 3 d λd=>ε 62 (υ a) 3 λf=>δ b 3 f λf=>η .eql 3 d f λd=>aU d (ε 62 (υ m) 4 λd=>δ b 3 d λd=>ε 62 (υ a) 4 λf=>δ b 3 f λf=>η .eql 3 d f λd=>aU d (ε 62 (υ m) 5 λd=>δ b 3 d λd=>ε 62 (υ a) 5 λf=>δ b 3 f λf=>η .eql 3 d f λd=>aU d (ε 62 (υ m) 1 λd=>δ b 60 d λd=>ε 62 (υ a) 1 λa=>δ b 60 a λa=>ψ X 89 [d,a] b λa b d=>c [a] b (min m.n d)) (c [aey] b m.n)) (c [aey] b m.n)) (c [aey] b m.n)) (c [aey] b m.n)) (c [aey] b m.n)) (λa b c=>un a λa _=>R [a] b c):=by kernel_rfl
theorem aae:dp TE (aO TE X) f132 [x0] m R=ρ m x0 62 λa=>jn (λb=>ε 62 (υ m) 0 λc=>δ a 3 c λc=>ψ X 177 [c,χ 1,χ 9] a λa c d=>ο .not a λa=>aU a (b [aex] c (min m.n d)) (ε 62 (υ m) 1 λa=>ε 60 a 3 λa=>δ c 58 a λa=>κ c .len [58] [a] λa _=>η .gtr 3 a (χ 8) λa=>b [a] c (min m.n d))) (λa b c=>un a λa _=>aU a (R [aey] b c) (ε 62 (υ m) 0 λa=>δ b 3 a λa=>δ b 62 (υ m) λd=>ψ X 179 [d] b λd f g=>(b.n<=g)/\(ψ X 178 [a,d] f λa b d=>(f.n<=d)/\(ξ a 0 λf=>ξ a 1 λa=>ς b [χ 0,χ 0,χ 0,χ 0,aew,χ 0,χ 0,χ 0,χ 0,χ 0,χ 0] 62 λh=>ι h 62 (υ b) f λf h=>jn (λi=>ο .not a λa=>aU a (i [aex] f (Γ c g d h)) (δ f 62 (υ b) λa=>δ f 62 (υ m) λb=>ψ X 39 [a,b] f λa b f=>ο .not a λa=>i [a] b (Δ c g d h f))) (λa b c=>un a λa _=>aU a (R [aey] b c) (ε 62 (υ m) 0 λa=>δ b 3 a λa=>η .eql 3 a (χ 1) λa=>aU a (jn (λa=>ε 62 (υ m) 1 λd=>δ b 60 d λd=>ψ X 172 [d] b λb d f=>aU b (ε 62 (υ m) 1 λb=>ε 60 b 1 λb=>δ d 3 b λb=>ψ X 177 [b,χ 6,χ 8] d λb d g=>a [b] d (ω c f g)) (a [aey] d (min c f))) (λa b c=>un a λa _=>R [a] b c)) (jn (λa=>ε 62 (υ m) 2 λd=>δ b 3 d λd=>ψ X 177 [d,χ 0,χ 99] b λb d f=>aU b (ε 62 (υ m) 3 λb=>δ d 3 b λb=>ψ X 177 [b,χ 0,χ 99] d λb d g=>aU b (ε 62 (υ m) 4 λb=>δ d 3 b λb=>ψ X 177 [b,χ (-2),χ 7] d λb d h=>aU b (ε 62 (υ m) 5 λb=>δ d 3 b λb=>ψ X 177 [b,χ 0,χ 7] d λb d i=>aU b (ε 62 (υ m) 0 λb=>δ d 3 b λb=>η .neq 3 b (χ 9) λb=>aU b (a [aex] d (Δ c f g h i)) (ε 62 (υ m) 2 λb=>δ d 3 b λb=>ε 62 (υ m) 3 λj=>δ d 3 j λj=>η .lss 3 b j λb=>a [b] d (Δ c f g h i))) (a [aey] d (Δ c f g h i))) (a [aey] d (Γ c f g h))) (a [aey] d (ω c f g))) (a [aey] d (min c f))) (λa b c=>un a λa _=>R [a] b c)))))))):=by kernel_rfl
theorem F71:dp TE (aO TE X) f71 [x0,x1] m R=ρ m x0 33 λa=>ς a [χ 0,χ 0,χ 0,aew,χ 0,χ 0] 60 λb=>Lp (λb c d f=>un c λc g=>un g λg _=>ε 33 (υ m) 0 λh=>ε 30 h 0 λh=>δ d 28 h λh=>κ d .len [28] [h] λh _=>η .lss 3 g h λh=>aU h (ε 33 (υ m) 0 λh=>ε 30 h 0 λh=>δ d 28 h λh=>ζ 28 h g λh=>ε 60 h 0 λh=>δ d 3 h λh=>η .eql 3 h x1 λh=>aU h (ε 33 (υ m) 0 λb=>ε 30 b 0 λb=>δ d 28 b λb=>ζ 28 b g λb=>δ d 60 b λb=>ι d 60 (υ a) b λb c=>aj (ah TE b 60 (υ a)) λa=>R [a,aex] b (min f c)) (η .add 3 g (χ 1) λa=>b [c,a] d f)) (θ 60 [] λb=>ι d 60 (υ a) b λb c=>aj (ah TE b 60 (υ a)) λa=>R [a,aey] b (min f c))) [aey,χ 0] b m.n:=by kernel_rfl
theorem ZN:dp TE (aO TE X) f180 [x0,x1] m R=ρ m x0 38 λa=>Lp (λa b c d=>un b λb f=>un f λf _=>ε 38 (υ m) 1 λg=>δ c 34 g λg=>κ c .len [34] [g] λg _=>η .lss 3 f g λg=>aU g (ε 38 (υ m) 1 λg=>δ c 34 g λg=>ζ 34 g f λg=>ε 113 g 0 λg=>ε 60 g 0 λg=>δ c 3 g λg=>η .eql 3 g x1 λg=>aU g (R [f] c d) (η .add 3 f (χ 1) λf=>a [b,f] c d)) (R [χ (-1)] c d)) [χ 0,χ 0] a m.n:=by kernel_rfl
theorem F73:dp TE (aO TE X) f73 [x0,x1] m R=ρ m x0 53 λa=>ρ a x1 53 λb=>jn (λc=>ε 53 (υ m) 0 λd=>δ b 3 d λd=>ε 53 (υ a) 0 λf=>δ b 3 f λf=>η .lss 3 d f λd=>aU d (c [aex] b m.n) (ε 53 (υ m) 0 λd=>δ b 3 d λd=>ε 53 (υ a) 0 λf=>δ b 3 f λf=>η .eql 3 d f λd=>aU d (ε 53 (υ m) 1 λd=>δ b 3 d λd=>ε 53 (υ a) 1 λa=>δ b 3 a λa=>η .lss 3 d a λa=>c [a] b m.n) (c [aey] b m.n))) (λa b c=>un a λa _=>R [a] b c):=by kernel_rfl
theorem aaf:dp TE (aO TE X) f131 [x0] m R=ρ m x0 38 λa=>jn (λb=>ε 38 (υ m) 0 λc=>δ a 33 c λc=>ψ X 176 [c] a λa c d=>ο .not a λa=>aU a (b [aex] c (min m.n d)) (ε 38 (υ m) 1 λa=>δ c 34 a λa=>κ c .len [34] [a] λa _=>η .gtr 3 a (χ 12) λa=>aU a (b [aex] c (min m.n d)) (ε 38 (υ m) 2 λa=>δ c 35 a λa=>κ c .len [35] [a] λa _=>η .gtr 3 a (χ 60) λa=>aU a (b [aex] c (min m.n d)) (ε 38 (υ m) 3 λa=>δ c 36 a λa=>κ c .len [36] [a] λa _=>η .gtr 3 a (χ 20) λa=>b [a] c (min m.n d))))) (λa b c=>un a λa _=>aU a (R [aey] b c) (ν b 31 0 [] λa b=>ε 38 (υ m) 0 λd=>ε 33 d 1 λd=>δ b 31 d λd=>κ (M.wl b b.n) .append [31,31] [a,d] λa b=>Lp (λa b c d=>un b λb f=>un f λf g=>un g λg _=>ε 38 (υ m) 1 λh=>δ c 34 h λh=>κ c .len [34] [h] λh _=>η .lss 3 g h λh=>aU h (ε 38 (υ m) 1 λh=>δ c 34 h λh=>ζ 34 h g λh=>δ c 113 h λh=>ς c [χ 0,χ 0,χ 0,aew,χ 0,χ 0,aew] 113 λi=>ι i 113 (υ c) h λh i=>ε 38 (υ m) 0 λj=>δ h 33 j λj=>ε 113 (υ c) 0 λk=>ε 60 k 0 λk=>δ h 3 k λk=>ψ X 71 [j,k] h λh j k=>ξ h 0 λl=>ξ h 1 λh=>ς j [χ 0,χ 0,χ 0,aew,χ 0,χ 0] 60 λn=>ι n 60 (υ j) l λj l=>jn (λa=>aU h (a [aex] j (Γ d i k l)) (η .gtr 3 g (χ 0) λb=>aU b (ε 113 (υ c) 0 λb=>ε 60 b 0 λb=>δ j 3 b λb=>ε 38 (υ m) 1 λf=>δ j 34 f λf=>η .sub 3 g (χ 1) λg=>ζ 34 f g λf=>ε 113 f 0 λf=>ε 60 f 0 λf=>δ j 3 f λf=>η .leq 3 b f λb=>aU b (a [aex] j (Γ d i k l)) (ε 113 (υ c) 0 λb=>δ j 60 b λb=>ν j 28 1 [(0,b)] λb f=>θ 30 [(0,b)] λb=>ε 113 (υ c) 1 λc=>δ f 31 c λc=>θ 33 [(0,b),(1,c)] λb=>ψ X 176 [b] f λb c f=>ο .not b λb=>a [b] c (Δ d i k l f))) (ε 113 (υ c) 0 λb=>δ j 60 b λb=>ν j 28 1 [(0,b)] λb f=>θ 30 [(0,b)] λb=>ε 113 (υ c) 1 λc=>δ f 31 c λc=>θ 33 [(0,b),(1,c)] λb=>ψ X 176 [b] f λb c f=>ο .not b λb=>a [b] c (Δ d i k l f)))) (λd h i=>un d λd _=>aU d (R [aey] h i) (ε 113 (υ c) 1 λc=>δ h 31 c λc=>κ (M.wl h h.n) .append [31,31] [f,c] λc d=>η .add 3 g (χ 1) λf=>a [b,c,f] d (min i (M.low d))))) (Lp (λa b c d=>un b λb g=>un g λg _=>κ c .len [31] [f] λh _=>η .lss 3 g h λh=>aU h (Lp (λb c d h=>un c λc i=>un i λi _=>η .lss 3 i g λj=>aU j (ζ 31 f g λa=>ε 137 a 0 λa=>δ d 3 a λa=>ζ 31 f i λf=>ε 137 f 0 λf=>δ d 3 f λf=>η .eql 3 a f λa=>aU a (R [aey] d h) (η .add 3 i (χ 1) λa=>b [c,a] d h)) (η .add 3 g (χ 1) λb=>a [c,b] d h)) [b,χ 0] c d) (κ c .len [31] [f] λa _=>η .gtr 3 a (χ 20) λa=>aU a (R [aey] c d) (Lp (λa b c d=>un b λb f=>un f λf _=>ε 38 (υ m) 2 λg=>δ c 35 g λg=>κ c .len [35] [g] λg _=>η .lss 3 f g λg=>aU g (ε 38 (υ m) 2 λg=>δ c 35 g λg=>ζ 35 g f λg=>δ c 53 g λg=>ς c [χ 0,χ 0] 53 λh=>ι h 53 (υ c) g λg h=>jn (λa=>ε 53 (υ c) 0 λb=>δ g 3 b λb=>ψ X 177 [b,χ 0,χ 99] g λb g i=>ο .not b λb=>aU b (a [aex] g (ω d h i)) (ε 53 (υ c) 1 λb=>δ g 3 b λb=>ψ X 177 [b,χ (-2),χ 7] g λb g j=>ο .not b λb=>aU b (a [aex] g (Γ d h i j)) (η .gtr 3 f (χ 0) λb=>aU b (ε 38 (υ m) 2 λb=>δ g 35 b λb=>η .sub 3 f (χ 1) λf=>ζ 35 b f λb=>δ g 53 b λb=>δ g 53 (υ c) λc=>ψ X 73 [b,c] g λb c f=>ο .not b λb=>a [b] c (Δ d h i j f)) (a [aey] g (Γ d h i j))))) (λc d g=>un c λc _=>aU c (R [aey] d g) (η .add 3 f (χ 1) λc=>a [b,c] d g))) (Lp (λa b c d=>un b λb f=>un f λf _=>ε 38 (υ m) 3 λg=>δ c 36 g λg=>κ c .len [36] [g] λg _=>η .lss 3 f g λg=>aU g (ε 38 (υ m) 3 λg=>δ c 36 g λg=>ζ 36 g f λg=>δ c 109 g λg=>ς c [χ 0,χ 0,χ 0] 109 λh=>ι h 109 (υ c) g λg h=>jn (λa=>ε 109 (υ c) 0 λb=>δ g 3 b λb=>ψ X 177 [b,χ 0,χ 99] g λb f g=>ο .not b λb=>aU b (a [aex] f (ω d h g)) (ε 109 (υ c) 1 λb=>δ f 3 b λb=>ψ X 177 [b,χ 0,χ 99] f λb f i=>ο .not b λb=>aU b (a [aex] f (Γ d h g i)) (ε 109 (υ c) 0 λb=>δ f 3 b λb=>ε 109 (υ c) 1 λj=>δ f 3 j λj=>η .geq 3 b j λb=>aU b (a [aex] f (Γ d h g i)) (ε 109 (υ c) 2 λb=>δ f 3 b λb=>ψ X 177 [b,χ 0,χ 7] f λb c f=>ο .not b λb=>a [b] c (Δ d h g i f))))) (λd g h=>un d λd _=>aU d (R [aey] g h) (jn (λa=>η .gtr 3 f (χ 0) λb=>aU b (ε 109 (υ c) 0 λb=>δ g 3 b λb=>ε 38 (υ m) 3 λd=>δ g 36 d λd=>η .sub 3 f (χ 1) λi=>ζ 36 d i λd=>ε 109 d 0 λd=>δ g 3 d λd=>η .lss 3 b d λb=>aU b (a [aex] g h) (ε 109 (υ c) 0 λb=>δ g 3 b λb=>ε 38 (υ m) 3 λd=>δ g 36 d λd=>η .sub 3 f (χ 1) λi=>ζ 36 d i λd=>ε 109 d 0 λd=>δ g 3 d λd=>η .eql 3 b d λb=>aU b (ε 109 (υ c) 1 λb=>δ g 3 b λb=>ε 38 (υ m) 3 λc=>δ g 36 c λc=>η .sub 3 f (χ 1) λd=>ζ 36 c d λc=>ε 109 c 1 λc=>δ g 3 c λc=>η .leq 3 b c λb=>a [b] g h) (a [aey] g h))) (a [aey] g h)) (λc d g=>un c λc _=>aU c (R [aey] d g) (η .add 3 f (χ 1) λc=>a [b,c] d g))))) (R [aex] c d)) [b,χ 0] c d)) [b,χ 0] c d))) [b,χ 0] c d)) [aey,a,χ 0] b (min c (M.low b)))):=by kernel_rfl
theorem Zp:dp TE (aO TE X) f225 [x0] m R=ς m [χ 0,χ 0,χ 0,χ 0,χ 0] 298 λa=>θ 298 [(0,(χ 9)),(1,(χ 3)),(2,(χ 9)),(3,(χ 1))] λb=>θ 298 [(0,(χ 8)),(1,(χ 3)),(2,(χ 6)),(3,(χ 4)),(4,(χ 1))] λc=>θ 298 [(0,(χ 7)),(1,(χ 3)),(2,(χ 5)),(3,(χ 5)),(4,(χ 1))] λd=>θ 298 [(0,(χ 6)),(1,(χ 3)),(2,(χ 4)),(3,(χ 6)),(4,(χ 3))] λf=>θ 298 [(0,(χ 3)),(1,(χ 2)),(2,(χ 5)),(3,(χ 3))] λg=>θ 298 [(0,(χ 5)),(1,(χ 2)),(2,(χ 2)),(3,(χ 7)),(4,(χ 1))] λh=>θ 298 [(0,(χ 8)),(1,(χ 3)),(2,(χ 8)),(3,(χ 1)),(4,(χ 4))] λi=>θ 298 [(0,(χ 10)),(1,(χ 1)),(2,(χ 9))] λj=>ν a 344 8 [(0,b),(1,c),(2,d),(3,f),(4,g),(5,h),(6,i),(7,j)] λa b=>jn (λa=>η .lss 3 x0 (χ 0) λc=>aU c (a [aex] b m.n) (η .gtr 3 x0 (χ 7) λc=>a [c] b m.n)) (λb c d=>un b λb _=>aU b (θ 298 [] λa=>ι c 298 (υ m) a λa b=>aj (ah TE a 298 (υ m)) λc=>R [c,χ 80] a (min d b)) (ζ 344 a x0 λa=>δ c 298 a λa=>ι c 298 (υ m) a λa b=>aj (ah TE a 298 (υ m)) λc=>R [c,χ 0] a (min d b))):=by kernel_rfl
theorem ZM:dp TE (aO TE X) f181 [x0,x1] m R=ψ X 225 [x0] m λa b c=>ξ a 0 λd=>ξ a 1 λa=>ς b [χ 0,χ 0,χ 0,χ 0,χ 0] 298 λf=>ι f 298 (υ b) d λd f=>ψ X 225 [x1] d λd g h=>ξ d 0 λi=>ξ d 1 λd=>ς g [χ 0,χ 0,χ 0,χ 0,χ 0] 298 λj=>ι j 298 (υ g) i λi j=>jn (λk=>η .eql 46 a (χ 0) λa=>aU a (η .eql 46 d (χ 0) λa=>aU a (ε 298 (υ b) 2 λa=>δ i 3 a λa=>ε 298 (υ g) 2 λd=>δ i 3 d λd=>η .add 3 d (χ 1) λd=>η .leq 3 a d λa=>aU a (ε 298 (υ b) 3 λa=>δ i 3 a λa=>η .add 3 a (χ 1) λa=>ε 298 (υ g) 3 λd=>δ i 3 d λd=>η .geq 3 a d λa=>aU a (ε 298 (υ b) 4 λa=>δ i 3 a λa=>ε 298 (υ g) 4 λb=>δ i 3 b λb=>η .add 3 b (χ 1) λb=>η .leq 3 a b λa=>k [a] i (Δ m.n c f h j)) (k [aey] i (Δ m.n c f h j))) (k [aey] i (Δ m.n c f h j))) (k [aey] i (Δ m.n c f h j))) (k [aey] i (Δ m.n c f h j))) (λa b c=>un a λa _=>R [a] b c):=by kernel_rfl
theorem ZK:dp TE (aO TE X) f183 [x0,x1] m R=ψ X 225 [x0] m λa b c=>ξ a 0 λd=>ξ a 1 λa=>ς b [χ 0,χ 0,χ 0,χ 0,χ 0] 298 λf=>ι f 298 (υ b) d λd f=>ψ X 225 [x1] d λd g h=>ξ d 0 λi=>ξ d 1 λd=>ς g [χ 0,χ 0,χ 0,χ 0,χ 0] 298 λj=>ι j 298 (υ g) i λi j=>jn (λk=>η .eql 46 a (χ 0) λa=>aU a (η .eql 46 d (χ 0) λa=>aU a (ε 298 (υ b) 2 λa=>δ i 3 a λa=>ε 298 (υ g) 2 λd=>δ i 3 d λd=>η .leq 3 a d λa=>aU a (ε 298 (υ b) 3 λa=>δ i 3 a λa=>ε 298 (υ g) 3 λd=>δ i 3 d λd=>η .geq 3 a d λa=>aU a (ε 298 (υ b) 4 λa=>δ i 3 a λa=>ε 298 (υ g) 4 λb=>δ i 3 b λb=>η .add 3 b (χ 1) λb=>η .leq 3 a b λa=>k [a] i (Δ m.n c f h j)) (k [aey] i (Δ m.n c f h j))) (k [aey] i (Δ m.n c f h j))) (k [aey] i (Δ m.n c f h j))) (k [aey] i (Δ m.n c f h j))) (λa b c=>un a λa _=>R [a] b c):=by kernel_rfl
theorem ZL:dp TE (aO TE X) f182 [x0,x1,x2] m R=ρ m x0 33 λa=>δ a 33 (υ m) λb=>ψ X 71 [b,x1] a λa b c=>ξ a 0 λd=>ξ a 1 λa=>ς b [χ 0,χ 0,χ 0,aew,χ 0,χ 0] 60 λf=>ι f 60 (υ b) d λd f=>jn (λg=>aU a (η .eql 3 x2 (χ (-1)) λa=>aU a (g [aex] d (ω m.n c f)) (η .eql 3 x2 (χ (-2)) λa=>aU a (g [aex] d (ω m.n c f)) (η .geq 3 x2 (χ 0) λa=>aU a (ε 60 (υ b) 3 λa=>δ d 58 a λa=>κ d .len [58] [a] λa _=>η .lss 3 x2 a λa=>g [a] d (ω m.n c f)) (g [aey] d (ω m.n c f))))) (g [aey] d (ω m.n c f))) (λa b c=>un a λa _=>R [a] b c):=by kernel_rfl
theorem F72:dp TE (aO TE X) f72 [x0,x1] m R=ρ m x0 38 λa=>ρ a x1 53 λb=>Lp (λb c d f=>un c λc g=>un g λg _=>ε 38 (υ m) 2 λh=>δ d 35 h λh=>κ d .len [35] [h] λh _=>η .lss 3 g h λh=>aU h (ε 38 (υ m) 2 λh=>δ d 35 h λh=>ζ 35 h g λh=>δ d 53 h λh=>δ d 53 (υ a) λa=>η .eql 53 h a λa=>aU a (R [aex] d f) (η .add 3 g (χ 1) λa=>b [c,a] d f)) (R [aey] d f)) [aey,χ 0] b m.n:=by kernel_rfl
end
end
section
variable {X:aM} {m:M}
section
variable {α:Type} [aZ α] {T:TypeId}
def Ap(n1:Nat)(m:M)(l:List α)(v:aes):Prop:=Ow n1 m l v\/∃b cs H,v=.slice (some ⟨b,0,none⟩) l.length l.length/\m.get b=.cells cs H none/\Sl m l v
theorem Ap.sl{n1:Nat}{l:List α}{v:aes}(h:Ap n1 m l v):Sl m l v:=by
 rcases h with h |⟨_,_,_,_,_,h⟩;·exact h.sl
 exact h
theorem Ap.aG{n1:Nat}{l:List α}{v:aes}{m':M}(h:Ap n1 m l v)(H:Ext m m'):Ap n1 m' l v:=by
 rcases h with h |⟨b,cs,te,h1,h2,h3⟩;·exact .inl (h.aG H)
 exact .inr ⟨b,cs,te,h1,H.cells h2,h3.aG H⟩
theorem Ap.append(hT:rH TE T α)(a0:aZ.dd α=[]){n1:Nat}{l ys:List α}{v y:aes}(h:Ap n1 m l v)(hy:Sl m ys y)(H:ys≠ [])(hn:n1<=m.n)(hs:l.length+ys.length<=1000000):
  ∃v' m1,az TE (m.wl m.n) .append [T,T] [v,y]=some (v',m1)/\Ow n1 m1 (l++ys) v'/\m.n<=m1.n/\n1<=m1.low/\∀c,c < n1->m1.get c=m.get c:=by
 have hlen:=aec.2 H;rcases h with h |⟨b,cs,te,rfl,h2,h3⟩
 ·obtain⟨v',m1,e1,ho,hf,hl,_⟩:=h.append hT (by grind) hy hn (by omega);exact⟨v',m1,e1,ho,hf.n,hl,λc hc=>hf.get c hc⟩
 obtain⟨v',m1,e1,ho,hx,hl⟩:=vP hT h2 (.inl rfl) h3 hy (by omega) (by omega);exact⟨v',m1,e1,ho.mono hn,hx.n,by omega,λc hc=>hx.get c (by omega)⟩
end
theorem nq{l:List Int}{b:Nat}{g:Option Nat}(h:m.get b=.cells (l.map (.int .i64)) 3 g):Sl m l (aer b 0 l.length l.length):=
 .inr ⟨b,0,l.length,_,g,rfl,h,by rw[abK];show 0+l.length*1<=_;omega,λi x hi=>by
  show((l.map (Value.int .i64)).drop (0+i*1)).take 1=[aev x]
  have H:=(aa0.1 hi).1
  rw[abA,Nat.mul_one,abR (by grind),ab7,acx,List.getElem_map,(aa0.1 hi).2]⟩
theorem Mw{α:Type}[aZ α]{l:List α}{a:Addr}{n k:Nat}{m':M}{lo:Nat}{P:Prop}(h:Sl m' l (.slice (some a) n k))(H:m.n<=lo)(hx:Ext m m'):
  P\/((bF (bz [Value.slice (some a) n k])=false\/lo < m.n)/\(min m.n lo=m.n/\Ext m m'/\Sl m' l (.slice (some a) n k))):=.inr ⟨.inl rfl,by omega,hx,h⟩
theorem iE(hX:cy X)(n lo hi:Int):C X (.func 177) [aev n,aev lo,aev hi] m m.n (.bool (cW n lo hi)) m:=by
 refine Cl.fG hX (aaU func177) ?_;rw[ZQ];dsimp only[η];refine bA (λvs m2 H=>vs=[.bool (cW n lo hi)]/\m.n<=H) (λR hR=>?_) ?_
 ·simp only[cE,cO,ae,ak];refine av (λh=>hR _ _ _ ⟨by simp[cW,h],aaV _⟩) (λh=>hR _ _ _ ⟨by simp[cW,h],aaV _⟩)
 rintro _ m2 H ⟨rfl,hl⟩;rw[aE];exact⟨rfl,hl⟩
theorem Nt{a:Int}:aI TE m 26 1 [(0,.int .i64 a)]=some (.slice (some ⟨m.n,0,none⟩) 1 1,m.push (.cells ([a].map (.int .i64)) 3 none)):=by kernel_rfl
theorem mV{a b:Int}:aI TE m 26 2 [(0,.int .i64 a),(1,.int .i64 b)]=some (.slice (some ⟨m.n,0,none⟩) 2 2,m.push (.cells ([a,b].map (.int .i64)) 3 none)):=by kernel_rfl
theorem DJ{a b c:Int}:aI TE m 26 3 [(0,.int .i64 a),(1,.int .i64 b),(2,.int .i64 c)]=some (.slice (some ⟨m.n,0,none⟩) 3 3,m.push (.cells ([a,b,c].map (.int .i64)) 3 none)):=by kernel_rfl
theorem Ns{a b c d e:Int}:aI TE m 26 5 [(0,.int .i64 a),(1,.int .i64 b),(2,.int .i64 c),(3,.int .i64 d),(4,.int .i64 e)]=some (.slice (some ⟨m.n,0,none⟩) 5 5,m.push (.cells ([a,b,c,d,e].map (.int .i64)) 3 none)):=by kernel_rfl
theorem BH(hX:cy X){t:Tk}{w:aes}(hw:Sl m t.un.shape w)(hl:t.un.shape.length < 100000):
  ∃r m',C X (.func 179) [t.v w] m m.n r m'/\Ext m m'/\Sl m' (fR t) r:=by
 refine Cl.FD hX (aaU func179) ?_;rw[ZO];dsimp only[aO,aaF,aaG,aaH,aaI,aaL,aaM,aaP,aaR,aaS];refine aw λm1 F0 z0 A0=>?_;have g1:m1.get m.n=.cells (t.c w) 62 none:=z0;have h0:Ext m m1:=⟨by omega,A0⟩
 have⟨tk,tid,KE,p0,q0⟩:=lQ g1;obtain⟨u0,u1,u2, -,u4,u5⟩:=vd g1;unfold ptrTo;simp only[cC,dD,cp,cK,cG,dk,bD,cS,cR,bL,cQ,cP,ae];simp only[tk,u0,u1,u2,u4,u5,ae,aW,ak];refine av (λc=>?_) (λc=>?_)
 ·have k1:t.kind=1:=aa1 c;rw[Ns,aA];have e0:fR t=[t.un.id,t.un.kind,t.un.dA,t.un.back,t.un.front]++t.un.shape.flatMap λp=> [p.x,p.y]:=by unfold fR;rw[aa5 k1]
  obtain⟨m2,a0⟩:∃x,x=m1.push (.cells ([t.un.id,t.un.kind,t.un.dA,t.un.back,t.un.front].map (.int .i64)) 3 none):=⟨_,rfl⟩
  rw[<-a0];have G0:m2.n=m1.n+1:=by rw[a0];exact M.iQ
  have i0:m2.get m1.n=.cells ([t.un.id,t.un.kind,t.un.dA,t.un.back,t.un.front].map (.int .i64)) 3 none:=by rw[a0];exact M.aY
  have B0:Ext m1 m2:=a0 ▸ Ext.refl.push;have H0:Ap m1.n m2 [t.un.id,t.un.kind,t.un.dA,t.un.back,t.un.front] (aer m1.n 0 5 5):=.inr ⟨m1.n,_,_,rfl,i0,nq i0⟩;clear a0 i0;refine Lp.intro (γ:=Nat) (λi=>t.un.shape.length-i) (λi vs H lo=>∃r,vs=[r,aev i]/\i<=t.un.shape.length/\Ext m1 H/\m.n<=lo/\Ap m1.n H ([t.un.id,t.un.kind,t.un.dA,t.un.back,t.un.front]++(t.un.shape.take i).flatMap λp=> [p.x,p.y]) r) 0 ⟨_,rfl,aa6 _,B0,by omega,by grind⟩ ?_;rintro i vs H lo ⟨r,rfl,hi,d0,j0,ho⟩;have nm:=d0.n;have r0:=(hw.aG h0).aG d0;obtain⟨-, -, -,v3, -, -⟩:=vd (d0.cells g1);rw[aE,aE,v3,ae,r0.len cF,aA,aQ,ae,ak];refine av (λs0=>?_) (λC0=>?_)
  ·have s0:i < t.un.shape.length:=by grind
   obtain⟨p,hp⟩:∃p,t.un.shape[i]?=some p:=⟨_,aaW s0⟩
   have⟨b0,o0,bc,g0,cs,e1,v0,k0,_,y0⟩:=r0.gM cF (k:=.i64) hp;have k0:cs=p.c:=k0;subst k0;have fl:=sU (t.un.shape.take i);rw[abP]at fl;have lx:ah TE H 3 (aeq b0 (o0+0))=some (aev p.x):=by rw[bO,aL v0,y0 0 (by decide)];rfl
   have ly:ah TE H 3 (aeq b0 (o0+1))=some (aev p.y):=by rw[bO,aL v0,y0 1 (by decide)];rfl
   rw[ae,e1,ae,ck,ae,lx,ae,ae,e1,ae,cU,ae,ly,ae,mV,aA];obtain⟨m3,l0⟩:∃x,x=H.push (.cells ([p.x,p.y].map (.int .i64)) 3 none):=⟨_,rfl⟩
   rw[<-l0];have n0:Ext H m3:=l0 ▸ Ext.refl.push;have D0:m3.get H.n=.cells ([p.x,p.y].map (.int .i64)) 3 none:=by rw[l0];exact M.aY
   have n3:=n0.n;obtain⟨r',m5,q1,q2,q3,q4,q5⟩:=(ho.aG n0).append RK rfl (nq D0) (by simp) (by omega) (by grind);have q1:az TE (M.wl m3 (M.n m3)) .append [26,26] [r,aer H.n 0 2 2]=some (r',m5):=q1;rw[q1,aA,aS,ae,wrap64];refine⟨i+1,by omega,r',rfl,by omega,⟨by omega,λc hc=>by rw[q5 c hc,n0.get c (by omega),d0.get c hc]⟩,by omega,.inl ?_⟩;rw[abg,hp,acz,<-abv];exact q2
  ·have E0:i=t.un.shape.length:=by
    have:¬(i:Int)< (t.un.shape.length:Int):=aaZ C0
    omega
   subst E0
   rw[abD]at ho
   have hs:=ho.sl
   rw[<-e0]at hs
   obtain⟨a,k,rfl⟩:=hs.form
   cases a with
   |none=>
    rcases hs with⟨h,_⟩ |⟨b,o,c,bc,g,h,_⟩;·rw[e0]at h;simp at h
    cases h
   |some a=>exact Mw hs j0 (h0.trans d0)
 have k1:t.kind≠1:=aaZ c
 have fin:∀{l:List Int} {k:Nat},fR t=l->l.length=k->∀{m2:M},m2=m1.push (.cells (l.map (.int .i64)) 3 none)->∀{lo:Nat},m.n<=lo->∀{Q:Prop},Q->
   (bF (bz [Value.slice (some ⟨m1.n,0,none⟩) k k])/\m.n<=lo/\(Q/\Ext m m/\Sl m (fR t) (aer m1.n 0 k k)))\/((bF (bz [Value.slice (some ⟨m1.n,0,none⟩) k k])=false\/lo < m.n)/\(min m.n lo=m.n/\Ext m m2/\Sl m2 (fR t) (aer m1.n 0 k k))):=by
  rintro l k e rfl m2 rfl lo j0 Q -
  rw[e]
  exact Mw (nq M.aY) j0 (h0.trans Ext.refl.push)
 refine bA (λvs H lo=>vs=[.bool (decide (t.kind=2\/t.kind=3\/t.kind=6\/t.kind=7))]/\m1=H/\lo=m.n) (λQ hQ=>?_) ?_
 ·refine av (λc=>hQ _ _ _ ⟨by grind,rfl,rfl⟩) (λc2=>?_)
  refine av (λc=>hQ _ _ _ ⟨by grind,rfl,rfl⟩) (λc3=>?_)
  refine av (λc=>hQ _ _ _ ⟨by grind,rfl,rfl⟩) (λc6=>hQ _ _ _ ⟨?_,rfl,rfl⟩)
  have c2:=aaZ c2
  have c3:=aaZ c3
  have c6:=aaZ c6
  congr 2
  rw[decide_eq_decide]
  omega
 rintro _ _ _ ⟨rfl,rfl,rfl⟩;simp only[tid,KE,p0,q0,ae];rw[aE,ak];refine av (λc=>?_) (λc=>?_)
 ·rw[Nt,aA];exact fin (l:=[t.id]) (by unfold fR;rw[aa4 k1,aa5 (aa1 c)]) rfl rfl (aaV _) (by grind)
 have c2:=aaZ c;refine av (λc=>?_) (λc=>?_)
 ·rw[mV,aA];exact fin (l:=[t.id,t.dA]) (by unfold fR;rw[aa4 k1,aa4 c2,aa5 (aa1 c)]) rfl rfl (aaV _) (by grind)
 have c4:=aaZ c;refine bA (λvs H lo=>vs=[.bool (decide (t.kind=5\/t.kind=8))]/\m1=H/\lo=m.n) (λQ hQ=>?_) ?_
 ·refine av (λc=>hQ _ _ _ ⟨by grind,rfl,rfl⟩) (λc5=>hQ _ _ _ ⟨?_,rfl,rfl⟩)
  have c5:=aaZ c5
  congr 2
  rw[decide_eq_decide]
  omega
 rintro _ _ _ ⟨rfl,rfl,rfl⟩;simp only[tid,KE,p0,q0,ae];rw[aE,ak];refine av (λc=>?_) (λc=>?_)
 ·rw[mV,aA];exact fin (l:=[t.id,t.side]) (by unfold fR;rw[aa4 k1,aa4 c2,aa4 c4,aa5 (aa1 c)]) rfl rfl (aaV _) (by grind)
 have c5:=aaZ c;refine av (λc=>?_) (λc=>?_)
 ·rw[DJ,aA];exact fin (l:=[t.id,t.other,t.dA]) (by unfold fR;rw[aa4 k1,aa4 c2,aa4 c4,aa4 c5,aa5 (aa1 c)]) rfl rfl (aaV _) (by grind)
 have c9:=aaZ c;have e:fR t=[]:=by unfold fR;rw[aa4 k1,aa4 c2,aa4 c4,aa4 c5,aa4 c9]
 rw[e];exact .inl ⟨rfl,aaV _,by grind,.refl,.nil⟩
abbrev Tk.z:Tk:=⟨0,.z,0,0,0,0⟩
def GC(o:Option Tk)(m':M)(H:aes):Prop:=match o with
 |some t=>∃w,H=.tuple #[t.v w,.bool true]/\Sl m' t.un.shape w
 |none=>H=.tuple #[Tk.z.v (.slice none 0 0),.bool false]
theorem PY{t:Tk}{w b:aes}(h:bF (.tuple #[t.v w,b])):Go.D.bI w:=by
 have H:((true && (true && (true && (true && (Go.D.bI w && (true && (true && (true && (true && (true && (true && true))))))))))) && (dw b && true)):=h
 grind
theorem GC.flat{o:Option Tk}{m':M}{v b:aes}(h:GC o m' (.tuple #[v,b]))(H:bF (.tuple #[v,b]))(m:M):GC o m (.tuple #[v,b]):=by
 unfold GC at h⊢;split at h
 ·have⟨w,e,hs⟩:=h;cases e;exact⟨w,rfl,(kN hs (PY H) m).2⟩
 exact h
theorem OV{k:Int}:aK TE 62 [(0,aev k)]=some (Tk.v ⟨k,.z,0,0,0,0⟩ aew):=rB rfl
theorem Ks:aK TE 62 []=some (Tk.z.v aew):=Kt
section
variable {b:Nat} {t:Tk} {w:aes} {g:Option Nat} {P:M->Nat->Prop}
theorem zZ{j:Nat}{v:Int}(h:m.get b=.cells (t.c w) 62 g)(hj:7<=j)(H:j<=10)
  (hP:∀m1,m1.n=m.n->m1.get b=.cells ((t.c w).set j (aev v)) 62 g->(∀c,c≠b->m1.get c=m.get c)->P m1 b):
  aR (aF TE m 3 (aeq b (0+j)) (aev v)) P:=by
 refine bY tG h rfl (by show 0+j+1<=11;omega) rfl λm1 hn hg hk=>hP m1 hn ?_ hk
 rw[hg]
 congr 1
 have:(cells (Value.int .i64 v))=[aev v]:=rfl
 rw[this,abA]
 exact kn (by show j < 11;omega)
theorem Mh{u:Un}{w':aes}(h:m.get b=.cells (t.c w) 62 g)(h1:one w')
  (H:∀m1,m1.n=m.n->m1.get b=.cells (Tk.c {t with un:=u} w') 62 g->(∀c,c≠b->m1.get c=m.get c)->P m1 b):
  aR (aF TE m 60 (aeq b (0+1)) (u.v w')) P:=
 bY df h rfl (by show 0+1+6<=11;decide) (Un.cM h1) λm1 hn hg hk=>H m1 hn hg hk
theorem Mi{w':aes}(h:m.get b=.cells (t.c w) 62 g)(h1:one w')(H:cells w'=[w'])
  (hP:∀m1,m1.n=m.n->m1.get b=.cells (t.c w') 62 g->(∀c,c≠b->m1.get c=m.get c)->P m1 b):
  aR (aF TE m 58 (aeq b (0+1+3)) w') P:=
 bY xI h (by rw[H];rfl) (by grind) (by grind) λm1 hn hg hk=>hP m1 hn (by simp_all) hk
end
theorem yn:∀(l:List Int) (k:Nat) (x y:Int),l[2*k]?=some x->l[2*k+1]?=some y->(gZ l)[k]?=some ⟨x,y⟩
 |[],k,x,y,h,_=>by simp at h
 |[a],k,x,y,h,H=>by
  cases k with
  |zero=>simp at H
  |succ k=>simp[show 2*(k+1)=2*k+1+1 by omega]at h
 |a::b::r,0,x,y,h,H=>by
  cases h;cases H;rfl
 |a::b::r,k+1,x,y,h,H=>by
  rw[show 2*(k+1)=2*k+1+1 by omega]at h H
  simp only[aaX]at h H
  show(gZ r)[k]?=_
  exact yn r k x y h H
theorem nA:∀(l:List Int),(gZ l).length=l.length/2
 |[]=>rfl
 |[a]=>by simp[gZ]
 |a::b::r=>by
  show(gZ r).length+1=(r.length+1+1)/2
  rw[nA r];omega
theorem Qw(hX:cy X){k:Int}{l:List Int}{v:aes}(hv:Sl m l v)(hl:l.length < 1000000):
  ∃rv m',C X (.func 178) [aev k,v] m m.n rv m'/\Ext m m'/\GC (yw k l) m' rv:=by
 refine Cl.FD hX (aaU func178) ?_;rw[ZP];dsimp only[δ,ε,ζ,η,θ,ι,κ,ν,ς,υ,χ,ω];refine aw λm1 C1 g1 h1=>?_;rw[OV,ae];refine aw λm3 D1 C0 i1=>?_;refine aD nT C0 rfl rfl rfl λm4 E1 D0 j1=>?_;have gz:m4.get m.n=.cells (Tk.z.c aew) 62 none:=by grind
 have ga:m4.get m1.n=.cells (Tk.c ⟨k,.z,0,0,0,0⟩ aew) 62 none:=D0;have d0:Ext m m4:=⟨by omega,by grind⟩
 obtain⟨A,hA⟩:∃A,A=m1.n:=⟨_,rfl⟩
 rw[<-hA]at ga⊢;have l1:m.n < A:=by omega
 have F1:A < m4.n:=by omega
 clear g1 h1 C0 i1 D0 j1;unfold ptrTo;simp only[dD,cp,cK,cG,dk,bL,ae,aW,ak]
 have fin:∀{mm:M} {t:Tk} {w:aes} {lo:Nat} {Q:Prop},Q->mm.get A=.cells (t.c w) 62 none->mm.get m.n=.cells (Tk.z.c aew) 62 none->Sl mm t.un.shape w->yw k l=some t->m.n<=mm.n->(∀c,c < m.n->mm.get c=m.get c)->m.n<=lo->
   aj (ah TE mm 62 (aeq A 0)) λv=>aR (aF TE mm 62 (aeq m.n 0) v) λm' b=>aj (ah TE m' 62 (aeq m.n 0)) λv'=>
    (bF (bz [v',aex])/\m.n<=min lo b/\(Q/\Ext m m/\GC (yw k l) m (bz [v',aex])))\/((bF (bz [v',aex])=false\/min lo b < m.n)/\(min m.n (min lo b)=m.n/\Ext m m'/\GC (yw k l) m' (bz [v',aex]))):=by
  intro mm t w lo Q hQ ga gz hs ho hn hk H
  rw[fL ga,ae]
  refine aD nT gz rfl rfl (Tk.cM hs.one) λm' o1 e0 E0=>?_
  have e0:m'.get m.n=.cells (t.c w) 62 none:=e0
  rw[fL e0,ae]
  have r1:Sl m' t.un.shape w:=hs.bs λc cs ty g hc ht=>by rw[E0 c (λe=>by subst e;rw[gz]at hc;cases hc;simp[aZ.ty,aZ.dd]at ht),hc]
  have hr:GC (yw k l) m' (.tuple #[t.v w,aex]):=by unfold GC;rw[ho];exact⟨w,rfl,r1⟩
  show(bF (.tuple #[t.v w,aex])/\_/\(Q/\Ext m m/\GC _ m (.tuple #[t.v w,aex])))\/((bF (.tuple #[t.v w,aex])=false\/_)/\(_/\Ext m m'/\GC _ m' (.tuple #[t.v w,aex])))
  cases hf:bF (.tuple #[t.v w,aex])
  ·exact .inr ⟨.inl rfl,by omega,⟨by omega,by grind⟩,hr⟩
  ·exact .inl ⟨rfl,by omega,hQ,.refl,hr.flat hf m⟩
 have bad:∀{mm:M} {lo:Nat} {Q:Prop},Q->mm.get m.n=.cells (Tk.z.c aew) 62 none->yw k l=none->m.n<=lo->
   aj (aK TE 62 []) λv=>aR (aF TE mm 62 (aeq m.n 0) v) λm' b=>aj (ah TE m' 62 (aeq m.n 0)) λv'=>
    (bF (bz [v',aey])/\m.n<=min lo b/\(Q/\Ext m m/\GC (yw k l) m (bz [v',aey])))\/((bF (bz [v',aey])=false\/min lo b < m.n)/\(min m.n (min lo b)=m.n/\Ext m m'/\GC (yw k l) m' (bz [v',aey]))):=by
  intro mm lo Q hQ gz ho H
  rw[Ks,ae]
  refine aD nT gz rfl rfl rfl λm' o1 e0 E0=>?_
  have e0:m'.get m.n=.cells (Tk.z.c aew) 62 none:=e0
  rw[fL e0,ae]
  exact .inl ⟨rfl,by omega,hQ,.refl,by unfold GC;rw[ho];rfl⟩
 have b0:∀{mm:M} {i:Nat},Ext m mm->i < l.length->∃a,an TE 26 v (aev i)=some a/\ah TE mm 3 a=some (aev (l.getD i 0)):=by
  intro mm i hx hi
  have:=(hv.aG hx).Pb (k:=.i64) (show l[i]?=some (l.getD i 0) by grind)
  grind
 refine av (λc=>?_) (λc=>?_)
 ·have k1:k=1:=aa1 c;have ho:yw k l=if 11<=l.length/\l.length<=21/\l.length%2=1 then some ⟨1,⟨l.getD 0 0,l.getD 1 0,l.getD 2 0,gZ (l.drop 5),l.getD 3 0,l.getD 4 0⟩,0,0,0,0⟩else none:=by unfold yw;rw[aa5 k1]
  refine bA (λvs mm lo=>vs=[.bool (!decide (11<=l.length/\l.length<=21/\l.length%2=1))]/\m4=mm/\m.n<=lo) (λQ hQ=>?_) ?_
  ·rw[(hv.aG d0).len je,aA,aQ,ae,ak]
   refine av (λc=>hQ _ _ _ ⟨?_,rfl,by omega⟩) (λc1=>?_)
   ·have c:=aa1 c;rw[tg];rfl
   have c1:=aaZ c1
   rw[aA,bX,ae,ak]
   refine av (λc=>hQ _ _ _ ⟨?_,rfl,by omega⟩) (λc2=>?_)
   ·have c:=aa1 c;rw[tg];rfl
   have c2:=aaZ c2
   rw[aA,tw (by decide),ae,aW,ae]
   refine hQ _ _ _ ⟨?_,rfl,by omega⟩
   congr 2
   rw[<-decide_not,decide_eq_decide]
   have:(l.length:Int).tmod 2=((l.length%2:Nat):Int):=by grind
   rw[this]
   omega
  rintro _ _ lo ⟨rfl,rfl,H⟩;rw[aE,ak];refine av (λc=>?_) (λc=>?_)
  ·rw[abo]at c;rw[aa4 (aaZ c)]at ho;exact bad (by grind) gz ho H
  rw[abj]at c;have hc:=aa1 c;rw[aa5 hc]at ho;obtain⟨a0,p0,q0⟩:=b0 d0 (show 0 < l.length by omega);obtain⟨a1,p1,q1⟩:=b0 d0 (show 1 < l.length by omega);obtain⟨a2,p2,q2⟩:=b0 d0 (show 2 < l.length by omega);obtain⟨a3,p3,q3⟩:=b0 d0 (show 3 < l.length by omega);obtain⟨a4,p4,q4⟩:=b0 d0 (show 4 < l.length by omega);have p0:an TE 26 v (aev 0)=some a0:=p0;have p1:an TE 26 v (aev 1)=some a1:=p1;have p2:an TE 26 v (aev 2)=some a2:=p2;have p3:an TE 26 v (aev 3)=some a3:=p3;have p4:an TE 26 v (aev 4)=some a4:=p4;rw[p0,ae,q0,ae,p1,ae,q1,ae,p2,ae,q2,ae,p3,ae,q3,ae,p4,ae,q4,ae];rw[show aK TE 60 [(0,aev (l.getD 0 0)),(1,aev (l.getD 1 0)),(2,aev (l.getD 2 0)),(4,aev (l.getD 3 0)),(5,aev (l.getD 4 0))]=some (Un.v ⟨l.getD 0 0,l.getD 1 0,l.getD 2 0,[],l.getD 3 0,l.getD 4 0⟩ aew)from rC rfl rfl rfl rfl rfl,ae]
  refine Mh ga rfl λG1 z1 F0 G0=>?_;obtain⟨L,hL⟩:∃L,L=l.drop 5:=⟨_,rfl⟩
  have H1:L.length=l.length-5:=by grind
  refine Lp.intro (γ:=Nat) (λj=>L.length-j) (λj vs mm lo=>∃r,vs=[aev ((5+2*j:Nat):Int)]/\2*j<=L.length/\m4.n<=mm.n/\m.n<=lo/\(∀c,c < A->mm.get c=m4.get c)/\mm.get A=.cells (Tk.c ⟨k,⟨l.getD 0 0,l.getD 1 0,l.getD 2 0,[],l.getD 3 0,l.getD 4 0⟩,0,0,0,0⟩ r) 62 none/\Ow (A+1) mm ((gZ L).take j) r) 0 ⟨_,rfl,by omega,by omega,by omega,λc hc=>G0 c (by omega),F0,Ow.nil⟩ ?_;rintro j vs mm I1 ⟨r,rfl,hj,J1,H0,I0,J0,v0⟩;have o0:Ext m mm:=⟨by omega,λc hc=>by rw[I0 c (by omega),d0.get c hc]⟩
  rw[aE,(hv.aG o0).len je,aA,aQ,ae,ak];refine av (λK0=>?_) (λK1=>?_)
  ·have K0:5+2*j < l.length:=by grind
   have⟨a,e1,e2⟩:=b0 o0 K0;obtain⟨a',e3,e4⟩:=b0 o0 (show 5+2*j+1 < l.length by omega);have e3:an TE 26 v (aev (((5+2*j:Nat):Int)+1))=some a':=e3
   have hp:(gZ L)[j]?=some ⟨l.getD (5+2*j) 0,l.getD (5+2*j+1) 0⟩:=by
    refine yn _ _ _ _ ?_ ?_
    ·grind
    ·grind
   have lr:ah TE mm 58 (aeq A (0+1+3))=some r:=(vd J0).2.2.2.1;rw[lr,ae,e1,ae,e2,ae,aS,ae,wrap64,e3,ae,e4,ae];rw[show aK TE 141 [(0,aev (l.getD (5+2*j) 0)),(1,aev (l.getD (5+2*j+1) 0))]=some (Pl.v ⟨l.getD (5+2*j) 0,l.getD (5+2*j+1) 0⟩)from my rfl rfl,ae];have L1:((gZ L).take j).length<=j:=by grind
   have pp:=nA L;refine fP (T:=58) (x:=(⟨l.getD (5+2*j) 0,l.getD (5+2*j+1) 0⟩:Pl)) uT rfl v0 (by omega) (by omega) Fo (λ_=>rfl) λr' m2 w2 n2 k2 N1 l2=>?_;have L0:m2.get A=_:=(k2 A (by omega)).trans J0;refine Mi L0 w2.sl.one w2.sl.cells λO1 A1 N0 O0=>?_;rw[aS,ae,wrap64];refine⟨j+1,by omega,r',by grind,by omega,by omega,by omega,by grind,N0,?_⟩;rw[abg,hp];exact w2.pk rfl λc P1 T1=>O0 c (by omega)
  have b2:2*j=L.length:=by
   grind
  have pp:=nA L;rw[abk (by omega)]at v0;have P0:mm.get A=.cells (Tk.c ⟨1,⟨l.getD 0 0,l.getD 1 0,l.getD 2 0,gZ (l.drop 5),l.getD 3 0,l.getD 4 0⟩,0,0,0,0⟩ r) 62 none:=by grind
  exact fin (by grind) P0 ((I0 _ l1).trans gz) (hL ▸ v0.sl) ho (by omega) (λc hc=>o0.get c hc) H0
 have k1:k≠1:=aaZ c;obtain⟨M,hM⟩:∃M:Nat,M=if k=4\/k=5\/k=8 then 2 else if k=9 then 3 else 1:=⟨_,rfl⟩
 have ho:yw k l=if l.length=M then some (if k=9 then⟨k,.z,l.getD 0 0,l.getD 1 0,0,l.getD 2 0⟩else if k=5\/k=8 then⟨k,.z,l.getD 0 0,0,l.getD 1 0,0⟩else if k=4 then⟨k,.z,l.getD 0 0,0,0,l.getD 1 0⟩else⟨k,.z,l.getD 0 0,0,0,0⟩)else none:=by
  unfold yw
  grind
 refine bA (λvs mm lo=>vs=[aev (if k=4\/k=5\/k=8 then 2 else 1)]/\m4=mm/\m.n<=lo) (λQ hQ=>?_) ?_
 ·refine bA (λvs mm lo=>vs=[.bool (decide (k=4\/k=5\/k=8))]/\m4=mm/\m.n<=lo) (λR hR=>?_) ?_
  ·refine av (λc=>hR _ _ _ ⟨by grind,rfl,by omega⟩) (λc4=>?_)
   refine av (λc=>hR _ _ _ ⟨by grind,rfl,by omega⟩) (λc5=>hR _ _ _ ⟨?_,rfl,by omega⟩)
   have c4:=aaZ c4
   have c5:=aaZ c5
   congr 2
   rw[decide_eq_decide]
   omega
  rintro _ _ lo ⟨rfl,rfl,H⟩;rw[aE,ak];refine av (λc=>hQ _ _ _ ⟨by grind,rfl,H⟩) (λc=>hQ _ _ _ ⟨by grind,rfl,H⟩)
 rintro _ _ lo ⟨rfl,rfl,H⟩;rw[aE];refine bA (λvs mm lo=>vs=[aev (M:Int)]/\m4=mm/\m.n<=lo) (λQ hQ=>?_) ?_
 ·refine av (λc=>hQ _ _ _ ⟨?_,rfl,H⟩) (λc=>hQ _ _ _ ⟨?_,rfl,H⟩)
  ·have c:=aa1 c;subst c;rw[hM];rfl
  have c:=aaZ c;rw[hM,aa4 c];split <;>rfl
 rintro _ _ lo ⟨rfl,rfl,H⟩;rw[aE,(hv.aG d0).len je,aA,bZ,ae,ak];refine av (λc=>?_) (λc=>?_)
 ·rw[abo]at c;have c:=aaZ c;rw[jz]at ho;exact bad (by grind) gz ho H
 rw[abj]at c;have c:=aa1 c;have u1:l.length=M:=by omega
 rw[aa5 u1]at ho;have d2:1<=M:=by grind
 obtain⟨a0,p0,q0⟩:=b0 d0 (show 0 < l.length by omega);have p0:an TE 26 v (aev 0)=some a0:=p0;rw[p0,ae,q0,ae];refine zZ (j:=7) ga (by omega) (by omega) λS0 b1 i0 r0=>?_;have i0:S0.get A=.cells (Tk.c ⟨k,.z,l.getD 0 0,0,0,0⟩ aew) 62 none:=i0;refine bA (λvs mm lo=>vs=[]/\mm.n=m4.n/\(∀c,c≠A->mm.get c=m4.get c)/\m.n<=lo/\mm.get A=.cells (Tk.c (if k=4 then⟨k,.z,l.getD 0 0,0,0,l.getD 1 0⟩else⟨k,.z,l.getD 0 0,0,0,0⟩) aew) 62 none) (λQ hQ=>?_) ?_
 ·refine av (λc=>?_) (λc=>hQ _ _ _ ⟨rfl,b1,r0,by omega,by grind⟩);have c:=aa1 c;have v1:M=2:=by grind
  obtain⟨a1,p1,q1⟩:=b0 (mm:=S0) ⟨by omega,λc hc=>by rw[r0 c (by omega),d0.get c hc]⟩ (show 1 < l.length by omega);have p1:an TE 26 v (aev 1)=some a1:=p1;rw[p1,ae,q1,ae];refine zZ (j:=10) i0 (by omega) (by omega) λmm hn hg hk=>hQ _ _ _ ⟨rfl,by omega,by grind,by omega,by simp_all⟩
 rintro _ s0 lo ⟨rfl,y0,j0,H,k0⟩;refine bA (λvs mm lo=>vs=[]/\mm.n=m4.n/\(∀c,c≠A->mm.get c=m4.get c)/\m.n<=lo/\mm.get A=.cells (Tk.c (if k=5\/k=8 then⟨k,.z,l.getD 0 0,0,l.getD 1 0,0⟩else if k=4 then⟨k,.z,l.getD 0 0,0,0,l.getD 1 0⟩else⟨k,.z,l.getD 0 0,0,0,0⟩) aew) 62 none) (λQ hQ=>?_) ?_
 ·refine bA (λvs mm lo=>vs=[.bool (decide (k=5\/k=8))]/\s0=mm/\m.n<=lo) (λR hR=>?_) ?_
  ·refine av (λc=>hR _ _ _ ⟨by grind,rfl,H⟩) (λc5=>hR _ _ _ ⟨?_,rfl,H⟩)
   have c5:=aaZ c5
   congr 2
   rw[decide_eq_decide]
   omega
  rintro _ _ lo ⟨rfl,rfl,H⟩;rw[aE,ak];refine av (λc=>?_) (λc=>hQ _ _ _ ⟨rfl,y0,j0,H,by grind⟩);have c:=aa1 c;have v1:M=2:=by grind
  rw[jz]at k0;obtain⟨a1,p1,q1⟩:=b0 (mm:=s0) ⟨by omega,λc hc=>by rw[j0 c (by omega),d0.get c hc]⟩ (show 1 < l.length by omega);have p1:an TE 26 v (aev 1)=some a1:=p1;rw[p1,ae,q1,ae];refine zZ (j:=9) k0 (by omega) (by omega) λmm hn hg hk=>hQ _ _ _ ⟨rfl,by omega,by grind,by omega,by simp_all⟩
 rintro _ d1 lo ⟨rfl,z0,g0,H,l0⟩;refine bA (λvs mm lo=>vs=[]/\mm.n=m4.n/\(∀c,c≠A->mm.get c=m4.get c)/\m.n<=lo/\mm.get A=.cells (Tk.c (if k=9 then⟨k,.z,l.getD 0 0,l.getD 1 0,0,l.getD 2 0⟩else if k=5\/k=8 then⟨k,.z,l.getD 0 0,0,l.getD 1 0,0⟩else if k=4 then⟨k,.z,l.getD 0 0,0,0,l.getD 1 0⟩else⟨k,.z,l.getD 0 0,0,0,0⟩) aew) 62 none) (λQ hQ=>?_) ?_
 ·refine av (λc=>?_) (λc=>hQ _ _ _ ⟨rfl,z0,g0,H,by grind⟩);have c:=aa1 c;have g2:M=3:=by grind
  rw[jz,jz]at l0;obtain⟨a1,p1,q1⟩:=b0 (mm:=d1) ⟨by omega,λc hc=>by rw[g0 c (by omega),d0.get c hc]⟩ (show 1 < l.length by omega);have p1:an TE 26 v (aev 1)=some a1:=p1;rw[p1,ae,q1,ae];refine zZ (j:=8) l0 (by omega) (by omega) λu0 w1 h0 A0=>?_;have h0:u0.get A=.cells (Tk.c ⟨k,.z,l.getD 0 0,l.getD 1 0,0,0⟩ aew) 62 none:=h0;obtain⟨a2,p2,q2⟩:=b0 (mm:=u0) ⟨by omega,λc hc=>by rw[A0 c (by omega),g0 c (by omega),d0.get c hc]⟩ (show 2 < l.length by omega);have p2:an TE 26 v (aev 2)=some a2:=p2;rw[p2,ae,q2,ae];refine zZ (j:=10) h0 (by omega) (by omega) λmm hn hg hk=>hQ _ _ _ ⟨rfl,by omega,by grind,by omega,by simp_all⟩
 rintro _ B1 lo ⟨rfl,y1,n0,H,B0⟩;refine fin (by grind) B0 ((n0 _ (by omega)).trans gz) ?_ ho (by omega) (λc hc=>by rw[n0 c (by omega),d0.get c hc]) H;split;·exact .nil
 split;·exact .nil
 split <;>exact .nil
theorem Qv{k:Int}{l:List Int}{p:Tk}(h:yw k l=some p):p.un.shape.length<=l.length:=by
 unfold yw at h;split at h
 ·split at h
  ·cases h;show(gZ (l.drop 5)).length<=_;rw[nA,acq];omega
  cases h
 repeat' (split at h)
 all_goals first |(cases h;exact aa6 _) |cases h
theorem Jb(hX:cy X){a b:Tk}{va vb:aes}(ha:Sl m a.un.shape va)(hb:Sl m b.un.shape vb)(la:a.un.shape.length < 4611686018427387904):
  C X (.func 39) [a.v va,b.v vb] m m.n (.bool (decide (a=b))) m:=by
 refine Cl.fG hX (aaU func39) ?_;rw[F39];dsimp only[δ,ε,η,ρ,υ,ψ];refine aw λm1 n0 j0 o0=>?_;refine aw λm2 p0 k0 l0=>?_;have d0:Ext m m2:=⟨by omega,by grind⟩
 have g1:m2.get m.n=.cells (a.c va) 62 none:=by rw[l0 _ (by omega)];exact j0
 have g2:m2.get m1.n=.cells (b.c vb) 62 none:=k0;have⟨a0,a1,a2,a3,a4⟩:=lQ g1;have⟨b0,b1,b2,b3,b4⟩:=lQ g2;have au:=qS g1;have bu:=qS g2;unfold ptrTo;simp only[cC,dD,cp,cK,cG,dk,ae,a0,a1,a2,a3,a4,b0,b1,b2,b3,b4,au,bu,aW,ak];have⟨k,u,id,ot,sd,ma⟩:=a;have⟨k',u',e0,g0,h0,i0⟩:=b;refine bA (λvs m' lo=>vs=[.bool (decide ((⟨k,u,id,ot,sd,ma⟩:Tk)=⟨k',u',e0,g0,h0,i0⟩))]/\m.n<=lo) (λR hR=>?_) ?_
 ·have no:∀{mm:M} {lo:Nat},¬((⟨k,u,id,ot,sd,ma⟩:Tk)=⟨k',u',e0,g0,h0,i0⟩)->m.n<=lo->R [aey] mm lo:=λh H=>hR _ _ _ ⟨by grind,H⟩
  refine av (λc0=>?_) (λc=>no (λe=>aaZ c (by grind)) (by omega))
  refine av (λc1=>?_) (λc=>no (λe=>aaZ c (by grind)) (by omega))
  refine av (λc2=>?_) (λc=>no (λe=>aaZ c (by grind)) (by omega))
  refine av (λc3=>?_) (λc=>no (λe=>aaZ c (by grind)) (by omega))
  refine av (λc4=>?_) (λc=>no (λe=>aaZ c (by grind)) (by omega))
  refine aH (Jc hX (ha.aG d0) (hb.aG d0) la) (hR _ _ _ ⟨?_,by omega⟩)
  congr 2
  rw[decide_eq_decide,Tk.mk.injEq]
  have:=aa1 c0
  have:=aa1 c1
  have:=aa1 c2
  have:=aa1 c3
  have:=aa1 c4
  simp_all
 rintro _ _ lo ⟨rfl,H⟩;rw[aE];exact⟨rfl,H⟩
theorem DX(hX:cy X){t:Tk}{w:aes}(hw:Sl m t.un.shape w)(hl:t.un.shape.length < 100000):
  C X (.func 132) [t.v w] m m.n (.bool (dI t)) m:=by
 rw[<-NL];refine Cl.fG hX (aaU func132) ?_;rw[aae];dsimp only[δ,ε,η,ι,κ,ξ,ο,ρ,ς,υ,χ,ψ,Γ,Δ,ω];refine aw λm1 L0 z0 A0=>?_;have g1:m1.get m.n=.cells (t.c w) 62 none:=z0;have B0:Ext m m1:=⟨by omega,A0⟩
 have l0:=hw.aG B0;obtain⟨k0, -, -, -, -⟩:=lQ g1;obtain⟨-, -, -,v3, -, -⟩:=vd g1;unfold ptrTo;simp only[cC,dD,cp,cK,cG,dk,cS,bL,ae];obtain⟨B,hB⟩:∃B,B=sR t:=⟨_,rfl⟩
 rw[<-hB];unfold sR at hB;refine bA (λvs mm lo=>vs=[.bool (!(cW t.kind 1 9 && decide (t.un.shape.length<=8)))]/\m1=mm/\m.n<=lo) (λQ H=>?_) ?_
 ·rw[k0,ae]
  refine aH (iE hX _ _ _) ?_
  rw[bE,ae,ak]
  refine av (λc=>H _ _ _ ⟨?_,rfl,by omega⟩) (λc=>?_)
  ·rw[abo]at c;rw[c];rfl
  rw[abj]at c
  rw[v3,ae,l0.len cF,aA,bX,ae]
  refine H _ _ _ ⟨?_,rfl,by omega⟩
  rw[c,abG]
  congr 2
  rw[<-decide_not,decide_eq_decide]
  omega
 rintro _ _ lo ⟨rfl,rfl,C0⟩;rw[aE,ak];refine av (λc=>?_) (λc=>?_)
 ·rw[abo]at c;rw[c]at hB;rw[hB];exact⟨rfl,C0⟩
 rw[abj]at c;rw[c,abG]at hB;rw[k0,ae,fL g1,ae];have⟨N0,m23,D0,r0,E0⟩:=BH (m:=m1) hX l0 hl;refine aH D0 ⟨aaV _,?_⟩
 have nl:(fR t).length < 1000000:=by
  unfold fR
  split
  ·rw[abq,sU];simp only[abe,abu];omega
  grind
 have⟨rv,p0,F0,u0,g0⟩:=Qw (m:=m23) (k:=t.kind) hX E0 nl;refine aH F0 ⟨aaV _,?_⟩;have n23:=r0.n;have n26:=u0.n
 obtain⟨p,wp,ok,rfl,sp,lp,e0⟩:∃(p:Tk) (wp:aes) (ok:Bool),rv=.tuple #[p.v wp,.bool ok]/\Sl p0 p.un.shape wp/\p.un.shape.length < 4611686018427387904/\decide (yw t.kind (fR t)=some t)=(ok && decide (p=t)):=by
  unfold GC at g0
  cases e:yw t.kind (fR t)with
  |none=>rw[e]at g0;exact⟨.z,_,false,g0,.nil,by decide,by simp⟩
  |some p=>
   rw[e]at g0
   have⟨wp,h1,h2⟩:=g0
   have:=Qv e
   grind
 rw[aJ,aJ];simp only[aaY,aaX,ae];refine aw λO0 H0 v0 I0=>?_;refine aD nT v0 rfl rfl (Tk.cM sp.one) λq0 J0 h0 K0=>?_;have h0:q0.get p0.n=.cells (p.c wp) 62 none:=h0;have n0:Ext p0 q0:=⟨by omega,by grind⟩
 have b0:=(r0.trans u0).trans n0;have d0:=b0.cells g1;refine bA (λvs mm lo=>vs=[.bool (!decide (yw t.kind (fR t)=some t))]/\q0=mm/\m.n<=lo) (λQ H=>?_) ?_
 ·rw[bE,ae,ak];refine av (λc=>H _ _ _ ⟨?_,rfl,by omega⟩) (λc=>?_)
  ·rw[abo]at c;rw[e0,c];rfl
  rw[abj]at c;rw[fL h0,ae,fL d0,ae];refine aH (Jb hX (sp.aG n0) (l0.aG b0) lp) ?_;rw[bE,ae];exact H _ _ _ ⟨by grind,rfl,by omega⟩
 rintro _ _ gh ⟨rfl,rfl,y0⟩;rw[aE,ak];refine av (λc=>?_) (λc=>?_)
 ·rw[abo]at c;rw[c,acQ]at hB;rw[hB];exact⟨rfl,y0⟩
 rw[abj]at c;rw[c,abG]at hB;have⟨k0,i0,o0,s0,a0⟩:=lQ d0;obtain⟨-,ku, -, -, -, -⟩:=vd d0;have uu:=qS d0;simp only[cS,ae,k0,i0,o0,s0,a0,ku,uu,aW,bZ,aQ,ak];refine av (λc1=>?_) (λc1=>?_)
 ·rw[aa5 (aa1 c1)]at hB;refine bA (λvs mm lo=>vs=[.bool B]/\m.n<=lo) (λQ H=>?_) ?_
  ·refine aH (iP hX (l0.aG b0) (by omega)) ?_;rw[ak];refine av (λc=>?_) (λc=>H _ _ _ ⟨by grind,by omega⟩);rw[ku,ae];refine aH (iE hX _ _ _) ?_;exact H _ _ _ ⟨by grind,by omega⟩
  rintro _ _ G0 ⟨rfl,j0⟩;rw[aE];exact⟨rfl,j0⟩
 rw[aa4 (aaZ c1)]at hB;refine bA (λvs mm lo=>vs=[.bool B]/\m.n<=lo) (λQ H=>?_) ?_
 ·refine aH (iE hX _ _ _) ?_;rw[ak];refine av (λc=>?_) (λc=>H _ _ _ ⟨by grind,by omega⟩);rw[o0,ae];refine aH (iE hX _ _ _) ?_;rw[ak];refine av (λd=>?_) (λd=>H _ _ _ ⟨by grind,by omega⟩);rw[s0,ae];refine aH (iE hX _ _ _) ?_;rw[ak];refine av (λe=>?_) (λe=>H _ _ _ ⟨by grind,by omega⟩);rw[a0,ae];refine aH (iE hX _ _ _) ?_;rw[ak];refine av (λf=>?_) (λf=>H _ _ _ ⟨by grind,by omega⟩);rw[k0,ae,bZ,ae,ak,i0,ae,o0,ae,aQ,ae];refine av (λg=>H _ _ _ ⟨by grind,by omega⟩) (λg=>H _ _ _ ⟨by grind,by omega⟩)
 rintro _ _ G0 ⟨rfl,j0⟩;rw[aE];exact⟨rfl,j0⟩
theorem PN{u:Un}{w b:aes}(h:bF (.tuple #[u.v w,b])):Go.D.bI w:=by
 have H:((true && (true && (true && (Go.D.bI w && (true && (true && true)))))) && (dw b && true)):=h
 grind
theorem eX.flat{us:List Un}{id:Int}{m':M}{v b:aes}(h:eX us id m' (.tuple #[v,b]))(H:bF (.tuple #[v,b]))(m:M):eX us id m (.tuple #[v,b]):=by
 unfold eX at h⊢;split at h
 ·have⟨w,e,hs⟩:=h;cases e;exact⟨w,rfl,(kN hs (PN H) m).2⟩
 exact h
theorem yO{us:List Un}{id:Int}{m':M}{v b:aes}{lo:Nat}{Q:Prop}(hQ:Q)(h:eX us id m' (.tuple #[v,b]))(H:m.n<=lo)(hx:Ext m m'):
  (bF (bz [v,b])/\m.n<=lo/\(Q/\Ext m m/\eX us id m (bz [v,b])))\/((bF (bz [v,b])=false\/lo < m.n)/\(min m.n lo=m.n/\Ext m m'/\eX us id m' (bz [v,b]))):=by
 cases hf:bF (bz [v,b]);·exact .inr ⟨.inl rfl,by omega,hx,h⟩
 exact .inl ⟨rfl,H,hQ,.refl,h.flat hf m⟩
theorem iX(hX:cy X){l:List UW}{v vm:aes}(h:cY m l v)(hl:l.length < 1000000)(h1:one vm)(id:Int):
  ∃rv m',C X (.func 71) [.agg #[v,vm],aev id] m m.n rv m'/\Ext m m'/\eX (bR l) id m' rv:=by
 refine Cl.FD hX (aaU func71) ?_;rw[F71];dsimp only[δ,ε,ζ,η,θ,ι,κ,ρ,ς,υ,χ];refine aw λm1 B0 i0 C0=>?_;refine aw λm2 D0 j0 k0=>?_;have l0:Ext m m2:=⟨by omega,by grind⟩
 have g1:m2.get m.n=.cells [v,vm] 33 none:=by rw[k0 _ (by omega)];exact i0
 have g2:m2.get m1.n=.cells Un.zc 60 none:=j0;have hF:=h.aG l0;obtain⟨-,n0, -, -⟩:=kj g1;unfold ptrTo;simp only[cd,bN,ae];refine Lp.intro (γ:=Nat) (λi=>l.length-i) (λi vs mm lo=>∃z,vs=[z,aev i]/\i<=l.length/\m2=mm/\m.n<=lo/\(bR (l.take i)).find? (λy=>decide (y.id=id))=none) 0 ⟨_,rfl,aa6 _,rfl,by omega,rfl⟩ ?_;rintro i vs mm lo ⟨z,rfl,hi,rfl,o0,b0⟩;rw[aE,aE,n0,ae,hF.sl.len dt,aA,aQ,ae,ak];refine av (λe0=>?_) (λE0=>?_)
 ·have e0:i < l.length:=by grind
  obtain⟨x,hx⟩:∃x,l[i]?=some x:=⟨_,aaW e0⟩
  have⟨q,q0,f1,f2,f3⟩:=rK hF.sl hx;have⟨q',q1,q2,ow⟩:=hF.sl.fx (k:=.i64) hx;obtain rfl:q=q':=Option.some.inj (f1.symm.trans q1);have p0:=aa2 hx;rw[ae,f1,ae,f2,ae,f3,ae,aW,ae,ak];have r0:bR (l.take (i+1))=bR (l.take i)++ [x.u]:=by unfold bR;rw[abg,hx,abE];rfl
  refine av (λc=>?_) (λc=>?_)
  ·rw[ae,f1,ae,q2,ae];refine aD df g2 rfl rfl (Un.cM ow) λg0 y0 H h0=>?_;have H:g0.get m1.n=.cells (x.u.c x.w) 60 none:=H;rw[bV H,ae]
   have d0:cf (bR l) id=some x.u:=by
    have e:bR l=bR (l.take (i+1))++bR (l.drop (i+1)):=by unfold bR;rw[<-abE,abW]
    unfold cf
    grind
   refine yO (m':=g0) (by grind) ?_ (by omega) ⟨by omega,by grind⟩;unfold eX;rw[d0];exact⟨x.w,rfl,(hF.sh x p0).bs λc cs t g hc ht=>by rw[h0 c (λe=>by subst e;rw[g2]at hc;cases hc;simp[aZ.ty,aZ.dd]at ht),hc]⟩
  rw[aS,ae,wrap64 (by grind) (by omega)];refine⟨i+1,by omega,z,rfl,by omega,rfl,o0,?_⟩;rw[r0,List.find?_append,b0];simp[c]
 have s0:i=l.length:=by
  grind
 subst s0;rw[abD]at b0;have u0:aK TE 60 []=some (.agg Un.zc.toArray):=kL;rw[u0,ae];refine aD df g2 rfl rfl rfl λv0 z0 a0 A0=>?_;have a0:v0.get m1.n=.cells (Un.c ⟨0,0,0,[],0,0⟩ aew) 60 none:=a0;rw[bV a0,ae];refine .inl ⟨rfl,by omega,by grind,.refl,?_⟩;unfold eX cf;rw[b0];rfl
theorem AA{l:List KW}{st:aes}(h:Sl m l st){i:Nat}{x:KW}(hx:l[i]?=some x):∃b o,an TE 34 st (aev i)=some (aeq b o)/\ah TE m 3 (aeq b (o+0+0))=some (aev x.u.id)/\ah TE m 113 (aeq b o)=some x.v/\one x.w/\one x.mv:=by
 have⟨b,o,bc,g,cs,e1,hb,hr,hle,hj⟩:=h.gM ff (k:=.i64) hx;obtain⟨rfl,h1,h2⟩:cs=x.c/\one x.w/\one x.mv:=hr;have hle:o+7<=bc.length:=hle;refine⟨b,o,e1,?_,?_,h1,h2⟩
 ·rw[bO,aL hb];exact hj 0 (by show 0 < 7;decide)
 have⟨p,H,e2,e3,e4⟩:=h.index ff (k:=.i64) hx;obtain rfl:p=aeq b o:=Option.some.inj (e2.symm.trans e1);obtain⟨rfl,_⟩:H=x.c/\_:=e4;exact e3
theorem ve(hX:cy X){y:Yd}{r r2 st rc mo:aes}{H:List KW}(hk:Sl m H st)(hl:H.length < 1000000)(h1:(yc r r2 st rc mo).all one)(id:Int):
  C X (.func 180) [yv r r2 st rc mo,aev id] m m.n (aev (idx (λx:KW=>decide (x.u.id=id)) H)) m:=by
 refine Cl.fG hX (aaU func180) ?_;rw[ZN];dsimp only[δ,ε,ζ,η,κ,ρ,υ,χ];refine aw λm1 i0 g0 h0=>?_;have g1:m1.get m.n=.cells (yc r r2 st rc mo) 38 none:=g0;have a0:=hk.aG (m':=m1) ⟨by omega,h0⟩;obtain⟨-,l1, -, -, -⟩:=dP g1;unfold ptrTo;simp only[dE,cz,bD,ae];refine Lp.intro (γ:=Nat) (λi=>H.length-i) (λi vs mm lo=>∃z,vs=[z,aev i]/\i<=H.length/\m1=mm/\m.n<=lo/\∀j x,j < i->H[j]?=some x->x.u.id≠id) 0 ⟨_,rfl,aa6 _,rfl,by omega,λj x hj=>by omega⟩ ?_;rintro i vs mm lo ⟨z,rfl,hi,rfl,b0,d0⟩;rw[aE,aE,l1,ae,a0.len ff,aA,aQ,ae,ak];refine av (λe0=>?_) (λj0=>?_)
 ·have e0:i < H.length:=by grind
  obtain⟨x,hx⟩:∃x,H[i]?=some x:=⟨_,aaW e0⟩
  obtain⟨b,o,e1,e2, -⟩:=AA a0 hx;rw[ae,e1,ae,cz,ae,bD,ae,e2,ae,aW,ae,ak];refine av (λc=>⟨?_,b0⟩) (λc=>?_);·rw[BZ (i:=i) hx (by exact c) λj y hj hy=>by grind];rfl
  rw[aS,ae,wrap64];refine⟨i+1,by omega,z,rfl,by omega,rfl,b0,λj y hj hy=>?_⟩;by_cases e:j=i
  ·subst e;rw[hx]at hy;cases hy;exact aaZ c
  exact d0 j y (by omega) hy
 have k0:i=H.length:=by
  grind
 refine⟨?_,b0⟩;rw[sQ λy hy=>?_];rfl;have⟨j,hj⟩:=abi hy;simpa using d0 j y (by grind) hj
theorem vK(hX:cy X)(a b:Fc):C X (.func 73) [a.v,b.v] m m.n (.bool (decide (fa a b))) m:=by
 refine Cl.fG hX (aaU func73) ?_;rw[F73];dsimp only[δ,ε,η,ρ,υ];refine aw λm1 j0 H k0=>?_;refine aw λm2 l0 a0 b0=>?_;have g1:m2.get m.n=.cells a.c 53 none:=by rw[b0 _ (by omega)];exact H
 have g2:m2.get m1.n=.cells b.c 53 none:=a0;have d0:ah TE m2 3 (aeq m.n (0+0))=some (aev a.un):=by rw[bO,aL g1];rfl
 have e0:ah TE m2 3 (aeq m.n (0+1))=some (aev a.side):=by rw[bO,aL g1];rfl
 have g0:ah TE m2 3 (aeq m1.n (0+0))=some (aev b.un):=by rw[bO,aL g2];rfl
 have h0:ah TE m2 3 (aeq m1.n (0+1))=some (aev b.side):=by rw[bO,aL g2];rfl
 unfold ptrTo;refine bA (λvs mm lo=>vs=[.bool (decide (fa a b))]/\m.n<=lo) (λR hR=>?_) ?_
 ·simp only[cT,dm,ae,d0,e0,g0,h0,aQ,aW,ak];refine av (λc=>hR _ _ _ ⟨by rw[abb (show fa a b from .inl (aa1 c))],by omega⟩) (λc1=>?_);have c1:=aaZ c1;refine av (λc=>hR _ _ _ ⟨?_,by omega⟩) (λc=>hR _ _ _ ⟨?_,by omega⟩)
  ·have c:=aa1 c
   congr 2
   rw[decide_eq_decide]
   unfold fa
   omega
  have c:=aaZ c;rw[abt];unfold fa;omega
 rintro _ _ lo ⟨rfl,i0⟩;rw[aE];exact⟨rfl,i0⟩
theorem sX{l:List Fc}{v:aes}(h:Sl m l v){i:Nat}{x:Fc}(H:l[i]?=some x):∃p,an TE 35 v (aev i)=some p/\ah TE m 53 p=some x.v:=by have⟨p,cs,e1,e2,e3⟩:=h.index dZ (k:=.i64) H;obtain rfl:cs=x.c:=e3;exact⟨p,e1,e2⟩
theorem HK{a b:Fc}:aC TE .eql 53 a.v b.v=some (.bool (decide (a=b))):=by
 have h:aC TE .eql 53 a.v b.v=some (.bool ((a.un==b.un) && ((a.side==b.side) && true))):=by kernel_rfl
 rw[h]
 have⟨H,a2⟩:=a
 have⟨b1,b2⟩:=b
 congr 2
 grind
theorem qE(hX:cy X){l:List Fc}{r r2 st rc mo:aes}(hr:Sl m l rc)(hl:l.length < 1000000)(f:Fc):
  C X (.func 72) [yv r r2 st rc mo,f.v] m m.n (.bool (decide (f∈l))) m:=by
 refine Cl.fG hX (aaU func72) ?_;rw[F72];dsimp only[δ,ε,ζ,η,κ,ρ,υ,χ];refine aw λm1 j0 e0 k0=>?_;refine aw λm2 l0 g0 h0=>?_;have g1:m2.get m.n=.cells (yc r r2 st rc mo) 38 none:=by rw[h0 _ (by omega)];exact e0
 have g2:m2.get m1.n=.cells f.c 53 none:=g0;have b0:=hr.aG (m':=m2) ⟨by omega,by grind⟩;obtain⟨-, -,l2, -, -⟩:=dP g1;have lf:ah TE m2 53 (aeq m1.n 0)=some f.v:=by rw[wQ,aP (n:=2) g2 (by grind)];rfl
 unfold ptrTo;simp only[dn,ae];refine Lp.intro (γ:=Nat) (λi=>l.length-i) (λi vs mm lo=>∃z,vs=[z,aev i]/\i<=l.length/\m2=mm/\m.n<=lo/\f∉l.take i) 0 ⟨_,rfl,aa6 _,rfl,by omega,by simp⟩ ?_;rintro i vs mm lo ⟨z,rfl,hi,rfl,H,a0⟩;rw[aE,aE,l2,ae,b0.len dZ,aA,aQ,ae,ak];refine av (λd0=>?_) (λn0=>?_)
 ·have d0:i < l.length:=by grind
  obtain⟨x,hx⟩:∃x,l[i]?=some x:=⟨_,aaW d0⟩
  have⟨p,e1,e2⟩:=sX b0 hx;rw[ae,e1,ae,e2,ae,lf,ae,HK,ae,ak];refine av (λc=>⟨?_,H⟩) (λc=>?_)
  ·have c:=aa1 c;subst c;rw[abb (aa2 hx)];rfl
  rw[aS,ae,wrap64];refine⟨i+1,by omega,z,rfl,by omega,rfl,H,?_⟩;rw[abg,hx];simp only[ab3,abp,abr,not_or];exact⟨a0,λe=>aaZ c e.symm⟩
 have i0:i=l.length:=by
  grind
 subst i0;rw[abD]at a0;exact⟨by rw[abt a0];rfl,H⟩
theorem AM(hX:cy X){l:List UW}{v vm:aes}(h:cY m l v)(hl:l.length < 1000000)(h1:one vm)(id side:Int):
  C X (.func 182) [.agg #[v,vm],aev id,aev side] m m.n (.bool (yS (bR l) id side)) m:=by
 refine Cl.fG hX (aaU func182) ?_;rw[ZL];dsimp only[δ,ε,η,ι,κ,ξ,ρ,ς,υ,χ,ψ,ω];refine aw λm1 i0 a0 b0=>?_;have g1:m1.get m.n=.cells [v,vm] 33 none:=a0;have d0:Ext m m1:=⟨by omega,b0⟩
 unfold ptrTo;rw[(kj g1).2.2.2,ae];have⟨rv,m4,c4,x4,fr⟩:=iX (m:=m1) hX (h.aG d0) hl h1 id;refine aH c4 ?_;have n4:=x4.n
 obtain⟨u,w,ok,rfl,hs,hB⟩:∃(u:Un) (w:aes) (ok:Bool),rv=.tuple #[u.v w,.bool ok]/\Sl m4 u.shape w/\yS (bR l) id side=(ok && (decide (side= -1) ||decide (side= -2) ||decide (0<=side) && decide (side < (u.shape.length:Int)))):=by
  unfold eX at fr
  unfold yS
  cases e:cf (bR l) id with
  |none=>rw[e]at fr;exact⟨.z,aew,false,fr,.nil,rfl⟩
  |some u=>rw[e]at fr;have⟨w,h1,h2⟩:=fr;exact⟨u,w,true,h1,h2,by simp⟩
 rw[aJ,aJ];simp only[aaY,aaX,ae];refine aw λm8 j0 e0 k0=>?_;refine aD df e0 rfl rfl (Un.cM hs.one) λm9 l0 H n0=>?_;have H:m9.get m4.n=.cells (u.c w) 60 none:=H;have g0:=hs.aG (m':=m9) ⟨by omega,by grind⟩;obtain⟨-, -, -,l3, -, -⟩:=kb H;refine bA (λvs mm lo=>vs=[.bool (yS (bR l) id side)]/\m.n<=lo) (λR hR=>?_) ?_
 ·rw[ak];refine av (λc=>?_) (λc=>hR _ _ _ ⟨by grind,by omega⟩);rw[aW,ae,ak];refine av (λc1=>hR _ _ _ ⟨by grind,by omega⟩) (λc1=>?_);rw[aW,ae,ak];refine av (λc2=>hR _ _ _ ⟨by grind,by omega⟩) (λc2=>?_);rw[cO,ae,ak];refine av (λc3=>?_) (λc3=>hR _ _ _ ⟨by grind,by omega⟩);rw[bL,ae,l3,ae,g0.len cF,aA,aQ,ae];exact hR _ _ _ ⟨by grind,by omega⟩
 rintro _ _ lo ⟨rfl,h0⟩;rw[aE];exact⟨rfl,h0⟩
structure Sf where
 de:Int
 gr:Int
 st:Int
 po:Int
 sa:Int
abbrev Sf.c(x:Sf):aet:=[.int .i64 x.de,.int .i64 x.gr,.int .i64 x.st,.int .i64 x.po,.int .i64 x.sa]
abbrev Sf.v(x:Sf):aes:=.agg (x.c).toArray
instance:aZ Sf where
 ty:=298
 sz:=5
 agg:=true
 dd:=[]
 rep _ x cs:=cs=x.c
 pos:=by decide
 one:=by grind
 len:=by simp_all
 ee:=by rintro _ _ _ rfl;rfl
 bs:=by grind
theorem SZ:oO TE 344 298 Sf:=⟨ag.t344,ag.t298,by kernel_rfl,⟨_,rfl⟩,rfl,by kernel_rfl,rfl,rfl⟩
def qT:List Sf:=[⟨9,3,9,1,0⟩,⟨8,3,6,4,1⟩,⟨7,3,5,5,1⟩,⟨6,3,4,6,3⟩,⟨3,2,5,3,0⟩,⟨5,2,2,7,1⟩,⟨8,3,8,1,4⟩,⟨10,1,9,0,0⟩]
def jH(a:Int):Option Sf:=if 0<=a/\a<=7 then qT[a.toNat]? else none
def dB(a b:Int):Bool:=match jH a,jH b with
 |some x,some y=>decide (x.st<=y.st+1) && decide (y.po<=x.po+1) && decide (x.sa<=y.sa+1)
 |_,_=>false
def dg(a b:Int):Bool:=match jH a,jH b with
 |some x,some y=>decide (x.st<=y.st) && decide (y.po<=x.po) && decide (x.sa<=y.sa+1)
 |_,_=>false
def mE(a:Int):aes:=match jH a with
 |some x=> .tuple #[x.v,.int .i64 0]
 |none=> .tuple #[Sf.v ⟨0,0,0,0,0⟩,.int .i64 80]
theorem IS:∃m',aI TE m 344 8 [(0,Sf.v ⟨9,3,9,1,0⟩),(1,Sf.v ⟨8,3,6,4,1⟩),(2,Sf.v ⟨7,3,5,5,1⟩),(3,Sf.v ⟨6,3,4,6,3⟩),(4,Sf.v ⟨3,2,5,3,0⟩),(5,Sf.v ⟨5,2,2,7,1⟩),(6,Sf.v ⟨8,3,8,1,4⟩),(7,Sf.v ⟨10,1,9,0,0⟩)]=some (aer m.n 0 8 8,m')/\m'=m.push (.cells (qT.flatMap Sf.c) 298 none):=⟨_,by kernel_rfl,rfl⟩
theorem Mu{b:Nat}{g:Option Nat}(h:m.get b=.cells (qT.flatMap Sf.c) 298 g):Sl m qT (aer b 0 8 8):=
 .inr ⟨b,0,8,_,g,rfl,h,by decide,λi x hi=>by
  have:i < 8:=(aa0.1 hi).1
  match i,hi with
  |0,hi=>cases hi;rfl
  |1,hi=>cases hi;rfl
  |2,hi=>cases hi;rfl
  |3,hi=>cases hi;rfl
  |4,hi=>cases hi;rfl
  |5,hi=>cases hi;rfl
  |6,hi=>cases hi;rfl
  |7,hi=>cases hi;rfl
  |i+8,_=>omega⟩
theorem ni(hX:cy X)(a:Int):C X (.func 225) [aev a] m m.n (mE a) m:=by
 refine Cl.sW (hX.no _ rfl) (aaU func225) rfl (by unfold mE;split <;>rfl) ?_;rw[Zp];dsimp only[δ,ζ,η,θ,ι,ν,ς,υ,χ];refine aw λm1 o0 h0 p0=>?_;rw[show aK TE 298 [(0,aev 9),(1,aev 3),(2,aev 9),(3,aev 1)]=some (Sf.v ⟨9,3,9,1,0⟩) by kernel_rfl,ae];rw[show aK TE 298 [(0,aev 8),(1,aev 3),(2,aev 6),(3,aev 4),(4,aev 1)]=some (Sf.v ⟨8,3,6,4,1⟩) by kernel_rfl,ae];rw[show aK TE 298 [(0,aev 7),(1,aev 3),(2,aev 5),(3,aev 5),(4,aev 1)]=some (Sf.v ⟨7,3,5,5,1⟩) by kernel_rfl,ae];rw[show aK TE 298 [(0,aev 6),(1,aev 3),(2,aev 4),(3,aev 6),(4,aev 3)]=some (Sf.v ⟨6,3,4,6,3⟩) by kernel_rfl,ae];rw[show aK TE 298 [(0,aev 3),(1,aev 2),(2,aev 5),(3,aev 3)]=some (Sf.v ⟨3,2,5,3,0⟩) by kernel_rfl,ae];rw[show aK TE 298 [(0,aev 5),(1,aev 2),(2,aev 2),(3,aev 7),(4,aev 1)]=some (Sf.v ⟨5,2,2,7,1⟩) by kernel_rfl,ae]
 rw[show aK TE 298 [(0,aev 8),(1,aev 3),(2,aev 8),(3,aev 1),(4,aev 4)]=some (Sf.v ⟨8,3,8,1,4⟩) by kernel_rfl,ae];rw[show aK TE 298 [(0,aev 10),(1,aev 1),(2,aev 9)]=some (Sf.v ⟨10,1,9,0,0⟩) by kernel_rfl,ae];have⟨m11,a0,H⟩:=IS (m:=m1);rw[a0,aA];have b0:m11.get m1.n=.cells (qT.flatMap Sf.c) 298 none:=by rw[H];exact M.aY
 have i0:m11.n=m1.n+1:=by rw[H];exact M.iQ
 have gz:m11.get m.n=.cells (Sf.c ⟨0,0,0,0,0⟩) 298 none:=by rw[H,M.cB (by omega)];exact h0
 have hs:=Mu b0;have d0:∀{mm:M} {x:Sf},mm.get m.n=.cells x.c 298 none->ah TE mm 298 (aeq m.n 0)=some x.v:=λh=>by rw[Nk,aP (n:=5) h (by grind)];rfl
 clear H a0;unfold ptrTo;refine bA (λvs mm lo=>vs=[.bool (!decide (0<=a/\a<=7))]/\m11=mm/\m.n<=lo) (λR hR=>?_) ?_
 ·rw[aQ,ae,ak]
  refine av (λc=>hR _ _ _ ⟨?_,rfl,by omega⟩) (λc=>?_)
  ·have c:=aa1 c;rw[tg];rfl
  have c:=aaZ c
  rw[bX,ae]
  refine hR _ _ _ ⟨?_,rfl,by omega⟩
  congr 2
  rw[<-decide_not,decide_eq_decide]
  omega
 rintro _ _ lo ⟨rfl,rfl,q0⟩;rw[aE,ak];refine av (λc=>?_) (λc=>?_)
 ·rw[abo]at c;rw[show aK TE 298 []=some (Sf.v ⟨0,0,0,0,0⟩) by kernel_rfl,ae];refine aD tH gz rfl rfl rfl λm21 j0 e0 k0=>?_;rw[d0 (x:=⟨0,0,0,0,0⟩) e0,ae];refine⟨?_,by omega⟩;unfold mE jH;rw[aa4 (aaZ c)];rfl
 rw[abj]at c;have c:=aa1 c;obtain⟨x,hx⟩:∃x,qT[a.toNat]?=some x:=⟨_,aaW (show a.toNat < 8 by omega)⟩
 have⟨p,cs,e1,e2,e3⟩:=hs.index SZ (k:=.i64) hx;obtain rfl:cs=x.c:=e3;rw[show((a.toNat:Nat):Int)=a by omega]at e1;have e2:ah TE m11 298 p=some x.v:=e2;rw[e1,ae,e2,ae];refine aD tH gz rfl rfl rfl λr0 l0 g0 n0=>?_;rw[d0 (x:=x) g0,ae];refine⟨?_,by omega⟩;unfold mE jH;rw[aa5 c,hx];rfl
theorem lR(a:Int):∃(x:Sf) (e:Int),mE a=.tuple #[x.v,aev e]/\(decide (e=0)->jH a=some x)/\(decide (e=0)=false->jH a=none):=by
 unfold mE
 cases jH a with
 |none=>exact⟨_,_,rfl,by grind,λ_=>rfl⟩
 |some x=>exact⟨x,0,rfl,λ_=>rfl,by grind⟩
theorem rO{a:Int}{x:Sf}(h:jH a=some x):(0<=x.st/\x.st<=10)/\(0<=x.po/\x.po<=10)/\(0<=x.sa/\x.sa<=10):=by
 unfold jH at h;split at h
 ·have hm:=aa2 h;simp only[qT,abc,abn,or_false]at hm;rcases hm with rfl |rfl |rfl |rfl |rfl |rfl |rfl |rfl <;>decide
 cases h
theorem Yt{b:Nat}{x:Sf}{g:Option Nat}(h:m.get b=.cells x.c 298 g):ah TE m 3 (aeq b (0+2))=some (aev x.st)/\ah TE m 3 (aeq b (0+3))=some (aev x.po)/\ah TE m 3 (aeq b (0+4))=some (aev x.sa):=by refine⟨?_,?_,?_⟩ <;>(rw[bO,aL h];rfl)
theorem EM(hX:cy X)(a b:Int):C X (.func 181) [aev a,aev b] m m.n (.bool (dB a b)) m:=by
 refine Cl.fG hX (aaU func181) ?_;rw[ZM];dsimp only[δ,ε,η,ι,ξ,ς,υ,χ,ψ,Δ];have⟨x,e,h1,H,h0⟩:=lR a;have⟨y,f,h2,a0,i0⟩:=lR b;refine aH (ni hX a) ?_;rw[h1,aJ,aJ];simp only[aaY,aaX,ae];refine aw λm6 p0 j0 q0=>?_;refine aD tH j0 rfl rfl rfl λm7 r0 k0 s0=>?_;refine aH (ni hX b) ?_;rw[h2,aJ,aJ];simp only[aaY,aaX,ae];refine aw λm14 n0 b0 d0=>?_;refine aD tH b0 rfl rfl rfl λm15 o0 e0 g0=>?_;have g1:m15.get m.n=.cells x.c 298 none:=by rw[g0 _ (by omega),d0 _ (by omega)];exact k0
 have g2:m15.get m7.n=.cells y.c 298 none:=e0;have⟨x0,x1,x2⟩:=Yt g1;have⟨y0,y1,y2⟩:=Yt g2;unfold ptrTo;refine bA (λvs mm lo=>vs=[.bool (dB a b)]/\m.n<=lo) (λR hR=>?_) ?_
 ·simp only[oo,om,oj,ae,x0,x1,x2,y0,y1,y2,aW,cE,cO,aS,ak];refine av (λc1=>?_) (λc1=>hR _ _ _ ⟨by unfold dB;rw[h0 c1],by omega⟩);refine av (λc2=>?_) (λc2=>hR _ _ _ ⟨by unfold dB;rw[H c1,i0 c2],by omega⟩);have⟨s1,s2,s3⟩:=rO (H c1);have⟨t1,t2,t3⟩:=rO (a0 c2);have hS:dB a b=(decide (x.st<=y.st+1) && decide (y.po<=x.po+1) && decide (x.sa<=y.sa+1)):=by unfold dB;rw[H c1,a0 c2]
  rw[wrap64 (x:=y.st+1) (by omega) (by omega),wrap64 (x:=x.po+1) (by omega) (by omega),wrap64 (x:=y.sa+1) (by omega) (by omega)];refine av (λc3=>?_) (λc3=>hR _ _ _ ⟨by grind,by omega⟩);refine av (λc4=>?_) (λc4=>hR _ _ _ ⟨by grind,by omega⟩);exact hR _ _ _ ⟨by grind,by omega⟩
 rintro _ _ lo ⟨rfl,l0⟩;rw[aE];exact⟨rfl,l0⟩
theorem vj(hX:cy X)(a b:Int):C X (.func 183) [aev a,aev b] m m.n (.bool (dg a b)) m:=by
 refine Cl.fG hX (aaU func183) ?_;rw[ZK];dsimp only[δ,ε,η,ι,ξ,ς,υ,χ,ψ,Δ];have⟨x,e,h1,H,h0⟩:=lR a;have⟨y,f,h2,a0,i0⟩:=lR b;refine aH (ni hX a) ?_;rw[h1,aJ,aJ];simp only[aaY,aaX,ae];refine aw λm6 p0 j0 q0=>?_;refine aD tH j0 rfl rfl rfl λm7 r0 k0 s0=>?_;refine aH (ni hX b) ?_;rw[h2,aJ,aJ];simp only[aaY,aaX,ae];refine aw λm14 n0 b0 d0=>?_;refine aD tH b0 rfl rfl rfl λm15 o0 e0 g0=>?_;have g1:m15.get m.n=.cells x.c 298 none:=by rw[g0 _ (by omega),d0 _ (by omega)];exact k0
 have g2:m15.get m7.n=.cells y.c 298 none:=e0;have⟨x0,x1,x2⟩:=Yt g1;have⟨y0,y1,y2⟩:=Yt g2;unfold ptrTo;refine bA (λvs mm lo=>vs=[.bool (dg a b)]/\m.n<=lo) (λR hR=>?_) ?_
 ·simp only[oo,om,oj,ae,x0,x1,x2,y0,y1,y2,aW,cE,cO,aS,ak];refine av (λc1=>?_) (λc1=>hR _ _ _ ⟨by unfold dg;rw[h0 c1],by omega⟩);refine av (λc2=>?_) (λc2=>hR _ _ _ ⟨by unfold dg;rw[H c1,i0 c2],by omega⟩);have⟨s1,s2,s3⟩:=rO (H c1);have⟨t1,t2,t3⟩:=rO (a0 c2);have hS:dg a b=(decide (x.st<=y.st) && decide (y.po<=x.po) && decide (x.sa<=y.sa+1)):=by unfold dg;rw[H c1,a0 c2]
  rw[wrap64 (x:=y.sa+1) (by omega) (by omega)];refine av (λc3=>?_) (λc3=>hR _ _ _ ⟨by grind,by omega⟩);refine av (λc4=>?_) (λc4=>hR _ _ _ ⟨by grind,by omega⟩);exact hR _ _ _ ⟨by grind,by omega⟩
 rintro _ _ lo ⟨rfl,l0⟩;rw[aE];exact⟨rfl,l0⟩
section
variable {α:Type} [aZ α] {T:TypeId}
theorem Ap.wY(hT:rH TE T α)(a0:aZ.dd α=[]){n1:Nat}{l ys:List α}{v y:aes}(h:Ap n1 m l v)(hy:Sl m ys y)(hn:n1<=m.n)(hs:l.length+ys.length<=1000000):
  ∃v' m1,az TE (m.wl m.n) .append [T,T] [v,y]=some (v',m1)/\Ap n1 m1 (l++ys) v'/\m.n<=m1.n/\n1<=m1.low/\∀c,c < n1->m1.get c=m.get c:=by
 by_cases H:ys=[]
 ·subst H;rcases h with h |⟨b,cs,te,rfl,h2,h3⟩
  ·obtain⟨v',m1,e1,ho,hf,hl,_⟩:=h.append hT (by grind) hy hn (by omega);exact⟨v',m1,e1,.inl ho,hf.n,hl,λc hc=>hf.get c hc⟩
  refine⟨_,m.wl m.n,append_nil hT (aaV _) (by grind) ?_,?_,aaV _,hn,λ_ _=>rfl⟩
  ·rcases hy with⟨rfl,_⟩ |⟨b',o,c,bc,g,rfl,_⟩
   ·grind
   ·grind
  rw[abJ];exact .inr ⟨b,cs,te,rfl,h2,h3.aG Ext.refl.wl⟩
 have⟨v',m1,e1,ho,h1,h2,h3⟩:=h.append hT a0 hy H hn hs;exact⟨v',m1,e1,.inl ho,h1,h2,h3⟩
theorem Ap.YI{n1 b:Nat}{g:Option Nat}(h:m.get b=.cells [] (aZ.ty α) none):Ap n1 m ([]:List α) (aer b 0 0 0):=
 .inr ⟨b,[],_,rfl,h,.inr ⟨b,0,0,[],none,rfl,h,by simp,by grind⟩⟩
end
theorem HG{b:Nat}{x:UW}(h:m.get b=.cells x.c 60 none)(h1:one x.w)(H:Sl m x.u.shape x.w)(hl:x.u.shape.length < 1000000):cY m [x] (aer b 0 1 1):=
 ⟨gH h ⟨rfl,h1⟩,by grind,by grind,.inr ⟨b,0,1,_,none,rfl,aaV _,h,.inl rfl⟩⟩
section
variable {b:Nat} {x:KW} {g:Option Nat}
theorem DL(h:m.get b=.cells x.c 113 g):ah TE m 3 (aeq b (0+0+0))=some (aev x.u.id)/\ah TE m 60 (aeq b (0+0))=some (x.u.v x.w)/\ah TE m 31 (aeq b (0+6))=some x.mv/\ah TE m 113 (aeq b 0)=some x.v:=by
 refine⟨?_,?_,?_,?_⟩;·rw[bO,aL h];rfl
 ·rw[qg,aP (n:=6) h (by simp_all)];rfl
 ·rw[lU,aL h];rfl
 rw[DH,aP (n:=7) h (by simp_all)];rfl
end
theorem Ng{l:List Mk}{v:aes}(h:Sl m l v){i:Nat}{x:Mk}(H:l[i]?=some x):∃b o,an TE 31 v (aev i)=some (aeq b o)/\ah TE m 3 (aeq b (o+0))=some (aev x.id):=by have⟨b,o,bc,g,cs,e1,hb,hr,hle,hj⟩:=h.gM dQ (k:=.i64) H;obtain rfl:cs=x.c:=hr;refine⟨b,o,e1,?_⟩;rw[bO,aL hb];exact hj 0 (by show 0 < 5;decide)
theorem oC{b:Nat}{x:Fc}{g:Option Nat}(h:m.get b=.cells x.c 53 g):ah TE m 3 (aeq b (0+0))=some (aev x.un)/\ah TE m 3 (aeq b (0+1))=some (aev x.side)/\ah TE m 53 (aeq b 0)=some x.v:=by
 refine⟨?_,?_,?_⟩;·rw[bO,aL h];rfl
 ·rw[bO,aL h];rfl
 rw[wQ,aP (n:=2) h (by grind)];rfl
theorem Nf{b:Nat}{x:Mo}{g:Option Nat}(h:m.get b=.cells x.c 109 g):ah TE m 3 (aeq b (0+0))=some (aev x.a)/\ah TE m 3 (aeq b (0+1))=some (aev x.b)/\ah TE m 3 (aeq b (0+2))=some (aev x.dA)/\ah TE m 109 (aeq b 0)=some x.v:=by
 refine⟨?_,?_,?_,?_⟩;·rw[bO,aL h];rfl
 ·rw[bO,aL h];rfl
 ·rw[bO,aL h];rfl
 rw[DI,aP (n:=3) h (by grind)];rfl
theorem Hk{l:List Mo}{v:aes}(h:Sl m l v){i:Nat}{x:Mo}(hx:l[i]?=some x):∃b o,an TE 36 v (aev i)=some (aeq b o)/\ah TE m 109 (aeq b o)=some x.v/\
  ah TE m 3 (aeq b (o+0))=some (aev x.a)/\ah TE m 3 (aeq b (o+1))=some (aev x.b):=by
 have⟨b,o,bc,g,cs,e1,hb,hr,hle,hj⟩:=h.gM nk (k:=.i64) hx;obtain rfl:cs=x.c:=hr;refine⟨b,o,e1,?_,?_,?_⟩
 ·have⟨p,H,e2,e3,e4⟩:=h.index nk (k:=.i64) hx;obtain rfl:p=aeq b o:=Option.some.inj (e2.symm.trans e1);obtain rfl:H=x.c:=e4;exact e3
 ·rw[bO,aL hb];exact hj 0 (by show 0 < 3;decide)
 rw[bO,aL hb];exact hj 1 (by show 1 < 3;decide)
set_option maxHeartbeats 1000000 in
theorem EH(hX:cy X){y:Yd}{r r2 st rc mo:aes}(hV:lM m y r r2 st rc mo)(hP:oL y):C X (.func 131) [yv r r2 st rc mo] m m.n aex m:=by
 have E4:=hV.ee;have⟨⟨l,E1,hF⟩,g3,⟨kl,h3,hK⟩,i3,j3⟩:=hV;have f4:l.length<=12:=by have:=hP.qk.len;rwa[<-E1,cI]at this
 have g4:kl.length<=12:=by have:=hP.P3;rwa[<-h3,jk]at this
 have k3:=hP.KE;have h4:=hP.Wi;have j4:=hP.Si;refine Cl.fG hX (aaU func131) ?_;rw[aaf];dsimp only[δ,ε,ζ,η,θ,ι,κ,ν,ξ,ο,ρ,ς,υ,χ,ψ,Γ,Δ,ω];refine aw λm1 G4 l3 m3=>?_;have g1:m1.get m.n=.cells (yc r r2 st rc mo) 38 none:=l3;have H0:Ext m m1:=⟨by omega,m3⟩
 have a2:=hF.aG H0;have I0:=g3.aG H0;have i1:=hK.aG H0;have v1:=i3.aG H0;have A1:=j3.aG H0;obtain⟨y0,y1,y2,y3, -⟩:=dP g1;unfold ptrTo;simp only[cH,dE,dn,eW,cL,ae];have k4:y.ms.length<=20:=hP.Av.len;refine bA (λvs mm lo=>vs=[aey]/\m1=mm/\m.n<=lo) (λQ hQ=>?_) ?_
 ·rw[y0,ae];refine aH (kO hX a2 (by omega) I0 (by omega)) ?_;rw[E1,fB hP.qk,fT.2 hP.Av,bE,ae,ak];show gG false _ _;rw[aT,y1,ae,i1.sl.len ff,aA,bX,ae,ak,tg,aT,y2,ae,v1.len dZ,aA,bX,ae,ak,tg,aT,y3,ae,A1.len nk,aA,bX,ae,tg];exact hQ _ _ _ ⟨rfl,rfl,by omega⟩
 rintro _ _ n3 ⟨rfl,rfl,l4⟩;rw[aE,ak,aT,iI,aA];obtain⟨m5,J0⟩:∃x,x=m1.push (.cells [] 137 none):=⟨_,rfl⟩
 rw[<-J0];have H4:m5.n=m1.n+1:=by rw[J0];exact M.iQ
 have o3:m5.get m1.n=.cells [] 137 none:=by rw[J0];exact M.aY
 have F1:Ext m1 m5:=J0 ▸ Ext.refl.push;clear J0;rw[(xB (F1.cells g1)).2.2,ae];obtain⟨v31,m32,q1,q2,q3,q4,q5⟩:=(Ap.YI (n1:=m1.n) (g:=none) o3).wY uU rfl (I0.aG F1) (by omega) (by grind);rw[q1,aA];rw[abZ]at q2;have B1:m.n<=min n3 m32.low:=by omega
 have c2:Ext m1 m32:=⟨by omega,λc hc=>by rw[q5 c hc,F1.get c hc]⟩
 clear q1 q4 q5;refine Lp.intro (γ:=Nat) (λi=>kl.length-i) (λi vs mm lo=>∃z v,vs=[z,v,.int .i64 i]/\i<=kl.length/\Ext m1 mm/\m.n<=lo/\Ap m1.n mm (y.ms++(y.st.take i).flatMap Kp.ms) v) 0 ⟨_,_,rfl,aa6 _,c2,B1,by grind⟩ ?_;rintro i vs mm lo ⟨z,v,rfl,hi,l0,a0,G1⟩;have nm:=l0.n;obtain⟨z0,z1,z2,z3, -⟩:=dP (l0.cells g1);have d2:=i1.aG l0;rw[aE,aE,aE,z1,ae,d2.sl.len ff,aA,aQ,ae,ak];refine av (λd0=>?_) (λH1=>?_)
 ·have d0:i < kl.length:=by grind
  obtain⟨x,hx⟩:∃x,kl[i]?=some x:=⟨_,aaW d0⟩
  have F0:=aa2 hx;have K0:y.st[i]?=some x.k:=by grind
  have L0:=aa2 K0;have⟨b,o,e1,e2,e3,o1,o2⟩:=AA d2.sl hx;rw[ae,e1,ae,e3,ae];refine aw λJ4 m4 g2 n4=>?_;refine aD xK g2 rfl rfl (KW.cM o1 o2) λj1 o4 i2 r4=>?_;have l1:j1.get mm.n=.cells x.c 113 none:=i2;have g0:Ext mm j1:=⟨by omega,by grind⟩
  have n52:=g0.n;obtain⟨w0,w1,w2,w3, -⟩:=dP ((l0.trans g0).cells g1);obtain⟨k0,k1,k2, -⟩:=DL l1;rw[w0,ae,cz,ae,bD,ae,k0,ae]
  have l2:cf (bR l) x.u.id=none:=by rw[E1];exact rk λu hu=>hP.off _ L0 u hu
  have m2:=a2.aG (l0.trans g0);obtain⟨rv,K4,r3,v2,f60⟩:=iX (m:=j1) hX m2 (by omega) (I0.one) x.u.id;refine aH r3 ?_;unfold eX at f60;rw[l2]at f60;dsimp only at f60;subst f60;rw[aJ,aJ];simp only[aaY,aaX,ae];have n60:=v2.n;refine aw λm64 u4 A2 B2=>?_;refine aD df A2 rfl rfl rfl λe0 v4 w4 C2=>?_;have h0:Ext j1 e0:=⟨by omega,λc hc=>by rw[C2 c (by omega),B2 c (by omega),v2.get c hc]⟩
  have n0:=l0.trans (g0.trans h0);obtain⟨k0,k1,k2, -⟩:=DL (h0.cells l1);have C1:=i1.aG n0
  have r0:∀{R:aet->M->Nat->Prop} {H:Nat},(∀G0 H,Ext e0 G0->m.n<=H->R [aey] G0 H)->m.n<=H->
    aj (ah TE e0 60 (.pointer (some ⟨mm.n,0+0,none⟩))) λv3=>(aR (aI TE e0 28 1 [(0,v3)]) λA3 N0=>(aj (aK TE 30 [(0,A3)]) λB3=>(aj (af TE 113 (.pointer (some ⟨mm.n,0,none⟩)) 1) λD2=>(aj (ah TE N0 31 D2) λE2=>(aj (aK TE 33 [(0,B3),(1,E2)]) λF2=>(bB TE X (.func 176) [F2] N0 λG2 H2 I2=>(aj (dh .not G2) λJ2=>(R [J2] H2 (min H I2))))))))):=by
   intro R H hR s0
   rw[k1,ae,show(x.u.v x.w)=UW.v ⟨x.u,x.w⟩from rfl,BD,aA]
   obtain⟨N0,O0⟩:∃q,q=e0.push (.cells (UW.c ⟨x.u,x.w⟩) 60 none):=⟨_,rfl⟩
   rw[<-O0]
   have v0:Ext e0 N0:=O0 ▸ Ext.refl.push
   have K2:N0.get e0.n=.cells (UW.c ⟨x.u,x.w⟩) 60 none:=by rw[O0];exact M.aY
   have i0:=C1.aG v0
   obtain⟨-, -,j2, -⟩:=DL ((h0.trans v0).cells l1)
   rw[zn rfl,ae,dL,ae,j2,ae]
   rw[show aK TE 33 [(0,.agg (cells (Value.slice (some ⟨e0.n,0,none⟩) 1 1)).toArray),(1,x.mv)]=some (.agg #[.slice (some ⟨e0.n,0,none⟩) 1 1,x.mv]) by rw[nN rfl (by rw[(i0.mv x F0).cells];rfl),(i0.mv x F0).cells];rfl,ae]
   have L2:=HG K2 o1 (i0.sh x F0) (i0.ln x F0)
   have M2:=hP.FC _ L0
   have C3:x.ms.length<=20:=M2.len
   refine aH (kO hX L2 (by simp) (i0.mv x F0) (by omega)) ?_
   rw[show bR [(⟨x.u,x.w⟩:UW)]=[x.u]from rfl,fB (hP.Nx _ L0),fT.2 M2,bE,ae]
   exact hR _ _ v0 (by have:=v0.n;omega)
  refine bA (λvs G0 H=>vs=[aey]/\Ext e0 G0/\m.n<=H) (λQ hQ=>?_) ?_
  ·rw[ak,aT,bX,ae,ak];simp only[cz,bD,ae];refine av (λc=>?_) (λc=>r0 (λG0 H h1 h2=>hQ _ _ _ ⟨rfl,h1,h2⟩) (by omega));obtain⟨j,rfl⟩:∃j,i=j+1:=⟨i-1,by grind⟩
   obtain⟨x',p0⟩:∃x',kl[j]?=some x':=⟨_,qz⟩
   obtain⟨b',o',q0,I1, -⟩:=AA C1.sl p0;obtain⟨u0,u1,u2,u3, -⟩:=dP (n0.cells g1)
   have y4:x'.u.id < x.u.id:=by
    have hj:y.st[j]?=some x'.k:=by grind
    have h1:=aa0.1 hj;have h2:=aa0.1 K0;have:=abw.1 hP.uS j (j+1) h1.1 h2.1 (by omega);rwa[h1.2,h2.2]at this
   rw[k0,ae,u1,ae,dJ,ae,wrap64,show((j+1:Nat):Int)-1=(j:Int) by omega,q0,ae,cz,ae,bD,ae,I1,ae,cE,ae,ak,tg,aT];exact r0 (λG0 H h1 h2=>hQ _ _ _ ⟨rfl,h1,h2⟩) (by omega)
  rintro _ L4 z4 ⟨rfl,A0,D3⟩;have n69:=A0.n;rw[aE,ak,aT,dL,ae];obtain⟨-, -,j2, -⟩:=DL ((h0.trans A0).cells l1);rw[j2,ae];have P0:=n0.trans A0;have N2:=i1.aG P0
  have O2:(y.ms++(y.st.take i).flatMap Kp.ms).length+x.ms.length<=20:=by
   have e:allM y.ms y.st=(y.ms++(y.st.take i).flatMap Kp.ms)++(x.ms++(y.st.drop (i+1)).flatMap Kp.ms):=by
    unfold allM;conv=>lhs;rw[<-abW i y.st]
    rw[acz,abR (aa0.1 K0).1,acu,(aa0.1 K0).2];simp
   grind
  obtain⟨P2,A4,p1,p2,p3,p4,p5⟩:=(G1.aG ((g0.trans h0).trans A0)).wY uU rfl (N2.mv x F0) (by omega) (by omega);rw[p1,aA,aS,ae,wrap64];refine⟨i+1,by omega,z,P2,rfl,by omega,⟨by omega,λc hc=>by rw[p5 c hc,P0.get c hc]⟩,by omega,?_⟩;rw[abg,K0,acz,<-abv];simpa using p2
 have E3:i=y.st.length:=by
  grind
 subst E3;rw[abD]at G1;have r1:=G1.sl;obtain⟨A,hA⟩:∃A,A=y.ms++y.st.flatMap Kp.ms:=⟨_,rfl⟩
 rw[<-hA]at r1;have O2:A.length<=20:=by rw[hA];exact k3
 have F3:∀{i j:Nat} {a b:Mk},j < i->A[i]?=some a->A[j]?=some b->a.id≠b.id:=by
  intro i j a b G3 ha hb e
  have h1:=aa0.1 ha
  have h2:=aa0.1 hb
  have hn:=hP.YG
  unfold allM at hn
  rw[<-hA,List.Nodup,adi]at hn
  have:=abw.1 hn j i h2.1 h1.1 G3
  grind
 refine Lp.intro (γ:=Nat) (λi=>A.length-i) (λi vs m' lo=>∃z,vs=[z,.int .i64 i]/\i<=A.length/\mm=m'/\m.n<=lo) 0 ⟨_,rfl,aa6 _,rfl,a0⟩ ?_;rintro i _ _ lo ⟨z,rfl,hi,rfl,a0⟩;rw[aE,aE,r1.len dQ,aA,aQ,ae,ak];refine av (λd0=>?_) (λH1=>?_)
 ·have d0:i < A.length:=by grind
  obtain⟨a,ha⟩:∃a,A[i]?=some a:=⟨_,aaW d0⟩
  have⟨b0,o0,ea,la⟩:=Ng r1 ha;refine Lp.intro (γ:=Nat) (λk=>i-k) (λk vs m' lo=>∃z,vs=[z,.int .i64 k]/\k<=i/\mm=m'/\m.n<=lo) 0 ⟨_,rfl,aa6 _,rfl,a0⟩ ?_;rintro k _ _ lo ⟨z,rfl,hk,rfl,a0⟩;rw[aE,aE,aQ,ae,ak];refine av (λD1=>?_) (λB4=>?_)
  ·have D1:k < i:=by grind
   obtain⟨c,hc⟩:∃c,A[k]?=some c:=⟨_,qz⟩
   have⟨b1,o1,ec,lc⟩:=Ng r1 hc;rw[ea,ae,cg,ae,la,ae,ec,ae,cg,ae,lc,ae,aW,ae,ak,abt (F3 D1 ha hc),aT,aS,ae,wrap64];exact⟨k+1,by omega,z,by grind,by omega,rfl,a0⟩
  rw[aS,ae,wrap64];exact⟨i+1,by omega,z,by grind,by omega,rfl,a0⟩
 rw[aA,bX,ae,ak,tg,aT];refine Lp.intro (γ:=Nat) (λi=>y.rc.length-i) (λi vs m' lo=>∃z,vs=[z,.int .i64 i]/\i<=y.rc.length/\Ext m1 m'/\m.n<=lo) 0 ⟨_,rfl,aa6 _,l0,a0⟩ ?_;rintro j _ Q2 lo ⟨z,rfl,hj,j0,a0⟩;have J1:=v1.aG j0;obtain⟨-, -,u2, -, -⟩:=dP (j0.cells g1);have N4:=j0.n;rw[aE,aE,u2,ae,J1.len dZ,aA,aQ,ae,ak];refine av (λd0=>?_) (λH1=>?_)
 ·have d0:j < y.rc.length:=by grind
  obtain⟨x,hx⟩:∃x,y.rc[j]?=some x:=⟨_,aaW d0⟩
  have⟨p,e1,e2⟩:=sX J1 hx;have⟨⟨b1,b2⟩,b3,b4⟩:=hP.MK x (aa2 hx);rw[ae,e1,ae,e2,ae];refine aw λC4 H3 K1 I3=>?_;refine aD oQ K1 rfl rfl rfl λS0 J3 L1 K3=>?_;have T2:S0.get Q2.n=.cells x.c 53 none:=L1;have a1:Ext Q2 S0:=⟨by omega,by grind⟩
  have⟨f0,f1,fv⟩:=oC T2;have B0:=j0.trans a1;simp only[cT,dm,ae];refine bA (λvs m' H=>vs=[aey]/\S0=m'/\m.n<=H) (λQ hQ=>?_) ?_
  ·rw[f0,ae];refine aH (iE hX _ _ _) ?_;rw[show cW x.un 0 99=true by unfold cW;simp;omega,bE,ae,ak];show gG false _ _;rw[aT,f1,ae];refine aH (iE hX _ _ _) ?_;rw[show cW x.side (-2) 7=true by unfold cW;simp;omega,bE,ae,ak];show gG false _ _;rw[aT,bX,ae,ak];refine av (λc=>?_) (λc=>hQ _ _ _ ⟨rfl,rfl,by omega⟩);obtain⟨q,rfl⟩:∃q,j=q+1:=⟨j-1,by grind⟩
   obtain⟨x',p0⟩:∃x',y.rc[q]?=some x':=⟨_,qz⟩
   have N1:=J1.aG a1;have⟨p',q0,I1⟩:=sX N1 p0;obtain⟨-, -,L3, -, -⟩:=dP (B0.cells g1)
   have c1:fa x' x:=by have h1:=aa0.1 p0;have h2:=aa0.1 hx;have:=abw.1 hP.An q (q+1) h1.1 h2.1 (by omega);rwa[h1.2,h2.2]at this
   rw[L3,ae,dJ,ae,wrap64,show((q+1:Nat):Int)-1=(q:Int) by omega,q0,ae,I1,ae,fv,ae];refine aH (vK hX _ _) ?_;rw[abb c1,bE,ae];exact hQ _ _ _ ⟨rfl,rfl,by omega⟩
  rintro _ _ H ⟨rfl,rfl,s0⟩;rw[aE,ak,aT,aS,ae,wrap64];exact⟨j+1,by omega,z,by grind,by omega,B0,s0⟩
 refine Lp.intro (γ:=Nat) (λi=>y.mo.length-i) (λi vs m' lo=>∃z,vs=[z,.int .i64 i]/\i<=y.mo.length/\Ext m1 m'/\m.n<=lo) 0 ⟨_,rfl,aa6 _,j0,a0⟩ ?_;rintro j _ a3 lo ⟨z,rfl,hj,C0,a0⟩;have O1:=A1.aG C0;obtain⟨-, -, -,u3, -⟩:=dP (C0.cells g1);have O4:=C0.n;rw[aE,aE,u3,ae,O1.len nk,aA,aQ,ae,ak];refine av (λd0=>?_) (λH1=>⟨rfl,a0⟩);have d0:j < y.mo.length:=by grind
 obtain⟨x,hx⟩:∃x,y.mo[j]?=some x:=⟨_,aaW d0⟩
 obtain⟨p,o,e1,e2, -, -⟩:=Hk O1 hx;have⟨b1,b2,b3,b4,b5⟩:=hP.Nd x (aa2 hx);rw[ae,e1,ae,e2,ae];refine aw λD4 N3 P1 O3=>?_;refine aD Bl P1 rfl rfl rfl λD0 a4 T1 c4=>?_;have c3:D0.get a3.n=.cells x.c 109 none:=T1;have d1:Ext a3 D0:=⟨by omega,by grind⟩
 obtain⟨f0,f1,f2, -⟩:=Nf c3;have E0:=C0.trans d1;obtain⟨-, -, -,d4, -⟩:=dP (E0.cells g1);simp only[dM,eI,oB,ae];refine bA (λvs m' H=>vs=[aey]/\D0=m'/\m.n<=H) (λQ hQ=>?_) ?_
 ·rw[f0,ae];refine aH (iE hX _ _ _) ?_;rw[show cW x.a 0 99=true by unfold cW;simp;omega,bE,ae,ak];show gG false _ _;rw[aT,f1,ae];refine aH (iE hX _ _ _) ?_;rw[show cW x.b 0 99=true by unfold cW;simp;omega,bE,ae,ak];show gG false _ _;rw[aT,f0,ae,f1,ae,cO,ae,ak,tg,aT,f2,ae];refine aH (iE hX _ _ _) ?_;rw[show cW x.dA 0 7=true by unfold cW;simp;omega,bE,ae];exact hQ _ _ _ ⟨rfl,rfl,by omega⟩
 rintro _ _ R4 ⟨rfl,rfl,B1⟩;rw[aE,ak,aT];refine bA (λvs m' H=>vs=[aey]/\D0=m'/\m.n<=H) (λQ hQ=>?_) ?_
 ·rw[bX,ae,ak];refine av (λc=>?_) (λc=>hQ _ _ _ ⟨rfl,rfl,by omega⟩);obtain⟨q,rfl⟩:∃q,j=q+1:=⟨j-1,by grind⟩
  obtain⟨x',p0⟩:∃x',y.mo[q]?=some x':=⟨_,qz⟩
  obtain⟨b',o',q0, -,d3,e4⟩:=Hk (O1.aG d1) p0
  have c1:lL x' x:=by have h1:=aa0.1 p0;have h2:=aa0.1 hx;have:=abw.1 hP.Dz q (q+1) h1.1 h2.1 (by omega);rwa[h1.2,h2.2]at this
  unfold lL at c1;rw[f0,ae,d4,ae,dJ,ae,wrap64,show((q+1:Nat):Int)-1=(q:Int) by omega,q0,ae,dM,ae,d3,ae,aQ,ae,ak,tg,aT];rw[ae,ae,ae,q0,ae,dM,ae,d3,ae,aW,ae,ak];refine av (λc=>?_) (λc=>hQ _ _ _ ⟨rfl,rfl,by omega⟩);have c:=aa1 c;rw[f1,ae,ae,ae,q0,ae,eI,ae,e4,ae,cE,ae,tg];exact hQ _ _ _ ⟨rfl,rfl,by omega⟩
 rintro _ _ H ⟨rfl,rfl,s0⟩;rw[aE,ak,aT,aS,ae,wrap64];exact⟨j+1,by omega,z,by grind,by omega,E0,s0⟩
end
section
section
variable {X:aM}{x0 x1:aes}{m:M}{R:aet->M->Nat->Prop}{W:Words}
theorem aac:dp TE (aO TE X) f134 [x0,x1] m R=ρ m x0 33 λa=>ς a [aew,aew] 33 λb=>δ b 33 (υ m) λc=>ψ X 176 [c] b λb c d=>ο .not b λb=>aU b (θ 33 [] λb=>ι c 33 (υ a) b λb c=>aj (ah TE b 33 (υ a)) λa=>R [a,χ 0,χ 170] b (ω m.n d c)) (δ c 33 (υ m) λb=>ψ X 184 [b] c λb c f=>ς c [aew,aew] 33 λg=>ι g 33 (υ c) b λb g=>Lp (λb d f g=>un d λd h=>un h λh i=>un i λi _=>κ f .len [146] [x1] λj _=>η .lss 3 i j λj=>aU j (η .geq 3 i (χ 40) λj=>aU j (θ 33 [] λb=>ι f 33 (υ a) b λb c=>aj (ah TE b 33 (υ a)) λa=>R [a,i,χ 170] b (min g c)) (δ f 33 (υ c) λj=>ζ 146 x1 i λk=>δ f 184 k λk=>ψ X 185 [j,k] f λj k l=>(f.n<=l)/\(ξ j 0 λf=>ξ j 1 λj=>ς k [aew,aew] 33 λn=>ι n 33 (υ k) f λf n=>η .neq 46 j (χ 0) λj=>aU j (θ 33 [] λb=>ι f 33 (υ a) b λb c=>aj (ah TE b 33 (υ a)) λa=>R [a,i,χ 170] b (Γ g l n c)) (δ f 33 (υ k) λa=>ι f 33 (υ c) a λa c=>η .add 3 i (χ 1) λf=>b [d,h,f] a (Γ g l n c))))) (δ f 33 (υ c) λb=>κ f .len [146] [x1] λc _=>ι f 33 (υ a) b λb d=>aj (ah TE b 33 (υ a)) λa=>R [a,c,χ 0] b (min g d))) [χ 0,χ 0,χ 0] b (Γ m.n d f g)):=by kernel_rfl
theorem aad:dp TE W f133 [x0,x1] m R=aaP W m x0 38 λa=>aaP W a x1 62 λb=>aaG W 38 (aaR m) 0 λc=>aaF W b 33 c λc=>aaG W 62 (aaR a) 2 λd=>aaF W b 3 d λd=>aaT W 71 [c,d] b λb c d=>aaN W b 0 λf=>aaN W b 1 λb=>aaQ W c [aaS 0,aaS 0,aaS 0,aew,aaS 0,aaS 0] 60 λg=>aaK W g 60 (aaR c) f λf g=>aaG W 62 (aaR a) 0 λh=>aaF W f 3 h λh=>aaI W .eql 3 h (aaS 1) λi=>aU i (aaG W 62 (aaR a) 1 λb=>aaF W f 60 b λb=>aaJ W 184 [(0,(aaS 1)),(1,b)] λb=>aaM W f 146 1 [(0,b)] λb c=>aaF W c 38 (aaR m) λf=>aaG W 62 (aaR a) 1 λa=>aaG W 60 a 0 λa=>aaF W c 3 a λa=>aaT W 180 [f,a] c λa f h=>(c.n<=h)/\(aaI W .lss 3 a (aaS 0) λa=>R [b,a] f (Γ m.n d g h))) (aaI W .eql 3 h (aaS 2) λi=>aU i (W.jn (λc=>aaG W 62 (aaR a) 2 λa=>aaF W f 3 a λa=>aaJ W 184 [(0,(aaS 2)),(2,a)] λa=>aaM W f 146 1 [(0,a)] λa f=>aU b (aaG W 38 (aaR m) 1 λb=>aaF W f 34 b λb=>aaL W f .len [34] [b] λb _=>aaI W .lss 3 b (aaS 12) λb=>c [a,b] f (ω m.n d g)) (c [a,aey] f (ω m.n d g))) (λa b c=>W.un a λa d=>W.un d λd _=>R [a,d] b c)) (aaI W .eql 3 h (aaS 3) λi=>aU i (aaF W f 38 (aaR m) λb=>aaG W 62 (aaR a) 2 λa=>aaF W f 3 a λa=>aaT W 180 [b,a] f λa b c=>aaI W .lss 3 a (aaS 0) λf=>aU f (R [aew,aey] b (Γ m.n d g c)) (aaG W 38 (aaR m) 1 λf=>aaF W b 34 f λf=>aaH W 34 f a λf=>aaG W 113 f 0 λf=>aaF W b 60 f λf=>aaJ W 184 [(0,(aaS 1)),(1,f)] λf=>aaM W b 146 1 [(0,f)] λb f=>W.Lp (λb c d f=>W.un c λc g=>W.un g λg _=>aaG W 38 (aaR m) 1 λh=>aaF W d 34 h λh=>aaH W 34 h a λh=>aaG W 113 h 1 λh=>aaF W d 31 h λh=>aaL W d .len [31] [h] λh _=>aaI W .lss 3 g h λh=>aU h (aaG W 38 (aaR m) 1 λh=>aaF W d 34 h λh=>aaH W 34 h a λa=>aaG W 113 a 1 λa=>aaF W d 31 a λa=>aaH W 31 a g λa=>aaF W d 137 a λa=>aaJ W 184 [(0,(aaS 5)),(5,a)] λa=>aaM W d 146 1 [(0,a)] λa d=>aaL W (M.wl d d.n) .append [146,146] [c,a] λa c=>aaI W .add 3 g (aaS 1) λd=>b [a,d] c (min f (M.low c))) (R [c,aex] d f)) [b,aaS 0] f (Γ m.n d g c))) (aaI W .eql 3 h (aaS 4) λi=>aU i (W.Lp (λd f g h=>W.un f λf i=>W.un i λi j=>W.un j λj _=>aaG W 38 (aaR m) 0 λk=>aaG W 33 k 0 λk=>aaG W 30 k 0 λk=>aaF W g 28 k λk=>aaL W g .len [28] [k] λk _=>aaI W .lss 3 j k λk=>aU k (aaG W 38 (aaR m) 0 λk=>aaG W 33 k 0 λk=>aaG W 30 k 0 λk=>aaF W g 28 k λk=>aaH W 28 k j λk=>aaF W g 60 k λk=>aaQ W g [aaS 0,aaS 0,aaS 0,aew,aaS 0,aaS 0] 60 λl=>aaK W l 60 (aaR g) k λk l=>aaF W k 60 (aaR c) λc=>aaF W k 60 (aaR g) λn=>aaT W 130 [c,n] k λc k n=>aaN W c 0 λo=>aaN W c 1 λc=>aaQ W k [aaS 0,aaS 0,aaS 0,aaS 0,aaS 0,aaS 0,aaS 0,aaS 0] 145 λp=>aaK W p 145 (aaR k) o λk o=>W.jn (λd=>aU b (aU c (aaG W 62 (aaR a) 5 λa=>aaF W k 3 a λa=>aaG W 60 (aaR g) 2 λb=>aaF W k 3 b λb=>aaT W 181 [a,b] k λa b c=>aaO W .not a λa=>d [a] b (Δ h l n o c)) (d [aey] k (Γ h l n o))) (d [aey] k (Γ h l n o))) (λa b c=>W.un a λa _=>aU a (R [aew,aey] b c) (aaI W .add 3 j (aaS 1) λa=>d [f,i,a] b c))) (aaG W 62 (aaR a) 5 λd=>aaF W g 3 d λd=>aaG W 60 (aaR c) 2 λf=>aaK W g 3 f d λd f=>aaG W 62 (aaR a) 2 λa=>aaF W d 3 a λa=>aaJ W 184 [(0,(aaS 2)),(2,a)] λa=>aaF W d 60 (aaR c) λc=>aaJ W 184 [(0,(aaS 1)),(1,c)] λc=>aaM W d 146 2 [(0,a),(1,c)] λa c=>R [a,b] c (min h f))) [aew,aey,aaS 0] f (ω m.n d g)) (aaI W .eql 3 h (aaS 5) λi=>aU i (W.Lp (λb c d f=>W.un c λc g=>W.un g λg _=>aaG W 38 (aaR m) 0 λh=>aaG W 33 h 1 λh=>aaF W d 31 h λh=>aaL W d .len [31] [h] λh _=>aaI W .lss 3 g h λh=>aU h (W.jn (λb=>aaG W 38 (aaR m) 0 λh=>aaG W 33 h 1 λh=>aaF W d 31 h λh=>aaH W 31 h g λg=>aaF W d 137 g λg=>aaQ W d [aaS 0,aaS 0,aaS 0,aaS 0,aey] 137 λh=>aaK W h 137 (aaR d) g λg h=>W.jn (λb=>aaG W 137 (aaR d) 1 λc=>aaF W g 3 c λc=>aaG W 62 (aaR a) 2 λi=>aaF W g 3 i λi=>aaI W .eql 3 c i λc=>aU c (aaG W 137 (aaR d) 2 λc=>aaF W g 3 c λc=>aaG W 62 (aaR a) 4 λa=>aaF W g 3 a λa=>aaI W .eql 3 c a λa=>aU a (aaG W 137 (aaR d) 4 λa=>aaF W g 4 a λa=>aU a (aaG W 137 (aaR d) 3 λa=>aaF W g 3 a λa=>aaI W .eql 3 a (aaS 1) λa=>aU a (b [aex] g (min f h)) (aaG W 137 (aaR d) 3 λa=>aaF W g 3 a λa=>aaI W .eql 3 a (aaS 4) λa=>aU a (b [aex] g (min f h)) (aaG W 137 (aaR d) 3 λa=>aaF W g 3 a λa=>aaI W .eql 3 a (aaS 5) λa=>b [a] g (min f h)))) (b [aey] g (min f h))) (b [aey] g (min f h))) (b [aey] g (min f h))) (λa f g=>W.un a λa _=>aU a (aaG W 137 (aaR d) 0 λa=>aaF W f 3 a λa=>aaJ W 184 [(0,(aaS 6)),(2,a)] λa=>aaM W f 146 1 [(0,a)] λa d=>aaL W (M.wl d d.n) .append [146,146] [c,a] λa c=>b [a] c (min g (M.low c))) (b [c] f g))) (λa c d=>W.un a λa _=>aaI W .add 3 g (aaS 1) λf=>b [a,f] c d)) (aaG W 38 (aaR m) 0 λb=>aaF W d 33 b λb=>aaG W 62 (aaR a) 2 λg=>aaF W d 3 g λg=>aaG W 62 (aaR a) 4 λa=>aaF W d 3 a λa=>aaT W 182 [b,g,a] d λa b d=>R [c,a] b (min f d))) [aew,aaS 0] f (ω m.n d g)) (aaI W .eql 3 h (aaS 6) λi=>aU i (aaG W 62 (aaR a) 2 λa=>aaF W f 3 a λa=>aaJ W 184 [(0,(aaS 7)),(2,a)] λa=>aaM W f 146 1 [(0,a)] λa b=>R [a,aex] b (ω m.n d g)) (aaI W .eql 3 h (aaS 7) λi=>aU i (aaG W 62 (aaR a) 2 λa=>aaF W f 3 a λa=>aaJ W 184 [(0,(aaS 6)),(2,a)] λa=>aaM W f 146 1 [(0,a)] λa b=>R [a,aex] b (ω m.n d g)) (aaI W .eql 3 h (aaS 8) λh=>aU h (aaG W 62 (aaR a) 2 λb=>aaF W f 3 b λb=>aaG W 62 (aaR a) 4 λc=>aaF W f 3 c λc=>aaJ W 53 [(0,b),(1,c)] λb=>aaQ W f [aaS 0,aaS 0] 53 λc=>aaK W c 53 (aaR f) b λb c=>W.jn (λh=>aaG W 38 (aaR m) 0 λi=>aaF W b 33 i λi=>aaG W 62 (aaR a) 2 λj=>aaF W b 3 j λj=>aaG W 62 (aaR a) 4 λa=>aaF W b 3 a λa=>aaT W 182 [i,j,a] b λa b i=>aU a (aaG W 38 (aaR m) 2 λa=>aaF W b 35 a λa=>aaL W b .len [35] [a] λa _=>aaI W .lss 3 a (aaS 60) λa=>aU a (h [aew,aex] b (Δ m.n d g c i)) (aaF W b 38 (aaR m) λa=>aaF W b 53 (aaR f) λf=>aaT W 72 [a,f] b λa b f=>h [aew,a] b (Θ m.n d g c i f))) (h [aew,aey] b (Δ m.n d g c i))) (λa b c=>W.un a λa d=>W.un d λd _=>R [a,d] b c)) (aaG W 38 (aaR m) 0 λh=>aaF W f 33 h λh=>aaG W 62 (aaR a) 3 λi=>aaF W f 3 i λi=>aaT W 71 [h,i] f λf h i=>aaN W f 0 λj=>aaN W f 1 λf=>aaQ W h [aaS 0,aaS 0,aaS 0,aew,aaS 0,aaS 0] 60 λk=>aaK W k 60 (aaR h) j λj k=>aaF W j 60 (aaR c) λl=>aaF W j 60 (aaR h) λn=>aaT W 130 [l,n] j λj l n=>aaN W j 0 λo=>aaN W j 1 λj=>aaQ W l [aaS 0,aaS 0,aaS 0,aaS 0,aaS 0,aaS 0,aaS 0,aaS 0] 145 λp=>aaK W p 145 (aaR l) o λl o=>W.Lp (λd g i k=>W.un g λg l=>W.un l λl _=>aaG W 38 (aaR m) 3 λn=>aaF W i 36 n λn=>aaL W i .len [36] [n] λn _=>aaI W .lss 3 l n λn=>aU n (aU g (aaI W .add 3 l (aaS 1) λa=>d [aex,a] i k) (aaG W 38 (aaR m) 3 λb=>aaF W i 36 b λb=>aaH W 36 b l λb=>aaG W 109 b 0 λb=>aaF W i 3 b λb=>aaG W 62 (aaR a) 2 λc=>aaF W i 3 c λc=>aaI W .eql 3 b c λb=>aU b (aaG W 38 (aaR m) 3 λb=>aaF W i 36 b λb=>aaH W 36 b l λb=>aaG W 109 b 1 λb=>aaF W i 3 b λb=>aaG W 62 (aaR a) 3 λa=>aaF W i 3 a λa=>aaI W .eql 3 b a λa=>aaI W .add 3 l (aaS 1) λb=>d [a,b] i k) (aaI W .add 3 l (aaS 1) λa=>d [aey,a] i k))) (W.jn (λd=>aU b (aU f (aU j (aaG W 62 (aaR a) 5 λb=>aaF W i 3 b λb=>aaG W 60 (aaR c) 2 λc=>aaF W i 3 c λc=>aaT W 183 [b,c] i λb c f=>aU b (aaG W 62 (aaR a) 5 λa=>aaF W c 3 a λa=>aaG W 60 (aaR h) 2 λb=>aaF W c 3 b λb=>aaT W 183 [a,b] c λa b c=>aU a (aaG W 38 (aaR m) 3 λa=>aaF W b 36 a λa=>aaL W b .len [36] [a] λa _=>aaI W .lss 3 a (aaS 20) λa=>aU a (d [aew,aex] b (ω k f c)) (d [aew,g] b (ω k f c))) (d [aew,aey] b (ω k f c))) (d [aew,aey] c (min k f))) (d [aew,aey] i k)) (d [aew,aey] i k)) (d [aew,aey] i k)) (λa b c=>W.un a λa d=>W.un d λd _=>R [a,d] b c))) [aey,aaS 0] l (Λ m.n d g i k n o))))))))):=by kernel_rfl
theorem F70:dp TE (aO TE X) f70 [x0,x1] m R=ρ m x0 38 λa=>ρ a x1 62 λb=>ς b [aew,aew] 33 λc=>jn (λb=>δ c 38 (υ m) λd=>ψ X 131 [d] c λc d f=>ο .not c λc=>aU c (b [aex] d (min m.n f)) (δ d 62 (υ a) λa=>ψ X 132 [a] d λa c d=>ο .not a λa=>b [a] c (ω m.n f d))) (λc d f=>un c λc _=>aU c (θ 33 [] λa=>ι d 33 (υ b) a λa c=>aj (ah TE a 33 (υ b)) λb=>R [aew,b,aey] a (min f c)) (δ d 38 (υ m) λc=>δ d 62 (υ a) λa=>ψ X 133 [c,a] d λa c d=>ξ a 0 λg=>ξ a 1 λa=>ο .not a λa=>aU a (θ 33 [] λa=>ι c 33 (υ b) a λa c=>aj (ah TE a 33 (υ b)) λb=>R [aew,b,aey] a (ω f d c)) (ε 38 (υ m) 0 λa=>δ c 33 a λa=>ψ X 134 [a,g] c λa c h=>ξ a 0 λi=>ξ a 1 λ_=>ξ a 2 λa=>ς c [aew,aew] 33 λj=>ι j 33 (υ c) i λi j=>δ i 33 (υ c) λc=>η .eql 46 a (χ 0) λa=>ι i 33 (υ b) c λc i=>aj (ah TE c 33 (υ b)) λb=>R [g,b,a] c (Δ f d h j i)))):=by kernel_rfl
theorem F27:dp TE W f27 [x0,x1] m R=aaP W m x0 38 λa=>aaP W a x1 62 λb=>aaQ W b [aew,aew,aew,aew,aew] 38 λc=>aaF W c 38 (aaR m) λd=>aaF W c 62 (aaR a) λf=>aaT W 70 [d,f] c λc d f=>aaN W c 0 λ_=>aaN W c 1 λg=>aaN W c 2 λc=>aaQ W d [aew,aew] 33 λh=>aaK W h 33 (aaR d) g λg h=>aaO W .not c λc=>aU c (aaJ W 38 [] λa=>aaK W g 38 (aaR b) a λa c=>aj (ah TE a 38 (aaR b)) λb=>R [b,aaS 270] a (Γ m.n f h c)) (aaF W g 33 (aaR d) λc=>aaJ W 38 [(0,c)] λc=>aaQ W g [aew,aew,aew,aew,aew] 38 λd=>aaK W d 38 (aaR g) c λc d=>W.jn (λb=>aaG W 62 (aaR a) 0 λi=>aaF W c 3 i λi=>aaI W .eql 3 i (aaS 2) λi=>aU i (aaG W 38 (aaR m) 0 λi=>aaF W c 33 i λi=>aaG W 62 (aaR a) 2 λj=>aaF W c 3 j λj=>aaT W 71 [i,j] c λc i j=>aaN W c 0 λk=>aaN W c 1 λ_=>aaQ W i [aaS 0,aaS 0,aaS 0,aew,aaS 0,aaS 0] 60 λc=>aaK W c 60 (aaR i) k λc k=>aaF W c 60 (aaR i) λi=>aaJ W 113 [(0,i)] λi=>aaQ W c [aaS 0,aaS 0,aaS 0,aew,aaS 0,aaS 0,aew] 113 λl=>aaK W l 113 (aaR c) i λi l=>W.Lp (λd f h i=>W.un f λf _=>aaG W 38 (aaR m) 0 λj=>aaG W 33 j 1 λj=>aaF W h 31 j λj=>aaL W h .len [31] [j] λj _=>aaI W .lss 3 f j λj=>aU j (W.jn (λb=>aaG W 38 (aaR m) 0 λd=>aaG W 33 d 1 λd=>aaF W h 31 d λd=>aaH W 31 d f λd=>aaG W 137 d 1 λd=>aaF W h 3 d λd=>aaG W 62 (aaR a) 2 λa=>aaF W h 3 a λa=>aaI W .eql 3 d a λa=>aU a (aaG W 113 (aaR c) 1 λa=>aaF W h 31 a λa=>aaG W 38 (aaR m) 0 λd=>aaG W 33 d 1 λd=>aaF W h 31 d λd=>aaH W 31 d f λd=>aaF W h 137 d λd=>aaM W h 31 1 [(0,d)] λd f=>aaL W (M.wl f f.n) .append [31,31] [a,d] λa d=>aaG W 113 (aaR c) 1 λc=>aaK W d 31 c a λa c=>b [] a (ω i (M.low d) c)) (b [] h i)) (λ_ a b=>aaI W .add 3 f (aaS 1) λc=>d [c] a b)) (W.Lp (λd f h i=>W.un f λf _=>W.jn (λb=>aaG W 38 (aaR m) 1 λc=>aaF W h 34 c λc=>aaL W h .len [34] [c] λc _=>aaI W .lss 3 f c λc=>aU c (aaG W 38 (aaR m) 1 λc=>aaF W h 34 c λc=>aaH W 34 c f λc=>aaG W 113 c 0 λc=>aaG W 60 c 0 λc=>aaF W h 3 c λc=>aaG W 62 (aaR a) 2 λa=>aaF W h 3 a λa=>aaI W .lss 3 c a λa=>b [a] h i) (b [aey] h i)) (λa h i=>W.un a λa _=>aU a (aaI W .add 3 f (aaS 1) λa=>d [a] h i) (aaG W 38 (aaR g) 1 λa=>aaF W h 34 a λa=>aaG W 38 (aaR m) 1 λd=>aaF W h 34 d λd=>W.aj (slice? TE h 34 d none (some f) none) λd=>aaL W (M.wl h h.n) .append [34,34] [a,d] λa d=>aaG W 38 (aaR g) 1 λh=>aaK W d 34 h a λa h=>aaG W 38 (aaR g) 1 λj=>aaF W a 34 j λj=>aaF W a 113 (aaR c) λc=>aaM W a 34 1 [(0,c)] λa c=>aaL W (M.wl c c.n) .append [34,34] [j,a] λa c=>aaG W 38 (aaR g) 1 λj=>aaK W c 34 j a λa j=>aaG W 38 (aaR g) 1 λk=>aaF W a 34 k λk=>aaG W 38 (aaR m) 1 λl=>aaF W a 34 l λl=>W.aj (slice? TE a 34 l (some f) none none) λf=>aaL W (M.wl a a.n) .append [34,34] [k,f] λa f=>aaG W 38 (aaR g) 1 λg=>aaK W f 34 g a λa g=>b [] a (Λ i (M.low d) h (M.low c) j (M.low f) g)))) [aaS 0] h i)) [aaS 0] i (Λ m.n f h d j k l)) (W.Lp (λc d f h=>W.un d λd _=>aaG W 38 (aaR m) 1 λi=>aaF W f 34 i λi=>aaL W f .len [34] [i] λi _=>aaI W .lss 3 d i λi=>aU i (W.jn (λb=>W.jn (λb=>aaG W 62 (aaR a) 0 λc=>aaF W f 3 c λc=>aaI W .neq 3 c (aaS 3) λc=>aU c (b [aex] f h) (aaG W 38 (aaR m) 1 λc=>aaF W f 34 c λc=>aaH W 34 c d λc=>aaG W 113 c 0 λc=>aaG W 60 c 0 λc=>aaF W f 3 c λc=>aaG W 62 (aaR a) 2 λa=>aaF W f 3 a λa=>aaI W .neq 3 c a λa=>b [a] f h)) (λa c f=>W.un a λa _=>aU a (aaG W 38 (aaR g) 1 λa=>aaF W c 34 a λa=>aaG W 38 (aaR m) 1 λh=>aaF W c 34 h λh=>aaH W 34 h d λd=>aaF W c 113 d λd=>aaM W c 34 1 [(0,d)] λc d=>aaL W (M.wl d d.n) .append [34,34] [a,c] λa c=>aaG W 38 (aaR g) 1 λd=>aaK W c 34 d a λa d=>b [] a (ω f (M.low c) d)) (b [] c f))) (λ_ a b=>aaI W .add 3 d (aaS 1) λd=>c [d] a b)) (b [] f h)) [aaS 0] c (Γ m.n f h d))) (λ_ c d=>aaG W 62 (aaR a) 2 λf=>aaF W c 3 f λf=>aaG W 62 (aaR a) 4 λh=>aaF W c 3 h λh=>aaJ W 53 [(0,f),(1,h)] λf=>aaQ W c [aaS 0,aaS 0] 53 λh=>aaK W h 53 (aaR c) f λf h=>W.jn (λb=>aaG W 62 (aaR a) 0 λa=>aaF W f 3 a λa=>aaI W .eql 3 a (aaS 8) λa=>aU a (aaF W f 38 (aaR m) λa=>aaF W f 53 (aaR c) λc=>aaT W 72 [a,c] f λa c f=>aaO W .not a λa=>b [a] c (ω d h f)) (b [aey] f (min d h))) (λd f h=>W.un d λd _=>W.Lp (λd f h i=>W.un f λf j=>W.un j λj _=>aaG W 38 (aaR m) 2 λk=>aaF W h 35 k λk=>aaL W h .len [35] [k] λk _=>aaI W .lss 3 j k λk=>aU k (W.jn (λa=>W.jn (λa=>aU f (aaF W h 53 (aaR c) λb=>aaG W 38 (aaR m) 2 λc=>aaF W h 35 c λc=>aaH W 35 c j λc=>aaF W h 53 c λc=>aaT W 73 [b,c] h λb c d=>a [b] c (min i d)) (a [aey] h i)) (λb d h=>W.un b λb _=>aU b (aaG W 38 (aaR g) 2 λb=>aaF W d 35 b λb=>aaF W d 53 (aaR c) λc=>aaM W d 35 1 [(0,c)] λc d=>aaL W (M.wl d d.n) .append [35,35] [b,c] λb c=>aaG W 38 (aaR g) 2 λd=>aaK W c 35 d b λb d=>a [aey] b (ω h (M.low c) d)) (a [f] d h))) (λa b c=>W.un a λa _=>aaG W 38 (aaR g) 2 λf=>aaF W b 35 f λf=>aaG W 38 (aaR m) 2 λh=>aaF W b 35 h λh=>aaH W 35 h j λh=>aaF W b 53 h λh=>aaM W b 35 1 [(0,h)] λb h=>aaL W (M.wl h h.n) .append [35,35] [f,b] λb f=>aaG W 38 (aaR g) 2 λg=>aaK W f 35 g b λb g=>aaI W .add 3 j (aaS 1) λh=>d [a,h] b (ω c (M.low f) g))) (W.jn (λa=>aU f (aaG W 38 (aaR g) 2 λb=>aaF W h 35 b λb=>aaF W h 53 (aaR c) λc=>aaM W h 35 1 [(0,c)] λc d=>aaL W (M.wl d d.n) .append [35,35] [b,c] λb c=>aaG W 38 (aaR g) 2 λd=>aaK W c 35 d b λb d=>a [] b (ω i (M.low c) d)) (a [] h i)) (λ_ c d=>aaG W 62 (aaR a) 2 λf=>aaF W c 3 f λf=>aaG W 62 (aaR a) 3 λh=>aaF W c 3 h λh=>aaG W 62 (aaR a) 5 λi=>aaF W c 3 i λi=>aaJ W 109 [(0,f),(1,h),(2,i)] λf=>aaQ W c [aaS 0,aaS 0,aaS 0] 109 λh=>aaK W h 109 (aaR c) f λf h=>aaG W 62 (aaR a) 0 λi=>aaF W f 3 i λi=>aaI W .eql 3 i (aaS 9) λi=>W.Lp (λd f h i=>W.un f λf j=>W.un j λj _=>aaG W 38 (aaR m) 3 λk=>aaF W h 36 k λk=>aaL W h .len [36] [k] λk _=>aaI W .lss 3 j k λk=>aU k (W.jn (λb=>aaG W 38 (aaR m) 3 λd=>aaF W h 36 d λd=>aaH W 36 d j λd=>aaF W h 109 d λd=>aaQ W h [aaS 0,aaS 0,aaS 0] 109 λj=>aaK W j 109 (aaR h) d λd j=>W.jn (λa=>W.jn (λa=>aU f (aaG W 109 (aaR c) 0 λb=>aaF W d 3 b λb=>aaG W 109 (aaR h) 0 λf=>aaF W d 3 f λf=>aaI W .lss 3 b f λb=>aU b (a [aex] d (min i j)) (aaG W 109 (aaR c) 0 λb=>aaF W d 3 b λb=>aaG W 109 (aaR h) 0 λf=>aaF W d 3 f λf=>aaI W .eql 3 b f λb=>aU b (aaG W 109 (aaR c) 1 λb=>aaF W d 3 b λb=>aaG W 109 (aaR h) 1 λc=>aaF W d 3 c λc=>aaI W .leq 3 b c λb=>a [b] d (min i j)) (a [aey] d (min i j)))) (a [aey] d (min i j))) (λb d h=>W.un b λb _=>aU b (aaG W 38 (aaR g) 3 λb=>aaF W d 36 b λb=>aaF W d 109 (aaR c) λc=>aaM W d 36 1 [(0,c)] λc d=>aaL W (M.wl d d.n) .append [36,36] [b,c] λb c=>aaG W 38 (aaR g) 3 λd=>aaK W c 36 d b λb d=>a [aey] b (ω h (M.low c) d)) (a [f] d h))) (λd f i=>W.un d λd _=>W.jn (λb=>aaG W 62 (aaR a) 0 λa=>aaF W f 3 a λa=>aaI W .neq 3 a (aaS 9) λa=>aU a (b [aex] f i) (aaG W 109 (aaR c) 0 λa=>aaF W f 3 a λa=>aaG W 109 (aaR h) 0 λd=>aaF W f 3 d λd=>aaI W .neq 3 a d λa=>aU a (b [aex] f i) (aaG W 109 (aaR c) 1 λa=>aaF W f 3 a λa=>aaG W 109 (aaR h) 1 λc=>aaF W f 3 c λc=>aaI W .neq 3 a c λa=>b [a] f i))) (λa c f=>W.un a λa _=>aU a (aaG W 38 (aaR g) 3 λa=>aaF W c 36 a λa=>aaF W c 109 (aaR h) λh=>aaM W c 36 1 [(0,h)] λc h=>aaL W (M.wl h h.n) .append [36,36] [a,c] λa c=>aaG W 38 (aaR g) 3 λg=>aaK W c 36 g a λa g=>b [d] a (ω f (M.low c) g)) (b [d] c f)))) (λa b c=>W.un a λa _=>aaI W .add 3 j (aaS 1) λf=>d [a,f] b c)) (W.jn (λa=>aU f (aaG W 38 (aaR g) 3 λb=>aaF W h 36 b λb=>aaF W h 109 (aaR c) λc=>aaM W h 36 1 [(0,c)] λc d=>aaL W (M.wl d d.n) .append [36,36] [b,c] λb c=>aaG W 38 (aaR g) 3 λd=>aaK W c 36 d b λb d=>a [] b (ω i (M.low c) d)) (a [] h i)) (λ_ a c=>aaF W a 38 (aaR g) λd=>aaK W a 38 (aaR b) d λa d=>aj (ah TE a 38 (aaR b)) λb=>R [b,aaS 0] a (min c d)))) [i,aaS 0] f (min d h)))) [d,aaS 0] f h))):=by kernel_rfl
theorem F66:dp TE (aO TE X) f66 [x0,x1] m R=jn (λa=>η .lss 3 x0 (χ 0) λb=>aU b (η .add 3 x0 (χ 1) λb=>ο .neg b λb=>a [b] m m.n) (a [x0] m m.n)) (λa b c=>un a λa _=>η .rem 3 a x1 λa=>R [a] b c):=by kernel_rfl
theorem F68:dp TE (aO TE X) f68 [x0,x1] m R=ρ m x0 33 λa=>ε 33 (υ m) 0 λb=>ε 30 b 0 λb=>δ a 28 b λb=>κ a .len [28] [b] λb _=>η .eql 3 b (χ 0) λb=>aU b (ψ X 66 [x1,χ 100] a λa b c=>R [a] b (min m.n c)) (ε 33 (υ m) 0 λb=>ε 30 b 0 λb=>δ a 28 b λb=>ε 33 (υ m) 0 λc=>ε 30 c 0 λc=>δ a 28 c λc=>κ a .len [28] [c] λc _=>ψ X 66 [x1,c] a λc d f=>(a.n<=f)/\(ζ 28 b c λa=>ε 60 a 0 λa=>δ d 3 a λa=>R [a] d (min m.n f))):=by kernel_rfl
theorem F26:dp TE (aO TE X) f26 [x0,x1] m R=ρ m x0 38 λa=>ρ a x1 89 λb=>ς b [χ 0,χ 0,χ 0,χ 0,aew,χ 0,χ 0,χ 0,χ 0,χ 0,χ 0] 62 λc=>ζ 89 (υ a) (χ 0) λd=>δ c 3 d λd=>ψ X 66 [d,χ 9] c λc d f=>η .add 3 (χ 1) c λc=>θ 62 [(0,c)] λc=>ς d [χ 0,χ 0,χ 0,χ 0,aew,χ 0,χ 0,χ 0,χ 0,χ 0,χ 0] 62 λg=>ι g 62 (υ d) c λc g=>ε 38 (υ m) 0 λh=>δ c 33 h λh=>ς c [aew,aew] 33 λi=>ι i 33 (υ c) h λh i=>jn (λb=>ε 62 (υ d) 0 λj=>δ h 3 j λj=>η .eql 3 j (χ 1) λk=>aU k (ζ 89 (υ a) (χ 1) λc=>δ h 3 c λc=>ζ 89 (υ a) (χ 2) λj=>δ h 3 j λj=>ζ 89 (υ a) (χ 3) λk=>δ h 3 k λk=>ζ 89 (υ a) (χ 4) λl=>δ h 3 l λl=>ζ 89 (υ a) (χ 4) λn=>δ h 3 n λn=>η .quo 3 n (χ 4) λn=>ζ 89 (υ a) (χ 5) λo=>δ h 3 o λo=>θ 89 [(0,j),(1,k),(2,l),(3,n),(4,(χ 0)),(5,o)] λj=>ψ X 67 [c,j] h λc h j=>ε 62 (υ d) 1 λk=>ι h 60 k c λc h=>ζ 89 (υ a) (χ 5) λa=>δ c 3 a λa=>ψ X 66 [a,χ 3] c λa c k=>η .add 3 (χ 6) a λa=>ε 62 (υ d) 1 λd=>ε 60 d 1 λd=>ι c 3 d a λa c=>b [] a (Ξ m.n f g i j h k c)) (η .eql 3 j (χ 3) λk=>aU k (δ h 33 (υ c) λc=>ζ 89 (υ a) (χ 1) λj=>δ h 3 j λj=>ψ X 68 [c,j] h λc h j=>ε 62 (υ d) 2 λk=>ι h 3 k c λc h=>ε 38 (υ m) 1 λk=>δ c 34 k λk=>κ c .len [34] [k] λk _=>η .gtr 3 k (χ 0) λk=>aU k (ε 38 (υ m) 1 λk=>δ c 34 k λk=>ζ 89 (υ a) (χ 1) λa=>δ c 3 a λa=>ε 38 (υ m) 1 λl=>δ c 34 l λl=>κ c .len [34] [l] λl _=>ψ X 66 [a,l] c λa l n=>(c.n<=n)/\(ζ 34 k a λa=>ε 113 a 0 λa=>ε 60 a 0 λa=>δ l 3 a λa=>ε 62 (υ d) 2 λc=>ι l 3 c a λa c=>b [] a (Ξ m.n f g i j h n c))) (b [] c (Θ m.n f g i j h))) (η .eql 3 j (χ 2) λk=>aU k (δ h 33 (υ c) λc=>ζ 89 (υ a) (χ 1) λa=>δ h 3 a λa=>ψ X 68 [c,a] h λa c h=>ε 62 (υ d) 2 λd=>ι c 3 d a λa c=>b [] a (Θ m.n f g i h c)) (η .eql 3 j (χ 4) λk=>aU k (δ h 33 (υ c) λc=>ζ 89 (υ a) (χ 1) λj=>δ h 3 j λj=>ψ X 68 [c,j] h λc h j=>ε 62 (υ d) 2 λk=>ι h 3 k c λc h=>ζ 89 (υ a) (χ 2) λa=>δ c 3 a λa=>ψ X 66 [a,χ 8] c λa c k=>ε 62 (υ d) 5 λd=>ι c 3 d a λa c=>b [] a (Ξ m.n f g i j h k c)) (jn (λa=>η .eql 3 j (χ 5) λb=>aU b (a [b] h (Γ m.n f g i)) (η .eql 3 j (χ 8) λb=>a [b] h (Γ m.n f g i))) (λf g h=>un f λf _=>aU f (δ g 33 (υ c) λf=>ζ 89 (υ a) (χ 1) λi=>δ g 3 i λi=>ψ X 68 [f,i] g λf g i=>ε 62 (υ d) 2 λj=>ι g 3 j f λf g=>ζ 89 (υ a) (χ 2) λj=>δ f 3 j λj=>ψ X 66 [j,χ 6] f λf j k=>η .sub 3 f (χ 2) λf=>ε 62 (υ d) 4 λl=>ι j 3 l f λf j=>jn (λb=>ε 33 (υ c) 1 λc=>δ f 31 c λc=>κ f .len [31] [c] λc _=>η .gtr 3 c (χ 0) λc=>aU c (ζ 89 (υ a) (χ 3) λa=>δ f 3 a λa=>ψ X 66 [a,χ 2] f λa c d=>η .eql 3 a (χ 0) λa=>b [a] c (Θ h i g k j d)) (b [aey] f (Δ h i g k j))) (λf g h=>un f λf _=>aU f (ε 33 (υ c) 1 λf=>δ g 31 f λf=>ζ 89 (υ a) (χ 2) λa=>δ g 3 a λa=>ε 33 (υ c) 1 λc=>δ g 31 c λc=>κ g .len [31] [c] λc _=>ψ X 66 [a,c] g λa c i=>(g.n<=i)/\(ζ 31 f a λa=>δ c 137 a λa=>ς c [χ 0,χ 0,χ 0,χ 0,aey] 137 λf=>ι f 137 (υ c) a λa f=>ε 137 (υ c) 1 λg=>δ a 3 g λg=>ε 62 (υ d) 2 λj=>ι a 3 j g λa g=>ε 137 (υ c) 2 λc=>δ a 3 c λc=>ε 62 (υ d) 4 λd=>ι a 3 d c λa c=>b [] a (Δ h i f g c))) (b [] g h))) (jn (λa=>η .eql 3 j (χ 6) λb=>aU b (a [b] g h) (η .eql 3 j (χ 7) λb=>a [b] g h)) (λf g h=>un f λf _=>aU f (ζ 89 (υ a) (χ 1) λf=>δ g 3 f λf=>ψ X 66 [f,χ 12] g λf g i=>ε 62 (υ d) 2 λj=>ι g 3 j f λf g=>ε 33 (υ c) 1 λj=>δ f 31 j λj=>κ f .len [31] [j] λj _=>η .gtr 3 j (χ 0) λj=>aU j (ε 33 (υ c) 1 λj=>δ f 31 j λj=>ζ 89 (υ a) (χ 1) λa=>δ f 3 a λa=>ε 33 (υ c) 1 λc=>δ f 31 c λc=>κ f .len [31] [c] λc _=>ψ X 66 [a,c] f λa c k=>(f.n<=k)/\(ζ 31 j a λa=>ε 137 a 0 λa=>δ c 3 a λa=>ε 62 (υ d) 2 λd=>ι c 3 d a λa c=>b [] a (Δ h i g k c))) (b [] f (ω h i g))) (ζ 89 (υ a) (χ 3) λf=>δ g 3 f λf=>ψ X 66 [f,χ 8] g λf i j=>(g.n<=j)/\(ν i 26 3 [(0,(χ 5)),(1,(χ 5)),(2,f)] λf g=>ζ 89 (υ a) (χ 2) λi=>δ g 3 i λi=>ψ X 66 [i,χ 3] g λi k l=>(g.n<=l)/\(ζ 26 f i λf=>δ k 3 f λf=>ε 62 (υ d) 5 λg=>ι k 3 g f λf g=>ε 62 (υ d) 3 λi=>ι f 3 i (χ 1) λf i=>ε 33 (υ c) 0 λc=>δ f 30 c λc=>ψ X 69 [c] f λc f k=>Lp (λf g h i=>un g λg _=>κ h .len [138] [c] λj _=>η .lss 3 g j λj=>aU j (jn (λb=>ζ 89 (υ a) (χ 1) λa=>δ h 3 a λa=>κ h .len [138] [c] λf _=>ψ X 66 [a,f] h λa f h=>η .add 3 g a λa=>κ f .len [138] [c] λg _=>η .rem 3 a g λa=>ζ 138 c a λa=>δ f 145 a λa=>ς f [χ 0,χ 0,χ 0,χ 0,χ 0,χ 0,χ 0,χ 0] 145 λc=>ι c 145 (υ f) a λa c=>ε 145 (υ f) 1 λg=>δ a 3 g λg=>η .neq 3 g (χ (-1)) λg=>aU g (ε 145 (υ f) 0 λg=>δ a 3 g λg=>ε 62 (υ d) 2 λj=>ι a 3 j g λa g=>ε 145 (υ f) 1 λf=>δ a 3 f λf=>ε 62 (υ d) 3 λd=>ι a 3 d f λa d=>b [] a (Δ i h c g d)) (b [] a (ω i h c))) (λ_ a b=>η .add 3 g (χ 1) λc=>f [c] a b)) (b [] h i)) [χ 0] f (Θ h j l g i k)))))))))))) (λ_ a c=>δ a 62 (υ d) λd=>ι a 62 (υ b) d λa d=>aj (ah TE a 62 (υ b)) λb=>R [b] a (min c d)):=by kernel_rfl
theorem F25:dp TE (aO TE X) f25 [x0,x1] m R=ρ m x0 25 λa=>ς a [aew,aew,aew,aew,aew] 38 λb=>ε 25 (υ m) 0 λc=>δ b 22 c λc=>ε 25 (υ m) 0 λd=>δ b 22 d λd=>κ b .len [22] [d] λd _=>κ b .min [3,3] [d,χ 5] λd _=>aj (slice? TE b 22 c none (some d) none) λc=>ε 25 (υ m) 0 λd=>ι b 22 d c λb c=>δ b 25 (υ m) λd=>ψ X 65 [d] b λb d f=>θ 38 [(0,b)] λb=>ς d [aew,aew,aew,aew,aew] 38 λg=>ι g 38 (υ d) b λb g=>δ b 38 (υ d) λh=>ς b [aew,aew,aew,aew,aew] 38 λi=>ι i 38 (υ b) h λh i=>Lp (λc f g h=>un f λf i=>un i λi _=>jn (λa=>κ g .len [22] [x1] λb _=>η .lss 3 i b λb=>aU b (η .lss 3 i (χ 9) λb=>a [b] g h) (a [aey] g h)) (λg h j=>un g λg _=>aU g (jn (λa=>δ h 38 (υ b) λc=>ζ 22 x1 i λg=>δ h 89 g λg=>ψ X 26 [c,g] h λc g k=>(h.n<=k)/\(ς g [χ 0,χ 0,χ 0,χ 0,aew,χ 0,χ 0,χ 0,χ 0,χ 0,χ 0] 62 λh=>ι h 62 (υ g) c λc h=>δ c 38 (υ b) λl=>δ c 62 (υ g) λn=>ψ X 27 [l,n] c λc l n=>ξ c 0 λo=>ξ c 1 λc=>ς l [aew,aew,aew,aew,aew] 38 λp=>ι p 38 (υ l) o λo p=>η .neq 46 c (χ 0) λc=>aU c (a [f] o (Δ j k h n p)) (δ o 38 (υ l) λc=>ι o 38 (υ b) c λb c=>η .lss 3 i (χ 3) λi=>aU i (δ b 38 (υ l) λg=>ι b 38 (υ d) g λb d=>a [f] b (Λ j k h n p c d)) (δ b 62 (υ g) λd=>ν b 39 1 [(0,d)] λb d=>κ (M.wl d d.n) .append [39,39] [f,b] λb d=>a [b] d (Λ j k h n p c (M.low d)))))) (λa b d=>un a λa _=>η .add 3 i (χ 1) λf=>c [a,f] b d)) (δ h 38 (υ d) λb=>ι h 38 (υ a) b λb c=>aj (ah TE b 38 (υ a)) λa=>R [a,f] b (min j c)))) [aew,χ 0] h (Δ m.n c f g i):=by kernel_rfl
end
end
section
variable {X:aM} {m:M}
structure AW where
 a:Ac
 w:aes
abbrev AW.c(x:AW):aet:=x.a.c x.w
abbrev AW.v(x:AW):aes:=x.a.v x.w
theorem Ac.cM{a:Ac}{w:aes}(h:one w):(a.c w).all one:=by show(true && (true && (true && (true && (one w && true)))))=true;rw[h];rfl
instance:aZ AW where
 ty:=184
 sz:=15
 agg:=true
 dd:=[]
 rep _ x cs:=cs=x.c/\one x.w=true
 pos:=by decide
 one:=by grind
 len:=by simp_all
 ee:=by rintro _ x _ ⟨rfl,h⟩;exact Ac.cM h
 bs:=by grind
theorem Mt:oO TE 146 184 AW:=⟨ag.t146,ag.t184,by kernel_rfl,⟨_,rfl⟩,rfl,by kernel_rfl,rfl,rfl⟩
theorem Pj:rH TE 146 AW:=⟨ag.t146,ag.t184,by kernel_rfl,rfl,rfl,by kernel_rfl,by decide,rfl⟩
theorem Yg{l:List AW}{v:aes}(h:Sl m l v){i:Nat}{x:AW}(H:l[i]?=some x):∃p,an TE 146 v (aev i)=some p/\ah TE m 184 p=some x.v:=by have⟨p,cs,e1,e2,e3⟩:=h.index Mt (k:=.i64) H;obtain⟨rfl, -⟩:cs=x.c/\_:=e3;exact⟨p,e1,e2⟩
structure zy(m:M)(l:List AW)(v:aes):Prop where
 sl:Sl m l v
 sh:∀x∈l,Sl m x.a.un.shape x.w
 ln:∀x∈l,x.a.un.shape.length < 1000000
 kd:∀x∈l,x.a.kind≠3/\x.a.kind≠4
theorem zy.bs{l:List AW}{v:aes}{m':M}(h:zy m l v)(hk:∀c cs t g,m.get c=.cells cs t g->(t=184\/t=141)->m'.get c=.cells cs t g):zy m' l v:=
 ⟨h.sl.bs λc cs t g H ht=>hk c cs t g H (.inl (by simpa[aZ.ty,aZ.dd]using ht)),λx hx=>(h.sh x hx).bs λc cs t g H ht=>hk c cs t g H (.inr (by simpa[aZ.ty,aZ.dd]using ht)),h.ln,h.kd⟩
theorem zy.aG{l:List AW}{v:aes}{m':M}(h:zy m l v)(H:Ext m m'):zy m' l v:=h.bs λ_ _ _ _ hc _=>H.cells hc
theorem Al{us:List Un}{ms:List Mk}{a:Ac}:∀{l:List Ac},gw us ms (l++ [a])=(gw us ms l).bind λp=>rQ p.1 p.2 a
 |[]=>by
  simp only[abZ,gw]
  grind
 |b::r=>by
  rw[acw,gw,gw]
  cases rQ us ms b with
  |none=>rfl
  |some p=>exact Al
theorem Am{us:List Un}{ms:List Mk}{q:List Ac}:∀{l:List Ac},gw us ms l=none->gw us ms (l++q)=none
 |[],h=>by cases h
 |b::r,h=>by
  rw[acw,gw]
  rw[gw]at h
  cases e:rQ us ms b with
  |none=>rfl
  |some p=>
   rw[e]at h
   exact Am h
theorem fj.dw{vs:List Un}{H:List Mk}{m':M}{r r2:aes}(h:fj vs H m' (.agg #[r,r2]))(hf:D.dw (.agg #[r,r2]))(m:M):fj vs H m (.agg #[r,r2]):=
 fj.flat (t:=aex) h (by show(D.dw (.agg #[r,r2]) && (true && true))=true;rw[hf];rfl) m
def tA(D:Option (List Un×List Mk))(m':M)(H:aes):Prop:=match D with
 |some (vs,ns)=>∃r r2 n,H=.tuple #[.agg #[r,r2],.int .i64 n,.int .i64 0]/\fj vs ns m' (.agg #[r,r2])
 |none=>∃n,H=.tuple #[.agg #[.slice none 0 0,.slice none 0 0],.int .i64 n,.int .i64 170]
theorem tA.flat{D:Option (List Un×List Mk)}{m':M}{v t u:aes}(h:tA D m' (.tuple #[v,t,u]))(hf:bF (.tuple #[v,t,u]))(m:M):tA D m (.tuple #[v,t,u]):=by
 unfold tA at h⊢;split at h
 ·have⟨r,r2,n,e,hs⟩:=h;cases e;have H:(D.dw (.agg #[r,r2]) && (true && (true && true))):=hf;rw[aa3]at H;exact⟨r,r2,n,rfl,hs.dw H.1 m⟩
 exact h
theorem GW{D:Option (List Un×List Mk)}{m':M}{v t u:aes}{lo:Nat}{Q:Prop}(hQ:Q)(h:tA D m' (.tuple #[v,t,u]))(H:m.n<=lo)(hx:Ext m m'):
  (bF (bz [v,t,u])/\m.n<=lo/\(Q/\Ext m m/\tA D m (bz [v,t,u])))\/((bF (bz [v,t,u])=false\/lo < m.n)/\(min m.n lo=m.n/\Ext m m'/\tA D m' (bz [v,t,u]))):=by
 cases hf:bF (bz [v,t,u]);·exact .inr ⟨.inl rfl,by omega,hx,h⟩
 exact .inl ⟨rfl,H,hQ,.refl,h.flat hf m⟩
set_option maxHeartbeats 1000000 in
theorem MC(hX:cy X){l:List UW}{ms:List Mk}{v vm va:aes}{H:List AW}(hF:cY m l v)(hP:cx (bR l))(hm:Sl m ms vm)(hM:im (bR l) ms)(ha:zy m H va)(N1:H.length<=40):
  ∃rv m',C X (.func 134) [.agg #[v,vm],va] m m.n rv m'/\Ext m m'/\tA (gw (bR l) ms (H.map AW.a)) m' rv:=by
 have E1:l.length<=12:=by have:=hP.len;rwa[cI]at this
 have O1:=hM.len;refine Cl.FD hX (aaU func134) ?_;rw[aac];dsimp only[δ,ζ,η,θ,ι,κ,ξ,ο,ρ,ς,υ,χ,ψ,Γ,ω];refine aw λm1 P1 a1 T1=>?_;refine aw λm2 a2 b1 c1=>?_;have i0:Ext m m2:=⟨by omega,by grind⟩
 have g1:m2.get m.n=.cells [v,vm] 33 none:=by rw[c1 _ (by omega)];exact a1
 have gz:m2.get m1.n=.cells [aew,aew] 33 none:=b1;unfold ptrTo;rw[(kj g1).2.2.2,ae];refine aH (kO hX (hF.aG i0) (by omega) (hm.aG i0) (by omega)) ?_;rw[fB hP,fT.2 hM,bE,ae,ak];show gG false _ _;rw[aT,(kj g1).2.2.2,ae];obtain⟨acc,q,q2,m14,d1,A0,i1,f14,B0⟩:=AT hX (hF.aG i0) (by omega) (hm.aG i0) (by omega);refine aH d1 ?_;have n14:=A0.n;refine aw λm16 F1 C0 G1=>?_;refine aD dV C0 rfl rfl (by show(one q && (one q2 && true))=true;rw[f14.sl.one,B0.one];rfl) λm17 H1 a0 I1=>?_;have a0:m17.get m14.n=.cells [q,q2] 33 none:=a0;obtain⟨S,hS⟩:∃S,S=m14.n:=⟨_,rfl⟩
 rw[<-hS]at a0⊢;have l0:Ext m14 m17:=⟨by omega,by grind⟩
 have b2:m2.n<=S:=by omega
 have D0:m.n<=min (min (min m.n m2.n) m2.n) m14.n:=by omega
 generalize min (min (min m.n m2.n) m2.n) m14.n=c2 at D0;have E0:fj (bR l) ms m17 (.agg #[q,q2]):=⟨acc,q,q2,rfl,i1,f14.aG l0,B0.aG l0⟩
 have j1:∀c,c < S->m17.get c=m14.get c:=λc hc=>l0.get c (by omega)
 refine Lp.intro (γ:=Nat) (λi=>H.length-i) (λi vs mm lo=>∃z1 z2 r r2 ws ns,vs=[z1,z2,.int .i64 i]/\i<=H.length/\(∀c,c < S->mm.get c=m14.get c)/\S < mm.n/\m.n<=lo/\mm.get S=.cells [r,r2] 33 none/\fj ws ns mm (.agg #[r,r2])/\gw (bR l) ms ((H.take i).map AW.a)=some (ws,ns)) 0
  ⟨_,_,q,q2,_,_,rfl,aa6 _,j1,by omega,by omega,a0,E0,rfl⟩ ?_
 rintro i vs mm lo ⟨z1,z2,r,r2,ws,ns,rfl,hi,hk,d2,D0,gS,v0,b0⟩;have⟨k1,l1⟩:=GX hP hM b0;have y0:Ext m2 mm:=⟨by omega,λc hc=>by rw[hk c (by omega),A0.get c hc]⟩
 have j0:=(ha.aG i0).aG y0;have F0:=y0.cells gz
 have bad:∀{z0:M} {n0:Nat} {n:Int} {Q:Prop},Q->z0.get m1.n=.cells [aew,aew] 33 none->m.n<=n0->gw (bR l) ms (H.map AW.a)=none->
   aj (aK TE 33 []) λv=>aR (aF TE z0 33 (.pointer (some ⟨m1.n,0,none⟩)) v) λm' b=>aj (ah TE m' 33 (.pointer (some ⟨m1.n,0,none⟩))) λv'=>
    (bF (bz [v',.int .i64 n,.int .i64 170])=true/\m.n<=min n0 b/\(Q/\Ext m m/\tA (gw (bR l) ms (H.map AW.a)) m (bz [v',.int .i64 n,.int .i64 170])))\/((bF (bz [v',.int .i64 n,.int .i64 170])=false\/min n0 b < m.n)/\(min m.n (min n0 b)=m.n/\Ext m m'/\tA (gw (bR l) ms (H.map AW.a)) m' (bz [v',.int .i64 n,.int .i64 170]))):=by
  intro z0 n0 n Q hQ g J1 e
  rw[qt,ae]
  refine aD dV g rfl rfl rfl λm' g2 p1 i2=>?_
  rw[(kj p1).2.2.2,ae]
  exact .inl ⟨rfl,by omega,hQ,.refl,by unfold tA;rw[e];exact⟨n,rfl⟩⟩
 rw[aE,aE,aE,j0.sl.len Mt,aA,aQ,ae,ak];refine av (λG0=>?_) (λr1=>?_)
 ·have G0:i < H.length:=by grind
  obtain⟨x,hx⟩:∃x,H[i]?=some x:=⟨_,aaW G0⟩
  have d0:=aa2 hx
  have⟨p,e1,e2⟩:=Yg j0.sl hx
  have u1:(H.take (i+1)).map AW.a=(H.take i).map AW.a++ [x.a]:=by rw[abg,hx,abE];rfl
  have q0:gw (bR l) ms ((H.take (i+1)).map AW.a)=rQ ws ns x.a:=by rw[u1,Al,b0];rfl
  have H0:H.map AW.a=(H.take (i+1)).map AW.a++(H.drop (i+1)).map AW.a:=by rw[<-abE,abW]
  rw[cO,ae,ak,tg,aT,(kj gS).2.2.2,ae,e1,ae,e2,ae]
  have⟨I0,r',j2,er,eu,ef,es⟩:=v0
  cases er
  have k2:I0.length<=12:=by have:=k1.len;rwa[<-eu,cI]at this
  have l2:=l1.len
  obtain⟨rv,v1,w1,r0,k0⟩:=IT (m:=mm) (a:=x.a) hX ef (by omega) es (by omega) (j0.sh x d0) (j0.ln x d0) (j0.kd x d0).1 (j0.kd x d0).2
  refine aH w1 ⟨aaV _,?_⟩
  have n40:=r0.n
  rw[eu]at k0
  unfold oF at k0
  cases J0:rQ ws ns x.a with
  |none=>rw[J0]at k0 q0;subst k0;rw[aJ,aJ];simp only[aaY,aaX,ae];refine aw λy1 K0 o0 e0=>?_;refine aD dV o0 rfl rfl rfl λs0 L0 g0 h0=>?_;rw[bZ,ae,ak,abt (show¬(170:Int)=0 by decide),acL,bH];refine bad (by grind) ?_ (by omega) (by rw[H0];exact Am q0);rw[h0 _ (by omega),e0 _ (by omega),r0.get _ (by omega)];exact F0
  |some d=>
   have⟨A1,B1⟩:=d;rw[J0]at k0 q0;obtain⟨t1,t2,rfl,st⟩:=k0
   have o1:one t1=true/\one t2=true:=by have⟨_,_,_,e,_,h1,h2⟩:=st;cases e;exact⟨h1.sl.one,h2.one⟩
   rw[aJ,aJ];simp only[aaY,aaX,ae];refine aw λy1 K0 o0 e0=>?_;refine aD dV o0 rfl rfl (by show(one t1 && (one t2 && true))=true;rw[o1.1,o1.2];rfl) λs0 L0 g0 h0=>?_;have g0:s0.get v1.n=.cells [t1,t2] 33 none:=g0;rw[bZ,ae,ak,abb (show(0:Int)=0 from rfl),aca,aT,(kj g0).2.2.2,ae];have N0:s0.get S=.cells [r,r2] 33 none:=by rw[h0 _ (by omega),e0 _ (by omega),r0.get _ (by omega)];exact gS
   refine aD dV N0 rfl rfl (by grind) λo2 K1 O0 u0=>?_;rw[aS,ae,wrap64];refine⟨i+1,by omega,z1,z2,t1,t2,A1,B1,by grind,by omega,λc hc=>by rw[u0 c (by omega),h0 c (by omega),e0 c (by omega),r0.get c (by omega),hk c hc],by omega,by omega,O0,?_,q0⟩;refine st.bs λc cs t g hc ht=>?_;have u2:=M.bk hc;have C1:s0.get c=.cells cs t g:=by grind
   rw[u0 c (λe=>by grind),C1]
 have D1:i=H.length:=by have:¬(i:Int)< (H.length:Int):=aaZ r1;omega
 subst D1;rw[abD]at b0;rw[(kj gS).2.2.2,ae,aA]
 have o1:one r=true/\one r2=true:=by have⟨_,_,_,e,_,h1,h2⟩:=v0;cases e;exact⟨h1.sl.one,h2.one⟩
 refine aD dV F0 rfl rfl (by show(one r && (one r2 && true))=true;rw[o1.1,o1.2];rfl) λP0 L1 p0 S0=>?_;have p0:P0.get m1.n=.cells [r,r2] 33 none:=p0;rw[(kj p0).2.2.2,ae];refine GW (m':=P0) (by grind) ?_ (by omega) ⟨by omega,λc hc=>by rw[S0 c (by omega),y0.get c (by omega),i0.get c hc]⟩;unfold tA;rw[b0];exact⟨r,r2,_,rfl,v0.bs λc cs t g hc ht=>by grind⟩
def wJ(u v:Un):Bool:=(ep u v).isSome
def zU(D:Option (List Ac))(m':M)(H:aes):Prop:=match D with
 |some L=>∃al v,H=.tuple #[v,.bool true]/\al.map AW.a=L/\zy m' al v
 |none=>∃v,H=.tuple #[v,.bool false]
theorem zy.nil{m:M}:zy m [] aew:=⟨.nil,λx H=>(by cases H),λx H=>(by cases H),λx H=>(by cases H)⟩
theorem zU.flat{D:Option (List Ac)}{m':M}{v t:aes}(h:zU D m' (.tuple #[v,t]))(hf:bF (.tuple #[v,t]))(m:M):zU D m (.tuple #[v,t]):=by
 unfold zU at h⊢;split at h
 ·have⟨al,v',e,e1,hs⟩:=h
  cases e
  have h1:=hs.sl
  obtain⟨a,c,rfl⟩:=h1.form
  cases a with
  |some a=>exact absurd (show(false && (true && true))=true from hf) (by decide)
  |none=>
   have hv:Go.D.bI (.slice none al.length c):=by
    have a0:(Go.D.bI (.slice none al.length c) && (true && true)):=hf
    grind
   have⟨e2,e3⟩:=kN h1 hv m;subst e2;exact⟨[],_,rfl,e1,⟨e3,λx H=>(by cases H),λx H=>(by cases H),λx H=>(by cases H)⟩⟩
 exact h
theorem Fq{x:AW}:aI TE m 146 1 [(0,x.v)]=some (.slice (some ⟨m.n,0,none⟩) 1 1,m.push (.cells x.c 184 none)):=by kernel_rfl
theorem SR{x y:AW}:aI TE m 146 2 [(0,x.v),(1,y.v)]=some (.slice (some ⟨m.n,0,none⟩) 2 2,m.push (.cells (x.c++y.c) 184 none)):=by kernel_rfl
theorem S4{x y:AW}{b:Nat}{g:Option Nat}(h:m.get b=.cells (x.c++y.c) 184 g)(h1:one x.w)(H:one y.w):Sl m [x,y] (aer b 0 2 2):=
 .inr ⟨b,0,2,_,g,rfl,h,aaV _,λi z hi=>by
  match i with
  |0=>cases hi;exact⟨rfl,h1⟩
  |1=>cases hi;exact⟨rfl,H⟩
  |i+2=>simp at hi⟩
theorem yB{x:AW}{P:aes->M->Prop}(h1:one x.w)(hs:Sl m x.a.un.shape x.w)(hl:x.a.un.shape.length < 1000000)(hk:x.a.kind≠3/\x.a.kind≠4)
  (hP:∀m1,Ext m m1->m1.n=m.n+1->m1.get m.n=.cells x.c 184 none->zy m1 [x] (aer m.n 0 1 1)->P (aer m.n 0 1 1) m1):
  aR (aI TE m 146 1 [(0,x.v)]) P:=by rw[Fq,aA];have H:Ext m (m.push (.cells x.c 184 none)):=Ext.refl.push;have hg:(m.push (.cells x.c 184 none)).get m.n=.cells x.c 184 none:=M.aY;exact hP _ H M.iQ hg ⟨gH hg ⟨rfl,h1⟩,λy hy=>by rw[abr.1 hy];exact hs.aG H,by grind,by grind⟩
theorem zp{k id:Int}:aK TE 184 [(0,aev k),(2,aev id)]=some (AW.v ⟨lO k id,aew⟩):=zO rfl rfl
theorem Gl{u:Un}{w:aes}:aK TE 184 [(0,aev 1),(1,u.v w)]=some (AW.v ⟨fI u,w⟩):=zP rfl rfl
theorem VY{x:Mk}:aK TE 184 [(0,aev 5),(5,x.v)]=some (AW.v ⟨jX x,aew⟩):=zN rfl rfl
theorem rE{a b:Int}:aK TE 53 [(0,aev a),(1,aev b)]=some (Fc.v ⟨a,b⟩):=Cs rfl rfl
theorem pz{α:Type}{p:α->Bool}:∀{l:List α} {i:Nat} {x:α},l[i]?=some x->p x->(∀j y,j < i->l[j]?=some y->p y=false)->l.find? p=some x
 |[],i,x,h,_,_=>by grind
 |a::l,0,x,h,H,_=>by grind
 |a::l,i+1,x,h,H,hn=>by
  rw[List.find?_cons,hn 0 a (by omega) rfl]
  exact pz (by simpa using h) H λj y hj hy=>hn (j+1) y (by omega) (by grind)
structure KD(us:List Un)(id:Int)(m':M)(u:Un)(w:aes)(b:Bool):Prop where
 sl:Sl m' u.shape w
 ln:u.shape.length < 1000000
 eq:cf us id=if b=true then some u else none
 z:b=false->u=.z
theorem eX.PF{us:List Un}{id:Int}{m':M}{H:aes}(h:eX us id m' H)(hP:cx us):∃u w b,H=.tuple #[u.v w,.bool b]/\KD us id m' u w b:=by
 unfold eX at h
 cases e:cf us id with
 |none=>rw[e]at h;exact⟨.z,aew,false,h,.nil,by decide,by grind,λ_=>rfl⟩
 |some u=>rw[e]at h;have⟨w,h1,h2⟩:=h;have:=jc (hP.val u (dK e).1);exact⟨u,w,true,h1,h2,by omega,by grind,λh=>by cases h⟩
theorem KD.aG{us:List Un}{id:Int}{m' m'':M}{u:Un}{w:aes}{b:Bool}(h:KD us id m' u w b)(H:Ext m' m''):KD us id m'' u w b:=⟨h.sl.aG H,h.ln,h.eq,h.z⟩
theorem QP{u:Un}:(fI u).kind≠3/\(fI u).kind≠4:=⟨(by decide:(1:Int)≠3),(by decide:(1:Int)≠4)⟩
theorem YM{x:Mk}:(jX x).kind≠3/\(jX x).kind≠4:=⟨(by decide:(5:Int)≠3),(by decide:(5:Int)≠4)⟩
theorem Ny{k id:Int}(h:k≠3/\k≠4):(lO k id).kind≠3/\(lO k id).kind≠4:=h
theorem Ju:([]:List Pl).length < 1000000:=by decide
theorem Tp{b:Nat}{x:Mk}{g:Option Nat}(h:m.get b=.cells x.c 137 g):ah TE m 4 (aeq b (0+4))=some (.bool x.KG):=by rw[uz,aL h];rfl
set_option maxHeartbeats 4000000 in
theorem KA(hX:cy X){y:Yd}{r r2 st rc mo:aes}{t:Tk}{w:aes}(hV:lM m y r r2 st rc mo)(hP:oL y)(hw:Sl m t.un.shape w)(o5:t.un.shape.length < 100000)(r5:1<=t.kind/\t.kind<=9):
  ∃rv m',C X (.func 133) [yv r r2 st rc mo,t.v w] m m.n rv m'/\Ext m m'/\zU (jD wJ dB dg y t) m' rv:=by
 refine Cl.FD hX (aaU func133) ?_;have L2:=hV.ee;have⟨⟨l,s0,hF⟩,L0,⟨kl,O1,hK⟩,M2,A3⟩:=hV;have N2:cx (bR l):=by rw[s0];exact hP.qk
 have N4:l.length<=12:=by have:=hP.qk.len;rwa[<-s0,cI]at this
 have O4:kl.length<=12:=by have:=hP.P3;rwa[<-O1,jk]at this
 have R4:=hP.Wi;have W4:=hP.Si;have B3:=hP.Av.len
 have H:∀R:aet->M->Nat->Prop,(∀(v:aes) (b:Bool) (m':M) (lo:Nat),m.n<=lo->Ext m m'->zU (jD wJ dB dg y t) m' (.tuple #[v,.bool b])->R [v,.bool b] m' lo)->dp TE (aO TE X) f133 [yv r r2 st rc mo,t.v w] m R:=by
  intro R hR;rw[aad];dsimp only[aO,aaF,aaG,aaH,aaI,aaJ,aaK,aaL,aaM,aaN,aaO,aaP,aaQ,aaR,aaS,aaT,Γ,Δ,Θ,Λ,ω];refine aw λm1 u5 O2 C3=>?_;refine aw λm2 v5 P2 Q2=>?_;have T2:Ext m m2:=⟨by omega,by grind⟩
  have g1:m2.get m.n=.cells (yc r r2 st rc mo) 38 none:=by rw[Q2 _ (by omega)];exact O2
  have g2:m2.get m1.n=.cells (t.c w) 62 none:=P2;clear O2 C3 P2 Q2;unfold ptrTo;simp only[cH,dE,dn,eW,cd,cL,bN,cC,dD,cp,cK,cG,dk,bD,ae];rw[(dP g1).1,ae,(lQ g2).2.1,ae];obtain⟨rv,m8,c8,x8,f8⟩:=iX (m:=m2) hX (hF.aG T2) (by omega) L0.one t.id;refine aH c8 ?_;obtain⟨u,wu,is,rfl,fu⟩:=f8.PF N2;have n8:=x8.n;rw[aJ,aJ];simp only[aaY,aaX,ae];refine aw λm12 a5 F1 P1=>?_;refine aD df F1 rfl rfl (Un.cM fu.sl.one) λm13 b5 G1 d3=>?_;have gu:m13.get m8.n=.cells (u.c wu) 60 none:=G1;have N0:Ext m8 m13:=⟨by omega,by grind⟩
  have z0:=x8.trans N0;have d0:=T2.trans z0;have g1:=z0.cells g1;have g2:=z0.cells g2;have fu:=fu.aG N0;have n13:=N0.n;clear F1 P1 G1 d3;have⟨tk,tid,KE,D3,w5⟩:=lQ g2;rw[s0]at fu;have T1:m.n<=min (min m.n m2.n) m8.n:=by omega
  generalize min (min m.n m2.n) m8.n=E3 at T1;obtain⟨D,hD⟩:∃D,D=jD wJ dB dg y t:=⟨_,rfl⟩
  rw[<-hD]at hR;unfold jD at hD;have F3:(cf y.us t.id).isSome=is:=by rw[fu.eq];cases is <;>rfl
  rw[tk,ae,aW,ae,ak];refine av (λk1=>?_) (λk1=>?_)
  ·rw[aa5 (aa1 k1)]at hD;rw[qS g2,ae,Gl,ae];refine yB (x:=⟨fI t.un,w⟩) hw.one (hw.aG d0) (by show t.un.shape.length < 1000000;omega) QP λm22 k0 n22 _ a22=>?_;rw[(dP (k0.cells g1)).2.2.2.2,ae,(vd (k0.cells g2)).1,ae];refine aH (ve (y:=y) hX (hK.aG (d0.trans k0)).sl (by omega) L2 _) ⟨aaV _,?_⟩;rw[aQ,ae,QZ];have e:(y.st.any λk=>decide (k.un.id=t.un.id))=kl.any λx=>decide (x.u.id=t.un.id):=by rw[<-O1];unfold zC;rw[List.any_map];rfl
   rw[e]at hD;refine hR _ _ _ _ (by omega) (d0.trans k0) ?_;cases hc:kl.any λx=>decide (x.u.id=t.un.id)
   ·rw[aa4 (by grind)]at hD;rw[hD];exact⟨_,_,rfl,rfl,a22⟩
   rw[aa5 hc]at hD;rw[hD];exact⟨_,rfl⟩
  rw[aa4 (aaZ k1)]at hD;rw[aW,ae,ak];refine av (λk2=>?_) (λk2=>?_)
  ·rw[aa5 (aa1 k2),F3]at hD
   refine bA (λvs mm lo=>∃v b,vs=[v,.bool b]/\m.n<=lo/\Ext m mm/\zU D mm (.tuple #[v,.bool b])) (λQ hQ=>?_) ?_
   ·rw[tid,ae,zp,ae];refine yB (x:=⟨lO 2 t.id,aew⟩) rfl .nil Ju (Ny (by decide)) λm22 k0 n22 _ a22=>?_;rw[ak];refine av (λc=>?_) (λc=>hQ _ _ _ ⟨_,_,rfl,by omega,d0.trans k0,by rw[aa4 (by grind)]at hD;rw[hD];exact⟨_,rfl⟩⟩);rw[(dP (k0.cells g1)).2.1,ae,(hK.aG (d0.trans k0)).sl.len ff,aA,aQ,ae];refine hQ _ _ _ ⟨_,_,rfl,by omega,d0.trans k0,?_⟩;rw[c,abG]at hD;have e:y.st.length=kl.length:=by grind
    by_cases n0:kl.length < 12
    ·rw[aa5 (by grind)]at hD;rw[hD,abb (show(kl.length:Int)< 12 by omega)];exact⟨_,_,rfl,rfl,a22⟩
    rw[aa4 (by grind)]at hD;rw[hD,abt (show¬(kl.length:Int)< 12 by omega)];exact⟨_,rfl⟩
   rintro _ mm lo ⟨v,b,rfl,h1,h2,h3⟩
   rw[aE,aE]
   grind
  rw[aa4 (aaZ k2)]at hD;rw[aW,ae,ak];refine av (λk3=>?_) (λk3=>?_)
  ·rw[aa5 (aa1 k3)]at hD;rw[(dP g1).2.2.2.2,ae,tid,ae];have u0:=hK.aG d0;refine aH (ve (y:=y) hX u0.sl (by omega) L2 _) ?_
   have e0:∀p:KW->Bool,(∀x,p x=decide (x.u.id=t.id))->(y.st.find? λk=>decide (k.un.id=t.id))=(kl.find? p).map KW.k:=λp hp=>by
    rw[<-O1];unfold zC
    rw[List.find?_map]
    congr 2
    funext x
    exact(hp x).symm
   rcases iU (λx:KW=>decide (x.u.id=t.id)) kl with⟨e1,e2⟩ |⟨i,x,e1,e2,e3,e4⟩
   ·rw[e1,aQ,ae,ak,abb (by decide),bH];have:kl.find? (λx:KW=>decide (x.u.id=t.id))=none:=ac8.2 λx hx=>by grind
    rw[e0 _ λ_=>rfl,this]at hD;exact hR _ _ _ _ (by omega) d0 (by rw[hD];exact⟨_,rfl⟩)
   rw[e0 _ λ_=>rfl,pz e2 e3 e4]at hD;have hD:D=some (fI x.u::x.ms.map jX):=hD;have J0:=aa2 e2;rw[e1,aQ,ae,ak,tg,aT,(dP g1).2.1,ae];have⟨b0,o0,bc,g0,cs,q1,q2,q3,q4,q5⟩:=u0.sl.gM ff (k:=.i64) e2;obtain⟨rfl,o1,o2⟩:cs=x.c/\one x.w=true/\one x.mv=true:=q3;have y5:=M.bk q2;rw[q1,ae,cz,ae];have q4:o0+7<=bc.length:=q4
   have lu:ah TE m13 60 (.pointer (some ⟨b0,o0+0,none⟩))=some (x.u.v x.w):=by
    rw[qg,aP (n:=6) q2 (by omega)]
    have:(bc.drop (o0+0)).take 6=x.u.c x.w:=by
     apply ab9;intro j;rw[acX];split
     ·rename_i hj
      rw[ab0,acO,q5 j (by show j < 7;omega)]
      match j,hj with
      |0,_=>rfl
      |1,_=>rfl
      |2,_=>rfl
      |3,_=>rfl
      |4,_=>rfl
      |5,_=>rfl
      |j+6,hj=>omega
     rename_i hj;exact(ab5 (by grind)).symm
    rw[this];rfl
   rw[lu,ae,Gl,ae];refine yB (x:=⟨fI x.u,x.w⟩) o1 (u0.sh x J0) (u0.ln x J0) QP λm64 G3 z5 H3 a64=>?_
   have d5:x.ms.length<=20:=by
    have hm:x.k∈y.st:=by grind
    exact(hP.FC _ hm).len
   refine Lp.intro (γ:=Nat) (λj=>x.ms.length-j) (λj vs mm lo=>∃v,vs=[v,.int .i64 j]/\j<=x.ms.length/\Ext m13 mm/\m.n<=lo/\Ap m13.n mm (⟨fI x.u,x.w⟩::(x.ms.take j).map λk=>(⟨jX k,aew⟩:AW)) v) 0 ⟨_,rfl,aa6 _,G3,by omega,.inr ⟨_,_,_,rfl,H3,a64.sl⟩⟩ ?_;rintro j vs mm lo ⟨v,rfl,hj,h0,j0,d2⟩;have nm:=h0.n;have C1:=u0.aG h0
   have lm:ah TE mm 31 (.pointer (some ⟨b0,o0+6,none⟩))=some x.mv:=by rw[lU,aL (h0.cells q2)];exact q5 6 (by show 6 < 7;decide)
   rw[aE,aE,(dP (h0.cells g1)).2.1,ae,q1,ae,dL,ae,lm,ae,(C1.mv x J0).len dQ,aA,aQ,ae,ak];refine av (λn0=>?_) (λA0=>?_)
   ·have n0:j < x.ms.length:=by grind
    obtain⟨z,hz⟩:∃z,x.ms[j]?=some z:=⟨_,aaW n0⟩
    have⟨p,p1,p2⟩:=(C1.mv x J0).vN (k:=.i64) hz;rw[ae,q1,ae,dL,ae,lm,ae,p1,ae,p2,ae,VY,ae,Fq,aA];obtain⟨g3,O0⟩:∃q,q=mm.push (.cells (AW.c ⟨jX z,aew⟩) 184 none):=⟨_,rfl⟩
    rw[<-O0];have I0:Ext mm g3:=O0 ▸ Ext.refl.push;have i3:g3.get mm.n=.cells (AW.c ⟨jX z,aew⟩) 184 none:=by rw[O0];exact M.aY
    obtain⟨v',A5,s1,s2,s3,s4,s5⟩:=(d2.aG I0).append Pj rfl (gH (x:=(⟨jX z,aew⟩:AW)) i3 ⟨rfl,rfl⟩) (by simp) (by have:=I0.n;omega) (by grind);rw[s1,aA,aS,ae,wrap64];have:=I0.n;refine⟨j+1,by omega,v',by grind,by omega,⟨by omega,λc hc=>by rw[s5 c hc,I0.get c (by omega),h0.get c hc]⟩,by omega,.inl ?_⟩;rw[abg,hz,abE];exact s2
   have B0:j=x.ms.length:=by have:¬(j:Int)< (x.ms.length:Int):=aaZ A0;omega
   subst B0;rw[abD]at d2;refine hR _ _ _ _ j0 (d0.trans h0) ?_;rw[hD];refine⟨_,_,rfl,by simp_all,d2.sl,λa ha=>?_,λa ha=>?_,λa ha=>?_⟩
   ·rcases abc.1 ha with rfl |ha;·exact C1.sh x J0
    obtain⟨k,_,rfl⟩:=abF.1 ha;exact .nil
   ·rcases abc.1 ha with rfl |ha;·exact C1.ln x J0
    obtain⟨k,_,rfl⟩:=abF.1 ha;exact Ju
   rcases abc.1 ha with rfl |ha;·exact QP
   obtain⟨k,_,rfl⟩:=abF.1 ha;exact YM
  rw[aa4 (aaZ k3)]at hD;rw[aW,ae,ak];refine av (λk4=>?_) (λk4=>?_)
  ·rw[aa5 (aa1 k4),fu.eq]at hD;have j3:=hF.aG d0;refine Lp.intro (γ:=Nat) (λj=>l.length-j) (λj vs mm lo=>∃z1 z2,vs=[z1,z2,.int .i64 j]/\j<=l.length/\Ext m13 mm/\m.n<=lo/\(is=true->((bR (l.take j)).all λv=> !wJ u v ||dB t.dA v.dA)=true)) 0 ⟨_,_,rfl,aa6 _,.refl,by omega,λ_=>rfl⟩ ?_;rintro j vs mm lo ⟨z1,z2,rfl,hj,h0,j0,q0⟩;have nm:=h0.n;have D1:=j3.aG h0;rw[aE,aE,aE,(xB (h0.cells g1)).2.1,ae,D1.sl.len dt,aA,aQ,ae,ak];refine av (λn0=>?_) (λA0=>?_)
   ·have n0:j < l.length:=by grind
    obtain⟨x,hx⟩:∃x,l[j]?=some x:=⟨_,aaW n0⟩
    have i2:=aa2 hx;have⟨q,q1,q2,ow⟩:=D1.sl.fx (k:=.i64) hx;rw[ae,q1,ae,q2,ae];refine aw λe5 I3 j2 J3=>?_;refine aD df j2 rfl rfl (Un.cM ow) λP0 K3 v2 L3=>?_;have H1:P0.get mm.n=.cells (x.u.c x.w) 60 none:=v2;have S0:Ext mm P0:=⟨by omega,λc hc=>by grind⟩
    have C0:=h0.trans S0;rw[bV (C0.cells gu),ae,bV H1,ae];refine aH (pX hX (fu.aG C0).sl ((D1.sh x i2).aG S0) fu.ln (D1.ln x i2)) ?_;rw[aJ,aJ];simp only[aaY,aaX,ae];refine aw λf5 N3 y2 O3=>?_;refine aD oS y2 (by rw[aX];exact eU _) (by rw[aX];exact eU _) (by rw[aX];exact nL _) λI1 d4 f4 g4=>?_;have d1:Ext P0 I1:=⟨by omega,λc hc=>by grind⟩
    have i0:=C0.trans d1;have h4:bR (l.take (j+1))=bR (l.take j)++ [x.u]:=by unfold bR;rw[abg,hx,abE];rfl
    refine bA (λvs m' K0=>vs=[.bool (is && (wJ u x.u && !dB t.dA x.u.dA))]/\I1=m'/\m.n<=K0) (λQ hQ=>?_) ?_
    ·rw[ak];refine av (λc=>?_) (λc=>hQ _ _ _ ⟨by grind,rfl,by omega⟩);rw[ak];refine av (λd=>?_) (λd=>hQ _ _ _ ⟨by unfold wJ;rw[d,acQ,ady],rfl,by omega⟩);rw[(lQ (i0.cells g2)).2.2.2.2,ae,cR,ae,(kb (d1.cells H1)).2.2.1,ae];refine aH (EM hX _ _) ?_;rw[bE,ae];exact hQ _ _ _ ⟨by unfold wJ;rw[c,d];rfl,rfl,by omega⟩
    rintro _ _ gh ⟨rfl,rfl,r0⟩;rw[aE,ak];refine av (λc=>?_) (λc=>?_)
    ·rw[aa3,aa3]at c;have⟨ci,ct,cs⟩:=c;rw[ci,aa5 rfl,acS,aa4]at hD;·exact hR _ _ _ _ r0 (d0.trans i0) (by rw[hD];exact⟨_,rfl⟩)
     intro q0;rw[<-s0,aby]at q0;have:=q0 x.u (abF.2 ⟨x,i2,rfl⟩);rw[ct]at this;rw[abo]at cs;rw[cs]at this;cases this
    rw[aS,ae,wrap64];refine⟨j+1,by omega,z1,z2,by grind,by omega,i0,r0,λhi=>?_⟩;rw[h4,adH,q0 hi,abG];rw[hi,abG]at c;simp only[List.all_cons,List.all_nil,adS];cases hr:wJ u x.u;·rfl
    rw[hr,abG,abj]at c;rw[c];rfl
   ·have B0:j=l.length:=by
     have:¬(j:Int)< (l.length:Int):=aaZ A0
     omega
    subst B0
    rw[abD,s0]at q0
    rw[(lQ (h0.cells g2)).2.2.2.2,ae,cR,ae]
    have l3:=h0.cells gu
    refine bY tG l3 rfl (by show 0+2+1<=6;decide) rfl λv0 j4 A2 D0=>?_
    have m3:v0.get m8.n=.cells (Un.c {u with dA:=t.dA} wu) 60 none:=A2
    have n3:m1.n≠m8.n:=by grind
    have o3:=(fu.aG h0).sl
    have E1:Sl v0 u.shape wu:=o3.bs λc cs t g hc ht=>by rw[D0 c (λe=>by subst e;rw[l3]at hc;cases hc;simp[aZ.ty,aZ.dd]at ht),hc]
    rw[(lQ ((D0 _ n3).trans (h0.cells g2))).2.1,ae,zp,ae,bV m3,ae,Gl,ae,SR,aA]
    obtain⟨J1,E0⟩:∃q,q=v0.push (.cells (AW.c ⟨lO 2 t.id,aew⟩++AW.c ⟨fI {u with dA:=t.dA},wu⟩) 184 none):=⟨_,rfl⟩
    rw[<-E0]
    have F0:Ext v0 J1:=E0 ▸ Ext.refl.push
    have B2:J1.get v0.n=.cells (AW.c ⟨lO 2 t.id,aew⟩++AW.c ⟨fI {u with dA:=t.dA},wu⟩) 184 none:=by rw[E0];exact M.aY
    have n155:=F0.n
    refine hR _ _ _ _ (by omega) ⟨by omega,λc hc=>by rw[F0.get c (by omega),D0 c (by omega),h0.get c (by omega),d0.get c hc]⟩ ?_
    cases hi:is with
    |false=>rw[hi]at hD;rw[hD];exact⟨_,rfl⟩
    |true=>
     rw[hi,aa5 rfl,acS,aa5 (q0 hi)]at hD;rw[hD];refine⟨_,_,rfl,rfl,S4 B2 rfl o3.one,λa ha=>?_,λa ha=>?_,λa ha=>?_⟩
     ·rcases abc.1 ha with rfl |ha;·exact .nil
      rw[abr.1 ha];exact E1.aG F0
     ·rcases abc.1 ha with rfl |ha;·exact Ju
      rw[abr.1 ha];exact fu.ln
     rcases abc.1 ha with rfl |ha;·exact Ny (by decide)
     rw[abr.1 ha];exact QP
  rw[aa4 (aaZ k4)]at hD;rw[aW,ae,ak];refine av (λk5=>?_) (λk5=>?_)
  ·rw[aa5 (aa1 k5)]at hD;have r3:=L0.aG d0;refine Lp.intro (γ:=Nat) (λj=>y.ms.length-j) (λj vs mm lo=>∃v,vs=[v,.int .i64 j]/\j<=y.ms.length/\Ext m13 mm/\m.n<=lo/\Ow m13.n mm (((y.ms.take j).filter (rz t)).map λx=>(⟨lO 6 x.id,aew⟩:AW)) v) 0 ⟨_,rfl,aa6 _,.refl,by omega,Ow.nil⟩ ?_;rintro j vs mm lo ⟨v,rfl,hj,h0,j0,C2⟩;have nm:=h0.n;have u3:=r3.aG h0;rw[aE,aE,(xB (h0.cells g1)).2.2,ae,u3.len dQ,aA,aQ,ae,ak];refine av (λn0=>?_) (λA0=>?_)
   ·have n0:j < y.ms.length:=by grind
    obtain⟨x,hx⟩:∃x,y.ms[j]?=some x:=⟨_,aaW n0⟩
    have⟨p,p1,p2⟩:=u3.vN (k:=.i64) hx;refine bA (λvs m' K0=>∃v',vs=[v']/\Ext m13 m'/\m.n<=K0/\Ow m13.n m' (((y.ms.take (j+1)).filter (rz t)).map λx=>(⟨lO 6 x.id,aew⟩:AW)) v') (λQ hQ=>?_) ?_
    ·rw[ae,p1,ae,p2,ae];refine aw λg5 l4 D2 m4=>?_;refine aD tI D2 rfl rfl rfl λi1 n4 E2 o4=>?_;have K1:i1.get mm.n=.cells x.c 137 none:=E2;have j1:Ext mm i1:=⟨by omega,λc hc=>by grind⟩
     have i0:=h0.trans j1;obtain⟨a0,a1,a2,a3, -⟩:=CE K1;have a4:=Tp K1;obtain⟨-,b1, -,b3, -⟩:=lQ (i0.cells g2);have L1:=C2.aG j1;refine bA (λvs m' K0=>vs=[.bool (rz t x)]/\i1=m'/\m.n<=K0) (λQ' G0=>?_) ?_
     ·rw[dq,ae,a1,ae,b1,ae,aW,ae,ak];unfold rz at G0;refine av (λc1=>?_) (λc1=>G0 _ _ _ ⟨by grind,rfl,by omega⟩);rw[eH,ae,a2,ae,b3,ae,aW,ae,ak];refine av (λc2=>?_) (λc2=>G0 _ _ _ ⟨by grind,rfl,by omega⟩);rw[jT,ae,a4,ae,ak];refine av (λc3=>?_) (λc3=>G0 _ _ _ ⟨by grind,rfl,by omega⟩);rw[jU,ae,a3,ae,aW,ae,ak];refine av (λc4=>G0 _ _ _ ⟨by grind,rfl,by omega⟩) (λc4=>?_);rw[ae,a3,ae,aW,ae,ak];refine av (λc5=>G0 _ _ _ ⟨by grind,rfl,by omega⟩) (λc5=>?_);rw[ae,a3,ae,aW,ae];exact G0 _ _ _ ⟨by grind,rfl,by omega⟩
     rintro _ _ gh ⟨rfl,rfl,r0⟩;rw[aE,ak];refine av (λc=>?_) (λc=>?_)
     ·rw[cg,ae,a0,ae,zp,ae]
      have B5:((y.ms.take j).filter (rz t)).length<=j:=by have:=acf (rz t) (y.ms.take j);rw[abP]at this;omega
      refine fP (T:=146) (x:=(⟨lO 6 x.id,aew⟩:AW)) Pj rfl L1 (by omega) (by grind) Fq (λ_=>⟨rfl,rfl⟩) λr' h5 w2 n2 k2 C5 l2=>?_;refine hQ _ _ _ ⟨r',rfl,⟨by omega,λc hc=>by rw[k2 c hc,i0.get c hc]⟩,by omega,?_⟩;rw[abg,hx,abB,abE];simp only[ab3,abQ,c,acZ,acC,acJ,ads];exact w2
     refine hQ _ _ _ ⟨v,rfl,i0,r0,?_⟩;rw[abg,hx,abB,abE];simp only[ab3,abQ,c,acC,ads,abJ];simpa using L1
    rintro _ m' K0 ⟨v',rfl,h1,h2,h3⟩;rw[aE,aS,ae,wrap64];exact⟨j+1,by omega,v',by grind,by omega,h1,h2,h3⟩
   have B0:j=y.ms.length:=by have:¬(j:Int)< (y.ms.length:Int):=aaZ A0;omega
   subst B0;rw[abD]at C2;obtain⟨-,b1, -,b3, -⟩:=lQ (h0.cells g2);rw[(dP (h0.cells g1)).1,ae,b1,ae,b3,ae];refine aH (AM hX (hF.aG (d0.trans h0)) (by omega) L0.one _ _) ?_;rw[s0];refine hR _ _ _ _ (by omega) (d0.trans h0) ?_;cases hf:yS y.us t.id t.side
   ·rw[aa4 (by grind)]at hD;rw[hD];exact⟨_,rfl⟩
   rw[aa5 hf]at hD;rw[hD];refine⟨_,_,rfl,by simp_all,C2.sl,λa ha=>?_,λa ha=>?_,λa ha=>?_⟩;·obtain⟨k,_,rfl⟩:=abF.1 ha;exact .nil
   ·obtain⟨k,_,rfl⟩:=abF.1 ha;exact Ju
   obtain⟨k,_,rfl⟩:=abF.1 ha;exact Ny (by decide)
  rw[aa4 (aaZ k5)]at hD;rw[aW,ae,ak];refine av (λk6=>?_) (λk6=>?_)
  ·rw[aa5 (aa1 k6)]at hD;rw[tid,ae,zp,ae];refine yB (x:=⟨lO 7 t.id,aew⟩) rfl .nil Ju (Ny (by decide)) λm22 k0 n22 _ a22=>?_;exact hR _ _ _ _ (by omega) (d0.trans k0) (by rw[hD];exact⟨_,_,rfl,rfl,a22⟩)
  rw[aa4 (aaZ k6)]at hD;rw[aW,ae,ak];refine av (λk7=>?_) (λk7=>?_)
  ·rw[aa5 (aa1 k7)]at hD;rw[tid,ae,zp,ae];refine yB (x:=⟨lO 6 t.id,aew⟩) rfl .nil Ju (Ny (by decide)) λm22 k0 n22 _ a22=>?_;exact hR _ _ _ _ (by omega) (d0.trans k0) (by rw[hD];exact⟨_,_,rfl,rfl,a22⟩)
  rw[aa4 (aaZ k7)]at hD;rw[aW,ae,ak];refine av (λk8=>?_) (λk8=>?_)
  ·rw[aa5 (aa1 k8)]at hD;rw[tid,ae,D3,ae,rE,ae];refine aw λi5 r4 F2 u4=>?_;refine aD oQ F2 rfl rfl rfl λr1 v4 G2 w4=>?_;have v3:r1.get m13.n=.cells (Fc.c ⟨t.id,t.side⟩) 53 none:=G2;have p0:Ext m13 r1:=⟨by omega,λc hc=>by grind⟩
   have i0:=d0.trans p0;obtain⟨-,b1, -,b3, -⟩:=lQ (p0.cells g2);have y4:y.rc.length < 1000000:=by omega
   refine bA (λvs mm lo=>∃b,vs=[aew,.bool b]/\r1=mm/\m.n<=lo/\D=if b=true then some []else none) (λQ hQ=>?_) ?_
   ·rw[(dP (p0.cells g1)).1,ae,b1,ae,b3,ae];refine aH (AM hX (hF.aG i0) (by omega) L0.one _ _) ?_;rw[s0,ak];refine av (λc=>?_) (λc=>hQ _ _ _ ⟨false,rfl,rfl,by omega,by grind⟩);rw[c,abG]at hD;rw[(dP (p0.cells g1)).2.2.1,ae,(M2.aG i0).len dZ,aA,aQ,ae,ak];refine av (λd=>hQ _ _ _ ⟨true,rfl,rfl,by omega,?_⟩) (λd=>?_)
    ·have d:=aa1 d;rw[aa5 (by grind)]at hD;exact hD
    have d:=aaZ d;rw[(dP (p0.cells g1)).2.2.2.2,ae,(oC v3).2.2,ae];refine aH (qE hX (M2.aG i0) y4 _) ?_;refine hQ _ _ _ ⟨_,rfl,rfl,by omega,?_⟩;rw[abt (show¬y.rc.length < 60 by omega),ac0]at hD;exact hD
   rintro _ _ lo ⟨b,rfl,rfl,w3,H2⟩;rw[aE,aE];refine hR _ _ _ _ w3 i0 ?_;rw[H2];cases b;·exact⟨_,rfl⟩
   exact⟨[],_,rfl,rfl,.nil⟩
  rw[aa4 (aaZ k8),fu.eq]at hD;rw[(dP g1).1,ae,KE,ae];obtain⟨D5,u1,y3,N1,f280⟩:=iX (m:=m13) hX (hF.aG d0) (by omega) L0.one t.other;refine aH y3 ?_;obtain⟨u2,w2,E5,rfl,v1⟩:=f280.PF N2;rw[s0]at v1;have n280:=N1.n;rw[aJ,aJ];simp only[aaY,aaX,ae];refine aw λj5 z4 I2 A4=>?_;refine aD df I2 rfl rfl (Un.cM v1.sl.one) λy0 B4 J2 C4=>?_;have gv:y0.get u1.n=.cells (u2.c w2) 60 none:=J2;have w1:Ext u1 y0:=⟨by omega,λc hc=>by grind⟩
  have i0:=N1.trans w1;rw[bV (i0.cells gu),ae,bV gv,ae];refine aH (pX hX (fu.aG i0).sl (v1.aG w1).sl fu.ln v1.ln) ?_;rw[aJ,aJ];simp only[aaY,aaX,ae];refine aw λl5 D4 K2 E4=>?_;refine aD oS K2 (by rw[aX];exact eU _) (by rw[aX];exact eU _) (by rw[aX];exact nL _) λy1 G4 H4 J4=>?_;have H0:Ext y0 y1:=⟨by omega,λc hc=>by grind⟩
  have A1:=i0.trans H0;have z3:=d0.trans A1;have n295:=H0.n;have B1:=A3.aG z3;obtain⟨-,b1,b2, -,b4⟩:=lQ (A1.cells g2);have m5:m.n<=min (min (min (min E3 m13.n) u1.n) y0.n) y0.n:=by omega
  refine Lp.intro (γ:=Nat) (λj=>y.mo.length-j) (λj vs mm lo=>vs=[.bool ((y.mo.take j).any λx=>decide (x.a=t.id) && decide (x.b=t.other)),.int .i64 j]/\j<=y.mo.length/\y1=mm/\m.n<=lo) 0 ⟨rfl,aa6 _,rfl,by omega⟩ ?_;rintro j vs mm lo ⟨rfl,hj,rfl,j0⟩;rw[aE,aE,(dP (A1.cells g1)).2.2.2.1,ae,B1.len nk,aA,aQ,ae,ak];refine av (λn0=>?_) (λA0=>?_)
  ·have n0:j < y.mo.length:=by grind
   obtain⟨x,hx⟩:∃x,y.mo[j]?=some x:=⟨_,aaW n0⟩
   obtain⟨b,o,e1, -,l0,l1⟩:=Hk B1 hx
   have n5:((y.mo.take (j+1)).any λx=>decide (x.a=t.id) && decide (x.b=t.other))=(((y.mo.take j).any λx=>decide (x.a=t.id) && decide (x.b=t.other)) ||(decide (x.a=t.id) && decide (x.b=t.other))):=by rw[abg,hx,List.any_append];simp
   have ej:((j+1:Nat):Int)=(j:Int)+1:=by omega
   rw[ak];refine av (λc=>?_) (λc=>?_)
   ·rw[aS,ae,wrap64];exact⟨j+1,by omega,by grind,by omega,rfl,j0⟩
   rw[ae,e1,ae,dM,ae,l0,ae,b1,ae,aW,ae,ak];refine av (λc1=>?_) (λc1=>?_)
   ·rw[ae,e1,ae,eI,ae,l1,ae,b2,ae,aW,ae,aS,ae,wrap64];exact⟨j+1,by omega,by grind,by omega,rfl,j0⟩
   rw[aS,ae,wrap64];exact⟨j+1,by omega,by grind,by omega,rfl,j0⟩
  have B0:j=y.mo.length:=by have:¬(j:Int)< (y.mo.length:Int):=aaZ A0;omega
  subst B0;rw[abD];obtain⟨A,hA⟩:∃A,A=y.mo.any λx=>decide (x.a=t.id) && decide (x.b=t.other):=⟨_,rfl⟩
  rw[<-hA]at hD⊢;have K4:=kb (A1.cells gu);have L4:=kb (H0.cells gv);refine bA (λvs mm lo=>∃b,vs=[aew,.bool b]/\y1=mm/\m.n<=lo/\D=if b=true then some []else none) (λQ hQ=>?_) ?_
  ·rw[ak];refine av (λc=>?_) (λc=>hQ _ _ _ ⟨false,rfl,rfl,j0,by grind⟩);rw[c,aa5 rfl,acS,v1.eq]at hD;rw[ak];refine av (λc2=>?_) (λc2=>hQ _ _ _ ⟨false,rfl,rfl,j0,by grind⟩);rw[c2,aa5 rfl,acS]at hD;rw[ak];unfold wJ at hD;refine av (λc3=>?_) (λc3=>hQ _ _ _ ⟨false,rfl,rfl,j0,by grind⟩);rw[c3,abG]at hD;rw[b4,ae,cR,ae,K4.2.2.1,ae];refine aH (vj hX _ _) ?_;rw[ak];refine av (λc4=>?_) (λc4=>hQ _ _ _ ⟨false,rfl,rfl,by omega,by grind⟩);rw[c4,abG]at hD;rw[b4,ae,cR,ae,L4.2.2.1,ae];refine aH (vj hX _ _) ?_;rw[ak];refine av (λc5=>?_) (λc5=>hQ _ _ _ ⟨false,rfl,rfl,by omega,by grind⟩);rw[c5,abG]at hD;rw[(dP (A1.cells g1)).2.2.2.1,ae,B1.len nk,aA,aQ,ae,ak];refine av (λc6=>hQ _ _ _ ⟨true,rfl,rfl,by omega,?_⟩) (λc6=>hQ _ _ _ ⟨A,rfl,rfl,by omega,?_⟩)
   ·have c6:=aa1 c6;rw[aa5 (by grind)]at hD;exact hD
   have c6:=aaZ c6;rw[abt (show¬y.mo.length < 20 by omega),ac0]at hD;exact hD
  rintro _ _ gh ⟨b,rfl,rfl,r0,H2⟩;rw[aE,aE];refine hR _ _ _ _ r0 z3 ?_;rw[H2];cases b;·exact⟨_,rfl⟩
  exact⟨[],_,rfl,rfl,.nil⟩
 refine H _ λv b m' lo T1 hx hs=>?_;show(bF (.tuple #[v,.bool b])=true/\m.n<=lo/\(m.n=m.n/\Ext m m/\zU _ m (.tuple #[v,.bool b])))\/((bF (.tuple #[v,.bool b])=false\/lo < m.n)/\(min m.n lo=m.n/\Ext m m'/\zU _ m' (.tuple #[v,.bool b])));cases hf:bF (.tuple #[v,.bool b]);·exact .inr ⟨.inl rfl,by omega,hx,hs⟩
 exact .inl ⟨rfl,T1,rfl,.refl,hs.flat hf m⟩
theorem Po{iL:Un->Un->Bool}{a0 H:Int->Int->Bool}{y:Yd}{t:Tk}{L:List Ac}(hP:oL y)(h:jD iL a0 H y t=some L):L.length<=40:=by
 have b0:=hP.Av.len;unfold jD at h;split at h
 ·grind
 split at h
 ·grind
 split at h
 ·obtain⟨k,hk,rfl⟩:=abl.1 h
  have:=(hP.FC k (ac2 hk)).len
  grind
 split at h
 ·have⟨u,hu,h⟩:=abV.1 h
  grind
 split at h
 ·grind
 split at h
 ·grind
 split at h
 ·grind
 split at h
 ·grind
 ·have⟨u,hu,h⟩:=abV.1 h
  have⟨v,hv,h⟩:=abV.1 h
  grind
noncomputable def jZ(iL:Un->Un->Bool)(a0 H:Int->Int->Bool)(y:Yd)(t:Tk):Option (List Un×List Mk):=if dI t=true then(jD iL a0 H y t).bind λl=>gw y.us y.ms l else none
def zT(D:Option (List Un×List Mk))(m':M)(H:aes):Prop:=match D with
 |some (vs,ns)=>∃v r r2,H=.tuple #[v,.agg #[r,r2],.bool true]/\fj vs ns m' (.agg #[r,r2])
 |none=>∃v r r2,H=.tuple #[v,.agg #[r,r2],.bool false]/\one r=true/\one r2=true
theorem zT.flat{D:Option (List Un×List Mk)}{m':M}{v t u:aes}(h:zT D m' (.tuple #[v,t,u]))(hf:bF (.tuple #[v,t,u]))(m:M):zT D m (.tuple #[v,t,u]):=by
 unfold zT at h⊢;split at h
 ·have⟨v',r,r2,e,hs⟩:=h;cases e;have H:(D.dw v && (D.dw (.agg #[r,r2]) && (true && true))):=hf;rw[aa3,aa3]at H;exact⟨v,r,r2,rfl,hs.dw H.2.1 m⟩
 exact h
set_option maxHeartbeats 1000000 in
theorem Gx(hX:cy X){y:Yd}{r r2 st rc mo:aes}{t:Tk}{w:aes}(hV:lM m y r r2 st rc mo)(hP:oL y)(hw:Sl m t.un.shape w)(q0:t.un.shape.length < 100000):
  ∃rv m',C X (.func 70) [yv r r2 st rc mo,t.v w] m m.n rv m'/\Ext m m'/\zT (jZ wJ dB dg y t) m' rv:=by
 refine Cl.FD hX (aaU func70) ?_
 have H:∀R:aet->M->Nat->Prop,(∀(v t' u:aes) (m':M) (lo:Nat),m.n<=lo->Ext m m'->zT (jZ wJ dB dg y t) m' (.tuple #[v,t',u])->R [v,t',u] m' lo)->dp TE (aO TE X) f70 [yv r r2 st rc mo,t.v w] m R:=by
  intro R hR
  rw[F70];dsimp only[δ,ε,η,θ,ι,ξ,ο,ρ,ς,υ,χ,ψ,Δ,ω]
  refine aw λm1 i1 r0 E0=>?_
  refine aw λm2 j1 s0 u0=>?_
  refine aw λm3 k1 v0 l0=>?_
  have e0:Ext m m3:=⟨by omega,by grind⟩
  have g1:m3.get m.n=.cells (yc r r2 st rc mo) 38 none:=by rw[l0 _ (by omega),u0 _ (by omega)];exact r0
  have g2:m3.get m1.n=.cells (t.c w) 62 none:=by rw[l0 _ (by omega)];exact s0
  have gz:m3.get m2.n=.cells [aew,aew] 33 none:=v0
  clear r0 E0 s0 u0 v0 l0
  unfold ptrTo
  have n0:=hV.aG e0
  have y0:=hw.aG e0
  have bad:∀{mm:M} {lo:Nat} {v:aes},mm.get m2.n=.cells [aew,aew] 33 none->m.n<=lo->(∀c,c < m.n->mm.get c=m.get c)->m.n<=mm.n->jZ wJ dB dg y t=none->
    aj (aK TE 33 []) λv20=>aR (aF TE mm 33 (.pointer (some ⟨m2.n,0,none⟩)) v20) λm21 F0=>aj (ah TE m21 33 (.pointer (some ⟨m2.n,0,none⟩))) λv23=>R [v,v23,aey] m21 (min lo F0):=by
   intro mm lo v g i0 hk hn e
   rw[qt,ae]
   refine aD dV g rfl rfl rfl λm' l1 G0 p1=>?_
   rw[(kj G0).2.2.2,ae]
   refine hR _ _ _ _ _ (by omega) ⟨by omega,by grind⟩ ?_
   rw[e]
   exact⟨v,_,_,rfl,rfl,rfl⟩
  refine bA (λvs mm lo=>vs=[.bool (!dI t)]/\m3=mm/\m.n<=lo) (λQ hQ=>?_) ?_
  ·rw[(dP g1).2.2.2.2,ae];refine aH (EH hX n0 hP) ?_;rw[bE,ae,ak];show gG false _ _;rw[aT,fL g2,ae];refine aH (DX hX y0 q0) ?_;rw[bE,ae];exact hQ _ _ _ ⟨rfl,rfl,by omega⟩
  rintro _ _ lo ⟨rfl,rfl,i0⟩
  rw[aE,ak]
  refine av (λc=>?_) (λc=>?_)
  ·rw[abo]at c;exact bad gz i0 (λc hc=>e0.get c hc) (by omega) (by unfold jZ;rw[aa4 (by grind)])
  rw[abj]at c
  have hS:jZ wJ dB dg y t=(jD wJ dB dg y t).bind λl=>gw y.us y.ms l:=by unfold jZ;rw[aa5 c]
  rw[(dP g1).2.2.2.2,ae,fL g2,ae]
  have⟨rv,H0,I0,b0,a27⟩:=KA (m:=m3) hX n0 hP y0 q0 (rj c)
  refine aH I0 ?_
  have n27:=b0.n
  unfold zU at a27
  cases hA:jD wJ dB dg y t with
  |none=>rw[hA]at a27 hS;obtain⟨v,rfl⟩:=a27;rw[aJ,aJ];simp only[aaY,aaX,ae];rw[bE,ae,ak,acL,bH];exact bad (b0.cells gz) (by omega) (λc hc=>by rw[b0.get c (by omega),e0.get c hc]) (by omega) hS
  |some L=>
   rw[hA]at a27 hS
   obtain⟨al,v,rfl,hL,z0⟩:=a27
   have J0:al.length<=40:=by have:=Po hP hA;rwa[<-hL,abK]at this
   rw[aJ,aJ]
   simp only[aaY,aaX,ae]
   rw[bE,ae,ak,aca,aT,cH,ae,(dP (b0.cells g1)).1,ae]
   obtain⟨⟨l,o0,hF⟩,K0, -⟩:=n0.aG b0
   obtain⟨L0,j0,N0,p0,d0⟩:=MC (m:=H0) hX hF (by rw[o0];exact hP.qk) K0 (by rw[o0];exact hP.Av) z0 J0
   refine aH N0 ?_
   rw[o0,hL]at d0
   have hS:jZ wJ dB dg y t=gw y.us y.ms L:=hS
   have n39:=p0.n
   have A0:=(b0.trans p0).cells gz
   have S0:∀c,c < m.n->j0.get c=m.get c:=λc hc=>by rw[p0.get c (by omega),b0.get c (by omega),e0.get c hc]
   obtain⟨q,q2,n,e,rfl,o1,o2,a0⟩:∃q q2 n e,L0=.tuple #[.agg #[q,q2],.int .i64 n,.int .i64 e]/\one q=true/\one q2=true/\(match gw y.us y.ms L with |some (vs,ns)=>e=0/\fj vs ns j0 (.agg #[q,q2]) |none=>e=170):=by
    unfold tA at d0
    cases hr:gw y.us y.ms L with
    |none=>rw[hr]at d0;obtain⟨n,rfl⟩:=d0;exact⟨_,_,n,170,rfl,rfl,rfl,rfl⟩
    |some d=>have⟨vs,ns⟩:=d;rw[hr]at d0;obtain⟨q,q2,n,rfl,hs⟩:=d0;have⟨_,_,_,e,_,h1,h2⟩:=id hs;cases e;exact⟨q,q2,n,0,rfl,h1.sl.one,h2.one,rfl,hs⟩
   rw[aJ,aJ,aJ]
   simp only[aaY,aaX,ae]
   refine aw λr1 a1 B0 b1=>?_
   refine aD dV B0 rfl rfl (by show(one q && (one q2 && true))=true;rw[o1,o2];rfl) λC0 c1 g0 d1=>?_
   have g0:C0.get j0.n=.cells [q,q2] 33 none:=g0
   rw[(kj g0).2.2.2,ae,aW,ae]
   have k0:Ext j0 C0:=⟨by omega,by grind⟩
   refine aD dV (k0.cells A0) rfl rfl (by grind) λO0 e1 h0 D0=>?_
   have h0:O0.get m2.n=.cells [q,q2] 33 none:=h0
   rw[(kj h0).2.2.2,ae]
   refine hR _ _ _ _ _ (by omega) ⟨by omega,by grind⟩ ?_
   rw[hS]
   unfold zT
   cases hr:gw y.us y.ms L with
   |none=>rw[hr]at a0;have a0:e=170:=a0;subst a0;exact⟨v,q,q2,rfl,o1,o2⟩
   |some d=>have⟨vs,ns⟩:=d;rw[hr]at a0;obtain⟨rfl,hs⟩:=a0;refine⟨v,q,q2,rfl,hs.bs λc cs t g hc ht=>?_⟩;have P0:=k0.cells hc;rw[D0 c (by grind),P0]
 refine H _ λv t' u m' lo i0 hx hs=>?_;show(bF (.tuple #[v,t',u])=true/\m.n<=lo/\(m.n=m.n/\Ext m m/\zT _ m (.tuple #[v,t',u])))\/((bF (.tuple #[v,t',u])=false\/lo < m.n)/\(min m.n lo=m.n/\Ext m m'/\zT _ m' (.tuple #[v,t',u])));cases hf:bF (.tuple #[v,t',u]);·exact .inr ⟨.inl rfl,by omega,hx,hs⟩
 exact .inl ⟨rfl,i0,rfl,.refl,hs.flat hf m⟩
section
variable {α:Type} (R:α->α->Prop) [DecidableRel R]
def DR(l:List α)(x:α):List α:=(l.filter λy=>decide (R y x))++x::(l.filter λy=>decide (R x y))
def nS(l:List α)(x:α)(add:Bool)(i:Nat)(acc:List α):Prop:=if add=true then acc=l.take i/\∀y∈l.take i,R y x else acc=DR R (l.take i) x/\∃y∈l.take i,¬R y x
variable {R}
theorem filter_none{p:α->Bool}{l:List α}(h:∀y∈l,p y=false):l.filter p=[]:=acU.2 λy H=>by grind
theorem nS.on(H:∀a b c,R a b->R b c->R a c)(a0:∀a,¬R a a){l:List α}{x n:α}{i:Nat}{acc:List α}(h:nS R l x true i acc)(hn:l[i]?=some n)(b0:R n x):nS R l x true (i+1) (acc++ [n]):=by
 unfold nS at h⊢
 rw[aa5 rfl]at h⊢
 obtain⟨rfl,h2⟩:=h
 rw[abg,hn]
 grind
theorem nS.put(H:∀a b c,R a b->R b c->R a c)(a0:∀a,¬R a a){l:List α}{x n:α}{i:Nat}{acc:List α}(h:nS R l x true i acc)(hn:l[i]?=some n)(b0:¬R n x):nS R l x false (i+1) (acc++ [x]++if R x n then [n]else []):=by
 unfold nS at h⊢
 rw[aa5 rfl]at h
 rw[aa4 (by decide)]
 obtain⟨rfl,h2⟩:=h
 rw[abg,hn]
 refine⟨?_,n,by simp,b0⟩
 unfold DR
 rw[abB,abB,acd.2 λy hy=>abb (h2 y hy),filter_none (l:=l.take i) (p:=λy=>decide (R x y)) λy hy=>abt λhc=>a0 _ (H _ _ _ hc (h2 y hy))]
 grind
theorem nS.off(e0:∀a b c,R a b->R b c->R a c){l:List α}{x n:α}{i:Nat}{acc:List α}(hs:l.Pairwise R)(h:nS R l x false i acc)(hn:l[i]?=some n):¬R n x/\nS R l x false (i+1) (acc++if R x n then [n]else []):=by
 unfold nS at h⊢;rw[aa4 (by decide)]at h⊢;obtain⟨rfl,y,hy,a0⟩:=h
 have b0:¬R n x:=by
  intro hc;have⟨j,H⟩:=abi hy;rw[acX]at H;split at H
  ·rename_i d0
   have h1:=aa0.1 H
   have h2:=aa0.1 hn
   have:=abw.1 hs j i h1.1 h2.1 d0
   grind
  cases H
 refine⟨b0,?_,y,?_,a0⟩
 ·rw[abg,hn]
  unfold DR
  grind
 ·grind
theorem nS.fin{l:List α}{x:α}{add:Bool}{acc:List α}(H:∀a,¬R a a)(a0:∀a b c,R a b->R b c->R a c)(h:nS R l x add l.length acc):(acc++if add=true then [x]else [])=DR R l x:=by
 unfold nS at h
 rw[abD]at h
 cases add with
 |false=>rw[aa4 (by decide)]at h⊢;rw[h.1,abJ]
 |true=>
  rw[aa5 rfl]at h⊢
  obtain⟨rfl,h2⟩:=h
  unfold DR
  rw[acd.2 λy hy=>abb (h2 y hy),filter_none (p:=λy=>decide (R x y)) λy hy=>abt λhc=>H _ (a0 _ _ _ hc (h2 y hy))]
theorem nS.nil{l:List α}{x:α}:nS R l x true 0 []:=by
 unfold nS
 grind
end
theorem kW(a b c:Fc):fa a b->fa b c->fa a c:=by unfold fa;omega
theorem uv(a:Fc):¬fa a a:=by unfold fa;omega
theorem BJ(a b c:Mo):lL a b->lL b c->lL a c:=by unfold lL;omega
theorem Fv(a:Mo):¬lL a a:=by unfold lL;omega
theorem BK{a b:Fc}(h:a≠b):fa a b\/fa b a:=by
 unfold fa
 have⟨H,a2⟩:=a
 have⟨b1,b2⟩:=b
 grind
theorem QV{α:Type}{f:α->Int}{l:List α}{x:α}{k:Nat}(hs:l.Pairwise λa b=>f a < f b)(hk:k<=l.length)(h1:∀y∈l.take k,f y < f x)(h2:∀y,l[k]?=some y->f x < f y):BV f l x=l.take k++x::l.drop k:=by
 have h3:∀y∈l.drop k,f x < f y:=by
  by_cases a0:k < l.length
  ·rw[abR a0];have e:=h2 _ (aaW a0);intro y H;rcases abc.1 H with rfl |H;·exact e
   ·have b0:=hs.sublist (adU k l)
    rw[abR a0,ab4]at b0
    grind
  ·grind
 unfold BV;conv=>lhs;rw[<-abW k l]
 rw[abB,abB,acd.2 λy H=>abb (h1 y H),filter_none (l:=l.take k) (p:=λy=>decide (f x < f y)) λy H=>abt (by grind),
  filter_none (l:=l.drop k) (p:=λy=>decide (f y < f x)) λy H=>abt (by grind),acd.2 λy H=>abb (h3 y H)]
 simp
structure nd(O:Nat)(m:M)(r r2:aes)(sl:List KW)(rl:List Fc)(ml:List Mo)(st rc mo:aes):Prop where
 cell:m.get O=.cells (yc r r2 st rc mo) 38 none
 st:Ow (O+1) m sl st
 rc:Ow (O+1) m rl rc
 mo:Ow (O+1) m ml mo
 lt:O < m.n
theorem nd.aG{O:Nat}{r r2:aes}{sl:List KW}{rl:List Fc}{ml:List Mo}{st rc mo:aes}{m':M}(h:nd O m r r2 sl rl ml st rc mo)(H:Ext m m'):nd O m' r r2 sl rl ml st rc mo:=
 ⟨H.cells h.cell,h.st.aG H,h.rc.aG H,h.mo.aG H,acK h.lt H.n⟩
theorem M1{x:KW}:aI TE m 34 1 [(0,x.v)]=some (.slice (some ⟨m.n,0,none⟩) 1 1,m.push (.cells x.c 113 none)):=by kernel_rfl
theorem wO{x:Fc}:aI TE m 35 1 [(0,x.v)]=some (.slice (some ⟨m.n,0,none⟩) 1 1,m.push (.cells x.c 53 none)):=by kernel_rfl
theorem Tf{x:Mo}:aI TE m 36 1 [(0,x.v)]=some (.slice (some ⟨m.n,0,none⟩) 1 1,m.push (.cells x.c 109 none)):=by kernel_rfl
section
variable {O:Nat} {r r2:aes} {sl:List KW} {rl:List Fc} {ml:List Mo} {st rc mo:aes}
theorem nd.GY(h:nd O m r r2 sl rl ml st rc mo){x:KW}(h1:one x.w/\one x.mv)(hl:sl.length < 1000000):
  ∃a m1 r' m2 m3,aI TE m 34 1 [(0,x.v)]=some (a,m1)/\az TE (M.wl m1 (M.n m1)) .append [34,34] [st,a]=some (r',m2)/\aF TE m2 34 (aeq O (0+2)) r'=some (m3,O)/\O+1<=m2.low/\
   nd O m3 r r2 (sl++ [x]) rl ml r' rc mo/\m.n<=m3.n/\(∀c,c < O->m3.get c=m.get c)/\(∀c cs t g,m.get c=.cells cs t g->t≠113->t≠38->m3.get c=.cells cs t g)/\(∀c,c < m.n->c≠O->(∀a n k,st=.slice (some a) n k->c≠a.block)->m3.get c=m.get c)/\(∀a n k,r'=.slice (some a) n k->m.n<=a.block):=by
 obtain⟨m1,b0⟩:∃q,q=m.push (.cells x.c 113 none):=⟨_,rfl⟩
 have a0:Ext m m1:=b0 ▸ Ext.refl.push;have e0:m1.get m.n=.cells x.c 113 none:=by rw[b0];exact M.aY
 have i0:=h.lt;have j0:=a0.n;obtain⟨r',m2,m3,⟨⟨_,pf⟩,pn⟩,p1,p2,p3,p4,p5,p6,p7,p8⟩:=yi (n1:=O+1) (o:=2) Cy rfl Mc rfl h.cell (by rfl) (by omega) (by omega) h.st a0 (gH (x:=x) e0 ⟨rfl,h1⟩) hl;have p2:aF TE m2 34 (aeq O (0+2)) r'=some (m3,O):=p2
 have eZ:∀c cs t g,m.get c=.cells cs t g->t≠113->t≠38->m3.get c=.cells cs t g:=λc cs t g H g0 h0=>by have k0:=M.bk H;have d0:=a0.cells H;rw[p8 c (by omega) (λe=>by subst e;rw[h.cell]at H;cases H;exact h0 rfl) λl0 g' e=>by rw[d0]at e;cases e;exact g0 rfl,d0]
 refine⟨_,m1,r',m2,m3,b0 ▸ M1,p1,p2,p3,⟨p4,p5,h.rc.bs λc cs t g H ht=>eZ c cs t g H ?_ ?_,h.mo.bs λc cs t g H ht=>eZ c cs t g H ?_ ?_,by omega⟩,by omega,λc H=>p7 c (by omega) (by omega),eZ,λc H h1 h2=>by rw[pn c (by omega) h1 h2,a0.get c H],by grind⟩ <;>
  (simp only[aZ.ty,aZ.dd,abc,abn,or_false]at ht;subst ht;decide)
theorem nd.su(h:nd O m r r2 sl rl ml st rc mo){x:Fc}(hl:rl.length < 1000000):
  ∃a m1 r' m2 m3,aI TE m 35 1 [(0,x.v)]=some (a,m1)/\az TE (M.wl m1 (M.n m1)) .append [35,35] [rc,a]=some (r',m2)/\aF TE m2 35 (aeq O (0+3)) r'=some (m3,O)/\O+1<=m2.low/\
   nd O m3 r r2 sl (rl++ [x]) ml st r' mo/\m.n<=m3.n/\(∀c,c < O->m3.get c=m.get c)/\(∀c cs t g,m.get c=.cells cs t g->t≠53->t≠38->m3.get c=.cells cs t g)/\(∀c,c < m.n->c≠O->(∀a n k,rc=.slice (some a) n k->c≠a.block)->m3.get c=m.get c)/\(∀a n k,r'=.slice (some a) n k->m.n<=a.block):=by
 obtain⟨m1,b0⟩:∃q,q=m.push (.cells x.c 53 none):=⟨_,rfl⟩
 have a0:Ext m m1:=b0 ▸ Ext.refl.push;have e0:m1.get m.n=.cells x.c 53 none:=by rw[b0];exact M.aY
 have i0:=h.lt;have j0:=a0.n;obtain⟨r',m2,m3,⟨⟨_,pf⟩,pn⟩,p1,p2,p3,p4,p5,p6,p7,p8⟩:=yi (n1:=O+1) (o:=3) uV rfl GN rfl h.cell (by rfl) (by omega) (by omega) h.rc a0 (gH (x:=x) e0 rfl) hl;have p2:aF TE m2 35 (aeq O (0+3)) r'=some (m3,O):=p2
 have eZ:∀c cs t g,m.get c=.cells cs t g->t≠53->t≠38->m3.get c=.cells cs t g:=λc cs t g H g0 h0=>by have k0:=M.bk H;have d0:=a0.cells H;rw[p8 c (by omega) (λe=>by subst e;rw[h.cell]at H;cases H;exact h0 rfl) λl0 g' e=>by rw[d0]at e;cases e;exact g0 rfl,d0]
 refine⟨_,m1,r',m2,m3,b0 ▸ wO,p1,p2,p3,⟨p4,h.st.bs λc cs t g H ht=>eZ c cs t g H ?_ ?_,p5,h.mo.bs λc cs t g H ht=>eZ c cs t g H ?_ ?_,by omega⟩,by omega,λc H=>p7 c (by omega) (by omega),eZ,λc H h1 h2=>by rw[pn c (by omega) h1 h2,a0.get c H],by grind⟩ <;>
  (simp only[aZ.ty,aZ.dd,abc,abn,or_false]at ht;subst ht;decide)
theorem nd.sw(h:nd O m r r2 sl rl ml st rc mo){x:Mo}(hl:ml.length < 1000000):
  ∃a m1 r' m2 m3,aI TE m 36 1 [(0,x.v)]=some (a,m1)/\az TE (M.wl m1 (M.n m1)) .append [36,36] [mo,a]=some (r',m2)/\aF TE m2 36 (aeq O (0+4)) r'=some (m3,O)/\O+1<=m2.low/\
   nd O m3 r r2 sl rl (ml++ [x]) st rc r'/\m.n<=m3.n/\(∀c,c < O->m3.get c=m.get c)/\(∀c cs t g,m.get c=.cells cs t g->t≠109->t≠38->m3.get c=.cells cs t g)/\(∀c,c < m.n->c≠O->(∀a n k,mo=.slice (some a) n k->c≠a.block)->m3.get c=m.get c)/\(∀a n k,r'=.slice (some a) n k->m.n<=a.block):=by
 obtain⟨m1,b0⟩:∃q,q=m.push (.cells x.c 109 none):=⟨_,rfl⟩
 have a0:Ext m m1:=b0 ▸ Ext.refl.push;have e0:m1.get m.n=.cells x.c 109 none:=by rw[b0];exact M.aY
 have i0:=h.lt;have j0:=a0.n;obtain⟨r',m2,m3,⟨⟨_,pf⟩,pn⟩,p1,p2,p3,p4,p5,p6,p7,p8⟩:=yi (n1:=O+1) (o:=4) Pg rfl Wx rfl h.cell (by rfl) (by omega) (by omega) h.mo a0 (gH (x:=x) e0 rfl) hl;have p2:aF TE m2 36 (aeq O (0+4)) r'=some (m3,O):=p2
 have eZ:∀c cs t g,m.get c=.cells cs t g->t≠109->t≠38->m3.get c=.cells cs t g:=λc cs t g H g0 h0=>by have k0:=M.bk H;have d0:=a0.cells H;rw[p8 c (by omega) (λe=>by subst e;rw[h.cell]at H;cases H;exact h0 rfl) λl0 g' e=>by rw[d0]at e;cases e;exact g0 rfl,d0]
 refine⟨_,m1,r',m2,m3,b0 ▸ Tf,p1,p2,p3,⟨p4,h.st.bs λc cs t g H ht=>eZ c cs t g H ?_ ?_,h.rc.bs λc cs t g H ht=>eZ c cs t g H ?_ ?_,p5,by omega⟩,by omega,λc H=>p7 c (by omega) (by omega),eZ,λc H h1 h2=>by rw[pn c (by omega) h1 h2,a0.get c H],by grind⟩ <;>
  (simp only[aZ.ty,aZ.dd,abc,abn,or_false]at ht;subst ht;decide)
theorem nd.Pk(h:nd O m r r2 sl rl ml st rc mo){a v':aes}{m2:M}{e0:List KW}(e:az TE (m.wl m.n) .append [34,34] [st,a]=some (v',m2))(ho:Ow (O+1) m2 e0 v')(hn:m.n<=m2.n)(k0:O+1<=m2.low)(hk:∀c,c < O+1->m2.get c=m.get c):
  ∃m3,aF TE m2 34 (aeq O (0+2)) v'=some (m3,O)/\nd O m3 r r2 e0 rl ml v' rc mo/\m.n<=m3.n/\(∀c,c < O->m3.get c=m.get c)/\(∀c cs t g,m.get c=.cells cs t g->t≠113->t≠38->m3.get c=.cells cs t g)/\(∀c,c < m.n->c≠O->(∀a n k,st=.slice (some a) n k->c≠a.block)->m3.get c=m.get c):=by
 have g2:m2.get O=.cells (yc r r2 st rc mo) 38 none:=by rw[hk O (by omega)];exact h.cell
 have d0:=rP (E:=TE) (o:=0+2) (x:=v') Mc g2 (by rw[ho.sl.cells];rfl) (by rw[ho.sl.cells];show 0+2+1<=5;decide) (by rw[ho.sl.cells];simp[ho.sl.one]);obtain⟨m3,a0⟩:∃q,q=m2.set O (.cells (yc r r2 v' rc mo) 38 none):=⟨_,rfl⟩
 have d0:aF TE m2 34 (aeq O (0+2)) v'=some (m3,O):=by rw[d0,a0,ho.sl.cells];rfl
 have l0:m3.n=m2.n:=by rw[a0];rfl
 have h0:m3.get O=.cells (yc r r2 v' rc mo) 38 none:=by rw[a0];exact M.eN (M.bk g2)
 have g0:∀c,c≠O->m3.get c=m2.get c:=λc H=>by rw[a0];exact M.dz H
 have b0:∀c,c < m.n->c≠O->(∀a n k,st=.slice (some a) n k->c≠a.block)->m3.get c=m.get c:=λc H h1 h2=>by rw[g0 c h1,eP e H h2]
 have eZ:∀c cs t g,m.get c=.cells cs t g->t≠113->t≠38->m3.get c=.cells cs t g:=λc cs t g H i0 n0=>by
  have j0:=M.bk H;rw[b0 c j0 (by grind) λad n k es e=>?_,H];have:=h.st.sl;rw[es]at this;rcases this with⟨h1,_⟩ |⟨b,o,cc,bc,g',h1,h2,_⟩;·cases h1
  cases h1;rw[e,h2]at H;cases H;exact i0 rfl
 refine⟨m3,d0,⟨h0,?_,h.rc.bs λc cs t g H ht=>eZ c cs t g H ?_ ?_,h.mo.bs λc cs t g H ht=>eZ c cs t g H ?_ ?_,?_⟩,by omega,by grind,eZ,b0⟩;·exact ho.pk rfl λc h1 _=>g0 c (by omega)
 any_goals (simp only[aZ.ty,aZ.dd,abc,abn,or_false]at ht;subst ht;decide)
 have:=h.lt;omega
end
structure jY(m0:M)(O:Nat)(m:M)(r r2:aes)(k:List Kp)(rl:List Fc)(ml:List Mo)(rc mo:aes):Prop where
 ex:∃sl st,zC sl=k/\nd O m r r2 sl rl ml st rc mo/\∀x∈sl,Sl m x.u.shape x.w/\Sl m x.ms x.mv/\x.u.shape.length < 1000000/\x.ms.length < 1000000
 x:Ext m0 m
 o:m0.n=O
section
variable {m0:M} {O:Nat} {r r2:aes} {k:List Kp} {rl:List Fc} {ml:List Mo} {rc mo:aes}
theorem jY.aG{m':M}(h:jY m0 O m r r2 k rl ml rc mo)(H:Ext m m'):jY m0 O m' r r2 k rl ml rc mo:=by have⟨⟨sl,st,h1,h2,h3⟩,h4,h5⟩:=h;exact⟨⟨sl,st,h1,h2.aG H,λx hm=>⟨(h3 x hm).1.aG H,(h3 x hm).2.1.aG H,(h3 x hm).2.2⟩⟩,h4.trans H,h5⟩
theorem jY.YK(h:jY m0 O m r r2 k rl ml rc mo):ah TE m 35 (aeq O (0+3))=some rc:=by have⟨⟨sl,st,h1,H,h3⟩,h4,h5⟩:=h;exact(dP H.cell).2.2.1
theorem jY.YL(h:jY m0 O m r r2 k rl ml rc mo):ah TE m 36 (aeq O (0+4))=some mo:=by have⟨⟨sl,st,h1,H,h3⟩,h4,h5⟩:=h;exact(dP H.cell).2.2.2.1
theorem jY.lt(h:jY m0 O m r r2 k rl ml rc mo):O < m.n:=by have⟨⟨sl,st,h1,H,h3⟩,h4,h5⟩:=h;exact H.lt
theorem Hz{m':M}{sl:List KW}(H:∀x∈sl,Sl m x.u.shape x.w/\Sl m x.ms x.mv/\x.u.shape.length < 1000000/\x.ms.length < 1000000)(hk:∀c cs t g,m.get c=.cells cs t g->(t=141\/t=137)->m'.get c=.cells cs t g):
  ∀x∈sl,Sl m' x.u.shape x.w/\Sl m' x.ms x.mv/\x.u.shape.length < 1000000/\x.ms.length < 1000000:=λx hx=>
 ⟨(H x hx).1.bs λc cs t g hc ht=>hk c cs t g hc (.inl (by simpa[aZ.ty,aZ.dd]using ht)),(H x hx).2.1.bs λc cs t g hc ht=>hk c cs t g hc (.inr (by simpa[aZ.ty,aZ.dd]using ht)),(H x hx).2.2⟩
theorem jY.su(h:jY m0 O m r r2 k rl ml rc mo){x:Fc}(hl:rl.length < 1000000):
  ∃a m1 H m2 m3,aI TE m 35 1 [(0,x.v)]=some (a,m1)/\az TE (M.wl m1 (M.n m1)) .append [35,35] [rc,a]=some (H,m2)/\aF TE m2 35 (aeq O (0+3)) H=some (m3,O)/\O+1<=m2.low/\
   jY m0 O m3 r r2 k (rl++ [x]) ml H mo/\m.n<=m3.n/\(∀c,c < m.n->c≠O->(∀a n k,rc=.slice (some a) n k->c≠a.block)->m3.get c=m.get c)/\(∀a n k,H=.slice (some a) n k->m.n<=a.block):=by have⟨⟨sl,st,h1,h2,h3⟩,h4,h5⟩:=h;have a0:=h4.n;have⟨a,m1,H,m2,m3,e1,e2,e3,e4,k1,k2,k3,k4,k5,k6⟩:=h2.su (x:=x) hl;exact⟨a,m1,H,m2,m3,e1,e2,e3,e4,⟨⟨sl,st,h1,k1,Hz h3 λc cs t g hc ht=>k4 c cs t g hc (by grind) (by grind)⟩,⟨by omega,λc hc=>by rw[k3 c (by omega),h4.get c hc]⟩,h5⟩,k2,k5,k6⟩
theorem jY.sw(h:jY m0 O m r r2 k rl ml rc mo){x:Mo}(hl:ml.length < 1000000):
  ∃a m1 H m2 m3,aI TE m 36 1 [(0,x.v)]=some (a,m1)/\az TE (M.wl m1 (M.n m1)) .append [36,36] [mo,a]=some (H,m2)/\aF TE m2 36 (aeq O (0+4)) H=some (m3,O)/\O+1<=m2.low/\
   jY m0 O m3 r r2 k rl (ml++ [x]) rc H/\m.n<=m3.n/\(∀c,c < m.n->c≠O->(∀a n k,mo=.slice (some a) n k->c≠a.block)->m3.get c=m.get c)/\(∀a n k,H=.slice (some a) n k->m.n<=a.block):=by have⟨⟨sl,st,h1,h2,h3⟩,h4,h5⟩:=h;have a0:=h4.n;have⟨a,m1,H,m2,m3,e1,e2,e3,e4,k1,k2,k3,k4,k5,k6⟩:=h2.sw (x:=x) hl;exact⟨a,m1,H,m2,m3,e1,e2,e3,e4,⟨⟨sl,st,h1,k1,Hz h3 λc cs t g hc ht=>k4 c cs t g hc (by grind) (by grind)⟩,⟨by omega,λc hc=>by rw[k3 c (by omega),h4.get c hc]⟩,h5⟩,k2,k5,k6⟩
end
end
end Go.Proofs.YtigpcbodmjjaiaaGreatDoor
