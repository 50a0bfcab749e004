/- What functions of the program .. -/
import Derived.Test.YtmdfgncoekfgdaaGreatDoorG4J
import Derived.Test.YtmdfgncoekfgdaaGreatDoorG4J
import Derived.Test.YtmdfgncoekfgdaaGreatDoorG2J
set_option maxRecDepth 100000
open Go Go.D
namespace Go.Proofs.YtmdfgncoekfgdaaGreatDoor
section
section
variable {W:Words}{x0 x1 x2 x3 x4 x5 x6 x7:aed}{m:M}{R RP:aee->M->Nat->Prop}{CP:Fn->aee->M->(M->Nat->Prop)->Prop}
theorem Y6:dm TE W Tryz.f188 [x0] m R=ς W m x0 98 λa=>W.jn (λb=>ε W 98 (φ m) 0 λc=>δ W a 3 c λc=>η W .geq 3 c (χ 0) λc=>bD c (ε W 98 (φ m) 0 λc=>δ W a 3 c λc=>η W .leq 3 c (χ 40) λc=>bD c (ε W 98 (φ m) 1 λc=>δ W a 3 c λc=>η W .geq 3 c (χ 0) λc=>bD c (ε W 98 (φ m) 1 λc=>δ W a 3 c λc=>η W .leq 3 c (χ 40) λc=>b [c] a m.n) (b [aei] a m.n)) (b [aei] a m.n)) (b [aei] a m.n)) (λa b c=>W.un a λa _=>R [a] b c):=by kernel_rfl
theorem ZC:dm TE W Tryz.f108 [x0,x1,x2] m R=ς W m x0 98 λa=>ς W a x1 98 λb=>ς W b x2 98 λc=>ε W 98 (φ a) 0 λd=>δ W c 3 d λd=>ε W 98 (φ m) 0 λf=>δ W c 3 f λf=>η W .sub 3 d f λd=>ε W 98 (φ b) 1 λf=>δ W c 3 f λf=>ε W 98 (φ m) 1 λg=>δ W c 3 g λg=>η W .sub 3 f g λf=>η W .mul 3 d f λd=>ε W 98 (φ a) 1 λa=>δ W c 3 a λa=>ε W 98 (φ m) 1 λf=>δ W c 3 f λf=>η W .sub 3 a f λa=>ε W 98 (φ b) 0 λb=>δ W c 3 b λb=>ε W 98 (φ m) 0 λf=>δ W c 3 f λf=>η W .sub 3 b f λb=>η W .mul 3 a b λa=>η W .sub 3 d a λa=>R [a] c m.n:=by kernel_rfl
theorem Zw:dm TE W Tryz.f127 [x0] m R=W.jn (λa=>κ W m .len [45] [x0] λb _=>η W .lss 3 b (χ 3) λb=>bD b (a [aeh] m m.n) (κ W m .len [45] [x0] λb _=>η W .gtr 3 b (χ 8) λb=>a [b] m m.n)) (λa b c=>W.un a λa _=>bD a (R [aei] b c) (W.Lp (λa b c d=>W.un b λb f=>W.un f λf _=>κ W c .len [45] [x0] λg _=>η W .lss 3 f g λg=>bD g (ζ W 45 x0 f λg=>δ W c 98 g λg=>ψ W 188 [g] c λc g h=>ο W .not c λc=>bD c (R [aei] g (min d h)) (η W .add 3 f (χ 1) λc=>a [b,c] g (min d h))) (W.Lp (λa b c d=>W.un b λb f=>W.un f λf _=>κ W c .len [45] [x0] λg _=>η W .lss 3 f g λg=>bD g (W.Lp (λb c d g=>W.un c λc h=>W.un h λh _=>κ W d .len [45] [x0] λi _=>η W .lss 3 h i λi=>bD i (W.jn (λa=>η W .neq 3 h f λb=>bD b (η W .add 3 f (χ 1) λb=>κ W d .len [45] [x0] λc _=>η W .rem 3 b c λb=>η W .neq 3 h b λb=>bD b (ζ W 45 x0 f λb=>δ W d 98 b λb=>ψ W 166 [x0,f] d λc f i=>(d.n<=i)/\(ζ W 45 x0 h λd=>δ W f 98 d λd=>ψ W 108 [b,c,d] f λb c d=>η W .leq 3 b (χ 0) λb=>a [b] c (min (min g i) d))) (a [aei] d g)) (a [aei] d g)) (λa d f=>W.un a λa _=>bD a (R [aei] d f) (η W .add 3 h (χ 1) λa=>b [c,a] d f))) (η W .add 3 f (χ 1) λb=>a [c,b] d g)) [b,χ 0] c d) (R [aeh] c d)) [b,χ 0] c d)) [aei,χ 0] b c)):=by kernel_rfl
theorem Zf:dm TE W Tryz.f166 [x0,x1] m R=υ W m [χ 0,χ 0] 98 λa=>η W .add 3 x1 (χ 1) λb=>κ W a .len [45] [x0] λc _=>η W .rem 3 b c λb=>ζ W 45 x0 b λb=>δ W a 98 b λb=>ι W a 98 (φ m) b λa b=>aj (ah TE a 98 (φ m)) λc=>R [c] a (min m.n b):=by kernel_rfl
theorem Ze:dm TE W Tryz.f167 [x0] m R=W.Lp (λa b c d=>W.un b λb f=>W.un f λf _=>κ W c .len [45] [x0] λg _=>η W .lss 3 f g λg=>bD g (ζ W 45 x0 f λg=>δ W c 98 g λg=>υ W c [χ 0,χ 0] 98 λh=>ι W h 98 (φ c) g λg h=>ψ W 166 [x0,f] g λg i j=>υ W i [χ 0,χ 0] 98 λk=>ι W k 98 (φ i) g λg k=>ε W 98 (φ c) 1 λl=>δ W g 3 l λl=>ε W 98 (φ i) 1 λn=>δ W g 3 n λn=>η W .sub 3 l n λl=>ε W 98 (φ i) 0 λn=>δ W g 3 n λn=>ε W 98 (φ c) 0 λo=>δ W g 3 o λo=>η W .sub 3 n o λn=>ε W 98 (φ i) 1 λo=>δ W g 3 o λo=>ε W 98 (φ c) 1 λp=>δ W g 3 p λp=>η W .sub 3 o p λo=>ε W 98 (φ c) 0 λp=>δ W g 3 p λp=>η W .mul 3 o p λo=>ε W 98 (φ i) 0 λi=>δ W g 3 i λi=>ε W 98 (φ c) 0 λp=>δ W g 3 p λp=>η W .sub 3 i p λi=>ε W 98 (φ c) 1 λc=>δ W g 3 c λc=>η W .mul 3 i c λc=>η W .sub 3 o c λc=>θ W 234 [(0,l),(1,n),(2,c)] λc=>ν W g 230 1 [(0,c)] λc g=>κ W (M.wl g g.n) .append [230,230] [b,c] λb c=>η W .add 3 f (χ 1) λf=>a [b,f] c (min (min (min (min d h) j) k) (M.low c))) (R [b] c d)) [aeg,χ 0] m m.n:=by kernel_rfl
theorem ZB:dm TE W Tryz.f111 [x0,x1] m R=W.jn (λa=>ψ W 127 [x0] m λb c d=>ο W .not b λb=>bD b (a [aeh] c (min m.n d)) (ψ W 127 [x1] c λb c f=>ο W .not b λb=>a [b] c (min (min m.n d) f))) (λa b c=>W.un a λa _=>bD a (R [aei] b c) (ψ W 167 [x0] b λa b d=>ψ W 167 [x1] b λb f g=>κ W (M.wl f f.n) .append [230,230] [a,b] λa b=>W.Lp (λb c d f=>W.un c λc g=>W.un g λg _=>κ W d .len [230] [a] λh _=>η W .lss 3 g h λh=>bD h (η W .add 3 g (χ 1) λh=>W.Lp (λc d f h=>W.un d λd i=>W.un i λi _=>κ W f .len [230] [a] λj _=>η W .lss 3 i j λj=>bD j (ζ W 230 a g λb=>ε W 234 b 1 λb=>δ W f 3 b λb=>ζ W 230 a i λj=>ε W 234 j 2 λj=>δ W f 3 j λj=>η W .mul 3 b j λb=>ζ W 230 a i λj=>ε W 234 j 1 λj=>δ W f 3 j λj=>ζ W 230 a g λk=>ε W 234 k 2 λk=>δ W f 3 k λk=>η W .mul 3 j k λj=>η W .sub 3 b j λb=>ζ W 230 a g λj=>ε W 234 j 2 λj=>δ W f 3 j λj=>ζ W 230 a i λk=>ε W 234 k 0 λk=>δ W f 3 k λk=>η W .mul 3 j k λj=>ζ W 230 a i λk=>ε W 234 k 2 λk=>δ W f 3 k λk=>ζ W 230 a g λl=>ε W 234 l 0 λl=>δ W f 3 l λl=>η W .mul 3 k l λk=>η W .sub 3 j k λj=>ζ W 230 a g λk=>ε W 234 k 0 λk=>δ W f 3 k λk=>ζ W 230 a i λl=>ε W 234 l 1 λl=>δ W f 3 l λl=>η W .mul 3 k l λk=>ζ W 230 a i λl=>ε W 234 l 0 λl=>δ W f 3 l λl=>ζ W 230 a g λg=>ε W 234 g 1 λg=>δ W f 3 g λg=>η W .mul 3 l g λg=>η W .sub 3 k g λg=>θ W 236 [(0,b),(1,j),(2,g)] λb=>υ W f [χ 0,χ 0,χ 0] 236 λg=>ι W g 236 (φ f) b λb g=>ε W 236 (φ f) 2 λj=>δ W b 3 j λj=>η W .eql 3 j (χ 0) λj=>bD j (η W .add 3 i (χ 1) λa=>c [d,a] b (min h g)) (ε W 236 (φ f) 2 λj=>δ W b 3 j λj=>η W .lss 3 j (χ 0) λj=>bD j (ε W 236 (φ f) 0 λj=>δ W b 3 j λj=>ο W .neg j λj=>ε W 236 (φ f) 1 λk=>δ W b 3 k λk=>ο W .neg k λk=>ε W 236 (φ f) 2 λl=>δ W b 3 l λl=>ο W .neg l λl=>θ W 236 [(0,j),(1,k),(2,l)] λj=>ι W b 236 (φ f) j λb j=>W.Lp (λb g h j=>W.un g λg k=>W.un k λk _=>κ W h .len [230] [a] λl _=>η W .lss 3 k l λl=>bD l (bD g (ζ W 230 a k λc=>ε W 234 c 0 λc=>δ W h 3 c λc=>ε W 236 (φ f) 0 λd=>δ W h 3 d λd=>η W .mul 3 c d λc=>ζ W 230 a k λd=>ε W 234 d 1 λd=>δ W h 3 d λd=>ε W 236 (φ f) 1 λg=>δ W h 3 g λg=>η W .mul 3 d g λd=>η W .add 3 c d λc=>ζ W 230 a k λa=>ε W 234 a 2 λa=>δ W h 3 a λa=>ε W 236 (φ f) 2 λd=>δ W h 3 d λd=>η W .mul 3 a d λa=>η W .add 3 c a λa=>η W .geq 3 a (χ 0) λa=>η W .add 3 k (χ 1) λc=>b [a,c] h j) (η W .add 3 k (χ 1) λa=>b [aei,a] h j)) (bD g (δ W h 236 (φ f) λa=>ν W h 232 1 [(0,a)] λa b=>κ W (M.wl b b.n) .append [232,232] [d,a] λa b=>η W .add 3 i (χ 1) λd=>c [a,d] b (min j (M.low b))) (η W .add 3 i (χ 1) λa=>c [d,a] h j))) [aeh,χ 0] b (min (min h g) j)) (W.Lp (λb g h j=>W.un g λg k=>W.un k λk _=>κ W h .len [230] [a] λl _=>η W .lss 3 k l λl=>bD l (bD g (ζ W 230 a k λc=>ε W 234 c 0 λc=>δ W h 3 c λc=>ε W 236 (φ f) 0 λd=>δ W h 3 d λd=>η W .mul 3 c d λc=>ζ W 230 a k λd=>ε W 234 d 1 λd=>δ W h 3 d λd=>ε W 236 (φ f) 1 λg=>δ W h 3 g λg=>η W .mul 3 d g λd=>η W .add 3 c d λc=>ζ W 230 a k λa=>ε W 234 a 2 λa=>δ W h 3 a λa=>ε W 236 (φ f) 2 λd=>δ W h 3 d λd=>η W .mul 3 a d λa=>η W .add 3 c a λa=>η W .geq 3 a (χ 0) λa=>η W .add 3 k (χ 1) λc=>b [a,c] h j) (η W .add 3 k (χ 1) λa=>b [aei,a] h j)) (bD g (δ W h 236 (φ f) λa=>ν W h 232 1 [(0,a)] λa b=>κ W (M.wl b b.n) .append [232,232] [d,a] λa b=>η W .add 3 i (χ 1) λd=>c [a,d] b (min j (M.low b))) (η W .add 3 i (χ 1) λa=>c [d,a] h j))) [aeh,χ 0] b (min h g)))) (η W .add 3 g (χ 1) λa=>b [d,a] f h)) [c,h] d f) (W.Lp (λa b d f=>W.un b λb g=>W.un g λg _=>κ W d .len [232] [c] λh _=>η W .lss 3 g h λh=>bD h (W.Lp (λb d f h=>W.un d λd i=>W.un i λi _=>η W .lss 3 i g λj=>bD j (W.Lp (λa d f h=>W.un d λd j=>W.un j λj _=>η W .lss 3 j i λk=>bD k (ζ W 232 c g λb=>δ W f 236 b λb=>υ W f [χ 0,χ 0,χ 0] 236 λg=>ι W g 236 (φ f) b λb g=>ζ W 232 c i λi=>δ W b 236 i λi=>υ W b [χ 0,χ 0,χ 0] 236 λk=>ι W k 236 (φ b) i λi k=>ζ W 232 c j λc=>δ W i 236 c λc=>υ W i [χ 0,χ 0,χ 0] 236 λl=>ι W l 236 (φ i) c λc l=>ε W 236 (φ f) 0 λn=>δ W c 3 n λn=>ε W 236 (φ b) 1 λo=>δ W c 3 o λo=>ε W 236 (φ i) 2 λp=>δ W c 3 p λp=>η W .mul 3 o p λo=>ε W 236 (φ b) 2 λp=>δ W c 3 p λp=>ε W 236 (φ i) 1 λq=>δ W c 3 q λq=>η W .mul 3 p q λp=>η W .sub 3 o p λo=>η W .mul 3 n o λn=>ε W 236 (φ f) 1 λo=>δ W c 3 o λo=>ε W 236 (φ b) 0 λp=>δ W c 3 p λp=>ε W 236 (φ i) 2 λq=>δ W c 3 q λq=>η W .mul 3 p q λp=>ε W 236 (φ b) 2 λq=>δ W c 3 q λq=>ε W 236 (φ i) 0 λr=>δ W c 3 r λr=>η W .mul 3 q r λq=>η W .sub 3 p q λp=>η W .mul 3 o p λo=>η W .sub 3 n o λn=>ε W 236 (φ f) 2 λf=>δ W c 3 f λf=>ε W 236 (φ b) 0 λo=>δ W c 3 o λo=>ε W 236 (φ i) 1 λp=>δ W c 3 p λp=>η W .mul 3 o p λo=>ε W 236 (φ b) 1 λb=>δ W c 3 b λb=>ε W 236 (φ i) 0 λi=>δ W c 3 i λi=>η W .mul 3 b i λb=>η W .sub 3 o b λb=>η W .mul 3 f b λb=>η W .add 3 n b λb=>η W .neq 3 b (χ 0) λb=>bD b (R [aeh] c (min (min (min h g) k) l)) (η W .add 3 j (χ 1) λb=>a [d,b] c (min (min (min h g) k) l))) (η W .add 3 i (χ 1) λa=>b [d,a] f h)) [d,χ 0] f h) (η W .add 3 g (χ 1) λb=>a [d,b] f h)) [b,χ 0] d f) (R [aei] d f)) [aei,χ 0] d f)) [aeg,χ 0] b (min (min (min c d) g) (M.low b)))):=by kernel_rfl
theorem Zn:dm TE W Tryz.f136 [x0,x1] m R=ς W m x0 87 λa=>ς W a x1 87 λb=>W.jn (λc=>δ W b 87 (φ m) λd=>δ W b 87 (φ a) λf=>ψ W 191 [d,f] b λb d f=>bD b (ε W 87 (φ m) 3 λb=>δ W d 45 b λb=>ε W 87 (φ a) 3 λa=>δ W d 45 a λa=>ψ W 111 [b,a] d λa b d=>c [a] b (min (min m.n f) d)) (c [aei] d (min m.n f))) (λa b c=>W.un a λa _=>R [a] b c):=by kernel_rfl
theorem Zo:dm TE W Tryz.f135 [x0] m R=ς W m x0 87 λa=>W.jn (λb=>ε W 87 (φ m) 0 λc=>δ W a 3 c λc=>η W .lss 3 c (χ 0) λc=>bD c (b [aeh] a m.n) (ε W 87 (φ m) 0 λc=>δ W a 3 c λc=>η W .gtr 3 c (χ 99) λc=>bD c (b [aeh] a m.n) (ε W 87 (φ m) 1 λc=>δ W a 3 c λc=>η W .lss 3 c (χ 1) λc=>bD c (b [aeh] a m.n) (ε W 87 (φ m) 1 λc=>δ W a 3 c λc=>η W .gtr 3 c (χ 8) λc=>bD c (b [aeh] a m.n) (ε W 87 (φ m) 2 λc=>δ W a 3 c λc=>η W .lss 3 c (χ 0) λc=>bD c (b [aeh] a m.n) (ε W 87 (φ m) 2 λc=>δ W a 3 c λc=>η W .gtr 3 c (χ 7) λc=>b [c] a m.n)))))) (λa b c=>W.un a λa _=>bD a (R [aei] b c) (W.jn (λa=>ε W 87 (φ m) 4 λd=>δ W b 3 d λd=>η W .geq 3 d (χ 0) λd=>bD d (ε W 87 (φ m) 4 λd=>δ W b 3 d λd=>ε W 87 (φ m) 5 λf=>δ W b 3 f λf=>η W .lss 3 d f λd=>bD d (ε W 87 (φ m) 5 λd=>δ W b 3 d λd=>η W .leq 3 d (χ 8) λd=>bD d (ε W 87 (φ m) 3 λd=>δ W b 45 d λd=>ψ W 127 [d] b λb d f=>a [b] d (min c f)) (a [aei] b c)) (a [aei] b c)) (a [aei] b c)) (λa b c=>W.un a λa _=>R [a] b c))):=by kernel_rfl
theorem YX:dm TE W Tryz.f191 [x0,x1] m R=ς W m x0 87 λa=>ς W a x1 87 λb=>W.jn (λc=>δ W b 87 (φ m) λd=>ψ W 135 [d] b λb d f=>bD b (δ W d 87 (φ a) λb=>ψ W 135 [b] d λb d g=>bD b (ε W 87 (φ m) 4 λb=>δ W d 3 b λb=>ε W 87 (φ a) 4 λh=>δ W d 3 h λh=>κ W d .max [3,3] [b,h] λb _=>ε W 87 (φ m) 5 λh=>δ W d 3 h λh=>ε W 87 (φ a) 5 λa=>δ W d 3 a λa=>κ W d .min [3,3] [h,a] λa _=>η W .lss 3 b a λa=>c [a] d (min (min m.n f) g)) (c [aei] d (min (min m.n f) g))) (c [aei] d (min m.n f))) (λa b c=>W.un a λa _=>R [a] b c):=by kernel_rfl
theorem Zu:dm TE W Tryz.f129 [x0,x1] m R=ς W m x0 87 λa=>ς W a x1 87 λb=>δ W b 87 (φ m) λc=>δ W b 87 (φ a) λd=>ψ W 190 [c,d] b λb c d=>ξ W b 0 λ_=>ξ W b 1 λ_=>ξ W b 2 λb=>W.jn (λf=>bD b (ε W 87 (φ m) 3 λb=>δ W c 45 b λb=>ε W 87 (φ a) 3 λa=>δ W c 45 a λa=>ψ W 102 [b,a] c λa b c=>f [a] b (min (min m.n d) c)) (f [aei] c (min m.n d))) (λa b c=>W.un a λa _=>R [a] b c):=by kernel_rfl
theorem Zx:dm TE W Tryz.f120 [x0] m R=ς W m x0 87 λa=>W.jn (λb=>ε W 87 (φ m) 0 λc=>δ W a 3 c λc=>ψ W 180 [c,χ 0,χ 99] a λa c d=>bD a (ε W 87 (φ m) 1 λa=>δ W c 3 a λa=>ψ W 180 [a,χ 1,χ 8] c λa c f=>bD a (ε W 87 (φ m) 2 λa=>δ W c 3 a λa=>ψ W 180 [a,χ 0,χ 7] c λa c g=>b [a] c (min (min (min m.n d) f) g)) (b [aei] c (min (min m.n d) f))) (b [aei] c (min m.n d))) (λa b c=>W.un a λa _=>W.jn (λd=>bD a (ε W 87 (φ m) 4 λa=>δ W b 3 a λa=>η W .leq 3 (χ 0) a λa=>bD a (ε W 87 (φ m) 4 λa=>δ W b 3 a λa=>ε W 87 (φ m) 5 λf=>δ W b 3 f λf=>η W .lss 3 a f λa=>bD a (ε W 87 (φ m) 5 λa=>δ W b 3 a λa=>η W .leq 3 a (χ 8) λa=>bD a (ε W 87 (φ m) 3 λa=>δ W b 45 a λa=>ψ W 157 [a] b λa b f=>d [a] b (min c f)) (d [aei] b c)) (d [aei] b c)) (d [aei] b c)) (d [aei] b c)) (λa b c=>W.un a λa _=>R [a] b c)):=by kernel_rfl
theorem YY:dm TE W Tryz.f190 [x0,x1] m R=ς W m x0 87 λa=>ς W a x1 87 λb=>ε W 87 (φ m) 4 λc=>δ W b 3 c λc=>ε W 87 (φ a) 4 λd=>δ W b 3 d λd=>κ W b .max [3,3] [c,d] λc _=>ε W 87 (φ m) 5 λd=>δ W b 3 d λd=>ε W 87 (φ a) 5 λf=>δ W b 3 f λf=>κ W b .min [3,3] [d,f] λd _=>W.jn (λf=>η W .lss 3 c d λg=>bD g (δ W b 87 (φ m) λg=>ψ W 120 [g] b λb g h=>bD b (δ W g 87 (φ a) λa=>ψ W 120 [a] g λa b g=>f [c,d,a] b (min (min m.n h) g)) (f [c,d,aei] g (min m.n h))) (f [c,d,aei] b m.n)) (λa b c=>W.un a λa d=>W.un d λd f=>W.un f λf _=>R [a,d,f] b c):=by kernel_rfl
theorem Y8:dm TE W Tryz.f180 [x0,x1,x2] m R=W.jn (λa=>η W .leq 3 x1 x0 λb=>bD b (η W .leq 3 x0 x2 λb=>a [b] m m.n) (a [aei] m m.n)) (λa b c=>W.un a λa _=>R [a] b c):=by kernel_rfl
theorem YZ:dm TE W Tryz.f189 [x0,x1] m R=ε W 31 x1 0 λa=>δ W m 29 a λa=>κ W m .len [29] [a] λb _=>W.Lp (λc d f g=>W.un d λd _=>η W .lss 3 d b λb=>bD b (ζ W 29 a d λa=>δ W f 87 a λa=>υ W f [χ 0,χ 0,χ 0,aeg,χ 0,χ 0] 87 λb=>ι W b 87 (φ f) a λa b=>ε W 31 x1 0 λh=>δ W a 29 h λh=>η W .add 3 d (χ 1) λi=>W.aj (slice? TE a 29 h (some i) none none) λh=>κ W a .len [29] [h] λi _=>W.Lp (λa b g j=>W.un b λb _=>η W .lss 3 b i λi=>bD i (ζ W 29 h b λc=>δ W g 87 c λc=>υ W g [χ 0,χ 0,χ 0,aeg,χ 0,χ 0] 87 λd=>ι W d 87 (φ g) c λc d=>δ W c 87 (φ f) λf=>δ W c 87 (φ g) λg=>jN x0 λh i k=>W.bt h (i.toList++([f,g]++k.toList)) c λc f g=>ο W .not c λc=>bD c (R [] f (min (min j d) g)) (η W .add 3 b (χ 1) λb=>a [b] f (min (min j d) g))) (η W .add 3 d (χ 1) λa=>c [a] g j)) [χ 0] a (min g b)) (R [] f g)) [χ 0] m m.n:=by kernel_rfl
theorem F59:dm TE W Tryz.f59 [x0] m R=ς W m x0 31 λa=>υ W a [aei] 4 λb=>ε W 31 (φ m) 0 λc=>δ W b 29 c λc=>κ W b .len [29] [c] λc _=>η W .gtr 3 c (χ 12) λc=>bD c (ι W b 4 (φ a) aei λb c=>aj (ah TE b 4 (φ a)) λa=>R [a] b (min m.n c)) (ε W 31 (φ m) 0 λc=>δ W b 29 c λc=>κ W b .len [29] [c] λd _=>W.Lp (λb f g h=>W.un f λf _=>η W .lss 3 f d λd=>bD d (ζ W 29 c f λc=>δ W g 87 c λc=>υ W g [χ 0,χ 0,χ 0,aeg,χ 0,χ 0] 87 λd=>ι W d 87 (φ g) c λc d=>W.jn (λa=>δ W c 87 (φ g) λb=>ψ W 120 [b] c λb c i=>ο W .not b λb=>bD b (a [aeh] c (min (min h d) i)) (η W .gtr 3 f (χ 0) λb=>bD b (ε W 87 (φ g) 0 λb=>δ W c 3 b λb=>ε W 31 (φ m) 0 λg=>δ W c 29 g λg=>η W .sub 3 f (χ 1) λf=>ζ W 29 g f λf=>ε W 87 f 0 λf=>δ W c 3 f λf=>η W .leq 3 b f λb=>a [b] c (min (min h d) i)) (a [aei] c (min (min h d) i)))) (λc d g=>W.un c λc _=>bD c (ι W d 4 (φ a) aei λb c=>aj (ah TE b 4 (φ a)) λa=>R [a] b (min g c)) (η W .add 3 f (χ 1) λa=>b [a] d g))) (δ W g 31 (φ m) λb=>ψ W 128 [b] g λb c d=>jN b λb f g=>W.RF b f.toList g.toList c (min h d) (λb d f=>W.un b λb g=>W.un g λg h=>W.II h (υ W d [χ 0,χ 0,χ 0,aeg,χ 0,χ 0] 87 λh=>ι W h 87 (φ d) b λb h=>υ W b [χ 0,χ 0,χ 0,aeg,χ 0,χ 0] 87 λi=>ι W i 87 (φ b) g λg i=>W.QY c.n d g λg=>δ W g 87 (φ d) λj=>δ W g 87 (φ b) λb=>ψ W 129 [j,b] g λb j k=>bD b (ι W j 4 (φ a) aei λa b=>f g .ret a (min (min (min (min (min d.n h) i) c.n) k) b)) (f g .normal j (min (min (min (min d.n h) i) c.n) k)))) (λb c=>ι W b 4 (φ a) aeh λb d=>aj (ah TE b 4 (φ a)) λa=>R [a] b (min c d)) [(.ret,λb c=>aj (ah TE b 4 (φ a)) λa=>R [a] b c)])) [χ 0] b m.n):=by kernel_rfl
theorem Zv:dm TE W Tryz.f128 [x0] m R=ς W m x0 31 λa=>R [.func (.func 189) #[] #[φ m]] a m.n:=by kernel_rfl
theorem F61:dm TE W Tryz.f61 [x0] m R=ς W m x0 31 λa=>ε W 31 (φ m) 0 λb=>δ W a 29 b λb=>κ W a .len [29] [b] λb _=>η W .gtr 3 b (χ 12) λb=>bD b (R [aei] a m.n) (W.Lp (λa b c d=>W.un b λb f=>W.un f λf _=>ε W 31 (φ m) 0 λg=>δ W c 29 g λg=>κ W c .len [29] [g] λg _=>η W .lss 3 f g λg=>bD g (W.jn (λa=>ε W 31 (φ m) 0 λb=>δ W c 29 b λb=>ζ W 29 b f λb=>δ W c 87 b λb=>ψ W 135 [b] c λb c g=>ο W .not b λb=>bD b (a [aeh] c (min d g)) (η W .gtr 3 f (χ 0) λb=>bD b (ε W 31 (φ m) 0 λb=>δ W c 29 b λb=>ζ W 29 b f λb=>ε W 87 b 0 λb=>δ W c 3 b λb=>ε W 31 (φ m) 0 λh=>δ W c 29 h λh=>η W .sub 3 f (χ 1) λf=>ζ W 29 h f λf=>ε W 87 f 0 λf=>δ W c 3 f λf=>η W .leq 3 b f λb=>a [b] c (min d g)) (a [aei] c (min d g)))) (λc d g=>W.un c λc _=>bD c (R [aei] d g) (W.Lp (λb c d g=>W.un c λc h=>W.un h λh _=>η W .lss 3 h f λi=>bD i (ε W 31 (φ m) 0 λa=>δ W d 29 a λa=>ζ W 29 a f λa=>δ W d 87 a λa=>ε W 31 (φ m) 0 λf=>δ W d 29 f λf=>ζ W 29 f h λf=>δ W d 87 f λf=>ψ W 136 [a,f] d λa d f=>bD a (R [aei] d (min g f)) (η W .add 3 h (χ 1) λa=>b [c,a] d (min g f))) (η W .add 3 f (χ 1) λb=>a [c,b] d g)) [b,χ 0] d g))) (R [aeh] c d)) [aei,χ 0] a m.n):=by kernel_rfl
theorem F57:dm TE W Tryz.f57 [x0] m R=ς W m x0 87 λa=>υ W a [χ 0,χ 0,χ 0,aeg,χ 0,χ 0] 87 λb=>ν W b 45 0 [] λb c=>ε W 87 (φ m) 3 λd=>δ W c 45 d λd=>κ W (M.wl c c.n) .append [45,45] [b,d] λb c=>ε W 87 (φ m) 3 λd=>ι W c 45 d b λb d=>δ W b 87 (φ m) λf=>ι W b 87 (φ a) f λb f=>aj (ah TE b 87 (φ a)) λa=>R [a] b (min (min (min m.n (M.low c)) d) f):=by kernel_rfl
theorem F54:dm TE W Tryz.f54 [x0,x1] m R=η W .lss 3 x0 (χ 0) λa=>bD a (η W .add 3 x0 (χ 1) λa=>ο W .neg a λa=>η W .rem 3 a x1 λa=>R [a] m m.n) (η W .rem 3 x0 x1 λa=>R [a] m m.n):=by kernel_rfl
theorem F53:dm TE W Tryz.f53 [x0,x1] m R=ς W m x1 85 λa=>υ W a [χ 0,χ 0,χ 0,aeg,χ 0,χ 0] 87 λb=>ζ W 85 (φ m) (χ 0) λc=>δ W b 3 c λc=>ψ W 54 [c,χ 9] b λb c d=>η W .mul 3 (χ 4) b λb=>ζ W 85 (φ m) (χ 1) λf=>δ W c 3 f λf=>ψ W 54 [f,χ 6] c λc f g=>η W .mul 3 (χ 4) c λc=>ζ W 85 (φ m) (χ 2) λh=>δ W f 3 h λh=>ψ W 54 [h,χ 4] f λf h i=>η W .add 3 (χ 1) f λf=>η W .mul 3 (χ 4) f λf=>η W .add 3 b f λf=>κ W h .min [3,3] [f,χ 40] λf _=>ζ W 85 (φ m) (χ 3) λj=>δ W h 3 j λj=>ψ W 54 [j,χ 2] h λh j k=>η W .add 3 (χ 1) h λh=>η W .mul 3 (χ 4) h λh=>η W .add 3 c h λh=>θ W 98 [(0,b),(1,c)] λl=>θ W 98 [(0,f),(1,c)] λc=>θ W 98 [(0,f),(1,h)] λn=>θ W 98 [(0,b),(1,h)] λh=>ν W j 45 4 [(0,l),(1,c),(2,n),(3,h)] λc h=>ζ W 85 (φ m) (χ 4) λj=>δ W h 3 j λj=>ψ W 54 [j,χ 8] h λh j l=>η W .eql 3 h (χ 4) λn=>bD n (η W .sub 3 f (χ 1) λf=>ζ W 45 c (χ 2) λh=>ε W 98 h 0 λh=>ι W j 3 h f λf h=>η W .add 3 b (χ 1) λb=>ζ W 45 c (χ 3) λj=>ε W 98 j 0 λj=>ι W f 3 j b λb f=>ζ W 85 (φ m) (χ 5) λj=>δ W b 3 j λj=>ψ W 54 [j,χ 4] b λb j n=>η W .eql 3 b (χ 3) λb=>bD b (ζ W 85 (φ m) (χ 5) λb=>δ W j 3 b λb=>η W .quo 3 b (χ 4) λb=>ψ W 54 [b,χ 4] j λb j o=>η W .add 3 b (χ 1) λp=>ζ W 85 (φ m) (χ 5) λq=>δ W j 3 q λq=>η W .quo 3 q (χ 16) λq=>ψ W 54 [q,χ 4] j λj q r=>η W .add 3 p j λj=>ψ W 54 [x0,χ 100] q λp s t=>(q.n<=t)/\(ζ W 85 (φ m) (χ 5) λq=>δ W s 3 q λq=>η W .quo 3 q (χ 64) λq=>ψ W 54 [q,χ 8] s λq u v=>(s.n<=v)/\(η W .add 3 (χ 1) q λq=>ζ W 85 (φ m) (χ 5) λs=>δ W u 3 s λs=>η W .quo 3 s (χ 512) λs=>ψ W 54 [s,χ 8] u λs u w=>θ W 87 [(0,p),(1,q),(2,s),(3,c),(4,b),(5,j)] λb=>ι W u 87 (φ a) b λb c=>aj (ah TE b 87 (φ a)) λa=>R [a] b (min (min (min (min (min (min (min (min (min (min (min (min (min (min m.n d) g) i) k) l) h) f) n) o) r) t) v) w) c)))) (ψ W 54 [x0,χ 100] j λb o p=>(j.n<=p)/\(ζ W 85 (φ m) (χ 5) λj=>δ W o 3 j λj=>η W .quo 3 j (χ 64) λj=>ψ W 54 [j,χ 8] o λj q r=>(o.n<=r)/\(η W .add 3 (χ 1) j λj=>ζ W 85 (φ m) (χ 5) λo=>δ W q 3 o λo=>η W .quo 3 o (χ 512) λo=>ψ W 54 [o,χ 8] q λo q s=>θ W 87 [(0,b),(1,j),(2,o),(3,c),(4,(χ 0)),(5,(χ 4))] λb=>ι W q 87 (φ a) b λb c=>aj (ah TE b 87 (φ a)) λa=>R [a] b (min (min (min (min (min (min (min (min (min (min (min (min m.n d) g) i) k) l) h) f) n) p) r) s) c))))) (η W .eql 3 h (χ 5) λn=>bD n (η W .add 3 b (χ 1) λb=>ζ W 45 c (χ 0) λh=>ε W 98 h 0 λh=>ι W j 3 h b λb h=>η W .sub 3 f (χ 1) λf=>ζ W 45 c (χ 1) λj=>ε W 98 j 0 λj=>ι W b 3 j f λb f=>ζ W 85 (φ m) (χ 5) λj=>δ W b 3 j λj=>ψ W 54 [j,χ 4] b λb j n=>η W .eql 3 b (χ 3) λb=>bD b (ζ W 85 (φ m) (χ 5) λb=>δ W j 3 b λb=>η W .quo 3 b (χ 4) λb=>ψ W 54 [b,χ 4] j λb j o=>η W .add 3 b (χ 1) λp=>ζ W 85 (φ m) (χ 5) λq=>δ W j 3 q λq=>η W .quo 3 q (χ 16) λq=>ψ W 54 [q,χ 4] j λj q r=>η W .add 3 p j λj=>ψ W 54 [x0,χ 100] q λp s t=>(q.n<=t)/\(ζ W 85 (φ m) (χ 5) λq=>δ W s 3 q λq=>η W .quo 3 q (χ 64) λq=>ψ W 54 [q,χ 8] s λq u v=>(s.n<=v)/\(η W .add 3 (χ 1) q λq=>ζ W 85 (φ m) (χ 5) λs=>δ W u 3 s λs=>η W .quo 3 s (χ 512) λs=>ψ W 54 [s,χ 8] u λs u w=>θ W 87 [(0,p),(1,q),(2,s),(3,c),(4,b),(5,j)] λb=>ι W u 87 (φ a) b λb c=>aj (ah TE b 87 (φ a)) λa=>R [a] b (min (min (min (min (min (min (min (min (min (min (min (min (min (min m.n d) g) i) k) l) h) f) n) o) r) t) v) w) c)))) (ψ W 54 [x0,χ 100] j λb o p=>(j.n<=p)/\(ζ W 85 (φ m) (χ 5) λj=>δ W o 3 j λj=>η W .quo 3 j (χ 64) λj=>ψ W 54 [j,χ 8] o λj q r=>(o.n<=r)/\(η W .add 3 (χ 1) j λj=>ζ W 85 (φ m) (χ 5) λo=>δ W q 3 o λo=>η W .quo 3 o (χ 512) λo=>ψ W 54 [o,χ 8] q λo q s=>θ W 87 [(0,b),(1,j),(2,o),(3,c),(4,(χ 0)),(5,(χ 4))] λb=>ι W q 87 (φ a) b λb c=>aj (ah TE b 87 (φ a)) λa=>R [a] b (min (min (min (min (min (min (min (min (min (min (min (min m.n d) g) i) k) l) h) f) n) p) r) s) c))))) (η W .eql 3 h (χ 6) λb=>bD b (ζ W 45 c (χ 0) λb=>δ W j 98 b λb=>ζ W 45 c (χ 1) λf=>δ W j 98 f λf=>ζ W 45 c (χ 2) λc=>δ W j 98 c λc=>ν W j 45 3 [(0,b),(1,f),(2,c)] λb c=>ζ W 85 (φ m) (χ 5) λf=>δ W c 3 f λf=>ψ W 54 [f,χ 4] c λc f h=>η W .eql 3 c (χ 3) λc=>bD c (ζ W 85 (φ m) (χ 5) λc=>δ W f 3 c λc=>η W .quo 3 c (χ 4) λc=>ψ W 54 [c,χ 4] f λc f j=>η W .add 3 c (χ 1) λn=>ζ W 85 (φ m) (χ 5) λo=>δ W f 3 o λo=>η W .quo 3 o (χ 16) λo=>ψ W 54 [o,χ 4] f λf o p=>η W .add 3 n f λf=>ψ W 54 [x0,χ 100] o λn q r=>(o.n<=r)/\(ζ W 85 (φ m) (χ 5) λo=>δ W q 3 o λo=>η W .quo 3 o (χ 64) λo=>ψ W 54 [o,χ 8] q λo s t=>(q.n<=t)/\(η W .add 3 (χ 1) o λo=>ζ W 85 (φ m) (χ 5) λq=>δ W s 3 q λq=>η W .quo 3 q (χ 512) λq=>ψ W 54 [q,χ 8] s λq s u=>θ W 87 [(0,n),(1,o),(2,q),(3,b),(4,c),(5,f)] λb=>ι W s 87 (φ a) b λb c=>aj (ah TE b 87 (φ a)) λa=>R [a] b (min (min (min (min (min (min (min (min (min (min (min (min m.n d) g) i) k) l) h) j) p) r) t) u) c)))) (ψ W 54 [x0,χ 100] f λc j n=>(f.n<=n)/\(ζ W 85 (φ m) (χ 5) λf=>δ W j 3 f λf=>η W .quo 3 f (χ 64) λf=>ψ W 54 [f,χ 8] j λf o p=>(j.n<=p)/\(η W .add 3 (χ 1) f λf=>ζ W 85 (φ m) (χ 5) λj=>δ W o 3 j λj=>η W .quo 3 j (χ 512) λj=>ψ W 54 [j,χ 8] o λj o q=>θ W 87 [(0,c),(1,f),(2,j),(3,b),(4,(χ 0)),(5,(χ 4))] λb=>ι W o 87 (φ a) b λb c=>aj (ah TE b 87 (φ a)) λa=>R [a] b (min (min (min (min (min (min (min (min (min (min m.n d) g) i) k) l) h) n) p) q) c))))) (η W .eql 3 h (χ 7) λb=>bD b (ζ W 45 c (χ 0) λb=>δ W j 98 b λb=>ζ W 45 c (χ 2) λf=>δ W j 98 f λf=>ζ W 45 c (χ 3) λc=>δ W j 98 c λc=>ν W j 45 3 [(0,b),(1,f),(2,c)] λb c=>ζ W 85 (φ m) (χ 5) λf=>δ W c 3 f λf=>ψ W 54 [f,χ 4] c λc f h=>η W .eql 3 c (χ 3) λc=>bD c (ζ W 85 (φ m) (χ 5) λc=>δ W f 3 c λc=>η W .quo 3 c (χ 4) λc=>ψ W 54 [c,χ 4] f λc f j=>η W .add 3 c (χ 1) λn=>ζ W 85 (φ m) (χ 5) λo=>δ W f 3 o λo=>η W .quo 3 o (χ 16) λo=>ψ W 54 [o,χ 4] f λf o p=>η W .add 3 n f λf=>ψ W 54 [x0,χ 100] o λn q r=>(o.n<=r)/\(ζ W 85 (φ m) (χ 5) λo=>δ W q 3 o λo=>η W .quo 3 o (χ 64) λo=>ψ W 54 [o,χ 8] q λo s t=>(q.n<=t)/\(η W .add 3 (χ 1) o λo=>ζ W 85 (φ m) (χ 5) λq=>δ W s 3 q λq=>η W .quo 3 q (χ 512) λq=>ψ W 54 [q,χ 8] s λq s u=>θ W 87 [(0,n),(1,o),(2,q),(3,b),(4,c),(5,f)] λb=>ι W s 87 (φ a) b λb c=>aj (ah TE b 87 (φ a)) λa=>R [a] b (min (min (min (min (min (min (min (min (min (min (min (min m.n d) g) i) k) l) h) j) p) r) t) u) c)))) (ψ W 54 [x0,χ 100] f λc j n=>(f.n<=n)/\(ζ W 85 (φ m) (χ 5) λf=>δ W j 3 f λf=>η W .quo 3 f (χ 64) λf=>ψ W 54 [f,χ 8] j λf o p=>(j.n<=p)/\(η W .add 3 (χ 1) f λf=>ζ W 85 (φ m) (χ 5) λj=>δ W o 3 j λj=>η W .quo 3 j (χ 512) λj=>ψ W 54 [j,χ 8] o λj o q=>θ W 87 [(0,c),(1,f),(2,j),(3,b),(4,(χ 0)),(5,(χ 4))] λb=>ι W o 87 (φ a) b λb c=>aj (ah TE b 87 (φ a)) λa=>R [a] b (min (min (min (min (min (min (min (min (min (min m.n d) g) i) k) l) h) n) p) q) c))))) (ζ W 85 (φ m) (χ 5) λb=>δ W j 3 b λb=>ψ W 54 [b,χ 4] j λb f h=>η W .eql 3 b (χ 3) λb=>bD b (ζ W 85 (φ m) (χ 5) λb=>δ W f 3 b λb=>η W .quo 3 b (χ 4) λb=>ψ W 54 [b,χ 4] f λb f j=>η W .add 3 b (χ 1) λn=>ζ W 85 (φ m) (χ 5) λo=>δ W f 3 o λo=>η W .quo 3 o (χ 16) λo=>ψ W 54 [o,χ 4] f λf o p=>η W .add 3 n f λf=>ψ W 54 [x0,χ 100] o λn q r=>(o.n<=r)/\(ζ W 85 (φ m) (χ 5) λo=>δ W q 3 o λo=>η W .quo 3 o (χ 64) λo=>ψ W 54 [o,χ 8] q λo s t=>(q.n<=t)/\(η W .add 3 (χ 1) o λo=>ζ W 85 (φ m) (χ 5) λq=>δ W s 3 q λq=>η W .quo 3 q (χ 512) λq=>ψ W 54 [q,χ 8] s λq s u=>θ W 87 [(0,n),(1,o),(2,q),(3,c),(4,b),(5,f)] λb=>ι W s 87 (φ a) b λb c=>aj (ah TE b 87 (φ a)) λa=>R [a] b (min (min (min (min (min (min (min (min (min (min (min (min m.n d) g) i) k) l) h) j) p) r) t) u) c)))) (ψ W 54 [x0,χ 100] f λb j n=>(f.n<=n)/\(ζ W 85 (φ m) (χ 5) λf=>δ W j 3 f λf=>η W .quo 3 f (χ 64) λf=>ψ W 54 [f,χ 8] j λf o p=>(j.n<=p)/\(η W .add 3 (χ 1) f λf=>ζ W 85 (φ m) (χ 5) λj=>δ W o 3 j λj=>η W .quo 3 j (χ 512) λj=>ψ W 54 [j,χ 8] o λj o q=>θ W 87 [(0,b),(1,f),(2,j),(3,c),(4,(χ 0)),(5,(χ 4))] λb=>ι W o 87 (φ a) b λb c=>aj (ah TE b 87 (φ a)) λa=>R [a] b (min (min (min (min (min (min (min (min (min (min m.n d) g) i) k) l) h) n) p) q) c)))))))):=by kernel_rfl
theorem F52:dm TE W Tryz.f52 [x0,x1] m R=ς W m x0 31 λa=>ς W a x1 87 λb=>υ W b [aeg] 31 λc=>δ W c 31 (φ m) λd=>ψ W 61 [d] c λc d f=>ο W .not c λc=>bD c (θ W 31 [] λa=>ι W d 31 (φ b) a λa c=>aj (ah TE a 31 (φ b)) λb=>R [b,χ 120] a (min (min m.n f) c)) (υ W d [aeg] 31 λc=>W.Lp (λc f g h=>W.un f λf i=>W.un i λi _=>ε W 31 (φ m) 0 λj=>δ W g 29 j λj=>κ W g .len [29] [j] λj _=>η W .lss 3 i j λj=>bD j (W.jn (λb=>ο W .not f λc=>bD c (ε W 31 (φ m) 0 λc=>δ W g 29 c λc=>ζ W 29 c i λc=>ε W 87 c 0 λc=>δ W g 3 c λc=>ε W 87 (φ a) 0 λa=>δ W g 3 a λa=>η W .gtr 3 c a λa=>b [a] g h) (b [aei] g h)) (λb g h=>W.un b λb _=>bD b (ε W 31 (φ d) 0 λb=>δ W g 29 b λb=>δ W g 87 (φ a) λa=>ψ W 57 [a] g λa f j=>(g.n<=j)/\(ν W f 29 1 [(0,a)] λa f=>κ W (M.wl f f.n) .append [29,29] [b,a] λa b=>ε W 31 (φ d) 0 λf=>ι W b 29 f a λa f=>ε W 31 (φ d) 0 λg=>δ W a 29 g λg=>ε W 31 (φ m) 0 λk=>δ W a 29 k λk=>ζ W 29 k i λk=>δ W a 87 k λk=>ψ W 57 [k] a λk l n=>(a.n<=n)/\(ν W l 29 1 [(0,k)] λa k=>κ W (M.wl k k.n) .append [29,29] [g,a] λa g=>ε W 31 (φ d) 0 λd=>ι W g 29 d a λa d=>η W .add 3 i (χ 1) λi=>c [aeh,i] a (min (min (min (min (min (min h j) (M.low b)) f) n) (M.low g)) d)))) (ε W 31 (φ d) 0 λa=>δ W g 29 a λa=>ε W 31 (φ m) 0 λb=>δ W g 29 b λb=>ζ W 29 b i λb=>δ W g 87 b λb=>ψ W 57 [b] g λb j k=>(g.n<=k)/\(ν W j 29 1 [(0,b)] λb g=>κ W (M.wl g g.n) .append [29,29] [a,b] λa b=>ε W 31 (φ d) 0 λd=>ι W b 29 d a λa d=>η W .add 3 i (χ 1) λg=>c [f,g] a (min (min (min h k) (M.low b)) d))))) (ο W .not f λc=>bD c (ε W 31 (φ d) 0 λc=>δ W g 29 c λc=>δ W g 87 (φ a) λa=>ψ W 57 [a] g λa f i=>(g.n<=i)/\(ν W f 29 1 [(0,a)] λa f=>κ W (M.wl f f.n) .append [29,29] [c,a] λa c=>ε W 31 (φ d) 0 λf=>ι W c 29 f a λa f=>δ W a 31 (φ d) λg=>ψ W 61 [g] a λa g j=>ο W .not a λa=>bD a (θ W 31 [] λa=>ι W g 31 (φ b) a λa d=>aj (ah TE a 31 (φ b)) λb=>R [b,χ 120] a (min (min (min (min (min h i) (M.low c)) f) j) d)) (δ W g 31 (φ d) λa=>ι W g 31 (φ b) a λa d=>aj (ah TE a 31 (φ b)) λb=>R [b,χ 0] a (min (min (min (min (min h i) (M.low c)) f) j) d)))) (δ W g 31 (φ d) λa=>ψ W 61 [a] g λa c f=>ο W .not a λa=>bD a (θ W 31 [] λa=>ι W c 31 (φ b) a λa c=>aj (ah TE a 31 (φ b)) λb=>R [b,χ 120] a (min (min h f) c)) (δ W c 31 (φ d) λa=>ι W c 31 (φ b) a λa c=>aj (ah TE a 31 (φ b)) λb=>R [b,χ 0] a (min (min h f) c))))) [aei,χ 0] c (min m.n f)):=by kernel_rfl
theorem F9:dm TE W Tryz.f9 [x0] m R=υ W m [aeg] 31 λa=>υ W a [aeg] 31 λb=>W.Lp (λb c d f=>W.un c λc _=>W.jn (λa=>κ W d .len [22] [x0] λb _=>η W .lss 3 c b λb=>bD b (η W .lss 3 c (χ 12) λb=>a [b] d f) (a [aei] d f)) (λd f g=>W.un d λd _=>bD d (δ W f 31 (φ a) λd=>η W .mul 3 (χ 3) c λh=>ζ W 22 x0 c λi=>ζ W 85 i (χ 5) λi=>δ W f 3 i λi=>ψ W 54 [i,χ 3] f λi j k=>(f.n<=k)/\(η W .add 3 h i λf=>ζ W 22 x0 c λh=>δ W j 85 h λh=>ψ W 53 [f,h] j λf h i=>(j.n<=i)/\(ψ W 52 [d,f] h λd f j=>(h.n<=j)/\(ξ W d 0 λh=>ξ W d 1 λd=>υ W f [aeg] 31 λl=>ι W l 31 (φ f) h λh l=>η W .eql 35 d (χ 0) λd=>bD d (δ W h 31 (φ f) λd=>ι W h 31 (φ a) d λa d=>η W .add 3 c (χ 1) λc=>b [c] a (min (min (min (min (min g k) i) j) l) d)) (η W .add 3 c (χ 1) λa=>b [a] h (min (min (min (min g k) i) j) l)))))) (δ W f 31 (φ a) λa=>ι W f 31 (φ m) a λa b=>aj (ah TE a 31 (φ m)) λc=>R [c] a (min g b)))) [χ 0] b m.n:=by kernel_rfl
theorem Zl:dm TE W Tryz.f154 [x0,x1] m R=ς W m x0 87 λa=>ε W 87 (φ m) 0 λb=>δ W a 3 b λb=>ψ W 186 [b,x1] a λa b c=>R [a] b (min m.n c):=by kernel_rfl
theorem Zm:dm TE W Tryz.f153 [x0,x1,x2] m R=κ W m .len [29] [x0] λa _=>W.Lp (λb c d f=>W.un c λc g=>W.un g λg _=>η W .lss 3 c g λh=>bD h (η W .add 3 c g λa=>W.aj (IN TE d 3 224 a) λa=>η W .shr 224 a (.int .u64 1) λa=>W.aj (IN TE d 224 3 a) λa=>ζ W 29 x0 a λh=>δ W d 87 h λh=>jN x2 λi j k=>W.bt i (j.toList++([h,x1]++k.toList)) d λd h i=>η W .lss 3 d (χ 0) λd=>bD d (η W .add 3 a (χ 1) λa=>b [a,g] h (min f i)) (b [c,a] h (min f i))) (W.jn (λb=>η W .lss 3 c a λa=>bD a (ζ W 29 x0 c λa=>δ W d 87 a λa=>jN x2 λg h i=>W.bt g (h.toList++([a,x1]++i.toList)) d λa d g=>η W .eql 3 a (χ 0) λa=>b [c,a] d (min f g)) (b [c,aei] d f)) (λa b c=>W.un a λa d=>W.un d λd _=>R [a,d] b c))) [χ 0,a] m m.n:=by kernel_rfl
theorem F11:dm TE W Tryz.f11 [x0,x1] m R=ς W m x0 31 λa=>υ W a [χ 0,χ 0,aeg] 27 λb=>δ W b 31 (φ m) λc=>ψ W 59 [c] b λb c d=>ο W .not b λb=>bD b (θ W 27 [] λb=>ι W c 27 (φ a) b λb c=>aj (ah TE b 27 (φ a)) λa=>R [a,χ 410] b (min (min m.n d) c)) (δ W c 31 (φ m) λb=>ψ W 60 [b,x1] c λb c f=>ι W c 27 (φ a) b λb c=>aj (ah TE b 27 (φ a)) λa=>R [a,χ 0] b (min (min (min m.n d) f) c)):=by kernel_rfl
theorem F98:dm TE W Tryz.f98 [x0,x1] m R=ς W m x0 31 λa=>υ W a [χ 0,χ 0,χ 0,aeg,χ 0,χ 0] 87 λb=>δ W b 31 (φ m) λc=>ψ W 59 [c] b λb c d=>ο W .not b λb=>bD b (θ W 87 [] λb=>ι W c 87 (φ a) b λb c=>aj (ah TE b 87 (φ a)) λa=>R [a,aei] b (min (min m.n d) c)) (ε W 31 (φ m) 0 λb=>δ W c 29 b λb=>ψ W 153 [b,x1,.func (.func 154) #[] #[]] c λb c f=>ξ W b 0 λg=>ξ W b 1 λb=>ο W .not b λb=>bD b (θ W 87 [] λb=>ι W c 87 (φ a) b λb c=>aj (ah TE b 87 (φ a)) λa=>R [a,aei] b (min (min (min m.n d) f) c)) (ε W 31 (φ m) 0 λb=>δ W c 29 b λb=>ζ W 29 b g λb=>δ W c 87 b λb=>υ W c [χ 0,χ 0,χ 0,aeg,χ 0,χ 0] 87 λg=>ι W g 87 (φ c) b λb g=>ε W 87 (φ c) 3 λh=>δ W b 45 h λh=>ψ W 155 [h] b λb h i=>ε W 87 (φ c) 3 λj=>ι W h 45 j b λb h=>δ W b 87 (φ c) λc=>ι W b 87 (φ a) c λb c=>aj (ah TE b 87 (φ a)) λa=>R [a,aeh] b (min (min (min (min (min (min m.n d) f) g) i) h) c))):=by kernel_rfl
end
end
section
section
variable {W:Words}{x0 x1 x2 x3 x4 x5 x6 x7:aed}{m:M}{R RP:aee->M->Nat->Prop}{CP:Fn->aee->M->(M->Nat->Prop)->Prop}
theorem ZD:dm TE W Tryz.f102 [x0,x1] m R=ψ W 160 [x0,x1] m λa b c=>ξ W a 0 λ_=>ξ W a 1 λ_=>ξ W a 2 λa=>W.jn (λd=>ψ W 157 [x0] b λb f g=>bD b (ψ W 157 [x1] f λb f h=>bD b (ο W .not a λa=>d [a] f (min (min (min m.n c) g) h)) (d [aei] f (min (min (min m.n c) g) h))) (d [aei] f (min (min m.n c) g))) (λa b c=>W.un a λa _=>R [a] b c):=by kernel_rfl
theorem Zg:dm TE W Tryz.f160 [x0,x1] m R=W.jn (λa=>ψ W 157 [x0] m λb c d=>ο W .not b λb=>bD b (a [aeh] c (min m.n d)) (ψ W 157 [x1] c λb c f=>ο W .not b λb=>a [b] c (min (min m.n d) f))) (λa b c=>W.un a λa _=>bD a (R [χ 0,χ 0,aei] b c) (ψ W 214 [x0,x1] b λa b d=>η W .geq 3 a (χ 0) λf=>bD f (R [χ 0,a,aeh] b (min c d)) (ψ W 214 [x1,x0] b λa b f=>η W .geq 3 a (χ 0) λg=>bD g (R [χ 1,a,aeh] b (min (min c d) f)) (R [χ 0,χ 0,aei] b (min (min c d) f))))):=by kernel_rfl
theorem YS:dm TE W Tryz.f214 [x0,x1] m R=ς W m x1 45 λa=>υ W a [χ 0] 3 λb=>υ W b [χ 0] 3 λc=>ι W c 3 (φ b) (χ 0) λc d=>ψ W 158 [x0] c λc f g=>jN c λc h i=>W.RF c h.toList i.toList f (min (min m.n d) g) (λc d g=>W.un c λc h=>W.un h λh i=>W.II i (υ W d [χ 0,χ 0] 98 λi=>ι W i 98 (φ d) c λc i=>υ W c [χ 0,χ 0] 98 λj=>ι W j 98 (φ c) h λh j=>W.QY f.n d h λh=>δ W h 45 (φ m) λk=>ψ W 211 [k,.func (.func 302) #[] #[φ d,φ c]] h λc k l=>ο W .not c λc=>bD c (δ W k 3 (φ b) λb=>ι W k 3 (φ a) b λa b=>g h .ret a (min (min (min (min (min d.n i) j) f.n) l) b)) (δ W k 3 (φ b) λa=>η W .add 3 a (χ 1) λa=>ι W k 3 (φ b) a λa b=>g h .normal a (min (min (min (min (min d.n i) j) f.n) l) b)))) (λb c=>ι W b 3 (φ a) (χ (-1)) λb d=>aj (ah TE b 3 (φ a)) λa=>R [a] b (min c d)) [(.ret,λb c=>aj (ah TE b 3 (φ a)) λa=>R [a] b c)]:=by kernel_rfl
theorem Yk:dm TE W Tryz.f302 [x0,x1,x2] m R=ς W m x0 98 λa=>δ W a 98 x1 λb=>δ W a 98 x2 λc=>δ W a 98 (φ m) λd=>ψ W 159 [b,c,d] a λa b c=>η W .gtr 3 a (χ 0) λa=>R [a] b (min m.n c):=by kernel_rfl
end
end
end Go.Proofs.YtmdfgncoekfgdaaGreatDoor
namespace Go.sd
structure V where
 x:Int
 y:Int
 w:Int
def V.dot(f p:V):Int:=f.x*p.x+f.y*p.y+f.w*p.w
def kE(p q r:V):Int:=p.x*(q.y*r.w-q.w*r.y)-p.y*(q.x*r.w-q.w*r.x)+p.w*(q.x*r.y-q.y*r.x)
theorem UF{p q r s:V}(hp:0 < p.w):∃a b c d:Int,(a≠0\/b≠0\/c≠0\/d≠0)/\a*p.x+b*q.x+c*r.x+d*s.x=0/\a*p.y+b*q.y+c*r.y+d*s.y=0/\a*p.w+b*q.w+c*r.w+d*s.w=0:=by
 by_cases F:kE q r s=0/\kE p r s=0/\kE p q s=0/\kE p q r=0
 ·have H:=F.2.2.2;unfold kE at H;by_cases h1:q.x*r.w-r.x*q.w=0/\r.x*p.w-p.x*r.w=0/\p.x*q.w-q.x*p.w=0
  ·by_cases h2:q.y*r.w-r.y*q.w=0/\r.y*p.w-p.y*r.w=0/\p.y*q.w-q.y*p.w=0;·exact⟨q.w, -p.w,0,0,.inr (.inl (by omega)),by grind,by grind,by grind⟩
   exact⟨q.y*r.w-r.y*q.w,r.y*p.w-p.y*r.w,p.y*q.w-q.y*p.w,0,by grind,by grind,by grind,by grind⟩
  exact⟨q.x*r.w-r.x*q.w,r.x*p.w-p.x*r.w,p.x*q.w-q.x*p.w,0,by grind,by grind,by grind,by grind⟩
 exact⟨kE q r s,-kE p r s,kE p q s,-kE p q r,by grind,by unfold kE;grind,by unfold kE;grind,by unfold kE;grind⟩
theorem tU{A B C D u v w z:Int}(H:0<=A)(hB:0<=B)(hC:0<=C)(hD:0<=D)(hs:0 < A\/0 < B\/0 < C\/0 < D)(hu:A≠0->0 < u)(hv:B≠0->0 < v)(hw:C≠0->0 < w)(hz:D≠0->0 < z):0 < A*u+B*v+C*w+D*z:=by
 have k:∀{a b:Int},0<=a->(a≠0->0 < b)->0<=a*b/\(0 < a->0 < a*b):=λ{a b} h1 F=>by
  by_cases h:a=0;·subst h;simp
  exact⟨ac0 (acB (by omega) (F h)),λh'=>acB h' (F h)⟩
 have k1:=k H hu;have k2:=k hB hv;have k3:=k hC hw;have k4:=k hD hz;omega
theorem Ro{f0 f1 f2 f3 p0 F p2 p3:V}{R:List V}(w0:0 < p0.w)(w1:0 < F.w)(w2:0 < p2.w)(w3:0 < p3.w)
  (H:∀f,f=f1\/f=f2\/f=f3\/f∈R->0 < f.dot p0) (h1:∀f,f=f0\/f=f2\/f=f3\/f∈R->0 < f.dot F)
  (h2:∀f,f=f0\/f=f1\/f=f3\/f∈R->0 < f.dot p2) (h3:∀f,f=f0\/f=f1\/f=f2\/f∈R->0 < f.dot p3):
  ∃q:V,0 < q.w/\∀f,f=f0\/f=f1\/f=f2\/f=f3\/f∈R->0 < f.dot q:=by
 obtain⟨a,b,c,d,hn,hx,hy,hw⟩:=UF (q:=F) (r:=p2) (s:=p3) w0
 have a0:0 < a\/0 < b\/0 < c\/0 < d:=aaO λhc=>by have:=tU (A:= -a) (B:= -b) (C:= -c) (D:= -d) (by omega) (by omega) (by omega) (by omega) (by omega) (λ_=>w0) (λ_=>w1) (λ_=>w2) (λ_=>w3);simp only[ad9]at this;omega
 have b0:0 < -a\/0 < -b\/0 < -c\/0 < -d:=aaO λhc=>by have:=tU (A:=a) (B:=b) (C:=c) (D:=d) (by omega) (by omega) (by omega) (by omega) (by omega) (λ_=>w0) (λ_=>w1) (λ_=>w2) (λ_=>w3);omega
 obtain⟨A,hA⟩:∃A,A=max a 0:=⟨_,rfl⟩
 obtain⟨B,hB⟩:∃A,A=max b 0:=⟨_,rfl⟩
 obtain⟨C,hC⟩:∃A,A=max c 0:=⟨_,rfl⟩
 obtain⟨D,hD⟩:∃A,A=max d 0:=⟨_,rfl⟩
 have e1:∀f:V,f.dot ⟨A*p0.x+B*F.x+C*p2.x+D*p3.x,A*p0.y+B*F.y+C*p2.y+D*p3.y,A*p0.w+B*F.w+C*p2.w+D*p3.w⟩=A*f.dot p0+B*f.dot F+C*f.dot p2+D*f.dot p3:=λf=>by unfold V.dot;grind
 have e2:∀f:V,A*f.dot p0+B*f.dot F+C*f.dot p2+D*f.dot p3=(A-a)*f.dot p0+(B-b)*f.dot F+(C-c)*f.dot p2+(D-d)*f.dot p3:=λf=>by
  have:a*f.dot p0+b*f.dot F+c*f.dot p2+d*f.dot p3=f.x*(a*p0.x+b*F.x+c*p2.x+d*p3.x)+f.y*(a*p0.y+b*F.y+c*p2.y+d*p3.y)+f.w*(a*p0.w+b*F.w+c*p2.w+d*p3.w):=by unfold V.dot;grind
  rw[hx,hy,hw]at this;simp only[aea];omega
 refine⟨⟨A*p0.x+B*F.x+C*p2.x+D*p3.x,A*p0.y+B*F.y+C*p2.y+D*p3.y,A*p0.w+B*F.w+C*p2.w+D*p3.w⟩,?_,λf hf=>?_⟩
 rotate_left
 ·rw[e1 f];rcases hf with rfl |rfl |rfl |rfl |hf
  ·rcases adB 0 a with ha |ha
   ·rw[e2];exact tU (by omega) (by omega) (by omega) (by omega) (by omega) (λh=>absurd h (by omega)) (λ_=>h1 _ (by simp)) (λ_=>h2 _ (by simp)) (λ_=>h3 _ (by simp))
   exact tU (by omega) (by omega) (by omega) (by omega) (by omega) (λh=>absurd h (by omega)) (λ_=>h1 _ (by simp)) (λ_=>h2 _ (by simp)) (λ_=>h3 _ (by simp))
  ·rcases adB 0 b with ha |ha
   ·rw[e2];exact tU (by omega) (by omega) (by omega) (by omega) (by omega) (λ_=>H _ (by simp)) (λh=>absurd h (by omega)) (λ_=>h2 _ (by simp)) (λ_=>h3 _ (by simp))
   exact tU (by omega) (by omega) (by omega) (by omega) (by omega) (λ_=>H _ (by simp)) (λh=>absurd h (by omega)) (λ_=>h2 _ (by simp)) (λ_=>h3 _ (by simp))
  ·rcases adB 0 c with ha |ha
   ·rw[e2];exact tU (by omega) (by omega) (by omega) (by omega) (by omega) (λ_=>H _ (by simp)) (λ_=>h1 _ (by simp)) (λh=>absurd h (by omega)) (λ_=>h3 _ (by simp))
   exact tU (by omega) (by omega) (by omega) (by omega) (by omega) (λ_=>H _ (by simp)) (λ_=>h1 _ (by simp)) (λh=>absurd h (by omega)) (λ_=>h3 _ (by simp))
  ·rcases adB 0 d with ha |ha
   ·rw[e2];exact tU (by omega) (by omega) (by omega) (by omega) (by omega) (λ_=>H _ (by simp)) (λ_=>h1 _ (by simp)) (λ_=>h2 _ (by simp)) (λh=>absurd h (by omega))
   exact tU (by omega) (by omega) (by omega) (by omega) (by omega) (λ_=>H _ (by simp)) (λ_=>h1 _ (by simp)) (λ_=>h2 _ (by simp)) (λh=>absurd h (by omega))
  exact tU (by omega) (by omega) (by omega) (by omega) (by omega) (λ_=>H _ (by simp[hf])) (λ_=>h1 _ (by simp[hf])) (λ_=>h2 _ (by simp[hf])) (λ_=>h3 _ (by simp[hf]))
 ·exact tU (by omega) (by omega) (by omega) (by omega) (by omega) (λ_=>w0) (λ_=>w1) (λ_=>w2) (λ_=>w3)
theorem Cf:∀(n:Nat) (F:List V),F.length<=n->(∀f∈F,∀g∈F,∀h∈F,∃p:V,0 < p.w/\0 < f.dot p/\0 < g.dot p/\0 < h.dot p)->∃p:V,0 < p.w/\∀f∈F,0 < f.dot p
 |_,[],_,_=>⟨⟨0,0,1⟩,by decide,by simp⟩
 |_,[f],_,h=>by
  obtain⟨p,hp,h1,_,_⟩:=h f (by simp) f (by simp) f (by simp)
  exact⟨p,hp,by simpa using h1⟩
 |_,[f,g],_,h=>by
  obtain⟨p,hp,h1,h2,_⟩:=h f (by simp) g (by simp) g (by simp)
  exact⟨p,hp,by simpa using⟨h1,h2⟩⟩
 |_,[f,g,k],_,h=>by
  obtain⟨p,hp,h1,h2,h3⟩:=h f (by simp) g (by simp) k (by simp)
  exact⟨p,hp,by simpa using⟨h1,h2,h3⟩⟩
 |0,_::_::_::_::_,hl,_=>by simp at hl
 |n+1,f0::f1::f2::f3::R,hl,h=>by
  have hl:R.length+3<=n:=by simp only[aaJ]at hl;omega
  obtain⟨p0,w0,k0⟩:=Cf n (f1::f2::f3::R) (by simp only[aaJ];omega) λf H g hg k hk=>h f (.tail _ H) g (.tail _ hg) k (.tail _ hk)
  have s1:∀f,f∈f0::f2::f3::R->f∈f0::f1::f2::f3::R:=λf H=>by simp only[aaS]at H⊢;rcases H with H |H |H |H <;>simp[H]
  have s2:∀f,f∈f0::f1::f3::R->f∈f0::f1::f2::f3::R:=λf H=>by simp only[aaS]at H⊢;rcases H with H |H |H |H <;>simp[H]
  have s3:∀f,f∈f0::f1::f2::R->f∈f0::f1::f2::f3::R:=λf H=>by simp only[aaS]at H⊢;rcases H with H |H |H |H <;>simp[H]
  obtain⟨p1,w1,k1⟩:=Cf n (f0::f2::f3::R) (by simp only[aaJ];omega) λf H g hg k hk=>h f (s1 f H) g (s1 g hg) k (s1 k hk)
  obtain⟨p2,w2,k2⟩:=Cf n (f0::f1::f3::R) (by simp only[aaJ];omega) λf H g hg k hk=>h f (s2 f H) g (s2 g hg) k (s2 k hk)
  obtain⟨p3,w3,k3⟩:=Cf n (f0::f1::f2::R) (by simp only[aaJ];omega) λf H g hg k hk=>h f (s3 f H) g (s3 g hg) k (s3 k hk)
  obtain⟨q,wq,kq⟩:=Ro (f0:=f0) (f1:=f1) (f2:=f2) (f3:=f3) (R:=R) w0 w1 w2 w3 (λf H=>k0 f (by simpa using H)) (λf H=>k1 f (by simpa using H)) (λf H=>k2 f (by simpa using H)) (λf H=>k3 f (by simpa using H))
  exact⟨q,wq,λf H=>kq f (by simpa using H)⟩
def V.go(p:V)(D N:Int)(d:V):V:=⟨D*p.x+N*d.x,D*p.y+N*d.y,D*p.w+N*d.w⟩
theorem nh(f p d:V)(D N:Int):f.dot (p.go D N d)=D*f.dot p+N*f.dot d:=by unfold V.dot V.go;grind
theorem ratio(p d:V):∀(L:List V),(∀f∈L,0<=f.dot p)->(∃f∈L,f.dot d < 0)->∃i∈L,i.dot d < 0/\∀j∈L,j.dot d < 0->i.dot p*(-(j.dot d))<=j.dot p*(-(i.dot d))
 |[],_,h=>by obtain⟨f,hf,_⟩:=h;cases hf
 |f::L,hp,h=>by
  by_cases hL:∃g∈L,g.dot d < 0
  ·obtain⟨i,hi,h1,h2⟩:=ratio p d L (λg hg=>hp g (.tail _ hg)) hL
   by_cases hf:f.dot d < 0
   ·by_cases hc:i.dot p*(-(f.dot d))<=f.dot p*(-(i.dot d))
    ·refine⟨i,.tail _ hi,h1,λj F H=>?_⟩
     rcases aaS.1 F with rfl |F
     ·exact hc
     ·exact h2 j F H
    ·refine⟨f,.head _,hf,λj F H=>?_⟩
     rcases aaS.1 F with rfl |F
     ·exact aci _
     ·have h2:=h2 j F H
      have hc:f.dot p*(-(i.dot d))<=i.dot p*(-(f.dot d)):=by omega
      generalize f.dot p=fp at*
      generalize i.dot p=ip at*
      generalize j.dot p=jp at*
      generalize f.dot d=fd at*
      generalize i.dot d=id at*
      generalize j.dot d=jd at*
      have a1:(fp*(-id))*(-jd)<=(ip*(-fd))*(-jd):=adi hc (by omega)
      have a2:(ip*(-jd))*(-fd)<=(jp*(-id))*(-fd):=adi h2 (by omega)
      have a3:(fp*(-jd))*(-id)<=(jp*(-fd))*(-id):=by
       have b1:(fp*(-jd))*(-id)=(fp*(-id))*(-jd):=by grind
       have b2:(ip*(-fd))*(-jd)=(ip*(-jd))*(-fd):=by grind
       have b3:(jp*(-fd))*(-id)=(jp*(-id))*(-fd):=by grind
       omega
      exact Int.le_of_mul_le_mul_right a3 (by omega)
   ·refine⟨i,.tail _ hi,h1,λj F H=>?_⟩
    rcases aaS.1 F with rfl |F
    ·exact absurd H hf
    ·exact h2 j F H
  ·obtain⟨g,hg,H⟩:=h
   rcases aaS.1 hg with rfl |hg
   ·refine⟨g,.head _,H,λj F a0=>?_⟩
    rcases aaS.1 F with rfl |F
    ·exact aci _
    ·exact absurd ⟨j,F,a0⟩ hL
   ·exact absurd ⟨g,hg,H⟩ hL
theorem step{L:List V}{p d:V}(hw:0 < p.w)(hd:d.w=0)(F:∀f∈L,0<=f.dot p)(hb:∃f∈L,f.dot d < 0):
  ∃i∈L,i.dot d < 0/\∃D N:Int,0 < D/\0<=N/\0 < (p.go D N d).w/\(∀f∈L,0<=f.dot (p.go D N d))/\i.dot (p.go D N d)=0:=by
 obtain⟨i,hi,h1,h2⟩:=ratio p d L F hb;refine⟨i,hi,h1, -(i.dot d),i.dot p,by omega,F i hi,?_,λf hf=>?_,?_⟩
 ·show 0 < -(i.dot d)*p.w+i.dot p*d.w;rw[hd,ad5,Int.add_zero];exact acB (by omega) hw
 ·rw[nh];by_cases H:f.dot d < 0
  ·have:=h2 f hf H;have e1: -(i.dot d)*f.dot p=f.dot p*(-(i.dot d)):=Int.mul_comm _ _;have e2:i.dot p* -(f.dot d)= -(i.dot p*f.dot d):=adI _ _;omega
  have a1:0<= -(i.dot d)*f.dot p:=abA (by omega) (F f hf);have a2:0<=i.dot p*f.dot d:=abA (F i hi) (by omega);omega
 rw[nh,ad9,Int.mul_comm (i.dot p)];omega
theorem sq_nonneg(a:Int):0<=a*a:=by
 rcases Int.le_total 0 a with h |h;·exact abA h h
 exact Int.mul_nonneg_of_nonpos_of_nonpos h h
theorem wM{L:List V}(hb:∀d:V,d.w=0->d.x≠0\/d.y≠0->∃f∈L,f.dot d < 0){p:V}(hw:0 < p.w)(hp:∀f∈L,0<=f.dot p)(g:V)(hg:0 < g.dot p):
  ∃i∈L,∃k∈L,∃v:V,0 < v.w/\(∀f∈L,0<=f.dot v)/\i.dot v=0/\k.dot v=0/\i.x*k.y-k.x*i.y≠0/\0 < g.dot v:=by
 obtain⟨d,H,a0,b0⟩:∃d:V,d.w=0/\(d.x≠0\/d.y≠0)/\0<=g.dot d:=by
  by_cases h:g.x=0/\g.y=0;·exact⟨⟨1,0,0⟩,rfl,.inl (by decide),by simp[V.dot,h.1]⟩
  refine⟨⟨g.x,g.y,0⟩,rfl,by show g.x≠0\/g.y≠0;omega,?_⟩;have:=sq_nonneg g.x;have:=sq_nonneg g.y;show 0<=g.x*g.x+g.y*g.y+g.w*0;omega
 obtain⟨i,hi,hid,D,N,hD,hN,w1,p1,z1⟩:=step hw H hp (hb d H a0)
 have g1:0 < g.dot (p.go D N d):=by rw[nh];have:=acB hD hg;have:=abA hN b0;omega
 generalize p.go D N d=q at*
 have i0:i.x≠0\/i.y≠0:=aaO λhc=>by
  have e1:i.x=0:=by omega
  have e2:i.y=0:=by omega
  simp[V.dot,e1,e2,H]at hid
 obtain⟨e,he,d0,e0,F⟩:∃e:V,e.w=0/\(e.x≠0\/e.y≠0)/\0<=g.dot e/\(e=⟨i.y, -i.x,0⟩\/e=⟨-i.y,i.x,0⟩):=by
  rcases Int.le_total 0 (g.x*i.y-g.y*i.x)with h |h
  ·refine⟨⟨i.y, -i.x,0⟩,rfl,by show i.y≠0\/ -i.x≠0;omega,?_,.inl rfl⟩;show 0<=g.x*i.y+g.y*(-i.x)+g.w*0;rw[adI];omega
  refine⟨⟨-i.y,i.x,0⟩,rfl,by show -i.y≠0\/i.x≠0;omega,?_,.inr rfl⟩;show 0<=g.x*(-i.y)+g.y*i.x+g.w*0;rw[adI];omega
 obtain⟨k,hk,j0,D',N',g0,h0,w2,p2,z2⟩:=step w1 he p1 (hb e he d0);refine⟨i,hi,k,hk,q.go D' N' e,w2,p2,?_,z2,?_,?_⟩
 ·rw[nh,z1];rcases F with rfl |rfl <;>(unfold V.dot;grind)
 ·intro hc;rcases F with rfl |rfl
  ·have:k.dot ⟨i.y, -i.x,0⟩= -(i.x*k.y-k.x*i.y):=by unfold V.dot;grind
   omega
  have:k.dot ⟨-i.y,i.x,0⟩=i.x*k.y-k.x*i.y:=by unfold V.dot;grind
  omega
 rw[nh];have:=acB g0 g1;have:=abA h0 e0;omega
def meet(f g:V):V:=⟨f.y*g.w-g.y*f.w,f.w*g.x-g.w*f.x,f.x*g.y-g.x*f.y⟩
def V.neg(p:V):V:=⟨-p.x, -p.y, -p.w⟩
def norm(p:V):V:=if p.w < 0 then p.neg else p
theorem By{p:V}(h:p.w≠0):0 < (norm p).w:=by
 unfold norm;split;·show 0 < -p.w;omega
 omega
theorem BO{f g v:V}(F:f.dot v=0)(H:g.dot v=0)(h:V):v.w*h.dot (norm (meet f g))=(norm (meet f g)).w*h.dot v:=by
 have ex:(meet f g).w*v.x=v.w*(meet f g).x:=by unfold V.dot at F H;unfold meet;grind
 have ey:(meet f g).w*v.y=v.w*(meet f g).y:=by unfold V.dot at F H;unfold meet;grind
 have key:v.w*h.dot (meet f g)=(meet f g).w*h.dot v:=by unfold V.dot;grind
 unfold norm;split
 ·have e1:h.dot (meet f g).neg= -(h.dot (meet f g)):=by unfold V.dot V.neg;grind
  have e2:(meet f g).neg.w= -(meet f g).w:=rfl;rw[e1,e2,adI,ad9,key]
 exact key
def jl(L:List V)(v:V):Prop:=∃f∈L,∃g∈L,(meet f g).w≠0/\v=norm (meet f g)/\∀h∈L,0<=h.dot v
theorem py{L:List V}(hb:∀d:V,d.w=0->d.x≠0\/d.y≠0->∃f∈L,f.dot d < 0){p:V}(hw:0 < p.w)(hp:∀f∈L,0<=f.dot p)(g:V)(hg:0 < g.dot p):∃v,jl L v/\0 < v.w/\0 < g.dot v:=by
 obtain⟨i,hi,k,hk,v,H,pv,z1,z2,hn,gv⟩:=wM hb hw hp g hg;have hm:(meet i k).w≠0:=hn;have F:=By hm;refine⟨norm (meet i k),⟨i,hi,k,hk,hm,rfl,λh hh=>?_⟩,F,?_⟩
 ·have e:=BO z1 z2 h;have:=abA (ac0 F) (pv h hh);rw[<-e]at this;exact Int.nonneg_of_mul_nonneg_right this H
 have e:=BO z1 z2 g;have:=acB F gv;rw[<-e]at this;exact Int.pos_of_mul_pos_right this H
theorem three{L:List V}(d0:∃f,f∈L)(hb:∀d:V,d.w=0->d.x≠0\/d.y≠0->∃f∈L,f.dot d < 0){p:V}(hw:0 < p.w)(hp:∀f∈L,0 < f.dot p):
  ∃a b c,jl L a/\jl L b/\jl L c/\kE a b c≠0:=by
 have b0:∀f∈L,0<=f.dot p:=λf H=>ac0 (hp f H);obtain⟨a,ca,wa,_⟩:=py hb hw b0 ⟨0,0,1⟩ (by show 0 < 0*p.x+0*p.y+1*p.w;omega)
 have d0:p.x*a.w-a.x*p.w≠0\/p.y*a.w-a.y*p.w≠0:=aaO λhc=>by
  obtain⟨f,H,g,hg,hm,rfl,h0⟩:=ca
  have hz:f.dot (norm (meet f g))=0:=by unfold norm;split <;>(unfold V.dot;simp only[V.neg,meet];grind)
  have h1:=hp f H
  have e:(norm (meet f g)).w*f.dot p=p.w*f.dot (norm (meet f g)):=by
   unfold V.dot
   grind
  rw[hz,ad5]at e;have:=acB wa h1;omega
 obtain⟨b,cb,wb,k0⟩:=py hb hw b0 ⟨(p.x*a.w-a.x*p.w)*a.w,(p.y*a.w-a.y*p.w)*a.w, -((p.x*a.w-a.x*p.w)*a.x+(p.y*a.w-a.y*p.w)*a.y)⟩ (by
  have e:(V.mk ((p.x*a.w-a.x*p.w)*a.w) ((p.y*a.w-a.y*p.w)*a.w) (-((p.x*a.w-a.x*p.w)*a.x+(p.y*a.w-a.y*p.w)*a.y))).dot p=(p.x*a.w-a.x*p.w)*(p.x*a.w-a.x*p.w)+(p.y*a.w-a.y*p.w)*(p.y*a.w-a.y*p.w):=by unfold V.dot;grind
  rw[e];generalize p.x*a.w-a.x*p.w=u at*;generalize p.y*a.w-a.y*p.w=v at*;have h1:=sq_nonneg u;have h2:=sq_nonneg v;have h3:u≠0->u*u≠0:=λh F=>by rcases ack.1 F with F |F <;>exact h F
  have h4:v≠0->v*v≠0:=λh F=>by rcases ack.1 F with F |F <;>exact h F
  rcases d0 with h |h;·have:=h3 h;omega
  have:=h4 h;omega)
 have i0:a.y*b.w-a.w*b.y≠0\/a.w*b.x-a.x*b.w≠0:=aaO λhc=>by
  have e1:a.y*b.w-a.w*b.y=0:=by omega
  have e2:a.w*b.x-a.x*b.w=0:=by omega
  have:(V.mk ((p.x*a.w-a.x*p.w)*a.w) ((p.y*a.w-a.y*p.w)*a.w) (-((p.x*a.w-a.x*p.w)*a.x+(p.y*a.w-a.y*p.w)*a.y))).dot b=0:=by unfold V.dot;grind
  omega
 obtain⟨g,hg⟩:∃g:V,g=⟨a.y*b.w-a.w*b.y,a.w*b.x-a.x*b.w,a.x*b.y-a.y*b.x⟩:=⟨_,rfl⟩
 have a0:∀c:V,kE a b c=g.dot c:=λc=>by rw[hg];unfold kE V.dot;grind
 have j0:g.x≠0\/g.y≠0:=by rw[hg];exact i0
 obtain⟨q,wq,pq,gq⟩:∃q:V,0 < q.w/\(∀f∈L,0<=f.dot q)/\g.dot q≠0:=by
  by_cases e0:g.dot p=0
  ·obtain⟨K,hK⟩:∃K:Int,0 < K/\∀f∈L, -K<=f.x*g.x+f.y*g.y:=by
    have g0:∀L:List V,∃K:Int,0 < K/\∀f∈L, -K<=f.x*g.x+f.y*g.y:=λL=>by
     induction L with
     |nil=>exact⟨1,by decide,λf H=>by cases H⟩
     |cons f L ih=>
      obtain⟨K,h1,h2⟩:=ih;refine⟨max K (-(f.x*g.x+f.y*g.y)),by omega,λh hh=>?_⟩;rcases aaS.1 hh with rfl |hh;·omega
      have:=h2 h hh;omega
    exact g0 L
   refine⟨p.go K 1 ⟨g.x,g.y,0⟩,?_,λf H=>?_,?_⟩
   ·show 0 < K*p.w+1*0;have:=acB hK.1 hw;omega
   ·rw[nh];have h1:=hK.2 f H;have h2:f.dot ⟨g.x,g.y,0⟩=f.x*g.x+f.y*g.y:=by unfold V.dot;grind
    have h3:K*1<=K*f.dot p:=adj (by have:=hp f H;omega) (ac0 hK.1);omega
   rw[nh,e0,ad5];have h2:g.dot ⟨g.x,g.y,0⟩=g.x*g.x+g.y*g.y:=by unfold V.dot;grind
   rw[h2];have h1:=sq_nonneg g.x;have h2:=sq_nonneg g.y;have h3:g.x≠0->g.x*g.x≠0:=λh F=>by rcases ack.1 F with F |F <;>exact h F
   have h4:g.y≠0->g.y*g.y≠0:=λh F=>by rcases ack.1 F with F |F <;>exact h F
   rcases j0 with h |h;·have:=h3 h;omega
   have:=h4 h;omega
  exact⟨p,hw,b0,e0⟩
 rcases Int.lt_or_gt_of_ne gq with h |h
 ·have e:∀c,(V.neg g).dot c= -(g.dot c):=λc=>by unfold V.dot V.neg;grind
  obtain⟨c,cc,_,hc⟩:=py hb wq pq (V.neg g) (by rw[e];omega);exact⟨a,b,c,ca,cb,cc,by rw[a0];rw[e]at hc;omega⟩
 obtain⟨c,cc,_,hc⟩:=py hb wq pq g h;exact⟨a,b,c,ca,cb,cc,by rw[a0];omega⟩
end Go.sd
namespace Go.Proofs.YtmdfgncoekfgdaaGreatDoor
section
open Go Go.D Go.sd
def Pl.h(p:Pl):V:=⟨p.x,p.y,1⟩
def jZ(a b:Pl):V:=⟨a.y-b.y,b.x-a.x,(b.y-a.y)*a.x-(b.x-a.x)*a.y⟩
theorem kD(a b c:Pl):(jZ a b).dot c.h=dL a b c:=by unfold V.dot jZ Pl.h dL;grind
def hH(l:List Pl)(i:Nat):Pl:=(l[i]?).getD ⟨0,0⟩
theorem mJ{l:List Pl}{i:Nat}(h:i < l.length):l[i]?=some (hH l i):=by unfold hH;rw[Φ h];rfl
theorem Pw{l:List Pl}{q:Pl}(h:q∈l):∃k,k < l.length/\hH l k=q:=by obtain⟨k,F,rfl⟩:=List.getElem_of_mem h;exact⟨k,F,by unfold hH;rw[Φ F];rfl⟩
theorem EI{l:List Pl}{i:Nat}(h:i < l.length):hH l i∈l:=aac (mJ h)
def fj(l:List Pl)(i:Nat):V:=jZ (hH l i) (hH l ((i+1)%l.length))
def oC(l:List Pl):List V:=(List.range l.length).map (fj l)
theorem jt{l:List Pl}{f:V}:f∈oC l↔∃i,i < l.length/\f=fj l i:=by unfold oC;simp only[aaU,ab3];exact⟨λ⟨i,h,e⟩=>⟨i,h,e.symm⟩,λ⟨i,h,e⟩=>⟨i,h,e.symm⟩⟩
theorem UO{ax ay bx F H dy:Int}(h:ax*dy-ay*H=bx*dy-F*H):(bx-ax)*dy=(F-ay)*H:=by rw[aea,aea];omega
theorem Xz{F H vx vy dx dy:Int}(h1:F*dy=H*dx)(h2:vx*dy=vy*dx):(F*vy-H*vx)*dx=0/\(F*vy-H*vx)*dy=0:=by constructor <;>grind
section
variable {l:List Pl} (hv:bI l=true)
include hv
theorem ri{i k:Nat}(hi:i < l.length)(F:k < l.length)(H:k≠i)(h2:k≠(i+1)%l.length):0 < (fj l i).dot (hH l k).h:=by unfold fj;rw[kD];exact CZ hv (mJ hi) (mJ (ab7 _ (by omega))) (mJ F) H h2
theorem lF{i k:Nat}(hi:i < l.length)(hk:k < l.length):0<=(fj l i).dot (hH l k).h:=by
 by_cases F:k=i
 ·subst F
  unfold fj
  rw[kD]
  unfold dL
  grind
 by_cases H:k=(i+1)%l.length
 ·unfold fj
  rw[kD,<-H]
  unfold dL
  grind
 exact ac0 (ri hv hi hk F H)
theorem uk:∃p:V,0 < p.w/\∀f∈oC l,0 < f.dot p:=by
 obtain⟨h3,_⟩:=cx hv;refine⟨⟨(hH l 0).x+(hH l 1).x+(hH l 2).x,(hH l 0).y+(hH l 1).y+(hH l 2).y,3⟩,(show(0:Int)< 3 by decide),λf H=>?_⟩;obtain⟨i,hi,rfl⟩:=jt.1 H
 have e:(fj l i).dot ⟨(hH l 0).x+(hH l 1).x+(hH l 2).x,(hH l 0).y+(hH l 1).y+(hH l 2).y,3⟩=(fj l i).dot (hH l 0).h+(fj l i).dot (hH l 1).h+(fj l i).dot (hH l 2).h:=by unfold V.dot Pl.h;grind
 rw[e];have n0:=lF hv hi (k:=0) (by omega);have n1:=lF hv hi (k:=1) (by omega);have n2:=lF hv hi (k:=2) (by omega)
 have:∃k,k < 3/\k≠i/\k≠(i+1)%l.length:=by
  generalize (i+1)%l.length=j;by_cases a0:0≠i/\0≠j;·exact⟨0,by omega,a0.1,a0.2⟩
  by_cases F:1≠i/\1≠j;·exact⟨1,by omega,F.1,F.2⟩
  exact⟨2,by omega,by omega,by omega⟩
 obtain⟨k,hk,k1,k2⟩:=this;have hp:=ri hv hi (k:=k) (by omega) k1 k2;have:k=0\/k=1\/k=2:=by omega
 rcases this with rfl |rfl |rfl <;>omega
theorem rj(d:V)(hd:d.w=0)(H:d.x≠0\/d.y≠0):∃f∈oC l,f.dot d < 0:=aaO λhc=>by
 obtain⟨h3,_⟩:=cx hv
 have hE:∀i,i < l.length->(hH l i).x*d.y-(hH l i).y*d.x<=(hH l ((i+1)%l.length)).x*d.y-(hH l ((i+1)%l.length)).y*d.x:=λi hi=>by
  have h:¬(fj l i).dot d < 0:=λh=>hc ⟨_,jt.2 ⟨i,hi,rfl⟩,h⟩
  have e:(fj l i).dot d=((hH l ((i+1)%l.length)).x*d.y-(hH l ((i+1)%l.length)).y*d.x)-((hH l i).x*d.y-(hH l i).y*d.x):=by
   unfold fj jZ V.dot
   grind
  omega
 have hC:∀k,k < l.length->∀j,j<=k->(hH l j).x*d.y-(hH l j).y*d.x<=(hH l k).x*d.y-(hH l k).y*d.x:=by
  intro k
  induction k with
  |zero=>intro _ j hj;rw[Nat.le_zero.1 hj];exact aci _
  |succ k ih=>
   intro hk j hj
   by_cases e:j=k+1
   ·rw[e];exact aci _
   ·have h1:=ih (by omega) j (by omega)
    have h2:=hE k (by omega)
    rw[acd hk]at h2
    omega
 have hL:=hE (l.length-1) (by omega)
 rw[acJ (by omega),adC]at hL
 have c1:=hC 1 (by omega) 0 (by omega)
 have c2:=hC 2 (by omega) 1 (by omega)
 have c3:=hC (l.length-1) (by omega) 2 (by omega)
 have ht:=ri hv (i:=0) (k:=2) (by omega) (by omega) (by omega) (by rw[acd (by omega)];omega)
 unfold fj at ht
 rw[aaq,acd (by omega:1 < l.length),kD]at ht
 generalize hH l 0=a at*
 generalize hH l 1=b at*
 generalize hH l 2=c at*
 have e1:=UO (show a.x*d.y-a.y*d.x=b.x*d.y-b.y*d.x by omega)
 have e2:=UO (show a.x*d.y-a.y*d.x=c.x*d.y-c.y*d.x by omega)
 unfold dL at ht
 obtain⟨t1,t2⟩:=Xz e1 e2
 rcases H with h |h
 ·rcases ack.1 t1 with F |F
  ·omega
  ·exact h F
 ·rcases ack.1 t2 with F |F
  ·omega
  ·exact h F
omit hv in
theorem Ft(G:Nat->Int):∀n,0 < n->∃k,k < n/\∀j,j < n->G j<=G k
 |1,_=>⟨0,by omega,λj F=>by rw[show j=0 by omega];exact aci _⟩
 |n+2,_=>by
  obtain⟨k,H,h⟩:=Ft G (n+1) (by omega)
  by_cases hc:G k<=G (n+1)
  ·refine⟨n+1,by omega,λj F=>?_⟩
   by_cases e:j=n+1
   ·rw[e];exact aci _
   ·have:=h j (by omega);omega
  ·refine⟨k,by omega,λj F=>?_⟩
   by_cases e:j=n+1
   ·rw[e];omega
   ·exact h j (by omega)
theorem yL{g p:V}(hg:∀q∈l,g.dot q.h<=0)(hw:0 < p.w)(hp:∀f∈oC l,0<=f.dot p):g.dot p<=0:=by
 obtain⟨h3,_⟩:=cx hv;obtain⟨k,hk,F⟩:=Ft (λk=>g.dot (hH l k).h) l.length (by omega)
 obtain⟨r,hr,H,a0⟩:∃r,r < l.length/\(r+1)%l.length=k/\r≠(k+1)%l.length:=by
  by_cases e:k=0
  ·refine⟨l.length-1,by omega,?_,?_⟩;·rw[acJ (by omega),adC,e]
   rw[e,acd (by omega)];omega
  refine⟨k-1,by omega,?_,?_⟩;·rw[acJ (by omega),acd hk]
  by_cases e2:k+1=l.length;·rw[e2,adC];omega
  rw[acd (by omega)];omega
 have hn:(k+1)%l.length < l.length:=ab7 _ (by omega)
 have b0:(k+1)%l.length≠k:=by
  by_cases e2:k+1=l.length;·rw[e2,adC];omega
  rw[acd (by omega)];omega
 have hT:=ri hv hr hn (λe=>a0 e.symm) (by rw[H];exact b0);have p1:=hp _ (jt.2 ⟨r,hr,rfl⟩);have p2:=hp _ (jt.2 ⟨k,hk,rfl⟩);have m1:=F _ hn;have m2:=F _ hr;have m3:=hg _ (EI hk);unfold fj at hT p1 p2;rw[H]at hT p1;have m1:g.dot (hH l ((k+1)%l.length)).h<=g.dot (hH l k).h:=m1;have m2:g.dot (hH l r).h<=g.dot (hH l k).h:=m2;generalize hH l r=a at*;generalize hH l k=b at*;generalize hH l ((k+1)%l.length)=c at*
 have id:(jZ a b).dot c.h*(g.dot p-p.w*g.dot b.h)=(jZ a b).dot p*(g.dot c.h-g.dot b.h)+(jZ b c).dot p*(g.dot a.h-g.dot b.h):=by
  unfold jZ V.dot Pl.h
  grind
 have r1:(jZ a b).dot p*(g.dot c.h-g.dot b.h)<=0:=acz p1 (by omega);have r2:(jZ b c).dot p*(g.dot a.h-g.dot b.h)<=0:=acz p2 (by omega);have r3:p.w*g.dot b.h<=0:=acz (ac0 hw) m3;refine aaO λhc=>?_;have:0 < (jZ a b).dot c.h*(g.dot p-p.w*g.dot b.h):=acB hT (by omega);omega
end
def Sep(a b:List Pl):Prop:=∃f∈oC a,∀q∈b,f.dot q.h<=0
theorem Ff{a:List Pl}(F:bI a=true){h:V}(hh:∃q∈a,0 < h.dot q.h):∃p:V,0 < p.w/\(∀f∈oC a,0 < f.dot p)/\0 < h.dot p:=by
 obtain⟨c,wc,hc⟩:=uk F;obtain⟨q,hq,a0⟩:=hh;obtain⟨k,hk,rfl⟩:=Pw hq;obtain⟨K,hK⟩:∃K:Int,K=max 1 (1-h.dot c):=⟨_,rfl⟩
 refine⟨(hH a k).h.go K 1 c,?_,λf H=>?_,?_⟩
 ·show 0 < K*1+1*c.w;omega
 ·rw[nh];obtain⟨i,hi,rfl⟩:=jt.1 H;have h1:=lF F hi hk;have h2:=hc _ H;have:=abA (show 0<=K by omega) h1;omega
 rw[nh];have:K*1<=K*h.dot (hH a k).h:=adj (by omega) (by omega);omega
theorem Fo{a b:List Pl}(h:¬Sep a b):∀f∈oC a,∃q∈b,0 < f.dot q.h:=λf F=>aaO λH=>h ⟨f,F,λq hq=>by
 refine aaO λh'=>H ⟨q,hq,by omega⟩⟩
theorem JS{a b:List Pl}(ha:bI a=true)(hb:bI b=true)(h1:¬Sep a b)(h2:¬Sep b a):
  ∃u v w,jl (oC a++oC b) u/\jl (oC a++oC b) v/\jl (oC a++oC b) w/\kE u v w≠0:=by
 have pa:∀h∈oC b,∃p:V,0 < p.w/\(∀f∈oC a,0 < f.dot p)/\0 < h.dot p:=λh hh=>Ff ha (Fo h2 h hh);have pb:∀h∈oC a,∃p:V,0 < p.w/\(∀f∈oC b,0 < f.dot p)/\0 < h.dot p:=λh hh=>Ff hb (Fo h1 h hh)
 obtain⟨p,hw,hp⟩:=Cf _ (oC a++oC b) (Ξ _) λf hf g hg h hh=>by
  rcases aaR.1 hf with hf |hf <;>rcases aaR.1 hg with hg |hg <;>rcases aaR.1 hh with hh |hh
  ·obtain⟨p,w,F⟩:=uk ha;exact⟨p,w,F _ hf,F _ hg,F _ hh⟩
  ·obtain⟨p,w,F,H⟩:=pa h hh;exact⟨p,w,F _ hf,F _ hg,H⟩
  ·obtain⟨p,w,F,H⟩:=pa g hg;exact⟨p,w,F _ hf,H,F _ hh⟩
  ·obtain⟨p,w,F,H⟩:=pb f hf;exact⟨p,w,H,F _ hg,F _ hh⟩
  ·obtain⟨p,w,F,H⟩:=pa f hf;exact⟨p,w,H,F _ hg,F _ hh⟩
  ·obtain⟨p,w,F,H⟩:=pb g hg;exact⟨p,w,F _ hf,H,F _ hh⟩
  ·obtain⟨p,w,F,H⟩:=pb h hh;exact⟨p,w,F _ hf,F _ hg,H⟩
  obtain⟨p,w,F⟩:=uk hb;exact⟨p,w,F _ hf,F _ hg,F _ hh⟩
 refine three ?_ (λd hd a0=>?_) hw hp
 ·obtain⟨f,hf,_⟩:=rj ha ⟨1,0,0⟩ rfl (.inl (by decide));exact⟨f,aaR.2 (.inl hf)⟩
 obtain⟨f,hf,h⟩:=rj ha d hd a0;exact⟨f,aaR.2 (.inl hf),h⟩
theorem Bz{a b:List Pl}(ha:bI a=true)(hb:bI b=true){L:List V}(hL:∀f,f∈oC a\/f∈oC b->f∈L)(hs:Sep a b){u v w:V}(hu:jl L u)(hv:jl L v)(hw:jl L w):kE u v w=0:=by
 obtain⟨f,H,a0⟩:=hs
 have hz:∀{c:V},jl L c->f.dot c=0:=λ{c} F=>by obtain⟨i,hi,k,hk,hm,rfl,h0⟩:=F;have h1:=h0 f (hL f (.inl H));have h2:=yL hb a0 (By hm) λg hg=>h0 g (hL g (.inr hg));omega
 have hu:=hz hu;have hv:=hz hv;have hw:=hz hw
 have b0:f.x≠0\/f.y≠0:=aaO λF=>by
  obtain⟨h3,_⟩:=cx ha;obtain⟨p,_,hp⟩:=uk ha;have:=hp f H;obtain⟨i,hi,rfl⟩:=jt.1 H;unfold fj at F this;generalize hH a i=s at*;generalize hH a ((i+1)%a.length)=t at*;have e1:s.y-t.y=0:=by have:¬((s.y-t.y)≠0\/(t.x-s.x)≠0):=F;omega
  have e2:t.x-s.x=0:=by have:¬((s.y-t.y)≠0\/(t.x-s.x)≠0):=F;omega
  have e3:(jZ s t).dot p=0:=by unfold jZ V.dot;grind
  omega
 have t1:f.x*kE u v w=0:=by
  have:f.x*kE u v w=f.dot u*(v.y*w.w-v.w*w.y)-f.dot v*(u.y*w.w-u.w*w.y)+f.dot w*(u.y*v.w-u.w*v.y):=by unfold kE V.dot;grind
  rw[this,hu,hv,hw];simp
 have t2:f.y*kE u v w=0:=by
  have:f.y*kE u v w= -(f.dot u*(v.x*w.w-v.w*w.x))+f.dot v*(u.x*w.w-u.w*w.x)-f.dot w*(u.x*v.w-u.w*v.x):=by unfold kE V.dot;grind
  rw[this,hu,hv,hw];simp
 rcases b0 with h |h;·exact(ack.1 t1).resolve_left h
 exact(ack.1 t2).resolve_left h
end
section
variable {X:aG} {m:M}
def nO(a b:List Pl)(i:Nat):Bool:=match a[i]?,a[(i+1)%a.length]? with
 |some p,some q=> !(b.any λc=>decide (0 < dL p q c))
 |_,_=>false
def dC(a b:List Pl):Int:=match(List.range a.length).find? (nO a b)with |some i=>i |none=> -1
def jb(a b:List Pl):Bool:=bI a && bI b && decide (dC a b < 0) && decide (dC b a < 0)
theorem Ov(hX:cV X){a b c:Pl}{ba bb:Nat}(ha:m.get ba=.cells a.c 98 none)(hb:m.get bb=.cells b.c 98 none)(sa:a.sm 1000000)(sb:b.sm 1000000)(sc:c.sm 1000000):
  C X (.func 302) [c.v,ptrTo ba,ptrTo bb] m m.n (.bool (decide (0 < dL a b c))) m:=by
 refine Cl.flat (hX.no _ rfl) RJ rfl rfl ?_;rw[Yk];dsimp only[aI,δ,η,ς,φ,χ,ψ];refine au λm1 b0 H a0=>?_;have F:Ext m m1:=⟨by omega,a0⟩
 unfold ptrTo;rw[iR (F.cells ha),ae,iR (F.cells hb),ae,iR H,ae];refine az (zA hX sa sb sc) ?_;rw[dq,ae];exact⟨rfl,by omega⟩
theorem Co{a b:List Pl}(h:∀j,j < a.length->nO a b j=false):dC a b= -1:=by
 unfold dC;have:(List.range a.length).find? (nO a b)=none:=acK.2 λx F=>by rw[h x (ab3.1 F)];decide
 rw[this]
theorem find_range{p:Nat->Bool}:∀{n k:Nat},k < n->(∀j,j < k->p j=false)->p k=true->(List.range n).find? p=some k
 |n+1,k,hk,h,F=>by
  rw[adg,List.find?_append]
  by_cases e:k < n
  ·rw[find_range e h F];rfl
  ·have:k=n:=by omega
   subst this
   have:(List.range k).find? p=none:=acK.2 λx H=>by rw[h x (ab3.1 H)];decide
   rw[this]
   simp[F]
theorem Cn{a b:List Pl}{k:Nat}(F:k < a.length)(h:∀j,j < k->nO a b j=false)(H:nO a b k=true):dC a b=k:=by unfold dC;rw[find_range F h H]
theorem yP(hX:cV X){a b:List Pl}{va vb:aed}(ha:Sl m a va)(hb:Sl m b vb)(la:a.length < 1000000)(lb:b.length < 1000000)(sa:∀p∈a,p.sm 1000000)(sb:∀p∈b,p.sm 1000000):
  C X (.func 214) [va,vb] m m.n (.int .i64 (dC a b)) m:=by
 refine Cl.flat (hX.no _ rfl) Sb rfl rfl ?_;rw[YS];dsimp only[aI,δ,η,ι,ο,ς,υ,φ,χ,ψ];refine au λm1 u1 I0 J0=>?_;refine au λm2 v1 K0 q0=>?_;refine au λm3 w1 L0 h0=>?_;unfold ptrTo;refine aC mO L0 rfl rfl rfl λm4 z1 M0 i0=>?_;have r0:Ext m m4:=⟨by omega,λc H=>by rw[i0 c (by omega),h0 c (by omega),q0 c (by omega),J0 c H]⟩
 obtain⟨m7,H,b0,A1,N0⟩:=Cu (m:=m4) hX ha.cells;refine az H ?_;rw[bY];have g17:m7.get m.n=.cells (cells vb) 45 none:=by rw[b0.get _ (by omega),i0 _ (by omega),h0 _ (by omega),q0 _ (by omega),I0]
 have O0:m7.get m1.n=.cells [.int .i64 0] 3 none:=by rw[b0.get _ (by omega),i0 _ (by omega),h0 _ (by omega),K0]
 have P0:m7.get m2.n=.cells [.int .i64 0] 3 none:=by rw[b0.get _ (by omega),M0];rfl
 rw[hb.cells]at g17
 refine⟨λ_=>False,lg a,_,λk mm=>m7.n<=mm.n/\(∀c,c < m7.n->c≠m1.n->c≠m2.n->mm.get c=m7.get c)/\mm.get m1.n=.cells [.int .i64 0] 3 none/\mm.get m2.n=.cells [.int .i64 k] 3 none/\(∀j,j < k->nO a b j=false),
  λe mm=>e=.ret/\mm.get m1.n=.cells [.int .i64 (dC a b)] 3 none,m.n,⟨_,rfl⟩,zi hX (v:=va) (b:=m4.n) (by omega),by omega,?_,?_,?_,⟨Ξ _,λ_ _ _ _=>rfl,O0,P0,λj hj=>by omega⟩,?_,?_,?_⟩
 ·rintro i mm ⟨h1,h2,h3,h4,h5⟩;refine⟨by rw[h2 _ (by omega) (by omega) (by omega),N0],?_⟩;refine ha.bH λb c t g hb ht=>?_;have:=M.aL hb;rw[h2 b (by omega) (by omega) (by omega),b0.get b (by omega),r0.get b this,hb]
 ·rintro i mm Q0 ⟨h1,h2,h3,h4,h5⟩ hk;exact⟨by have:=hk.n;omega,λc H n1 n2=>by rw[hk.get c (by omega) (by omega),h2 c H n1 n2],by rw[hk.get _ (by omega) (by omega),h3],by rw[hk.get _ (by omega) (by omega),h4],h5⟩
 ·rintro e mm Q0 ⟨h,h'⟩ hk;have:=M.aL h';exact⟨h,by rw[hk.get _ this (by omega),h']⟩
 ·rintro k args j0 c1 hx ⟨h1,h2,h3,h4,h5⟩;obtain⟨pa,pb,k0,s0,rfl⟩:=zh hx;have S0:k < a.length:=(Ω.1 k0).1;rw[aH,aH];show II [] _;unfold II;refine au λB1 d1 u0 v0=>?_;refine aC jV u0 rfl rfl rfl λT0 e1 z0 A0=>?_;refine au λC1 g1 B0 e0=>?_;refine aC jV B0 rfl rfl rfl λU0 i1 C0 g0=>?_;have iG:∀c,c < j0.n->U0.get c=j0.get c:=λc H=>by rw[g0 c (by omega),e0 c (by omega),A0 c (by omega),v0 c H]
  refine⟨λc _ H=>iG c H,λa0 j1 F=>?_⟩;dsimp only;have r1:a0.get j0.n=.cells pa.c 98 none:=by rw[F _ (by omega),g0 _ (by omega),e0 _ (by omega),z0];rfl
  have r2:a0.get T0.n=.cells pb.c 98 none:=by rw[F _ (by omega),C0];rfl
  have l0:∀c,c < m7.n->c≠m1.n->c≠m2.n->a0.get c=m7.get c:=λc H n1 n2=>by rw[F c (by omega),iG c (by omega),h2 c H n1 n2]
  have r3:a0.get m.n=.cells [vb] 45 none:=by rw[l0 _ (by omega) (by omega) (by omega),g17]
  have r4:a0.get m2.n=.cells [.int .i64 k] 3 none:=by rw[F _ (by omega),iG _ (by omega),h4]
  have r5:a0.get m1.n=.cells [.int .i64 0] 3 none:=by rw[F _ (by omega),iG _ (by omega),h3]
  rw[kg,aF r3];show aj (some vb) _;rw[ae]
  have V0:Sl a0 b vb:=hb.bH λb c t g hb ht=>by have:=M.aL hb;rw[l0 b (by omega) (by omega) (by omega),b0.get b (by omega),r0.get b this,hb]
  refine az (lX hX (λc=>decide (0 < dL pa pb c)) (by omega) V0 λc H=>?_) ?_;·exact Ov hX r1 r2 (sa _ (aac k0)) (sa _ (aac s0)) (sb c H)
  have D0:nO a b k= !(b.any λc=>decide (0 < dL pa pb c)):=by unfold nO;rw[k0,s0]
  rw[bM,ae,an,<-D0];refine aq (λhs=>?_) (λhs=>?_)
  ·rw[cd,aF r4];show aj (some (Value.int .i64 k)) _;rw[ae];refine aC mO r5 rfl rfl rfl λD1 k1 E0 F0=>?_
   refine⟨by omega,λc X0 Y0 o0=>F0 c (by
    rcases o0 with h |h;· omega
    exact h.elim),rfl,?_⟩
   rw[Cn S0 h5 hs];exact E0
  rw[cd,aF r4];show aj (some (Value.int .i64 k)) _;rw[ae,aQ,ae,wrap64 (by omega) (by omega)];refine aC mO r4 rfl rfl rfl λE1 o1 G0 d0=>?_
  refine⟨by omega,λc X0 Y0 o0=>d0 c (by
   rcases o0 with h |h;· omega
   exact h.elim),by omega,λc H n1 n2=>by rw[d0 c n2,l0 c H n1 n2],by rw[d0 _ (by omega),r5],G0,λj hj=>?_⟩
  by_cases e:j=k;·rw[e];exact hs
  exact h5 j (by omega)
 ·rintro mm nz ⟨h1,h2,h3,h4,h5⟩ a1;refine aC mO h3 rfl rfl rfl λF1 p1 H0 s1=>?_;rw[cd,aF H0];show aj (some (Value.int .i64 (-1))) _;rw[ae];refine⟨?_,by omega⟩;rw[sY]at h5;rw[Co h5];rfl
 rintro e mm nz G1 ⟨rfl,h'⟩ a1;refine⟨_,abu.2 rfl,rfl,?_⟩;dsimp only;rw[cd,aF h'];show aj (some (Value.int .i64 (dC a b))) _;rw[ae];exact⟨rfl,by omega⟩
def yH(a b:List Pl):Int×Int×Bool:=
 if bI a && bI b then(if 0<=dC a b then(0,dC a b,true)else if 0<=dC b a then(1,dC b a,true)else(0,0,false))else(0,0,false)
theorem Km(hX:cV X){a b:List Pl}{va vb:aed}(ha:Sl m a va)(hb:Sl m b vb)(la:a.length < 1000000)(lb:b.length < 1000000):
  C X (.func 160) [va,vb] m m.n (.tuple #[.int .i64 (yH a b).1,.int .i64 (yH a b).2.1,.bool (yH a b).2.2]) m:=by
 refine Cl.flat (hX.no _ rfl) Sv rfl rfl ?_;rw[Zg];dsimp only[aI,η,ο,χ,ψ];refine cG (λvs mm lo=>vs=[.bool (!(bI a && bI b))]/\m=mm/\m.n<=lo) (λR hR=>?_) ?_
 ·refine az (iJ hX ha (by omega)) ?_;rw[bM,ae,an];refine aq (λh=>?_) (λh=>?_)
  ·have h:bI a=false:=by simpa using h
   exact hR _ _ _ ⟨by rw[h];rfl,rfl,by omega⟩
  have h:bI a=true:=by simpa using h
  refine az (iJ hX hb (by omega)) ?_;rw[bM,ae];exact hR _ _ _ ⟨by rw[h,aav],rfl,by omega⟩
 rintro _ _ lo ⟨rfl,rfl,a0⟩;rw[aH,an];refine aq (λh=>?_) (λh=>?_)
 ·have h:(bI a && bI b)=false:=by
   cases h':(bI a && bI b)with
   |false=>rfl
   |true=>rw[h']at h;cases h
  unfold yH;rw[aaa (by rw[h];decide)];exact⟨rfl,a0⟩
 have h:(bI a && bI b)=true:=by
  cases h':(bI a && bI b)with
  |true=>rfl
  |false=>rw[h']at h;cases h
 unfold yH;rw[aaf h];rw[Ψ]at h;refine az (yP hX ha hb la lb (qQ h.1) (qQ h.2)) ?_;rw[cO,ae,an];refine aq (λF=>?_) (λF=>?_)
 ·have F:0<=dC a b:=by simpa using F
  rw[aaf F];exact⟨rfl,by omega⟩
 have F:¬0<=dC a b:=by simpa using F
 rw[aaa F];refine az (yP hX hb ha lb la (qQ h.2) (qQ h.1)) ?_;rw[cO,ae,an];refine aq (λH=>?_) (λH=>?_)
 ·have H:0<=dC b a:=by simpa using H
  rw[aaf H];exact⟨rfl,by omega⟩
 have H:¬0<=dC b a:=by simpa using H
 rw[aaa H];exact⟨rfl,by omega⟩
theorem Bq(F:cV X){a b:List Pl}{va vb:aed}(ha:Sl m a va)(hb:Sl m b vb)(la:a.length < 1000000)(lb:b.length < 1000000):
  C X (.func 102) [va,vb] m m.n (.bool (jb a b)) m:=by
 refine Cl.flat (F.no _ rfl) SU rfl rfl ?_;rw[ZD];dsimp only[aI,ξ,ο,ψ];refine az (Km F ha hb la lb) ?_;rw[cp,cp,cp];simp only[aad,aah,ae];refine cG (λvs mm lo=>vs=[.bool (jb a b)]/\m=mm/\m.n<=lo) (λR H=>?_) ?_
 ·refine az (iJ F ha (by omega)) ?_;rw[an];refine aq (λh=>?_) (λh=>?_)
  ·refine az (iJ F hb (by omega)) ?_;rw[an];refine aq (λh'=>?_) (λh'=>?_)
   ·rw[bM,ae];refine H _ _ _ ⟨?_,rfl,by omega⟩;unfold jb yH;rw[h,h',aco,aaf rfl,aav];by_cases h1:0<=dC a b;·rw[aaf h1,aat (show¬dC a b < 0 by omega)];rfl
    rw[aaa h1,aaX (show dC a b < 0 by omega)];by_cases h2:0<=dC b a;·rw[aaf h2,aat (show¬dC b a < 0 by omega)];rfl
    rw[aaa h2,aaX (show dC b a < 0 by omega)];rfl
   exact H _ _ _ ⟨by unfold jb;rw[h',aaw];rfl,rfl,by omega⟩
  exact H _ _ _ ⟨by unfold jb;rw[h];rfl,rfl,by omega⟩
 rintro _ _ lo ⟨rfl,rfl,a0⟩;rw[aH];exact⟨rfl,a0⟩
end
section
variable {X:aG} {m:M}
theorem KC(hX:cV X)(p:Pl):C X (.func 188) [p.v] m m.n (.bool (!p.off)) m:=by
 refine Cl.flat (hX.no _ rfl) Sk rfl rfl ?_;rw[Y6];dsimp only[aI,δ,ε,η,ς,φ,χ];refine au λm1 b0 a0 d0=>?_;simp only[bB]at a0;refine cG (λvs mm lo=>vs=[.bool (!p.off)]/\lo=m.n) (λR hR=>?_) ?_
 ·simp only[ae,aE,bY,an,bU,aM,dj,aX,cO,dq,aY,da,bM,ptrTo,bT,dF,aaq,Nat.reduceAdd,aad,aah,aa0,aaT,aa6,abi,aag,bB,ee,dJ,dw,ec,ed,dI,cf,ck,cd,aF a0]
  have ho:p.off= !(decide (0<=p.x) && decide (p.x<=40) && decide (0<=p.y) && decide (p.y<=40)):=by unfold Pl.off;by_cases F:0<=p.x <;>by_cases H:p.x<=40 <;>by_cases h3:0<=p.y <;>by_cases h4:p.y<=40 <;>simp[F,H,h3,h4] <;>omega
  refine aq (λF=>?_) (λF=>hR _ _ _ ⟨by rw[ho,F];rfl,rfl⟩);refine aq (λH=>?_) (λH=>hR _ _ _ ⟨by rw[ho,F,H];rfl,rfl⟩);refine aq (λh3=>?_) (λh3=>hR _ _ _ ⟨by rw[ho,F,H,h3];rfl,rfl⟩);exact hR _ _ _ ⟨by rw[ho,F,H,h3,ade];rfl,rfl⟩
 rintro _ mm lo ⟨rfl,rfl⟩;rw[aH];exact⟨rfl,Ξ _⟩
theorem Kc(hX:cV X)(a b c:Pl):C X (.func 108) [a.v,b.v,c.v] m m.n (.int .i64 (EW a b c)) m:=by refine Cl.flat (hX.no _ rfl) SS rfl rfl ?_;rw[ZC];dsimp only[aI,δ,ε,η,ς,φ];refine au λm1 e0 a0 g0=>?_;refine au λm2 h0 b0 d0=>?_;refine au λm3 i0 F H=>?_;have g1:=(H m.n (by omega)).trans ((d0 m.n (by omega)).trans a0);have g2:=(H m1.n (by omega)).trans b0;simp only[bB]at g1 g2 F;simp only[ae,aE,bY,an,bU,aM,dj,aX,cO,dq,aY,da,bM,ptrTo,bT,dF,aaq,Nat.reduceAdd,aad,aah,aa0,aaT,aa6,abi,aag,bB,ee,dJ,dw,ec,ed,dI,cf,ck,cd,aF g1,aF g2,aF F,fB,ej];exact⟨rfl,Ξ _⟩
theorem Ke(F:cV X){a b c:Pl}(H:a.sm 1000000)(hb:b.sm 1000000)(hc:c.sm 1000000):C X (.func 108) [a.v,b.v,c.v] m m.n (.int .i64 (dL a b c)) m:=by rw[<-AT H hb hc];exact Kc F a b c
theorem ME(hX:cV X){l:List Pl}{v:aed}(hl:Sl m l v){i:Nat}{q:Pl}(hb:l.length < 4611686018427387904)(hi:i < l.length)(hq:l[(i+1)%l.length]?=some q):C X (.func 166) [v,.int .i64 i] m m.n q.v m:=by
 refine Cl.flat (hX.no _ rfl) Su rfl rfl ?_;rw[Zf];dsimp only[aI,δ,ζ,η,ι,κ,υ,φ,χ];refine au λm1 d0 H a0=>?_;have F:Ext m m1:=⟨by omega,a0⟩
 rw[aQ,ae,wrap64 (by omega) (by omega),(hl.aD F).len dS,aE,show((i:Int)+1)=((i+1:Nat):Int) by omega,rf (by omega),ae];obtain⟨a,e1,e2⟩:=(hl.aD F).nD (k:=.i64) hq;rw[e1,ae,e2,ae];unfold ptrTo;refine aC jV H rfl rfl rfl λm7 e0 b0 g0=>?_;rw[iR b0,ae];exact⟨rfl,by omega⟩
theorem sE(hX:cV X){l:List Pl}{v:aed}(hl:Sl m l v)(hb:l.length < 4611686018427387904):C X (.func 127) [v] m m.n (.bool (bI l)) m:=by
 refine Cl.flat (hX.no _ rfl) SM rfl rfl ?_;rw[Zw];dsimp only[aI,δ,ζ,η,κ,ο,χ,ψ];refine cG (λvs mm lo=>vs=[.bool (!(decide (3<=l.length) && decide (l.length<=8)))]/\m=mm/\lo=m.n) (λR hR=>?_) ?_
 ·rw[hl.len dS];simp only[ae,aE,bY,an,bU,aM,dj,aX,cO,dq,aY,da,bM,ptrTo,bT,dF,aaq,Nat.reduceAdd,aad,aah,aa0,aaT,aa6,abi,aag,bB,ee,dJ,dw,ec,ed,dI]
  refine aq (λh=>hR _ _ _ ⟨by
   have:¬3<=l.length:=by simp at h;omega
   simp[this],rfl,rfl⟩) (λh=>?_)
  have h3:3<=l.length:=by simp at h;omega
  refine hR _ _ _ ⟨?_,rfl,rfl⟩;have:decide ((8:Int)< l.length)= !(decide (l.length<=8)):=by by_cases h:l.length<=8 <;>simp[h] <;>omega
  rw[this];simp[h3]
 rintro _ _ _ ⟨rfl,rfl,rfl⟩;rw[aH,an];refine aq (λh=>?_) (λh=>?_)
 ·refine⟨?_,Ξ _⟩;simp only[aba]at h;simp only[aO,bI,h,aaz]
 simp only[abI,Ψ,aaC]at h;obtain⟨h3,h8⟩:=h;refine Lp.intro (γ:=Nat) (λi=>l.length-i) (λi vs mm lo=>vs=[aei,.int .i64 i]/\i<=l.length/\m=mm/\lo=m.n/\∀j p,j < i->l[j]?=some p->p.off=false) 0 ⟨rfl,aaQ _,rfl,rfl,λj p hj=>by omega⟩ ?_;rintro i vs mm lo ⟨rfl,hi,rfl,rfl,h0⟩;rw[aH,aH,hl.len dS,aE,aX,ae,an];refine aq (λF=>?_) (λk0=>?_)
 ·have F:i < l.length:=by simpa using F
  obtain⟨p,hp⟩:∃p,l[i]?=some p:=⟨_,Φ F⟩
  obtain⟨q,e1,e2⟩:=hl.nD (k:=.i64) hp;rw[e1,ae,e2,ae];refine az (KC hX p) ?_;rw[bM,ae,an,ade];refine aq (λho=>?_) (λho=>?_)
  ·refine⟨?_,by omega⟩;have:l.any Pl.off=true:=ace.2 ⟨p,aac hp,ho⟩;simp[aO,bI,this]
  rw[aQ,ae,wrap64 (by omega) (by omega)];refine⟨i+1,by omega,rfl,by omega,rfl,by omega,λj q hj hq=>?_⟩;by_cases e:j=i;·subst e;rw[hp]at hq;cases hq;exact ho
  exact h0 j q (by omega) hq
 have u0:i=l.length:=by
  have:¬(i:Int)< (l.length:Int):=by simpa using k0
  omega
 have a0:l.any Pl.off=false:=by rw[abF];intro p hp;obtain⟨j,hj⟩:=aaN hp;rw[h0 j p (by have:=(Ω.1 hj).1;omega) hj];decide
 have l0:∀p∈l,p.sm 1000000:=λp hp=>Pl.KB (by rw[abF]at a0;simpa using a0 p hp);have hv:∀r,mF l=r->bI l=r:=λr hr=>by simp[bI,h3,h8,a0,hr]
 refine Lp.intro (γ:=Nat) (λi=>l.length-i) (λi vs mm lo=>vs=[aei,.int .i64 i]/\i<=l.length/\m=mm/\lo=m.n/\∀j,j < i->Dv l j=true) 0 ⟨rfl,aaQ _,rfl,rfl,λj hj=>by omega⟩ ?_;rintro i vs mm lo ⟨rfl,hi,rfl,rfl,i0⟩;rw[aH,aH,hl.len dS,aE,aX,ae,an];refine aq (λF=>?_) (λk0=>?_)
 ·have F:i < l.length:=by simpa using F
  obtain⟨pa,d0⟩:∃p,l[i]?=some p:=⟨_,Φ F⟩
  have v0:(i+1)%l.length < l.length:=ab7 _ (by omega);obtain⟨pb,e0⟩:∃p,l[(i+1)%l.length]?=some p:=⟨_,Φ v0⟩
  refine Lp.intro (γ:=Nat) (λk=>l.length-k) (λk vs mm lo=>vs=[aei,.int .i64 k]/\k<=l.length/\m=mm/\lo=m.n/\∀j c,j < k->l[j]?=some c->j=i\/j=(i+1)%l.length\/0 < dL pa pb c) 0 ⟨rfl,aaQ _,rfl,rfl,λj c hj=>by omega⟩ ?_;rintro k vs mm lo ⟨rfl,hk,rfl,rfl,j0⟩;rw[aH,aH,hl.len dS,aE,aX,ae,an];refine aq (λb0=>?_) (λr0=>?_)
  ·have b0:k < l.length:=by simpa using b0
   obtain⟨pc,g0⟩:∃p,l[k]?=some p:=⟨_,Φ b0⟩
   refine cG (λvs mm lo=>vs=[.bool (!(k==i ||k==(i+1)%l.length ||decide (0 < dL pa pb pc)))]/\m=mm/\lo=m.n) (λR hR=>?_) ?_
   ·rw[da,ae,an];refine aq (λo0=>?_) (λhe=>?_)
    ·have o0:k≠i:=by simp at o0;omega
     rw[aQ,ae,wrap64 (by omega) (by omega),aE,show((i:Int)+1)=((i+1:Nat):Int) by omega,rf (by omega),ae,da,ae,an];refine aq (λH=>?_) (λz0=>?_)
     ·have H:k≠(i+1)%l.length:=by intro e;rw[e]at H;simp at H
      obtain⟨q,e1,e2⟩:=hl.nD (k:=.i64) d0;rw[e1,ae,e2,ae];refine az (ME hX hl hb F e0) ⟨Ξ _,?_⟩;obtain⟨q,e1,e2⟩:=hl.nD (k:=.i64) g0;rw[e1,ae,e2,ae];refine az (Ke hX (l0 _ (aac d0)) (l0 _ (aac e0)) (l0 _ (aac g0))) ?_;rw[dj,ae];refine hR _ _ _ ⟨?_,rfl,by omega⟩;have:decide (dL pa pb pc<=0)= !(decide (0 < dL pa pb pc)):=by by_cases h:dL pa pb pc<=0 <;>simp[h] <;>omega
      rw[this];simp[o0,H]
     refine hR _ _ _ ⟨?_,rfl,rfl⟩
     have:k=(i+1)%l.length:=by
      have h':(k:Int)=(((i+1)%l.length:Nat):Int):=by simpa using z0
      omega
     simp[this]
    refine hR _ _ _ ⟨?_,rfl,rfl⟩;have:k=i:=by simp at he;omega
    simp[this]
   rintro _ _ _ ⟨rfl,rfl,rfl⟩;rw[aH,an];refine aq (λs0=>?_) (λq0=>?_)
   ·have hc:mF l=false:=by
     cases hc:mF l with
     |false=>rfl
     |true=>simp only[mF,aay,ab3]at hc;have h2:=(mQ d0 e0).1 (hc i F) k pc g0;simp only[aba,abQ,beq_eq_false_iff_ne,aby]at s0;omega
    exact⟨by rw[hv false hc];rfl,Ξ _⟩
   rw[aQ,ae,wrap64 (by omega) (by omega)];refine⟨k+1,by omega,rfl,by omega,rfl,rfl,λj c hj hc=>?_⟩;by_cases A0:j < k;·exact j0 j c A0 hc
   have:j=k:=by omega
   subst this;rw[g0]at hc;cases hc;simp only[abI,abW,beq_iff_eq,aaC]at q0;omega
  have C0:k=l.length:=by
   have:¬(k:Int)< (l.length:Int):=by simpa using r0
   omega
  rw[aQ,ae,wrap64 (by omega) (by omega)];refine⟨i+1,by omega,rfl,by omega,rfl,rfl,λj hj=>?_⟩;by_cases B0:j < i;·exact i0 j B0
  have:j=i:=by omega
  subst this;rw[mQ d0 e0];intro q c hq;exact j0 q c (by have:=(Ω.1 hq).1;omega) hq
 have u0:i=l.length:=by
  have:¬(i:Int)< (l.length:Int):=by simpa using k0
  omega
 have hc:mF l=true:=aay.2 λj hj=>i0 j (by rw[ab3]at hj;omega);exact⟨by rw[hv true hc];rfl,Ξ _⟩
end
section
variable {X:aG} {m:M}
abbrev wr(x:Int):Int:=IntKind.i64.wrap x
theorem EO(x:Int):wr x=if x%18446744073709551616>=9223372036854775808 then x%18446744073709551616-18446744073709551616 else x%18446744073709551616:=by unfold wr IntKind.wrap;simp[IntKind.bits,IntKind.signed]
theorem sn(x:Int):wr x%18446744073709551616=x%18446744073709551616:=by rw[EO];split <;>omega
theorem mg{x y:Int}(h:x%18446744073709551616=y%18446744073709551616):wr x=wr y:=by rw[EO,EO,h]
theorem AM(a b:Int):IntKind.i64.wrap (IntKind.i64.wrap a+b)=IntKind.i64.wrap (a+b):=mg (by
 have:=sn a
 show(wr a+b)%_=_
 omega)
theorem AL(a b:Int):IntKind.i64.wrap (a+IntKind.i64.wrap b)=IntKind.i64.wrap (a+b):=mg (by
 have:=sn b
 show(a+wr b)%_=_
 omega)
theorem uL(a b:Int):IntKind.i64.wrap (IntKind.i64.wrap a-b)=IntKind.i64.wrap (a-b):=mg (by
 have:=sn a
 show(wr a-b)%_=_
 omega)
theorem uK(a b:Int):IntKind.i64.wrap (a-IntKind.i64.wrap b)=IntKind.i64.wrap (a-b):=mg (by
 have:=sn b
 show(a-wr b)%_=_
 omega)
theorem AK(a b:Int):IntKind.i64.wrap (IntKind.i64.wrap a*b)=IntKind.i64.wrap (a*b):=mg (by
 have:=sn a
 show(wr a*b)%_=_
 rw[adD,this,<-adD])
theorem AJ(a b:Int):IntKind.i64.wrap (a*IntKind.i64.wrap b)=IntKind.i64.wrap (a*b):=mg (by
 have:=sn b
 show(a*wr b)%_=_
 rw[adD,this,<-adD])
def oK(N x:Int):Prop:= -N<=x/\x<=N
theorem oK.mul{A B a b:Int}(F:oK A a)(H:oK B b):oK (A*B) (a*b):=by obtain⟨a1,a2⟩:=F;obtain⟨b1,b2⟩:=H;have h1:0<=(A-a)*(B+b):=abA (by omega) (by omega);have h2:0<=(A+a)*(B-b):=abA (by omega) (by omega);have h3:0<=(A-a)*(B-b):=abA (by omega) (by omega);have h4:0<=(A+a)*(B+b):=abA (by omega) (by omega);constructor <;>grind
theorem oK.add{A B a b:Int}(F:oK A a)(H:oK B b):oK (A+B) (a+b):=by obtain⟨a1,a2⟩:=F;obtain⟨b1,b2⟩:=H;constructor <;>omega
theorem oK.sub{A B a b:Int}(F:oK A a)(H:oK B b):oK (A+B) (a-b):=by obtain⟨a1,a2⟩:=F;obtain⟨b1,b2⟩:=H;constructor <;>omega
theorem oK.wr{N x:Int}(h:oK N x)(F:N < 9223372036854775808):IntKind.i64.wrap x=x:=wrap64 (by have:=h.1;omega) (by have:=h.2;omega)
structure Ln where
 v:sd.V
structure Pt where
 v:sd.V
def vC(p:sd.V):aee:=[.int .i64 p.x,.int .i64 p.y,.int .i64 p.w]
instance:aP Ln where
 ty:=234
 sz:=3
 agg:=true
 fx:=[]
 rep _ p cs:=cs=vC p.v
 pos:=by decide
 one:=by intro h;cases h
 len:=by rintro _ _ _ rfl;rfl
 kN:=by rintro _ _ _ rfl;rfl
 bH:=by rintro _ _ _ _ rfl _;rfl
instance:aP Pt where
 ty:=236
 sz:=3
 agg:=true
 fx:=[]
 rep _ p cs:=cs=vC p.v
 pos:=by decide
 one:=by intro h;cases h
 len:=by rintro _ _ _ rfl;rfl
 kN:=by rintro _ _ _ rfl;rfl
 bH:=by rintro _ _ _ _ rfl _;rfl
theorem zE:uF TE 230 234 Ln:=⟨ag.t230,ag.t234,by kernel_rfl,⟨_,rfl⟩,rfl,by kernel_rfl,rfl,rfl⟩
theorem Nj:AF TE 230 Ln:=⟨ag.t230,ag.t234,by kernel_rfl,rfl,rfl,by kernel_rfl,by decide,rfl⟩
theorem JZ:uF TE 232 236 Pt:=⟨ag.t232,ag.t236,by kernel_rfl,⟨_,rfl⟩,rfl,by kernel_rfl,rfl,rfl⟩
theorem TC:AF TE 232 Pt:=⟨ag.t232,ag.t236,by kernel_rfl,rfl,rfl,by kernel_rfl,by decide,rfl⟩
theorem row_one{α:Type}[aP α]{b:Nat}{cs:aee}{x:α}{g:Option Nat}(h:m.get b=.cells cs (aP.ty α) g)(F:aP.rep m x cs):Sl m [x] (aec b 0 1 1):=by
 refine .inr ⟨b,0,1,cs,g,rfl,h,by rw[aP.len F];simp,λi y hi=>?_⟩
 match i with
 |0=>
  cases hi
  have:(cs.drop (0+0*aP.sz α)).take (aP.sz α)=cs:=by rw[ab0,aaq,aa0,aa5 (by rw[aP.len F];exact Ξ _)]
  rw[this];exact F
 |i+1=>simp at hi
theorem Av{l:List Pl}{i:Nat}{p:Pl}(h:l[i]?=some p):hH l i=p:=by unfold hH;rw[h];rfl
theorem BT(hX:cV X){l:List Pl}{v:aed}(hl:Sl m l v)(hv:bI l=true):∃r H,C X (.func 167) [v] m m.n r H/\Ext m H/\Ow m.n H ((oC l).map Ln.mk) r:=by
 have key:∃r H b,C X (.func 167) [v] m b r H/\b=m.n/\Ext m H/\Ow m.n H ((oC l).map Ln.mk) r:=by
  obtain⟨h3,h8⟩:=cx hv;have k0:=kF hv;refine Cl.heap (R:=λr H b=>b=m.n/\Ext m H/\Ow m.n H ((oC l).map Ln.mk) r) (hX.no _ rfl) Ss rfl ?_;rw[Ze];dsimp only[aI,δ,ε,ζ,η,θ,ι,κ,ν,υ,φ,χ,ψ];refine Lp.intro (γ:=Nat) (λi=>l.length-i) (λi vs mm lo=>∃r,vs=[r,.int .i64 i]/\i<=l.length/\Ext m mm/\m.n<=lo/\Ow m.n mm (((List.range i).map (fj l)).map Ln.mk) r) 0 ⟨_,rfl,aaQ _,.refl,Ξ _,.nil⟩ ?_;rintro i vs mm lo ⟨r,rfl,hi,hx,P0,i0⟩;have hn:=hx.n;rw[aH,aH,(hl.aD hx).len dS,aE,aX,ae,an];refine aq (λd0=>?_) (λD0=>?_)
  ·have d0:i < l.length:=by simpa using d0
   obtain⟨p,hp⟩:∃p,l[i]?=some p:=⟨_,Φ d0⟩
   obtain⟨q,hq⟩:∃p,l[(i+1)%l.length]?=some p:=⟨_,Φ (ab7 _ (by omega))⟩
   obtain⟨a,e1,e2⟩:=(hl.aD hx).nD (k:=.i64) hp;rw[e1,ae,e2,ae];refine au λQ0 I0 l0 o0=>?_;unfold ptrTo;refine aC jV l0 rfl rfl rfl λj0 J0 q0 r0=>?_;have a0:Ext mm j0:=⟨by omega,λb hb=>by rw[r0 b (by omega),o0 b hb]⟩
   refine az (ME hX ((hl.aD hx).aD a0) (by omega) d0 hq) ?_;refine au λS0 K0 s0 u0=>?_;refine aC jV s0 rfl rfl rfl λF L0 v0 z0=>?_;have b0:Ext j0 F:=⟨by omega,λb hb=>by rw[z0 b (by omega),u0 b hb]⟩
   have g1:F.get mm.n=.cells [.int .i64 p.x,.int .i64 p.y] 98 none:=by rw[b0.get _ (by omega),q0];rfl
   have g2:F.get j0.n=.cells [.int .i64 q.x,.int .i64 q.y] 98 none:=v0;have bp:=Pl.on (k0 p (aac hp));have bq:=Pl.on (k0 q (aac hq));have b1:oK 40 p.x:=⟨by omega,by omega⟩
   have b2:oK 40 p.y:=⟨by omega,by omega⟩
   have b3:oK 80 (q.x-p.x):=⟨by omega,by omega⟩
   have b4:oK 80 (q.y-p.y):=⟨by omega,by omega⟩
   have w3:IntKind.i64.wrap ((q.y-p.y)*p.x-(q.x-p.x)*p.y)=(q.y-p.y)*p.x-(q.x-p.x)*p.y:=((b4.mul b1).sub (b3.mul b2)).wr (by decide);have w1:IntKind.i64.wrap (p.y-q.y)=p.y-q.y:=wrap64 (by omega) (by omega);have w2:IntKind.i64.wrap (q.x-p.x)=q.x-p.x:=wrap64 (by omega) (by omega);simp only[cf,ck,cd,aF g1,aF g2,aaq,aad,aah,ae,fB,ej,uL,uK,AK,AJ,w1,w2,w3];have bl:∀a b c:Int,aR TE 234 [(0,.int .i64 a),(1,.int .i64 b),(2,.int .i64 c)]=some (.agg #[.int .i64 a,.int .i64 b,.int .i64 c]):=λa b c=>uc rfl rfl rfl;rw[bl,ae];obtain⟨L,hL⟩:∃L:sd.V,L=⟨p.y-q.y,q.x-p.x,(q.y-p.y)*p.x-(q.x-p.x)*p.y⟩:=⟨_,rfl⟩
   have E0:fj l i=L:=by unfold fj jZ;rw[Av hp,Av hq,hL]
   have F0:∀a b c:Int,aK TE F 230 1 [(0,.agg #[.int .i64 a,.int .i64 b,.int .i64 c])]=some (aec F.n 0 1 1,F.push (.cells [.int .i64 a,.int .i64 b,.int .i64 c] 234 none)):=λa b c=>by kernel_rfl
   rw[F0,aE];have e0:Ext F (F.push (.cells [.int .i64 (p.y-q.y),.int .i64 (q.x-p.x),.int .i64 ((q.y-p.y)*p.x-(q.x-p.x)*p.y)] 234 none)):=Ext.refl.push;generalize g0:F.push (.cells [.int .i64 (p.y-q.y),.int .i64 (q.x-p.x),.int .i64 ((q.y-p.y)*p.x-(q.x-p.x)*p.y)] 234 none)=A0 at*;have B0:A0.get F.n=.cells (vC L) 234 none:=by rw[<-g0,hL];exact M.bJ
   have M0:A0.n=F.n+1:=by rw[<-g0];rfl
   obtain⟨v',G0,ha,C0,h0,N0,O0⟩:=Ow.append (y:=aec F.n 0 1 1) (ys:=[Ln.mk L]) Nj (by simp[aP.fx]) (i0.aD (a0.trans (b0.trans e0))) (row_one B0 rfl) (by omega) (by simp;omega);rw[ha,aE,aQ,ae,wrap64 (by omega) (by omega)];have T0:=h0.n;refine⟨i+1,by omega,v',rfl,by omega,⟨by omega,λb hb=>by rw[h0.get b hb,e0.get b (by omega),b0.get b (by omega),a0.get b (by omega),hx.get b hb]⟩,by omega,?_⟩;rw[adg,abh,abh];show Ow m.n G0 (_++ [Ln.mk (fj l i)]) v';rw[E0];exact C0
  have H0:i=l.length:=by
   have:¬(i:Int)< (l.length:Int):=by simpa using D0
   omega
  subst H0;refine⟨.inl (i0.flat ?_),by omega,hx,i0⟩;intro h;have:=congrArg List.length h;rw[aaB,aaB,List.length_range,abc]at this;omega
 obtain⟨r,H,b,hc,rfl,h1,h2⟩:=key;exact⟨r,H,hc,h1,h2⟩
end
section
open Go Go.D Go.sd
variable {X:aG} {m:M}
theorem KU{L:List Ln}{v:aed}(h:Sl m L v){i:Nat}{x:Ln}(hx:L[i]?=some x):∃a a0 a1 a2,ak TE 230 v (.int .i64 i)=some a/\af TE 234 a 0=some a0/\ah TE m 3 a0=some (.int .i64 x.v.x)/\
  af TE 234 a 1=some a1/\ah TE m 3 a1=some (.int .i64 x.v.y)/\af TE 234 a 2=some a2/\ah TE m 3 a2=some (.int .i64 x.v.w):=by
 obtain⟨b,o,bc,g,cs,e1,F,H,_,hj⟩:=h.lU zE (k:=.i64) hx;have H:cs=vC x.v:=H;subst H;refine⟨_,_,_,_,e1,tY,?_,tX,?_,tW,?_⟩;·rw[cd,aF F,hj 0 (by decide)];rfl
 ·rw[cd,aF F,hj 1 (by decide)];rfl
 rw[cd,aF F,hj 2 (by decide)];rfl
theorem Kl{L:List Pt}{v:aed}(h:Sl m L v){i:Nat}{x:Pt}(H:L[i]?=some x):∃a,ak TE 232 v (.int .i64 i)=some a/\ah TE m 236 a=some (.agg (vC x.v).toArray):=by obtain⟨p,cs,e1,e2,F⟩:=h.index JZ (k:=.i64) H;have F:cs=vC x.v:=F;subst F;exact⟨p,e1,e2⟩
def Wd(p:V):Prop:=oK 80 p.x/\oK 80 p.y/\oK 6400 p.w
def Uj(p:V):Prop:=oK 1024000 p.x/\oK 1024000 p.y/\oK 12800 p.w
theorem oK.mono{A B x:Int}(h:oK A x)(F:A<=B):oK B x:=⟨by have:=h.1;omega,by have:=h.2;omega⟩
theorem oK.neg{A x:Int}(h:oK A x):oK A (-x):=⟨by have:=h.2;omega,by have:=h.1;omega⟩
theorem Fs{f g:V}(F:Wd f)(H:Wd g):Uj (meet f g):=by obtain⟨f1,f2,f3⟩:=F;obtain⟨g1,g2,g3⟩:=H;exact⟨((f2.mul g3).sub (g2.mul f3)).mono (by decide),((f3.mul g1).sub (g3.mul f1)).mono (by decide),((f1.mul g2).sub (g1.mul f2)).mono (by decide)⟩
theorem Fp{p:V}(h:Uj p):Uj (norm p):=by
 unfold norm;split;·exact⟨h.1.neg,h.2.1.neg,h.2.2.neg⟩
 exact h
def IM(L:List Ln)(p:V):Bool:=L.all λx=>decide (0<=x.v.dot p)
theorem FD{L:List Ln}{v21 va:aed}{B n1 k lo0:Nat}{acc:List Pt}{p:V}{mm:M}{P:aee->M->Nat->Prop}(hL:Sl mm L v21)(hB:mm.get B=.cells (vC p) 236 none)(g0:Ow n1 mm acc va)(r1:n1<=mm.n)
  (V0:∀x∈L,Wd x.v) (X0:Uj p) (k1:acc.length<=1000) (hk:k < 1000) (hlen:L.length<=16)
  (hP:∀r0 m' s0,mm.n<=m'.n->(∀c,c < n1->m'.get c=mm.get c)->min lo0 n1<=s0->Ow n1 m' (if IM L p then acc++ [Pt.mk p]else acc) r0->P [r0,.int .i64 ((k+1:Nat):Int)] m' s0):
  (Lp (λh0 o0 F b0=>un o0 λi0 u0=>un u0 λH o1=>(aT (av TE F .len [230] [v21]) λv0 _=>(aj (aw TE .lss 3 H v0) λz0=>(bD z0
(bD i0
(aj (ak TE 230 v21 H) λA0=>(aj (af TE 234 A0 0) λB0=>(aj (ah TE F 3 B0) λv124=>(aj (af TE 236 (ptrTo B) 0) λC0=>(aj (ah TE F 3 C0) λD0=>(aj (aw TE .mul 3 v124 D0) λv127=>(aj (ak TE 230 v21 H) λE0=>(aj (af TE 234 E0 1) λF0=>(aj (ah TE F 3 F0) λv130=>(aj (af TE 236 (ptrTo B) 1) λv131=>(aj (ah TE F 3 v131) λG0=>(aj (aw TE .mul 3 v130 G0) λH0=>(aj (aw TE .add 3 v127 H0) λI0=>(aj (ak TE 230 v21 H) λJ0=>(aj (af TE 234 J0 2) λK0=>(aj (ah TE F 3 K0) λL0=>(aj (af TE 236 (ptrTo B) 2) λv138=>(aj (ah TE F 3 v138) λv139=>(aj (aw TE .mul 3 L0 v139) λM0=>(aj (aw TE .add 3 I0 M0) λv141=>(aj (aw TE .geq 3 v141 (.int .i64 0)) λN0=>(aj (aw TE .add 3 H (.int .i64 1)) λv143=>(h0 [N0,v143] F b0)))))))))))))))))))))))
(aj (aw TE .add 3 H (.int .i64 1)) λO0=>(h0 [aei,O0] F b0)))
(bD i0
(aj (ah TE F 236 (ptrTo B)) λv145=>(aT (aK TE F 232 1 [(0,v145)]) λv146 j0=>(aT (av TE (M.wl j0 (M.n j0)) .append [232,232] [va,v146]) λv148 k0=>(aj (aw TE .add 3 (.int .i64 k) (.int .i64 1)) λP0=>(P [v148,P0] k0 (min b0 (M.low k0)))))))
(aj (aw TE .add 3 (.int .i64 k) (.int .i64 1)) λQ0=>(P [va,Q0] F b0))))))) [aeh,.int .i64 0] mm lo0):=by
 refine Lp.intro (γ:=Nat) (λi=>L.length-i) (λi vs m' lo=>vs=[.bool (IM (L.take i) p),.int .i64 i]/\i<=L.length/\mm=m'/\lo0=lo) 0 ⟨rfl,aaQ _,rfl,rfl⟩ ?_;rintro i vs m' lo ⟨rfl,hi,rfl,rfl⟩;rw[aH,aH,hL.len zE,aE,aX,ae,an,an];refine aq (λq0=>?_) (λY0=>?_)
 ·have q0:i < L.length:=by simpa using q0
  obtain⟨x,hx⟩:∃x,L[i]?=some x:=⟨_,Φ q0⟩
  have e0:IM (L.take (i+1)) p=(IM (L.take i) p && decide (0<=x.v.dot p)):=by unfold IM;rw[abo,hx,acx,ac9];simp
  refine aq (λd0=>?_) (λd0=>?_)
  ·obtain⟨a,a0,a1,a2,e1,f0,l0,f1,l1,f2,l2⟩:=KU hL hx;have d1:mm.get B=.cells [.int .i64 p.x,.int .i64 p.y,.int .i64 p.w] 236 none:=hB;obtain⟨b1,b2,b3⟩:=V0 x (aac hx);obtain⟨c1,c2,c3⟩:=X0;have hw:IntKind.i64.wrap (x.v.x*p.x+x.v.y*p.y+x.v.w*p.w)=x.v.dot p:=(((b1.mul c1).add (b2.mul c2)).add (b3.mul c3)).wr (by decide);simp only[e1,f0,l0,f1,l1,f2,l2,ae,ptrTo,jQ,jP,jO,cd,aF d1,aaq,aad,aah,ej,aQ,AM,AL,hw,cO];rw[wrap64 (by omega) (by omega)];exact⟨i+1,by omega,by rw[e0,d0,aav];rfl,by omega,by first |rfl |trivial,by first |rfl |trivial⟩
  rw[aQ,ae,wrap64 (by omega) (by omega)];exact⟨i+1,by omega,by rw[e0,d0,aaz];rfl,by omega,rfl,rfl⟩
 have g1:i=L.length:=by
  have:¬(i:Int)< (L.length:Int):=by simpa using Y0
  omega
 subst g1;rw[aa5 (Ξ _)];refine aq (λd0=>?_) (λd0=>?_)
 ·unfold ptrTo;rw[KQ,aJ hB (by simp[vC])];show aj (some (Value.agg #[.int .i64 p.x,.int .i64 p.y,.int .i64 p.w])) _;rw[ae];have h1:aK TE mm 232 1 [(0,.agg #[.int .i64 p.x,.int .i64 p.y,.int .i64 p.w])]=some (aec mm.n 0 1 1,mm.push (.cells (vC p) 236 none)):=by kernel_rfl
  rw[h1,aE];have S0:Ext mm (mm.push (.cells (vC p) 236 none)):=Ext.refl.push;generalize T0:mm.push (.cells (vC p) 236 none)=m1 at*;have i1:m1.get mm.n=.cells (vC p) 236 none:=by rw[<-T0];exact M.bJ
  have p1:m1.n=mm.n+1:=by rw[<-T0];rfl
  obtain⟨v',m2,ha,j1,U0,s1,u1⟩:=Ow.append (y:=aec mm.n 0 1 1) (ys:=[Pt.mk p]) TC (by simp[aP.fx]) (g0.aD S0) (row_one i1 rfl) (by omega) (by simp;omega);rw[ha,aE,aQ,ae,wrap64 (by omega) (by omega)];have h2:=U0.n;refine hP v' m2 _ (by omega) (λc hc=>by rw[U0.get c hc,S0.get c (by omega)]) (by omega) ?_;rw[aaf d0];exact j1
 rw[aQ,ae,wrap64 (by omega) (by omega)];refine hP va mm lo0 (Ξ _) (λ_ _=>rfl) (by omega) ?_;rw[aaa (by rw[d0];decide)];exact g0
theorem JR{va:aed}{lo0 n1:Nat}{acc:List Pt}{mm:M}{R:aee->M->Nat->Prop}(g0:Sl mm acc va)(J0:∀x∈acc,Uj x.v)(A3:acc.length<=1000)(E3:n1<=mm.n)
  (hT:∀m' l0 (u v w:Pt),u∈acc->v∈acc->w∈acc->kE u.v v.v w.v≠0->min lo0 n1<=l0->R [aeh] m' l0)
  (hF:∀m' l0,(∀(i k n:Nat) (u v w:Pt),n < k->k < i->acc[i]?=some u->acc[k]?=some v->acc[n]?=some w->kE u.v v.v w.v=0)->min lo0 n1<=l0->R [aei] m' l0):
  (Lp (λT0 K0 o0 q0=>un K0 λU0 V0=>un V0 λh0 B3=>(aT (av TE o0 .len [232] [va]) λv201 _=>(aj (aw TE .lss 3 h0 v201) λX0=>(bD X0
(Lp (λY0 L0 v0 r0=>un L0 λz0 d1=>un d1 λi0 C3=>(aj (aw TE .lss 3 i0 h0) λi1=>(bD i1
(Lp (λj1 M0 b0 e0=>un M0 λA0 k1=>un k1 λv218 D3=>(aj (aw TE .lss 3 v218 i0) λo1=>(bD o1
(aj (ak TE 232 va h0) λp1=>(aj (ah TE b0 236 p1) λv222=>(bZ (M.push b0 (.cells [.int .i64 0,.int .i64 0,.int .i64 0] 236 none)) λr1=>(aT (aA TE r1 236 (ptrTo (M.n b0)) v222) λH B0=>(aj (ak TE 232 va i0) λv226=>(aj (ah TE H 236 v226) λv227=>(bZ (M.push H (.cells [.int .i64 0,.int .i64 0,.int .i64 0] 236 none)) λs1=>(aT (aA TE s1 236 (ptrTo (M.n H)) v227) λa0 C0=>(aj (ak TE 232 va v218) λu1=>(aj (ah TE a0 236 u1) λv232=>(bZ (M.push a0 (.cells [.int .i64 0,.int .i64 0,.int .i64 0] 236 none)) λv1=>(aT (aA TE v1 236 (ptrTo (M.n a0)) v232) λF D0=>(aj (af TE 236 (ptrTo (M.n b0)) 0) λv236=>(aj (ah TE F 3 v236) λw1=>(aj (af TE 236 (ptrTo (M.n H)) 1) λz1=>(aj (ah TE F 3 z1) λA1=>(aj (af TE 236 (ptrTo (M.n a0)) 2) λB1=>(aj (ah TE F 3 B1) λC1=>(aj (aw TE .mul 3 A1 C1) λD1=>(aj (af TE 236 (ptrTo (M.n H)) 2) λE1=>(aj (ah TE F 3 E1) λF1=>(aj (af TE 236 (ptrTo (M.n a0)) 1) λG1=>(aj (ah TE F 3 G1) λH1=>(aj (aw TE .mul 3 F1 H1) λI1=>(aj (aw TE .sub 3 D1 I1) λJ1=>(aj (aw TE .mul 3 w1 J1) λK1=>(aj (af TE 236 (ptrTo (M.n b0)) 1) λL1=>(aj (ah TE F 3 L1) λN1=>(aj (af TE 236 (ptrTo (M.n H)) 0) λO1=>(aj (ah TE F 3 O1) λP1=>(aj (af TE 236 (ptrTo (M.n a0)) 2) λQ1=>(aj (ah TE F 3 Q1) λS1=>(aj (aw TE .mul 3 P1 S1) λT1=>(aj (af TE 236 (ptrTo (M.n H)) 2) λU1=>(aj (ah TE F 3 U1) λV1=>(aj (af TE 236 (ptrTo (M.n a0)) 0) λX1=>(aj (ah TE F 3 X1) λY1=>(aj (aw TE .mul 3 V1 Y1) λd2=>(aj (aw TE .sub 3 T1 d2) λi2=>(aj (aw TE .mul 3 N1 i2) λj2=>(aj (aw TE .sub 3 K1 j2) λk2=>(aj (af TE 236 (ptrTo (M.n b0)) 2) λo2=>(aj (ah TE F 3 o2) λs2=>(aj (af TE 236 (ptrTo (M.n H)) 0) λu2=>(aj (ah TE F 3 u2) λv2=>(aj (af TE 236 (ptrTo (M.n a0)) 1) λw2=>(aj (ah TE F 3 w2) λz2=>(aj (aw TE .mul 3 v2 z2) λA2=>(aj (af TE 236 (ptrTo (M.n H)) 1) λB2=>(aj (ah TE F 3 B2) λC2=>(aj (af TE 236 (ptrTo (M.n a0)) 0) λD2=>(aj (ah TE F 3 D2) λE2=>(aj (aw TE .mul 3 C2 E2) λF2=>(aj (aw TE .sub 3 A2 F2) λG2=>(aj (aw TE .mul 3 s2 G2) λH2=>(aj (aw TE .add 3 k2 H2) λI2=>(aj (aw TE .neq 3 I2 (.int .i64 0)) λJ2=>(bD J2
(R [aeh] F (min (min (min e0 B0) C0) D0))
(aj (aw TE .add 3 v218 (.int .i64 1)) λK2=>(j1 [A0,K2] F (min (min (min e0 B0) C0) D0)))))))))))))))))))))))))))))))))))))))))))))))))))))))))))))
(aj (aw TE .add 3 i0 (.int .i64 1)) λL2=>(Y0 [A0,L2] b0 e0))))) [z0,.int .i64 0] v0 r0)
(aj (aw TE .add 3 h0 (.int .i64 1)) λM2=>(T0 [z0,M2] v0 r0))))) [U0,.int .i64 0] o0 q0)
(R [aei] o0 q0))))) [aei,.int .i64 0] mm lo0):=by
 refine Lp.intro (γ:=Nat) (λi=>acc.length-i) (λi vs m' lo=>vs=[aei,.int .i64 i]/\i<=acc.length/\Ext mm m'/\min lo0 n1<=lo/\∀(i' k n:Nat) (u v w:Pt),i' < i->n < k->k < i'->acc[i']?=some u->acc[k]?=some v->acc[n]?=some w->kE u.v v.v w.v=0) 0 ⟨rfl,aaQ _,.refl,acI _ _,λi' _ _ _ _ _ h=>by omega⟩ ?_;rintro i vs m1 F3 ⟨rfl,hi,N2,E0,O2⟩;rw[aH,aH,(g0.aD N2).len JZ,aE,aX,ae,an];refine aq (λN0=>?_) (λY2=>?_)
 ·have N0:i < acc.length:=by simpa using N0
  obtain⟨u,hu⟩:∃u,acc[i]?=some u:=⟨_,Φ N0⟩
  refine Lp.intro (γ:=Nat) (λk=>i-k) (λk vs m' lo=>vs=[aei,.int .i64 k]/\k<=i/\Ext mm m'/\min lo0 n1<=lo/\∀(k' n:Nat) (v w:Pt),k' < k->n < k'->acc[k']?=some v->acc[n]?=some w->kE u.v v.v w.v=0) 0 ⟨rfl,aaQ _,N2,E0,λk' _ _ _ h=>by omega⟩ ?_;rintro k vs m2 nz ⟨rfl,hk,P2,F0,Q2⟩;rw[aH,aH,aX,ae,an];refine aq (λG0=>?_) (λS2=>?_)
  ·have G0:k < i:=by simpa using G0
   obtain⟨v,hv⟩:∃u,acc[k]?=some u:=⟨_,Φ (by omega)⟩
   refine Lp.intro (γ:=Nat) (λn=>k-n) (λn vs m' lo=>vs=[aei,.int .i64 n]/\n<=k/\Ext mm m'/\min lo0 n1<=lo/\∀(n':Nat) (w:Pt),n' < n->acc[n']?=some w->kE u.v v.v w.v=0) 0 ⟨rfl,aaQ _,P2,F0,λn' _ h=>by omega⟩ ?_;rintro n vs m3 G3 ⟨rfl,hn,j0,T2,U2⟩;rw[aH,aH,aX,ae,an];refine aq (λH0=>?_) (λV2=>?_)
   ·have H0:n < k:=by simpa using H0
    obtain⟨w,hw⟩:∃u,acc[n]?=some u:=⟨_,Φ (by omega)⟩
    have H3:=j0.n;obtain⟨a,e1,e2⟩:=Kl (g0.aD j0) hu;rw[e1,ae,e2,ae];unfold ptrTo;refine au λm4 I3 d3 e3=>?_;refine aC uS d3 rfl rfl rfl λm5 J3 i3 j3=>?_;have O0:Ext m3 m5:=⟨by omega,λb hb=>by rw[j3 b (by omega),e3 b hb]⟩
    obtain⟨a,e1,e2⟩:=Kl (g0.aD (j0.trans O0)) hv;rw[e1,ae,e2,ae];refine au λm6 K3 k3 l3=>?_;refine aC uS k3 rfl rfl rfl λm7 L3 n3 o3=>?_;have P0:Ext m5 m7:=⟨by omega,λb hb=>by rw[o3 b (by omega),l3 b hb]⟩
    obtain⟨a,e1,e2⟩:=Kl (g0.aD (j0.trans (O0.trans P0))) hw;rw[e1,ae,e2,ae];refine au λm8 N3 r3 s3=>?_;refine aC uS r3 rfl rfl rfl λm9 O3 u3 v3=>?_;have Q0:Ext m7 m9:=⟨by omega,λb hb=>by rw[v3 b (by omega),s3 b hb]⟩
    have g1:m9.get m3.n=.cells [.int .i64 u.v.x,.int .i64 u.v.y,.int .i64 u.v.w] 236 none:=by rw[Q0.get _ (by omega),P0.get _ (by omega),i3];rfl
    have g2:m9.get m5.n=.cells [.int .i64 v.v.x,.int .i64 v.v.y,.int .i64 v.v.w] 236 none:=by rw[Q0.get _ (by omega),n3];rfl
    have g3:m9.get m7.n=.cells [.int .i64 w.v.x,.int .i64 w.v.y,.int .i64 w.v.w] 236 none:=u3;obtain⟨a1,a2,a3⟩:=J0 u (aac hu);obtain⟨b1,b2,b3⟩:=J0 v (aac hv);obtain⟨c1,c2,c3⟩:=J0 w (aac hw);have w3:IntKind.i64.wrap (u.v.x*(v.v.y*w.v.w-v.v.w*w.v.y)-u.v.y*(v.v.x*w.v.w-v.v.w*w.v.x)+u.v.w*(v.v.x*w.v.y-v.v.y*w.v.x))=kE u.v v.v w.v:=(((a1.mul ((b2.mul c3).sub (b3.mul c2))).sub (a2.mul ((b1.mul c3).sub (b3.mul c1)))).add (a3.mul ((b1.mul c2).sub (b2.mul c1)))).wr (by decide);simp only[ae,jQ,jP,jO,cd,aF g1,aF g2,aF g3,aaq,aad,aah,ej,aQ,fB,AM,AL,uL,uK,AK,AJ,w3,da,an];refine aq (λz3=>?_) (λhe=>?_);·exact hT _ _ u v w (aac hu) (aac hv) (aac hw) (by simpa using z3) (by omega)
    rw[wrap64 (by omega) (by omega)];refine⟨n+1,by omega,rfl,by omega,j0.trans (O0.trans (P0.trans Q0)),by omega,λn' w' s0 d0=>?_⟩;by_cases e:n'=n;·subst e;rw[hw]at d0;cases d0;simpa using he
    exact U2 n' w' (by omega) d0
   have s0:n=k:=by
    have:¬(n:Int)< (k:Int):=by simpa using V2
    omega
   subst s0;rw[aQ,ae,wrap64 (by omega) (by omega)];refine⟨n+1,by omega,rfl,by omega,j0,T2,λk' n' v' w' u0 I0 k0 d0=>?_⟩;by_cases e:k'=n;·subst e;rw[hv]at k0;cases k0;exact U2 n' w' I0 d0
   exact Q2 k' n' v' w' (by omega) I0 k0 d0
  have u0:k=i:=by
   have:¬(k:Int)< (i:Int):=by simpa using S2
   omega
  subst u0;rw[aQ,ae,wrap64 (by omega) (by omega)];refine⟨k+1,by omega,rfl,by omega,P2,F0,λi' k' n' u' v' w' X2 s0 u0 S0 k0 d0=>?_⟩;by_cases e:i'=k;·subst e;rw[hu]at S0;cases S0;exact Q2 k' n' v' w' u0 s0 k0 d0
  exact O2 i' k' n' u' v' w' (by omega) s0 u0 S0 k0 d0
 have X2:i=acc.length:=by
  have:¬(i:Int)< (acc.length:Int):=by simpa using Y2
  omega
 subst X2;exact hF _ _ (λi k n u v w h1 h2 h3 h4 h5=>O2 i k n u v w (Ω.1 h3).1 h1 h2 h3 h4 h5) E0
end
section
open Go Go.D Go.sd
variable {X:aG} {m:M}
theorem Bf{a b:List Pl}{i:Nat}(hi:i < a.length):nO a b i=true↔∀q∈b,(fj a i).dot q.h<=0:=by
 obtain⟨p,H⟩:∃p,a[i]?=some p:=⟨_,Φ hi⟩
 obtain⟨q,hq⟩:∃p,a[(i+1)%a.length]?=some p:=⟨_,Φ (ab7 _ (by omega))⟩
 unfold nO fj;rw[H,hq,Av H,Av hq];simp only[aba,abF,aaC];constructor
 ·intro h c F;have:=h c F;rw[kD];omega
 intro h c F;have:=h c F;rw[kD]at this;omega
theorem Fb{a b:List Pl}:Sep a b↔¬dC a b < 0:=by
 constructor
 ·rintro⟨f,hf,h⟩ F
  obtain⟨i,hi,rfl⟩:=jt.1 hf
  have hs:=(Bf hi).2 h
  unfold dC at F
  cases H:(List.range a.length).find? (nO a b)with
  |some k=>rw[H]at F;simp only at F;omega
  |none=>have:=acK.1 H i (ab3.2 hi);exact this hs
 ·intro h
  unfold dC at h
  cases H:(List.range a.length).find? (nO a b)with
  |some k=>have h1:=adE H;have h2:=ab3.1 (acW H);exact⟨_,jt.2 ⟨k,h2,rfl⟩,(Bf h2).1 h1⟩
  |none=>rw[H]at h;exact absurd (by decide) h
theorem Bv{a b:List Pl}(F:bI a=true)(H:bI b=true):jb a b=true↔¬Sep a b/\¬Sep b a:=by unfold jb;rw[F,H];simp only[aco,aav,Ψ,aaC];rw[Fb,Fb];simp only[Classical.not_not]
theorem MO(p q r:V):kE q p r= -kE p q r:=by unfold kE;grind
theorem Qe(p q r:V):kE p r q= -kE p q r:=by unfold kE;grind
theorem Ti(p r:V):kE p p r=0:=by unfold kE;grind
theorem Tg(p r:V):kE r p p=0:=by unfold kE;grind
theorem Th(p r:V):kE p r p=0:=by unfold kE;grind
theorem Pn{acc:List Pt}(h:∀(i k n:Nat) (u v w:Pt),n < k->k < i->acc[i]?=some u->acc[k]?=some v->acc[n]?=some w->kE u.v v.v w.v=0){u v w:Pt}(hu:u∈acc)(hv:v∈acc)(hw:w∈acc):kE u.v v.v w.v=0:=by
 obtain⟨i,hi⟩:=aaN hu;obtain⟨k,H⟩:=aaN hv;obtain⟨n,F⟩:=aaN hw;by_cases e1:i=k;·subst e1;rw[hi]at H;cases H;exact Ti _ _
 by_cases e2:k=n;·subst e2;rw[H]at F;cases F;exact Tg _ _
 by_cases e3:i=n;·subst e3;rw[hi]at F;cases F;exact Th _ _
 have s1:=MO u.v v.v w.v;have s2:=Qe u.v v.v w.v;have s3:=MO u.v w.v v.v;have s4:=Qe v.v u.v w.v;have s5:=MO v.v w.v u.v;rcases ado e1 with a |a <;>rcases ado e2 with b |b <;>rcases ado e3 with c |c
 ·have:=h n k i w v u a b F H hi;omega
 ·omega
 ·have:=h k n i v w u c b H F hi;omega
 ·have:=h k i n v u w c a H hi F;omega
 ·have:=h n i k w u v a c F hi H;omega
 ·have:=h i n k u w v b c hi F H;omega
 ·omega
 have:=h i k n u v w b a hi H F;omega
theorem Hn{f g:V}(h:(meet f g).w≠0):norm (meet g f)=norm (meet f g):=by
 have e:meet g f=(meet f g).neg:=by
  unfold meet V.neg
  simp only
  congr 1 <;>omega
 rw[e];have hw:(meet f g).neg.w= -(meet f g).w:=rfl;unfold norm;by_cases F:(meet f g).w < 0;·rw[aaf F,aaa (by rw[hw];omega)]
 rw[aaa F,aaf (by rw[hw];omega)];unfold V.neg;simp only[Int.neg_neg]
structure sf(L:List Ln)(acc:List Pt)(i k:Nat):Prop where
 snd:∀p∈acc,jl (L.map (·.v)) p.v
 Ug:∀(i' k':Nat) (f g:Ln),(i' < i\/(i'=i/\k' < k))->i' < k'->L[i']?=some f->L[k']?=some g->(meet f.v g.v).w≠0->IM L (norm (meet f.v g.v))=true->Pt.mk (norm (meet f.v g.v))∈acc
theorem Ab{L:List Ln}{p:V}:IM L p=true↔∀f∈L.map (·.v),0<=f.dot p:=by
 unfold IM;simp only[aay,aaC,aaU];constructor;·rintro h _ ⟨x,F,rfl⟩;exact h x F
 intro h x F;exact h _ ⟨x,F,rfl⟩
theorem sf.skip{L:List Ln}{acc:List Pt}{i k:Nat}{f g:Ln}(h:sf L acc i k)(hf:L[i]?=some f)(hg:L[k]?=some g)(hn:¬((meet f.v g.v).w≠0/\IM L (norm (meet f.v g.v))=true)):sf L acc i (k+1):=
 ⟨h.snd,λi' k' f' g' hk a0 F H h1 h2=>by
  by_cases e:i'=i/\k'=k
  ·obtain⟨rfl,rfl⟩:=e
   rw[hf]at F;rw[hg]at H
   cases F;cases H
   exact absurd ⟨h1,h2⟩ hn
  ·exact h.Ug i' k' f' g' (by omega) a0 F H h1 h2⟩
theorem sf.add{L:List Ln}{acc:List Pt}{i k:Nat}{f g:Ln}(h:sf L acc i k)(hf:L[i]?=some f)(hg:L[k]?=some g)(h1:(meet f.v g.v).w≠0)(h2:IM L (norm (meet f.v g.v))=true):sf L (acc++ [Pt.mk (norm (meet f.v g.v))]) i (k+1):=
 ⟨λp hp=>by
  rcases aaR.1 hp with hp |hp
  ·exact h.snd p hp
  ·rw[abu]at hp
   subst hp
   exact⟨f.v,aaU.2 ⟨f,aac hf,rfl⟩,g.v,aaU.2 ⟨g,aac hg,rfl⟩,h1,rfl,Ab.1 h2⟩,
  λi' k' f' g' hk a0 F H n1 n2=>by
  by_cases e:i'=i/\k'=k
  ·obtain⟨rfl,rfl⟩:=e
   rw[hf]at F;rw[hg]at H
   cases F;cases H
   simp
  ·exact aaR.2 (.inl (h.Ug i' k' f' g' (by omega) a0 F H n1 n2))⟩
theorem sf.next{L:List Ln}{acc:List Pt}{i k:Nat}(h:sf L acc i k)(hk:L.length<=k){H:Nat}(a0:H<=i+2):sf L acc (i+1) H:=
 ⟨h.snd,λi' j f g hc F hf hg h1 h2=>h.Ug i' j f g (by have:=(Ω.1 hg).1;omega) F hf hg h1 h2⟩
theorem sf.wM{L:List Ln}{acc:List Pt}{k:Nat}(h:sf L acc L.length k){v:V}(hv:jl (L.map (·.v)) v):Pt.mk v∈acc:=by
 obtain⟨f,hf,g,hg,hm,rfl,H⟩:=hv;obtain⟨x,hx,rfl⟩:=aaU.1 hf;obtain⟨y,hy,rfl⟩:=aaU.1 hg;obtain⟨i,hi⟩:=aaN hx;obtain⟨j,F⟩:=aaN hy;have li:=(Ω.1 hi).1;have lj:=(Ω.1 F).1;rcases abS i j with e |e |e;·exact h.Ug i j x y (by omega) e hi F hm (Ab.2 H)
 ·subst e;rw[hi]at F;cases F;exfalso;apply hm;show x.v.x*x.v.y-x.v.x*x.v.y=0;omega
 rw[<-Hn (f:=x.v) (g:=y.v) hm]at H⊢;refine h.Ug j i y x (by omega) e F hi ?_ (Ab.2 H);intro h';apply hm;have:(meet y.v x.v).w= -(meet x.v y.v).w:=by show y.v.x*x.v.y-x.v.x*y.v.y= -(x.v.x*y.v.y-y.v.x*x.v.y);omega
 omega
theorem FM{l:List Pl}(hv:bI l=true):∀f∈oC l,Wd f:=by
 intro f hf;obtain⟨i,hi,rfl⟩:=jt.1 hf;obtain⟨h3,_⟩:=cx hv;have F:=kF hv;have b1:=Pl.on (F _ (EI hi));have b2:=Pl.on (F _ (EI (l:=l) (i:=(i+1)%l.length) (ab7 _ (by omega))));unfold fj jZ;generalize hH l i=p at*;generalize hH l ((i+1)%l.length)=q at*;have c1:oK 40 p.x:=⟨by omega,by omega⟩
 have c2:oK 40 p.y:=⟨by omega,by omega⟩
 have H:oK 80 (q.x-p.x):=⟨by omega,by omega⟩
 have c4:oK 80 (q.y-p.y):=⟨by omega,by omega⟩
 exact⟨⟨by show _<=p.y-q.y;omega,by show p.y-q.y<=_;omega⟩,H,((c4.mul c1).sub (H.mul c2)).mono (by decide)⟩
def Np(F:M)(n0:Nat)(L:List Ln)(i k:Nat)(vs:aee)(H:M)(lo:Nat):Prop:=
 ∃vc acc,vs=[vc,.int .i64 k]/\i+1<=k/\k<=L.length/\Ext F H/\n0<=lo/\Ow F.n H acc vc/\sf L acc i k/\acc.length<=16*i+k
theorem Bj(hX:cV X){a b:List Pl}{va vb:aed}(ha:Sl m a va)(hb:Sl m b vb)(la:a.length < 1000000)(lb:b.length < 1000000):
  C X (.func 111) [va,vb] m m.n (.bool (jb a b)) m:=by
 refine Cl.flat (hX.no _ rfl) SR rfl rfl ?_;rw[ZB];dsimp only[aI,δ,ε,ζ,η,θ,ι,κ,ν,ο,υ,φ,χ,ψ];refine cG (λvs mm lo=>vs=[.bool (!(bI a && bI b))]/\m=mm/\m.n<=lo) (λR hR=>?_) ?_
 ·refine az (sE hX ha (by omega)) ?_;rw[bM,ae,an];refine aq (λh=>?_) (λh=>?_)
  ·have h:bI a=false:=by simpa using h
   exact hR _ _ _ ⟨by rw[h];rfl,rfl,by omega⟩
  have h:bI a=true:=by simpa using h
  refine az (sE hX hb (by omega)) ?_;rw[bM,ae];exact hR _ _ _ ⟨by rw[h,aav],rfl,by omega⟩
 rintro _ _ lo ⟨rfl,rfl,N0⟩;rw[aH,an];refine aq (λh=>?_) (λh=>?_)
 ·refine⟨?_,N0⟩
  have:(bI a && bI b)=false:=by
   cases h':(bI a && bI b)with
   |false=>rfl
   |true=>rw[h']at h;cases h
  unfold jb;rw[this];rfl
 have hv:(bI a && bI b)=true:=by
  cases h':(bI a && bI b)with
  |true=>rfl
  |false=>rw[h']at h;cases h
 rw[Ψ]at hv;obtain⟨j0,k0⟩:=hv;obtain⟨U1,V1⟩:=cx j0;obtain⟨X1,Y1⟩:=cx k0;obtain⟨ra,z1,Q0,J0,S0⟩:=BT hX ha j0;refine az Q0 ?_;obtain⟨rb,c2,T0,K0,U0⟩:=BT (m:=z1) hX (hb.aD J0) k0;refine az T0 ?_;have n16:=J0.n;have n19:=K0.n;have V0:((oC a).map Ln.mk).length=a.length:=by simp[oC]
 have X0:((oC b).map Ln.mk).length=b.length:=by simp[oC]
 obtain⟨vL,F,Y0,L0,c1,P1,Q1⟩:=Ow.append Nj (by simp[aP.fx]) (S0.aD K0) U0.sl (by omega) (by rw[V0,X0];omega);rw[Y0,aE];obtain⟨L,hL⟩:∃L,L=(oC a).map Ln.mk++(oC b).map Ln.mk:=⟨_,rfl⟩
 rw[<-hL]at L0;have z0:=L0.sl;have d1:L.length<=16:=by rw[hL,aam,V0,X0];omega
 have G0:L.map (·.v)=oC a++oC b:=by rw[hL,abh,ada,ada];simp[Function.comp_def]
 have A0:∀x∈L,Wd x.v:=λx hx=>by
  have:x.v∈L.map (·.v):=aaU.2 ⟨x,hx,rfl⟩
  rw[G0]at this;rcases aaR.1 this with h |h;·exact FM j0 _ h
  exact FM k0 _ h
 have n22:=c1.n;have fin:∀(mm:M) (lo:Nat) (r:Bool),r=jb a b->m.n<=lo->aO [Value.bool r]=.bool (jb a b)/\m.n<=lo:=λmm lo r hr N0=>⟨by rw[<-hr];rfl,N0⟩
 have bp:∀a b c:Int,aR TE 236 [(0,.int .i64 a),(1,.int .i64 b),(2,.int .i64 c)]=some (.agg #[.int .i64 a,.int .i64 b,.int .i64 c]):=λa b c=>ub rfl rfl rfl;refine Lp.intro (γ:=Nat) (λi=>L.length-i) (λi vs mm lo=>∃vc acc,vs=[vc,.int .i64 i]/\i<=L.length/\Ext F mm/\m.n<=lo/\Ow F.n mm acc vc/\sf L acc i 0/\acc.length<=16*i) 0 ⟨_,[],rfl,aaQ _,.refl,by omega,.nil,⟨λp hp=>(by cases hp),λi' k' f g h=>by omega⟩,aaQ _⟩ ?_;rintro i vs mm d2 ⟨vc,acc,rfl,hi,hx,g1,s0,H,i1⟩;rw[aH,aH,(z0.aD hx).len zE,aE,aX,ae,an];refine aq (λO0=>?_) (λA1=>?_)
 ·have O0:i < L.length:=by simpa using O0
  obtain⟨f,hf⟩:∃f,L[i]?=some f:=⟨_,Φ O0⟩
  rw[aQ,ae,wrap64 (by omega) (by omega)];refine Lp.intro (γ:=Nat) (λk=>L.length-k) (Np F m.n L i) (i+1) ⟨vc,acc,rfl,Ξ _,by omega,hx,g1,s0,⟨H.snd,λi' k' f g hc j1 hf hg h1 h2=>H.Ug i' k' f g (by omega) j1 hf hg h1 h2⟩,by omega⟩ ?_;rintro k vs b0 nz ⟨vc,acc,rfl,j1,hk,a0,k1,s0,H,i1⟩;have n36:=a0.n;rw[aH,aH,(z0.aD a0).len zE,aE,aX,ae,an];refine aq (λB0=>?_) (λo1=>?_)
  ·have B0:k < L.length:=by simpa using B0
   obtain⟨g,hg⟩:∃f,L[k]?=some f:=⟨_,Φ B0⟩
   obtain⟨a1,g2,i2,a12,e1,f10,B1,f11,C1,f12,D1⟩:=KU (z0.aD a0) hf;obtain⟨a2,a20,a21,a22,e2,f20,E1,f21,F1,f22,G1⟩:=KU (z0.aD a0) hg;have bf:=A0 f (aac hf);have bg:=A0 g (aac hg);have bm:=Fs bf bg;have bn:=Fp bm;have wx:IntKind.i64.wrap (f.v.y*g.v.w-g.v.y*f.v.w)=(meet f.v g.v).x:=bm.1.wr (by decide);have wy:IntKind.i64.wrap (f.v.w*g.v.x-g.v.w*f.v.x)=(meet f.v g.v).y:=bm.2.1.wr (by decide);have ww:IntKind.i64.wrap (f.v.x*g.v.y-g.v.x*f.v.y)=(meet f.v g.v).w:=bm.2.2.wr (by decide);simp only[e1,f10,B1,f11,C1,f12,D1,e2,f20,E1,f21,F1,f22,G1,ae,ej,fB,uL,uK,wx,wy,ww,bp];refine au λj2 S1 p1 r1=>?_;unfold ptrTo;refine aC uS p1 rfl rfl rfl λh0 T1 l0 u1=>?_;have g0:Ext b0 h0:=⟨by omega,λb hb=>by rw[u1 b (by omega),r1 b hb]⟩
   have l0:h0.get b0.n=.cells (vC (meet f.v g.v)) 236 none:=l0;have C0:h0.get b0.n=.cells [.int .i64 (meet f.v g.v).x,.int .i64 (meet f.v g.v).y,.int .i64 (meet f.v g.v).w] 236 none:=l0
   have H1:∀mm:M,∀x y w:Int,mm.get b0.n=.cells [.int .i64 x,.int .i64 y,.int .i64 w] 236 none->ah TE mm 3 (aeb b0.n (0+0))=some (.int .i64 x)/\ah TE mm 3 (aeb b0.n (0+1))=some (.int .i64 y)/\ah TE mm 3 (aeb b0.n (0+2))=some (.int .i64 w):=λmm x y w h=>by refine⟨?_,?_,?_⟩ <;>rw[cd,aF h] <;>rfl
   have u0:∀(e0:aed) (m':M) (d0:Nat) (o0:List Pt),h0.n<=m'.n->(∀c,c < F.n->m'.get c=F.get c)->m.n<=d0->Ow F.n m' o0 e0->sf L o0 i (k+1)->o0.length<=acc.length+1->
     ∃g',L.length-g' < L.length-k/\Np F m.n L i g' [e0,Value.int .i64 ((k+1:Nat):Int)] m' d0:=λe0 m' d0 o0 h1 h2 h3 h4 h5 h6=>
    ⟨k+1,by omega,e0,o0,rfl,by omega,by omega,⟨by omega,h2⟩,h3,h4,h5,by omega⟩
   have H0:∀c,c < F.n->h0.get c=F.get c:=λc hc=>by rw[g0.get c (by omega),a0.get c hc]
   have v1:∀(p:V) (mm:M) (d0:Nat),p=norm (meet f.v g.v)->(meet f.v g.v).w≠0->mm.get b0.n=.cells (vC p) 236 none->Ext b0 mm->h0.n<=mm.n->m.n<=d0->∀(e0:aed) (m':M) (r0:Nat),mm.n<=m'.n->(∀c,c < F.n->m'.get c=mm.get c)->min d0 F.n<=r0->
     Ow F.n m' (if IM L p then acc++ [Pt.mk p]else acc) e0->∃g',L.length-g' < L.length-k/\Np F m.n L i g' [e0,Value.int .i64 ((k+1:Nat):Int)] m' r0:=by
    intro p mm d0 hp hw k2 w1 I0 M0 e0 m' r0 h1 h2 h3 h4
    by_cases Rn:IM L p=true
    ·rw[aaf Rn]at h4;refine u0 e0 m' r0 _ (by omega) (λc hc=>by rw[h2 c hc,w1.get c (by omega),a0.get c hc]) (by omega) h4 ?_ (by simp);rw[hp]at Rn⊢;exact H.add hf hg hw Rn
    ·rw[aaa Rn]at h4;refine u0 e0 m' r0 _ (by omega) (λc hc=>by rw[h2 c hc,w1.get c (by omega),a0.get c hc]) (by omega) h4 ?_ (by omega);exact H.skip hf hg λh=>Rn (by rw[hp];exact h.2)
   obtain⟨q0,q1,q2⟩:=H1 h0 _ _ _ C0;rw[jO,ae,q2,ae,aY,ae,an];refine aq (λhw=>?_) (λhw=>?_)
   ·have hw:(meet f.v g.v).w=0:=by simpa using hw
    rw[aQ,ae,wrap64 (by omega) (by omega)];exact u0 vc h0 _ acc (Ξ _) H0 (by omega) (s0.aD g0) (H.skip hf hg λh=>h.1 hw) (by omega)
   have hw:(meet f.v g.v).w≠0:=by simpa using hw
   rw[ae,q2,ae,aX,ae,an];refine aq (λD0=>?_) (λE0=>?_)
   ·have D0:(meet f.v g.v).w < 0:=by simpa using D0
    have I0:norm (meet f.v g.v)=(meet f.v g.v).neg:=by unfold norm;rw[aaf D0]
    have nx:∀{N x:Int},oK N x->N < 9223372036854775808->IntKind.i64.wrap (0-x)= -x:=λ{N x} h hN=>by rw[wrap64 (by have:=h.2;omega) (by have:=h.1;omega)];omega
    rw[jQ,ae,q0,ae,zy,ae,jP,ae,q1,ae,zy,ae,ae,q2,ae,zy,ae,nx bm.1 (by decide),nx bm.2.1 (by decide),nx bm.2.2 (by decide),bp,ae];refine aC uS C0 rfl rfl rfl λF0 I1 i0 P0=>?_;have i0:F0.get b0.n=.cells (vC (norm (meet f.v g.v))) 236 none:=by rw[I0];exact i0
    have v0:Ext b0 F0:=⟨by omega,λb hb=>by rw[P0 b (by omega),g0.get b hb]⟩
    exact FD (P:=λvs mm lo=>∃g',L.length-g' < L.length-k/\Np F m.n L i g' vs mm lo) (n1:=F.n) (z0.aD (a0.trans v0)) i0 (s0.aD v0) (by omega) A0 bn (by omega) (by omega) d1 (v1 _ F0 _ rfl hw i0 v0 (by omega) (by omega))
   have E0:¬(meet f.v g.v).w < 0:=by simpa using E0
   have I0:norm (meet f.v g.v)=meet f.v g.v:=by unfold norm;rw[aaa E0]
   exact FD (P:=λvs mm lo=>∃g',L.length-g' < L.length-k/\Np F m.n L i g' vs mm lo) (n1:=F.n) (z0.aD (a0.trans g0)) l0 (s0.aD g0) (by omega) A0 bm (by omega) (by omega) d1 (v1 _ h0 _ I0.symm hw l0 g0 (Ξ _) (by omega))
  have J1:k=L.length:=by
   have:¬(k:Int)< (L.length:Int):=by simpa using o1
   omega
  subst J1;rw[ae];exact⟨i+1,by omega,vc,acc,rfl,by omega,a0,k1,s0,H.next (Ξ _) (by omega),by omega⟩
 have K1:i=L.length:=by
  have:¬(i:Int)< (L.length:Int):=by simpa using A1
  omega
 subst K1;have o2:=hx.n
 have L1:∀x∈acc,Uj x.v:=λx hx=>by obtain⟨f,hf,g,hg,_,e,_⟩:=H.snd x hx;rw[e];obtain⟨f',N1,rfl⟩:=aaU.1 hf;obtain⟨g',O1,rfl⟩:=aaU.1 hg;exact Fp (Fs (A0 _ N1) (A0 _ O1))
 refine JR (R:=λvs _ lo=>aO vs=.bool (jb a b)/\m.n<=lo) (n1:=F.n) s0.sl L1 (by omega) (by omega) (λm' d0 u v w hu hv hw hd M0=>fin m' d0 true ?_ (by omega)) (λm' d0 hz M0=>fin m' d0 false ?_ (by omega))
 ·refine((Bv j0 k0).2 ⟨λhs=>hd ?_,λhs=>hd ?_⟩).symm;·exact Bz j0 k0 (L:=L.map (·.v)) (λf hf=>by rw[G0];exact aaR.2 hf) hs (H.snd _ hu) (H.snd _ hv) (H.snd _ hw)
  exact Bz k0 j0 (L:=L.map (·.v)) (λf hf=>by rw[G0];exact aaR.2 hf.symm) hs (H.snd _ hu) (H.snd _ hv) (H.snd _ hw)
 ·cases ho:jb a b with
  |false=>rfl
  |true=>exfalso;obtain⟨s1,s2⟩:=(Bv j0 k0).1 ho;obtain⟨u,v,w,cu,cv,cw,hd⟩:=JS j0 k0 s1 s2;rw[<-G0]at cu cv cw;exact hd (Pn hz (H.wM cu) (H.wM cv) (H.wM cw))
end
end Go.Proofs.YtmdfgncoekfgdaaGreatDoor
namespace Go.D
open Go
section
variable {E:Env} {α:Type} [aP α] {n1:Nat} {m:M} {l ys:List α} {v y:aed} {T:TypeId}
theorem Ow.EJ(hT:AF E T α)(j0:aP.ty α∉aP.fx α)(h:Ow n1 m l v)(hy:Sl m ys y)(hn:n1<=m.n)(hs:l.length+ys.length<=268435456)(e0:ys≠ []):
  ∃v' m1,av E (m.wl m.n) .append [T,T] [v,y]=some (v',m1)/\Ow m.n m1 (l++ys) v'/\CX n1 m m1/\n1<=m1.low/\m1.n=m.n+1:=by
 obtain⟨ti,ei,t1,t2,t3,t4,t5,t6⟩:=hT;obtain⟨news,e1,e2,e3,e4,e5⟩:=hy.first;have l0:=aP.pos (α:=α)
 have hc:(Nat.beq ti.es 0 ||Nat.blt 65536 ei.bytes || !news.all D.one ||Nat.blt 268435456 (l.length+ys.length) || !Nat.beq news.length (ys.length*ti.es) || !fL ei.zero ti.es)=false:=by
  have c1:Nat.beq ti.es 0=false:=by
   cases F:Nat.beq ti.es 0 with
   |false=>rfl
   |true=>have:=aab F;omega
  have c2:Nat.blt 65536 ei.bytes=false:=by
   cases F:Nat.blt 65536 ei.bytes with
   |false=>rfl
   |true=>rw[abZ]at F;omega
  have c3:Nat.blt 268435456 (l.length+ys.length)=false:=by
   cases F:Nat.blt 268435456 (l.length+ys.length)with
   |false=>rfl
   |true=>rw[abZ]at F;omega
  have c4:Nat.beq news.length (ys.length*ti.es)=true:=by rw[e3,t3];exact aa4 _
  rw[c1,c2,c3,c4,e4,t3,t6];rfl
 have a0:first? (m.wl m.n) ti.es ys.length y=some news:=by rw[cC,t3];exact e2
 rcases h with⟨rfl,rfl⟩ |⟨b,cs,rfl,h2,h3,h4,h5,h6⟩
 ·
  cases H:ys with
  |nil=>exact absurd H e0
  |cons y0 k0=>
   rw[<-H];have b0:0 < ys.length:=by rw[H];simp
   have d0:Nat.ble (0+ys.length) 0=false:=by
    cases F:Nat.ble (0+ys.length) 0 with
    |false=>rfl
    |true=>have:=aar F;omega
   refine⟨aec m.n 0 ys.length ys.length,(m.wl m.n).push (.cells news (aP.ty α) (some (aP.sz α))),?_,?_,⟨by show m.n<=m.n+1;omega,λc hc=>by rw[M.cE (by show c < m.n;omega)];rfl⟩,hn,rfl⟩
   ·simp only[av,dQ,t1,e1,t2,t4,a0];simp only[abc]at hc;rw[hc,d0];simp only[cond_false,kT];have:(Nat.beq 0 0 && Nat.beq 0 0)=true:=rfl;rw[this,t3];simp only[cond_true,aaq];rfl
   refine .inr ⟨m.n,news,by simp,by simpa using b0,Ξ _,M.bJ (m:=m.wl m.n),by simpa using e3,λi x hi=>?_⟩;have:=e5 i x (by simpa using hi);exact aP.aD this ⟨by show m.n<=m.n+1;omega,λc hc=>by rw[M.cE (m:=m.wl m.n) hc];rfl⟩
 ·
  have o0:=M.aL h4
  cases H:ys with
  |nil=>exact absurd H e0
  |cons y0 k0=>
   rw[<-H];have b0:0 < ys.length:=by rw[H];simp
   have d0:Nat.ble (l.length+ys.length) l.length=false:=by
    cases F:Nat.ble (l.length+ys.length) l.length with
    |false=>rfl
    |true=>have:=aar F;omega
   have hold:(bif Nat.beq l.length 0 then some []else loadCells (m.wl m.n) ⟨b,0,none⟩ (l.length*aP.sz α))=some cs:=by
    cases F:Nat.beq l.length 0 with
    |true=>have:=aab F;omega
    |false=>simp only[cond_false,bS];rw[aJ h4 (by omega),aa0,aa5 (by omega)]
   have g1:((some (aP.sz α):Option Nat).isNone ||((some (aP.sz α):Option Nat)==some (aP.sz α) && Nat.blt (0+l.length*aP.sz α) cs.length))=false:=by
    have:Nat.blt (0+l.length*aP.sz α) cs.length=false:=by
     cases F:Nat.blt (0+l.length*aP.sz α) cs.length with
     |false=>rfl
     |true=>rw[abZ]at F;omega
    rw[this];simp
   have g2:((some (aP.sz α):Option Nat)==some (aP.sz α) && Nat.beq 0 0 && (none:Option Nat).isNone && Nat.beq (l.length*aP.sz α) cs.length && Nat.beq l.length l.length && Nat.beq (aP.ty α) (aP.ty α))=true:=by rw[h5];simp
   refine⟨aec m.n 0 (l.length+ys.length) (l.length+ys.length),((m.wl m.n).set b .dead).push (.cells (cs++news) (aP.ty α) (some (aP.sz α))),?_,?_,⟨by show m.n<=m.n+1;omega,λc hc=>?_⟩,?_,rfl⟩
   ·simp only[av,dQ,t1,e1,t2,t4,a0];rw[hc,d0];simp only[cond_false,kT,t3];have hg:(m.wl m.n).get b=.cells cs (aP.ty α) (some (aP.sz α)):=h4;simp only[hg,hold,g1,cond_false];rw[g2];rfl
   ·have h0:∀c,c < m.n->c≠b->(((m.wl m.n).set b .dead).push (.cells (cs++news) (aP.ty α) (some (aP.sz α)))).get c=m.get c:=λc hc e0=>by rw[M.cE (by show c < m.n;exact hc),M.cL e0];rfl
    have g0:∀x c,aP.rep m x c->aP.rep (α:=α) (((m.wl m.n).set b .dead).push (.cells (cs++news) (aP.ty α) (some (aP.sz α)))) x c:=λx c hx=>by refine aP.bH hx λb' c' t g F ht=>?_;rw[h0 b' (M.aL F) (λe=>by subst e;rw[h4]at F;cases F;exact j0 ht),F]
    refine .inr ⟨m.n,cs++news,by simp,by simp;omega,Ξ _,M.bJ (m:=(m.wl m.n).set b .dead),by simp[h5,e3,aao],λi x hi=>?_⟩;by_cases i0:i < l.length
    ·rw[cN h5 i0];rw[aa9 i0]at hi;exact g0 _ _ (h6 i x hi)
    rw[cS h5 (by omega)];rw[aa1 (by omega)]at hi;exact g0 _ _ (e5 _ x hi)
   ·rw[M.cE (by show c < m.n;omega),M.cL (by omega)];rfl
   show n1<=min m.n b;omega
end
end Go.D
namespace Go.Proofs.YtmdfgncoekfgdaaGreatDoor
section
variable {X:aG} {m:M}
structure UW where
 u:Un
 w:aed
abbrev UW.c(x:UW):aee:=x.u.c x.w
abbrev UW.v(x:UW):aed:=x.u.v x.w
instance:aP UW where
 ty:=87
 sz:=6
 agg:=true
 fx:=[]
 rep _ x cs:=cs=x.c/\one x.w=true
 pos:=by decide
 one:=by intro h;cases h
 len:=by rintro _ _ _ ⟨rfl,_⟩;rfl
 kN:=by rintro _ x _ ⟨rfl,h⟩;exact Un.eN h
 bH:=by rintro _ _ _ _ h _;exact h
theorem eg:uF TE 29 87 UW:=⟨ag.t29,ag.t87,by kernel_rfl,⟨_,rfl⟩,rfl,by kernel_rfl,rfl,rfl⟩
theorem tf:AF TE 29 UW:=⟨ag.t29,ag.t87,by kernel_rfl,rfl,rfl,by kernel_rfl,by decide,rfl⟩
theorem _root_.Go.D.Sl.PY{l:List UW}{v:aed}(h:Sl m l v)(H:∀x∈l,Sl m x.u.shape x.w):Sl m (l.map (·.u)) v:=by
 rcases h with⟨rfl,rfl⟩ |⟨b,o,c,bc,g,rfl,h2,h3,h4⟩;·exact .inl ⟨rfl,rfl⟩
 refine .inr ⟨b,o,c,bc,g,by rw[aaB],h2,by rw[aaB];exact h3,λi u hi=>?_⟩;rw[aaA,aaj]at hi;obtain⟨x,F,rfl⟩:=hi;exact⟨x.w,(h4 i x F).1,H x (aac F)⟩
theorem _root_.Go.D.Sl.UA{l:List Un}{v:aed}(h:Sl m l v):∃l':List UW,l'.map (·.u)=l/\Sl m l' v/\∀x∈l',Sl m x.u.shape x.w:=by
 rcases h with⟨rfl,rfl⟩ |⟨b,o,c,H,g,rfl,h2,h3,h4⟩;·exact⟨[],rfl,.inl ⟨rfl,rfl⟩,λx F=>by cases F⟩
 have key:∀i u,l[i]?=some u->∃w,(H.drop (o+i*6)).take 6=u.c w/\Sl m u.shape w/\H[o+i*6+3]?=some w:=λi u hi=>by
  obtain⟨w,hw,hs⟩:=h4 i u hi;have hw:(H.drop (o+i*6)).take 6=u.c w:=hw;refine⟨w,hw,hs,?_⟩;have:=congrArg (·[3]?) hw
  simp only[aaI (show 3 < 6 by decide),aaW]at this;rw[this];rfl
 refine⟨l.mapIdx λi u=>⟨u,(H[o+i*6+3]?).getD undef⟩,?_,.inr ⟨b,o,c,H,g,by rw[adn],h2,by rw[adn];exact h3,λi x F=>?_⟩,λx F=>?_⟩
 ·refine abt λi=>?_;rw[aaA,acA];cases l[i]? <;>rfl
 ·rw[acA,aaj]at F;obtain⟨u,hu,rfl⟩:=F;obtain⟨w,hw,hs,hb⟩:=key i u hu;rw[hb];exact⟨hw,hs.one⟩
 obtain⟨i,hi⟩:=abU.1 F;rw[acA,aaj]at hi;obtain⟨u,hu,rfl⟩:=hi;obtain⟨w,hw,hs,hb⟩:=key i u hu;rw[hb];exact hs
abbrev mc:=Pl×List UW×Nat
abbrev mc.val(k:mc):aed:=.slice (some ⟨k.2.2,0,none⟩) k.2.1.length k.2.1.length
def Own(n1:Nat)(m:M)(l:List UW)(b:Nat):Prop:=0 < l.length/\n1<=b/\∃cs,m.get b=.cells cs 87 (some 6)/\cs.length=l.length*6/\∀i x,l[i]?=some x->aP.rep m x (chunk cs 6 i)
theorem Own.ow{n1:Nat}{l:List UW}{b:Nat}(h:Own n1 m l b):Ow n1 m l (aec b 0 l.length l.length):=by obtain⟨F,H,cs,h3,h4,h5⟩:=h;exact .inr ⟨b,cs,rfl,F,H,h3,h4,h5⟩
theorem Own.of{n1:Nat}{l:List UW}{v:aed}(h:Ow n1 m l v)(F:l≠ []):∃b,v=aec b 0 l.length l.length/\Own n1 m l b:=by
 rcases h with⟨_,h⟩ |⟨b,cs,rfl,H,h2,h3,h4,h5⟩;·exact absurd h F
 exact⟨b,rfl,H,h2,cs,h3,h4,h5⟩
theorem Own.bH{n1:Nat}{l:List UW}{b:Nat}{F:M}(h:Own n1 m l b)(H:F.get b=m.get b):Own n1 F l b:=by obtain⟨h1,h2,cs,h3,h4,h5⟩:=h;exact⟨h1,h2,cs,by rw[H,h3],h4,λi x hi=>h5 i x hi⟩
def Ny(es:List MapEntry)(kv:List mc):Prop:=es.map (λe=>(e.key,e.val))=kv.map (λk=>(k.1.v,mc.val k))
structure PM(n1:Nat)(m:M)(r:Nat)(kv:List mc):Prop where
 ex:∃es clock,m.get r=.map es clock/\Ny es kv/\(∀e∈es,e.born < clock)/\(es.map (·.born)).Nodup
 keys:(kv.map (·.1)).Nodup
 Nc:(kv.map (·.2.2)).Nodup
 own:∀k∈kv,Own n1 m k.2.1 k.2.2
def iH(kv:List mc)(p:Pl):List UW:=match kv.find? (λk=>decide (k.1=p))with |some k=>k.2.1 |none=> []
theorem PM.aD{n1 r:Nat}{kv:List mc}{F:M}(h:PM n1 m r kv)(H:Ext m F):PM n1 F r kv:=by obtain⟨es,clock,h1,h2⟩:=h.ex;refine⟨⟨es,clock,by rw[H.get r (M.yT h1),h1],h2⟩,h.keys,h.Nc,λk hk=>?_⟩;have ho:=h.own k hk;obtain⟨_,_,cs,h3,_⟩:=id ho;exact ho.bH (by rw[H.get _ (M.aL h3)])
theorem VH{p q:Pl}:eq? TE 98 p.v q.v=some (decide (p=q)):=by
 have e:eq? TE 98 p.v q.v=some ((p.x==q.x) && ((p.y==q.y) && true)):=by kernel_rfl
 rw[e];obtain⟨a,b⟩:=p;obtain⟨c,d⟩:=q;by_cases F:a=c <;>by_cases H:b=d <;>simp[F,H]
theorem BW{p:Pl}:keyed TE 98 p.v=true:=by kernel_rfl
theorem wh:∀{es:List MapEntry} {kv:List mc} {p:Pl} {i:Nat},Ny es kv->(iH kv p=[]/\p∉kv.map (·.1)/\findKey TE 98 p.v es i=some none)\/
  (∃j k,kv[j]?=some k/\k.1=p/\iH kv p=k.2.1/\findKey TE 98 p.v es i=some (some (i+j,mc.val k)))
 |[],[],p,i,_=> .inl ⟨rfl,by simp,rfl⟩
 |[],k::kv,_,_,h=>by cases h
 |e::es,[],_,_,h=>by cases h
 |e::es,k::kv,p,i,h=>by
  have h:(e.key,e.val)::es.map (λe=>(e.key,e.val))=(k.1.v,mc.val k)::kv.map (λk=>(k.1.v,mc.val k)):=h
  injection h with h1 h2
  injection h1 with hk hv
  have F:findKey TE 98 p.v (e::es) i=bif decide (p=k.1)then some (some (i,e.val))else findKey TE 98 p.v es (i+1):=by
   conv=>lhs;unfold findKey
   rw[hk,VH]
   cases decide (p=k.1)<;>rfl
  by_cases H:p=k.1
  ·refine .inr ⟨0,k,rfl,H.symm,?_,?_⟩
   ·unfold iH
    rw[ab4 (by simp[H])]
   ·rw[F,hv,show decide (p=k.1)=true by simp[H],cond_true];rfl
  ·have hg:iH (k::kv) p=iH kv p:=by
    unfold iH
    rw[abR (by simpa using λh=>H h.symm)]
   rw[F,show decide (p=k.1)=false by simp[H],cond_false,hg]
   rcases wh (p:=p) (i:=i+1) (show Ny es kv from h2)with⟨a,b,c⟩ |⟨j,k',a,b,c,d⟩
   ·exact .inl ⟨a,by simp[H]at b⊢;exact b,c⟩
   ·exact .inr ⟨j+1,k',by simpa using a,b,c,by rw[d,show i+1+j=i+(j+1) by omega]⟩
theorem EM:eZ TE 29=some aeg:=by kernel_rfl
theorem PM.lookup{n1 r:Nat}{kv:List mc}(h:PM n1 m r kv)(p:Pl):∃v,dn TE m 133 (.map (some r)) p.v false=some v/\Sl m (iH kv p) v:=by
 obtain⟨es,clock,F,H,_⟩:=h.ex
 have e:dn TE m 133 (.map (some r)) p.v false=match findKey TE 98 p.v es 0 with
   |some (some (_,v))=>some v
   |some none=>some aeg
   |none=>none:=by
  unfold dn
  rw[show TE.ty.get 133=some ag.t133 by kernel_rfl]
  dsimp only[ag.t133]
  rw[F]
  dsimp only
  rw[BW,cond_true,EM]
  rfl
 rw[e];rcases wh (p:=p) (i:=0) H with⟨a,b,c⟩ |⟨j,k,a,b,c,d⟩
 ·rw[c,a];exact⟨_,rfl,Sl.nil⟩
 rw[d,c];exact⟨_,rfl,(h.own k (aac a)).ow.sl⟩
end
section
variable {m:M}
theorem pX:∀{es:List MapEntry} {j i:Nat} {e:MapEntry},(es.map (·.born)).Nodup->es[j]?=some e->gW (e.born:Int) es i=some (i+j)
 |f::es,0,i,e,_,h=>by
  cases h
  unfold gW
  simp
 |f::es,j+1,i,e,F,h=>by
  have h:es[j]?=some e:=by simpa using h
  simp only[abT,adG]at F
  have H:f.born≠e.born:=λx=>F.1 (by rw[x];exact aaU.2 ⟨e,aac h,rfl⟩)
  unfold gW
  rw[show decide ((f.born:Int)=(e.born:Int))=false by simp;omega,cond_false,pX F.2 h,show i+1+j=i+(j+1) by omega]
theorem Fy{es:List MapEntry}{kv:List mc}(h:Ny es kv):es.length=kv.length:=by have:=congrArg List.length h;simpa using this
theorem Lc{es:List MapEntry}{kv:List mc}(h:Ny es kv){j:Nat}{e:MapEntry}{k:mc}(he:es[j]?=some e)(F:kv[j]?=some k):e.key=k.1.v/\e.val=mc.val k:=by
 have:=congrArg (·[j]?) h
 simp only[aaA,he,F,aag,aae,aaG]at this;exact this
theorem um{x:UW}:aK TE m 29 1 [(0,x.v)]=some (.slice (some ⟨m.n,0,none⟩) 1 1,m.push (.cells x.c 87 none)):=by kernel_rfl
theorem sA{x:UW}{b:Nat}{g:Option Nat}(h:m.get b=.cells x.c 87 g)(hw:one x.w=true):Sl m [x] (aec b 0 1 1):=
 .inr ⟨b,0,1,_,g,rfl,h,Ξ _,λi y hi=>by
  match i with
  |0=>cases hi;exact⟨rfl,hw⟩
  |i+1=>cases hi⟩
structure Fr1(n1 r:Nat)(m m':M):Prop where
 n:m.n<=m'.n
 cell:∀c cs t g,m.get c=.cells cs t g->(t≠87\/g=none)->m'.get c=.cells cs t g
 low:∀c,c < n1->c≠r->m'.get c=m.get c
theorem BP{r:Nat}{es:List MapEntry}{clock:Nat}(h:m.get r=.map es clock)(p:Pl):ez TE m 133 (.map (some r)) p.v=match findKey TE 98 p.v es 0 with
  |some (some (i,v))=>some (.tuple #[v,.int .i64 (((es[i]?).map (·.born)).getD 0)],m.set r (.map (es.modify i λe=>{e with key:=p.v}) clock))
  |some none=>some (.tuple #[aeg,.int .i64 clock],m.set r (.map (es++ [{key:=p.v,val:=aeg,born:=clock}]) (clock+1)))
  |none=>none:=by unfold ez;rw[show TE.ty.get 133=some ag.t133 by kernel_rfl];dsimp only[ag.t133];rw[h];dsimp only;rw[BW,cond_true,EM];rfl
theorem pO{r:Nat}{es:List MapEntry}{clock j:Nat}{b:Int}{v:aed}(h:m.get r=.map es clock)(F:gW b es 0=some j):dv m (.map (some r)) (.int .i64 b) v=some (m.set r (.map (es.modify j λe=>{e with val:=v}) clock)):=by unfold dv;dsimp only;rw[h];dsimp only;rw[F]
theorem Lq{kv:List mc}{j:Nat}{k:mc}{l:List UW}{b:Nat}(H:kv[j]?=some k)(hd:(kv.map (·.1)).Nodup)(q:Pl):iH (kv.set j (k.1,l,b)) q=if q=k.1 then l else iH kv q:=by
 induction kv generalizing j with
 |nil=>simp at H
 |cons f kv ih=>
  simp only[abT,adG]at hd
  cases j with
  |zero=>
   cases H;rw[adm];unfold iH;by_cases F:q=k.1;·rw[ab4 (by simp[F]),aaf F]
   rw[abR (by simpa using λh=>F h.symm),abR (by simpa using λh=>F h.symm),aaa F]
  |succ j=>
   have H:kv[j]?=some k:=by simpa using H
   rw[ach];have ih:=ih H hd.2;have a0:f.1≠k.1:=λe=>hd.1 (by rw[e];exact aaU.2 ⟨k,aac H,rfl⟩);unfold iH at ih⊢;by_cases F:f.1=q;·rw[ab4 (by simp[F]),ab4 (by simp[F]),aaa (λe=>a0 (F.trans e))]
   rw[abR (by simpa using F),abR (by simpa using F)];exact ih
theorem HH{kv:List mc}{k:mc}(hn:k.1∉kv.map (·.1))(q:Pl):iH (kv++ [k]) q=if q=k.1 then k.2.1 else iH kv q:=by
 induction kv with
 |nil=>
  unfold iH;by_cases F:q=k.1;·rw[aaf F,abz,ab4 (by simp[F])]
  rw[aaa F,abz,abR (by simpa using λh=>F h.symm)]
 |cons f kv H=>
  simp only[abT,aaS,not_or]at hn;have H:=H hn.2;rw[acC];unfold iH at H⊢;by_cases F:f.1=q;·rw[ab4 (by simp[F]),ab4 (by simp[F]),aaa (λe=>hn.1 (e.symm.trans F.symm))]
  rw[abR (by simpa using F),abR (by simpa using F)];exact H
theorem oW{α:Type}:∀{l:List α},l.Nodup↔∀(i j:Nat) (x:α),l[i]?=some x->l[j]?=some x->i=j
 |[]=>by simp
 |a::l=>by
  rw[adG,oW (l:=l)]
  constructor
  ·rintro⟨H,h2⟩ i j x hi F
   match i,j with
   |0,0=>rfl
   |0,j+1=>cases hi;exact absurd (aac (by simpa using F)) H
   |i+1,0=>cases F;exact absurd (aac (by simpa using hi)) H
   |i+1,j+1=>rw[h2 i j x (by simpa using hi) (by simpa using F)]
  ·intro h
   refine⟨λhm=>?_,λi j x hi F=>?_⟩
   ·obtain⟨i,hi⟩:=abU.1 hm
    have:=h 0 (i+1) a rfl (by simpa using hi)
    omega
   ·have:=h (i+1) (j+1) x (by simpa using hi) (by simpa using F)
    omega
theorem get_modify{α:Type}{l:List α}{j i:Nat}{f:α->α}:(l.modify j f)[i]?=if j=i then l[i]?.map f else l[i]?:=by
 rw[acT];by_cases h:j=i;·simp only[h,abq];cases l[i]? <;>rfl
 simp only[h,if_false];cases l[i]? <;>rfl
theorem wg{es:List MapEntry}{kv:List mc}{j:Nat}{k:mc}{p:Pl}(h:Ny es kv)(H:kv[j]?=some k)(hp:k.1=p):es.modify j (λe=>{e with key:=p.v})=es:=by
 refine abt λi=>?_;rw[get_modify];by_cases F:j=i
 ·subst F
  rw[aaf rfl]
  cases he:es[j]? with
  |none=>rfl
  |some e=>have:=(Lc h he H).1;simp only[aag,aae];rw[<-hp,<-this]
 rw[aaa F]
theorem we{es:List MapEntry}{kv:List mc}{j:Nat}{k:mc}(h:Ny es kv){p:Pl}{l:List UW}{b:Nat}(H:kv[j]?=some k)(hp:k.1=p):
  Ny (es.modify j (λe=>{e with val:=mc.val (p,l,b)})) (kv.set j (p,l,b)):=by
 unfold Ny;refine abt λi=>?_;rw[aaA,aaA,get_modify,acN];have hlen:=Fy h;by_cases F:j=i
 ·subst F;have hj:=(Ω.1 H).1;rw[aaf rfl,aaf rfl,aaf hj];obtain⟨e,he⟩:∃e,es[j]?=some e:=⟨_,Φ (by omega)⟩
  rw[he];have:=(Lc h he H).1;show some (e.key,mc.val (p,l,b))=some (p.v,mc.val (p,l,b));rw[this,hp]
 rw[aaa F,aaa F];have:=congrArg (·[i]?) h
 simp only[aaA]at this;rw[<-this]
theorem tI{es:List MapEntry}{j:Nat}{v:aed}:(es.modify j (λe=>{e with val:=v})).map (·.born)=es.map (·.born):=by
 refine abt λi=>?_;rw[aaA,aaA,get_modify];by_cases F:j=i;·rw[aaf F];cases es[i]? <;>rfl
 rw[aaa F]
theorem PM.add{n0 n1 r:Nat}{kv:List mc}(h:PM n1 m r kv)(D1:n0<=r)(E1:n0<=n1)(F1:n1<=m.n)(hr:r < n1){p:Pl}{u:UW}(hw:one u.w=true)(hs:(iH kv p).length < 1000000){P:M->M->M->Prop}
  (hP:∀m2 F m4 S0,PM n1 m4 r S0->(∀q,iH S0 q=if q=p then iH kv p++ [u]else iH kv q)->Fr1 n1 r m m4->m2.n=m.n+1->F.n=m.n+2->m4.n=m.n+2->n0<=m2.low->n0<=F.low->n0<=m4.low->P m2 F m4):
  aT (aK TE m 29 1 [(0,u.v)]) λa m1=>aT (ez TE (m1.wl m1.n) 133 (.map (some r)) p.v) λe m2=>aj (bF e 0) λiG=>
   aT (av TE (m2.wl m2.n) .append [29,29] [iG,a]) λnw F=>aj (bF e 1) λst=>aj (dv (F.wl F.n) (.map (some r)) st nw) λm4=>P m2 F m4:=by
 rw[um,aE];obtain⟨es,clock,he,o0,i0,F0⟩:=h.ex;generalize G0:m.push (.cells u.c 87 none)=m1;have B1:m1.n=m.n+1:=by rw[<-G0];rfl
 have A0:Ext m m1:=by rw[<-G0];exact Ext.refl.push
 have d1:m1.get m.n=.cells u.c 87 none:=by rw[<-G0];exact M.bJ
 have g1:r < m.n:=M.yT he;have i1:(m1.wl m1.n).get r=.map es clock:=by show m1.get r=_;rw[A0.get r g1,he]
 rw[BP i1]
 have tail:∀(m2:M) (iG:aed) (ol:List UW),m2.n=m1.n->m2.low=r->(∀c,c≠r->m2.get c=m1.get c)->Ow n1 m2 ol iG->ol.length < 1000000->
   ∃nw F b,av TE (m2.wl m2.n) .append [29,29] [iG,aec m.n 0 1 1]=some (nw,F)/\nw=mc.val (p,ol++ [u],b)/\Own n1 F (ol++ [u]) b/\m.n+1<=b/\F.n=m.n+2/\n1<=F.low/\(∀c,c < m2.n->(∀a n k,iG=.slice (some a) n k->c≠a.block)->F.get c=m2.get c)/\(∀c,c < n1->F.get c=m2.get c):=by
  intro m2 iG ol B0 C0 h0 j1 hlen
  have k1:m2.get m.n=.cells u.c 87 none:=by rw[h0 _ (by omega),d1]
  obtain⟨nw,F,e1,ho,hf,hl,G1⟩:=j1.EJ tf (by simp[aP.fx]) (sA k1 hw) (by omega) (by simp;omega) (by simp)
  obtain⟨b,rfl,hb⟩:=Own.of ho (by simp)
  exact⟨_,F,b,e1,rfl,⟨hb.1,by have:=hb.2.1;omega,hb.2.2⟩,by have:=hb.2.1;omega,by omega,hl,λc H o1=>iX e1 H o1,hf.get⟩
 have r0:∀c cs t g,m.get c=.cells cs t g->c≠r:=λc cs t g H e=>by subst e;rw[he]at H;cases H
 rcases wh (p:=p) (i:=0) o0 with⟨a,b,c⟩ |⟨j,k,hj,s0,T0,H0⟩
 ·
  rw[c]
  dsimp only
  rw[aE,cp]
  simp only[aad,aah,ae]
  generalize b0:(m1.wl m1.n).set r (.map (es++ [{key:=p.v,val:=aeg,born:=clock}]) (clock+1))=m2
  have B0:m2.n=m1.n:=by rw[<-b0];rfl
  have C0:m2.low=r:=by rw[<-b0];show min m1.n r=r;omega
  have h0:∀c,c≠r->m2.get c=m1.get c:=λc H=>by rw[<-b0,M.cL H];rfl
  have I0:m2.get r=.map (es++ [{key:=p.v,val:=aeg,born:=clock}]) (clock+1):=by rw[<-b0];exact M.cY (m:=m1.wl m1.n) (by show r < m1.n;omega)
  obtain⟨nw,F,b',e1,rfl,u0,p1,J0,r1,K0,j0⟩:=tail m2 aeg [] B0 C0 h0 Ow.nil (by simp)
  rw[e1,aE,cp]
  simp only[aad,aah,ae]
  have L0:(F.wl F.n).get r=.map (es++ [{key:=p.v,val:=aeg,born:=clock}]) (clock+1):=by show F.get r=_;rw[j0 r hr,I0]
  have v0:((es++ [{key:=p.v,val:=aeg,born:=clock}]:List MapEntry).map (·.born)).Nodup:=by rw[abh];refine ads.2 ⟨F0,by simp,?_⟩;intro x hx y hy M0;obtain⟨e,N0,rfl⟩:=aaU.1 hx;have:=i0 e N0;simp at hy;omega
  have O0:gW ((clock:Nat):Int) (es++ [{key:=p.v,val:=aeg,born:=clock}]) 0=some es.length:=by have:=pX (i:=0) (j:=es.length) (e:={key:=p.v,val:=aeg,born:=clock}) v0 (by simp);rw[this,aaq]
  rw[pO L0 O0,ae]
  generalize d0:(F.wl F.n).set r _=m4
  have s1:m4.n=F.n:=by rw[<-d0];rfl
  have z0:∀c,c≠r->m4.get c=F.get c:=λc H=>by rw[<-d0,M.cL H];rfl
  have P0:m4.low=r:=by rw[<-d0];show min F.n r=r;omega
  have Q0:m4.get r=.map (es++ [{key:=p.v,val:=mc.val (p,[]++ [u],b'),born:=clock}]) (clock+1):=by
   rw[<-d0,M.cY (m:=F.wl F.n) (by show r < F.n;omega)]
   congr 1
   refine abt λi=>?_
   rw[get_modify]
   by_cases hi:es.length=i
   ·subst hi;simp
   ·rw[aaa hi];by_cases U0:i < es.length;·rw[aa9 U0,aa9 U0]
    rw[abb (by simp;omega),abb (by simp;omega)]
  have a0:∀c,c < m.n->c≠r->m4.get c=m.get c:=λc H e0=>by rw[z0 c e0,K0 c (by omega) (λa n k e=>by cases e),h0 c e0,A0.get c H]
  refine hP m2 F m4 (kv++ [(p,[]++ [u],b')]) ⟨⟨_,_,Q0,?_,?_,?_⟩,?_,?_,?_⟩ ?_ ⟨by omega,?_,?_⟩ (by omega) J0 (by omega) (by omega) (by omega) (by omega)
  ·unfold Ny at o0⊢;rw[abh,abh,o0];rfl
  ·intro e N0;rcases aaR.1 N0 with h |h;·have:=i0 e h;omega
   obtain rfl:=abu.1 h;show clock < clock+1;omega
  ·rw[abh]at v0⊢;exact v0
  ·rw[abh];exact ads.2 ⟨h.keys,by simp,λx hx y hy M0=>b (by simp at hy;rw[<-hy,<-M0];exact hx)⟩
  ·rw[abh];refine ads.2 ⟨h.Nc,by simp,λx hx y hy M0=>?_⟩;obtain⟨k,hk,rfl⟩:=aaU.1 hx;obtain⟨_,_,cs,g0,_⟩:=h.own k hk;have:=M.aL g0;simp at hy;omega
  ·intro k hk;rcases aaR.1 hk with hk |hk
   ·have ho:=h.own k hk;obtain⟨_,_,cs,g0,_⟩:=id ho;exact ho.bH (a0 _ (M.aL g0) (r0 _ _ _ _ g0))
   obtain rfl:=abu.1 hk;exact u0.bH (z0 _ (by show b'≠r;omega))
  ·intro q;rw[HH b q,a]
  ·intro c cs t g H _;rw[a0 c (M.aL H) (r0 _ _ _ _ H),H]
  ·intro c H e0;exact a0 c (by omega) e0
 ·
  have D0:=(Ω.1 hj).1
  have hlen:=Fy o0
  obtain⟨e,V0⟩:∃e,es[j]?=some e:=⟨_,Φ (by omega)⟩
  rw[H0]
  dsimp only
  rw[aE,cp]
  simp only[aad,aah,ae,aaq,V0,aag,abN]
  rw[wg o0 hj s0]
  generalize b0:(m1.wl m1.n).set r (.map es clock)=m2
  have B0:m2.n=m1.n:=by rw[<-b0];rfl
  have C0:m2.low=r:=by rw[<-b0];show min m1.n r=r;omega
  have h0:∀c,c≠r->m2.get c=m1.get c:=λc H=>by rw[<-b0,M.cL H];rfl
  have I0:m2.get r=.map es clock:=by rw[<-b0];exact M.cY (m:=m1.wl m1.n) (by show r < m1.n;omega)
  have X0:=h.own k (aac hj)
  obtain⟨_,H1,I1,l0,_⟩:=id X0
  have C1:=M.aL l0
  have Y0:∀c cs t g,m.get c=.cells cs t g->m2.get c=.cells cs t g:=λc cs t g H=>by rw[h0 c (r0 _ _ _ _ H),A0.get c (M.aL H),H]
  have a1:Own n1 m2 k.2.1 k.2.2:=X0.bH (by rw[l0];exact Y0 _ _ _ _ l0)
  obtain⟨nw,F,b',e1,rfl,u0,p1,J0,r1,K0,j0⟩:=tail m2 (mc.val k) k.2.1 B0 C0 h0 a1.ow (by rw[<-T0];exact hs)
  rw[e1,aE,cp]
  simp only[aad,aah,ae]
  have L0:(F.wl F.n).get r=.map es clock:=by show F.get r=_;rw[j0 r hr,I0]
  have O0:gW ((e.born:Nat):Int) es 0=some j:=by rw[pX (i:=0) F0 V0,aaq]
  rw[pO L0 O0,ae]
  generalize d0:(F.wl F.n).set r _=m4
  have s1:m4.n=F.n:=by rw[<-d0];rfl
  have z0:∀c,c≠r->m4.get c=F.get c:=λc H=>by rw[<-d0,M.cL H];rfl
  have P0:m4.low=r:=by rw[<-d0];show min F.n r=r;omega
  have Q0:m4.get r=.map (es.modify j λe=>{e with val:=mc.val (p,k.2.1++ [u],b')}) clock:=by rw[<-d0,M.cY (m:=F.wl F.n) (by show r < F.n;omega)]
  have a0:∀c,c < m.n->c≠r->c≠k.2.2->m4.get c=m.get c:=λc H e0 u1=>by rw[z0 c e0,K0 c (by omega) (λa n q e=>by cases e;exact u1),h0 c e0,A0.get c H]
  have c1:kv.set j (p,k.2.1++ [u],b')=kv.set j (k.1,k.2.1++ [u],b'):=by rw[s0]
  refine hP m2 F m4 (kv.set j (p,k.2.1++ [u],b')) ⟨⟨_,_,Q0,we o0 hj s0,?_,?_⟩,?_,?_,?_⟩ ?_ ⟨by omega,?_,?_⟩ (by omega) J0 (by omega) (by omega) (by omega) (by omega)
  ·intro f hf;have:f.born∈(es.modify j λe=>{e with val:=mc.val (p,k.2.1++ [u],b')}).map (·.born):=aaU.2 ⟨f,hf,rfl⟩
   rw[tI]at this;obtain⟨f',v1,w1⟩:=aaU.1 this;rw[<-w1];exact i0 f' v1
  ·rw[tI];exact F0
  ·have e:(kv.set j (p,k.2.1++ [u],b')).map (·.1)=kv.map (·.1):=by
    rw[ady];refine abt λi=>?_;rw[acN];by_cases q0:j=i;·subst q0;rw[aaf rfl,aaB,aaf D0,aaA,hj,aag,s0]
    rw[aaa q0]
   rw[e];exact h.keys
  ·rw[ady]
   have E0:b'∉kv.map (·.2.2):=λz1=>by obtain⟨q,hq,J1⟩:=aaU.1 z1;obtain⟨_,_,cs,g0,_⟩:=h.own q hq;have:=M.aL g0;omega
   have hold:=oW.1 h.Nc;refine oW.2 λi i' x hi k0=>?_;rw[acN,aaB]at hi k0;by_cases h1:j=i <;>by_cases h2:j=i'
   ·omega
   ·rw[aaf h1,aaf D0]at hi;rw[aaa h2]at k0;cases hi;exact absurd (aac k0) E0
   ·rw[aaf h2,aaf D0]at k0;rw[aaa h1]at hi;cases k0;exact absurd (aac hi) E0
   rw[aaa h1]at hi;rw[aaa h2]at k0;exact hold i i' x hi k0
  ·intro q hq;obtain⟨i,hi⟩:=abU.1 hq;rw[acN]at hi;by_cases q0:j=i
   ·rw[aaf q0,aaf D0]at hi;cases hi;exact u0.bH (z0 _ (by show b'≠r;omega))
   rw[aaa q0]at hi;have ho:=h.own q (aac hi);obtain⟨_,_,cs,g0,_⟩:=id ho
   have A1:q.2.2≠k.2.2:=λe=>by exact q0 (oW.1 h.Nc j i q.2.2 (by rw[aaA,hj,aag,e]) (by rw[aaA,hi,aag]))
   exact ho.bH (a0 _ (M.aL g0) (r0 _ _ _ _ g0) A1)
  ·intro q;rw[c1,Lq hj h.keys q,s0,T0]
  ·intro c cs t g H ht
   rw[a0 c (M.aL H) (r0 _ _ _ _ H) (λe=>by
    subst e;rw[l0]at H;cases H;rcases ht with h |h;·exact h rfl
    cases h),H]
  ·intro c H e0;exact a0 c (by omega) e0 (by omega)
end
section
variable {X:aG} {m:M}
def fq(l:List Pl)(i:Nat):Pl:=(l.take i).foldl (λq p=>⟨min q.x p.x,min q.y p.y⟩) (l.headD ⟨0,0⟩)
def gh(l:List Pl)(i:Nat):Pl:=(l.take i).foldl (λq p=>⟨max q.x p.x,max q.y p.y⟩) (l.headD ⟨0,0⟩)
theorem qF{l:List Pl}{i:Nat}{p:Pl}(h:l[i]?=some p):fq l (i+1)=⟨min (fq l i).x p.x,min (fq l i).y p.y⟩:=by unfold fq;rw[abo,h,acx,List.foldl_append];rfl
theorem qG{l:List Pl}{i:Nat}{p:Pl}(h:l[i]?=some p):gh l (i+1)=⟨max (gh l i).x p.x,max (gh l i).y p.y⟩:=by unfold gh;rw[abo,h,acx,List.foldl_append];rfl
def Pl.bZ(p:Pl):Prop:=0<=p.x/\p.x<=40/\0<=p.y/\p.y<=40
theorem Na{l:List Pl}(F:∀p∈l,p.off=false)(H:l≠ []):∀i,i<=l.length->(fq l i).bZ/\(gh l i).bZ/\(fq l i).x<=(gh l i).x/\(fq l i).y<=(gh l i).y
 |0,_=>by
  cases l with
  |nil=>exact absurd rfl H
  |cons p l=>
   have:=Pl.on (F p aaP)
   exact⟨this,this,aci _,aci _⟩
 |i+1,hi=>by
  obtain⟨h1,h2,h3,h4⟩:=Na F H i (by omega)
  obtain⟨p,hp⟩:∃p,l[i]?=some p:=⟨_,Φ (by omega)⟩
  have:=Pl.on (F p (aac hp))
  rw[qF hp,qG hp]
  unfold Pl.bZ at h1 h2⊢
  dsimp only
  omega
def xM(l:List Pl)(q:Pl):Bool:=decide ((fq l l.length).x<=q.x) && decide (q.x < (gh l l.length).x) && decide ((fq l l.length).y<=q.y) && decide (q.y < (gh l l.length).y)
def nE(u:Un)(q:Pl):Bool:=xM u.shape q && decide (0<=ka u.shape q.x q.y)
def wL(us:List UW)(q:Pl):List UW:=us.filter λu=>nE u.u q
def lG(y x:Int)(q:Pl):Bool:=decide (q.y < y) ||(decide (q.y=y) && decide (q.x < x))
def jK(kv:List mc)(us:List UW)(u:UW)(y x:Int):Prop:=∀q,iH kv q=wL us q++(if nE u.u q && lG y x q then [u]else [])
structure Cv(m0:M)(u:UW)(b8 b16 b26:Nat)(lo hi:Pl)(kv:List mc)(mm:M):Prop where
 iG:∀c,c < m0.n->mm.get c=m0.get c
 n:m0.n+2<=mm.n
 un:mm.get b8=.cells u.c 87 none
 lo:mm.get b16=.cells lo.c 98 none
 hi:mm.get b26=.cells hi.c 98 none
 pm:PM (m0.n+2) mm (m0.n+1) kv
theorem Cv.bH{m0:M}{u:UW}{b8 H a0:Nat}{lo hi:Pl}{kv:List mc}{mm b0:M}(h:Cv m0 u b8 H a0 lo hi kv mm)(F:Ext mm b0):Cv m0 u b8 H a0 lo hi kv b0:=
 ⟨λc hc=>by rw[F.get c (by have:=h.n;omega),h.iG c hc],by have:=h.n;have:=F.n;omega,F.cells h.un,F.cells h.lo,F.cells h.hi,h.pm.aD F⟩
theorem sB{α:Type}[aP α]{m0 F:M}{l:List α}{v:aed}(h:Sl m0 l v)(ho:∀c,c < m0.n->F.get c=m0.get c):Sl F l v:=h.bH λb c t g H _=>by rw[ho b (M.aL H),H]
theorem PM.store{n1 r b:Nat}{kv:List mc}{m':M}{cs:aee}{t:TypeId}(h:PM n1 m r kv)(F:m.get b=.cells cs t none)(hk:∀c,c≠b->m'.get c=m.get c):PM n1 m' r kv:=by obtain⟨es,clock,h1,h2⟩:=h.ex;refine⟨⟨es,clock,by rw[hk r (λe=>by subst e;rw[h1]at F;cases F),h1],h2⟩,h.keys,h.Nc,λk H=>?_⟩;have ho:=h.own k H;obtain⟨_,_,a0,h3,_⟩:=id ho;exact ho.bH (hk _ λe=>by rw[e,F]at h3;cases h3)
theorem Hi{l:List Pl}{y:Int}{q:Pl}(h:xM l q=true):lG y (gh l l.length).x q=lG (y+1) (fq l l.length).x q:=by
 simp only[xM,Ψ,aaC]at h;have F:decide (q.x < (gh l l.length).x)=true:=by simp;omega
 have H:decide (q.x < (fq l l.length).x)=false:=by simp;omega
 unfold lG;rw[F,H,aaH,aaw,aax];by_cases h1:q.y < y <;>by_cases h2:q.y=y <;>by_cases h3:q.y < y+1 <;>simp[h1,h2,h3] <;>omega
theorem vD{y x:Int}{q:Pl}:lG y (x+1) q=(lG y x q ||decide (q=⟨x,y⟩)):=by
 obtain⟨a,b⟩:=q;unfold lG;dsimp only;have e:decide (({x:=a,y:=b}:Pl)=⟨x,y⟩)=(decide (a=x) && decide (b=y)):=by by_cases F:a=x <;>by_cases H:b=y <;>simp[F,H]
 rw[e];by_cases F:b < y <;>by_cases H:b=y <;>by_cases h3:a < x <;>by_cases h4:a=x <;>by_cases h5:a < x+1 <;>simp[F,H,h3,h4,h5] <;>omega
theorem Kq{y x:Int}:lG y x ⟨x,y⟩=false:=by unfold lG;simp
theorem jK.step{kv F:List mc}{us:List UW}{u:UW}{y x:Int}(h:jK kv us u y x)(H:nE u.u ⟨x,y⟩=true)(hq:∀q,iH F q=if q=⟨x,y⟩then iH kv ⟨x,y⟩++ [u]else iH kv q):jK F us u y (x+1):=by
 intro q;rw[hq,vD];by_cases e:q=⟨x,y⟩
 ·subst e;rw[aaf rfl,h ⟨x,y⟩,Kq,H];simp
 rw[aaa e,h q];simp[e]
theorem jK.skip{kv:List mc}{us:List UW}{u:UW}{y x:Int}(h:jK kv us u y x)(F:nE u.u ⟨x,y⟩=false):jK kv us u y (x+1):=by
 intro q;rw[h q,vD];by_cases e:q=⟨x,y⟩
 ·subst e;rw[F];simp
 simp[e]
theorem jK.row{kv:List mc}{us:List UW}{u:UW}{y:Int}(h:jK kv us u y (gh u.u.shape u.u.shape.length).x):jK kv us u (y+1) (fq u.u.shape u.u.shape.length).x:=by
 intro q
 rw[h q]
 congr 1
 cases F:nE u.u q with
 |false=>rfl
 |true=>
  have:xM u.u.shape q=true:=by unfold nE at F;rw[Ψ]at F;exact F.1
  rw[Hi this]
theorem jK.start{kv:List mc}{us:List UW}{u:UW}(h:∀q,iH kv q=wL us q):jK kv us u (fq u.u.shape u.u.shape.length).y (fq u.u.shape u.u.shape.length).x:=by
 intro q;rw[h q]
 have:(nE u.u q && lG (fq u.u.shape u.u.shape.length).y (fq u.u.shape u.u.shape.length).x q)=false:=by
  cases F:nE u.u q with
  |false=>rfl
  |true=>unfold nE at F;simp only[xM,Ψ,aaC]at F;unfold lG;simp;omega
 rw[this];simp
theorem jK.done{kv:List mc}{us:List UW}{u:UW}{y x:Int}(h:jK kv us u y x)(hy:(gh u.u.shape u.u.shape.length).y<=y):∀q,iH kv q=wL (us++ [u]) q:=by
 intro q
 rw[h q]
 unfold wL
 rw[abY]
 congr 1
 cases H:nE u.u q with
 |false=>simp[H]
 |true=>
  have F:=H;unfold nE at F;simp only[xM,Ψ,aaC]at F
  have:lG y x q=true:=by unfold lG;simp;omega
  simp[H,this]
theorem _root_.Go.D.Sl.mI{l:List UW}{v:aed}(h:Sl m l v){i:Nat}{x:UW}(hi:l[i]?=some x){k:IntKind}:∃a,ak TE 29 v (.int k i)=some a/\ah TE m 87 a=some x.v/\one x.w=true:=by obtain⟨a,cs,F,H,rfl,h3⟩:=h.index eg (k:=k) hi;exact⟨a,F,H,h3⟩
theorem zT{b:Nat}{x:UW}{e:TypeId}{g:Option Nat}(h:m.get b=.cells x.c e g):ah TE m 87 (aeb b 0)=some x.v:=cg h
theorem Iq(hX:cV X){us:List UW}{v:aed}(hl:Sl m us v)(u2:∀x∈us,Sl m x.u.shape x.w)(C1:∀x∈us,bI x.u.shape=true)(hlen:us.length<=1000):
  ∃m' kv,C X (.func 67) [.agg #[v]] m m.n (.map (some (m.n+1))) m'/\Ext m m'/\PM (m.n+2) m' (m.n+1) kv/\∀q,iH kv q=wL us q:=by
 have key:=Cl.heap (E:=TE) (X:=X) (f:=67) (args:=[.agg #[v]]) (m:=m) (R:=λv' m' b=>b=m.n/\v'=.map (some (m.n+1))/\Ext m m'/\∃kv,PM (m.n+2) m' (m.n+1) kv/\∀q,iH kv q=wL us q) (hX.no _ rfl) Vn rfl ?_
 ·obtain⟨v',m',b,hc,rfl,rfl,hx,kv,h1,h2⟩:=key;exact⟨m',kv,hc,hx,h1,h2⟩
 rw[F67];dsimp only[aI,δ,ε,ζ,η,θ,ι,κ,ν,ξ,ς,υ,φ,χ,ψ];refine au λm1 v2 w2 z2=>?_;refine au λm2 A2 D1 k1=>?_;have g0:m2.get m.n=.cells [v] 31 none:=by rw[k1 _ (by omega),w2];rfl
 have V0:∀c,c < m.n->m2.get c=m.get c:=λc hc=>by rw[k1 c (by omega),z2 c hc]
 rw[v2]at D1 A2 k1⊢;simp only[ptrTo];rw[bu,ae,eJ,aF g0];simp only[aaq,aad,ae];rw[(sB hl V0).len eg,aE];refine Lp.intro (γ:=Nat) (λi=>us.length-i) (λi vs m8 lo=>vs=[.int .i64 i]/\i<=us.length/\(∀c,c < m.n->m8.get c=m.get c)/\m.n+2<=m8.n/\m.n<=lo/\∃kv,PM (m.n+2) m8 (m.n+1) kv/\∀q,iH kv q=wL (us.take i) q) 0 ⟨rfl,aaQ _,V0,by omega,Ξ _,[],⟨⟨[],0,D1,rfl,(λe he=>by cases he),adM⟩,adM,adM,(λk hk=>by cases hk)⟩,λq=>rfl⟩ ?_;rintro i vs m8 B3 ⟨rfl,hi,C0,C3,V2,P0,X0,s0⟩;simp only[aH,aX,ae,an];refine aq (λo1=>?_) (λB2=>?_)
 ·have o1:i < us.length:=by simpa using o1
  obtain⟨x,hx⟩:∃x,us[i]?=some x:=⟨_,Φ o1⟩
  have E1:=aac hx;have q0:=u2 x E1;have hv:=C1 x E1;have F1:=cx hv;have C2:=kF hv;have D2:x.u.shape≠ []:=by intro e;rw[e]at F1;simp at F1
  obtain⟨p0,p1⟩:∃p,x.u.shape[0]?=some p:=⟨_,Φ (by omega)⟩
  obtain⟨a,e1,e2,Y0⟩:=(sB hl C0).mI (k:=.i64) hx;rw[e1,ae,e2,ae];refine au λD3 X2 G1 H1=>?_;refine aC ep G1 rfl rfl (Un.eN Y0) λF Y2 D0 I1=>?_;have E0:Ext m8 F:=⟨by omega,λb hb=>by rw[I1 b (by omega),H1 b hb]⟩
  have F0:∀c,c < m.n->F.get c=m.get c:=λc hc=>by rw[E0.get c (by omega),C0 c hc]
  obtain⟨b0,o0,E3,F3,G3,E2,F2,_⟩:=q0.lU dS (k:=.i64) p1;have a3:=M.aL F2;obtain⟨a0,G0,J1⟩:=(sB q0 F0).nD (k:=.i64) p1
  obtain rfl:a0=aeb b0 o0:=by have:=G0.symm.trans E2;exact Option.some.inj this
  have G0:ak TE 45 x.w (.int .i64 0)=some (aeb b0 o0):=G0
  have Q0:∀mm:M,mm.get m8.n=.cells x.c 87 none->ah TE mm 45 (aeb m8.n (0+3))=some x.w:=λmm h=>by rw[kg,aF h];rfl
  rw[bA,ae,Q0 F D0,ae,G0,ae,J1,ae,ae,Q0 F D0,ae,G0,ae,J1,ae];refine au λr0 b3 K1 L1=>?_;refine au λH3 c3 N1 a1=>?_;have G2:=(a1 F.n (by omega)).trans K1;refine aC jV G2 rfl rfl rfl λI3 d3 O1 c1=>?_;refine⟨.inr ⟨by show m8.n≠F.n;omega,by show b0≠F.n;omega,trivial⟩,?_⟩;have H2:=(c1 r0.n (by omega)).trans N1;refine aC jV H2 rfl rfl rfl λS0 e3 P1 d1=>?_;have i0:Ext F S0:=⟨by omega,λb hb=>by rw[d1 b (by omega),c1 b (by omega),a1 b (by omega),L1 b hb]⟩
  have g1:fq x.u.shape 0=p0/\gh x.u.shape 0=p0:=by
   have:x.u.shape.headD ⟨0,0⟩=p0:=by rw[adw,List.head?_eq_getElem?,p1];rfl
   exact⟨this,this⟩
  have H0:Cv m x m8.n F.n r0.n (fq x.u.shape 0) (gh x.u.shape 0) P0 S0:=by rw[g1.1,g1.2];exact⟨λc hc=>by rw[i0.get c (by omega),F0 c hc],by omega,i0.cells D0,by rw[d1 _ (by omega),O1];rfl,by rw[P1];rfl,(X0.aD E0).aD i0⟩
  rw[ae,Q0 S0 H0.un,ae,(sB q0 H0.iG).len dS,aE];refine Lp.intro (γ:=Nat) (λk=>x.u.shape.length-k) (λk vs j0 lo=>vs=[.int .i64 k]/\k<=x.u.shape.length/\Cv m x m8.n F.n r0.n (fq x.u.shape k) (gh x.u.shape k) P0 j0/\S0.n<=j0.n/\m.n<=lo) 0 ⟨rfl,aaQ _,H0,Ξ _,by omega⟩ ?_;rintro k vs j0 g3 ⟨rfl,hk,u0,i3,r1⟩;simp only[aH,aX,ae,an];refine aq (λI0=>?_) (λQ1=>?_)
  ·have I0:k < x.u.shape.length:=by simpa using I0
   obtain⟨p,hp⟩:∃p,x.u.shape[k]?=some p:=⟨_,Φ I0⟩
   obtain⟨q,e1,e2⟩:=(sB q0 u0.iG).nD (k:=.i64) hp;rw[e1,ae,e2,ae];refine au λJ3 j3 S1 T1=>?_;refine aC jV S1 rfl rfl rfl λU1 k3 V1 X1=>?_;have Y1:Ext j0 U1:=⟨by omega,λb hb=>by rw[X1 b (by omega),T1 b hb]⟩
   have e0:=u0.bH Y1;have k0:=e0.lo;have l0:=e0.hi;have gp:U1.get j0.n=.cells p.c 98 none:=V1;simp only[Pl.c]at k0 l0 gp;simp only[cf,ck,ae,cd,aF k0,aF l0,aF gp,aaq,aad,aah,iQ,lJ,aE];rw[eT rfl rfl,ae,eT rfl rfl,ae];refine aC jV k0 rfl rfl rfl λK3 m3 a2 v0=>?_;refine⟨.inr ⟨by show r0.n≠F.n;omega,by show j0.n≠F.n;omega,by show r0.n≠F.n;omega,by show j0.n≠F.n;omega,trivial⟩,?_⟩;have J0:=(v0 r0.n (by omega)).trans l0;refine aC jV J0 rfl rfl rfl λL3 n3 c2 z0=>?_;simp only[aQ,ae];rw[wrap64 (by omega) (by omega)];refine⟨k+1,by omega,by simp,by omega,⟨?_,?_,?_,?_,?_,?_⟩,by omega,by omega⟩
   ·intro c hc;rw[z0 c (by omega),v0 c (by omega),e0.iG c hc]
   ·have:=e0.n;omega
   ·rw[z0 _ (by omega),v0 _ (by omega),e0.un]
   ·rw[z0 _ (by omega),a2,qF hp];rfl
   ·rw[c2,qG hp];rfl
   exact(e0.pm.store e0.lo v0).store J0 z0
  have I2:k=x.u.shape.length:=by
   have:¬(k:Int)< (x.u.shape.length:Int):=by simpa using Q1
   omega
  subst I2;obtain⟨J2,K2,L2,M2⟩:=Na C2 D2 _ (Ξ _);generalize s1:fq x.u.shape x.u.shape.length=LO at*;generalize u1:gh x.u.shape x.u.shape.length=HI at*;unfold Pl.bZ at J2 K2;have k0:=u0.lo;simp only[Pl.c]at k0;simp only[cf,ck,ae,cd,aF k0,aaq,aad,aah];refine Lp.intro (γ:=Int) (λy=>(HI.y-y).toNat) (λy vs v1 lo=>vs=[.int .i64 y]/\LO.y<=y/\y<=HI.y/\j0.n<=v1.n/\m.n<=lo/\∃kv,Cv m x m8.n F.n r0.n LO HI kv v1/\jK kv (us.take i) x y LO.x) LO.y ⟨rfl,aci _,M2,Ξ _,r1,P0,u0,by have:=jK.start (u:=x) s0;rw[s1]at this;exact this⟩ ?_;rintro y vs v1 o3 ⟨rfl,N2,N3,d2,K0,i1,h0,A0⟩;have l0:=h0.hi;have k0:=h0.lo;simp only[Pl.c]at k0 l0;simp only[aH,aF l0,aF k0,aad,aah,ae,cO,an];refine aq (λL0=>?_) (λw1=>?_)
  ·have L0:HI.y<=y:=by simpa using L0
   simp only[aQ,ae];rw[wrap64 (by omega) (by omega)];refine⟨i+1,by omega,by simp,by omega,h0.iG,h0.n,K0,i1,h0.pm,?_⟩;rw[abo,hx];exact A0.done (by rw[u1];exact L0)
  have w1:y < HI.y:=by
   have:¬HI.y<=y:=by simpa using w1
   omega
  refine Lp.intro (γ:=Int) (λz=>(HI.x-z).toNat) (λz vs M0 lo=>vs=[.int .i64 z]/\LO.x<=z/\z<=HI.x/\j0.n<=M0.n/\m.n<=lo/\∃kv,Cv m x m8.n F.n r0.n LO HI kv M0/\jK kv (us.take i) x y z) LO.x ⟨rfl,aci _,L2,d2,K0,i1,h0,A0⟩ ?_;rintro z vs M0 r3 ⟨rfl,O2,O3,s3,z1,B0,N0,d0⟩;have l0:=N0.hi;simp only[Pl.c]at l0;simp only[aH,aF l0,aad,aah,ae,aX,an];refine aq (λO0=>?_) (λA1=>?_)
  ·have O0:z < HI.x:=by simpa using O0
   rw[eT rfl rfl,ae];refine au λP3 u3 g2 i2=>?_;refine aC jV g2 rfl rfl rfl λT0 v3 j2 k2=>?_;have o2:Ext M0 T0:=⟨by omega,λb hb=>by rw[k2 b (by omega),i2 b hb]⟩
   have H:=N0.bH o2;have gq:T0.get M0.n=.cells (Pl.c ⟨z,y⟩) 98 none:=j2;have P2:=H.n;rw[show ah TE T0 45 (aeb m8.n 3)=some x.w from Q0 T0 H.un,ae];refine az (Ap hX (sB q0 H.iG) (by omega) z y) ?_;simp only[cO,ae,an]
   have Q2:xM x.u.shape ⟨z,y⟩=true:=by unfold xM;rw[s1,u1];simp only[Ψ,aaC];exact⟨⟨⟨O2,O0⟩,N2⟩,w1⟩
   have j1:nE x.u ⟨z,y⟩=decide (0<=ka x.u.shape z y):=by unfold nE;rw[Q2,aav]
   refine aq (λhc=>?_) (λhc=>?_)
   ·rw[iR gq,ae,zT H.un,ae]
    have S2:(iH B0 ⟨z,y⟩).length < 1000000:=by
     rw[d0 ⟨z,y⟩,aam];have h1:(wL (us.take i) ⟨z,y⟩).length<=(us.take i).length:=acg _ _;have h2:(us.take i).length<=us.length:=by rw[aap];omega
     have h3:(if nE x.u ⟨z,y⟩ && lG y z ⟨z,y⟩then [x]else []).length<=1:=by split <;>simp
     omega
    refine PM.add (n0:=m.n) H.pm (by omega) (by omega) (by omega) (by omega) Y0 S2 λw3 z3 A3 T2 s2 B1 U0 Q3 S3 T3 l2 l3 l4=>?_;simp only[aQ,ae];rw[wrap64 (by omega) (by omega)];refine⟨z+1,by omega,rfl,by omega,by omega,by omega,by omega,T2,⟨λc hc=>by rw[U0.low c (by omega) (by omega),H.iG c hc],by omega,U0.cell _ _ _ _ H.un (.inr rfl),U0.cell _ _ _ _ H.lo (.inr rfl),U0.cell _ _ _ _ H.hi (.inr rfl),s2⟩,?_⟩;exact d0.step (by rw[j1];exact hc) B1
   simp only[aQ,ae];rw[wrap64 (by omega) (by omega)];exact⟨z+1,by omega,rfl,by omega,by omega,by omega,by omega,B0,H,d0.skip (by rw[j1];exact hc)⟩
  have hz:z=HI.x:=by
   have:¬z < HI.x:=by simpa using A1
   omega
  subst hz;simp only[aQ,ae];rw[wrap64 (by omega) (by omega)];refine⟨y+1,by omega,rfl,by omega,by omega,by omega,z1,B0,N0,?_⟩;have:=jK.row (kv:=B0) (us:=us.take i) (u:=x) (y:=y) (by rw[u1];exact d0);rw[s1]at this;exact this
 have U2:i=us.length:=by
  have:¬(i:Int)< (us.length:Int):=by simpa using B2
  omega
 subst U2;rw[abB]at s0;exact⟨.inl rfl,by omega,rfl,⟨by omega,C0⟩,P0,X0,s0⟩
def rT(us:List Un)(q:Pl):List Un:=us.filter λu=>nE u q
theorem MT(us:List UW)(q:Pl):(wL us q).map (·.u)=rT (us.map (·.u)) q:=by unfold wL rT;rw[List.filter_map];rfl
def gP(us:List Un)(behind:Bool)(x y:Int):Int:=
 if behind then Uf (dO (λa b=>decide (a.back < b.back)) (rT us ⟨39-x,y⟩) none)
 else Uf (dO (λa b=>decide (b.front < a.front)) (rT us ⟨x,y⟩) none)
theorem Cs(hX:cV X){us:List UW}{b1 b2 r n1:Nat}{kv:List mc}{behind:Bool}(h1:m.get b1=.cells [.bool behind] 4 none)(h2:m.get b2=.cells [.map (some r)] 133 none)
  (h0:PM n1 m r kv) (b0:∀q,iH kv q=wL us q) (i0:∀x∈us,Sl m x.u.shape x.w) (hlen:us.length<=1000) {x y:Int} (hx:0<=x) (o0:x < 40):
  C X (.func 130) [.int .i64 x,.int .i64 y,ptrTo b1,ptrTo b2] m m.n (.int .i64 (gP (us.map (·.u)) behind x y)) m:=by
 refine Cl.flat (hX.no _ rfl) SJ rfl rfl ?_;rw[Zt];dsimp only[aI,δ,η,θ,ξ,χ,ψ];simp only[ptrTo];rw[qq,aF h1];simp only[aad,ae,an]
 have go:∀(bf:Un->Un->Bool) (fn:Nat) (q:Pl) (P:aed->M->Nat->Prop),(∀a b F H (m1:M),C X (.func fn) [a.v F,b.v H] m1 m1.n (.bool (bf a b)) m1)->
   (∀m2,m.n<=m2.n->∀b,m.n<=b->P (.int .i64 (Uf (dO bf (rT (us.map (·.u)) q) none))) m2 b)->
   aj (dn TE m 133 (.map (some r)) q.v false) λv5=>bt TE X (.func 132) [v5,.func (.func fn) #[] #[]] m λv6 m7 b8=>aj (bF v6 0) λv9=>aj (bF v6 1) λv10=>bt TE X (.func 131) [v9,v10] m7 λv11 j0 k0=>P v11 j0 (min (min m.n b8) k0):=by
  intro bf fn q P hs hP
  obtain⟨v5,e5,d0⟩:=h0.lookup q
  rw[e5,ae]
  rw[b0 q]at d0
  have e0:=d0.PY λx hx=>i0 x (abn.1 hx |>.1)
  rw[MT]at e0
  have hl:(rT (us.map (·.u)) q).length < 4611686018427387904:=by
   have:(rT (us.map (·.u)) q).length<=(us.map (·.u)).length:=acg _ _
   rw[aaB]at this;omega
  obtain⟨rv,m7,hc,l0,ho⟩:=Mw hX (g:=.func fn) (fi:= #[]) (ca:= #[]) bf hl e0 (λa b F H m1 _=>hs a b F H m1)
  refine az hc ?_
  rw[cp,cp]
  simp only[aad,aah,ae]
  refine az (UR hX ho) ?_
  have:=l0.n
  exact hP m7 (by omega) _ (by omega)
 have g0:ah TE m 133 (aeb b2 0)=some (.map (some r)):=by rw[KS,aF h2];rfl
 refine aq (λhb=>?_) (λhb=>?_)
 ·rw[g0,ae,fB,ae,wrap64 (by omega) (by omega),eT rfl rfl,ae];exact go (λa b=>decide (a.back < b.back)) 133 ⟨39-x,y⟩ (λv m2 b=>aO [v]=.int .i64 (gP (us.map (·.u)) behind x y)/\m.n<=b) (λa b F H m1=>Nf hX a b F H) (λm2 hn b a0=>⟨by rw[aO,gP,hb];rfl,a0⟩)
 rw[g0,ae,eT rfl rfl,ae];exact go (λa b=>decide (b.front < a.front)) 134 ⟨x,y⟩ (λv m2 b=>aO [v]=.int .i64 (gP (us.map (·.u)) behind x y)/\m.n<=b) (λa b F H m1=>HJ hX a b F H) (λm2 hn b a0=>⟨by rw[aO,gP,hb];rfl,a0⟩)
def dh(us:List Un)(behind:Bool):List Int:=jX (λi j=>gP us behind i j) 40 40
theorem rR(hX:cV X){us:List Un}{v:aed}{behind:Bool}(hl:Sl m us v)(o0:∀u∈us,bI u.shape=true)(hlen:us.length<=1000):
  ∃v' m',C X (.func 60) [.agg #[v],.bool behind] m m.n (qO 40 40 v') m'/\Ext m m'/\Ow m.n m' (dh us behind) v':=by
 have key:=Cl.heap (E:=TE) (X:=X) (f:=60) (args:=[.agg #[v],.bool behind]) (m:=m) (R:=λw m' b=>b=m.n/\Ext m m'/\∃v',w=qO 40 40 v'/\Ow m.n m' (dh us behind) v') (hX.no _ rfl) Vq rfl ?_
 ·obtain⟨w,m',b,hc,rfl,hx,v',rfl,hr⟩:=key;exact⟨v',m',hc,hx,hr⟩
 rw[F60];dsimp only[aI,δ,ι,ς,υ,φ,χ,ψ];refine au λm1 U0 E0 F0=>?_;refine au λm2 V0 G0 q0=>?_;refine au λm3 X0 H0 k0=>?_;have r0:Ext m m3:=⟨by omega,λb hb=>by rw[k0 b (by omega),q0 b (by omega),F0 b hb]⟩
 have g0:m3.get m.n=.cells [v] 31 none:=by rw[k0 _ (by omega),q0 _ (by omega),E0];rfl
 have gb:m3.get m1.n=.cells [.bool behind] 4 none:=by rw[k0 _ (by omega),G0];rfl
 obtain⟨l0,rfl,I0,a0⟩:=(hl.aD r0).UA;simp only[ptrTo];rw[dp,aJ g0 (by simp)];simp only[aa0,aa6,abi,aag,ae];obtain⟨m6,kv,hc,s0,J0,u0⟩:=Iq hX I0 a0 (λx hx=>o0 x.u (aaU.2 ⟨x,hx,rfl⟩)) (by rw[aaB]at hlen;exact hlen);refine az hc ?_;refine au λm8 Y0 K0 L0=>?_;refine aC QN K0 rfl rfl rfl λm9 a1 M0 N0=>?_;have b0:Ext m6 m9:=⟨by omega,λb hb=>by rw[N0 b (by omega),L0 b hb]⟩
 have H:=s0.trans b0;have c1:=H.n
 obtain⟨v',d1,v0,z0,d0⟩:=Ok (m:=m9) hX (w:=40) (h:=40) (by omega) (by omega) (g:=.func 130) (fi:= #[]) (ca:= #[aeb m1.n 0,aeb m6.n 0]) (λi j=>gP (l0.map (·.u)) behind i j)
  (λi j mm hi hj hx=>by have e0:=H.trans hx;exact Cs (m:=mm) hX (b1:=m1.n) (b2:=m6.n) (e0.cells gb) (hx.cells (by rw[M0];rfl)) ((J0.aD b0).aD hx) u0 (λx O0=>(a0 x O0).aD e0) (by rw[aaB]at hlen;exact hlen) (by omega) (by omega)) (by omega)
 refine az v0 ?_;have F:=H.trans z0;have gd:=F.cells H0;have A0:one v'=true:=d0.sl.one;have S0:=F.n;refine aC uR gd rfl rfl (by show(true && (true && (one v' && true)))=true;rw[A0];rfl) λB0 T0 C0 i0=>?_;have e2:ah TE B0 27 (aeb m2.n 0)=some (qO 40 40 v'):=by rw[kh,aJ C0 (by simp[bB])];rfl
 rw[e2,ae]
 have j0:Ow m9.n B0 (dh (l0.map (·.u)) behind) v':=d0.bH λb c t g hb ht=>by
  by_cases D0:b=m2.n
  ·subst D0;rw[gd]at hb;cases hb;simp[aP.ty,aP.fx]at ht
  rw[i0 b D0,hb]
 have P0:bP (aO [qO 40 40 v'])=false:=by
  have Q0:dh (l0.map (·.u)) behind≠ []:=λe=>by have:=congrArg List.length e;unfold dh at this;rw[e9]at this;simp at this
  rcases j0 with⟨_,h0⟩ |⟨b,cs,rfl,_⟩;·exact absurd h0 Q0
  rfl
 exact⟨.inl P0,by have:=s0.n;omega,⟨by omega,λb hb=>by rw[i0 b (by omega),(r0.trans F).get b hb]⟩,v',rfl,j0.mono (by omega)⟩
def lq(u:Un):Bool:=eA u.id 0 99 && eA u.kind 1 8 && eA u.CV 0 7 && decide (0<=u.back) && decide (u.back < u.front) && decide (u.front<=8) && bI u.shape
def nF(a b:Un):Bool:=lq a && lq b && decide (max a.back b.back < min a.front b.front)
def fE(a b:Un):Bool:=nF a b && jb a.shape b.shape
theorem zX(hX:cV X)(n lo hi:Int):C X (.func 180) [.int .i64 n,.int .i64 lo,.int .i64 hi] m m.n (.bool (eA n lo hi)) m:=by
 refine Cl.flat (hX.no _ rfl) Sn rfl rfl ?_;rw[Y8];dsimp only[aI,η];refine cG (λvs m2 F=>vs=[.bool (eA n lo hi)]/\m.n<=F) (λR H=>?_) ?_
 ·simp only[dj,ae,an];refine aq (λh=>H _ _ _ ⟨by simp[eA,h],Ξ _⟩) (λh=>H _ _ _ ⟨by simp[eA,h],Ξ _⟩)
 rintro _ m2 F ⟨rfl,hl⟩;rw[aH];exact⟨rfl,hl⟩
theorem pV{b:Nat}{u:Un}{w:aed}{g:Option Nat}(h:m.get b=.cells (u.c w) 87 g):
  ah TE m 3 (aeb b (0+0))=some (.int .i64 u.id)/\ah TE m 3 (aeb b (0+1))=some (.int .i64 u.kind)/\ah TE m 3 (aeb b (0+2))=some (.int .i64 u.CV)/\
  ah TE m 45 (aeb b (0+3))=some w/\ah TE m 3 (aeb b (0+4))=some (.int .i64 u.back)/\ah TE m 3 (aeb b (0+5))=some (.int .i64 u.front):=by refine⟨?_,?_,?_,?_,?_,?_⟩ <;>first |(rw[cd,aF h];rfl) |(rw[kg,aF h];rfl)
theorem kl(hX:cV X){u:Un}{w:aed}(hw:Sl m u.shape w)(hb:u.shape.length < 4611686018427387904):C X (.func 120) [u.v w] m m.n (.bool (lq u)) m:=by
 refine Cl.flat (hX.no _ rfl) SN rfl rfl ?_;rw[Zx];dsimp only[aI,δ,ε,η,ς,φ,χ,ψ];refine au λm1 e0 a0 b0=>?_;simp only[bB]at a0;have d0:Ext m m1:=⟨by omega,b0⟩
 have a0:m1.get m.n=.cells (u.c w) 87 none:=a0;obtain⟨l0,l1,l2,l3,l4,l5⟩:=pV a0;unfold ptrTo;refine cG (λvs mm lo=>vs=[.bool (eA u.id 0 99 && eA u.kind 1 8 && eA u.CV 0 7)]/\m1=mm/\m.n<=lo) (λR hR=>?_) ?_
 ·rw[bE,ae,l0,ae];refine az (zX hX _ _ _) ?_;rw[an];refine aq (λH=>?_) (λH=>hR _ _ _ ⟨by rw[H];rfl,rfl,by omega⟩);rw[kZ,ae,l1,ae];refine az (zX hX _ _ _) ?_;rw[an];refine aq (λh2=>?_) (λh2=>hR _ _ _ ⟨by rw[H,h2];rfl,rfl,by omega⟩);rw[kY,ae,l2,ae];refine az (zX hX _ _ _) ?_;exact hR _ _ _ ⟨by rw[H,h2];rfl,rfl,by omega⟩
 rintro _ _ lo ⟨rfl,rfl,F⟩;rw[aH];refine cG (λvs mm lo=>vs=[.bool (lq u)]/\m.n<=lo) (λR hR=>?_) ?_
 ·rw[an];refine aq (λh=>?_) (λh=>hR _ _ _ ⟨by unfold lq;rw[h];rfl,F⟩);simp only[bA,ff,fc,ae,l3,l4,l5,dj,aX,an];refine aq (λH=>?_) (λH=>hR _ _ _ ⟨by unfold lq;rw[h,H];rfl,F⟩);refine aq (λh2=>?_) (λh2=>hR _ _ _ ⟨by unfold lq;rw[h,H,h2];rfl,F⟩);refine aq (λh3=>?_) (λh3=>hR _ _ _ ⟨by unfold lq;rw[h,H,h2,h3];rfl,F⟩);refine az (iJ hX (hw.aD d0) hb) ?_;exact hR _ _ _ ⟨by unfold lq;rw[h,H,h2,h3];rfl,by omega⟩
 rintro _ mm lo ⟨rfl,F⟩;rw[aH];exact⟨rfl,F⟩
theorem qa(hX:cV X){u:Un}{w:aed}(hw:Sl m u.shape w)(hb:u.shape.length < 4611686018427387904):C X (.func 135) [u.v w] m m.n (.bool (lq u)) m:=by
 refine Cl.flat (hX.no _ rfl) SE rfl rfl ?_;rw[Zo];dsimp only[aI,δ,ε,η,ς,φ,χ,ψ];refine au λm1 e0 a0 b0=>?_;simp only[bB]at a0;have d0:Ext m m1:=⟨by omega,b0⟩
 have a0:m1.get m.n=.cells (u.c w) 87 none:=a0;obtain⟨l0,l1,l2,l3,l4,l5⟩:=pV a0;unfold ptrTo;have n1:eA u.id 0 99=(!(decide (u.id < 0)) && !(decide (99 < u.id))):=by unfold eA;by_cases a:u.id < 0 <;>by_cases b:99 < u.id <;>simp[a,b] <;>omega
 have n2:eA u.kind 1 8=(!(decide (u.kind < 1)) && !(decide (8 < u.kind))):=by unfold eA;by_cases a:u.kind < 1 <;>by_cases b:8 < u.kind <;>simp[a,b] <;>omega
 have n3:eA u.CV 0 7=(!(decide (u.CV < 0)) && !(decide (7 < u.CV))):=by unfold eA;by_cases a:u.CV < 0 <;>by_cases b:7 < u.CV <;>simp[a,b] <;>omega
 refine cG (λvs mm lo=>vs=[.bool (!(eA u.id 0 99 && eA u.kind 1 8 && eA u.CV 0 7))]/\m1=mm/\m.n<=lo) (λR hR=>?_) ?_
 ·simp only[bE,kZ,kY,ae,l0,l1,l2,aX,dq,an];rw[n1,n2,n3]at hR;refine aq (λF=>hR _ _ _ ⟨by rw[F];rfl,rfl,Ξ _⟩) (λF=>?_);refine aq (λh2=>hR _ _ _ ⟨by rw[F,h2];rfl,rfl,Ξ _⟩) (λh2=>?_);refine aq (λh3=>hR _ _ _ ⟨by rw[F,h2,h3];rfl,rfl,Ξ _⟩) (λh3=>?_);refine aq (λh4=>hR _ _ _ ⟨by rw[F,h2,h3,h4];rfl,rfl,Ξ _⟩) (λh4=>?_);refine aq (λh5=>hR _ _ _ ⟨by rw[F,h2,h3,h4,h5];rfl,rfl,Ξ _⟩) (λh5=>?_);exact hR _ _ _ ⟨by rw[F,h2,h3,h4,h5];simp,rfl,Ξ _⟩
 rintro _ _ lo ⟨rfl,rfl,H⟩;rw[aH,an];refine aq (λh=>?_) (λh=>?_)
 ·refine⟨?_,H⟩
  have h:(eA u.id 0 99 && eA u.kind 1 8 && eA u.CV 0 7)=false:=by
   cases h':(eA u.id 0 99 && eA u.kind 1 8 && eA u.CV 0 7)with
   |false=>rfl
   |true=>rw[h']at h;cases h
  unfold lq;rw[h];rfl
 have h:(eA u.id 0 99 && eA u.kind 1 8 && eA u.CV 0 7)=true:=by
  cases h':(eA u.id 0 99 && eA u.kind 1 8 && eA u.CV 0 7)with
  |true=>rfl
  |false=>rw[h']at h;cases h
 refine cG (λvs mm lo=>vs=[.bool (lq u)]/\m.n<=lo) (λR hR=>?_) ?_
 ·simp only[bA,ff,fc,ae,l3,l4,l5,dj,cO,aX,an];refine aq (λF=>?_) (λF=>hR _ _ _ ⟨by unfold lq;rw[h,F];rfl,H⟩);refine aq (λh2=>?_) (λh2=>hR _ _ _ ⟨by unfold lq;rw[h,F,h2];rfl,H⟩);refine aq (λh3=>?_) (λh3=>hR _ _ _ ⟨by unfold lq;rw[h,F,h2,h3];rfl,H⟩);refine az (sE hX (hw.aD d0) hb) ?_;exact hR _ _ _ ⟨by unfold lq;rw[h,F,h2,h3];rfl,by omega⟩
 rintro _ mm lo ⟨rfl,H⟩;rw[aH];exact⟨rfl,H⟩
theorem AQ(hX:cV X){a b:Un}{va vb:aed}(ha:Sl m a.shape va)(hb:Sl m b.shape vb)(la:a.shape.length < 4611686018427387904)(lb:b.shape.length < 4611686018427387904):
  C X (.func 190) [a.v va,b.v vb] m m.n (.tuple #[.int .i64 (max a.back b.back),.int .i64 (min a.front b.front),.bool (nF a b)]) m:=by
 refine Cl.flat (hX.no _ rfl) Si rfl rfl ?_;rw[YY];dsimp only[aI,δ,ε,η,κ,ς,φ,ψ];refine au λm1 g0 F d0=>?_;refine au λm2 h0 H a0=>?_;simp only[bB]at F H;have b0:Ext m m2:=⟨by omega,λc hc=>by rw[a0 c (by omega),d0 c hc]⟩
 have g1:m2.get m.n=.cells (a.c va) 87 none:=by rw[a0 _ (by omega)];exact F
 have g2:m2.get m1.n=.cells (b.c vb) 87 none:=H;obtain⟨-, -, -, -,a4,a5⟩:=pV g1;obtain⟨-, -, -, -,b4,b5⟩:=pV g2;unfold ptrTo;simp only[ff,fc,ae,a4,a5,b4,b5,lJ,iQ,aE];refine cG (λvs mm lo=>vs=[.int .i64 (max a.back b.back),.int .i64 (min a.front b.front),.bool (nF a b)]/\m.n<=lo) (λR hR=>?_) ?_
 ·rw[aX,ae,an];refine aq (λh=>?_) (λh=>hR _ _ _ ⟨by unfold nF;rw[h,aaw],by omega⟩);rw[cg g1,ae];refine az (kl hX (ha.aD b0) la) ?_;rw[an];refine aq (λh1=>?_) (λh1=>hR _ _ _ ⟨by unfold nF;rw[h1];rfl,by omega⟩);rw[cg g2,ae];refine az (kl hX (hb.aD b0) lb) ?_;exact hR _ _ _ ⟨by unfold nF;rw[h,h1,aav,aaH],by omega⟩
 rintro _ mm lo ⟨rfl,e0⟩;rw[aH,aH,aH];exact⟨rfl,e0⟩
theorem Da(F:cV X){a b:Un}{va vb:aed}(H:Sl m a.shape va)(hb:Sl m b.shape vb)(la:a.shape.length < 4611686018427387904)(lb:b.shape.length < 4611686018427387904):
  ∃x y,C X (.func 190) [a.v va,b.v vb] m m.n (.tuple #[.int .i64 x,.int .i64 y,.bool (nF a b)]) m:=⟨_,_,AQ F H hb la lb⟩
theorem oO{u:Un}(h:lq u=true):u.shape.length<=8:=by unfold lq at h;rw[Ψ]at h;exact(cx h.2).2
theorem tg(hX:cV X){a b:Un}{va vb:aed}(ha:Sl m a.shape va)(hb:Sl m b.shape vb)(la:a.shape.length < 4611686018427387904)(lb:b.shape.length < 4611686018427387904):
  C X (.func 129) [a.v va,b.v vb] m m.n (.bool (fE a b)) m:=by
 refine Cl.flat (hX.no _ rfl) SK rfl rfl ?_;rw[Zu];dsimp only[aI,δ,ε,ξ,ς,φ,ψ];refine au λm1 g0 H d0=>?_;refine au λm2 h0 a0 b0=>?_;simp only[bB]at H a0;have F:Ext m m2:=⟨by omega,λc hc=>by rw[b0 c (by omega),d0 c hc]⟩
 have g1:m2.get m.n=.cells (a.c va) 87 none:=by rw[b0 _ (by omega)];exact H
 have g2:m2.get m1.n=.cells (b.c vb) 87 none:=a0;obtain⟨-, -, -,a3, -, -⟩:=pV g1;obtain⟨-, -, -,b3, -, -⟩:=pV g2;unfold ptrTo;rw[cg g1,ae,cg g2,ae];obtain⟨x,y,hc⟩:=Da (m:=m2) hX (ha.aD F) (hb.aD F) la lb;refine az hc ?_;rw[cp,cp,cp];simp only[aad,aah,ae];refine cG (λvs mm lo=>vs=[.bool (fE a b)]/\m.n<=lo) (λR hR=>?_) ?_
 ·rw[an];refine aq (λh=>?_) (λh=>hR _ _ _ ⟨by unfold fE;rw[h];rfl,by omega⟩);have h':=h;unfold nF at h';simp only[Ψ]at h';rw[bA,ae,a3,ae,bA,ae,b3,ae];refine az (Bq hX (ha.aD F) (hb.aD F) (by have:=oO h'.1.1;omega) (by have:=oO h'.1.2;omega)) ?_;exact hR _ _ _ ⟨by unfold fE;rw[h];rfl,by omega⟩
 rintro _ mm lo ⟨rfl,e0⟩;rw[aH];exact⟨rfl,e0⟩
theorem Bg(hX:cV X){a b:Un}{va vb:aed}(ha:Sl m a.shape va)(hb:Sl m b.shape vb)(la:a.shape.length < 4611686018427387904)(lb:b.shape.length < 4611686018427387904):
  C X (.func 191) [a.v va,b.v vb] m m.n (.bool (nF a b)) m:=by
 refine Cl.flat (hX.no _ rfl) Sh rfl rfl ?_;rw[YX];dsimp only[aI,δ,ε,η,κ,ς,φ,ψ];refine au λm1 g0 F d0=>?_;refine au λm2 h0 H a0=>?_;simp only[bB]at F H;have b0:Ext m m2:=⟨by omega,λc hc=>by rw[a0 c (by omega),d0 c hc]⟩
 have g1:m2.get m.n=.cells (a.c va) 87 none:=by rw[a0 _ (by omega)];exact F
 have g2:m2.get m1.n=.cells (b.c vb) 87 none:=H;obtain⟨-, -, -, -,a4,a5⟩:=pV g1;obtain⟨-, -, -, -,b4,b5⟩:=pV g2;unfold ptrTo;refine cG (λvs mm lo=>vs=[.bool (nF a b)]/\m.n<=lo) (λR hR=>?_) ?_
 ·rw[cg g1,ae];refine az (qa hX (ha.aD b0) la) ?_;rw[an];refine aq (λh1=>?_) (λh1=>hR _ _ _ ⟨by unfold nF;rw[h1];rfl,by omega⟩);rw[cg g2,ae];refine az (qa hX (hb.aD b0) lb) ?_;rw[an];refine aq (λh2=>?_) (λh2=>hR _ _ _ ⟨by unfold nF;rw[h2,aaw];rfl,by omega⟩);simp only[ff,fc,ae,a4,a5,b4,b5,lJ,iQ,aE,aX];exact hR _ _ _ ⟨by unfold nF;rw[h1,h2,aav,aav],by omega⟩
 rintro _ mm lo ⟨rfl,e0⟩;rw[aH];exact⟨rfl,e0⟩
theorem zG(hX:cV X){a b:Un}{va vb:aed}(ha:Sl m a.shape va)(hb:Sl m b.shape vb)(la:a.shape.length < 4611686018427387904)(lb:b.shape.length < 4611686018427387904):
  C X (.func 136) [a.v va,b.v vb] m m.n (.bool (fE a b)) m:=by
 refine Cl.flat (hX.no _ rfl) SD rfl rfl ?_;rw[Zn];dsimp only[aI,δ,ε,ς,φ,ψ];refine au λm1 g0 H d0=>?_;refine au λm2 h0 a0 b0=>?_;simp only[bB]at H a0;have F:Ext m m2:=⟨by omega,λc hc=>by rw[b0 c (by omega),d0 c hc]⟩
 have g1:m2.get m.n=.cells (a.c va) 87 none:=by rw[b0 _ (by omega)];exact H
 have g2:m2.get m1.n=.cells (b.c vb) 87 none:=a0;obtain⟨-, -, -,a3, -, -⟩:=pV g1;obtain⟨-, -, -,b3, -, -⟩:=pV g2;unfold ptrTo;refine cG (λvs mm lo=>vs=[.bool (fE a b)]/\m.n<=lo) (λR hR=>?_) ?_
 ·rw[cg g1,ae,cg g2,ae];refine az (Bg hX (ha.aD F) (hb.aD F) la lb) ?_;rw[an];refine aq (λh=>?_) (λh=>hR _ _ _ ⟨by unfold fE;rw[h];rfl,by omega⟩);have h':=h;unfold nF at h';simp only[Ψ]at h';rw[bA,ae,a3,ae,bA,ae,b3,ae];refine az (Bj hX (ha.aD F) (hb.aD F) (by have:=oO h'.1.1;omega) (by have:=oO h'.1.2;omega)) ?_;exact hR _ _ _ ⟨by unfold fE;rw[h];rfl,by omega⟩
 rintro _ mm lo ⟨rfl,e0⟩;rw[aH];exact⟨rfl,e0⟩
end
end Go.Proofs.YtmdfgncoekfgdaaGreatDoor
namespace Go.D
open Go
section
section
variable {E:Env} {α:Type} [aP α] {n1:Nat} {m:M} {l ys:List α} {v y:aed} {T:TypeId}
end
end
section
section
variable {E:Env} {m:M} {T:TypeId} {ti:TI} {e:TypeId} {b n:Nat} {cs:aee} {te:TypeId} {g:Option Nat}
theorem GP(t1:E.ty.get T=some ti)(t2:ti.d=.slice e)(hk:0 < ti.es)(h:m.get b=.cells cs te g)(hg:g=none\/g=some ti.es){o c i:Nat}(F:n<=c)(hi:i<=c):
  slice? E m T (aec b o n c) none (some (.int .i64 i)) none=some (aec b o i c):=by
 have H:ef n c none (some (.int .i64 i)) none=some (0,i,c):=by unfold ef;simp only[gj hi]
 have e1:Nat.beq ti.es 0=false:=by
  cases hb:Nat.beq ti.es 0 with
  |false=>rfl
  |true=>have:=aab hb;omega
 have e2:Nat.ble n c=true:=aa3 F;have e0:(⟨b,o,none⟩:Addr).add (0*ti.es)=⟨b,o,none⟩:=by rw[bw rfl,ab0];rfl
 rcases hg with rfl |rfl
 ·simp only[slice?,t1,t2,H,h,e1,e2,aal,aax,cond_false,acP,e0];cases Nat.beq c 0 <;>rfl
 have e3:Nat.beq ti.es ti.es=true:=aa4 _;simp only[slice?,t1,t2,H,h,e1,e2,e3,aal,aax,cond_false,cond_true,acP,e0];cases (Nat.beq c 0 && !(Option.isNone (none:Option aed) && Nat.beq (o+c*ti.es) cs.length))<;>rfl
theorem lD(t1:E.ty.get T=some ti)(t2:ti.d=.slice e)(hk:0 < ti.es)(h:m.get b=.cells cs te g)(hg:g=none\/g=some ti.es){o c j:Nat}(H:n<=c)(hj:j<=n):
  ∃a',slice? E m T (aec b o n c) (some (.int .i64 j)) none none=some (.slice (some a') (n-j) (c-j))/\(j < c->a'=⟨b,o+j*ti.es,none⟩):=by
 have b1:ef n c (some (.int .i64 j)) none none=some (j,n,c):=by unfold ef;simp only[gj hj]
 have e1:Nat.beq ti.es 0=false:=by
  cases hb:Nat.beq ti.es 0 with
  |false=>rfl
  |true=>have:=aab hb;omega
 have e2:Nat.ble n c=true:=aa3 H;have e0:(⟨b,o,none⟩:Addr).add (j*ti.es)=⟨b,o+j*ti.es,none⟩:=bw (a:=⟨b,o,none⟩) rfl _
 have e4:j < c->Nat.beq c j=false:=λF=>by
  cases hb:Nat.beq c j with
  |false=>rfl
  |true=>have:=aab hb;omega
 rcases hg with rfl |rfl
 ·refine⟨bif Nat.beq c j then⟨b,o,none⟩else(⟨b,o,none⟩:Addr).add (j*ti.es),?_,λF=>by rw[e4 F];exact e0⟩;simp only[slice?,t1,t2,b1,h,e1,e2,aal,aax,cond_false]
 have e3:Nat.beq ti.es ti.es=true:=aa4 _;refine⟨bif Nat.beq c j && !((none:Option aed).isNone && Nat.beq (o+c*ti.es) cs.length)then⟨b,o,none⟩else(⟨b,o,none⟩:Addr).add (j*ti.es),?_,λF=>by rw[e4 F];exact e0⟩;simp only[slice?,t1,t2,b1,h,e1,e2,e3,aal,aax,cond_false,cond_true]
theorem Ow.FA{α:Type}[aP α]{n1:Nat}{m F:M}{l:List α}{v:aed}(ht:aP.fx α=[])(h:Ow n1 m l v)(hk:∀c,n1<=c->c < m.n->F.get c=m.get c):Ow n1 F l v:=by
 rcases h with h |⟨b,cs,h1,h2,H,h4,h5,h6⟩;·exact .inl h
 exact .inr ⟨b,cs,h1,h2,H,by rw[hk b H (M.aL h4),h4],h5,λi x hi=>aP.bH (h6 i x hi) λb c t g _ h=>by rw[ht]at h;cases h⟩
def XV{α:Type}[aP α](m:M)(l:List α)(v:aed):Prop:=
 Sl m l v/\∃b o c F g,v=.slice (some ⟨b,o,none⟩) l.length c/\l.length<=c/\m.get b=.cells F (aP.ty α) g/\(g=none\/g=some (aP.sz α))
theorem XV.aD{α:Type}[aP α]{F:M}{l:List α}{v:aed}(h:XV m l v)(he:Ext m F):XV F l v:=by obtain⟨H,b,o,c,bc,g,h2,h3,h4,h5⟩:=h;exact⟨H.aD he,b,o,c,bc,g,h2,h3,he.cells h4,h5⟩
theorem Sl.part{α:Type}[aP α]{l:List α}{b o c:Nat}(h:Sl m l (aec b o l.length c)){i k:Nat}(H:i+k<=l.length){c':Nat}:Sl m ((l.drop i).take k) (aec b (o+i*aP.sz α) k c'):=by
 have hlen:((l.drop i).take k).length=k:=by rw[aap,aaK];omega
 rcases h with⟨h,_⟩ |⟨b',o',c1,bc,g,he,hb,hle,a0⟩;·cases h
 cases he;refine .inr ⟨b,_,c',bc,g,by rw[hlen],hb,?_,λj x hj=>?_⟩
 ·rw[hlen];have:(i+k)*aP.sz α<=l.length*aP.sz α:=aaD _ H;rw[aao]at this;omega
 have F:=(Ω.1 hj).1;rw[hlen]at F;rw[aaI F,aaW]at hj;have:=a0 (i+j) x hj;rwa[aao,<-adP]at this
end
end
end Go.D
