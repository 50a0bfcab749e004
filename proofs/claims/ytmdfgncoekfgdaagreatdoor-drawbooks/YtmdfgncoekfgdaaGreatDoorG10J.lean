/- What functions of the program come to, their temporaries gone (made off the translation; each proved by the kernel, word by word). -/
import Derived.Test.YtmdfgncoekfgdaaGreatDoorG7J
namespace Go.Proofs.YtmdfgncoekfgdaaGreatDoor
open Go Go.D
set_option maxRecDepth 100000 in
theorem SP{W:Words}{x0:Value}{m:M}{R:List Value->M->Nat->Prop}:dN TE W Tryz.f188 [x0] m R=
(W.bW (M.push m (.cells (cells x0) 98 none)) fun a=>W.jn (fun b=>W.ah (ae TE 98 (ptrTo m.n) 0) fun c=>W.ah (ag TE a 3 c) fun d=>W.ah (an TE .geq 3 d (.int .i64 0)) fun f=>aX f
(W.ah (ae TE 98 (ptrTo m.n) 0) fun g=>W.ah (ag TE a 3 g) fun h=>W.ah (an TE .leq 3 h (.int .i64 40)) fun i=>aX i
(W.ah (ae TE 98 (ptrTo m.n) 1) fun j=>W.ah (ag TE a 3 j) fun k=>W.ah (an TE .geq 3 k (.int .i64 0)) fun l=>aX l
(W.ah (ae TE 98 (ptrTo m.n) 1) fun n=>W.ah (ag TE a 3 n) fun o=>W.ah (an TE .leq 3 o (.int .i64 40)) fun p=>b [p] a m.n)
(b [(.bool false)] a m.n))
(b [(.bool false)] a m.n))
(b [(.bool false)] a m.n))
(fun q r s=>W.un q fun t u=>R [t] r s)):=by kernel_rfl
set_option maxRecDepth 100000 in
theorem Ts{W:Words}{x0 x1 x2:Value}{m:M}{R:List Value->M->Nat->Prop}:dN TE W Tryz.f108 [x0,x1,x2] m R=
(W.bW (M.push m (.cells (cells x0) 98 none)) fun a=>W.bW (M.push a (.cells (cells x1) 98 none)) fun b=>W.bW (M.push b (.cells (cells x2) 98 none)) fun c=>W.ah (ae TE 98 (ptrTo a.n) 0) fun d=>W.ah (ag TE c 3 d) fun f=>W.ah (ae TE 98 (ptrTo m.n) 0) fun g=>W.ah (ag TE c 3 g) fun h=>W.ah (an TE .sub 3 f h) fun i=>W.ah (ae TE 98 (ptrTo b.n) 1) fun j=>W.ah (ag TE c 3 j) fun k=>W.ah (ae TE 98 (ptrTo m.n) 1) fun l=>W.ah (ag TE c 3 l) fun n=>W.ah (an TE .sub 3 k n) fun o=>W.ah (an TE .mul 3 i o) fun p=>W.ah (ae TE 98 (ptrTo a.n) 1) fun q=>W.ah (ag TE c 3 q) fun r=>W.ah (ae TE 98 (ptrTo m.n) 1) fun s=>W.ah (ag TE c 3 s) fun t=>W.ah (an TE .sub 3 r t) fun u=>W.ah (ae TE 98 (ptrTo b.n) 0) fun v=>W.ah (ag TE c 3 v) fun w=>W.ah (ae TE 98 (ptrTo m.n) 0) fun y=>W.ah (ag TE c 3 y) fun z=>W.ah (an TE .sub 3 w z) fun A=>W.ah (an TE .mul 3 u A) fun B=>W.ah (an TE .sub 3 p B) fun C=>R [C] c m.n):=by kernel_rfl
set_option maxRecDepth 100000 in
theorem Tk{W:Words}{x0:Value}{m:M}{R:List Value->M->Nat->Prop}:dN TE W Tryz.f127 [x0] m R=
(W.jn (fun a=>W.aO (aq TE m .len [45] [x0]) fun b _=>W.ah (an TE .lss 3 b (.int .i64 3)) fun c=>aX c
(a [(.bool true)] m m.n)
(W.aO (aq TE m .len [45] [x0]) fun d _=>W.ah (an TE .gtr 3 d (.int .i64 8)) fun f=>a [f] m m.n))
(fun g h i=>W.un g fun j k=>aX j
(R [(.bool false)] h i)
(W.Lp (fun l n o p=>W.un n fun q r=>W.un r fun s t=>W.aO (aq TE o .len [45] [x0]) fun u _=>W.ah (an TE .lss 3 s u) fun v=>aX v
(W.ah (ai TE 45 x0 s) fun w=>W.ah (ag TE o 98 w) fun y=>W.bB (.func 188) [y] o fun z A B=>W.ah (iO .not z) fun C=>aX C
(R [(.bool false)] A (min p B))
(W.ah (an TE .add 3 s (.int .i64 1)) fun D=>l [q,D] A (min p B)))
(W.Lp (fun E F G H=>W.un F fun I J=>W.un J fun K L=>W.aO (aq TE G .len [45] [x0]) fun N _=>W.ah (an TE .lss 3 K N) fun O=>aX O
(W.Lp (fun P Q S T=>W.un Q fun U V=>W.un V fun X Y=>W.aO (aq TE S .len [45] [x0]) fun Z _=>W.ah (an TE .lss 3 X Z) fun a0=>aX a0
(W.jn (fun a1=>W.ah (an TE .neq 3 X K) fun a2=>aX a2
(W.ah (an TE .add 3 K (.int .i64 1)) fun a3=>W.aO (aq TE S .len [45] [x0]) fun a4 _=>W.ah (an TE .rem 3 a3 a4) fun a5=>W.ah (an TE .neq 3 X a5) fun a6=>aX a6
(W.ah (ai TE 45 x0 K) fun a7=>W.ah (ag TE S 98 a7) fun a8=>W.bB (.func 166) [x0,K] S fun a9 b0 b1=>(M.n S<=b1)/\(W.ah (ai TE 45 x0 X) fun b2=>W.ah (ag TE b0 98 b2) fun b3=>W.bB (.func 108) [a8,a9,b3] b0 fun b4 b5 b6=>W.ah (an TE .leq 3 b4 (.int .i64 0)) fun b7=>a1 [b7] b5 (min (min T b1) b6)))
(a1 [(.bool false)] S T))
(a1 [(.bool false)] S T))
(fun b8 b9 c0=>W.un b8 fun c1 c2=>aX c1
(R [(.bool false)] b9 c0)
(W.ah (an TE .add 3 X (.int .i64 1)) fun c3=>P [U,c3] b9 c0)))
(W.ah (an TE .add 3 K (.int .i64 1)) fun c4=>E [U,c4] S T)) [I,(.int .i64 0)] G H)
(R [(.bool true)] G H)) [q,(.int .i64 0)] o p)) [(.bool false),(.int .i64 0)] h i))):=by kernel_rfl
set_option maxRecDepth 100000 in
theorem S2{W:Words}{x0 x1:Value}{m:M}{R:List Value->M->Nat->Prop}:dN TE W Tryz.f166 [x0,x1] m R=
(W.bW (M.push m (.cells [(.int .i64 0),(.int .i64 0)] 98 none)) fun a=>W.ah (an TE .add 3 x1 (.int .i64 1)) fun b=>W.aO (aq TE a .len [45] [x0]) fun c _=>W.ah (an TE .rem 3 b c) fun d=>W.ah (ai TE 45 x0 d) fun f=>W.ah (ag TE a 98 f) fun g=>W.aO (aB TE a 98 (ptrTo m.n) g) fun h i=>ah (ag TE h 98 (ptrTo m.n)) fun j=>R [j] h (min m.n i)):=by kernel_rfl
set_option maxRecDepth 100000 in
theorem SZ{W:Words}{x0:Value}{m:M}{R:List Value->M->Nat->Prop}:dN TE W Tryz.f167 [x0] m R=
(W.Lp (fun a b c d=>W.un b fun f g=>W.un g fun h i=>W.aO (aq TE c .len [45] [x0]) fun j _=>W.ah (an TE .lss 3 h j) fun k=>aX k
(W.ah (ai TE 45 x0 h) fun l=>W.ah (ag TE c 98 l) fun n=>W.bW (M.push c (.cells [(.int .i64 0),(.int .i64 0)] 98 none)) fun o=>W.aO (aB TE o 98 (ptrTo c.n) n) fun p q=>W.bB (.func 166) [x0,h] p fun r s t=>W.bW (M.push s (.cells [(.int .i64 0),(.int .i64 0)] 98 none)) fun u=>W.aO (aB TE u 98 (ptrTo s.n) r) fun v w=>W.ah (ae TE 98 (ptrTo c.n) 1) fun y=>W.ah (ag TE v 3 y) fun z=>W.ah (ae TE 98 (ptrTo s.n) 1) fun A=>W.ah (ag TE v 3 A) fun B=>W.ah (an TE .sub 3 z B) fun C=>W.ah (ae TE 98 (ptrTo s.n) 0) fun D=>W.ah (ag TE v 3 D) fun E=>W.ah (ae TE 98 (ptrTo c.n) 0) fun F=>W.ah (ag TE v 3 F) fun G=>W.ah (an TE .sub 3 E G) fun H=>W.ah (ae TE 98 (ptrTo s.n) 1) fun I=>W.ah (ag TE v 3 I) fun J=>W.ah (ae TE 98 (ptrTo c.n) 1) fun K=>W.ah (ag TE v 3 K) fun L=>W.ah (an TE .sub 3 J L) fun N=>W.ah (ae TE 98 (ptrTo c.n) 0) fun O=>W.ah (ag TE v 3 O) fun P=>W.ah (an TE .mul 3 N P) fun Q=>W.ah (ae TE 98 (ptrTo s.n) 0) fun S=>W.ah (ag TE v 3 S) fun T=>W.ah (ae TE 98 (ptrTo c.n) 0) fun U=>W.ah (ag TE v 3 U) fun V=>W.ah (an TE .sub 3 T V) fun X=>W.ah (ae TE 98 (ptrTo c.n) 1) fun Y=>W.ah (ag TE v 3 Y) fun Z=>W.ah (an TE .mul 3 X Z) fun a0=>W.ah (an TE .sub 3 Q a0) fun a1=>W.ah (aW TE 234 [(0,C),(1,H),(2,a1)]) fun a2=>W.aO (aE TE v 230 1 [(0,a2)]) fun a3 a4=>W.aO (aq TE (M.wl a4 a4.n) .append [230,230] [f,a3]) fun a5 a6=>W.ah (an TE .add 3 h (.int .i64 1)) fun a7=>a [a5,a7] a6 (min (min (min (min d q) t) w) (M.low a6)))
(R [f] c d)) [(.slice none 0 0),(.int .i64 0)] m m.n):=by kernel_rfl
set_option maxRecDepth 100000 in
theorem Tq{W:Words}{x0 x1:Value}{m:M}{R:List Value->M->Nat->Prop}:dN TE W Tryz.f111 [x0,x1] m R=
(W.jn (fun a=>W.bB (.func 127) [x0] m fun b c d=>W.ah (iO .not b) fun f=>aX f
(a [(.bool true)] c (min m.n d))
(W.bB (.func 127) [x1] c fun g h i=>W.ah (iO .not g) fun j=>a [j] h (min (min m.n d) i)))
(fun k l n=>W.un k fun o p=>aX o
(R [(.bool false)] l n)
(W.bB (.func 167) [x0] l fun q r s=>W.bB (.func 167) [x1] r fun t u v=>W.aO (aq TE (M.wl u u.n) .append [230,230] [q,t]) fun w y=>W.Lp (fun z A B C=>W.un A fun D E=>W.un E fun F G=>W.aO (aq TE B .len [230] [w]) fun H _=>W.ah (an TE .lss 3 F H) fun I=>aX I
(W.ah (an TE .add 3 F (.int .i64 1)) fun J=>W.Lp (fun K L N O=>W.un L fun P Q=>W.un Q fun S T=>W.aO (aq TE N .len [230] [w]) fun U _=>W.ah (an TE .lss 3 S U) fun V=>aX V
(W.ah (ai TE 230 w F) fun X=>W.ah (ae TE 234 X 1) fun Y=>W.ah (ag TE N 3 Y) fun Z=>W.ah (ai TE 230 w S) fun a0=>W.ah (ae TE 234 a0 2) fun a1=>W.ah (ag TE N 3 a1) fun a2=>W.ah (an TE .mul 3 Z a2) fun a3=>W.ah (ai TE 230 w S) fun a4=>W.ah (ae TE 234 a4 1) fun a5=>W.ah (ag TE N 3 a5) fun a6=>W.ah (ai TE 230 w F) fun a7=>W.ah (ae TE 234 a7 2) fun a8=>W.ah (ag TE N 3 a8) fun a9=>W.ah (an TE .mul 3 a6 a9) fun b0=>W.ah (an TE .sub 3 a3 b0) fun b1=>W.ah (ai TE 230 w F) fun b2=>W.ah (ae TE 234 b2 2) fun b3=>W.ah (ag TE N 3 b3) fun b4=>W.ah (ai TE 230 w S) fun b5=>W.ah (ae TE 234 b5 0) fun b6=>W.ah (ag TE N 3 b6) fun b7=>W.ah (an TE .mul 3 b4 b7) fun b8=>W.ah (ai TE 230 w S) fun b9=>W.ah (ae TE 234 b9 2) fun c0=>W.ah (ag TE N 3 c0) fun c1=>W.ah (ai TE 230 w F) fun c2=>W.ah (ae TE 234 c2 0) fun c3=>W.ah (ag TE N 3 c3) fun c4=>W.ah (an TE .mul 3 c1 c4) fun c5=>W.ah (an TE .sub 3 b8 c5) fun c6=>W.ah (ai TE 230 w F) fun c7=>W.ah (ae TE 234 c7 0) fun c8=>W.ah (ag TE N 3 c8) fun c9=>W.ah (ai TE 230 w S) fun d0=>W.ah (ae TE 234 d0 1) fun d1=>W.ah (ag TE N 3 d1) fun d2=>W.ah (an TE .mul 3 c9 d2) fun d3=>W.ah (ai TE 230 w S) fun d4=>W.ah (ae TE 234 d4 0) fun d5=>W.ah (ag TE N 3 d5) fun d6=>W.ah (ai TE 230 w F) fun d7=>W.ah (ae TE 234 d7 1) fun d8=>W.ah (ag TE N 3 d8) fun d9=>W.ah (an TE .mul 3 d6 d9) fun g0=>W.ah (an TE .sub 3 d3 g0) fun g1=>W.ah (aW TE 236 [(0,b1),(1,c6),(2,g1)]) fun g2=>W.bW (M.push N (.cells [(.int .i64 0),(.int .i64 0),(.int .i64 0)] 236 none)) fun g3=>W.aO (aB TE g3 236 (ptrTo N.n) g2) fun g4 g5=>W.ah (ae TE 236 (ptrTo N.n) 2) fun g6=>W.ah (ag TE g4 3 g6) fun g7=>W.ah (an TE .eql 3 g7 (.int .i64 0)) fun g8=>aX g8
(W.ah (an TE .add 3 S (.int .i64 1)) fun g9=>K [P,g9] g4 (min O g5))
(W.ah (ae TE 236 (ptrTo N.n) 2) fun h0=>W.ah (ag TE g4 3 h0) fun h1=>W.ah (an TE .lss 3 h1 (.int .i64 0)) fun h2=>aX h2
(W.ah (ae TE 236 (ptrTo N.n) 0) fun h3=>W.ah (ag TE g4 3 h3) fun h4=>W.ah (iO .neg h4) fun h5=>W.ah (ae TE 236 (ptrTo N.n) 1) fun h6=>W.ah (ag TE g4 3 h6) fun h7=>W.ah (iO .neg h7) fun h8=>W.ah (ae TE 236 (ptrTo N.n) 2) fun h9=>W.ah (ag TE g4 3 h9) fun i0=>W.ah (iO .neg i0) fun i1=>W.ah (aW TE 236 [(0,h5),(1,h8),(2,i1)]) fun i2=>W.aO (aB TE g4 236 (ptrTo N.n) i2) fun i3 i4=>W.Lp (fun i5 i6 i7 i8=>W.un i6 fun i9 j0=>W.un j0 fun j1 j2=>W.aO (aq TE i7 .len [230] [w]) fun j3 _=>W.ah (an TE .lss 3 j1 j3) fun j4=>aX j4
(aX i9
(W.ah (ai TE 230 w j1) fun j5=>W.ah (ae TE 234 j5 0) fun j6=>W.ah (ag TE i7 3 j6) fun j7=>W.ah (ae TE 236 (ptrTo N.n) 0) fun j8=>W.ah (ag TE i7 3 j8) fun j9=>W.ah (an TE .mul 3 j7 j9) fun k0=>W.ah (ai TE 230 w j1) fun k1=>W.ah (ae TE 234 k1 1) fun k2=>W.ah (ag TE i7 3 k2) fun k3=>W.ah (ae TE 236 (ptrTo N.n) 1) fun k4=>W.ah (ag TE i7 3 k4) fun k5=>W.ah (an TE .mul 3 k3 k5) fun k6=>W.ah (an TE .add 3 k0 k6) fun k7=>W.ah (ai TE 230 w j1) fun k8=>W.ah (ae TE 234 k8 2) fun k9=>W.ah (ag TE i7 3 k9) fun l0=>W.ah (ae TE 236 (ptrTo N.n) 2) fun l1=>W.ah (ag TE i7 3 l1) fun l2=>W.ah (an TE .mul 3 l0 l2) fun l3=>W.ah (an TE .add 3 k7 l3) fun l4=>W.ah (an TE .geq 3 l4 (.int .i64 0)) fun l5=>W.ah (an TE .add 3 j1 (.int .i64 1)) fun l6=>i5 [l5,l6] i7 i8)
(W.ah (an TE .add 3 j1 (.int .i64 1)) fun l7=>i5 [(.bool false),l7] i7 i8))
(aX i9
(W.ah (ag TE i7 236 (ptrTo N.n)) fun l8=>W.aO (aE TE i7 232 1 [(0,l8)]) fun l9 n0=>W.aO (aq TE (M.wl n0 n0.n) .append [232,232] [P,l9]) fun n1 n2=>W.ah (an TE .add 3 S (.int .i64 1)) fun n3=>K [n1,n3] n2 (min i8 (M.low n2)))
(W.ah (an TE .add 3 S (.int .i64 1)) fun n4=>K [P,n4] i7 i8))) [(.bool true),(.int .i64 0)] i3 (min (min O g5) i4))
(W.Lp (fun n5 n6 n7 n8=>W.un n6 fun n9 o0=>W.un o0 fun o1 o2=>W.aO (aq TE n7 .len [230] [w]) fun o3 _=>W.ah (an TE .lss 3 o1 o3) fun o4=>aX o4
(aX n9
(W.ah (ai TE 230 w o1) fun o5=>W.ah (ae TE 234 o5 0) fun o6=>W.ah (ag TE n7 3 o6) fun o7=>W.ah (ae TE 236 (ptrTo N.n) 0) fun o8=>W.ah (ag TE n7 3 o8) fun o9=>W.ah (an TE .mul 3 o7 o9) fun p0=>W.ah (ai TE 230 w o1) fun p1=>W.ah (ae TE 234 p1 1) fun p2=>W.ah (ag TE n7 3 p2) fun p3=>W.ah (ae TE 236 (ptrTo N.n) 1) fun p4=>W.ah (ag TE n7 3 p4) fun p5=>W.ah (an TE .mul 3 p3 p5) fun p6=>W.ah (an TE .add 3 p0 p6) fun p7=>W.ah (ai TE 230 w o1) fun p8=>W.ah (ae TE 234 p8 2) fun p9=>W.ah (ag TE n7 3 p9) fun q0=>W.ah (ae TE 236 (ptrTo N.n) 2) fun q1=>W.ah (ag TE n7 3 q1) fun q2=>W.ah (an TE .mul 3 q0 q2) fun q3=>W.ah (an TE .add 3 p7 q3) fun q4=>W.ah (an TE .geq 3 q4 (.int .i64 0)) fun q5=>W.ah (an TE .add 3 o1 (.int .i64 1)) fun q6=>n5 [q5,q6] n7 n8)
(W.ah (an TE .add 3 o1 (.int .i64 1)) fun q7=>n5 [(.bool false),q7] n7 n8))
(aX n9
(W.ah (ag TE n7 236 (ptrTo N.n)) fun q8=>W.aO (aE TE n7 232 1 [(0,q8)]) fun q9 r0=>W.aO (aq TE (M.wl r0 r0.n) .append [232,232] [P,q9]) fun r1 r2=>W.ah (an TE .add 3 S (.int .i64 1)) fun r3=>K [r1,r3] r2 (min n8 (M.low r2)))
(W.ah (an TE .add 3 S (.int .i64 1)) fun r4=>K [P,r4] n7 n8))) [(.bool true),(.int .i64 0)] g4 (min O g5))))
(W.ah (an TE .add 3 F (.int .i64 1)) fun r5=>z [P,r5] N O)) [D,J] B C)
(W.Lp (fun r6 r7 r8 r9=>W.un r7 fun s0 s1=>W.un s1 fun s2 s3=>W.aO (aq TE r8 .len [232] [D]) fun s4 _=>W.ah (an TE .lss 3 s2 s4) fun s5=>aX s5
(W.Lp (fun s6 s7 s8 s9=>W.un s7 fun t0 t1=>W.un t1 fun t2 t3=>W.ah (an TE .lss 3 t2 s2) fun t4=>aX t4
(W.Lp (fun t5 t6 t7 t8=>W.un t6 fun t9 u0=>W.un u0 fun u1 u2=>W.ah (an TE .lss 3 u1 t2) fun u3=>aX u3
(W.ah (ai TE 232 D s2) fun u4=>W.ah (ag TE t7 236 u4) fun u5=>W.bW (M.push t7 (.cells [(.int .i64 0),(.int .i64 0),(.int .i64 0)] 236 none)) fun u6=>W.aO (aB TE u6 236 (ptrTo t7.n) u5) fun u7 u8=>W.ah (ai TE 232 D t2) fun u9=>W.ah (ag TE u7 236 u9) fun v0=>W.bW (M.push u7 (.cells [(.int .i64 0),(.int .i64 0),(.int .i64 0)] 236 none)) fun v1=>W.aO (aB TE v1 236 (ptrTo u7.n) v0) fun v2 v3=>W.ah (ai TE 232 D u1) fun v4=>W.ah (ag TE v2 236 v4) fun v5=>W.bW (M.push v2 (.cells [(.int .i64 0),(.int .i64 0),(.int .i64 0)] 236 none)) fun v6=>W.aO (aB TE v6 236 (ptrTo v2.n) v5) fun v7 v8=>W.ah (ae TE 236 (ptrTo t7.n) 0) fun v9=>W.ah (ag TE v7 3 v9) fun w0=>W.ah (ae TE 236 (ptrTo u7.n) 1) fun w1=>W.ah (ag TE v7 3 w1) fun w2=>W.ah (ae TE 236 (ptrTo v2.n) 2) fun w3=>W.ah (ag TE v7 3 w3) fun w4=>W.ah (an TE .mul 3 w2 w4) fun w5=>W.ah (ae TE 236 (ptrTo u7.n) 2) fun w6=>W.ah (ag TE v7 3 w6) fun w7=>W.ah (ae TE 236 (ptrTo v2.n) 1) fun w8=>W.ah (ag TE v7 3 w8) fun w9=>W.ah (an TE .mul 3 w7 w9) fun y0=>W.ah (an TE .sub 3 w5 y0) fun y1=>W.ah (an TE .mul 3 w0 y1) fun y2=>W.ah (ae TE 236 (ptrTo t7.n) 1) fun y3=>W.ah (ag TE v7 3 y3) fun y4=>W.ah (ae TE 236 (ptrTo u7.n) 0) fun y5=>W.ah (ag TE v7 3 y5) fun y6=>W.ah (ae TE 236 (ptrTo v2.n) 2) fun y7=>W.ah (ag TE v7 3 y7) fun y8=>W.ah (an TE .mul 3 y6 y8) fun y9=>W.ah (ae TE 236 (ptrTo u7.n) 2) fun z0=>W.ah (ag TE v7 3 z0) fun z1=>W.ah (ae TE 236 (ptrTo v2.n) 0) fun z2=>W.ah (ag TE v7 3 z2) fun z3=>W.ah (an TE .mul 3 z1 z3) fun z4=>W.ah (an TE .sub 3 y9 z4) fun z5=>W.ah (an TE .mul 3 y4 z5) fun z6=>W.ah (an TE .sub 3 y2 z6) fun z7=>W.ah (ae TE 236 (ptrTo t7.n) 2) fun z8=>W.ah (ag TE v7 3 z8) fun z9=>W.ah (ae TE 236 (ptrTo u7.n) 0) fun A0=>W.ah (ag TE v7 3 A0) fun A1=>W.ah (ae TE 236 (ptrTo v2.n) 1) fun A2=>W.ah (ag TE v7 3 A2) fun A3=>W.ah (an TE .mul 3 A1 A3) fun A4=>W.ah (ae TE 236 (ptrTo u7.n) 1) fun A5=>W.ah (ag TE v7 3 A5) fun A6=>W.ah (ae TE 236 (ptrTo v2.n) 0) fun A7=>W.ah (ag TE v7 3 A7) fun A8=>W.ah (an TE .mul 3 A6 A8) fun A9=>W.ah (an TE .sub 3 A4 A9) fun B0=>W.ah (an TE .mul 3 z9 B0) fun B1=>W.ah (an TE .add 3 z7 B1) fun B2=>W.ah (an TE .neq 3 B2 (.int .i64 0)) fun B3=>aX B3
(R [(.bool true)] v7 (min (min (min t8 u8) v3) v8))
(W.ah (an TE .add 3 u1 (.int .i64 1)) fun B4=>t5 [t9,B4] v7 (min (min (min t8 u8) v3) v8)))
(W.ah (an TE .add 3 t2 (.int .i64 1)) fun B5=>s6 [t9,B5] t7 t8)) [t0,(.int .i64 0)] s8 s9)
(W.ah (an TE .add 3 s2 (.int .i64 1)) fun B6=>r6 [t0,B6] s8 s9)) [s0,(.int .i64 0)] r8 r9)
(R [(.bool false)] r8 r9)) [(.bool false),(.int .i64 0)] B C)) [(.slice none 0 0),(.int .i64 0)] y (min (min (min n s) v) (M.low y))))):=by kernel_rfl
set_option maxRecDepth 100000 in
theorem Tb{W:Words}{x0 x1:Value}{m:M}{R:List Value->M->Nat->Prop}:dN TE W Tryz.f136 [x0,x1] m R=
(W.bW (M.push m (.cells (cells x0) 87 none)) fun a=>W.bW (M.push a (.cells (cells x1) 87 none)) fun b=>W.jn (fun c=>W.ah (ag TE b 87 (ptrTo m.n)) fun d=>W.ah (ag TE b 87 (ptrTo a.n)) fun f=>W.bB (.func 191) [d,f] b fun g h i=>aX g
(W.ah (ae TE 87 (ptrTo m.n) 3) fun j=>W.ah (ag TE h 45 j) fun k=>W.ah (ae TE 87 (ptrTo a.n) 3) fun l=>W.ah (ag TE h 45 l) fun n=>W.bB (.func 111) [k,n] h fun o p q=>c [o] p (min (min m.n i) q))
(c [(.bool false)] h (min m.n i)))
(fun r s t=>W.un r fun u v=>R [u] s t)):=by kernel_rfl
set_option maxRecDepth 100000 in
theorem Tc{W:Words}{x0:Value}{m:M}{R:List Value->M->Nat->Prop}:dN TE W Tryz.f135 [x0] m R=
(W.bW (M.push m (.cells (cells x0) 87 none)) fun a=>W.jn (fun b=>W.ah (ae TE 87 (ptrTo m.n) 0) fun c=>W.ah (ag TE a 3 c) fun d=>W.ah (an TE .lss 3 d (.int .i64 0)) fun f=>aX f
(b [(.bool true)] a m.n)
(W.ah (ae TE 87 (ptrTo m.n) 0) fun g=>W.ah (ag TE a 3 g) fun h=>W.ah (an TE .gtr 3 h (.int .i64 99)) fun i=>aX i
(b [(.bool true)] a m.n)
(W.ah (ae TE 87 (ptrTo m.n) 1) fun j=>W.ah (ag TE a 3 j) fun k=>W.ah (an TE .lss 3 k (.int .i64 1)) fun l=>aX l
(b [(.bool true)] a m.n)
(W.ah (ae TE 87 (ptrTo m.n) 1) fun n=>W.ah (ag TE a 3 n) fun o=>W.ah (an TE .gtr 3 o (.int .i64 8)) fun p=>aX p
(b [(.bool true)] a m.n)
(W.ah (ae TE 87 (ptrTo m.n) 2) fun q=>W.ah (ag TE a 3 q) fun r=>W.ah (an TE .lss 3 r (.int .i64 0)) fun s=>aX s
(b [(.bool true)] a m.n)
(W.ah (ae TE 87 (ptrTo m.n) 2) fun t=>W.ah (ag TE a 3 t) fun u=>W.ah (an TE .gtr 3 u (.int .i64 7)) fun v=>b [v] a m.n))))))
(fun w y z=>W.un w fun A B=>aX A
(R [(.bool false)] y z)
(W.jn (fun C=>W.ah (ae TE 87 (ptrTo m.n) 4) fun D=>W.ah (ag TE y 3 D) fun E=>W.ah (an TE .geq 3 E (.int .i64 0)) fun F=>aX F
(W.ah (ae TE 87 (ptrTo m.n) 4) fun G=>W.ah (ag TE y 3 G) fun H=>W.ah (ae TE 87 (ptrTo m.n) 5) fun I=>W.ah (ag TE y 3 I) fun J=>W.ah (an TE .lss 3 H J) fun K=>aX K
(W.ah (ae TE 87 (ptrTo m.n) 5) fun L=>W.ah (ag TE y 3 L) fun N=>W.ah (an TE .leq 3 N (.int .i64 8)) fun O=>aX O
(W.ah (ae TE 87 (ptrTo m.n) 3) fun P=>W.ah (ag TE y 45 P) fun Q=>W.bB (.func 127) [Q] y fun S T U=>C [S] T (min z U))
(C [(.bool false)] y z))
(C [(.bool false)] y z))
(C [(.bool false)] y z))
(fun V X Y=>W.un V fun Z a0=>R [Z] X Y)))):=by kernel_rfl
set_option maxRecDepth 100000 in
theorem SM{W:Words}{x0 x1:Value}{m:M}{R:List Value->M->Nat->Prop}:dN TE W Tryz.f191 [x0,x1] m R=
(W.bW (M.push m (.cells (cells x0) 87 none)) fun a=>W.bW (M.push a (.cells (cells x1) 87 none)) fun b=>W.jn (fun c=>W.ah (ag TE b 87 (ptrTo m.n)) fun d=>W.bB (.func 135) [d] b fun f g h=>aX f
(W.ah (ag TE g 87 (ptrTo a.n)) fun i=>W.bB (.func 135) [i] g fun j k l=>aX j
(W.ah (ae TE 87 (ptrTo m.n) 4) fun n=>W.ah (ag TE k 3 n) fun o=>W.ah (ae TE 87 (ptrTo a.n) 4) fun p=>W.ah (ag TE k 3 p) fun q=>W.aO (aq TE k .max [3,3] [o,q]) fun r _=>W.ah (ae TE 87 (ptrTo m.n) 5) fun s=>W.ah (ag TE k 3 s) fun t=>W.ah (ae TE 87 (ptrTo a.n) 5) fun u=>W.ah (ag TE k 3 u) fun v=>W.aO (aq TE k .min [3,3] [t,v]) fun w _=>W.ah (an TE .lss 3 r w) fun y=>c [y] k (min (min m.n h) l))
(c [(.bool false)] k (min (min m.n h) l)))
(c [(.bool false)] g (min m.n h)))
(fun z A B=>W.un z fun C D=>R [C] A B)):=by kernel_rfl
set_option maxRecDepth 100000 in
theorem Ti{W:Words}{x0 x1:Value}{m:M}{R:List Value->M->Nat->Prop}:dN TE W Tryz.f129 [x0,x1] m R=
(W.bW (M.push m (.cells (cells x0) 87 none)) fun a=>W.bW (M.push a (.cells (cells x1) 87 none)) fun b=>W.ah (ag TE b 87 (ptrTo m.n)) fun c=>W.ah (ag TE b 87 (ptrTo a.n)) fun d=>W.bB (.func 190) [c,d] b fun f g h=>W.ah (cx f 0) fun i=>W.ah (cx f 1) fun j=>W.ah (cx f 2) fun k=>W.jn (fun l=>aX k
(W.ah (ae TE 87 (ptrTo m.n) 3) fun n=>W.ah (ag TE g 45 n) fun o=>W.ah (ae TE 87 (ptrTo a.n) 3) fun p=>W.ah (ag TE g 45 p) fun q=>W.bB (.func 102) [o,q] g fun r s t=>l [r] s (min (min m.n h) t))
(l [(.bool false)] g (min m.n h)))
(fun u v w=>W.un u fun y z=>R [y] v w)):=by kernel_rfl
set_option maxRecDepth 100000 in
theorem To{W:Words}{x0:Value}{m:M}{R:List Value->M->Nat->Prop}:dN TE W Tryz.f120 [x0] m R=
(W.bW (M.push m (.cells (cells x0) 87 none)) fun a=>W.jn (fun b=>W.ah (ae TE 87 (ptrTo m.n) 0) fun c=>W.ah (ag TE a 3 c) fun d=>W.bB (.func 180) [d,(.int .i64 0),(.int .i64 99)] a fun f g h=>aX f
(W.ah (ae TE 87 (ptrTo m.n) 1) fun i=>W.ah (ag TE g 3 i) fun j=>W.bB (.func 180) [j,(.int .i64 1),(.int .i64 8)] g fun k l n=>aX k
(W.ah (ae TE 87 (ptrTo m.n) 2) fun o=>W.ah (ag TE l 3 o) fun p=>W.bB (.func 180) [p,(.int .i64 0),(.int .i64 7)] l fun q r s=>b [q] r (min (min (min m.n h) n) s))
(b [(.bool false)] l (min (min m.n h) n)))
(b [(.bool false)] g (min m.n h)))
(fun t u v=>W.un t fun w y=>W.jn (fun z=>aX w
(W.ah (ae TE 87 (ptrTo m.n) 4) fun A=>W.ah (ag TE u 3 A) fun B=>W.ah (an TE .leq 3 (.int .i64 0) B) fun C=>aX C
(W.ah (ae TE 87 (ptrTo m.n) 4) fun D=>W.ah (ag TE u 3 D) fun E=>W.ah (ae TE 87 (ptrTo m.n) 5) fun F=>W.ah (ag TE u 3 F) fun G=>W.ah (an TE .lss 3 E G) fun H=>aX H
(W.ah (ae TE 87 (ptrTo m.n) 5) fun I=>W.ah (ag TE u 3 I) fun J=>W.ah (an TE .leq 3 J (.int .i64 8)) fun K=>aX K
(W.ah (ae TE 87 (ptrTo m.n) 3) fun L=>W.ah (ag TE u 45 L) fun N=>W.bB (.func 157) [N] u fun O P Q=>z [O] P (min v Q))
(z [(.bool false)] u v))
(z [(.bool false)] u v))
(z [(.bool false)] u v))
(z [(.bool false)] u v))
(fun S T U=>W.un S fun V X=>R [V] T U))):=by kernel_rfl
set_option maxRecDepth 100000 in
theorem SN{W:Words}{x0 x1:Value}{m:M}{R:List Value->M->Nat->Prop}:dN TE W Tryz.f190 [x0,x1] m R=
(W.bW (M.push m (.cells (cells x0) 87 none)) fun a=>W.bW (M.push a (.cells (cells x1) 87 none)) fun b=>W.ah (ae TE 87 (ptrTo m.n) 4) fun c=>W.ah (ag TE b 3 c) fun d=>W.ah (ae TE 87 (ptrTo a.n) 4) fun f=>W.ah (ag TE b 3 f) fun g=>W.aO (aq TE b .max [3,3] [d,g]) fun h _=>W.ah (ae TE 87 (ptrTo m.n) 5) fun i=>W.ah (ag TE b 3 i) fun j=>W.ah (ae TE 87 (ptrTo a.n) 5) fun k=>W.ah (ag TE b 3 k) fun l=>W.aO (aq TE b .min [3,3] [j,l]) fun n _=>W.jn (fun o=>W.ah (an TE .lss 3 h n) fun p=>aX p
(W.ah (ag TE b 87 (ptrTo m.n)) fun q=>W.bB (.func 120) [q] b fun r s t=>aX r
(W.ah (ag TE s 87 (ptrTo a.n)) fun u=>W.bB (.func 120) [u] s fun v w y=>o [h,n,v] w (min (min m.n t) y))
(o [h,n,(.bool false)] s (min m.n t)))
(o [h,n,(.bool false)] b m.n))
(fun z A B=>W.un z fun C D=>W.un D fun E F=>W.un F fun G H=>R [C,E,G] A B)):=by kernel_rfl
set_option maxRecDepth 100000 in
theorem SV{W:Words}{x0 x1 x2:Value}{m:M}{R:List Value->M->Nat->Prop}:dN TE W Tryz.f180 [x0,x1,x2] m R=
(W.jn (fun a=>W.ah (an TE .leq 3 x1 x0) fun b=>aX b
(W.ah (an TE .leq 3 x0 x2) fun c=>a [c] m m.n)
(a [(.bool false)] m m.n))
(fun d f g=>W.un d fun h i=>R [h] f g)):=by kernel_rfl
set_option maxRecDepth 100000 in
theorem SO{W:Words}{x0 x1:Value}{m:M}{R:List Value->M->Nat->Prop}:dN TE W Tryz.f189 [x0,x1] m R=
(W.ah (ae TE 31 x1 0) fun a=>W.ah (ag TE m 29 a) fun b=>W.aO (aq TE m .len [29] [b]) fun c _=>W.Lp (fun d f g h=>W.un f fun i j=>W.ah (an TE .lss 3 i c) fun k=>aX k
(W.ah (ai TE 29 b i) fun l=>W.ah (ag TE g 87 l) fun n=>W.bW (M.push g (.cells [(.int .i64 0),(.int .i64 0),(.int .i64 0),(.slice none 0 0),(.int .i64 0),(.int .i64 0)] 87 none)) fun o=>W.aO (aB TE o 87 (ptrTo g.n) n) fun p q=>W.ah (ae TE 31 x1 0) fun r=>W.ah (ag TE p 29 r) fun s=>W.ah (an TE .add 3 i (.int .i64 1)) fun t=>W.ah (slice? TE p 29 s (some t) none none) fun u=>W.aO (aq TE p .len [29] [u]) fun v _=>W.Lp (fun w y z A=>W.un y fun B C=>W.ah (an TE .lss 3 B v) fun D=>aX D
(W.ah (ai TE 29 u B) fun E=>W.ah (ag TE z 87 E) fun F=>W.bW (M.push z (.cells [(.int .i64 0),(.int .i64 0),(.int .i64 0),(.slice none 0 0),(.int .i64 0),(.int .i64 0)] 87 none)) fun G=>W.aO (aB TE G 87 (ptrTo z.n) F) fun H I=>W.ah (ag TE H 87 (ptrTo g.n)) fun J=>W.ah (ag TE H 87 (ptrTo z.n)) fun K=>ku x0 fun L N O=>W.bB L (N.toList++([J,K]++O.toList)) H fun P Q S=>W.ah (iO .not P) fun T=>aX T
(R [] Q (min (min A I) S))
(W.ah (an TE .add 3 B (.int .i64 1)) fun U=>w [U] Q (min (min A I) S)))
(W.ah (an TE .add 3 i (.int .i64 1)) fun V=>d [V] z A)) [(.int .i64 0)] p (min h q))
(R [] g h)) [(.int .i64 0)] m m.n):=by kernel_rfl
set_option maxRecDepth 100000 in
theorem F59{W:Words}{x0:Value}{m:M}{R:List Value->M->Nat->Prop}:dN TE W Tryz.f59 [x0] m R=
(W.bW (M.push m (.cells (cells x0) 31 none)) fun a=>W.bW (M.push a (.cells [(.bool false)] 4 none)) fun b=>W.ah (ae TE 31 (ptrTo m.n) 0) fun c=>W.ah (ag TE b 29 c) fun d=>W.aO (aq TE b .len [29] [d]) fun f _=>W.ah (an TE .gtr 3 f (.int .i64 12)) fun g=>aX g
(W.aO (aB TE b 4 (ptrTo a.n) (.bool false)) fun h i=>ah (ag TE h 4 (ptrTo a.n)) fun j=>R [j] h (min m.n i))
(W.ah (ae TE 31 (ptrTo m.n) 0) fun k=>W.ah (ag TE b 29 k) fun l=>W.aO (aq TE b .len [29] [l]) fun n _=>W.Lp (fun o p q r=>W.un p fun s t=>W.ah (an TE .lss 3 s n) fun u=>aX u
(W.ah (ai TE 29 l s) fun v=>W.ah (ag TE q 87 v) fun w=>W.bW (M.push q (.cells [(.int .i64 0),(.int .i64 0),(.int .i64 0),(.slice none 0 0),(.int .i64 0),(.int .i64 0)] 87 none)) fun y=>W.aO (aB TE y 87 (ptrTo q.n) w) fun z A=>W.jn (fun B=>W.ah (ag TE z 87 (ptrTo q.n)) fun C=>W.bB (.func 120) [C] z fun D E F=>W.ah (iO .not D) fun G=>aX G
(B [(.bool true)] E (min (min r A) F))
(W.ah (an TE .gtr 3 s (.int .i64 0)) fun H=>aX H
(W.ah (ae TE 87 (ptrTo q.n) 0) fun I=>W.ah (ag TE E 3 I) fun J=>W.ah (ae TE 31 (ptrTo m.n) 0) fun K=>W.ah (ag TE E 29 K) fun L=>W.ah (an TE .sub 3 s (.int .i64 1)) fun N=>W.ah (ai TE 29 L N) fun O=>W.ah (ae TE 87 O 0) fun P=>W.ah (ag TE E 3 P) fun Q=>W.ah (an TE .leq 3 J Q) fun S=>B [S] E (min (min r A) F))
(B [(.bool false)] E (min (min r A) F))))
(fun T U V=>W.un T fun X Y=>aX X
(W.aO (aB TE U 4 (ptrTo a.n) (.bool false)) fun Z a0=>ah (ag TE Z 4 (ptrTo a.n)) fun a1=>R [a1] Z (min V a0))
(W.ah (an TE .add 3 s (.int .i64 1)) fun a2=>o [a2] U V)))
(W.ah (ag TE q 31 (ptrTo m.n)) fun a3=>W.bB (.func 128) [a3] q fun a4 a5 a6=>ku a4 fun a7 a8 a9=>W.RF a7 a8.toList a9.toList a5 (min r a6) (fun b0 b1 b2=>W.un b0 fun b3 b4=>W.un b4 fun b5 b6=>W.vM b6 (W.bW (M.push b1 (.cells [(.int .i64 0),(.int .i64 0),(.int .i64 0),(.slice none 0 0),(.int .i64 0),(.int .i64 0)] 87 none)) fun b7=>W.aO (aB TE b7 87 (ptrTo b1.n) b3) fun b8 b9=>W.bW (M.push b8 (.cells [(.int .i64 0),(.int .i64 0),(.int .i64 0),(.slice none 0 0),(.int .i64 0),(.int .i64 0)] 87 none)) fun c0=>W.aO (aB TE c0 87 (ptrTo b8.n) b5) fun c1 c2=>W.HA a5.n b1 c1 fun c3=>W.ah (ag TE c3 87 (ptrTo b1.n)) fun c4=>W.ah (ag TE c3 87 (ptrTo b8.n)) fun c5=>W.bB (.func 129) [c4,c5] c3 fun c6 c7 c8=>aX c6
(W.aO (aB TE c7 4 (ptrTo a.n) (.bool false)) fun c9 d0=>b2 c3 .ret c9 (min (min (min (min (min b1.n b9) c2) a5.n) c8) d0))
(b2 c3 .normal c7 (min (min (min (min b1.n b9) c2) a5.n) c8)))) (fun d1 d2=>W.aO (aB TE d1 4 (ptrTo a.n) (.bool true)) fun d3 d4=>ah (ag TE d3 4 (ptrTo a.n)) fun d5=>R [d5] d3 (min d2 d4)) [(.ret,fun d6 d7=>ah (ag TE d6 4 (ptrTo a.n)) fun d8=>R [d8] d6 d7)])) [(.int .i64 0)] b m.n)):=by kernel_rfl
set_option maxRecDepth 100000 in
theorem Tj{W:Words}{x0:Value}{m:M}{R:List Value->M->Nat->Prop}:dN TE W Tryz.f128 [x0] m R=
(W.bW (M.push m (.cells (cells x0) 31 none)) fun a=>R [(.func (.func 189) #[] #[(ptrTo m.n)])] a m.n):=by kernel_rfl
set_option maxRecDepth 100000 in
theorem F61{W:Words}{x0:Value}{m:M}{R:List Value->M->Nat->Prop}:dN TE W Tryz.f61 [x0] m R=
(W.bW (M.push m (.cells (cells x0) 31 none)) fun a=>W.ah (ae TE 31 (ptrTo m.n) 0) fun b=>W.ah (ag TE a 29 b) fun c=>W.aO (aq TE a .len [29] [c]) fun d _=>W.ah (an TE .gtr 3 d (.int .i64 12)) fun f=>aX f
(R [(.bool false)] a m.n)
(W.Lp (fun g h i j=>W.un h fun k l=>W.un l fun n o=>W.ah (ae TE 31 (ptrTo m.n) 0) fun p=>W.ah (ag TE i 29 p) fun q=>W.aO (aq TE i .len [29] [q]) fun r _=>W.ah (an TE .lss 3 n r) fun s=>aX s
(W.jn (fun t=>W.ah (ae TE 31 (ptrTo m.n) 0) fun u=>W.ah (ag TE i 29 u) fun v=>W.ah (ai TE 29 v n) fun w=>W.ah (ag TE i 87 w) fun y=>W.bB (.func 135) [y] i fun z A B=>W.ah (iO .not z) fun C=>aX C
(t [(.bool true)] A (min j B))
(W.ah (an TE .gtr 3 n (.int .i64 0)) fun D=>aX D
(W.ah (ae TE 31 (ptrTo m.n) 0) fun E=>W.ah (ag TE A 29 E) fun F=>W.ah (ai TE 29 F n) fun G=>W.ah (ae TE 87 G 0) fun H=>W.ah (ag TE A 3 H) fun I=>W.ah (ae TE 31 (ptrTo m.n) 0) fun J=>W.ah (ag TE A 29 J) fun K=>W.ah (an TE .sub 3 n (.int .i64 1)) fun L=>W.ah (ai TE 29 K L) fun N=>W.ah (ae TE 87 N 0) fun O=>W.ah (ag TE A 3 O) fun P=>W.ah (an TE .leq 3 I P) fun Q=>t [Q] A (min j B))
(t [(.bool false)] A (min j B))))
(fun S T U=>W.un S fun V X=>aX V
(R [(.bool false)] T U)
(W.Lp (fun Y Z a0 a1=>W.un Z fun a2 a3=>W.un a3 fun a4 a5=>W.ah (an TE .lss 3 a4 n) fun a6=>aX a6
(W.ah (ae TE 31 (ptrTo m.n) 0) fun a7=>W.ah (ag TE a0 29 a7) fun a8=>W.ah (ai TE 29 a8 n) fun a9=>W.ah (ag TE a0 87 a9) fun b0=>W.ah (ae TE 31 (ptrTo m.n) 0) fun b1=>W.ah (ag TE a0 29 b1) fun b2=>W.ah (ai TE 29 b2 a4) fun b3=>W.ah (ag TE a0 87 b3) fun b4=>W.bB (.func 136) [b0,b4] a0 fun b5 b6 b7=>aX b5
(R [(.bool false)] b6 (min a1 b7))
(W.ah (an TE .add 3 a4 (.int .i64 1)) fun b8=>Y [a2,b8] b6 (min a1 b7)))
(W.ah (an TE .add 3 n (.int .i64 1)) fun b9=>g [a2,b9] a0 a1)) [k,(.int .i64 0)] T U)))
(R [(.bool true)] i j)) [(.bool false),(.int .i64 0)] a m.n)):=by kernel_rfl
set_option maxRecDepth 100000 in
theorem F57{W:Words}{x0:Value}{m:M}{R:List Value->M->Nat->Prop}:dN TE W Tryz.f57 [x0] m R=
(W.bW (M.push m (.cells (cells x0) 87 none)) fun a=>W.bW (M.push a (.cells [(.int .i64 0),(.int .i64 0),(.int .i64 0),(.slice none 0 0),(.int .i64 0),(.int .i64 0)] 87 none)) fun b=>W.aO (aE TE b 45 0 []) fun c d=>W.ah (ae TE 87 (ptrTo m.n) 3) fun f=>W.ah (ag TE d 45 f) fun g=>W.aO (aq TE (M.wl d d.n) .append [45,45] [c,g]) fun h i=>W.ah (ae TE 87 (ptrTo m.n) 3) fun j=>W.aO (aB TE i 45 j h) fun k l=>W.ah (ag TE k 87 (ptrTo m.n)) fun n=>W.aO (aB TE k 87 (ptrTo a.n) n) fun o p=>ah (ag TE o 87 (ptrTo a.n)) fun q=>R [q] o (min (min (min m.n (M.low i)) l) p)):=by kernel_rfl
set_option maxRecDepth 100000 in
theorem F54{W:Words}{x0 x1:Value}{m:M}{R:List Value->M->Nat->Prop}:dN TE W Tryz.f54 [x0,x1] m R=
(W.ah (an TE .lss 3 x0 (.int .i64 0)) fun a=>aX a
(W.ah (an TE .add 3 x0 (.int .i64 1)) fun b=>W.ah (iO .neg b) fun c=>W.ah (an TE .rem 3 c x1) fun d=>R [d] m m.n)
(W.ah (an TE .rem 3 x0 x1) fun f=>R [f] m m.n)):=by kernel_rfl
set_option maxRecDepth 100000 in
theorem F53{W:Words}{x0 x1:Value}{m:M}{R:List Value->M->Nat->Prop}:dN TE W Tryz.f53 [x0,x1] m R=
(W.bW (M.push m (.cells (cells x1) 85 none)) fun a=>W.bW (M.push a (.cells [(.int .i64 0),(.int .i64 0),(.int .i64 0),(.slice none 0 0),(.int .i64 0),(.int .i64 0)] 87 none)) fun b=>W.ah (ai TE 85 (ptrTo m.n) (.int .i64 0)) fun c=>W.ah (ag TE b 3 c) fun d=>W.bB (.func 54) [d,(.int .i64 9)] b fun f g h=>W.ah (an TE .mul 3 (.int .i64 4) f) fun i=>W.ah (ai TE 85 (ptrTo m.n) (.int .i64 1)) fun j=>W.ah (ag TE g 3 j) fun k=>W.bB (.func 54) [k,(.int .i64 6)] g fun l n o=>W.ah (an TE .mul 3 (.int .i64 4) l) fun p=>W.ah (ai TE 85 (ptrTo m.n) (.int .i64 2)) fun q=>W.ah (ag TE n 3 q) fun r=>W.bB (.func 54) [r,(.int .i64 4)] n fun s t u=>W.ah (an TE .add 3 (.int .i64 1) s) fun v=>W.ah (an TE .mul 3 (.int .i64 4) v) fun w=>W.ah (an TE .add 3 i w) fun y=>W.aO (aq TE t .min [3,3] [y,(.int .i64 40)]) fun z _=>W.ah (ai TE 85 (ptrTo m.n) (.int .i64 3)) fun A=>W.ah (ag TE t 3 A) fun B=>W.bB (.func 54) [B,(.int .i64 2)] t fun C D E=>W.ah (an TE .add 3 (.int .i64 1) C) fun F=>W.ah (an TE .mul 3 (.int .i64 4) F) fun G=>W.ah (an TE .add 3 p G) fun H=>W.ah (aW TE 98 [(0,i),(1,p)]) fun I=>W.ah (aW TE 98 [(0,z),(1,p)]) fun J=>W.ah (aW TE 98 [(0,z),(1,H)]) fun K=>W.ah (aW TE 98 [(0,i),(1,H)]) fun L=>W.aO (aE TE D 45 4 [(0,I),(1,J),(2,K),(3,L)]) fun N O=>W.ah (ai TE 85 (ptrTo m.n) (.int .i64 4)) fun P=>W.ah (ag TE O 3 P) fun Q=>W.bB (.func 54) [Q,(.int .i64 8)] O fun S T U=>W.ah (an TE .eql 3 S (.int .i64 4)) fun V=>aX V
(W.ah (an TE .sub 3 z (.int .i64 1)) fun X=>W.ah (ai TE 45 N (.int .i64 2)) fun Y=>W.ah (ae TE 98 Y 0) fun Z=>W.aO (aB TE T 3 Z X) fun a0 a1=>W.ah (an TE .add 3 i (.int .i64 1)) fun a2=>W.ah (ai TE 45 N (.int .i64 3)) fun a3=>W.ah (ae TE 98 a3 0) fun a4=>W.aO (aB TE a0 3 a4 a2) fun a5 a6=>W.ah (ai TE 85 (ptrTo m.n) (.int .i64 5)) fun a7=>W.ah (ag TE a5 3 a7) fun a8=>W.bB (.func 54) [a8,(.int .i64 4)] a5 fun a9 b0 b1=>W.ah (an TE .eql 3 a9 (.int .i64 3)) fun b2=>aX b2
(W.ah (ai TE 85 (ptrTo m.n) (.int .i64 5)) fun b3=>W.ah (ag TE b0 3 b3) fun b4=>W.ah (an TE .quo 3 b4 (.int .i64 4)) fun b5=>W.bB (.func 54) [b5,(.int .i64 4)] b0 fun b6 b7 b8=>W.ah (an TE .add 3 b6 (.int .i64 1)) fun b9=>W.ah (ai TE 85 (ptrTo m.n) (.int .i64 5)) fun c0=>W.ah (ag TE b7 3 c0) fun c1=>W.ah (an TE .quo 3 c1 (.int .i64 16)) fun c2=>W.bB (.func 54) [c2,(.int .i64 4)] b7 fun c3 c4 c5=>W.ah (an TE .add 3 b9 c3) fun c6=>W.bB (.func 54) [x0,(.int .i64 100)] c4 fun c7 c8 c9=>(M.n c4<=c9)/\(W.ah (ai TE 85 (ptrTo m.n) (.int .i64 5)) fun d0=>W.ah (ag TE c8 3 d0) fun d1=>W.ah (an TE .quo 3 d1 (.int .i64 64)) fun d2=>W.bB (.func 54) [d2,(.int .i64 8)] c8 fun d3 d4 d5=>(M.n c8<=d5)/\(W.ah (an TE .add 3 (.int .i64 1) d3) fun d6=>W.ah (ai TE 85 (ptrTo m.n) (.int .i64 5)) fun d7=>W.ah (ag TE d4 3 d7) fun d8=>W.ah (an TE .quo 3 d8 (.int .i64 512)) fun d9=>W.bB (.func 54) [d9,(.int .i64 8)] d4 fun g0 g1 g2=>W.ah (aW TE 87 [(0,c7),(1,d6),(2,g0),(3,N),(4,b6),(5,c6)]) fun g3=>W.aO (aB TE g1 87 (ptrTo a.n) g3) fun g4 g5=>ah (ag TE g4 87 (ptrTo a.n)) fun g6=>R [g6] g4 (min (min (min (min (min (min (min (min (min (min (min (min (min (min m.n h) o) u) E) U) a1) a6) b1) b8) c5) c9) d5) g2) g5))))
(W.bB (.func 54) [x0,(.int .i64 100)] b0 fun g7 g8 g9=>(M.n b0<=g9)/\(W.ah (ai TE 85 (ptrTo m.n) (.int .i64 5)) fun h0=>W.ah (ag TE g8 3 h0) fun h1=>W.ah (an TE .quo 3 h1 (.int .i64 64)) fun h2=>W.bB (.func 54) [h2,(.int .i64 8)] g8 fun h3 h4 h5=>(M.n g8<=h5)/\(W.ah (an TE .add 3 (.int .i64 1) h3) fun h6=>W.ah (ai TE 85 (ptrTo m.n) (.int .i64 5)) fun h7=>W.ah (ag TE h4 3 h7) fun h8=>W.ah (an TE .quo 3 h8 (.int .i64 512)) fun h9=>W.bB (.func 54) [h9,(.int .i64 8)] h4 fun i0 i1 i2=>W.ah (aW TE 87 [(0,g7),(1,h6),(2,i0),(3,N),(4,(.int .i64 0)),(5,(.int .i64 4))]) fun i3=>W.aO (aB TE i1 87 (ptrTo a.n) i3) fun i4 i5=>ah (ag TE i4 87 (ptrTo a.n)) fun i6=>R [i6] i4 (min (min (min (min (min (min (min (min (min (min (min (min m.n h) o) u) E) U) a1) a6) b1) g9) h5) i2) i5)))))
(W.ah (an TE .eql 3 S (.int .i64 5)) fun i7=>aX i7
(W.ah (an TE .add 3 i (.int .i64 1)) fun i8=>W.ah (ai TE 45 N (.int .i64 0)) fun i9=>W.ah (ae TE 98 i9 0) fun j0=>W.aO (aB TE T 3 j0 i8) fun j1 j2=>W.ah (an TE .sub 3 z (.int .i64 1)) fun j3=>W.ah (ai TE 45 N (.int .i64 1)) fun j4=>W.ah (ae TE 98 j4 0) fun j5=>W.aO (aB TE j1 3 j5 j3) fun j6 j7=>W.ah (ai TE 85 (ptrTo m.n) (.int .i64 5)) fun j8=>W.ah (ag TE j6 3 j8) fun j9=>W.bB (.func 54) [j9,(.int .i64 4)] j6 fun k0 k1 k2=>W.ah (an TE .eql 3 k0 (.int .i64 3)) fun k3=>aX k3
(W.ah (ai TE 85 (ptrTo m.n) (.int .i64 5)) fun k4=>W.ah (ag TE k1 3 k4) fun k5=>W.ah (an TE .quo 3 k5 (.int .i64 4)) fun k6=>W.bB (.func 54) [k6,(.int .i64 4)] k1 fun k7 k8 k9=>W.ah (an TE .add 3 k7 (.int .i64 1)) fun l0=>W.ah (ai TE 85 (ptrTo m.n) (.int .i64 5)) fun l1=>W.ah (ag TE k8 3 l1) fun l2=>W.ah (an TE .quo 3 l2 (.int .i64 16)) fun l3=>W.bB (.func 54) [l3,(.int .i64 4)] k8 fun l4 l5 l6=>W.ah (an TE .add 3 l0 l4) fun l7=>W.bB (.func 54) [x0,(.int .i64 100)] l5 fun l8 l9 n0=>(M.n l5<=n0)/\(W.ah (ai TE 85 (ptrTo m.n) (.int .i64 5)) fun n1=>W.ah (ag TE l9 3 n1) fun n2=>W.ah (an TE .quo 3 n2 (.int .i64 64)) fun n3=>W.bB (.func 54) [n3,(.int .i64 8)] l9 fun n4 n5 n6=>(M.n l9<=n6)/\(W.ah (an TE .add 3 (.int .i64 1) n4) fun n7=>W.ah (ai TE 85 (ptrTo m.n) (.int .i64 5)) fun n8=>W.ah (ag TE n5 3 n8) fun n9=>W.ah (an TE .quo 3 n9 (.int .i64 512)) fun o0=>W.bB (.func 54) [o0,(.int .i64 8)] n5 fun o1 o2 o3=>W.ah (aW TE 87 [(0,l8),(1,n7),(2,o1),(3,N),(4,k7),(5,l7)]) fun o4=>W.aO (aB TE o2 87 (ptrTo a.n) o4) fun o5 o6=>ah (ag TE o5 87 (ptrTo a.n)) fun o7=>R [o7] o5 (min (min (min (min (min (min (min (min (min (min (min (min (min (min m.n h) o) u) E) U) j2) j7) k2) k9) l6) n0) n6) o3) o6))))
(W.bB (.func 54) [x0,(.int .i64 100)] k1 fun o8 o9 p0=>(M.n k1<=p0)/\(W.ah (ai TE 85 (ptrTo m.n) (.int .i64 5)) fun p1=>W.ah (ag TE o9 3 p1) fun p2=>W.ah (an TE .quo 3 p2 (.int .i64 64)) fun p3=>W.bB (.func 54) [p3,(.int .i64 8)] o9 fun p4 p5 p6=>(M.n o9<=p6)/\(W.ah (an TE .add 3 (.int .i64 1) p4) fun p7=>W.ah (ai TE 85 (ptrTo m.n) (.int .i64 5)) fun p8=>W.ah (ag TE p5 3 p8) fun p9=>W.ah (an TE .quo 3 p9 (.int .i64 512)) fun q0=>W.bB (.func 54) [q0,(.int .i64 8)] p5 fun q1 q2 q3=>W.ah (aW TE 87 [(0,o8),(1,p7),(2,q1),(3,N),(4,(.int .i64 0)),(5,(.int .i64 4))]) fun q4=>W.aO (aB TE q2 87 (ptrTo a.n) q4) fun q5 q6=>ah (ag TE q5 87 (ptrTo a.n)) fun q7=>R [q7] q5 (min (min (min (min (min (min (min (min (min (min (min (min m.n h) o) u) E) U) j2) j7) k2) p0) p6) q3) q6)))))
(W.ah (an TE .eql 3 S (.int .i64 6)) fun q8=>aX q8
(W.ah (ai TE 45 N (.int .i64 0)) fun q9=>W.ah (ag TE T 98 q9) fun r0=>W.ah (ai TE 45 N (.int .i64 1)) fun r1=>W.ah (ag TE T 98 r1) fun r2=>W.ah (ai TE 45 N (.int .i64 2)) fun r3=>W.ah (ag TE T 98 r3) fun r4=>W.aO (aE TE T 45 3 [(0,r0),(1,r2),(2,r4)]) fun r5 r6=>W.ah (ai TE 85 (ptrTo m.n) (.int .i64 5)) fun r7=>W.ah (ag TE r6 3 r7) fun r8=>W.bB (.func 54) [r8,(.int .i64 4)] r6 fun r9 s0 s1=>W.ah (an TE .eql 3 r9 (.int .i64 3)) fun s2=>aX s2
(W.ah (ai TE 85 (ptrTo m.n) (.int .i64 5)) fun s3=>W.ah (ag TE s0 3 s3) fun s4=>W.ah (an TE .quo 3 s4 (.int .i64 4)) fun s5=>W.bB (.func 54) [s5,(.int .i64 4)] s0 fun s6 s7 s8=>W.ah (an TE .add 3 s6 (.int .i64 1)) fun s9=>W.ah (ai TE 85 (ptrTo m.n) (.int .i64 5)) fun t0=>W.ah (ag TE s7 3 t0) fun t1=>W.ah (an TE .quo 3 t1 (.int .i64 16)) fun t2=>W.bB (.func 54) [t2,(.int .i64 4)] s7 fun t3 t4 t5=>W.ah (an TE .add 3 s9 t3) fun t6=>W.bB (.func 54) [x0,(.int .i64 100)] t4 fun t7 t8 t9=>(M.n t4<=t9)/\(W.ah (ai TE 85 (ptrTo m.n) (.int .i64 5)) fun u0=>W.ah (ag TE t8 3 u0) fun u1=>W.ah (an TE .quo 3 u1 (.int .i64 64)) fun u2=>W.bB (.func 54) [u2,(.int .i64 8)] t8 fun u3 u4 u5=>(M.n t8<=u5)/\(W.ah (an TE .add 3 (.int .i64 1) u3) fun u6=>W.ah (ai TE 85 (ptrTo m.n) (.int .i64 5)) fun u7=>W.ah (ag TE u4 3 u7) fun u8=>W.ah (an TE .quo 3 u8 (.int .i64 512)) fun u9=>W.bB (.func 54) [u9,(.int .i64 8)] u4 fun v0 v1 v2=>W.ah (aW TE 87 [(0,t7),(1,u6),(2,v0),(3,r5),(4,s6),(5,t6)]) fun v3=>W.aO (aB TE v1 87 (ptrTo a.n) v3) fun v4 v5=>ah (ag TE v4 87 (ptrTo a.n)) fun v6=>R [v6] v4 (min (min (min (min (min (min (min (min (min (min (min (min m.n h) o) u) E) U) s1) s8) t5) t9) u5) v2) v5))))
(W.bB (.func 54) [x0,(.int .i64 100)] s0 fun v7 v8 v9=>(M.n s0<=v9)/\(W.ah (ai TE 85 (ptrTo m.n) (.int .i64 5)) fun w0=>W.ah (ag TE v8 3 w0) fun w1=>W.ah (an TE .quo 3 w1 (.int .i64 64)) fun w2=>W.bB (.func 54) [w2,(.int .i64 8)] v8 fun w3 w4 w5=>(M.n v8<=w5)/\(W.ah (an TE .add 3 (.int .i64 1) w3) fun w6=>W.ah (ai TE 85 (ptrTo m.n) (.int .i64 5)) fun w7=>W.ah (ag TE w4 3 w7) fun w8=>W.ah (an TE .quo 3 w8 (.int .i64 512)) fun w9=>W.bB (.func 54) [w9,(.int .i64 8)] w4 fun y0 y1 y2=>W.ah (aW TE 87 [(0,v7),(1,w6),(2,y0),(3,r5),(4,(.int .i64 0)),(5,(.int .i64 4))]) fun y3=>W.aO (aB TE y1 87 (ptrTo a.n) y3) fun y4 y5=>ah (ag TE y4 87 (ptrTo a.n)) fun y6=>R [y6] y4 (min (min (min (min (min (min (min (min (min (min m.n h) o) u) E) U) s1) v9) w5) y2) y5)))))
(W.ah (an TE .eql 3 S (.int .i64 7)) fun y7=>aX y7
(W.ah (ai TE 45 N (.int .i64 0)) fun y8=>W.ah (ag TE T 98 y8) fun y9=>W.ah (ai TE 45 N (.int .i64 2)) fun z0=>W.ah (ag TE T 98 z0) fun z1=>W.ah (ai TE 45 N (.int .i64 3)) fun z2=>W.ah (ag TE T 98 z2) fun z3=>W.aO (aE TE T 45 3 [(0,y9),(1,z1),(2,z3)]) fun z4 z5=>W.ah (ai TE 85 (ptrTo m.n) (.int .i64 5)) fun z6=>W.ah (ag TE z5 3 z6) fun z7=>W.bB (.func 54) [z7,(.int .i64 4)] z5 fun z8 z9 A0=>W.ah (an TE .eql 3 z8 (.int .i64 3)) fun A1=>aX A1
(W.ah (ai TE 85 (ptrTo m.n) (.int .i64 5)) fun A2=>W.ah (ag TE z9 3 A2) fun A3=>W.ah (an TE .quo 3 A3 (.int .i64 4)) fun A4=>W.bB (.func 54) [A4,(.int .i64 4)] z9 fun A5 A6 A7=>W.ah (an TE .add 3 A5 (.int .i64 1)) fun A8=>W.ah (ai TE 85 (ptrTo m.n) (.int .i64 5)) fun A9=>W.ah (ag TE A6 3 A9) fun B0=>W.ah (an TE .quo 3 B0 (.int .i64 16)) fun B1=>W.bB (.func 54) [B1,(.int .i64 4)] A6 fun B2 B3 B4=>W.ah (an TE .add 3 A8 B2) fun B5=>W.bB (.func 54) [x0,(.int .i64 100)] B3 fun B6 B7 B8=>(M.n B3<=B8)/\(W.ah (ai TE 85 (ptrTo m.n) (.int .i64 5)) fun B9=>W.ah (ag TE B7 3 B9) fun C0=>W.ah (an TE .quo 3 C0 (.int .i64 64)) fun C1=>W.bB (.func 54) [C1,(.int .i64 8)] B7 fun C2 C3 C4=>(M.n B7<=C4)/\(W.ah (an TE .add 3 (.int .i64 1) C2) fun C5=>W.ah (ai TE 85 (ptrTo m.n) (.int .i64 5)) fun C6=>W.ah (ag TE C3 3 C6) fun C7=>W.ah (an TE .quo 3 C7 (.int .i64 512)) fun C8=>W.bB (.func 54) [C8,(.int .i64 8)] C3 fun C9 D0 D1=>W.ah (aW TE 87 [(0,B6),(1,C5),(2,C9),(3,z4),(4,A5),(5,B5)]) fun D2=>W.aO (aB TE D0 87 (ptrTo a.n) D2) fun D3 D4=>ah (ag TE D3 87 (ptrTo a.n)) fun D5=>R [D5] D3 (min (min (min (min (min (min (min (min (min (min (min (min m.n h) o) u) E) U) A0) A7) B4) B8) C4) D1) D4))))
(W.bB (.func 54) [x0,(.int .i64 100)] z9 fun D6 D7 D8=>(M.n z9<=D8)/\(W.ah (ai TE 85 (ptrTo m.n) (.int .i64 5)) fun D9=>W.ah (ag TE D7 3 D9) fun E0=>W.ah (an TE .quo 3 E0 (.int .i64 64)) fun E1=>W.bB (.func 54) [E1,(.int .i64 8)] D7 fun E2 E3 E4=>(M.n D7<=E4)/\(W.ah (an TE .add 3 (.int .i64 1) E2) fun E5=>W.ah (ai TE 85 (ptrTo m.n) (.int .i64 5)) fun E6=>W.ah (ag TE E3 3 E6) fun E7=>W.ah (an TE .quo 3 E7 (.int .i64 512)) fun E8=>W.bB (.func 54) [E8,(.int .i64 8)] E3 fun E9 F0 F1=>W.ah (aW TE 87 [(0,D6),(1,E5),(2,E9),(3,z4),(4,(.int .i64 0)),(5,(.int .i64 4))]) fun F2=>W.aO (aB TE F0 87 (ptrTo a.n) F2) fun F3 F4=>ah (ag TE F3 87 (ptrTo a.n)) fun F5=>R [F5] F3 (min (min (min (min (min (min (min (min (min (min m.n h) o) u) E) U) A0) D8) E4) F1) F4)))))
(W.ah (ai TE 85 (ptrTo m.n) (.int .i64 5)) fun F6=>W.ah (ag TE T 3 F6) fun F7=>W.bB (.func 54) [F7,(.int .i64 4)] T fun F8 F9 G0=>W.ah (an TE .eql 3 F8 (.int .i64 3)) fun G1=>aX G1
(W.ah (ai TE 85 (ptrTo m.n) (.int .i64 5)) fun G2=>W.ah (ag TE F9 3 G2) fun G3=>W.ah (an TE .quo 3 G3 (.int .i64 4)) fun G4=>W.bB (.func 54) [G4,(.int .i64 4)] F9 fun G5 G6 G7=>W.ah (an TE .add 3 G5 (.int .i64 1)) fun G8=>W.ah (ai TE 85 (ptrTo m.n) (.int .i64 5)) fun G9=>W.ah (ag TE G6 3 G9) fun H0=>W.ah (an TE .quo 3 H0 (.int .i64 16)) fun H1=>W.bB (.func 54) [H1,(.int .i64 4)] G6 fun H2 H3 H4=>W.ah (an TE .add 3 G8 H2) fun H5=>W.bB (.func 54) [x0,(.int .i64 100)] H3 fun H6 H7 H8=>(M.n H3<=H8)/\(W.ah (ai TE 85 (ptrTo m.n) (.int .i64 5)) fun H9=>W.ah (ag TE H7 3 H9) fun I0=>W.ah (an TE .quo 3 I0 (.int .i64 64)) fun I1=>W.bB (.func 54) [I1,(.int .i64 8)] H7 fun I2 I3 I4=>(M.n H7<=I4)/\(W.ah (an TE .add 3 (.int .i64 1) I2) fun I5=>W.ah (ai TE 85 (ptrTo m.n) (.int .i64 5)) fun I6=>W.ah (ag TE I3 3 I6) fun I7=>W.ah (an TE .quo 3 I7 (.int .i64 512)) fun I8=>W.bB (.func 54) [I8,(.int .i64 8)] I3 fun I9 J0 J1=>W.ah (aW TE 87 [(0,H6),(1,I5),(2,I9),(3,N),(4,G5),(5,H5)]) fun J2=>W.aO (aB TE J0 87 (ptrTo a.n) J2) fun J3 J4=>ah (ag TE J3 87 (ptrTo a.n)) fun J5=>R [J5] J3 (min (min (min (min (min (min (min (min (min (min (min (min m.n h) o) u) E) U) G0) G7) H4) H8) I4) J1) J4))))
(W.bB (.func 54) [x0,(.int .i64 100)] F9 fun J6 J7 J8=>(M.n F9<=J8)/\(W.ah (ai TE 85 (ptrTo m.n) (.int .i64 5)) fun J9=>W.ah (ag TE J7 3 J9) fun K0=>W.ah (an TE .quo 3 K0 (.int .i64 64)) fun K1=>W.bB (.func 54) [K1,(.int .i64 8)] J7 fun K2 K3 K4=>(M.n J7<=K4)/\(W.ah (an TE .add 3 (.int .i64 1) K2) fun K5=>W.ah (ai TE 85 (ptrTo m.n) (.int .i64 5)) fun K6=>W.ah (ag TE K3 3 K6) fun K7=>W.ah (an TE .quo 3 K7 (.int .i64 512)) fun K8=>W.bB (.func 54) [K8,(.int .i64 8)] K3 fun K9 L0 L1=>W.ah (aW TE 87 [(0,J6),(1,K5),(2,K9),(3,N),(4,(.int .i64 0)),(5,(.int .i64 4))]) fun L2=>W.aO (aB TE L0 87 (ptrTo a.n) L2) fun L3 L4=>ah (ag TE L3 87 (ptrTo a.n)) fun L5=>R [L5] L3 (min (min (min (min (min (min (min (min (min (min m.n h) o) u) E) U) G0) J8) K4) L1) L4))))))))):=by kernel_rfl
set_option maxRecDepth 100000 in
theorem F52{W:Words}{x0 x1:Value}{m:M}{R:List Value->M->Nat->Prop}:dN TE W Tryz.f52 [x0,x1] m R=
(W.bW (M.push m (.cells (cells x0) 31 none)) fun a=>W.bW (M.push a (.cells (cells x1) 87 none)) fun b=>W.bW (M.push b (.cells [(.slice none 0 0)] 31 none)) fun c=>W.ah (ag TE c 31 (ptrTo m.n)) fun d=>W.bB (.func 61) [d] c fun f g h=>W.ah (iO .not f) fun i=>aX i
(W.ah (aW TE 31 []) fun j=>W.aO (aB TE g 31 (ptrTo b.n) j) fun k l=>ah (ag TE k 31 (ptrTo b.n)) fun n=>R [n,(.int .i64 120)] k (min (min m.n h) l))
(W.bW (M.push g (.cells [(.slice none 0 0)] 31 none)) fun o=>W.Lp (fun p q r s=>W.un q fun t u=>W.un u fun v w=>W.ah (ae TE 31 (ptrTo m.n) 0) fun y=>W.ah (ag TE r 29 y) fun z=>W.aO (aq TE r .len [29] [z]) fun A _=>W.ah (an TE .lss 3 v A) fun B=>aX B
(W.jn (fun C=>W.ah (iO .not t) fun D=>aX D
(W.ah (ae TE 31 (ptrTo m.n) 0) fun E=>W.ah (ag TE r 29 E) fun F=>W.ah (ai TE 29 F v) fun G=>W.ah (ae TE 87 G 0) fun H=>W.ah (ag TE r 3 H) fun I=>W.ah (ae TE 87 (ptrTo a.n) 0) fun J=>W.ah (ag TE r 3 J) fun K=>W.ah (an TE .gtr 3 I K) fun L=>C [L] r s)
(C [(.bool false)] r s))
(fun N O P=>W.un N fun Q S=>aX Q
(W.ah (ae TE 31 (ptrTo g.n) 0) fun T=>W.ah (ag TE O 29 T) fun U=>W.ah (ag TE O 87 (ptrTo a.n)) fun V=>W.bB (.func 57) [V] O fun X Y Z=>(M.n O<=Z)/\(W.aO (aE TE Y 29 1 [(0,X)]) fun a0 a1=>W.aO (aq TE (M.wl a1 a1.n) .append [29,29] [U,a0]) fun a2 a3=>W.ah (ae TE 31 (ptrTo g.n) 0) fun a4=>W.aO (aB TE a3 29 a4 a2) fun a5 a6=>W.ah (ae TE 31 (ptrTo g.n) 0) fun a7=>W.ah (ag TE a5 29 a7) fun a8=>W.ah (ae TE 31 (ptrTo m.n) 0) fun a9=>W.ah (ag TE a5 29 a9) fun b0=>W.ah (ai TE 29 b0 v) fun b1=>W.ah (ag TE a5 87 b1) fun b2=>W.bB (.func 57) [b2] a5 fun b3 b4 b5=>(M.n a5<=b5)/\(W.aO (aE TE b4 29 1 [(0,b3)]) fun b6 b7=>W.aO (aq TE (M.wl b7 b7.n) .append [29,29] [a8,b6]) fun b8 b9=>W.ah (ae TE 31 (ptrTo g.n) 0) fun c0=>W.aO (aB TE b9 29 c0 b8) fun c1 c2=>W.ah (an TE .add 3 v (.int .i64 1)) fun c3=>p [(.bool true),c3] c1 (min (min (min (min (min (min P Z) (M.low a3)) a6) b5) (M.low b9)) c2))))
(W.ah (ae TE 31 (ptrTo g.n) 0) fun c4=>W.ah (ag TE O 29 c4) fun c5=>W.ah (ae TE 31 (ptrTo m.n) 0) fun c6=>W.ah (ag TE O 29 c6) fun c7=>W.ah (ai TE 29 c7 v) fun c8=>W.ah (ag TE O 87 c8) fun c9=>W.bB (.func 57) [c9] O fun d0 d1 d2=>(M.n O<=d2)/\(W.aO (aE TE d1 29 1 [(0,d0)]) fun d3 d4=>W.aO (aq TE (M.wl d4 d4.n) .append [29,29] [c5,d3]) fun d5 d6=>W.ah (ae TE 31 (ptrTo g.n) 0) fun d7=>W.aO (aB TE d6 29 d7 d5) fun d8 d9=>W.ah (an TE .add 3 v (.int .i64 1)) fun g0=>p [t,g0] d8 (min (min (min P d2) (M.low d6)) d9)))))
(W.ah (iO .not t) fun g1=>aX g1
(W.ah (ae TE 31 (ptrTo g.n) 0) fun g2=>W.ah (ag TE r 29 g2) fun g3=>W.ah (ag TE r 87 (ptrTo a.n)) fun g4=>W.bB (.func 57) [g4] r fun g5 g6 g7=>(M.n r<=g7)/\(W.aO (aE TE g6 29 1 [(0,g5)]) fun g8 g9=>W.aO (aq TE (M.wl g9 g9.n) .append [29,29] [g3,g8]) fun h0 h1=>W.ah (ae TE 31 (ptrTo g.n) 0) fun h2=>W.aO (aB TE h1 29 h2 h0) fun h3 h4=>W.ah (ag TE h3 31 (ptrTo g.n)) fun h5=>W.bB (.func 61) [h5] h3 fun h6 h7 h8=>W.ah (iO .not h6) fun h9=>aX h9
(W.ah (aW TE 31 []) fun i0=>W.aO (aB TE h7 31 (ptrTo b.n) i0) fun i1 i2=>ah (ag TE i1 31 (ptrTo b.n)) fun i3=>R [i3,(.int .i64 120)] i1 (min (min (min (min (min s g7) (M.low h1)) h4) h8) i2))
(W.ah (ag TE h7 31 (ptrTo g.n)) fun i4=>W.aO (aB TE h7 31 (ptrTo b.n) i4) fun i5 i6=>ah (ag TE i5 31 (ptrTo b.n)) fun i7=>R [i7,(.int .i64 0)] i5 (min (min (min (min (min s g7) (M.low h1)) h4) h8) i6))))
(W.ah (ag TE r 31 (ptrTo g.n)) fun i8=>W.bB (.func 61) [i8] r fun i9 j0 j1=>W.ah (iO .not i9) fun j2=>aX j2
(W.ah (aW TE 31 []) fun j3=>W.aO (aB TE j0 31 (ptrTo b.n) j3) fun j4 j5=>ah (ag TE j4 31 (ptrTo b.n)) fun j6=>R [j6,(.int .i64 120)] j4 (min (min s j1) j5))
(W.ah (ag TE j0 31 (ptrTo g.n)) fun j7=>W.aO (aB TE j0 31 (ptrTo b.n) j7) fun j8 j9=>ah (ag TE j8 31 (ptrTo b.n)) fun k0=>R [k0,(.int .i64 0)] j8 (min (min s j1) j9))))) [(.bool false),(.int .i64 0)] o (min m.n h))):=by kernel_rfl
set_option maxRecDepth 100000 in
theorem F9{W:Words}{x0:Value}{m:M}{R:List Value->M->Nat->Prop}:dN TE W Tryz.f9 [x0] m R=
(W.bW (M.push m (.cells [(.slice none 0 0)] 31 none)) fun a=>W.bW (M.push a (.cells [(.slice none 0 0)] 31 none)) fun b=>W.Lp (fun c d f g=>W.un d fun h i=>W.jn (fun j=>W.aO (aq TE f .len [22] [x0]) fun k _=>W.ah (an TE .lss 3 h k) fun l=>aX l
(W.ah (an TE .lss 3 h (.int .i64 12)) fun n=>j [n] f g)
(j [(.bool false)] f g))
(fun o p q=>W.un o fun r s=>aX r
(W.ah (ag TE p 31 (ptrTo a.n)) fun t=>W.ah (an TE .mul 3 (.int .i64 3) h) fun u=>W.ah (ai TE 22 x0 h) fun v=>W.ah (ai TE 85 v (.int .i64 5)) fun w=>W.ah (ag TE p 3 w) fun y=>W.bB (.func 54) [y,(.int .i64 3)] p fun z A B=>(M.n p<=B)/\(W.ah (an TE .add 3 u z) fun C=>W.ah (ai TE 22 x0 h) fun D=>W.ah (ag TE A 85 D) fun E=>W.bB (.func 53) [C,E] A fun F G H=>(M.n A<=H)/\(W.bB (.func 52) [t,F] G fun I J K=>(M.n G<=K)/\(W.ah (cx I 0) fun L=>W.ah (cx I 1) fun N=>W.bW (M.push J (.cells [(.slice none 0 0)] 31 none)) fun O=>W.aO (aB TE O 31 (ptrTo J.n) L) fun P Q=>W.ah (an TE .eql 35 N (.int .i64 0)) fun S=>aX S
(W.ah (ag TE P 31 (ptrTo J.n)) fun T=>W.aO (aB TE P 31 (ptrTo a.n) T) fun U V=>W.ah (an TE .add 3 h (.int .i64 1)) fun X=>c [X] U (min (min (min (min (min q B) H) K) Q) V))
(W.ah (an TE .add 3 h (.int .i64 1)) fun Y=>c [Y] P (min (min (min (min q B) H) K) Q))))))
(W.ah (ag TE p 31 (ptrTo a.n)) fun Z=>W.aO (aB TE p 31 (ptrTo m.n) Z) fun a0 a1=>ah (ag TE a0 31 (ptrTo m.n)) fun a2=>R [a2] a0 (min q a1)))) [(.int .i64 0)] b m.n):=by kernel_rfl
set_option maxRecDepth 100000 in
theorem S9{W:Words}{x0 x1:Value}{m:M}{R:List Value->M->Nat->Prop}:dN TE W Tryz.f154 [x0,x1] m R=
(W.bW (M.push m (.cells (cells x0) 87 none)) fun a=>W.ah (ae TE 87 (ptrTo m.n) 0) fun b=>W.ah (ag TE a 3 b) fun c=>W.bB (.func 186) [c,x1] a fun d f g=>R [d] f (min m.n g)):=by kernel_rfl
set_option maxRecDepth 100000 in
theorem Ta{W:Words}{x0 x1 x2:Value}{m:M}{R:List Value->M->Nat->Prop}:dN TE W Tryz.f153 [x0,x1,x2] m R=
(W.aO (aq TE m .len [29] [x0]) fun a _=>W.Lp (fun b c d f=>W.un c fun g h=>W.un h fun i j=>W.ah (an TE .lss 3 g i) fun k=>aX k
(W.ah (an TE .add 3 g i) fun l=>W.ah (Kb TE d 3 224 l) fun n=>W.ah (an TE .shr 224 n (.int .u64 1)) fun o=>W.ah (Kb TE d 224 3 o) fun p=>W.ah (ai TE 29 x0 p) fun q=>W.ah (ag TE d 87 q) fun r=>ku x2 fun s t u=>W.bB s (t.toList++([r,x1]++u.toList)) d fun v w y=>W.ah (an TE .lss 3 v (.int .i64 0)) fun z=>aX z
(W.ah (an TE .add 3 p (.int .i64 1)) fun A=>b [A,i] w (min f y))
(b [g,p] w (min f y)))
(W.jn (fun B=>W.ah (an TE .lss 3 g a) fun C=>aX C
(W.ah (ai TE 29 x0 g) fun D=>W.ah (ag TE d 87 D) fun E=>ku x2 fun F G H=>W.bB F (G.toList++([E,x1]++H.toList)) d fun I J K=>W.ah (an TE .eql 3 I (.int .i64 0)) fun L=>B [g,L] J (min f K))
(B [g,(.bool false)] d f))
(fun N O P=>W.un N fun Q S=>W.un S fun T U=>R [Q,T] O P))) [(.int .i64 0),a] m m.n):=by kernel_rfl
set_option maxRecDepth 100000 in
theorem F98{W:Words}{x0 x1:Value}{m:M}{R:List Value->M->Nat->Prop}:dN TE W Tryz.f98 [x0,x1] m R=
(W.bW (M.push m (.cells (cells x0) 31 none)) fun a=>W.bW (M.push a (.cells [(.int .i64 0),(.int .i64 0),(.int .i64 0),(.slice none 0 0),(.int .i64 0),(.int .i64 0)] 87 none)) fun b=>W.ah (ag TE b 31 (ptrTo m.n)) fun c=>W.bB (.func 59) [c] b fun d f g=>W.ah (iO .not d) fun h=>aX h
(W.ah (aW TE 87 []) fun i=>W.aO (aB TE f 87 (ptrTo a.n) i) fun j k=>ah (ag TE j 87 (ptrTo a.n)) fun l=>R [l,(.bool false)] j (min (min m.n g) k))
(W.ah (ae TE 31 (ptrTo m.n) 0) fun n=>W.ah (ag TE f 29 n) fun o=>W.bB (.func 153) [o,x1,(.func (.func 154) #[] #[])] f fun p q r=>W.ah (cx p 0) fun s=>W.ah (cx p 1) fun t=>W.ah (iO .not t) fun u=>aX u
(W.ah (aW TE 87 []) fun v=>W.aO (aB TE q 87 (ptrTo a.n) v) fun w y=>ah (ag TE w 87 (ptrTo a.n)) fun z=>R [z,(.bool false)] w (min (min (min m.n g) r) y))
(W.ah (ae TE 31 (ptrTo m.n) 0) fun A=>W.ah (ag TE q 29 A) fun B=>W.ah (ai TE 29 B s) fun C=>W.ah (ag TE q 87 C) fun D=>W.bW (M.push q (.cells [(.int .i64 0),(.int .i64 0),(.int .i64 0),(.slice none 0 0),(.int .i64 0),(.int .i64 0)] 87 none)) fun E=>W.aO (aB TE E 87 (ptrTo q.n) D) fun F G=>W.ah (ae TE 87 (ptrTo q.n) 3) fun H=>W.ah (ag TE F 45 H) fun I=>W.bB (.func 155) [I] F fun J K L=>W.ah (ae TE 87 (ptrTo q.n) 3) fun N=>W.aO (aB TE K 45 N J) fun O P=>W.ah (ag TE O 87 (ptrTo q.n)) fun Q=>W.aO (aB TE O 87 (ptrTo a.n) Q) fun S T=>ah (ag TE S 87 (ptrTo a.n)) fun U=>R [U,(.bool true)] S (min (min (min (min (min (min m.n g) r) G) L) P) T)))):=by kernel_rfl
end Go.Proofs.YtmdfgncoekfgdaaGreatDoor
namespace Go.Proofs.YtmdfgncoekfgdaaGreatDoor
open Go Go.D
set_option maxRecDepth 100000 in
theorem Tt{W:Words}{x0 x1:Value}{m:M}{R:List Value->M->Nat->Prop}:dN TE W Tryz.f102 [x0,x1] m R=
(W.bB (.func 160) [x0,x1] m fun a b c=>W.ah (cx a 0) fun d=>W.ah (cx a 1) fun f=>W.ah (cx a 2) fun g=>W.jn (fun h=>W.bB (.func 157) [x0] b fun i j k=>aX i
(W.bB (.func 157) [x1] j fun l n o=>aX l
(W.ah (iO .not g) fun p=>h [p] n (min (min (min m.n c) k) o))
(h [(.bool false)] n (min (min (min m.n c) k) o)))
(h [(.bool false)] j (min (min m.n c) k)))
(fun q r s=>W.un q fun t u=>R [t] r s)):=by kernel_rfl
set_option maxRecDepth 100000 in
theorem S3{W:Words}{x0 x1:Value}{m:M}{R:List Value->M->Nat->Prop}:dN TE W Tryz.f160 [x0,x1] m R=
(W.jn (fun a=>W.bB (.func 157) [x0] m fun b c d=>W.ah (iO .not b) fun f=>aX f
(a [(.bool true)] c (min m.n d))
(W.bB (.func 157) [x1] c fun g h i=>W.ah (iO .not g) fun j=>a [j] h (min (min m.n d) i)))
(fun k l n=>W.un k fun o p=>aX o
(R [(.int .i64 0),(.int .i64 0),(.bool false)] l n)
(W.bB (.func 214) [x0,x1] l fun q r s=>W.ah (an TE .geq 3 q (.int .i64 0)) fun t=>aX t
(R [(.int .i64 0),q,(.bool true)] r (min n s))
(W.bB (.func 214) [x1,x0] r fun u v w=>W.ah (an TE .geq 3 u (.int .i64 0)) fun y=>aX y
(R [(.int .i64 1),u,(.bool true)] v (min (min n s) w))
(R [(.int .i64 0),(.int .i64 0),(.bool false)] v (min (min n s) w)))))):=by kernel_rfl
set_option maxRecDepth 100000 in
theorem SH{W:Words}{x0 x1:Value}{m:M}{R:List Value->M->Nat->Prop}:dN TE W Tryz.f214 [x0,x1] m R=
(W.bW (M.push m (.cells (cells x1) 45 none)) fun a=>W.bW (M.push a (.cells [(.int .i64 0)] 3 none)) fun b=>W.bW (M.push b (.cells [(.int .i64 0)] 3 none)) fun c=>W.aO (aB TE c 3 (ptrTo b.n) (.int .i64 0)) fun d f=>W.bB (.func 158) [x0] d fun g h i=>ku g fun j k l=>W.RF j k.toList l.toList h (min (min m.n f) i) (fun n o p=>W.un n fun q r=>W.un r fun s t=>W.vM t (W.bW (M.push o (.cells [(.int .i64 0),(.int .i64 0)] 98 none)) fun u=>W.aO (aB TE u 98 (ptrTo o.n) q) fun v w=>W.bW (M.push v (.cells [(.int .i64 0),(.int .i64 0)] 98 none)) fun y=>W.aO (aB TE y 98 (ptrTo v.n) s) fun z A=>W.HA h.n o z fun B=>W.ah (ag TE B 45 (ptrTo m.n)) fun C=>W.bB (.func 211) [C,(.func (.func 302) #[] #[(ptrTo o.n),(ptrTo v.n)])] B fun D E F=>W.ah (iO .not D) fun G=>aX G
(W.ah (ag TE E 3 (ptrTo b.n)) fun H=>W.aO (aB TE E 3 (ptrTo a.n) H) fun I J=>p B .ret I (min (min (min (min (min o.n w) A) h.n) F) J))
(W.ah (ag TE E 3 (ptrTo b.n)) fun K=>W.ah (an TE .add 3 K (.int .i64 1)) fun L=>W.aO (aB TE E 3 (ptrTo b.n) L) fun N O=>p B .normal N (min (min (min (min (min o.n w) A) h.n) F) O)))) (fun P Q=>W.aO (aB TE P 3 (ptrTo a.n) (.int .i64 (-1))) fun S T=>ah (ag TE S 3 (ptrTo a.n)) fun U=>R [U] S (min Q T)) [(.ret,fun V X=>ah (ag TE V 3 (ptrTo a.n)) fun Y=>R [Y] V X)]):=by kernel_rfl
set_option maxRecDepth 100000 in
theorem SC{W:Words}{x0 x1 x2:Value}{m:M}{R:List Value->M->Nat->Prop}:dN TE W Tryz.f302 [x0,x1,x2] m R=
(W.bW (M.push m (.cells (cells x0) 98 none)) fun a=>W.ah (ag TE a 98 x1) fun b=>W.ah (ag TE a 98 x2) fun c=>W.ah (ag TE a 98 (ptrTo m.n)) fun d=>W.bB (.func 159) [b,c,d] a fun f g h=>W.ah (an TE .gtr 3 f (.int .i64 0)) fun i=>R [i] g (min m.n h)):=by kernel_rfl
end Go.Proofs.YtmdfgncoekfgdaaGreatDoor
namespace Go.pN
structure V where
 x:Int
 y:Int
 w:Int
def V.dot(f p:V):Int:=f.x*p.x+f.y*p.y+f.w*p.w
def js(p q r:V):Int:=p.x*(q.y*r.w-q.w*r.y)-p.y*(q.x*r.w-q.w*r.x)+p.w*(q.x*r.y-q.y*r.x)
theorem PO{p q r s:V}(hp:0 < p.w):∃a b c d:Int,(a≠0\/b≠0\/c≠0\/d≠0)/\a*p.x+b*q.x+c*r.x+d*s.x=0/\a*p.y+b*q.y+c*r.y+d*s.y=0/\a*p.w+b*q.w+c*r.w+d*s.w=0:=by
 by_cases h0:js q r s=0/\js p r s=0/\js p q s=0/\js p q r=0
 ·have hd:=h0.2.2.2
  unfold js at hd
  by_cases h1:q.x*r.w-r.x*q.w=0/\r.x*p.w-p.x*r.w=0/\p.x*q.w-q.x*p.w=0
  ·by_cases h2:q.y*r.w-r.y*q.w=0/\r.y*p.w-p.y*r.w=0/\p.y*q.w-q.y*p.w=0
   ·exact⟨q.w, -p.w,0,0,.inr (.inl (by omega)),by grind,by grind,by grind⟩
   ·exact⟨q.y*r.w-r.y*q.w,r.y*p.w-p.y*r.w,p.y*q.w-q.y*p.w,0,by grind,by grind,by grind,by grind⟩
  ·exact⟨q.x*r.w-r.x*q.w,r.x*p.w-p.x*r.w,p.x*q.w-q.x*p.w,0,by grind,by grind,by grind,by grind⟩
 ·exact⟨js q r s,-js p r s,js p q s,-js p q r,by grind,by unfold js;grind,by unfold js;grind,by unfold js;grind⟩
theorem rk{A B C D u v w z:Int}(hA:0<=A)(hB:0<=B)(hC:0<=C)(hD:0<=D)(hs:0 < A\/0 < B\/0 < C\/0 < D)(hu:A≠0->0 < u)(hv:B≠0->0 < v)(hw:C≠0->0 < w)(hz:D≠0->0 < z):0 < A*u+B*v+C*w+D*z:=by
 have k:∀{a b:Int},0<=a->(a≠0->0 < b)->0<=a*b/\(0 < a->0 < a*b):=fun{a b} h1 h2=>by
  by_cases h:a=0
  ·subst h;simp
  ·exact⟨Int.le_of_lt (Int.mul_pos (by omega) (h2 h)),fun h'=>Int.mul_pos h' (h2 h)⟩
 have k1:=k hA hu
 have k2:=k hB hv
 have k3:=k hC hw
 have k4:=k hD hz
 omega
theorem Ni{f0 f1 f2 f3 p0 p1 p2 p3:V}{R:List V}(w0:0 < p0.w)(w1:0 < p1.w)(w2:0 < p2.w)(w3:0 < p3.w)
  (h0:∀f,f=f1\/f=f2\/f=f3\/f∈R->0 < f.dot p0) (h1:∀f,f=f0\/f=f2\/f=f3\/f∈R->0 < f.dot p1)
  (h2:∀f,f=f0\/f=f1\/f=f3\/f∈R->0 < f.dot p2) (h3:∀f,f=f0\/f=f1\/f=f2\/f∈R->0 < f.dot p3):
  ∃q:V,0 < q.w/\∀f,f=f0\/f=f1\/f=f2\/f=f3\/f∈R->0 < f.dot q:=by
 obtain⟨a,b,c,d,hn,hx,hy,hw⟩:=PO (q:=p1) (r:=p2) (s:=p3) w0
 have hpos:0 < a\/0 < b\/0 < c\/0 < d:=Classical.byContradiction fun hc=>by
  have:=rk (A:= -a) (B:= -b) (C:= -c) (D:= -d) (by omega) (by omega) (by omega) (by omega) (by omega) (fun _=>w0) (fun _=>w1) (fun _=>w2) (fun _=>w3)
  simp only[Int.neg_mul]at this
  omega
 have hneg:0 < -a\/0 < -b\/0 < -c\/0 < -d:=Classical.byContradiction fun hc=>by
  have:=rk (A:=a) (B:=b) (C:=c) (D:=d) (by omega) (by omega) (by omega) (by omega) (by omega) (fun _=>w0) (fun _=>w1) (fun _=>w2) (fun _=>w3)
  omega
 obtain⟨A,hA⟩:∃A,A=max a 0:=⟨_,rfl⟩
 obtain⟨B,hB⟩:∃A,A=max b 0:=⟨_,rfl⟩
 obtain⟨C,hC⟩:∃A,A=max c 0:=⟨_,rfl⟩
 obtain⟨D,hD⟩:∃A,A=max d 0:=⟨_,rfl⟩
 have e1:∀f:V,f.dot ⟨A*p0.x+B*p1.x+C*p2.x+D*p3.x,A*p0.y+B*p1.y+C*p2.y+D*p3.y,A*p0.w+B*p1.w+C*p2.w+D*p3.w⟩=A*f.dot p0+B*f.dot p1+C*f.dot p2+D*f.dot p3:=fun f=>by
  unfold V.dot;grind
 have e2:∀f:V,A*f.dot p0+B*f.dot p1+C*f.dot p2+D*f.dot p3=(A-a)*f.dot p0+(B-b)*f.dot p1+(C-c)*f.dot p2+(D-d)*f.dot p3:=fun f=>by
  have:a*f.dot p0+b*f.dot p1+c*f.dot p2+d*f.dot p3=f.x*(a*p0.x+b*p1.x+c*p2.x+d*p3.x)+f.y*(a*p0.y+b*p1.y+c*p2.y+d*p3.y)+f.w*(a*p0.w+b*p1.w+c*p2.w+d*p3.w):=by unfold V.dot;grind
  rw[hx,hy,hw]at this
  simp only[Int.sub_mul]
  omega
 refine⟨⟨A*p0.x+B*p1.x+C*p2.x+D*p3.x,A*p0.y+B*p1.y+C*p2.y+D*p3.y,A*p0.w+B*p1.w+C*p2.w+D*p3.w⟩,?_,fun f hf=>?_⟩
 rotate_left
 ·rw[e1 f]
  rcases hf with rfl |rfl |rfl |rfl |hf
  ·rcases Int.lt_or_le 0 a with ha |ha
   ·rw[e2]
    exact rk (by omega) (by omega) (by omega) (by omega) (by omega) (fun h=>absurd h (by omega)) (fun _=>h1 _ (by simp)) (fun _=>h2 _ (by simp)) (fun _=>h3 _ (by simp))
   ·exact rk (by omega) (by omega) (by omega) (by omega) (by omega) (fun h=>absurd h (by omega)) (fun _=>h1 _ (by simp)) (fun _=>h2 _ (by simp)) (fun _=>h3 _ (by simp))
  ·rcases Int.lt_or_le 0 b with ha |ha
   ·rw[e2]
    exact rk (by omega) (by omega) (by omega) (by omega) (by omega) (fun _=>h0 _ (by simp)) (fun h=>absurd h (by omega)) (fun _=>h2 _ (by simp)) (fun _=>h3 _ (by simp))
   ·exact rk (by omega) (by omega) (by omega) (by omega) (by omega) (fun _=>h0 _ (by simp)) (fun h=>absurd h (by omega)) (fun _=>h2 _ (by simp)) (fun _=>h3 _ (by simp))
  ·rcases Int.lt_or_le 0 c with ha |ha
   ·rw[e2]
    exact rk (by omega) (by omega) (by omega) (by omega) (by omega) (fun _=>h0 _ (by simp)) (fun _=>h1 _ (by simp)) (fun h=>absurd h (by omega)) (fun _=>h3 _ (by simp))
   ·exact rk (by omega) (by omega) (by omega) (by omega) (by omega) (fun _=>h0 _ (by simp)) (fun _=>h1 _ (by simp)) (fun h=>absurd h (by omega)) (fun _=>h3 _ (by simp))
  ·rcases Int.lt_or_le 0 d with ha |ha
   ·rw[e2]
    exact rk (by omega) (by omega) (by omega) (by omega) (by omega) (fun _=>h0 _ (by simp)) (fun _=>h1 _ (by simp)) (fun _=>h2 _ (by simp)) (fun h=>absurd h (by omega))
   ·exact rk (by omega) (by omega) (by omega) (by omega) (by omega) (fun _=>h0 _ (by simp)) (fun _=>h1 _ (by simp)) (fun _=>h2 _ (by simp)) (fun h=>absurd h (by omega))
  ·exact rk (by omega) (by omega) (by omega) (by omega) (by omega) (fun _=>h0 _ (by simp[hf])) (fun _=>h1 _ (by simp[hf])) (fun _=>h2 _ (by simp[hf])) (fun _=>h3 _ (by simp[hf]))
 ·exact rk (by omega) (by omega) (by omega) (by omega) (by omega) (fun _=>w0) (fun _=>w1) (fun _=>w2) (fun _=>w3)
theorem zy:∀(n:Nat) (F:List V),F.length<=n->(∀f∈F,∀g∈F,∀h∈F,∃p:V,0 < p.w/\0 < f.dot p/\0 < g.dot p/\0 < h.dot p)->∃p:V,0 < p.w/\∀f∈F,0 < f.dot p
 |_,[],_,_=>⟨⟨0,0,1⟩,by decide,by simp⟩
 |_,[f],_,h=>by
  obtain⟨p,hp,h1,_,_⟩:=h f (by simp) f (by simp) f (by simp)
  exact⟨p,hp,by simpa using h1⟩
 |_,[f,g],_,h=>by
  obtain⟨p,hp,h1,h2,_⟩:=h f (by simp) g (by simp) g (by simp)
  exact⟨p,hp,by simpa using⟨h1,h2⟩⟩
 |_,[f,g,k],_,h=>by
  obtain⟨p,hp,h1,h2,h3⟩:=h f (by simp) g (by simp) k (by simp)
  exact⟨p,hp,by simpa using⟨h1,h2,h3⟩⟩
 |0,_::_::_::_::_,hl,_=>by simp at hl
 |n+1,f0::f1::f2::f3::R,hl,h=>by
  have hl:R.length+3<=n:=by simp only[List.length_cons]at hl;omega
  obtain⟨p0,w0,k0⟩:=zy n (f1::f2::f3::R) (by simp only[List.length_cons];omega) fun f hf g hg k hk=>h f (.tail _ hf) g (.tail _ hg) k (.tail _ hk)
  have s1:∀f,f∈f0::f2::f3::R->f∈f0::f1::f2::f3::R:=fun f hf=>by simp only[List.mem_cons]at hf⊢;rcases hf with hf |hf |hf |hf <;>simp[hf]
  have s2:∀f,f∈f0::f1::f3::R->f∈f0::f1::f2::f3::R:=fun f hf=>by simp only[List.mem_cons]at hf⊢;rcases hf with hf |hf |hf |hf <;>simp[hf]
  have s3:∀f,f∈f0::f1::f2::R->f∈f0::f1::f2::f3::R:=fun f hf=>by simp only[List.mem_cons]at hf⊢;rcases hf with hf |hf |hf |hf <;>simp[hf]
  obtain⟨p1,w1,k1⟩:=zy n (f0::f2::f3::R) (by simp only[List.length_cons];omega) fun f hf g hg k hk=>h f (s1 f hf) g (s1 g hg) k (s1 k hk)
  obtain⟨p2,w2,k2⟩:=zy n (f0::f1::f3::R) (by simp only[List.length_cons];omega) fun f hf g hg k hk=>h f (s2 f hf) g (s2 g hg) k (s2 k hk)
  obtain⟨p3,w3,k3⟩:=zy n (f0::f1::f2::R) (by simp only[List.length_cons];omega) fun f hf g hg k hk=>h f (s3 f hf) g (s3 g hg) k (s3 k hk)
  obtain⟨q,wq,kq⟩:=Ni (f0:=f0) (f1:=f1) (f2:=f2) (f3:=f3) (R:=R) w0 w1 w2 w3 (fun f hf=>k0 f (by simpa using hf)) (fun f hf=>k1 f (by simpa using hf)) (fun f hf=>k2 f (by simpa using hf)) (fun f hf=>k3 f (by simpa using hf))
  exact⟨q,wq,fun f hf=>kq f (by simpa using hf)⟩
def V.go(p:V)(D N:Int)(d:V):V:=⟨D*p.x+N*d.x,D*p.y+N*d.y,D*p.w+N*d.w⟩
theorem lq(f p d:V)(D N:Int):f.dot (p.go D N d)=D*f.dot p+N*f.dot d:=by unfold V.dot V.go;grind
theorem ratio(p d:V):∀(L:List V),(∀f∈L,0<=f.dot p)->(∃f∈L,f.dot d < 0)->∃i∈L,i.dot d < 0/\∀j∈L,j.dot d < 0->i.dot p*(-(j.dot d))<=j.dot p*(-(i.dot d))
 |[],_,h=>by obtain⟨f,hf,_⟩:=h;cases hf
 |f::L,hp,h=>by
  by_cases hL:∃g∈L,g.dot d < 0
  ·obtain⟨i,hi,h1,h2⟩:=ratio p d L (fun g hg=>hp g (.tail _ hg)) hL
   by_cases hf:f.dot d < 0
   ·by_cases hc:i.dot p*(-(f.dot d))<=f.dot p*(-(i.dot d))
    ·refine⟨i,.tail _ hi,h1,fun j hj hd=>?_⟩
     rcases List.mem_cons.1 hj with rfl |hj
     ·exact hc
     ·exact h2 j hj hd
    ·refine⟨f,.head _,hf,fun j hj hd=>?_⟩
     rcases List.mem_cons.1 hj with rfl |hj
     ·exact Int.le_refl _
     ·have h2:=h2 j hj hd
      have hc:f.dot p*(-(i.dot d))<=i.dot p*(-(f.dot d)):=by omega
      generalize f.dot p=fp at*
      generalize i.dot p=ip at*
      generalize j.dot p=jp at*
      generalize f.dot d=fd at*
      generalize i.dot d=id at*
      generalize j.dot d=jd at*
      have a1:(fp*(-id))*(-jd)<=(ip*(-fd))*(-jd):=Int.mul_le_mul_of_nonneg_right hc (by omega)
      have a2:(ip*(-jd))*(-fd)<=(jp*(-id))*(-fd):=Int.mul_le_mul_of_nonneg_right h2 (by omega)
      have a3:(fp*(-jd))*(-id)<=(jp*(-fd))*(-id):=by
       have b1:(fp*(-jd))*(-id)=(fp*(-id))*(-jd):=by grind
       have b2:(ip*(-fd))*(-jd)=(ip*(-jd))*(-fd):=by grind
       have b3:(jp*(-fd))*(-id)=(jp*(-id))*(-fd):=by grind
       omega
      exact Int.le_of_mul_le_mul_right a3 (by omega)
   ·refine⟨i,.tail _ hi,h1,fun j hj hd=>?_⟩
    rcases List.mem_cons.1 hj with rfl |hj
    ·exact absurd hd hf
    ·exact h2 j hj hd
  ·obtain⟨g,hg,hd⟩:=h
   rcases List.mem_cons.1 hg with rfl |hg
   ·refine⟨g,.head _,hd,fun j hj hd'=>?_⟩
    rcases List.mem_cons.1 hj with rfl |hj
    ·exact Int.le_refl _
    ·exact absurd ⟨j,hj,hd'⟩ hL
   ·exact absurd ⟨g,hg,hd⟩ hL
theorem step{L:List V}{p d:V}(hw:0 < p.w)(hd:d.w=0)(hp:∀f∈L,0<=f.dot p)(hb:∃f∈L,f.dot d < 0):
  ∃i∈L,i.dot d < 0/\∃D N:Int,0 < D/\0<=N/\0 < (p.go D N d).w/\(∀f∈L,0<=f.dot (p.go D N d))/\i.dot (p.go D N d)=0:=by
 obtain⟨i,hi,h1,h2⟩:=ratio p d L hp hb
 refine⟨i,hi,h1, -(i.dot d),i.dot p,by omega,hp i hi,?_,fun f hf=>?_,?_⟩
 ·show 0 < -(i.dot d)*p.w+i.dot p*d.w
  rw[hd,Int.mul_zero,Int.add_zero]
  exact Int.mul_pos (by omega) hw
 ·rw[lq]
  by_cases hfd:f.dot d < 0
  ·have:=h2 f hf hfd
   have e1: -(i.dot d)*f.dot p=f.dot p*(-(i.dot d)):=Int.mul_comm _ _
   have e2:i.dot p* -(f.dot d)= -(i.dot p*f.dot d):=Int.mul_neg _ _
   omega
  ·have a1:0<= -(i.dot d)*f.dot p:=Int.mul_nonneg (by omega) (hp f hf)
   have a2:0<=i.dot p*f.dot d:=Int.mul_nonneg (hp i hi) (by omega)
   omega
 ·rw[lq,Int.neg_mul,Int.mul_comm (i.dot p)]
  omega
theorem sq_nonneg(a:Int):0<=a*a:=by
 rcases Int.le_total 0 a with h |h
 ·exact Int.mul_nonneg h h
 ·exact Int.mul_nonneg_of_nonpos_of_nonpos h h
theorem tS{L:List V}(hb:∀d:V,d.w=0->d.x≠0\/d.y≠0->∃f∈L,f.dot d < 0){p:V}(hw:0 < p.w)(hp:∀f∈L,0<=f.dot p)(g:V)(hg:0 < g.dot p):
  ∃i∈L,∃k∈L,∃v:V,0 < v.w/\(∀f∈L,0<=f.dot v)/\i.dot v=0/\k.dot v=0/\i.x*k.y-k.x*i.y≠0/\0 < g.dot v:=by
 obtain⟨d,hd,hd0,hgd⟩:∃d:V,d.w=0/\(d.x≠0\/d.y≠0)/\0<=g.dot d:=by
  by_cases h:g.x=0/\g.y=0
  ·exact⟨⟨1,0,0⟩,rfl,.inl (by decide),by simp[V.dot,h.1]⟩
  ·refine⟨⟨g.x,g.y,0⟩,rfl,by show g.x≠0\/g.y≠0;omega,?_⟩
   have:=sq_nonneg g.x
   have:=sq_nonneg g.y
   show 0<=g.x*g.x+g.y*g.y+g.w*0
   omega
 obtain⟨i,hi,hid,D,N,hD,hN,w1,p1,z1⟩:=step hw hd hp (hb d hd hd0)
 have g1:0 < g.dot (p.go D N d):=by
  rw[lq]
  have:=Int.mul_pos hD hg
  have:=Int.mul_nonneg hN hgd
  omega
 generalize p.go D N d=q at*
 have hi0:i.x≠0\/i.y≠0:=Classical.byContradiction fun hc=>by
  have e1:i.x=0:=by omega
  have e2:i.y=0:=by omega
  simp[V.dot,e1,e2,hd]at hid
 obtain⟨e,he,he0,hge,hie⟩:∃e:V,e.w=0/\(e.x≠0\/e.y≠0)/\0<=g.dot e/\(e=⟨i.y, -i.x,0⟩\/e=⟨-i.y,i.x,0⟩):=by
  rcases Int.le_total 0 (g.x*i.y-g.y*i.x)with h |h
  ·refine⟨⟨i.y, -i.x,0⟩,rfl,by show i.y≠0\/ -i.x≠0;omega,?_,.inl rfl⟩
   show 0<=g.x*i.y+g.y*(-i.x)+g.w*0
   rw[Int.mul_neg]
   omega
  ·refine⟨⟨-i.y,i.x,0⟩,rfl,by show -i.y≠0\/i.x≠0;omega,?_,.inr rfl⟩
   show 0<=g.x*(-i.y)+g.y*i.x+g.w*0
   rw[Int.mul_neg]
   omega
 obtain⟨k,hk,hkd,D',N',hD',hN',w2,p2,z2⟩:=step w1 he p1 (hb e he he0)
 refine⟨i,hi,k,hk,q.go D' N' e,w2,p2,?_,z2,?_,?_⟩
 ·rw[lq,z1]
  rcases hie with rfl |rfl <;>(unfold V.dot;grind)
 ·intro hc
  rcases hie with rfl |rfl
  ·have:k.dot ⟨i.y, -i.x,0⟩= -(i.x*k.y-k.x*i.y):=by unfold V.dot;grind
   omega
  ·have:k.dot ⟨-i.y,i.x,0⟩=i.x*k.y-k.x*i.y:=by unfold V.dot;grind
   omega
 ·rw[lq]
  have:=Int.mul_pos hD' g1
  have:=Int.mul_nonneg hN' hge
  omega
def meet(f g:V):V:=⟨f.y*g.w-g.y*f.w,f.w*g.x-g.w*f.x,f.x*g.y-g.x*f.y⟩
def V.neg(p:V):V:=⟨-p.x, -p.y, -p.w⟩
def norm(p:V):V:=if p.w < 0 then p.neg else p
theorem yZ{p:V}(h:p.w≠0):0 < (norm p).w:=by
 unfold norm
 split
 ·show 0 < -p.w;omega
 ·omega
theorem zh{f g v:V}(hf:f.dot v=0)(hg:g.dot v=0)(h:V):v.w*h.dot (norm (meet f g))=(norm (meet f g)).w*h.dot v:=by
 have ex:(meet f g).w*v.x=v.w*(meet f g).x:=by unfold V.dot at hf hg;unfold meet;grind
 have ey:(meet f g).w*v.y=v.w*(meet f g).y:=by unfold V.dot at hf hg;unfold meet;grind
 have key:v.w*h.dot (meet f g)=(meet f g).w*h.dot v:=by unfold V.dot;grind
 unfold norm
 split
 ·have e1:h.dot (meet f g).neg= -(h.dot (meet f g)):=by unfold V.dot V.neg;grind
  have e2:(meet f g).neg.w= -(meet f g).w:=rfl
  rw[e1,e2,Int.mul_neg,Int.neg_mul,key]
 ·exact key
def gT(L:List V)(v:V):Prop:=∃f∈L,∃g∈L,(meet f g).w≠0/\v=norm (meet f g)/\∀h∈L,0<=h.dot v
theorem mW{L:List V}(hb:∀d:V,d.w=0->d.x≠0\/d.y≠0->∃f∈L,f.dot d < 0){p:V}(hw:0 < p.w)(hp:∀f∈L,0<=f.dot p)(g:V)(hg:0 < g.dot p):∃v,gT L v/\0 < v.w/\0 < g.dot v:=by
 obtain⟨i,hi,k,hk,v,wv,pv,z1,z2,hn,gv⟩:=tS hb hw hp g hg
 have hm:(meet i k).w≠0:=hn
 have hnp:=yZ hm
 refine⟨norm (meet i k),⟨i,hi,k,hk,hm,rfl,fun h hh=>?_⟩,hnp,?_⟩
 ·have e:=zh z1 z2 h
  have:=Int.mul_nonneg (Int.le_of_lt hnp) (pv h hh)
  rw[<-e]at this
  exact Int.nonneg_of_mul_nonneg_right this wv
 ·have e:=zh z1 z2 g
  have:=Int.mul_pos hnp gv
  rw[<-e]at this
  exact Int.pos_of_mul_pos_right this wv
theorem three{L:List V}(hne:∃f,f∈L)(hb:∀d:V,d.w=0->d.x≠0\/d.y≠0->∃f∈L,f.dot d < 0){p:V}(hw:0 < p.w)(hp:∀f∈L,0 < f.dot p):
  ∃a b c,gT L a/\gT L b/\gT L c/\js a b c≠0:=by
 have hp':∀f∈L,0<=f.dot p:=fun f hf=>Int.le_of_lt (hp f hf)
 obtain⟨a,ca,wa,_⟩:=mW hb hw hp' ⟨0,0,1⟩ (by show 0 < 0*p.x+0*p.y+1*p.w;omega)
 have hne:p.x*a.w-a.x*p.w≠0\/p.y*a.w-a.y*p.w≠0:=Classical.byContradiction fun hc=>by
  obtain⟨f,hf,g,hg,hm,rfl,h0⟩:=ca
  have hz:f.dot (norm (meet f g))=0:=by
   unfold norm;split <;>(unfold V.dot;simp only[V.neg,meet];grind)
  have h1:=hp f hf
  have e:(norm (meet f g)).w*f.dot p=p.w*f.dot (norm (meet f g)):=by
   unfold V.dot
   grind
  rw[hz,Int.mul_zero]at e
  have:=Int.mul_pos wa h1
  omega
 obtain⟨b,cb,wb,hgb⟩:=mW hb hw hp' ⟨(p.x*a.w-a.x*p.w)*a.w,(p.y*a.w-a.y*p.w)*a.w, -((p.x*a.w-a.x*p.w)*a.x+(p.y*a.w-a.y*p.w)*a.y)⟩ (by
  have e:(V.mk ((p.x*a.w-a.x*p.w)*a.w) ((p.y*a.w-a.y*p.w)*a.w) (-((p.x*a.w-a.x*p.w)*a.x+(p.y*a.w-a.y*p.w)*a.y))).dot p=(p.x*a.w-a.x*p.w)*(p.x*a.w-a.x*p.w)+(p.y*a.w-a.y*p.w)*(p.y*a.w-a.y*p.w):=by unfold V.dot;grind
  rw[e]
  generalize p.x*a.w-a.x*p.w=u at*
  generalize p.y*a.w-a.y*p.w=v at*
  have h1:=sq_nonneg u
  have h2:=sq_nonneg v
  have h3:u≠0->u*u≠0:=fun h h'=>by rcases Int.mul_eq_zero.1 h' with h' |h' <;>exact h h'
  have h4:v≠0->v*v≠0:=fun h h'=>by rcases Int.mul_eq_zero.1 h' with h' |h' <;>exact h h'
  rcases hne with h |h
  ·have:=h3 h;omega
  ·have:=h4 h;omega)
 have hab:a.y*b.w-a.w*b.y≠0\/a.w*b.x-a.x*b.w≠0:=Classical.byContradiction fun hc=>by
  have e1:a.y*b.w-a.w*b.y=0:=by omega
  have e2:a.w*b.x-a.x*b.w=0:=by omega
  have:(V.mk ((p.x*a.w-a.x*p.w)*a.w) ((p.y*a.w-a.y*p.w)*a.w) (-((p.x*a.w-a.x*p.w)*a.x+(p.y*a.w-a.y*p.w)*a.y))).dot b=0:=by unfold V.dot;grind
  omega
 obtain⟨g,hg⟩:∃g:V,g=⟨a.y*b.w-a.w*b.y,a.w*b.x-a.x*b.w,a.x*b.y-a.y*b.x⟩:=⟨_,rfl⟩
 have hdet:∀c:V,js a b c=g.dot c:=fun c=>by rw[hg];unfold js V.dot;grind
 have hg0:g.x≠0\/g.y≠0:=by rw[hg];exact hab
 obtain⟨q,wq,pq,gq⟩:∃q:V,0 < q.w/\(∀f∈L,0<=f.dot q)/\g.dot q≠0:=by
  by_cases hgp:g.dot p=0
  ·obtain⟨K,hK⟩:∃K:Int,0 < K/\∀f∈L, -K<=f.x*g.x+f.y*g.y:=by
    have hgen:∀L:List V,∃K:Int,0 < K/\∀f∈L, -K<=f.x*g.x+f.y*g.y:=fun L=>by
     induction L with
     |nil=>exact⟨1,by decide,fun f hf=>by cases hf⟩
     |cons f L ih=>
      obtain⟨K,h1,h2⟩:=ih
      refine⟨max K (-(f.x*g.x+f.y*g.y)),by omega,fun h hh=>?_⟩
      rcases List.mem_cons.1 hh with rfl |hh
      ·omega
      ·have:=h2 h hh;omega
    exact hgen L
   refine⟨p.go K 1 ⟨g.x,g.y,0⟩,?_,fun f hf=>?_,?_⟩
   ·show 0 < K*p.w+1*0
    have:=Int.mul_pos hK.1 hw
    omega
   ·rw[lq]
    have h1:=hK.2 f hf
    have h2:f.dot ⟨g.x,g.y,0⟩=f.x*g.x+f.y*g.y:=by unfold V.dot;grind
    have h3:K*1<=K*f.dot p:=Int.mul_le_mul_of_nonneg_left (by have:=hp f hf;omega) (Int.le_of_lt hK.1)
    omega
   ·rw[lq,hgp,Int.mul_zero]
    have h2:g.dot ⟨g.x,g.y,0⟩=g.x*g.x+g.y*g.y:=by unfold V.dot;grind
    rw[h2]
    have h1:=sq_nonneg g.x
    have h2:=sq_nonneg g.y
    have h3:g.x≠0->g.x*g.x≠0:=fun h h'=>by rcases Int.mul_eq_zero.1 h' with h' |h' <;>exact h h'
    have h4:g.y≠0->g.y*g.y≠0:=fun h h'=>by rcases Int.mul_eq_zero.1 h' with h' |h' <;>exact h h'
    rcases hg0 with h |h
    ·have:=h3 h;omega
    ·have:=h4 h;omega
  ·exact⟨p,hw,hp',hgp⟩
 rcases Int.lt_or_gt_of_ne gq with h |h
 ·have e:∀c,(V.neg g).dot c= -(g.dot c):=fun c=>by unfold V.dot V.neg;grind
  obtain⟨c,cc,_,hc⟩:=mW hb wq pq (V.neg g) (by rw[e];omega)
  exact⟨a,b,c,ca,cb,cc,by rw[hdet];rw[e]at hc;omega⟩
 ·obtain⟨c,cc,_,hc⟩:=mW hb wq pq g h
  exact⟨a,b,c,ca,cb,cc,by rw[hdet];omega⟩
end Go.pN
