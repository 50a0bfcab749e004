/- What functions of the program come to, their temporaries gone (made off the translation; each proved by the kernel, word by word). -/
import Derived.Test.YtmdfgncoekfgdaaGreatDoorG4J
import Derived.Test.YtmdfgncoekfgdaaGreatDoorG2J
namespace Go.Proofs.YtmdfgncoekfgdaaGreatDoor
open Go Go.D
set_option maxRecDepth 100000 in
theorem Q2{W:Words}{x0:Value}{m:M}{R:List Value->M->Nat->Prop}:dt TE W Tryz.f188 [x0] m R=
(W.bW (M.push m (.cells (cells x0) 98 none)) fun a=>W.jn (fun b=>W.ah (ae TE 98 (ptrTo m.n) 0) fun c=>W.ah (ag TE a 3 c) fun d=>W.ah (aq TE .geq 3 d (.int .i64 0)) fun f=>aW f
(W.ah (ae TE 98 (ptrTo m.n) 0) fun g=>W.ah (ag TE a 3 g) fun h=>W.ah (aq TE .leq 3 h (.int .i64 40)) fun i=>aW i
(W.ah (ae TE 98 (ptrTo m.n) 1) fun j=>W.ah (ag TE a 3 j) fun k=>W.ah (aq TE .geq 3 k (.int .i64 0)) fun l=>aW l
(W.ah (ae TE 98 (ptrTo m.n) 1) fun n=>W.ah (ag TE a 3 n) fun o=>W.ah (aq TE .leq 3 o (.int .i64 40)) fun p=>b [p] a m.n)
(b [(.bool false)] a m.n))
(b [(.bool false)] a m.n))
(b [(.bool false)] a m.n))
(fun q r s=>W.un q fun t u=>R [t] r s)):=by kernel_rfl
set_option maxRecDepth 100000 in
theorem Rw{W:Words}{x0 x1 x2:Value}{m:M}{R:List Value->M->Nat->Prop}:dt TE W Tryz.f108 [x0,x1,x2] m R=
(W.bW (M.push m (.cells (cells x0) 98 none)) fun a=>W.bW (M.push a (.cells (cells x1) 98 none)) fun b=>W.bW (M.push b (.cells (cells x2) 98 none)) fun c=>W.ah (ae TE 98 (ptrTo a.n) 0) fun d=>W.ah (ag TE c 3 d) fun f=>W.ah (ae TE 98 (ptrTo m.n) 0) fun g=>W.ah (ag TE c 3 g) fun h=>W.ah (aq TE .sub 3 f h) fun i=>W.ah (ae TE 98 (ptrTo b.n) 1) fun j=>W.ah (ag TE c 3 j) fun k=>W.ah (ae TE 98 (ptrTo m.n) 1) fun l=>W.ah (ag TE c 3 l) fun n=>W.ah (aq TE .sub 3 k n) fun o=>W.ah (aq TE .mul 3 i o) fun p=>W.ah (ae TE 98 (ptrTo a.n) 1) fun q=>W.ah (ag TE c 3 q) fun r=>W.ah (ae TE 98 (ptrTo m.n) 1) fun s=>W.ah (ag TE c 3 s) fun t=>W.ah (aq TE .sub 3 r t) fun u=>W.ah (ae TE 98 (ptrTo b.n) 0) fun v=>W.ah (ag TE c 3 v) fun w=>W.ah (ae TE 98 (ptrTo m.n) 0) fun y=>W.ah (ag TE c 3 y) fun z=>W.ah (aq TE .sub 3 w z) fun A=>W.ah (aq TE .mul 3 u A) fun B=>W.ah (aq TE .sub 3 p B) fun C=>R [C] c m.n):=by kernel_rfl
set_option maxRecDepth 100000 in
theorem Rq{W:Words}{x0:Value}{m:M}{R:List Value->M->Nat->Prop}:dt TE W Tryz.f127 [x0] m R=
(W.jn (fun a=>W.aK (an TE m .len [45] [x0]) fun b _=>W.ah (aq TE .lss 3 b (.int .i64 3)) fun c=>aW c
(a [(.bool true)] m m.n)
(W.aK (an TE m .len [45] [x0]) fun d _=>W.ah (aq TE .gtr 3 d (.int .i64 8)) fun f=>a [f] m m.n))
(fun g h i=>W.un g fun j k=>aW j
(R [(.bool false)] h i)
(W.Lp (fun l n o p=>W.un n fun q r=>W.un r fun s t=>W.aK (an TE o .len [45] [x0]) fun u _=>W.ah (aq TE .lss 3 s u) fun v=>aW v
(W.ah (ai TE 45 x0 s) fun w=>W.ah (ag TE o 98 w) fun y=>W.bz (.func 188) [y] o fun z A B=>W.ah (fK .not z) fun C=>aW C
(R [(.bool false)] A (min p B))
(W.ah (aq TE .add 3 s (.int .i64 1)) fun D=>l [q,D] A (min p B)))
(W.Lp (fun E F G H=>W.un F fun I J=>W.un J fun K L=>W.aK (an TE G .len [45] [x0]) fun N _=>W.ah (aq TE .lss 3 K N) fun O=>aW O
(W.Lp (fun P Q S T=>W.un Q fun U V=>W.un V fun X Y=>W.aK (an TE S .len [45] [x0]) fun Z _=>W.ah (aq TE .lss 3 X Z) fun a0=>aW a0
(W.jn (fun a1=>W.ah (aq TE .neq 3 X K) fun a2=>aW a2
(W.ah (aq TE .add 3 K (.int .i64 1)) fun a3=>W.aK (an TE S .len [45] [x0]) fun a4 _=>W.ah (aq TE .rem 3 a3 a4) fun a5=>W.ah (aq TE .neq 3 X a5) fun a6=>aW a6
(W.ah (ai TE 45 x0 K) fun a7=>W.ah (ag TE S 98 a7) fun a8=>W.bz (.func 166) [x0,K] S fun a9 b0 b1=>(M.n S<=b1)/\(W.ah (ai TE 45 x0 X) fun b2=>W.ah (ag TE b0 98 b2) fun b3=>W.bz (.func 108) [a8,a9,b3] b0 fun b4 b5 b6=>W.ah (aq TE .leq 3 b4 (.int .i64 0)) fun b7=>a1 [b7] b5 (min (min T b1) b6)))
(a1 [(.bool false)] S T))
(a1 [(.bool false)] S T))
(fun b8 b9 c0=>W.un b8 fun c1 c2=>aW c1
(R [(.bool false)] b9 c0)
(W.ah (aq TE .add 3 X (.int .i64 1)) fun c3=>P [U,c3] b9 c0)))
(W.ah (aq TE .add 3 K (.int .i64 1)) fun c4=>E [U,c4] S T)) [I,(.int .i64 0)] G H)
(R [(.bool true)] G H)) [q,(.int .i64 0)] o p)) [(.bool false),(.int .i64 0)] h i))):=by kernel_rfl
set_option maxRecDepth 100000 in
theorem Q8{W:Words}{x0 x1:Value}{m:M}{R:List Value->M->Nat->Prop}:dt TE W Tryz.f166 [x0,x1] m R=
(W.bW (M.push m (.cells [(.int .i64 0),(.int .i64 0)] 98 none)) fun a=>W.ah (aq TE .add 3 x1 (.int .i64 1)) fun b=>W.aK (an TE a .len [45] [x0]) fun c _=>W.ah (aq TE .rem 3 b c) fun d=>W.ah (ai TE 45 x0 d) fun f=>W.ah (ag TE a 98 f) fun g=>W.aK (aw TE a 98 (ptrTo m.n) g) fun h i=>ah (ag TE h 98 (ptrTo m.n)) fun j=>R [j] h (min m.n i)):=by kernel_rfl
set_option maxRecDepth 100000 in
theorem Q7{W:Words}{x0:Value}{m:M}{R:List Value->M->Nat->Prop}:dt TE W Tryz.f167 [x0] m R=
(W.Lp (fun a b c d=>W.un b fun f g=>W.un g fun h i=>W.aK (an TE c .len [45] [x0]) fun j _=>W.ah (aq TE .lss 3 h j) fun k=>aW k
(W.ah (ai TE 45 x0 h) fun l=>W.ah (ag TE c 98 l) fun n=>W.bW (M.push c (.cells [(.int .i64 0),(.int .i64 0)] 98 none)) fun o=>W.aK (aw TE o 98 (ptrTo c.n) n) fun p q=>W.bz (.func 166) [x0,h] p fun r s t=>W.bW (M.push s (.cells [(.int .i64 0),(.int .i64 0)] 98 none)) fun u=>W.aK (aw TE u 98 (ptrTo s.n) r) fun v w=>W.ah (ae TE 98 (ptrTo c.n) 1) fun y=>W.ah (ag TE v 3 y) fun z=>W.ah (ae TE 98 (ptrTo s.n) 1) fun A=>W.ah (ag TE v 3 A) fun B=>W.ah (aq TE .sub 3 z B) fun C=>W.ah (ae TE 98 (ptrTo s.n) 0) fun D=>W.ah (ag TE v 3 D) fun E=>W.ah (ae TE 98 (ptrTo c.n) 0) fun F=>W.ah (ag TE v 3 F) fun G=>W.ah (aq TE .sub 3 E G) fun H=>W.ah (ae TE 98 (ptrTo s.n) 1) fun I=>W.ah (ag TE v 3 I) fun J=>W.ah (ae TE 98 (ptrTo c.n) 1) fun K=>W.ah (ag TE v 3 K) fun L=>W.ah (aq TE .sub 3 J L) fun N=>W.ah (ae TE 98 (ptrTo c.n) 0) fun O=>W.ah (ag TE v 3 O) fun P=>W.ah (aq TE .mul 3 N P) fun Q=>W.ah (ae TE 98 (ptrTo s.n) 0) fun S=>W.ah (ag TE v 3 S) fun T=>W.ah (ae TE 98 (ptrTo c.n) 0) fun U=>W.ah (ag TE v 3 U) fun V=>W.ah (aq TE .sub 3 T V) fun X=>W.ah (ae TE 98 (ptrTo c.n) 1) fun Y=>W.ah (ag TE v 3 Y) fun Z=>W.ah (aq TE .mul 3 X Z) fun a0=>W.ah (aq TE .sub 3 Q a0) fun a1=>W.ah (aO TE 234 [(0,C),(1,H),(2,a1)]) fun a2=>W.aK (az TE v 230 1 [(0,a2)]) fun a3 a4=>W.aK (an TE (M.wl a4 a4.n) .append [230,230] [f,a3]) fun a5 a6=>W.ah (aq TE .add 3 h (.int .i64 1)) fun a7=>a [a5,a7] a6 (min (min (min (min d q) t) w) (M.low a6)))
(R [f] c d)) [(.slice none 0 0),(.int .i64 0)] m m.n):=by kernel_rfl
set_option maxRecDepth 100000 in
theorem Rv{W:Words}{x0 x1:Value}{m:M}{R:List Value->M->Nat->Prop}:dt TE W Tryz.f111 [x0,x1] m R=
(W.jn (fun a=>W.bz (.func 127) [x0] m fun b c d=>W.ah (fK .not b) fun f=>aW f
(a [(.bool true)] c (min m.n d))
(W.bz (.func 127) [x1] c fun g h i=>W.ah (fK .not g) fun j=>a [j] h (min (min m.n d) i)))
(fun k l n=>W.un k fun o p=>aW o
(R [(.bool false)] l n)
(W.bz (.func 167) [x0] l fun q r s=>W.bz (.func 167) [x1] r fun t u v=>W.aK (an TE (M.wl u u.n) .append [230,230] [q,t]) fun w y=>W.Lp (fun z A B C=>W.un A fun D E=>W.un E fun F G=>W.aK (an TE B .len [230] [w]) fun H _=>W.ah (aq TE .lss 3 F H) fun I=>aW I
(W.ah (aq TE .add 3 F (.int .i64 1)) fun J=>W.Lp (fun K L N O=>W.un L fun P Q=>W.un Q fun S T=>W.aK (an TE N .len [230] [w]) fun U _=>W.ah (aq TE .lss 3 S U) fun V=>aW V
(W.ah (ai TE 230 w F) fun X=>W.ah (ae TE 234 X 1) fun Y=>W.ah (ag TE N 3 Y) fun Z=>W.ah (ai TE 230 w S) fun a0=>W.ah (ae TE 234 a0 2) fun a1=>W.ah (ag TE N 3 a1) fun a2=>W.ah (aq TE .mul 3 Z a2) fun a3=>W.ah (ai TE 230 w S) fun a4=>W.ah (ae TE 234 a4 1) fun a5=>W.ah (ag TE N 3 a5) fun a6=>W.ah (ai TE 230 w F) fun a7=>W.ah (ae TE 234 a7 2) fun a8=>W.ah (ag TE N 3 a8) fun a9=>W.ah (aq TE .mul 3 a6 a9) fun b0=>W.ah (aq TE .sub 3 a3 b0) fun b1=>W.ah (ai TE 230 w F) fun b2=>W.ah (ae TE 234 b2 2) fun b3=>W.ah (ag TE N 3 b3) fun b4=>W.ah (ai TE 230 w S) fun b5=>W.ah (ae TE 234 b5 0) fun b6=>W.ah (ag TE N 3 b6) fun b7=>W.ah (aq TE .mul 3 b4 b7) fun b8=>W.ah (ai TE 230 w S) fun b9=>W.ah (ae TE 234 b9 2) fun c0=>W.ah (ag TE N 3 c0) fun c1=>W.ah (ai TE 230 w F) fun c2=>W.ah (ae TE 234 c2 0) fun c3=>W.ah (ag TE N 3 c3) fun c4=>W.ah (aq TE .mul 3 c1 c4) fun c5=>W.ah (aq TE .sub 3 b8 c5) fun c6=>W.ah (ai TE 230 w F) fun c7=>W.ah (ae TE 234 c7 0) fun c8=>W.ah (ag TE N 3 c8) fun c9=>W.ah (ai TE 230 w S) fun d0=>W.ah (ae TE 234 d0 1) fun d1=>W.ah (ag TE N 3 d1) fun d2=>W.ah (aq TE .mul 3 c9 d2) fun d3=>W.ah (ai TE 230 w S) fun d4=>W.ah (ae TE 234 d4 0) fun d5=>W.ah (ag TE N 3 d5) fun d6=>W.ah (ai TE 230 w F) fun d7=>W.ah (ae TE 234 d7 1) fun d8=>W.ah (ag TE N 3 d8) fun d9=>W.ah (aq TE .mul 3 d6 d9) fun g0=>W.ah (aq TE .sub 3 d3 g0) fun g1=>W.ah (aO TE 236 [(0,b1),(1,c6),(2,g1)]) fun g2=>W.bW (M.push N (.cells [(.int .i64 0),(.int .i64 0),(.int .i64 0)] 236 none)) fun g3=>W.aK (aw TE g3 236 (ptrTo N.n) g2) fun g4 g5=>W.ah (ae TE 236 (ptrTo N.n) 2) fun g6=>W.ah (ag TE g4 3 g6) fun g7=>W.ah (aq TE .eql 3 g7 (.int .i64 0)) fun g8=>aW g8
(W.ah (aq TE .add 3 S (.int .i64 1)) fun g9=>K [P,g9] g4 (min O g5))
(W.ah (ae TE 236 (ptrTo N.n) 2) fun h0=>W.ah (ag TE g4 3 h0) fun h1=>W.ah (aq TE .lss 3 h1 (.int .i64 0)) fun h2=>aW h2
(W.ah (ae TE 236 (ptrTo N.n) 0) fun h3=>W.ah (ag TE g4 3 h3) fun h4=>W.ah (fK .neg h4) fun h5=>W.ah (ae TE 236 (ptrTo N.n) 1) fun h6=>W.ah (ag TE g4 3 h6) fun h7=>W.ah (fK .neg h7) fun h8=>W.ah (ae TE 236 (ptrTo N.n) 2) fun h9=>W.ah (ag TE g4 3 h9) fun i0=>W.ah (fK .neg i0) fun i1=>W.ah (aO TE 236 [(0,h5),(1,h8),(2,i1)]) fun i2=>W.aK (aw TE g4 236 (ptrTo N.n) i2) fun i3 i4=>W.Lp (fun i5 i6 i7 i8=>W.un i6 fun i9 j0=>W.un j0 fun j1 j2=>W.aK (an TE i7 .len [230] [w]) fun j3 _=>W.ah (aq TE .lss 3 j1 j3) fun j4=>aW j4
(aW i9
(W.ah (ai TE 230 w j1) fun j5=>W.ah (ae TE 234 j5 0) fun j6=>W.ah (ag TE i7 3 j6) fun j7=>W.ah (ae TE 236 (ptrTo N.n) 0) fun j8=>W.ah (ag TE i7 3 j8) fun j9=>W.ah (aq TE .mul 3 j7 j9) fun k0=>W.ah (ai TE 230 w j1) fun k1=>W.ah (ae TE 234 k1 1) fun k2=>W.ah (ag TE i7 3 k2) fun k3=>W.ah (ae TE 236 (ptrTo N.n) 1) fun k4=>W.ah (ag TE i7 3 k4) fun k5=>W.ah (aq TE .mul 3 k3 k5) fun k6=>W.ah (aq TE .add 3 k0 k6) fun k7=>W.ah (ai TE 230 w j1) fun k8=>W.ah (ae TE 234 k8 2) fun k9=>W.ah (ag TE i7 3 k9) fun l0=>W.ah (ae TE 236 (ptrTo N.n) 2) fun l1=>W.ah (ag TE i7 3 l1) fun l2=>W.ah (aq TE .mul 3 l0 l2) fun l3=>W.ah (aq TE .add 3 k7 l3) fun l4=>W.ah (aq TE .geq 3 l4 (.int .i64 0)) fun l5=>W.ah (aq TE .add 3 j1 (.int .i64 1)) fun l6=>i5 [l5,l6] i7 i8)
(W.ah (aq TE .add 3 j1 (.int .i64 1)) fun l7=>i5 [(.bool false),l7] i7 i8))
(aW i9
(W.ah (ag TE i7 236 (ptrTo N.n)) fun l8=>W.aK (az TE i7 232 1 [(0,l8)]) fun l9 n0=>W.aK (an TE (M.wl n0 n0.n) .append [232,232] [P,l9]) fun n1 n2=>W.ah (aq TE .add 3 S (.int .i64 1)) fun n3=>K [n1,n3] n2 (min i8 (M.low n2)))
(W.ah (aq TE .add 3 S (.int .i64 1)) fun n4=>K [P,n4] i7 i8))) [(.bool true),(.int .i64 0)] i3 (min (min O g5) i4))
(W.Lp (fun n5 n6 n7 n8=>W.un n6 fun n9 o0=>W.un o0 fun o1 o2=>W.aK (an TE n7 .len [230] [w]) fun o3 _=>W.ah (aq TE .lss 3 o1 o3) fun o4=>aW o4
(aW n9
(W.ah (ai TE 230 w o1) fun o5=>W.ah (ae TE 234 o5 0) fun o6=>W.ah (ag TE n7 3 o6) fun o7=>W.ah (ae TE 236 (ptrTo N.n) 0) fun o8=>W.ah (ag TE n7 3 o8) fun o9=>W.ah (aq TE .mul 3 o7 o9) fun p0=>W.ah (ai TE 230 w o1) fun p1=>W.ah (ae TE 234 p1 1) fun p2=>W.ah (ag TE n7 3 p2) fun p3=>W.ah (ae TE 236 (ptrTo N.n) 1) fun p4=>W.ah (ag TE n7 3 p4) fun p5=>W.ah (aq TE .mul 3 p3 p5) fun p6=>W.ah (aq TE .add 3 p0 p6) fun p7=>W.ah (ai TE 230 w o1) fun p8=>W.ah (ae TE 234 p8 2) fun p9=>W.ah (ag TE n7 3 p9) fun q0=>W.ah (ae TE 236 (ptrTo N.n) 2) fun q1=>W.ah (ag TE n7 3 q1) fun q2=>W.ah (aq TE .mul 3 q0 q2) fun q3=>W.ah (aq TE .add 3 p7 q3) fun q4=>W.ah (aq TE .geq 3 q4 (.int .i64 0)) fun q5=>W.ah (aq TE .add 3 o1 (.int .i64 1)) fun q6=>n5 [q5,q6] n7 n8)
(W.ah (aq TE .add 3 o1 (.int .i64 1)) fun q7=>n5 [(.bool false),q7] n7 n8))
(aW n9
(W.ah (ag TE n7 236 (ptrTo N.n)) fun q8=>W.aK (az TE n7 232 1 [(0,q8)]) fun q9 r0=>W.aK (an TE (M.wl r0 r0.n) .append [232,232] [P,q9]) fun r1 r2=>W.ah (aq TE .add 3 S (.int .i64 1)) fun r3=>K [r1,r3] r2 (min n8 (M.low r2)))
(W.ah (aq TE .add 3 S (.int .i64 1)) fun r4=>K [P,r4] n7 n8))) [(.bool true),(.int .i64 0)] g4 (min O g5))))
(W.ah (aq TE .add 3 F (.int .i64 1)) fun r5=>z [P,r5] N O)) [D,J] B C)
(W.Lp (fun r6 r7 r8 r9=>W.un r7 fun s0 s1=>W.un s1 fun s2 s3=>W.aK (an TE r8 .len [232] [D]) fun s4 _=>W.ah (aq TE .lss 3 s2 s4) fun s5=>aW s5
(W.Lp (fun s6 s7 s8 s9=>W.un s7 fun t0 t1=>W.un t1 fun t2 t3=>W.ah (aq TE .lss 3 t2 s2) fun t4=>aW t4
(W.Lp (fun t5 t6 t7 t8=>W.un t6 fun t9 u0=>W.un u0 fun u1 u2=>W.ah (aq TE .lss 3 u1 t2) fun u3=>aW u3
(W.ah (ai TE 232 D s2) fun u4=>W.ah (ag TE t7 236 u4) fun u5=>W.bW (M.push t7 (.cells [(.int .i64 0),(.int .i64 0),(.int .i64 0)] 236 none)) fun u6=>W.aK (aw TE u6 236 (ptrTo t7.n) u5) fun u7 u8=>W.ah (ai TE 232 D t2) fun u9=>W.ah (ag TE u7 236 u9) fun v0=>W.bW (M.push u7 (.cells [(.int .i64 0),(.int .i64 0),(.int .i64 0)] 236 none)) fun v1=>W.aK (aw TE v1 236 (ptrTo u7.n) v0) fun v2 v3=>W.ah (ai TE 232 D u1) fun v4=>W.ah (ag TE v2 236 v4) fun v5=>W.bW (M.push v2 (.cells [(.int .i64 0),(.int .i64 0),(.int .i64 0)] 236 none)) fun v6=>W.aK (aw TE v6 236 (ptrTo v2.n) v5) fun v7 v8=>W.ah (ae TE 236 (ptrTo t7.n) 0) fun v9=>W.ah (ag TE v7 3 v9) fun w0=>W.ah (ae TE 236 (ptrTo u7.n) 1) fun w1=>W.ah (ag TE v7 3 w1) fun w2=>W.ah (ae TE 236 (ptrTo v2.n) 2) fun w3=>W.ah (ag TE v7 3 w3) fun w4=>W.ah (aq TE .mul 3 w2 w4) fun w5=>W.ah (ae TE 236 (ptrTo u7.n) 2) fun w6=>W.ah (ag TE v7 3 w6) fun w7=>W.ah (ae TE 236 (ptrTo v2.n) 1) fun w8=>W.ah (ag TE v7 3 w8) fun w9=>W.ah (aq TE .mul 3 w7 w9) fun y0=>W.ah (aq TE .sub 3 w5 y0) fun y1=>W.ah (aq TE .mul 3 w0 y1) fun y2=>W.ah (ae TE 236 (ptrTo t7.n) 1) fun y3=>W.ah (ag TE v7 3 y3) fun y4=>W.ah (ae TE 236 (ptrTo u7.n) 0) fun y5=>W.ah (ag TE v7 3 y5) fun y6=>W.ah (ae TE 236 (ptrTo v2.n) 2) fun y7=>W.ah (ag TE v7 3 y7) fun y8=>W.ah (aq TE .mul 3 y6 y8) fun y9=>W.ah (ae TE 236 (ptrTo u7.n) 2) fun z0=>W.ah (ag TE v7 3 z0) fun z1=>W.ah (ae TE 236 (ptrTo v2.n) 0) fun z2=>W.ah (ag TE v7 3 z2) fun z3=>W.ah (aq TE .mul 3 z1 z3) fun z4=>W.ah (aq TE .sub 3 y9 z4) fun z5=>W.ah (aq TE .mul 3 y4 z5) fun z6=>W.ah (aq TE .sub 3 y2 z6) fun z7=>W.ah (ae TE 236 (ptrTo t7.n) 2) fun z8=>W.ah (ag TE v7 3 z8) fun z9=>W.ah (ae TE 236 (ptrTo u7.n) 0) fun A0=>W.ah (ag TE v7 3 A0) fun A1=>W.ah (ae TE 236 (ptrTo v2.n) 1) fun A2=>W.ah (ag TE v7 3 A2) fun A3=>W.ah (aq TE .mul 3 A1 A3) fun A4=>W.ah (ae TE 236 (ptrTo u7.n) 1) fun A5=>W.ah (ag TE v7 3 A5) fun A6=>W.ah (ae TE 236 (ptrTo v2.n) 0) fun A7=>W.ah (ag TE v7 3 A7) fun A8=>W.ah (aq TE .mul 3 A6 A8) fun A9=>W.ah (aq TE .sub 3 A4 A9) fun B0=>W.ah (aq TE .mul 3 z9 B0) fun B1=>W.ah (aq TE .add 3 z7 B1) fun B2=>W.ah (aq TE .neq 3 B2 (.int .i64 0)) fun B3=>aW B3
(R [(.bool true)] v7 (min (min (min t8 u8) v3) v8))
(W.ah (aq TE .add 3 u1 (.int .i64 1)) fun B4=>t5 [t9,B4] v7 (min (min (min t8 u8) v3) v8)))
(W.ah (aq TE .add 3 t2 (.int .i64 1)) fun B5=>s6 [t9,B5] t7 t8)) [t0,(.int .i64 0)] s8 s9)
(W.ah (aq TE .add 3 s2 (.int .i64 1)) fun B6=>r6 [t0,B6] s8 s9)) [s0,(.int .i64 0)] r8 r9)
(R [(.bool false)] r8 r9)) [(.bool false),(.int .i64 0)] B C)) [(.slice none 0 0),(.int .i64 0)] y (min (min (min n s) v) (M.low y))))):=by kernel_rfl
set_option maxRecDepth 100000 in
theorem Rh{W:Words}{x0 x1:Value}{m:M}{R:List Value->M->Nat->Prop}:dt TE W Tryz.f136 [x0,x1] m R=
(W.bW (M.push m (.cells (cells x0) 87 none)) fun a=>W.bW (M.push a (.cells (cells x1) 87 none)) fun b=>W.jn (fun c=>W.ah (ag TE b 87 (ptrTo m.n)) fun d=>W.ah (ag TE b 87 (ptrTo a.n)) fun f=>W.bz (.func 191) [d,f] b fun g h i=>aW g
(W.ah (ae TE 87 (ptrTo m.n) 3) fun j=>W.ah (ag TE h 45 j) fun k=>W.ah (ae TE 87 (ptrTo a.n) 3) fun l=>W.ah (ag TE h 45 l) fun n=>W.bz (.func 111) [k,n] h fun o p q=>c [o] p (min (min m.n i) q))
(c [(.bool false)] h (min m.n i)))
(fun r s t=>W.un r fun u v=>R [u] s t)):=by kernel_rfl
set_option maxRecDepth 100000 in
theorem Ri{W:Words}{x0:Value}{m:M}{R:List Value->M->Nat->Prop}:dt TE W Tryz.f135 [x0] m R=
(W.bW (M.push m (.cells (cells x0) 87 none)) fun a=>W.jn (fun b=>W.ah (ae TE 87 (ptrTo m.n) 0) fun c=>W.ah (ag TE a 3 c) fun d=>W.ah (aq TE .lss 3 d (.int .i64 0)) fun f=>aW f
(b [(.bool true)] a m.n)
(W.ah (ae TE 87 (ptrTo m.n) 0) fun g=>W.ah (ag TE a 3 g) fun h=>W.ah (aq TE .gtr 3 h (.int .i64 99)) fun i=>aW i
(b [(.bool true)] a m.n)
(W.ah (ae TE 87 (ptrTo m.n) 1) fun j=>W.ah (ag TE a 3 j) fun k=>W.ah (aq TE .lss 3 k (.int .i64 1)) fun l=>aW l
(b [(.bool true)] a m.n)
(W.ah (ae TE 87 (ptrTo m.n) 1) fun n=>W.ah (ag TE a 3 n) fun o=>W.ah (aq TE .gtr 3 o (.int .i64 8)) fun p=>aW p
(b [(.bool true)] a m.n)
(W.ah (ae TE 87 (ptrTo m.n) 2) fun q=>W.ah (ag TE a 3 q) fun r=>W.ah (aq TE .lss 3 r (.int .i64 0)) fun s=>aW s
(b [(.bool true)] a m.n)
(W.ah (ae TE 87 (ptrTo m.n) 2) fun t=>W.ah (ag TE a 3 t) fun u=>W.ah (aq TE .gtr 3 u (.int .i64 7)) fun v=>b [v] a m.n))))))
(fun w y z=>W.un w fun A B=>aW A
(R [(.bool false)] y z)
(W.jn (fun C=>W.ah (ae TE 87 (ptrTo m.n) 4) fun D=>W.ah (ag TE y 3 D) fun E=>W.ah (aq TE .geq 3 E (.int .i64 0)) fun F=>aW F
(W.ah (ae TE 87 (ptrTo m.n) 4) fun G=>W.ah (ag TE y 3 G) fun H=>W.ah (ae TE 87 (ptrTo m.n) 5) fun I=>W.ah (ag TE y 3 I) fun J=>W.ah (aq TE .lss 3 H J) fun K=>aW K
(W.ah (ae TE 87 (ptrTo m.n) 5) fun L=>W.ah (ag TE y 3 L) fun N=>W.ah (aq TE .leq 3 N (.int .i64 8)) fun O=>aW O
(W.ah (ae TE 87 (ptrTo m.n) 3) fun P=>W.ah (ag TE y 45 P) fun Q=>W.bz (.func 127) [Q] y fun S T U=>C [S] T (min z U))
(C [(.bool false)] y z))
(C [(.bool false)] y z))
(C [(.bool false)] y z))
(fun V X Y=>W.un V fun Z a0=>R [Z] X Y)))):=by kernel_rfl
set_option maxRecDepth 100000 in
theorem QY{W:Words}{x0 x1:Value}{m:M}{R:List Value->M->Nat->Prop}:dt TE W Tryz.f191 [x0,x1] m R=
(W.bW (M.push m (.cells (cells x0) 87 none)) fun a=>W.bW (M.push a (.cells (cells x1) 87 none)) fun b=>W.jn (fun c=>W.ah (ag TE b 87 (ptrTo m.n)) fun d=>W.bz (.func 135) [d] b fun f g h=>aW f
(W.ah (ag TE g 87 (ptrTo a.n)) fun i=>W.bz (.func 135) [i] g fun j k l=>aW j
(W.ah (ae TE 87 (ptrTo m.n) 4) fun n=>W.ah (ag TE k 3 n) fun o=>W.ah (ae TE 87 (ptrTo a.n) 4) fun p=>W.ah (ag TE k 3 p) fun q=>W.aK (an TE k .max [3,3] [o,q]) fun r _=>W.ah (ae TE 87 (ptrTo m.n) 5) fun s=>W.ah (ag TE k 3 s) fun t=>W.ah (ae TE 87 (ptrTo a.n) 5) fun u=>W.ah (ag TE k 3 u) fun v=>W.aK (an TE k .min [3,3] [t,v]) fun w _=>W.ah (aq TE .lss 3 r w) fun y=>c [y] k (min (min m.n h) l))
(c [(.bool false)] k (min (min m.n h) l)))
(c [(.bool false)] g (min m.n h)))
(fun z A B=>W.un z fun C D=>R [C] A B)):=by kernel_rfl
set_option maxRecDepth 100000 in
theorem Ro{W:Words}{x0 x1:Value}{m:M}{R:List Value->M->Nat->Prop}:dt TE W Tryz.f129 [x0,x1] m R=
(W.bW (M.push m (.cells (cells x0) 87 none)) fun a=>W.bW (M.push a (.cells (cells x1) 87 none)) fun b=>W.ah (ag TE b 87 (ptrTo m.n)) fun c=>W.ah (ag TE b 87 (ptrTo a.n)) fun d=>W.bz (.func 190) [c,d] b fun f g h=>W.ah (cj f 0) fun i=>W.ah (cj f 1) fun j=>W.ah (cj f 2) fun k=>W.jn (fun l=>aW k
(W.ah (ae TE 87 (ptrTo m.n) 3) fun n=>W.ah (ag TE g 45 n) fun o=>W.ah (ae TE 87 (ptrTo a.n) 3) fun p=>W.ah (ag TE g 45 p) fun q=>W.bz (.func 102) [o,q] g fun r s t=>l [r] s (min (min m.n h) t))
(l [(.bool false)] g (min m.n h)))
(fun u v w=>W.un u fun y z=>R [y] v w)):=by kernel_rfl
set_option maxRecDepth 100000 in
theorem Rt{W:Words}{x0:Value}{m:M}{R:List Value->M->Nat->Prop}:dt TE W Tryz.f120 [x0] m R=
(W.bW (M.push m (.cells (cells x0) 87 none)) fun a=>W.jn (fun b=>W.ah (ae TE 87 (ptrTo m.n) 0) fun c=>W.ah (ag TE a 3 c) fun d=>W.bz (.func 180) [d,(.int .i64 0),(.int .i64 99)] a fun f g h=>aW f
(W.ah (ae TE 87 (ptrTo m.n) 1) fun i=>W.ah (ag TE g 3 i) fun j=>W.bz (.func 180) [j,(.int .i64 1),(.int .i64 8)] g fun k l n=>aW k
(W.ah (ae TE 87 (ptrTo m.n) 2) fun o=>W.ah (ag TE l 3 o) fun p=>W.bz (.func 180) [p,(.int .i64 0),(.int .i64 7)] l fun q r s=>b [q] r (min (min (min m.n h) n) s))
(b [(.bool false)] l (min (min m.n h) n)))
(b [(.bool false)] g (min m.n h)))
(fun t u v=>W.un t fun w y=>W.jn (fun z=>aW w
(W.ah (ae TE 87 (ptrTo m.n) 4) fun A=>W.ah (ag TE u 3 A) fun B=>W.ah (aq TE .leq 3 (.int .i64 0) B) fun C=>aW C
(W.ah (ae TE 87 (ptrTo m.n) 4) fun D=>W.ah (ag TE u 3 D) fun E=>W.ah (ae TE 87 (ptrTo m.n) 5) fun F=>W.ah (ag TE u 3 F) fun G=>W.ah (aq TE .lss 3 E G) fun H=>aW H
(W.ah (ae TE 87 (ptrTo m.n) 5) fun I=>W.ah (ag TE u 3 I) fun J=>W.ah (aq TE .leq 3 J (.int .i64 8)) fun K=>aW K
(W.ah (ae TE 87 (ptrTo m.n) 3) fun L=>W.ah (ag TE u 45 L) fun N=>W.bz (.func 157) [N] u fun O P Q=>z [O] P (min v Q))
(z [(.bool false)] u v))
(z [(.bool false)] u v))
(z [(.bool false)] u v))
(z [(.bool false)] u v))
(fun S T U=>W.un S fun V X=>R [V] T U))):=by kernel_rfl
set_option maxRecDepth 100000 in
theorem QZ{W:Words}{x0 x1:Value}{m:M}{R:List Value->M->Nat->Prop}:dt TE W Tryz.f190 [x0,x1] m R=
(W.bW (M.push m (.cells (cells x0) 87 none)) fun a=>W.bW (M.push a (.cells (cells x1) 87 none)) fun b=>W.ah (ae TE 87 (ptrTo m.n) 4) fun c=>W.ah (ag TE b 3 c) fun d=>W.ah (ae TE 87 (ptrTo a.n) 4) fun f=>W.ah (ag TE b 3 f) fun g=>W.aK (an TE b .max [3,3] [d,g]) fun h _=>W.ah (ae TE 87 (ptrTo m.n) 5) fun i=>W.ah (ag TE b 3 i) fun j=>W.ah (ae TE 87 (ptrTo a.n) 5) fun k=>W.ah (ag TE b 3 k) fun l=>W.aK (an TE b .min [3,3] [j,l]) fun n _=>W.jn (fun o=>W.ah (aq TE .lss 3 h n) fun p=>aW p
(W.ah (ag TE b 87 (ptrTo m.n)) fun q=>W.bz (.func 120) [q] b fun r s t=>aW r
(W.ah (ag TE s 87 (ptrTo a.n)) fun u=>W.bz (.func 120) [u] s fun v w y=>o [h,n,v] w (min (min m.n t) y))
(o [h,n,(.bool false)] s (min m.n t)))
(o [h,n,(.bool false)] b m.n))
(fun z A B=>W.un z fun C D=>W.un D fun E F=>W.un F fun G H=>R [C,E,G] A B)):=by kernel_rfl
set_option maxRecDepth 100000 in
theorem Q5{W:Words}{x0 x1 x2:Value}{m:M}{R:List Value->M->Nat->Prop}:dt TE W Tryz.f180 [x0,x1,x2] m R=
(W.jn (fun a=>W.ah (aq TE .leq 3 x1 x0) fun b=>aW b
(W.ah (aq TE .leq 3 x0 x2) fun c=>a [c] m m.n)
(a [(.bool false)] m m.n))
(fun d f g=>W.un d fun h i=>R [h] f g)):=by kernel_rfl
set_option maxRecDepth 100000 in
theorem Q1{W:Words}{x0 x1:Value}{m:M}{R:List Value->M->Nat->Prop}:dt TE W Tryz.f189 [x0,x1] m R=
(W.ah (ae TE 31 x1 0) fun a=>W.ah (ag TE m 29 a) fun b=>W.aK (an TE m .len [29] [b]) fun c _=>W.Lp (fun d f g h=>W.un f fun i j=>W.ah (aq TE .lss 3 i c) fun k=>aW k
(W.ah (ai TE 29 b i) fun l=>W.ah (ag TE g 87 l) fun n=>W.bW (M.push g (.cells [(.int .i64 0),(.int .i64 0),(.int .i64 0),(.slice none 0 0),(.int .i64 0),(.int .i64 0)] 87 none)) fun o=>W.aK (aw TE o 87 (ptrTo g.n) n) fun p q=>W.ah (ae TE 31 x1 0) fun r=>W.ah (ag TE p 29 r) fun s=>W.ah (aq TE .add 3 i (.int .i64 1)) fun t=>W.ah (slice? TE p 29 s (some t) none none) fun u=>W.aK (an TE p .len [29] [u]) fun v _=>W.Lp (fun w y z A=>W.un y fun B C=>W.ah (aq TE .lss 3 B v) fun D=>aW D
(W.ah (ai TE 29 u B) fun E=>W.ah (ag TE z 87 E) fun F=>W.bW (M.push z (.cells [(.int .i64 0),(.int .i64 0),(.int .i64 0),(.slice none 0 0),(.int .i64 0),(.int .i64 0)] 87 none)) fun G=>W.aK (aw TE G 87 (ptrTo z.n) F) fun H I=>W.ah (ag TE H 87 (ptrTo g.n)) fun J=>W.ah (ag TE H 87 (ptrTo z.n)) fun K=>oG x0 fun L N O=>W.bz L (N.toList++([J,K]++O.toList)) H fun P Q S=>W.ah (fK .not P) fun T=>aW T
(R [] Q (min (min A I) S))
(W.ah (aq TE .add 3 B (.int .i64 1)) fun U=>w [U] Q (min (min A I) S)))
(W.ah (aq TE .add 3 i (.int .i64 1)) fun V=>d [V] z A)) [(.int .i64 0)] p (min h q))
(R [] g h)) [(.int .i64 0)] m m.n):=by kernel_rfl
set_option maxRecDepth 100000 in
theorem YP{W:Words}{x0:Value}{m:M}{R:List Value->M->Nat->Prop}:dt TE W Tryz.f59 [x0] m R=
(W.bW (M.push m (.cells (cells x0) 31 none)) fun a=>W.bW (M.push a (.cells [(.bool false)] 4 none)) fun b=>W.ah (ae TE 31 (ptrTo m.n) 0) fun c=>W.ah (ag TE b 29 c) fun d=>W.aK (an TE b .len [29] [d]) fun f _=>W.ah (aq TE .gtr 3 f (.int .i64 12)) fun g=>aW g
(W.aK (aw TE b 4 (ptrTo a.n) (.bool false)) fun h i=>ah (ag TE h 4 (ptrTo a.n)) fun j=>R [j] h (min m.n i))
(W.ah (ae TE 31 (ptrTo m.n) 0) fun k=>W.ah (ag TE b 29 k) fun l=>W.aK (an TE b .len [29] [l]) fun n _=>W.Lp (fun o p q r=>W.un p fun s t=>W.ah (aq TE .lss 3 s n) fun u=>aW u
(W.ah (ai TE 29 l s) fun v=>W.ah (ag TE q 87 v) fun w=>W.bW (M.push q (.cells [(.int .i64 0),(.int .i64 0),(.int .i64 0),(.slice none 0 0),(.int .i64 0),(.int .i64 0)] 87 none)) fun y=>W.aK (aw TE y 87 (ptrTo q.n) w) fun z A=>W.jn (fun B=>W.ah (ag TE z 87 (ptrTo q.n)) fun C=>W.bz (.func 120) [C] z fun D E F=>W.ah (fK .not D) fun G=>aW G
(B [(.bool true)] E (min (min r A) F))
(W.ah (aq TE .gtr 3 s (.int .i64 0)) fun H=>aW H
(W.ah (ae TE 87 (ptrTo q.n) 0) fun I=>W.ah (ag TE E 3 I) fun J=>W.ah (ae TE 31 (ptrTo m.n) 0) fun K=>W.ah (ag TE E 29 K) fun L=>W.ah (aq TE .sub 3 s (.int .i64 1)) fun N=>W.ah (ai TE 29 L N) fun O=>W.ah (ae TE 87 O 0) fun P=>W.ah (ag TE E 3 P) fun Q=>W.ah (aq TE .leq 3 J Q) fun S=>B [S] E (min (min r A) F))
(B [(.bool false)] E (min (min r A) F))))
(fun T U V=>W.un T fun X Y=>aW X
(W.aK (aw TE U 4 (ptrTo a.n) (.bool false)) fun Z a0=>ah (ag TE Z 4 (ptrTo a.n)) fun a1=>R [a1] Z (min V a0))
(W.ah (aq TE .add 3 s (.int .i64 1)) fun a2=>o [a2] U V)))
(W.ah (ag TE q 31 (ptrTo m.n)) fun a3=>W.bz (.func 128) [a3] q fun a4 a5 a6=>oG a4 fun a7 a8 a9=>W.RF a7 a8.toList a9.toList a5 (min r a6) (fun b0 b1 b2=>W.un b0 fun b3 b4=>W.un b4 fun b5 b6=>W.zD b6 (W.bW (M.push b1 (.cells [(.int .i64 0),(.int .i64 0),(.int .i64 0),(.slice none 0 0),(.int .i64 0),(.int .i64 0)] 87 none)) fun b7=>W.aK (aw TE b7 87 (ptrTo b1.n) b3) fun b8 b9=>W.bW (M.push b8 (.cells [(.int .i64 0),(.int .i64 0),(.int .i64 0),(.slice none 0 0),(.int .i64 0),(.int .i64 0)] 87 none)) fun c0=>W.aK (aw TE c0 87 (ptrTo b8.n) b5) fun c1 c2=>W.Kq a5.n b1 c1 fun c3=>W.ah (ag TE c3 87 (ptrTo b1.n)) fun c4=>W.ah (ag TE c3 87 (ptrTo b8.n)) fun c5=>W.bz (.func 129) [c4,c5] c3 fun c6 c7 c8=>aW c6
(W.aK (aw TE c7 4 (ptrTo a.n) (.bool false)) fun c9 d0=>b2 c3 .ret c9 (min (min (min (min (min b1.n b9) c2) a5.n) c8) d0))
(b2 c3 .normal c7 (min (min (min (min b1.n b9) c2) a5.n) c8)))) (fun d1 d2=>W.aK (aw TE d1 4 (ptrTo a.n) (.bool true)) fun d3 d4=>ah (ag TE d3 4 (ptrTo a.n)) fun d5=>R [d5] d3 (min d2 d4)) [(.ret,fun d6 d7=>ah (ag TE d6 4 (ptrTo a.n)) fun d8=>R [d8] d6 d7)])) [(.int .i64 0)] b m.n)):=by kernel_rfl
set_option maxRecDepth 100000 in
theorem Rp{W:Words}{x0:Value}{m:M}{R:List Value->M->Nat->Prop}:dt TE W Tryz.f128 [x0] m R=
(W.bW (M.push m (.cells (cells x0) 31 none)) fun a=>R [(.func (.func 189) #[] #[(ptrTo m.n)])] a m.n):=by kernel_rfl
set_option maxRecDepth 100000 in
theorem YN{W:Words}{x0:Value}{m:M}{R:List Value->M->Nat->Prop}:dt TE W Tryz.f61 [x0] m R=
(W.bW (M.push m (.cells (cells x0) 31 none)) fun a=>W.ah (ae TE 31 (ptrTo m.n) 0) fun b=>W.ah (ag TE a 29 b) fun c=>W.aK (an TE a .len [29] [c]) fun d _=>W.ah (aq TE .gtr 3 d (.int .i64 12)) fun f=>aW f
(R [(.bool false)] a m.n)
(W.Lp (fun g h i j=>W.un h fun k l=>W.un l fun n o=>W.ah (ae TE 31 (ptrTo m.n) 0) fun p=>W.ah (ag TE i 29 p) fun q=>W.aK (an TE i .len [29] [q]) fun r _=>W.ah (aq TE .lss 3 n r) fun s=>aW s
(W.jn (fun t=>W.ah (ae TE 31 (ptrTo m.n) 0) fun u=>W.ah (ag TE i 29 u) fun v=>W.ah (ai TE 29 v n) fun w=>W.ah (ag TE i 87 w) fun y=>W.bz (.func 135) [y] i fun z A B=>W.ah (fK .not z) fun C=>aW C
(t [(.bool true)] A (min j B))
(W.ah (aq TE .gtr 3 n (.int .i64 0)) fun D=>aW D
(W.ah (ae TE 31 (ptrTo m.n) 0) fun E=>W.ah (ag TE A 29 E) fun F=>W.ah (ai TE 29 F n) fun G=>W.ah (ae TE 87 G 0) fun H=>W.ah (ag TE A 3 H) fun I=>W.ah (ae TE 31 (ptrTo m.n) 0) fun J=>W.ah (ag TE A 29 J) fun K=>W.ah (aq TE .sub 3 n (.int .i64 1)) fun L=>W.ah (ai TE 29 K L) fun N=>W.ah (ae TE 87 N 0) fun O=>W.ah (ag TE A 3 O) fun P=>W.ah (aq TE .leq 3 I P) fun Q=>t [Q] A (min j B))
(t [(.bool false)] A (min j B))))
(fun S T U=>W.un S fun V X=>aW V
(R [(.bool false)] T U)
(W.Lp (fun Y Z a0 a1=>W.un Z fun a2 a3=>W.un a3 fun a4 a5=>W.ah (aq TE .lss 3 a4 n) fun a6=>aW a6
(W.ah (ae TE 31 (ptrTo m.n) 0) fun a7=>W.ah (ag TE a0 29 a7) fun a8=>W.ah (ai TE 29 a8 n) fun a9=>W.ah (ag TE a0 87 a9) fun b0=>W.ah (ae TE 31 (ptrTo m.n) 0) fun b1=>W.ah (ag TE a0 29 b1) fun b2=>W.ah (ai TE 29 b2 a4) fun b3=>W.ah (ag TE a0 87 b3) fun b4=>W.bz (.func 136) [b0,b4] a0 fun b5 b6 b7=>aW b5
(R [(.bool false)] b6 (min a1 b7))
(W.ah (aq TE .add 3 a4 (.int .i64 1)) fun b8=>Y [a2,b8] b6 (min a1 b7)))
(W.ah (aq TE .add 3 n (.int .i64 1)) fun b9=>g [a2,b9] a0 a1)) [k,(.int .i64 0)] T U)))
(R [(.bool true)] i j)) [(.bool false),(.int .i64 0)] a m.n)):=by kernel_rfl
set_option maxRecDepth 100000 in
theorem YR{W:Words}{x0:Value}{m:M}{R:List Value->M->Nat->Prop}:dt TE W Tryz.f57 [x0] m R=
(W.bW (M.push m (.cells (cells x0) 87 none)) fun a=>W.bW (M.push a (.cells [(.int .i64 0),(.int .i64 0),(.int .i64 0),(.slice none 0 0),(.int .i64 0),(.int .i64 0)] 87 none)) fun b=>W.aK (az TE b 45 0 []) fun c d=>W.ah (ae TE 87 (ptrTo m.n) 3) fun f=>W.ah (ag TE d 45 f) fun g=>W.aK (an TE (M.wl d d.n) .append [45,45] [c,g]) fun h i=>W.ah (ae TE 87 (ptrTo m.n) 3) fun j=>W.aK (aw TE i 45 j h) fun k l=>W.ah (ag TE k 87 (ptrTo m.n)) fun n=>W.aK (aw TE k 87 (ptrTo a.n) n) fun o p=>ah (ag TE o 87 (ptrTo a.n)) fun q=>R [q] o (min (min (min m.n (M.low i)) l) p)):=by kernel_rfl
set_option maxRecDepth 100000 in
theorem YU{W:Words}{x0 x1:Value}{m:M}{R:List Value->M->Nat->Prop}:dt TE W Tryz.f54 [x0,x1] m R=
(W.ah (aq TE .lss 3 x0 (.int .i64 0)) fun a=>aW a
(W.ah (aq TE .add 3 x0 (.int .i64 1)) fun b=>W.ah (fK .neg b) fun c=>W.ah (aq TE .rem 3 c x1) fun d=>R [d] m m.n)
(W.ah (aq TE .rem 3 x0 x1) fun f=>R [f] m m.n)):=by kernel_rfl
set_option maxRecDepth 100000 in
theorem YV{W:Words}{x0 x1:Value}{m:M}{R:List Value->M->Nat->Prop}:dt TE W Tryz.f53 [x0,x1] m R=
(W.bW (M.push m (.cells (cells x1) 85 none)) fun a=>W.bW (M.push a (.cells [(.int .i64 0),(.int .i64 0),(.int .i64 0),(.slice none 0 0),(.int .i64 0),(.int .i64 0)] 87 none)) fun b=>W.ah (ai TE 85 (ptrTo m.n) (.int .i64 0)) fun c=>W.ah (ag TE b 3 c) fun d=>W.bz (.func 54) [d,(.int .i64 9)] b fun f g h=>W.ah (aq TE .mul 3 (.int .i64 4) f) fun i=>W.ah (ai TE 85 (ptrTo m.n) (.int .i64 1)) fun j=>W.ah (ag TE g 3 j) fun k=>W.bz (.func 54) [k,(.int .i64 6)] g fun l n o=>W.ah (aq TE .mul 3 (.int .i64 4) l) fun p=>W.ah (ai TE 85 (ptrTo m.n) (.int .i64 2)) fun q=>W.ah (ag TE n 3 q) fun r=>W.bz (.func 54) [r,(.int .i64 4)] n fun s t u=>W.ah (aq TE .add 3 (.int .i64 1) s) fun v=>W.ah (aq TE .mul 3 (.int .i64 4) v) fun w=>W.ah (aq TE .add 3 i w) fun y=>W.aK (an TE t .min [3,3] [y,(.int .i64 40)]) fun z _=>W.ah (ai TE 85 (ptrTo m.n) (.int .i64 3)) fun A=>W.ah (ag TE t 3 A) fun B=>W.bz (.func 54) [B,(.int .i64 2)] t fun C D E=>W.ah (aq TE .add 3 (.int .i64 1) C) fun F=>W.ah (aq TE .mul 3 (.int .i64 4) F) fun G=>W.ah (aq TE .add 3 p G) fun H=>W.ah (aO TE 98 [(0,i),(1,p)]) fun I=>W.ah (aO TE 98 [(0,z),(1,p)]) fun J=>W.ah (aO TE 98 [(0,z),(1,H)]) fun K=>W.ah (aO TE 98 [(0,i),(1,H)]) fun L=>W.aK (az TE D 45 4 [(0,I),(1,J),(2,K),(3,L)]) fun N O=>W.ah (ai TE 85 (ptrTo m.n) (.int .i64 4)) fun P=>W.ah (ag TE O 3 P) fun Q=>W.bz (.func 54) [Q,(.int .i64 8)] O fun S T U=>W.ah (aq TE .eql 3 S (.int .i64 4)) fun V=>aW V
(W.ah (aq TE .sub 3 z (.int .i64 1)) fun X=>W.ah (ai TE 45 N (.int .i64 2)) fun Y=>W.ah (ae TE 98 Y 0) fun Z=>W.aK (aw TE T 3 Z X) fun a0 a1=>W.ah (aq TE .add 3 i (.int .i64 1)) fun a2=>W.ah (ai TE 45 N (.int .i64 3)) fun a3=>W.ah (ae TE 98 a3 0) fun a4=>W.aK (aw TE a0 3 a4 a2) fun a5 a6=>W.ah (ai TE 85 (ptrTo m.n) (.int .i64 5)) fun a7=>W.ah (ag TE a5 3 a7) fun a8=>W.bz (.func 54) [a8,(.int .i64 4)] a5 fun a9 b0 b1=>W.ah (aq TE .eql 3 a9 (.int .i64 3)) fun b2=>aW b2
(W.ah (ai TE 85 (ptrTo m.n) (.int .i64 5)) fun b3=>W.ah (ag TE b0 3 b3) fun b4=>W.ah (aq TE .quo 3 b4 (.int .i64 4)) fun b5=>W.bz (.func 54) [b5,(.int .i64 4)] b0 fun b6 b7 b8=>W.ah (aq TE .add 3 b6 (.int .i64 1)) fun b9=>W.ah (ai TE 85 (ptrTo m.n) (.int .i64 5)) fun c0=>W.ah (ag TE b7 3 c0) fun c1=>W.ah (aq TE .quo 3 c1 (.int .i64 16)) fun c2=>W.bz (.func 54) [c2,(.int .i64 4)] b7 fun c3 c4 c5=>W.ah (aq TE .add 3 b9 c3) fun c6=>W.bz (.func 54) [x0,(.int .i64 100)] c4 fun c7 c8 c9=>(M.n c4<=c9)/\(W.ah (ai TE 85 (ptrTo m.n) (.int .i64 5)) fun d0=>W.ah (ag TE c8 3 d0) fun d1=>W.ah (aq TE .quo 3 d1 (.int .i64 64)) fun d2=>W.bz (.func 54) [d2,(.int .i64 8)] c8 fun d3 d4 d5=>(M.n c8<=d5)/\(W.ah (aq TE .add 3 (.int .i64 1) d3) fun d6=>W.ah (ai TE 85 (ptrTo m.n) (.int .i64 5)) fun d7=>W.ah (ag TE d4 3 d7) fun d8=>W.ah (aq TE .quo 3 d8 (.int .i64 512)) fun d9=>W.bz (.func 54) [d9,(.int .i64 8)] d4 fun g0 g1 g2=>W.ah (aO TE 87 [(0,c7),(1,d6),(2,g0),(3,N),(4,b6),(5,c6)]) fun g3=>W.aK (aw TE g1 87 (ptrTo a.n) g3) fun g4 g5=>ah (ag TE g4 87 (ptrTo a.n)) fun g6=>R [g6] g4 (min (min (min (min (min (min (min (min (min (min (min (min (min (min m.n h) o) u) E) U) a1) a6) b1) b8) c5) c9) d5) g2) g5))))
(W.bz (.func 54) [x0,(.int .i64 100)] b0 fun g7 g8 g9=>(M.n b0<=g9)/\(W.ah (ai TE 85 (ptrTo m.n) (.int .i64 5)) fun h0=>W.ah (ag TE g8 3 h0) fun h1=>W.ah (aq TE .quo 3 h1 (.int .i64 64)) fun h2=>W.bz (.func 54) [h2,(.int .i64 8)] g8 fun h3 h4 h5=>(M.n g8<=h5)/\(W.ah (aq TE .add 3 (.int .i64 1) h3) fun h6=>W.ah (ai TE 85 (ptrTo m.n) (.int .i64 5)) fun h7=>W.ah (ag TE h4 3 h7) fun h8=>W.ah (aq TE .quo 3 h8 (.int .i64 512)) fun h9=>W.bz (.func 54) [h9,(.int .i64 8)] h4 fun i0 i1 i2=>W.ah (aO TE 87 [(0,g7),(1,h6),(2,i0),(3,N),(4,(.int .i64 0)),(5,(.int .i64 4))]) fun i3=>W.aK (aw TE i1 87 (ptrTo a.n) i3) fun i4 i5=>ah (ag TE i4 87 (ptrTo a.n)) fun i6=>R [i6] i4 (min (min (min (min (min (min (min (min (min (min (min (min m.n h) o) u) E) U) a1) a6) b1) g9) h5) i2) i5)))))
(W.ah (aq TE .eql 3 S (.int .i64 5)) fun i7=>aW i7
(W.ah (aq TE .add 3 i (.int .i64 1)) fun i8=>W.ah (ai TE 45 N (.int .i64 0)) fun i9=>W.ah (ae TE 98 i9 0) fun j0=>W.aK (aw TE T 3 j0 i8) fun j1 j2=>W.ah (aq TE .sub 3 z (.int .i64 1)) fun j3=>W.ah (ai TE 45 N (.int .i64 1)) fun j4=>W.ah (ae TE 98 j4 0) fun j5=>W.aK (aw TE j1 3 j5 j3) fun j6 j7=>W.ah (ai TE 85 (ptrTo m.n) (.int .i64 5)) fun j8=>W.ah (ag TE j6 3 j8) fun j9=>W.bz (.func 54) [j9,(.int .i64 4)] j6 fun k0 k1 k2=>W.ah (aq TE .eql 3 k0 (.int .i64 3)) fun k3=>aW k3
(W.ah (ai TE 85 (ptrTo m.n) (.int .i64 5)) fun k4=>W.ah (ag TE k1 3 k4) fun k5=>W.ah (aq TE .quo 3 k5 (.int .i64 4)) fun k6=>W.bz (.func 54) [k6,(.int .i64 4)] k1 fun k7 k8 k9=>W.ah (aq TE .add 3 k7 (.int .i64 1)) fun l0=>W.ah (ai TE 85 (ptrTo m.n) (.int .i64 5)) fun l1=>W.ah (ag TE k8 3 l1) fun l2=>W.ah (aq TE .quo 3 l2 (.int .i64 16)) fun l3=>W.bz (.func 54) [l3,(.int .i64 4)] k8 fun l4 l5 l6=>W.ah (aq TE .add 3 l0 l4) fun l7=>W.bz (.func 54) [x0,(.int .i64 100)] l5 fun l8 l9 n0=>(M.n l5<=n0)/\(W.ah (ai TE 85 (ptrTo m.n) (.int .i64 5)) fun n1=>W.ah (ag TE l9 3 n1) fun n2=>W.ah (aq TE .quo 3 n2 (.int .i64 64)) fun n3=>W.bz (.func 54) [n3,(.int .i64 8)] l9 fun n4 n5 n6=>(M.n l9<=n6)/\(W.ah (aq TE .add 3 (.int .i64 1) n4) fun n7=>W.ah (ai TE 85 (ptrTo m.n) (.int .i64 5)) fun n8=>W.ah (ag TE n5 3 n8) fun n9=>W.ah (aq TE .quo 3 n9 (.int .i64 512)) fun o0=>W.bz (.func 54) [o0,(.int .i64 8)] n5 fun o1 o2 o3=>W.ah (aO TE 87 [(0,l8),(1,n7),(2,o1),(3,N),(4,k7),(5,l7)]) fun o4=>W.aK (aw TE o2 87 (ptrTo a.n) o4) fun o5 o6=>ah (ag TE o5 87 (ptrTo a.n)) fun o7=>R [o7] o5 (min (min (min (min (min (min (min (min (min (min (min (min (min (min m.n h) o) u) E) U) j2) j7) k2) k9) l6) n0) n6) o3) o6))))
(W.bz (.func 54) [x0,(.int .i64 100)] k1 fun o8 o9 p0=>(M.n k1<=p0)/\(W.ah (ai TE 85 (ptrTo m.n) (.int .i64 5)) fun p1=>W.ah (ag TE o9 3 p1) fun p2=>W.ah (aq TE .quo 3 p2 (.int .i64 64)) fun p3=>W.bz (.func 54) [p3,(.int .i64 8)] o9 fun p4 p5 p6=>(M.n o9<=p6)/\(W.ah (aq TE .add 3 (.int .i64 1) p4) fun p7=>W.ah (ai TE 85 (ptrTo m.n) (.int .i64 5)) fun p8=>W.ah (ag TE p5 3 p8) fun p9=>W.ah (aq TE .quo 3 p9 (.int .i64 512)) fun q0=>W.bz (.func 54) [q0,(.int .i64 8)] p5 fun q1 q2 q3=>W.ah (aO TE 87 [(0,o8),(1,p7),(2,q1),(3,N),(4,(.int .i64 0)),(5,(.int .i64 4))]) fun q4=>W.aK (aw TE q2 87 (ptrTo a.n) q4) fun q5 q6=>ah (ag TE q5 87 (ptrTo a.n)) fun q7=>R [q7] q5 (min (min (min (min (min (min (min (min (min (min (min (min m.n h) o) u) E) U) j2) j7) k2) p0) p6) q3) q6)))))
(W.ah (aq TE .eql 3 S (.int .i64 6)) fun q8=>aW q8
(W.ah (ai TE 45 N (.int .i64 0)) fun q9=>W.ah (ag TE T 98 q9) fun r0=>W.ah (ai TE 45 N (.int .i64 1)) fun r1=>W.ah (ag TE T 98 r1) fun r2=>W.ah (ai TE 45 N (.int .i64 2)) fun r3=>W.ah (ag TE T 98 r3) fun r4=>W.aK (az TE T 45 3 [(0,r0),(1,r2),(2,r4)]) fun r5 r6=>W.ah (ai TE 85 (ptrTo m.n) (.int .i64 5)) fun r7=>W.ah (ag TE r6 3 r7) fun r8=>W.bz (.func 54) [r8,(.int .i64 4)] r6 fun r9 s0 s1=>W.ah (aq TE .eql 3 r9 (.int .i64 3)) fun s2=>aW s2
(W.ah (ai TE 85 (ptrTo m.n) (.int .i64 5)) fun s3=>W.ah (ag TE s0 3 s3) fun s4=>W.ah (aq TE .quo 3 s4 (.int .i64 4)) fun s5=>W.bz (.func 54) [s5,(.int .i64 4)] s0 fun s6 s7 s8=>W.ah (aq TE .add 3 s6 (.int .i64 1)) fun s9=>W.ah (ai TE 85 (ptrTo m.n) (.int .i64 5)) fun t0=>W.ah (ag TE s7 3 t0) fun t1=>W.ah (aq TE .quo 3 t1 (.int .i64 16)) fun t2=>W.bz (.func 54) [t2,(.int .i64 4)] s7 fun t3 t4 t5=>W.ah (aq TE .add 3 s9 t3) fun t6=>W.bz (.func 54) [x0,(.int .i64 100)] t4 fun t7 t8 t9=>(M.n t4<=t9)/\(W.ah (ai TE 85 (ptrTo m.n) (.int .i64 5)) fun u0=>W.ah (ag TE t8 3 u0) fun u1=>W.ah (aq TE .quo 3 u1 (.int .i64 64)) fun u2=>W.bz (.func 54) [u2,(.int .i64 8)] t8 fun u3 u4 u5=>(M.n t8<=u5)/\(W.ah (aq TE .add 3 (.int .i64 1) u3) fun u6=>W.ah (ai TE 85 (ptrTo m.n) (.int .i64 5)) fun u7=>W.ah (ag TE u4 3 u7) fun u8=>W.ah (aq TE .quo 3 u8 (.int .i64 512)) fun u9=>W.bz (.func 54) [u9,(.int .i64 8)] u4 fun v0 v1 v2=>W.ah (aO TE 87 [(0,t7),(1,u6),(2,v0),(3,r5),(4,s6),(5,t6)]) fun v3=>W.aK (aw TE v1 87 (ptrTo a.n) v3) fun v4 v5=>ah (ag TE v4 87 (ptrTo a.n)) fun v6=>R [v6] v4 (min (min (min (min (min (min (min (min (min (min (min (min m.n h) o) u) E) U) s1) s8) t5) t9) u5) v2) v5))))
(W.bz (.func 54) [x0,(.int .i64 100)] s0 fun v7 v8 v9=>(M.n s0<=v9)/\(W.ah (ai TE 85 (ptrTo m.n) (.int .i64 5)) fun w0=>W.ah (ag TE v8 3 w0) fun w1=>W.ah (aq TE .quo 3 w1 (.int .i64 64)) fun w2=>W.bz (.func 54) [w2,(.int .i64 8)] v8 fun w3 w4 w5=>(M.n v8<=w5)/\(W.ah (aq TE .add 3 (.int .i64 1) w3) fun w6=>W.ah (ai TE 85 (ptrTo m.n) (.int .i64 5)) fun w7=>W.ah (ag TE w4 3 w7) fun w8=>W.ah (aq TE .quo 3 w8 (.int .i64 512)) fun w9=>W.bz (.func 54) [w9,(.int .i64 8)] w4 fun y0 y1 y2=>W.ah (aO TE 87 [(0,v7),(1,w6),(2,y0),(3,r5),(4,(.int .i64 0)),(5,(.int .i64 4))]) fun y3=>W.aK (aw TE y1 87 (ptrTo a.n) y3) fun y4 y5=>ah (ag TE y4 87 (ptrTo a.n)) fun y6=>R [y6] y4 (min (min (min (min (min (min (min (min (min (min m.n h) o) u) E) U) s1) v9) w5) y2) y5)))))
(W.ah (aq TE .eql 3 S (.int .i64 7)) fun y7=>aW y7
(W.ah (ai TE 45 N (.int .i64 0)) fun y8=>W.ah (ag TE T 98 y8) fun y9=>W.ah (ai TE 45 N (.int .i64 2)) fun z0=>W.ah (ag TE T 98 z0) fun z1=>W.ah (ai TE 45 N (.int .i64 3)) fun z2=>W.ah (ag TE T 98 z2) fun z3=>W.aK (az TE T 45 3 [(0,y9),(1,z1),(2,z3)]) fun z4 z5=>W.ah (ai TE 85 (ptrTo m.n) (.int .i64 5)) fun z6=>W.ah (ag TE z5 3 z6) fun z7=>W.bz (.func 54) [z7,(.int .i64 4)] z5 fun z8 z9 A0=>W.ah (aq TE .eql 3 z8 (.int .i64 3)) fun A1=>aW A1
(W.ah (ai TE 85 (ptrTo m.n) (.int .i64 5)) fun A2=>W.ah (ag TE z9 3 A2) fun A3=>W.ah (aq TE .quo 3 A3 (.int .i64 4)) fun A4=>W.bz (.func 54) [A4,(.int .i64 4)] z9 fun A5 A6 A7=>W.ah (aq TE .add 3 A5 (.int .i64 1)) fun A8=>W.ah (ai TE 85 (ptrTo m.n) (.int .i64 5)) fun A9=>W.ah (ag TE A6 3 A9) fun B0=>W.ah (aq TE .quo 3 B0 (.int .i64 16)) fun B1=>W.bz (.func 54) [B1,(.int .i64 4)] A6 fun B2 B3 B4=>W.ah (aq TE .add 3 A8 B2) fun B5=>W.bz (.func 54) [x0,(.int .i64 100)] B3 fun B6 B7 B8=>(M.n B3<=B8)/\(W.ah (ai TE 85 (ptrTo m.n) (.int .i64 5)) fun B9=>W.ah (ag TE B7 3 B9) fun C0=>W.ah (aq TE .quo 3 C0 (.int .i64 64)) fun C1=>W.bz (.func 54) [C1,(.int .i64 8)] B7 fun C2 C3 C4=>(M.n B7<=C4)/\(W.ah (aq TE .add 3 (.int .i64 1) C2) fun C5=>W.ah (ai TE 85 (ptrTo m.n) (.int .i64 5)) fun C6=>W.ah (ag TE C3 3 C6) fun C7=>W.ah (aq TE .quo 3 C7 (.int .i64 512)) fun C8=>W.bz (.func 54) [C8,(.int .i64 8)] C3 fun C9 D0 D1=>W.ah (aO TE 87 [(0,B6),(1,C5),(2,C9),(3,z4),(4,A5),(5,B5)]) fun D2=>W.aK (aw TE D0 87 (ptrTo a.n) D2) fun D3 D4=>ah (ag TE D3 87 (ptrTo a.n)) fun D5=>R [D5] D3 (min (min (min (min (min (min (min (min (min (min (min (min m.n h) o) u) E) U) A0) A7) B4) B8) C4) D1) D4))))
(W.bz (.func 54) [x0,(.int .i64 100)] z9 fun D6 D7 D8=>(M.n z9<=D8)/\(W.ah (ai TE 85 (ptrTo m.n) (.int .i64 5)) fun D9=>W.ah (ag TE D7 3 D9) fun E0=>W.ah (aq TE .quo 3 E0 (.int .i64 64)) fun E1=>W.bz (.func 54) [E1,(.int .i64 8)] D7 fun E2 E3 E4=>(M.n D7<=E4)/\(W.ah (aq TE .add 3 (.int .i64 1) E2) fun E5=>W.ah (ai TE 85 (ptrTo m.n) (.int .i64 5)) fun E6=>W.ah (ag TE E3 3 E6) fun E7=>W.ah (aq TE .quo 3 E7 (.int .i64 512)) fun E8=>W.bz (.func 54) [E8,(.int .i64 8)] E3 fun E9 F0 F1=>W.ah (aO TE 87 [(0,D6),(1,E5),(2,E9),(3,z4),(4,(.int .i64 0)),(5,(.int .i64 4))]) fun F2=>W.aK (aw TE F0 87 (ptrTo a.n) F2) fun F3 F4=>ah (ag TE F3 87 (ptrTo a.n)) fun F5=>R [F5] F3 (min (min (min (min (min (min (min (min (min (min m.n h) o) u) E) U) A0) D8) E4) F1) F4)))))
(W.ah (ai TE 85 (ptrTo m.n) (.int .i64 5)) fun F6=>W.ah (ag TE T 3 F6) fun F7=>W.bz (.func 54) [F7,(.int .i64 4)] T fun F8 F9 G0=>W.ah (aq TE .eql 3 F8 (.int .i64 3)) fun G1=>aW G1
(W.ah (ai TE 85 (ptrTo m.n) (.int .i64 5)) fun G2=>W.ah (ag TE F9 3 G2) fun G3=>W.ah (aq TE .quo 3 G3 (.int .i64 4)) fun G4=>W.bz (.func 54) [G4,(.int .i64 4)] F9 fun G5 G6 G7=>W.ah (aq TE .add 3 G5 (.int .i64 1)) fun G8=>W.ah (ai TE 85 (ptrTo m.n) (.int .i64 5)) fun G9=>W.ah (ag TE G6 3 G9) fun H0=>W.ah (aq TE .quo 3 H0 (.int .i64 16)) fun H1=>W.bz (.func 54) [H1,(.int .i64 4)] G6 fun H2 H3 H4=>W.ah (aq TE .add 3 G8 H2) fun H5=>W.bz (.func 54) [x0,(.int .i64 100)] H3 fun H6 H7 H8=>(M.n H3<=H8)/\(W.ah (ai TE 85 (ptrTo m.n) (.int .i64 5)) fun H9=>W.ah (ag TE H7 3 H9) fun I0=>W.ah (aq TE .quo 3 I0 (.int .i64 64)) fun I1=>W.bz (.func 54) [I1,(.int .i64 8)] H7 fun I2 I3 I4=>(M.n H7<=I4)/\(W.ah (aq TE .add 3 (.int .i64 1) I2) fun I5=>W.ah (ai TE 85 (ptrTo m.n) (.int .i64 5)) fun I6=>W.ah (ag TE I3 3 I6) fun I7=>W.ah (aq TE .quo 3 I7 (.int .i64 512)) fun I8=>W.bz (.func 54) [I8,(.int .i64 8)] I3 fun I9 J0 J1=>W.ah (aO TE 87 [(0,H6),(1,I5),(2,I9),(3,N),(4,G5),(5,H5)]) fun J2=>W.aK (aw TE J0 87 (ptrTo a.n) J2) fun J3 J4=>ah (ag TE J3 87 (ptrTo a.n)) fun J5=>R [J5] J3 (min (min (min (min (min (min (min (min (min (min (min (min m.n h) o) u) E) U) G0) G7) H4) H8) I4) J1) J4))))
(W.bz (.func 54) [x0,(.int .i64 100)] F9 fun J6 J7 J8=>(M.n F9<=J8)/\(W.ah (ai TE 85 (ptrTo m.n) (.int .i64 5)) fun J9=>W.ah (ag TE J7 3 J9) fun K0=>W.ah (aq TE .quo 3 K0 (.int .i64 64)) fun K1=>W.bz (.func 54) [K1,(.int .i64 8)] J7 fun K2 K3 K4=>(M.n J7<=K4)/\(W.ah (aq TE .add 3 (.int .i64 1) K2) fun K5=>W.ah (ai TE 85 (ptrTo m.n) (.int .i64 5)) fun K6=>W.ah (ag TE K3 3 K6) fun K7=>W.ah (aq TE .quo 3 K7 (.int .i64 512)) fun K8=>W.bz (.func 54) [K8,(.int .i64 8)] K3 fun K9 L0 L1=>W.ah (aO TE 87 [(0,J6),(1,K5),(2,K9),(3,N),(4,(.int .i64 0)),(5,(.int .i64 4))]) fun L2=>W.aK (aw TE L0 87 (ptrTo a.n) L2) fun L3 L4=>ah (ag TE L3 87 (ptrTo a.n)) fun L5=>R [L5] L3 (min (min (min (min (min (min (min (min (min (min m.n h) o) u) E) U) G0) J8) K4) L1) L4))))))))):=by kernel_rfl
set_option maxRecDepth 100000 in
theorem YW{W:Words}{x0 x1:Value}{m:M}{R:List Value->M->Nat->Prop}:dt TE W Tryz.f52 [x0,x1] m R=
(W.bW (M.push m (.cells (cells x0) 31 none)) fun a=>W.bW (M.push a (.cells (cells x1) 87 none)) fun b=>W.bW (M.push b (.cells [(.slice none 0 0)] 31 none)) fun c=>W.ah (ag TE c 31 (ptrTo m.n)) fun d=>W.bz (.func 61) [d] c fun f g h=>W.ah (fK .not f) fun i=>aW i
(W.ah (aO TE 31 []) fun j=>W.aK (aw TE g 31 (ptrTo b.n) j) fun k l=>ah (ag TE k 31 (ptrTo b.n)) fun n=>R [n,(.int .i64 120)] k (min (min m.n h) l))
(W.bW (M.push g (.cells [(.slice none 0 0)] 31 none)) fun o=>W.Lp (fun p q r s=>W.un q fun t u=>W.un u fun v w=>W.ah (ae TE 31 (ptrTo m.n) 0) fun y=>W.ah (ag TE r 29 y) fun z=>W.aK (an TE r .len [29] [z]) fun A _=>W.ah (aq TE .lss 3 v A) fun B=>aW B
(W.jn (fun C=>W.ah (fK .not t) fun D=>aW D
(W.ah (ae TE 31 (ptrTo m.n) 0) fun E=>W.ah (ag TE r 29 E) fun F=>W.ah (ai TE 29 F v) fun G=>W.ah (ae TE 87 G 0) fun H=>W.ah (ag TE r 3 H) fun I=>W.ah (ae TE 87 (ptrTo a.n) 0) fun J=>W.ah (ag TE r 3 J) fun K=>W.ah (aq TE .gtr 3 I K) fun L=>C [L] r s)
(C [(.bool false)] r s))
(fun N O P=>W.un N fun Q S=>aW Q
(W.ah (ae TE 31 (ptrTo g.n) 0) fun T=>W.ah (ag TE O 29 T) fun U=>W.ah (ag TE O 87 (ptrTo a.n)) fun V=>W.bz (.func 57) [V] O fun X Y Z=>(M.n O<=Z)/\(W.aK (az TE Y 29 1 [(0,X)]) fun a0 a1=>W.aK (an TE (M.wl a1 a1.n) .append [29,29] [U,a0]) fun a2 a3=>W.ah (ae TE 31 (ptrTo g.n) 0) fun a4=>W.aK (aw TE a3 29 a4 a2) fun a5 a6=>W.ah (ae TE 31 (ptrTo g.n) 0) fun a7=>W.ah (ag TE a5 29 a7) fun a8=>W.ah (ae TE 31 (ptrTo m.n) 0) fun a9=>W.ah (ag TE a5 29 a9) fun b0=>W.ah (ai TE 29 b0 v) fun b1=>W.ah (ag TE a5 87 b1) fun b2=>W.bz (.func 57) [b2] a5 fun b3 b4 b5=>(M.n a5<=b5)/\(W.aK (az TE b4 29 1 [(0,b3)]) fun b6 b7=>W.aK (an TE (M.wl b7 b7.n) .append [29,29] [a8,b6]) fun b8 b9=>W.ah (ae TE 31 (ptrTo g.n) 0) fun c0=>W.aK (aw TE b9 29 c0 b8) fun c1 c2=>W.ah (aq TE .add 3 v (.int .i64 1)) fun c3=>p [(.bool true),c3] c1 (min (min (min (min (min (min P Z) (M.low a3)) a6) b5) (M.low b9)) c2))))
(W.ah (ae TE 31 (ptrTo g.n) 0) fun c4=>W.ah (ag TE O 29 c4) fun c5=>W.ah (ae TE 31 (ptrTo m.n) 0) fun c6=>W.ah (ag TE O 29 c6) fun c7=>W.ah (ai TE 29 c7 v) fun c8=>W.ah (ag TE O 87 c8) fun c9=>W.bz (.func 57) [c9] O fun d0 d1 d2=>(M.n O<=d2)/\(W.aK (az TE d1 29 1 [(0,d0)]) fun d3 d4=>W.aK (an TE (M.wl d4 d4.n) .append [29,29] [c5,d3]) fun d5 d6=>W.ah (ae TE 31 (ptrTo g.n) 0) fun d7=>W.aK (aw TE d6 29 d7 d5) fun d8 d9=>W.ah (aq TE .add 3 v (.int .i64 1)) fun g0=>p [t,g0] d8 (min (min (min P d2) (M.low d6)) d9)))))
(W.ah (fK .not t) fun g1=>aW g1
(W.ah (ae TE 31 (ptrTo g.n) 0) fun g2=>W.ah (ag TE r 29 g2) fun g3=>W.ah (ag TE r 87 (ptrTo a.n)) fun g4=>W.bz (.func 57) [g4] r fun g5 g6 g7=>(M.n r<=g7)/\(W.aK (az TE g6 29 1 [(0,g5)]) fun g8 g9=>W.aK (an TE (M.wl g9 g9.n) .append [29,29] [g3,g8]) fun h0 h1=>W.ah (ae TE 31 (ptrTo g.n) 0) fun h2=>W.aK (aw TE h1 29 h2 h0) fun h3 h4=>W.ah (ag TE h3 31 (ptrTo g.n)) fun h5=>W.bz (.func 61) [h5] h3 fun h6 h7 h8=>W.ah (fK .not h6) fun h9=>aW h9
(W.ah (aO TE 31 []) fun i0=>W.aK (aw TE h7 31 (ptrTo b.n) i0) fun i1 i2=>ah (ag TE i1 31 (ptrTo b.n)) fun i3=>R [i3,(.int .i64 120)] i1 (min (min (min (min (min s g7) (M.low h1)) h4) h8) i2))
(W.ah (ag TE h7 31 (ptrTo g.n)) fun i4=>W.aK (aw TE h7 31 (ptrTo b.n) i4) fun i5 i6=>ah (ag TE i5 31 (ptrTo b.n)) fun i7=>R [i7,(.int .i64 0)] i5 (min (min (min (min (min s g7) (M.low h1)) h4) h8) i6))))
(W.ah (ag TE r 31 (ptrTo g.n)) fun i8=>W.bz (.func 61) [i8] r fun i9 j0 j1=>W.ah (fK .not i9) fun j2=>aW j2
(W.ah (aO TE 31 []) fun j3=>W.aK (aw TE j0 31 (ptrTo b.n) j3) fun j4 j5=>ah (ag TE j4 31 (ptrTo b.n)) fun j6=>R [j6,(.int .i64 120)] j4 (min (min s j1) j5))
(W.ah (ag TE j0 31 (ptrTo g.n)) fun j7=>W.aK (aw TE j0 31 (ptrTo b.n) j7) fun j8 j9=>ah (ag TE j8 31 (ptrTo b.n)) fun k0=>R [k0,(.int .i64 0)] j8 (min (min s j1) j9))))) [(.bool false),(.int .i64 0)] o (min m.n h))):=by kernel_rfl
set_option maxRecDepth 100000 in
theorem F9{W:Words}{x0:Value}{m:M}{R:List Value->M->Nat->Prop}:dt TE W Tryz.f9 [x0] m R=
(W.bW (M.push m (.cells [(.slice none 0 0)] 31 none)) fun a=>W.bW (M.push a (.cells [(.slice none 0 0)] 31 none)) fun b=>W.Lp (fun c d f g=>W.un d fun h i=>W.jn (fun j=>W.aK (an TE f .len [22] [x0]) fun k _=>W.ah (aq TE .lss 3 h k) fun l=>aW l
(W.ah (aq TE .lss 3 h (.int .i64 12)) fun n=>j [n] f g)
(j [(.bool false)] f g))
(fun o p q=>W.un o fun r s=>aW r
(W.ah (ag TE p 31 (ptrTo a.n)) fun t=>W.ah (aq TE .mul 3 (.int .i64 3) h) fun u=>W.ah (ai TE 22 x0 h) fun v=>W.ah (ai TE 85 v (.int .i64 5)) fun w=>W.ah (ag TE p 3 w) fun y=>W.bz (.func 54) [y,(.int .i64 3)] p fun z A B=>(M.n p<=B)/\(W.ah (aq TE .add 3 u z) fun C=>W.ah (ai TE 22 x0 h) fun D=>W.ah (ag TE A 85 D) fun E=>W.bz (.func 53) [C,E] A fun F G H=>(M.n A<=H)/\(W.bz (.func 52) [t,F] G fun I J K=>(M.n G<=K)/\(W.ah (cj I 0) fun L=>W.ah (cj I 1) fun N=>W.bW (M.push J (.cells [(.slice none 0 0)] 31 none)) fun O=>W.aK (aw TE O 31 (ptrTo J.n) L) fun P Q=>W.ah (aq TE .eql 35 N (.int .i64 0)) fun S=>aW S
(W.ah (ag TE P 31 (ptrTo J.n)) fun T=>W.aK (aw TE P 31 (ptrTo a.n) T) fun U V=>W.ah (aq TE .add 3 h (.int .i64 1)) fun X=>c [X] U (min (min (min (min (min q B) H) K) Q) V))
(W.ah (aq TE .add 3 h (.int .i64 1)) fun Y=>c [Y] P (min (min (min (min q B) H) K) Q))))))
(W.ah (ag TE p 31 (ptrTo a.n)) fun Z=>W.aK (aw TE p 31 (ptrTo m.n) Z) fun a0 a1=>ah (ag TE a0 31 (ptrTo m.n)) fun a2=>R [a2] a0 (min q a1)))) [(.int .i64 0)] b m.n):=by kernel_rfl
set_option maxRecDepth 100000 in
theorem VY{W:Words}{x0 x1:Value}{m:M}{R:List Value->M->Nat->Prop}:dt TE W Tryz.f11 [x0,x1] m R=
(W.bW (M.push m (.cells (cells x0) 31 none)) fun a=>W.bW (M.push a (.cells [(.int .i64 0),(.int .i64 0),(.slice none 0 0)] 27 none)) fun b=>W.ah (ag TE b 31 (ptrTo m.n)) fun c=>W.bz (.func 59) [c] b fun d f g=>W.ah (fK .not d) fun h=>aW h
(W.ah (aO TE 27 []) fun i=>W.aK (aw TE f 27 (ptrTo a.n) i) fun j k=>ah (ag TE j 27 (ptrTo a.n)) fun l=>R [l,(.int .i64 410)] j (min (min m.n g) k))
(W.ah (ag TE f 31 (ptrTo m.n)) fun n=>W.bz (.func 60) [n,x1] f fun o p q=>W.aK (aw TE p 27 (ptrTo a.n) o) fun r s=>ah (ag TE r 27 (ptrTo a.n)) fun t=>R [t,(.int .i64 0)] r (min (min (min m.n g) q) s))):=by kernel_rfl
end Go.Proofs.YtmdfgncoekfgdaaGreatDoor
namespace Go.Proofs.YtmdfgncoekfgdaaGreatDoor
open Go Go.D
set_option maxRecDepth 100000 in
theorem Rx{W:Words}{x0 x1:Value}{m:M}{R:List Value->M->Nat->Prop}:dt TE W Tryz.f102 [x0,x1] m R=
(W.bz (.func 160) [x0,x1] m fun a b c=>W.ah (cj a 0) fun d=>W.ah (cj a 1) fun f=>W.ah (cj a 2) fun g=>W.jn (fun h=>W.bz (.func 157) [x0] b fun i j k=>aW i
(W.bz (.func 157) [x1] j fun l n o=>aW l
(W.ah (fK .not g) fun p=>h [p] n (min (min (min m.n c) k) o))
(h [(.bool false)] n (min (min (min m.n c) k) o)))
(h [(.bool false)] j (min (min m.n c) k)))
(fun q r s=>W.un q fun t u=>R [t] r s)):=by kernel_rfl
set_option maxRecDepth 100000 in
theorem Q9{W:Words}{x0 x1:Value}{m:M}{R:List Value->M->Nat->Prop}:dt TE W Tryz.f160 [x0,x1] m R=
(W.jn (fun a=>W.bz (.func 157) [x0] m fun b c d=>W.ah (fK .not b) fun f=>aW f
(a [(.bool true)] c (min m.n d))
(W.bz (.func 157) [x1] c fun g h i=>W.ah (fK .not g) fun j=>a [j] h (min (min m.n d) i)))
(fun k l n=>W.un k fun o p=>aW o
(R [(.int .i64 0),(.int .i64 0),(.bool false)] l n)
(W.bz (.func 214) [x0,x1] l fun q r s=>W.ah (aq TE .geq 3 q (.int .i64 0)) fun t=>aW t
(R [(.int .i64 0),q,(.bool true)] r (min n s))
(W.bz (.func 214) [x1,x0] r fun u v w=>W.ah (aq TE .geq 3 u (.int .i64 0)) fun y=>aW y
(R [(.int .i64 1),u,(.bool true)] v (min (min n s) w))
(R [(.int .i64 0),(.int .i64 0),(.bool false)] v (min (min n s) w)))))):=by kernel_rfl
set_option maxRecDepth 100000 in
theorem QT{W:Words}{x0 x1:Value}{m:M}{R:List Value->M->Nat->Prop}:dt TE W Tryz.f214 [x0,x1] m R=
(W.bW (M.push m (.cells (cells x1) 45 none)) fun a=>W.bW (M.push a (.cells [(.int .i64 0)] 3 none)) fun b=>W.bW (M.push b (.cells [(.int .i64 0)] 3 none)) fun c=>W.aK (aw TE c 3 (ptrTo b.n) (.int .i64 0)) fun d f=>W.bz (.func 158) [x0] d fun g h i=>oG g fun j k l=>W.RF j k.toList l.toList h (min (min m.n f) i) (fun n o p=>W.un n fun q r=>W.un r fun s t=>W.zD t (W.bW (M.push o (.cells [(.int .i64 0),(.int .i64 0)] 98 none)) fun u=>W.aK (aw TE u 98 (ptrTo o.n) q) fun v w=>W.bW (M.push v (.cells [(.int .i64 0),(.int .i64 0)] 98 none)) fun y=>W.aK (aw TE y 98 (ptrTo v.n) s) fun z A=>W.Kq h.n o z fun B=>W.ah (ag TE B 45 (ptrTo m.n)) fun C=>W.bz (.func 211) [C,(.func (.func 302) #[] #[(ptrTo o.n),(ptrTo v.n)])] B fun D E F=>W.ah (fK .not D) fun G=>aW G
(W.ah (ag TE E 3 (ptrTo b.n)) fun H=>W.aK (aw TE E 3 (ptrTo a.n) H) fun I J=>p B .ret I (min (min (min (min (min o.n w) A) h.n) F) J))
(W.ah (ag TE E 3 (ptrTo b.n)) fun K=>W.ah (aq TE .add 3 K (.int .i64 1)) fun L=>W.aK (aw TE E 3 (ptrTo b.n) L) fun N O=>p B .normal N (min (min (min (min (min o.n w) A) h.n) F) O)))) (fun P Q=>W.aK (aw TE P 3 (ptrTo a.n) (.int .i64 (-1))) fun S T=>ah (ag TE S 3 (ptrTo a.n)) fun U=>R [U] S (min Q T)) [(.ret,fun V X=>ah (ag TE V 3 (ptrTo a.n)) fun Y=>R [Y] V X)]):=by kernel_rfl
set_option maxRecDepth 100000 in
theorem QR{W:Words}{x0 x1 x2:Value}{m:M}{R:List Value->M->Nat->Prop}:dt TE W Tryz.f302 [x0,x1,x2] m R=
(W.bW (M.push m (.cells (cells x0) 98 none)) fun a=>W.ah (ag TE a 98 x1) fun b=>W.ah (ag TE a 98 x2) fun c=>W.ah (ag TE a 98 (ptrTo m.n)) fun d=>W.bz (.func 159) [b,c,d] a fun f g h=>W.ah (aq TE .gtr 3 f (.int .i64 0)) fun i=>R [i] g (min m.n h)):=by kernel_rfl
end Go.Proofs.YtmdfgncoekfgdaaGreatDoor
namespace Go.pd
structure V where
 x:Int
 y:Int
 w:Int
def V.dot(f p:V):Int:=f.x*p.x+f.y*p.y+f.w*p.w
def ji(p q r:V):Int:=p.x*(q.y*r.w-q.w*r.y)-p.y*(q.x*r.w-q.w*r.x)+p.w*(q.x*r.y-q.y*r.x)
theorem NW{p q r s:V}(hp:0 < p.w):∃a b c d:Int,(a≠0\/b≠0\/c≠0\/d≠0)/\a*p.x+b*q.x+c*r.x+d*s.x=0/\a*p.y+b*q.y+c*r.y+d*s.y=0/\a*p.w+b*q.w+c*r.w+d*s.w=0:=by
 by_cases h0:ji q r s=0/\ji p r s=0/\ji p q s=0/\ji p q r=0
 ·have hd:=h0.2.2.2
  unfold ji at hd
  by_cases h1:q.x*r.w-r.x*q.w=0/\r.x*p.w-p.x*r.w=0/\p.x*q.w-q.x*p.w=0
  ·by_cases h2:q.y*r.w-r.y*q.w=0/\r.y*p.w-p.y*r.w=0/\p.y*q.w-q.y*p.w=0
   ·exact⟨q.w, -p.w,0,0,.inr (.inl (by omega)),by grind,by grind,by grind⟩
   ·exact⟨q.y*r.w-r.y*q.w,r.y*p.w-p.y*r.w,p.y*q.w-q.y*p.w,0,by grind,by grind,by grind,by grind⟩
  ·exact⟨q.x*r.w-r.x*q.w,r.x*p.w-p.x*r.w,p.x*q.w-q.x*p.w,0,by grind,by grind,by grind,by grind⟩
 ·exact⟨ji q r s,-ji p r s,ji p q s,-ji p q r,by grind,by unfold ji;grind,by unfold ji;grind,by unfold ji;grind⟩
theorem qB{A B C D u v w z:Int}(hA:0<=A)(hB:0<=B)(hC:0<=C)(hD:0<=D)(hs:0 < A\/0 < B\/0 < C\/0 < D)(hu:A≠0->0 < u)(hv:B≠0->0 < v)(hw:C≠0->0 < w)(hz:D≠0->0 < z):0 < A*u+B*v+C*w+D*z:=by
 have k:∀{a b:Int},0<=a->(a≠0->0 < b)->0<=a*b/\(0 < a->0 < a*b):=fun{a b} h1 h2=>by
  by_cases h:a=0
  ·subst h;simp
  ·exact⟨Int.le_of_lt (Int.mul_pos (by omega) (h2 h)),fun h'=>Int.mul_pos h' (h2 h)⟩
 have k1:=k hA hu
 have k2:=k hB hv
 have k3:=k hC hw
 have k4:=k hD hz
 omega
theorem LM{f0 f1 f2 f3 p0 p1 p2 p3:V}{R:List V}(w0:0 < p0.w)(w1:0 < p1.w)(w2:0 < p2.w)(w3:0 < p3.w)
  (h0:∀f,f=f1\/f=f2\/f=f3\/f∈R->0 < f.dot p0) (h1:∀f,f=f0\/f=f2\/f=f3\/f∈R->0 < f.dot p1)
  (h2:∀f,f=f0\/f=f1\/f=f3\/f∈R->0 < f.dot p2) (h3:∀f,f=f0\/f=f1\/f=f2\/f∈R->0 < f.dot p3):
  ∃q:V,0 < q.w/\∀f,f=f0\/f=f1\/f=f2\/f=f3\/f∈R->0 < f.dot q:=by
 obtain⟨a,b,c,d,hn,hx,hy,hw⟩:=NW (q:=p1) (r:=p2) (s:=p3) w0
 have hpos:0 < a\/0 < b\/0 < c\/0 < d:=Classical.byContradiction fun hc=>by
  have:=qB (A:= -a) (B:= -b) (C:= -c) (D:= -d) (by omega) (by omega) (by omega) (by omega) (by omega) (fun _=>w0) (fun _=>w1) (fun _=>w2) (fun _=>w3)
  simp only[Int.neg_mul]at this
  omega
 have hneg:0 < -a\/0 < -b\/0 < -c\/0 < -d:=Classical.byContradiction fun hc=>by
  have:=qB (A:=a) (B:=b) (C:=c) (D:=d) (by omega) (by omega) (by omega) (by omega) (by omega) (fun _=>w0) (fun _=>w1) (fun _=>w2) (fun _=>w3)
  omega
 obtain⟨A,hA⟩:∃A,A=max a 0:=⟨_,rfl⟩
 obtain⟨B,hB⟩:∃A,A=max b 0:=⟨_,rfl⟩
 obtain⟨C,hC⟩:∃A,A=max c 0:=⟨_,rfl⟩
 obtain⟨D,hD⟩:∃A,A=max d 0:=⟨_,rfl⟩
 have e1:∀f:V,f.dot ⟨A*p0.x+B*p1.x+C*p2.x+D*p3.x,A*p0.y+B*p1.y+C*p2.y+D*p3.y,A*p0.w+B*p1.w+C*p2.w+D*p3.w⟩=A*f.dot p0+B*f.dot p1+C*f.dot p2+D*f.dot p3:=fun f=>by
  unfold V.dot;grind
 have e2:∀f:V,A*f.dot p0+B*f.dot p1+C*f.dot p2+D*f.dot p3=(A-a)*f.dot p0+(B-b)*f.dot p1+(C-c)*f.dot p2+(D-d)*f.dot p3:=fun f=>by
  have:a*f.dot p0+b*f.dot p1+c*f.dot p2+d*f.dot p3=f.x*(a*p0.x+b*p1.x+c*p2.x+d*p3.x)+f.y*(a*p0.y+b*p1.y+c*p2.y+d*p3.y)+f.w*(a*p0.w+b*p1.w+c*p2.w+d*p3.w):=by unfold V.dot;grind
  rw[hx,hy,hw]at this
  simp only[Int.sub_mul]
  omega
 refine⟨⟨A*p0.x+B*p1.x+C*p2.x+D*p3.x,A*p0.y+B*p1.y+C*p2.y+D*p3.y,A*p0.w+B*p1.w+C*p2.w+D*p3.w⟩,?_,fun f hf=>?_⟩
 rotate_left
 ·rw[e1 f]
  rcases hf with rfl |rfl |rfl |rfl |hf
  ·rcases Int.lt_or_le 0 a with ha |ha
   ·rw[e2]
    exact qB (by omega) (by omega) (by omega) (by omega) (by omega) (fun h=>absurd h (by omega)) (fun _=>h1 _ (by simp)) (fun _=>h2 _ (by simp)) (fun _=>h3 _ (by simp))
   ·exact qB (by omega) (by omega) (by omega) (by omega) (by omega) (fun h=>absurd h (by omega)) (fun _=>h1 _ (by simp)) (fun _=>h2 _ (by simp)) (fun _=>h3 _ (by simp))
  ·rcases Int.lt_or_le 0 b with ha |ha
   ·rw[e2]
    exact qB (by omega) (by omega) (by omega) (by omega) (by omega) (fun _=>h0 _ (by simp)) (fun h=>absurd h (by omega)) (fun _=>h2 _ (by simp)) (fun _=>h3 _ (by simp))
   ·exact qB (by omega) (by omega) (by omega) (by omega) (by omega) (fun _=>h0 _ (by simp)) (fun h=>absurd h (by omega)) (fun _=>h2 _ (by simp)) (fun _=>h3 _ (by simp))
  ·rcases Int.lt_or_le 0 c with ha |ha
   ·rw[e2]
    exact qB (by omega) (by omega) (by omega) (by omega) (by omega) (fun _=>h0 _ (by simp)) (fun _=>h1 _ (by simp)) (fun h=>absurd h (by omega)) (fun _=>h3 _ (by simp))
   ·exact qB (by omega) (by omega) (by omega) (by omega) (by omega) (fun _=>h0 _ (by simp)) (fun _=>h1 _ (by simp)) (fun h=>absurd h (by omega)) (fun _=>h3 _ (by simp))
  ·rcases Int.lt_or_le 0 d with ha |ha
   ·rw[e2]
    exact qB (by omega) (by omega) (by omega) (by omega) (by omega) (fun _=>h0 _ (by simp)) (fun _=>h1 _ (by simp)) (fun _=>h2 _ (by simp)) (fun h=>absurd h (by omega))
   ·exact qB (by omega) (by omega) (by omega) (by omega) (by omega) (fun _=>h0 _ (by simp)) (fun _=>h1 _ (by simp)) (fun _=>h2 _ (by simp)) (fun h=>absurd h (by omega))
  ·exact qB (by omega) (by omega) (by omega) (by omega) (by omega) (fun _=>h0 _ (by simp[hf])) (fun _=>h1 _ (by simp[hf])) (fun _=>h2 _ (by simp[hf])) (fun _=>h3 _ (by simp[hf]))
 ·exact qB (by omega) (by omega) (by omega) (by omega) (by omega) (fun _=>w0) (fun _=>w1) (fun _=>w2) (fun _=>w3)
theorem yS:∀(n:Nat) (F:List V),F.length<=n->(∀f∈F,∀g∈F,∀h∈F,∃p:V,0 < p.w/\0 < f.dot p/\0 < g.dot p/\0 < h.dot p)->∃p:V,0 < p.w/\∀f∈F,0 < f.dot p
 |_,[],_,_=>⟨⟨0,0,1⟩,by decide,by simp⟩
 |_,[f],_,h=>by
  obtain⟨p,hp,h1,_,_⟩:=h f (by simp) f (by simp) f (by simp)
  exact⟨p,hp,by simpa using h1⟩
 |_,[f,g],_,h=>by
  obtain⟨p,hp,h1,h2,_⟩:=h f (by simp) g (by simp) g (by simp)
  exact⟨p,hp,by simpa using⟨h1,h2⟩⟩
 |_,[f,g,k],_,h=>by
  obtain⟨p,hp,h1,h2,h3⟩:=h f (by simp) g (by simp) k (by simp)
  exact⟨p,hp,by simpa using⟨h1,h2,h3⟩⟩
 |0,_::_::_::_::_,hl,_=>by simp at hl
 |n+1,f0::f1::f2::f3::R,hl,h=>by
  have hl:R.length+3<=n:=by simp only[List.length_cons]at hl;omega
  obtain⟨p0,w0,k0⟩:=yS n (f1::f2::f3::R) (by simp only[List.length_cons];omega) fun f hf g hg k hk=>h f (.tail _ hf) g (.tail _ hg) k (.tail _ hk)
  have s1:∀f,f∈f0::f2::f3::R->f∈f0::f1::f2::f3::R:=fun f hf=>by simp only[List.mem_cons]at hf⊢;rcases hf with hf |hf |hf |hf <;>simp[hf]
  have s2:∀f,f∈f0::f1::f3::R->f∈f0::f1::f2::f3::R:=fun f hf=>by simp only[List.mem_cons]at hf⊢;rcases hf with hf |hf |hf |hf <;>simp[hf]
  have s3:∀f,f∈f0::f1::f2::R->f∈f0::f1::f2::f3::R:=fun f hf=>by simp only[List.mem_cons]at hf⊢;rcases hf with hf |hf |hf |hf <;>simp[hf]
  obtain⟨p1,w1,k1⟩:=yS n (f0::f2::f3::R) (by simp only[List.length_cons];omega) fun f hf g hg k hk=>h f (s1 f hf) g (s1 g hg) k (s1 k hk)
  obtain⟨p2,w2,k2⟩:=yS n (f0::f1::f3::R) (by simp only[List.length_cons];omega) fun f hf g hg k hk=>h f (s2 f hf) g (s2 g hg) k (s2 k hk)
  obtain⟨p3,w3,k3⟩:=yS n (f0::f1::f2::R) (by simp only[List.length_cons];omega) fun f hf g hg k hk=>h f (s3 f hf) g (s3 g hg) k (s3 k hk)
  obtain⟨q,wq,kq⟩:=LM (f0:=f0) (f1:=f1) (f2:=f2) (f3:=f3) (R:=R) w0 w1 w2 w3 (fun f hf=>k0 f (by simpa using hf)) (fun f hf=>k1 f (by simpa using hf)) (fun f hf=>k2 f (by simpa using hf)) (fun f hf=>k3 f (by simpa using hf))
  exact⟨q,wq,fun f hf=>kq f (by simpa using hf)⟩
def V.go(p:V)(D N:Int)(d:V):V:=⟨D*p.x+N*d.x,D*p.y+N*d.y,D*p.w+N*d.w⟩
theorem kU(f p d:V)(D N:Int):f.dot (p.go D N d)=D*f.dot p+N*f.dot d:=by unfold V.dot V.go;grind
theorem ratio(p d:V):∀(L:List V),(∀f∈L,0<=f.dot p)->(∃f∈L,f.dot d < 0)->∃i∈L,i.dot d < 0/\∀j∈L,j.dot d < 0->i.dot p*(-(j.dot d))<=j.dot p*(-(i.dot d))
 |[],_,h=>by obtain⟨f,hf,_⟩:=h;cases hf
 |f::L,hp,h=>by
  by_cases hL:∃g∈L,g.dot d < 0
  ·obtain⟨i,hi,h1,h2⟩:=ratio p d L (fun g hg=>hp g (.tail _ hg)) hL
   by_cases hf:f.dot d < 0
   ·by_cases hc:i.dot p*(-(f.dot d))<=f.dot p*(-(i.dot d))
    ·refine⟨i,.tail _ hi,h1,fun j hj hd=>?_⟩
     rcases List.mem_cons.1 hj with rfl |hj
     ·exact hc
     ·exact h2 j hj hd
    ·refine⟨f,.head _,hf,fun j hj hd=>?_⟩
     rcases List.mem_cons.1 hj with rfl |hj
     ·exact Int.le_refl _
     ·have h2:=h2 j hj hd
      have hc:f.dot p*(-(i.dot d))<=i.dot p*(-(f.dot d)):=by omega
      generalize f.dot p=fp at*
      generalize i.dot p=ip at*
      generalize j.dot p=jp at*
      generalize f.dot d=fd at*
      generalize i.dot d=id at*
      generalize j.dot d=jd at*
      have a1:(fp*(-id))*(-jd)<=(ip*(-fd))*(-jd):=Int.mul_le_mul_of_nonneg_right hc (by omega)
      have a2:(ip*(-jd))*(-fd)<=(jp*(-id))*(-fd):=Int.mul_le_mul_of_nonneg_right h2 (by omega)
      have a3:(fp*(-jd))*(-id)<=(jp*(-fd))*(-id):=by
       have b1:(fp*(-jd))*(-id)=(fp*(-id))*(-jd):=by grind
       have b2:(ip*(-fd))*(-jd)=(ip*(-jd))*(-fd):=by grind
       have b3:(jp*(-fd))*(-id)=(jp*(-id))*(-fd):=by grind
       omega
      exact Int.le_of_mul_le_mul_right a3 (by omega)
   ·refine⟨i,.tail _ hi,h1,fun j hj hd=>?_⟩
    rcases List.mem_cons.1 hj with rfl |hj
    ·exact absurd hd hf
    ·exact h2 j hj hd
  ·obtain⟨g,hg,hd⟩:=h
   rcases List.mem_cons.1 hg with rfl |hg
   ·refine⟨g,.head _,hd,fun j hj hd'=>?_⟩
    rcases List.mem_cons.1 hj with rfl |hj
    ·exact Int.le_refl _
    ·exact absurd ⟨j,hj,hd'⟩ hL
   ·exact absurd ⟨g,hg,hd⟩ hL
theorem step{L:List V}{p d:V}(hw:0 < p.w)(hd:d.w=0)(hp:∀f∈L,0<=f.dot p)(hb:∃f∈L,f.dot d < 0):
  ∃i∈L,i.dot d < 0/\∃D N:Int,0 < D/\0<=N/\0 < (p.go D N d).w/\(∀f∈L,0<=f.dot (p.go D N d))/\i.dot (p.go D N d)=0:=by
 obtain⟨i,hi,h1,h2⟩:=ratio p d L hp hb
 refine⟨i,hi,h1, -(i.dot d),i.dot p,by omega,hp i hi,?_,fun f hf=>?_,?_⟩
 ·show 0 < -(i.dot d)*p.w+i.dot p*d.w
  rw[hd,Int.mul_zero,Int.add_zero]
  exact Int.mul_pos (by omega) hw
 ·rw[kU]
  by_cases hfd:f.dot d < 0
  ·have:=h2 f hf hfd
   have e1: -(i.dot d)*f.dot p=f.dot p*(-(i.dot d)):=Int.mul_comm _ _
   have e2:i.dot p* -(f.dot d)= -(i.dot p*f.dot d):=Int.mul_neg _ _
   omega
  ·have a1:0<= -(i.dot d)*f.dot p:=Int.mul_nonneg (by omega) (hp f hf)
   have a2:0<=i.dot p*f.dot d:=Int.mul_nonneg (hp i hi) (by omega)
   omega
 ·rw[kU,Int.neg_mul,Int.mul_comm (i.dot p)]
  omega
theorem sq_nonneg(a:Int):0<=a*a:=by
 rcases Int.le_total 0 a with h |h
 ·exact Int.mul_nonneg h h
 ·exact Int.mul_nonneg_of_nonpos_of_nonpos h h
theorem sN{L:List V}(hb:∀d:V,d.w=0->d.x≠0\/d.y≠0->∃f∈L,f.dot d < 0){p:V}(hw:0 < p.w)(hp:∀f∈L,0<=f.dot p)(g:V)(hg:0 < g.dot p):
  ∃i∈L,∃k∈L,∃v:V,0 < v.w/\(∀f∈L,0<=f.dot v)/\i.dot v=0/\k.dot v=0/\i.x*k.y-k.x*i.y≠0/\0 < g.dot v:=by
 obtain⟨d,hd,hd0,hgd⟩:∃d:V,d.w=0/\(d.x≠0\/d.y≠0)/\0<=g.dot d:=by
  by_cases h:g.x=0/\g.y=0
  ·exact⟨⟨1,0,0⟩,rfl,.inl (by decide),by simp[V.dot,h.1]⟩
  ·refine⟨⟨g.x,g.y,0⟩,rfl,by show g.x≠0\/g.y≠0;omega,?_⟩
   have:=sq_nonneg g.x
   have:=sq_nonneg g.y
   show 0<=g.x*g.x+g.y*g.y+g.w*0
   omega
 obtain⟨i,hi,hid,D,N,hD,hN,w1,p1,z1⟩:=step hw hd hp (hb d hd hd0)
 have g1:0 < g.dot (p.go D N d):=by
  rw[kU]
  have:=Int.mul_pos hD hg
  have:=Int.mul_nonneg hN hgd
  omega
 generalize p.go D N d=q at*
 have hi0:i.x≠0\/i.y≠0:=Classical.byContradiction fun hc=>by
  have e1:i.x=0:=by omega
  have e2:i.y=0:=by omega
  simp[V.dot,e1,e2,hd]at hid
 obtain⟨e,he,he0,hge,hie⟩:∃e:V,e.w=0/\(e.x≠0\/e.y≠0)/\0<=g.dot e/\(e=⟨i.y, -i.x,0⟩\/e=⟨-i.y,i.x,0⟩):=by
  rcases Int.le_total 0 (g.x*i.y-g.y*i.x)with h |h
  ·refine⟨⟨i.y, -i.x,0⟩,rfl,by show i.y≠0\/ -i.x≠0;omega,?_,.inl rfl⟩
   show 0<=g.x*i.y+g.y*(-i.x)+g.w*0
   rw[Int.mul_neg]
   omega
  ·refine⟨⟨-i.y,i.x,0⟩,rfl,by show -i.y≠0\/i.x≠0;omega,?_,.inr rfl⟩
   show 0<=g.x*(-i.y)+g.y*i.x+g.w*0
   rw[Int.mul_neg]
   omega
 obtain⟨k,hk,hkd,D',N',hD',hN',w2,p2,z2⟩:=step w1 he p1 (hb e he he0)
 refine⟨i,hi,k,hk,q.go D' N' e,w2,p2,?_,z2,?_,?_⟩
 ·rw[kU,z1]
  rcases hie with rfl |rfl <;>(unfold V.dot;grind)
 ·intro hc
  rcases hie with rfl |rfl
  ·have:k.dot ⟨i.y, -i.x,0⟩= -(i.x*k.y-k.x*i.y):=by unfold V.dot;grind
   omega
  ·have:k.dot ⟨-i.y,i.x,0⟩=i.x*k.y-k.x*i.y:=by unfold V.dot;grind
   omega
 ·rw[kU]
  have:=Int.mul_pos hD' g1
  have:=Int.mul_nonneg hN' hge
  omega
def meet(f g:V):V:=⟨f.y*g.w-g.y*f.w,f.w*g.x-g.w*f.x,f.x*g.y-g.x*f.y⟩
def V.neg(p:V):V:=⟨-p.x, -p.y, -p.w⟩
def norm(p:V):V:=if p.w < 0 then p.neg else p
theorem yB{p:V}(h:p.w≠0):0 < (norm p).w:=by
 unfold norm
 split
 ·show 0 < -p.w;omega
 ·omega
theorem yH{f g v:V}(hf:f.dot v=0)(hg:g.dot v=0)(h:V):v.w*h.dot (norm (meet f g))=(norm (meet f g)).w*h.dot v:=by
 have ex:(meet f g).w*v.x=v.w*(meet f g).x:=by unfold V.dot at hf hg;unfold meet;grind
 have ey:(meet f g).w*v.y=v.w*(meet f g).y:=by unfold V.dot at hf hg;unfold meet;grind
 have key:v.w*h.dot (meet f g)=(meet f g).w*h.dot v:=by unfold V.dot;grind
 unfold norm
 split
 ·have e1:h.dot (meet f g).neg= -(h.dot (meet f g)):=by unfold V.dot V.neg;grind
  have e2:(meet f g).neg.w= -(meet f g).w:=rfl
  rw[e1,e2,Int.mul_neg,Int.neg_mul,key]
 ·exact key
def gP(L:List V)(v:V):Prop:=∃f∈L,∃g∈L,(meet f g).w≠0/\v=norm (meet f g)/\∀h∈L,0<=h.dot v
theorem mJ{L:List V}(hb:∀d:V,d.w=0->d.x≠0\/d.y≠0->∃f∈L,f.dot d < 0){p:V}(hw:0 < p.w)(hp:∀f∈L,0<=f.dot p)(g:V)(hg:0 < g.dot p):∃v,gP L v/\0 < v.w/\0 < g.dot v:=by
 obtain⟨i,hi,k,hk,v,wv,pv,z1,z2,hn,gv⟩:=sN hb hw hp g hg
 have hm:(meet i k).w≠0:=hn
 have hnp:=yB hm
 refine⟨norm (meet i k),⟨i,hi,k,hk,hm,rfl,fun h hh=>?_⟩,hnp,?_⟩
 ·have e:=yH z1 z2 h
  have:=Int.mul_nonneg (Int.le_of_lt hnp) (pv h hh)
  rw[<-e]at this
  exact Int.nonneg_of_mul_nonneg_right this wv
 ·have e:=yH z1 z2 g
  have:=Int.mul_pos hnp gv
  rw[<-e]at this
  exact Int.pos_of_mul_pos_right this wv
theorem three{L:List V}(hne:∃f,f∈L)(hb:∀d:V,d.w=0->d.x≠0\/d.y≠0->∃f∈L,f.dot d < 0){p:V}(hw:0 < p.w)(hp:∀f∈L,0 < f.dot p):
  ∃a b c,gP L a/\gP L b/\gP L c/\ji a b c≠0:=by
 have hp':∀f∈L,0<=f.dot p:=fun f hf=>Int.le_of_lt (hp f hf)
 obtain⟨a,ca,wa,_⟩:=mJ hb hw hp' ⟨0,0,1⟩ (by show 0 < 0*p.x+0*p.y+1*p.w;omega)
 have hne:p.x*a.w-a.x*p.w≠0\/p.y*a.w-a.y*p.w≠0:=Classical.byContradiction fun hc=>by
  obtain⟨f,hf,g,hg,hm,rfl,h0⟩:=ca
  have hz:f.dot (norm (meet f g))=0:=by
   unfold norm;split <;>(unfold V.dot;simp only[V.neg,meet];grind)
  have h1:=hp f hf
  have e:(norm (meet f g)).w*f.dot p=p.w*f.dot (norm (meet f g)):=by
   unfold V.dot
   grind
  rw[hz,Int.mul_zero]at e
  have:=Int.mul_pos wa h1
  omega
 obtain⟨b,cb,wb,hgb⟩:=mJ hb hw hp' ⟨(p.x*a.w-a.x*p.w)*a.w,(p.y*a.w-a.y*p.w)*a.w, -((p.x*a.w-a.x*p.w)*a.x+(p.y*a.w-a.y*p.w)*a.y)⟩ (by
  have e:(V.mk ((p.x*a.w-a.x*p.w)*a.w) ((p.y*a.w-a.y*p.w)*a.w) (-((p.x*a.w-a.x*p.w)*a.x+(p.y*a.w-a.y*p.w)*a.y))).dot p=(p.x*a.w-a.x*p.w)*(p.x*a.w-a.x*p.w)+(p.y*a.w-a.y*p.w)*(p.y*a.w-a.y*p.w):=by unfold V.dot;grind
  rw[e]
  generalize p.x*a.w-a.x*p.w=u at*
  generalize p.y*a.w-a.y*p.w=v at*
  have h1:=sq_nonneg u
  have h2:=sq_nonneg v
  have h3:u≠0->u*u≠0:=fun h h'=>by rcases Int.mul_eq_zero.1 h' with h' |h' <;>exact h h'
  have h4:v≠0->v*v≠0:=fun h h'=>by rcases Int.mul_eq_zero.1 h' with h' |h' <;>exact h h'
  rcases hne with h |h
  ·have:=h3 h;omega
  ·have:=h4 h;omega)
 have hab:a.y*b.w-a.w*b.y≠0\/a.w*b.x-a.x*b.w≠0:=Classical.byContradiction fun hc=>by
  have e1:a.y*b.w-a.w*b.y=0:=by omega
  have e2:a.w*b.x-a.x*b.w=0:=by omega
  have:(V.mk ((p.x*a.w-a.x*p.w)*a.w) ((p.y*a.w-a.y*p.w)*a.w) (-((p.x*a.w-a.x*p.w)*a.x+(p.y*a.w-a.y*p.w)*a.y))).dot b=0:=by unfold V.dot;grind
  omega
 obtain⟨g,hg⟩:∃g:V,g=⟨a.y*b.w-a.w*b.y,a.w*b.x-a.x*b.w,a.x*b.y-a.y*b.x⟩:=⟨_,rfl⟩
 have hdet:∀c:V,ji a b c=g.dot c:=fun c=>by rw[hg];unfold ji V.dot;grind
 have hg0:g.x≠0\/g.y≠0:=by rw[hg];exact hab
 obtain⟨q,wq,pq,gq⟩:∃q:V,0 < q.w/\(∀f∈L,0<=f.dot q)/\g.dot q≠0:=by
  by_cases hgp:g.dot p=0
  ·obtain⟨K,hK⟩:∃K:Int,0 < K/\∀f∈L, -K<=f.x*g.x+f.y*g.y:=by
    have hgen:∀L:List V,∃K:Int,0 < K/\∀f∈L, -K<=f.x*g.x+f.y*g.y:=fun L=>by
     induction L with
     |nil=>exact⟨1,by decide,fun f hf=>by cases hf⟩
     |cons f L ih=>
      obtain⟨K,h1,h2⟩:=ih
      refine⟨max K (-(f.x*g.x+f.y*g.y)),by omega,fun h hh=>?_⟩
      rcases List.mem_cons.1 hh with rfl |hh
      ·omega
      ·have:=h2 h hh;omega
    exact hgen L
   refine⟨p.go K 1 ⟨g.x,g.y,0⟩,?_,fun f hf=>?_,?_⟩
   ·show 0 < K*p.w+1*0
    have:=Int.mul_pos hK.1 hw
    omega
   ·rw[kU]
    have h1:=hK.2 f hf
    have h2:f.dot ⟨g.x,g.y,0⟩=f.x*g.x+f.y*g.y:=by unfold V.dot;grind
    have h3:K*1<=K*f.dot p:=Int.mul_le_mul_of_nonneg_left (by have:=hp f hf;omega) (Int.le_of_lt hK.1)
    omega
   ·rw[kU,hgp,Int.mul_zero]
    have h2:g.dot ⟨g.x,g.y,0⟩=g.x*g.x+g.y*g.y:=by unfold V.dot;grind
    rw[h2]
    have h1:=sq_nonneg g.x
    have h2:=sq_nonneg g.y
    have h3:g.x≠0->g.x*g.x≠0:=fun h h'=>by rcases Int.mul_eq_zero.1 h' with h' |h' <;>exact h h'
    have h4:g.y≠0->g.y*g.y≠0:=fun h h'=>by rcases Int.mul_eq_zero.1 h' with h' |h' <;>exact h h'
    rcases hg0 with h |h
    ·have:=h3 h;omega
    ·have:=h4 h;omega
  ·exact⟨p,hw,hp',hgp⟩
 rcases Int.lt_or_gt_of_ne gq with h |h
 ·have e:∀c,(V.neg g).dot c= -(g.dot c):=fun c=>by unfold V.dot V.neg;grind
  obtain⟨c,cc,_,hc⟩:=mJ hb wq pq (V.neg g) (by rw[e];omega)
  exact⟨a,b,c,ca,cb,cc,by rw[hdet];rw[e]at hc;omega⟩
 ·obtain⟨c,cc,_,hc⟩:=mJ hb wq pq g h
  exact⟨a,b,c,ca,cb,cc,by rw[hdet];omega⟩
end Go.pd
namespace Go.Proofs.YtmdfgncoekfgdaaGreatDoor
open Go Go.D Go.pd
def Pl.h(p:Pl):V:=⟨p.x,p.y,1⟩
def iI(a b:Pl):V:=⟨a.y-b.y,b.x-a.x,(b.y-a.y)*a.x-(b.x-a.x)*a.y⟩
theorem jh(a b c:Pl):(iI a b).dot c.h=dn a b c:=by unfold V.dot iI Pl.h dn;grind
def gj(l:List Pl)(i:Nat):Pl:=(l[i]?).getD ⟨0,0⟩
theorem kz{l:List Pl}{i:Nat}(h:i < l.length):l[i]?=some (gj l i):=by unfold gj;rw[List.getElem?_eq_getElem h];rfl
theorem JS{l:List Pl}{q:Pl}(h:q∈l):∃k,k < l.length/\gj l k=q:=by
 obtain⟨k,hk,rfl⟩:=List.getElem_of_mem h
 exact⟨k,hk,by unfold gj;rw[List.getElem?_eq_getElem hk];rfl⟩
theorem Be{l:List Pl}{i:Nat}(h:i < l.length):gj l i∈l:=List.mem_of_getElem? (kz h)
def ef(l:List Pl)(i:Nat):V:=iI (gj l i) (gj l ((i+1)%l.length))
def lU(l:List Pl):List V:=(List.range l.length).map (ef l)
theorem gV{l:List Pl}{f:V}:f∈lU l↔∃i,i < l.length/\f=ef l i:=by
 unfold lU
 simp only[List.mem_map,List.mem_range]
 exact⟨fun⟨i,h,e⟩=>⟨i,h,e.symm⟩,fun⟨i,h,e⟩=>⟨i,h,e.symm⟩⟩
theorem N1{ax ay bx b_y dx dy:Int}(h:ax*dy-ay*dx=bx*dy-b_y*dx):(bx-ax)*dy=(b_y-ay)*dx:=by
 rw[Int.sub_mul,Int.sub_mul];omega
theorem QC{ux uy vx vy dx dy:Int}(h1:ux*dy=uy*dx)(h2:vx*dy=vy*dx):(ux*vy-uy*vx)*dx=0/\(ux*vy-uy*vx)*dy=0:=by
 constructor <;>grind
section
variable {l:List Pl} (hv:aY l=true)
include hv
theorem ot{i k:Nat}(hi:i < l.length)(hk:k < l.length)(h1:k≠i)(h2:k≠(i+1)%l.length):0 < (ef l i).dot (gj l k).h:=by
 unfold ef
 rw[jh]
 exact zC hv (kz hi) (kz (Nat.mod_lt _ (by omega))) (kz hk) h1 h2
theorem jL{i k:Nat}(hi:i < l.length)(hk:k < l.length):0<=(ef l i).dot (gj l k).h:=by
 by_cases h1:k=i
 ·subst h1
  unfold ef
  rw[jh]
  unfold dn
  grind
 by_cases h2:k=(i+1)%l.length
 ·unfold ef
  rw[jh,<-h2]
  unfold dn
  grind
 exact Int.le_of_lt (ot hv hi hk h1 h2)
theorem qR:∃p:V,0 < p.w/\∀f∈lU l,0 < f.dot p:=by
 obtain⟨h3,_⟩:=dD hv
 refine⟨⟨(gj l 0).x+(gj l 1).x+(gj l 2).x,(gj l 0).y+(gj l 1).y+(gj l 2).y,3⟩,(show(0:Int)< 3 by decide),fun f hf=>?_⟩
 obtain⟨i,hi,rfl⟩:=gV.1 hf
 have e:(ef l i).dot ⟨(gj l 0).x+(gj l 1).x+(gj l 2).x,(gj l 0).y+(gj l 1).y+(gj l 2).y,3⟩=(ef l i).dot (gj l 0).h+(ef l i).dot (gj l 1).h+(ef l i).dot (gj l 2).h:=by
  unfold V.dot Pl.h;grind
 rw[e]
 have n0:=jL hv hi (k:=0) (by omega)
 have n1:=jL hv hi (k:=1) (by omega)
 have n2:=jL hv hi (k:=2) (by omega)
 have:∃k,k < 3/\k≠i/\k≠(i+1)%l.length:=by
  generalize (i+1)%l.length=j
  by_cases a0:0≠i/\0≠j
  ·exact⟨0,by omega,a0.1,a0.2⟩
  by_cases a1:1≠i/\1≠j
  ·exact⟨1,by omega,a1.1,a1.2⟩
  exact⟨2,by omega,by omega,by omega⟩
 obtain⟨k,hk,k1,k2⟩:=this
 have hp:=ot hv hi (k:=k) (by omega) k1 k2
 have:k=0\/k=1\/k=2:=by omega
 rcases this with rfl |rfl |rfl <;>omega
theorem ou(d:V)(hd:d.w=0)(hd0:d.x≠0\/d.y≠0):∃f∈lU l,f.dot d < 0:=Classical.byContradiction fun hc=>by
 obtain⟨h3,_⟩:=dD hv
 have hE:∀i,i < l.length->(gj l i).x*d.y-(gj l i).y*d.x<=(gj l ((i+1)%l.length)).x*d.y-(gj l ((i+1)%l.length)).y*d.x:=fun i hi=>by
  have h:¬(ef l i).dot d < 0:=fun h=>hc ⟨_,gV.2 ⟨i,hi,rfl⟩,h⟩
  have e:(ef l i).dot d=((gj l ((i+1)%l.length)).x*d.y-(gj l ((i+1)%l.length)).y*d.x)-((gj l i).x*d.y-(gj l i).y*d.x):=by
   unfold ef iI V.dot
   grind
  omega
 have hC:∀k,k < l.length->∀j,j<=k->(gj l j).x*d.y-(gj l j).y*d.x<=(gj l k).x*d.y-(gj l k).y*d.x:=by
  intro k
  induction k with
  |zero=>intro _ j hj;rw[Nat.le_zero.1 hj];exact Int.le_refl _
  |succ k ih=>
   intro hk j hj
   by_cases e:j=k+1
   ·rw[e];exact Int.le_refl _
   ·have h1:=ih (by omega) j (by omega)
    have h2:=hE k (by omega)
    rw[Nat.mod_eq_of_lt hk]at h2
    omega
 have hL:=hE (l.length-1) (by omega)
 rw[Nat.sub_add_cancel (by omega),Nat.mod_self]at hL
 have c1:=hC 1 (by omega) 0 (by omega)
 have c2:=hC 2 (by omega) 1 (by omega)
 have c3:=hC (l.length-1) (by omega) 2 (by omega)
 have ht:=ot hv (i:=0) (k:=2) (by omega) (by omega) (by omega) (by rw[Nat.mod_eq_of_lt (by omega)];omega)
 unfold ef at ht
 rw[Nat.zero_add,Nat.mod_eq_of_lt (by omega:1 < l.length),jh]at ht
 generalize gj l 0=a at*
 generalize gj l 1=b at*
 generalize gj l 2=c at*
 have e1:=N1 (show a.x*d.y-a.y*d.x=b.x*d.y-b.y*d.x by omega)
 have e2:=N1 (show a.x*d.y-a.y*d.x=c.x*d.y-c.y*d.x by omega)
 unfold dn at ht
 obtain⟨t1,t2⟩:=QC e1 e2
 rcases hd0 with h |h
 ·rcases Int.mul_eq_zero.1 t1 with h' |h'
  ·omega
  ·exact h h'
 ·rcases Int.mul_eq_zero.1 t2 with h' |h'
  ·omega
  ·exact h h'
omit hv in
theorem BK(G:Nat->Int):∀n,0 < n->∃k,k < n/\∀j,j < n->G j<=G k
 |1,_=>⟨0,by omega,fun j hj=>by rw[show j=0 by omega];exact Int.le_refl _⟩
 |n+2,_=>by
  obtain⟨k,hk,h⟩:=BK G (n+1) (by omega)
  by_cases hc:G k<=G (n+1)
  ·refine⟨n+1,by omega,fun j hj=>?_⟩
   by_cases e:j=n+1
   ·rw[e];exact Int.le_refl _
   ·have:=h j (by omega);omega
  ·refine⟨k,by omega,fun j hj=>?_⟩
   by_cases e:j=n+1
   ·rw[e];omega
   ·exact h j (by omega)
theorem tU{g p:V}(hg:∀q∈l,g.dot q.h<=0)(hw:0 < p.w)(hp:∀f∈lU l,0<=f.dot p):g.dot p<=0:=by
 obtain⟨h3,_⟩:=dD hv
 obtain⟨k,hk,hmax⟩:=BK (fun k=>g.dot (gj l k).h) l.length (by omega)
 obtain⟨r,hr,hrk,hrn⟩:∃r,r < l.length/\(r+1)%l.length=k/\r≠(k+1)%l.length:=by
  by_cases e:k=0
  ·refine⟨l.length-1,by omega,?_,?_⟩
   ·rw[Nat.sub_add_cancel (by omega),Nat.mod_self,e]
   ·rw[e,Nat.mod_eq_of_lt (by omega)];omega
  ·refine⟨k-1,by omega,?_,?_⟩
   ·rw[Nat.sub_add_cancel (by omega),Nat.mod_eq_of_lt hk]
   ·by_cases e2:k+1=l.length
    ·rw[e2,Nat.mod_self];omega
    ·rw[Nat.mod_eq_of_lt (by omega)];omega
 have hn:(k+1)%l.length < l.length:=Nat.mod_lt _ (by omega)
 have hnk:(k+1)%l.length≠k:=by
  by_cases e2:k+1=l.length
  ·rw[e2,Nat.mod_self];omega
  ·rw[Nat.mod_eq_of_lt (by omega)];omega
 have hT:=ot hv hr hn (fun e=>hrn e.symm) (by rw[hrk];exact hnk)
 have p1:=hp _ (gV.2 ⟨r,hr,rfl⟩)
 have p2:=hp _ (gV.2 ⟨k,hk,rfl⟩)
 have m1:=hmax _ hn
 have m2:=hmax _ hr
 have m3:=hg _ (Be hk)
 unfold ef at hT p1 p2
 rw[hrk]at hT p1
 have m1:g.dot (gj l ((k+1)%l.length)).h<=g.dot (gj l k).h:=m1
 have m2:g.dot (gj l r).h<=g.dot (gj l k).h:=m2
 generalize gj l r=a at*
 generalize gj l k=b at*
 generalize gj l ((k+1)%l.length)=c at*
 have id:(iI a b).dot c.h*(g.dot p-p.w*g.dot b.h)=(iI a b).dot p*(g.dot c.h-g.dot b.h)+(iI b c).dot p*(g.dot a.h-g.dot b.h):=by
  unfold iI V.dot Pl.h
  grind
 have r1:(iI a b).dot p*(g.dot c.h-g.dot b.h)<=0:=Int.mul_nonpos_of_nonneg_of_nonpos p1 (by omega)
 have r2:(iI b c).dot p*(g.dot a.h-g.dot b.h)<=0:=Int.mul_nonpos_of_nonneg_of_nonpos p2 (by omega)
 have r3:p.w*g.dot b.h<=0:=Int.mul_nonpos_of_nonneg_of_nonpos (Int.le_of_lt hw) m3
 refine Classical.byContradiction fun hc=>?_
 have:0 < (iI a b).dot c.h*(g.dot p-p.w*g.dot b.h):=Int.mul_pos hT (by omega)
 omega
end
def Sep(a b:List Pl):Prop:=∃f∈lU a,∀q∈b,f.dot q.h<=0
theorem Bz{a:List Pl}(ha:aY a=true){h:V}(hh:∃q∈a,0 < h.dot q.h):∃p:V,0 < p.w/\(∀f∈lU a,0 < f.dot p)/\0 < h.dot p:=by
 obtain⟨c,wc,hc⟩:=qR ha
 obtain⟨q,hq,hhq⟩:=hh
 obtain⟨k,hk,rfl⟩:=JS hq
 obtain⟨K,hK⟩:∃K:Int,K=max 1 (1-h.dot c):=⟨_,rfl⟩
 refine⟨(gj a k).h.go K 1 c,?_,fun f hf=>?_,?_⟩
 ·show 0 < K*1+1*c.w
  omega
 ·rw[kU]
  obtain⟨i,hi,rfl⟩:=gV.1 hf
  have h1:=jL ha hi hk
  have h2:=hc _ hf
  have:=Int.mul_nonneg (show 0<=K by omega) h1
  omega
 ·rw[kU]
  have:K*1<=K*h.dot (gj a k).h:=Int.mul_le_mul_of_nonneg_left (by omega) (by omega)
  omega
theorem BE{a b:List Pl}(h:¬Sep a b):∀f∈lU a,∃q∈b,0 < f.dot q.h:=fun f hf=>Classical.byContradiction fun hc=>h ⟨f,hf,fun q hq=>by
 refine Classical.byContradiction fun h'=>hc ⟨q,hq,by omega⟩⟩
theorem FM{a b:List Pl}(ha:aY a=true)(hb:aY b=true)(h1:¬Sep a b)(h2:¬Sep b a):
  ∃u v w,gP (lU a++lU b) u/\gP (lU a++lU b) v/\gP (lU a++lU b) w/\ji u v w≠0:=by
 have pa:∀h∈lU b,∃p:V,0 < p.w/\(∀f∈lU a,0 < f.dot p)/\0 < h.dot p:=fun h hh=>Bz ha (BE h2 h hh)
 have pb:∀h∈lU a,∃p:V,0 < p.w/\(∀f∈lU b,0 < f.dot p)/\0 < h.dot p:=fun h hh=>Bz hb (BE h1 h hh)
 obtain⟨p,hw,hp⟩:=yS _ (lU a++lU b) (Nat.le_refl _) fun f hf g hg h hh=>by
  rcases List.mem_append.1 hf with hf |hf <;>rcases List.mem_append.1 hg with hg |hg <;>rcases List.mem_append.1 hh with hh |hh
  ·obtain⟨p,w,h'⟩:=qR ha;exact⟨p,w,h' _ hf,h' _ hg,h' _ hh⟩
  ·obtain⟨p,w,h',h''⟩:=pa h hh;exact⟨p,w,h' _ hf,h' _ hg,h''⟩
  ·obtain⟨p,w,h',h''⟩:=pa g hg;exact⟨p,w,h' _ hf,h'',h' _ hh⟩
  ·obtain⟨p,w,h',h''⟩:=pb f hf;exact⟨p,w,h'',h' _ hg,h' _ hh⟩
  ·obtain⟨p,w,h',h''⟩:=pa f hf;exact⟨p,w,h'',h' _ hg,h' _ hh⟩
  ·obtain⟨p,w,h',h''⟩:=pb g hg;exact⟨p,w,h' _ hf,h'',h' _ hh⟩
  ·obtain⟨p,w,h',h''⟩:=pb h hh;exact⟨p,w,h' _ hf,h' _ hg,h''⟩
  ·obtain⟨p,w,h'⟩:=qR hb;exact⟨p,w,h' _ hf,h' _ hg,h' _ hh⟩
 refine three ?_ (fun d hd hd0=>?_) hw hp
 ·obtain⟨f,hf,_⟩:=ou ha ⟨1,0,0⟩ rfl (.inl (by decide))
  exact⟨f,List.mem_append.2 (.inl hf)⟩
 ·obtain⟨f,hf,h⟩:=ou ha d hd hd0
  exact⟨f,List.mem_append.2 (.inl hf),h⟩
theorem yC{a b:List Pl}(ha:aY a=true)(hb:aY b=true){L:List V}(hL:∀f,f∈lU a\/f∈lU b->f∈L)(hs:Sep a b){u v w:V}(hu:gP L u)(hv:gP L v)(hw:gP L w):ji u v w=0:=by
 obtain⟨f,hf,hfb⟩:=hs
 have hz:∀{c:V},gP L c->f.dot c=0:=fun{c} hc=>by
  obtain⟨i,hi,k,hk,hm,rfl,h0⟩:=hc
  have h1:=h0 f (hL f (.inl hf))
  have h2:=tU hb hfb (yB hm) fun g hg=>h0 g (hL g (.inr hg))
  omega
 have hu:=hz hu
 have hv:=hz hv
 have hw:=hz hw
 have hf0:f.x≠0\/f.y≠0:=Classical.byContradiction fun hc=>by
  obtain⟨h3,_⟩:=dD ha
  obtain⟨p,_,hp⟩:=qR ha
  have:=hp f hf
  obtain⟨i,hi,rfl⟩:=gV.1 hf
  unfold ef at hc this
  generalize gj a i=s at*
  generalize gj a ((i+1)%a.length)=t at*
  have e1:s.y-t.y=0:=by have:¬((s.y-t.y)≠0\/(t.x-s.x)≠0):=hc;omega
  have e2:t.x-s.x=0:=by have:¬((s.y-t.y)≠0\/(t.x-s.x)≠0):=hc;omega
  have e3:(iI s t).dot p=0:=by unfold iI V.dot;grind
  omega
 have t1:f.x*ji u v w=0:=by
  have:f.x*ji u v w=f.dot u*(v.y*w.w-v.w*w.y)-f.dot v*(u.y*w.w-u.w*w.y)+f.dot w*(u.y*v.w-u.w*v.y):=by unfold ji V.dot;grind
  rw[this,hu,hv,hw];simp
 have t2:f.y*ji u v w=0:=by
  have:f.y*ji u v w= -(f.dot u*(v.x*w.w-v.w*w.x))+f.dot v*(u.x*w.w-u.w*w.x)-f.dot w*(u.x*v.w-u.w*v.x):=by unfold ji V.dot;grind
  rw[this,hu,hv,hw];simp
 rcases hf0 with h |h
 ·exact(Int.mul_eq_zero.1 t1).resolve_left h
 ·exact(Int.mul_eq_zero.1 t2).resolve_left h
end Go.Proofs.YtmdfgncoekfgdaaGreatDoor
namespace Go.Proofs.YtmdfgncoekfgdaaGreatDoor
open Go Go.D
variable {X:aF} {m:M}
def qy(a b:List Pl)(i:Nat):Bool:=match a[i]?,a[(i+1)%a.length]? with
 |some p,some q=> !(b.any fun c=>decide (0 < dn p q c))
 |_,_=>false
def cY(a b:List Pl):Int:=match(List.range a.length).find? (qy a b)with |some i=>i |none=> -1
def hZ(a b:List Pl):Bool:=aY a && aY b && decide (cY a b < 0) && decide (cY b a < 0)
theorem Jj(hX:cW X){a b c:Pl}{ba bb:Nat}(ha:m.get ba=.cells a.c 98 none)(hb:m.get bb=.cells b.c 98 none)(sa:a.sm 1000000)(sb:b.sm 1000000)(sc:c.sm 1000000):
  C X (.func 302) [c.v,ptrTo ba,ptrTo bb] m m.n (.bool (decide (0 < dn a b c))) m:=by
 refine Cl.flat (hX.no _ rfl) LS rfl rfl ?_
 rw[QR];dsimp only[aI]
 refine au fun m1 hn1 hg1 hk1=>?_
 have hx1:Ext m m1:=⟨by omega,hk1⟩
 unfold ptrTo
 rw[fW (hx1.cells ha),aa,fW (hx1.cells hb),aa,fW hg1,aa]
 refine aC (uO hX sa sb sc) ?_
 rw[bX,aa]
 exact⟨rfl,by omega⟩
theorem yZ{a b:List Pl}(h:∀j,j < a.length->qy a b j=false):cY a b= -1:=by
 unfold cY
 have:(List.range a.length).find? (qy a b)=none:=List.find?_eq_none.2 fun x hx=>by rw[h x (List.mem_range.1 hx)];decide
 rw[this]
theorem find_range{p:Nat->Bool}:∀{n k:Nat},k < n->(∀j,j < k->p j=false)->p k=true->(List.range n).find? p=some k
 |n+1,k,hk,h,hp=>by
  rw[List.range_succ,List.find?_append]
  by_cases e:k < n
  ·rw[find_range e h hp];rfl
  ·have:k=n:=by omega
   subst this
   have:(List.range k).find? p=none:=List.find?_eq_none.2 fun x hx=>by rw[h x (List.mem_range.1 hx)];decide
   rw[this]
   simp[hp]
theorem yY{a b:List Pl}{k:Nat}(hk:k < a.length)(h:∀j,j < k->qy a b j=false)(hs:qy a b k=true):cY a b=k:=by
 unfold cY
 rw[find_range hk h hs]
theorem tX(hX:cW X){a b:List Pl}{va vb:Value}(ha:Sl m a va)(hb:Sl m b vb)(la:a.length < 1000000)(lb:b.length < 1000000)(sa:∀p∈a,p.sm 1000000)(sb:∀p∈b,p.sm 1000000):
  C X (.func 214) [va,vb] m m.n (.int .i64 (cY a b)) m:=by
 refine Cl.flat (hX.no _ rfl) LW rfl rfl ?_
 rw[QT];dsimp only[aI]
 refine au fun m1 hn1 hg1 hk1=>?_
 refine au fun m2 hn2 hg2 hk2=>?_
 refine au fun m3 hn3 hg3 hk3=>?_
 unfold ptrTo
 refine aD kf hg3 rfl rfl rfl fun m4 hn4 hg4 hk4=>?_
 have hx4:Ext m m4:=⟨by omega,fun c hc=>by rw[hk4 c (by omega),hk3 c (by omega),hk2 c (by omega),hk1 c hc]⟩
 obtain⟨m7,hc,hx7,hn7,hg7⟩:=ze (m:=m4) hX ha.cells
 refine aC hc ?_
 rw[bU]
 have g17:m7.get m.n=.cells (cells vb) 45 none:=by rw[hx7.get _ (by omega),hk4 _ (by omega),hk3 _ (by omega),hk2 _ (by omega),hg1]
 have g27:m7.get m1.n=.cells [.int .i64 0] 3 none:=by rw[hx7.get _ (by omega),hk4 _ (by omega),hk3 _ (by omega),hg2]
 have g37:m7.get m2.n=.cells [.int .i64 0] 3 none:=by rw[hx7.get _ (by omega),hg4];rfl
 rw[hb.cells]at g17
 refine⟨fun _=>False,jC a,_,fun k mm=>m7.n<=mm.n/\(∀c,c < m7.n->c≠m1.n->c≠m2.n->mm.get c=m7.get c)/\mm.get m1.n=.cells [.int .i64 0] 3 none/\mm.get m2.n=.cells [.int .i64 k] 3 none/\(∀j,j < k->qy a b j=false),
  fun e mm=>e=.ret/\mm.get m1.n=.cells [.int .i64 (cY a b)] 3 none,m.n,⟨_,rfl⟩,ur hX (v:=va) (b:=m4.n) (by omega),by omega,?_,?_,?_,⟨Nat.le_refl _,fun _ _ _ _=>rfl,g27,g37,fun j hj=>by omega⟩,?_,?_,?_⟩
 ·rintro i mm ⟨h1,h2,h3,h4,h5⟩
  refine⟨by rw[h2 _ (by omega) (by omega) (by omega),hg7],?_⟩
  refine ha.bt fun b c t g hb ht=>?_
  have:=M.aV hb
  rw[h2 b (by omega) (by omega) (by omega),hx7.get b (by omega),hx4.get b this,hb]
 ·rintro i mm mm2 ⟨h1,h2,h3,h4,h5⟩ hk
  exact⟨by have:=hk.n;omega,fun c hc n1 n2=>by rw[hk.get c (by omega) (by omega),h2 c hc n1 n2],by rw[hk.get _ (by omega) (by omega),h3],by rw[hk.get _ (by omega) (by omega),h4],h5⟩
 ·rintro e mm mm2 ⟨h,h'⟩ hk
  have:=M.aV h'
  exact⟨h,by rw[hk.get _ this (by omega),h']⟩
 ·rintro k args m10 hn10 hx ⟨h1,h2,h3,h4,h5⟩
  obtain⟨pa,pb,hpa,hpb,rfl⟩:=uq hx
  have hka:k < a.length:=(List.getElem?_eq_some_iff.1 hpa).1
  rw[aA,aA]
  show zD [] _
  unfold zD
  refine au fun m16 hn16 hg16 hk16=>?_
  refine aD gZ hg16 rfl rfl rfl fun m17 hn17 hg17 hk17=>?_
  refine au fun m19 hn19 hg19 hk19=>?_
  refine aD gZ hg19 rfl rfl rfl fun m20 hn20 hg20 hk20=>?_
  have eO:∀c,c < m10.n->m20.get c=m10.get c:=fun c hc=>by rw[hk20 c (by omega),hk19 c (by omega),hk17 c (by omega),hk16 c hc]
  refine⟨fun c _ hc=>eO c hc,fun m22 hn22 hk22=>?_⟩
  dsimp only
  have r1:m22.get m10.n=.cells pa.c 98 none:=by rw[hk22 _ (by omega),hk20 _ (by omega),hk19 _ (by omega),hg17];rfl
  have r2:m22.get m17.n=.cells pb.c 98 none:=by rw[hk22 _ (by omega),hg20];rfl
  have o22:∀c,c < m7.n->c≠m1.n->c≠m2.n->m22.get c=m7.get c:=fun c hc n1 n2=>by rw[hk22 c (by omega),eO c (by omega),h2 c hc n1 n2]
  have r3:m22.get m.n=.cells [vb] 45 none:=by rw[o22 _ (by omega) (by omega) (by omega),g17]
  have r4:m22.get m2.n=.cells [.int .i64 k] 3 none:=by rw[hk22 _ (by omega),eO _ (by omega),h4]
  have r5:m22.get m1.n=.cells [.int .i64 0] 3 none:=by rw[hk22 _ (by omega),eO _ (by omega),h3]
  rw[kO,av r3]
  show ah (some vb) _
  rw[aa]
  have hsb:Sl m22 b vb:=hb.bt fun b c t g hb ht=>by
   have:=M.aV hb
   rw[o22 b (by omega) (by omega) (by omega),hx7.get b (by omega),hx4.get b this,hb]
  refine aC (nf hX (fun c=>decide (0 < dn pa pb c)) (by omega) hsb fun c hc=>?_) ?_
  ·exact Jj hX r1 r2 (sa _ (List.mem_of_getElem? hpa)) (sa _ (List.mem_of_getElem? hpb)) (sb c hc)
  have hsep:qy a b k= !(b.any fun c=>decide (0 < dn pa pb c)):=by unfold qy;rw[hpa,hpb]
  rw[aX,aa,aj,<-hsep]
  refine ak (fun hs=>?_) (fun hs=>?_)
  ·rw[bu,av r4]
   show ah (some (Value.int .i64 k)) _
   rw[aa]
   refine aD kf r5 rfl rfl rfl fun m29 hn29 hg29 hk29=>?_
   refine⟨by omega,fun c h1c h2c h3c=>hk29 c (by
                            rcases h3c with h |h;· omega
                            ·exact h.elim),rfl,?_⟩
   rw[yY hka h5 hs]
   exact hg29
  ·rw[bu,av r4]
   show ah (some (Value.int .i64 k)) _
   rw[aa,aG,aa,wrap64 (by omega) (by omega)]
   refine aD kf r4 rfl rfl rfl fun m33 hn33 hg33 hk33=>?_
   refine⟨by omega,fun c h1c h2c h3c=>hk33 c (by
                            rcases h3c with h |h;· omega
                            ·exact h.elim),by omega,fun c hc n1 n2=>by rw[hk33 c n2,o22 c hc n1 n2],by rw[hk33 _ (by omega),r5],hg33,fun j hj=>?_⟩
   by_cases e:j=k
   ·rw[e];exact hs
   ·exact h5 j (by omega)
 ·rintro mm lo2 ⟨h1,h2,h3,h4,h5⟩ hlo
  refine aD kf h3 rfl rfl rfl fun m37 hn37 hg37 hk37=>?_
  rw[bu,av hg37]
  show ah (some (Value.int .i64 (-1))) _
  rw[aa]
  refine⟨?_,by omega⟩
  rw[pY]at h5
  rw[yZ h5];rfl
 ·rintro e mm lo2 hne ⟨rfl,h'⟩ hlo
  refine⟨_,List.mem_singleton.2 rfl,rfl,?_⟩
  dsimp only
  rw[bu,av h']
  show ah (some (Value.int .i64 (cY a b))) _
  rw[aa]
  exact⟨rfl,by omega⟩
def tL(a b:List Pl):Int×Int×Bool:=
 if aY a && aY b then(if 0<=cY a b then(0,cY a b,true)else if 0<=cY b a then(1,cY b a,true)else(0,0,false))else(0,0,false)
theorem Ge(hX:cW X){a b:List Pl}{va vb:Value}(ha:Sl m a va)(hb:Sl m b vb)(la:a.length < 1000000)(lb:b.length < 1000000):
  C X (.func 160) [va,vb] m m.n (.tuple #[.int .i64 (tL a b).1,.int .i64 (tL a b).2.1,.bool (tL a b).2.2]) m:=by
 refine Cl.flat (hX.no _ rfl) Mi rfl rfl ?_
 rw[Q9];dsimp only[aI]
 refine bY (fun vs mm lo=>vs=[.bool (!(aY a && aY b))]/\m=mm/\m.n<=lo) (fun R hR=>?_) ?_
 ·refine aC (jk hX ha (by omega)) ?_
  rw[aX,aa,aj]
  refine ak (fun h=>?_) (fun h=>?_)
  ·have h:aY a=false:=by simpa using h
   exact hR _ _ _ ⟨by rw[h];rfl,rfl,by omega⟩
  ·have h:aY a=true:=by simpa using h
   refine aC (jk hX hb (by omega)) ?_
   rw[aX,aa]
   exact hR _ _ _ ⟨by rw[h,Bool.true_and],rfl,by omega⟩
 rintro _ _ lo ⟨rfl,rfl,hlo⟩
 rw[aA,aj]
 refine ak (fun h=>?_) (fun h=>?_)
 ·have h:(aY a && aY b)=false:=by
   cases h':(aY a && aY b)with
   |false=>rfl
   |true=>rw[h']at h;cases h
  unfold tL
  rw[if_neg (by rw[h];decide)]
  exact⟨rfl,hlo⟩
 ·have h:(aY a && aY b)=true:=by
   cases h':(aY a && aY b)with
   |true=>rfl
   |false=>rw[h']at h;cases h
  unfold tL
  rw[if_pos h]
  rw[Bool.and_eq_true]at h
  refine aC (tX hX ha hb la lb (nZ h.1) (nZ h.2)) ?_
  rw[ck,aa,aj]
  refine ak (fun h1=>?_) (fun h1=>?_)
  ·have h1:0<=cY a b:=by simpa using h1
   rw[if_pos h1]
   exact⟨rfl,by omega⟩
  ·have h1:¬0<=cY a b:=by simpa using h1
   rw[if_neg h1]
   refine aC (tX hX hb ha lb la (nZ h.2) (nZ h.1)) ?_
   rw[ck,aa,aj]
   refine ak (fun h2=>?_) (fun h2=>?_)
   ·have h2:0<=cY b a:=by simpa using h2
    rw[if_pos h2]
    exact⟨rfl,by omega⟩
   ·have h2:¬0<=cY b a:=by simpa using h2
    rw[if_neg h2]
    exact⟨rfl,by omega⟩
theorem xP(hX:cW X){a b:List Pl}{va vb:Value}(ha:Sl m a va)(hb:Sl m b vb)(la:a.length < 1000000)(lb:b.length < 1000000):
  C X (.func 102) [va,vb] m m.n (.bool (hZ a b)) m:=by
 refine Cl.flat (hX.no _ rfl) MI rfl rfl ?_
 rw[Rx];dsimp only[aI]
 refine aC (Ge hX ha hb la lb) ?_
 rw[bw,bw,bw]
 simp only[List.getElem?_cons_zero,List.getElem?_cons_succ,aa]
 refine bY (fun vs mm lo=>vs=[.bool (hZ a b)]/\m=mm/\m.n<=lo) (fun R hR=>?_) ?_
 ·refine aC (jk hX ha (by omega)) ?_
  rw[aj]
  refine ak (fun h=>?_) (fun h=>?_)
  ·refine aC (jk hX hb (by omega)) ?_
   rw[aj]
   refine ak (fun h'=>?_) (fun h'=>?_)
   ·rw[aX,aa]
    refine hR _ _ _ ⟨?_,rfl,by omega⟩
    unfold hZ tL
    rw[h,h',Bool.and_self,if_pos rfl,Bool.true_and]
    by_cases h1:0<=cY a b
    ·rw[if_pos h1,decide_eq_false (show¬cY a b < 0 by omega)];rfl
    ·rw[if_neg h1,decide_eq_true (show cY a b < 0 by omega)]
     by_cases h2:0<=cY b a
     ·rw[if_pos h2,decide_eq_false (show¬cY b a < 0 by omega)];rfl
     ·rw[if_neg h2,decide_eq_true (show cY b a < 0 by omega)];rfl
   ·exact hR _ _ _ ⟨by unfold hZ;rw[h',Bool.and_false];rfl,rfl,by omega⟩
  ·exact hR _ _ _ ⟨by unfold hZ;rw[h];rfl,rfl,by omega⟩
 ·rintro _ _ lo ⟨rfl,rfl,hlo⟩
  rw[aA]
  exact⟨rfl,hlo⟩
end Go.Proofs.YtmdfgncoekfgdaaGreatDoor
namespace Go.Proofs.YtmdfgncoekfgdaaGreatDoor
open Go Go.D
variable {X:aF} {m:M}
theorem Gv(hX:cW X)(p:Pl):C X (.func 188) [p.v] m m.n (.bool (!p.off)) m:=by
 refine Cl.flat (hX.no _ rfl) Mb rfl rfl ?_
 rw[Q2];dsimp only[aI]
 refine au fun m1 hn1 hg1 hk1=>?_
 simp only[aP]at hg1
 refine bY (fun vs mm lo=>vs=[.bool (!p.off)]/\lo=m.n) (fun R hR=>?_) ?_
 ·simp only[aa,ar,bU,aj,bJ,aM,cK,aH,ck,bX,bE,bI,aX,ptrTo,di,dj,Nat.zero_add,Nat.reduceAdd,List.getElem?_cons_zero,List.getElem?_cons_succ,List.drop_zero,List.drop_succ_cons,List.take_succ_cons,List.take_zero,Option.map_some,aP,dI,dm,cP,dG,dH,dk,bK,cr,bu,av hg1]
  have ho:p.off= !(decide (0<=p.x) && decide (p.x<=40) && decide (0<=p.y) && decide (p.y<=40)):=by
   unfold Pl.off
   by_cases h1:0<=p.x <;>by_cases h2:p.x<=40 <;>by_cases h3:0<=p.y <;>by_cases h4:p.y<=40 <;>simp[h1,h2,h3,h4] <;>omega
  refine ak (fun h1=>?_) (fun h1=>hR _ _ _ ⟨by rw[ho,h1];rfl,rfl⟩)
  refine ak (fun h2=>?_) (fun h2=>hR _ _ _ ⟨by rw[ho,h1,h2];rfl,rfl⟩)
  refine ak (fun h3=>?_) (fun h3=>hR _ _ _ ⟨by rw[ho,h1,h2,h3];rfl,rfl⟩)
  exact hR _ _ _ ⟨by rw[ho,h1,h2,h3,Bool.not_not];rfl,rfl⟩
 ·rintro _ mm lo ⟨rfl,rfl⟩
  rw[aA]
  exact⟨rfl,Nat.le_refl _⟩
theorem FV(hX:cW X)(a b c:Pl):C X (.func 108) [a.v,b.v,c.v] m m.n (.int .i64 (Bp a b c)) m:=by
 refine Cl.flat (hX.no _ rfl) MH rfl rfl ?_
 rw[Rw];dsimp only[aI]
 refine au fun m1 hn1 hg1 hk1=>?_
 refine au fun m2 hn2 hg2 hk2=>?_
 refine au fun m3 hn3 hg3 hk3=>?_
 have g1:=(hk3 m.n (by omega)).trans ((hk2 m.n (by omega)).trans hg1)
 have g2:=(hk3 m1.n (by omega)).trans hg2
 simp only[aP]at g1 g2 hg3
 simp only[aa,ar,bU,aj,bJ,aM,cK,aH,ck,bX,bE,bI,aX,ptrTo,di,dj,Nat.zero_add,Nat.reduceAdd,List.getElem?_cons_zero,List.getElem?_cons_succ,List.drop_zero,List.drop_succ_cons,List.take_succ_cons,List.take_zero,Option.map_some,aP,dI,dm,cP,dG,dH,dk,bK,cr,bu,av g1,av g2,av hg3,cz,cA]
 exact⟨rfl,Nat.le_refl _⟩
theorem xD(hX:cW X){a b c:Pl}(ha:a.sm 1000000)(hb:b.sm 1000000)(hc:c.sm 1000000):C X (.func 108) [a.v,b.v,c.v] m m.n (.int .i64 (dn a b c)) m:=by
 rw[<-wT ha hb hc];exact FV hX a b c
theorem AG(hX:cW X){l:List Pl}{v:Value}(hl:Sl m l v){i:Nat}{q:Pl}(hb:l.length < 4611686018427387904)(hi:i < l.length)(hq:l[(i+1)%l.length]?=some q):C X (.func 166) [v,.int .i64 i] m m.n q.v m:=by
 refine Cl.flat (hX.no _ rfl) Mh rfl rfl ?_
 rw[Q8];dsimp only[aI]
 refine au fun m1 hn1 hg1 hk1=>?_
 have hx1:Ext m m1:=⟨by omega,hk1⟩
 rw[aG,aa,wrap64 (by omega) (by omega),(hl.aB hx1).len cX,ar,show((i:Int)+1)=((i+1:Nat):Int) by omega,kG (by omega),aa]
 obtain⟨a,e1,e2⟩:=(hl.aB hx1).iJ (k:=.i64) hq
 rw[e1,aa,e2,aa]
 unfold ptrTo
 refine aD gZ hg1 rfl rfl rfl fun m7 hn7 hg7 hk7=>?_
 rw[fW hg7,aa]
 exact⟨rfl,by omega⟩
theorem iX(hX:cW X){l:List Pl}{v:Value}(hl:Sl m l v)(hb:l.length < 4611686018427387904):C X (.func 127) [v] m m.n (.bool (aY l)) m:=by
 refine Cl.flat (hX.no _ rfl) MB rfl rfl ?_
 rw[Rq];dsimp only[aI]
 refine bY (fun vs mm lo=>vs=[.bool (!(decide (3<=l.length) && decide (l.length<=8)))]/\m=mm/\lo=m.n) (fun R hR=>?_) ?_
 ·rw[hl.len cX]
  simp only[aa,ar,bU,aj,bJ,aM,cK,aH,ck,bX,bE,bI,aX,ptrTo,di,dj,Nat.zero_add,Nat.reduceAdd,List.getElem?_cons_zero,List.getElem?_cons_succ,List.drop_zero,List.drop_succ_cons,List.take_succ_cons,List.take_zero,Option.map_some,aP,dI,dm,cP,dG,dH,dk]
  refine ak (fun h=>hR _ _ _ ⟨by
                      have:¬3<=l.length:=by simp at h;omega
                      simp[this],rfl,rfl⟩) (fun h=>?_)
  have h3:3<=l.length:=by simp at h;omega
  refine hR _ _ _ ⟨?_,rfl,rfl⟩
  have:decide ((8:Int)< l.length)= !(decide (l.length<=8)):=by by_cases h:l.length<=8 <;>simp[h] <;>omega
  rw[this];simp[h3]
 rintro _ _ _ ⟨rfl,rfl,rfl⟩
 rw[aA,aj]
 refine ak (fun h=>?_) (fun h=>?_)
 ·refine⟨?_,Nat.le_refl _⟩
  simp only[Bool.not_eq_true']at h
  simp only[aR,aY,h,Bool.false_and]
 simp only[Bool.not_eq_false',Bool.and_eq_true,decide_eq_true_eq]at h
 obtain⟨h3,h8⟩:=h
 refine Lp.intro (γ:=Nat) (fun i=>l.length-i) (fun i vs mm lo=>vs=[.bool false,.int .i64 i]/\i<=l.length/\m=mm/\lo=m.n/\∀j p,j < i->l[j]?=some p->p.off=false) 0 ⟨rfl,Nat.zero_le _,rfl,rfl,fun j p hj=>by omega⟩ ?_
 rintro i vs mm lo ⟨rfl,hi,rfl,rfl,hoff⟩
 rw[aA,aA,hl.len cX,ar,aH,aa,aj]
 refine ak (fun hlt=>?_) (fun hge=>?_)
 ·have hlt:i < l.length:=by simpa using hlt
  obtain⟨p,hp⟩:∃p,l[i]?=some p:=⟨_,List.getElem?_eq_getElem hlt⟩
  obtain⟨q,e1,e2⟩:=hl.iJ (k:=.i64) hp
  rw[e1,aa,e2,aa]
  refine aC (Gv hX p) ?_
  rw[aX,aa,aj,Bool.not_not]
  refine ak (fun ho=>?_) (fun ho=>?_)
  ·refine⟨?_,by omega⟩
   have:l.any Pl.off=true:=List.any_eq_true.2 ⟨p,List.mem_of_getElem? hp,ho⟩
   simp[aR,aY,this]
  ·rw[aG,aa,wrap64 (by omega) (by omega)]
   refine⟨i+1,by omega,rfl,by omega,rfl,by omega,fun j q hj hq=>?_⟩
   by_cases e:j=i
   ·subst e;rw[hp]at hq;cases hq;exact ho
   ·exact hoff j q (by omega) hq
 have hi':i=l.length:=by
  have:¬(i:Int)< (l.length:Int):=by simpa using hge
  omega
 have hany:l.any Pl.off=false:=by
  rw[List.any_eq_false]
  intro p hp
  obtain⟨j,hj⟩:=List.getElem?_of_mem hp
  rw[hoff j p (by have:=(List.getElem?_eq_some_iff.1 hj).1;omega) hj]
  decide
 have hon:∀p∈l,p.sm 1000000:=fun p hp=>Pl.Gu (by rw[List.any_eq_false]at hany;simpa using hany p hp)
 have hv:∀r,lu l=r->aY l=r:=fun r hr=>by simp[aY,h3,h8,hany,hr]
 refine Lp.intro (γ:=Nat) (fun i=>l.length-i) (fun i vs mm lo=>vs=[.bool false,.int .i64 i]/\i<=l.length/\m=mm/\lo=m.n/\∀j,j < i->FZ l j=true) 0 ⟨rfl,Nat.zero_le _,rfl,rfl,fun j hj=>by omega⟩ ?_
 rintro i vs mm lo ⟨rfl,hi,rfl,rfl,hrow⟩
 rw[aA,aA,hl.len cX,ar,aH,aa,aj]
 refine ak (fun hlt=>?_) (fun hge=>?_)
 ·have hlt:i < l.length:=by simpa using hlt
  obtain⟨pa,hpa⟩:∃p,l[i]?=some p:=⟨_,List.getElem?_eq_getElem hlt⟩
  have hnx:(i+1)%l.length < l.length:=Nat.mod_lt _ (by omega)
  obtain⟨pb,hpb⟩:∃p,l[(i+1)%l.length]?=some p:=⟨_,List.getElem?_eq_getElem hnx⟩
  refine Lp.intro (γ:=Nat) (fun k=>l.length-k) (fun k vs mm lo=>vs=[.bool false,.int .i64 k]/\k<=l.length/\m=mm/\lo=m.n/\∀j c,j < k->l[j]?=some c->j=i\/j=(i+1)%l.length\/0 < dn pa pb c) 0 ⟨rfl,Nat.zero_le _,rfl,rfl,fun j c hj=>by omega⟩ ?_
  rintro k vs mm lo ⟨rfl,hk,rfl,rfl,hcor⟩
  rw[aA,aA,hl.len cX,ar,aH,aa,aj]
  refine ak (fun hlt2=>?_) (fun hge2=>?_)
  ·have hlt2:k < l.length:=by simpa using hlt2
   obtain⟨pc,hpc⟩:∃p,l[k]?=some p:=⟨_,List.getElem?_eq_getElem hlt2⟩
   refine bY (fun vs mm lo=>vs=[.bool (!(k==i ||k==(i+1)%l.length ||decide (0 < dn pa pb pc)))]/\m=mm/\lo=m.n) (fun R hR=>?_) ?_
   ·rw[bI,aa,aj]
    refine ak (fun hne=>?_) (fun he=>?_)
    ·have hne:k≠i:=by simp at hne;omega
     rw[aG,aa,wrap64 (by omega) (by omega),ar,show((i:Int)+1)=((i+1:Nat):Int) by omega,kG (by omega),aa,bI,aa,aj]
     refine ak (fun hne2=>?_) (fun he2=>?_)
     ·have hne2:k≠(i+1)%l.length:=by intro e;rw[e]at hne2;simp at hne2
      obtain⟨q,e1,e2⟩:=hl.iJ (k:=.i64) hpa
      rw[e1,aa,e2,aa]
      refine aC (AG hX hl hb hlt hpb) ⟨Nat.le_refl _,?_⟩
      obtain⟨q,e1,e2⟩:=hl.iJ (k:=.i64) hpc
      rw[e1,aa,e2,aa]
      refine aC (xD hX (hon _ (List.mem_of_getElem? hpa)) (hon _ (List.mem_of_getElem? hpb)) (hon _ (List.mem_of_getElem? hpc))) ?_
      rw[cK,aa]
      refine hR _ _ _ ⟨?_,rfl,by omega⟩
      have:decide (dn pa pb pc<=0)= !(decide (0 < dn pa pb pc)):=by by_cases h:dn pa pb pc<=0 <;>simp[h] <;>omega
      rw[this]
      simp[hne,hne2]
     ·refine hR _ _ _ ⟨?_,rfl,rfl⟩
      have:k=(i+1)%l.length:=by
       have h':(k:Int)=(((i+1)%l.length:Nat):Int):=by simpa using he2
       omega
      simp[this]
    ·refine hR _ _ _ ⟨?_,rfl,rfl⟩
     have:k=i:=by simp at he;omega
     simp[this]
   ·rintro _ _ _ ⟨rfl,rfl,rfl⟩
    rw[aA,aj]
    refine ak (fun hbad=>?_) (fun hgood=>?_)
    ·have hc:lu l=false:=by
      cases hc:lu l with
      |false=>rfl
      |true=>
       simp only[lu,List.all_eq_true,List.mem_range]at hc
       have h2:=(om hpa hpb).1 (hc i hlt) k pc hpc
       simp only[Bool.not_eq_true',Bool.or_eq_false_iff,beq_eq_false_iff_ne,decide_eq_false_iff_not]at hbad
       omega
     exact⟨by rw[hv false hc];rfl,Nat.le_refl _⟩
    ·rw[aG,aa,wrap64 (by omega) (by omega)]
     refine⟨k+1,by omega,rfl,by omega,rfl,rfl,fun j c hj hc=>?_⟩
     by_cases hjk:j < k
     ·exact hcor j c hjk hc
     ·have:j=k:=by omega
      subst this
      rw[hpc]at hc;cases hc
      simp only[Bool.not_eq_false',Bool.or_eq_true,beq_iff_eq,decide_eq_true_eq]at hgood
      omega
  ·have hk':k=l.length:=by
    have:¬(k:Int)< (l.length:Int):=by simpa using hge2
    omega
   rw[aG,aa,wrap64 (by omega) (by omega)]
   refine⟨i+1,by omega,rfl,by omega,rfl,rfl,fun j hj=>?_⟩
   by_cases hji:j < i
   ·exact hrow j hji
   ·have:j=i:=by omega
    subst this
    rw[om hpa hpb]
    intro q c hq
    exact hcor q c (by have:=(List.getElem?_eq_some_iff.1 hq).1;omega) hq
 ·have hi':i=l.length:=by
   have:¬(i:Int)< (l.length:Int):=by simpa using hge
   omega
  have hc:lu l=true:=List.all_eq_true.2 fun j hj=>hrow j (by rw[List.mem_range]at hj;omega)
  exact⟨by rw[hv true hc];rfl,Nat.le_refl _⟩
end Go.Proofs.YtmdfgncoekfgdaaGreatDoor
namespace Go.Proofs.YtmdfgncoekfgdaaGreatDoor
open Go Go.D
variable {X:aF} {m:M}
abbrev wr(x:Int):Int:=IntKind.i64.wrap x
theorem Bj(x:Int):wr x=if x%18446744073709551616>=9223372036854775808 then x%18446744073709551616-18446744073709551616 else x%18446744073709551616:=by
 unfold wr IntKind.wrap
 simp[IntKind.bits,IntKind.signed]
theorem pj(x:Int):wr x%18446744073709551616=x%18446744073709551616:=by
 rw[Bj];split <;>omega
theorem ke{x y:Int}(h:x%18446744073709551616=y%18446744073709551616):wr x=wr y:=by
 rw[Bj,Bj,h]
theorem wN(a b:Int):IntKind.i64.wrap (IntKind.i64.wrap a+b)=IntKind.i64.wrap (a+b):=ke (by
 have:=pj a
 show(wr a+b)%_=_
 omega)
theorem wM(a b:Int):IntKind.i64.wrap (a+IntKind.i64.wrap b)=IntKind.i64.wrap (a+b):=ke (by
 have:=pj b
 show(a+wr b)%_=_
 omega)
theorem rf(a b:Int):IntKind.i64.wrap (IntKind.i64.wrap a-b)=IntKind.i64.wrap (a-b):=ke (by
 have:=pj a
 show(wr a-b)%_=_
 omega)
theorem re(a b:Int):IntKind.i64.wrap (a-IntKind.i64.wrap b)=IntKind.i64.wrap (a-b):=ke (by
 have:=pj b
 show(a-wr b)%_=_
 omega)
theorem wL(a b:Int):IntKind.i64.wrap (IntKind.i64.wrap a*b)=IntKind.i64.wrap (a*b):=ke (by
 have:=pj a
 show(wr a*b)%_=_
 rw[Int.mul_emod,this,<-Int.mul_emod])
theorem wK(a b:Int):IntKind.i64.wrap (a*IntKind.i64.wrap b)=IntKind.i64.wrap (a*b):=ke (by
 have:=pj b
 show(a*wr b)%_=_
 rw[Int.mul_emod,this,<-Int.mul_emod])
def me(N x:Int):Prop:= -N<=x/\x<=N
theorem me.mul{A B a b:Int}(ha:me A a)(hb:me B b):me (A*B) (a*b):=by
 obtain⟨a1,a2⟩:=ha
 obtain⟨b1,b2⟩:=hb
 have h1:0<=(A-a)*(B+b):=Int.mul_nonneg (by omega) (by omega)
 have h2:0<=(A+a)*(B-b):=Int.mul_nonneg (by omega) (by omega)
 have h3:0<=(A-a)*(B-b):=Int.mul_nonneg (by omega) (by omega)
 have h4:0<=(A+a)*(B+b):=Int.mul_nonneg (by omega) (by omega)
 constructor <;>grind
theorem me.add{A B a b:Int}(ha:me A a)(hb:me B b):me (A+B) (a+b):=by
 obtain⟨a1,a2⟩:=ha
 obtain⟨b1,b2⟩:=hb
 constructor <;>omega
theorem me.sub{A B a b:Int}(ha:me A a)(hb:me B b):me (A+B) (a-b):=by
 obtain⟨a1,a2⟩:=ha
 obtain⟨b1,b2⟩:=hb
 constructor <;>omega
theorem me.wr{N x:Int}(h:me N x)(hN:N < 9223372036854775808):IntKind.i64.wrap x=x:=wrap64 (by have:=h.1;omega) (by have:=h.2;omega)
structure Ln where
 v:pd.V
structure Pt where
 v:pd.V
def vC(p:pd.V):List Value:=[.int .i64 p.x,.int .i64 p.y,.int .i64 p.w]
instance:aL Ln where
 ty:=234
 sz:=3
 agg:=true
 fR:=[]
 rep _ p cs:=cs=vC p.v
 pos:=by decide
 one:=by intro h;cases h
 len:=by rintro _ _ _ rfl;rfl
 nB:=by rintro _ _ _ rfl;rfl
 bt:=by rintro _ _ _ _ rfl _;rfl
instance:aL Pt where
 ty:=236
 sz:=3
 agg:=true
 fR:=[]
 rep _ p cs:=cs=vC p.v
 pos:=by decide
 one:=by intro h;cases h
 len:=by rintro _ _ _ rfl;rfl
 nB:=by rintro _ _ _ rfl;rfl
 bt:=by rintro _ _ _ _ rfl _;rfl
theorem uR:uF TE 230 234 Ln:=⟨af.t230,af.t234,by kernel_rfl,⟨_,rfl⟩,rfl,by kernel_rfl,rfl,rfl⟩
theorem Iu:EC TE 230 Ln:=⟨af.t230,af.t234,by kernel_rfl,rfl,rfl,by kernel_rfl,by decide,rfl⟩
theorem FQ:uF TE 232 236 Pt:=⟨af.t232,af.t236,by kernel_rfl,⟨_,rfl⟩,rfl,by kernel_rfl,rfl,rfl⟩
theorem Nb:EC TE 232 Pt:=⟨af.t232,af.t236,by kernel_rfl,rfl,rfl,by kernel_rfl,by decide,rfl⟩
theorem row_one{α:Type}[aL α]{b:Nat}{cs:List Value}{x:α}{g:Option Nat}(h:m.get b=.cells cs (aL.ty α) g)(hr:aL.rep m x cs):Sl m [x] (.slice (some ⟨b,0,none⟩) 1 1):=by
 refine .inr ⟨b,0,1,cs,g,rfl,h,by rw[aL.len hr];simp,fun i y hi=>?_⟩
 match i with
 |0=>
  cases hi
  have:(cs.drop (0+0*aL.sz α)).take (aL.sz α)=cs:=by
   rw[Nat.zero_mul,Nat.zero_add,List.drop_zero,List.take_of_length_le (by rw[aL.len hr];exact Nat.le_refl _)]
  rw[this];exact hr
 |i+1=>simp at hi
theorem wu{l:List Pl}{i:Nat}{p:Pl}(h:l[i]?=some p):gj l i=p:=by unfold gj;rw[h];rfl
theorem yM(hX:cW X){l:List Pl}{v:Value}(hl:Sl m l v)(hv:aY l=true):∃r m',C X (.func 167) [v] m m.n r m'/\Ext m m'/\Ow m.n m' ((lU l).map Ln.mk) r:=by
 have key:∃r m' b,C X (.func 167) [v] m b r m'/\b=m.n/\Ext m m'/\Ow m.n m' ((lU l).map Ln.mk) r:=by
  obtain⟨h3,h8⟩:=dD hv
  have hon:=gY hv
  refine Cl.heap (R:=fun r m' b=>b=m.n/\Ext m m'/\Ow m.n m' ((lU l).map Ln.mk) r) (hX.no _ rfl) Mg rfl ?_
  rw[Q7];dsimp only[aI]
  refine Lp.intro (γ:=Nat) (fun i=>l.length-i) (fun i vs mm lo=>∃r,vs=[r,.int .i64 i]/\i<=l.length/\Ext m mm/\m.n<=lo/\Ow m.n mm (((List.range i).map (ef l)).map Ln.mk) r) 0 ⟨_,rfl,Nat.zero_le _,.refl,Nat.le_refl _,.nil⟩ ?_
  rintro i vs mm lo ⟨r,rfl,hi,hx,hlo,how⟩
  have hn:=hx.n
  rw[aA,aA,(hl.aB hx).len cX,ar,aH,aa,aj]
  refine ak (fun hlt=>?_) (fun hge=>?_)
  ·have hlt:i < l.length:=by simpa using hlt
   obtain⟨p,hp⟩:∃p,l[i]?=some p:=⟨_,List.getElem?_eq_getElem hlt⟩
   obtain⟨q,hq⟩:∃p,l[(i+1)%l.length]?=some p:=⟨_,List.getElem?_eq_getElem (Nat.mod_lt _ (by omega))⟩
   obtain⟨a,e1,e2⟩:=(hl.aB hx).iJ (k:=.i64) hp
   rw[e1,aa,e2,aa]
   refine au fun m13 hn13 hg13 hk13=>?_
   unfold ptrTo
   refine aD gZ hg13 rfl rfl rfl fun m14 hn14 hg14 hk14=>?_
   have hx14:Ext mm m14:=⟨by omega,fun b hb=>by rw[hk14 b (by omega),hk13 b hb]⟩
   refine aC (AG hX ((hl.aB hx).aB hx14) (by omega) hlt hq) ?_
   refine au fun m19 hn19 hg19 hk19=>?_
   refine aD gZ hg19 rfl rfl rfl fun m20 hn20 hg20 hk20=>?_
   have hx20:Ext m14 m20:=⟨by omega,fun b hb=>by rw[hk20 b (by omega),hk19 b hb]⟩
   have g1:m20.get mm.n=.cells [.int .i64 p.x,.int .i64 p.y] 98 none:=by rw[hx20.get _ (by omega),hg14];rfl
   have g2:m20.get m14.n=.cells [.int .i64 q.x,.int .i64 q.y] 98 none:=hg20
   have bp:=Pl.on (hon p (List.mem_of_getElem? hp))
   have bq:=Pl.on (hon q (List.mem_of_getElem? hq))
   have b1:me 40 p.x:=⟨by omega,by omega⟩
   have b2:me 40 p.y:=⟨by omega,by omega⟩
   have b3:me 80 (q.x-p.x):=⟨by omega,by omega⟩
   have b4:me 80 (q.y-p.y):=⟨by omega,by omega⟩
   have w3:IntKind.i64.wrap ((q.y-p.y)*p.x-(q.x-p.x)*p.y)=(q.y-p.y)*p.x-(q.x-p.x)*p.y:=((b4.mul b1).sub (b3.mul b2)).wr (by decide)
   have w1:IntKind.i64.wrap (p.y-q.y)=p.y-q.y:=wrap64 (by omega) (by omega)
   have w2:IntKind.i64.wrap (q.x-p.x)=q.x-p.x:=wrap64 (by omega) (by omega)
   simp only[bK,cr,bu,av g1,av g2,Nat.zero_add,List.getElem?_cons_zero,List.getElem?_cons_succ,aa,cz,cA,rf,re,wL,wK,w1,w2,w3]
   have bl:∀a b c:Int,aO TE 234 [(0,.int .i64 a),(1,.int .i64 b),(2,.int .i64 c)]=some (.agg #[.int .i64 a,.int .i64 b,.int .i64 c]):=fun a b c=>qI rfl rfl rfl
   rw[bl,aa]
   obtain⟨L,hL⟩:∃L:pd.V,L=⟨p.y-q.y,q.x-p.x,(q.y-p.y)*p.x-(q.x-p.x)*p.y⟩:=⟨_,rfl⟩
   have hLs:ef l i=L:=by unfold ef iI;rw[wu hp,wu hq,hL]
   have hbs:∀a b c:Int,az TE m20 230 1 [(0,.agg #[.int .i64 a,.int .i64 b,.int .i64 c])]=some (.slice (some ⟨m20.n,0,none⟩) 1 1,m20.push (.cells [.int .i64 a,.int .i64 b,.int .i64 c] 234 none)):=fun a b c=>by kernel_rfl
   rw[hbs,ar]
   have hx51:Ext m20 (m20.push (.cells [.int .i64 (p.y-q.y),.int .i64 (q.x-p.x),.int .i64 ((q.y-p.y)*p.x-(q.x-p.x)*p.y)] 234 none)):=Ext.refl.push
   generalize hm51:m20.push (.cells [.int .i64 (p.y-q.y),.int .i64 (q.x-p.x),.int .i64 ((q.y-p.y)*p.x-(q.x-p.x)*p.y)] 234 none)=m51 at*
   have hg51:m51.get m20.n=.cells (vC L) 234 none:=by rw[<-hm51,hL];exact M.aN
   have hn51:m51.n=m20.n+1:=by rw[<-hm51];rfl
   obtain⟨v',m53,ha,ho53,hf53,hl53,hn53⟩:=Ow.append (y:=.slice (some ⟨m20.n,0,none⟩) 1 1) (ys:=[Ln.mk L]) Iu (by simp[aL.fR]) (how.aB (hx14.trans (hx20.trans hx51))) (row_one hg51 rfl) (by omega) (by simp;omega)
   rw[ha,ar,aG,aa,wrap64 (by omega) (by omega)]
   have h53:=hf53.n
   refine⟨i+1,by omega,v',rfl,by omega,⟨by omega,fun b hb=>by rw[hf53.get b hb,hx51.get b (by omega),hx20.get b (by omega),hx14.get b (by omega),hx.get b hb]⟩,by omega,?_⟩
   rw[List.range_succ,List.map_append,List.map_append]
   show Ow m.n m53 (_++ [Ln.mk (ef l i)]) v'
   rw[hLs]
   exact ho53
  ·have hi':i=l.length:=by
    have:¬(i:Int)< (l.length:Int):=by simpa using hge
    omega
   subst hi'
   refine⟨.inl (how.flat ?_),by omega,hx,how⟩
   intro h
   have:=congrArg List.length h
   rw[List.length_map,List.length_map,List.length_range,List.length_nil]at this
   omega
 obtain⟨r,m',b,hc,rfl,h1,h2⟩:=key
 exact⟨r,m',hc,h1,h2⟩
end Go.Proofs.YtmdfgncoekfgdaaGreatDoor
namespace Go.Proofs.YtmdfgncoekfgdaaGreatDoor
open Go Go.D Go.pd
variable {X:aF} {m:M}
theorem GF{L:List Ln}{v:Value}(h:Sl m L v){i:Nat}{x:Ln}(hx:L[i]?=some x):∃a a0 a1 a2,ai TE 230 v (.int .i64 i)=some a/\ae TE 234 a 0=some a0/\ag TE m 3 a0=some (.int .i64 x.v.x)/\
  ae TE 234 a 1=some a1/\ag TE m 3 a1=some (.int .i64 x.v.y)/\ae TE 234 a 2=some a2/\ag TE m 3 a2=some (.int .i64 x.v.w):=by
 obtain⟨b,o,bc,g,cs,e1,hb,hr,_,hj⟩:=h.kQ uR (k:=.i64) hx
 have hr:cs=vC x.v:=hr
 subst hr
 refine⟨_,_,_,_,e1,qF,?_,qE,?_,qD,?_⟩
 ·rw[bu,av hb,hj 0 (by decide)];rfl
 ·rw[bu,av hb,hj 1 (by decide)];rfl
 ·rw[bu,av hb,hj 2 (by decide)];rfl
theorem Gd{L:List Pt}{v:Value}(h:Sl m L v){i:Nat}{x:Pt}(hx:L[i]?=some x):∃a,ai TE 232 v (.int .i64 i)=some a/\ag TE m 236 a=some (.agg (vC x.v).toArray):=by
 obtain⟨p,cs,e1,e2,e3⟩:=h.index FQ (k:=.i64) hx
 have e3:cs=vC x.v:=e3
 subst e3
 exact⟨p,e1,e2⟩
def Ph(p:V):Prop:=me 80 p.x/\me 80 p.y/\me 6400 p.w
def NC(p:V):Prop:=me 1024000 p.x/\me 1024000 p.y/\me 12800 p.w
theorem me.mono{A B x:Int}(h:me A x)(hB:A<=B):me B x:=⟨by have:=h.1;omega,by have:=h.2;omega⟩
theorem me.neg{A x:Int}(h:me A x):me A (-x):=⟨by have:=h.2;omega,by have:=h.1;omega⟩
theorem BJ{f g:V}(hf:Ph f)(hg:Ph g):NC (meet f g):=by
 obtain⟨f1,f2,f3⟩:=hf
 obtain⟨g1,g2,g3⟩:=hg
 exact⟨((f2.mul g3).sub (g2.mul f3)).mono (by decide),((f3.mul g1).sub (g3.mul f1)).mono (by decide),((f1.mul g2).sub (g1.mul f2)).mono (by decide)⟩
theorem BG{p:V}(h:NC p):NC (norm p):=by
 unfold norm
 split
 ·exact⟨h.1.neg,h.2.1.neg,h.2.2.neg⟩
 ·exact h
def EH(L:List Ln)(p:V):Bool:=L.all fun x=>decide (0<=x.v.dot p)
set_option maxRecDepth 100000 in
theorem BT{L:List Ln}{v21 va:Value}{B n1 k lo0:Nat}{acc:List Pt}{p:V}{mm:M}{P:List Value->M->Nat->Prop}(hL:Sl mm L v21)(hB:mm.get B=.cells (vC p) 236 none)(hacc:Ow n1 mm acc va)(hn1:n1<=mm.n)
  (hbL:∀x∈L,Ph x.v) (hbp:NC p) (hacl:acc.length<=1000) (hk:k < 1000) (hlen:L.length<=16)
  (hP:∀va' m' lo',mm.n<=m'.n->(∀c,c < n1->m'.get c=mm.get c)->min lo0 n1<=lo'->Ow n1 m' (if EH L p then acc++ [Pt.mk p]else acc) va'->P [va',.int .i64 ((k+1:Nat):Int)] m' lo'):
  (Lp (fun P112 vs113 m114 lo115=>un vs113 fun v116 r117=>un r117 fun v118 r119=>(aK (an TE m114 .len [230] [v21]) fun v120 _=>(ah (aq TE .lss 3 v118 v120) fun v121=>(aW v121
(aW v116
(ah (ai TE 230 v21 v118) fun v122=>(ah (ae TE 234 v122 0) fun v123=>(ah (ag TE m114 3 v123) fun v124=>(ah (ae TE 236 (ptrTo B) 0) fun v125=>(ah (ag TE m114 3 v125) fun v126=>(ah (aq TE .mul 3 v124 v126) fun v127=>(ah (ai TE 230 v21 v118) fun v128=>(ah (ae TE 234 v128 1) fun v129=>(ah (ag TE m114 3 v129) fun v130=>(ah (ae TE 236 (ptrTo B) 1) fun v131=>(ah (ag TE m114 3 v131) fun v132=>(ah (aq TE .mul 3 v130 v132) fun v133=>(ah (aq TE .add 3 v127 v133) fun v134=>(ah (ai TE 230 v21 v118) fun v135=>(ah (ae TE 234 v135 2) fun v136=>(ah (ag TE m114 3 v136) fun v137=>(ah (ae TE 236 (ptrTo B) 2) fun v138=>(ah (ag TE m114 3 v138) fun v139=>(ah (aq TE .mul 3 v137 v139) fun v140=>(ah (aq TE .add 3 v134 v140) fun v141=>(ah (aq TE .geq 3 v141 (.int .i64 0)) fun v142=>(ah (aq TE .add 3 v118 (.int .i64 1)) fun v143=>(P112 [v142,v143] m114 lo115)))))))))))))))))))))))
(ah (aq TE .add 3 v118 (.int .i64 1)) fun v144=>(P112 [(.bool false),v144] m114 lo115)))
(aW v116
(ah (ag TE m114 236 (ptrTo B)) fun v145=>(aK (az TE m114 232 1 [(0,v145)]) fun v146 m147=>(aK (an TE (M.wl m147 (M.n m147)) .append [232,232] [va,v146]) fun v148 m149=>(ah (aq TE .add 3 (.int .i64 k) (.int .i64 1)) fun v150=>(P [v148,v150] m149 (min lo115 (M.low m149)))))))
(ah (aq TE .add 3 (.int .i64 k) (.int .i64 1)) fun v151=>(P [va,v151] m114 lo115))))))) [(.bool true),(.int .i64 0)] mm lo0):=by
 refine Lp.intro (γ:=Nat) (fun i=>L.length-i) (fun i vs m' lo=>vs=[.bool (EH (L.take i) p),.int .i64 i]/\i<=L.length/\mm=m'/\lo0=lo) 0 ⟨rfl,Nat.zero_le _,rfl,rfl⟩ ?_
 rintro i vs m' lo ⟨rfl,hi,rfl,rfl⟩
 rw[aA,aA,hL.len uR,ar,aH,aa,aj,aj]
 refine ak (fun hlt=>?_) (fun hge=>?_)
 ·have hlt:i < L.length:=by simpa using hlt
  obtain⟨x,hx⟩:∃x,L[i]?=some x:=⟨_,List.getElem?_eq_getElem hlt⟩
  have hstep:EH (L.take (i+1)) p=(EH (L.take i) p && decide (0<=x.v.dot p)):=by
   unfold EH
   rw[List.take_add_one,hx,Option.toList_some,List.all_append]
   simp
  refine ak (fun hin=>?_) (fun hin=>?_)
  ·obtain⟨a,a0,a1,a2,e1,f0,l0,f1,l1,f2,l2⟩:=GF hL hx
   have hB':mm.get B=.cells [.int .i64 p.x,.int .i64 p.y,.int .i64 p.w] 236 none:=hB
   obtain⟨b1,b2,b3⟩:=hbL x (List.mem_of_getElem? hx)
   obtain⟨c1,c2,c3⟩:=hbp
   have hw:IntKind.i64.wrap (x.v.x*p.x+x.v.y*p.y+x.v.w*p.w)=x.v.dot p:=(((b1.mul c1).add (b2.mul c2)).add (b3.mul c3)).wr (by decide)
   simp only[e1,f0,l0,f1,l1,f2,l2,aa,ptrTo,iC,iB,iA,bu,av hB',Nat.zero_add,List.getElem?_cons_zero,List.getElem?_cons_succ,cA,aG,wN,wM,hw,ck]
   rw[wrap64 (by omega) (by omega)]
   exact⟨i+1,by omega,by rw[hstep,hin,Bool.true_and];rfl,by omega,by first |rfl |trivial,by first |rfl |trivial⟩
  ·rw[aG,aa,wrap64 (by omega) (by omega)]
   exact⟨i+1,by omega,by rw[hstep,hin,Bool.false_and];rfl,by omega,rfl,rfl⟩
 ·have hi':i=L.length:=by
   have:¬(i:Int)< (L.length:Int):=by simpa using hge
   omega
  subst hi'
  rw[List.take_of_length_le (Nat.le_refl _)]
  refine ak (fun hin=>?_) (fun hin=>?_)
  ·unfold ptrTo
   rw[GD,aE hB (by simp[vC])]
   show ah (some (Value.agg #[.int .i64 p.x,.int .i64 p.y,.int .i64 p.w])) _
   rw[aa]
   have hbs:az TE mm 232 1 [(0,.agg #[.int .i64 p.x,.int .i64 p.y,.int .i64 p.w])]=some (.slice (some ⟨mm.n,0,none⟩) 1 1,mm.push (.cells (vC p) 236 none)):=by kernel_rfl
   rw[hbs,ar]
   have hx1:Ext mm (mm.push (.cells (vC p) 236 none)):=Ext.refl.push
   generalize hm1:mm.push (.cells (vC p) 236 none)=m1 at*
   have hg1:m1.get mm.n=.cells (vC p) 236 none:=by rw[<-hm1];exact M.aN
   have hn1':m1.n=mm.n+1:=by rw[<-hm1];rfl
   obtain⟨v',m2,ha,ho2,hf2,hl2,hn2⟩:=Ow.append (y:=.slice (some ⟨mm.n,0,none⟩) 1 1) (ys:=[Pt.mk p]) Nb (by simp[aL.fR]) (hacc.aB hx1) (row_one hg1 rfl) (by omega) (by simp;omega)
   rw[ha,ar,aG,aa,wrap64 (by omega) (by omega)]
   have h2:=hf2.n
   refine hP v' m2 _ (by omega) (fun c hc=>by rw[hf2.get c hc,hx1.get c (by omega)]) (by omega) ?_
   rw[if_pos hin]
   exact ho2
  ·rw[aG,aa,wrap64 (by omega) (by omega)]
   refine hP va mm lo0 (Nat.le_refl _) (fun _ _=>rfl) (by omega) ?_
   rw[if_neg (by rw[hin];decide)]
   exact hacc
set_option maxRecDepth 100000 in
theorem FL{va:Value}{lo0 n1:Nat}{acc:List Pt}{mm:M}{R:List Value->M->Nat->Prop}(hacc:Sl mm acc va)(hbp:∀x∈acc,NC x.v)(hacl:acc.length<=1000)(hn1:n1<=mm.n)
  (hT:∀m' lo' (u v w:Pt),u∈acc->v∈acc->w∈acc->ji u.v v.v w.v≠0->min lo0 n1<=lo'->R [.bool true] m' lo')
  (hF:∀m' lo',(∀(i k n:Nat) (u v w:Pt),n < k->k < i->acc[i]?=some u->acc[k]?=some v->acc[n]?=some w->ji u.v v.v w.v=0)->min lo0 n1<=lo'->R [.bool false] m' lo'):
  (Lp (fun P193 vs194 m195 lo196=>un vs194 fun v197 r198=>un r198 fun v199 r200=>(aK (an TE m195 .len [232] [va]) fun v201 _=>(ah (aq TE .lss 3 v199 v201) fun v202=>(aW v202
(Lp (fun P203 vs204 m205 lo206=>un vs204 fun v207 r208=>un r208 fun v209 r210=>(ah (aq TE .lss 3 v209 v199) fun v211=>(aW v211
(Lp (fun P212 vs213 m214 lo215=>un vs213 fun v216 r217=>un r217 fun v218 r219=>(ah (aq TE .lss 3 v218 v209) fun v220=>(aW v220
(ah (ai TE 232 va v199) fun v221=>(ah (ag TE m214 236 v221) fun v222=>(bW (M.push m214 (.cells [(.int .i64 0),(.int .i64 0),(.int .i64 0)] 236 none)) fun m223=>(aK (aw TE m223 236 (ptrTo (M.n m214)) v222) fun m224 b225=>(ah (ai TE 232 va v209) fun v226=>(ah (ag TE m224 236 v226) fun v227=>(bW (M.push m224 (.cells [(.int .i64 0),(.int .i64 0),(.int .i64 0)] 236 none)) fun m228=>(aK (aw TE m228 236 (ptrTo (M.n m224)) v227) fun m229 b230=>(ah (ai TE 232 va v218) fun v231=>(ah (ag TE m229 236 v231) fun v232=>(bW (M.push m229 (.cells [(.int .i64 0),(.int .i64 0),(.int .i64 0)] 236 none)) fun m233=>(aK (aw TE m233 236 (ptrTo (M.n m229)) v232) fun m234 b235=>(ah (ae TE 236 (ptrTo (M.n m214)) 0) fun v236=>(ah (ag TE m234 3 v236) fun v237=>(ah (ae TE 236 (ptrTo (M.n m224)) 1) fun v238=>(ah (ag TE m234 3 v238) fun v239=>(ah (ae TE 236 (ptrTo (M.n m229)) 2) fun v240=>(ah (ag TE m234 3 v240) fun v241=>(ah (aq TE .mul 3 v239 v241) fun v242=>(ah (ae TE 236 (ptrTo (M.n m224)) 2) fun v243=>(ah (ag TE m234 3 v243) fun v244=>(ah (ae TE 236 (ptrTo (M.n m229)) 1) fun v245=>(ah (ag TE m234 3 v245) fun v246=>(ah (aq TE .mul 3 v244 v246) fun v247=>(ah (aq TE .sub 3 v242 v247) fun v248=>(ah (aq TE .mul 3 v237 v248) fun v249=>(ah (ae TE 236 (ptrTo (M.n m214)) 1) fun v250=>(ah (ag TE m234 3 v250) fun v251=>(ah (ae TE 236 (ptrTo (M.n m224)) 0) fun v252=>(ah (ag TE m234 3 v252) fun v253=>(ah (ae TE 236 (ptrTo (M.n m229)) 2) fun v254=>(ah (ag TE m234 3 v254) fun v255=>(ah (aq TE .mul 3 v253 v255) fun v256=>(ah (ae TE 236 (ptrTo (M.n m224)) 2) fun v257=>(ah (ag TE m234 3 v257) fun v258=>(ah (ae TE 236 (ptrTo (M.n m229)) 0) fun v259=>(ah (ag TE m234 3 v259) fun v260=>(ah (aq TE .mul 3 v258 v260) fun v261=>(ah (aq TE .sub 3 v256 v261) fun v262=>(ah (aq TE .mul 3 v251 v262) fun v263=>(ah (aq TE .sub 3 v249 v263) fun v264=>(ah (ae TE 236 (ptrTo (M.n m214)) 2) fun v265=>(ah (ag TE m234 3 v265) fun v266=>(ah (ae TE 236 (ptrTo (M.n m224)) 0) fun v267=>(ah (ag TE m234 3 v267) fun v268=>(ah (ae TE 236 (ptrTo (M.n m229)) 1) fun v269=>(ah (ag TE m234 3 v269) fun v270=>(ah (aq TE .mul 3 v268 v270) fun v271=>(ah (ae TE 236 (ptrTo (M.n m224)) 1) fun v272=>(ah (ag TE m234 3 v272) fun v273=>(ah (ae TE 236 (ptrTo (M.n m229)) 0) fun v274=>(ah (ag TE m234 3 v274) fun v275=>(ah (aq TE .mul 3 v273 v275) fun v276=>(ah (aq TE .sub 3 v271 v276) fun v277=>(ah (aq TE .mul 3 v266 v277) fun v278=>(ah (aq TE .add 3 v264 v278) fun v279=>(ah (aq TE .neq 3 v279 (.int .i64 0)) fun v280=>(aW v280
(R [(.bool true)] m234 (min (min (min lo215 b225) b230) b235))
(ah (aq TE .add 3 v218 (.int .i64 1)) fun v281=>(P212 [v216,v281] m234 (min (min (min lo215 b225) b230) b235)))))))))))))))))))))))))))))))))))))))))))))))))))))))))))))
(ah (aq TE .add 3 v209 (.int .i64 1)) fun v282=>(P203 [v216,v282] m214 lo215))))) [v207,(.int .i64 0)] m205 lo206)
(ah (aq TE .add 3 v199 (.int .i64 1)) fun v283=>(P193 [v207,v283] m205 lo206))))) [v197,(.int .i64 0)] m195 lo196)
(R [(.bool false)] m195 lo196))))) [(.bool false),(.int .i64 0)] mm lo0):=by
 refine Lp.intro (γ:=Nat) (fun i=>acc.length-i) (fun i vs m' lo=>vs=[.bool false,.int .i64 i]/\i<=acc.length/\Ext mm m'/\min lo0 n1<=lo/\∀(i' k n:Nat) (u v w:Pt),i' < i->n < k->k < i'->acc[i']?=some u->acc[k]?=some v->acc[n]?=some w->ji u.v v.v w.v=0) 0 ⟨rfl,Nat.zero_le _,.refl,Nat.min_le_left _ _,fun i' _ _ _ _ _ h=>by omega⟩ ?_
 rintro i vs m1 lo1 ⟨rfl,hi,hx1,hlo1,hz1⟩
 rw[aA,aA,(hacc.aB hx1).len FQ,ar,aH,aa,aj]
 refine ak (fun hlt=>?_) (fun hge=>?_)
 ·have hlt:i < acc.length:=by simpa using hlt
  obtain⟨u,hu⟩:∃u,acc[i]?=some u:=⟨_,List.getElem?_eq_getElem hlt⟩
  refine Lp.intro (γ:=Nat) (fun k=>i-k) (fun k vs m' lo=>vs=[.bool false,.int .i64 k]/\k<=i/\Ext mm m'/\min lo0 n1<=lo/\∀(k' n:Nat) (v w:Pt),k' < k->n < k'->acc[k']?=some v->acc[n]?=some w->ji u.v v.v w.v=0) 0 ⟨rfl,Nat.zero_le _,hx1,hlo1,fun k' _ _ _ h=>by omega⟩ ?_
  rintro k vs m2 lo2 ⟨rfl,hk,hx2,hlo2,hz2⟩
  rw[aA,aA,aH,aa,aj]
  refine ak (fun hlt2=>?_) (fun hge2=>?_)
  ·have hlt2:k < i:=by simpa using hlt2
   obtain⟨v,hv⟩:∃u,acc[k]?=some u:=⟨_,List.getElem?_eq_getElem (by omega)⟩
   refine Lp.intro (γ:=Nat) (fun n=>k-n) (fun n vs m' lo=>vs=[.bool false,.int .i64 n]/\n<=k/\Ext mm m'/\min lo0 n1<=lo/\∀(n':Nat) (w:Pt),n' < n->acc[n']?=some w->ji u.v v.v w.v=0) 0 ⟨rfl,Nat.zero_le _,hx2,hlo2,fun n' _ h=>by omega⟩ ?_
   rintro n vs m3 lo3 ⟨rfl,hn,hx3,hlo3,hz3⟩
   rw[aA,aA,aH,aa,aj]
   refine ak (fun hlt3=>?_) (fun hge3=>?_)
   ·have hlt3:n < k:=by simpa using hlt3
    obtain⟨w,hw⟩:∃u,acc[n]?=some u:=⟨_,List.getElem?_eq_getElem (by omega)⟩
    have hm3:=hx3.n
    obtain⟨a,e1,e2⟩:=Gd (hacc.aB hx3) hu
    rw[e1,aa,e2,aa]
    unfold ptrTo
    refine au fun m4 hn4 hg4 hk4=>?_
    refine aD rk hg4 rfl rfl rfl fun m5 hn5 hg5 hk5=>?_
    have hx5:Ext m3 m5:=⟨by omega,fun b hb=>by rw[hk5 b (by omega),hk4 b hb]⟩
    obtain⟨a,e1,e2⟩:=Gd (hacc.aB (hx3.trans hx5)) hv
    rw[e1,aa,e2,aa]
    refine au fun m6 hn6 hg6 hk6=>?_
    refine aD rk hg6 rfl rfl rfl fun m7 hn7 hg7 hk7=>?_
    have hx7:Ext m5 m7:=⟨by omega,fun b hb=>by rw[hk7 b (by omega),hk6 b hb]⟩
    obtain⟨a,e1,e2⟩:=Gd (hacc.aB (hx3.trans (hx5.trans hx7))) hw
    rw[e1,aa,e2,aa]
    refine au fun m8 hn8 hg8 hk8=>?_
    refine aD rk hg8 rfl rfl rfl fun m9 hn9 hg9 hk9=>?_
    have hx9:Ext m7 m9:=⟨by omega,fun b hb=>by rw[hk9 b (by omega),hk8 b hb]⟩
    have g1:m9.get m3.n=.cells [.int .i64 u.v.x,.int .i64 u.v.y,.int .i64 u.v.w] 236 none:=by rw[hx9.get _ (by omega),hx7.get _ (by omega),hg5];rfl
    have g2:m9.get m5.n=.cells [.int .i64 v.v.x,.int .i64 v.v.y,.int .i64 v.v.w] 236 none:=by rw[hx9.get _ (by omega),hg7];rfl
    have g3:m9.get m7.n=.cells [.int .i64 w.v.x,.int .i64 w.v.y,.int .i64 w.v.w] 236 none:=hg9
    obtain⟨a1,a2,a3⟩:=hbp u (List.mem_of_getElem? hu)
    obtain⟨b1,b2,b3⟩:=hbp v (List.mem_of_getElem? hv)
    obtain⟨c1,c2,c3⟩:=hbp w (List.mem_of_getElem? hw)
    have hwd:IntKind.i64.wrap (u.v.x*(v.v.y*w.v.w-v.v.w*w.v.y)-u.v.y*(v.v.x*w.v.w-v.v.w*w.v.x)+u.v.w*(v.v.x*w.v.y-v.v.y*w.v.x))=ji u.v v.v w.v:=
     (((a1.mul ((b2.mul c3).sub (b3.mul c2))).sub (a2.mul ((b1.mul c3).sub (b3.mul c1)))).add (a3.mul ((b1.mul c2).sub (b2.mul c1)))).wr (by decide)
    simp only[aa,iC,iB,iA,bu,av g1,av g2,av g3,Nat.zero_add,List.getElem?_cons_zero,List.getElem?_cons_succ,cA,aG,cz,wN,wM,rf,re,wL,wK,hwd,bI,aj]
    refine ak (fun hne=>?_) (fun he=>?_)
    ·exact hT _ _ u v w (List.mem_of_getElem? hu) (List.mem_of_getElem? hv) (List.mem_of_getElem? hw) (by simpa using hne) (by omega)
    ·rw[wrap64 (by omega) (by omega)]
     refine⟨n+1,by omega,rfl,by omega,hx3.trans (hx5.trans (hx7.trans hx9)),by omega,fun n' w' hn' hw'=>?_⟩
     by_cases e:n'=n
     ·subst e;rw[hw]at hw';cases hw';simpa using he
     ·exact hz3 n' w' (by omega) hw'
   ·have hn':n=k:=by
     have:¬(n:Int)< (k:Int):=by simpa using hge3
     omega
    subst hn'
    rw[aG,aa,wrap64 (by omega) (by omega)]
    refine⟨n+1,by omega,rfl,by omega,hx3,hlo3,fun k' n' v' w' hk' hn'' hv' hw'=>?_⟩
    by_cases e:k'=n
    ·subst e;rw[hv]at hv';cases hv';exact hz3 n' w' hn'' hw'
    ·exact hz2 k' n' v' w' (by omega) hn'' hv' hw'
  ·have hk':k=i:=by
    have:¬(k:Int)< (i:Int):=by simpa using hge2
    omega
   subst hk'
   rw[aG,aa,wrap64 (by omega) (by omega)]
   refine⟨k+1,by omega,rfl,by omega,hx2,hlo2,fun i' k' n' u' v' w' hi' hn' hk' hu' hv' hw'=>?_⟩
   by_cases e:i'=k
   ·subst e;rw[hu]at hu';cases hu';exact hz2 k' n' v' w' hk' hn' hv' hw'
   ·exact hz1 i' k' n' u' v' w' (by omega) hn' hk' hu' hv' hw'
 ·have hi':i=acc.length:=by
   have:¬(i:Int)< (acc.length:Int):=by simpa using hge
   omega
  subst hi'
  exact hF _ _ (fun i k n u v w h1 h2 h3 h4 h5=>hz1 i k n u v w (List.getElem?_eq_some_iff.1 h3).1 h1 h2 h3 h4 h5) hlo1
end Go.Proofs.YtmdfgncoekfgdaaGreatDoor
namespace Go.Proofs.YtmdfgncoekfgdaaGreatDoor
open Go Go.D Go.pd
variable {X:aF} {m:M}
theorem xA{a b:List Pl}{i:Nat}(hi:i < a.length):qy a b i=true↔∀q∈b,(ef a i).dot q.h<=0:=by
 obtain⟨p,hp⟩:∃p,a[i]?=some p:=⟨_,List.getElem?_eq_getElem hi⟩
 obtain⟨q,hq⟩:∃p,a[(i+1)%a.length]?=some p:=⟨_,List.getElem?_eq_getElem (Nat.mod_lt _ (by omega))⟩
 unfold qy ef
 rw[hp,hq,wu hp,wu hq]
 simp only[Bool.not_eq_true',List.any_eq_false,decide_eq_true_eq]
 constructor
 ·intro h c hc
  have:=h c hc
  rw[jh];omega
 ·intro h c hc
  have:=h c hc
  rw[jh]at this;omega
theorem Bu{a b:List Pl}:Sep a b↔¬cY a b < 0:=by
 constructor
 ·rintro⟨f,hf,h⟩ hlt
  obtain⟨i,hi,rfl⟩:=gV.1 hf
  have hs:=(xA hi).2 h
  unfold cY at hlt
  cases hc:(List.range a.length).find? (qy a b)with
  |some k=>rw[hc]at hlt;simp only at hlt;omega
  |none=>
   have:=List.find?_eq_none.1 hc i (List.mem_range.2 hi)
   exact this hs
 ·intro h
  unfold cY at h
  cases hc:(List.range a.length).find? (qy a b)with
  |some k=>
   have h1:=List.find?_some hc
   have h2:=List.mem_range.1 (List.mem_of_find?_eq_some hc)
   exact⟨_,gV.2 ⟨k,h2,rfl⟩,(xA h2).1 h1⟩
  |none=>rw[hc]at h;exact absurd (by decide) h
theorem xW{a b:List Pl}(ha:aY a=true)(hb:aY b=true):hZ a b=true↔¬Sep a b/\¬Sep b a:=by
 unfold hZ
 rw[ha,hb]
 simp only[Bool.and_self,Bool.true_and,Bool.and_eq_true,decide_eq_true_eq]
 rw[Bu,Bu]
 simp only[Classical.not_not]
theorem HX(p q r:V):ji q p r= -ji p q r:=by unfold ji;grind
theorem KF(p q r:V):ji p r q= -ji p q r:=by unfold ji;grind
theorem MQ(p r:V):ji p p r=0:=by unfold ji;grind
theorem MO(p r:V):ji r p p=0:=by unfold ji;grind
theorem MP(p r:V):ji p r p=0:=by unfold ji;grind
theorem JJ{acc:List Pt}(h:∀(i k n:Nat) (u v w:Pt),n < k->k < i->acc[i]?=some u->acc[k]?=some v->acc[n]?=some w->ji u.v v.v w.v=0){u v w:Pt}(hu:u∈acc)(hv:v∈acc)(hw:w∈acc):ji u.v v.v w.v=0:=by
 obtain⟨i,hi⟩:=List.getElem?_of_mem hu
 obtain⟨k,hk⟩:=List.getElem?_of_mem hv
 obtain⟨n,hn⟩:=List.getElem?_of_mem hw
 by_cases e1:i=k
 ·subst e1;rw[hi]at hk;cases hk;exact MQ _ _
 by_cases e2:k=n
 ·subst e2;rw[hk]at hn;cases hn;exact MO _ _
 by_cases e3:i=n
 ·subst e3;rw[hi]at hn;cases hn;exact MP _ _
 have s1:=HX u.v v.v w.v
 have s2:=KF u.v v.v w.v
 have s3:=HX u.v w.v v.v
 have s4:=KF v.v u.v w.v
 have s5:=HX v.v w.v u.v
 rcases Nat.lt_or_gt_of_ne e1 with a |a <;>rcases Nat.lt_or_gt_of_ne e2 with b |b <;>rcases Nat.lt_or_gt_of_ne e3 with c |c
 ·have:=h n k i w v u a b hn hk hi;omega
 ·omega
 ·have:=h k n i v w u c b hk hn hi;omega
 ·have:=h k i n v u w c a hk hi hn;omega
 ·have:=h n i k w u v a c hn hi hk;omega
 ·have:=h i n k u w v b c hi hn hk;omega
 ·omega
 ·have:=h i k n u v w b a hi hk hn;omega
theorem Ds{f g:V}(h:(meet f g).w≠0):norm (meet g f)=norm (meet f g):=by
 have e:meet g f=(meet f g).neg:=by
  unfold meet V.neg
  simp only
  congr 1 <;>omega
 rw[e]
 have hw:(meet f g).neg.w= -(meet f g).w:=rfl
 unfold norm
 by_cases h1:(meet f g).w < 0
 ·rw[if_pos h1,if_neg (by rw[hw];omega)]
 ·rw[if_neg h1,if_pos (by rw[hw];omega)]
  unfold V.neg
  simp only[Int.neg_neg]
structure pf(L:List Ln)(acc:List Pt)(i k:Nat):Prop where
 snd:∀p∈acc,gP (L.map (·.v)) p.v
 NA:∀(i' k':Nat) (f g:Ln),(i' < i\/(i'=i/\k' < k))->i' < k'->L[i']?=some f->L[k']?=some g->(meet f.v g.v).w≠0->EH L (norm (meet f.v g.v))=true->Pt.mk (norm (meet f.v g.v))∈acc
theorem vO{L:List Ln}{p:V}:EH L p=true↔∀f∈L.map (·.v),0<=f.dot p:=by
 unfold EH
 simp only[List.all_eq_true,decide_eq_true_eq,List.mem_map]
 constructor
 ·rintro h _ ⟨x,hx,rfl⟩;exact h x hx
 ·intro h x hx;exact h _ ⟨x,hx,rfl⟩
theorem pf.skip{L:List Ln}{acc:List Pt}{i k:Nat}{f g:Ln}(h:pf L acc i k)(hf:L[i]?=some f)(hg:L[k]?=some g)(hn:¬((meet f.v g.v).w≠0/\EH L (norm (meet f.v g.v))=true)):pf L acc i (k+1):=
 ⟨h.snd,fun i' k' f' g' hk hik hf' hg' h1 h2=>by
  by_cases e:i'=i/\k'=k
  ·obtain⟨rfl,rfl⟩:=e
   rw[hf]at hf';rw[hg]at hg'
   cases hf';cases hg'
   exact absurd ⟨h1,h2⟩ hn
  ·exact h.NA i' k' f' g' (by omega) hik hf' hg' h1 h2⟩
theorem pf.add{L:List Ln}{acc:List Pt}{i k:Nat}{f g:Ln}(h:pf L acc i k)(hf:L[i]?=some f)(hg:L[k]?=some g)(h1:(meet f.v g.v).w≠0)(h2:EH L (norm (meet f.v g.v))=true):pf L (acc++ [Pt.mk (norm (meet f.v g.v))]) i (k+1):=
 ⟨fun p hp=>by
  rcases List.mem_append.1 hp with hp |hp
  ·exact h.snd p hp
  ·rw[List.mem_singleton]at hp
   subst hp
   exact⟨f.v,List.mem_map.2 ⟨f,List.mem_of_getElem? hf,rfl⟩,g.v,List.mem_map.2 ⟨g,List.mem_of_getElem? hg,rfl⟩,h1,rfl,vO.1 h2⟩,
  fun i' k' f' g' hk hik hf' hg' n1 n2=>by
  by_cases e:i'=i/\k'=k
  ·obtain⟨rfl,rfl⟩:=e
   rw[hf]at hf';rw[hg]at hg'
   cases hf';cases hg'
   simp
  ·exact List.mem_append.2 (.inl (h.NA i' k' f' g' (by omega) hik hf' hg' n1 n2))⟩
theorem pf.next{L:List Ln}{acc:List Pt}{i k:Nat}(h:pf L acc i k)(hk:L.length<=k){k':Nat}(hk':k'<=i+2):pf L acc (i+1) k':=
 ⟨h.snd,fun i' j f g hc hij hf hg h1 h2=>h.NA i' j f g (by have:=(List.getElem?_eq_some_iff.1 hg).1;omega) hij hf hg h1 h2⟩
theorem pf.sN{L:List Ln}{acc:List Pt}{k:Nat}(h:pf L acc L.length k){v:V}(hv:gP (L.map (·.v)) v):Pt.mk v∈acc:=by
 obtain⟨f,hf,g,hg,hm,rfl,h0⟩:=hv
 obtain⟨x,hx,rfl⟩:=List.mem_map.1 hf
 obtain⟨y,hy,rfl⟩:=List.mem_map.1 hg
 obtain⟨i,hi⟩:=List.getElem?_of_mem hx
 obtain⟨j,hj⟩:=List.getElem?_of_mem hy
 have li:=(List.getElem?_eq_some_iff.1 hi).1
 have lj:=(List.getElem?_eq_some_iff.1 hj).1
 rcases Nat.lt_trichotomy i j with e |e |e
 ·exact h.NA i j x y (by omega) e hi hj hm (vO.2 h0)
 ·subst e
  rw[hi]at hj;cases hj
  exfalso;apply hm
  show x.v.x*x.v.y-x.v.x*x.v.y=0
  omega
 ·rw[<-Ds (f:=x.v) (g:=y.v) hm]at h0⊢
  refine h.NA j i y x (by omega) e hj hi ?_ (vO.2 h0)
  intro h'
  apply hm
  have:(meet y.v x.v).w= -(meet x.v y.v).w:=by show y.v.x*x.v.y-x.v.x*y.v.y= -(x.v.x*y.v.y-y.v.x*x.v.y);omega
  omega
theorem BZ{l:List Pl}(hv:aY l=true):∀f∈lU l,Ph f:=by
 intro f hf
 obtain⟨i,hi,rfl⟩:=gV.1 hf
 obtain⟨h3,_⟩:=dD hv
 have hon:=gY hv
 have b1:=Pl.on (hon _ (Be hi))
 have b2:=Pl.on (hon _ (Be (l:=l) (i:=(i+1)%l.length) (Nat.mod_lt _ (by omega))))
 unfold ef iI
 generalize gj l i=p at*
 generalize gj l ((i+1)%l.length)=q at*
 have c1:me 40 p.x:=⟨by omega,by omega⟩
 have c2:me 40 p.y:=⟨by omega,by omega⟩
 have c3:me 80 (q.x-p.x):=⟨by omega,by omega⟩
 have c4:me 80 (q.y-p.y):=⟨by omega,by omega⟩
 exact⟨⟨by show _<=p.y-q.y;omega,by show p.y-q.y<=_;omega⟩,c3,((c4.mul c1).sub (c3.mul c2)).mono (by decide)⟩
def Iv(m22:M)(n0:Nat)(L:List Ln)(i k:Nat)(vs:List Value)(mm:M)(lo:Nat):Prop:=
 ∃vc acc,vs=[vc,.int .i64 k]/\i+1<=k/\k<=L.length/\Ext m22 mm/\n0<=lo/\Ow m22.n mm acc vc/\pf L acc i k/\acc.length<=16*i+k
set_option maxRecDepth 100000 in
theorem xI(hX:cW X){a b:List Pl}{va vb:Value}(ha:Sl m a va)(hb:Sl m b vb)(la:a.length < 1000000)(lb:b.length < 1000000):
  C X (.func 111) [va,vb] m m.n (.bool (hZ a b)) m:=by
 refine Cl.flat (hX.no _ rfl) MG rfl rfl ?_
 rw[Rv];dsimp only[aI]
 refine bY (fun vs mm lo=>vs=[.bool (!(aY a && aY b))]/\m=mm/\m.n<=lo) (fun R hR=>?_) ?_
 ·refine aC (iX hX ha (by omega)) ?_
  rw[aX,aa,aj]
  refine ak (fun h=>?_) (fun h=>?_)
  ·have h:aY a=false:=by simpa using h
   exact hR _ _ _ ⟨by rw[h];rfl,rfl,by omega⟩
  ·have h:aY a=true:=by simpa using h
   refine aC (iX hX hb (by omega)) ?_
   rw[aX,aa]
   exact hR _ _ _ ⟨by rw[h,Bool.true_and],rfl,by omega⟩
 rintro _ _ lo ⟨rfl,rfl,hlo⟩
 rw[aA,aj]
 refine ak (fun h=>?_) (fun h=>?_)
 ·refine⟨?_,hlo⟩
  have:(aY a && aY b)=false:=by
   cases h':(aY a && aY b)with
   |false=>rfl
   |true=>rw[h']at h;cases h
  unfold hZ
  rw[this];rfl
 have hv:(aY a && aY b)=true:=by
  cases h':(aY a && aY b)with
  |true=>rfl
  |false=>rw[h']at h;cases h
 rw[Bool.and_eq_true]at hv
 obtain⟨hva,hvb⟩:=hv
 obtain⟨la3,la8⟩:=dD hva
 obtain⟨lb3,lb8⟩:=dD hvb
 obtain⟨ra,m16,hc16,hx16,ho16⟩:=yM hX ha hva
 refine aC hc16 ?_
 obtain⟨rb,m19,hc19,hx19,ho19⟩:=yM (m:=m16) hX (hb.aB hx16) hvb
 refine aC hc19 ?_
 have n16:=hx16.n
 have n19:=hx19.n
 have hla:((lU a).map Ln.mk).length=a.length:=by simp[lU]
 have hlb:((lU b).map Ln.mk).length=b.length:=by simp[lU]
 obtain⟨vL,m22,ha22,ho22,hf22,hl22,hn22⟩:=Ow.append Iu (by simp[aL.fR]) (ho16.aB hx19) ho19.sl (by omega) (by rw[hla,hlb];omega)
 rw[ha22,ar]
 obtain⟨L,hL⟩:∃L,L=(lU a).map Ln.mk++(lU b).map Ln.mk:=⟨_,rfl⟩
 rw[<-hL]at ho22
 have hsL:=ho22.sl
 have hLl:L.length<=16:=by rw[hL,List.length_append,hla,hlb];omega
 have hLm:L.map (·.v)=lU a++lU b:=by rw[hL,List.map_append,List.map_map,List.map_map];simp[Function.comp_def]
 have hLb:∀x∈L,Ph x.v:=fun x hx=>by
  have:x.v∈L.map (·.v):=List.mem_map.2 ⟨x,hx,rfl⟩
  rw[hLm]at this
  rcases List.mem_append.1 this with h |h
  ·exact BZ hva _ h
  ·exact BZ hvb _ h
 have n22:=hf22.n
 have fin:∀(mm:M) (lo:Nat) (r:Bool),r=hZ a b->m.n<=lo->aR [Value.bool r]=.bool (hZ a b)/\m.n<=lo:=fun mm lo r hr hlo=>⟨by rw[<-hr];rfl,hlo⟩
 have bp:∀a b c:Int,aO TE 236 [(0,.int .i64 a),(1,.int .i64 b),(2,.int .i64 c)]=some (.agg #[.int .i64 a,.int .i64 b,.int .i64 c]):=fun a b c=>qH rfl rfl rfl
 refine Lp.intro (γ:=Nat) (fun i=>L.length-i) (fun i vs mm lo=>∃vc acc,vs=[vc,.int .i64 i]/\i<=L.length/\Ext m22 mm/\m.n<=lo/\Ow m22.n mm acc vc/\pf L acc i 0/\acc.length<=16*i) 0
  ⟨_,[],rfl,Nat.zero_le _,.refl,by omega,.nil,⟨fun p hp=>(by cases hp),fun i' k' f g h=>by omega⟩,Nat.zero_le _⟩ ?_
 rintro i vs mm lo1 ⟨vc,acc,rfl,hi,hx,hlo1,how,hga,hacl⟩
 rw[aA,aA,(hsL.aB hx).len uR,ar,aH,aa,aj]
 refine ak (fun hlt=>?_) (fun hge=>?_)
 ·have hlt:i < L.length:=by simpa using hlt
  obtain⟨f,hf⟩:∃f,L[i]?=some f:=⟨_,List.getElem?_eq_getElem hlt⟩
  rw[aG,aa,wrap64 (by omega) (by omega)]
  refine Lp.intro (γ:=Nat) (fun k=>L.length-k) (Iv m22 m.n L i) (i+1)
   ⟨vc,acc,rfl,Nat.le_refl _,by omega,hx,hlo1,how,⟨hga.snd,fun i' k' f g hc hik hf hg h1 h2=>hga.NA i' k' f g (by omega) hik hf hg h1 h2⟩,by omega⟩ ?_
  rintro k vs m36 lo2 ⟨vc,acc,rfl,hik,hk,hx36,hlo2,how,hga,hacl⟩
  have n36:=hx36.n
  rw[aA,aA,(hsL.aB hx36).len uR,ar,aH,aa,aj]
  refine ak (fun hlt2=>?_) (fun hge2=>?_)
  ·have hlt2:k < L.length:=by simpa using hlt2
   obtain⟨g,hg⟩:∃f,L[k]?=some f:=⟨_,List.getElem?_eq_getElem hlt2⟩
   obtain⟨a1,a10,a11,a12,e1,f10,l10,f11,l11,f12,l12⟩:=GF (hsL.aB hx36) hf
   obtain⟨a2,a20,a21,a22,e2,f20,l20,f21,l21,f22,l22⟩:=GF (hsL.aB hx36) hg
   have bf:=hLb f (List.mem_of_getElem? hf)
   have bg:=hLb g (List.mem_of_getElem? hg)
   have bm:=BJ bf bg
   have bn:=BG bm
   have wx:IntKind.i64.wrap (f.v.y*g.v.w-g.v.y*f.v.w)=(meet f.v g.v).x:=bm.1.wr (by decide)
   have wy:IntKind.i64.wrap (f.v.w*g.v.x-g.v.w*f.v.x)=(meet f.v g.v).y:=bm.2.1.wr (by decide)
   have ww:IntKind.i64.wrap (f.v.x*g.v.y-g.v.x*f.v.y)=(meet f.v g.v).w:=bm.2.2.wr (by decide)
   simp only[e1,f10,l10,f11,l11,f12,l12,e2,f20,l20,f21,l21,f22,l22,aa,cA,cz,rf,re,wx,wy,ww,bp]
   refine au fun m90 hn90 hg90 hk90=>?_
   unfold ptrTo
   refine aD rk hg90 rfl rfl rfl fun m91 hn91 hg91 hk91=>?_
   have hx91:Ext m36 m91:=⟨by omega,fun b hb=>by rw[hk91 b (by omega),hk90 b hb]⟩
   have hg91:m91.get m36.n=.cells (vC (meet f.v g.v)) 236 none:=hg91
   have hg91':m91.get m36.n=.cells [.int .i64 (meet f.v g.v).x,.int .i64 (meet f.v g.v).y,.int .i64 (meet f.v g.v).w] 236 none:=hg91
   have ldw:∀mm:M,∀x y w:Int,mm.get m36.n=.cells [.int .i64 x,.int .i64 y,.int .i64 w] 236 none->ag TE mm 3 (.pointer (some ⟨m36.n,0+0,none⟩))=some (.int .i64 x)/\ag TE mm 3 (.pointer (some ⟨m36.n,0+1,none⟩))=some (.int .i64 y)/\ag TE mm 3 (.pointer (some ⟨m36.n,0+2,none⟩))=some (.int .i64 w):=fun mm x y w h=>by
    refine⟨?_,?_,?_⟩ <;>rw[bu,av h] <;>rfl
   have hstep:∀(va':Value) (m':M) (lo':Nat) (acc':List Pt),m91.n<=m'.n->(∀c,c < m22.n->m'.get c=m22.get c)->m.n<=lo'->Ow m22.n m' acc' va'->pf L acc' i (k+1)->acc'.length<=acc.length+1->
     ∃g',L.length-g' < L.length-k/\Iv m22 m.n L i g' [va',Value.int .i64 ((k+1:Nat):Int)] m' lo':=fun va' m' lo' acc' h1 h2 h3 h4 h5 h6=>
    ⟨k+1,by omega,va',acc',rfl,by omega,by omega,⟨by omega,h2⟩,h3,h4,h5,by omega⟩
   have keep91:∀c,c < m22.n->m91.get c=m22.get c:=fun c hc=>by rw[hx91.get c (by omega),hx36.get c hc]
   have hin:∀(p:V) (mm:M) (lo':Nat),p=norm (meet f.v g.v)->(meet f.v g.v).w≠0->mm.get m36.n=.cells (vC p) 236 none->Ext m36 mm->m91.n<=mm.n->m.n<=lo'->∀(va':Value) (m':M) (lo'':Nat),mm.n<=m'.n->(∀c,c < m22.n->m'.get c=mm.get c)->min lo' m22.n<=lo''->
     Ow m22.n m' (if EH L p then acc++ [Pt.mk p]else acc) va'->∃g',L.length-g' < L.length-k/\Iv m22 m.n L i g' [va',Value.int .i64 ((k+1:Nat):Int)] m' lo'':=by
    intro p mm lo' hp hw hg0 hxm hnm hlo' va' m' lo'' h1 h2 h3 h4
    by_cases hi2:EH L p=true
    ·rw[if_pos hi2]at h4
     refine hstep va' m' lo'' _ (by omega) (fun c hc=>by rw[h2 c hc,hxm.get c (by omega),hx36.get c hc]) (by omega) h4 ?_ (by simp)
     rw[hp]at hi2⊢
     exact hga.add hf hg hw hi2
    ·rw[if_neg hi2]at h4
     refine hstep va' m' lo'' _ (by omega) (fun c hc=>by rw[h2 c hc,hxm.get c (by omega),hx36.get c hc]) (by omega) h4 ?_ (by omega)
     exact hga.skip hf hg fun h=>hi2 (by rw[hp];exact h.2)
   obtain⟨q0,q1,q2⟩:=ldw m91 _ _ _ hg91'
   rw[iA,aa,q2,aa,bE,aa,aj]
   refine ak (fun hw=>?_) (fun hw=>?_)
   ·have hw:(meet f.v g.v).w=0:=by simpa using hw
    rw[aG,aa,wrap64 (by omega) (by omega)]
    exact hstep vc m91 _ acc (Nat.le_refl _) keep91 (by omega) (how.aB hx91) (hga.skip hf hg fun h=>h.1 hw) (by omega)
   have hw:(meet f.v g.v).w≠0:=by simpa using hw
   rw[aa,q2,aa,aH,aa,aj]
   refine ak (fun hneg=>?_) (fun hpos=>?_)
   ·have hneg:(meet f.v g.v).w < 0:=by simpa using hneg
    have hnm:norm (meet f.v g.v)=(meet f.v g.v).neg:=by unfold norm;rw[if_pos hneg]
    have nx:∀{N x:Int},me N x->N < 9223372036854775808->IntKind.i64.wrap (0-x)= -x:=fun{N x} h hN=>by rw[wrap64 (by have:=h.2;omega) (by have:=h.1;omega)];omega
    rw[iC,aa,q0,aa,uL,aa,iB,aa,q1,aa,uL,aa,aa,q2,aa,uL,aa,nx bm.1 (by decide),nx bm.2.1 (by decide),nx bm.2.2 (by decide),bp,aa]
    refine aD rk hg91' rfl rfl rfl fun m110 hn110 hg110 hk110=>?_
    have hg110:m110.get m36.n=.cells (vC (norm (meet f.v g.v))) 236 none:=by rw[hnm];exact hg110
    have hx110:Ext m36 m110:=⟨by omega,fun b hb=>by rw[hk110 b (by omega),hx91.get b hb]⟩
    exact BT (P:=fun vs mm lo=>∃g',L.length-g' < L.length-k/\Iv m22 m.n L i g' vs mm lo) (n1:=m22.n) (hsL.aB (hx36.trans hx110)) hg110 (how.aB hx110) (by omega) hLb bn (by omega) (by omega) hLl (hin _ m110 _ rfl hw hg110 hx110 (by omega) (by omega))
   ·have hpos:¬(meet f.v g.v).w < 0:=by simpa using hpos
    have hnm:norm (meet f.v g.v)=meet f.v g.v:=by unfold norm;rw[if_neg hpos]
    exact BT (P:=fun vs mm lo=>∃g',L.length-g' < L.length-k/\Iv m22 m.n L i g' vs mm lo) (n1:=m22.n) (hsL.aB (hx36.trans hx91)) hg91 (how.aB hx91) (by omega) hLb bm (by omega) (by omega) hLl (hin _ m91 _ hnm.symm hw hg91 hx91 (Nat.le_refl _) (by omega))
  ·have hk':k=L.length:=by
    have:¬(k:Int)< (L.length:Int):=by simpa using hge2
    omega
   subst hk'
   rw[aa]
   exact⟨i+1,by omega,vc,acc,rfl,by omega,hx36,hlo2,how,hga.next (Nat.le_refl _) (by omega),by omega⟩
 ·have hi':i=L.length:=by
   have:¬(i:Int)< (L.length:Int):=by simpa using hge
   omega
  subst hi'
  have nmm:=hx.n
  have hcb:∀x∈acc,NC x.v:=fun x hx=>by
   obtain⟨f,hf,g,hg,_,e,_⟩:=hga.snd x hx
   rw[e]
   obtain⟨f',hf',rfl⟩:=List.mem_map.1 hf
   obtain⟨g',hg',rfl⟩:=List.mem_map.1 hg
   exact BG (BJ (hLb _ hf') (hLb _ hg'))
  refine FL (R:=fun vs _ lo=>aR vs=.bool (hZ a b)/\m.n<=lo) (n1:=m22.n) how.sl hcb (by omega) (by omega) (fun m' lo' u v w hu hv hw hd hlo'=>fin m' lo' true ?_ (by omega)) (fun m' lo' hz hlo'=>fin m' lo' false ?_ (by omega))
  ·refine((xW hva hvb).2 ⟨fun hs=>hd ?_,fun hs=>hd ?_⟩).symm
   ·exact yC hva hvb (L:=L.map (·.v)) (fun f hf=>by rw[hLm];exact List.mem_append.2 hf) hs (hga.snd _ hu) (hga.snd _ hv) (hga.snd _ hw)
   ·exact yC hvb hva (L:=L.map (·.v)) (fun f hf=>by rw[hLm];exact List.mem_append.2 hf.symm) hs (hga.snd _ hu) (hga.snd _ hv) (hga.snd _ hw)
  ·cases ho:hZ a b with
   |false=>rfl
   |true=>
    exfalso
    obtain⟨s1,s2⟩:=(xW hva hvb).1 ho
    obtain⟨u,v,w,cu,cv,cw,hd⟩:=FM hva hvb s1 s2
    rw[<-hLm]at cu cv cw
    exact hd (JJ hz (hga.sN cu) (hga.sN cv) (hga.sN cw))
end Go.Proofs.YtmdfgncoekfgdaaGreatDoor
namespace Go.D
open Go
section
variable {E:Env} {α:Type} [aL α] {n1:Nat} {m:M} {l ys:List α} {v y:Value} {T:TypeId}
theorem Ow.Bg(hT:EC E T α)(hty:aL.ty α∉aL.fR α)(h:Ow n1 m l v)(hy:Sl m ys y)(hn:n1<=m.n)(hs:l.length+ys.length<=268435456)(hne:ys≠ []):
  ∃v' m1,an E (m.wl m.n) .append [T,T] [v,y]=some (v',m1)/\Ow m.n m1 (l++ys) v'/\uG n1 m m1/\n1<=m1.low/\m1.n=m.n+1:=by
 obtain⟨ti,ei,t1,t2,t3,t4,t5,t6⟩:=hT
 obtain⟨news,e1,e2,e3,e4,e5⟩:=hy.first
 have hpos:=aL.pos (α:=α)
 have hc:(Nat.beq ti.es 0 ||Nat.blt 65536 ei.bytes || !news.all D.one ||Nat.blt 268435456 (l.length+ys.length) || !Nat.beq news.length (ys.length*ti.es) || !ff ei.zero ti.es)=false:=by
  have c1:Nat.beq ti.es 0=false:=by
   cases hb:Nat.beq ti.es 0 with
   |false=>rfl
   |true=>have:=Nat.eq_of_beq_eq_true hb;omega
  have c2:Nat.blt 65536 ei.bytes=false:=by
   cases hb:Nat.blt 65536 ei.bytes with
   |false=>rfl
   |true=>rw[Nat.blt_eq]at hb;omega
  have c3:Nat.blt 268435456 (l.length+ys.length)=false:=by
   cases hb:Nat.blt 268435456 (l.length+ys.length)with
   |false=>rfl
   |true=>rw[Nat.blt_eq]at hb;omega
  have c4:Nat.beq news.length (ys.length*ti.es)=true:=by rw[e3,t3];exact Nat.beq_refl _
  rw[c1,c2,c3,c4,e4,t3,t6];rfl
 have hfirst:first? (m.wl m.n) ti.es ys.length y=some news:=by rw[bH,t3];exact e2
 rcases h with⟨rfl,rfl⟩ |⟨b,cs,rfl,h2,h3,h4,h5,h6⟩
 ·
  cases hys:ys with
  |nil=>exact absurd hys hne
  |cons y0 ys'=>
   rw[<-hys]
   have hylen:0 < ys.length:=by rw[hys];simp
   have hble:Nat.ble (0+ys.length) 0=false:=by
    cases hb:Nat.ble (0+ys.length) 0 with
    |false=>rfl
    |true=>have:=Nat.le_of_ble_eq_true hb;omega
   refine⟨.slice (some ⟨m.n,0,none⟩) ys.length ys.length,(m.wl m.n).push (.cells news (aL.ty α) (some (aL.sz α))),?_,?_,⟨by show m.n<=m.n+1;omega,fun c hc=>by rw[M.bF (by show c < m.n;omega)];rfl⟩,hn,rfl⟩
   ·simp only[an,da,t1,e1,t2,t4,hfirst]
    simp only[List.length_nil]at hc
    rw[hc,hble]
    simp only[cond_false,iH]
    have:(Nat.beq 0 0 && Nat.beq 0 0)=true:=rfl
    rw[this,t3]
    simp only[cond_true,Nat.zero_add]
    rfl
   ·refine .inr ⟨m.n,news,by simp,by simpa using hylen,Nat.le_refl _,M.aN (m:=m.wl m.n),by simpa using e3,fun i x hi=>?_⟩
    have:=e5 i x (by simpa using hi)
    exact aL.aB this ⟨by show m.n<=m.n+1;omega,fun c hc=>by rw[M.bF (m:=m.wl m.n) hc];rfl⟩
 ·
  have hbn:=M.aV h4
  cases hys:ys with
  |nil=>exact absurd hys hne
  |cons y0 ys'=>
   rw[<-hys]
   have hylen:0 < ys.length:=by rw[hys];simp
   have hble:Nat.ble (l.length+ys.length) l.length=false:=by
    cases hb:Nat.ble (l.length+ys.length) l.length with
    |false=>rfl
    |true=>have:=Nat.le_of_ble_eq_true hb;omega
   have hold:(bif Nat.beq l.length 0 then some []else loadCells (m.wl m.n) ⟨b,0,none⟩ (l.length*aL.sz α))=some cs:=by
    cases hb:Nat.beq l.length 0 with
    |true=>have:=Nat.eq_of_beq_eq_true hb;omega
    |false=>
     simp only[cond_false,bs]
     rw[aE h4 (by omega),List.drop_zero,List.take_of_length_le (by omega)]
   have g1:((some (aL.sz α):Option Nat).isNone ||((some (aL.sz α):Option Nat)==some (aL.sz α) && Nat.blt (0+l.length*aL.sz α) cs.length))=false:=by
    have:Nat.blt (0+l.length*aL.sz α) cs.length=false:=by
     cases hb:Nat.blt (0+l.length*aL.sz α) cs.length with
     |false=>rfl
     |true=>rw[Nat.blt_eq]at hb;omega
    rw[this];simp
   have g2:((some (aL.sz α):Option Nat)==some (aL.sz α) && Nat.beq 0 0 && (none:Option Nat).isNone && Nat.beq (l.length*aL.sz α) cs.length && Nat.beq l.length l.length && Nat.beq (aL.ty α) (aL.ty α))=true:=by
    rw[h5]
    simp
   refine⟨.slice (some ⟨m.n,0,none⟩) (l.length+ys.length) (l.length+ys.length),((m.wl m.n).set b .dead).push (.cells (cs++news) (aL.ty α) (some (aL.sz α))),?_,?_,⟨by show m.n<=m.n+1;omega,fun c hc=>?_⟩,?_,rfl⟩
   ·simp only[an,da,t1,e1,t2,t4,hfirst]
    rw[hc,hble]
    simp only[cond_false,iH,t3]
    have hg:(m.wl m.n).get b=.cells cs (aL.ty α) (some (aL.sz α)):=h4
    simp only[hg,hold,g1,cond_false]
    rw[g2]
    rfl
   ·have hget:∀c,c < m.n->c≠b->(((m.wl m.n).set b .dead).push (.cells (cs++news) (aL.ty α) (some (aL.sz α)))).get c=m.get c:=fun c hc hne=>by
     rw[M.bF (by show c < m.n;exact hc),M.bZ hne];rfl
    have hrep:∀x c,aL.rep m x c->aL.rep (α:=α) (((m.wl m.n).set b .dead).push (.cells (cs++news) (aL.ty α) (some (aL.sz α)))) x c:=fun x c hx=>by
     refine aL.bt hx fun b' c' t g hb ht=>?_
     rw[hget b' (M.aV hb) (fun e=>by subst e;rw[h4]at hb;cases hb;exact hty ht),hb]
    refine .inr ⟨m.n,cs++news,by simp,by simp;omega,Nat.le_refl _,M.aN (m:=(m.wl m.n).set b .dead),by simp[h5,e3,Nat.add_mul],fun i x hi=>?_⟩
    by_cases hlt:i < l.length
    ·rw[dQ h5 hlt]
     rw[List.getElem?_append_left hlt]at hi
     exact hrep _ _ (h6 i x hi)
    ·rw[cL h5 (by omega)]
     rw[List.getElem?_append_right (by omega)]at hi
     exact hrep _ _ (e5 _ x hi)
   ·rw[M.bF (by show c < m.n;omega),M.bZ (by omega)];rfl
   ·show n1<=min m.n b
    omega
end
end Go.D
namespace Go.Proofs.YtmdfgncoekfgdaaGreatDoor
open Go Go.D
variable {X:aF} {m:M}
structure UW where
 u:Un
 w:Value
abbrev UW.c(x:UW):List Value:=x.u.c x.w
abbrev UW.v(x:UW):Value:=x.u.v x.w
instance:aL UW where
 ty:=87
 sz:=6
 agg:=true
 fR:=[]
 rep _ x cs:=cs=x.c/\one x.w=true
 pos:=by decide
 one:=by intro h;cases h
 len:=by rintro _ _ _ ⟨rfl,_⟩;rfl
 nB:=by rintro _ x _ ⟨rfl,h⟩;exact Un.ky h
 bt:=by rintro _ _ _ _ h _;exact h
theorem eo:uF TE 29 87 UW:=⟨af.t29,af.t87,by kernel_rfl,⟨_,rfl⟩,rfl,by kernel_rfl,rfl,rfl⟩
theorem wz:EC TE 29 UW:=⟨af.t29,af.t87,by kernel_rfl,rfl,rfl,by kernel_rfl,by decide,rfl⟩
theorem _root_.Go.D.Sl.yA{l:List UW}{v:Value}(h:Sl m l v)(hs:∀x∈l,Sl m x.u.shape x.w):Sl m (l.map (·.u)) v:=by
 rcases h with⟨rfl,rfl⟩ |⟨b,o,c,bc,g,rfl,h2,h3,h4⟩
 ·exact .inl ⟨rfl,rfl⟩
 ·refine .inr ⟨b,o,c,bc,g,by rw[List.length_map],h2,by rw[List.length_map];exact h3,fun i u hi=>?_⟩
  rw[List.getElem?_map,Option.map_eq_some_iff]at hi
  obtain⟨x,hx,rfl⟩:=hi
  exact⟨x.w,(h4 i x hx).1,hs x (List.mem_of_getElem? hx)⟩
theorem _root_.Go.D.Sl.NT{l:List Un}{v:Value}(h:Sl m l v):∃l':List UW,l'.map (·.u)=l/\Sl m l' v/\∀x∈l',Sl m x.u.shape x.w:=by
 rcases h with⟨rfl,rfl⟩ |⟨b,o,c,bc,g,rfl,h2,h3,h4⟩
 ·exact⟨[],rfl,.inl ⟨rfl,rfl⟩,fun x hx=>by cases hx⟩
 ·have key:∀i u,l[i]?=some u->∃w,(bc.drop (o+i*6)).take 6=u.c w/\Sl m u.shape w/\bc[o+i*6+3]?=some w:=fun i u hi=>by
   obtain⟨w,hw,hs⟩:=h4 i u hi
   have hw:(bc.drop (o+i*6)).take 6=u.c w:=hw
   refine⟨w,hw,hs,?_⟩
   have:=congrArg (·[3]?) hw
   simp only[List.getElem?_take_of_lt (show 3 < 6 by decide),List.getElem?_drop]at this
   rw[this];rfl
  refine⟨l.mapIdx fun i u=>⟨u,(bc[o+i*6+3]?).getD undef⟩,?_,.inr ⟨b,o,c,bc,g,by rw[List.length_mapIdx],h2,by rw[List.length_mapIdx];exact h3,fun i x hx=>?_⟩,fun x hx=>?_⟩
  ·refine List.ext_getElem? fun i=>?_
   rw[List.getElem?_map,List.getElem?_mapIdx]
   cases l[i]? <;>rfl
  ·rw[List.getElem?_mapIdx,Option.map_eq_some_iff]at hx
   obtain⟨u,hu,rfl⟩:=hx
   obtain⟨w,hw,hs,hb⟩:=key i u hu
   rw[hb]
   exact⟨hw,hs.one⟩
  ·obtain⟨i,hi⟩:=List.mem_iff_getElem?.1 hx
   rw[List.getElem?_mapIdx,Option.map_eq_some_iff]at hi
   obtain⟨u,hu,rfl⟩:=hi
   obtain⟨w,hw,hs,hb⟩:=key i u hu
   rw[hb]
   exact hs
abbrev jI:=Pl×List UW×Nat
abbrev jI.val(k:jI):Value:=.slice (some ⟨k.2.2,0,none⟩) k.2.1.length k.2.1.length
def Own(n1:Nat)(m:M)(l:List UW)(b:Nat):Prop:=0 < l.length/\n1<=b/\∃cs,m.get b=.cells cs 87 (some 6)/\cs.length=l.length*6/\∀i x,l[i]?=some x->aL.rep m x (chunk cs 6 i)
theorem Own.ow{n1:Nat}{l:List UW}{b:Nat}(h:Own n1 m l b):Ow n1 m l (.slice (some ⟨b,0,none⟩) l.length l.length):=by
 obtain⟨h1,h2,cs,h3,h4,h5⟩:=h
 exact .inr ⟨b,cs,rfl,h1,h2,h3,h4,h5⟩
theorem Own.of{n1:Nat}{l:List UW}{v:Value}(h:Ow n1 m l v)(hne:l≠ []):∃b,v=.slice (some ⟨b,0,none⟩) l.length l.length/\Own n1 m l b:=by
 rcases h with⟨_,h⟩ |⟨b,cs,rfl,h1,h2,h3,h4,h5⟩
 ·exact absurd h hne
 ·exact⟨b,rfl,h1,h2,cs,h3,h4,h5⟩
theorem Own.bt{n1:Nat}{l:List UW}{b:Nat}{m':M}(h:Own n1 m l b)(hb:m'.get b=m.get b):Own n1 m' l b:=by
 obtain⟨h1,h2,cs,h3,h4,h5⟩:=h
 exact⟨h1,h2,cs,by rw[hb,h3],h4,fun i x hi=>h5 i x hi⟩
def IC(es:List MapEntry)(kv:List jI):Prop:=es.map (fun e=>(e.key,e.val))=kv.map (fun k=>(k.1.v,jI.val k))
structure PM(n1:Nat)(m:M)(r:Nat)(kv:List jI):Prop where
 ex:∃es clock,m.get r=.map es clock/\IC es kv/\(∀e∈es,e.born < clock)/\(es.map (·.born)).Nodup
 keys:(kv.map (·.1)).Nodup
 Iq:(kv.map (·.2.2)).Nodup
 own:∀k∈kv,Own n1 m k.2.1 k.2.2
def fy(kv:List jI)(p:Pl):List UW:=match kv.find? (fun k=>decide (k.1=p))with |some k=>k.2.1 |none=> []
theorem PM.aB{n1 r:Nat}{kv:List jI}{m':M}(h:PM n1 m r kv)(hx:Ext m m'):PM n1 m' r kv:=by
 obtain⟨es,clock,h1,h2⟩:=h.ex
 refine⟨⟨es,clock,by rw[hx.get r (M.uc h1),h1],h2⟩,h.keys,h.Iq,fun k hk=>?_⟩
 have ho:=h.own k hk
 obtain⟨_,_,cs,h3,_⟩:=id ho
 exact ho.bt (by rw[hx.get _ (M.aV h3)])
theorem KE{p q:Pl}:eq? TE 98 p.v q.v=some (decide (p=q)):=by
 have e:eq? TE 98 p.v q.v=some ((p.x==q.x) && ((p.y==q.y) && true)):=by kernel_rfl
 rw[e]
 obtain⟨a,b⟩:=p
 obtain⟨c,d⟩:=q
 by_cases h1:a=c <;>by_cases h2:b=d <;>simp[h1,h2]
theorem yP{p:Pl}:keyed TE 98 p.v=true:=by kernel_rfl
theorem su:∀{es:List MapEntry} {kv:List jI} {p:Pl} {i:Nat},IC es kv->(fy kv p=[]/\p∉kv.map (·.1)/\findKey TE 98 p.v es i=some none)\/
  (∃j k,kv[j]?=some k/\k.1=p/\fy kv p=k.2.1/\findKey TE 98 p.v es i=some (some (i+j,jI.val k)))
 |[],[],p,i,_=> .inl ⟨rfl,by simp,rfl⟩
 |[],k::kv,_,_,h=>by cases h
 |e::es,[],_,_,h=>by cases h
 |e::es,k::kv,p,i,h=>by
  have h:(e.key,e.val)::es.map (fun e=>(e.key,e.val))=(k.1.v,jI.val k)::kv.map (fun k=>(k.1.v,jI.val k)):=h
  injection h with h1 h2
  injection h1 with hk hv
  have hstep:findKey TE 98 p.v (e::es) i=bif decide (p=k.1)then some (some (i,e.val))else findKey TE 98 p.v es (i+1):=by
   conv=>lhs;unfold findKey
   rw[hk,KE]
   cases decide (p=k.1)<;>rfl
  by_cases hp:p=k.1
  ·refine .inr ⟨0,k,rfl,hp.symm,?_,?_⟩
   ·unfold fy
    rw[List.find?_cons_of_pos (by simp[hp])]
   ·rw[hstep,hv,show decide (p=k.1)=true by simp[hp],cond_true];rfl
  ·have hg:fy (k::kv) p=fy kv p:=by
    unfold fy
    rw[List.find?_cons_of_neg (by simpa using fun h=>hp h.symm)]
   rw[hstep,show decide (p=k.1)=false by simp[hp],cond_false,hg]
   rcases su (p:=p) (i:=i+1) (show IC es kv from h2)with⟨a,b,c⟩ |⟨j,k',a,b,c,d⟩
   ·exact .inl ⟨a,by simp[hp]at b⊢;exact b,c⟩
   ·exact .inr ⟨j+1,k',by simpa using a,b,c,by rw[d,show i+1+j=i+(j+1) by omega]⟩
theorem Bh:fQ TE 29=some (.slice none 0 0):=by kernel_rfl
theorem PM.lookup{n1 r:Nat}{kv:List jI}(h:PM n1 m r kv)(p:Pl):∃v,dL TE m 133 (.map (some r)) p.v false=some v/\Sl m (fy kv p) v:=by
 obtain⟨es,clock,h1,h2,_⟩:=h.ex
 have e:dL TE m 133 (.map (some r)) p.v false=match findKey TE 98 p.v es 0 with
   |some (some (_,v))=>some v
   |some none=>some (.slice none 0 0)
   |none=>none:=by
  unfold dL
  rw[show TE.ty.get 133=some af.t133 by kernel_rfl]
  dsimp only[af.t133]
  rw[h1]
  dsimp only
  rw[yP,cond_true,Bh]
  rfl
 rw[e]
 rcases su (p:=p) (i:=0) h2 with⟨a,b,c⟩ |⟨j,k,a,b,c,d⟩
 ·rw[c,a]
  exact⟨_,rfl,Sl.nil⟩
 ·rw[d,c]
  exact⟨_,rfl,(h.own k (List.mem_of_getElem? a)).ow.sl⟩
end Go.Proofs.YtmdfgncoekfgdaaGreatDoor
namespace Go.Proofs.YtmdfgncoekfgdaaGreatDoor
open Go Go.D
variable {m:M}
theorem ni:∀{es:List MapEntry} {j i:Nat} {e:MapEntry},(es.map (·.born)).Nodup->es[j]?=some e->fA (e.born:Int) es i=some (i+j)
 |f::es,0,i,e,_,h=>by
  cases h
  unfold fA
  simp
 |f::es,j+1,i,e,hd,h=>by
  have h:es[j]?=some e:=by simpa using h
  simp only[List.map_cons,List.nodup_cons]at hd
  have hne:f.born≠e.born:=fun x=>hd.1 (by rw[x];exact List.mem_map.2 ⟨e,List.mem_of_getElem? h,rfl⟩)
  unfold fA
  rw[show decide ((f.born:Int)=(e.born:Int))=false by simp;omega,cond_false,ni hd.2 h,show i+1+j=i+(j+1) by omega]
theorem BQ{es:List MapEntry}{kv:List jI}(h:IC es kv):es.length=kv.length:=by
 have:=congrArg List.length h
 simpa using this
theorem GJ{es:List MapEntry}{kv:List jI}(h:IC es kv){j:Nat}{e:MapEntry}{k:jI}(he:es[j]?=some e)(hk:kv[j]?=some k):e.key=k.1.v/\e.val=jI.val k:=by
 have:=congrArg (·[j]?) h
 simp only[List.getElem?_map,he,hk,Option.map_some,Option.some.injEq,Prod.mk.injEq]at this
 exact this
theorem oF{x:UW}:az TE m 29 1 [(0,x.v)]=some (.slice (some ⟨m.n,0,none⟩) 1 1,m.push (.cells x.c 87 none)):=by kernel_rfl
theorem kg{x:UW}{b:Nat}{g:Option Nat}(h:m.get b=.cells x.c 87 g)(hw:one x.w=true):Sl m [x] (.slice (some ⟨b,0,none⟩) 1 1):=
 .inr ⟨b,0,1,_,g,rfl,h,Nat.le_refl _,fun i y hi=>by
  match i with
  |0=>cases hi;exact⟨rfl,hw⟩
  |i+1=>cases hi⟩
structure Yq(n1 r:Nat)(m m':M):Prop where
 n:m.n<=m'.n
 cell:∀c cs t g,m.get c=.cells cs t g->(t≠87\/g=none)->m'.get c=.cells cs t g
 low:∀c,c < n1->c≠r->m'.get c=m.get c
theorem yI{r:Nat}{es:List MapEntry}{clock:Nat}(h:m.get r=.map es clock)(p:Pl):dF TE m 133 (.map (some r)) p.v=match findKey TE 98 p.v es 0 with
  |some (some (i,v))=>some (.tuple #[v,.int .i64 (((es[i]?).map (·.born)).getD 0)],m.set r (.map (es.modify i fun e=>{e with key:=p.v}) clock))
  |some none=>some (.tuple #[.slice none 0 0,.int .i64 clock],m.set r (.map (es++ [{key:=p.v,val:=.slice none 0 0,born:=clock}]) (clock+1)))
  |none=>none:=by
 unfold dF
 rw[show TE.ty.get 133=some af.t133 by kernel_rfl]
 dsimp only[af.t133]
 rw[h]
 dsimp only
 rw[yP,cond_true,Bh]
 rfl
theorem nb{r:Nat}{es:List MapEntry}{clock j:Nat}{b:Int}{v:Value}(h:m.get r=.map es clock)(hj:fA b es 0=some j):cD m (.map (some r)) (.int .i64 b) v=some (m.set r (.map (es.modify j fun e=>{e with val:=v}) clock)):=by
 unfold cD
 dsimp only
 rw[h]
 dsimp only
 rw[hj]
theorem GW{kv:List jI}{j:Nat}{k:jI}{l:List UW}{b:Nat}(hk:kv[j]?=some k)(hd:(kv.map (·.1)).Nodup)(q:Pl):fy (kv.set j (k.1,l,b)) q=if q=k.1 then l else fy kv q:=by
 induction kv generalizing j with
 |nil=>simp at hk
 |cons f kv ih=>
  simp only[List.map_cons,List.nodup_cons]at hd
  cases j with
  |zero=>
   cases hk
   rw[List.set_cons_zero]
   unfold fy
   by_cases hq:q=k.1
   ·rw[List.find?_cons_of_pos (by simp[hq]),if_pos hq]
   ·rw[List.find?_cons_of_neg (by simpa using fun h=>hq h.symm),List.find?_cons_of_neg (by simpa using fun h=>hq h.symm),if_neg hq]
  |succ j=>
   have hk:kv[j]?=some k:=by simpa using hk
   rw[List.set_cons_succ]
   have ih:=ih hk hd.2
   have hne:f.1≠k.1:=fun e=>hd.1 (by rw[e];exact List.mem_map.2 ⟨k,List.mem_of_getElem? hk,rfl⟩)
   unfold fy at ih⊢
   by_cases hq:f.1=q
   ·rw[List.find?_cons_of_pos (by simp[hq]),List.find?_cons_of_pos (by simp[hq]),if_neg (fun e=>hne (hq.trans e))]
   ·rw[List.find?_cons_of_neg (by simpa using hq),List.find?_cons_of_neg (by simpa using hq)]
    exact ih
theorem DF{kv:List jI}{k:jI}(hn:k.1∉kv.map (·.1))(q:Pl):fy (kv++ [k]) q=if q=k.1 then k.2.1 else fy kv q:=by
 induction kv with
 |nil=>
  unfold fy
  by_cases hq:q=k.1
  ·rw[if_pos hq,List.nil_append,List.find?_cons_of_pos (by simp[hq])]
  ·rw[if_neg hq,List.nil_append,List.find?_cons_of_neg (by simpa using fun h=>hq h.symm)]
 |cons f kv ih=>
  simp only[List.map_cons,List.mem_cons,not_or]at hn
  have ih:=ih hn.2
  rw[List.cons_append]
  unfold fy at ih⊢
  by_cases hq:f.1=q
  ·rw[List.find?_cons_of_pos (by simp[hq]),List.find?_cons_of_pos (by simp[hq]),if_neg (fun e=>hn.1 (e.symm.trans hq.symm))]
  ·rw[List.find?_cons_of_neg (by simpa using hq),List.find?_cons_of_neg (by simpa using hq)]
   exact ih
end Go.Proofs.YtmdfgncoekfgdaaGreatDoor
namespace Go.Proofs.YtmdfgncoekfgdaaGreatDoor
open Go Go.D
variable {m:M}
theorem my{α:Type}:∀{l:List α},l.Nodup↔∀(i j:Nat) (x:α),l[i]?=some x->l[j]?=some x->i=j
 |[]=>by simp
 |a::l=>by
  rw[List.nodup_cons,my (l:=l)]
  constructor
  ·rintro⟨h1,h2⟩ i j x hi hj
   match i,j with
   |0,0=>rfl
   |0,j+1=>cases hi;exact absurd (List.mem_of_getElem? (by simpa using hj)) h1
   |i+1,0=>cases hj;exact absurd (List.mem_of_getElem? (by simpa using hi)) h1
   |i+1,j+1=>rw[h2 i j x (by simpa using hi) (by simpa using hj)]
  ·intro h
   refine⟨fun hm=>?_,fun i j x hi hj=>?_⟩
   ·obtain⟨i,hi⟩:=List.mem_iff_getElem?.1 hm
    have:=h 0 (i+1) a rfl (by simpa using hi)
    omega
   ·have:=h (i+1) (j+1) x (by simpa using hi) (by simpa using hj)
    omega
theorem get_modify{α:Type}{l:List α}{j i:Nat}{f:α->α}:(l.modify j f)[i]?=if j=i then l[i]?.map f else l[i]?:=by
 rw[List.getElem?_modify]
 by_cases h:j=i
 ·simp only[h,if_true];cases l[i]? <;>rfl
 ·simp only[h,if_false];cases l[i]? <;>rfl
theorem ss{es:List MapEntry}{kv:List jI}{j:Nat}{k:jI}{p:Pl}(h:IC es kv)(hk:kv[j]?=some k)(hp:k.1=p):es.modify j (fun e=>{e with key:=p.v})=es:=by
 refine List.ext_getElem? fun i=>?_
 rw[get_modify]
 by_cases hij:j=i
 ·subst hij
  rw[if_pos rfl]
  cases he:es[j]? with
  |none=>rfl
  |some e=>
   have:=(GJ h he hk).1
   simp only[Option.map_some,Option.some.injEq]
   rw[<-hp,<-this]
 ·rw[if_neg hij]
theorem sq{es:List MapEntry}{kv:List jI}{j:Nat}{k:jI}(h:IC es kv){p:Pl}{l:List UW}{b:Nat}(hk:kv[j]?=some k)(hp:k.1=p):
  IC (es.modify j (fun e=>{e with val:=jI.val (p,l,b)})) (kv.set j (p,l,b)):=by
 unfold IC
 refine List.ext_getElem? fun i=>?_
 rw[List.getElem?_map,List.getElem?_map,get_modify,List.getElem?_set]
 have hlen:=BQ h
 by_cases hij:j=i
 ·subst hij
  have hj:=(List.getElem?_eq_some_iff.1 hk).1
  rw[if_pos rfl,if_pos rfl,if_pos hj]
  obtain⟨e,he⟩:∃e,es[j]?=some e:=⟨_,List.getElem?_eq_getElem (by omega)⟩
  rw[he]
  have:=(GJ h he hk).1
  show some (e.key,jI.val (p,l,b))=some (p.v,jI.val (p,l,b))
  rw[this,hp]
 ·rw[if_neg hij,if_neg hij]
  have:=congrArg (·[i]?) h
  simp only[List.getElem?_map]at this
  rw[<-this]
theorem qv{es:List MapEntry}{j:Nat}{v:Value}:(es.modify j (fun e=>{e with val:=v})).map (·.born)=es.map (·.born):=by
 refine List.ext_getElem? fun i=>?_
 rw[List.getElem?_map,List.getElem?_map,get_modify]
 by_cases hij:j=i
 ·rw[if_pos hij];cases es[i]? <;>rfl
 ·rw[if_neg hij]
theorem PM.add{n0 n1 r:Nat}{kv:List jI}(h:PM n1 m r kv)(hn0:n0<=r)(hn1:n0<=n1)(hnm:n1<=m.n)(hr:r < n1){p:Pl}{u:UW}(hw:one u.w=true)(hs:(fy kv p).length < 1000000){P:M->M->M->Prop}
  (hP:∀m2 m3 m4 kv',PM n1 m4 r kv'->(∀q,fy kv' q=if q=p then fy kv p++ [u]else fy kv q)->Yq n1 r m m4->m2.n=m.n+1->m3.n=m.n+2->m4.n=m.n+2->n0<=m2.low->n0<=m3.low->n0<=m4.low->P m2 m3 m4):
  aK (az TE m 29 1 [(0,u.v)]) fun a m1=>aK (dF TE (m1.wl m1.n) 133 (.map (some r)) p.v) fun e m2=>ah (cj e 0) fun eO=>
   aK (an TE (m2.wl m2.n) .append [29,29] [eO,a]) fun nw m3=>ah (cj e 1) fun st=>ah (cD (m3.wl m3.n) (.map (some r)) st nw) fun m4=>P m2 m3 m4:=by
 rw[oF,ar]
 obtain⟨es,clock,he,hkv,hborn,hnd⟩:=h.ex
 generalize hm1:m.push (.cells u.c 87 none)=m1
 have hn1':m1.n=m.n+1:=by rw[<-hm1];rfl
 have hx1:Ext m m1:=by rw[<-hm1];exact Ext.refl.push
 have hg1:m1.get m.n=.cells u.c 87 none:=by rw[<-hm1];exact M.aN
 have hrm:r < m.n:=M.uc he
 have he1:(m1.wl m1.n).get r=.map es clock:=by show m1.get r=_;rw[hx1.get r hrm,he]
 rw[yI he1]
 have tail:∀(m2:M) (eO:Value) (ol:List UW),m2.n=m1.n->m2.low=r->(∀c,c≠r->m2.get c=m1.get c)->Ow n1 m2 ol eO->ol.length < 1000000->
   ∃nw m3 b,an TE (m2.wl m2.n) .append [29,29] [eO,.slice (some ⟨m.n,0,none⟩) 1 1]=some (nw,m3)/\nw=jI.val (p,ol++ [u],b)/\Own n1 m3 (ol++ [u]) b/\m.n+1<=b/\m3.n=m.n+2/\n1<=m3.low/\
    (∀c,c < m2.n->(∀a n k,eO=.slice (some a) n k->c≠a.block)->m3.get c=m2.get c)/\(∀c,c < n1->m3.get c=m2.get c):=by
  intro m2 eO ol h2n h2l h2g hol hlen
  have hgm:m2.get m.n=.cells u.c 87 none:=by rw[h2g _ (by omega),hg1]
  obtain⟨nw,m3,e1,ho,hf,hl,hn3⟩:=hol.Bg wz (by simp[aL.fR]) (kg hgm hw) (by omega) (by simp;omega) (by simp)
  obtain⟨b,rfl,hb⟩:=Own.of ho (by simp)
  exact⟨_,m3,b,e1,rfl,⟨hb.1,by have:=hb.2.1;omega,hb.2.2⟩,by have:=hb.2.1;omega,by omega,hl,fun c hc hca=>fj e1 hc hca,hf.get⟩
 have plr:∀c cs t g,m.get c=.cells cs t g->c≠r:=fun c cs t g hc e=>by subst e;rw[he]at hc;cases hc
 rcases su (p:=p) (i:=0) hkv with⟨a,b,c⟩ |⟨j,k,hj,hkp,hgl,hfind⟩
 ·
  rw[c]
  dsimp only
  rw[ar,bw]
  simp only[List.getElem?_cons_zero,List.getElem?_cons_succ,aa]
  generalize hm2:(m1.wl m1.n).set r (.map (es++ [{key:=p.v,val:=.slice none 0 0,born:=clock}]) (clock+1))=m2
  have h2n:m2.n=m1.n:=by rw[<-hm2];rfl
  have h2l:m2.low=r:=by rw[<-hm2];show min m1.n r=r;omega
  have h2g:∀c,c≠r->m2.get c=m1.get c:=fun c hc=>by rw[<-hm2,M.bZ hc];rfl
  have h2r:m2.get r=.map (es++ [{key:=p.v,val:=.slice none 0 0,born:=clock}]) (clock+1):=by rw[<-hm2];exact M.dr (m:=m1.wl m1.n) (by show r < m1.n;omega)
  obtain⟨nw,m3,b',e1,rfl,hown,hb',h3n,h3l,h3g,h3low⟩:=tail m2 (.slice none 0 0) [] h2n h2l h2g Ow.nil (by simp)
  rw[e1,ar,bw]
  simp only[List.getElem?_cons_zero,List.getElem?_cons_succ,aa]
  have h3r:(m3.wl m3.n).get r=.map (es++ [{key:=p.v,val:=.slice none 0 0,born:=clock}]) (clock+1):=by
   show m3.get r=_
   rw[h3low r hr,h2r]
  have hnd':((es++ [{key:=p.v,val:=.slice none 0 0,born:=clock}]:List MapEntry).map (·.born)).Nodup:=by
   rw[List.map_append]
   refine List.nodup_append.2 ⟨hnd,by simp,?_⟩
   intro x hx y hy hxy
   obtain⟨e,hee,rfl⟩:=List.mem_map.1 hx
   have:=hborn e hee
   simp at hy
   omega
  have hst:fA ((clock:Nat):Int) (es++ [{key:=p.v,val:=.slice none 0 0,born:=clock}]) 0=some es.length:=by
   have:=ni (i:=0) (j:=es.length) (e:={key:=p.v,val:=.slice none 0 0,born:=clock}) hnd' (by simp)
   rw[this,Nat.zero_add]
  rw[nb h3r hst,aa]
  generalize hm4:(m3.wl m3.n).set r _=m4
  have h4n:m4.n=m3.n:=by rw[<-hm4];rfl
  have h4g:∀c,c≠r->m4.get c=m3.get c:=fun c hc=>by rw[<-hm4,M.bZ hc];rfl
  have hlow4:m4.low=r:=by rw[<-hm4];show min m3.n r=r;omega
  have h4r:m4.get r=.map (es++ [{key:=p.v,val:=jI.val (p,[]++ [u],b'),born:=clock}]) (clock+1):=by
   rw[<-hm4,M.dr (m:=m3.wl m3.n) (by show r < m3.n;omega)]
   congr 1
   refine List.ext_getElem? fun i=>?_
   rw[get_modify]
   by_cases hi:es.length=i
   ·subst hi;simp
   ·rw[if_neg hi]
    by_cases hlt:i < es.length
    ·rw[List.getElem?_append_left hlt,List.getElem?_append_left hlt]
    ·rw[List.getElem?_eq_none (by simp;omega),List.getElem?_eq_none (by simp;omega)]
  have old4:∀c,c < m.n->c≠r->m4.get c=m.get c:=fun c hc hcr=>by rw[h4g c hcr,h3g c (by omega) (fun a n k e=>by cases e),h2g c hcr,hx1.get c hc]
  refine hP m2 m3 m4 (kv++ [(p,[]++ [u],b')]) ⟨⟨_,_,h4r,?_,?_,?_⟩,?_,?_,?_⟩ ?_ ⟨by omega,?_,?_⟩ (by omega) h3n (by omega) (by omega) (by omega) (by omega)
  ·unfold IC at hkv⊢
   rw[List.map_append,List.map_append,hkv];rfl
  ·intro e hee
   rcases List.mem_append.1 hee with h |h
   ·have:=hborn e h;omega
   ·obtain rfl:=List.mem_singleton.1 h
    show clock < clock+1
    omega
  ·rw[List.map_append]at hnd'⊢;exact hnd'
  ·rw[List.map_append]
   exact List.nodup_append.2 ⟨h.keys,by simp,fun x hx y hy hxy=>b (by simp at hy;rw[<-hy,<-hxy];exact hx)⟩
  ·rw[List.map_append]
   refine List.nodup_append.2 ⟨h.Iq,by simp,fun x hx y hy hxy=>?_⟩
   obtain⟨k,hk,rfl⟩:=List.mem_map.1 hx
   obtain⟨_,_,cs,hcs,_⟩:=h.own k hk
   have:=M.aV hcs
   simp at hy
   omega
  ·intro k hk
   rcases List.mem_append.1 hk with hk |hk
   ·have ho:=h.own k hk
    obtain⟨_,_,cs,hcs,_⟩:=id ho
    exact ho.bt (old4 _ (M.aV hcs) (plr _ _ _ _ hcs))
   ·obtain rfl:=List.mem_singleton.1 hk
    exact hown.bt (h4g _ (by show b'≠r;omega))
  ·intro q
   rw[DF b q,a]
  ·intro c cs t g hc _
   rw[old4 c (M.aV hc) (plr _ _ _ _ hc),hc]
  ·intro c hc hcr
   exact old4 c (by omega) hcr
 ·
  have hjl:=(List.getElem?_eq_some_iff.1 hj).1
  have hlen:=BQ hkv
  obtain⟨e,hej⟩:∃e,es[j]?=some e:=⟨_,List.getElem?_eq_getElem (by omega)⟩
  rw[hfind]
  dsimp only
  rw[ar,bw]
  simp only[List.getElem?_cons_zero,List.getElem?_cons_succ,aa,Nat.zero_add,hej,Option.map_some,Option.getD_some]
  rw[ss hkv hj hkp]
  generalize hm2:(m1.wl m1.n).set r (.map es clock)=m2
  have h2n:m2.n=m1.n:=by rw[<-hm2];rfl
  have h2l:m2.low=r:=by rw[<-hm2];show min m1.n r=r;omega
  have h2g:∀c,c≠r->m2.get c=m1.get c:=fun c hc=>by rw[<-hm2,M.bZ hc];rfl
  have h2r:m2.get r=.map es clock:=by rw[<-hm2];exact M.dr (m:=m1.wl m1.n) (by show r < m1.n;omega)
  have hok:=h.own k (List.mem_of_getElem? hj)
  obtain⟨_,hb0,cs0,hcs0,_⟩:=id hok
  have hb0m:=M.aV hcs0
  have old2:∀c cs t g,m.get c=.cells cs t g->m2.get c=.cells cs t g:=fun c cs t g hc=>by rw[h2g c (plr _ _ _ _ hc),hx1.get c (M.aV hc),hc]
  have hok2:Own n1 m2 k.2.1 k.2.2:=hok.bt (by rw[hcs0];exact old2 _ _ _ _ hcs0)
  obtain⟨nw,m3,b',e1,rfl,hown,hb',h3n,h3l,h3g,h3low⟩:=tail m2 (jI.val k) k.2.1 h2n h2l h2g hok2.ow (by rw[<-hgl];exact hs)
  rw[e1,ar,bw]
  simp only[List.getElem?_cons_zero,List.getElem?_cons_succ,aa]
  have h3r:(m3.wl m3.n).get r=.map es clock:=by
   show m3.get r=_
   rw[h3low r hr,h2r]
  have hst:fA ((e.born:Nat):Int) es 0=some j:=by
   rw[ni (i:=0) hnd hej,Nat.zero_add]
  rw[nb h3r hst,aa]
  generalize hm4:(m3.wl m3.n).set r _=m4
  have h4n:m4.n=m3.n:=by rw[<-hm4];rfl
  have h4g:∀c,c≠r->m4.get c=m3.get c:=fun c hc=>by rw[<-hm4,M.bZ hc];rfl
  have hlow4:m4.low=r:=by rw[<-hm4];show min m3.n r=r;omega
  have h4r:m4.get r=.map (es.modify j fun e=>{e with val:=jI.val (p,k.2.1++ [u],b')}) clock:=by
   rw[<-hm4,M.dr (m:=m3.wl m3.n) (by show r < m3.n;omega)]
  have old4:∀c,c < m.n->c≠r->c≠k.2.2->m4.get c=m.get c:=fun c hc hcr hck=>by rw[h4g c hcr,h3g c (by omega) (fun a n q e=>by cases e;exact hck),h2g c hcr,hx1.get c hc]
  have hset:kv.set j (p,k.2.1++ [u],b')=kv.set j (k.1,k.2.1++ [u],b'):=by rw[hkp]
  refine hP m2 m3 m4 (kv.set j (p,k.2.1++ [u],b')) ⟨⟨_,_,h4r,sq hkv hj hkp,?_,?_⟩,?_,?_,?_⟩ ?_ ⟨by omega,?_,?_⟩ (by omega) h3n (by omega) (by omega) (by omega) (by omega)
  ·intro f hf
   have:f.born∈(es.modify j fun e=>{e with val:=jI.val (p,k.2.1++ [u],b')}).map (·.born):=List.mem_map.2 ⟨f,hf,rfl⟩
   rw[qv]at this
   obtain⟨f',hf',hfe⟩:=List.mem_map.1 this
   rw[<-hfe]
   exact hborn f' hf'
  ·rw[qv];exact hnd
  ·have e:(kv.set j (p,k.2.1++ [u],b')).map (·.1)=kv.map (·.1):=by
    rw[List.map_set]
    refine List.ext_getElem? fun i=>?_
    rw[List.getElem?_set]
    by_cases hij:j=i
    ·subst hij;rw[if_pos rfl,List.length_map,if_pos hjl,List.getElem?_map,hj,Option.map_some,hkp]
    ·rw[if_neg hij]
   rw[e];exact h.keys
  ·rw[List.map_set]
   have hnin:b'∉kv.map (·.2.2):=fun hin=>by
    obtain⟨q,hq,hqb⟩:=List.mem_map.1 hin
    obtain⟨_,_,cs,hcs,_⟩:=h.own q hq
    have:=M.aV hcs
    omega
   have hold:=my.1 h.Iq
   refine my.2 fun i i' x hi hi'=>?_
   rw[List.getElem?_set,List.length_map]at hi hi'
   by_cases h1:j=i <;>by_cases h2:j=i'
   ·omega
   ·rw[if_pos h1,if_pos hjl]at hi
    rw[if_neg h2]at hi'
    cases hi
    exact absurd (List.mem_of_getElem? hi') hnin
   ·rw[if_pos h2,if_pos hjl]at hi'
    rw[if_neg h1]at hi
    cases hi'
    exact absurd (List.mem_of_getElem? hi) hnin
   ·rw[if_neg h1]at hi
    rw[if_neg h2]at hi'
    exact hold i i' x hi hi'
  ·intro q hq
   obtain⟨i,hi⟩:=List.mem_iff_getElem?.1 hq
   rw[List.getElem?_set]at hi
   by_cases hij:j=i
   ·rw[if_pos hij,if_pos hjl]at hi
    cases hi
    exact hown.bt (h4g _ (by show b'≠r;omega))
   ·rw[if_neg hij]at hi
    have ho:=h.own q (List.mem_of_getElem? hi)
    obtain⟨_,_,cs,hcs,_⟩:=id ho
    have hne:q.2.2≠k.2.2:=fun e=>by
     exact hij (my.1 h.Iq j i q.2.2 (by rw[List.getElem?_map,hj,Option.map_some,e]) (by rw[List.getElem?_map,hi,Option.map_some]))
    exact ho.bt (old4 _ (M.aV hcs) (plr _ _ _ _ hcs) hne)
  ·intro q
   rw[hset,GW hj h.keys q,hkp,hgl]
  ·intro c cs t g hc ht
   rw[old4 c (M.aV hc) (plr _ _ _ _ hc) (fun e=>by
    subst e
    rw[hcs0]at hc
    cases hc
    rcases ht with h |h
    ·exact h rfl
    ·cases h),hc]
  ·intro c hc hcr
   exact old4 c (by omega) hcr (by omega)
end Go.Proofs.YtmdfgncoekfgdaaGreatDoor
namespace Go.Proofs.YtmdfgncoekfgdaaGreatDoor
open Go Go.D
variable {X:aF} {m:M}
def ek(l:List Pl)(i:Nat):Pl:=(l.take i).foldl (fun q p=>⟨min q.x p.x,min q.y p.y⟩) (l.headD ⟨0,0⟩)
def fc(l:List Pl)(i:Nat):Pl:=(l.take i).foldl (fun q p=>⟨max q.x p.x,max q.y p.y⟩) (l.headD ⟨0,0⟩)
theorem nN{l:List Pl}{i:Nat}{p:Pl}(h:l[i]?=some p):ek l (i+1)=⟨min (ek l i).x p.x,min (ek l i).y p.y⟩:=by
 unfold ek
 rw[List.take_add_one,h,Option.toList_some,List.foldl_append];rfl
theorem nO{l:List Pl}{i:Nat}{p:Pl}(h:l[i]?=some p):fc l (i+1)=⟨max (fc l i).x p.x,max (fc l i).y p.y⟩:=by
 unfold fc
 rw[List.take_add_one,h,Option.toList_some,List.foldl_append];rfl
def Pl.bW(p:Pl):Prop:=0<=p.x/\p.x<=40/\0<=p.y/\p.y<=40
theorem Im{l:List Pl}(hon:∀p∈l,p.off=false)(hne:l≠ []):∀i,i<=l.length->(ek l i).bW/\(fc l i).bW/\(ek l i).x<=(fc l i).x/\(ek l i).y<=(fc l i).y
 |0,_=>by
  cases l with
  |nil=>exact absurd rfl hne
  |cons p l=>
   have:=Pl.on (hon p List.mem_cons_self)
   exact⟨this,this,Int.le_refl _,Int.le_refl _⟩
 |i+1,hi=>by
  obtain⟨h1,h2,h3,h4⟩:=Im hon hne i (by omega)
  obtain⟨p,hp⟩:∃p,l[i]?=some p:=⟨_,List.getElem?_eq_getElem (by omega)⟩
  have:=Pl.on (hon p (List.mem_of_getElem? hp))
  rw[nN hp,nO hp]
  unfold Pl.bW at h1 h2⊢
  dsimp only
  omega
def tq(l:List Pl)(q:Pl):Bool:=decide ((ek l l.length).x<=q.x) && decide (q.x < (fc l l.length).x) && decide ((ek l l.length).y<=q.y) && decide (q.y < (fc l l.length).y)
def kV(u:Un)(q:Pl):Bool:=tq u.shape q && decide (0<=fY u.shape q.x q.y)
def jH(us:List UW)(q:Pl):List UW:=us.filter fun u=>kV u.u q
def jM(y x:Int)(q:Pl):Bool:=decide (q.y < y) ||(decide (q.y=y) && decide (q.x < x))
def iv(kv:List jI)(us:List UW)(u:UW)(y x:Int):Prop:=∀q,fy kv q=jH us q++(if kV u.u q && jM y x q then [u]else [])
structure Cv(m0:M)(u:UW)(b8 b16 b26:Nat)(lo hi:Pl)(kv:List jI)(mm:M):Prop where
 eO:∀c,c < m0.n->mm.get c=m0.get c
 n:m0.n+2<=mm.n
 un:mm.get b8=.cells u.c 87 none
 lo:mm.get b16=.cells lo.c 98 none
 hi:mm.get b26=.cells hi.c 98 none
 pm:PM (m0.n+2) mm (m0.n+1) kv
theorem Cv.bt{m0:M}{u:UW}{b8 b16 b26:Nat}{lo hi:Pl}{kv:List jI}{mm mm':M}(h:Cv m0 u b8 b16 b26 lo hi kv mm)(hx:Ext mm mm'):Cv m0 u b8 b16 b26 lo hi kv mm':=
 ⟨fun c hc=>by rw[hx.get c (by have:=h.n;omega),h.eO c hc],by have:=h.n;have:=hx.n;omega,hx.cells h.un,hx.cells h.lo,hx.cells h.hi,h.pm.aB hx⟩
theorem pC{α:Type}[aL α]{m0 mm:M}{l:List α}{v:Value}(h:Sl m0 l v)(ho:∀c,c < m0.n->mm.get c=m0.get c):Sl mm l v:=h.bt fun b c t g hb _=>by rw[ho b (M.aV hb),hb]
theorem PM.store{n1 r b:Nat}{kv:List jI}{m':M}{cs:List Value}{t:TypeId}(h:PM n1 m r kv)(hb:m.get b=.cells cs t none)(hk:∀c,c≠b->m'.get c=m.get c):PM n1 m' r kv:=by
 obtain⟨es,clock,h1,h2⟩:=h.ex
 refine⟨⟨es,clock,by rw[hk r (fun e=>by subst e;rw[h1]at hb;cases hb),h1],h2⟩,h.keys,h.Iq,fun k hk'=>?_⟩
 have ho:=h.own k hk'
 obtain⟨_,_,cs',h3,_⟩:=id ho
 exact ho.bt (hk _ fun e=>by rw[e,hb]at h3;cases h3)
theorem Dm{l:List Pl}{y:Int}{q:Pl}(h:tq l q=true):jM y (fc l l.length).x q=jM (y+1) (ek l l.length).x q:=by
 simp only[tq,Bool.and_eq_true,decide_eq_true_eq]at h
 have e1:decide (q.x < (fc l l.length).x)=true:=by simp;omega
 have e2:decide (q.x < (ek l l.length).x)=false:=by simp;omega
 unfold jM
 rw[e1,e2,Bool.and_true,Bool.and_false,Bool.or_false]
 by_cases h1:q.y < y <;>by_cases h2:q.y=y <;>by_cases h3:q.y < y+1 <;>simp[h1,h2,h3] <;>omega
theorem rN{y x:Int}{q:Pl}:jM y (x+1) q=(jM y x q ||decide (q=⟨x,y⟩)):=by
 obtain⟨a,b⟩:=q
 unfold jM
 dsimp only
 have e:decide (({x:=a,y:=b}:Pl)=⟨x,y⟩)=(decide (a=x) && decide (b=y)):=by by_cases h1:a=x <;>by_cases h2:b=y <;>simp[h1,h2]
 rw[e]
 by_cases h1:b < y <;>by_cases h2:b=y <;>by_cases h3:a < x <;>by_cases h4:a=x <;>by_cases h5:a < x+1 <;>simp[h1,h2,h3,h4,h5] <;>omega
theorem Gk{y x:Int}:jM y x ⟨x,y⟩=false:=by
 unfold jM
 simp
theorem iv.step{kv kv':List jI}{us:List UW}{u:UW}{y x:Int}(h:iv kv us u y x)(hc:kV u.u ⟨x,y⟩=true)(hq:∀q,fy kv' q=if q=⟨x,y⟩then fy kv ⟨x,y⟩++ [u]else fy kv q):iv kv' us u y (x+1):=by
 intro q
 rw[hq,rN]
 by_cases e:q=⟨x,y⟩
 ·subst e
  rw[if_pos rfl,h ⟨x,y⟩,Gk,hc]
  simp
 ·rw[if_neg e,h q]
  simp[e]
theorem iv.skip{kv:List jI}{us:List UW}{u:UW}{y x:Int}(h:iv kv us u y x)(hc:kV u.u ⟨x,y⟩=false):iv kv us u y (x+1):=by
 intro q
 rw[h q,rN]
 by_cases e:q=⟨x,y⟩
 ·subst e
  rw[hc];simp
 ·simp[e]
theorem iv.row{kv:List jI}{us:List UW}{u:UW}{y:Int}(h:iv kv us u y (fc u.u.shape u.u.shape.length).x):iv kv us u (y+1) (ek u.u.shape u.u.shape.length).x:=by
 intro q
 rw[h q]
 congr 1
 cases hc:kV u.u q with
 |false=>rfl
 |true=>
  have:tq u.u.shape q=true:=by
   unfold kV at hc
   rw[Bool.and_eq_true]at hc
   exact hc.1
  rw[Dm this]
theorem iv.start{kv:List jI}{us:List UW}{u:UW}(h:∀q,fy kv q=jH us q):iv kv us u (ek u.u.shape u.u.shape.length).y (ek u.u.shape u.u.shape.length).x:=by
 intro q
 rw[h q]
 have:(kV u.u q && jM (ek u.u.shape u.u.shape.length).y (ek u.u.shape u.u.shape.length).x q)=false:=by
  cases hc:kV u.u q with
  |false=>rfl
  |true=>
   unfold kV at hc
   simp only[tq,Bool.and_eq_true,decide_eq_true_eq]at hc
   unfold jM
   simp
   omega
 rw[this];simp
theorem iv.done{kv:List jI}{us:List UW}{u:UW}{y x:Int}(h:iv kv us u y x)(hy:(fc u.u.shape u.u.shape.length).y<=y):∀q,fy kv q=jH (us++ [u]) q:=by
 intro q
 rw[h q]
 unfold jH
 rw[List.filter_append]
 congr 1
 cases hc:kV u.u q with
 |false=>simp[hc]
 |true=>
  have hc':=hc
  unfold kV at hc'
  simp only[tq,Bool.and_eq_true,decide_eq_true_eq]at hc'
  have:jM y x q=true:=by
   unfold jM
   simp
   omega
  simp[hc,this]
end Go.Proofs.YtmdfgncoekfgdaaGreatDoor
namespace Go.Proofs.YtmdfgncoekfgdaaGreatDoor
open Go Go.D
variable {X:aF} {m:M}
theorem _root_.Go.D.Sl.lv{l:List UW}{v:Value}(h:Sl m l v){i:Nat}{x:UW}(hi:l[i]?=some x){k:IntKind}:∃a,ai TE 29 v (.int k i)=some a/\ag TE m 87 a=some x.v/\one x.w=true:=by
 obtain⟨a,cs,h1,h2,rfl,h3⟩:=h.index eo (k:=k) hi
 exact⟨a,h1,h2,h3⟩
theorem vD{b:Nat}{x:UW}{e:TypeId}{g:Option Nat}(h:m.get b=.cells x.c e g):ag TE m 87 (.pointer (some ⟨b,0,none⟩))=some x.v:=cU h
theorem pZ(hX:cW X){us:List UW}{v:Value}(hl:Sl m us v)(hsh:∀x∈us,Sl m x.u.shape x.w)(hval:∀x∈us,aY x.u.shape=true)(hlen:us.length<=1000):
  ∃m' kv,C X (.func 67) [.agg #[v]] m m.n (.map (some (m.n+1))) m'/\Ext m m'/\PM (m.n+2) m' (m.n+1) kv/\∀q,fy kv q=jH us q:=by
 have key:=Cl.heap (E:=TE) (X:=X) (f:=67) (args:=[.agg #[v]]) (m:=m) (R:=fun v' m' b=>b=m.n/\v'=.map (some (m.n+1))/\Ext m m'/\∃kv,PM (m.n+2) m' (m.n+1) kv/\∀q,fy kv q=jH us q) (hX.no _ rfl) Oz rfl ?_
 ·obtain⟨v',m',b,hc,rfl,rfl,hx,kv,h1,h2⟩:=key
  exact⟨m',kv,hc,hx,h1,h2⟩
 rw[YH];dsimp only[aI]
 refine au fun m1 hn1 hg1 hk1=>?_
 refine au fun m2 hn2 hg2 hk2=>?_
 have g0:m2.get m.n=.cells [v] 31 none:=by rw[hk2 _ (by omega),hg1];rfl
 have old2:∀c,c < m.n->m2.get c=m.get c:=fun c hc=>by rw[hk2 c (by omega),hk1 c hc]
 rw[hn1]at hg2 hn2 hk2⊢
 simp only[ptrTo]
 rw[cx,aa,gX,av g0]
 simp only[Nat.zero_add,List.getElem?_cons_zero,aa]
 rw[(pC hl old2).len eo,ar]
 refine Lp.intro (γ:=Nat) (fun i=>us.length-i) (fun i vs m8 lo=>vs=[.int .i64 i]/\i<=us.length/\(∀c,c < m.n->m8.get c=m.get c)/\m.n+2<=m8.n/\m.n<=lo/\∃kv,PM (m.n+2) m8 (m.n+1) kv/\∀q,fy kv q=jH (us.take i) q) 0
  ⟨rfl,Nat.zero_le _,old2,by omega,Nat.le_refl _,[],⟨⟨[],0,hg2,rfl,(fun e he=>by cases he),List.nodup_nil⟩,List.nodup_nil,List.nodup_nil,(fun k hk=>by cases hk)⟩,fun q=>rfl⟩ ?_
 rintro i vs m8 lo8 ⟨rfl,hi,old8,hn8,hlo8,kv8,hpm8,hget8⟩
 simp only[aA,aH,aa,aj]
 refine ak (fun hlt=>?_) (fun hge=>?_)
 ·have hlt:i < us.length:=by simpa using hlt
  obtain⟨x,hx⟩:∃x,us[i]?=some x:=⟨_,List.getElem?_eq_getElem hlt⟩
  have hxm:=List.mem_of_getElem? hx
  have hshx:=hsh x hxm
  have hv:=hval x hxm
  have hsl:=dD hv
  have hon:=gY hv
  have hne:x.u.shape≠ []:=by intro e;rw[e]at hsl;simp at hsl
  obtain⟨p0,hp0⟩:∃p,x.u.shape[0]?=some p:=⟨_,List.getElem?_eq_getElem (by omega)⟩
  obtain⟨a,e1,e2,hone⟩:=(pC hl old8).lv (k:=.i64) hx
  rw[e1,aa,e2,aa]
  refine au fun m15 hn15 hg15 hk15=>?_
  refine aD jl hg15 rfl rfl (Un.ky hone) fun m16 hn16 hg16 hk16=>?_
  have hx816:Ext m8 m16:=⟨by omega,fun b hb=>by rw[hk16 b (by omega),hk15 b hb]⟩
  have old16:∀c,c < m.n->m16.get c=m.get c:=fun c hc=>by rw[hx816.get c (by omega),old8 c hc]
  obtain⟨b0,o0,bc0,gg0,cs0,ea0,hb0,_⟩:=hshx.kQ cX (k:=.i64) hp0
  have hb0m:=M.aV hb0
  obtain⟨a0,ea1,la0⟩:=(pC hshx old16).iJ (k:=.i64) hp0
  obtain rfl:a0=.pointer (some ⟨b0,o0,none⟩):=by
   have:=ea1.symm.trans ea0
   exact Option.some.inj this
  have ea1:ai TE 45 x.w (.int .i64 0)=some (.pointer (some ⟨b0,o0,none⟩)):=ea1
  have ldw:∀mm:M,mm.get m8.n=.cells x.c 87 none->ag TE mm 45 (.pointer (some ⟨m8.n,0+3,none⟩))=some x.w:=fun mm h=>by
   rw[kO,av h];rfl
  rw[cg,aa,ldw m16 hg16,aa,ea1,aa,la0,aa,aa,ldw m16 hg16,aa,ea1,aa,la0,aa]
  refine au fun m26 hn26 hg26 hk26=>?_
  refine au fun m27 hn27 hg27 hk27=>?_
  have h27:=(hk27 m16.n (by omega)).trans hg26
  refine aD gZ h27 rfl rfl rfl fun m28 hn28 hg28 hk28=>?_
  refine⟨.inr ⟨by show m8.n≠m16.n;omega,by show b0≠m16.n;omega,trivial⟩,?_⟩
  have h28:=(hk28 m26.n (by omega)).trans hg27
  refine aD gZ h28 rfl rfl rfl fun m30 hn30 hg30 hk30=>?_
  have hx1630:Ext m16 m30:=⟨by omega,fun b hb=>by rw[hk30 b (by omega),hk28 b (by omega),hk27 b (by omega),hk26 b hb]⟩
  have hp0':ek x.u.shape 0=p0/\fc x.u.shape 0=p0:=by
   have:x.u.shape.headD ⟨0,0⟩=p0:=by
    rw[List.headD_eq_head?_getD,List.head?_eq_getElem?,hp0];rfl
   exact⟨this,this⟩
  have cv30:Cv m x m8.n m16.n m26.n (ek x.u.shape 0) (fc x.u.shape 0) kv8 m30:=by
   rw[hp0'.1,hp0'.2]
   exact⟨fun c hc=>by rw[hx1630.get c (by omega),old16 c hc],by omega,hx1630.cells hg16,by rw[hk30 _ (by omega),hg28];rfl,by rw[hg30];rfl,(hpm8.aB hx816).aB hx1630⟩
  rw[aa,ldw m30 cv30.un,aa,(pC hshx cv30.eO).len cX,ar]
  refine Lp.intro (γ:=Nat) (fun k=>x.u.shape.length-k) (fun k vs m37 lo=>vs=[.int .i64 k]/\k<=x.u.shape.length/\Cv m x m8.n m16.n m26.n (ek x.u.shape k) (fc x.u.shape k) kv8 m37/\m30.n<=m37.n/\m.n<=lo) 0 ⟨rfl,Nat.zero_le _,cv30,Nat.le_refl _,by omega⟩ ?_
  rintro k vs m37 lo37 ⟨rfl,hk,cv37,hn37,hlo37⟩
  simp only[aA,aH,aa,aj]
  refine ak (fun hlt2=>?_) (fun hge2=>?_)
  ·have hlt2:k < x.u.shape.length:=by simpa using hlt2
   obtain⟨p,hp⟩:∃p,x.u.shape[k]?=some p:=⟨_,List.getElem?_eq_getElem hlt2⟩
   obtain⟨q,e1,e2⟩:=(pC hshx cv37.eO).iJ (k:=.i64) hp
   rw[e1,aa,e2,aa]
   refine au fun m44 hn44 hg44 hk44=>?_
   refine aD gZ hg44 rfl rfl rfl fun m45 hn45 hg45 hk45=>?_
   have hx45:Ext m37 m45:=⟨by omega,fun b hb=>by rw[hk45 b (by omega),hk44 b hb]⟩
   have cv45:=cv37.bt hx45
   have glo:=cv45.lo
   have ghi:=cv45.hi
   have gp:m45.get m37.n=.cells p.c 98 none:=hg45
   simp only[Pl.c]at glo ghi gp
   simp only[bK,cr,aa,bu,av glo,av ghi,av gp,Nat.zero_add,List.getElem?_cons_zero,List.getElem?_cons_succ,iQ,oJ,ar]
   rw[cd rfl rfl,aa,cd rfl rfl,aa]
   refine aD gZ glo rfl rfl rfl fun m69 hn69 hg69 hk69=>?_
   refine⟨.inr ⟨by show m26.n≠m16.n;omega,by show m37.n≠m16.n;omega,by show m26.n≠m16.n;omega,by show m37.n≠m16.n;omega,trivial⟩,?_⟩
   have ghi69:=(hk69 m26.n (by omega)).trans ghi
   refine aD gZ ghi69 rfl rfl rfl fun m71 hn71 hg71 hk71=>?_
   simp only[aG,aa]
   rw[wrap64 (by omega) (by omega)]
   refine⟨k+1,by omega,by simp,by omega,⟨?_,?_,?_,?_,?_,?_⟩,by omega,by omega⟩
   ·intro c hc
    rw[hk71 c (by omega),hk69 c (by omega),cv45.eO c hc]
   ·have:=cv45.n;omega
   ·rw[hk71 _ (by omega),hk69 _ (by omega),cv45.un]
   ·rw[hk71 _ (by omega),hg69,nN hp];rfl
   ·rw[hg71,nO hp];rfl
   ·exact(cv45.pm.store cv45.lo hk69).store ghi69 hk71
  ·have hk':k=x.u.shape.length:=by
    have:¬(k:Int)< (x.u.shape.length:Int):=by simpa using hge2
    omega
   subst hk'
   obtain⟨hbl,hbh,hbx,hby⟩:=Im hon hne _ (Nat.le_refl _)
   generalize hLO:ek x.u.shape x.u.shape.length=LO at*
   generalize hHI:fc x.u.shape x.u.shape.length=HI at*
   unfold Pl.bW at hbl hbh
   have glo:=cv37.lo
   simp only[Pl.c]at glo
   simp only[bK,cr,aa,bu,av glo,Nat.zero_add,List.getElem?_cons_zero,List.getElem?_cons_succ]
   refine Lp.intro (γ:=Int) (fun y=>(HI.y-y).toNat) (fun y vs m78 lo=>vs=[.int .i64 y]/\LO.y<=y/\y<=HI.y/\m37.n<=m78.n/\m.n<=lo/\∃kv,Cv m x m8.n m16.n m26.n LO HI kv m78/\iv kv (us.take i) x y LO.x) LO.y
    ⟨rfl,Int.le_refl _,hby,Nat.le_refl _,hlo37,kv8,cv37,by have:=iv.start (u:=x) hget8;rw[hLO]at this;exact this⟩ ?_
   rintro y vs m78 lo78 ⟨rfl,hy1,hy2,hn78,hlo78,kv78,cv78,hmap78⟩
   have ghi:=cv78.hi
   have glo:=cv78.lo
   simp only[Pl.c]at glo ghi
   simp only[aA,av ghi,av glo,List.getElem?_cons_zero,List.getElem?_cons_succ,aa,ck,aj]
   refine ak (fun hend=>?_) (fun hgo=>?_)
   ·have hend:HI.y<=y:=by simpa using hend
    simp only[aG,aa]
    rw[wrap64 (by omega) (by omega)]
    refine⟨i+1,by omega,by simp,by omega,cv78.eO,cv78.n,hlo78,kv78,cv78.pm,?_⟩
    rw[List.take_add_one,hx]
    exact hmap78.done (by rw[hHI];exact hend)
   ·have hgo:y < HI.y:=by
     have:¬HI.y<=y:=by simpa using hgo
     omega
    refine Lp.intro (γ:=Int) (fun z=>(HI.x-z).toNat) (fun z vs m90 lo=>vs=[.int .i64 z]/\LO.x<=z/\z<=HI.x/\m37.n<=m90.n/\m.n<=lo/\∃kv,Cv m x m8.n m16.n m26.n LO HI kv m90/\iv kv (us.take i) x y z) LO.x
     ⟨rfl,Int.le_refl _,hbx,hn78,hlo78,kv78,cv78,hmap78⟩ ?_
    rintro z vs m90 lo90 ⟨rfl,hz1,hz2,hn90,hlo90,kv90,cv90,hmap90⟩
    have ghi:=cv90.hi
    simp only[Pl.c]at ghi
    simp only[aA,av ghi,List.getElem?_cons_zero,List.getElem?_cons_succ,aa,aH,aj]
    refine ak (fun hgo2=>?_) (fun hend2=>?_)
    ·have hgo2:z < HI.x:=by simpa using hgo2
     rw[cd rfl rfl,aa]
     refine au fun m98 hn98 hg98 hk98=>?_
     refine aD gZ hg98 rfl rfl rfl fun m99 hn99 hg99 hk99=>?_
     have hx99:Ext m90 m99:=⟨by omega,fun b hb=>by rw[hk99 b (by omega),hk98 b hb]⟩
     have cv99:=cv90.bt hx99
     have gq:m99.get m90.n=.cells (Pl.c ⟨z,y⟩) 98 none:=hg99
     have hn99':=cv99.n
     rw[show ag TE m99 45 (.pointer (some ⟨m8.n,3,none⟩))=some x.w from ldw m99 cv99.un,aa]
     refine aC (Cf hX (pC hshx cv99.eO) (by omega) z y) ?_
     simp only[ck,aa,aj]
     have hin:tq x.u.shape ⟨z,y⟩=true:=by
      unfold tq
      rw[hLO,hHI]
      simp only[Bool.and_eq_true,decide_eq_true_eq]
      exact⟨⟨⟨hz1,hgo2⟩,hy1⟩,hgo⟩
     have hcov:kV x.u ⟨z,y⟩=decide (0<=fY x.u.shape z y):=by unfold kV;rw[hin,Bool.true_and]
     refine ak (fun hc=>?_) (fun hc=>?_)
     ·rw[fW gq,aa,vD cv99.un,aa]
      have hsz:(fy kv90 ⟨z,y⟩).length < 1000000:=by
       rw[hmap90 ⟨z,y⟩,List.length_append]
       have h1:(jH (us.take i) ⟨z,y⟩).length<=(us.take i).length:=List.length_filter_le _ _
       have h2:(us.take i).length<=us.length:=by rw[List.length_take];omega
       have h3:(if kV x.u ⟨z,y⟩ && jM y z ⟨z,y⟩then [x]else []).length<=1:=by split <;>simp
       omega
      refine PM.add (n0:=m.n) cv99.pm (by omega) (by omega) (by omega) (by omega) hone hsz fun m112 m115 m117 kv' hpm' hget' hfr hm2 hm3 hm4 l2 l3 l4=>?_
      simp only[aG,aa]
      rw[wrap64 (by omega) (by omega)]
      refine⟨z+1,by omega,rfl,by omega,by omega,by omega,by omega,kv',⟨fun c hc=>by rw[hfr.low c (by omega) (by omega),cv99.eO c hc],by omega,hfr.cell _ _ _ _ cv99.un (.inr rfl),hfr.cell _ _ _ _ cv99.lo (.inr rfl),hfr.cell _ _ _ _ cv99.hi (.inr rfl),hpm'⟩,?_⟩
      exact hmap90.step (by rw[hcov];exact hc) hget'
     ·simp only[aG,aa]
      rw[wrap64 (by omega) (by omega)]
      exact⟨z+1,by omega,rfl,by omega,by omega,by omega,by omega,kv90,cv99,hmap90.skip (by rw[hcov];exact hc)⟩
    ·have hz:z=HI.x:=by
      have:¬z < HI.x:=by simpa using hend2
      omega
     subst hz
     simp only[aG,aa]
     rw[wrap64 (by omega) (by omega)]
     refine⟨y+1,by omega,rfl,by omega,by omega,by omega,hlo90,kv90,cv90,?_⟩
     have:=iv.row (kv:=kv90) (us:=us.take i) (u:=x) (y:=y) (by rw[hHI];exact hmap90)
     rw[hLO]at this
     exact this
 ·have hi':i=us.length:=by
   have:¬(i:Int)< (us.length:Int):=by simpa using hge
   omega
  subst hi'
  rw[List.take_length]at hget8
  exact⟨.inl rfl,by omega,rfl,⟨by omega,old8⟩,kv8,hpm8,hget8⟩
end Go.Proofs.YtmdfgncoekfgdaaGreatDoor
namespace Go.Proofs.YtmdfgncoekfgdaaGreatDoor
open Go Go.D
variable {X:aF} {m:M}
def dT(us:List Un)(q:Pl):List Un:=us.filter fun u=>kV u q
theorem oT(us:List UW)(q:Pl):(jH us q).map (·.u)=dT (us.map (·.u)) q:=by
 unfold jH dT
 rw[List.filter_map]
 rfl
def nc(us:List Un)(behind:Bool)(x y:Int):Int:=
 if behind then GR (bQ (fun a b=>decide (a.back < b.back)) (dT us ⟨39-x,y⟩) none)
 else GR (bQ (fun a b=>decide (b.front < a.front)) (dT us ⟨x,y⟩) none)
theorem zd(hX:cW X){us:List UW}{b1 b2 r n1:Nat}{kv:List jI}{behind:Bool}(h1:m.get b1=.cells [.bool behind] 4 none)(h2:m.get b2=.cells [.map (some r)] 133 none)
  (hpm:PM n1 m r kv) (hget:∀q,fy kv q=jH us q) (hsh:∀x∈us,Sl m x.u.shape x.w) (hlen:us.length<=1000) {x y:Int} (hx:0<=x) (hx':x < 40):
  C X (.func 130) [.int .i64 x,.int .i64 y,ptrTo b1,ptrTo b2] m m.n (.int .i64 (nc (us.map (·.u)) behind x y)) m:=by
 refine Cl.flat (hX.no _ rfl) My rfl rfl ?_
 rw[Rn];dsimp only[aI]
 simp only[ptrTo]
 rw[vH,av h1]
 simp only[List.getElem?_cons_zero,aa,aj]
 have go:∀(bf:Un->Un->Bool) (fn:Nat) (q:Pl) (P:Value->M->Nat->Prop),(∀a b wa wb (m1:M),C X (.func fn) [a.v wa,b.v wb] m1 m1.n (.bool (bf a b)) m1)->
   (∀m2,m.n<=m2.n->∀b,m.n<=b->P (.int .i64 (GR (bQ bf (dT (us.map (·.u)) q) none))) m2 b)->
   ah (dL TE m 133 (.map (some r)) q.v false) fun v5=>bz TE X (.func 132) [v5,.func (.func fn) #[] #[]] m fun v6 m7 b8=>ah (cj v6 0) fun v9=>ah (cj v6 1) fun v10=>bz TE X (.func 131) [v9,v10] m7 fun v11 m12 b13=>P v11 m12 (min (min m.n b8) b13):=by
  intro bf fn q P hs hP
  obtain⟨v5,e5,hs5⟩:=hpm.lookup q
  rw[e5,aa]
  rw[hget q]at hs5
  have hsu:=hs5.yA fun x hx=>hsh x (List.mem_filter.1 hx |>.1)
  rw[oT]at hsu
  have hl:(dT (us.map (·.u)) q).length < 4611686018427387904:=by
   have:(dT (us.map (·.u)) q).length<=(us.map (·.u)).length:=List.length_filter_le _ _
   rw[List.length_map]at this
   omega
  obtain⟨rv,m7,hc,hx7,ho⟩:=HL hX (g:=.func fn) (fi:= #[]) (ca:= #[]) bf hl hsu (fun a b wa wb m1 _=>hs a b wa wb m1)
  refine aC hc ?_
  rw[bw,bw]
  simp only[List.getElem?_cons_zero,List.getElem?_cons_succ,aa]
  refine aC (N4 hX ho) ?_
  have:=hx7.n
  exact hP m7 (by omega) _ (by omega)
 have ldm:ag TE m 133 (.pointer (some ⟨b2,0,none⟩))=some (.map (some r)):=by rw[sd,av h2];rfl
 refine ak (fun hb=>?_) (fun hb=>?_)
 ·rw[ldm,aa,cz,aa,wrap64 (by omega) (by omega),cd rfl rfl,aa]
  exact go (fun a b=>decide (a.back < b.back)) 133 ⟨39-x,y⟩ (fun v m2 b=>aR [v]=.int .i64 (nc (us.map (·.u)) behind x y)/\m.n<=b) (fun a b wa wb m1=>Ir hX a b wa wb) (fun m2 hn b hbb=>⟨by rw[aR,nc,hb];rfl,hbb⟩)
 ·rw[ldm,aa,cd rfl rfl,aa]
  exact go (fun a b=>decide (b.front < a.front)) 134 ⟨x,y⟩ (fun v m2 b=>aR [v]=.int .i64 (nc (us.map (·.u)) behind x y)/\m.n<=b) (fun a b wa wb m1=>DG hX a b wa wb) (fun m2 hn b hbb=>⟨by rw[aR,nc,hb];rfl,hbb⟩)
def cJ(us:List Un)(behind:Bool):List Int:=cn (fun i j=>nc us behind i j) 40 40
theorem oS(hX:cW X){us:List Un}{v:Value}{behind:Bool}(hl:Sl m us v)(hval:∀u∈us,aY u.shape=true)(hlen:us.length<=1000):
  ∃v' m',C X (.func 60) [.agg #[v],.bool behind] m m.n (cF 40 40 v') m'/\Ext m m'/\Ow m.n m' (cJ us behind) v':=by
 have key:=Cl.heap (E:=TE) (X:=X) (f:=60) (args:=[.agg #[v],.bool behind]) (m:=m) (R:=fun w m' b=>b=m.n/\Ext m m'/\∃v',w=cF 40 40 v'/\Ow m.n m' (cJ us behind) v') (hX.no _ rfl) OG rfl ?_
 ·obtain⟨w,m',b,hc,rfl,hx,v',rfl,hr⟩:=key
  exact⟨v',m',hc,hx,hr⟩
 rw[YO];dsimp only[aI]
 refine au fun m1 hn1 hg1 hk1=>?_
 refine au fun m2 hn2 hg2 hk2=>?_
 refine au fun m3 hn3 hg3 hk3=>?_
 have hx3:Ext m m3:=⟨by omega,fun b hb=>by rw[hk3 b (by omega),hk2 b (by omega),hk1 b hb]⟩
 have g0:m3.get m.n=.cells [v] 31 none:=by rw[hk3 _ (by omega),hk2 _ (by omega),hg1];rfl
 have gb:m3.get m1.n=.cells [.bool behind] 4 none:=by rw[hk3 _ (by omega),hg2];rfl
 obtain⟨usw,rfl,hsw,hshw⟩:=(hl.aB hx3).NT
 simp only[ptrTo]
 rw[cZ,aE g0 (by simp)]
 simp only[List.drop_zero,List.take_succ_cons,List.take_zero,Option.map_some,aa]
 obtain⟨m6,kv,hc,hx6,hpm,hget⟩:=pZ hX hsw hshw (fun x hx=>hval x.u (List.mem_map.2 ⟨x,hx,rfl⟩)) (by rw[List.length_map]at hlen;exact hlen)
 refine aC hc ?_
 refine au fun m8 hn8 hg8 hk8=>?_
 refine aD zH hg8 rfl rfl rfl fun m9 hn9 hg9 hk9=>?_
 have hx69:Ext m6 m9:=⟨by omega,fun b hb=>by rw[hk9 b (by omega),hk8 b hb]⟩
 have hx39:=hx6.trans hx69
 have h3n:=hx39.n
 obtain⟨v',m12,hc12,hx12,ho12⟩:=vu (m:=m9) hX (w:=40) (h:=40) (by omega) (by omega) (g:=.func 130) (fi:= #[]) (ca:= #[.pointer (some ⟨m1.n,0,none⟩),.pointer (some ⟨m6.n,0,none⟩)]) (fun i j=>nc (usw.map (·.u)) behind i j)
  (fun i j mm hi hj hx=>by
   have hx3m:=hx39.trans hx
   exact zd (m:=mm) hX (b1:=m1.n) (b2:=m6.n) (hx3m.cells gb) (hx.cells (by rw[hg9];rfl)) ((hpm.aB hx69).aB hx) hget (fun x hx'=>(hshw x hx').aB hx3m) (by rw[List.length_map]at hlen;exact hlen) (by omega) (by omega)) (by omega)
 refine aC hc12 ?_
 have hx312:=hx39.trans hx12
 have gd:=hx312.cells hg3
 have hone:one v'=true:=ho12.sl.one
 have h12n:=hx312.n
 refine aD dw gd rfl rfl (by show(true && (true && (one v' && true)))=true;rw[hone];rfl) fun m14 hn14 hg14 hk14=>?_
 have e2:ag TE m14 27 (.pointer (some ⟨m2.n,0,none⟩))=some (cF 40 40 v'):=by rw[bO,aE hg14 (by simp[aP])];rfl
 rw[e2,aa]
 have ho14:Ow m9.n m14 (cJ (usw.map (·.u)) behind) v':=ho12.bt fun b c t g hb ht=>by
  by_cases hbm:b=m2.n
  ·subst hbm
   rw[gd]at hb
   cases hb
   simp[aL.ty,aL.fR]at ht
  ·rw[hk14 b hbm,hb]
 have hfl:bD (aR [cF 40 40 v'])=false:=by
  have hne:cJ (usw.map (·.u)) behind≠ []:=fun e=>by
   have:=congrArg List.length e
   unfold cJ at this
   rw[cy]at this
   simp at this
  rcases ho14 with⟨_,h0⟩ |⟨b,cs,rfl,_⟩
  ·exact absurd h0 hne
  ·rfl
 exact⟨.inl hfl,by have:=hx6.n;omega,⟨by omega,fun b hb=>by rw[hk14 b (by omega),(hx3.trans hx312).get b hb]⟩,v',rfl,ho14.mono (by omega)⟩
end Go.Proofs.YtmdfgncoekfgdaaGreatDoor
namespace Go.Proofs.YtmdfgncoekfgdaaGreatDoor
open Go Go.D
variable {X:aF} {m:M}
def nV(u:Un):Bool:=eA u.id 0 99 && eA u.kind 1 8 && eA u.tm 0 7 && decide (0<=u.back) && decide (u.back < u.front) && decide (u.front<=8) && aY u.shape
def lW(a b:Un):Bool:=nV a && nV b && decide (max a.back b.back < min a.front b.front)
def iG(a b:Un):Bool:=lW a b && hZ a.shape b.shape
theorem vJ(hX:cW X)(n lo hi:Int):C X (.func 180) [.int .i64 n,.int .i64 lo,.int .i64 hi] m m.n (.bool (eA n lo hi)) m:=by
 refine Cl.flat (hX.no _ rfl) Me rfl rfl ?_
 rw[Q5];dsimp only[aI]
 refine bY (fun vs m2 lo'=>vs=[.bool (eA n lo hi)]/\m.n<=lo') (fun R hR=>?_) ?_
 ·simp only[cK,aa,aj]
  refine ak (fun h=>hR _ _ _ ⟨by simp[eA,h],Nat.le_refl _⟩) (fun h=>hR _ _ _ ⟨by simp[eA,h],Nat.le_refl _⟩)
 ·rintro _ m2 lo' ⟨rfl,hl⟩
  rw[aA]
  exact⟨rfl,hl⟩
theorem zv{b:Nat}{u:Un}{w:Value}{g:Option Nat}(h:m.get b=.cells (u.c w) 87 g):
  ag TE m 3 (.pointer (some ⟨b,0+0,none⟩))=some (.int .i64 u.id)/\ag TE m 3 (.pointer (some ⟨b,0+1,none⟩))=some (.int .i64 u.kind)/\ag TE m 3 (.pointer (some ⟨b,0+2,none⟩))=some (.int .i64 u.tm)/\
  ag TE m 45 (.pointer (some ⟨b,0+3,none⟩))=some w/\ag TE m 3 (.pointer (some ⟨b,0+4,none⟩))=some (.int .i64 u.back)/\ag TE m 3 (.pointer (some ⟨b,0+5,none⟩))=some (.int .i64 u.front):=by
 refine⟨?_,?_,?_,?_,?_,?_⟩ <;>first |(rw[bu,av h];rfl) |(rw[kO,av h];rfl)
theorem pr(hX:cW X){u:Un}{w:Value}(hw:Sl m u.shape w)(hb:u.shape.length < 4611686018427387904):C X (.func 120) [u.v w] m m.n (.bool (nV u)) m:=by
 refine Cl.flat (hX.no _ rfl) ME rfl rfl ?_
 rw[Rt];dsimp only[aI]
 refine au fun m1 hn1 hg1 hk1=>?_
 simp only[aP]at hg1
 have hx1:Ext m m1:=⟨by omega,hk1⟩
 have hg1:m1.get m.n=.cells (u.c w) 87 none:=hg1
 obtain⟨l0,l1,l2,l3,l4,l5⟩:=zv hg1
 unfold ptrTo
 refine bY (fun vs mm lo=>vs=[.bool (eA u.id 0 99 && eA u.kind 1 8 && eA u.tm 0 7)]/\m1=mm/\m.n<=lo) (fun R hR=>?_) ?_
 ·rw[ct,aa,l0,aa]
  refine aC (vJ hX _ _ _) ?_
  rw[aj]
  refine ak (fun h1=>?_) (fun h1=>hR _ _ _ ⟨by rw[h1];rfl,rfl,by omega⟩)
  rw[jy,aa,l1,aa]
  refine aC (vJ hX _ _ _) ?_
  rw[aj]
  refine ak (fun h2=>?_) (fun h2=>hR _ _ _ ⟨by rw[h1,h2];rfl,rfl,by omega⟩)
  rw[jx,aa,l2,aa]
  refine aC (vJ hX _ _ _) ?_
  exact hR _ _ _ ⟨by rw[h1,h2];rfl,rfl,by omega⟩
 rintro _ _ lo ⟨rfl,rfl,hlo⟩
 rw[aA]
 refine bY (fun vs mm lo=>vs=[.bool (nV u)]/\m.n<=lo) (fun R hR=>?_) ?_
 ·rw[aj]
  refine ak (fun h=>?_) (fun h=>hR _ _ _ ⟨by unfold nV;rw[h];rfl,hlo⟩)
  simp only[cg,cI,cH,aa,l3,l4,l5,cK,aH,aj]
  refine ak (fun h1=>?_) (fun h1=>hR _ _ _ ⟨by unfold nV;rw[h,h1];rfl,hlo⟩)
  refine ak (fun h2=>?_) (fun h2=>hR _ _ _ ⟨by unfold nV;rw[h,h1,h2];rfl,hlo⟩)
  refine ak (fun h3=>?_) (fun h3=>hR _ _ _ ⟨by unfold nV;rw[h,h1,h2,h3];rfl,hlo⟩)
  refine aC (jk hX (hw.aB hx1) hb) ?_
  exact hR _ _ _ ⟨by unfold nV;rw[h,h1,h2,h3];rfl,by omega⟩
 ·rintro _ mm lo ⟨rfl,hlo⟩
  rw[aA]
  exact⟨rfl,hlo⟩
theorem np(hX:cW X){u:Un}{w:Value}(hw:Sl m u.shape w)(hb:u.shape.length < 4611686018427387904):C X (.func 135) [u.v w] m m.n (.bool (nV u)) m:=by
 refine Cl.flat (hX.no _ rfl) Mt rfl rfl ?_
 rw[Ri];dsimp only[aI]
 refine au fun m1 hn1 hg1 hk1=>?_
 simp only[aP]at hg1
 have hx1:Ext m m1:=⟨by omega,hk1⟩
 have hg1:m1.get m.n=.cells (u.c w) 87 none:=hg1
 obtain⟨l0,l1,l2,l3,l4,l5⟩:=zv hg1
 unfold ptrTo
 have n1:eA u.id 0 99=(!(decide (u.id < 0)) && !(decide (99 < u.id))):=by unfold eA;by_cases a:u.id < 0 <;>by_cases b:99 < u.id <;>simp[a,b] <;>omega
 have n2:eA u.kind 1 8=(!(decide (u.kind < 1)) && !(decide (8 < u.kind))):=by unfold eA;by_cases a:u.kind < 1 <;>by_cases b:8 < u.kind <;>simp[a,b] <;>omega
 have n3:eA u.tm 0 7=(!(decide (u.tm < 0)) && !(decide (7 < u.tm))):=by unfold eA;by_cases a:u.tm < 0 <;>by_cases b:7 < u.tm <;>simp[a,b] <;>omega
 refine bY (fun vs mm lo=>vs=[.bool (!(eA u.id 0 99 && eA u.kind 1 8 && eA u.tm 0 7))]/\m1=mm/\m.n<=lo) (fun R hR=>?_) ?_
 ·simp only[ct,jy,jx,aa,l0,l1,l2,aH,bX,aj]
  rw[n1,n2,n3]at hR
  refine ak (fun h1=>hR _ _ _ ⟨by rw[h1];rfl,rfl,Nat.le_refl _⟩) (fun h1=>?_)
  refine ak (fun h2=>hR _ _ _ ⟨by rw[h1,h2];rfl,rfl,Nat.le_refl _⟩) (fun h2=>?_)
  refine ak (fun h3=>hR _ _ _ ⟨by rw[h1,h2,h3];rfl,rfl,Nat.le_refl _⟩) (fun h3=>?_)
  refine ak (fun h4=>hR _ _ _ ⟨by rw[h1,h2,h3,h4];rfl,rfl,Nat.le_refl _⟩) (fun h4=>?_)
  refine ak (fun h5=>hR _ _ _ ⟨by rw[h1,h2,h3,h4,h5];rfl,rfl,Nat.le_refl _⟩) (fun h5=>?_)
  exact hR _ _ _ ⟨by rw[h1,h2,h3,h4,h5];simp,rfl,Nat.le_refl _⟩
 rintro _ _ lo ⟨rfl,rfl,hlo⟩
 rw[aA,aj]
 refine ak (fun h=>?_) (fun h=>?_)
 ·refine⟨?_,hlo⟩
  have h:(eA u.id 0 99 && eA u.kind 1 8 && eA u.tm 0 7)=false:=by
   cases h':(eA u.id 0 99 && eA u.kind 1 8 && eA u.tm 0 7)with
   |false=>rfl
   |true=>rw[h']at h;cases h
  unfold nV
  rw[h];rfl
 have h:(eA u.id 0 99 && eA u.kind 1 8 && eA u.tm 0 7)=true:=by
  cases h':(eA u.id 0 99 && eA u.kind 1 8 && eA u.tm 0 7)with
  |true=>rfl
  |false=>rw[h']at h;cases h
 refine bY (fun vs mm lo=>vs=[.bool (nV u)]/\m.n<=lo) (fun R hR=>?_) ?_
 ·simp only[cg,cI,cH,aa,l3,l4,l5,cK,ck,aH,aj]
  refine ak (fun h1=>?_) (fun h1=>hR _ _ _ ⟨by unfold nV;rw[h,h1];rfl,hlo⟩)
  refine ak (fun h2=>?_) (fun h2=>hR _ _ _ ⟨by unfold nV;rw[h,h1,h2];rfl,hlo⟩)
  refine ak (fun h3=>?_) (fun h3=>hR _ _ _ ⟨by unfold nV;rw[h,h1,h2,h3];rfl,hlo⟩)
  refine aC (iX hX (hw.aB hx1) hb) ?_
  exact hR _ _ _ ⟨by unfold nV;rw[h,h1,h2,h3];rfl,by omega⟩
 ·rintro _ mm lo ⟨rfl,hlo⟩
  rw[aA]
  exact⟨rfl,hlo⟩
theorem wS(hX:cW X){a b:Un}{va vb:Value}(ha:Sl m a.shape va)(hb:Sl m b.shape vb)(la:a.shape.length < 4611686018427387904)(lb:b.shape.length < 4611686018427387904):
  C X (.func 190) [a.v va,b.v vb] m m.n (.tuple #[.int .i64 (max a.back b.back),.int .i64 (min a.front b.front),.bool (lW a b)]) m:=by
 refine Cl.flat (hX.no _ rfl) L8 rfl rfl ?_
 rw[QZ];dsimp only[aI]
 refine au fun m1 hn1 hg1 hk1=>?_
 refine au fun m2 hn2 hg2 hk2=>?_
 simp only[aP]at hg1 hg2
 have hx2:Ext m m2:=⟨by omega,fun c hc=>by rw[hk2 c (by omega),hk1 c hc]⟩
 have g1:m2.get m.n=.cells (a.c va) 87 none:=by rw[hk2 _ (by omega)];exact hg1
 have g2:m2.get m1.n=.cells (b.c vb) 87 none:=hg2
 obtain⟨-, -, -, -,a4,a5⟩:=zv g1
 obtain⟨-, -, -, -,b4,b5⟩:=zv g2
 unfold ptrTo
 simp only[cI,cH,aa,a4,a5,b4,b5,oJ,iQ,ar]
 refine bY (fun vs mm lo=>vs=[.int .i64 (max a.back b.back),.int .i64 (min a.front b.front),.bool (lW a b)]/\m.n<=lo) (fun R hR=>?_) ?_
 ·rw[aH,aa,aj]
  refine ak (fun h=>?_) (fun h=>hR _ _ _ ⟨by unfold lW;rw[h,Bool.and_false],by omega⟩)
  rw[cU g1,aa]
  refine aC (pr hX (ha.aB hx2) la) ?_
  rw[aj]
  refine ak (fun h1=>?_) (fun h1=>hR _ _ _ ⟨by unfold lW;rw[h1];rfl,by omega⟩)
  rw[cU g2,aa]
  refine aC (pr hX (hb.aB hx2) lb) ?_
  exact hR _ _ _ ⟨by unfold lW;rw[h,h1,Bool.true_and,Bool.and_true],by omega⟩
 ·rintro _ mm lo ⟨rfl,hlo⟩
  rw[aA,aA,aA]
  exact⟨rfl,hlo⟩
theorem zE(hX:cW X){a b:Un}{va vb:Value}(ha:Sl m a.shape va)(hb:Sl m b.shape vb)(la:a.shape.length < 4611686018427387904)(lb:b.shape.length < 4611686018427387904):
  ∃x y,C X (.func 190) [a.v va,b.v vb] m m.n (.tuple #[.int .i64 x,.int .i64 y,.bool (lW a b)]) m:=⟨_,_,wS hX ha hb la lb⟩
theorem qN{u:Un}(h:nV u=true):u.shape.length<=8:=by
 unfold nV at h
 rw[Bool.and_eq_true]at h
 exact(dD h.2).2
theorem wP(hX:cW X){a b:Un}{va vb:Value}(ha:Sl m a.shape va)(hb:Sl m b.shape vb)(la:a.shape.length < 4611686018427387904)(lb:b.shape.length < 4611686018427387904):
  C X (.func 129) [a.v va,b.v vb] m m.n (.bool (iG a b)) m:=by
 refine Cl.flat (hX.no _ rfl) Mz rfl rfl ?_
 rw[Ro];dsimp only[aI]
 refine au fun m1 hn1 hg1 hk1=>?_
 refine au fun m2 hn2 hg2 hk2=>?_
 simp only[aP]at hg1 hg2
 have hx2:Ext m m2:=⟨by omega,fun c hc=>by rw[hk2 c (by omega),hk1 c hc]⟩
 have g1:m2.get m.n=.cells (a.c va) 87 none:=by rw[hk2 _ (by omega)];exact hg1
 have g2:m2.get m1.n=.cells (b.c vb) 87 none:=hg2
 obtain⟨-, -, -,a3, -, -⟩:=zv g1
 obtain⟨-, -, -,b3, -, -⟩:=zv g2
 unfold ptrTo
 rw[cU g1,aa,cU g2,aa]
 obtain⟨x,y,hc⟩:=zE (m:=m2) hX (ha.aB hx2) (hb.aB hx2) la lb
 refine aC hc ?_
 rw[bw,bw,bw]
 simp only[List.getElem?_cons_zero,List.getElem?_cons_succ,aa]
 refine bY (fun vs mm lo=>vs=[.bool (iG a b)]/\m.n<=lo) (fun R hR=>?_) ?_
 ·rw[aj]
  refine ak (fun h=>?_) (fun h=>hR _ _ _ ⟨by unfold iG;rw[h];rfl,by omega⟩)
  have h':=h
  unfold lW at h'
  simp only[Bool.and_eq_true]at h'
  rw[cg,aa,a3,aa,cg,aa,b3,aa]
  refine aC (xP hX (ha.aB hx2) (hb.aB hx2) (by have:=qN h'.1.1;omega) (by have:=qN h'.1.2;omega)) ?_
  exact hR _ _ _ ⟨by unfold iG;rw[h];rfl,by omega⟩
 ·rintro _ mm lo ⟨rfl,hlo⟩
  rw[aA]
  exact⟨rfl,hlo⟩
theorem xC(hX:cW X){a b:Un}{va vb:Value}(ha:Sl m a.shape va)(hb:Sl m b.shape vb)(la:a.shape.length < 4611686018427387904)(lb:b.shape.length < 4611686018427387904):
  C X (.func 191) [a.v va,b.v vb] m m.n (.bool (lW a b)) m:=by
 refine Cl.flat (hX.no _ rfl) L7 rfl rfl ?_
 rw[QY];dsimp only[aI]
 refine au fun m1 hn1 hg1 hk1=>?_
 refine au fun m2 hn2 hg2 hk2=>?_
 simp only[aP]at hg1 hg2
 have hx2:Ext m m2:=⟨by omega,fun c hc=>by rw[hk2 c (by omega),hk1 c hc]⟩
 have g1:m2.get m.n=.cells (a.c va) 87 none:=by rw[hk2 _ (by omega)];exact hg1
 have g2:m2.get m1.n=.cells (b.c vb) 87 none:=hg2
 obtain⟨-, -, -, -,a4,a5⟩:=zv g1
 obtain⟨-, -, -, -,b4,b5⟩:=zv g2
 unfold ptrTo
 refine bY (fun vs mm lo=>vs=[.bool (lW a b)]/\m.n<=lo) (fun R hR=>?_) ?_
 ·rw[cU g1,aa]
  refine aC (np hX (ha.aB hx2) la) ?_
  rw[aj]
  refine ak (fun h1=>?_) (fun h1=>hR _ _ _ ⟨by unfold lW;rw[h1];rfl,by omega⟩)
  rw[cU g2,aa]
  refine aC (np hX (hb.aB hx2) lb) ?_
  rw[aj]
  refine ak (fun h2=>?_) (fun h2=>hR _ _ _ ⟨by unfold lW;rw[h2,Bool.and_false];rfl,by omega⟩)
  simp only[cI,cH,aa,a4,a5,b4,b5,oJ,iQ,ar,aH]
  exact hR _ _ _ ⟨by unfold lW;rw[h1,h2,Bool.true_and,Bool.true_and],by omega⟩
 ·rintro _ mm lo ⟨rfl,hlo⟩
  rw[aA]
  exact⟨rfl,hlo⟩
theorem uS(hX:cW X){a b:Un}{va vb:Value}(ha:Sl m a.shape va)(hb:Sl m b.shape vb)(la:a.shape.length < 4611686018427387904)(lb:b.shape.length < 4611686018427387904):
  C X (.func 136) [a.v va,b.v vb] m m.n (.bool (iG a b)) m:=by
 refine Cl.flat (hX.no _ rfl) Ms rfl rfl ?_
 rw[Rh];dsimp only[aI]
 refine au fun m1 hn1 hg1 hk1=>?_
 refine au fun m2 hn2 hg2 hk2=>?_
 simp only[aP]at hg1 hg2
 have hx2:Ext m m2:=⟨by omega,fun c hc=>by rw[hk2 c (by omega),hk1 c hc]⟩
 have g1:m2.get m.n=.cells (a.c va) 87 none:=by rw[hk2 _ (by omega)];exact hg1
 have g2:m2.get m1.n=.cells (b.c vb) 87 none:=hg2
 obtain⟨-, -, -,a3, -, -⟩:=zv g1
 obtain⟨-, -, -,b3, -, -⟩:=zv g2
 unfold ptrTo
 refine bY (fun vs mm lo=>vs=[.bool (iG a b)]/\m.n<=lo) (fun R hR=>?_) ?_
 ·rw[cU g1,aa,cU g2,aa]
  refine aC (xC hX (ha.aB hx2) (hb.aB hx2) la lb) ?_
  rw[aj]
  refine ak (fun h=>?_) (fun h=>hR _ _ _ ⟨by unfold iG;rw[h];rfl,by omega⟩)
  have h':=h
  unfold lW at h'
  simp only[Bool.and_eq_true]at h'
  rw[cg,aa,a3,aa,cg,aa,b3,aa]
  refine aC (xI hX (ha.aB hx2) (hb.aB hx2) (by have:=qN h'.1.1;omega) (by have:=qN h'.1.2;omega)) ?_
  exact hR _ _ _ ⟨by unfold iG;rw[h];rfl,by omega⟩
 ·rintro _ mm lo ⟨rfl,hlo⟩
  rw[aA]
  exact⟨rfl,hlo⟩
end Go.Proofs.YtmdfgncoekfgdaaGreatDoor
namespace Go.D
open Go
section
variable {E:Env} {α:Type} [aL α] {n1:Nat} {m:M} {l ys:List α} {v y:Value} {T:TypeId}
theorem Ow.wC(hT:EC E T α)(hty:aL.ty α∉aL.fR α)(h:Ow n1 m l v){U:TypeId}{ui:TI}(tu:E.ty.get U=some ui)(tui:∀k,ui.d≠.int k){news:List Value}
  (e1:jP y=some ys.length) (e2:first? m (aL.sz α) ys.length y=some news) (e3:news.length=ys.length*aL.sz α) (e4:news.all D.one=true) (e5:∀i x,ys[i]?=some x->aL.rep m x (chunk news (aL.sz α) i))
  (hn:n1<=m.n) (hs:l.length+ys.length<=268435456):
  ∃v' m1,an E (m.wl m.n) .append [T,U] [v,y]=some (v',m1)/\Ow n1 m1 (l++ys) v'/\uG n1 m m1/\n1<=m1.low/\m1.n<=m.n+1:=by
 obtain⟨ti,ei,t1,t2,t3,t4,t5,t6⟩:=hT
 have hpos:=aL.pos (α:=α)
 have hc:(Nat.beq ti.es 0 ||Nat.blt 65536 ei.bytes || !news.all D.one ||Nat.blt 268435456 (l.length+ys.length) || !Nat.beq news.length (ys.length*ti.es) || !ff ei.zero ti.es)=false:=by
  have c1:Nat.beq ti.es 0=false:=by
   cases hb:Nat.beq ti.es 0 with
   |false=>rfl
   |true=>have:=Nat.eq_of_beq_eq_true hb;omega
  have c2:Nat.blt 65536 ei.bytes=false:=by
   cases hb:Nat.blt 65536 ei.bytes with
   |false=>rfl
   |true=>rw[Nat.blt_eq]at hb;omega
  have c3:Nat.blt 268435456 (l.length+ys.length)=false:=by
   cases hb:Nat.blt 268435456 (l.length+ys.length)with
   |false=>rfl
   |true=>rw[Nat.blt_eq]at hb;omega
  have c4:Nat.beq news.length (ys.length*ti.es)=true:=by rw[e3,t3];exact Nat.beq_refl _
  rw[c1,c2,c3,c4,e4,t3,t6];rfl
 have hfirst:first? (m.wl m.n) ti.es ys.length y=some news:=by rw[bH,t3];exact e2
 rcases h with⟨rfl,rfl⟩ |⟨b,cs,rfl,h2,h3,h4,h5,h6⟩
 ·
  cases hys:ys with
  |nil=>
   subst hys
   refine⟨.slice none 0 0,m.wl m.n,?_,.inl ⟨rfl,rfl⟩,⟨Nat.le_refl _,fun _ _=>rfl⟩,hn,by show m.n<=_;omega⟩
   simp only[an,da,t1,tu,e1,t2,t4,hfirst]
   simp only[List.length_nil]at hc⊢
   rw[hc]
   rfl
  |cons y0 ys'=>
   rw[<-hys]
   have hylen:0 < ys.length:=by rw[hys];simp
   have hble:Nat.ble (0+ys.length) 0=false:=by
    cases hb:Nat.ble (0+ys.length) 0 with
    |false=>rfl
    |true=>have:=Nat.le_of_ble_eq_true hb;omega
   refine⟨.slice (some ⟨m.n,0,none⟩) ys.length ys.length,(m.wl m.n).push (.cells news (aL.ty α) (some (aL.sz α))),?_,?_,⟨by show m.n<=m.n+1;omega,fun c hc=>by rw[M.bF (by show c < m.n;omega)];rfl⟩,hn,by show m.n+1<=_;omega⟩
   ·simp only[an,da,t1,tu,e1,t2,t4,hfirst]
    simp only[List.length_nil]at hc
    rw[hc,hble]
    simp only[cond_false,iH]
    have:(Nat.beq 0 0 && Nat.beq 0 0)=true:=rfl
    rw[this,t3]
    simp only[cond_true,Nat.zero_add]
    rfl
   ·refine .inr ⟨m.n,news,by simp,by simpa using hylen,hn,M.aN (m:=m.wl m.n),by simpa using e3,fun i x hi=>?_⟩
    have:=e5 i x (by simpa using hi)
    exact aL.aB this ⟨by show m.n<=m.n+1;omega,fun c hc=>by rw[M.bF (m:=m.wl m.n) hc];rfl⟩
 ·
  have hbn:=M.aV h4
  cases hys:ys with
  |nil=>
   subst hys
   refine⟨.slice (some ⟨b,0,none⟩) l.length l.length,m.wl m.n,?_,?_,⟨Nat.le_refl _,fun _ _=>rfl⟩,hn,by show m.n<=_;omega⟩
   ·simp only[an,da,t1,tu,e1,t2,t4,hfirst]
    simp only[List.length_nil,Nat.add_zero]at hc⊢
    rw[hc]
    have:Nat.ble l.length l.length=true:=Nat.ble_eq_true_of_le (Nat.le_refl _)
    rw[this]
    rfl
   ·rw[List.append_nil]
    exact .inr ⟨b,cs,rfl,h2,h3,h4,h5,fun i x hi=>aL.bt (m:=m) (h6 i x hi) fun _ _ _ _ hb _=>hb⟩
  |cons y0 ys'=>
   rw[<-hys]
   have hylen:0 < ys.length:=by rw[hys];simp
   have hble:Nat.ble (l.length+ys.length) l.length=false:=by
    cases hb:Nat.ble (l.length+ys.length) l.length with
    |false=>rfl
    |true=>have:=Nat.le_of_ble_eq_true hb;omega
   have hold:(bif Nat.beq l.length 0 then some []else loadCells (m.wl m.n) ⟨b,0,none⟩ (l.length*aL.sz α))=some cs:=by
    cases hb:Nat.beq l.length 0 with
    |true=>have:=Nat.eq_of_beq_eq_true hb;omega
    |false=>
     simp only[cond_false,bs]
     rw[aE h4 (by omega),List.drop_zero,List.take_of_length_le (by omega)]
   have g1:((some (aL.sz α):Option Nat).isNone ||((some (aL.sz α):Option Nat)==some (aL.sz α) && Nat.blt (0+l.length*aL.sz α) cs.length))=false:=by
    have:Nat.blt (0+l.length*aL.sz α) cs.length=false:=by
     cases hb:Nat.blt (0+l.length*aL.sz α) cs.length with
     |false=>rfl
     |true=>rw[Nat.blt_eq]at hb;omega
    rw[this];simp
   have g2:((some (aL.sz α):Option Nat)==some (aL.sz α) && Nat.beq 0 0 && (none:Option Nat).isNone && Nat.beq (l.length*aL.sz α) cs.length && Nat.beq l.length l.length && Nat.beq (aL.ty α) (aL.ty α))=true:=by
    rw[h5]
    simp
   refine⟨.slice (some ⟨m.n,0,none⟩) (l.length+ys.length) (l.length+ys.length),((m.wl m.n).set b .dead).push (.cells (cs++news) (aL.ty α) (some (aL.sz α))),?_,?_,⟨by show m.n<=m.n+1;omega,fun c hc=>?_⟩,?_,by show m.n+1<=_;omega⟩
   ·simp only[an,da,t1,tu,e1,t2,t4,hfirst]
    rw[hc,hble]
    simp only[cond_false,iH,t3]
    have hg:(m.wl m.n).get b=.cells cs (aL.ty α) (some (aL.sz α)):=h4
    simp only[hg,hold,g1,cond_false]
    rw[g2]
    rfl
   ·have hget:∀c,c < m.n->c≠b->(((m.wl m.n).set b .dead).push (.cells (cs++news) (aL.ty α) (some (aL.sz α)))).get c=m.get c:=fun c hc hne=>by
     rw[M.bF (by show c < m.n;exact hc),M.bZ hne];rfl
    have hrep:∀x c,aL.rep m x c->aL.rep (α:=α) (((m.wl m.n).set b .dead).push (.cells (cs++news) (aL.ty α) (some (aL.sz α)))) x c:=fun x c hx=>by
     refine aL.bt hx fun b' c' t g hb ht=>?_
     rw[hget b' (M.aV hb) (fun e=>by subst e;rw[h4]at hb;cases hb;exact hty ht),hb]
    refine .inr ⟨m.n,cs++news,by simp,by simp;omega,hn,M.aN (m:=(m.wl m.n).set b .dead),by simp[h5,e3,Nat.add_mul],fun i x hi=>?_⟩
    by_cases hlt:i < l.length
    ·rw[dQ h5 hlt]
     rw[List.getElem?_append_left hlt]at hi
     exact hrep _ _ (h6 i x hi)
    ·rw[cL h5 (by omega)]
     rw[List.getElem?_append_right (by omega)]at hi
     exact hrep _ _ (e5 _ x hi)
   ·rw[M.bF (by show c < m.n;omega),M.bZ (by omega)];rfl
   ·show n1<=min m.n b
    omega
end
end Go.D
namespace Go.D
open Go
section
variable {E:Env} {m:M} {T:TypeId} {ti:TI} {e:TypeId} {b n:Nat} {cs:List Value} {te:TypeId} {g:Option Nat}
theorem Da(t1:E.ty.get T=some ti)(t2:ti.d=.slice e)(hk:0 < ti.es)(h:m.get b=.cells cs te g)(hg:g=none\/g=some ti.es){o c i:Nat}(hnc:n<=c)(hi:i<=c):
  slice? E m T (.slice (some ⟨b,o,none⟩) n c) none (some (.int .i64 i)) none=some (.slice (some ⟨b,o,none⟩) i c):=by
 have b1:cE n c none (some (.int .i64 i)) none=some (0,i,c):=by unfold cE;simp only[iq hi]
 have e1:Nat.beq ti.es 0=false:=by
  cases hb:Nat.beq ti.es 0 with
  |false=>rfl
  |true=>have:=Nat.eq_of_beq_eq_true hb;omega
 have e2:Nat.ble n c=true:=Nat.ble_eq_true_of_le hnc
 have e0:(⟨b,o,none⟩:Addr).add (0*ti.es)=⟨b,o,none⟩:=by rw[bC rfl,Nat.zero_mul];rfl
 rcases hg with rfl |rfl
 ·simp only[slice?,t1,t2,b1,h,e1,e2,Bool.not_true,Bool.or_false,cond_false,Nat.sub_zero,e0]
  cases Nat.beq c 0 <;>rfl
 ·have e3:Nat.beq ti.es ti.es=true:=Nat.beq_refl _
  simp only[slice?,t1,t2,b1,h,e1,e2,e3,Bool.not_true,Bool.or_false,cond_false,cond_true,Nat.sub_zero,e0]
  cases (Nat.beq c 0 && !(Option.isNone (none:Option Value) && Nat.beq (o+c*ti.es) cs.length))<;>rfl
theorem jK(t1:E.ty.get T=some ti)(t2:ti.d=.slice e)(hk:0 < ti.es)(h:m.get b=.cells cs te g)(hg:g=none\/g=some ti.es){o c j:Nat}(hnc:n<=c)(hj:j<=n):
  ∃a',slice? E m T (.slice (some ⟨b,o,none⟩) n c) (some (.int .i64 j)) none none=some (.slice (some a') (n-j) (c-j))/\(j < c->a'=⟨b,o+j*ti.es,none⟩):=by
 have b1:cE n c (some (.int .i64 j)) none none=some (j,n,c):=by unfold cE;simp only[iq hj]
 have e1:Nat.beq ti.es 0=false:=by
  cases hb:Nat.beq ti.es 0 with
  |false=>rfl
  |true=>have:=Nat.eq_of_beq_eq_true hb;omega
 have e2:Nat.ble n c=true:=Nat.ble_eq_true_of_le hnc
 have e0:(⟨b,o,none⟩:Addr).add (j*ti.es)=⟨b,o+j*ti.es,none⟩:=bC (a:=⟨b,o,none⟩) rfl _
 have e4:j < c->Nat.beq c j=false:=fun hlt=>by
  cases hb:Nat.beq c j with
  |false=>rfl
  |true=>have:=Nat.eq_of_beq_eq_true hb;omega
 rcases hg with rfl |rfl
 ·refine⟨bif Nat.beq c j then⟨b,o,none⟩else(⟨b,o,none⟩:Addr).add (j*ti.es),?_,fun hlt=>by rw[e4 hlt];exact e0⟩
  simp only[slice?,t1,t2,b1,h,e1,e2,Bool.not_true,Bool.or_false,cond_false]
 ·have e3:Nat.beq ti.es ti.es=true:=Nat.beq_refl _
  refine⟨bif Nat.beq c j && !((none:Option Value).isNone && Nat.beq (o+c*ti.es) cs.length)then⟨b,o,none⟩else(⟨b,o,none⟩:Addr).add (j*ti.es),?_,fun hlt=>by rw[e4 hlt];exact e0⟩
  simp only[slice?,t1,t2,b1,h,e1,e2,e3,Bool.not_true,Bool.or_false,cond_false,cond_true]
theorem Ow.uf{α:Type}[aL α]{n1:Nat}{m m':M}{l:List α}{v:Value}(ht:aL.fR α=[])(h:Ow n1 m l v)(hk:∀c,n1<=c->c < m.n->m'.get c=m.get c):Ow n1 m' l v:=by
 rcases h with h |⟨b,cs,h1,h2,h3,h4,h5,h6⟩
 ·exact .inl h
 ·exact .inr ⟨b,cs,h1,h2,h3,by rw[hk b h3 (M.aV h4),h4],h5,fun i x hi=>aL.bt (h6 i x hi) fun b c t g _ h=>by rw[ht]at h;cases h⟩
def NB{α:Type}[aL α](m:M)(l:List α)(v:Value):Prop:=
 Sl m l v/\∃b o c bc g,v=.slice (some ⟨b,o,none⟩) l.length c/\l.length<=c/\m.get b=.cells bc (aL.ty α) g/\(g=none\/g=some (aL.sz α))
theorem Ow.Yi{α:Type}[aL α]{n1:Nat}{l:List α}{v:Value}(h:Ow n1 m l v)(hl:l≠ []):NB m l v:=by
 refine⟨h.sl,?_⟩
 rcases h with⟨_,rfl⟩ |⟨b,cs,h1,h2,h3,h4,h5,h6⟩
 ·exact absurd rfl hl
 ·exact⟨b,0,_,cs,_,h1,Nat.le_refl _,h4,.inr rfl⟩
theorem NB.aB{α:Type}[aL α]{m':M}{l:List α}{v:Value}(h:NB m l v)(he:Ext m m'):NB m' l v:=by
 obtain⟨h1,b,o,c,bc,g,h2,h3,h4,h5⟩:=h
 exact⟨h1.aB he,b,o,c,bc,g,h2,h3,he.cells h4,h5⟩
theorem Sl.part{α:Type}[aL α]{l:List α}{b o c:Nat}(h:Sl m l (.slice (some ⟨b,o,none⟩) l.length c)){i k:Nat}(hik:i+k<=l.length){c':Nat}:Sl m ((l.drop i).take k) (.slice (some ⟨b,o+i*aL.sz α,none⟩) k c'):=by
 have hlen:((l.drop i).take k).length=k:=by rw[List.length_take,List.length_drop];omega
 rcases h with⟨h,_⟩ |⟨b',o',c1,bc,g,he,hb,hle,hel⟩
 ·cases h
 ·cases he
  refine .inr ⟨b,_,c',bc,g,by rw[hlen],hb,?_,fun j x hj=>?_⟩
  ·rw[hlen]
   have:(i+k)*aL.sz α<=l.length*aL.sz α:=Nat.mul_le_mul_right _ hik
   rw[Nat.add_mul]at this
   omega
  ·have hj2:=(List.getElem?_eq_some_iff.1 hj).1
   rw[hlen]at hj2
   rw[List.getElem?_take_of_lt hj2,List.getElem?_drop]at hj
   have:=hel (i+j) x hj
   rwa[Nat.add_mul,<-Nat.add_assoc]at this
end
end Go.D
