/- What is known beforehand of the laws: sane(). -/
import Derived.Test.YtmdfgncoekfgdaaGreatDoorSnJ
import Derived.Test.YtmdfgncoekfgdaaGreatDoorG4J
import Derived.Test.YtmdfgncoekfgdaaGreatDoorG7J
import Derived.Test.YtmdfgncoekfgdaaGreatDoorG6J
namespace Go.Proofs.YtmdfgncoekfgdaaGreatDoor
open Go Go.D Go.Proofs
noncomputable def lg:aF:=fun fn args m=>
 match fn with
 |.func f=>
  bif Nat.beq f 8 then
   match args with
   |[]=>bif Nat.blt 2 m.n then some (.bool true,m)else none
   |_=>none
  else none
 |_=>none
theorem FU:cQ Tryz.prog lg:=by
 refine⟨fun f args m v m' hx σ w args' hs hl=>?_,fun l args m v m' hx=>by simp[lg]at hx,fun f args m v m' hx=>?_,fun a m v m' b hx=>by
  have e:lg (.func tI) [.pointer (some a)] m=none:=rfl
  rw[e]at hx
  cases hx⟩
 ·unfold lg at hx
  dsimp only at hx
  cases hf:Nat.beq f 8 with
  |false=>rw[hf]at hx;simp at hx
  |true=>
   obtain rfl:=Nat.eq_of_beq_eq_true hf
   rw[hf]at hx
   simp only[cond_true]at hx
   cases args with
   |cons _ _=>cases hx
   |nil=>
    dsimp only at hx
    cases hn:Nat.blt 2 m.n with
    |false=>rw[hn]at hx;cases hx
    |true=>
     rw[hn]at hx
     simp only[cond_true,Option.some.injEq,Prod.mk.injEq]at hx
     obtain⟨rfl,rfl⟩:=hx
     have hgs:Tryz.prog.globals.size=3:=by kernel_rfl
     have hg0:∀g,g < 3->σ g=some ⟨g,none⟩:=fun g hg=>hs.iy g (by rw[hgs];exact hg)
     have dead:∀b,(M.get {st:=.e,n:=3,low:=3} b)=.dead:=fun b=>by
      unfold M.get
      cases Nat.blt b 3 <;>rfl
     have hs0:dN Tryz.prog (fun b=>if b < 3 then some ⟨b,none⟩else none) {st:=.e,n:=3,low:=3} w:=by
      refine⟨fun b i hb=>?_,fun b i hb=>?_,fun b i hb=>?_,fun b b' i i' hb hb' hd=>?_,fun g hg=>?_⟩
      ·by_cases h:b < 3
       ·exact h
       ·rw[if_neg h]at hb;cases hb
      ·rw[dead];trivial
      ·by_cases h:b < 3
       ·rw[if_pos h]at hb
        cases hb
        exact hs.lt b _ (hg0 b h)
       ·rw[if_neg h]at hb;cases hb
      ·exact absurd (dead b) hd
      ·rw[hgs]at hg
       rw[if_pos hg]
     have hargs:args'= #[]:=by
      have:=hl.nil_eq
      simpa using this
     subst hargs
     refine⟨?_,enters_of Tryz.func8 (by kernel_rfl) rfl _ _⟩
     obtain⟨nr,hrun⟩:=nS.run
     have hc:=oX af.ok nS.Pg hrun hs0 (args':= #[]) aU.nil
     refine(callsIn_wide.2 hc).mono fun e w' he=>?_
     obtain⟨v',σ',rfl,hv,hev⟩:=he
     have hv':=hv.aQ rfl
     subst hv'
     refine⟨.bool true,σ,rfl,.flat _ rfl,Ev.kept hs (fun B hB=>hev.heap B hB fun b i hb _=>?_) hev.hle hev.os hev.tape hev.output⟩
     by_cases h:b < 3
     ·exact h
     ·rw[if_neg h]at hb;cases hb
 ·unfold lg at hx
  cases f with
  |func f=>
   dsimp only at hx
   rw[cond_eq_ite]at hx
   split at hx
   ·split at hx
    ·rw[cond_eq_ite]at hx
     split at hx
     ·cases hx;exact LK.refl
     ·cases hx
    ·cases hx
   ·cases hx
  |_=>cases hx
theorem xB{f:Nat}(h:Nat.beq f 8=false)(args:List Value)(m:M):lg (.func f) args m=none:=by
 simp only[lg,h,cond_false]
theorem zS(m:M)(h:2 < m.n):lg (.func 8) [] m=some (.bool true,m):=by
 have h9:Nat.beq 8 8=true:=rfl
 have hn:Nat.blt 2 m.n=true:=by rw[Nat.blt_eq];exact h
 simp only[lg,h9,hn,cond_true]
end Go.Proofs.YtmdfgncoekfgdaaGreatDoor
namespace Go.Proofs.YtmdfgncoekfgdaaGreatDoor
open Go Go.D
set_option maxRecDepth 100000 in
theorem YT{W:Words}{x0:Value}{m:M}{R:List Value->M->Nat->Prop}:dt TE W Tryz.f55 [x0] m R=
(W.bW (M.push m (.cells (cells x0) 31 none)) fun a=>W.bW (M.push a (.cells [(.slice none 0 0)] 31 none)) fun b=>W.bW (M.push b (.cells [(.slice none 0 0)] 31 none)) fun c=>W.Lp (fun d f g h=>W.un f fun i j=>W.ah (ae TE 31 (ptrTo m.n) 0) fun k=>W.ah (ag TE g 29 k) fun l=>W.aK (an TE g .len [29] [l]) fun n _=>W.ah (aq TE .lss 3 i n) fun o=>aW o
(W.ah (ae TE 31 (ptrTo b.n) 0) fun p=>W.ah (ag TE g 29 p) fun q=>W.ah (ae TE 31 (ptrTo m.n) 0) fun r=>W.ah (ag TE g 29 r) fun s=>W.ah (ai TE 29 s i) fun t=>W.ah (ag TE g 87 t) fun u=>W.bz (.func 57) [u] g fun v w y=>(M.n g<=y)/\(W.aK (az TE w 29 1 [(0,v)]) fun z A=>W.aK (an TE (M.wl A A.n) .append [29,29] [q,z]) fun B C=>W.ah (ae TE 31 (ptrTo b.n) 0) fun D=>W.aK (aw TE C 29 D B) fun E F=>W.ah (aq TE .add 3 i (.int .i64 1)) fun G=>d [G] E (min (min (min h y) (M.low C)) F)))
(W.ah (ag TE g 31 (ptrTo b.n)) fun H=>W.aK (aw TE g 31 (ptrTo a.n) H) fun I J=>ah (ag TE I 31 (ptrTo a.n)) fun K=>R [K] I (min h J))) [(.int .i64 0)] c m.n):=by kernel_rfl
set_option maxRecDepth 100000 in
theorem Rs{W:Words}{x0 x1:Value}{m:M}{R:List Value->M->Nat->Prop}:dt TE W Tryz.f125 [x0,x1] m R=
(W.ah (aq TE .lss 3 x0 (.int .i64 0)) fun a=>aW a
(W.ah (aq TE .add 3 x0 (.int .i64 1)) fun b=>W.ah (fK .neg b) fun c=>W.ah (aq TE .rem 3 c x1) fun d=>R [d] m m.n)
(W.ah (aq TE .rem 3 x0 x1) fun f=>R [f] m m.n)):=by kernel_rfl
set_option maxRecDepth 100000 in
theorem YS{W:Words}{x0 x1 x2 x3:Value}{m:M}{R:List Value->M->Nat->Prop}:dt TE W Tryz.f56 [x0,x1,x2,x3] m R=
(W.bW (M.push m (.cells (cells x0) 87 none)) fun a=>W.bW (M.push a (.cells [(.int .i64 0),(.int .i64 0),(.int .i64 0),(.slice none 0 0),(.int .i64 0),(.int .i64 0)] 87 none)) fun b=>W.aK (az TE b 45 0 []) fun c d=>W.ah (ae TE 87 (ptrTo m.n) 3) fun f=>W.ah (ag TE d 45 f) fun g=>W.aK (an TE (M.wl d d.n) .append [45,45] [c,g]) fun h i=>W.ah (ae TE 87 (ptrTo m.n) 3) fun j=>W.aK (aw TE i 45 j h) fun k l=>W.bz (.func 125) [x1,(.int .i64 6)] k fun n o p=>W.ah (aq TE .eql 3 n (.int .i64 0)) fun q=>aW q
(W.ah (ae TE 87 (ptrTo m.n) 0) fun r=>W.aK (aw TE o 3 r x2) fun s t=>W.ah (ag TE s 87 (ptrTo m.n)) fun u=>W.aK (aw TE s 87 (ptrTo a.n) u) fun v w=>ah (ag TE v 87 (ptrTo a.n)) fun y=>R [y] v (min (min (min (min (min m.n (M.low i)) l) p) t) w))
(W.ah (aq TE .eql 3 n (.int .i64 1)) fun z=>aW z
(W.ah (ae TE 87 (ptrTo m.n) 1) fun A=>W.aK (aw TE o 3 A x2) fun B C=>W.ah (ag TE B 87 (ptrTo m.n)) fun D=>W.aK (aw TE B 87 (ptrTo a.n) D) fun E F=>ah (ag TE E 87 (ptrTo a.n)) fun G=>R [G] E (min (min (min (min (min m.n (M.low i)) l) p) C) F))
(W.ah (aq TE .eql 3 n (.int .i64 2)) fun H=>aW H
(W.ah (ae TE 87 (ptrTo m.n) 2) fun I=>W.aK (aw TE o 3 I x2) fun J K=>W.ah (ag TE J 87 (ptrTo m.n)) fun L=>W.aK (aw TE J 87 (ptrTo a.n) L) fun N O=>ah (ag TE N 87 (ptrTo a.n)) fun P=>R [P] N (min (min (min (min (min m.n (M.low i)) l) p) K) O))
(W.ah (aq TE .eql 3 n (.int .i64 3)) fun Q=>aW Q
(W.ah (ae TE 87 (ptrTo m.n) 4) fun S=>W.aK (aw TE o 3 S x2) fun T U=>W.ah (ag TE T 87 (ptrTo m.n)) fun V=>W.aK (aw TE T 87 (ptrTo a.n) V) fun X Y=>ah (ag TE X 87 (ptrTo a.n)) fun Z=>R [Z] X (min (min (min (min (min m.n (M.low i)) l) p) U) Y))
(W.ah (aq TE .eql 3 n (.int .i64 4)) fun a0=>aW a0
(W.ah (ae TE 87 (ptrTo m.n) 5) fun a1=>W.aK (aw TE o 3 a1 x2) fun a2 a3=>W.ah (ag TE a2 87 (ptrTo m.n)) fun a4=>W.aK (aw TE a2 87 (ptrTo a.n) a4) fun a5 a6=>ah (ag TE a5 87 (ptrTo a.n)) fun a7=>R [a7] a5 (min (min (min (min (min m.n (M.low i)) l) p) a3) a6))
(W.ah (ae TE 87 (ptrTo m.n) 3) fun a8=>W.ah (ag TE o 45 a8) fun a9=>W.ah (aq TE .quo 3 x1 (.int .i64 6)) fun b0=>W.bz (.func 126) [a9,x3,x2,b0] o fun b1 b2 b3=>W.ah (ae TE 87 (ptrTo m.n) 3) fun b4=>W.aK (aw TE b2 45 b4 b1) fun b5 b6=>W.ah (ag TE b5 87 (ptrTo m.n)) fun b7=>W.aK (aw TE b5 87 (ptrTo a.n) b7) fun b8 b9=>ah (ag TE b8 87 (ptrTo a.n)) fun c0=>R [c0] b8 (min (min (min (min (min (min m.n (M.low i)) l) p) b3) b6) b9))))))):=by kernel_rfl
set_option maxRecDepth 100000 in
theorem Q3{W:Words}{x0 x1:Value}{m:M}{R:List Value->M->Nat->Prop}:dt TE W Tryz.f187 [x0,x1] m R=
(W.ah (aq TE .lss 3 x0 (.int .i64 0)) fun a=>aW a
(W.ah (aq TE .add 3 x0 (.int .i64 1)) fun b=>W.ah (fK .neg b) fun c=>W.ah (aq TE .rem 3 c x1) fun d=>R [d] m m.n)
(W.ah (aq TE .rem 3 x0 x1) fun f=>R [f] m m.n)):=by kernel_rfl
set_option maxRecDepth 100000 in
theorem Rr{W:Words}{x0 x1 x2 x3:Value}{m:M}{R:List Value->M->Nat->Prop}:dt TE W Tryz.f126 [x0,x1,x2,x3] m R=
(W.aK (az TE m 45 0 []) fun a b=>W.aK (an TE (M.wl b b.n) .append [45,45] [a,x0]) fun c d=>W.aK (an TE d .len [45] [c]) fun f _=>W.ah (aq TE .eql 3 f (.int .i64 0)) fun g=>aW g
(W.ah (aO TE 98 [(0,x2),(1,x2)]) fun h=>W.aK (az TE d 45 1 [(0,h)]) fun i j=>R [i] j (min m.n (M.low d)))
(W.aK (an TE d .len [45] [c]) fun k _=>W.bz (.func 187) [x3,k] d fun l n o=>W.bz (.func 187) [x1,(.int .i64 5)] n fun p q r=>W.ah (aq TE .eql 3 p (.int .i64 0)) fun s=>aW s
(W.ah (ai TE 45 c l) fun t=>W.ah (ae TE 98 t 0) fun u=>W.aK (aw TE q 3 u x2) fun v w=>R [c] v (min (min (min (min m.n (M.low d)) o) r) w))
(W.ah (aq TE .eql 3 p (.int .i64 1)) fun y=>aW y
(W.ah (ai TE 45 c l) fun z=>W.ah (ae TE 98 z 1) fun A=>W.aK (aw TE q 3 A x2) fun B C=>R [c] B (min (min (min (min m.n (M.low d)) o) r) C))
(W.ah (aq TE .eql 3 p (.int .i64 2)) fun D=>aW D
(W.ah (aq TE .add 3 l (.int .i64 1)) fun E=>W.aK (an TE q .len [45] [c]) fun F _=>W.ah (aq TE .rem 3 E F) fun G=>W.ah (ai TE 45 c G) fun H=>W.ah (ag TE q 98 H) fun I=>W.ah (ai TE 45 c l) fun J=>W.aK (aw TE q 98 J I) fun K L=>R [c] K (min (min (min (min m.n (M.low d)) o) r) L))
(W.ah (aq TE .eql 3 p (.int .i64 3)) fun N=>aW N
(W.ah (slice? TE q 45 c none (some l) (some l)) fun O=>W.ah (aq TE .add 3 l (.int .i64 1)) fun P=>W.ah (slice? TE q 45 c (some P) none none) fun Q=>W.aK (an TE (M.wl q q.n) .append [45,45] [O,Q]) fun S T=>R [S] T (min (min (min (min m.n (M.low d)) o) r) (M.low T)))
(W.ah (slice? TE q 45 c none (some l) (some l)) fun U=>W.bz (.func 187) [x3,(.int .i64 50)] q fun V X Y=>(M.n q<=Y)/\(W.ah (aq TE .sub 3 V (.int .i64 5)) fun Z=>W.ah (aO TE 98 [(0,x2),(1,Z)]) fun a0=>W.aK (az TE X 45 1 [(0,a0)]) fun a1 a2=>W.ah (slice? TE a2 45 c (some l) none none) fun a3=>W.aK (an TE (M.wl a2 a2.n) .append [45,45] [a1,a3]) fun a4 a5=>(M.n a2<=M.low a5)/\(W.aK (an TE (M.wl a5 a5.n) .append [45,45] [U,a4]) fun a6 a7=>R [a6] a7 (min (min (min (min (min (min m.n (M.low d)) o) r) Y) (M.low a5)) (M.low a7)))))))))):=by kernel_rfl
set_option maxRecDepth 100000 in
theorem YQ{W:Words}{x0 x1 x2:Value}{m:M}{R:List Value->M->Nat->Prop}:dt TE W Tryz.f58 [x0,x1,x2] m R=
(W.jn (fun a=>W.bz (.func 127) [x0] m fun b c d=>W.ah (fK .not b) fun f=>aW f
(a [(.bool true)] c (min m.n d))
(W.ah (aq TE .lss 3 x1 (.int .i64 (-40))) fun g=>aW g
(a [(.bool true)] c (min m.n d))
(W.ah (aq TE .gtr 3 x1 (.int .i64 40)) fun h=>aW h
(a [(.bool true)] c (min m.n d))
(W.ah (aq TE .lss 3 x2 (.int .i64 (-40))) fun i=>aW i
(a [(.bool true)] c (min m.n d))
(W.ah (aq TE .gtr 3 x2 (.int .i64 40)) fun j=>a [j] c (min m.n d))))))
(fun k l n=>W.un k fun o p=>aW o
(R [(.slice none 0 0),(.int .i64 70)] l n)
(W.Lp (fun q r s t=>W.un r fun u v=>W.un v fun w y=>W.aK (an TE s .len [45] [x0]) fun z _=>W.ah (aq TE .lss 3 w z) fun A=>aW A
(W.ah (ai TE 45 x0 w) fun B=>W.ah (ae TE 98 B 0) fun C=>W.ah (ag TE s 3 C) fun D=>W.ah (aq TE .add 3 D x1) fun E=>W.ah (ai TE 45 x0 w) fun F=>W.ah (ae TE 98 F 1) fun G=>W.ah (ag TE s 3 G) fun H=>W.ah (aq TE .add 3 H x2) fun I=>W.ah (aO TE 98 [(0,E),(1,I)]) fun J=>W.aK (az TE s 45 1 [(0,J)]) fun K L=>W.aK (an TE (M.wl L L.n) .append [45,45] [u,K]) fun N O=>W.ah (aq TE .add 3 w (.int .i64 1)) fun P=>q [N,P] O (min t (M.low O)))
(W.bz (.func 127) [u] s fun Q S T=>W.ah (fK .not Q) fun U=>aW U
(R [(.slice none 0 0),(.int .i64 70)] S (min t T))
(R [u,(.int .i64 0)] S (min t T)))) [(.slice none 0 0),(.int .i64 0)] l n))):=by kernel_rfl
set_option maxRecDepth 100000 in
theorem Y9{W:Words}{x0 x1 x2 x3:Value}{m:M}{R:List Value->M->Nat->Prop}:dt TE W Tryz.f10 [x0,x1,x2,x3] m R=
(W.bW (M.push m (.cells (cells x0) 31 none)) fun a=>W.bW (M.push a (.cells [(.slice none 0 0)] 31 none)) fun b=>W.ah (ag TE b 31 (ptrTo m.n)) fun c=>W.bz (.func 55) [c] b fun d f g=>W.bW (M.push f (.cells [(.slice none 0 0)] 31 none)) fun h=>W.aK (aw TE h 31 (ptrTo f.n) d) fun i j=>W.ah (ae TE 31 (ptrTo f.n) 0) fun k=>W.ah (ag TE i 29 k) fun l=>W.aK (an TE i .len [29] [l]) fun n _=>W.ah (aq TE .eql 3 n (.int .i64 0)) fun o=>aW o
(W.ah (aO TE 87 [(0,x2)]) fun p=>W.aK (az TE i 29 1 [(0,p)]) fun q r=>W.ah (aO TE 31 [(0,q)]) fun s=>W.aK (aw TE r 31 (ptrTo a.n) s) fun t u=>ah (ag TE t 31 (ptrTo a.n)) fun v=>R [v] t (min (min (min m.n g) j) u))
(W.ah (ae TE 31 (ptrTo f.n) 0) fun w=>W.ah (ag TE i 29 w) fun y=>W.aK (an TE i .len [29] [y]) fun z _=>W.bz (.func 54) [x3,z] i fun A B C=>W.bz (.func 54) [x1,(.int .i64 4)] B fun D E F=>W.ah (aq TE .eql 3 D (.int .i64 0)) fun G=>aW G
(W.ah (ae TE 31 (ptrTo f.n) 0) fun H=>W.ah (ag TE E 29 H) fun I=>W.ah (ae TE 31 (ptrTo f.n) 0) fun J=>W.ah (ag TE E 29 J) fun K=>W.ah (ai TE 29 K A) fun L=>W.ah (ag TE E 87 L) fun N=>W.ah (aq TE .quo 3 x1 (.int .i64 4)) fun O=>W.ah (aq TE .quo 3 x3 (.int .i64 12)) fun P=>W.bz (.func 56) [N,O,x2,P] E fun Q S T=>(M.n E<=T)/\(W.ah (ai TE 29 I A) fun U=>W.aK (aw TE S 87 U Q) fun V X=>W.ah (ag TE V 31 (ptrTo f.n)) fun Y=>W.aK (aw TE V 31 (ptrTo a.n) Y) fun Z a0=>ah (ag TE Z 31 (ptrTo a.n)) fun a1=>R [a1] Z (min (min (min (min (min (min (min m.n g) j) C) F) T) X) a0)))
(W.ah (aq TE .eql 3 D (.int .i64 1)) fun a2=>aW a2
(W.ah (ae TE 31 (ptrTo f.n) 0) fun a3=>W.ah (ag TE E 29 a3) fun a4=>W.ah (ae TE 31 (ptrTo f.n) 0) fun a5=>W.ah (ag TE E 29 a5) fun a6=>W.ah (ai TE 29 a6 A) fun a7=>W.ah (ag TE E 87 a7) fun a8=>W.bz (.func 57) [a8] E fun a9 b0 b1=>(M.n E<=b1)/\(W.aK (az TE b0 29 1 [(0,a9)]) fun b2 b3=>W.aK (an TE (M.wl b3 b3.n) .append [29,29] [a4,b2]) fun b4 b5=>W.ah (ae TE 31 (ptrTo f.n) 0) fun b6=>W.aK (aw TE b5 29 b6 b4) fun b7 b8=>W.ah (ag TE b7 31 (ptrTo f.n)) fun b9=>W.aK (aw TE b7 31 (ptrTo a.n) b9) fun c0 c1=>ah (ag TE c0 31 (ptrTo a.n)) fun c2=>R [c2] c0 (min (min (min (min (min (min (min (min m.n g) j) C) F) b1) (M.low b5)) b8) c1)))
(W.ah (aq TE .eql 3 D (.int .i64 2)) fun c3=>aW c3
(W.ah (ae TE 31 (ptrTo f.n) 0) fun c4=>W.ah (ag TE E 29 c4) fun c5=>W.ah (ae TE 31 (ptrTo f.n) 0) fun c6=>W.ah (ag TE E 29 c6) fun c7=>W.ah (ai TE 29 c7 A) fun c8=>W.ah (ae TE 87 c8 3) fun c9=>W.ah (ag TE E 45 c9) fun d0=>W.bz (.func 54) [x2,(.int .i64 9)] E fun d1 d2 d3=>(M.n E<=d3)/\(W.ah (aq TE .sub 3 d1 (.int .i64 4)) fun d4=>W.ah (aq TE .quo 3 x2 (.int .i64 9)) fun d5=>W.bz (.func 54) [d5,(.int .i64 9)] d2 fun d6 d7 d8=>(M.n d2<=d8)/\(W.ah (aq TE .sub 3 d6 (.int .i64 4)) fun d9=>W.bz (.func 58) [d0,d4,d9] d7 fun g0 g1 g2=>(M.n d7<=g2)/\(W.ah (cj g0 0) fun g3=>W.ah (cj g0 1) fun g4=>W.ah (ai TE 29 c5 A) fun g5=>W.ah (ae TE 87 g5 3) fun g6=>W.aK (aw TE g1 45 g6 g3) fun g7 g8=>W.ah (ag TE g7 31 (ptrTo f.n)) fun g9=>W.aK (aw TE g7 31 (ptrTo a.n) g9) fun h0 h1=>ah (ag TE h0 31 (ptrTo a.n)) fun h2=>R [h2] h0 (min (min (min (min (min (min (min (min (min m.n g) j) C) F) d3) d8) g2) g8) h1)))))
(W.ah (ae TE 31 (ptrTo f.n) 0) fun h3=>W.ah (ag TE E 29 h3) fun h4=>W.ah (ae TE 31 (ptrTo f.n) 0) fun h5=>W.ah (ag TE E 29 h5) fun h6=>W.ah (ae TE 31 (ptrTo f.n) 0) fun h7=>W.ah (ag TE E 29 h7) fun h8=>W.ah (ai TE 29 h8 A) fun h9=>W.ah (ag TE E 87 h9) fun i0=>W.ah (ae TE 31 (ptrTo f.n) 0) fun i1=>W.ah (ag TE E 29 i1) fun i2=>W.ah (ai TE 29 i2 (.int .i64 0)) fun i3=>W.ah (ag TE E 87 i3) fun i4=>W.ah (ai TE 29 h4 (.int .i64 0)) fun i5=>W.aK (aw TE E 87 i5 i0) fun i6 i7=>((M.n E<=i7)\/(fq (some (.v h5)) i7/\True))/\(W.ah (ai TE 29 h6 A) fun i8=>W.aK (aw TE i6 87 i8 i4) fun i9 j0=>W.ah (ag TE i9 31 (ptrTo f.n)) fun j1=>W.aK (aw TE i9 31 (ptrTo a.n) j1) fun j2 j3=>ah (ag TE j2 31 (ptrTo a.n)) fun j4=>R [j4] j2 (min (min (min (min (min (min (min m.n g) j) C) F) i7) j0) j3))))))):=by kernel_rfl
end Go.Proofs.YtmdfgncoekfgdaaGreatDoor
namespace Go.Proofs.YtmdfgncoekfgdaaGreatDoor
open Go Go.D
variable {m:M}
section
variable {α:Type} [aL α]
theorem Er{cs:List Value}{k i j p:Nat}{c:Value}(hj:j < k):chunk (cs.set (i*k+j) c) k p=if p=i then(chunk cs k p).set j c else chunk cs k p:=by
 unfold chunk
 by_cases e:p=i
 ·subst e
  rw[if_pos rfl,List.drop_set,if_neg (by omega),show p*k+j-p*k=j by omega,List.take_set]
 ·rw[if_neg e]
  by_cases h:p < i
  ·have:(p+1)*k<=i*k:=Nat.mul_le_mul_right _ h
   rw[Nat.add_mul,Nat.one_mul]at this
   rw[List.drop_set,if_neg (by omega),List.take_set,List.set_eq_of_length_le (by rw[List.length_take];omega)]
  ·have:(i+1)*k<=p*k:=Nat.mul_le_mul_right _ (by omega)
   rw[Nat.add_mul,Nat.one_mul]at this
   rw[List.drop_set,if_pos (by omega)]
theorem uX(hty:aL.fR α=[]){n1:Nat}{l:List α}{v:Value}(h:Ow n1 m l v){i:Nat}{x:α}(hi:l[i]?=some x){T t0:TypeId}(hT:uF TE T t0 α):
  ∃b,(∀q,ai TE T v (.int q i)=some (.pointer (some ⟨b,0+i*aL.sz α,none⟩)))/\n1<=b/\(∃cs g,m.get b=.cells cs (aL.ty α) g)/\b < m.n/\
   (∃cs,aL.rep m x cs/\∀j,j < aL.sz α->cellAt m ⟨b,0+i*aL.sz α+j,none⟩=cs[j]?)/\
   ∀(k:Nat) (t:TypeId) (ti:TI) (y:α) (c:Value),TE.ty.get t=some ti->ti.size=1->cells c=[c]->one c=true->k < aL.sz α->(∀cs,aL.rep m x cs->∀m',aL.rep m' y (cs.set k c))->
    ∀P:M->Nat->Prop,(∀m1,m1.n=m.n->Ow n1 m1 (l.set i y) v->(∀c,c≠b->m1.get c=m.get c)->P m1 b)->
    aK (aw TE m t (.pointer (some ⟨b,0+i*aL.sz α+k,none⟩)) c) P:=by
 have hil:=(List.getElem?_eq_some_iff.1 hi).1
 rcases h with⟨_,rfl⟩ |⟨b,cs,rfl,h2,h3,h4,h5,h6⟩
 ·simp at hi
 ·obtain⟨ti',te,t1,⟨e,t2⟩,t3,t4,t5,t6⟩:=hT
  have hpos:=aL.pos (α:=α)
  have hmul:(i+1)*aL.sz α<=l.length*aL.sz α:=Nat.mul_le_mul_right _ hil
  rw[Nat.add_mul,Nat.one_mul]at hmul
  refine⟨b,fun q=>?_,h3,⟨cs,_,h4⟩,M.aV h4,⟨_,h6 i x hi,fun j hj=>?_⟩,fun k t ti y c ht hsz hc h1 hk hy P hP=>?_⟩
  ·have hcnd:0<=(i:Int)/\(i:Int)< (l.length:Int)/\0 < ti'.es:=⟨by omega,by omega,by omega⟩
   simp only[ai,t1,t2]
   rw[if_pos hcnd,bC rfl,t3]
   rfl
  ·rw[av h4]
   unfold chunk
   rw[List.getElem?_take_of_lt hj,List.getElem?_drop,Nat.zero_add]
  ·refine bM ht h4 (by rw[hc,hsz];rfl) (by rw[hc];simp;omega) (by rw[hc];simp[h1]) fun m1 hn hg hk'=>?_
   rw[hc]at hg
   have hset:cs.take (0+i*aL.sz α+k)++([c]++cs.drop (0+i*aL.sz α+k+ [c].length))=cs.set (i*aL.sz α+k) c:=by
    rw[Nat.zero_add]
    exact gC (by omega)
   rw[hset]at hg
   refine hP m1 hn (.inr ⟨b,_,by rw[List.length_set],by rw[List.length_set];exact h2,h3,hg,by rw[List.length_set,List.length_set];exact h5,fun p z hz=>?_⟩) hk'
   rw[Er hk]
   by_cases e:p=i
   ·subst e
    rw[if_pos rfl]
    rw[List.getElem?_set_self hil]at hz
    cases hz
    exact hy _ (h6 p x hi) m1
   ·rw[if_neg e]
    rw[List.getElem?_set_ne (Ne.symm e)]at hz
    exact aL.bt (h6 p z hz) fun b c t g _ h=>by rw[hty]at h;cases h
theorem qS(hty:aL.fR α=[]){n1:Nat}{l:List α}{v:Value}(h:Ow n1 m l v){i:Nat}(hil:i < l.length){T t0:TypeId}(hT:uF TE T t0 α):
  ∃b,(∀q,ai TE T v (.int q i)=some (.pointer (some ⟨b,0+i*aL.sz α,none⟩)))/\n1<=b/\b < m.n/\(∃cs g,m.get b=.cells cs (aL.ty α) g)/\(∀a n k,v=.slice (some a) n k->a.block=b)/\
   ∀(y:α) (w:Value) (ti:TI),TE.ty.get t0=some ti->ti.size=aL.sz α->aL.rep m y (cells w)->
    ∀P:M->Nat->Prop,(∀m1,m1.n=m.n->Ow n1 m1 (l.set i y) v->(∀c,c≠b->m1.get c=m.get c)->P m1 b)->
    aK (aw TE m t0 (.pointer (some ⟨b,0+i*aL.sz α,none⟩)) w) P:=by
 rcases h with⟨_,rfl⟩ |⟨b,cs,rfl,h2,h3,h4,h5,h6⟩
 ·simp at hil
 ·obtain⟨ti',te,t1,⟨e,t2⟩,t3,t4,t5,t6⟩:=hT
  have hpos:=aL.pos (α:=α)
  have hmul:(i+1)*aL.sz α<=l.length*aL.sz α:=Nat.mul_le_mul_right _ hil
  rw[Nat.add_mul,Nat.one_mul]at hmul
  refine⟨b,fun q=>?_,h3,M.aV h4,⟨cs,_,h4⟩,fun a n k e=>by cases e;rfl,fun y w ti ht hsz hr P hP=>?_⟩
  ·have hcnd:0<=(i:Int)/\(i:Int)< (l.length:Int)/\0 < ti'.es:=⟨by omega,by omega,by omega⟩
   simp only[ai,t1,t2]
   rw[if_pos hcnd,bC rfl,t3]
   rfl
  ·have hwl:(cells w).length=aL.sz α:=aL.len hr
   refine bM ht h4 (by rw[hwl,hsz]) (by rw[hwl];omega) (aL.nB hr) fun m1 hn hg hk=>?_
   rw[hwl,Nat.zero_add]at hg
   have hA:(cs.take (i*aL.sz α)).length=i*aL.sz α:=by rw[List.length_take];omega
   have keepR:∀{z:α} {q:List Value},aL.rep m z q->aL.rep m1 z q:=fun hr=>aL.bt hr fun b c t g hb ht=>by rw[hty]at ht;cases ht
   refine hP m1 hn (.inr ⟨b,_,by rw[List.length_set],by rw[List.length_set];exact h2,h3,hg,?_,fun p z hz=>?_⟩) hk
   ·rw[List.length_set,List.length_append,List.length_append,hA,hwl,List.length_drop];omega
   ·rcases Nat.lt_trichotomy p i with e |e |e
    ·rw[List.getElem?_set_ne (by omega)]at hz
     rw[dQ hA e]
     have hle:(p+1)*aL.sz α<=i*aL.sz α:=Nat.mul_le_mul_right _ e
     rw[Nat.add_mul,Nat.one_mul]at hle
     have:chunk (cs.take (i*aL.sz α)) (aL.sz α) p=chunk cs (aL.sz α) p:=by
      unfold chunk
      rw[List.drop_take,List.take_take]
      congr 1
      omega
     rw[this]
     exact keepR (h6 p z hz)
    ·subst e
     rw[List.getElem?_set_self hil]at hz
     cases hz
     rw[cL hA (Nat.le_refl _),Nat.sub_self]
     have:chunk (cells w++cs.drop (p*aL.sz α+aL.sz α)) (aL.sz α) 0=cells w:=by
      unfold chunk
      rw[Nat.zero_mul,List.drop_zero,List.take_append_of_le_length (by omega),List.take_of_length_le (by omega)]
     rw[this]
     exact keepR hr
    ·rw[List.getElem?_set_ne (by omega)]at hz
     rw[cL hA (by omega)]
     have hw1:(cells w).length=1*aL.sz α:=by rw[hwl,Nat.one_mul]
     rw[cL hw1 (by omega)]
     have:chunk (cs.drop (i*aL.sz α+aL.sz α)) (aL.sz α) (p-i-1)=chunk cs (aL.sz α) p:=by
      unfold chunk
      rw[List.drop_drop]
      congr 2
      have:p*aL.sz α=(i+1+(p-i-1))*aL.sz α:=by congr 1;omega
      rw[this,Nat.add_mul,Nat.add_mul,Nat.one_mul]
     rw[this]
     exact keepR (h6 p z hz)
end
end Go.Proofs.YtmdfgncoekfgdaaGreatDoor
namespace Go.D
open Go
section
variable {E:Env} {m:M} {T:TypeId} {α:Type} [aL α]
theorem Db{ti:TI}{e te:TypeId}{b n k:Nat}{cs:List Value}(t1:E.ty.get T=some ti)(t2:ti.d=.slice e)(t3:ti.es=k)(hk:0 < k)(h:m.get b=.cells cs te (some k)){i:Nat}(hi:i<=n):
  slice? E m T (.slice (some ⟨b,0,none⟩) n n) none (some (.int .i64 i)) (some (.int .i64 i))=some (.slice (some ⟨b,0,none⟩) i i):=by
 have b1:cE n n none (some (.int .i64 i)) (some (.int .i64 i))=some (0,i,i):=by unfold cE;simp only[iq hi,iq (Nat.le_refl i)]
 have e1:Nat.beq ti.es 0=false:=by
  cases hb:Nat.beq ti.es 0 with
  |false=>rfl
  |true=>have:=Nat.eq_of_beq_eq_true hb;omega
 have e2:Nat.ble n n=true:=Nat.ble_eq_true_of_le (Nat.le_refl _)
 have e3:Nat.beq k ti.es=true:=by rw[t3];exact Nat.beq_refl _
 simp only[slice?,t1,t2,b1,h,e1,e2,e3,Bool.not_true,Bool.or_false,cond_false,cond_true,Option.isNone_some,Bool.false_and,Bool.not_false,Bool.and_true]
 simp only[Nat.zero_mul,Addr.add,if_true,Nat.sub_zero]
 cases Nat.beq i 0 <;>rfl
theorem jU(hT:EC E T α){l ys:List α}{y:Value}{b o c:Nat}{bc:List Value}{te:TypeId}{g:Option Nat}(h:m.get b=.cells bc te g)(hg:g=none\/(g=some (aL.sz α)/\o+c*aL.sz α < bc.length))
  (hl:Sl m l (.slice (some ⟨b,o,none⟩) l.length c)) (hy:Sl m ys y) (hc:c < l.length+ys.length) (hs:l.length+ys.length<=268435456):
  ∃v' m1,an E (m.wl m.n) .append [T,T] [.slice (some ⟨b,o,none⟩) l.length c,y]=some (v',m1)/\Ow m.n m1 (l++ys) v'/\Ext m m1/\m1.low=m.n:=by
 obtain⟨ti,ei,t1,t2,t3,t4,t5,t6⟩:=hT
 obtain⟨news,e1,e2,e3,e4,e5⟩:=hy.first
 obtain⟨eO,_,f2,f3,f4,f5⟩:=hl.first
 have hpos:=aL.pos (α:=α)
 have hcc:(Nat.beq ti.es 0 ||Nat.blt 65536 ei.bytes || !news.all D.one ||Nat.blt 268435456 (l.length+ys.length) || !Nat.beq news.length (ys.length*ti.es) || !ff ei.zero ti.es)=false:=by
  have c1:Nat.beq ti.es 0=false:=by
   cases hb:Nat.beq ti.es 0 with
   |false=>rfl
   |true=>have:=Nat.eq_of_beq_eq_true hb;omega
  have c2:Nat.blt 65536 ei.bytes=false:=by
   cases hb:Nat.blt 65536 ei.bytes with
   |false=>rfl
   |true=>rw[Nat.blt_eq]at hb;omega
  have c3:Nat.blt 268435456 (l.length+ys.length)=false:=by
   cases hb:Nat.blt 268435456 (l.length+ys.length)with
   |false=>rfl
   |true=>rw[Nat.blt_eq]at hb;omega
  have c4:Nat.beq news.length (ys.length*ti.es)=true:=by rw[e3,t3];exact Nat.beq_refl _
  rw[c1,c2,c3,c4,e4,t3,t6];rfl
 have hfirst:first? (m.wl m.n) ti.es ys.length y=some news:=by rw[bH,t3];exact e2
 have hble:Nat.ble (l.length+ys.length) c=false:=by
  cases hb:Nat.ble (l.length+ys.length) c with
  |false=>rfl
  |true=>have:=Nat.le_of_ble_eq_true hb;omega
 have hold:(bif Nat.beq l.length 0 then some []else loadCells (m.wl m.n) ⟨b,o,none⟩ (l.length*aL.sz α))=some eO:=by
  rw[bs];exact f2
 have g1:(g.isNone ||(g==some (aL.sz α) && Nat.blt (o+c*aL.sz α) bc.length))=true:=by
  rcases hg with rfl |⟨rfl,hlt⟩
  ·rfl
  ·have:Nat.blt (o+c*aL.sz α) bc.length=true:=by rw[Nat.blt_eq];exact hlt
   rw[this];simp
 have hgm:(m.wl m.n).get b=.cells bc te g:=h
 have hx:Ext m ((m.wl m.n).push (.cells (eO++news) (aL.ty α) (some (aL.sz α)))):=⟨Nat.le_succ _,fun c hc=>by rw[M.bF (m:=m.wl m.n) hc];rfl⟩
 refine⟨.slice (some ⟨m.n,0,none⟩) (l.length+ys.length) (l.length+ys.length),(m.wl m.n).push (.cells (eO++news) (aL.ty α) (some (aL.sz α))),?_,?_,hx,rfl⟩
 ·simp only[an,da,t1,e1,t2,t4,hfirst]
  rw[hcc,hble]
  simp only[cond_false,iH,t3]
  simp only[hgm,hold,g1,cond_true]
  rfl
 ·refine .inr ⟨m.n,eO++news,by rw[List.length_append],by rw[List.length_append];omega,Nat.le_refl _,M.aN (m:=m.wl m.n),by rw[List.length_append,List.length_append,f3,e3,Nat.add_mul],fun i x hi=>?_⟩
  by_cases hil:i < l.length
  ·rw[List.getElem?_append_left hil]at hi
   rw[dQ f3 hil]
   exact aL.aB (f5 i x hi) hx
  ·rw[List.getElem?_append_right (by omega)]at hi
   rw[cL f3 (by omega)]
   exact aL.aB (e5 _ x hi) hx
end
end Go.D
namespace Go.D
open Go
theorem append_nil{E:Env}{m:M}{T:TypeId}{α:Type}[aL α](hT:EC E T α){a:Addr}{n c:Nat}(hn:n<=c)(hs:n<=268435456){y:Value}(hy:(∃a' c',y=.slice (some a') 0 c')\/y=.slice none 0 0):
  an E (m.wl m.n) .append [T,T] [.slice (some a) n c,y]=some (.slice (some a) n c,m.wl m.n):=by
 obtain⟨ti,ei,t1,t2,t3,t4,t5,t6⟩:=hT
 have hpos:=aL.pos (α:=α)
 have hl:jP y=some 0:=by rcases hy with⟨a',c',rfl⟩ |rfl <;>rfl
 have hf:first? (m.wl m.n) ti.es 0 y=some []:=by rcases hy with⟨a',c',rfl⟩ |rfl <;>rfl
 have hc:(Nat.beq ti.es 0 ||Nat.blt 65536 ei.bytes || !([]:List Value).all D.one ||Nat.blt 268435456 (n+0) || !Nat.beq ([]:List Value).length (0*ti.es) || !ff ei.zero ti.es)=false:=by
  have c1:Nat.beq ti.es 0=false:=by
   cases hb:Nat.beq ti.es 0 with
   |false=>rfl
   |true=>have:=Nat.eq_of_beq_eq_true hb;omega
  have c2:Nat.blt 65536 ei.bytes=false:=by
   cases hb:Nat.blt 65536 ei.bytes with
   |false=>rfl
   |true=>rw[Nat.blt_eq]at hb;omega
  have c3:Nat.blt 268435456 (n+0)=false:=by
   cases hb:Nat.blt 268435456 (n+0)with
   |false=>rfl
   |true=>rw[Nat.blt_eq]at hb;omega
  rw[c1,c2,c3,t3,t6,Nat.zero_mul];rfl
 simp only[an,da,t1,hl,t2,t4,hf]
 rw[hc,Nat.ble_eq_true_of_le (show n+0<=c by omega)]
 rfl
end Go.D
namespace Go.Proofs.YtmdfgncoekfgdaaGreatDoor
open Go Go.D
variable {X:aF} {m:M}
theorem pK(hX:cW X){c n:Int}(hc:fP c)(hn:0 < n):C X (.func 187) [.int .i64 c,.int .i64 n] m m.n (.int .i64 (cM c n)) m:=by
 refine Cl.flat (hX.no _ rfl) Mc rfl rfl ?_
 rw[Q3];dsimp only[aI]
 exact kh hc hn (P:=fun v=>aR [v]=.int .i64 (cM c n)/\m.n<=m.n) ⟨rfl,Nat.le_refl _⟩
theorem Dl(hX:cW X){c n:Int}(hc:fP c)(hn:0 < n):C X (.func 125) [.int .i64 c,.int .i64 n] m m.n (.int .i64 (cM c n)) m:=by
 refine Cl.flat (hX.no _ rfl) MD rfl rfl ?_
 rw[Rs];dsimp only[aI]
 exact kh hc hn (P:=fun v=>aR [v]=.int .i64 (cM c n)/\m.n<=m.n) ⟨rfl,Nat.le_refl _⟩
theorem jt{α:Type}[aL α]{n1:Nat}{l:List α}{v:Value}(h:Ow n1 m l v)(hl:l≠ []):∃b,v=.slice (some ⟨b,0,none⟩) l.length l.length/\n1<=b:=by
 rcases h with⟨_,h⟩ |⟨b,cs,h1,h2,h3,_⟩
 ·exact absurd h hl
 ·exact⟨b,h1,h3⟩
theorem vT{n1:Nat}{mm:M}{acc:List UW}{r:Value}(ho:Ow n1 mm acc r)(hs:∀x∈acc,Sl mm x.u.shape x.w)(hl:∀x∈acc,x.u.shape.length < 1000000):dS mm acc r:=
 ⟨ho.sl,hs,hl,by
  rcases ho with⟨_,h⟩ |⟨b,cs,h1,h2,h3,h4,h5,h6⟩
  ·exact .inl h
  ·exact .inr ⟨b,0,_,cs,_,h1,Nat.le_refl _,h4,.inr rfl⟩⟩
set_option maxRecDepth 100000 in
theorem zY(hX:cW X){l:List UW}{v:Value}(h:dS m l v)(hlen:l.length < 1000):
  ∃acc r m',C X (.func 55) [.agg #[v]] m m.n (.agg #[r]) m'/\Ext m m'/\bV acc=bV l/\Ow m.n m' acc r/\(∀x∈acc,Sl m' x.u.shape x.w)/\∀x∈acc,x.u.shape.length < 1000000:=by
 have key:=Cl.gen (E:=TE) (X:=X) (f:=55) (args:=[.agg #[v]]) (m:=m) (R:=fun rv m' bb=>bb=m.n/\Ext m m'/\∃acc r,rv=.agg #[r]/\bV acc=bV l/\Ow m.n m' acc r/\(∀x∈acc,Sl m' x.u.shape x.w)/\∀x∈acc,x.u.shape.length < 1000000) (hX.no _ rfl) OM rfl ?_
 ·obtain⟨rv,m',bb,hc,rfl,hx,acc,r,rfl,hr⟩:=key
  exact⟨acc,r,m',hc,hx,hr⟩
 rw[YT];dsimp only[aI]
 refine au fun m1 hn1 hg1 hk1=>?_
 refine au fun m2 hn2 hg2 hk2=>?_
 refine au fun m3 hn3 hg3 hk3=>?_
 have hx3:Ext m m3:=⟨by omega,fun c hc=>by rw[hk3 c (by omega),hk2 c (by omega),hk1 c hc]⟩
 have g1:m3.get m.n=.cells [v] 31 none:=by rw[hk3 _ (by omega),hk2 _ (by omega)];exact hg1
 have g2:m3.get m1.n=.cells [.slice none 0 0] 31 none:=by rw[hk3 _ (by omega)];exact hg2
 obtain⟨oc,hoc⟩:∃oc,oc=m2.n:=⟨_,rfl⟩
 rw[<-hoc]at hg3⊢
 unfold ptrTo
 have ldF:∀m':M,m'.get m.n=.cells [v] 31 none->ag TE m' 29 (.pointer (some ⟨m.n,0+0,none⟩))=some v:=fun m' h=>by rw[gX,av h];rfl
 have ldO:∀(m':M) acc r,zy oc m' acc r->ag TE m' 29 (.pointer (some ⟨oc,0+0,none⟩))=some r:=fun m' acc r h=>by rw[gX,av h.cell];rfl
 simp only[cx,aa]
 refine Lp.intro (γ:=Nat) (fun i=>l.length-i) (fun i vs mm lo=>∃(acc:List UW) (r:Value),vs=[.int .i64 i]/\i<=l.length/\zy oc mm acc r/\(∀c,c < oc->mm.get c=m3.get c)/\m.n<=lo/\m3.n<=mm.n/\bV acc=(bV l).take i/\acc.length<=i) 0
  ⟨[],_,rfl,Nat.zero_le _,⟨hg3,.nil,fun x hx=>(by cases hx),fun x hx=>(by cases hx)⟩,fun c hc=>rfl,by omega,Nat.le_refl _,rfl,Nat.le_refl _⟩ ?_
 rintro i vs mm lo1 ⟨acc,r,rfl,hi,hgr,hk,hlo,hnm,hus,hal⟩
 have gf:mm.get m.n=.cells [v] 31 none:=by rw[hk _ (by omega),g1]
 have hxm:Ext m mm:=⟨by omega,fun c hc=>by rw[hk c (by omega),hx3.get c hc]⟩
 have hF:=h.aB hxm
 rw[aA,ldF mm gf,aa,hF.sl.len eo,ar,aH,aa,aj]
 refine ak (fun hlt=>?_) (fun hge=>?_)
 ·have hlt:i < l.length:=by simpa using hlt
  obtain⟨x,hx⟩:∃x,l[i]?=some x:=⟨_,List.getElem?_eq_getElem hlt⟩
  have hxm':=List.mem_of_getElem? hx
  have htk:(bV l).take (i+1)=(bV l).take i++ [x.u]:=by rw[List.take_add_one,tF hx];rfl
  obtain⟨q,q1,q2,_⟩:=hF.sl.lv (k:=.i64) hx
  rw[ldO mm _ _ hgr,aa,aa,q1,aa,q2,aa]
  obtain⟨w',m78,m81,r',m83,m85,c1,c2,c3,c4,c5,c6,c7⟩:=mq hX hgr (hF.sh x hxm') (h.ln x hxm') (by omega)
  refine aC c1 ⟨Nat.le_refl _,?_⟩
  rw[c2,ar,c3,ar,c4,ar,aG,aa,wrap64 (by omega) (by omega)]
  have:=c7.n
  exact⟨i+1,by omega,_,r',rfl,by omega,c6,fun c hc=>by rw[c7.lo c hc,hk c hc],by omega,by omega,by rw[htk,<-hus];unfold bV;simp,by simp;omega⟩
 ·have hi':i=l.length:=by
   have:¬(i:Int)< (l.length:Int):=by simpa using hge
   omega
  subst hi'
  rw[List.take_of_length_le (by rw[dY];exact Nat.le_refl _)]at hus
  rw[cZ,aE hgr.cell (by simp)]
  show ah (some (Value.agg #[r])) _
  rw[aa]
  have gz:mm.get m1.n=.cells [.slice none 0 0] 31 none:=by rw[hk _ (by omega)];exact g2
  refine aD kZ gz rfl rfl (by show(one r && true)=true;rw[hgr.ow.sl.one];rfl) fun m9 hn9 hg9 hk9=>?_
  have hg9:m9.get m1.n=.cells [r] 31 none:=hg9
  rw[cZ,aE hg9 (by simp)]
  show ah (some (Value.agg #[r])) _
  rw[aa]
  by_cases hne:acc=[]
  ·subst hne
   rcases hgr.ow with⟨rfl,_⟩ |⟨b,cs,_,h2,_⟩
   ·exact .inl ⟨rfl,by omega,by first |rfl |trivial,.refl,[],_,rfl,hus,.nil,fun x hx=>(by cases hx),fun x hx=>(by cases hx)⟩
   ·simp at h2
  ·obtain⟨b,rfl,hb⟩:=jt hgr.ow hne
   refine .inr ⟨.inl rfl,by omega,⟨by omega,fun c hc=>by rw[hk9 c (by omega),hk c (by omega),hx3.get c hc]⟩,acc,_,rfl,hus,?_,fun x hx=>?_,hgr.ln⟩
   ·refine Ow.mono (n1:=oc+1) (hgr.ow.bt fun b c t g' hb ht=>?_) (by omega)
    have:b≠m1.n:=by
     rintro rfl
     rw[hk _ (by omega),g2]at hb
     cases hb
     revert ht
     decide
    rw[hk9 b this,hb]
   ·refine(hgr.sh x hx).bt fun b c t g' hb ht=>?_
    have:b≠m1.n:=by
     rintro rfl
     rw[hk _ (by omega),g2]at hb
     cases hb
     revert ht
     decide
    rw[hk9 b this,hb]
set_option maxRecDepth 100000 in
theorem zU(hX:cW X){l:List Pl}{v:Value}(hl:Sl m l v)(hlen:l.length<=1000){dx dy:Int}:
  ∃(l':List Pl) (v':Value) (e:Int) (m':M),C X (.func 58) [v,.int .i64 dx,.int .i64 dy] m m.n (.tuple #[v',.int .i64 e]) m'/\Ext m m'/\Sl m' l' v'/\l'.length<=l.length:=by
 have key:=Cl.gen (E:=TE) (X:=X) (f:=58) (args:=[v,.int .i64 dx,.int .i64 dy]) (m:=m) (R:=fun rv m' bb=>bb=m.n/\Ext m m'/\∃(l':List Pl) (v':Value) (e:Int),rv=.tuple #[v',.int .i64 e]/\Sl m' l' v'/\l'.length<=l.length) (hX.no _ rfl) OI rfl ?_
 ·obtain⟨rv,m',bb,hc,rfl,hx,l',v',e,rfl,hr⟩:=key
  exact⟨l',v',e,m',hc,hx,hr⟩
 rw[YQ];dsimp only[aI]
 refine bY (fun vs mm lo=>(∃b,vs=[.bool b])/\m=mm/\m.n<=lo) (fun R hR=>?_) ?_
 ·refine aC (iX hX hl (by omega)) ?_
  rw[aX,aa,aj]
  refine ak (fun _=>hR _ _ _ ⟨⟨_,rfl⟩,rfl,by omega⟩) (fun _=>?_)
  rw[aH,aa,aj]
  refine ak (fun _=>hR _ _ _ ⟨⟨_,rfl⟩,rfl,by omega⟩) (fun _=>?_)
  rw[bX,aa,aj]
  refine ak (fun _=>hR _ _ _ ⟨⟨_,rfl⟩,rfl,by omega⟩) (fun _=>?_)
  rw[aH,aa,aj]
  refine ak (fun _=>hR _ _ _ ⟨⟨_,rfl⟩,rfl,by omega⟩) (fun _=>?_)
  rw[bX,aa]
  exact hR _ _ _ ⟨⟨_,rfl⟩,rfl,by omega⟩
 rintro _ _ lo ⟨⟨b,rfl⟩,rfl,hlo⟩
 rw[aA,aj]
 refine ak (fun _=>?_) (fun _=>?_)
 ·exact .inl ⟨rfl,hlo,by first |rfl |trivial,.refl,[],_,_,rfl,.nil,Nat.zero_le _⟩
 refine Lp.intro (γ:=Nat) (fun i=>l.length-i) (fun i vs mm lo=>∃(acc:List Pl) (r:Value),vs=[r,.int .i64 i]/\i<=l.length/\Ow m.n mm acc r/\acc.length=i/\Ext m mm/\m.n<=lo) 0 ⟨[],_,rfl,Nat.zero_le _,.nil,rfl,.refl,hlo⟩ ?_
 rintro i vs mm lo1 ⟨acc,r,rfl,hi,ho,hal,hxm,hlo1⟩
 have nm:=hxm.n
 rw[aA,aA,(hl.aB hxm).len cX,ar,aH,aa,aj]
 refine ak (fun hlt=>?_) (fun hge=>?_)
 ·have hlt:i < l.length:=by simpa using hlt
  obtain⟨p,hp⟩:∃p,l[i]?=some p:=⟨_,List.getElem?_eq_getElem hlt⟩
  obtain⟨b,o,bc,g,cs,e0,hb,hr,_,hj⟩:=(hl.aB hxm).kQ cX (k:=.i64) hp
  have hr:cs=p.c:=hr
  subst hr
  have l0:ag TE mm 3 (.pointer (some ⟨b,o+0,none⟩))=some (.int .i64 p.x):=by rw[bu,av hb,hj 0 (by decide)];rfl
  have l1:ag TE mm 3 (.pointer (some ⟨b,o+1,none⟩))=some (.int .i64 p.y):=by rw[bu,av hb,hj 1 (by decide)];rfl
  simp only[e0,aa,bK,cr,l0,l1,aG]
  rw[cd rfl rfl,aa]
  refine ho.wE (p:=⟨IntKind.i64.wrap (p.x+dx),IntKind.i64.wrap (p.y+dy)⟩) nm (by omega) fun v10 m10 ho10 hf10 hlow hn10=>?_
  rw[wrap64 (x:=(i:Int)+1) (by omega) (by omega)]
  exact⟨i+1,by omega,_,v10,rfl,by omega,ho10,by simp[hal],⟨by omega,fun c hc=>by rw[hf10.get c hc,hxm.get c hc]⟩,by omega⟩
 ·refine aC (iX hX ho.sl (by omega)) ?_
  rw[aX,aa,aj]
  refine ak (fun _=> .inl ⟨rfl,by omega,by first |rfl |trivial,.refl,[],_,_,rfl,.nil,Nat.zero_le _⟩) (fun _=>?_)
  by_cases hne:acc=[]
  ·subst hne
   rcases ho with⟨rfl,_⟩ |⟨b,cs,_,h2,_⟩
   ·exact .inl ⟨rfl,by omega,by first |rfl |trivial,.refl,[],_,_,rfl,.nil,Nat.zero_le _⟩
   ·simp at h2
  ·obtain⟨b,rfl,hb⟩:=jt ho hne
   exact .inr ⟨.inl rfl,by omega,hxm,acc,_,_,rfl,ho.sl,by omega⟩
end Go.Proofs.YtmdfgncoekfgdaaGreatDoor
namespace Go.Proofs.YtmdfgncoekfgdaaGreatDoor
open Go Go.D
variable {X:aF} {m:M}
set_option maxRecDepth 100000 in
theorem Ac(hX:cW X){l:List Pl}{v:Value}(hl:Sl m l v)(hlen:2<=l.length/\l.length<=1000){how n at_:Int}(rh:fP how)(ra:fP at_):
  ∃(l':List Pl) (v':Value) (m':M),C X (.func 126) [v,.int .i64 how,.int .i64 n,.int .i64 at_] m m.n v' m'/\Ext m m'/\Sl m' l' v'/\l'.length<=l.length+1/\∃a p q,v'=.slice (some a) p q:=by
 have hne:l≠ []:=by rintro rfl;simp at hlen
 have key:=Cl.heap (E:=TE) (X:=X) (f:=126) (args:=[v,.int .i64 how,.int .i64 n,.int .i64 at_]) (m:=m) (R:=fun rv m' bb=>bb=m.n/\Ext m m'/\∃l':List Pl,Sl m' l' rv/\l'.length<=l.length+1/\∃a p q,rv=.slice (some a) p q) (hX.no _ rfl) MC rfl ?_
 ·obtain⟨rv,m',bb,hc,rfl,hx,l',hr⟩:=key
  exact⟨l',rv,m',hc,hx,hr⟩
 rw[Rr];dsimp only[aI]
 rw[fZ,ar]
 have hx2:Ext m (m.push (.cells [] 98 none)):=Ext.refl.push
 have hg2:(m.push (.cells [] 98 none)).get m.n=.cells [] 98 none:=M.aN
 have hn2:(m.push (.cells [] 98 none)).n=m.n+1:=rfl
 generalize hm2:m.push (.cells [] 98 none)=m2 at*
 obtain⟨v3,m4,e4,ho4,hx4,hl4⟩:=ir kX hg2 (hl.aB hx2) hne (by omega)
 have hn4:=hx4.n
 obtain⟨rb,cs,rfl,hrb,hgr,hcl⟩:∃rb cs,v3=.slice (some ⟨rb,0,none⟩) l.length l.length/\m2.n<=rb/\m4.get rb=.cells cs 98 (some 2)/\cs.length=l.length*2:=by
  rcases ho4 with⟨_,h⟩ |⟨b,cs,h1,_,h3,h4,h5,_⟩
  ·exact absurd h hne
  ·exact⟨b,cs,h1,h3,h4,h5⟩
 rw[e4,ar,ho4.sl.len cX,ar,bE,aa,aj,decide_eq_false (by omega),aM,ar]
 refine aC (pK hX ra (by omega)) ?_
 refine aC (pK hX rh (by decide)) ?_
 have pk:=fw (c:=at_) (n:=(l.length:Int)) (by omega)
 obtain⟨k,hk⟩:∃k:Nat,cM at_ l.length=(k:Int):=⟨(cM at_ l.length).toNat,by omega⟩
 rw[hk]at pk⊢
 have hkl:k < l.length:=by omega
 obtain⟨x,hx⟩:∃x,l[k]?=some x:=⟨_,List.getElem?_eq_getElem hkl⟩
 have hxt:Ext m m4:=hx2.trans hx4
 have eO:∀mm:M,(∀c,c < m2.n->mm.get c=m4.get c)->m4.n<=mm.n->Ext m mm:=fun mm h hn=>⟨by omega,fun c hc=>by rw[h c (by omega),hxt.get c hc]⟩
 have flt:∀(a:Addr) (p q:Nat),bD (aR [Value.slice (some a) p q])=false:=fun _ _ _=>rfl
 have hlk:(l.take k).length=k:=by rw[List.length_take];omega
 have cut:∀mm:M,Ext m4 mm->Sl mm (l.take k) (.slice (some ⟨rb,0,none⟩) (l.take k).length k):=fun mm hxm=>by
  have:=(ho4.sl.aB hxm).part (i:=0) (k:=k) (c':=k) (by omega)
  rw[hlk]
  simpa using this
 have tail:∀(mm:M) (j:Nat),Ext m4 mm->j<=l.length->Sl mm (l.drop j) (.slice (some ⟨rb,0+j*2,none⟩) (l.length-j) (l.length-j)):=fun mm j hxm hj=>by
  have:=(ho4.sl.aB hxm).part (i:=j) (k:=l.length-j) (c':=l.length-j) (by omega)
  rw[List.take_of_length_le (by rw[List.length_drop];exact Nat.le_refl _)]at this
  exact this
 rw[bE,aa,aj]
 refine ak (fun _=>?_) (fun _=>?_)
 ·obtain⟨b,q1,q2,q3,q4,q5,q6⟩:=uX rfl ho4 hx cX
  rw[q1,aa,bK,aa]
  refine q6 0 3 _ ⟨n,x.y⟩ (.int .i64 n) kf rfl rfl rfl (by decide) (fun cs hr m'=>by have hr:cs=x.c:=hr;subst hr;rfl) _ fun m20 hn20 ho20 hk20=>?_
  exact⟨.inl (flt _ _ _),by omega,eO m20 (fun c hc=>hk20 c (by omega)) (by omega),_,ho20.sl,by simp,_,_,_,rfl⟩
 rw[bE,aa,aj]
 refine ak (fun _=>?_) (fun _=>?_)
 ·obtain⟨b,q1,q2,q3,q4,q5,q6⟩:=uX rfl ho4 hx cX
  rw[q1,aa,cr,aa]
  refine q6 1 3 _ ⟨x.x,n⟩ (.int .i64 n) kf rfl rfl rfl (by decide) (fun cs hr m'=>by have hr:cs=x.c:=hr;subst hr;rfl) _ fun m20 hn20 ho20 hk20=>?_
  exact⟨.inl (flt _ _ _),by omega,eO m20 (fun c hc=>hk20 c (by omega)) (by omega),_,ho20.sl,by simp,_,_,_,rfl⟩
 rw[bE,aa,aj]
 refine ak (fun _=>?_) (fun _=>?_)
 ·have hml:(k+1)%l.length < l.length:=Nat.mod_lt _ (by omega)
  obtain⟨y,hy⟩:∃y,l[(k+1)%l.length]?=some y:=⟨_,List.getElem?_eq_getElem hml⟩
  obtain⟨a,e1,e2⟩:=ho4.sl.iJ (k:=.i64) hy
  obtain⟨b,p1,p2,p3,p4,p5,p6⟩:=qS rfl ho4 hkl cX
  rw[aG,aa,wrap64 (by omega) (by omega),ho4.sl.len cX,ar,show((k:Int)+1)=((k+1:Nat):Int) by omega,kG (by omega),aa,e1,aa,e2,aa,p1,aa]
  refine p6 y y.v _ gZ rfl rfl _ fun m34 hn34 ho34 hk34=>?_
  exact⟨.inl (flt _ _ _),by omega,eO m34 (fun c hc=>hk34 c (by omega)) (by omega),_,ho34.sl,by simp,_,_,_,rfl⟩
 rw[bE,aa,aj]
 have hcap:=Db (E:=TE) (T:=45) (ti:=af.t45) (e:=98) (n:=l.length) (i:=k) od rfl rfl (by decide) hgr (by omega)
 refine ak (fun _=>?_) (fun _=>?_)
 ·obtain⟨a',hs,ha'⟩:=jK (E:=TE) (T:=45) (ti:=af.t45) (e:=98) (o:=0) (n:=l.length) (c:=l.length) (j:=k+1) od rfl (by decide) hgr (.inr rfl) (Nat.le_refl _) (by omega)
  rw[hcap,aa,aG,aa,wrap64 (by omega) (by omega),show((k:Int)+1)=((k+1:Nat):Int) by omega,hs,aa]
  by_cases hlast:k+1=l.length
  ·rw[show l.length-(k+1)=0 by omega,append_nil kX (Nat.le_refl _) (by omega) (.inl ⟨_,_,rfl⟩),ar]
   have:=cut (m4.wl m4.n) Ext.refl.wl
   rw[hlk]at this
   refine⟨.inl (flt _ _ _),?_,eO _ (fun c hc=>rfl) (Nat.le_refl _),_,this,by rw[hlk];omega,_,_,_,rfl⟩
   rw[show(m4.wl m4.n).low=m4.n from rfl,hl4]
   omega
  ·rw[ha' (by omega)]
   have hgc:0+k*aL.sz Pl < cs.length:=by show 0+k*2 < cs.length;omega
   have hdl:(l.drop (k+1)).length=l.length-(k+1):=List.length_drop
   obtain⟨v',m1,e1,ho,hx1,hlw⟩:=jU kX hgr (.inr ⟨rfl,hgc⟩) (cut m4 .refl) (tail m4 (k+1) .refl (by omega)) (by rw[hlk,hdl];omega) (by rw[hlk,hdl];omega)
   rw[hlk]at e1
   rw[show(0+(k+1)*af.t45.es)=0+(k+1)*2 from rfl,e1,ar]
   have hn1:=hx1.n
   obtain⟨b1,rfl,_⟩:=jt ho (by intro h;have:=congrArg List.length h;rw[List.length_append,hdl]at this;simp at this;omega)
   refine⟨.inl (flt _ _ _),by rw[hlw];omega,eO m1 (fun c hc=>hx1.get c (by omega)) (by omega),_,ho.sl,by rw[List.length_append,hlk,hdl];omega,_,_,_,rfl⟩
 ·rw[hcap,aa]
  refine aC (pK hX ra (by decide)) ⟨Nat.le_refl _,?_⟩
  rw[cz,aa,cd rfl rfl,aa]
  have hbs:∀p:Pl,az TE m4 45 1 [(0,.agg (cells (Value.int .i64 p.x)++cells (Value.int .i64 p.y)).toArray)]=some (.slice (some ⟨m4.n,0,none⟩) 1 1,m4.push (.cells p.c 98 none)):=fun p=>Gt
  rw[hbs ⟨n,IntKind.i64.wrap (cM at_ 50-5)⟩,ar]
  obtain⟨p,hp⟩:∃p:Pl,p=⟨n,IntKind.i64.wrap (cM at_ 50-5)⟩:=⟨_,rfl⟩
  rw[<-hp]
  have hx49:Ext m4 (m4.push (.cells p.c 98 none)):=Ext.refl.push
  have hg49:(m4.push (.cells p.c 98 none)).get m4.n=.cells p.c 98 none:=M.aN
  generalize hm49:m4.push (.cells p.c 98 none)=m49 at*
  obtain⟨a',hs,ha'⟩:=jK (E:=TE) (T:=45) (ti:=af.t45) (e:=98) (o:=0) (n:=l.length) (c:=l.length) (j:=k) od rfl (by decide) (hx49.cells hgr) (.inr rfl) (Nat.le_refl _) (by omega)
  rw[hs,aa,ha' (by omega)]
  have hdl:(l.drop k).length=l.length-k:=List.length_drop
  obtain⟨v51,m52,e52,ho52,hx52,hl52⟩:=jU kX (l:=[p]) hg49 (.inl rfl) (tK hg49) (tail m49 k hx49 (by omega)) (by rw[hdl];simp;omega) (by rw[hdl];simp;omega)
  rw[show(0+k*af.t45.es)=0+k*2 from rfl,show Value.slice (some ⟨m4.n,0,none⟩) 1 1=Value.slice (some ⟨m4.n,0,none⟩) [p].length 1 from rfl,e52,ar]
  refine⟨by rw[hl52];exact Nat.le_refl _,?_⟩
  have hn49:=hx49.n
  have hn52:=hx52.n
  have hgc:0+k*aL.sz Pl < cs.length:=by show 0+k*2 < cs.length;omega
  have hyl:([p]++l.drop k).length=1+(l.length-k):=by rw[List.length_append,hdl];rfl
  obtain⟨v',m1,e1,ho,hx1,hlw⟩:=jU kX (hx52.cells (hx49.cells hgr)) (.inr ⟨rfl,hgc⟩) (cut m52 (hx49.trans hx52)) ho52.sl (by rw[hlk,hyl];omega) (by rw[hlk,hyl];omega)
  rw[hlk]at e1
  rw[e1,ar]
  have hn1:=hx1.n
  obtain⟨b1,rfl,_⟩:=jt ho (by intro h;have:=congrArg List.length h;rw[List.length_append,hyl]at this;simp at this)
  refine⟨.inl (flt _ _ _),by rw[hlw,hl52];omega,eO m1 (fun c hc=>by rw[hx1.get c (by omega),hx52.get c (by omega),hx49.get c (by omega)]) (by omega),_,ho.sl,by rw[List.length_append,hlk,hyl];omega,_,_,_,rfl⟩
theorem IK{mm:M}{bc rc lo:Nat}{u:Un}{w:Value}{R:List Value->M->Nat->Prop}(g:mm.get bc=.cells (u.c w) 87 none)(gr:mm.get rc=.cells Un.zc 87 none)(o:one w=true)
  (hR:∀m',m'.n=mm.n->(∀c,c≠rc->m'.get c=mm.get c)->R [u.v w] m' (min lo rc)):
  ah (ag TE mm 87 (.pointer (some ⟨bc,0,none⟩))) fun x=>aK (aw TE mm 87 (.pointer (some ⟨rc,0,none⟩)) x) fun m' b=>ah (ag TE m' 87 (.pointer (some ⟨rc,0,none⟩))) fun v=>R [v] m' (min lo b):=by
 rw[cU g,aa]
 refine aD jl gr rfl rfl (Un.ky o) fun m' hn' hg' hk'=>?_
 have hg':m'.get rc=.cells (u.c w) 87 none:=hg'
 rw[cU hg',aa]
 exact hR m' hn' hk'
set_option maxRecDepth 100000 in
theorem Ab(hX:cW X){u:Un}{w:Value}(hw:Sl m u.shape w)(hlen:2<=u.shape.length/\u.shape.length<=1000){how n at_:Int}(rh:fP how)(ra:fP at_):
  ∃(u':Un) (w':Value) (m':M),C X (.func 56) [u.v w,.int .i64 how,.int .i64 n,.int .i64 at_] m m.n (u'.v w') m'/\Ext m m'/\Sl m' u'.shape w'/\u'.shape.length<=u.shape.length+1:=by
 have hne:u.shape≠ []:=by intro h;rw[h]at hlen;simp at hlen
 have key:=Cl.heap (E:=TE) (X:=X) (f:=56) (args:=[u.v w,.int .i64 how,.int .i64 n,.int .i64 at_]) (m:=m) (R:=fun rv m' bb=>bb=m.n/\∃(u':Un) (w':Value),rv=u'.v w'/\Ext m m'/\Sl m' u'.shape w'/\u'.shape.length<=u.shape.length+1) (hX.no _ rfl) OL rfl ?_
 ·obtain⟨rv,m',bb,hc,rfl,u',w',rfl,hr⟩:=key
  exact⟨u',w',m',hc,hr⟩
 rw[YS];dsimp only[aI]
 refine au fun m1 hn1 hg1 hk1=>?_
 refine au fun m2 hn2 hg2 hk2=>?_
 have hx2:Ext m m2:=⟨by omega,fun c hc=>by rw[hk2 c (by omega),hk1 c hc]⟩
 have g1:m2.get m.n=.cells (u.c w) 87 none:=by rw[hk2 _ (by omega)];exact hg1
 have g2:m2.get m1.n=.cells Un.zc 87 none:=hg2
 unfold ptrTo
 rw[fZ,ar]
 have hx4:Ext m2 (m2.push (.cells [] 98 none)):=Ext.refl.push
 have hg4:(m2.push (.cells [] 98 none)).get m2.n=.cells [] 98 none:=M.aN
 generalize hm4:m2.push (.cells [] 98 none)=m4 at*
 obtain⟨-, -, -,l3, -, -⟩:=zv (hx4.cells g1)
 rw[cg,aa,l3,aa]
 obtain⟨v7,m8,e8,ho8,hx8,hl8⟩:=ir kX hg4 ((hw.aB hx2).aB hx4) hne (by omega)
 have n4:=hx4.n
 have n8:=hx8.n
 rw[e8,ar,aa]
 have g18:=hx8.cells (hx4.cells g1)
 have g28:=hx8.cells (hx4.cells g2)
 have o7:one v7=true:=ho8.sl.one
 refine bM od g18 (by rw[ho8.sl.cells];rfl) (by rw[ho8.sl.cells];simp) (by rw[ho8.sl.cells];simp[o7]) fun m10 hn10 hg10 hk10=>?_
 have hg10:m10.get m.n=.cells (u.c v7) 87 none:=by rw[hg10,ho8.sl.cells];rfl
 have g210:m10.get m1.n=.cells Un.zc 87 none:=by rw[hk10 _ (by omega)];exact g28
 have hx:∀c,c < m.n->m10.get c=m.get c:=fun c hc=>by rw[hk10 c (by omega),hx8.get c (by omega),hx4.get c (by omega),hx2.get c hc]
 refine aC (Dl hX rh (by decide)) ?_
 obtain⟨b7,rfl,hb7⟩:=jt ho8 hne
 have noU:∀{mm:M} {b:Nat} {cs c:List Value} {t:TypeId} {g g':Option Nat},mm.get b=.cells cs 87 g->mm.get b=.cells c t g'->t∈aL.ty Pl::aL.fR Pl->False:=fun h hb ht=>by
  rw[h]at hb
  cases hb
  revert ht
  decide
 have hs10:Sl m10 u.shape (.slice (some ⟨b7,0,none⟩) u.shape.length u.shape.length):=ho8.sl.bt fun b c t g hb ht=>by
  by_cases e:b=m.n
  ·subst e;exact(noU g18 hb ht).elim
  ·rw[hk10 b e,hb]
 have fin:∀(u':Un) (a:Addr) (p q:Nat) (mm:M) (lo:Nat),mm.get m.n=.cells (u'.c (.slice (some a) p q)) 87 none->mm.get m1.n=.cells Un.zc 87 none->Sl mm u'.shape (.slice (some a) p q)->u'.shape.length<=u.shape.length+1->
   (∀c,c < m.n->mm.get c=m.get c)->m.n<=mm.n->m.n<=lo->
   ah (ag TE mm 87 (.pointer (some ⟨m.n,0,none⟩))) fun x=>aK (aw TE mm 87 (.pointer (some ⟨m1.n,0,none⟩)) x) fun m' b=>ah (ag TE m' 87 (.pointer (some ⟨m1.n,0,none⟩))) fun v=>
    (bD (aR [v])=false\/min lo b < m.n)/\min m.n (min lo b)=m.n/\∃(u':Un) (w':Value),aR [v]=u'.v w'/\Ext m m'/\Sl m' u'.shape w'/\u'.shape.length<=u.shape.length+1:=fun u' a p q mm lo h1 h2 h3 h4 h5 h6 h7=>by
  refine IK (R:=fun vs m' lo=>(bD (aR vs)=false\/lo < m.n)/\min m.n lo=m.n/\∃(u':Un) (w':Value),aR vs=u'.v w'/\Ext m m'/\Sl m' u'.shape w'/\u'.shape.length<=u.shape.length+1) h1 h2 rfl fun m' hn' hk'=>?_
  refine⟨.inl (by show bD (u'.v (.slice (some a) p q))=false;simp[bD,eV,bP]),by omega,u',_,rfl,⟨by omega,fun c hc=>by rw[hk' c (by omega),h5 c hc]⟩,h3.bt fun b c t g hb ht=>?_,h4⟩
  by_cases e:b=m1.n
  ·subst e;exact(noU h2 hb ht).elim
  ·rw[hk' b e,hb]
 have put:∀(u':Un) (mm:M) (lo:Nat),u'.shape=u.shape->mm.n=m10.n->mm.get m.n=.cells (u'.c (.slice (some ⟨b7,0,none⟩) u.shape.length u.shape.length)) 87 none->(∀c,c≠m.n->mm.get c=m10.get c)->m.n<=lo->
   ah (ag TE mm 87 (.pointer (some ⟨m.n,0,none⟩))) fun x=>aK (aw TE mm 87 (.pointer (some ⟨m1.n,0,none⟩)) x) fun m' b=>ah (ag TE m' 87 (.pointer (some ⟨m1.n,0,none⟩))) fun v=>
    (bD (aR [v])=false\/min lo b < m.n)/\min m.n (min lo b)=m.n/\∃(u':Un) (w':Value),aR [v]=u'.v w'/\Ext m m'/\Sl m' u'.shape w'/\u'.shape.length<=u.shape.length+1:=fun u' mm lo hsh hn hg hk hlo=>by
  refine fin u' _ _ _ mm lo hg (by rw[hk _ (by omega)];exact g210) ?_ (by rw[hsh];omega) (fun c hc=>by rw[hk c (by omega),hx c hc]) (by omega) hlo
  rw[hsh]
  refine hs10.bt fun b c t g hb ht=>?_
  by_cases e:b=m.n
  ·subst e;exact(noU hg10 hb ht).elim
  ·rw[hk b e,hb]
 rw[bE,aa,aj]
 refine ak (fun _=>?_) (fun _=>?_)
 ·rw[ct,aa]
  exact bM kf hg10 rfl (by simp[cells]) rfl fun mm hn hg hk=>put ⟨n,u.kind,u.tm,u.shape,u.back,u.front⟩ mm _ rfl hn hg hk (by omega)
 rw[bE,aa,aj]
 refine ak (fun _=>?_) (fun _=>?_)
 ·rw[jy,aa]
  exact bM kf hg10 rfl (by simp[cells]) rfl fun mm hn hg hk=>put ⟨u.id,n,u.tm,u.shape,u.back,u.front⟩ mm _ rfl hn hg hk (by omega)
 rw[bE,aa,aj]
 refine ak (fun _=>?_) (fun _=>?_)
 ·rw[jx,aa]
  exact bM kf hg10 rfl (by simp[cells]) rfl fun mm hn hg hk=>put ⟨u.id,u.kind,n,u.shape,u.back,u.front⟩ mm _ rfl hn hg hk (by omega)
 rw[bE,aa,aj]
 refine ak (fun _=>?_) (fun _=>?_)
 ·rw[cI,aa]
  exact bM kf hg10 rfl (by simp[cells]) rfl fun mm hn hg hk=>put ⟨u.id,u.kind,u.tm,u.shape,n,u.front⟩ mm _ rfl hn hg hk (by omega)
 rw[bE,aa,aj]
 refine ak (fun _=>?_) (fun _=>?_)
 ·rw[cH,aa]
  exact bM kf hg10 rfl (by simp[cells]) rfl fun mm hn hg hk=>put ⟨u.id,u.kind,u.tm,u.shape,u.back,n⟩ mm _ rfl hn hg hk (by omega)
 obtain⟨-, -, -,l3', -, -⟩:=zv hg10
 rw[aa,l3',aa,eL (by decide),aa]
 obtain⟨l',v',m59,hc59,hx59,hs59,hll,a,p,q,rfl⟩:=Ac (m:=m10) hX hs10 hlen ra (jj _)
 refine aC hc59 ?_
 have n59:=hx59.n
 rw[aa]
 have g159:=hx59.cells hg10
 refine bM od g159 rfl (by simp[cells]) rfl fun m62 hn62 hg62 hk62=>?_
 refine fin ⟨u.id,u.kind,u.tm,l',u.back,u.front⟩ a p q m62 _ hg62 (by rw[hk62 _ (by omega)];exact hx59.cells g210) (hs59.bt fun b c t g hb ht=>?_) hll (fun c hc=>by rw[hk62 c (by omega),hx59.get c (by omega),hx c hc]) (by omega) (by omega)
 by_cases e:b=m.n
 ·subst e;exact(noU g159 hb ht).elim
 ·rw[hk62 b e,hb]
end Go.Proofs.YtmdfgncoekfgdaaGreatDoor
namespace Go.Proofs.YtmdfgncoekfgdaaGreatDoor
open Go Go.D
variable {X:aF} {m:M}
theorem cB.lt{us:List Un}(h:cB us):∀(d i:Nat) (a b:Un),us[i]?=some a->us[i+d+1]?=some b->a.id < b.id
 |0,i,a,b,ha,hb=>h.QN i a b ha hb
 |d+1,i,a,b,ha,hb=>by
  obtain⟨c,hc⟩:∃c,us[i+d+1]?=some c:=⟨_,List.getElem?_eq_getElem (by have:=(List.getElem?_eq_some_iff.1 hb).1;omega)⟩
  have h1:=h.lt d i a c ha hc
  have h2:=h.QN (i+d+1) c b hc (by rw[<-hb];congr 1)
  omega
theorem cB.VK{us:List Un}(h:cB us){i k:Nat}{a b:Un}(hik:i < k)(ha:us[i]?=some a)(hb:us[k]?=some b):a.id < b.id:=
 h.lt (k-i-1) i a b ha (by rw[<-hb];congr 1;omega)
end Go.Proofs.YtmdfgncoekfgdaaGreatDoor
namespace Go.Proofs.YtmdfgncoekfgdaaGreatDoor
open Go Go.D
variable {X:aF} {m:M}
theorem qM{u:Un}(h:nV u=true):aY u.shape=true:=by
 simp only[nV,Bool.and_eq_true]at h
 exact h.2
def mZ(us:List Un)(id:Int):Option Un:=us.find? fun u=>decide (u.id=id)
theorem HM{us:List Un}(hP:cB us){i:Nat}{a:Un}(h:us[i]?=some a):mZ us a.id=some a:=by
 unfold mZ
 cases e:us.find? fun u=>decide (u.id=a.id)with
 |none=>
  have:=List.find?_eq_none.1 e a (List.mem_of_getElem? h)
  simp at this
 |some b=>
  have h1:=List.find?_some e
  have h1:b.id=a.id:=by simpa using h1
  obtain⟨k,hk⟩:=List.getElem?_of_mem (List.mem_of_find?_eq_some e)
  rcases Nat.lt_trichotomy i k with hlt |rfl |hlt
  ·have:=hP.VK hlt h hk;omega
  ·rw[h]at hk;cases hk;rfl
  ·have:=hP.VK hlt hk h;omega
theorem JF(hX:cW X){l:List UW}{v:Value}(h:dS m l v)(hP:cB (bV l))(behind:Bool):
  ∃v' m',C X (.func 11) [.agg #[v],.bool behind] m m.n (.tuple #[cF 40 40 v',.int .i64 0]) m'/\Ext m m'/\Ow m.n m' (cJ (bV l) behind) v':=by
 have hl:l.length<=12:=by have:=hP.len;rwa[dY]at this
 have key:∃rv m' b,C X (.func 11) [.agg #[v],.bool behind] m b rv m'/\b=m.n/\∃v',rv=.tuple #[cF 40 40 v',.int .i64 0]/\Ext m m'/\Ow m.n m' (cJ (bV l) behind) v':=by
  refine Cl.heap (R:=fun rv m' b=>b=m.n/\∃v',rv=.tuple #[cF 40 40 v',.int .i64 0]/\Ext m m'/\Ow m.n m' (cJ (bV l) behind) v') (hX.no _ rfl) KD rfl ?_
  rw[VY];dsimp only[aI]
  refine au fun m1 hn1 hg1 hk1=>?_
  refine au fun m2 hn2 hg2 hk2=>?_
  have hx2:Ext m m2:=⟨by omega,fun c hc=>by rw[hk2 c (by omega),hk1 c hc]⟩
  have g1:m2.get m.n=.cells [v] 31 none:=by rw[hk2 _ (by omega)];exact hg1
  have hF:=h.aB hx2
  unfold ptrTo
  have ld:ag TE m2 31 (.pointer (some ⟨m.n,0,none⟩))=some (.agg #[v]):=by rw[cZ,aE g1 (by simp)];rfl
  rw[ld,aa]
  refine aC (je hX hF (by omega)) ?_
  rw[fM hP,aX,aa,aj,Bool.not_true,aM,ld,aa]
  obtain⟨v',m14,hc,hx14,ho⟩:=oS (m:=m2) hX (us:=bV l) (behind:=behind) (hF.sl.yA hF.sh) (fun u hu=>qM (hP.val u hu)) (by rw[dY];omega)
  refine aC hc ?_
  have n14:=hx14.n
  have g214:=hx14.cells hg2
  have hone:one v'=true:=ho.sl.one
  refine aD dw g214 rfl rfl (by show(true && (true && (one v' && true)))=true;rw[hone];rfl) fun m16 hn16 hg16 hk16=>?_
  have e2:ag TE m16 27 (.pointer (some ⟨m1.n,0,none⟩))=some (cF 40 40 v'):=by rw[bO,aE hg16 (by simp[aP])];rfl
  rw[e2,aa]
  have ho16:Ow m2.n m16 (cJ (bV l) behind) v':=ho.bt fun b c t g hb ht=>by
   by_cases hbm:b=m1.n
   ·subst hbm
    rw[g214]at hb
    cases hb
    simp[aL.ty,aL.fR]at ht
   ·rw[hk16 b hbm,hb]
  have hne:cJ (bV l) behind≠ []:=fun e=>by
   have:=congrArg List.length e
   unfold cJ at this
   rw[cy]at this
   simp at this
  refine⟨.inl ?_,by omega,v',rfl,⟨by omega,fun c hc=>by rw[hk16 c (by omega),hx14.get c (by omega),hx2.get c hc]⟩,ho16.mono (by omega)⟩
  rcases ho16 with⟨_,h0⟩ |⟨b,cs,rfl,_⟩
  ·exact absurd h0 hne
  ·simp[aR,bD,eV,bP,cF]
 obtain⟨rv,m',b,hc,rfl,v',rfl,h1,h2⟩:=key
 exact⟨v',m',hc,h1,h2⟩
end Go.Proofs.YtmdfgncoekfgdaaGreatDoor
namespace Go.Proofs.YtmdfgncoekfgdaaGreatDoor
open Go Go.D
variable {X:aF} {m:M}
set_option maxRecDepth 100000 in
theorem Aa(hX:cW X){l:List UW}{v:Value}(h:dS m l v)(hP:cB (bV l)){how n at_:Int}(rh:fP how)(rn:fP n)(ra:fP at_):
  ∃(l':List UW) (r:Value) (m':M),C X (.func 10) [.agg #[v],.int .i64 how,.int .i64 n,.int .i64 at_] m m.n (.agg #[r]) m'/\Ext m m'/\dS m' l' r/\l'.length<=l.length+1:=by
 have hl12:l.length<=12:=by have:=hP.len;rwa[dY]at this
 have key:=Cl.heap (E:=TE) (X:=X) (f:=10) (args:=[.agg #[v],.int .i64 how,.int .i64 n,.int .i64 at_]) (m:=m) (R:=fun rv m' bb=>bb=m.n/\∃(l':List UW) (r:Value),rv=.agg #[r]/\Ext m m'/\dS m' l' r/\l'.length<=l.length+1) (hX.no _ rfl) O2 rfl ?_
 ·obtain⟨rv,m',bb,hc,rfl,l',r,rfl,hr⟩:=key
  exact⟨l',r,m',hc,hr⟩
 rw[Y9];dsimp only[aI]
 refine au fun m1 hn1 hg1 hk1=>?_
 refine au fun m2 hn2 hg2 hk2=>?_
 have hx2:Ext m m2:=⟨by omega,fun c hc=>by rw[hk2 c (by omega),hk1 c hc]⟩
 have g1:m2.get m.n=.cells [v] 31 none:=by rw[hk2 _ (by omega)];exact hg1
 have ldF:∀{mm:M} {b:Nat} {r:Value},mm.get b=.cells [r] 31 none->ag TE mm 31 (.pointer (some ⟨b,0,none⟩))=some (.agg #[r]):=fun h=>by rw[cZ,aE h (by simp)];rfl
 have ldU:∀{mm:M} {b:Nat} {r:Value},mm.get b=.cells [r] 31 none->ag TE mm 29 (.pointer (some ⟨b,0+0,none⟩))=some r:=fun h=>by rw[gX,av h];rfl
 unfold ptrTo
 rw[ldF g1,aa]
 obtain⟨acc,r,m5,hc5,hx5,hus,ho5,hs5,hln5⟩:=zY (m:=m2) hX (h.aB hx2) (by omega)
 refine aC hc5 ?_
 have n5:=hx5.n
 refine au fun m7 hn7 hg7 hk7=>?_
 obtain⟨oc,hoc⟩:∃oc,oc=m5.n:=⟨_,rfl⟩
 rw[<-hoc]at hg7⊢
 have or:one r=true:=ho5.sl.one
 refine aD kZ hg7 rfl rfl (by show(one r && true)=true;rw[or];rfl) fun m8 hn8 hg8 hk8=>?_
 have hg8:m8.get oc=.cells [r] 31 none:=hg8
 have hk:∀c,c < oc->m8.get c=m5.get c:=fun c hc=>by rw[hk8 c (by omega),hk7 c (by omega)]
 have hx8:Ext m5 m8:=⟨by omega,fun c hc=>hk c (by omega)⟩
 have ho8:=ho5.aB hx8
 have hs8:∀x∈acc,Sl m8 x.u.shape x.w:=fun x hx=>(hs5 x hx).aB hx8
 have gz:m8.get m1.n=.cells [.slice none 0 0] 31 none:=by rw[hk _ (by omega),hx5.get _ (by omega)];exact hg2
 have hold:∀c,c < m.n->m8.get c=m.get c:=fun c hc=>by rw[hk c (by omega),hx5.get c (by omega),hx2.get c hc]
 have hal:acc.length=l.length:=by have:=congrArg List.length hus;rwa[dY,dY]at this
 have n8:m8.n=oc+1:=by omega
 have notF:∀{mm:M} {b:Nat} {cs c:List Value} {t:TypeId} {g g':Option Nat},mm.get b=.cells cs 31 g->mm.get b=.cells c t g'->(t=87\/t=98)->False:=fun h hb ht=>by
  rw[h]at hb
  cases hb
  revert ht
  decide
 have fin:∀(acc':List UW) (r':Value) (mm:M) (lo:Nat),mm.get oc=.cells [r'] 31 none->mm.get m1.n=.cells [.slice none 0 0] 31 none->dS mm acc' r'->(∃a p q,r'=.slice (some a) p q)->acc'.length<=l.length+1->(∀c,c < m.n->mm.get c=m.get c)->m.n<=mm.n->m.n<=lo->
   ah (ag TE mm 31 (.pointer (some ⟨oc,0,none⟩))) fun x=>aK (aw TE mm 31 (.pointer (some ⟨m1.n,0,none⟩)) x) fun m' b=>ah (ag TE m' 31 (.pointer (some ⟨m1.n,0,none⟩))) fun u=>
    (bD (aR [u])=false\/min lo b < m.n)/\min m.n (min lo b)=m.n/\∃(l':List UW) (r:Value),aR [u]=.agg #[r]/\Ext m m'/\dS m' l' r/\l'.length<=l.length+1:=fun acc' r' mm lo h1 h2 h3 h4 h5 h6 h7 h8=>by
  rw[ldF h1,aa]
  refine aD kZ h2 rfl rfl (by show(one r' && true)=true;rw[h3.sl.one];rfl) fun m' hn' hg' hk'=>?_
  have hg':m'.get m1.n=.cells [r'] 31 none:=hg'
  rw[ldF hg',aa]
  obtain⟨a,p,q,rfl⟩:=h4
  refine⟨.inl rfl,by omega,acc',_,rfl,⟨by omega,fun c hc=>by rw[hk' c (by omega),h6 c hc]⟩,h3.bt fun c cs t g hb ht=>?_,h5⟩
  have:c≠m1.n:=fun e=>by subst e;exact notF h2 hb ht
  rw[hk' c this,hb]
 rw[cx,aa,ldU hg8,aa,ho8.sl.len eo,ar,bE,aa,aj]
 refine ak (fun _=>?_) (fun hne0=>?_)
 ·have hbld:aO TE 87 [(0,.int .i64 n)]=some (UW.v ⟨⟨n,0,0,[],0,0⟩,.slice none 0 0⟩):=AW rfl
  rw[hbld,aa,oF,ar]
  have hx16:Ext m8 (m8.push (.cells (UW.c ⟨⟨n,0,0,[],0,0⟩,.slice none 0 0⟩) 87 none)):=Ext.refl.push
  have hg16:(m8.push (.cells (UW.c ⟨⟨n,0,0,[],0,0⟩,.slice none 0 0⟩) 87 none)).get m8.n=.cells (UW.c ⟨⟨n,0,0,[],0,0⟩,.slice none 0 0⟩) 87 none:=M.aN
  have hn16:(m8.push (.cells (UW.c ⟨⟨n,0,0,[],0,0⟩,.slice none 0 0⟩) 87 none)).n=m8.n+1:=rfl
  generalize hm16:m8.push (.cells (UW.c ⟨⟨n,0,0,[],0,0⟩,.slice none 0 0⟩) 87 none)=m16 at*
  have hb31:aO TE 31 [(0,.slice (some ⟨m8.n,0,none⟩) 1 1)]=some (.agg #[.slice (some ⟨m8.n,0,none⟩) 1 1]):=AX rfl
  rw[hb31,aa]
  have gz16:=hx16.cells gz
  refine aD kZ gz16 rfl rfl rfl fun m' hn' hg' hk'=>?_
  have hg':m'.get m1.n=.cells [.slice (some ⟨m8.n,0,none⟩) 1 1] 31 none:=hg'
  rw[ldF hg',aa]
  have hg8':m'.get m8.n=.cells (UW.c ⟨⟨n,0,0,[],0,0⟩,.slice none 0 0⟩) 87 none:=by rw[hk' _ (by omega)];exact hg16
  refine⟨.inl rfl,by omega,[⟨⟨n,0,0,[],0,0⟩,.slice none 0 0⟩],_,rfl,⟨by omega,fun c hc=>by rw[hk' c (by omega),hx16.get c (by omega),hold c hc]⟩,⟨kg hg8' rfl,fun x hx=>?_,fun x hx=>?_,.inr ⟨m8.n,0,1,_,_,rfl,Nat.le_refl _,hg8',.inl rfl⟩⟩,by simp⟩
  ·rw[List.mem_singleton]at hx;subst hx;exact .nil
  ·rw[List.mem_singleton]at hx;subst hx;show 0 < 1000000;omega
 have hpos:0 < acc.length:=by
  have:¬(acc.length:Int)=0:=of_decide_eq_false hne0
  omega
 have hane:acc≠ []:=List.length_pos_iff.1 hpos
 obtain⟨rb,hr,hrb⟩:=jt ho5 hane
 have rsome:∃a p q,r=.slice (some a) p q:=⟨_,_,_,hr⟩
 rw[aa,ldU hg8,aa,ho8.sl.len eo,ar]
 refine aC (cR hX ra (by omega)) ?_
 have pk:=fw (c:=at_) (n:=(acc.length:Int)) (by omega)
 obtain⟨k,hk'⟩:∃k:Nat,cM at_ acc.length=(k:Int):=⟨(cM at_ acc.length).toNat,by omega⟩
 rw[hk']at pk⊢
 have hkl:k < acc.length:=by omega
 obtain⟨x,hx⟩:∃x,acc[k]?=some x:=⟨_,List.getElem?_eq_getElem hkl⟩
 have hxm:=List.mem_of_getElem? hx
 obtain⟨q,q1,q2,oxw⟩:=ho8.sl.lv (k:=.i64) hx
 have hval:∀y∈acc,aY y.u.shape=true:=fun y hy=>qM (hP.val y.u (by rw[<-hus];exact List.mem_map.2 ⟨y,hy,rfl⟩))
 have hshx:=dD (hval x hxm)
 refine aC (cR hX rh (by decide)) ?_
 rw[bE,aa,aj]
 have setS:∀(mm:M) (y:UW) (acc2:List UW) (j:Nat),(∀z∈acc2,Sl mm z.u.shape z.w/\z.u.shape.length < 1000000)->Sl mm y.u.shape y.w->y.u.shape.length < 1000000->∀z∈acc2.set j y,Sl mm z.u.shape z.w/\z.u.shape.length < 1000000:=fun mm y acc2 j h1 h2 h3 z hz=>by
  rcases List.mem_or_eq_of_mem_set hz with hz |rfl
  ·exact h1 z hz
  ·exact⟨h2,h3⟩
 have notU:∀{mm:M} {b:Nat} {cs c:List Value} {t:TypeId} {g g':Option Nat},mm.get b=.cells cs 87 g->mm.get b=.cells c t g'->t∈aL.ty Pl::aL.fR Pl->False:=fun h hb ht=>by
  rw[h]at hb
  cases hb
  revert ht
  decide
 refine ak (fun _=>?_) (fun _=>?_)
 ·rw[aa,ldU hg8,aa,aa,ldU hg8,aa,q1,aa,q2,aa,eL (by decide),aa,eL (by decide),aa]
  obtain⟨u',w',m40,hc40,hx40,hs40,hl40⟩:=Ab (m:=m8) (n:=n) hX (hs8 x hxm) (by omega) (jj (how.tdiv 4)) (jj (at_.tdiv 12))
  refine aC hc40 ⟨Nat.le_refl _,?_⟩
  have n40:=hx40.n
  obtain⟨b,p1,p2,p3,⟨cs,g,p4⟩,p5,p6⟩:=qS rfl (ho8.aB hx40) hkl eo
  obtain rfl:q=.pointer (some ⟨b,0+k*aL.sz UW,none⟩):=Option.some.inj (q1.symm.trans (p1 _))
  rw[aa]
  refine p6 ⟨u',w'⟩ (u'.v w') _ jl rfl ⟨rfl,hs40.one⟩ _ fun m43 hn43 ho43 hk43=>?_
  have hboc:b≠oc:=fun e=>by
   subst e
   rw[hx40.cells hg8]at p4
   cases p4
  have hbrc:b≠m1.n:=by omega
  have kS:∀(shp:List Pl) (z:Value),Sl m40 shp z->Sl m43 shp z:=fun shp z hz=>hz.bt fun c cs' t g' hb ht=>by
   by_cases e:c=b
   ·subst e;exact(notU p4 hb ht).elim
   ·rw[hk43 c e,hb]
  have hall:=setS m43 ⟨u',w'⟩ acc k (fun z hz=>⟨kS _ _ ((hs8 z hz).aB hx40),hln5 z hz⟩) (kS _ _ hs40) (by show u'.shape.length < 1000000;omega)
  refine fin (acc.set k ⟨u',w'⟩) r m43 _ (by rw[hk43 _ (Ne.symm hboc)];exact hx40.cells hg8) (by rw[hk43 _ (Ne.symm hbrc)];exact hx40.cells gz) (vT ho43 (fun z hz=>(hall z hz).1) fun z hz=>(hall z hz).2) rsome (by rw[List.length_set];omega) (fun c hc=>by rw[hk43 c (by omega),hx40.get c (by omega),hold c hc]) (by omega) (by omega)
 rw[bE,aa,aj]
 refine ak (fun _=>?_) (fun _=>?_)
 ·rw[aa,ldU hg8,aa,aa,ldU hg8,aa,q1,aa,q2,aa]
  obtain⟨w',m57,hc57,hx57,hs57⟩:=uA (m:=m8) hX (hs8 x hxm) (hln5 x hxm)
  refine aC hc57 ⟨Nat.le_refl _,?_⟩
  have n57:=hx57.n
  have e60:az TE m57 29 1 [(0,x.u.v w')]=some (.slice (some ⟨m57.n,0,none⟩) 1 1,m57.push (.cells (UW.c ⟨x.u,w'⟩) 87 none)):=oF (x:=⟨x.u,w'⟩)
  rw[e60,ar]
  have hx60:Ext m57 (m57.push (.cells (UW.c ⟨x.u,w'⟩) 87 none)):=Ext.refl.push
  have hg60:(m57.push (.cells (UW.c ⟨x.u,w'⟩) 87 none)).get m57.n=.cells (UW.c ⟨x.u,w'⟩) 87 none:=M.aN
  have hn60:(m57.push (.cells (UW.c ⟨x.u,w'⟩) 87 none)).n=m57.n+1:=rfl
  generalize hm60:m57.push (.cells (UW.c ⟨x.u,w'⟩) 87 none)=m60 at*
  have hx860:=hx57.trans hx60
  obtain⟨r',m62,e62,ho62,hf62,hl62,_⟩:=(ho8.aB hx860).append wz (by simp[aL.fR]) (kg hg60 hs57.one) (by omega) (by simp;omega)
  have n62:=hf62.n
  rw[e62,ar,aa]
  have hoth:∀c,c < m60.n->c≠rb->m62.get c=m60.get c:=fun c hc hne'=>fj e62 hc fun a n' k' e=>by rw[hr]at e;cases e;exact hne'
  obtain⟨csr,gr,hgr,_⟩:=xV (ho8.aB hx860) hr
  have hgr:m60.get rb=.cells csr 87 gr:=hgr
  have hrbo:rb≠oc:=fun e=>by
   subst e
   rw[hx860.cells hg8]at hgr
   cases hgr
  have g62:m62.get oc=.cells [r] 31 none:=by rw[hoth oc (by omega) (Ne.symm hrbo)];exact hx860.cells hg8
  refine bM FK g62 (by rw[ho62.sl.cells];rfl) (by rw[ho62.sl.cells];simp) (by rw[ho62.sl.cells];simp[ho62.sl.one]) fun m64 hn64 hg64 hk64=>?_
  rw[ho62.sl.cells]at hg64
  have hg64:m64.get oc=.cells [r'] 31 none:=hg64
  have hrb1:m1.n≠rb:=by omega
  have kS:∀(shp:List Pl) (z:Value),Sl m60 shp z->Sl m64 shp z:=fun shp z hz=>hz.bt fun c cs' t g' hb ht=>by
   have hcn:=M.aV hb
   have h1:c≠rb:=fun e=>by subst e;exact(notU hgr hb ht).elim
   have h2:c≠oc:=fun e=>by
    subst e
    exact notF (hx860.cells hg8) hb (.inr (by simpa[aL.ty,aL.fR]using ht))
   rw[hk64 c h2,hoth c hcn h1,hb]
  have ho64:Ow m2.n m64 (acc++ [⟨x.u,w'⟩]) r':=ho62.bt fun c cs' t g' hb ht=>by
   have h2:c≠oc:=fun e=>by
    subst e
    exact notF g62 hb (.inl (by simpa[aL.ty,aL.fR]using ht))
   rw[hk64 c h2,hb]
  obtain⟨rb',hr',_⟩:=jt ho62 (by simp)
  refine fin (acc++ [⟨x.u,w'⟩]) r' m64 _ hg64 (by rw[hk64 _ (by omega),hoth _ (by omega) hrb1];exact hx860.cells gz) (vT ho64 (fun z hz=>?_) fun z hz=>?_) ⟨_,_,_,hr'⟩ (by simp;omega) (fun c hc=>by rw[hk64 c (by omega),hoth c (by omega) (by omega),hx860.get c (by omega),hold c hc]) (by omega) (by omega)
  ·rcases List.mem_append.1 hz with hz |hz
   ·exact kS _ _ ((hs8 z hz).aB hx860)
   ·rw[List.mem_singleton]at hz;subst hz;exact kS _ _ (hs57.aB hx60)
  ·rcases List.mem_append.1 hz with hz |hz
   ·exact hln5 z hz
   ·rw[List.mem_singleton]at hz;subst hz;exact hln5 x hxm
 rw[bE,aa,aj]
 refine ak (fun _=>?_) (fun _=>?_)
 ·obtain⟨b,p1,p2,⟨cs,g,p3⟩,p4,⟨cs5,p5a,p5b⟩,p6⟩:=uX rfl ho8 hx eo
  obtain rfl:q=.pointer (some ⟨b,0+k*aL.sz UW,none⟩):=Option.some.inj (q1.symm.trans (p1 _))
  have hc5:cs5=x.c:=p5a.1
  subst hc5
  have l3:ag TE m8 45 (.pointer (some ⟨b,0+k*aL.sz UW+3,none⟩))=some x.w:=by rw[kO,p5b 3 (by decide)];rfl
  rw[aa,ldU hg8,aa,aa,ldU hg8,aa,q1,aa,cg,aa,l3,aa]
  refine aC (cR hX rn (by decide)) ⟨Nat.le_refl _,?_⟩
  rw[cz,aa,eL (by decide),aa]
  refine aC (cR hX (jj _) (by decide)) ⟨Nat.le_refl _,?_⟩
  rw[cz,aa]
  obtain⟨l',v',e',m88,hc88,hx88,hs88,hl88⟩:=zU (m:=m8) (dx:=IntKind.i64.wrap (cM n 9-4)) (dy:=IntKind.i64.wrap (cM (IntKind.i64.wrap (n.tdiv 9)) 9-4)) hX (hs8 x hxm) (by omega)
  refine aC hc88 ⟨Nat.le_refl _,?_⟩
  have n88:=hx88.n
  rw[bw,bw]
  simp only[List.getElem?_cons_zero,List.getElem?_cons_succ,aa]
  obtain⟨b',p1',p2',⟨cs',g',p3'⟩,p4',_,p6'⟩:=uX rfl (ho8.aB hx88) hx eo
  obtain rfl:b=b':=by
   have:=(p1 .i64).symm.trans (p1' .i64)
   simp at this
   exact this
  rw[cg,aa]
  refine p6' 3 45 _ ⟨⟨x.u.id,x.u.kind,x.u.tm,l',x.u.back,x.u.front⟩,v'⟩ v' od rfl hs88.cells hs88.one (by decide) (fun cs hr' m'=>by have hr':cs=x.c:=hr'.1;subst hr';exact⟨rfl,hs88.one⟩) _ fun m94 hn94 ho94 hk94=>?_
  have hboc:b≠oc:=fun e=>by
   subst e
   rw[hg8]at p3
   cases p3
  have hbrc:b≠m1.n:=by omega
  have kS:∀(shp:List Pl) (z:Value),Sl m88 shp z->Sl m94 shp z:=fun shp z hz=>hz.bt fun c cs' t g' hb ht=>by
   by_cases e:c=b
   ·subst e;exact(notU p3' hb ht).elim
   ·rw[hk94 c e,hb]
  have hall:=setS m94 ⟨⟨x.u.id,x.u.kind,x.u.tm,l',x.u.back,x.u.front⟩,v'⟩ acc k (fun z hz=>⟨kS _ _ ((hs8 z hz).aB hx88),hln5 z hz⟩) (kS _ _ hs88) (by show l'.length < 1000000;omega)
  refine fin _ r m94 _ (by rw[hk94 _ (Ne.symm hboc)];exact hx88.cells hg8) (by rw[hk94 _ (Ne.symm hbrc)];exact hx88.cells gz) (vT ho94 (fun z hz=>(hall z hz).1) fun z hz=>(hall z hz).2) rsome (by rw[List.length_set];omega) (fun c hc=>by rw[hk94 c (by omega),hx88.get c (by omega),hold c hc]) (by omega) (by omega)
 ·obtain⟨x0,hx0⟩:∃x,acc[0]?=some x:=⟨_,List.getElem?_eq_getElem hpos⟩
  have hx0m:=List.mem_of_getElem? hx0
  obtain⟨q',q1',q2',ox0⟩:=ho8.sl.lv (k:=.i64) hx0
  have q1':ai TE 29 r (.int .i64 0)=some q':=q1'
  obtain⟨b,p1,p2,p3,⟨cs,g,p4⟩,p5,p6⟩:=qS rfl ho8 hpos eo
  have p1z:ai TE 29 r (.int .i64 0)=some (.pointer (some ⟨b,0+0*aL.sz UW,none⟩)):=p1 .i64
  obtain rfl:q'=.pointer (some ⟨b,0+0*aL.sz UW,none⟩):=Option.some.inj (q1'.symm.trans p1z)
  have hboc:b≠oc:=fun e=>by
   subst e
   rw[hg8]at p4
   cases p4
  simp only[aa,ldU hg8,q1,q2,q1',q2']
  refine p6 x x.v _ jl rfl ⟨rfl,oxw⟩ _ fun m113 hn113 ho113 hk113=>⟨.inr ⟨Ne.symm hboc,trivial⟩,?_⟩
  obtain⟨b',p1',p2',p3',⟨cs',g',p4'⟩,p5',p6'⟩:=qS rfl ho113 (i:=k) (by rw[List.length_set];exact hkl) eo
  obtain rfl:q=.pointer (some ⟨b',0+k*aL.sz UW,none⟩):=Option.some.inj (q1.symm.trans (p1' _))
  have hb':b'=b:=by
   have e1:=p5 _ _ _ hr
   have e2:=p5' _ _ _ hr
   exact e2.symm.trans e1
  subst hb'
  refine p6' x0 x0.v _ jl rfl ⟨rfl,ox0⟩ _ fun m116 hn116 ho116 hk116=>?_
  have kS:∀(shp:List Pl) (z:Value),Sl m8 shp z->Sl m116 shp z:=fun shp z hz=>hz.bt fun c cs' t g' hb ht=>by
   by_cases e:c=b'
   ·subst e;exact(notU p4 hb ht).elim
   ·rw[hk116 c e,hk113 c e,hb]
  have h1:=setS m116 x acc 0 (fun z hz=>⟨kS _ _ (hs8 z hz),hln5 z hz⟩) (kS _ _ (hs8 x hxm)) (hln5 x hxm)
  have hall:=setS m116 x0 (acc.set 0 x) k h1 (kS _ _ (hs8 x0 hx0m)) (hln5 x0 hx0m)
  refine fin _ r m116 _ (by rw[hk116 _ (Ne.symm hboc),hk113 _ (Ne.symm hboc)];exact hg8) (by rw[hk116 _ (by omega),hk113 _ (by omega)];exact gz) (vT ho116 (fun z hz=>(hall z hz).1) fun z hz=>(hall z hz).2) rsome (by rw[List.length_set,List.length_set];omega) (fun c hc=>by rw[hk116 c (by omega),hk113 c (by omega),hold c hc]) (by omega) (by omega)
end Go.Proofs.YtmdfgncoekfgdaaGreatDoor
namespace Go.Proofs.YtmdfgncoekfgdaaGreatDoor
open Go Go.D
set_option maxRecDepth 100000 in
theorem Y0{W:Words}{x0:Value}{m:M}{R:List Value->M->Nat->Prop}:dt TE W Tryz.f26 [x0] m R=
(W.bW (M.push m (.cells (cells x0) 27 none)) fun a=>W.jn (fun b=>W.ah (ae TE 27 (ptrTo m.n) 0) fun c=>W.ah (ag TE a 3 c) fun d=>W.ah (aq TE .lss 3 d (.int .i64 1)) fun f=>aW f
(b [(.bool true)] a m.n)
(W.ah (ae TE 27 (ptrTo m.n) 0) fun g=>W.ah (ag TE a 3 g) fun h=>W.ah (aq TE .gtr 3 h (.int .i64 40)) fun i=>aW i
(b [(.bool true)] a m.n)
(W.ah (ae TE 27 (ptrTo m.n) 1) fun j=>W.ah (ag TE a 3 j) fun k=>W.ah (aq TE .lss 3 k (.int .i64 1)) fun l=>aW l
(b [(.bool true)] a m.n)
(W.ah (ae TE 27 (ptrTo m.n) 1) fun n=>W.ah (ag TE a 3 n) fun o=>W.ah (aq TE .gtr 3 o (.int .i64 40)) fun p=>aW p
(b [(.bool true)] a m.n)
(W.ah (ae TE 27 (ptrTo m.n) 2) fun q=>W.ah (ag TE a 25 q) fun r=>W.aK (an TE a .len [25] [r]) fun s _=>W.ah (ae TE 27 (ptrTo m.n) 0) fun t=>W.ah (ag TE a 3 t) fun u=>W.ah (ae TE 27 (ptrTo m.n) 1) fun v=>W.ah (ag TE a 3 v) fun w=>W.ah (aq TE .mul 3 u w) fun y=>W.ah (aq TE .neq 3 s y) fun z=>b [z] a m.n)))))
(fun A B C=>W.un A fun D E=>aW D
(R [(.bool false)] B C)
(W.Lp (fun F G H I=>W.un G fun J K=>W.un K fun L N=>W.ah (ae TE 27 (ptrTo m.n) 2) fun O=>W.ah (ag TE H 25 O) fun P=>W.aK (an TE H .len [25] [P]) fun Q _=>W.ah (aq TE .lss 3 L Q) fun S=>aW S
(W.jn (fun T=>W.ah (ae TE 27 (ptrTo m.n) 2) fun U=>W.ah (ag TE H 25 U) fun V=>W.ah (ai TE 25 V L) fun X=>W.ah (ag TE H 3 X) fun Y=>W.ah (aq TE .lss 3 Y (.int .i64 (-1))) fun Z=>aW Z
(T [(.bool true)] H I)
(W.ah (ae TE 27 (ptrTo m.n) 2) fun a0=>W.ah (ag TE H 25 a0) fun a1=>W.ah (ai TE 25 a1 L) fun a2=>W.ah (ag TE H 3 a2) fun a3=>W.ah (aq TE .gtr 3 a3 (.int .i64 99)) fun a4=>T [a4] H I))
(fun a5 a6 a7=>W.un a5 fun a8 a9=>aW a8
(R [(.bool false)] a6 a7)
(W.ah (aq TE .add 3 L (.int .i64 1)) fun b0=>F [J,b0] a6 a7)))
(R [(.bool true)] H I)) [(.bool false),(.int .i64 0)] B C))):=by kernel_rfl
set_option maxRecDepth 100000 in
theorem Yw{W:Words}{x0:Value}{m:M}{R:List Value->M->Nat->Prop}:dt TE W Tryz.f80 [x0] m R=
(W.ah (aq TE .lss 3 x0 (.int .i64 0)) fun a=>aW a
(R [(.string ⟨#[46,46]⟩)] m m.n)
(W.ah (aq TE .quo 3 x0 (.int .i64 10)) fun b=>W.ah (aq TE .add 3 (.int .i64 48) b) fun c=>W.ah (tb TE m 3 5 c) fun d=>W.ah (aq TE .rem 3 x0 (.int .i64 10)) fun f=>W.ah (aq TE .add 3 (.int .i64 48) f) fun g=>W.ah (tb TE m 3 5 g) fun h=>W.aK (az TE m 52 2 [(0,d),(1,h)]) fun i j=>W.ah (tb TE j 52 9 i) fun k=>R [k] j m.n)):=by kernel_rfl
set_option maxRecDepth 100000 in
theorem VS{W:Words}{x0:Value}{m:M}{R:List Value->M->Nat->Prop}:dt TE W Tryz.f24 [x0] m R=
(W.bW (M.push m (.cells (cells x0) 27 none)) fun a=>W.ah (ag TE a 27 (ptrTo m.n)) fun b=>W.bz (.func 26) [b] a fun c d f=>W.ah (fK .not c) fun g=>aW g
(R [(.string ⟨#[]⟩),(.int .i64 410)] d (min m.n f))
(W.ah (ae TE 27 (ptrTo m.n) 1) fun h=>W.ah (ag TE d 3 h) fun i=>W.ah (aq TE .sub 3 i (.int .i64 1)) fun j=>W.Lp (fun k l n o=>W.un l fun p q=>W.un q fun r s=>W.ah (aq TE .geq 3 r (.int .i64 0)) fun t=>aW t
(W.Lp (fun u v w y=>W.un v fun z A=>W.un A fun B C=>W.ah (ae TE 27 (ptrTo m.n) 0) fun D=>W.ah (ag TE w 3 D) fun E=>W.ah (aq TE .lss 3 B E) fun F=>aW F
(W.ah (ae TE 27 (ptrTo m.n) 2) fun G=>W.ah (ag TE w 25 G) fun H=>W.ah (ae TE 27 (ptrTo m.n) 0) fun I=>W.ah (ag TE w 3 I) fun J=>W.ah (aq TE .mul 3 r J) fun K=>W.ah (aq TE .add 3 K B) fun L=>W.ah (ai TE 25 H L) fun N=>W.ah (ag TE w 3 N) fun O=>W.bz (.func 80) [O] w fun P Q S=>W.ah (aq TE .add 9 z P) fun T=>W.ah (aq TE .add 3 B (.int .i64 1)) fun U=>u [T,U] Q (min y S))
(W.ah (aq TE .add 9 p z) fun V=>W.ah (aq TE .add 9 V (.string ⟨#[10]⟩)) fun X=>W.ah (aq TE .sub 3 r (.int .i64 1)) fun Y=>k [X,Y] w y)) [(.string ⟨#[]⟩),(.int .i64 0)] n o)
(R [p,(.int .i64 0)] n o)) [(.string ⟨#[]⟩),j] d (min m.n f))):=by kernel_rfl
set_option maxRecDepth 100000 in
theorem VU{W:Words}{x0 x1:Value}{m:M}{R:List Value->M->Nat->Prop}:dt TE W Tryz.f22 [x0,x1] m R=
(W.bW (M.push m (.cells (cells x0) 27 none)) fun a=>W.bW (M.push a (.cells (cells x1) 27 none)) fun b=>W.jn (fun c=>W.ah (ag TE b 27 (ptrTo m.n)) fun d=>W.bz (.func 26) [d] b fun f g h=>W.ah (fK .not f) fun i=>aW i
(c [(.bool true)] g (min m.n h))
(W.ah (ag TE g 27 (ptrTo a.n)) fun j=>W.bz (.func 26) [j] g fun k l n=>W.ah (fK .not k) fun o=>aW o
(c [(.bool true)] l (min (min m.n h) n))
(W.ah (ae TE 27 (ptrTo m.n) 0) fun p=>W.ah (ag TE l 3 p) fun q=>W.ah (ae TE 27 (ptrTo a.n) 0) fun r=>W.ah (ag TE l 3 r) fun s=>W.ah (aq TE .neq 3 q s) fun t=>aW t
(c [(.bool true)] l (min (min m.n h) n))
(W.ah (ae TE 27 (ptrTo m.n) 1) fun u=>W.ah (ag TE l 3 u) fun v=>W.ah (ae TE 27 (ptrTo a.n) 1) fun w=>W.ah (ag TE l 3 w) fun y=>W.ah (aq TE .neq 3 v y) fun z=>c [z] l (min (min m.n h) n)))))
(fun A B C=>W.un A fun D E=>aW D
(R [(.slice none 0 0),(.int .i64 410)] B C)
(W.Lp (fun F G H I=>W.un G fun J K=>W.un K fun L N=>W.ah (ae TE 27 (ptrTo m.n) 1) fun O=>W.ah (ag TE H 3 O) fun P=>W.ah (aq TE .lss 3 L P) fun Q=>aW Q
(W.Lp (fun S T U V=>W.un T fun X Y=>W.un Y fun Z a0=>W.ah (ae TE 27 (ptrTo m.n) 0) fun a1=>W.ah (ag TE U 3 a1) fun a2=>W.ah (aq TE .lss 3 Z a2) fun a3=>aW a3
(W.ah (ae TE 27 (ptrTo m.n) 2) fun a4=>W.ah (ag TE U 25 a4) fun a5=>W.ah (ae TE 27 (ptrTo m.n) 0) fun a6=>W.ah (ag TE U 3 a6) fun a7=>W.ah (aq TE .mul 3 L a7) fun a8=>W.ah (aq TE .add 3 a8 Z) fun a9=>W.ah (ai TE 25 a5 a9) fun b0=>W.ah (ag TE U 3 b0) fun b1=>W.ah (ae TE 27 (ptrTo a.n) 2) fun b2=>W.ah (ag TE U 25 b2) fun b3=>W.ah (ae TE 27 (ptrTo m.n) 0) fun b4=>W.ah (ag TE U 3 b4) fun b5=>W.ah (aq TE .mul 3 L b5) fun b6=>W.ah (aq TE .add 3 b6 Z) fun b7=>W.ah (ai TE 25 b3 b7) fun b8=>W.ah (ag TE U 3 b8) fun b9=>W.ah (aq TE .neq 3 b1 b9) fun c0=>aW c0
(W.ah (aO TE 98 [(0,Z),(1,L)]) fun c1=>W.aK (az TE U 45 1 [(0,c1)]) fun c2 c3=>W.aK (an TE (M.wl c3 c3.n) .append [45,45] [X,c2]) fun c4 c5=>W.ah (aq TE .add 3 Z (.int .i64 1)) fun c6=>S [c4,c6] c5 (min V (M.low c5)))
(W.ah (aq TE .add 3 Z (.int .i64 1)) fun c7=>S [X,c7] U V))
(W.ah (aq TE .add 3 L (.int .i64 1)) fun c8=>F [X,c8] U V)) [J,(.int .i64 0)] H I)
(R [J,(.int .i64 0)] H I)) [(.slice none 0 0),(.int .i64 0)] B C))):=by kernel_rfl
set_option maxRecDepth 100000 in
theorem Y2{W:Words}{x0 x1 x2 x3:Value}{m:M}{R:List Value->M->Nat->Prop}:dt TE W Tryz.f20 [x0,x1,x2,x3] m R=
(W.bW (M.push m (.cells (cells x0) 27 none)) fun a=>W.bW (M.push a (.cells [(.int .i64 0),(.int .i64 0),(.slice none 0 0)] 27 none)) fun b=>W.ah (ae TE 27 (ptrTo m.n) 0) fun c=>W.ah (ag TE b 3 c) fun d=>W.ah (ae TE 27 (ptrTo m.n) 1) fun f=>W.ah (ag TE b 3 f) fun g=>W.aK (az TE b 25 0 []) fun h i=>W.ah (ae TE 27 (ptrTo m.n) 2) fun j=>W.ah (ag TE i 25 j) fun k=>W.aK (an TE (M.wl i i.n) .append [25,25] [h,k]) fun l n=>(M.n i<=M.low n)/\(W.ah (aO TE 27 [(0,d),(1,g),(2,l)]) fun o=>W.bW (M.push n (.cells [(.int .i64 0),(.int .i64 0),(.slice none 0 0)] 27 none)) fun p=>W.aK (aw TE p 27 (ptrTo n.n) o) fun q r=>W.bz (.func 73) [x1,(.int .i64 4)] q fun s t u=>W.ah (aq TE .eql 3 s (.int .i64 0)) fun v=>aW v
(W.ah (ae TE 27 (ptrTo n.n) 0) fun w=>W.aK (aw TE t 3 w x2) fun y z=>W.ah (ag TE y 27 (ptrTo n.n)) fun A=>W.aK (aw TE y 27 (ptrTo a.n) A) fun B C=>ah (ag TE B 27 (ptrTo a.n)) fun D=>R [D] B (min (min (min (min (min m.n (M.low n)) r) u) z) C))
(W.ah (aq TE .eql 3 s (.int .i64 1)) fun E=>aW E
(W.ah (ae TE 27 (ptrTo n.n) 1) fun F=>W.aK (aw TE t 3 F x2) fun G H=>W.ah (ag TE G 27 (ptrTo n.n)) fun I=>W.aK (aw TE G 27 (ptrTo a.n) I) fun J K=>ah (ag TE J 27 (ptrTo a.n)) fun L=>R [L] J (min (min (min (min (min m.n (M.low n)) r) u) H) K))
(W.ah (aq TE .eql 3 s (.int .i64 2)) fun N=>aW N
(W.ah (ae TE 27 (ptrTo n.n) 2) fun O=>W.ah (ag TE t 25 O) fun P=>W.ah (ae TE 27 (ptrTo n.n) 2) fun Q=>W.ah (ag TE t 25 Q) fun S=>W.aK (an TE t .len [25] [S]) fun T _=>W.bz (.func 73) [x3,T] t fun U V X=>(M.n t<=X)/\(W.ah (ai TE 25 P U) fun Y=>W.aK (aw TE V 3 Y x2) fun Z a0=>W.ah (ag TE Z 27 (ptrTo n.n)) fun a1=>W.aK (aw TE Z 27 (ptrTo a.n) a1) fun a2 a3=>ah (ag TE a2 27 (ptrTo a.n)) fun a4=>R [a4] a2 (min (min (min (min (min (min m.n (M.low n)) r) u) X) a0) a3)))
(W.ah (ae TE 27 (ptrTo n.n) 2) fun a5=>W.ah (ag TE t 25 a5) fun a6=>W.aK (az TE t 25 1 [(0,x2)]) fun a7 a8=>W.aK (an TE (M.wl a8 a8.n) .append [25,25] [a6,a7]) fun a9 b0=>W.ah (ae TE 27 (ptrTo n.n) 2) fun b1=>W.aK (aw TE b0 25 b1 a9) fun b2 b3=>W.ah (ag TE b2 27 (ptrTo n.n)) fun b4=>W.aK (aw TE b2 27 (ptrTo a.n) b4) fun b5 b6=>ah (ag TE b5 27 (ptrTo a.n)) fun b7=>R [b7] b5 (min (min (min (min (min (min m.n (M.low n)) r) u) (M.low b0)) b3) b6)))))):=by kernel_rfl
set_option maxRecDepth 100000 in
theorem YX{W:Words}{x0:Value}{m:M}{R:List Value->M->Nat->Prop}:dt TE W Tryz.f29 [x0] m R=
(W.bW (M.push m (.cells [(.int .i64 0),(.int .i64 0),(.slice none 0 0)] 27 none)) fun a=>W.aK (an TE a .len [9] [x0]) fun b _=>W.ah (aq TE .gtr 3 b (.int .i64 3240)) fun c=>aW c
(W.ah (aO TE 27 []) fun d=>W.aK (aw TE a 27 (ptrTo m.n) d) fun f g=>ah (ag TE f 27 (ptrTo m.n)) fun h=>R [h,(.int .i64 410)] f (min m.n g))
(W.Lp (fun i j k l=>W.un j fun n o=>W.jn (fun p=>W.aK (an TE k .len [9] [x0]) fun q _=>W.ah (aq TE .lss 3 n q) fun r=>aW r
(W.ah (index? TE 9 x0 n) fun s=>W.ah (aq TE .neq 5 s (.int .u8 10)) fun t=>p [t] k l)
(p [(.bool false)] k l))
(fun u v w=>W.un u fun y z=>aW y
(W.ah (aq TE .add 3 n (.int .i64 1)) fun A=>i [A] v w)
(W.ah (aq TE .quo 3 n (.int .i64 2)) fun B=>W.aK (an TE v .len [9] [x0]) fun C _=>W.ah (aq TE .add 3 n (.int .i64 1)) fun D=>W.ah (aq TE .quo 3 C D) fun E=>W.ah (aO TE 27 [(0,B),(1,E)]) fun F=>W.bW (M.push v (.cells [(.int .i64 0),(.int .i64 0),(.slice none 0 0)] 27 none)) fun G=>W.aK (aw TE G 27 (ptrTo v.n) F) fun H I=>W.ah (ae TE 27 (ptrTo v.n) 1) fun J=>W.ah (ag TE H 3 J) fun K=>W.ah (aq TE .sub 3 K (.int .i64 1)) fun L=>W.Lp (fun N O P Q=>W.un O fun S T=>W.ah (aq TE .geq 3 S (.int .i64 0)) fun U=>aW U
(W.Lp (fun V X Y Z=>W.un X fun a0 a1=>W.ah (ae TE 27 (ptrTo v.n) 0) fun a2=>W.ah (ag TE Y 3 a2) fun a3=>W.ah (aq TE .lss 3 a0 a3) fun a4=>aW a4
(W.ah (aq TE .add 3 n (.int .i64 1)) fun a5=>W.ah (aq TE .mul 3 S a5) fun a6=>W.ah (aq TE .mul 3 (.int .i64 2) a0) fun a7=>W.ah (aq TE .add 3 a6 a7) fun a8=>W.ah (index? TE 9 x0 a8) fun a9=>W.ah (tb TE Y 5 3 a9) fun b0=>W.ah (aq TE .mul 3 (.int .i64 10) b0) fun b1=>W.ah (aq TE .add 3 a8 (.int .i64 1)) fun b2=>W.ah (index? TE 9 x0 b2) fun b3=>W.ah (tb TE Y 5 3 b3) fun b4=>W.ah (aq TE .add 3 b1 b4) fun b5=>W.ah (aq TE .sub 3 b5 (.int .i64 528)) fun b6=>W.ah (index? TE 9 x0 a8) fun b7=>W.ah (aq TE .eql 5 b7 (.int .u8 46)) fun b8=>aW b8
(W.ah (ae TE 27 (ptrTo v.n) 2) fun b9=>W.ah (ag TE Y 25 b9) fun c0=>W.aK (az TE Y 25 1 [(0,(.int .i64 (-1)))]) fun c1 c2=>W.aK (an TE (M.wl c2 c2.n) .append [25,25] [c0,c1]) fun c3 c4=>W.ah (ae TE 27 (ptrTo v.n) 2) fun c5=>W.aK (aw TE c4 25 c5 c3) fun c6 c7=>W.ah (aq TE .add 3 a0 (.int .i64 1)) fun c8=>V [c8] c6 (min (min Z (M.low c4)) c7))
(W.ah (ae TE 27 (ptrTo v.n) 2) fun c9=>W.ah (ag TE Y 25 c9) fun d0=>W.aK (az TE Y 25 1 [(0,b6)]) fun d1 d2=>W.aK (an TE (M.wl d2 d2.n) .append [25,25] [d0,d1]) fun d3 d4=>W.ah (ae TE 27 (ptrTo v.n) 2) fun d5=>W.aK (aw TE d4 25 d5 d3) fun d6 d7=>W.ah (aq TE .add 3 a0 (.int .i64 1)) fun d8=>V [d8] d6 (min (min Z (M.low d4)) d7)))
(W.ah (aq TE .sub 3 S (.int .i64 1)) fun d9=>N [d9] Y Z)) [(.int .i64 0)] P Q)
(W.ah (ag TE P 27 (ptrTo v.n)) fun g0=>W.bz (.func 24) [g0] P fun g1 g2 g3=>W.ah (cj g1 0) fun g4=>W.ah (cj g1 1) fun g5=>W.jn (fun g6=>W.ah (aq TE .neq 35 g5 (.int .i64 0)) fun g7=>aW g7
(g6 [(.bool true)] g2 (min Q g3))
(W.ah (aq TE .neq 9 g4 x0) fun g8=>g6 [g8] g2 (min Q g3)))
(fun g9 h0 h1=>W.un g9 fun h2 h3=>aW h2
(W.ah (aO TE 27 []) fun h4=>W.aK (aw TE h0 27 (ptrTo m.n) h4) fun h5 h6=>ah (ag TE h5 27 (ptrTo m.n)) fun h7=>R [h7,(.int .i64 410)] h5 (min h1 h6))
(W.ah (ag TE h0 27 (ptrTo v.n)) fun h8=>W.aK (aw TE h0 27 (ptrTo m.n) h8) fun h9 i0=>ah (ag TE h9 27 (ptrTo m.n)) fun i1=>R [i1,(.int .i64 0)] h9 (min h1 i0))))) [L] H (min w I)))) [(.int .i64 0)] a m.n)):=by kernel_rfl
end Go.Proofs.YtmdfgncoekfgdaaGreatDoor
namespace Go.Proofs.YtmdfgncoekfgdaaGreatDoor
open Go Go.D
def vn:List UInt8->Nat
 |[]=>0
 |b::r=>if b=10 then 0 else vn r+1
theorem vk:∀{s:List UInt8} {k:Nat},(∀j b,j < k->s[j]?=some b->b≠10)->(k=s.length\/s[k]?=some 10)->vn s=k
 |[],k,_,h=>by
  rcases h with rfl |h
  ·rfl
  ·simp at h
 |b::r,0,_,h=>by
  rcases h with h |h
  ·simp at h
  ·have h:b=10:=by simpa using h
   rw[vn,if_pos h]
 |b::r,k+1,h1,h2=>by
  have hb:b≠10:=h1 0 b (by omega) rfl
  rw[vn,if_neg hb,vk (k:=k) (fun j c hj hc=>h1 (j+1) c (by omega) (by simpa using hc)) (by simpa using h2)]
def uB(a b:UInt8):Int:=if a=46 then -1 else 10*(a.toNat:Int)+(b.toNat:Int)-528
def wm(s:List UInt8)(i:Nat):UInt8:=s.getD i 0
theorem mL{s:List UInt8}{i:Nat}{b:UInt8}(h:s[i]?=some b):wm s i=b:=by
 unfold wm
 rw[List.getD_eq_getElem?_getD,h];rfl
def tT(s:List UInt8)(k H:Nat):Nat->Nat->Int:=fun x i=>uB (wm s ((H-1-i)*k+2*x)) (wm s ((H-1-i)*k+2*x+1))
def rW(s:List UInt8):Nat:=vn s/2
def rH(s:List UInt8):Nat:=s.length/(vn s+1)
def rL(s:List UInt8):List Int:=cn (tT s (vn s+1) (rH s)) (rW s) (rH s)
theorem sD{α:Type}{k:Nat}:∀{L:List (List α)},(∀x∈L,x.length=k)->∀{i j:Nat} {x:List α},L[i]?=some x->j < k->L.flatten[i*k+j]?=x[j]?
 |[],_,i,j,x,hi,_=>by simp at hi
 |y::L,h,0,j,x,hi,hj=>by
  have hi:y=x:=by simpa using hi
  subst hi
  rw[List.flatten_cons,Nat.zero_mul,Nat.zero_add,List.getElem?_append_left (by rw[h y (by simp)];exact hj)]
 |y::L,h,i+1,j,x,hi,hj=>by
  have hy:=h y (by simp)
  have e:(i+1)*k+j=k+(i*k+j):=by rw[Nat.add_mul,Nat.one_mul];omega
  rw[List.flatten_cons,e,List.getElem?_append_right (by omega),hy,Nat.add_sub_cancel_left]
  exact sD (fun z hz=>h z (by simp[hz])) (by simpa using hi) hj
theorem JH{r:List Int}{x:Nat}{n:Int}(h:r[x]?=some n){j:Nat}(hj:j < 2):(dE r)[2*x+j]?=(jD n)[j]?:=by
 unfold dE
 rw[List.flatMap_def,Nat.mul_comm]
 exact sD (fun y hy=>by obtain⟨z,_,rfl⟩:=List.mem_map.1 hy;exact vX z) (by rw[List.getElem?_map,h];rfl) hj
theorem Ii{n:Int}(h:fb n=true):∃a b,jD n=[a,b]/\uB a b=n:=by
 unfold fb at h
 simp only[Bool.and_eq_true,decide_eq_true_eq]at h
 by_cases hn:n < 0
 ·obtain rfl:n= -1:=by omega
  exact⟨46,46,rfl,rfl⟩
 ·obtain⟨k,rfl⟩:∃k:Nat,n=k:=⟨n.toNat,by omega⟩
  have hk:k<=99:=by omega
  refine⟨UInt8.ofNat (48+k/10),UInt8.ofNat (48+k%10),by unfold jD;rw[if_neg hn];rfl,?_⟩
  have t1:(UInt8.ofNat (48+k/10)).toNat=48+k/10:=by rw[UInt8.toNat_ofNat'];omega
  have t2:(UInt8.ofNat (48+k%10)).toNat=48+k%10:=by rw[UInt8.toNat_ofNat'];omega
  have ne:¬UInt8.ofNat (48+k/10)=46:=fun e=>by
   have:=congrArg UInt8.toNat e
   rw[t1]at this
   simp at this
   omega
  unfold uB
  rw[if_neg ne,t1,t2]
  omega
theorem e9{w h:Nat}{l:List Int}(hv:gx w h l=true):1<=w/\w<=40/\1<=h/\h<=40/\l.length=w*h/\∀n∈l,fb n=true:=by
 simp only[gx,eA,Bool.and_eq_true,decide_eq_true_eq,Bool.not_eq_true',List.any_eq_false]at hv
 obtain⟨⟨⟨⟨a,b⟩,c,d⟩,e⟩,f⟩:=hv
 refine⟨by omega,by omega,by omega,by omega,by rw[<-Int.natCast_mul]at e;omega,fun n hn=>?_⟩
 have:=f n hn
 unfold fb
 simpa using this
theorem zX{w h:Nat}{l:List Int}(hv:gx w h l=true):rW (dJ w h l)=w/\rH (dJ w h l)=h/\rL (dJ w h l)=l:=by
 obtain⟨w1,w40,h1,h40,hlen,hcell⟩:=e9 hv
 obtain⟨s,hs⟩:∃s,s=dJ w h l:=⟨_,rfl⟩
 obtain⟨L,hL⟩:∃L,L=((eP w h l).map dE).reverse.map (·++ [10]):=⟨_,rfl⟩
 have hsL:s=L.flatten:=by rw[hs,hL,lM]
 have hk:∀y∈L,y.length=2*w+1:=fun y hy=>by
  rw[hL]at hy
  obtain⟨z,hz,rfl⟩:=List.mem_map.1 hy
  obtain⟨r,hr,rfl⟩:=List.mem_map.1 (List.mem_reverse.1 hz)
  rw[List.length_append,dP,gE hlen r hr];rfl
 have hrow:∀i,i < h->(eP w h l)[i]?=some ((l.drop (i*w)).take w):=fun i hi=>ml hi
 have hLi:∀i,i < h->L[i]?=some (dE ((l.drop ((h-1-i)*w)).take w)++ [10]):=fun i hi=>by
  rw[hL,List.getElem?_map,List.getElem?_reverse (by rw[List.length_map,gD];exact hi),List.length_map,gD,List.getElem?_map,hrow _ (by omega)]
  rfl
 have hget:∀i j,i < h->j < 2*w+1->s[i*(2*w+1)+j]?=(dE ((l.drop ((h-1-i)*w)).take w)++ [10])[j]?:=fun i j hi hj=>by
  rw[hsL]
  exact sD hk (hLi i hi) hj
 have hrl:∀i,i < h->((l.drop (i*w)).take w).length=w:=fun i hi=>gE hlen _ (List.mem_of_getElem? (hrow i hi))
 have hsl:s.length=h*(2*w+1):=by rw[hs];exact mr hlen
 have hn:vn s=2*w:=by
  refine vk (fun j b hj hb=>?_) (.inr ?_)
  ·have:=hget 0 j (by omega) (by omega)
   rw[Nat.zero_mul,Nat.zero_add]at this
   rw[this,List.getElem?_append_left (by rw[dP,hrl _ (by omega)];exact hj)]at hb
   exact Bv (fun n hn=>hcell n (List.mem_of_mem_drop (List.mem_of_mem_take hn))) b (List.mem_of_getElem? hb)
  ·have:=hget 0 (2*w) (by omega) (by omega)
   rw[Nat.zero_mul,Nat.zero_add]at this
   rw[this,List.getElem?_append_right (by rw[dP,hrl _ (by omega)];exact Nat.le_refl _),dP,hrl _ (by omega),Nat.sub_self]
   rfl
 have hW:rW s=w:=by unfold rW;rw[hn];omega
 have hH:rH s=h:=by unfold rH;rw[hn,hsl,Nat.mul_div_cancel _ (by omega)]
 rw[<-hs]
 refine⟨hW,hH,?_⟩
 unfold rL
 rw[hW,hH,hn]
 have hl:l=(List.range h).flatMap fun i=>(l.drop (i*w)).take w:=by
  have e:eP w h l=(List.range h).map fun i=>(l.drop (i*w)).take w:=by
   refine List.ext_getElem? fun i=>?_
   by_cases hi:i < h
   ·rw[hrow i hi,List.getElem?_map,List.getElem?_range hi];rfl
   ·rw[List.getElem?_eq_none (by rw[gD];omega),List.getElem?_eq_none (by rw[List.length_map,List.length_range];omega)]
  rw[List.flatMap_def,<-e,nu hlen]
 have key:∀i,i < h->iM (tT s (2*w+1) h) w i=(l.drop (i*w)).take w:=fun i hi=>by
  refine List.ext_getElem? fun x=>?_
  by_cases hx:x < w
  ·unfold iM
   rw[List.getElem?_map,List.getElem?_range hx]
   have hx2:x < ((l.drop (i*w)).take w).length:=by rw[hrl i hi];exact hx
   obtain⟨n,hnx⟩:∃n,((l.drop (i*w)).take w)[x]?=some n:=⟨_,List.getElem?_eq_getElem hx2⟩
   have hnl:n∈l:=List.mem_of_mem_drop (List.mem_of_mem_take (List.mem_of_getElem? hnx))
   obtain⟨a,b,hd,hc⟩:=Ii (hcell n hnl)
   have hg:∀j,j < 2->s[(h-1-i)*(2*w+1)+(2*x+j)]?=(jD n)[j]?:=fun j hj=>by
    rw[hget (h-1-i) (2*x+j) (by omega) (by omega),show h-1-(h-1-i)=i by omega,List.getElem?_append_left (by rw[dP,hrl i hi];omega),JH hnx hj]
   have g0:=hg 0 (by omega)
   have g1:=hg 1 (by omega)
   rw[hd]at g0 g1
   rw[hnx]
   show some (tT s (2*w+1) h x i)=_
   unfold tT
   rw[mL (i:=(h-1-i)*(2*w+1)+2*x) g0,Nat.add_assoc,mL g1,hc]
  ·rw[List.getElem?_eq_none (by rw[jq];omega),List.getElem?_eq_none (by rw[hrl i hi];omega)]
 unfold cn
 conv=>rhs;rw[hl]
 rw[List.flatMap_def,List.flatMap_def]
 congr 1
 exact List.map_congr_left fun i hi=>key i (List.mem_range.1 hi)
theorem zT{s:List UInt8}(h1:gx (rW s) (rH s) (rL s)=true)(h2:dJ (rW s) (rH s) (rL s)=s):fD s=some (rW s,rH s,rL s):=by
 have:=xS h1
 rwa[h2]at this
theorem tS{s:List UInt8}(h:¬(gx (rW s) (rH s) (rL s)=true/\dJ (rW s) (rH s) (rL s)=s)):fD s=none:=by
 cases hp:fD s with
 |none=>rfl
 |some p=>
  obtain⟨w,k,l⟩:=p
  obtain⟨d,e⟩:=tY hp
  obtain⟨e1,e2,e3⟩:=zX d
  rw[e]at e1 e2 e3
  refine absurd ?_ h
  rw[e1,e2,e3]
  exact⟨d,e⟩
end Go.Proofs.YtmdfgncoekfgdaaGreatDoor
namespace Go.Proofs.YtmdfgncoekfgdaaGreatDoor
open Go Go.D
variable {X:aF} {m:M}
theorem lC{mm:M}{b:Nat}{w h:Int}{v:Value}(g:mm.get b=.cells [.int .i64 w,.int .i64 h,v] 27 none):
  ag TE mm 3 (.pointer (some ⟨b,0+0,none⟩))=some (.int .i64 w)/\ag TE mm 3 (.pointer (some ⟨b,0+1,none⟩))=some (.int .i64 h)/\ag TE mm 25 (.pointer (some ⟨b,0+2,none⟩))=some v/\ag TE mm 27 (.pointer (some ⟨b,0,none⟩))=some (cF w h v):=by
 refine⟨?_,?_,?_,?_⟩
 ·rw[bu,av g];rfl
 ·rw[bu,av g];rfl
 ·rw[ez,av g];rfl
 ·rw[bO,aE g (by simp)];rfl
theorem Au{n lo hi:Int}(h:n < lo):eA n lo hi=false:=by
 unfold eA
 rw[decide_eq_false (by omega),Bool.false_and]
theorem Av{n lo hi:Int}(h:hi < n):eA n lo hi=false:=by
 unfold eA
 rw[decide_eq_false (p:=n<=hi) (by omega),Bool.and_false]
theorem vP{n lo hi:Int}(h1:¬n < lo)(h2:¬hi < n):eA n lo hi=true:=by
 unfold eA
 rw[decide_eq_true (by omega),decide_eq_true (by omega)];rfl
theorem eR(hX:cW X){w h:Int}{l:List Int}{v:Value}(hl:iV m l v)(hb:l.length < 4611686018427387904):C X (.func 26) [cF w h v] m m.n (.bool (gx w h l)) m:=by
 refine Cl.flat (hX.no _ rfl) OT rfl rfl ?_
 rw[Y0];dsimp only[aI]
 refine au fun m1 hn1 hg1 hk1=>?_
 have hg1:m1.get m.n=.cells [.int .i64 w,.int .i64 h,v] 27 none:=hg1
 have hl1:=hl.aB (m':=m1) ⟨by omega,hk1⟩
 obtain⟨d0,d1,d2, -⟩:=lC hg1
 unfold ptrTo
 refine bY (fun vs mm lo=>vs=[.bool (!(eA w 1 40 && eA h 1 40 && decide ((l.length:Int)=w*h)))]/\m1=mm/\lo=m.n) (fun R hR=>?_) ?_
 ·simp only[bj,bB,bh,aa,d0,d1,d2,aH,bX,aj,hl1.len eK,ar,cA,bI]
  refine ak (fun a=>hR _ _ _ ⟨by rw[Au (by simpa using a)];rfl,rfl,rfl⟩) (fun a1=>?_)
  refine ak (fun a=>hR _ _ _ ⟨by rw[Av (by simpa using a)];rfl,rfl,rfl⟩) (fun a2=>?_)
  have b1:eA w 1 40=true:=vP (by simpa using a1) (by simpa using a2)
  refine ak (fun a=>hR _ _ _ ⟨by rw[b1,Au (by simpa using a)];rfl,rfl,rfl⟩) (fun a3=>?_)
  refine ak (fun a=>hR _ _ _ ⟨by rw[b1,Av (by simpa using a)];rfl,rfl,rfl⟩) (fun a4=>?_)
  have b2:eA h 1 40=true:=vP (by simpa using a3) (by simpa using a4)
  have c1:1<=w/\w<=40:=by simpa[eA]using b1
  have c2:1<=h/\h<=40:=by simpa[eA]using b2
  have hwh: -(40*40)<=w*h/\w*h<=40*40:=mB (by omega) (by omega) (by omega) (by omega)
  rw[wrap64 (by omega) (by omega)]
  exact hR _ _ _ ⟨by rw[b1,b2];rfl,rfl,rfl⟩
 rintro _ _ _ ⟨rfl,rfl,rfl⟩
 rw[aA,aj]
 refine ak (fun hbad=>⟨?_,Nat.le_refl _⟩) (fun hok=>?_)
 ·have hbad:(eA w 1 40 && eA h 1 40 && decide ((l.length:Int)=w*h))=false:=by rwa[Bool.not_eq_true']at hbad
  show Value.bool false=.bool (gx w h l)
  rw[gx,hbad];rfl
 have hok:(eA w 1 40 && eA h 1 40 && decide ((l.length:Int)=w*h))=true:=by rwa[Bool.not_eq_false']at hok
 refine Lp.intro (γ:=Nat) (fun i=>l.length-i) (fun i vs mm lo=>vs=[.bool false,.int .i64 i]/\i<=l.length/\m1=mm/\lo=m.n/\∀j x,j < i->l[j]?=some x->eA x (-1) 99=true) 0 ⟨rfl,Nat.zero_le _,rfl,rfl,fun j x hj=>by omega⟩ ?_
 rintro i vs mm lo ⟨rfl,hi,rfl,rfl,hin⟩
 rw[aA,aA,bh,aa,d2,aa,hl1.len eK,ar,aH,aa,aj]
 refine ak (fun hlt=>?_) (fun hge=>?_)
 ·have hlt:i < l.length:=by simpa using hlt
  obtain⟨x,hx⟩:∃x,l[i]?=some x:=⟨_,List.getElem?_eq_getElem hlt⟩
  obtain⟨a,e1,e2⟩:=hl1.iD (k:=.i64) hx
  refine bY (fun vs mm lo=>vs=[.bool (!(eA x (-1) 99))]/\m1=mm/\lo=m.n) (fun R hR=>?_) ?_
  ·simp only[aa,d2,e1,e2,aH,bX,aj]
   refine ak (fun a=>hR _ _ _ ⟨by rw[Au (n:=x) (lo:= -1) (hi:=99) (of_decide_eq_true a)];rfl,rfl,rfl⟩) (fun a=>hR _ _ _ ⟨?_,rfl,rfl⟩)
   have a:¬x < -1:=by simpa using a
   by_cases hx9:99 < x
   ·rw[decide_eq_true hx9,Av hx9];rfl
   ·rw[decide_eq_false hx9,vP a hx9];rfl
  rintro _ _ _ ⟨rfl,rfl,rfl⟩
  rw[aA,aj]
  refine ak (fun hbad=>⟨?_,Nat.le_refl _⟩) (fun hgood=>?_)
  ·have:l.any (fun n=> !(eA n (-1) 99))=true:=List.any_eq_true.2 ⟨x,List.mem_of_getElem? hx,hbad⟩
   show Value.bool false=.bool (gx w h l)
   rw[gx,this,Bool.not_true,Bool.and_false]
  ·rw[aG,aa,wrap64 (by omega) (by omega)]
   refine⟨i+1,by omega,rfl,by omega,rfl,rfl,fun j y hj hy=>?_⟩
   by_cases e:j=i
   ·subst e
    rw[hx]at hy
    cases hy
    rwa[Bool.not_eq_false']at hgood
   ·exact hin j y (by omega) hy
 ·have hi':i=l.length:=by
   have:¬(i:Int)< (l.length:Int):=by simpa using hge
   omega
  have:l.any (fun n=> !(eA n (-1) 99))=false:=by
   rw[List.any_eq_false]
   intro x hx
   obtain⟨j,hj⟩:=List.getElem?_of_mem hx
   rw[hin j x (by have:=(List.getElem?_eq_some_iff.1 hj).1;omega) hj]
   decide
  refine⟨?_,Nat.le_refl _⟩
  show Value.bool true=.bool (gx w h l)
  rw[gx,this,hok];rfl
theorem Et{b:Nat}{c:UInt8}{g:Option Nat}(h:m.get b=.cells [.int .u8 c.toNat] 5 g):tb TE m 52 9 (.slice (some ⟨b,0,none⟩) 1 1)=some (str [c]):=by
 have e:tb TE m 52 9 (.slice (some ⟨b,0,none⟩) 1 1)=match D.loadCells m ⟨b,0,none⟩ 1 with
   |some cs=>match bytesOf cs with
    |some ns=>some (.string (ns.foldl (fun r n=>r.push (UInt8.ofNat n.toNat)) ByteArray.empty))
    |none=>none
   |none=>none:=by kernel_rfl
 rw[e,aE h (by simp)]
 have hc:UInt8.ofNat (Int.toNat (c.toNat:Int))=c:=by simp
 show some (Value.string (ByteArray.empty.push (UInt8.ofNat (Int.toNat (c.toNat:Int)))))=_
 rw[hc]
 rfl
theorem Es{b:Nat}{c d:UInt8}{g:Option Nat}(h:m.get b=.cells [.int .u8 c.toNat,.int .u8 d.toNat] 5 g):tb TE m 52 9 (.slice (some ⟨b,0,none⟩) 2 2)=some (str [c,d]):=by
 have e:tb TE m 52 9 (.slice (some ⟨b,0,none⟩) 2 2)=match D.loadCells m ⟨b,0,none⟩ 2 with
   |some cs=>match bytesOf cs with
    |some ns=>some (.string (ns.foldl (fun r n=>r.push (UInt8.ofNat n.toNat)) ByteArray.empty))
    |none=>none
   |none=>none:=by kernel_rfl
 rw[e,aE h (by simp)]
 have hc:UInt8.ofNat (Int.toNat (c.toNat:Int))=c:=by simp
 have hd:UInt8.ofNat (Int.toNat (d.toNat:Int))=d:=by simp
 show some (Value.string ((ByteArray.empty.push (UInt8.ofNat (Int.toNat (c.toNat:Int)))).push (UInt8.ofNat (Int.toNat (d.toNat:Int)))))=_
 rw[hc,hd]
 rfl
theorem Dg(hX:cW X){n:Int}(hn:fb n=true):C X (.func 80) [.int .i64 n] m m.n (str (jD n)) m:=by
 unfold fb at hn
 simp only[Bool.and_eq_true,decide_eq_true_eq]at hn
 refine Cl.flat (hX.no _ rfl) Ok rfl rfl ?_
 rw[Yw];dsimp only[aI]
 rw[aH,aa,aj]
 refine ak (fun h=>⟨?_,Nat.le_refl _⟩) (fun h=>?_)
 ·have h:n < 0:=by simpa using h
  unfold jD
  rw[if_pos h];rfl
 ·have h:¬n < 0:=by simpa using h
  obtain⟨j,rfl⟩:∃j:Nat,n=j:=⟨n.toNat,by omega⟩
  have hj:j<=99:=by omega
  have t1:((UInt8.ofNat (48+j/10)).toNat:Int)=48+(j:Int)/10:=by rw[UInt8.toNat_ofNat'];omega
  have t2:((UInt8.ofNat (48+j%10)).toNat:Int)=48+(j:Int)%10:=by rw[UInt8.toNat_ofNat'];omega
  rw[eL (by decide),aa,aG,aa]
  have e1:IntKind.i64.wrap (48+IntKind.i64.wrap ((j:Int).tdiv 10))=48+(j:Int)/10:=by
   rw[Int.tdiv_eq_ediv_of_nonneg (by omega),wrap64 (x:=(j:Int)/10) (by omega) (by omega),wrap64 (by omega) (by omega)]
  rw[e1,oV,aa,tE (by omega) (by omega),<-t1,mM (by decide),aa,aG,aa]
  have e2:IntKind.i64.wrap (48+(j:Int).tmod 10)=48+(j:Int)%10:=by
   rw[Int.tmod_eq_emod_of_nonneg (by omega),wrap64 (by omega) (by omega)]
  rw[e2,oV,aa,tE (by omega) (by omega),<-t2]
  have hbs:∀a b:Int,az TE m 52 2 [(0,.int .u8 a),(1,.int .u8 b)]=some (.slice (some ⟨m.n,0,none⟩) 2 2,m.push (.cells [.int .u8 a,.int .u8 b] 5 none)):=fun a b=>by kernel_rfl
  rw[hbs,ar,Es M.aN,aa]
  refine⟨?_,Nat.le_refl _⟩
  rw[Ca ⟨by omega,by omega⟩];rfl
set_option maxRecDepth 100000 in
theorem tP(hX:cW X){w h:Nat}{l:List Int}{v:Value}(hv:gx w h l=true)(hl:iV m l v):C X (.func 24) [cF w h v] m m.n (.tuple #[str (dJ w h l),.int .i64 0]) m:=by
 obtain⟨w1,w40,h1,h40,hlen,hcell⟩:=e9 hv
 have hwh:w*h<=40*40:=Nat.mul_le_mul w40 h40
 refine Cl.flat (hX.no _ rfl) Kw rfl rfl ?_
 rw[VS];dsimp only[aI]
 refine au fun m1 hn1 hg1 hk1=>?_
 have hg1:m1.get m.n=.cells [.int .i64 w,.int .i64 h,v] 27 none:=hg1
 have hl1:=hl.aB (m':=m1) ⟨by omega,hk1⟩
 obtain⟨d0,d1,d2,d3⟩:=lC hg1
 unfold ptrTo
 rw[d3,aa]
 refine aC (eR hX hl1 (by omega)) ?_
 rw[hv,aX,aa,aj,Bool.not_true,aM,bB,aa,d1,aa,cz,aa,wrap64 (by omega) (by omega)]
 obtain⟨L,hL⟩:∃L,L=(iw w h l).reverse:=⟨_,rfl⟩
 have hLl:L.length=h:=by rw[hL,List.length_reverse,eT]
 have hLf:L.flatten=dJ w h l:=by rw[hL];rfl
 have hpl:=mr hlen
 have hhw:h*(2*w+1)<=40*81:=Nat.mul_le_mul h40 (by omega)
 have hLk:∀k,(L.take k).flatten.length<=40*81:=fun k=>by
  have e:L.flatten=(L.take k).flatten++(L.drop k).flatten:=by rw[<-List.flatten_append,List.take_append_drop]
  have:=congrArg List.length e
  rw[List.length_append,hLf,hpl]at this
  omega
 refine Lp.intro (γ:=Nat) (fun k=>h-k) (fun k vs mm lo=>vs=[str ((L.take k).flatten),.int .i64 ((h:Int)-1-k)]/\k<=h/\m1=mm/\m.n<=lo) 0 ⟨by rw[show((h:Int)-1-(0:Nat))=(h:Int)-1 by omega];rfl,Nat.zero_le _,rfl,by omega⟩ ?_
 rintro k vs mm lo ⟨rfl,hk,rfl,hlo⟩
 rw[aA,aA,ck,aa,aj]
 refine ak (fun hlt=>?_) (fun hge=>?_)
 ·have hkh:k < h:=by
   have:(0:Int)<=(h:Int)-1-k:=by simpa using hlt
   omega
  obtain⟨y,hy⟩:∃y:Nat,y=h-1-k:=⟨_,rfl⟩
  rw[show(h:Int)-1-k=(y:Int) by omega]
  have hyh:y < h:=by omega
  obtain⟨row,hrow⟩:∃row,row=(l.drop (y*w)).take w:=⟨_,rfl⟩
  have hyw:y*w+w<=w*h:=by
   have:(y+1)*w<=h*w:=Nat.mul_le_mul_right w hyh
   rw[Nat.add_mul,Nat.one_mul,Nat.mul_comm h w]at this
   exact this
  have hrl:row.length=w:=by rw[hrow,List.length_take,List.length_drop];omega
  have hLi:L[k]?=some (dE row++ [10]):=by
   rw[hL,List.getElem?_reverse (by rw[eT];exact hkh),eT]
   unfold iw
   rw[List.getElem?_map,ml (by omega),hrow,hy];rfl
  have htk:(L.take (k+1)).flatten=(L.take k).flatten++(dE row++ [10]):=by
   rw[List.take_add_one,hLi,List.flatten_append]
   simp
  have hk1':=hLk (k+1)
  rw[htk,List.length_append,List.length_append,dP,hrl]at hk1'
  refine Lp.intro (γ:=Nat) (fun x=>w-x) (fun x vs mm lo=>vs=[str (dE (row.take x)),.int .i64 x]/\x<=w/\m1=mm/\m.n<=lo) 0 ⟨rfl,Nat.zero_le _,rfl,hlo⟩ ?_
  rintro x vs mm lo2 ⟨rfl,hx,rfl,hlo2⟩
  rw[aA,aA,bj,aa,d0,aa,aH,aa,aj]
  refine ak (fun hlt2=>?_) (fun hge2=>?_)
  ·have hxw:x < w:=by simpa using hlt2
   obtain⟨n,hn⟩:∃n,row[x]?=some n:=⟨_,List.getElem?_eq_getElem (by omega)⟩
   have hln:l[y*w+x]?=some n:=by
    have hn:=hn
    rw[hrow,List.getElem?_take_of_lt hxw,List.getElem?_drop]at hn
    exact hn
   obtain⟨a,e1,e2⟩:=hl1.iD (k:=.i64) hln
   have hyw2:((y:Int)*(w:Int))=((y*w:Nat):Int):=by push_cast;rfl
   rw[bh,aa,d2,aa,aa,d0,aa,cA,aa,hyw2,wrap64 (by omega) (by omega),aG,aa,wrap64 (by omega) (by omega),show((y*w:Nat):Int)+x=((y*w+x:Nat):Int) by omega,e1,aa,e2,aa]
   refine aC (Dg hX (hcell n (List.mem_of_getElem? hln))) ?_
   have hrt:(dE (row.take x)).length=2*x:=by rw[dP,List.length_take];omega
   rw[kY (by rw[hrt,vX];omega),aa,aG,aa,wrap64 (by omega) (by omega)]
   exact⟨x+1,by omega,by rw[pG hn];rfl,by omega,rfl,by omega⟩
  ·have hxw:x=w:=by
    have:¬(x:Int)< (w:Int):=by simpa using hge2
    omega
   subst hxw
   have htr:row.take x=row:=List.take_of_length_le (by omega)
   have hk0:=hLk k
   rw[htr,show(Value.string ⟨#[10]⟩)=str [10]from rfl,kY (by rw[dP,hrl];omega),aa,kY (by rw[List.length_append,dP,hrl,List.length_singleton];omega),aa,cz,aa,wrap64 (by omega) (by omega)]
   refine⟨k+1,by omega,?_,by omega,rfl,hlo2⟩
   rw[htk,List.append_assoc,show(h:Int)-1-((k+1:Nat):Int)=(y:Int)-1 by omega]
 ·have hk':k=h:=by
   have:¬(0:Int)<=(h:Int)-1-k:=by simpa using hge
   omega
  subst hk'
  rw[List.take_of_length_le (by omega),hLf]
  exact⟨rfl,hlo⟩
theorem tQ(hX:cW X){w h:Int}{l:List Int}{v:Value}(hv:gx w h l=false)(hl:iV m l v)(hb:l.length < 4611686018427387904):C X (.func 24) [cF w h v] m m.n (.tuple #[str [],.int .i64 410]) m:=by
 refine Cl.flat (hX.no _ rfl) Kw rfl rfl ?_
 rw[VS];dsimp only[aI]
 refine au fun m1 hn1 hg1 hk1=>?_
 have hg1:m1.get m.n=.cells [.int .i64 w,.int .i64 h,v] 27 none:=hg1
 have hl1:=hl.aB (m':=m1) ⟨by omega,hk1⟩
 unfold ptrTo
 rw[(lC hg1).2.2.2,aa]
 refine aC (eR hX hl1 hb) ?_
 rw[hv,aX,aa,aj,Bool.not_false,bJ]
 exact⟨rfl,by omega⟩
theorem Gg(hX:cW X){w h:Int}{l:List Int}{v:Value}(hv:gx w h l=false)(hl:iV m l v)(hb:l.length < 4611686018427387904):C X (.func 23) [cF w h v] m m.n (.tuple #[str [],.int .i64 410]) m:=by
 refine Cl.flat (hX.no _ rfl) Kx rfl rfl ?_
 rw[VT];dsimp only[aI]
 refine au fun m1 hn1 hg1 hk1=>?_
 have hg1:m1.get m.n=.cells [.int .i64 w,.int .i64 h,v] 27 none:=hg1
 have hl1:=hl.aB (m':=m1) ⟨by omega,hk1⟩
 unfold ptrTo
 rw[(lC hg1).2.2.2,aa]
 refine aC (ej hX hl1 hb) ?_
 rw[hv,aX,aa,aj,Bool.not_false,bJ]
 exact⟨rfl,by omega⟩
end Go.Proofs.YtmdfgncoekfgdaaGreatDoor
namespace Go.Proofs.YtmdfgncoekfgdaaGreatDoor
open Go Go.D Go.pd
theorem oM{l:List Pl}{p:Pl}:∀{n:Nat},0<=dA l p n->∀i a b,i < n->l[i]?=some a->l[(i+1)%l.length]?=some b->0<=dn a b p
 |0,_,i,a,b,hi,_,_=>by omega
 |n+1,h,i,a,b,hi,ha,hb=>by
  by_cases e:i=n
  ·subst e
   rw[dA,ha,hb]at h
   have h:0<=min (dA l p i) (dn a b p):=h
   omega
  ·refine oM (n:=n) ?_ i a b (by omega) ha hb
   rw[dA]at h
   split at h
   ·omega
   ·exact h
theorem Io{l:List Pl}:∀(n k:Nat) (q:Pl),k < n->n<=l.length->l[k]?=some q->(ek l n).x<=q.x/\(ek l n).y<=q.y/\q.x<=(fc l n).x/\q.y<=(fc l n).y
 |0,k,q,hk,_,_=>by omega
 |n+1,k,q,hk,hn,hq=>by
  obtain⟨p,hp⟩:∃p,l[n]?=some p:=⟨_,List.getElem?_eq_getElem (by omega)⟩
  rw[nN hp,nO hp]
  by_cases e:k=n
  ·subst e
   rw[hq]at hp;cases hp
   dsimp only
   omega
  ·have:=Io n k q (by omega) (by omega) hq
   dsimp only
   omega
theorem JN{l:List Pl}{x y:Int}(h:0<=fY l x y):tq l ⟨x,y⟩=true:=by
 unfold fY at h
 split at h
 ·rename_i hc
  simp only[Bool.and_eq_true]at hc
  have hv:=hc.1.1
  have hs:0<=dA (l.map Pl.uw) ⟨2*x+1,2*y+1⟩ (l.map Pl.uw).length:=by
   unfold qf oW at h
   split at h
   ·omega
   ·omega
  have hp:∀f∈lU l,0<=f.dot ⟨2*x+1,2*y+1,2⟩:=by
   intro f hf
   obtain⟨i,hi,rfl⟩:=gV.1 hf
   have hm:(i+1)%l.length < l.length:=Nat.mod_lt _ (by omega)
   have:=oM hs i (gj l i).uw (gj l ((i+1)%l.length)).uw (by rw[List.length_map];exact hi) (by rw[List.getElem?_map,kz hi];rfl) (by rw[List.length_map,List.getElem?_map,kz hm];rfl)
   have e:dn (gj l i).uw (gj l ((i+1)%l.length)).uw ⟨2*x+1,2*y+1⟩=2*(ef l i).dot ⟨2*x+1,2*y+1,2⟩:=by
    unfold dn ef iI V.dot Pl.uw
    grind
   omega
  have hull:∀g:V,(∀q∈l,g.dot q.h<=0)->g.dot ⟨2*x+1,2*y+1,2⟩<=0:=fun g hg=>tU hv (p:=⟨2*x+1,2*y+1,2⟩) hg (show(0:Int)< 2 by decide) hp
  have hb:∀q∈l,(ek l l.length).x<=q.x/\(ek l l.length).y<=q.y/\q.x<=(fc l l.length).x/\q.y<=(fc l l.length).y:=fun q hq=>by
   obtain⟨k,hk⟩:=List.getElem?_of_mem hq
   exact Io _ k q (List.getElem?_eq_some_iff.1 hk).1 (Nat.le_refl _) hk
  have h1:=hull ⟨1,0, -(fc l l.length).x⟩ fun q hq=>by have:=hb q hq;unfold V.dot Pl.h;dsimp only;omega
  have h2:=hull ⟨-1,0,(ek l l.length).x⟩ fun q hq=>by have:=hb q hq;unfold V.dot Pl.h;dsimp only;omega
  have h3:=hull ⟨0,1, -(fc l l.length).y⟩ fun q hq=>by have:=hb q hq;unfold V.dot Pl.h;dsimp only;omega
  have h4:=hull ⟨0, -1,(ek l l.length).y⟩ fun q hq=>by have:=hb q hq;unfold V.dot Pl.h;dsimp only;omega
  unfold V.dot at h1 h2 h3 h4
  dsimp only at h1 h2 h3 h4
  unfold tq
  simp only[Bool.and_eq_true,decide_eq_true_eq]
  omega
 ·omega
theorem Cc{u:Un}{x y:Int}:kV u ⟨x,y⟩=true↔0<=fY u.shape x y:=by
 unfold kV
 simp only[Bool.and_eq_true,decide_eq_true_eq]
 exact⟨fun h=>h.2,fun h=>⟨JN h,h⟩⟩
theorem cB.find{us:List Un}(h:cB us){u:Un}(hu:u∈us):mZ us u.id=some u:=by
 obtain⟨i,hi⟩:=List.getElem?_of_mem hu
 exact HM h hi
def QO(us:List Un)(x y:Int):Bool:=us.any fun w=>decide (0<=fY w.shape x y)
structure VQ(us:List Un)(x y:Int)(front back:Int):Prop where
 n1:(mZ us front).isSome=decide (0<=front)
 n2:(mZ us back).isSome=decide (0<=back)
 same:(mZ us front).isSome=(mZ us back).isSome
 any:(mZ us front).isSome=QO us x y
 out:∀w∈us,fY w.shape x y < 0->w.id≠front/\w.id≠back
 mO:∀w∈us,0<=fY w.shape x y->∃u v,mZ us front=some u/\mZ us back=some v/\¬u.front < w.front/\(w.front=u.front->front<=w.id)/\¬w.back < v.back/\(w.back=v.back->back<=w.id)
end Go.Proofs.YtmdfgncoekfgdaaGreatDoor
namespace Go.Proofs.YtmdfgncoekfgdaaGreatDoor
open Go Go.D
set_option maxRecDepth 100000 in
theorem VX{W:Words}{x0 x1:Value}{m:M}{R:List Value->M->Nat->Prop}:dt TE W Tryz.f15 [x0,x1] m R=
(W.bW (M.push m (.cells (cells x0) 31 none)) fun a=>W.bW (M.push a (.cells (cells x1) 3 none)) fun b=>W.bW (M.push b (.cells [(.int .i64 0),(.int .i64 0),(.slice none 0 0)] 27 none)) fun c=>W.jn (fun d=>W.ah (ag TE c 31 (ptrTo m.n)) fun f=>W.bz (.func 59) [f] c fun g h i=>W.ah (fK .not g) fun j=>aW j
(d [(.bool true)] h (min m.n i))
(W.ah (ag TE h 3 (ptrTo a.n)) fun k=>W.bz (.func 66) [k,(.int .i64 0),(.int .i64 39)] h fun l n o=>W.ah (fK .not l) fun p=>d [p] n (min (min m.n i) o)))
(fun q r s=>W.un q fun t u=>aW t
(W.ah (aO TE 27 []) fun v=>W.aK (aw TE r 27 (ptrTo b.n) v) fun w y=>ah (ag TE w 27 (ptrTo b.n)) fun z=>R [z,(.int .i64 410)] w (min s y))
(W.ah (ag TE r 31 (ptrTo m.n)) fun A=>W.bz (.func 67) [A] r fun B C D=>W.bW (M.push C (.cells [(.map none)] 133 none)) fun E=>W.aK (aw TE E 133 (ptrTo C.n) B) fun F G=>W.bz (.func 68) [(.int .i64 40),(.int .i64 8),(.func (.func 69) #[] #[(ptrTo C.n),(ptrTo a.n)])] F fun H I J=>W.aK (aw TE I 27 (ptrTo b.n) H) fun K L=>ah (ag TE K 27 (ptrTo b.n)) fun N=>R [N,(.int .i64 0)] K (min (min (min (min s D) G) J) L)))):=by kernel_rfl
set_option maxRecDepth 100000 in
theorem YF{W:Words}{x0 x1 x2 x3:Value}{m:M}{R:List Value->M->Nat->Prop}:dt TE W Tryz.f69 [x0,x1,x2,x3] m R=
(W.ah (ag TE m 133 x2) fun a=>W.ah (ag TE m 3 x3) fun b=>W.ah (aO TE 98 [(0,x0),(1,b)]) fun c=>W.ah (dL TE m 133 a c false) fun d=>W.bz (.func 70) [d,x1] m fun f g h=>R [f] g (min m.n h)):=by kernel_rfl
set_option maxRecDepth 100000 in
theorem VW{W:Words}{x0 x1:Value}{m:M}{R:List Value->M->Nat->Prop}:dt TE W Tryz.f17 [x0,x1] m R=
(W.bW (M.push m (.cells (cells x0) 31 none)) fun a=>W.bW (M.push a (.cells (cells x1) 3 none)) fun b=>W.bW (M.push b (.cells [(.int .i64 0),(.int .i64 0),(.slice none 0 0)] 27 none)) fun c=>W.jn (fun d=>W.ah (ag TE c 31 (ptrTo m.n)) fun f=>W.bz (.func 59) [f] c fun g h i=>W.ah (fK .not g) fun j=>aW j
(d [(.bool true)] h (min m.n i))
(W.ah (ag TE h 3 (ptrTo a.n)) fun k=>W.bz (.func 66) [k,(.int .i64 0),(.int .i64 39)] h fun l n o=>W.ah (fK .not l) fun p=>d [p] n (min (min m.n i) o)))
(fun q r s=>W.un q fun t u=>aW t
(W.ah (aO TE 27 []) fun v=>W.aK (aw TE r 27 (ptrTo b.n) v) fun w y=>ah (ag TE w 27 (ptrTo b.n)) fun z=>R [z,(.int .i64 410)] w (min s y))
(W.ah (ag TE r 31 (ptrTo m.n)) fun A=>W.bz (.func 67) [A] r fun B C D=>W.bW (M.push C (.cells [(.map none)] 133 none)) fun E=>W.aK (aw TE E 133 (ptrTo C.n) B) fun F G=>W.bz (.func 68) [(.int .i64 8),(.int .i64 40),(.func (.func 72) #[] #[(ptrTo C.n),(ptrTo a.n)])] F fun H I J=>W.aK (aw TE I 27 (ptrTo b.n) H) fun K L=>ah (ag TE K 27 (ptrTo b.n)) fun N=>R [N,(.int .i64 0)] K (min (min (min (min s D) G) J) L)))):=by kernel_rfl
set_option maxRecDepth 100000 in
theorem YC{W:Words}{x0 x1 x2 x3:Value}{m:M}{R:List Value->M->Nat->Prop}:dt TE W Tryz.f72 [x0,x1,x2,x3] m R=
(W.ah (ag TE m 133 x2) fun a=>W.ah (ag TE m 3 x3) fun b=>W.ah (aO TE 98 [(0,b),(1,x1)]) fun c=>W.ah (dL TE m 133 a c false) fun d=>W.bz (.func 70) [d,x0] m fun f g h=>R [f] g (min m.n h)):=by kernel_rfl
set_option maxRecDepth 100000 in
theorem YE{W:Words}{x0 x1:Value}{m:M}{R:List Value->M->Nat->Prop}:dt TE W Tryz.f70 [x0,x1] m R=
(W.bW (M.push m (.cells (cells x1) 3 none)) fun a=>W.bz (.func 138) [x0,(.func (.func 139) #[] #[(ptrTo m.n)])] a fun b c d=>W.ah (aq TE .lss 3 b (.int .i64 0)) fun f=>aW f
(R [(.int .i64 (-1))] c (min m.n d))
(W.ah (ai TE 29 x0 b) fun g=>W.ah (ae TE 87 g 0) fun h=>W.ah (ag TE c 3 h) fun i=>R [i] c (min m.n d))):=by kernel_rfl
set_option maxRecDepth 100000 in
theorem Rf{W:Words}{x0 x1:Value}{m:M}{R:List Value->M->Nat->Prop}:dt TE W Tryz.f139 [x0,x1] m R=
(W.bW (M.push m (.cells (cells x0) 87 none)) fun a=>W.jn (fun b=>W.ah (ae TE 87 (ptrTo m.n) 4) fun c=>W.ah (ag TE a 3 c) fun d=>W.ah (ag TE a 3 x1) fun f=>W.ah (aq TE .leq 3 d f) fun g=>aW g
(W.ah (ag TE a 3 x1) fun h=>W.ah (ae TE 87 (ptrTo m.n) 5) fun i=>W.ah (ag TE a 3 i) fun j=>W.ah (aq TE .lss 3 h j) fun k=>b [k] a m.n)
(b [(.bool false)] a m.n))
(fun l n o=>W.un l fun p q=>R [p] n o)):=by kernel_rfl
end Go.Proofs.YtmdfgncoekfgdaaGreatDoor
namespace Go.Proofs.YtmdfgncoekfgdaaGreatDoor
open Go Go.D
variable {X:aF} {m:M}
def sy(z:Int)(u:Un):Bool:=decide (u.back<=z) && decide (z < u.front)
def fh(us:List Un)(z:Int):Int:=GR (us.find? (sy z))
theorem nH{α:Type}{p:α->Bool}:∀{l:List α} {i:Nat} {x:α},l[i]?=some x->p x=true->(∀j y,j < i->l[j]?=some y->p y=false)->l.find? p=some x
 |[],i,x,h,_,_=>by simp at h
 |a::l,0,x,h,hp,_=>by
  have h:a=x:=by simpa using h
  subst h
  rw[List.find?_cons_of_pos hp]
 |a::l,i+1,x,h,hp,hf=>by
  rw[List.find?_cons_of_neg (by rw[hf 0 a (by omega) rfl];decide)]
  exact nH (i:=i) (by simpa using h) hp fun j y hj hy=>hf (j+1) y (by omega) (by simpa using hy)
theorem HN(hX:cW X){u:Un}{w:Value}{b:Nat}{z:Int}(hb:m.get b=.cells [.int .i64 z] 3 none):C X (.func 139) [u.v w,ptrTo b] m m.n (.bool (sy z u)) m:=by
 refine Cl.flat (hX.no _ rfl) Mp rfl rfl ?_
 rw[Rf];dsimp only[aI]
 refine au fun m1 hn1 hg1 hk1=>?_
 have hg1:m1.get m.n=.cells (u.c w) 87 none:=hg1
 obtain⟨-, -, -, -,l4,l5⟩:=zv hg1
 have hb1:m1.get b=.cells [.int .i64 z] 3 none:=by rw[hk1 b (M.aV hb),hb]
 have lz:ag TE m1 3 (.pointer (some ⟨b,0,none⟩))=some (.int .i64 z):=by rw[bu,av hb1];rfl
 unfold ptrTo
 refine bY (fun vs mm lo=>vs=[.bool (sy z u)]/\m1=mm/\m.n<=lo) (fun R hR=>?_) ?_
 ·rw[cI,aa,l4,aa,lz,aa,cK,aa,aj]
  refine ak (fun h=>?_) (fun h=>?_)
  ·rw[aa,cH,aa,l5,aa,aH,aa]
   refine hR _ _ _ ⟨?_,rfl,by omega⟩
   unfold sy
   rw[h,Bool.true_and]
  ·refine hR _ _ _ ⟨?_,rfl,by omega⟩
   unfold sy
   rw[h,Bool.false_and]
 rintro _ _ lo ⟨rfl,rfl,hlo⟩
 rw[aA]
 exact⟨rfl,hlo⟩
theorem uh(hX:cW X){us:List Un}{v:Value}(h:Sl m us v)(hlen:us.length < 1000000)(z:Int):C X (.func 70) [v,.int .i64 z] m m.n (.int .i64 (fh us z)) m:=by
 refine Cl.flat (hX.no _ rfl) Ov rfl rfl ?_
 rw[YE];dsimp only[aI]
 refine au fun m1 hn1 hg1 hk1=>?_
 have hx1:Ext m m1:=⟨by omega,hk1⟩
 have h1:=h.aB hx1
 refine aC (oN (m:=m1) lG (hX.no _ rfl) Mq rfl Dz (sy z) (by omega) h1 fun x hx cs hr=>by
  obtain⟨w,rfl,_⟩:=hr
  exact HN hX hg1) ?_
 rcases km (sy z) us with⟨e,hno⟩ |⟨i,x,e,hx,hp,hf⟩
 ·rw[e,aH,aa,aj,show decide ((-1:Int)< 0)=true from rfl,bJ]
  have:fh us z= -1:=by
   unfold fh
   rw[List.find?_eq_none.2 fun x hx=>by rw[hno x hx];decide];rfl
  rw[this]
  exact⟨rfl,by omega⟩
 ·rw[e,aH,aa,aj,decide_eq_false (by omega),aM]
  obtain⟨b,o,bc,g,cs,ea,hb,hr,hle,hj⟩:=h1.kQ lG (k:=.i64) hx
  obtain⟨w,rfl,_⟩:=hr
  rw[ea,aa,ct,aa]
  have l0:ag TE m1 3 (.pointer (some ⟨b,o+0,none⟩))=some (.int .i64 x.id):=by rw[bu,av hb,hj 0 (by decide)];rfl
  rw[l0,aa]
  have:fh us z=x.id:=by
   unfold fh
   rw[nH hx hp hf];rfl
  rw[this]
  exact⟨rfl,by omega⟩
theorem xQ(hX:cW X){us:List UW}{b1 b2 r n1:Nat}{kv:List jI}{c:Int}(h1:m.get b1=.cells [.int .i64 c] 3 none)(h2:m.get b2=.cells [.map (some r)] 133 none)
  (hpm:PM n1 m r kv) (hget:∀q,fy kv q=jH us q) (hsh:∀x∈us,Sl m x.u.shape x.w) (hlen:us.length<=1000) {x y:Int}:
  C X (.func 69) [.int .i64 x,.int .i64 y,ptrTo b2,ptrTo b1] m m.n (.int .i64 (fh (dT (us.map (·.u)) ⟨x,c⟩) y)) m:=by
 refine Cl.flat (hX.no _ rfl) Ox rfl rfl ?_
 rw[YF];dsimp only[aI]
 unfold ptrTo
 have ldm:ag TE m 133 (.pointer (some ⟨b2,0,none⟩))=some (.map (some r)):=by rw[sd,av h2];rfl
 have ldc:ag TE m 3 (.pointer (some ⟨b1,0,none⟩))=some (.int .i64 c):=by rw[bu,av h1];rfl
 rw[ldm,aa,ldc,aa,cd rfl rfl,aa]
 obtain⟨v5,e5,hs5⟩:=hpm.lookup ⟨x,c⟩
 have e5:dL TE m 133 (.map (some r)) (Pl.v ⟨x,c⟩) false=some v5:=e5
 rw[show(Value.agg (cells (Value.int .i64 x)++cells (Value.int .i64 c)).toArray)=Pl.v ⟨x,c⟩from rfl,e5,aa]
 rw[hget]at hs5
 have hsu:=hs5.yA fun x hx=>hsh x (List.mem_filter.1 hx |>.1)
 rw[oT]at hsu
 have hl:(dT (us.map (·.u)) ⟨x,c⟩).length < 1000000:=by
  have:(dT (us.map (·.u)) ⟨x,c⟩).length<=(us.map (·.u)).length:=List.length_filter_le _ _
  rw[List.length_map]at this
  omega
 refine aC (uh hX hsu hl y) ?_
 exact⟨rfl,by omega⟩
theorem Jf(hX:cW X){l:List UW}{v:Value}(h:dS m l v)(hP:cB (bV l)){c:Int}(hc:0<=c/\c<=39):
  ∃v' m',C X (.func 15) [.agg #[v],.int .i64 c] m m.n (.tuple #[cF 40 8 v',.int .i64 0]) m'/\Ext m m'/\Ow m.n m' (cn (fun i j=>fh (dT (bV l) ⟨i,c⟩) j) 40 8) v':=by
 have hl:l.length<=12:=by have:=hP.len;rwa[dY]at this
 have key:∃rv m' b,C X (.func 15) [.agg #[v],.int .i64 c] m b rv m'/\b=m.n/\∃v',rv=.tuple #[cF 40 8 v',.int .i64 0]/\Ext m m'/\Ow m.n m' (cn (fun i j=>fh (dT (bV l) ⟨i,c⟩) j) 40 8) v':=by
  refine Cl.heap (R:=fun rv m' b=>b=m.n/\∃v',rv=.tuple #[cF 40 8 v',.int .i64 0]/\Ext m m'/\Ow m.n m' (cn (fun i j=>fh (dT (bV l) ⟨i,c⟩) j) 40 8) v') (hX.no _ rfl) KC rfl ?_
  rw[VX];dsimp only[aI]
  refine au fun m1 hn1 hg1 hk1=>?_
  refine au fun m2 hn2 hg2 hk2=>?_
  refine au fun m3 hn3 hg3 hk3=>?_
  have hx3:Ext m m3:=⟨by omega,fun c hc=>by rw[hk3 c (by omega),hk2 c (by omega),hk1 c hc]⟩
  have g0:m3.get m.n=.cells [v] 31 none:=by rw[hk3 _ (by omega),hk2 _ (by omega)];exact hg1
  have gc:m3.get m1.n=.cells [.int .i64 c] 3 none:=by rw[hk3 _ (by omega)];exact hg2
  have hF:=h.aB hx3
  unfold ptrTo
  have ld:ag TE m3 31 (.pointer (some ⟨m.n,0,none⟩))=some (.agg #[v]):=by rw[cZ,aE g0 (by simp)];rfl
  have ldc:ag TE m3 3 (.pointer (some ⟨m1.n,0,none⟩))=some (.int .i64 c):=by rw[bu,av gc];rfl
  refine bY (fun vs mm lo=>vs=[.bool false]/\m3=mm/\m.n<=lo) (fun R hR=>?_) ?_
  ·rw[ld,aa]
   refine aC (je hX hF (by omega)) ?_
   rw[fM hP,aX,aa,aj,Bool.not_true,aM,ldc,aa]
   refine aC (gy hX _ _ _) ?_
   have:eA c 0 39=true:=by unfold eA;rw[decide_eq_true hc.1,decide_eq_true hc.2];rfl
   rw[this,aX,aa]
   exact hR _ _ _ ⟨rfl,rfl,by omega⟩
  rintro _ _ lo7 ⟨rfl,rfl,hlo7⟩
  rw[aA,aj,aM,ld,aa]
  obtain⟨m26,kv,hcv,hx26,hpm,hget⟩:=pZ hX hF.sl hF.sh (fun x hx=>qM (hP.val x.u (List.mem_map.2 ⟨x,hx,rfl⟩))) (by omega)
  refine aC hcv ?_
  have n26:=hx26.n
  refine au fun m28 hn28 hg28 hk28=>?_
  refine aD zH hg28 rfl rfl rfl fun m29 hn29 hg29 hk29=>?_
  have hx2629:Ext m26 m29:=⟨by omega,fun b hb=>by rw[hk29 b (by omega),hk28 b hb]⟩
  have hx329:=hx26.trans hx2629
  obtain⟨v',m32,hc32,hx32,ho32⟩:=vu (m:=m29) hX (w:=40) (h:=8) (by omega) (by omega) (g:=.func 69) (fi:= #[]) (ca:= #[.pointer (some ⟨m26.n,0,none⟩),.pointer (some ⟨m1.n,0,none⟩)]) (fun i j=>fh (dT (bV l) ⟨i,c⟩) j)
   (fun i j mm hi hj hx=>by
    have hx3m:=hx329.trans hx
    exact xQ (m:=mm) hX (b1:=m1.n) (b2:=m26.n) (hx3m.cells gc) (hx.cells (by rw[hg29];rfl)) ((hpm.aB hx2629).aB hx) hget (fun x hx'=>(hF.sh x hx').aB hx3m) (by omega)) (by omega)
  refine aC hc32 ?_
  have hx332:=hx329.trans hx32
  have gd:=hx332.cells hg3
  have hone:one v'=true:=ho32.sl.one
  have n32:=hx332.n
  refine aD dw gd rfl rfl (by show(true && (true && (one v' && true)))=true;rw[hone];rfl) fun m34 hn34 hg34 hk34=>?_
  have e2:ag TE m34 27 (.pointer (some ⟨m2.n,0,none⟩))=some (cF 40 8 v'):=by rw[bO,aE hg34 (by simp[aP])];rfl
  rw[e2,aa]
  have ho34:Ow m29.n m34 (cn (fun i j=>fh (dT (bV l) ⟨i,c⟩) j) 40 8) v':=ho32.bt fun b c t g hb ht=>by
   by_cases hbm:b=m2.n
   ·subst hbm
    rw[gd]at hb
    cases hb
    simp[aL.ty,aL.fR]at ht
   ·rw[hk34 b hbm,hb]
  refine⟨.inl ?_,by have:=hx329.n;omega,v',rfl,⟨by omega,fun b hb=>by rw[hk34 b (by omega),(hx3.trans hx332).get b hb]⟩,ho34.mono (by have:=hx329.n;omega)⟩
  rcases ho34 with⟨_,h0⟩ |⟨b,cs,rfl,_⟩
  ·have:=congrArg List.length h0
   rw[cy]at this
   simp at this
  ·simp[aR,bD,eV,bP,cF]
 obtain⟨rv,m',b,hc,rfl,v',rfl,h1,h2⟩:=key
 exact⟨v',m',hc,h1,h2⟩
theorem rz(hX:cW X){us:List UW}{b1 b2 r n1:Nat}{kv:List jI}{c:Int}(h1:m.get b1=.cells [.int .i64 c] 3 none)(h2:m.get b2=.cells [.map (some r)] 133 none)
  (hpm:PM n1 m r kv) (hget:∀q,fy kv q=jH us q) (hsh:∀x∈us,Sl m x.u.shape x.w) (hlen:us.length<=1000) {x y:Int}:
  C X (.func 72) [.int .i64 x,.int .i64 y,ptrTo b2,ptrTo b1] m m.n (.int .i64 (fh (dT (us.map (·.u)) ⟨c,y⟩) x)) m:=by
 refine Cl.flat (hX.no _ rfl) Ot rfl rfl ?_
 rw[YC];dsimp only[aI]
 unfold ptrTo
 have ldm:ag TE m 133 (.pointer (some ⟨b2,0,none⟩))=some (.map (some r)):=by rw[sd,av h2];rfl
 have ldc:ag TE m 3 (.pointer (some ⟨b1,0,none⟩))=some (.int .i64 c):=by rw[bu,av h1];rfl
 rw[ldm,aa,ldc,aa,cd rfl rfl,aa]
 obtain⟨v5,e5,hs5⟩:=hpm.lookup ⟨c,y⟩
 have e5:dL TE m 133 (.map (some r)) (Pl.v ⟨c,y⟩) false=some v5:=e5
 rw[show(Value.agg (cells (Value.int .i64 c)++cells (Value.int .i64 y)).toArray)=Pl.v ⟨c,y⟩from rfl,e5,aa]
 rw[hget]at hs5
 have hsu:=hs5.yA fun x hx=>hsh x (List.mem_filter.1 hx |>.1)
 rw[oT]at hsu
 have hl:(dT (us.map (·.u)) ⟨c,y⟩).length < 1000000:=by
  have:(dT (us.map (·.u)) ⟨c,y⟩).length<=(us.map (·.u)).length:=List.length_filter_le _ _
  rw[List.length_map]at this
  omega
 refine aC (uh hX hsu hl x) ?_
 exact⟨rfl,by omega⟩
theorem zP(hX:cW X){l:List UW}{v:Value}(h:dS m l v)(hP:cB (bV l)){c:Int}(hc:0<=c/\c<=39):
  ∃v' m',C X (.func 17) [.agg #[v],.int .i64 c] m m.n (.tuple #[cF 8 40 v',.int .i64 0]) m'/\Ext m m'/\Ow m.n m' (cn (fun i j=>fh (dT (bV l) ⟨c,j⟩) i) 8 40) v':=by
 have hl:l.length<=12:=by have:=hP.len;rwa[dY]at this
 have key:∃rv m' b,C X (.func 17) [.agg #[v],.int .i64 c] m b rv m'/\b=m.n/\∃v',rv=.tuple #[cF 8 40 v',.int .i64 0]/\Ext m m'/\Ow m.n m' (cn (fun i j=>fh (dT (bV l) ⟨c,j⟩) i) 8 40) v':=by
  refine Cl.heap (R:=fun rv m' b=>b=m.n/\∃v',rv=.tuple #[cF 8 40 v',.int .i64 0]/\Ext m m'/\Ow m.n m' (cn (fun i j=>fh (dT (bV l) ⟨c,j⟩) i) 8 40) v') (hX.no _ rfl) KB rfl ?_
  rw[VW];dsimp only[aI]
  refine au fun m1 hn1 hg1 hk1=>?_
  refine au fun m2 hn2 hg2 hk2=>?_
  refine au fun m3 hn3 hg3 hk3=>?_
  have hx3:Ext m m3:=⟨by omega,fun c hc=>by rw[hk3 c (by omega),hk2 c (by omega),hk1 c hc]⟩
  have g0:m3.get m.n=.cells [v] 31 none:=by rw[hk3 _ (by omega),hk2 _ (by omega)];exact hg1
  have gc:m3.get m1.n=.cells [.int .i64 c] 3 none:=by rw[hk3 _ (by omega)];exact hg2
  have hF:=h.aB hx3
  unfold ptrTo
  have ld:ag TE m3 31 (.pointer (some ⟨m.n,0,none⟩))=some (.agg #[v]):=by rw[cZ,aE g0 (by simp)];rfl
  have ldc:ag TE m3 3 (.pointer (some ⟨m1.n,0,none⟩))=some (.int .i64 c):=by rw[bu,av gc];rfl
  refine bY (fun vs mm lo=>vs=[.bool false]/\m3=mm/\m.n<=lo) (fun R hR=>?_) ?_
  ·rw[ld,aa]
   refine aC (je hX hF (by omega)) ?_
   rw[fM hP,aX,aa,aj,Bool.not_true,aM,ldc,aa]
   refine aC (gy hX _ _ _) ?_
   have:eA c 0 39=true:=by unfold eA;rw[decide_eq_true hc.1,decide_eq_true hc.2];rfl
   rw[this,aX,aa]
   exact hR _ _ _ ⟨rfl,rfl,by omega⟩
  rintro _ _ lo7 ⟨rfl,rfl,hlo7⟩
  rw[aA,aj,aM,ld,aa]
  obtain⟨m26,kv,hcv,hx26,hpm,hget⟩:=pZ hX hF.sl hF.sh (fun x hx=>qM (hP.val x.u (List.mem_map.2 ⟨x,hx,rfl⟩))) (by omega)
  refine aC hcv ?_
  have n26:=hx26.n
  refine au fun m28 hn28 hg28 hk28=>?_
  refine aD zH hg28 rfl rfl rfl fun m29 hn29 hg29 hk29=>?_
  have hx2629:Ext m26 m29:=⟨by omega,fun b hb=>by rw[hk29 b (by omega),hk28 b hb]⟩
  have hx329:=hx26.trans hx2629
  obtain⟨v',m32,hc32,hx32,ho32⟩:=vu (m:=m29) hX (w:=8) (h:=40) (by omega) (by omega) (g:=.func 72) (fi:= #[]) (ca:= #[.pointer (some ⟨m26.n,0,none⟩),.pointer (some ⟨m1.n,0,none⟩)]) (fun i j=>fh (dT (bV l) ⟨c,j⟩) i)
   (fun i j mm hi hj hx=>by
    have hx3m:=hx329.trans hx
    exact rz (m:=mm) hX (b1:=m1.n) (b2:=m26.n) (hx3m.cells gc) (hx.cells (by rw[hg29];rfl)) ((hpm.aB hx2629).aB hx) hget (fun x hx'=>(hF.sh x hx').aB hx3m) (by omega)) (by omega)
  refine aC hc32 ?_
  have hx332:=hx329.trans hx32
  have gd:=hx332.cells hg3
  have hone:one v'=true:=ho32.sl.one
  have n32:=hx332.n
  refine aD dw gd rfl rfl (by show(true && (true && (one v' && true)))=true;rw[hone];rfl) fun m34 hn34 hg34 hk34=>?_
  have e2:ag TE m34 27 (.pointer (some ⟨m2.n,0,none⟩))=some (cF 8 40 v'):=by rw[bO,aE hg34 (by simp[aP])];rfl
  rw[e2,aa]
  have ho34:Ow m29.n m34 (cn (fun i j=>fh (dT (bV l) ⟨c,j⟩) i) 8 40) v':=ho32.bt fun b c t g hb ht=>by
   by_cases hbm:b=m2.n
   ·subst hbm
    rw[gd]at hb
    cases hb
    simp[aL.ty,aL.fR]at ht
   ·rw[hk34 b hbm,hb]
  refine⟨.inl ?_,by have:=hx329.n;omega,v',rfl,⟨by omega,fun b hb=>by rw[hk34 b (by omega),(hx3.trans hx332).get b hb]⟩,ho34.mono (by have:=hx329.n;omega)⟩
  rcases ho34 with⟨_,h0⟩ |⟨b,cs,rfl,_⟩
  ·have:=congrArg List.length h0
   rw[cy]at this
   simp at this
  ·simp[aR,bD,eV,bP,cF]
 obtain⟨rv,m',b,hc,rfl,v',rfl,h1,h2⟩:=key
 exact⟨v',m',hc,h1,h2⟩
end Go.Proofs.YtmdfgncoekfgdaaGreatDoor
namespace Go.Proofs.YtmdfgncoekfgdaaGreatDoor
open Go Go.D
theorem cB.depth{us:List Un}(h:cB us){u:Un}(hu:u∈us):0<=u.back/\u.back < u.front/\u.front<=8:=by
 have:=h.val u hu
 simp only[nV,eA,Bool.and_eq_true,decide_eq_true_eq]at this
 omega
end Go.Proofs.YtmdfgncoekfgdaaGreatDoor
namespace Go.Proofs.YtmdfgncoekfgdaaGreatDoor
open Go Go.D
set_option maxRecDepth 100000 in
theorem YM{W:Words}{x0:Value}{m:M}{R:List Value->M->Nat->Prop}:dt TE W Tryz.f62 [x0] m R=
(W.Lp (fun a b c d=>W.un b fun f g=>W.un g fun h i=>W.un i fun j k=>W.aK (an TE c .len [29] [x0]) fun l _=>W.ah (aq TE .lss 3 j l) fun n=>aW n
(W.ah (ai TE 29 x0 j) fun o=>W.ah (ae TE 87 o 4) fun p=>W.ah (ag TE c 3 p) fun q=>W.ah (aq TE .lss 3 q h) fun r=>aW r
(W.ah (ai TE 29 x0 j) fun s=>W.ah (ae TE 87 s 0) fun t=>W.ah (ag TE c 3 t) fun u=>W.ah (ai TE 29 x0 j) fun v=>W.ah (ae TE 87 v 4) fun w=>W.ah (ag TE c 3 w) fun y=>W.ah (aq TE .add 3 j (.int .i64 1)) fun z=>a [u,y,z] c d)
(W.ah (aq TE .add 3 j (.int .i64 1)) fun A=>a [f,h,A] c d))
(R [f] c d)) [(.int .i64 (-1)),(.int .i64 8),(.int .i64 0)] m m.n):=by kernel_rfl
set_option maxRecDepth 100000 in
theorem YD{W:Words}{x0 x1:Value}{m:M}{R:List Value->M->Nat->Prop}:dt TE W Tryz.f71 [x0,x1] m R=
(W.Lp (fun a b c d=>W.un b fun f g=>W.un g fun h i=>W.aK (an TE c .len [29] [x0]) fun j _=>W.ah (aq TE .lss 3 h j) fun k=>aW k
(W.jn (fun l=>W.ah (ai TE 29 x0 h) fun n=>W.ah (ae TE 87 n 4) fun o=>W.ah (ag TE c 3 o) fun p=>W.ah (aq TE .leq 3 p x1) fun q=>aW q
(W.ah (ai TE 29 x0 h) fun r=>W.ah (ae TE 87 r 5) fun s=>W.ah (ag TE c 3 s) fun t=>W.ah (aq TE .lss 3 x1 t) fun u=>l [u] c d)
(l [(.bool false)] c d))
(fun v w y=>W.un v fun z A=>aW z
(W.ah (ai TE 29 x0 h) fun B=>W.ah (ae TE 87 B 0) fun C=>W.ah (ag TE w 3 C) fun D=>R [D] w y)
(W.ah (aq TE .add 3 h (.int .i64 1)) fun E=>a [f,E] w y)))
(R [(.int .i64 (-1))] c d)) [(.int .i64 0),(.int .i64 0)] m m.n):=by kernel_rfl
set_option maxRecDepth 100000 in
theorem YK{W:Words}{x0:Value}{m:M}{R:List Value->M->Nat->Prop}:dt TE W Tryz.f64 [x0] m R=
(W.Lp (fun a b c d=>W.un b fun f g=>W.un g fun h i=>W.un i fun j k=>W.aK (an TE c .len [29] [x0]) fun l _=>W.ah (aq TE .lss 3 j l) fun n=>aW n
(W.ah (ai TE 29 x0 j) fun o=>W.ah (ae TE 87 o 5) fun p=>W.ah (ag TE c 3 p) fun q=>W.ah (aq TE .gtr 3 q h) fun r=>aW r
(W.ah (ai TE 29 x0 j) fun s=>W.ah (ae TE 87 s 0) fun t=>W.ah (ag TE c 3 t) fun u=>W.ah (ai TE 29 x0 j) fun v=>W.ah (ae TE 87 v 5) fun w=>W.ah (ag TE c 3 w) fun y=>W.ah (aq TE .add 3 j (.int .i64 1)) fun z=>a [u,y,z] c d)
(W.ah (aq TE .add 3 j (.int .i64 1)) fun A=>a [f,h,A] c d))
(R [f] c d)) [(.int .i64 (-1)),(.int .i64 0),(.int .i64 0)] m m.n):=by kernel_rfl
set_option maxRecDepth 100000 in
theorem Rg{W:Words}{x0 x1 x2:Value}{m:M}{R:List Value->M->Nat->Prop}:dt TE W Tryz.f137 [x0,x1,x2] m R=
(W.jn (fun a=>W.bz (.func 127) [x0] m fun b c d=>W.ah (fK .not b) fun f=>aW f
(a [(.bool true)] c (min m.n d))
(W.ah (aq TE .lss 3 x1 (.int .i64 0)) fun g=>aW g
(a [(.bool true)] c (min m.n d))
(W.ah (aq TE .geq 3 x1 (.int .i64 40)) fun h=>aW h
(a [(.bool true)] c (min m.n d))
(W.ah (aq TE .lss 3 x2 (.int .i64 0)) fun i=>aW i
(a [(.bool true)] c (min m.n d))
(W.ah (aq TE .geq 3 x2 (.int .i64 40)) fun j=>a [j] c (min m.n d))))))
(fun k l n=>W.un k fun o p=>aW o
(R [(.int .i64 (-1))] l n)
(W.Lp (fun q r s t=>W.un r fun u v=>W.un v fun w y=>W.aK (an TE s .len [45] [x0]) fun z _=>W.ah (aq TE .lss 3 w z) fun A=>aW A
(W.ah (ai TE 45 x0 w) fun B=>W.ah (ae TE 98 B 0) fun C=>W.ah (ag TE s 3 C) fun D=>W.ah (aq TE .mul 3 (.int .i64 2) D) fun E=>W.ah (ai TE 45 x0 w) fun F=>W.ah (ae TE 98 F 1) fun G=>W.ah (ag TE s 3 G) fun H=>W.ah (aq TE .mul 3 (.int .i64 2) H) fun I=>W.ah (aO TE 98 [(0,E),(1,I)]) fun J=>W.aK (az TE s 45 1 [(0,J)]) fun K L=>W.aK (an TE (M.wl L L.n) .append [45,45] [u,K]) fun N O=>W.ah (aq TE .add 3 w (.int .i64 1)) fun P=>q [N,P] O (min t (M.low O)))
(W.ah (aq TE .mul 3 (.int .i64 2) x1) fun Q=>W.ah (aq TE .add 3 Q (.int .i64 1)) fun S=>W.ah (aq TE .mul 3 (.int .i64 2) x2) fun T=>W.ah (aq TE .add 3 T (.int .i64 1)) fun U=>W.ah (aO TE 98 [(0,S),(1,U)]) fun V=>W.bz (.func 192) [u,V] s fun X Y Z=>R [X] Y (min t Z))) [(.slice none 0 0),(.int .i64 0)] l n))):=by kernel_rfl
set_option maxRecDepth 100000 in
theorem QX{W:Words}{x0 x1:Value}{m:M}{R:List Value->M->Nat->Prop}:dt TE W Tryz.f192 [x0,x1] m R=
(W.bW (M.push m (.cells (cells x1) 98 none)) fun a=>W.Lp (fun b c d f=>W.un c fun g h=>W.un h fun i j=>W.un j fun k l=>W.aK (an TE d .len [45] [x0]) fun n _=>W.ah (aq TE .lss 3 k n) fun o=>aW o
(W.ah (ai TE 45 x0 k) fun p=>W.ah (ag TE d 98 p) fun q=>W.bz (.func 166) [x0,k] d fun r s t=>(M.n d<=t)/\(W.ah (ag TE s 98 (ptrTo m.n)) fun u=>W.bz (.func 108) [q,r,u] s fun v w y=>W.ah (aq TE .lss 3 v (.int .i64 0)) fun z=>aW z
(R [(.int .i64 (-1))] w (min (min f t) y))
(W.ah (aq TE .eql 3 v (.int .i64 0)) fun A=>aW A
(W.ah (aq TE .add 3 k (.int .i64 1)) fun B=>b [g,(.int .i64 0),B] w (min (min f t) y))
(W.ah (aq TE .add 3 k (.int .i64 1)) fun C=>b [g,i,C] w (min (min f t) y)))))
(R [i] d f)) [(.int .i64 0),(.int .i64 1),(.int .i64 0)] a m.n):=by kernel_rfl
set_option maxRecDepth 100000 in
theorem YL{W:Words}{x0 x1 x2:Value}{m:M}{R:List Value->M->Nat->Prop}:dt TE W Tryz.f63 [x0,x1,x2] m R=
(W.bW (M.push m (.cells (cells x0) 31 none)) fun a=>W.Lp (fun b c d f=>W.un c fun g h=>W.un h fun i j=>W.ah (ae TE 31 (ptrTo m.n) 0) fun k=>W.ah (ag TE d 29 k) fun l=>W.aK (an TE d .len [29] [l]) fun n _=>W.ah (aq TE .lss 3 i n) fun o=>aW o
(W.ah (ae TE 31 (ptrTo m.n) 0) fun p=>W.ah (ag TE d 29 p) fun q=>W.ah (ai TE 29 q i) fun r=>W.ah (ae TE 87 r 3) fun s=>W.ah (ag TE d 45 s) fun t=>W.bz (.func 137) [t,x1,x2] d fun u v w=>W.ah (aq TE .geq 3 u (.int .i64 0)) fun y=>aW y
(W.ah (ae TE 31 (ptrTo m.n) 0) fun z=>W.ah (ag TE v 29 z) fun A=>W.ah (ai TE 29 A i) fun B=>W.ah (ag TE v 87 B) fun C=>W.aK (az TE v 29 1 [(0,C)]) fun D E=>W.aK (an TE (M.wl E E.n) .append [29,29] [g,D]) fun F G=>W.ah (aq TE .add 3 i (.int .i64 1)) fun H=>b [F,H] G (min (min f w) (M.low G)))
(W.ah (aq TE .add 3 i (.int .i64 1)) fun I=>b [g,I] v (min f w)))
(R [g] d f)) [(.slice none 0 0),(.int .i64 0)] a m.n):=by kernel_rfl
set_option maxRecDepth 100000 in
theorem Y8{W:Words}{x0 x1:Value}{m:M}{R:List Value->M->Nat->Prop}:dt TE W Tryz.f12 [x0,x1] m R=
(W.bW (M.push m (.cells (cells x0) 31 none)) fun a=>W.bW (M.push a (.cells [(.int .i64 0),(.int .i64 0),(.slice none 0 0)] 27 none)) fun b=>W.ah (ag TE b 31 (ptrTo m.n)) fun c=>W.bz (.func 61) [c] b fun d f g=>W.ah (fK .not d) fun h=>aW h
(W.ah (aO TE 27 []) fun i=>W.aK (aw TE f 27 (ptrTo a.n) i) fun j k=>ah (ag TE j 27 (ptrTo a.n)) fun l=>R [l,(.int .i64 410)] j (min (min m.n g) k))
(W.ah (aO TE 27 [(0,(.int .i64 40)),(1,(.int .i64 40))]) fun n=>W.bW (M.push f (.cells [(.int .i64 0),(.int .i64 0),(.slice none 0 0)] 27 none)) fun o=>W.aK (aw TE o 27 (ptrTo f.n) n) fun p q=>W.Lp (fun r s t u=>W.un s fun v w=>W.ah (ae TE 27 (ptrTo f.n) 1) fun y=>W.ah (ag TE t 3 y) fun z=>W.ah (aq TE .lss 3 v z) fun A=>aW A
(W.Lp (fun B C D E=>W.un C fun F G=>W.ah (ae TE 27 (ptrTo f.n) 0) fun H=>W.ah (ag TE D 3 H) fun I=>W.ah (aq TE .lss 3 F I) fun J=>aW J
(aW x1
(W.ah (ae TE 27 (ptrTo f.n) 2) fun K=>W.ah (ag TE D 25 K) fun L=>W.ah (ag TE D 31 (ptrTo m.n)) fun N=>W.ah (aq TE .sub 3 (.int .i64 39) F) fun O=>W.bz (.func 63) [N,O,v] D fun P Q S=>(M.n D<=S)/\(W.bz (.func 62) [P] Q fun T U V=>(M.n Q<=V)/\(W.aK (az TE U 25 1 [(0,T)]) fun X Y=>W.aK (an TE (M.wl Y Y.n) .append [25,25] [L,X]) fun Z a0=>W.ah (ae TE 27 (ptrTo f.n) 2) fun a1=>W.aK (aw TE a0 25 a1 Z) fun a2 a3=>W.ah (aq TE .add 3 F (.int .i64 1)) fun a4=>B [a4] a2 (min (min (min (min E S) V) (M.low a0)) a3))))
(W.ah (ae TE 27 (ptrTo f.n) 2) fun a5=>W.ah (ag TE D 25 a5) fun a6=>W.ah (ag TE D 31 (ptrTo m.n)) fun a7=>W.bz (.func 63) [a7,F,v] D fun a8 a9 b0=>(M.n D<=b0)/\(W.bz (.func 64) [a8] a9 fun b1 b2 b3=>(M.n a9<=b3)/\(W.aK (az TE b2 25 1 [(0,b1)]) fun b4 b5=>W.aK (an TE (M.wl b5 b5.n) .append [25,25] [a6,b4]) fun b6 b7=>W.ah (ae TE 27 (ptrTo f.n) 2) fun b8=>W.aK (aw TE b7 25 b8 b6) fun b9 c0=>W.ah (aq TE .add 3 F (.int .i64 1)) fun c1=>B [c1] b9 (min (min (min (min E b0) b3) (M.low b7)) c0)))))
(W.ah (aq TE .add 3 v (.int .i64 1)) fun c2=>r [c2] D E)) [(.int .i64 0)] t u)
(W.ah (ag TE t 27 (ptrTo f.n)) fun c3=>W.aK (aw TE t 27 (ptrTo a.n) c3) fun c4 c5=>ah (ag TE c4 27 (ptrTo a.n)) fun c6=>R [c6,(.int .i64 0)] c4 (min u c5))) [(.int .i64 0)] p (min (min m.n g) q))):=by kernel_rfl
set_option maxRecDepth 100000 in
theorem Y5{W:Words}{x0 x1:Value}{m:M}{R:List Value->M->Nat->Prop}:dt TE W Tryz.f16 [x0,x1] m R=
(W.bW (M.push m (.cells (cells x0) 31 none)) fun a=>W.bW (M.push a (.cells [(.int .i64 0),(.int .i64 0),(.slice none 0 0)] 27 none)) fun b=>W.jn (fun c=>W.ah (ag TE b 31 (ptrTo m.n)) fun d=>W.bz (.func 61) [d] b fun f g h=>W.ah (fK .not f) fun i=>aW i
(c [(.bool true)] g (min m.n h))
(W.ah (aq TE .lss 3 x1 (.int .i64 0)) fun j=>aW j
(c [(.bool true)] g (min m.n h))
(W.ah (aq TE .geq 3 x1 (.int .i64 40)) fun k=>c [k] g (min m.n h))))
(fun l n o=>W.un l fun p q=>aW p
(W.ah (aO TE 27 []) fun r=>W.aK (aw TE n 27 (ptrTo a.n) r) fun s t=>ah (ag TE s 27 (ptrTo a.n)) fun u=>R [u,(.int .i64 410)] s (min o t))
(W.ah (aO TE 27 [(0,(.int .i64 40)),(1,(.int .i64 8))]) fun v=>W.bW (M.push n (.cells [(.int .i64 0),(.int .i64 0),(.slice none 0 0)] 27 none)) fun w=>W.aK (aw TE w 27 (ptrTo n.n) v) fun y z=>W.Lp (fun A B C D=>W.un B fun E F=>W.ah (ae TE 27 (ptrTo n.n) 1) fun G=>W.ah (ag TE C 3 G) fun H=>W.ah (aq TE .lss 3 E H) fun I=>aW I
(W.Lp (fun J K L N=>W.un K fun O P=>W.ah (ae TE 27 (ptrTo n.n) 0) fun Q=>W.ah (ag TE L 3 Q) fun S=>W.ah (aq TE .lss 3 O S) fun T=>aW T
(W.ah (ae TE 27 (ptrTo n.n) 2) fun U=>W.ah (ag TE L 25 U) fun V=>W.ah (ag TE L 31 (ptrTo m.n)) fun X=>W.bz (.func 63) [X,O,x1] L fun Y Z a0=>(M.n L<=a0)/\(W.bz (.func 71) [Y,E] Z fun a1 a2 a3=>(M.n Z<=a3)/\(W.aK (az TE a2 25 1 [(0,a1)]) fun a4 a5=>W.aK (an TE (M.wl a5 a5.n) .append [25,25] [V,a4]) fun a6 a7=>W.ah (ae TE 27 (ptrTo n.n) 2) fun a8=>W.aK (aw TE a7 25 a8 a6) fun a9 b0=>W.ah (aq TE .add 3 O (.int .i64 1)) fun b1=>J [b1] a9 (min (min (min (min N a0) a3) (M.low a7)) b0))))
(W.ah (aq TE .add 3 E (.int .i64 1)) fun b2=>A [b2] L N)) [(.int .i64 0)] C D)
(W.ah (ag TE C 27 (ptrTo n.n)) fun b3=>W.aK (aw TE C 27 (ptrTo a.n) b3) fun b4 b5=>ah (ag TE b4 27 (ptrTo a.n)) fun b6=>R [b6,(.int .i64 0)] b4 (min D b5))) [(.int .i64 0)] y (min o z)))):=by kernel_rfl
set_option maxRecDepth 100000 in
theorem Y4{W:Words}{x0 x1:Value}{m:M}{R:List Value->M->Nat->Prop}:dt TE W Tryz.f18 [x0,x1] m R=
(W.bW (M.push m (.cells (cells x0) 31 none)) fun a=>W.bW (M.push a (.cells [(.int .i64 0),(.int .i64 0),(.slice none 0 0)] 27 none)) fun b=>W.jn (fun c=>W.ah (ag TE b 31 (ptrTo m.n)) fun d=>W.bz (.func 61) [d] b fun f g h=>W.ah (fK .not f) fun i=>aW i
(c [(.bool true)] g (min m.n h))
(W.ah (aq TE .lss 3 x1 (.int .i64 0)) fun j=>aW j
(c [(.bool true)] g (min m.n h))
(W.ah (aq TE .geq 3 x1 (.int .i64 40)) fun k=>c [k] g (min m.n h))))
(fun l n o=>W.un l fun p q=>aW p
(W.ah (aO TE 27 []) fun r=>W.aK (aw TE n 27 (ptrTo a.n) r) fun s t=>ah (ag TE s 27 (ptrTo a.n)) fun u=>R [u,(.int .i64 410)] s (min o t))
(W.ah (aO TE 27 [(0,(.int .i64 8)),(1,(.int .i64 40))]) fun v=>W.bW (M.push n (.cells [(.int .i64 0),(.int .i64 0),(.slice none 0 0)] 27 none)) fun w=>W.aK (aw TE w 27 (ptrTo n.n) v) fun y z=>W.Lp (fun A B C D=>W.un B fun E F=>W.ah (ae TE 27 (ptrTo n.n) 1) fun G=>W.ah (ag TE C 3 G) fun H=>W.ah (aq TE .lss 3 E H) fun I=>aW I
(W.Lp (fun J K L N=>W.un K fun O P=>W.ah (ae TE 27 (ptrTo n.n) 0) fun Q=>W.ah (ag TE L 3 Q) fun S=>W.ah (aq TE .lss 3 O S) fun T=>aW T
(W.ah (ae TE 27 (ptrTo n.n) 2) fun U=>W.ah (ag TE L 25 U) fun V=>W.ah (ag TE L 31 (ptrTo m.n)) fun X=>W.bz (.func 63) [X,x1,E] L fun Y Z a0=>(M.n L<=a0)/\(W.bz (.func 71) [Y,O] Z fun a1 a2 a3=>(M.n Z<=a3)/\(W.aK (az TE a2 25 1 [(0,a1)]) fun a4 a5=>W.aK (an TE (M.wl a5 a5.n) .append [25,25] [V,a4]) fun a6 a7=>W.ah (ae TE 27 (ptrTo n.n) 2) fun a8=>W.aK (aw TE a7 25 a8 a6) fun a9 b0=>W.ah (aq TE .add 3 O (.int .i64 1)) fun b1=>J [b1] a9 (min (min (min (min N a0) a3) (M.low a7)) b0))))
(W.ah (aq TE .add 3 E (.int .i64 1)) fun b2=>A [b2] L N)) [(.int .i64 0)] C D)
(W.ah (ag TE C 27 (ptrTo n.n)) fun b3=>W.aK (aw TE C 27 (ptrTo a.n) b3) fun b4 b5=>ah (ag TE b4 27 (ptrTo a.n)) fun b6=>R [b6,(.int .i64 0)] b4 (min D b5))) [(.int .i64 0)] y (min o z)))):=by kernel_rfl
end Go.Proofs.YtmdfgncoekfgdaaGreatDoor
namespace Go.Proofs.YtmdfgncoekfgdaaGreatDoor
open Go Go.D
variable {X:aF} {m:M}
theorem px{us:List Un}{v:Value}(h:Sl m us v){i:Nat}{u:Un}(hi:us[i]?=some u):∃b o w,ai TE 29 v (.int .i64 i)=some (.pointer (some ⟨b,o,none⟩))/\
  ag TE m 3 (.pointer (some ⟨b,o+0,none⟩))=some (.int .i64 u.id)/\ag TE m 45 (.pointer (some ⟨b,o+3,none⟩))=some w/\Sl m u.shape w/\
  ag TE m 3 (.pointer (some ⟨b,o+4,none⟩))=some (.int .i64 u.back)/\ag TE m 3 (.pointer (some ⟨b,o+5,none⟩))=some (.int .i64 u.front):=by
 obtain⟨b,o,bc,g,cs,ea,hb,hr,hle,hj⟩:=h.kQ lG (k:=.i64) hi
 obtain⟨w,rfl,hw⟩:=hr
 refine⟨b,o,w,ea,?_,?_,hw,?_,?_⟩
 ·rw[bu,av hb,hj 0 (by decide)];rfl
 ·rw[kO,av hb,hj 3 (by decide)];rfl
 ·rw[bu,av hb,hj 4 (by decide)];rfl
 ·rw[bu,av hb,hj 5 (by decide)];rfl
theorem Cb(hX:cW X){us:List Un}{v:Value}(h:Sl m us v)(hlen:us.length < 1000000)(z:Int):C X (.func 71) [v,.int .i64 z] m m.n (.int .i64 (fh us z)) m:=by
 refine Cl.flat (hX.no _ rfl) Ou rfl rfl ?_
 rw[YD];dsimp only[aI]
 refine Lp.intro (γ:=Nat) (fun i=>us.length-i) (fun i vs mm lo=>∃w0,vs=[w0,.int .i64 i]/\i<=us.length/\m=mm/\m.n<=lo/\∀j y,j < i->us[j]?=some y->sy z y=false) 0 ⟨_,rfl,Nat.zero_le _,rfl,Nat.le_refl _,fun j y hj=>by omega⟩ ?_
 rintro i vs mm lo ⟨w0,rfl,hi,rfl,hlo,hno⟩
 rw[aA,aA,h.len lG,ar,aH,aa,aj]
 refine ak (fun hlt=>?_) (fun hge=>?_)
 ·have hlt:i < us.length:=by simpa using hlt
  obtain⟨u,hu⟩:∃u,us[i]?=some u:=⟨_,List.getElem?_eq_getElem hlt⟩
  obtain⟨b,o,w,e1,l0, -, -,l4,l5⟩:=px h hu
  refine bY (fun vs m' lo'=>vs=[.bool (sy z u)]/\m=m'/\m.n<=lo') (fun R hR=>?_) ?_
  ·rw[e1,aa,cI,aa,l4,aa,cK,aa,aj]
   refine ak (fun h1=>?_) (fun h1=>?_)
   ·rw[aa,cH,aa,l5,aa,aH,aa]
    refine hR _ _ _ ⟨?_,rfl,hlo⟩
    unfold sy
    rw[h1,Bool.true_and]
   ·refine hR _ _ _ ⟨?_,rfl,hlo⟩
    unfold sy
    rw[h1,Bool.false_and]
  rintro _ _ lo' ⟨rfl,rfl,hlo'⟩
  rw[aA,aj]
  refine ak (fun h1=>?_) (fun h1=>?_)
  ·rw[e1,aa,ct,aa,l0,aa]
   have:fh us z=u.id:=by
    unfold fh
    rw[nH hu h1 hno];rfl
   rw[this]
   exact⟨rfl,hlo'⟩
  ·rw[aG,aa,wrap64 (by omega) (by omega)]
   refine⟨i+1,by omega,w0,rfl,by omega,rfl,hlo',fun j y hj hy=>?_⟩
   by_cases e:j=i
   ·subst e;rw[hu]at hy;cases hy;exact h1
   ·exact hno j y (by omega) hy
 ·have hge:us.length<=i:=by
   have:¬(i:Int)< (us.length:Int):=by simpa using hge
   omega
  have:fh us z= -1:=by
   unfold fh
   rw[List.find?_eq_none.2 fun u hu=>by
    obtain⟨j,hj⟩:=List.getElem?_of_mem hu
    rw[hno j u (by have:=(List.getElem?_eq_some_iff.1 hj).1;omega) hj];decide]
   rfl
  rw[this]
  exact⟨rfl,hlo⟩
theorem GY(hX:cW X){us:List Un}{v:Value}(h:Sl m us v)(hlen:us.length < 1000000)(hp:∀u∈us,0 < u.front):
  C X (.func 64) [v] m m.n (.int .i64 (GR (bQ (fun a b=>decide (b.front < a.front)) us none))) m:=by
 refine Cl.flat (hX.no _ rfl) OC rfl rfl ?_
 rw[YK];dsimp only[aI]
 refine Lp.intro (γ:=Nat) (fun i=>us.length-i) (fun i vs mm lo=>∃mO:Int,vs=[.int .i64 (GR (bQ (fun a b=>decide (b.front < a.front)) (us.take i) none)),.int .i64 mO,.int .i64 i]/\i<=us.length/\m=mm/\m.n<=lo/\
  (bQ (fun a b=>decide (b.front < a.front)) (us.take i) none=none->mO=0)/\∀u,bQ (fun a b=>decide (b.front < a.front)) (us.take i) none=some u->mO=u.front) 0 ⟨0,rfl,Nat.zero_le _,rfl,Nat.le_refl _,fun _=>rfl,fun u hu=>by cases hu⟩ ?_
 rintro i vs mm lo ⟨mO,rfl,hi,rfl,hlo,hb0,hb1⟩
 rw[aA,aA,aA,h.len lG,ar,aH,aa,aj]
 refine ak (fun hlt=>?_) (fun hge=>?_)
 ·have hlt:i < us.length:=by simpa using hlt
  obtain⟨u,hu⟩:∃u,us[i]?=some u:=⟨_,List.getElem?_eq_getElem hlt⟩
  obtain⟨b,o,w,e1,l0, -, -,l4,l5⟩:=px h hu
  have hpos:=hp u (List.mem_of_getElem? hu)
  have htk:us.take (i+1)=us.take i++ [u]:=by rw[List.take_add_one,hu];rfl
  have hsn:=ik (fun a b=>decide (b.front < a.front)) u (us.take i) none
  rw[<-htk]at hsn
  rw[e1,aa,cH,aa,l5,aa,bX,aa,aj]
  refine ak (fun h1=>?_) (fun h1=>?_)
  ·have h1:mO < u.front:=by simpa using h1
   rw[aa,ct,aa,l0,aa,aa,cH,aa,l5,aa,aG,aa,wrap64 (by omega) (by omega)]
   have e:bQ (fun a b=>decide (b.front < a.front)) (us.take (i+1)) none=some u:=by
    rw[hsn]
    cases hf:bQ (fun a b=>decide (b.front < a.front)) (us.take i) none with
    |none=>rfl
    |some x=>
     have:=hb1 x hf
     simp only
     rw[if_pos (by simp;omega)]
   exact⟨i+1,by omega,u.front,by rw[e];rfl,by omega,rfl,hlo,(fun hn=>by rw[e]at hn;cases hn),fun x hx=>by rw[e]at hx;cases hx;rfl⟩
  ·have h1:¬mO < u.front:=by simpa using h1
   rw[aG,aa,wrap64 (by omega) (by omega)]
   have e:bQ (fun a b=>decide (b.front < a.front)) (us.take (i+1)) none=bQ (fun a b=>decide (b.front < a.front)) (us.take i) none:=by
    rw[hsn]
    cases hf:bQ (fun a b=>decide (b.front < a.front)) (us.take i) none with
    |none=>have:=hb0 hf;omega
    |some x=>
     have:=hb1 x hf
     simp only
     rw[if_neg (by simp;omega)]
   exact⟨i+1,by omega,mO,by rw[e];rfl,by omega,rfl,hlo,(fun hn=>by rw[e]at hn;exact hb0 hn),fun x hx=>by rw[e]at hx;exact hb1 x hx⟩
 ·have hi':i=us.length:=by
   have:¬(i:Int)< (us.length:Int):=by simpa using hge
   omega
  subst hi'
  rw[List.take_length]
  exact⟨rfl,hlo⟩
theorem JR(hX:cW X){us:List Un}{v:Value}(h:Sl m us v)(hlen:us.length < 1000000)(hp:∀u∈us,u.back < 8):
  C X (.func 62) [v] m m.n (.int .i64 (GR (bQ (fun a b=>decide (a.back < b.back)) us none))) m:=by
 refine Cl.flat (hX.no _ rfl) OE rfl rfl ?_
 rw[YM];dsimp only[aI]
 refine Lp.intro (γ:=Nat) (fun i=>us.length-i) (fun i vs mm lo=>∃mO:Int,vs=[.int .i64 (GR (bQ (fun a b=>decide (a.back < b.back)) (us.take i) none)),.int .i64 mO,.int .i64 i]/\i<=us.length/\m=mm/\m.n<=lo/\
  (bQ (fun a b=>decide (a.back < b.back)) (us.take i) none=none->mO=8)/\∀u,bQ (fun a b=>decide (a.back < b.back)) (us.take i) none=some u->mO=u.back) 0 ⟨8,rfl,Nat.zero_le _,rfl,Nat.le_refl _,fun _=>rfl,fun u hu=>by cases hu⟩ ?_
 rintro i vs mm lo ⟨mO,rfl,hi,rfl,hlo,hb0,hb1⟩
 rw[aA,aA,aA,h.len lG,ar,aH,aa,aj]
 refine ak (fun hlt=>?_) (fun hge=>?_)
 ·have hlt:i < us.length:=by simpa using hlt
  obtain⟨u,hu⟩:∃u,us[i]?=some u:=⟨_,List.getElem?_eq_getElem hlt⟩
  obtain⟨b,o,w,e1,l0, -, -,l4,l5⟩:=px h hu
  have hpos:=hp u (List.mem_of_getElem? hu)
  have htk:us.take (i+1)=us.take i++ [u]:=by rw[List.take_add_one,hu];rfl
  have hsn:=ik (fun a b=>decide (a.back < b.back)) u (us.take i) none
  rw[<-htk]at hsn
  rw[e1,aa,cI,aa,l4,aa,aH,aa,aj]
  refine ak (fun h1=>?_) (fun h1=>?_)
  ·have h1:u.back < mO:=by simpa using h1
   rw[aa,ct,aa,l0,aa,aa,cI,aa,l4,aa,aG,aa,wrap64 (by omega) (by omega)]
   have e:bQ (fun a b=>decide (a.back < b.back)) (us.take (i+1)) none=some u:=by
    rw[hsn]
    cases hf:bQ (fun a b=>decide (a.back < b.back)) (us.take i) none with
    |none=>rfl
    |some x=>
     have:=hb1 x hf
     simp only
     rw[if_pos (by simp;omega)]
   exact⟨i+1,by omega,u.back,by rw[e];rfl,by omega,rfl,hlo,(fun hn=>by rw[e]at hn;cases hn),fun x hx=>by rw[e]at hx;cases hx;rfl⟩
  ·have h1:¬u.back < mO:=by simpa using h1
   rw[aG,aa,wrap64 (by omega) (by omega)]
   have e:bQ (fun a b=>decide (a.back < b.back)) (us.take (i+1)) none=bQ (fun a b=>decide (a.back < b.back)) (us.take i) none:=by
    rw[hsn]
    cases hf:bQ (fun a b=>decide (a.back < b.back)) (us.take i) none with
    |none=>have:=hb0 hf;omega
    |some x=>
     have:=hb1 x hf
     simp only
     rw[if_neg (by simp;omega)]
   exact⟨i+1,by omega,mO,by rw[e];rfl,by omega,rfl,hlo,(fun hn=>by rw[e]at hn;exact hb0 hn),fun x hx=>by rw[e]at hx;exact hb1 x hx⟩
 ·have hi':i=us.length:=by
   have:¬(i:Int)< (us.length:Int):=by simpa using hge
   omega
  subst hi'
  rw[List.take_length]
  exact⟨rfl,hlo⟩
end Go.Proofs.YtmdfgncoekfgdaaGreatDoor
namespace Go.Proofs.YtmdfgncoekfgdaaGreatDoor
open Go Go.D
variable {X:aF} {m:M}
theorem so{l:List Pl}{p:Pl}:∀(n i:Nat),i<=n->dA l p n<=dA l p i
 |0,i,h=>by rw[show i=0 by omega];exact Int.le_refl _
 |n+1,i,h=>by
  by_cases e:i=n+1
  ·subst e;exact Int.le_refl _
  ·have ih:=so (l:=l) (p:=p) n i (by omega)
   rw[dA]
   split
   ·omega
   ·exact ih
theorem Cd{x:Int}(h:0 < x):oW x 0=1:=by unfold oW;rw[if_neg (by omega),if_pos h]
theorem EM(hX:cW X){l:List Pl}{v:Value}{p:Pl}(hl:Sl m l v)(hb:l.length < 1000000)(hsm:∀a∈l,a.sm 1000000)(hp:p.sm 1000000):C X (.func 192) [v,p.v] m m.n (.int .i64 (qf l p)) m:=by
 refine Cl.flat (hX.no _ rfl) L6 rfl rfl ?_
 rw[QX];dsimp only[aI]
 refine au fun m1 hn1 hg1 hk1=>?_
 have hg1:m1.get m.n=.cells p.c 98 none:=hg1
 have hx1:Ext m m1:=⟨by omega,hk1⟩
 have hl1:=hl.aB hx1
 have ldp:ag TE m1 98 (.pointer (some ⟨m.n,0,none⟩))=some p.v:=by rw[vE,aE hg1 (by simp[Pl.c])];rfl
 unfold ptrTo
 refine Lp.intro (γ:=Nat) (fun i=>l.length-i) (fun i vs mm lo=>∃w0,vs=[w0,.int .i64 (oW (dA l p i) 0),.int .i64 i]/\i<=l.length/\m1=mm/\m.n<=lo/\0<=dA l p i) 0 ⟨_,rfl,Nat.zero_le _,rfl,Nat.le_refl _,(show(0:Int)<=4611686018427387903 by decide)⟩ ?_
 rintro i vs mm lo ⟨w0,rfl,hi,rfl,hlo,hpos⟩
 rw[aA,aA,aA,hl1.len cX,ar,aH,aa,aj]
 refine ak (fun hlt=>?_) (fun hge=>?_)
 ·have hlt:i < l.length:=by simpa using hlt
  obtain⟨a,ha⟩:∃a,l[i]?=some a:=⟨_,List.getElem?_eq_getElem hlt⟩
  obtain⟨b,hbb⟩:∃b,l[(i+1)%l.length]?=some b:=⟨_,List.getElem?_eq_getElem (Nat.mod_lt _ (by omega))⟩
  obtain⟨q,e1,e2⟩:=hl1.iJ (k:=.i64) ha
  have hst:dA l p (i+1)=min (dA l p i) (dn a b p):=by rw[dA,ha,hbb]
  rw[e1,aa,e2,aa]
  refine aC (AG hX hl1 (by omega) hlt hbb) ⟨Nat.le_refl _,?_⟩
  rw[ldp,aa]
  refine aC (xD hX (hsm a (List.mem_of_getElem? ha)) (hsm b (List.mem_of_getElem? hbb)) hp) ?_
  rw[aH,aa,aj]
  refine ak (fun h1=>?_) (fun h1=>?_)
  ·have h1:dn a b p < 0:=by simpa using h1
   have h2:=so (l:=l) (p:=p) l.length (i+1) (by omega)
   have:qf l p= -1:=by
    unfold qf oW
    rw[if_pos (by omega)]
   rw[this]
   exact⟨rfl,by omega⟩
  ·have h1:¬dn a b p < 0:=by simpa using h1
   rw[bE,aa,aj]
   refine ak (fun h2=>?_) (fun h2=>?_)
   ·have h2:dn a b p=0:=by simpa using h2
    rw[aG,aa,wrap64 (by omega) (by omega)]
    have:oW (dA l p (i+1)) 0=0:=by
     unfold oW
     rw[if_neg (by omega),if_neg (by omega)]
    exact⟨i+1,by omega,w0,by rw[this];rfl,by omega,rfl,by omega,by omega⟩
   ·have h2:¬dn a b p=0:=by simpa using h2
    rw[aG,aa,wrap64 (by omega) (by omega)]
    have:oW (dA l p (i+1)) 0=oW (dA l p i) 0:=by
     by_cases e:0 < dA l p i
     ·rw[Cd e,Cd (by omega)]
     ·rw[show dA l p i=0 by omega,show dA l p (i+1)=0 by omega]
    exact⟨i+1,by omega,w0,by rw[this];rfl,by omega,rfl,by omega,by omega⟩
 ·have hi':i=l.length:=by
   have:¬(i:Int)< (l.length:Int):=by simpa using hge
   omega
  subst hi'
  exact⟨rfl,hlo⟩
theorem Gb(hX:cW X){l:List Pl}{v:Value}(hl:Sl m l v)(hb:l.length < 1000000)(x y:Int):C X (.func 137) [v,.int .i64 x,.int .i64 y] m m.n (.int .i64 (fY l x y)) m:=by
 refine Cl.flat (hX.no _ rfl) Mr rfl rfl ?_
 rw[Rg];dsimp only[aI]
 refine bY (fun vs m2 lo=>vs=[.bool (!(aY l && decide (0<=min x y) && decide (max x y < 40)))]/\m=m2/\m.n<=lo) (fun R hR=>?_) ?_
 ·refine aC (iX hX hl (by omega)) ?_
  rw[aX,aa,aj]
  refine ak (fun h=>hR _ _ _ ⟨by simp only[Bool.not_eq_true']at h;simp[h],rfl,by omega⟩) (fun h=>?_)
  simp only[Bool.not_eq_false']at h
  have key:∀b:Bool,(b=true↔¬(0<=min x y/\max x y < 40))->[Value.bool b]=[Value.bool (!(aY l && decide (0<=min x y) && decide (max x y < 40)))]:=fun b hb=>by
   have:b= !(aY l && decide (0<=min x y) && decide (max x y < 40)):=by
    rw[h,Bool.eq_iff_iff,hb]
    simp only[Bool.true_and,Bool.not_eq_true',Bool.and_eq_false_iff,decide_eq_false_iff_not]
    by_cases h1:0<=min x y <;>by_cases h2:max x y < 40 <;>simp[h1,h2]
   rw[<-this]
  rw[aH,aa,aj]
  refine ak (fun h1=>hR _ _ _ ⟨key true (by simp at h1;simp;omega),rfl,by omega⟩) (fun h1=>?_)
  rw[ck,aa,aj]
  refine ak (fun h2=>hR _ _ _ ⟨key true (by simp at h2;simp;omega),rfl,by omega⟩) (fun h2=>?_)
  rw[aH,aa,aj]
  refine ak (fun h3=>hR _ _ _ ⟨key true (by simp at h3;simp;omega),rfl,by omega⟩) (fun h3=>?_)
  rw[ck,aa]
  refine hR _ _ _ ⟨key _ ?_,rfl,by omega⟩
  simp at h1 h2 h3
  simp
  omega
 rintro _ _ lo4 ⟨rfl,rfl,hlo4⟩
 rw[aA,aj]
 refine ak (fun h=>?_) (fun h=>?_)
 ·simp only[Bool.not_eq_true']at h
  exact⟨by simp only[aR,fY,h];rfl,hlo4⟩
 ·simp only[Bool.not_eq_false']at h
  have hcell:fY l x y=qf (l.map Pl.uw) ⟨2*x+1,2*y+1⟩:=by unfold fY;rw[if_pos h]
  simp only[Bool.and_eq_true,decide_eq_true_eq]at h
  obtain⟨⟨hv,h0⟩,h40⟩:=h
  have hlen:=dD hv
  refine Lp.intro (γ:=Nat) (fun i=>l.length-i) (fun i vs m1 lo=>∃w,vs=[w,.int .i64 i]/\i<=l.length/\Ext m m1/\Ow m.n m1 ((l.take i).map Pl.uw) w/\m.n<=lo) 0 ⟨_,rfl,Nat.zero_le _,.refl,.nil,hlo4⟩ ?_
  rintro i vs m1 lo1 ⟨w,rfl,hi,hx,ho,hlo⟩
  have n1:=hx.n
  rw[aA,aA,(hl.aB hx).len cX,ar,aH,aa,aj]
  refine ak (fun hlt=>?_) (fun hge=>?_)
  ·have hlt:i < l.length:=by simpa using hlt
   obtain⟨p,hp⟩:∃p,l[i]?=some p:=⟨_,List.getElem?_eq_getElem hlt⟩
   have hsm:=Pl.on (gY hv p (List.mem_of_getElem? hp))
   obtain⟨b,o,bc,g,cs,ea,hbb,hr,hle,hj⟩:=(hl.aB hx).kQ cX (k:=.i64) hp
   have hr:cs=p.c:=hr
   subst hr
   have l0:ag TE m1 3 (.pointer (some ⟨b,o+0,none⟩))=some (.int .i64 p.x):=by rw[bu,av hbb,hj 0 (by decide)];rfl
   have l1:ag TE m1 3 (.pointer (some ⟨b,o+1,none⟩))=some (.int .i64 p.y):=by rw[bu,av hbb,hj 1 (by decide)];rfl
   rw[ea,aa,bK,aa,l0,aa,cA,aa,aa,cr,aa,l1,aa,cA,aa,wrap64 (by omega) (by omega),wrap64 (by omega) (by omega),cd rfl rfl,aa]
   have htk:(l.take (i+1)).map Pl.uw=(l.take i).map Pl.uw++ [p.uw]:=by rw[List.take_add_one,hp,Option.toList_some,List.map_append];rfl
   refine ho.wE (p:=p.uw) n1 (by rw[List.length_map,List.length_take];omega) fun v10 m10 ho10 hf10 hlow hn10=>?_
   rw[aG,aa,wrap64 (by omega) (by omega)]
   exact⟨i+1,by omega,v10,rfl,by omega,⟨by omega,fun c hc=>by rw[hf10.get c (by omega),hx.get c hc]⟩,by rw[htk];exact ho10,by omega⟩
  ·have hi':i=l.length:=by
    have:¬(i:Int)< (l.length:Int):=by simpa using hge
    omega
   subst hi'
   rw[List.take_length]at ho
   simp only[cA,aG,aa]
   rw[wrap64 (x:=2*x) (by omega) (by omega),wrap64 (x:=2*x+1) (by omega) (by omega),wrap64 (x:=2*y) (by omega) (by omega),wrap64 (x:=2*y+1) (by omega) (by omega)]
   rw[cd rfl rfl,aa]
   refine aC (EM hX (p:=⟨2*x+1,2*y+1⟩) ho.sl (by rw[List.length_map];exact hb) ?_ ⟨by show -1000000<=2*x+1;omega,by show 2*x+1<=1000000;omega,by show -1000000<=2*y+1;omega,by show 2*y+1<=1000000;omega⟩) ?_
   ·intro a ha
    obtain⟨p,hp,rfl⟩:=List.mem_map.1 ha
    have:=Pl.on (gY hv p hp)
    exact⟨by show -1000000<=2*p.x;omega,by show 2*p.x<=1000000;omega,by show -1000000<=2*p.y;omega,by show 2*p.y<=1000000;omega⟩
   ·exact⟨by rw[aR,hcell],by omega⟩
end Go.Proofs.YtmdfgncoekfgdaaGreatDoor
namespace Go.Proofs.YtmdfgncoekfgdaaGreatDoor
open Go Go.D
variable {X:aF} {m:M}
theorem _root_.Go.D.Ow.Nc{n1:Nat}{l:List UW}{v:Value}{x:UW}{P:Value->M->Prop}(h:Ow n1 m l v)(hn:n1<=m.n)(hx:one x.w=true)(hs:l.length < 268435456)
  (hP:∀v1 m1,Ow n1 m1 (l++ [x]) v1->uG n1 m m1->n1<=m1.low->m.n<=m1.n->P v1 m1):
  aK (az TE m 29 1 [(0,x.v)]) fun a m1=>aK (an TE (m1.wl m1.n) .append [29,29] [v,a]) P:=by
 rw[oF,ar]
 have hx':Ext m (m.push (.cells x.c 87 none)):=Ext.refl.push
 have hpn:(m.push (.cells x.c 87 none)).n=m.n+1:=rfl
 obtain⟨v1,m1,e1,ho,hf,hl,_⟩:=(h.aB hx').append wz (by simp[aL.fR]) (kg (m:=m.push (.cells x.c 87 none)) M.aN hx) (by omega) (by simp;omega)
 rw[e1,ar]
 exact hP v1 m1 ho ((hx'.fr hn).trans hf) hl (by have:=hf.n;omega)
theorem jS(hX:cW X){l:List UW}{v:Value}(h:dS m l v)(hlen:l.length < 1000000)(x y:Int):
  ∃rv m',C X (.func 63) [.agg #[v],.int .i64 x,.int .i64 y] m m.n rv m'/\Ext m m'/\Ow m.n m' (jH l ⟨x,y⟩) rv:=by
 have key:∃rv m' b,C X (.func 63) [.agg #[v],.int .i64 x,.int .i64 y] m b rv m'/\b=m.n/\Ext m m'/\Ow m.n m' (jH l ⟨x,y⟩) rv:=by
  refine Cl.gen (R:=fun rv m' b=>b=m.n/\Ext m m'/\Ow m.n m' (jH l ⟨x,y⟩) rv) (hX.no _ rfl) OD rfl ?_
  rw[YL];dsimp only[aI]
  refine au fun m1 hn1 hg1 hk1=>?_
  have hg1:m1.get m.n=.cells [v] 31 none:=hg1
  have hx1:Ext m m1:=⟨by omega,hk1⟩
  unfold ptrTo
  refine Lp.intro (γ:=Nat) (fun i=>l.length-i) (fun i vs mm lo=>∃w,vs=[w,.int .i64 i]/\i<=l.length/\Ext m1 mm/\Ow m1.n mm (jH (l.take i) ⟨x,y⟩) w/\m.n<=lo) 0 ⟨_,rfl,Nat.zero_le _,.refl,.nil,Nat.le_refl _⟩ ?_
  rintro i vs mm lo ⟨w,rfl,hi,hx,ho,hlo⟩
  have n1:=hx.n
  have gf:=hx.cells hg1
  have hF:=(h.aB hx1).aB hx
  have ldF:ag TE mm 29 (.pointer (some ⟨m.n,0+0,none⟩))=some v:=by rw[gX,av gf];rfl
  rw[aA,aA,cx,aa,ldF,aa,hF.sl.len eo,ar,aH,aa,aj]
  refine ak (fun hlt=>?_) (fun hge=>?_)
  ·have hlt:i < l.length:=by simpa using hlt
   obtain⟨u,hu⟩:∃u,l[i]?=some u:=⟨_,List.getElem?_eq_getElem hlt⟩
   have hum:=List.mem_of_getElem? hu
   have htk:jH (l.take (i+1)) ⟨x,y⟩=jH (l.take i) ⟨x,y⟩++(if kV u.u ⟨x,y⟩then [u]else []):=by
    unfold jH
    rw[List.take_add_one,hu,Option.toList_some,List.filter_append]
    congr 1
    cases hc:kV u.u ⟨x,y⟩ <;>simp[hc]
   obtain⟨b,o,bc,g,cs,ea,hbb,hr,hle,hj⟩:=hF.sl.kQ eo (k:=.i64) hu
   obtain⟨rfl,hone⟩:=hr
   obtain⟨q,q1,q2,_⟩:=hF.sl.lv (k:=.i64) hu
   rw[ea]at q1
   cases q1
   have l3:ag TE mm 45 (.pointer (some ⟨b,o+3,none⟩))=some u.w:=by rw[kO,av hbb,hj 3 (by decide)];rfl
   rw[aa,ldF,aa,ea,aa,cg,aa,l3,aa]
   refine aC (Gb hX (hF.sh u hum) (hF.ln u hum) x y) ?_
   rw[ck,aa,aj]
   refine ak (fun hc=>?_) (fun hc=>?_)
   ·have hc:0<=fY u.u.shape x y:=by simpa using hc
    rw[if_pos (Cc.2 hc)]at htk
    rw[aa,ldF,aa,ea,aa,q2,aa]
    refine ho.Nc n1 hone (by
                   have:(jH (l.take i) ⟨x,y⟩).length<=(l.take i).length:=List.length_filter_le _ _
                   rw[List.length_take]at this;omega) fun v10 m10 ho10 hf10 hlow hn10=>?_
    rw[aG,aa,wrap64 (by omega) (by omega)]
    exact⟨i+1,by omega,v10,rfl,by omega,⟨by omega,fun c hc=>by rw[hf10.get c (by omega),hx.get c hc]⟩,by rw[htk];exact ho10,by omega⟩
   ·have hc:¬0<=fY u.u.shape x y:=by simpa using hc
    rw[if_neg (fun h=>hc (Cc.1 h)),List.append_nil]at htk
    rw[aG,aa,wrap64 (by omega) (by omega)]
    exact⟨i+1,by omega,w,rfl,by omega,hx,by rw[htk];exact ho,by omega⟩
  ·have hi':i=l.length:=by
    have:¬(i:Int)< (l.length:Int):=by simpa using hge
    omega
   subst hi'
   rw[List.take_length]at ho
   rcases ho with⟨rfl,he⟩ |⟨b,cs,rfl,h2,h3,h4,h5,h6⟩
   ·exact .inl ⟨rfl,hlo,rfl,.refl,.inl ⟨rfl,he⟩⟩
   ·exact .inr ⟨.inl rfl,by omega,hx1.trans hx,.inr ⟨b,cs,rfl,h2,by omega,h4,h5,h6⟩⟩
 obtain⟨rv,m',b,hc,rfl,h1,h2⟩:=key
 exact⟨rv,m',hc,h1,h2⟩
end Go.Proofs.YtmdfgncoekfgdaaGreatDoor
namespace Go.Proofs.YtmdfgncoekfgdaaGreatDoor
open Go Go.D
variable {X:aF} {m:M}
structure zz(oc:Nat)(w h:Int)(mm:M)(l:List Int)(v:Value):Prop where
 cell:mm.get oc=.cells [.int .i64 w,.int .i64 h,v] 27 none
 ow:Ow (oc+1) mm l v
theorem zz.aB{oc:Nat}{w h:Int}{mm m':M}{l:List Int}{v:Value}(g:zz oc w h mm l v)(hx:Ext mm m'):zz oc w h m' l v:=⟨hx.cells g.cell,g.ow.aB hx⟩
theorem iZ{oc:Nat}{w h:Int}{mm:M}{l:List Int}{v:Value}(n:Int)(g:zz oc w h mm l v)(hs:l.length < 268435456):
  ∃m45 a v1 m47 m1,az TE mm 25 1 [(0,.int .i64 n)]=some (a,m45)/\an TE (M.wl m45 (M.n m45)) .append [25,25] [v,a]=some (v1,m47)/\aw TE m47 25 (.pointer (some ⟨oc,0+2,none⟩)) v1=some (m1,oc)/\
   oc+1<=m47.low/\zz oc w h m1 (l++ [n]) v1/\(∀c,c < oc->m1.get c=mm.get c)/\mm.n<=m1.n:=by
 have hoc:=M.aV g.cell
 obtain⟨v1,m47,e2,h1,h2,h3,h4⟩:∃v1 m47,an TE (M.wl (mm.push (.cells [.int .i64 n] 3 none)) (M.n (mm.push (.cells [.int .i64 n] 3 none)))) .append [25,25] [v,.slice (some ⟨mm.n,0,none⟩) 1 1]=some (v1,m47)/\Ow (oc+1) m47 (l++ [n]) v1/\uG (oc+1) mm m47/\oc+1<=m47.low/\mm.n<=m47.n:=by
  have hx:Ext mm (mm.push (.cells [.int .i64 n] 3 none)):=Ext.refl.push
  have hpn:(mm.push (.cells [.int .i64 n] 3 none)).n=mm.n+1:=rfl
  obtain⟨v1,m1,e1,ho,hf,hl,_⟩:=(g.ow.aB hx).append oZ (by simp[aL.ty,aL.fR]) (nj (m:=mm.push (.cells [.int .i64 n] 3 none)) M.aN) (by omega) (by simp;omega)
  exact⟨v1,m1,e1,ho,(hx.fr (by omega)).trans hf,hl,by have:=hf.n;omega⟩
 have hb10:m47.get oc=.cells [.int .i64 w,.int .i64 h,v] 27 none:=by rw[h2.get _ (by omega),g.cell]
 have hst:=lE (E:=TE) (o:=0+2) (x:=v1) oe hb10 (by rw[h1.sl.cells];rfl) (by rw[h1.sl.cells];exact Nat.le_refl _) (by rw[h1.sl.cells];simp[h1.sl.one])
 refine⟨_,_,v1,m47,_,vd,e2,hst,h3,?_⟩
 have hset:∀c,c≠oc->(m47.set oc (.cells (([.int .i64 w,.int .i64 h,v]:List Value).take (0+2)++(cells v1++([.int .i64 w,.int .i64 h,v]:List Value).drop (0+2+(cells v1).length))) 27 none)).get c=m47.get c:=fun c hc=>M.bZ hc
 have g85:(m47.set oc (.cells (([.int .i64 w,.int .i64 h,v]:List Value).take (0+2)++(cells v1++([.int .i64 w,.int .i64 h,v]:List Value).drop (0+2+(cells v1).length))) 27 none)).get oc=.cells [.int .i64 w,.int .i64 h,v1] 27 none:=by
  rw[M.dr (M.aV hb10),h1.sl.cells];rfl
 refine⟨⟨g85,h1.bt fun b c t g hb ht=>?_⟩,fun c hc=>by rw[hset c (by omega),h2.get c (by omega)],h4⟩
 by_cases hbm:b=oc
 ·subst hbm
  rw[hb10]at hb
  cases hb
  simp[aL.ty,aL.fR]at ht
 ·rw[hset b hbm,hb]
end Go.Proofs.YtmdfgncoekfgdaaGreatDoor
namespace Go.Proofs.YtmdfgncoekfgdaaGreatDoor
open Go Go.D
variable {X:aF} {m:M}
theorem AT(hX:cW X){w h w' h':Int}{l l':List Int}{v v':Value}(hl:iV m l v)(hl':iV m l' v')(hb:l.length < 4611686018427387904)(hb':l'.length < 4611686018427387904)(hno:¬(gx w h l=true/\gx w' h' l'=true/\w=w'/\h=h')):
  C X (.func 21) [cF w h v,cF w' h' v'] m m.n (.tuple #[.slice none 0 0,.int .i64 410]) m:=by
 refine Cl.flat (hX.no _ rfl) KA rfl (by kernel_rfl) ?_
 rw[VV];dsimp only[aI]
 refine au fun m1 hn1 hg1 hk1=>?_
 refine au fun m2 hn2 hg2 hk2=>?_
 have hg1:m2.get m.n=.cells [.int .i64 w,.int .i64 h,v] 27 none:=(hk2 m.n (by omega)).trans hg1
 have hg2:m2.get m1.n=.cells [.int .i64 w',.int .i64 h',v'] 27 none:=hg2
 have hx2:Ext m m2:=⟨by omega,fun b hb=>by rw[hk2 b (by omega),hk1 b hb]⟩
 have hl2:=hl.aB hx2
 have hl2':=hl'.aB hx2
 obtain⟨a0,a1,a2,a3⟩:=lC hg1
 obtain⟨b0,b1,b2,b3⟩:=lC hg2
 unfold ptrTo
 refine bY (fun vs mm lo=>vs=[.bool true]/\m2=mm/\m.n<=lo) (fun R hR=>?_) ?_
 ·rw[a3,aa]
  refine aC (ej hX hl2 hb) ?_
  rw[aX,aa,aj]
  refine ak (fun _=>hR _ _ _ ⟨rfl,rfl,by omega⟩) (fun c1=>?_)
  have c1:gx w h l=true:=by rwa[Bool.not_eq_false']at c1
  rw[b3,aa]
  refine aC (ej hX hl2' hb') ?_
  rw[aX,aa,aj]
  refine ak (fun _=>hR _ _ _ ⟨rfl,rfl,by omega⟩) (fun c2=>?_)
  have c2:gx w' h' l'=true:=by rwa[Bool.not_eq_false']at c2
  simp only[bj,bB,aa,a0,a1,b0,b1,bI,aj]
  refine ak (fun _=>hR _ _ _ ⟨rfl,rfl,by omega⟩) (fun c3=>?_)
  have c3:w=w':=by simpa using c3
  refine hR _ _ _ ⟨?_,rfl,by omega⟩
  rw[decide_eq_false fun c4=>hno ⟨c1,c2,c3,c4⟩];rfl
 rintro _ _ lo ⟨rfl,rfl,hlo⟩
 rw[aA,aj,bJ]
 exact⟨rfl,hlo⟩
theorem xM(hX:cW X){w h w' h':Int}{l l':List Int}{v v':Value}(hl:iV m l v)(hl':iV m l' v')(hb:l.length < 4611686018427387904)(hb':l'.length < 4611686018427387904)(hno:¬(gx w h l=true/\gx w' h' l'=true/\w=w'/\h=h')):
  C X (.func 22) [cF w h v,cF w' h' v'] m m.n (.tuple #[.slice none 0 0,.int .i64 410]) m:=by
 refine Cl.flat (hX.no _ rfl) Kz rfl (by kernel_rfl) ?_
 rw[VU];dsimp only[aI]
 refine au fun m1 hn1 hg1 hk1=>?_
 refine au fun m2 hn2 hg2 hk2=>?_
 have hg1:m2.get m.n=.cells [.int .i64 w,.int .i64 h,v] 27 none:=(hk2 m.n (by omega)).trans hg1
 have hg2:m2.get m1.n=.cells [.int .i64 w',.int .i64 h',v'] 27 none:=hg2
 have hx2:Ext m m2:=⟨by omega,fun b hb=>by rw[hk2 b (by omega),hk1 b hb]⟩
 have hl2:=hl.aB hx2
 have hl2':=hl'.aB hx2
 obtain⟨a0,a1,a2,a3⟩:=lC hg1
 obtain⟨b0,b1,b2,b3⟩:=lC hg2
 unfold ptrTo
 refine bY (fun vs mm lo=>vs=[.bool true]/\m2=mm/\m.n<=lo) (fun R hR=>?_) ?_
 ·rw[a3,aa]
  refine aC (eR hX hl2 hb) ?_
  rw[aX,aa,aj]
  refine ak (fun _=>hR _ _ _ ⟨rfl,rfl,by omega⟩) (fun c1=>?_)
  have c1:gx w h l=true:=by rwa[Bool.not_eq_false']at c1
  rw[b3,aa]
  refine aC (eR hX hl2' hb') ?_
  rw[aX,aa,aj]
  refine ak (fun _=>hR _ _ _ ⟨rfl,rfl,by omega⟩) (fun c2=>?_)
  have c2:gx w' h' l'=true:=by rwa[Bool.not_eq_false']at c2
  simp only[bj,bB,aa,a0,a1,b0,b1,bI,aj]
  refine ak (fun _=>hR _ _ _ ⟨rfl,rfl,by omega⟩) (fun c3=>?_)
  have c3:w=w':=by simpa using c3
  refine hR _ _ _ ⟨?_,rfl,by omega⟩
  rw[decide_eq_false fun c4=>hno ⟨c1,c2,c3,c4⟩];rfl
 rintro _ _ lo ⟨rfl,rfl,hlo⟩
 rw[aA,aj,bJ]
 exact⟨rfl,hlo⟩
set_option maxRecDepth 100000 in
theorem xL(hX:cW X){w h:Nat}{l l':List Int}{v v':Value}(hl:iV m l v)(hl':iV m l' v')(hv:gx w h l=true)(hv':gx w h l'=true):
  ∃r m',C X (.func 22) [cF w h v,cF w h v'] m m.n (.tuple #[r,.int .i64 0]) m'/\Ext m m'/\Ow m.n m' (dB w l l' l.length) r:=by
 obtain⟨w1,w40,h1,h40,hlen, -⟩:=e9 hv
 obtain⟨-, -, -, -,hlen', -⟩:=e9 hv'
 have hwh:w*h<=40*40:=Nat.mul_le_mul w40 h40
 have key:=Cl.gen (E:=TE) (X:=X) (f:=22) (args:=[cF w h v,cF w h v']) (m:=m) (R:=fun r m' bb=>bb=m.n/\Ext m m'/\∃v',r=.tuple #[v',.int .i64 0]/\Ow m.n m' (dB w l l' l.length) v') (hX.no _ rfl) Kz rfl ?_
 ·obtain⟨r,m',bb,hc,rfl,hx,v',rfl,hr⟩:=key
  exact⟨v',m',hc,hx,hr⟩
 rw[VU];dsimp only[aI]
 refine au fun m1 hn1 hg1 hk1=>?_
 refine au fun m2 hn2 hg2 hk2=>?_
 have hg1:m2.get m.n=.cells [.int .i64 w,.int .i64 h,v] 27 none:=(hk2 m.n (by omega)).trans hg1
 have hg2:m2.get m1.n=.cells [.int .i64 w,.int .i64 h,v'] 27 none:=hg2
 have hx2:Ext m m2:=⟨by omega,fun b hb=>by rw[hk2 b (by omega),hk1 b hb]⟩
 have hl2:=hl.aB hx2
 have hl2':=hl'.aB hx2
 obtain⟨a0,a1,a2,a3⟩:=lC hg1
 obtain⟨b0,b1,b2,b3⟩:=lC hg2
 unfold ptrTo
 refine bY (fun vs mm lo=>vs=[.bool false]/\m2=mm/\m.n<=lo) (fun R hR=>?_) ?_
 ·rw[a3,aa]
  refine aC (eR hX hl2 (by omega)) ?_
  rw[hv,aX,aa,aj,Bool.not_true,aM,b3,aa]
  refine aC (eR hX hl2' (by omega)) ?_
  rw[hv',aX,aa,aj,Bool.not_true,aM]
  simp only[bj,bB,aa,a0,a1,b0,b1,bI,aj,decide_true,Bool.not_true,aM]
  exact hR _ _ _ ⟨rfl,rfl,by omega⟩
 rintro _ _ lo ⟨rfl,rfl,hlo⟩
 rw[aA,aj,aM]
 have hcl:∀n,(dB w l l' n).length<=n:=fun n=>iT n
 refine Lp.intro (γ:=Nat) (fun y=>h-y) (fun y vs mm lo=>∃r,vs=[r,.int .i64 y]/\y<=h/\Ext m2 mm/\m.n<=lo/\Ow m2.n mm (dB w l l' (y*w)) r) 0 ⟨_,rfl,Nat.zero_le _,.refl,hlo,by rw[Nat.zero_mul];exact Ow.nil⟩ ?_
 rintro y vs mm lo ⟨r,rfl,hy,hxm,hlo,how⟩
 obtain⟨f0,f1,f2, -⟩:=lC (hxm.cells hg1)
 rw[aA,aA,bB,aa,f1,aa,aH,aa,aj]
 refine ak (fun hlt=>?_) (fun hge=>?_)
 ·have hyh:y < h:=by simpa using hlt
  have hyw:y*w+w<=w*h:=by
   have:(y+1)*w<=h*w:=Nat.mul_le_mul_right w hyh
   rw[Nat.add_mul,Nat.one_mul,Nat.mul_comm h w]at this
   exact this
  have hyw2:((y:Int)*(w:Int))=((y*w:Nat):Int):=by push_cast;rfl
  refine Lp.intro (γ:=Nat) (fun x=>w-x) (fun x vs mm lo=>∃r,vs=[r,.int .i64 x]/\x<=w/\Ext m2 mm/\m.n<=lo/\Ow m2.n mm (dB w l l' (y*w+x)) r) 0 ⟨_,rfl,Nat.zero_le _,hxm,hlo,how⟩ ?_
  rintro x vs m9 lo9 ⟨r9,rfl,hx,hx9,hlo9,how9⟩
  have gA:=hx9.cells hg1
  have gB:=hx9.cells hg2
  have hn9:=hx9.n
  obtain⟨f0,f1,f2, -⟩:=lC gA
  obtain⟨g0,g1,g2, -⟩:=lC gB
  rw[aA,aA,bj,aa,f0,aa,aH,aa,aj]
  refine ak (fun hlt2=>?_) (fun hge2=>?_)
  ·have hxw:x < w:=by simpa using hlt2
   obtain⟨p,hp⟩:∃p,l[y*w+x]?=some p:=⟨_,List.getElem?_eq_getElem (by omega)⟩
   obtain⟨q,hq⟩:∃q,l'[y*w+x]?=some q:=⟨_,List.getElem?_eq_getElem (by omega)⟩
   obtain⟨c1,q1,q2⟩:=(hl2.aB hx9).iD (k:=.i64) hp
   obtain⟨c2,q3,q4⟩:=(hl2'.aB hx9).iD (k:=.i64) hq
   simp only[bh,aa,f2,f0,g2,cA,aG,hyw2]
   rw[wrap64 (x:=((y*w:Nat):Int)) (by omega) (by omega),wrap64 (x:=((y*w:Nat):Int)+x) (by omega) (by omega),show((y*w:Nat):Int)+x=((y*w+x:Nat):Int) by omega,q1,aa,q2,aa,q3,aa,q4,aa,bI,aa,aj]
   refine ak (fun hne=>?_) (fun he=>?_)
   ·have hne:¬p=q:=by simpa using hne
    rw[cd rfl rfl,aa]
    refine how9.wE (p:=⟨(x:Int),(y:Int)⟩) hn9 (by have:=hcl (y*w+x);omega) fun v10 m10 ho10 hf10 hlow hn10=>?_
    rw[wrap64 (by omega) (by omega)]
    refine⟨x+1,by omega,v10,rfl,by omega,⟨by omega,fun b hb=>by rw[hf10.get b hb,hx9.get b hb]⟩,by omega,?_⟩
    rw[<-Nat.add_assoc]
    unfold dB
    rw[hp,hq,if_neg (by simpa using hne)]
    have e1:(y*w+x)%w=x:=by rw[Nat.add_comm,Nat.add_mul_mod_self_right,Nat.mod_eq_of_lt hxw]
    have e2:(y*w+x)/w=y:=by rw[Nat.add_comm,Nat.add_mul_div_right _ _ (by omega),Nat.div_eq_of_lt hxw,Nat.zero_add]
    rw[e1,e2]
    exact ho10
   ·have he:p=q:=by simpa using he
    rw[wrap64 (by omega) (by omega)]
    refine⟨x+1,by omega,r9,rfl,by omega,hx9,hlo9,?_⟩
    rw[<-Nat.add_assoc]
    unfold dB
    rw[hp,hq,he,if_pos rfl,List.append_nil]
    exact how9
  ·have hxw:x=w:=by
    have:¬(x:Int)< (w:Int):=by simpa using hge2
    omega
   subst hxw
   rw[aG,aa,wrap64 (by omega) (by omega)]
   exact⟨y+1,by omega,r9,rfl,by omega,hx9,hlo9,by rw[Nat.add_mul,Nat.one_mul];exact how9⟩
 ·have hyh:y=h:=by
   have:¬(y:Int)< (h:Int):=by simpa using hge
   omega
  subst hyh
  rw[show y*w=l.length by rw[hlen,Nat.mul_comm]]at how
  have hxf:=hx2.trans hxm
  cases hfl:bD (aR [r,.int .i64 0])with
  |false=>exact .inr ⟨.inl rfl,by omega,hxf,r,rfl,how.mono (by omega)⟩
  |true=>
   refine .inl ⟨rfl,hlo,by first |rfl |trivial,.refl,r,rfl,?_⟩
   rcases how with h |⟨b,cs,rfl,_⟩
   ·exact .inl h
   ·cases hfl
end Go.Proofs.YtmdfgncoekfgdaaGreatDoor
namespace Go.Proofs.YtmdfgncoekfgdaaGreatDoor
open Go Go.D
variable {X:aF} {m:M}
theorem HU{mm:M}{oc rc lo:Nat}{w h:Int}{v:Value}{R:List Value->M->Nat->Prop}(g:mm.get oc=.cells [.int .i64 w,.int .i64 h,v] 27 none)(gr:mm.get rc=.cells [.int .i64 0,.int .i64 0,.slice none 0 0] 27 none)(hv:cells v=[v])(o:one v=true)
  (hR:∀m',m'.n=mm.n->(∀c,c≠rc->m'.get c=mm.get c)->R [cF w h v] m' (min lo rc)):
  ah (ag TE mm 27 (.pointer (some ⟨oc,0,none⟩))) fun x=>aK (aw TE mm 27 (.pointer (some ⟨rc,0,none⟩)) x) fun m' b=>ah (ag TE m' 27 (.pointer (some ⟨rc,0,none⟩))) fun u=>R [u] m' (min lo b):=by
 rw[(lC g).2.2.2,aa]
 refine aD dw gr rfl rfl (by show(true && (true && (one v && true)))=true;rw[o];rfl) fun m' hn' hg' hk'=>?_
 have hg':m'.get rc=.cells [.int .i64 w,.int .i64 h,v] 27 none:=hg'
 rw[(lC hg').2.2.2,aa]
 exact hR m' hn' hk'
theorem BF{b:Nat}{cs:List Value}{c:List Value}{t:TypeId}{g g':Option Nat}{mm:M}(h:mm.get b=.cells cs 27 g)(hb:mm.get b=.cells c t g')(ht:t∈aL.ty Int::aL.fR Int):False:=by
 rw[h]at hb
 cases hb
 revert ht
 decide
set_option maxRecDepth 100000 in
theorem zZ(hX:cW X){w h how n at_:Int}{l:List Int}{v:Value}(hl:Sl m l v)(hne:l≠ [])(hlen:l.length<=1000)(rh:fP how)(ra:fP at_):
  ∃(w' h':Int) (l':List Int) (v':Value) (m':M),C X (.func 20) [cF w h v,.int .i64 how,.int .i64 n,.int .i64 at_] m m.n (cF w' h' v') m'/\Ext m m'/\Ow m.n m' l' v'/\l'≠ []/\l'.length<=l.length+1:=by
 have hlpos:0 < l.length:=List.length_pos_iff.2 hne
 have key:=Cl.heap (E:=TE) (X:=X) (f:=20) (args:=[cF w h v,.int .i64 how,.int .i64 n,.int .i64 at_]) (m:=m) (R:=fun r m' bb=>bb=m.n/\∃(w' h':Int) (l':List Int) (v':Value),r=cF w' h' v'/\Ext m m'/\Ow m.n m' l' v'/\l'≠ []/\l'.length<=l.length+1) (hX.no _ rfl) OV rfl ?_
 ·obtain⟨r,m',bb,hc,rfl,w',h',l',v',rfl,hr⟩:=key
  exact⟨w',h',l',v',m',hc,hr⟩
 rw[Y2];dsimp only[aI]
 refine au fun m1 hn1 hg1 hk1=>?_
 refine au fun m2 hn2 hg2 hk2=>?_
 have hg1:m2.get m.n=.cells [.int .i64 w,.int .i64 h,v] 27 none:=(hk2 m.n (by omega)).trans hg1
 have hx2:Ext m m2:=⟨by omega,fun b hb=>by rw[hk2 b (by omega),hk1 b hb]⟩
 obtain⟨a0,a1,a2,a3⟩:=lC hg1
 unfold ptrTo
 have hbs:az TE m2 25 0 []=some (.slice (some ⟨m2.n,0,none⟩) 0 0,m2.push (.cells [] 3 none)):=by kernel_rfl
 rw[bj,aa,a0,aa,bB,aa,a1,aa,hbs,ar,bh,aa]
 have hx8:Ext m2 (m2.push (.cells [] 3 none)):=Ext.refl.push
 have hg8:(m2.push (.cells [] 3 none)).get m2.n=.cells [] 3 none:=M.aN
 generalize hm8:m2.push (.cells [] 3 none)=m8 at*
 rw[(lC (hx8.cells hg1)).2.2.1,aa]
 obtain⟨v11,m12,e12,ho12,hx12,hl12⟩:=ir oZ hg8 ((hl.aB hx2).aB hx8) hne (by omega)
 rw[e12,ar]
 refine⟨by rw[hl12];exact Nat.le_refl _,?_⟩
 have n8:=hx8.n
 have n12:=hx12.n
 obtain⟨rb,rfl,hrb,hgr⟩:=kL.own ho12 hne
 have hrbn:=M.aV hgr
 rw[lY rfl rfl rfl,aa]
 refine au fun m14 hn14 hg14 hk14=>?_
 obtain⟨oc,hoc⟩:∃oc,oc=m12.n:=⟨_,rfl⟩
 rw[<-hoc]at hg14⊢
 refine aD dw hg14 rfl rfl rfl fun m15 hn15 hg15 hk15=>?_
 have hg15:m15.get oc=.cells [.int .i64 w,.int .i64 h,.slice (some ⟨rb,0,none⟩) l.length l.length] 27 none:=hg15
 refine aC (ki hX rh (by decide)) ?_
 have hk:∀c,c < oc->m15.get c=m12.get c:=fun c hc=>by rw[hk15 c (by omega),hk14 c (by omega)]
 have gz:m15.get m1.n=.cells [.int .i64 0,.int .i64 0,.slice none 0 0] 27 none:=by
  rw[hk _ (by omega),hx12.get _ (by omega),hx8.get _ (by omega)];exact hg2
 have hold:∀c,c < m.n->m15.get c=m.get c:=fun c hc=>by rw[hk c (by omega),hx12.get c (by omega),hx8.get c (by omega),hx2.get c hc]
 have hgr15:m15.get rb=.cells (l.map (Value.int .i64)) 3 (some 1):=by rw[hk rb (by omega)];exact hgr
 have ho15:Ow m8.n m15 l (.slice (some ⟨rb,0,none⟩) l.length l.length):=kL.xU hne hrb hgr15
 have hn15':m15.n=oc+1:=by omega
 have flt:∀(a b:Int) (c:Addr) (p q:Nat),bD (aR [cF a b (.slice (some c) p q)])=false:=fun a b c p q=>rfl
 have hlow:m.n<=m12.low:=by rw[hl12];omega
 have fin:∀(w' h':Int) (l':List Int) (v':Value) (mm:M) (lo:Nat),mm.get oc=.cells [.int .i64 w',.int .i64 h',v'] 27 none->mm.get m1.n=.cells [.int .i64 0,.int .i64 0,.slice none 0 0] 27 none->Ow m.n mm l' v'->l'≠ []->l'.length<=l.length+1->
   (∀c,c < m.n->mm.get c=m.get c)->m.n<=mm.n->m.n<=lo->ah (ag TE mm 27 (.pointer (some ⟨oc,0,none⟩))) fun x=>aK (aw TE mm 27 (.pointer (some ⟨m1.n,0,none⟩)) x) fun m' b=>ah (ag TE m' 27 (.pointer (some ⟨m1.n,0,none⟩))) fun u=>
    (bD (aR [u])=false\/min lo b < m.n)/\min m.n (min lo b)=m.n/\∃(w' h':Int) (l':List Int) (v':Value),aR [u]=cF w' h' v'/\Ext m m'/\Ow m.n m' l' v'/\l'≠ []/\l'.length<=l.length+1:=fun w' h' l' v' mm lo g gr ho hne' hle hk' hn' hlo=>by
  refine HU (R:=fun vs m' lo=>(bD (aR vs)=false\/lo < m.n)/\min m.n lo=m.n/\∃(w' h':Int) (l':List Int) (v':Value),aR vs=cF w' h' v'/\Ext m m'/\Ow m.n m' l' v'/\l'≠ []/\l'.length<=l.length+1) g gr ho.sl.cells ho.sl.one fun m' hnm hkm=>⟨.inl ?_,by omega,w',h',l',v',rfl,⟨by omega,fun c hc=>by rw[hkm c (by omega),hk' c hc]⟩,ho.bt fun b c t g' hb ht=>?_,hne',hle⟩
  ·obtain⟨b,rfl,_⟩:=kL.own ho hne'
   exact flt _ _ _ _ _
  ·by_cases e:b=m1.n
   ·subst e
    exact(BF gr hb ht).elim
   ·rw[hkm b e,hb]
 rw[bE,aa,aj]
 refine ak (fun _=>?_) (fun _=>?_)
 ·rw[bj,aa]
  refine bM kf hg15 rfl (by simp[cells]) rfl fun m22 hn22 hg22 hk22=>?_
  refine fin n h l _ m22 _ hg22 (by rw[hk22 _ (by omega),gz]) (kL.xU hne (by omega) (by rw[hk22 _ (by omega)];exact hgr15)) hne (by omega) (fun c hc=>by rw[hk22 c (by omega),hold c hc]) (by omega) (by omega)
 rw[bE,aa,aj]
 refine ak (fun _=>?_) (fun _=>?_)
 ·rw[bB,aa]
  refine bM kf hg15 rfl (by simp[cells]) rfl fun m22 hn22 hg22 hk22=>?_
  refine fin w n l _ m22 _ hg22 (by rw[hk22 _ (by omega),gz]) (kL.xU hne (by omega) (by rw[hk22 _ (by omega)];exact hgr15)) hne (by omega) (fun c hc=>by rw[hk22 c (by omega),hold c hc]) (by omega) (by omega)
 rw[bE,aa,aj]
 obtain⟨d0,d1,d2, -⟩:=lC hg15
 refine ak (fun _=>?_) (fun _=>?_)
 ·rw[bh,aa,d2,aa,aa,d2,aa,ho15.sl.len eK,ar]
  refine aC (ki hX ra (by omega)) ⟨Nat.le_refl _,?_⟩
  have pk:=fw (c:=at_) (n:=(l.length:Int)) (by omega)
  obtain⟨k,hk⟩:∃k:Nat,cM at_ l.length=(k:Int):=⟨(cM at_ l.length).toNat,by omega⟩
  rw[hk]at pk⊢
  have hkl:k < l.length:=by omega
  rw[BW hkl,aa]
  refine bM kf hgr15 rfl (by simp[cells];omega) rfl fun m46 hn46 hg46 hk46=>?_
  have hset:m46.get rb=.cells ((l.set k n).map (Value.int .i64)) 3 (some 1):=by
   rw[hg46,List.set_eq_take_append_cons_drop,if_pos hkl]
   simp[cells,List.map_take,List.map_drop]
  have hls:(l.set k n).length=l.length:=List.length_set
  have hns:l.set k n≠ []:=fun e=>by rw[e]at hls;simp at hls;omega
  refine fin w h (l.set k n) _ m46 _ (by rw[hk46 _ (by omega)];exact hg15) (by rw[hk46 _ (by omega),gz]) ?_ hns (by omega) (fun c hc=>by rw[hk46 c (by omega),hold c hc]) (by omega) (by omega)
  have:=kL.xU (n1:=m.n) hns (by omega) hset
  rwa[hls]at this
 ·rw[bh,aa,d2,aa,vd,ar]
  have hx55:Ext m15 (m15.push (.cells [.int .i64 n] 3 none)):=Ext.refl.push
  have hpn:(m15.push (.cells [.int .i64 n] 3 none)).n=m15.n+1:=rfl
  have hg55:(m15.push (.cells [.int .i64 n] 3 none)).get m15.n=.cells [.int .i64 n] 3 none:=M.aN
  generalize hm55:m15.push (.cells [.int .i64 n] 3 none)=m55 at*
  obtain⟨v56,m57,e57,ho57,hf57,hl57,_⟩:=(ho15.aB hx55).append oZ (by simp[aL.fR]) (nj hg55) (by omega) (by simp;omega)
  have hoth:∀c,c < m55.n->c≠rb->m57.get c=m55.get c:=fun c hc hne'=>fj e57 hc fun a n' k' e=>by cases e;exact hne'
  have hn57:=hf57.n
  rw[e57,ar,aa]
  have g57:m57.get oc=.cells [.int .i64 w,.int .i64 h,.slice (some ⟨rb,0,none⟩) l.length l.length] 27 none:=by rw[hoth oc (by omega) (by omega),hx55.get _ (by omega),hg15]
  refine bM oe g57 (by rw[ho57.sl.cells];rfl) (by rw[ho57.sl.cells];simp) (by rw[ho57.sl.cells];simp[ho57.sl.one]) fun m59 hn59 hg59 hk59=>?_
  rw[ho57.sl.cells]at hg59
  refine fin w h (l++ [n]) v56 m59 _ hg59 (by rw[hk59 _ (by omega),hoth _ (by omega) (by omega),hx55.get _ (by omega),gz]) ?_ (by simp) (by simp) (fun c hc=>by rw[hk59 c (by omega),hoth c (by omega) (by omega),hx55.get c (by omega),hold c hc]) (by omega) (by omega)
  refine Ow.mono (n1:=m8.n) (ho57.bt fun b c t g' hb ht=>?_) (by omega)
  by_cases e:b=oc
  ·subst e
   exact(BF g57 hb ht).elim
  ·rw[hk59 b e,hb]
end Go.Proofs.YtmdfgncoekfgdaaGreatDoor
namespace Go.Proofs.YtmdfgncoekfgdaaGreatDoor
open Go Go.D
variable {X:aF} {m:M}
def An:Value:=cF 0 0 (.slice none 0 0)
theorem As{w:Nat}{ls:List (List UInt8)}{l:List Int}(h:dR w ls=some l):l.length=ls.length*w:=by
 obtain⟨rs,rfl,rfl,h3,_⟩:=pO h
 rw[List.length_map,List.length_flatten]
 have:∀rs:List (List Int),(∀r∈rs,r.length=w)->(rs.map List.length).sum=rs.length*w:=by
  intro rs
  induction rs with
  |nil=>intro _;simp
  |cons r rs ih=>intro h;rw[List.map_cons,List.sum_cons,ih fun q hq=>h q (by simp[hq]),h r (by simp),List.length_cons,Nat.add_mul,Nat.one_mul];omega
 exact this rs h3
theorem Dn{s:List UInt8}{l:List Int}(h:cm s=some l):s.length=2*l.length:=(mu h).2.1
theorem ua{n1:Nat}{l:List Int}{v:Value}(h:Ow n1 m l v)(hl:l≠ []){a b c:Value}:bD (.tuple #[.agg #[a,b,v],c])=false:=by
 obtain⟨q,rfl,_⟩:=kL.own h hl
 simp[bD,eV,bP]
def eE(s:List UInt8)(n1:Nat)(m':M)(r:Value):Prop:=match fD s with
 |some (w,h,l)=>∃v,r=.tuple #[cF w h v,.int .i64 0]/\Ow n1 m' l v
 |none=>r=.tuple #[An,.int .i64 410]
theorem eE.no{s:List UInt8}{n1:Nat}{m':M}(h:fD s=none):eE s n1 m' (.tuple #[An,.int .i64 410]):=by
 unfold eE;rw[h]
theorem eE.yes{s:List UInt8}{n1:Nat}{m':M}{w h:Nat}{l:List Int}{v:Value}(h0:fD s=some (w,h,l))(ho:Ow n1 m' l v):eE s n1 m' (.tuple #[cF w h v,.int .i64 0]):=by
 unfold eE;rw[h0];exact⟨v,rfl,ho⟩
def Ni(n0 k0:Nat)(m3:M)(K w:Nat)(x:List UInt8)(acc:List Int)(j:Nat)(vs:List Value)(m2:M)(lo:Nat):Prop:=
 vs=[.int .i64 0,str (x.drop (2*j))]/\j<=w/\n0<=lo/\∃p vc,cm (x.take (2*j))=some p/\m2.get m3.n=.cells [.int .i64 w,.int .i64 K,vc] 27 none/\Ow (m3.n+1) m2 (acc++p) vc/\Ext m3 m2/\k0<=m2.n
set_option maxRecDepth 100000 in
theorem xT(hX:cW X)(hS:EI X){s:List UInt8}(hs:s.length<=1048576):
  ∃r m',C X (.func 28) [str s] m m.n r m'/\Ext m m'/\eE s m.n m' r:=by
 have key:∃r m' b,C X (.func 28) [str s] m b r m'/\b=m.n/\Ext m m'/\eE s m.n m' r:=by
  refine Cl.gen (R:=fun r m' b=>b=m.n/\Ext m m'/\eE s m.n m' r) (hX.no _ rfl) OR rfl ?_
  rw[YY];dsimp only[aI]
  refine au fun m1 hn1 hg1 hk1=>?_
  have hx1:Ext m m1:=⟨by omega,hk1⟩
  obtain⟨vl,m3,hc3,hs3,hx3⟩:=FP (m:=m1) (c:=10) hX hS hs
  refine aC hc3 ?_
  have g3:=hx3.cells hg1
  have hx13:=hx1.trans hx3
  obtain⟨L,hL⟩:∃L,L=cutAt 10 s:=⟨_,rfl⟩
  rw[<-hL]at hs3
  have hLne:L≠ []:=by rw[hL];exact HZ s
  have hLpos:0 < L.length:=by
   rcases Nat.eq_zero_or_pos L.length with h0 |h0
   ·exact absurd (List.length_eq_zero_iff.1 h0) hLne
   ·exact h0
  have hLlen:L.length<=1048577:=by
   have:∀s:List UInt8,(cutAt 10 s).length<=s.length+1:=by
    intro s
    induction s with
    |nil=>decide
    |cons x r ih=>
     rw[cutAt]
     cases (x==10)with
     |true=>simpa using ih
     |false=>
      rw[cond_false]
      split
      ·rename_i h t e
       rw[e]at ih
       simp only[List.length_cons]at ih⊢
       omega
      ·simp
   rw[hL]
   have:=this s
   omega
  have hLin:∀x∈L,x.length<=1048576:=by
   intro x hx
   have:∀s:List UInt8,∀x∈cutAt 10 s,x.length<=s.length:=by
    intro s
    induction s with
    |nil=>intro x hx;rw[cutAt]at hx;simp only[List.mem_singleton]at hx;subst hx;exact Nat.le_refl _
    |cons y r ih=>
     intro x hx
     rw[cutAt]at hx
     cases hy:(y==10)with
     |true=>
      rw[hy,cond_true]at hx
      rcases List.mem_cons.1 hx with rfl |hx
      ·exact Nat.zero_le _
      ·have:=ih x hx;simp only[List.length_cons];omega
     |false=>
      rw[hy,cond_false]at hx
      split at hx
      ·rename_i h t e
       rcases List.mem_cons.1 hx with rfl |hx
       ·have:=ih h (by rw[e];simp);simp only[List.length_cons];omega
       ·have:=ih x (by rw[e];simp[hx]);simp only[List.length_cons];omega
      ·simp only[List.mem_singleton]at hx;subst hx;simp
   have:=this s x (by rw[<-hL];exact hx)
   omega
  rw[hs3.len mj,ar,cz,aa,wrap64 (by omega) (by omega),show((L.length:Int)-1)=((L.length-1:Nat):Int) by omega]
  generalize hK:L.length-1=K at*
  obtain⟨lastL,hlast⟩:∃x,L[K]?=some x:=⟨_,List.getElem?_eq_getElem (by omega)⟩
  obtain⟨line0,hline0⟩:∃x,L[0]?=some x:=⟨_,List.getElem?_eq_getElem (by omega)⟩
  have at_str:∀{mm:M} {i:Nat} {x:List UInt8},Sl mm L vl->L[i]?=some x->∃a,ai TE 42 vl (.int .i64 i)=some a/\ag TE mm 9 a=some (str x):=fun{mm i x} hsl hi=>by
   obtain⟨p,cs,e1,e2,e3⟩:=hsl.index mj (k:=.i64) hi
   have e3:cs=[str x]:=e3
   subst e3
   exact⟨p,e1,e2⟩
  have hPZ:fD s=if lastL=[]/\1<=K/\K<=40/\line0.length%2=0 then
    (match dR (line0.length/2) (L.take K).reverse with |some l=>if gx (line0.length/2:Nat) K l=true then some (line0.length/2,K,l)else none |none=>none)else none:=by
   unfold fD
   rw[<-hL,hK]
   have e1:L.getD K []=lastL:=by rw[List.getD_eq_getElem?_getD,hlast];rfl
   have e2:L.getD 0 []=line0:=by rw[List.getD_eq_getElem?_getD,hline0];rfl
   rw[e1,e2]
   all_goals rfl
  obtain⟨bad,hbad⟩:∃b:Bool,b= !decide (lastL=[]/\1<=K/\K<=40/\line0.length%2=0):=⟨_,rfl⟩
  have hl0:=hLin line0 (List.mem_of_getElem? hline0)
  have hfail:∀(mm:M) (lo:Nat),mm.get m.n=.cells [.int .i64 0,.int .i64 0,.slice none 0 0] 27 none->fD s=none->Ext m mm->m.n<=lo->
    aK (aw TE mm 27 (.pointer (some ⟨m.n,0,none⟩)) An) fun m24 b25=>ah (ag TE m24 27 (.pointer (some ⟨m.n,0,none⟩))) fun v26=>
     (bD (aR [v26,.int .i64 410])=true/\m.n<=min lo b25/\m.n=m.n/\Ext m m/\eE s m.n m (aR [v26,.int .i64 410]))\/
     ((bD (aR [v26,.int .i64 410])=false\/min lo b25 < m.n)/\min m.n (min lo b25)=m.n/\Ext m m24/\eE s m.n m24 (aR [v26,.int .i64 410])):=by
   intro mm lo hg hp hx hlo
   refine aD dw hg rfl rfl rfl fun m24 hn24 hg24 hk24=>?_
   have hg24:m24.get m.n=.cells [.int .i64 0,.int .i64 0,.slice none 0 0] 27 none:=hg24
   rw[bO,aE hg24 (by simp)]
   show ah (some An) _
   rw[aa]
   exact .inl ⟨rfl,by omega,rfl,.refl,.no hp⟩
  have bld0:aO TE 27 []=some An:=fN
  refine bY (fun vs mm lo=>vs=[.bool bad]/\m3=mm/\m.n<=lo) (fun R hR=>?_) ?_
  ·obtain⟨a,e1,e2⟩:=at_str hs3 hlast
   rw[e1,aa,e2,aa]
   have hz:(Value.string ⟨#[]⟩)=str []:=rfl
   rw[hz,vo,aa,aj]
   refine ak (fun h1=>?_) (fun h1=>?_)
   ·have h1:¬lastL=[]:=by simpa using h1
    exact hR _ _ _ ⟨by rw[hbad,decide_eq_false fun h=>h1 h.1];rfl,rfl,by omega⟩
   have h1:lastL=[]:=by simpa using h1
   rw[aH,aa,aj]
   refine ak (fun h2=>?_) (fun h2=>?_)
   ·have h2:(K:Int)< 1:=by simpa using h2
    exact hR _ _ _ ⟨by rw[hbad,decide_eq_false (by omega)];rfl,rfl,by omega⟩
   have h2:¬(K:Int)< 1:=by simpa using h2
   rw[bX,aa,aj]
   refine ak (fun h3=>?_) (fun h3=>?_)
   ·have h3:(40:Int)< K:=by simpa using h3
    exact hR _ _ _ ⟨by rw[hbad,decide_eq_false (by omega)];rfl,rfl,by omega⟩
   have h3:¬(40:Int)< K:=by simpa using h3
   obtain⟨a,e1,e2⟩:=at_str hs3 hline0
   rw[show(Value.int .i64 0)=.int .i64 ((0:Nat):Int)from rfl,e1,aa,e2,aa,iR,ar,mM (by decide),aa,bI,aa]
   refine hR _ _ _ ⟨?_,rfl,by omega⟩
   rw[hbad,Int.tmod_eq_emod_of_nonneg (by omega)]
   congr 3
   rw[decide_eq_decide]
   simp only[h1,true_and]
   omega
  rintro _ _ lo ⟨rfl,rfl,hlo⟩
  rw[aA,aj]
  refine ak (fun hb=>?_) (fun hb=>?_)
  ·rw[bld0,aa]
   refine hfail m3 lo g3 ?_ hx13 hlo
   rw[hPZ,if_neg]
   intro h
   rw[hb,decide_eq_true h]at hbad
   cases hbad
  have hgood:lastL=[]/\1<=K/\K<=40/\line0.length%2=0:=by
   refine Classical.byContradiction fun h=>?_
   rw[hb,decide_eq_false h]at hbad
   cases hbad
  rw[if_pos hgood]at hPZ
  obtain⟨_,hK1,hK40,hev⟩:=hgood
  obtain⟨a,e1,e2⟩:=at_str hs3 hline0
  rw[show(Value.int .i64 0)=.int .i64 ((0:Nat):Int)from rfl,e1,aa,e2,aa,iR,ar,eL (by decide),aa]
  have hq:IntKind.i64.wrap ((line0.length:Int).tdiv 2)=((line0.length/2:Nat):Int):=by
   rw[Int.tdiv_eq_ediv_of_nonneg (by omega),wrap64 (by omega) (by omega)];omega
  rw[hq]
  generalize hW:line0.length/2=w at*
  have hw:w<=524288:=by omega
  have bld:aO TE 27 [(0,.int .i64 w),(1,.int .i64 K)]=some (cF w K (.slice none 0 0)):=eC rfl rfl
  rw[bld,aa]
  refine au fun m32 hn32 hg32 hk32=>?_
  refine aD dw hg32 rfl rfl rfl fun m33 hn33 hg33 hk33=>?_
  have hx33:Ext m3 m33:=⟨by omega,fun b hb=>by rw[hk33 b (by omega),hk32 b hb]⟩
  have hg33:m33.get m3.n=.cells [.int .i64 w,.int .i64 K,.slice none 0 0] 27 none:=hg33
  rw[cz,aa,wrap64 (by omega) (by omega)]
  obtain⟨ls,hls⟩:∃ls,ls=(L.take K).reverse:=⟨_,rfl⟩
  have hlsl:ls.length=K:=by rw[hls,List.length_reverse,List.length_take];omega
  have hlsat:∀k,k < K->ls[k]?=L[K-1-k]?:=fun k hk=>by
   have hlt:(L.take K).length=K:=by rw[List.length_take];omega
   rw[hls,List.getElem?_reverse (by omega),hlt,List.getElem?_take_of_lt (by omega)]
  have hlsin:∀x∈ls,x.length<=1048576:=fun x hx=>hLin x (by rw[hls]at hx;exact List.mem_of_mem_take (List.mem_reverse.1 hx))
  rw[<-hls]at hPZ
  have hbd:m1.n<=m3.n:=hx3.n
  refine Lp.intro (γ:=Nat) (fun k=>K-k) (fun k vs mm lo=>vs=[.int .i64 0,.int .i64 ((K:Int)-1-k)]/\k<=K/\m.n<=lo/\∃acc vc,dR w (ls.take k)=some acc/\mm.get m3.n=.cells [.int .i64 w,.int .i64 K,vc] 27 none/\Ow (m3.n+1) mm acc vc/\Ext m3 mm/\m33.n<=mm.n) 0
   ⟨by simp,Nat.zero_le _,by omega,[],_,by simp[dR],hg33,.nil,hx33,Nat.le_refl _⟩ ?_
  rintro k vs mm lo1 ⟨rfl,hk,hlo1,acc,vc,hacc,hgd,how,hxm,hnm⟩
  rw[aA,aA]
  have hx1mm:=hx13.trans hxm
  have hres:mm.get m.n=.cells [.int .i64 0,.int .i64 0,.slice none 0 0] 27 none:=hxm.cells g3
  have haccl:=As hacc
  rw[List.length_take]at haccl
  have haccl:acc.length=k*w:=by rw[haccl];congr 1;omega
  rw[ck,aa,aj]
  refine ak (fun hge=>?_) (fun hlt=>?_)
  ·have hge:(0:Int)<=(K:Int)-1-k:=by simpa using hge
   have hkK:k < K:=by omega
   obtain⟨x,hx⟩:∃x,ls[k]?=some x:=⟨_,List.getElem?_eq_getElem (by omega)⟩
   have hxL:L[K-1-k]?=some x:=by rw[<-hlsat k hkK];exact hx
   have hxin:=List.mem_of_getElem? hx
   have hxl:=hlsin x hxin
   rw[show((K:Int)-1-k)=((K-1-k:Nat):Int) by omega]
   obtain⟨a,e1,e2⟩:=at_str (hs3.aB hxm) hxL
   rw[e1,aa,e2,aa,iR,ar]
   unfold ptrTo
   rw[bj,aa,bu,av hgd]
   show ah (some (Value.int .i64 w)) _
   rw[aa,cA,aa,wrap64 (by omega) (by omega),bI,aa,aj]
   refine ak (fun hne=>?_) (fun heq=>?_)
   ·have hne:¬(x.length:Int)=2*(w:Int):=by simpa using hne
    rw[bld0,aa]
    refine hfail mm lo1 hres ?_ hx1mm hlo1
    rw[hPZ,nE hxin (.inl (by omega))]
   have heq:(x.length:Int)=2*(w:Int):=by simpa using heq
   have heq:x.length=2*w:=by omega
   rw[aa,e2,aa]
   refine Lp.intro (γ:=Nat) (fun j=>w-j) (Ni m.n m33.n m3 K w x acc) 0
    ⟨rfl,Nat.zero_le _,by omega,[],vc,by simp[cm],hgd,by rw[List.append_nil];exact how,hxm,hnm⟩ ?_
   rintro j vs m2 lo2 ⟨rfl,hj,hlo2,p,vc2,hp,hgd2,how2,hxm2,hnm2⟩
   rw[aA,aA]
   have hpl:p.length=j:=by
    have:=Dn hp
    rw[List.length_take]at this
    omega
   have hdl:(x.drop (2*j)).length=2*w-2*j:=by rw[List.length_drop,heq]
   rw[iR,ar,bX,aa,aj,hdl]
   refine ak (fun hgt=>?_) (fun hle=>?_)
   ·have hgt:(0:Int)< ((2*w-2*j:Nat):Int):=by simpa using hgt
    have hjw:j < w:=by omega
    have hkw:k*w+w<=40*524288:=by
     have h1:(k+1)*w<=40*524288:=Nat.mul_le_mul (by omega) hw
     rw[Nat.add_mul,Nat.one_mul]at h1
     exact h1
    obtain⟨c0,c1,r,hr⟩:∃c0 c1 r,x.drop (2*j)=c0::c1::r:=by
     match hd:x.drop (2*j),hdl with
     |[],h=>simp at h;omega
     |[_],h=>simp at h;omega
     |c0::c1::r,_=>exact⟨c0,c1,r,rfl⟩
    have hr2:x.drop (2*(j+1))=r:=by
     rw[show 2*(j+1)=2*j+2 by omega,<-List.drop_drop,hr];rfl
    have htk:x.take (2*(j+1))=x.take (2*j)++ [c0,c1]:=by
     rw[show 2*(j+1)=2*j+2 by omega,List.take_add,hr];rfl
    rw[hr]
    have hS2:slice? TE m2 9 (str (c0::c1::r)) none (some (.int .i64 2)) none=some (str [c0,c1]):=iL (k:=2) (by simp)
    rw[hS2,aa]
    have hz:(Value.string ⟨#[46,46]⟩)=str [46,46]:=rfl
    rw[hz,MK,aa,aj]
    have hx2:ai TE 42 vl (.int .i64 0)=ai TE 42 vl (.int .i64 0):=rfl
    have happ:∀(n:Int) (lo3:Nat) (P:List Value->M->Nat->Prop),cm (x.take (2*(j+1)))=some (p++ [n])->m.n<=lo3->
      (∀vc3 m3' lo4,m.n<=lo4->m3'.get m3.n=.cells [.int .i64 w,.int .i64 K,vc3] 27 none->Ow (m3.n+1) m3' (acc++(p++ [n])) vc3->Ext m3 m3'->m33.n<=m3'.n->P [.int .i64 0,str r] m3' lo4)->
      ah (ae TE 27 (.pointer (some ⟨m3.n,0,none⟩)) 2) fun v70=>ah (ag TE m2 25 v70) fun v71=>aK (az TE m2 25 1 [(0,.int .i64 n)]) fun v72 m73=>aK (an TE (M.wl m73 (M.n m73)) .append [25,25] [v71,v72]) fun v74 m75=>ah (ae TE 27 (.pointer (some ⟨m3.n,0,none⟩)) 2) fun v76=>aK (aw TE m75 25 v76 v74) fun m77 b78=>ah (slice? TE m77 9 (str (c0::c1::r)) (some (.int .i64 2)) none none) fun v79=>P [.int .i64 0,v79] m77 (min (min lo3 (M.low m75)) b78):=by
     intro n lo3 P hpp hlo3 hP
     rw[bh,aa,ez,av hgd2]
     show ah (some vc2) _
     rw[aa]
     have hbs:az TE m2 25 1 [(0,.int .i64 n)]=some (.slice (some ⟨m2.n,0,none⟩) 1 1,m2.push (.cells [.int .i64 n] 3 none)):=by kernel_rfl
     rw[hbs,ar]
     have hx73:Ext m2 (m2.push (.cells [.int .i64 n] 3 none)):=Ext.refl.push
     generalize hm73:m2.push (.cells [.int .i64 n] 3 none)=m73 at*
     have hg73:m73.get m2.n=.cells ([n].map (Value.int .i64)) 3 none:=by rw[<-hm73];exact M.aN
     have hn73:m73.n=m2.n+1:=by rw[<-hm73];rfl
     obtain⟨v74,m75,ha75,ho75,hf75,hl75,hn75⟩:=Ow.append (y:=.slice (some ⟨m2.n,0,none⟩) 1 1) (ys:=[n]) oZ (by simp[aL.fR]) (how2.aB hx73) (kL.row hg73) (by omega) (by simp only[List.length_append,haccl,hpl,List.length_cons,List.length_nil];omega)
     rw[ha75,ar,aa]
     have h75:m73.n<=m75.n:=hf75.n
     have hg75:m75.get m3.n=.cells [.int .i64 w,.int .i64 K,vc2] 27 none:=by rw[hf75.get _ (by omega),hx73.get _ (by omega),hgd2]
     refine bM oe hg75 (by rw[ho75.sl.cells];rfl) (by rw[ho75.sl.cells];simp) (by rw[ho75.sl.cells];simp[ho75.sl.one]) fun m77 hn77 hg77 hk77=>?_
     have hS3:slice? TE m77 9 (str (c0::c1::r)) (some (.int .i64 2)) none none=some (str r):=lH (k:=2) (by simp)
     rw[hS3,aa]
     refine hP v74 m77 _ (by omega) ?_ ?_ ⟨by omega,fun b hb=>?_⟩ (by omega)
     ·rw[hg77,ho75.sl.cells];rfl
     ·rw[<-List.append_assoc]
      exact ho75.uf rfl fun c hc1 hc2=>hk77 c (by omega)
     ·rw[hk77 b (by omega),hf75.get b (by omega),hx73.get b (by omega),hxm2.get b hb]
    refine ak (fun hdd=>?_) (fun hdd=>?_)
    ·have hdd:[c0,c1]=[46,46]:=of_decide_eq_true hdd
     cases hdd
     have hpp:cm (x.take (2*(j+1)))=some (p++ [-1]):=by rw[htk,js hp];rfl
     exact happ (-1) lo2 (fun vs mm lo=>∃g',w-g' < w-j/\Ni m.n m33.n m3 K w x acc g' vs mm lo) hpp hlo2 fun vc3 m3' lo4 hlo4 h1 h2 h3 h4=>⟨j+1,by omega,by rw[hr2],by omega,hlo4,p++ [-1],vc3,hpp,h1,h2,h3,h4⟩
    have hdd:¬ [c0,c1]=[46,46]:=of_decide_eq_false hdd
    have hdd':¬(c0=46/\c1=46):=fun h=>hdd (by rw[h.1,h.2])
    have ix0:index? TE 9 (str (c0::c1::r)) (.int .i64 ((0:Nat):Int))=some (.int .u8 c0.toNat):=kl (i:=0) rfl
    have ix1:index? TE 9 (str (c0::c1::r)) (.int .i64 1)=some (.int .u8 c1.toNat):=kl (i:=1) rfl
    refine bY (fun vs mm lo=>vs=[.bool (kk c0 && kk c1)]/\m2=mm/\m.n<=lo) (fun R hR=>?_) ?_
    ·rw[ix0,aa]
     refine aC (sw hX) ?_
     rw[aj]
     refine ak (fun h0=>?_) (fun h0=>?_)
     ·rw[ix1,aa]
      refine aC (sw hX) ?_
      have:=hxm2.n
      exact hR _ _ _ ⟨by rw[h0,Bool.true_and],rfl,by omega⟩
     ·have:=hxm2.n
      exact hR _ _ _ ⟨by rw[h0,Bool.false_and],rfl,by omega⟩
    rintro _ _ lo5 ⟨rfl,rfl,hlo5⟩
    rw[aA,aj]
    refine ak (fun hdg=>?_) (fun hdg=>?_)
    ·have hdg':=hdg
     unfold kk at hdg'
     simp only[Bool.and_eq_true,decide_eq_true_eq]at hdg'
     obtain⟨⟨a1,a2⟩,b1,b2⟩:=hdg'
     have hpp:cm (x.take (2*(j+1)))=some (p++ [10*((c0.toNat:Int)-48)+((c1.toNat:Int)-48)]):=by
      rw[htk,js hp]
      have:cm [c0,c1]=some [10*((c0.toNat:Int)-48)+((c1.toNat:Int)-48)]:=by
       rw[cm,if_neg hdd',if_pos hdg];rfl
      rw[this];rfl
     have hA:=happ (10*((c0.toNat:Int)-48)+((c1.toNat:Int)-48)) lo5 (fun vs mm lo=>∃g',w-g' < w-j/\Ni m.n m33.n m3 K w x acc g' vs mm lo) hpp hlo5 fun vc3 m3' lo4 hlo4 h1 h2 h3 h4=>⟨j+1,by omega,by rw[hr2],by omega,hlo4,_,vc3,hpp,h1,h2,h3,h4⟩
     rw[bh,aa]at hA⊢
     revert hA
     rw[ez,av hgd2]
     show ah (some vc2) _->ah (some vc2) _
     rw[aa,aa,ix0,aa,cz,aa,tE (by omega) (by omega),oU,aa,wrap64 (by omega) (by omega),cA,aa,wrap64 (by omega) (by omega),ix1,aa,cz,aa,tE (by omega) (by omega),oU,aa,wrap64 (by omega) (by omega),aG,aa,wrap64 (by omega) (by omega)]
     exact fun h=>h
    ·rw[bld0,aa]
     refine hfail m2 lo5 (hxm2.cells g3) ?_ (hx13.trans hxm2) hlo5
     rw[hPZ,nE hxin (.inr ?_)]
     have:x=x.take (2*j)++(c0::c1::r):=by rw[<-hr,List.take_append_drop]
     rw[this,js hp]
     have:cm (c0::c1::r)=none:=by
      rw[cm,if_neg hdd',if_neg (by rw[hdg];decide)]
     rw[this];rfl
   ·have hle:¬(0:Int)< ((2*w-2*j:Nat):Int):=by simpa using hle
    have hjw:j=w:=by omega
    subst hjw
    rw[List.take_of_length_le (by omega)]at hp
    rw[cz,aa,wrap64 (by omega) (by omega)]
    refine⟨k+1,by omega,by rw[show(((K-1-k:Nat):Int)-1)=(K:Int)-1-(k+1:Nat) by omega],by omega,hlo2,acc++p,vc2,?_,hgd2,how2,hxm2,hnm2⟩
    rw[List.take_add_one,hx]
    exact sj hacc heq hp
  ·have hlt:¬(0:Int)<=(K:Int)-1-k:=by simpa using hlt
   have hkK:k=K:=by omega
   subst hkK
   rw[List.take_of_length_le (by omega)]at hacc
   rw[hacc]at hPZ
   unfold ptrTo
   rw[bO,aE hgd (by simp)]
   show ah (some (cF w k vc)) _
   rw[aa]
   have hkw:k*w<=40*524288:=Nat.mul_le_mul hK40 hw
   refine aC (AJ hX how.sl (by omega)) ?_
   rw[aX,aa,aj]
   cases hd:gx w k acc with
   |false=>
    rw[Bool.not_false,bJ,bld0,aa]
    refine hfail mm (min lo1 mm.n) hres ?_ hx1mm (by have:=hx1mm.n;omega)
    rw[hPZ]
    dsimp only
    rw[if_neg (by rw[hd];decide)]
   |true=>
    rw[Bool.not_true,aM]
    rw[bO,aE hgd (by simp)]
    show ah (some (cF w k vc)) _
    rw[aa]
    have hvc1:one vc=true:=how.sl.one
    refine aD dw hres rfl rfl (by show(true && (true && (one vc && true)))=true;rw[hvc1];rfl) fun m127 hn127 hg127 hk127=>?_
    have hg127:m127.get m.n=.cells [.int .i64 w,.int .i64 k,vc] 27 none:=hg127
    rw[bO,aE hg127 (by simp)]
    show ah (some (cF w k vc)) _
    rw[aa]
    dsimp only at hPZ
    rw[if_pos hd]at hPZ
    have hne:acc≠ []:=by
     intro h
     rw[h]at hd
     have hd:=hd
     simp only[gx,eA,Bool.and_eq_true,decide_eq_true_eq]at hd
     obtain⟨⟨⟨⟨a,b⟩,c,d⟩,e⟩,_⟩:=hd
     have h1:1<=k*w:=Nat.mul_pos (by omega) (by omega)
     rw[<-haccl,h]at h1
     simp at h1
    refine .inr ⟨.inl (ua how hne),by have:=hx1mm.n;omega,⟨by have:=hx1mm.n;omega,fun b hb=>by rw[hk127 b (by omega),hx1mm.get b hb]⟩,.yes hPZ ?_⟩
    exact(how.uf rfl fun c hc1 hc2=>hk127 c (by omega)).mono (by omega)
 obtain⟨r,m',b,hc,rfl,h1,h2⟩:=key
 exact⟨r,m',hc,h1,h2⟩
end Go.Proofs.YtmdfgncoekfgdaaGreatDoor
namespace Go.Proofs.YtmdfgncoekfgdaaGreatDoor
open Go Go.D
variable {X:aF} {m:M}
set_option maxRecDepth 100000 in
theorem tR(hX:cW X){s:List UInt8}(hs:s.length<=3240):∃r m',C X (.func 29) [str s] m m.n r m'/\Ext m m'/\eE s m.n m' r:=by
 have key:=Cl.gen (E:=TE) (X:=X) (f:=29) (args:=[str s]) (m:=m) (R:=fun r m' bb=>bb=m.n/\Ext m m'/\eE s m.n m' r) (hX.no _ rfl) OQ rfl ?_
 ·obtain⟨r,m',bb,hc,rfl,h1,h2⟩:=key
  exact⟨r,m',hc,h1,h2⟩
 rw[YX];dsimp only[aI]
 refine au fun m1 hn1 hg1 hk1=>?_
 have hx1:Ext m m1:=⟨by omega,hk1⟩
 unfold ptrTo
 rw[iR,ar,bX,aa,aj,decide_eq_false (by omega),aM]
 refine Lp.intro (γ:=Nat) (fun n=>s.length-n) (fun n vs mm lo=>vs=[.int .i64 n]/\n<=s.length/\m1=mm/\lo=m.n/\∀j b,j < n->s[j]?=some b->b≠10) 0 ⟨rfl,Nat.zero_le _,rfl,rfl,fun j b hj=>by omega⟩ ?_
 rintro n vs mm lo ⟨rfl,hn,rfl,rfl,hno⟩
 rw[aA]
 refine bY (fun vs mm lo=>vs=[.bool (decide (n < s.length/\s[n]?≠some 10))]/\m1=mm/\lo=m.n) (fun R hR=>?_) ?_
 ·rw[iR,ar,aH,aa,aj]
  refine ak (fun hlt=>?_) (fun hge=>hR _ _ _ ⟨?_,rfl,rfl⟩)
  ·have hlt:n < s.length:=by simpa using hlt
   obtain⟨x,hx⟩:∃x,s[n]?=some x:=⟨_,List.getElem?_eq_getElem hlt⟩
   rw[kl hx,aa,bI,aa]
   refine hR _ _ _ ⟨?_,rfl,rfl⟩
   have e:(x.toNat:Int)=10↔x=10:=by
    constructor
    ·intro h
     have h:x.toNat=(10:UInt8).toNat:=by
      show x.toNat=10
      omega
     exact UInt8.toNat_inj.1 h
    ·rintro rfl;rfl
   by_cases hx10:x=10
   ·rw[decide_eq_true (e.2 hx10),decide_eq_false fun h=>h.2 (by rw[hx,hx10])];rfl
   ·rw[decide_eq_false fun h=>hx10 (e.1 h),decide_eq_true ⟨hlt,fun h=>hx10 (by rw[hx]at h;exact Option.some.inj h)⟩];rfl
  ·have hge:¬n < s.length:=by
    have:¬(n:Int)< (s.length:Int):=of_decide_eq_false hge
    omega
   rw[decide_eq_false fun h=>hge h.1]
 rintro _ _ _ ⟨rfl,rfl,rfl⟩
 rw[aA,aj]
 refine ak (fun hgo=>?_) (fun hend=>?_)
 ·obtain⟨g1,g2⟩:=of_decide_eq_true hgo
  rw[aG,aa,wrap64 (by omega) (by omega)]
  refine⟨n+1,by omega,rfl,by omega,rfl,rfl,fun j b hj hb=>?_⟩
  by_cases e:j=n
  ·subst e
   rintro rfl
   exact g2 hb
  ·exact hno j b (by omega) hb
 have hnl:vn s=n:=vk hno (by
  by_cases h:n=s.length
  ·exact .inl h
  ·refine .inr ?_
   have:=of_decide_eq_false hend
   by_cases h2:s[n]?=some 10
   ·exact h2
   ·exact absurd ⟨by omega,h2⟩ this)
 obtain⟨W,hW⟩:∃W,W=n/2:=⟨_,rfl⟩
 obtain⟨H,hH⟩:∃H,H=s.length/(n+1):=⟨_,rfl⟩
 have hrW:rW s=W:=by unfold rW;rw[hnl,hW]
 have hrH:rH s=H:=by unfold rH;rw[hnl,hH]
 have hHn:H*(n+1)<=s.length:=by rw[hH];exact Nat.div_mul_le_self _ _
 have hHs:H<=s.length:=by rw[hH];exact Nat.div_le_self _ _
 have hHW:H*W<=3240:=by
  have:H*W<=H*(n+1):=Nat.mul_le_mul_left _ (by omega)
  omega
 have q1:=uT (t:=3) (a:=n) (b:=2) (by decide) (by omega)
 have q2:=uT (t:=3) (a:=s.length) (b:=n+1) (by omega) (by omega)
 rw[<-hW]at q1
 rw[<-hH]at q2
 have q1:aq TE .quo 3 (.int .i64 n) (.int .i64 2)=some (.int .i64 W):=q1
 rw[q1,aa,iR,ar,aG,aa,wrap64 (by omega) (by omega),show((n:Int)+1)=((n+1:Nat):Int) by omega,q2,aa,eC rfl rfl,aa]
 refine au fun m30 hn30 hg30 hk30=>?_
 obtain⟨oc,hoc⟩:∃oc,oc=m1.n:=⟨_,rfl⟩
 rw[<-hoc]at hg30⊢
 refine aD dw hg30 rfl rfl rfl fun m31 hn31 hg31 hk31=>?_
 have hg31:m31.get oc=.cells [.int .i64 W,.int .i64 H,.slice none 0 0] 27 none:=hg31
 have gz:∀mm:M,(∀c,c < oc->mm.get c=m31.get c)->mm.get m.n=.cells [.int .i64 0,.int .i64 0,.slice none 0 0] 27 none:=fun mm hmm=>by
  rw[hmm _ (by omega),hk31 _ (by omega),hk30 _ (by omega)];exact hg1
 have hold:∀mm:M,(∀c,c < oc->mm.get c=m31.get c)->∀c,c < m.n->mm.get c=m.get c:=fun mm hmm c hc=>by rw[hmm c (by omega),hk31 c (by omega),hk30 c (by omega),hk1 c hc]
 simp only[bj,bB,bh,aa]
 rw[(lC hg31).2.1,aa,cz,aa,wrap64 (by omega) (by omega)]
 obtain⟨g,hg⟩:∃g,g=tT s (n+1) H:=⟨_,rfl⟩
 refine Lp.intro (γ:=Nat) (fun k=>H-k) (fun k vs mm lo=>∃v8,vs=[.int .i64 ((H:Int)-1-k)]/\k<=H/\zz oc W H mm (cn g W k) v8/\(∀c,c < oc->mm.get c=m31.get c)/\m31.n<=mm.n/\m.n<=lo) 0 ⟨_,by rw[show((H:Int)-1-(0:Nat))=(H:Int)-1 by omega],Nat.zero_le _,⟨hg31,.nil⟩,fun c hc=>rfl,Nat.le_refl _,by omega⟩ ?_
 rintro k vs vv lo39 ⟨v8,rfl,hk,hgr,hkm,hnm,hlo⟩
 rw[aA,ck,aa,aj]
 refine ak (fun hge0=>?_) (fun hlt0=>?_)
 ·have hkH:k < H:=by
   have:(0:Int)<=(H:Int)-1-k:=of_decide_eq_true hge0
   omega
  obtain⟨y,hy⟩:∃y:Nat,y=H-1-k:=⟨_,rfl⟩
  rw[show(H:Int)-1-k=(y:Int) by omega]
  have hyn:y*(n+1)+(n+1)<=s.length:=by
   have:(y+1)*(n+1)<=H*(n+1):=Nat.mul_le_mul_right _ (by omega)
   rw[Nat.add_mul,Nat.one_mul]at this
   omega
  have hyc:((y:Int)*((n+1:Nat):Int))=((y*(n+1):Nat):Int):=by push_cast;rfl
  refine Lp.intro (γ:=Nat) (fun x=>W-x) (fun x vs mm lo=>∃v9,vs=[.int .i64 x]/\x<=W/\zz oc W H mm (cn g W k++iM g x k) v9/\(∀c,c < oc->mm.get c=m31.get c)/\m31.n<=mm.n/\m.n<=lo) 0 ⟨v8,rfl,Nat.zero_le _,by simpa[iM]using hgr,hkm,hnm,hlo⟩ ?_
  rintro x vs m45 lo46 ⟨v9,rfl,hx,hgr9,hk9,hnm9,hlo9⟩
  obtain⟨f0,f1,f2, -⟩:=lC hgr9.cell
  rw[aA,f0,aa,aH,aa,aj]
  refine ak (fun hlt2=>?_) (fun hge2=>?_)
  ·have hxW:x < W:=by simpa using hlt2
   have hsz:(cn g W k++iM g x k).length < 268435456:=by
    rw[List.length_append,cy,jq]
    have:(k+1)*W<=H*W:=Nat.mul_le_mul_right _ hkH
    rw[Nat.add_mul,Nat.one_mul]at this
    omega
   obtain⟨at_,hat⟩:∃a,a=y*(n+1)+2*x:=⟨_,rfl⟩
   obtain⟨a,ha⟩:∃a,s[at_]?=some a:=⟨_,List.getElem?_eq_getElem (by omega)⟩
   obtain⟨b,hb⟩:∃b,s[at_+1]?=some b:=⟨_,List.getElem?_eq_getElem (by omega)⟩
   have hal:=a.toNat_lt
   have hbl:=b.toNat_lt
   rw[cA,aa,hyc,wrap64 (by omega) (by omega),cA,aa,wrap64 (by omega) (by omega),aG,aa,wrap64 (by omega) (by omega),
    show((y*(n+1):Nat):Int)+2*(x:Int)=(at_:Int) by omega,kl ha,aa,oU,aa,wrap64 (by omega) (by omega),cA,aa,wrap64 (by omega) (by omega),aG,aa,wrap64 (by omega) (by omega),
    show(at_:Int)+1=((at_+1:Nat):Int) by omega,kl hb,aa,oU,aa,wrap64 (by omega) (by omega),aG,aa,wrap64 (by omega) (by omega),cz,aa,wrap64 (by omega) (by omega),aa,bE,aa,aj]
   have hgx:g x k=uB a b:=by
    rw[hg]
    unfold tT
    rw[<-hy,mL (by rw[<-hat];exact ha),mL (by rw[<-hat];exact hb)]
   have e46:(a.toNat:Int)=46↔a=46:=by
    constructor
    ·intro h
     have h:a.toNat=(46:UInt8).toNat:=by
      show a.toNat=46
      omega
     exact UInt8.toNat_inj.1 h
    ·rintro rfl;rfl
   refine ak (fun hdot=>?_) (fun hdot=>?_)
   ·have hdot:a=46:=e46.1 (of_decide_eq_true hdot)
    have hv:g x k= -1:=by rw[hgx];unfold uB;rw[if_pos hdot]
    rw[f2,aa]
    obtain⟨m45',a',v1,m47,m1',e1,e2,e3,e4,e5,e6,e7⟩:=iZ (-1) hgr9 hsz
    rw[e1,ar,e2,ar,e3,ar,aG,aa,wrap64 (by omega) (by omega)]
    exact⟨x+1,by omega,v1,rfl,by omega,by rw[gF,<-List.append_assoc,hv];exact e5,fun c hc=>by rw[e6 c hc,hk9 c hc],by omega,by omega⟩
   ·have hdot:¬a=46:=fun h=>of_decide_eq_false hdot (e46.2 h)
    have hv:g x k=10*(a.toNat:Int)+(b.toNat:Int)-528:=by rw[hgx];unfold uB;rw[if_neg hdot]
    rw[f2,aa]
    obtain⟨m45',a',v1,m47,m1',e1,e2,e3,e4,e5,e6,e7⟩:=iZ (10*(a.toNat:Int)+(b.toNat:Int)-528) hgr9 hsz
    rw[e1,ar,e2,ar,e3,ar,aG,aa,wrap64 (by omega) (by omega)]
    exact⟨x+1,by omega,v1,rfl,by omega,by rw[gF,<-List.append_assoc,hv];exact e5,fun c hc=>by rw[e6 c hc,hk9 c hc],by omega,by omega⟩
  ·have hxW:x=W:=by
    have:¬(x:Int)< (W:Int):=of_decide_eq_false hge2
    omega
   subst hxW
   rw[cz,aa,wrap64 (by omega) (by omega)]
   exact⟨k+1,by omega,v9,by rw[show(H:Int)-1-((k+1:Nat):Int)=(y:Int)-1 by omega],by omega,by rw[gK];exact hgr9,hk9,hnm9,hlo9⟩
 have hkH:k=H:=by
  have:¬(0:Int)<=(H:Int)-1-k:=of_decide_eq_false hlt0
  omega
 subst hkH
 have hrL:rL s=cn g W k:=by unfold rL;rw[hnl,hrW,hrH,hg]
 obtain⟨l,hl⟩:∃l,l=cn g W k:=⟨_,rfl⟩
 rw[<-hl]at hgr hrL
 have hll:l.length=k*W:=by rw[hl,cy]
 have hdr:=(lC hgr.cell).2.2.2
 have hzero:=gz vv hkm
 have hnn:m.n<=vv.n:=by omega
 rw[hdr,aa]
 have bld:aO TE 27 []=some (cF 0 0 (.slice none 0 0)):=fN
 have bad:∀lo:Nat,m.n<=lo->fD s=none->ah (aO TE 27 []) fun v101=>aK (aw TE vv 27 (.pointer (some ⟨m.n,0,none⟩)) v101) fun m102 b103=>ah (ag TE m102 27 (.pointer (some ⟨m.n,0,none⟩))) fun v104=>
   (bD (aR [v104,.int .i64 410])=true/\m.n<=min lo b103/\True/\Ext m m/\eE s m.n m (aR [v104,.int .i64 410]))\/((bD (aR [v104,.int .i64 410])=false\/min lo b103 < m.n)/\min m.n (min lo b103)=m.n/\Ext m m102/\eE s m.n m102 (aR [v104,.int .i64 410])):=fun lo hlo hp=>by
  rw[bld,aa]
  refine aD dw hzero rfl rfl rfl fun m9 hn9 hg9 hk9=>?_
  have hg9:m9.get m.n=.cells [.int .i64 0,.int .i64 0,.slice none 0 0] 27 none:=hg9
  rw[(lC hg9).2.2.2,aa]
  exact .inl ⟨rfl,by omega,trivial,.refl,.no hp⟩
 cases hd:gx W k l with
 |false=>
  refine aC (tQ hX hd (.inl hgr.ow.sl) (by omega)) ?_
  rw[bw,bw]
  simp only[List.getElem?_cons_zero,List.getElem?_cons_succ,aa]
  refine bY (fun vs mm lo=>vs=[.bool true]/\vv=mm/\m.n<=lo) (fun R hR=>?_) ?_
  ·rw[bI,aa,aj,show(!decide ((410:Int)=0))=true from rfl,bJ]
   exact hR _ _ _ ⟨rfl,rfl,by omega⟩
  rintro _ _ lo ⟨rfl,rfl,hlo2⟩
  rw[aA,aj,bJ]
  exact bad lo hlo2 (tS (by rw[hrW,hrH,hrL,hd];exact fun h=>by cases h.1))
 |true=>
  refine aC (tP hX hd (.inl hgr.ow.sl)) ?_
  rw[bw,bw]
  simp only[List.getElem?_cons_zero,List.getElem?_cons_succ,aa]
  refine bY (fun vs mm lo=>vs=[.bool (!decide (dJ W k l=s))]/\vv=mm/\m.n<=lo) (fun R hR=>?_) ?_
  ·rw[bI,aa,aj,show(!decide ((0:Int)=0))=false from rfl,aM,vo,aa]
   exact hR _ _ _ ⟨rfl,rfl,by omega⟩
  rintro _ _ lo ⟨rfl,rfl,hlo2⟩
  rw[aA,aj]
  refine ak (fun hne=>?_) (fun heq=>?_)
  ·rw[Bool.not_eq_true']at hne
   exact bad lo hlo2 (tS (by rw[hrW,hrH,hrL];exact fun h=>of_decide_eq_false hne h.2))
  ·rw[Bool.not_eq_false']at heq
   have hp:=zT (s:=s) (by rw[hrW,hrH,hrL];exact hd) (by rw[hrW,hrH,hrL];exact of_decide_eq_true heq)
   rw[hrW,hrH,hrL]at hp
   have hne:l≠ []:=fun e=>by
    obtain⟨w1,_,h1,_,hlen,_⟩:=e9 hd
    have:=Nat.mul_pos w1 h1
    rw[e]at hlen
    simp at hlen
    omega
   rw[hdr,aa]
   refine aD dw hzero rfl rfl (by show(true && (true && (one v8 && true)))=true;rw[hgr.ow.sl.one];rfl) fun m9 hn9 hg9 hk9=>?_
   have hg9:m9.get m.n=.cells [.int .i64 W,.int .i64 k,v8] 27 none:=hg9
   rw[(lC hg9).2.2.2,aa]
   refine .inr ⟨.inl (ua hgr.ow hne),by omega,⟨by omega,fun c hc=>by rw[hk9 c (by omega),hold vv hkm c hc]⟩,.yes hp ?_⟩
   exact(hgr.ow.uf rfl fun c hc1 hc2=>hk9 c (by omega)).mono (by omega)
end Go.Proofs.YtmdfgncoekfgdaaGreatDoor
namespace Go.Proofs.YtmdfgncoekfgdaaGreatDoor
open Go Go.D
variable {X:aF} {m:M}
theorem qW{l:List UW}{v:Value}{q:Pl}{rv:Value}{m':M}{n1:Nat}(hF:dS m' l v)(ho:Ow n1 m' (jH l q) rv):Sl m' (dT (bV l) q) rv:=by
 have:=ho.sl.yA fun x hx=>hF.sh x (List.mem_filter.1 hx).1
 rwa[oT]at this
set_option maxRecDepth 100000 in
theorem xK(hX:cW X){l:List UW}{v:Value}(h:dS m l v)(hlen:l.length < 1000000)(behind:Bool):
  ∃rv m',C X (.func 12) [.agg #[v],.bool behind] m m.n rv m'/\Ext m m'/\
   ((cB (bV l)/\∃v',rv=.tuple #[cF 40 40 v',.int .i64 0]/\Ow m.n m' (cJ (bV l) behind) v')\/(¬cB (bV l)/\rv=.tuple #[cF 0 0 (.slice none 0 0),.int .i64 410])):=by
 have key:∃rv m' b,C X (.func 12) [.agg #[v],.bool behind] m b rv m'/\b=m.n/\Ext m m'/\
   ((cB (bV l)/\∃v',rv=.tuple #[cF 40 40 v',.int .i64 0]/\Ow m.n m' (cJ (bV l) behind) v')\/(¬cB (bV l)/\rv=.tuple #[cF 0 0 (.slice none 0 0),.int .i64 410])):=by
  refine Cl.gen (R:=fun rv m' b=>b=m.n/\Ext m m'/\((cB (bV l)/\∃v',rv=.tuple #[cF 40 40 v',.int .i64 0]/\Ow m.n m' (cJ (bV l) behind) v')\/(¬cB (bV l)/\rv=.tuple #[cF 0 0 (.slice none 0 0),.int .i64 410]))) (hX.no _ rfl) O1 rfl ?_
  rw[Y8];dsimp only[aI]
  refine au fun m1 hn1 hg1 hk1=>?_
  refine au fun m2 hn2 hg2 hk2=>?_
  have hx2:Ext m m2:=⟨by omega,fun c hc=>by rw[hk2 c (by omega),hk1 c hc]⟩
  have g1:m2.get m.n=.cells [v] 31 none:=by rw[hk2 _ (by omega)];exact hg1
  have ldF:∀mm:M,mm.get m.n=.cells [v] 31 none->ag TE mm 31 (.pointer (some ⟨m.n,0,none⟩))=some (.agg #[v]):=fun mm h=>by rw[cZ,aE h (by simp)];rfl
  unfold ptrTo
  rw[ldF m2 g1,aa]
  refine aC (jr hX (h.aB hx2) hlen) ?_
  rw[aX,aa,aj]
  refine ak (fun hb=>?_) (fun hb=>?_)
  ·have hb:¬cB (bV l):=fun hp=>by rw[fM hp]at hb;exact absurd hb (by decide)
   have bld:aO TE 27 []=some (cF 0 0 (.slice none 0 0)):=fN
   rw[bld,aa]
   refine aD dw hg2 rfl rfl rfl fun m9 hn9 hg9 hk9=>?_
   have e:ag TE m9 27 (.pointer (some ⟨m1.n,0,none⟩))=some (cF 0 0 (.slice none 0 0)):=by rw[bO,aE hg9 (by simp[aP])];rfl
   rw[e,aa]
   exact .inl ⟨rfl,by omega,rfl,.refl,.inr ⟨hb,rfl⟩⟩
  have hP:cB (bV l):=kp.1 (by simpa using hb)
  rw[eC rfl rfl,aa]
  refine au fun m13 hn13 hg13 hk13=>?_
  obtain⟨oc,hoc⟩:∃oc,oc=m2.n:=⟨_,rfl⟩
  rw[<-hoc]at hg13⊢
  refine aD dw hg13 rfl rfl rfl fun m14 hn14 hg14 hk14=>?_
  have hg14:m14.get oc=.cells [.int .i64 40,.int .i64 40,.slice none 0 0] 27 none:=hg14
  have hx14:Ext m m14:=⟨by omega,fun c hc=>by rw[hk14 c (by omega),hk13 c (by omega),hx2.get c hc]⟩
  have g014:m14.get m.n=.cells [v] 31 none:=by rw[hk14 _ (by omega),hk13 _ (by omega),g1]
  have g214:m14.get m1.n=.cells [.int .i64 0,.int .i64 0,.slice none 0 0] 27 none:=by rw[hk14 _ (by omega),hk13 _ (by omega),hg2]
  have ld0:∀(mm:M) (l:List Int) (v:Value),zz oc 40 40 mm l v->ag TE mm 3 (.pointer (some ⟨oc,0+0,none⟩))=some (.int .i64 40)/\ag TE mm 3 (.pointer (some ⟨oc,0+1,none⟩))=some (.int .i64 40)/\ag TE mm 25 (.pointer (some ⟨oc,0+2,none⟩))=some v:=fun mm l v g=>by
   refine⟨?_,?_,?_⟩
   ·rw[bu,av g.cell];rfl
   ·rw[bu,av g.cell];rfl
   ·rw[ez,av g.cell];rfl
  simp only[bj,bB,bh,aa]
  obtain⟨gz,hgz⟩:∃gz:Nat->Nat->Int,gz=fun(i j:Nat)=>nc (bV l) behind (i:Int) (j:Int):=⟨_,rfl⟩
  refine Lp.intro (γ:=Nat) (fun j=>40-j) (fun j vs mm lo=>∃v8,vs=[.int .i64 j]/\j<=40/\zz oc 40 40 mm (cn gz 40 j) v8/\(∀c,c < oc->mm.get c=m14.get c)/\m14.n<=mm.n/\m.n<=lo) 0 ⟨_,rfl,Nat.zero_le _,⟨hg14,.nil⟩,fun c hc=>rfl,Nat.le_refl _,by omega⟩ ?_
  rintro j vs m18 lo19 ⟨v8,rfl,hj,hgr,hk,hnm,hlo⟩
  rw[aA,(ld0 _ _ _ hgr).2.1,aa,aH,aa,aj]
  refine ak (fun hlt=>?_) (fun hge=>?_)
  ·have hlt:j < 40:=by
    have:(j:Int)< 40:=by simpa using hlt
    omega
   refine Lp.intro (γ:=Nat) (fun i=>40-i) (fun i vs mm lo=>∃v9,vs=[.int .i64 i]/\i<=40/\zz oc 40 40 mm (cn gz 40 j++iM gz i j) v9/\(∀c,c < oc->mm.get c=m14.get c)/\m14.n<=mm.n/\m.n<=lo) 0 ⟨v8,rfl,Nat.zero_le _,by simpa[iM]using hgr,hk,hnm,hlo⟩ ?_
   rintro i vs m27 lo28 ⟨v9,rfl,hi,hgr9,hk9,hnm9,hlo9⟩
   rw[aA,(ld0 _ _ _ hgr9).1,aa,aH,aa,aj]
   refine ak (fun hlt2=>?_) (fun hge2=>?_)
   ·have hlt2:i < 40:=by
     have:(i:Int)< 40:=by simpa using hlt2
     omega
    have hx27:Ext m m27:=⟨by omega,fun c hc=>by rw[hk9 c (by omega),hx14.get c hc]⟩
    have g027:m27.get m.n=.cells [v] 31 none:=by rw[hk9 _ (by omega),g014]
    have hF27:=h.aB hx27
    have hsz:(cn gz 40 j++iM gz i j).length < 268435456:=by
     rw[List.length_append,cy,jq]
     omega
    rw[aj]
    refine ak (fun hbe=>?_) (fun hbe=>?_)
    ·rw[(ld0 _ _ _ hgr9).2.2,aa,ldF m27 g027,aa,cz,aa,wrap64 (by omega) (by omega)]
     obtain⟨rv,m39,hc39,hx39,ho39⟩:=jS (m:=m27) hX hF27 hlen (39-(i:Int)) j
     refine aC hc39 ⟨Nat.le_refl _,?_⟩
     have hF39:=hF27.aB hx39
     have n39:=hx39.n
     refine aC (JR hX (qW hF39 ho39) (by
                              have:(dT (bV l) ⟨39-(i:Int),j⟩).length<=(bV l).length:=List.length_filter_le _ _
                              rw[dY]at this;omega) (fun u hu=>by have:=hP.depth (List.mem_filter.1 hu).1;omega)) ⟨Nat.le_refl _,?_⟩
     have hn:GR (bQ (fun a b=>decide (a.back < b.back)) (dT (bV l) ⟨39-(i:Int),j⟩) none)=gz i j:=by rw[hgz];simp only[nc,hbe,if_true]
     rw[hn]
     obtain⟨m45,a,v1,m47,m1',e1,e2,e3,e4,e5,e6,e7⟩:=iZ (gz i j) (hgr9.aB hx39) hsz
     rw[e1,ar,e2,ar,e3,ar,aG,aa,wrap64 (by omega) (by omega)]
     exact⟨i+1,by omega,v1,rfl,by omega,by rw[gF,<-List.append_assoc];exact e5,fun c hc=>by rw[e6 c hc,hx39.get c (by omega),hk9 c hc],by omega,by omega⟩
    ·rw[(ld0 _ _ _ hgr9).2.2,aa,ldF m27 g027,aa]
     obtain⟨rv,m39,hc39,hx39,ho39⟩:=jS (m:=m27) hX hF27 hlen i j
     refine aC hc39 ⟨Nat.le_refl _,?_⟩
     have hF39:=hF27.aB hx39
     have n39:=hx39.n
     refine aC (GY hX (qW hF39 ho39) (by
                               have:(dT (bV l) ⟨(i:Int),j⟩).length<=(bV l).length:=List.length_filter_le _ _
                               rw[dY]at this;omega) (fun u hu=>by have:=hP.depth (List.mem_filter.1 hu).1;omega)) ⟨Nat.le_refl _,?_⟩
     have hn:GR (bQ (fun a b=>decide (b.front < a.front)) (dT (bV l) ⟨(i:Int),j⟩) none)=gz i j:=by rw[hgz];simp only[nc,hbe];rfl
     rw[hn]
     obtain⟨m45,a,v1,m47,m1',e1,e2,e3,e4,e5,e6,e7⟩:=iZ (gz i j) (hgr9.aB hx39) hsz
     rw[e1,ar,e2,ar,e3,ar,aG,aa,wrap64 (by omega) (by omega)]
     exact⟨i+1,by omega,v1,rfl,by omega,by rw[gF,<-List.append_assoc];exact e5,fun c hc=>by rw[e6 c hc,hx39.get c (by omega),hk9 c hc],by omega,by omega⟩
   ·have hi':i=40:=by
     have:¬(i:Int)< 40:=by simpa using hge2
     omega
    subst hi'
    rw[aG,aa,wrap64 (by omega) (by omega)]
    exact⟨j+1,by omega,v9,rfl,by omega,by rw[gK];exact hgr9,hk9,hnm9,hlo9⟩
  ·have hj':j=40:=by
    have:¬(j:Int)< 40:=by simpa using hge
    omega
   subst hj'
   have e:ag TE m18 27 (.pointer (some ⟨oc,0,none⟩))=some (cF 40 40 v8):=by rw[bO,aE hgr.cell (by simp)];rfl
   have g2:m18.get m1.n=.cells [.int .i64 0,.int .i64 0,.slice none 0 0] 27 none:=by rw[hk _ (by omega),g214]
   rw[e,aa]
   refine aD dw g2 rfl rfl (by show(true && (true && (one v8 && true)))=true;rw[hgr.ow.sl.one];rfl) fun m71 hn71 hg71 hk71=>?_
   have e2:ag TE m71 27 (.pointer (some ⟨m1.n,0,none⟩))=some (cF 40 40 v8):=by rw[bO,aE hg71 (by simp[aP])];rfl
   rw[e2,aa]
   have ho:Ow (oc+1) m71 (cn gz 40 40) v8:=hgr.ow.bt fun b c t g hb ht=>by
    by_cases hbm:b=m1.n
    ·subst hbm
     rw[g2]at hb
     cases hb
     simp[aL.ty,aL.fR]at ht
    ·rw[hk71 b hbm,hb]
   have hgl:cn gz 40 40=cJ (bV l) behind:=by rw[hgz];rfl
   rw[hgl]at ho
   refine .inr ⟨.inl ?_,by omega,⟨by omega,fun c hc=>by rw[hk71 c (by omega),hk c (by omega),hx14.get c hc]⟩,.inl ⟨hP,v8,rfl,ho.mono (by omega)⟩⟩
   rcases ho with⟨_,h0⟩ |⟨b,cs,rfl,_⟩
   ·have:=congrArg List.length h0
    unfold cJ at this
    rw[cy]at this
    simp at this
   ·simp[aR,bD,eV,bP,cF]
 obtain⟨rv,m',b,hc,rfl,h1,h2⟩:=key
 exact⟨rv,m',hc,h1,h2⟩
end Go.Proofs.YtmdfgncoekfgdaaGreatDoor
