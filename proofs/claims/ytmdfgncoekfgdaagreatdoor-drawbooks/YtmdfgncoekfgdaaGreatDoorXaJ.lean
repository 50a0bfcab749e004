/- What is known beforehand of the laws: sane(). -/
import Derived.Test.YtmdfgncoekfgdaaGreatDoorSnJ
import Derived.Test.YtmdfgncoekfgdaaGreatDoorG7J
namespace Go.Proofs.YtmdfgncoekfgdaaGreatDoor
open Go Go.D Go.Proofs
noncomputable def jP:aF:=fun fn args m=>
 match fn with
 |.func f=>
  bif Nat.beq f 8 then
   match args with
   |[]=>bif Nat.blt 2 m.n then some (.bool true,m)else none
   |_=>none
  else none
 |_=>none
theorem Ha:cB Tryz.prog jP:=by
 refine⟨fun f args m v m' hx σ w args' hs hl=>?_,fun l args m v m' hx=>by simp[jP]at hx,fun f args m v m' hx=>?_,fun a m v m' b hx=>by
  have e:jP (.func uk) [.pointer (some a)] m=none:=rfl
  rw[e]at hx
  cases hx⟩
 ·unfold jP at hx
  dsimp only at hx
  cases hf:Nat.beq f 8 with
  |false=>rw[hf]at hx;simp at hx
  |true=>
   obtain rfl:=Nat.eq_of_beq_eq_true hf
   rw[hf]at hx
   simp only[cond_true]at hx
   cases args with
   |cons _ _=>cases hx
   |nil=>
    dsimp only at hx
    cases hn:Nat.blt 2 m.n with
    |false=>rw[hn]at hx;cases hx
    |true=>
     rw[hn]at hx
     simp only[cond_true,Option.some.injEq,Prod.mk.injEq]at hx
     obtain⟨rfl,rfl⟩:=hx
     have hgs:Tryz.prog.globals.size=3:=by kernel_rfl
     have hg0:∀g,g < 3->σ g=some ⟨g,none⟩:=fun g hg=>hs.iG g (by rw[hgs];exact hg)
     have dead:∀b,(M.get {st:=.e,n:=3,low:=3} b)=.dead:=fun b=>by
      unfold M.get
      cases Nat.blt b 3 <;>rfl
     have hs0:dB Tryz.prog (fun b=>if b < 3 then some ⟨b,none⟩else none) {st:=.e,n:=3,low:=3} w:=by
      refine⟨fun b i hb=>?_,fun b i hb=>?_,fun b i hb=>?_,fun b b' i i' hb hb' hd=>?_,fun g hg=>?_⟩
      ·by_cases h:b < 3
       ·exact h
       ·rw[if_neg h]at hb;cases hb
      ·rw[dead];trivial
      ·by_cases h:b < 3
       ·rw[if_pos h]at hb
        cases hb
        exact hs.lt b _ (hg0 b h)
       ·rw[if_neg h]at hb;cases hb
      ·exact absurd (dead b) hd
      ·rw[hgs]at hg
       rw[if_pos hg]
     have hargs:args'= #[]:=by
      have:=hl.nil_eq
      simpa using this
     subst hargs
     refine⟨?_,enters_of Tryz.func8 (by kernel_rfl) rfl _ _⟩
     obtain⟨nr,hrun⟩:=mn.run
     have hc:=pJ af.ok mn.QW hrun hs0 (args':= #[]) aT.nil
     refine(callsIn_wide.2 hc).mono fun e w' he=>?_
     obtain⟨v',σ',rfl,hv,hev⟩:=he
     have hv':=hv.aK rfl
     subst hv'
     refine⟨.bool true,σ,rfl,.flat _ rfl,Ev.kept hs (fun B hB=>hev.heap B hB fun b i hb _=>?_) hev.hle hev.os hev.tape hev.output⟩
     by_cases h:b < 3
     ·exact h
     ·rw[if_neg h]at hb;cases hb
 ·unfold jP at hx
  cases f with
  |func f=>
   dsimp only at hx
   rw[cond_eq_ite]at hx
   split at hx
   ·split at hx
    ·rw[cond_eq_ite]at hx
     split at hx
     ·cases hx;exact LK.refl
     ·cases hx
    ·cases hx
   ·cases hx
  |_=>cases hx
theorem oH{f:Nat}(h:Nat.beq f 8=false)(args:List Value)(m:M):jP (.func f) args m=none:=by
 simp only[jP,h,cond_false]
theorem AA(m:M)(h:2 < m.n):jP (.func 8) [] m=some (.bool true,m):=by
 have h9:Nat.beq 8 8=true:=rfl
 have hn:Nat.blt 2 m.n=true:=by rw[Nat.blt_eq];exact h
 simp only[jP,h9,hn,cond_true]
end Go.Proofs.YtmdfgncoekfgdaaGreatDoor
