/- What is known beforehand of the .. -/
import Derived.Test.YtmdfgncoekfgdaaGreatDoorSnJ
import Derived.Test.YtmdfgncoekfgdaaGreatDoorG4J
import Derived.Test.YtmdfgncoekfgdaaGreatDoorG10J
noncomputable section
namespace Go.Proofs.YtmdfgncoekfgdaaGreatDoor
open Go Go.D Go.Proofs
def nP:aG:=λfn args m=>
 match fn with
 |.func f=>
  bif Nat.beq f 8 then
   match args with
   |[]=>bif Nat.blt 2 m.n then some (.bool true,m)else none
   |_=>none
  else none
 |_=>none
theorem Kb:cQ Tryz.prog nP:=by
 refine⟨λf args m v m' F σ w args' hs hl=>?_,λl args m v m' F=>by simp[nP]at F,λf args m v m' F=>?_,λa m v m' b F=>by have e:nP (.func tP) [.pointer (some a)] m=none:=rfl;rw[e]at F;cases F⟩
 ·unfold nP at F
  dsimp only at F
  cases hf:Nat.beq f 8 with
  |false=>rw[hf]at F;simp at F
  |true=>
   obtain rfl:=aab hf
   rw[hf]at F
   simp only[cond_true]at F
   cases args with
   |cons _ _=>cases F
   |nil=>
    dsimp only at F
    cases hn:Nat.blt 2 m.n with
    |false=>rw[hn]at F;cases F
    |true=>
     rw[hn]at F;simp only[cond_true,aae,aaG]at F;obtain⟨rfl,rfl⟩:=F;have b0:Tryz.prog.globals.size=3:=by kernel_rfl
     have e0:∀g,g < 3->σ g=some ⟨g,none⟩:=λg hg=>hs.jE g (by rw[b0];exact hg)
     have dead:∀b,(M.get {st:=.e,n:=3,low:=3} b)=.dead:=λb=>by unfold M.get;cases Nat.blt b 3 <;>rfl
     have g0:dY Tryz.prog (λb=>if b < 3 then some ⟨b,none⟩else none) {st:=.e,n:=3,low:=3} w:=by
      refine⟨λb i H=>?_,λb i H=>?_,λb i H=>?_,λb b' i i' H i0 hd=>?_,λg hg=>?_⟩
      ·by_cases h:b < 3;·exact h
       rw[aaa h]at H;cases H
      ·rw[dead];trivial
      ·by_cases h:b < 3
       ·rw[aaf h]at H;cases H;exact hs.lt b _ (e0 b h)
       rw[aaa h]at H;cases H
      ·exact absurd (dead b) hd
      rw[b0]at hg;rw[aaf hg]
     have a0:args'= #[]:=by have:=hl.nil_eq;simpa using this
     subst a0;refine⟨?_,enters_of Tryz.func8 (by kernel_rfl) rfl _ _⟩;obtain⟨nr,d0⟩:=qL.run;have hc:=rV ag.ok qL.VS d0 g0 (args':= #[]) bC.nil;refine(callsIn_wide.2 hc).mono λe w' he=>?_;obtain⟨v',j0,rfl,hv,W⟩:=he;have h0:=hv.aU rfl;subst h0;refine⟨aeh,σ,rfl,.flat _ rfl,Ev.kept hs (λB hB=>W.heap B hB λb i H _=>?_) W.hle W.os W.tape W.output⟩;by_cases h:b < 3;·exact h
     rw[aaa h]at H;cases H
 ·unfold nP at F
  cases f with
  |func f=>
   dsimp only at F;rw[cond_eq_ite]at F;split at F
   ·split at F
    ·rw[cond_eq_ite]at F;split at F;·cases F;exact LK.refl
     cases F
    cases F
   cases F
  |_=>cases F
theorem qU{f:Nat}(h:Nat.beq f 8=false)(args:aee)(m:M):nP (.func f) args m=none:=by simp only[nP,h,cond_false]
theorem Du(m:M)(h:2 < m.n):nP (.func 8) [] m=some (aeh,m):=by
 have F:Nat.beq 8 8=true:=rfl;have H:Nat.blt 2 m.n=true:=by rw[abZ];exact h
 simp only[nP,F,H,cond_true]
abbrev Rl:PG:=⟨362,6,87⟩
abbrev Rm:PG:=⟨280,5,89⟩
theorem pn{N:PG}{f:Nat}(h:Nat.beq f N.S=false)(args:aee)(m:M):pD N (.func f) args m=none:=by unfold pD;dsimp only;rw[h,cond_false]
theorem wm{N:Ui}{f:Nat}(h:Nat.beq f N.S=false)(args:aee)(m:M):oh N (.func f) args m=none:=by unfold oh;dsimp only;rw[h,cond_false]
abbrev Qh:aG:=CU nP (CU (pD Rl) (CU (pD Rm) (oh Eb)))
abbrev XQ:aG:=CU Qh (PT Qh)
theorem Nn:cQ Tryz.prog Qh:=vK Kb (vK (FB Tryz.Rj rfl) (vK (FB Tryz.Rk rfl) (Lm Tryz.OO rfl)))
theorem VQ:cQ Tryz.prog XQ:=vK Nn (JV ag.ok Nn KH KJ rfl FP rfl)
theorem kL{X Y:aG}{f:Fn}{args:aee}{m:M}(h:X f args m=none):CU X Y f args m=Y f args m:=by unfold CU;rw[h]
theorem kp{X Y:aG}{f:Fn}{args:aee}{m:M}(h:Y f args m=none):CU X Y f args m=X f args m:=by
 unfold CU
 cases F:X f args m with
 |none=>exact h
 |some r=>rfl
theorem FZ{f:Nat}(F:Nat.beq f 8=false)(H:Nat.beq f 362=false)(W:Nat.beq f 280=false)(h4:Nat.beq f 365=false)(args:aee)(m:M):Qh (.func f) args m=none:=
 nU (qU F args m) (nU (pn H args m) (nU (pn W args m) (wm h4 args m)))
theorem No:cV Qh:=⟨λf F args m=>by
 simp only[abQ]at F
 obtain⟨⟨⟨⟨⟨⟨⟨⟨⟨⟨⟨H, -⟩, -⟩, -⟩, -⟩, -⟩, -⟩, -⟩,W⟩,h3⟩,h4⟩, -⟩:=F
 exact FZ H W h3 h4 args m⟩
theorem VR:cV XQ:=⟨λf F args m=>by
 have H:=No.no f F args m
 simp only[abQ]at F
 exact nU H (iq F.2 args m)⟩
theorem AB:me Qh where
 un args m:=(kL (qU rfl args m)).trans (kp (nU (pn rfl args m) (wm rfl args m)))
 jL args m:=(kL (qU rfl args m)).trans ((kL (pn rfl args m)).trans (kp (wm rfl args m)))
theorem TK:me XQ where
 un args m:=(kp (iq rfl args m)).trans (AB.un args m)
 jL args m:=(kp (iq rfl args m)).trans (AB.jL args m)
theorem Ga:qM Qh where
 grow args m:=(kL (qU rfl args m)).trans ((kL (pn rfl args m)).trans (kL (pn rfl args m)))
theorem TL:qM XQ where
 grow args m:=(kp (iq rfl args m)).trans (Ga.grow args m)
theorem TJ:PC XQ:=⟨Qh,No,AB,Ga,λargs m=>kL (FZ rfl rfl rfl rfl args m)⟩
theorem PB(m:M)(h:2 < m.n):C XQ (.func 8) [] m m.n aeh m:=
 Cl.known (λl=>by
  have:=Du (m.wl l) h
  refine(kp (iq rfl _ _)).trans ?_
  show CU nP _ _ _ _=_
  unfold CU
  rw[this]) (Ξ _) ⟨_,rfl⟩
end Go.Proofs.YtmdfgncoekfgdaaGreatDoor
