/- What is known for the laws of .. -/
import Derived.Test.YthffgohpkjpkbaaGreatDoorSeJ
import Derived.Test.YthffgohpkjpkbaaGreatDoorLdJ
import Derived.Test.YthffgohpkjpkbaaGreatDoorG18J
set_option maxHeartbeats 1000000
set_option linter.defProp false
noncomputable section
namespace Go.Proofs.YthffgohpkjpkbaaGreatDoor
open Go Go.D Go.Proofs
variable{f:Nat}{m:M}
def C2.Z2(b:Nat):(b=0/\M0.get b=.ro N6)\/(b=1/\M0.get b=.ro Iv)\/(b=5/\M0.get b=.ro powC)\/M0.get b=.dead:=by by_cases h:b<10;(match b,h with|0,_=>exact .inl ⟨rfl,bv⟩|1,_=>exact .inr (.inl ⟨rfl,bv⟩)|5,_=>exact .inr (.inr (.inl ⟨rfl,bv⟩))|2,_|3,_|4,_|6,_|7,_|8,_|9,_=>exact .inr (.inr (.inr bv))|k+10,h=>exact absurd h ac);refine .inr (.inr (.inr ?_));unfold M.get;rw[show Nat.blt b M0.n=false from by cases e:Nat.blt b M0.n with|false=>rfl|true=>exact absurd (by rw[IK]at e;exact e) h];rfl
def Co{σ τ:Sg}{i:BI}{w:World}{l:Ω}(hf:l.all bO)(h:Holds σ i w (.ro l)):Holds τ i w (.ro l):=by have⟨h0,c,e,fz,h1,h2,h3⟩:=h;refine⟨h0,c,e,fz,h1,h2,λj u u' hu F ho=>?_⟩;have H:=RT.1 hf u (Jc hu);rw[(h3 j u u' hu F ho).bJ H];exact .flat _ H
open Classical in
def rX:aF:=λfn args m=>
 match fn with
 |.func f=>
  bif Nat.beq f 6 then
   match args with
   |[]=>if rn m then some (.bool true,m)else none
   |_=>none
  else none
 |_=>none
def adK:cP Tryz.prog rX:=by refine⟨λf args m v m' F σ w args' hs hl=>?_,λl args m v m' F=>by simp[rX]at F,λf args m v m' F=>?_,λa m v m' b F=>by have e:rX (.func Da) [.pointer (some a)] m=none:=rfl;grind⟩;unfold rX at F;dsimp only at F;(cases hf:Nat.beq f 6 with|false=>rw[hf]at F;simp at F|true=>obtain rfl:=VA hf;rw[hf]at F;simp only[gc]at F;split at F;split at F;rename_i hT;(cases F;have i0:Tryz.prog.globals.size=10:=bv;have e0:∀g,g<10->σ g=some ⟨g,none⟩:=λg hg=>hs.mK g be;have g0:eW Tryz.prog (λb=>if b<10 then some ⟨b,none⟩else none) C2.M0 w:=(by refine⟨λb i hb=>?_,λb i hb=>?_,λb i hb=>?_,λb b' i i' hb j0 hd=>?_,λg hg=>?_⟩;show b<10;grind;have k0:b<10:=be;have hi:σ b=some i:=be;have ho:=hs.obj b i hi;rcases C2.Z2 b with⟨rfl,e⟩|⟨rfl,e⟩|⟨rfl,e⟩|e;rw[e];rw[hT.w]at ho;exact Co rfl ho;rw[e];rw[hT.s]at ho;exact Co rfl ho;rw[e];rw[hT.p]at ho;exact Co rfl ho;rw[e];trivial;by_cases h:b<10;rw[QL h]at hb;cases hb;exact hs.lt b _ (e0 b h);grind;grind;grind);have b0:args'= #[]:=(by have:=hl.nil_eq;grind);subst b0;refine⟨?_,enters_of Tryz.func6 bv rfl _ _⟩;have⟨nr,d0⟩:=C2.run;have hc:=xO ai.ok SX_ok d0 g0 (args':= #[]) bK.nil;refine(callsIn_wide.2 hc).mono λe w' he=>?_;obtain⟨v',l0,rfl,hv,H⟩:=he;have h0:=hv.bJ rfl;subst h0;refine⟨WB,σ,rfl,.flat _ rfl,Ev.kept hs (λB hB=>H.heap B hB λb i hb _=>?_) H.hle H.os H.tape H.output⟩;show b<10;grind);cases F;cases F);unfold rX at F;cases f with|func f=>dsimp only at F;rw[cond_eq_ite]at F;split at F;split at F;split at F;cases F;exact LK.refl;cases F;cases F;cases F|_=>cases F
def pU(h:Nat.beq f 6=false)(args:Ω)(m:M):rX (.func f) args m=none:=by simp only[rX,h,JC]
def atG(h:rn m):rX (.func 6) [] m=some (WB,m):=by have F:Nat.beq 6 6:=rfl;simp only[rX,F,gc,QL h]
def dR{N:N3}(h:Nat.beq f N.S=false)(args:Ω)(m:M):lH N (.func f) args m=none:=by unfold lH;grind
abbrev ZY:aF:=BM rX XI
abbrev XQ:aF:=BM ZY (VT ZY)
def S3:cP Tryz.prog ZY:=mI adK Wl
def XQ_ok:cP Tryz.prog XQ:=mI S3 (Pq ai.ok S3 acE QB rfl Lh rfl)
def eV{X Y:aF}{f:Fn}{args:Ω}(h:X f args m=none):BM X Y f args m=Y f args m:=by unfold BM;rw[h]
def iI{X Y:aF}{f:Fn}{args:Ω}(h:Y f args m=none):BM X Y f args m=X f args m:=by unfold BM;cases F:X f args m with|none=>exact h|some r=>rfl
def Gd(F:Nat.beq f 6=false)(H:Nat.beq f Cf.S=false)(h2:Nat.beq f Cj.S=false)(h3:Nat.beq f Ck.S=false)(h4:Nat.beq f Cm.S=false)(h5:Nat.beq f Ci.S=false)(args:Ω)(m:M):ZY (.func f) args m=none:=
 gW (pU F args m) (gW (dR H args m) (gW (dR h2 args m) (gW (dR h3 args m) (gW (dR h4 args m) (dR h5 args m)))))
def S4:cy ZY:=⟨λf F args m=>by simp only[Pz]at F;exact Gd be be be be be be args m⟩
def Wk:cy XQ:=⟨λf F args m=>by have H:=S4.no f F args m;simp only[Pz]at F;exact gW H (fR be args m)⟩
def XI_un(args:Ω)(m:M):XI (.func Cf.S) args m=lH Cf (.func Cf.S) args m:=iI (gW (dR rfl args m) (gW (dR rfl args m) (gW (dR rfl args m) (dR rfl args m))))
def XI_mk(args:Ω)(m:M):XI (.func Cj.S) args m=lH Cj (.func Cj.S) args m:=(eV (dR rfl args m)).trans (iI (gW (dR rfl args m) (gW (dR rfl args m) (dR rfl args m))))
def XI_kp(args:Ω)(m:M):XI (.func Ck.S) args m=lH Ck (.func Ck.S) args m:=(eV (dR rfl args m)).trans ((eV (dR rfl args m)).trans (iI (gW (dR rfl args m) (dR rfl args m))))
def XI_fc(args:Ω)(m:M):XI (.func Cm.S) args m=lH Cm (.func Cm.S) args m:=(eV (dR rfl args m)).trans ((eV (dR rfl args m)).trans ((eV (dR rfl args m)).trans (iI (dR rfl args m))))
def XI_mo(args:Ω)(m:M):XI (.func Ci.S) args m=lH Ci (.func Ci.S) args m:=(eV (dR rfl args m)).trans ((eV (dR rfl args m)).trans ((eV (dR rfl args m)).trans (eV (dR rfl args m))))
def Ge:rz ZY:=⟨λargs m=>(eV (pU rfl args m)).trans (XI_un args m),λargs m=>(eV (pU rfl args m)).trans (XI_mk args m)⟩
def aaL:rz XQ:=⟨λargs m=>(iI (fR rfl args m)).trans (Ge.un args m),λargs m=>(iI (fR rfl args m)).trans (Ge.oG args m)⟩
def VF:EI XQ:=⟨λargs m=>(iI (fR rfl args m)).trans ((eV (pU rfl args m)).trans (XI_kp args m)),λargs m=>(iI (fR rfl args m)).trans ((eV (pU rfl args m)).trans (XI_fc args m)),λargs m=>(iI (fR rfl args m)).trans ((eV (pU rfl args m)).trans (XI_mo args m))⟩
def ZW:C1 XQ:=TR Wk λargs m=>gW (Gd rfl rfl rfl rfl rfl rfl args m) (fR rfl args m)
def abF:NS XQ:=⟨ZY,S4,Ge,λargs m=>eV (Gd rfl rfl rfl rfl rfl rfl args m)⟩
def VE(h:rn m):C XQ (.func 6) [] m m.n WB m:=
 Cl.known (λl=>by have:=atG (m:=m.wl l) ⟨h.w,h.s,h.p⟩;refine(iI (fR rfl _ _)).trans ?_;show BM rX _ _ _ _=_;unfold BM;grind) (Aj _) ⟨_,rfl⟩
