/- What is known for the laws of .. -/
import Derived.Test.YtjpegplpgihmdaaGreatDoorSeJ
import Derived.Test.YtjpegplpgihmdaaGreatDoorLdJ
import Derived.Test.YtjpegplpgihmdaaGreatDoorG18J
set_option maxHeartbeats 1000000
set_option linter.defProp false
noncomputable section
namespace Go.Proofs.YtjpegplpgihmdaaGreatDoor
open Go Go.D Go.Proofs
variable{f:Nat}{m:M}
def CL.ZA(b:Nat):(b=0/\M0.get b=.ro NH)\/(b=1/\M0.get b=.ro Ig)\/(b=5/\M0.get b=.ro powC)\/M0.get b=.dead:=by by_cases h:b<10;(match b,h with|0,_=>exact .inl ⟨rfl,bv⟩|1,_=>exact .inr (.inl ⟨rfl,bv⟩)|5,_=>exact .inr (.inr (.inl ⟨rfl,bv⟩))|2,_|3,_|4,_|6,_|7,_|8,_|9,_=>exact .inr (.inr (.inr bv))|k+10,h=>exact absurd h ac);refine .inr (.inr (.inr ?_));unfold M.get;rw[show Nat.blt b M0.n=false from by cases e:Nat.blt b M0.n with|false=>rfl|true=>exact absurd (by rw[T4]at e;exact e) h];rfl
def B7{σ τ:Sg}{i:BI}{w:World}{l:ν}(hf:l.all bN)(h:Holds σ i w (.ro l)):Holds τ i w (.ro l):=by have⟨h0,c,e,fz,h1,h2,h3⟩:=h;refine⟨h0,c,e,fz,h1,h2,λj u u' hu F ho=>?_⟩;have H:=Jo.1 hf u (Vb hu);rw[(h3 j u u' hu F ho).bK H];exact .flat _ H
open Classical in
def rH:aF:=λfn args m=>
 match fn with
 |.func f=>
  bif Nat.beq f 4 then
   match args with
   |[]=>if qP m then some (.bool true,m)else none
   |_=>none
  else none
 |_=>none
def aeV:cM Tryz.prog rH:=by refine⟨λf args m v m' F σ w args' hs hl=>?_,λl args m v m' F=>by simp[rH]at F,λf args m v m' F=>?_,λa m v m' b F=>by have e:rH (.func CU) [.pointer (some a)] m=none:=rfl;grind⟩;unfold rH at F;dsimp only at F;(cases hf:Nat.beq f 4 with|false=>rw[hf]at F;simp at F|true=>obtain rfl:=NN hf;rw[hf]at F;simp only[gc]at F;split at F;split at F;rename_i hT;(cases F;have i0:Tryz.prog.globals.size=10:=bv;have e0:∀g,g<10->σ g=some ⟨g,none⟩:=λg hg=>hs.mA g be;have g0:eU Tryz.prog (λb=>if b<10 then some ⟨b,none⟩else none) CL.M0 w:=(by refine⟨λb i hb=>?_,λb i hb=>?_,λb i hb=>?_,λb b' i i' hb j0 hd=>?_,λg hg=>?_⟩;show b<10;grind;have k0:b<10:=be;have hi:σ b=some i:=be;have ho:=hs.obj b i hi;rcases CL.ZA b with⟨rfl,e⟩|⟨rfl,e⟩|⟨rfl,e⟩|e;rw[e];rw[hT.w]at ho;exact B7 rfl ho;rw[e];rw[hT.s]at ho;exact B7 rfl ho;rw[e];rw[hT.p]at ho;exact B7 rfl ho;rw[e];trivial;by_cases h:b<10;rw[F6 h]at hb;cases hb;exact hs.lt b _ (e0 b h);grind;grind;grind);have b0:args'= #[]:=(by have:=hl.nil_eq;grind);subst b0;refine⟨?_,enters_of Tryz.func4 bv rfl _ _⟩;have⟨nr,d0⟩:=CL.run;have hc:=wX ai.ok SX_ok d0 g0 (args':= #[]) bL.nil;refine(callsIn_wide.2 hc).mono λe w' he=>?_;obtain⟨v',l0,rfl,hv,H⟩:=he;have h0:=hv.bK rfl;subst h0;refine⟨HT,σ,rfl,.flat _ rfl,Ev.kept hs (λB hB=>H.heap B hB λb i hb _=>?_) H.hle H.os H.tape H.output⟩;show b<10;grind);cases F;cases F);unfold rH at F;cases f with|func f=>dsimp only at F;rw[cond_eq_ite]at F;split at F;split at F;split at F;cases F;exact LK.refl;cases F;cases F;cases F|_=>cases F
def pC(h:Nat.beq f 4=false)(args:ν)(m:M):rH (.func f) args m=none:=by simp only[rH,h,sI]
def aes(h:qP m):rH (.func 4) [] m=some (HT,m):=by have F:Nat.beq 4 4:=rfl;simp only[rH,F,gc,F6 h]
def dO{N:NC}(h:Nat.beq f N.S=false)(args:ν)(m:M):lz N (.func f) args m=none:=by unfold lz;grind
abbrev Zw:aF:=Bw rH XI
abbrev XQ:aF:=Bw Zw (Vp Zw)
def Sy:cM Tryz.prog Zw:=my aeV VQ
def XQ_ok:cM Tryz.prog XQ:=my Sy (OT ai.ok Sy ae1 Qc rfl KQ rfl)
def eT{X Y:aF}{f:Fn}{args:ν}(h:X f args m=none):Bw X Y f args m=Y f args m:=by unfold Bw;rw[h]
def iD{X Y:aF}{f:Fn}{args:ν}(h:Y f args m=none):Bw X Y f args m=X f args m:=by unfold Bw;cases F:X f args m with|none=>exact h|some r=>rfl
def FU(F:Nat.beq f 4=false)(H:Nat.beq f BR.S=false)(h2:Nat.beq f BV.S=false)(h3:Nat.beq f BW.S=false)(h4:Nat.beq f BX.S=false)(h5:Nat.beq f BU.S=false)(args:ν)(m:M):Zw (.func f) args m=none:=
 gH (pC F args m) (gH (dO H args m) (gH (dO h2 args m) (gH (dO h3 args m) (gH (dO h4 args m) (dO h5 args m)))))
def Sz:cp Zw:=⟨λf F args m=>by simp only[Mp]at F;exact FU be be be be be be args m⟩
def VP:cp XQ:=⟨λf F args m=>by have H:=Sz.no f F args m;simp only[Mp]at F;exact gH H (fR be args m)⟩
def XI_un(args:ν)(m:M):XI (.func BR.S) args m=lz BR (.func BR.S) args m:=iD (gH (dO rfl args m) (gH (dO rfl args m) (gH (dO rfl args m) (dO rfl args m))))
def XI_mk(args:ν)(m:M):XI (.func BV.S) args m=lz BV (.func BV.S) args m:=(eT (dO rfl args m)).trans (iD (gH (dO rfl args m) (gH (dO rfl args m) (dO rfl args m))))
def XI_kp(args:ν)(m:M):XI (.func BW.S) args m=lz BW (.func BW.S) args m:=(eT (dO rfl args m)).trans ((eT (dO rfl args m)).trans (iD (gH (dO rfl args m) (dO rfl args m))))
def XI_fc(args:ν)(m:M):XI (.func BX.S) args m=lz BX (.func BX.S) args m:=(eT (dO rfl args m)).trans ((eT (dO rfl args m)).trans ((eT (dO rfl args m)).trans (iD (dO rfl args m))))
def XI_mo(args:ν)(m:M):XI (.func BU.S) args m=lz BU (.func BU.S) args m:=(eT (dO rfl args m)).trans ((eT (dO rfl args m)).trans ((eT (dO rfl args m)).trans (eT (dO rfl args m))))
def FV:qU Zw:=⟨λargs m=>(eT (pC rfl args m)).trans (XI_un args m),λargs m=>(eT (pC rfl args m)).trans (XI_mk args m)⟩
def abI:qU XQ:=⟨λargs m=>(iD (fR rfl args m)).trans (FV.un args m),λargs m=>(iD (fR rfl args m)).trans (FV.oB args m)⟩
def abK:Ep XQ:=⟨λargs m=>(iD (fR rfl args m)).trans ((eT (pC rfl args m)).trans (XI_kp args m)),λargs m=>(iD (fR rfl args m)).trans ((eT (pC rfl args m)).trans (XI_fc args m)),λargs m=>(iD (fR rfl args m)).trans ((eT (pC rfl args m)).trans (XI_mo args m))⟩
def acH:CK XQ:=Tl VP λargs m=>gH (FU rfl rfl rfl rfl rfl rfl args m) (fR rfl args m)
def Zt:Nr XQ:=⟨Zw,Sz,FV,λargs m=>eT (FU rfl rfl rfl rfl rfl rfl args m)⟩
def Va(h:qP m):C XQ (.func 4) [] m m.n HT m:=
 Cl.known (λl=>by have:=aes (m:=m.wl l) ⟨h.w,h.s,h.p⟩;refine(iD (fR rfl _ _)).trans ?_;show Bw rH _ _ _ _=_;unfold Bw;grind) (ID _) ⟨_,rfl⟩
