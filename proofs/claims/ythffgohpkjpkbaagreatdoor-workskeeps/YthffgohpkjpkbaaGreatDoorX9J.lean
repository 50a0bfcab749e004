/- What is known for the laws of .. -/
import Derived.Test.YthffgohpkjpkbaaGreatDoorSeJ
import Derived.Test.YthffgohpkjpkbaaGreatDoorLdJ
import Derived.Test.YthffgohpkjpkbaaGreatDoorG18J
set_option maxHeartbeats 1000000
set_option linter.defProp false
noncomputable section
namespace Go.Proofs.YthffgohpkjpkbaaGreatDoor
open Go Go.D Go.Proofs
variable{f:Nat}{m:M}
def Dj.M0_get(b:Nat):(b=0/\M0.get b=.ro Oo)\/(b=1/\M0.get b=.ro IN)\/(b=5/\M0.get b=.ro powC)\/M0.get b=.dead:=by by_cases h:b<10;(match b,h with|0,_=>exact .inl ⟨rfl,bv⟩|1,_=>exact .inr (.inl ⟨rfl,bv⟩)|5,_=>exact .inr (.inr (.inl ⟨rfl,bv⟩))|2,_|3,_|4,_|6,_|7,_|8,_|9,_=>exact .inr (.inr (.inr bv))|k+10,h=>exact absurd h Z);refine .inr (.inr (.inr ?_));unfold M.get;rw[show Nat.blt b M0.n=false from by cases e:Nat.blt b M0.n with|false=>rfl|true=>exact absurd (by rw[TB]at e;exact e) h];rfl
def CH{σ τ:Sg}{i:BI}{w:World}{l:ν}(hf:l.all bL)(h:Holds σ i w (.ro l)):Holds τ i w (.ro l):=by have⟨h0,c,e,fz,h1,h2,h3⟩:=h;refine⟨h0,c,e,fz,h1,h2,λj u u' hu F ho=>?_⟩;have H:=SB.1 hf u (QP hu);rw[(h3 j u u' hu F ho).bJ H];exact .flat _ H
open Classical in
def sq:aF:=λfn args m=>
 match fn with
 |.func f=>
  bif Nat.beq f 6 then
   match args with
   |[]=>if ry m then some (.bool true,m)else none
   |_=>none
  else none
 |_=>none
def ac5:cP Tryz.prog sq:=by refine⟨λf args m v m' F σ w args' hs hl=>?_,λl args m v m' F=>by simp[sq]at F,λf args m v m' F=>?_,λa m v m' b F=>by have e:sq (.func Ds) [.pointer (some a)] m=none:=rfl;grind⟩;unfold sq at F;dsimp only at F;(cases hf:Nat.beq f 6 with|false=>rw[hf]at F;simp at F|true=>obtain rfl:=L6 hf;rw[hf]at F;simp only[gc]at F;split at F;split at F;rename_i hT;(cases F;have i0:Tryz.prog.globals.size=10:=bv;have e0:∀g,g<10->σ g=some ⟨g,none⟩:=λg hg=>hs.mI g J;have g0:eW Tryz.prog (λb=>if b<10 then some ⟨b,none⟩else none) Dj.M0 w:=(by refine⟨λb i hb=>?_,λb i hb=>?_,λb i hb=>?_,λb b' i i' hb j0 hd=>?_,λg hg=>?_⟩;show b<10;grind;have k0:b<10:=J;have hi:σ b=some i:=J;have ho:=hs.obj b i hi;rcases Dj.M0_get b with⟨rfl,e⟩|⟨rfl,e⟩|⟨rfl,e⟩|e;rw[e];rw[hT.w]at ho;exact CH rfl ho;rw[e];rw[hT.s]at ho;exact CH rfl ho;rw[e];rw[hT.p]at ho;exact CH rfl ho;rw[e];trivial;by_cases h:b<10;rw[UG h]at hb;cases hb;exact hs.lt b _ (e0 b h);grind;grind;grind);have b0:args'= #[]:=(by have:=hl.nil_eq;grind);subst b0;refine⟨?_,enters_of Tryz.func6 bv rfl _ _⟩;have⟨nr,d0⟩:=Dj.run;have hc:=ye ai.ok SX_ok d0 g0 (args':= #[]) bK.nil;refine(callsIn_wide.2 hc).mono λe w' he=>?_;obtain⟨v',l0,rfl,hv,H⟩:=he;have h0:=hv.bJ rfl;subst h0;refine⟨VT,σ,rfl,.flat _ rfl,Ev.kept hs (λB hB=>H.heap B hB λb i hb _=>?_) H.hle H.os H.tape H.output⟩;show b<10;grind);cases F;cases F);unfold sq at F;cases f with|func f=>dsimp only at F;rw[cond_eq_ite]at F;split at F;split at F;split at F;cases F;exact LK.refl;cases F;cases F;cases F|_=>cases F
def pS(h:Nat.beq f 6=false)(args:ν)(m:M):sq (.func f) args m=none:=by simp only[sq,h,I2]
def aaW(h:ry m):sq (.func 6) [] m=some (VT,m):=by have F:Nat.beq 6 6:=rfl;simp only[sq,F,gc,UG h]
def dQ{N:Ok}(h:Nat.beq f N.S=false)(args:ν)(m:M):lH N (.func f) args m=none:=by unfold lH;grind
abbrev XQ0:aF:=Cc sq XI
abbrev XQ:aF:=Cc XQ0 (Wi XQ0)
def Tl:cP Tryz.prog XQ0:=mF ac5 WM
def XQ_ok:cP Tryz.prog XQ:=mF Tl (PJ ai.ok Tl aes QT rfl Lx rfl)
def eV{X wt:aF}{f:Fn}{args:ν}(h:X f args m=none):Cc X wt f args m=wt f args m:=by unfold Cc;rw[h]
def iE{X wt:aF}{f:Fn}{args:ν}(h:wt f args m=none):Cc X wt f args m=X f args m:=by unfold Cc;cases F:X f args m with|none=>exact h|some r=>rfl
def Gx(F:Nat.beq f 6=false)(H:Nat.beq f Cz.S=false)(h2:Nat.beq f CD.S=false)(h3:Nat.beq f CE.S=false)(h4:Nat.beq f CF.S=false)(h5:Nat.beq f CC.S=false)(args:ν)(m:M):XQ0 (.func f) args m=none:=
 gH (pS F args m) (gH (dQ H args m) (gH (dQ h2 args m) (gH (dQ h3 args m) (gH (dQ h4 args m) (dQ h5 args m)))))
def Tm:cp XQ0:=⟨λf F args m=>by simp only[UP]at F;exact Gx J J J J J J args m⟩
def WL:cp XQ:=⟨λf F args m=>by have H:=Tm.no f F args m;simp only[UP]at F;exact gH H (fS J args m)⟩
def XI_un(args:ν)(m:M):XI (.func Cz.S) args m=lH Cz (.func Cz.S) args m:=iE (gH (dQ rfl args m) (gH (dQ rfl args m) (gH (dQ rfl args m) (dQ rfl args m))))
def XI_mk(args:ν)(m:M):XI (.func CD.S) args m=lH CD (.func CD.S) args m:=(eV (dQ rfl args m)).trans (iE (gH (dQ rfl args m) (gH (dQ rfl args m) (dQ rfl args m))))
def XI_kp(args:ν)(m:M):XI (.func CE.S) args m=lH CE (.func CE.S) args m:=(eV (dQ rfl args m)).trans ((eV (dQ rfl args m)).trans (iE (gH (dQ rfl args m) (dQ rfl args m))))
def XI_fc(args:ν)(m:M):XI (.func CF.S) args m=lH CF (.func CF.S) args m:=(eV (dQ rfl args m)).trans ((eV (dQ rfl args m)).trans ((eV (dQ rfl args m)).trans (iE (dQ rfl args m))))
def XI_mo(args:ν)(m:M):XI (.func CC.S) args m=lH CC (.func CC.S) args m:=(eV (dQ rfl args m)).trans ((eV (dQ rfl args m)).trans ((eV (dQ rfl args m)).trans (eV (dQ rfl args m))))
def Gy:rC XQ0:=⟨λargs m=>(eV (pS rfl args m)).trans (XI_un args m),λargs m=>(eV (pS rfl args m)).trans (XI_mk args m)⟩
def aap:rC XQ:=⟨λargs m=>(iE (fS rfl args m)).trans (Gy.un args m),λargs m=>(iE (fS rfl args m)).trans (Gy.oN args m)⟩
def V3:E1 XQ:=⟨λargs m=>(iE (fS rfl args m)).trans ((eV (pS rfl args m)).trans (XI_kp args m)),λargs m=>(iE (fS rfl args m)).trans ((eV (pS rfl args m)).trans (XI_fc args m)),λargs m=>(iE (fS rfl args m)).trans ((eV (pS rfl args m)).trans (XI_mo args m))⟩
def aao:Di XQ:=Ue WL λargs m=>gH (Gx rfl rfl rfl rfl rfl rfl args m) (fS rfl args m)
def aan:N6 XQ:=⟨XQ0,Tm,Gy,λargs m=>eV (Gx rfl rfl rfl rfl rfl rfl args m)⟩
def ael(h:ry m):C XQ (.func 6) [] m m.n VT m:=
 Cl.known (λl=>by have:=aaW (m:=m.wl l) ⟨h.w,h.s,h.p⟩;refine(iE (fS rfl _ _)).trans ?_;show Cc sq _ _ _ _=_;unfold Cc;grind) (R8 _) ⟨_,rfl⟩
